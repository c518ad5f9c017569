/- Texts SmSn SmKw LSSniff PSmellSniff SSmellSniff. -/
import Derived.Test.YtkcomnkgdifboaaGreatDoorJ25
import Derived.Test.YtkcomnkgdifboaaGreatDoorAFactA
import Derived.Test.YtkcomnkgdifboaaGreatDoorAFactSB
import Derived.Test.YtkcomnkgdifboaaGreatDoorAFactSC
set_option linter.defProp false
set_option linter.unusedSimpArgs false
set_option linter.unusedVariables false
set_option maxRecDepth 100000
set_option maxHeartbeats 2000000
section
namespace Go.Proofs.YtkcomnkgdifboaaGreatDoor
open Go Go.X
def withS (s : Sm) (n : Ns) : Sm := ⟨s.places, s.doors, s.hampers, s.noses ++ [n]⟩
theorem withS_ok {s : Sm} (ok : SmOk s) {n : Ns} (hn : NsOk s.places n) (hl : s.noses.length < 4) : SmOk (withS s n) :=
 ⟨ok.p0, ok.p1, ok.dl, ok.dk, ok.h0, ok.h1, ok.hk, ok.hd, by simp [withS]; omega, fun m hm => by
  rcases List.mem_append.1 hm with h | h
  ·exact ok.nk m h
  ·simp only [List.mem_cons, List.not_mem_nil, or_false] at h
   subst h
   exact hn⟩
theorem tr_withS {s : Sm} {n : Ns} {i b : Nat} {ts : List Int} : Tr (withS s n) i b ts ↔ Tr s i b ts /\ n.sm = decide (Avy s i b ts n.pl <= n.hr) := by
 constructor
 ·rintro ⟨h1, h2, h3, h4⟩
  exact ⟨⟨h1, h2, h3, fun m hm => h4 m (List.mem_append_left _ hm)⟩, h4 n (List.mem_append_right _ List.mem_cons_self)⟩
 ·rintro ⟨⟨h1, h2, h3, h4⟩, h5⟩
  refine ⟨h1, h2, h3, fun m hm => ?_⟩
  rcases List.mem_append.1 hm with h | h
  ·exact h4 m h
  ·simp only [List.mem_cons, List.not_mem_nil, or_false] at h
   subst h
   exact h5
theorem count_filter {s s' : Sm} (ok : SmOk s) (ok' : SmOk s') (q : Hint -> Bool) (h : ∀ i b : Nat, (∃ ts, Tr s' i b ts) ↔ ((∃ ts, Tr s i b ts) /\ q (Ayl s (trL s (s.hampers.getD i 0)) (b : Int)) = true)) : Azn s' = cntL q (susp s) := by
 unfold cntL
 have hlen : ((susp s).filter fun x => q x.2.2).length = (((susp s).filter fun x => q x.2.2).map fun x => (x.1, x.2.1)).length := by rw [List.length_map]
 have hnd : (((susp s).filter fun x => q x.2.2).map fun x => (x.1, x.2.1)).Nodup := by
  have h1 := suP_nodup s
  unfold suP List.Nodup at h1
  unfold List.Nodup
  rw [List.pairwise_map] at h1 ⊢
  exact h1.filter _
 have key : ∀ x : Int × Int, x ∈ (((susp s).filter fun x => q x.2.2).map fun x => (x.1, x.2.1)) ↔ x ∈ suP s' := by
  rintro ⟨i, b⟩
  rw [suP_mem ok', List.mem_map]
  constructor
  ·rintro ⟨x, hx, he⟩
   obtain ⟨h1, h2⟩ := List.mem_filter.1 hx
   obtain ⟨j, c, hj, hc, hne, rfl⟩ := (Ajk s x).1 h1
   rw [Prod.mk.injEq] at he
   obtain ⟨rfl, rfl⟩ := he
   refine ⟨by simp only; omega, by simp only; omega, ?_⟩
   rw [Int.toNat_natCast, Int.toNat_natCast]
   exact (h j c).2 ⟨(Akf ok hj hc).1 hne, h2⟩
  ·rintro ⟨h0, h1, h2⟩
   obtain ⟨⟨ts, ht⟩, h3⟩ := (h _ _).1 h2
   refine ⟨_, List.mem_filter.2 ⟨(Ajk s _).2 ⟨i.toNat, b.toNat, ht.i, ht.b, (Akf ok ht.i ht.b).2 ⟨ts, ht⟩, rfl⟩, h3⟩, ?_⟩
   rw [Prod.mk.injEq]
   exact ⟨by simp only; omega, by simp only; omega⟩
 rw [hlen, <- suP_len]
 exact Nat.le_antisymm (Ck4 (suP_nodup s') fun x hx => (key x).2 hx) (Ck4 hnd fun x hx => (key x).1 hx)
theorem comesS_mem {s : Sm} (ok : SmOk s) {i b : Nat} (hi : i < s.hampers.length) (hb : b < 13) {p x : Int} : x ∈ Bz0 s i b p ↔ ∃ ts, Tr s i b ts /\ x = min 99 ((b : Int) + gI (Aq4 s.doors (s.hampers.getD i 0) (pad6 ts)) p) := by
 unfold Bz0
 rw [List.mem_map]
 constructor
 ·rintro ⟨⟨t, c⟩, hm, rfl⟩
  obtain ⟨t', g1, rfl, rfl⟩ := Bzq ok ((Aju s i b t c).2 ⟨hi, hb, hm⟩)
  exact ⟨t', g1, rfl⟩
 ·rintro ⟨ts, ht, rfl⟩
  exact ⟨_, ((Aju s i b _ _).1 (ht.mem ok)).2.2, rfl⟩
theorem sq1_tr {s : Sm} (ok : SmOk s) {i b : Nat} {ts : List Int} (ht : Tr s i b ts) {p hr : Int} (h0 : 0 <= p) (h1 : p < s.places) (hh : hr <= 12) : sq1 p hr (Ayl s (trL s (s.hampers.getD i 0)) (b : Int)) = true ↔ ∃ ts, Tr s i b ts /\ Avy s i b ts p <= hr := by
 have hB := Cq3 s i b h0 h1 ok.p1 ((Akf ok ht.i ht.b).2 ⟨ts, ht⟩)
 unfold sq1
 rw [decide_eq_true_eq, hB.lo_iff]
 constructor
 ·rintro ⟨x, hx, hle⟩
  obtain ⟨t', g1, rfl⟩ := (comesS_mem ok ht.i ht.b).1 hx
  refine ⟨t', g1, ?_⟩
  have := Avm ok g1.i g1.t h0 h1
  have := ht.b
  rw [Avz h0 h1]
  unfold Bx6
  split <;> omega
 ·rintro ⟨t', g1, hle⟩
  refine ⟨_, (comesS_mem ok ht.i ht.b).2 ⟨t', g1, rfl⟩, ?_⟩
  rw [Avz h0 h1] at hle
  unfold Bx6 at hle
  split at hle <;> omega
theorem sq2_tr {s : Sm} (ok : SmOk s) {i b : Nat} {ts : List Int} (ht : Tr s i b ts) {p hr : Int} (h0 : 0 <= p) (h1 : p < s.places) (hh : hr <= 12) : sq2 p hr (Ayl s (trL s (s.hampers.getD i 0)) (b : Int)) = true ↔ ∃ ts, Tr s i b ts /\ hr < Avy s i b ts p := by
 have hB := Cq3 s i b h0 h1 ok.p1 ((Akf ok ht.i ht.b).2 ⟨ts, ht⟩)
 unfold sq2
 rw [decide_eq_true_eq, hB.hi_iff]
 constructor
 ·rintro ⟨x, hx, hle⟩
  obtain ⟨t', g1, rfl⟩ := (comesS_mem ok ht.i ht.b).1 hx
  refine ⟨t', g1, ?_⟩
  have := Avm ok g1.i g1.t h0 h1
  have := ht.b
  rw [Avz h0 h1]
  unfold Bx6
  split <;> omega
 ·rintro ⟨t', g1, hle⟩
  refine ⟨_, (comesS_mem ok ht.i ht.b).2 ⟨t', g1, rfl⟩, ?_⟩
  have := Avm ok g1.i g1.t h0 h1
  have := ht.b
  rw [Avz h0 h1] at hle
  unfold Bx6 at hle
  split at hle <;> omega
theorem count_with {s : Sm} (ok : SmOk s) (hl : s.noses.length < 4) {p hr : Int} (h0 : 0 <= p) (h1 : p < s.places) (hh0 : 0 <= hr) (hh : hr <= 12) : Azn (withS s ⟨p, hr, true⟩) = cntL (sq1 p hr) (susp s) /\ Azn (withS s ⟨p, hr, false⟩) = cntL (sq2 p hr) (susp s) := by
 constructor
 ·refine count_filter ok (withS_ok ok ⟨h0, h1, hh0, hh⟩ hl) _ fun i b => ?_
  constructor
  ·rintro ⟨ts, ht⟩
   obtain ⟨g1, g2⟩ := tr_withS.1 ht
   have g3 : Avy s i b ts p <= hr := by simpa using g2.symm
   exact ⟨⟨ts, g1⟩, (sq1_tr ok g1 h0 h1 hh).2 ⟨ts, g1, g3⟩⟩
  ·rintro ⟨⟨ts, ht⟩, hq⟩
   obtain ⟨t', g1, g2⟩ := (sq1_tr ok ht h0 h1 hh).1 hq
   exact ⟨t', tr_withS.2 ⟨g1, by simpa using g2⟩⟩
 ·refine count_filter ok (withS_ok ok ⟨h0, h1, hh0, hh⟩ hl) _ fun i b => ?_
  constructor
  ·rintro ⟨ts, ht⟩
   obtain ⟨g1, g2⟩ := tr_withS.1 ht
   have g3 : hr < Avy s i b ts p := by simpa using g2.symm
   exact ⟨⟨ts, g1⟩, (sq2_tr ok g1 h0 h1 hh).2 ⟨ts, g1, g3⟩⟩
  ·rintro ⟨⟨ts, ht⟩, hq⟩
   obtain ⟨t', g1, g2⟩ := (sq2_tr ok ht h0 h1 hh).1 hq
   exact ⟨t', tr_withS.2 ⟨g1, by simpa using g2⟩⟩
def y18_150 := And.intro (fun H => Aqv (H := H) (P := Tryz.prog) (h := Tryz.zeroValue28)) (And.intro (fun H => Aqd (H := H) Tryz.underlying28 (i := 3) rfl (off := 3) rfl Tryz.sizeOf26) (And.intro (fun H => Aqg (H := H) Tryz.underlying26 rfl) (And.intro (fun H => Aqp (H := H) Tryz.underlying49 rfl Tryz.sizeOf49) (And.intro (fun H => Awm (H := H) Tryz.underlying26 Tryz.sizeOf49 Tryz.zeroValue49 rfl (by decide) (by decide)) (And.intro (fun H => Azu (H := H) Tryz.sizeOf26) (And.intro (fun H => Aqp (H := H) Tryz.underlying28 rfl Tryz.sizeOf28) (fun H => Aqs (H := H) Tryz.sizeOf28)))))))
theorem append_RowGs {P : Program} {tt e : TypeId} {sz : Nat} {z : Value} {inf : TypeInfo} (hsz : 0 < sz) (hu : P.underlying tt = some (.slice e)) (hs : ∀ w, (sizeOf e).run P w = .ok sz w) (hz : ∀ w, (zeroValue e).run P w = .ok z w) (hzc : z.cells.size = sz)
  (hi : ∀ w, (typeInfo e).run P w = .ok inf w) (hby : inf.bytes <= 1024) (hby0 : 0 < inf.bytes)
  {H : Hp} {v : Value} {rows rows2 : List (List Value)} (h : RowG e sz H v rows) {g : Option Addr} {m cap : Nat} (h2 : SlG e sz H (.slice g m cap) rows2) (hsep : rows2 ≠ [] -> ∀ x o, g = some ⟨x, o, none⟩ -> rowB v ≠ some x) (hone : ∀ r ∈ rows2, ∀ u ∈ r, one u = true) (hn : rows.length + rows2.length <= 1000000) (ty : TypeId) (cb : Array Bool) (K : Next -> Hp -> Prop) (E : Value -> Hp -> Prop)
  (h' : ∀ v' H', RowG e sz H' v' (rows ++ rows2) -> (∀ x u, H x = some u -> rowB v ≠ some x -> H' x = some u) -> (∀ x, rowB v' = some x -> rowB v = some x ∨ H x = none) -> K (.value v') H') :
  wpS P (builtin .append #[tt, tt] ty cb #[v, .slice g m cap]) H K E := by
 have hl2 := h2.len.1
 have hr2 : ∀ r ∈ rows2, (id r : List Value).length = sz := fun r hr => by
  obtain ⟨i, hi⟩ := List.getElem?_of_mem hr
  obtain ⟨_, _, _, _, _, _, _, _, h4, _⟩ := h2.get hi
  exact h4
 have hfl : (rows ++ rows2).flatMap id = rows.flatMap id ++ rows2.flatMap id := by simp
 have hro : ∀ r ∈ rows ++ rows2, r.length = sz := fun r hr => (List.mem_append.1 hr).elim (h.2 r) (hr2 r)
 have hcap := h.slG hsz
 by_cases hm : m = 0
 ·subst hm
  have h0 : rows2 = [] := List.eq_nil_of_length_eq_zero hl2.symm
  subst h0
  obtain ⟨a, cp, rfl⟩ := h.form
  exact Ayv hu hs _ _ _ _ _ _ _ hcap.len.2 _ _ (h' _ H (by rw [List.append_nil]; exact h) (fun _ _ hx _ => hx) fun x hx => .inl hx)
 obtain ⟨⟨gb, go, rfl⟩⟩ : Nonempty (∃ gb go, g = some ⟨gb, go, none⟩) := by
  cases hx : rows2 with
  | nil => rw [hx] at hl2; exact absurd hl2 hm
  | cons r l =>
   obtain ⟨b, o, _, _, _, hh, _⟩ := h2.get (i := 0) (r := r) (by rw [hx]; rfl)
   exact ⟨b, o, hh⟩
 have hfn : (rows2.flatMap id).length = m * sz := by rw [Av0 id sz rows2 hr2, hl2]
 have hcell := SlG.cells hsz h2
 have hw : ∀ u ∈ rows2.flatMap id, one u = true := fun u hm' => by
  obtain ⟨r, hr, hu'⟩ := List.mem_flatMap.1 hm'
  exact hone r hr u hu'
 have hlen : rows.length + m = (rows ++ rows2).length := by rw [List.length_append, hl2]
 obtain ⟨_, hrow⟩ := h.1
 rcases hrow with ⟨rfl, hz0, hc0⟩ | ⟨b, c, cap', hb0, hb, rfl, hcs, hcap', hlen', hget⟩
 ·obtain rfl : rows = [] := List.eq_nil_of_length_eq_zero hz0
  refine Avj (P := P) hu hs hz hzc hi hby hby0 (Aks.nil H e sz) (Hp.le_refl H) (m := m) hfn id hcell hw (by simp at hn; omega) ty cb K E (fun v' H1 H2 hr hl => ?_)
  have hle : H.le H2 := fun x u hx => hl _ _ (hr.le _ _ hx)
  rcases hr with ⟨_, hn0, _⟩ | ⟨b', c', cap'', hb', rfl, rfl, hs', hl', hn', hg'⟩
  ·simp at hn0; exact absurd hn0 hm
  ·refine h' _ H2 ⟨⟨fun _ _ h => (by cases h), .inr ⟨b', c', cap'', rfl, hl _ _ (by rw [Axx, if_pos rfl]), ?_, hs', ?_, ?_, ?_⟩⟩, hro⟩ (fun x u hx _ => hle _ _ hx) fun x hx => ?_
   ·simp only [List.nil_append, Nat.zero_add]; rw [hl2]
   ·simpa [hl2] using hn'
   ·simpa [hl2] using hl'
   ·intro i u hi; exact hg' i u (by simpa using hi)
   ·simp only [rowB, Option.some.injEq] at hx
    subst hx
    exact .inr hb'
 ·have hgb : gb ≠ b := fun e => hsep (fun h => by rw [h] at hl2; exact hm hl2) gb go rfl (by rw [e]; rfl)
  have hD : (fun x => if x = b then none else H x : Hp) b = none := by simp
  have hH : H = Hp.set (fun x => if x = b then none else H x) b (.cells c e (0, 0)) := by
   funext x
   unfold Hp.set
   by_cases e : x = b
   ·subst e; simp [hb]
   ·simp [e]
  refine Avj (P := P) hu hs hz hzc hi hby hby0 (H₀ := fun x => if x = b then none else H x) (H := H) (n := rows.length) (cs := rows.flatMap id) (.inr ⟨b, c, cap', hD, hH, rfl, hcs, hlen', hcap', hget⟩) (Hp.le_refl H) (m := m) hfn (fun hx => by simpa [hgb] using hx) hcell hw (by omega) ty cb K E (fun v' H1 H2 hr hl => ?_)
  have hkeep : ∀ x u, x ≠ b -> H x = some u -> H2 x = some u := fun x u hn hx => hl _ _ (hr.le _ _ (by simp only [hn, if_false]; exact hx))
  rcases hr with ⟨_, hn0, _⟩ | ⟨b', c', cap'', hb', rfl, rfl, hs', hl', hn', hg'⟩
  ·exact absurd hn0 (by omega)
  ·refine h' _ H2 ⟨⟨fun _ _ h => (by cases h), .inr ⟨b', c', cap'', rfl, hl _ _ (by rw [Axx, if_pos rfl]), by rw [hlen], hs', by rw [<- hlen]; exact hn', by rw [hfl, <- hlen]; exact hl', fun i u hi => hg' i u (by rw [<- hfl]; exact hi)⟩⟩, hro⟩ (fun x u hx ho => hkeep x _ (fun e => ho (by rw [e]; rfl)) hx) fun x hx => ?_
   simp only [rowB, Option.some.injEq] at hx
   subst hx
   by_cases e : b' = b
   ·exact .inl (by rw [e]; rfl)
   ·simp only [e, if_false] at hb'; exact .inr hb'
theorem range0 (f : Nat -> Value) (k : Nat) : (Array.range (0 * k)).map f = #[] := by simp
theorem RowG.new0 {e : TypeId} {sz : Nat} {H : Hp} {b : Nat} (h : H b = some (true, .cells #[] e (0, 0))) : RowG e sz H (.slice (some ⟨b, 0, none⟩) 0 0) [] :=
 ⟨⟨(fun _ _ h => by cases h), .inr ⟨b, #[], 0, rfl, h, rfl, by simp, Nat.le_refl _, by simp, fun i u hi => by simp at hi⟩⟩, (fun _ h => by cases h)⟩
theorem slG_one {e : TypeId} {sz : Nat} {H : Hp} {g : Nat} {ws : List Value} (hw : ws.length = sz) (h : H g = some (true, .cells ws.toArray e (0, 0))) : SlG e sz H (.slice (some ⟨g, 0, none⟩) 1 1) [ws] := by
 refine ⟨_, 1, rfl, Nat.le_refl _, fun i r hi => ?_⟩
 have hi0 : i = 0 := by have := (List.getElem?_eq_some_iff.1 hi).1; simp only [List.length_singleton] at this; omega
 subst hi0
 simp only [List.getElem?_cons_zero, Option.some.injEq] at hi
 subst hi
 refine ⟨g, 0, true, _, _, rfl, h, by simp [hw], hw, ?_⟩
 simp [List.take_of_length_le (Nat.le_of_eq hw)]
theorem SlN.one {ns : List Ns} : ∀ r ∈ ns.map Bv0, ∀ u ∈ r, one u = true := fun r hr u hu => by
 obtain ⟨d, _, rfl⟩ := List.mem_map.1 hr
 simp only [Bv0, List.mem_cons, List.not_mem_nil, or_false] at hu
 rcases hu with rfl | rfl | rfl <;> rfl
theorem with_spec (m : Md) (H : Hp) (s : Sm) (dv hv nv : Value) (hs : SmIn H dv hv nv s) (n : Ns) (hl : s.noses.length <= 1000) :
  FnX Tryz.prog m 18 #[smV s.places dv hv nv, .agg #[.int .i64 n.pl, .int .i64 n.hr, .bool n.sm]] H fun e H' => ∃ nv', e = .returned (smV s.places dv hv nv') /\ SmIn H' dv hv nv' (withS s n) /\ H.le H' := by
 obtain ⟨da, dc, ha, kc, na, nc, rfl, rfl, rfl, l1, l2, l3⟩ := hs.forms
 refine Aqm Tryz.func18 rfl Tryz.ntmps18 (by simp) ?_
 (refine @unH _ ?_; refine zA y18_150 ?_; (repeat (refine inC ?_; intro hc)); try (refine inK ?_; intro K hK))
 (intro sb hsb nb hnb rb hrb; replace hrb : (Hp.set (Hp.set _ sb _) nb _) rb = none := hrb; replace hnb : (Hp.set _ sb _) nb = none := hnb; generalize hG : Hp.set _ sb _ = H1 at hnb hrb ⊢; have lH1 := Aqc hG hsb; have wsb := Aqb hG; clear hG; generalize hG : Hp.set _ nb _ = H2 at hrb ⊢; have lH2 := Aqc hG hnb; have wnb := Aqb hG; have nsbnb := Aqr wsb hnb; replace wsb := lH2 _ _ wsb; clear hG; generalize hG : Hp.set _ rb _ = H3; have lH3 := Aqc hG hrb; have vrb := Aqb hG; have vsb := lH3 _ _ wsb; have vnb := lH3 _ _ wnb; have nsbrb := Aqr wsb hrb; have nnbrb := Aqr wnb hrb; clear hG wsb wnb)
 have w1H3 := vsb
 have w2H3 := vnb
 have wrH3 := vrb
 have lbH3 := Hp.le_trans lH1 (Hp.le_trans lH2 lH3)
 have hrb0 : H rb = none := Hp.le_none (Hp.le_trans lH1 lH2) hrb
 have hsb0 : H sb = none := hsb
 have hsrc : s.noses.map Bv0 ≠ [] -> ∀ x o, na = some ⟨x, o, none⟩ -> ∃ u, H x = some u := fun hne x o hx => by
  obtain ⟨r, hr⟩ : ∃ r, (s.noses.map Bv0)[0]? = some r := by
   cases hm : s.noses.map Bv0 with
   | nil => exact absurd hm hne
   | cons r l => exact ⟨r, rfl⟩
  obtain ⟨b, o', q, c, fr, g1, g2, _⟩ := SlG.get hs.nn hr
  rw [hx] at g1
  cases g1
  exact ⟨_, g2⟩
 have hns0 : SlG 49 3 H (.slice na s.noses.length nc) (s.noses.map Bv0) := hs.nn
 have hone := SlN.one (ns := s.noses)
 clear lH1 lH2 lH3 vsb vnb vrb hsb hnb hrb
 refine hK _ _ ?_
 clear hK K
 (try simp only [nq, ↓reduceIte, Nat.reduceEqDiff])
 refine Bjz (fun HX => HX sb = some (true, .cells #[.int .i64 s.places, .slice da s.doors.length dc, .slice ha s.hampers.length kc, .slice na s.noses.length nc] 28 (0, 0)) /\ HX nb = some (true, .cells #[.int .i64 n.pl, .int .i64 n.hr, .bool n.sm] 49 (0, 0))) [6, 8] (.free 1 (.take 2 (.take 4 (.two 0 (.two 3 (.one 5 (.one 6 (.free 7 (.one 8 .nil)))) 5 (.one 3 (.one 6 (.free 7 (.one 8 .nil))))) 5 (.one 0 (.one 3 (.one 6 (.free 7 (.one 8 .nil))))))))) (by kernel_rfl) (by kernel_rfl) (by decide) (by kernel_rfl) ?_; intro K hK
 refine Ax9 fun ops hOz => ?_
 have hSS := And.intro w1H3 w2H3
 have htail : ∀ (e : Nat -> Value) (Hc : Hp) (v : Value), e 2 = .pointer (some ⟨sb, 0, none⟩) -> e 4 = .pointer (some ⟨rb, 0, none⟩) -> e 11 = v -> Hc sb = some (true, .cells #[.int .i64 s.places, .slice da s.doors.length dc, .slice ha s.hampers.length kc, .slice na s.noses.length nc] 28 (0, 0)) -> Hc rb = some (true, .cells #[.int .i64 0, .slice none 0 0, .slice none 0 0, .slice none 0 0] 28 (0, 0)) -> RowG 49 3 Hc v (s.noses.map Bv0 ++ [Bv0 n]) -> H.le Hc -> Azr Tryz.prog m none ops.toArray (only K) (fun HX => HX sb = some (true, .cells #[.int .i64 s.places, .slice da s.doors.length dc, .slice ha s.hampers.length kc, .slice na s.noses.length nc] 28 (0, 0)) /\ HX nb = some (true, .cells #[.int .i64 n.pl, .int .i64 n.hr, .bool n.sm] 49 (0, 0))) [6, 8] (.free 7 (.one 8 .nil)) (act 14 e []) Hc := by
  clear hSS w1H3 w2H3 wrH3 lbH3
  intro e Hc v e2 e4 e11 w1 wr r7 lb
  have ho : one v = true := by obtain ⟨_, _, rfl⟩ := r7.form; rfl
  (refine @unH _ ?_; refine zF y18_150 ?_)
  (refine Bq3 hOz rfl rfl ?_; simp -implicitDefEqProofs (disch := first | omega | (simp only [qd] <;> omega)) only [xq, ↓xp, qc, Nat.reduceAdd, List.range, List.range.loop, fine, Nat.reduceEqDiff, ↓reduceIte, yielded, reduceCtorEq, Nat.reduceLT, Nat.reduceMul, Nat.reduceSub, one, Nat.reduceLeDiff, Aqj, y18_150, aq, ↓ap, qe0, qe1, qe2, *, -hK, Azt Tryz.sizeOf26 ho, Ave w1, ho])
  refine ⟨.inl (by decide), ?_⟩
  (refine Ajh (hK _ _ ?_); clear hK K; (try simp only [nq, ↓reduceIte, Nat.reduceEqDiff]))
  have r8 : RowG 49 3 (Hc.set sb (smO s.places (.slice da s.doors.length dc) (.slice ha s.hampers.length kc) v)) v (s.noses.map Bv0 ++ [Bv0 n]) := r7.keep fun x u hx hu => by
   rw [Aqw (r7.bound hx w1 (fun c hc => by simp only [Obj.cells.injEq] at hc; exact absurd hc.2.1 (by decide)))]
   exact hu
  have w8 : (Hc.set sb (smO s.places (.slice da s.doors.length dc) (.slice ha s.hampers.length kc) v)) sb = _ := Axg
  have wr8 : (Hc.set sb (smO s.places (.slice da s.doors.length dc) (.slice ha s.hampers.length kc) v)) rb = _ := (Aqw (Ne.symm nsbrb)).trans wr
  have lb8 := Ajc (o := smO s.places (.slice da s.doors.length dc) (.slice ha s.hampers.length kc) v) lb hsb0
  generalize hG : Hp.set Hc sb _ = H8 at *
  clear hG r7 w1 wr lb ho e11 hOz
  obtain ⟨va, vc, rfl⟩ := r8.form
  (refine @unH _ ?_; refine zA y18_150 ?_; (repeat (refine inC ?_; intro hc)); try (refine inK ?_; intro K hK))
  (refine Axs ?_; (try simp only [nq, ↓reduceIte, Nat.reduceEqDiff]); rw [Aq7, Ax7 Tryz.results18 (by decide) (b := rb) (o := 0) ?hcell Tryz.underlying28 rfl Tryz.sizeOf28]; (case hcell => exact e4); simp -implicitDefEqProofs (disch := first | omega | (simp only [qd] <;> omega)) only [xq, ↓xp, qc, Nat.reduceAdd, List.range, List.range.loop, fine, Nat.reduceEqDiff, ↓reduceIte, yielded, reduceCtorEq, Nat.reduceLT, Nat.reduceMul, Nat.reduceSub, one, Nat.reduceLeDiff, Aqj, y18_150, Axl, List.extract_toArray])
  have hnn := r8.slG (by decide)
  refine ⟨_, rfl, ⟨SlG.put (SlG.le hs.dd lb8) wr8 (by decide) _, SlI.put (SlI.le hs.hh lb8) wr8 (by decide) _, ?_⟩, Ajc lb8 hrb0⟩
  show SlG _ _ _ _ ((s.noses ++ [n]).map Bv0)
  rw [List.map_append]
  exact SlG.put hnn wr8 (by decide) _
 replace hsrc : Aqk _ := hsrc
 replace hone : Aqk _ := hone
 replace hns0 : Aqk _ := hns0
 replace htail : Aqk _ := htail
 (refine @unH _ ?_; refine zF y18_150 ?_)
 (apply Bkz hOz rfl rfl ‹_›; (focus (intro HX hHX; simp -implicitDefEqProofs (disch := first | omega | (simp only [qd] <;> omega)) only [xq, ↓xp, qc, Nat.reduceAdd, List.range, List.range.loop, fine, Nat.reduceEqDiff, ↓reduceIte, yielded, reduceCtorEq, Nat.reduceLT, Nat.reduceMul, Nat.reduceSub, one, Nat.reduceLeDiff, Aqj, y18_150, aq, ↓ap, qe0, qe1, qe2, *, -hK, Aq8, hHX.1, exists_eq_left'] <;> (first | exact rfl | exact ⟨rfl, rfl⟩ | exact ⟨rfl, trivial⟩))); simp -implicitDefEqProofs (disch := first | omega | (simp only [qd] <;> omega)) only [Aq3, Aqn])
 (apply Bkz hOz rfl rfl ‹_›; (focus (intro HX hHX; simp -implicitDefEqProofs (disch := first | omega | (simp only [qd] <;> omega)) only [xq, ↓xp, qc, Nat.reduceAdd, List.range, List.range.loop, fine, Nat.reduceEqDiff, ↓reduceIte, yielded, reduceCtorEq, Nat.reduceLT, Nat.reduceMul, Nat.reduceSub, one, Nat.reduceLeDiff, Aqj, y18_150, aq, ↓ap, qe0, qe1, qe2, *, -hK, Aq8, hHX.2, Aya hHX.2] <;> (first | exact rfl | exact ⟨rfl, rfl⟩ | exact ⟨rfl, trivial⟩))); simp -implicitDefEqProofs (disch := first | omega | (simp only [qd] <;> omega)) only [Aq3, Aqn])
 refine planZ_two hOz rfl rfl rfl rfl ?_ ?_
 ·(refine @unH _ ?_; refine zX y18_150 ?_)
  intro b0 hb0
  generalize hG : Hp.set H3 b0 _ = H4
  have lH4 := Aqc hG hb0
  have vbH4 := Aqb hG
  rw [range0] at vbH4
  have rH4 := RowG.new0 (sz := 3) vbH4
  clear hG
  have b0s := Aqr w1H3 hb0
  have b0n := Aqr w2H3 hb0
  have b0r := Aqr wrH3 hb0
  have b00 := Hp.le_none lbH3 hb0
  have w1H4 := lH4 _ _ w1H3
  have w2H4 := lH4 _ _ w2H3
  have wrH4 := lH4 _ _ wrH3
  have lbH4 := Hp.le_trans lbH3 lH4
  refine ⟨.inr fun _ => (by first | trivial | exact ⟨by first | exact w1H4 | rw [if_neg (by first | exact Aqr w1H3 hg | exact Aqr w1H3 hb0)], by first | exact w2H4 | rw [if_neg (by first | exact Aqr w2H3 hg | exact Aqr w2H3 hb0)]⟩), ?_⟩
  clear hSS
  refine planZ_two hOz rfl rfl rfl rfl ?_ ?_
  ·(refine @unH _ ?_; refine zX y18_150 ?_)
   refine append_RowGs (by decide) Tryz.underlying26 Tryz.sizeOf49 Tryz.zeroValue49 rfl Tryz.typeInfo49 (by decide) (by decide) rH4 (SlG.le hns0 lbH4) (fun hne x o hx h => ?_) hone (by simp only [List.length_nil, List.length_map]; omega) _ _ _ _ (fun v3 H5 rH5 kH5 nH5 => ?_)
   ·obtain ⟨u, hu⟩ := (show s.noses.map Bv0 ≠ [] -> ∀ x o, na = some ⟨x, o, none⟩ -> ∃ u, H x = some u from hsrc) hne x o hx
    simp only [rowB, Option.some.injEq] at h
    rw [<- h, b00] at hu
    cases hu
   have w1H5 := kH5 _ _ w1H4 (fun h => b0s (Option.some.inj h).symm)
   have w2H5 := kH5 _ _ w2H4 (fun h => b0n (Option.some.inj h).symm)
   have wrH5 := kH5 _ _ wrH4 (fun h => b0r (Option.some.inj h).symm)
   have lbH5 : H.le H5 := fun x u hx => kH5 x u (lbH4 _ _ hx) (fun h => by rw [<- Option.some.inj h, b00] at hx; cases hx)
   have nbH5 : ∀ x, rowB v3 = some x -> H x = none := fun x hx => (nH5 x hx).elim (fun h => by rw [<- Option.some.inj h]; exact b00) fun h => Hp.le_none lbH4 h
   rw [List.nil_append] at rH5
   (refine @unH _ ?_; refine zX y18_150 ?_)
   refine ⟨.inr fun _ => (by first | trivial | exact ⟨by first | exact w1H5 | rw [if_neg (by first | exact Aqr w1H4 hg | exact Aqr w1H4 hb0)], by first | exact w2H5 | rw [if_neg (by first | exact Aqr w2H4 hg | exact Aqr w2H4 hb0)]⟩), ?_⟩
   (refine @unH _ ?_; refine zM y18_150 ?_)
   intro g hg
   generalize hG : Hp.set H5 g _ = H6
   have lH6 := Aqc hG hg
   have vgH6 := Aqb hG
   clear hG
   have w1H6 := lH6 _ _ w1H5
   have w2H6 := lH6 _ _ w2H5
   have wrH6 := lH6 _ _ wrH5
   have lbH6 := Hp.le_trans lbH5 lH6
   have r36 : RowG 49 3 H6 v3 (s.noses.map Bv0) := rH5.keep fun x u _ hu => lH6 _ _ hu
   refine ⟨.inr fun _ => (by first | trivial | exact ⟨by first | exact w1H6 | rw [if_neg (by first | exact Aqr w1H5 hg | exact Aqr w1H5 hb0)], by first | exact w2H6 | rw [if_neg (by first | exact Aqr w2H5 hg | exact Aqr w2H5 hb0)]⟩), ?_⟩
   (refine @unH _ ?_; refine zM y18_150 ?_)
   refine append_RowGs (by decide) Tryz.underlying26 Tryz.sizeOf49 Tryz.zeroValue49 rfl Tryz.typeInfo49 (by decide) (by decide) r36 (slG_one (ws := [.int .i64 n.pl, .int .i64 n.hr, .bool n.sm]) rfl vgH6) (fun _ x o hx h => ?_) (SlN.one (ns := [n])) (by simp only [List.length_cons, List.length_nil, List.length_map]; omega) _ _ _ _ (fun v6 H7 rH7 kH7 nH7 => ?_)
   ·simp only [Option.some.injEq, Addr.mk.injEq] at hx
    rw [<- hx.1] at h
    obtain ⟨c, hc⟩ := rH5.cell h
    rw [hg] at hc
    cases hc
   have w1H7 := kH7 _ _ w1H6 (fun h => RowG.bound r36 h w1H6 (fun c hc => by simp only [Obj.cells.injEq] at hc; exact absurd hc.2.1 (by decide)) rfl)
   have wrH7 := kH7 _ _ wrH6 (fun h => RowG.bound r36 h wrH6 (fun c hc => by simp only [Obj.cells.injEq] at hc; exact absurd hc.2.1 (by decide)) rfl)
   have lbH7 : H.le H7 := fun x u hx => kH7 x u (lbH6 _ _ hx) (fun h => by rw [nbH5 x h] at hx; cases hx)
   (refine @unH _ ?_; refine zX y18_150 ?_)
   refine ⟨.inl (by decide), ?_⟩
   exact (show ∀ (e : Nat -> Value) (Hc : Hp) (v : Value), _ -> _ -> _ -> _ -> _ -> _ -> _ -> _ from htail) _ _ _ rfl rfl rfl w1H7 wrH7 rH7 lbH7
  ·(refine @unH _ ?_; refine zX y18_150 ?_)
   intro g hg
   generalize hG : Hp.set H4 g _ = H5
   have lH5 := Aqc hG hg
   have vgH5 := Aqb hG
   clear hG
   have w1H5 := lH5 _ _ w1H4
   have w2H5 := lH5 _ _ w2H4
   have wrH5 := lH5 _ _ wrH4
   have lbH5 := Hp.le_trans lbH4 lH5
   have r35 : RowG 49 3 H5 (.slice (some ⟨b0, 0, none⟩) 0 0) [] := rH4.keep fun x u _ hu => lH5 _ _ hu
   have b0g : b0 ≠ g := fun e => by obtain ⟨c, hc⟩ := rH4.cell (x := b0) rfl; rw [e, hg] at hc; cases hc
   refine ⟨.inr fun _ => (by first | trivial | exact ⟨by first | exact w1H5 | rw [if_neg (by first | exact Aqr w1H4 hg | exact Aqr w1H4 hb0)], by first | exact w2H5 | rw [if_neg (by first | exact Aqr w2H4 hg | exact Aqr w2H4 hb0)]⟩), ?_⟩
   (refine @unH _ ?_; refine zM y18_150 ?_)
   refine append_RowGs (by decide) Tryz.underlying26 Tryz.sizeOf49 Tryz.zeroValue49 rfl Tryz.typeInfo49 (by decide) (by decide) r35 (SlG.le hns0 lbH5) (fun hne x o hx h => ?_) hone (by simp only [List.length_nil, List.length_map]; omega) _ _ _ _ (fun v3 H6 rH6 kH6 nH6 => ?_)
   ·obtain ⟨u, hu⟩ := (show s.noses.map Bv0 ≠ [] -> ∀ x o, na = some ⟨x, o, none⟩ -> ∃ u, H x = some u from hsrc) hne x o hx
    simp only [rowB, Option.some.injEq] at h
    rw [<- h, b00] at hu
    cases hu
   have w1H6 := kH6 _ _ w1H5 (fun h => b0s (Option.some.inj h).symm)
   have w2H6 := kH6 _ _ w2H5 (fun h => b0n (Option.some.inj h).symm)
   have wrH6 := kH6 _ _ wrH5 (fun h => b0r (Option.some.inj h).symm)
   have lbH6 : H.le H6 := fun x u hx => kH6 x u (lbH5 _ _ hx) (fun h => by rw [<- Option.some.inj h, b00] at hx; cases hx)
   have nbH6 : ∀ x, rowB v3 = some x -> H x = none := fun x hx => (nH6 x hx).elim (fun h => by rw [<- Option.some.inj h]; exact b00) fun h => Hp.le_none lbH5 h
   rw [List.nil_append] at rH6
   have vg6 := kH6 _ _ vgH5 (fun h => b0g (Option.some.inj h))
   (refine @unH _ ?_; refine zX y18_150 ?_)
   refine ⟨.inr fun _ => (by first | trivial | exact ⟨by first | exact w1H6 | rw [if_neg (by first | exact Aqr w1H5 hg | exact Aqr w1H5 hb0)], by first | exact w2H6 | rw [if_neg (by first | exact Aqr w2H5 hg | exact Aqr w2H5 hb0)]⟩), ?_⟩
   (refine @unH _ ?_; refine zM y18_150 ?_)
   refine append_RowGs (by decide) Tryz.underlying26 Tryz.sizeOf49 Tryz.zeroValue49 rfl Tryz.typeInfo49 (by decide) (by decide) rH6 (slG_one (ws := [.int .i64 n.pl, .int .i64 n.hr, .bool n.sm]) rfl vg6) (fun _ x o hx h => ?_) (SlN.one (ns := [n])) (by simp only [List.length_cons, List.length_nil, List.length_map]; omega) _ _ _ _ (fun v6 H7 rH7 kH7 nH7 => ?_)
   ·simp only [Option.some.injEq, Addr.mk.injEq] at hx
    rw [<- hx.1] at h
    exact (nH6 _ h).elim (fun h => b0g (Option.some.inj h)) fun h => by rw [vgH5] at h; cases h
   have w1H7 := kH7 _ _ w1H6 (fun h => RowG.bound rH6 h w1H6 (fun c hc => by simp only [Obj.cells.injEq] at hc; exact absurd hc.2.1 (by decide)) rfl)
   have wrH7 := kH7 _ _ wrH6 (fun h => RowG.bound rH6 h wrH6 (fun c hc => by simp only [Obj.cells.injEq] at hc; exact absurd hc.2.1 (by decide)) rfl)
   have lbH7 : H.le H7 := fun x u hx => kH7 x u (lbH6 _ _ hx) (fun h => by rw [nbH6 x h] at hx; cases hx)
   (refine @unH _ ?_; refine zX y18_150 ?_)
   refine ⟨.inl (by decide), ?_⟩
   exact (show ∀ (e : Nat -> Value) (Hc : Hp) (v : Value), _ -> _ -> _ -> _ -> _ -> _ -> _ -> _ from htail) _ _ _ rfl rfl rfl w1H7 wrH7 rH7 lbH7
 ·(refine @unH _ ?_; refine zX y18_150 ?_)
  intro g hg
  generalize hG : Hp.set H3 g _ = H4
  have lH4 := Aqc hG hg
  have vgH4 := Aqb hG
  clear hG
  have w1H4 := lH4 _ _ w1H3
  have w2H4 := lH4 _ _ w2H3
  have wrH4 := lH4 _ _ wrH3
  have lbH4 := Hp.le_trans lbH3 lH4
  refine ⟨.inr fun _ => (by first | trivial | exact ⟨by first | exact w1H4 | rw [if_neg (by first | exact Aqr w1H3 hg | exact Aqr w1H3 hb0)], by first | exact w2H4 | rw [if_neg (by first | exact Aqr w2H3 hg | exact Aqr w2H3 hb0)]⟩), ?_⟩
  clear hSS
  (refine @unH _ ?_; refine zM y18_150 ?_)
  intro b0 hb0
  generalize hG : Hp.set H4 b0 _ = H5
  have lH5 := Aqc hG hb0
  have vbH5 := Aqb hG
  rw [range0] at vbH5
  have rH5 := RowG.new0 (sz := 3) vbH5
  clear hG
  have b0s := Aqr w1H4 hb0
  have b0n := Aqr w2H4 hb0
  have b0r := Aqr wrH4 hb0
  have b00 := Hp.le_none lbH4 hb0
  have w1H5 := lH5 _ _ w1H4
  have w2H5 := lH5 _ _ w2H4
  have wrH5 := lH5 _ _ wrH4
  have lbH5 := Hp.le_trans lbH4 lH5
  have vg5 := lH5 _ _ vgH4
  have b0g := Ne.symm (Aqr vgH4 hb0)
  refine ⟨.inr fun _ => (by first | trivial | exact ⟨by first | exact w1H5 | rw [if_neg (by first | exact Aqr w1H4 hg | exact Aqr w1H4 hb0)], by first | exact w2H5 | rw [if_neg (by first | exact Aqr w2H4 hg | exact Aqr w2H4 hb0)]⟩), ?_⟩
  (refine @unH _ ?_; refine zM y18_150 ?_)
  refine append_RowGs (by decide) Tryz.underlying26 Tryz.sizeOf49 Tryz.zeroValue49 rfl Tryz.typeInfo49 (by decide) (by decide) rH5 (SlG.le hns0 lbH5) (fun hne x o hx h => ?_) hone (by simp only [List.length_nil, List.length_map]; omega) _ _ _ _ (fun v3 H6 rH6 kH6 nH6 => ?_)
  ·obtain ⟨u, hu⟩ := (show s.noses.map Bv0 ≠ [] -> ∀ x o, na = some ⟨x, o, none⟩ -> ∃ u, H x = some u from hsrc) hne x o hx
   simp only [rowB, Option.some.injEq] at h
   rw [<- h, b00] at hu
   cases hu
  have w1H6 := kH6 _ _ w1H5 (fun h => b0s (Option.some.inj h).symm)
  have w2H6 := kH6 _ _ w2H5 (fun h => b0n (Option.some.inj h).symm)
  have wrH6 := kH6 _ _ wrH5 (fun h => b0r (Option.some.inj h).symm)
  have lbH6 : H.le H6 := fun x u hx => kH6 x u (lbH5 _ _ hx) (fun h => by rw [<- Option.some.inj h, b00] at hx; cases hx)
  have nbH6 : ∀ x, rowB v3 = some x -> H x = none := fun x hx => (nH6 x hx).elim (fun h => by rw [<- Option.some.inj h]; exact b00) fun h => Hp.le_none lbH5 h
  rw [List.nil_append] at rH6
  have vg6 := kH6 _ _ vg5 (fun h => b0g (Option.some.inj h))
  (refine @unH _ ?_; refine zX y18_150 ?_)
  refine ⟨.inr fun _ => (by first | trivial | exact ⟨by first | exact w1H6 | rw [if_neg (by first | exact Aqr w1H5 hg | exact Aqr w1H5 hb0)], by first | exact w2H6 | rw [if_neg (by first | exact Aqr w2H5 hg | exact Aqr w2H5 hb0)]⟩), ?_⟩
  (refine @unH _ ?_; refine zM y18_150 ?_)
  refine append_RowGs (by decide) Tryz.underlying26 Tryz.sizeOf49 Tryz.zeroValue49 rfl Tryz.typeInfo49 (by decide) (by decide) rH6 (slG_one (ws := [.int .i64 n.pl, .int .i64 n.hr, .bool n.sm]) rfl vg6) (fun _ x o hx h => ?_) (SlN.one (ns := [n])) (by simp only [List.length_cons, List.length_nil, List.length_map]; omega) _ _ _ _ (fun v6 H7 rH7 kH7 nH7 => ?_)
  ·simp only [Option.some.injEq, Addr.mk.injEq] at hx
   rw [<- hx.1] at h
   exact (nH6 _ h).elim (fun h => b0g (Option.some.inj h)) fun h => by rw [vg5] at h; cases h
  have w1H7 := kH7 _ _ w1H6 (fun h => RowG.bound rH6 h w1H6 (fun c hc => by simp only [Obj.cells.injEq] at hc; exact absurd hc.2.1 (by decide)) rfl)
  have wrH7 := kH7 _ _ wrH6 (fun h => RowG.bound rH6 h wrH6 (fun c hc => by simp only [Obj.cells.injEq] at hc; exact absurd hc.2.1 (by decide)) rfl)
  have lbH7 : H.le H7 := fun x u hx => kH7 x u (lbH6 _ _ hx) (fun h => by rw [nbH6 x h] at hx; cases hx)
  (refine @unH _ ?_; refine zX y18_150 ?_)
  refine ⟨.inl (by decide), ?_⟩
  exact (show ∀ (e : Nat -> Value) (Hc : Hp) (v : Value), _ -> _ -> _ -> _ -> _ -> _ -> _ -> _ from htail) _ _ _ rfl rfl rfl w1H7 wrH7 rH7 lbH7
def y4_153 := And.intro @callF9 (And.intro @callF10 (And.intro (fun H => Aqv (H := H) (P := Tryz.prog) (h := Tryz.zeroValue28)) (And.intro (fun H => Aqs (H := H) Tryz.sizeOf28) (And.intro @Bxd (And.intro (fun H => Aqp (H := H) Tryz.underlying28 rfl Tryz.sizeOf28) (And.intro @Djm (And.intro @Djn (And.intro (fun H => Aqd (H := H) Tryz.underlying28 (i := 0) rfl (off := 0) rfl Tryz.sizeOf3) (And.intro (fun H => Aqg (H := H) Tryz.underlying3 rfl) (And.intro @Cvy (And.intro @callF18 (And.intro @Bvz @callF14))))))))))))
theorem lssniff_spec (H : Hp) (sa : Option Addr) (sl sc : Nat) (hs : ∀ i : Nat, i < sl -> ∃ sb so c e fr x, sa = some ⟨sb, so, none⟩ /\ H sb = some (false, .cells c e fr) /\ c[so + i]? = some (.int .i64 x)) :
  FnX Tryz.prog (.wg Tryz.prog) 4 #[.slice sa sl sc] H fun e _ => e = .returned (.bool true) := by
 refine Aqm Tryz.func4 rfl Tryz.ntmps4 (by simp) ?_
 (refine @unH _ ?_; refine zA y4_153 ?_; (repeat (refine inC ?_; intro hc)); try (refine inK ?_; intro K hK))
 refine (newTin_spec _ H sa sl sc hs 240 (by omega)).runs.mono ?_
 rintro _ H1 ⟨tb, rfl, l1, hT⟩
 ((try (refine @unH _ ?_; refine zX y4_153 ?_)); (try (refine hK _ _ ?_; clear hK K; (try simp only [nq, ↓reduceIte, Nat.reduceEqDiff]))); refine @unH _ ?_; refine zA y4_153 ?_; (repeat (refine inC ?_; intro hc)); try (refine inK ?_; intro K hK))
 refine (smellOf_spec _ H1 tb 180 3 true (by omega) (by omega) hT).runs.mono ?_
 rintro _ H2 ⟨s, dv, hv, nv, cv, i, hr, ts, rfl, hs2, ok, hp5, hdl, hnl, hil, hr12, htk, hcv, htr, lex2, hT2⟩
 clear hT hs l1 lex2
 obtain ⟨da, dc, ha, kc, na, nc, rfl, rfl, rfl, l1, l2, l3⟩ := hs2.forms
 have htr := htr rfl
 ((try (refine @unH _ ?_; refine zX y4_153 ?_)); (try (refine hK _ _ ?_; clear hK K; (try simp only [nq, ↓reduceIte, Nat.reduceEqDiff]))); refine @unH _ ?_; refine zA y4_153 ?_; (repeat (refine inC ?_; intro hc)); try (refine inK ?_; intro K hK))
 (intro sb hsb; generalize hG : Hp.set _ sb _ = H3; have lH3 := Aqc hG hsb; have vsb := Aqb hG; clear hG)
 have hs3 := hs2.le lH3
 have hT3 := hT2.le lH3
 have hsn := hT2.ne hsb
 clear hs2 lH3 hsb hT2 hcv htk hdl
 ((try (refine @unH _ ?_; refine zX y4_153 ?_)); (try (refine hK _ _ ?_; clear hK K; (try simp only [nq, ↓reduceIte, Nat.reduceEqDiff]))); refine @unH _ ?_; refine zA y4_153 ?_; (repeat (refine inC ?_; intro hc)); try (refine inK ?_; intro K hK))
 refine (Bkd _ H3 tb 179 12 (by omega) hT3).runs.mono ?_
 rintro _ H4 ⟨h, h0, h12, rfl, x4, hT4⟩
 have hs4 : SmIn H4 (.slice da s.doors.length dc) (.slice ha s.hampers.length kc) (.slice na s.noses.length nc) s := ⟨SlG.lexT hs3.dd hT3 (by decide) x4, hs3.hh.lex x4 hT3, SlG.lexT hs3.nn hT3 (by decide) x4⟩
 have vsb4 := x4.keeps vsb hsn
 have hh : 0 <= h /\ h <= 12 := by omega
 have hbg := Cvq ok htr (ps := []) (fun p hp => by cases hp) hh.1 hh.2
 have hsE : snE s h = if (snS (susp s) h (Azn s) s.places.toNat).1 < 0 then (0, 0, 11) else ((snS (susp s) h (Azn s) s.places.toNat).1, ((snS (susp s) h (Azn s) s.places.toNat).2 : Int), 0) := by
  unfold snE
  rw [if_pos hbg]
 clear hs3 hT3 x4 hT4 hsn vsb h0 h12 hbg hil hr12
 replace hsE : Aqk _ := hsE
 replace htr : Aqk _ := htr
 ((try (refine @unH _ ?_; refine zX y4_153 ?_)); (try (refine hK _ _ ?_; clear hK K; (try simp only [nq, ↓reduceIte, Nat.reduceEqDiff]))); refine @unH _ ?_; refine zA y4_153 ?_; (repeat (refine inC ?_; intro hc)); try (refine inK ?_; intro K hK))
 refine (Cxq H4 s _ _ _ hs4 ok h).runs.mono ?_
 rintro _ H5 ⟨rfl, l45⟩
 have hs5 := hs4.le l45
 have vsb5 := l45 _ _ vsb4
 clear hs4 vsb4 l45
 ((try (refine @unH _ ?_; refine zX y4_153 ?_)); (try (refine hK _ _ ?_; clear hK K; (try simp only [nq, ↓reduceIte, Nat.reduceEqDiff]))); refine @unH _ ?_; refine zA y4_153 ?_; (repeat (refine inC ?_; intro hc)); try (refine inK ?_; intro K hK))
 refine (Cxl H5 s _ _ _ hs5 ok).runs.mono ?_
 rintro _ H6 ⟨rfl, l56⟩
 have hs6 := hs5.le l56
 have vsb6 := l56 _ _ vsb5
 clear hs5 vsb5 l56
 ((try (refine @unH _ ?_; refine zX y4_153 ?_)); (try (refine hK _ _ ?_; clear hK K; (try simp only [nq, ↓reduceIte, Nat.reduceEqDiff]))); refine @unH _ ?_; refine zA y4_153 ?_; (repeat (refine inC ?_; intro hc)); try (refine inK ?_; intro K hK))
 have hp0 := ok.p0
 have hp1 := ok.p1
 refine Axe (fun w a' H' => ∃ e, ∃ p : Nat, w = s.places.toNat - p /\ (p : Int) <= s.places /\ a' = act 114 e [] /\ e 4 = .pointer (some ⟨sb, 0, none⟩) /\ e 8 = .int .i64 h /\ e 9 = .int .i64 (snE s h).1 /\ e 10 = .int .i64 (snE s h).2.1 /\ e 11 = .int .i64 (snE s h).2.2 /\ e 12 = .int .i64 ((snS (susp s) h (Azn s) p).2 : Nat) /\ e 14 = .int .i64 (snS (susp s) h (Azn s) p).1 /\ e 15 = .int .i64 (p : Nat) /\ H6.le H') (n := s.places.toNat) ?_ ?_
 ·exact ⟨_, 0, by omega, by omega, rfl, rfl, rfl, rfl, rfl, rfl, rfl, rfl, rfl, Hp.le_refl _⟩
 rintro w a' H8 ⟨e, p, rfl, hp, rfl, e4, e8, e9, e10, e11, e12, e14, e15, lbH8⟩
 have vsbH8 := lbH8 _ _ vsb6
 by_cases hlt : (p : Int) < s.places
 ·have hsH8 := hs6.le lbH8
  obtain ⟨hcwtrue, hcwfalse⟩ := count_with ok (by omega) (p := (p : Int)) (by omega) hlt hh.1 hh.2
  have hst : snS (susp s) h (Azn s) (p + 1) = if snW (susp s) h p < (snS (susp s) h (Azn s) p).2 then ((p : Int), snW (susp s) h p) else snS (susp s) h (Azn s) p := rfl
  have hsw : snW (susp s) h p = max (cntL (sq1 p h) (susp s)) (cntL (sq2 p h) (susp s)) := rfl
  generalize hSp : snS (susp s) h (Azn s) p = SP at *
  generalize cntL (sq1 p h) (susp s) = A at *
  generalize cntL (sq2 p h) (susp s) = B at *
  obtain ⟨s1, s2⟩ := SP
  simp only at e12 e14 hst
  rw [hsw] at hst
  replace hst : Aqk _ := hst
  clear hsw hSp
  replace hcwtrue : Aqk _ := hcwtrue
  replace hcwfalse : Aqk _ := hcwfalse
  generalize hz1 : (snE s h).1 = z1 at *
  generalize hz2 : (snE s h).2.1 = z2 at *
  generalize hz3 : (snE s h).2.2 = z3 at *
  clear hz1 hz2 hz3
  (refine @unH _ ?_; refine zA y4_153 ?_; (repeat (refine inC ?_; intro hc)); try (refine inK ?_; intro K hK))
  refine Axn (fun HX => HX sb = some (true, smO s.places (.slice da s.doors.length dc) (.slice ha s.hampers.length kc) (.slice na s.noses.length nc))) [4, 5] (.take 0 (.free 1 (.free 2 (.one 3 (.one 4 (.one 5 (.free 6 (.free 7 (.free 8 (.free 9 (.free 10 .nil))))))))))) (by kernel_rfl) (by kernel_rfl) (by decide) (by kernel_rfl) ?_; intro K hK
  refine Ax9 fun ops hOz => ?_
  (refine @unH _ ?_; refine zK y4_153 ?_)
  (iterate 2 (refine @unH _ ?_; refine zF y4_153 ?_))
  (refine @unH _ ?_; refine zM y4_153 ?_)
  refine (Ayf _ H8 p h true).runs.mono ?_
  rintro _ H9 ⟨rfl, lH9⟩
  simp -implicitDefEqProofs (disch := omega) only [Azx, Aq3, Aqn]
  refine ⟨.inr fun _ => (by first | trivial | exact lH9 _ _ vsbH8), ?_⟩
  (refine @unH _ ?_; refine zM y4_153 ?_)
  refine (with_spec _ H9 s _ _ _ (hsH8.le lH9) ⟨p, h, true⟩ (by omega)).runs.mono ?_
  rintro _ H10 ⟨nw, rfl, hw, lH10⟩
  simp -implicitDefEqProofs (disch := omega) only [Azx, Aq3, Aqn]
  refine ⟨.inl (by decide), ?_⟩
  (refine @unH _ ?_; refine zM y4_153 ?_)
  refine (Cxl H10 (withS s ⟨p, h, true⟩) _ _ _ hw (withS_ok ok ⟨by simp only; omega, hlt, hh.1, hh.2⟩ (by omega))).runs.mono ?_
  rintro _ H11 ⟨rfl, lH11⟩
  rw [show Azn (withS s ⟨p, h, true⟩) = A from hcwtrue]
  have hsH11 := ((hsH8.le lH9).le lH10).le lH11
  have vsbH11 := lH11 _ _ (lH10 _ _ (lH9 _ _ vsbH8))
  have lbH11 := Hp.le_trans lbH8 (Hp.le_trans lH9 (Hp.le_trans lH10 lH11))
  clear hw lH9 lH10 lH11 hsH8 vsbH8 lbH8
  simp -implicitDefEqProofs (disch := omega) only [Azx, Aq3, Aqn]
  refine ⟨.inl (by decide), ?_⟩
  (iterate 5 (refine @unH _ ?_; refine zF y4_153 ?_))
  (refine Ajh (hK _ _ ?_); clear hK K; (try simp only [nq, ↓reduceIte, Nat.reduceEqDiff]))
  (refine @unH _ ?_; refine zA y4_153 ?_; (repeat (refine inC ?_; intro hc)); try (refine inK ?_; intro K hK))
  refine Axn (fun HX => HX sb = some (true, smO s.places (.slice da s.doors.length dc) (.slice ha s.hampers.length kc) (.slice na s.noses.length nc))) [4, 5] (.take 0 (.free 1 (.free 2 (.one 3 (.one 4 (.one 5 (.free 6 (.free 7 (.free 8 (.free 9 (.free 10 .nil))))))))))) (by kernel_rfl) (by kernel_rfl) (by decide) (by kernel_rfl) ?_; intro K hK
  refine Ax9 fun ops hOz => ?_
  (refine @unH _ ?_; refine zK y4_153 ?_)
  (iterate 2 (refine @unH _ ?_; refine zF y4_153 ?_))
  (refine @unH _ ?_; refine zM y4_153 ?_)
  refine (Ayf _ H11 p h false).runs.mono ?_
  rintro _ H12 ⟨rfl, lH12⟩
  simp -implicitDefEqProofs (disch := omega) only [Azx, Aq3, Aqn]
  refine ⟨.inr fun _ => (by first | trivial | exact lH12 _ _ vsbH11), ?_⟩
  (refine @unH _ ?_; refine zM y4_153 ?_)
  refine (with_spec _ H12 s _ _ _ (hsH11.le lH12) ⟨p, h, false⟩ (by omega)).runs.mono ?_
  rintro _ H13 ⟨nw, rfl, hw, lH13⟩
  simp -implicitDefEqProofs (disch := omega) only [Azx, Aq3, Aqn]
  refine ⟨.inl (by decide), ?_⟩
  (refine @unH _ ?_; refine zM y4_153 ?_)
  refine (Cxl H13 (withS s ⟨p, h, false⟩) _ _ _ hw (withS_ok ok ⟨by simp only; omega, hlt, hh.1, hh.2⟩ (by omega))).runs.mono ?_
  rintro _ H14 ⟨rfl, lH14⟩
  rw [show Azn (withS s ⟨p, h, false⟩) = B from hcwfalse]
  have hsH14 := ((hsH11.le lH12).le lH13).le lH14
  have vsbH14 := lH14 _ _ (lH13 _ _ (lH12 _ _ vsbH11))
  have lbH14 := Hp.le_trans lbH11 (Hp.le_trans lH12 (Hp.le_trans lH13 lH14))
  clear hw lH12 lH13 lH14 hsH11 vsbH11 lbH11
  simp -implicitDefEqProofs (disch := omega) only [Azx, Aq3, Aqn]
  refine ⟨.inl (by decide), ?_⟩
  (iterate 5 (refine @unH _ ?_; refine zF y4_153 ?_))
  (refine Ajh (hK _ _ ?_); clear hK K; (try simp only [nq, ↓reduceIte, Nat.reduceEqDiff]))
  by_cases hAB : (A : Int) < B
  ·have hM : max A B = B := by omega
   have hst' : snS (susp s) h (Azn s) (p + 1) = if B < s2 then ((p : Int), B) else (s1, s2) := by rw [show snS (susp s) h (Azn s) (p + 1) = _ from hst, hM]
   clear hst hM
   replace hst' : Aqk _ := hst'
   by_cases hlw : (B : Int) < s2
   ·have hst2 : Aqk (snS (susp s) h (Azn s) (p + 1) = ((p : Int), B)) := Eq.trans hst' (if_pos (by omega))
    (refine @unH _ ?_; refine zA y4_153 ?_; (repeat (refine inC ?_; intro hc)); try (refine inK ?_; intro K hK))
    exact ⟨s.places.toNat - (p + 1), by omega, _, p + 1, rfl, by omega, rfl, e4, e8, e9, e10, e11, by rw [show snS (susp s) h (Azn s) (p + 1) = _ from hst2]; rfl, by rw [show snS (susp s) h (Azn s) (p + 1) = _ from hst2]; rfl, rfl, lbH14⟩
   ·have hst2 : Aqk (snS (susp s) h (Azn s) (p + 1) = (s1, s2)) := Eq.trans hst' (if_neg (by omega))
    (refine @unH _ ?_; refine zA y4_153 ?_; (repeat (refine inC ?_; intro hc)); try (refine inK ?_; intro K hK))
    exact ⟨s.places.toNat - (p + 1), by omega, _, p + 1, rfl, by omega, rfl, e4, e8, e9, e10, e11, by rw [show snS (susp s) h (Azn s) (p + 1) = _ from hst2]; exact e12, by rw [show snS (susp s) h (Azn s) (p + 1) = _ from hst2]; exact e14, rfl, lbH14⟩
  ·have hM : max A B = A := by omega
   have hst' : snS (susp s) h (Azn s) (p + 1) = if A < s2 then ((p : Int), A) else (s1, s2) := by rw [show snS (susp s) h (Azn s) (p + 1) = _ from hst, hM]
   clear hst hM
   replace hst' : Aqk _ := hst'
   by_cases hlw : (A : Int) < s2
   ·have hst2 : Aqk (snS (susp s) h (Azn s) (p + 1) = ((p : Int), A)) := Eq.trans hst' (if_pos (by omega))
    (refine @unH _ ?_; refine zA y4_153 ?_; (repeat (refine inC ?_; intro hc)); try (refine inK ?_; intro K hK))
    exact ⟨s.places.toNat - (p + 1), by omega, _, p + 1, rfl, by omega, rfl, e4, e8, e9, e10, e11, by rw [show snS (susp s) h (Azn s) (p + 1) = _ from hst2]; rfl, by rw [show snS (susp s) h (Azn s) (p + 1) = _ from hst2]; rfl, rfl, lbH14⟩
   ·have hst2 : Aqk (snS (susp s) h (Azn s) (p + 1) = (s1, s2)) := Eq.trans hst' (if_neg (by omega))
    (refine @unH _ ?_; refine zA y4_153 ?_; (repeat (refine inC ?_; intro hc)); try (refine inK ?_; intro K hK))
    exact ⟨s.places.toNat - (p + 1), by omega, _, p + 1, rfl, by omega, rfl, e4, e8, e9, e10, e11, by rw [show snS (susp s) h (Azn s) (p + 1) = _ from hst2]; exact e12, by rw [show snS (susp s) h (Azn s) (p + 1) = _ from hst2]; exact e14, rfl, lbH14⟩
 ·obtain rfl : s.places.toNat = p := by omega
  have hsE' : snE s h = _ := hsE
  rw [hsE'] at e9 e10 e11
  clear hsE hsE'
  generalize snS (susp s) h (Azn s) s.places.toNat = SP at *
  obtain ⟨s1, s2⟩ := SP
  simp only at e9 e10 e11 e12 e14
  by_cases hneg : s1 < 0
  ·rw [if_pos hneg] at e9 e10 e11
   simp only at e9 e10 e11
   refine Bva (fun e => e 4 = .pointer (some ⟨sb, 0, none⟩) /\ e 9 = .int .i64 0 /\ e 10 = .int .i64 0 /\ e 11 = .int .i64 11 /\ e 14 = .int .i64 s1 /\ e 15 = .int .i64 (s.places.toNat : Nat)) ⟨e4, e9, e10, e11, e14, e15⟩ ?_
   clear e4 e8 e9 e10 e11 e12 e14 e15
   rename_i eold
   clear eold
   rintro e ⟨e4, e9, e10, e11, e14, e15⟩
   (refine @unH _ ?_; refine zA y4_153 ?_; (repeat (refine inC ?_; intro hc)); try (refine inK ?_; intro K hK))
   refine (smelled_spec H8).runs.mono ?_
   rintro _ H9 ⟨rfl, l9⟩
   ((try (refine @unH _ ?_; refine zX y4_153 ?_)); (try (refine hK _ _ ?_; clear hK K; (try simp only [nq, ↓reduceIte, Nat.reduceEqDiff]))); refine @unH _ ?_; refine zA y4_153 ?_; (repeat (refine inC ?_; intro hc)); try (refine inK ?_; intro K hK))
   (refine Axs ?_; (try simp only [nq, ↓reduceIte, Nat.reduceEqDiff]); rw [Aq7, Ay9 Tryz.results4 (by decide)]; simp only [Axk, Nat.reduceEqDiff, ↓reduceIte])
  ·rw [if_neg hneg] at e9 e10 e11
   simp only at e9 e10 e11
   (refine @unH _ ?_; refine zA y4_153 ?_; (repeat (refine inC ?_; intro hc)); try (refine inK ?_; intro K hK))
   refine (smelled_spec H8).runs.mono ?_
   rintro _ H9 ⟨rfl, l9⟩
   ((try (refine @unH _ ?_; refine zX y4_153 ?_)); (try (refine hK _ _ ?_; clear hK K; (try simp only [nq, ↓reduceIte, Nat.reduceEqDiff]))); refine @unH _ ?_; refine zA y4_153 ?_; (repeat (refine inC ?_; intro hc)); try (refine inK ?_; intro K hK))
   (refine Axs ?_; (try simp only [nq, ↓reduceIte, Nat.reduceEqDiff]); rw [Aq7, Ay9 Tryz.results4 (by decide)]; simp only [Axk, Nat.reduceEqDiff, ↓reduceIte])
end Go.Proofs.YtkcomnkgdifboaaGreatDoor
end
section
namespace Go.Proofs.YtkcomnkgdifboaaGreatDoor
open Go Go.X Go.ChangeShapes Go.WideShapes Go.RowKit
set_option maxRecDepth 100000 in
theorem law_lifted (os : Os) (started : os.Started) (H : Type) (enc : TypeId × Value -> H) :
  ReturnsInLeavingWide {} Tryz.checked os 4 .any (fun w args => (Rows.smellSniffSpec.pre enc Tryz.prog Tryz.f4 [] false w args /\ laidMetH Tryz.prog [("errors.errorType", Rows.laid_errors_errorType)] w) /\ sizedMet enc Tryz.prog Tryz.f4 (OpenSpec.ofChange Rows.smellSniffSpec) false w args)
   (Rows.smellSniffSpec.post enc Tryz.prog Tryz.f4 false true false false) := by
 refine leaving_of_change_and (C := Tryz.checked) (X := fun w _ => laidMetH Tryz.prog [("errors.errorType", Rows.laid_errors_errorType)] w) (fun _ _ _ hh h => h.of_heap hh) ownK started Tryz.func4
  (ChangeSpec.witness_at (enc := enc) (C := Tryz.checked) (os := os) (X := fun w _ => laidMetH Tryz.prog [("errors.errorType", Rows.laid_errors_errorType)] w) false (laidWorld os) #[.slice none 0 0] 8 rfl (by kernel_rfl) (by kernel_rfl) (by kernel_rfl) (by kernel_rfl) (by kernel_rfl) (laidWorld_met os _)) ?_
 intro W base args ds gs before hval0 hW hL
 have hval : ∀ (j : Nat) t v, Tryz.f4.params[j]? = some t -> args[j]? = some v -> Value.okWide Tryz.prog W .any base t v := hval0
 have hW' := hW
 obtain ⟨p, q, hA0, hV0, rfl, hfz, hnd⟩ := hW
 have hA : DataW.TrodAll enc Tryz.prog W 0 (fun _ => true) true Tryz.f4.params.toList args.toList ds p := hA0
 have hV : DataW.TrodVars enc Tryz.prog W (fun _ => true) [] gs q := hV0
 rw [Tryz.params4] at hA hval
 obtain ⟨v0, d0, rfl, rfl, h0⟩ := trodAll_one hA
 obtain ⟨a0, len, cap, rfl⟩ := okWide_slice Tryz.underlying22 (hval 0 22 v0 rfl rfl)
 have h0k := h0
 obtain ⟨fuel, hf⟩ := h0
 obtain ⟨rfl, rfl⟩ : gs = [] /\ q = [] := by
  cases gs with
  | nil => exact ⟨rfl, hV⟩
  | cons g r => exact absurd hV (by intro h; cases h)
 have e1 : Rows.smellSniffSpec.fn H ([d0] ++ []) = { results := [.lit (.bool true)], args := [d0] } := by simp [Rows.smellSniffSpec]
 have hcells : ∀ i : Nat, i < len -> ∃ sb so c e fr x, a0 = some ⟨sb, so, none⟩ /\ Bql W sb = some (false, .cells c e fr) /\ c[so + i]? = some (.int .i64 x) := by
  rcases open_ints Tryz.underlying22 Tryz.underlying3 cellsK hf with ⟨hcs, _⟩ | ⟨a, len', cap', zs, hcs, _, hl, hm, hz, hx, hcell, hwz⟩
  ·simp [Value.cells] at hcs
   intro i hi
   omega
  ·simp [Value.cells] at hcs
   obtain ⟨rfl, rfl, rfl⟩ := hcs
   intro i hi
   simp only [if_true] at hz
   have hc := hcell i (by omega)
   obtain ⟨b, off, spot⟩ := a
   have hspot : spot = none := by simpa [Addr.add] using World.cell?_spot (hcell 0 (by omega))
   subst hspot
   rw [add_plain] at hc
   unfold World.cell? at hc
   split at hc
   ·rename_i c e fr hb
    exact ⟨b, off, c, e, fr, _, rfl, by simp [Bql, hb], by simpa using hc⟩
   ·cases hc
 have hlt : ∀ x ∈ p, x.block < W.heap.size := fun x hx => by simpa using hW'.lt x (by simpa using hx)
 obtain ⟨N, last, o, w', t', r1, r2, r3, v, hv, ⟨rfl, hB⟩, r4⟩ := (lssniff_spec (Bql W) a0 len cap hcells).goodW Tryz.func4 (results_tmp Tryz.results4 _) (by kernel_rfl)
 refine ⟨N, last, o, w', t', r1, r2, r3, _, hv, ?_, r4⟩
 have hb := hB.below
 refine ⟨_, _, _, [], p, [], hW', ?_, ?_, ?_, hB.kept _, fun h => by cases h⟩
 ·rw [e1]; exact trodAll_mk1 (shut_bool Tryz.underlying4 true)
 ·rw [e1]
  have t := trodAll_mk1 (DataW.Trod.of_heap (w := { w' with tape := W.tape }) (w' := w') rfl (Below.trod laidOutK (by kernel_rfl) (of_decide_eq_true (by kernel_rfl)) h0k hb hlt))
  exact t
 ·rw [e1]; rfl
end Go.Proofs.YtkcomnkgdifboaaGreatDoor
end
section
namespace Go.Proofs.YtkcomnkgdifboaaGreatDoor
open Go Go.X Go.ChangeShapes Go.WideShapes Go.RowKit
theorem jEnter : Program.mayEnter Tryz.pinned.checked.prog = true := factEnter
theorem jLift : (Rows.smellSniffRow.lifted == Program.liftsFinal Tryz.pinned.checked.prog) = true := by rw [show Program.liftsFinal Tryz.pinned.checked.prog = Rows.smellSniffRow.lifted from factLift]; exact beq_self_eq_true _
theorem jMake : (Program.make Tryz.pinned.checked.prog == some Rows.smellSniffRow.make) = true := by rw [show Program.make Tryz.pinned.checked.prog = some Rows.smellSniffRow.make from factMake]; exact beq_self_eq_true _
set_option maxRecDepth 100000 in
theorem jf : joinedFacts Tryz.pinned.checked.prog 4 Tryz.f4 Rows.smellSniffSpec Rows.smellSniffRow = true := by
 unfold joinedFacts
 simp only [jEnter, jLift, jMake, Bool.and_true]
 kernel_rfl
set_option maxRecDepth 100000 in
theorem smellSniff_said : Rows.SmellSniffSaid :=
 OpenClaim.holds_of_wide_leaving 4 Tryz.f4 rfl rfl rfl rfl rfl rfl rfl ⟨rfl, rfl, rfl, rfl, rfl⟩ rfl rfl rfl rfl rfl (by kernel_rfl) Tryz.func4 jf
  (of_decide_eq_true (by kernel_rfl)) (by unfold Func.isWrapper; rw [if_neg (of_decide_eq_false (by kernel_rfl))]; exact ⟨rfl, rfl⟩)
  (fun os started H enc _ => law_lifted os started H enc)
end Go.Proofs.YtkcomnkgdifboaaGreatDoor
end
