/- Texts SmEl SmSa LSSafe PSmellSafe SSmellSafe. -/
import Derived.Test.YtnfnaehonkbknaaGreatDoorJ24
import Derived.Test.YtnfnaehonkbknaaGreatDoorAFactA
import Derived.Test.YtnfnaehonkbknaaGreatDoorAFactSB
import Derived.Test.YtnfnaehonkbknaaGreatDoorAFactSC
set_option linter.defProp false
set_option linter.unusedSimpArgs false
set_option linter.unusedVariables false
set_option maxRecDepth 100000
set_option maxHeartbeats 2000000
section
namespace Go.Proofs.YtnfnaehonkbknaaGreatDoor
open Go Go.X
def y9_163 := And.intro (fun H => Aqp (H := H) Tryz.underlying26 rfl Tryz.sizeOf26) (And.intro @callF42 (And.intro (fun H => Aqd (H := H) Tryz.underlying26 (i := 2) rfl (off := 2) rfl Tryz.sizeOf22) (And.intro (fun H => Aqf (H := H) Tryz.underlying22 rfl) (And.intro (fun H => Aq8 (H := H) Tryz.underlying22) (And.intro (fun H => Aq8 (H := H) Tryz.underlying81) (And.intro (fun H => Aqu (H := H) Tryz.underlying22 Tryz.sizeOf3) (And.intro (fun H => Aqf (H := H) Tryz.underlying3 rfl) (And.intro (fun H => Aqu (H := H) Tryz.underlying81 Tryz.sizeOf22) (And.intro @Dz8 (And.intro (fun H => Aqd (H := H) Tryz.underlying26 (i := 3) rfl (off := 3) rfl Tryz.sizeOf24) (And.intro (fun H => Aqf (H := H) Tryz.underlying24 rfl) (And.intro (fun H => Aq8 (H := H) Tryz.underlying24) (And.intro (fun H => Aqu (H := H) Tryz.underlying24 Tryz.sizeOf46) (And.intro (fun H => Aqp (H := H) Tryz.underlying46 rfl Tryz.sizeOf46) (And.intro (fun H => Aqv (H := H) (P := Tryz.prog) (h := Tryz.zeroValue46)) (And.intro (fun H => Aqr (H := H) Tryz.sizeOf46) (And.intro (fun H => Aqd (H := H) Tryz.underlying46 (i := 2) rfl (off := 2) rfl Tryz.sizeOf4) (And.intro (fun H => Aqf (H := H) Tryz.underlying4 rfl) (And.intro (fun H => Aqd (H := H) Tryz.underlying46 (i := 0) rfl (off := 0) rfl Tryz.sizeOf3) (And.intro (fun H => Aqd (H := H) Tryz.underlying46 (i := 1) rfl (off := 1) rfl Tryz.sizeOf3) (And.intro @eqG_bool (And.intro @bld_41_0_1_2_3_0 (fun H => Awe (H := H) Tryz.underlying31 Tryz.sizeOf41 Tryz.zeroValue41 rfl (by decide) (by decide))))))))))))))))))))))))
abbrev EvT := Nat × Nat × List Int × List Int
def fitC (ns : List Ns) (c : List Int) : Bool := ns.all fun n => n.sm == decide (gI c n.pl <= n.hr)
def evP (s : Sm) (i b : Nat) (L : List (List Int)) : List EvT := L.filterMap fun ts => if fitC s.noses (Awf s (s.hampers.getD i 0) b ts) then some (i, b, ts, Awf s (s.hampers.getD i 0) b ts) else none
def evB (s : Sm) (i n : Nat) : List EvT := (List.range n).flatMap fun b => evP s i b (Axv s.doors)
def evA (s : Sm) (n : Nat) : List EvT := (List.range n).flatMap fun i => evB s i 13
def evF (s : Sm) : List EvT := evA s s.hampers.length
theorem evA_succ (s : Sm) (n : Nat) : evA s (n + 1) = evA s n ++ evB s n 13 := by simp [evA, List.range_succ]
theorem evB_succ (s : Sm) (i n : Nat) : evB s i (n + 1) = evB s i n ++ evP s i n (Axv s.doors) := by simp [evB, List.range_succ]
theorem evP_take (s : Sm) (i b : Nat) {L : List (List Int)} {k : Nat} {ts : List Int} (h : L[k]? = some ts) : evP s i b (L.take (k + 1)) = if fitC s.noses (Awf s (s.hampers.getD i 0) b ts) then evP s i b (L.take k) ++ [(i, b, ts, Awf s (s.hampers.getD i 0) b ts)] else evP s i b (L.take k) := by
 unfold evP
 rw [List.take_add_one, h, Option.toList_some, List.filterMap_append]
 split <;> rename_i hf
 ·rw [List.filterMap_cons_some (b := (i, b, ts, Awf s (s.hampers.getD i 0) b ts)) (by rw [if_pos hf]), List.filterMap_nil]
 ·rw [List.filterMap_cons_none (by rw [if_neg hf]), List.filterMap_nil, List.append_nil]
theorem fitC_take {ns : List Ns} {k : Nat} {n : Ns} (h : ns[k]? = some n) (c : List Int) : fitC (ns.take (k + 1)) c = (fitC (ns.take k) c && (n.sm == decide (gI c n.pl <= n.hr))) := by
 unfold fitC
 rw [List.take_add_one, h, Option.toList_some, List.all_append]
 simp
theorem evF_mem {s : Sm} {x : EvT} : x ∈ evF s ↔ x.1 < s.hampers.length /\ x.2.1 < 13 /\ x.2.2.1 ∈ Axv s.doors /\ x.2.2.2 = Awf s (s.hampers.getD x.1 0) x.2.1 x.2.2.1 /\ fitC s.noses x.2.2.2 = true := by
 obtain ⟨i, b, ts, c⟩ := x
 simp only [evF, evA, evB, evP, List.mem_flatMap, List.mem_range, List.mem_filterMap]
 constructor
 ·rintro ⟨i', hi, b', hb, ts', ht, h⟩
  split at h
  ·rename_i hf
   simp only [Option.some.injEq, Prod.mk.injEq] at h
   obtain ⟨rfl, rfl, rfl, rfl⟩ := h
   exact ⟨hi, hb, ht, rfl, hf⟩
  ·cases h
 ·rintro ⟨hi, hb, ht, hc, hf⟩
  subst hc
  exact ⟨i, hi, b, hb, ts, ht, by rw [if_pos hf]⟩
theorem evP_len (s : Sm) (i b : Nat) (L : List (List Int)) : (evP s i b L).length <= L.length := List.length_filterMap_le _ _
theorem evB_len (s : Sm) (i : Nat) {T : Nat} (hT : (Axv s.doors).length <= T) : ∀ n, (evB s i n).length <= n * T
 | 0 => by simp [evB]
 | n + 1 => by
  rw [evB_succ, List.length_append, Nat.add_mul]
  have := evB_len s i hT n
  have := evP_len s i n (Axv s.doors)
  omega
theorem evA_len (s : Sm) {T : Nat} (hT : (Axv s.doors).length <= T) : ∀ n, (evA s n).length <= n * (13 * T)
 | 0 => by simp [evA]
 | n + 1 => by
  rw [evA_succ, List.length_append, Nat.add_mul]
  have := evA_len s hT n
  have := evB_len s n hT 13
  omega
def EvR (H : Hp) (rows : List (List Value)) (es : List EvT) : Prop := rows.length = es.length /\ ∀ (k : Nat) (e : EvT), es[k]? = some e -> ∃ tv cv, rows[k]? = some [.int .i64 (e.1 : Nat), .int .i64 (e.2.1 : Nat), tv, cv] /\ SlI H tv e.2.2.1 /\ SlI H cv e.2.2.2
theorem EvR.mono {H H' : Hp} {rows : List (List Value)} {es : List EvT} (h : EvR H rows es) (hl : ∀ v xs, SlI H v xs -> SlI H' v xs) : EvR H' rows es := ⟨h.1, fun k e he => by
 obtain ⟨tv, cv, h1, h2, h3⟩ := h.2 k e he
 exact ⟨tv, cv, h1, hl _ _ h2, hl _ _ h3⟩⟩
theorem EvR.snoc {H : Hp} {rows : List (List Value)} {es : List EvT} (h : EvR H rows es) {e : EvT} {tv cv : Value} (ht : SlI H tv e.2.2.1) (hc : SlI H cv e.2.2.2) : EvR H (rows ++ [[.int .i64 (e.1 : Nat), .int .i64 (e.2.1 : Nat), tv, cv]]) (es ++ [e]) := ⟨by simp [h.1], fun k x hx => by
 by_cases hk : k < es.length
 ·rw [List.getElem?_append_left hk] at hx
  obtain ⟨tv', cv', h1, h2, h3⟩ := h.2 k x hx
  exact ⟨tv', cv', by rw [List.getElem?_append_left (by rw [h.1]; exact hk)]; exact h1, h2, h3⟩
 ·rw [List.getElem?_append_right (by omega)] at hx
  obtain ⟨hk0, rfl⟩ : k - es.length = 0 /\ e = x := by
   cases hd : k - es.length with
   | zero => rw [hd] at hx; simp only [List.getElem?_cons_zero, Option.some.injEq] at hx; exact ⟨rfl, hx⟩
   | succ j => rw [hd] at hx; simp at hx
  exact ⟨tv, cv, by rw [List.getElem?_append_right (by rw [h.1]; omega), h.1, hk0]; rfl, ht, hc⟩⟩
theorem events_spec (m : Md) (H : Hp) (s : Sm) (dv hv nv : Value) (hs : SmIn H dv hv nv s) (ok : SmOk s) (hd4 : s.doors.length <= 4) :
  FnX Tryz.prog m 9 #[smV s.places dv hv nv] H fun e H' => ∃ v rows, e = .returned v /\ RowG 41 4 H' v rows /\ EvR H' rows (evF s) /\ H.le H' := by
 obtain ⟨da, dc, ha, kc, na, nc, rfl, rfl, rfl, -, -, -⟩ := hs.forms
 refine Aqo Tryz.func9 rfl Tryz.ntmps9 (by simp) ?_
 (refine @unH _ (zA y9_163 ?_); (repeat refine inC fun hc => ?_); try refine inK fun K hK => ?_)
 (intro sb hsb; generalize hG : Hp.set _ sb _ = H1; have lH1 := Aqc hG hsb; have vsb := Aqb hG; clear hG)
 refine hK _ _ ?_
 clear hK K
 (try refine @unH _ (zQ ?_))
 have hs1 := hs.le lH1
 have l01 := lH1
 clear hs hsb lH1
 (refine @unH _ (zA y9_163 ?_); (repeat refine inC fun hc => ?_); try refine inK fun K hK => ?_)
 refine (takesOf_spec _ H1 s _ _ _ hs1 ok).runs.mono ?_
 rintro _ H2 ⟨tv, tvs, rfl, rT, sT, l12⟩
 obtain ⟨ta, tc, hlv⟩ := rT.form
 rw [show (row1 tvs).length = (Axv s.doors).length by rw [row1, List.length_map]; exact sT.1] at hlv
 subst hlv
 have hs2 := hs1.le l12
 have vsb2 := l12 _ _ vsb
 have l02 := Hp.le_trans l01 l12
 have hh1 := ok.h1
 have hnl3 := ok.nl
 have hT1 : (Axv s.doors).length <= 625 := Nat.le_trans (takesN_pow _) (Nat.pow_le_pow_right (n := 5) (by decide) hd4)
 replace rT : Aqk _ := rT
 replace sT : Aqk _ := sT
 clear hs1 vsb l01 l12
 ((try refine @unH _ (zX y9_163 ?_)); (try (refine hK _ _ ?_; clear hK K; try refine @unH _ (zQ ?_))); refine @unH _ (zA y9_163 ?_); (repeat refine inC fun hc => ?_); try refine inK fun K hK => ?_)
 refine Axg (fun w a' H' => ∃ e v rows, ∃ i : Nat, w = s.hampers.length - i /\ i <= s.hampers.length /\ a' = act 82 e [] /\ e 1 = .pointer (some ⟨sb, 0, none⟩) /\ e 3 = v /\ e 4 = .slice ta (Axv s.doors).length tc /\ e 5 = .int .i64 (i : Nat) /\ H2.le H' /\ Aqk (RowG 41 4 H' v rows) /\ Aqk (EvR H' rows (evA s i)) /\ Aqk (∀ y, rowB v = some y -> H2 y = none)) (n := s.hampers.length) ?_ ?_
 ·exact ⟨_, _, [], 0, by omega, by omega, rfl, rfl, rfl, rfl, rfl, Hp.le_refl _, RowG.nil, ⟨rfl, fun k e hk => by simp [evA] at hk⟩, fun y h => by (cases h)⟩
 rintro w a' H3 ⟨e, v, rows, i, rfl, hi, rfl, e1, e3, e4, e5, l23, r3, s3, n3⟩
 have vsb3 := l23 _ _ vsb2
 by_cases hli : i < s.hampers.length
 ·have hli' : (i : Int) < s.hampers.length := by omega
  (refine @unH _ (zA y9_163 ?_); (repeat refine inC fun hc => ?_); try refine inK fun K hK => ?_)
  refine Axg (fun w a' H' => ∃ e v rows, ∃ b : Nat, w = 13 - b /\ b <= 13 /\ a' = act 82 e [] /\ e 1 = .pointer (some ⟨sb, 0, none⟩) /\ e 3 = v /\ e 4 = .slice ta (Axv s.doors).length tc /\ e 5 = .int .i64 (i : Nat) /\ e 6 = .int .i64 (b : Nat) /\ H2.le H' /\ Aqk (RowG 41 4 H' v rows) /\ Aqk (EvR H' rows (evA s i ++ evB s i b)) /\ Aqk (∀ y, rowB v = some y -> H2 y = none)) (n := 13) ?_ ?_
  ·exact ⟨_, v, rows, 0, by omega, by omega, rfl, e1, e3, e4, e5, rfl, l23, r3, (by rw [show evB s i 0 = [] from rfl, List.append_nil]; exact s3), n3⟩
  clear e1 e3 e4 e5 e r3 s3 n3 l23 vsb3
  rintro w a' H4 ⟨e, v, rows, b, rfl, hb, rfl, e1, e3, e4, e5, e6, l24, r4, s4, n4⟩
  by_cases hlb : b < 13
  ·have hlb' : (b : Int) <= 12 := by omega
   (refine @unH _ (zA y9_163 ?_); (repeat refine inC fun hc => ?_); try refine inK fun K hK => ?_)
   refine Axg (fun w a' H' => ∃ e v rows, ∃ k : Nat, w = (Axv s.doors).length - k /\ k <= (Axv s.doors).length /\ a' = act 82 e [] /\ e 1 = .pointer (some ⟨sb, 0, none⟩) /\ e 3 = v /\ e 4 = .slice ta (Axv s.doors).length tc /\ e 5 = .int .i64 (i : Nat) /\ e 6 = .int .i64 (b : Nat) /\ e 7 = .int .i64 (k : Nat) /\ H2.le H' /\ Aqk (RowG 41 4 H' v rows) /\ Aqk (EvR H' rows (evA s i ++ evB s i b ++ evP s i b ((Axv s.doors).take k))) /\ Aqk (∀ y, rowB v = some y -> H2 y = none)) (n := (Axv s.doors).length) ?_ ?_
   ·exact ⟨_, v, rows, 0, by omega, by omega, rfl, e1, e3, e4, e5, e6, rfl, l24, r4, (by rw [List.take_zero, show evP s i b [] = [] from rfl, List.append_nil]; exact s4), n4⟩
   clear e1 e3 e4 e5 e6 e r4 s4 n4 l24
   rintro w a' H5 ⟨e, v, rows, k, rfl, hk, rfl, e1, e3, e4, e5, e6, e7, l25, r5, s5, n5⟩
   have vsb5 := l25 _ _ vsb2
   by_cases hlk : k < (Axv s.doors).length
   ·have hlk' : (k : Int) < (Axv s.doors).length := by omega
    have hkx := List.getElem?_eq_getElem hlk
    obtain ⟨lw, hlw⟩ : ∃ lw, tvs[k]? = some lw := ⟨_, List.getElem?_eq_getElem (by rw [(show Rows H2 tvs _ from sT).1]; exact hlk)⟩
    obtain ⟨qb, qcl, qcap, hqf, vqb2, hqc⟩ := (show RowG _ _ H2 _ _ from rT).at1 hlw
    simp only [Value.slice.injEq] at hqf
    obtain ⟨rfl, -, rfl⟩ := hqf
    obtain ⟨lw', hqq, hsl⟩ := (show Rows H2 tvs _ from sT).2 k _ hkx
    rw [hlw] at hqq
    cases hqq
    have hstep := evP_take s i b hkx
    have htm := List.mem_of_getElem? hkx
    obtain ⟨hb', ho, hcap, hp, hcl, hfr, hvf, -, hhb2, hcell⟩ := hs2.hh.cons (fun e => by rw [e] at hli; exact absurd hli (by simp))
    cases hvf
    have hkh := List.getElem?_eq_getElem hli
    have hx := hcell i _ hkh
    have hxk := ok.hk _ (List.mem_of_getElem? hkh)
    have hxD : s.hampers.getD i 0 = s.hampers[i] := by rw [List.getD_eq_getElem?_getD, hkh]; rfl
    rw [hxD] at hstep
    have hCo := fun H' (l : H2.le H') => Bws m H' s _ _ _ (hs2.le l) ok _ b hxk.1 hxk.2 (by omega) (by omega) _ _ (hsl.le l) htm
    have hvqb := l25 _ _ vqb2
    have hvhb := l25 _ _ hhb2
    obtain ⟨lwa, lwn, lwc, rfl⟩ := hsl.isSlice
    replace hxk : Aqk _ := hxk
    replace hxD : Aqk _ := hxD
    clear hkx hlw hkh hcell
    generalize s.hampers[i] = x at *
    generalize (Axv s.doors)[k] = ts at *
    replace hsl : Aqk _ := hsl
    replace hstep : Aqk _ := hstep
    replace hCo : Aqk _ := hCo
    replace htm : Aqk _ := htm
    (refine @unH _ (zA y9_163 ?_); (repeat refine inC fun hc => ?_); try refine inK fun K hK => ?_)
    refine Axl (fun HX => HX sb = some (true, smO s.places (.slice da s.doors.length dc) (.slice (some ⟨hb', ho, none⟩) s.hampers.length kc) (.slice na s.noses.length nc)) /\ HX hb' = some (hp, .cells hcl 3 hfr) /\ HX qb = some (true, .cells qcl 22 (0, 0))) [11] (.take 0 (.free 1 (.take 2 (.free 3 (.free 4 (.take 5 (.free 6 (.free 7 (.free 8 (.free 9 (.take 10 (.one 11 (.free 12 .nil))))))))))))) (by kernel_rfl) (by kernel_rfl) (by decide) (by kernel_rfl) ?_; intro K hK
    refine Ax8 fun ops hOz => ?_
    have hSS := And.intro vsb5 (And.intro hvhb hvqb)
    (refine @unH _ ?_; refine zK (And.intro y9_163 @exists_eq_left'.{1}) ?_)
    (refine @unH _ ?_; refine zF y9_163 ?_)
    (refine @unH _ ?_; refine zK (And.intro y9_163 @exists_eq_left'.{1}) ?_)
    (iterate 2 (refine @unH _ ?_; refine zF y9_163 ?_))
    (refine @unH _ ?_; refine zK (And.intro y9_163 @exists_eq_left'.{1}) ?_)
    (iterate 4 (refine @unH _ ?_; refine zF y9_163 ?_))
    (refine @unH _ ?_; refine zK (And.intro y9_163 @exists_eq_left'.{1}) ?_)
    clear hSS
    (refine @unH _ ?_; refine zM y9_163 ?_)
    refine ((show ∀ H', _ -> _ from hCo) H5 l25).runs.mono ?_
    rintro _ H6 ⟨cv, rfl, hcv, l56⟩
    have hcl' := Bzp s x b ts
    obtain ⟨ca, cc, rfl, _⟩ := id hcv
    have l26 := Hp.le_trans l25 l56
    have vsb6 := l56 _ _ vsb5
    have r6 : RowG 41 4 H6 v rows := (show RowG _ _ H5 v rows from r5).le l56
    have s6 : EvR H6 rows (evA s i ++ evB s i b ++ evP s i b ((Axv s.doors).take k)) := (show EvR H5 rows _ from s5).mono fun _ _ h => h.le l56
    have hgt : ∀ p : Int, 0 <= p -> p < s.places -> (Awf s x b ts)[p.toNat]? = some (gI (Awf s x b ts) p) := fun p p0 p1 => Awg p0 (by rw [hcl']; omega)
    clear hCo vsb5 hvqb hvhb
    replace r6 : Aqk _ := r6
    replace s6 : Aqk _ := s6
    replace hgt : Aqk _ := hgt
    replace hcl' : Aqk _ := hcl'
    replace r5 : Aqk _ := r5
    clear r5 s5
    simp -implicitDefEqProofs (disch := omega) only [Azt, Aq3, Aqm]
    refine ⟨.inl (by decide), ?_⟩
    (refine @unH _ ?_; refine zF y9_163 ?_)
    (refine Ajd (hK _ _ ?_); clear hK K; (try simp only [nq, ↓reduceIte, Nat.reduceEqDiff]))
    generalize hcf : Awf s x b ts = c at *
    replace hcf : Aqk _ := hcf
    replace hcv : Aqk _ := hcv
    (refine @unH _ (zA y9_163 ?_); (repeat refine inC fun hc => ?_); try refine inK fun K hK => ?_)
    refine Axg (fun w a' H' => ∃ e, ∃ q : Nat, w = s.noses.length - q /\ q <= s.noses.length /\ a' = act 82 e [] /\ e 1 = .pointer (some ⟨sb, 0, none⟩) /\ e 3 = v /\ e 4 = .slice (some ⟨qb, 0, none⟩) (Axv s.doors).length tc /\ e 5 = .int .i64 (i : Nat) /\ e 6 = .int .i64 (b : Nat) /\ e 7 = .int .i64 (k : Nat) /\ e 8 = .slice ca c.length cc /\ e 9 = .bool (fitC (s.noses.take q) c) /\ e 10 = .int .i64 (q : Nat) /\ H6.le H') (n := s.noses.length) ?_ ?_
    ·exact ⟨_, 0, by omega, by omega, rfl, e1, e3, e4, e5, e6, e7, rfl, rfl, rfl, Hp.le_refl _⟩
    clear e1 e3 e4 e5 e6 e7 e
    rintro w a' H7 ⟨e, q, rfl, hq, rfl, e1, e3, e4, e5, e6, e7, e8, e9, e10, l67⟩
    have vsb7 := l67 _ _ vsb6
    by_cases hlq : q < s.noses.length
    ·have hlq' : (q : Int) < s.noses.length := by omega
     have hkn := List.getElem?_eq_getElem hlq
     obtain ⟨db, dof, dp, dcl, dfr, hdae, hdb, hdsz, -, hdext⟩ := SlG.get (hs2.nn.le (Hp.le_trans l26 l67)) (i := q) (r := Bjz s.noses[q]) (by rw [List.getElem?_map, hkn]; rfl)
     have hst := fitC_take hkn c
     have hnk := ok.nk _ (List.mem_of_getElem? hkn)
     subst hdae
     clear hkn
     generalize s.noses[q] = n at *
     unfold Bjz at hdext
     replace hst : Aqk _ := hst
     (refine @unH _ (zA y9_163 ?_); (repeat refine inC fun hc => ?_); try refine inK fun K hK => ?_)
     (intro nb hnb; generalize hG : Hp.set _ nb _ = H8; have lH8 := Aqc hG hnb; have vnb := Aqb hG; clear hG)
     have hcv7 := (show SlI H6 _ c from hcv).le l67
     have hp0 := hnk.p0
     have hp1 := hnk.p1
     have hcl2 : c.length = s.places.toNat := hcl'
     obtain ⟨cb, co, ccap, cp, ccl, cfr, hcvf, -, hcb7, hccell⟩ := hcv7.cons (fun e => by rw [e] at hcl2; simp at hcl2; omega)
     cases hcvf
     have hpl : n.pl < c.length := by omega
     have hcg := hccell _ _ ((show ∀ p : Int, _ from hgt) n.pl hp0 hp1)
     have hcb8 := lH8 _ _ hcb7
     have l68 := Hp.le_trans l67 lH8
     clear hcv7 hccell hcl2 hcb7 vsb7 hnb lH8 hdb hdext
     refine hK _ _ ?_
     clear hK K
     (try refine @unH _ (zQ ?_))
     generalize hF : fitC (s.noses.take q) c = fq at *
     cases fq with
     | false =>
      refine Axl (fun HX => HX nb = some (true, .cells #[.int .i64 n.pl, .int .i64 n.hr, .bool n.sm] 46 (0, 0)) /\ HX cb = some (cp, .cells ccl 3 cfr)) [] (.free 0 (.free 1 (.free 2 (.free 3 (.free 4 (.free 5 (.free 6 (.free 7 (.free 8 (.free 9 (.free 10 (.free 11 (.free 12 (.free 13 (.free 14 .nil))))))))))))))) (by kernel_rfl) (by kernel_rfl) (by decide) (by kernel_rfl) ?_; intro K hK
      refine Ax8 fun ops hOz => ?_
      (iterate 2 (refine @unH _ ?_; refine zF y9_163 ?_))
      (iterate 11 (refine planZ_skip (w := .bool false) hOz rfl rfl rfl ?_ rfl ?_; (focus (simp -implicitDefEqProofs (disch := omega) only [act_get?, Axn, Aq3, Aqm, Nat.reduceEqDiff, ↓reduceIte, beq_self_eq_true, Bool.and_self]; done)); simp -implicitDefEqProofs (disch := first | omega | (simp only [qd] <;> omega)) only [Aq3, Aqm]))
      (iterate 2 (refine @unH _ ?_; refine zF y9_163 ?_))
      (refine Ajd (hK _ _ ?_); clear hK K; (try simp only [nq, ↓reduceIte, Nat.reduceEqDiff]))
      have hst' : fitC (s.noses.take (q + 1)) c = false := hst
      (refine @unH _ (zA y9_163 ?_); (repeat refine inC fun hc => ?_); try refine inK fun K hK => ?_)
      exact ⟨s.noses.length - (q + 1), by omega, _, q + 1, rfl, by omega, rfl, e1, e3, e4, e5, e6, e7, e8, by rw [hst']; rfl, rfl, l68⟩
     | true =>
      refine Axl (fun HX => HX nb = some (true, .cells #[.int .i64 n.pl, .int .i64 n.hr, .bool n.sm] 46 (0, 0)) /\ HX cb = some (cp, .cells ccl 3 cfr)) [] (.free 0 (.free 1 (.free 2 (.take 3 (.free 4 (.free 5 (.take 6 (.free 7 (.take 8 (.free 9 (.take 10 (.free 11 (.free 12 (.free 13 (.free 14 .nil))))))))))))))) (by kernel_rfl) (by kernel_rfl) (by decide) (by kernel_rfl) ?_; intro K hK
      refine Ax8 fun ops hOz => ?_
      have hSS := And.intro vnb hcb8
      (iterate 2 (refine @unH _ ?_; refine zF y9_163 ?_))
      (refine @unH _ ?_; refine zG y9_163 ?_)
      (apply Ay0 hOz rfl rfl rfl rfl (by simp -implicitDefEqProofs (disch := omega) only [act_get?, Axn, Nat.reduceEqDiff, ↓reduceIte, beq_self_eq_true, Bool.and_self, *]) ‹_›; (focus (intro HX hHX; simp -implicitDefEqProofs (disch := first | omega | (simp only [qd] <;> omega)) only [xq, ↓xp, qc, Nat.reduceAdd, List.range, List.range.loop, fine, Nat.reduceEqDiff, ↓reduceIte, yielded, reduceCtorEq, Nat.reduceLT, Nat.reduceMul, Nat.reduceSub, one, Nat.reduceLeDiff, Aqj, y9_163, aq, ↓ap, qe0, qe1, qe2, *, -hK, Aq9, exists_eq_left'] <;> (first | exact rfl | exact ⟨rfl, rfl⟩ | exact ⟨rfl, trivial⟩))); simp -implicitDefEqProofs (disch := first | omega | (simp only [qd] <;> omega)) only [Aq3, Aqm])
      (refine @unH _ ?_; refine zG y9_163 ?_)
      (refine @unH _ ?_; refine zG y9_163 ?_)
      (apply Ay0 hOz rfl rfl rfl rfl (by simp -implicitDefEqProofs (disch := omega) only [act_get?, Axn, Nat.reduceEqDiff, ↓reduceIte, beq_self_eq_true, Bool.and_self, *]) ‹_›; (focus (intro HX hHX; simp -implicitDefEqProofs (disch := first | omega | (simp only [qd] <;> omega)) only [xq, ↓xp, qc, Nat.reduceAdd, List.range, List.range.loop, fine, Nat.reduceEqDiff, ↓reduceIte, yielded, reduceCtorEq, Nat.reduceLT, Nat.reduceMul, Nat.reduceSub, one, Nat.reduceLeDiff, Aqj, y9_163, aq, ↓ap, qe0, qe1, qe2, *, -hK, Aq9, exists_eq_left'] <;> (first | exact rfl | exact ⟨rfl, rfl⟩ | exact ⟨rfl, trivial⟩))); simp -implicitDefEqProofs (disch := first | omega | (simp only [qd] <;> omega)) only [Aq3, Aqm])
      (refine @unH _ ?_; refine zG y9_163 ?_)
      (apply Ay0 hOz rfl rfl rfl rfl (by simp -implicitDefEqProofs (disch := omega) only [act_get?, Axn, Nat.reduceEqDiff, ↓reduceIte, beq_self_eq_true, Bool.and_self, *]) ‹_›; (focus (intro HX hHX; simp -implicitDefEqProofs (disch := first | omega | (simp only [qd] <;> omega)) only [xq, ↓xp, qc, Nat.reduceAdd, List.range, List.range.loop, fine, Nat.reduceEqDiff, ↓reduceIte, yielded, reduceCtorEq, Nat.reduceLT, Nat.reduceMul, Nat.reduceSub, one, Nat.reduceLeDiff, Aqj, y9_163, aq, ↓ap, qe0, qe1, qe2, *, -hK, Aq9, exists_eq_left'] <;> (first | exact rfl | exact ⟨rfl, rfl⟩ | exact ⟨rfl, trivial⟩))); simp -implicitDefEqProofs (disch := first | omega | (simp only [qd] <;> omega)) only [Aq3, Aqm])
      (refine @unH _ ?_; refine zG y9_163 ?_)
      (apply Ay0 hOz rfl rfl rfl rfl (by simp -implicitDefEqProofs (disch := omega) only [act_get?, Axn, Nat.reduceEqDiff, ↓reduceIte, beq_self_eq_true, Bool.and_self, *]) ‹_›; (focus (intro HX hHX; simp -implicitDefEqProofs (disch := first | omega | (simp only [qd] <;> omega)) only [xq, ↓xp, qc, Nat.reduceAdd, List.range, List.range.loop, fine, Nat.reduceEqDiff, ↓reduceIte, yielded, reduceCtorEq, Nat.reduceLT, Nat.reduceMul, Nat.reduceSub, one, Nat.reduceLeDiff, Aqj, y9_163, aq, ↓ap, qe0, qe1, qe2, *, -hK, Aq9, exists_eq_left'] <;> (first | exact rfl | exact ⟨rfl, rfl⟩ | exact ⟨rfl, trivial⟩))); simp -implicitDefEqProofs (disch := first | omega | (simp only [qd] <;> omega)) only [Aq3, Aqm])
      (refine @unH _ ?_; refine zG y9_163 ?_)
      (refine @unH _ ?_; refine zG y9_163 ?_)
      (iterate 2 (refine @unH _ ?_; refine zF y9_163 ?_))
      (refine Ajd (hK _ _ ?_); clear hK K; (try simp only [nq, ↓reduceIte, Nat.reduceEqDiff]))
      have hst' : fitC (s.noses.take (q + 1)) c = (n.sm == decide (gI c n.pl <= n.hr)) := hst
      clear hSS
      (refine @unH _ (zA y9_163 ?_); (repeat refine inC fun hc => ?_); try refine inK fun K hK => ?_)
      exact ⟨s.noses.length - (q + 1), by omega, _, q + 1, rfl, by omega, rfl, e1, e3, e4, e5, e6, e7, e8, by rw [hst']; rfl, rfl, l68⟩
    ·have hlq' : ¬ (q : Int) < s.noses.length := by omega
     obtain rfl : q = s.noses.length := by omega
     rw [List.take_length] at e9
     have hst' : evP s i b ((Axv s.doors).take (k + 1)) = if fitC s.noses c then evP s i b ((Axv s.doors).take k) ++ [(i, b, ts, c)] else evP s i b ((Axv s.doors).take k) := by
      exact (show evP s i b ((Axv s.doors).take (k + 1)) = _ from hstep)
     have l27 := Hp.le_trans l26 l67
     generalize hF : fitC s.noses c = fq at *
     cases fq with
     | false =>
      have s7 : Aqk (EvR H7 rows (evA s i ++ evB s i b ++ evP s i b ((Axv s.doors).take (k + 1)))) := by
       rw [hst', if_neg (by simp)]
       exact (show EvR H6 rows _ from s6).mono fun _ _ h => h.le l67
      have r7 : Aqk (RowG 41 4 H7 v rows) := (show RowG _ _ H6 v rows from r6).le l67
      clear hst'
      (refine @unH _ (zA y9_163 ?_); (repeat refine inC fun hc => ?_); try refine inK fun K hK => ?_)
      exact ⟨(Axv s.doors).length - (k + 1), by omega, _, v, rows, k + 1, rfl, by omega, rfl, e1, e3, e4, e5, e6, rfl, l27, r7, s7, n5⟩
     | true =>
      have vqb7 := l27 _ _ vqb2
      obtain ⟨va, vc, hvf⟩ := RowG.form (show RowG _ _ H6 v rows from r6)
      have hone : one v = true := by rw [hvf]; rfl
      replace hvf : Aqk _ := hvf
      have r7 : Aqk (RowG 41 4 H7 v rows) := (show RowG _ _ H6 v rows from r6).le l67
      (refine @unH _ (zA y9_163 ?_); (repeat refine inC fun hc => ?_); try refine inK fun K hK => ?_)
      intro g hg
      have hbn : rows.length <= 1000000 := by
       have h1 := (show EvR H6 rows _ from s6).1
       have h2 := evA_len s hT1 i
       have h3 := evB_len s i hT1 b
       have h4 := evP_len s i b ((Axv s.doors).take k)
       rw [List.length_append, List.length_append] at h1
       rw [List.length_take] at h4
       omega
      refine Aym Tryz.underlying31 Tryz.sizeOf41 Tryz.zeroValue41 rfl Tryz.typeInfo41 (by decide) (by decide) (show RowG _ _ H7 v rows from r7) (ws := [.int .i64 (i : Nat), .int .i64 (b : Nat), .slice lwa lwn lwc, .slice ca c.length cc]) rfl hg (fun w hw => by simp only [List.mem_cons, List.not_mem_nil, or_false] at hw; rcases hw with rfl | rfl | rfl | rfl <;> rfl) hbn _ _ _ _ (fun v9 H9 r9 k9 n9 => ?_)
      have s9 : Aqk (EvR H9 (rows ++ [[.int .i64 (i : Nat), .int .i64 (b : Nat), .slice lwa lwn lwc, .slice ca c.length cc]]) (evA s i ++ evB s i b ++ evP s i b ((Axv s.doors).take (k + 1)))) := by
       rw [hst', if_pos rfl, <- List.append_assoc]
       exact ((show EvR H6 rows _ from s6).mono fun _ _ h => SlI.otR (show RowG _ _ H7 v rows from r7) (h.le l67) (by decide) k9).snoc (e := (i, b, ts, c)) (SlI.otR (show RowG _ _ H7 v rows from r7) ((show SlI H2 _ ts from hsl).le l27) (by decide) k9) (SlI.otR (show RowG _ _ H7 v rows from r7) ((show SlI H6 _ c from hcv).le l67) (by decide) k9)
      have l29 : H2.le H9 := fun y u h => k9 y u (l27 _ _ h) fun h2 => by rw [(show ∀ y, _ from n5) y h2] at h; cases h
      have n9' : Aqk (∀ y, rowB v9 = some y -> H2 y = none) := fun y h => (n9 y h).elim (fun h => (show ∀ y, _ from n5) y h) fun h => Hp.le_none l27 h
      obtain ⟨_, _, hf9⟩ := r9.form
      have hone9 : one v9 = true := by rw [hf9]; rfl
      replace hf9 : Aqk _ := hf9
      replace r9 : Aqk _ := r9
      clear k9 n9 hg hst' r7 s6 r6 vqb7 l67 l27 vsb7
      ((try refine @unH _ (zX y9_163 ?_)); (try (refine hK _ _ ?_; clear hK K; try refine @unH _ (zQ ?_))); refine @unH _ (zA y9_163 ?_); (repeat refine inC fun hc => ?_); try refine inK fun K hK => ?_)
      exact ⟨(Axv s.doors).length - (k + 1), by omega, _, v9, _, k + 1, rfl, by omega, rfl, e1, rfl, e4, e5, e6, rfl, l29, r9, s9, n9'⟩
   ·have hlk' : ¬ (k : Int) < (Axv s.doors).length := by omega
    obtain rfl : k = (Axv s.doors).length := by omega
    have s5' : Aqk (EvR H5 rows (evA s i ++ evB s i (b + 1))) := by
     rw [List.take_length] at s5
     rw [evB_succ, <- List.append_assoc]
     exact s5
    (refine @unH _ (zA y9_163 ?_); (repeat refine inC fun hc => ?_); try refine inK fun K hK => ?_)
    exact ⟨13 - (b + 1), by omega, _, _, rows, b + 1, rfl, by omega, rfl, e1, e3, e4, e5, rfl, l25, r5, s5', n5⟩
  ·have hlb' : ¬ (b : Int) <= 12 := by omega
   obtain rfl : b = 13 := by omega
   have s4' : Aqk (EvR H4 rows (evA s (i + 1))) := by
    rw [evA_succ]
    exact s4
   (refine @unH _ (zA y9_163 ?_); (repeat refine inC fun hc => ?_); try refine inK fun K hK => ?_)
   exact ⟨s.hampers.length - (i + 1), by omega, _, _, rows, i + 1, rfl, by omega, rfl, e1, e3, e4, rfl, l24, r4, s4', n4⟩
 ·have hli' : ¬ (i : Int) < s.hampers.length := by omega
  obtain rfl : i = s.hampers.length := by omega
  obtain ⟨va, vc, rfl⟩ := RowG.form (show RowG _ _ H3 v rows from r3)
  have l03 := Hp.le_trans l02 l23
  (refine @unH _ (zA y9_163 ?_); (repeat refine inC fun hc => ?_); try refine inK fun K hK => ?_)
  (refine @unH _ ?_; refine z9 Tryz.results9 ?_)
  exact ⟨_, rows, rfl, r3, s3, l03⟩
theorem safe_com {s : Sm} (ok : SmOk s) {p : Int} (p0 : 0 <= p) (p1 : p < s.places) {i b : Nat} {ts : List Int} (ht : Tr s i b ts) :
  begE s [p] 0 = 0 /\ ((∃ lo hi : Int, comE s p = (lo, hi, 0) /\ 0 <= lo /\ lo < 1000 /\ 0 <= hi /\ hi < 1000 /\ Bye s p = min 12 (lo - 1)) ∨ (comE s p = (0, 0, 11) /\ Bye s p = 12)) := by
 have hb := Dx1 ok ht p0 p1 (hr := 0) (by omega) (by omega)
 have hle := safe_le hb
 have hne : ∃ i b ts, Tr s i b ts := ⟨_, _, _, ht⟩
 refine ⟨hb, ?_⟩
 by_cases h : ∃ i b ts, Tr s i b ts /\ Avs s i b ts p < 1000
 ·obtain ⟨lo, hi, hc, hl, hh, hall, ⟨i1, b1, t1, h1, h2⟩, i2, b2, t2, h3, h4⟩ := come_some ok p0 p1 h
  have pos : ∀ i b ts, Tr s i b ts -> 0 <= Avs s i b ts p := fun i b ts h => by
   obtain ⟨q0, q1⟩ := Czj ok h.i
   have := h.b
   exact (Dqa ok q0 q1 (by omega) (by omega) h.t p0 p1).1
  refine .inl ⟨lo, hi, hc, h2 ▸ pos _ _ _ h1, hl, h4 ▸ pos _ _ _ h3, hh, ?_⟩
  have q1 : Bye s p < lo := by
   have := (safe_tr ok p0 p1 hne hle).1 (Int.le_refl _) _ _ _ h1
   omega
  have q2 : min 12 (lo - 1) <= Bye s p := (safe_tr ok p0 p1 hne (by omega)).2 fun i b ts h3 => by
   by_cases h4 : Avs s i b ts p < 1000
   ·have := (hall _ _ _ h3 h4).1
    omega
   ·omega
  omega
 ·refine .inr ⟨come_none ok p0 p1 ht h, ?_⟩
  have q2 : 12 <= Bye s p := (safe_tr ok p0 p1 hne (by omega)).2 fun i b ts h3 => by
   by_cases h4 : Avs s i b ts p < 1000
   ·exact absurd ⟨i, b, ts, h3, h4⟩ h
   ·omega
  omega
theorem safe_verd {s : Sm} (ok : SmOk s) {p : Int} (p0 : 0 <= p) (p1 : p < s.places) {i b : Nat} {ts : List Int} (ht : Tr s i b ts) {lo hi : Int} (hc : comE s p = (lo, hi, 0)) (hall : ∀ i b ts, Tr s i b ts -> Avs s i b ts p < 1000) (h12 : hi <= 12) :
  0 <= hi /\ begE s [p] hi = 0 /\ Cyh s p hi = 1 /\ begE s [p] (max 0 (hi - 1)) = 0 /\ (0 < hi -> Cyh s p (max 0 (hi - 1)) ≠ 1) := by
 have hne : ∃ i b ts, Tr s i b ts := ⟨_, _, _, ht⟩
 obtain ⟨lo', hi', hc', -, -, hb, -, ⟨i1, b1, t1, h1, h2⟩⟩ := come_some ok p0 p1 ⟨_, _, _, ht, hall _ _ _ ht⟩
 rw [hc] at hc'
 simp only [Prod.mk.injEq, and_true] at hc'
 obtain ⟨rfl, rfl⟩ := hc'
 have h0 : 0 <= hi := by
  rw [<- h2]
  obtain ⟨q0, q1⟩ := Czj ok h1.i
  have := h1.b
  exact (Dqa ok q0 q1 (by omega) (by omega) h1.t p0 p1).1
 have e1 := Dx1 ok ht p0 p1 h0 h12
 have e2 := Dx1 ok ht p0 p1 (hr := max 0 (hi - 1)) (by omega) (by omega)
 refine ⟨h0, e1, ?_, e2, fun hp => ?_⟩
 ·unfold Cyh
  rw [if_pos e1]
  exact (verd_always ok p0 p1 hne h12).2 fun i b ts h => (hb _ _ _ h (hall _ _ _ h)).2
 ·unfold Cyh
  rw [if_pos e2]
  intro hv
  have := (verd_always ok p0 p1 hne (by omega)).1 hv _ _ _ h1
  omega
def y3_174 := And.intro @callF8 (And.intro @callF7 (And.intro (fun H => Aqv (H := H) (P := Tryz.prog) (h := Tryz.zeroValue26)) (And.intro (fun H => Aqr (H := H) Tryz.sizeOf26) (And.intro (fun H => Aqp (H := H) Tryz.underlying26 rfl Tryz.sizeOf26) (And.intro @callF9 (And.intro (fun H => Aqd (H := H) Tryz.underlying26 (i := 0) rfl (off := 0) rfl Tryz.sizeOf3) (And.intro (fun H => Aqf (H := H) Tryz.underlying3 rfl) (And.intro @Dzr (And.intro (fun H => Aqv (H := H) (P := Tryz.prog) (h := Tryz.zeroValue34)) (And.intro (fun H => Aqr (H := H) Tryz.sizeOf34) (And.intro @callF11 (And.intro (fun H => Aqd (H := H) Tryz.underlying34 (i := 0) rfl (off := 0) rfl Tryz.sizeOf3) (And.intro @Ayx (And.intro (fun H => Aq8 (H := H) Tryz.underlying31) (And.intro (fun H => Aqu (H := H) Tryz.underlying31 Tryz.sizeOf41) (And.intro (fun H => Aqd (H := H) Tryz.underlying41 (i := 3) rfl (off := 3) rfl Tryz.sizeOf22) (And.intro (fun H => Aqf (H := H) Tryz.underlying22 rfl) (And.intro (fun H => Aqu (H := H) Tryz.underlying22 Tryz.sizeOf3) (And.intro (fun H => Aqd (H := H) Tryz.underlying34 (i := 1) rfl (off := 1) rfl Tryz.sizeOf3) (And.intro @Dzs (And.intro @Bvl @callF13)))))))))))))))))))))
theorem lssafe_spec (H : Hp) (sa : Option Addr) (sl sc : Nat) (hs : ∀ i : Nat, i < sl -> ∃ sb so c e fr x, sa = some ⟨sb, so, none⟩ /\ H sb = some (false, .cells c e fr) /\ c[so + i]? = some (.int .i64 x)) :
  FnX Tryz.prog (.wg Tryz.prog) 3 #[.slice sa sl sc] H fun e _ => e = .returned (.bool true) := by
 refine Aqo Tryz.func3 rfl Tryz.ntmps3 (by simp) ?_
 (refine @unH _ (zA y3_174 ?_); (repeat refine inC fun hc => ?_); try refine inK fun K hK => ?_)
 refine (newTin_spec _ H sa sl sc hs 240 (by omega)).runs.mono ?_
 rintro _ H1 ⟨tb, rfl, l1, hT⟩
 ((try refine @unH _ (zX y3_174 ?_)); (try (refine hK _ _ ?_; clear hK K; try refine @unH _ (zQ ?_))); refine @unH _ (zA y3_174 ?_); (repeat refine inC fun hc => ?_); try refine inK fun K hK => ?_)
 refine (smellOf_spec _ H1 tb 180 4 true (by omega) (by omega) hT).runs.mono ?_
 rintro _ H2 ⟨s, dv, hv, nv, cv, i, hr, ts, rfl, hs2, ok, hp5, hdl, hnl, hil, hr12, htk, hcv, htr, lex2, hT2, -⟩
 clear hT hs l1 lex2
 obtain ⟨da, dc, ha, kc, na, nc, rfl, rfl, rfl, l1, l2, l3⟩ := hs2.forms
 have htr := htr rfl
 ((try refine @unH _ (zX y3_174 ?_)); (try (refine hK _ _ ?_; clear hK K; try refine @unH _ (zQ ?_))); refine @unH _ (zA y3_174 ?_); (repeat refine inC fun hc => ?_); try refine inK fun K hK => ?_)
 (intro sb hsb; generalize hG : Hp.set _ sb _ = H3; have lH3 := Aqc hG hsb; have vsb := Aqb hG; clear hG)
 have hs3 := hs2.le lH3
 have hp0 := ok.p0
 have hd4 : s.doors.length <= 4 := by omega
 clear hs2 lH3 hsb hT2 hcv htk hdl
 ((try refine @unH _ (zX y3_174 ?_)); (try (refine hK _ _ ?_; clear hK K; try refine @unH _ (zQ ?_))); refine @unH _ (zA y3_174 ?_); (repeat refine inC fun hc => ?_); try refine inK fun K hK => ?_)
 refine (events_spec _ H3 s _ _ _ hs3 ok hd4).runs.mono ?_
 rintro _ H4 ⟨lv, rows, rfl, rL, sL, l34⟩
 obtain ⟨la, lc, rfl⟩ := rL.form
 have hrl : rows.length <= 100000 := by
  have h1 := evA_len s (Nat.le_trans (takesN_pow _) (Nat.pow_le_pow_right (n := 5) (by decide) hd4)) s.hampers.length
  have h2 := ok.h1
  have h3 := sL.1
  unfold evF at h3
  omega
 have vsb4 := l34 _ _ vsb
 have hs4 := hs3.le l34
 replace rL : Aqk _ := rL
 replace sL : Aqk _ := sL
 replace htr : Aqk _ := htr
 clear hs3 l34 vsb
 ((try refine @unH _ (zX y3_174 ?_)); (try (refine hK _ _ ?_; clear hK K; try refine @unH _ (zQ ?_))); refine @unH _ (zA y3_174 ?_); (repeat refine inC fun hc => ?_); try refine inK fun K hK => ?_)
 refine Bkv (fun e => e 3 = .pointer (some ⟨sb, 0, none⟩) /\ e 7 = .slice la rows.length lc /\ e 8 = .int .i64 0) ⟨rfl, rfl, rfl⟩ ?_
 rintro e ⟨e3, e7, e8⟩
 refine Axg (fun w a' H' => ∃ e, ∃ p : Nat, w = s.places.toNat - p /\ (p : Int) <= s.places /\ a' = act 142 e [] /\ e 3 = .pointer (some ⟨sb, 0, none⟩) /\ e 7 = .slice la rows.length lc /\ e 8 = .int .i64 (p : Nat) /\ H4.le H') (n := s.places.toNat) ?_ ?_
 ·exact ⟨_, 0, by omega, by omega, rfl, e3, e7, e8, Hp.le_refl _⟩
 clear e3 e7 e8 e
 rintro w a' H5 ⟨e, p, rfl, hp, rfl, e3, e7, e8, l45⟩
 have vsb5 := l45 _ _ vsb4
 by_cases hlp : (p : Int) < s.places
 ·have hs5 := hs4.le l45
  have hCo := Cq9 H5 s _ _ _ hs5 ok p
  have hSa := fun H (l : H5.le H) => sSafe_spec H s _ _ _ (hs5.le l) ok p
  have hsc := safe_com ok (p := p) (by omega) hlp (show Tr s i hr ts from htr)
  rw [hsc.1] at hSa
  generalize hC : comE s p = C at *
  obtain ⟨lo, hi, ce⟩ := C
  simp only at hCo
  replace hCo : Aqk _ := hCo
  replace hSa : Aqk _ := hSa
  replace hsc : Aqk _ := hsc
  replace hC : Aqk _ := hC
  (refine @unH _ (zA y3_174 ?_); (repeat refine inC fun hc => ?_); try refine inK fun K hK => ?_)
  refine (show FnX _ _ _ _ _ _ from hCo).runs.mono ?_
  rintro _ H6 ⟨rfl, l56⟩
  have l46 := Hp.le_trans l45 l56
  clear hCo
  ((try refine @unH _ (zX y3_174 ?_)); (try (refine hK _ _ ?_; clear hK K; try refine @unH _ (zQ ?_))); refine @unH _ (zA y3_174 ?_); (repeat refine inC fun hc => ?_); try refine inK fun K hK => ?_)
  (intro bb hbb; generalize hG : Hp.set _ bb _ = H7; have lH7 := Aqc hG hbb; have vbb := Aqb hG; clear hG)
  have l57 := Hp.le_trans l56 lH7
  have vsb7 := l57 _ _ vsb5
  have l47 := Hp.le_trans l45 l57
  clear hbb lH7 l56 l46 vsb5
  refine hK _ _ ?_
  clear hK K
  (try refine @unH _ (zQ ?_))
  (refine @unH _ (zA y3_174 ?_); (repeat refine inC fun hc => ?_); try refine inK fun K hK => ?_)
  refine ((show ∀ H, _ -> _ from hSa) H7 l57).runs.mono ?_
  rintro _ H8 ⟨rfl, l78⟩
  have vsb8 := l78 _ _ vsb7
  have vbb8 := l78 _ _ vbb
  have l48 := Hp.le_trans l47 l78
  clear hSa vsb7 vbb l57 l78 l47
  rcases (show _ /\ _ from hsc).2 with ⟨lo', hi', hq, b1, b2, b3, b4, hsf⟩ | ⟨hq, hsf⟩
  ·cases hq
   replace hsf : Aqk _ := hsf
   clear hsc
   rw [show Bye s p = _ from hsf]
   have hn : min 12 (lo - 1) = if (12 : Int) < lo - 1 then 12 else lo - 1 := by split <;> omega
   ((try refine @unH _ (zX y3_174 ?_)); (try (refine hK _ _ ?_; clear hK K; try refine @unH _ (zQ ?_))); refine @unH _ (zA y3_174 ?_); (repeat refine inC fun hc => ?_); try refine inK fun K hK => ?_)
   refine Axg (fun w a' H' => ∃ e, ∃ j : Nat, w = rows.length - j /\ j <= rows.length /\ a' = act 142 e [] /\ e 3 = .pointer (some ⟨sb, 0, none⟩) /\ e 7 = .slice la rows.length lc /\ e 8 = .int .i64 (p : Nat) /\ e 9 = .pointer (some ⟨bb, 0, none⟩) /\ e 10 = .int .i64 0 /\ e 13 = .bool (((evF s).take j).all fun x => decide (gI x.2.2.2 p < 1000)) /\ e 14 = .int .i64 (j : Nat) /\ H' = H8) (n := rows.length) ?_ ?_
   ·exact ⟨_, 0, by omega, by omega, rfl, e3, e7, e8, rfl, rfl, rfl, rfl, rfl⟩
   clear e3 e7 e8 e
   rintro w a' HQ ⟨e, j, rfl, hj, rfl, e3, e7, e8, e9, e10, e13, e14, hHQ⟩
   rw [hHQ]
   clear hHQ HQ
   by_cases hlj : j < rows.length
   ·have hlj' : (j : Int) < rows.length := by omega
    obtain ⟨x, hjx⟩ : ∃ x, (evF s)[j]? = some x := ⟨_, List.getElem?_eq_getElem (by rw [<- (show EvR H4 rows (evF s) from sL).1]; exact hlj)⟩
    obtain ⟨tv, cv2, hrow, -, hcv2⟩ := (show EvR H4 rows (evF s) from sL).2 j _ hjx
    obtain ⟨db, dof, dp, dcl, dfr, hdae, hdb, hdsz, -, hdext⟩ := SlG.get ((RowG.slG (by decide) (show RowG _ _ H4 _ rows from rL)).le l48) (i := j) hrow
    have hd3 : dcl[dof + j * 4 + 3]? = some cv2 := Bx6 (k := 3) hdext hdsz rfl
    have hmx := evF_mem.1 (List.mem_of_getElem? hjx)
    have htk : ((evF s).take (j + 1)).all (fun x => decide (gI x.2.2.2 p < 1000)) = (((evF s).take j).all (fun x => decide (gI x.2.2.2 p < 1000)) && decide (gI x.2.2.2 p < 1000)) := by
     rw [List.take_add_one, hjx, Option.toList_some, List.all_append]
     simp
    have hlc : x.2.2.2.length = s.places.toNat := by rw [hmx.2.2.2.1, Bzp]
    have hgx : x.2.2.2[p]? = some (gI x.2.2.2 p) := by
     have := Awg (c := x.2.2.2) (p := (p : Int)) (by omega) (by rw [hlc]; omega)
     rw [Int.toNat_natCast] at this
     exact this
    obtain ⟨cb, co, ccap, cp, ccl, cfr, rfl, -, hcb, hccell⟩ := hcv2.cons (fun e => by rw [e] at hgx; simp at hgx)
    have hcg := hccell _ _ hgx
    have hcb8 := l48 _ _ hcb
    have hpl : (p : Int) < x.2.2.2.length := by omega
    subst hdae
    clear hdext hrow hcv2 hccell hgx hmx hjx hcb
    replace htk : Aqk _ := htk
    generalize gI x.2.2.2 p = g at *
    generalize x.2.2.2.length = cn at *
    generalize hal : ((evF s).take j).all (fun x => decide (gI x.2.2.2 p < 1000)) = al at *
    cases al with
    | false =>
     (refine @unH _ (zA y3_174 ?_); (repeat refine inC fun hc => ?_); try refine inK fun K hK => ?_)
     exact ⟨rows.length - (j + 1), by omega, _, j + 1, rfl, by omega, rfl, e3, e7, e8, e9, e10, by rw [show List.all _ _ = _ from htk]; rfl, rfl, trivial⟩
    | true =>
     (refine @unH _ (zA y3_174 ?_); (repeat refine inC fun hc => ?_); try refine inK fun K hK => ?_)
     exact ⟨rows.length - (j + 1), by omega, _, j + 1, rfl, by omega, rfl, e3, e7, e8, e9, e10, by rw [show List.all _ _ = _ from htk]; rfl, rfl, trivial⟩
   ·obtain rfl : j = rows.length := by omega
    have hlj' : ¬ (rows.length : Int) < rows.length := by omega
    rw [List.take_of_length_le (by rw [(show EvR H4 rows (evF s) from sL).1]; exact Nat.le_refl _)] at e13
    generalize hal : (evF s).all (fun x => decide (gI x.2.2.2 p < 1000)) = al at *
    cases al with
    | false =>
     (refine @unH _ (zA y3_174 ?_); (repeat refine inC fun hc => ?_); try refine inK fun K hK => ?_)
     exact ⟨s.places.toNat - (p + 1), by omega, _, p + 1, rfl, by omega, rfl, e3, e7, rfl, l48⟩
    | true =>
     by_cases h12 : hi <= 12
     ·have hall : ∀ i b ts, Tr s i b ts -> Avs s i b ts p < 1000 := fun i b ts h => by
       have hm : (i, b, ts, Awf s (s.hampers.getD i 0) b ts) ∈ evF s := evF_mem.2 ⟨h.i, h.b, h.t, rfl, by
        unfold fitC
        rw [List.all_eq_true]
        intro n hn
        rw [h.n n hn]
        exact beq_self_eq_true _⟩
       exact of_decide_eq_true (List.all_eq_true.1 hal _ hm)
      obtain ⟨v0, v1, v2, v3, v4⟩ := safe_verd ok (p := p) (by omega) hlp (show Tr s i hr ts from htr) (show comE s p = (lo, hi, 0) from hC) hall h12
      have h12' : ¬ hi > 12 := by omega
      have hs8 := hs4.le l48
      have hV1 := Bvu H8 s _ _ _ hs8 ok p hi
      have hV2 := fun H (l : H8.le H) => Bvu H s _ _ _ (hs8.le l) ok p (max 0 (hi - 1))
      rw [v1, v2] at hV1
      rw [v3] at hV2
      replace hV1 : Aqk _ := hV1
      replace hV2 : Aqk _ := hV2
      replace v4 : Aqk _ := v4
      clear hall v1 v2 v3
      (refine @unH _ (zA y3_174 ?_); (repeat refine inC fun hc => ?_); try refine inK fun K hK => ?_)
      refine (show FnX _ _ _ _ _ _ from hV1).runs.mono ?_
      rintro _ H9 ⟨rfl, l89⟩
      have vbb9 := l89 _ _ vbb8
      have vsb9 := l89 _ _ vsb8
      have hmx : max 0 (hi - 1) = if (0 : Int) < hi - 1 then hi - 1 else 0 := by split <;> omega
      have l49 := Hp.le_trans l48 l89
      by_cases hh0 : 0 < hi
      ·have v5 : Cyh s p (max 0 (hi - 1)) ≠ 1 := (show 0 < hi -> _ from v4) hh0
       generalize Cyh s p (max 0 (hi - 1)) = vv at *
       ((try refine @unH _ (zX y3_174 ?_)); (try (refine hK _ _ ?_; clear hK K; try refine @unH _ (zQ ?_))); refine @unH _ (zA y3_174 ?_); (repeat refine inC fun hc => ?_); try refine inK fun K hK => ?_)
       rw [<- show max 0 (hi - 1) = if (0 : Int) < hi - 1 then hi - 1 else 0 from hmx]
       refine ((show ∀ H, _ -> _ from hV2) H9 l89).runs.mono ?_
       rintro _ H10 ⟨rfl, l910⟩
       have vbb10 := l910 _ _ vbb9
       have l410 := Hp.le_trans l49 l910
       clear hV2 hV1 v4 vbb9 vsb9 vbb8 vsb8 hmx
       ((try refine @unH _ (zX y3_174 ?_)); (try (refine hK _ _ ?_; clear hK K; try refine @unH _ (zQ ?_))); refine @unH _ (zA y3_174 ?_); (repeat refine inC fun hc => ?_); try refine inK fun K hK => ?_)
       exact ⟨s.places.toNat - (p + 1), by omega, _, p + 1, rfl, by omega, rfl, e3, e7, rfl, l410⟩
      ·obtain rfl : hi = 0 := by omega
       generalize Cyh s p (max 0 (0 - 1)) = vv at *
       clear hmx
       have hmx : (if (0 : Int) < 0 - 1 then 0 - 1 else 0) = max 0 ((0 : Int) - 1) := by decide
       replace hmx : Aqk _ := hmx
       ((try refine @unH _ (zX y3_174 ?_)); (try (refine hK _ _ ?_; clear hK K; try refine @unH _ (zQ ?_))); refine @unH _ (zA y3_174 ?_); (repeat refine inC fun hc => ?_); try refine inK fun K hK => ?_)
       rw [show (if (0 : Int) < 0 - 1 then 0 - 1 else 0) = max 0 ((0 : Int) - 1) from hmx]
       refine ((show ∀ H, _ -> _ from hV2) H9 l89).runs.mono ?_
       rintro _ H10 ⟨rfl, l910⟩
       have vbb10 := l910 _ _ vbb9
       have l410 := Hp.le_trans l49 l910
       clear hV2 hV1 v4 vbb9 vsb9 vbb8 vsb8 hmx
       ((try refine @unH _ (zX y3_174 ?_)); (try (refine hK _ _ ?_; clear hK K; try refine @unH _ (zQ ?_))); refine @unH _ (zA y3_174 ?_); (repeat refine inC fun hc => ?_); try refine inK fun K hK => ?_)
       exact ⟨s.places.toNat - (p + 1), by omega, _, p + 1, rfl, by omega, rfl, e3, e7, rfl, l410⟩
     ·have h12' : hi > 12 := by omega
      (refine @unH _ (zA y3_174 ?_); (repeat refine inC fun hc => ?_); try refine inK fun K hK => ?_)
      exact ⟨s.places.toNat - (p + 1), by omega, _, p + 1, rfl, by omega, rfl, e3, e7, rfl, l48⟩
  ·cases hq
   clear hsc
   rw [hsf]
   clear hsf
   ((try refine @unH _ (zX y3_174 ?_)); (try (refine hK _ _ ?_; clear hK K; try refine @unH _ (zQ ?_))); refine @unH _ (zA y3_174 ?_); (repeat refine inC fun hc => ?_); try refine inK fun K hK => ?_)
   refine Axg (fun w a' H' => ∃ e, ∃ j : Nat, w = rows.length - j /\ j <= rows.length /\ a' = act 142 e [] /\ e 3 = .pointer (some ⟨sb, 0, none⟩) /\ e 7 = .slice la rows.length lc /\ e 8 = .int .i64 (p : Nat) /\ e 9 = .pointer (some ⟨bb, 0, none⟩) /\ e 10 = .int .i64 11 /\ e 13 = .bool (((evF s).take j).all fun x => decide (gI x.2.2.2 p < 1000)) /\ e 14 = .int .i64 (j : Nat) /\ H' = H8) (n := rows.length) ?_ ?_
   ·exact ⟨_, 0, by omega, by omega, rfl, e3, e7, e8, rfl, rfl, rfl, rfl, rfl⟩
   clear e3 e7 e8 e
   rintro w a' HQ ⟨e, j, rfl, hj, rfl, e3, e7, e8, e9, e10, e13, e14, hHQ⟩
   rw [hHQ]
   clear hHQ HQ
   by_cases hlj : j < rows.length
   ·have hlj' : (j : Int) < rows.length := by omega
    obtain ⟨x, hjx⟩ : ∃ x, (evF s)[j]? = some x := ⟨_, List.getElem?_eq_getElem (by rw [<- (show EvR H4 rows (evF s) from sL).1]; exact hlj)⟩
    obtain ⟨tv, cv2, hrow, -, hcv2⟩ := (show EvR H4 rows (evF s) from sL).2 j _ hjx
    obtain ⟨db, dof, dp, dcl, dfr, hdae, hdb, hdsz, -, hdext⟩ := SlG.get ((RowG.slG (by decide) (show RowG _ _ H4 _ rows from rL)).le l48) (i := j) hrow
    have hd3 : dcl[dof + j * 4 + 3]? = some cv2 := Bx6 (k := 3) hdext hdsz rfl
    have hmx := evF_mem.1 (List.mem_of_getElem? hjx)
    have htk : ((evF s).take (j + 1)).all (fun x => decide (gI x.2.2.2 p < 1000)) = (((evF s).take j).all (fun x => decide (gI x.2.2.2 p < 1000)) && decide (gI x.2.2.2 p < 1000)) := by
     rw [List.take_add_one, hjx, Option.toList_some, List.all_append]
     simp
    have hlc : x.2.2.2.length = s.places.toNat := by rw [hmx.2.2.2.1, Bzp]
    have hgx : x.2.2.2[p]? = some (gI x.2.2.2 p) := by
     have := Awg (c := x.2.2.2) (p := (p : Int)) (by omega) (by rw [hlc]; omega)
     rw [Int.toNat_natCast] at this
     exact this
    obtain ⟨cb, co, ccap, cp, ccl, cfr, rfl, -, hcb, hccell⟩ := hcv2.cons (fun e => by rw [e] at hgx; simp at hgx)
    have hcg := hccell _ _ hgx
    have hcb8 := l48 _ _ hcb
    have hpl : (p : Int) < x.2.2.2.length := by omega
    subst hdae
    clear hdext hrow hcv2 hccell hgx hmx hjx hcb
    replace htk : Aqk _ := htk
    generalize gI x.2.2.2 p = g at *
    generalize x.2.2.2.length = cn at *
    generalize hal : ((evF s).take j).all (fun x => decide (gI x.2.2.2 p < 1000)) = al at *
    cases al with
    | false =>
     (refine @unH _ (zA y3_174 ?_); (repeat refine inC fun hc => ?_); try refine inK fun K hK => ?_)
     exact ⟨rows.length - (j + 1), by omega, _, j + 1, rfl, by omega, rfl, e3, e7, e8, e9, e10, by rw [show List.all _ _ = _ from htk]; rfl, rfl, trivial⟩
    | true =>
     (refine @unH _ (zA y3_174 ?_); (repeat refine inC fun hc => ?_); try refine inK fun K hK => ?_)
     exact ⟨rows.length - (j + 1), by omega, _, j + 1, rfl, by omega, rfl, e3, e7, e8, e9, e10, by rw [show List.all _ _ = _ from htk]; rfl, rfl, trivial⟩
   ·obtain rfl : j = rows.length := by omega
    have hlj' : ¬ (rows.length : Int) < rows.length := by omega
    generalize ((evF s).take rows.length).all (fun x => decide (gI x.2.2.2 p < 1000)) = al at *
    cases al with
    | false =>
     (refine @unH _ (zA y3_174 ?_); (repeat refine inC fun hc => ?_); try refine inK fun K hK => ?_)
     exact ⟨s.places.toNat - (p + 1), by omega, _, p + 1, rfl, by omega, rfl, e3, e7, rfl, l48⟩
    | true =>
     (refine @unH _ (zA y3_174 ?_); (repeat refine inC fun hc => ?_); try refine inK fun K hK => ?_)
     exact ⟨s.places.toNat - (p + 1), by omega, _, p + 1, rfl, by omega, rfl, e3, e7, rfl, l48⟩
 ·obtain hpe : (p : Int) = s.places := by omega
  have hlp' : ¬ (p : Int) < s.places := hlp
  (refine @unH _ (zA y3_174 ?_); (repeat refine inC fun hc => ?_); try refine inK fun K hK => ?_)
  refine (smelled_spec H5).runs.mono ?_
  rintro _ H6 ⟨rfl, -⟩
  ((try refine @unH _ (zX y3_174 ?_)); (try (refine hK _ _ ?_; clear hK K; try refine @unH _ (zQ ?_))); refine @unH _ (zA y3_174 ?_); (repeat refine inC fun hc => ?_); try refine inK fun K hK => ?_)
  (refine Axr ?_; (try simp only [nq, ↓reduceIte, Nat.reduceEqDiff]); rw [Aq7, Ay1 Tryz.results3 (by decide)]; simp only [Axn, Nat.reduceEqDiff, ↓reduceIte])
end Go.Proofs.YtnfnaehonkbknaaGreatDoor
end
section
namespace Go.Proofs.YtnfnaehonkbknaaGreatDoor
open Go Go.X Go.ChangeShapes Go.WideShapes Go.RowKit
set_option maxRecDepth 100000 in
theorem law_lifted (os : Os) (started : os.Started) (H : Type) (enc : TypeId × Value -> H) :
  ReturnsInLeavingWide {} Tryz.checked os 3 .any (fun w args => (Rows.smellSafeSpec.pre enc Tryz.prog Tryz.f3 [] false w args /\ laidMetH Tryz.prog [("errors.errorType", Rows.laid_errors_errorType)] w) /\ sizedMet enc Tryz.prog Tryz.f3 (OpenSpec.ofChange Rows.smellSafeSpec) false w args)
   (Rows.smellSafeSpec.post enc Tryz.prog Tryz.f3 false true false false) := by
 refine leaving_of_change_and (C := Tryz.checked) (X := fun w _ => laidMetH Tryz.prog [("errors.errorType", Rows.laid_errors_errorType)] w) (fun _ _ _ hh h => h.of_heap hh) ownK started Tryz.func3
  (ChangeSpec.witness_at (enc := enc) (C := Tryz.checked) (os := os) (X := fun w _ => laidMetH Tryz.prog [("errors.errorType", Rows.laid_errors_errorType)] w) false (laidWorld os) #[.slice none 0 0] 8 rfl (by kernel_rfl) (by kernel_rfl) (by kernel_rfl) (by kernel_rfl) (by kernel_rfl) (laidWorld_met os _)) ?_
 intro W base args ds gs before hval0 hW hL
 have hval : ∀ (j : Nat) t v, Tryz.f3.params[j]? = some t -> args[j]? = some v -> Value.okWide Tryz.prog W .any base t v := hval0
 have hW' := hW
 obtain ⟨p, q, hA0, hV0, rfl, hfz, hnd⟩ := hW
 have hA : DataW.TrodAll enc Tryz.prog W 0 (fun _ => true) true Tryz.f3.params.toList args.toList ds p := hA0
 have hV : DataW.TrodVars enc Tryz.prog W (fun _ => true) [] gs q := hV0
 rw [Tryz.params3] at hA hval
 obtain ⟨v0, d0, rfl, rfl, h0⟩ := trodAll_one hA
 obtain ⟨a0, len, cap, rfl⟩ := okWide_slice Tryz.underlying22 (hval 0 22 v0 rfl rfl)
 have h0k := h0
 obtain ⟨fuel, hf⟩ := h0
 obtain ⟨rfl, rfl⟩ : gs = [] /\ q = [] := by
  cases gs with
  | nil => exact ⟨rfl, hV⟩
  | cons g r => exact absurd hV (by intro h; cases h)
 have e1 : Rows.smellSafeSpec.fn H ([d0] ++ []) = { results := [.lit (.bool true)], args := [d0] } := by simp [Rows.smellSafeSpec]
 have hcells : ∀ i : Nat, i < len -> ∃ sb so c e fr x, a0 = some ⟨sb, so, none⟩ /\ Bqc W sb = some (false, .cells c e fr) /\ c[so + i]? = some (.int .i64 x) := by
  rcases open_ints Tryz.underlying22 Tryz.underlying3 cellsK hf with ⟨hcs, _⟩ | ⟨a, len', cap', zs, hcs, _, hl, hm, hz, hx, hcell, hwz⟩
  ·simp [Value.cells] at hcs
   intro i hi
   omega
  ·simp [Value.cells] at hcs
   obtain ⟨rfl, rfl, rfl⟩ := hcs
   intro i hi
   simp only [if_true] at hz
   have hc := hcell i (by omega)
   obtain ⟨b, off, spot⟩ := a
   have hspot : spot = none := by simpa [Addr.add] using World.cell?_spot (hcell 0 (by omega))
   subst hspot
   rw [add_plain] at hc
   unfold World.cell? at hc
   split at hc
   ·rename_i c e fr hb
    exact ⟨b, off, c, e, fr, _, rfl, by simp [Bqc, hb], by simpa using hc⟩
   ·cases hc
 have hlt : ∀ x ∈ p, x.block < W.heap.size := fun x hx => by simpa using hW'.lt x (by simpa using hx)
 obtain ⟨N, last, o, w', t', r1, r2, r3, v, hv, ⟨rfl, hB⟩, r4⟩ := (lssafe_spec (Bqc W) a0 len cap hcells).goodW Tryz.func3 (results_tmp Tryz.results3 _) (by kernel_rfl)
 refine ⟨N, last, o, w', t', r1, r2, r3, _, hv, ?_, r4⟩
 have hb := hB.below
 refine ⟨_, _, _, [], p, [], hW', ?_, ?_, ?_, hB.kept _, fun h => by cases h⟩
 ·rw [e1]; exact trodAll_mk1 (shut_bool Tryz.underlying4 true)
 ·rw [e1]
  have t := trodAll_mk1 (DataW.Trod.of_heap (w := { w' with tape := W.tape }) (w' := w') rfl (Below.trod laidOutK (by kernel_rfl) (of_decide_eq_true (by kernel_rfl)) h0k hb hlt))
  exact t
 ·rw [e1]; rfl
end Go.Proofs.YtnfnaehonkbknaaGreatDoor
end
section
namespace Go.Proofs.YtnfnaehonkbknaaGreatDoor
open Go Go.X Go.ChangeShapes Go.WideShapes Go.RowKit
theorem jEnter : Program.mayEnter Tryz.pinned.checked.prog = true := factEnter
theorem jLift : (Rows.smellSafeRow.lifted == Program.liftsFinal Tryz.pinned.checked.prog) = true := by rw [show Program.liftsFinal Tryz.pinned.checked.prog = Rows.smellSafeRow.lifted from factLift]; exact beq_self_eq_true _
theorem jMake : (Program.make Tryz.pinned.checked.prog == some Rows.smellSafeRow.make) = true := by rw [show Program.make Tryz.pinned.checked.prog = some Rows.smellSafeRow.make from factMake]; exact beq_self_eq_true _
set_option maxRecDepth 100000 in
theorem jf : joinedFacts Tryz.pinned.checked.prog 3 Tryz.f3 Rows.smellSafeSpec Rows.smellSafeRow = true := by
 unfold joinedFacts
 simp only [jEnter, jLift, jMake, Bool.and_true]
 kernel_rfl
set_option maxRecDepth 100000 in
theorem smellSafe_said : Rows.SmellSafeSaid :=
 OpenClaim.holds_of_wide_leaving 3 Tryz.f3 rfl rfl rfl rfl rfl rfl rfl ⟨rfl, rfl, rfl, rfl, rfl⟩ rfl rfl rfl rfl rfl (by kernel_rfl) Tryz.func3 jf
  (of_decide_eq_true (by kernel_rfl)) (by unfold Func.isWrapper; rw [if_neg (of_decide_eq_false (by kernel_rfl))]; exact ⟨rfl, rfl⟩)
  (fun os started H enc _ => law_lifted os started H enc)
end Go.Proofs.YtnfnaehonkbknaaGreatDoor
end
