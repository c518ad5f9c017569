/- Texts SmPw SmKw SmKs SmWt SmSb LSWrong PSmellWrong SSmellWrong. -/
import Derived.Test.YtkenloilljeliaaGreatDoorJ23
import Derived.Test.YtkenloilljeliaaGreatDoorAFactA
import Derived.Test.YtkenloilljeliaaGreatDoorAFactSB
import Derived.Test.YtkenloilljeliaaGreatDoorAFactSC
set_option linter.defProp false
set_option linter.unusedSimpArgs false
set_option linter.unusedVariables false
set_option maxRecDepth 100000
set_option maxHeartbeats 2000000
section
namespace Go.Proofs.YtkenloilljeliaaGreatDoor
open Go Go.X
def subsF (n : Nat) : Nat -> Nat -> List (List Int)
 | 0, _ => [[]]
 | k + 1, first => (List.range (n - k - first)).flatMap fun j : Nat => (subsF n k (first + j + 1)).map fun l => ((first + j : Nat) : Int) :: l
theorem listsG_subs (n : Nat) (hn : n <= 4) : Bqc n = (List.range (n + 1)).flatMap fun k => subsF n k 0 := by
 rcases (by omega : n = 0 ∨ n = 1 ∨ n = 2 ∨ n = 3 ∨ n = 4) with rfl | rfl | rfl | rfl | rfl <;> kernel_rfl
def withoutN (ns : List Ns) (l : List Int) : List Ns := ((ns.zipIdx).filter fun x => !(l.contains (x.2 : Int))).map (·.1)
theorem without_0 : ∀ l ∈ Bqc 0, withoutN [] l = woN [] l := by
 rw [show Bqc 0 = [[]] by kernel_rfl]
 simp only [List.mem_cons, List.not_mem_nil, or_false]
 rintro l rfl
 rfl
theorem without_1 (a : Ns) : ∀ l ∈ Bqc 1, withoutN [a] l = woN [a] l := by
 rw [show Bqc 1 = [[], [0]] by kernel_rfl]
 simp only [List.mem_cons, List.not_mem_nil, or_false]
 rintro l (rfl | rfl) <;> rfl
theorem without_2 (a b : Ns) : ∀ l ∈ Bqc 2, withoutN [a, b] l = woN [a, b] l := by
 rw [show Bqc 2 = [[], [0], [1], [0, 1]] by kernel_rfl]
 simp only [List.mem_cons, List.not_mem_nil, or_false]
 rintro l (rfl | rfl | rfl | rfl) <;> rfl
theorem without_3 (a b c : Ns) : ∀ l ∈ Bqc 3, withoutN [a, b, c] l = woN [a, b, c] l := by
 rw [show Bqc 3 = [[], [0], [1], [2], [0, 1], [0, 2], [1, 2], [0, 1, 2]] by kernel_rfl]
 simp only [List.mem_cons, List.not_mem_nil, or_false]
 rintro l (rfl | rfl | rfl | rfl | rfl | rfl | rfl | rfl) <;> rfl
theorem slen_two {α : Type} {l : List α} (h : l.length = 2) : ∃ a b, l = [a, b] := by
 match l, h with
 | [a, b], _ => exact ⟨a, b, rfl⟩
theorem slen_three {α : Type} {l : List α} (h : l.length = 3) : ∃ a b c, l = [a, b, c] := by
 match l, h with
 | [a, b, c], _ => exact ⟨a, b, c, rfl⟩
theorem without_wo {ns : List Ns} (h : ns.length <= 3) {l : List Int} (hl : l ∈ Bqc ns.length) : withoutN ns l = woN ns l := by
 generalize hn : ns.length = n at h hl
 rcases (by omega : n = 0 ∨ n = 1 ∨ n = 2 ∨ n = 3) with rfl | rfl | rfl | rfl
 ·obtain rfl := List.length_eq_zero_iff.1 hn
  exact without_0 l hl
 ·obtain ⟨a, rfl⟩ := List.length_eq_one_iff.1 hn
  exact without_1 a l hl
 ·obtain ⟨a, b, rfl⟩ := slen_two hn
  exact without_2 a b l hl
 ·obtain ⟨a, b, c, rfl⟩ := slen_three hn
  exact without_3 a b c l hl
def allL (n : Nat) : List Int := (List.range n).map fun k : Nat => (k : Int)
theorem allL_in (n : Nat) (hn : n <= 4) : allL n ∈ Bqc n := by
 rw [listsG_subs n hn, List.mem_flatMap]
 refine ⟨n, List.mem_range.2 (by omega), ?_⟩
 rcases (by omega : n = 0 ∨ n = 1 ∨ n = 2 ∨ n = 3 ∨ n = 4) with rfl | rfl | rfl | rfl | rfl
 ·rw [show subsF 0 0 0 = [allL 0] by kernel_rfl]; exact List.mem_cons_self
 ·rw [show subsF 1 1 0 = [allL 1] by kernel_rfl]; exact List.mem_cons_self
 ·rw [show subsF 2 2 0 = [allL 2] by kernel_rfl]; exact List.mem_cons_self
 ·rw [show subsF 3 3 0 = [allL 3] by kernel_rfl]; exact List.mem_cons_self
 ·rw [show subsF 4 4 0 = [allL 4] by kernel_rfl]; exact List.mem_cons_self
theorem wo_all {ns : List Ns} (h : ns.length <= 3) : woN ns (allL ns.length) = [] := by
 generalize hn : ns.length = n at h ⊢
 rcases (by omega : n = 0 ∨ n = 1 ∨ n = 2 ∨ n = 3) with rfl | rfl | rfl | rfl
 ·obtain rfl := List.length_eq_zero_iff.1 hn
  rfl
 ·obtain ⟨a, rfl⟩ := List.length_eq_one_iff.1 hn
  rfl
 ·obtain ⟨a, b, rfl⟩ := slen_two hn
  rfl
 ·obtain ⟨a, b, c, rfl⟩ := slen_three hn
  rfl
theorem wo_some {s : Sm} (ok : SmOk s) (h : s.noses.length <= 3) : 0 < Azy (woS s (allL s.noses.length)) := by
 have hw : (woS s (allL s.noses.length)).noses = [] := wo_all h
 have : Azy (woS s (allL s.noses.length)) ≠ 0 := (nSusp_tr (Dve ok _)).2 ⟨0, 0, s.doors.map Dr.mn, ok.h0, by omega, Dji (pl := s.places) ok.dk, fun n hn => by rw [hw] at hn; cases hn⟩
 omega
theorem wro_is {s : Sm} (ok : SmOk s) {A B : List (List Int)} {l : List Int} (he : Bqc s.noses.length = A ++ l :: B) (hA : ∀ x ∈ A, Azy (woS s x) = 0) (hl : 0 < Azy (woS s l)) : wroF s = l := by
 unfold wroF
 rw [he, List.find?_append, List.find?_eq_none.2 fun x hx => by rw [hA x hx]; decide]
 simp [hl]
theorem SlN.one {ns : List Ns} : ∀ r ∈ ns.map Bjh, ∀ u ∈ r, one u = true := fun r hr u hu => by
 obtain ⟨d, _, rfl⟩ := List.mem_map.1 hr
 simp only [Bjh, List.mem_cons, List.not_mem_nil, or_false] at hu
 rcases hu with rfl | rfl | rfl <;> rfl
theorem RowG.le {e : TypeId} {sz : Nat} {H H' : Hp} {v : Value} {rows : List (List Value)} (h : RowG e sz H v rows) (hl : H.le H') : RowG e sz H' v rows := h.keep fun x u _ hu => hl _ _ hu
theorem SmIn.put {H : Hp} {dv hv nv : Value} {s : Sm} (h : SmIn H dv hv nv s) {b : Nat} {q : Bool} {c : Array Value} {fr : Nat × Nat} (hb : H b = some (q, .cells c 26 fr)) (o : Array Value) : SmIn (H.set b (.cells o 26 (0, 0))) dv hv nv s := ⟨SlG.put h.dd hb (by decide) _, SlI.put h.hh hb (by decide) _, SlG.put h.nn hb (by decide) _⟩
def y14_168 := And.intro (fun H => Aqv (H := H) (P := Tryz.prog) (h := Tryz.zeroValue26)) (And.intro (fun H => Aqd (H := H) Tryz.underlying26 (i := 3) rfl (off := 3) rfl Tryz.sizeOf24) (And.intro (fun H => Aqg (H := H) Tryz.underlying24 rfl) (And.intro (fun H => Aq6 (H := H) Tryz.underlying24) (And.intro @callF54 (And.intro (fun H => Aqu (H := H) Tryz.underlying24 Tryz.sizeOf53) (And.intro (fun H => Aqp (H := H) Tryz.underlying53 rfl Tryz.sizeOf53) (And.intro (fun H => Av8 (H := H) Tryz.underlying24 Tryz.sizeOf53 Tryz.zeroValue53 rfl (by decide) (by decide)) (And.intro (fun H => Azp (H := H) Tryz.sizeOf24) (And.intro (fun H => Aqp (H := H) Tryz.underlying26 rfl Tryz.sizeOf26) (fun H => Aqr (H := H) Tryz.sizeOf26))))))))))
def y54_168 := And.intro (fun H => Aq6 (H := H) Tryz.underlying22) (And.intro (fun H => Aqu (H := H) Tryz.underlying22 Tryz.sizeOf3) (fun H => Aqg (H := H) Tryz.underlying3 rfl))
theorem has9_spec (m : Md) (H : Hp) (v : Value) (xs : List Int) (x : Int) (hv : SlI H v xs) (hl : xs.length <= 1000) :
  FnX Tryz.prog m 54 #[v, .int .i64 x] H fun e H' => e = .returned (.bool (xs.contains x)) /\ H' = H := by
 obtain ⟨a, cap, rfl, _, _⟩ : ∃ a cap, v = .slice a xs.length cap /\ True /\ True := by
  obtain ⟨a, cap, h, _⟩ := hv
  exact ⟨a, cap, h, trivial, trivial⟩
 replace hv : Aqk _ := hv
 refine Aqo Tryz.func54 rfl Tryz.ntmps54 (by simp) ?_
 (refine @unH _ (zA y54_168 ?_); (repeat refine inC fun hc => ?_); try refine inK fun K hK => ?_)
 refine Axg (fun w a' H' => ∃ e, ∃ j : Nat, w = xs.length - j /\ j <= xs.length /\ a' = act 18 e [] /\ e 0 = .slice a xs.length cap /\ e 1 = .int .i64 x /\ e 4 = .bool false /\ e 5 = .int .i64 (j : Nat) /\ H' = H /\ Aqk (x ∉ xs.take j)) (n := xs.length) ?_ ?_
 ·exact ⟨_, 0, by omega, by omega, rfl, rfl, rfl, rfl, rfl, rfl, by show x ∉ List.take 0 xs; simp⟩
 rintro w a' H' ⟨e, j, rfl, hj, rfl, e0, e1, e4, e5, hHQ, hx⟩
 rw [hHQ]
 clear hHQ H'
 by_cases hlj : j < xs.length
 ·have hlj' : (j : Int) < xs.length := by omega
  have hkd := List.getElem?_eq_getElem hlj
  obtain ⟨db, dof, dp, dcl, dfr, hae, hdb, hdc⟩ := SlI.get (show SlI H (.slice a xs.length cap) xs from hv) hkd
  subst hae
  have htk : xs.take (j + 1) = xs.take j ++ [xs[j]] := by rw [List.take_add_one, hkd]; rfl
  have hm := List.mem_of_getElem? hkd
  replace htk : Aqk _ := htk
  generalize xs[j] = y at *
  clear hkd
  by_cases hyx : y = x
  ·subst hyx
   have hct : xs.contains y = true := by simpa using hm
   replace hct : Aqk _ := hct
   clear hm
   (refine @unH _ (zA y54_168 ?_); (repeat refine inC fun hc => ?_); try refine inK fun K hK => ?_)
   (refine @unH _ ?_; refine z9 Tryz.results54 ?_)
   exact ⟨by rw [show xs.contains y = true from hct], trivial⟩
  ·clear hm
   (refine @unH _ (zA y54_168 ?_); (repeat refine inC fun hc => ?_); try refine inK fun K hK => ?_)
   refine ⟨xs.length - (j + 1), by omega, _, j + 1, rfl, by omega, rfl, e0, e1, e4, rfl, trivial, ?_⟩
   show x ∉ xs.take (j + 1)
   rw [show xs.take (j + 1) = _ from htk]
   have : x ∉ xs.take j := hx
   simp [this, Ne.symm hyx]
 ·have hlj' : ¬ (j : Int) < xs.length := by omega
  have hx' : x ∉ xs.take j := hx
  rw [List.take_of_length_le (by omega)] at hx'
  have hct : xs.contains x = false := by simpa using hx'
  replace hct : Aqk _ := hct
  clear hx'
  (refine @unH _ (zA y54_168 ?_); (repeat refine inC fun hc => ?_); try refine inK fun K hK => ?_)
  (refine @unH _ ?_; refine z9 Tryz.results54 ?_)
  exact ⟨by rw [show xs.contains x = false from hct], trivial⟩
def wjN (ns : List Ns) (l : List Int) (j : Nat) : List Ns := (((ns.zipIdx).take j).filter fun x => !(l.contains (x.2 : Int))).map (·.1)
theorem wjN_step {ns : List Ns} {j : Nat} {d : Ns} (h : ns[j]? = some d) (l : List Int) : wjN ns l (j + 1) = if l.contains (j : Int) then wjN ns l j else wjN ns l j ++ [d] := by
 have hz : ns.zipIdx[j]? = some (d, j) := by rw [List.getElem?_zipIdx, h]; simp
 unfold wjN
 rw [List.take_add_one, hz, Option.toList_some, List.filter_append, List.map_append]
 have h1 : ([(d, j)] : List (Ns × Nat)).filter (fun x => !(l.contains (x.2 : Int))) = if l.contains (j : Int) then [] else [(d, j)] := by
  cases hc : l.contains (j : Int) <;> simp only [List.filter_cons, List.filter_nil, hc, Bool.not_true, Bool.not_false, if_true, Bool.false_eq_true, if_false]
 rw [h1]
 split
 ·simp
 ·rfl
theorem wjN_all (ns : List Ns) (l : List Int) {j : Nat} (h : ns.length <= j) : wjN ns l j = withoutN ns l := by
 unfold wjN withoutN
 rw [List.take_of_length_le (by rw [List.length_zipIdx]; exact h)]
theorem wjN_len (ns : List Ns) (l : List Int) (j : Nat) : (wjN ns l j).length <= ns.length := by
 unfold wjN
 rw [List.length_map]
 refine Nat.le_trans (List.length_filter_le _ _) ?_
 rw [List.length_take, List.length_zipIdx]
 omega
def woutS (s : Sm) (l : List Int) : Sm := ⟨s.places, s.doors, s.hampers, withoutN s.noses l⟩
theorem without_spec (m : Md) (H : Hp) (s : Sm) (dv hv nv : Value) (hs : SmIn H dv hv nv s) (hl3 : s.noses.length <= 1000) (lv : Value) (l : List Int) (hlv : SlI H lv l) (hll : l.length <= 1000) :
  FnX Tryz.prog m 14 #[smV s.places dv hv nv, lv] H fun e H' => ∃ nv', e = .returned (smV s.places dv hv nv') /\ SmIn H' dv hv nv' (woutS s l) /\ H.le H' := by
 obtain ⟨da, dc, ha, kc, na, nc, rfl, rfl, rfl, -, -, -⟩ := hs.forms
 obtain ⟨la, ln, lc, rfl⟩ := hlv.isSlice
 have hHas := fun H' (le : H.le H') x => has9_spec m H' _ l x (SlI.le hlv le) hll
 replace hlv : Aqk _ := hlv
 replace hHas : Aqk _ := hHas
 refine Aqo Tryz.func14 rfl Tryz.ntmps14 (by simp) ?_
 (refine @unH _ (zA y14_168 ?_); (repeat refine inC fun hc => ?_); try refine inK fun K hK => ?_)
 (intro sb hsb rb hrb; replace hrb : (Hp.set _ sb _) rb = none := hrb; generalize hG : Hp.set _ sb _ = H1 at hrb ⊢; have lH1 := Aqc hG hsb; have wsb := Aqb hG; clear hG; generalize hG : Hp.set _ rb _ = H2; have lH2 := Aqc hG hrb; have vrb := Aqb hG; have vsb := lH2 _ _ wsb; have nsbrb := Aqq wsb hrb; clear hG wsb)
 have l2 := Hp.le_trans lH1 lH2
 have hrb0 : H rb = none := Hp.le_none lH1 hrb
 have hsb0 : H sb = none := hsb
 clear lH1 lH2 hsb hrb
 ((try refine @unH _ (zX y14_168 ?_)); (try (refine hK _ _ ?_; clear hK K; try refine @unH _ (zQ ?_))); refine @unH _ (zA y14_168 ?_); (repeat refine inC fun hc => ?_); try refine inK fun K hK => ?_)
 refine Axg (fun w a' H' => ∃ e v, ∃ j : Nat, w = s.noses.length - j /\ j <= s.noses.length /\ a' = act 29 e [] /\ e 1 = .slice la ln lc /\ e 2 = .pointer (some ⟨sb, 0, none⟩) /\ e 4 = .pointer (some ⟨rb, 0, none⟩) /\ e 5 = v /\ e 6 = .int .i64 (j : Nat) /\ H2.le H' /\ RowG 53 3 H' v ((wjN s.noses l j).map Bjh) /\ Aqk (∀ x, rowB v = some x -> H2 x = none)) (n := s.noses.length) ?_ ?_
 ·exact ⟨_, _, 0, by omega, by omega, rfl, rfl, rfl, rfl, rfl, rfl, Hp.le_refl _, RowG.nil, fun x hx => by cases hx⟩
 rintro w a' H3 ⟨e, v, j, rfl, hj, rfl, e1, e2, e4, e5, e6, l23, hR, hnw⟩
 have vsb3 := l23 _ _ vsb
 obtain ⟨ra, rc, rfl⟩ := hR.form
 replace hR : Aqk _ := hR
 by_cases hlj : j < s.noses.length
 ·have hlj' : (j : Int) < s.noses.length := by omega
  have hkd := List.getElem?_eq_getElem hlj
  obtain ⟨db, dof, dp, dcl, dfr, hdae, hdb0, hdsz, -, hdext⟩ := SlG.get (SlG.le hs.nn (Hp.le_trans l2 l23)) (i := j) (r := Bjh s.noses[j]) (by rw [List.getElem?_map, hkd]; rfl)
  have hstep := wjN_step hkd l
  have hA := (show ∀ H', H.le H' -> ∀ x, _ from hHas) H3 (Hp.le_trans l2 l23) j
  subst hdae
  generalize s.noses[j] = d at *
  unfold Bjh at hdext
  clear hkd
  replace hstep : Aqk _ := hstep
  replace hA : Aqk _ := hA
  (refine @unH _ (zA y14_168 ?_); (repeat refine inC fun hc => ?_); try refine inK fun K hK => ?_)
  refine (show FnX _ _ _ _ _ _ from hA).runs.mono ?_
  rintro _ HQ ⟨rfl, hHQ⟩
  rw [hHQ]
  clear hHQ HQ hA
  have hR' : RowG 53 3 H3 _ ((wjN s.noses l j).map Bjh) := hR
  have hst : wjN s.noses l (j + 1) = if l.contains (j : Int) then wjN s.noses l j else wjN s.noses l j ++ [d] := hstep
  cases hct : l.contains (j : Int) with
  | true =>
   rw [hct, if_pos rfl] at hst
   clear hdb0 hdext hdsz hR hstep hct
   replace hst : Aqk _ := hst
   replace hR' : Aqk _ := hR'
   ((try refine @unH _ (zX y14_168 ?_)); (try (refine hK _ _ ?_; clear hK K; try refine @unH _ (zQ ?_))); refine @unH _ (zA y14_168 ?_); (repeat refine inC fun hc => ?_); try refine inK fun K hK => ?_)
   exact ⟨s.noses.length - (j + 1), by omega, _, _, j + 1, rfl, by omega, rfl, e1, e2, e4, e5, rfl, l23, by rw [show wjN s.noses l (j + 1) = _ from hst]; exact hR', hnw⟩
  | false =>
   rw [hct, if_neg (by simp)] at hst
   have hwl := wjN_len s.noses l j
   clear hR hstep hct
   replace hst : Aqk _ := hst
   replace hwl : Aqk _ := hwl
   ((try refine @unH _ (zX y14_168 ?_)); (try (refine hK _ _ ?_; clear hK K; try refine @unH _ (zQ ?_))); refine @unH _ (zA y14_168 ?_); (repeat refine inC fun hc => ?_); try refine inK fun K hK => ?_)
   intro g hg
   refine Ayc Tryz.underlying24 Tryz.sizeOf53 Tryz.zeroValue53 rfl Tryz.typeInfo53 (by decide) (by decide) (show RowG _ _ H3 _ _ from hR') (ws := Bjh d) rfl hg (fun w hw => SlN.one (ns := [d]) _ (List.mem_singleton.2 rfl) w hw) (by rw [List.length_map]; have h : (wjN s.noses l j).length <= s.noses.length := hwl; omega) _ _ _ _ (fun v' H4 r4 k4 n4 => ?_)
   obtain ⟨_, _, rfl⟩ := r4.form
   have l24 : H2.le H4 := fun x u hx => k4 x u (l23 x u hx) (fun h => by rw [(show ∀ x, _ from hnw) x h] at hx; cases hx)
   have hnw4 : ∀ x, rowB _ = some x -> H2 x = none := fun x hx => (n4 x hx).elim (fun h => (show ∀ x, _ from hnw) x h) fun h => Hp.le_none l23 h
   replace hnw4 : Aqk _ := hnw4
   replace r4 : Aqk _ := r4
   clear k4 n4 hg hR' hwl
   ((try refine @unH _ (zX y14_168 ?_)); (try (refine hK _ _ ?_; clear hK K; try refine @unH _ (zQ ?_))); refine @unH _ (zA y14_168 ?_); (repeat refine inC fun hc => ?_); try refine inK fun K hK => ?_)
   exact ⟨s.noses.length - (j + 1), by omega, _, _, j + 1, rfl, by omega, rfl, e1, e2, e4, rfl, rfl, l24, by rw [show wjN s.noses l (j + 1) = _ from hst, List.map_append]; exact r4, hnw4⟩
 ·have hlj' : ¬ (j : Int) < s.noses.length := by omega
  have vrb3 := l23 _ _ vrb
  have nrs : ¬ rb = sb := Ne.symm nsbrb
  have hR' : RowG 53 3 H3 _ ((wjN s.noses l j).map Bjh) := hR
  clear hR hnw
  replace hR' : Aqk _ := hR'
  (refine @unH _ (zA y14_168 ?_); (repeat refine inC fun hc => ?_); try refine inK fun K hK => ?_)
  (refine Axs ?_; (try simp only [nq, ↓reduceIte, Nat.reduceEqDiff]); rw [Aq5, Ax6 Tryz.results14 (by decide) (b := rb) (o := 0) ?hcell Tryz.underlying26 rfl Tryz.sizeOf26]; (case hcell => exact e4); simp -implicitDefEqProofs (disch := first | omega | (simp only [qd] <;> omega)) only [xq, ↓xp, qc, Nat.reduceAdd, List.range, List.range.loop, fine, Nat.reduceEqDiff, ↓reduceIte, yielded, reduceCtorEq, Nat.reduceLT, Nat.reduceMul, Nat.reduceSub, one, Nat.reduceLeDiff, Aqj, y14_168, Axl, List.extract_toArray])
  have hs3 := hs.le (Hp.le_trans l2 l23)
  have hn3 := (show RowG _ _ H3 _ _ from hR').slG (by decide)
  have h3 : SmIn H3 (.slice da s.doors.length dc) (.slice ha s.hampers.length kc) (.slice ra ((wjN s.noses l j).map Bjh).length rc) (woutS s l) := ⟨hs3.dd, hs3.hh, by
   show SlG _ _ _ _ ((withoutN s.noses l).map Bjh)
   rw [<- wjN_all s.noses l (j := j) (by omega)]
   exact hn3⟩
  exact ⟨_, rfl, (h3.put vsb3 _).put (by rw [Aqw nrs]; exact vrb3) _, Az6 (Az6 (Hp.le_trans l2 l23) hsb0) hrb0⟩
def y50_169 := And.intro @Bwh (And.intro @callF50 (And.intro (fun H => Aq6 (H := H) Tryz.underlying34) (And.intro @Az1 (And.intro (fun H => Aqu (H := H) Tryz.underlying34 Tryz.sizeOf22) (fun H => Aqg (H := H) Tryz.underlying22 rfl)))))
theorem SlI.toG {H : Hp} {v : Value} {xs : List Int} (h : SlI H v xs) : SlG 3 1 H v (int1 xs) := by
 obtain ⟨a, cap, rfl, hc, hx⟩ := h
 refine ⟨a, cap, by simp [int1], by simpa [int1] using hc, fun i r hr => ?_⟩
 simp only [int1, List.getElem?_map, Option.map_eq_some_iff] at hr
 obtain ⟨x, hi, rfl⟩ := hr
 obtain ⟨b, o, p, c, fr, h1, h2, h3⟩ := hx i x hi
 have hlt := (Array.getElem?_eq_some_iff.1 h3).1
 refine ⟨b, o, p, c, fr, h1, h2, by omega, rfl, ?_⟩
 apply Array.ext_getElem?
 intro j
 rw [Array.getElem?_extract]
 cases j with
 | zero =>
  rw [if_pos (by omega), Nat.mul_one, Nat.add_zero, h3]
  rfl
 | succ j =>
  rw [if_neg (by omega)]
  simp
def subP (n k first j : Nat) : List (List Int) := (List.range j).flatMap fun i => (subsF n k (first + i + 1)).map fun l => ((first + i : Nat) : Int) :: l
theorem subP_succ (n k first j : Nat) : subP n k first (j + 1) = subP n k first j ++ (subsF n k (first + j + 1)).map fun l => ((first + j : Nat) : Int) :: l := by
 simp [subP, List.range_succ]
theorem subsF_len : ∀ n : Fin 5, ∀ k : Fin 5, ∀ f : Fin 7, (subsF n.val k.val f.val).length <= 16 := by decide +kernel
theorem subsF_el : ∀ n : Fin 5, ∀ k : Fin 5, ∀ f : Fin 7, ∀ l ∈ subsF n.val k.val f.val, l.length <= 10 := by decide +kernel
theorem subP_len {n k first : Nat} (hn : n <= 4) (hk : k <= 4) : ∀ j, first + j <= 6 -> (subP n k first j).length <= 16 * j
 | 0, _ => by simp [subP]
 | j + 1, hj => by
  rw [subP_succ, List.length_append, List.length_map]
  have h1 := subP_len (first := first) hn hk j (by omega)
  have h2 := subsF_len ⟨n, by omega⟩ ⟨k, by omega⟩ ⟨first + j + 1, by omega⟩
  simp only at h2
  omega
theorem Rows.one' {H : Hp} {w : Value} {xs : List Int} (h : SlI H w xs) : Rows H [w] [xs] := ⟨rfl, fun i y hi => by
 cases i with
 | zero => simp only [List.getElem?_cons_zero, Option.some.injEq] at hi; subst hi; exact ⟨w, rfl, h⟩
 | succ i => simp at hi⟩
theorem Rows.app' {H : Hp} {vs ws : List Value} {xss yss : List (List Int)} (h : Rows H vs xss) (h' : Rows H ws yss) : Rows H (vs ++ ws) (xss ++ yss) := ⟨by rw [List.length_append, List.length_append, h.1, h'.1], fun i xs hi => by
 by_cases hl : i < xss.length
 ·rw [List.getElem?_append_left hl] at hi
  obtain ⟨w, h1, h2⟩ := h.2 i xs hi
  exact ⟨w, by rw [List.getElem?_append_left (by rw [h.1]; exact hl)]; exact h1, h2⟩
 ·rw [List.getElem?_append_right (by omega)] at hi
  obtain ⟨w, h1, h2⟩ := h'.2 _ xs hi
  exact ⟨w, by rw [List.getElem?_append_right (by rw [h.1]; omega), h.1]; exact h1, h2⟩⟩
def row1 (vs : List Value) : List (List Value) := vs.map fun w => [w]
theorem RowG.at1 {H : Hp} {v : Value} {vs : List Value} (h : RowG 22 1 H v (row1 vs)) {i : Nat} {w : Value} (hi : vs[i]? = some w) : ∃ b c cap, v = .slice (some ⟨b, 0, none⟩) vs.length cap /\ H b = some (true, .cells c 22 (0, 0)) /\ c[i]? = some w := by
 rcases h.1.2 with ⟨_, h0, _⟩ | ⟨b, c, cap, _, hb, hv, h1, h2, h3, h4⟩
 ·have := (List.getElem?_eq_some_iff.1 hi).1
  rw [show (row1 vs).length = vs.length by simp [row1]] at h0
  omega
 ·refine ⟨b, c, cap, by rw [hv]; simp [row1], hb, h4 i w ?_⟩
  have : (row1 vs).flatMap id = vs := by
   unfold row1
   clear h hi hv h1 h2 h3 h4 hb
   induction vs with
   | nil => rfl
   | cons x l ih => simp_all [List.flatMap_cons]
  rw [this]
  exact hi
theorem row1_snoc (vs : List Value) (w : Value) : row1 vs ++ [[w]] = row1 (vs ++ [w]) := by simp [row1]
theorem slI_one {H : Hp} {b : Nat} {i : Int} : SlI (H.set b (.cells #[.int .i64 i] 3 (0, 0))) (.slice (some ⟨b, 0, none⟩) 1 1) [i] := ⟨_, _, rfl, Nat.le_refl _, fun k x hk => by
 cases k with
 | zero => simp only [List.getElem?_cons_zero, Option.some.injEq] at hk; subst hk; exact ⟨b, 0, true, _, _, rfl, Axf, rfl⟩
 | succ k => simp at hk⟩
theorem SlI.otR {e : TypeId} {sz : Nat} {H H' : Hp} {v v' : Value} {rows : List (List Value)} {xs : List Int} (h : RowG e sz H v rows) (h' : SlI H v' xs) (he : e ≠ 3) (hk : ∀ x u, H x = some u -> rowB v ≠ some x -> H' x = some u) : SlI H' v' xs := h'.move fun x p c fr hx => hk x _ hx fun hv => by
 obtain ⟨c', hc⟩ := h.cell hv
 rw [hx] at hc
 simp only [Option.some.injEq, Prod.mk.injEq, Obj.cells.injEq] at hc
 exact he hc.2.2.1.symm
theorem subsets_spec (m : Md) (n : Nat) (hn : n <= 4) : ∀ (k first : Nat) (H : Hp), k <= 4 -> first <= 5 ->
  FnX Tryz.prog m 50 #[.int .i64 (first : Nat), .int .i64 (n : Nat), .int .i64 (k : Nat)] H fun e H' => ∃ v vs, e = .returned v /\ RowG 22 1 H' v (row1 vs) /\ Rows H' vs (subsF n k first) /\ (∀ x, rowB v = some x -> H x = none) /\ H.le H' := by
 intro k
 induction k with
 | zero =>
  intro first H _ hf
  refine Aqo Tryz.func50 rfl Tryz.ntmps50 (by simp) ?_
  (refine @unH _ (zA y50_169 ?_); (repeat refine inC fun hc => ?_); try refine inK fun K hK => ?_)
  intro b hb
  ((try refine @unH _ (zX y50_169 ?_)); (try (refine hK _ _ ?_; clear hK K; try refine @unH _ (zQ ?_))); refine @unH _ (zA y50_169 ?_); (repeat refine inC fun hc => ?_); try refine inK fun K hK => ?_)
  (refine @unH _ ?_; refine z9 Tryz.results50 ?_)
  exact ⟨_, [.slice none 0 0], rfl, ⟨⟨(fun _ _ h => by cases h), .inr ⟨b, _, 1, rfl, Axf, rfl, rfl, Nat.le_refl _, rfl, fun i u hi => by simpa [row1] using hi⟩⟩, fun r hr => by simp only [row1, List.map_cons, List.map_nil, List.mem_singleton] at hr; rw [hr]; rfl⟩, Rows.one' (SlI.nil _ _ _), fun x hx => by simp only [rowB, Option.some.injEq] at hx; rw [<- hx]; exact hb, Hp.le_set hb⟩
 | succ k ih =>
  intro first H hk hf
  replace ih : Aqk _ := ih
  refine Aqo Tryz.func50 rfl Tryz.ntmps50 (by simp) ?_
  (refine @unH _ (zA y50_169 ?_); (repeat refine inC fun hc => ?_); try refine inK fun K hK => ?_)
  refine Axg (fun w a' H' => ∃ e v vs, ∃ j : Nat, w = n - k - first - j /\ j <= n - k - first /\ a' = act 45 e [] /\ e 1 = .int .i64 (n : Nat) /\ e 2 = .int .i64 (k + 1 : Nat) /\ e 7 = v /\ e 8 = .int .i64 (first + j : Nat) /\ RowG 22 1 H' v (row1 vs) /\ Rows H' vs (subP n k first j) /\ Aqk (∀ x, rowB v = some x -> H x = none) /\ H.le H') (n := n - k - first) ?_ ?_
  ·exact ⟨_, _, [], 0, by omega, by omega, rfl, rfl, rfl, rfl, rfl, RowG.nil, ⟨rfl, fun i xs hi => by simp [subP] at hi⟩, fun x hx => by (cases hx), Hp.le_refl _⟩
  rintro w a' H3 ⟨e, v, vs, j, rfl, hj, rfl, e1, e2, e7, e8, hR, hRs, hnw, l3⟩
  obtain ⟨va, vc, hvf⟩ := hR.form
  have hcl := subP_len (first := first) hn (by omega : k <= 4) j (by omega)
  by_cases hlt : j < n - k - first
  ·have hle : ((first + j : Nat) : Int) + ((k + 1 : Nat) : Int) <= ((n : Nat) : Int) := by omega
   have hone : one v = true := by rw [hvf]; rfl
   have q1 : ((first + j : Nat) : Int) + 1 = ((first + j + 1 : Nat) : Int) := by omega
   have q2 : ((k + 1 : Nat) : Int) - 1 = ((k : Nat) : Int) := by omega
   have hb6 : first + j <= 4 := by omega
   replace hR : Aqk _ := hR
   replace hRs : Aqk _ := hRs
   replace hvf : Aqk _ := hvf
   (refine @unH _ (zA y50_169 ?_); (repeat refine inC fun hc => ?_); try refine inK fun K hK => ?_)
   refine ((show ∀ (first : Nat) (H : Hp), _ from ih) (first + j + 1) H3 (by omega) (by omega)).runs.mono ?_
   rintro _ H4 ⟨lv, ls, rfl, hLR, hLs, hLn, l34⟩
   obtain ⟨la, lc, hlv⟩ := hLR.form
   rw [show (row1 ls).length = ls.length by simp [row1]] at hlv
   subst hlv
   have hl16 : ls.length <= 16 := by rw [hLs.1]; exact subsF_len ⟨n, by omega⟩ ⟨k, by omega⟩ ⟨first + j + 1, by omega⟩
   replace hLR : Aqk _ := hLR
   replace hLs : Aqk _ := hLs
   replace hLn : Aqk _ := hLn
   replace l34 : Aqk _ := l34
   ((try refine @unH _ (zX y50_169 ?_)); (try (refine hK _ _ ?_; clear hK K; try refine @unH _ (zQ ?_))); refine @unH _ (zA y50_169 ?_); (repeat refine inC fun hc => ?_); try refine inK fun K hK => ?_)
   refine Axg (fun w a' H' => ∃ e v' vs', ∃ x : Nat, w = ls.length - x /\ x <= ls.length /\ a' = act 45 e [] /\ e 1 = .int .i64 (n : Nat) /\ e 2 = .int .i64 (k + 1 : Nat) /\ e 7 = v' /\ e 8 = .int .i64 (first + j : Nat) /\ e 9 = .slice la ls.length lc /\ e 10 = .int .i64 (x : Nat) /\ Aqk (RowG 22 1 H' v' (row1 vs')) /\ Aqk (Rows H' vs' (subP n k first j ++ ((subsF n k (first + j + 1)).take x).map fun l => ((first + j : Nat) : Int) :: l)) /\ Aqk (∀ y u, H4 y = some u -> rowB v ≠ some y -> H' y = some u) /\ Aqk (∀ y, rowB v' = some y -> rowB v = some y ∨ H4 y = none)) (n := ls.length) ?_ ?_
   ·exact ⟨_, v, vs, 0, by omega, by omega, rfl, e1, e2, e7, e8, rfl, rfl, (show RowG _ _ H3 _ _ from hR).le l34, by
     have h : Rows H3 vs (subP n k first j) := hRs
     have h' := h.mono (H' := H4) fun _ _ h => h.le l34
     show Rows H4 vs _
     rw [List.take_zero, List.map_nil, List.append_nil]
     exact h', fun y u h _ => h, fun y h => .inl h⟩
   rintro w a' H5 ⟨e, v', vs', x, rfl, hx, rfl, e1, e2, e7, e8, e9, e10, r5, s5, k5, n5⟩
   obtain ⟨va', vc', hvf'⟩ := RowG.form (show RowG _ _ H5 v' (row1 vs') from r5)
   have hone' : one v' = true := by rw [hvf']; rfl
   replace hvf' : Aqk _ := hvf'
   by_cases hlx : x < ls.length
   ·have hlx' : (x : Int) < ls.length := by omega
    obtain ⟨lw, hlw⟩ : ∃ lw, ls[x]? = some lw := ⟨_, List.getElem?_eq_getElem hlx⟩
    have hLR5 : RowG 22 1 H5 (.slice la ls.length lc) (row1 ls) := (show RowG _ _ H4 _ _ from hLR).keep fun y u hy hu => (show ∀ y u, _ from k5) y u hu (fun hv => by
     have h3 := (show ∀ x, _ from hLn) y hy
     obtain ⟨c, hc⟩ := RowG.cell (show RowG _ _ H3 v _ from hR) hv
     rw [h3] at hc; cases hc)
    obtain ⟨lb, lcl, lcap, hlf, vlb, hlc⟩ := hLR5.at1 hlw
    cases hlf
    clear hLR5
    have hLs' : Rows H4 ls (subsF n k (first + j + 1)) := hLs
    have hxs : x < (subsF n k (first + j + 1)).length := hLs'.1 ▸ hlx
    have hsx := List.getElem?_eq_getElem hxs
    obtain ⟨lw', hq, hsl⟩ := hLs'.2 x _ hsx
    rw [hlw] at hq
    cases hq
    clear hlw hLs'
    have htk : (subsF n k (first + j + 1)).take (x + 1) = (subsF n k (first + j + 1)).take x ++ [(subsF n k (first + j + 1))[x]] := by rw [List.take_add_one, hsx]; rfl
    replace htk : Aqk _ := htk
    have hl0 := List.mem_of_getElem? hsx
    clear hsx
    generalize (subsF n k (first + j + 1))[x] = l0 at *
    have hsl5 : SlI H5 lw l0 := SlI.otR ((show RowG _ _ H3 v _ from hR).le l34) hsl (by decide) k5
    clear hsl
    have hl0 : l0.length <= 10 := subsF_el ⟨n, by omega⟩ ⟨k, by omega⟩ ⟨first + j + 1, by omega⟩ l0 hl0
    obtain ⟨lwa, lwc, rfl, _⟩ := id hsl5
    replace hsl5 : Aqk _ := hsl5
    (refine @unH _ (zA y50_169 ?_); (repeat refine inC fun hc => ?_); try refine inK fun K hK => ?_)
    intro b hb
    have hbl : ¬ lb = b := fun h => by rw [h, hb] at vlb; cases vlb
    ((try refine @unH _ (zX y50_169 ?_)); (try (refine hK _ _ ?_; clear hK K; try refine @unH _ (zQ ?_))); refine @unH _ (zA y50_169 ?_); (repeat refine inC fun hc => ?_); try refine inK fun K hK => ?_)
    refine Bvv (by decide) Tryz.underlying22 Tryz.sizeOf3 Tryz.zeroValue3 rfl Tryz.typeInfo3 (by decide) (by decide) (slI_one (i := ((first + j : Nat) : Int))).toG (((show SlI H5 _ l0 from hsl5).le (Hp.le_set hb)).toG) (by omega) _ _ _ _ (fun v6 H6 r6 l6 => ?_)
    have l56 : H5.le H6 := fun y u hy => l6 y u ((Hp.le_set hb) y u hy)
    have s6 : SlI H6 v6 (((first + j : Nat) : Int) :: l0) := SlG.ints1 r6
    have vlb6 := l56 _ _ vlb
    obtain ⟨_, _, rfl, _⟩ := id s6
    replace s6 : Aqk _ := s6
    replace l56 : Aqk _ := l56
    clear vlb hlc r6 l6 hsl5 hb hbl
    ((try refine @unH _ (zX y50_169 ?_)); (try (refine hK _ _ ?_; clear hK K; try refine @unH _ (zQ ?_))); refine @unH _ (zA y50_169 ?_); (repeat refine inC fun hc => ?_); try refine inK fun K hK => ?_)
    intro g hg
    have hvl : (row1 vs').length <= 1000000 := by
     have h1 := (show Rows H5 vs' _ from s5).1
     rw [List.length_append, List.length_map, List.length_take] at h1
     simp only [row1, List.length_map]
     omega
    refine Ayc Tryz.underlying34 Tryz.sizeOf22 Tryz.zeroValue22 rfl Tryz.typeInfo22 (by decide) (by decide) ((show RowG _ _ H5 v' (row1 vs') from r5).le l56) rfl hg (fun w hw => by rw [List.mem_singleton.1 hw]; rfl) hvl _ _ _ _ (fun v7 H7 r7 k7 n7 => ?_)
    rw [row1_snoc] at r7
    have s7 := Rows.app' ((show Rows H5 vs' _ from s5).mono fun _ _ h => SlI.otR ((show RowG _ _ H5 v' (row1 vs') from r5).le l56) (h.le l56) (by decide) k7) (Rows.one' (SlI.otR ((show RowG _ _ H5 v' (row1 vs') from r5).le l56) (show SlI H6 _ _ from s6) (by decide) k7))
    rw [List.append_assoc, <- List.map_singleton (f := fun l : List Int => ((first + j : Nat) : Int) :: l), <- List.map_append, <- show List.take (x + 1) (subsF n k (first + j + 1)) = _ from htk] at s7
    have kk : Aqk (∀ y u, H4 y = some u -> rowB v ≠ some y -> H7 y = some u) := fun y u h1 h2 => k7 y u (l56 _ _ ((show ∀ y u, _ from k5) y u h1 h2)) fun h3 => ((show ∀ y, _ from n5) y h3).elim h2 fun h4 => by rw [h1] at h4; cases h4
    have nn : Aqk (∀ y, rowB v7 = some y -> rowB v = some y ∨ H4 y = none) := fun y h1 => (n7 y h1).elim (fun h => (show ∀ y, _ from n5) y h) fun h => by
     by_cases h2 : rowB v = some y
     ·exact .inl h2
     ·refine .inr ?_
      cases h3 : H4 y with
      | none => rfl
      | some u => rw [l56 _ _ ((show ∀ y u, _ from k5) y u h3 h2)] at h; cases h
    replace s7 : Aqk _ := s7
    replace r7 : Aqk _ := r7
    obtain ⟨a7, c7, hv7⟩ := RowG.form (show RowG _ _ H7 v7 _ from r7)
    have hone7 : one v7 = true := by rw [hv7]; rfl
    replace hv7 : Aqk _ := hv7
    clear k7 n7 hg s6 k5 n5 s5 r5 vlb6
    ((try refine @unH _ (zX y50_169 ?_)); (try (refine hK _ _ ?_; clear hK K; try refine @unH _ (zQ ?_))); refine @unH _ (zA y50_169 ?_); (repeat refine inC fun hc => ?_); try refine inK fun K hK => ?_)
    exact ⟨ls.length - (x + 1), by omega, _, v7, _, x + 1, rfl, by omega, rfl, e1, e2, rfl, e8, e9, rfl, r7, s7, kk, nn⟩
   ·replace hlx : ¬ (x : Int) < ls.length := by omega
    have hvn : Aqk (∀ y, rowB v' = some y -> H y = none) := fun y h => ((show ∀ y, _ from n5) y h).elim (fun h => (show ∀ y, _ from hnw) y h) fun h => Hp.le_none (Hp.le_trans l3 l34) h
    have l5 : H.le H5 := fun y u h => (show ∀ y u, _ from k5) y u (l34 _ _ (l3 _ _ h)) fun h2 => by rw [(show ∀ y, _ from hnw) y h2] at h; cases h
    obtain rfl : x = ls.length := by omega
    have s5' : Aqk (Rows H5 vs' (subP n k first (j + 1))) := by
     have h := (show Rows H5 vs' _ from s5)
     rw [List.take_of_length_le (by rw [(show Rows H4 ls _ from hLs).1]; exact Nat.le_refl _), <- subP_succ] at h
     exact h
    (refine @unH _ (zA y50_169 ?_); (repeat refine inC fun hc => ?_); try refine inK fun K hK => ?_)
    exact ⟨n - k - first - (j + 1), by omega, _, _, _, j + 1, rfl, by omega, rfl, e1, e2, e7, rfl, r5, s5', hvn, l5⟩
  ·have hle : ¬ ((first + j : Nat) : Int) + ((k + 1 : Nat) : Int) <= ((n : Nat) : Int) := by omega
   obtain rfl : j = n - k - first := by omega
   replace hvf : Aqk _ := hvf
   replace hR : Aqk _ := hR
   replace hRs : Aqk _ := hRs
   (refine @unH _ (zA y50_169 ?_); (repeat refine inC fun hc => ?_); try refine inK fun K hK => ?_)
   (refine @unH _ ?_; refine z9 Tryz.results50 ?_)
   exact ⟨_, vs, rfl, hR, hRs, hnw, l3⟩
def y3_170 := And.intro @callF10 (And.intro @callF9 (And.intro (fun H => Aqv (H := H) (P := Tryz.prog) (h := Tryz.zeroValue26)) (And.intro (fun H => Aqr (H := H) Tryz.sizeOf26) (And.intro (fun H => Aqp (H := H) Tryz.underlying26 rfl Tryz.sizeOf26) (And.intro @Dx0 (And.intro (fun H => Aqd (H := H) Tryz.underlying26 (i := 3) rfl (off := 3) rfl Tryz.sizeOf24) (And.intro (fun H => Aqg (H := H) Tryz.underlying24 rfl) (And.intro (fun H => Aq6 (H := H) Tryz.underlying24) (And.intro @callF12 (And.intro (fun H => Aq6 (H := H) Tryz.underlying34) (And.intro (fun H => Aqu (H := H) Tryz.underlying34 Tryz.sizeOf22) (And.intro (fun H => Aqg (H := H) Tryz.underlying22 rfl) (And.intro @callF14 (And.intro @Dx1 (And.intro @Dx2 @callF16)))))))))))))))
def y12_170 := @callF50
theorem sbs_spec (m : Md) (H : Hp) (n k : Nat) (hn : n <= 4) (hk : k <= 4) :
  FnX Tryz.prog m 12 #[.int .i64 (n : Nat), .int .i64 (k : Nat)] H fun e H' => ∃ v vs, e = .returned v /\ RowG 22 1 H' v (row1 vs) /\ Rows H' vs (subsF n k 0) /\ H.le H' := by
 have hS := subsets_spec m n hn k 0 H hk (by omega)
 replace hS : Aqk _ := hS
 refine Aqo Tryz.func12 rfl Tryz.ntmps12 (by simp) ?_
 (refine @unH _ (zA @y12_170 ?_); (repeat refine inC fun hc => ?_); try refine inK fun K hK => ?_)
 refine (show FnX _ _ _ _ _ _ from hS).runs.mono ?_
 rintro _ H2 ⟨v, vs, rfl, r2, s2, -, l2⟩
 obtain ⟨_, _, rfl⟩ := r2.form
 replace r2 : Aqk _ := r2
 replace s2 : Aqk _ := s2
 ((try refine @unH _ (zX @y12_170 ?_)); (try (refine hK _ _ ?_; clear hK K; try refine @unH _ (zQ ?_))); refine @unH _ (zA @y12_170 ?_); (repeat refine inC fun hc => ?_); try refine inK fun K hK => ?_)
 (refine @unH _ ?_; refine z9 Tryz.results12 ?_)
 exact ⟨_, vs, rfl, r2, s2, l2⟩
theorem woutS_eq {s : Sm} (h : s.noses.length <= 3) {l : List Int} (hl : l ∈ Bqc s.noses.length) : woutS s l = woS s l := by
 unfold woutS woS
 rw [without_wo h hl]
theorem lists_split {N q x : Nat} (hN : N <= 4) (hq : q <= N) {l : List Int} (h : (subsF N q 0)[x]? = some l) : ∃ B, Bqc N = ((List.range q).flatMap (fun k => subsF N k 0) ++ (subsF N q 0).take x) ++ l :: B := by
 obtain ⟨hx, rfl⟩ := List.getElem?_eq_some_iff.1 h
 rw [listsG_subs N hN]
 have h1 : List.range (N + 1) = List.range q ++ q :: (List.range (N + 1)).drop (q + 1) := by
  have h2 := (List.take_append_drop q (List.range (N + 1))).symm
  rw [List.take_range, Nat.min_eq_left (by omega), List.drop_eq_getElem_cons (by rw [List.length_range]; omega), List.getElem_range] at h2
  exact h2
 have h3 : subsF N q 0 = (subsF N q 0).take x ++ (subsF N q 0)[x] :: (subsF N q 0).drop (x + 1) := by
  have h2 := (List.take_append_drop x (subsF N q 0)).symm
  rw [List.drop_eq_getElem_cons hx] at h2
  exact h2
 have h5 : (List.range (N + 1)).flatMap (fun k => subsF N k 0) = (List.range q).flatMap (fun k => subsF N k 0) ++ (subsF N q 0 ++ ((List.range (N + 1)).drop (q + 1)).flatMap fun k => subsF N k 0) := by
  conv => lhs; rw [h1]
  rw [List.flatMap_append, List.flatMap_cons]
 refine ⟨(subsF N q 0).drop (x + 1) ++ ((List.range (N + 1)).drop (q + 1)).flatMap fun k => subsF N k 0, ?_⟩
 generalize ((List.range (N + 1)).drop (q + 1)).flatMap (fun k => subsF N k 0) = R at *
 have h4 : subsF N q 0 ++ R = (subsF N q 0).take x ++ (subsF N q 0)[x] :: ((subsF N q 0).drop (x + 1) ++ R) := by
  conv => lhs; rw [h3]
  rw [List.append_assoc, List.cons_append]
 rw [List.append_assoc, <- h4]
 exact h5
theorem lswrong_spec (H : Hp) (sa : Option Addr) (sl sc : Nat) (hs : ∀ i : Nat, i < sl -> ∃ sb so c e fr x, sa = some ⟨sb, so, none⟩ /\ H sb = some (false, .cells c e fr) /\ c[so + i]? = some (.int .i64 x)) :
  FnX Tryz.prog (.wg Tryz.prog) 3 #[.slice sa sl sc] H fun e _ => e = .returned (.bool true) := by
 refine Aqo Tryz.func3 rfl Tryz.ntmps3 (by simp) ?_
 (refine @unH _ (zA y3_170 ?_); (repeat refine inC fun hc => ?_); try refine inK fun K hK => ?_)
 refine (newTin_spec _ H sa sl sc hs 240 (by omega)).runs.mono ?_
 rintro _ H1 ⟨tb, rfl, l1, hT⟩
 ((try refine @unH _ (zX y3_170 ?_)); (try (refine hK _ _ ?_; clear hK K; try refine @unH _ (zQ ?_))); refine @unH _ (zA y3_170 ?_); (repeat refine inC fun hc => ?_); try refine inK fun K hK => ?_)
 refine (smellOf_spec _ H1 tb 180 3 false (by omega) (by omega) hT).runs.mono ?_
 rintro _ H2 ⟨s, dv, hv, nv, cv, i, hr, ts, rfl, hs2, ok, hp5, hdl, hnl, hil, hr12, htk, hcv, htr, lex2, hT2, -⟩
 clear hT hs l1 lex2
 obtain ⟨da, dc, ha, kc, na, nc, rfl, rfl, rfl, l1, l2, l3⟩ := hs2.forms
 ((try refine @unH _ (zX y3_170 ?_)); (try (refine hK _ _ ?_; clear hK K; try refine @unH _ (zQ ?_))); refine @unH _ (zA y3_170 ?_); (repeat refine inC fun hc => ?_); try refine inK fun K hK => ?_)
 (intro sb hsb; generalize hG : Hp.set _ sb _ = H3; have lH3 := Aqc hG hsb; have vsb := Aqb hG; clear hG)
 have hs3 := hs2.le lH3
 have hd1 := ok.dl
 have hp0 := ok.p0
 clear hs2 lH3 hsb hT2 hcv htk hdl htr
 ((try refine @unH _ (zX y3_170 ?_)); (try (refine hK _ _ ?_; clear hK K; try refine @unH _ (zQ ?_))); refine @unH _ (zA y3_170 ?_); (repeat refine inC fun hc => ?_); try refine inK fun K hK => ?_)
 refine (Cqs H3 s _ _ _ hs3 ok).runs.mono ?_
 rintro _ H4 ⟨wv, rfl, hwv, l4⟩
 have vsb4 := l4 _ _ vsb
 have hs4 := hs3.le l4
 replace hwv : Aqk _ := hwv
 clear vsb hs3 l4
 ((try refine @unH _ (zX y3_170 ?_)); (try (refine hK _ _ ?_; clear hK K; try refine @unH _ (zQ ?_))); refine @unH _ (zA y3_170 ?_); (repeat refine inC fun hc => ?_); try refine inK fun K hK => ?_)
 have hwr : ∀ A l B, Bqc s.noses.length = A ++ l :: B -> (∀ x ∈ A, Azy (woS s x) = 0) -> 0 < Azy (woS s l) -> wroF s = l := fun A l B he hA hl => wro_is ok he hA hl
 have hal := allL_in s.noses.length (by omega)
 have hsm := wo_some ok hnl
 replace hwr : Aqk _ := hwr
 replace hal : Aqk _ := hal
 replace hsm : Aqk _ := hsm
 refine Bkc (fun e => e 3 = .pointer (some ⟨sb, 0, none⟩) /\ e 7 = wv /\ e 8 = .int .i64 0 /\ e 9 = .int .i64 0) ⟨rfl, rfl, rfl, rfl⟩ ?_
 rintro e ⟨e3, e7, e8, e9⟩
 refine Axg (fun w a' H' => ∃ e, ∃ q : Nat, w = s.noses.length + 1 - q /\ q <= s.noses.length + 1 /\ a' = act 72 e [] /\ e 3 = .pointer (some ⟨sb, 0, none⟩) /\ e 7 = wv /\ e 8 = .int .i64 0 /\ e 9 = .int .i64 (q : Nat) /\ H4.le H' /\ Aqk (∀ x ∈ (List.range q).flatMap (fun k => subsF s.noses.length k 0), Azy (woS s x) = 0)) (n := s.noses.length + 1) ?_ ?_
 ·exact ⟨_, 0, by omega, by omega, rfl, e3, e7, e8, e9, Hp.le_refl _, fun x hx => by simp at hx⟩
 clear e3 e7 e8 e9 e
 rintro w a' H5 ⟨e, q, rfl, hq, rfl, e3, e7, e8, e9, l45, hz⟩
 have hqn : q <= s.noses.length := by
  refine Nat.lt_succ_iff.1 (Nat.lt_of_le_of_ne hq fun h => ?_)
  subst h
  have h1 := (show ∀ x ∈ _, _ from hz) _ (by rw [<- listsG_subs _ (by omega)]; exact hal)
  have h2 : 0 < Azy (woS s (allL s.noses.length)) := hsm
  omega
 have hqn' : (q : Int) <= s.noses.length := by omega
 have vsb5 := l45 _ _ vsb4
 (refine @unH _ (zA y3_170 ?_); (repeat refine inC fun hc => ?_); try refine inK fun K hK => ?_)
 refine (sbs_spec _ H5 s.noses.length q (by omega) (by omega)).runs.mono ?_
 rintro _ H6 ⟨lv, vs, rfl, r6, s6, l56⟩
 obtain ⟨la, lc, hlv⟩ := r6.form
 rw [show (row1 vs).length = vs.length by simp [row1]] at hlv
 subst hlv
 have l46 := Hp.le_trans l45 l56
 have hvl : vs.length <= 16 := by rw [s6.1]; exact subsF_len ⟨s.noses.length, by omega⟩ ⟨q, by omega⟩ ⟨0, by omega⟩
 replace r6 : Aqk _ := r6
 replace s6 : Aqk _ := s6
 clear l45 l56 vsb5
 ((try refine @unH _ (zX y3_170 ?_)); (try (refine hK _ _ ?_; clear hK K; try refine @unH _ (zQ ?_))); refine @unH _ (zA y3_170 ?_); (repeat refine inC fun hc => ?_); try refine inK fun K hK => ?_)
 refine Axg (fun w a' H' => ∃ e, ∃ x : Nat, w = vs.length - x /\ x <= vs.length /\ a' = act 72 e [] /\ e 3 = .pointer (some ⟨sb, 0, none⟩) /\ e 7 = wv /\ e 8 = .int .i64 0 /\ e 9 = .int .i64 (q : Nat) /\ e 10 = .slice la vs.length lc /\ e 11 = .int .i64 (x : Nat) /\ H6.le H' /\ Aqk (∀ y ∈ (subsF s.noses.length q 0).take x, Azy (woS s y) = 0)) (n := vs.length) ?_ ?_
 ·exact ⟨_, 0, by omega, by omega, rfl, e3, e7, e8, e9, rfl, rfl, Hp.le_refl _, fun x hx => by simp at hx⟩
 clear e3 e7 e8 e9 e
 rintro w a' H7 ⟨e, x, rfl, hx, rfl, e3, e7, e8, e9, e10, e11, l67, hy⟩
 have l47 := Hp.le_trans l46 l67
 by_cases hlx : x < vs.length
 ·have hlx' : (x : Int) < vs.length := by omega
  obtain ⟨lw, hlw⟩ : ∃ lw, vs[x]? = some lw := ⟨_, List.getElem?_eq_getElem hlx⟩
  obtain ⟨lb, lcl, lcap, hlf, vlb6, hlc⟩ := (show RowG _ _ H6 _ _ from r6).at1 hlw
  cases hlf
  have hxs : x < (subsF s.noses.length q 0).length := (show Rows H6 vs _ from s6).1 ▸ hlx
  have hsx := List.getElem?_eq_getElem hxs
  obtain ⟨lw', hqq, hsl⟩ := (show Rows H6 vs _ from s6).2 x _ hsx
  rw [hlw] at hqq
  cases hqq
  have htk : (subsF s.noses.length q 0).take (x + 1) = (subsF s.noses.length q 0).take x ++ [(subsF s.noses.length q 0)[x]] := by rw [List.take_add_one, hsx]; rfl
  obtain ⟨B, hB⟩ := lists_split (by omega) hqn hsx
  generalize (subsF s.noses.length q 0)[x] = l0 at *
  have hl0 : l0 ∈ Bqc s.noses.length := by rw [hB]; simp
  have hw0 : 0 < Azy (woS s l0) -> wroF s = l0 := fun h => (show ∀ A l B, _ -> _ -> _ -> _ from hwr) _ _ _ hB (fun x hx => (List.mem_append.1 hx).elim (fun h => (show ∀ x ∈ _, _ from hz) x h) (fun h => (show ∀ x ∈ _, _ from hy) x h)) h
  have hll := (Dqg (by omega) hl0).1
  have hsl7 := hsl.le l67
  have vlb7 := l67 _ _ vlb6
  have vsb7 := l47 _ _ vsb4
  have hs7 := hs4.le l47
  have hwo := woutS_eq hnl hl0
  obtain ⟨lwa, lwc, rfl, _⟩ := id hsl7
  clear hlw hsx hxs hsl vlb6 hB
  replace htk : Aqk _ := htk
  replace hl0 : Aqk _ := hl0
  replace hw0 : Aqk _ := hw0
  replace hwo : Aqk _ := hwo
  replace hsl7 : Aqk _ := hsl7
  (refine @unH _ (zA y3_170 ?_); (repeat refine inC fun hc => ?_); try refine inK fun K hK => ?_)
  refine Axm (fun HX => HX sb = some (true, smO s.places (.slice da s.doors.length dc) (.slice ha s.hampers.length kc) (.slice na s.noses.length nc)) /\ HX lb = some (true, .cells lcl 22 (0, 0))) [5, 6] (.take 0 (.free 1 (.free 2 (.free 3 (.take 4 (.one 5 (.one 6 (.free 7 (.free 8 (.free 9 (.free 10 (.free 11 .nil)))))))))))) (by kernel_rfl) (by kernel_rfl) (by decide) (by kernel_rfl) ?_; intro K hK
  refine Ax8 fun ops hOz => ?_
  have hSS := And.intro vsb7 vlb7
  (refine @unH _ ?_; refine zK (And.intro y3_170 @exists_eq_left'.{1}) ?_)
  (iterate 3 (refine @unH _ ?_; refine zF y3_170 ?_))
  (refine @unH _ ?_; refine zK (And.intro y3_170 @exists_eq_left'.{1}) ?_)
  clear hSS
  (refine @unH _ ?_; refine zM y3_170 ?_)
  refine (without_spec _ H7 s _ _ _ hs7 (by omega) _ l0 hsl7 (by omega)).runs.mono ?_
  rintro _ H8 ⟨nw, rfl, hw, l78⟩
  rw [show woutS s l0 = _ from hwo] at hw
  simp -implicitDefEqProofs (disch := omega) only [Azr, Aq3, Aqm]
  refine ⟨.inl (by decide), ?_⟩
  (refine @unH _ ?_; refine zM y3_170 ?_)
  refine (Cqm H8 (woS s l0) _ _ _ hw (Dve ok _)).runs.mono ?_
  rintro _ H9 ⟨rfl, l89⟩
  have l79 := Hp.le_trans l78 l89
  clear hw l78 l89
  generalize hM : Azy (woS s l0) = M at *
  simp -implicitDefEqProofs (disch := omega) only [Azr, Aq3, Aqm]
  refine ⟨.inl (by decide), ?_⟩
  (iterate 5 (refine @unH _ ?_; refine zF y3_170 ?_))
  (refine Ajb (hK _ _ ?_); clear hK K; (try simp only [nq, ↓reduceIte, Nat.reduceEqDiff]))
  have l69 := Hp.le_trans l67 l79
  by_cases hM0 : 0 < M
  ·have hMi : (M : Int) > 0 := by omega
   have hw9 : SlI H9 wv l0 := by
    have h := (show SlI H4 wv (wroF s) from hwv).le (Hp.le_trans l47 l79)
    rw [(show _ -> _ from hw0) hM0] at h
    exact h
   have hs9 := (show SlI H7 _ l0 from hsl7).le l79
   have hL := Bqb (.wg Tryz.prog) H9 _ _ _ _ hw9 hs9 (by omega) (by omega)
   rw [show decide (l0 = l0) = true from decide_eq_true rfl] at hL
   have vlb9 := l79 _ _ vlb7
   replace hL : Aqk _ := hL
   clear hw9 hs9
   (refine @unH _ (zA y3_170 ?_); (repeat refine inC fun hc => ?_); try refine inK fun K hK => ?_)
   refine (show FnX _ _ _ _ _ _ from hL).runs.mono ?_
   rintro _ HQ ⟨rfl, hHQ⟩
   rw [hHQ]
   clear hHQ HQ hL
   ((try refine @unH _ (zX y3_170 ?_)); (try (refine hK _ _ ?_; clear hK K; try refine @unH _ (zQ ?_))); refine @unH _ (zA y3_170 ?_); (repeat refine inC fun hc => ?_); try refine inK fun K hK => ?_)
   refine (smelled_spec _).runs.mono ?_
   rintro _ HQ ⟨rfl, -⟩
   ((try refine @unH _ (zX y3_170 ?_)); (try (refine hK _ _ ?_; clear hK K; try refine @unH _ (zQ ?_))); refine @unH _ (zA y3_170 ?_); (repeat refine inC fun hc => ?_); try refine inK fun K hK => ?_)
   (refine Axs ?_; (try simp only [nq, ↓reduceIte, Nat.reduceEqDiff]); rw [Aq5, Ayp Tryz.results3 (by decide)]; simp only [Axo, Nat.reduceEqDiff, ↓reduceIte])
  ·have hMi : ¬ (M : Int) > 0 := by omega
   obtain rfl : M = 0 := by omega
   (refine @unH _ (zA y3_170 ?_); (repeat refine inC fun hc => ?_); try refine inK fun K hK => ?_)
   exact ⟨vs.length - (x + 1), by omega, _, x + 1, rfl, by omega, rfl, e3, e7, e8, e9, e10, rfl, l69, fun y hy' => by
    rw [show List.take (x + 1) _ = _ from htk] at hy'
    rcases List.mem_append.1 hy' with h | h
    ·exact (show ∀ x ∈ _, _ from hy) y h
    ·rw [List.mem_singleton.1 h]; exact hM⟩
 ·replace hlx : ¬ (x : Int) < vs.length := by omega
  obtain rfl : x = vs.length := by omega
  (refine @unH _ (zA y3_170 ?_); (repeat refine inC fun hc => ?_); try refine inK fun K hK => ?_)
  exact ⟨s.noses.length + 1 - (q + 1), by omega, _, q + 1, rfl, by omega, rfl, e3, e7, e8, rfl, l47, fun y hy' => by
   rw [List.range_succ, List.flatMap_append] at hy'
   rcases List.mem_append.1 hy' with h | h
   ·exact (show ∀ x ∈ _, _ from hz) y h
   ·simp only [List.flatMap_cons, List.flatMap_nil, List.append_nil] at h
    exact (show ∀ x ∈ _, _ from hy) y (by rw [List.take_of_length_le (by rw [(show Rows H6 vs _ from s6).1]; exact Nat.le_refl _)]; exact h)⟩
end Go.Proofs.YtkenloilljeliaaGreatDoor
end
section
namespace Go.Proofs.YtkenloilljeliaaGreatDoor
open Go Go.X Go.ChangeShapes Go.WideShapes Go.RowKit
set_option maxRecDepth 100000 in
theorem law_lifted (os : Os) (started : os.Started) (H : Type) (enc : TypeId × Value -> H) :
  ReturnsInLeavingWide {} Tryz.checked os 3 .any (fun w args => (Rows.smellWrongSpec.pre enc Tryz.prog Tryz.f3 [] false w args /\ laidMetH Tryz.prog [("errors.errorType", Rows.laid_errors_errorType)] w) /\ sizedMet enc Tryz.prog Tryz.f3 (OpenSpec.ofChange Rows.smellWrongSpec) false w args)
   (Rows.smellWrongSpec.post enc Tryz.prog Tryz.f3 false true false false) := by
 refine leaving_of_change_and (C := Tryz.checked) (X := fun w _ => laidMetH Tryz.prog [("errors.errorType", Rows.laid_errors_errorType)] w) (fun _ _ _ hh h => h.of_heap hh) ownK started Tryz.func3
  (ChangeSpec.witness_at (enc := enc) (C := Tryz.checked) (os := os) (X := fun w _ => laidMetH Tryz.prog [("errors.errorType", Rows.laid_errors_errorType)] w) false (laidWorld os) #[.slice none 0 0] 8 rfl (by kernel_rfl) (by kernel_rfl) (by kernel_rfl) (by kernel_rfl) (by kernel_rfl) (laidWorld_met os _)) ?_
 intro W base args ds gs before hval0 hW hL
 have hval : ∀ (j : Nat) t v, Tryz.f3.params[j]? = some t -> args[j]? = some v -> Value.okWide Tryz.prog W .any base t v := hval0
 have hW' := hW
 obtain ⟨p, q, hA0, hV0, rfl, hfz, hnd⟩ := hW
 have hA : DataW.TrodAll enc Tryz.prog W 0 (fun _ => true) true Tryz.f3.params.toList args.toList ds p := hA0
 have hV : DataW.TrodVars enc Tryz.prog W (fun _ => true) [] gs q := hV0
 rw [Tryz.params3] at hA hval
 obtain ⟨v0, d0, rfl, rfl, h0⟩ := trodAll_one hA
 obtain ⟨a0, len, cap, rfl⟩ := okWide_slice Tryz.underlying22 (hval 0 22 v0 rfl rfl)
 have h0k := h0
 obtain ⟨fuel, hf⟩ := h0
 obtain ⟨rfl, rfl⟩ : gs = [] /\ q = [] := by
  cases gs with
  | nil => exact ⟨rfl, hV⟩
  | cons g r => exact absurd hV (by intro h; cases h)
 have e1 : Rows.smellWrongSpec.fn H ([d0] ++ []) = { results := [.lit (.bool true)], args := [d0] } := by simp [Rows.smellWrongSpec]
 have hcells : ∀ i : Nat, i < len -> ∃ sb so c e fr x, a0 = some ⟨sb, so, none⟩ /\ Ay0 W sb = some (false, .cells c e fr) /\ c[so + i]? = some (.int .i64 x) := by
  rcases open_ints Tryz.underlying22 Tryz.underlying3 cellsK hf with ⟨hcs, _⟩ | ⟨a, len', cap', zs, hcs, _, hl, hm, hz, hx, hcell, hwz⟩
  ·simp [Value.cells] at hcs
   intro i hi
   omega
  ·simp [Value.cells] at hcs
   obtain ⟨rfl, rfl, rfl⟩ := hcs
   intro i hi
   simp only [if_true] at hz
   have hc := hcell i (by omega)
   obtain ⟨b, off, spot⟩ := a
   have hspot : spot = none := by simpa [Addr.add] using World.cell?_spot (hcell 0 (by omega))
   subst hspot
   rw [add_plain] at hc
   unfold World.cell? at hc
   split at hc
   ·rename_i c e fr hb
    exact ⟨b, off, c, e, fr, _, rfl, by simp [Ay0, hb], by simpa using hc⟩
   ·cases hc
 have hlt : ∀ x ∈ p, x.block < W.heap.size := fun x hx => by simpa using hW'.lt x (by simpa using hx)
 obtain ⟨N, last, o, w', t', r1, r2, r3, v, hv, ⟨rfl, hB⟩, r4⟩ := (lswrong_spec (Ay0 W) a0 len cap hcells).goodW Tryz.func3 (results_tmp Tryz.results3 _) (by kernel_rfl)
 refine ⟨N, last, o, w', t', r1, r2, r3, _, hv, ?_, r4⟩
 have hb := hB.below
 refine ⟨_, _, _, [], p, [], hW', ?_, ?_, ?_, hB.kept _, fun h => by cases h⟩
 ·rw [e1]; exact trodAll_mk1 (shut_bool Tryz.underlying4 true)
 ·rw [e1]
  have t := trodAll_mk1 (DataW.Trod.of_heap (w := { w' with tape := W.tape }) (w' := w') rfl (Below.trod laidOutK (by kernel_rfl) (of_decide_eq_true (by kernel_rfl)) h0k hb hlt))
  exact t
 ·rw [e1]; rfl
end Go.Proofs.YtkenloilljeliaaGreatDoor
end
section
namespace Go.Proofs.YtkenloilljeliaaGreatDoor
open Go Go.X Go.ChangeShapes Go.WideShapes Go.RowKit
theorem jEnter : Program.mayEnter Tryz.pinned.checked.prog = true := factEnter
theorem jLift : (Rows.smellWrongRow.lifted == Program.liftsFinal Tryz.pinned.checked.prog) = true := by rw [show Program.liftsFinal Tryz.pinned.checked.prog = Rows.smellWrongRow.lifted from factLift]; exact beq_self_eq_true _
theorem jMake : (Program.make Tryz.pinned.checked.prog == some Rows.smellWrongRow.make) = true := by rw [show Program.make Tryz.pinned.checked.prog = some Rows.smellWrongRow.make from factMake]; exact beq_self_eq_true _
set_option maxRecDepth 100000 in
theorem jf : joinedFacts Tryz.pinned.checked.prog 3 Tryz.f3 Rows.smellWrongSpec Rows.smellWrongRow = true := by
 unfold joinedFacts
 simp only [jEnter, jLift, jMake, Bool.and_true]
 kernel_rfl
set_option maxRecDepth 100000 in
theorem smellWrong_said : Rows.SmellWrongSaid :=
 OpenClaim.holds_of_wide_leaving 3 Tryz.f3 rfl rfl rfl rfl rfl rfl rfl ⟨rfl, rfl, rfl, rfl, rfl⟩ rfl rfl rfl rfl rfl (by kernel_rfl) Tryz.func3 jf
  (of_decide_eq_true (by kernel_rfl)) (by unfold Func.isWrapper; rw [if_neg (of_decide_eq_false (by kernel_rfl))]; exact ⟨rfl, rfl⟩)
  (fun os started H enc _ => law_lifted os started H enc)
end Go.Proofs.YtkenloilljeliaaGreatDoor
end
