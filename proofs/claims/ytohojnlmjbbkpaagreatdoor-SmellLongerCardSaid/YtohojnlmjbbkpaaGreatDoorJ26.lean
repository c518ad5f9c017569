/- Texts LSLonger PSmellLonger SSmellLonger. -/
import Derived.Test.YtohojnlmjbbkpaaGreatDoorJ25
import Derived.Test.YtohojnlmjbbkpaaGreatDoorAFactA
import Derived.Test.YtohojnlmjbbkpaaGreatDoorAFactSB
import Derived.Test.YtohojnlmjbbkpaaGreatDoorAFactSC
set_option linter.defProp false
set_option linter.unusedSimpArgs false
set_option linter.unusedVariables false
set_option maxRecDepth 100000
set_option maxHeartbeats 2000000
section
namespace Go.Proofs.YtohojnlmjbbkpaaGreatDoor
open Go Go.X
def y16_152 := And.intro @callF24 (And.intro @callF38 (And.intro (fun H => Aqw (H := H) (P := Tryz.prog) (h := Tryz.zeroValue26)) (And.intro (fun H => Aqt (H := H) Tryz.sizeOf26) (And.intro (fun H => Aqd (H := H) Tryz.underlying26 (i := 0) rfl (off := 0) rfl Tryz.sizeOf3) (And.intro (fun H => Aqf (H := H) Tryz.underlying3 rfl) (And.intro (fun H => Avw (H := H) Tryz.underlying23 Tryz.sizeOf3 Tryz.zeroValue3 rfl Tryz.typeInfo3 (by decide)) (And.intro (fun H => Aqp (H := H) Tryz.underlying26 rfl Tryz.sizeOf26) (And.intro @callF65 (And.intro @Djg (And.intro @callF62 (And.intro @eqG_bool (And.intro (fun H => Aqv (H := H) Tryz.underlying23 Tryz.sizeOf3) (And.intro (fun H => Axi (H := H) Tryz.sizeOf3) @callF23)))))))))))))
def vdP (s : Sm) (p : Nat) (h : Nat) : Int := Av2 (arrL (susp s) p) h
def prevV (s : Sm) (h p : Nat) : Int := if h = 0 then 0 else vdP s p (h - 1)
def lastOk (s : Sm) (n j p : Nat) (c : List Int) : Prop := ∀ q, q < n -> c[q]? = some (if q < p then vdP s q j else prevV s j q)
theorem vdP_step {s : Sm} (ok : SmOk s) (hex : ∃ i b ts, Tr s i b ts) {p : Nat} (hp : (p : Int) < s.places) {h : Nat} (hh : h <= 12) : (prevV s h p = 1 -> vdP s p h = 1) /\ (vdP s p h = 2 -> 0 < h -> prevV s h p = 2) := by
 unfold prevV
 by_cases h0 : h = 0
 ·rw [if_pos h0]
  exact ⟨fun h => by omega, fun _ h => by omega⟩
 ·rw [if_neg h0]
  unfold vdP
  rw [verd_always ok (by omega) hp hex (by omega), verd_always ok (by omega) hp hex (by omega), verd_never ok (by omega) hp hex (by omega), verd_never ok (by omega) hp hex (by omega)]
  constructor
  ·intro g i b ts ht
   have := g i b ts ht
   omega
  ·intro g _ i b ts ht
   have := g i b ts ht
   omega
theorem lslonger_spec (H : Hp) (sa : Option Addr) (sl sc : Nat) (hs : ∀ i : Nat, i < sl -> ∃ sb so c e fr x, sa = some ⟨sb, so, none⟩ /\ H sb = some (false, .cells c e fr) /\ c[so + i]? = some (.int .i64 x)) :
  FnX Tryz.prog (.wg Tryz.prog) 16 #[.slice sa sl sc] H fun e _ => e = .returned (.bool true) := by
 refine Aqm Tryz.func16 rfl Tryz.ntmps16 (by simp) ?_
 (refine @unH _ ?_; refine zA y16_152 ?_; (repeat (refine inC ?_; intro hc)); try (refine inK ?_; intro K hK))
 refine (newTin_spec _ H sa sl sc hs 240 (by omega)).runs.mono ?_
 rintro _ H1 ⟨tb, rfl, l1, hT⟩
 ((try (refine @unH _ ?_; refine zX y16_152 ?_)); (try (refine hK _ _ ?_; clear hK K; (try simp only [nq, ↓reduceIte, Nat.reduceEqDiff]))); refine @unH _ ?_; refine zA y16_152 ?_; (repeat (refine inC ?_; intro hc)); try (refine inK ?_; intro K hK))
 refine (smellOf_spec _ H1 tb 180 3 true (by omega) (by omega) hT).runs.mono ?_
 rintro _ H2 ⟨s, dv, hv, nv, cv, i, hr, ts, rfl, hs2, ok, hp5, hdl, hnl, hil, hr12, htk, hcv, htr, lex2, hT2⟩
 clear hT hs l1 lex2
 obtain ⟨da, dc, ha, kc, na, nc, rfl, rfl, rfl, l1, l2, l3⟩ := hs2.forms
 have htr := htr rfl
 ((try (refine @unH _ ?_; refine zX y16_152 ?_)); (try (refine hK _ _ ?_; clear hK K; (try simp only [nq, ↓reduceIte, Nat.reduceEqDiff]))); refine @unH _ ?_; refine zA y16_152 ?_; (repeat (refine inC ?_; intro hc)); try (refine inK ?_; intro K hK))
 (intro sb hsb; generalize hG : Hp.set _ sb _ = H3; have lH3 := Aqc hG hsb; have vsb := Aqb hG; clear hG)
 have hs3 := hs2.le lH3
 clear hs2 lH3 hsb hT2 hcv htk hr12 hil
 have hex : ∃ i b ts, Tr s i b ts := ⟨_, _, _, htr⟩
 obtain ⟨n, hn⟩ : ∃ n : Nat, (n : Int) = s.places := ⟨s.places.toNat, by have := ok.p0; omega⟩
 have hn5 : n <= 5 := by omega
 have hSur := fun H h hs => sSurelyN_spec H s (.slice da s.doors.length dc) (.slice ha s.hampers.length kc) (.slice na s.noses.length nc) hs ok h
 have hVer := fun H p h hs => Bvx H s (.slice da s.doors.length dc) (.slice ha s.hampers.length kc) (.slice na s.noses.length nc) hs ok p h
 rw [<- hn] at vsb ⊢
 simp only [<- hn] at hSur hVer
 replace hn : Aqk _ := hn
 replace hSur : Aqk _ := hSur
 replace hVer : Aqk _ := hVer
 replace hex : Aqk _ := hex
 clear htr hdl
 ((try (refine @unH _ ?_; refine zX y16_152 ?_)); (try (refine hK _ _ ?_; clear hK K; (try simp only [nq, ↓reduceIte, Nat.reduceEqDiff]))); refine @unH _ ?_; refine zA y16_152 ?_; (repeat (refine inC ?_; intro hc)); try (refine inK ?_; intro K hK))
 intro ob hob
 generalize hG : Hp.set H3 ob _ = H4
 have l34 := Aqc hG hob
 have vob := Aqb hG
 clear hG
 have vsb4 := l34 _ _ vsb
 have hbo : sb ≠ ob := fun e => by rw [<- e, vsb] at hob; cases hob
 clear vsb
 replace hs3 : Aqk _ := hs3
 ((try (refine @unH _ ?_; refine zX y16_152 ?_)); (try (refine hK _ _ ?_; clear hK K; (try simp only [nq, ↓reduceIte, Nat.reduceEqDiff]))); refine @unH _ ?_; refine zA y16_152 ?_; (repeat (refine inC ?_; intro hc)); try (refine inK ?_; intro K hK))
 refine Axd (fun w a' H' => ∃ e j c, w = 13 - j /\ j <= 13 /\ a' = act 92 e [] /\ e 3 = .pointer (some ⟨sb, 0, none⟩) /\ e 7 = .slice (some ⟨ob, 0, none⟩) n n /\ e 8 = .int .i64 (j : Nat) /\
  H' ob = some (true, .cells (ints c).toArray 3 (0, 0)) /\ Ak5 ob H4 H' /\ Aqk (c.length = n) /\ Aqk (∀ p, p < n -> c[p]? = some (prevV s j p))) (n := 13) ?_ ?_
 ·refine ⟨_, 0, List.replicate n 0, by omega, by omega, rfl, rfl, rfl, rfl, ?_, Ak5.refl _ _, by show (List.replicate n (0 : Int)).length = n; simp, fun p hp => ?_⟩
  ·rw [vob]
   simp [ints]
  ·rw [List.getElem?_replicate, if_pos hp]
   rfl
 rintro w a' H5 ⟨e, j, c, rfl, hj, rfl, e3, e7, e8, v5, hk5, hcl, hcv⟩
 have vsb5 := hk5 _ _ hbo vsb4
 by_cases hlt : j <= 12
 ·have hlt' : (j : Int) <= 12 := by omega
  have hs5 := (show SmIn H3 _ _ _ _ from hs3).le (hk5.base l34 hob)
  replace hs5 : Aqk _ := hs5
  (refine @unH _ ?_; refine zA y16_152 ?_; (repeat (refine inC ?_; intro hc)); try (refine inK ?_; intro K hK))
  refine ((show ∀ (H : Hp) (h : Int), _ -> _ from hSur) H5 j hs5).runs.mono ?_
  rintro _ H6 ⟨lv, rfl, hlv, l56, hlf⟩
  have hlo : rowB lv ≠ some ob := fun e => by have := hlf ob e; rw [v5] at this; cases this
  clear hlf
  have hex' : ∃ i b ts, Tr s i b ts := hex
  obtain ⟨i0, b0, t0, htr⟩ := hex'
  have hb0 := Dzt ok htr (ps := []) (fun p hp => by cases hp) (hr := (j : Int)) (by omega) (by omega)
  rw [hb0, if_pos rfl] at hlv
  rw [hb0]
  replace htr : Aqk _ := htr
  clear hb0
  have v6 := l56 _ _ v5
  have vsb6 := l56 _ _ vsb5
  have hk6 := hk5.le l56
  have hlm : ∀ p : Nat, p < n -> ((p : Int) ∈ Bj1 (surM (susp s) j (n : Int).toNat) ↔ vdP s p j = 1) := fun p hp => by
   have hn' : (n : Int) = s.places := hn
   rw [hn', sure_mem ok]
   unfold vdP
   exact ⟨fun h => h.2.2, fun h => ⟨by omega, by omega, h⟩⟩
  have hll : (Bj1 (surM (susp s) j (n : Int).toNat)).length <= 6 := Ckg _ _
  generalize Bj1 (surM (susp s) j (n : Int).toNat) = L at *
  replace hlv : Aqk _ := hlv
  replace hlm : Aqk _ := hlm
  clear hs5 l56 v5 vsb5 hk5
  ((try (refine @unH _ ?_; refine zX y16_152 ?_)); (try (refine hK _ _ ?_; clear hK K; (try simp only [nq, ↓reduceIte, Nat.reduceEqDiff]))); refine @unH _ ?_; refine zA y16_152 ?_; (repeat (refine inC ?_; intro hc)); try (refine inK ?_; intro K hK))
  refine Axd (fun w a' H' => ∃ e p c, w = n - p /\ p <= n /\ a' = act 92 e [] /\ e 3 = .pointer (some ⟨sb, 0, none⟩) /\ e 7 = .slice (some ⟨ob, 0, none⟩) n n /\ e 8 = .int .i64 (j : Nat) /\ e 9 = lv /\ e 11 = .int .i64 (p : Nat) /\
   H' ob = some (true, .cells (ints c).toArray 3 (0, 0)) /\ Ak5 ob H6 H' /\ Aqk (c.length = n) /\ lastOk s n j p c) (n := n) ?_ ?_
  ·exact ⟨_, 0, c, by omega, by omega, rfl, e3, e7, e8, rfl, rfl, v6, Ak5.refl _ _, hcl, fun q hq => by rw [if_neg (by omega)]; exact (show ∀ p, p < n -> c[p]? = some (prevV s j p) from hcv) q hq⟩
  clear e3 e7 e8 v6 hcl hcv
  rintro w a' H7 ⟨e, p, c, rfl, hp, rfl, e3, e7, e8, e9, e11, v7, hk7, hcl, hcv⟩
  have hk47 : Ak5 ob H4 H7 := fun x u hx hu => hk7 x u hx (hk6 x u hx hu)
  have vsb7 := hk47 _ _ hbo vsb4
  by_cases hlp : p < n
  ·have hlp' : (p : Int) < n := by omega
   have hs7 := (show SmIn H3 _ _ _ _ from hs3).le (hk47.base l34 hob)
   replace hs7 : Aqk _ := hs7
   (refine @unH _ ?_; refine zA y16_152 ?_; (repeat (refine inC ?_; intro hc)); try (refine inK ?_; intro K hK))
   refine ((show ∀ (H : Hp) (p h : Int), _ -> _ from hVer) H7 p j hs7).runs.mono ?_
   rintro _ H8 ⟨rfl, l78⟩
   have hn' : (n : Int) = s.places := hn
   have hb0 := begE_p ok (show Tr s i0 b0 t0 from htr) (p := (p : Int)) (by omega) (by omega) (hr := (j : Int)) (by omega) (by omega)
   have hvd : Cyn s p j = vdP s p j := by unfold Cyn; rw [if_pos hb0]; rfl
   rw [hvd, hb0]
   clear hvd hb0
   have hst := vdP_step ok (show ∃ i b ts, Tr s i b ts from hex) (p := p) (by omega) hlt
   have hin : vdP s p j = 1 ∨ vdP s p j = 2 ∨ vdP s p j = 3 := verd_in _ _
   have hx : c[p]? = some (prevV s j p) := by
    have := hcv p hlp
    rw [if_neg (by omega)] at this
    exact this
   have hlm' := (show ∀ p : Nat, p < n -> ((p : Int) ∈ L ↔ vdP s p j = 1) from hlm) p hlp
   have v8 := l78 _ _ v7
   have hk8 := hk7.le l78
   have hlv8 : SlI H8 lv L := ssli_keep (show SlI H6 lv L from hlv) fun x u hx hu => hk8 x u (fun e => hlo (by rw [<- e]; exact hx)) hu
   have hxc : (ints c).toArray[p]? = some (.int .i64 (prevV s j p)) := by simpa using Akj hx
   have hpc : p < (ints c).toArray.size := by rw [List.size_toArray, Aqz, show c.length = n from hcl]; exact hlp
   clear hn' hs7 vsb7 v7 hk7 hx l78
   have hat := atI_spec (.wg Tryz.prog) H8 lv L p hlv8 (by omega)
   replace hat : Aqk _ := hat
   replace hk8 : Aqk _ := hk8
   generalize hV : vdP s p j = V at *
   generalize hP : prevV s j p = P at *
   replace hV : Aqk _ := hV
   replace hP : Aqk _ := hP
   clear hlv8
   generalize hCC : (ints c).toArray = CC at *
   replace hCC : Aqk _ := hCC
   replace hlm' : Aqk _ := hlm'
   replace hst : Aqk _ := hst
   have hce8 : ∀ o, Hp.cell H8 ⟨ob, o, none⟩ = CC[o]? := fun o => cell_of v8
   (refine @unH _ ?_; refine zX y16_152 ?_)
   refine hK _ _ ?_
   clear hK K
   (try simp only [nq, ↓reduceIte, Nat.reduceEqDiff])
   refine Bkx (fun e => e 3 = .pointer (some ⟨sb, 0, none⟩) /\ e 7 = .slice (some ⟨ob, 0, none⟩) n n /\ e 8 = .int .i64 (j : Nat) /\ e 9 = lv /\ e 11 = .int .i64 (p : Nat) /\ e 12 = .int .i64 V /\ e 13 = .int .i64 0) ⟨e3, e7, e8, e9, e11, rfl, rfl⟩ ?_
   clear e3 e7 e8 e9 e11
   rename_i eold
   clear eold
   rintro e ⟨e3, e7, e8, e9, e11, e12, e13⟩
   have hend : ∀ e : Nat -> Value, e 3 = .pointer (some ⟨sb, 0, none⟩) -> e 7 = .slice (some ⟨ob, 0, none⟩) n n -> e 8 = .int .i64 (j : Nat) -> e 9 = lv -> ∃ n', n' < n - p /\ ∃ e' p' c', n' = n - p' /\ p' <= n /\ act 92 (upd e 11 (.int .i64 ((p : Int) + 1))) [] = act 92 e' [] /\ e' 3 = .pointer (some ⟨sb, 0, none⟩) /\ e' 7 = .slice (some ⟨ob, 0, none⟩) n n /\ e' 8 = .int .i64 (j : Nat) /\ e' 9 = lv /\ e' 11 = .int .i64 (p' : Nat) /\
    (H8.set ob (.cells (CC.setIfInBounds p (.int .i64 V)) 3 (0, 0))) ob = some (true, .cells (ints c').toArray 3 (0, 0)) /\ Ak5 ob H6 (H8.set ob (.cells (CC.setIfInBounds p (.int .i64 V)) 3 (0, 0))) /\ Aqk (c'.length = n) /\ lastOk s n j p' c' := fun e e3 e7 e8 e9 => by
    have hk8' : Ak5 ob H6 H8 := hk8
    have hcl' : c.length = n := hcl
    refine ⟨n - (p + 1), by omega, _, p + 1, c.set p V, rfl, hlp, rfl, e3, e7, e8, e9, rfl, ?_, hk8'.set, ?_, fun q hq => ?_⟩
    ·rw [Axh, <- show (ints c).toArray = CC from hCC, Bzf]
    ·show (c.set p V).length = n
     rw [List.length_set, hcl']
    ·rw [List.getElem?_set]
     by_cases hqp : p = q
     ·subst hqp
      rw [if_pos rfl, if_pos (by omega), if_pos (by omega), show vdP s p j = V from hV]
     ·rw [if_neg hqp, hcv q hq]
      by_cases h : q < p
      ·rw [if_pos h, if_pos (by omega)]
      ·rw [if_neg h, if_neg (by omega)]
   replace hend : Aqk _ := hend
   rcases hin with hv1 | hv1
   ·subst hv1
    have hmem : (p : Int) ∈ L := (show (p : Int) ∈ L ↔ (1 : Int) = 1 from hlm').2 rfl
    clear hlm' hst
    refine Axr (Axr (wpX_rz 37 (by rfl) ?_))
    intro K hK ops hOz
    (iterate 8 (refine @unH _ ?_; refine zR y16_152 ?_))
    refine (show FnX _ _ _ _ _ _ from hat).runs.mono ?_
    rintro _ H9 ⟨hQ, r, rfl, hrr⟩
    rw [hQ]
    clear hQ hat
    have hr0 : 0 <= r := by
     rcases hrr with ⟨_, h⟩ | ⟨k, rfl, _⟩
     ·exact absurd hmem h
     ·omega
    clear hrr hmem
    simp -implicitDefEqProofs (disch := omega) only [Azu, Aq3, Aqn]
    by_cases hP1 : P = 1
    all_goals
     (try subst hP1)
     (iterate 29 (refine @unH _ ?_; refine zR y16_152 ?_))
     (refine RZ_nil ?_; refine hK _ _ ?_; clear hK K; (try simp only [nq, ↓reduceIte, Nat.reduceEqDiff]))
     (refine @unH _ ?_; refine zA y16_152 ?_; (repeat (refine inC ?_; intro hc)); try (refine inK ?_; intro K hK))
     exact hend _ e3 e7 e8 e9
   ·have hV1 : ¬ V = 1 := by omega
    have hmem : ¬ (p : Int) ∈ L := fun h => hV1 ((show (p : Int) ∈ L ↔ V = 1 from hlm').1 h)
    have hP1 : ¬ P = 1 := fun h => hV1 ((show (P = 1 -> V = 1) /\ _ from hst).1 h)
    have hP2 : V = 2 -> 0 < j -> P = 2 := (show _ /\ (V = 2 -> 0 < j -> P = 2) from hst).2
    clear hlm' hst hv1
    replace hP2 : Aqk _ := hP2
    refine Axr (Axr (wpX_rz 37 (by rfl) ?_))
    intro K hK ops hOz
    (iterate 8 (refine @unH _ ?_; refine zR y16_152 ?_))
    refine (show FnX _ _ _ _ _ _ from hat).runs.mono ?_
    rintro _ H9 ⟨hQ, r, rfl, hrr⟩
    rw [hQ]
    clear hQ hat
    have hr0 : r < 0 := by
     rcases hrr with ⟨h, _⟩ | ⟨k, rfl, _, hk, _⟩
     ·omega
     ·exact absurd (List.mem_of_getElem? hk) hmem
    clear hrr hmem
    simp -implicitDefEqProofs (disch := omega) only [Azu, Aq3, Aqn]
    by_cases hV2 : V = 2 <;> by_cases hj0 : 0 < (j : Int)
    ·have hP3 : P = 2 := (show V = 2 -> 0 < j -> P = 2 from hP2) hV2 (by omega)
     subst hV2 hP3
     clear hP1 hP2
     (iterate 29 (refine @unH _ ?_; refine zR y16_152 ?_))
     (refine RZ_nil ?_; refine hK _ _ ?_; clear hK K; (try simp only [nq, ↓reduceIte, Nat.reduceEqDiff]))
     (refine @unH _ ?_; refine zA y16_152 ?_; (repeat (refine inC ?_; intro hc)); try (refine inK ?_; intro K hK))
     exact hend _ e3 e7 e8 e9
    all_goals
     (try subst hV2)
     clear hP2
     (iterate 29 (refine @unH _ ?_; refine zR y16_152 ?_))
     (refine RZ_nil ?_; refine hK _ _ ?_; clear hK K; (try simp only [nq, ↓reduceIte, Nat.reduceEqDiff]))
     (refine @unH _ ?_; refine zA y16_152 ?_; (repeat (refine inC ?_; intro hc)); try (refine inK ?_; intro K hK))
     exact hend _ e3 e7 e8 e9
  ·have hlp' : ¬ (p : Int) < n := by omega
   (refine @unH _ ?_; refine zA y16_152 ?_; (repeat (refine inC ?_; intro hc)); try (refine inK ?_; intro K hK))
   obtain rfl : p = n := by omega
   refine ⟨13 - (j + 1), by omega, _, j + 1, c, rfl, by omega, rfl, e3, e7, rfl, v7, hk47, hcl, fun q hq => ?_⟩
   have h1 := hcv q hq
   rw [if_pos hq] at h1
   exact h1
 ·have hlt' : ¬ (j : Int) <= 12 := by omega
  (refine @unH _ ?_; refine zA y16_152 ?_; (repeat (refine inC ?_; intro hc)); try (refine inK ?_; intro K hK))
  refine (smelled_spec H5).runs.mono ?_
  rintro _ H6 ⟨rfl, lH6⟩
  ((try (refine @unH _ ?_; refine zX y16_152 ?_)); (try (refine hK _ _ ?_; clear hK K; (try simp only [nq, ↓reduceIte, Nat.reduceEqDiff]))); refine @unH _ ?_; refine zA y16_152 ?_; (repeat (refine inC ?_; intro hc)); try (refine inK ?_; intro K hK))
  (refine Axu ?_; (try simp only [nq, ↓reduceIte, Nat.reduceEqDiff]); rw [Aq8, Ay1 Tryz.results16 (by decide)]; simp only [Axk, Nat.reduceEqDiff, ↓reduceIte])
end Go.Proofs.YtohojnlmjbbkpaaGreatDoor
end
section
namespace Go.Proofs.YtohojnlmjbbkpaaGreatDoor
open Go Go.X Go.ChangeShapes Go.WideShapes Go.RowKit
set_option maxRecDepth 100000 in
theorem law_lifted (os : Os) (started : os.Started) (H : Type) (enc : TypeId × Value -> H) :
  ReturnsInLeavingWide {} Tryz.checked os 16 .any (fun w args => (Rows.smellLongerSpec.pre enc Tryz.prog Tryz.f16 [] false w args /\ laidMetH Tryz.prog [("errors.errorType", Rows.laid_errors_errorType)] w) /\ sizedMet enc Tryz.prog Tryz.f16 (OpenSpec.ofChange Rows.smellLongerSpec) false w args)
   (Rows.smellLongerSpec.post enc Tryz.prog Tryz.f16 false true false false) := by
 refine leaving_of_change_and (C := Tryz.checked) (X := fun w _ => laidMetH Tryz.prog [("errors.errorType", Rows.laid_errors_errorType)] w) (fun _ _ _ hh h => h.of_heap hh) ownK started Tryz.func16
  (ChangeSpec.witness_at (enc := enc) (C := Tryz.checked) (os := os) (X := fun w _ => laidMetH Tryz.prog [("errors.errorType", Rows.laid_errors_errorType)] w) false (laidWorld os) #[.slice none 0 0] 8 rfl (by kernel_rfl) (by kernel_rfl) (by kernel_rfl) (by kernel_rfl) (by kernel_rfl) (laidWorld_met os _)) ?_
 intro W base args ds gs before hval0 hW hL
 have hval : ∀ (j : Nat) t v, Tryz.f16.params[j]? = some t -> args[j]? = some v -> Value.okWide Tryz.prog W .any base t v := hval0
 have hW' := hW
 obtain ⟨p, q, hA0, hV0, rfl, hfz, hnd⟩ := hW
 have hA : DataW.TrodAll enc Tryz.prog W 0 (fun _ => true) true Tryz.f16.params.toList args.toList ds p := hA0
 have hV : DataW.TrodVars enc Tryz.prog W (fun _ => true) [] gs q := hV0
 rw [Tryz.params16] at hA hval
 obtain ⟨v0, d0, rfl, rfl, h0⟩ := trodAll_one hA
 obtain ⟨a0, len, cap, rfl⟩ := okWide_slice Tryz.underlying23 (hval 0 23 v0 rfl rfl)
 have h0k := h0
 obtain ⟨fuel, hf⟩ := h0
 obtain ⟨rfl, rfl⟩ : gs = [] /\ q = [] := by
  cases gs with
  | nil => exact ⟨rfl, hV⟩
  | cons g r => exact absurd hV (by intro h; cases h)
 have e1 : Rows.smellLongerSpec.fn H ([d0] ++ []) = { results := [.lit (.bool true)], args := [d0] } := by simp [Rows.smellLongerSpec]
 have hcells : ∀ i : Nat, i < len -> ∃ sb so c e fr x, a0 = some ⟨sb, so, none⟩ /\ Ay9 W sb = some (false, .cells c e fr) /\ c[so + i]? = some (.int .i64 x) := by
  rcases open_ints Tryz.underlying23 Tryz.underlying3 cellsK hf with ⟨hcs, _⟩ | ⟨a, len', cap', zs, hcs, _, hl, hm, hz, hx, hcell, hwz⟩
  ·simp [Value.cells] at hcs
   intro i hi
   omega
  ·simp [Value.cells] at hcs
   obtain ⟨rfl, rfl, rfl⟩ := hcs
   intro i hi
   simp only [if_true] at hz
   have hc := hcell i (by omega)
   obtain ⟨b, off, spot⟩ := a
   have hspot : spot = none := by simpa [Addr.add] using World.cell?_spot (hcell 0 (by omega))
   subst hspot
   rw [add_plain] at hc
   unfold World.cell? at hc
   split at hc
   ·rename_i c e fr hb
    exact ⟨b, off, c, e, fr, _, rfl, by simp [Ay9, hb], by simpa using hc⟩
   ·cases hc
 have hlt : ∀ x ∈ p, x.block < W.heap.size := fun x hx => by simpa using hW'.lt x (by simpa using hx)
 obtain ⟨N, last, o, w', t', r1, r2, r3, v, hv, ⟨rfl, hB⟩, r4⟩ := (lslonger_spec (Ay9 W) a0 len cap hcells).goodW Tryz.func16 (results_tmp Tryz.results16 _) (by kernel_rfl)
 refine ⟨N, last, o, w', t', r1, r2, r3, _, hv, ?_, r4⟩
 have hb := hB.below
 refine ⟨_, _, _, [], p, [], hW', ?_, ?_, ?_, hB.kept _, fun h => by cases h⟩
 ·rw [e1]; exact trodAll_mk1 (shut_bool Tryz.underlying4 true)
 ·rw [e1]
  have t := trodAll_mk1 (DataW.Trod.of_heap (w := { w' with tape := W.tape }) (w' := w') rfl (Below.trod laidOutK (by kernel_rfl) (of_decide_eq_true (by kernel_rfl)) h0k hb hlt))
  exact t
 ·rw [e1]; rfl
end Go.Proofs.YtohojnlmjbbkpaaGreatDoor
end
section
namespace Go.Proofs.YtohojnlmjbbkpaaGreatDoor
open Go Go.X Go.ChangeShapes Go.WideShapes Go.RowKit
theorem jEnter : Program.mayEnter Tryz.pinned.checked.prog = true := factEnter
theorem jLift : (Rows.smellLongerRow.lifted == Program.liftsFinal Tryz.pinned.checked.prog) = true := by rw [show Program.liftsFinal Tryz.pinned.checked.prog = Rows.smellLongerRow.lifted from factLift]; exact beq_self_eq_true _
theorem jMake : (Program.make Tryz.pinned.checked.prog == some Rows.smellLongerRow.make) = true := by rw [show Program.make Tryz.pinned.checked.prog = some Rows.smellLongerRow.make from factMake]; exact beq_self_eq_true _
set_option maxRecDepth 100000 in
theorem jf : joinedFacts Tryz.pinned.checked.prog 16 Tryz.f16 Rows.smellLongerSpec Rows.smellLongerRow = true := by
 unfold joinedFacts
 simp only [jEnter, jLift, jMake, Bool.and_true]
 kernel_rfl
set_option maxRecDepth 100000 in
theorem smellLonger_said : Rows.SmellLongerSaid :=
 OpenClaim.holds_of_wide_leaving 16 Tryz.f16 rfl rfl rfl rfl rfl rfl rfl ⟨rfl, rfl, rfl, rfl, rfl⟩ rfl rfl rfl rfl rfl (by kernel_rfl) Tryz.func16 jf
  (of_decide_eq_true (by kernel_rfl)) (by unfold Func.isWrapper; rw [if_neg (of_decide_eq_false (by kernel_rfl))]; exact ⟨rfl, rfl⟩)
  (fun os started H enc _ => law_lifted os started H enc)
end Go.Proofs.YtohojnlmjbbkpaaGreatDoor
end
