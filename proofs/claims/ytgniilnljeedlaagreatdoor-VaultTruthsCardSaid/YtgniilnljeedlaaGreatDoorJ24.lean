/- Texts KeepH VFet LawVT LTrs LTruths PVaultTruths. -/
import Derived.Test.YtgniilnljeedlaaGreatDoorJ23
set_option linter.defProp false
set_option linter.unusedSimpArgs false
set_option linter.unusedVariables false
set_option maxRecDepth 100000
set_option maxHeartbeats 2000000
section
namespace Go.Proofs.YtgniilnljeedlaaGreatDoor
open Go Go.X
theorem set_keeps0 {H : Hp} {b : Nat} {p : Bool} {c0 : Array Value} {e0 : TypeId} {fr0 : Nat × Nat} {o : Obj} (hb : H b = some (p, .cells c0 e0 fr0)) (h1 : e0 ≠ 3) (h2 : e0 ≠ 22) : ∀ x p c fr e, (e = 3 ∨ e = 22) -> H x = some (p, .cells c e fr) -> (H.set b o) x = some (p, .cells c e fr) := fun x p c fr e he hx => by
 rw [Aqo (fun e' => ?_)]
 ·exact hx
 ·rw [e', hb] at hx
  simp only [Option.some.injEq, Prod.mk.injEq, Obj.cells.injEq] at hx
  rcases he with he | he <;> rw [he] at hx
  ·exact h1 hx.2.2.1
  ·exact h2 hx.2.2.1
def y62_108 := And.intro (fun H => Aqz (H := H) (P := Tryz.prog) (h := Tryz.zeroValue61)) (And.intro (fun H => Aqs (H := H) Tryz.underlying25 rfl Tryz.sizeOf25) (And.intro @Dxm (And.intro @Cj4 (And.intro (fun H => Aq0 (H := H) Tryz.sizeOf61) (And.intro @callF104 (And.intro @By4 (And.intro (fun H => Aqz (H := H) (P := Tryz.prog) (h := Tryz.zeroValue120)) (And.intro (fun H => Aq0 (H := H) Tryz.sizeOf120) (And.intro (fun H => Aqh (H := H) Tryz.underlying120 (i := 0) rfl (off := 0) rfl Tryz.sizeOf3) (And.intro (fun H => Aqe (H := H) Tryz.underlying3 rfl) (And.intro (fun H => Aqh (H := H) Tryz.underlying120 (i := 1) rfl (off := 1) rfl Tryz.sizeOf3) @Bx9)))))))))))
theorem vFetches_spec (H : Hp) (places pieces : Int) (sv cv : Value) (start : List Int) (xss : List (List Int)) (hv : Ajp H places pieces sv cv start xss) (r : Int) (hr0 : 0 <= r) (hr3 : r <= 3) :
  FnX Tryz.prog (.wg Tryz.prog) 62 #[.agg #[.int .i64 places, .int .i64 pieces, sv, cv], .int .i64 r] H fun e H' => e = .returned (.tuple #[.agg #[.int .i64 (bdT (fetF places r start) (Aqt xss)).lo, .int .i64 (bdT (fetF places r start) (Aqt xss)).hi], .int .i64 0]) /\ H.le H' := by
 obtain ⟨sa, sn, sc, rfl⟩ := hv.st.isSlice
 obtain ⟨ca, cc, rfl, hcc, _⟩ := id hv.calls
 refine Aqk Tryz.func62 rfl Tryz.ntmps62 (by simp) ?_
 (refine @unH _ ?_; refine zA y62_108 ?_; (repeat (refine inC ?_; intro hc)); try (refine inK ?_; intro K hK))
 intro vb hvb ob hob
 replace hob : (Hp.set H vb (.cells #[.int .i64 places, .int .i64 pieces, .slice sa sn sc, .slice ca xss.length cc] 25 (0, 0))) ob = none := hob
 generalize hG : Hp.set H vb _ = H1 at hob ⊢
 have lH1 := Aqg hG hvb
 have vvb := Aqf hG
 clear hG
 generalize hG : Hp.set H1 ob _ = H2
 have lH2 := Aqg hG hob
 have vob := Aqf hG
 clear hG
 have l02 := Hp.le_trans lH1 lH2
 have vvb2 := lH2 _ _ vvb
 have h0ob : H ob = none := Hp.le_none lH1 hob
 have hv2 := hv.le l02
 clear vvb hvb hob lH1 lH2
 ((try (refine @unH _ ?_; refine zX y62_108 ?_)); (try (refine hK _ _ ?_; clear hK K; (try simp only [nq, ↓reduceIte, Nat.reduceEqDiff]))); refine @unH _ ?_; refine zA y62_108 ?_; (repeat (refine inC ?_; intro hc)); try (refine inK ?_; intro K hK))
 refine (Cjk _ H2 places pieces _ _ start xss hv2 r hr0 hr3).runs.mono ?_
 rintro _ H3 ⟨rfl, lH3⟩
 have hv3 := hv2.le lH3
 have vvb3 := lH3 _ _ vvb2
 have vob3 := lH3 _ _ vob
 have l03 := Hp.le_trans l02 lH3
 clear vvb2 vob lH3 hv2 l02
 ((try (refine @unH _ ?_; refine zX y62_108 ?_)); (try (refine hK _ _ ?_; clear hK K; (try simp only [nq, ↓reduceIte, Nat.reduceEqDiff]))); refine @unH _ ?_; refine zA y62_108 ?_; (repeat (refine inC ?_; intro hc)); try (refine inK ?_; intro K hK))
 have hov := fun HX (hX : H3.le HX) rb (hrb : HX rb = some (true, .cells #[Azd r] 82 (0, 0))) => Bxb HX places pieces _ _ start xss _ _ (hv3.le hX).st (hv3.le hX).calls hv.ok hv.few (fetches1_measF HX places start hv.stA r hr0 hr3 rb true hrb)
 have hfw := fun HX => vfetches_spec (.wg Tryz.prog) HX r hr0 hr3
 replace hov : Aqy _ := hov
 replace hfw : Aqy _ := hfw
 generalize bdT (fetF places r start) (Aqt xss) = B at *
 obtain ⟨blo, bhi, bsm⟩ := B
 simp only [bdV] at hov
 refine Avg (Q := only fun a' H' => ∃ e' bb, a' = act 28 e' [] /\ e' 4 = .pointer (some ⟨ob, 0, none⟩) /\ e' 8 = .pointer (some ⟨bb, 0, none⟩) /\ H' bb = some (true, .cells #[.int .i64 blo, .int .i64 bhi, .bool bsm] 120 (0, 0)) /\ H' ob = some (true, .cells #[.int .i64 0, .int .i64 0] 61 (0, 0)) /\ H.le H') ?_ ?_
 ·refine Ajh (fun HX => H3.le HX) [5] (.take 0 (.free 1 (.two 2 (.two 3 (.one 4 (.one 5 .nil)) 4 (.one 3 (.one 5 .nil))) 4 (.one 2 (.one 3 (.one 5 .nil)))))) (by kernel_rfl) (by kernel_rfl) (by decide) (by kernel_rfl) ?_; intro K hK
  have hle0 : H3.le H3 := Hp.le_refl _
  (apply Aq8 rfl rfl rfl ‹_›; (focus (intro HX hHX; simp -implicitDefEqProofs (disch := first | omega | (simp only [qd] <;> omega)) only [xq, ↓xp, qc, Nat.reduceAdd, List.range, List.range.loop, fine, Nat.reduceEqDiff, ↓reduceIte, yielded, reduceCtorEq, Nat.reduceLT, Nat.reduceMul, Nat.reduceSub, one, Nat.reduceLeDiff, Aqa, y62_108, aq, ↓ap, qe0, qe1, qe2, *, -hK, Aqx, hHX _ _ vvb3] <;> (first | exact rfl | exact ⟨rfl, rfl⟩ | exact ⟨rfl, trivial⟩))); simp -implicitDefEqProofs (disch := first | omega | (simp only [qd] <;> omega)) only [Aqm, Aqc])
  (apply Axn rfl rfl rfl; (focus (intro HX; simp -implicitDefEqProofs (disch := first | omega | (simp only [qd] <;> omega)) only [xq, ↓xp, qc, Nat.reduceAdd, List.range, List.range.loop, fine, Nat.reduceEqDiff, ↓reduceIte, yielded, reduceCtorEq, Nat.reduceLT, Nat.reduceMul, Nat.reduceSub, one, Nat.reduceLeDiff, Aqa, y62_108, aq, ↓ap, qe0, qe1, qe2, *, -hK, Aqx] <;> (first | exact rfl | exact ⟨rfl, rfl⟩ | exact ⟨rfl, trivial⟩))); simp -implicitDefEqProofs (disch := first | omega | (simp only [qd] <;> omega)) only [Aqm, Aqc])
  refine planV_two ?_ ?_
  ·(refine @unH _ ?_; refine zX y62_108 ?_)
   refine ((show ∀ HX, FnX Tryz.prog _ _ _ HX _ from hfw) H3).runs.mono ?_
   rintro _ H4 ⟨rb, rfl, vrb, l34⟩
   (refine @unH _ ?_; refine zX y62_108 ?_)
   refine ⟨.inr (by intro _; first | exact l34 | trivial), planV_two ?_ ?_⟩
   ·(refine @unH _ ?_; refine zX y62_108 ?_)
    refine ((show ∀ HX (hX : H3.le HX) rb (hrb : HX rb = some (true, .cells #[Azd r] 82 (0, 0))), FnX Tryz.prog _ _ _ HX _ from hov) H4 l34 rb vrb).runs.mono ?_
    rintro _ H5 ⟨rfl, l45⟩
    have l35 := Hp.le_trans l34 l45
    (refine @unH _ ?_; refine zX y62_108 ?_)
    refine ⟨.inr (by intro _; first | exact l45 | exact l35 | trivial), Axa ?_⟩
    (refine @unH _ ?_; refine zX y62_108 ?_)
    intro bb hbb
    have vbb : (H5.set bb (.cells #[.int .i64 0, .int .i64 0, .bool false] 120 (0, 0))) bb = _ := Aqw
    refine ⟨.inr (by intro _; first | exact Hp.le_trans l35 (Hp.le_set hbb) | trivial), Axa ?_⟩
    (refine @unH _ ?_; refine zX y62_108 ?_)
    refine ⟨.inl (by decide), Ajf (hK _ _ ?_)⟩
    have nbo := Ax3 (l35 _ _ vob3) hbb
    refine ⟨_, bb, rfl, rfl, rfl, Aqw, (Aqo nbo).trans (l35 _ _ vob3), Hp.le_trans l03 (Hp.le_trans l35 fun b x hx => (Aqo (Ax3 hx hbb)).trans hx)⟩
   ·(refine @unH _ ?_; refine zX y62_108 ?_)
    intro bb hbb
    have lbb := Hp.le_set (o := .cells #[.int .i64 0, .int .i64 0, .bool false] 120 (0, 0)) hbb
    have vbb : (H4.set bb (.cells #[.int .i64 0, .int .i64 0, .bool false] 120 (0, 0))) bb = _ := Aqw
    generalize Hp.set H4 bb _ = H5 at lbb vbb ⊢
    have l35 := Hp.le_trans l34 lbb
    refine ⟨.inr (by intro _; first | exact l35 | exact lbb | trivial), Axa ?_⟩
    (refine @unH _ ?_; refine zX y62_108 ?_)
    refine ((show ∀ HX (hX : H3.le HX) rb (hrb : HX rb = some (true, .cells #[Azd r] 82 (0, 0))), FnX Tryz.prog _ _ _ HX _ from hov) H5 l35 rb (lbb _ _ vrb)).runs.mono ?_
    rintro _ H6 ⟨rfl, l56⟩
    have l36 := Hp.le_trans l35 l56
    have vbb6 := l56 _ _ vbb
    (refine @unH _ ?_; refine zX y62_108 ?_)
    refine ⟨.inr (by intro _; first | exact l36 | exact l56 | trivial), Axa ?_⟩
    (refine @unH _ ?_; refine zX y62_108 ?_)
    refine ⟨.inl (by decide), Ajf (hK _ _ ?_)⟩
    have nbo := Ax3 (l34 _ _ vob3) hbb
    refine ⟨_, bb, rfl, rfl, rfl, Aqw, (Aqo nbo).trans (l36 _ _ vob3), fun b x hx => (Aqo (Ax3 (l34 _ _ (l03 _ _ hx)) hbb)).trans (l36 _ _ (l03 _ _ hx))⟩
  ·(refine @unH _ ?_; refine zX y62_108 ?_)
   intro bb hbb
   have lbb := Hp.le_set (o := .cells #[.int .i64 0, .int .i64 0, .bool false] 120 (0, 0)) hbb
   have vbb : (H3.set bb (.cells #[.int .i64 0, .int .i64 0, .bool false] 120 (0, 0))) bb = _ := Aqw
   generalize Hp.set H3 bb _ = H4 at lbb vbb ⊢
   refine ⟨.inr (by intro _; first | exact lbb | trivial), Axa ?_⟩
   (refine @unH _ ?_; refine zX y62_108 ?_)
   refine ((show ∀ HX, FnX Tryz.prog _ _ _ HX _ from hfw) H4).runs.mono ?_
   rintro _ H5 ⟨rb, rfl, vrb, l45⟩
   have l35 := Hp.le_trans lbb l45
   (refine @unH _ ?_; refine zX y62_108 ?_)
   refine ⟨.inr (by intro _; first | exact l35 | exact l45 | trivial), Axa ?_⟩
   (refine @unH _ ?_; refine zX y62_108 ?_)
   refine ((show ∀ HX (hX : H3.le HX) rb (hrb : HX rb = some (true, .cells #[Azd r] 82 (0, 0))), FnX Tryz.prog _ _ _ HX _ from hov) H5 l35 rb vrb).runs.mono ?_
   rintro _ H6 ⟨rfl, l56⟩
   have l36 := Hp.le_trans l35 l56
   have vbb6 := l56 _ _ (l45 _ _ vbb)
   (refine @unH _ ?_; refine zX y62_108 ?_)
   refine ⟨.inr (by intro _; first | exact l36 | exact l56 | trivial), Axa ?_⟩
   (refine @unH _ ?_; refine zX y62_108 ?_)
   refine ⟨.inl (by decide), Ajf (hK _ _ ?_)⟩
   have nbo := Ax3 vob3 hbb
   refine ⟨_, bb, rfl, rfl, rfl, Aqw, (Aqo nbo).trans (l36 _ _ vob3), fun b x hx => (Aqo (Ax3 (l03 _ _ hx) hbb)).trans (l36 _ _ (l03 _ _ hx))⟩
 ·intro e a' H' q
  cases e with
  | normal =>
   obtain ⟨e', bb, rfl, e4, e8, vbb4, vob4, l04⟩ := q
   have nbo : ob ≠ bb := fun e => by rw [e, vbb4] at vob4; simp at vob4
   (refine @unH _ ?_; refine zA y62_108 ?_; (repeat (refine inC ?_; intro hc)); try (refine inK ?_; intro K hK))
   (refine Ax2 ?_; (try simp only [nq, ↓reduceIte, Nat.reduceEqDiff]); rw [Axm, results_cell_tmp Tryz.results62 (by decide) (by decide) (b := ob) (o := 0) ?hcell Tryz.underlying61 rfl Tryz.sizeOf61]; (case hcell => exact e4); simp -implicitDefEqProofs (disch := first | omega | (simp only [qd] <;> omega)) only [xq, ↓xp, qc, Nat.reduceAdd, List.range, List.range.loop, fine, Nat.reduceEqDiff, ↓reduceIte, yielded, reduceCtorEq, Nat.reduceLT, Nat.reduceMul, Nat.reduceSub, one, Nat.reduceLeDiff, Aqa, y62_108, Ajd])
   exact fun b x hx => by
    rw [Aqo (fun h => by rw [h, h0ob] at hx; cases hx)]
    exact l04 _ _ hx
  | _ => exact q.elim
def bdP (F : List Int -> Int) (L : List (List Int)) : Int × Int := L.foldl (fun a t => (min a.1 (F t), max a.2 (F t))) (1000, -1)
theorem bdP_snoc (F : List Int -> Int) (L : List (List Int)) (t : List Int) : bdP F (L ++ [t]) = (min (bdP F L).1 (F t), max (bdP F L).2 (F t)) := by simp [bdP]
theorem bdP_is (F : List Int -> Int) : ∀ L : List (List Int), L ≠ [] -> (∀ t ∈ L, 0 <= F t /\ F t <= 999) -> bdP F L = ((bdT F L).lo, (bdT F L).hi)
 | [], h, _ => absurd rfl h
 | t :: L, _, hb => by
  have key : ∀ (L : List (List Int)) (b : Bd), b.some = true -> L.foldl (fun a t => (min a.1 (F t), max a.2 (F t))) (b.lo, b.hi) = ((L.foldl (fun b t => Akw b (F t)) b).lo, (L.foldl (fun b t => Akw b (F t)) b).hi) := fun L => by
   induction L with
   | nil => intro b _; rfl
   | cons t L ih =>
    intro b hbs
    have e : Akw b (F t) = ⟨min b.lo (F t), max b.hi (F t), true⟩ := by unfold Akw; rw [if_pos hbs]
    simp only [List.foldl_cons, e]
    exact ih ⟨min b.lo (F t), max b.hi (F t), true⟩ rfl
  have ht := hb t List.mem_cons_self
  have e : Akw bd0 (F t) = ⟨F t, F t, true⟩ := by simp [Akw, bd0]
  simp only [bdP, bdT, List.foldl_cons, e]
  rw [show min (1000 : Int) (F t) = F t by omega, show max (-1 : Int) (F t) = F t by omega]
  exact key L ⟨F t, F t, true⟩ rfl
def tsX (out : List (List Int)) (l : List Int) : List (List Int) := out.flatMap fun o => l.map fun p => o ++ [p]
theorem tsX_all : ∀ (xss out : List (List Int)), xss.foldl tsX out = out.flatMap fun o => (Aqt xss).map (o ++ ·)
 | [], out => by simp [Aqt]
 | l :: r, out => by
  rw [List.foldl_cons, tsX_all r]
  simp only [tsX, Aqt, List.flatMap_assoc, List.flatMap_map, List.map_flatMap, List.map_map]
  congr 1
  funext o
  congr 1
  funext p
  congr 1
  funext t
  simp
def tsK (xss : List (List Int)) (i : Nat) : List (List Int) := (xss.take i).foldl tsX [[]]
theorem tsK_succ {xss : List (List Int)} {i : Nat} {l : List Int} (h : xss[i]? = some l) : tsK xss (i + 1) = tsX (tsK xss i) l := by
 unfold tsK
 rw [List.take_add_one, h, Option.toList_some, List.foldl_append]
 rfl
theorem tsK_all (xss : List (List Int)) : tsK xss xss.length = Aqt xss := by
 unfold tsK
 rw [List.take_length, tsX_all]
 simp
theorem tsX_length (out : List (List Int)) (l : List Int) : (tsX out l).length = out.length * l.length := by
 unfold tsX
 rw [List.length_flatMap]
 simp only [List.length_map]
 induction out with
 | nil => simp
 | cons o out ih => simp only [List.map_cons, List.sum_cons, List.length_cons, ih, Nat.add_mul]; omega
theorem tsK_bnd {xss : List (List Int)} {w : Nat} (hx : ∀ l ∈ xss, l.length <= w) : ∀ i, i <= xss.length -> (tsK xss i).length <= w ^ i /\ ∀ o ∈ tsK xss i, o.length = i
 | 0, _ => by simp [tsK]
 | i + 1, hi => by
  have ih := tsK_bnd hx i (by omega)
  have hl := hx _ (List.getElem_mem (show i < xss.length by omega))
  rw [tsK_succ (List.getElem?_eq_getElem (show i < xss.length by omega))]
  refine ⟨?_, fun o ho => ?_⟩
  ·rw [tsX_length, Nat.pow_succ]
   exact Nat.mul_le_mul ih.1 hl
  ·simp only [tsX, List.mem_flatMap, List.mem_map] at ho
   obtain ⟨o', ho', p, _, rfl⟩ := ho
   rw [List.length_append, ih.2 o' ho']
   rfl
def y60_137 := And.intro @Bzc (And.intro (fun H => Aqh (H := H) Tryz.underlying25 (i := 3) rfl (off := 3) rfl Tryz.sizeOf23) (And.intro (fun H => Aqe (H := H) Tryz.underlying23 rfl) (And.intro (fun H => Aq3 (H := H) Tryz.underlying23) (And.intro (fun H => Aqq (H := H) Tryz.underlying23 Tryz.sizeOf22) (And.intro (fun H => Aqe (H := H) Tryz.underlying22 rfl) (And.intro (fun H => Aq3 (H := H) Tryz.underlying22) (And.intro @Dq1 (And.intro (fun H => Aqq (H := H) Tryz.underlying22 Tryz.sizeOf3) (And.intro (fun H => Aqe (H := H) Tryz.underlying3 rfl) @Axq)))))))))
theorem row_one {H0 H : Hp} {b : Nat} {u : Value} (hb : H0 b = none) (hl : H0.le H) (hv : H b = some (true, .cells #[u] 22 (0, 0))) : RowX none H0 H (.slice (some ⟨b, 0, none⟩) 1 1) 22 [u] :=
 ⟨Lex.of hl, .inr ⟨b, #[u], 1, hb, hv, rfl, rfl, Nat.le_refl _, fun i w h => by
  cases i with
  | zero => simpa using h
  | succ i => simp at h⟩⟩
theorem tsX_step {out : List (List Int)} {l : List Int} {k : Nat} {o : List Int} (h : out[k]? = some o) : tsX (out.take (k + 1)) l = tsX (out.take k) l ++ l.map fun p => o ++ [p] := by
 rw [List.take_add_one, h, Option.toList_some]
 simp [tsX]
theorem map_step {f : Int -> List Int} {l : List Int} {p : Nat} {x : Int} (h : l[p]? = some x) : (l.take (p + 1)).map f = (l.take p).map f ++ [f x] := by
 rw [List.take_add_one, h, Option.toList_some, List.map_append]
 rfl
theorem truthsF_len {places pieces : Int} {start : List Int} {xss : List (List Int)} (hok : Aja places pieces start xss) (h4 : xss.length <= 4) : (Aqt xss).length <= 1296 := by
 have hw6 : ∀ l ∈ xss, l.length <= 6 := fun l hl => by have h1 := (hok.2.2.2.2.2.2.2 l hl).len; have h2 := hok.2.2.2.1; omega
 have h := (tsK_bnd hw6 xss.length (Nat.le_refl _)).1
 rw [tsK_all] at h
 refine Nat.le_trans h ?_
 have : xss.length = 0 ∨ xss.length = 1 ∨ xss.length = 2 ∨ xss.length = 3 ∨ xss.length = 4 := by omega
 rcases this with h | h | h | h | h <;> rw [h] <;> decide
theorem callTruths_spec (m : Md) (H : Hp) (places pieces : Int) (sv cv : Value) (start : List Int) (xss : List (List Int)) (hv : Ajp H places pieces sv cv start xss) (h4 : xss.length <= 4) :
  FnX Tryz.prog m 60 #[.agg #[.int .i64 places, .int .i64 pieces, sv, cv]] H fun e H' => ∃ w, e = .returned w /\ H.le H' /\ SlR H' w (Aqt xss) := by
 obtain ⟨sa, sn, sc, rfl⟩ := hv.st.isSlice
 obtain ⟨ca, cc, rfl, hcc, _⟩ := id hv.calls
 have hw6 : ∀ l ∈ xss, l.length <= 6 := fun l hl => by have h1 := (hv.ok.2.2.2.2.2.2.2 l hl).len; have h2 := hv.ok.2.2.2.1; omega
 have hbn := fun i hi => tsK_bnd hw6 i hi
 have hpow : ∀ i, i <= 4 -> 6 ^ i <= 1296 := fun i hi => by
  have : i = 0 ∨ i = 1 ∨ i = 2 ∨ i = 3 ∨ i = 4 := by omega
  rcases this with rfl | rfl | rfl | rfl | rfl <;> decide
 have hlen : ∀ i, i <= xss.length -> (tsK xss i).length <= 1296 := fun i hi => Nat.le_trans (hbn i hi).1 (hpow i (by omega))
 have hrl : ∀ i, i <= xss.length -> ∀ o ∈ tsK xss i, o.length <= 4 := fun i hi o ho => by rw [(hbn i hi).2 o ho]; omega
 replace hw6 : Aqy _ := hw6
 replace hlen : Aqy _ := hlen
 replace hrl : Aqy _ := hrl
 clear hbn hpow
 refine Aqk Tryz.func60 rfl Tryz.ntmps60 (by simp) ?_
 (refine @unH _ ?_; refine zA y60_137 ?_; (repeat (refine inC ?_; intro hc)); try (refine inK ?_; intro K hK))
 (intro vb hvb; generalize hG : Hp.set _ vb _ = H1; have lH1 := Aqg hG hvb; have vvb := Aqf hG; clear hG)
 have hv1 := hv.le lH1
 clear hvb
 ((try (refine @unH _ ?_; refine zX y60_137 ?_)); (try (refine hK _ _ ?_; clear hK K; (try simp only [nq, ↓reduceIte, Nat.reduceEqDiff]))); refine @unH _ ?_; refine zA y60_137 ?_; (repeat (refine inC ?_; intro hc)); try (refine inK ?_; intro K hK))
 (intro ob0 hob0; generalize hG : Hp.set _ ob0 _ = H2; have lH2 := Aqg hG hob0; have vob0 := Aqf hG; clear hG)
 have hv2 := hv1.le lH2
 have vvb2 := lH2 _ _ vvb
 have l02 := Hp.le_trans lH1 lH2
 have hout0 : SlR H2 (.slice (some ⟨ob0, 0, none⟩) 1 1) (tsK xss 0) := (row_one hob0 lH2 vob0).rows (Rows.nil.snoc (w := .slice none 0 0) (xs := []) ⟨none, 0, rfl, Nat.le_refl _, fun i x h => by simp at h⟩)
 clear hv1 vvb lH1 lH2 vob0 hob0
 ((try (refine @unH _ ?_; refine zX y60_137 ?_)); (try (refine hK _ _ ?_; clear hK K; (try simp only [nq, ↓reduceIte, Nat.reduceEqDiff]))); refine @unH _ ?_; refine zA y60_137 ?_; (repeat (refine inC ?_; intro hc)); try (refine inK ?_; intro K hK))
 refine Axb (fun w a' H' => ∃ e i ov, w = xss.length - i /\ i <= xss.length /\ a' = act 52 e [] /\ e 1 = .pointer (some ⟨vb, 0, none⟩) /\ e 3 = ov /\ e 4 = .int .i64 (i : Nat) /\ H2.le H' /\ SlR H' ov (tsK xss i)) (n := xss.length) ?_ ?_
 ·exact ⟨_, 0, _, by omega, by omega, rfl, rfl, rfl, rfl, Hp.le_refl _, hout0⟩
 ·clear hout0
  rename_i eold
  clear eold
  rintro w a' H3 ⟨e, i, ov, rfl, hi, rfl, e1, e3, e4, l23, hov⟩
  have hv3 := hv2.le l23
  have vvb3 := l23 _ _ vvb2
  by_cases hlt : i < xss.length
  ·have hxi := List.getElem?_eq_getElem hlt
   have hl6 := (show ∀ l ∈ xss, l.length <= 6 from hw6) xss[i] (List.getElem_mem hlt)
   have hnx := tsK_succ hxi
   have hon := (show ∀ i, _ from hlen) i (by omega)
   have hor := (show ∀ i, _ from hrl) i (by omega)
   generalize xss[i] = l at *
   obtain ⟨cb, co, q, c, fr, u, hca, hcb3, hcu, hu3⟩ := SlR.get hv3.calls hxi
   subst hca
   obtain ⟨ua, uc, rfl, _, _⟩ := id hu3
   obtain ⟨oa, oc, rfl, hoc, _⟩ := id hov
   generalize tsK xss i = out at *
   replace hnx : Aqy _ := hnx
   replace hor : Aqy _ := hor
   replace hxi : Aqy _ := hxi
   (refine @unH _ ?_; refine zA y60_137 ?_; (repeat (refine inC ?_; intro hc)); try (refine inK ?_; intro K hK))
   refine Axb (fun w a' H' => ∃ e k nv vs, w = out.length - k /\ k <= out.length /\ a' = act 52 e [] /\ e 1 = .pointer (some ⟨vb, 0, none⟩) /\ e 3 = .slice oa out.length oc /\ e 4 = .int .i64 (i : Nat) /\ e 5 = nv /\ e 6 = .int .i64 (k : Nat) /\ RowX none H3 H' nv 22 vs /\ Rows H' vs (tsX (out.take k) l)) (n := out.length) ?_ ?_
   ·exact ⟨_, 0, _, [], by omega, by omega, rfl, e1, e3, e4, rfl, rfl, RowX.nil, by simpa [tsX] using Rows.nil⟩
   ·clear e1 e3 e4
    rename_i eold
    clear eold
    rintro w a' H4 ⟨e, k, nv, vs, rfl, hk, rfl, e1, e3, e4, e5, e6, hrow, hrows⟩
    by_cases hkl : k < out.length
    ·have hok := List.getElem?_eq_getElem hkl
     have hol := (show ∀ o ∈ out, o.length <= 4 from hor) out[k] (List.getElem_mem hkl)
     generalize out[k] = o at *
     have hts := tsX_step (l := l) hok
     have htb := tsX_length (out.take k) l
     rw [List.length_take] at htb
     have htb2 : (tsX (out.take k) l).length <= 8000 := by rw [htb]; exact Nat.le_trans (Nat.mul_le_mul (Nat.le_trans (Nat.min_le_right _ _) hon) hl6) (by decide)
     clear htb
     generalize tsX (out.take k) l = T0 at *
     obtain ⟨na, nc, rfl⟩ := hrow.len
     obtain ⟨ob, oo, oq, occ, ofr, ow, hoa, hob3, hoi, how3⟩ := SlR.get hov hok
     subst hoa
     obtain ⟨wa, wc, rfl, hwc, _⟩ := id how3
     replace hts : Aqy _ := hts
     replace hok : Aqy _ := hok
     (refine @unH _ ?_; refine zA y60_137 ?_; (repeat (refine inC ?_; intro hc)); try (refine inK ?_; intro K hK))
     refine Axb (fun w a' H' => ∃ e p nv vs, w = l.length - p /\ p <= l.length /\ a' = act 52 e [] /\ e 1 = .pointer (some ⟨vb, 0, none⟩) /\ e 3 = .slice (some ⟨ob, oo, none⟩) out.length oc /\ e 4 = .int .i64 (i : Nat) /\ e 5 = nv /\ e 6 = .int .i64 (k : Nat) /\ e 7 = .int .i64 (p : Nat) /\ RowX none H3 H' nv 22 vs /\ Rows H' vs (T0 ++ (l.take p).map fun p => o ++ [p])) (n := l.length) ?_ ?_
     ·exact ⟨_, 0, _, vs, by omega, by omega, rfl, e1, e3, e4, e5, e6, rfl, hrow, by simpa using hrows⟩
     ·clear e1 e3 e4 e5 e6 hrow hrows
      rename_i eold
      clear eold na nc
      rintro w a' H4 ⟨e, p, nv, vs, rfl, hp, rfl, e1, e3, e4, e5, e6, e7, hrow, hrows⟩
      have l34 := hrow.1.toLe
      have vvb := l34 _ _ vvb3
      have hob := l34 _ _ hob3
      have hcb := l34 _ _ hcb3
      have how := how3.le l34
      have hu := hu3.le l34
      obtain ⟨na, nc, rfl⟩ := hrow.len
      by_cases hpl : p < l.length
      ·have hlp := List.getElem?_eq_getElem hpl
       generalize l[p] = pp at *
       have hms := map_step (f := fun p => o ++ [p]) hlp
       have hvl := hrows.1
       have hvb : vs.length <= 8006 := by rw [hvl, List.length_append, List.length_map, List.length_take]; omega
       obtain ⟨lb, lo, lq, lcc, lfr, hla, hlb, hli⟩ := hu.get hlp
       subst hla
       replace hms : Aqy _ := hms
       replace hlp : Aqy _ := hlp
       replace hvl : Aqy _ := hvl
       generalize (l.take p).map (fun p => o ++ [p]) = M0 at *
       (refine @unH _ ?_; refine zA y60_137 ?_; (repeat (refine inC ?_; intro hc)); try (refine inK ?_; intro K hK))
       refine Ajh (fun HX => H4.le HX) [17, 18] (.free 0 (.free 1 (.free 2 (.free 3 (.take 4 (.free 6 (.take 7 (.free 8 (.free 9 (.take 10 (.free 11 (.free 12 (.take 13 (.two 5 (.one 14 (.one 15 (.one 16 (.one 17 (.free 18 .nil))))) 14 (.one 5 (.one 15 (.one 16 (.one 17 (.free 18 .nil))))))))))))))))))) (by kernel_rfl) (by kernel_rfl) (by decide) (by kernel_rfl) ?_; intro K hK
       have hSx := Hp.le_refl H4
       (iterate 4 (apply Axn rfl rfl rfl; (focus (intro HX; simp -implicitDefEqProofs (disch := first | omega | (simp only [qd] <;> omega)) only [xq, ↓xp, qc, Nat.reduceAdd, List.range, List.range.loop, fine, Nat.reduceEqDiff, ↓reduceIte, yielded, reduceCtorEq, Nat.reduceLT, Nat.reduceMul, Nat.reduceSub, one, Nat.reduceLeDiff, Aqa, y60_137, aq, ↓ap, qe0, qe1, qe2, *, -hK, Aqx] <;> (first | exact rfl | exact ⟨rfl, rfl⟩ | exact ⟨rfl, trivial⟩))); simp -implicitDefEqProofs (disch := first | omega | (simp only [qd] <;> omega)) only [Aqm, Aqc]))
       (apply Aq8 rfl rfl rfl ‹_›; (focus (intro HX hHX; simp -implicitDefEqProofs (disch := first | omega | (simp only [qd] <;> omega)) only [xq, ↓xp, qc, Nat.reduceAdd, List.range, List.range.loop, fine, Nat.reduceEqDiff, ↓reduceIte, yielded, reduceCtorEq, Nat.reduceLT, Nat.reduceMul, Nat.reduceSub, one, Nat.reduceLeDiff, Aqa, y60_137, aq, ↓ap, qe0, qe1, qe2, *, -hK, Aqx, hHX _ _ vvb, hHX _ _ hob, hHX _ _ hcb, hHX _ _ hlb] <;> (first | exact rfl | exact ⟨rfl, rfl⟩ | exact ⟨rfl, trivial⟩))); simp -implicitDefEqProofs (disch := first | omega | (simp only [qd] <;> omega)) only [Aqm, Aqc])
       (apply Axn rfl rfl rfl; (focus (intro HX; simp -implicitDefEqProofs (disch := first | omega | (simp only [qd] <;> omega)) only [xq, ↓xp, qc, Nat.reduceAdd, List.range, List.range.loop, fine, Nat.reduceEqDiff, ↓reduceIte, yielded, reduceCtorEq, Nat.reduceLT, Nat.reduceMul, Nat.reduceSub, one, Nat.reduceLeDiff, Aqa, y60_137, aq, ↓ap, qe0, qe1, qe2, *, -hK, Aqx] <;> (first | exact rfl | exact ⟨rfl, rfl⟩ | exact ⟨rfl, trivial⟩))); simp -implicitDefEqProofs (disch := first | omega | (simp only [qd] <;> omega)) only [Aqm, Aqc])
       (apply Aq8 rfl rfl rfl ‹_›; (focus (intro HX hHX; simp -implicitDefEqProofs (disch := first | omega | (simp only [qd] <;> omega)) only [xq, ↓xp, qc, Nat.reduceAdd, List.range, List.range.loop, fine, Nat.reduceEqDiff, ↓reduceIte, yielded, reduceCtorEq, Nat.reduceLT, Nat.reduceMul, Nat.reduceSub, one, Nat.reduceLeDiff, Aqa, y60_137, aq, ↓ap, qe0, qe1, qe2, *, -hK, Aqx, hHX _ _ vvb, hHX _ _ hob, hHX _ _ hcb, hHX _ _ hlb] <;> (first | exact rfl | exact ⟨rfl, rfl⟩ | exact ⟨rfl, trivial⟩))); simp -implicitDefEqProofs (disch := first | omega | (simp only [qd] <;> omega)) only [Aqm, Aqc])
       (iterate 2 (apply Axn rfl rfl rfl; (focus (intro HX; simp -implicitDefEqProofs (disch := first | omega | (simp only [qd] <;> omega)) only [xq, ↓xp, qc, Nat.reduceAdd, List.range, List.range.loop, fine, Nat.reduceEqDiff, ↓reduceIte, yielded, reduceCtorEq, Nat.reduceLT, Nat.reduceMul, Nat.reduceSub, one, Nat.reduceLeDiff, Aqa, y60_137, aq, ↓ap, qe0, qe1, qe2, *, -hK, Aqx] <;> (first | exact rfl | exact ⟨rfl, rfl⟩ | exact ⟨rfl, trivial⟩))); simp -implicitDefEqProofs (disch := first | omega | (simp only [qd] <;> omega)) only [Aqm, Aqc]))
       (apply Aq8 rfl rfl rfl ‹_›; (focus (intro HX hHX; simp -implicitDefEqProofs (disch := first | omega | (simp only [qd] <;> omega)) only [xq, ↓xp, qc, Nat.reduceAdd, List.range, List.range.loop, fine, Nat.reduceEqDiff, ↓reduceIte, yielded, reduceCtorEq, Nat.reduceLT, Nat.reduceMul, Nat.reduceSub, one, Nat.reduceLeDiff, Aqa, y60_137, aq, ↓ap, qe0, qe1, qe2, *, -hK, Aqx, hHX _ _ vvb, hHX _ _ hob, hHX _ _ hcb, hHX _ _ hlb] <;> (first | exact rfl | exact ⟨rfl, rfl⟩ | exact ⟨rfl, trivial⟩))); simp -implicitDefEqProofs (disch := first | omega | (simp only [qd] <;> omega)) only [Aqm, Aqc])
       (iterate 2 (apply Axn rfl rfl rfl; (focus (intro HX; simp -implicitDefEqProofs (disch := first | omega | (simp only [qd] <;> omega)) only [xq, ↓xp, qc, Nat.reduceAdd, List.range, List.range.loop, fine, Nat.reduceEqDiff, ↓reduceIte, yielded, reduceCtorEq, Nat.reduceLT, Nat.reduceMul, Nat.reduceSub, one, Nat.reduceLeDiff, Aqa, y60_137, aq, ↓ap, qe0, qe1, qe2, *, -hK, Aqx] <;> (first | exact rfl | exact ⟨rfl, rfl⟩ | exact ⟨rfl, trivial⟩))); simp -implicitDefEqProofs (disch := first | omega | (simp only [qd] <;> omega)) only [Aqm, Aqc]))
       (apply Aq8 rfl rfl rfl ‹_›; (focus (intro HX hHX; simp -implicitDefEqProofs (disch := first | omega | (simp only [qd] <;> omega)) only [xq, ↓xp, qc, Nat.reduceAdd, List.range, List.range.loop, fine, Nat.reduceEqDiff, ↓reduceIte, yielded, reduceCtorEq, Nat.reduceLT, Nat.reduceMul, Nat.reduceSub, one, Nat.reduceLeDiff, Aqa, y60_137, aq, ↓ap, qe0, qe1, qe2, *, -hK, Aqx, hHX _ _ vvb, hHX _ _ hob, hHX _ _ hcb, hHX _ _ hlb] <;> (first | exact rfl | exact ⟨rfl, rfl⟩ | exact ⟨rfl, trivial⟩))); simp -implicitDefEqProofs (disch := first | omega | (simp only [qd] <;> omega)) only [Aqm, Aqc])
       refine planV_two ?_ ?_
       ·(refine @unH _ ?_; refine zX y60_137 ?_)
        refine (keepI_spec m H4 _ o how (by omega)).runs.mono ?_
        rintro _ H5 ⟨z, rfl, hz⟩
        have l45 := hz.1.toLe
        obtain ⟨za, zc, rfl⟩ := hz.len
        rw [Axi] at hz ⊢
        (refine @unH _ ?_; refine zX y60_137 ?_)
        refine ⟨.inr (by intros; first | exact l45 | trivial), Axa ?_⟩
        (refine @unH _ ?_; refine zX y60_137 ?_)
        intro nb hnb
        generalize hG : Hp.set H5 nb _ = H6
        have lH6 := Aqg hG hnb
        have vnb := Aqf hG
        clear hG
        have hsep : rowB (.slice za o.length zc) ≠ some nb := hz.rowB_ne fun c fr h => by rw [hnb] at h; cases h
        have hz6 := hz.le lH6
        have l46 := Hp.le_trans l45 lH6
        clear hz l45 lH6 hnb
        refine ⟨.inr (by intros; first | exact l46 | trivial), Axa ?_⟩
        (refine @unH _ ?_; refine zX y60_137 ?_)
        have hw1 : SlI H6 (.slice (some ⟨nb, 0, none⟩) 1 1) [pp] := Ajm (xs := [pp]) vnb rfl
        refine Czh hz6 hw1 (fun _ b hb => by simp only [rowB, Option.some.injEq] at hb; subst hb; exact hsep) (by simp only [List.length_cons, List.length_nil]; omega) _ _ _ _ (fun v6 H8 hlw hkeep => ?_)
        have l48 : H4.le H8 := hlw.1.toLe
        have hlI := hlw.ints
        obtain ⟨la, lc, rfl⟩ := hlw.len
        have hrow8 := hrow.le l48
        have hrows8 := hrows.mono fun v xs h => h.le l48
        clear hw1 hsep hlw hkeep vnb
        rw [Axi, List.length_append] at hlI ⊢
        simp only [List.length_cons, List.length_nil, Nat.zero_add] at hlI ⊢
        (refine @unH _ ?_; refine zX y60_137 ?_)
        refine ⟨.inr (by intros; first | exact l48 | trivial), Axa ?_⟩
        (refine @unH _ ?_; refine zX y60_137 ?_)
        intro mb hmb
        refine ⟨.inr (by intros; first | exact Hp.le_trans l48 (Hp.le_set hmb) | trivial), Axa ?_⟩
        (refine @unH _ ?_; refine zX y60_137 ?_)
        refine Cv8 hrow8 rfl hmb (by omega) _ _ _ _ (fun v7 HB hrB hoB => ?_)
        (refine @unH _ ?_; refine zX y60_137 ?_)
        refine ⟨.inl (by decide), ?_⟩
        (apply Axn rfl rfl rfl; (focus (intro HX; simp -implicitDefEqProofs (disch := first | omega | (simp only [qd] <;> omega)) only [xq, ↓xp, qc, Nat.reduceAdd, List.range, List.range.loop, fine, Nat.reduceEqDiff, ↓reduceIte, yielded, reduceCtorEq, Nat.reduceLT, Nat.reduceMul, Nat.reduceSub, one, Nat.reduceLeDiff, Aqa, y60_137, aq, ↓ap, qe0, qe1, qe2, *, -hK, Aqx] <;> (first | exact rfl | exact ⟨rfl, rfl⟩ | exact ⟨rfl, trivial⟩))); simp -implicitDefEqProofs (disch := first | omega | (simp only [qd] <;> omega)) only [Aqm, Aqc])
        refine Ajf (hK _ _ ?_); clear hK K
        (try simp only [nq, ↓reduceIte, Nat.reduceEqDiff])
        (refine @unH _ ?_; refine zA y60_137 ?_; (repeat (refine inC ?_; intro hc)); try (refine inK ?_; intro K hK))
        refine ⟨l.length - (p + 1), by omega, _, p + 1, v7, _, rfl, hpl, rfl, e1, e3, e4, rfl, e6, rfl, hrB, ?_⟩
        rw [show (l.take (p + 1)).map _ = _ from hms, <- List.append_assoc]
        exact (hrows8.mono fun v xs h => h.move fun x q c fr hx => hoB.cells hx (by decide)).snoc (hlI.move fun x q c fr hx => hoB.cells hx (by decide))
       ·(refine @unH _ ?_; refine zX y60_137 ?_)
        intro nb hnb
        generalize hG : Hp.set H4 nb _ = H5
        have l45 := Aqg hG hnb
        have vnb5 := Aqf hG
        clear hG hnb
        have how5 := (show SlI H4 _ _ from how).le l45
        refine ⟨.inr (by intros; first | exact l45 | trivial), Axa ?_⟩
        (refine @unH _ ?_; refine zX y60_137 ?_)
        refine (keepI_spec m H5 _ o how5 (by omega)).runs.mono ?_
        rintro _ H6 ⟨z, rfl, hz⟩
        have l56 := hz.1.toLe
        have l46 := Hp.le_trans l45 l56
        have vnb := l56 _ _ vnb5
        have hsep : rowB z ≠ some nb := fun h => by have := hz.rowB_new h; rw [vnb5] at this; cases this
        obtain ⟨za, zc, rfl⟩ := hz.len
        rw [Axi] at hz hsep ⊢
        clear how5 vnb5 l56
        (refine @unH _ ?_; refine zX y60_137 ?_)
        refine ⟨.inr (by intros; first | exact l46 | trivial), Axa ?_⟩
        (refine @unH _ ?_; refine zX y60_137 ?_)
        have hw1 : SlI H6 (.slice (some ⟨nb, 0, none⟩) 1 1) [pp] := Ajm (xs := [pp]) vnb rfl
        refine Czh hz hw1 (fun _ b hb => by simp only [rowB, Option.some.injEq] at hb; subst hb; exact hsep) (by simp only [List.length_cons, List.length_nil]; omega) _ _ _ _ (fun v6 H8 hlw hkeep => ?_)
        have l48 : H4.le H8 := Hp.le_trans l45 hlw.1.toLe
        have hlI := hlw.ints
        obtain ⟨la, lc, rfl⟩ := hlw.len
        have hrow8 := hrow.le l48
        have hrows8 := hrows.mono fun v xs h => h.le l48
        clear hw1 hsep hlw hkeep vnb
        rw [Axi, List.length_append] at hlI ⊢
        simp only [List.length_cons, List.length_nil, Nat.zero_add] at hlI ⊢
        (refine @unH _ ?_; refine zX y60_137 ?_)
        refine ⟨.inr (by intros; first | exact l48 | trivial), Axa ?_⟩
        (refine @unH _ ?_; refine zX y60_137 ?_)
        intro mb hmb
        refine ⟨.inr (by intros; first | exact Hp.le_trans l48 (Hp.le_set hmb) | trivial), Axa ?_⟩
        (refine @unH _ ?_; refine zX y60_137 ?_)
        refine Cv8 hrow8 rfl hmb (by omega) _ _ _ _ (fun v7 HB hrB hoB => ?_)
        (refine @unH _ ?_; refine zX y60_137 ?_)
        refine ⟨.inl (by decide), ?_⟩
        (apply Axn rfl rfl rfl; (focus (intro HX; simp -implicitDefEqProofs (disch := first | omega | (simp only [qd] <;> omega)) only [xq, ↓xp, qc, Nat.reduceAdd, List.range, List.range.loop, fine, Nat.reduceEqDiff, ↓reduceIte, yielded, reduceCtorEq, Nat.reduceLT, Nat.reduceMul, Nat.reduceSub, one, Nat.reduceLeDiff, Aqa, y60_137, aq, ↓ap, qe0, qe1, qe2, *, -hK, Aqx] <;> (first | exact rfl | exact ⟨rfl, rfl⟩ | exact ⟨rfl, trivial⟩))); simp -implicitDefEqProofs (disch := first | omega | (simp only [qd] <;> omega)) only [Aqm, Aqc])
        refine Ajf (hK _ _ ?_); clear hK K
        (try simp only [nq, ↓reduceIte, Nat.reduceEqDiff])
        (refine @unH _ ?_; refine zA y60_137 ?_; (repeat (refine inC ?_; intro hc)); try (refine inK ?_; intro K hK))
        refine ⟨l.length - (p + 1), by omega, _, p + 1, v7, _, rfl, hpl, rfl, e1, e3, e4, rfl, e6, rfl, hrB, ?_⟩
        rw [show (l.take (p + 1)).map _ = _ from hms, <- List.append_assoc]
        exact (hrows8.mono fun v xs h => h.move fun x q c fr hx => hoB.cells hx (by decide)).snoc (hlI.move fun x q c fr hx => hoB.cells hx (by decide))
      ·obtain rfl : p = l.length := by omega
       rw [List.take_length] at hrows
       (refine @unH _ ?_; refine zA y60_137 ?_; (repeat (refine inC ?_; intro hc)); try (refine inK ?_; intro K hK))
       refine ⟨out.length - (k + 1), by omega, _, k + 1, _, vs, rfl, hkl, rfl, e1, e3, e4, e5, rfl, hrow, ?_⟩
       rw [show tsX (out.take (k + 1)) l = _ from hts]
       exact hrows
    ·obtain rfl : k = out.length := by omega
     rw [List.take_length] at hrows
     have hS := hrow.rows hrows
     have l24 := Hp.le_trans l23 hrow.1.toLe
     obtain ⟨na, nc, rfl⟩ := hrow.len
     clear hrow
     rw [hrows.1] at hS e5
     clear hrows
     (refine @unH _ ?_; refine zA y60_137 ?_; (repeat (refine inC ?_; intro hc)); try (refine inK ?_; intro K hK))
     refine ⟨xss.length - (i + 1), by omega, _, i + 1, _, rfl, hlt, rfl, e1, rfl, rfl, l24, ?_⟩
     rw [show tsK xss (i + 1) = _ from hnx]
     exact hS
  ·obtain rfl : i = xss.length := by omega
   rw [tsK_all] at hov
   obtain ⟨oa, oc, rfl, hoc, _⟩ := id hov
   have l03 := Hp.le_trans l02 l23
   clear hlen hrl hv3
   generalize Aqt xss = out at *
   (refine @unH _ ?_; refine zA y60_137 ?_; (repeat (refine inC ?_; intro hc)); try (refine inK ?_; intro K hK))
   (refine @unH _ ?_; refine z9 Tryz.results60 ?_)
   exact ⟨_, rfl, l03, hov⟩
end Go.Proofs.YtgniilnljeedlaaGreatDoor
end
section
namespace Go.Proofs.YtgniilnljeedlaaGreatDoor
open Go Go.X
def y19_138 := And.intro @callF23 (And.intro @callF46 (And.intro (fun H => Aqz (H := H) (P := Tryz.prog) (h := Tryz.zeroValue25)) (And.intro (fun H => Aq0 (H := H) Tryz.sizeOf25) (And.intro (fun H => Aqs (H := H) Tryz.underlying25 rfl Tryz.sizeOf25) (And.intro @callF60 (And.intro @callF63 (And.intro @Dxb (And.intro (fun H => Aqz (H := H) (P := Tryz.prog) (h := Tryz.zeroValue61)) (And.intro (fun H => Aq0 (H := H) Tryz.sizeOf61) (And.intro (fun H => Aq3 (H := H) Tryz.underlying23) (And.intro @Bx9 (And.intro (fun H => Aqq (H := H) Tryz.underlying23 Tryz.sizeOf22) (And.intro (fun H => Aqe (H := H) Tryz.underlying22 rfl) (And.intro @Dq5 (And.intro (fun H => Aqh (H := H) Tryz.underlying61 (i := 0) rfl (off := 0) rfl Tryz.sizeOf3) (And.intro (fun H => Aqe (H := H) Tryz.underlying3 rfl) (And.intro @Bvp (And.intro (fun H => Aqh (H := H) Tryz.underlying61 (i := 1) rfl (off := 1) rfl Tryz.sizeOf3) (And.intro @Cqk (And.intro (fun H => Aqs (H := H) Tryz.underlying61 rfl Tryz.sizeOf61) (And.intro @Dq2 (And.intro @callF62 @callF22))))))))))))))))))))))
theorem z0_138 {p q : Prop} (g : q) (h : Hid q -> p := by
 intro g
 repeat' (first
 | (refine Axk rfl ?_; intro Kz hKz; simp -implicitDefEqProofs (disch := first | omega | (simp only [qd] <;> omega)) only [xq, ↓xp, qc, Nat.reduceAdd, List.range, List.range.loop, fine, Nat.reduceEqDiff, ↓reduceIte, yielded, reduceCtorEq, Nat.reduceLT, Nat.reduceMul, Nat.reduceSub, one, Nat.reduceLeDiff, Aqa, y19_138, aq, ↓ap, qe0, qe1, qe2, *, -g, -hKz, Bzs Bq3, bin_neq2 Bvl, beq_self_eq_true, Bool.and_self, Bool.not_true]; try (refine hKz _ _ ?_; clear hKz Kz))
 | (refine Axv rfl ?_; intro Kz hKz; simp -implicitDefEqProofs (disch := first | omega | (simp only [qd] <;> omega)) only [xq, ↓xp, qc, Nat.reduceAdd, List.range, List.range.loop, fine, Nat.reduceEqDiff, ↓reduceIte, yielded, reduceCtorEq, Nat.reduceLT, Nat.reduceMul, Nat.reduceSub, one, Nat.reduceLeDiff, Aqa, y19_138, aq, ↓ap, qe0, qe1, qe2, *, -g, -hKz, Bzs Bq3, bin_neq2 Bvl, beq_self_eq_true, Bool.and_self, Bool.not_true]; try (refine hKz _ _ ?_; clear hKz Kz; (try simp only [nq, ↓reduceIte, Nat.reduceEqDiff])))
 | (refine Aqv ?_; (try simp only [nq, ↓reduceIte, Nat.reduceEqDiff]))
 | (refine Axu ?_; (try simp only [nq, ↓reduceIte, Nat.reduceEqDiff]))
 | (refine Aq7 ?_; (try simp only [nq, ↓reduceIte, Nat.reduceEqDiff]))
 | (refine Azc ?_; (try simp only [nq, ↓reduceIte, Nat.reduceEqDiff]))
 | (refine Ax0 (by simp only [Aqn, Aqr, Nat.reduceEqDiff, Nat.reduceLT, ↓reduceIte, *, -g]; rfl) ?_ ?_ <;> (intro hcz; first | (exfalso; simp -implicitDefEqProofs (disch := omega) only [*, -g, bq, reduceCtorEq] at hcz; done) | (simp only [dq, qe3, qe4, qe5, qe6] at hcz) | skip))
 | (refine Axo ?_)
 | (refine Aqp ?_)
 | (refine Aql ?_))
 (try (revert Kz; refine unK ?_)); (repeat (revert hcz; refine unC ?_))
 exact Hid.out g) : Hid p := ⟨h ⟨g⟩⟩
theorem x1_138 {p q : Prop} (g : q) (h : Hid q -> p := by
 intro g
 simp -implicitDefEqProofs (disch := first | omega | (simp only [qd] <;> omega)) only [xq, ↓xp, qc, Nat.reduceAdd, List.range, List.range.loop, fine, Nat.reduceEqDiff, ↓reduceIte, yielded, reduceCtorEq, Nat.reduceLT, Nat.reduceMul, Nat.reduceSub, one, Nat.reduceLeDiff, Aqa, y19_138, aq, ↓ap, qe0, qe1, qe2, *, -g, -hK, Bzs Bq3, bin_neq2 Bvl, beq_self_eq_true, Bool.and_self, Bool.not_true]
 exact Hid.out g) : Hid p := ⟨h ⟨g⟩⟩
structure TrsA (H : Hp) (vb : Nat) (places pieces : Int) (sv cv ov : Value) (start : List Int) (xss L : List (List Int)) : Prop where
 d : Ajp H places pieces sv cv start xss
 v : H vb = some (true, .cells #[.int .i64 places, .int .i64 pieces, sv, cv] 25 (0, 0))
 o : SlR H ov L
section
variable {H H' : Hp} {vb : Nat} {places pieces : Int} {sv cv ov : Value} {start : List Int} {xss L : List (List Int)}
theorem TrsA.le (h : TrsA H vb places pieces sv cv ov start xss L) (hl : H.le H') : TrsA H' vb places pieces sv cv ov start xss L := ⟨h.d.le hl, hl _ _ h.v, h.o.le hl⟩
theorem TrsA.put (h : TrsA H vb places pieces sv cv ov start xss L) {b : Nat} {c : Array Value} {fr : Nat × Nat} {o : Obj} (hx : H b = some (true, .cells c 61 fr)) : TrsA (H.set b o) vb places pieces sv cv ov start xss L := by
 have hk := set_keeps0 (o := o) hx (by decide) (by decide)
 exact ⟨⟨h.d.st.move fun x p c fr hx => hk x p c fr _ (.inl rfl) hx, h.d.calls.move hk, h.d.ok, h.d.few⟩, (Aqo (fun e => by have := h.v; rw [e, hx] at this; cases this)).trans h.v, h.o.move hk⟩
theorem TrsA.day (h : TrsA H vb places pieces sv cv ov start xss L) {t : List Int} {tv : Value} (ht : Az9 xss t) (hv : SlI H tv t) : Awq H places pieces sv cv tv start xss t := ⟨h.d.st, h.d.calls, hv, h.d.ok, h.d.few, ht⟩
end
theorem take_snoc {L : List (List Int)} {i : Nat} {t : List Int} (h : L[i]? = some t) : L.take (i + 1) = L.take i ++ [t] := by rw [List.take_add_one, h]; rfl
theorem fewF_bnd {places : Int} (h1 : 1 <= places) {start t : List Int} (ht : t.length <= 8) : 0 <= fewF places start t /\ fewF places start t <= 8 := by
 have := Bvw t.length places h1 t (oOf start) (Nat.le_refl _)
 unfold fewF
 omega
theorem fetF_bnd {places r : Int} {start t : List Int} (hs : ∀ y ∈ start, 0 <= y /\ y < 6) (hb : ∀ y ∈ t, 0 <= y /\ y < 6) (ht : t.length <= 8) : 0 <= fetF places r start t /\ fetF places r start t <= 8 := by
 have := (Bjr places r t start hs hb (by omega) t.length (Nat.le_refl _)).f
 unfold fetF
 omega
theorem ltruths_spec (H : Hp) (sa : Option Addr) (sl sc : Nat) (hs : ∀ i : Nat, i < sl -> ∃ sb so c e fr x, sa = some ⟨sb, so, none⟩ /\ H sb = some (false, .cells c e fr) /\ c[so + i]? = some (.int .i64 x)) :
  FnX Tryz.prog (.wg Tryz.prog) 19 #[.slice sa sl sc] H fun e _ => e = .returned (.bool true) := by
 refine Aqk Tryz.func19 rfl Tryz.ntmps19 (by simp) ?_
 repeat' (first
 | (refine Axk rfl ?_; intro K hK; simp -implicitDefEqProofs (disch := first | omega | (simp only [qd] <;> omega)) only [xq, ↓xp, qc, Nat.reduceAdd, List.range, List.range.loop, fine, Nat.reduceEqDiff, ↓reduceIte, yielded, reduceCtorEq, Nat.reduceLT, Nat.reduceMul, Nat.reduceSub, one, Nat.reduceLeDiff, Aqa, y19_138, aq, ↓ap, qe0, qe1, qe2, *, -hK]; try (refine hK _ _ ?_; clear hK K))
 | (refine Axv rfl ?_; intro K hK; simp -implicitDefEqProofs (disch := first | omega | (simp only [qd] <;> omega)) only [xq, ↓xp, qc, Nat.reduceAdd, List.range, List.range.loop, fine, Nat.reduceEqDiff, ↓reduceIte, yielded, reduceCtorEq, Nat.reduceLT, Nat.reduceMul, Nat.reduceSub, one, Nat.reduceLeDiff, Aqa, y19_138, aq, ↓ap, qe0, qe1, qe2, *, -hK]; try (refine hK _ _ ?_; clear hK K; (try simp only [nq, ↓reduceIte, Nat.reduceEqDiff])))
 | (refine Aqv ?_; (try simp only [nq, ↓reduceIte, Nat.reduceEqDiff]))
 | (refine Axu ?_; (try simp only [nq, ↓reduceIte, Nat.reduceEqDiff]))
 | (refine Aq7 ?_; (try simp only [nq, ↓reduceIte, Nat.reduceEqDiff]))
 | (refine Azc ?_; (try simp only [nq, ↓reduceIte, Nat.reduceEqDiff]))
 | (refine Ax0 (by simp only [Aqn, Aqr, Nat.reduceEqDiff, Nat.reduceLT, ↓reduceIte, *]; rfl) ?_ ?_ <;> (intro hc; first | (exfalso; simp -implicitDefEqProofs (disch := omega) only [*, bq, reduceCtorEq] at hc; done) | (simp only [dq, qe3, qe4, qe5, qe6] at hc) | skip))
 | (refine Axo ?_)
 | (refine Aqp ?_)
 | (refine Aql ?_))
 refine (newTin_spec _ H sa sl sc hs 240 (by omega)).runs.mono ?_
 rintro _ H1 ⟨tb, rfl, l1, hT⟩
 (try simp -implicitDefEqProofs (disch := first | omega | (simp only [qd] <;> omega)) only [xq, ↓xp, qc, Nat.reduceAdd, List.range, List.range.loop, fine, Nat.reduceEqDiff, ↓reduceIte, yielded, reduceCtorEq, Nat.reduceLT, Nat.reduceMul, Nat.reduceSub, one, Nat.reduceLeDiff, Aqa, y19_138, aq, ↓ap, qe0, qe1, qe2, *, -hK]); try (refine hK _ _ ?_; clear hK K; (try simp only [nq, ↓reduceIte, Nat.reduceEqDiff])); repeat' (first
 | (refine Axk rfl ?_; intro K hK; simp -implicitDefEqProofs (disch := first | omega | (simp only [qd] <;> omega)) only [xq, ↓xp, qc, Nat.reduceAdd, List.range, List.range.loop, fine, Nat.reduceEqDiff, ↓reduceIte, yielded, reduceCtorEq, Nat.reduceLT, Nat.reduceMul, Nat.reduceSub, one, Nat.reduceLeDiff, Aqa, y19_138, aq, ↓ap, qe0, qe1, qe2, *, -hK]; try (refine hK _ _ ?_; clear hK K))
 | (refine Axv rfl ?_; intro K hK; simp -implicitDefEqProofs (disch := first | omega | (simp only [qd] <;> omega)) only [xq, ↓xp, qc, Nat.reduceAdd, List.range, List.range.loop, fine, Nat.reduceEqDiff, ↓reduceIte, yielded, reduceCtorEq, Nat.reduceLT, Nat.reduceMul, Nat.reduceSub, one, Nat.reduceLeDiff, Aqa, y19_138, aq, ↓ap, qe0, qe1, qe2, *, -hK]; try (refine hK _ _ ?_; clear hK K; (try simp only [nq, ↓reduceIte, Nat.reduceEqDiff])))
 | (refine Aqv ?_; (try simp only [nq, ↓reduceIte, Nat.reduceEqDiff]))
 | (refine Axu ?_; (try simp only [nq, ↓reduceIte, Nat.reduceEqDiff]))
 | (refine Aq7 ?_; (try simp only [nq, ↓reduceIte, Nat.reduceEqDiff]))
 | (refine Azc ?_; (try simp only [nq, ↓reduceIte, Nat.reduceEqDiff]))
 | (refine Ax0 (by simp only [Aqn, Aqr, Nat.reduceEqDiff, Nat.reduceLT, ↓reduceIte, *]; rfl) ?_ ?_ <;> (intro hc; first | (exfalso; simp -implicitDefEqProofs (disch := omega) only [*, bq, reduceCtorEq] at hc; done) | (simp only [dq, qe3, qe4, qe5, qe6] at hc) | skip))
 | (refine Axo ?_)
 | (refine Aqp ?_)
 | (refine Aql ?_))
 refine (vaultOf_spec _ H1 tb 184 4 2 (by omega) (by omega) (by omega) hT).runs.mono ?_
 rintro _ H2 ⟨places, pieces, sv, start, cv, xss, tv, ts, rfl, hst, hcs, htr, hok, hfew, htok, lex2, hT2⟩
 have hd2 : Awq H2 places pieces sv cv tv start xss ts := ⟨hst, hcs, htr, hok, by omega, htok⟩
 clear hT hs l1 hst hcs htr lex2
 obtain ⟨va, vc, rfl, hvc, _⟩ := id hd2.st
 obtain ⟨ca, cc, rfl, hcc, _⟩ := id hd2.calls
 obtain ⟨ta, tc, rfl, htc, _⟩ := id hd2.truth
 have htl : ts.length <= 4 := by have := htok.1; omega
 have htb := htok.bnd hok
 have hok2 := hok
 obtain ⟨p1, p4, q1, q6, hsp, hsd, hsb, hxs⟩ := hok2
 have hs6 : ∀ t ∈ start, 0 <= t /\ t < 6 := fun t ht => by have := hsb t ht; omega
 ((try (refine @unH _ ?_; refine zX y19_138 ?_)); (try (refine hK _ _ ?_; clear hK K; (try simp only [nq, ↓reduceIte, Nat.reduceEqDiff]))); refine @unH _ ?_; refine zA y19_138 ?_; (repeat (refine inC ?_; intro hc)); try (refine inK ?_; intro K hK))
 (intro vb hvb; generalize hG : Hp.set _ vb _ = H3; have lH3 := Aqg hG hvb; have vvb := Aqf hG; clear hG)
 have hv3 : Ajp H3 places pieces _ _ start xss := ⟨(hd2.le lH3).st, (hd2.le lH3).calls, hok, by omega⟩
 clear hd2 lH3 hvb hT2
 ((try (refine @unH _ ?_; refine zX y19_138 ?_)); (try (refine hK _ _ ?_; clear hK K; (try simp only [nq, ↓reduceIte, Nat.reduceEqDiff]))); refine @unH _ ?_; refine zA y19_138 ?_; (repeat (refine inC ?_; intro hc)); try (refine inK ?_; intro K hK))
 refine (callTruths_spec _ H3 places pieces _ _ start xss hv3 hfew).runs.mono ?_
 rintro _ H4 ⟨w, rfl, l1, hw⟩
 have hv4 := hv3.le l1
 have vvb4 := l1 _ _ vvb
 clear hv3 vvb l1
 have hin := Cjq hok (by omega)
 have hLl := truthsF_len hok hfew
 have hmem : ∀ t ∈ Aqt xss, Az9 xss t := fun t ht => (Bqk xss t).1 ht
 have hfb : ∀ t ∈ Aqt xss, 0 <= fewF places start t /\ fewF places start t <= 8 := fun t ht => fewF_bnd p1 (hin.1 t ht).1
 have hrb : ∀ r : Int, ∀ t ∈ Aqt xss, 0 <= fetF places r start t /\ fetF places r start t <= 8 := fun r t ht => fetF_bnd hs6 (hin.1 t ht).2 (hin.1 t ht).1
 have hBf := bdP_is (fewF places start) (Aqt xss) hin.2 (fun t ht => by have := hfb t ht; omega)
 have hBr := fun r : Int => bdP_is (fetF places r start) (Aqt xss) hin.2 (fun t ht => by have := hrb r t ht; omega)
 have hfet := fun HX (hX : Ajp HX places pieces (.slice va start.length vc) (.slice ca xss.length cc) start xss) (r : Int) h0 h3 => vFetches_spec HX places pieces _ _ start xss hX r h0 h3
 have hfw := fun HX (hX : Ajp HX places pieces (.slice va start.length vc) (.slice ca xss.length cc) start xss) => Byh HX places pieces _ _ start xss hX
 have hvt := fun HX (hX : Ajp HX places pieces (.slice va start.length vc) (.slice ca xss.length cc) start xss) => vtruths_spec (.wg Tryz.prog) HX places pieces _ _ start xss hX
 generalize Aqt xss = L at *
 obtain ⟨oa, oc, rfl, hoc, _⟩ := id hw
 have hA4 : TrsA H4 vb places pieces _ _ _ start xss L := ⟨hv4, vvb4, hw⟩
 clear hv4 hw
 replace hmem : Aqy _ := hmem
 replace hBf : Aqy _ := hBf
 replace hBr : Aqy _ := hBr
 replace hfet : Aqy _ := hfet
 replace hfb : Aqy _ := hfb
 replace hrb : Aqy _ := hrb
 replace hfw : Aqy _ := hfw
 replace hvt : Aqy _ := hvt
 clear hin
 ((try (refine @unH _ ?_; refine zX y19_138 ?_)); (try (refine hK _ _ ?_; clear hK K; (try simp only [nq, ↓reduceIte, Nat.reduceEqDiff]))); refine @unH _ ?_; refine zA y19_138 ?_; (repeat (refine inC ?_; intro hc)); try (refine inK ?_; intro K hK))
 refine ((show ∀ HX, _ -> _ from hvt) H4 hA4.d).runs.mono ?_
 rintro _ H5 ⟨rfl, l1⟩
 have hA5 := hA4.le l1
 have vvb5 := hA5.v
 clear hA4 l1 vvb4 hvt
 ((try (refine @unH _ ?_; refine zX y19_138 ?_)); (try (refine hK _ _ ?_; clear hK K; (try simp only [nq, ↓reduceIte, Nat.reduceEqDiff]))); refine @unH _ ?_; refine zA y19_138 ?_; (repeat (refine inC ?_; intro hc)); try (refine inK ?_; intro K hK))
 refine ((show ∀ HX, _ -> _ from hfw) H5 hA5.d).runs.mono ?_
 rintro _ H6 ⟨rfl, l1⟩
 have hA6 := hA5.le l1
 have vvb6 := hA6.v
 clear hA5 l1 vvb5 hfw
 have hBf' : bdP (fewF places start) L = ((bdT (fewF places start) L).lo, (bdT (fewF places start) L).hi) := hBf
 clear hBf
 generalize (bdT (fewF places start) L).lo = B1 at *
 generalize (bdT (fewF places start) L).hi = B2 at *
 replace hBf' : Aqy _ := hBf'
 ((try (refine @unH _ ?_; refine zX y19_138 ?_)); (try (refine hK _ _ ?_; clear hK K; (try simp only [nq, ↓reduceIte, Nat.reduceEqDiff]))); refine @unH _ ?_; refine zA y19_138 ?_; (repeat (refine inC ?_; intro hc)); try (refine inK ?_; intro K hK))
 (intro bb hbb; generalize hG : Hp.set _ bb _ = H7; have lH7 := Aqg hG hbb; have vbb := Aqf hG; clear hG)
 have hA7 := hA6.le lH7
 clear hA6 vvb6 lH7 hbb
 ((try (refine @unH _ ?_; refine zX y19_138 ?_)); (try (refine hK _ _ ?_; clear hK K; (try simp only [nq, ↓reduceIte, Nat.reduceEqDiff]))); refine @unH _ ?_; refine zA y19_138 ?_; (repeat (refine inC ?_; intro hc)); try (refine inK ?_; intro K hK))
 (intro db hdb; generalize hG : Hp.set _ db _ = H8; have lH8 := Aqg hG hdb; have vdb := Aqf hG; clear hG)
 have hA8 := hA7.le lH8
 have vbb8 := lH8 _ _ vbb
 have hbd := Ax3 vbb hdb
 clear hA7 vbb lH8 hdb
 ((try (refine @unH _ ?_; refine zX y19_138 ?_)); (try (refine hK _ _ ?_; clear hK K; (try simp only [nq, ↓reduceIte, Nat.reduceEqDiff]))); refine @unH _ ?_; refine zA y19_138 ?_; (repeat (refine inC ?_; intro hc)); try (refine inK ?_; intro K hK))
 refine Axb (fun w a' H' => ∃ e i, w = L.length - i /\ i <= L.length /\ a' = act 130 e [] /\ e 3 = .pointer (some ⟨vb, 0, none⟩) /\ e 5 = .slice oa L.length oc /\ e 8 = .pointer (some ⟨bb, 0, none⟩) /\ e 10 = .pointer (some ⟨db, 0, none⟩) /\ e 11 = .int .i64 (i : Nat) /\ TrsA H' vb places pieces (.slice va start.length vc) (.slice ca xss.length cc) (.slice oa L.length oc) start xss L /\
  H' bb = some (true, .cells #[.int .i64 B1, .int .i64 B2] 61 (0, 0)) /\ H' db = some (true, .cells #[.int .i64 (bdP (fewF places start) (L.take i)).1, .int .i64 (bdP (fewF places start) (L.take i)).2] 61 (0, 0))) (n := L.length) ?_ ?_
 ·exact ⟨_, 0, by omega, by omega, rfl, rfl, rfl, rfl, rfl, rfl, hA8, vbb8, vdb⟩
 ·clear hA8 vbb8 vdb
  rename_i eold
  clear eold
  rintro w a' H4 ⟨e, i, rfl, hi, rfl, e3, e5, e8, e10, e11, hA, vbb, vdb⟩
  have vvb := hA.v
  by_cases hlt : i < L.length
  ·have hxi := List.getElem?_eq_getElem hlt
   have htm := (show ∀ t ∈ L, Az9 xss t from hmem) L[i] (List.getElem_mem hlt)
   have hfbi := (show ∀ t ∈ L, _ from hfb) L[i] (List.getElem_mem hlt)
   generalize L[i] = t at *
   have htl8 : t.length <= 8 := by have := htm.1; omega
   have hsn := bdP_snoc (fewF places start) (L.take i) t
   rw [<- take_snoc hxi] at hsn
   obtain ⟨ob, oo, oq, occ, ofr, ow, hoa, hob, hoi, how⟩ := SlR.get hA.o hxi
   subst hoa
   obtain ⟨wa, wc, rfl, hwc, _⟩ := id how
   have hdi := hA.day htm how
   generalize bdP (fewF places start) (L.take i) = Q0 at *
   replace hsn : Aqy _ := hsn
   replace hxi : Aqy _ := hxi
   replace htm : Aqy _ := htm
   (refine @unH _ ?_; refine zA y19_138 ?_; (repeat (refine inC ?_; intro hc)); try (refine inK ?_; intro K hK))
   refine Ajh (fun HX => H4.le HX) [] (.take 0 (.free 1 (.free 2 (.free 3 (.take 4 (.one 5 (.free 6 (.free 7 (.free 8 (.free 9 (.free 10 (.free 11 (.free 12 .nil))))))))))))) (by kernel_rfl) (by kernel_rfl) (by decide) (by kernel_rfl) ?_; intro K hK
   have hSx := Hp.le_refl H4
   (apply Aq8 rfl rfl rfl ‹_›; (focus (intro HX hHX; simp -implicitDefEqProofs (disch := first | omega | (simp only [qd] <;> omega)) only [xq, ↓xp, qc, Nat.reduceAdd, List.range, List.range.loop, fine, Nat.reduceEqDiff, ↓reduceIte, yielded, reduceCtorEq, Nat.reduceLT, Nat.reduceMul, Nat.reduceSub, one, Nat.reduceLeDiff, Aqa, y19_138, aq, ↓ap, qe0, qe1, qe2, *, -hK, Aqx, hHX _ _ vvb, hHX _ _ hob] <;> (first | exact rfl | exact ⟨rfl, rfl⟩ | exact ⟨rfl, trivial⟩))); simp -implicitDefEqProofs (disch := first | omega | (simp only [qd] <;> omega)) only [Aqm, Aqc])
   (iterate 3 (apply Axn rfl rfl rfl; (focus (intro HX; simp -implicitDefEqProofs (disch := first | omega | (simp only [qd] <;> omega)) only [xq, ↓xp, qc, Nat.reduceAdd, List.range, List.range.loop, fine, Nat.reduceEqDiff, ↓reduceIte, yielded, reduceCtorEq, Nat.reduceLT, Nat.reduceMul, Nat.reduceSub, one, Nat.reduceLeDiff, Aqa, y19_138, aq, ↓ap, qe0, qe1, qe2, *, -hK, Aqx] <;> (first | exact rfl | exact ⟨rfl, rfl⟩ | exact ⟨rfl, trivial⟩))); simp -implicitDefEqProofs (disch := first | omega | (simp only [qd] <;> omega)) only [Aqm, Aqc]))
   (apply Aq8 rfl rfl rfl ‹_›; (focus (intro HX hHX; simp -implicitDefEqProofs (disch := first | omega | (simp only [qd] <;> omega)) only [xq, ↓xp, qc, Nat.reduceAdd, List.range, List.range.loop, fine, Nat.reduceEqDiff, ↓reduceIte, yielded, reduceCtorEq, Nat.reduceLT, Nat.reduceMul, Nat.reduceSub, one, Nat.reduceLeDiff, Aqa, y19_138, aq, ↓ap, qe0, qe1, qe2, *, -hK, Aqx, hHX _ _ vvb, hHX _ _ hob] <;> (first | exact rfl | exact ⟨rfl, rfl⟩ | exact ⟨rfl, trivial⟩))); simp -implicitDefEqProofs (disch := first | omega | (simp only [qd] <;> omega)) only [Aqm, Aqc])
   refine Axa ?_
   (refine @unH _ ?_; refine zX y19_138 ?_)
   refine (Cj3 _ H4 places pieces _ _ _ start xss t hdi).runs.mono ?_
   rintro _ H5 ⟨bv, rfl, hbl, l1⟩
   have hA5 := hA.le l1
   have vvb5 := hA5.v
   have vbb5 := l1 _ _ vbb
   have vdb5 := l1 _ _ vdb
   clear hA hbl vvb vbb vdb hdi hob how
   (refine @unH _ ?_; refine zX y19_138 ?_)
   refine ⟨.inr (by intros; first | exact l1 | trivial), ?_⟩
   (iterate 7 (apply Axn rfl rfl rfl; (focus (intro HX; simp -implicitDefEqProofs (disch := first | omega | (simp only [qd] <;> omega)) only [xq, ↓xp, qc, Nat.reduceAdd, List.range, List.range.loop, fine, Nat.reduceEqDiff, ↓reduceIte, yielded, reduceCtorEq, Nat.reduceLT, Nat.reduceMul, Nat.reduceSub, one, Nat.reduceLeDiff, Aqa, y19_138, aq, ↓ap, qe0, qe1, qe2, *, -hK, Aqx] <;> (first | exact rfl | exact ⟨rfl, rfl⟩ | exact ⟨rfl, trivial⟩))); simp -implicitDefEqProofs (disch := first | omega | (simp only [qd] <;> omega)) only [Aqm, Aqc]))
   have hF : ((optF t.length places t (oOf start) : Nat) : Int) = fewF places start t := rfl
   rw [hF]
   clear hF
   generalize fewF places start t = m at *
   refine Ajf (hK _ _ ?_); clear hK K
   (try simp only [nq, ↓reduceIte, Nat.reduceEqDiff])
   (refine @unH _ ?_; refine zA y19_138 ?_; (repeat (refine inC ?_; intro hc)); try (refine inK ?_; intro K hK))
   have hA6 := hA5.put vdb5 (o := .cells #[.int .i64 (if m < Q0.1 then m else Q0.1), .int .i64 (if Q0.2 < m then m else Q0.2)] 61 (0, 0))
   refine ⟨L.length - (i + 1), by omega, _, i + 1, rfl, hlt, rfl, e3, e5, e8, e10, rfl, hA6, (Aqo hbd).trans vbb5, ?_⟩
   rw [show bdP (fewF places start) (L.take (i + 1)) = _ from hsn, show (if m < Q0.1 then m else Q0.1) = min Q0.1 m by omega, show (if Q0.2 < m then m else Q0.2) = max Q0.2 m by omega]
   exact Aqw
  ·obtain rfl : i = L.length := by omega
   rw [List.take_length, show bdP (fewF places start) L = _ from hBf'] at vdb
   clear hfb hBf'
   (refine @unH _ ?_; refine z0_138 ?_; (repeat (refine inC ?_; intro hc)); try (refine inK ?_; intro K hK))
   have hA9 := hA
   have vdb9 : ∃ x1 x2 : Int, H4 db = some (true, .cells #[.int .i64 x1, .int .i64 x2] 61 (0, 0)) := ⟨_, _, vdb⟩
   obtain ⟨x1, x2, vdb9⟩ := vdb9
   clear hA vvb vdb vbb hbd e8 e11
   refine Axb (fun w a' H' => ∃ e, ∃ r : Nat, ∃ x1 x2 : Int, w = 4 - r /\ r <= 4 /\ a' = act 130 e [] /\ e 3 = .pointer (some ⟨vb, 0, none⟩) /\ e 5 = .slice oa L.length oc /\ e 10 = .pointer (some ⟨db, 0, none⟩) /\ e 15 = .int .i64 (r : Nat) /\ TrsA H' vb places pieces (.slice va start.length vc) (.slice ca xss.length cc) (.slice oa L.length oc) start xss L /\
    H' db = some (true, .cells #[.int .i64 x1, .int .i64 x2] 61 (0, 0))) (n := 4) ?_ ?_
   ·exact ⟨_, 0, x1, x2, by omega, by omega, rfl, e3, e5, e10, rfl, hA9, vdb9⟩
   ·clear hA9 vdb9 e3 e5 e10
    rename_i eold
    clear eold
    rintro w a' H5 ⟨e, r, x1, x2, rfl, hr, rfl, e3, e5, e10, e15, hA, vdb⟩
    by_cases hr3 : r <= 3
    ·have hBr1 := (show ∀ r : Int, _ from hBr) r
     have hrb1 := (show ∀ r : Int, _ from hrb) r
     replace hBr1 : Aqy _ := hBr1
     replace hrb1 : Aqy _ := hrb1
     have vvb5 := hA.v
     (refine @unH _ ?_; refine zA y19_138 ?_; (repeat (refine inC ?_; intro hc)); try (refine inK ?_; intro K hK))
     have hA6 := hA.put vdb (o := .cells #[.int .i64 1000, .int .i64 (-1)] 61 (0, 0))
     generalize hG : Hp.set H5 db _ = H6
     have vdb6 := Aqf hG
     rw [hG] at hA6
     clear hG vdb hA vvb5
     refine Axb (fun w a' H' => ∃ e i, w = L.length - i /\ i <= L.length /\ a' = act 130 e [] /\ e 3 = .pointer (some ⟨vb, 0, none⟩) /\ e 5 = .slice oa L.length oc /\ e 10 = .pointer (some ⟨db, 0, none⟩) /\ e 15 = .int .i64 (r : Nat) /\ e 16 = .int .i64 (i : Nat) /\ TrsA H' vb places pieces (.slice va start.length vc) (.slice ca xss.length cc) (.slice oa L.length oc) start xss L /\
      H' db = some (true, .cells #[.int .i64 (bdP (fetF places r start) (L.take i)).1, .int .i64 (bdP (fetF places r start) (L.take i)).2] 61 (0, 0))) (n := L.length) ?_ ?_
     ·exact ⟨_, 0, by omega, by omega, rfl, e3, e5, e10, e15, rfl, hA6, vdb6⟩
     ·clear hA6 vdb6 e3 e5 e10 e15
      rename_i eold
      clear eold
      rintro w a' H4 ⟨e, i, rfl, hi, rfl, e3, e5, e10, e15, e16, hA, vdb⟩
      have vvb := hA.v
      by_cases hlt : i < L.length
      ·have hxi := List.getElem?_eq_getElem hlt
       have htm := (show ∀ t ∈ L, Az9 xss t from hmem) L[i] (List.getElem_mem hlt)
       have hfbi := (show ∀ t ∈ L, _ from hrb1) L[i] (List.getElem_mem hlt)
       generalize L[i] = t at *
       have htl8 : t.length <= 8 := by have := htm.1; omega
       have hsn := bdP_snoc (fetF places r start) (L.take i) t
       rw [<- take_snoc hxi] at hsn
       obtain ⟨ob, oo, oq, occ, ofr, ow, hoa, hob, hoi, how⟩ := SlR.get hA.o hxi
       subst hoa
       obtain ⟨wa, wc, rfl, hwc, _⟩ := id how
       have hdi := hA.day htm how
       generalize bdP (fetF places r start) (L.take i) = Q0 at *
       replace hsn : Aqy _ := hsn
       replace hxi : Aqy _ := hxi
       replace htm : Aqy _ := htm
       (refine @unH _ ?_; refine zA y19_138 ?_; (repeat (refine inC ?_; intro hc)); try (refine inK ?_; intro K hK))
       refine Ajh (fun HX => H4.le HX) [] (.take 0 (.free 1 (.free 2 (.free 3 (.take 4 (.free 5 (.one 6 (.free 7 (.free 8 (.free 9 (.free 10 (.free 11 (.free 12 (.free 13 .nil)))))))))))))) (by kernel_rfl) (by kernel_rfl) (by decide) (by kernel_rfl) ?_; intro K hK
       have hSx := Hp.le_refl H4
       (apply Aq8 rfl rfl rfl ‹_›; (focus (intro HX hHX; simp -implicitDefEqProofs (disch := first | omega | (simp only [qd] <;> omega)) only [xq, ↓xp, qc, Nat.reduceAdd, List.range, List.range.loop, fine, Nat.reduceEqDiff, ↓reduceIte, yielded, reduceCtorEq, Nat.reduceLT, Nat.reduceMul, Nat.reduceSub, one, Nat.reduceLeDiff, Aqa, y19_138, aq, ↓ap, qe0, qe1, qe2, *, -hK, Aqx, hHX _ _ vvb, hHX _ _ hob] <;> (first | exact rfl | exact ⟨rfl, rfl⟩ | exact ⟨rfl, trivial⟩))); simp -implicitDefEqProofs (disch := first | omega | (simp only [qd] <;> omega)) only [Aqm, Aqc])
       (iterate 3 (apply Axn rfl rfl rfl; (focus (intro HX; simp -implicitDefEqProofs (disch := first | omega | (simp only [qd] <;> omega)) only [xq, ↓xp, qc, Nat.reduceAdd, List.range, List.range.loop, fine, Nat.reduceEqDiff, ↓reduceIte, yielded, reduceCtorEq, Nat.reduceLT, Nat.reduceMul, Nat.reduceSub, one, Nat.reduceLeDiff, Aqa, y19_138, aq, ↓ap, qe0, qe1, qe2, *, -hK, Aqx] <;> (first | exact rfl | exact ⟨rfl, rfl⟩ | exact ⟨rfl, trivial⟩))); simp -implicitDefEqProofs (disch := first | omega | (simp only [qd] <;> omega)) only [Aqm, Aqc]))
       (apply Aq8 rfl rfl rfl ‹_›; (focus (intro HX hHX; simp -implicitDefEqProofs (disch := first | omega | (simp only [qd] <;> omega)) only [xq, ↓xp, qc, Nat.reduceAdd, List.range, List.range.loop, fine, Nat.reduceEqDiff, ↓reduceIte, yielded, reduceCtorEq, Nat.reduceLT, Nat.reduceMul, Nat.reduceSub, one, Nat.reduceLeDiff, Aqa, y19_138, aq, ↓ap, qe0, qe1, qe2, *, -hK, Aqx, hHX _ _ vvb, hHX _ _ hob] <;> (first | exact rfl | exact ⟨rfl, rfl⟩ | exact ⟨rfl, trivial⟩))); simp -implicitDefEqProofs (disch := first | omega | (simp only [qd] <;> omega)) only [Aqm, Aqc])
       (apply Axn rfl rfl rfl; (focus (intro HX; simp -implicitDefEqProofs (disch := first | omega | (simp only [qd] <;> omega)) only [xq, ↓xp, qc, Nat.reduceAdd, List.range, List.range.loop, fine, Nat.reduceEqDiff, ↓reduceIte, yielded, reduceCtorEq, Nat.reduceLT, Nat.reduceMul, Nat.reduceSub, one, Nat.reduceLeDiff, Aqa, y19_138, aq, ↓ap, qe0, qe1, qe2, *, -hK, Aqx] <;> (first | exact rfl | exact ⟨rfl, rfl⟩ | exact ⟨rfl, trivial⟩))); simp -implicitDefEqProofs (disch := first | omega | (simp only [qd] <;> omega)) only [Aqm, Aqc])
       refine Axa ?_
       (refine @unH _ ?_; refine zX y19_138 ?_)
       refine (Cvt _ H4 places pieces _ _ _ start xss t hdi r (by omega) (by omega)).runs.mono ?_
       rintro _ H5 ⟨bv, rfl, l1, hbl⟩
       have hA5 := hA.le l1
       have vvb5 := hA5.v
       have vdb5 := l1 _ _ vdb
       clear hA hbl vvb vdb hdi hob how
       (refine @unH _ ?_; refine zX y19_138 ?_)
       refine ⟨.inr (by intros; first | exact l1 | trivial), ?_⟩
       (iterate 7 (apply Axn rfl rfl rfl; (focus (intro HX; simp -implicitDefEqProofs (disch := first | omega | (simp only [qd] <;> omega)) only [xq, ↓xp, qc, Nat.reduceAdd, List.range, List.range.loop, fine, Nat.reduceEqDiff, ↓reduceIte, yielded, reduceCtorEq, Nat.reduceLT, Nat.reduceMul, Nat.reduceSub, one, Nat.reduceLeDiff, Aqa, y19_138, aq, ↓ap, qe0, qe1, qe2, *, -hK, Aqx] <;> (first | exact rfl | exact ⟨rfl, rfl⟩ | exact ⟨rfl, trivial⟩))); simp -implicitDefEqProofs (disch := first | omega | (simp only [qd] <;> omega)) only [Aqm, Aqc]))
       have hF : (((rrun places r t (rs0 start) t.length).f : Nat) : Int) = fetF places r start t := rfl
       rw [hF]
       clear hF
       generalize fetF places r start t = m at *
       refine Ajf (hK _ _ ?_); clear hK K
       (try simp only [nq, ↓reduceIte, Nat.reduceEqDiff])
       (refine @unH _ ?_; refine zA y19_138 ?_; (repeat (refine inC ?_; intro hc)); try (refine inK ?_; intro K hK))
       have hA6 := hA5.put vdb5 (o := .cells #[.int .i64 (if m < Q0.1 then m else Q0.1), .int .i64 (if Q0.2 < m then m else Q0.2)] 61 (0, 0))
       refine ⟨L.length - (i + 1), by omega, _, i + 1, rfl, hlt, rfl, e3, e5, e10, e15, rfl, hA6, ?_⟩
       rw [show bdP (fetF places r start) (L.take (i + 1)) = _ from hsn, show (if m < Q0.1 then m else Q0.1) = min Q0.1 m by omega, show (if Q0.2 < m then m else Q0.2) = max Q0.2 m by omega]
       exact Aqw
      ·obtain rfl : i = L.length := by omega
       rw [List.take_length, show bdP (fetF places r start) L = _ from hBr1] at vdb
       clear hBr1 hrb1 hrb hBr
       (refine @unH _ ?_; refine zA y19_138 ?_; (repeat (refine inC ?_; intro hc)); try (refine inK ?_; intro K hK))
       refine ((show ∀ HX, _ -> _ from hfet) H4 hA.d r (by omega) (by omega)).runs.mono ?_
       rintro _ H5 ⟨rfl, l1⟩
       have hA5 := hA.le l1
       have vvb5 := hA5.v
       have vdb5 := l1 _ _ vdb
       clear hA vvb vdb l1 hfet
       generalize (bdT (fetF places r start) L).lo = y1 at *
       generalize (bdT (fetF places r start) L).hi = y2 at *
       ((try (refine @unH _ ?_; refine zX y19_138 ?_)); (try (refine hK _ _ ?_; clear hK K; (try simp only [nq, ↓reduceIte, Nat.reduceEqDiff]))); refine @unH _ ?_; refine zA y19_138 ?_; (repeat (refine inC ?_; intro hc)); try (refine inK ?_; intro K hK))
       (intro ab hab; generalize hG : Hp.set _ ab _ = H6; have lH6 := Aqg hG hab; have vab := Aqf hG; clear hG)
       have hA6 := hA5.le lH6
       have vdb6 := lH6 _ _ vdb5
       clear hA5 vvb5 vdb5 lH6 hab
       ((try (refine @unH _ ?_; refine x1_138 ?_)); (try (refine hK _ _ ?_; clear hK K; (try simp only [nq, ↓reduceIte, Nat.reduceEqDiff]))); refine @unH _ ?_; refine z0_138 ?_; (repeat (refine inC ?_; intro hc)); try (refine inK ?_; intro K hK))
       exact ⟨4 - (r + 1), by omega, _, r + 1, _, _, rfl, by omega, rfl, e3, e5, e10, rfl, hA6, vdb6⟩
    ·obtain rfl : r = 4 := by omega
     (refine @unH _ ?_; refine zA y19_138 ?_; (repeat (refine inC ?_; intro hc)); try (refine inK ?_; intro K hK))
     refine (kept_spec H5).runs.mono ?_
     rintro _ H7 ⟨rfl, lH7⟩
     ((try (refine @unH _ ?_; refine zX y19_138 ?_)); (try (refine hK _ _ ?_; clear hK K; (try simp only [nq, ↓reduceIte, Nat.reduceEqDiff]))); refine @unH _ ?_; refine zA y19_138 ?_; (repeat (refine inC ?_; intro hc)); try (refine inK ?_; intro K hK))
     (refine Ax2 ?_; (try simp only [nq, ↓reduceIte, Nat.reduceEqDiff]); rw [Axm, Aky Tryz.results19 (by decide)]; simp only [Aqr, Nat.reduceEqDiff, ↓reduceIte])
end Go.Proofs.YtgniilnljeedlaaGreatDoor
end
section
namespace Go.Proofs.YtgniilnljeedlaaGreatDoor
open Go Go.X Go.ChangeShapes Go.WideShapes Go.RowKit
set_option maxRecDepth 100000 in
theorem law_lifted (os : Os) (started : os.Started) (H : Type) (enc : TypeId × Value -> H) :
  ReturnsInLeavingWide {} Tryz.checked os 19 .any (fun w args => (Rows.vaultTruthsSpec.pre enc Tryz.prog Tryz.f19 [] false w args /\ laidMetH Tryz.prog [("errors.errorType", Rows.laid_errors_errorType)] w) /\ sizedMet enc Tryz.prog Tryz.f19 (OpenSpec.ofChange Rows.vaultTruthsSpec) false w args)
   (Rows.vaultTruthsSpec.post enc Tryz.prog Tryz.f19 false true false false) := by
 refine leaving_of_change_and (C := Tryz.checked) (X := fun w _ => laidMetH Tryz.prog [("errors.errorType", Rows.laid_errors_errorType)] w) (fun _ _ _ hh h => h.of_heap hh) ownK started Tryz.func19
  (ChangeSpec.witness_at (enc := enc) (C := Tryz.checked) (os := os) (X := fun w _ => laidMetH Tryz.prog [("errors.errorType", Rows.laid_errors_errorType)] w) false (laidWorld os) #[.slice none 0 0] 8 rfl (by kernel_rfl) (by kernel_rfl) (by kernel_rfl) (by kernel_rfl) (by kernel_rfl) (laidWorld_met os _)) ?_
 intro W base args ds gs before hval0 hW hL
 have hval : ∀ (j : Nat) t v, Tryz.f19.params[j]? = some t -> args[j]? = some v -> Value.okWide Tryz.prog W .any base t v := hval0
 have hW' := hW
 obtain ⟨p, q, hA0, hV0, rfl, hfz, hnd⟩ := hW
 have hA : DataW.TrodAll enc Tryz.prog W 0 (fun _ => true) true Tryz.f19.params.toList args.toList ds p := hA0
 have hV : DataW.TrodVars enc Tryz.prog W (fun _ => true) [] gs q := hV0
 rw [Tryz.params19] at hA hval
 obtain ⟨v0, d0, rfl, rfl, h0⟩ := trodAll_one hA
 obtain ⟨a0, len, cap, rfl⟩ := okWide_slice Tryz.underlying22 (hval 0 22 v0 rfl rfl)
 have h0k := h0
 obtain ⟨fuel, hf⟩ := h0
 obtain ⟨rfl, rfl⟩ : gs = [] /\ q = [] := by
  cases gs with
  | nil => exact ⟨rfl, hV⟩
  | cons g r => exact absurd hV (by intro h; cases h)
 have e1 : Rows.vaultTruthsSpec.fn H ([d0] ++ []) = { results := [.lit (.bool true)], args := [d0] } := by simp [Rows.vaultTruthsSpec]
 have hcells : ∀ i : Nat, i < len -> ∃ sb so c e fr x, a0 = some ⟨sb, so, none⟩ /\ Bqw W sb = some (false, .cells c e fr) /\ c[so + i]? = some (.int .i64 x) := by
  rcases open_ints Tryz.underlying22 Tryz.underlying3 cellsK hf with ⟨hcs, _⟩ | ⟨a, len', cap', zs, hcs, _, hl, hm, hz, hx, hcell, hwz⟩
  ·simp [Value.cells] at hcs
   intro i hi
   omega
  ·simp [Value.cells] at hcs
   obtain ⟨rfl, rfl, rfl⟩ := hcs
   intro i hi
   simp only [if_true] at hz
   have hc := hcell i (by omega)
   obtain ⟨b, off, spot⟩ := a
   have hspot : spot = none := by simpa [Addr.add] using World.cell?_spot (hcell 0 (by omega))
   subst hspot
   rw [add_plain] at hc
   unfold World.cell? at hc
   split at hc
   ·rename_i c e fr hb
    exact ⟨b, off, c, e, fr, _, rfl, by simp [Bqw, hb], by simpa using hc⟩
   ·cases hc
 have hlt : ∀ x ∈ p, x.block < W.heap.size := fun x hx => by simpa using hW'.lt x (by simpa using hx)
 obtain ⟨N, last, o, w', t', r1, r2, r3, v, hv, ⟨rfl, hB⟩, r4⟩ := (ltruths_spec (Bqw W) a0 len cap hcells).goodW Tryz.func19 (results_tmp Tryz.results19 _) (by kernel_rfl)
 refine ⟨N, last, o, w', t', r1, r2, r3, _, hv, ?_, r4⟩
 have hb := hB.below
 refine ⟨_, _, _, [], p, [], hW', ?_, ?_, ?_, hB.kept _, fun h => by cases h⟩
 ·rw [e1]; exact trodAll_mk1 (shut_bool Tryz.underlying4 true)
 ·rw [e1]
  have t := trodAll_mk1 (DataW.Trod.of_heap (w := { w' with tape := W.tape }) (w' := w') rfl (Below.trod laidOutK (by kernel_rfl) (of_decide_eq_true (by kernel_rfl)) h0k hb hlt))
  exact t
 ·rw [e1]; rfl
end Go.Proofs.YtgniilnljeedlaaGreatDoor
end
