/- Texts BestB Keys Some SomeOf Numb Reverse FirstOf Changed Least Fewest. -/
import Derived.Test.YtofmadjgbcopdaaGreatDoorJ07
set_option linter.defProp false
set_option linter.unusedSimpArgs false
set_option linter.unusedVariables false
set_option maxRecDepth 100000
set_option maxHeartbeats 2000000
section
namespace Go.Proofs.YtofmadjgbcopdaaGreatDoor
open Go Go.X
def y54_86 := And.intro (fun H => loadAt_aggE (H := H) Tryz.underlying29 rfl Tryz.sizeOf29) (And.intro @callF98 (And.intro @callF101 (And.intro (fun H => ex_alloc (H := H) (P := Tryz.prog) (h := Tryz.zeroValue129)) (And.intro (fun H => storeAt_agg (H := H) Tryz.sizeOf129) (And.intro (fun H => fieldAt_eq (H := H) Tryz.underlying129 (i := 0) rfl (off := 0) rfl Tryz.sizeOf22) (And.intro (fun H => loadAt_one (H := H) Tryz.underlying22 rfl) (And.intro (fun H => fieldAt_eq (H := H) Tryz.underlying129 (i := 1) rfl (off := 1) rfl Tryz.sizeOf3) (fun H => loadAt_one (H := H) Tryz.underlying3 rfl))))))))
def y101_86 := And.intro (fun H => ex_alloc (H := H) (P := Tryz.prog) (h := Tryz.zeroValue129)) (And.intro @bld_203_0_0 (And.intro @bld_203_0_1 (And.intro (fun H => ex_alloc (H := H) (P := Tryz.prog) (h := Tryz.zeroValue203)) (And.intro (fun H => storeAt_agg (H := H) Tryz.sizeOf203) (And.intro (fun H => ex_alloc (H := H) (P := Tryz.prog) (h := Tryz.zeroValue204)) (And.intro (fun H => storeAt_func (H := H) Tryz.sizeOf204) (And.intro (fun H => storeAt_nilFunc (H := H) Tryz.sizeOf204) (And.intro (fun H => loadAt_one (H := H) Tryz.underlying81 rfl) (And.intro @callF99 (And.intro (fun H => loadAt_one (H := H) Tryz.underlying3 rfl) (And.intro @callF78 (And.intro (fun H => len_slice (H := H) Tryz.underlying22) (And.intro (fun H => indexAt_slice (H := H) Tryz.underlying22 Tryz.sizeOf3) (And.intro @max_int (And.intro (fun H => loadAt_one (H := H) Tryz.underlying204 rfl) (And.intro @callF87 (And.intro @bld_129_0_1_0 (And.intro (fun H => fieldAt_eq (H := H) Tryz.underlying203 (i := 1) rfl (off := 1) rfl Tryz.sizeOf129) (And.intro (fun H => loadAt_aggE (H := H) Tryz.underlying129 rfl Tryz.sizeOf129) (fun H => storeAt_agg (H := H) Tryz.sizeOf129))))))))))))))))))))
def bestL {α : Type} (f : α -> Int) : List α -> Option α
 | [] => none
 | x :: l => some (l.foldl (fun b y => if f y < f b then y else b) x)
theorem bestL_snoc {α : Type} (f : α -> Int) (L : List α) (x : α) : bestL f (L ++ [x]) = match bestL f L with
  | none => some x
  | some b => some (if f x < f b then x else b) := by
 cases L with
 | nil => rfl
 | cons y L => simp [bestL, List.foldl_append]
def worstI (n : HN) (js : List Int) (mi : Int) (xs : List Int) : Int := worst (lateG n js mi (natsOf xs) bs0 0)
def bestF (n : HN) (mi : Int) : Option (List Int) := bestL (worstI n n.jobs mi) (comps n.load.toNat n.jobs.length)
def bstT (base : Hp) (f : List Int -> Int) (cb l r thisb hb : Nat) (lo : Loop) (S : Nat -> Prop) (t : Bool) (L : List (List Int)) (H : Hp) : Prop :=
 t = true /\ base.le H /\ H thisb = some (true, .cells #[.pointer (some ⟨hb, 0, none⟩)] 81 (0, 0)) /\ H r = some (true, .deferred (some [])) /\ H l = some (true, .loop lo) /\
  ∃ bw bl sm, H cb = some (true, chO bw bl sm) /\ (∀ b, S b ↔ base b ≠ none ∨ b = cb ∨ b = thisb ∨ b = l ∨ b = r ∨ rowB bw = some b) /\ (∀ b, rowB bw = some b -> H b ≠ none /\ base b = none /\ b ≠ cb /\ b ≠ thisb /\ b ≠ l /\ b ≠ r) /\ (∃ a k c, bw = .slice a k c) /\
   match bestL f L with
   | none => sm = false
   | some xs => sm = true /\ bl = f xs /\ SlI H bw xs
theorem best_hspec (main : Md) (H : Hp) (hb : Nat) (n : HN) (v : HV) (jv : Value) (js : List Int) (hh : HaulAt H hb n v jv js) (hho : H hb = some (true, n.obj v jv)) (l1 : 1 <= n.load) (l3 : n.load <= 3) (hN8 : js.length <= 8) (mi : Int) (h1' : 1 <= mi) (h20 : mi <= 20) :
  FnX Tryz.prog main 101 #[.pointer (some ⟨hb, 0, none⟩), .int .i64 mi] H fun e H' => ∃ w xs, e = .returned (.agg #[w, .int .i64 (worstI n js mi xs)]) /\ H.le H' /\ bestL (worstI n js mi) (comps n.load.toNat js.length) = some xs /\ SlI H' w xs := by
 obtain ⟨ja, jc, hjs⟩ : ∃ ja jc, jv = .slice ja js.length jc := by obtain ⟨ja, jc, h, _⟩ := id hh.j; exact ⟨ja, jc, h⟩
 refine FnX_start Tryz.func101 rfl Tryz.ntmps101 (by simp) ?_
 (refine @unH _ ?_; refine zA y101_86 ?_; (repeat (refine inC ?_; intro hc)); try (refine inK ?_; intro K hK))
 intro xb hxb mb hmb rb hrb
 replace hmb : (Hp.set H xb _) mb = none := hmb
 replace hrb : (Hp.set (Hp.set H xb _) mb _) rb = none := hrb
 generalize hG : Hp.set H xb _ = H1 at hmb hrb ⊢
 have lH1 := le_of_set hG hxb
 have vxb := at_of_set hG
 clear hG
 generalize hG : Hp.set H1 mb _ = H2 at hrb ⊢
 have lH2 := le_of_set hG hmb
 have vmb := at_of_set hG
 clear hG
 generalize hG : Hp.set H2 rb _ = H3
 have lH3 := le_of_set hG hrb
 have vrb := at_of_set hG
 clear hG
 have vxb3 := lH3 _ _ (lH2 _ _ vxb)
 have vmb3 := lH3 _ _ vmb
 have l03 := Hp.le_trans lH1 (Hp.le_trans lH2 lH3)
 have h0rb : H rb = none := Hp.le_none (Hp.le_trans lH1 lH2) hrb
 clear vxb vmb lH1 lH2 lH3 hxb hmb hrb
 ((try (refine @unH _ ?_; refine zX (And.intro y101_86 (And.intro @cells_func @cells_nilFunc)) ?_)); (try (refine hK _ _ ?_; clear hK K; (try simp only [nq, ↓reduceIte, Nat.reduceEqDiff]))); refine @unH _ ?_; refine zA (And.intro y101_86 (And.intro @cells_func @cells_nilFunc)) ?_; (repeat (refine inC ?_; intro hc)); try (refine inK ?_; intro K hK))
 (intro cb hcb; generalize hG : Hp.set _ cb _ = H4; have lH4 := le_of_set hG hcb; have vcb := at_of_set hG; clear hG)
 have vxb4 := lH4 _ _ vxb3
 have vmb4 := lH4 _ _ vmb3
 have vrb4 := lH4 _ _ vrb
 have l04 := Hp.le_trans l03 lH4
 have h0cb : H cb = none := Hp.le_none l03 hcb
 clear vxb3 vmb3 vrb lH4 hcb
 ((try (refine @unH _ ?_; refine zX (And.intro y101_86 (And.intro @cells_func @cells_nilFunc)) ?_)); (try (refine hK _ _ ?_; clear hK K; (try simp only [nq, ↓reduceIte, Nat.reduceEqDiff]))); refine @unH _ ?_; refine zA (And.intro y101_86 (And.intro @cells_func @cells_nilFunc)) ?_; (repeat (refine inC ?_; intro hc)); try (refine inK ?_; intro K hK))
 (intro kb hkb; generalize hG : Hp.set _ kb _ = H5; have lH5 := le_of_set hG hkb; have vkb := at_of_set hG; clear hG)
 have vxb5 := lH5 _ _ vxb4
 have vmb5 := lH5 _ _ vmb4
 have vrb5 := lH5 _ _ vrb4
 have vcb5 := lH5 _ _ vcb
 have l05 := Hp.le_trans l04 lH5
 have ncx : xb ≠ cb := fun e => by rw [e, vcb5] at vxb5; cases vxb5
 have ncm : mb ≠ cb := fun e => by rw [e, vcb5] at vmb5; cases vmb5
 have ncr : rb ≠ cb := fun e => by rw [e, vcb5] at vrb5; cases vrb5
 have nck : kb ≠ cb := fun e => by rw [e, vcb5] at vkb; cases vkb
 clear vxb4 vmb4 vrb4 vcb lH5 hkb l04
 ((try (refine @unH _ ?_; refine zX (And.intro y101_86 (And.intro @cells_func @cells_nilFunc)) ?_)); (try (refine hK _ _ ?_; clear hK K; (try simp only [nq, ↓reduceIte, Nat.reduceEqDiff]))); refine @unH _ ?_; refine zA (And.intro y101_86 (And.intro @cells_func @cells_nilFunc)) ?_; (repeat (refine inC ?_; intro hc)); try (refine inK ?_; intro K hK))
 refine (plans_spec main H5 hb).runs.mono ?_
 rintro _ H6 ⟨thisb, rfl, vthis, lH6⟩
 ((try (refine @unH _ ?_; refine zX y101_86 ?_)); (try (refine hK _ _ ?_; clear hK K; (try simp only [nq, ↓reduceIte, Nat.reduceEqDiff]))); refine @unH _ ?_; refine zA y101_86 ?_; (repeat (refine inC ?_; intro hc)); try (refine inK ?_; intro K hK))
 refine wpX_forget (fun e => e 2 = .pointer (some ⟨xb, 0, none⟩) /\ e 3 = .pointer (some ⟨mb, 0, none⟩) /\ e 4 = .pointer (some ⟨rb, 0, none⟩) /\ e 5 = .pointer (some ⟨cb, 0, none⟩) /\ e 6 = .pointer (some ⟨kb, 0, none⟩) /\ e 14 = .func (.func 139) #[] #[.pointer (some ⟨thisb, 0, none⟩)]) ⟨rfl, rfl, rfl, rfl, rfl, rfl⟩ ?_
 rintro e ⟨e2, e3, e4, e5, e6, e14⟩
 have hdel : ∀ b x, b ≠ cb -> H5 b = some x -> (H5.del cb) b = some x := fun b x hb hx => by unfold Hp.del; rw [if_neg hb]; exact hx
 have hdel' : ∀ b x, (H5.del cb) b = some x -> H5 b = some x := fun b x hx => by
  unfold Hp.del at hx
  split at hx
  ·cases hx
  ·exact hx
 have hbcb : (H5.del cb) cb = none := Hp.del_same _ _
 have vxbB := hdel _ _ ncx vxb5
 have vmbB := hdel _ _ ncm vmb5
 have vrbB := hdel _ _ ncr vrb5
 have vkbB := hdel _ _ nck vkb
 have lB0 : H.le (H5.del cb) := fun b x hx => hdel _ _ (fun h => by rw [h, h0cb] at hx; cases hx) (l05 _ _ hx)
 have hB6 : ∀ b x, (H5.del cb) b = some x -> H6 b = some x := fun b x hx => lH6 _ _ (hdel' _ _ hx)
 have vcb6 := lH6 _ _ vcb5
 generalize H5.del cb = B at *
 clear hdel hdel' vxb5 vmb5 vrb5 vcb5 vkb lH6 l05
 refine wpX_range1 (g := 139) (fi := #[]) (cap := #[.pointer (some ⟨thisb, 0, none⟩)]) (by rw [act_eval (by omega), e14]) (by omega) (fun _ _ _ _ => callF139 _ _ _) (fun r l lo hr hl hlo1 hlo2 hround => ?_)
 have hnl : H6 l = none := by
  by_cases e : l = r
  ·rw [e]; exact hr
  ·rwa [set_ne e] at hl
 have hlr : r ≠ l := fun e => by rw [<- e, set_at] at hl; cases hl
 have hnone : ∀ b, H6 b = none -> B b = none := fun b hb => by
  cases hx : B b with
  | none => rfl
  | some x => have := hB6 _ _ hx; rw [hb] at this; cases this
 have hnBl : B l = none := hnone _ hnl
 have hnBr : B r = none := hnone _ hr
 have hN : js.length <= 1000 := hh.jl
 have hC : ClientS Tryz.prog main (.func (.yield l) #[] #[]) (fun H v xs => SlI H v xs) (fun xs => xs ∈ comps n.load.toNat js.length) (bstT B (worstI n js mi) cb l r thisb hb lo) := by
  refine ⟨?_, ?_, ?_⟩
  ·rintro S t L H H' ⟨rfl, hle, h1, h3, h2, bw, bl, sm, h4, hS, hw1, hw2, h5⟩ hk
   have hs := fun b h => (hS b).2 h
   refine ⟨rfl, fun b x hx => hk b x (hs _ (.inl (by rw [hx]; simp))) (hle b x hx), hk _ _ (hs _ (.inr (.inr (.inl rfl)))) h1, hk _ _ (hs _ (.inr (.inr (.inr (.inr (.inl rfl)))))) h3, hk _ _ (hs _ (.inr (.inr (.inr (.inl rfl))))) h2, bw, bl, sm, hk _ _ (hs _ (.inr (.inl rfl))) h4, hS, fun b hb => ?_, hw2, ?_⟩
   ·obtain ⟨h6, h7⟩ := hw1 b hb
    obtain ⟨x, hx⟩ := Option.ne_none_iff_exists'.1 h6
    exact ⟨by rw [hk b x (hs _ (.inr (.inr (.inr (.inr (.inr hb)))))) hx]; simp, h7⟩
   ·cases hbl : bestL (worstI n js mi) L with
    | none => rw [hbl] at h5; exact h5
    | some xs =>
     rw [hbl] at h5
     exact ⟨h5.1, h5.2.1, h5.2.2.keepB fun b x hb => hk b x (hs _ (.inr (.inr (.inr (.inr (.inr hb))))))⟩
  ·rintro S t L H b ⟨rfl, hle, h1, h3, h2, bw, bl, sm, h4, hS, hw1, hw2, h5⟩ hb
   rcases (hS b).1 hb with hb | rfl | rfl | rfl | rfl | hb
   ·obtain ⟨x, hx⟩ := Option.ne_none_iff_exists'.1 hb
    rw [hle _ _ hx]; simp
   ·rw [h4]; simp
   ·rw [h1]; simp
   ·rw [h2]; simp
   ·rw [h3]; simp
   ·exact (hw1 b hb).1
  ·rintro S L H v' xs ⟨_, hle, h1, h3, h2, bw, bl, sm, h4, hS, hw1, hw2, h5⟩ hv hA
   have hs := fun b h => (hS b).2 h
   obtain ⟨pl, rfl, hp1, hps⟩ := comps_parts _ _ _ hA
   refine hround H v' _ h2 ?_
   obtain ⟨va, vc, rfl, hvc, hvv⟩ := id hv
   (refine @unH _ ?_; refine zA (And.intro y101_86 @Bool.or_true) ?_; (repeat (refine inC ?_; intro hc)); try (refine inK ?_; intro K hK))
   refine ⟨h2, ?_⟩
   have hnlx : ∀ b x, H b = some x -> (∀ q, x ≠ (true, .loop q)) -> (H.set l (.loop { lo with state := .busy })) b = some x := fun b x hx hq => by
    rw [set_ne (fun e => hq lo (by rw [e, h2] at hx; exact (Option.some.inj hx).symm))]; exact hx
   obtain ⟨Hb, hB⟩ : ∃ Hb, H.set l (.loop { lo with state := .busy }) = Hb := ⟨_, rfl⟩
   rw [hB] at hnlx ⊢
   have vl : Hb l = some (true, .loop { lo with state := .busy }) := by rw [<- hB, set_at]
   have lBb : B.le Hb := fun b x hx => by
    rw [<- hB, set_ne (fun e : b = l => by rw [e, hnBl] at hx; cases hx)]
    exact hle b x hx
   have hvb := hv.move (H' := Hb) fun x p c fr hx => hnlx _ _ hx (fun q e => by cases e)
   have vcbB := hnlx _ _ h4 (fun q e => by cases e)
   have vthB := hnlx _ _ h1 (fun q e => by cases e)
   have vrB := hnlx _ _ h3 (fun q e => by cases e)
   have vxbb := lBb _ _ vxbB
   have vmbb := lBb _ _ vmbB
   have vkbb := lBb _ _ vkbB
   have hHb : ∀ b x, b ≠ l -> H b = some x -> Hb b = some x := fun b x hb hx => by rw [<- hB, set_ne hb]; exact hx
   have hpl := parts_len pl hp1
   have hlate := late_hspec main Hb hb n v jv js (hh.le (Hp.le_trans lB0 lBb)) _ pl hvb hp1 (by omega) (by omega) mi h1' h20
   clear hB
   (refine @unH _ ?_; refine zS (And.intro y101_86 @Bool.or_true) ?_; (repeat (refine inC ?_; intro hc)); try (refine inK ?_; intro K hK))
   refine wpX_block ?_
   (refine @unH _ ?_; refine zS (And.intro y101_86 @Bool.or_true) ?_; (repeat (refine inC ?_; intro hc)); try (refine inK ?_; intro K hK))
   (refine @unH _ ?_; refine zA (And.intro y101_86 @Bool.or_true) ?_; (repeat (refine inC ?_; intro hc)); try (refine inK ?_; intro K hK))
   refine hlate.runs.mono ?_
   rintro _ Hf ⟨lv, rfl, hrow⟩
   obtain ⟨la, lc, rfl⟩ := hrow.len
   have hLi := hrow.ints
   rw [ints_len] at *
   have hLlen : (lateG n js mi pl bs0 0).length = js.length := by rw [lateG_length, hps]
   have hwst : worstI n js mi (pl.map fun x : Nat => (x : Int)) = (lateG n js mi pl bs0 0).foldl max 0 := by rw [worstI, natsOf_map]; rfl
   generalize lateG n js mi pl bs0 0 = LL at hLi hLlen hwst ⊢
   have lf := hrow.1.toLe
   have vlf := lf _ _ vl
   have vcbf := lf _ _ vcbB
   have vthf := lf _ _ vthB
   have vrf := lf _ _ vrB
   have vxbf := lf _ _ vxbb
   have vkbf := lf _ _ vkbb
   have vmbf := lf _ _ vmbb
   have lBf := Hp.le_trans lBb lf
   have hvf := hvb.le lf
   have hHf : ∀ b x, b ≠ l -> H b = some x -> Hf b = some x := fun b x hb hx => lf _ _ (hHb b x hb hx)
   clear hlate hvb hnlx hround vl vcbB vthB vrB vxbb vkbb vmbb hHb lf hrow hvv hv lBb
   rw [hLlen]
   ((try (refine @unH _ ?_; refine zX (And.intro y101_86 @Bool.or_true) ?_)); (try (refine hK _ _ ?_; clear hK K; (try simp only [nq, ↓reduceIte, Nat.reduceEqDiff]))); refine @unH _ ?_; refine zA (And.intro y101_86 @Bool.or_true) ?_; (repeat (refine inC ?_; intro hc)); try (refine inK ?_; intro K hK))
   refine wpX_loop (fun w a' H' => ∃ e k, w = js.length - k /\ k <= js.length /\ a' = act 37 e [] /\ e 2 = .pointer (some ⟨xb, 0, none⟩) /\ e 5 = .pointer (some ⟨cb, 0, none⟩) /\ e 6 = .pointer (some ⟨kb, 0, none⟩) /\ e 7 = .slice va pl.length vc /\ e 8 = .int .i64 ((LL.take k).foldl max 0) /\ e 19 = .slice la js.length lc /\ e 20 = .int .i64 js.length /\ e 21 = .int .i64 (k : Nat) /\ H' = Hf) (n := js.length) ?_ ?_
   ·exact ⟨_, 0, rfl, by omega, rfl, e2, e5, e6, by rw [<- List.length_map (f := fun x : Nat => (x : Int))]; rfl, rfl, rfl, rfl, rfl, rfl⟩
   ·clear e2 e5 e6 e3 e4 e14
    rename_i eold
    clear eold
    rintro w a' H9 ⟨e, k, rfl, hk, rfl, e2, e5, e6, e7, e8, e19, e20, e21, hH⟩
    rw [hH]; clear hH H9
    by_cases hlt : k < js.length
    ·have hx9 : LL[k]? = some LL[k] := List.getElem?_eq_getElem (by omega)
     have htk : LL.take (k + 1) = LL.take k ++ [LL[k]] := by rw [List.take_add_one, hx9]; rfl
     obtain ⟨b9, o9, p9, c9, fr9, rfl, hb9, hc9⟩ := hLi.get hx9
     generalize LL[k] = z at hx9 htk hc9
     generalize hM : (LL.take k).foldl max 0 = M at e8
     (refine @unH _ ?_; refine zA (And.intro y101_86 @Bool.or_true) ?_; (repeat (refine inC ?_; intro hc)); try (refine inK ?_; intro K hK))
     refine ⟨_, by omega, _, k + 1, rfl, hlt, rfl, e2, e5, e6, e7, ?_, e19, e20, rfl, by trivial⟩
     rw [htk, List.foldl_append, hM]
     show Value.int _ _ = Value.int _ _
     simp only [List.foldl_cons, List.foldl_nil]
     congr 1
     rw [Int.max_def]
     split <;> split <;> omega
    ·obtain rfl : k = js.length := by omega
     rw [<- hLlen, List.take_length, <- hwst] at e8
     clear hwst hLi
     generalize hWW : worstI n js mi (pl.map fun x : Nat => (x : Int)) = W at e8
     (refine @unH _ ?_; refine zA (And.intro y101_86 @Bool.or_true) ?_; (repeat (refine inC ?_; intro hc)); try (refine inK ?_; intro K hK))
     refine wpX_dlast (fun HX => HX kb = some (true, .cells #[.func (.func 144) #[.pointer (some ⟨cb, 0, none⟩)] #[]] 204 (0, 0))) 5 [(true, 0), (true, 1), (true, 3), (false, 2), (true, 4), (false, 5)] (by kernel_rfl) (by kernel_rfl) (by simp) (by kernel_rfl) ?_; intro K hK
     (iterate 3 (refine @unH _ ?_; refine z5 y101_86 ?_))
     refine planX_act ?_
     rw [List.length_map] at hvf
     (refine @unH _ ?_; refine zX y101_86 ?_)
     refine ⟨by simp, ?_⟩
     refine (clone_spec main Hf _ _ hvf (by rw [List.length_map]; omega)).runs.mono ?_
     rintro _ Hg ⟨w, rfl, hw⟩
     have lg := hw.1.toLe
     have vlg := lg _ _ vlf
     have vcbg := lg _ _ vcbf
     have vthg := lg _ _ vthf
     have vrg := lg _ _ vrf
     have vkbg := lg _ _ vkbf
     obtain ⟨wa, wc, rfl⟩ := hw.len
     (refine @unH _ ?_; refine zX (And.intro y101_86 @onEnd_ret) ?_)
     refine ⟨.inr trivial, ?_⟩
     (refine @unH _ ?_; refine z5 y101_86 ?_)
     refine planX_act ?_
     (refine @unH _ ?_; refine zX y101_86 ?_)
     refine ⟨by simp, ?_⟩
     rw [callF144, uponX_enterK]
     simp only [Array.empty_append, List.append_toArray, List.cons_append, List.nil_append]
     refine (take_cspec main Hg cb bw bl sm hw2 wa _ wc W vcbg).runs.mono ?_
     rintro _ Hh ⟨rfl, hx, hch⟩
     (refine @unH _ ?_; refine zX (And.intro y101_86 @onEnd_ret) ?_)
     refine ⟨.inl trivial, plan_nil (hK _ _ ?_)⟩
     clear hK K
     (try simp only [nq, ↓reduceIte, Nat.reduceEqDiff])
     have hloe : ({ ({ lo with state := LoopState.busy } : Loop) with state := .ready, pending := none } : Loop) = lo := by
      cases lo; simp only [] at hlo1 hlo2; subst hlo1 hlo2; rfl
     have ncl : cb ≠ l := fun e => by rw [e, vlf] at vcbf; cases vcbf
     have ntl : thisb ≠ l := fun e => by rw [e, vlf] at vthf; cases vthf
     have nrl : r ≠ l := fun e => by rw [e, vlf] at vrf; cases vrf
     have nct : thisb ≠ cb := fun e => by rw [e, vcbf] at vthf; cases vthf
     have ncr' : r ≠ cb := fun e => by rw [e, vcbf] at vrf; cases vrf
     have hkeep : ∀ b x, b ≠ cb -> b ≠ l -> Hg b = some x -> (Hh.set l (.loop lo)) b = some x := fun b x h6 h7 h8 => by rw [set_ne h7]; exact hx.keeps h8 h6
     have hfr : ∀ b, H b = none ∨ ∃ x, b ≠ l /\ Hf b = some x ∨ b = l := fun b => by
      by_cases hb : b = l
      ·exact .inr ⟨(true, .loop lo), .inr hb⟩
      ·cases hxb : H b with
       | none => exact .inl rfl
       | some x => exact .inr ⟨x, .inl ⟨hb, hHf b x hb hxb⟩⟩
     have hout : ∀ b x, ¬ S b -> H b = some x -> (Hh.set l (.loop lo)) b = some x := fun b x h6 h7 => by
      have n1 : b ≠ l := fun e => h6 (hs b (.inr (.inr (.inr (.inl e)))))
      have n2 : b ≠ cb := fun e => h6 (hs b (.inr (.inl e)))
      exact hkeep b x n2 n1 (lg _ _ (hHf b x n1 h7))
     have hold : ∀ b, S b -> B b ≠ none ∨ b = cb ∨ b = thisb ∨ b = l ∨ b = r ∨ rowB bw = some b := fun b hb => (hS b).1 hb
     have vlh := hx.keeps vlg ncl.symm
     have hBle : B.le (Hh.set l (.loop lo)) := fun b x h6 => by
      have n1 : b ≠ l := fun e => by rw [e, hnBl] at h6; cases h6
      have n2 : b ≠ cb := fun e => by rw [e, hbcb] at h6; cases h6
      exact hkeep b x n2 n1 (lg _ _ (lBf _ _ h6))
     have hth := hkeep _ _ nct ntl vthg
     have hrr := hkeep _ _ ncr' nrl vrg
     by_cases hcond : sm = false ∨ W < bl
     ·rw [if_pos hcond] at hch
      have hnew : ∀ b, rowB (.slice wa (ints (pl.map fun x : Nat => (x : Int))).length wc) = some b -> Hf b = none /\ ∃ u, Hg b = some u := fun b hb => row_new hw hb
      have hnb : ∀ b, rowB (.slice wa (ints (pl.map fun x : Nat => (x : Int))).length wc) = some b -> b ≠ l /\ b ≠ cb /\ b ≠ thisb /\ b ≠ r /\ B b = none := fun b hb => by
       have h0 := (hnew b hb).1
       refine ⟨fun e => ?_, fun e => ?_, fun e => ?_, fun e => ?_, ?_⟩
       ·rw [e, vlf] at h0; cases h0
       ·rw [e, vcbf] at h0; cases h0
       ·rw [e, vthf] at h0; cases h0
       ·rw [e, vrf] at h0; cases h0
       ·exact Hp.le_none lBf h0
      have hsl : SlI (Hh.set l (.loop lo)) (.slice wa (ints (pl.map fun x : Nat => (x : Int))).length wc) (pl.map fun x : Nat => (x : Int)) := hw.ints.keepB fun b x hb h6 => hkeep b x (hnb b hb).2.1 (hnb b hb).1 h6
      refine ⟨rfl, { lo with state := .busy }, vlh, true, fun b => B b ≠ none ∨ b = cb ∨ b = thisb ∨ b = l ∨ b = r ∨ rowB (.slice wa (ints (pl.map fun x : Nat => (x : Int))).length wc) = some b, rfl, ?_, fun b hb => ?_, ?_⟩
      ·rw [hloe]
       refine ⟨rfl, hBle, hth, hrr, set_at, .slice wa (ints (pl.map fun x : Nat => (x : Int))).length wc, W, true, ?_, fun _ => Iff.rfl, fun b hb => ?_, ⟨_, _, _, rfl⟩, ?_⟩
       ·rw [set_ne ncl]; exact hch
       ·obtain ⟨n1, n2, n3, n4, n5⟩ := hnb b hb
        obtain ⟨_, u, hu⟩ := hnew b hb
        exact ⟨by rw [hkeep b u n2 n1 hu]; simp, n5, n2, n3, n1, n4⟩
       ·rw [bestL_snoc]
        cases hbl : bestL (worstI n js mi) L with
        | none => exact ⟨rfl, hWW.symm, hsl⟩
        | some ys =>
         rw [hbl] at h5
         have hlt : W < worstI n js mi ys := by
          rcases hcond with h | h
          ·rw [h] at h5; cases h5.1
          ·rw [<- h5.2.1]; exact h
         simp only [hWW, hlt, if_true]
         exact ⟨by trivial, by first | rfl | trivial | exact hWW.symm, hsl⟩
      ·rcases hb with h | h | h | h | h | h
       ·exact .inl (hs b (.inl h))
       ·exact .inl (hs b (.inr (.inl h)))
       ·exact .inl (hs b (.inr (.inr (.inl h))))
       ·exact .inl (hs b (.inr (.inr (.inr (.inl h)))))
       ·exact .inl (hs b (.inr (.inr (.inr (.inr (.inl h))))))
       ·refine .inr ?_
        obtain ⟨n1, _⟩ := hnb b h
        cases hxb : H b with
        | none => rfl
        | some x => have := hHf b x n1 hxb; rw [(hnew b h).1] at this; cases this
      ·rw [hloe]; exact hout
     ·rw [if_neg hcond] at hch
      have hsm : sm = true := by cases sm with | true => rfl | false => exact absurd (.inl rfl) hcond
      have hge : ¬ W < bl := fun h => hcond (.inr h)
      have hkw : ∀ b x, rowB bw = some b -> H b = some x -> (Hh.set l (.loop lo)) b = some x := fun b x hb h6 => by
       obtain ⟨_, _, n2, n3, n4, n5⟩ := hw1 b hb
       exact hkeep b x n2 n4 (lg _ _ (hHf b x n4 h6))
      refine ⟨rfl, { lo with state := .busy }, vlh, true, S, rfl, ?_, fun b hb => .inl hb, ?_⟩
      ·rw [hloe]
       refine ⟨rfl, hBle, hth, hrr, set_at, bw, bl, sm, ?_, hS, fun b hb => ?_, hw2, ?_⟩
       ·rw [set_ne ncl]; exact hch
       ·obtain ⟨h6, h7⟩ := hw1 b hb
        obtain ⟨x, hxx⟩ := Option.ne_none_iff_exists'.1 h6
        exact ⟨by rw [hkw b x hb hxx]; simp, h7⟩
       ·rw [bestL_snoc]
        cases hbl : bestL (worstI n js mi) L with
        | none => rw [hbl] at h5; rw [h5] at hsm; cases hsm
        | some ys =>
         rw [hbl] at h5
         simp only [hWW, show ¬ W < worstI n js mi ys by rw [<- h5.2.1]; exact hge, if_false]
         exact ⟨h5.1, h5.2.1, h5.2.2.keepB hkw⟩
      ·rw [hloe]; exact hout
 have hset : ∀ b x, b ≠ l -> b ≠ r -> H6 b = some x -> ((H6.set r (.deferred (some []))).set l (.loop lo)) b = some x := fun b x n1 n2 hx => by rw [set_ne n1, set_ne n2]; exact hx
 have hrun := plansOfS_spec main n.load.toNat js.length (by omega) hN hC (fun S L H ⟨_, hle, h1, _⟩ => ⟨hb, n, v, ja, jc, h1, by rw [<- hjs]; exact hle _ _ (lB0 _ _ hho), by omega⟩) ((H6.set r (.deferred (some []))).set l (.loop lo)) (S := fun b => B b ≠ none ∨ b = cb ∨ b = thisb ∨ b = l ∨ b = r ∨ rowB (.slice none 0 0) = some b) ⟨rfl, fun b x hx => ?_, ?_, ?_, set_at, .slice none 0 0, 0, false, ?_, fun _ => Iff.rfl, fun b hb => (by cases hb), ⟨_, _, _, rfl⟩, rfl⟩ (fun l h => h)
 ·refine hrun.runs.mono ?_
  clear hrun hC hround hset
  rintro _ H8 ⟨t, L', v', S', rfl, ⟨rfl, hle8, h1, h3, h2, bw, bl, sm, h4, _, hw1, ⟨wa, wk, wc, rfl⟩, h5⟩, hL, _⟩
  have hL' := hL rfl
  clear hL
  subst hL'
  obtain ⟨ys, hys⟩ : ∃ ys, bestL (worstI n js mi) (comps n.load.toNat js.length) = some ys := by
   have hne : comps n.load.toNat js.length ≠ [] := fun h => by
    have := comps_ones n.load.toNat (by omega) js.length
    rw [h] at this; cases this
   cases hc : comps n.load.toNat js.length with
   | nil => exact absurd hc hne
   | cons x l => exact ⟨_, rfl⟩
  rw [hys] at h5
  obtain ⟨rfl, hbl, hw⟩ := h5
  have ncl : cb ≠ l := fun e => by rw [e, h2] at h4; cases h4
  have hle9 : B.le (H8.set l (.loop { lo with state := .exhausted })) := fun b x hx => by
   rw [set_ne (fun e : b = l => by rw [e, hnBl] at hx; cases hx)]; exact hle8 _ _ hx
  have vcb9 : (H8.set l (.loop { lo with state := .exhausted })) cb = _ := (set_ne ncl).trans h4
  have vr9 : (H8.set l (.loop { lo with state := .exhausted })) r = _ := (set_ne hlr).trans h3
  have hw9 : SlI (H8.set l (.loop { lo with state := .exhausted })) _ ys := hw.set fun p c fr h => by rw [h2] at h; cases h
  refine behind_none h2 hlo1 hlo2 ?_
  generalize H8.set l (.loop { lo with state := .exhausted }) = H9 at *
  have vrb9 := hle9 _ _ vrbB
  have nrc : cb ≠ rb := ncr.symm
  clear h1 h2 h3 h4 hle8 hlo1 hlo2 hw hw1
  (try simp only [nq, ↓reduceIte, Nat.reduceEqDiff])
  (refine @unH _ ?_; refine zA y101_86 ?_; (repeat (refine inC ?_; intro hc)); try (refine inK ?_; intro K hK))
  have nrr : r ≠ rb := fun e => by rw [e, vrb9] at vr9; cases vr9
  refine wpX_ret ?_
  (try simp only [nq, ↓reduceIte, Nat.reduceEqDiff])
  refine bodyX_coll ((set_ne nrr).trans vr9) ?_
  have l10 : H.le ((H9.set rb (.cells #[.slice wa wk wc, .int .i64 (worstI n js mi ys)] 129 (0, 0))).set r (.deferred none)) := fun b x hx => by
   have hx1 := lB0 _ _ hx
   rw [set_ne (fun e : b = r => by rw [e, hnBr] at hx1; cases hx1), set_ne (fun e : b = rb => by rw [e, h0rb] at hx; cases hx)]
   exact hle9 _ _ hx1
  have v10 : ((H9.set rb (.cells #[.slice wa wk wc, .int .i64 (worstI n js mi ys)] 129 (0, 0))).set r (.deferred none)) rb = some (true, .cells #[.slice wa wk wc, .int .i64 (worstI n js mi ys)] 129 (0, 0)) := (set_ne nrr.symm).trans set_at
  have hw10 : SlI ((H9.set rb (.cells #[.slice wa wk wc, .int .i64 (worstI n js mi ys)] 129 (0, 0))).set r (.deferred none)) (.slice wa wk wc) ys := (hw9.set fun p c fr h => by rw [vrb9] at h; cases h).set fun p c fr h => by rw [set_ne nrr, vr9] at h; cases h
  generalize (H9.set rb (.cells #[.slice wa wk wc, .int .i64 (worstI n js mi ys)] 129 (0, 0))).set r (.deferred none) = H10 at *
  rw [results_cell Tryz.results101 (by decide) (b := rb) (o := 0) ?hcell Tryz.underlying129 rfl Tryz.sizeOf129]
  case hcell => exact e4
  (refine @unH _ ?_; refine z7 y101_86 ?_)
  exact ⟨_, ys, rfl, rfl, hw10⟩
 ·rw [set_ne (fun e : b = l => by rw [e, hnBl] at hx; cases hx), set_ne (fun e : b = r => by rw [e, hnBr] at hx; cases hx)]
  exact hB6 _ _ hx
 ·exact hset _ _ (fun e : thisb = l => by rw [e, hnl] at vthis; cases vthis) (fun e : thisb = r => by rw [e, hr] at vthis; cases vthis) vthis
 ·rw [set_ne hlr, set_at]
 ·exact hset _ _ (fun e : cb = l => by rw [e, hnl] at vcb6; cases vcb6) (fun e : cb = r => by rw [e, hr] at vcb6; cases vcb6) vcb6
theorem Best_spec (main : Md) (H : Hp) (n : HN) (v : HV) (hd : HaulIn H n v) (hN : n.jobs.length <= 8) (hjb : ∀ i ∈ n.jobs, 0 <= i /\ i < n.xs.length) (mi : Int) (h1 : 1 <= mi) (h20 : mi <= 20) :
  FnX Tryz.prog main 54 #[n.agg v, .int .i64 mi] H fun e H' => ∃ w xs, e = .returned (.tuple #[w, .int .i64 (worstI n n.jobs mi xs), .int .i64 0]) /\ H.le H' /\ bestF n mi = some xs /\ SlI H' w xs := by
 have hdr := fun H' h => driving_spec main H' n v h mi h1 h20
 simp only [HN.agg, bestF] at hdr ⊢
 refine FnX_start Tryz.func54 rfl Tryz.ntmps54 (by simp) ?_
 (refine @unH _ ?_; refine zA y54_86 ?_; (repeat (refine inC ?_; intro hc)); try (refine inK ?_; intro K hK))
 (intro ab hab; generalize hG : Hp.set _ ab _ = H1; have lH1 := le_of_set hG hab; have vab := at_of_set hG; clear hG)
 have hd1 := hd.le lH1
 ((try (refine @unH _ ?_; refine zX y54_86 ?_)); (try (refine hK _ _ ?_; clear hK K; (try simp only [nq, ↓reduceIte, Nat.reduceEqDiff]))); refine @unH _ ?_; refine zA y54_86 ?_; (repeat (refine inC ?_; intro hc)); try (refine inK ?_; intro K hK))
 refine (hdr H1 hd1).runs.mono ?_
 rintro _ H3 ⟨hb, jv, rfl, lH3, vhb, hj⟩
 have hat := hd1.at lH3 vhb hj hjb (by omega)
 clear hdr
 ((try (refine @unH _ ?_; refine zX y54_86 ?_)); (try (refine hK _ _ ?_; clear hK K; (try simp only [nq, ↓reduceIte, Nat.reduceEqDiff]))); refine @unH _ ?_; refine zA y54_86 ?_; (repeat (refine inC ?_; intro hc)); try (refine inK ?_; intro K hK))
 refine (best_hspec main H3 hb n v jv n.jobs hat vhb hd.l1 hd.l3 hN mi h1 h20).runs.mono ?_
 rintro _ H4 ⟨w, xs, rfl, lH4, hbest, hw⟩
 obtain ⟨wa, wc, rfl, _⟩ := id hw
 have l04 := Hp.le_trans lH1 (Hp.le_trans lH3 lH4)
 clear vab hj vhb hat
 generalize hW : worstI n n.jobs mi xs = W at *
 ((try (refine @unH _ ?_; refine zX y54_86 ?_)); (try (refine hK _ _ ?_; clear hK K; (try simp only [nq, ↓reduceIte, Nat.reduceEqDiff]))); refine @unH _ ?_; refine zA y54_86 ?_; (repeat (refine inC ?_; intro hc)); try (refine inK ?_; intro K hK))
 (intro lb hlb; generalize hG : Hp.set _ lb _ = H5; have lH5 := le_of_set hG hlb; have vlb := at_of_set hG; clear hG)
 have l05 := Hp.le_trans l04 lH5
 have hw5 := hw.le lH5
 clear hw
 ((try (refine @unH _ ?_; refine zX y54_86 ?_)); (try (refine hK _ _ ?_; clear hK K; (try simp only [nq, ↓reduceIte, Nat.reduceEqDiff]))); refine @unH _ ?_; refine zA y54_86 ?_; (repeat (refine inC ?_; intro hc)); try (refine inK ?_; intro K hK))
 (refine wpX_dst1 7 [(true, 0), (true, 1), (true, 2), (true, 3), (true, 4), (true, 5), (true, 6)] (by kernel_rfl) (by kernel_rfl) (by simp) (by kernel_rfl) ?_; intro K hK; (iterate 7 (refine @unH _ ?_; refine z3 y54_86 ?_)); refine plan_nil (hK _ _ ?_); clear hK K; (try simp only [nq, ↓reduceIte, Nat.reduceEqDiff]))
 (refine @unH _ ?_; refine zA y54_86 ?_; (repeat (refine inC ?_; intro hc)); try (refine inK ?_; intro K hK))
 (refine @unH _ ?_; refine zC Tryz.results54 ?_)
 exact ⟨_, xs, by rw [hW], l05, hbest, hw5⟩
end Go.Proofs.YtofmadjgbcopdaaGreatDoor
end
section
namespace Go.X
open Go
section
variable {P : Program} {H : Hp} {κ : Type} [DecidableEq κ] {enc : κ -> Value} {ks : TypeId}
structure KeyT (P : Program) (ks : TypeId) (enc : κ -> Value) : Prop where
 eq : ∀ (a b : κ) (H : Hp) (K : Bool -> Hp -> Prop) (E : Value -> Hp -> Prop), wpS P (Op.equal ks (enc a) (enc b)) H K E = K (decide (a = b)) H
 ck : ∀ (em : Bool) (a : κ) (H : Hp) (K : Unit -> Hp -> Prop) (E : Value -> Hp -> Prop), wpS P (Instr.checkKey em 10000 ks (enc a)) H K E = K () H
 un : ∃ d, P.underlying ks = some d /\ ∀ a b, Instr.sameNow d (enc a) (enc b) = none
 bits : ∀ a, Instr.sameBits 10000 (enc a) (enc a) = true
def MapG (enc : κ -> Value) (ok : κ -> Prop) (F : κ -> Value) (clock : Nat) (es : List MapEntry) : Prop := ∀ e ∈ es, ∃ k, ok k /\ e.key = enc k /\ e.val = F k /\ e.born < clock
theorem findAskingG (h : KeyT P ks enc) {ok : κ -> Prop} {F : κ -> Value} {clock : Nat} (a : κ) (H : Hp) :
  ∀ (es : List MapEntry) (i : Nat), MapG enc ok F clock es -> ∃ r : Option (Nat × Value), (∀ j v, r = some (j, v) -> i <= j /\ v = F a /\ ∃ e, es[j - i]? = some e /\ e.key = enc a) /\
   ∀ (K : Option (Nat × Value) -> Hp -> Prop) (E : Value -> Hp -> Prop), K r H -> wpS P (Instr.findAsking ks (enc a) es i) H K E
 | [], i, _ => ⟨none, fun j v h => (by cases h), fun K E hk => hk⟩
 | e :: es, i, hm => by
  obtain ⟨c, _, hke, hve, _⟩ := hm e List.mem_cons_self
  unfold Instr.findAsking
  by_cases hq : a = c
  ·subst hq
   refine ⟨some (i, e.val), fun j v hj => ?_, fun K E hK => ?_⟩
   ·cases hj
    exact ⟨Nat.le_refl _, hve, e, by simp, hke⟩
   ·rw [wpS_bind', hke, h.eq]
    simp only [decide_true, if_true, wpS_pure]
    exact hK
  ·obtain ⟨r, hr, hk⟩ := findAskingG h a H es (i + 1) (fun e he => hm e (List.mem_cons_of_mem _ he))
   refine ⟨r, fun j v hj => ?_, fun K E hK => ?_⟩
   ·obtain ⟨h1, h2, e', h3, h4⟩ := hr j v hj
    refine ⟨by omega, h2, e', ?_, h4⟩
    rw [show j - i = (j - (i + 1)) + 1 by omega, List.getElem?_cons_succ]
    exact h3
   ·rw [wpS_bind', hke, h.eq]
    simp only [hq, decide_false, Bool.false_eq_true, if_false]
    exact hk K E hK
theorem findKeyG (h : KeyT P ks enc) {ok : κ -> Prop} {F : κ -> Value} {clock : Nat} (a : κ) (H : Hp)
  (es : List MapEntry) (hm : MapG enc ok F clock es) : ∃ r : Option (Nat × Value), (∀ j v, r = some (j, v) -> v = F a /\ ∃ e, es[j]? = some e /\ e.key = enc a) /\
   ∀ (K : Option (Nat × Value) -> Hp -> Prop) (E : Value -> Hp -> Prop), K r H -> wpS P (Instr.findKey ks (enc a) es) H K E := by
 obtain ⟨d, hu, hd⟩ := h.un
 cases es with
 | nil =>
  refine ⟨none, fun j v h => (by cases h), fun K E hK => ?_⟩
  unfold Instr.findKey
  rw [wpS_bind', wpS_underlying hu]
  exact hK
 | cons e es =>
  obtain ⟨c, _, hke, hve, _⟩ := hm e List.mem_cons_self
  obtain ⟨r, hr, hk⟩ := findAskingG h a H (e :: es) 0 hm
  refine ⟨r, fun j v hj => ?_, fun K E hK => ?_⟩
  ·obtain ⟨_, h2, e', h3, h4⟩ := hr j v hj
   exact ⟨h2, e', by simpa using h3, h4⟩
  ·unfold Instr.findKey
   rw [wpS_bind', wpS_underlying hu]
   simp only [Instr.findNow, hke, hd]
   exact hk K E hK
theorem lookupG {mt vt : TypeId} {z : Value} (hu : P.underlying mt = some (.map ks vt)) (h : KeyT P ks enc) (hz : ∀ w, (zeroValue vt).run P w = .ok z w) {ok : κ -> Prop} {F : κ -> Value} (a : κ)
  {mb : Nat} {p : Bool} {es : Array MapEntry} {clock : Nat} (hb : H mb = some (p, .map es clock)) (hm : MapG enc ok F clock es.toList) : ∃ v met, (met = true -> v = F a) /\ (met = false -> v = z) /\ ∀ (K : Value -> Hp -> Prop) (E : Value -> Hp -> Prop),
   K (.tuple #[v, .bool met]) H -> wpS P (Instr.lookup mt (.map (some mb)) (enc a) true) H K E := by
 obtain ⟨r, hr, hk'⟩ := findKeyG h a H es.toList hm
 have step : ∀ (K : Value -> Hp -> Prop) (E : Value -> Hp -> Prop), (match r with | some (_, v) => K (.tuple #[v, .bool true]) H | none => K (.tuple #[z, .bool false]) H) -> wpS P (Instr.lookup mt (.map (some mb)) (enc a) true) H K E := fun K E hK => by
  unfold Instr.lookup
  simp only [wpS_bind', wpS_underlying hu]
  refine ⟨p, _, hb, rfl, rfl, ?_⟩
  simp only [wpS_purec, wpS_pure, wpS_bind', h.ck]
  refine hk' _ _ ?_
  cases r with
  | none =>
   simp only [wpS_bind', wpS_zeroValue hz, wpS_pure, if_true]
   exact hK
  | some q =>
   obtain ⟨j, v⟩ := q
   simp only [wpS_pure, if_true]
   exact hK
 cases r with
 | none => exact ⟨z, false, by simp, fun _ => rfl, fun K E hK => step K E hK⟩
 | some q =>
  obtain ⟨j, v⟩ := q
  exact ⟨v, true, fun _ => (hr j v rfl).1, by simp, fun K E hK => step K E hK⟩
theorem updateG {mt vt : TypeId} (hu : P.underlying mt = some (.map ks vt)) (h : KeyT P ks enc) {ok : κ -> Prop} {F : κ -> Value} (a : κ) (hok : ok a)
  {mb : Nat} {es : Array MapEntry} {clock : Nat} (hb : H mb = some (true, .map es clock)) (hm : MapG enc ok F clock es.toList) (K : Unit -> Hp -> Prop) (E : Value -> Hp -> Prop)
  (hk : ∀ es' clock', MapG enc ok F clock' es'.toList -> K () (H.set mb (.map es' clock'))) : wpS P (Instr.mapUpdate mt (.map (some mb)) (enc a) (F a)) H K E := by
 unfold Instr.mapUpdate
 simp only [wpS_bind', wpS_underlying hu]
 refine ⟨true, _, hb, rfl, rfl, ?_⟩
 simp only [wpS_purec, wpS_pure, wpS_bind', h.ck]
 obtain ⟨r, hr, hk'⟩ := findKeyG h a H es.toList hm
 refine hk' _ _ ?_
 cases r with
 | none =>
  refine ⟨_, hb, rfl, rfl, hk _ _ fun e he => ?_⟩
  simp only [Array.toList_push, List.mem_append, List.mem_singleton] at he
  rcases he with he | rfl
  ·obtain ⟨k, h1, h2, h3, h4⟩ := hm e he
   exact ⟨k, h1, h2, h3, by omega⟩
  ·exact ⟨a, hok, rfl, rfl, Nat.lt_succ_self _⟩
 | some q =>
  obtain ⟨j, v⟩ := q
  obtain ⟨hv, e, he, hke⟩ := hr j v rfl
  have he' : es[j]? = some e := by simpa using he
  simp only [he', Option.map_some, Option.getD_some, hke, Instr.keyThatStays, h.bits, if_true, wpS_pure]
  refine ⟨_, hb, rfl, rfl, hk _ _ fun x hx => ?_⟩
  simp only [Array.toList_modify] at hx
  obtain ⟨i, hi, rfl⟩ := List.getElem_of_mem hx
  rw [List.getElem_modify]
  split
  ·obtain ⟨k, h1, h2, h3, h4⟩ := hm _ (List.getElem_mem (l := es.toList) (n := i) (by simpa using hi))
   exact ⟨a, hok, rfl, rfl, h4⟩
  ·exact hm _ (List.getElem_mem _)
def unseen (es : Array MapEntry) (seen : Array Nat) : Nat := (es.filter fun e => !seen.contains e.born).size
theorem deleteG {mt vt : TypeId} (hu : P.underlying mt = some (.map ks vt)) (h : KeyT P ks enc) {ok : κ -> Prop} {F : κ -> Value} (a : κ) {ty : TypeId} {ats : Array TypeId} (hat : ats[0]? = some mt)
  {mb : Nat} {es : Array MapEntry} {clock : Nat} (hb : H mb = some (true, .map es clock)) (hm : MapG enc ok F clock es.toList) (K : Value -> Hp -> Prop) (E : Value -> Hp -> Prop)
  (hk : ∀ es', (∀ seen, unseen es' seen <= unseen es seen) -> MapG enc ok F clock es'.toList -> K (.tuple #[]) (H.set mb (.map es' clock))) : wpS P (Builtin.delete_ ats ty #[.map (some mb), enc a]) H K E := by
 unfold Builtin.delete_
 simp only [hat, List.getElem?_toArray, List.getElem?_cons_zero, List.getElem?_cons_succ, wpS_bind', wpS_underlying hu]
 refine ⟨true, _, hb, rfl, rfl, ?_⟩
 simp only [wpS_purec, wpS_pure, wpS_bind', h.ck]
 obtain ⟨r, hr, hk'⟩ := findKeyG h a H es.toList hm
 refine hk' _ _ ?_
 cases r with
 | none =>
  refine ⟨_, hb, rfl, rfl, hk _ (fun _ => Nat.le_refl _) hm⟩
 | some q =>
  obtain ⟨j, v⟩ := q
  have hmem : ∀ e ∈ (es.eraseIdxIfInBounds j), e ∈ es := fun e he => by
   unfold Array.eraseIdxIfInBounds at he
   split at he
   ·exact Array.mem_of_mem_eraseIdx he
   ·exact he
  refine ⟨_, hb, rfl, rfl, hk _ (fun seen => ?_) (fun e he => hm e (Array.mem_toList_iff.2 (hmem e (Array.mem_toList_iff.1 he))))⟩
  unfold Array.eraseIdxIfInBounds
  split
  ·obtain ⟨l⟩ := es
   unfold unseen
   simp only [List.eraseIdx_toArray, List.filter_toArray', List.size_toArray]
   exact ((List.eraseIdx_sublist l j).filter _).length_le
  ·exact Nat.le_refl _
theorem clearG {mt : TypeId} {d : TypeDesc} (hu : P.underlying mt = some d) {ty : TypeId} {ats : Array TypeId} (hat : ats[0]? = some mt)
  {mb : Nat} {es : Array MapEntry} {clock : Nat} (hb : H mb = some (true, .map es clock)) (K : Value -> Hp -> Prop) (E : Value -> Hp -> Prop)
  (hk : K (.tuple #[]) (H.set mb (.map #[] clock))) : wpS P (Builtin.clear_ ats ty #[.map (some mb)]) H K E := by
 unfold Builtin.clear_
 simp only [hat, List.getElem?_toArray, List.getElem?_cons_zero, wpS_bind', wpS_underlying hu]
 refine ⟨true, _, hb, rfl, rfl, ?_⟩
 simp only [wpS_purec, wpS_pure, wpS_bind']
 exact ⟨_, hb, rfl, rfl, hk⟩
theorem rangeG {mt vt : TypeId} (hu : P.underlying mt = some (.map ks vt)) {mb : Nat} {p : Bool} {es : Array MapEntry} {clock : Nat} (hb : H mb = some (p, .map es clock)) (K : Value -> Hp -> Prop) (E : Value -> Hp -> Prop)
  (hk : ∀ r, H r = none -> K (.pointer (some ⟨r, 0, none⟩)) (H.set r (.mapIter (some mb) clock #[] clock))) : wpS P (Instr.range mt (.map (some mb))) H K E := by
 unfold Instr.range
 simp only [wpS_bind', wpS_underlying hu]
 refine ⟨p, _, hb, rfl, rfl, ?_⟩
 simp only [wpS_purec, wpS_pure, wpS_bind']
 exact fun r hr => hk r hr
theorem filter_le {α : Type} {p q : α -> Bool} (h : ∀ x, q x = true -> p x = true) : ∀ l : List α, (l.filter q).length <= (l.filter p).length
 | [] => Nat.le_refl _
 | x :: l => by
  have := filter_le h l
  cases hq : q x with
  | true => rw [List.filter_cons_of_pos hq, List.filter_cons_of_pos (h x hq)]; simpa using this
  | false =>
   rw [List.filter_cons_of_neg (by simp [hq])]
   cases hp : p x with
   | true => rw [List.filter_cons_of_pos hp]; simp only [List.length_cons]; omega
   | false => rw [List.filter_cons_of_neg (by simp [hp])]; exact this
theorem filter_lt {α : Type} {p q : α -> Bool} (h : ∀ x, q x = true -> p x = true) {e : α} (hp : p e = true) (hq : q e = false) : ∀ {l : List α}, e ∈ l -> (l.filter q).length < (l.filter p).length
 | x :: l, he => by
  rcases List.mem_cons.1 he with rfl | he
  ·rw [List.filter_cons_of_neg (by simp [hq]), List.filter_cons_of_pos hp]
   have := filter_le h l
   simp only [List.length_cons]; omega
  ·have := filter_lt h hp hq he
   cases hq' : q x with
   | true => rw [List.filter_cons_of_pos hq', List.filter_cons_of_pos (h x hq')]; simpa using this
   | false =>
    rw [List.filter_cons_of_neg (by simp [hq'])]
    cases hp' : p x with
    | true => rw [List.filter_cons_of_pos hp']; simp only [List.length_cons]; omega
    | false => rw [List.filter_cons_of_neg (by simp [hp'])]; exact this
theorem unseen_push {es : Array MapEntry} {seen : Array Nat} {e : MapEntry} (he : e ∈ es) (hs : seen.contains e.born = false) : unseen es (seen.push e.born) < unseen es seen := by
 obtain ⟨l⟩ := es
 unfold unseen
 have := filter_lt (p := fun e : MapEntry => !seen.contains e.born) (q := fun x : MapEntry => !(seen.push e.born).contains x.born) (e := e) (l := l) (fun x hx => by
  simp only [Bool.not_eq_true', Array.contains_push, Bool.or_eq_false_iff] at hx ⊢; exact hx.1) (by simpa using hs) (by simp) (by simpa using he)
 simpa using this
omit [DecidableEq κ] in
theorem nextG {mb r : Nat} {p : Bool} {es : Array MapEntry} {clock since : Nat} {seen : Array Nat} {last : Nat} {ok : κ -> Prop} {F : κ -> Value} {ty : TypeId} (hr : H r = some (true, .mapIter (some mb) since seen last)) (hb : H mb = some (p, .map es clock))
  (hm : MapG enc ok F clock es.toList) (hl : last = clock) (K : Value -> Hp -> Prop) (E : Value -> Hp -> Prop)
  (hover : K (.tuple #[.bool false]) H)
  (hk : ∀ k seen', ok k -> unseen es seen' < unseen es seen -> (∃ e ∈ es.toList, seen'.back? = some e.born) -> K (.tuple #[.bool true, enc k, F k]) (H.set r (.mapIter (some mb) since seen' clock))) : wpS P (Instr.next (.pointer (some ⟨r, 0, none⟩)) false ty) H K E := by
 unfold Instr.next
 simp only [wpS_bind']
 refine ⟨true, _, hr, rfl, rfl, ?_⟩
 rw [wpS_purec]
 simp only [wpS_bind']
 refine ⟨p, _, hb, rfl, rfl, ?_⟩
 rw [wpS_purec]
 have hno : (!seen.isEmpty && !es.isEmpty && es.all (·.born ≥ last)) = false := by
  by_cases he : es.isEmpty = true
  ·simp [he]
  ·have : es.all (fun x => decide (x.born ≥ last)) = false := by
    obtain ⟨l⟩ := es
    cases l with
    | nil => simp at he
    | cons e l =>
     obtain ⟨k, _, _, _, hb⟩ := hm e (by simp)
     have : ¬ e.born ≥ last := by omega
     simp [this]
   simp [this]
 simp only [hno, Bool.false_eq_true, if_false, wpS_pure, wpS_bind']
 generalize hleft : es.filter (fun e => !seen.contains e.born) = left
 have hin : ∀ e ∈ left.filter (fun e => decide (e.born < since)) ++ left.filter (fun e => decide (e.born ≥ since)), e ∈ es /\ seen.contains e.born = false := fun e he => by
  have : e ∈ left := by
   rcases Array.mem_append.1 he with h | h
   ·exact (Array.mem_filter.1 h).1
   ·exact (Array.mem_filter.1 h).1
  rw [<- hleft] at this
  have := Array.mem_filter.1 this
  exact ⟨this.1, by simpa using this.2⟩
 have hne : 0 < ((if (left.filter fun e => decide (e.born < since)).isEmpty = true then #[(none : Option MapEntry)] else #[]) ++ (left.filter (fun e => decide (e.born < since)) ++ left.filter (fun e => decide (e.born ≥ since))).map some).size := by
  split
  ·simp; omega
  ·rename_i h
   have : 0 < (left.filter fun e : MapEntry => decide (e.born < since)).size := by
    simp only [Array.isEmpty, decide_eq_true_eq] at h
    omega
   simp only [Array.size_append, Array.size_map]
   omega
 have hpre : ∀ x ∈ (if (left.filter fun e => decide (e.born < since)).isEmpty = true then #[(none : Option MapEntry)] else #[]), x = none := fun x hx => by
  split at hx
  ·simpa using hx
  ·simp at hx
 generalize left.filter (fun e => decide (e.born < since)) ++ left.filter (fun e => decide (e.born ≥ since)) = cand at hin hne ⊢
 generalize (if (left.filter fun e => decide (e.born < since)).isEmpty = true then #[(none : Option MapEntry)] else #[]) = pre at hne hpre ⊢
 have key : ∀ n, n < (pre ++ cand.map some).size -> wpS P (match (pre ++ cand.map some)[n]? with
   | some (some e) => do
    setObj r (.mapIter (some mb) since (seen.push e.born) clock)
    pure (.tuple #[.bool true, e.key, e.val])
   | some none => pure (.tuple #[.bool false])
   | none => stuck "Next: no such candidate") H K E := fun n hn => by
  rw [Array.getElem?_eq_getElem hn]
  have hx := Array.getElem_mem hn
  generalize (pre ++ cand.map some)[n] = x at hx ⊢
  rcases Array.mem_append.1 hx with h | h
  ·rw [hpre x h]; exact hover
  ·obtain ⟨e, he, rfl⟩ := Array.mem_map.1 h
   obtain ⟨h1, h2⟩ := hin e he
   obtain ⟨k, hk1, hk2, hk3, _⟩ := hm e (by simpa using h1)
   simp only [wpS_bind']
   refine ⟨_, hr, rfl, rfl, ?_⟩
   rw [wpS_purec, hk2, hk3]
   exact hk k _ hk1 (unseen_push h1 h2) ⟨e, by simpa using h1, by simp⟩
 simp only [choose, wpS]
 split
 ·exact key 0 hne
 ·exact fun n => key _ (Nat.mod_lt _ hne)
omit [DecidableEq κ] in
theorem entryG {mb r : Nat} {p : Bool} {es : Array MapEntry} {clock since : Nat} {seen : Array Nat} {ok : κ -> Prop} {F : κ -> Value} (hr : H r = some (true, .mapIter (some mb) since seen clock)) (hb : H mb = some (p, .map es clock))
  (hm : MapG enc ok F clock es.toList) (hs : ∃ e ∈ es.toList, seen.back? = some e.born) (K : Value -> Hp -> Prop) (E : Value -> Hp -> Prop)
  (hk : ∀ k, ok k -> K (.tuple #[enc k, F k]) H) : wpS P (Instr.entry (.pointer (some ⟨r, 0, none⟩))) H K E := by
 obtain ⟨e, he, hse⟩ := hs
 unfold Instr.entry
 simp only [wpS_bind']
 refine ⟨true, _, hr, rfl, rfl, ?_⟩
 rw [wpS_purec]
 simp only [hse, wpS_bind', wpS_pure]
 refine ⟨p, _, hb, rfl, rfl, ?_⟩
 rw [wpS_purec]
 simp only [bne_self_eq_false, Bool.false_eq_true, if_false]
 cases hf : es.find? (fun x => x.born == e.born) with
 | none =>
  rw [Array.find?_eq_none] at hf
  exact absurd (hf e (by simpa using he)) (by simp)
 | some x =>
  obtain ⟨k, h1, h2, h3, _⟩ := hm x (by simpa using Array.mem_of_find?_eq_some hf)
  rw [wpS_pure, h2, h3]
  exact hk k h1
end
section ex
variable {P : Program} {H : Hp} (ρ : Operand -> Value) (d : Option Tmp) (ty : TypeId) (pos : String) (af : Array Edge) (g : Option (Nat × Bool)) (K : Next -> Hp -> Prop) (E : Value -> Hp -> Prop)
theorem ex_range (t : TypeId) (x : Operand) : wpS P (execOp ρ ⟨d, .range t x, ty, pos, af, g⟩) H K E = wpS P (Instr.range t (ρ x)) H (fun v H' => K (.value v) H') E := wpS_bind' _ _ _ _
theorem ex_next (x : Operand) (s : Bool) : wpS P (execOp ρ ⟨d, .next x s, ty, pos, af, g⟩) H K E = wpS P (Instr.next (ρ x) s ty) H (fun v H' => K (.value v) H') E := wpS_bind' _ _ _ _
theorem ex_entry (x : Operand) : wpS P (execOp ρ ⟨d, .entry x, ty, pos, af, g⟩) H K E = wpS P (Instr.entry (ρ x)) H (fun v H' => K (.value v) H') E := wpS_bind' _ _ _ _
theorem bi_delete (ats : Array TypeId) (kn : Array Bool) (args : Array Value) : wpS P (builtin .delete ats ty kn args) H K E = wpS P (Builtin.delete_ ats ty args) H (fun v H' => K (.value v) H') E := wpS_bind' _ _ _ _
theorem bi_clear (ats : Array TypeId) (kn : Array Bool) (args : Array Value) : wpS P (builtin .clear ats ty kn args) H K E = wpS P (Builtin.clear_ ats ty args) H (fun v H' => K (.value v) H') E := wpS_bind' _ _ _ _
end ex
section
variable {P : Program} {ks : TypeId}
structure Key4 (P : Program) (ks : TypeId) : Prop where
 ex : ∃ (f1 f2 : Field) (et : TypeId), P.underlying ks = some (.struct #[f1, f2]) /\ f1.name ≠ "_" /\ f2.name ≠ "_" /\ f1.offset = 0 /\ f2.offset = 4 /\ P.underlying f1.type = some (.array 4 et) /\ (∀ w, (sizeOf f1.type).run P w = .ok 4 w) /\
  (∃ d, P.underlying et = some (.int d)) /\ (∀ w, (sizeOf et).run P w = .ok 1 w) /\ (∃ d, P.underlying f2.type = some (.int d))
 held : P.stoodInHeld ks = false
def K5 : Type := { l : List Int // l.length = 5 }
instance : DecidableEq K5 := fun a b => decidable_of_iff (a.1 = b.1) ⟨Subtype.ext, fun h => congrArg _ h⟩
def K5.enc (k : K5) : Value := .agg (k.1.map fun x => Value.int .i64 x).toArray
theorem equal_arr {H : Hp} {t et : TypeId} (hu : P.underlying t = some (.array 4 et)) {d : IntKind} (he : P.underlying et = some (.int d)) (hs : ∀ w, (sizeOf et).run P w = .ok 1 w) (n : Nat) (a b c e a' b' c' e' : Int) (K : Bool -> Hp -> Prop) (E : Value -> Hp -> Prop) :
  wpS P (Op.equalIn (n + 1 + 1) t (.agg #[.int .i64 a, .int .i64 b, .int .i64 c, .int .i64 e]) (.agg #[.int .i64 a', .int .i64 b', .int .i64 c', .int .i64 e'])) H K E = K (a == a' && (b == b' && (c == c' && e == e'))) H := by
 conv => lhs; unfold Op.equalIn
 simp only [wpS_bind', wpS_underlying hu, wpS_sizeOf hs, Std.Legacy.Range.forIn_eq_forIn_range', Std.Legacy.Range.size]
 simp only [Nat.sub_zero, Nat.add_one_sub_one, Nat.div_one, List.range'_succ, List.range'_zero, List.forIn_cons, List.forIn_nil, wpS_bind', wpS_pure]
 simp only [part_one he rfl (v := .int .i64 a) #[.int .i64 a, .int .i64 b, .int .i64 c, .int .i64 e] (0 * 1) rfl, part_one he rfl (v := .int .i64 a') #[.int .i64 a', .int .i64 b', .int .i64 c', .int .i64 e'] (0 * 1) rfl, part_one he rfl (v := .int .i64 b) #[.int .i64 a, .int .i64 b, .int .i64 c, .int .i64 e] ((0 + 1) * 1) rfl, part_one he rfl (v := .int .i64 b') #[.int .i64 a', .int .i64 b', .int .i64 c', .int .i64 e'] ((0 + 1) * 1) rfl, part_one he rfl (v := .int .i64 c) #[.int .i64 a, .int .i64 b, .int .i64 c, .int .i64 e] ((0 + 1 + 1) * 1) rfl, part_one he rfl (v := .int .i64 c') #[.int .i64 a', .int .i64 b', .int .i64 c', .int .i64 e'] ((0 + 1 + 1) * 1) rfl, part_one he rfl (v := .int .i64 e) #[.int .i64 a, .int .i64 b, .int .i64 c, .int .i64 e] ((0 + 1 + 1 + 1) * 1) rfl, part_one he rfl (v := .int .i64 e') #[.int .i64 a', .int .i64 b', .int .i64 c', .int .i64 e'] ((0 + 1 + 1 + 1) * 1) rfl, equal_int he]
 generalize (a == a') = q
 cases q
 ·simp only [Bool.not_false, if_true, wpS_pure, Bool.false_and]
 simp only [Bool.not_true, Bool.false_eq_true, if_false, wpS_pure, wpS_bind', Bool.true_and, part_one he rfl (v := .int .i64 a) #[.int .i64 a, .int .i64 b, .int .i64 c, .int .i64 e] (0 * 1) rfl, part_one he rfl (v := .int .i64 a') #[.int .i64 a', .int .i64 b', .int .i64 c', .int .i64 e'] (0 * 1) rfl, part_one he rfl (v := .int .i64 b) #[.int .i64 a, .int .i64 b, .int .i64 c, .int .i64 e] ((0 + 1) * 1) rfl, part_one he rfl (v := .int .i64 b') #[.int .i64 a', .int .i64 b', .int .i64 c', .int .i64 e'] ((0 + 1) * 1) rfl, part_one he rfl (v := .int .i64 c) #[.int .i64 a, .int .i64 b, .int .i64 c, .int .i64 e] ((0 + 1 + 1) * 1) rfl, part_one he rfl (v := .int .i64 c') #[.int .i64 a', .int .i64 b', .int .i64 c', .int .i64 e'] ((0 + 1 + 1) * 1) rfl, part_one he rfl (v := .int .i64 e) #[.int .i64 a, .int .i64 b, .int .i64 c, .int .i64 e] ((0 + 1 + 1 + 1) * 1) rfl, part_one he rfl (v := .int .i64 e') #[.int .i64 a', .int .i64 b', .int .i64 c', .int .i64 e'] ((0 + 1 + 1 + 1) * 1) rfl, equal_int he]
 generalize (b == b') = q
 cases q
 ·simp only [Bool.not_false, if_true, wpS_pure, Bool.false_and]
 simp only [Bool.not_true, Bool.false_eq_true, if_false, wpS_pure, wpS_bind', Bool.true_and, part_one he rfl (v := .int .i64 a) #[.int .i64 a, .int .i64 b, .int .i64 c, .int .i64 e] (0 * 1) rfl, part_one he rfl (v := .int .i64 a') #[.int .i64 a', .int .i64 b', .int .i64 c', .int .i64 e'] (0 * 1) rfl, part_one he rfl (v := .int .i64 b) #[.int .i64 a, .int .i64 b, .int .i64 c, .int .i64 e] ((0 + 1) * 1) rfl, part_one he rfl (v := .int .i64 b') #[.int .i64 a', .int .i64 b', .int .i64 c', .int .i64 e'] ((0 + 1) * 1) rfl, part_one he rfl (v := .int .i64 c) #[.int .i64 a, .int .i64 b, .int .i64 c, .int .i64 e] ((0 + 1 + 1) * 1) rfl, part_one he rfl (v := .int .i64 c') #[.int .i64 a', .int .i64 b', .int .i64 c', .int .i64 e'] ((0 + 1 + 1) * 1) rfl, part_one he rfl (v := .int .i64 e) #[.int .i64 a, .int .i64 b, .int .i64 c, .int .i64 e] ((0 + 1 + 1 + 1) * 1) rfl, part_one he rfl (v := .int .i64 e') #[.int .i64 a', .int .i64 b', .int .i64 c', .int .i64 e'] ((0 + 1 + 1 + 1) * 1) rfl, equal_int he]
 generalize (c == c') = q
 cases q
 ·simp only [Bool.not_false, if_true, wpS_pure, Bool.false_and]
 simp only [Bool.not_true, Bool.false_eq_true, if_false, wpS_pure, wpS_bind', Bool.true_and, part_one he rfl (v := .int .i64 a) #[.int .i64 a, .int .i64 b, .int .i64 c, .int .i64 e] (0 * 1) rfl, part_one he rfl (v := .int .i64 a') #[.int .i64 a', .int .i64 b', .int .i64 c', .int .i64 e'] (0 * 1) rfl, part_one he rfl (v := .int .i64 b) #[.int .i64 a, .int .i64 b, .int .i64 c, .int .i64 e] ((0 + 1) * 1) rfl, part_one he rfl (v := .int .i64 b') #[.int .i64 a', .int .i64 b', .int .i64 c', .int .i64 e'] ((0 + 1) * 1) rfl, part_one he rfl (v := .int .i64 c) #[.int .i64 a, .int .i64 b, .int .i64 c, .int .i64 e] ((0 + 1 + 1) * 1) rfl, part_one he rfl (v := .int .i64 c') #[.int .i64 a', .int .i64 b', .int .i64 c', .int .i64 e'] ((0 + 1 + 1) * 1) rfl, part_one he rfl (v := .int .i64 e) #[.int .i64 a, .int .i64 b, .int .i64 c, .int .i64 e] ((0 + 1 + 1 + 1) * 1) rfl, part_one he rfl (v := .int .i64 e') #[.int .i64 a', .int .i64 b', .int .i64 c', .int .i64 e'] ((0 + 1 + 1 + 1) * 1) rfl, equal_int he]
 generalize (e == e') = q
 cases q
 ·simp only [Bool.not_false, if_true, wpS_pure, Bool.false_and]
 ·simp only [Bool.not_true, Bool.false_eq_true, if_false, wpS_pure, wpS_bind', Bool.true_and]
theorem check_arr {H : Hp} {t et : TypeId} (hu : P.underlying t = some (.array 4 et)) {d : IntKind} (he : P.underlying et = some (.int d)) (hs : ∀ w, (sizeOf et).run P w = .ok 1 w) (em : Bool) (n : Nat) (a b c e : Int) (K : Unit -> Hp -> Prop) (E : Value -> Hp -> Prop) :
  wpS P (Instr.checkKey em (n + 1 + 1) t (.agg #[.int .i64 a, .int .i64 b, .int .i64 c, .int .i64 e])) H K E = K () H := by
 conv => lhs; unfold Instr.checkKey
 simp only [wpS_bind', wpS_underlying hu, wpS_sizeOf hs, Std.Legacy.Range.forIn_eq_forIn_range', Std.Legacy.Range.size]
 simp only [Nat.sub_zero, Nat.add_one_sub_one, Nat.div_one, List.range'_succ, List.range'_zero, List.forIn_cons, List.forIn_nil, wpS_bind', wpS_pure, wpS_sizeOf hs, part_one he rfl (v := .int .i64 a) #[.int .i64 a, .int .i64 b, .int .i64 c, .int .i64 e] (0 * 1) rfl, part_one he rfl (v := .int .i64 b) #[.int .i64 a, .int .i64 b, .int .i64 c, .int .i64 e] ((0 + 1) * 1) rfl, part_one he rfl (v := .int .i64 c) #[.int .i64 a, .int .i64 b, .int .i64 c, .int .i64 e] ((0 + 1 + 1) * 1) rfl, part_one he rfl (v := .int .i64 e) #[.int .i64 a, .int .i64 b, .int .i64 c, .int .i64 e] ((0 + 1 + 1 + 1) * 1) rfl, checkKey_int he]
theorem K5.cells (k : K5) : ∃ a b c d e, k.1 = [a, b, c, d, e] := by
 obtain ⟨l, hl⟩ := k
 match l, hl with
 | [a, b, c, d, e], _ => exact ⟨a, b, c, d, e, rfl⟩
theorem key5 (h : Key4 P ks) : KeyT P ks K5.enc where
 eq := fun x y H K E => by
  obtain ⟨f1, f2, et, hu, hn1, hn2, ho1, ho2, h1, hs1, ⟨de, he⟩, hse, ⟨d2, h2⟩⟩ := h.ex
  have hh := h.held
  obtain ⟨a, b, c, e, g, hx⟩ := x.cells
  obtain ⟨a', b', c', e', g', hy⟩ := y.cells
  have hdec : decide (x = y) = ((a == a' && (b == b' && (c == c' && e == e'))) && g == g') := by
   rw [Bool.eq_iff_iff]
   simp only [decide_eq_true_eq, Bool.and_eq_true, beq_iff_eq]
   constructor
   ·rintro rfl
    rw [hx] at hy
    simp at hy
    obtain ⟨rfl, rfl, rfl, rfl, rfl⟩ := hy
    simp
   ·rintro ⟨⟨rfl, rfl, rfl, rfl⟩, rfl⟩
    exact Subtype.ext (hx.trans hy.symm)
  rw [hdec]
  unfold K5.enc
  rw [hx, hy]
  simp only [List.map_cons, List.map_nil]
  unfold Op.equal Op.maxDepth
  rw [show (10000 : Nat) = 9997 + 1 + 1 + 1 from rfl]
  conv => lhs; unfold Op.equalIn
  simp only [wpS_bind', wpS_underlying hu, wpS_program, hh, Bool.false_eq_true, if_false, wpS_pure, List.forIn_toArray, List.forIn_cons, List.forIn_nil, hn1, hn2, ne_eq, not_false_eq_true, if_true]
  rw [part_agg h1 rfl hs1, part_agg h1 rfl hs1, ho1]
  simp only [List.extract_toArray, List.extract_eq_take_drop, List.drop_zero, List.take_succ_cons, List.take_zero, Nat.zero_add, Nat.sub_zero]
  rw [show (9999 : Nat) = 9997 + 1 + 1 from rfl, equal_arr h1 he hse]
  generalize (a == a' && (b == b' && (c == c' && e == e'))) = q
  cases q
  ·simp only [Bool.not_false, if_true, wpS_pure, Bool.false_and]
  ·simp only [Bool.not_true, Bool.false_eq_true, if_false, wpS_pure, Bool.true_and, wpS_bind']
   rw [part_one h2 rfl (v := .int .i64 g) _ _ (by simp [ho2]), part_one h2 rfl (v := .int .i64 g') _ _ (by simp [ho2]), show (9997 + 1 + 1 : Nat) = 9998 + 1 from rfl, equal_int h2]
   cases g == g'
   ·simp only [Bool.not_false, if_true, wpS_pure]
   ·simp only [Bool.not_true, Bool.false_eq_true, if_false, wpS_pure]
 ck := fun em x H K E => by
  obtain ⟨f1, f2, et, hu, hn1, hn2, ho1, ho2, h1, hs1, ⟨de, he⟩, hse, ⟨d2, h2⟩⟩ := h.ex
  obtain ⟨a, b, c, e, g, hx⟩ := x.cells
  unfold K5.enc
  rw [hx]
  simp only [List.map_cons, List.map_nil]
  rw [show (10000 : Nat) = 9997 + 1 + 1 + 1 from rfl]
  conv => lhs; unfold Instr.checkKey
  rw [wpS_bind', wpS_underlying hu]
  simp only [wpS_bind', wpS_pure, List.forIn_toArray, List.forIn_cons, List.forIn_nil, hn1, hn2, ne_eq, not_false_eq_true, if_true]
  rw [part_agg h1 rfl hs1, ho1]
  simp only [List.extract_toArray, List.extract_eq_take_drop, List.drop_zero, List.take_succ_cons, List.take_zero, Nat.zero_add, Nat.sub_zero]
  rw [check_arr h1 he hse, part_one h2 rfl (v := .int .i64 g) _ _ (by simp [ho2]), show (9999 : Nat) = 9998 + 1 from rfl, checkKey_int h2]
 un := by
  obtain ⟨f1, f2, et, hu, _⟩ := h.ex
  exact ⟨_, hu, fun a b => rfl⟩
 bits := fun x => by
  obtain ⟨a, b, c, e, g, hx⟩ := x.cells
  unfold K5.enc
  rw [hx, show (10000 : Nat) = 9998 + 1 + 1 from rfl]
  simp [Instr.sameBits]
end
theorem bin_neq_arr {P : Program} {H : Hp} {t et : TypeId} (hu : P.underlying t = some (.array 4 et)) {d : IntKind} (he : P.underlying et = some (.int d)) (hs : ∀ w, (sizeOf et).run P w = .ok 1 w) (a b c e a' b' c' e' : Int) (K : Value -> Hp -> Prop) (E : Value -> Hp -> Prop) :
  wpS P (binOp .neq t (.agg #[.int .i64 a, .int .i64 b, .int .i64 c, .int .i64 e]) (.agg #[.int .i64 a', .int .i64 b', .int .i64 c', .int .i64 e'])) H K E = K (.bool !(a == a' && (b == b' && (c == c' && e == e')))) H := by
 simp only [binOp]
 rw [wpS_bind']
 unfold Op.equal Op.maxDepth
 rw [show (10000 : Nat) = 9998 + 1 + 1 from rfl, equal_arr hu he hs]
 rfl
end Go.X
end
section
namespace Go.Proofs.YtofmadjgbcopdaaGreatDoor
open Go Go.X
def y135_88 := And.intro (fun H => fieldAt_eq (H := H) Tryz.underlying195 (i := 1) rfl (off := 4) rfl Tryz.sizeOf3) (And.intro (fun H => loadAt_one (H := H) Tryz.underlying3 rfl) (And.intro (fun H => loadAt_one (H := H) Tryz.underlying81 rfl) (And.intro (fun H => fieldAt_eq (H := H) Tryz.underlying85 (i := 1) rfl (off := 12) rfl Tryz.sizeOf22) (And.intro (fun H => loadAt_one (H := H) Tryz.underlying22 rfl) (And.intro (fun H => len_slice (H := H) Tryz.underlying22) (And.intro (fun H => loadAt_one (H := H) Tryz.underlying192 rfl) (And.intro (fun H => loadAt_aggE (H := H) Tryz.underlying195 rfl Tryz.sizeOf195) (And.intro (fun H => fieldAt_eq (H := H) Tryz.underlying85 (i := 0) rfl (off := 0) rfl Tryz.sizeOf29) (And.intro (fun H => fieldAt_eq (H := H) Tryz.underlying29 (i := 5) rfl (off := 8) rfl Tryz.sizeOf3) (And.intro @min_int (And.intro (fun H => fieldAt_eq (H := H) Tryz.underlying195 (i := 0) rfl (off := 0) rfl Tryz.sizeOf145) (And.intro (fun H => loadAt_aggE (H := H) Tryz.underlying145 rfl Tryz.sizeOf145) (And.intro @callF117 (And.intro (fun H => ex_alloc (H := H) (P := Tryz.prog) (h := Tryz.zeroValue61)) (And.intro (fun H => ex_alloc (H := H) (P := Tryz.prog) (h := Tryz.zeroValue145)) (And.intro (fun H => storeAt_agg (H := H) Tryz.sizeOf61) (And.intro (fun H => storeAt_agg (H := H) Tryz.sizeOf145) (And.intro (fun H => loadAt_aggE (H := H) Tryz.underlying61 rfl Tryz.sizeOf61) (And.intro @callF119 (And.intro @meth_barrow_tardy (And.intro @nilm_barrow_tardy (And.intro @callF196 (And.intro @meth_barrow_timely (And.intro @nilm_barrow_timely (And.intro @callF197 (And.intro (fun H => loadAt_one (H := H) Tryz.underlying193 rfl) @bld_195_0_1_0))))))))))))))))))))))))))
theorem goodF_fuel (n : HN) (js : List Int) (mi : Int) (load : Nat) : ∀ (k k' : Nat) (bs : List Int) (f : Nat), js.length - f <= k -> js.length - f <= k' -> goodF n js mi load k bs f = goodF n js mi load k' bs f
 | 0, 0, _, _, _, _ => rfl
 | 0, k' + 1, bs, f, h, _ => by rw [goodF, goodF, if_pos (by omega)]
 | k + 1, 0, bs, f, _, h => by rw [goodF, goodF, if_pos (by omega)]
 | k + 1, k' + 1, bs, f, h, h' => by
  rw [goodF, goodF]
  by_cases hf : js.length <= f
  ·rw [if_pos hf, if_pos hf]
  ·rw [if_neg hf, if_neg hf]
   congr 1
   funext i
   rw [goodF_fuel n js mi load k k' _ _ (by omega) (by omega)]
def spotK (b0 b1 b2 b3 : Int) (f : Nat) : K5 := ⟨[b0, b1, b2, b3, (f : Int)], rfl⟩
def goodK (n : HN) (js : List Int) (mi : Int) (k : K5) : Value := .bool (goodF n js mi n.load.toNat js.length (k.1.take 4) (k.1.getD 4 0).toNat)
def KnownS (n : HN) (js : List Int) (mi : Int) (mb : Nat) (H : Hp) : Prop := ∃ es clock, H mb = some (true, .map es clock) /\ MapG K5.enc (fun _ => True) (goodK n js mi) clock es.toList
theorem key5S : KeyT Tryz.prog 195 K5.enc := key5 ⟨⟨_, _, _, Tryz.underlying195, by decide, by decide, rfl, rfl, Tryz.underlying145, Tryz.sizeOf145, ⟨_, Tryz.underlying3⟩, Tryz.sizeOf3, ⟨_, Tryz.underlying3⟩⟩, by kernel_rfl⟩
theorem KnownS.le {n : HN} {js : List Int} {mi : Int} {mb : Nat} {H H' : Hp} (h : KnownS n js mi mb H) (hl : H.le H') : KnownS n js mi mb H' := by
 obtain ⟨es, clock, h1, h2⟩ := h
 exact ⟨es, clock, hl _ _ h1, h2⟩
theorem goodF_end (n : HN) (js : List Int) (mi : Int) (load : Nat) (k : Nat) (bs : List Int) : goodF n js mi load k bs js.length = true := by
 cases k with
 | zero => rfl
 | succ k => rw [goodF, if_pos (Nat.le_refl _)]
theorem ride_bnd (n : HN) (js bs : List Int) (f m : Nat) (mi : Int) (hx : ∀ x ∈ n.xs, 0 <= x /\ x <= 99) (n0 : 0 <= n.notice) (b1 : 1 <= n.barrows) (b4 : n.barrows <= 4) (hl : bs.length = 4) (hb : ∀ x ∈ bs, -1048576 <= x /\ x <= 100 + 20 * f) (hm : 1 <= m) (h1 : 1 <= mi) (h20 : mi <= 20) :
  (-1048576 <= (rideF n js bs f m mi).back /\ (rideF n js bs f m mi).back <= 100 + 20 * (f + m)) /\ ∀ x ∈ bs.set (pickB bs n.barrows.toNat) (rideF n js bs f m mi).back, -1048576 <= x /\ x <= 100 + 20 * (f + m) := by
 have hpl := pickB_lt bs n.barrows.toNat (by omega)
 have hB : -1048576 <= bs.getD (pickB bs n.barrows.toNat) 0 /\ bs.getD (pickB bs n.barrows.toNat) 0 <= 100 + 20 * f := by
  simp [List.getD, List.getElem?_eq_getElem (show pickB bs n.barrows.toNat < bs.length by omega)]
  exact hb _ (List.getElem_mem _)
 have hdue : ∀ j, n.due js j <= 99 := fun j => by
  unfold HN.due
  by_cases hl : (js.getD j 0).toNat < n.xs.length
  ·simp [List.getD, List.getElem?_eq_getElem (show (js[j]?.getD 0).toNat < n.xs.length by simpa [List.getD] using hl)]
   exact (hx _ (List.getElem_mem _)).2
  ·simp [List.getD, List.getElem?_eq_none (show n.xs.length <= (js[j]?.getD 0).toNat by simpa [List.getD] using (by omega : n.xs.length <= (js.getD j 0).toNat))]
 have hr : -1048576 <= (rideF n js bs f m mi).back /\ (rideF n js bs f m mi).back <= 100 + 20 * (f + m) := by
  simp only [rideF]
  have := hdue (f + m - 1)
  omega
 refine ⟨hr, fun x hx' => ?_⟩
 rcases List.mem_or_eq_of_mem_set hx' with h | h
 ·have := hb x h; omega
 ·subst h; exact hr
def anyG (G : Nat -> Bool) (m : Nat) : Bool := (List.range m).any G
theorem anyG_succ (G : Nat -> Bool) (m : Nat) : anyG G (m + 1) = (anyG G m || G m) := by simp [anyG, List.range_succ]
theorem someEnd_spec (main : Md) (hb : Nat) (n : HN) (v : HV) (jv : Value) (js : List Int) (hx : Nat) (args : List Value) (mb : Nat) (hN : js.length <= 1000) (b0 b1 b2 b3 : Int) (H : Hp) (hh : HaulAt H hb n v jv js)
  (vh : H hx = some (true, .cells #[.pointer (some ⟨hb, 0, none⟩)] 81 (0, 0))) (mi : Int) (hkn : KnownS n js mi mb H) (x y z : Value) :
   FnX Tryz.prog main 135 #[.agg #[.int .i64 b0, .int .i64 b1, .int .i64 b2, .int .i64 b3, .int .i64 js.length], .pointer (some ⟨hx, 0, none⟩), x, y, z] H
    fun e H' => e = .returned (.bool true) /\ Lex (some mb) H H' /\ KnownS n js mi mb H' := by
 obtain ⟨hq, ho⟩ := hh.o
 obtain ⟨ja, jc, hjs⟩ : ∃ ja jc, jv = .slice ja js.length jc := by obtain ⟨ja, jc, h, _⟩ := id hh.j; exact ⟨ja, jc, h⟩
 subst hjs
 simp only [HN.obj] at ho
 refine FnX_start Tryz.func135 rfl Tryz.ntmps135 (by simp) ?_
 (refine @unH _ ?_; refine zAi y135_88 ?_; (repeat (refine inC ?_; intro hc)); try (refine inK ?_; intro K hK))
 (intro sb hsb; generalize hG : Hp.set _ sb _ = H1; have lH1 := le_of_set hG hsb; have vsb := at_of_set hG; clear hG)
 have ho1 := lH1 _ _ ho
 have vh1 := lH1 _ _ vh
 clear ho vh
 ((try (refine @unH _ ?_; refine zXi y135_88 ?_)); (try (refine hK _ _ ?_; clear hK K; (try simp only [nq, ↓reduceIte, Nat.reduceEqDiff]))); refine @unH _ ?_; refine zAi y135_88 ?_; (repeat (refine inC ?_; intro hc)); try (refine inK ?_; intro K hK))
 (refine wpX_dst1 8 [(true, 0), (true, 1), (true, 2), (true, 3), (true, 4), (true, 5), (true, 6), (true, 7)] (by kernel_rfl) (by kernel_rfl) (by simp) (by kernel_rfl) ?_; intro K hK; (iterate 8 (refine @unH _ ?_; refine z3i y135_88 ?_)); refine plan_nil (hK _ _ ?_); clear hK K; (try simp only [nq, ↓reduceIte, Nat.reduceEqDiff]))
 (refine @unH _ ?_; refine zAi y135_88 ?_; (repeat (refine inC ?_; intro hc)); try (refine inK ?_; intro K hK))
 (refine @unH _ ?_; refine z9 Tryz.results135 ?_)
 exact ⟨by trivial, Lex.of lH1, hkn.le lH1⟩
theorem someFrom_spec (main : Md) (hb : Nat) (n : HN) (v : HV) (jv : Value) (js : List Int) (l1 : 1 <= n.load) (l3 : n.load <= 3) (mi : Int) (h1' : 1 <= mi) (h20 : mi <= 20) (hx mx cx fx mb : Nat) (hN : js.length <= 1000) :
  ∀ (k : Nat) (b0 b1 b2 b3 : Int) (f : Nat) (H : Hp), js.length - f <= k -> f <= js.length -> (∀ x ∈ [b0, b1, b2, b3], -1048576 <= x /\ x <= 100 + 20 * f) -> HaulAt H hb n v jv js ->
   H hx = some (true, .cells #[.pointer (some ⟨hb, 0, none⟩)] 81 (0, 0)) -> H mx = some (true, .cells #[.map (some mb)] 192 (0, 0)) -> H cx = some (true, .cells #[.int .i64 mi] 3 (0, 0)) ->
   H fx = some (true, .cells #[.func (.func 135) #[] #[.pointer (some ⟨hx, 0, none⟩), .pointer (some ⟨mx, 0, none⟩), .pointer (some ⟨cx, 0, none⟩), .pointer (some ⟨fx, 0, none⟩)]] 193 (0, 0)) ->
   KnownS n js mi mb H ->
   FnX Tryz.prog main 135 #[.agg #[.int .i64 b0, .int .i64 b1, .int .i64 b2, .int .i64 b3, .int .i64 f], .pointer (some ⟨hx, 0, none⟩), .pointer (some ⟨mx, 0, none⟩), .pointer (some ⟨cx, 0, none⟩), .pointer (some ⟨fx, 0, none⟩)] H
    fun e H' => e = .returned (.bool (goodF n js mi n.load.toNat js.length [b0, b1, b2, b3] f)) /\ Lex (some mb) H H' /\ KnownS n js mi mb H' := by
 intro k
 induction k with
 | zero =>
  intro b0 b1 b2 b3 f H hk hf hbnd hh vh vm vc vf hkn
  obtain rfl : f = js.length := by omega
  rw [goodF_end]
  exact someEnd_spec main hb n v jv js hx [] mb hN b0 b1 b2 b3 H hh vh mi hkn _ _ _
 | succ k ih =>
  intro b0 b1 b2 b3 f H hk hf hbnd hh vh vm vc vf hkn
  by_cases hfe : f = js.length
  ·subst hfe
   rw [goodF_end]
   exact someEnd_spec main hb n v jv js hx [] mb hN b0 b1 b2 b3 H hh vh mi hkn _ _ _
  have hflt : f < js.length := by omega
  obtain ⟨hq, ho⟩ := hh.o
  obtain ⟨ja, jc, hjs⟩ : ∃ ja jc, jv = .slice ja js.length jc := by obtain ⟨ja, jc, h, _⟩ := id hh.j; exact ⟨ja, jc, h⟩
  have hres : ∀ H' : Hp, HaulAt H' hb n v jv js -> ∃ q, H' hb = some (q, n.obj v (.slice ja js.length jc)) := fun H' h' => by rw [<- hjs]; exact h'.o
  have ho' := hres H hh
  refine FnX_start Tryz.func135 rfl Tryz.ntmps135 (by simp) ?_
  (refine @unH _ ?_; refine zAi y135_88 ?_; (repeat (refine inC ?_; intro hc)); try (refine inK ?_; intro K hK))
  (intro sb hsb; generalize hG : Hp.set _ sb _ = H1; have lH1 := le_of_set hG hsb; have vsb := at_of_set hG; clear hG)
  have hh1 := hh.le lH1
  have vh1 := lH1 _ _ vh
  have vm1 := lH1 _ _ vm
  have vc1 := lH1 _ _ vc
  have vf1 := lH1 _ _ vf
  have hkn1 := hkn.le lH1
  obtain ⟨q1, ho1⟩ := hres H1 hh1
  simp only [HN.obj] at ho1
  have hmb0 : ∃ u, H mb = some u := by obtain ⟨es, clock, h1, _⟩ := hkn; exact ⟨_, h1⟩
  have lx1 : Lex (some mb) H H1 := Lex.of lH1
  clear vh vm vc vf hkn ho ho' lH1
  ((try (refine @unH _ ?_; refine zXi y135_88 ?_)); (try (refine hK _ _ ?_; clear hK K; (try simp only [nq, ↓reduceIte, Nat.reduceEqDiff]))); refine @unH _ ?_; refine zAi y135_88 ?_; (repeat (refine inC ?_; intro hc)); try (refine inK ?_; intro K hK))
  (refine wpX_dst1 8 [(true, 0), (true, 1), (true, 2), (true, 3), (true, 4), (true, 5), (true, 6), (true, 7)] (by kernel_rfl) (by kernel_rfl) (by simp) (by kernel_rfl) ?_; intro K hK; (iterate 8 (refine @unH _ ?_; refine z3i y135_88 ?_)); refine plan_nil (hK _ _ ?_); clear hK K; (try simp only [nq, ↓reduceIte, Nat.reduceEqDiff]))
  (refine @unH _ ?_; refine zAi y135_88 ?_; (repeat (refine inC ?_; intro hc)); try (refine inK ?_; intro K hK))
  obtain ⟨es, clock, hmb1, hmap⟩ := id hkn1
  obtain ⟨lv, met, hmet, hunmet, hlk⟩ := lookupG (P := Tryz.prog) Tryz.underlying192 key5S Tryz.zeroValue4 (spotK b0 b1 b2 b3 f) hmb1 hmap
  refine hlk _ _ ?_
  clear hlk
  have hgk : goodK n js mi (spotK b0 b1 b2 b3 f) = .bool (goodF n js mi n.load.toNat js.length [b0, b1, b2, b3] f) := rfl
  have hstep : goodF n js mi n.load.toNat js.length [b0, b1, b2, b3] f = (List.range (min (js.length - f) n.load.toNat)).any fun i => decide ((rideF n js [b0, b1, b2, b3] f (i + 1) mi).back - n.due js f <= 0) && goodF n js mi n.load.toNat js.length (nextB n [b0, b1, b2, b3] (rideF n js [b0, b1, b2, b3] f (i + 1) mi)) (f + (i + 1)) := by
   rw [goodF_fuel n js mi n.load.toNat js.length (k + 1) _ _ (by omega) (by omega), goodF, if_neg (by omega)]
   congr 1
   funext i
   rw [goodF_fuel n js mi n.load.toNat js.length k _ _ (by omega) (by omega)]
  replace hstep : SameB _ _ := hstep
  generalize hgood : goodF n js mi n.load.toNat js.length [b0, b1, b2, b3] f = good at *
  generalize hGG : (fun i : Nat => decide ((rideF n js [b0, b1, b2, b3] f (i + 1) mi).back - n.due js f <= 0) && goodF n js mi n.load.toNat js.length (nextB n [b0, b1, b2, b3] (rideF n js [b0, b1, b2, b3] f (i + 1) mi)) (f + (i + 1))) = GG at hstep
  replace hstep : SameB good (anyG GG (min (js.length - f) n.load.toNat)) := hstep
  obtain ⟨is0, rfl, his0⟩ : ∃ is0, lv = .bool is0 /\ ((met = true -> is0 = good) /\ (met = false -> is0 = false)) := by
   cases met with
   | true => exact ⟨good, by rw [hmet rfl, hgk], fun _ => rfl, (fun h => by cases h)⟩
   | false => exact ⟨false, hunmet rfl, (fun h => by cases h), fun _ => rfl⟩
  have neM : ∀ b p c t fr, H1 b = some (p, .cells c t fr) -> b ≠ mb := fun b p c t fr h h' => by rw [h', hmb1] at h; cases h
  clear hmet hunmet hmb1 hmap hmb0
  ((try (refine @unH _ ?_; refine zXi y135_88 ?_)); (try (refine hK _ _ ?_; clear hK K; (try simp only [nq, ↓reduceIte, Nat.reduceEqDiff]))); refine @unH _ ?_; refine zAi y135_88 ?_; (repeat (refine inC ?_; intro hc)); try (refine inK ?_; intro K hK))
  refine wpX_loop (fun w a' H' => ∃ e many isv, w = js.length + 2 - many /\ 1 <= many /\ a' = act 81 e [] /\ e 1 = .pointer (some ⟨hx, 0, none⟩) /\ e 2 = .pointer (some ⟨mx, 0, none⟩) /\ e 3 = .pointer (some ⟨cx, 0, none⟩) /\ e 4 = .pointer (some ⟨fx, 0, none⟩) /\ e 5 = .pointer (some ⟨sb, 0, none⟩) /\ e 7 = .bool isv /\ e 8 = .bool met /\ e 9 = .int .i64 (many : Nat) /\
   Lex (some mb) H1 H' /\ KnownS n js mi mb H' /\ ((met = true /\ isv = good /\ many = 1) ∨ (met = false /\ many <= min (js.length - f) n.load.toNat + 1 /\ isv = anyG GG (many - 1)))) (n := js.length + 1) ?_ ?_
  ·refine ⟨_, 1, is0, by omega, by omega, rfl, rfl, rfl, rfl, rfl, rfl, rfl, rfl, rfl, Lex.refl, hkn1, ?_⟩
   cases met with
   | true => exact .inl ⟨rfl, his0.1 rfl, rfl⟩
   | false => exact .inr ⟨rfl, by omega, his0.2 rfl⟩
  ·clear hkn1
   rintro w a' H2 ⟨e, many, isv, rfl, hm1, rfl, e1, e2, e3, e4, e5, e7, e8, e9, lx2, hkn2, hcase⟩
   have hcl : CellsLe H1 H2 := fun b p c t fr h => ⟨p, lx2.keeps h (neM _ _ _ _ _ h)⟩
   have hh2 := hh1.cl hcl
   obtain ⟨q2, ho2⟩ := hres H2 hh2
   simp only [HN.obj] at ho2
   have vh2 := lx2.keeps vh1 (neM _ _ _ _ _ vh1)
   have vm2 := lx2.keeps vm1 (neM _ _ _ _ _ vm1)
   have vc2 := lx2.keeps vc1 (neM _ _ _ _ _ vc1)
   have vf2 := lx2.keeps vf1 (neM _ _ _ _ _ vf1)
   have vsb2 := lx2.keeps vsb (neM _ _ _ _ _ vsb)
   have lx02 := lx1.trans lx2
   rcases hcase with ⟨rfl, rfl, rfl⟩ | ⟨rfl, hmin, rfl⟩
   ·(refine @unH _ ?_; refine zAi y135_88 ?_; (repeat (refine inC ?_; intro hc)); try (refine inK ?_; intro K hK))
    refine wpX_dst1 20 [(true, 0), (true, 1), (true, 2), (true, 3), (true, 4), (true, 5), (true, 6), (true, 7), (true, 8), (true, 9), (true, 10), (true, 11), (true, 12), (true, 13), (true, 14), (true, 15), (true, 16), (true, 17), (true, 18), (true, 19)] (by kernel_rfl) (by kernel_rfl) (by simp) (by kernel_rfl) ?_; intro K hK
    (iterate 3 (refine @unH _ ?_; refine z3i y135_88 ?_))
    (iterate 16 (apply plan_skip rfl (by simp -implicitDefEqProofs (disch := omega) only [wanted_some, yielded_list, ylK_bool, List.getElem?_cons_succ, List.getElem?_cons_zero, Option.bind_some, act_get?, upd_get, Nat.reduceEqDiff, ↓reduceIte, *]; rfl); simp -implicitDefEqProofs (disch := first | omega | (simp only [qd] <;> omega)) only [act_put, act_put_none]))
    (refine @unH _ ?_; refine z3i y135_88 ?_)
    refine plan_nil (hK _ _ ?_)
    clear hK K
    (try simp only [nq, ↓reduceIte, Nat.reduceEqDiff])
    (refine @unH _ ?_; refine zAi y135_88 ?_; (repeat (refine inC ?_; intro hc)); try (refine inK ?_; intro K hK))
    obtain ⟨es2, clock2, hmb2, hmap2⟩ := hkn2
    rw [<- hgk]
    refine updateG (P := Tryz.prog) Tryz.underlying192 key5S (F := goodK n js mi) (spotK b0 b1 b2 b3 f) trivial hmb2 hmap2 _ _ (fun es' clock' hm' => ?_)
    ((try (refine @unH _ ?_; refine zXi y135_88 ?_)); (try (refine hK _ _ ?_; clear hK K; (try simp only [nq, ↓reduceIte, Nat.reduceEqDiff]))); refine @unH _ ?_; refine zAi y135_88 ?_; (repeat (refine inC ?_; intro hc)); try (refine inK ?_; intro K hK))
    (refine @unH _ ?_; refine z9 Tryz.results135 ?_)
    exact ⟨by trivial, lx02.set, _, _, set_at, hm'⟩
   ·(refine @unH _ ?_; refine zAi y135_88 ?_; (repeat (refine inC ?_; intro hc)); try (refine inK ?_; intro K hK))
    refine wpX_dst1 20 [(true, 0), (true, 1), (true, 2), (true, 3), (true, 4), (true, 5), (true, 6), (true, 7), (true, 8), (true, 9), (true, 10), (true, 11), (true, 12), (true, 13), (true, 14), (true, 15), (true, 16), (true, 17), (true, 18), (true, 19)] (by kernel_rfl) (by kernel_rfl) (by simp) (by kernel_rfl) ?_; intro K hK
    (iterate 3 (refine @unH _ ?_; refine z3i y135_88 ?_))
    (iterate 16 (refine @unH _ ?_; refine z6i y135_88 ?_))
    (refine @unH _ ?_; refine z3i y135_88 ?_)
    refine plan_nil (hK _ _ ?_)
    clear hK K
    (try simp only [nq, ↓reduceIte, Nat.reduceEqDiff])
    repeat' (first
 | (refine wpX_stmtL rfl ?_; intro K hK; simp -implicitDefEqProofs (disch := first | omega | (simp only [qd] <;> omega)) only [xq, ↓xp, qc, Nat.reduceAdd, List.range, List.range.loop, fine, Nat.reduceEqDiff, ↓reduceIte, yielded, reduceCtorEq, Nat.reduceLT, Nat.reduceMul, Nat.reduceSub, one, Nat.reduceLeDiff, runX_cons, y135_88, ↓ex_invoke, aq, ↓ap, qe0, qe1, qe2, *, -hK]; try (refine hK _ _ ?_; clear hK K))
 | (refine wpX_lastL rfl ?_; intro K hK; simp -implicitDefEqProofs (disch := first | omega | (simp only [qd] <;> omega)) only [xq, ↓xp, qc, Nat.reduceAdd, List.range, List.range.loop, fine, Nat.reduceEqDiff, ↓reduceIte, yielded, reduceCtorEq, Nat.reduceLT, Nat.reduceMul, Nat.reduceSub, one, Nat.reduceLeDiff, runX_cons, y135_88, ↓ex_invoke, aq, ↓ap, qe0, qe1, qe2, *, -hK]; try (refine hK _ _ ?_; clear hK K; (try simp only [nq, ↓reduceIte, Nat.reduceEqDiff])))
 | (refine wpX_skip ?_; (try simp only [nq, ↓reduceIte, Nat.reduceEqDiff]))
 | (refine wpX_label ?_; (try simp only [nq, ↓reduceIte, Nat.reduceEqDiff]))
 | (refine wpX_exit ?_; (try simp only [nq, ↓reduceIte, Nat.reduceEqDiff]))
 | (refine wpX_goto ?_; (try simp only [nq, ↓reduceIte, Nat.reduceEqDiff]))
 | (refine wpX_condK (by simp only [act_eval, upd_get, Nat.reduceEqDiff, Nat.reduceLT, ↓reduceIte, *]; rfl) ?_ ?_ <;> (intro hc; first | (exfalso; simp -implicitDefEqProofs (disch := omega) only [*, bq, reduceCtorEq] at hc; done) | (simp only [dq, qe3, qe4, qe5, qe6] at hc) | skip))
 | (refine wpX_scope0 ?_)
 | (refine wpX_block ?_)
 | (refine wpX_seq ?_))
    ·have hle : many <= min (js.length - f) n.load.toNat := by split at hc <;> omega
     clear hc
     have hride := ride_spec main H2 hb n v jv js hh2 [b0, b1, b2, b3] rfl (fun x hx => by have := hbnd x hx; omega) f many hm1 (by omega) mi h1' h20
     obtain ⟨hrb, hb2⟩ := ride_bnd n js [b0, b1, b2, b3] f many mi hh2.xb hh2.n0 hh2.b1 hh2.b4 rfl hbnd hm1 h1' h20
     have hGm : SameB (GG (many - 1)) (decide ((rideF n js [b0, b1, b2, b3] f many mi).back - n.due js f <= 0) && goodF n js mi n.load.toNat js.length ([b0, b1, b2, b3].set (pickB [b0, b1, b2, b3] n.barrows.toNat) (rideF n js [b0, b1, b2, b3] f many mi).back) (f + many)) := by
      rw [<- hGG]
      show _ = _
      simp only [nextB, show many - 1 + 1 = many by omega]
     have hl4 : ([b0, b1, b2, b3].set (pickB [b0, b1, b2, b3] n.barrows.toNat) (rideF n js [b0, b1, b2, b3] f many mi).back).length = 4 := by simp
     have hout := fun H' h' => outcome_spec main H' hb n v jv js h' f hflt (rideF n js [b0, b1, b2, b3] f many mi) (by omega)
     generalize [b0, b1, b2, b3].set (pickB [b0, b1, b2, b3] n.barrows.toNat) (rideF n js [b0, b1, b2, b3] f many mi).back = bs2 at *
     generalize rideF n js [b0, b1, b2, b3] f many mi = r at *
     obtain ⟨rb, ro, rk⟩ := r
     obtain ⟨c0, c1, c2, c3, rfl⟩ : ∃ c0 c1 c2 c3, bs2 = [c0, c1, c2, c3] := by
      match bs2, hl4 with
      | [c0, c1, c2, c3], _ => exact ⟨_, _, _, _, rfl⟩
     simp only [RideV.agg, ints, List.map_cons, List.map_nil] at hride hout
     simp only [] at hrb
     clear hl4
     replace hGm : SameB (GG (many - 1)) (decide (rk - n.due js f <= 0) && goodF n js mi n.load.toNat js.length [c0, c1, c2, c3] (f + many)) := hGm
     have hsucc : anyG GG (many + 1 - 1) = (anyG GG (many - 1) || GG (many - 1)) := by rw [<- anyG_succ, show many - 1 + 1 = many + 1 - 1 by omega]
     refine hride.runs.mono ?_
     rintro _ H3 ⟨rfl, lH3⟩
     have hh3 := hh2.le lH3
     have vh3 := lH3 _ _ vh2
     have vm3 := lH3 _ _ vm2
     have vc3 := lH3 _ _ vc2
     have vf3 := lH3 _ _ vf2
     have vsb3 := lH3 _ _ vsb2
     have hkn3 := hkn2.le lH3
     have lx3 := lx2.le lH3
     clear hride vh2 vm2 vc2 vf2 vsb2 ho2 hkn2 lx2 lx02 hh2 hcl
     ((try (refine @unH _ ?_; refine zXi y135_88 ?_)); (try (refine hK _ _ ?_; clear hK K; (try simp only [nq, ↓reduceIte, Nat.reduceEqDiff]))); refine @unH _ ?_; refine zAi y135_88 ?_; (repeat (refine inC ?_; intro hc)); try (refine inK ?_; intro K hK))
     intro tb htb ub hub
     replace hub : (Hp.set H3 tb _) ub = none := hub
     generalize hG : Hp.set H3 tb _ = H4 at hub ⊢
     have lH4 := le_of_set hG htb
     have vtb4 := at_of_set hG
     clear hG
     generalize hG : Hp.set H4 ub _ = H5
     have lH5 := le_of_set hG hub
     have vub5 := at_of_set hG
     clear hG
     have ntu : tb ≠ ub := ne_new vtb4 hub
     have ntu' := ntu.symm
     have vtb5 := lH5 _ _ vtb4
     have l35 := Hp.le_trans lH4 lH5
     have h3tb := htb
     have h3ub : H3 ub = none := Hp.le_none lH4 hub
     have vh5 := l35 _ _ vh3
     have vsb5 := l35 _ _ vsb3
     have nht : hx ≠ tb := ne_new vh3 htb
     have nhu : hx ≠ ub := ne_new vh3 h3ub
     have nst : sb ≠ tb := ne_new vsb3 htb
     have nsu : sb ≠ ub := ne_new vsb3 h3ub
     have h0tb : H1 tb = none := lx3.gone htb
     have h0ub : H1 ub = none := lx3.gone h3ub
     have l37 : H3.le ((H5.set tb (.cells #[.int .i64 rb, .int .i64 ro, .int .i64 rk] 61 (0, 0))).set ub (.cells #[.int .i64 c0, .int .i64 c1, .int .i64 c2, .int .i64 c3] 145 (0, 0))) := (((Lex.of l35 : Lex none H3 H5).own h3tb).own h3ub).toLe
     have vub7 : ((H5.set tb (.cells #[.int .i64 rb, .int .i64 ro, .int .i64 rk] 61 (0, 0))).set ub (.cells #[.int .i64 c0, .int .i64 c1, .int .i64 c2, .int .i64 c3] 145 (0, 0))) ub = _ := set_at
     clear vtb4 lH4 lH5 htb hub l35
     ((try (refine @unH _ ?_; refine zXi y135_88 ?_)); (try (refine hK _ _ ?_; clear hK K; (try simp only [nq, ↓reduceIte, Nat.reduceEqDiff]))); refine @unH _ ?_; refine zAi y135_88 ?_; (repeat (refine inC ?_; intro hc)); try (refine inK ?_; intro K hK))
     generalize (H5.set tb (.cells #[.int .i64 rb, .int .i64 ro, .int .i64 rk] 61 (0, 0))).set ub (.cells #[.int .i64 c0, .int .i64 c1, .int .i64 c2, .int .i64 c3] 145 (0, 0)) = H7 at *
     have hh7 := hh3.le l37
     refine (hout H7 hh7).runs.mono ?_
     rintro _ H8 ⟨rfl, lH8⟩
     have l38 := Hp.le_trans l37 lH8
     have hh8 := hh3.le l38
     have vh8 := l38 _ _ vh3
     have vm8 := l38 _ _ vm3
     have vc8 := l38 _ _ vc3
     have vf8 := l38 _ _ vf3
     have vsb8 := l38 _ _ vsb3
     have vub8 := lH8 _ _ vub7
     have hkn8 := hkn3.le l38
     have lx8 := lx3.le l38
     clear hout hh7 vh3 vm3 vc3 vf3 vsb3 hkn3 lx3 hh3 l37 l38 lH8 vtb5 vub5 vh5 vsb5 vub7 lH3
     by_cases hlate : 0 < rk - n.due js f
     ·rw [show outV (rk - n.due js f) = .iface 199 (.int .i64 (rk - n.due js f)) from if_pos hlate]
      have hGf : GG (many - 1) = false := by
       have := hGm
       rw [decide_eq_false (by omega), Bool.false_and] at this
       exact this
      clear hGm
      generalize rk - n.due js f = z at *
      ((try (refine @unH _ ?_; refine zXi y135_88 ?_)); (try (refine hK _ _ ?_; clear hK K; (try simp only [nq, ↓reduceIte, Nat.reduceEqDiff]))); refine @unH _ ?_; refine zAi y135_88 ?_; (repeat (refine inC ?_; intro hc)); try (refine inK ?_; intro K hK))
      refine (tardy_spec main H8 z).runs.mono ?_
      rintro _ H9 ⟨rfl, hH9⟩
      rw [hH9]; clear hH9 H9
      ((try (refine @unH _ ?_; refine zXi y135_88 ?_)); (try (refine hK _ _ ?_; clear hK K; (try simp only [nq, ↓reduceIte, Nat.reduceEqDiff]))); refine @unH _ ?_; refine zAi y135_88 ?_; (repeat (refine inC ?_; intro hc)); try (refine inK ?_; intro K hK))
      refine ⟨_, by omega, _, many + 1, _, rfl, by omega, rfl, e1, e2, e3, e4, e5, e7, e8, rfl, lx8, hkn8, .inr ⟨by trivial, by omega, ?_⟩⟩
      rw [hsucc, hGf, Bool.or_false]
     ·rw [show outV (rk - n.due js f) = .iface 200 (.agg #[]) from if_neg hlate]
      rw [decide_eq_true (by omega), Bool.true_and] at hGm
      ((try (refine @unH _ ?_; refine zXi y135_88 ?_)); (try (refine hK _ _ ?_; clear hK K; (try simp only [nq, ↓reduceIte, Nat.reduceEqDiff]))); refine @unH _ ?_; refine zAi y135_88 ?_; (repeat (refine inC ?_; intro hc)); try (refine inK ?_; intro K hK))
      refine (timely_spec main H8).runs.mono ?_
      rintro _ H9 ⟨rfl, lH9⟩
      have hh9 := hh8.le lH9
      have vh9 := lH9 _ _ vh8
      have vm9 := lH9 _ _ vm8
      have vc9 := lH9 _ _ vc8
      have vf9 := lH9 _ _ vf8
      have vsb9 := lH9 _ _ vsb8
      have vub9 := lH9 _ _ vub8
      have hkn9 := hkn8.le lH9
      have lx9 := lx8.le lH9
      clear vh8 vm8 vc8 vf8 vsb8 vub8 hkn8 lx8 hh8 lH9
      ((try (refine @unH _ ?_; refine zXi y135_88 ?_)); (try (refine hK _ _ ?_; clear hK K; (try simp only [nq, ↓reduceIte, Nat.reduceEqDiff]))); refine @unH _ ?_; refine zAi y135_88 ?_; (repeat (refine inC ?_; intro hc)); try (refine inK ?_; intro K hK))
      have hsame : GG (many - 1) = goodF n js mi n.load.toNat js.length [c0, c1, c2, c3] (f + many) := hGm
      rw [hsame] at hsucc
      clear hsame hGm
      generalize anyG GG (many - 1) = s at *
      cases s with
      | true =>
       (refine @unH _ ?_; refine zAi y135_88 ?_; (repeat (refine inC ?_; intro hc)); try (refine inK ?_; intro K hK))
       refine ⟨_, by omega, _, many + 1, true, rfl, by omega, rfl, e1, e2, e3, e4, e5, rfl, e8, rfl, lx9, hkn9, .inr ⟨by trivial, by omega, ?_⟩⟩
       rw [hsucc, Bool.true_or]
      | false =>
       have hih := ih c0 c1 c2 c3 (f + many) H9 (by omega) (by omega) (fun x hx => by have := hb2 x hx; omega) hh9 vh9 vm9 vc9 vf9 hkn9
       clear ih
       (refine @unH _ ?_; refine zAi y135_88 ?_; (repeat (refine inC ?_; intro hc)); try (refine inK ?_; intro K hK))
       rw [callF135, uponX_enterK]
       simp only [Array.empty_append, List.append_toArray, List.cons_append, List.nil_append, Array.toList_append]
       rw [show (f : Int) + (many : Int) = ((f + many : Nat) : Int) from (Int.natCast_add f many).symm]
       refine hih.runs.mono ?_
       rintro _ H10 ⟨rfl, lx, hkn10⟩
       clear hih
       generalize goodF n js mi n.load.toNat js.length [c0, c1, c2, c3] (f + many) = g10 at *
       ((try (refine @unH _ ?_; refine zXi y135_88 ?_)); (try (refine hK _ _ ?_; clear hK K; (try simp only [nq, ↓reduceIte, Nat.reduceEqDiff]))); refine @unH _ ?_; refine zAi y135_88 ?_; (repeat (refine inC ?_; intro hc)); try (refine inK ?_; intro K hK))
       (refine @unH _ ?_; refine zAi y135_88 ?_; (repeat (refine inC ?_; intro hc)); try (refine inK ?_; intro K hK))
       refine ⟨_, by omega, _, many + 1, _, rfl, by omega, rfl, e1, e2, e3, e4, e5, rfl, e8, rfl, lx9.trans lx, hkn10, .inr ⟨by trivial, by omega, ?_⟩⟩
       rw [hsucc, Bool.false_or]
    ·obtain ⟨es2, clock2, hmb2, hmap2⟩ := hkn2
     have hmm : many - 1 = min (js.length - f) n.load.toNat := by
      split at hc <;> omega
     have hgd : anyG GG (many - 1) = good := by rw [hmm]; exact hstep.symm
     rw [hgd]
     have hgd2 := hgd
     clear hc
     generalize anyG GG (many - 1) = q0 at *
     subst hgd
     rw [<- hgk]
     refine updateG (P := Tryz.prog) Tryz.underlying192 key5S (F := goodK n js mi) (spotK b0 b1 b2 b3 f) trivial hmb2 hmap2 _ _ (fun es' clock' hm' => ?_)
     ((try (refine @unH _ ?_; refine zXi y135_88 ?_)); (try (refine hK _ _ ?_; clear hK K; (try simp only [nq, ↓reduceIte, Nat.reduceEqDiff]))); refine @unH _ ?_; refine zAi y135_88 ?_; (repeat (refine inC ?_; intro hc)); try (refine inK ?_; intro K hK))
     (refine @unH _ ?_; refine z9 Tryz.results135 ?_)
     exact ⟨by trivial, lx02.set, _, _, set_at, hm'⟩
end Go.Proofs.YtofmadjgbcopdaaGreatDoor
end
section
namespace Go.Proofs.YtofmadjgbcopdaaGreatDoor
open Go Go.X
def y90_89 := And.intro (fun H => ex_alloc (H := H) (P := Tryz.prog) (h := Tryz.zeroValue192)) (And.intro (fun H => storeAt_map (H := H) Tryz.sizeOf192) (And.intro (fun H => ex_alloc (H := H) (P := Tryz.prog) (h := Tryz.zeroValue193)) (And.intro (fun H => storeAt_func (H := H) Tryz.sizeOf193) (And.intro (fun H => storeAt_nilFunc (H := H) Tryz.sizeOf193) (And.intro @callF116 (And.intro @bld_195_0_1_0 (And.intro (fun H => ex_alloc (H := H) (P := Tryz.prog) (h := Tryz.zeroValue195)) (And.intro (fun H => storeAt_agg (H := H) Tryz.sizeOf195) (And.intro (fun H => loadAt_one (H := H) Tryz.underlying193 rfl) (And.intro (fun H => loadAt_aggE (H := H) Tryz.underlying195 rfl Tryz.sizeOf195) (And.intro (fun H => loadAt_one (H := H) Tryz.underlying192 rfl) (And.intro (fun H => fieldAt_eq (H := H) Tryz.underlying195 (i := 0) rfl (off := 0) rfl Tryz.sizeOf145) (fun H => loadAt_aggE (H := H) Tryz.underlying145 rfl Tryz.sizeOf145)))))))))))))
theorem z0_89 {p q : Prop} (g : q) (h : Hid q -> p := by
 intro g
 repeat' (first
 | (refine wpX_stmtL rfl ?_; intro Kz hKz; simp -implicitDefEqProofs (disch := first | omega | (simp only [qd] <;> omega)) only [xq, ↓xp, qc, Nat.reduceAdd, List.range, List.range.loop, fine, Nat.reduceEqDiff, ↓reduceIte, yielded, reduceCtorEq, Nat.reduceLT, Nat.reduceMul, Nat.reduceSub, one, Nat.reduceLeDiff, runX_cons, y90_89, aq, ↓ap, qe0, qe1, qe2, *, -g, -hKz, ex_range, ex_next, ex_entry, bi_delete, bi_clear, bin_neq_arr Tryz.underlying145 Tryz.underlying3 Tryz.sizeOf3]; try (refine hKz _ _ ?_; clear hKz Kz))
 | (refine wpX_lastL rfl ?_; intro Kz hKz; simp -implicitDefEqProofs (disch := first | omega | (simp only [qd] <;> omega)) only [xq, ↓xp, qc, Nat.reduceAdd, List.range, List.range.loop, fine, Nat.reduceEqDiff, ↓reduceIte, yielded, reduceCtorEq, Nat.reduceLT, Nat.reduceMul, Nat.reduceSub, one, Nat.reduceLeDiff, runX_cons, y90_89, aq, ↓ap, qe0, qe1, qe2, *, -g, -hKz, ex_range, ex_next, ex_entry, bi_delete, bi_clear, bin_neq_arr Tryz.underlying145 Tryz.underlying3 Tryz.sizeOf3]; try (refine hKz _ _ ?_; clear hKz Kz; (try simp only [nq, ↓reduceIte, Nat.reduceEqDiff])))
 | (refine wpX_skip ?_; (try simp only [nq, ↓reduceIte, Nat.reduceEqDiff]))
 | (refine wpX_label ?_; (try simp only [nq, ↓reduceIte, Nat.reduceEqDiff]))
 | (refine wpX_exit ?_; (try simp only [nq, ↓reduceIte, Nat.reduceEqDiff]))
 | (refine wpX_goto ?_; (try simp only [nq, ↓reduceIte, Nat.reduceEqDiff]))
 | (refine wpX_condK (by simp only [act_eval, upd_get, Nat.reduceEqDiff, Nat.reduceLT, ↓reduceIte, *, -g]; rfl) ?_ ?_ <;> (intro hcz; first | (exfalso; simp -implicitDefEqProofs (disch := omega) only [*, -g, bq, reduceCtorEq] at hcz; done) | (simp only [dq, qe3, qe4, qe5, qe6] at hcz) | skip))
 | (refine wpX_scope0 ?_)
 | (refine wpX_block ?_)
 | (refine wpX_seq ?_))
 (try (revert Kz; refine unK ?_)); (repeat (revert hcz; refine unC ?_))
 exact Hid.out g) : Hid p := ⟨h ⟨g⟩⟩
theorem x1_89 {p q : Prop} (g : q) (h : Hid q -> p := by
 intro g
 simp -implicitDefEqProofs (disch := first | omega | (simp only [qd] <;> omega)) only [xq, ↓xp, qc, Nat.reduceAdd, List.range, List.range.loop, fine, Nat.reduceEqDiff, ↓reduceIte, yielded, reduceCtorEq, Nat.reduceLT, Nat.reduceMul, Nat.reduceSub, one, Nat.reduceLeDiff, runX_cons, y90_89, aq, ↓ap, qe0, qe1, qe2, *, -g, -hK, ex_range, ex_next, ex_entry, bi_delete, bi_clear, bin_neq_arr Tryz.underlying145 Tryz.underlying3 Tryz.sizeOf3]
 exact Hid.out g) : Hid p := ⟨h ⟨g⟩⟩
theorem z2_89 {p q : Prop} (g : q) (h : Hid q -> p := by
 intro g
 repeat' (first
 | (refine wpX_stmtL rfl ?_; intro Kz hKz; simp -implicitDefEqProofs (disch := first | omega | (simp only [qd] <;> omega)) only [xq, ↓xp, qc, Nat.reduceAdd, List.range, List.range.loop, fine, Nat.reduceEqDiff, ↓reduceIte, yielded, reduceCtorEq, Nat.reduceLT, Nat.reduceMul, Nat.reduceSub, one, Nat.reduceLeDiff, runX_cons, y90_89, aq, ↓ap, qe0, qe1, qe2, *, -g, -hKz, ex_range, ex_next, ex_entry, ex_builtin, bi_delete, bi_clear, bin_neq_arr Tryz.underlying145 Tryz.underlying3 Tryz.sizeOf3]; try (refine hKz _ _ ?_; clear hKz Kz))
 | (refine wpX_lastL rfl ?_; intro Kz hKz; simp -implicitDefEqProofs (disch := first | omega | (simp only [qd] <;> omega)) only [xq, ↓xp, qc, Nat.reduceAdd, List.range, List.range.loop, fine, Nat.reduceEqDiff, ↓reduceIte, yielded, reduceCtorEq, Nat.reduceLT, Nat.reduceMul, Nat.reduceSub, one, Nat.reduceLeDiff, runX_cons, y90_89, aq, ↓ap, qe0, qe1, qe2, *, -g, -hKz, ex_range, ex_next, ex_entry, ex_builtin, bi_delete, bi_clear, bin_neq_arr Tryz.underlying145 Tryz.underlying3 Tryz.sizeOf3]; try (refine hKz _ _ ?_; clear hKz Kz; (try simp only [nq, ↓reduceIte, Nat.reduceEqDiff])))
 | (refine wpX_skip ?_; (try simp only [nq, ↓reduceIte, Nat.reduceEqDiff]))
 | (refine wpX_label ?_; (try simp only [nq, ↓reduceIte, Nat.reduceEqDiff]))
 | (refine wpX_exit ?_; (try simp only [nq, ↓reduceIte, Nat.reduceEqDiff]))
 | (refine wpX_goto ?_; (try simp only [nq, ↓reduceIte, Nat.reduceEqDiff]))
 | (refine wpX_condK (by simp only [act_eval, upd_get, Nat.reduceEqDiff, Nat.reduceLT, ↓reduceIte, *, -g]; rfl) ?_ ?_ <;> (intro hcz; first | (exfalso; simp -implicitDefEqProofs (disch := omega) only [*, -g, bq, reduceCtorEq] at hcz; done) | (simp only [dq, qe3, qe4, qe5, qe6] at hcz) | skip))
 | (refine wpX_scope0 ?_)
 | (refine wpX_block ?_)
 | (refine wpX_seq ?_))
 (try (revert Kz; refine unK ?_)); (repeat (revert hcz; refine unC ?_))
 exact Hid.out g) : Hid p := ⟨h ⟨g⟩⟩
theorem x3_89 {p q : Prop} (g : q) (h : Hid q -> p := by
 intro g
 simp -implicitDefEqProofs (disch := first | omega | (simp only [qd] <;> omega)) only [xq, ↓xp, qc, Nat.reduceAdd, List.range, List.range.loop, fine, Nat.reduceEqDiff, ↓reduceIte, yielded, reduceCtorEq, Nat.reduceLT, Nat.reduceMul, Nat.reduceSub, one, Nat.reduceLeDiff, runX_cons, y90_89, aq, ↓ap, qe0, qe1, qe2, *, -g, -hK, ex_range, ex_next, ex_entry, ex_builtin, bi_delete, bi_clear, bin_neq_arr Tryz.underlying145 Tryz.underlying3 Tryz.sizeOf3]
 exact Hid.out g) : Hid p := ⟨h ⟨g⟩⟩
theorem some_spec (main : Md) (H : Hp) (hb : Nat) (n : HN) (v : HV) (jv : Value) (js : List Int) (hh : HaulAt H hb n v jv js) (l1 : 1 <= n.load) (l3 : n.load <= 3) (mi : Int) (h1' : 1 <= mi) (h20 : mi <= 20) (hN : js.length <= 1000) :
  FnX Tryz.prog main 90 #[.pointer (some ⟨hb, 0, none⟩), .int .i64 mi] H fun e H' => e = .returned (.bool (goodF n js mi n.load.toNat js.length bs0 0)) /\ H.le H' := by
 generalize hg : goodF n js mi n.load.toNat js.length bs0 0 = g
 replace hg : SameB (goodF n js mi n.load.toNat js.length [-1048576, -1048576, -1048576, -1048576] 0) g := hg
 refine FnX_start Tryz.func90 rfl Tryz.ntmps90 (by simp) ?_
 (refine @unH _ ?_; refine zA y90_89 ?_; (repeat (refine inC ?_; intro hc)); try (refine inK ?_; intro K hK))
 intro hx hhx cx hcx
 replace hcx : (Hp.set H hx _) cx = none := hcx
 generalize hG : Hp.set H hx _ = H1 at hcx ⊢
 have lH1 := le_of_set hG hhx
 have vh1 := at_of_set hG
 clear hG
 generalize hG : Hp.set H1 cx _ = H2
 have lH2 := le_of_set hG hcx
 have vc2 := at_of_set hG
 clear hG
 have vh2 := lH2 _ _ vh1
 have l02 := Hp.le_trans lH1 lH2
 clear vh1 hcx hhx
 ((try (refine @unH _ ?_; refine zX y90_89 ?_)); (try (refine hK _ _ ?_; clear hK K; (try simp only [nq, ↓reduceIte, Nat.reduceEqDiff]))); refine @unH _ ?_; refine zA y90_89 ?_; (repeat (refine inC ?_; intro hc)); try (refine inK ?_; intro K hK))
 intro mb hmb mx hmx
 replace hmx : (Hp.set H2 mb _) mx = none := hmx
 have hmb0 : H mb = none := Hp.le_none l02 hmb
 generalize hG : Hp.set H2 mb _ = H3 at hmx ⊢
 have lH3 := le_of_set hG hmb
 have vm3 := at_of_set hG
 clear hG
 generalize hG : Hp.set H3 mx _ = H4
 have lH4 := le_of_set hG hmx
 have vx4 := at_of_set hG
 clear hG
 have vm4 := lH4 _ _ vm3
 have l24 := Hp.le_trans lH3 lH4
 have vh4 := l24 _ _ vh2
 have vc4 := l24 _ _ vc2
 have l04 := Hp.le_trans l02 l24
 clear vm3 hmx hmb lH1 lH2 lH3 lH4 l02 l24 vh2 vc2
 ((try (refine @unH _ ?_; refine zX y90_89 ?_)); (try (refine hK _ _ ?_; clear hK K; (try simp only [nq, ↓reduceIte, Nat.reduceEqDiff]))); refine @unH _ ?_; refine zA y90_89 ?_; (repeat (refine inC ?_; intro hc)); try (refine inK ?_; intro K hK))
 (intro fx hfx; generalize hG : Hp.set _ fx _ = H5; have lH5 := le_of_set hG hfx; have vfx := at_of_set hG; clear hG)
 have vm5 := lH5 _ _ vm4
 have vh5 := lH5 _ _ vh4
 have vc5 := lH5 _ _ vc4
 have vx5 := lH5 _ _ vx4
 have h0fx : H4 fx = none := hfx
 have nfm : fx ≠ mb := (ne_new vm4 hfx).symm
 have nfh : fx ≠ hx := (ne_new vh4 hfx).symm
 have nfc : fx ≠ cx := (ne_new vc4 hfx).symm
 have nfx : fx ≠ mx := (ne_new vx4 hfx).symm
 clear vm4 vh4 vc4 vx4
 ((try (refine @unH _ ?_; refine zX y90_89 ?_)); (try (refine hK _ _ ?_; clear hK K; (try simp only [nq, ↓reduceIte, Nat.reduceEqDiff]))); refine @unH _ ?_; refine zA y90_89 ?_; (repeat (refine inC ?_; intro hc)); try (refine inK ?_; intro K hK))
 refine ⟨by decide, ?_⟩
 rw [show Value.nilFunc.cells.setIfInBounds 0 (.func (.func 135) #[] #[.pointer (some ⟨hx, 0, none⟩), .pointer (some ⟨mx, 0, none⟩), .pointer (some ⟨cx, 0, none⟩), .pointer (some ⟨fx, 0, none⟩)]) = #[.func (.func 135) #[] #[.pointer (some ⟨hx, 0, none⟩), .pointer (some ⟨mx, 0, none⟩), .pointer (some ⟨cx, 0, none⟩), .pointer (some ⟨fx, 0, none⟩)]] from rfl]
 have vf6 : (Hp.set H5 fx (.cells #[.func (.func 135) #[] #[.pointer (some ⟨hx, 0, none⟩), .pointer (some ⟨mx, 0, none⟩), .pointer (some ⟨cx, 0, none⟩), .pointer (some ⟨fx, 0, none⟩)]] 193 (0, 0))) fx = _ := set_at
 have l46 : H4.le (Hp.set H5 fx (.cells #[.func (.func 135) #[] #[.pointer (some ⟨hx, 0, none⟩), .pointer (some ⟨mx, 0, none⟩), .pointer (some ⟨cx, 0, none⟩), .pointer (some ⟨fx, 0, none⟩)]] 193 (0, 0))) := ((Lex.of lH5 : Lex none H4 H5).own h0fx).toLe
 have vm6 : (Hp.set H5 fx (.cells #[.func (.func 135) #[] #[.pointer (some ⟨hx, 0, none⟩), .pointer (some ⟨mx, 0, none⟩), .pointer (some ⟨cx, 0, none⟩), .pointer (some ⟨fx, 0, none⟩)]] 193 (0, 0))) mb = _ := (set_ne nfm.symm).trans vm5
 have vh6 : (Hp.set H5 fx (.cells #[.func (.func 135) #[] #[.pointer (some ⟨hx, 0, none⟩), .pointer (some ⟨mx, 0, none⟩), .pointer (some ⟨cx, 0, none⟩), .pointer (some ⟨fx, 0, none⟩)]] 193 (0, 0))) hx = _ := (set_ne nfh.symm).trans vh5
 have vc6 : (Hp.set H5 fx (.cells #[.func (.func 135) #[] #[.pointer (some ⟨hx, 0, none⟩), .pointer (some ⟨mx, 0, none⟩), .pointer (some ⟨cx, 0, none⟩), .pointer (some ⟨fx, 0, none⟩)]] 193 (0, 0))) cx = _ := (set_ne nfc.symm).trans vc5
 have vx6 : (Hp.set H5 fx (.cells #[.func (.func 135) #[] #[.pointer (some ⟨hx, 0, none⟩), .pointer (some ⟨mx, 0, none⟩), .pointer (some ⟨cx, 0, none⟩), .pointer (some ⟨fx, 0, none⟩)]] 193 (0, 0))) mx = _ := (set_ne nfx.symm).trans vx5
 generalize Hp.set H5 fx (.cells #[.func (.func 135) #[] #[.pointer (some ⟨hx, 0, none⟩), .pointer (some ⟨mx, 0, none⟩), .pointer (some ⟨cx, 0, none⟩), .pointer (some ⟨fx, 0, none⟩)]] 193 (0, 0)) = H6 at *
 have l06 := Hp.le_trans l04 l46
 clear vm5 vh5 vc5 vx5 vfx nfm nfh nfc nfx h0fx hfx lH5 l46 l04
 ((try (refine @unH _ ?_; refine zX y90_89 ?_)); (try (refine hK _ _ ?_; clear hK K; (try simp only [nq, ↓reduceIte, Nat.reduceEqDiff]))); refine @unH _ ?_; refine zA y90_89 ?_; (repeat (refine inC ?_; intro hc)); try (refine inK ?_; intro K hK))
 refine (resting_spec main H6).runs.mono ?_
 rintro _ H7 ⟨rfl, lH7⟩
 have hr4 : ints (List.replicate 4 (-1048576)) = [.int .i64 (-1048576), .int .i64 (-1048576), .int .i64 (-1048576), .int .i64 (-1048576)] := rfl
 rw [hr4]
 clear hr4
 have vm7 := lH7 _ _ vm6
 have vh7 := lH7 _ _ vh6
 have vc7 := lH7 _ _ vc6
 have vx7 := lH7 _ _ vx6
 have vf7 := lH7 _ _ vf6
 have l07 := Hp.le_trans l06 lH7
 clear vm6 vh6 vc6 vx6 vf6 l06 lH7
 ((try (refine @unH _ ?_; refine zX y90_89 ?_)); (try (refine hK _ _ ?_; clear hK K; (try simp only [nq, ↓reduceIte, Nat.reduceEqDiff]))); refine @unH _ ?_; refine zA y90_89 ?_; (repeat (refine inC ?_; intro hc)); try (refine inK ?_; intro K hK))
 (intro yb hyb; generalize hG : Hp.set _ yb _ = H8; have lH8 := le_of_set hG hyb; have vyb := at_of_set hG; clear hG)
 have vm8 := lH8 _ _ vm7
 have vh8 := lH8 _ _ vh7
 have vc8 := lH8 _ _ vc7
 have vx8 := lH8 _ _ vx7
 have vf8 := lH8 _ _ vf7
 have l08 := Hp.le_trans l07 lH8
 have nym : yb ≠ mb := (ne_new vm7 hyb).symm
 have nxm : mx ≠ mb := fun h => by rw [h, vm8] at vx8; cases vx8
 have nfm : fx ≠ mb := fun h => by rw [h, vm8] at vf8; cases vf8
 clear vm7 vh7 vc7 vx7 vf7 l07 lH8 hyb
 have hfrom := someFrom_spec main hb n v jv js l1 l3 mi h1' h20 hx mx cx fx mb hN js.length (-1048576) (-1048576) (-1048576) (-1048576) 0 H8 (by omega) (by omega) (fun x hx => by simp at hx; omega) (hh.le l08) vh8 vx8 vc8 vf8 ⟨#[], 0, vm8, fun e he => by cases he⟩
 rw [show ((0 : Nat) : Int) = 0 from rfl] at hfrom
 rw [show goodF n js mi n.load.toNat js.length [-1048576, -1048576, -1048576, -1048576] 0 = g from hg] at hfrom
 clear hg
 ((try (refine @unH _ ?_; refine zX y90_89 ?_)); (try (refine hK _ _ ?_; clear hK K; (try simp only [nq, ↓reduceIte, Nat.reduceEqDiff]))); refine @unH _ ?_; refine zA y90_89 ?_; (repeat (refine inC ?_; intro hc)); try (refine inK ?_; intro K hK))
 rw [callF135, uponX_enterK]
 simp only [Array.empty_append, List.append_toArray, List.cons_append, List.nil_append, Array.toList_append]
 refine hfrom.runs.mono ?_
 rintro _ H9 ⟨rfl, lx9, hkn9⟩
 clear hfrom vh8 vc8 vm8
 have vx9 := lx9.keeps vx8 nxm
 have vf9 := lx9.keeps vf8 nfm
 have vyb9 := lx9.keeps vyb nym
 have l09 : H.le H9 := fun x u hx => lx9.keeps (l08 _ _ hx) (fun h => by rw [h, hmb0] at hx; cases hx)
 clear lx9 l08 vx8 vf8 vyb
 obtain ⟨es, clock, hmb9, hmap9⟩ := hkn9
 (try (refine @unH _ ?_; refine zX y90_89 ?_))
 refine hK _ _ ?_
 clear hK K
 (refine @unH _ ?_; refine z0_89 ?_; (repeat (refine inC ?_; intro hc)); try (refine inK ?_; intro K hK))
 refine rangeG Tryz.underlying192 hmb9 _ _ (fun rb hrb => ?_)
 have nrm : rb ≠ mb := fun h => by rw [h, hmb9] at hrb; cases hrb
 have nrx : rb ≠ mx := fun h => by rw [h, vx9] at hrb; cases hrb
 have nry : rb ≠ yb := fun h => by rw [h, vyb9] at hrb; cases hrb
 have h0rb : H rb = none := Hp.le_none l09 hrb
 have vm0 : (Hp.set H9 rb (.mapIter (some mb) clock #[] clock)) mb = _ := (set_ne nrm.symm).trans hmb9
 have vx0 : (Hp.set H9 rb (.mapIter (some mb) clock #[] clock)) mx = _ := (set_ne nrx.symm).trans vx9
 have vy0 : (Hp.set H9 rb (.mapIter (some mb) clock #[] clock)) yb = _ := (set_ne nry.symm).trans vyb9
 have vr0 : (Hp.set H9 rb (.mapIter (some mb) clock #[] clock)) rb = _ := set_at
 have l0 : H.le (Hp.set H9 rb (.mapIter (some mb) clock #[] clock)) := ((Lex.of l09 : Lex none H H9).own h0rb).toLe
 generalize Hp.set H9 rb (.mapIter (some mb) clock #[] clock) = H10 at *
 clear hrb hmb9 vx9 vyb9 l09 vf9
 ((try (refine @unH _ ?_; refine x1_89 ?_)); (try (refine hK _ _ ?_; clear hK K; (try simp only [nq, ↓reduceIte, Nat.reduceEqDiff]))); refine @unH _ ?_; refine z0_89 ?_; (repeat (refine inC ?_; intro hc)); try (refine inK ?_; intro K hK))
 refine wpX_loop (fun w a' H' => ∃ e es' seen, w = unseen es' seen /\ a' = act 32 e [] /\ e 5 = .pointer (some ⟨mx, 0, none⟩) /\ e 7 = .pointer (some ⟨yb, 0, none⟩) /\ e 8 = .bool g /\ e 18 = .pointer (some ⟨rb, 0, none⟩) /\
  H.le H' /\ H' mb = some (true, .map es' clock) /\ MapG K5.enc (fun _ => True) (goodK n js mi) clock es'.toList /\ H' rb = some (true, .mapIter (some mb) clock seen clock) /\
  H' mx = some (true, .cells #[.map (some mb)] 192 (0, 0)) /\ H' yb = some (true, .cells #[.int .i64 (-1048576), .int .i64 (-1048576), .int .i64 (-1048576), .int .i64 (-1048576), .int .i64 0] 195 (0, 0))) (n := unseen es #[]) ?_ ?_
 ·exact ⟨_, es, #[], rfl, rfl, rfl, rfl, rfl, rfl, l0, vm0, hmap9, vr0, vx0, vy0⟩
 ·clear l0 vm0 hmap9 vr0 vx0 vy0
  rintro w a' H1 ⟨e, es1, seen, rfl, rfl, e5, e7, e8, e18, l1', vm1, hmap1, vr1, vx1, vy1⟩
  refine wpX_stmtL rfl ?_; intro K hK
  simp -implicitDefEqProofs (disch := first | omega | (simp only [qd] <;> omega)) only [xq, ↓xp, qc, Nat.reduceAdd, List.range, List.range.loop, fine, Nat.reduceEqDiff, ↓reduceIte, yielded, reduceCtorEq, Nat.reduceLT, Nat.reduceMul, Nat.reduceSub, one, Nat.reduceLeDiff, runX_cons, y90_89, aq, ↓ap, qe0, qe1, qe2, *, -hK, ex_range, ex_next, ex_entry, ex_builtin, bi_delete, bi_clear, bin_neq_arr Tryz.underlying145 Tryz.underlying3 Tryz.sizeOf3]
  refine nextG vr1 vm1 hmap1 rfl _ _ ?_ (fun k seen' _ hlt hent => ?_)
  ·((try (refine @unH _ ?_; refine x3_89 ?_)); (try (refine hK _ _ ?_; clear hK K; (try simp only [nq, ↓reduceIte, Nat.reduceEqDiff]))); refine @unH _ ?_; refine z2_89 ?_; (repeat (refine inC ?_; intro hc)); try (refine inK ?_; intro K hK))
   refine clearG (ats := #[192]) Tryz.underlying192 rfl vm1 _ _ ?_
   have l2 : H.le (Hp.set H1 mb (.map #[] clock)) := ((Lex.of l1' : Lex none H H1).own hmb0).toLe
   generalize Hp.set H1 mb (.map #[] clock) = H2 at *
   clear vm1 hmap1 vr1 vx1 vy1 l1'
   ((try (refine @unH _ ?_; refine x3_89 ?_)); (try (refine hK _ _ ?_; clear hK K; (try simp only [nq, ↓reduceIte, Nat.reduceEqDiff]))); refine @unH _ ?_; refine z2_89 ?_; (repeat (refine inC ?_; intro hc)); try (refine inK ?_; intro K hK))
   (refine @unH _ ?_; refine z9 Tryz.results90 ?_)
   exact ⟨by trivial, l2⟩
  ·have vr2 : (Hp.set H1 rb (.mapIter (some mb) clock seen' clock)) rb = _ := set_at
   have vm2 : (Hp.set H1 rb (.mapIter (some mb) clock seen' clock)) mb = _ := (set_ne nrm.symm).trans vm1
   have vx2 : (Hp.set H1 rb (.mapIter (some mb) clock seen' clock)) mx = _ := (set_ne nrx.symm).trans vx1
   have vy2 : (Hp.set H1 rb (.mapIter (some mb) clock seen' clock)) yb = _ := (set_ne nry.symm).trans vy1
   have l2 : H.le (Hp.set H1 rb (.mapIter (some mb) clock seen' clock)) := ((Lex.of l1' : Lex none H H1).own h0rb).toLe
   generalize Hp.set H1 rb (.mapIter (some mb) clock seen' clock) = H2 at *
   clear vm1 vr1 vx1 vy1 l1'
   generalize goodK n js mi k = gv
   generalize K5.enc k = kv
   ((try (refine @unH _ ?_; refine x3_89 ?_)); (try (refine hK _ _ ?_; clear hK K; (try simp only [nq, ↓reduceIte, Nat.reduceEqDiff]))); refine @unH _ ?_; refine z2_89 ?_; (repeat (refine inC ?_; intro hc)); try (refine inK ?_; intro K hK))
   refine entryG vr2 vm2 hmap1 hent _ _ (fun k1 _ => ?_)
   obtain ⟨k0, k1', k2, k3, k4, hk1⟩ := k1.cells
   have he : K5.enc k1 = .agg #[.int .i64 k0, .int .i64 k1', .int .i64 k2, .int .i64 k3, .int .i64 k4] := by simp [K5.enc, hk1]
   have he' : SameV (K5.enc k1) (.agg #[.int .i64 k0, .int .i64 k1', .int .i64 k2, .int .i64 k3, .int .i64 k4]) := he
   rw [he]
   generalize goodK n js mi k1 = gv1
   clear he hk1 hent
   ((try (refine @unH _ ?_; refine x3_89 ?_)); (try (refine hK _ _ ?_; clear hK K; (try simp only [nq, ↓reduceIte, Nat.reduceEqDiff]))); refine @unH _ ?_; refine z2_89 ?_; (repeat (refine inC ?_; intro hc)); try (refine inK ?_; intro K hK))
   (intro ub hub; generalize hG : Hp.set _ ub _ = H3; have lH3 := le_of_set hG hub; have vub := at_of_set hG; clear hG)
   have l3' := Hp.le_trans l2 lH3
   have vm3 := lH3 _ _ vm2
   have vr3 := lH3 _ _ vr2
   have vx3 := lH3 _ _ vx2
   have vy3 := lH3 _ _ vy2
   have h0ub : H ub = none := Hp.le_none l2 hub
   have num : ub ≠ mb := (ne_new vm2 hub).symm
   have nur : ub ≠ rb := (ne_new vr2 hub).symm
   have nux : ub ≠ mx := (ne_new vx2 hub).symm
   have nuy : ub ≠ yb := (ne_new vy2 hub).symm
   clear vm2 vr2 vx2 vy2 hub l2
   (try simp -implicitDefEqProofs (disch := first | omega | (simp only [qd] <;> omega)) only [xq, ↓xp, qc, Nat.reduceAdd, List.range, List.range.loop, fine, Nat.reduceEqDiff, ↓reduceIte, yielded, reduceCtorEq, Nat.reduceLT, Nat.reduceMul, Nat.reduceSub, one, Nat.reduceLeDiff, runX_cons, y90_89, aq, ↓ap, qe0, qe1, qe2, *, -hK, ex_range, ex_next, ex_entry, ex_builtin, bi_delete, bi_clear, bin_neq_arr Tryz.underlying145 Tryz.underlying3 Tryz.sizeOf3]); try (refine hK _ _ ?_; clear hK K; (try simp only [nq, ↓reduceIte, Nat.reduceEqDiff])); repeat' (first
 | (refine wpX_stmtL rfl ?_; intro K hK; simp -implicitDefEqProofs (disch := first | omega | (simp only [qd] <;> omega)) only [xq, ↓xp, qc, Nat.reduceAdd, List.range, List.range.loop, fine, Nat.reduceEqDiff, ↓reduceIte, yielded, reduceCtorEq, Nat.reduceLT, Nat.reduceMul, Nat.reduceSub, one, Nat.reduceLeDiff, runX_cons, y90_89, aq, ↓ap, qe0, qe1, qe2, *, -hK, ex_range, ex_next, ex_entry, ex_builtin, bi_delete, bi_clear, bin_neq_arr Tryz.underlying145 Tryz.underlying3 Tryz.sizeOf3]; try (refine hK _ _ ?_; clear hK K))
 | (refine wpX_lastL rfl ?_; intro K hK; simp -implicitDefEqProofs (disch := first | omega | (simp only [qd] <;> omega)) only [xq, ↓xp, qc, Nat.reduceAdd, List.range, List.range.loop, fine, Nat.reduceEqDiff, ↓reduceIte, yielded, reduceCtorEq, Nat.reduceLT, Nat.reduceMul, Nat.reduceSub, one, Nat.reduceLeDiff, runX_cons, y90_89, aq, ↓ap, qe0, qe1, qe2, *, -hK, ex_range, ex_next, ex_entry, ex_builtin, bi_delete, bi_clear, bin_neq_arr Tryz.underlying145 Tryz.underlying3 Tryz.sizeOf3]; try (refine hK _ _ ?_; clear hK K; (try simp only [nq, ↓reduceIte, Nat.reduceEqDiff])))
 | (refine wpX_skip ?_; (try simp only [nq, ↓reduceIte, Nat.reduceEqDiff]))
 | (refine wpX_label ?_; (try simp only [nq, ↓reduceIte, Nat.reduceEqDiff]))
 | (refine wpX_exit ?_; (try simp only [nq, ↓reduceIte, Nat.reduceEqDiff]))
 | (refine wpX_goto ?_; (try simp only [nq, ↓reduceIte, Nat.reduceEqDiff]))
 | (refine wpX_condK (by simp only [act_eval, upd_get, Nat.reduceEqDiff, Nat.reduceLT, ↓reduceIte, *]; rfl) ?_ ?_ <;> (intro hc; first | (exfalso; simp -implicitDefEqProofs (disch := omega) only [*, bq, reduceCtorEq] at hc; done) | (simp only [dq, qe3, qe4, qe5, qe6] at hc) | skip))
 | (refine wpX_scope0 ?_)
 | (refine wpX_block ?_)
 | (refine wpX_seq ?_))
   ·rw [show (.agg #[.int .i64 k0, .int .i64 k1', .int .i64 k2, .int .i64 k3, .int .i64 k4] : Value) = K5.enc k1 from he'.symm]
    refine deleteG (ats := #[192, 195]) Tryz.underlying192 key5S k1 rfl vm3 hmap1 _ _ (fun es2 hsz hm2 => ?_)
    have nmr : mb ≠ rb := nrm.symm
    have v1 : (Hp.set H3 mb (.map es2 clock)) mb = _ := set_at
    have v2 : (Hp.set H3 mb (.map es2 clock)) rb = _ := (set_ne nrm).trans vr3
    have v3 : (Hp.set H3 mb (.map es2 clock)) mx = _ := (set_ne nxm).trans vx3
    have v4 : (Hp.set H3 mb (.map es2 clock)) yb = _ := (set_ne nym).trans vy3
    have l4 : H.le (Hp.set H3 mb (.map es2 clock)) := ((Lex.of l3' : Lex none H H3).own hmb0).toLe
    generalize Hp.set H3 mb (.map es2 clock) = H4' at *
    have hsz' := hsz seen'
    clear hsz vm3 vr3 vx3 vy3 l3' vub
    ((try (refine @unH _ ?_; refine x3_89 ?_)); (try (refine hK _ _ ?_; clear hK K; (try simp only [nq, ↓reduceIte, Nat.reduceEqDiff]))); refine @unH _ ?_; refine z2_89 ?_; (repeat (refine inC ?_; intro hc)); try (refine inK ?_; intro K hK))
    exact ⟨_, by omega, _, es2, seen', rfl, rfl, e5, e7, e8, e18, l4, v1, hm2, v2, v3, v4⟩
   ·exact ⟨_, hlt, _, es1, seen', rfl, rfl, e5, e7, e8, e18, l3', vm3, hmap1, vr3, vx3, vy3⟩
end Go.Proofs.YtofmadjgbcopdaaGreatDoor
end
section
namespace Go.Proofs.YtofmadjgbcopdaaGreatDoor
open Go Go.X
def y91_90 := @lit_22_1_0_0
def numsL (lo : Int) (k : Nat) : List Int := (List.range k).map fun i : Nat => lo + i
theorem numsL_succ (lo : Int) (k : Nat) : numsL lo (k + 1) = numsL lo k ++ [lo + k] := by simp [numsL, List.range_succ]
theorem numsL_len (lo : Int) (k : Nat) : (numsL lo k).length = k := by simp [numsL]
theorem numbers_spec (main : Md) (H : Hp) (lo hi : Int) (k : Nat) (hk : hi = lo + k - 1) (h0 : 0 <= lo /\ lo <= 100) (hk1 : k <= 100) :
  FnX Tryz.prog main 91 #[.int .i64 lo, .int .i64 hi] H fun e H' => ∃ v, e = .returned v /\ RowX none H H' v 3 (ints (numsL lo k)) := by
 have hd : hi - lo + 1 = k := by omega
 refine FnX_start Tryz.func91 rfl Tryz.ntmps91 (by simp) ?_
 (refine @unH _ ?_; refine zA @y91_90 ?_; (repeat (refine inC ?_; intro hc)); try (refine inK ?_; intro K hK))
 refine wpX_loop (fun w a' H' => ∃ e j lv, w = k - j /\ j <= k /\ a' = act 22 e [] /\ e 0 = .int .i64 lo /\ e 5 = lv /\ e 10 = .int .i64 (k : Nat) /\ e 11 = .int .i64 (j : Nat) /\ RowX none H H' lv 3 (ints (numsL lo j))) (n := k) ?_ ?_
 ·refine ⟨_, 0, .slice none 0 0, rfl, by omega, rfl, rfl, rfl, ?_, rfl, RowX.nil⟩
  show Value.int .i64 _ = _
  congr 1
  omega
 ·rintro w a' H1 ⟨e, j, lv, rfl, hj, rfl, e0, e5, e10, e11, hlv⟩
  obtain ⟨la, lc, rfl⟩ := hlv.len
  by_cases hlt : j < k
  ·(refine @unH _ ?_; refine zA @y91_90 ?_; (repeat (refine inC ?_; intro hc)); try (refine inK ?_; intro K hK))
   intro g hg
   refine append_i hlv hg (by rw [numsL_len]; omega) _ _ _ _ ?_
   intro v' H7 hr7 ho7
   ((try (refine @unH _ ?_; refine zX @y91_90 ?_)); (try (refine hK _ _ ?_; clear hK K; (try simp only [nq, ↓reduceIte, Nat.reduceEqDiff]))); refine @unH _ ?_; refine zA @y91_90 ?_; (repeat (refine inC ?_; intro hc)); try (refine inK ?_; intro K hK))
   exact ⟨_, by omega, _, j + 1, v', rfl, hlt, rfl, e0, rfl, e10, rfl, by rw [numsL_succ]; exact hr7⟩
  ·obtain rfl : j = k := by omega
   (refine @unH _ ?_; refine zA @y91_90 ?_; (repeat (refine inC ?_; intro hc)); try (refine inK ?_; intro K hK))
   (refine @unH _ ?_; refine z9 Tryz.results91 ?_)
   exact ⟨_, rfl, hlv⟩
end Go.Proofs.YtofmadjgbcopdaaGreatDoor
end
section
namespace Go.Proofs.YtofmadjgbcopdaaGreatDoor
open Go Go.X
def y92_91 := And.intro (fun H => len_slice (H := H) Tryz.underlying22) (And.intro (fun H => indexAt_slice (H := H) Tryz.underlying22 Tryz.sizeOf3) (And.intro (fun H => loadAt_one (H := H) Tryz.underlying3 rfl) (fun H => storeAt_int (H := H) Tryz.sizeOf3)))
def RevAt (xs : List Int) (c : Array Value) (i j : Nat) : Prop := ∀ k, k < xs.length -> c[k]? = if k < i ∨ j < k then (ints xs)[xs.length - 1 - k]? else (ints xs)[k]?
theorem rev_step {xs : List Int} {c : Array Value} {i j : Nat} (hr : RevAt xs c i j) (hij : i + j + 1 = xs.length) (hlt : i < j) (hi : i < c.size) (hj : j < c.size) :
  RevAt xs ((c.setIfInBounds i (.int .i64 (xs.getD j 0))).setIfInBounds j (.int .i64 (xs.getD i 0))) (i + 1) (j - 1) := fun k hk => by
 have hg : ∀ k, k < xs.length -> (ints xs)[k]? = some (.int .i64 (xs.getD k 0)) := fun k hk => by simp [ints, List.getD, List.getElem?_eq_getElem hk]
 have hrk := hr k hk
 rw [Array.getElem?_setIfInBounds, Array.getElem?_setIfInBounds]
 by_cases hkj : j = k
 ·subst hkj
  rw [if_pos rfl, if_pos (by simpa using hj), if_pos (by omega), show xs.length - 1 - j = i by omega, hg i (by omega)]
 ·rw [if_neg hkj]
  by_cases hki : i = k
  ·subst hki
   rw [if_pos rfl, if_pos hi, if_pos (by omega), show xs.length - 1 - i = j by omega, hg j (by omega)]
  ·rw [if_neg hki, hrk]
   by_cases h : k < i ∨ j < k
   ·rw [if_pos h, if_pos (by omega)]
   ·rw [if_neg h, if_neg (by omega)]
theorem reverse_spec (main : Md) (H : Hp) (xs : List Int) (b cap : Nat) (c : Array Value) (hb : H b = some (true, .cells c 3 (0, 0))) (hn : 1 <= xs.length) (hl : xs.length <= 1000) (hcs : c.size = cap) (hlc : xs.length <= cap) (hget : ∀ (i : Nat) (u : Value), (ints xs)[i]? = some u -> c[i]? = some u) :
  FnX Tryz.prog main 92 #[.slice (some ⟨b, 0, none⟩) xs.length cap] H fun e H' => e = .returned (.tuple #[]) /\ ∃ c', H' = H.set b (.cells c' 3 (0, 0)) /\ c'.size = cap /\ ∀ (i : Nat) (u : Value), (ints xs.reverse)[i]? = some u -> c'[i]? = some u := by
 have hgi : ∀ k, k < xs.length -> (ints xs)[k]? = some (.int .i64 (xs.getD k 0)) := fun k hk => by simp [ints, List.getD, List.getElem?_eq_getElem hk]
 obtain ⟨n, hxn⟩ : ∃ n, xs.length = n + 1 := ⟨xs.length - 1, by omega⟩
 rw [hxn] at hlc hl ⊢
 have h0 : RevAt xs c 0 n := fun k hk => by
  rw [if_neg (by omega), hgi k hk]
  exact hget k _ (hgi k hk)
 refine FnX_start Tryz.func92 rfl Tryz.ntmps92 (by simp) ?_
 (refine @unH _ ?_; refine zA y92_91 ?_; (repeat (refine inC ?_; intro hc)); try (refine inK ?_; intro K hK))
 refine wpX_loop (fun w a' H' => ∃ e i j c', j = w /\ i + j = n /\ i <= j + 1 /\ a' = act 28 e [] /\ e 0 = .slice (some ⟨b, 0, none⟩) (n + 1) cap /\ e 2 = .int .i64 (i : Nat) /\ e 3 = .int .i64 (j : Nat) /\ H' = H.set b (.cells c' 3 (0, 0)) /\ c'.size = cap /\ RevAt xs c' i j) (n := n) ?_ ?_
 ·refine ⟨_, 0, n, c, rfl, by omega, by omega, rfl, rfl, rfl, ?_, (set_self hb).symm, hcs, h0⟩
  show Value.int .i64 _ = _
  congr 1
  omega
 ·clear h0
  rintro w a' H' ⟨e, i, j, c', rfl, hij, hle, rfl, e0, e2, e3, hH, hcs', hr⟩
  have v1 : (H.set b (.cells c' 3 (0, 0))) b = _ := set_at
  generalize hG : H.set b (.cells c' 3 (0, 0)) = H1 at *
  rw [hH]; clear hH H'
  by_cases hlt : i < j
  ·have hci : c'[i]? = some (.int .i64 (xs.getD i 0)) := by rw [hr i (by omega), if_neg (by omega), hgi i (by omega)]
   have hcj : c'[j]? = some (.int .i64 (xs.getD j 0)) := by rw [hr j (by omega), if_neg (by omega), hgi j (by omega)]
   have hr' : SameP (RevAt xs ((c'.setIfInBounds i (.int .i64 (xs.getD j 0))).setIfInBounds j (.int .i64 (xs.getD i 0))) (i + 1) (j - 1)) := rev_step hr (by omega) hlt (by omega) (by omega)
   generalize xs.getD i 0 = xi at hci hr'
   generalize xs.getD j 0 = xj at hcj hr'
   have htr : True := trivial
   have his : i < c'.size := by omega
   have hjs : j < c'.size := by omega
   clear hb hget hgi hr
   (refine @unH _ ?_; refine zA y92_91 ?_; (repeat (refine inC ?_; intro hc)); try (refine inK ?_; intro K hK))
   refine wpX_tlast (fun _ => True) (.take 0 (.take 1 (.take 2 (.take 3 (.take 4 (.take 5 (.take 6 (.take 8 (.take 9 (.take 10 (.two 7 (.one 11 (.take 12 (.one 13 (.take 14 (.one 15 .nil))))) 11 (.one 7 (.take 12 (.one 13 (.take 14 (.one 15 .nil)))))))))))))))) (by kernel_rfl) (by kernel_rfl) (by decide) (by kernel_rfl) ?_; intro K hK
   (iterate 10 (refine @unH _ ?_; refine z4 y92_91 ?_))
   refine planT_two ?_ ?_
   ·(refine @unH _ ?_; refine zX y92_91 ?_)
    refine planT_one ?_
    (refine @unH _ ?_; refine zX y92_91 ?_)
    (refine @unH _ ?_; refine z4 y92_91 ?_)
    refine planT_one ?_
    (refine @unH _ ?_; refine zX y92_91 ?_)
    (refine @unH _ ?_; refine z4 y92_91 ?_)
    refine planT_one ?_
    (refine @unH _ ?_; refine zX y92_91 ?_)
    refine ⟨by simpa using hjs, ?_⟩
    refine planT_nil (hK _ _ ?_); clear hK K
    (try simp only [nq, ↓reduceIte, Nat.reduceEqDiff])
    (refine @unH _ ?_; refine zA y92_91 ?_; (repeat (refine inC ?_; intro hc)); try (refine inK ?_; intro K hK))
    refine ⟨j - 1, by omega, _, i + 1, j - 1, _, rfl, by omega, by omega, rfl, e0, rfl, ?_, ?_, ?_, hr'⟩
    ·show Value.int .i64 _ = _
     congr 1
     omega
    ·rw [<- hG]
     simp only [set_set]
    ·simpa using hcs'
   ·(refine @unH _ ?_; refine zX y92_91 ?_)
    refine planT_one ?_
    (refine @unH _ ?_; refine zX y92_91 ?_)
    (refine @unH _ ?_; refine z4 y92_91 ?_)
    refine planT_one ?_
    (refine @unH _ ?_; refine zX y92_91 ?_)
    (refine @unH _ ?_; refine z4 y92_91 ?_)
    refine planT_one ?_
    (refine @unH _ ?_; refine zX y92_91 ?_)
    refine ⟨by simpa using hjs, ?_⟩
    refine planT_nil (hK _ _ ?_); clear hK K
    (try simp only [nq, ↓reduceIte, Nat.reduceEqDiff])
    (refine @unH _ ?_; refine zA y92_91 ?_; (repeat (refine inC ?_; intro hc)); try (refine inK ?_; intro K hK))
    refine ⟨j - 1, by omega, _, i + 1, j - 1, _, rfl, by omega, by omega, rfl, e0, rfl, ?_, ?_, ?_, hr'⟩
    ·show Value.int .i64 _ = _
     congr 1
     omega
    ·rw [<- hG]
     simp only [set_set]
    ·simpa using hcs'
  ·(refine @unH _ ?_; refine zA y92_91 ?_; (repeat (refine inC ?_; intro hc)); try (refine inK ?_; intro K hK))
   (refine @unH _ ?_; refine zD Tryz.results92 ?_)
   refine ⟨rfl, c', hG.symm, hcs', fun k u hk => ?_⟩
   have hkl : k < xs.length := by
    have := (List.getElem?_eq_some_iff.1 hk).1
    simpa [ints] using this
   rw [hr k hkl]
   have hrev : (ints xs.reverse)[k]? = (ints xs)[xs.length - 1 - k]? := by
    unfold ints
    rw [List.getElem?_map, List.getElem?_map, List.getElem?_reverse hkl]
   rw [<- hk, hrev]
   split
   ·rfl
   ·rw [show xs.length - 1 - k = k by omega]
end Go.Proofs.YtofmadjgbcopdaaGreatDoor
end
section
namespace Go.Proofs.YtofmadjgbcopdaaGreatDoor
open Go Go.X
def y93_92 := And.intro (fun H => len_slice (H := H) Tryz.underlying22) (And.intro (fun H => indexAt_slice (H := H) Tryz.underlying22 Tryz.sizeOf3) (fun H => loadAt_one (H := H) Tryz.underlying3 rfl))
theorem find_take {p : Int -> Bool} : ∀ (xs : List Int) (j : Nat) (hj : j < xs.length), (∀ x ∈ xs.take j, p x = false) -> p xs[j] = true -> xs.find? p = some xs[j]
 | x :: xs, 0, _, _, h => by
  have h' : p x = true := h
  simp [List.find?_cons, h']
 | x :: xs, j + 1, hj, hf, h => by
  have hx : p x = false := hf x (by simp)
  rw [List.find?_cons, hx]
  exact find_take xs j (by simpa using hj) (fun y hy => hf y (by simp [hy])) h
theorem firstOf_spec (main : Md) (H : Hp) (v : Value) (xs : List Int) (hv : SlI H v xs) (hl : xs.length <= 1000) (sf : Fn) (sc si : Array Value) (p : Int -> Bool)
  (hso : ∀ (H' : Hp) (x : Int), H.le H' -> x ∈ xs -> CallV Tryz.prog main (.func sf sc si) #[.int .i64 x] H' fun e H'' => e = .returned (.bool (p x)) /\ H'.le H'') :
  FnX Tryz.prog main 93 #[v, .func sf sc si] H fun e H' => H.le H' /\ ∃ y is, e = .returned (.tuple #[.int .i64 y, .bool is]) /\ match xs.find? p with
   | some x => y = x /\ is = true
   | none => y = 0 /\ is = false := by
 have hvS := hv
 obtain ⟨va, vc, rfl, hvc, _⟩ := hv
 refine FnX_start Tryz.func93 rfl Tryz.ntmps93 (by simp) ?_
 (refine @unH _ ?_; refine zA y93_92 ?_; (repeat (refine inC ?_; intro hc)); try (refine inK ?_; intro K hK))
 refine wpX_loop (fun w a' H' => ∃ e j, w = xs.length - j /\ j <= xs.length /\ (∀ x ∈ xs.take j, p x = false) /\ a' = act 21 e [] /\ e 1 = .func sf sc si /\ e 9 = .slice va xs.length vc /\ e 10 = .int .i64 xs.length /\ e 11 = .int .i64 (j : Nat) /\ H.le H') (n := xs.length) ?_ ?_
 ·exact ⟨_, 0, rfl, by omega, by simp, rfl, rfl, rfl, rfl, rfl, Hp.le_refl _⟩
 ·rintro w a' H1 ⟨e, j, rfl, hj, hnone, rfl, e1, e9, e10, e11, lH1⟩
  have hv1 := hvS.le lH1
  by_cases hlt : j < xs.length
  ·obtain ⟨b, o, cap', q, c, fr, hve, _, hb', hx⟩ := hv1.cons (fun h => absurd (congrArg List.length h) (by simp only [List.length_nil]; omega))
   cases hve
   have hxj := hx j xs[j] (List.getElem?_eq_getElem hlt)
   have hmem : xs[j] ∈ xs := List.getElem_mem hlt
   have hft : p xs[j] = true -> xs.find? p = some xs[j] := find_take xs j hlt hnone
   have hnext : p xs[j] = false -> ∀ x ∈ xs.take (j + 1), p x = false := fun h x hx' => by
    rw [List.take_add_one, List.getElem?_eq_getElem hlt] at hx'
    rcases List.mem_append.1 hx' with h' | h'
    ·exact hnone x h'
    ·rw [show x = xs[j] by simpa using h']; exact h
   have hcall := hso H1 xs[j] lH1 hmem
   replace hnone : True := trivial
   generalize xs[j] = y at *
   clear hx hnone hmem hso
   have hft' : SameP (p y = true -> xs.find? p = some y) := hft
   have hnext' : SameP (p y = false -> ∀ x ∈ xs.take (j + 1), p x = false) := hnext
   clear hft hnext
   (refine @unH _ ?_; refine zA y93_92 ?_; (repeat (refine inC ?_; intro hc)); try (refine inK ?_; intro K hK))
   refine CallV.use hcall ?_
   rintro _ H2 ⟨rfl, lH2⟩
   have l2 := Hp.le_trans lH1 lH2
   clear hcall
   generalize hpy : p y = q at *
   replace hpy : SameB (p y) q := hpy
   cases q with
   | false =>
    ((try (refine @unH _ ?_; refine zX y93_92 ?_)); (try (refine hK _ _ ?_; clear hK K; (try simp only [nq, ↓reduceIte, Nat.reduceEqDiff]))); refine @unH _ ?_; refine zA y93_92 ?_; (repeat (refine inC ?_; intro hc)); try (refine inK ?_; intro K hK))
    exact ⟨_, by omega, _, j + 1, rfl, hlt, hnext' rfl, rfl, e1, e9, e10, rfl, l2⟩
   | true =>
    ((try (refine @unH _ ?_; refine zX y93_92 ?_)); (try (refine hK _ _ ?_; clear hK K; (try simp only [nq, ↓reduceIte, Nat.reduceEqDiff]))); refine @unH _ ?_; refine zA y93_92 ?_; (repeat (refine inC ?_; intro hc)); try (refine inK ?_; intro K hK))
    (refine @unH _ ?_; refine zB Tryz.results93 ?_)
    exact ⟨l2, _, _, rfl, by rw [show xs.find? p = some y from hft' rfl]; exact ⟨rfl, rfl⟩⟩
  ·obtain rfl : j = xs.length := by omega
   (refine @unH _ ?_; refine zA y93_92 ?_; (repeat (refine inC ?_; intro hc)); try (refine inK ?_; intro K hK))
   (refine @unH _ ?_; refine zB Tryz.results93 ?_)
   have hn : xs.find? p = none := by
    rw [List.find?_eq_none]
    intro x hx
    rw [hnone x (by simpa using hx)]
    simp
   exact ⟨lH1, _, _, rfl, by rw [hn]; exact ⟨rfl, rfl⟩⟩
end Go.Proofs.YtofmadjgbcopdaaGreatDoor
end
section
namespace Go.Proofs.YtofmadjgbcopdaaGreatDoor
open Go Go.X
def y138_93 := And.intro (fun H => fieldAt_eq (H := H) Tryz.underlying29 (i := 6) rfl (off := 9) rfl Tryz.sizeOf3) (And.intro (fun H => storeAt_int (H := H) Tryz.sizeOf3) (And.intro (fun H => fieldAt_eq (H := H) Tryz.underlying29 (i := 4) rfl (off := 7) rfl Tryz.sizeOf3) (And.intro (fun H => fieldAt_eq (H := H) Tryz.underlying29 (i := 2) rfl (off := 5) rfl Tryz.sizeOf3) (And.intro (fun H => loadAt_aggE (H := H) Tryz.underlying29 rfl Tryz.sizeOf29) @callF110))))
def HN.part (n : HN) (p k : Int) : HN := if p = 1 then { n with barrows := k } else if p = 2 then { n with notice := k } else { n with rule := k }
theorem changed_spec (main : Md) (H : Hp) (n : HN) (v : HV) (p k : Int) (hp : p = 1 ∨ p = 2 ∨ p = 3) (hd : HaulIn H (n.part p k) v) :
  FnX Tryz.prog main 138 #[.int .i64 p, n.agg v, .int .i64 k] H fun e H' => ∃ hb jv, e = .returned (.pointer (some ⟨hb, 0, none⟩)) /\ H.le H' /\ H' hb = some (true, (n.part p k).obj v jv) /\ SlI H' jv (n.part p k).jobs := by
 have hnew := fun H' h' => newHaul_spec main H' (n.part p k) v h'
 rcases hp with rfl | rfl | rfl
 ·rw [show n.part 1 k = { n with barrows := k } from rfl] at *
  simp only [HN.agg] at hnew ⊢
  refine FnX_start Tryz.func138 rfl Tryz.ntmps138 (by simp) ?_
  (refine @unH _ ?_; refine zA y138_93 ?_; (repeat (refine inC ?_; intro hc)); try (refine inK ?_; intro K hK))
  (intro ab hab; generalize hG : Hp.set _ ab _ = H1; have lH1 := le_of_set hG hab; have vab := at_of_set hG; clear hG)
  have h0ab := hab
  ((try (refine @unH _ ?_; refine zX y138_93 ?_)); (try (refine hK _ _ ?_; clear hK K; (try simp only [nq, ↓reduceIte, Nat.reduceEqDiff]))); refine @unH _ ?_; refine zA y138_93 ?_; (repeat (refine inC ?_; intro hc)); try (refine inK ?_; intro K hK))
  generalize hG : H1.set ab _ = H2
  have l2 : H.le H2 := hG ▸ ((Lex.of lH1 : Lex none H H1).own h0ab).toLe
  clear hG vab lH1
  refine (hnew H2 (hd.le l2)).runs.mono ?_
  rintro _ H3 ⟨hb, jv, rfl, lH3, vhb, hj⟩
  ((try (refine @unH _ ?_; refine zX y138_93 ?_)); (try (refine hK _ _ ?_; clear hK K; (try simp only [nq, ↓reduceIte, Nat.reduceEqDiff]))); refine @unH _ ?_; refine zA y138_93 ?_; (repeat (refine inC ?_; intro hc)); try (refine inK ?_; intro K hK))
  (refine @unH _ ?_; refine z9 Tryz.results138 ?_)
  exact ⟨hb, jv, rfl, Hp.le_trans l2 lH3, vhb, hj⟩
 ·rw [show n.part 2 k = { n with notice := k } from rfl] at *
  simp only [HN.agg] at hnew ⊢
  refine FnX_start Tryz.func138 rfl Tryz.ntmps138 (by simp) ?_
  (refine @unH _ ?_; refine zA y138_93 ?_; (repeat (refine inC ?_; intro hc)); try (refine inK ?_; intro K hK))
  (intro ab hab; generalize hG : Hp.set _ ab _ = H1; have lH1 := le_of_set hG hab; have vab := at_of_set hG; clear hG)
  have h0ab := hab
  ((try (refine @unH _ ?_; refine zX y138_93 ?_)); (try (refine hK _ _ ?_; clear hK K; (try simp only [nq, ↓reduceIte, Nat.reduceEqDiff]))); refine @unH _ ?_; refine zA y138_93 ?_; (repeat (refine inC ?_; intro hc)); try (refine inK ?_; intro K hK))
  generalize hG : H1.set ab _ = H2
  have l2 : H.le H2 := hG ▸ ((Lex.of lH1 : Lex none H H1).own h0ab).toLe
  clear hG vab lH1
  refine (hnew H2 (hd.le l2)).runs.mono ?_
  rintro _ H3 ⟨hb, jv, rfl, lH3, vhb, hj⟩
  ((try (refine @unH _ ?_; refine zX y138_93 ?_)); (try (refine hK _ _ ?_; clear hK K; (try simp only [nq, ↓reduceIte, Nat.reduceEqDiff]))); refine @unH _ ?_; refine zA y138_93 ?_; (repeat (refine inC ?_; intro hc)); try (refine inK ?_; intro K hK))
  (refine @unH _ ?_; refine z9 Tryz.results138 ?_)
  exact ⟨hb, jv, rfl, Hp.le_trans l2 lH3, vhb, hj⟩
 ·rw [show n.part 3 k = { n with rule := k } from rfl] at *
  simp only [HN.agg] at hnew ⊢
  refine FnX_start Tryz.func138 rfl Tryz.ntmps138 (by simp) ?_
  (refine @unH _ ?_; refine zA y138_93 ?_; (repeat (refine inC ?_; intro hc)); try (refine inK ?_; intro K hK))
  (intro ab hab; generalize hG : Hp.set _ ab _ = H1; have lH1 := le_of_set hG hab; have vab := at_of_set hG; clear hG)
  have h0ab := hab
  ((try (refine @unH _ ?_; refine zX y138_93 ?_)); (try (refine hK _ _ ?_; clear hK K; (try simp only [nq, ↓reduceIte, Nat.reduceEqDiff]))); refine @unH _ ?_; refine zA y138_93 ?_; (repeat (refine inC ?_; intro hc)); try (refine inK ?_; intro K hK))
  generalize hG : H1.set ab _ = H2
  have l2 : H.le H2 := hG ▸ ((Lex.of lH1 : Lex none H H1).own h0ab).toLe
  clear hG vab lH1
  refine (hnew H2 (hd.le l2)).runs.mono ?_
  rintro _ H3 ⟨hb, jv, rfl, lH3, vhb, hj⟩
  ((try (refine @unH _ ?_; refine zX y138_93 ?_)); (try (refine hK _ _ ?_; clear hK K; (try simp only [nq, ↓reduceIte, Nat.reduceEqDiff]))); refine @unH _ ?_; refine zA y138_93 ?_; (repeat (refine inC ?_; intro hc)); try (refine inK ?_; intro K hK))
  (refine @unH _ ?_; refine z9 Tryz.results138 ?_)
  exact ⟨hb, jv, rfl, Hp.le_trans l2 lH3, vhb, hj⟩
end Go.Proofs.YtofmadjgbcopdaaGreatDoor
end
section
namespace Go.Proofs.YtofmadjgbcopdaaGreatDoor
open Go Go.X
def y96_94 := And.intro (fun H => loadAt_aggE (H := H) Tryz.underlying29 rfl Tryz.sizeOf29) (And.intro (fun H => loadAt_one (H := H) Tryz.underlying3 rfl) (And.intro @callF98 @callF93))
def y137_94 := And.intro (fun H => loadAt_one (H := H) Tryz.underlying121 rfl) (And.intro (fun H => loadAt_aggE (H := H) Tryz.underlying29 rfl Tryz.sizeOf29) (And.intro @callF138 (And.intro (fun H => loadAt_one (H := H) Tryz.underlying3 rfl) @callF90)))
theorem nhS_jobs (ts ss start : List Int) : ∀ i, (∀ x ∈ (nhS ts ss start i).2, 0 <= x /\ x < i) /\ (nhS ts ss start i).2.Pairwise (· < ·)
 | 0 => by simp [nhS]
 | i + 1 => by
  obtain ⟨h1, h2⟩ := nhS_jobs ts ss start i
  unfold nhS
  split
  ·exact ⟨fun x hx => by have := h1 x hx; omega, h2⟩
  ·refine ⟨fun x hx => ?_, ?_⟩
   ·rcases List.mem_append.1 hx with h | h
    ·have := h1 x h; omega
    ·have : x = i := by simpa using h
     omega
   ·rw [List.pairwise_append]
    refine ⟨h2, by simp, fun a ha b hb => ?_⟩
    have := h1 a ha
    have : b = i := by simpa using hb
    omega
theorem HaulIn.jobs {H : Hp} {n : HN} {v : HV} (h : HaulIn H n v) : n.jobs.length <= 8 /\ (∀ i ∈ n.jobs, 0 <= i /\ i < n.xs.length) /\ n.jobs.Pairwise (· < ·) := by
 have hx := h.xlen
 have hf := h.day.few
 have ht := h.day.true.1
 have hl := (nhS_len n.ts n.sents n.start n.ts.length).2
 obtain ⟨h1, h2⟩ := nhS_jobs n.ts n.sents n.start n.ts.length
 refine ⟨?_, fun i hi => ?_, h2⟩
 ·show (nhS n.ts n.sents n.start n.ts.length).2.length <= 8
  omega
 ·have := h1 i hi
  omega
def soF (n : HN) (mi p k : Int) : Bool := goodF (n.part p k) (n.part p k).jobs mi (n.part p k).load.toNat (n.part p k).jobs.length bs0 0
theorem leastSo_spec (main : Md) (H : Hp) (n : HN) (v : HV) (p k : Int) (hp : p = 1 ∨ p = 2 ∨ p = 3) (hd : HaulIn H (n.part p k) v) (mi : Int) (h1 : 1 <= mi) (h20 : mi <= 20) (pb ab mb : Nat)
  (vp : H pb = some (true, .cells #[.int .i64 p] 121 (0, 0))) (va : H ab = some (true, .cells #[.int .i64 n.places, .int .i64 n.pieces, v.sv, v.cv, v.tv, .int .i64 n.rule, v.xv, .int .i64 n.notice, .int .i64 n.load, .int .i64 n.barrows, .int .i64 n.lo, .int .i64 n.hi] 29 (0, 0)))
  (vm : H mb = some (true, .cells #[.int .i64 mi] 3 (0, 0))) :
  FnX Tryz.prog main 137 #[.int .i64 k, .pointer (some ⟨pb, 0, none⟩), .pointer (some ⟨ab, 0, none⟩), .pointer (some ⟨mb, 0, none⟩)] H fun e H' => e = .returned (.bool (soF n mi p k)) /\ H.le H' := by
 have hch := changed_spec main H n v p k hp hd
 simp only [HN.agg] at hch
 refine FnX_start Tryz.func137 rfl Tryz.ntmps137 (by simp) ?_
 (refine @unH _ ?_; refine zA y137_94 ?_; (repeat (refine inC ?_; intro hc)); try (refine inK ?_; intro K hK))
 refine wpX_dlast (fun HX => HX pb = some (true, .cells #[.int .i64 p] 121 (0, 0)) /\ HX ab = some (true, .cells #[.int .i64 n.places, .int .i64 n.pieces, v.sv, v.cv, v.tv, .int .i64 n.rule, v.xv, .int .i64 n.notice, .int .i64 n.load, .int .i64 n.barrows, .int .i64 n.lo, .int .i64 n.hi] 29 (0, 0)) /\ HX mb = some (true, .cells #[.int .i64 mi] 3 (0, 0))) 7 [(true, 0), (true, 1), (true, 2), (true, 4), (false, 3), (false, 5), (true, 6)] (by kernel_rfl) (by kernel_rfl) (by simp) (by kernel_rfl) ?_; intro K hK
 (iterate 4 (apply plan_takeS rfl rfl rfl (⟨vp, va, vm⟩); (focus (intro HX hHX; have hX1 := hHX.1; have hX2 := hHX.2; clear hHX; simp -implicitDefEqProofs (disch := first | omega | (simp only [qd] <;> omega)) only [xq, ↓xp, qc, Nat.reduceAdd, List.range, List.range.loop, fine, Nat.reduceEqDiff, ↓reduceIte, yielded, reduceCtorEq, Nat.reduceLT, Nat.reduceMul, Nat.reduceSub, one, Nat.reduceLeDiff, runX_cons, y137_94, aq, ↓ap, qe0, qe1, qe2, *, -hK, YN_value] <;> (first | exact rfl | exact ⟨rfl, rfl⟩ | exact ⟨rfl, trivial⟩))); simp -implicitDefEqProofs (disch := first | omega | (simp only [qd] <;> omega)) only [act_put, act_put_none]))
 refine planX_act ?_
 (refine @unH _ ?_; refine zX y137_94 ?_)
 refine hch.runs.mono ?_
 rintro _ H1 ⟨hb, jv, rfl, lH1, vhb, hj⟩
 have vp1 := lH1 _ _ vp
 have va1 := lH1 _ _ va
 have vm1 := lH1 _ _ vm
 obtain ⟨j8, jb, _⟩ := hd.jobs
 have hat := hd.at lH1 vhb hj jb (by omega)
 have hl1 := hd.l1
 have hl3 := hd.l3
 clear hch vp va vm vhb hj
 (refine @unH _ ?_; refine zX (And.intro y137_94 @onEnd_ret) ?_)
 refine ⟨.inr trivial, ?_⟩
 refine planX_act ?_
 (refine @unH _ ?_; refine zX y137_94 ?_)
 refine (some_spec main H1 hb _ v jv _ hat hl1 hl3 mi h1 h20 (by omega)).runs.mono ?_
 rintro _ H2 ⟨rfl, lH2⟩
 have vp2 := lH2 _ _ vp1
 have va2 := lH2 _ _ va1
 have vm2 := lH2 _ _ vm1
 have l12 := Hp.le_trans lH1 lH2
 rw [show goodF (n.part p k) (n.part p k).jobs mi (n.part p k).load.toNat (n.part p k).jobs.length bs0 0 = soF n mi p k from rfl]
 clear vp1 va1 vm1 hat hd
 (refine @unH _ ?_; refine zX (And.intro y137_94 @onEnd_ret) ?_)
 refine ⟨.inr trivial, ?_⟩
 (apply plan_takeS rfl rfl rfl (⟨vp2, va2, vm2⟩); (focus (intro HX hHX; have hX1 := hHX.1; have hX2 := hHX.2; clear hHX; simp -implicitDefEqProofs (disch := first | omega | (simp only [qd] <;> omega)) only [xq, ↓xp, qc, Nat.reduceAdd, List.range, List.range.loop, fine, Nat.reduceEqDiff, ↓reduceIte, yielded, reduceCtorEq, Nat.reduceLT, Nat.reduceMul, Nat.reduceSub, one, Nat.reduceLeDiff, runX_cons, y137_94, aq, ↓ap, qe0, qe1, qe2, *, -hK, YN_value] <;> (first | exact rfl | exact ⟨rfl, rfl⟩ | exact ⟨rfl, trivial⟩))); simp -implicitDefEqProofs (disch := first | omega | (simp only [qd] <;> omega)) only [act_put, act_put_none])
 refine plan_nil (hK _ _ ?_)
 clear hK K
 (refine @unH _ ?_; refine z9 Tryz.results137 ?_)
 exact ⟨by trivial, l12⟩
theorem least_spec (main : Md) (H : Hp) (n : HN) (v : HV) (hd : HaulIn H n v) (p : Int) (hp : p = 1 ∨ p = 2 ∨ p = 3) (lv : Value) (ls : List Int) (hlv : SlI H lv ls) (hll : ls.length <= 1000) (hok : ∀ k ∈ ls, ∀ H', HaulIn H' n v -> HaulIn H' (n.part p k) v) (mi : Int) (h1 : 1 <= mi) (h20 : mi <= 20) :
  FnX Tryz.prog main 96 #[n.agg v, .int .i64 p, lv, .int .i64 mi] H fun e H' => H.le H' /\ ∃ y c, e = .returned (.tuple #[.int .i64 y, .int .i64 c]) /\ match ls.find? (soF n mi p) with
   | some x => y = x /\ c = 0
   | none => y = 0 /\ c = 11 := by
 have hdr := fun H' h => driving_spec main H' n v h mi h1 h20
 have hso := fun H' k pb ab mb hd' => leastSo_spec main H' n v p k hp hd' mi h1 h20 pb ab mb
 simp only [HN.agg] at hdr ⊢
 refine FnX_start Tryz.func96 rfl Tryz.ntmps96 (by simp) ?_
 (refine @unH _ ?_; refine zA y96_94 ?_; (repeat (refine inC ?_; intro hc)); try (refine inK ?_; intro K hK))
 intro ab hab pb hpb mb hmb
 replace hpb : (Hp.set H ab _) pb = none := hpb
 replace hmb : (Hp.set (Hp.set H ab _) pb _) mb = none := hmb
 generalize hG : Hp.set H ab _ = H1 at hpb hmb ⊢
 have lH1 := le_of_set hG hab
 have vab := at_of_set hG
 clear hG
 generalize hG : Hp.set H1 pb _ = H2 at hmb ⊢
 have lH2 := le_of_set hG hpb
 have vpb := at_of_set hG
 clear hG
 generalize hG : Hp.set H2 mb _ = H3
 have lH3 := le_of_set hG hmb
 have vmb := at_of_set hG
 clear hG
 have l23 := Hp.le_trans lH2 lH3
 have l13 := Hp.le_trans lH1 l23
 have vab3 := l23 _ _ vab
 have vpb3 := lH3 _ _ vpb
 have hd3 := hd.le l13
 have hlv3 := hlv.le l13
 clear lH1 lH2 lH3 vab vpb l23 hab hpb hmb hlv
 ((try (refine @unH _ ?_; refine zX y96_94 ?_)); (try (refine hK _ _ ?_; clear hK K; (try simp only [nq, ↓reduceIte, Nat.reduceEqDiff]))); refine @unH _ ?_; refine zA y96_94 ?_; (repeat (refine inC ?_; intro hc)); try (refine inK ?_; intro K hK))
 refine (hdr H3 hd3).runs.mono ?_
 rintro _ H4 ⟨hb, jv, rfl, lH4, _, _⟩
 have vab4 := lH4 _ _ vab3
 have vpb4 := lH4 _ _ vpb3
 have vmb4 := lH4 _ _ vmb
 have hd4 := hd3.le lH4
 have hlv4 := hlv3.le lH4
 have l14 := Hp.le_trans l13 lH4
 clear vab3 vpb3 vmb hd3 hlv3 lH4 l13 hdr
 ((try (refine @unH _ ?_; refine zX y96_94 ?_)); (try (refine hK _ _ ?_; clear hK K; (try simp only [nq, ↓reduceIte, Nat.reduceEqDiff]))); refine @unH _ ?_; refine zA y96_94 ?_; (repeat (refine inC ?_; intro hc)); try (refine inK ?_; intro K hK))
 have hfo := firstOf_spec main H4 lv ls hlv4 hll (.func 137) #[] #[.pointer (some ⟨pb, 0, none⟩), .pointer (some ⟨ab, 0, none⟩), .pointer (some ⟨mb, 0, none⟩)] (soF n mi p) (fun H' k hl hk => by
  refine CallV.of_fn (fun _ _ _ _ => callF137 _ _ _) ?_
  exact hso H' k pb ab mb (hok k hk H' (hd4.le hl)) (hl _ _ vpb4) (hl _ _ vab4) (hl _ _ vmb4))
 refine hfo.runs.mono ?_
 rintro _ H5 ⟨lH5, y, is, rfl, hres⟩
 have l15 := Hp.le_trans l14 lH5
 clear hfo hso
 cases hpf : ls.find? (soF n mi p) with
 | none =>
  rw [hpf] at hres
  obtain ⟨rfl, rfl⟩ := hres
  ((try (refine @unH _ ?_; refine zX y96_94 ?_)); (try (refine hK _ _ ?_; clear hK K; (try simp only [nq, ↓reduceIte, Nat.reduceEqDiff]))); refine @unH _ ?_; refine zA y96_94 ?_; (repeat (refine inC ?_; intro hc)); try (refine inK ?_; intro K hK))
  (refine @unH _ ?_; refine zB Tryz.results96 ?_)
  exact ⟨l15, _, _, rfl, by rw [hpf]; exact ⟨rfl, rfl⟩⟩
 | some x =>
  rw [hpf] at hres
  obtain ⟨rfl, rfl⟩ := hres
  ((try (refine @unH _ ?_; refine zX y96_94 ?_)); (try (refine hK _ _ ?_; clear hK K; (try simp only [nq, ↓reduceIte, Nat.reduceEqDiff]))); refine @unH _ ?_; refine zA y96_94 ?_; (repeat (refine inC ?_; intro hc)); try (refine inK ?_; intro K hK))
  (refine @unH _ ?_; refine zB Tryz.results96 ?_)
  exact ⟨l15, _, _, rfl, by rw [hpf]; exact ⟨rfl, rfl⟩⟩
end Go.Proofs.YtofmadjgbcopdaaGreatDoor
end
section
namespace Go.Proofs.YtofmadjgbcopdaaGreatDoor
open Go Go.X
def y47_95 := And.intro (fun H => loadAt_aggE (H := H) Tryz.underlying29 rfl Tryz.sizeOf29) (And.intro @callF91 @callF96)
def y49_95 := And.intro (fun H => loadAt_aggE (H := H) Tryz.underlying29 rfl Tryz.sizeOf29) (And.intro @callF91 @callF96)
def y51_95 := And.intro (fun H => loadAt_aggE (H := H) Tryz.underlying29 rfl Tryz.sizeOf29) (And.intro @callF91 @callF96)
theorem fewest_spec (main : Md) (H : Hp) (n : HN) (v : HV) (hd : HaulIn H n v) (mi : Int) (h1 : 1 <= mi) (h20 : mi <= 20) :
  FnX Tryz.prog main 47 #[n.agg v, .int .i64 mi] H fun e H' => H.le H' /\ ∃ y c, e = .returned (.tuple #[.int .i64 y, .int .i64 c]) /\ match (numsL 1 4).find? (soF n mi 1) with
   | some x => y = x /\ c = 0
   | none => y = 0 /\ c = 11 := by
 have hle := fun H' lv (hd' : HaulIn H' n v) hlv => least_spec main H' n v hd' 1 (by omega) lv (numsL 1 4) hlv (by rw [numsL_len]; omega) (fun k hk H' h => by
  have hk' : 1 <= k /\ k <= 4 := by
   obtain ⟨i, hi, rfl⟩ := List.mem_map.1 hk
   have := List.mem_range.1 hi
   omega
  exact { h with b1 := hk'.1, b4 := hk'.2 }) mi h1 h20
 simp only [HN.agg] at hle ⊢
 have hnum := fun H' => numbers_spec main H' 1 4 4 (by omega) (by omega) (by omega)
 generalize numsL 1 4 = ls at hle hnum ⊢
 refine FnX_start Tryz.func47 rfl Tryz.ntmps47 (by simp) ?_
 (refine @unH _ ?_; refine zA y47_95 ?_; (repeat (refine inC ?_; intro hc)); try (refine inK ?_; intro K hK))
 (intro ab hab; generalize hG : Hp.set _ ab _ = H1; have lH1 := le_of_set hG hab; have vab := at_of_set hG; clear hG)
 have hd1 := hd.le lH1
 ((try (refine @unH _ ?_; refine zX y47_95 ?_)); (try (refine hK _ _ ?_; clear hK K; (try simp only [nq, ↓reduceIte, Nat.reduceEqDiff]))); refine @unH _ ?_; refine zA y47_95 ?_; (repeat (refine inC ?_; intro hc)); try (refine inK ?_; intro K hK))
 refine wpX_dlast (fun HX => HX ab = some (true, .cells #[.int .i64 n.places, .int .i64 n.pieces, v.sv, v.cv, v.tv, .int .i64 n.rule, v.xv, .int .i64 n.notice, .int .i64 n.load, .int .i64 n.barrows, .int .i64 n.lo, .int .i64 n.hi] 29 (0, 0))) 8 [(true, 0), (true, 2), (false, 1), (false, 3), (true, 4), (true, 5), (true, 6), (true, 7)] (by kernel_rfl) (by kernel_rfl) (by simp) (by kernel_rfl) ?_; intro K hK
 (iterate 2 (refine @unH _ ?_; refine z5 y47_95 ?_))
 refine planX_act ?_
 (refine @unH _ ?_; refine zX y47_95 ?_)
 refine (hnum H1).runs.mono ?_
 rintro _ H2 ⟨lv, rfl, hrow⟩
 have lH2 := hrow.1.toLe
 have vab2 := lH2 _ _ vab
 have hd2 := hd1.le lH2
 have hsl := hrow.ints
 have l12 := Hp.le_trans lH1 lH2
 clear hnum hrow vab hd1 lH1 lH2
 obtain ⟨la, ln, lc, rfl⟩ := hsl.isSlice
 (refine @unH _ ?_; refine zX (And.intro y47_95 @onEnd_ret) ?_)
 refine ⟨.inr trivial, ?_⟩
 refine planX_act ?_
 (refine @unH _ ?_; refine zX y47_95 ?_)
 refine (hle H2 _ hd2 hsl).runs.mono ?_
 rintro _ H3 ⟨lH3, y, c, rfl, hres⟩
 have vab3 := lH3 _ _ vab2
 have l13 := Hp.le_trans l12 lH3
 clear hle hsl vab2 hd2
 (refine @unH _ ?_; refine zX (And.intro y47_95 @onEnd_ret) ?_)
 refine ⟨.inr trivial, ?_⟩
 (iterate 4 (refine @unH _ ?_; refine z5 y47_95 ?_))
 refine plan_nil (hK _ _ ?_)
 clear hK K
 (refine @unH _ ?_; refine zA y47_95 ?_; (repeat (refine inC ?_; intro hc)); try (refine inK ?_; intro K hK))
 (refine @unH _ ?_; refine zB Tryz.results47 ?_)
 exact ⟨l13, _, _, rfl, hres⟩
theorem notice_spec (main : Md) (H : Hp) (n : HN) (v : HV) (hd : HaulIn H n v) (mi : Int) (h1 : 1 <= mi) (h20 : mi <= 20) :
  FnX Tryz.prog main 49 #[n.agg v, .int .i64 mi] H fun e H' => H.le H' /\ ∃ y c, e = .returned (.tuple #[.int .i64 y, .int .i64 c]) /\ match (numsL 0 31).find? (soF n mi 2) with
   | some x => y = x /\ c = 0
   | none => y = 0 /\ c = 11 := by
 have hle := fun H' lv (hd' : HaulIn H' n v) hlv => least_spec main H' n v hd' 2 (by omega) lv (numsL 0 31) hlv (by rw [numsL_len]; omega) (fun k hk H' h => by
  have hk' : 0 <= k /\ k <= 30 := by
   obtain ⟨i, hi, rfl⟩ := List.mem_map.1 hk
   have := List.mem_range.1 hi
   omega
  exact { h with n0 := hk'.1, n30 := hk'.2 }) mi h1 h20
 simp only [HN.agg] at hle ⊢
 have hnum := fun H' => numbers_spec main H' 0 30 31 (by omega) (by omega) (by omega)
 generalize numsL 0 31 = ls at hle hnum ⊢
 refine FnX_start Tryz.func49 rfl Tryz.ntmps49 (by simp) ?_
 (refine @unH _ ?_; refine zA y49_95 ?_; (repeat (refine inC ?_; intro hc)); try (refine inK ?_; intro K hK))
 (intro ab hab; generalize hG : Hp.set _ ab _ = H1; have lH1 := le_of_set hG hab; have vab := at_of_set hG; clear hG)
 have hd1 := hd.le lH1
 ((try (refine @unH _ ?_; refine zX y49_95 ?_)); (try (refine hK _ _ ?_; clear hK K; (try simp only [nq, ↓reduceIte, Nat.reduceEqDiff]))); refine @unH _ ?_; refine zA y49_95 ?_; (repeat (refine inC ?_; intro hc)); try (refine inK ?_; intro K hK))
 refine wpX_dlast (fun HX => HX ab = some (true, .cells #[.int .i64 n.places, .int .i64 n.pieces, v.sv, v.cv, v.tv, .int .i64 n.rule, v.xv, .int .i64 n.notice, .int .i64 n.load, .int .i64 n.barrows, .int .i64 n.lo, .int .i64 n.hi] 29 (0, 0))) 8 [(true, 0), (true, 2), (false, 1), (false, 3), (true, 4), (true, 5), (true, 6), (true, 7)] (by kernel_rfl) (by kernel_rfl) (by simp) (by kernel_rfl) ?_; intro K hK
 (iterate 2 (refine @unH _ ?_; refine z5 y49_95 ?_))
 refine planX_act ?_
 (refine @unH _ ?_; refine zX y49_95 ?_)
 refine (hnum H1).runs.mono ?_
 rintro _ H2 ⟨lv, rfl, hrow⟩
 have lH2 := hrow.1.toLe
 have vab2 := lH2 _ _ vab
 have hd2 := hd1.le lH2
 have hsl := hrow.ints
 have l12 := Hp.le_trans lH1 lH2
 clear hnum hrow vab hd1 lH1 lH2
 obtain ⟨la, ln, lc, rfl⟩ := hsl.isSlice
 (refine @unH _ ?_; refine zX (And.intro y49_95 @onEnd_ret) ?_)
 refine ⟨.inr trivial, ?_⟩
 refine planX_act ?_
 (refine @unH _ ?_; refine zX y49_95 ?_)
 refine (hle H2 _ hd2 hsl).runs.mono ?_
 rintro _ H3 ⟨lH3, y, c, rfl, hres⟩
 have vab3 := lH3 _ _ vab2
 have l13 := Hp.le_trans l12 lH3
 clear hle hsl vab2 hd2
 (refine @unH _ ?_; refine zX (And.intro y49_95 @onEnd_ret) ?_)
 refine ⟨.inr trivial, ?_⟩
 (iterate 4 (refine @unH _ ?_; refine z5 y49_95 ?_))
 refine plan_nil (hK _ _ ?_)
 clear hK K
 (refine @unH _ ?_; refine zA y49_95 ?_; (repeat (refine inC ?_; intro hc)); try (refine inK ?_; intro K hK))
 (refine @unH _ ?_; refine zB Tryz.results49 ?_)
 exact ⟨l13, _, _, rfl, hres⟩
theorem rule_spec (main : Md) (H : Hp) (n : HN) (v : HV) (hd : HaulIn H n v) (mi : Int) (h1 : 1 <= mi) (h20 : mi <= 20) :
  FnX Tryz.prog main 51 #[n.agg v, .int .i64 mi] H fun e H' => H.le H' /\ ∃ y c, e = .returned (.tuple #[.int .i64 y, .int .i64 c]) /\ match (numsL 0 4).find? (soF n mi 3) with
   | some x => y = x /\ c = 0
   | none => y = 0 /\ c = 11 := by
 have hle := fun H' lv (hd' : HaulIn H' n v) hlv => least_spec main H' n v hd' 3 (by omega) lv (numsL 0 4) hlv (by rw [numsL_len]; omega) (fun k hk H' h => by
  have hk' : 0 <= k /\ k <= 3 := by
   obtain ⟨i, hi, rfl⟩ := List.mem_map.1 hk
   have := List.mem_range.1 hi
   omega
  exact { h with r0 := hk'.1, r3 := hk'.2 }) mi h1 h20
 simp only [HN.agg] at hle ⊢
 have hnum := fun H' => numbers_spec main H' 0 3 4 (by omega) (by omega) (by omega)
 generalize numsL 0 4 = ls at hle hnum ⊢
 refine FnX_start Tryz.func51 rfl Tryz.ntmps51 (by simp) ?_
 (refine @unH _ ?_; refine zA y51_95 ?_; (repeat (refine inC ?_; intro hc)); try (refine inK ?_; intro K hK))
 (intro ab hab; generalize hG : Hp.set _ ab _ = H1; have lH1 := le_of_set hG hab; have vab := at_of_set hG; clear hG)
 have hd1 := hd.le lH1
 ((try (refine @unH _ ?_; refine zX y51_95 ?_)); (try (refine hK _ _ ?_; clear hK K; (try simp only [nq, ↓reduceIte, Nat.reduceEqDiff]))); refine @unH _ ?_; refine zA y51_95 ?_; (repeat (refine inC ?_; intro hc)); try (refine inK ?_; intro K hK))
 refine wpX_dlast (fun HX => HX ab = some (true, .cells #[.int .i64 n.places, .int .i64 n.pieces, v.sv, v.cv, v.tv, .int .i64 n.rule, v.xv, .int .i64 n.notice, .int .i64 n.load, .int .i64 n.barrows, .int .i64 n.lo, .int .i64 n.hi] 29 (0, 0))) 8 [(true, 0), (true, 2), (false, 1), (false, 3), (true, 4), (true, 5), (true, 6), (true, 7)] (by kernel_rfl) (by kernel_rfl) (by simp) (by kernel_rfl) ?_; intro K hK
 (iterate 2 (refine @unH _ ?_; refine z5 y51_95 ?_))
 refine planX_act ?_
 (refine @unH _ ?_; refine zX y51_95 ?_)
 refine (hnum H1).runs.mono ?_
 rintro _ H2 ⟨lv, rfl, hrow⟩
 have lH2 := hrow.1.toLe
 have vab2 := lH2 _ _ vab
 have hd2 := hd1.le lH2
 have hsl := hrow.ints
 have l12 := Hp.le_trans lH1 lH2
 clear hnum hrow vab hd1 lH1 lH2
 obtain ⟨la, ln, lc, rfl⟩ := hsl.isSlice
 (refine @unH _ ?_; refine zX (And.intro y51_95 @onEnd_ret) ?_)
 refine ⟨.inr trivial, ?_⟩
 refine planX_act ?_
 (refine @unH _ ?_; refine zX y51_95 ?_)
 refine (hle H2 _ hd2 hsl).runs.mono ?_
 rintro _ H3 ⟨lH3, y, c, rfl, hres⟩
 have vab3 := lH3 _ _ vab2
 have l13 := Hp.le_trans l12 lH3
 clear hle hsl vab2 hd2
 (refine @unH _ ?_; refine zX (And.intro y51_95 @onEnd_ret) ?_)
 refine ⟨.inr trivial, ?_⟩
 (iterate 4 (refine @unH _ ?_; refine z5 y51_95 ?_))
 refine plan_nil (hK _ _ ?_)
 clear hK K
 (refine @unH _ ?_; refine zA y51_95 ?_; (repeat (refine inC ?_; intro hc)); try (refine inK ?_; intro K hK))
 (refine @unH _ ?_; refine zB Tryz.results51 ?_)
 exact ⟨l13, _, _, rfl, hres⟩
end Go.Proofs.YtofmadjgbcopdaaGreatDoor
end
