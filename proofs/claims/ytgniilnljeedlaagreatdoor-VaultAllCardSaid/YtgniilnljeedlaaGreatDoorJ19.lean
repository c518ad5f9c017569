/- Texts VCount VSent VTruths. -/
import Derived.Test.YtgniilnljeedlaaGreatDoorJ18
set_option linter.defProp false
set_option linter.unusedSimpArgs false
set_option linter.unusedVariables false
set_option maxRecDepth 100000
set_option maxHeartbeats 2000000
section
namespace Go.Proofs.YtgniilnljeedlaaGreatDoor
open Go Go.X
def Awm := And.intro (fun H => Aqx (H := H) Tryz.underlying25 rfl Tryz.sizeOf25) (And.intro @Bxr (And.intro (fun H => Aq1 (H := H) (P := Tryz.prog) (h := Tryz.zeroValue3)) (And.intro (fun H => Axo (H := H) Tryz.sizeOf3) (And.intro @By6 (fun H => Aqd (H := H) Tryz.underlying3 rfl)))))
def Bqs := And.intro (fun H => Aq1 (H := H) (P := Tryz.prog) (h := Tryz.zeroValue85)) (And.intro (fun H => Aq1 (H := H) (P := Tryz.prog) (h := Tryz.zeroValue159)) (And.intro (fun H => Aw9 (H := H) Tryz.sizeOf159) (And.intro (fun H => Ak1 (H := H) Tryz.sizeOf159) (And.intro (fun H => Aqd (H := H) Tryz.underlying159 rfl) (And.intro (fun H => Aqd (H := H) Tryz.underlying78 rfl) @Bqb)))))
theorem Dqr {p q : Prop} (g : q) (h : Hid q -> p := by
 intro g
 repeat' (first
 | (refine Axn rfl ?_; intro Kz hKz; simp -implicitDefEqProofs (disch := first | omega | (simp only [qd] <;> omega)) only [xq, ↓xp, qc, Nat.reduceAdd, List.range, List.range.loop, fine, Nat.reduceEqDiff, ↓reduceIte, yielded, reduceCtorEq, Nat.reduceLT, Nat.reduceMul, Nat.reduceSub, one, Nat.reduceLeDiff, Aqa, Bqs, aq, ↓ap, qe0, qe1, qe2, *, -g, -hKz, Aqt, cells_func, List.size_toArray, List.length_cons, List.length_nil, Nat.reduceAdd, Nat.reduceLT]; try (refine hKz _ _ ?_; clear hKz Kz))
 | (refine Axs rfl ?_; intro Kz hKz; simp -implicitDefEqProofs (disch := first | omega | (simp only [qd] <;> omega)) only [xq, ↓xp, qc, Nat.reduceAdd, List.range, List.range.loop, fine, Nat.reduceEqDiff, ↓reduceIte, yielded, reduceCtorEq, Nat.reduceLT, Nat.reduceMul, Nat.reduceSub, one, Nat.reduceLeDiff, Aqa, Bqs, aq, ↓ap, qe0, qe1, qe2, *, -g, -hKz, Aqt, cells_func, List.size_toArray, List.length_cons, List.length_nil, Nat.reduceAdd, Nat.reduceLT]; try (refine hKz _ _ ?_; clear hKz Kz; (try simp only [nq, ↓reduceIte, Nat.reduceEqDiff])))
 | (refine Aqu ?_; (try simp only [nq, ↓reduceIte, Nat.reduceEqDiff]))
 | (refine Axr ?_; (try simp only [nq, ↓reduceIte, Nat.reduceEqDiff]))
 | (refine Axa ?_; (try simp only [nq, ↓reduceIte, Nat.reduceEqDiff]))
 | (refine Azb ?_; (try simp only [nq, ↓reduceIte, Nat.reduceEqDiff]))
 | (refine Axy (by simp only [Aqm, Aqr, Nat.reduceEqDiff, Nat.reduceLT, ↓reduceIte, *, -g]; rfl) ?_ ?_ <;> (intro hcz; first | (exfalso; simp -implicitDefEqProofs (disch := omega) only [*, -g, bq, reduceCtorEq] at hcz; done) | (simp only [dq, qe3, qe4, qe5, qe6] at hcz) | skip))
 | (refine Axq ?_)
 | (refine Aqo ?_)
 | (refine Aql ?_))
 (try (revert Kz; refine unK ?_)); (repeat (revert hcz; refine unC ?_))
 exact Hid.out g) : Hid p := ⟨h ⟨g⟩⟩
theorem Dzr {p q : Prop} (g : q) (h : Hid q -> p := by
 intro g
 simp -implicitDefEqProofs (disch := first | omega | (simp only [qd] <;> omega)) only [xq, ↓xp, qc, Nat.reduceAdd, List.range, List.range.loop, fine, Nat.reduceEqDiff, ↓reduceIte, yielded, reduceCtorEq, Nat.reduceLT, Nat.reduceMul, Nat.reduceSub, one, Nat.reduceLeDiff, Aqa, Bqs, aq, ↓ap, qe0, qe1, qe2, *, -g, -hK, Aqt, cells_func, List.size_toArray, List.length_cons, List.length_nil, Nat.reduceAdd, Nat.reduceLT]
 exact Hid.out g) : Hid p := ⟨h ⟨g⟩⟩
theorem Bkl (main : Md) {S : Nat -> Prop} {A : List Int -> Prop} {T : Bool -> List (List Int) -> Hp -> Prop} {yf : Fn} {yi yc : Array Value} {pl pieces : Int} {sv cv tv : Value} {start ts : List Int} {thisb db mb : Nat} (hdm : db ≠ mb) (hln : ts.length <= 8) (hts6 : ∀ t ∈ ts, 0 <= t /\ t < 6) (h1 : 1 <= pl)
  (hC : Akn Tryz.prog main (.func yf yi yc) S (fun H v xs => v = .agg (ints xs).toArray) A T) (hgo : ∀ L H, ¬ T false L H) (hA : ∀ l, l.length = 8 -> A l) (H : Hp) (hT : T true [] H) (vth : H thisb = some (true, .cells #[.pointer (some ⟨db, 0, none⟩)] 78 (0, 0)))
  (vdb : H db = some (true, dayO pl pieces sv cv tv mb)) (hts : SlI H tv ts) (hst : SlI H sv start) (hs6 : ∀ x ∈ start, 0 <= x /\ x < 6) (hsl : start.length <= 1000) (hk : Aj2 H mb ts.length pl ts) (nth : ¬ S thisb) (nd : ¬ S db) (nm : ¬ S mb) (nt : ts ≠ [] -> ∀ b, rowB tv = some b -> ¬ S b) :
  FnX Tryz.prog main 116 #[.func yf yi yc, .pointer (some ⟨thisb, 0, none⟩)] H fun e H' => e = .returned (.tuple #[]) /\ T true ((Axl ts.length pl ts (oOf start)).map fun cs => cs ++ List.replicate (8 - ts.length) 0) H' /\ Aj2 H' mb ts.length pl ts /\
   ∀ b x, ¬ S b -> b ≠ mb -> H b = some x -> H' b = some x := by
 obtain ⟨es, cl, vmb, hmap⟩ := hk
 refine Aqk Tryz.func116 rfl Tryz.ntmps116 (by simp) ?_
 (refine @unH _ ?_; refine Dqr ?_; (repeat (refine inC ?_; intro hc)); try (refine inK ?_; intro K hK))
 (intro yb hyb; generalize hG : Hp.set _ yb _ = H1; have lH1 := Aqg hG hyb; have vyb := Aqf hG; clear hG)
 have vth1 := lH1 _ _ vth
 have vdb1 := lH1 _ _ vdb
 have vmb1 := lH1 _ _ vmb
 have hT1 := hC.keep _ _ _ H1 hT fun b x _ hx => lH1 _ _ hx
 have ny : ¬ S yb := fun h => hC.ex _ _ _ _ hT h hyb
 ((try (refine @unH _ ?_; refine Dzr ?_)); (try (refine hK _ _ ?_; clear hK K; (try simp only [nq, ↓reduceIte, Nat.reduceEqDiff]))); refine @unH _ ?_; refine Dqr ?_; (repeat (refine inC ?_; intro hc)); try (refine inK ?_; intro K hK))
 (intro ab hab; generalize hG : Hp.set _ ab _ = H2; have lH2 := Aqg hG hab; have vab := Aqf hG; clear hG)
 have vyb2 := lH2 _ _ vyb
 have vth2 := lH2 _ _ vth1
 have vdb2 := lH2 _ _ vdb1
 have vmb2 := lH2 _ _ vmb1
 have hT2 := hC.keep _ _ _ H2 hT1 fun b x _ hx => lH2 _ _ hx
 have na : ¬ S ab := fun h => hC.ex _ _ _ _ hT1 h hab
 ((try (refine @unH _ ?_; refine Dzr ?_)); (try (refine hK _ _ ?_; clear hK K; (try simp only [nq, ↓reduceIte, Nat.reduceEqDiff]))); refine @unH _ ?_; refine Dqr ?_; (repeat (refine inC ?_; intro hc)); try (refine inK ?_; intro K hK))
 intro gb hgb
 have ng : ¬ S gb := fun h => hC.ex _ _ _ _ hT2 h hgb
 have hle3 : ∀ o, H2.le (H2.set gb o) := fun o => Hp.le_set hgb
 ((try (refine @unH _ ?_; refine Dzr ?_)); (try (refine hK _ _ ?_; clear hK K; (try simp only [nq, ↓reduceIte, Nat.reduceEqDiff]))); refine @unH _ ?_; refine Dqr ?_; (repeat (refine inC ?_; intro hc)); try (refine inK ?_; intro K hK))
 generalize hG : Hp.set H2 gb _ = H3
 have l3 : H2.le H3 := hG ▸ Hp.le_set hgb
 have vgb3 : H3 gb = _ := hG ▸ Aqw
 clear hG
 have vth3 := l3 _ _ vth2
 have vdb3 := l3 _ _ vdb2
 have vmb3 := l3 _ _ vmb2
 have l03 : H.le H3 := Hp.le_trans lH1 (Hp.le_trans lH2 l3)
 have hP : Akk H S T (.func yf yi yc) pl pieces sv cv tv ts thisb db mb yb ab gb true [] (List.replicate 8 0) H3 :=
  ⟨hC.keep _ _ _ H3 hT2 fun b x _ hx => l3 _ _ hx, vth3, vdb3, hts.le l03, ⟨es, cl, vmb3, hmap⟩, l3 _ _ vyb2, l3 _ _ vab, vgb3, by simp, nth, nd, nm, nt, ny, na, ng, fun b x _ _ _ hx => l03 _ _ hx⟩
 have hfirst := fun H' (hd : H' db = some (true, dayO pl pieces sv cv tv mb)) (hs : SlI H' sv start) => Aj6 main H' db pl pieces sv cv tv start mb hd hs hs6 (by omega)
 have hst3 := hst.le l03
 have hfr3 : ∀ b x, b ≠ ab -> H b = some x -> H3 b = some x := fun b x _ hx => l03 _ _ hx
 have nHa : ∀ b x, H b = some x -> b ≠ ab := fun b x hx e => by have := lH1 _ _ hx; rw [e, hab] at this; cases this
 clear hT hT1 hT2 vth vdb vmb vth1 vdb1 vmb1 vth2 vdb2 vmb2 lH1 lH2 l3 hle3 vyb vyb2 vab hyb hab hgb hts hst
 refine Az2 3 [(true, 0), (true, 1), (true, 2), (false, 3)] (by kernel_rfl) (by kernel_rfl) (by simp) (by kernel_rfl) ?_; intro K hK
 (iterate 2 (apply Axc rfl rfl rfl; (focus (simp -implicitDefEqProofs (disch := first | omega | (simp only [qd] <;> omega)) only [xq, ↓xp, qc, Nat.reduceAdd, List.range, List.range.loop, fine, Nat.reduceEqDiff, ↓reduceIte, yielded, reduceCtorEq, Nat.reduceLT, Nat.reduceMul, Nat.reduceSub, one, Nat.reduceLeDiff, Aqa, Bqs, aq, ↓ap, qe0, qe1, qe2, *, -hK, Aq0, Aqt, cells_func, List.size_toArray, List.length_cons, List.length_nil, Nat.reduceAdd, Nat.reduceLT] <;> (first | exact rfl | exact ⟨rfl, rfl⟩ | exact ⟨rfl, trivial⟩))); simp -implicitDefEqProofs (disch := first | omega | (simp only [qd] <;> omega)) only [Aqn, Aqc]))
 (apply Axc rfl rfl rfl; (focus (simp -implicitDefEqProofs (disch := first | omega | (simp only [qd] <;> omega)) only [xq, ↓xp, qc, Nat.reduceAdd, List.range, List.range.loop, fine, Nat.reduceEqDiff, ↓reduceIte, yielded, reduceCtorEq, Nat.reduceLT, Nat.reduceMul, Nat.reduceSub, one, Nat.reduceLeDiff, Aqa, Bqs, aq, ↓ap, qe0, qe1, qe2, *, -hK, Azl, Aqt, cells_func, List.size_toArray, List.length_cons, List.length_nil, Nat.reduceAdd, Nat.reduceLT]; exact Azo (hfirst H3 vdb3 hst3))); simp -implicitDefEqProofs (disch := omega) only [Aqn, Aqc])
 refine Ajw ?_
 have hrec := Bwk main hdm hln hts6 h1 hC hgo hA ts.length 0 (oOf start) H (List.replicate 8 0) [] H3 rfl (by omega) (Ava start 0 (by omega) hs6) hP
 have hall : (fun cs => (List.replicate 8 (0 : Int)).take 0 ++ cs ++ (List.replicate 8 (0 : Int)).drop ts.length) = fun cs => cs ++ List.replicate (8 - ts.length) 0 := by
  funext cs
  rw [List.take_zero, List.nil_append, List.drop_replicate]
 rw [hall, List.drop_zero, List.nil_append] at hrec
 replace hgo : Aqs _ := hgo
 replace hA : Aqs _ := hA
 simp only [Avv] at hrec
 simp -implicitDefEqProofs (disch := first | omega | (simp only [qd] <;> omega)) only [xq, ↓xp, qc, Nat.reduceAdd, List.range, List.range.loop, fine, Nat.reduceEqDiff, ↓reduceIte, yielded, reduceCtorEq, Nat.reduceLT, Nat.reduceMul, Nat.reduceSub, one, Nat.reduceLeDiff, Aqa, Bqs, aq, ↓ap, qe0, qe1, qe2, *, -hK, Aqt, cells_func, List.size_toArray, List.length_cons, List.length_nil, Nat.reduceAdd, Nat.reduceLT]
 rw [Bzo, Ax8]
 simp only [Array.empty_append, List.append_toArray, List.cons_append, List.nil_append]
 refine hrec.runs.mono ?_
 rintro _ H5 ⟨rfl, xs', _, _, hP5⟩
 simp -implicitDefEqProofs (disch := first | omega | (simp only [qd] <;> omega)) only [xq, ↓xp, qc, Nat.reduceAdd, List.range, List.range.loop, fine, Nat.reduceEqDiff, ↓reduceIte, yielded, reduceCtorEq, Nat.reduceLT, Nat.reduceMul, Nat.reduceSub, one, Nat.reduceLeDiff, Aqa, Bqs, aq, ↓ap, qe0, qe1, qe2, *, -hK, Aqt, cells_func, List.size_toArray, List.length_cons, List.length_nil, Nat.reduceAdd, Nat.reduceLT]
 refine hK _ _ ?_
 (refine @unH _ ?_; refine zD Tryz.results116 ?_)
 exact ⟨rfl, hP5.cl, hP5.known, fun b x hS hbm hx => hP5.fr b x hS hbm (nHa b x hx) hx⟩
theorem Bxf (a : Int) : IntKind.i64.wrap (IntKind.i64.wrap a + 1) = IntKind.i64.wrap (a + 1) := by
 rw [IntKind.wrap_i64, IntKind.wrap_i64, IntKind.wrap_i64]; omega
theorem Cje (pl : Int) (m : Nat) (t : Int) (hm : m < 64) : (Axz pl m t).length <= 6 := by
 unfold Axz
 split
 ·simp
 ·split
  ·rw [Akx]; exact Awy m hm
  ·simp
theorem Bz8 {α β : Type} (f : α -> List β) (k : Nat) : ∀ (l : List α), (∀ x ∈ l, (f x).length <= k) -> (l.flatMap f).length <= l.length * k
 | [], _ => by simp
 | x :: l, h => by
  rw [List.flatMap_cons, List.length_append, List.length_cons, Nat.succ_mul]
  have := h x List.mem_cons_self
  have := Bz8 f k l fun y hy => h y (List.mem_cons_of_mem _ hy)
  omega
theorem Bxp (L : Nat) (pl : Int) : ∀ (ts : List Int) (m : Nat), m < 64 -> (∀ t ∈ ts, 0 <= t /\ t < 6) -> (Axl L pl ts m).length <= 6 ^ ts.length
 | [], _, _, _ => by simp [Axl]
 | t :: ts, m, hm, ht => by
  unfold Axl
  have h6 := ht t List.mem_cons_self
  have := Bz8 (fun s => if Azf m t + optF L pl ts (Aqv m s t) <= optF L pl (t :: ts) m then (Axl L pl ts (Aqv m s t)).map (s :: ·) else []) (6 ^ ts.length) (Axz pl m t) (fun s hs => by
   split
   ·rw [List.length_map]
    exact Bxp L pl ts _ (Ak9 hm (Azn hs).2 h6.1 h6.2) fun x hx => ht x (List.mem_cons_of_mem _ hx)
   ·simp)
  have h2 := Cje pl m t hm
  refine Nat.le_trans this ?_
  rw [List.length_cons, Nat.pow_succ, Nat.mul_comm (6 ^ ts.length)]
  exact Nat.mul_le_mul_right _ h2
def cntC (l r cb : Nat) (lo : Loop) (t : Bool) (L : List (List Int)) (H : Hp) : Prop :=
 t = true /\ H l = some (true, .loop lo) /\ H r = some (true, .deferred (some [])) /\ H cb = some (true, .cells #[.int .i64 (IntKind.i64.wrap (L.length : Nat))] 3 (0, 0))
theorem Cqf (main : Md) (H : Hp) (places pieces : Int) (sv cv tv : Value) (start : List Int) (xss : List (List Int)) (ts : List Int) (hd : Awr H places pieces sv cv tv start xss ts) :
  FnX Tryz.prog main 39 #[.agg #[.int .i64 places, .int .i64 pieces, sv, cv], tv] H fun e H' => e = .returned (.tuple #[.int .i64 ((Axl ts.length places ts (oOf start)).length : Nat), .int .i64 0]) /\ H.le H' := by
 obtain ⟨sa, sn, sc, rfl⟩ := hd.st.isSlice
 obtain ⟨ca, cn, cc, rfl⟩ := hd.calls.isSlice
 obtain ⟨ta, tc, rfl, htc, _⟩ := id hd.truth
 refine Aqk Tryz.func39 rfl Tryz.ntmps39 (by simp) ?_
 (refine @unH _ ?_; refine zA Awm ?_; (repeat (refine inC ?_; intro hc)); try (refine inK ?_; intro K hK))
 (intro vb hvb; generalize hG : Hp.set _ vb _ = H1; have lH1 := Aqg hG hvb; have vvb := Aqf hG; clear hG)
 have hd1 := hd.le lH1
 ((try (refine @unH _ ?_; refine zX Awm ?_)); (try (refine hK _ _ ?_; clear hK K; (try simp only [nq, ↓reduceIte, Nat.reduceEqDiff]))); refine @unH _ ?_; refine zA Awm ?_; (repeat (refine inC ?_; intro hc)); try (refine inK ?_; intro K hK))
 refine (Akp main H1 places pieces _ _ _ start xss ts hd1).runs.mono ?_
 rintro _ H2 ⟨db, mb, rfl, lH2, hdm, hdb, hmb, vdb, vmb⟩
 have hd2 := hd1.le lH2
 have hl8 : ts.length <= 8 := by have := hd.true.1; have := hd.few; omega
 ((try (refine @unH _ ?_; refine zX Awm ?_)); (try (refine hK _ _ ?_; clear hK K; (try simp only [nq, ↓reduceIte, Nat.reduceEqDiff]))); refine @unH _ ?_; refine zA Awm ?_; (repeat (refine inC ?_; intro hc)); try (refine inK ?_; intro K hK))
 (intro cb hcb; generalize hG : Hp.set _ cb _ = H4; have lH4 := Aqg hG hcb; have vcb := Aqf hG; clear hG)
 have vcb4 := vcb
 have hcb2 := hcb
 have l24 := lH4
 clear lH4 vcb
 ((try (refine @unH _ ?_; refine zX Awm ?_)); (try (refine hK _ _ ?_; clear hK K; (try simp only [nq, ↓reduceIte, Nat.reduceEqDiff]))); refine @unH _ ?_; refine zA Awm ?_; (repeat (refine inC ?_; intro hc)); try (refine inK ?_; intro K hK))
 refine (Awt main H4 db).runs.mono ?_
 rintro _ H5 ⟨thisb, rfl, vth5, lH5⟩
 have vcb5 := lH5 _ _ vcb4
 have l25 := Hp.le_trans l24 lH5
 have vdb5 := l25 _ _ vdb
 have vmb5 := l25 _ _ vmb
 have hd5 := hd2.le l25
 have l05 : H.le H5 := Hp.le_trans lH1 (Hp.le_trans lH2 l25)
 have vdb2 := vdb
 have vmb2 := vmb
 clear lH5 vcb4 vdb vmb l24
 ((try (refine @unH _ ?_; refine zX Awm ?_)); (try (refine hK _ _ ?_; clear hK K; (try simp only [nq, ↓reduceIte, Nat.reduceEqDiff]))); refine @unH _ ?_; refine zA Awm ?_; (repeat (refine inC ?_; intro hc)); try (refine inK ?_; intro K hK))
 refine Avy (fun e => e 8 = .pointer (some ⟨cb, 0, none⟩) /\ e 19 = .func (.func 116) #[] #[.pointer (some ⟨thisb, 0, none⟩)]) ⟨rfl, rfl⟩ ?_
 rintro e ⟨e8, e19⟩
 refine Ayo (g := 116) (fi := #[]) (cap := #[.pointer (some ⟨thisb, 0, none⟩)]) (by rw [Aqm (by omega), e19]) (by omega) (fun _ _ _ _ => Bk0 _ _ _) (fun r l lo hr hl hlo1 hlo2 hround => ?_)
 have hlr : r ≠ l := fun e => by rw [<- e, Aqw] at hl; cases hl
 have hnl : H5 l = none := by
  rw [Aqp (Ne.symm hlr)] at hl; exact hl
 have hloe : ({ ({ lo with state := LoopState.busy } : Loop) with state := .ready, pending := none } : Loop) = lo := by
  cases lo; simp only [] at hlo1 hlo2; subst hlo1 hlo2; rfl
 have hC : Akn Tryz.prog main (.func (.yield l) #[] #[]) (fun b => b = l ∨ b = r ∨ b = cb) (fun H v xs => v = .agg (ints xs).toArray) (fun _ => True) (cntC l r cb lo) := by
  refine ⟨?_, ?_, ?_⟩
  ·rintro t L H H' ⟨h0, h1, h2, h3⟩ hk
   exact ⟨h0, hk _ _ (.inl rfl) h1, hk _ _ (.inr (.inl rfl)) h2, hk _ _ (.inr (.inr rfl)) h3⟩
  ·rintro t L H b ⟨h0, h1, h2, h3⟩ hb
   rcases hb with rfl | rfl | rfl
   ·rw [h1]; simp
   ·rw [h2]; simp
   ·rw [h3]; simp
  ·rintro L H v' xs ⟨_, h1, h2, h3⟩ rfl hA
   refine hround H _ _ h1 ?_
   (refine @unH _ ?_; refine zA (And.intro Awm @Bool.or_true) ?_; (repeat (refine inC ?_; intro hc)); try (refine inK ?_; intro K hK))
   refine ⟨h1, ?_⟩
   have ncl : cb ≠ l := fun e => by rw [e, h1] at h3; cases h3
   have nrc : r ≠ cb := fun e => by rw [e, h3] at h2; cases h2
   generalize hB : Hp.set H l (.loop { lo with state := .busy }) = Hb
   have vlb : Hb l = some (true, .loop { lo with state := .busy }) := by rw [<- hB, Aqw]
   have hbf : ∀ b x, b ≠ l -> H b = some x -> Hb b = some x := fun b x hn hx => by rw [<- hB, Aqp hn]; exact hx
   have hb3 := hbf _ _ ncl h3
   have hb2 := hbf _ _ hlr h2
   replace hbf : Aqs _ := hbf
   replace hloe : Aqs _ := hloe
   clear hB h1 h2 h3
   (refine @unH _ ?_; refine zA (And.intro Awm @Bool.or_true) ?_; (repeat (refine inC ?_; intro hc)); try (refine inK ?_; intro K hK))
   refine ⟨rfl, _, (Aqp (Ne.symm ncl)).trans vlb, true, rfl, ?_, ?_⟩
   ·have hloe' : ({ ({ lo with state := LoopState.busy } : Loop) with state := .ready, pending := none } : Loop) = lo := hloe
    rw [hloe']
    refine ⟨rfl, Aqw, (Aqp hlr).trans ((Aqp nrc).trans hb2), (Aqp ncl).trans ?_⟩
    rw [Aqw, Bxf, List.length_append]
    rfl
   ·intro b x hb hx
    have n1 : b ≠ l := fun h => hb (.inl h)
    rw [Aqp n1, Aqp (fun e => hb (.inr (.inr e)))]
    exact (show ∀ b x, b ≠ l -> H b = some x -> Hb b = some x from hbf) b x n1 hx
 generalize hG : Hp.set (Hp.set H5 r (.deferred (some []))) l (.loop lo) = H6
 have l56 : H5.le H6 := fun b x hx => by rw [<- hG]; exact Hp.le_set hl _ _ (Hp.le_set hr _ _ hx)
 have vl6 : H6 l = some (true, .loop lo) := by rw [<- hG, Aqw]
 have vr6 : H6 r = some (true, .deferred (some [])) := by rw [<- hG, Aqp hlr, Aqw]
 clear hG
 have nS : ∀ b x, H2 b = some x -> ¬ (b = l ∨ b = r ∨ b = cb) := fun b x hx h => by
  have h5 := l25 _ _ hx
  rcases h with rfl | rfl | rfl
  ·rw [hnl] at h5; cases h5
  ·rw [hr] at h5; cases h5
  ·rw [hcb2] at hx; cases hx
 have hst6 : ∀ x ∈ start, 0 <= x /\ x < 6 := fun x hx => by
  have := hd.ok.2.2.2.2.2.2.1 x hx; have := hd.ok.2.2.2.1; omega
 have hts6 : ∀ t ∈ ts, 0 <= t /\ t < 6 := hd.true.bnd hd.ok
 have hsl : start.length <= 1000 := by have := hd.ok.2.2.2.2.1; have := hd.ok.2.1; omega
 have hp1 : 1 <= places := hd.ok.1
 have nth : ¬ (thisb = l ∨ thisb = r ∨ thisb = cb) := fun h => by
  rcases h with e | e | e
  ·rw [e, hnl] at vth5; cases vth5
  ·rw [e, hr] at vth5; cases vth5
  ·rw [e, vcb5] at vth5; simp at vth5
 have ntv : ts ≠ [] -> ∀ b, rowB (.slice ta ts.length tc) = some b -> ¬ (b = l ∨ b = r ∨ b = cb) := fun hne b hb => by
  obtain ⟨b', o', p', c', fr', he, hb', _⟩ := SlI.get hd2.truth (List.getElem?_eq_getElem (List.length_pos_iff.2 hne))
  subst he
  cases hb
  exact nS _ _ hb'
 have hblen : (Axl ts.length places ts (oOf start)).length <= 1679616 := Nat.le_trans (Bxp _ _ ts _ (Ava start 0 (by omega) hst6) hts6) (Nat.pow_le_pow_right (by decide) hl8)
 have hrun := Bkl main (A := fun _ => True) hdm hl8 hts6 hp1 hC (fun L H h => by cases h.1) (fun _ _ => trivial) H6 ⟨rfl, vl6, vr6, l56 _ _ vcb5⟩ (l56 _ _ vth5) (l56 _ _ vdb5) ((hd5.le l56).truth) ((hd5.le l56).st) hst6 hsl (Ay5 _ _ _ _ _ (l56 _ _ vmb5)) nth (nS _ _ vdb2) (nS _ _ vmb2) ntv
 refine hrun.runs.mono ?_
 clear hrun hC hround
 rintro _ H7 ⟨rfl, ⟨_, vl7, vr7, vcb7⟩, _, hfr7⟩
 rw [List.length_map] at vcb7
 generalize (Axl ts.length places ts (oOf start)).length = N at *
 rw [w64 (N : Int) (by omega) (by omega)] at vcb7
 have ncl : cb ≠ l := fun e => by rw [e, vl7] at vcb7; cases vcb7
 have nHm : ∀ b x, H b = some x -> b ≠ mb := fun b x hx e => by have := lH1 _ _ hx; rw [e, hmb] at this; cases this
 have l07 : H.le H7 := fun b x hx => hfr7 _ _ (nS _ _ (lH2 _ _ (lH1 _ _ hx))) (nHm b x hx) (l56 _ _ (l05 _ _ hx))
 have hnlH : ∀ b x, H b = some x -> b ≠ l := fun b x hx e => nS _ _ (lH2 _ _ (lH1 _ _ hx)) (.inl e)
 have nHr : ∀ b x, H b = some x -> b ≠ r := fun b x hx e => nS _ _ (lH2 _ _ (lH1 _ _ hx)) (.inr (.inl e))
 refine Ay6 vl7 hlo1 hlo2 ?_
 have vcb9 : (H7.set l (.loop { lo with state := .exhausted })) cb = _ := (Aqp ncl).trans vcb7
 have vr9 : (H7.set l (.loop { lo with state := .exhausted })) r = _ := (Aqp hlr).trans vr7
 have l09 : H.le (H7.set l (.loop { lo with state := .exhausted })) := fun b x hx => by rw [Aqp (hnlH b x hx)]; exact l07 _ _ hx
 generalize H7.set l (.loop { lo with state := .exhausted }) = H9 at *
 clear vl7 vr7 vcb7 l07 hfr7 hlo1 hlo2 hloe vl6 vr6 l56 vcb5 vth5 vdb5 vmb5 hd5 hd2 hd1 l25 l05 nS nth ntv hl hr hnl vdb2 vmb2 hcb2 hcb vvb hvb lH1 lH2 e19
 (try simp only [nq, ↓reduceIte, Nat.reduceEqDiff])
 (refine @unH _ ?_; refine zA Awm ?_; (repeat (refine inC ?_; intro hc)); try (refine inK ?_; intro K hK))
 refine Ax7 ?_
 (try simp only [nq, ↓reduceIte, Nat.reduceEqDiff])
 refine Avn vr9 ?_
 rw [Akc Tryz.results39 (by decide) (by decide)]
 exact ⟨by first | rfl | trivial, fun b x hx => by rw [Aqp (nHr b x hx)]; exact l09 _ _ hx⟩
def Az3 := And.intro (fun H => Aqx (H := H) Tryz.underlying25 rfl Tryz.sizeOf25) (And.intro @Bxr (And.intro (fun H => Aqd (H := H) Tryz.underlying3 rfl) (And.intro (fun H => Aqh (H := H) Tryz.underlying25 (i := 3) rfl (off := 3) rfl Tryz.sizeOf23) (And.intro (fun H => Aqd (H := H) Tryz.underlying23 rfl) (And.intro (fun H => Aq5 (H := H) Tryz.underlying23) (And.intro @Ckl (And.intro (fun H => Aqh (H := H) Tryz.underlying25 (i := 1) rfl (off := 1) rfl Tryz.sizeOf3) (And.intro (fun H => Aq1 (H := H) (P := Tryz.prog) (h := Tryz.zeroValue3)) (And.intro (fun H => Axo (H := H) Tryz.sizeOf3) (And.intro @By6 (And.intro (fun H => Aq1 (H := H) (P := Tryz.prog) (h := Tryz.zeroValue85)) (And.intro (fun H => Aq3 (H := H) Tryz.sizeOf85) (fun H => Ax6 (H := H) Tryz.underlying85 Tryz.sizeOf3)))))))))))))
theorem Dk1 {p q : Prop} (g : q) (h : Hid q -> p := by
 intro g
 repeat' (first
 | (refine Axn rfl ?_; intro Kz hKz; simp -implicitDefEqProofs (disch := first | omega | (simp only [qd] <;> omega)) only [xq, ↓xp, qc, Nat.reduceAdd, List.range, List.range.loop, fine, Nat.reduceEqDiff, ↓reduceIte, yielded, reduceCtorEq, Nat.reduceLT, Nat.reduceMul, Nat.reduceSub, one, Nat.reduceLeDiff, Aqa, Az3, aq, ↓ap, qe0, qe1, qe2, *, -g, -hKz, Bool.or_true, Ajx hne vt0]; try (refine hKz _ _ ?_; clear hKz Kz))
 | (refine Axs rfl ?_; intro Kz hKz; simp -implicitDefEqProofs (disch := first | omega | (simp only [qd] <;> omega)) only [xq, ↓xp, qc, Nat.reduceAdd, List.range, List.range.loop, fine, Nat.reduceEqDiff, ↓reduceIte, yielded, reduceCtorEq, Nat.reduceLT, Nat.reduceMul, Nat.reduceSub, one, Nat.reduceLeDiff, Aqa, Az3, aq, ↓ap, qe0, qe1, qe2, *, -g, -hKz, Bool.or_true, Ajx hne vt0]; try (refine hKz _ _ ?_; clear hKz Kz; (try simp only [nq, ↓reduceIte, Nat.reduceEqDiff])))
 | (refine Aqu ?_; (try simp only [nq, ↓reduceIte, Nat.reduceEqDiff]))
 | (refine Axr ?_; (try simp only [nq, ↓reduceIte, Nat.reduceEqDiff]))
 | (refine Axa ?_; (try simp only [nq, ↓reduceIte, Nat.reduceEqDiff]))
 | (refine Azb ?_; (try simp only [nq, ↓reduceIte, Nat.reduceEqDiff]))
 | (refine Axy (by simp only [Aqm, Aqr, Nat.reduceEqDiff, Nat.reduceLT, ↓reduceIte, *, -g]; rfl) ?_ ?_ <;> (intro hcz; first | (exfalso; simp -implicitDefEqProofs (disch := omega) only [*, -g, bq, reduceCtorEq] at hcz; done) | (simp only [dq, qe3, qe4, qe5, qe6] at hcz) | skip))
 | (refine Axq ?_)
 | (refine Aqo ?_)
 | (refine Aql ?_))
 (try (revert Kz; refine unK ?_)); (repeat (revert hcz; refine unC ?_))
 exact Hid.out g) : Hid p := ⟨h ⟨g⟩⟩
theorem Dkw {p q : Prop} (g : q) (h : Hid q -> p := by
 intro g
 simp -implicitDefEqProofs (disch := first | omega | (simp only [qd] <;> omega)) only [xq, ↓xp, qc, Nat.reduceAdd, List.range, List.range.loop, fine, Nat.reduceEqDiff, ↓reduceIte, yielded, reduceCtorEq, Nat.reduceLT, Nat.reduceMul, Nat.reduceSub, one, Nat.reduceLeDiff, Aqa, Az3, aq, ↓ap, qe0, qe1, qe2, *, -g, -hK, Bool.or_true, Ajx hne vt0]
 exact Hid.out g) : Hid p := ⟨h ⟨g⟩⟩
def Dqk (n all : Nat) : Int := if 0 < n /\ n < all then 3 else if n = 0 then 2 else 1
def cntS (call piece : Int) (l r nb ab kb pb : Nat) (lo : Loop) (t : Bool) (L : List (List Int)) (H : Hp) : Prop :=
 t = true /\ H l = some (true, .loop lo) /\ H r = some (true, .deferred (some [])) /\ H kb = some (true, .cells #[.int .i64 call] 3 (0, 0)) /\ H pb = some (true, .cells #[.int .i64 piece] 3 (0, 0)) /\ H nb = some (true, .cells #[.int .i64 (IntKind.i64.wrap (L.countP fun xs => xs.getD call.toNat 0 == piece : Nat))] 3 (0, 0)) /\ H ab = some (true, .cells #[.int .i64 (IntKind.i64.wrap (L.length : Nat))] 3 (0, 0))
theorem Cjo (main : Md) (H : Hp) (places pieces : Int) (sv cv tv : Value) (start : List Int) (xss : List (List Int)) (ts : List Int) (hd : Awr H places pieces sv cv tv start xss ts) (call piece : Int) (hc0 : 0 <= call) (hc1 : call < ts.length) (hp0 : 0 <= piece) (hp1 : piece < pieces) :
  FnX Tryz.prog main 42 #[.agg #[.int .i64 places, .int .i64 pieces, sv, cv], tv, .int .i64 call, .int .i64 piece] H fun e H' => e = .returned (.tuple #[.int .i64 (Dqk ((Axl ts.length places ts (oOf start)).countP fun cs => cs.getD call.toNat 0 == piece) (Axl ts.length places ts (oOf start)).length), .int .i64 0]) /\ H.le H' := by
 obtain ⟨sa, sn, sc, rfl⟩ := hd.st.isSlice
 obtain ⟨ca, cc, rfl, hcc, _⟩ := id hd.calls
 obtain ⟨ta, tc, rfl, htc, _⟩ := id hd.truth
 have hcn : (xss.length : Int) = ts.length := by have := hd.true.1; omega
 refine Aqk Tryz.func42 rfl Tryz.ntmps42 (by simp) ?_
 (refine @unH _ ?_; refine zA Az3 ?_; (repeat (refine inC ?_; intro hc)); try (refine inK ?_; intro K hK))
 intro vb hvb kb hkb pb hpb
 replace hkb : (Hp.set H vb _) kb = none := hkb
 replace hpb : (Hp.set (Hp.set H vb _) kb _) pb = none := hpb
 generalize hG : Hp.set H vb _ = Ha at hkb hpb ⊢
 have lHa := Aqg hG hvb
 have vvb := Aqf hG
 clear hG
 generalize hG : Hp.set Ha kb _ = Hb at hpb ⊢
 have lHb := Aqg hG hkb
 have vkb := Aqf hG
 clear hG
 generalize hG : Hp.set Hb pb _ = H1
 have lHc := Aqg hG hpb
 have vpb := Aqf hG
 clear hG
 have h0kb : H kb = none := Hp.le_none lHa hkb
 have h0pb : H pb = none := Hp.le_none (Hp.le_trans lHa lHb) hpb
 have nkp : kb ≠ pb := Ax0 vkb hpb
 have vvb1 := lHc _ _ (lHb _ _ vvb)
 have vkb1 := lHc _ _ vkb
 have lH1 : H.le H1 := Hp.le_trans lHa (Hp.le_trans lHb lHc)
 have hd1 := hd.le lH1
 clear vvb vkb lHa lHb lHc hvb hkb hpb
 ((try (refine @unH _ ?_; refine zX Az3 ?_)); (try (refine hK _ _ ?_; clear hK K; (try simp only [nq, ↓reduceIte, Nat.reduceEqDiff]))); refine @unH _ ?_; refine zA Az3 ?_; (repeat (refine inC ?_; intro hc)); try (refine inK ?_; intro K hK))
 refine (Akp main H1 places pieces _ _ _ start xss ts hd1).runs.mono ?_
 rintro _ H2 ⟨db, mb, rfl, lH2, hdm, hdb, hmb, vdb, vmb⟩
 have hd2 := hd1.le lH2
 have hl8 : ts.length <= 8 := by have := hd.true.1; have := hd.few; omega
 have vvb2 := lH2 _ _ vvb1
 have vkb2 := lH2 _ _ vkb1
 have vpb2 := lH2 _ _ vpb
 have ndk : db ≠ kb := fun e => by rw [<- e, hdb] at vkb1; cases vkb1
 have ndp : db ≠ pb := fun e => by rw [<- e, hdb] at vpb; cases vpb
 have nmk : mb ≠ kb := fun e => by rw [<- e, hmb] at vkb1; cases vkb1
 have nmp : mb ≠ pb := fun e => by rw [<- e, hmb] at vpb; cases vpb
 clear vvb1 vkb1 vpb
 have w1 : IntKind.i64.wrap ((xss.length : Int) - 1) = (xss.length : Int) - 1 := w64 _ (by omega) (by omega)
 have w2 : IntKind.i64.wrap (pieces - 1) = pieces - 1 := w64 _ (by have := hd.ok.2.2.1; omega) (by have := hd.ok.2.2.2.1; omega)
 ((try (refine @unH _ ?_; refine zX Az3 ?_)); (try (refine hK _ _ ?_; clear hK K; (try simp only [nq, ↓reduceIte, Nat.reduceEqDiff]))); refine @unH _ ?_; refine zA Az3 ?_; (repeat (refine inC ?_; intro hc)); try (refine inK ?_; intro K hK))
 refine (Aj7 main H2 call 0 _ hc0 (by omega)).runs.mono ?_
 rintro _ _ ⟨rfl, hHQ⟩
 rw [hHQ]; clear hHQ
 ((try (refine @unH _ ?_; refine zX Az3 ?_)); (try (refine hK _ _ ?_; clear hK K; (try simp only [nq, ↓reduceIte, Nat.reduceEqDiff]))); refine @unH _ ?_; refine zA Az3 ?_; (repeat (refine inC ?_; intro hc)); try (refine inK ?_; intro K hK))
 refine (Aj7 main H2 piece 0 _ hp0 (by omega)).runs.mono ?_
 rintro _ _ ⟨rfl, hHQ⟩
 rw [hHQ]; clear hHQ
 ((try (refine @unH _ ?_; refine zX Az3 ?_)); (try (refine hK _ _ ?_; clear hK K; (try simp only [nq, ↓reduceIte, Nat.reduceEqDiff]))); refine @unH _ ?_; refine zA Az3 ?_; (repeat (refine inC ?_; intro hc)); try (refine inK ?_; intro K hK))
 intro nb hnb ab hab
 replace hab : (Hp.set H2 nb (.cells #[.int .i64 0] 3 (0, 0))) ab = none := hab
 have nna : nb ≠ ab := fun e => by rw [e, Aqw] at hab; cases hab
 have nan := nna.symm
 ((try (refine @unH _ ?_; refine zX Az3 ?_)); (try (refine hK _ _ ?_; clear hK K; (try simp only [nq, ↓reduceIte, Nat.reduceEqDiff]))); refine @unH _ ?_; refine zA Az3 ?_; (repeat (refine inC ?_; intro hc)); try (refine inK ?_; intro K hK))
 generalize hG : Hp.set (Hp.set (Hp.set (Hp.set H2 nb _) ab _) nb _) ab _ = H4
 have vab4 : H4 ab = some (true, .cells #[.int .i64 0] 3 (0, 0)) := by rw [<- hG, Aqw]
 have vnb4 : H4 nb = some (true, .cells #[.int .i64 0] 3 (0, 0)) := by rw [<- hG, Aqp nna, Aqw]
 have hab2 : H2 ab = none := by rwa [Aqp nan] at hab
 have l24 : H2.le H4 := fun b x hx => by
  have n1 : b ≠ ab := fun e => by rw [e, hab2] at hx; cases hx
  have n2 : b ≠ nb := fun e => by rw [e, hnb] at hx; cases hx
  rw [<- hG, Aqp n1, Aqp n2, Aqp n1, Aqp n2]; exact hx
 have nka : kb ≠ ab := fun e => by rw [e, hab2] at vkb2; cases vkb2
 have npa : pb ≠ ab := fun e => by rw [e, hab2] at vpb2; cases vpb2
 have nkn : kb ≠ nb := fun e => by rw [e, hnb] at vkb2; cases vkb2
 have npn : pb ≠ nb := fun e => by rw [e, hnb] at vpb2; cases vpb2
 clear hG hab
 refine (Awt main H4 db).runs.mono ?_
 rintro _ H5 ⟨thisb, rfl, vth5, lH5⟩
 have vnb5 := lH5 _ _ vnb4
 have vab5 := lH5 _ _ vab4
 have l25 := Hp.le_trans l24 lH5
 have vdb5 := l25 _ _ vdb
 have vmb5 := l25 _ _ vmb
 have vkb5 := l25 _ _ vkb2
 have vpb5 := l25 _ _ vpb2
 have hd5 := hd2.le l25
 have l05 : H.le H5 := Hp.le_trans lH1 (Hp.le_trans lH2 l25)
 have vdb2 := vdb
 have vmb2 := vmb
 clear lH5 vnb4 vab4 vdb vmb l24 nan
 ((try (refine @unH _ ?_; refine zX Az3 ?_)); (try (refine hK _ _ ?_; clear hK K; (try simp only [nq, ↓reduceIte, Nat.reduceEqDiff]))); refine @unH _ ?_; refine zA Az3 ?_; (repeat (refine inC ?_; intro hc)); try (refine inK ?_; intro K hK))
 refine Avy (fun e => e 6 = .pointer (some ⟨kb, 0, none⟩) /\ e 7 = .pointer (some ⟨pb, 0, none⟩) /\ e 12 = .pointer (some ⟨nb, 0, none⟩) /\ e 13 = .pointer (some ⟨ab, 0, none⟩) /\ e 39 = .func (.func 116) #[] #[.pointer (some ⟨thisb, 0, none⟩)]) ⟨rfl, rfl, rfl, rfl, rfl⟩ ?_
 rintro e ⟨e6, e7, e12, e13, e39⟩
 refine Ayo (g := 116) (fi := #[]) (cap := #[.pointer (some ⟨thisb, 0, none⟩)]) (by rw [Aqm (by omega), e39]) (by omega) (fun _ _ _ _ => Bk0 _ _ _) (fun r l lo hr hl hlo1 hlo2 hround => ?_)
 have hlr : r ≠ l := fun e => by rw [<- e, Aqw] at hl; cases hl
 have hnl : H5 l = none := by
  rw [Aqp (Ne.symm hlr)] at hl; exact hl
 have hloe : ({ ({ lo with state := LoopState.busy } : Loop) with state := .ready, pending := none } : Loop) = lo := by
  cases lo; simp only [] at hlo1 hlo2; subst hlo1 hlo2; rfl
 have hC : Akn Tryz.prog main (.func (.yield l) #[] #[]) (fun b => b = l ∨ b = r ∨ b = nb ∨ b = ab ∨ b = kb ∨ b = pb) (fun H v xs => v = .agg (ints xs).toArray) (fun xs => xs.length = 8) (cntS call piece l r nb ab kb pb lo) := by
  refine ⟨?_, ?_, ?_⟩
  ·rintro t L H H' ⟨h0, h1, h2, h3, h4, h5, h6⟩ hk
   exact ⟨h0, hk _ _ (.inl rfl) h1, hk _ _ (.inr (.inl rfl)) h2, hk _ _ (.inr (.inr (.inr (.inr (.inl rfl))))) h3, hk _ _ (.inr (.inr (.inr (.inr (.inr rfl))))) h4, hk _ _ (.inr (.inr (.inl rfl))) h5, hk _ _ (.inr (.inr (.inr (.inl rfl)))) h6⟩
  ·rintro t L H b ⟨h0, h1, h2, h3, h4, h5, h6⟩ hb
   rcases hb with rfl | rfl | rfl | rfl | rfl | rfl
   ·rw [h1]; simp
   ·rw [h2]; simp
   ·rw [h5]; simp
   ·rw [h6]; simp
   ·rw [h3]; simp
   ·rw [h4]; simp
  ·rintro L H v' xs ⟨_, h1, h2, h3, h4, h5, h6⟩ rfl hA
   refine hround H _ _ h1 ?_
   have hil : (ints xs).length = 8 := by rw [Aq7]; exact hA
   have hone : (ints xs).all one = true := List.all_eq_true.2 (Bzr _)
   (refine @unH _ ?_; refine zA (And.intro Az3 @Bool.or_true) ?_; (repeat (refine inC ?_; intro hc)); try (refine inK ?_; intro K hK))
   intro tb htb
   have hne : ints xs ≠ [] := fun h => by rw [h] at hil; cases hil
   have vt0 : (H.set tb (.cells #[.int .i64 0, .int .i64 0, .int .i64 0, .int .i64 0, .int .i64 0, .int .i64 0, .int .i64 0, .int .i64 0] 85 (0, 0))) tb = _ := Aqw
   have hov : over #[Value.int .i64 0, .int .i64 0, .int .i64 0, .int .i64 0, .int .i64 0, .int .i64 0, .int .i64 0, .int .i64 0] 0 (ints xs) = (ints xs).toArray := Bvu (l := [Value.int .i64 0, .int .i64 0, .int .i64 0, .int .i64 0, .int .i64 0, .int .i64 0, .int .i64 0, .int .i64 0]) (by rw [hil]; rfl)
   ((try (refine @unH _ ?_; refine Dkw ?_)); (try (refine hK _ _ ?_; clear hK K; (try simp only [nq, ↓reduceIte, Nat.reduceEqDiff]))); refine @unH _ ?_; refine Dk1 ?_; (repeat (refine inC ?_; intro hc)); try (refine inK ?_; intro K hK))
   clear hov vt0
   generalize hG : Hp.set H tb _ = Ha
   have lHa := Aqg hG htb
   have vta := Aqf hG
   clear hG
   have h1a := lHa _ _ h1
   have h2a := lHa _ _ h2
   have h3a := lHa _ _ h3
   have h4a := lHa _ _ h4
   have h5a := lHa _ _ h5
   have h6a := lHa _ _ h6
   refine ⟨h1a, ?_⟩
   have nnl : nb ≠ l := fun e => by rw [e, h1a] at h5a; cases h5a
   have nal : ab ≠ l := fun e => by rw [e, h1a] at h6a; cases h6a
   have nkl : kb ≠ l := fun e => by rw [e, h1a] at h3a; cases h3a
   have npl : pb ≠ l := fun e => by rw [e, h1a] at h4a; cases h4a
   have ntl : tb ≠ l := fun e => by rw [e, h1a] at vta; cases vta
   have ntn : tb ≠ nb := fun e => by rw [e, h5a] at vta; simp at vta
   have nta : tb ≠ ab := fun e => by rw [e, h6a] at vta; simp at vta
   have nrn : r ≠ nb := fun e => by rw [e, h5a] at h2a; cases h2a
   have nra : r ≠ ab := fun e => by rw [e, h6a] at h2a; cases h2a
   generalize hB : Hp.set Ha l (.loop { lo with state := .busy }) = Hb
   have vlb : Hb l = some (true, .loop { lo with state := .busy }) := by rw [<- hB, Aqw]
   have hbx : ∀ b x, b ≠ l -> Ha b = some x -> Hb b = some x := fun b x hn hx => by rw [<- hB, Aqp hn]; exact hx
   have b2 := hbx _ _ hlr h2a
   have b3 := hbx _ _ nkl h3a
   have b4 := hbx _ _ npl h4a
   have b5 := hbx _ _ nnl h5a
   have b6 := hbx _ _ nal h6a
   have bt := hbx _ _ ntl vta
   have hbf : Aqs (∀ b x, b ≠ l -> H b = some x -> Hb b = some x) := fun b x hn hx => by rw [<- hB, Aqp hn]; exact lHa _ _ hx
   replace hloe : Aqs _ := hloe
   clear hbx hB h1 h2 h3 h4 h5 h6 h1a h2a h3a h4a h5a h6a vta lHa hround
   have hck : call.toNat < xs.length := by omega
   have hcx : (ints xs)[call.toNat]? = some (.int .i64 (xs.getD call.toNat 0)) := Ajv (by simp [List.getD, List.getElem?_eq_getElem hck])
   have hcN : ((call.toNat : Nat) : Int) = call := by omega
   have hcnt : Aqs ((L ++ [xs]).countP (fun xs => xs.getD call.toNat 0 == piece) = L.countP (fun xs => xs.getD call.toNat 0 == piece) + if xs.getD call.toNat 0 == piece then 1 else 0) := by
    show _ = _
    rw [List.countP_append, List.countP_singleton]
   have hlen : Aqs (xs.length = 8) := hA
   generalize xs.getD call.toNat 0 = cv at hcx hcnt
   generalize hCP : List.countP (fun xs => xs.getD call.toNat 0 == piece) L = cp at b5 hcnt
   clear hA hone hne
   have hmt : Aqs (∀ (Hg : Hp) (cp' : Nat) (a : Act), a.defers = [] -> Hg l = Hb l -> Hg r = Hb r -> Hg kb = Hb kb -> Hg pb = Hb pb -> Hg nb = some (true, .cells #[.int .i64 (IntKind.i64.wrap (cp' : Nat))] 3 (0, 0)) -> Hg ab = some (true, .cells #[.int .i64 (IntKind.i64.wrap ((L.length : Nat) + 1))] 3 (0, 0)) -> (∀ b x, ¬ (b = l ∨ b = r ∨ b = nb ∨ b = ab ∨ b = kb ∨ b = pb) -> Hb b = some x -> Hg b = some x) -> (L ++ [xs]).countP (fun xs => xs.getD call.toNat 0 == piece) = cp' ->
     rnd l (fun e H' => ∃ t, e = .returned (.bool t) /\ cntS call piece l r nb ab kb pb lo t (L ++ [xs]) H' /\ ∀ (b : Nat) (x : Bool × Obj), ¬ (b = l ∨ b = r ∨ b = nb ∨ b = ab ∨ b = kb ∨ b = pb) -> H b = some x -> H' b = some x) .normal a Hg) := by
    intro Hg cp' a ha g1 g2 g3 g4 g5 g6 g7 hz
    refine ⟨ha, _, g1.trans vlb, true, rfl, ?_, ?_⟩
    ·have hloe' : ({ ({ lo with state := LoopState.busy } : Loop) with state := .ready, pending := none } : Loop) = lo := hloe
     rw [hloe']
     refine ⟨rfl, Aqw, (Aqp hlr).trans (g2.trans b2), (Aqp nkl).trans (g3.trans b3), (Aqp npl).trans (g4.trans b4), (Aqp nnl).trans ?_, (Aqp nal).trans ?_⟩
     ·rw [g5, hz]
     ·rw [g6, List.length_append]; rfl
    ·intro b x hb hx
     have n1 : b ≠ l := fun h => hb (.inl h)
     rw [Aqp n1]
     exact g7 b x hb ((show ∀ b x, b ≠ l -> H b = some x -> Hb b = some x from hbf) b x n1 hx)
   clear hbf hloe
   replace hCP : Aqs _ := hCP
   (refine @unH _ ?_; refine zA (And.intro Az3 @Bool.or_true) ?_; (repeat (refine inC ?_; intro hc)); try (refine inK ?_; intro K hK))
   (refine Az2 5 [(true, 0), (true, 1), (true, 2), (true, 3), (true, 4)] (by kernel_rfl) (by kernel_rfl) (by simp) (by kernel_rfl) ?_; intro K hK; (iterate 5 (refine @unH _ ?_; refine z3 (And.intro Az3 @Bool.or_true) ?_)); refine Ax1 (hK _ _ ?_); clear hK K; (try simp only [nq, ↓reduceIte, Nat.reduceEqDiff]))
   have hmt' := (show ∀ (Hg : Hp) (cp' : Nat) (a : Act), _ from hmt)
   have hcnt' : (L ++ [xs]).countP (fun xs => xs.getD call.toNat 0 == piece) = cp + if cv == piece then 1 else 0 := hcnt
   have nan2 : ab ≠ nb := nna.symm
   replace hmt' : Aqs _ := hmt'
   clear hmt hcnt
   cases hcp : (cv == piece) with
   | true =>
    rw [hcp, if_pos rfl] at hcnt'
    replace hcnt' : Aqs _ := hcnt'
    replace hcp : Aqs _ := hcp
    (refine @unH _ ?_; refine zA (And.intro Az3 @Bool.or_true) ?_; (repeat (refine inC ?_; intro hc)); try (refine inK ?_; intro K hK))
    refine (show ∀ (Hg : Hp) (cp' : Nat) (a : Act), _ from hmt') _ (cp + 1) _ rfl ?_ ?_ ?_ ?_ ?_ ?_ ?_ hcnt'
    ·rw [Aqp (Ne.symm nnl), Aqp (Ne.symm nal)]
    ·rw [Aqp nrn, Aqp nra]
    ·rw [Aqp nkn, Aqp nka]
    ·rw [Aqp npn, Aqp npa]
    ·rw [Aqw, Bxf]; rfl
    ·rw [Aqp nan2, Aqw, Bxf]
    ·intro b x hb hx
     rw [Aqp (fun e => hb (.inr (.inr (.inl e)))), Aqp (fun e => hb (.inr (.inr (.inr (.inl e)))))]
     exact hx
   | false =>
    rw [hcp, if_neg (by simp), Nat.add_zero] at hcnt'
    replace hcnt' : Aqs _ := hcnt'
    replace hcp : Aqs _ := hcp
    (refine @unH _ ?_; refine zA (And.intro Az3 @Bool.or_true) ?_; (repeat (refine inC ?_; intro hc)); try (refine inK ?_; intro K hK))
    refine (show ∀ (Hg : Hp) (cp' : Nat) (a : Act), _ from hmt') _ cp _ rfl ?_ ?_ ?_ ?_ ?_ ?_ ?_ hcnt'
    ·rw [Aqp (Ne.symm nal)]
    ·rw [Aqp nra]
    ·rw [Aqp nka]
    ·rw [Aqp npa]
    ·rw [Aqp nna]; exact b5
    ·rw [Aqw, Bxf]
    ·intro b x hb hx
     rw [Aqp (fun e => hb (.inr (.inr (.inr (.inl e)))))]
     exact hx
 generalize hG : Hp.set (Hp.set H5 r (.deferred (some []))) l (.loop lo) = H6
 have l56 : H5.le H6 := fun b x hx => by rw [<- hG]; exact Hp.le_set hl _ _ (Hp.le_set hr _ _ hx)
 have vl6 : H6 l = some (true, .loop lo) := by rw [<- hG, Aqw]
 have vr6 : H6 r = some (true, .deferred (some [])) := by rw [<- hG, Aqp hlr, Aqw]
 clear hG
 have h0nb : H nb = none := Hp.le_none (Hp.le_trans lH1 lH2) hnb
 have h0ab : H ab = none := Hp.le_none (Hp.le_trans lH1 lH2) hab2
 have l02 := Hp.le_trans lH1 lH2
 have nS : ∀ b x, H b = some x -> ¬ (b = l ∨ b = r ∨ b = nb ∨ b = ab ∨ b = kb ∨ b = pb) := fun b x hx h => by
  have h5 := l05 _ _ hx
  rcases h with rfl | rfl | rfl | rfl | rfl | rfl
  ·rw [hnl] at h5; cases h5
  ·rw [hr] at h5; cases h5
  ·rw [h0nb] at hx; cases hx
  ·rw [h0ab] at hx; cases hx
  ·rw [h0kb] at hx; cases hx
  ·rw [h0pb] at hx; cases hx
 have nSd : ∀ b x, b ≠ kb -> b ≠ pb -> H2 b = some x -> ¬ (b = l ∨ b = r ∨ b = nb ∨ b = ab ∨ b = kb ∨ b = pb) := fun b x n1 n2 hx h => by
  have h5 := l25 _ _ hx
  rcases h with rfl | rfl | rfl | rfl | rfl | rfl
  ·rw [hnl] at h5; cases h5
  ·rw [hr] at h5; cases h5
  ·rw [hnb] at hx; cases hx
  ·rw [hab2] at hx; cases hx
  ·exact n1 rfl
  ·exact n2 rfl
 have hst6 : ∀ x ∈ start, 0 <= x /\ x < 6 := fun x hx => by
  have := hd.ok.2.2.2.2.2.2.1 x hx; have := hd.ok.2.2.2.1; omega
 have hts6 : ∀ t ∈ ts, 0 <= t /\ t < 6 := hd.true.bnd hd.ok
 have hsl : start.length <= 1000 := by have := hd.ok.2.2.2.2.1; have := hd.ok.2.1; omega
 have hp1 : 1 <= places := hd.ok.1
 have nth : ¬ (thisb = l ∨ thisb = r ∨ thisb = nb ∨ thisb = ab ∨ thisb = kb ∨ thisb = pb) := fun h => by
  rcases h with e | e | e | e | e | e
  ·rw [e, hnl] at vth5; cases vth5
  ·rw [e, hr] at vth5; cases vth5
  ·rw [e, vnb5] at vth5; simp at vth5
  ·rw [e, vab5] at vth5; simp at vth5
  ·rw [e, vkb5] at vth5; simp at vth5
  ·rw [e, vpb5] at vth5; simp at vth5
 have ntv : ts ≠ [] -> ∀ b, rowB (.slice ta ts.length tc) = some b -> ¬ (b = l ∨ b = r ∨ b = nb ∨ b = ab ∨ b = kb ∨ b = pb) := fun hne b hb => by
  obtain ⟨b', o', p', c', fr', he, hb', _⟩ := SlI.get hd.truth (List.getElem?_eq_getElem (List.length_pos_iff.2 hne))
  subst he
  cases hb
  exact nS _ _ hb'
 have hblen : (Axl ts.length places ts (oOf start)).length <= 1679616 := Nat.le_trans (Bxp _ _ ts _ (Ava start 0 (by omega) hst6) hts6) (Nat.pow_le_pow_right (by decide) hl8)
 have hrun := Bkl main (A := fun xs => xs.length = 8) hdm hl8 hts6 hp1 hC (fun L H h => by cases h.1) (fun _ h => h) H6 ⟨rfl, vl6, vr6, l56 _ _ vkb5, l56 _ _ vpb5, l56 _ _ vnb5, l56 _ _ vab5⟩ (l56 _ _ vth5) (l56 _ _ vdb5) ((hd5.le l56).truth) ((hd5.le l56).st) hst6 hsl (Ay5 _ _ _ _ _ (l56 _ _ vmb5)) nth (nSd _ _ ndk ndp vdb2) (nSd _ _ nmk nmp vmb2) ntv
 refine hrun.runs.mono ?_
 clear hrun hC hround
 rintro _ H7 ⟨rfl, ⟨_, vl7, vr7, _, _, vnb7, vab7⟩, _, hfr7⟩
 have hcm : ((Axl ts.length places ts (oOf start)).map fun cs => cs ++ List.replicate (8 - ts.length) 0).countP (fun xs => xs.getD call.toNat 0 == piece) = (Axl ts.length places ts (oOf start)).countP fun cs => cs.getD call.toNat 0 == piece := by
  rw [List.countP_map]
  refine List.countP_congr fun cs hcs => ?_
  have hl := Ckr ((Bxo _).1 hcs)
  have : (cs ++ List.replicate (8 - ts.length) 0).getD call.toNat 0 = cs.getD call.toNat 0 := by
   simp only [List.getD]
   rw [List.getElem?_append_left (by omega)]
  simp only [Function.comp, this]
 rw [hcm] at vnb7
 rw [List.length_map] at vab7
 have hcl : ((Axl ts.length places ts (oOf start)).countP fun cs => cs.getD call.toNat 0 == piece) <= (Axl ts.length places ts (oOf start)).length := List.countP_le_length
 clear hcm
 generalize ((Axl ts.length places ts (oOf start)).countP fun cs => cs.getD call.toNat 0 == piece) = M at *
 generalize (Axl ts.length places ts (oOf start)).length = N at *
 rw [w64 (M : Int) (by omega) (by omega)] at vnb7
 rw [w64 (N : Int) (by omega) (by omega)] at vab7
 have nnl : nb ≠ l := fun e => by rw [e, vl7] at vnb7; cases vnb7
 have nal : ab ≠ l := fun e => by rw [e, vl7] at vab7; cases vab7
 have nHm : ∀ b x, H b = some x -> b ≠ mb := fun b x hx e => by have := lH1 _ _ hx; rw [e, hmb] at this; cases this
 have l07 : H.le H7 := fun b x hx => hfr7 _ _ (nS _ _ hx) (nHm b x hx) (l56 _ _ (l05 _ _ hx))
 have hnlH : ∀ b x, H b = some x -> b ≠ l := fun b x hx e => nS _ _ hx (.inl e)
 have nHr : ∀ b x, H b = some x -> b ≠ r := fun b x hx e => nS _ _ hx (.inr (.inl e))
 refine Ay6 vl7 hlo1 hlo2 ?_
 have vnb9 : (H7.set l (.loop { lo with state := .exhausted })) nb = _ := (Aqp nnl).trans vnb7
 have vab9 : (H7.set l (.loop { lo with state := .exhausted })) ab = _ := (Aqp nal).trans vab7
 have vr9 : (H7.set l (.loop { lo with state := .exhausted })) r = _ := (Aqp hlr).trans vr7
 have l09 : H.le (H7.set l (.loop { lo with state := .exhausted })) := fun b x hx => by rw [Aqp (hnlH b x hx)]; exact l07 _ _ hx
 generalize H7.set l (.loop { lo with state := .exhausted }) = H9 at *
 clear vl7 vr7 vnb7 vab7 l07 hfr7 hlo1 hlo2 hloe vl6 vr6 l56 vnb5 vab5 vkb5 vpb5 vth5 vdb5 vmb5 hd5 hd2 hd1 l25 l05 l02 nS nSd nth ntv hl hr hnl vdb2 vmb2 vkb2 vpb2 vvb2 lH1 lH2 e39
 (try simp only [nq, ↓reduceIte, Nat.reduceEqDiff])
 have hv : Dqk M N = if 0 < M /\ M < N then 3 else if M = 0 then 2 else 1 := rfl
 by_cases hM : 0 < M
 ·have hM0 : (M : Int) ≠ 0 := by omega
  have hMz : ¬ M = 0 := by omega
  by_cases hMN : M < N
  ·rw [if_pos ⟨hM, hMN⟩] at hv
   rw [hv]
   clear hv
   (refine @unH _ ?_; refine zA Az3 ?_; (repeat (refine inC ?_; intro hc)); try (refine inK ?_; intro K hK))
   refine Ax7 ?_
   (try simp only [nq, ↓reduceIte, Nat.reduceEqDiff])
   refine Avn vr9 ?_
   rw [Akc Tryz.results42 (by decide) (by decide)]
   exact ⟨by first | rfl | trivial, fun b x hx => by rw [Aqp (nHr b x hx)]; exact l09 _ _ hx⟩
  ·rw [if_neg (fun h => hMN h.2), if_neg hMz] at hv
   rw [hv]
   clear hv
   (refine @unH _ ?_; refine zA Az3 ?_; (repeat (refine inC ?_; intro hc)); try (refine inK ?_; intro K hK))
   refine Ax7 ?_
   (try simp only [nq, ↓reduceIte, Nat.reduceEqDiff])
   refine Avn vr9 ?_
   rw [Akc Tryz.results42 (by decide) (by decide)]
   exact ⟨by first | rfl | trivial, fun b x hx => by rw [Aqp (nHr b x hx)]; exact l09 _ _ hx⟩
 ·obtain rfl : M = 0 := by omega
  rw [if_neg (fun h => hM h.1), if_pos rfl] at hv
  rw [hv]
  clear hv
  (refine @unH _ ?_; refine zA Az3 ?_; (repeat (refine inC ?_; intro hc)); try (refine inK ?_; intro K hK))
  refine Ax7 ?_
  (try simp only [nq, ↓reduceIte, Nat.reduceEqDiff])
  refine Avn vr9 ?_
  rw [Akc Tryz.results42 (by decide) (by decide)]
  exact ⟨by first | rfl | trivial, fun b x hx => by rw [Aqp (nHr b x hx)]; exact l09 _ _ hx⟩
end Go.Proofs.YtgniilnljeedlaaGreatDoor
end
section
namespace Go.Proofs.YtgniilnljeedlaaGreatDoor
open Go Go.X
def Aj0 := And.intro (fun H => Aqh (H := H) Tryz.underlying25 (i := 3) rfl (off := 3) rfl Tryz.sizeOf23) (And.intro (fun H => Aqd (H := H) Tryz.underlying23 rfl) (And.intro (fun H => Aq5 (H := H) Tryz.underlying23) (And.intro (fun H => Av9 (H := H) Tryz.underlying22 Tryz.sizeOf3 Tryz.zeroValue3 rfl Tryz.typeInfo3 (by decide)) (And.intro (fun H => Aq1 (H := H) (P := Tryz.prog) (h := Tryz.zeroValue22)) (And.intro (fun H => Ajy (H := H) Tryz.sizeOf22) (And.intro (fun H => Aqd (H := H) Tryz.underlying22 rfl) (And.intro (fun H => Aq1 (H := H) (P := Tryz.prog) (h := Tryz.zeroValue89)) (And.intro (fun H => Aw9 (H := H) Tryz.sizeOf89) (And.intro (fun H => Ak1 (H := H) Tryz.sizeOf89) (fun H => Aqd (H := H) Tryz.underlying89 rfl))))))))))
def Avg := And.intro (fun H => Aqd (H := H) Tryz.underlying22 rfl) (And.intro (fun H => Aq5 (H := H) Tryz.underlying22) (And.intro (fun H => Aqd (H := H) Tryz.underlying55 rfl) (And.intro (fun H => Aqh (H := H) Tryz.underlying25 (i := 3) rfl (off := 3) rfl Tryz.sizeOf23) (And.intro (fun H => Aqd (H := H) Tryz.underlying23 rfl) (And.intro (fun H => Aqq (H := H) Tryz.underlying23 Tryz.sizeOf22) (And.intro (fun H => Aqq (H := H) Tryz.underlying22 Tryz.sizeOf3) (And.intro (fun H => Aqd (H := H) Tryz.underlying3 rfl) (And.intro (fun H => Axo (H := H) Tryz.sizeOf3) (fun H => Aqd (H := H) Tryz.underlying89 rfl)))))))))
def Aqz : List (List Int) -> List (List Int)
 | [] => [[]]
 | l :: r => l.flatMap fun p => (Aqz r).map (p :: ·)
structure TruM (base : Hp) (S : Nat -> Prop) (T : Bool -> List (List Int) -> Hp -> Prop) (y : Value) (n vb yb tb gb rb : Nat) (t : Bool) (L : List (List Int)) (xs : List Int) (H : Hp) : Prop where
 cl : T t L H
 vy : H yb = some (true, .cells #[y] 55 (0, 0))
 vt : H tb = some (true, .cells #[.slice (some ⟨rb, 0, none⟩) n n] 22 (0, 0))
 vr : H rb = some (true, .cells (ints xs).toArray 3 (0, 0))
 vg : H gb = some (true, .cells #[.func (.func 154) #[] #[.pointer (some ⟨tb, 0, none⟩), .pointer (some ⟨yb, 0, none⟩), .pointer (some ⟨vb, 0, none⟩), .pointer (some ⟨gb, 0, none⟩)]] 89 (0, 0))
 ln : xs.length = n
 ny : ¬ S yb
 nt : ¬ S tb
 nr : ¬ S rb
 ng : ¬ S gb
 bl : base.le H
theorem TruM.put {base : Hp} {P : Program} {main : Md} {S : Nat -> Prop} {A : List Int -> Prop} {arg : Hp -> Value -> List Int -> Prop} {T : Bool -> List (List Int) -> Hp -> Prop} {y : Value} {n vb yb tb gb rb : Nat} {t : Bool} {L : List (List Int)} {xs : List Int} {H : Hp}
  (hP : TruM base S T y n vb yb tb gb rb t L xs H) (hC : Akn P main y S arg A T) (hbS : ∀ b x, base b = some x -> ¬ S b /\ b ≠ rb) (c : Nat) (s : Int) : TruM base S T y n vb yb tb gb rb t L (xs.set c s) (H.set rb (.cells (ints (xs.set c s)).toArray 3 (0, 0))) := by
 have vr := hP.vr
 have hk : ∀ b x, H b = some x -> (∀ c, x ≠ (true, .cells c 3 (0, 0))) -> (H.set rb (.cells (ints (xs.set c s)).toArray 3 (0, 0))) b = some x := fun b x hx hn => by
  rw [Aqp (fun e => hn (ints xs).toArray (by rw [e, vr] at hx; exact (Option.some.inj hx).symm))]; exact hx
 exact { hP with cl := hC.keep _ _ _ _ hP.cl (fun b x hb hx => by rw [Aqp (fun e : b = rb => hP.nr (by rw [<- e]; exact hb))]; exact hx), vy := hk _ _ hP.vy (fun c e => by cases e), vt := hk _ _ hP.vt (fun c e => by cases e), vr := Aqw, vg := hk _ _ hP.vg (fun c e => by cases e), ln := by rw [List.length_set]; exact hP.ln, bl := fun b x hx => by rw [Aqp (hbS b x hx).2]; exact hP.bl b x hx }
theorem Cva (main : Md) {S : Nat -> Prop} {A : List Int -> Prop} {T : Bool -> List (List Int) -> Hp -> Prop} {yf : Fn} {yi yc : Array Value} {places pieces : Int} {sv cv : Value} {xss : List (List Int)} {vb yb tb gb rb : Nat} {base : Hp} {q : Bool} (hl8 : xss.length <= 8) (hrl : ∀ l ∈ xss, l.length <= 1000)
  (hC : Akn Tryz.prog main (.func yf yi yc) S (fun H v l => SlI H v l /\ base.le H) A T) (hgo : ∀ L H, ¬ T false L H) (hA : ∀ l, Azz xss l -> A l) (hcs : SlR base cv xss) (hvb : base vb = some (q, .cells #[.int .i64 places, .int .i64 pieces, sv, cv] 25 (0, 0))) (hbS : ∀ b x, base b = some x -> ¬ S b /\ b ≠ rb) :
  ∀ (n c : Nat) (xs : List Int) (L : List (List Int)) (H : Hp), xss.length - c = n -> c <= xss.length -> (∀ (i : Nat) (t : Int) (l : List Int), i < c -> xs[i]? = some t -> xss[i]? = some l -> t ∈ l) -> TruM base S T (.func yf yi yc) xss.length vb yb tb gb rb true L xs H ->
   FnX Tryz.prog main 154 #[.int .i64 (c : Nat), .pointer (some ⟨tb, 0, none⟩), .pointer (some ⟨yb, 0, none⟩), .pointer (some ⟨vb, 0, none⟩), .pointer (some ⟨gb, 0, none⟩)] H fun e H' => e = .returned (.bool true) /\
    ∃ xs', xs'.take c = xs.take c /\ TruM base S T (.func yf yi yc) xss.length vb yb tb gb rb true (L ++ (Aqz (xss.drop c)).map (xs.take c ++ ·)) xs' H' := by
 intro n
 induction n using Nat.strongRecOn with
 | _ n ih =>
 intro c xs L H hn hc hok hP
 obtain ⟨ca, cc, rfl, hcc, _⟩ := id hcs
 have vt := hP.vt
 have vr := hP.vr
 have vbH := hP.bl _ _ hvb
 have hln := hP.ln
 replace hbS : Aqs _ := hbS
 replace hrl : Aqs _ := hrl
 replace hA : Aqs _ := hA
 replace hgo : Aqs _ := hgo
 replace ih : Aqs _ := ih
 replace hok : Aqs _ := hok
 refine Aqk Tryz.func154 rfl Tryz.ntmps154 (by simp) ?_
 by_cases hce : c = xss.length
 ·subst hce
  have vy := hP.vy
  have hti : SlI H (.slice (some ⟨rb, 0, none⟩) xss.length xss.length) xs := ⟨_, _, by rw [hln], by omega, fun i x hi => ⟨rb, 0, true, _, (0, 0), rfl, vr, by rw [Nat.zero_add]; simpa using Ajv hi⟩⟩
  (refine @unH _ ?_; refine zA Avg ?_; (repeat (refine inC ?_; intro hc)); try (refine inK ?_; intro K hK))
  have hTr : Azz xss xs := ⟨hln, fun i t l h1 h2 => (show ∀ (i : Nat) (t : Int) (l : List Int), i < xss.length -> xs[i]? = some t -> xss[i]? = some l -> t ∈ l from hok) i t l (List.getElem?_eq_some_iff.1 h2).1 h1 h2⟩
  refine Bj3.use (hC.call L H _ xs hP.cl ⟨hti, hP.bl⟩ ((show ∀ l, Azz xss l -> A l from hA) _ hTr)) ?_
  rintro _ H2 ⟨t, rfl, hT, hk⟩
  cases t with
  | false => exact absurd hT ((show ∀ L H, ¬ T false L H from hgo) _ _)
  | true =>
   have hP2 : TruM base S T (.func yf yi yc) xss.length vb yb tb gb rb true (L ++ [xs]) xs H2 :=
    {hP with cl := hT, vy := hk _ _ hP.ny hP.vy, vt := hk _ _ hP.nt hP.vt, vr := hk _ _ hP.nr hP.vr, vg := hk _ _ hP.ng hP.vg, bl := fun b x hx => hk _ _ ((show ∀ b x, base b = some x -> ¬ S b /\ b ≠ rb from hbS) b x hx).1 (hP.bl b x hx) }
   clear hk hTr hti vy vr vt vbH hP
   ((try (refine @unH _ ?_; refine zX Avg ?_)); (try (refine hK _ _ ?_; clear hK K; (try simp only [nq, ↓reduceIte, Nat.reduceEqDiff]))); refine @unH _ ?_; refine zA Avg ?_; (repeat (refine inC ?_; intro hc)); try (refine inK ?_; intro K hK))
   (refine @unH _ ?_; refine z9 Tryz.results154 ?_)
   refine ⟨by trivial, xs, rfl, ?_⟩
   rw [List.drop_length, List.take_of_length_le (by omega)]
   simpa [Aqz] using hP2
 ·have hlt : c < xss.length := by omega
  have hne : (c : Int) ≠ (xss.length : Int) := by omega
  obtain ⟨cb, co, cp, cx, cfr, cw, rfl, hcb, hcx, hrow⟩ := SlR.get hcs (List.getElem?_eq_getElem hlt)
  have hcbH := hP.bl _ _ hcb
  have hcx' : cx[co + (c : Int).toNat * 1]? = some cw := by simpa using hcx
  have hrowl : (xss[c]).length <= 1000 := (show ∀ l ∈ xss, l.length <= 1000 from hrl) _ (List.getElem_mem hlt)
  have hxc := List.getElem?_eq_getElem hlt
  have htr : Aqz (xss.drop c) = xss[c].flatMap fun p => (Aqz (xss.drop (c + 1))).map (p :: ·) := by
   rw [List.drop_eq_getElem_cons hlt]; rfl
  generalize xss[c] = row at *
  obtain ⟨ra, rc, rfl, hrc, _⟩ := id hrow
  replace htr : Aqs _ := htr
  replace hxc : Aqs _ := hxc
  (refine @unH _ ?_; refine zA Avg ?_; (repeat (refine inC ?_; intro hc)); try (refine inK ?_; intro K hK))
  obtain ⟨F, hF⟩ : ∃ F : Int -> List (List Int), F = fun p => (Aqz (xss.drop (c + 1))).map fun cs => xs.take c ++ (p :: cs) := ⟨_, rfl⟩
  have hFS : Aqs ((Aqz (xss.drop c)).map (xs.take c ++ ·) = row.flatMap F) := by
   show _ = _
   rw [show Aqz (xss.drop c) = _ from htr, List.map_flatMap, hF]
   congr 1
   funext p
   rw [List.map_map]; rfl
  replace hF : Aqs _ := hF
  refine Axe (fun w a' H' => ∃ e i ys, w = row.length - i /\ i <= row.length /\ a' = act 36 e [] /\ e 0 = .int .i64 (c : Nat) /\ e 1 = .pointer (some ⟨tb, 0, none⟩) /\ e 2 = .pointer (some ⟨yb, 0, none⟩) /\ e 3 = .pointer (some ⟨vb, 0, none⟩) /\ e 4 = .pointer (some ⟨gb, 0, none⟩) /\ e 20 = .slice ra row.length rc /\ e 21 = .int .i64 row.length /\ e 22 = .int .i64 (i : Nat) /\ Aqs (ys.take c = xs.take c) /\ TruM base S T (.func yf yi yc) xss.length vb yb tb gb rb true (L ++ (row.take i).flatMap F) ys H') (n := row.length) ?_ ?_
  ·exact ⟨_, 0, xs, by omega, by omega, rfl, rfl, rfl, rfl, rfl, rfl, rfl, rfl, rfl, rfl, by simpa using hP⟩
  ·clear hP vt vr vbH hcbH hln
   rintro w a' H5 ⟨e, i, ys, rfl, hi, rfl, e0, e1, e2, e3, e4, e20, e21, e22, hys, hP5⟩
   by_cases hlt2 : i < row.length
   ·obtain ⟨b6, o6, p6, c6, fr6, rfl, hb6, hc6⟩ := SlI.get hrow (List.getElem?_eq_getElem hlt2)
    have hpi := List.getElem?_eq_getElem hlt2
    generalize row[i] = p at *
    have hb6H := hP5.bl _ _ hb6
    have hc6' : c6[o6 + (i : Int).toNat * 1]? = some (.int .i64 p) := by simpa using hc6
    have vt5 := hP5.vt
    have vr5 := hP5.vr
    have vg5 := hP5.vg
    have hyl := hP5.ln
    have ngr : gb ≠ rb := fun e => by rw [e, vr5] at vg5; simp at vg5
    have hil : (ints ys).length = xss.length := by rw [Aq7]; exact hyl
    have hcl : c < (ints ys).length := by omega
    have hset : (ints ys).set c (.int .i64 p) = ints (ys.set c p) := Az7 _ _ _
    replace hpi : Aqs _ := hpi
    (refine @unH _ ?_; refine zA Avg ?_; (repeat (refine inC ?_; intro hc)); try (refine inK ?_; intro K hK))
    have hbS' := (show ∀ b x, base b = some x -> ¬ S b /\ b ≠ rb from hbS)
    have hP10 := hP5.put hC hbS' c p
    generalize H5.set rb (.cells (ints (ys.set c p)).toArray 3 (0, 0)) = H10 at *
    have hys' : ys.take c = xs.take c := hys
    have hpi' : row[i]? = some p := hpi
    have hxc' : xss[c]? = some row := hxc
    have hok' : ∀ (j : Nat) (t : Int) (l : List Int), j < c + 1 -> (ys.set c p)[j]? = some t -> xss[j]? = some l -> t ∈ l := fun j t l hj h1 h2 => by
     by_cases hjc : j = c
     ·subst hjc
      rw [List.getElem?_set_self (by omega)] at h1
      rw [hxc'] at h2
      cases h1
      cases h2
      exact List.mem_of_getElem? hpi'
     ·rw [List.getElem?_set_ne (fun e => hjc e.symm)] at h1
      have h3 : xs[j]? = some t := by
       have h4 := congrArg (fun l => l[j]?) hys'
       simp only [List.getElem?_take_of_lt (show j < c by omega)] at h4
       rw [<- h4]; exact h1
      exact (show ∀ (i : Nat) (t : Int) (l : List Int), i < c -> xs[i]? = some t -> xss[i]? = some l -> t ∈ l from hok) j t l (by omega) h3 h2
    have hrec := (show ∀ n', n' < n -> _ from ih) (xss.length - (c + 1)) (by omega) (c + 1) (ys.set c p) _ H10 rfl (by omega) hok' hP10
    rw [Cxg, Ax8]
    simp only [Array.empty_append, List.append_toArray, List.cons_append, List.nil_append]
    rw [show ((c : Int) + 1) = ((c + 1 : Nat) : Int) by omega]
    refine hrec.runs.mono ?_
    rintro _ H11 ⟨rfl, zs, hz1, hP11⟩
    have hzs : Aqs (zs.take c = xs.take c) := by
     have := congrArg (List.take c) hz1
     rw [List.take_take, List.take_take, Nat.min_eq_left (by omega), List.take_set_of_le (Nat.le_refl _)] at this
     exact this.trans hys'
    have hP12 : TruM base S T (.func yf yi yc) xss.length vb yb tb gb rb true (L ++ (row.take (i + 1)).flatMap F) zs H11 := by
     have hl : L ++ (row.take (i + 1)).flatMap F = L ++ (row.take i).flatMap F ++ (Aqz (xss.drop (c + 1))).map ((ys.set c p).take (c + 1) ++ ·) := by
      rw [List.take_add_one, hpi', Option.toList_some, List.flatMap_append, List.flatMap_singleton, show F = _ from hF, List.append_assoc, Awe _ _ _ (by omega), hys']
      simp
     rw [hl]
     exact hP11
    clear hrec hP10 hP11 hz1 hys hys' hok' hP5 vt5 vr5 vg5 hb6H hc6 hc6' hset hil hcl hyl ngr hpi hpi' hxc' hb6 hbS'
    ((try (refine @unH _ ?_; refine zX Avg ?_)); (try (refine hK _ _ ?_; clear hK K; (try simp only [nq, ↓reduceIte, Nat.reduceEqDiff]))); refine @unH _ ?_; refine zA Avg ?_; (repeat (refine inC ?_; intro hc)); try (refine inK ?_; intro K hK))
    refine ⟨_, ?_, _, i + 1, zs, rfl, by omega, rfl, e0, e1, e2, e3, e4, e20, e21, rfl, hzs, hP12⟩
    omega
   ·obtain rfl : i = row.length := by omega
    (refine @unH _ ?_; refine zA Avg ?_; (repeat (refine inC ?_; intro hc)); try (refine inK ?_; intro K hK))
    (refine @unH _ ?_; refine z9 Tryz.results154 ?_)
    refine ⟨by trivial, ys, hys, ?_⟩
    rw [show (Aqz (xss.drop c)).map (xs.take c ++ ·) = _ from hFS]
    rw [List.take_length] at hP5
    exact hP5
theorem Cqz (main : Md) (H : Hp) (places pieces : Int) (sa : Option Addr) (sn sc : Nat) (ca : Option Addr) (cn cc : Nat) (ba : Option Addr) (bn bc : Nat) :
  FnX Tryz.prog main 126 #[.agg #[.int .i64 places, .int .i64 pieces, .slice sa sn sc, .slice ca cn cc], .slice ba bn bc] H fun e H' => ∃ vb bb, e = .returned (.func (.func 153) #[] #[.pointer (some ⟨vb, 0, none⟩), .pointer (some ⟨bb, 0, none⟩)]) /\
   H' vb = some (true, .cells #[.int .i64 places, .int .i64 pieces, .slice sa sn sc, .slice ca cn cc] 25 (0, 0)) /\ H' bb = some (true, .cells #[.slice ba bn bc] 22 (0, 0)) /\ H.le H' /\ H vb = none /\ H bb = none := by
 refine Aqk Tryz.func126 rfl Tryz.ntmps126 (by simp) ?_
 (refine @unH _ ?_; refine zA trivial ?_; (repeat (refine inC ?_; intro hc)); try (refine inK ?_; intro K hK))
 intro vb hvb bb hbb
 replace hbb : (Hp.set H vb _) bb = none := hbb
 generalize hG : Hp.set H vb _ = Ha at hbb ⊢
 have lHa := Aqg hG hvb
 have vvb := Aqf hG
 clear hG
 generalize hG : Hp.set Ha bb _ = H1
 have lHb := Aqg hG hbb
 have vbb := Aqf hG
 clear hG
 ((try (refine @unH _ ?_; refine zX trivial ?_)); (try (refine hK _ _ ?_; clear hK K; (try simp only [nq, ↓reduceIte, Nat.reduceEqDiff]))); refine @unH _ ?_; refine zA trivial ?_; (repeat (refine inC ?_; intro hc)); try (refine inK ?_; intro K hK))
 (refine @unH _ ?_; refine z9 Tryz.results126 ?_)
 exact ⟨vb, bb, rfl, lHb _ _ vvb, vbb, Hp.le_trans lHa lHb, hvb, Hp.le_none lHa hbb⟩
open Classical in
theorem Byi (main : Md) {S : Nat -> Prop} {A : List Int -> Prop} {T : Bool -> List (List Int) -> Hp -> Prop} {yf : Fn} {yi yc : Array Value} {places pieces : Int} {sv cv : Value} {xss : List (List Int)} {vb bb gb0 : Nat} {KB : Hp} {q q2 q3 : Bool} (hl8 : xss.length <= 8) (hl1 : 1 <= xss.length) (hrl : ∀ l ∈ xss, l.length <= 1000)
  (hC : Akn Tryz.prog main (.func yf yi yc) S (fun H v l => SlI H v l /\ KB.le H) A T) (hgo : ∀ L H, ¬ T false L H) (hA : ∀ l, Azz xss l -> A l) (hcs : SlR KB cv xss) (hvb : KB vb = some (q, .cells #[.int .i64 places, .int .i64 pieces, sv, cv] 25 (0, 0))) (hKS : ∀ b x, KB b = some x -> ¬ S b)
  (H : Hp) (hKB : KB.le H) (hT : T true [] H) (p : Int) (hp : ∀ l, xss[0]? = some l -> p ∈ l) (hbb : H bb = some (q2, .cells #[.slice (some ⟨gb0, 0, none⟩) 1 1] 22 (0, 0))) (hg0 : H gb0 = some (q3, .cells #[.int .i64 p] 3 (0, 0))) :
  FnX Tryz.prog main 153 #[.func yf yi yc, .pointer (some ⟨vb, 0, none⟩), .pointer (some ⟨bb, 0, none⟩)] H fun e H' => e = .returned (.tuple #[]) /\ T true ((Aqz (xss.drop 1)).map (p :: ·)) H' /\ ∀ b x, ¬ S b -> H b = some x -> H' b = some x := by
 obtain ⟨ca, cc, rfl, hcc, _⟩ := id hcs
 have vb0 := hKB _ _ hvb
 replace hKS : Aqs _ := hKS
 replace hrl : Aqs _ := hrl
 replace hA : Aqs _ := hA
 replace hgo : Aqs _ := hgo
 replace hp : Aqs _ := hp
 refine Aqk Tryz.func153 rfl Tryz.ntmps153 (by simp) ?_
 (refine @unH _ ?_; refine zA (And.intro Aj0 (And.intro @Aqt @cells_func)) ?_; (repeat (refine inC ?_; intro hc)); try (refine inK ?_; intro K hK))
 (intro yb hyb; generalize hG : Hp.set _ yb _ = H1; have lH1 := Aqg hG hyb; have vyb := Aqf hG; clear hG)
 have vb1 := lH1 _ _ vb0
 have hbb1 := lH1 _ _ hbb
 have hg1 := lH1 _ _ hg0
 have hT1 := hC.keep _ _ _ H1 hT fun b x _ hx => lH1 _ _ hx
 have ny : ¬ S yb := fun h => hC.ex _ _ _ _ hT h hyb
 ((try (refine @unH _ ?_; refine zX (And.intro Aj0 (And.intro @Aqt @cells_func)) ?_)); (try (refine hK _ _ ?_; clear hK K; (try simp only [nq, ↓reduceIte, Nat.reduceEqDiff]))); refine @unH _ ?_; refine zA (And.intro Aj0 (And.intro @Aqt @cells_func)) ?_; (repeat (refine inC ?_; intro hc)); try (refine inK ?_; intro K hK))
 intro rb hrb tb htb
 replace htb : (Hp.set H1 rb (.cells (Array.replicate xss.length (.int .i64 0)) 3 (0, 0))) tb = none := htb
 generalize hG : Hp.set H1 rb _ = H2 at htb
 have lH2 := Aqg hG hrb
 have vrb2 := Aqf hG
 clear hG
 generalize hG : Hp.set H2 tb _ = H3
 have lH3 := Aqg hG htb
 have vtb3 := Aqf hG
 clear hG
 have vrb3 := lH3 _ _ vrb2
 have l13 := Hp.le_trans lH2 lH3
 have hbb3 := l13 _ _ hbb1
 have hg3 := l13 _ _ hg1
 have vyb3 := l13 _ _ vyb
 have hT3 := hC.keep _ _ _ H3 hT1 fun b x _ hx => l13 _ _ hx
 have nr : ¬ S rb := fun h => hC.ex _ _ _ _ hT1 h hrb
 have nt : ¬ S tb := fun h => hC.ex _ _ _ _ hT1 h (Hp.le_none lH2 htb)
 have ntr : tb ≠ rb := fun e => by rw [e, vrb2] at htb; cases htb
 have nrB : ∀ b x, H b = some x -> b ≠ rb := fun b x hx e => by have := lH1 _ _ hx; rw [e, hrb] at this; cases this
 have l03 := Hp.le_trans lH1 l13
 have nrH : ∀ {x}, H rb ≠ some x := fun hx => nrB _ _ hx rfl
 have nyr : yb ≠ rb := fun e => by rw [<- e, vyb] at hrb; cases hrb
 have nbr : bb ≠ rb := fun e => nrB _ _ hbb e
 have ngr : gb0 ≠ rb := fun e => nrB _ _ hg0 e
 clear vrb2 hbb1 hg1 vyb hT hT1 lH1 lH2 lH3 l13 htb hrb hyb vb1
 have hrep : (Array.replicate xss.length (Value.int .i64 0)) = (ints (List.replicate xss.length 0)).toArray := by simp [ints]
 rw [hrep] at vrb3
 ((try (refine @unH _ ?_; refine zX (And.intro Aj0 (And.intro @Aqt @cells_func)) ?_)); (try (refine hK _ _ ?_; clear hK K; (try simp only [nq, ↓reduceIte, Nat.reduceEqDiff]))); refine @unH _ ?_; refine zA (And.intro Aj0 (And.intro @Aqt @cells_func)) ?_; (repeat (refine inC ?_; intro hc)); try (refine inK ?_; intro K hK))
 refine Bz3 Tryz.underlying22 Tryz.sizeOf3 _ _ rb 0 xss.length xss.length gb0 0 1 1 (cs2 := [.int .i64 p]) vrb3 hg3 (by simp [ints]; omega) (by simp; omega) (fun v hv => by have h := List.mem_of_mem_take hv; simp at h; subst h; rfl) _ _ ?_
 have hmin : min 1 xss.length = 1 := by omega
 have hov : over (ints (List.replicate xss.length 0)).toArray 0 (([Value.int .i64 p].drop 0).take (min 1 xss.length)) = (ints (p :: List.replicate (xss.length - 1) 0)).toArray := by
  rw [hmin, Avs _ _ _ (by simp [ints]; omega)]
  simp [ints, List.drop_replicate]
 rw [hov, hmin]
 have hln : (p :: List.replicate (xss.length - 1) (0 : Int)).length = xss.length := by simp; omega
 generalize hG : Hp.set H3 rb _ = H4
 have h34 : ∀ b x, b ≠ rb -> H3 b = some x -> H4 b = some x := fun b x hn hx => by rw [<- hG, Aqp hn]; exact hx
 have vrb4 : H4 rb = some (true, .cells (ints (p :: List.replicate (xss.length - 1) 0)).toArray 3 (0, 0)) := by rw [<- hG, Aqw]
 clear hG
 have vtb4 := h34 _ _ ntr vtb3
 have vyb4 := h34 _ _ nyr vyb3
 have hT4 := hC.keep _ _ _ H4 hT3 fun b x hb hx => h34 b x (fun e => nr (e ▸ hb)) hx
 have l04 : Aqs (H.le H4) := fun b x hx => h34 _ _ (nrB b x hx) (l03 b x hx)
 clear vrb3 hg3 vtb3 vyb3 hT3 h34 hov hrep hbb3 l03 nrB
 ((try (refine @unH _ ?_; refine zX (And.intro Aj0 (And.intro @Aqt @cells_func)) ?_)); (try (refine hK _ _ ?_; clear hK K; (try simp only [nq, ↓reduceIte, Nat.reduceEqDiff]))); refine @unH _ ?_; refine zA (And.intro Aj0 (And.intro @Aqt @cells_func)) ?_; (repeat (refine inC ?_; intro hc)); try (refine inK ?_; intro K hK))
 intro gb hgb
 have ng : ¬ S gb := fun h => hC.ex _ _ _ _ hT4 h hgb
 ((try (refine @unH _ ?_; refine zX (And.intro Aj0 (And.intro @Aqt @cells_func)) ?_)); (try (refine hK _ _ ?_; clear hK K; (try simp only [nq, ↓reduceIte, Nat.reduceEqDiff]))); refine @unH _ ?_; refine zA (And.intro Aj0 (And.intro @Aqt @cells_func)) ?_; (repeat (refine inC ?_; intro hc)); try (refine inK ?_; intro K hK))
 generalize hG : Hp.set H4 gb _ = H5
 have l45 : H4.le H5 := hG ▸ Hp.le_set hgb
 have vgb5 : H5 gb = some (true, .cells #[.func (.func 154) #[] #[.pointer (some ⟨tb, 0, none⟩), .pointer (some ⟨yb, 0, none⟩), .pointer (some ⟨vb, 0, none⟩), .pointer (some ⟨gb, 0, none⟩)]] 89 (0, 0)) := hG ▸ Aqw
 clear hG
 have hKS' := (show ∀ b x, KB b = some x -> ¬ S b from hKS)
 have l05 : H.le H5 := Hp.le_trans (show H.le H4 from l04) l45
 have hKb : KB.le (fun b => if S b then none else H b) := fun b x hx => by
  simp only [if_neg (hKS' b x hx)]
  exact hKB _ _ hx
 have hP : TruM (fun b => if S b then none else H b) S T (.func yf yi yc) xss.length vb yb tb gb rb true [] (p :: List.replicate (xss.length - 1) 0) H5 :=
  ⟨hC.keep _ _ _ H5 hT4 fun b x _ hx => l45 _ _ hx, l45 _ _ vyb4, l45 _ _ vtb4, l45 _ _ vrb4, vgb5, hln, ny, nt, nr, ng, fun b x hx => by
   by_cases hs : S b
   ·simp [hs] at hx
   ·simp only [if_neg hs] at hx; exact l05 _ _ hx⟩
 have hC' : Akn Tryz.prog main (.func yf yi yc) S (fun H' v l => SlI H' v l /\ Hp.le (fun b => if S b then none else H b) H') A T := ⟨hC.keep, hC.ex, fun L H' v l hT ha hA => hC.call L H' v l hT ⟨ha.1, Hp.le_trans hKb ha.2⟩ hA⟩
 have hrec := Cva main hl8 hrl hC' hgo hA (hcs.le hKb) (hKb _ _ hvb) (fun b x hx => by
  by_cases hs : S b
  ·simp [hs] at hx
  ·simp only [if_neg hs] at hx
   exact ⟨hs, fun e => by have h := (show H.le H4 from l04) _ _ hx; rw [e, vrb4] at h; exact nrH (e ▸ hx)⟩) (xss.length - 1) 1 (p :: List.replicate (xss.length - 1) 0) [] H5 rfl hl1 (fun i t l hi h1 h2 => by
    obtain rfl : i = 0 := by omega
    simp only [List.getElem?_cons_zero, Option.some.injEq] at h1
    subst h1
    exact (show ∀ l, xss[0]? = some l -> p ∈ l from hp) l h2) hP
 rw [Cxg, Ax8]
 simp only [Array.empty_append, List.append_toArray, List.cons_append, List.nil_append]
 refine hrec.runs.mono ?_
 rintro _ H6 ⟨rfl, xs', _, hP6⟩
 have hfin : T true ((Aqz (xss.drop 1)).map (p :: ·)) H6 := by simpa using hP6.cl
 have hfr : ∀ b x, ¬ S b -> H b = some x -> H6 b = some x := fun b x hs hx => hP6.bl b x (by simp only [if_neg hs]; exact hx)
 clear hrec hP hP6 hKb
 ((try (refine @unH _ ?_; refine zX (And.intro Aj0 (And.intro @Aqt @cells_func)) ?_)); (try (refine hK _ _ ?_; clear hK K; (try simp only [nq, ↓reduceIte, Nat.reduceEqDiff]))); refine @unH _ ?_; refine zA (And.intro Aj0 (And.intro @Aqt @cells_func)) ?_; (repeat (refine inC ?_; intro hc)); try (refine inK ?_; intro K hK))
 (refine @unH _ ?_; refine zD Tryz.results153 ?_)
 exact ⟨rfl, hfin, hfr⟩
end Go.Proofs.YtgniilnljeedlaaGreatDoor
end
