/- Texts VMeas VOver2 VOver1 VBd VTail. -/
import Derived.Test.YtgniilnljeedlaaGreatDoorJ19
set_option linter.defProp false
set_option linter.unusedSimpArgs false
set_option linter.unusedVariables false
set_option maxRecDepth 100000
set_option maxHeartbeats 2000000
section
namespace Go.Proofs.YtgniilnljeedlaaGreatDoor
open Go Go.X
def Bv5 := And.intro (fun H => Aq1 (H := H) (P := Tryz.prog) (h := Tryz.zeroValue124)) (And.intro @Bzz (And.intro @Bz0 (fun H => Aq3 (H := H) Tryz.sizeOf124)))
def Bxh := And.intro @Bqb @Bqa
def Aje := And.intro (fun H => Aqd (H := H) Tryz.underlying82 rfl) (And.intro (fun H => Aqh (H := H) Tryz.underlying97 (i := 1) rfl (off := 4) rfl Tryz.sizeOf22) (And.intro (fun H => Aqd (H := H) Tryz.underlying22 rfl) (And.intro (fun H => Aq5 (H := H) Tryz.underlying22) (And.intro @Bk4 (And.intro (fun H => Aq1 (H := H) (P := Tryz.prog) (h := Tryz.zeroValue85)) (And.intro (fun H => Aq3 (H := H) Tryz.sizeOf85) (And.intro @Bqb @Bqa)))))))
def y131_101 := And.intro (fun H => Aqd (H := H) Tryz.underlying82 rfl) (And.intro (fun H => Aqh (H := H) Tryz.underlying97 (i := 1) rfl (off := 4) rfl Tryz.sizeOf22) (And.intro (fun H => Aqd (H := H) Tryz.underlying22 rfl) (And.intro (fun H => Aq5 (H := H) Tryz.underlying22) (And.intro @Bk4 (And.intro (fun H => Aq1 (H := H) (P := Tryz.prog) (h := Tryz.zeroValue85)) (fun H => Aq3 (H := H) Tryz.sizeOf85))))))
structure Czg (H : Hp) (pl pieces : Int) (sv cv tv : Value) (start : List Int) (ts : List Int) (db mb : Nat) : Prop where
 d : H db = some (true, dayO pl pieces sv cv tv mb)
 m : H mb = some (true, .map #[] 0)
 n : db ≠ mb
 st : SlI H sv start
 tr : SlI H tv ts
theorem Czg.le {H H' : Hp} {pl pieces : Int} {sv cv tv : Value} {start ts : List Int} {db mb : Nat} (h : Czg H pl pieces sv cv tv start ts db mb) (hl : H.le H') : Czg H' pl pieces sv cv tv start ts db mb :=
 ⟨hl _ _ h.d, hl _ _ h.m, h.n, h.st.le hl, h.tr.le hl⟩
theorem Aj2.new {H : Hp} {mb L : Nat} {pl : Int} {ts : List Int} (h : H mb = some (true, .map #[] 0)) : Aj2 H mb L pl ts := ⟨_, _, h, by intro e he; cases he⟩
def Cj1 (main : Md) (base : Hp) (mv : Value) (pl : Int) (start : List Int) (A : List Int -> Prop) (F : List Int -> Int) : Prop :=
 ∀ (H : Hp) (pieces : Int) (sv cv tv : Value) (ts : List Int) (db mb : Nat), base.le H -> Czg H pl pieces sv cv tv start ts db mb -> A ts ->
  Bj3 Tryz.prog main mv #[.pointer (some ⟨db, 0, none⟩)] H fun e H' => e = .returned (.int .i64 (F ts)) /\ Lex (some mb) H H'
def TrA (ts : List Int) : Prop := ts.length <= 8 /\ ∀ t ∈ ts, 0 <= t /\ t < 6
def StA (start : List Int) : Prop := start.length <= 6 /\ ∀ t ∈ start, 0 <= t /\ t < 6
def fewF (pl : Int) (start ts : List Int) : Int := (optF ts.length pl ts (oOf start) : Nat)
def fetF (pl r : Int) (start ts : List Int) : Int := ((rrun pl r ts (rs0 start) ts.length).f : Nat)
theorem Bwu (main : Md) (H : Hp) (pl pieces : Int) (sv cv tv : Value) (start ts : List Int) (db mb : Nat) (hd : Czg H pl pieces sv cv tv start ts db mb) (hs : StA start) (ht : TrA ts) :
  FnX Tryz.prog main 129 #[.pointer (some ⟨db, 0, none⟩)] H fun e H' => e = .returned (.int .i64 (fewF pl start ts)) /\ Lex (some mb) H H' := by
 refine Aqk Tryz.func129 rfl Tryz.ntmps129 (by simp) ?_
 (refine @unH _ ?_; refine zA Bxh ?_; (repeat (refine inC ?_; intro hc)); try (refine inK ?_; intro K hK))
 refine (Aj6 main H db pl pieces _ _ _ start mb hd.d hd.st hs.2 (by have := hs.1; omega)).runs.mono ?_
 rintro _ H1 ⟨rfl, l1⟩
 have hd1 := hd.le l1
 have hm : oOf start < 64 := Ava start 0 (by omega) hs.2
 ((try (refine @unH _ ?_; refine zX Bxh ?_)); (try (refine hK _ _ ?_; clear hK K; (try simp only [nq, ↓reduceIte, Nat.reduceEqDiff]))); refine @unH _ ?_; refine zA Bxh ?_; (repeat (refine inC ?_; intro hc)); try (refine inK ?_; intro K hK))
 have hln := ht.1
 refine (Ajt main db pl pieces _ _ _ ts mb hd1.n (by omega) ht.2 _ 0 (oOf start) H1 rfl (by omega) hm hd1.d hd1.tr (.new hd1.m)).runs.mono ?_
 rintro _ H2 ⟨rfl, l2, _⟩
 ((try (refine @unH _ ?_; refine zX Bxh ?_)); (try (refine hK _ _ ?_; clear hK K; (try simp only [nq, ↓reduceIte, Nat.reduceEqDiff]))); refine @unH _ ?_; refine zA Bxh ?_; (repeat (refine inC ?_; intro hc)); try (refine inK ?_; intro K hK))
 (refine @unH _ ?_; refine z9 Tryz.results129 ?_)
 exact ⟨rfl, (Lex.of l1).trans l2⟩
theorem Bw9 (main : Md) (H : Hp) (pl pieces : Int) (sv cv tv : Value) (start ts : List Int) (db mb rb : Nat) (q : Bool) (r : Int) (hr0 : 0 <= r) (hr3 : r <= 3) (hrb : H rb = some (q, .cells #[Ajr r] 82 (0, 0))) (hd : Czg H pl pieces sv cv tv start ts db mb) (hs : StA start) (ht : TrA ts) :
  FnX Tryz.prog main 130 #[.pointer (some ⟨db, 0, none⟩), .pointer (some ⟨rb, 0, none⟩)] H fun e H' => e = .returned (.int .i64 (fetF pl r start ts - fewF pl start ts)) /\ Lex (some mb) H H' := by
 obtain ⟨ta, tc, rfl, htc, _⟩ := id hd.tr
 have hdd := hd.d
 simp only [dayO] at hdd
 have hr := fun HX (hX : H.le HX) => Azo (Cx4 main HX db pl pieces sv cv _ ts mb (hd.le hX).d (hd.le hX).tr start (hd.le hX).st hs.2 (by have := hs.1; omega) ht.1 ht.2 r hr0 hr3)
 replace hr : Aqs _ := hr
 have hOk := Bvw pl r ts start hs.2 ht.2 (by have := ht.1; omega) ts.length (Nat.le_refl _)
 generalize hcl : (rrun pl r ts (rs0 start) ts.length).cl = cl at hr
 have hcl8 : cl.length = 8 := by rw [<- hcl]; exact hOk.cl
 have hF8 := hOk.f
 clear hOk hcl
 have hf : ((rrun pl r ts (rs0 start) ts.length).f : Int) = fetF pl r start ts := rfl
 rw [hf] at hr
 generalize fetF pl r start ts = F at *
 have hF0 : 0 <= F /\ F <= 8 := by rw [<- hf]; exact ⟨by omega, by have := ht.1; omega⟩
 clear hf
 match cl, hcl8 with
 | [c0, c1, c2, c3, c4, c5, c6, c7], _ =>
 simp only [ints, List.map_cons, List.map_nil] at hr
 refine Aqk Tryz.func130 rfl Tryz.ntmps130 (by simp) ?_
 (refine @unH _ ?_; refine zA Aje ?_; (repeat (refine inC ?_; intro hc)); try (refine inK ?_; intro K hK))
 refine Ajl (fun HX => H.le HX) [12] (.take 0 (.take 1 (.take 2 (.take 3 (.take 4 (.take 5 (.take 6 (.take 7 (.take 8 (.take 9 (.free 10 (.one 11 (.one 12 (.free 13 .nil)))))))))))))) (by kernel_rfl) (by kernel_rfl) (by decide) (by kernel_rfl) ?_; intro K hK
 have hle0 : H.le H := Hp.le_refl _
 (iterate 7 (apply Axd rfl rfl rfl ‹_›; (focus (intro HX hHX; simp -implicitDefEqProofs (disch := first | omega | (simp only [qd] <;> omega)) only [xq, ↓xp, qc, Nat.reduceAdd, List.range, List.range.loop, fine, Nat.reduceEqDiff, ↓reduceIte, yielded, reduceCtorEq, Nat.reduceLT, Nat.reduceMul, Nat.reduceSub, one, Nat.reduceLeDiff, Aqa, Aje, aq, ↓ap, qe0, qe1, qe2, *, -hK, Aq0, hHX _ _ hrb, hHX _ _ hdd] <;> (first | exact rfl | exact ⟨rfl, rfl⟩ | exact ⟨rfl, trivial⟩))); simp -implicitDefEqProofs (disch := first | omega | (simp only [qd] <;> omega)) only [Aqn, Aqc]))
 (apply Axd rfl rfl rfl ‹_›; (focus (intro HX hHX; simp -implicitDefEqProofs (disch := first | omega | (simp only [qd] <;> omega)) only [xq, ↓xp, qc, Nat.reduceAdd, List.range, List.range.loop, fine, Nat.reduceEqDiff, ↓reduceIte, yielded, reduceCtorEq, Nat.reduceLT, Nat.reduceMul, Nat.reduceSub, one, Nat.reduceLeDiff, Aqa, Aje, aq, ↓ap, qe0, qe1, qe2, *, -hK, Azl]; exact hr HX hHX)); simp -implicitDefEqProofs (disch := first | omega | (simp only [qd] <;> omega)) only [Aqn, Aqc])
 (iterate 2 (apply Axd rfl rfl rfl ‹_›; (focus (intro HX hHX; simp -implicitDefEqProofs (disch := first | omega | (simp only [qd] <;> omega)) only [xq, ↓xp, qc, Nat.reduceAdd, List.range, List.range.loop, fine, Nat.reduceEqDiff, ↓reduceIte, yielded, reduceCtorEq, Nat.reduceLT, Nat.reduceMul, Nat.reduceSub, one, Nat.reduceLeDiff, Aqa, Aje, aq, ↓ap, qe0, qe1, qe2, *, -hK, Aq0] <;> (first | exact rfl | exact ⟨rfl, rfl⟩ | exact ⟨rfl, trivial⟩))); simp -implicitDefEqProofs (disch := first | omega | (simp only [qd] <;> omega)) only [Aqn, Aqc]))
 (apply Ax5 rfl rfl rfl; (focus (intro HX; simp -implicitDefEqProofs (disch := first | omega | (simp only [qd] <;> omega)) only [xq, ↓xp, qc, Nat.reduceAdd, List.range, List.range.loop, fine, Nat.reduceEqDiff, ↓reduceIte, yielded, reduceCtorEq, Nat.reduceLT, Nat.reduceMul, Nat.reduceSub, one, Nat.reduceLeDiff, Aqa, Aje, aq, ↓ap, qe0, qe1, qe2, *, -hK, Aq0] <;> (first | exact rfl | exact ⟨rfl, rfl⟩ | exact ⟨rfl, trivial⟩))); simp -implicitDefEqProofs (disch := first | omega | (simp only [qd] <;> omega)) only [Aqn, Aqc])
 refine Aq6 ?_
 (refine @unH _ ?_; refine zX Aje ?_)
 intro cb hcb
 have lc := Hp.le_set (o := .cells #[.int .i64 0, .int .i64 0, .int .i64 0, .int .i64 0, .int .i64 0, .int .i64 0, .int .i64 0, .int .i64 0] 85 (0, 0)) hcb
 have vcb : (H.set cb (.cells #[.int .i64 0, .int .i64 0, .int .i64 0, .int .i64 0, .int .i64 0, .int .i64 0, .int .i64 0, .int .i64 0] 85 (0, 0))) cb = _ := Aqw
 refine ⟨.inr fun _ => lc, ?_⟩
 refine Aq6 ?_
 (refine @unH _ ?_; refine zX Aje ?_)
 refine ⟨.inl (by decide), ?_⟩
 clear lc vcb hle0
 (apply Ax5 rfl rfl rfl; (focus (intro HX; simp -implicitDefEqProofs (disch := first | omega | (simp only [qd] <;> omega)) only [xq, ↓xp, qc, Nat.reduceAdd, List.range, List.range.loop, fine, Nat.reduceEqDiff, ↓reduceIte, yielded, reduceCtorEq, Nat.reduceLT, Nat.reduceMul, Nat.reduceSub, one, Nat.reduceLeDiff, Aqa, Aje, aq, ↓ap, qe0, qe1, qe2, *, -hK, Aq0] <;> (first | exact rfl | exact ⟨rfl, rfl⟩ | exact ⟨rfl, trivial⟩))); simp -implicitDefEqProofs (disch := first | omega | (simp only [qd] <;> omega)) only [Aqn, Aqc])
 refine Azw (hK _ _ ?_)
 clear hK K
 (try simp only [nq, ↓reduceIte, Nat.reduceEqDiff])
 have l1 := Hp.le_set (o := .cells #[.int .i64 c0, .int .i64 c1, .int .i64 c2, .int .i64 c3, .int .i64 c4, .int .i64 c5, .int .i64 c6, .int .i64 c7] 85 (0, 0)) hcb
 generalize Hp.set H cb _ = H1 at l1 ⊢
 (refine @unH _ ?_; refine zA Aje ?_; (repeat (refine inC ?_; intro hc)); try (refine inK ?_; intro K hK))
 have hd1 := hd.le l1
 refine (Aj6 main H1 db pl pieces _ _ _ start mb hd1.d hd1.st hs.2 (by have := hs.1; omega)).runs.mono ?_
 rintro _ H2 ⟨rfl, l2⟩
 have hd2 := hd1.le l2
 have hm : oOf start < 64 := Ava start 0 (by omega) hs.2
 ((try (refine @unH _ ?_; refine zX Aje ?_)); (try (refine hK _ _ ?_; clear hK K; (try simp only [nq, ↓reduceIte, Nat.reduceEqDiff]))); refine @unH _ ?_; refine zA Aje ?_; (repeat (refine inC ?_; intro hc)); try (refine inK ?_; intro K hK))
 refine (Ajt main db pl pieces _ _ _ ts mb hd2.n (by have := ht.1; omega) ht.2 _ 0 (oOf start) H2 rfl (by omega) hm hd2.d hd2.tr (.new hd2.m)).runs.mono ?_
 rintro _ H3 ⟨rfl, l3, _⟩
 have hw : IntKind.i64.wrap (F - (optF ts.length pl (ts.drop 0) (oOf start) : Nat)) = F - fewF pl start ts := by
  have h1 := Bqi ts.length pl ts (oOf start)
  have h2 := ht.1
  rw [List.drop_zero]
  unfold fewF
  exact w64 _ (by omega) (by omega)
 generalize ((optF ts.length pl (ts.drop 0) (oOf start) : Nat) : Int) = O at *
 ((try (refine @unH _ ?_; refine zX Aje ?_)); (try (refine hK _ _ ?_; clear hK K; (try simp only [nq, ↓reduceIte, Nat.reduceEqDiff]))); refine @unH _ ?_; refine zA Aje ?_; (repeat (refine inC ?_; intro hc)); try (refine inK ?_; intro K hK))
 (refine @unH _ ?_; refine z9 Tryz.results130 ?_)
 exact ⟨by trivial, ((Lex.of l1).trans (.of l2)).trans l3⟩
theorem Bwt (main : Md) (base : Hp) (pl : Int) (start : List Int) (hs : StA start) : Cj1 main base (.func (.func 129) #[] #[]) pl start TrA (fewF pl start) := by
 intro H pieces sv cv tv ts db mb _ hd ht K E h1 _
 rw [Bxs, Cw7]
 exact h1 _ _ _ (Bwu main H pl pieces sv cv tv start ts db mb hd hs ht).runs
theorem Bw8 (main : Md) (base : Hp) (pl : Int) (start : List Int) (hs : StA start) (r : Int) (hr0 : 0 <= r) (hr3 : r <= 3) (rb : Nat) (q : Bool) (hrb : base rb = some (q, .cells #[Ajr r] 82 (0, 0))) :
  Cj1 main base (.func (.func 130) #[] #[.pointer (some ⟨rb, 0, none⟩)]) pl start TrA (fun ts => fetF pl r start ts - fewF pl start ts) := by
 intro H pieces sv cv tv ts db mb hb hd ht K E h1 _
 rw [Bxs, Cw8]
 exact h1 _ _ _ (Bw9 main H pl pieces sv cv tv start ts db mb rb q r hr0 hr3 (hb _ _ hrb) hd hs ht).runs
theorem Ayc (main : Md) (H : Hp) :
  FnX Tryz.prog main 98 #[] H fun e H' => e = .returned (.agg #[.func (.func 129) #[] #[]]) /\ H.le H' := by
 refine Aqk Tryz.func98 rfl Tryz.ntmps98 (by simp) ?_
 (refine @unH _ ?_; refine zA Bv5 ?_; (repeat (refine inC ?_; intro hc)); try (refine inK ?_; intro K hK))
 intro b hb
 ((try (refine @unH _ ?_; refine zX Bv5 ?_)); (try (refine hK _ _ ?_; clear hK K; (try simp only [nq, ↓reduceIte, Nat.reduceEqDiff]))); refine @unH _ ?_; refine zA Bv5 ?_; (repeat (refine inC ?_; intro hc)); try (refine inK ?_; intro K hK))
 (refine Ax7 ?_; (try simp only [nq, ↓reduceIte, Nat.reduceEqDiff]); rw [Axw, Az8 Tryz.results98 (by decide) (b := b) (o := 0) rfl Tryz.underlying124 rfl Tryz.sizeOf124]; simp -implicitDefEqProofs (disch := first | omega | (simp only [qd] <;> omega)) only [xq, ↓xp, qc, Nat.reduceAdd, List.range, List.range.loop, fine, Nat.reduceEqDiff, ↓reduceIte, yielded, reduceCtorEq, Nat.reduceLT, Nat.reduceMul, Nat.reduceSub, one, Nat.reduceLeDiff, Aqa, Bv5])
 exact Hp.le_set hb
end Go.Proofs.YtgniilnljeedlaaGreatDoor
end
section
namespace Go.Proofs.YtgniilnljeedlaaGreatDoor
open Go Go.X
def Dqp := (fun H => Aqd (H := H) Tryz.underlying166 rfl)
open Go.Conc (G baseD rcase scase)
theorem Cqe (K : Hp) (c wg cb m : Nat) (vc : K cb = some (false, .cells #[.chan (some c)] 166 (0, 0))) :
  ∃ ρ, OthW Tryz.prog c wg lk.tWg ρ (Go.Conc.born Tryz.prog { target := .fn (.func 127) #[.pointer (some ⟨wg, 0, none⟩), .pointer (some ⟨cb, 0, none⟩)], args := #[] }) (.wait K 0 m) := by
 refine WPG.waitW ?_
 refine WPG.born (fun _ _ => Cw6 _) ?_
 rw [Ayt _ Tryz.func127 rfl, Tryz.ntmps127]
 rw [show ((#[] : Array Value) ++ #[.pointer (some ⟨wg, 0, none⟩), .pointer (some ⟨cb, 0, none⟩)]) = [Value.pointer (some ⟨wg, 0, none⟩), .pointer (some ⟨cb, 0, none⟩)].toArray from rfl]
 rw [Bqy (by simp), Ck4 rfl]
 have hJ := Quiet.wpg (P := Tryz.prog) (Stop := fun g' K' => ∃ ρ, OthW Tryz.prog c wg lk.tWg ρ g' (.wait K' 0 m)) (H := K)
 refine hJ.seq (hJ.region ?_)
 refine hJ.enter2 (rest := []) rfl rfl (by simp [baseD]) rfl (wgLib.f_wait) (Go.ConcR.Gen.nm_wait lk) rfl #[.pointer (some ⟨wg, 0, none⟩)] 83 (by simp [Aqm, Bj5]) rfl ?_
 refine .stop ?_ (Hp.le_refl _)
 refine waitW wgLib ?_ m
 refine WPG.lateW ?_
 rw [<- Ck4 rfl]
 refine (show WPG Tryz.prog (.own false) _ (G (fat (baseD 127) (act 4 (Bj5 [.pointer (some ⟨wg, 0, none⟩), .pointer (some ⟨cb, 0, none⟩)]) []) _) _) K from ?_)
 refine WPG.endX (WPG.regionX (WPG.op (rest := [1]) rfl rfl (by simp [baseD]) rfl ?_))
 unfold opX
 change wpS _ (execOp _ ⟨some 3, .load _ (.tmp 1), _, _, _, _⟩) _ _ _
 (refine @unH _ ?_; refine z7 @Dqp ?_)
 exact .stop (closeW rfl rfl rfl (by show ((act 4 _ []).put (some 3) _).eval _ = _; rw [Aqn (by decide), Aqm (by decide)]; rfl) rfl Tryz.func127 Tryz.results127) (Hp.le_refl _)
end Go.Proofs.YtgniilnljeedlaaGreatDoor
end
section
namespace Go.Proofs.YtgniilnljeedlaaGreatDoor
open Go Go.X
def Axv := And.intro (fun H => Aq1 (H := H) (P := Tryz.prog) (h := Tryz.zeroValue120)) (And.intro (fun H => Aqx (H := H) Tryz.underlying25 rfl Tryz.sizeOf25) (And.intro (fun H => Aqd (H := H) Tryz.underlying3 rfl) (And.intro @Axp (And.intro @Cw5 (And.intro (fun H => Aqh (H := H) Tryz.underlying124 (i := 0) rfl (off := 0) rfl Tryz.sizeOf122) (And.intro (fun H => Aqd (H := H) Tryz.underlying122 rfl) (And.intro @Bz1 (And.intro @Bk1 (And.intro (fun H => Aqd (H := H) Tryz.underlying166 rfl) (fun H => Aqx (H := H) Tryz.underlying120 rfl Tryz.sizeOf120))))))))))
open Go.Conc (G baseD rcase scase)
theorem Cky {P : Program} {H : Hp} (a : Act) (d : Option Tmp) (ty : TypeId) (pos : String) (af : Array Edge) (g : Option (Nat × Bool)) (K : Next -> Hp -> Prop) (E : Value -> Hp -> Prop) {f : FuncId} {args : Array Operand} {ats : Array TypeId} :
  wpS P (execOp a.eval ⟨d, .defer ⟨.value (.func f), args, ats⟩, ty, pos, af, g⟩) H K E = K (.defer { target := .fn (.func f) #[], args := args.map a.eval }) H := by
 rw [Cxo]
 simp [resolve, Deferred.ofValue, Aqi, Act.eval]
def bdV (b : Bd) : Value := .agg #[.int .i64 b.lo, .int .i64 b.hi, .bool b.some]
def bd0 : Bd := ⟨0, 0, false⟩
def bdT (F : List Int -> Int) (L : List (List Int)) : Bd := L.foldl (fun b t => Akv b (F t)) bd0
theorem Cwv (F : List Int -> Int) (L : List (List Int)) (t : List Int) : bdT F (L ++ [t]) = Akv (bdT F L) (F t) := by simp [bdT]
def Djb (F : List Int -> Int) (l r bb : Nat) (lo : Loop) (t : Bool) (L : List (List Int)) (H : Hp) : Prop :=
 t = true /\ H l = some (true, .loop lo) /\ H r = some (true, .deferred (some [])) /\ H bb = some (true, bdO (bdT F L))
theorem Cq4 (KM : Hp) (c wg cb vx px mx : Nat) (places pieces : Int) (sv cv : Value) (start : List Int) (xss : List (List Int)) (p : Int) (mv : Value) (F : List Int -> Int)
  (vv : KM vx = some (false, .cells #[.int .i64 places, .int .i64 pieces, sv, cv] 25 (0, 0))) (vp : KM px = some (false, .cells #[.int .i64 p] 3 (0, 0)))
  (vm : KM mx = some (false, .cells #[mv] 124 (0, 0))) (vc : KM cb = some (false, .cells #[.chan (some c)] 166 (0, 0)))
  (hst : SlI KM sv start) (hcs : SlR KM cv xss) (hok : Az5 places pieces start xss) (hl8 : xss.length <= 8) (hl1 : 1 <= xss.length) (hrl : ∀ l ∈ xss, l.length <= 1000) (hp : ∀ l, xss[0]? = some l -> p ∈ l) (hmv : Cj1 (.own false) KM mv places start TrA F) :
  WPG Tryz.prog (.own false) (Bzy Tryz.prog c wg lk.tWg (bdV (bdT F ((Aqz (xss.drop 1)).map (p :: ·)))))
   (Go.Conc.born Tryz.prog { target := .fn (.func 124) #[.pointer (some ⟨wg, 0, none⟩), .pointer (some ⟨vx, 0, none⟩), .pointer (some ⟨px, 0, none⟩), .pointer (some ⟨mx, 0, none⟩), .pointer (some ⟨cb, 0, none⟩)], args := #[] }) KM := by
 obtain ⟨sa, sn, sc, rfl⟩ := hst.isSlice
 obtain ⟨ca, cc, rfl, hcc, _⟩ := id hcs
 refine WPG.born (fun _ _ => Cw4 _) ?_
 rw [Ayt _ Tryz.func124 rfl, Tryz.ntmps124]
 rw [show ((#[] : Array Value) ++ #[.pointer (some ⟨wg, 0, none⟩), .pointer (some ⟨vx, 0, none⟩), .pointer (some ⟨px, 0, none⟩), .pointer (some ⟨mx, 0, none⟩), .pointer (some ⟨cb, 0, none⟩)]) = [Value.pointer (some ⟨wg, 0, none⟩), .pointer (some ⟨vx, 0, none⟩), .pointer (some ⟨px, 0, none⟩), .pointer (some ⟨mx, 0, none⟩), .pointer (some ⟨cb, 0, none⟩)].toArray from rfl]
 rw [Bqy (by simp)]
 refine WPG.seqX (by simp [baseD]) rfl ?_
 (refine @unH _ ?_; refine zA (And.intro Axv (And.intro @Cky @Bze)) ?_; (repeat (refine inC ?_; intro hc)); try (refine inK ?_; intro K hK))
 refine WPG.seqX (by simp [baseD]) rfl ?_
 (refine @unH _ ?_; refine zA Axv ?_; (repeat (refine inC ?_; intro hc)); try (refine inK ?_; intro K hK))
 (intro bb hbb; generalize hG : Hp.set _ bb _ = H1; have lH1 := Aqg hG hbb; have vbb := Aqf hG; clear hG)
 ((try (refine @unH _ ?_; refine zX Axv ?_)); (try (refine hK _ _ ?_; clear hK K; (try simp only [nq, ↓reduceIte, Nat.reduceEqDiff]))); refine @unH _ ?_; refine zA Axv ?_; (repeat (refine inC ?_; intro hc)); try (refine inK ?_; intro K hK))
 refine WPG.seqX (by simp [baseD]) rfl ?_
 have vv1 := lH1 _ _ vv
 have vp1 := lH1 _ _ vp
 have vm1 := lH1 _ _ vm
 have vc1 := lH1 _ _ vc
 (refine @unH _ ?_; refine zA Axv ?_; (repeat (refine inC ?_; intro hc)); try (refine inK ?_; intro K hK))
 (intro gb hgb; generalize hG : Hp.set _ gb _ = H2; have lH2 := Aqg hG hgb; have vgb := Aqf hG; clear hG)
 refine (Cqz _ H2 places pieces _ _ _ _ _ _ _ 1 1).runs.mono ?_
 rintro _ H3 ⟨tv, tb, rfl, vtv, vtb, lH3, htv, htb⟩
 have l03 : KM.le H3 := Hp.le_trans lH1 (Hp.le_trans lH2 lH3)
 have l13 := Hp.le_trans lH2 lH3
 have vbb3 := l13 _ _ vbb
 have vgb3 := lH3 _ _ vgb
 have vv3 := l03 _ _ vv
 have vp3 := l03 _ _ vp
 have vm3 := l03 _ _ vm
 have vc3 := l03 _ _ vc
 clear vv1 vp1 vm1 vc1
 ((try (refine @unH _ ?_; refine zX Axv ?_)); (try (refine hK _ _ ?_; clear hK K; (try simp only [nq, ↓reduceIte, Nat.reduceEqDiff]))); refine @unH _ ?_; refine zA Axv ?_; (repeat (refine inC ?_; intro hc)); try (refine inK ?_; intro K hK))
 refine Avy (fun e => e 1 = .pointer (some ⟨vx, 0, none⟩) /\ e 3 = .pointer (some ⟨mx, 0, none⟩) /\ e 4 = .pointer (some ⟨cb, 0, none⟩) /\ e 5 = .pointer (some ⟨bb, 0, none⟩) /\ e 10 = .func (.func 153) #[] #[.pointer (some ⟨tv, 0, none⟩), .pointer (some ⟨tb, 0, none⟩)]) ⟨rfl, rfl, rfl, rfl, rfl⟩ ?_
 rintro e ⟨e1, e3, e4, e5, e10⟩
 refine Ayo (g := 153) (fi := #[]) (cap := #[.pointer (some ⟨tv, 0, none⟩), .pointer (some ⟨tb, 0, none⟩)]) (by rw [Aqm (by omega), e10]) (by omega) (fun _ _ _ _ => Cyb _ _ _) (fun r l lo hr hl hlo1 hlo2 hround => ?_)
 have hlr : r ≠ l := fun e => by rw [<- e, Aqw] at hl; cases hl
 have hnl : H3 l = none := by
  rw [Aqp (Ne.symm hlr)] at hl; exact hl
 have hloe : ({ ({ lo with state := LoopState.busy } : Loop) with state := .ready, pending := none } : Loop) = lo := by
  cases lo; simp only [] at hlo1 hlo2; subst hlo1 hlo2; rfl
 have hC : Akn Tryz.prog (.own false) (.func (.yield l) #[] #[]) (fun b => b = l ∨ b = r ∨ b = bb) (fun H v xs => SlI H v xs /\ KM.le H) (fun xs => Azz xss xs) (Djb F l r bb lo) := by
  refine ⟨?_, ?_, ?_⟩
  ·rintro t L H H' ⟨h0, h1, h2, h3⟩ hk
   exact ⟨h0, hk _ _ (.inl rfl) h1, hk _ _ (.inr (.inl rfl)) h2, hk _ _ (.inr (.inr rfl)) h3⟩
  ·rintro t L H b ⟨h0, h1, h2, h3⟩ hb
   rcases hb with rfl | rfl | rfl
   ·rw [h1]; simp
   ·rw [h2]; simp
   ·rw [h3]; simp
  ·rintro L H v' xs ⟨_, h1, h2, h3⟩ ⟨hti, hKH⟩ hA
   refine hround H _ _ h1 ?_
   obtain ⟨xa, xc, rfl, hxc, _⟩ := id hti
   (refine @unH _ ?_; refine zA (And.intro Axv @Bool.or_true) ?_; (repeat (refine inC ?_; intro hc)); try (refine inK ?_; intro K hK))
   refine ⟨h1, ?_⟩
   have nbl : bb ≠ l := fun e => by rw [e, h1] at h3; cases h3
   have nrb : r ≠ bb := fun e => by rw [e, h3] at h2; cases h2
   have hKl : ∀ b x, KM b = some x -> b ≠ l := fun b x hx e => by have := l03 _ _ hx; rw [e, hnl] at this; cases this
   generalize hB : Hp.set H l (.loop { lo with state := .busy }) = Hb
   have vlb : Hb l = some (true, .loop { lo with state := .busy }) := by rw [<- hB, Aqw]
   have hbf : ∀ b x, b ≠ l -> H b = some x -> Hb b = some x := fun b x hn hx => by rw [<- hB, Aqp hn]; exact hx
   have hb3 := hbf _ _ nbl h3
   have hb2 := hbf _ _ hlr h2
   have hKb : KM.le Hb := fun b x hx => hbf _ _ (hKl b x hx) (hKH _ _ hx)
   have htb := hti.move (H' := Hb) fun b p c fr hx => hbf _ _ (fun e => by rw [e, h1] at hx; cases hx) hx
   replace hbf : Aqs _ := hbf
   replace hloe : Aqs _ := hloe
   clear hB h1 h2 h3 hKH hti hKl
   have vvb := hKb _ _ vv
   have vmb := hKb _ _ vm
   have hTr : TrA xs := ⟨by have := hA.1; omega, hA.bnd hok⟩
   have hstb := hst.le hKb
   (refine @unH _ ?_; refine zA (And.intro Axv @Bool.or_true) ?_; (repeat (refine inC ?_; intro hc)); try (refine inK ?_; intro K hK))
   refine Ajl (fun HX => Hb.le HX) [5, 6, 7] (.free 0 (.take 1 (.take 2 (.free 3 (.one 4 (.one 5 (.one 6 (.one 7 .nil)))))))) (by kernel_rfl) (by kernel_rfl) (by decide) (by kernel_rfl) ?_; intro K hK
   have hle0 : Hb.le Hb := Hp.le_refl _
   (apply Ax5 rfl rfl rfl; (focus (intro HX; simp -implicitDefEqProofs (disch := first | omega | (simp only [qd] <;> omega)) only [xq, ↓xp, qc, Nat.reduceAdd, List.range, List.range.loop, fine, Nat.reduceEqDiff, ↓reduceIte, yielded, reduceCtorEq, Nat.reduceLT, Nat.reduceMul, Nat.reduceSub, one, Nat.reduceLeDiff, Aqa, Axv, aq, ↓ap, qe0, qe1, qe2, *, -hK, Aq0, Bool.or_true] <;> (first | exact rfl | exact ⟨rfl, rfl⟩ | exact ⟨rfl, trivial⟩))); simp -implicitDefEqProofs (disch := first | omega | (simp only [qd] <;> omega)) only [Aqn, Aqc])
   (apply Axd rfl rfl rfl ‹_›; (focus (intro HX hHX; simp -implicitDefEqProofs (disch := first | omega | (simp only [qd] <;> omega)) only [xq, ↓xp, qc, Nat.reduceAdd, List.range, List.range.loop, fine, Nat.reduceEqDiff, ↓reduceIte, yielded, reduceCtorEq, Nat.reduceLT, Nat.reduceMul, Nat.reduceSub, one, Nat.reduceLeDiff, Aqa, Axv, aq, ↓ap, qe0, qe1, qe2, *, -hK, Aq0, Bool.or_true, hHX _ _ vmb] <;> (first | exact rfl | exact ⟨rfl, rfl⟩ | exact ⟨rfl, trivial⟩))); simp -implicitDefEqProofs (disch := first | omega | (simp only [qd] <;> omega)) only [Aqn, Aqc])
   (apply Axd rfl rfl rfl ‹_›; (focus (intro HX hHX; simp -implicitDefEqProofs (disch := first | omega | (simp only [qd] <;> omega)) only [xq, ↓xp, qc, Nat.reduceAdd, List.range, List.range.loop, fine, Nat.reduceEqDiff, ↓reduceIte, yielded, reduceCtorEq, Nat.reduceLT, Nat.reduceMul, Nat.reduceSub, one, Nat.reduceLeDiff, Aqa, Axv, aq, ↓ap, qe0, qe1, qe2, *, -hK, Aq0, Bool.or_true, hHX _ _ vvb] <;> (first | exact rfl | exact ⟨rfl, rfl⟩ | exact ⟨rfl, trivial⟩))); simp -implicitDefEqProofs (disch := first | omega | (simp only [qd] <;> omega)) only [Aqn, Aqc])
   (apply Ax5 rfl rfl rfl; (focus (intro HX; simp -implicitDefEqProofs (disch := first | omega | (simp only [qd] <;> omega)) only [xq, ↓xp, qc, Nat.reduceAdd, List.range, List.range.loop, fine, Nat.reduceEqDiff, ↓reduceIte, yielded, reduceCtorEq, Nat.reduceLT, Nat.reduceMul, Nat.reduceSub, one, Nat.reduceLeDiff, Aqa, Axv, aq, ↓ap, qe0, qe1, qe2, *, -hK, Aq0, Bool.or_true] <;> (first | exact rfl | exact ⟨rfl, rfl⟩ | exact ⟨rfl, trivial⟩))); simp -implicitDefEqProofs (disch := first | omega | (simp only [qd] <;> omega)) only [Aqn, Aqc])
   refine Aq6 ?_
   (refine @unH _ ?_; refine zX (And.intro Axv @Bool.or_true) ?_)
   refine (Ayn _ Hb places pieces _ _ _ _ _ _ _ _ _).runs.mono ?_
   rintro _ Hc ⟨db, mb, rfl, lHc, ndm, hdb, hmb, vdb, vmb2⟩
   (refine @unH _ ?_; refine zX (And.intro Axv @Bool.or_true) ?_)
   refine ⟨.inr (by intro _; first | exact lHc | trivial), Aq6 ?_⟩
   (refine @unH _ ?_; refine zX (And.intro Axv @Bool.or_true) ?_)
   refine Bj3.use ((show Cj1 _ KM mv places start TrA F from hmv) Hc pieces _ _ _ xs db mb (Hp.le_trans hKb lHc) ⟨vdb, vmb2, ndm, hstb.le lHc, htb.le lHc⟩ hTr) ?_
   rintro _ Hd ⟨rfl, lHd⟩
   have hbd : ∀ b x, Hb b = some x -> Hd b = some x := fun b x hx => lHd.keeps (lHc _ _ hx) fun e => by rw [e, hmb] at hx; cases hx
   have vbd := hbd _ _ hb3
   have hsn := Cwv F L xs
   generalize F xs = fx at *
   generalize hB1e : bdT F (L ++ [xs]) = B1 at *
   replace hB1e : Aqs _ := hB1e
   generalize bdT F L = B0 at *
   replace hbd : Aqs _ := hbd
   replace hsn : Aqs _ := hsn
   clear lHd lHc vdb vmb2 hdb hmb ndm
   (refine @unH _ ?_; refine zX (And.intro Axv @Bool.or_true) ?_)
   refine ⟨.inl (by decide), Aq6 ?_⟩
   (refine @unH _ ?_; refine zX (And.intro Axv @Bool.or_true) ?_)
   (intro g2 hg2; generalize hG : Hp.set _ g2 _ = He; have lHe := Aqg hG hg2; have vg2 := Aqf hG; clear hG)
   have hbe : Aqs (∀ b x, Hb b = some x -> He b = some x) := fun b x hx => lHe _ _ ((show ∀ b x, Hb b = some x -> Hd b = some x from hbd) b x hx)
   have vbe := lHe _ _ vbd
   have hsl : SlI He (.slice (some ⟨g2, 0, none⟩) 1 1) [fx] := ⟨_, _, rfl, by simp, fun i y hi => by
    obtain rfl : i = 0 := by have := (List.getElem?_eq_some_iff.1 hi).1; simpa using this
    simp at hi; subst hi
    exact ⟨g2, 0, _, _, _, rfl, vg2, by simp⟩⟩
   clear hbd vbd lHe vg2 hg2
   refine ⟨.inl (by decide), Aq6 ?_⟩
   (refine @unH _ ?_; refine zX (And.intro Axv @Bool.or_true) ?_)
   refine (Bkt _ He bb B0 _ [fx] hsl vbe (by simp)).runs.mono ?_
   rintro _ Hf ⟨rfl, vbf, hoth⟩
   have vlf : Hf l = some (true, .loop { lo with state := .busy }) := (hoth l (Ne.symm nbl)).trans ((show ∀ b x, Hb b = some x -> He b = some x from hbe) _ _ vlb)
   have vrf : Hf r = some (true, .deferred (some [])) := (hoth r nrb).trans ((show ∀ b x, Hb b = some x -> He b = some x from hbe) _ _ hb2)
   have hfr : Aqs (∀ b x, ¬ (b = l ∨ b = r ∨ b = bb) -> H b = some x -> Hf b = some x) := fun b x hb hx =>
    (hoth b fun e => hb (.inr (.inr e))).trans ((show ∀ b x, Hb b = some x -> He b = some x from hbe) _ _ ((show ∀ b x, b ≠ l -> H b = some x -> Hb b = some x from hbf) b x (fun e => hb (.inl e)) hx))
   clear hoth hbe vbe hsl hbf hb2 hb3 vlb hle0
   replace vbf : Hf bb = some (true, bdO B1) := by rw [vbf, show B1 = _ from hsn]; rfl
   (refine @unH _ ?_; refine zX (And.intro Axv @Bool.or_true) ?_)
   refine ⟨.inl (by decide), Azw (hK _ _ ?_)⟩
   clear hK K
   (try simp only [nq, ↓reduceIte, Nat.reduceEqDiff])
   refine ⟨rfl, _, vlf, true, rfl, ?_, ?_⟩
   ·have hloe' : ({ ({ lo with state := LoopState.busy } : Loop) with state := .ready, pending := none } : Loop) = lo := hloe
    rw [hloe']
    exact ⟨rfl, Aqw, (Aqp hlr).trans vrf, (Aqp nbl).trans (by rw [vbf, show bdT F (L ++ [xs]) = B1 from hB1e])⟩
   ·intro b x hb hx
    rw [Aqp (fun e => hb (.inl e))]
    exact (show ∀ b x, ¬ (b = l ∨ b = r ∨ b = bb) -> H b = some x -> Hf b = some x from hfr) b x hb hx
 generalize hG : Hp.set (Hp.set H3 r (.deferred (some []))) l (.loop lo) = H6
 have l36 : H3.le H6 := fun b x hx => by rw [<- hG]; exact Hp.le_set hl _ _ (Hp.le_set hr _ _ hx)
 have vl6 : H6 l = some (true, .loop lo) := by rw [<- hG, Aqw]
 have vr6 : H6 r = some (true, .deferred (some [])) := by rw [<- hG, Aqp hlr, Aqw]
 clear hG
 have hbx : ∀ b x, KM b = some x -> b ≠ bb := fun b x hx e => by rw [e, hbb] at hx; cases hx
 obtain ⟨KB, hKBe⟩ : ∃ KB : Hp, KB = fun b => if b = bb then none else H3 b := ⟨_, rfl⟩
 have hKB1 : ∀ b x, KB b = some x -> b ≠ bb /\ H3 b = some x := fun b x hx => by
  rw [hKBe] at hx
  simp only at hx
  split at hx
  ·cases hx
  ·exact ⟨by assumption, hx⟩
 have hKB2 : ∀ b x, b ≠ bb -> H3 b = some x -> KB b = some x := fun b x hn hx => by
  rw [hKBe]; simp only [if_neg hn]; exact hx
 clear hKBe
 have hKK : KM.le KB := fun b x hx => hKB2 b x (hbx b x hx) (l03 b x hx)
 have ntvb : tv ≠ bb := fun e => by have := lH2 _ _ vbb; rw [<- e, htv] at this; cases this
 have hC' : Akn Tryz.prog (.own false) (.func (.yield l) #[] #[]) (fun b => b = l ∨ b = r ∨ b = bb) (fun H v xs => SlI H v xs /\ KB.le H) (fun xs => Azz xss xs) (Djb F l r bb lo) :=
  ⟨hC.keep, hC.ex, fun L H v l hT ha hA => hC.call L H v l hT ⟨ha.1, Hp.le_trans hKK ha.2⟩ hA⟩
 have hrun := Byi (.own false) (S := fun b => b = l ∨ b = r ∨ b = bb) (KB := KB) (vb := tv) (q := true) (places := places) (pieces := pieces) (sv := .slice sa sn sc) hl8 hl1 hrl hC' (fun L H h => by cases h.1) (fun _ h => h) (hcs.le hKK) (hKB2 _ _ ntvb vtv) (fun b x hx h => by
  obtain ⟨h1, h3⟩ := hKB1 b x hx
  rcases h with rfl | rfl | rfl
  ·rw [hnl] at h3; cases h3
  ·rw [hr] at h3; cases h3
  ·exact h1 rfl) H6 (fun b x hx => l36 _ _ (hKB1 b x hx).2) ⟨rfl, vl6, vr6, l36 _ _ vbb3⟩ p hp (l36 _ _ vtb) (l36 _ _ vgb3)
 refine hrun.runs.mono ?_
 clear hrun hC hC' hround
 rintro _ H7 ⟨rfl, ⟨_, vl7, vr7, vbb7⟩, hfr7⟩
 refine Ay6 vl7 hlo1 hlo2 ?_
 have ncS : ¬ (cb = l ∨ cb = r ∨ cb = bb) := fun h => by
  rcases h with rfl | rfl | rfl
  ·rw [hnl] at vc3; cases vc3
  ·rw [hr] at vc3; cases vc3
  ·exact hbx _ _ vc rfl
 have vc7 := hfr7 _ _ ncS (l36 _ _ vc3)
 have nbl : bb ≠ l := fun e => by rw [e, vl7] at vbb7; cases vbb7
 have vc9 : (H7.set l (.loop { lo with state := .exhausted })) cb = _ := (Aqp (fun e => ncS (.inl e))).trans vc7
 have vbb9 : (H7.set l (.loop { lo with state := .exhausted })) bb = _ := (Aqp nbl).trans vbb7
 have vr9 : (H7.set l (.loop { lo with state := .exhausted })) r = _ := (Aqp hlr).trans vr7
 generalize H7.set l (.loop { lo with state := .exhausted }) = H9 at *
 generalize bdT F ((Aqz (xss.drop 1)).map (p :: ·)) = B at *
 clear vl7 vr7 vbb7 vc7 hfr7 vl6 vr6 l36 hKB1 hKB2 hKK hbx
 refine (show WPG Tryz.prog (.own false) _ (G (fat (baseD 124) _ _) _) H9 from ?_)
 refine WPG.regionX (WPG.op (rest := [1, 2]) rfl rfl (by simp [baseD]) rfl ?_)
 unfold opX
 change wpS _ (execOp _ ⟨some 20, .load _ (.tmp 4), _, _, _, _⟩) _ _ _
 (refine @unH _ ?_; refine z7 Axv ?_)
 refine (show WPG Tryz.prog (.own false) _ (G (fat (baseD 124) ((act 22 e _).put (some 20) _) _) _) H9 from ?_)
 rw [Aqn (by decide)]
 refine WPG.op (rest := [2]) rfl rfl (by simp [baseD]) rfl ?_
 unfold opX
 change wpS _ (execOp _ ⟨some 21, .load _ (.tmp 5), _, _, _, _⟩) _ _ _
 obtain ⟨lo, hi, sm⟩ := B
 (refine @unH _ ?_; refine z7 Axv ?_)
 refine (show WPG Tryz.prog (.own false) _ (G (fat (baseD 124) ((act 22 _ _).put (some 21) _) _) _) H9 from ?_)
 rw [Aqn (by decide)]
 refine .stop (Djz wgLib rfl rfl (fun w => Cv0 (by rw [Aqm (by decide)]; rfl) (by rw [Aqm (by decide)]; rfl) w) rfl vr9 Tryz.func124 Tryz.results124) (Hp.le_refl _)
end Go.Proofs.YtgniilnljeedlaaGreatDoor
end
section
namespace Go.Proofs.YtgniilnljeedlaaGreatDoor
open Go Go.X
def IsBd (b : Bd) (P : Int -> Prop) : Prop := b.some = true /\ P b.lo /\ P b.hi /\ ∀ x, P x -> b.lo <= x /\ x <= b.hi
theorem IsBd.ext {b b' : Bd} {P : Int -> Prop} (h : IsBd b P) (h' : IsBd b' P) : b = b' := by
 obtain ⟨lo, hi, sm⟩ := b
 obtain ⟨lo', hi', sm'⟩ := b'
 obtain ⟨h1, h2, h3, h4⟩ := h
 obtain ⟨k1, k2, k3, k4⟩ := h'
 simp only at *
 have a1 := h4 _ k2
 have a2 := h4 _ k3
 have b1 := k4 _ h2
 have b2 := k4 _ h3
 subst h1 k1
 simp only [Bd.mk.injEq, and_true]
 omega
theorem IsBd.congr {b : Bd} {P Q : Int -> Prop} (h : IsBd b P) (hq : ∀ x, P x ↔ Q x) : IsBd b Q := ⟨h.1, (hq _).1 h.2.1, (hq _).1 h.2.2.1, fun x hx => h.2.2.2 x ((hq x).2 hx)⟩
theorem IsBd.add {b : Bd} {P : Int -> Prop} (h : IsBd b P) (x : Int) : IsBd (Akv b x) fun y => P y ∨ y = x := by
 obtain ⟨lo, hi, sm⟩ := b
 obtain ⟨h1, h2, h3, h4⟩ := h
 simp only at *
 subst h1
 have h5 := h4 _ h2
 simp only [Akv, if_true]
 refine ⟨rfl, ?_, ?_, fun y hy => ?_⟩
 ·simp only
  rcases Int.le_total lo x with hl | hl
  ·rw [Int.min_eq_left hl]; exact .inl h2
  ·rw [Int.min_eq_right hl]; exact .inr rfl
 ·simp only
  rcases Int.le_total hi x with hl | hl
  ·rw [Int.max_eq_right hl]; exact .inr rfl
  ·rw [Int.max_eq_left hl]; exact .inl h3
 ·simp only
  rcases hy with hy | rfl
  ·have := h4 y hy; omega
  ·omega
theorem IsBd.one {b : Bd} (h : b.some = false) (x : Int) : IsBd (Akv b x) fun y => y = x := by
 obtain ⟨lo, hi, sm⟩ := b
 simp only at h
 subst h
 exact ⟨rfl, rfl, rfl, fun y hy => by subst hy; exact ⟨Int.le_refl _, Int.le_refl _⟩⟩
theorem Cj8 (F : List Int -> Int) : ∀ (L : List (List Int)), L ≠ [] -> IsBd (bdT F L) fun x => ∃ t ∈ L, F t = x
 | [], h => absurd rfl h
 | t :: L, _ => by
  have key : ∀ (L : List (List Int)) (b : Bd) (P : Int -> Prop), IsBd b P -> IsBd (L.foldl (fun b t => Akv b (F t)) b) fun x => P x ∨ ∃ t ∈ L, F t = x := by
   intro L
   induction L with
   | nil => intro b P h; exact h.congr fun x => by simp
   | cons t L ih =>
    intro b P h
    refine (ih _ _ (h.add (F t))).congr fun x => ?_
    simp only [List.mem_cons, exists_eq_or_imp]
    constructor
    ·rintro ((h | h) | h)
     ·exact .inl h
     ·exact .inr (.inl h.symm)
     ·exact .inr (.inr h)
    ·rintro (h | h | h)
     ·exact .inl (.inl h)
     ·exact .inl (.inr h.symm)
     ·exact .inr h
  refine (key L _ _ (IsBd.one (b := bd0) rfl (F t))).congr fun x => ?_
  simp only [List.mem_cons, exists_eq_or_imp]
  exact ⟨fun h => h.imp (fun h => h.symm) id, fun h => h.imp (fun h => h.symm) id⟩
def bdJ (b : Bd) (L : List Bd) : Bd := L.foldl (fun b x => Akv (Akv b x.lo) x.hi) b
theorem Cwu (b : Bd) (L : List Bd) (x : Bd) : bdJ b (L ++ [x]) = [x.lo, x.hi].foldl Akv (bdJ b L) := by simp [bdJ]
theorem Dz1 {α : Type} (P : α -> Int -> Prop) (f : α -> Bd) (h : ∀ a, IsBd (f a) (P a)) : ∀ (L : List α), L ≠ [] -> IsBd (bdJ bd0 (L.map f)) fun x => ∃ a ∈ L, P a x := by
 have key : ∀ (L : List α) (b : Bd) (Q : Int -> Prop), IsBd b Q -> IsBd (bdJ b (L.map f)) fun x => Q x ∨ ∃ a ∈ L, P a x := by
  intro L
  induction L with
  | nil => intro b Q h; exact h.congr fun x => by simp
  | cons a L ih =>
   intro b Q hb
   have h1 : IsBd (Akv (Akv b (f a).lo) (f a).hi) fun x => Q x ∨ P a x := by
    obtain ⟨k1, k2, k3, k4⟩ := (hb.add (f a).lo).add (f a).hi
    have ha := h a
    have hin : ∀ x, (Q x ∨ x = (f a).lo) ∨ x = (f a).hi -> Q x ∨ P a x := by
     rintro x ((hx | rfl) | rfl)
     ·exact .inl hx
     ·exact .inr ha.2.1
     ·exact .inr ha.2.2.1
    refine ⟨k1, hin _ k2, hin _ k3, fun x hx => ?_⟩
    rcases hx with hx | hx
    ·exact k4 x (.inl (.inl hx))
    ·have h5 := ha.2.2.2 x hx
     have h6 := k4 _ (.inl (.inr rfl))
     have h7 := k4 _ (.inr rfl)
     omega
   refine (ih _ _ h1).congr fun x => ?_
   simp only [List.mem_cons, exists_eq_or_imp]
   exact or_assoc
 intro L hL
 cases L with
 | nil => exact absurd rfl hL
 | cons a L =>
  have h1 : IsBd (Akv (Akv bd0 (f a).lo) (f a).hi) (P a) := by
   obtain ⟨k1, k2, k3, k4⟩ := (IsBd.one (b := bd0) rfl (f a).lo).add (f a).hi
   have ha := h a
   have hin : ∀ x, x = (f a).lo ∨ x = (f a).hi -> P a x := by
    rintro x (rfl | rfl)
    ·exact ha.2.1
    ·exact ha.2.2.1
   refine ⟨k1, hin _ k2, hin _ k3, fun x hx => ?_⟩
   have h5 := ha.2.2.2 x hx
   have h6 := k4 _ (.inl rfl)
   have h7 := k4 _ (.inr rfl)
   omega
  refine (key L _ _ h1).congr fun x => ?_
  simp only [List.mem_cons, exists_eq_or_imp]
theorem Ayl : ∀ (xss : List (List Int)), (∀ l ∈ xss, l ≠ []) -> Aqz xss ≠ []
 | [], _ => by simp [Aqz]
 | l :: xss, h => by
  have h1 := Ayl xss fun l hl => h l (List.mem_cons_of_mem _ hl)
  have h2 := h l List.mem_cons_self
  obtain ⟨p, hp⟩ := List.exists_mem_of_ne_nil _ h2
  obtain ⟨t, ht⟩ := List.exists_mem_of_ne_nil _ h1
  simp only [Aqz]
  exact List.ne_nil_of_mem (List.mem_flatMap.2 ⟨p, hp, List.mem_map.2 ⟨t, ht, rfl⟩⟩)
theorem Czn (F : List Int -> Int) (l : List Int) (xss : List (List Int)) (hl : l ≠ []) (h : ∀ l ∈ xss, l ≠ []) (R : List Int) (hR : R.Perm l) :
  bdJ bd0 (R.map fun p => bdT F ((Aqz xss).map (p :: ·))) = bdT F (Aqz (l :: xss)) := by
 have hne := Ayl xss h
 have h1 := Dz1 (fun p x => ∃ t ∈ (Aqz xss).map (p :: ·), F t = x) (fun p : Int => bdT F ((Aqz xss).map (p :: ·))) (fun p => Cj8 F _ (by simpa using hne)) R (fun e => by subst e; exact hl (List.nil_perm.1 hR))
 have h2 := Cj8 F (Aqz (l :: xss)) (Ayl _ fun l' hl' => (List.mem_cons.1 hl').elim (fun e => e ▸ hl) (h l'))
 refine h1.ext (h2.congr fun x => ?_)
 simp only [Aqz, List.mem_flatMap]
 constructor
 ·rintro ⟨t, ⟨p, hp, ht⟩, rfl⟩
  exact ⟨p, hR.mem_iff.2 hp, t, ht, rfl⟩
 ·rintro ⟨p, hp, t, ht, rfl⟩
  exact ⟨t, ⟨p, hR.mem_iff.1 hp, ht⟩, rfl⟩
def Bv8 (H : Hp) (mv : Value) (pl : Int) (start : List Int) (F : List Int -> Int) : Prop := ∀ main base, Aj4 H base -> Cj1 main base mv pl start TrA F
theorem Aj4.of {H H' : Hp} (h : H.le H') : Aj4 H H' := fun b p c t fr hb => ⟨p, h _ _ hb⟩
theorem Aj4.trans {H H' H'' : Hp} (h : Aj4 H H') (h' : Aj4 H' H'') : Aj4 H H'' := fun b p c t fr hb => let ⟨p', h1⟩ := h b p c t fr hb; h' b p' c t fr h1
theorem Bv8.le {H H' : Hp} {mv : Value} {pl : Int} {start : List Int} {F : List Int -> Int} (h : Bv8 H mv pl start F) (hl : Aj4 H H') : Bv8 H' mv pl start F := fun main base hb => h main base (hl.trans hb)
theorem Av4 (H : Hp) (pl : Int) (start : List Int) (hs : StA start) : Bv8 H (.func (.func 129) #[] #[]) pl start (fewF pl start) := fun main base _ => Bwt main base pl start hs
theorem Bvv (H : Hp) (pl : Int) (start : List Int) (hs : StA start) (r : Int) (hr0 : 0 <= r) (hr3 : r <= 3) (rb : Nat) (q : Bool) (hrb : H rb = some (q, .cells #[Ajr r] 82 (0, 0))) :
 Bv8 H (.func (.func 130) #[] #[.pointer (some ⟨rb, 0, none⟩)]) pl start (fun ts => fetF pl r start ts - fewF pl start ts) := fun main base hb => let ⟨q', h⟩ := hb _ _ _ _ _ hrb; Bw8 main base pl start hs r hr0 hr3 rb q' h
end Go.Proofs.YtgniilnljeedlaaGreatDoor
end
section
namespace Go.X
open Go
open Go.Conc
theorem Bjy {P : Program} {γ : GhW} {Q : Cj2} {a : Act} {H : Hp} {c : Operand} {x y : Code} {t : Bool} (ht : a.eval c = .bool t) (h1 : t = true -> wpV P x Q γ a H) (h2 : t = false -> wpV P y Q γ a H) : wpV P (.cond c x y) Q γ a H := by
 refine Dqn ht ?_
 cases t
 ·exact h2 rfl
 ·exact h1 rfl
theorem Bw3 {P : Program} {γ : GhW} {Q : Cj2} {a : Act} {H : Hp} {ops : Array Oper} {todo : List Nat} (h : ∀ K : Act -> Hp -> Prop, (∀ a' H', Q γ .normal a' H' -> K a' H') -> runX P (.own true) none ops (only K) todo a H) : opsV P ops todo Q γ a H :=
 Cy9 fun b k cs Stop hk hl hc => Avu (h _ fun _ _ h => h) b k cs Stop hk hl fun e a' H' q => by
  cases e <;> first | exact hc _ _ _ q | exact q.elim
theorem Bw6 {P : Program} {a : Act} {d : Option Tmp} {ty t : TypeId} {pos : String} {af : Array Edge} {g : Option (Nat × Bool)} {x : Operand} {c : Nat} {z : Value} {e : TypeId} {dir : ChanDir} (hx : a.eval x = .chan (some c)) (hu : P.underlying t = some (.chan dir e)) (hz : ∀ w, (zeroValue e).run P w = .ok z w) (w : World) :
  (execOp a.eval ⟨d, .recv t x true, ty, pos, af, g⟩).runT P w #[] = (.ok (.comm #[rcase c z] true (.recv true)) w, #[]) := by
 simp [execOp, hx, rcase, hz, underlying, program, Sem.run, hu]
 rfl
end Go.X
namespace Go.Proofs.YtgniilnljeedlaaGreatDoor
open Go Go.X
def Avk := And.intro (fun H => Aq1 (H := H) (P := Tryz.prog) (h := Tryz.zeroValue120)) (And.intro (fun H => Aqh (H := H) Tryz.underlying25 (i := 3) rfl (off := 3) rfl Tryz.sizeOf23) (And.intro (fun H => Aqd (H := H) Tryz.underlying23 rfl) (And.intro (fun H => Aq5 (H := H) Tryz.underlying23) (And.intro (fun H => Aqh (H := H) Tryz.underlying124 (i := 0) rfl (off := 0) rfl Tryz.sizeOf122) (And.intro (fun H => Aqd (H := H) Tryz.underlying122 rfl) (And.intro (fun H => Aqx (H := H) Tryz.underlying25 rfl Tryz.sizeOf25) (And.intro @Bz1 (And.intro @Axp (And.intro (fun H => Aqx (H := H) Tryz.underlying120 rfl Tryz.sizeOf120) (And.intro (fun H => Aq3 (H := H) Tryz.sizeOf120) (And.intro @Bz5 (And.intro (fun H => Bjf (H := H) Tryz.underlying166 Tryz.typeInfo120 (by decide)) (And.intro (fun H => Aq1 (H := H) (P := Tryz.prog) (h := Tryz.zeroValue166)) (And.intro (fun H => Bzc (H := H) Tryz.sizeOf166) (And.intro (fun H => Aq1 (H := H) (P := Tryz.prog) (h := Tryz.zeroValue174)) (And.intro (fun H => Aqq (H := H) Tryz.underlying23 Tryz.sizeOf22) (And.intro (fun H => Aqd (H := H) Tryz.underlying22 rfl) (And.intro (fun H => Aq5 (H := H) Tryz.underlying22) (And.intro (fun H => Aqq (H := H) Tryz.underlying22 Tryz.sizeOf3) (And.intro (fun H => Aqd (H := H) Tryz.underlying3 rfl) (And.intro (fun H => Aq1 (H := H) (P := Tryz.prog) (h := Tryz.zeroValue3)) (And.intro (fun H => Axo (H := H) Tryz.sizeOf3) (And.intro (fun H => Aqd (H := H) Tryz.underlying166 rfl) (And.intro (fun H => Aqh (H := H) Tryz.underlying120 (i := 0) rfl (off := 0) rfl Tryz.sizeOf3) (And.intro (fun H => Aqh (H := H) Tryz.underlying120 (i := 1) rfl (off := 1) rfl Tryz.sizeOf3) @Ajg)))))))))))))))))))))))))
open Go.Conc (G baseD rcase scase)
def sndC : Code -> Code
 | .seq _ y => y
 | c => c
theorem Cvx (H H8 C H9 : Hp) (c wg tb ob bb : Nat) (l : List Int) (f : Int -> Bd) (e : Nat -> Value) (X : Bd)
  (e4 : e 4 = .pointer (some ⟨ob, 0, none⟩)) (e5 : e 5 = .pointer (some ⟨bb, 0, none⟩)) (e6 : e 6 = .func (.func 122) #[.pointer (some ⟨bb, 0, none⟩)] #[]) (e7 : e 7 = .pointer (some ⟨tb, 0, none⟩)) (e8 : e 8 = .pointer (some ⟨wg, 0, none⟩))
  (lS9 : C.leS H9) (vbb9 : H9 bb = some (true, bdO bd0)) (hCle : H.le C) (l08 : H.le H8) (vtbC : C tb = some (true, .cells #[.chan (some c)] 166 (0, 0))) (vobC : C ob = some (true, bdO bd0)) (vob8 : H8 ob = some (true, bdO bd0)) (hl6 : l.length <= 6) (ntb : tb ≠ bb) (nob : ob ≠ bb) (h0ob : H ob = none) (h0bb : H bb = none) (hCbb : C bb = none)
  (hres : ∀ Rp : List Int, Rp.Perm l -> bdJ bd0 (Rp.map f) = X) :
  wpV Tryz.prog (sndC (sndC (sndC (sndC (sndC (sndC (sndC ((Tryz.f97).body.getD .skip)))))))) (fun γ e a H' => γ = .idle /\ By4 Tryz.prog (.wg Tryz.prog) Tryz.f97 (fun e H' => e = .returned (bdV X) /\ H.le H') e a H') (.busy c wg lk.tWg l.length 0 (l.reverse.map fun p => bdV (f p)) false (fun b => ∃ o, H8 b = some (true, o))) (act 52 e []) H9 := by
 have hcl := fun (m : Nat) => Cqe (H9.hand bb) c wg tb m (by obtain ⟨p', h1, _⟩ := lS9 _ _ _ vtbC; exact Hp.hand_some h1 ntb)
 show wpV _ (.seq (.region _ _ false) (.seq (.seq (.region _ _ false) (.block 2 (.loop _))) _)) _ _ _ _
 refine Ajz (Avx (Bw2 rfl rfl (Bzs (K := fun a' H' => ∃ e', a' = act 52 e' [] /\ H9 = H' /\ e' 39 = .func (.func 127) #[] #[.pointer (some ⟨wg, 0, none⟩), .pointer (some ⟨tb, 0, none⟩)] /\
   e' 4 = .pointer (some ⟨ob, 0, none⟩) /\ e' 5 = .pointer (some ⟨bb, 0, none⟩) /\ e' 6 = .func (.func 122) #[.pointer (some ⟨bb, 0, none⟩)] #[] /\ e' 7 = .pointer (some ⟨tb, 0, none⟩)) ?_ ?_)))
 ·unfold opX
  change wpS _ (execOp _ ⟨some 39, .makeFunc (.func 127) #[] #[.tmp 8, .tmp 7], _, _, _, _⟩) _ _ _
  rw [Bqd]
  refine ⟨_, Aqn (by decide), rfl, ?_, e4, e5, e6, e7⟩
  simp only [Aqr, ↓reduceIte, List.map_toArray, List.map_cons, List.map_nil, Aqm, Nat.reduceLT, Nat.reduceEqDiff, e7, e8]
 ·clear e4 e5 e6 e7 e8
  rintro _ _ ⟨e', rfl, rfl, e39, e4, e5, e6, e7⟩
  refine Cvq rfl rfl (by simp) (fun w hw => Cvb (by rw [Aqm (by decide)]; exact e39) w) rfl Hp.hand_lend Hp.lend_own (hcl _) (Bvq ?_)
  have hle10 := lS9.trans (Hp.lend_leS (eb := bb))
  have vbbL : (H9.lend bb) bb = _ := Hp.lend_at.trans vbb9
  generalize H9.lend bb = H11 at *
  clear hcl lS9 vbb9 e39
  show wpV _ _ _ _ (act 52 e' []) _
  obtain ⟨pt, vtb11, _⟩ := hle10 _ _ _ vtbC
  refine Ajz (Ajz (Bqo ?_))
  (refine @unH _ ?_; refine zA Avk ?_; (repeat (refine inC ?_; intro hc)); try (refine inK ?_; intro K hK))
  have hLV0 : (l.reverse.map fun p => bdV (f p)).Perm (l.map fun p => bdV (f p)) := (List.reverse_perm l).map _
  have hn : (l.reverse.map fun p => bdV (f p)).length = l.length := by simp
  generalize (l.reverse.map fun p => bdV (f p)) = LV0 at *
  refine Bjx (Cza (fun w γ a' H' => ∃ (e : Nat -> Value) (L : List Int) (LV : List Value) (R : List Int), w = L.length + 1 /\ γ = .busy c wg lk.tWg l.length 0 LV true (fun b => ∃ o, H8 b = some (true, o)) /\ LV.Perm (L.map fun p => bdV (f p)) /\ (R ++ L).Perm l /\ a' = act 52 e [] /\ e 4 = .pointer (some ⟨ob, 0, none⟩) /\ e 5 = .pointer (some ⟨bb, 0, none⟩) /\ e 6 = .func (.func 122) #[.pointer (some ⟨bb, 0, none⟩)] #[] /\ e 40 = .chan (some c) /\
   C.leS H' /\ H' bb = some (true, bdO (bdJ bd0 (R.map f)))) (n := l.length + 1) ?_ ?_)
  ·exact ⟨_, l, LV0, [], rfl, rfl, hLV0, .refl _, rfl, e4, e5, e6, rfl, hle10, vbbL⟩
  ·clear e4 e5 e6 e7 hle10 vbbL hLV0 hn vtb11
   rename_i eold
   clear eold
   rintro w γ a' H12 ⟨e, L, LV, R, rfl, rfl, hLV, hperm, rfl, e4, e5, e6, e40, lS12, vbb12⟩
   cases L with
   | nil =>
    obtain rfl : LV = [] := by simpa using hLV
    refine Ajz (Avx (Cvs (z := .agg #[.int .i64 0, .int .i64 0, .bool false]) (fun b => (H12 b).map fun z => (z.1 || @decide (∃ o, H8 b = some (true, o)) (Classical.propDecidable _), z.2)) rfl rfl (fun w hw => Bw6 (by rw [Aqm (by decide)]; exact e40) Tryz.underlying166 Tryz.zeroValue120 w) (fun b p o hb => ?_) (Bw3 ?_)))
    ·simp only [Option.map_eq_some_iff] at hb
     obtain ⟨⟨p', o'⟩, h1, h2⟩ := hb
     simp only [Prod.mk.injEq] at h2
     obtain ⟨h2, rfl⟩ := h2
     refine ⟨p', h1, fun hp => ?_⟩
     rw [hp] at h2
     rcases Bool.or_eq_true_iff.1 h2 with h2 | h2
     ·exact .inl h2
     ·exact .inr (@of_decide_eq_true _ (Classical.propDecidable _) h2)
    ·obtain ⟨G', hGe⟩ : ∃ G' : Hp, G' = fun b => (H12 b).map fun z => (z.1 || @decide (∃ o, H8 b = some (true, o)) (Classical.propDecidable _), z.2) := ⟨_, rfl⟩
     rw [<- hGe]
     have hGx : ∀ b o, (∃ o', H8 b = some (true, o')) -> (∃ p, H12 b = some (p, o)) -> G' b = some (true, o) := fun b o h8 ⟨p, h12⟩ => by
      rw [hGe]
      simp only [h12, Option.map_some, Option.some.injEq, Prod.mk.injEq, and_true]
      rw [Bool.or_eq_true_iff]
      exact .inr (@decide_eq_true _ (Classical.propDecidable _) h8)
     have hback : Aqs (H.le G') := fun x u hx => by
      obtain ⟨p, o⟩ := u
      obtain ⟨p', h1, h2⟩ := lS12 _ _ _ (hCle _ _ hx)
      have h8 := l08 _ _ hx
      rw [hGe]
      simp only [h1, Option.map_some, Option.some.injEq, Prod.mk.injEq, and_true]
      cases p with
      | true => rw [Bool.or_eq_true_iff]; exact .inr (@decide_eq_true _ (Classical.propDecidable _) ⟨_, h8⟩)
      | false =>
       rw [Bool.or_eq_false_iff]
       refine ⟨by cases hp : p' with | false => rfl | true => exact absurd (h2 hp) (by simp), @decide_eq_false _ (Classical.propDecidable _) (fun ⟨o', h9⟩ => by rw [h8] at h9; cases h9)⟩
     have vobG := hGx ob _ ⟨_, vob8⟩ (let ⟨p', h1, _⟩ := lS12 _ _ _ vobC; ⟨p', h1⟩)
     have vbbG : G' bb = some (true, bdO (bdJ bd0 (R.map f))) := by rw [hGe]; simp [vbb12]
     have hX : Aqs (bdJ bd0 (R.map f) = X) := hres R (by simpa using hperm)
     clear hGx hGe vbb12 lS12
     generalize bdJ bd0 (R.map f) = B at *
     obtain ⟨blo, bhi, bsm⟩ := B
     intro K hK
     change runX _ _ _ _ _ _ ((act 52 e []).put (some 41) (.tuple #[.agg #[.int .i64 0, .int .i64 0, .bool false], .bool false])) _
     rw [Aqn (by decide)]
     (refine @unH _ ?_; refine zX Avk ?_)
     refine hK _ _ ?_
     clear hK K
     (try simp only [nq, ↓reduceIte, Nat.reduceEqDiff])
     refine Ajz (Bjy (by simp only [Aqm, Aqr, Nat.reduceEqDiff, Nat.reduceLT, ↓reduceIte, *]; rfl) ?_ ?_) <;> intro hc
     ·cases hc
     ·clear hc
      refine Cx9 ?_
      (try simp only [nq, ↓reduceIte, Nat.reduceEqDiff])
      refine Bqo ?_
      (refine @unH _ ?_; refine zA Avk ?_; (repeat (refine inC ?_; intro hc)); try (refine inK ?_; intro K hK))
      refine Ax7 ?_
      (try simp only [nq, ↓reduceIte, Nat.reduceEqDiff])
      refine ⟨by trivial, ?_⟩
      rw [Axw, Az8 Tryz.results97 (by decide) (b := ob) (o := 0) ?hcell Tryz.underlying120 rfl Tryz.sizeOf120]
      case hcell => exact e4
      (refine @unH _ ?_; refine z7 (And.intro Avk @Ajh) ?_)
      refine ⟨?_, fun b x hx => ?_⟩
      ·rw [<- show (⟨blo, bhi, bsm⟩ : Bd) = X from hX]; first | rfl | done
      ·rw [Aqp (fun h => by rw [h, h0ob] at hx; cases hx)]
       exact (show H.le G' from hback) _ _ hx
   | cons q0 L0 =>
    have hne : LV ≠ [] := fun h => by rw [h] at hLV; simp at hLV
    refine Ajz (Avx (Cvr (z := .agg #[.int .i64 0, .int .i64 0, .bool false]) rfl rfl hne (fun w hw => Bw6 (by rw [Aqm (by decide)]; exact e40) Tryz.underlying166 Tryz.zeroValue120 w) fun v L' hpv => Bw3 ?_))
    obtain ⟨q, L1, rfl, hpq, hL1⟩ : ∃ q L1, v = bdV (f q) /\ (q0 :: L0).Perm (q :: L1) /\ L'.Perm (L1.map fun p => bdV (f p)) := by
     have hmem : v ∈ (q0 :: L0).map fun p => bdV (f p) := (hLV.symm.trans hpv).mem_iff.2 (by simp)
     obtain ⟨q, hq, rfl⟩ := List.mem_map.1 hmem
     have h1 := List.perm_cons_erase hq
     exact ⟨q, _, rfl, h1, (List.perm_cons _).1 (hpv.symm.trans (hLV.trans (h1.map _)))⟩
    have hlen1 : (q0 :: L0).length = L1.length + 1 := by rw [hpq.length_eq]; rfl
    have hperm' : ((R ++ [q]) ++ L1).Perm l := by
     rw [List.append_assoc]
     exact ((hpq.symm.append_left R)).trans hperm
    have hsn : bdJ bd0 ((R ++ [q]).map f) = [(f q).lo, (f q).hi].foldl Akv (bdJ bd0 (R.map f)) := by rw [List.map_append, List.map_singleton, Cwu]
    rw [hlen1]
    generalize hB1e : bdJ bd0 ((R ++ [q]).map f) = B1 at *
    replace hB1e : Aqs _ := hB1e
    generalize bdJ bd0 (R.map f) = B0 at *
    generalize f q = x at *
    replace hsn : Aqs _ := hsn
    clear hperm hLV hpq hpv hlen1
    obtain ⟨xlo, xhi, xsm⟩ := x
    intro K hK
    change runX _ _ _ _ _ _ ((act 52 e []).put (some 41) (.tuple #[.agg #[.int .i64 xlo, .int .i64 xhi, .bool xsm], .bool true])) _
    rw [Aqn (by decide)]
    (refine @unH _ ?_; refine zX Avk ?_)
    refine hK _ _ ?_
    clear hK K
    (try simp only [nq, ↓reduceIte, Nat.reduceEqDiff])
    refine Ajz (Bjy (by simp only [Aqm, Aqr, Nat.reduceEqDiff, Nat.reduceLT, ↓reduceIte, *]; rfl) ?_ ?_) <;> intro hc
    ·clear hc
     refine Czb ?_
     (try simp only [nq, ↓reduceIte, Nat.reduceEqDiff])
     refine Bqo ?_
     (refine @unH _ ?_; refine zA Avk ?_; (repeat (refine inC ?_; intro hc)); try (refine inK ?_; intro K hK))
     intro xb hxb
     have nxb : bb ≠ xb := Ax0 vbb12 hxb
     ((try (refine @unH _ ?_; refine zX Avk ?_)); (try (refine hK _ _ ?_; clear hK K; (try simp only [nq, ↓reduceIte, Nat.reduceEqDiff]))); refine @unH _ ?_; refine zA Avk ?_; (repeat (refine inC ?_; intro hc)); try (refine inK ?_; intro K hK))
     intro g2 hg2
     replace hg2 : (Hp.set H12 xb (.cells #[.int .i64 xlo, .int .i64 xhi, .bool xsm] 120 (0, 0))) g2 = none := hg2
     generalize hG : Hp.set H12 xb _ = H13 at hg2 ⊢
     have vbb13 := Aze hG vbb12 nxb
     have lS13 : C.leS H13 := by rw [<- hG]; exact lS12.set (Bvi lS12 hxb)
     clear hG
     generalize hG : Hp.set H13 g2 _ = H14
     have vg2 := Aqf hG
     have vbb14 := Aze hG vbb13 (Ax0 vbb13 hg2)
     have lS14 : C.leS H14 := by rw [<- hG]; exact lS13.set (Bvi lS13 hg2)
     clear hG vbb13 lS13 vbb12 lS12
     have hsl : SlI H14 (.slice (some ⟨g2, 0, none⟩) 2 2) [xlo, xhi] := ⟨_, _, rfl, by simp, fun i y hi => by
      have := (List.getElem?_eq_some_iff.1 hi).1
      rcases (by simp at this; omega : i = 0 ∨ i = 1) with rfl | rfl
      ·simp at hi; subst hi; exact ⟨g2, 0, _, _, _, rfl, vg2, by simp⟩
      ·simp at hi; subst hi; exact ⟨g2, 0, _, _, _, rfl, vg2, by simp⟩⟩
     rw [Bk1, Ax8]
     simp only [Array.append_empty, List.append_toArray, List.cons_append, List.nil_append]
     refine (Bkt _ H14 bb B0 _ [xlo, xhi] hsl vbb14 (by simp)).runs.mono ?_
     rintro _ H15 ⟨rfl, vbb15, hoth⟩
     replace vbb15 : H15 bb = some (true, bdO B1) := by rw [vbb15, show B1 = _ from hsn]
     clear hsl vbb14 vg2
     replace hoth : Aqs _ := hoth
     ((try (refine @unH _ ?_; refine zX Avk ?_)); (try (refine hK _ _ ?_; clear hK K; (try simp only [nq, ↓reduceIte, Nat.reduceEqDiff]))); refine @unH _ ?_; refine zA Avk ?_; (repeat (refine inC ?_; intro hc)); try (refine inK ?_; intro K hK))
     refine ⟨L1.length + 1, by omega, _, L1, L', R ++ [q], rfl, rfl, hL1, hperm', rfl, e4, e5, e6, e40, fun b p o hb => ?_, ?_⟩
     ·obtain ⟨p', h1, h2⟩ := lS14 b p o hb
      exact ⟨p', ((show ∀ x, x ≠ bb -> H15 x = H14 x from hoth) b fun h => by rw [h, hCbb] at hb; cases hb).trans h1, h2⟩
     ·rw [vbb15, show bdJ bd0 ((R ++ [q]).map f) = B1 from hB1e]
    ·cases hc
end Go.Proofs.YtgniilnljeedlaaGreatDoor
end
