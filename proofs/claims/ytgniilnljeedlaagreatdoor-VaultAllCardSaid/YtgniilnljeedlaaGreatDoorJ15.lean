/- Texts VRun Rows2 PlanT PlanU PlanV Range Recov Iter Count Like App Path. -/
import Derived.Test.YtgniilnljeedlaaGreatDoorJ14
set_option linter.defProp false
set_option linter.unusedSimpArgs false
set_option linter.unusedVariables false
set_option maxRecDepth 100000
set_option maxHeartbeats 2000000
section
namespace Go.Proofs.YtgniilnljeedlaaGreatDoor
open Go Go.X
def Avz := And.intro (fun H => Aqx (H := H) Tryz.underlying25 rfl Tryz.sizeOf25) (And.intro @Bxr (And.intro @Ckj (And.intro @Bwn (And.intro @Cku (And.intro (fun H => Ay7 (H := H) Tryz.underlying82) (And.intro (fun H => Av2 (H := H) Tryz.underlying82) (And.intro (fun H => Ay8 (H := H) Tryz.underlying82) (And.intro (fun H => Av3 (H := H) Tryz.underlying82) (And.intro (fun H => Aq5 (H := H) Tryz.underlying22) (And.intro @Bk4 (And.intro (fun H => Aq1 (H := H) (P := Tryz.prog) (h := Tryz.zeroValue85)) (And.intro (fun H => Aq3 (H := H) Tryz.sizeOf85) (And.intro (fun H => Bjs (H := H) Tryz.underlying85 Tryz.sizeOf3) (And.intro (fun H => Aw6 (H := H) Tryz.underlying85 Tryz.sizeOf3) @Dxx))))))))))))))
def Bks := And.intro @Ckv (And.intro (fun H => Bkw (H := H) Tryz.underlying22) (fun H => Ay9 (H := H) Tryz.underlying22 Tryz.sizeOf3))
theorem Dkz {p q : Prop} (g : q) (h : Hid q -> p := by
 intro g
 repeat' (first
 | (refine Axn rfl ?_; intro Kz hKz; simp -implicitDefEqProofs (disch := first | omega | (simp only [qd] <;> omega)) only [xq, ↓xp, qc, Nat.reduceAdd, List.range, List.range.loop, fine, Nat.reduceEqDiff, ↓reduceIte, yielded, reduceCtorEq, Nat.reduceLT, Nat.reduceMul, Nat.reduceSub, one, Nat.reduceLeDiff, Aqa, Bks, aq, ↓ap, qe0, qe1, qe2, *, -g, -hKz, Option.isNone_some]; try (refine hKz _ _ ?_; clear hKz Kz))
 | (refine Axs rfl ?_; intro Kz hKz; simp -implicitDefEqProofs (disch := first | omega | (simp only [qd] <;> omega)) only [xq, ↓xp, qc, Nat.reduceAdd, List.range, List.range.loop, fine, Nat.reduceEqDiff, ↓reduceIte, yielded, reduceCtorEq, Nat.reduceLT, Nat.reduceMul, Nat.reduceSub, one, Nat.reduceLeDiff, Aqa, Bks, aq, ↓ap, qe0, qe1, qe2, *, -g, -hKz, Option.isNone_some]; try (refine hKz _ _ ?_; clear hKz Kz; (try simp only [nq, ↓reduceIte, Nat.reduceEqDiff])))
 | (refine Aqu ?_; (try simp only [nq, ↓reduceIte, Nat.reduceEqDiff]))
 | (refine Axr ?_; (try simp only [nq, ↓reduceIte, Nat.reduceEqDiff]))
 | (refine Axa ?_; (try simp only [nq, ↓reduceIte, Nat.reduceEqDiff]))
 | (refine Azb ?_; (try simp only [nq, ↓reduceIte, Nat.reduceEqDiff]))
 | (refine Axy (by simp only [Aqm, Aqr, Nat.reduceEqDiff, Nat.reduceLT, ↓reduceIte, *, -g]; rfl) ?_ ?_ <;> (intro hcz; first | (exfalso; simp -implicitDefEqProofs (disch := omega) only [*, -g, bq, reduceCtorEq] at hcz; done) | (simp only [dq, qe3, qe4, qe5, qe6] at hcz) | skip))
 | (refine Axq ?_)
 | (refine Aqo ?_)
 | (refine Aql ?_))
 (try (revert Kz; refine unK ?_)); (repeat (revert hcz; refine unC ?_))
 exact Hid.out g) : Hid p := ⟨h ⟨g⟩⟩
theorem Azz.bnd {xss : List (List Int)} {ts : List Int} {places pieces : Int} {start : List Int} (h : Azz xss ts) (ho : Az5 places pieces start xss) : ∀ t ∈ ts, 0 <= t /\ t < 6 := by
 intro t ht
 obtain ⟨i, hi, rfl⟩ := List.getElem_of_mem ht
 have hix : i < xss.length := by rw [<- h.1]; exact hi
 have := h.2 i ts[i] xss[i] (List.getElem?_eq_getElem hi) (List.getElem?_eq_getElem hix)
 have h2 := (ho.2.2.2.2.2.2.2 _ (List.getElem_mem hix)).2.2 _ this
 have h3 := ho.2.2.2.1
 omega
theorem Cqd (m : Md) (H : Hp) (b o n cap : Nat) (xs : List Int) (hx : ∀ (j : Nat) (y : Int), xs[j]? = some y -> H.cell ⟨b, o + j, none⟩ = some (.int .i64 y)) (hn : xs.length = n) (hl : n <= 1000000) (hb : ∃ x, H b = some x) :
  FnX Tryz.prog m 75 #[.slice (some ⟨b, o, none⟩) n cap] H fun e H' => ∃ w, e = .returned w /\ RowX none H H' w 3 (ints xs) := by
 obtain ⟨x0, hb⟩ := hb
 refine Aqk Tryz.func75 rfl Tryz.ntmps75 (by simp) ?_
 (refine @unH _ ?_; refine Dkz ?_; (repeat (refine inC ?_; intro hc)); try (refine inK ?_; intro K hK))
 intro nb hnb
 have hle : H.le (H.set nb (.cells #[] 3 (0, 0))) := Hp.le_set hnb
 have hrow0 : Aj3 H (H.set nb (.cells #[] 3 (0, 0))) (.slice (some ⟨nb, 0, none⟩) 0 0) 3 1 0 (ints []) := .inr ⟨nb, #[], 0, hnb, rfl, rfl, rfl, rfl, Nat.le_refl _, fun i u hi => by simp [ints] at hi⟩
 have hgne : b ≠ nb := Ax0 hb hnb
 ((try (refine @unH _ ?_; refine zX Bks ?_)); (try (refine hK _ _ ?_; clear hK K; (try simp only [nq, ↓reduceIte, Nat.reduceEqDiff]))); refine @unH _ ?_; refine zA Bks ?_; (repeat (refine inC ?_; intro hc)); try (refine inK ?_; intro K hK))
 refine Ajo hrow0 (Hp.le_refl _) (ys := xs) hn (fun h => absurd h (by rw [hb]; simp)) (fun j y hj => ?_) (by omega) _ _ _ _ (fun v' H1 H2 hr hl2 => ?_)
 ·rw [Bqc hgne]
  exact hx j y hj
 ·((try (refine @unH _ ?_; refine zX Bks ?_)); (try (refine hK _ _ ?_; clear hK K; (try simp only [nq, ↓reduceIte, Nat.reduceEqDiff]))); refine @unH _ ?_; refine zA Bks ?_; (repeat (refine inC ?_; intro hc)); try (refine inK ?_; intro K hK))
  (refine @unH _ ?_; refine z9 Tryz.results75 ?_)
  refine ⟨_, rfl, ?_⟩
  rcases hr with ⟨rfl, h0, hnil, hHe⟩ | ⟨b3, c3, cap3, hb3, rfl, rfl, hs3, hl3, hn3, hg3⟩
  ·simp only [List.nil_append] at hnil
   rw [hnil]
   exact ⟨Lex.of (by rw [hHe] at hl2; exact hl2), .inl ⟨rfl, rfl⟩⟩
  ·refine ⟨Lex.of (Hp.le_trans (Hp.le_set hb3) hl2), .inr ⟨b3, c3, cap3, hb3, hl2 _ _ Aqw, ?_, by simpa using hs3, ?_, ?_⟩⟩
   ·simp [ints, hn]
   ·simp [ints]; omega
   ·intro i u hi; exact hg3 i u (by simpa using hi)
theorem Cwa (main : Md) (H : Hp) (places pieces : Int) (sv cv tv : Value) (start : List Int) (xss : List (List Int)) (ts : List Int) (hd : Awr H places pieces sv cv tv start xss ts) (r : Int) (hr0 : 0 <= r) (hr3 : r <= 3) :
  FnX Tryz.prog main 28 #[.agg #[.int .i64 places, .int .i64 pieces, sv, cv], tv, .int .i64 r] H fun e H' => ∃ v, e = .returned (.tuple #[v, .int .i64 (rrun places r ts (rs0 start) ts.length).f, .int .i64 0]) /\ H.le H' /\ SlI H' v ((rrun places r ts (rs0 start) ts.length).cl.take ts.length) := by
 obtain ⟨sa, sn, sc, rfl⟩ := hd.st.isSlice
 obtain ⟨ca, cn, cc, rfl⟩ := hd.calls.isSlice
 have htv := hd.truth
 obtain ⟨ta, tc, rfl, htc, _⟩ := htv
 have hs6 : ∀ t ∈ start, 0 <= t /\ t < 6 := fun t ht => by
  have h1 := hd.ok.2.2.2.2.2.2.1 t ht
  have h2 := hd.ok.2.2.2.1
  omega
 have hsl : start.length <= 1000 := by
  have h1 := hd.ok.2.2.2.2.1
  have h2 := hd.ok.2.1
  omega
 have htb := hd.true.bnd hd.ok
 have htl : ts.length <= 8 := by have h1 := hd.true.1; have h2 := hd.few; omega
 have hOk := Bvw places r ts start hs6 htb (by omega) ts.length (Nat.le_refl _)
 have hnil : Ajr r ≠ .nilIface := by unfold Ajr; simp
 refine Aqk Tryz.func28 rfl Tryz.ntmps28 (by simp) ?_
 (refine @unH _ ?_; refine zA Avz ?_; (repeat (refine inC ?_; intro hc)); try (refine inK ?_; intro K hK))
 (intro vb hvb; generalize hG : Hp.set _ vb _ = H1; have lH1 := Aqg hG hvb; have vvb := Aqf hG; clear hG)
 have hd1 := hd.le lH1
 ((try (refine @unH _ ?_; refine zX Avz ?_)); (try (refine hK _ _ ?_; clear hK K; (try simp only [nq, ↓reduceIte, Nat.reduceEqDiff]))); refine @unH _ ?_; refine zA Avz ?_; (repeat (refine inC ?_; intro hc)); try (refine inK ?_; intro K hK))
 refine (Akp main H1 places pieces _ _ _ start xss ts hd1).runs.mono ?_
 rintro _ H2 ⟨db, mb, rfl, lH2, hdm, hdb, hmb, vdb, vmb⟩
 have hd2 := hd1.le lH2
 ((try (refine @unH _ ?_; refine zX Avz ?_)); (try (refine hK _ _ ?_; clear hK K; (try simp only [nq, ↓reduceIte, Nat.reduceEqDiff]))); refine @unH _ ?_; refine zA Avz ?_; (repeat (refine inC ?_; intro hc)); try (refine inK ?_; intro K hK))
 refine (Bjp main H2 r hr0 hr3).runs.mono ?_
 rintro _ H3 ⟨rfl, hH3⟩
 rw [hH3]; clear hH3 H3
 ((try (refine @unH _ ?_; refine zX Avz ?_)); (try (refine hK _ _ ?_; clear hK K; (try simp only [nq, ↓reduceIte, Nat.reduceEqDiff]))); refine @unH _ ?_; refine zA Avz ?_; (repeat (refine inC ?_; intro hc)); try (refine inK ?_; intro K hK))
 refine (Cx4 main H2 db places pieces _ _ _ ts mb vdb hd2.truth start hd2.st hs6 hsl htl htb r hr0 hr3).runs.mono ?_
 rintro _ H3 ⟨rfl, lH3⟩
 have hd3 := hd2.le lH3
 generalize hC : (rrun places r ts (rs0 start) ts.length).cl = C at *
 generalize (rrun places r ts (rs0 start) ts.length).f = F at *
 have hcl8 : C.length = 8 := by rw [<- hC]; exact hOk.cl
 clear hC hOk
 match C, hcl8 with
 | [c0, c1, c2, c3, c4, c5, c6, c7], _ =>
 simp only [ints, List.map_cons, List.map_nil]
 ((try (refine @unH _ ?_; refine zX Avz ?_)); (try (refine hK _ _ ?_; clear hK K; (try simp only [nq, ↓reduceIte, Nat.reduceEqDiff]))); refine @unH _ ?_; refine zA Avz ?_; (repeat (refine inC ?_; intro hc)); try (refine inK ?_; intro K hK))
 (intro cb hcb; generalize hG : Hp.set _ cb _ = H4; have lH4 := Aqg hG hcb; have vcb := Aqf hG; clear hG)
 ((try (refine @unH _ ?_; refine zX Avz ?_)); (try (refine hK _ _ ?_; clear hK K; (try simp only [nq, ↓reduceIte, Nat.reduceEqDiff]))); refine @unH _ ?_; refine zA Avz ?_; (repeat (refine inC ?_; intro hc)); try (refine inK ?_; intro K hK))
 refine (Cqd main H4 cb 0 ts.length 8 ([c0, c1, c2, c3, c4, c5, c6, c7].take ts.length) (fun j y hj => ?_) (by simp; omega) (by omega) ⟨_, vcb⟩).runs.mono ?_
 ·have hj2 : j < ts.length := by
   have := (List.getElem?_eq_some_iff.1 hj).1
   simp at this; omega
  rw [List.getElem?_take_of_lt hj2] at hj
  rw [Nat.zero_add, cell_of vcb]
  have := Ajv hj
  simpa [ints] using this
 ·rintro _ H5 ⟨w, rfl, hrow⟩
  ((try (refine @unH _ ?_; refine zX Avz ?_)); (try (refine hK _ _ ?_; clear hK K; (try simp only [nq, ↓reduceIte, Nat.reduceEqDiff]))); refine @unH _ ?_; refine zA Avz ?_; (repeat (refine inC ?_; intro hc)); try (refine inK ?_; intro K hK))
  (refine @unH _ ?_; refine zC Tryz.results28 ?_)
  exact ⟨w, rfl, Hp.le_trans lH1 (Hp.le_trans lH2 (Hp.le_trans lH3 (Hp.le_trans lH4 hrow.1.toLe))), hrow.ints⟩
end Go.Proofs.YtgniilnljeedlaaGreatDoor
end
section
namespace Go.X
open Go
theorem Ajc {P : Program} {main : Md} {lp : Option Nat} {Q : Exit -> Act -> Hp -> Prop} {a : Act} {H : Hp} {S : Hp -> Prop} {t i : Nat} {ops : List Oper} {o : Oper} {rest : List (Bool × Nat)} {v : Value} (ho : ops[i]? = some o) (hw : Region.wanted o (yielded ops.toArray a.tmps) = true) (hf : fine lp o = true)
  (hS : S H) (h : ∀ H', S H' -> wpS P (execOp a.eval o) H' (YN P main v H') fun _ _ => False) (hk : Ak8 P main lp ops.toArray Q S t rest (a.put o.dst v) H) : Ak8 P main lp ops.toArray Q S t ((true, i) :: rest) a H :=
 ⟨hS, o, by simpa using ho, v, .inl ⟨hw, hf, h⟩, hk⟩
end Go.X
namespace Go.Proofs.YtgniilnljeedlaaGreatDoor
open Go Go.X
theorem Bvu {l vs : List Value} (h : vs.length = l.length) : over l.toArray 0 vs = vs.toArray := by
 rw [Avs _ _ _ (by omega), List.take_zero, List.nil_append, List.drop_of_length_le (by omega), List.append_nil]
def rowB : Value -> Option Nat
 | .slice (some a) _ _ => some a.block
 | _ => none
end Go.Proofs.YtgniilnljeedlaaGreatDoor
end
section
namespace Go.X
open Go
inductive PT where
 | nil
 | take (i : Nat) (p : PT)
 | one (i : Nat) (p : PT)
 | two (i : Nat) (p : PT) (j : Nat) (q : PT)
section
variable {P : Program} {main : Md} {lp : Option Nat} {Q : Exit -> Act -> Hp -> Prop} {ops : Array Oper} {S : Hp -> Prop}
def Cji (P : Program) (main : Md) (lp : Option Nat) (ops : Array Oper) (Q : Exit -> Act -> Hp -> Prop) (S : Hp -> Prop) : PT -> Act -> Hp -> Prop
 | .nil, a, H => Q .normal a H
 | .take i p, a, H => S H /\ ∃ o, ops[i]? = some o /\ ∃ v, Azm P main lp ops S o v a /\ Cji P main lp ops Q S p (a.put o.dst v) H
 | .one i p, a, H => numX P main lp ops i Q (fun a' H' => S H' /\ Cji P main lp ops Q S p a' H') a H
 | .two i p j q, a, H => numX P main lp ops i Q (fun a' H' => S H' /\ Cji P main lp ops Q S p a' H') a H /\ numX P main lp ops j Q (fun a' H' => S H' /\ Cji P main lp ops Q S q a' H') a H
@[congr] theorem planT_congr {S : Hp -> Prop} {ops : Array Oper} {p : PT} {a a' : Act} {H H' : Hp} (ha : a = a') (hH : H = H') : Cji P main lp ops Q S p a H = Cji P main lp ops Q S p a' H' := by subst ha hH; rfl
end
end Go.X
end
section
namespace Go.X
open Go
section
variable {P : Program} {main : Md} {lp : Option Nat} {Q : Exit -> Act -> Hp -> Prop} {ops : Array Oper} {S : Hp -> Prop}
def waitsFor (ops : Array Oper) (t : Nat) : Array Bool := marked ops (List.range ops.size).reverse ((Array.replicate ops.size false).setIfInBounds t true)
theorem Byo {t x : Nat} (h : (waitsFor ops t).getD x false = true) : x = t ∨ Dep ops t x := by
 refine Ayh _ _ (fun y hy => ?_) x h
 by_cases hyt : t = y
 ·exact .inl hyt.symm
 ·rw [getD_set_ne false hyt] at hy
  by_cases hlt : y < ops.size <;> simp [Array.getD, hlt] at hy
def Cjj (P : Program) (main : Md) (lp : Option Nat) (ops : Array Oper) (Q : Exit -> Act -> Hp -> Prop) (S : Hp -> Prop) (ts : List Nat) : PT -> Act -> Hp -> Prop
 | .nil, a, H => Q .normal a H
 | .take i p, a, H => S H /\ ∃ o, ops[i]? = some o /\ ∃ v, Azm P main lp ops S o v a /\ Cjj P main lp ops Q S ts p (a.put o.dst v) H
 | .one i p, a, H => numX P main lp ops i Q (fun a' H' => (i ∈ ts ∨ S H') /\ Cjj P main lp ops Q S ts p a' H') a H
 | .two i p j q, a, H => numX P main lp ops i Q (fun a' H' => (i ∈ ts ∨ S H') /\ Cjj P main lp ops Q S ts p a' H') a H /\ numX P main lp ops j Q (fun a' H' => (j ∈ ts ∨ S H') /\ Cjj P main lp ops Q S ts q a' H') a H
@[congr] theorem planU_congr {S : Hp -> Prop} {ts : List Nat} {ops : Array Oper} {p : PT} {a a' : Act} {H H' : Hp} (ha : a = a') (hH : H = H') : Cjj P main lp ops Q S ts p a H = Cjj P main lp ops Q S ts p a' H' := by subst ha hH; rfl
end
end Go.X
end
section
namespace Go.X
open Go
section
variable {P : Program} {main : Md} {lp : Option Nat} {Q : Exit -> Act -> Hp -> Prop} {ops : Array Oper} {S : Hp -> Prop}
def anyV (P : Program) (main : Md) (lp : Option Nat) (ops : Array Oper) (Q : Exit -> Act -> Hp -> Prop) (S : Hp -> Prop) (ts : List Nat) : Nat -> Array Bool -> Act -> Hp -> Prop
 | 0, listed, a, H => Region.ready .any ops listed = [] /\ Q .normal a H
 | fuel + 1, listed, a, H =>
  (Region.ready .any ops listed = [] -> Q .normal a H) /\
  ∀ i ∈ Region.ready .any ops listed, numX P main lp ops i Q (fun a' H' => (i ∈ ts ∨ (S H -> S H')) /\ anyV P main lp ops Q S ts fuel (listed.setIfInBounds i true) a' H') a H
theorem Bx5 {ts : List Nat} : ∀ (fuel : Nat) (listed : Array Bool) (a : Act) (H : Hp), anyV P main lp ops Q S ts fuel listed a H -> anyX P main lp ops Q (fun _ => True) fuel listed a H
 | 0, _, _, _, h => h
 | fuel + 1, _, _, _, h => ⟨h.1, fun i hi => Azv (fun a' H' h' => ⟨trivial, Bx5 fuel _ a' H' h'.2⟩) (h.2 i hi)⟩
theorem Czj {ts : List Nat} {i : Nat} {oi : Oper} {v : Value} (hi : ops[i]? = some oi) (hsel : ∀ (j : Nat) (o : Oper) cs b, ops[j]? = some o -> o.op ≠ .select cs b)
  (hdep : ∀ t ∈ ts, t < ops.size -> Dep ops t i)
  (hQ : ∀ c a H, Q (.panic c) (a.put oi.dst v) H -> Q (.panic c) a H) :
  ∀ (fuel : Nat) (listed : Array Bool) (a : Act) (H : Hp), Closed ops listed ->
   (∀ j oj, ops[j]? = some oj -> j ≠ i -> listed.getD j true = false -> (∀ e ∈ oj.after, Region.binds .any e = true -> e.on ≠ i) -> oi.apart ops oj = true) ->
   i ∈ Region.ready .any ops listed -> Azm P main lp ops S oi v a -> S H ->
   anyV P main lp ops Q S ts fuel (listed.setIfInBounds i true) (a.put oi.dst v) H -> anyV P main lp ops Q S ts (fuel + 1) listed a H := by
 intro fuel
 induction fuel with
 | zero =>
  intro listed a H _ _ hr hy hS h
  refine ⟨fun h0 => (by rw [h0] at hr; cases hr), fun j hj => ?_⟩
  by_cases hji : j = i
  ·subst hji; exact hy.num hi hS ⟨.inr id, h⟩
  ·have := ready_mono hj hji
   rw [h.1] at this
   cases this
 | succ fuel ih =>
  intro listed a H hcl hfree hr hy hS h
  refine ⟨fun h0 => (by rw [h0] at hr; cases hr), fun j hj => ?_⟩
  by_cases hji : j = i
  ·subst hji; exact hy.num hi hS ⟨.inr id, h⟩
  ·have h1 := h.2 j (ready_mono hj hji)
   obtain ⟨hjun, oj, hoj, hall⟩ := mem_ready.1 hj
   have hiun : listed.getD i false = false := by
    have h0 := (mem_ready.1 hr).1
    rcases Nat.lt_or_ge i listed.size with h' | h'
    ·simpa [h'] using h0
    ·simp [Array.getElem?_eq_none h']
   have hjt : j ∉ ts := fun e => by
    have := (hdep j e (Array.getElem?_eq_some_iff.1 hoj).1).listed hcl hj
    rw [hiun] at this; cases this
   have hnot : ∀ e ∈ oj.after, Region.binds .any e = true -> e.on ≠ i := fun e he hb heq => by
    have h1 := hall e he hb
    rw [heq, hiun] at h1
    cases h1
   have h2 := Bvm hoj (hfree j oj hoj hji hjun hnot) (fun cs b => hsel i oi cs b hi) (fun cs b => hsel j oj cs b hoj) hQ hy h1
   have hfree' : ∀ k ok, ops[k]? = some ok -> k ≠ i -> (listed.setIfInBounds j true).getD k true = false ->
     (∀ e ∈ ok.after, Region.binds .any e = true -> e.on ≠ i) -> oi.apart ops ok = true := fun k ok hk hki hun hno => by
    refine hfree k ok hk hki ?_ hno
    by_cases hjk : j = k
    ·subst hjk; exact hjun
    ·rw [getD_set_ne true hjk] at hun; exact hun
   refine Azv (fun a' H' h3 => ?_) h2
   obtain ⟨hy', hd, h4⟩ := h3
   have hS' : S H' := hd.resolve_left hjt hS
   exact ⟨.inr fun _ => hS', ih (listed.setIfInBounds j true) a' H' (hcl.set hj) hfree' (ready_mono hr (Ne.symm hji)) hy' hS' (by rw [Array.setIfInBounds_comm _ _ hji]; exact h4)⟩
theorem Cj3 {ts : List Nat} {i : Nat} {oi : Oper} {v : Value} (hi : ops[i]? = some oi) (hsel : ∀ (j : Nat) (o : Oper) cs b, ops[j]? = some o -> o.op ≠ .select cs b)
  (hQ : ∀ c a H, Q (.panic c) (a.put oi.dst v) H -> Q (.panic c) a H) :
  ∀ (fuel : Nat) (listed : Array Bool) (a : Act) (H : Hp), Closed ops listed ->
   (∀ j oj, ops[j]? = some oj -> j ≠ i -> listed.getD j true = false -> (∀ e ∈ oj.after, Region.binds .any e = true -> e.on ≠ i) -> oi.apart ops oj = true) ->
   i ∈ Region.ready .any ops listed -> Azm P main lp ops (fun _ => True) oi v a ->
   anyV P main lp ops Q S ts fuel (listed.setIfInBounds i true) (a.put oi.dst v) H -> anyV P main lp ops Q S ts (fuel + 1) listed a H := by
 intro fuel
 induction fuel with
 | zero =>
  intro listed a H _ _ hr hy h
  refine ⟨fun h0 => (by rw [h0] at hr; cases hr), fun j hj => ?_⟩
  by_cases hji : j = i
  ·subst hji; exact hy.num hi trivial ⟨.inr id, h⟩
  ·have := ready_mono hj hji
   rw [h.1] at this
   cases this
 | succ fuel ih =>
  intro listed a H hcl hfree hr hy h
  refine ⟨fun h0 => (by rw [h0] at hr; cases hr), fun j hj => ?_⟩
  by_cases hji : j = i
  ·subst hji; exact hy.num hi trivial ⟨.inr id, h⟩
  ·have h1 := h.2 j (ready_mono hj hji)
   obtain ⟨hjun, oj, hoj, hall⟩ := mem_ready.1 hj
   have hiun : listed.getD i false = false := by
    have h0 := (mem_ready.1 hr).1
    rcases Nat.lt_or_ge i listed.size with h' | h'
    ·simpa [h'] using h0
    ·simp [Array.getElem?_eq_none h']
   have hnot : ∀ e ∈ oj.after, Region.binds .any e = true -> e.on ≠ i := fun e he hb heq => by
    have h1 := hall e he hb
    rw [heq, hiun] at h1
    cases h1
   have h2 := Bvm hoj (hfree j oj hoj hji hjun hnot) (fun cs b => hsel i oi cs b hi) (fun cs b => hsel j oj cs b hoj) hQ hy h1
   have hfree' : ∀ k ok, ops[k]? = some ok -> k ≠ i -> (listed.setIfInBounds j true).getD k true = false ->
     (∀ e ∈ ok.after, Region.binds .any e = true -> e.on ≠ i) -> oi.apart ops ok = true := fun k ok hk hki hun hno => by
    refine hfree k ok hk hki ?_ hno
    by_cases hjk : j = k
    ·subst hjk; exact hjun
    ·rw [getD_set_ne true hjk] at hun; exact hun
   refine Azv (fun a' H' h3 => ?_) h2
   obtain ⟨hy', hd, h4⟩ := h3
   exact ⟨hd, ih (listed.setIfInBounds j true) a' H' (hcl.set hj) hfree' (ready_mono hr (Ne.symm hji)) hy' (by rw [Array.setIfInBounds_comm _ _ hji]; exact h4)⟩
inductive PV where
 | nil
 | take (i : Nat) (p : PV)
 | free (i : Nat) (p : PV)
 | one (i : Nat) (p : PV)
 | two (i : Nat) (p : PV) (j : Nat) (q : PV)
def PV.depth : PV -> Nat
 | .nil => 0
 | .take _ p => p.depth + 1
 | .free _ p => p.depth + 1
 | .one _ p => p.depth + 1
 | .two _ p _ q => max p.depth q.depth + 1
def Aw4 (P : Program) (main : Md) (lp : Option Nat) (ops : Array Oper) (Q : Exit -> Act -> Hp -> Prop) (S : Hp -> Prop) (ts : List Nat) : PV -> Act -> Hp -> Prop
 | .nil, a, H => Q .normal a H
 | .take i p, a, H => S H /\ ∃ o, ops[i]? = some o /\ ∃ v, Azm P main lp ops S o v a /\ Aw4 P main lp ops Q S ts p (a.put o.dst v) H
 | .free i p, a, H => ∃ o, ops[i]? = some o /\ ∃ v, Azm P main lp ops (fun _ => True) o v a /\ Aw4 P main lp ops Q S ts p (a.put o.dst v) H
 | .one i p, a, H => numX P main lp ops i Q (fun a' H' => (i ∈ ts ∨ (S H -> S H')) /\ Aw4 P main lp ops Q S ts p a' H') a H
 | .two i p j q, a, H => numX P main lp ops i Q (fun a' H' => (i ∈ ts ∨ (S H -> S H')) /\ Aw4 P main lp ops Q S ts p a' H') a H /\ numX P main lp ops j Q (fun a' H' => (j ∈ ts ∨ (S H -> S H')) /\ Aw4 P main lp ops Q S ts q a' H') a H
def Aka (ops : Array Oper) (ts : List Nat) : PV -> Array Bool -> Bool
 | .nil, listed => (Region.ready .any ops listed).isEmpty
 | .take i p, listed => (ts.all fun t => i != t && (waitsFor ops t).getD i false) && Region.free .any ops listed i && (Region.ready .any ops listed).contains i && Aka ops ts p (listed.setIfInBounds i true)
 | .free i p, listed => Region.free .any ops listed i && (Region.ready .any ops listed).contains i && Aka ops ts p (listed.setIfInBounds i true)
 | .one i p, listed => (Region.ready .any ops listed == [i]) && Aka ops ts p (listed.setIfInBounds i true)
 | .two i p j q, listed => (Region.ready .any ops listed == [i, j]) && Aka ops ts p (listed.setIfInBounds i true) && Aka ops ts q (listed.setIfInBounds j true)
theorem Akb {ts : List Nat} (hsel : Region.noSelect ops = true) (hQ : ∀ c a H d v, Q (.panic c) (a.put d v) H -> Q (.panic c) a H) :
  ∀ (plan : PV) (fuel : Nat) (listed : Array Bool) (a : Act) (H : Hp), plan.depth <= fuel -> Closed ops listed -> Aka ops ts plan listed = true ->
   Aw4 P main lp ops Q S ts plan a H -> anyV P main lp ops Q S ts fuel listed a H
 | .nil, fuel, listed, a, H, _, _, hok, h => by
  have hr : Region.ready .any ops listed = [] := by simpa [Aka] using hok
  cases fuel with
  | zero => exact ⟨hr, h⟩
  | succ n => exact ⟨fun _ => h, by rw [hr]; simp⟩
 | .take i p, 0, _, _, _, hl, _, _, _ => by simp [PV.depth] at hl
 | .free i p, 0, _, _, _, hl, _, _, _ => by simp [PV.depth] at hl
 | .free i p, fuel + 1, listed, a, H, hl, hcl, hok, h => by
  simp only [Aka, Bool.and_eq_true] at hok
  obtain ⟨⟨hf, hr⟩, hok⟩ := hok
  obtain ⟨o, ho, v, hy, h⟩ := h
  have hr' : i ∈ Region.ready .any ops listed := by simpa using hr
  exact Cj3 ho (Region.noSelect_spec hsel) (fun c a H => hQ c a H _ _) fuel listed a H hcl (Region.free_spec ho hf) hr' hy
   (Akb hsel hQ p fuel _ _ _ (by simp [PV.depth] at hl; omega) (hcl.set hr') hok h)
 | .one i p, 0, _, _, _, hl, _, _, _ => by simp [PV.depth] at hl
 | .two i p j q, 0, _, _, _, hl, _, _, _ => by simp [PV.depth] at hl
 | .take i p, fuel + 1, listed, a, H, hl, hcl, hok, h => by
  simp only [Aka, Bool.and_eq_true] at hok
  obtain ⟨⟨⟨hd, hf⟩, hr⟩, hok⟩ := hok
  obtain ⟨hS, o, ho, v, hy, h⟩ := h
  have hr' : i ∈ Region.ready .any ops listed := by simpa using hr
  refine Czj ho (Region.noSelect_spec hsel) (fun t ht hlt => ?_) (fun c a H => hQ c a H _ _) fuel listed a H hcl (Region.free_spec ho hf) hr' hy hS
   (Akb hsel hQ p fuel _ _ _ (by simp [PV.depth] at hl; omega) (hcl.set hr') hok h)
  have := List.all_eq_true.1 hd t ht
  simp only [Bool.and_eq_true, bne_iff_ne, ne_eq] at this
  exact (Byo this.2).resolve_left this.1
 | .one i p, fuel + 1, listed, a, H, hl, hcl, hok, h => by
  simp only [Aka, Bool.and_eq_true, beq_iff_eq] at hok
  obtain ⟨hr, hok⟩ := hok
  refine ⟨fun h0 => (by rw [hr] at h0; cases h0), fun j hj => ?_⟩
  have hji : j = i := by rw [hr] at hj; simpa using hj
  subst hji
  exact Azv (fun a' H' h' => ⟨h'.1, Akb hsel hQ p fuel _ _ _ (by simp [PV.depth] at hl; omega) (hcl.set hj) hok h'.2⟩) h
 | .two i p j q, fuel + 1, listed, a, H, hl, hcl, hok, h => by
  simp only [Aka, Bool.and_eq_true, beq_iff_eq] at hok
  obtain ⟨⟨hr, hok1⟩, hok2⟩ := hok
  refine ⟨fun h0 => (by rw [hr] at h0; cases h0), fun k hk => ?_⟩
  have hkk : k = i ∨ k = j := by rw [hr] at hk; simpa using hk
  rcases hkk with rfl | rfl
  ·exact Azv (fun a' H' h' => ⟨h'.1, Akb hsel hQ p fuel _ _ _ (by simp [PV.depth] at hl; omega) (hcl.set hk) hok1 h'.2⟩) h.1
  ·exact Azv (fun a' H' h' => ⟨h'.1, Akb hsel hQ q fuel _ _ _ (by simp [PV.depth] at hl; omega) (hcl.set hk) hok2 h'.2⟩) h.2
theorem Cwg {id : Nat} {a : Act} {H : Hp} (S : Hp -> Prop) (ts : List Nat) (plan : PV) (hm : P.follows .mixedOrders = true) (hsel : Region.noSelect ops = true) (hlen : plan.depth <= ops.size)
  (hok : Aka ops ts plan (Array.replicate ops.size false) = true)
  (hQ : ∀ c a H d v, Q (.panic c) (a.put d v) H -> Q (.panic c) a H) (h : Aw4 P main lp ops Q S ts plan a H) : wpX P main lp (.region id ops true) Q a H :=
 Czc (fun _ => True) hm (Bx5 _ _ _ _ (Akb hsel hQ plan _ _ _ _ hlen .start hok h))
theorem Ajl {id : Nat} {ops : Array Oper} {a : Act} {H : Hp} (S : Hp -> Prop) (ts : List Nat) (plan : PV) (hm : P.follows .mixedOrders = true) (hsel : Region.noSelect ops = true) (hlen : plan.depth <= ops.size)
  (hok : Aka ops ts plan (Array.replicate ops.size false) = true)
  (h : ∀ K : Act -> Hp -> Prop, (∀ a' H', Q .normal a' H' -> K a' H') -> Aw4 P main lp ops (only K) S ts plan a H) :
  wpX P main lp (.region id ops true) Q a H := by
 refine Avf (Q := only fun a' H' => Q .normal a' H') (Cwg S ts plan hm hsel hlen hok (fun c a H d v h => h) (h _ fun _ _ h => h)) fun e a H q => ?_
 cases e <;> first | exact q | exact q.elim
theorem Axd {S : Hp -> Prop} {ts : List Nat} {a : Act} {H : Hp} {i : Nat} {ops : List Oper} {o : Oper} {p : PV} {v : Value} (ho : ops[i]? = some o) (hw : Region.wanted o (yielded ops.toArray a.tmps) = true) (hf : fine lp o = true)
  (hS : S H) (h : ∀ H', S H' -> wpS P (execOp a.eval o) H' (YN P main v H') fun _ _ => False) (hk : Aw4 P main lp ops.toArray Q S ts p (a.put o.dst v) H) : Aw4 P main lp ops.toArray Q S ts (.take i p) a H :=
 ⟨hS, o, by simpa using ho, v, .inl ⟨hw, hf, h⟩, hk⟩
theorem Aq6 {S : Hp -> Prop} {ts : List Nat} {a : Act} {H : Hp} {i : Nat} {ops : Array Oper} {p : PV} (h : numX P main lp ops i Q (fun a' H' => (i ∈ ts ∨ (S H -> S H')) /\ Aw4 P main lp ops Q S ts p a' H') a H) : Aw4 P main lp ops Q S ts (.one i p) a H := h
theorem Azw {S : Hp -> Prop} {ts : List Nat} {a : Act} {H : Hp} {ops : Array Oper} (h : Q .normal a H) : Aw4 P main lp ops Q S ts .nil a H := h
@[congr] theorem planV_congr {S : Hp -> Prop} {ts : List Nat} {ops : Array Oper} {p : PV} {a a' : Act} {H H' : Hp} (ha : a = a') (hH : H = H') : Aw4 P main lp ops Q S ts p a H = Aw4 P main lp ops Q S ts p a' H' := by subst ha hH; rfl
theorem Ax5 {S : Hp -> Prop} {ts : List Nat} {a : Act} {H : Hp} {i : Nat} {ops : List Oper} {o : Oper} {p : PV} {v : Value} (ho : ops[i]? = some o) (hw : Region.wanted o (yielded ops.toArray a.tmps) = true) (hf : fine lp o = true)
  (h : ∀ H' : Hp, wpS P (execOp a.eval o) H' (YN P main v H') fun _ _ => False) (hk : Aw4 P main lp ops.toArray Q S ts p (a.put o.dst v) H) : Aw4 P main lp ops.toArray Q S ts (.free i p) a H :=
 ⟨o, by simpa using ho, v, .inl ⟨hw, hf, fun H' _ => h H'⟩, hk⟩
end
end Go.X
end
section
namespace Go.X
open Go
open Go.Conc (G base)
section
variable {P : Program} {main : Md} {Q : Exit -> Act -> Hp -> Prop} {a : Act} {H : Hp}
def Czf (q : Option (Bool × Obj)) (l : Nat) (args : Array Value) (H : Hp) (K : Next -> Hp -> Prop) : Prop := match q with
 | some (_, .loop r) => args.size = r.params.size /\ K (.round l r.fn ((r.params.zip args).foldl (fun tmps (x : Tmp × Value) => tmps.setIfInBounds x.1 x.2) r.tmps) r.assign r.body) H
 | _ => False
theorem Cxc {p : Bool} {r : Loop} {l : Nat} {args : Array Value} {K : Next -> Hp -> Prop} : Czf (some (p, .loop r)) l args H K = (args.size = r.params.size /\ K (.round l r.fn ((r.params.zip args).foldl (fun tmps (x : Tmp × Value) => tmps.setIfInBounds x.1 x.2) r.tmps) r.assign r.body) H) := rfl
theorem Cwe {l : Nat} {args : Array Value} {K : Next -> Hp -> Prop} {E : Value -> Hp -> Prop} (h : Czf (H l) l args H K) : wpS P (Instr.yield l args) H K E := by
 unfold Czf at h
 split at h
 ·rename_i p r hl
  unfold Instr.yield Instr.getLoop
  rw [Aqb, Aqb]
  refine ⟨p, _, hl, rfl, rfl, ?_⟩
  rw [Ak4]
  simp only [Aqi, ne_eq, h.1, not_true, if_false]
  exact h.2
 ·exact h.elim
theorem By8 {l : Nat} {args : Array Value} {K : Next -> Hp -> Prop} {E : Value -> Hp -> Prop} (h : Czf (H l) l args H K) : Bk6 P (.func (.yield l) #[] #[]) args H K E := by
 unfold Bk6
 rw [Aqb]
 simp only [Deferred.ofValue, Aqi, invoke, Array.empty_append]
 exact Cwe h
def rnd (l : Nat) (R : Ending -> Hp -> Prop) : Exit -> Act -> Hp -> Prop
 | .normal, a, H => a.defers = [] /\ ∃ r, H l = some (true, .loop r) /\ R (.returned (.bool true)) (H.set l (.loop { r with state := .ready, pending := none }))
 | .exit id, a, H => a.defers = [] /\ ∃ r, H l = some (true, .loop r) /\ R (.returned (.bool false)) (H.set l (.loop { r with state := .done, pending := some (.exit id) }))
 | .ret, a, H => a.defers = [] /\ ∃ r, H l = some (true, .loop r) /\ R (.returned (.bool false)) (H.set l (.loop { r with state := .done, pending := some .ret }))
 | _, _, _ => False
theorem Byr {l : Nat} {r : Loop} (h : H l = some (true, .loop r)) (jump : Option Code) (K : Value -> Hp -> Prop) (E : Value -> Hp -> Prop) (hk : K (.bool jump.isNone) (H.set l (.loop { r with state := if jump.isNone then .ready else .done, pending := jump }))) :
  wpS P (Instr.endRound l jump) H K E := by
 unfold Instr.endRound Instr.getLoop
 rw [Aqb, Aqb]
 refine ⟨true, _, h, rfl, rfl, ?_⟩
 rw [Ak4]
 simp only [Aqi, Aqb]
 exact ⟨_, h, rfl, rfl, hk⟩
theorem Bj8 {l : Nat} {r : Loop} (h : H l = some (true, .loop r)) (hr : r.state = .ready) (K : Unit -> Hp -> Prop) (E : Value -> Hp -> Prop) (hk : K () (H.set l (.loop { r with state := .busy }))) :
  wpS P (Instr.beginRound l) H K E := by
 unfold Instr.beginRound Instr.getLoop
 rw [Aqb, Aqb]
 refine ⟨true, _, h, rfl, rfl, ?_⟩
 rw [Ak4]
 simp only [Aqi, Aqb]
 refine ⟨_, h, rfl, rfl, ?_⟩
 rw [hr]
 exact hk
theorem Bqh {b c : Frame} {cs : List Frame} {Stop : Goroutine -> Hp -> Prop} {l : Nat} {r : Loop} {jump : Option Code} {a : Act} {todo : List Item} (hb : b.kind = .normal) (hl : b.roundOf = some l) (h : H l = some (true, .loop r))
  (hs : ∀ w, stepG P main (G (fat b a todo) (c :: cs)) w = (let (x, es) := (Instr.endRound l jump).runT P w #[]
   GStep.after (seen P b.fn es) <| match x with
   | .ok v w => doReturn P main (fat b a todo) (c :: cs) none v w
   | .halt _ w => .ended (.stuck "range over a function: no such loop" ((fat b a todo).pos P)) w))
  (hk : WPG P main Stop (G (c.finish (.bool jump.isNone)) cs) (H.set l (.loop { r with state := if jump.isNone then .ready else .done, pending := jump }))) : WPG P main Stop (G (fat b a todo) (c :: cs)) H := by
 refine WPG.tree (s := Instr.endRound l jump) (K := fun v H' => v = .bool jump.isNone /\ H' = H.set l (.loop { r with state := if jump.isNone then .ready else .done, pending := jump })) (E := fun _ _ => False) rfl (Byr h jump _ _ ⟨rfl, rfl⟩)
  (fun g' H' => g' = G (c.finish (.bool jump.isNone)) cs /\ H' = H.set l (.loop { r with state := if jump.isNone then .ready else .done, pending := jump })) (fun w w' H' es v hr hm hk' => ?_) (fun _ _ _ _ _ _ _ he => he.elim) ?_
 ·obtain ⟨rfl, rfl⟩ := hk'
  refine ⟨_, seen P b.fn es, ?_, fun e => mem_seen, rfl, rfl⟩
  rw [hs, hr]
  simp [doReturn, fat, hb, GStep.after, G]
 ·rintro g' H' ⟨rfl, rfl⟩
  exact hk
theorem Cjm {l : Nat} {fn : FuncId} {tmps : Array Value} {asg body : Code} {R : Ending -> Hp -> Prop}
  (h : wpX P main (some l) asg (thn (fun a H1 => ∃ r, H1 l = some (true, .loop r) /\ r.state = .ready /\ wpX P main (some l) body (rnd l R) a (H1.set l (.loop { r with state := .busy }))) fun _ _ _ => False) { tmps := tmps, defers := [] } H) :
  Runs P main (Frame.round l fn tmps asg body .normal) H R := by
 intro c cs Stop hv hp
 have he : Frame.round l fn tmps asg body .normal = fat { base fn with roundOf := some l } { tmps := tmps, defers := [] } [.code asg, .beginRound, .code body] := by
  simp [Frame.round, fat, base]
 rw [he]
 refine h { base fn with roundOf := some l } [.beginRound, .code body] (c :: cs) Stop (by simp [base]) rfl fun e a1 H1 q => ?_
 cases e with
 | normal =>
  obtain ⟨r, hl, hr, q⟩ := q
  refine WPG.tree (s := (do Instr.beginRound l; pure .skip : Sem Next)) (K := fun v H' => v = .skip /\ H' = H1.set l (.loop { r with state := .busy })) (E := fun _ _ => False) rfl (by rw [Aqb]; exact Bj8 hl hr _ _ ⟨rfl, rfl⟩)
   (fun g' H' => g' = G (fat { base fn with roundOf := some l } a1 [.code body]) (c :: cs) /\ H' = H1.set l (.loop { r with state := .busy })) (fun w w' H' es v hr' hm hk' => ?_) (fun _ _ _ _ _ _ _ he => he.elim) ?_
  ·obtain ⟨rfl, rfl⟩ := hk'
   refine ⟨_, seen P fn es, ?_, fun e => mem_seen, rfl, rfl⟩
   simp [stepG, stepG.exec, stepG.apply, fat, G, base, hr', GStep.after, Frame.finish, -Sem.runT_eq, -bind_pure_comp]
  ·rintro g' H' ⟨rfl, rfl⟩
   refine q { base fn with roundOf := some l } [] (c :: cs) Stop (by simp [base]) rfl fun e a2 H2 q2 => ?_
   cases e with
   | normal =>
    obtain ⟨_, r2, hl2, q2⟩ := q2
    refine Bqh (jump := none) rfl rfl hl2 (fun w => ?_) (hv _ _ q2)
    simp [stepG, stepG.exec, fat, G, base]
    rfl
   | exit id =>
    obtain ⟨_, r2, hl2, q2⟩ := q2
    intro k' hk'
    refine Bqh (jump := some (.exit id)) rfl rfl hl2 (fun w => ?_) (hv _ _ q2)
    simp [exitTo] at hk'
    simp [stepG, stepG.exec, fat, G, base, hk']
    rfl
   | ret =>
    obtain ⟨_, r2, hl2, q2⟩ := q2
    intro k'
    refine Bqh (jump := some .ret) rfl rfl hl2 (fun w => ?_) (hv _ _ q2)
    simp [stepG, stepG.exec, fat, G, base]
    rfl
   | goto l => exact q2.elim
   | panic ch => exact q2.elim
   | outgrown => exact q2.elim
 | exit id => exact q.elim
 | goto l => exact q.elim
 | ret => exact q.elim
 | panic ch => exact q.elim
 | outgrown => exact q.elim
def coll (r : Nat) : Deferred := { target := .collected r, args := #[] }
def behind (l r : Nat) (a : Act) (Q : Exit -> Act -> Hp -> Prop) : Ending -> Hp -> Prop
 | .returned _, H => ∃ q, H l = some (true, .loop q) /\ q.state ≠ .busy /\ (match q.pending with
  | none => Q .normal { a with defers := coll r :: a.defers } (H.set l (.loop { q with state := .exhausted }))
  | some (.exit id) => Q (.exit id) { a with defers := coll r :: a.defers } (H.set l (.loop { q with state := .exhausted }))
  | some .ret => Q .ret { a with defers := coll r :: a.defers } (H.set l (.loop { q with state := .exhausted }))
  | _ => False)
 | .panicked ch, H => Q (.panic ch) { a with defers := coll r :: a.defers } H
 | .outgrown, _ => False
theorem Cq5 {l : Nat} {r : Loop} (h : H l = some (true, .loop r)) (hr : r.state ≠ .busy) (K : Option Code -> Hp -> Prop) (E : Value -> Hp -> Prop) (hk : K r.pending (H.set l (.loop { r with state := .exhausted }))) :
  wpS P (Instr.endLoop l) H K E := by
 unfold Instr.endLoop Instr.getLoop
 rw [Aqb, Aqb]
 refine ⟨true, _, h, rfl, rfl, ?_⟩
 rw [Ak4]
 have hb : (r.state == .busy) = false := by cases hs : r.state <;> first | rfl | exact absurd hs hr
 simp only [Aqi, hb, Bool.false_eq_true, if_false, Aqb]
 exact ⟨_, h, rfl, rfl, hk⟩
theorem Bv2 {f : Operand} {params : Array Tmp} {asg body : Code} {g : FuncId} {fi cap : Array Value} (hf : a.eval f = .func (.func g) fi cap)
  (hcall : ∀ (args : Array Value) (H : Hp) (K : Next -> Hp -> Prop) (E : Value -> Hp -> Prop), wpS P (callFunc g args) H K E = K (.enter g args) H)
  (h : ∀ fn r l, H r = none -> (H.set r (.deferred (some []))) l = none -> Runs P main (Frame.enter P g (fi ++ #[.func (.yield l) #[] #[]] ++ cap) .normal)
   ((H.set r (.deferred (some []))).set l (.loop { state := .ready, pending := none, fn := fn, tmps := a.tmps, params := params, assign := asg, body := body, defers := r })) (behind l r a Q)) :
  wpX P main none (.rangeFunc f params asg body) Q a H := by
 intro b k cs Stop hk hl hc
 refine .step (fun g' H' => WPG P main Stop g' H') rfl (fun w hw => ?_) fun _ _ h => h
 have h1 : wpS P (Instr.enterLoop b.fn a.tmps params asg body none) H (fun x H' => ∃ r l, x = (l, [coll r]) /\ H r = none /\ (H.set r (.deferred (some []))) l = none /\
   H' = (H.set r (.deferred (some []))).set l (.loop { state := .ready, pending := none, fn := b.fn, tmps := a.tmps, params := params, assign := asg, body := body, defers := r })) (fun _ _ => False) := by
  unfold Instr.enterLoop
  simp only [Aqb, newObj, wpS, Aqi]
  intro r hr l hl
  exact ⟨r, l, rfl, hr, hl, rfl⟩
 obtain ⟨es, w', H', hm, x, hx, hd⟩ := Ak5 _ w hw h1
 rcases hd with ⟨x, rfl, r, l, rfl, hr, hlr, rfl⟩ | ⟨v, _, hv⟩
 ·have hx0 : (Instr.enterLoop b.fn a.tmps params asg body none).runT P w #[] = (.ok (l, [coll r]) w', es) := by rw [hx #[]]; simp
  have h2 : wpS P (do let d <- resolve a.eval { callee := .value f, args := #[.const (.func (.yield l) #[] #[])], argTypes := #[] } 0; invoke d.target d.args) ((H.set r (.deferred (some []))).set l (.loop { state := .ready, pending := none, fn := b.fn, tmps := a.tmps, params := params, assign := asg, body := body, defers := r }))
    (fun x H' => x = .enter g (fi ++ #[.func (.yield l) #[] #[]] ++ cap) /\ H' = (H.set r (.deferred (some []))).set l (.loop { state := .ready, pending := none, fn := b.fn, tmps := a.tmps, params := params, assign := asg, body := body, defers := r })) (fun _ _ => False) := by
   rw [Aqb]
   simp only [resolve, hf, Deferred.ofValue, Aqi, invoke, List.map_toArray, List.map_cons, List.map_nil, eval_const]
   rw [hcall]
   exact ⟨rfl, rfl⟩
  obtain ⟨es2, w2, H2, hm2, x2, hx2, hd2⟩ := Ak5 _ w' hm.sat h2
  rcases hd2 with ⟨x2, rfl, rfl, rfl⟩ | ⟨v, _, hv⟩
  ·have hx20 : (do let d <- resolve a.eval { callee := .value f, args := #[.const (.func (.yield l) #[] #[])], argTypes := #[] } 0; invoke d.target d.args : Sem Next).runT P w' #[] = (.ok (.enter g (fi ++ #[.func (.yield l) #[] #[]] ++ cap)) w2, es2) := by rw [hx2 #[]]; simp
   refine ⟨G (Frame.enter P g (fi ++ #[.func (.yield l) #[] #[]] ++ cap) .normal) (fat b { a with defers := coll r :: a.defers } (.inRangeFunc l :: k) :: cs), w2, seen P b.fn es ++ (if b.kind == .early then #[] else seen P b.fn es2), ((H.set r (.deferred (some []))).set l (.loop { state := .ready, pending := none, fn := b.fn, tmps := a.tmps, params := params, assign := asg, body := body, defers := r })), ?_, (hm.seen b.fn).trans ?_, ?_⟩
   ·have hk' : (b.kind == CallKind.early) = false := by simpa using hk
    have hev : ∀ fr : Frame, fr.tmps = a.tmps -> fr.eval = a.eval := fun fr h9 => by
     funext x
     cases x <;> simp [Frame.eval, Act.eval, h9]
    simp [stepG, stepG.exec, stepG.apply, fat, G, hl, hx0, hev, hx20, hk', GStep.after, -Sem.runT_eq, -bind_pure_comp]
   ·have hk' : (b.kind == CallKind.early) = false := by simpa using hk
    rw [hk']
    exact hm2.seen b.fn
   ·refine h b.fn r l hr hlr _ cs Stop (fun v H3 hq => ?_) (fun ch H3 hq => ?_)
    ·obtain ⟨q, hq1, hq2, hq3⟩ := hq
     have hfin : (fat b { a with defers := coll r :: a.defers } (.inRangeFunc l :: k)).finish v = fat b { a with defers := coll r :: a.defers } (.endRangeFunc l :: k) := rfl
     rw [hfin]
     refine WPG.tree (s := Instr.endLoop l) (K := fun x H' => x = q.pending /\ H' = H3.set l (.loop { q with state := .exhausted })) (E := fun _ _ => False) rfl (Cq5 hq1 hq2 _ _ ⟨rfl, rfl⟩)
      (fun g' H' => g' = G (fat b { a with defers := coll r :: a.defers } ((q.pending.map Item.code).toList ++ k)) cs /\ H' = H3.set l (.loop { q with state := .exhausted })) (fun w w' H' es v hr' hm hk' => ?_) (fun _ _ _ _ _ _ _ he => he.elim) ?_
     ·obtain ⟨rfl, rfl⟩ := hk'
      refine ⟨_, seen P b.fn es, ?_, fun e => mem_seen, rfl, rfl⟩
      simp [stepG, stepG.exec, fat, G, hr', GStep.after, -Sem.runT_eq]
     ·rintro g' H' ⟨rfl, rfl⟩
      cases hp : q.pending with
      | none =>
       rw [hp] at hq3
       exact hc _ _ _ hq3
      | some j =>
       rw [hp] at hq3
       cases j with
       | exit id => exact hc _ _ _ hq3 k rfl
       | ret => exact hc _ _ _ hq3 k
       | _ => exact hq3.elim
    ·exact hc (.panic ch) _ _ hq _
  ·exact hv.elim
 ·exact hv.elim
theorem Cx8 {r : Nat} {ds : List Deferred} (h : H r = some (true, .deferred (some ds))) (K : List Deferred -> Hp -> Prop) (E : Value -> Hp -> Prop) (hk : K ds (H.set r (.deferred none))) : wpS P (Instr.takeDeferred r) H K E := by
 unfold Instr.takeDeferred
 rw [Aqb]
 refine ⟨true, _, h, rfl, rfl, ?_⟩
 rw [Ak4]
 simp only [Aqb, Aqi]
 exact ⟨_, h, rfl, rfl, hk⟩
theorem Cjz {r : Nat} {R : FrameMode -> Hp -> Prop} (h : H r = some (true, .deferred (some []))) (hk : R .returning (H.set r (.deferred none))) : DefX P main .returning (coll r) H R := by
 intro c cs Stop hm hR
 refine WPG.tree (s := Instr.takeDeferred r) (K := fun x H' => x = [] /\ H' = H.set r (.deferred none)) (E := fun _ _ => False) rfl (Cx8 h _ _ ⟨rfl, rfl⟩)
  (fun g' H' => g' = G c cs /\ H' = H.set r (.deferred none)) (fun w w' H' es v hr' hm' hk' => ?_) (fun _ _ _ _ _ _ _ he => he.elim) ?_
 ·obtain ⟨rfl, rfl⟩ := hk'
  refine ⟨_, seen P c.fn es, ?_, fun e => mem_seen, rfl, rfl⟩
  simp [stepG, unwind, G, hm, coll, hr', GStep.after, -Sem.runT_eq]
  cases c; simp_all
 ·rintro g' H' ⟨rfl, rfl⟩
  have := hR _ _ hk
  rwa [<- hm] at this
theorem Avn {fn : Func} {R : Ending -> Hp -> Prop} {n : Nat} {e : Nat -> Value} {r : Nat} (h : H r = some (true, .deferred (some [])))
  (hk : wpS P (results fn (act n e [coll r]).tmps) (H.set r (.deferred none)) (fun v H' => R (.returned v) H') fun _ _ => False) : By4 P main fn R .ret (act n e [coll r]) H :=
 Cjz h hk
def Dz9 (P : Program) (fn : Func) (R : Hp -> Prop) : Exit -> Act -> Hp -> Prop
 | .normal, a, H | .ret, a, H => a.defers = [] /\ wpS P (results fn a.tmps) H (fun _ H' => R H') fun _ _ => False
 | _, _, _ => False
end
end Go.X
end
section
namespace Go.X
open Go
open Go.Conc (G base)
section
variable {P : Program} {main : Md} {lp : Option Nat} {Q : Exit -> Act -> Hp -> Prop} {a : Act} {H : Hp}
theorem Bv7 {f : FuncId} {fn : Func} {id : Nat} {rest : List Oper} {dst : Option Tmp} {ats : Array TypeId} {ty : TypeId} {pos : String} {af : Array Edge} {y : Code} {args cap : Array Value} {R : FrameMode -> Hp -> Prop} {m : FrameMode} {v : Value}
  (hf : P.funcs[f]? = some fn) (hb : fn.body = some (.seq (.region id (⟨dst, .call ⟨.builtin .recover, #[], ats⟩, ty, pos, af, none⟩ :: rest).toArray false) y))
  (hcall : ∀ (args : Array Value) (H : Hp) (K : Next -> Hp -> Prop) (E : Value -> Hp -> Prop), wpS P (callFunc f args) H K E = K (.enter f args) H)
  (hm : m = .returning /\ v = .nilIface ∨ m = .panicking [{ v := v, recovered := false }])
  (h : ∀ K : Act -> Hp -> Prop, (∀ a' H', wpX P main none y (Dz9 P fn (R .returning)) a' H' -> K a' H') ->
   runL P main none (dst :: rest.map (·.dst)) (only K) rest (Act.put { tmps := (args ++ cap) ++ Array.replicate (fn.ntmps - (args ++ cap).size) undef, defers := [] } dst v) H) :
  DefX P main m { target := .fn (.func f) cap, args := args } H R := by
 intro fr cs Stop hmode hR
 have h2 : wpS P (invoke (.fn (.func f) cap) args) H (fun x H' => x = .enter f (args ++ cap) /\ H' = H) (fun _ _ => False) := by
  simp only [invoke]
  rw [hcall]
  exact ⟨rfl, rfl⟩
 refine WPG.tree (s := invoke (.fn (.func f) cap) args) rfl h2 (fun g' H' => g' = G (Frame.enter P f (args ++ cap) .deferred) (fr :: cs) /\ H' = H) (fun w w' H' es v hr' hm' hk' => ?_) (fun _ _ _ _ _ _ _ he => he.elim) ?_
 ·obtain ⟨rfl, rfl⟩ := hk'
  refine ⟨_, seen P fr.fn es, ?_, fun e => mem_seen, rfl, rfl⟩
  rcases hm with ⟨hm, _⟩ | hm
  ·rw [hm] at hmode
   simp [stepG, unwind, callDeferred, G, hmode, hr', GStep.after, -Sem.runT_eq]
   cases fr; simp_all
  ·rw [hm] at hmode
   simp [stepG, unwind, callDeferred, G, hmode, hr', GStep.after, -Sem.runT_eq]
   cases fr; simp_all
 ·rintro g' H' ⟨rfl, rfl⟩
  have he : Frame.enter P f (args ++ cap) .deferred = fat { base f with kind := .deferred } { tmps := (args ++ cap) ++ Array.replicate (fn.ntmps - (args ++ cap).size) undef, defers := [] } [.code (.seq (.region id (⟨dst, .call ⟨.builtin .recover, #[], ats⟩, ty, pos, af, none⟩ :: rest).toArray false) y)] := by
   simp [Frame.enter, fat, hf, hb, base]; rfl
  rw [he]
  generalize ({ tmps := (args ++ cap) ++ Array.replicate (fn.ntmps - (args ++ cap).size) undef, defers := [] } : Act) = a0 at h ⊢
  clear he h2
  generalize ho : (⟨dst, .call ⟨.builtin .recover, #[], ats⟩, ty, pos, af, none⟩ : Oper) = o at *
  have hrun := h _ (fun _ _ h => h)
  have hX : runX P main none (o :: rest).toArray (only fun a' H' => wpX P main none y (Dz9 P fn (R .returning)) a' H') (List.range' 1 rest.length) (a0.put dst v) H' := by
   refine Ayj (ops := (o :: rest).toArray) rest 1 _ _ (by simp) ?_
   have : (o :: rest).toArray.toList.map (·.dst) = dst :: rest.map (·.dst) := by simp [<- ho]
   rw [this]
   exact hrun
  clear hrun h
  have key : ∀ fr' : Frame, (fr' = fr /\ fr.mode = .returning ∨ fr' = { fr with mode := .panicking [{ v := v, recovered := true }] }) ->
    WPG P main Stop (G (fat { base f with kind := .deferred } (a0.put dst v) (.inRegion (o :: rest).toArray (List.range' 1 rest.length) :: [.code y])) (fr' :: cs)) H' := by
   intro fr' hfr
   have hret : ∀ (a' : Act) (H' : Hp) (k' : List Item), a'.defers = [] -> wpS P (results fn a'.tmps) H' (fun _ H' => R .returning H') (fun _ _ => False) -> WPG P main Stop (G { fat { base f with kind := .deferred } a' k' with mode := .returning } (fr' :: cs)) H' := fun a' H' k' hd hq => by
    refine WPG.tree rfl hq (fun g' H' => g' = G { fr with mode := .returning } cs /\ R .returning H') (fun w w' H' es v hr' hm' hk' => ?_) (fun _ _ _ _ _ _ _ he => he.elim) ?_
    ·refine ⟨_, seen P f es, ?_, fun e => mem_seen, rfl, hk'⟩
     rcases hfr with ⟨rfl, hfm⟩ | rfl
     ·simp [stepG, unwind, doReturn, fat, G, base, hd, hf, hr', hfm, GStep.after, -Sem.runT_eq]
      cases fr'; simp_all
     ·simp [stepG, unwind, doReturn, fat, G, base, hd, hf, hr', GStep.after, -Sem.runT_eq]
    ·rintro g' H' ⟨rfl, hq⟩
     exact hR _ _ hq
   refine Avu hX { base f with kind := .deferred } [.code y] (fr' :: cs) Stop (by simp [base]) rfl fun e a' H' q => ?_
   cases e with
   | normal =>
    refine q { base f with kind := .deferred } [] (fr' :: cs) Stop (by simp [base]) rfl fun e a' H' q => ?_
    cases e with
    | normal => exact .ctl (g' := G { fat { base f with kind := .deferred } a' [] with mode := .returning } (fr' :: cs)) rfl (fun w => by simp [G, stepG, stepG.exec, fat, base]; rfl) (hret a' H' _ q.1 q.2)
    | ret => exact fun k' => .ctl (g' := G { fat { base f with kind := .deferred } a' (.code .ret :: k') with mode := .returning } (fr' :: cs)) rfl (fun w => by simp [G, stepG, stepG.exec, fat, base]; rfl) (hret a' H' _ q.1 q.2)
    | panic ch => exact q.elim
    | exit id => exact q.elim
    | goto l => exact q.elim
    | outgrown => exact q.elim
   | ret => exact q.elim
   | panic ch => exact q.elim
   | exit id => exact q.elim
   | goto l => exact q.elim
   | outgrown => exact q.elim
  refine .ctl (g' := G (fat { base f with kind := .deferred } a0 (.code (.region id (o :: rest).toArray false) :: .code y :: [])) (fr :: cs)) rfl (fun w => by simp [G, stepG, stepG.exec, fat]) ?_
  refine .ctl (g' := G (fat { base f with kind := .deferred } a0 (.inRegion (o :: rest).toArray (List.range (o :: rest).toArray.size) :: .code y :: [])) (fr :: cs)) rfl (fun w => by simp [G, stepG, stepG.exec, fat]) ?_
  have hrange : List.range (o :: rest).toArray.size = 0 :: List.range' 1 rest.length := by
   rw [List.range_eq_range']
   simp [List.range'_succ]
  rw [hrange]
  have ho0 : (o :: rest).toArray[0]? = some o := by simp
  have hwant : Region.wanted o (yielded (o :: rest).toArray a0.tmps) = true := by rw [<- ho]; rfl
  have hex : ∀ ρ, execOp ρ o = pure .recover := fun ρ => by rw [<- ho]; rfl
  have hfin : ∀ u, (fat { base f with kind := .deferred } a0 (.inRegion (o :: rest).toArray (0 :: List.range' 1 rest.length) :: [.code y])).finish u = fat { base f with kind := .deferred } (a0.put dst u) (.inRegion (o :: rest).toArray (List.range' 1 rest.length) :: [.code y]) := fun u => by
   rw [Ax9, ho0, <- ho]; rfl
  have hdr : (default : Frame).roundOf = none := rfl
  rcases hm with ⟨hm, hv⟩ | hm
  ·rw [hm] at hmode
   refine .step (fun g' H'' => g' = G (fat { base f with kind := .deferred } (a0.put dst v) (.inRegion (o :: rest).toArray (List.range' 1 rest.length) :: [.code y])) (fr :: cs) /\ H'' = H') rfl (fun w hw => ⟨_, w, seen P f #[], H', ?_, (Moves.refl hw).seen f, rfl, rfl⟩) ?_
   ·rw [stepG_op ho0 hwant (.inl rfl), hex, hv, <- hfin]
    simp [stepG.apply, G, fat, base, tryRecover, hmode, hdr, GStep.after]
   ·rintro _ _ ⟨rfl, rfl⟩
    exact key fr (.inl ⟨rfl, hmode⟩)
  ·rw [hm] at hmode
   refine .step (fun g' H'' => g' = G (fat { base f with kind := .deferred } (a0.put dst v) (.inRegion (o :: rest).toArray (List.range' 1 rest.length) :: [.code y])) ({ fr with mode := .panicking [{ v := v, recovered := true }] } :: cs) /\ H'' = H') rfl (fun w hw => ⟨_, w, seen P f #[], H', ?_, (Moves.refl hw).seen f, rfl, rfl⟩) ?_
   ·rw [stepG_op ho0 hwant (.inl rfl), hex, <- hfin]
    simp [stepG.apply, G, fat, base, tryRecover, hmode, hdr, GStep.after]
   ·rintro _ _ ⟨rfl, rfl⟩
    exact key _ (.inr rfl)
end
end Go.X
end
section
namespace Go.X
open Go
theorem Aqt : Value.nilFunc.cells = #[.nilFunc] := rfl
theorem cells_func (f : Fn) (a b : Array Value) : (Value.func f a b).cells = #[.func f a b] := rfl
def Bj3 (P : Program) (main : Md) (v : Value) (args : Array Value) (H : Hp) (R : Ending -> Hp -> Prop) : Prop :=
 ∀ (K : Next -> Hp -> Prop) (E : Value -> Hp -> Prop), (∀ f ar H', Runs P main (Frame.enter P f ar .normal) H' R -> K (.enter f ar) H') ->
  (∀ l f tmps ar body H', Runs P main (Frame.round l f tmps ar body .normal) H' R -> K (.round l f tmps ar body) H') -> Bk6 P v args H K E
theorem Bj3.use {P : Program} {main : Md} {lp : Option Nat} {v : Value} {args : Array Value} {H : Hp} {R : Ending -> Hp -> Prop} {o : Oper} {a : Act} {next : Act -> Hp -> Prop} {Q : Exit -> Act -> Hp -> Prop} {E : Value -> Hp -> Prop}
  (h : Bj3 P main v args H R) (hk : ∀ e H', R e H' -> Cy7 next Q o.dst a e H') : Bk6 P v args H (Aya P main lp o a next Q) E := by
 refine h _ _ (fun f ar H' hr => ?_) (fun l f tmps ar body H' hr => ?_)
 ·rw [Ax8]
  exact hr.mono hk
 ·have hx : Aya P main lp o a next Q (.round l f tmps ar body) H' = Runs P main (Frame.round l f tmps ar body .normal) H' (Cy7 next Q o.dst a) := by
   unfold Aya
   congr 1
  rw [hx]
  exact hr.mono hk
def Bwm (P : Program) (v : Value) (args : Array Value) (H : Hp) (K : Next -> Hp -> Prop) (E : Value -> Hp -> Prop) : Prop := wpS P (Deferred.ofValue v args) H (fun x H' => K (.defer x) H') E
theorem Ckz {P : Program} {H : Hp} (a : Act) (d : Option Tmp) (ty : TypeId) (pos : String) (af : Array Edge) (g : Option (Nat × Bool)) (K : Next -> Hp -> Prop) (E : Value -> Hp -> Prop) {t : Tmp} {args : Array Operand} {ats : Array TypeId} :
 wpS P (execOp a.eval ⟨d, .defer ⟨.value (.tmp t), args, ats⟩, ty, pos, af, g⟩) H K E = Bwm P (a.eval (.tmp t)) (args.map a.eval) H K E := Cxo _ _ _ _ _ _ _ _ _
theorem Cqg {P : Program} {H : Hp} (f : FuncId) (cap args : Array Value) (K : Next -> Hp -> Prop) (E : Value -> Hp -> Prop) : Bwm P (.func (.func f) #[] cap) args H K E = K (.defer { target := .fn (.func f) cap, args := args }) H := by
 simp [Bwm, Deferred.ofValue, Aqi]
@[congr] theorem deferK_congr {P : Program} {c c' : Value} {args args' : Array Value} {K : Next -> Hp -> Prop} {E : Value -> Hp -> Prop} {H H' : Hp} (hc : c = c') (ha : args = args') (hH : H = H') : Bwm P c args H K E = Bwm P c' args' H' K E := by subst hc ha hH; rfl
theorem Bze {P : Program} {main : Md} {o : Oper} {n : Nat} {e : Nat -> Value} {ds : List Deferred} {H : Hp} {K : Act -> Hp -> Prop} {Q : Exit -> Act -> Hp -> Prop} (d : Deferred) : Aya P main none o (act n e ds) K Q (.defer d) H = K ((act n e (d :: ds)).put o.dst undef) H := by
 simp [Aya]; rfl
structure Akn (P : Program) (main : Md) (y : Value) (S : Nat -> Prop) (arg : Hp -> Value -> List Int -> Prop) (A : List Int -> Prop) (T : Bool -> List (List Int) -> Hp -> Prop) : Prop where
 keep : ∀ t L H H', T t L H -> (∀ b x, S b -> H b = some x -> H' b = some x) -> T t L H'
 ex : ∀ t L H b, T t L H -> S b -> H b ≠ none
 call : ∀ L H v l, T true L H -> arg H v l -> A l -> Bj3 P main y #[v] H fun e H' => ∃ t, e = .returned (.bool t) /\ T t (L ++ [l]) H' /\ ∀ b x, ¬ S b -> H b = some x -> H' b = some x
end Go.X
namespace Go.Proofs.YtgniilnljeedlaaGreatDoor
open Go Go.X
end Go.Proofs.YtgniilnljeedlaaGreatDoor
end
section
namespace Go.Proofs.YtgniilnljeedlaaGreatDoor
open Go Go.X
theorem Avy {P : Program} {main : Md} {lp : Option Nat} {c : Code} {Q : Exit -> Act -> Hp -> Prop} {n : Nat} {e : Nat -> Value} {ds : List Deferred} {H : Hp} (p : (Nat -> Value) -> Prop) (hp : p e) (h : ∀ e, p e -> wpX P main lp c Q (act n e ds) H) : wpX P main lp c Q (act n e ds) H := h e hp
theorem Ayo {P : Program} {main : Md} {Q : Exit -> Act -> Hp -> Prop} {n : Nat} {e : Nat -> Value} {ds : List Deferred} {H : Hp} {f : Operand} {t : Nat} {asg body : Code} {g : FuncId} {fi cap : Array Value} (hf : (act n e ds).eval f = .func (.func g) fi cap) (ht : t < n)
  (hcall : ∀ (args : Array Value) (H : Hp) (K : Next -> Hp -> Prop) (E : Value -> Hp -> Prop), wpS P (callFunc g args) H K E = K (.enter g args) H)
  (h : ∀ r l lo, H r = none -> (H.set r (.deferred (some []))) l = none -> lo.state = .ready -> lo.pending = none ->
   (∀ H v R, H l = some (true, .loop lo) -> wpX P main (some l) asg (thn (fun a H1 => H1 l = some (true, .loop lo) /\ wpX P main (some l) body (rnd l R) a (H1.set l (.loop { lo with state := .busy }))) fun _ _ _ => False) (act n (upd e t v) []) H -> Bj3 P main (.func (.yield l) #[] #[]) #[v] H R) ->
   Runs P main (Frame.enter P g (fi ++ #[.func (.yield l) #[] #[]] ++ cap) .normal) ((H.set r (.deferred (some []))).set l (.loop lo)) (behind l r (act n e ds) Q)) :
  wpX P main none (.rangeFunc f #[t] asg body) Q (act n e ds) H := by
 refine Bv2 hf hcall fun fn r l hr hl => ?_
 refine h r l _ hr hl rfl rfl fun H' v R hl' hw => ?_
 intro K E hK1 hK2
 refine By8 ?_
 rw [hl', Cxc]
 refine ⟨rfl, hK2 _ _ _ _ _ _ (Cjm ?_)⟩
 have he : (((#[t] : Array Tmp).zip #[v]).foldl (fun tmps (x : Tmp × Value) => tmps.setIfInBounds x.1 x.2) (act n e ds).tmps) = (act n (upd e t v) []).tmps := by
  have := congrArg Act.tmps (Aqn (n := n) (e := e) (ds := ds) (v := v) ht)
  simpa [Act.put, act] using this
 have he2 : ({ tmps := ((#[t] : Array Tmp).zip #[v]).foldl (fun tmps (x : Tmp × Value) => tmps.setIfInBounds x.1 x.2) (act n e ds).tmps, defers := [] } : Act) = act n (upd e t v) [] := by
  rw [he]; rfl
 rw [he2]
 refine Avf hw fun e' a' H'' q => ?_
 cases e' with
 | normal => exact ⟨_, q.1, rfl, q.2⟩
 | _ => exact q
theorem Ay6 {n : Nat} {e : Nat -> Value} {ds : List Deferred} {l r : Nat} {Q : Exit -> Act -> Hp -> Prop} {v : Value} {H : Hp} {q : Loop} (h : H l = some (true, .loop q)) (h1 : q.state = .ready) (h2 : q.pending = none)
  (hk : Q .normal (act n e (coll r :: ds)) (H.set l (.loop { q with state := .exhausted }))) : behind l r (act n e ds) Q (.returned v) H := by
 refine ⟨q, h, by rw [h1]; simp, ?_⟩
 cases q
 simp only [] at h1 h2
 subst h1 h2
 exact hk
def Bxj := And.intro (fun H => Aq5 (H := H) Tryz.underlying22) (And.intro (fun H => Aqq (H := H) Tryz.underlying22 Tryz.sizeOf3) (fun H => Aqd (H := H) Tryz.underlying3 rfl))
theorem SlI.get {H : Hp} {a : Option Addr} {n cap : Nat} {xs : List Int} (h : SlI H (.slice a n cap) xs) {i : Nat} {x : Int} (hx : xs[i]? = some x) : ∃ (b o : Nat) (p : Bool) (c : Array Value) (fr : Nat × Nat), a = some ⟨b, o, none⟩ /\ H b = some (p, .cells c 3 fr) /\ c[o + i]? = some (.int .i64 x) := by
 obtain ⟨a', cap', he, _, hg⟩ := h
 cases he
 exact hg i x hx
theorem Av8 (m : Md) (H : Hp) (v w : Value) (xs ys : List Int) (hv : SlI H v xs) (hw : SlI H w ys) (hx : xs.length <= 1000000) (hy : ys.length <= 1000000) :
  FnX Tryz.prog m 30 #[v, w] H fun e H' => e = .returned (.bool (decide (xs = ys))) /\ H' = H := by
 have hv0 := hv
 have hw0 := hw
 obtain ⟨va, vc, rfl, hvc, _⟩ := id hv
 obtain ⟨wa, wc, rfl, hwc, _⟩ := id hw
 refine Aqk Tryz.func30 rfl Tryz.ntmps30 (by simp) ?_
 by_cases hl : xs.length = ys.length
 ·have hll := hl
  replace hl : xs.length <= ys.length /\ ys.length <= xs.length := by omega
  clear hll
  (refine @unH _ ?_; refine zA Bxj ?_; (repeat (refine inC ?_; intro hc)); try (refine inK ?_; intro K hK))
  refine Axe (fun w a' H' => ∃ e j, w = xs.length - j /\ j <= xs.length /\ a' = act 26 e [] /\ e 0 = .slice va xs.length vc /\ e 1 = .slice wa ys.length wc /\ e 5 = .int .i64 (j : Nat) /\ H' = H /\ (∀ i, i < j -> xs[i]? = ys[i]?)) (n := xs.length) ?_ ?_
  ·exact ⟨_, 0, by omega, by omega, rfl, rfl, rfl, rfl, by trivial, fun i h => by omega⟩
  ·rintro w' a' H' ⟨e, j, rfl, hj, rfl, e0, e1, e5, hH, hd⟩
   rw [hH]; clear hH H'
   by_cases hlt : j < xs.length
   ·obtain ⟨b, o, p, c, fr, hva, hb, hcx⟩ := SlI.get hv0 (List.getElem?_eq_getElem hlt)
    have hlt2 : j < ys.length := by omega
    obtain ⟨b2, o2, p2, c2, fr2, hwa, hb2, hcy⟩ := SlI.get hw0 (List.getElem?_eq_getElem hlt2)
    have hxj := List.getElem?_eq_getElem hlt
    have hyj := List.getElem?_eq_getElem hlt2
    generalize xs[j] = x at *
    generalize ys[j] = y at *
    subst hva hwa
    have hcx' : c[o + (j : Int).toNat * 1]? = some (.int .i64 x) := by simpa using hcx
    have hcy' : c2[o2 + (j : Int).toNat * 1]? = some (.int .i64 y) := by simpa using hcy
    clear hv hw hv0 hw0
    by_cases hxy : x = y
    ·replace hxy : x <= y /\ y <= x := by omega
     have hd2 : ∀ i, i < j + 1 -> xs[i]? = ys[i]? := fun i hi => by
      by_cases he : i = j
      ·rw [he, hxj, hyj]; congr 1; omega
      ·exact hd i (by omega)
     clear hd hxj hyj
     (refine @unH _ ?_; refine zA Bxj ?_; (repeat (refine inC ?_; intro hc)); try (refine inK ?_; intro K hK))
     (refine Az2 9 [(true, 0), (true, 1), (true, 2), (true, 3), (true, 4), (true, 5), (true, 6), (true, 7), (true, 8)] (by kernel_rfl) (by kernel_rfl) (by simp) (by kernel_rfl) ?_; intro K hK; (iterate 9 (refine @unH _ ?_; refine z3 Bxj ?_)); refine Ax1 (hK _ _ ?_); clear hK K; (try simp only [nq, ↓reduceIte, Nat.reduceEqDiff]))
     (refine @unH _ ?_; refine zA Bxj ?_; (repeat (refine inC ?_; intro hc)); try (refine inK ?_; intro K hK))
     exact ⟨_, by omega, _, j + 1, rfl, by omega, rfl, e0, e1, rfl, by trivial, hd2⟩
    ·have hne : xs ≠ ys := fun e => by rw [e, hyj] at hxj; exact hxy (Option.some.inj hxj).symm
     clear hd hxj hyj
     (refine @unH _ ?_; refine zA Bxj ?_; (repeat (refine inC ?_; intro hc)); try (refine inK ?_; intro K hK))
     (refine Az2 9 [(true, 0), (true, 1), (true, 2), (true, 3), (true, 4), (true, 5), (true, 6), (true, 7), (true, 8)] (by kernel_rfl) (by kernel_rfl) (by simp) (by kernel_rfl) ?_; intro K hK; (iterate 9 (refine @unH _ ?_; refine z3 Bxj ?_)); refine Ax1 (hK _ _ ?_); clear hK K; (try simp only [nq, ↓reduceIte, Nat.reduceEqDiff]))
     (refine @unH _ ?_; refine zA Bxj ?_; (repeat (refine inC ?_; intro hc)); try (refine inK ?_; intro K hK))
     (refine @unH _ ?_; refine z9 Tryz.results30 ?_)
     rw [decide_eq_false hne]
     (refine ⟨?_, ?_⟩ <;> first | rfl | trivial | assumption)
   ·obtain rfl : j = xs.length := by omega
    (refine @unH _ ?_; refine zA Bxj ?_; (repeat (refine inC ?_; intro hc)); try (refine inK ?_; intro K hK))
    (refine @unH _ ?_; refine z9 Tryz.results30 ?_)
    refine ⟨?_, by trivial⟩
    rw [decide_eq_true]
    exact List.ext_getElem? fun i => by
     by_cases hi : i < xs.length
     ·exact hd i hi
     ·rw [List.getElem?_eq_none (by omega), List.getElem?_eq_none (by omega)]
 ·have hne : xs ≠ ys := fun e => hl (by rw [e])
  (refine @unH _ ?_; refine zA Bxj ?_; (repeat (refine inC ?_; intro hc)); try (refine inK ?_; intro K hK))
  (refine @unH _ ?_; refine z9 Tryz.results30 ?_)
  rw [decide_eq_false hne]
  (refine ⟨?_, ?_⟩ <;> first | rfl | trivial | assumption)
theorem Byw {H₀ H : Hp} {v : Value} {xs ys : List Int} (h : RowX none H₀ H v 3 (ints xs)) {g o m cap : Nat} (hm : ys.length = m) (hgx : ∃ u, H g = some u) (hsep : rowB v ≠ some g)
  (hys : ∀ (j : Nat) (y : Int), ys[j]? = some y -> H.cell ⟨g, o + j, none⟩ = some (.int .i64 y)) (hn : xs.length + m <= 1000000) (ty : TypeId) (cb : Array Bool) (K : Next -> Hp -> Prop) (E : Value -> Hp -> Prop)
  (h' : ∀ v' H', RowX none H₀ H' v' 3 (ints (xs ++ ys)) -> (∀ x u, H x = some u -> rowB v ≠ some x -> H' x = some u) -> K (.value v') H') :
  wpS Tryz.prog (builtin .append #[22, 22] ty cb #[v, .slice (some ⟨g, o, none⟩) m cap]) H K E := by
 obtain ⟨hlex, hrow⟩ := h
 obtain ⟨ug, hug⟩ := hgx
 rcases hrow with ⟨rfl, hx0⟩ | ⟨b, c, cp, hb0, hb, rfl, hcs, hcap, hget⟩
 ·have : xs = [] := by simpa [ints] using hx0
  subst this
  refine Ajo (H₀ := H) (H := H) (n := 0) (xs := []) (Aj3.nil H _ 1) (Hp.le_refl _) hm id hys (by omega) ty cb K E (fun v' H1 H2 hr hl => ?_)
  have hle : H.le H2 := fun x u hx => hl _ _ (hr.le _ _ hx)
  refine h' v' H2 ⟨hlex.le hle, ?_⟩ (fun x u hx _ => hle _ _ hx)
  rcases hr with ⟨rfl, hn0, he, _⟩ | ⟨b', c', cap', hb', rfl, rfl, hs', hl', hn', hg'⟩
  ·exact .inl ⟨rfl, he⟩
  ·refine .inr ⟨b', c', cap', hlex.gone hb', hl _ _ (by rw [Axm, if_pos rfl]), ?_, by omega, by omega, hg'⟩
   rw [hl', Nat.mul_one]
 ·have hgb : g ≠ b := fun e => hsep (by rw [e]; rfl)
  have hD : (fun x => if x = b then none else H x : Hp) b = none := by simp
  have hH : H = Hp.set (fun x => if x = b then none else H x) b (.cells c 3 (0, 0)) := by
   funext x
   unfold Hp.set
   by_cases e : x = b
   ·subst e; simp [hb]
   ·simp [e]
  rw [Aq7] at hcap
  have hil := Aq7 xs
  refine Ajo (H₀ := fun x => if x = b then none else H x) (H := H) (n := xs.length) (xs := xs) (.inr ⟨b, c, cp, hD, hH, by rw [hil], by omega, by omega, hcap, hget⟩) (Hp.le_refl _) hm (fun h => by simp only [hgb, if_false] at h; exact h) hys (by omega) ty cb K E (fun v' H1 H2 hr hl => ?_)
  have hkeep : ∀ x u, x ≠ b -> H x = some u -> H2 x = some u := fun x u hn hx => hl _ _ (hr.le _ _ (by simp only [hn, if_false]; exact hx))
  have hlx : Lex none H₀ H2 := fun x u hx => by
   obtain ⟨u', hu', e'⟩ := hlex x u hx
   exact ⟨u', hkeep x u' (fun e => by rw [e, hb0] at hx; cases hx) hu', e'⟩
  rcases hr with ⟨rfl, hn0, he, _⟩ | ⟨b', c', cap', hb', rfl, rfl, hs', hl', hn', hg'⟩
  ·exact h' _ H2 ⟨hlx, .inl ⟨rfl, he⟩⟩ (fun x u hx ho => hkeep x _ (fun e => ho (by rw [e]; rfl)) hx)
  ·have hb2 : H2 b' = some (true, .cells c' 3 (0, 0)) := hl _ _ (by rw [Axm, if_pos rfl])
   have hb'0 : H₀ b' = none := by
    by_cases e : b' = b
    ·rw [e]; exact hb0
    ·simp only [e, if_false] at hb'; exact hlex.gone hb'
   refine h' _ H2 ⟨hlx, .inr ⟨b', c', cap', hb'0, hb2, ?_, by omega, by omega, hg'⟩⟩ (fun x u hx ho => hkeep x _ (fun e => ho (by rw [e]; rfl)) hx)
   rw [hl', Nat.mul_one]
theorem Avm {H₀ H : Hp} {v w : Value} {xs ys : List Int} (h : RowX none H₀ H v 3 (ints xs)) (hw : SlI H w ys) (hsep : ys ≠ [] -> ∀ b, rowB w = some b -> rowB v ≠ some b) (hn : xs.length + ys.length <= 1000000) (ty : TypeId) (cb : Array Bool) (K : Next -> Hp -> Prop) (E : Value -> Hp -> Prop)
  (h' : ∀ v' H', RowX none H₀ H' v' 3 (ints (xs ++ ys)) -> (∀ x u, H x = some u -> rowB v ≠ some x -> H' x = some u) -> K (.value v') H') :
  wpS Tryz.prog (builtin .append #[22, 22] ty cb #[v, w]) H K E := by
 obtain ⟨a, cap, rfl, hcap, hx⟩ := hw
 cases ys with
 | nil =>
  have hv : ∃ va vc, v = .slice va (ints xs).length vc /\ (ints xs).length <= vc := by
   rcases h.2 with ⟨rfl, e⟩ | ⟨b, c, vc, _, _, rfl, _, hc, _⟩
   ·exact ⟨none, 0, by rw [e]; rfl, by rw [e]; exact Nat.le_refl _⟩
   ·exact ⟨_, vc, rfl, hc⟩
  obtain ⟨va, vc, rfl, hvc⟩ := hv
  exact Av1 Tryz.underlying22 Tryz.sizeOf3 _ _ _ _ _ _ _ hvc _ _ (h' _ H (by rw [List.append_nil]; exact h) (fun x u hx _ => hx))
 | cons y0 ys0 =>
  obtain ⟨b, o, p, c, fr, rfl, hb, _⟩ := hx 0 y0 rfl
  refine Byw h rfl ⟨_, hb⟩ (hsep (by simp) b rfl) (fun j y hj => ?_) hn ty cb K E h'
  obtain ⟨b2, o2, p2, c2, fr2, e2, hb2, hc2⟩ := hx j y hj
  cases e2
  rw [cell_of hb2]
  exact hc2
theorem Akx (m : Nat) : (Ax4 m).length = Aq4 m := by
 simp [Ax4, Awl, Aq4, List.countP_eq_length_filter]
theorem Ako (f : Int -> Nat) : ∀ (xs : List Int) (a : Nat), ∀ p ∈ xs, xs.foldl (fun acc p => min acc (f p)) a <= f p
 | x :: xs, a, p, hp => by
  rcases List.mem_cons.1 hp with rfl | hp
  ·exact Nat.le_trans (Awu f xs _) (Nat.min_le_right _ _)
  ·exact Ako f xs _ p hp
theorem Bx8 (f : Int -> Nat) : ∀ (xs : List Int) (a : Nat), xs.foldl (fun acc p => min acc (f p)) a = a ∨ ∃ p ∈ xs, xs.foldl (fun acc p => min acc (f p)) a = f p
 | [], a => .inl rfl
 | x :: xs, a => by
  rcases Bx8 f xs (min a (f x)) with h | ⟨p, hp, h⟩
  ·simp only [List.foldl_cons]
   rw [h]
   rcases Nat.le_total a (f x) with h1 | h1
   ·exact .inl (Nat.min_eq_left h1)
   ·exact .inr ⟨x, by simp, Nat.min_eq_right h1⟩
  ·exact .inr ⟨p, by simp [hp], h⟩
theorem Bvs (L : Nat) (pl : Int) (h1 : 1 <= pl) : ∀ (ts : List Int) (m : Nat), ts.length <= L -> optF L pl ts m <= ts.length
 | [], m, _ => Nat.le_refl _
 | t :: ts, m, h => by
  simp only [List.length_cons] at h ⊢
  have ih := fun m => Bvs L pl h1 ts m (by omega)
  rw [optF]
  split
  ·exact Nat.le_trans (ih _) (by omega)
  ·split
   ·rename_i hc
    have hl := Akx m
    obtain ⟨x, hx⟩ : ∃ x, x ∈ Ax4 m := List.exists_mem_of_length_pos (by omega)
    refine Nat.le_trans (Ako _ _ _ x hx) ?_
    have := ih (Aqv m x t)
    omega
   ·have := ih (Aqv m (-1) t)
    omega
def Axz (pl : Int) (m : Nat) (t : Int) : List Int := if m.testBit t.toNat then [-1] else if pl <= Aq4 m then Ax4 m else [-1]
def Azf (m : Nat) (t : Int) : Nat := if m.testBit t.toNat then 0 else 1
theorem Awz (L : Nat) (pl : Int) (h1 : 1 <= pl) (t : Int) (ts : List Int) (m : Nat) (hL : (t :: ts).length <= L) : ∃ s ∈ Axz pl m t, Azf m t + optF L pl ts (Aqv m s t) = optF L pl (t :: ts) m := by
 unfold Axz Azf
 rw [optF]
 split
 ·exact ⟨-1, by simp, by omega⟩
 ·split
  ·rename_i hc
   rcases Bx8 (fun p => 1 + optF L pl ts (Aqv m p t)) (Ax4 m) (L + 1) with h | ⟨p, hp, h⟩
   ·exfalso
    have hl := Akx m
    obtain ⟨x, hx⟩ : ∃ x, x ∈ Ax4 m := List.exists_mem_of_length_pos (by omega)
    have h2 := Ako (fun p => 1 + optF L pl ts (Aqv m p t)) (Ax4 m) (L + 1) x hx
    have h3 := Bvs L pl h1 ts (Aqv m x t) (by simp only [List.length_cons] at hL; omega)
    simp only [List.length_cons] at hL
    omega
   ·exact ⟨p, hp, h.symm⟩
  ·exact ⟨-1, by simp, rfl⟩
theorem Avr (L : Nat) (pl : Int) (t : Int) (ts : List Int) (m : Nat) : ∀ s ∈ Axz pl m t, optF L pl (t :: ts) m <= Azf m t + optF L pl ts (Aqv m s t) := by
 intro s hs
 unfold Axz at hs
 unfold Azf
 rw [optF]
 split at hs
 ·rename_i hb
  rw [if_pos hb, if_pos hb, List.mem_singleton.1 hs]
  omega
 ·rename_i hb
  rw [if_neg hb, if_neg hb]
  split at hs
  ·rename_i hc
   rw [if_pos hc]
   exact Ako (fun p => 1 + optF L pl ts (Aqv m p t)) _ _ s hs
  ·rename_i hc
   rw [if_neg hc, List.mem_singleton.1 hs]
   exact Nat.le_refl _
def Aj9 (L : Nat) (pl : Int) : List Int -> Nat -> List Int
 | [], _ => []
 | t :: ts, m =>
  let s := ((Axz pl m t).find? fun s => Azf m t + optF L pl ts (Aqv m s t) <= optF L pl (t :: ts) m).getD (-1)
  s :: Aj9 L pl ts (Aqv m s t)
end Go.Proofs.YtgniilnljeedlaaGreatDoor
end
