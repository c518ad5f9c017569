/- Texts Day Auto Scope Check Ops2 Meths. -/
import Derived.Test.YtiempdpjcddgfaaDoorJ03
section
/- A vault at work. -/
set_option linter.unusedSimpArgs false
set_option maxRecDepth 100000
set_option maxHeartbeats 1000000
set_option linter.unusedVariables false
namespace Go.Proofs.YtiempdpjcddgfaaDoor
open Go Go.X
set_option linter.defProp false
def y17_20 := And.intro (fun H => fieldAt_eq (H := H) Tryd.underlying62 (i := 0) rfl (off := 0) rfl Tryd.sizeOf3) (And.intro (fun H => loadAt_one (H := H) Tryd.underlying3 rfl) (And.intro (fun H => fieldAt_eq (H := H) Tryd.underlying93 (i := 1) rfl (off := 4) rfl Tryd.sizeOf22) (And.intro (fun H => loadAt_one (H := H) Tryd.underlying22 rfl) (And.intro (fun H => len_slice (H := H) Tryd.underlying22) (And.intro (fun H => fieldAt_eq (H := H) Tryd.underlying93 (i := 2) rfl (off := 5) rfl Tryd.sizeOf91) (And.intro (fun H => loadAt_one (H := H) Tryd.underlying91 rfl) (And.intro (fun H => loadAt_aggE (H := H) Tryd.underlying62 rfl Tryd.sizeOf62) (And.intro @callF35 (And.intro (fun H => fieldAt_eq (H := H) Tryd.underlying62 (i := 1) rfl (off := 1) rfl Tryd.sizeOf60) (And.intro (fun H => loadAt_one (H := H) Tryd.underlying60 rfl) (And.intro @callF36 (And.intro (fun H => indexAt_slice (H := H) Tryd.underlying22 Tryd.sizeOf3) (And.intro @callF37 (And.intro @callF17 @min_int))))))))))))))
def y18_20 := And.intro (fun H => ex_alloc (H := H) (P := Tryd.prog) (h := Tryd.zeroValue62)) (And.intro (fun H => fieldAt_eq (H := H) Tryd.underlying93 (i := 0) rfl (off := 0) rfl Tryd.sizeOf25) (And.intro (fun H => fieldAt_eq (H := H) Tryd.underlying25 (i := 2) rfl (off := 2) rfl Tryd.sizeOf22) (And.intro (fun H => loadAt_one (H := H) Tryd.underlying22 rfl) (And.intro @callF38 (And.intro @bld_62_1_0 (fun H => storeAt_agg (H := H) Tryd.sizeOf62))))))
def y32_20 := And.intro (fun H => loadAt_aggE (H := H) Tryd.underlying25 rfl Tryd.sizeOf25) @bld_93_0_1_2_0
def y35_20 := And.intro (fun H => fieldAt_eq (H := H) Tryd.underlying62 (i := 1) rfl (off := 1) rfl Tryd.sizeOf60) (And.intro (fun H => loadAt_one (H := H) Tryd.underlying60 rfl) (And.intro (fun H => fieldAt_eq (H := H) Tryd.underlying93 (i := 1) rfl (off := 4) rfl Tryd.sizeOf22) (And.intro (fun H => loadAt_one (H := H) Tryd.underlying22 rfl) (And.intro (fun H => fieldAt_eq (H := H) Tryd.underlying62 (i := 0) rfl (off := 0) rfl Tryd.sizeOf3) (And.intro (fun H => loadAt_one (H := H) Tryd.underlying3 rfl) (And.intro (fun H => indexAt_slice (H := H) Tryd.underlying22 Tryd.sizeOf3) (And.intro @callF51 (And.intro @callF57 (And.intro (fun H => fieldAt_eq (H := H) Tryd.underlying93 (i := 0) rfl (off := 0) rfl Tryd.sizeOf25) (fun H => fieldAt_eq (H := H) Tryd.underlying25 (i := 0) rfl (off := 0) rfl Tryd.sizeOf3))))))))))
def y37_20 := And.intro (fun H => ex_alloc (H := H) (P := Tryd.prog) (h := Tryd.zeroValue62)) (And.intro (fun H => fieldAt_eq (H := H) Tryd.underlying62 (i := 1) rfl (off := 1) rfl Tryd.sizeOf60) (And.intro (fun H => loadAt_one (H := H) Tryd.underlying60 rfl) (And.intro @callF58 (And.intro (fun H => storeAt_int (H := H) Tryd.sizeOf60) (And.intro (fun H => fieldAt_eq (H := H) Tryd.underlying62 (i := 0) rfl (off := 0) rfl Tryd.sizeOf3) (And.intro (fun H => loadAt_one (H := H) Tryd.underlying3 rfl) (And.intro (fun H => fieldAt_eq (H := H) Tryd.underlying93 (i := 1) rfl (off := 4) rfl Tryd.sizeOf22) (And.intro (fun H => loadAt_one (H := H) Tryd.underlying22 rfl) (And.intro (fun H => indexAt_slice (H := H) Tryd.underlying22 Tryd.sizeOf3) (And.intro @callF52 (And.intro @bld_62_0_1_0 (fun H => storeAt_agg (H := H) Tryd.sizeOf62))))))))))))

/-- What a day's block holds. -/
abbrev dayO (places pieces : Int) (sv cv tv : Value) (mb : Nat) : Obj := .cells #[.int .i64 places, .int .i64 pieces, sv, cv, tv, .map (some mb)] 93 (0, 0)
/-- A spot. -/
abbrev spotV (c m : Nat) : Value := .agg #[.int .i64 c, .int .u8 m]

theorem vopen_spec (main : Bool) (H : Hp) (places pieces : Int) (sa : Option Addr) (sn sc : Nat) (ca : Option Addr) (cn cc : Nat) (ta : Option Addr) (tn tc : Nat) :
    FnX Tryd.prog main 32 #[.agg #[.int .i64 places, .int .i64 pieces, .slice sa sn sc, .slice ca cn cc], .slice ta tn tc] H fun e H' => ∃ db mb, e = .returned (.pointer (some ⟨db, 0, none⟩)) ∧ H.le H' ∧ db ≠ mb ∧ H db = none ∧ H mb = none ∧
      H' db = some (true, dayO places pieces (.slice sa sn sc) (.slice ca cn cc) (.slice ta tn tc) mb) ∧ H' mb = some (true, .map #[] 0) := by
  refine FnX_start Tryd.func32 rfl Tryd.ntmps32 (by simp) ?_
  (refine wpX_stmt ?_; intro K hK; simp -implicitDefEqProofs (disch := first | omega | (simp only [qd] <;> omega)) only [xq, ↓xp, qc, Nat.reduceAdd, List.range, List.range.loop, fine, Nat.reduceEqDiff, ↓reduceIte, yielded, reduceCtorEq, Nat.reduceLT, Nat.reduceMul, Nat.reduceSub, one, Nat.reduceLeDiff, runX_cons, y32_20])
  intro bb hbb
  refine hK _ _ ?_; clear hK K
  (refine wpX_stmt ?_; intro K hK; simp -implicitDefEqProofs (disch := first | omega | (simp only [qd] <;> omega)) only [xq, ↓xp, qc, Nat.reduceAdd, List.range, List.range.loop, fine, Nat.reduceEqDiff, ↓reduceIte, yielded, reduceCtorEq, Nat.reduceLT, Nat.reduceMul, Nat.reduceSub, one, Nat.reduceLeDiff, runX_cons, y32_20])
  intro mb hmb db hdb
  refine hK _ _ ?_; clear hK K
  (refine wpX_ret ?_; (try simp only [nq, ↓reduceIte, Nat.reduceEqDiff]); rw [bodyX_ret, results_one Tryd.results32 (by decide)]; simp only [upd_get, Nat.reduceEqDiff, ↓reduceIte])
  have hmn : mb ≠ bb := fun e => by rw [e, set_at] at hmb; cases hmb
  have hdm : db ≠ mb := fun e => by rw [e, set_at] at hdb; cases hdb
  exact ⟨db, mb, rfl, fun x v hx => Hp.le_set hdb _ _ (Hp.le_set hmb _ _ (Hp.le_set hbb _ _ hx)), hdm, (Lex.refl (b := none) |>.new hbb |>.new hmb).gone hdb, (Lex.refl (b := none) |>.new hbb).gone hmb, set_at, by rw [set_ne hdm.symm]; exact set_at⟩

theorem first_spec (main : Bool) (H : Hp) (db : Nat) (places pieces : Int) (sv cv tv : Value) (start : List Int) (mb : Nat) (hdb : H db = some (true, dayO places pieces sv cv tv mb)) (hs : SlI H sv start) (hx : ∀ x ∈ start, 0 ≤ x ∧ x < 6) (hl : start.length ≤ 1000000) :
    FnX Tryd.prog main 18 #[.pointer (some ⟨db, 0, none⟩)] H fun e H' => e = .returned (spotV 0 (oOf start)) ∧ H.le H' := by
  refine FnX_start Tryd.func18 rfl Tryd.ntmps18 (by simp) ?_
  (refine wpX_stmt ?_; intro K hK; simp -implicitDefEqProofs (disch := first | omega | (simp only [qd] <;> omega)) only [xq, ↓xp, qc, Nat.reduceAdd, List.range, List.range.loop, fine, Nat.reduceEqDiff, ↓reduceIte, yielded, reduceCtorEq, Nat.reduceLT, Nat.reduceMul, Nat.reduceSub, one, Nat.reduceLeDiff, runX_cons, y18_20])
  intro rb hrb
  refine hK _ _ ?_; clear hK K
  have hdb' := Hp.le_set hrb (o := .cells #[.int .i64 0, .int .u8 0] 62 (0, 0)) _ _ hdb
  (refine wpX_stmt ?_; intro K hK; simp -implicitDefEqProofs (disch := first | omega | (simp only [qd] <;> omega)) only [xq, ↓xp, qc, Nat.reduceAdd, List.range, List.range.loop, fine, Nat.reduceEqDiff, ↓reduceIte, yielded, reduceCtorEq, Nat.reduceLT, Nat.reduceMul, Nat.reduceSub, one, Nat.reduceLeDiff, runX_cons, y18_20, cell_of hdb', exists_eq_left'])
  refine (officeOf_spec main _ sv start (hs.le (Hp.le_set hrb)) hx hl).runs.mono ?_
  rintro _ _ ⟨rfl, rfl⟩
  simp -implicitDefEqProofs (disch := first | omega | (simp only [qd] <;> omega)) only [xq, ↓xp, qc, Nat.reduceAdd, List.range, List.range.loop, fine, Nat.reduceEqDiff, ↓reduceIte, yielded, reduceCtorEq, Nat.reduceLT, Nat.reduceMul, Nat.reduceSub, one, Nat.reduceLeDiff, runX_cons, y18_20]
  refine hK _ _ ?_; clear hK K
  (refine wpX_ret ?_; (try simp only [nq, ↓reduceIte, Nat.reduceEqDiff]); rw [bodyX_ret, results_cell Tryd.results18 (by decide) (b := rb) (o := 0) rfl Tryd.underlying62 rfl Tryd.sizeOf62]; simp -implicitDefEqProofs (disch := first | omega | (simp only [qd] <;> omega)) only [xq, ↓xp, qc, Nat.reduceAdd, List.range, List.range.loop, fine, Nat.reduceEqDiff, ↓reduceIte, yielded, reduceCtorEq, Nat.reduceLT, Nat.reduceMul, Nat.reduceSub, one, Nat.reduceLeDiff, runX_cons, y18_20, loadA_set])
  exact ⟨rfl, Hp.le_set hrb⟩

theorem needs_spec (main : Bool) (H : Hp) (db : Nat) (places pieces : Int) (sv cv tv : Value) (ts : List Int) (mb : Nat) (hdb : H db = some (true, dayO places pieces sv cv tv mb)) (hts : SlI H tv ts) (c m : Nat) (t : Int) (hc : ts[c]? = some t) (h0 : 0 ≤ t) (h6 : t < 6) (hm : m < 64) :
    FnX Tryd.prog main 35 #[.pointer (some ⟨db, 0, none⟩), spotV c m] H fun e H' => e = .returned (.tuple #[.bool (!m.testBit t.toNat), .bool (!m.testBit t.toNat && decide (places ≤ oCount m))]) ∧ H.le H' := by
  have hcl : c < ts.length := (List.getElem?_eq_some_iff.1 hc).1
  obtain ⟨a, cap, rfl, hcap, hts⟩ := hts
  obtain ⟨tb, to, p, cs, fr, rfl, htb, htc⟩ := hts c t hc
  refine FnX_start Tryd.func35 rfl Tryd.ntmps35 (by simp) ?_
  (refine wpX_stmt ?_; intro K hK; simp -implicitDefEqProofs (disch := first | omega | (simp only [qd] <;> omega)) only [xq, ↓xp, qc, Nat.reduceAdd, List.range, List.range.loop, fine, Nat.reduceEqDiff, ↓reduceIte, yielded, reduceCtorEq, Nat.reduceLT, Nat.reduceMul, Nat.reduceSub, one, Nat.reduceLeDiff, runX_cons, y35_20])
  intro sb hsb
  refine hK _ _ ?_; clear hK K
  have hle := Hp.le_set hsb (o := .cells #[.int .i64 c, .int .u8 m] 62 (0, 0))
  have hdb1 := hle _ _ hdb
  have htb1 := hle _ _ htb
  have hsb1 : (H.set sb (.cells #[.int .i64 c, .int .u8 m] 62 (0, 0))) sb = _ := set_at
  generalize H.set sb (.cells #[.int .i64 c, .int .u8 m] 62 (0, 0)) = H1 at *
  have htc' : cs[to + (c : Int).toNat * 1]? = some (.int .i64 t) := by simpa using htc
  refine wpX_seq ?_
  refine wpX_dst0 11 [(true, 0), (true, 1), (true, 2), (true, 3), (true, 4), (true, 5), (true, 6), (true, 7), (true, 8), (true, 9), (true, 10)] (by kernel_rfl) (by kernel_rfl) (by simp) (by kernel_rfl) ?_; intro K hK
  iterate 10 (apply plan_take rfl rfl rfl; (focus (simp -implicitDefEqProofs (disch := first | omega | (simp only [qd] <;> omega)) only [xq, ↓xp, qc, Nat.reduceAdd, List.range, List.range.loop, fine, Nat.reduceEqDiff, ↓reduceIte, yielded, reduceCtorEq, Nat.reduceLT, Nat.reduceMul, Nat.reduceSub, one, Nat.reduceLeDiff, runX_cons, y35_20, cell_of hdb1, cell_of htb1, cell_of hsb1, htc', exists_eq_left', and_true, true_and] <;> (first | exact rfl | exact ⟨rfl, rfl⟩))); simp -implicitDefEqProofs (disch := first | omega | (simp only [qd] <;> omega)) only [act_put, act_put_none])
  (apply plan_take rfl rfl rfl; (focus (simp -implicitDefEqProofs (disch := first | omega | (simp only [qd] <;> omega)) only [xq, ↓xp, qc, Nat.reduceAdd, List.range, List.range.loop, fine, Nat.reduceEqDiff, ↓reduceIte, yielded, reduceCtorEq, Nat.reduceLT, Nat.reduceMul, Nat.reduceSub, one, Nat.reduceLeDiff, runX_cons, y35_20]; exact quiet_of (has_spec main H1 m t hm h0 h6))); simp -implicitDefEqProofs (disch := omega) only [act_put, act_put_none])
  refine plan_nil (hK _ _ ?_); clear hK K
  refine wpX_cond (by simp -implicitDefEqProofs (disch := first | omega | (simp only [qd] <;> omega)) only [act_eval, upd_get, Nat.reduceEqDiff, ↓reduceIte]; rfl) ?_
  cases hb : m.testBit t.toNat
  · simp only [Bool.false_eq_true, if_false]
    refine wpX_skip ?_
    simp -implicitDefEqProofs (disch := first | omega | (simp only [qd] <;> omega)) only [thn, blk, ↓reduceIte, Nat.reduceEqDiff]
    refine wpX_dst0 11 [(true, 0), (true, 1), (true, 2), (true, 3), (true, 4), (true, 5), (true, 6), (true, 7), (true, 8), (true, 9), (true, 10)] (by kernel_rfl) (by kernel_rfl) (by simp) (by kernel_rfl) ?_; intro K hK
    iterate 2 (apply plan_take rfl rfl rfl; (focus (simp -implicitDefEqProofs (disch := first | omega | (simp only [qd] <;> omega)) only [xq, ↓xp, qc, Nat.reduceAdd, List.range, List.range.loop, fine, Nat.reduceEqDiff, ↓reduceIte, yielded, reduceCtorEq, Nat.reduceLT, Nat.reduceMul, Nat.reduceSub, one, Nat.reduceLeDiff, runX_cons, y35_20, cell_of hdb1, cell_of htb1, cell_of hsb1, htc', exists_eq_left', and_true, true_and] <;> (first | exact rfl | exact ⟨rfl, rfl⟩))); simp -implicitDefEqProofs (disch := first | omega | (simp only [qd] <;> omega)) only [act_put, act_put_none])
    (apply plan_take rfl rfl rfl; (focus (simp -implicitDefEqProofs (disch := first | omega | (simp only [qd] <;> omega)) only [xq, ↓xp, qc, Nat.reduceAdd, List.range, List.range.loop, fine, Nat.reduceEqDiff, ↓reduceIte, yielded, reduceCtorEq, Nat.reduceLT, Nat.reduceMul, Nat.reduceSub, one, Nat.reduceLeDiff, runX_cons, y35_20]; exact quiet_of (count_spec main H1 m hm))); simp -implicitDefEqProofs (disch := omega) only [act_put, act_put_none])
    iterate 8 (apply plan_take rfl rfl rfl; (focus (simp -implicitDefEqProofs (disch := first | omega | (simp only [qd] <;> omega)) only [xq, ↓xp, qc, Nat.reduceAdd, List.range, List.range.loop, fine, Nat.reduceEqDiff, ↓reduceIte, yielded, reduceCtorEq, Nat.reduceLT, Nat.reduceMul, Nat.reduceSub, one, Nat.reduceLeDiff, runX_cons, y35_20, cell_of hdb1, cell_of htb1, cell_of hsb1, htc', exists_eq_left', and_true, true_and] <;> (first | exact rfl | exact ⟨rfl, rfl⟩))); simp -implicitDefEqProofs (disch := first | omega | (simp only [qd] <;> omega)) only [act_put, act_put_none])
    refine plan_nil (hK _ _ ?_); clear hK K
    (refine wpX_ret ?_; (try simp only [nq, ↓reduceIte, Nat.reduceEqDiff]); rw [bodyX_ret, results_two Tryd.results35 (by decide) (by decide)]; simp only [upd_get, Nat.reduceEqDiff, ↓reduceIte])
    exact ⟨by simp, hle⟩
  · simp only [if_true]
    (refine wpX_stmt ?_; intro K hK; simp -implicitDefEqProofs (disch := first | omega | (simp only [qd] <;> omega)) only [xq, ↓xp, qc, Nat.reduceAdd, List.range, List.range.loop, fine, Nat.reduceEqDiff, ↓reduceIte, yielded, reduceCtorEq, Nat.reduceLT, Nat.reduceMul, Nat.reduceSub, one, Nat.reduceLeDiff, runX_cons, y35_20]; refine hK _ _ ?_; clear hK K)
    (refine wpX_ret ?_; simp only [thn, blk]; rw [bodyX_ret, results_two Tryd.results35 (by decide) (by decide)]; simp only [upd_get, Nat.reduceEqDiff, ↓reduceIte])
    exact ⟨by simp, hle⟩

/-- The office after a call. -/
def oNext (m : Nat) (sent : Int) (t : Int) : Nat := oWith (if 0 ≤ sent then oWithout m sent.toNat else m) t.toNat

theorem vnext_spec (main : Bool) (H : Hp) (db : Nat) (places pieces : Int) (sv cv tv : Value) (ts : List Int) (mb : Nat) (hdb : H db = some (true, dayO places pieces sv cv tv mb)) (hts : SlI H tv ts) (hln : ts.length ≤ 1000000) (c m : Nat) (sent t : Int) (hc : ts[c]? = some t) (h0 : 0 ≤ t) (h6 : t < 6) (hm : m < 64) (hs : sent < 6) :
    FnX Tryd.prog main 37 #[.pointer (some ⟨db, 0, none⟩), spotV c m, .int .i64 sent] H fun e H' => e = .returned (spotV (c + 1) (oNext m sent t)) ∧ H.le H' := by
  have hcl : c < ts.length := (List.getElem?_eq_some_iff.1 hc).1
  obtain ⟨a, cap, rfl, hcap, hts⟩ := hts
  obtain ⟨tb, to, p, cs, fr, rfl, htb, htc⟩ := hts c t hc
  refine FnX_start Tryd.func37 rfl Tryd.ntmps37 (by simp) ?_
  (refine wpX_stmt ?_; intro K hK; simp -implicitDefEqProofs (disch := first | omega | (simp only [qd] <;> omega)) only [xq, ↓xp, qc, Nat.reduceAdd, List.range, List.range.loop, fine, Nat.reduceEqDiff, ↓reduceIte, yielded, reduceCtorEq, Nat.reduceLT, Nat.reduceMul, Nat.reduceSub, one, Nat.reduceLeDiff, runX_cons, y37_20])
  intro sb hsb rb hrb
  refine hK _ _ ?_; clear hK K
  have hle : H.le ((H.set sb (.cells #[.int .i64 c, .int .u8 m] 62 (0, 0))).set rb (.cells #[.int .i64 0, .int .u8 0] 62 (0, 0))) := fun x v hx => Hp.le_set hrb _ _ (Hp.le_set hsb _ _ hx)
  have hrs : rb ≠ sb := fun e => by rw [e, set_at] at hrb; cases hrb
  have hsbv := set_at (H := H) (b := sb) (o := .cells #[.int .i64 c, .int .u8 m] 62 (0, 0))
  have hrb0 : H rb = none := (Lex.refl (b := none) |>.new hsb).gone hrb
  refine wpX_cut (fun a' H1 => ∃ e m', a' = act 29 e [] ∧ e 0 = .pointer (some ⟨db, 0, none⟩) ∧ e 4 = .pointer (some ⟨sb, 0, none⟩) ∧ e 6 = .pointer (some ⟨rb, 0, none⟩) ∧ m' = (if 0 ≤ sent then oWithout m sent.toNat else m) ∧ m' < 64 ∧
    H1 sb = some (true, .cells #[.int .i64 c, .int .u8 (m' : Nat)] 62 (0, 0)) ∧ H1 rb = some (true, .cells #[.int .i64 0, .int .u8 0] 62 (0, 0)) ∧ H.le H1) ?_ ?_
  · (refine wpX_stmt ?_; intro K hK; simp -implicitDefEqProofs (disch := first | omega | (simp only [qd] <;> omega)) only [xq, ↓xp, qc, Nat.reduceAdd, List.range, List.range.loop, fine, Nat.reduceEqDiff, ↓reduceIte, yielded, reduceCtorEq, Nat.reduceLT, Nat.reduceMul, Nat.reduceSub, one, Nat.reduceLeDiff, runX_cons, y37_20]; refine hK _ _ ?_; clear hK K)
    refine wpX_cond (by simp -implicitDefEqProofs (disch := first | omega | (simp only [qd] <;> omega)) only [act_eval, upd_get, Nat.reduceEqDiff, ↓reduceIte]; rfl) ?_
    by_cases hs0 : 0 ≤ sent
    · simp only [hs0, decide_true, if_true]
      have hsb1 := Hp.le_set hrb (o := .cells #[.int .i64 0, .int .u8 0] 62 (0, 0)) _ _ hsbv
      refine wpX_last ?_; intro K hK
      simp -implicitDefEqProofs (disch := first | omega | (simp only [qd] <;> omega)) only [xq, ↓xp, qc, Nat.reduceAdd, List.range, List.range.loop, fine, Nat.reduceEqDiff, ↓reduceIte, yielded, reduceCtorEq, Nat.reduceLT, Nat.reduceMul, Nat.reduceSub, one, Nat.reduceLeDiff, runX_cons, y37_20, cell_of hsb1, exists_eq_left']
      refine (without_spec main _ m sent hm hs0 hs).runs.mono ?_
      rintro _ _ ⟨rfl, rfl⟩
      simp -implicitDefEqProofs (disch := first | omega | (simp only [qd] <;> omega)) only [xq, ↓xp, qc, Nat.reduceAdd, List.range, List.range.loop, fine, Nat.reduceEqDiff, ↓reduceIte, yielded, reduceCtorEq, Nat.reduceLT, Nat.reduceMul, Nat.reduceSub, one, Nat.reduceLeDiff, runX_cons, y37_20, cell_of hsb1, stor_at hsb1]
      refine hK _ _ ?_; clear hK K
      exact ⟨_, _, rfl, rfl, rfl, rfl, rfl, oWithout_lt hm hs0 hs, set_at, by rw [set_ne hrs]; exact set_at, fun x v hx => by rw [set_ne (fun e => by rw [e, hsb] at hx; cases hx)]; exact hle _ _ hx⟩
    · simp only [hs0, decide_false, Bool.false_eq_true, if_false]
      exact wpX_skip ⟨_, m, rfl, rfl, rfl, rfl, rfl, hm, by rw [set_ne hrs.symm]; exact set_at, set_at, hle⟩
  · rintro a' H1 ⟨e, m', rfl, e0, e4, e6, hm', hm64, hsb1, hrb1, hle1⟩
    have hdb1 := hle1 _ _ hdb
    have htb1 := hle1 _ _ htb
    have htc' : cs[to + (c : Int).toNat * 1]? = some (.int .i64 t) := by simpa using htc
    have hc1 : ((c : Int) + 1) = ((c + 1 : Nat) : Int) := by omega
    refine wpX_dst0 15 [(true, 0), (true, 1), (true, 2), (true, 3), (true, 4), (true, 5), (true, 6), (true, 7), (true, 8), (true, 9), (true, 10), (true, 11), (true, 12), (true, 13), (true, 14), (false, 15)] (by kernel_rfl) (by kernel_rfl) (by simp) (by kernel_rfl) ?_; intro K hK
    iterate 13 (apply plan_take rfl rfl rfl; (focus (simp -implicitDefEqProofs (disch := first | omega | (simp only [qd] <;> omega)) only [xq, ↓xp, qc, Nat.reduceAdd, List.range, List.range.loop, fine, Nat.reduceEqDiff, ↓reduceIte, yielded, reduceCtorEq, Nat.reduceLT, Nat.reduceMul, Nat.reduceSub, one, Nat.reduceLeDiff, runX_cons, y37_20, e0, e4, e6, cell_of hdb1, cell_of htb1, cell_of hsb1, htc', exists_eq_left', and_true, true_and] <;> (first | exact rfl | exact ⟨rfl, rfl⟩))); simp -implicitDefEqProofs (disch := first | omega | (simp only [qd] <;> omega)) only [act_put, act_put_none])
    (apply plan_take rfl rfl rfl; (focus (simp -implicitDefEqProofs (disch := first | omega | (simp only [qd] <;> omega)) only [xq, ↓xp, qc, Nat.reduceAdd, List.range, List.range.loop, fine, Nat.reduceEqDiff, ↓reduceIte, yielded, reduceCtorEq, Nat.reduceLT, Nat.reduceMul, Nat.reduceSub, one, Nat.reduceLeDiff, runX_cons, y37_20]; exact quiet_of (with_spec main H1 m' t hm64 h0 h6))); simp -implicitDefEqProofs (disch := omega) only [act_put, act_put_none])
    iterate 1 (apply plan_take rfl rfl rfl; (focus (simp -implicitDefEqProofs (disch := first | omega | (simp only [qd] <;> omega)) only [xq, ↓xp, qc, Nat.reduceAdd, List.range, List.range.loop, fine, Nat.reduceEqDiff, ↓reduceIte, yielded, reduceCtorEq, Nat.reduceLT, Nat.reduceMul, Nat.reduceSub, one, Nat.reduceLeDiff, runX_cons, y37_20, e0, e4, e6, cell_of hdb1, cell_of htb1, cell_of hsb1, htc', exists_eq_left', and_true, true_and] <;> (first | exact rfl | exact ⟨rfl, rfl⟩))); simp -implicitDefEqProofs (disch := first | omega | (simp only [qd] <;> omega)) only [act_put, act_put_none])
    refine plan_tail ?_
    simp -implicitDefEqProofs (disch := first | omega | (simp only [qd] <;> omega)) only [xq, ↓xp, qc, Nat.reduceAdd, List.range, List.range.loop, fine, Nat.reduceEqDiff, ↓reduceIte, yielded, reduceCtorEq, Nat.reduceLT, Nat.reduceMul, Nat.reduceSub, one, Nat.reduceLeDiff, runX_cons, y37_20, e6, storL_of hrb1]
    refine hK _ _ ?_; clear hK K
    (refine wpX_ret ?_; (try simp only [nq, ↓reduceIte, Nat.reduceEqDiff]); rw [bodyX_ret, results_cell Tryd.results37 (by decide) (b := rb) (o := 0) ?hcell Tryd.underlying62 rfl Tryd.sizeOf62]; (case hcell => exact e6); simp -implicitDefEqProofs (disch := first | omega | (simp only [qd] <;> omega)) only [xq, ↓xp, qc, Nat.reduceAdd, List.range, List.range.loop, fine, Nat.reduceEqDiff, ↓reduceIte, yielded, reduceCtorEq, Nat.reduceLT, Nat.reduceMul, Nat.reduceSub, one, Nat.reduceLeDiff, runX_cons, y37_20, loadA_set])
    refine ⟨by rw [hc1, oNext, hm'], ?_⟩
    exact (((Lex.of hle1).own hrb0 : Lex none H _)).toLe

/-! ### the fewest pieces that are fetched -/
def optF (L : Nat) (pl : Int) : List Int → Nat → Nat
  | [], _ => 0
  | t :: ts, m => if m.testBit t.toNat then optF L pl ts (oNext m (-1) t) else if pl ≤ oCount m then (oList m).foldl (fun acc p => min acc (1 + optF L pl ts (oNext m p t))) (L + 1) else 1 + optF L pl ts (oNext m (-1) t)
theorem oList_mem {m : Nat} {x : Int} (h : x ∈ oList m) : 0 ≤ x ∧ x < 6 ∧ m.testBit x.toNat = true := by
  simp only [oList, oListN, List.mem_map, List.mem_filter, List.mem_range] at h
  obtain ⟨n, ⟨h1, h2⟩, rfl⟩ := h
  exact ⟨by omega, by omega, by simpa using h2⟩
theorem oNext_lt {m : Nat} {sent t : Int} (hm : m < 64) (hs : sent < 6) (h0 : 0 ≤ t) (h6 : t < 6) : oNext m sent t < 64 := by
  unfold oNext
  split
  · rename_i h
    exact oWith_lt (oWithout_lt hm h hs) h0 h6
  · exact oWith_lt hm h0 h6
theorem foldl_min_le (f : Int → Nat) : ∀ (xs : List Int) (a : Nat), xs.foldl (fun acc p => min acc (f p)) a ≤ a
  | [], a => Nat.le_refl _
  | x :: xs, a => Nat.le_trans (foldl_min_le f xs _) (Nat.min_le_left _ _)
theorem optF_le (L : Nat) (pl : Int) : ∀ (ts : List Int) (m : Nat), optF L pl ts m ≤ L + 1 + ts.length
  | [], _ => by simp [optF]
  | t :: ts, m => by
    unfold optF
    have h1 := optF_le L pl ts (oNext m (-1) t)
    have h2 := foldl_min_le (fun p => 1 + optF L pl ts (oNext m p t)) (oList m) (L + 1)
    simp only [List.length_cons]
    split
    · omega
    · split <;> omega

/-- The day's memory: what a spot's fewest is, as far as it is known. -/
def KnownI (H : Hp) (mb : Nat) (L : Nat) (pl : Int) (ts : List Int) : Prop := ∃ es clock, H mb = some (true, .map es clock) ∧ MapF .i64 .u8 .i64 (fun _ _ => True) (fun c m => (optF L pl (ts.drop c.toNat) m.toNat : Nat)) es.toList

theorem keySpot : Key2 Tryd.prog 62 .i64 .u8 := ⟨⟨_, _, Tryd.underlying62, by decide, by decide, rfl, rfl, ⟨_, Tryd.underlying3⟩, ⟨_, Tryd.underlying60⟩⟩, by kernel_rfl⟩

theorem SlI.lexMap {H H' : Hp} {v : Value} {xs : List Int} (h : SlI H v xs) {mb : Nat} {p : Bool} {es : Array MapEntry} {cl : Nat} (hl : Lex (some mb) H H') (hm : H mb = some (p, .map es cl)) : SlI H' v xs :=
  h.move fun x p c fr hx => hl.keeps hx fun e => by rw [e, hm] at hx; cases hx

theorem least_spec (main : Bool) (db : Nat) (pl pieces : Int) (sv cv tv : Value) (ts : List Int) (mb : Nat) (hdm : db ≠ mb) (hln : ts.length ≤ 1000) (hts6 : ∀ t ∈ ts, 0 ≤ t ∧ t < 6) :
    ∀ (n c m : Nat) (H : Hp), ts.length - c = n → c ≤ ts.length → m < 64 → H db = some (true, dayO pl pieces sv cv tv mb) → SlI H tv ts → KnownI H mb ts.length pl ts →
      FnX Tryd.prog main 17 #[.pointer (some ⟨db, 0, none⟩), spotV c m] H fun e H' => e = .returned (.int .i64 (optF ts.length pl (ts.drop c) m)) ∧ Lex (some mb) H H' ∧ KnownI H' mb ts.length pl ts := by
  intro n
  induction n using Nat.strongRecOn with
  | _ n ih =>
  intro c m H hn hc hm hdb hts hk
  have htsS := hts
  obtain ⟨ta, tcap, rfl, htcap, _⟩ := hts
  refine FnX_start Tryd.func17 rfl Tryd.ntmps17 (by simp) ?_
  (refine wpX_stmt ?_; intro K hK; simp -implicitDefEqProofs (disch := first | omega | (simp only [qd] <;> omega)) only [xq, ↓xp, qc, Nat.reduceAdd, List.range, List.range.loop, fine, Nat.reduceEqDiff, ↓reduceIte, yielded, reduceCtorEq, Nat.reduceLT, Nat.reduceMul, Nat.reduceSub, one, Nat.reduceLeDiff, runX_cons, y17_20])
  intro sb hsb
  refine hK _ _ ?_; clear hK K
  obtain ⟨es, clock, hmb, hmap⟩ := hk
  have hle := Hp.le_set hsb (o := .cells #[.int .i64 c, .int .u8 m] 62 (0, 0))
  have hL0 : Lex (some mb) H (H.set sb (.cells #[.int .i64 c, .int .u8 m] 62 (0, 0))) := Lex.of hle
  have hdb1 := hle _ _ hdb
  have hmb1 := hle _ _ hmb
  have hts1 := htsS.le hle
  have hsbm : sb ≠ mb := fun e => by rw [e, hmb] at hsb; cases hsb
  have hsb1 : (H.set sb (.cells #[.int .i64 c, .int .u8 m] 62 (0, 0))) sb = _ := set_at
  generalize H.set sb (.cells #[.int .i64 c, .int .u8 m] 62 (0, 0)) = H1 at *
  refine wpX_seq ?_
  refine wpX_dst0 8 [(true, 0), (true, 1), (true, 2), (true, 3), (true, 4), (true, 5), (true, 6), (true, 7)] (by kernel_rfl) (by kernel_rfl) (by simp) (by kernel_rfl) ?_; intro K hK
  iterate 8 (apply plan_take rfl rfl rfl; (focus (simp -implicitDefEqProofs (disch := first | omega | (simp only [qd] <;> omega)) only [xq, ↓xp, qc, Nat.reduceAdd, List.range, List.range.loop, fine, Nat.reduceEqDiff, ↓reduceIte, yielded, reduceCtorEq, Nat.reduceLT, Nat.reduceMul, Nat.reduceSub, one, Nat.reduceLeDiff, runX_cons, y17_20, cell_of hdb1, cell_of hsb1, exists_eq_left', and_true, true_and] <;> (first | exact rfl | exact ⟨rfl, rfl⟩))); simp -implicitDefEqProofs (disch := first | omega | (simp only [qd] <;> omega)) only [act_put, act_put_none])
  refine plan_nil (hK _ _ ?_); clear hK K
  refine wpX_cond (by simp -implicitDefEqProofs (disch := first | omega | (simp only [qd] <;> omega)) only [act_eval, upd_get, Nat.reduceEqDiff, ↓reduceIte]; rfl) ?_
  by_cases hcl : c = ts.length
  · have : ((c : Int) == (ts.length : Int)) = true := by simp [hcl]
    simp only [this, if_true]
    (refine wpX_stmt ?_; intro K hK; simp -implicitDefEqProofs (disch := first | omega | (simp only [qd] <;> omega)) only [xq, ↓xp, qc, Nat.reduceAdd, List.range, List.range.loop, fine, Nat.reduceEqDiff, ↓reduceIte, yielded, reduceCtorEq, Nat.reduceLT, Nat.reduceMul, Nat.reduceSub, one, Nat.reduceLeDiff, runX_cons, y17_20]; refine hK _ _ ?_; clear hK K)
    (refine wpX_ret ?_; simp only [thn, blk]; rw [bodyX_ret, results_one Tryd.results17 (by decide)]; simp only [upd_get, Nat.reduceEqDiff, ↓reduceIte])
    exact ⟨by rw [hcl, List.drop_length]; rfl, hL0, es, clock, hmb1, hmap⟩
  · have : ((c : Int) == (ts.length : Int)) = false := by simp; omega
    simp only [this, Bool.false_eq_true, if_false]
    refine wpX_skip ?_
    simp -implicitDefEqProofs (disch := first | omega | (simp only [qd] <;> omega)) only [thn, blk, ↓reduceIte, Nat.reduceEqDiff]
    have hcl' : c < ts.length := by omega
    have hct : ts[c]? = some ts[c] := List.getElem?_eq_getElem hcl'
    have hdrop : ts.drop c = ts[c] :: ts.drop (c + 1) := List.drop_eq_getElem_cons hcl'
    generalize ts[c] = t at hct hdrop
    have ht6 := hts6 t (List.mem_of_getElem? hct)
    obtain ⟨v, met, hv1, hv0, hlook⟩ := lookup_map (P := Tryd.prog) Tryd.underlying91 keySpot Tryd.zeroValue3 (c : Int) (m : Int) hmb1 hmap
    refine wpX_seq ?_
    refine wpX_dst0 11 [(true, 0), (true, 1), (true, 2), (true, 3), (true, 4), (true, 5), (true, 6), (true, 7), (true, 8), (true, 9), (true, 10)] (by kernel_rfl) (by kernel_rfl) (by simp) (by kernel_rfl) ?_; intro K hK
    iterate 5 (apply plan_take rfl rfl rfl; (focus (simp -implicitDefEqProofs (disch := first | omega | (simp only [qd] <;> omega)) only [xq, ↓xp, qc, Nat.reduceAdd, List.range, List.range.loop, fine, Nat.reduceEqDiff, ↓reduceIte, yielded, reduceCtorEq, Nat.reduceLT, Nat.reduceMul, Nat.reduceSub, one, Nat.reduceLeDiff, runX_cons, y17_20, cell_of hdb1, cell_of hsb1, loadA_at hsb1, exists_eq_left', and_true, true_and] <;> (first | exact rfl | exact ⟨rfl, rfl⟩))); simp -implicitDefEqProofs (disch := first | omega | (simp only [qd] <;> omega)) only [act_put, act_put_none])
    apply plan_take rfl rfl rfl
    · simp -implicitDefEqProofs (disch := first | omega | (simp only [qd] <;> omega)) only [xq, ↓xp, qc, Nat.reduceAdd, List.range, List.range.loop, fine, Nat.reduceEqDiff, ↓reduceIte, yielded, reduceCtorEq, Nat.reduceLT, Nat.reduceMul, Nat.reduceSub, one, Nat.reduceLeDiff, runX_cons, y17_20]
      refine hlook _ _ ?_
      simp only [YN_value]
      first | exact rfl | exact ⟨rfl, rfl⟩ | exact ⟨rfl, trivial⟩
    simp (disch := omega) only [act_put, act_put_none]
    iterate 5 (apply plan_take rfl rfl rfl; (focus (simp -implicitDefEqProofs (disch := first | omega | (simp only [qd] <;> omega)) only [xq, ↓xp, qc, Nat.reduceAdd, List.range, List.range.loop, fine, Nat.reduceEqDiff, ↓reduceIte, yielded, reduceCtorEq, Nat.reduceLT, Nat.reduceMul, Nat.reduceSub, one, Nat.reduceLeDiff, runX_cons, y17_20] <;> (first | exact rfl | exact ⟨rfl, rfl⟩))); simp -implicitDefEqProofs (disch := first | omega | (simp only [qd] <;> omega)) only [act_put, act_put_none])
    refine plan_nil (hK _ _ ?_); clear hK K
    (refine wpX_stmt ?_; intro K hK; simp -implicitDefEqProofs (disch := first | omega | (simp only [qd] <;> omega)) only [xq, ↓xp, qc, Nat.reduceAdd, List.range, List.range.loop, fine, Nat.reduceEqDiff, ↓reduceIte, yielded, reduceCtorEq, Nat.reduceLT, Nat.reduceMul, Nat.reduceSub, one, Nat.reduceLeDiff, runX_cons, y17_20]; refine hK _ _ ?_; clear hK K)
    refine wpX_cond (by simp -implicitDefEqProofs (disch := first | omega | (simp only [qd] <;> omega)) only [act_eval, upd_get, Nat.reduceEqDiff, ↓reduceIte]; rfl) ?_
    cases hmet : met
    · simp only [Bool.false_eq_true, if_false]
      refine wpX_skip ?_
      simp -implicitDefEqProofs (disch := first | omega | (simp only [qd] <;> omega)) only [thn, blk, ↓reduceIte, Nat.reduceEqDiff]
      (refine wpX_stmt ?_; intro K hK; simp -implicitDefEqProofs (disch := first | omega | (simp only [qd] <;> omega)) only [xq, ↓xp, qc, Nat.reduceAdd, List.range, List.range.loop, fine, Nat.reduceEqDiff, ↓reduceIte, yielded, reduceCtorEq, Nat.reduceLT, Nat.reduceMul, Nat.reduceSub, one, Nat.reduceLeDiff, runX_cons, y17_20, loadA_at hsb1])
      refine (needs_spec main H1 db pl pieces sv cv _ ts mb hdb1 hts1 c m t hct ht6.1 ht6.2 hm).runs.mono ?_
      rintro _ H2 ⟨rfl, hle2⟩
      simp -implicitDefEqProofs (disch := first | omega | (simp only [qd] <;> omega)) only [xq, ↓xp, qc, Nat.reduceAdd, List.range, List.range.loop, fine, Nat.reduceEqDiff, ↓reduceIte, yielded, reduceCtorEq, Nat.reduceLT, Nat.reduceMul, Nat.reduceSub, one, Nat.reduceLeDiff, runX_cons, y17_20]
      refine hK _ _ ?_; clear hK K
      have hL2 : Lex (some mb) H H2 := hL0.trans (Lex.of hle2)
      have hdb2 := hle2 _ _ hdb1
      have hmb2 := hle2 _ _ hmb1
      have hsb2 := hle2 _ _ hsb1
      have hts2 := hts1.le hle2
      have hk2 : KnownI H2 mb ts.length pl ts := ⟨es, clock, hmb2, hmap⟩
      (refine wpX_stmt ?_; intro K hK; simp -implicitDefEqProofs (disch := first | omega | (simp only [qd] <;> omega)) only [xq, ↓xp, qc, Nat.reduceAdd, List.range, List.range.loop, fine, Nat.reduceEqDiff, ↓reduceIte, yielded, reduceCtorEq, Nat.reduceLT, Nat.reduceMul, Nat.reduceSub, one, Nat.reduceLeDiff, runX_cons, y17_20]; refine hK _ _ ?_; clear hK K)
      refine wpX_cut (fun a' H3 => ∃ e, a' = act 81 e [] ∧ e 0 = .pointer (some ⟨db, 0, none⟩) ∧ e 3 = .pointer (some ⟨sb, 0, none⟩) ∧ e 9 = .int .i64 (optF ts.length pl (ts.drop c) m : Nat) ∧ Lex (some mb) H H3 ∧ KnownI H3 mb ts.length pl ts ∧
        H3 db = some (true, dayO pl pieces sv cv (.slice ta ts.length tcap) mb) ∧ H3 sb = some (true, .cells #[.int .i64 c, .int .u8 m] 62 (0, 0))) ?_ ?_
      · cases hbit : m.testBit t.toNat
        · by_cases hfull : pl ≤ oCount m
          · -- send
            have hopt : optF ts.length pl (ts.drop c) m = (oList m).foldl (fun acc p => min acc (1 + optF ts.length pl (ts.drop (c + 1)) (oNext m p t))) (ts.length + 1) := by
              rw [hdrop, optF, hbit, if_neg (by simp), if_pos hfull]
            refine wpX_block (wpX_seq (wpX_block (wpX_seq (wpX_block (wpX_seq (wpX_block (wpX_seq (wpX_seq ?_)))))))) 
            (refine wpX_stmt ?_; intro K hK; simp -implicitDefEqProofs (disch := first | omega | (simp only [qd] <;> omega)) only [xq, ↓xp, qc, Nat.reduceAdd, List.range, List.range.loop, fine, Nat.reduceEqDiff, ↓reduceIte, yielded, reduceCtorEq, Nat.reduceLT, Nat.reduceMul, Nat.reduceSub, one, Nat.reduceLeDiff, runX_cons, y17_20]; refine hK _ _ ?_; clear hK K)
            refine wpX_cond (by simp -implicitDefEqProofs (disch := first | omega | (simp only [qd] <;> omega)) only [act_eval, upd_get, Nat.reduceEqDiff, ↓reduceIte]; rfl) ?_
            simp only [Bool.not_false, Bool.true_and, hfull, decide_true, if_true]
            (refine wpX_exit ?_; simp only [thn, blk, ↓reduceIte, Nat.reduceEqDiff])
            refine wpX_seq ?_
            (refine wpX_stmt ?_; intro K hK; simp -implicitDefEqProofs (disch := first | omega | (simp only [qd] <;> omega)) only [xq, ↓xp, qc, Nat.reduceAdd, List.range, List.range.loop, fine, Nat.reduceEqDiff, ↓reduceIte, yielded, reduceCtorEq, Nat.reduceLT, Nat.reduceMul, Nat.reduceSub, one, Nat.reduceLeDiff, runX_cons, y17_20, cell_of hdb2, exists_eq_left']; refine hK _ _ ?_; clear hK K)
            (refine wpX_stmt ?_; intro K hK; simp -implicitDefEqProofs (disch := first | omega | (simp only [qd] <;> omega)) only [xq, ↓xp, qc, Nat.reduceAdd, List.range, List.range.loop, fine, Nat.reduceEqDiff, ↓reduceIte, yielded, reduceCtorEq, Nat.reduceLT, Nat.reduceMul, Nat.reduceSub, one, Nat.reduceLeDiff, runX_cons, y17_20, cell_of hsb2, exists_eq_left'])
            refine (list_spec main H2 m hm).runs.mono ?_
            rintro _ H3 ⟨lv, rfl, hlv, hle3⟩
            have hlvS := hlv
            obtain ⟨la, lc, rfl, hlc, hlv⟩ := hlv
            simp -implicitDefEqProofs (disch := first | omega | (simp only [qd] <;> omega)) only [xq, ↓xp, qc, Nat.reduceAdd, List.range, List.range.loop, fine, Nat.reduceEqDiff, ↓reduceIte, yielded, reduceCtorEq, Nat.reduceLT, Nat.reduceMul, Nat.reduceSub, one, Nat.reduceLeDiff, runX_cons, y17_20]
            refine hK _ _ ?_; clear hK K
            have hol : (oList m).length ≤ 6 := oListN_len m 6
            refine wpX_block (wpX_loop (fun w a' H' => ∃ e j, w = (oList m).length - j ∧ j ≤ (oList m).length ∧ a' = act 81 e [] ∧ e 0 = .pointer (some ⟨db, 0, none⟩) ∧ e 3 = .pointer (some ⟨sb, 0, none⟩) ∧
              e 9 = .int .i64 (((oList m).take j).foldl (fun acc p => min acc (1 + optF ts.length pl (ts.drop (c + 1)) (oNext m p t))) (ts.length + 1) : Nat) ∧ e 49 = .slice la (oList m).length lc ∧ e 50 = .int .i64 (oList m).length ∧ e 51 = .int .i64 (j : Nat) ∧
              Lex (some mb) H H' ∧ KnownI H' mb ts.length pl ts ∧ H' db = some (true, dayO pl pieces sv cv (.slice ta ts.length tcap) mb) ∧ H' sb = some (true, .cells #[.int .i64 c, .int .u8 m] 62 (0, 0)) ∧
              SlI H' (.slice ta ts.length tcap) ts ∧ SlI H' (.slice la (oList m).length lc) (oList m)) (n := (oList m).length) ?_ ?_)
            · refine ⟨_, 0, by omega, by omega, rfl, rfl, rfl, ?_, rfl, rfl, rfl, hL2.le hle3, ⟨es, clock, hle3 _ _ hmb2, hmap⟩, hle3 _ _ hdb2, hle3 _ _ hsb2, hts2.le hle3, hlvS⟩
              simp [upd]
            · rintro w a' H' ⟨e, j, rfl, hj, rfl, e0, e3, e9, e49, e50, e51, hL4, hk4, hdb4, hsb4, hts4, hlv4⟩
              (refine wpX_stmt ?_; intro K hK; simp -implicitDefEqProofs (disch := first | omega | (simp only [qd] <;> omega)) only [xq, ↓xp, qc, Nat.reduceAdd, List.range, List.range.loop, fine, Nat.reduceEqDiff, ↓reduceIte, yielded, reduceCtorEq, Nat.reduceLT, Nat.reduceMul, Nat.reduceSub, one, Nat.reduceLeDiff, runX_cons, y17_20, e50, e51]; refine hK _ _ ?_; clear hK K)
              refine wpX_seq ?_
              refine wpX_cond (by simp -implicitDefEqProofs (disch := first | omega | (simp only [qd] <;> omega)) only [act_eval, upd_get, Nat.reduceEqDiff, ↓reduceIte]; rfl) ?_
              by_cases hlt : j < (oList m).length
              · simp only [Int.ofNat_lt, hlt, decide_true, if_true]
                refine wpX_skip (wpX_seq (wpX_block ?_))
                obtain ⟨_, _, hlve, _, hlv5⟩ := id hlv4
                cases hlve
                obtain ⟨lb, lo, lp, lcs, lfr, hla, hlb, hlx⟩ := hlv5 j (oList m)[j] (List.getElem?_eq_getElem hlt)
                have hpm := oList_mem (List.getElem_mem (l := oList m) (n := j) hlt)
                have htake : (oList m).take (j + 1) = (oList m).take j ++ [(oList m)[j]] := by rw [List.take_add_one, List.getElem?_eq_getElem hlt]; rfl
                generalize (oList m)[j] = pp at hlx hpm htake
                have hlx' : lcs[lo + (j : Int).toNat * 1]? = some (.int .i64 pp) := by simpa using hlx
                have e49' := e49
                rw [hla] at e49'
                (refine wpX_stmt ?_; intro K hK; simp -implicitDefEqProofs (disch := first | omega | (simp only [qd] <;> omega)) only [xq, ↓xp, qc, Nat.reduceAdd, List.range, List.range.loop, fine, Nat.reduceEqDiff, ↓reduceIte, yielded, reduceCtorEq, Nat.reduceLT, Nat.reduceMul, Nat.reduceSub, one, Nat.reduceLeDiff, runX_cons, y17_20, e49', e51, cell_of hlb, hlx', exists_eq_left']; refine hK _ _ ?_; clear hK K)
                refine wpX_last ?_; intro K hK
                simp -implicitDefEqProofs (disch := first | omega | (simp only [qd] <;> omega)) only [xq, ↓xp, qc, Nat.reduceAdd, List.range, List.range.loop, fine, Nat.reduceEqDiff, ↓reduceIte, yielded, reduceCtorEq, Nat.reduceLT, Nat.reduceMul, Nat.reduceSub, one, Nat.reduceLeDiff, runX_cons, y17_20, e0, e3, e9, loadA_at hsb4]
                refine (vnext_spec main H' db pl pieces sv cv _ ts mb hdb4 hts4 (by omega) c m pp t hct ht6.1 ht6.2 hm hpm.2.1).runs.mono ?_
                rintro _ H5 ⟨rfl, hle5⟩
                simp -implicitDefEqProofs (disch := first | omega | (simp only [qd] <;> omega)) only [xq, ↓xp, qc, Nat.reduceAdd, List.range, List.range.loop, fine, Nat.reduceEqDiff, ↓reduceIte, yielded, reduceCtorEq, Nat.reduceLT, Nat.reduceMul, Nat.reduceSub, one, Nat.reduceLeDiff, runX_cons, y17_20]
                have hk5 : KnownI H5 mb ts.length pl ts := by
                  obtain ⟨es', cl', h1, h2⟩ := hk4
                  exact ⟨es', cl', hle5 _ _ h1, h2⟩
                refine (ih (ts.length - (c + 1)) (by omega) (c + 1) (oNext m pp t) H5 rfl (by omega) (oNext_lt hm hpm.2.1 ht6.1 ht6.2) (hle5 _ _ hdb4) (hts4.le hle5) hk5).runs.mono ?_
                rintro _ H6 ⟨rfl, hL6, hk6⟩
                have hof := optF_le ts.length pl (ts.drop (c + 1)) (oNext m pp t)
                rw [List.length_drop] at hof
                simp -implicitDefEqProofs (disch := first | omega | (simp only [qd] <;> omega)) only [xq, ↓xp, qc, Nat.reduceAdd, List.range, List.range.loop, fine, Nat.reduceEqDiff, ↓reduceIte, yielded, reduceCtorEq, Nat.reduceLT, Nat.reduceMul, Nat.reduceSub, one, Nat.reduceLeDiff, runX_cons, y17_20]
                refine hK _ _ ?_; clear hK K
                simp -implicitDefEqProofs (disch := first | omega | (simp only [qd] <;> omega)) only [thn, blk, ↓reduceIte, Nat.reduceEqDiff]
                (refine wpX_last ?_; intro K hK; simp -implicitDefEqProofs (disch := first | omega | (simp only [qd] <;> omega)) only [xq, ↓xp, qc, Nat.reduceAdd, List.range, List.range.loop, fine, Nat.reduceEqDiff, ↓reduceIte, yielded, reduceCtorEq, Nat.reduceLT, Nat.reduceMul, Nat.reduceSub, one, Nat.reduceLeDiff, runX_cons, y17_20, e51]; refine hK _ _ ?_; clear hK K)
                simp -implicitDefEqProofs (disch := first | omega | (simp only [qd] <;> omega)) only [thn, blk, ↓reduceIte, Nat.reduceEqDiff]
                obtain ⟨es', cl', hm5, _⟩ := id hk5
                refine ⟨_, ?_, _, j + 1, rfl, hlt, rfl, e0, e3, ?_, e49, e50, rfl, (hL4.le hle5).trans hL6, hk6, hL6.keeps (hle5 _ _ hdb4) hdm, hL6.keeps (hle5 _ _ hsb4) hsbm, (hts4.le hle5).lexMap hL6 hm5, (hlv4.le hle5).lexMap hL6 hm5⟩
                · omega
                · rw [htake, List.foldl_append]
                  show Value.int .i64 _ = Value.int .i64 _
                  congr 1
                  simp only [List.foldl_cons, List.foldl_nil]
                  split <;> omega
              · simp only [Int.ofNat_lt, hlt, decide_false, Bool.false_eq_true, if_false]
                (refine wpX_exit ?_; simp only [thn, blk, ↓reduceIte, Nat.reduceEqDiff])
                refine wpX_exit ?_
                simp -implicitDefEqProofs (disch := first | omega | (simp only [qd] <;> omega)) only [thn, blk, ↓reduceIte, Nat.reduceEqDiff]
                rw [List.take_of_length_le (by omega)] at e9
                exact ⟨_, rfl, e0, e3, by rw [hopt]; exact e9, hL4, hk4, hdb4, hsb4⟩
          · -- fetch
            have hopt : optF ts.length pl (ts.drop c) m = 1 + optF ts.length pl (ts.drop (c + 1)) (oNext m (-1) t) := by
              rw [hdrop, optF, hbit, if_neg (by simp), if_neg hfull]
            refine wpX_block (wpX_seq (wpX_block (wpX_seq (wpX_block (wpX_seq (wpX_block (wpX_seq (wpX_seq ?_))))))))
            (refine wpX_stmt ?_; intro K hK; simp -implicitDefEqProofs (disch := first | omega | (simp only [qd] <;> omega)) only [xq, ↓xp, qc, Nat.reduceAdd, List.range, List.range.loop, fine, Nat.reduceEqDiff, ↓reduceIte, yielded, reduceCtorEq, Nat.reduceLT, Nat.reduceMul, Nat.reduceSub, one, Nat.reduceLeDiff, runX_cons, y17_20]; refine hK _ _ ?_; clear hK K)
            refine wpX_cond (by simp -implicitDefEqProofs (disch := first | omega | (simp only [qd] <;> omega)) only [act_eval, upd_get, Nat.reduceEqDiff, ↓reduceIte]; rfl) ?_
            simp only [Bool.not_false, Bool.true_and, hfull, decide_false, Bool.false_eq_true, if_false]
            refine wpX_skip ?_
            simp -implicitDefEqProofs (disch := first | omega | (simp only [qd] <;> omega)) only [thn, blk, ↓reduceIte, Nat.reduceEqDiff]
            (refine wpX_stmt ?_; intro K hK; simp -implicitDefEqProofs (disch := first | omega | (simp only [qd] <;> omega)) only [xq, ↓xp, qc, Nat.reduceAdd, List.range, List.range.loop, fine, Nat.reduceEqDiff, ↓reduceIte, yielded, reduceCtorEq, Nat.reduceLT, Nat.reduceMul, Nat.reduceSub, one, Nat.reduceLeDiff, runX_cons, y17_20]; refine hK _ _ ?_; clear hK K)
            refine wpX_cond (by simp -implicitDefEqProofs (disch := first | omega | (simp only [qd] <;> omega)) only [act_eval, upd_get, Nat.reduceEqDiff, ↓reduceIte]; rfl) ?_
            simp only [Bool.not_false, if_true]
            (refine wpX_exit ?_; simp only [thn, blk, ↓reduceIte, Nat.reduceEqDiff])
            (refine wpX_last ?_; intro K hK; simp -implicitDefEqProofs (disch := first | omega | (simp only [qd] <;> omega)) only [xq, ↓xp, qc, Nat.reduceAdd, List.range, List.range.loop, fine, Nat.reduceEqDiff, ↓reduceIte, yielded, reduceCtorEq, Nat.reduceLT, Nat.reduceMul, Nat.reduceSub, one, Nat.reduceLeDiff, runX_cons, y17_20]; refine hK _ _ ?_; clear hK K)
            simp -implicitDefEqProofs (disch := first | omega | (simp only [qd] <;> omega)) only [thn, blk, ↓reduceIte, Nat.reduceEqDiff]
            (refine wpX_stmt ?_; intro K hK; simp -implicitDefEqProofs (disch := first | omega | (simp only [qd] <;> omega)) only [xq, ↓xp, qc, Nat.reduceAdd, List.range, List.range.loop, fine, Nat.reduceEqDiff, ↓reduceIte, yielded, reduceCtorEq, Nat.reduceLT, Nat.reduceMul, Nat.reduceSub, one, Nat.reduceLeDiff, runX_cons, y17_20, loadA_at hsb2])
            refine (vnext_spec main H2 db pl pieces sv cv _ ts mb hdb2 hts2 (by omega) c m (-1) t hct ht6.1 ht6.2 hm (by omega)).runs.mono ?_
            rintro _ H5 ⟨rfl, hle5⟩
            simp -implicitDefEqProofs (disch := first | omega | (simp only [qd] <;> omega)) only [xq, ↓xp, qc, Nat.reduceAdd, List.range, List.range.loop, fine, Nat.reduceEqDiff, ↓reduceIte, yielded, reduceCtorEq, Nat.reduceLT, Nat.reduceMul, Nat.reduceSub, one, Nat.reduceLeDiff, runX_cons, y17_20]
            have hk5 : KnownI H5 mb ts.length pl ts := ⟨es, clock, hle5 _ _ hmb2, hmap⟩
            refine (ih (ts.length - (c + 1)) (by omega) (c + 1) (oNext m (-1) t) H5 rfl (by omega) (oNext_lt hm (by omega) ht6.1 ht6.2) (hle5 _ _ hdb2) (hts2.le hle5) hk5).runs.mono ?_
            rintro _ H6 ⟨rfl, hL6, hk6⟩
            have hof := optF_le ts.length pl (ts.drop (c + 1)) (oNext m (-1) t)
            rw [List.length_drop] at hof
            simp -implicitDefEqProofs (disch := first | omega | (simp only [qd] <;> omega)) only [xq, ↓xp, qc, Nat.reduceAdd, List.range, List.range.loop, fine, Nat.reduceEqDiff, ↓reduceIte, yielded, reduceCtorEq, Nat.reduceLT, Nat.reduceMul, Nat.reduceSub, one, Nat.reduceLeDiff, runX_cons, y17_20]
            refine hK _ _ ?_; clear hK K
            refine wpX_exit ?_
            simp -implicitDefEqProofs (disch := first | omega | (simp only [qd] <;> omega)) only [thn, blk, ↓reduceIte, Nat.reduceEqDiff]
            refine ⟨_, rfl, rfl, rfl, ?_, (hL2.le hle5).trans hL6, hk6, hL6.keeps (hle5 _ _ hdb2) hdm, hL6.keeps (hle5 _ _ hsb2) hsbm⟩
            rw [hopt]
            show Value.int .i64 _ = Value.int .i64 _
            congr 1
            all_goals omega
        · -- nothing is fetched
            have hopt : optF ts.length pl (ts.drop c) m = optF ts.length pl (ts.drop (c + 1)) (oNext m (-1) t) := by
              rw [hdrop, optF, hbit, if_pos rfl]
            refine wpX_block (wpX_seq (wpX_block (wpX_seq (wpX_block (wpX_seq (wpX_block (wpX_seq (wpX_seq ?_))))))))
            (refine wpX_stmt ?_; intro K hK; simp -implicitDefEqProofs (disch := first | omega | (simp only [qd] <;> omega)) only [xq, ↓xp, qc, Nat.reduceAdd, List.range, List.range.loop, fine, Nat.reduceEqDiff, ↓reduceIte, yielded, reduceCtorEq, Nat.reduceLT, Nat.reduceMul, Nat.reduceSub, one, Nat.reduceLeDiff, runX_cons, y17_20]; refine hK _ _ ?_; clear hK K)
            refine wpX_cond (by simp -implicitDefEqProofs (disch := first | omega | (simp only [qd] <;> omega)) only [act_eval, upd_get, Nat.reduceEqDiff, ↓reduceIte]; rfl) ?_
            simp only [Bool.not_true, Bool.false_and, Bool.false_eq_true, if_false]
            refine wpX_skip ?_
            simp -implicitDefEqProofs (disch := first | omega | (simp only [qd] <;> omega)) only [thn, blk, ↓reduceIte, Nat.reduceEqDiff]
            (refine wpX_stmt ?_; intro K hK; simp -implicitDefEqProofs (disch := first | omega | (simp only [qd] <;> omega)) only [xq, ↓xp, qc, Nat.reduceAdd, List.range, List.range.loop, fine, Nat.reduceEqDiff, ↓reduceIte, yielded, reduceCtorEq, Nat.reduceLT, Nat.reduceMul, Nat.reduceSub, one, Nat.reduceLeDiff, runX_cons, y17_20]; refine hK _ _ ?_; clear hK K)
            refine wpX_cond (by simp -implicitDefEqProofs (disch := first | omega | (simp only [qd] <;> omega)) only [act_eval, upd_get, Nat.reduceEqDiff, ↓reduceIte]; rfl) ?_
            simp only [Bool.not_true, Bool.false_eq_true, if_false]
            refine wpX_skip ?_
            simp -implicitDefEqProofs (disch := first | omega | (simp only [qd] <;> omega)) only [thn, blk, ↓reduceIte, Nat.reduceEqDiff]
            (refine wpX_exit ?_; simp only [thn, blk, ↓reduceIte, Nat.reduceEqDiff])
            (refine wpX_stmt ?_; intro K hK; simp -implicitDefEqProofs (disch := first | omega | (simp only [qd] <;> omega)) only [xq, ↓xp, qc, Nat.reduceAdd, List.range, List.range.loop, fine, Nat.reduceEqDiff, ↓reduceIte, yielded, reduceCtorEq, Nat.reduceLT, Nat.reduceMul, Nat.reduceSub, one, Nat.reduceLeDiff, runX_cons, y17_20, loadA_at hsb2])
            refine (vnext_spec main H2 db pl pieces sv cv _ ts mb hdb2 hts2 (by omega) c m (-1) t hct ht6.1 ht6.2 hm (by omega)).runs.mono ?_
            rintro _ H5 ⟨rfl, hle5⟩
            simp -implicitDefEqProofs (disch := first | omega | (simp only [qd] <;> omega)) only [xq, ↓xp, qc, Nat.reduceAdd, List.range, List.range.loop, fine, Nat.reduceEqDiff, ↓reduceIte, yielded, reduceCtorEq, Nat.reduceLT, Nat.reduceMul, Nat.reduceSub, one, Nat.reduceLeDiff, runX_cons, y17_20]
            have hk5 : KnownI H5 mb ts.length pl ts := ⟨es, clock, hle5 _ _ hmb2, hmap⟩
            refine (ih (ts.length - (c + 1)) (by omega) (c + 1) (oNext m (-1) t) H5 rfl (by omega) (oNext_lt hm (by omega) ht6.1 ht6.2) (hle5 _ _ hdb2) (hts2.le hle5) hk5).runs.mono ?_
            rintro _ H6 ⟨rfl, hL6, hk6⟩
            have hof := optF_le ts.length pl (ts.drop (c + 1)) (oNext m (-1) t)
            rw [List.length_drop] at hof
            simp -implicitDefEqProofs (disch := first | omega | (simp only [qd] <;> omega)) only [xq, ↓xp, qc, Nat.reduceAdd, List.range, List.range.loop, fine, Nat.reduceEqDiff, ↓reduceIte, yielded, reduceCtorEq, Nat.reduceLT, Nat.reduceMul, Nat.reduceSub, one, Nat.reduceLeDiff, runX_cons, y17_20]
            refine hK _ _ ?_; clear hK K
            refine wpX_exit ?_
            simp -implicitDefEqProofs (disch := first | omega | (simp only [qd] <;> omega)) only [thn, blk, ↓reduceIte, Nat.reduceEqDiff]
            refine ⟨_, rfl, rfl, rfl, ?_, (hL2.le hle5).trans hL6, hk6, hL6.keeps (hle5 _ _ hdb2) hdm, hL6.keeps (hle5 _ _ hsb2) hsbm⟩
            rw [hopt]
            show Value.int .i64 _ = Value.int .i64 _
            congr 1
            all_goals omega
      · rintro a' H3 ⟨e, rfl, e0, e3, e9, hL3, hk3, hdb3, hsb3⟩
        obtain ⟨es', cl', hm3, hmap3⟩ := hk3
        refine wpX_dst0 6 [(true, 0), (true, 1), (true, 2), (true, 3), (true, 4), (true, 5), (false, 6)] (by kernel_rfl) (by kernel_rfl) (by simp) (by kernel_rfl) ?_; intro K hK
        iterate 6 (apply plan_take rfl rfl rfl; (focus (simp -implicitDefEqProofs (disch := first | omega | (simp only [qd] <;> omega)) only [xq, ↓xp, qc, Nat.reduceAdd, List.range, List.range.loop, fine, Nat.reduceEqDiff, ↓reduceIte, yielded, reduceCtorEq, Nat.reduceLT, Nat.reduceMul, Nat.reduceSub, one, Nat.reduceLeDiff, runX_cons, y17_20, e0, e3, e9, cell_of hdb3, loadA_at hsb3, exists_eq_left', and_true, true_and] <;> (first | exact rfl | exact ⟨rfl, rfl⟩))); simp -implicitDefEqProofs (disch := first | omega | (simp only [qd] <;> omega)) only [act_put, act_put_none])
        refine plan_tail ?_
        simp -implicitDefEqProofs (disch := first | omega | (simp only [qd] <;> omega)) only [xq, ↓xp, qc, Nat.reduceAdd, List.range, List.range.loop, fine, Nat.reduceEqDiff, ↓reduceIte, yielded, reduceCtorEq, Nat.reduceLT, Nat.reduceMul, Nat.reduceSub, one, Nat.reduceLeDiff, runX_cons, y17_20, e9]
        refine mapUpdate_map (P := Tryd.prog) Tryd.underlying91 keySpot (F := fun c m => (optF ts.length pl (ts.drop c.toNat) m.toNat : Nat)) (c : Int) (m : Int) trivial hm3 hmap3 _ _ ?_
        intro es'' cl'' hmap''
        refine hK _ _ ?_; clear hK K
        (refine wpX_stmt ?_; intro K hK; simp -implicitDefEqProofs (disch := first | omega | (simp only [qd] <;> omega)) only [xq, ↓xp, qc, Nat.reduceAdd, List.range, List.range.loop, fine, Nat.reduceEqDiff, ↓reduceIte, yielded, reduceCtorEq, Nat.reduceLT, Nat.reduceMul, Nat.reduceSub, one, Nat.reduceLeDiff, runX_cons, y17_20, e9]; refine hK _ _ ?_; clear hK K)
        (refine wpX_ret ?_; (try simp only [nq, ↓reduceIte, Nat.reduceEqDiff]); rw [bodyX_ret, results_one Tryd.results17 (by decide)]; simp only [upd_get, Nat.reduceEqDiff, ↓reduceIte])
        exact ⟨by trivial, hL3.set, es'', cl'', set_at, hmap''⟩
    · simp only [if_true]
      rw [hv1 hmet]
      (refine wpX_stmt ?_; intro K hK; simp -implicitDefEqProofs (disch := first | omega | (simp only [qd] <;> omega)) only [xq, ↓xp, qc, Nat.reduceAdd, List.range, List.range.loop, fine, Nat.reduceEqDiff, ↓reduceIte, yielded, reduceCtorEq, Nat.reduceLT, Nat.reduceMul, Nat.reduceSub, one, Nat.reduceLeDiff, runX_cons, y17_20]; refine hK _ _ ?_; clear hK K)
      (refine wpX_ret ?_; simp only [thn, blk]; rw [bodyX_ret, results_one Tryd.results17 (by decide)]; simp only [upd_get, Nat.reduceEqDiff, ↓reduceIte])
      exact ⟨by simp, hL0, es, clock, hmb1, hmap⟩
end Go.Proofs.YtiempdpjcddgfaaDoor
end
section
/- More equations: memory read off what is known of it. -/
set_option linter.unusedSimpArgs false
namespace Go.X
open Go
section
variable {P : Program} {main : Bool} {lp : Option Nat} {Q : Exit → Act → Hp → Prop} {a : Act} {H : Hp}

/-- A cell of a block of which this is known. -/
def cellK (q : Option (Bool × Obj)) (o : Nat) : Option Value := match q with
  | some (_, .cells c _ _) => c[o]?
  | _ => none
theorem cell_K {b o : Nat} : H.cell ⟨b, o, none⟩ = cellK (H b) o := by
  unfold Hp.cell cellK
  simp
  rfl
theorem cellK_some {p : Bool} {c : Array Value} {e : TypeId} {f : Nat × Nat} {o : Nat} : cellK (some (p, .cells c e f)) o = c[o]? := rfl
/-- A store into a block of which this is known. -/
def storK (q : Option (Bool × Obj)) (H : Hp) (b o : Nat) (v : Value) (K : Hp → Prop) : Prop := match q with
  | some (true, .cells c e (lo, hi)) => o < c.size ∧ (decide (lo ≤ o) && decide (o < hi)) = false ∧ K (H.set b (.cells (c.setIfInBounds o v) e (lo, hi)))
  | _ => False
theorem stor_K {b o : Nat} {v : Value} {K : Hp → Prop} : stor H b o v K = storK (H b) H b o v K := rfl
theorem storK_some {c : Array Value} {e : TypeId} {b o : Nat} {v : Value} {K : Hp → Prop} : storK (some (true, .cells c e (0, 0))) H b o v K = (o < c.size ∧ K (H.set b (.cells (c.setIfInBounds o v) e (0, 0)))) := by
  simp [storK]
def loadAK (q : Option (Bool × Obj)) (o n : Nat) (K : Value → Prop) : Prop := match q with
  | some (_, .cells c _ _) => o + n ≤ c.size ∧ K (.agg (c.extract o (o + n)))
  | _ => False
theorem loadA_K {b o n : Nat} {K : Value → Prop} : loadA H b o n K = loadAK (H b) o n K := rfl
theorem loadAK_some {p : Bool} {c : Array Value} {e : TypeId} {f : Nat × Nat} {o n : Nat} {K : Value → Prop} : loadAK (some (p, .cells c e f)) o n K = (o + n ≤ c.size ∧ K (.agg (c.extract o (o + n)))) := rfl
def storLK' (q : Option (Bool × Obj)) (H : Hp) (b o : Nat) (vs : List Value) (K : Hp → Prop) : Prop := match q with
  | some (true, .cells c e f) => if f = (0, 0) then (vs.all one) = true ∧ o + vs.length ≤ c.size ∧ K (H.set b (.cells (over c o vs) e (0, 0))) else storL H b o vs K
  | _ => storL H b o vs K
theorem storL_K {b o : Nat} {v : Value} {vs : List Value} {K : Hp → Prop} : storL H b o (v :: vs) K = storLK' (H b) H b o (v :: vs) K := by
  rcases hb : H b with _ | ⟨p, ob⟩
  · rfl
  · cases p
    · rfl
    · cases ob <;> try rfl
      rename_i c e f
      simp only [storLK']
      split
      · rename_i hf; subst hf; rw [storL_of hb]
      · rfl
theorem storLK_some {c : Array Value} {e : TypeId} {b o : Nat} {vs : List Value} {K : Hp → Prop} : storLK' (some (true, .cells c e (0, 0))) H b o vs K = ((vs.all one) = true ∧ o + vs.length ≤ c.size ∧ K (H.set b (.cells (over c o vs) e (0, 0)))) := by
  simp [storLK']
@[congr] theorem storLK_congr {q q' : Option (Bool × Obj)} {H' : Hp} {b o b' o' : Nat} {vs vs' : List Value} {K : Hp → Prop} (hq : q = q') (hH : H = H') (hb : b = b') (ho : o = o') (hv : vs = vs') : storLK' q H b o vs K = storLK' q' H' b' o' vs' K := by subst hq hH hb ho hv; rfl
@[congr] theorem storK_congr {q q' : Option (Bool × Obj)} {H' : Hp} {b o b' o' : Nat} {v v' : Value} {K : Hp → Prop} (hq : q = q') (hH : H = H') (hb : b = b') (ho : o = o') (hv : v = v') : storK q H b o v K = storK q' H' b' o' v' K := by subst hq hH hb ho hv; rfl
@[congr] theorem loadAK_congr {q q' : Option (Bool × Obj)} {o n : Nat} {o' : Nat} {K : Value → Prop} (hq : q = q') (ho : o = o') : loadAK q o n K = loadAK q' o' n K := by subst hq ho; rfl
theorem set_get {b x : Nat} {o : Obj} : (H.set b o) x = if x = b then some (true, o) else H x := rfl
theorem nlt_t {x y : Nat} (h : x < y) : (x < y) = True := by simp [h]
theorem nle_t {x y : Nat} (h : x ≤ y) : (x ≤ y) = True := by simp [h]
theorem dlt_t {x y : Int} (h : x < y) : decide (x < y) = true := decide_eq_true h
theorem dlt_f {x y : Int} (h : y ≤ x) : decide (x < y) = false := decide_eq_false (by omega)
theorem dle_t {x y : Int} (h : x ≤ y) : decide (x ≤ y) = true := decide_eq_true h
theorem dle_f {x y : Int} (h : y < x) : decide (x ≤ y) = false := decide_eq_false (by omega)
theorem beq_t {x y : Int} (h : x = y) : (x == y) = true := by simp [h]
theorem beq_f {x y : Int} (h : x ≠ y) : (x == y) = false := by simp [h]
theorem bne_t {x y : Int} (h : x ≠ y) : (x != y) = true := by simp [h]
theorem bne_f {x y : Int} (h : x = y) : (x != y) = false := by simp [h]
theorem toNat_cast (n : Nat) : ((n : Int)).toNat = n := rfl
theorem thn_n {next : Act → Hp → Prop} : thn next Q .normal a H = next a H := rfl
theorem thn_e {next : Act → Hp → Prop} {i : Nat} : thn next Q (.exit i) a H = Q (.exit i) a H := rfl
theorem thn_g {next : Act → Hp → Prop} {i : Nat} : thn next Q (.goto i) a H = Q (.goto i) a H := rfl
theorem thn_r {next : Act → Hp → Prop} : thn next Q .ret a H = Q .ret a H := rfl
theorem blk_n {id : Nat} : blk id Q .normal a H = Q .normal a H := rfl
theorem blk_e {id i : Nat} : blk id Q (.exit i) a H = if i = id then Q .normal a H else Q (.exit i) a H := rfl
theorem blk_g {id i : Nat} : blk id Q (.goto i) a H = Q (.goto i) a H := rfl
theorem blk_r {id : Nat} : blk id Q .ret a H = Q .ret a H := rfl
/-! ### a region's operations as a list -/
def yl (ds : List (Option Tmp)) (tmps : Array Value) (j : Nat) : Option Bool := match ((ds[j]?).bind id).bind (tmps[·]?) with
  | some (.bool b) => some b
  | _ => none
def ylK (q : Option Value) : Option Bool := match q with
  | some (.bool b) => some b
  | _ => none
def wantL (ds : List (Option Tmp)) (o : Oper) (tmps : Array Value) : Bool := match o.guard with
  | none => true
  | some (j, b) => yl ds tmps j == some b
theorem want_L {ops : Array Oper} {o : Oper} {tmps : Array Value} : Region.wanted o (yielded ops tmps) = wantL (ops.toList.map (·.dst)) o tmps := by
  unfold Region.wanted wantL
  cases o.guard with
  | none => rfl
  | some g =>
    obtain ⟨j, b⟩ := g
    have : yielded ops tmps j = yl (ops.toList.map (·.dst)) tmps j := by
      unfold yielded yl
      simp only [List.getElem?_map, Array.getElem?_toList]
      cases ops[j]? <;> rfl
    simp only [this]
def stepL (P : Program) (main : Bool) (lp : Option Nat) (ds : List (Option Tmp)) (o : Oper) (Q : Exit → Act → Hp → Prop) (K : Act → Hp → Prop) (a : Act) (H : Hp) : Prop :=
  if wantL ds o a.tmps then fine lp o = true ∧ opX P main lp o a H K Q else K (a.put o.dst undef) H
def runL (P : Program) (main : Bool) (lp : Option Nat) (ds : List (Option Tmp)) (Q : Exit → Act → Hp → Prop) : List Oper → Act → Hp → Prop
  | [], a, H => Q .normal a H
  | o :: rest, a, H => stepL P main lp ds o Q (runL P main lp ds Q rest) a H
theorem runL_sound {ops : Array Oper} : ∀ (rest : List Oper) (k : Nat) (a : Act) (H : Hp), ops.toList.drop k = rest → runL P main lp (ops.toList.map (·.dst)) Q rest a H → runX P main lp ops Q (List.range' k rest.length) a H
  | [], _, _, _, _, h => h
  | o :: rest, k, a, H, hd, h => by
    simp only [List.length_cons, List.range'_succ]
    unfold runX numX
    have hk : ops[k]? = some o := by
      have := congrArg (·[0]?) hd
      simpa using this
    rw [hk]
    simp only []
    rw [want_L]
    have hd' : ops.toList.drop (k + 1) = rest := by rw [← List.drop_drop, hd]; rfl
    unfold runL stepL at h
    split
    · rename_i hw
      rw [if_pos hw] at h
      exact ⟨h.1, opX_mono h.2 fun a' H' h' => runL_sound rest (k + 1) a' H' hd' h'⟩
    · rename_i hw
      rw [if_neg hw] at h
      exact runL_sound rest (k + 1) _ _ hd' h
theorem runL_all {ops : List Oper} {ds : List (Option Tmp)} (hds : ops.map (·.dst) = ds) (h : runL P main lp ds Q ops a H) : runX P main lp ops.toArray Q (List.range ops.toArray.size) a H := by
  subst hds
  rw [List.range_eq_range']
  have := runL_sound (ops := ops.toArray) ops 0 a H (by simp) (by simpa using h)
  simpa using this
theorem wpX_stmtL {id : Nat} {ops : List Oper} {ds : List (Option Tmp)} {y : Code} (hds : ops.map (·.dst) = ds) (h : ∀ K : Act → Hp → Prop, (∀ a' H', wpX P main lp y Q a' H' → K a' H') → runL P main lp ds (only K) ops a H) :
    wpX P main lp (.seq (.region id ops.toArray false) y) Q a H := wpX_stmt fun K hK => runL_all hds (h K hK)
theorem wpX_lastL {id : Nat} {ops : List Oper} {ds : List (Option Tmp)} (hds : ops.map (·.dst) = ds) (h : ∀ K : Act → Hp → Prop, (∀ a' H', Q .normal a' H' → K a' H') → runL P main lp ds (only K) ops a H) :
    wpX P main lp (.region id ops.toArray false) Q a H := wpX_last fun K hK => runL_all hds (h K hK)
@[congr] theorem runL_congr {ds : List (Option Tmp)} {l : List Oper} {a a' : Act} {H H' : Hp} (ha : a = a') (hH : H = H') : runL P main lp ds Q l a H = runL P main lp ds Q l a' H' := by subst ha hH; rfl
def gateL (q : Option Bool) (b : Bool) (x y : Prop) : Prop := if q == some b then x else y
@[congr] theorem gateL_congr {q q' : Option Bool} {b b' : Bool} {x y : Prop} (hq : q = q') (hb : b = b') : gateL q b x y = gateL q' b' x y := by subst hq hb; rfl
theorem gateL_tt {x y : Prop} : gateL (some true) true x y = x := rfl
theorem gateL_ff {x y : Prop} : gateL (some false) false x y = x := rfl
theorem gateL_tf {x y : Prop} : gateL (some true) false x y = y := rfl
theorem gateL_ft {x y : Prop} : gateL (some false) true x y = y := rfl
theorem yl_eq {ds : List (Option Tmp)} {tmps : Array Value} {j : Nat} : yl ds tmps j = ylK (((ds[j]?).bind id).bind (tmps[·]?)) := rfl
theorem ylK_bool {b : Bool} : ylK (some (.bool b)) = some b := rfl
theorem id_opt {t : Option Tmp} : id t = t := rfl
theorem wpX_condK {c : Operand} {x y : Code} {t : Bool} (ht : a.eval c = .bool t) (h1 : t = true → wpX P main lp x Q a H) (h2 : t = false → wpX P main lp y Q a H) : wpX P main lp (.cond c x y) Q a H := by
  refine wpX_cond ht ?_
  cases t
  · exact h2 rfl
  · exact h1 rfl
theorem runL_nil {ds : List (Option Tmp)} : runL P main lp ds Q [] a H = Q .normal a H := rfl
theorem runL_one {ds : List (Option Tmp)} {d : Option Tmp} {op : Op} {ty : TypeId} {pos : String} {af : Array Edge} {rest : List Oper} :
    runL P main lp ds Q (⟨d, op, ty, pos, af, none⟩ :: rest) a H = (fine lp ⟨d, op, ty, pos, af, none⟩ = true ∧ opX P main lp ⟨d, op, ty, pos, af, none⟩ a H (runL P main lp ds Q rest) Q) := rfl
theorem runL_g {ds : List (Option Tmp)} {d : Option Tmp} {op : Op} {ty : TypeId} {pos : String} {af : Array Edge} {j : Nat} {b : Bool} {rest : List Oper} :
    runL P main lp ds Q (⟨d, op, ty, pos, af, some (j, b)⟩ :: rest) a H = gateL (yl ds a.tmps j) b (fine lp ⟨d, op, ty, pos, af, some (j, b)⟩ = true ∧ opX P main lp ⟨d, op, ty, pos, af, some (j, b)⟩ a H (runL P main lp ds Q rest) Q) (runL P main lp ds Q rest (a.put d undef) H) := rfl
end
end Go.X
end
section
/- Scopes, gotos, loops over functions. -/
set_option linter.unusedSimpArgs false
namespace Go.X
open Go
open Go.Conc (G base)
section
variable {P : Program} {main : Bool} {lp : Option Nat} {Q : Exit → Act → Hp → Prop} {a : Act} {H : Hp}

/-- What is asked of a scope's body: I tells what holds at a jump to one of its labels. -/
def scp (c : Code) (I : Nat → Act → Hp → Prop) (Q : Exit → Act → Hp → Prop) : Exit → Act → Hp → Prop
  | .normal, a, H => Q .normal a H
  | .exit id, a, H => Q (.exit id) a H
  | .goto l, a, H => if (findLabel c l).isSome then I l a H else Q (.goto l) a H
  | .ret, a, H => Q .ret a H
  | .panic ch, a, H => Q (.panic ch) a H
  | .outgrown, _, _ => False
theorem scp_n {c : Code} {I : Nat → Act → Hp → Prop} : scp c I Q .normal a H = Q .normal a H := rfl
theorem scp_e {c : Code} {I : Nat → Act → Hp → Prop} {i : Nat} : scp c I Q (.exit i) a H = Q (.exit i) a H := rfl
theorem scp_r {c : Code} {I : Nat → Act → Hp → Prop} : scp c I Q .ret a H = Q .ret a H := rfl

/-- A SCOPE: each jump back lowers a measure. -/
theorem wpX_scope {c : Code} (I : Nat → Nat → Act → Hp → Prop) (h : wpX P main lp c (scp c (fun l a H => ∃ n, I l n a H) Q) a H)
    (hr : ∀ l rest n a H, findLabel c l = some rest → I l n a H → wpX P main lp rest (scp c (fun l a H => ∃ n', n' < n ∧ I l n' a H) Q) a H) : wpX P main lp (.scope c) Q a H := by
  intro b k cs Stop hk hl hc
  have key : ∀ n l rest a H, findLabel c l = some rest → I l n a H → WPG P main Stop (G (fat b a (.code rest :: .inScope c :: k)) cs) H := by
    intro n
    induction n using Nat.strongRecOn with
    | _ n ih =>
    intro l rest a H hf hI
    refine hr l rest n a H hf hI b (.inScope c :: k) cs Stop hk hl fun e a' H' q => ?_
    cases e with
    | normal => exact .ctl (g' := G (fat b a' k) cs) rfl (fun w => by simp [G, stepG, stepG.exec, fat]) (hc _ _ _ q)
    | exit id => exact fun k' hk' => hc _ _ _ q k' (hk'.trans (by simp [exitTo]))
    | goto l' =>
      simp only [scp] at q
      split at q
      · rename_i hs
        obtain ⟨n', hlt, hI'⟩ := q
        obtain ⟨rest', hf'⟩ := Option.isSome_iff_exists.1 hs
        intro k' hk'
        have hx : gotoIn l' k' = some (.code rest' :: .inScope c :: k) := hk'.trans (by simp [gotoIn, hf'])
        exact .ctl (g' := G (fat b a' (.code rest' :: .inScope c :: k)) cs) rfl (fun w => by simp [G, stepG, stepG.exec, fat, hx]) (ih n' hlt l' rest' a' H' hf' hI')
      · rename_i hs
        have hn : findLabel c l' = none := by simpa using hs
        exact fun k' hk' => hc _ _ _ q k' (hk'.trans (by simp [gotoIn, hn]))
    | ret => exact hc _ _ _ q
    | panic ch => exact hc _ _ _ q
    | outgrown => exact q.elim
  refine .ctl (g' := G (fat b a (.code c :: .inScope c :: k)) cs) rfl (fun w => by simp [G, stepG, stepG.exec, fat]) ?_
  refine h b (.inScope c :: k) cs Stop hk hl fun e a' H' q => ?_
  cases e with
  | normal => exact .ctl (g' := G (fat b a' k) cs) rfl (fun w => by simp [G, stepG, stepG.exec, fat]) (hc _ _ _ q)
  | exit id => exact fun k' hk' => hc _ _ _ q k' (hk'.trans (by simp [exitTo]))
  | goto l' =>
    simp only [scp] at q
    split at q
    · rename_i hs
      obtain ⟨n', hI'⟩ := q
      obtain ⟨rest', hf'⟩ := Option.isSome_iff_exists.1 hs
      intro k' hk'
      have hx : gotoIn l' k' = some (.code rest' :: .inScope c :: k) := hk'.trans (by simp [gotoIn, hf'])
      exact .ctl (g' := G (fat b a' (.code rest' :: .inScope c :: k)) cs) rfl (fun w => by simp [G, stepG, stepG.exec, fat, hx]) (key n' l' rest' a' H' hf' hI')
    · rename_i hs
      have hn : findLabel c l' = none := by simpa using hs
      exact fun k' hk' => hc _ _ _ q k' (hk'.trans (by simp [gotoIn, hn]))
  | ret => exact hc _ _ _ q
  | panic ch => exact hc _ _ _ q
  | outgrown => exact q.elim

/-- A scope to whose labels nothing jumps. -/
def scp0 (Q : Exit → Act → Hp → Prop) : Exit → Act → Hp → Prop
  | .normal, a, H => Q .normal a H
  | .exit id, a, H => Q (.exit id) a H
  | .goto _, _, _ => False
  | .ret, a, H => Q .ret a H
  | .panic ch, a, H => Q (.panic ch) a H
  | .outgrown, _, _ => False
theorem scp0_n : scp0 Q .normal a H = Q .normal a H := rfl
theorem scp0_e {i : Nat} : scp0 Q (.exit i) a H = Q (.exit i) a H := rfl
theorem scp0_r : scp0 Q .ret a H = Q .ret a H := rfl
theorem wpX_scope0 {c : Code} (h : wpX P main lp c (scp0 Q) a H) : wpX P main lp (.scope c) Q a H := by
  refine wpX_scope (fun _ _ _ _ => False) (wpX_mono h fun e a H q => ?_) fun _ _ _ _ _ _ h => h.elim
  cases e <;> first | exact q | exact q.elim
end
set_option linter.defProp false
def aq := And.intro @runL_nil (And.intro @gateL_tt (And.intro @gateL_ff (And.intro @gateL_tf (And.intro @gateL_ft (And.intro @yl_eq (And.intro @ylK_bool (And.intro @id_opt (And.intro @cell_K (And.intro @cellK_some (And.intro @stor_K (And.intro @storK_some (And.intro @loadA_K (And.intro @loadAK_some (And.intro @storL_nil (And.intro @storL_K (And.intro @storLK_some (And.intro @set_set (And.intro @set_get (And.intro @toNat_cast (And.intro @Nat.mul_one (And.intro @true_and (And.intro @and_true (And.intro @decide_true (And.intro @decide_false (And.intro @nlt_t (And.intro @nle_t (And.intro @dlt_t (And.intro @dlt_f (And.intro @dle_t (And.intro @dle_f (And.intro @beq_t (And.intro @beq_f (And.intro @bne_t (And.intro @bne_f (And.intro @Bool.not_true @Bool.not_false)))))))))))))))))))))))))))))))))))
def ap := And.intro @runL_one @runL_g
def qe0 := @exists_eq_left'
def qe1 := @if_true
def qe2 := @if_false
def qe3 := @beq_iff_eq
def qe4 := @beq_eq_false_iff_ne
def qe5 := @bne_iff_ne
def qe6 := @bne_eq_false_iff_eq
def bq := And.intro @dlt_t (And.intro @dlt_f (And.intro @dle_t (And.intro @dle_f (And.intro @beq_t (And.intro @beq_f (And.intro @bne_t (And.intro @bne_f (And.intro @decide_true (And.intro @decide_false (And.intro @Bool.not_true (And.intro @Bool.not_false (And.intro @Bool.false_eq_true (And.intro @Bool.and_self (And.intro @Bool.and_true (And.intro @Bool.and_false (And.intro @Bool.true_and @Bool.false_and))))))))))))))))
def dq := And.intro @decide_eq_true_eq (And.intro @decide_eq_false_iff_not (And.intro @Bool.not_eq_true' (And.intro @Bool.not_eq_false' (And.intro @Int.not_lt @Int.not_le))))
def nq := And.intro @scp_n (And.intro @scp_e (And.intro @scp_r (And.intro @scp0_n (And.intro @scp0_e (And.intro @scp0_r (And.intro @thn_n (And.intro @thn_e (And.intro @thn_g (And.intro @thn_r (And.intro @blk_n (And.intro @blk_e (And.intro @blk_g @blk_r))))))))))))
end Go.X
end
section
/- Valid vaults and truths pass. -/
set_option linter.unusedSimpArgs false
set_option maxRecDepth 100000
set_option maxHeartbeats 1000000
set_option linter.unusedVariables false
namespace Go.Proofs.YtiempdpjcddgfaaDoor
open Go Go.X
set_option linter.defProp false
def y29_23 := And.intro (fun H => fieldAt_eq (H := H) Tryd.underlying25 (i := 0) rfl (off := 0) rfl Tryd.sizeOf3) (And.intro (fun H => loadAt_one (H := H) Tryd.underlying3 rfl) (And.intro @callF50 (And.intro (fun H => fieldAt_eq (H := H) Tryd.underlying25 (i := 1) rfl (off := 1) rfl Tryd.sizeOf3) (And.intro (fun H => fieldAt_eq (H := H) Tryd.underlying25 (i := 2) rfl (off := 2) rfl Tryd.sizeOf22) (And.intro (fun H => loadAt_one (H := H) Tryd.underlying22 rfl) (And.intro (fun H => len_slice (H := H) Tryd.underlying22) (And.intro (fun H => indexAt_slice (H := H) Tryd.underlying22 Tryd.sizeOf3) (And.intro @callF51 (And.intro @callF52 (And.intro (fun H => fieldAt_eq (H := H) Tryd.underlying25 (i := 3) rfl (off := 3) rfl Tryd.sizeOf23) (And.intro (fun H => loadAt_one (H := H) Tryd.underlying23 rfl) (And.intro (fun H => len_slice (H := H) Tryd.underlying23) (fun H => indexAt_slice (H := H) Tryd.underlying23 Tryd.sizeOf22)))))))))))))

theorem outside_spec (m : Bool) (H : Hp) (n lo hi : Int) :
    FnX Tryd.prog m 50 #[.int .i64 n, .int .i64 lo, .int .i64 hi] H fun e H' => e = .returned (.bool (decide (n < lo) || decide (hi < n))) ∧ H' = H := by
  refine FnX_start Tryd.func50 rfl Tryd.ntmps50 (by simp) ?_
  by_cases h : n < lo
  · (refine wpX_stmt ?_; intro K hK; simp -implicitDefEqProofs (disch := first | omega | (simp only [qd] <;> omega)) only [xq, ↓xp, qc, Nat.reduceAdd, List.range, List.range.loop, fine, Nat.reduceEqDiff, ↓reduceIte, yielded, reduceCtorEq, Nat.reduceLT, Nat.reduceMul, Nat.reduceSub, one, Nat.reduceLeDiff, runX_cons]; refine hK _ _ ?_; clear hK K)
    (refine wpX_stmt ?_; intro K hK; simp -implicitDefEqProofs (disch := first | omega | (simp only [qd] <;> omega)) only [xq, ↓xp, qc, Nat.reduceAdd, List.range, List.range.loop, fine, Nat.reduceEqDiff, ↓reduceIte, yielded, reduceCtorEq, Nat.reduceLT, Nat.reduceMul, Nat.reduceSub, one, Nat.reduceLeDiff, runX_cons, decide_eq_true h]; refine hK _ _ ?_; clear hK K)
    (refine wpX_ret ?_; (try simp only [nq, ↓reduceIte, Nat.reduceEqDiff]); rw [bodyX_ret, results_one Tryd.results50 (by decide)]; simp only [upd_get, Nat.reduceEqDiff, ↓reduceIte])
    simp [h]
  · (refine wpX_stmt ?_; intro K hK; simp -implicitDefEqProofs (disch := first | omega | (simp only [qd] <;> omega)) only [xq, ↓xp, qc, Nat.reduceAdd, List.range, List.range.loop, fine, Nat.reduceEqDiff, ↓reduceIte, yielded, reduceCtorEq, Nat.reduceLT, Nat.reduceMul, Nat.reduceSub, one, Nat.reduceLeDiff, runX_cons]; refine hK _ _ ?_; clear hK K)
    (refine wpX_stmt ?_; intro K hK; simp -implicitDefEqProofs (disch := first | omega | (simp only [qd] <;> omega)) only [xq, ↓xp, qc, Nat.reduceAdd, List.range, List.range.loop, fine, Nat.reduceEqDiff, ↓reduceIte, yielded, reduceCtorEq, Nat.reduceLT, Nat.reduceMul, Nat.reduceSub, one, Nat.reduceLeDiff, runX_cons, decide_eq_false h]; refine hK _ _ ?_; clear hK K)
    (refine wpX_ret ?_; (try simp only [nq, ↓reduceIte, Nat.reduceEqDiff]); rw [bodyX_ret, results_one Tryd.results50 (by decide)]; simp only [upd_get, Nat.reduceEqDiff, ↓reduceIte])
    simp [h]
theorem inside_spec (m : Bool) (H : Hp) (n lo hi : Int) (h0 : lo ≤ n) (h1 : n ≤ hi) :
    FnX Tryd.prog m 50 #[.int .i64 n, .int .i64 lo, .int .i64 hi] H fun e H' => e = .returned (.bool false) ∧ H' = H :=
  (outside_spec m H n lo hi).mono fun e H' ⟨he, hH⟩ => ⟨by rw [he, decide_eq_false (by omega), decide_eq_false (by omega)]; rfl, hH⟩

theorem oWith_testBit (m n k : Nat) : (oWith m n).testBit k = (m.testBit k || decide (n = k)) := by
  unfold oWith
  rw [Nat.testBit_or, Nat.testBit_two_pow]
theorem foldl_testBit : ∀ (xs : List Int) (m : Nat), (∀ x ∈ xs, 0 ≤ x) → ∀ y : Int, 0 ≤ y → (xs.foldl (fun m x => oWith m x.toNat) m).testBit y.toNat = (m.testBit y.toNat || decide (y ∈ xs))
  | [], m, _, y, _ => by simp
  | x :: xs, m, h, y, hy => by
    rw [List.foldl_cons, foldl_testBit xs _ (fun z hz => h z (List.mem_cons_of_mem _ hz)) y hy, oWith_testBit, Bool.or_assoc]
    congr 1
    have hx := h x List.mem_cons_self
    have : decide (x.toNat = y.toNat) = decide (y = x) := by
      by_cases e : y = x
      · subst e; simp
      · rw [decide_eq_false e, decide_eq_false (by omega)]
    rw [this, ← Bool.decide_or]
    simp [List.mem_cons]
theorem oOf_testBit (xs : List Int) (h : ∀ x ∈ xs, 0 ≤ x) (y : Int) (hy : 0 ≤ y) : (oOf xs).testBit y.toNat = decide (y ∈ xs) := by
  unfold oOf
  rw [foldl_testBit xs 0 h y hy]
  simp

theorem check_spec (main : Bool) (H : Hp) (places pieces : Int) (sv cv : Value) (start : List Int) (xss : List (List Int)) (hsv : SlI H sv start) (hcv : SlR H cv xss) (hok : VaultOk places pieces start xss) (hx8 : xss.length ≤ 8) :
    FnX Tryd.prog main 29 #[.agg #[.int .i64 places, .int .i64 pieces, sv, cv]] H fun e H' => e = .returned (.int .i64 0) ∧ H.le H' := by
  obtain ⟨hp1, hp4, hq1, hq6, hsl, hsd, hsb, hcs⟩ := hok
  have hsvS := hsv
  have hcvS := hcv
  obtain ⟨sa, sc, rfl, hsc, _⟩ := hsv
  obtain ⟨ca, cc, rfl, hcc, _⟩ := hcv
  refine FnX_start Tryd.func29 rfl Tryd.ntmps29 (by simp) ?_
  (refine wpX_stmt ?_; intro K hK; simp -implicitDefEqProofs (disch := first | omega | (simp only [qd] <;> omega)) only [xq, ↓xp, qc, Nat.reduceAdd, List.range, List.range.loop, fine, Nat.reduceEqDiff, ↓reduceIte, yielded, reduceCtorEq, Nat.reduceLT, Nat.reduceMul, Nat.reduceSub, one, Nat.reduceLeDiff, runX_cons, y29_23])
  intro vb hvb
  refine hK _ _ ?_; clear hK K
  have hle := Hp.le_set hvb (o := .cells #[.int .i64 places, .int .i64 pieces, .slice sa start.length sc, .slice ca xss.length cc] 25 (0, 0))
  have hvb1 : (H.set vb (.cells #[.int .i64 places, .int .i64 pieces, .slice sa start.length sc, .slice ca xss.length cc] 25 (0, 0))) vb = _ := set_at
  have hsv1 := hsvS.le hle
  have hcv1 := hcvS.le hle
  generalize H.set vb (.cells #[.int .i64 places, .int .i64 pieces, .slice sa start.length sc, .slice ca xss.length cc] 25 (0, 0)) = H1 at *
  refine wpX_seq ?_
  (refine wpX_stmt ?_; intro K hK; simp -implicitDefEqProofs (disch := first | omega | (simp only [qd] <;> omega)) only [xq, ↓xp, qc, Nat.reduceAdd, List.range, List.range.loop, fine, Nat.reduceEqDiff, ↓reduceIte, yielded, reduceCtorEq, Nat.reduceLT, Nat.reduceMul, Nat.reduceSub, one, Nat.reduceLeDiff, runX_cons, y29_23, cell_of hvb1, exists_eq_left'])
  refine (inside_spec main _ places 1 4 hp1 hp4).runs.mono ?_
  rintro _ H2 ⟨rfl, hh⟩
  rw [hh]; clear hh H2
  simp -implicitDefEqProofs (disch := first | omega | (simp only [qd] <;> omega)) only [xq, ↓xp, qc, Nat.reduceAdd, List.range, List.range.loop, fine, Nat.reduceEqDiff, ↓reduceIte, yielded, reduceCtorEq, Nat.reduceLT, Nat.reduceMul, Nat.reduceSub, one, Nat.reduceLeDiff, runX_cons, y29_23, cell_of hvb1, exists_eq_left']
  refine (inside_spec main _ pieces 1 6 hq1 hq6).runs.mono ?_
  rintro _ H2 ⟨rfl, hh⟩
  rw [hh]; clear hh H2
  simp -implicitDefEqProofs (disch := first | omega | (simp only [qd] <;> omega)) only [xq, ↓xp, qc, Nat.reduceAdd, List.range, List.range.loop, fine, Nat.reduceEqDiff, ↓reduceIte, yielded, reduceCtorEq, Nat.reduceLT, Nat.reduceMul, Nat.reduceSub, one, Nat.reduceLeDiff, runX_cons, y29_23, cell_of hvb1, exists_eq_left']
  refine hK _ _ ?_; clear hK K
  (refine wpX_cond (by simp -implicitDefEqProofs (disch := first | omega | (simp only [qd] <;> omega)) only [act_eval, upd_get, Nat.reduceEqDiff, ↓reduceIte]; rfl) ?_; simp only [Bool.false_eq_true, if_false]; refine wpX_skip ?_)
  simp -implicitDefEqProofs (disch := first | omega | (simp only [qd] <;> omega)) only [thn, blk, ↓reduceIte, Nat.reduceEqDiff]
  refine wpX_seq ?_
  (refine wpX_stmt ?_; intro K hK; simp -implicitDefEqProofs (disch := first | omega | (simp only [qd] <;> omega)) only [xq, ↓xp, qc, Nat.reduceAdd, List.range, List.range.loop, fine, Nat.reduceEqDiff, ↓reduceIte, yielded, reduceCtorEq, Nat.reduceLT, Nat.reduceMul, Nat.reduceSub, one, Nat.reduceLeDiff, runX_cons, y29_23, cell_of hvb1, exists_eq_left']; refine hK _ _ ?_; clear hK K)
  have hgt : decide (places < (start.length : Int)) = false := decide_eq_false (by omega)
  (refine wpX_cond (by simp -implicitDefEqProofs (disch := first | omega | (simp only [qd] <;> omega)) only [act_eval, upd_get, Nat.reduceEqDiff, ↓reduceIte]; rfl) ?_; simp only [hgt, Bool.false_eq_true, if_false]; refine wpX_skip ?_)
  simp -implicitDefEqProofs (disch := first | omega | (simp only [qd] <;> omega)) only [thn, blk, ↓reduceIte, Nat.reduceEqDiff]
  (refine wpX_stmt ?_; intro K hK; simp -implicitDefEqProofs (disch := first | omega | (simp only [qd] <;> omega)) only [xq, ↓xp, qc, Nat.reduceAdd, List.range, List.range.loop, fine, Nat.reduceEqDiff, ↓reduceIte, yielded, reduceCtorEq, Nat.reduceLT, Nat.reduceMul, Nat.reduceSub, one, Nat.reduceLeDiff, runX_cons, y29_23]; refine hK _ _ ?_; clear hK K)
  refine wpX_cut (fun a' H' => ∃ e, a' = act 82 e [] ∧ e 1 = .pointer (some ⟨vb, 0, none⟩) ∧ H' = H1) ?_ ?_
  · (refine wpX_stmt ?_; intro K hK; simp -implicitDefEqProofs (disch := first | omega | (simp only [qd] <;> omega)) only [xq, ↓xp, qc, Nat.reduceAdd, List.range, List.range.loop, fine, Nat.reduceEqDiff, ↓reduceIte, yielded, reduceCtorEq, Nat.reduceLT, Nat.reduceMul, Nat.reduceSub, one, Nat.reduceLeDiff, runX_cons, y29_23, cell_of hvb1, exists_eq_left']; refine hK _ _ ?_; clear hK K)
    refine wpX_block (wpX_loop (fun w a' H' => ∃ e j, w = start.length - j ∧ j ≤ start.length ∧ a' = act 82 e [] ∧ e 1 = .pointer (some ⟨vb, 0, none⟩) ∧ e 3 = .int .u8 (oOf (start.take j) : Nat) ∧ e 25 = .slice sa start.length sc ∧ e 26 = .int .i64 start.length ∧ e 27 = .int .i64 (j : Nat) ∧ H' = H1) (n := start.length) ?_ ?_)
    · exact ⟨_, 0, by omega, by omega, rfl, rfl, rfl, rfl, rfl, rfl, rfl⟩
    · rintro w a' H' ⟨e, j, rfl, hj, rfl, e1, e3, e25, e26, e27, hH⟩
      rw [hH]
      (refine wpX_stmt ?_; intro K hK; simp -implicitDefEqProofs (disch := first | omega | (simp only [qd] <;> omega)) only [xq, ↓xp, qc, Nat.reduceAdd, List.range, List.range.loop, fine, Nat.reduceEqDiff, ↓reduceIte, yielded, reduceCtorEq, Nat.reduceLT, Nat.reduceMul, Nat.reduceSub, one, Nat.reduceLeDiff, runX_cons, y29_23, e26, e27]; refine hK _ _ ?_; clear hK K)
      refine wpX_seq ?_
      refine wpX_cond (by simp -implicitDefEqProofs (disch := first | omega | (simp only [qd] <;> omega)) only [act_eval, upd_get, Nat.reduceEqDiff, ↓reduceIte]; rfl) ?_
      by_cases hlt : j < start.length
      · simp only [Int.ofNat_lt, hlt, decide_true, if_true]
        refine wpX_skip (wpX_seq (wpX_block ?_))
        obtain ⟨_, _, hve, _, hsx⟩ := id hsv1
        cases hve
        obtain ⟨b, o, p, c, fr, rfl, hb, hx⟩ := hsx j start[j] (List.getElem?_eq_getElem hlt)
        have hx' : c[o + (j : Int).toNat * 1]? = some (.int .i64 start[j]) := by simpa using hx
        have hxb := hsb _ (List.getElem_mem hlt)
        have htake : start.take (j + 1) = start.take j ++ [start[j]] := by rw [List.take_add_one, List.getElem?_eq_getElem hlt]; rfl
        have hnew : (oOf (start.take j)).testBit (start[j]).toNat = false := by
          rw [oOf_testBit _ (fun y hy => (hsb y (List.mem_of_mem_take hy)).1) _ hxb.1]
          simp only [decide_eq_false_iff_not]
          intro hmem
          obtain ⟨i, hi, he⟩ := List.getElem_of_mem hmem
          rw [List.getElem_take] at he
          rw [List.length_take] at hi
          have := (List.nodup_iff_pairwise_ne.1 hsd |> List.pairwise_iff_getElem.1) i j (by omega) hlt (by omega)
          exact this he
        have hm64 : oOf (start.take j) < 64 := oOf_lt _ 0 (by omega) fun x h => by have := hsb x (List.mem_of_mem_take h); omega
        generalize start[j] = x at hx hx' hxb htake hnew
        (refine wpX_stmt ?_; intro K hK; simp -implicitDefEqProofs (disch := first | omega | (simp only [qd] <;> omega)) only [xq, ↓xp, qc, Nat.reduceAdd, List.range, List.range.loop, fine, Nat.reduceEqDiff, ↓reduceIte, yielded, reduceCtorEq, Nat.reduceLT, Nat.reduceMul, Nat.reduceSub, one, Nat.reduceLeDiff, runX_cons, y29_23, e25, e27, cell_of hb, hx', exists_eq_left']; refine hK _ _ ?_; clear hK K)
        refine wpX_seq ?_
        (refine wpX_stmt ?_; intro K hK; simp -implicitDefEqProofs (disch := first | omega | (simp only [qd] <;> omega)) only [xq, ↓xp, qc, Nat.reduceAdd, List.range, List.range.loop, fine, Nat.reduceEqDiff, ↓reduceIte, yielded, reduceCtorEq, Nat.reduceLT, Nat.reduceMul, Nat.reduceSub, one, Nat.reduceLeDiff, runX_cons, y29_23, e1, cell_of hvb1, exists_eq_left'])
        refine (inside_spec main H1 x 0 (pieces - 1) hxb.1 (by omega)).runs.mono ?_
        rintro _ H2 ⟨rfl, hh⟩
        rw [hh]; clear hh H2
        simp -implicitDefEqProofs (disch := first | omega | (simp only [qd] <;> omega)) only [xq, ↓xp, qc, Nat.reduceAdd, List.range, List.range.loop, fine, Nat.reduceEqDiff, ↓reduceIte, yielded, reduceCtorEq, Nat.reduceLT, Nat.reduceMul, Nat.reduceSub, one, Nat.reduceLeDiff, runX_cons, y29_23]
        refine hK _ _ ?_; clear hK K
        (refine wpX_cond (by simp -implicitDefEqProofs (disch := first | omega | (simp only [qd] <;> omega)) only [act_eval, upd_get, Nat.reduceEqDiff, ↓reduceIte]; rfl) ?_; simp only [Bool.false_eq_true, if_false]; refine wpX_skip ?_)
        simp -implicitDefEqProofs (disch := first | omega | (simp only [qd] <;> omega)) only [thn, blk, ↓reduceIte, Nat.reduceEqDiff]
        refine wpX_seq ?_
        (refine wpX_stmt ?_; intro K hK; simp -implicitDefEqProofs (disch := first | omega | (simp only [qd] <;> omega)) only [xq, ↓xp, qc, Nat.reduceAdd, List.range, List.range.loop, fine, Nat.reduceEqDiff, ↓reduceIte, yielded, reduceCtorEq, Nat.reduceLT, Nat.reduceMul, Nat.reduceSub, one, Nat.reduceLeDiff, runX_cons, y29_23, e3])
        refine (has_spec main H1 _ x hm64 hxb.1 (by omega)).runs.mono ?_
        rintro _ H2 ⟨rfl, hh⟩
        rw [hh, hnew]; clear hh H2
        simp -implicitDefEqProofs (disch := first | omega | (simp only [qd] <;> omega)) only [xq, ↓xp, qc, Nat.reduceAdd, List.range, List.range.loop, fine, Nat.reduceEqDiff, ↓reduceIte, yielded, reduceCtorEq, Nat.reduceLT, Nat.reduceMul, Nat.reduceSub, one, Nat.reduceLeDiff, runX_cons, y29_23]
        refine hK _ _ ?_; clear hK K
        (refine wpX_cond (by simp -implicitDefEqProofs (disch := first | omega | (simp only [qd] <;> omega)) only [act_eval, upd_get, Nat.reduceEqDiff, ↓reduceIte]; rfl) ?_; simp only [Bool.false_eq_true, if_false]; refine wpX_skip ?_)
        simp -implicitDefEqProofs (disch := first | omega | (simp only [qd] <;> omega)) only [thn, blk, ↓reduceIte, Nat.reduceEqDiff]
        refine wpX_last ?_; intro K hK
        simp -implicitDefEqProofs (disch := first | omega | (simp only [qd] <;> omega)) only [xq, ↓xp, qc, Nat.reduceAdd, List.range, List.range.loop, fine, Nat.reduceEqDiff, ↓reduceIte, yielded, reduceCtorEq, Nat.reduceLT, Nat.reduceMul, Nat.reduceSub, one, Nat.reduceLeDiff, runX_cons, y29_23, e3]
        refine (with_spec main H1 _ x hm64 hxb.1 (by omega)).runs.mono ?_
        rintro _ H2 ⟨rfl, hh⟩
        rw [hh]; clear hh H2
        simp -implicitDefEqProofs (disch := first | omega | (simp only [qd] <;> omega)) only [xq, ↓xp, qc, Nat.reduceAdd, List.range, List.range.loop, fine, Nat.reduceEqDiff, ↓reduceIte, yielded, reduceCtorEq, Nat.reduceLT, Nat.reduceMul, Nat.reduceSub, one, Nat.reduceLeDiff, runX_cons, y29_23]
        refine hK _ _ ?_; clear hK K
        simp -implicitDefEqProofs (disch := first | omega | (simp only [qd] <;> omega)) only [thn, blk, ↓reduceIte, Nat.reduceEqDiff]
        (refine wpX_last ?_; intro K hK; simp -implicitDefEqProofs (disch := first | omega | (simp only [qd] <;> omega)) only [xq, ↓xp, qc, Nat.reduceAdd, List.range, List.range.loop, fine, Nat.reduceEqDiff, ↓reduceIte, yielded, reduceCtorEq, Nat.reduceLT, Nat.reduceMul, Nat.reduceSub, one, Nat.reduceLeDiff, runX_cons, y29_23, e27]; refine hK _ _ ?_; clear hK K)
        simp -implicitDefEqProofs (disch := first | omega | (simp only [qd] <;> omega)) only [thn, blk, ↓reduceIte, Nat.reduceEqDiff]
        refine ⟨_, ?_, _, j + 1, rfl, hlt, rfl, e1, ?_, e25, e26, rfl, by trivial⟩
        · omega
        · show Value.int .u8 _ = _
          rw [htake]
          unfold oOf
          rw [List.foldl_append]
          rfl
      · simp only [Int.ofNat_lt, hlt, decide_false, Bool.false_eq_true, if_false]
        (refine wpX_exit ?_; simp only [thn, blk, ↓reduceIte, Nat.reduceEqDiff])
        exact ⟨_, rfl, e1, by trivial⟩
  · rintro a' H' ⟨e, rfl, e1, hH0⟩
    rw [hH0]; clear hH0 H'
    refine wpX_seq ?_
    (refine wpX_stmt ?_; intro K hK; simp -implicitDefEqProofs (disch := first | omega | (simp only [qd] <;> omega)) only [xq, ↓xp, qc, Nat.reduceAdd, List.range, List.range.loop, fine, Nat.reduceEqDiff, ↓reduceIte, yielded, reduceCtorEq, Nat.reduceLT, Nat.reduceMul, Nat.reduceSub, one, Nat.reduceLeDiff, runX_cons, y29_23, e1, cell_of hvb1, exists_eq_left']; refine hK _ _ ?_; clear hK K)
    have hgt8 : decide ((8 : Int) < (xss.length : Int)) = false := decide_eq_false (by omega)
    (refine wpX_cond (by simp -implicitDefEqProofs (disch := first | omega | (simp only [qd] <;> omega)) only [act_eval, upd_get, Nat.reduceEqDiff, ↓reduceIte]; rfl) ?_; simp only [hgt8, Bool.false_eq_true, if_false]; refine wpX_skip ?_)
    simp -implicitDefEqProofs (disch := first | omega | (simp only [qd] <;> omega)) only [thn, blk, ↓reduceIte, Nat.reduceEqDiff]
    refine wpX_seq ?_
    (refine wpX_stmt ?_; intro K hK; simp -implicitDefEqProofs (disch := first | omega | (simp only [qd] <;> omega)) only [xq, ↓xp, qc, Nat.reduceAdd, List.range, List.range.loop, fine, Nat.reduceEqDiff, ↓reduceIte, yielded, reduceCtorEq, Nat.reduceLT, Nat.reduceMul, Nat.reduceSub, one, Nat.reduceLeDiff, runX_cons, y29_23, e1, cell_of hvb1, exists_eq_left']; refine hK _ _ ?_; clear hK K)
    refine wpX_block (wpX_loop (fun w a' H' => ∃ e i, w = xss.length - i ∧ i ≤ xss.length ∧ a' = act 82 e [] ∧ e 1 = .pointer (some ⟨vb, 0, none⟩) ∧ e 48 = .slice ca xss.length cc ∧ e 49 = .int .i64 xss.length ∧ e 50 = .int .i64 (i : Nat) ∧ H' = H1) (n := xss.length) ?_ ?_)
    · exact ⟨_, 0, by omega, by omega, rfl, e1, rfl, rfl, rfl, by trivial⟩
    · rintro w a' H' ⟨e, i, rfl, hi, rfl, e1, e48, e49, e50, hH⟩
      rw [hH]
      (refine wpX_stmt ?_; intro K hK; simp -implicitDefEqProofs (disch := first | omega | (simp only [qd] <;> omega)) only [xq, ↓xp, qc, Nat.reduceAdd, List.range, List.range.loop, fine, Nat.reduceEqDiff, ↓reduceIte, yielded, reduceCtorEq, Nat.reduceLT, Nat.reduceMul, Nat.reduceSub, one, Nat.reduceLeDiff, runX_cons, y29_23, e49, e50]; refine hK _ _ ?_; clear hK K)
      refine wpX_seq ?_
      refine wpX_cond (by simp -implicitDefEqProofs (disch := first | omega | (simp only [qd] <;> omega)) only [act_eval, upd_get, Nat.reduceEqDiff, ↓reduceIte]; rfl) ?_
      by_cases hlt : i < xss.length
      · simp only [Int.ofNat_lt, hlt, decide_true, if_true]
        refine wpX_skip (wpX_seq (wpX_block ?_))
        obtain ⟨_, _, hve, _, hsx⟩ := id hcv1
        cases hve
        obtain ⟨b, o, p, c, fr, rw', rfl, hb, hx, hrow⟩ := hsx i xss[i] (List.getElem?_eq_getElem hlt)
        have hx' : c[o + (i : Int).toNat * 1]? = some rw' := by simpa using hx
        have hco := hcs _ (List.getElem_mem hlt)
        generalize xss[i] = xs at hx hx' hco hrow
        have hxl := hco.len
        obtain ⟨hne, hasc, hxb⟩ := hco
        obtain ⟨ra, rc, rfl, hrc, hrx⟩ := hrow
        have hpos : 0 < xs.length := List.length_pos_iff.2 hne
        (refine wpX_stmt ?_; intro K hK; simp -implicitDefEqProofs (disch := first | omega | (simp only [qd] <;> omega)) only [xq, ↓xp, qc, Nat.reduceAdd, List.range, List.range.loop, fine, Nat.reduceEqDiff, ↓reduceIte, yielded, reduceCtorEq, Nat.reduceLT, Nat.reduceMul, Nat.reduceSub, one, Nat.reduceLeDiff, runX_cons, y29_23, e48, e50, cell_of hb, hx', exists_eq_left']; refine hK _ _ ?_; clear hK K)
        refine wpX_seq ?_
        (refine wpX_stmt ?_; intro K hK; simp -implicitDefEqProofs (disch := first | omega | (simp only [qd] <;> omega)) only [xq, ↓xp, qc, Nat.reduceAdd, List.range, List.range.loop, fine, Nat.reduceEqDiff, ↓reduceIte, yielded, reduceCtorEq, Nat.reduceLT, Nat.reduceMul, Nat.reduceSub, one, Nat.reduceLeDiff, runX_cons, y29_23]; refine hK _ _ ?_; clear hK K)
        have hl0 : ((xs.length : Int) == 0) = false := by simp; omega
        (refine wpX_cond (by simp -implicitDefEqProofs (disch := first | omega | (simp only [qd] <;> omega)) only [act_eval, upd_get, Nat.reduceEqDiff, ↓reduceIte]; rfl) ?_; simp only [hl0, Bool.false_eq_true, if_false]; refine wpX_skip ?_)
        simp -implicitDefEqProofs (disch := first | omega | (simp only [qd] <;> omega)) only [thn, blk, ↓reduceIte, Nat.reduceEqDiff]
        (refine wpX_stmt ?_; intro K hK; simp -implicitDefEqProofs (disch := first | omega | (simp only [qd] <;> omega)) only [xq, ↓xp, qc, Nat.reduceAdd, List.range, List.range.loop, fine, Nat.reduceEqDiff, ↓reduceIte, yielded, reduceCtorEq, Nat.reduceLT, Nat.reduceMul, Nat.reduceSub, one, Nat.reduceLeDiff, runX_cons, y29_23]; refine hK _ _ ?_; clear hK K)
        refine wpX_block (wpX_loop (fun w a' H' => ∃ e k, w = xs.length - k ∧ k ≤ xs.length ∧ a' = act 82 e [] ∧ e 1 = .pointer (some ⟨vb, 0, none⟩) ∧ e 7 = .slice ra xs.length rc ∧ e 48 = .slice (some ⟨b, o, none⟩) xss.length cc ∧ e 49 = .int .i64 xss.length ∧ e 50 = .int .i64 (i : Nat) ∧
          e 57 = .slice ra xs.length rc ∧ e 58 = .int .i64 xs.length ∧ e 59 = .int .i64 (k : Nat) ∧ H' = H1) (n := xs.length) ?_ ?_)
        · exact ⟨_, 0, by omega, by omega, rfl, e1, rfl, e48, e49, e50, rfl, rfl, rfl, by trivial⟩
        · rintro w a' H' ⟨e, k, rfl, hk, rfl, e1, e7, e48, e49, e50, e57, e58, e59, hH⟩
          rw [hH]
          (refine wpX_stmt ?_; intro K hK; simp -implicitDefEqProofs (disch := first | omega | (simp only [qd] <;> omega)) only [xq, ↓xp, qc, Nat.reduceAdd, List.range, List.range.loop, fine, Nat.reduceEqDiff, ↓reduceIte, yielded, reduceCtorEq, Nat.reduceLT, Nat.reduceMul, Nat.reduceSub, one, Nat.reduceLeDiff, runX_cons, y29_23, e58, e59]; refine hK _ _ ?_; clear hK K)
          refine wpX_seq ?_
          refine wpX_cond (by simp -implicitDefEqProofs (disch := first | omega | (simp only [qd] <;> omega)) only [act_eval, upd_get, Nat.reduceEqDiff, ↓reduceIte]; rfl) ?_
          by_cases hlt2 : k < xs.length
          · simp only [Int.ofNat_lt, hlt2, decide_true, if_true]
            refine wpX_skip (wpX_seq (wpX_block ?_))
            obtain ⟨b2, o2, p2, c2, fr2, rfl, hb2, hx2⟩ := hrx k xs[k] (List.getElem?_eq_getElem hlt2)
            have hx2' : c2[o2 + (k : Int).toNat * 1]? = some (.int .i64 xs[k]) := by simpa using hx2
            have hxk := hxb _ (List.getElem_mem hlt2)
            have hprev : 0 < k → ∃ y : Int, c2[o2 + ((k : Int) - 1).toNat * 1]? = some (.int .i64 y) ∧ decide (xs[k] ≤ y) = false := fun hk0 => by
              have hk1 : k - 1 < xs.length := by omega
              obtain ⟨b3, o3, p3, c3, fr3, hre, hb3, hx3⟩ := hrx (k - 1) xs[k - 1] (List.getElem?_eq_getElem hk1)
              cases hre
              rw [hb2] at hb3
              cases hb3
              have hlt3 : xs[k - 1] < xs[k] := (List.pairwise_iff_getElem.1 hasc) (k - 1) k hk1 hlt2 (by omega)
              exact ⟨xs[k - 1], by rw [show ((k : Int) - 1).toNat * 1 = k - 1 by omega]; exact hx3, decide_eq_false (by omega)⟩
            clear hx2
            generalize xs[k] = x at hx2' hxk hprev
            (refine wpX_stmt ?_; intro K hK; simp -implicitDefEqProofs (disch := first | omega | (simp only [qd] <;> omega)) only [xq, ↓xp, qc, Nat.reduceAdd, List.range, List.range.loop, fine, Nat.reduceEqDiff, ↓reduceIte, yielded, reduceCtorEq, Nat.reduceLT, Nat.reduceMul, Nat.reduceSub, one, Nat.reduceLeDiff, runX_cons, y29_23, e57, e59, cell_of hb2, hx2', exists_eq_left']; refine hK _ _ ?_; clear hK K)
            refine wpX_seq ?_
            (refine wpX_stmt ?_; intro K hK; simp -implicitDefEqProofs (disch := first | omega | (simp only [qd] <;> omega)) only [xq, ↓xp, qc, Nat.reduceAdd, List.range, List.range.loop, fine, Nat.reduceEqDiff, ↓reduceIte, yielded, reduceCtorEq, Nat.reduceLT, Nat.reduceMul, Nat.reduceSub, one, Nat.reduceLeDiff, runX_cons, y29_23, e1, cell_of hvb1, exists_eq_left'])
            refine (inside_spec main H1 x 0 (pieces - 1) hxk.1 (by omega)).runs.mono ?_
            rintro _ H2 ⟨rfl, hh⟩
            rw [hh]; clear hh H2
            simp -implicitDefEqProofs (disch := first | omega | (simp only [qd] <;> omega)) only [xq, ↓xp, qc, Nat.reduceAdd, List.range, List.range.loop, fine, Nat.reduceEqDiff, ↓reduceIte, yielded, reduceCtorEq, Nat.reduceLT, Nat.reduceMul, Nat.reduceSub, one, Nat.reduceLeDiff, runX_cons, y29_23]
            refine hK _ _ ?_; clear hK K
            (refine wpX_cond (by simp -implicitDefEqProofs (disch := first | omega | (simp only [qd] <;> omega)) only [act_eval, upd_get, Nat.reduceEqDiff, ↓reduceIte]; rfl) ?_; simp only [Bool.false_eq_true, if_false]; refine wpX_skip ?_)
            simp -implicitDefEqProofs (disch := first | omega | (simp only [qd] <;> omega)) only [thn, blk, ↓reduceIte, Nat.reduceEqDiff]
            by_cases hk0 : k = 0
            · repeat' (first
  | (refine wpX_stmtL rfl ?_; intro K hK; simp -implicitDefEqProofs (disch := first | omega | (simp only [qd] <;> omega)) only [xq, ↓xp, qc, Nat.reduceAdd, List.range, List.range.loop, fine, Nat.reduceEqDiff, ↓reduceIte, yielded, reduceCtorEq, Nat.reduceLT, Nat.reduceMul, Nat.reduceSub, one, Nat.reduceLeDiff, runX_cons, y29_23, aq, ↓ap, qe0, qe1, qe2, *, -hK]; try (refine hK _ _ ?_; clear hK K))
  | (refine wpX_lastL rfl ?_; intro K hK; simp -implicitDefEqProofs (disch := first | omega | (simp only [qd] <;> omega)) only [xq, ↓xp, qc, Nat.reduceAdd, List.range, List.range.loop, fine, Nat.reduceEqDiff, ↓reduceIte, yielded, reduceCtorEq, Nat.reduceLT, Nat.reduceMul, Nat.reduceSub, one, Nat.reduceLeDiff, runX_cons, y29_23, aq, ↓ap, qe0, qe1, qe2, *, -hK]; try (refine hK _ _ ?_; clear hK K; (try simp only [nq, ↓reduceIte, Nat.reduceEqDiff])))
  | (refine wpX_skip ?_; (try simp only [nq, ↓reduceIte, Nat.reduceEqDiff]))
  | (refine wpX_label ?_; (try simp only [nq, ↓reduceIte, Nat.reduceEqDiff]))
  | (refine wpX_exit ?_; (try simp only [nq, ↓reduceIte, Nat.reduceEqDiff]))
  | (refine wpX_goto ?_; (try simp only [nq, ↓reduceIte, Nat.reduceEqDiff]))
  | (refine wpX_condK (by simp only [act_eval, upd_get, Nat.reduceEqDiff, Nat.reduceLT, ↓reduceIte, *]; rfl) ?_ ?_ <;> (intro hc; first | (exfalso; simp -implicitDefEqProofs (disch := omega) only [*, bq, reduceCtorEq] at hc; done) | (simp only [dq, qe3, qe4, qe5, qe6] at hc) | skip))
  | (refine wpX_scope0 ?_)
  | (refine wpX_block ?_)
  | (refine wpX_seq ?_))
              exact ⟨_, by omega, _, k + 1, rfl, hlt2, rfl, e1, e7, e48, e49, e50, e57, e58, by subst hk0; rfl, by trivial⟩
            · obtain ⟨y, hx3', hle3⟩ := hprev (by omega)
              have hjm : ((k : Int) - 1).toNat = k - 1 := by omega
              simp only [hjm, Nat.mul_one] at hx3'
              repeat' (first
  | (refine wpX_stmtL rfl ?_; intro K hK; simp -implicitDefEqProofs (disch := first | omega | (simp only [qd] <;> omega)) only [xq, ↓xp, qc, Nat.reduceAdd, List.range, List.range.loop, fine, Nat.reduceEqDiff, ↓reduceIte, yielded, reduceCtorEq, Nat.reduceLT, Nat.reduceMul, Nat.reduceSub, one, Nat.reduceLeDiff, runX_cons, y29_23, aq, ↓ap, qe0, qe1, qe2, *, -hK]; try (refine hK _ _ ?_; clear hK K))
  | (refine wpX_lastL rfl ?_; intro K hK; simp -implicitDefEqProofs (disch := first | omega | (simp only [qd] <;> omega)) only [xq, ↓xp, qc, Nat.reduceAdd, List.range, List.range.loop, fine, Nat.reduceEqDiff, ↓reduceIte, yielded, reduceCtorEq, Nat.reduceLT, Nat.reduceMul, Nat.reduceSub, one, Nat.reduceLeDiff, runX_cons, y29_23, aq, ↓ap, qe0, qe1, qe2, *, -hK]; try (refine hK _ _ ?_; clear hK K; (try simp only [nq, ↓reduceIte, Nat.reduceEqDiff])))
  | (refine wpX_skip ?_; (try simp only [nq, ↓reduceIte, Nat.reduceEqDiff]))
  | (refine wpX_label ?_; (try simp only [nq, ↓reduceIte, Nat.reduceEqDiff]))
  | (refine wpX_exit ?_; (try simp only [nq, ↓reduceIte, Nat.reduceEqDiff]))
  | (refine wpX_goto ?_; (try simp only [nq, ↓reduceIte, Nat.reduceEqDiff]))
  | (refine wpX_condK (by simp only [act_eval, upd_get, Nat.reduceEqDiff, Nat.reduceLT, ↓reduceIte, *]; rfl) ?_ ?_ <;> (intro hc; first | (exfalso; simp -implicitDefEqProofs (disch := omega) only [*, bq, reduceCtorEq] at hc; done) | (simp only [dq, qe3, qe4, qe5, qe6] at hc) | skip))
  | (refine wpX_scope0 ?_)
  | (refine wpX_block ?_)
  | (refine wpX_seq ?_))
              exact ⟨_, by omega, _, k + 1, rfl, hlt2, rfl, e1, e7, e48, e49, e50, e57, e58, rfl, by trivial⟩
          · simp only [Int.ofNat_lt, hlt2, decide_false, Bool.false_eq_true, if_false]
            (refine wpX_exit ?_; simp only [thn, blk, ↓reduceIte, Nat.reduceEqDiff])
            (refine wpX_last ?_; intro K hK; simp -implicitDefEqProofs (disch := first | omega | (simp only [qd] <;> omega)) only [xq, ↓xp, qc, Nat.reduceAdd, List.range, List.range.loop, fine, Nat.reduceEqDiff, ↓reduceIte, yielded, reduceCtorEq, Nat.reduceLT, Nat.reduceMul, Nat.reduceSub, one, Nat.reduceLeDiff, runX_cons, y29_23, e50]; refine hK _ _ ?_; clear hK K)
            simp -implicitDefEqProofs (disch := first | omega | (simp only [qd] <;> omega)) only [thn, blk, ↓reduceIte, Nat.reduceEqDiff]
            refine ⟨_, ?_, _, i + 1, rfl, hlt, rfl, e1, e48, e49, rfl, by trivial⟩
            omega
      · simp only [Int.ofNat_lt, hlt, decide_false, Bool.false_eq_true, if_false]
        (refine wpX_exit ?_; simp only [thn, blk, ↓reduceIte, Nat.reduceEqDiff])
        (refine wpX_stmt ?_; intro K hK; simp -implicitDefEqProofs (disch := first | omega | (simp only [qd] <;> omega)) only [xq, ↓xp, qc, Nat.reduceAdd, List.range, List.range.loop, fine, Nat.reduceEqDiff, ↓reduceIte, yielded, reduceCtorEq, Nat.reduceLT, Nat.reduceMul, Nat.reduceSub, one, Nat.reduceLeDiff, runX_cons, y29_23]; refine hK _ _ ?_; clear hK K)
        (refine wpX_ret ?_; (try simp only [nq, ↓reduceIte, Nat.reduceEqDiff]); rw [bodyX_ret, results_one Tryd.results29 (by decide)]; simp only [upd_get, Nat.reduceEqDiff, ↓reduceIte])
        exact ⟨by trivial, hle⟩
end Go.Proofs.YtiempdpjcddgfaaDoor
end
section
/- More operations: nil values compared, copies, clearing, methods of interface values, slices of slices. -/
set_option linter.unusedSimpArgs false
set_option maxRecDepth 100000
namespace Go.X
open Go
section
variable {P : Program} {main : Bool} {lp : Option Nat} {Q : Exit → Act → Hp → Prop} {a : Act} {H : Hp}

theorem le_of_set {H H' : Hp} {b : Nat} {o : Obj} (h : H.set b o = H') (hb : H b = none) : H.le H' := h ▸ Hp.le_set hb
theorem at_of_set {H H' : Hp} {b : Nat} {o : Obj} (h : H.set b o = H') : H' b = some (true, o) := by rw [← h, get_set, if_pos rfl]
theorem other_of_set {H H' : Hp} {b x : Nat} {o : Obj} {v : Bool × Obj} (h : H.set b o = H') (hx : H x = some v) (hn : x ≠ b) : H' x = some v := by rw [← h, get_set, if_neg hn]; exact hx
theorem ne_new {H : Hp} {b x : Nat} {v : Bool × Obj} (hx : H x = some v) (hb : H b = none) : x ≠ b := fun e => by rw [e, hb] at hx; cases hx
theorem eqG_slice (op : BinOp) (t : TypeId) (x y : Operand) (p q : Option Addr) (n c n' c' : Nat) (K : Unit → Hp → Prop) (E : Value → Hp → Prop) : wpS P (eqGuard op t x y (.slice p n c) (.slice q n' c')) H K E = K () H := by
  unfold eqGuard; cases op <;> rfl
theorem eqG_bool (op : BinOp) (t : TypeId) (x y : Operand) (p q : Bool) (K : Unit → Hp → Prop) (E : Value → Hp → Prop) : wpS P (eqGuard op t x y (.bool p) (.bool q)) H K E = K () H := by
  unfold eqGuard; cases op <;> rfl
theorem eqG_iface (op : BinOp) (t : TypeId) (x y : Operand) (u : TypeId) (v : Value) (K : Unit → Hp → Prop) (E : Value → Hp → Prop) : wpS P (eqGuard op t x y (.iface u v) .nilIface) H K E = K () H := by
  unfold eqGuard; cases op <;> rfl
theorem eqG_nil (op : BinOp) (t : TypeId) (x : Operand) (v : Value) (K : Unit → Hp → Prop) (E : Value → Hp → Prop) : wpS P (eqGuard op t x (.const v) .nilIface .nilIface) H K E = K () H := by
  unfold eqGuard; cases op <;> cases x <;> rfl
theorem bin_eql_slice {t e : TypeId} (hu : P.underlying t = some (.slice e)) (p : Option Addr) (n c : Nat) (K : Value → Hp → Prop) (E : Value → Hp → Prop) : wpS P (binOp .eql t (.slice p n c) (.slice none 0 0)) H K E = K (.bool p.isNone) H := by
  simp only [binOp]
  rw [wpS_bind']
  unfold Op.equal Op.maxDepth
  rw [show (10000 : Nat) = 9999 + 1 from rfl]
  unfold Op.equalIn
  rw [wpS_bind', wpS_underlying hu]
  cases p <;> rfl
theorem bin_eql_nil {t : TypeId} {ms : Array (String × TypeId)} (hu : P.underlying t = some (.interface ms)) (K : Value → Hp → Prop) (E : Value → Hp → Prop) : wpS P (binOp .eql t .nilIface .nilIface) H K E = K (.bool true) H := by
  simp only [binOp]
  rw [wpS_bind']
  unfold Op.equal Op.maxDepth
  rw [show (10000 : Nat) = 9999 + 1 from rfl]
  unfold Op.equalIn
  rw [wpS_bind', wpS_underlying hu]
  rfl
theorem bin_eql_iface {t : TypeId} {ms : Array (String × TypeId)} (hu : P.underlying t = some (.interface ms)) (u : TypeId) (v : Value) (K : Value → Hp → Prop) (E : Value → Hp → Prop) : wpS P (binOp .eql t (.iface u v) .nilIface) H K E = K (.bool false) H := by
  simp only [binOp]
  rw [wpS_bind']
  unfold Op.equal Op.maxDepth
  rw [show (10000 : Nat) = 9999 + 1 from rfl]
  unfold Op.equalIn
  rw [wpS_bind', wpS_underlying hu]
  rfl
theorem bin_neq_nil {t : TypeId} {ms : Array (String × TypeId)} (hu : P.underlying t = some (.interface ms)) (K : Value → Hp → Prop) (E : Value → Hp → Prop) : wpS P (binOp .neq t .nilIface .nilIface) H K E = K (.bool false) H := by
  simp only [binOp]
  rw [wpS_bind']
  unfold Op.equal Op.maxDepth
  rw [show (10000 : Nat) = 9999 + 1 from rfl]
  unfold Op.equalIn
  rw [wpS_bind', wpS_underlying hu]
  rfl
theorem bin_neq_iface {t : TypeId} {ms : Array (String × TypeId)} (hu : P.underlying t = some (.interface ms)) (u : TypeId) (v : Value) (K : Value → Hp → Prop) (E : Value → Hp → Prop) : wpS P (binOp .neq t (.iface u v) .nilIface) H K E = K (.bool true) H := by
  simp only [binOp]
  rw [wpS_bind']
  unfold Op.equal Op.maxDepth
  rw [show (10000 : Nat) = 9999 + 1 from rfl]
  unfold Op.equalIn
  rw [wpS_bind', wpS_underlying hu]
  rfl

/-- An assertion to a type that is no interface. -/
theorem assert_ok {t st : TypeId} {d : TypeDesc} (hu : P.underlying t = some d) (hd : (match d with | .interface _ => true | _ => false) = false) {z : Value} (hz : ∀ w, (zeroValue t).run P w = .ok z w) (u : TypeId) (v : Value) (K : Value → Hp → Prop) (E : Value → Hp → Prop) :
    wpS P (Instr.typeAssert (.iface u v) st t true) H K E = if u = t then K (.tuple #[v, .bool true]) H else K (.tuple #[z, .bool false]) H := by
  unfold Instr.typeAssert
  rw [wpS_bind', wpS_underlying hu]
  cases d <;> first | (cases hd; done) | (simp only [wpS_ite, wpS_pure, if_true, wpS_bind', wpS_zeroValue hz])

/-- A method of a value behind an interface. -/
def methK (P : Program) (v : Value) (name : String) (args : Array Value) (H : Hp) (K : Next → Hp → Prop) (E : Value → Hp → Prop) : Prop := wpS P (callMethod v name args) H K E
@[congr] theorem methK_congr {v v' : Value} {name : String} {args args' : Array Value} {H' : Hp} {K : Next → Hp → Prop} {E : Value → Hp → Prop} (hv : v = v') (ha : args = args') (hH : H = H') : methK P v name args H K E = methK P v' name args' H' K E := by subst hv ha hH; rfl
theorem ex_invoke (ρ : Operand → Value) (d : Option Tmp) (ty : TypeId) (pos : String) (af : Array Edge) (g : Option (Nat × Bool)) (K : Next → Hp → Prop) (E : Value → Hp → Prop) {x : Operand} {name : String} {args : List Operand} {ats : Array TypeId} :
    wpS P (execOp ρ ⟨d, .call ⟨.invoke x name, args.toArray, ats⟩, ty, pos, af, g⟩) H K E = methK P (ρ x) name (args.toArray.map ρ) H K E := by
  simp only [execOp, resolve, invoke, methK]
  rw [wpS_bind']
  simp only [wpS_pure]
  have h0 : (#[ρ x] ++ Array.map ρ args.toArray)[0]? = some (ρ x) := by simp
  have h1 : (#[ρ x] ++ Array.map ρ args.toArray).extract 1 (#[ρ x] ++ Array.map ρ args.toArray).size = Array.map ρ args.toArray := by
    apply Array.ext'
    simp [List.extract_eq_take_drop, List.take_of_length_le]
  simp only [h0, h1]

/-! ### copy and clear -/
/-- The first n cells of a slice. -/
def firstL (q : Option (Bool × Obj)) (o n : Nat) (K : List Value → Prop) : Prop := match q with
  | some (_, .cells c _ _) => o + n ≤ c.size ∧ K ((c.toList.drop o).take n)
  | _ => False
theorem copy_slices {t e : TypeId} {t2 : TypeId} (hu : P.underlying t = some (.slice e)) (hs : ∀ w, (sizeOf e).run P w = .ok 1 w) (ty : TypeId) (cb : Array Bool) (b o n c b2 o2 n2 c2 : Nat) {p2 : Bool} {cs cs2 : List Value} {e1 e2 : TypeId} {fr2 : Nat × Nat}
    (hb : H b = some (true, .cells cs.toArray e1 (0, 0))) (hb2 : H b2 = some (p2, .cells cs2.toArray e2 fr2)) (h1 : o + min n2 n ≤ cs.length) (h2 : o2 + min n2 n ≤ cs2.length) (hone : ∀ v ∈ (cs2.drop o2).take (min n2 n), one v = true) (K : Next → Hp → Prop) (E : Value → Hp → Prop)
    (hK : K (.value (.int .i64 (min n2 n : Nat))) (H.set b (.cells (over cs.toArray o ((cs2.drop o2).take (min n2 n))) e1 (0, 0)))) :
    wpS P (builtin .copy #[t, t2] ty cb #[.slice (some ⟨b, o, none⟩) n c, .slice (some ⟨b2, o2, none⟩) n2 c2]) H K E := by
  simp only [builtin]
  rw [wpS_bind']
  unfold Builtin.copy_
  simp only [List.getElem?_toArray, List.getElem?_cons_zero, List.getElem?_cons_succ]
  have hlen : ((cs2.drop o2).take (min n2 n)).length = min n2 n := by simp; omega
  have hmin : Nat.min n2 n = min n2 n := rfl
  simp only [wpS_bind', wpS_underlying hu, wpS_pure, Builtin.lenOf, wpS_sizeOf hs, hmin, Nat.mul_one, Builtin.firstCells]
  rw [wpS_loadCells (cs := (cs2.drop o2).take (min n2 n)) (by rw [hlen]) (fun j u hj => by
    have hjl : j < ((cs2.drop o2).take (min n2 n)).length := (List.getElem?_eq_some_iff.1 hj).1
    rw [hlen] at hjl
    rw [cell_of hb2]
    rw [List.getElem?_take_of_lt hjl, List.getElem?_drop] at hj
    simpa using hj)]
  simp only [wpS_bind']
  refine wpS_storeCells b o _ E _ 0 H cs.toArray e1 (by simpa using hone) hb ?_ ?_
  · simp only [List.toList_toArray, hlen, Nat.add_zero, List.size_toArray]
    omega
  · simp only [List.toList_toArray, Nat.add_zero, wpS_pure]
    exact hK

theorem zeroCells_one (z : Value) (n : Nat) : (Builtin.zeroCells #[z] n).toList = List.replicate n z := by
  unfold Builtin.zeroCells
  apply List.ext_getElem
  · simp
  · intro i h1 h2
    simp [Nat.mod_one]
theorem clear_slice {t e : TypeId} (hu : P.underlying t = some (.slice e)) {z : Value} (hz : ∀ w, (zeroValue e).run P w = .ok z w) (hz1 : one z = true) (ty : TypeId) (cb : Array Bool) (b o n cap : Nat) {c : Array Value} {e1 : TypeId}
    (hb : H b = some (true, .cells c e1 (0, 0))) (hn : o + n ≤ c.size) (K : Next → Hp → Prop) (E : Value → Hp → Prop)
    (hK : K (.value (.tuple #[])) (H.set b (.cells (over c o (List.replicate n z)) e1 (0, 0)))) :
    wpS P (builtin .clear #[t] ty cb #[.slice (some ⟨b, o, none⟩) n cap]) H K E := by
  simp only [builtin]
  rw [wpS_bind']
  unfold Builtin.clear_
  simp only [List.getElem?_toArray, List.getElem?_cons_zero]
  cases n with
  | zero =>
    rw [List.replicate_zero, over_nil, set_self hb] at hK
    simp only [wpS_bind', wpS_underlying hu, wpS_pure]
    exact hK
  | succ n =>
    simp only [wpS_bind', wpS_underlying hu, wpS_zeroValue hz, cells_one hz1]
    rw [zeroCells_one]
    refine wpS_storeCells b o _ E _ 0 H c e1 (fun v hv => by rw [List.eq_of_mem_replicate hv]; exact hz1) hb (by simp; omega) ?_
    rw [Nat.add_zero]
    exact hK
/-- Nothing is appended. -/
theorem append_zero {t e : TypeId} (hu : P.underlying t = some (.slice e)) {sz : Nat} (hs : ∀ w, (sizeOf e).run P w = .ok sz w) (ty : TypeId) (cb : Array Bool) (p q : Option Addr) (n cap cap2 : Nat) (h : n ≤ cap) (K : Next → Hp → Prop) (E : Value → Hp → Prop) (hK : K (.value (.slice p n cap)) H) :
    wpS P (builtin .append #[t, t] ty cb #[.slice p n cap, .slice q 0 cap2]) H K E := by
  simp only [builtin]
  rw [wpS_bind']
  unfold Builtin.append_
  simp only [List.getElem?_toArray, List.getElem?_cons_zero, List.getElem?_cons_succ]
  rw [wpS_bind', wpS_underlying hu]
  simp only [wpS_bind', wpS_sizeOf hs, wpS_underlying hu, wpS_pure, Bool.false_eq_true, if_false, Builtin.lenOf, wpS_ite, Nat.add_zero, h, if_true, Bool.not_false]
  have hf : ∀ (K' : Array Value → Hp → Prop), wpS P (Builtin.firstCells sz 0 (.slice q 0 cap2)) H K' E = K' #[] H := fun K' => by
    unfold Builtin.firstCells
    cases q with
    | none => rfl
    | some a => simp only [loadCells, Nat.zero_mul]; rfl
  rw [hf]
  cases p with
  | none => simp only [wpS_pure]; exact hK
  | some a => simp only [wpS_bind', storeCells, wpS_pure]; exact hK
end
end Go.X
end
section
/- Methods of values behind interfaces: entered. -/
set_option maxRecDepth 100000
namespace Go.Proofs.YtiempdpjcddgfaaDoor
open Go Go.X
variable {H : Hp} (args : Array Value) (K : Next → Hp → Prop) (E : Value → Hp → Prop)
theorem meth_vault_low (v : Value) : methK Tryd.prog (.iface 161 v) "gladstone/vault.rank" args H K E = wpS Tryd.prog (callFunc 112 (#[v] ++ args)) H K E := by kernel_rfl
theorem nilm_vault_low (v : Value) : nilK Tryd.prog (.func (.method "gladstone/vault.rank") #[.iface 161 v] #[]) H K E = K (.value (.func (.method "gladstone/vault.rank") #[.iface 161 v] #[])) H := by kernel_rfl
theorem meth_vault_old (v : Value) : methK Tryd.prog (.iface 162 v) "gladstone/vault.rank" args H K E = wpS Tryd.prog (callFunc 113 (#[v] ++ args)) H K E := by kernel_rfl
theorem nilm_vault_old (v : Value) : nilK Tryd.prog (.func (.method "gladstone/vault.rank") #[.iface 162 v] #[]) H K E = K (.value (.func (.method "gladstone/vault.rank") #[.iface 162 v] #[])) H := by kernel_rfl
theorem meth_vault_stale (v : Value) : methK Tryd.prog (.iface 163 v) "gladstone/vault.rank" args H K E = wpS Tryd.prog (callFunc 114 (#[v] ++ args)) H K E := by kernel_rfl
theorem nilm_vault_stale (v : Value) : nilK Tryd.prog (.func (.method "gladstone/vault.rank") #[.iface 163 v] #[]) H K E = K (.value (.func (.method "gladstone/vault.rank") #[.iface 163 v] #[])) H := by kernel_rfl
theorem meth_vault_late (v : Value) : methK Tryd.prog (.iface 164 v) "gladstone/vault.rank" args H K E = wpS Tryd.prog (callFunc 115 (#[v] ++ args)) H K E := by kernel_rfl
theorem nilm_vault_late (v : Value) : nilK Tryd.prog (.func (.method "gladstone/vault.rank") #[.iface 164 v] #[]) H K E = K (.value (.func (.method "gladstone/vault.rank") #[.iface 164 v] #[])) H := by kernel_rfl
end Go.Proofs.YtiempdpjcddgfaaDoor
end
