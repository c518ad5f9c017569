/- Texts Run VRun BHaul Rows2 PlanT NewHaul Open Drive Ride Structs. -/
import Derived.Test.YtofmadjgbcopdaaGreatDoorJ04
set_option linter.defProp false
set_option linter.unusedSimpArgs false
set_option linter.unusedVariables false
set_option maxRecDepth 100000
set_option maxHeartbeats 2000000
section
namespace Go.X
open Go
theorem yielded_list {ops : List Oper} {tmps : Array Value} {j : Nat} : yielded ops.toArray tmps j = ylK (((ops[j]?).bind (·.dst)).bind (tmps[·]?)) := by
 unfold yielded ylK
 simp only [List.getElem?_toArray]
 rfl
end Go.X
namespace Go.Proofs.YtofmadjgbcopdaaGreatDoor
open Go Go.X
def y86_33 := And.intro (fun H => ex_alloc (H := H) (P := Tryz.prog) (h := Tryz.zeroValue107)) (And.intro (fun H => ex_alloc (H := H) (P := Tryz.prog) (h := Tryz.zeroValue172)) (And.intro (fun H => fieldAt_eq (H := H) Tryz.underlying175 (i := 0) rfl (off := 0) rfl Tryz.sizeOf25) (And.intro (fun H => fieldAt_eq (H := H) Tryz.underlying25 (i := 2) rfl (off := 2) rfl Tryz.sizeOf22) (And.intro (fun H => loadAt_one (H := H) Tryz.underlying22 rfl) (And.intro (fun H => len_slice (H := H) Tryz.underlying22) (And.intro (fun H => indexAt_slice (H := H) Tryz.underlying22 Tryz.sizeOf3) (And.intro (fun H => loadAt_one (H := H) Tryz.underlying3 rfl) (And.intro (fun H => fieldAt_eq (H := H) Tryz.underlying172 (i := 0) rfl (off := 0) rfl Tryz.sizeOf170) (And.intro (fun H => indexAt_array (H := H) Tryz.underlying170 Tryz.sizeOf3) (And.intro (fun H => storeAt_int (H := H) Tryz.sizeOf3) (And.intro (fun H => fieldAt_eq (H := H) Tryz.underlying172 (i := 1) rfl (off := 6) rfl Tryz.sizeOf170) (And.intro @callF128 (And.intro (fun H => ex_alloc (H := H) (P := Tryz.prog) (h := Tryz.zeroValue178)) (And.intro (fun H => storeAt_agg (H := H) Tryz.sizeOf178) (And.intro (fun H => fieldAt_eq (H := H) Tryz.underlying175 (i := 1) rfl (off := 4) rfl Tryz.sizeOf22) (And.intro (fun H => indexAt_array (H := H) Tryz.underlying107 Tryz.sizeOf3) (And.intro (fun H => loadAt_aggE (H := H) Tryz.underlying178 rfl Tryz.sizeOf178) (And.intro @callF129 (And.intro (fun H st => assert_ok (H := H) (st := st) Tryz.underlying169 rfl Tryz.zeroValue169) (And.intro (fun H => ex_alloc (H := H) (P := Tryz.prog) (h := Tryz.zeroValue169)) (And.intro (fun H => storeAt_agg (H := H) Tryz.sizeOf169) (And.intro @callF130 (And.intro (fun H => fieldAt_eq (H := H) Tryz.underlying178 (i := 1) rfl (off := 1) rfl Tryz.sizeOf176) (And.intro (fun H => loadAt_one (H := H) Tryz.underlying176 rfl) (And.intro @callF131 (And.intro @meth_vault_low (And.intro @nilm_vault_low (And.intro @callF192 (And.intro @meth_vault_old (And.intro @nilm_vault_old (And.intro @callF193 (And.intro @meth_vault_stale (And.intro @nilm_vault_stale (And.intro @callF194 (And.intro @meth_vault_late (And.intro @nilm_vault_late (And.intro @callF195 (And.intro @bld_186__0 (And.intro (fun H => makeI (H := H) Tryz.underlying186 rfl) (And.intro @callF132 (And.intro (fun H => loadAt_aggE (H := H) Tryz.underlying107 rfl Tryz.sizeOf107) (fun H => storeAt_agg (H := H) Tryz.sizeOf107))))))))))))))))))))))))))))))))))))))))))
theorem z0_33 {p q : Prop} (g : q) (h : Hid q -> p := by
 intro g
 repeat' (first
 | (refine wpX_stmtL rfl ?_; intro Kz hKz; simp -implicitDefEqProofs (disch := first | omega | (simp only [qd] <;> omega)) only [xq, ↓xp, qc, Nat.reduceAdd, List.range, List.range.loop, fine, Nat.reduceEqDiff, ↓reduceIte, yielded, reduceCtorEq, Nat.reduceLT, Nat.reduceMul, Nat.reduceSub, one, Nat.reduceLeDiff, runX_cons, y86_33, ↓ex_invoke, aq, ↓ap, qe0, qe1, qe2, *, -g, -hKz, assert_rule _ _ hr0 hr3]; try (refine hKz _ _ ?_; clear hKz Kz))
 | (refine wpX_lastL rfl ?_; intro Kz hKz; simp -implicitDefEqProofs (disch := first | omega | (simp only [qd] <;> omega)) only [xq, ↓xp, qc, Nat.reduceAdd, List.range, List.range.loop, fine, Nat.reduceEqDiff, ↓reduceIte, yielded, reduceCtorEq, Nat.reduceLT, Nat.reduceMul, Nat.reduceSub, one, Nat.reduceLeDiff, runX_cons, y86_33, ↓ex_invoke, aq, ↓ap, qe0, qe1, qe2, *, -g, -hKz, assert_rule _ _ hr0 hr3]; try (refine hKz _ _ ?_; clear hKz Kz; (try simp only [nq, ↓reduceIte, Nat.reduceEqDiff])))
 | (refine wpX_skip ?_; (try simp only [nq, ↓reduceIte, Nat.reduceEqDiff]))
 | (refine wpX_label ?_; (try simp only [nq, ↓reduceIte, Nat.reduceEqDiff]))
 | (refine wpX_exit ?_; (try simp only [nq, ↓reduceIte, Nat.reduceEqDiff]))
 | (refine wpX_goto ?_; (try simp only [nq, ↓reduceIte, Nat.reduceEqDiff]))
 | (refine wpX_condK (by simp only [act_eval, upd_get, Nat.reduceEqDiff, Nat.reduceLT, ↓reduceIte, *, -g]; rfl) ?_ ?_ <;> (intro hcz; first | (exfalso; simp -implicitDefEqProofs (disch := omega) only [*, -g, bq, reduceCtorEq] at hcz; done) | (simp only [dq, qe3, qe4, qe5, qe6] at hcz) | skip))
 | (refine wpX_scope0 ?_)
 | (refine wpX_block ?_)
 | (refine wpX_seq ?_))
 (try (revert Kz; refine unK ?_)); (repeat (revert hcz; refine unC ?_))
 exact Hid.out g) : Hid p := ⟨h ⟨g⟩⟩
theorem x1_33 {p q : Prop} (g : q) (h : Hid q -> p := by
 intro g
 simp -implicitDefEqProofs (disch := first | omega | (simp only [qd] <;> omega)) only [xq, ↓xp, qc, Nat.reduceAdd, List.range, List.range.loop, fine, Nat.reduceEqDiff, ↓reduceIte, yielded, reduceCtorEq, Nat.reduceLT, Nat.reduceMul, Nat.reduceSub, one, Nat.reduceLeDiff, runX_cons, y86_33, ↓ex_invoke, aq, ↓ap, qe0, qe1, qe2, *, -g, -hK, assert_rule _ _ hr0 hr3]
 exact Hid.out g) : Hid p := ⟨h ⟨g⟩⟩
theorem z2_33 {p q : Prop} (g : q) (h : Hid q -> p := by
 intro g
 repeat' (first
 | (refine wpX_stmtL rfl ?_; intro Kz hKz; simp -implicitDefEqProofs (disch := first | omega | (simp only [qd] <;> omega)) only [xq, ↓xp, qc, Nat.reduceAdd, List.range, List.range.loop, fine, Nat.reduceEqDiff, ↓reduceIte, yielded, reduceCtorEq, Nat.reduceLT, Nat.reduceMul, Nat.reduceSub, one, Nat.reduceLeDiff, runX_cons, y86_33, ↓ex_invoke, aq, ↓ap, qe0, qe1, qe2, *, -g, -hKz, storL_at hne0 vcb6]; try (refine hKz _ _ ?_; clear hKz Kz))
 | (refine wpX_lastL rfl ?_; intro Kz hKz; simp -implicitDefEqProofs (disch := first | omega | (simp only [qd] <;> omega)) only [xq, ↓xp, qc, Nat.reduceAdd, List.range, List.range.loop, fine, Nat.reduceEqDiff, ↓reduceIte, yielded, reduceCtorEq, Nat.reduceLT, Nat.reduceMul, Nat.reduceSub, one, Nat.reduceLeDiff, runX_cons, y86_33, ↓ex_invoke, aq, ↓ap, qe0, qe1, qe2, *, -g, -hKz, storL_at hne0 vcb6]; try (refine hKz _ _ ?_; clear hKz Kz; (try simp only [nq, ↓reduceIte, Nat.reduceEqDiff])))
 | (refine wpX_skip ?_; (try simp only [nq, ↓reduceIte, Nat.reduceEqDiff]))
 | (refine wpX_label ?_; (try simp only [nq, ↓reduceIte, Nat.reduceEqDiff]))
 | (refine wpX_exit ?_; (try simp only [nq, ↓reduceIte, Nat.reduceEqDiff]))
 | (refine wpX_goto ?_; (try simp only [nq, ↓reduceIte, Nat.reduceEqDiff]))
 | (refine wpX_condK (by simp only [act_eval, upd_get, Nat.reduceEqDiff, Nat.reduceLT, ↓reduceIte, *, -g]; rfl) ?_ ?_ <;> (intro hcz; first | (exfalso; simp -implicitDefEqProofs (disch := omega) only [*, -g, bq, reduceCtorEq] at hcz; done) | (simp only [dq, qe3, qe4, qe5, qe6] at hcz) | skip))
 | (refine wpX_scope0 ?_)
 | (refine wpX_block ?_)
 | (refine wpX_seq ?_))
 (try (revert Kz; refine unK ?_)); (repeat (revert hcz; refine unC ?_))
 exact Hid.out g) : Hid p := ⟨h ⟨g⟩⟩
theorem rank_yields (main : Md) (H : Hp) (r : Int) (p : Int) (hb : Nat) (came asked later : List Int) (h1 : came.length = 6) (h2 : asked.length = 6) (h3 : later.length = 6) (hl : ∀ x ∈ later, 0 <= x /\ x <= 1000) (h0 : 0 <= p) (h6 : p < 6) (hH : H hb = some (true, histO came asked later))
  (hr0 : 0 <= r) (hr3 : r <= 3) : methK Tryz.prog (ruleV r) "gladstone/vault.rank" #[.int .i64 p, .pointer (some ⟨hb, 0, none⟩)] H (YN Tryz.prog main (.int .i64 (rankF r came asked later p)) H) fun _ _ => False := by
 have hcase : r = 0 ∨ r = 1 ∨ r = 2 ∨ r = 3 := by omega
 rcases hcase with rfl | rfl | rfl | rfl
 ·show methK Tryz.prog (.iface 166 (.agg #[])) _ _ _ _ _
  rw [meth_vault_low, callF192, YN_enter]
  exact quiet_le (low_spec main H p _)
 ·show methK Tryz.prog (.iface 167 (.agg #[])) _ _ _ _ _
  rw [meth_vault_old, callF193, YN_enter]
  exact quiet_le (old_spec main H p hb came asked later h1 h2 h3 h0 h6 hH)
 ·show methK Tryz.prog (.iface 168 (.agg #[])) _ _ _ _ _
  rw [meth_vault_stale, callF194, YN_enter]
  exact quiet_le (stale_spec main H p hb came asked later h1 h2 h3 h0 h6 hH)
 ·show methK Tryz.prog (.iface 169 (.agg #[])) _ _ _ _ _
  rw [meth_vault_late, callF195, YN_enter]
  exact quiet_le (late_spec main H p hb came asked later h1 h2 h3 hl h0 h6 hH)
theorem nil_rule (H : Hp) (r : Int) (K : Next -> Hp -> Prop) (E : Value -> Hp -> Prop) : nilK Tryz.prog (.func (.method "gladstone/vault.rank") #[ruleV r] #[]) H K E = K (.value (.func (.method "gladstone/vault.rank") #[ruleV r] #[])) H := by
 unfold ruleV
 split
 ·exact nilm_vault_low K E _
 ·split
  ·exact nilm_vault_old K E _
  ·split
   ·exact nilm_vault_stale K E _
   ·exact nilm_vault_late K E _
theorem assert_rule (H : Hp) (r : Int) (hr0 : 0 <= r) (hr3 : r <= 3) (st : TypeId) (K : Value -> Hp -> Prop) (E : Value -> Hp -> Prop) : wpS Tryz.prog (Instr.typeAssert (ruleV r) st 169 true) H K E = K (.tuple #[.agg #[], .bool (decide (r = 3))]) H := by
 unfold ruleV
 rw [assert_ok Tryz.underlying169 rfl Tryz.zeroValue169]
 have hcase : r = 0 ∨ r = 1 ∨ r = 2 ∨ r = 3 := by omega
 rcases hcase with rfl | rfl | rfl | rfl <;> rfl
structure RS where
 m : Nat
 came : List Int
 asked : List Int
 later : List Int
 cl : List Int
 f : Nat
def pickF (rk : Int -> Int) (l : List Int) : Int := l.foldl (fun c q => if c < 0 ∨ rk q < rk c then q else c) (-1)
def sendB (pl : Int) (m : Nat) (t : Int) : Bool := !m.testBit t.toNat && decide (pl <= oCount m)
def rsent (pl r : Int) (ts : List Int) (i : Nat) (t : Int) (s : RS) : Int :=
 if sendB pl s.m t then pickF (rankF r s.came s.asked (if r = 3 then laterL ts (i + 1) else s.later)) (oList s.m) else -1
def rstep (pl r : Int) (ts : List Int) (i : Nat) (t : Int) (s : RS) : RS :=
 {m := oNext s.m (rsent pl r ts i t s) t
  came := if s.m.testBit t.toNat then s.came else s.came.set t.toNat i
  asked := s.asked.set t.toNat i
  later := if r = 3 /\ sendB pl s.m t then laterL ts (i + 1) else s.later
  cl := s.cl.set i (rsent pl r ts i t s)
  f := s.f + if s.m.testBit t.toNat then 0 else 1 }
def rrun (pl r : Int) (ts : List Int) (s : RS) : Nat -> RS
 | 0 => s
 | i + 1 => rstep pl r ts i (ts.getD i 0) (rrun pl r ts s i)
def initL (start : List Int) : Nat -> List Int
 | 0 => List.replicate 6 0
 | j + 1 => (initL start j).set (start.getD j 0).toNat ((j : Int) - start.length)
theorem initL_len (start : List Int) : ∀ j, (initL start j).length = 6
 | 0 => by simp [initL]
 | j + 1 => by simp [initL, initL_len start j]
def rs0 (start : List Int) : RS := ⟨oOf start, initL start start.length, initL start start.length, List.replicate 6 0, List.replicate 8 0, 0⟩
structure RSOk (s : RS) (i : Nat) : Prop where
 m : s.m < 64
 came : s.came.length = 6
 asked : s.asked.length = 6
 later : s.later.length = 6
 bnd : ∀ x ∈ s.later, 0 <= x /\ x <= 1000
 cl : s.cl.length = 8
 f : s.f <= i
theorem foldl_pick_mem (rk : Int -> Int) : ∀ (l : List Int) (c : Int), l.foldl (fun c q => if c < 0 ∨ rk q < rk c then q else c) c = c ∨ l.foldl (fun c q => if c < 0 ∨ rk q < rk c then q else c) c ∈ l
 | [], c => .inl rfl
 | x :: l, c => by
  simp only [List.foldl_cons]
  split
  ·rcases foldl_pick_mem rk l x with h | h
   ·rw [h]; exact .inr List.mem_cons_self
   ·exact .inr (List.mem_cons_of_mem _ h)
  ·rcases foldl_pick_mem rk l c with h | h
   ·exact .inl h
   ·exact .inr (List.mem_cons_of_mem _ h)
theorem pickF_lt (rk : Int -> Int) (m : Nat) : pickF rk (oList m) < 6 := by
 rcases foldl_pick_mem rk (oList m) (-1) with h | h
 ·unfold pickF; rw [h]; omega
 ·exact (oList_mem h).2.1
theorem laterL_bnd (ts : List Int) (k : Nat) (hk : k <= ts.length) (hl : ts.length <= 1000) : ∀ x ∈ laterL ts k, 0 <= x /\ x <= 1000 := by
 intro x hx
 simp only [laterL, List.mem_map] at hx
 obtain ⟨p, _, rfl⟩ := hx
 have := nxt_le ts k p hk
 omega
theorem RSOk.step {s : RS} {i : Nat} (h : RSOk s i) (pl r : Int) (ts : List Int) (t : Int) (hi : i < ts.length) (hl : ts.length <= 1000) (h0 : 0 <= t) (h6 : t < 6) : RSOk (rstep pl r ts i t s) (i + 1) := by
 refine ⟨?_, ?_, ?_, ?_, ?_, ?_, ?_⟩
 ·refine oNext_lt h.m ?_ h0 h6
  unfold rsent
  split
  ·exact pickF_lt _ _
  ·omega
 ·simp only [rstep]; split <;> simp [h.came]
 ·simp only [rstep]; simp [h.asked]
 ·simp only [rstep]; split
  ·exact laterL_len _ _
  ·exact h.later
 ·simp only [rstep]; split
  ·exact laterL_bnd ts _ (by omega) hl
  ·exact h.bnd
 ·simp only [rstep]; simp [h.cl]
 ·simp only [rstep]; have := h.f; split <;> omega
abbrev choiceO (cl : List Int) : Obj := .cells (ints cl).toArray 107 (0, 0)
abbrev spotO (c m : Nat) : Obj := .cells #[.int .i64 c, .int .u8 m] 178 (0, 0)
structure RunM (H0 H : Hp) (cb hb sb db : Nat) (dO : Obj) (tv : Value) (ts : List Int) (i : Nat) (cl came asked later : List Int) (m : Nat) : Prop where
 c : H cb = some (true, choiceO cl)
 h : H hb = some (true, histO came asked later)
 s : H sb = some (true, spotO i m)
 d : H db = some (true, dO)
 t : SlI H tv ts
 l : Lex none H0 H
structure RunE (e : Nat -> Value) (cb hb sb db : Nat) (r : Int) (ta : Option Addr) (n tc : Nat) (f i : Nat) : Prop where
 e0 : e 0 = .pointer (some ⟨db, 0, none⟩)
 e1 : e 1 = ruleV r
 e2 : e 2 = .int .i64 n
 e6 : e 6 = .pointer (some ⟨cb, 0, none⟩)
 e7 : e 7 = .int .i64 f
 e8 : e 8 = .pointer (some ⟨hb, 0, none⟩)
 e11 : e 11 = .pointer (some ⟨sb, 0, none⟩)
 e59 : e 59 = .slice ta n tc
 e60 : e 60 = .int .i64 n
 e61 : e 61 = .int .i64 i
theorem RunM.le {H0 H H' : Hp} {cb hb sb db : Nat} {dO : Obj} {tv : Value} {ts : List Int} {i : Nat} {cl came asked later : List Int} {m : Nat} (h : RunM H0 H cb hb sb db dO tv ts i cl came asked later m) (hl : H.le H') : RunM H0 H' cb hb sb db dO tv ts i cl came asked later m :=
 ⟨hl _ _ h.c, hl _ _ h.h, hl _ _ h.s, hl _ _ h.d, h.t.le hl, h.l.le hl⟩
theorem RunM.setC {H0 H : Hp} {cb hb sb db : Nat} {dO : Obj} {tv : Value} {ts : List Int} {i : Nat} {cl came asked later : List Int} {m : Nat} (h : RunM H0 H cb hb sb db dO tv ts i cl came asked later m) (h0 : H0 cb = none) (n1 : hb ≠ cb) (n2 : sb ≠ cb) (n3 : db ≠ cb) (cl' : List Int) :
  RunM H0 (H.set cb (choiceO cl')) cb hb sb db dO tv ts i cl' came asked later m :=
 ⟨set_at, by rw [set_ne n1]; exact h.h, by rw [set_ne n2]; exact h.s, by rw [set_ne n3]; exact h.d, h.t.set (fun p c fr e => by rw [h.c] at e; cases e), h.l.own h0⟩
theorem RunM.setH {H0 H : Hp} {cb hb sb db : Nat} {dO : Obj} {tv : Value} {ts : List Int} {i : Nat} {cl came asked later : List Int} {m : Nat} (h : RunM H0 H cb hb sb db dO tv ts i cl came asked later m) (h0 : H0 hb = none) (n1 : cb ≠ hb) (n2 : sb ≠ hb) (n3 : db ≠ hb) (came' asked' later' : List Int) :
  RunM H0 (H.set hb (histO came' asked' later')) cb hb sb db dO tv ts i cl came' asked' later' m :=
 ⟨by rw [set_ne n1]; exact h.c, set_at, by rw [set_ne n2]; exact h.s, by rw [set_ne n3]; exact h.d, h.t.set (fun p c fr e => by rw [h.h] at e; cases e), h.l.own h0⟩
theorem RunM.setS {H0 H : Hp} {cb hb sb db : Nat} {dO : Obj} {tv : Value} {ts : List Int} {i : Nat} {cl came asked later : List Int} {m : Nat} (h : RunM H0 H cb hb sb db dO tv ts i cl came asked later m) (h0 : H0 sb = none) (n1 : cb ≠ sb) (n2 : hb ≠ sb) (n3 : db ≠ sb) (i' m' : Nat) :
  RunM H0 (H.set sb (spotO i' m')) cb hb sb db dO tv ts i' cl came asked later m' :=
 ⟨by rw [set_ne n1]; exact h.c, by rw [set_ne n2]; exact h.h, set_at, by rw [set_ne n3]; exact h.d, h.t.set (fun p c fr e => by rw [h.s] at e; cases e), h.l.own h0⟩
theorem run_spec (main : Md) (H : Hp) (db : Nat) (places pieces : Int) (sv cv tv : Value) (ts : List Int) (mb : Nat) (hdb : H db = some (true, dayO places pieces sv cv tv mb)) (hts : SlI H tv ts) (start : List Int) (hst : SlI H sv start) (hs6 : ∀ t ∈ start, 0 <= t /\ t < 6) (hsl : start.length <= 1000)
  (hl : ts.length <= 8) (h6 : ∀ t ∈ ts, 0 <= t /\ t < 6) (r : Int) (hr0 : 0 <= r) (hr3 : r <= 3) :
  FnX Tryz.prog main 86 #[.pointer (some ⟨db, 0, none⟩), ruleV r, .int .i64 ts.length] H fun e H' => e = .returned (.tuple #[.agg (ints (rrun places r ts (rs0 start) ts.length).cl).toArray, .int .i64 (rrun places r ts (rs0 start) ts.length).f]) /\ H.le H' := by
 have htsS := hts
 have hstS := hst
 obtain ⟨ta, tc, rfl, htc, _⟩ := hts
 obtain ⟨sa, sc, rfl, hsc, _⟩ := hst
 refine FnX_start Tryz.func86 rfl Tryz.ntmps86 (by simp) ?_
 (refine @unH _ ?_; refine zAi y86_33 ?_; (repeat (refine inC ?_; intro hc)); try (refine inK ?_; intro K hK))
 (intro cb hcb; generalize hG : Hp.set _ cb _ = H1; have lH1 := le_of_set hG hcb; have vcb := at_of_set hG; clear hG)
 have vdb1 := lH1 _ _ hdb
 have hts1 := htsS.le lH1
 have hst1 := hstS.le lH1
 ((try (refine @unH _ ?_; refine zXi y86_33 ?_)); (try (refine hK _ _ ?_; clear hK K; (try simp only [nq, ↓reduceIte, Nat.reduceEqDiff]))); refine @unH _ ?_; refine zAi y86_33 ?_; (repeat (refine inC ?_; intro hc)); try (refine inK ?_; intro K hK))
 (intro hb hhb; generalize hG : Hp.set _ hb _ = H2; have lH2 := le_of_set hG hhb; have vhb := at_of_set hG; clear hG)
 have vdb2 := lH2 _ _ vdb1
 have vcb2 := lH2 _ _ vcb
 have hts2 := hts1.le lH2
 have hst2 := hst1.le lH2
 have ncb : cb ≠ hb := ne_new vcb hhb
 have ncb' := ncb.symm
 have nhd : db ≠ hb := ne_new vdb1 hhb
 have nhd' := nhd.symm
 have ncd : db ≠ cb := ne_new hdb hcb
 have ncd' := ncd.symm
 have lH12 := Hp.le_trans lH1 lH2
 clear hdb htsS hstS vdb1 hts1 hst1
 ((try (refine @unH _ ?_; refine zXi y86_33 ?_)); (try (refine hK _ _ ?_; clear hK K; (try simp only [nq, ↓reduceIte, Nat.reduceEqDiff]))); refine @unH _ ?_; refine zAi y86_33 ?_; (repeat (refine inC ?_; intro hc)); try (refine inK ?_; intro K hK))
 refine wpX_loop (fun w a' H' => ∃ e j, w = start.length - j /\ j <= start.length /\ a' = act 142 e [] /\ e 0 = .pointer (some ⟨db, 0, none⟩) /\ e 1 = ruleV r /\ e 2 = .int .i64 ts.length /\ e 6 = .pointer (some ⟨cb, 0, none⟩) /\ e 7 = .int .i64 0 /\ e 8 = .pointer (some ⟨hb, 0, none⟩) /\ e 24 = .slice sa start.length sc /\ e 25 = .int .i64 start.length /\ e 26 = .int .i64 (j : Nat) /\
  H' = H2.set hb (histO (initL start j) (initL start j) (List.replicate 6 0))) (n := start.length) ?_ ?_
 ·refine ⟨_, 0, by omega, by omega, rfl, rfl, rfl, rfl, rfl, rfl, rfl, rfl, rfl, rfl, ?_⟩
  exact (set_self vhb).symm
 ·rintro w a' H' ⟨e, j, rfl, hj, rfl, e0, e1, e2, e6, e7, e8, e24, e25, e26, hH⟩
  generalize hG : H2.set hb (histO (initL start j) (initL start j) (List.replicate 6 0)) = H3 at hH
  have vhb3 := at_of_set hG
  have vdb3 := other_of_set hG vdb2 nhd
  have vcb3 := other_of_set hG vcb2 ncb
  have hst3 : SlI H3 (.slice sa start.length sc) start := by rw [<- hG]; exact hst2.set (fun p c fr h => by rw [vhb] at h; cases h)
  rw [hH]; clear hH H'
  by_cases hlt : j < start.length
  ·obtain ⟨b, o, cap', p, c, fr, hve, _, hb', hx⟩ := hst3.cons (fun h => absurd (congrArg List.length h) (by simp only [List.length_nil]; omega))
   cases hve
   have hxj := hx j start[j] (List.getElem?_eq_getElem hlt)
   have hbx := hs6 _ (List.getElem_mem hlt)
   have hini : initL start (j + 1) = (initL start j).set (start[j]).toNat ((j : Int) - start.length) := by simp [initL, List.getD, List.getElem?_eq_getElem hlt]
   have hil := initL_len start j
   generalize start[j] = x at hxj hbx hini
   have hlen18 := hist_len hil hil (show (List.replicate 6 (0 : Int)).length = 6 by simp)
   (refine @unH _ ?_; refine zAi y86_33 ?_; (repeat (refine inC ?_; intro hc)); try (refine inK ?_; intro K hK))
   refine wpX_dlast (fun HX => HX db = some (true, dayO places pieces (.slice (some ⟨b, o, none⟩) start.length sc) cv (.slice ta ts.length tc) mb)) 24 [(true, 0), (true, 1), (true, 2), (true, 3), (true, 4), (true, 5), (true, 6), (true, 7), (true, 8), (true, 9), (true, 10), (true, 11), (true, 12), (true, 13), (true, 14), (true, 15), (true, 16), (true, 17), (true, 18), (true, 19), (true, 21), (false, 20), (true, 22), (false, 23)] (by kernel_rfl) (by kernel_rfl) (by simp) (by kernel_rfl) ?_; intro K hK
   have hdbS := vdb3
   (iterate 21 (refine @unH _ ?_; refine z5i y86_33 ?_))
   refine planX_act ?_
   (refine @unH _ ?_; refine zXi y86_33 ?_)
   refine ⟨.inr trivial, ?_⟩
   generalize hG4 : Hp.set H3 hb _ = H4
   have vhb4 := at_of_set hG4
   have vdb4 := other_of_set hG4 vdb3 nhd
   (refine @unH _ ?_; refine z5i y86_33 ?_)
   refine planX_act ?_
   have hlen18' : ((ints (initL start j ++ (initL start j ++ List.replicate 6 0))).set x.toNat (Value.int .i64 ((j : Int) - start.length))).length = 18 := by rw [List.length_set]; exact hlen18
   (refine @unH _ ?_; refine zXi y86_33 ?_)
   refine ⟨.inr trivial, plan_nil (hK _ _ ?_)⟩
   clear hK K
   (try simp only [nq, ↓reduceIte, Nat.reduceEqDiff])
   (refine @unH _ ?_; refine zAi y86_33 ?_; (repeat (refine inC ?_; intro hc)); try (refine inK ?_; intro K hK))
   refine ⟨_, by omega, _, j + 1, rfl, hlt, rfl, e0, e1, e2, e6, e7, e8, e24, e25, rfl, ?_⟩
   rw [<- hG4, <- hG, set_set, set_set, hist_set1 hil _ (by omega), hist_set2 (by rw [List.length_set]; exact hil) hil _ (by omega), <- hini]
  ·obtain rfl : j = start.length := by omega
   have vdb3' := vdb3
   have hts3 : SlI H3 (.slice ta ts.length tc) ts := by rw [<- hG]; exact hts2.set (fun p c fr h => by rw [vhb] at h; cases h)
   have lH3 : Lex none H H3 := by rw [<- hG]; exact ((Lex.of lH12).own (Hp.le_none lH1 hhb))
   have hil := initL_len start start.length
   clear hG
   (refine @unH _ ?_; refine zAi y86_33 ?_; (repeat (refine inC ?_; intro hc)); try (refine inK ?_; intro K hK))
   refine (first_spec main H3 db places pieces _ cv _ start mb vdb3 hst3 hs6 (by omega)).runs.mono ?_
   rintro _ H4 ⟨rfl, lH4⟩
   have vdb4 := lH4 _ _ vdb3
   have vcb4 := lH4 _ _ vcb3
   have vhb4 := lH4 _ _ vhb3
   have hts4 := hts3.le lH4
   clear hst3 hts3 vdb3 vcb3 vhb3 vdb3'
   ((try (refine @unH _ ?_; refine zXi y86_33 ?_)); (try (refine hK _ _ ?_; clear hK K; (try simp only [nq, ↓reduceIte, Nat.reduceEqDiff]))); refine @unH _ ?_; refine zAi y86_33 ?_; (repeat (refine inC ?_; intro hc)); try (refine inK ?_; intro K hK))
   (intro sb hsb; generalize hG : Hp.set _ sb _ = H5; have lH5 := le_of_set hG hsb; have vsb := at_of_set hG; clear hG)
   have vdb5 := lH5 _ _ vdb4
   have vcb5 := lH5 _ _ vcb4
   have vhb5 := lH5 _ _ vhb4
   have hts5 := hts4.le lH5
   have nsd : sb ≠ db := (ne_new vdb4 hsb).symm
   have nsc : sb ≠ cb := (ne_new vcb4 hsb).symm
   have nsh : sb ≠ hb := (ne_new vhb4 hsb).symm
   have nsd' := nsd.symm
   have nsc' := nsc.symm
   have nsh' := nsh.symm
   ((try (refine @unH _ ?_; refine zXi y86_33 ?_)); (try (refine hK _ _ ?_; clear hK K; (try simp only [nq, ↓reduceIte, Nat.reduceEqDiff]))); refine @unH _ ?_; refine zAi y86_33 ?_; (repeat (refine inC ?_; intro hc)); try (refine inK ?_; intro K hK))
   have h0c : H cb = none := hcb
   have h0h : H hb = none := Hp.le_none lH1 hhb
   have h0s : H sb = none := lH3.gone (Hp.le_none lH4 hsb)
   have hM0 : RunM H H5 cb hb sb db (dayO places pieces (.slice sa start.length sc) cv (.slice ta ts.length tc) mb) (.slice ta ts.length tc) ts 0 (rs0 start).cl (rs0 start).came (rs0 start).asked (rs0 start).later (rs0 start).m :=
    ⟨vcb5, vhb5, vsb, vdb5, hts5, (lH3.le lH4).le lH5⟩
   have hO0 : RSOk (rs0 start) 0 := ⟨oOf_lt start 0 (by omega) fun x hx => ⟨(hs6 x hx).1, (hs6 x hx).2⟩, hil, hil, by simp [rs0], fun x hx => by simp [rs0] at hx; omega, by simp [rs0], by simp [rs0]⟩
   clear vcb5 vhb5 vsb vdb5 hts5 lH5 hhb hcb hsb vhb4 vcb4 vdb4 hts4 lH4 lH3 vdb2 vcb2 hts2 hst2 lH1 lH2 lH12 vhb vcb hil
   refine wpX_loop (fun w a' H' => ∃ e i, w = ts.length - i /\ i <= ts.length /\ a' = act 142 e [] /\ RSOk (rrun places r ts (rs0 start) i) i /\ RunE e cb hb sb db r ta ts.length tc (rrun places r ts (rs0 start) i).f i /\
    RunM H H' cb hb sb db (dayO places pieces (.slice sa start.length sc) cv (.slice ta ts.length tc) mb) (.slice ta ts.length tc) ts i (rrun places r ts (rs0 start) i).cl (rrun places r ts (rs0 start) i).came (rrun places r ts (rs0 start) i).asked (rrun places r ts (rs0 start) i).later (rrun places r ts (rs0 start) i).m) (n := ts.length) ?_ ?_
   ·exact ⟨_, 0, by omega, by omega, rfl, hO0, ⟨e0, e1, e2, e6, e7, e8, rfl, rfl, rfl, rfl⟩, hM0⟩
   ·rintro w a' H6 ⟨e, i, rfl, hi, rfl, hO, ⟨e0, e1, e2, e6, e7, e8, e11, e59, e60, e61⟩, hM⟩
    clear hM0 hO0
    by_cases hlt : i < ts.length
    ·have hstep : rrun places r ts (rs0 start) (i + 1) = rstep places r ts i ts[i] (rrun places r ts (rs0 start) i) := by simp [rrun, List.getD, List.getElem?_eq_getElem hlt]
     have hti := List.getElem?_eq_getElem hlt
     have htb := h6 _ (List.getElem_mem hlt)
     have hO' := hO.step places r ts ts[i] hlt (by omega) htb.1 htb.2
     rw [<- hstep] at hO'
     generalize hS1 : rrun places r ts (rs0 start) (i + 1) = S1 at hstep hO'
     generalize rrun places r ts (rs0 start) i = S at hstep hO e7 hM
     generalize ts[i] = t at hstep hti htb
     replace hstep := hstep.symm
     obtain ⟨b, o, cap', p, c, fr, hve, _, hb', hx⟩ := hM.t.cons (fun h => absurd (congrArg List.length h) (by simp only [List.length_nil]; omega))
     cases hve
     have hxi := hx i t hti
     have hcl : (ints S.cl).length = 8 := by rw [ints_len]; exact hO.cl
     have vcb6 := hM.c
     have vsb6 := hM.s
     have hi8 : i < 8 := by omega
     (refine @unH _ ?_; refine zSi y86_33 ?_; (repeat (refine inC ?_; intro hc)); try (refine inK ?_; intro K hK))
     refine wpX_seq ?_
     (refine @unH _ ?_; refine zSi y86_33 ?_; (repeat (refine inC ?_; intro hc)); try (refine inK ?_; intro K hK))
     refine wpX_seq (wpX_block ?_)
     (refine @unH _ ?_; refine zSi y86_33 ?_; (repeat (refine inC ?_; intro hc)); try (refine inK ?_; intro K hK))
     rw [ints_setL]
     have hM7 := hM.setC h0c ncb' nsc ncd (S.cl.set i (-1))
     generalize H6.set cb (choiceO (S.cl.set i (-1))) = H7 at *
     clear hM vcb6 vsb6 hb' hxi hx hcl
     refine (needs_spec main H7 db places pieces _ cv _ ts mb hM7.d hM7.t i S.m t hti htb.1 htb.2 hO.m).runs.mono ?_
     rintro _ H8 ⟨rfl, lH8⟩
     have hM8 := hM7.le lH8
     clear hM7 lH8
     ((try (refine @unH _ ?_; refine zXi y86_33 ?_)); (try (refine hK _ _ ?_; clear hK K; (try simp only [nq, ↓reduceIte, Nat.reduceEqDiff]))); refine @unH _ ?_; refine zSi y86_33 ?_; (repeat (refine inC ?_; intro hc)); try (refine inK ?_; intro K hK))
     refine wpX_cut (fun a' H' => ∃ e, a' = act 142 e [] /\ RunE e cb hb sb db r (some ⟨b, o, none⟩) ts.length tc S.f i /\ e 12 = .int .i64 i /\ e 13 = .int .i64 t /\ e 14 = .bool (!S.m.testBit t.toNat) /\ e 15 = .bool (sendB places S.m t) /\
      RunM H H' cb hb sb db (dayO places pieces (.slice sa start.length sc) cv (.slice (some ⟨b, o, none⟩) ts.length tc) mb) (.slice (some ⟨b, o, none⟩) ts.length tc) ts i (S.cl.set i (-1)) S.came S.asked S1.later S.m) ?_ ?_
     ·have hlat : S1.later = if r = 3 /\ sendB places S.m t then laterL ts (i + 1) else S.later := by rw [<- hstep]; rfl
      (refine @unH _ ?_; refine z0_33 ?_; (repeat (refine inC ?_; intro hc)); try (refine inK ?_; intro K hK))
      (intro nb hnb; generalize hG : Hp.set _ nb _ = H9; have lH9 := le_of_set hG hnb; have vnb := at_of_set hG; clear hG)
      have hM9 := hM8.le lH9
      clear hM8 lH9 vnb hnb
      have vhb9 := hM9.h
      cases hsnd : sendB places S.m t
      ·rw [hsnd] at hlat
       simp only [Bool.false_eq_true, and_false, if_false] at hlat
       have hsb : (!S.m.testBit t.toNat && decide (places <= ↑(oCount S.m))) = false := hsnd
       rw [hsb]
       have hM9' := hlat.symm ▸ hM9
       by_cases hr : r = 3
       ·((try (refine @unH _ ?_; refine x1_33 ?_)); (try (refine hK _ _ ?_; clear hK K; (try simp only [nq, ↓reduceIte, Nat.reduceEqDiff]))); refine @unH _ ?_; refine z0_33 ?_; (repeat (refine inC ?_; intro hc)); try (refine inK ?_; intro K hK))
        exact ⟨_, rfl, ⟨e0, e1, e2, e6, e7, e8, e11, e59, e60, e61⟩, rfl, rfl, rfl, by rw [hsnd]; rfl, hM9'⟩
       ·((try (refine @unH _ ?_; refine x1_33 ?_)); (try (refine hK _ _ ?_; clear hK K; (try simp only [nq, ↓reduceIte, Nat.reduceEqDiff]))); refine @unH _ ?_; refine z0_33 ?_; (repeat (refine inC ?_; intro hc)); try (refine inK ?_; intro K hK))
        exact ⟨_, rfl, ⟨e0, e1, e2, e6, e7, e8, e11, e59, e60, e61⟩, rfl, rfl, rfl, by rw [hsnd]; rfl, hM9'⟩
      ·rw [hsnd] at hlat
       have hsb : (!S.m.testBit t.toNat && decide (places <= ↑(oCount S.m))) = true := hsnd
       rw [hsb]
       by_cases hr : r = 3
       ·rw [if_pos ⟨hr, rfl⟩] at hlat
        ((try (refine @unH _ ?_; refine x1_33 ?_)); (try (refine hK _ _ ?_; clear hK K; (try simp only [nq, ↓reduceIte, Nat.reduceEqDiff]))); refine @unH _ ?_; refine z0_33 ?_; (repeat (refine inC ?_; intro hc)); try (refine inK ?_; intro K hK))
        refine (look_spec main H9 db places pieces _ cv _ ts mb hM9.d hM9.t hb S.came S.asked S.later hO.came hO.asked hO.later hM9.h nhd' (by omega) h6 i hlt).runs.mono ?_
        rintro _ H10 ⟨rfl, hH10⟩
        rw [hH10]; clear hH10 H10
        have hM10 := hM9.setH h0h ncb nsh nhd S.came S.asked (laterL ts (i + 1))
        rw [<- hlat] at hM10 ⊢
        clear hlat
        ((try (refine @unH _ ?_; refine zXi y86_33 ?_)); (try (refine hK _ _ ?_; clear hK K; (try simp only [nq, ↓reduceIte, Nat.reduceEqDiff]))); refine @unH _ ?_; refine zAi y86_33 ?_; (repeat (refine inC ?_; intro hc)); try (refine inK ?_; intro K hK))
        exact ⟨_, rfl, ⟨e0, e1, e2, e6, e7, e8, e11, e59, e60, e61⟩, rfl, rfl, rfl, by rw [hsnd]; rfl, hM10⟩
       ·rw [if_neg (fun h => hr h.1)] at hlat
        have hM9' := hlat.symm ▸ hM9
        ((try (refine @unH _ ?_; refine x1_33 ?_)); (try (refine hK _ _ ?_; clear hK K; (try simp only [nq, ↓reduceIte, Nat.reduceEqDiff]))); refine @unH _ ?_; refine z0_33 ?_; (repeat (refine inC ?_; intro hc)); try (refine inK ?_; intro K hK))
        exact ⟨_, rfl, ⟨e0, e1, e2, e6, e7, e8, e11, e59, e60, e61⟩, rfl, rfl, rfl, by rw [hsnd]; rfl, hM9'⟩
     ·rintro a' H9 ⟨e', rfl, ⟨e0', e1', e2', e6', e7', e8', e11', e59', e60', e61'⟩, e12', e13', e14', e15', hM9⟩
      clear hM8 e0 e1 e2 e6 e7 e8 e11 e59 e60 e61
      rename_i eold
      clear eold
      refine wpX_cut (fun a' H' => ∃ e, a' = act 142 e [] /\ RunE e cb hb sb db r (some ⟨b, o, none⟩) ts.length tc S.f i /\ e 12 = .int .i64 i /\ e 13 = .int .i64 t /\ e 14 = .bool (!S.m.testBit t.toNat) /\
       RunM H H' cb hb sb db (dayO places pieces (.slice sa start.length sc) cv (.slice (some ⟨b, o, none⟩) ts.length tc) mb) (.slice (some ⟨b, o, none⟩) ts.length tc) ts i S1.cl S.came S.asked S1.later S.m) ?_ ?_
      ·have hcl1 : S1.cl = S.cl.set i (if sendB places S.m t then pickF (rankF r S.came S.asked S1.later) (oList S.m) else -1) := by
        rw [<- hstep]
        simp only [rstep, rsent]
        cases sendB places S.m t
        ·rfl
        ·simp only [if_true, and_true]
       have vsb9 := hM9.s
       cases hsnd : sendB places S.m t
       ·rw [hsnd] at hcl1 e15'
        simp only [Bool.false_eq_true, if_false] at hcl1
        rw [<- hcl1] at hM9
        clear hcl1
        (refine @unH _ ?_; refine zAi y86_33 ?_; (repeat (refine inC ?_; intro hc)); try (refine inK ?_; intro K hK))
        exact ⟨_, rfl, ⟨e0', e1', e2', e6', e7', e8', e11', e59', e60', e61'⟩, e12', e13', e14', hM9⟩
       ·rw [hsnd] at hcl1 e15'
        simp only [if_true] at hcl1
        (refine @unH _ ?_; refine zAi y86_33 ?_; (repeat (refine inC ?_; intro hc)); try (refine inK ?_; intro K hK))
        refine (list_spec main H9 S.m hO.m).runs.mono ?_
        rintro _ H10 ⟨lv, rfl, hlv, lH10⟩
        have hM10 := hM9.le lH10
        have hlm : ∀ x ∈ oList S.m, 0 <= x /\ x < 6 := fun x hx => ⟨(oList_mem hx).1, (oList_mem hx).2.1⟩
        have hll : (oList S.m).length <= 6 := oListN_len S.m 6
        clear hM9 lH10
        have hlvS := hlv
        obtain ⟨la, lc, rfl, hlc, _⟩ := hlv
        generalize hL : oList S.m = L at *
        ((try (refine @unH _ ?_; refine zXi y86_33 ?_)); (try (refine hK _ _ ?_; clear hK K; (try simp only [nq, ↓reduceIte, Nat.reduceEqDiff]))); refine @unH _ ?_; refine zAi y86_33 ?_; (repeat (refine inC ?_; intro hc)); try (refine inK ?_; intro K hK))
        refine wpX_loop (fun w a' H' => ∃ e k, w = L.length - k /\ k <= L.length /\ a' = act 142 e [] /\ RunE e cb hb sb db r (some ⟨b, o, none⟩) ts.length tc S.f i /\ e 12 = .int .i64 i /\ e 13 = .int .i64 t /\ e 14 = .bool (!S.m.testBit t.toNat) /\ e 89 = .slice la L.length lc /\ e 90 = .int .i64 L.length /\ e 91 = .int .i64 k /\ SlI H' (.slice la L.length lc) L /\
         RunM H H' cb hb sb db (dayO places pieces (.slice sa start.length sc) cv (.slice (some ⟨b, o, none⟩) ts.length tc) mb) (.slice (some ⟨b, o, none⟩) ts.length tc) ts i (S.cl.set i (pickF (rankF r S.came S.asked S1.later) (L.take k))) S.came S.asked S1.later S.m) (n := L.length) ?_ ?_
        ·exact ⟨_, 0, by omega, by omega, rfl, ⟨e0', e1', e2', e6', e7', e8', e11', e59', e60', e61'⟩, e12', e13', e14', rfl, rfl, rfl, hlvS, hM10⟩
        ·clear hM10 e0' e1' e2' e6' e7' e8' e11' e59' e60' e61' e12' e13' e14' e15' hlvS
         rename_i eold
         clear eold
         rintro w a' H11 ⟨e, k, rfl, hk, rfl, ⟨e0, e1, e2, e6, e7, e8, e11, e59, e60, e61⟩, e12, e13, e14, e89, e90, e91, hlv, hM⟩
         by_cases hltk : k < L.length
         ·obtain ⟨b2, o2, cap2, p2, c2, fr2, hve, _, hb2, hx2⟩ := hlv.cons (fun h => absurd (congrArg List.length h) (by simp only [List.length_nil]; omega))
          cases hve
          have hxk := hx2 k L[k] (List.getElem?_eq_getElem hltk)
          have hqb := hlm _ (List.getElem_mem hltk)
          have hfold : pickF (rankF r S.came S.asked S1.later) (L.take (k + 1)) = if pickF (rankF r S.came S.asked S1.later) (L.take k) < 0 ∨ rankF r S.came S.asked S1.later L[k] < rankF r S.came S.asked S1.later (pickF (rankF r S.came S.asked S1.later) (L.take k)) then L[k] else pickF (rankF r S.came S.asked S1.later) (L.take k) := by
           unfold pickF
           rw [List.take_add_one, List.getElem?_eq_getElem hltk, List.foldl_append]
           rfl
          have hcr : pickF (rankF r S.came S.asked S1.later) (L.take k) = -1 ∨ 0 <= pickF (rankF r S.came S.asked S1.later) (L.take k) /\ pickF (rankF r S.came S.asked S1.later) (L.take k) < 6 := by
           rcases foldl_pick_mem (rankF r S.came S.asked S1.later) (L.take k) (-1) with h | h
           ·exact .inl h
           ·exact .inr (hlm _ (List.mem_of_mem_take h))
          generalize L[k] = q at hxk hqb hfold
          generalize hce : pickF (rankF r S.came S.asked S1.later) (L.take (k + 1)) = c' at hfold
          generalize pickF (rankF r S.came S.asked S1.later) (L.take k) = c0 at hfold hcr hM
          have vcb11 := hM.c
          have vhb11 := hM.h
          have hcl8 : (S.cl.set i c0).length = 8 := by rw [List.length_set]; exact hO.cl
          have hcl8i : (ints (S.cl.set i c0)).length = 8 := by rw [ints_len]; exact hcl8
          have hci : (ints (S.cl.set i c0))[i]? = some (.int .i64 c0) := by
           refine ints_get ?_
           rw [List.getElem?_set_self (by have := hO.cl; omega)]
          have hrb : ∀ x ∈ S1.later, 0 <= x /\ x <= 1000 := hO'.bnd
          (refine @unH _ ?_; refine zSi y86_33 ?_; (repeat (refine inC ?_; intro hc)); try (refine inK ?_; intro K hK))
          refine wpX_seq ?_
          (refine @unH _ ?_; refine zSi y86_33 ?_; (repeat (refine inC ?_; intro hc)); try (refine inK ?_; intro K hK))
          refine wpX_seq (wpX_block ?_)
          (refine @unH _ ?_; refine zSi y86_33 ?_; (repeat (refine inC ?_; intro hc)); try (refine inK ?_; intro K hK))
          rcases hcr with rfl | ⟨hc1, hc2⟩
          ·refine wpX_dst0 18 [(true, 0), (true, 1), (true, 2), (true, 3), (true, 4), (true, 5), (true, 6), (true, 7), (true, 8), (true, 9), (true, 10), (true, 11), (true, 12), (true, 13), (true, 14), (true, 15), (true, 16), (true, 17)] (by kernel_rfl) (by kernel_rfl) (by simp) (by kernel_rfl) ?_; intro K hK
           (iterate 5 (refine @unH _ ?_; refine z3i y86_33 ?_))
           (iterate 12 (apply plan_skip rfl (by simp -implicitDefEqProofs (disch := omega) only [wanted_some, yielded_list, ylK_bool, List.getElem?_cons_succ, List.getElem?_cons_zero, Option.bind_some, act_get?, upd_get, Nat.reduceEqDiff, ↓reduceIte, *]; rfl); simp -implicitDefEqProofs (disch := first | omega | (simp only [qd] <;> omega)) only [act_put, act_put_none]))
           (refine @unH _ ?_; refine z3i y86_33 ?_)
           refine plan_nil (hK _ _ ?_); clear hK K
           (refine @unH _ ?_; refine zAi y86_33 ?_; (repeat (refine inC ?_; intro hc)); try (refine inK ?_; intro K hK))
           have hc' : c' = q := by rw [hfold]; simp
           have hset : (ints (S.cl.set i (-1))).set i (Value.int .i64 q) = ints (S.cl.set i c') := by rw [ints_setL, List.set_set, hc']
           rw [hset]
           exact ⟨_, by omega, _, k + 1, rfl, hltk, rfl, ⟨e0, e1, e2, e6, e7, e8, e11, e59, e60, e61⟩, e12, e13, e14, e89, e90, rfl, hlv.set (fun p c fr h => by rw [hM.c] at h; cases h), by rw [hce]; exact hM.setC h0c ncb' nsc ncd _⟩
          ·refine wpX_dst0 18 [(true, 0), (true, 1), (true, 2), (true, 3), (true, 4), (true, 5), (true, 6), (true, 7), (true, 8), (true, 9), (true, 10), (true, 11), (true, 12), (true, 13), (true, 14), (true, 15), (true, 16), (true, 17)] (by kernel_rfl) (by kernel_rfl) (by simp) (by kernel_rfl) ?_; intro K hK
           (iterate 5 (refine @unH _ ?_; refine z3i y86_33 ?_))
           (iterate 2 (refine @unH _ ?_; refine z6i y86_33 ?_))
           (apply plan_take rfl (by simp -implicitDefEqProofs (disch := omega) only [wanted_some, yielded_list, ylK_bool, List.getElem?_cons_succ, List.getElem?_cons_zero, Option.bind_some, act_get?, upd_get, Nat.reduceEqDiff, ↓reduceIte, beq_self_eq_true, *]) rfl; (focus ((refine @unH _ ?_; refine zXi y86_33 ?_); exact rank_yields main _ r q hb _ _ _ hO.came hO.asked hO'.later hrb hqb.1 hqb.2 hM.h hr0 hr3)); simp -implicitDefEqProofs (disch := first | omega | (simp only [qd] <;> omega)) only [act_put, act_put_none])
           (iterate 5 (refine @unH _ ?_; refine z6i y86_33 ?_))
           (refine @unH _ ?_; refine z6i (And.intro y86_33 @nil_rule) ?_)
           (refine @unH _ ?_; refine z6i y86_33 ?_)
           (apply plan_take rfl (by simp -implicitDefEqProofs (disch := omega) only [wanted_some, yielded_list, ylK_bool, List.getElem?_cons_succ, List.getElem?_cons_zero, Option.bind_some, act_get?, upd_get, Nat.reduceEqDiff, ↓reduceIte, beq_self_eq_true, *]) rfl; (focus ((refine @unH _ ?_; refine zXi y86_33 ?_); exact rank_yields main _ r c0 hb _ _ _ hO.came hO.asked hO'.later hrb hc1 hc2 hM.h hr0 hr3)); simp -implicitDefEqProofs (disch := first | omega | (simp only [qd] <;> omega)) only [act_put, act_put_none])
           (refine @unH _ ?_; refine z6i y86_33 ?_)
           (refine @unH _ ?_; refine z3i y86_33 ?_)
           refine plan_nil (hK _ _ ?_); clear hK K
           repeat' (first
 | (refine wpX_stmtL rfl ?_; intro K hK; simp -implicitDefEqProofs (disch := first | omega | (simp only [qd] <;> omega)) only [xq, ↓xp, qc, Nat.reduceAdd, List.range, List.range.loop, fine, Nat.reduceEqDiff, ↓reduceIte, yielded, reduceCtorEq, Nat.reduceLT, Nat.reduceMul, Nat.reduceSub, one, Nat.reduceLeDiff, runX_cons, y86_33, ↓ex_invoke, aq, ↓ap, qe0, qe1, qe2, *, -hK]; try (refine hK _ _ ?_; clear hK K))
 | (refine wpX_lastL rfl ?_; intro K hK; simp -implicitDefEqProofs (disch := first | omega | (simp only [qd] <;> omega)) only [xq, ↓xp, qc, Nat.reduceAdd, List.range, List.range.loop, fine, Nat.reduceEqDiff, ↓reduceIte, yielded, reduceCtorEq, Nat.reduceLT, Nat.reduceMul, Nat.reduceSub, one, Nat.reduceLeDiff, runX_cons, y86_33, ↓ex_invoke, aq, ↓ap, qe0, qe1, qe2, *, -hK]; try (refine hK _ _ ?_; clear hK K; (try simp only [nq, ↓reduceIte, Nat.reduceEqDiff])))
 | (refine wpX_skip ?_; (try simp only [nq, ↓reduceIte, Nat.reduceEqDiff]))
 | (refine wpX_label ?_; (try simp only [nq, ↓reduceIte, Nat.reduceEqDiff]))
 | (refine wpX_exit ?_; (try simp only [nq, ↓reduceIte, Nat.reduceEqDiff]))
 | (refine wpX_goto ?_; (try simp only [nq, ↓reduceIte, Nat.reduceEqDiff]))
 | (refine wpX_condK (by simp only [act_eval, upd_get, Nat.reduceEqDiff, Nat.reduceLT, ↓reduceIte, *]; rfl) ?_ ?_ <;> (intro hc; first | (exfalso; simp -implicitDefEqProofs (disch := omega) only [*, bq, reduceCtorEq] at hc; done) | (simp only [dq, qe3, qe4, qe5, qe6] at hc) | skip))
 | (refine wpX_scope0 ?_)
 | (refine wpX_block ?_)
 | (refine wpX_seq ?_))
           ·have hc' : c' = q := by rw [hfold, if_pos (.inr hc)]
            have hset : (ints (S.cl.set i c0)).set i (Value.int .i64 q) = ints (S.cl.set i c') := by rw [ints_setL, List.set_set, hc']
            rw [hset]
            exact ⟨_, by omega, _, k + 1, rfl, hltk, rfl, ⟨e0, e1, e2, e6, e7, e8, e11, e59, e60, e61⟩, e12, e13, e14, e89, e90, rfl, hlv.set (fun p c fr h => by rw [hM.c] at h; cases h), by rw [hce]; exact hM.setC h0c ncb' nsc ncd _⟩
           ·have hc' : c' = c0 := by rw [hfold, if_neg (by omega)]
            exact ⟨_, by omega, _, k + 1, rfl, hltk, rfl, ⟨e0, e1, e2, e6, e7, e8, e11, e59, e60, e61⟩, e12, e13, e14, e89, e90, rfl, hlv, by rw [hce, hc']; exact hM⟩
         ·obtain rfl : k = L.length := by omega
          rw [List.take_length, <- hcl1] at hM
          clear hcl1
          (refine @unH _ ?_; refine zAi y86_33 ?_; (repeat (refine inC ?_; intro hc)); try (refine inK ?_; intro K hK))
          exact ⟨_, rfl, ⟨e0, e1, e2, e6, e7, e8, e11, e59, e60, e61⟩, e12, e13, e14, hM⟩
      ·rintro a' H9 ⟨e, rfl, ⟨e0, e1, e2, e6, e7, e8, e11, e59, e60, e61⟩, e12, e13, e14, hM⟩
       clear hM9 e0' e1' e2' e6' e7' e8' e11' e59' e60' e61' e12' e13' e14' e15'
       rename_i eold
       clear eold
       have hSf : S1.f = S.f + if S.m.testBit t.toNat then 0 else 1 := by rw [<- hstep]; rfl
       have hSc : S1.came = if S.m.testBit t.toNat then S.came else S.came.set t.toNat i := by rw [<- hstep]; rfl
       refine wpX_cut (fun a' H' => ∃ e, a' = act 142 e [] /\ RunE e cb hb sb db r (some ⟨b, o, none⟩) ts.length tc S1.f i /\ e 12 = .int .i64 i /\ e 13 = .int .i64 t /\
        RunM H H' cb hb sb db (dayO places pieces (.slice sa start.length sc) cv (.slice (some ⟨b, o, none⟩) ts.length tc) mb) (.slice (some ⟨b, o, none⟩) ts.length tc) ts i S1.cl S1.came S.asked S1.later S.m) ?_ ?_
       ·have vhb9 := hM.h
        have hlen18 := hist_len hO.came hO.asked hO'.later
        have hf8 : S.f <= i := hO.f
        cases hbit : S.m.testBit t.toNat
        ·rw [hbit] at hSf hSc e14
         simp only [Bool.false_eq_true, if_false] at hSf hSc
         (refine @unH _ ?_; refine zAi y86_33 ?_; (repeat (refine inC ?_; intro hc)); try (refine inK ?_; intro K hK))
         rw [hist_set1 hO.came _ (by omega), <- hSc]
         refine ⟨_, rfl, ⟨e0, e1, e2, e6, ?_, e8, e11, e59, e60, e61⟩, e12, e13, hM.setH h0h ncb nsh nhd _ _ _⟩
         rw [hSf]; rfl
        ·rw [hbit] at hSf hSc e14
         simp only [if_true, Nat.add_zero] at hSf hSc
         (refine @unH _ ?_; refine zAi y86_33 ?_; (repeat (refine inC ?_; intro hc)); try (refine inK ?_; intro K hK))
         exact ⟨_, rfl, ⟨e0, e1, e2, e6, by rw [hSf]; exact e7, e8, e11, e59, e60, e61⟩, e12, e13, by rw [hSc]; exact hM⟩
       ·clear hM e0 e1 e2 e6 e7 e8 e11 e59 e60 e61 e12 e13 e14 hSf hSc
        rename_i eold
        clear eold
        rintro a' H9 ⟨e, rfl, ⟨e0, e1, e2, e6, e7, e8, e11, e59, e60, e61⟩, e12, e13, hM⟩
        have hSa : S1.asked = S.asked.set t.toNat i := by rw [<- hstep]; rfl
        have hSm : S1.m = oNext S.m (rsent places r ts i t S) t := by rw [<- hstep]; rfl
        have hScl : S1.cl = S.cl.set i (rsent places r ts i t S) := by rw [<- hstep]; rfl
        have hcli : S1.cl[i]? = some (rsent places r ts i t S) := by rw [hScl, List.getElem?_set_self (by have := hO.cl; omega)]
        have hcl8i : (ints S1.cl).length = 8 := by rw [ints_len]; exact hO'.cl
        have hci := ints_get hcli
        have hs6' : rsent places r ts i t S < 6 := by
         unfold rsent
         split
         ·exact pickF_lt _ _
         ·omega
        have hf' := hO'.f
        have vhb9 := hM.h
        have hlen18 := hist_len hO'.came hO.asked hO'.later
        generalize rsent places r ts i t S = sent at hSm hci hs6'
        clear hcli hScl
        (refine @unH _ ?_; refine zAi y86_33 ?_; (repeat (refine inC ?_; intro hc)); try (refine inK ?_; intro K hK))
        rw [hist_set2 hO'.came hO.asked _ (by omega), <- hSa]
        have hM10 := hM.setH h0h ncb nsh nhd S1.came S1.asked S1.later
        generalize H9.set hb (histO S1.came S1.asked S1.later) = H10 at *
        clear hM vhb9 hlen18
        have vcb10 := hM10.c
        have vsb10 := hM10.s
        refine wpX_dst1 6 [(true, 0), (true, 1), (true, 2), (true, 3), (true, 4), (true, 5), (false, 6)] (by kernel_rfl) (by kernel_rfl) (by simp) (by kernel_rfl) ?_; intro K hK
        (iterate 5 (refine @unH _ ?_; refine z3i y86_33 ?_))
        (apply plan_take rfl rfl rfl; (focus ((refine @unH _ ?_; refine zXi y86_33 ?_); exact quiet_le (vnext_spec main H10 db places pieces _ cv _ ts mb hM10.d hM10.t (by omega) i S.m sent t hti htb.1 htb.2 hO.m hs6'))); simp -implicitDefEqProofs (disch := first | omega | (simp only [qd] <;> omega)) only [act_put, act_put_none])
        refine plan_tail ?_
        ((try (refine @unH _ ?_; refine zXi y86_33 ?_)); (try (refine hK _ _ ?_; clear hK K; (try simp only [nq, ↓reduceIte, Nat.reduceEqDiff]))); refine @unH _ ?_; refine zAi y86_33 ?_; (repeat (refine inC ?_; intro hc)); try (refine inK ?_; intro K hK))
        have hM11 := hM10.setS h0s nsc' nsh' nsd' (i + 1) (oNext S.m sent t)
        rw [<- hSm] at hM11
        refine ⟨_, ?_, _, i + 1, rfl, hlt, rfl, by rw [hS1]; exact hO', ⟨e0, e1, e2, e6, by rw [hS1]; exact e7, e8, e11, e59, e60, rfl⟩, ?_⟩
        ·omega
        ·rw [hS1, <- hSm]; exact hM11
    ·obtain rfl : i = ts.length := by omega
     have vcb6 := hM.c
     have hcl8 : (ints (rrun places r ts (rs0 start) ts.length).cl).length = 8 := by rw [ints_len]; exact hO.cl
     generalize (rrun places r ts (rs0 start) ts.length).f = F at *
     generalize (rrun places r ts (rs0 start) ts.length).cl = C at *
     have htk : (ints C).take 8 = ints C := List.take_of_length_le (by omega)
     have hne0 : ints C ≠ [] := fun h => by rw [h] at hcl8; cases hcl8
     have hone : (ints C).all one = true := List.all_eq_true.2 (ints_one C)
     have hov : over (ints C).toArray 0 (ints C) = (ints C).toArray := by
      rw [over_list _ _ _ (by omega)]
      simp
     (refine @unH _ ?_; refine z2_33 ?_; (repeat (refine inC ?_; intro hc)); try (refine inK ?_; intro K hK))
     (refine wpX_ret ?_; (try simp only [nq, ↓reduceIte, Nat.reduceEqDiff]); rw [bodyX_ret, results_cell_tmp Tryz.results86 (by decide) (by decide) (b := cb) (o := 0) ?hcell Tryz.underlying107 rfl Tryz.sizeOf107]; (case hcell => exact e6); simp -implicitDefEqProofs (disch := first | omega | (simp only [qd] <;> omega)) only [xq, ↓xp, qc, Nat.reduceAdd, List.range, List.range.loop, fine, Nat.reduceEqDiff, ↓reduceIte, yielded, reduceCtorEq, Nat.reduceLT, Nat.reduceMul, Nat.reduceSub, one, Nat.reduceLeDiff, runX_cons, y86_33, ↓ex_invoke, loadA_set, htk, hcl8, Nat.le_refl])
     exact (hM.l.own h0c).toLe
end Go.Proofs.YtofmadjgbcopdaaGreatDoor
end
section
namespace Go.Proofs.YtofmadjgbcopdaaGreatDoor
open Go Go.X
def y39_34 := And.intro (fun H => loadAt_aggE (H := H) Tryz.underlying25 rfl Tryz.sizeOf25) (And.intro @callF84 (And.intro @callF85 (And.intro @eqG_iface (And.intro @eqG_nil (And.intro (fun H => bin_eql_nil (H := H) Tryz.underlying104) (And.intro (fun H => bin_eql_iface (H := H) Tryz.underlying104) (And.intro (fun H => bin_neq_nil (H := H) Tryz.underlying104) (And.intro (fun H => bin_neq_iface (H := H) Tryz.underlying104) (And.intro (fun H => len_slice (H := H) Tryz.underlying22) (And.intro @callF86 (And.intro (fun H => ex_alloc (H := H) (P := Tryz.prog) (h := Tryz.zeroValue107)) (And.intro (fun H => storeAt_agg (H := H) Tryz.sizeOf107) (And.intro (fun H => slice_arr (H := H) Tryz.underlying107 Tryz.sizeOf3) (And.intro (fun H => slice_arr_hi (H := H) Tryz.underlying107 Tryz.sizeOf3) @callF87))))))))))))))
def y87_34 := And.intro @eqG_slice (And.intro (fun H => bin_eql_slice (H := H) Tryz.underlying22) (fun H => buildSlice0 (H := H) Tryz.underlying22 Tryz.sizeOf3))
theorem z0_34 {p q : Prop} (g : q) (h : Hid q -> p := by
 intro g
 repeat' (first
 | (refine wpX_stmtL rfl ?_; intro Kz hKz; simp -implicitDefEqProofs (disch := first | omega | (simp only [qd] <;> omega)) only [xq, ↓xp, qc, Nat.reduceAdd, List.range, List.range.loop, fine, Nat.reduceEqDiff, ↓reduceIte, yielded, reduceCtorEq, Nat.reduceLT, Nat.reduceMul, Nat.reduceSub, one, Nat.reduceLeDiff, runX_cons, y87_34, aq, ↓ap, qe0, qe1, qe2, *, -g, -hKz, Option.isNone_some]; try (refine hKz _ _ ?_; clear hKz Kz))
 | (refine wpX_lastL rfl ?_; intro Kz hKz; simp -implicitDefEqProofs (disch := first | omega | (simp only [qd] <;> omega)) only [xq, ↓xp, qc, Nat.reduceAdd, List.range, List.range.loop, fine, Nat.reduceEqDiff, ↓reduceIte, yielded, reduceCtorEq, Nat.reduceLT, Nat.reduceMul, Nat.reduceSub, one, Nat.reduceLeDiff, runX_cons, y87_34, aq, ↓ap, qe0, qe1, qe2, *, -g, -hKz, Option.isNone_some]; try (refine hKz _ _ ?_; clear hKz Kz; (try simp only [nq, ↓reduceIte, Nat.reduceEqDiff])))
 | (refine wpX_skip ?_; (try simp only [nq, ↓reduceIte, Nat.reduceEqDiff]))
 | (refine wpX_label ?_; (try simp only [nq, ↓reduceIte, Nat.reduceEqDiff]))
 | (refine wpX_exit ?_; (try simp only [nq, ↓reduceIte, Nat.reduceEqDiff]))
 | (refine wpX_goto ?_; (try simp only [nq, ↓reduceIte, Nat.reduceEqDiff]))
 | (refine wpX_condK (by simp only [act_eval, upd_get, Nat.reduceEqDiff, Nat.reduceLT, ↓reduceIte, *, -g]; rfl) ?_ ?_ <;> (intro hcz; first | (exfalso; simp -implicitDefEqProofs (disch := omega) only [*, -g, bq, reduceCtorEq] at hcz; done) | (simp only [dq, qe3, qe4, qe5, qe6] at hcz) | skip))
 | (refine wpX_scope0 ?_)
 | (refine wpX_block ?_)
 | (refine wpX_seq ?_))
 (try (revert Kz; refine unK ?_)); (repeat (revert hcz; refine unC ?_))
 exact Hid.out g) : Hid p := ⟨h ⟨g⟩⟩
theorem TruthOk.bnd {xss : List (List Int)} {ts : List Int} {places pieces : Int} {start : List Int} (h : TruthOk xss ts) (ho : VaultOk places pieces start xss) : ∀ t ∈ ts, 0 <= t /\ t < 6 := by
 intro t ht
 obtain ⟨i, hi, rfl⟩ := List.getElem_of_mem ht
 have hix : i < xss.length := by rw [<- h.1]; exact hi
 have := h.2 i ts[i] xss[i] (List.getElem?_eq_getElem hi) (List.getElem?_eq_getElem hix)
 have h2 := (ho.2.2.2.2.2.2.2 _ (List.getElem_mem hix)).2.2 _ this
 have h3 := ho.2.2.2.1
 omega
theorem rrun_ok (pl r : Int) (ts start : List Int) (hs6 : ∀ t ∈ start, 0 <= t /\ t < 6) (h6 : ∀ t ∈ ts, 0 <= t /\ t < 6) (hl : ts.length <= 1000) : ∀ i, i <= ts.length -> RSOk (rrun pl r ts (rs0 start) i) i
 | 0, _ => ⟨oOf_lt start 0 (by omega) fun x hx => ⟨(hs6 x hx).1, (hs6 x hx).2⟩, initL_len _ _, initL_len _ _, by simp [rrun, rs0], fun x hx => by simp [rrun, rs0] at hx; omega, by simp [rrun, rs0], by simp [rrun, rs0]⟩
 | i + 1, h => by
  have := rrun_ok pl r ts start hs6 h6 hl i (by omega)
  have hg : ts.getD i 0 = ts[i]'(by omega) := by simp [List.getD, List.getElem?_eq_getElem (show i < ts.length by omega)]
  have hb := h6 _ (List.getElem_mem (show i < ts.length by omega))
  unfold rrun
  rw [hg]
  exact this.step pl r ts _ (by omega) hl hb.1 hb.2
theorem clone2_spec (m : Md) (H : Hp) (b o n cap : Nat) (xs : List Int) (hx : ∀ (j : Nat) (y : Int), xs[j]? = some y -> H.cell ⟨b, o + j, none⟩ = some (.int .i64 y)) (hn : xs.length = n) (hl : n <= 1000000) (hb : ∃ x, H b = some x) :
  FnX Tryz.prog m 87 #[.slice (some ⟨b, o, none⟩) n cap] H fun e H' => ∃ w, e = .returned w /\ RowX none H H' w 3 (ints xs) := by
 obtain ⟨x0, hb⟩ := hb
 refine FnX_start Tryz.func87 rfl Tryz.ntmps87 (by simp) ?_
 (refine @unH _ ?_; refine z0_34 ?_; (repeat (refine inC ?_; intro hc)); try (refine inK ?_; intro K hK))
 intro nb hnb
 have hle : H.le (H.set nb (.cells #[] 3 (0, 0))) := Hp.le_set hnb
 have hrow0 : NewRow H (H.set nb (.cells #[] 3 (0, 0))) (.slice (some ⟨nb, 0, none⟩) 0 0) 3 1 0 (ints []) := .inr ⟨nb, #[], 0, hnb, rfl, rfl, rfl, rfl, Nat.le_refl _, fun i u hi => by simp [ints] at hi⟩
 have hgne : b ≠ nb := ne_new hb hnb
 ((try (refine @unH _ ?_; refine zX y87_34 ?_)); (try (refine hK _ _ ?_; clear hK K; (try simp only [nq, ↓reduceIte, Nat.reduceEqDiff]))); refine @unH _ ?_; refine zA y87_34 ?_; (repeat (refine inC ?_; intro hc)); try (refine inK ?_; intro K hK))
 refine append_ints hrow0 (Hp.le_refl _) (ys := xs) hn (fun h => absurd h (by rw [hb]; simp)) (fun j y hj => ?_) (by omega) _ _ _ _ (fun v' H1 H2 hr hl2 => ?_)
 ·rw [cell_set_ne hgne]
  exact hx j y hj
 ·((try (refine @unH _ ?_; refine zX y87_34 ?_)); (try (refine hK _ _ ?_; clear hK K; (try simp only [nq, ↓reduceIte, Nat.reduceEqDiff]))); refine @unH _ ?_; refine zA y87_34 ?_; (repeat (refine inC ?_; intro hc)); try (refine inK ?_; intro K hK))
  (refine @unH _ ?_; refine z9 Tryz.results87 ?_)
  refine ⟨_, rfl, ?_⟩
  rcases hr with ⟨rfl, h0, hnil, hHe⟩ | ⟨b3, c3, cap3, hb3, rfl, rfl, hs3, hl3, hn3, hg3⟩
  ·simp only [List.nil_append] at hnil
   rw [hnil]
   exact ⟨Lex.of (by rw [hHe] at hl2; exact hl2), .inl ⟨rfl, rfl⟩⟩
  ·refine ⟨Lex.of (Hp.le_trans (Hp.le_set hb3) hl2), .inr ⟨b3, c3, cap3, hb3, hl2 _ _ set_at, ?_, by simpa using hs3, ?_, ?_⟩⟩
   ·simp [ints, hn]
   ·simp [ints]; omega
   ·intro i u hi; exact hg3 i u (by simpa using hi)
theorem vrun_spec (main : Md) (H : Hp) (places pieces : Int) (sv cv tv : Value) (start : List Int) (xss : List (List Int)) (ts : List Int) (hd : DayIn H places pieces sv cv tv start xss ts) (r : Int) (hr0 : 0 <= r) (hr3 : r <= 3) :
  FnX Tryz.prog main 39 #[.agg #[.int .i64 places, .int .i64 pieces, sv, cv], tv, .int .i64 r] H fun e H' => ∃ v, e = .returned (.tuple #[v, .int .i64 (rrun places r ts (rs0 start) ts.length).f, .int .i64 0]) /\ H.le H' /\ SlI H' v ((rrun places r ts (rs0 start) ts.length).cl.take ts.length) := by
 obtain ⟨sa, sn, sc, rfl⟩ := hd.st.isSlice
 obtain ⟨ca, cn, cc, rfl⟩ := hd.calls.isSlice
 have htv := hd.truth
 obtain ⟨ta, tc, rfl, htc, _⟩ := htv
 have hs6 : ∀ t ∈ start, 0 <= t /\ t < 6 := fun t ht => by
  have h1 := hd.ok.2.2.2.2.2.2.1 t ht
  have h2 := hd.ok.2.2.2.1
  omega
 have hsl : start.length <= 1000 := by
  have h1 := hd.ok.2.2.2.2.1
  have h2 := hd.ok.2.1
  omega
 have htb := hd.true.bnd hd.ok
 have htl : ts.length <= 8 := by have h1 := hd.true.1; have h2 := hd.few; omega
 have hOk := rrun_ok places r ts start hs6 htb (by omega) ts.length (Nat.le_refl _)
 have hnil : ruleV r ≠ .nilIface := by unfold ruleV; simp
 refine FnX_start Tryz.func39 rfl Tryz.ntmps39 (by simp) ?_
 (refine @unH _ ?_; refine zA y39_34 ?_; (repeat (refine inC ?_; intro hc)); try (refine inK ?_; intro K hK))
 (intro vb hvb; generalize hG : Hp.set _ vb _ = H1; have lH1 := le_of_set hG hvb; have vvb := at_of_set hG; clear hG)
 have hd1 := hd.le lH1
 ((try (refine @unH _ ?_; refine zX y39_34 ?_)); (try (refine hK _ _ ?_; clear hK K; (try simp only [nq, ↓reduceIte, Nat.reduceEqDiff]))); refine @unH _ ?_; refine zA y39_34 ?_; (repeat (refine inC ?_; intro hc)); try (refine inK ?_; intro K hK))
 refine (begin_spec main H1 places pieces _ _ _ start xss ts hd1).runs.mono ?_
 rintro _ H2 ⟨db, mb, rfl, lH2, hdm, hdb, hmb, vdb, vmb⟩
 have hd2 := hd1.le lH2
 ((try (refine @unH _ ?_; refine zX y39_34 ?_)); (try (refine hK _ _ ?_; clear hK K; (try simp only [nq, ↓reduceIte, Nat.reduceEqDiff]))); refine @unH _ ?_; refine zA y39_34 ?_; (repeat (refine inC ?_; intro hc)); try (refine inK ?_; intro K hK))
 refine (ruleOf_spec main H2 r hr0 hr3).runs.mono ?_
 rintro _ H3 ⟨rfl, hH3⟩
 rw [hH3]; clear hH3 H3
 ((try (refine @unH _ ?_; refine zX y39_34 ?_)); (try (refine hK _ _ ?_; clear hK K; (try simp only [nq, ↓reduceIte, Nat.reduceEqDiff]))); refine @unH _ ?_; refine zA y39_34 ?_; (repeat (refine inC ?_; intro hc)); try (refine inK ?_; intro K hK))
 refine (run_spec main H2 db places pieces _ _ _ ts mb vdb hd2.truth start hd2.st hs6 hsl htl htb r hr0 hr3).runs.mono ?_
 rintro _ H3 ⟨rfl, lH3⟩
 have hd3 := hd2.le lH3
 generalize hC : (rrun places r ts (rs0 start) ts.length).cl = C at *
 generalize (rrun places r ts (rs0 start) ts.length).f = F at *
 have hcl8 : C.length = 8 := by rw [<- hC]; exact hOk.cl
 clear hC hOk
 match C, hcl8 with
 | [c0, c1, c2, c3, c4, c5, c6, c7], _ =>
 simp only [ints, List.map_cons, List.map_nil]
 ((try (refine @unH _ ?_; refine zX y39_34 ?_)); (try (refine hK _ _ ?_; clear hK K; (try simp only [nq, ↓reduceIte, Nat.reduceEqDiff]))); refine @unH _ ?_; refine zA y39_34 ?_; (repeat (refine inC ?_; intro hc)); try (refine inK ?_; intro K hK))
 (intro cb hcb; generalize hG : Hp.set _ cb _ = H4; have lH4 := le_of_set hG hcb; have vcb := at_of_set hG; clear hG)
 ((try (refine @unH _ ?_; refine zX y39_34 ?_)); (try (refine hK _ _ ?_; clear hK K; (try simp only [nq, ↓reduceIte, Nat.reduceEqDiff]))); refine @unH _ ?_; refine zA y39_34 ?_; (repeat (refine inC ?_; intro hc)); try (refine inK ?_; intro K hK))
 refine (clone2_spec main H4 cb 0 ts.length 8 ([c0, c1, c2, c3, c4, c5, c6, c7].take ts.length) (fun j y hj => ?_) (by simp; omega) (by omega) ⟨_, vcb⟩).runs.mono ?_
 ·have hj2 : j < ts.length := by
   have := (List.getElem?_eq_some_iff.1 hj).1
   simp at this; omega
  rw [List.getElem?_take_of_lt hj2] at hj
  rw [Nat.zero_add, cell_of vcb]
  have := ints_get hj
  simpa [ints] using this
 ·rintro _ H5 ⟨w, rfl, hrow⟩
  ((try (refine @unH _ ?_; refine zX y39_34 ?_)); (try (refine hK _ _ ?_; clear hK K; (try simp only [nq, ↓reduceIte, Nat.reduceEqDiff]))); refine @unH _ ?_; refine zA y39_34 ?_; (repeat (refine inC ?_; intro hc)); try (refine inK ?_; intro K hK))
  (refine @unH _ ?_; refine zC Tryz.results39 ?_)
  exact ⟨w, rfl, Hp.le_trans lH1 (Hp.le_trans lH2 (Hp.le_trans lH3 (Hp.le_trans lH4 hrow.1.toLe))), hrow.ints⟩
end Go.Proofs.YtofmadjgbcopdaaGreatDoor
end
section
namespace Go.Proofs.YtofmadjgbcopdaaGreatDoor
open Go Go.X
def y28_35 := And.intro (fun H => fieldAt_eq (H := H) Tryz.underlying29 (i := 0) rfl (off := 0) rfl Tryz.sizeOf25) (And.intro (fun H => loadAt_aggE (H := H) Tryz.underlying25 rfl Tryz.sizeOf25) (And.intro (fun H => fieldAt_eq (H := H) Tryz.underlying29 (i := 1) rfl (off := 4) rfl Tryz.sizeOf22) (And.intro (fun H => loadAt_one (H := H) Tryz.underlying22 rfl) (And.intro (fun H => fieldAt_eq (H := H) Tryz.underlying29 (i := 2) rfl (off := 5) rfl Tryz.sizeOf3) (And.intro (fun H => loadAt_one (H := H) Tryz.underlying3 rfl) (And.intro @callF39 (And.intro (fun H => fieldAt_eq (H := H) Tryz.underlying29 (i := 3) rfl (off := 6) rfl Tryz.sizeOf22) (And.intro (fun H => len_slice (H := H) Tryz.underlying22) (And.intro @callF70 (And.intro (fun H => fieldAt_eq (H := H) Tryz.underlying29 (i := 4) rfl (off := 7) rfl Tryz.sizeOf3) (And.intro @callF71 (And.intro (fun H => fieldAt_eq (H := H) Tryz.underlying29 (i := 5) rfl (off := 8) rfl Tryz.sizeOf3) (And.intro (fun H => fieldAt_eq (H := H) Tryz.underlying29 (i := 6) rfl (off := 9) rfl Tryz.sizeOf3) (And.intro (fun H => fieldAt_eq (H := H) Tryz.underlying29 (i := 7) rfl (off := 10) rfl Tryz.sizeOf27) (And.intro (fun H => fieldAt_eq (H := H) Tryz.underlying27 (i := 0) rfl (off := 0) rfl Tryz.sizeOf3) (fun H => fieldAt_eq (H := H) Tryz.underlying27 (i := 1) rfl (off := 1) rfl Tryz.sizeOf3))))))))))))))))
structure HN where
 places : Int
 pieces : Int
 rule : Int
 notice : Int
 load : Int
 barrows : Int
 lo : Int
 hi : Int
 start : List Int
 xss : List (List Int)
 ts : List Int
 xs : List Int
structure HV where
 sv : Value
 cv : Value
 tv : Value
 xv : Value
def HN.agg (n : HN) (v : HV) : Value := .agg #[.int .i64 n.places, .int .i64 n.pieces, v.sv, v.cv, v.tv, .int .i64 n.rule, v.xv, .int .i64 n.notice, .int .i64 n.load, .int .i64 n.barrows, .int .i64 n.lo, .int .i64 n.hi]
structure HaulIn (H : Hp) (n : HN) (v : HV) : Prop where
 day : DayIn H n.places n.pieces v.sv v.cv v.tv n.start n.xss n.ts
 times : SlI H v.xv n.xs
 ok : TimesOk n.xss.length n.xs
 r0 : 0 <= n.rule
 r3 : n.rule <= 3
 n0 : 0 <= n.notice
 n30 : n.notice <= 30
 l1 : 1 <= n.load
 l3 : n.load <= 3
 b1 : 1 <= n.barrows
 b4 : n.barrows <= 4
 t1 : 1 <= n.lo
 t2 : n.lo <= n.hi
 t20 : n.hi <= 20
theorem HaulIn.le {H H' : Hp} {n : HN} {v : HV} (h : HaulIn H n v) (hl : H.le H') : HaulIn H' n v := { h with day := h.day.le hl, times := h.times.le hl }
theorem HaulIn.xlen {H : Hp} {n : HN} {v : HV} (h : HaulIn H n v) : n.xs.length = n.ts.length := by
 rw [h.ok.1, h.day.true.1]
theorem binside_spec (m : Md) (H : Hp) (n lo hi : Int) (h0 : lo <= n) (h1 : n <= hi) :
  FnX Tryz.prog m 71 #[.int .i64 n, .int .i64 lo, .int .i64 hi] H fun e H' => e = .returned (.bool true) /\ H' = H :=
 (bwithin_spec m H n lo hi).mono fun e H' ⟨he, hH⟩ => ⟨by rw [he, decide_eq_true h0, decide_eq_true h1]; rfl, hH⟩
theorem checkTimes2 (m : Md) (H : Hp) (v : Value) (xs : List Int) (k : Nat) (hk : k = xs.length) (hv : SlI H v xs) {n : Nat} (hok : TimesOk n xs) (hl : xs.length <= 1000) :
  FnX Tryz.prog m 70 #[v, .int .i64 k] H fun e H' => e = .returned (.int .i64 0) /\ H' = H := by
 subst hk
 exact checkTimes_spec m H v xs hv hok hl
theorem bcheck_spec (main : Md) (H : Hp) (n : HN) (v : HV) (hd : HaulIn H n v) :
  FnX Tryz.prog main 28 #[n.agg v] H fun e H' => e = .returned (.int .i64 0) /\ H.le H' := by
 obtain ⟨sv, cv, tv, xv⟩ := v
 obtain ⟨places, pieces, rule, notice, load, barrows, lo, hi, start, xss, ts, xs⟩ := n
 have hxl := hd.xlen
 replace hxl : xs.length <= ts.length /\ ts.length <= xs.length := by simp only [] at hxl; omega
 obtain ⟨hday, htimes, hok, r0, r3, n0, n30, l1, l3, b1, b4, t1, t2, t20⟩ := hd
 simp only [] at hday htimes hok r0 r3 n0 n30 l1 l3 b1 b4 t1 t2 t20
 obtain ⟨sa, sn, sc, rfl⟩ := hday.st.isSlice
 obtain ⟨ca, cn, cc, rfl⟩ := hday.calls.isSlice
 have htv := hday.truth
 obtain ⟨ta, tc, rfl, htc, _⟩ := htv
 have hxv := htimes
 obtain ⟨xa, xc, rfl, hxc, _⟩ := hxv
 simp only [HN.agg]
 have hxl' : xs.length <= 1000 := by have := hday.true.1; have := hday.few; omega
 refine FnX_start Tryz.func28 rfl Tryz.ntmps28 (by simp) ?_
 (refine @unH _ ?_; refine zA y28_35 ?_; (repeat (refine inC ?_; intro hc)); try (refine inK ?_; intro K hK))
 (intro vb hvb; generalize hG : Hp.set _ vb _ = H1; have lH1 := le_of_set hG hvb; have vvb := at_of_set hG; clear hG)
 have hday1 := hday.le lH1
 have htimes1 := htimes.le lH1
 ((try (refine @unH _ ?_; refine zX y28_35 ?_)); (try (refine hK _ _ ?_; clear hK K; (try simp only [nq, ↓reduceIte, Nat.reduceEqDiff]))); refine @unH _ ?_; refine zA y28_35 ?_; (repeat (refine inC ?_; intro hc)); try (refine inK ?_; intro K hK))
 refine (vrun_spec main H1 places pieces _ _ _ start xss ts hday1 rule r0 r3).runs.mono ?_
 rintro _ H2 ⟨w, rfl, lH2, _⟩
 have hday2 := hday1.le lH2
 have htimes2 := htimes1.le lH2
 have vvb2 := lH2 _ _ vvb
 ((try (refine @unH _ ?_; refine zX y28_35 ?_)); (try (refine hK _ _ ?_; clear hK K; (try simp only [nq, ↓reduceIte, Nat.reduceEqDiff]))); refine @unH _ ?_; refine zA y28_35 ?_; (repeat (refine inC ?_; intro hc)); try (refine inK ?_; intro K hK))
 refine (checkTimes2 main H2 _ xs _ (by omega) htimes2 hok hxl').runs.mono ?_
 rintro _ H3 ⟨rfl, hH3⟩
 rw [hH3]; clear hH3 H3
 ((try (refine @unH _ ?_; refine zX y28_35 ?_)); (try (refine hK _ _ ?_; clear hK K; (try simp only [nq, ↓reduceIte, Nat.reduceEqDiff]))); refine @unH _ ?_; refine zA y28_35 ?_; (repeat (refine inC ?_; intro hc)); try (refine inK ?_; intro K hK))
 refine (binside_spec main H2 notice 0 30 n0 n30).runs.mono ?_; rintro _ HQ ⟨rfl, hHQ⟩; rw [hHQ]; clear hHQ HQ; ((try (refine @unH _ ?_; refine zX y28_35 ?_)); (try (refine hK _ _ ?_; clear hK K; (try simp only [nq, ↓reduceIte, Nat.reduceEqDiff]))); refine @unH _ ?_; refine zA y28_35 ?_; (repeat (refine inC ?_; intro hc)); try (refine inK ?_; intro K hK))
 refine (binside_spec main H2 load 1 3 l1 l3).runs.mono ?_; rintro _ HQ ⟨rfl, hHQ⟩; rw [hHQ]; clear hHQ HQ; ((try (refine @unH _ ?_; refine zX y28_35 ?_)); (try (refine hK _ _ ?_; clear hK K; (try simp only [nq, ↓reduceIte, Nat.reduceEqDiff]))); refine @unH _ ?_; refine zA y28_35 ?_; (repeat (refine inC ?_; intro hc)); try (refine inK ?_; intro K hK))
 refine (binside_spec main H2 barrows 1 4 b1 b4).runs.mono ?_; rintro _ HQ ⟨rfl, hHQ⟩; rw [hHQ]; clear hHQ HQ; ((try (refine @unH _ ?_; refine zX y28_35 ?_)); (try (refine hK _ _ ?_; clear hK K; (try simp only [nq, ↓reduceIte, Nat.reduceEqDiff]))); refine @unH _ ?_; refine zA y28_35 ?_; (repeat (refine inC ?_; intro hc)); try (refine inK ?_; intro K hK))
 refine (binside_spec main H2 lo 1 20 t1 (by omega)).runs.mono ?_; rintro _ HQ ⟨rfl, hHQ⟩; rw [hHQ]; clear hHQ HQ; ((try (refine @unH _ ?_; refine zX y28_35 ?_)); (try (refine hK _ _ ?_; clear hK K; (try simp only [nq, ↓reduceIte, Nat.reduceEqDiff]))); refine @unH _ ?_; refine zA y28_35 ?_; (repeat (refine inC ?_; intro hc)); try (refine inK ?_; intro K hK))
 refine (binside_spec main H2 hi 1 20 (by omega) t20).runs.mono ?_; rintro _ HQ ⟨rfl, hHQ⟩; rw [hHQ]; clear hHQ HQ; ((try (refine @unH _ ?_; refine zX y28_35 ?_)); (try (refine hK _ _ ?_; clear hK K; (try simp only [nq, ↓reduceIte, Nat.reduceEqDiff]))); refine @unH _ ?_; refine zA y28_35 ?_; (repeat (refine inC ?_; intro hc)); try (refine inK ?_; intro K hK))
 (refine @unH _ ?_; refine z9 Tryz.results28 ?_)
 exact ⟨by trivial, Hp.le_trans lH1 lH2⟩
end Go.Proofs.YtofmadjgbcopdaaGreatDoor
end
section
namespace Go.X
open Go
theorem plan_takeS {P : Program} {main : Md} {lp : Option Nat} {Q : Exit -> Act -> Hp -> Prop} {a : Act} {H : Hp} {S : Hp -> Prop} {t i : Nat} {ops : List Oper} {o : Oper} {rest : List (Bool × Nat)} {v : Value} (ho : ops[i]? = some o) (hw : Region.wanted o (yielded ops.toArray a.tmps) = true) (hf : fine lp o = true)
  (hS : S H) (h : ∀ H', S H' -> wpS P (execOp a.eval o) H' (YN P main v H') fun _ _ => False) (hk : planX P main lp ops.toArray Q S t rest (a.put o.dst v) H) : planX P main lp ops.toArray Q S t ((true, i) :: rest) a H :=
 ⟨hS, o, by simpa using ho, v, .inl ⟨hw, hf, h⟩, hk⟩
end Go.X
namespace Go.Proofs.YtofmadjgbcopdaaGreatDoor
open Go Go.X
def y146_36 := And.intro @callF166 (And.intro (fun H => len_slice (H := H) Tryz.underlying22) (And.intro (fun H => indexAt_slice (H := H) Tryz.underlying22 Tryz.sizeOf3) (And.intro (fun H => loadAt_one (H := H) Tryz.underlying3 rfl) (And.intro (fun H => storeAt_int (H := H) Tryz.sizeOf3) (And.intro (fun H => slice_hi (H := H) Tryz.underlying22 Tryz.sizeOf3) (And.intro (fun H => slice_lo (H := H) Tryz.underlying22 Tryz.sizeOf3) (fun H => slice_lohi (H := H) Tryz.underlying22 Tryz.sizeOf3)))))))
def y166_36 := And.intro (fun H => len_slice (H := H) Tryz.underlying22) (And.intro (fun H => indexAt_slice (H := H) Tryz.underlying22 Tryz.sizeOf3) (fun H => loadAt_one (H := H) Tryz.underlying3 rfl))
theorem over_all {l vs : List Value} (h : vs.length = l.length) : over l.toArray 0 vs = vs.toArray := by
 rw [over_list _ _ _ (by omega), List.take_zero, List.nil_append, List.drop_of_length_le (by omega), List.append_nil]
def rowB : Value -> Option Nat
 | .slice (some a) _ _ => some a.block
 | _ => none
theorem append_row2 {P : Program} {tt e : TypeId} {z : Value} {inf : TypeInfo} (hu : P.underlying tt = some (.slice e)) (hs : ∀ w, (sizeOf e).run P w = .ok 1 w) (hz : ∀ w, (zeroValue e).run P w = .ok z w) (hzc : z.cells.size = 1)
  (hi : ∀ w, (typeInfo e).run P w = .ok inf w) (hby : inf.bytes <= 1024) (hby0 : 0 < inf.bytes)
  {t : Option Nat} {H₀ H : Hp} {v : Value} {cs : List Value} (h : RowX t H₀ H v e cs) {g : Nat} {w : Value} (hg : H g = none) (hw : one w = true) (hn : cs.length <= 1000000) (ty : TypeId) (cb : Array Bool) (K : Next -> Hp -> Prop) (E : Value -> Hp -> Prop)
  (h' : ∀ v' H', RowX t H₀ H' v' e (cs ++ [w]) -> (∀ x u, H x = some u -> rowB v ≠ some x -> H' x = some u) -> (∀ x, rowB v' = some x -> rowB v = some x ∨ H x = none) -> K (.value v') H') :
  wpS P (builtin .append #[tt, tt] ty cb #[v, .slice (some ⟨g, 0, none⟩) 1 1]) (H.set g (.cells #[w] e (0, 0))) K E := by
 obtain ⟨hlex, hrow⟩ := h
 have hws : ∀ (j : Nat) (u : Value), [w][j]? = some u -> (H.set g (.cells #[w] e (0, 0))).cell ⟨g, 0 + j, none⟩ = some u := by
  intro j u hj
  rw [Nat.zero_add, cell_of (b := g) (p := true) (c := #[w]) (e := e) (f := (0, 0)) (by rw [get_set, if_pos rfl])]
  simpa using hj
 have h1w : ∀ u ∈ [w], one u = true := by simp [hw]
 rcases hrow with ⟨rfl, rfl⟩ | ⟨b, c, cap, hb0, hb, rfl, hcs, hcap, hget⟩
 ·refine append_law (P := P) hu hs hz hzc hi hby hby0 (NewRow.nil H e 1) (Hp.le_set hg) (by simp) id hws h1w (by omega) ty cb K E (fun v' H1 H2 hr hl => ?_)
  have hle : H.le H2 := fun x u hx => hl _ _ (hr.le _ _ hx)
  refine h' v' H2 ⟨hlex.le hle, ?_⟩ (fun x u hx _ => hle _ _ hx) ?_
  ·rcases hr with ⟨_, hn0, _⟩ | ⟨b', c', cap', hb', rfl, rfl, hs', hl', hn', hg'⟩
   ·simp at hn0
   ·refine .inr ⟨b', c', cap', hlex.gone hb', hl _ _ (by rw [get_set, if_pos rfl]), by simp, by omega, by simpa using hn', fun i u hi => hg' i u hi⟩
  ·intro x hx
   rcases hr with ⟨_, hn0, _⟩ | ⟨b', c', cap', hb', rfl, rfl, hs', hl', hn', hg'⟩
   ·simp at hn0
   ·simp only [rowB, Option.some.injEq] at hx
    subst hx
    exact .inr hb'
 ·have hgb : g ≠ b := fun e => by rw [e, hb] at hg; cases hg
  have hD : (fun x => if x = b then none else H x : Hp) b = none := by simp
  have hH : H = Hp.set (fun x => if x = b then none else H x) b (.cells c e (0, 0)) := by
   funext x
   unfold Hp.set
   by_cases e : x = b
   ·subst e; simp [hb]
   ·simp [e]
  refine append_law (P := P) hu hs hz hzc hi hby hby0 (H₀ := fun x => if x = b then none else H x) (H := H) (n := cs.length) (cs := cs) (.inr ⟨b, c, cap, hD, hH, rfl, by omega, by omega, hcap, hget⟩) (Hp.le_set hg) (by simp) (fun _ => hg) hws h1w (by omega) ty cb K E (fun v' H1 H2 hr hl => ?_)
  have hkeep : ∀ x u, x ≠ b -> H x = some u -> H2 x = some u := fun x u hn hx => hl _ _ (hr.le _ _ (by simp only [hn, if_false]; exact hx))
  rcases hr with ⟨_, hn0, _⟩ | ⟨b', c', cap', hb', rfl, rfl, hs', hl', hn', hg'⟩
  ·simp at hn0
  ·have hb2 : H2 b' = some (true, .cells c' e (0, 0)) := hl _ _ (by rw [get_set, if_pos rfl])
   have hb'0 : H₀ b' = none := by
    by_cases e : b' = b
    ·rw [e]; exact hb0
    ·simp only [e, if_false] at hb'; exact hlex.gone hb'
   refine h' _ H2 ⟨fun x u hx => ?_, .inr ⟨b', c', cap', hb'0, hb2, by simp, by omega, by simpa using hn', hg'⟩⟩ (fun x u hx ho => hkeep x _ (fun e => ho (by rw [e]; rfl)) hx) (fun x hx => ?_)
   ·obtain ⟨u', hu', e'⟩ := hlex x u hx
    exact ⟨u', hkeep x u' (fun e => by rw [e, hb0] at hx; cases hx) hu', e'⟩
   ·simp only [rowB, Option.some.injEq] at hx
    subst hx
    by_cases e : b' = b
    ·exact .inl (by rw [e]; rfl)
    ·simp only [e, if_false] at hb'; exact .inr hb'
theorem SlI.lexO {H H' : Hp} {v : Value} {xs : List Int} (h : SlI H v xs) {b : Nat} (hl : Lex (some b) H H') (hb : ∀ p c fr, H b ≠ some (p, .cells c 3 fr)) : SlI H' v xs :=
 h.move fun x p c fr hx => hl.keeps hx fun e => hb p c fr (e ▸ hx)
theorem row_own0 {t : Option Nat} {H₀ H : Hp} {xs : List Int} {b : Nat} {n cap : Nat} (h : RowX t H₀ H (.slice (some ⟨b, 0, none⟩) n cap) 3 (ints xs)) : n = xs.length /\ H₀ b = none /\ Own0 H b cap xs := by
 rcases h.2 with ⟨h1, _⟩ | ⟨b', c, cap', h0, hb, he, hc, hle, hget⟩
 ·cases h1
 ·simp only [Value.slice.injEq, Option.some.injEq, Addr.mk.injEq] at he
  obtain ⟨⟨rfl, _, _⟩, rfl, rfl⟩ := he
  rw [ints_len] at hle ⊢
  exact ⟨rfl, h0, c, hb, hc, hle, fun i x hi => hget i _ (ints_get hi)⟩
theorem deleteNil_spec (m : Md) (H : Hp) (f : FuncId) (capt : Array Value) :
  FnX Tryz.prog m 146 #[.slice none 0 0, .func (.func f) #[] capt] H fun e H' => e = .returned (.slice none 0 0) /\ H' = H := by
 have hix : FnX Tryz.prog m 166 #[.slice none 0 0, .func (.func f) #[] capt] H fun e H' => e = .returned (.int .i64 (-1)) /\ H' = H := by
  refine FnX_start Tryz.func166 rfl Tryz.ntmps166 (by simp) ?_
  (refine @unH _ ?_; refine zA y166_36 ?_; (repeat (refine inC ?_; intro hc)); try (refine inK ?_; intro K hK))
  refine wpX_loop (fun w a' H' => ∃ e, a' = act 19 e [] /\ e 7 = .int .i64 (0 : Nat) /\ e 8 = .int .i64 (0 : Nat) /\ H' = H) (n := 0) ?_ ?_
  ·exact ⟨_, rfl, rfl, rfl, by trivial⟩
  ·rintro w a' H' ⟨e, rfl, e7, e8, hH⟩
   rw [hH]; clear hH H'
   (refine @unH _ ?_; refine zA y166_36 ?_; (repeat (refine inC ?_; intro hc)); try (refine inK ?_; intro K hK))
   (refine @unH _ ?_; refine z9 Tryz.results166 ?_)
   (refine ⟨?_, ?_⟩ <;> first | rfl | trivial | assumption)
 refine FnX_start Tryz.func146 rfl Tryz.ntmps146 (by simp) ?_
 (refine @unH _ ?_; refine zA y146_36 ?_; (repeat (refine inC ?_; intro hc)); try (refine inK ?_; intro K hK))
 refine (hix).runs.mono ?_; rintro _ HQ ⟨rfl, hHQ⟩; rw [hHQ]; clear hHQ HQ; ((try (refine @unH _ ?_; refine zX y146_36 ?_)); (try (refine hK _ _ ?_; clear hK K; (try simp only [nq, ↓reduceIte, Nat.reduceEqDiff]))); refine @unH _ ?_; refine zA y146_36 ?_; (repeat (refine inC ?_; intro hc)); try (refine inK ?_; intro K hK))
 (refine @unH _ ?_; refine z9 Tryz.results146 ?_)
 (refine ⟨?_, ?_⟩ <;> first | rfl | trivial | assumption)
theorem deleteRow_spec (m : Md) (t : Option Nat) (H₀ H : Hp) (v : Value) (xs : List Int) (f : FuncId) (capt : List Value) (p : Int -> Bool) (hcall : ∀ (args : Array Value) (H : Hp) (K : Next -> Hp -> Prop) (E : Value -> Hp -> Prop), wpS Tryz.prog (callFunc f args) H K E = K (.enter f args) H)
  (hr : RowX t H₀ H v 3 (ints xs)) (hf : ∀ b, rowB v = some b -> H₀ b = none -> Tells m b H f capt p) (hl : xs.length <= 1000000) :
  FnX Tryz.prog m 146 #[v, .func (.func f) #[] capt.toArray] H fun e H' => ∃ v', e = .returned v' /\ RowX t H₀ H' v' 3 (ints (xs.filter fun x => !p x)) /\ rowB v' = rowB v /\ ∀ x u, H x = some u -> rowB v ≠ some x -> H' x = some u := by
 have hrr := hr
 rcases hr.2 with ⟨rfl, hx⟩ | ⟨b, c, cap, h0, hb, rfl, hc, hle, hget⟩
 ·have : xs = [] := by simpa [ints] using hx
  subst this
  exact (deleteNil_spec m H f _).mono fun e H' ⟨he, hH⟩ => ⟨_, he, by rw [hH]; exact hrr, rfl, fun x u hx _ => by rw [hH]; exact hx⟩
 ·obtain ⟨_, _, hown⟩ := row_own0 hrr
  rw [ints_len]
  refine (deleteFunc_spec m H b cap xs f capt p hcall hown (hf b rfl h0) hl).mono fun e H' ⟨he, ho, o, hH⟩ => ⟨_, he, ?_, rfl, fun x u hx hn => ?_⟩
  ·obtain ⟨c', hb', hc', hle', hget'⟩ := ho
   refine ⟨by rw [hH]; exact hr.1.own h0, .inr ⟨b, c', cap, h0, hb', by rw [ints_len], hc', by rw [ints_len]; exact hle', fun i u hi => ?_⟩⟩
   simp only [ints, List.getElem?_map, Option.map_eq_some_iff] at hi
   obtain ⟨y, hy, rfl⟩ := hi
   exact hget' i y hy
  ·rw [hH, set_ne (fun e => hn (by rw [e]; rfl))]
   exact hx
end Go.Proofs.YtofmadjgbcopdaaGreatDoor
end
section
namespace Go.X
open Go
inductive PT where
 | nil
 | take (i : Nat) (p : PT)
 | one (i : Nat) (p : PT)
 | two (i : Nat) (p : PT) (j : Nat) (q : PT)
def PT.depth : PT -> Nat
 | .nil => 0
 | .take _ p => p.depth + 1
 | .one _ p => p.depth + 1
 | .two _ p _ q => max p.depth q.depth + 1
section
variable {P : Program} {main : Md} {lp : Option Nat} {Q : Exit -> Act -> Hp -> Prop} {ops : Array Oper} {S : Hp -> Prop}
def planT (P : Program) (main : Md) (lp : Option Nat) (ops : Array Oper) (Q : Exit -> Act -> Hp -> Prop) (S : Hp -> Prop) : PT -> Act -> Hp -> Prop
 | .nil, a, H => Q .normal a H
 | .take i p, a, H => S H /\ ∃ o, ops[i]? = some o /\ ∃ v, YieldsX P main lp ops S o v a /\ planT P main lp ops Q S p (a.put o.dst v) H
 | .one i p, a, H => numX P main lp ops i Q (fun a' H' => S H' /\ planT P main lp ops Q S p a' H') a H
 | .two i p j q, a, H => numX P main lp ops i Q (fun a' H' => S H' /\ planT P main lp ops Q S p a' H') a H /\ numX P main lp ops j Q (fun a' H' => S H' /\ planT P main lp ops Q S q a' H') a H
def planTOK (ops : Array Oper) : PT -> Array Bool -> Bool
 | .nil, listed => (Region.ready .any ops listed).isEmpty
 | .take i p, listed => Region.free .any ops listed i && (Region.ready .any ops listed).contains i && planTOK ops p (listed.setIfInBounds i true)
 | .one i p, listed => (Region.ready .any ops listed == [i]) && planTOK ops p (listed.setIfInBounds i true)
 | .two i p j q, listed => (Region.ready .any ops listed == [i, j]) && planTOK ops p (listed.setIfInBounds i true) && planTOK ops q (listed.setIfInBounds j true)
theorem planT_sound (hsel : Region.noSelect ops = true) (hQ : ∀ c a H d v, Q (.panic c) (a.put d v) H -> Q (.panic c) a H) :
  ∀ (plan : PT) (fuel : Nat) (listed : Array Bool) (a : Act) (H : Hp), plan.depth <= fuel -> Closed ops listed -> planTOK ops plan listed = true ->
   planT P main lp ops Q S plan a H -> anyS P main lp ops Q S ops.size fuel listed a H
 | .nil, fuel, listed, a, H, _, _, hok, h => by
  have hr : Region.ready .any ops listed = [] := by simpa [planTOK] using hok
  cases fuel with
  | zero => exact ⟨hr, h⟩
  | succ n => exact ⟨fun _ => h, by rw [hr]; simp⟩
 | .take i p, 0, _, _, _, hl, _, _, _ => by simp [PT.depth] at hl
 | .one i p, 0, _, _, _, hl, _, _, _ => by simp [PT.depth] at hl
 | .two i p j q, 0, _, _, _, hl, _, _, _ => by simp [PT.depth] at hl
 | .take i p, fuel + 1, listed, a, H, hl, hcl, hok, h => by
  simp only [planTOK, Bool.and_eq_true] at hok
  obtain ⟨⟨hf, hr⟩, hok⟩ := hok
  obtain ⟨hS, o, ho, v, hy, h⟩ := h
  have hr' : i ∈ Region.ready .any ops listed := by simpa using hr
  have hlt : i < ops.size := (Array.getElem?_eq_some_iff.1 ho).1
  exact anyS_first ho (Region.noSelect_spec hsel) (by omega) (fun hlt => absurd hlt (Nat.lt_irrefl _)) (fun c a H => hQ c a H _ _) fuel listed a H hcl (Region.free_spec ho hf) hr' hy hS
   (planT_sound hsel hQ p fuel _ _ _ (by simp [PT.depth] at hl; omega) (hcl.set hr') hok h)
 | .one i p, fuel + 1, listed, a, H, hl, hcl, hok, h => by
  simp only [planTOK, Bool.and_eq_true, beq_iff_eq] at hok
  obtain ⟨hr, hok⟩ := hok
  refine ⟨fun h0 => (by rw [hr] at h0; cases h0), fun j hj => ?_⟩
  have hji : j = i := by rw [hr] at hj; simpa using hj
  subst hji
  exact numX_mono (fun a' H' h' => ⟨.inr h'.1, planT_sound hsel hQ p fuel _ _ _ (by simp [PT.depth] at hl; omega) (hcl.set hj) hok h'.2⟩) h
 | .two i p j q, fuel + 1, listed, a, H, hl, hcl, hok, h => by
  simp only [planTOK, Bool.and_eq_true, beq_iff_eq] at hok
  obtain ⟨⟨hr, hok1⟩, hok2⟩ := hok
  refine ⟨fun h0 => (by rw [hr] at h0; cases h0), fun k hk => ?_⟩
  have hkk : k = i ∨ k = j := by rw [hr] at hk; simpa using hk
  rcases hkk with rfl | rfl
  ·exact numX_mono (fun a' H' h' => ⟨.inr h'.1, planT_sound hsel hQ p fuel _ _ _ (by simp [PT.depth] at hl; omega) (hcl.set hk) hok1 h'.2⟩) h.1
  ·exact numX_mono (fun a' H' h' => ⟨.inr h'.1, planT_sound hsel hQ q fuel _ _ _ (by simp [PT.depth] at hl; omega) (hcl.set hk) hok2 h'.2⟩) h.2
theorem wpX_planT {id : Nat} {a : Act} {H : Hp} (S : Hp -> Prop) (plan : PT) (hm : P.follows .mixedOrders = true) (hsel : Region.noSelect ops = true) (hlen : plan.depth <= ops.size)
  (hok : planTOK ops plan (Array.replicate ops.size false) = true)
  (hQ : ∀ c a H d v, Q (.panic c) (a.put d v) H -> Q (.panic c) a H) (h : planT P main lp ops Q S plan a H) : wpX P main lp (.region id ops true) Q a H :=
 wpX_draw (fun _ => True) hm (anyX_of_anyS _ _ _ _ (planT_sound hsel hQ plan _ _ _ _ hlen .start hok h))
theorem wpX_tlast {id : Nat} {ops : Array Oper} {a : Act} {H : Hp} (S : Hp -> Prop) (plan : PT) (hm : P.follows .mixedOrders = true) (hsel : Region.noSelect ops = true) (hlen : plan.depth <= ops.size)
  (hok : planTOK ops plan (Array.replicate ops.size false) = true)
  (h : ∀ K : Act -> Hp -> Prop, (∀ a' H', Q .normal a' H' -> K a' H') -> planT P main lp ops (only K) S plan a H) :
  wpX P main lp (.region id ops true) Q a H := by
 refine wpX_mono (Q := only fun a' H' => Q .normal a' H') (wpX_planT S plan hm hsel hlen hok (fun c a H d v h => h) (h _ fun _ _ h => h)) fun e a H q => ?_
 cases e <;> first | exact q | exact q.elim
theorem planT_take {S : Hp -> Prop} {a : Act} {H : Hp} {i : Nat} {ops : List Oper} {o : Oper} {p : PT} {v : Value} (ho : ops[i]? = some o) (hw : Region.wanted o (yielded ops.toArray a.tmps) = true) (hf : fine lp o = true)
  (hS : S H) (h : ∀ H', S H' -> wpS P (execOp a.eval o) H' (YN P main v H') fun _ _ => False) (hk : planT P main lp ops.toArray Q S p (a.put o.dst v) H) : planT P main lp ops.toArray Q S (.take i p) a H :=
 ⟨hS, o, by simpa using ho, v, .inl ⟨hw, hf, h⟩, hk⟩
theorem planT_one {S : Hp -> Prop} {a : Act} {H : Hp} {i : Nat} {ops : Array Oper} {p : PT} (h : numX P main lp ops i Q (fun a' H' => S H' /\ planT P main lp ops Q S p a' H') a H) : planT P main lp ops Q S (.one i p) a H := h
theorem planT_two {S : Hp -> Prop} {a : Act} {H : Hp} {i j : Nat} {ops : Array Oper} {p q : PT} (h : numX P main lp ops i Q (fun a' H' => S H' /\ planT P main lp ops Q S p a' H') a H) (h' : numX P main lp ops j Q (fun a' H' => S H' /\ planT P main lp ops Q S q a' H') a H) : planT P main lp ops Q S (.two i p j q) a H := ⟨h, h'⟩
theorem planT_nil {S : Hp -> Prop} {a : Act} {H : Hp} {ops : Array Oper} (h : Q .normal a H) : planT P main lp ops Q S .nil a H := h
@[congr] theorem planT_congr {S : Hp -> Prop} {ops : Array Oper} {p : PT} {a a' : Act} {H H' : Hp} (ha : a = a') (hH : H = H') : planT P main lp ops Q S p a H = planT P main lp ops Q S p a' H' := by subst ha hH; rfl
end
end Go.X
end
section
namespace Go.Proofs.YtofmadjgbcopdaaGreatDoor
open Go Go.X
def y110_39 := And.intro (fun H => loadAt_aggE (H := H) Tryz.underlying29 rfl Tryz.sizeOf29) (And.intro @bld_85_0_0 (And.intro (fun H => fieldAt_eq (H := H) Tryz.underlying85 (i := 0) rfl (off := 0) rfl Tryz.sizeOf29) (And.intro (fun H => fieldAt_eq (H := H) Tryz.underlying29 (i := 0) rfl (off := 0) rfl Tryz.sizeOf25) (And.intro (fun H => loadAt_aggE (H := H) Tryz.underlying25 rfl Tryz.sizeOf25) (And.intro (fun H => fieldAt_eq (H := H) Tryz.underlying29 (i := 1) rfl (off := 4) rfl Tryz.sizeOf22) (And.intro (fun H => loadAt_one (H := H) Tryz.underlying22 rfl) (And.intro (fun H => fieldAt_eq (H := H) Tryz.underlying29 (i := 2) rfl (off := 5) rfl Tryz.sizeOf3) (And.intro (fun H => loadAt_one (H := H) Tryz.underlying3 rfl) (And.intro @callF39 (And.intro (fun H => ex_alloc (H := H) (P := Tryz.prog) (h := Tryz.zeroValue22)) (And.intro (fun H => storeAt_slice (H := H) Tryz.sizeOf22) (And.intro (fun H => fieldAt_eq (H := H) Tryz.underlying25 (i := 2) rfl (off := 2) rfl Tryz.sizeOf22) (And.intro @callF87 (And.intro (fun H => len_slice (H := H) Tryz.underlying22) (And.intro (fun H => indexAt_slice (H := H) Tryz.underlying22 Tryz.sizeOf3) (And.intro (fun H => ex_alloc (H := H) (P := Tryz.prog) (h := Tryz.zeroValue3)) (And.intro (fun H => storeAt_int (H := H) Tryz.sizeOf3) (And.intro @callF145 (And.intro (fun H => fieldAt_eq (H := H) Tryz.underlying85 (i := 1) rfl (off := 12) rfl Tryz.sizeOf22) (And.intro @lit_22_1_0_0 @callF146))))))))))))))))))))
def y147_39 := And.intro (fun H => loadAt_one (H := H) Tryz.underlying22 rfl) (And.intro (fun H => loadAt_one (H := H) Tryz.underlying3 rfl) (fun H => indexAt_slice (H := H) Tryz.underlying22 Tryz.sizeOf3))
theorem sentIs_spec (m : Md) (H : Hp) (x : Int) (tb ib i : Nat) (w : Value) (ss : List Int) (ht : H tb = some (true, .cells #[w] 22 (0, 0))) (hi : H ib = some (true, .cells #[.int .i64 i] 3 (0, 0))) (hw : SlI H w ss) (hil : i < ss.length) (hl : ss.length <= 1000) :
  FnX Tryz.prog m 147 #[.int .i64 x, .pointer (some ⟨tb, 0, none⟩), .pointer (some ⟨ib, 0, none⟩)] H fun e H' => e = .returned (.bool (x == ss.getD i 0)) /\ H' = H := by
 obtain ⟨b, o, cap, p, c, fr, rfl, _, hb, hx⟩ := hw.cons (fun h => absurd (congrArg List.length h) (by simp only [List.length_nil]; omega))
 have hxi := hx i ss[i] (List.getElem?_eq_getElem hil)
 have hg : ss.getD i 0 = ss[i] := by simp [List.getD, List.getElem?_eq_getElem hil]
 rw [hg]
 generalize ss[i] = y at hxi
 refine FnX_start Tryz.func147 rfl Tryz.ntmps147 (by simp) ?_
 (refine @unH _ ?_; refine zA y147_39 ?_; (repeat (refine inC ?_; intro hc)); try (refine inK ?_; intro K hK))
 (refine @unH _ ?_; refine z9 Tryz.results147 ?_)
 (refine ⟨?_, ?_⟩ <;> first | rfl | trivial | assumption)
def nhS (ts ss start : List Int) : Nat -> List Int × List Int
 | 0 => (start, [])
 | i + 1 => if ts.getD i 0 ∈ (nhS ts ss start i).1 then nhS ts ss start i else
  (((nhS ts ss start i).1.filter fun x => !(x == ss.getD i 0)) ++ [ts.getD i 0], (nhS ts ss start i).2 ++ [(i : Int)])
theorem nhS_len (ts ss start : List Int) : ∀ i, (nhS ts ss start i).1.length <= start.length + i /\ (nhS ts ss start i).2.length <= i
 | 0 => by simp [nhS]
 | i + 1 => by
  have ih := nhS_len ts ss start i
  unfold nhS
  split
  ·omega
  ·have := List.length_filter_le (fun x => !(x == ss.getD i 0)) (nhS ts ss start i).1
   simp only [List.length_append, List.length_cons, List.length_nil]
   omega
def HN.obj (n : HN) (v : HV) (jv : Value) : Obj := .cells #[.int .i64 n.places, .int .i64 n.pieces, v.sv, v.cv, v.tv, .int .i64 n.rule, v.xv, .int .i64 n.notice, .int .i64 n.load, .int .i64 n.barrows, .int .i64 n.lo, .int .i64 n.hi, jv] 85 (0, 0)
def HN.sents (n : HN) : List Int := (rrun n.places n.rule n.ts (rs0 n.start) n.ts.length).cl.take n.ts.length
def HN.jobs (n : HN) : List Int := (nhS n.ts n.sents n.start n.ts.length).2
theorem row_keep {t : Option Nat} {H₀ H H' : Hp} {v w : Value} {e : TypeId} {cs : List Value} (h : RowX t H₀ H v e cs) (hk : ∀ x u, H x = some u -> rowB w ≠ some x -> H' x = some u) (hn : ∀ x, rowB v = some x -> rowB w ≠ some x) (hl : Lex t H₀ H') : RowX t H₀ H' v e cs := by
 refine ⟨hl, h.2.imp id ?_⟩
 rintro ⟨b, c, cap, h0, hb, rfl, h3⟩
 exact ⟨b, c, cap, h0, hk _ _ hb (hn b rfl), rfl, h3⟩
theorem row_new {t : Option Nat} {H₀ H : Hp} {v : Value} {e : TypeId} {cs : List Value} (h : RowX t H₀ H v e cs) {x : Nat} (hx : rowB v = some x) : H₀ x = none /\ ∃ u, H x = some u := by
 rcases h.2 with ⟨rfl, _⟩ | ⟨b, c, cap, h0, hb, rfl, _⟩
 ·cases hx
 ·simp only [rowB, Option.some.injEq] at hx
  subst hx
  exact ⟨h0, _, hb⟩
theorem row_sep {t : Option Nat} {H₀ H : Hp} {v : Value} {e : TypeId} {cs : List Value} (h : RowX t H₀ H v e cs) {x : Nat} {u : Bool × Obj} (hx : H₀ x = some u) : rowB v ≠ some x := fun e' => by
 have := (row_new h e').1
 rw [hx] at this; cases this
theorem row_set {t : Option Nat} {H₀ H : Hp} {v : Value} {e : TypeId} {cs : List Value} {b : Nat} {o : Obj} (h : RowX t H₀ H v e cs) (hb : rowB v ≠ some b) (hl : Lex t H₀ (H.set b o)) : RowX t H₀ (H.set b o) v e cs := by
 refine ⟨hl, h.2.imp id ?_⟩
 rintro ⟨b', c, cap, h0, hb', rfl, h3⟩
 exact ⟨b', c, cap, h0, by rw [set_ne (fun e => hb (by rw [<- e]; rfl))]; exact hb', rfl, h3⟩
theorem newHaul_spec (main : Md) (H : Hp) (n : HN) (v : HV) (hd : HaulIn H n v) :
  FnX Tryz.prog main 110 #[n.agg v] H fun e H' => ∃ hb jv, e = .returned (.pointer (some ⟨hb, 0, none⟩)) /\ H.le H' /\ H' hb = some (true, n.obj v jv) /\ SlI H' jv n.jobs := by
 obtain ⟨sv, cv, tv, xv⟩ := v
 have hsents : n.sents = (rrun n.places n.rule n.ts (rs0 n.start) n.ts.length).cl.take n.ts.length := rfl
 have hjobs : n.jobs = (nhS n.ts n.sents n.start n.ts.length).2 := rfl
 generalize n.sents = ss at hsents hjobs
 generalize hjj : n.jobs = jj at hjobs ⊢
 clear hjj
 obtain ⟨places, pieces, rule, notice, load, barrows, lo, hi, start, xss, ts, xs⟩ := n
 obtain ⟨hday, htimes, hok, r0, r3, n0, n30, l1, l3, b1, b4, t1, t2, t20⟩ := hd
 simp only [] at hday htimes hok r0 r3 n0 n30 l1 l3 b1 b4 t1 t2 t20 hsents hjobs
 have hday0 := hday
 obtain ⟨sa, sc, rfl, hsc, _⟩ := hday.st
 obtain ⟨ca, cn, cc, rfl⟩ := hday0.calls.isSlice
 have htv := hday0.truth
 obtain ⟨ta, tc, rfl, htc, _⟩ := htv
 obtain ⟨xa, xn, xc, rfl⟩ := htimes.isSlice
 simp only [HN.agg, HN.obj]
 have htl : ts.length <= 8 := by have h1 := hday0.true.1; have h2 := hday0.few; omega
 refine FnX_start Tryz.func110 rfl Tryz.ntmps110 (by simp) ?_
 (refine @unH _ ?_; refine zA y110_39 ?_; (repeat (refine inC ?_; intro hc)); try (refine inK ?_; intro K hK))
 (intro ab hab; generalize hG : Hp.set _ ab _ = H1; have lH1 := le_of_set hG hab; have vab := at_of_set hG; clear hG)
 ((try (refine @unH _ ?_; refine zX y110_39 ?_)); (try (refine hK _ _ ?_; clear hK K; (try simp only [nq, ↓reduceIte, Nat.reduceEqDiff]))); refine @unH _ ?_; refine zA y110_39 ?_; (repeat (refine inC ?_; intro hc)); try (refine inK ?_; intro K hK))
 (intro hb hhb; generalize hG : Hp.set _ hb _ = H2; have lH2 := le_of_set hG hhb; have vhb := at_of_set hG; clear hG)
 have lH12 := Hp.le_trans lH1 lH2
 have h0b : H hb = none := Hp.le_none lH1 hhb
 have hday2 := hday.le lH12
 clear vab lH1 lH2 hab hhb
 ((try (refine @unH _ ?_; refine zX y110_39 ?_)); (try (refine hK _ _ ?_; clear hK K; (try simp only [nq, ↓reduceIte, Nat.reduceEqDiff]))); refine @unH _ ?_; refine zS y110_39 ?_; (repeat (refine inC ?_; intro hc)); try (refine inK ?_; intro K hK))
 refine wpX_cut (fun a' H' => ∃ e w tb, a' = act 73 e [] /\ e 3 = .pointer (some ⟨hb, 0, none⟩) /\ e 4 = .pointer (some ⟨tb, 0, none⟩) /\ H' tb = some (true, .cells #[w] 22 (0, 0)) /\ SlI H' w ss /\ H2.le H') ?_ ?_
 ·refine wpX_tlast (fun HX => HX hb = some (true, .cells #[.int .i64 places, .int .i64 pieces, .slice sa start.length sc, .slice ca cn cc, .slice ta ts.length tc, .int .i64 rule, .slice xa xn xc, .int .i64 notice, .int .i64 load, .int .i64 barrows, .int .i64 lo, .int .i64 hi, .slice none 0 0] 85 (0, 0))) (.take 0 (.take 1 (.take 2 (.take 3 (.take 4 (.take 5 (.take 6 (.take 7 (.take 8 (.take 9 (.take 10 (.take 11 (.take 12 (.take 13 (.take 14 (.two 15 (.take 16 (.take 17 (.take 18 (.take 19 (.one 20 (.one 21 (.take 22 (.take 23 .nil)))))))) 20 (.one 15 (.take 16 (.take 17 (.take 18 (.take 19 (.one 21 (.take 22 (.take 23 .nil)))))))))))))))))))))))) (by kernel_rfl) (by kernel_rfl) (by decide) (by kernel_rfl) ?_; intro K hK
  (iterate 15 (refine @unH _ ?_; refine z4 y110_39 ?_))
  refine planT_two ?_ ?_
  ·(refine @unH _ ?_; refine zX y110_39 ?_)
   refine (vrun_spec main H2 places pieces _ _ _ start xss ts hday2 rule r0 r3).runs.mono ?_
   rintro _ H3 ⟨w, rfl, lH3, hw⟩
   rw [<- hsents] at hw
   have vhb3 := lH3 _ _ vhb
   (refine @unH _ ?_; refine zX y110_39 ?_)
   (iterate 4 (refine @unH _ ?_; refine z4 y110_39 ?_))
   refine planT_one ?_
   (refine @unH _ ?_; refine zX y110_39 ?_)
   intro tb htb
   have nht : hb ≠ tb := ne_new vhb3 htb
   (refine @unH _ ?_; refine zX y110_39 ?_)
   refine planT_one ?_
   have vhb4 : (H3.set tb (.cells #[.slice none 0 0] 22 (0, 0))) hb = _ := (set_ne nht).trans vhb3
   have lH4 : H3.le (H3.set tb (.cells #[w] 22 (0, 0))) := Hp.le_set htb
   obtain ⟨wa, wn, wc, rfl⟩ := hw.isSlice
   (refine @unH _ ?_; refine zX y110_39 ?_)
   have vhb5 : (H3.set tb (.cells #[.slice wa wn wc] 22 (0, 0))) hb = _ := (set_ne nht).trans vhb3
   (iterate 2 (refine @unH _ ?_; refine z4 y110_39 ?_))
   refine planT_nil (hK _ _ ?_); clear hK K
   (try simp only [nq, ↓reduceIte, Nat.reduceEqDiff])
   exact ⟨_, _, tb, rfl, rfl, rfl, set_at, hw.le lH4, Hp.le_trans lH3 lH4⟩
  ·(refine @unH _ ?_; refine zX y110_39 ?_)
   intro tb htb
   have nht : hb ≠ tb := ne_new vhb htb
   have lH3 : H2.le (H2.set tb (.cells #[.slice none 0 0] 22 (0, 0))) := Hp.le_set htb
   have vtb3 : (H2.set tb (.cells #[.slice none 0 0] 22 (0, 0))) tb = _ := set_at
   have vhb3 : (H2.set tb (.cells #[.slice none 0 0] 22 (0, 0))) hb = _ := (set_ne nht).trans vhb
   generalize H2.set tb (.cells #[.slice none 0 0] 22 (0, 0)) = H3 at *
   have hday3 := hday2.le lH3
   (refine @unH _ ?_; refine zX y110_39 ?_)
   refine planT_one ?_
   (refine @unH _ ?_; refine zX y110_39 ?_)
   refine (vrun_spec main H3 places pieces _ _ _ start xss ts hday3 rule r0 r3).runs.mono ?_
   rintro _ H4 ⟨w, rfl, lH4, hw⟩
   rw [<- hsents] at hw
   have vhb4 := lH4 _ _ vhb3
   have vtb4 := lH4 _ _ vtb3
   obtain ⟨wa, wn, wc, rfl⟩ := hw.isSlice
   (refine @unH _ ?_; refine zX y110_39 ?_)
   (iterate 4 (refine @unH _ ?_; refine z4 y110_39 ?_))
   refine planT_one ?_
   (refine @unH _ ?_; refine zX y110_39 ?_)
   have vhb5 : (H4.set tb (.cells #[.slice wa wn wc] 22 (0, 0))) hb = _ := (set_ne nht).trans vhb4
   (iterate 2 (refine @unH _ ?_; refine z4 y110_39 ?_))
   refine planT_nil (hK _ _ ?_); clear hK K
   (try simp only [nq, ↓reduceIte, Nat.reduceEqDiff])
   refine ⟨_, _, tb, rfl, rfl, rfl, set_at, hw.set (fun p c fr h => by rw [vtb4] at h; cases h), ?_⟩
   intro x u hx
   rw [set_ne (fun e => by rw [e, htb] at hx; cases hx)]
   exact lH4 _ _ (lH3 _ _ hx)
 ·rintro a' H5 ⟨e, w, tb, rfl, e3, e4, vtb, hw, lH5⟩
  have vhb5 := lH5 _ _ vhb
  have lHH5 : H.le H5 := Hp.le_trans lH12 lH5
  have hday5 := hday2.le lH5
  have ntb : tb ≠ hb := fun e => by rw [e, vhb5] at vtb; cases vtb
  clear hday2 vhb
  (refine @unH _ ?_; refine zA y110_39 ?_; (repeat (refine inC ?_; intro hc)); try (refine inK ?_; intro K hK))
  refine (clone_spec main H5 _ start hday5.st (by have := hday5.ok.2.2.2.2.1; have := hday5.ok.2.1; omega)).runs.mono ?_
  rintro _ H6 ⟨ov, rfl, hov⟩
  have vhb6 := hov.1.toLe _ _ vhb5
  have vtb6 := hov.1.toLe _ _ vtb
  have hday6 := hday5.le hov.1.toLe
  ((try (refine @unH _ ?_; refine zX y110_39 ?_)); (try (refine hK _ _ ?_; clear hK K; (try simp only [nq, ↓reduceIte, Nat.reduceEqDiff]))); refine @unH _ ?_; refine zA y110_39 ?_; (repeat (refine inC ?_; intro hc)); try (refine inK ?_; intro K hK))
  have hw5 := hw
  have htv5 := hday5.truth
  have hss : ss.length = ts.length := by
   rw [hsents, List.length_take, (rrun_ok places rule ts start (fun t ht => by
    have h1 := hday5.ok.2.2.2.2.2.2.1 t ht
    have h2 := hday5.ok.2.2.2.1
    omega) (hday5.true.bnd hday5.ok) (by omega) ts.length (Nat.le_refl _)).cl]
   omega
  have hstl : start.length <= 1000 := by have := hday5.ok.2.2.2.2.1; have := hday5.ok.2.1; omega
  have htyp : ∀ p c fr, H5 hb ≠ some (p, .cells c 3 fr) := fun p c fr h => by rw [vhb5] at h; cases h
  refine wpX_loop (fun w' a' H' => ∃ e i ov jv off jobs, w' = ts.length - i /\ i <= ts.length /\ nhS ts ss start i = (off, jobs) /\ a' = act 73 e [] /\ e 3 = .pointer (some ⟨hb, 0, none⟩) /\ e 4 = .pointer (some ⟨tb, 0, none⟩) /\ e 7 = ov /\ e 44 = .slice ta ts.length tc /\ e 45 = .int .i64 ts.length /\ e 46 = .int .i64 (i : Nat) /\
   RowX (some hb) H5 H' ov 3 (ints off) /\ RowX (some hb) H5 H' jv 3 (ints jobs) /\ (∀ x, rowB jv = some x -> rowB ov ≠ some x) /\ H' hb = some (true, .cells #[.int .i64 places, .int .i64 pieces, .slice sa start.length sc, .slice ca cn cc, .slice ta ts.length tc, .int .i64 rule, .slice xa xn xc, .int .i64 notice, .int .i64 load, .int .i64 barrows, .int .i64 lo, .int .i64 hi, jv] 85 (0, 0))) (n := ts.length) ?_ ?_
  ·exact ⟨_, 0, ov, .slice none 0 0, start, [], rfl, by omega, rfl, rfl, e3, e4, rfl, rfl, rfl, rfl, ⟨Lex.of hov.1.toLe, hov.2⟩, ⟨Lex.of hov.1.toLe, .inl ⟨rfl, rfl⟩⟩, (fun x hx => by cases hx), vhb6⟩
  ·clear hov vhb6 vtb6 hday6 e3 e4 hday hday0 htimes lH12 hday5
   rename_i eold
   clear eold
   rintro w' a' H7 ⟨e, i, ov, jv, off, jobs, rfl, hile, hnh, rfl, e3, e4, e7, e44, e45, e46, hov, hjv, hsep, vhb7⟩
   have vtb7 := hov.1.keeps vtb ntb
   have htv7 := htv5.lexO hov.1 htyp
   have hw7 := hw5.lexO hov.1 htyp
   have hlen := nhS_len ts ss start i
   rw [hnh] at hlen
   simp only [] at hlen
   by_cases hlt : i < ts.length
   ·have hsucc : nhS ts ss start (i + 1) = if ts[i] ∈ off then (off, jobs) else ((off.filter fun x => !(x == ss.getD i 0)) ++ [ts[i]], jobs ++ [(i : Int)]) := by
     have hg : ts.getD i 0 = ts[i] := by simp [List.getD, List.getElem?_eq_getElem hlt]
     simp only [nhS, hnh, hg]
    obtain ⟨b, o, cap', p, c, fr, hve, _, hb', hx⟩ := htv7.cons (fun h => absurd (congrArg List.length h) (by simp only [List.length_nil]; omega))
    cases hve
    have hxi := hx i ts[i] (List.getElem?_eq_getElem hlt)
    generalize ts[i] = t at hsucc hxi
    generalize hn1 : nhS ts ss start (i + 1) = N1 at hsucc
    (refine @unH _ ?_; refine zA y110_39 ?_; (repeat (refine inC ?_; intro hc)); try (refine inK ?_; intro K hK))
    (intro ib hib; generalize hG : Hp.set _ ib _ = H8; have lH8 := le_of_set hG hib; have vib := at_of_set hG; clear hG)
    have vhb8 := lH8 _ _ vhb7
    have vtb8 := lH8 _ _ vtb7
    have hov8 := hov.le lH8
    have hjv8 := hjv.le lH8
    have nbi : ib ≠ hb := fun e => by rw [e, vhb7] at hib; cases hib
    have nti : ib ≠ tb := fun e => by rw [e, vtb7] at hib; cases hib
    have noi : rowB ov ≠ some ib := fun e => by obtain ⟨_, u, hu⟩ := row_new hov e; rw [hib] at hu; cases hu
    have nji : rowB jv ≠ some ib := fun e => by obtain ⟨_, u, hu⟩ := row_new hjv e; rw [hib] at hu; cases hu
    clear vhb7 vtb7 hb' hxi hx htv7 hw7
    obtain ⟨oa, oc, rfl⟩ := hov.len
    ((try (refine @unH _ ?_; refine zX y110_39 ?_)); (try (refine hK _ _ ?_; clear hK K; (try simp only [nq, ↓reduceIte, Nat.reduceEqDiff]))); refine @unH _ ?_; refine zA y110_39 ?_; (repeat (refine inC ?_; intro hc)); try (refine inK ?_; intro K hK))
    refine (contains_spec main H8 _ off t hov8.ints (by omega)).runs.mono ?_
    rintro _ HQ ⟨rfl, hHQ⟩; rw [hHQ]; clear hHQ HQ
    by_cases hmem : t ∈ off
    ·rw [if_pos hmem] at hsucc
     ((try (refine @unH _ ?_; refine zX y110_39 ?_)); (try (refine hK _ _ ?_; clear hK K; (try simp only [nq, ↓reduceIte, Nat.reduceEqDiff]))); refine @unH _ ?_; refine zA y110_39 ?_; (repeat (refine inC ?_; intro hc)); try (refine inK ?_; intro K hK))
     exact ⟨_, by omega, _, i + 1, _, jv, off, jobs, rfl, hlt, by rw [hn1, hsucc], rfl, e3, e4, e7, e44, e45, rfl, hov8, hjv8, hsep, vhb8⟩
    ·rw [if_neg hmem] at hsucc
     ((try (refine @unH _ ?_; refine zX y110_39 ?_)); (try (refine hK _ _ ?_; clear hK K; (try simp only [nq, ↓reduceIte, Nat.reduceEqDiff]))); refine @unH _ ?_; refine zA y110_39 ?_; (repeat (refine inC ?_; intro hc)); try (refine inK ?_; intro K hK))
     refine wpX_dlast (fun HX => HX hb = some (true, .cells #[.int .i64 places, .int .i64 pieces, .slice sa start.length sc, .slice ca cn cc, .slice (some ⟨b, o, none⟩) ts.length tc, .int .i64 rule, .slice xa xn xc, .int .i64 notice, .int .i64 load, .int .i64 barrows, .int .i64 lo, .int .i64 hi, jv] 85 (0, 0)) /\ HX ib = some (true, .cells #[.int .i64 i] 3 (0, 0))) 10 [(true, 0), (true, 1), (true, 2), (true, 3), (true, 4), (true, 5), (false, 6), (false, 7), (true, 8), (true, 9), (false, 10)] (by kernel_rfl) (by kernel_rfl) (by simp) (by kernel_rfl) ?_; intro K hK
     (iterate 6 (apply plan_takeS rfl rfl rfl (by exact ⟨vhb8, vib⟩); (focus (intro HX hHX; have hX1 := hHX.1; have hX2 := hHX.2; clear hHX; simp -implicitDefEqProofs (disch := first | omega | (simp only [qd] <;> omega)) only [xq, ↓xp, qc, Nat.reduceAdd, List.range, List.range.loop, fine, Nat.reduceEqDiff, ↓reduceIte, yielded, reduceCtorEq, Nat.reduceLT, Nat.reduceMul, Nat.reduceSub, one, Nat.reduceLeDiff, runX_cons, y110_39, aq, ↓ap, qe0, qe1, qe2, *, -hK, YN_value] <;> (first | exact rfl | exact ⟨rfl, rfl⟩ | exact ⟨rfl, trivial⟩))); simp -implicitDefEqProofs (disch := first | omega | (simp only [qd] <;> omega)) only [act_put, act_put_none]))
     refine planX_act ?_
     (refine @unH _ ?_; refine zX y110_39 ?_)
     intro g hg
     have ngb : hb ≠ g := ne_new vhb8 hg
     have ngi : ib ≠ g := ne_new vib hg
     refine ⟨.inr ⟨by rw [if_neg ngb], by rw [if_neg ngi]⟩, ?_⟩
     refine planX_act ?_
     obtain ⟨ja, jc, rfl⟩ := hjv8.len
     (refine @unH _ ?_; refine zX y110_39 ?_)
     have hjl : (ints jobs).length <= 1000000 := by rw [ints_len]; omega
     refine append_row2 Tryz.underlying22 Tryz.sizeOf3 Tryz.zeroValue3 rfl Tryz.typeInfo3 (by decide) (by decide) hjv8 hg rfl hjl _ _ _ _ (fun jv' H9 hjv9 hkeep hnew => ?_)
     have vhb9 := hkeep hb _ vhb8 (row_sep hjv8 vhb5)
     have vib9 := hkeep ib _ vib nji
     have vtb9 := hkeep tb _ vtb8 (row_sep hjv8 vtb)
     have hov9 := row_keep hov8 hkeep (fun x h1 h2 => hsep x h2 h1) hjv9.1
     have hsep9 : ∀ x, rowB jv' = some x -> rowB (.slice oa (ints off).length oc) ≠ some x := fun x h1 h2 => by
      rcases hnew x h1 with h | h
      ·exact hsep x h h2
      ·obtain ⟨_, u, hu⟩ := row_new hov8 h2
       rw [h] at hu; cases hu
     have nji9 : rowB jv' ≠ some ib := fun h1 => by
      rcases hnew ib h1 with h | h
      ·exact nji h
      ·rw [vib] at h; cases h
     have hj1 : ints jobs ++ [Value.int .i64 (i : Int)] = ints (jobs ++ [(i : Int)]) := by rw [ints_app]; rfl
     rw [hj1] at hjv9
     clear vhb8 vtb8 hov8 hjv8 hkeep hnew hsep nji hg ngb ngi vib lH8 hib hjl
     obtain ⟨ja', jc', rfl⟩ := hjv9.len
     refine ⟨.inr ⟨vhb9, vib9⟩, ?_⟩
     simp (disch := omega) only [act_put]
     (iterate 2 (apply plan_takeS rfl rfl rfl (by exact ⟨vhb9, vib9⟩); (focus (intro HX hHX; have hX1 := hHX.1; have hX2 := hHX.2; clear hHX; simp -implicitDefEqProofs (disch := first | omega | (simp only [qd] <;> omega)) only [xq, ↓xp, qc, Nat.reduceAdd, List.range, List.range.loop, fine, Nat.reduceEqDiff, ↓reduceIte, yielded, reduceCtorEq, Nat.reduceLT, Nat.reduceMul, Nat.reduceSub, one, Nat.reduceLeDiff, runX_cons, y110_39, aq, ↓ap, qe0, qe1, qe2, *, -hK, YN_value] <;> (first | exact rfl | exact ⟨rfl, rfl⟩ | exact ⟨rfl, trivial⟩))); simp -implicitDefEqProofs (disch := first | omega | (simp only [qd] <;> omega)) only [act_put, act_put_none]))
     refine planX_act ?_
     (refine @unH _ ?_; refine zX y110_39 ?_)
     refine ⟨by simp, plan_nil (hK _ _ ?_)⟩
     clear hK K
     (try simp only [nq, ↓reduceIte, Nat.reduceEqDiff])
     have vhb10 : (H9.set hb (.cells #[.int .i64 places, .int .i64 pieces, .slice sa start.length sc, .slice ca cn cc, .slice (some ⟨b, o, none⟩) ts.length tc, .int .i64 rule, .slice xa xn xc, .int .i64 notice, .int .i64 load, .int .i64 barrows, .int .i64 lo, .int .i64 hi, .slice ja' (ints (jobs ++ [(i : Int)])).length jc'] 85 (0, 0))) hb = _ := set_at
     have lex10 : Lex (some hb) H5 (H9.set hb (.cells #[.int .i64 places, .int .i64 pieces, .slice sa start.length sc, .slice ca cn cc, .slice (some ⟨b, o, none⟩) ts.length tc, .int .i64 rule, .slice xa xn xc, .int .i64 notice, .int .i64 load, .int .i64 barrows, .int .i64 lo, .int .i64 hi, .slice ja' (ints (jobs ++ [(i : Int)])).length jc'] 85 (0, 0))) := hjv9.1.set
     have vtb10 : (H9.set hb (.cells #[.int .i64 places, .int .i64 pieces, .slice sa start.length sc, .slice ca cn cc, .slice (some ⟨b, o, none⟩) ts.length tc, .int .i64 rule, .slice xa xn xc, .int .i64 notice, .int .i64 load, .int .i64 barrows, .int .i64 lo, .int .i64 hi, .slice ja' (ints (jobs ++ [(i : Int)])).length jc'] 85 (0, 0))) tb = _ := (set_ne ntb).trans vtb9
     have vib10 : (H9.set hb (.cells #[.int .i64 places, .int .i64 pieces, .slice sa start.length sc, .slice ca cn cc, .slice (some ⟨b, o, none⟩) ts.length tc, .int .i64 rule, .slice xa xn xc, .int .i64 notice, .int .i64 load, .int .i64 barrows, .int .i64 lo, .int .i64 hi, .slice ja' (ints (jobs ++ [(i : Int)])).length jc'] 85 (0, 0))) ib = _ := (set_ne nbi).trans vib9
     have hov10 := row_set hov9 (row_sep hov9 vhb5) lex10
     have hjv10 := row_set hjv9 (row_sep hjv9 vhb5) lex10
     generalize H9.set hb (.cells #[.int .i64 places, .int .i64 pieces, .slice sa start.length sc, .slice ca cn cc, .slice (some ⟨b, o, none⟩) ts.length tc, .int .i64 rule, .slice xa xn xc, .int .i64 notice, .int .i64 load, .int .i64 barrows, .int .i64 lo, .int .i64 hi, .slice ja' (ints (jobs ++ [(i : Int)])).length jc'] 85 (0, 0)) = H10 at *
     clear vhb9 vib9 vtb9 hov9 hjv9
     (refine @unH _ ?_; refine zA y110_39 ?_; (repeat (refine inC ?_; intro hc)); try (refine inK ?_; intro K hK))
     have htells : ∀ b', rowB (.slice oa (ints off).length oc) = some b' -> H5 b' = none -> Tells main b' H10 147 [.pointer (some ⟨tb, 0, none⟩), .pointer (some ⟨ib, 0, none⟩)] (fun x => x == ss.getD i 0) := fun b' hrb hb0 H' x hl => by
      refine sentIs_spec main H' x tb ib i _ ss (hl.keeps vtb10 (ne_new vtb hb0)) (hl.keeps vib10 (fun h9 => noi (by rw [h9]; exact hrb))) (hw5.move fun x p c fr hx => hl.keeps (lex10.keeps hx (fun h9 => htyp p c fr (by rw [<- h9]; exact hx))) (ne_new hx hb0)) (by omega) (by omega)
     refine (deleteRow_spec main (some hb) H5 H10 _ off _ [.pointer (some ⟨tb, 0, none⟩), .pointer (some ⟨ib, 0, none⟩)] (fun x => x == ss.getD i 0) (fun a H K E => callF147 a K E) hov10 htells (by omega)).runs.mono ?_
     rintro _ H11 ⟨ov', rfl, hov11, hrB, hkeep⟩
     have vhb11 := hkeep hb _ vhb10 (row_sep hov10 vhb5)
     have hjv11 := row_keep hjv10 hkeep hsep9 hov11.1
     rw [<- hrB] at hsep9 hkeep
     have hfl := List.length_filter_le (fun x => !(x == ss.getD i 0)) off
     generalize hoff : off.filter (fun x => !(x == ss.getD i 0)) = off' at *
     clear htells hov10 hjv10 vib10 vtb10 vhb10 lex10 hkeep
     obtain ⟨oa', oc', rfl⟩ := hov11.len
     ((try (refine @unH _ ?_; refine zX y110_39 ?_)); (try (refine hK _ _ ?_; clear hK K; (try simp only [nq, ↓reduceIte, Nat.reduceEqDiff]))); refine @unH _ ?_; refine zA y110_39 ?_; (repeat (refine inC ?_; intro hc)); try (refine inK ?_; intro K hK))
     intro g hg
     have hol : (ints off').length <= 1000000 := by rw [ints_len]; omega
     have ngb : hb ≠ g := ne_new vhb11 hg
     ((try (refine @unH _ ?_; refine zX y110_39 ?_)); (try (refine hK _ _ ?_; clear hK K; (try simp only [nq, ↓reduceIte, Nat.reduceEqDiff]))); refine @unH _ ?_; refine zA y110_39 ?_; (repeat (refine inC ?_; intro hc)); try (refine inK ?_; intro K hK))
     refine append_row2 Tryz.underlying22 Tryz.sizeOf3 Tryz.zeroValue3 rfl Tryz.typeInfo3 (by decide) (by decide) hov11 hg rfl hol _ _ _ _ (fun ov'' H12 hov12 hkeep hnew => ?_)
     have vhb12 := hkeep hb _ vhb11 (row_sep hov11 vhb5)
     have hjv12 := row_keep hjv11 hkeep hsep9 hov12.1
     have ho1 : ints off' ++ [Value.int .i64 t] = ints (off' ++ [t]) := by rw [ints_app]; rfl
     rw [ho1] at hov12
     have hsep12 : ∀ x, rowB (.slice ja' (ints (jobs ++ [(i : Int)])).length jc') = some x -> rowB ov'' ≠ some x := fun x h1 h2 => by
      rcases hnew x h2 with h | h
      ·exact hsep9 x h1 h
      ·obtain ⟨_, u, hu⟩ := row_new hjv11 h1
       rw [h] at hu; cases hu
     ((try (refine @unH _ ?_; refine zX y110_39 ?_)); (try (refine hK _ _ ?_; clear hK K; (try simp only [nq, ↓reduceIte, Nat.reduceEqDiff]))); refine @unH _ ?_; refine zA y110_39 ?_; (repeat (refine inC ?_; intro hc)); try (refine inK ?_; intro K hK))
     exact ⟨_, by omega, _, i + 1, ov'', _, off' ++ [t], jobs ++ [(i : Int)], rfl, hlt, by rw [hn1, hsucc], rfl, e3, e4, rfl, e44, e45, rfl, hov12, hjv12, hsep12, vhb12⟩
   ·obtain rfl : i = ts.length := by omega
    (refine @unH _ ?_; refine zA y110_39 ?_; (repeat (refine inC ?_; intro hc)); try (refine inK ?_; intro K hK))
    (refine @unH _ ?_; refine z9 Tryz.results110 ?_)
    refine ⟨hb, jv, rfl, fun x u hx => hov.1.keeps (lHH5 _ _ hx) (fun e => by rw [e, h0b] at hx; cases hx), vhb7, ?_⟩
    rw [hjobs, hnh]
    exact hjv.ints
end Go.Proofs.YtofmadjgbcopdaaGreatDoor
end
section
namespace Go.Proofs.YtofmadjgbcopdaaGreatDoor
open Go Go.X
def y26_40 := And.intro (fun H => loadAt_aggE (H := H) Tryz.underlying29 rfl Tryz.sizeOf29) (And.intro @callF68 (And.intro (fun H => fieldAt_eq (H := H) Tryz.underlying85 (i := 1) rfl (off := 12) rfl Tryz.sizeOf22) (fun H => loadAt_one (H := H) Tryz.underlying22 rfl)))
def y68_40 := And.intro (fun H => loadAt_aggE (H := H) Tryz.underlying29 rfl Tryz.sizeOf29) (And.intro @callF28 @callF110)
def y98_40 := And.intro (fun H => loadAt_aggE (H := H) Tryz.underlying29 rfl Tryz.sizeOf29) (And.intro @callF68 @callF71)
theorem bopen_spec (main : Md) (H : Hp) (n : HN) (v : HV) (hd : HaulIn H n v) :
  FnX Tryz.prog main 68 #[n.agg v] H fun e H' => ∃ hb jv, e = .returned (.tuple #[.pointer (some ⟨hb, 0, none⟩), .int .i64 0]) /\ H.le H' /\ H' hb = some (true, n.obj v jv) /\ SlI H' jv n.jobs := by
 simp only [HN.agg]
 refine FnX_start Tryz.func68 rfl Tryz.ntmps68 (by simp) ?_
 have hc := fun H' h' => bcheck_spec main H' n v h'
 have hn := fun H' h' => newHaul_spec main H' n v h'
 simp only [HN.agg] at hc hn
 (refine @unH _ ?_; refine zA y68_40 ?_; (repeat (refine inC ?_; intro hc)); try (refine inK ?_; intro K hK))
 (intro ab hab; generalize hG : Hp.set _ ab _ = H1; have lH1 := le_of_set hG hab; have vab := at_of_set hG; clear hG)
 have hd1 := hd.le lH1
 ((try (refine @unH _ ?_; refine zX y68_40 ?_)); (try (refine hK _ _ ?_; clear hK K; (try simp only [nq, ↓reduceIte, Nat.reduceEqDiff]))); refine @unH _ ?_; refine zA y68_40 ?_; (repeat (refine inC ?_; intro hc)); try (refine inK ?_; intro K hK))
 refine (hc H1 hd1).runs.mono ?_
 rintro _ H2 ⟨rfl, lH2⟩
 have hd2 := hd1.le lH2
 have vab2 := lH2 _ _ vab
 ((try (refine @unH _ ?_; refine zX y68_40 ?_)); (try (refine hK _ _ ?_; clear hK K; (try simp only [nq, ↓reduceIte, Nat.reduceEqDiff]))); refine @unH _ ?_; refine zA y68_40 ?_; (repeat (refine inC ?_; intro hc)); try (refine inK ?_; intro K hK))
 refine (hn H2 hd2).runs.mono ?_
 rintro _ H3 ⟨hb, jv, rfl, lH3, vhb, hj⟩
 ((try (refine @unH _ ?_; refine zX y68_40 ?_)); (try (refine hK _ _ ?_; clear hK K; (try simp only [nq, ↓reduceIte, Nat.reduceEqDiff]))); refine @unH _ ?_; refine zA y68_40 ?_; (repeat (refine inC ?_; intro hc)); try (refine inK ?_; intro K hK))
 (refine @unH _ ?_; refine zB Tryz.results68 ?_)
 exact ⟨hb, jv, rfl, Hp.le_trans lH1 (Hp.le_trans lH2 lH3), vhb, hj⟩
theorem jobs_spec (main : Md) (H : Hp) (n : HN) (v : HV) (hd : HaulIn H n v) :
  FnX Tryz.prog main 26 #[n.agg v] H fun e H' => ∃ jv, e = .returned (.tuple #[jv, .int .i64 0]) /\ H.le H' /\ SlI H' jv n.jobs := by
 simp only [HN.agg]
 refine FnX_start Tryz.func26 rfl Tryz.ntmps26 (by simp) ?_
 have hc := fun H' h' => bopen_spec main H' n v h'
 simp only [HN.agg] at hc
 (refine @unH _ ?_; refine zA y26_40 ?_; (repeat (refine inC ?_; intro hc)); try (refine inK ?_; intro K hK))
 (intro ab hab; generalize hG : Hp.set _ ab _ = H1; have lH1 := le_of_set hG hab; have vab := at_of_set hG; clear hG)
 have hd1 := hd.le lH1
 ((try (refine @unH _ ?_; refine zX y26_40 ?_)); (try (refine hK _ _ ?_; clear hK K; (try simp only [nq, ↓reduceIte, Nat.reduceEqDiff]))); refine @unH _ ?_; refine zA y26_40 ?_; (repeat (refine inC ?_; intro hc)); try (refine inK ?_; intro K hK))
 refine (hc H1 hd1).runs.mono ?_
 rintro _ H2 ⟨hb, jv, rfl, lH2, vhb, hj⟩
 simp only [HN.obj] at vhb
 ((try (refine @unH _ ?_; refine zX y26_40 ?_)); (try (refine hK _ _ ?_; clear hK K; (try simp only [nq, ↓reduceIte, Nat.reduceEqDiff]))); refine @unH _ ?_; refine zA y26_40 ?_; (repeat (refine inC ?_; intro hc)); try (refine inK ?_; intro K hK))
 (refine @unH _ ?_; refine zB Tryz.results26 ?_)
 exact ⟨jv, rfl, Hp.le_trans lH1 lH2, hj⟩
theorem driving_spec (main : Md) (H : Hp) (n : HN) (v : HV) (hd : HaulIn H n v) (mi : Int) (h1 : 1 <= mi) (h20 : mi <= 20) :
  FnX Tryz.prog main 98 #[n.agg v, .int .i64 mi] H fun e H' => ∃ hb jv, e = .returned (.tuple #[.pointer (some ⟨hb, 0, none⟩), .int .i64 0]) /\ H.le H' /\ H' hb = some (true, n.obj v jv) /\ SlI H' jv n.jobs := by
 simp only [HN.agg]
 refine FnX_start Tryz.func98 rfl Tryz.ntmps98 (by simp) ?_
 have hc := fun H' h' => bopen_spec main H' n v h'
 simp only [HN.agg] at hc
 (refine @unH _ ?_; refine zA y98_40 ?_; (repeat (refine inC ?_; intro hc)); try (refine inK ?_; intro K hK))
 (intro ab hab; generalize hG : Hp.set _ ab _ = H1; have lH1 := le_of_set hG hab; have vab := at_of_set hG; clear hG)
 have hd1 := hd.le lH1
 ((try (refine @unH _ ?_; refine zX y98_40 ?_)); (try (refine hK _ _ ?_; clear hK K; (try simp only [nq, ↓reduceIte, Nat.reduceEqDiff]))); refine @unH _ ?_; refine zA y98_40 ?_; (repeat (refine inC ?_; intro hc)); try (refine inK ?_; intro K hK))
 refine (hc H1 hd1).runs.mono ?_
 rintro _ H2 ⟨hb, jv, rfl, lH2, vhb, hj⟩
 ((try (refine @unH _ ?_; refine zX y98_40 ?_)); (try (refine hK _ _ ?_; clear hK K; (try simp only [nq, ↓reduceIte, Nat.reduceEqDiff]))); refine @unH _ ?_; refine zA y98_40 ?_; (repeat (refine inC ?_; intro hc)); try (refine inK ?_; intro K hK))
 refine (binside_spec main H2 mi 1 20 h1 h20).runs.mono ?_; rintro _ HQ ⟨rfl, hHQ⟩; rw [hHQ]; clear hHQ HQ; ((try (refine @unH _ ?_; refine zX y98_40 ?_)); (try (refine hK _ _ ?_; clear hK K; (try simp only [nq, ↓reduceIte, Nat.reduceEqDiff]))); refine @unH _ ?_; refine zA y98_40 ?_; (repeat (refine inC ?_; intro hc)); try (refine inK ?_; intro K hK))
 (refine @unH _ ?_; refine zB Tryz.results98 ?_)
 exact ⟨hb, jv, rfl, Hp.le_trans lH1 lH2, vhb, hj⟩
end Go.Proofs.YtofmadjgbcopdaaGreatDoor
end
section
namespace Go.Proofs.YtofmadjgbcopdaaGreatDoor
open Go Go.X
def y116_41 := And.intro (fun H => ex_alloc (H := H) (P := Tryz.prog) (h := Tryz.zeroValue145)) (And.intro (fun H => indexAt_array (H := H) Tryz.underlying145 Tryz.sizeOf3) (And.intro (fun H => storeAt_int (H := H) Tryz.sizeOf3) (And.intro (fun H => loadAt_aggE (H := H) Tryz.underlying145 rfl Tryz.sizeOf145) (fun H => storeAt_agg (H := H) Tryz.sizeOf145))))
def y153_41 := And.intro (fun H => fieldAt_eq (H := H) Tryz.underlying85 (i := 0) rfl (off := 0) rfl Tryz.sizeOf29) (And.intro (fun H => fieldAt_eq (H := H) Tryz.underlying29 (i := 6) rfl (off := 9) rfl Tryz.sizeOf3) (And.intro (fun H => loadAt_one (H := H) Tryz.underlying3 rfl) (fun H => indexAt_array (H := H) Tryz.underlying145 Tryz.sizeOf3)))
theorem resting_spec (main : Md) (H : Hp) :
  FnX Tryz.prog main 116 #[] H fun e H' => e = .returned (.agg (ints (List.replicate 4 (-1048576))).toArray) /\ H.le H' := by
 refine FnX_start (args := []) Tryz.func116 rfl Tryz.ntmps116 (by simp) ?_
 (refine @unH _ ?_; refine zA y116_41 ?_; (repeat (refine inC ?_; intro hc)); try (refine inK ?_; intro K hK))
 (intro rb hrb; generalize hG : Hp.set _ rb _ = H1; have lH1 := le_of_set hG hrb; have vrb := at_of_set hG; clear hG)
 ((try (refine @unH _ ?_; refine zX y116_41 ?_)); (try (refine hK _ _ ?_; clear hK K; (try simp only [nq, ↓reduceIte, Nat.reduceEqDiff]))); refine @unH _ ?_; refine zA y116_41 ?_; (repeat (refine inC ?_; intro hc)); try (refine inK ?_; intro K hK))
 (intro bb hbb; generalize hG : Hp.set _ bb _ = H2; have lH2 := le_of_set hG hbb; have vbb := at_of_set hG; clear hG)
 have vrb2 := lH2 _ _ vrb
 have hbb0 : H bb = none := Hp.le_none lH1 hbb
 have nbr : bb ≠ rb := (ne_new vrb hbb).symm
 have nbr' := nbr.symm
 ((try (refine @unH _ ?_; refine zX y116_41 ?_)); (try (refine hK _ _ ?_; clear hK K; (try simp only [nq, ↓reduceIte, Nat.reduceEqDiff]))); refine @unH _ ?_; refine zA y116_41 ?_; (repeat (refine inC ?_; intro hc)); try (refine inK ?_; intro K hK))
 refine wpX_loop (fun w a' H' => ∃ e j L, w = 4 - j /\ j <= 4 /\ L.length = 4 /\ (∀ k : Nat, k < j -> L[k]? = some (-1048576 : Int)) /\ a' = act 10 e [] /\ e 0 = .pointer (some ⟨rb, 0, none⟩) /\ e 1 = .pointer (some ⟨bb, 0, none⟩) /\ e 3 = .int .i64 (j : Nat) /\ H' = H2.set bb (.cells (ints L).toArray 145 (0, 0))) (n := 4) ?_ ?_
 ·exact ⟨_, 0, List.replicate 4 0, rfl, by omega, by simp, fun k hk => by omega, rfl, rfl, rfl, rfl, (set_self vbb).symm⟩
 ·rintro w a' H' ⟨e, j, L, rfl, hj, hL, hLj, rfl, e0, e1, e3, hH⟩
  have hli : (ints L).length = 4 := by rw [ints_len]; exact hL
  have v1 : (H2.set bb (.cells (ints L).toArray 145 (0, 0))) bb = _ := set_at
  have v2 : (H2.set bb (.cells (ints L).toArray 145 (0, 0))) rb = _ := (set_ne nbr').trans vrb2
  have lx : Lex none H (H2.set bb (.cells (ints L).toArray 145 (0, 0))) := (Lex.of (Hp.le_trans lH1 lH2)).own hbb0
  generalize hG : H2.set bb (.cells (ints L).toArray 145 (0, 0)) = H3 at *
  rw [hH]; clear hH H'
  by_cases hlt : j < 4
  ·(refine @unH _ ?_; refine zA y116_41 ?_; (repeat (refine inC ?_; intro hc)); try (refine inK ?_; intro K hK))
   refine ⟨_, by omega, _, j + 1, L.set j (-1048576), rfl, hlt, by simp [hL], ?_, rfl, e0, e1, rfl, ?_⟩
   ·intro k hk
    rw [List.getElem?_set]
    split
    ·rename_i hjk; subst hjk; rw [if_pos (by omega)]
    ·exact hLj k (by omega)
   ·rw [<- hG, set_set, ints_setL]
  ·obtain rfl : j = 4 := by omega
   have hLr : L = List.replicate 4 (-1048576) := by
    apply List.ext_getElem?
    intro k
    by_cases hk : k < 4
    ·rw [hLj k hk, List.getElem?_replicate, if_pos hk]
    ·rw [List.getElem?_eq_none (by omega), List.getElem?_eq_none (by simp; omega)]
   subst hLr
   simp only [List.replicate, ints, List.map_cons, List.map_nil] at v1 ⊢
   (refine @unH _ ?_; refine zA y116_41 ?_; (repeat (refine inC ?_; intro hc)); try (refine inK ?_; intro K hK))
   (refine wpX_ret ?_; (try simp only [nq, ↓reduceIte, Nat.reduceEqDiff]); rw [bodyX_ret, results_cell Tryz.results116 (by decide) (b := rb) (o := 0) ?hcell Tryz.underlying145 rfl Tryz.sizeOf145]; (case hcell => exact e0); simp -implicitDefEqProofs (disch := first | omega | (simp only [qd] <;> omega)) only [xq, ↓xp, qc, Nat.reduceAdd, List.range, List.range.loop, fine, Nat.reduceEqDiff, ↓reduceIte, yielded, reduceCtorEq, Nat.reduceLT, Nat.reduceMul, Nat.reduceSub, one, Nat.reduceLeDiff, runX_cons, y116_41, loadA_set, List.extract_toArray])
   exact (lx.own hrb).toLe
def pickB (bs : List Int) : Nat -> Nat
 | 0 => 0
 | i + 1 => if i = 0 then 0 else if bs.getD i 0 < bs.getD (pickB bs i) 0 then i else pickB bs i
theorem pickB_lt (bs : List Int) : ∀ k, 0 < k -> pickB bs k < k
 | 0, h => by omega
 | i + 1, _ => by
  unfold pickB
  split
  ·omega
  ·have := pickB_lt bs i (by omega)
   split <;> omega
theorem scp_g {c : Code} {I : Nat -> Act -> Hp -> Prop} {Q : Exit -> Act -> Hp -> Prop} {l : Nat} {a : Act} {H : Hp} (h : (findLabel c l).isSome = true) : scp c I Q (.goto l) a H = I l a H := by
 simp [scp, h]
theorem pick_spec (main : Md) (H : Hp) (hb : Nat) (n : HN) (v : HV) (jv : Value) {hoq : Bool} (hhb : H hb = some (hoq, n.obj v jv)) (b1 : 1 <= n.barrows) (b4 : n.barrows <= 4) (bs : List Int) (hbs : bs.length = 4) :
  FnX Tryz.prog main 153 #[.pointer (some ⟨hb, 0, none⟩), .agg (ints bs).toArray] H fun e H' => e = .returned (.int .i64 (pickB bs n.barrows.toNat)) /\ H.le H' := by
 simp only [HN.obj] at hhb
 have hli : (ints bs).length = 4 := by rw [ints_len]; exact hbs
 have hint : ∀ k, k < 4 -> (ints bs)[k]? = some (.int .i64 (bs.getD k 0)) := fun k hk => by
  rw [ints_get (List.getElem?_eq_getElem (show k < bs.length by omega))]
  simp [List.getD, List.getElem?_eq_getElem (show k < bs.length by omega)]
 refine FnX_start Tryz.func153 rfl Tryz.ntmps153 (by simp) ?_
 (refine @unH _ ?_; refine zS y153_41 ?_; (repeat (refine inC ?_; intro hc)); try (refine inK ?_; intro K hK))
 (intro cb hcb; generalize hG : Hp.set _ cb _ = H1; have lH1 := le_of_set hG hcb; have vcb := at_of_set hG; clear hG)
 have vhb1 := lH1 _ _ hhb
 ((try (refine @unH _ ?_; refine zX y153_41 ?_)); (try (refine hK _ _ ?_; clear hK K; (try simp only [nq, ↓reduceIte, Nat.reduceEqDiff]))); refine @unH _ ?_; refine zS y153_41 ?_; (repeat (refine inC ?_; intro hc)); try (refine inK ?_; intro K hK))
 refine wpX_scope (fun l w a' H' => ∃ e i, w = 5 - i /\ 1 <= i /\ (i : Int) <= n.barrows /\ a' = act 25 e [] /\ e 0 = .pointer (some ⟨hb, 0, none⟩) /\ e 3 = .pointer (some ⟨cb, 0, none⟩) /\ e 5 = .int .i64 (pickB bs i : Nat) /\ e 6 = .int .i64 (i : Nat) /\ H' = H1) ?_ ?_
 ·refine wpX_cut (fun a' H' => ∃ e, a' = act 25 e [] /\ e 0 = .pointer (some ⟨hb, 0, none⟩) /\ e 3 = .pointer (some ⟨cb, 0, none⟩) /\ e 5 = .int .i64 (0 : Nat) /\ e 6 = .int .i64 (1 : Nat) /\ H' = H1) ?_ ?_
  ·(refine @unH _ ?_; refine zS y153_41 ?_; (repeat (refine inC ?_; intro hc)); try (refine inK ?_; intro K hK))
   exact ⟨_, rfl, rfl, rfl, rfl, rfl, by trivial⟩
  ·rintro a' H' ⟨e, rfl, e0, e3, e5, e6, hH⟩
   rw [hH]; clear hH H'
   have hP0 : (0 : Nat) = pickB bs 1 := by simp [pickB]
   rw [hP0] at e5
   clear hP0
   have hex : ∃ i : Nat, 1 <= i /\ (i : Int) <= n.barrows /\ e 5 = .int .i64 (pickB bs i : Nat) /\ e 6 = .int .i64 (i : Nat) := ⟨1, by omega, by omega, e5, e6⟩
   clear e5 e6
   obtain ⟨i, hi1, hib, e5, e6⟩ := hex
   by_cases hlt : (i : Int) < n.barrows
   ·have hbi := hint i (by omega)
    have hpl := pickB_lt bs i (by omega)
    have hbb := hint (pickB bs i) (by omega)
    have hsucc : pickB bs (i + 1) = if bs.getD i 0 < bs.getD (pickB bs i) 0 then i else pickB bs i := by
     simp only [pickB]
     rw [if_neg (by omega)]
    generalize hP1 : pickB bs (i + 1) = P1 at hsucc
    generalize pickB bs i = P0 at hsucc e5 hpl hbb
    (refine @unH _ ?_; refine zA y153_41 ?_; (repeat (refine inC ?_; intro hc)); try (refine inK ?_; intro K hK))
    (refine wpX_dst1 7 [(true, 0), (true, 1), (true, 2), (true, 3), (true, 4), (true, 5), (true, 6)] (by kernel_rfl) (by kernel_rfl) (by simp) (by kernel_rfl) ?_; intro K hK; (iterate 7 (refine @unH _ ?_; refine z3 y153_41 ?_)); refine plan_nil (hK _ _ ?_); clear hK K; (try simp only [nq, ↓reduceIte, Nat.reduceEqDiff]))
    repeat' (first
 | (refine wpX_stmtL rfl ?_; intro K hK; simp -implicitDefEqProofs (disch := first | omega | (simp only [qd] <;> omega)) only [xq, ↓xp, qc, Nat.reduceAdd, List.range, List.range.loop, fine, Nat.reduceEqDiff, ↓reduceIte, yielded, reduceCtorEq, Nat.reduceLT, Nat.reduceMul, Nat.reduceSub, one, Nat.reduceLeDiff, runX_cons, y153_41, aq, ↓ap, qe0, qe1, qe2, *, -hK]; try (refine hK _ _ ?_; clear hK K))
 | (refine wpX_lastL rfl ?_; intro K hK; simp -implicitDefEqProofs (disch := first | omega | (simp only [qd] <;> omega)) only [xq, ↓xp, qc, Nat.reduceAdd, List.range, List.range.loop, fine, Nat.reduceEqDiff, ↓reduceIte, yielded, reduceCtorEq, Nat.reduceLT, Nat.reduceMul, Nat.reduceSub, one, Nat.reduceLeDiff, runX_cons, y153_41, aq, ↓ap, qe0, qe1, qe2, *, -hK]; try (refine hK _ _ ?_; clear hK K; (try simp only [nq, ↓reduceIte, Nat.reduceEqDiff])))
 | (refine wpX_skip ?_; (try simp only [nq, ↓reduceIte, Nat.reduceEqDiff]))
 | (refine wpX_label ?_; (try simp only [nq, ↓reduceIte, Nat.reduceEqDiff]))
 | (refine wpX_exit ?_; (try simp only [nq, ↓reduceIte, Nat.reduceEqDiff]))
 | (refine wpX_goto ?_; (try simp only [nq, ↓reduceIte, Nat.reduceEqDiff]))
 | (refine wpX_condK (by simp only [act_eval, upd_get, Nat.reduceEqDiff, Nat.reduceLT, ↓reduceIte, *]; rfl) ?_ ?_ <;> (intro hc; first | (exfalso; simp -implicitDefEqProofs (disch := omega) only [*, bq, reduceCtorEq] at hc; done) | (simp only [dq, qe3, qe4, qe5, qe6] at hc) | skip))
 | (refine wpX_scope0 ?_)
 | (refine wpX_block ?_)
 | (refine wpX_seq ?_))
    ·rw [if_pos hc] at hsucc
     rw [scp_g (by rfl)]
     exact ⟨_, _, i + 1, rfl, by omega, by omega, rfl, e0, e3, by rw [hP1, hsucc]; rfl, rfl, by trivial⟩
    ·rw [if_neg (by omega)] at hsucc
     rw [scp_g (by rfl)]
     exact ⟨_, _, i + 1, rfl, by omega, by omega, rfl, e0, e3, by rw [hP1, hsucc]; exact e5, rfl, by trivial⟩
   ·have hie : n.barrows.toNat = i := by omega
    (refine @unH _ ?_; refine zA y153_41 ?_; (repeat (refine inC ?_; intro hc)); try (refine inK ?_; intro K hK))
    (refine @unH _ ?_; refine z9 Tryz.results153 ?_)
    exact ⟨by rw [hie], lH1⟩
 ·rintro l rest w a' H' hf ⟨e, i, rfl, hi1, hib, rfl, e0, e3, e5, e6, hH⟩
  rw [hH]; clear hH H'
  have hl : l = 0 := by
   apply Decidable.byContradiction
   intro hl
   have h9 : (0 == l) = false := by simp; omega
   simp only [findLabel, h9, Bool.false_eq_true, if_false] at hf
   cases hf
  subst hl
  simp only [findLabel, beq_self_eq_true, if_true, Option.some.injEq] at hf
  subst hf
  refine wpX_seq (wpX_skip ?_)
  (try simp only [nq, ↓reduceIte, Nat.reduceEqDiff])
  by_cases hlt : (i : Int) < n.barrows
  ·have hbi := hint i (by omega)
   have hpl := pickB_lt bs i (by omega)
   have hbb := hint (pickB bs i) (by omega)
   have hsucc : pickB bs (i + 1) = if bs.getD i 0 < bs.getD (pickB bs i) 0 then i else pickB bs i := by
    simp only [pickB]
    rw [if_neg (by omega)]
   generalize hP1 : pickB bs (i + 1) = P1 at hsucc
   generalize pickB bs i = P0 at hsucc e5 hpl hbb
   (refine @unH _ ?_; refine zA y153_41 ?_; (repeat (refine inC ?_; intro hc)); try (refine inK ?_; intro K hK))
   (refine wpX_dst1 7 [(true, 0), (true, 1), (true, 2), (true, 3), (true, 4), (true, 5), (true, 6)] (by kernel_rfl) (by kernel_rfl) (by simp) (by kernel_rfl) ?_; intro K hK; (iterate 7 (refine @unH _ ?_; refine z3 y153_41 ?_)); refine plan_nil (hK _ _ ?_); clear hK K; (try simp only [nq, ↓reduceIte, Nat.reduceEqDiff]))
   repeat' (first
 | (refine wpX_stmtL rfl ?_; intro K hK; simp -implicitDefEqProofs (disch := first | omega | (simp only [qd] <;> omega)) only [xq, ↓xp, qc, Nat.reduceAdd, List.range, List.range.loop, fine, Nat.reduceEqDiff, ↓reduceIte, yielded, reduceCtorEq, Nat.reduceLT, Nat.reduceMul, Nat.reduceSub, one, Nat.reduceLeDiff, runX_cons, y153_41, aq, ↓ap, qe0, qe1, qe2, *, -hK]; try (refine hK _ _ ?_; clear hK K))
 | (refine wpX_lastL rfl ?_; intro K hK; simp -implicitDefEqProofs (disch := first | omega | (simp only [qd] <;> omega)) only [xq, ↓xp, qc, Nat.reduceAdd, List.range, List.range.loop, fine, Nat.reduceEqDiff, ↓reduceIte, yielded, reduceCtorEq, Nat.reduceLT, Nat.reduceMul, Nat.reduceSub, one, Nat.reduceLeDiff, runX_cons, y153_41, aq, ↓ap, qe0, qe1, qe2, *, -hK]; try (refine hK _ _ ?_; clear hK K; (try simp only [nq, ↓reduceIte, Nat.reduceEqDiff])))
 | (refine wpX_skip ?_; (try simp only [nq, ↓reduceIte, Nat.reduceEqDiff]))
 | (refine wpX_label ?_; (try simp only [nq, ↓reduceIte, Nat.reduceEqDiff]))
 | (refine wpX_exit ?_; (try simp only [nq, ↓reduceIte, Nat.reduceEqDiff]))
 | (refine wpX_goto ?_; (try simp only [nq, ↓reduceIte, Nat.reduceEqDiff]))
 | (refine wpX_condK (by simp only [act_eval, upd_get, Nat.reduceEqDiff, Nat.reduceLT, ↓reduceIte, *]; rfl) ?_ ?_ <;> (intro hc; first | (exfalso; simp -implicitDefEqProofs (disch := omega) only [*, bq, reduceCtorEq] at hc; done) | (simp only [dq, qe3, qe4, qe5, qe6] at hc) | skip))
 | (refine wpX_scope0 ?_)
 | (refine wpX_block ?_)
 | (refine wpX_seq ?_))
   ·rw [if_pos hc] at hsucc
    rw [scp_g (by rfl)]
    exact ⟨_, by omega, _, i + 1, rfl, by omega, by omega, rfl, e0, e3, by rw [hP1, hsucc]; rfl, rfl, by trivial⟩
   ·rw [if_neg (by omega)] at hsucc
    rw [scp_g (by rfl)]
    exact ⟨_, by omega, _, i + 1, rfl, by omega, by omega, rfl, e0, e3, by rw [hP1, hsucc]; exact e5, rfl, by trivial⟩
  ·have hie : n.barrows.toNat = i := by omega
   (refine @unH _ ?_; refine zA y153_41 ?_; (repeat (refine inC ?_; intro hc)); try (refine inK ?_; intro K hK))
   (refine @unH _ ?_; refine z9 Tryz.results153 ?_)
   exact ⟨by rw [hie], lH1⟩
end Go.Proofs.YtofmadjgbcopdaaGreatDoor
end
section
namespace Go.X
open Go
theorem results_cell_cell {P : Program} {H : Hp} {fn : Func} {t u : Tmp} {ty ty2 : TypeId} (h : fn.results = #[.cell t ty, .cell u ty2]) {n : Nat} {e : Nat -> Value} {ds : List Deferred} (ht : t < n) (hu' : u < n) {b o b2 o2 : Nat} (hb : e t = .pointer (some ⟨b, o, none⟩)) (hb2 : e u = .pointer (some ⟨b2, o2, none⟩))
  {d : TypeDesc} (hu : P.underlying ty = some d) (hd : aggB d = true) {k : Nat} (hs : ∀ w, (sizeOf ty).run P w = .ok (k + 1) w) {d2 : TypeDesc} (hu2 : P.underlying ty2 = some d2) (hd2 : aggB d2 = true) {k2 : Nat} (hs2 : ∀ w, (sizeOf ty2).run P w = .ok (k2 + 1) w) (K : Value -> Hp -> Prop) (E : Value -> Hp -> Prop) :
  wpS P (results fn (act n e ds).tmps) H K E = loadA H b o (k + 1) (fun v => loadA H b2 o2 (k2 + 1) fun w => K (.tuple #[v, w]) H) := by
 simp [-bind_pure_comp, results, h, act_get? ht, act_get? hu', hb, hb2, asAddr, wpS_bind', wpS_pure, loadVar_agg hu hd hs, loadVar_agg hu2 hd2 hs2]
end Go.X
namespace Go.Proofs.YtofmadjgbcopdaaGreatDoor
open Go Go.X
def y117_42 := And.intro (fun H => ex_alloc (H := H) (P := Tryz.prog) (h := Tryz.zeroValue61)) (And.intro (fun H => ex_alloc (H := H) (P := Tryz.prog) (h := Tryz.zeroValue145)) (And.intro (fun H => loadAt_aggE (H := H) Tryz.underlying145 rfl Tryz.sizeOf145) (And.intro @callF153 (And.intro (fun H => fieldAt_eq (H := H) Tryz.underlying85 (i := 0) rfl (off := 0) rfl Tryz.sizeOf29) (And.intro (fun H => fieldAt_eq (H := H) Tryz.underlying29 (i := 3) rfl (off := 6) rfl Tryz.sizeOf22) (And.intro (fun H => loadAt_one (H := H) Tryz.underlying22 rfl) (And.intro (fun H => fieldAt_eq (H := H) Tryz.underlying85 (i := 1) rfl (off := 12) rfl Tryz.sizeOf22) (And.intro (fun H => indexAt_slice (H := H) Tryz.underlying22 Tryz.sizeOf3) (And.intro (fun H => loadAt_one (H := H) Tryz.underlying3 rfl) (And.intro (fun H => fieldAt_eq (H := H) Tryz.underlying29 (i := 4) rfl (off := 7) rfl Tryz.sizeOf3) (And.intro (fun H => indexAt_array (H := H) Tryz.underlying145 Tryz.sizeOf3) (And.intro @max_int (And.intro @bld_61_0_1_0 (And.intro (fun H => storeAt_agg (H := H) Tryz.sizeOf61) (And.intro (fun H => fieldAt_eq (H := H) Tryz.underlying61 (i := 1) rfl (off := 1) rfl Tryz.sizeOf3) (And.intro (fun H => fieldAt_eq (H := H) Tryz.underlying61 (i := 2) rfl (off := 2) rfl Tryz.sizeOf3) (And.intro (fun H => storeAt_int (H := H) Tryz.sizeOf3) (And.intro (fun H => loadAt_aggE (H := H) Tryz.underlying61 rfl Tryz.sizeOf61) (fun H => storeAt_agg (H := H) Tryz.sizeOf145)))))))))))))))))))
structure HaulAt (H : Hp) (hb : Nat) (n : HN) (v : HV) (jv : Value) (js : List Int) : Prop where
 o : ∃ q, H hb = some (q, n.obj v jv)
 x : SlI H v.xv n.xs
 j : SlI H jv js
 b1 : 1 <= n.barrows
 b4 : n.barrows <= 4
 n0 : 0 <= n.notice
 n30 : n.notice <= 30
 xb : ∀ x ∈ n.xs, 0 <= x /\ x <= 99
 jb : ∀ i ∈ js, 0 <= i /\ i < n.xs.length
 jl : js.length <= 1000
theorem HaulAt.le {H H' : Hp} {hb : Nat} {n : HN} {v : HV} {jv : Value} {js : List Int} (h : HaulAt H hb n v jv js) (hl : H.le H') : HaulAt H' hb n v jv js := { h with o := h.o.imp fun _ hq => hl _ _ hq, x := h.x.le hl, j := h.j.le hl }
def HN.due (n : HN) (js : List Int) (k : Nat) : Int := n.xs.getD (js.getD k 0).toNat 0
structure RideV where
 barrow : Int
 out : Int
 back : Int
def rideF (n : HN) (js bs : List Int) (from_ many : Nat) (mi : Int) : RideV :=
 let p := pickB bs n.barrows.toNat
 let o := max (bs.getD p 0) (n.due js (from_ + many - 1) - n.notice)
 ⟨p, o, o + mi⟩
def RideV.agg (r : RideV) : Value := .agg #[.int .i64 r.barrow, .int .i64 r.out, .int .i64 r.back]
theorem ride_spec (main : Md) (H : Hp) (hb : Nat) (n : HN) (v : HV) (jv : Value) (js : List Int) (hh : HaulAt H hb n v jv js) (bs : List Int) (hbs : bs.length = 4) (hbb : ∀ x ∈ bs, -1048576 <= x /\ x <= 1000000) (f m : Nat) (hm : 1 <= m) (hf : f + m <= js.length) (mi : Int) (hm1 : 1 <= mi) (hm2 : mi <= 20) :
  FnX Tryz.prog main 117 #[.pointer (some ⟨hb, 0, none⟩), .agg (ints bs).toArray, .int .i64 f, .int .i64 m, .int .i64 mi] H fun e H' =>
   e = .returned (.tuple #[(rideF n js bs f m mi).agg, .agg (ints (bs.set (pickB bs n.barrows.toNat) (rideF n js bs f m mi).back)).toArray]) /\ H.le H' := by
 have hpl := pickB_lt bs n.barrows.toNat (by have := hh.b1; omega)
 have hb4 := hh.b4
 have hb1 := hh.b1
 have hn0 := hh.n0
 have hn30 := hh.n30
 have hjl := hh.jl
 have hli : (ints bs).length = 4 := by rw [ints_len]; exact hbs
 have hpb : (ints bs)[pickB bs n.barrows.toNat]? = some (.int .i64 (bs.getD (pickB bs n.barrows.toNat) 0)) := by
  rw [ints_get (List.getElem?_eq_getElem (show pickB bs n.barrows.toNat < bs.length by omega))]
  simp [List.getD, List.getElem?_eq_getElem (show pickB bs n.barrows.toNat < bs.length by omega)]
 have hpr : -1048576 <= bs.getD (pickB bs n.barrows.toNat) 0 /\ bs.getD (pickB bs n.barrows.toNat) 0 <= 1000000 := by
  simp [List.getD, List.getElem?_eq_getElem (show pickB bs n.barrows.toNat < bs.length by omega)]
  exact hbb _ (List.getElem_mem _)
 have hjk : js.getD (f + m - 1) 0 = js[f + m - 1]'(by omega) := by simp [List.getD, List.getElem?_eq_getElem (show f + m - 1 < js.length by omega)]
 have hjr := hh.jb _ (List.getElem_mem (show f + m - 1 < js.length by omega))
 rw [<- hjk] at hjr
 have hdue : n.due js (f + m - 1) = n.xs[(js.getD (f + m - 1) 0).toNat]'(by omega) := by simp [HN.due, List.getD, List.getElem?_eq_getElem (show (js[f + m - 1]?.getD 0).toNat < n.xs.length by simpa [List.getD] using (by omega : (js.getD (f + m - 1) 0).toNat < n.xs.length))]
 have hxr := hh.xb _ (List.getElem_mem (show (js.getD (f + m - 1) 0).toNat < n.xs.length by omega))
 rw [<- hdue] at hxr
 obtain ⟨jb, jo, jc, jp, jcs, jfr, rfl, _, vjb, hjx⟩ := hh.j.cons (fun h => absurd (congrArg List.length h) (by simp only [List.length_nil]; omega))
 obtain ⟨sv, cv, tv, xv⟩ := v
 have hhx := hh.x
 simp only [] at hhx
 obtain ⟨xb, xo, xc, xpp, xcs, xfr, rfl, _, vxb, hxx⟩ := hhx.cons (fun h => absurd (congrArg List.length h) (by simp only [List.length_nil]; omega))
 have hj1 : jcs[jo + (f + m - 1)]? = some (.int .i64 (js.getD (f + m - 1) 0)) := by rw [hjk]; exact hjx _ _ (List.getElem?_eq_getElem _)
 have hx1 : xcs[xo + (js.getD (f + m - 1) 0).toNat]? = some (.int .i64 (n.due js (f + m - 1))) := by rw [hdue]; exact hxx _ _ (List.getElem?_eq_getElem _)
 have hfm : ((f : Int) + (m : Int) - 1).toNat = f + m - 1 := by omega
 obtain ⟨hoq, hho⟩ := hh.o
 simp only [HN.obj] at hho
 refine FnX_start Tryz.func117 rfl Tryz.ntmps117 (by simp) ?_
 clear hjx hxx hdue hjk
 simp only [rideF]
 generalize n.due js (f + m - 1) = due at *
 generalize js.getD (f + m - 1) 0 = jk at *
 generalize hPP : pickB bs n.barrows.toNat = P at *
 generalize hB0 : bs.getD P 0 = B0 at *
 have htk4 : (ints bs).take 4 = ints bs := List.take_of_length_le (by omega)
 (refine @unH _ ?_; refine zA y117_42 ?_; (repeat (refine inC ?_; intro hc)); try (refine inK ?_; intro K hK))
 intro b1 hb1 b2 hb2 b3 hb3
 replace hb2 : (H.set b1 (.cells (ints bs).toArray 145 (0, 0))) b2 = none := hb2
 replace hb3 : ((H.set b1 (.cells (ints bs).toArray 145 (0, 0))).set b2 (.cells #[.int .i64 0, .int .i64 0, .int .i64 0] 61 (0, 0))) b3 = none := hb3
 generalize hG1 : H.set b1 (.cells (ints bs).toArray 145 (0, 0)) = H1 at *
 generalize hG2 : H1.set b2 (.cells #[.int .i64 0, .int .i64 0, .int .i64 0] 61 (0, 0)) = H2 at *
 generalize hG3 : Hp.set H2 b3 _ = H3
 have lH1 := le_of_set hG1 hb1
 have lH2 := le_of_set hG2 hb2
 have lH3 := le_of_set hG3 hb3
 have vb1 := at_of_set hG1
 have vb2 := at_of_set hG2
 have vb3 := at_of_set hG3
 have h0b1 := hb1
 have h0b2 : H b2 = none := Hp.le_none lH1 hb2
 have h0b3 : H b3 = none := Hp.le_none (Hp.le_trans lH1 lH2) hb3
 clear hG1 hG2 hG3
 have vb12 := lH2 _ _ vb1
 have vb13 := lH3 _ _ vb12
 have vb23 := lH3 _ _ vb2
 have lH13 := Hp.le_trans lH1 (Hp.le_trans lH2 lH3)
 have vhb3 := lH13 _ _ hho
 have vjb3 := lH13 _ _ vjb
 have vxb3 := lH13 _ _ vxb
 have hh3 := hh.le lH13
 have n12 : b2 ≠ b1 := (ne_new vb1 hb2).symm
 have n13 : b3 ≠ b1 := (ne_new vb12 hb3).symm
 have n23 : b3 ≠ b2 := (ne_new vb2 hb3).symm
 have n12' := n12.symm
 have n13' := n13.symm
 have n23' := n23.symm
 clear vb1 vb2 vb12 hho vjb vxb hb2 hb3 lH1 lH2 lH3
 ((try (refine @unH _ ?_; refine zX y117_42 ?_)); (try (refine hK _ _ ?_; clear hK K; (try simp only [nq, ↓reduceIte, Nat.reduceEqDiff]))); refine @unH _ ?_; refine zA y117_42 ?_; (repeat (refine inC ?_; intro hc)); try (refine inK ?_; intro K hK))
 obtain ⟨hoq3, hho3⟩ := hh3.o
 refine (pick_spec main H3 hb n _ _ hho3 hh.b1 hb4 bs hbs).runs.mono ?_
 rintro _ H4 ⟨rfl, lH4⟩
 rw [hPP]
 have vb14 := lH4 _ _ vb13
 have vb24 := lH4 _ _ vb23
 have vb34 := lH4 _ _ vb3
 have vhb4 := lH4 _ _ vhb3
 have vjb4 := lH4 _ _ vjb3
 have vxb4 := lH4 _ _ vxb3
 clear vb13 vb23 vb3 vhb3 vjb3 vxb3 hh3
 ((try (refine @unH _ ?_; refine zX y117_42 ?_)); (try (refine hK _ _ ?_; clear hK K; (try simp only [nq, ↓reduceIte, Nat.reduceEqDiff]))); refine @unH _ ?_; refine zA y117_42 ?_; (repeat (refine inC ?_; intro hc)); try (refine inK ?_; intro K hK))
 (refine wpX_dst1 24 [(true, 0), (true, 1), (true, 2), (true, 3), (true, 4), (true, 5), (true, 6), (true, 7), (true, 8), (true, 9), (true, 10), (true, 11), (true, 12), (true, 13), (true, 14), (true, 15), (true, 16), (true, 17), (true, 18), (true, 19), (true, 20), (true, 21), (true, 22), (true, 23)] (by kernel_rfl) (by kernel_rfl) (by simp) (by kernel_rfl) ?_; intro K hK; (iterate 24 (refine @unH _ ?_; refine z3 y117_42 ?_)); refine plan_nil (hK _ _ ?_); clear hK K; (try simp only [nq, ↓reduceIte, Nat.reduceEqDiff]))
 (refine @unH _ ?_; refine zA y117_42 ?_; (repeat (refine inC ?_; intro hc)); try (refine inK ?_; intro K hK))
 (intro b5 hb5; generalize hG : Hp.set _ b5 _ = H5; have lH5 := le_of_set hG hb5; have vb5 := at_of_set hG; clear hG)
 have vb15 := lH5 _ _ vb14
 have vb25 := lH5 _ _ vb24
 have vb35 := lH5 _ _ vb34
 have n51 : b5 ≠ b1 := (ne_new vb14 hb5).symm
 have n52 : b5 ≠ b2 := (ne_new vb24 hb5).symm
 have n53 : b5 ≠ b3 := (ne_new vb34 hb5).symm
 have n51' := n51.symm
 have n52' := n52.symm
 have n53' := n53.symm
 have h0b5 : H b5 = none := Hp.le_none (Hp.le_trans lH13 lH4) hb5
 have lx5 : Lex none H H5 := Lex.of (Hp.le_trans lH13 (Hp.le_trans lH4 lH5))
 clear vb14 vb24 vb34 vhb4 vjb4 vxb4 hb5 lH13 lH4 lH5
 have hmax : (if B0 < due - n.notice then due - n.notice else B0) = max B0 (due - n.notice) := by
  rw [Int.max_def]; split <;> split <;> omega
 have hOb : -1048576 <= max B0 (due - n.notice) /\ max B0 (due - n.notice) <= 1000000 := by rw [<- hmax]; split <;> omega
 simp only [hmax] at vb5 ⊢
 generalize max B0 (due - n.notice) = O at *
 clear hmax
 ((try (refine @unH _ ?_; refine zX y117_42 ?_)); (try (refine hK _ _ ?_; clear hK K; (try simp only [nq, ↓reduceIte, Nat.reduceEqDiff]))); refine @unH _ ?_; refine zA y117_42 ?_; (repeat (refine inC ?_; intro hc)); try (refine inK ?_; intro K hK))
 generalize hG6 : Hp.set (Hp.set H5 b5 _) b1 _ = H6
 have v1 := at_of_set hG6
 have v5 := other_of_set hG6 set_at n51
 have v2 := other_of_set hG6 ((set_ne n52').trans vb25) n12
 have v3 := other_of_set hG6 ((set_ne n53').trans vb35) n13
 have lx6 : Lex none H H6 := by rw [<- hG6]; exact (lx5.own h0b5).own h0b1
 rw [ints_setL] at v1
 clear hG6 vb15 vb25 vb35 vb5 lx5
 have hli2 : (ints (bs.set P (O + mi))).length = 4 := by rw [ints_len, List.length_set]; exact hbs
 have htk42 : (ints (bs.set P (O + mi))).take 4 = ints (bs.set P (O + mi)) := List.take_of_length_le (by omega)
 have hne2 : ints (bs.set P (O + mi)) ≠ [] := fun h => by rw [h] at hli2; cases hli2
 have hone : (ints (bs.set P (O + mi))).all one = true := List.all_eq_true.2 (ints_one _)
 generalize bs.set P (O + mi) = bs2 at *
 refine wpX_dlast (fun HX => HX b5 = some (true, .cells #[.int .i64 P, .int .i64 O, .int .i64 (O + mi)] 61 (0, 0)) /\ HX b1 = some (true, .cells (ints bs2).toArray 145 (0, 0))) 4 [(true, 0), (true, 1), (false, 2), (false, 3)] (by kernel_rfl) (by kernel_rfl) (by simp) (by kernel_rfl) ?_; intro K hK
 (iterate 2 (apply plan_takeS rfl rfl rfl (by exact ⟨v5, v1⟩); (focus (intro HX hHX; have hX1 := hHX.1; have hX2 := hHX.2; clear hHX; simp -implicitDefEqProofs (disch := first | omega | (simp only [qd] <;> omega)) only [xq, ↓xp, qc, Nat.reduceAdd, List.range, List.range.loop, fine, Nat.reduceEqDiff, ↓reduceIte, yielded, reduceCtorEq, Nat.reduceLT, Nat.reduceMul, Nat.reduceSub, one, Nat.reduceLeDiff, runX_cons, y117_42, aq, ↓ap, qe0, qe1, qe2, *, -hK, YN_value] <;> (first | exact rfl | exact ⟨rfl, rfl⟩ | exact ⟨rfl, trivial⟩))); simp -implicitDefEqProofs (disch := first | omega | (simp only [qd] <;> omega)) only [act_put, act_put_none]))
 refine planX_act ?_
 (refine @unH _ ?_; refine zX y117_42 ?_)
 refine ⟨.inr trivial, ?_⟩
 generalize hG7 : Hp.set H6 b2 _ = H7
 have v17 := other_of_set hG7 v1 n12'
 have v57 := other_of_set hG7 v5 n52
 have v27 := at_of_set hG7
 have v37 := other_of_set hG7 v3 n23
 have lx7 : Lex none H H7 := by rw [<- hG7]; exact lx6.own h0b2
 clear hG7 v1 v5 v2 v3 lx6
 refine planX_act ?_
 simp -implicitDefEqProofs (disch := first | omega | (simp only [qd] <;> omega)) only [xq, ↓xp, qc, Nat.reduceAdd, List.range, List.range.loop, fine, Nat.reduceEqDiff, ↓reduceIte, yielded, reduceCtorEq, Nat.reduceLT, Nat.reduceMul, Nat.reduceSub, one, Nat.reduceLeDiff, runX_cons, y117_42, aq, ↓ap, qe0, qe1, qe2, *, -hK, storL_at hne2 v37]
 refine ⟨.inr trivial, plan_nil (hK _ _ ?_)⟩
 clear hK K
 (try simp only [nq, ↓reduceIte, Nat.reduceEqDiff])
 generalize hG8 : Hp.set H7 b3 _ = H8
 have v28 := other_of_set hG8 v27 n23'
 have v38 := at_of_set hG8
 have lx8 : Lex none H H8 := by rw [<- hG8]; exact lx7.own h0b3
 clear hG8
 refine wpX_ret ?_
 rw [bodyX_ret, results_cell_cell Tryz.results117 (by decide) (by decide) (b := b2) (o := 0) (b2 := b3) (o2 := 0) rfl rfl Tryz.underlying61 rfl Tryz.sizeOf61 Tryz.underlying145 rfl Tryz.sizeOf145]
 simp -implicitDefEqProofs (disch := first | omega | (simp only [qd] <;> omega)) only [xq, ↓xp, qc, Nat.reduceAdd, List.range, List.range.loop, fine, Nat.reduceEqDiff, ↓reduceIte, yielded, reduceCtorEq, Nat.reduceLT, Nat.reduceMul, Nat.reduceSub, one, Nat.reduceLeDiff, runX_cons, y117_42, aq, ↓ap, qe0, qe1, qe2, *, Nat.reduceLeDiff, Nat.le_refl]
 exact ⟨rfl, lx8.toLe⟩
end Go.Proofs.YtofmadjgbcopdaaGreatDoor
end
section
namespace Go.X
open Go
section
variable {P : Program} {H : Hp}
theorem buildSlice_agg1 {t e : TypeId} {sz : Nat} {z : Value} (hu : P.underlying t = some (.slice e)) (hs : ∀ w, (sizeOf e).run P w = .ok sz w) (hz : ∀ w, (zeroValue e).run P w = .ok z w) (hzc : z.cells.size = sz) (h0 : 0 < sz) (h1 : sz <= 1000)
    (vs : List Value) (hvs : vs.length = sz) (K : Value -> Hp -> Prop) (E : Value -> Hp -> Prop) :
    wpS P (Instr.buildSlice t 1 #[(0, .agg vs.toArray)]) H K E = ∀ b, H b = none -> K (.slice (some ⟨b, 0, none⟩) 1 1) (H.set b (.cells vs.toArray e (0, 0))) := by
  unfold Instr.buildSlice
  have hn1 : ¬ 1 * sz > 2 ^ 24 := by have : (2 : Nat) ^ 24 = 16777216 := by decide
                                     omega
  have hn2 : ¬ 1 * sz = 0 := by omega
  simp only [wpS_bind', wpS_underlying hu, wpS_sizeOf hs, hn1, hn2, if_false, wpS_zeroValue hz, wpS_pure]
  have hf : Instr.fill (fun i => some (i * sz, sz)) ((Array.range (1 * sz)).map (z.cells[· % z.cells.size]!)) [(0, .agg vs.toArray)] = some vs.toArray := by
    unfold Instr.fill
    simp only [Nat.zero_mul, cells_agg, List.size_toArray, hvs, Nat.zero_add, Array.size_map, Array.size_range, Nat.one_mul, ne_eq, not_true, gt_iff_lt, Nat.lt_irrefl, decide_false, Bool.or_self, Bool.false_eq_true, if_false]
    simp only [Instr.fill]
    congr 1
    rw [<- Array.foldl_toList, Array.toList_zipIdx]
    have hfo := foldl_over 0 vs 0 ((Array.range sz).map (z.cells[· % z.cells.size]!)) (by simp [hvs])
    simp only [Nat.zero_add] at hfo
    rw [hfo]
    apply Array.ext_getElem?
    intro i
    by_cases hi : i < sz
    · rw [over_get i (by simpa using hi), if_pos ⟨by omega, by omega⟩]
      simp [List.getD, List.getElem?_eq_getElem (show i < vs.length by omega)]
    · rw [Array.getElem?_eq_none (by rw [over_size]; simp; omega), Array.getElem?_eq_none (by simp; omega)]
  have hl : (#[(0, Value.agg vs.toArray)] : Array (Nat × Value)).toList = [(0, .agg vs.toArray)] := rfl
  simp only [hl, hf, newRow, newObj, wpS_bind', wpS, wpS_pure]
end
def RowZ (Lx : Hp -> Hp -> Prop) (H₀ H : Hp) (v : Value) (e : TypeId) (sz n : Nat) (cs : List Value) : Prop :=
 Lx H₀ H /\ ((v = .slice none 0 0 /\ n = 0 /\ cs = []) ∨
 ∃ (b : Nat) (c : Array Value) (cap : Nat), H₀ b = none /\ H b = some (true, .cells c e (0, 0)) /\ v = .slice (some ⟨b, 0, none⟩) n cap /\ c.size = cap * sz /\ n <= cap /\ cs.length = n * sz /\ ∀ (i : Nat) (u : Value), cs[i]? = some u -> c[i]? = some u)
end Go.X
namespace Go.Proofs.YtofmadjgbcopdaaGreatDoor
open Go Go.X
theorem append_rowZ {P : Program} {tt e : TypeId} {sz : Nat} {z : Value} {inf : TypeInfo} (hu : P.underlying tt = some (.slice e)) (hs : ∀ w, (sizeOf e).run P w = .ok sz w) (hz : ∀ w, (zeroValue e).run P w = .ok z w) (hzc : z.cells.size = sz)
  (hi : ∀ w, (typeInfo e).run P w = .ok inf w) (hby : inf.bytes <= 1024) (hby0 : 0 < inf.bytes)
  {t : Option Nat} {H₀ H : Hp} {v : Value} {n : Nat} {cs : List Value} (h : RowZ (Lex t) H₀ H v e sz n cs) {g : Nat} {ws : List Value} (hws : ws.length = sz) (hg : H g = none) (hw : ∀ w ∈ ws, one w = true) (hn : n <= 1000000) (ty : TypeId) (cb : Array Bool) (K : Next -> Hp -> Prop) (E : Value -> Hp -> Prop)
  (h' : ∀ v' H', RowZ (Lex t) H₀ H' v' e sz (n + 1) (cs ++ ws) -> (∀ x u, H x = some u -> rowB v ≠ some x -> H' x = some u) -> (∀ x, rowB v' = some x -> rowB v = some x ∨ H x = none) -> K (.value v') H') :
  wpS P (builtin .append #[tt, tt] ty cb #[v, .slice (some ⟨g, 0, none⟩) 1 1]) (H.set g (.cells ws.toArray e (0, 0))) K E := by
 obtain ⟨hlex, hrow⟩ := h
 have hcell : ∀ (j : Nat) (u : Value), ws[j]? = some u -> (H.set g (.cells ws.toArray e (0, 0))).cell ⟨g, 0 + j, none⟩ = some u := by
  intro j u hj
  rw [Nat.zero_add, cell_of (b := g) (p := true) (c := ws.toArray) (e := e) (f := (0, 0)) (by rw [get_set, if_pos rfl])]
  simpa using hj
 rcases hrow with ⟨rfl, rfl, rfl⟩ | ⟨b, c, cap, hb0, hb, rfl, hcs, hcap, hlen, hget⟩
 ·refine append_law (P := P) hu hs hz hzc hi hby hby0 (NewRow.nil H e sz) (Hp.le_set hg) (m := 1) (by omega) id hcell hw (by omega) ty cb K E (fun v' H1 H2 hr hl => ?_)
  have hle : H.le H2 := fun x u hx => hl _ _ (hr.le _ _ hx)
  refine h' v' H2 ⟨hlex.le hle, ?_⟩ (fun x u hx _ => hle _ _ hx) ?_
  ·rcases hr with ⟨_, hn0, _⟩ | ⟨b', c', cap', hb', rfl, rfl, hs', hl', hn', hg'⟩
   ·simp at hn0
   ·exact .inr ⟨b', c', cap', hlex.gone hb', hl _ _ (by rw [get_set, if_pos rfl]), rfl, hs', hn', hl', fun i u hi => hg' i u hi⟩
  ·intro x hx
   rcases hr with ⟨_, hn0, _⟩ | ⟨b', c', cap', hb', rfl, rfl, hs', hl', hn', hg'⟩
   ·simp at hn0
   ·simp only [rowB, Option.some.injEq] at hx
    subst hx
    exact .inr hb'
 ·have hgb : g ≠ b := fun e => by rw [e, hb] at hg; cases hg
  have hD : (fun x => if x = b then none else H x : Hp) b = none := by simp
  have hH : H = Hp.set (fun x => if x = b then none else H x) b (.cells c e (0, 0)) := by
   funext x
   unfold Hp.set
   by_cases e : x = b
   ·subst e; simp [hb]
   ·simp [e]
  refine append_law (P := P) hu hs hz hzc hi hby hby0 (H₀ := fun x => if x = b then none else H x) (H := H) (n := n) (cs := cs) (.inr ⟨b, c, cap, hD, hH, rfl, hcs, hlen, hcap, hget⟩) (Hp.le_set hg) (m := 1) (by omega) (fun _ => hg) hcell hw (by omega) ty cb K E (fun v' H1 H2 hr hl => ?_)
  have hkeep : ∀ x u, x ≠ b -> H x = some u -> H2 x = some u := fun x u hn hx => hl _ _ (hr.le _ _ (by simp only [hn, if_false]; exact hx))
  rcases hr with ⟨_, hn0, _⟩ | ⟨b', c', cap', hb', rfl, rfl, hs', hl', hn', hg'⟩
  ·simp at hn0
  ·have hb2 : H2 b' = some (true, .cells c' e (0, 0)) := hl _ _ (by rw [get_set, if_pos rfl])
   have hb'0 : H₀ b' = none := by
    by_cases e : b' = b
    ·rw [e]; exact hb0
    ·simp only [e, if_false] at hb'; exact hlex.gone hb'
   refine h' _ H2 ⟨fun x u hx => ?_, .inr ⟨b', c', cap', hb'0, hb2, rfl, hs', hn', hl', hg'⟩⟩ (fun x u hx ho => hkeep x _ (fun e => ho (by rw [e]; rfl)) hx) (fun x hx => ?_)
   ·obtain ⟨u', hu', e'⟩ := hlex x u hx
    exact ⟨u', hkeep x u' (fun e => by rw [e, hb0] at hx; cases hx) hu', e'⟩
   ·simp only [rowB, Option.some.injEq] at hx
    subst hx
    by_cases e : b' = b
    ·exact .inl (by rw [e]; rfl)
    ·simp only [e, if_false] at hb'; exact .inr hb'
end Go.Proofs.YtofmadjgbcopdaaGreatDoor
end
