/- Texts PlanU LawB KeepH RidesG LawR BLater PBarrowLater SBarrowLater. -/
import Derived.Test.YtofmadjgbcopdaaGreatDoorJ10
import Derived.Test.YtofmadjgbcopdaaGreatDoorAFactA
import Derived.Test.YtofmadjgbcopdaaGreatDoorAFactB
import Derived.Test.YtofmadjgbcopdaaGreatDoorAFactC
set_option linter.defProp false
set_option linter.unusedSimpArgs false
set_option linter.unusedVariables false
set_option maxRecDepth 100000
set_option maxHeartbeats 2000000
section
namespace Go.X
open Go
section
variable {P : Program} {main : Md} {lp : Option Nat} {Q : Exit -> Act -> Hp -> Prop} {ops : Array Oper} {S : Hp -> Prop}
def anyU (P : Program) (main : Md) (lp : Option Nat) (ops : Array Oper) (Q : Exit -> Act -> Hp -> Prop) (S : Hp -> Prop) (ts : List Nat) : Nat -> Array Bool -> Act -> Hp -> Prop
 | 0, listed, a, H => Region.ready .any ops listed = [] /\ Q .normal a H
 | fuel + 1, listed, a, H =>
  (Region.ready .any ops listed = [] -> Q .normal a H) /\
  ∀ i ∈ Region.ready .any ops listed, numX P main lp ops i Q (fun a' H' => (i ∈ ts ∨ S H') /\ anyU P main lp ops Q S ts fuel (listed.setIfInBounds i true) a' H') a H
theorem anyX_of_anyU {ts : List Nat} : ∀ (fuel : Nat) (listed : Array Bool) (a : Act) (H : Hp), anyU P main lp ops Q S ts fuel listed a H -> anyX P main lp ops Q (fun _ => True) fuel listed a H
 | 0, _, _, _, h => h
 | fuel + 1, _, _, _, h => ⟨h.1, fun i hi => numX_mono (fun a' H' h' => ⟨trivial, anyX_of_anyU fuel _ a' H' h'.2⟩) (h.2 i hi)⟩
theorem anyU_first {ts : List Nat} {i : Nat} {oi : Oper} {v : Value} (hi : ops[i]? = some oi) (hsel : ∀ (j : Nat) (o : Oper) cs b, ops[j]? = some o -> o.op ≠ .select cs b)
  (hdep : ∀ t ∈ ts, t < ops.size -> Dep ops t i)
  (hQ : ∀ c a H, Q (.panic c) (a.put oi.dst v) H -> Q (.panic c) a H) :
  ∀ (fuel : Nat) (listed : Array Bool) (a : Act) (H : Hp), Closed ops listed ->
   (∀ j oj, ops[j]? = some oj -> j ≠ i -> listed.getD j true = false -> (∀ e ∈ oj.after, Region.binds .any e = true -> e.on ≠ i) -> oi.apart ops oj = true) ->
   i ∈ Region.ready .any ops listed -> YieldsX P main lp ops S oi v a -> S H ->
   anyU P main lp ops Q S ts fuel (listed.setIfInBounds i true) (a.put oi.dst v) H -> anyU P main lp ops Q S ts (fuel + 1) listed a H := by
 intro fuel
 induction fuel with
 | zero =>
  intro listed a H _ _ hr hy hS h
  refine ⟨fun h0 => (by rw [h0] at hr; cases hr), fun j hj => ?_⟩
  by_cases hji : j = i
  ·subst hji; exact hy.num hi hS ⟨.inr hS, h⟩
  ·have := ready_mono hj hji
   rw [h.1] at this
   cases this
 | succ fuel ih =>
  intro listed a H hcl hfree hr hy hS h
  refine ⟨fun h0 => (by rw [h0] at hr; cases hr), fun j hj => ?_⟩
  by_cases hji : j = i
  ·subst hji; exact hy.num hi hS ⟨.inr hS, h⟩
  ·have h1 := h.2 j (ready_mono hj hji)
   obtain ⟨hjun, oj, hoj, hall⟩ := mem_ready.1 hj
   have hiun : listed.getD i false = false := by
    have h0 := (mem_ready.1 hr).1
    rcases Nat.lt_or_ge i listed.size with h' | h'
    ·simpa [h'] using h0
    ·simp [Array.getElem?_eq_none h']
   have hjt : j ∉ ts := fun e => by
    have := (hdep j e (Array.getElem?_eq_some_iff.1 hoj).1).listed hcl hj
    rw [hiun] at this; cases this
   have hnot : ∀ e ∈ oj.after, Region.binds .any e = true -> e.on ≠ i := fun e he hb heq => by
    have h1 := hall e he hb
    rw [heq, hiun] at h1
    cases h1
   have h2 := numX_put hoj (hfree j oj hoj hji hjun hnot) (fun cs b => hsel i oi cs b hi) (fun cs b => hsel j oj cs b hoj) hQ hy h1
   have hfree' : ∀ k ok, ops[k]? = some ok -> k ≠ i -> (listed.setIfInBounds j true).getD k true = false ->
     (∀ e ∈ ok.after, Region.binds .any e = true -> e.on ≠ i) -> oi.apart ops ok = true := fun k ok hk hki hun hno => by
    refine hfree k ok hk hki ?_ hno
    by_cases hjk : j = k
    ·subst hjk; exact hjun
    ·rw [getD_set_ne true hjk] at hun; exact hun
   refine numX_mono (fun a' H' h3 => ?_) h2
   obtain ⟨hy', hd, h4⟩ := h3
   have hS' : S H' := hd.resolve_left hjt
   exact ⟨.inr hS', ih (listed.setIfInBounds j true) a' H' (hcl.set hj) hfree' (ready_mono hr (Ne.symm hji)) hy' hS' (by rw [Array.setIfInBounds_comm _ _ hji]; exact h4)⟩
def waitsFor (ops : Array Oper) (t : Nat) : Array Bool := marked ops (List.range ops.size).reverse ((Array.replicate ops.size false).setIfInBounds t true)
theorem waitsFor_dep {t x : Nat} (h : (waitsFor ops t).getD x false = true) : x = t ∨ Dep ops t x := by
 refine marked_dep _ _ (fun y hy => ?_) x h
 by_cases hyt : t = y
 ·exact .inl hyt.symm
 ·rw [getD_set_ne false hyt] at hy
  by_cases hlt : y < ops.size <;> simp [Array.getD, hlt] at hy
def planU (P : Program) (main : Md) (lp : Option Nat) (ops : Array Oper) (Q : Exit -> Act -> Hp -> Prop) (S : Hp -> Prop) (ts : List Nat) : PT -> Act -> Hp -> Prop
 | .nil, a, H => Q .normal a H
 | .take i p, a, H => S H /\ ∃ o, ops[i]? = some o /\ ∃ v, YieldsX P main lp ops S o v a /\ planU P main lp ops Q S ts p (a.put o.dst v) H
 | .one i p, a, H => numX P main lp ops i Q (fun a' H' => (i ∈ ts ∨ S H') /\ planU P main lp ops Q S ts p a' H') a H
 | .two i p j q, a, H => numX P main lp ops i Q (fun a' H' => (i ∈ ts ∨ S H') /\ planU P main lp ops Q S ts p a' H') a H /\ numX P main lp ops j Q (fun a' H' => (j ∈ ts ∨ S H') /\ planU P main lp ops Q S ts q a' H') a H
def planUOK (ops : Array Oper) (ts : List Nat) : PT -> Array Bool -> Bool
 | .nil, listed => (Region.ready .any ops listed).isEmpty
 | .take i p, listed => (ts.all fun t => i != t && (waitsFor ops t).getD i false) && Region.free .any ops listed i && (Region.ready .any ops listed).contains i && planUOK ops ts p (listed.setIfInBounds i true)
 | .one i p, listed => (Region.ready .any ops listed == [i]) && planUOK ops ts p (listed.setIfInBounds i true)
 | .two i p j q, listed => (Region.ready .any ops listed == [i, j]) && planUOK ops ts p (listed.setIfInBounds i true) && planUOK ops ts q (listed.setIfInBounds j true)
theorem planU_sound {ts : List Nat} (hsel : Region.noSelect ops = true) (hQ : ∀ c a H d v, Q (.panic c) (a.put d v) H -> Q (.panic c) a H) :
  ∀ (plan : PT) (fuel : Nat) (listed : Array Bool) (a : Act) (H : Hp), plan.depth <= fuel -> Closed ops listed -> planUOK ops ts plan listed = true ->
   planU P main lp ops Q S ts plan a H -> anyU P main lp ops Q S ts fuel listed a H
 | .nil, fuel, listed, a, H, _, _, hok, h => by
  have hr : Region.ready .any ops listed = [] := by simpa [planUOK] using hok
  cases fuel with
  | zero => exact ⟨hr, h⟩
  | succ n => exact ⟨fun _ => h, by rw [hr]; simp⟩
 | .take i p, 0, _, _, _, hl, _, _, _ => by simp [PT.depth] at hl
 | .one i p, 0, _, _, _, hl, _, _, _ => by simp [PT.depth] at hl
 | .two i p j q, 0, _, _, _, hl, _, _, _ => by simp [PT.depth] at hl
 | .take i p, fuel + 1, listed, a, H, hl, hcl, hok, h => by
  simp only [planUOK, Bool.and_eq_true] at hok
  obtain ⟨⟨⟨hd, hf⟩, hr⟩, hok⟩ := hok
  obtain ⟨hS, o, ho, v, hy, h⟩ := h
  have hr' : i ∈ Region.ready .any ops listed := by simpa using hr
  refine anyU_first ho (Region.noSelect_spec hsel) (fun t ht hlt => ?_) (fun c a H => hQ c a H _ _) fuel listed a H hcl (Region.free_spec ho hf) hr' hy hS
   (planU_sound hsel hQ p fuel _ _ _ (by simp [PT.depth] at hl; omega) (hcl.set hr') hok h)
  have := List.all_eq_true.1 hd t ht
  simp only [Bool.and_eq_true, bne_iff_ne, ne_eq] at this
  exact (waitsFor_dep this.2).resolve_left this.1
 | .one i p, fuel + 1, listed, a, H, hl, hcl, hok, h => by
  simp only [planUOK, Bool.and_eq_true, beq_iff_eq] at hok
  obtain ⟨hr, hok⟩ := hok
  refine ⟨fun h0 => (by rw [hr] at h0; cases h0), fun j hj => ?_⟩
  have hji : j = i := by rw [hr] at hj; simpa using hj
  subst hji
  exact numX_mono (fun a' H' h' => ⟨h'.1, planU_sound hsel hQ p fuel _ _ _ (by simp [PT.depth] at hl; omega) (hcl.set hj) hok h'.2⟩) h
 | .two i p j q, fuel + 1, listed, a, H, hl, hcl, hok, h => by
  simp only [planUOK, Bool.and_eq_true, beq_iff_eq] at hok
  obtain ⟨⟨hr, hok1⟩, hok2⟩ := hok
  refine ⟨fun h0 => (by rw [hr] at h0; cases h0), fun k hk => ?_⟩
  have hkk : k = i ∨ k = j := by rw [hr] at hk; simpa using hk
  rcases hkk with rfl | rfl
  ·exact numX_mono (fun a' H' h' => ⟨h'.1, planU_sound hsel hQ p fuel _ _ _ (by simp [PT.depth] at hl; omega) (hcl.set hk) hok1 h'.2⟩) h.1
  ·exact numX_mono (fun a' H' h' => ⟨h'.1, planU_sound hsel hQ q fuel _ _ _ (by simp [PT.depth] at hl; omega) (hcl.set hk) hok2 h'.2⟩) h.2
theorem wpX_planU {id : Nat} {a : Act} {H : Hp} (S : Hp -> Prop) (ts : List Nat) (plan : PT) (hm : P.follows .mixedOrders = true) (hsel : Region.noSelect ops = true) (hlen : plan.depth <= ops.size)
  (hok : planUOK ops ts plan (Array.replicate ops.size false) = true)
  (hQ : ∀ c a H d v, Q (.panic c) (a.put d v) H -> Q (.panic c) a H) (h : planU P main lp ops Q S ts plan a H) : wpX P main lp (.region id ops true) Q a H :=
 wpX_draw (fun _ => True) hm (anyX_of_anyU _ _ _ _ (planU_sound hsel hQ plan _ _ _ _ hlen .start hok h))
theorem wpX_ustmt {id : Nat} {ops : Array Oper} {y : Code} {a : Act} {H : Hp} (S : Hp -> Prop) (ts : List Nat) (plan : PT) (hm : P.follows .mixedOrders = true) (hsel : Region.noSelect ops = true) (hlen : plan.depth <= ops.size)
  (hok : planUOK ops ts plan (Array.replicate ops.size false) = true)
  (h : ∀ K : Act -> Hp -> Prop, (∀ a' H', wpX P main lp y Q a' H' -> K a' H') -> planU P main lp ops (only K) S ts plan a H) :
  wpX P main lp (.seq (.region id ops true) y) Q a H := by
 refine wpX_seq ?_
 refine wpX_mono (Q := only fun a' H' => wpX P main lp y Q a' H') (wpX_planU S ts plan hm hsel hlen hok (fun c a H d v h => h) (h _ fun _ _ h => h)) fun e a H q => ?_
 cases e <;> first | exact q | exact q.elim
theorem planU_take {S : Hp -> Prop} {ts : List Nat} {a : Act} {H : Hp} {i : Nat} {ops : List Oper} {o : Oper} {p : PT} {v : Value} (ho : ops[i]? = some o) (hw : Region.wanted o (yielded ops.toArray a.tmps) = true) (hf : fine lp o = true)
  (hS : S H) (h : ∀ H', S H' -> wpS P (execOp a.eval o) H' (YN P main v H') fun _ _ => False) (hk : planU P main lp ops.toArray Q S ts p (a.put o.dst v) H) : planU P main lp ops.toArray Q S ts (.take i p) a H :=
 ⟨hS, o, by simpa using ho, v, .inl ⟨hw, hf, h⟩, hk⟩
theorem planU_one {S : Hp -> Prop} {ts : List Nat} {a : Act} {H : Hp} {i : Nat} {ops : Array Oper} {p : PT} (h : numX P main lp ops i Q (fun a' H' => (i ∈ ts ∨ S H') /\ planU P main lp ops Q S ts p a' H') a H) : planU P main lp ops Q S ts (.one i p) a H := h
theorem planU_nil {S : Hp -> Prop} {ts : List Nat} {a : Act} {H : Hp} {ops : Array Oper} (h : Q .normal a H) : planU P main lp ops Q S ts .nil a H := h
@[congr] theorem planU_congr {S : Hp -> Prop} {ts : List Nat} {ops : Array Oper} {p : PT} {a a' : Act} {H H' : Hp} (ha : a = a') (hH : H = H') : planU P main lp ops Q S ts p a H = planU P main lp ops Q S ts p a' H' := by subst ha hH; rfl
end
end Go.X
end
section
namespace Go.Proofs.YtofmadjgbcopdaaGreatDoor
open Go Go.X
def laterB (by_ : Int) (bs bs' : List Int) : Prop := bs.length = bs'.length /\ ∀ i, i < bs.length -> (bs.getD i 0 = -1048576 /\ bs'.getD i 0 = -1048576) ∨ (-1000 <= bs.getD i 0 /\ bs'.getD i 0 = bs.getD i 0 + by_)
theorem laterB.pick {by_ : Int} {bs bs' : List Int} (h0 : 0 <= by_) (h : laterB by_ bs bs') : ∀ B, B <= bs.length -> pickB bs' B = pickB bs B
 | 0, _ => rfl
 | B + 1, hB => by
  unfold pickB
  have ih := h.pick h0 B (by omega)
  rw [ih]
  by_cases hB0 : B = 0
  ·rw [if_pos hB0, if_pos hB0]
  ·rw [if_neg hB0, if_neg hB0]
   have hp := pickB_lt bs B (by omega)
   have h1 := h.2 B (by omega)
   have h2 := h.2 (pickB bs B) (by omega)
   have e : bs'.getD B 0 < bs'.getD (pickB bs B) 0 ↔ bs.getD B 0 < bs.getD (pickB bs B) 0 := by omega
   by_cases hc : bs.getD B 0 < bs.getD (pickB bs B) 0
   ·rw [if_pos hc, if_pos (e.2 hc)]
   ·rw [if_neg hc, if_neg (mt e.1 hc)]
def RideV.later (r : RideV) (by_ : Int) : RideV := ⟨r.barrow, r.out + by_, r.back + by_⟩
theorem due_later {n n' : HN} {by_ : Int} (hx : n'.xs = n.xs.map (· + by_)) {js : List Int} (hj : ∀ i ∈ js, 0 <= i /\ i < n.xs.length) {k : Nat} (hk : k < js.length) : n'.due js k = n.due js k + by_ := by
 have e : js.getD k 0 = js[k] := by simp [List.getD, List.getElem?_eq_getElem hk]
 have := hj _ (List.getElem_mem hk)
 unfold HN.due
 rw [e, hx]
 generalize js[k] = x at *
 have hlt : x.toNat < n.xs.length := by omega
 simp [List.getD, List.getElem?_eq_getElem hlt]
theorem ride_later {n n' : HN} {by_ : Int} (h0 : 0 <= by_) (hx : n'.xs = n.xs.map (· + by_)) (hn : n'.notice = n.notice) (n0 : 0 <= n.notice) (n30 : n.notice <= 30) (hb : n'.barrows = n.barrows) (b1 : 1 <= n.barrows) (b4 : n.barrows <= 4) {js : List Int} (hj : ∀ i ∈ js, 0 <= i /\ i < n.xs.length) (hd : ∀ k, 0 <= n.due js k)
  {bs bs' : List Int} (h4 : bs.length = 4) (hB : laterB by_ bs bs') {f m : Nat} (hm : 1 <= m) (hf : f + m <= js.length) {mi : Int} (h1 : 1 <= mi) :
  rideF n' js bs' f m mi = (rideF n js bs f m mi).later by_ /\ laterB by_ (nextB n bs (rideF n js bs f m mi)) (nextB n' bs' (rideF n' js bs' f m mi)) := by
 have hp := hB.pick h0 n.barrows.toNat (by omega)
 have hpl := pickB_lt bs n.barrows.toNat (by omega)
 have hdl := due_later hx hj (k := f + m - 1) (by omega)
 have hd0 := hd (f + m - 1)
 have hbp := hB.2 (pickB bs n.barrows.toNat) (by omega)
 have hr : rideF n' js bs' f m mi = (rideF n js bs f m mi).later by_ := by
  simp only [rideF, RideV.later, hb, hp, hn, hdl, RideV.mk.injEq]
  refine ⟨trivial, ?_, ?_⟩ <;> omega
 refine ⟨hr, ?_, ?_⟩
 ·simp [nextB, hB.1]
 ·intro i hi
  simp only [nextB, List.length_set] at hi
  rw [hr]
  unfold nextB
  rw [hb, hp]
  by_cases e : pickB bs n.barrows.toNat = i
  ·subst e
   have hl' := hB.1
   simp only [List.getD, List.getElem?_set_self (show pickB bs n.barrows.toNat < bs.length by omega), List.getElem?_set_self (show pickB bs n.barrows.toNat < bs'.length by omega), Option.getD_some, RideV.later]
   right
   simp only [rideF]
   refine ⟨by omega, trivial⟩
  ·simp only [List.getD, List.getElem?_set_ne e]
   exact hB.2 i hi
theorem later_law {n n' : HN} {by_ : Int} (h0 : 0 <= by_) (hx : n'.xs = n.xs.map (· + by_)) (hn : n'.notice = n.notice) (n0 : 0 <= n.notice) (n30 : n.notice <= 30) (hb : n'.barrows = n.barrows) (b1 : 1 <= n.barrows) (b4 : n.barrows <= 4) {js : List Int} (hj : ∀ i ∈ js, 0 <= i /\ i < n.xs.length) (hd : ∀ k, 0 <= n.due js k) {mi : Int} (h1 : 1 <= mi) :
  ∀ (pl : List Nat) (bs bs' : List Int) (f : Nat), bs.length = 4 -> laterB by_ bs bs' -> (∀ m ∈ pl, 1 <= m) -> f + pl.sum <= js.length -> ridesG n' js mi pl bs' f = (ridesG n js mi pl bs f).map (·.later by_) /\ lateG n' js mi pl bs' f = lateG n js mi pl bs f
 | [], _, _, _, _, _, _, _ => ⟨rfl, rfl⟩
 | m :: pl, bs, bs', f, h4, hB, hm, hs => by
  rw [List.sum_cons] at hs
  have hm1 := hm m List.mem_cons_self
  obtain ⟨h2, h3⟩ := ride_later h0 hx hn n0 n30 hb b1 b4 hj hd h4 hB (f := f) hm1 (by omega) h1
  obtain ⟨h5, h6⟩ := later_law h0 hx hn n0 n30 hb b1 b4 hj hd h1 pl _ _ (f + m) (by simp [nextB, h4]) h3 (fun k hk => hm k (List.mem_cons_of_mem _ hk)) (by omega)
  refine ⟨?_, ?_⟩
  ·rw [ridesG, ridesG, List.map_cons, h5, h2]
  ·rw [lateG, lateG, h6]
   congr 1
   unfold lateR
   refine List.map_congr_left fun j hj' => ?_
   rw [List.mem_range] at hj'
   rw [due_later hx hj (by omega), h2]
   simp only [RideV.later]
   omega
end Go.Proofs.YtofmadjgbcopdaaGreatDoor
end
section
namespace Go.Proofs.YtofmadjgbcopdaaGreatDoor
open Go Go.X
def y25_110 := And.intro (fun H => ex_alloc (H := H) (P := Tryz.prog) (h := Tryz.zeroValue29)) (And.intro (fun H => fieldAt_eq (H := H) Tryz.underlying29 (i := 0) rfl (off := 0) rfl Tryz.sizeOf25) (And.intro (fun H => loadAt_aggE (H := H) Tryz.underlying25 rfl Tryz.sizeOf25) (And.intro @callF67 (And.intro (fun H => fieldAt_eq (H := H) Tryz.underlying29 (i := 1) rfl (off := 4) rfl Tryz.sizeOf22) (And.intro (fun H => loadAt_one (H := H) Tryz.underlying22 rfl) (And.intro @callF31 (And.intro (fun H => fieldAt_eq (H := H) Tryz.underlying29 (i := 3) rfl (off := 6) rfl Tryz.sizeOf22) (And.intro (fun H => storeAt_agg (H := H) Tryz.sizeOf25) (And.intro (fun H => storeAt_slice (H := H) Tryz.sizeOf22) (And.intro (fun H => loadAt_aggE (H := H) Tryz.underlying29 rfl Tryz.sizeOf29) (fun H => storeAt_agg (H := H) Tryz.sizeOf29)))))))))))
def y67_110 := And.intro (fun H => ex_alloc (H := H) (P := Tryz.prog) (h := Tryz.zeroValue25)) (And.intro (fun H => fieldAt_eq (H := H) Tryz.underlying25 (i := 0) rfl (off := 0) rfl Tryz.sizeOf3) (And.intro (fun H => loadAt_one (H := H) Tryz.underlying3 rfl) (And.intro (fun H => fieldAt_eq (H := H) Tryz.underlying25 (i := 1) rfl (off := 1) rfl Tryz.sizeOf3) (And.intro (fun H => fieldAt_eq (H := H) Tryz.underlying25 (i := 2) rfl (off := 2) rfl Tryz.sizeOf22) (And.intro (fun H => loadAt_one (H := H) Tryz.underlying22 rfl) (And.intro @callF31 (And.intro (fun H => fieldAt_eq (H := H) Tryz.underlying25 (i := 3) rfl (off := 3) rfl Tryz.sizeOf23) (And.intro (fun H => loadAt_one (H := H) Tryz.underlying23 rfl) (And.intro @callF109 (And.intro @bld_25_0_1_2_3_0 (fun H => storeAt_agg (H := H) Tryz.sizeOf25)))))))))))
def y109_110 := And.intro (fun H => len_slice (H := H) Tryz.underlying23) (And.intro (fun H => indexAt_slice (H := H) Tryz.underlying23 Tryz.sizeOf22) (And.intro (fun H => loadAt_one (H := H) Tryz.underlying22 rfl) (And.intro @callF31 @lit_23_1_0_0)))
theorem set_keeps0 {H : Hp} {b : Nat} {p : Bool} {c0 : Array Value} {e0 : TypeId} {fr0 : Nat × Nat} {o : Obj} (hb : H b = some (p, .cells c0 e0 fr0)) (h1 : e0 ≠ 3) (h2 : e0 ≠ 22) : ∀ x p c fr e, (e = 3 ∨ e = 22) -> H x = some (p, .cells c e fr) -> (H.set b o) x = some (p, .cells c e fr) := fun x p c fr e he hx => by
 rw [set_ne (fun e' => ?_)]
 ·exact hx
 ·rw [e', hb] at hx
  simp only [Option.some.injEq, Prod.mk.injEq, Obj.cells.injEq] at hx
  rcases he with he | he <;> rw [he] at hx
  ·exact h1 hx.2.2.1
  ·exact h2 hx.2.2.1
theorem keepR_spec (m : Md) (H : Hp) (v : Value) (xss : List (List Int)) (hv : SlR H v xss) (hl : xss.length <= 1000) (hx : ∀ xs ∈ xss, xs.length <= 1000000) :
  FnX Tryz.prog m 109 #[v] H fun e H' => ∃ w, e = .returned w /\ H.le H' /\ SlR H' w xss := by
 have hvS := hv
 obtain ⟨a, cap, rfl, hcap, _⟩ := hv
 replace hx : SameP _ := hx
 refine FnX_start Tryz.func109 rfl Tryz.ntmps109 (by simp) ?_
 (refine @unH _ ?_; refine zA y109_110 ?_; (repeat (refine inC ?_; intro hc)); try (refine inK ?_; intro K hK))
 refine wpX_loop (fun w a' H' => ∃ e j ov vs, w = xss.length - j /\ j <= xss.length /\ a' = act 20 e [] /\ e 0 = .slice a xss.length cap /\ e 3 = ov /\ e 4 = .int .i64 (j : Nat) /\ RowX none H H' ov 22 vs /\ Rows H' vs (xss.take j)) (n := xss.length) ?_ ?_
 ·exact ⟨_, 0, .slice none 0 0, [], by omega, by omega, rfl, rfl, rfl, rfl, RowX.nil, by simpa using Rows.nil⟩
 ·rintro w a' H2 ⟨e, j, ov, vs, rfl, hj, rfl, e0, e3, e4, hov, hvs⟩
  by_cases hlt : j < xss.length
  ·obtain ⟨b, o, p, c, fr, u, rfl, hb, hc, hu⟩ := SlR.get hvS (List.getElem?_eq_getElem hlt)
   have hb2 := hov.1.toLe _ _ hb
   have hu2 := hu.le hov.1.toLe
   have hlx := (show ∀ xs ∈ xss, xs.length <= 1000000 from hx) _ (List.getElem_mem hlt)
   have htk : xss.take (j + 1) = xss.take j ++ [xss[j]] := by rw [List.take_add_one, List.getElem?_eq_getElem hlt]; rfl
   have hvl : vs.length = j := by rw [hvs.1, List.length_take]; omega
   generalize xss[j] = xs at *
   generalize xss.take j = T0 at *
   replace htk : SameP _ := htk
   replace hvl : vs.length <= j /\ j <= vs.length := by omega
   (refine @unH _ ?_; refine zA y109_110 ?_; (repeat (refine inC ?_; intro hc)); try (refine inK ?_; intro K hK))
   refine (keepI_spec m H2 u xs hu2 hlx).runs.mono ?_
   rintro _ H3 ⟨z, rfl, hz⟩
   have hov3 := hov.le hz.1.toLe
   have hvs3 := hvs.mono fun v xs h => h.le hz.1.toLe
   have hz3 := hz.ints
   obtain ⟨za, zc, rfl⟩ := hz.len
   clear hov hvs hu hu2 hz
   ((try (refine @unH _ ?_; refine zX y109_110 ?_)); (try (refine hK _ _ ?_; clear hK K; (try simp only [nq, ↓reduceIte, Nat.reduceEqDiff]))); refine @unH _ ?_; refine zA y109_110 ?_; (repeat (refine inC ?_; intro hc)); try (refine inK ?_; intro K hK))
   intro g hg
   refine append_r hov3 rfl hg (by omega) _ _ _ _ ?_
   intro v' H5 hr5 ho5
   ((try (refine @unH _ ?_; refine zX y109_110 ?_)); (try (refine hK _ _ ?_; clear hK K; (try simp only [nq, ↓reduceIte, Nat.reduceEqDiff]))); refine @unH _ ?_; refine zA y109_110 ?_; (repeat (refine inC ?_; intro hc)); try (refine inK ?_; intro K hK))
   refine ⟨_, by omega, _, j + 1, v', _, rfl, hlt, rfl, e0, rfl, rfl, hr5, ?_⟩
   rw [show List.take (j + 1) xss = _ from htk]
   exact (hvs3.mono fun v xs h => h.move fun x q c fr hx => ho5.cells hx (by decide)).snoc (hz3.move fun x q c fr hx => ho5.cells hx (by decide))
  ·obtain rfl : j = xss.length := by omega
   rw [List.take_length] at hvs
   have hsl := hov.rows hvs
   obtain ⟨oa, oc, rfl⟩ := hov.len
   (refine @unH _ ?_; refine zA y109_110 ?_; (repeat (refine inC ?_; intro hc)); try (refine inK ?_; intro K hK))
   (refine @unH _ ?_; refine z9 Tryz.results109 ?_)
   exact ⟨_, rfl, hov.1.toLe, hsl⟩
theorem keepV_spec (m : Md) (H : Hp) (places pieces : Int) (sv cv : Value) (start : List Int) (xss : List (List Int)) (hs : SlI H sv start) (hc : SlR H cv xss) (hl : xss.length <= 1000) (hsl : start.length <= 1000000) (hx : ∀ xs ∈ xss, xs.length <= 1000000) :
  FnX Tryz.prog m 67 #[.agg #[.int .i64 places, .int .i64 pieces, sv, cv]] H fun e H' => ∃ sw cw, e = .returned (.agg #[.int .i64 places, .int .i64 pieces, sw, cw]) /\ H.le H' /\ SlI H' sw start /\ SlR H' cw xss := by
 have hsS := hs
 have hcS := hc
 obtain ⟨sa, sc, rfl, _, _⟩ := hs
 obtain ⟨ca, cc, rfl, _, _⟩ := hc
 replace hx : SameP _ := hx
 refine FnX_start Tryz.func67 rfl Tryz.ntmps67 (by simp) ?_
 (refine @unH _ ?_; refine zA y67_110 ?_; (repeat (refine inC ?_; intro hc)); try (refine inK ?_; intro K hK))
 intro bb hbb ob hob
 replace hob : (Hp.set H bb _) ob = none := hob
 have vbb : ((H.set bb (.cells #[.int .i64 places, .int .i64 pieces, .slice sa start.length sc, .slice ca xss.length cc] 25 (0, 0))).set ob (.cells #[.int .i64 0, .int .i64 0, .slice none 0 0, .slice none 0 0] 25 (0, 0))) bb = some (true, .cells #[.int .i64 places, .int .i64 pieces, .slice sa start.length sc, .slice ca xss.length cc] 25 (0, 0)) := (set_ne (fun e => by rw [e, set_at] at hob; cases hob)).trans set_at
 have vob : ((H.set bb (.cells #[.int .i64 places, .int .i64 pieces, .slice sa start.length sc, .slice ca xss.length cc] 25 (0, 0))).set ob (.cells #[.int .i64 0, .int .i64 0, .slice none 0 0, .slice none 0 0] 25 (0, 0))) ob = some (true, .cells #[.int .i64 0, .int .i64 0, .slice none 0 0, .slice none 0 0] 25 (0, 0)) := set_at
 have l1 : H.le ((H.set bb (.cells #[.int .i64 places, .int .i64 pieces, .slice sa start.length sc, .slice ca xss.length cc] 25 (0, 0))).set ob (.cells #[.int .i64 0, .int .i64 0, .slice none 0 0, .slice none 0 0] 25 (0, 0))) := Hp.le_trans (Hp.le_set hbb) (Hp.le_set hob)
 have hobH : H ob = none := Hp.le_none (Hp.le_set hbb) hob
 have hne : bb ≠ ob := fun e => by rw [e, set_at] at hob; cases hob
 generalize ((H.set bb _).set ob _) = H1 at *
 clear hbb hob
 have hs1 := hsS.le l1
 have hc1 := hcS.le l1
 refine hK _ _ ?_
 clear hK K
 (try simp only [nq, ↓reduceIte, Nat.reduceEqDiff])
 refine wpX_dstmt (fun HX => HX bb = some (true, .cells #[.int .i64 places, .int .i64 pieces, .slice sa start.length sc, .slice ca xss.length cc] 25 (0, 0))) 11 [(true, 0), (true, 1), (true, 2), (true, 3), (true, 4), (true, 5), (true, 7), (true, 8), (false, 6), (false, 9), (true, 10), (false, 11)] (by kernel_rfl) (by kernel_rfl) (by decide) (by kernel_rfl) ?_; intro K hK
 (iterate 8 (refine @unH _ ?_; refine z5 y67_110 ?_))
 refine planX_act ?_
 (refine @unH _ ?_; refine zX y67_110 ?_)
 refine (keepI_spec m H1 _ start hs1 hsl).runs.mono ?_
 rintro _ H2 ⟨sw, rfl, hsw⟩
 have l2 := hsw.1.toLe
 have vbb2 := l2 _ _ vbb
 have vob2 := l2 _ _ vob
 have hc2 := hc1.le l2
 have hsw2 := hsw.ints
 have l12 := Hp.le_trans l1 l2
 obtain ⟨wa, wc, rfl⟩ := hsw.len
 clear hsw hc1 hs1 vbb vob l1 l2
 (refine @unH _ ?_; refine zX (And.intro y67_110 @onEnd_ret) ?_)
 refine ⟨.inr trivial, ?_⟩
 refine planX_act ?_
 (refine @unH _ ?_; refine zX y67_110 ?_)
 refine (keepR_spec m H2 _ xss hc2 hl hx).runs.mono ?_
 rintro _ H3 ⟨cw, rfl, l3, hcw⟩
 have vbb3 := l3 _ _ vbb2
 have vob3 := l3 _ _ vob2
 have hsw3 := hsw2.le l3
 have l13 := Hp.le_trans l12 l3
 obtain ⟨ya, yn, yc, rfl⟩ := hcw.isSlice
 clear hsw2 hc2 vbb2 vob2 l12 l3
 (refine @unH _ ?_; refine zX (And.intro y67_110 @onEnd_ret) ?_)
 refine ⟨.inr trivial, ?_⟩
 (refine @unH _ ?_; refine z5 y67_110 ?_)
 refine planX_act ?_
 (refine @unH _ ?_; refine zX y67_110 ?_)
 refine ⟨.inr trivial, plan_nil (hK _ _ ?_)⟩
 clear hK K
 (try simp only [nq, ↓reduceIte, Nat.reduceEqDiff])
 have hsw4 := hsw3.set (fun p c fr h => by rw [vob3] at h; cases h) (b := ob) (o := .cells #[.int .i64 places, .int .i64 pieces, .slice wa (ints start).length wc, .slice ya yn yc] 25 (0, 0))
 have hcw4 := hcw.move (set_keeps0 vob3 (by decide) (by decide) (o := .cells #[.int .i64 places, .int .i64 pieces, .slice wa (ints start).length wc, .slice ya yn yc] 25 (0, 0)))
 have l14 := ((Lex.of l13 : Lex none H H3).own hobH (o := .cells #[.int .i64 places, .int .i64 pieces, .slice wa (ints start).length wc, .slice ya yn yc] 25 (0, 0))).toLe
 (refine wpX_ret ?_; (try simp only [nq, ↓reduceIte, Nat.reduceEqDiff]); rw [bodyX_ret, results_cell Tryz.results67 (by decide) (b := ob) (o := 0) rfl Tryz.underlying25 rfl Tryz.sizeOf25]; simp -implicitDefEqProofs (disch := first | omega | (simp only [qd] <;> omega)) only [xq, ↓xp, qc, Nat.reduceAdd, List.range, List.range.loop, fine, Nat.reduceEqDiff, ↓reduceIte, yielded, reduceCtorEq, Nat.reduceLT, Nat.reduceMul, Nat.reduceSub, one, Nat.reduceLeDiff, runX_cons, y67_110, loadA_set])
 exact ⟨_, _, rfl, l14, hsw4, hcw4⟩
theorem Hp.del_set {H : Hp} {b c : Nat} {o : Obj} (h : c ≠ b) : (H.set c o).del b = (H.del b).set c o := by
 funext x
 unfold Hp.del Hp.set
 by_cases e : x = b
 ·have : x ≠ c := fun e' => h (e'.symm.trans e)
  simp [e, this, h.symm]
 ·simp [e]
theorem Hp.del_ne {H : Hp} {b c : Nat} (h : c ≠ b) : (H.del b) c = H c := by simp [Hp.del, h]
def OwnT (H0 H : Hp) (n : HN) (v : HV) : Prop := n.xs ≠ [] -> ∃ (b : Nat) (c : Array Value), H0 b = none /\ v.xv = .slice (some ⟨b, 0, none⟩) n.xs.length c.size /\ H b = some (true, .cells c 3 (0, 0)) /\ n.xs.length <= c.size /\
 (∀ (i : Nat) (x : Int), n.xs[i]? = some x -> c[i]? = some (.int .i64 x)) /\ SlI (H.del b) v.sv n.start /\ SlR (H.del b) v.cv n.xss /\ SlI (H.del b) v.tv n.ts
theorem own_keep {H0 H : Hp} {n : HN} {v : HV} (h : OwnT H0 H n v)
  {b : Nat} {p : Bool} {c0 : Array Value} {e0 : TypeId} {fr0 : Nat × Nat} (hb : H b = some (p, .cells c0 e0 fr0)) (h1 : e0 ≠ 3) (h2 : e0 ≠ 22) {o : Obj} : OwnT H0 (H.set b o) n v := fun hn => by
 obtain ⟨b', c, h3, h4, h5, h6, h7, h8, h9, h10⟩ := h hn
 have hne : b ≠ b' := fun e => by
  rw [<- e, hb] at h5
  simp only [Option.some.injEq, Prod.mk.injEq, Obj.cells.injEq] at h5
  exact h1 h5.2.2.1
 have hb' : (H.del b') b = some (p, .cells c0 e0 fr0) := by rw [Hp.del_ne hne]; exact hb
 have hk := set_keeps0 hb' h1 h2 (o := o)
 refine ⟨b', c, h3, h4, (set_ne hne.symm).trans h5, h6, h7, ?_⟩
 rw [Hp.del_set hne]
 exact ⟨h8.move fun x p c fr q => hk x p c fr _ (.inl rfl) q, h9.move hk, h10.move fun x p c fr q => hk x p c fr _ (.inl rfl) q⟩
theorem keepH_spec (m : Md) (H : Hp) (n : HN) (v : HV) (hd : HaulIn H n v) :
  FnX Tryz.prog m 25 #[n.agg v] H fun e H' => ∃ v' : HV, e = .returned (n.agg v') /\ H.le H' /\ HaulIn H' n v' /\ OwnT H H' n v' := by
 have hxl := hd.day.few
 have hsl : n.start.length <= 1000000 := by have := hd.day.ok.2.2.2.2.1; have := hd.day.ok.2.1; omega
 have hrl : SameP (∀ xs ∈ n.xss, xs.length <= 1000000) := fun xs hxs => by have h1 := (hd.day.ok.2.2.2.2.2.2.2 xs hxs).len; have h2 := hd.day.ok.2.2.2.1; omega
 have htl : n.ts.length <= 1000000 := by rw [hd.day.true.1]; omega
 have hxsl : n.xs.length <= 1000000 := by rw [hd.ok.1]; omega
 have hs := hd.day.st
 have hc := hd.day.calls
 have ht := hd.day.truth
 have hx := hd.times
 obtain ⟨sv, cv, tv, xv⟩ := v
 obtain ⟨a1, n1, c1, hsv⟩ := hd.day.st.isSlice
 obtain ⟨a2, n2, c2, hcv⟩ := hd.day.calls.isSlice
 obtain ⟨a3, n3, c3, htv⟩ := hd.day.truth.isSlice
 obtain ⟨a4, n4, c4, hxv⟩ := hd.times.isSlice
 simp only [] at hsv hcv htv hxv
 subst hsv hcv htv hxv
 simp only [HN.agg]
 refine FnX_start Tryz.func25 rfl Tryz.ntmps25 (by simp) ?_
 (refine @unH _ ?_; refine zA y25_110 ?_; (repeat (refine inC ?_; intro hc)); try (refine inK ?_; intro K hK))
 intro bb hbb ob hob
 replace hob : (Hp.set H bb _) ob = none := hob
 have vbb : ((H.set bb (.cells #[.int .i64 n.places, .int .i64 n.pieces, .slice a1 n1 c1, .slice a2 n2 c2, .slice a3 n3 c3, .int .i64 n.rule, .slice a4 n4 c4, .int .i64 n.notice, .int .i64 n.load, .int .i64 n.barrows, .int .i64 n.lo, .int .i64 n.hi] 29 (0, 0))).set ob (.cells #[.int .i64 0, .int .i64 0, .slice none 0 0, .slice none 0 0, .slice none 0 0, .int .i64 0, .slice none 0 0, .int .i64 0, .int .i64 0, .int .i64 0, .int .i64 0, .int .i64 0] 29 (0, 0))) bb = some (true, (.cells #[.int .i64 n.places, .int .i64 n.pieces, .slice a1 n1 c1, .slice a2 n2 c2, .slice a3 n3 c3, .int .i64 n.rule, .slice a4 n4 c4, .int .i64 n.notice, .int .i64 n.load, .int .i64 n.barrows, .int .i64 n.lo, .int .i64 n.hi] 29 (0, 0))) := (set_ne (fun e => by rw [e, set_at] at hob; cases hob)).trans set_at
 have vob : ((H.set bb (.cells #[.int .i64 n.places, .int .i64 n.pieces, .slice a1 n1 c1, .slice a2 n2 c2, .slice a3 n3 c3, .int .i64 n.rule, .slice a4 n4 c4, .int .i64 n.notice, .int .i64 n.load, .int .i64 n.barrows, .int .i64 n.lo, .int .i64 n.hi] 29 (0, 0))).set ob (.cells #[.int .i64 0, .int .i64 0, .slice none 0 0, .slice none 0 0, .slice none 0 0, .int .i64 0, .slice none 0 0, .int .i64 0, .int .i64 0, .int .i64 0, .int .i64 0, .int .i64 0] 29 (0, 0))) ob = some (true, (.cells #[.int .i64 0, .int .i64 0, .slice none 0 0, .slice none 0 0, .slice none 0 0, .int .i64 0, .slice none 0 0, .int .i64 0, .int .i64 0, .int .i64 0, .int .i64 0, .int .i64 0] 29 (0, 0))) := set_at
 have l1 : H.le ((H.set bb (.cells #[.int .i64 n.places, .int .i64 n.pieces, .slice a1 n1 c1, .slice a2 n2 c2, .slice a3 n3 c3, .int .i64 n.rule, .slice a4 n4 c4, .int .i64 n.notice, .int .i64 n.load, .int .i64 n.barrows, .int .i64 n.lo, .int .i64 n.hi] 29 (0, 0))).set ob (.cells #[.int .i64 0, .int .i64 0, .slice none 0 0, .slice none 0 0, .slice none 0 0, .int .i64 0, .slice none 0 0, .int .i64 0, .int .i64 0, .int .i64 0, .int .i64 0, .int .i64 0] 29 (0, 0))) := Hp.le_trans (Hp.le_set hbb) (Hp.le_set hob)
 have hobH : H ob = none := Hp.le_none (Hp.le_set hbb) hob
 have hne : bb ≠ ob := fun e => by rw [e, set_at] at hob; cases hob
 generalize ((H.set bb _).set ob _) = H1 at *
 clear hob
 have hs1 := hs.le l1
 have hc1 := hc.le l1
 have ht1 := ht.le l1
 have hx1 := hx.le l1
 clear hs hc ht hx
 refine hK _ _ ?_
 clear hK K
 (try simp only [nq, ↓reduceIte, Nat.reduceEqDiff])
 refine wpX_ustmt (fun HX => HX bb = some (true, (.cells #[.int .i64 n.places, .int .i64 n.pieces, .slice a1 n1 c1, .slice a2 n2 c2, .slice a3 n3 c3, .int .i64 n.rule, .slice a4 n4 c4, .int .i64 n.notice, .int .i64 n.load, .int .i64 n.barrows, .int .i64 n.lo, .int .i64 n.hi] 29 (0, 0)))) [10, 11, 12, 13, 14] (.take 0 (.take 1 (.take 3 (.take 4 (.take 6 (.take 7 (.one 2 (.take 9 (.one 5 (.one 8 (.one 10 (.one 11 (.one 12 (.one 13 (.one 14 .nil))))))))))))))) (by kernel_rfl) (by kernel_rfl) (by decide) (by kernel_rfl) ?_; intro K hK
 (iterate 6 (apply planU_take rfl rfl rfl ‹_›; (focus (intro HX hHX; simp -implicitDefEqProofs (disch := first | omega | (simp only [qd] <;> omega)) only [xq, ↓xp, qc, Nat.reduceAdd, List.range, List.range.loop, fine, Nat.reduceEqDiff, ↓reduceIte, yielded, reduceCtorEq, Nat.reduceLT, Nat.reduceMul, Nat.reduceSub, one, Nat.reduceLeDiff, runX_cons, y25_110, aq, ↓ap, qe0, qe1, qe2, *, -hK, YN_value] <;> (first | exact rfl | exact ⟨rfl, rfl⟩ | exact ⟨rfl, trivial⟩))); simp -implicitDefEqProofs (disch := first | omega | (simp only [qd] <;> omega)) only [act_put, act_put_none]))
 refine planU_one ?_
 (refine @unH _ ?_; refine zX y25_110 ?_)
 refine (keepV_spec m H1 _ _ _ _ n.start n.xss hs1 hc1 (by omega) hsl hrl).runs.mono ?_
 rintro _ H2 ⟨sw, cw, rfl, l2, hs2, hc2⟩
 have vbb2 := l2 _ _ vbb
 have vob2 := l2 _ _ vob
 have ht2 := ht1.le l2
 have hx2 := hx1.le l2
 have l12 := Hp.le_trans l1 l2
 obtain ⟨b1, m1, d1, rfl⟩ := hs2.isSlice
 obtain ⟨b2, m2, d2, rfl⟩ := hc2.isSlice
 clear hs1 hc1 ht1 hx1 vbb vob l1 l2
 (refine @unH _ ?_; refine zX (And.intro y25_110 @onEnd_ret) ?_)
 refine ⟨.inr trivial, ?_⟩
 (apply planU_take rfl rfl rfl ‹_›; (focus (intro HX hHX; simp -implicitDefEqProofs (disch := first | omega | (simp only [qd] <;> omega)) only [xq, ↓xp, qc, Nat.reduceAdd, List.range, List.range.loop, fine, Nat.reduceEqDiff, ↓reduceIte, yielded, reduceCtorEq, Nat.reduceLT, Nat.reduceMul, Nat.reduceSub, one, Nat.reduceLeDiff, runX_cons, y25_110, aq, ↓ap, qe0, qe1, qe2, *, -hK, YN_value] <;> (first | exact rfl | exact ⟨rfl, rfl⟩ | exact ⟨rfl, trivial⟩))); simp -implicitDefEqProofs (disch := first | omega | (simp only [qd] <;> omega)) only [act_put, act_put_none])
 refine planU_one ?_
 (refine @unH _ ?_; refine zX y25_110 ?_)
 refine (keepI_spec m H2 _ n.ts ht2 htl).runs.mono ?_
 rintro _ H3 ⟨tw, rfl, htw⟩
 have l3 := htw.1.toLe
 have vbb3 := l3 _ _ vbb2
 have vob3 := l3 _ _ vob2
 have hs3 := hs2.le l3
 have hc3 := hc2.le l3
 have hx3 := hx2.le l3
 have ht3 := htw.ints
 have l13 := Hp.le_trans l12 l3
 obtain ⟨b3, d3, rfl⟩ := htw.len
 clear hs2 hc2 ht2 hx2 vbb2 vob2 l12 l3 htw
 (refine @unH _ ?_; refine zX (And.intro y25_110 @onEnd_ret) ?_)
 refine ⟨.inr trivial, ?_⟩
 refine planU_one ?_
 (refine @unH _ ?_; refine zX y25_110 ?_)
 refine (keepI_spec m H3 _ n.xs hx3 hxsl).runs.mono ?_
 rintro _ H4 ⟨xw, rfl, hxw⟩
 have l4 := hxw.1.toLe
 have vbb4 := l4 _ _ vbb3
 have vob4 := l4 _ _ vob3
 have hs4 := hs3.le l4
 have hc4 := hc3.le l4
 have ht4 := ht3.le l4
 have hx4 := hxw.ints
 have l14 := Hp.le_trans l13 l4
 have hown4 : OwnT H H4 n ⟨.slice b1 m1 d1, .slice b2 m2 d2, .slice b3 (ints n.ts).length d3, xw⟩ := fun hne => by
  rcases hxw.2 with ⟨_, h0⟩ | ⟨b, c, cap, h0, h1, h2, h3, h4, h5⟩
  ·exact absurd (by simpa [ints] using h0) hne
  ·rw [ints_len] at h2 h4
   subst h3
   have hle : H3.le (H4.del b) := fun x o hx => by
    rw [Hp.del_ne (fun e => by rw [e, h0] at hx; cases hx)]
    exact l4 _ _ hx
   exact ⟨b, c, Hp.le_none l13 h0, h2, h1, h4, fun i x hi => h5 i _ (ints_get hi), hs3.le hle, hc3.le hle, ht3.le hle⟩
 obtain ⟨b4, d4, rfl⟩ := hxw.len
 replace hown4 : SameP _ := hown4
 replace l14 : Lex none H H4 := Lex.of l14
 clear hs3 hc3 ht3 hx3 vbb3 vob3 l4 hxw
 (refine @unH _ ?_; refine zX (And.intro y25_110 @onEnd_ret) ?_)
 refine ⟨.inr trivial, ?_⟩
 refine planU_one ?_
 (refine @unH _ ?_; refine zX y25_110 ?_)
 refine ⟨.inl (by simp), ?_⟩
 have vbb5 : (H4.set bb (.cells #[.int .i64 n.places, .int .i64 n.pieces, .slice b1 m1 d1, .slice b2 m2 d2, .slice a3 n3 c3, .int .i64 n.rule, .slice a4 n4 c4, .int .i64 n.notice, .int .i64 n.load, .int .i64 n.barrows, .int .i64 n.lo, .int .i64 n.hi] 29 (0, 0))) bb = some (true, (.cells #[.int .i64 n.places, .int .i64 n.pieces, .slice b1 m1 d1, .slice b2 m2 d2, .slice a3 n3 c3, .int .i64 n.rule, .slice a4 n4 c4, .int .i64 n.notice, .int .i64 n.load, .int .i64 n.barrows, .int .i64 n.lo, .int .i64 n.hi] 29 (0, 0))) := set_at
 have vob5 : (H4.set bb (.cells #[.int .i64 n.places, .int .i64 n.pieces, .slice b1 m1 d1, .slice b2 m2 d2, .slice a3 n3 c3, .int .i64 n.rule, .slice a4 n4 c4, .int .i64 n.notice, .int .i64 n.load, .int .i64 n.barrows, .int .i64 n.lo, .int .i64 n.hi] 29 (0, 0))) ob = _ := (set_ne hne.symm).trans vob4
 have hs5 := hs4.set (fun p c fr h => by rw [vbb4] at h; cases h) (b := bb) (o := (.cells #[.int .i64 n.places, .int .i64 n.pieces, .slice b1 m1 d1, .slice b2 m2 d2, .slice a3 n3 c3, .int .i64 n.rule, .slice a4 n4 c4, .int .i64 n.notice, .int .i64 n.load, .int .i64 n.barrows, .int .i64 n.lo, .int .i64 n.hi] 29 (0, 0)))
 have hc5 := hc4.move (set_keeps0 vbb4 (by decide) (by decide) (o := (.cells #[.int .i64 n.places, .int .i64 n.pieces, .slice b1 m1 d1, .slice b2 m2 d2, .slice a3 n3 c3, .int .i64 n.rule, .slice a4 n4 c4, .int .i64 n.notice, .int .i64 n.load, .int .i64 n.barrows, .int .i64 n.lo, .int .i64 n.hi] 29 (0, 0))))
 have ht5 := ht4.set (fun p c fr h => by rw [vbb4] at h; cases h) (b := bb) (o := (.cells #[.int .i64 n.places, .int .i64 n.pieces, .slice b1 m1 d1, .slice b2 m2 d2, .slice a3 n3 c3, .int .i64 n.rule, .slice a4 n4 c4, .int .i64 n.notice, .int .i64 n.load, .int .i64 n.barrows, .int .i64 n.lo, .int .i64 n.hi] 29 (0, 0)))
 have hx5 := hx4.set (fun p c fr h => by rw [vbb4] at h; cases h) (b := bb) (o := (.cells #[.int .i64 n.places, .int .i64 n.pieces, .slice b1 m1 d1, .slice b2 m2 d2, .slice a3 n3 c3, .int .i64 n.rule, .slice a4 n4 c4, .int .i64 n.notice, .int .i64 n.load, .int .i64 n.barrows, .int .i64 n.lo, .int .i64 n.hi] 29 (0, 0)))
 have l15 := l14.own hbb (o := (.cells #[.int .i64 n.places, .int .i64 n.pieces, .slice b1 m1 d1, .slice b2 m2 d2, .slice a3 n3 c3, .int .i64 n.rule, .slice a4 n4 c4, .int .i64 n.notice, .int .i64 n.load, .int .i64 n.barrows, .int .i64 n.lo, .int .i64 n.hi] 29 (0, 0)))
 have hown5 := own_keep hown4 vbb4 (by decide) (by decide) (o := (.cells #[.int .i64 n.places, .int .i64 n.pieces, .slice b1 m1 d1, .slice b2 m2 d2, .slice a3 n3 c3, .int .i64 n.rule, .slice a4 n4 c4, .int .i64 n.notice, .int .i64 n.load, .int .i64 n.barrows, .int .i64 n.lo, .int .i64 n.hi] 29 (0, 0)))
 replace hown5 : SameP _ := hown5
 generalize H4.set bb (.cells #[.int .i64 n.places, .int .i64 n.pieces, .slice b1 m1 d1, .slice b2 m2 d2, .slice a3 n3 c3, .int .i64 n.rule, .slice a4 n4 c4, .int .i64 n.notice, .int .i64 n.load, .int .i64 n.barrows, .int .i64 n.lo, .int .i64 n.hi] 29 (0, 0)) = H5 at *
 clear vbb4 vob4 hs4 hc4 ht4 hx4 l14 hown4
 refine planU_one ?_
 (refine @unH _ ?_; refine zX y25_110 ?_)
 refine ⟨.inl (by simp), ?_⟩
 refine planU_one ?_
 (refine @unH _ ?_; refine zX y25_110 ?_)
 refine ⟨.inl (by simp), ?_⟩
 have vbb6 : (H5.set bb (.cells #[.int .i64 n.places, .int .i64 n.pieces, .slice b1 m1 d1, .slice b2 m2 d2, .slice b3 (ints n.ts).length d3, .int .i64 n.rule, .slice a4 n4 c4, .int .i64 n.notice, .int .i64 n.load, .int .i64 n.barrows, .int .i64 n.lo, .int .i64 n.hi] 29 (0, 0))) bb = some (true, (.cells #[.int .i64 n.places, .int .i64 n.pieces, .slice b1 m1 d1, .slice b2 m2 d2, .slice b3 (ints n.ts).length d3, .int .i64 n.rule, .slice a4 n4 c4, .int .i64 n.notice, .int .i64 n.load, .int .i64 n.barrows, .int .i64 n.lo, .int .i64 n.hi] 29 (0, 0))) := set_at
 have vob6 : (H5.set bb (.cells #[.int .i64 n.places, .int .i64 n.pieces, .slice b1 m1 d1, .slice b2 m2 d2, .slice b3 (ints n.ts).length d3, .int .i64 n.rule, .slice a4 n4 c4, .int .i64 n.notice, .int .i64 n.load, .int .i64 n.barrows, .int .i64 n.lo, .int .i64 n.hi] 29 (0, 0))) ob = _ := (set_ne hne.symm).trans vob5
 have hs6 := hs5.set (fun p c fr h => by rw [vbb5] at h; cases h) (b := bb) (o := (.cells #[.int .i64 n.places, .int .i64 n.pieces, .slice b1 m1 d1, .slice b2 m2 d2, .slice b3 (ints n.ts).length d3, .int .i64 n.rule, .slice a4 n4 c4, .int .i64 n.notice, .int .i64 n.load, .int .i64 n.barrows, .int .i64 n.lo, .int .i64 n.hi] 29 (0, 0)))
 have hc6 := hc5.move (set_keeps0 vbb5 (by decide) (by decide) (o := (.cells #[.int .i64 n.places, .int .i64 n.pieces, .slice b1 m1 d1, .slice b2 m2 d2, .slice b3 (ints n.ts).length d3, .int .i64 n.rule, .slice a4 n4 c4, .int .i64 n.notice, .int .i64 n.load, .int .i64 n.barrows, .int .i64 n.lo, .int .i64 n.hi] 29 (0, 0))))
 have ht6 := ht5.set (fun p c fr h => by rw [vbb5] at h; cases h) (b := bb) (o := (.cells #[.int .i64 n.places, .int .i64 n.pieces, .slice b1 m1 d1, .slice b2 m2 d2, .slice b3 (ints n.ts).length d3, .int .i64 n.rule, .slice a4 n4 c4, .int .i64 n.notice, .int .i64 n.load, .int .i64 n.barrows, .int .i64 n.lo, .int .i64 n.hi] 29 (0, 0)))
 have hx6 := hx5.set (fun p c fr h => by rw [vbb5] at h; cases h) (b := bb) (o := (.cells #[.int .i64 n.places, .int .i64 n.pieces, .slice b1 m1 d1, .slice b2 m2 d2, .slice b3 (ints n.ts).length d3, .int .i64 n.rule, .slice a4 n4 c4, .int .i64 n.notice, .int .i64 n.load, .int .i64 n.barrows, .int .i64 n.lo, .int .i64 n.hi] 29 (0, 0)))
 have l16 := l15.own hbb (o := (.cells #[.int .i64 n.places, .int .i64 n.pieces, .slice b1 m1 d1, .slice b2 m2 d2, .slice b3 (ints n.ts).length d3, .int .i64 n.rule, .slice a4 n4 c4, .int .i64 n.notice, .int .i64 n.load, .int .i64 n.barrows, .int .i64 n.lo, .int .i64 n.hi] 29 (0, 0)))
 have hown6 := own_keep hown5 vbb5 (by decide) (by decide) (o := (.cells #[.int .i64 n.places, .int .i64 n.pieces, .slice b1 m1 d1, .slice b2 m2 d2, .slice b3 (ints n.ts).length d3, .int .i64 n.rule, .slice a4 n4 c4, .int .i64 n.notice, .int .i64 n.load, .int .i64 n.barrows, .int .i64 n.lo, .int .i64 n.hi] 29 (0, 0)))
 replace hown6 : SameP _ := hown6
 generalize H5.set bb (.cells #[.int .i64 n.places, .int .i64 n.pieces, .slice b1 m1 d1, .slice b2 m2 d2, .slice b3 (ints n.ts).length d3, .int .i64 n.rule, .slice a4 n4 c4, .int .i64 n.notice, .int .i64 n.load, .int .i64 n.barrows, .int .i64 n.lo, .int .i64 n.hi] 29 (0, 0)) = H6 at *
 clear vbb5 vob5 hs5 hc5 ht5 hx5 l15 hown5
 refine planU_one ?_
 (refine @unH _ ?_; refine zX y25_110 ?_)
 refine ⟨.inl (by simp), ?_⟩
 refine planU_one ?_
 (refine @unH _ ?_; refine zX y25_110 ?_)
 refine ⟨.inl (by simp), planU_nil (hK _ _ ?_)⟩
 clear hK K
 have vbb7 : (H6.set bb (.cells #[.int .i64 n.places, .int .i64 n.pieces, .slice b1 m1 d1, .slice b2 m2 d2, .slice b3 (ints n.ts).length d3, .int .i64 n.rule, .slice b4 (ints n.xs).length d4, .int .i64 n.notice, .int .i64 n.load, .int .i64 n.barrows, .int .i64 n.lo, .int .i64 n.hi] 29 (0, 0))) bb = some (true, (.cells #[.int .i64 n.places, .int .i64 n.pieces, .slice b1 m1 d1, .slice b2 m2 d2, .slice b3 (ints n.ts).length d3, .int .i64 n.rule, .slice b4 (ints n.xs).length d4, .int .i64 n.notice, .int .i64 n.load, .int .i64 n.barrows, .int .i64 n.lo, .int .i64 n.hi] 29 (0, 0))) := set_at
 have vob7 : (H6.set bb (.cells #[.int .i64 n.places, .int .i64 n.pieces, .slice b1 m1 d1, .slice b2 m2 d2, .slice b3 (ints n.ts).length d3, .int .i64 n.rule, .slice b4 (ints n.xs).length d4, .int .i64 n.notice, .int .i64 n.load, .int .i64 n.barrows, .int .i64 n.lo, .int .i64 n.hi] 29 (0, 0))) ob = _ := (set_ne hne.symm).trans vob6
 have hs7 := hs6.set (fun p c fr h => by rw [vbb6] at h; cases h) (b := bb) (o := (.cells #[.int .i64 n.places, .int .i64 n.pieces, .slice b1 m1 d1, .slice b2 m2 d2, .slice b3 (ints n.ts).length d3, .int .i64 n.rule, .slice b4 (ints n.xs).length d4, .int .i64 n.notice, .int .i64 n.load, .int .i64 n.barrows, .int .i64 n.lo, .int .i64 n.hi] 29 (0, 0)))
 have hc7 := hc6.move (set_keeps0 vbb6 (by decide) (by decide) (o := (.cells #[.int .i64 n.places, .int .i64 n.pieces, .slice b1 m1 d1, .slice b2 m2 d2, .slice b3 (ints n.ts).length d3, .int .i64 n.rule, .slice b4 (ints n.xs).length d4, .int .i64 n.notice, .int .i64 n.load, .int .i64 n.barrows, .int .i64 n.lo, .int .i64 n.hi] 29 (0, 0))))
 have ht7 := ht6.set (fun p c fr h => by rw [vbb6] at h; cases h) (b := bb) (o := (.cells #[.int .i64 n.places, .int .i64 n.pieces, .slice b1 m1 d1, .slice b2 m2 d2, .slice b3 (ints n.ts).length d3, .int .i64 n.rule, .slice b4 (ints n.xs).length d4, .int .i64 n.notice, .int .i64 n.load, .int .i64 n.barrows, .int .i64 n.lo, .int .i64 n.hi] 29 (0, 0)))
 have hx7 := hx6.set (fun p c fr h => by rw [vbb6] at h; cases h) (b := bb) (o := (.cells #[.int .i64 n.places, .int .i64 n.pieces, .slice b1 m1 d1, .slice b2 m2 d2, .slice b3 (ints n.ts).length d3, .int .i64 n.rule, .slice b4 (ints n.xs).length d4, .int .i64 n.notice, .int .i64 n.load, .int .i64 n.barrows, .int .i64 n.lo, .int .i64 n.hi] 29 (0, 0)))
 have l17 := l16.own hbb (o := (.cells #[.int .i64 n.places, .int .i64 n.pieces, .slice b1 m1 d1, .slice b2 m2 d2, .slice b3 (ints n.ts).length d3, .int .i64 n.rule, .slice b4 (ints n.xs).length d4, .int .i64 n.notice, .int .i64 n.load, .int .i64 n.barrows, .int .i64 n.lo, .int .i64 n.hi] 29 (0, 0)))
 have hown7 := own_keep hown6 vbb6 (by decide) (by decide) (o := (.cells #[.int .i64 n.places, .int .i64 n.pieces, .slice b1 m1 d1, .slice b2 m2 d2, .slice b3 (ints n.ts).length d3, .int .i64 n.rule, .slice b4 (ints n.xs).length d4, .int .i64 n.notice, .int .i64 n.load, .int .i64 n.barrows, .int .i64 n.lo, .int .i64 n.hi] 29 (0, 0)))
 replace hown7 : SameP _ := hown7
 generalize H6.set bb (.cells #[.int .i64 n.places, .int .i64 n.pieces, .slice b1 m1 d1, .slice b2 m2 d2, .slice b3 (ints n.ts).length d3, .int .i64 n.rule, .slice b4 (ints n.xs).length d4, .int .i64 n.notice, .int .i64 n.load, .int .i64 n.barrows, .int .i64 n.lo, .int .i64 n.hi] 29 (0, 0)) = H7 at *
 clear vbb6 vob6 hs6 hc6 ht6 hx6 l16 hown6
 (try simp only [nq, ↓reduceIte, Nat.reduceEqDiff])
 (refine @unH _ ?_; refine zA y25_110 ?_; (repeat (refine inC ?_; intro hc)); try (refine inK ?_; intro K hK))
 have vbb8 : (H7.set ob (.cells #[.int .i64 n.places, .int .i64 n.pieces, .slice b1 m1 d1, .slice b2 m2 d2, .slice b3 (ints n.ts).length d3, .int .i64 n.rule, .slice b4 (ints n.xs).length d4, .int .i64 n.notice, .int .i64 n.load, .int .i64 n.barrows, .int .i64 n.lo, .int .i64 n.hi] 29 (0, 0))) bb = _ := (set_ne hne).trans vbb7
 have hs8 := hs7.set (fun p c fr h => by rw [vob7] at h; cases h) (b := ob) (o := (.cells #[.int .i64 n.places, .int .i64 n.pieces, .slice b1 m1 d1, .slice b2 m2 d2, .slice b3 (ints n.ts).length d3, .int .i64 n.rule, .slice b4 (ints n.xs).length d4, .int .i64 n.notice, .int .i64 n.load, .int .i64 n.barrows, .int .i64 n.lo, .int .i64 n.hi] 29 (0, 0)))
 have hc8 := hc7.move (set_keeps0 vob7 (by decide) (by decide) (o := (.cells #[.int .i64 n.places, .int .i64 n.pieces, .slice b1 m1 d1, .slice b2 m2 d2, .slice b3 (ints n.ts).length d3, .int .i64 n.rule, .slice b4 (ints n.xs).length d4, .int .i64 n.notice, .int .i64 n.load, .int .i64 n.barrows, .int .i64 n.lo, .int .i64 n.hi] 29 (0, 0))))
 have ht8 := ht7.set (fun p c fr h => by rw [vob7] at h; cases h) (b := ob) (o := (.cells #[.int .i64 n.places, .int .i64 n.pieces, .slice b1 m1 d1, .slice b2 m2 d2, .slice b3 (ints n.ts).length d3, .int .i64 n.rule, .slice b4 (ints n.xs).length d4, .int .i64 n.notice, .int .i64 n.load, .int .i64 n.barrows, .int .i64 n.lo, .int .i64 n.hi] 29 (0, 0)))
 have hx8 := hx7.set (fun p c fr h => by rw [vob7] at h; cases h) (b := ob) (o := (.cells #[.int .i64 n.places, .int .i64 n.pieces, .slice b1 m1 d1, .slice b2 m2 d2, .slice b3 (ints n.ts).length d3, .int .i64 n.rule, .slice b4 (ints n.xs).length d4, .int .i64 n.notice, .int .i64 n.load, .int .i64 n.barrows, .int .i64 n.lo, .int .i64 n.hi] 29 (0, 0)))
 have l18 := (l17.own hobH (o := (.cells #[.int .i64 n.places, .int .i64 n.pieces, .slice b1 m1 d1, .slice b2 m2 d2, .slice b3 (ints n.ts).length d3, .int .i64 n.rule, .slice b4 (ints n.xs).length d4, .int .i64 n.notice, .int .i64 n.load, .int .i64 n.barrows, .int .i64 n.lo, .int .i64 n.hi] 29 (0, 0)))).toLe
 have hown8 := own_keep hown7 vob7 (by decide) (by decide) (o := (.cells #[.int .i64 n.places, .int .i64 n.pieces, .slice b1 m1 d1, .slice b2 m2 d2, .slice b3 (ints n.ts).length d3, .int .i64 n.rule, .slice b4 (ints n.xs).length d4, .int .i64 n.notice, .int .i64 n.load, .int .i64 n.barrows, .int .i64 n.lo, .int .i64 n.hi] 29 (0, 0)))
 (refine wpX_ret ?_; (try simp only [nq, ↓reduceIte, Nat.reduceEqDiff]); rw [bodyX_ret, results_cell Tryz.results25 (by decide) (b := ob) (o := 0) rfl Tryz.underlying29 rfl Tryz.sizeOf29]; simp -implicitDefEqProofs (disch := first | omega | (simp only [qd] <;> omega)) only [xq, ↓xp, qc, Nat.reduceAdd, List.range, List.range.loop, fine, Nat.reduceEqDiff, ↓reduceIte, yielded, reduceCtorEq, Nat.reduceLT, Nat.reduceMul, Nat.reduceSub, one, Nat.reduceLeDiff, runX_cons, y25_110, loadA_set])
 exact ⟨⟨_, _, _, _⟩, rfl, l18, { hd with day := ⟨hs8, hc8, ht8, hd.day.ok, hd.day.few, hd.day.true⟩, times := hx8 }, hown8⟩
end Go.Proofs.YtofmadjgbcopdaaGreatDoor
end
section
namespace Go.Proofs.YtofmadjgbcopdaaGreatDoor
open Go Go.X
theorem RidesIn.get {H : Hp} {a : Option Addr} {n cap : Nat} {rs : List RideV} (h : RidesIn H (.slice a n cap) rs) {i : Nat} {r : RideV} (hi : rs[i]? = some r) :
  ∃ (b : Nat) (p : Bool) (c : Array Value) (fr : Nat × Nat), a = some ⟨b, 0, none⟩ /\ H b = some (p, .cells c 61 fr) /\ c.extract (i * 3) (i * 3 + 3) = #[.int .i64 r.barrow, .int .i64 r.out, .int .i64 r.back] /\ i * 3 + 3 <= c.size /\
   c[i * 3]? = some (.int .i64 r.barrow) /\ c[i * 3 + 1]? = some (.int .i64 r.out) /\ c[i * 3 + 2]? = some (.int .i64 r.back) := by
 obtain ⟨a', cap', he, _, hg⟩ := h
 cases he
 obtain ⟨b, p, c, fr, e1, e2, e3, e4⟩ := hg i r hi
 have hk : ∀ k, k < 3 -> c[i * 3 + k]? = (#[Value.int .i64 r.barrow, .int .i64 r.out, .int .i64 r.back] : Array Value)[k]? := fun k hk => by
  rw [<- e3, Array.getElem?_extract]
  rw [if_pos (by omega)]
 exact ⟨b, p, c, fr, e1, e2, e3, e4, hk 0 (by omega), hk 1 (by omega), hk 2 (by omega)⟩
end Go.Proofs.YtofmadjgbcopdaaGreatDoor
end
section
namespace Go.Proofs.YtofmadjgbcopdaaGreatDoor
open Go Go.X
theorem pickB_first (bs : List Int) : ∀ B k, k < pickB bs B -> bs.getD (pickB bs B) 0 < bs.getD k 0
 | 0, k, h => by simp [pickB] at h
 | B + 1, k, h => by
  unfold pickB at h ⊢
  by_cases hB : B = 0
  ·rw [if_pos hB] at h; omega
  ·rw [if_neg hB] at h ⊢
   by_cases hc : bs.getD B 0 < bs.getD (pickB bs B) 0
   ·rw [if_pos hc] at h ⊢
    have := pickB_min bs B k h
    omega
   ·rw [if_neg hc] at h ⊢
    exact pickB_first bs B k h
def usedB (bs : List Int) (k : Nat) : Bool := decide (-1048576 < bs.getD k 0)
def backB (bs : List Int) (k : Nat) : Int := if -1048576 < bs.getD k 0 then bs.getD k 0 else 0
def usedL (bs : List Int) (B : Nat) : List Value := (List.range B).map fun k => .bool (usedB bs k)
def backL (bs : List Int) (B : Nat) : List Value := (List.range B).map fun k => .int .i64 (backB bs k)
theorem usedL_len (bs : List Int) (B : Nat) : (usedL bs B).length = B := by simp [usedL]
theorem backL_len (bs : List Int) (B : Nat) : (backL bs B).length = B := by simp [backL]
theorem usedL_get (bs : List Int) {B k : Nat} (h : k < B) : (usedL bs B)[k]? = some (.bool (usedB bs k)) := by simp [usedL, h]
theorem backL_get (bs : List Int) {B k : Nat} (h : k < B) : (backL bs B)[k]? = some (.int .i64 (backB bs k)) := by simp [backL, h]
theorem getD_set_ne (bs : List Int) {p k : Nat} (x : Int) (h : p ≠ k) : (bs.set p x).getD k 0 = bs.getD k 0 := by simp [List.getD, List.getElem?_set_ne h]
theorem usedL_set (bs : List Int) (B : Nat) {p : Nat} {x : Int} (hp : p < bs.length) (hx : -1048576 < x) : usedL (bs.set p x) B = (usedL bs B).set p (.bool true) := by
 apply List.ext_getElem?
 intro k
 by_cases hk : k < B
 ·rw [usedL_get _ hk]
  by_cases e : p = k
  ·subst e
   rw [List.getElem?_set_self (by rw [usedL_len]; exact hk)]
   simp [usedB, List.getD, hp, hx]
  ·rw [List.getElem?_set_ne e, usedL_get _ hk, usedB, usedB, getD_set_ne bs x e]
 ·rw [List.getElem?_eq_none (by rw [usedL_len]; omega), List.getElem?_eq_none (by rw [List.length_set, usedL_len]; omega)]
theorem backL_set (bs : List Int) (B : Nat) {p : Nat} {x : Int} (hp : p < bs.length) (hx : -1048576 < x) : backL (bs.set p x) B = (backL bs B).set p (.int .i64 x) := by
 apply List.ext_getElem?
 intro k
 by_cases hk : k < B
 ·rw [backL_get _ hk]
  by_cases e : p = k
  ·subst e
   rw [List.getElem?_set_self (by rw [backL_len]; exact hk)]
   simp [backB, List.getD, hp, hx]
  ·rw [List.getElem?_set_ne e, backL_get _ hk, backB, backB, getD_set_ne bs x e]
 ·rw [List.getElem?_eq_none (by rw [backL_len]; omega), List.getElem?_eq_none (by rw [List.length_set, backL_len]; omega)]
structure RideSeen (n : HN) (js : List Int) (mi : Int) (B : Nat) (bs bs' : List Int) (f m : Nat) (r : RideV) (p : Nat) (late : List Int) : Prop where
 pb : p < B
 pe : r.barrow = p
 back : r.back = r.out + mi
 used' : usedL bs' B = (usedL bs B).set p (.bool true)
 back' : backL bs' B = (backL bs B).set p (.int .i64 r.back)
 own : ∀ k, k < B -> (usedB bs k = false -> usedB bs p = false /\ p <= k) /\ (usedB bs k = true -> usedB bs p = true -> backB bs p < backB bs k ∨ (backB bs p = backB bs k /\ p <= k))
 late : ∀ j, j < m -> late[f + j]? = some (max 0 (r.back - n.due js (f + j)))
 free : usedB bs p = false -> r.out = n.due js (f + m - 1) - n.notice
 taken : usedB bs p = true -> r.out = max (n.due js (f + m - 1) - n.notice) (backB bs p)
 m1 : 1 <= m
 fm : f + m <= js.length
 lo : -100 <= r.out /\ r.out <= 1000
theorem ride_seen {n : HN} {js : List Int} {mi : Int} {pl : List Nat} (hx : ∀ x ∈ n.xs, 0 <= x /\ x <= 99) (n0 : 0 <= n.notice) (n30 : n.notice <= 30) (b1 : 1 <= n.barrows) (b4 : n.barrows <= 4) (h1 : 1 <= mi) (h2 : mi <= 20)
  (hp1 : ∀ m ∈ pl, 1 <= m) (hps : pl.sum = js.length) (h8 : js.length <= 8) {i : Nat} (hi : i < pl.length) :
  RideSeen n js mi n.barrows.toNat (dS n js mi pl i).1 (dS n js mi pl (i + 1)).1 (dS n js mi pl i).2.1 (pl.getD i 0) (rideF n js (dS n js mi pl i).1 (dS n js mi pl i).2.1 (pl.getD i 0) mi) (pickB (dS n js mi pl i).1 n.barrows.toNat) (lateG n js mi pl bs0 0) := by
 obtain ⟨i1, i2, i3, i4⟩ := dS_ok n js mi pl hx n0 b1 b4 h1 h2 i (by omega)
 have hpl8 := parts_len pl hp1
 have hpk := pickB_lt (dS n js mi pl i).1 n.barrows.toNat (by omega)
 have hg : pl.getD i 0 = pl[i] := by simp [List.getD, List.getElem?_eq_getElem hi]
 have hm1 := hp1 _ (List.getElem_mem hi)
 have hst := sum_take_succ hi
 have hdue : ∀ k, 0 <= n.due js k /\ n.due js k <= 99 := fun k => by
  unfold HN.due
  generalize (js.getD k 0).toNat = q
  rw [List.getD_eq_getElem?_getD]
  cases hq : n.xs[q]? with
  | none => simp
  | some x => exact hx x (List.mem_of_getElem? hq)
 have hd := hdue ((dS n js mi pl i).2.1 + pl.getD i 0 - 1)
 have hbp : -1048576 <= (dS n js mi pl i).1.getD (pickB (dS n js mi pl i).1 n.barrows.toNat) 0 /\ (dS n js mi pl i).1.getD (pickB (dS n js mi pl i).1 n.barrows.toNat) 0 <= 100 + 20 * i := by
  simp only [List.getD, List.getElem?_eq_getElem (show pickB (dS n js mi pl i).1 n.barrows.toNat < (dS n js mi pl i).1.length by omega), Option.getD_some]
  exact i2 _ (List.getElem_mem _)
 have hlow : ∀ k, k < n.barrows.toNat -> -1048576 <= (dS n js mi pl i).1.getD k 0 := fun k hk => by
  simp only [List.getD, List.getElem?_eq_getElem (show k < (dS n js mi pl i).1.length by omega), Option.getD_some]
  exact (i2 _ (List.getElem_mem _)).1
 have hback : -1048576 < (rideF n js (dS n js mi pl i).1 (dS n js mi pl i).2.1 (pl.getD i 0) mi).back := by
  simp only [rideF]
  omega
 have hmin := fun k hk => pickB_min (dS n js mi pl i).1 n.barrows.toNat k hk
 have hfst := fun k hk => pickB_first (dS n js mi pl i).1 n.barrows.toNat k hk
 refine ⟨hpk, rfl, rfl, ?_, ?_, fun k hk => ?_, fun j hj => ?_, fun hu => ?_, fun hu => ?_, by omega, by omega, ?_⟩
 ·rw [dS_succ]
  exact usedL_set _ _ (by omega) hback
 ·rw [dS_succ]
  exact backL_set _ _ (by omega) hback
 ·have h3 := hmin k hk
  have h4 := hfst k
  have h5 := hlow k hk
  simp only [usedB, backB, decide_eq_false_iff_not, decide_eq_true_eq]
  refine ⟨fun hu => ⟨by omega, ?_⟩, fun hu hv => ?_⟩
  ·rcases Nat.lt_or_ge k (pickB (dS n js mi pl i).1 n.barrows.toNat) with h6 | h6
   ·have := h4 h6; omega
   ·exact h6
  ·rw [if_pos hu, if_pos hv]
   rcases Nat.lt_or_ge k (pickB (dS n js mi pl i).1 n.barrows.toNat) with h6 | h6
   ·have := h4 h6; exact .inl this
   ·omega
 ·have hG := lateD_G n js mi pl (i + 1) (by omega)
  have hl := lateD_length n js mi pl i (by omega)
  rw [lateD] at hG
  rw [<- hG, List.append_assoc, List.getElem?_append_right (by omega), List.getElem?_append_left (by simp only [lateR, List.length_map, List.length_range]; omega)]
  simp only [lateR, List.getElem?_map]
  rw [List.getElem?_range (by omega)]
  simp only [Option.map_some]
  rw [show (dS n js mi pl i).2.1 + j - (lateD n js mi pl i).length = j by omega]
 ·simp only [usedB, decide_eq_false_iff_not] at hu
  simp only [rideF]
  omega
 ·simp only [usedB, decide_eq_true_eq] at hu
  simp only [rideF, backB, if_pos hu]
  omega
 ·simp only [rideF]
  omega
end Go.Proofs.YtofmadjgbcopdaaGreatDoor
end
section
namespace Go.Proofs.YtofmadjgbcopdaaGreatDoor
open Go Go.X
def y7_123 := And.intro @callF21 (And.intro @callF41 (And.intro (fun H => ex_alloc (H := H) (P := Tryz.prog) (h := Tryz.zeroValue29)) (And.intro (fun H => storeAt_agg (H := H) Tryz.sizeOf29) (And.intro @callF42 (And.intro (fun H => loadAt_aggE (H := H) Tryz.underlying29 rfl Tryz.sizeOf29) (And.intro @callF25 (And.intro (fun H => fieldAt_eq (H := H) Tryz.underlying29 (i := 3) rfl (off := 6) rfl Tryz.sizeOf22) (And.intro (fun H => loadAt_one (H := H) Tryz.underlying22 rfl) (And.intro (fun H => len_slice (H := H) Tryz.underlying22) (And.intro (fun H => indexAt_slice (H := H) Tryz.underlying22 Tryz.sizeOf3) (And.intro (fun H => loadAt_one (H := H) Tryz.underlying3 rfl) (And.intro (fun H => storeAt_int (H := H) Tryz.sizeOf3) (And.intro @callF32 (And.intro @callF34 (And.intro (fun H => len_slice (H := H) Tryz.underlying45) (And.intro @callF30 (And.intro (fun H => indexAt_slice (H := H) Tryz.underlying45 Tryz.sizeOf61) (And.intro (fun H => loadAt_aggE (H := H) Tryz.underlying61 rfl Tryz.sizeOf61) (And.intro (fun H => fieldAt_eq (H := H) Tryz.underlying61 (i := 0) rfl (off := 0) rfl Tryz.sizeOf3) (And.intro (fun H => fieldAt_eq (H := H) Tryz.underlying61 (i := 1) rfl (off := 1) rfl Tryz.sizeOf3) (And.intro (fun H => fieldAt_eq (H := H) Tryz.underlying61 (i := 2) rfl (off := 2) rfl Tryz.sizeOf3) (And.intro @bld_61_0_1_2_0 @callF20))))))))))))))))))))))
theorem own_new {H0 H : Hp} {n : HN} {v : HV} (h : OwnT H0 H n v) {g : Nat} (hg : H g = none) {o : Obj} : OwnT H0 (H.set g o) n v := fun hn => by
 obtain ⟨b', c, h3, h4, h5, h6, h7, h8, h9, h10⟩ := h hn
 have hne : g ≠ b' := fun e => by rw [<- e, hg] at h5; cases h5
 have hl : (H.del b').le ((H.del b').set g o) := Hp.le_set (by rw [Hp.del_ne hne]; exact hg)
 refine ⟨b', c, h3, h4, (set_ne hne.symm).trans h5, h6, h7, ?_⟩
 rw [Hp.del_set hne]
 exact ⟨h8.le hl, h9.le hl, h10.le hl⟩
def shifted (xs : List Int) (d : Int) (i : Nat) : List Int := (xs.take i).map (· + d) ++ xs.drop i
theorem shifted_len (xs : List Int) (d : Int) (i : Nat) : (shifted xs d i).length = xs.length := by simp [shifted]; omega
theorem shifted_get {xs : List Int} {d : Int} {i : Nat} {x : Int} (h : xs[i]? = some x) : (shifted xs d i)[i]? = some x := by
 have hl := (List.getElem?_eq_some_iff.1 h).1
 unfold shifted
 rw [List.getElem?_append_right (by simp; omega), List.getElem?_drop]
 have : i + (i - (List.map (· + d) (xs.take i)).length) = i := by simp; omega
 rw [this]; exact h
theorem shifted_succ {xs : List Int} {d : Int} {i : Nat} {x : Int} (h : xs[i]? = some x) : shifted xs d (i + 1) = (shifted xs d i).set i (x + d) := by
 obtain ⟨hl, hx⟩ := List.getElem?_eq_some_iff.1 h
 apply List.ext_getElem?
 intro j
 by_cases hj : i = j
 ·subst hj
  rw [List.getElem?_set_self (by rw [shifted_len]; exact hl)]
  unfold shifted
  rw [List.getElem?_append_left (by simp; omega)]
  simp [List.getElem?_take, h]
 ·rw [List.getElem?_set_ne hj]
  unfold shifted
  rcases Nat.lt_or_ge j i with hlt | hge
  ·rw [List.getElem?_append_left (by simp; omega), List.getElem?_append_left (by simp; omega)]
   simp [List.getElem?_take, hlt, show j < i + 1 by omega]
  ·rw [List.getElem?_append_right (by simp; omega), List.getElem?_append_right (by simp; omega), List.getElem?_drop, List.getElem?_drop]
   congr 1
   simp only [List.length_map, List.length_take]
   omega
theorem shifted_all (xs : List Int) (d : Int) : shifted xs d xs.length = xs.map (· + d) := by simp [shifted]
theorem shifted_zero (xs : List Int) (d : Int) : shifted xs d 0 = xs := by simp [shifted]
theorem del_set_same {H : Hp} {b : Nat} {o : Obj} : (H.set b o).del b = H.del b := by
 funext x
 unfold Hp.del Hp.set
 by_cases e : x = b <;> simp [e]
def TimesAt (H : Hp) (n : HN) (v : HV) (tb : Nat) (xs : List Int) : Prop := ∃ c : Array Value, v.xv = .slice (some ⟨tb, 0, none⟩) n.xs.length c.size /\ H tb = some (true, .cells c 3 (0, 0)) /\ n.xs.length <= c.size /\
 (∀ (i : Nat) (x : Int), xs[i]? = some x -> c[i]? = some (.int .i64 x)) /\ SlI (H.del tb) v.sv n.start /\ SlR (H.del tb) v.cv n.xss /\ SlI (H.del tb) v.tv n.ts
theorem del_leH (H : Hp) (b : Nat) : (H.del b).le H := fun x o h => by
 by_cases e : x = b
 ·simp [Hp.del, e] at h
 ·rwa [Hp.del_ne e] at h
theorem TimesAt.haul {H : Hp} {n : HN} {v : HV} {tb : Nat} {by_ : Int} (h : TimesAt H n v tb (n.xs.map (· + by_))) {H₀ : Hp} {v₀ : HV} (h0 : HaulIn H₀ n v₀) (hb : 0 <= by_ /\ by_ <= 10) (h82 : ∀ x ∈ n.xs, x <= 82) : HaulIn H { n with xs := n.xs.map (· + by_) } v := by
  obtain ⟨c, h1, h2, h3, h4, h5, h6, h7⟩ := h
  exact { h0 with
    day := ⟨h5.le (del_leH H tb), h6.le (del_leH H tb), h7.le (del_leH H tb), h0.day.ok, h0.day.few, h0.day.true⟩
    times := ⟨some ⟨tb, 0, none⟩, c.size, by rw [h1]; simp, by simpa using h3, fun i x hi => ⟨tb, 0, true, c, (0, 0), rfl, h2, by rw [Nat.zero_add]; exact h4 i x hi⟩⟩
    ok := by
      obtain ⟨o1, o2, o3⟩ := h0.ok
      refine ⟨by simpa using o1, ?_, ?_⟩
      · show (n.xs.map (· + by_)).Pairwise _
        rw [List.pairwise_map]
        exact o2.imp fun h => by omega
      · intro x hx
        obtain ⟨y, hy, rfl⟩ := List.mem_map.1 hx
        have := o3 y hy
        have := h82 y hy
        omega }
theorem blater_spec (H : Hp) (sa : Option Addr) (sl sc : Nat) (hs : ∀ i : Nat, i < sl -> ∃ sb so c e fr x, sa = some ⟨sb, so, none⟩ /\ H sb = some (false, .cells c e fr) /\ c[so + i]? = some (.int .i64 x)) :
  FnX Tryz.prog (.co Tryz.prog) 7 #[.slice sa sl sc] H fun e _ => e = .returned (.bool true) := by
 refine FnX_start Tryz.func7 rfl Tryz.ntmps7 (by simp) ?_
 (refine @unH _ ?_; refine zA y7_123 ?_; (repeat (refine inC ?_; intro hc)); try (refine inK ?_; intro K hK))
 refine (newTin_spec _ H sa sl sc hs 250 (by omega)).runs.mono ?_
 rintro _ H1 ⟨tb, rfl, l1, hT⟩
 ((try (refine @unH _ ?_; refine zX y7_123 ?_)); (try (refine hK _ _ ?_; clear hK K; (try simp only [nq, ↓reduceIte, Nat.reduceEqDiff]))); refine @unH _ ?_; refine zA y7_123 ?_; (repeat (refine inC ?_; intro hc)); try (refine inK ?_; intro K hK))
 refine (made_specX _ H1 tb 10 7 (by omega) hT).runs.mono ?_
 rintro _ H2 ⟨n, v, jv, pv, pl, mi, rfl, hd2, hx8, hj2, hp2, hok, hm1, hm20, _, hT2, h82⟩
 replace h82 : SameP _ := h82
 obtain ⟨hj8, hjb, _⟩ := hd2.jobs
 have hxl : n.xs.length <= 8 := by rw [hd2.ok.1]; exact hd2.day.few
 have hdue : ∀ k, 0 <= n.due n.jobs k := fun k => by
  unfold HN.due
  generalize (n.jobs.getD k 0).toNat = i
  rw [List.getD_eq_getElem?_getD]
  cases hi : n.xs[i]? with
  | none => simp
  | some x => exact (hd2.ok.2.2 x (List.mem_of_getElem? hi)).1
 have hlaw := fun (d : Int) (h0 : 0 <= d) => later_law (n := n) (n' := { n with xs := n.xs.map (· + d) }) (by_ := d) h0 rfl rfl hd2.n0 hd2.n30 rfl hd2.b1 hd2.b4 hjb hdue hm1 pl bs0 bs0 0 rfl ⟨rfl, fun i hi => .inl (by
  have : i < 4 := hi
  have hall : ∀ i, i < 4 -> bs0.getD i 0 = -1048576 := by decide
  exact ⟨hall i this, hall i this⟩)⟩ hok.p1 (by rw [Nat.zero_add, hok.ps]; exact Nat.le_refl _)
 have hdr := fun H' (h' : HaulIn H' n v) hp' => Drive_spec (.co Tryz.prog) H' n v h' pv pl hp' hok hj8 hjb mi hm1 hm20
 have hla := fun H' (h' : HaulIn H' n v) hp' => Late_spec (.co Tryz.prog) H' n v h' pv pl hp' hok hj8 hjb mi hm1 hm20
 have hjl : ∀ d : Int, ∀ i ∈ n.jobs, 0 <= i /\ i < (n.xs.map (· + d)).length := fun d i hi => by rw [List.length_map]; exact hjb i hi
 have hdr2 := fun (d : Int) v' H' (h' : HaulIn H' { n with xs := n.xs.map (· + d) } v') hp' => Drive_spec (.co Tryz.prog) H' { n with xs := n.xs.map (· + d) } v' h' pv pl hp' ⟨hok.p1, hok.p2, hok.ps⟩ hj8 (hjl d) mi hm1 hm20
 have hla2 := fun (d : Int) v' H' (h' : HaulIn H' { n with xs := n.xs.map (· + d) } v') hp' => Late_spec (.co Tryz.prog) H' { n with xs := n.xs.map (· + d) } v' h' pv pl hp' ⟨hok.p1, hok.p2, hok.ps⟩ hj8 (hjl d) mi hm1 hm20
 have ej : ∀ d : Int, HN.jobs { n with xs := n.xs.map (· + d) } = n.jobs := fun _ => rfl
 simp only [ej] at hdr2 hla2
 have hrl : ∀ d : Int, 0 <= d -> ridesG { n with xs := n.xs.map (· + d) } n.jobs mi pl bs0 0 = (ridesG n n.jobs mi pl bs0 0).map (·.later d) := fun d h => (hlaw d h).1
 have hll : ∀ d : Int, 0 <= d -> lateG { n with xs := n.xs.map (· + d) } n.jobs mi pl bs0 0 = lateG n n.jobs mi pl bs0 0 := fun d h => (hlaw d h).2
 have hRl : (ridesG n n.jobs mi pl bs0 0).length = pl.length := by
  rw [<- dS_all]
  exact (dS_ok n n.jobs mi pl hd2.ok.2.2 hd2.n0 hd2.b1 hd2.b4 hm1 hm20 _ (Nat.le_refl _)).2.2.2
 have hpl8 : pl.length <= 8 := Nat.le_trans (parts_len pl hok.p1) (by rw [hok.ps]; exact hj8)
 have hLl : (lateG n n.jobs mi pl bs0 0).length <= 1000000 := by rw [lateG_length, hok.ps]; omega
 have hbd : ∀ (k : Nat) (r : RideV), (ridesG n n.jobs mi pl bs0 0)[k]? = some r -> -100 <= r.out /\ r.out <= 1000 /\ r.back = r.out + mi := fun k r hr => by
  have hk : k < pl.length := by have := (List.getElem?_eq_some_iff.1 hr).1; omega
  have hok' := dS_ok n n.jobs mi pl hd2.ok.2.2 hd2.n0 hd2.b1 hd2.b4 hm1 hm20
  rw [<- dS_all, dS_get n n.jobs mi pl pl.length k hk (hok' _ (Nat.le_refl _)).2.2.2 fun j hj => (hok' j (by omega)).2.2.2] at hr
  cases hr
  have s := ride_seen (n := n) (js := n.jobs) (mi := mi) (pl := pl) hd2.ok.2.2 hd2.n0 hd2.n30 hd2.b1 hd2.b4 hm1 hm20 hok.p1 hok.ps hj8 (i := k) hk
  exact ⟨s.lo.1, s.lo.2, s.back⟩
 generalize ridesG n n.jobs mi pl bs0 0 = R at *
 replace hbd : SameP _ := hbd
 generalize lateG n n.jobs mi pl bs0 0 = L at *
 clear hlaw ej hjl hdue
 have hkp := fun H' (h' : HaulIn H' n v) => keepH_spec (.co Tryz.prog) H' n v h'
 have hvw : ∃ v0 : HV, v0 = v := ⟨v, rfl⟩
 obtain ⟨sv, cv, tv, xv⟩ := v
 obtain ⟨a1, n1, c1, hsv⟩ := hd2.day.st.isSlice
 obtain ⟨a2, n2, c2, hcv⟩ := hd2.day.calls.isSlice
 obtain ⟨a3, n3, c3, htv⟩ := hd2.day.truth.isSlice
 obtain ⟨a4, n4, c4, hxv⟩ := hd2.times.isSlice
 simp only [] at hsv hcv htv hxv
 subst hsv hcv htv hxv
 obtain ⟨a5, n5, c5, rfl⟩ := hj2.isSlice
 obtain ⟨a6, n6, c6, rfl⟩ := hp2.isSlice
 simp only [HN.agg] at hdr hla hdr2 hla2 hkp ⊢
 replace hdr : SameP _ := hdr
 replace hla : SameP _ := hla
 replace hdr2 : SameP _ := hdr2
 replace hla2 : SameP _ := hla2
 replace hkp : SameP _ := hkp
 replace hrl : SameP _ := hrl
 replace hll : SameP _ := hll
 replace hRl : SameP _ := hRl
 clear hT hs l1 hjb hok hj2 hvw
 ((try (refine @unH _ ?_; refine zX y7_123 ?_)); (try (refine hK _ _ ?_; clear hK K; (try simp only [nq, ↓reduceIte, Nat.reduceEqDiff]))); refine @unH _ ?_; refine zA y7_123 ?_; (repeat (refine inC ?_; intro hc)); try (refine inK ?_; intro K hK))
 intro hb hhb
 have hhbn := hT2.ne hhb
 have vhb : (H2.set hb (.cells #[.int .i64 n.places, .int .i64 n.pieces, .slice a1 n1 c1, .slice a2 n2 c2, .slice a3 n3 c3, .int .i64 n.rule, .slice a4 n4 c4, .int .i64 n.notice, .int .i64 n.load, .int .i64 n.barrows, .int .i64 n.lo, .int .i64 n.hi] 29 (0, 0))) hb = some (true, (.cells #[.int .i64 n.places, .int .i64 n.pieces, .slice a1 n1 c1, .slice a2 n2 c2, .slice a3 n3 c3, .int .i64 n.rule, .slice a4 n4 c4, .int .i64 n.notice, .int .i64 n.load, .int .i64 n.barrows, .int .i64 n.lo, .int .i64 n.hi] 29 (0, 0))) := set_at
 have hd3 := hd2.le (Hp.le_set hhb (o := (.cells #[.int .i64 n.places, .int .i64 n.pieces, .slice a1 n1 c1, .slice a2 n2 c2, .slice a3 n3 c3, .int .i64 n.rule, .slice a4 n4 c4, .int .i64 n.notice, .int .i64 n.load, .int .i64 n.barrows, .int .i64 n.lo, .int .i64 n.hi] 29 (0, 0))))
 have hp3 := hp2.le (Hp.le_set hhb (o := (.cells #[.int .i64 n.places, .int .i64 n.pieces, .slice a1 n1 c1, .slice a2 n2 c2, .slice a3 n3 c3, .int .i64 n.rule, .slice a4 n4 c4, .int .i64 n.notice, .int .i64 n.load, .int .i64 n.barrows, .int .i64 n.lo, .int .i64 n.hi] 29 (0, 0))))
 have hT3 := hT2.new hhb (o := (.cells #[.int .i64 n.places, .int .i64 n.pieces, .slice a1 n1 c1, .slice a2 n2 c2, .slice a3 n3 c3, .int .i64 n.rule, .slice a4 n4 c4, .int .i64 n.notice, .int .i64 n.load, .int .i64 n.barrows, .int .i64 n.lo, .int .i64 n.hi] 29 (0, 0)))
 generalize H2.set hb (.cells #[.int .i64 n.places, .int .i64 n.pieces, .slice a1 n1 c1, .slice a2 n2 c2, .slice a3 n3 c3, .int .i64 n.rule, .slice a4 n4 c4, .int .i64 n.notice, .int .i64 n.load, .int .i64 n.barrows, .int .i64 n.lo, .int .i64 n.hi] 29 (0, 0)) = H3 at *
 clear hd2 hp2 hT2 hhb
 ((try (refine @unH _ ?_; refine zX y7_123 ?_)); (try (refine hK _ _ ?_; clear hK K; (try simp only [nq, ↓reduceIte, Nat.reduceEqDiff]))); refine @unH _ ?_; refine zA y7_123 ?_; (repeat (refine inC ?_; intro hc)); try (refine inK ?_; intro K hK))
 refine (uptoL _ H3 tb 9 10 (by omega) hT3).runs.mono ?_
 rintro _ H4 ⟨d, hd0, hd1, rfl, l4, hT4⟩
 have hd10 : d <= 10 := by omega
 clear hd1
 have vhb4 := l4.keeps vhb hhbn
 have hd4 := hd3.move (tin_keeps l4 hT3)
 have hp4 := hp3.lex l4 hT3
 clear vhb hd3 hp3 hT3 l4 hT4
 ((try (refine @unH _ ?_; refine zX y7_123 ?_)); (try (refine hK _ _ ?_; clear hK K; (try simp only [nq, ↓reduceIte, Nat.reduceEqDiff]))); refine @unH _ ?_; refine zA y7_123 ?_; (repeat (refine inC ?_; intro hc)); try (refine inK ?_; intro K hK))
 have hr := (show ∀ H', HaulIn H' n _ -> _ from hkp) H4 hd4
 refine hr.runs.mono ?_
 clear hr hkp
 rintro _ H5 ⟨v2, rfl, l5, hd5, hown⟩
 obtain ⟨w1, w2, w3, w4⟩ := v2
 obtain ⟨b1, m1, d1, e1⟩ := hd5.day.st.isSlice
 obtain ⟨b2, m2, d2, e2⟩ := hd5.day.calls.isSlice
 obtain ⟨b3, m3, d3, e3⟩ := hd5.day.truth.isSlice
 obtain ⟨b4, d4, e4, hb4c, _⟩ := id hd5.times
 simp only [] at e1 e2 e3 e4
 subst e1 e2 e3 e4
 replace hown : SameP _ := hown
 ((try (refine @unH _ ?_; refine zX y7_123 ?_)); (try (refine hK _ _ ?_; clear hK K; (try simp only [nq, ↓reduceIte, Nat.reduceEqDiff]))); refine @unH _ ?_; refine zA y7_123 ?_; (repeat (refine inC ?_; intro hc)); try (refine inK ?_; intro K hK))
 intro xb hxb
 have hxbn : H4 xb = none := Hp.le_none l5 hxb
 have nhx : hb ≠ xb := fun e => by rw [<- e, vhb4] at hxbn; cases hxbn
 have vxb6 : (H5.set xb (.cells #[.int .i64 n.places, .int .i64 n.pieces, .slice b1 m1 d1, .slice b2 m2 d2, .slice b3 m3 d3, .int .i64 n.rule, .slice b4 n.xs.length d4, .int .i64 n.notice, .int .i64 n.load, .int .i64 n.barrows, .int .i64 n.lo, .int .i64 n.hi] 29 (0, 0))) xb = some (true, (.cells #[.int .i64 n.places, .int .i64 n.pieces, .slice b1 m1 d1, .slice b2 m2 d2, .slice b3 m3 d3, .int .i64 n.rule, .slice b4 n.xs.length d4, .int .i64 n.notice, .int .i64 n.load, .int .i64 n.barrows, .int .i64 n.lo, .int .i64 n.hi] 29 (0, 0))) := set_at
 have lx6 : Lex none H4 (H5.set xb (.cells #[.int .i64 n.places, .int .i64 n.pieces, .slice b1 m1 d1, .slice b2 m2 d2, .slice b3 m3 d3, .int .i64 n.rule, .slice b4 n.xs.length d4, .int .i64 n.notice, .int .i64 n.load, .int .i64 n.barrows, .int .i64 n.lo, .int .i64 n.hi] 29 (0, 0))) := Lex.of (Hp.le_trans l5 (Hp.le_set hxb))
 have hd6 := hd5.le (Hp.le_set hxb (o := (.cells #[.int .i64 n.places, .int .i64 n.pieces, .slice b1 m1 d1, .slice b2 m2 d2, .slice b3 m3 d3, .int .i64 n.rule, .slice b4 n.xs.length d4, .int .i64 n.notice, .int .i64 n.load, .int .i64 n.barrows, .int .i64 n.lo, .int .i64 n.hi] 29 (0, 0))))
 have hown6 := own_new (show OwnT H4 H5 n _ from hown) hxb (o := (.cells #[.int .i64 n.places, .int .i64 n.pieces, .slice b1 m1 d1, .slice b2 m2 d2, .slice b3 m3 d3, .int .i64 n.rule, .slice b4 n.xs.length d4, .int .i64 n.notice, .int .i64 n.load, .int .i64 n.barrows, .int .i64 n.lo, .int .i64 n.hi] 29 (0, 0)))
 obtain ⟨tw, htw⟩ : ∃ tw, n.xs ≠ [] -> H4 tw = none /\ TimesAt (H5.set xb (.cells #[.int .i64 n.places, .int .i64 n.pieces, .slice b1 m1 d1, .slice b2 m2 d2, .slice b3 m3 d3, .int .i64 n.rule, .slice b4 n.xs.length d4, .int .i64 n.notice, .int .i64 n.load, .int .i64 n.barrows, .int .i64 n.lo, .int .i64 n.hi] 29 (0, 0))) n ⟨.slice b1 m1 d1, .slice b2 m2 d2, .slice b3 m3 d3, .slice b4 n.xs.length d4⟩ tw n.xs := by
  by_cases h : n.xs = []
  ·exact ⟨0, fun hn => absurd h hn⟩
  ·obtain ⟨b, c, h0, h1, h2, h3, h4, h5, h6, h7⟩ := hown6 h
   exact ⟨b, fun _ => ⟨h0, c, h1, h2, h3, h4, h5, h6, h7⟩⟩
 generalize H5.set xb (.cells #[.int .i64 n.places, .int .i64 n.pieces, .slice b1 m1 d1, .slice b2 m2 d2, .slice b3 m3 d3, .int .i64 n.rule, .slice b4 n.xs.length d4, .int .i64 n.notice, .int .i64 n.load, .int .i64 n.barrows, .int .i64 n.lo, .int .i64 n.hi] 29 (0, 0)) = H6 at *
 clear hd5 hown hown6 l5 hxb
 replace htw : SameP _ := htw
 ((try (refine @unH _ ?_; refine zX y7_123 ?_)); (try (refine hK _ _ ?_; clear hK K; (try simp only [nq, ↓reduceIte, Nat.reduceEqDiff]))); refine @unH _ ?_; refine zA y7_123 ?_; (repeat (refine inC ?_; intro hc)); try (refine inK ?_; intro K hK))
 refine wpX_loop (fun w a' H' => ∃ e, ∃ i : Nat, w = n.xs.length - i /\ i <= n.xs.length /\ a' = act 138 e [] /\ e 4 = .pointer (some ⟨hb, 0, none⟩) /\ e 6 = .slice a6 n6 c6 /\ e 7 = .int .i64 mi /\ e 8 = .int .i64 d /\ e 9 = .pointer (some ⟨xb, 0, none⟩) /\ e 10 = .int .i64 (i : Nat) /\ Lex none H4 H' /\ H' xb = some (true, (.cells #[.int .i64 n.places, .int .i64 n.pieces, .slice b1 m1 d1, .slice b2 m2 d2, .slice b3 m3 d3, .int .i64 n.rule, .slice b4 n.xs.length d4, .int .i64 n.notice, .int .i64 n.load, .int .i64 n.barrows, .int .i64 n.lo, .int .i64 n.hi] 29 (0, 0))) /\
  (n.xs = [] -> HaulIn H' n ⟨.slice b1 m1 d1, .slice b2 m2 d2, .slice b3 m3 d3, .slice b4 n.xs.length d4⟩) /\ (n.xs ≠ [] -> H4 tw = none /\ TimesAt H' n ⟨.slice b1 m1 d1, .slice b2 m2 d2, .slice b3 m3 d3, .slice b4 n.xs.length d4⟩ tw (shifted n.xs d i))) (n := n.xs.length) ?_ ?_
 ·exact ⟨_, 0, by omega, by omega, rfl, rfl, rfl, rfl, rfl, rfl, rfl, lx6, vxb6, fun _ => hd6, fun h => by rw [shifted_zero]; exact htw h⟩
 clear lx6 vxb6 hd6 htw
 rintro w a' H7 ⟨e, i, rfl, hi, rfl, e4, e6, e7, e8, e9, e10, lx6, vxb6, hnil, hcons⟩
 by_cases hlt : i < n.xs.length
 ·have hne : n.xs ≠ [] := fun h => by rw [h] at hlt; cases hlt
  obtain ⟨htw0, c, hxv, hbw, hcs, hget, s1, s2, s3⟩ := hcons hne
  clear hcons hnil
  simp only [Value.slice.injEq] at hxv
  obtain ⟨rfl, _, hdc⟩ := hxv
  subst hdc
  have hgx := List.getElem?_eq_getElem hlt
  have hb82 := (show ∀ x ∈ n.xs, x <= 82 from h82) _ (List.getElem_mem hlt)
  have hb0 := hd4.ok.2.2 _ (List.getElem_mem hlt)
  generalize n.xs[i] = x at hgx hb82 hb0
  have hcx := hget i x (shifted_get hgx)
  have hsu := shifted_succ (d := d) hgx
  replace hsu : SameP _ := hsu
  replace hget : SameP _ := hget
  replace hgx : SameP _ := hgx
  have nxw : xb ≠ tw := fun e => by
   rw [e, hbw] at vxb6
   simp only [Option.some.injEq, Prod.mk.injEq, Obj.cells.injEq] at vxb6
   exact absurd vxb6.2.2.1 (by decide)
  (refine @unH _ ?_; refine zA y7_123 ?_; (repeat (refine inC ?_; intro hc)); try (refine inK ?_; intro K hK))
  (refine wpX_dst1 11 [(true, 0), (true, 1), (true, 2), (true, 3), (true, 4), (true, 5), (true, 6), (true, 7), (true, 8), (true, 9), (true, 10), (false, 11)] (by kernel_rfl) (by kernel_rfl) (by simp) (by kernel_rfl) ?_; intro K hK; (iterate 11 (refine @unH _ ?_; refine z3 y7_123 ?_)); refine plan_tail ?_; (refine @unH _ ?_; refine zX y7_123 ?_); try (refine hK _ _ ?_; clear hK K; (try simp only [nq, ↓reduceIte, Nat.reduceEqDiff])))
  have vxb8 : (H7.set tw (.cells (c.setIfInBounds i (.int .i64 (x + d))) 3 (0, 0))) xb = _ := (set_ne nxw).trans vxb6
  have lx8 := lx6.own htw0 (o := .cells (c.setIfInBounds i (.int .i64 (x + d))) 3 (0, 0))
  have ta8 : TimesAt (H7.set tw (.cells (c.setIfInBounds i (.int .i64 (x + d))) 3 (0, 0))) n ⟨.slice b1 m1 d1, .slice b2 m2 d2, .slice b3 m3 d3, .slice (some ⟨tw, 0, none⟩) n.xs.length c.size⟩ tw (shifted n.xs d (i + 1)) := by
   refine ⟨c.setIfInBounds i (.int .i64 (x + d)), by simp, set_at, by simpa using hcs, fun j y hj => ?_, ?_⟩
   ·rw [show shifted n.xs d (i + 1) = _ from hsu] at hj
    by_cases hij : i = j
    ·subst hij
     rw [List.getElem?_set_self (by rw [shifted_len]; exact hlt)] at hj
     cases hj
     rw [Array.getElem?_setIfInBounds_self_of_lt (by omega)]
    ·rw [List.getElem?_set_ne hij] at hj
     rw [Array.getElem?_setIfInBounds_ne hij]
     exact (show ∀ (j : Nat) (y : Int), (shifted n.xs d i)[j]? = some y -> _ from hget) j y hj
   ·rw [del_set_same]
    exact ⟨s1, s2, s3⟩
  generalize H7.set tw _ = H8 at *
  clear hget hsu hgx s1 s2 s3 vxb6 lx6
  (refine @unH _ ?_; refine zA y7_123 ?_; (repeat (refine inC ?_; intro hc)); try (refine inK ?_; intro K hK))
  refine ⟨_, by omega, _, i + 1, rfl, hlt, rfl, e4, e6, e7, e8, e9, rfl, lx8, vxb8, fun h => absurd h hne, fun _ => ⟨htw0, ta8⟩⟩
 ·obtain rfl : i = n.xs.length := by omega
  have hx7 : HaulIn H7 { n with xs := n.xs.map (· + d) } ⟨.slice b1 m1 d1, .slice b2 m2 d2, .slice b3 m3 d3, .slice b4 n.xs.length d4⟩ := by
   by_cases h : n.xs = []
   ·have e : n.xs.map (· + d) = n.xs := by rw [h]; rfl
    rw [e]
    exact hnil h
   ·obtain ⟨_, ht⟩ := hcons h
    rw [shifted_all] at ht
    exact ht.haul hd4 ⟨hd0, hd10⟩ h82
  have ho7 := hd4.le lx6.toLe
  have vhb7 := lx6.toLe _ _ vhb4
  have hp7 := hp4.le lx6.toLe
  clear hnil hcons hd4 vhb4 hp4 lx6
  (refine @unH _ ?_; refine zA y7_123 ?_; (repeat (refine inC ?_; intro hc)); try (refine inK ?_; intro K hK))
  have hr := (show ∀ H', HaulIn H' n _ -> SlI H' _ _ -> _ from hdr) H7 ho7 hp7
  refine hr.runs.mono ?_
  clear hr hdr
  rintro _ H8 ⟨H80, rv, rfl, lH80, hrow⟩
  have lH8 := Hp.le_trans lH80 hrow.1.toLe
  have hR8 : RidesIn H8 rv R := RidesIn.row (by rw [show R.length = _ from hRl]; exact hrow)
  have hx8 := hx7.le lH8
  have ho8 := ho7.le lH8
  have vhb8 := lH8 _ _ vhb7
  have vxb8 := lH8 _ _ vxb6
  have hp8 := hp7.le lH8
  clear hx7 ho7 vhb7 vxb6 hp7 hrow lH8 lH80
  obtain ⟨ra, rc, hre, _, _⟩ := id hR8
  rw [show R.length = _ from hRl] at hre
  subst hre
  ((try (refine @unH _ ?_; refine zX y7_123 ?_)); (try (refine hK _ _ ?_; clear hK K; (try simp only [nq, ↓reduceIte, Nat.reduceEqDiff]))); refine @unH _ ?_; refine zA y7_123 ?_; (repeat (refine inC ?_; intro hc)); try (refine inK ?_; intro K hK))
  have hr := (show ∀ (d : Int) v' H', HaulIn H' { n with xs := n.xs.map (· + d) } v' -> SlI H' _ _ -> _ from hdr2) d ⟨.slice b1 m1 d1, .slice b2 m2 d2, .slice b3 m3 d3, .slice b4 n.xs.length d4⟩ H8 hx8 hp8
  simp only [] at hr
  refine hr.runs.mono ?_
  clear hr hdr2
  rintro _ H9 ⟨H90, sv, rfl, lH90, hrow⟩
  rw [show ridesG _ n.jobs mi pl bs0 0 = _ from (show ∀ d : Int, 0 <= d -> ridesG { n with xs := n.xs.map (· + d) } n.jobs mi pl bs0 0 = R.map (·.later d) from hrl) d hd0] at hrow
  have lH9 := Hp.le_trans lH90 hrow.1.toLe
  have hRm : (R.map (·.later d)).length = pl.length := by rw [List.length_map]; exact hRl
  have hS9 : RidesIn H9 sv (R.map (·.later d)) := RidesIn.row (by rw [hRm]; exact hrow)
  have hx9 := hx8.le lH9
  have ho9 := ho8.le lH9
  have vhb9 := lH9 _ _ vhb8
  have vxb9 := lH9 _ _ vxb8
  have hp9 := hp8.le lH9
  have hR9 := hR8.le lH9
  clear hx8 ho8 vhb8 vxb8 hp8 hR8 hrow lH9 lH90
  obtain ⟨ya, yc, hye, _, _⟩ := id hS9
  rw [hRm] at hye
  subst hye
  replace hRm : SameP _ := hRm
  ((try (refine @unH _ ?_; refine zX y7_123 ?_)); (try (refine hK _ _ ?_; clear hK K; (try simp only [nq, ↓reduceIte, Nat.reduceEqDiff]))); refine @unH _ ?_; refine zA y7_123 ?_; (repeat (refine inC ?_; intro hc)); try (refine inK ?_; intro K hK))
  have hr := (show ∀ H', HaulIn H' n _ -> SlI H' _ _ -> _ from hla) H9 ho9 hp9
  refine hr.runs.mono ?_
  clear hr hla
  rintro _ H10 ⟨lv, rfl, lH10, hl10⟩
  have hx10 := hx9.le lH10
  have vxb10 := lH10 _ _ vxb9
  have hp10 := hp9.le lH10
  have hR10 := hR9.le lH10
  have hS10 := hS9.le lH10
  clear hx9 ho9 vhb9 vxb9 hp9 hR9 hS9 lH10
  obtain ⟨la, ln, lc, rfl⟩ := hl10.isSlice
  ((try (refine @unH _ ?_; refine zX y7_123 ?_)); (try (refine hK _ _ ?_; clear hK K; (try simp only [nq, ↓reduceIte, Nat.reduceEqDiff]))); refine @unH _ ?_; refine zA y7_123 ?_; (repeat (refine inC ?_; intro hc)); try (refine inK ?_; intro K hK))
  have hr := (show ∀ (d : Int) v' H', HaulIn H' { n with xs := n.xs.map (· + d) } v' -> SlI H' _ _ -> _ from hla2) d ⟨.slice b1 m1 d1, .slice b2 m2 d2, .slice b3 m3 d3, .slice b4 n.xs.length d4⟩ H10 hx10 hp10
  simp only [] at hr
  refine hr.runs.mono ?_
  clear hr hla2
  rintro _ H11 ⟨mv, rfl, lH11, hm11⟩
  rw [show lateG _ n.jobs mi pl bs0 0 = _ from (show ∀ d : Int, 0 <= d -> lateG { n with xs := n.xs.map (· + d) } n.jobs mi pl bs0 0 = L from hll) d hd0] at hm11
  have hl11 := hl10.le lH11
  have hR11 := hR10.le lH11
  have hS11 := hS10.le lH11
  clear hx10 vxb10 hp10 hl10 hR10 hS10 lH11 hrl hll
  obtain ⟨ma, mn, mc, rfl⟩ := hm11.isSlice
  ((try (refine @unH _ ?_; refine zX y7_123 ?_)); (try (refine hK _ _ ?_; clear hK K; (try simp only [nq, ↓reduceIte, Nat.reduceEqDiff]))); refine @unH _ ?_; refine zA y7_123 ?_; (repeat (refine inC ?_; intro hc)); try (refine inK ?_; intro K hK))
  refine (likeInts_spec _ H11 _ _ L L hl11 hm11 hLl hLl).runs.mono ?_
  rintro _ HQ ⟨rfl, hHQ⟩; rw [hHQ]; clear hHQ HQ
  rw [show decide (L = L) = true by simp]
  ((try (refine @unH _ ?_; refine zX y7_123 ?_)); (try (refine hK _ _ ?_; clear hK K; (try simp only [nq, ↓reduceIte, Nat.reduceEqDiff]))); refine @unH _ ?_; refine zA y7_123 ?_; (repeat (refine inC ?_; intro hc)); try (refine inK ?_; intro K hK))
  refine wpX_loop (fun w a' H' => ∃ e, ∃ k : Nat, w = pl.length - k /\ k <= pl.length /\ a' = act 138 e [] /\ e 8 = .int .i64 d /\ e 11 = .slice ra pl.length rc /\ e 13 = .slice ya pl.length yc /\ e 19 = .int .i64 (k : Nat) /\ H' = H11) (n := pl.length) ?_ ?_
  ·exact ⟨_, 0, by omega, by omega, rfl, e8, rfl, rfl, rfl, by trivial⟩
  rintro w a' HQ ⟨e', k, rfl, hk, rfl, f8, f11, f13, f19, hHQ⟩
  rw [hHQ]; clear hHQ HQ e4 e6 e7 e8 e9 e10 hl11 hm11
  by_cases hlt : k < pl.length
  ·have hk1 : k < R.length := by have : R.length = pl.length := hRl; omega
   have hgr := List.getElem?_eq_getElem hk1
   obtain ⟨u1, u2, u3⟩ := (show ∀ (k : Nat) (r : RideV), R[k]? = some r -> -100 <= r.out /\ r.out <= 1000 /\ r.back = r.out + mi from hbd) k _ hgr
   have hgs : (R.map (·.later d))[k]? = some ((R[k]).later d) := by rw [List.getElem?_map, hgr]; rfl
   obtain ⟨q1, p1, k1, f1, rfl, hq1, hex1, hsz1, g0, g1, g2⟩ := RidesIn.get hR11 hgr
   obtain ⟨q2, p2, k2, f2, rfl, hq2, hex2, hsz2, _, _, _⟩ := RidesIn.get hS11 hgs
   clear hgr hgs hR11 hS11
   generalize R[k] = r at *
   obtain ⟨r0, r1, r2⟩ := r
   simp only [RideV.later] at u1 u2 u3 hex1 hex2 g0 g1 g2
   replace u3 : r2 <= r1 + mi /\ r1 + mi <= r2 := by omega
   have hi3 : 0 + k * 3 = k * 3 := by omega
   (refine @unH _ ?_; refine zA y7_123 ?_; (repeat (refine inC ?_; intro hc)); try (refine inK ?_; intro K hK))
   (refine wpX_dst1 25 [(true, 0), (true, 1), (true, 2), (true, 3), (true, 4), (true, 5), (true, 6), (true, 7), (true, 8), (true, 9), (true, 10), (true, 11), (true, 12), (true, 13), (true, 14), (true, 15), (true, 16), (true, 17), (true, 18), (true, 19), (true, 20), (true, 21), (true, 22), (true, 23), (true, 24)] (by kernel_rfl) (by kernel_rfl) (by simp) (by kernel_rfl) ?_; intro K hK; (iterate 25 (apply plan_take rfl rfl rfl; (focus (simp -implicitDefEqProofs (disch := first | omega | (simp only [qd] <;> omega)) only [xq, ↓xp, qc, Nat.reduceAdd, List.range, List.range.loop, fine, Nat.reduceEqDiff, ↓reduceIte, yielded, reduceCtorEq, Nat.reduceLT, Nat.reduceMul, Nat.reduceSub, one, Nat.reduceLeDiff, runX_cons, y7_123, aq, ↓ap, qe0, qe1, qe2, *, -hK, YN_value, bin_neq3 num3R, eqG_agg guardR, beq_self_eq_true, Bool.and_self, Bool.not_true] <;> (first | exact rfl | exact ⟨rfl, rfl⟩ | exact ⟨rfl, trivial⟩))); simp -implicitDefEqProofs (disch := first | omega | (simp only [qd] <;> omega)) only [act_put, act_put_none])); refine plan_nil (hK _ _ ?_); clear hK K)
   (try simp only [nq, ↓reduceIte, Nat.reduceEqDiff])
   (refine @unH _ ?_; refine zA y7_123 ?_; (repeat (refine inC ?_; intro hc)); try (refine inK ?_; intro K hK))
   refine ⟨_, by omega, _, k + 1, rfl, hlt, rfl, f8, f11, f13, rfl, by trivial⟩
  ·obtain rfl : k = pl.length := by omega
   (refine @unH _ ?_; refine zA y7_123 ?_; (repeat (refine inC ?_; intro hc)); try (refine inK ?_; intro K hK))
   refine (driven_spec H11).runs.mono ?_
   rintro _ H12 ⟨rfl, lH12⟩
   ((try (refine @unH _ ?_; refine zX y7_123 ?_)); (try (refine hK _ _ ?_; clear hK K; (try simp only [nq, ↓reduceIte, Nat.reduceEqDiff]))); refine @unH _ ?_; refine zA y7_123 ?_; (repeat (refine inC ?_; intro hc)); try (refine inK ?_; intro K hK))
   (refine wpX_ret ?_; (try simp only [nq, ↓reduceIte, Nat.reduceEqDiff]); rw [bodyX_ret, results_one Tryz.results7 (by decide)]; simp only [upd_get, Nat.reduceEqDiff, ↓reduceIte])
end Go.Proofs.YtofmadjgbcopdaaGreatDoor
end
section
namespace Go.Proofs.YtofmadjgbcopdaaGreatDoor
open Go Go.X Go.ChangeShapes Go.WideShapes Go.RowKit
set_option maxRecDepth 100000 in
theorem law_lifted (os : Os) (started : os.Started) (H : Type) (enc : TypeId × Value -> H) :
  ReturnsInLeavingWide {} Tryz.checked os 7 .any (fun w args => (Rows.barrowLaterSpec.pre enc Tryz.prog Tryz.f7 [] false w args /\ laidMetH Tryz.prog [("errors.errorType", Rows.laid_errors_errorType)] w) /\ sizedMet enc Tryz.prog Tryz.f7 (OpenSpec.ofChange Rows.barrowLaterSpec) false w args)
   (Rows.barrowLaterSpec.post enc Tryz.prog Tryz.f7 false true false false) := by
 refine leaving_of_change_and (C := Tryz.checked) (X := fun w _ => laidMetH Tryz.prog [("errors.errorType", Rows.laid_errors_errorType)] w) (fun _ _ _ hh h => h.of_heap hh) ownK started Tryz.func7
  (ChangeSpec.witness_at (enc := enc) (C := Tryz.checked) (os := os) (X := fun w _ => laidMetH Tryz.prog [("errors.errorType", Rows.laid_errors_errorType)] w) false (laidWorld os) #[.slice none 0 0] 8 rfl (by kernel_rfl) (by kernel_rfl) (by kernel_rfl) (by kernel_rfl) (by kernel_rfl) (laidWorld_met os _)) ?_
 intro W base args ds gs before hval0 hW hL
 have hval : ∀ (j : Nat) t v, Tryz.f7.params[j]? = some t -> args[j]? = some v -> Value.okWide Tryz.prog W .any base t v := hval0
 have hW' := hW
 obtain ⟨p, q, hA0, hV0, rfl, hfz, hnd⟩ := hW
 have hA : DataW.TrodAll enc Tryz.prog W 0 (fun _ => true) true Tryz.f7.params.toList args.toList ds p := hA0
 have hV : DataW.TrodVars enc Tryz.prog W (fun _ => true) [] gs q := hV0
 rw [Tryz.params7] at hA hval
 obtain ⟨v0, d0, rfl, rfl, h0⟩ := trodAll_one hA
 obtain ⟨a0, len, cap, rfl⟩ := okWide_slice Tryz.underlying22 (hval 0 22 v0 rfl rfl)
 have h0k := h0
 obtain ⟨fuel, hf⟩ := h0
 obtain ⟨rfl, rfl⟩ : gs = [] /\ q = [] := by
  cases gs with
  | nil => exact ⟨rfl, hV⟩
  | cons g r => exact absurd hV (by intro h; cases h)
 have e1 : Rows.barrowLaterSpec.fn H ([d0] ++ []) = { results := [.lit (.bool true)], args := [d0] } := by simp [Rows.barrowLaterSpec]
 have hcells : ∀ i : Nat, i < len -> ∃ sb so c e fr x, a0 = some ⟨sb, so, none⟩ /\ allShared W sb = some (false, .cells c e fr) /\ c[so + i]? = some (.int .i64 x) := by
  rcases open_ints Tryz.underlying22 Tryz.underlying3 cellsK hf with ⟨hcs, _⟩ | ⟨a, len', cap', zs, hcs, _, hl, hm, hz, hx, hcell, hwz⟩
  ·simp [Value.cells] at hcs
   intro i hi
   omega
  ·simp [Value.cells] at hcs
   obtain ⟨rfl, rfl, rfl⟩ := hcs
   intro i hi
   simp only [if_true] at hz
   have hc := hcell i (by omega)
   obtain ⟨b, off, spot⟩ := a
   have hspot : spot = none := by simpa [Addr.add] using World.cell?_spot (hcell 0 (by omega))
   subst hspot
   rw [add_plain] at hc
   unfold World.cell? at hc
   split at hc
   ·rename_i c e fr hb
    exact ⟨b, off, c, e, fr, _, rfl, by simp [allShared, hb], by simpa using hc⟩
   ·cases hc
 have hlt : ∀ x ∈ p, x.block < W.heap.size := fun x hx => by simpa using hW'.lt x (by simpa using hx)
 obtain ⟨N, last, o, w', t', r1, r2, r3, v, hv, ⟨rfl, hB⟩, r4⟩ := (blater_spec (allShared W) a0 len cap hcells).good Tryz.func7 (results_tmp Tryz.results7 _) (by kernel_rfl)
 refine ⟨N, last, o, w', t', r1, r2, r3, _, hv, ?_, r4⟩
 have hb := hB.below
 refine ⟨_, _, _, [], p, [], hW', ?_, ?_, ?_, hB.kept _, fun h => by cases h⟩
 ·rw [e1]; exact trodAll_mk1 (shut_bool Tryz.underlying4 true)
 ·rw [e1]
  have t := trodAll_mk1 (DataW.Trod.of_heap (w := { w' with tape := W.tape }) (w' := w') rfl (Below.trod laidOutK (by kernel_rfl) (of_decide_eq_true (by kernel_rfl)) h0k hb hlt))
  exact t
 ·rw [e1]; rfl
end Go.Proofs.YtofmadjgbcopdaaGreatDoor
end
section
namespace Go.Proofs.YtofmadjgbcopdaaGreatDoor
open Go Go.X Go.ChangeShapes Go.WideShapes Go.RowKit
theorem jEnter : Program.mayEnter Tryz.pinned.checked.prog = true := factEnter
theorem jLift : (Rows.barrowLaterRow.lifted == Program.liftsFinal Tryz.pinned.checked.prog) = true := by rw [show Program.liftsFinal Tryz.pinned.checked.prog = Rows.barrowLaterRow.lifted from factLift]; exact beq_self_eq_true _
theorem jMake : (Program.make Tryz.pinned.checked.prog == some Rows.barrowLaterRow.make) = true := by rw [show Program.make Tryz.pinned.checked.prog = some Rows.barrowLaterRow.make from factMake]; exact beq_self_eq_true _
set_option maxRecDepth 100000 in
theorem jf : joinedFacts Tryz.pinned.checked.prog 7 Tryz.f7 Rows.barrowLaterSpec Rows.barrowLaterRow = true := by
 unfold joinedFacts
 simp only [jEnter, jLift, jMake, Bool.and_true]
 kernel_rfl
set_option maxRecDepth 100000 in
theorem barrowLater_said : Rows.BarrowLaterSaid :=
 OpenClaim.holds_of_wide_leaving 7 Tryz.f7 rfl rfl rfl rfl rfl rfl rfl ⟨rfl, rfl, rfl, rfl, rfl⟩ rfl rfl rfl rfl rfl (by kernel_rfl) Tryz.func7 jf
  (of_decide_eq_true (by kernel_rfl)) (by unfold Func.isWrapper; rw [if_neg (of_decide_eq_false (by kernel_rfl))]; exact ⟨rfl, rfl⟩)
  (fun os started H enc _ => law_lifted os started H enc)
end Go.Proofs.YtofmadjgbcopdaaGreatDoor
end
