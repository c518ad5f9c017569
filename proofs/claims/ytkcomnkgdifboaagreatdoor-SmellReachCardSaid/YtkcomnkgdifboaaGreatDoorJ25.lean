/- Texts PlanG SmKs SmRq LSReach PSmellReach SSmellReach. -/
import Derived.Test.YtkcomnkgdifboaaGreatDoorJ24
import Derived.Test.YtkcomnkgdifboaaGreatDoorAFactA
import Derived.Test.YtkcomnkgdifboaaGreatDoorAFactSB
import Derived.Test.YtkcomnkgdifboaaGreatDoorAFactSC
set_option linter.defProp false
set_option linter.unusedSimpArgs false
set_option linter.unusedVariables false
set_option maxRecDepth 100000
set_option maxHeartbeats 2000000
section
namespace Go.X
open Go
section
variable {P : Program} {main : Md} {lp : Option Nat} {Q : Exit -> Act -> Hp -> Prop} {l : List Oper} {n : Nat} {e0 : Nat -> Value} {ds : List Deferred} {Φ : Nat -> Value -> Hp -> Prop} {H0 : Hp}
def depB (l : List Oper) (i k t : Nat) : Bool := match l[k]? with
 | none => false
 | some o => o.dst == some t && k != i && (waitsFor l.toArray i).getD k false
def nodB (l : List Oper) (t : Nat) : Bool := l.all fun o => o.dst != some t
def growG (P : Program) (main : Md) (lp : Option Nat) (Q : Exit -> Act -> Hp -> Prop) (l : List Oper) (n : Nat) (e0 : Nat -> Value) (ds : List Deferred) (Φ : Nat -> Value -> Hp -> Prop) (H0 : Hp) (i : Nat) (o : Oper) (K : (Nat -> Value) -> Hp -> Act -> Hp -> Prop) : Prop :=
 ∀ e H, H0.le H -> (∀ t, nodB l t = true -> e t = e0 t) -> (∀ k t, depB l i k t = true -> Φ k (e t) H) -> fine lp o = true /\ opX P main lp o (act n e ds) H (K e H) Q
def growOK (l : List Oper) (n : Nat) : Bool :=
 (l.length != 0) && (List.range l.length).all fun i => match l[i]? with
 | none => true
 | some o => o.guard.isNone && (match o.dst with | none => true | some t => decide (t < n)) && (o.after.all fun e => !(Region.binds .any e) || decide (e.on < i)) && (i + 1 == l.length || (waitsFor l.toArray (l.length - 1)).getD i false) &&
  (List.range l.length).all fun k => k == i || (match l[k]? with | none => true | some o' => o.dst.isNone || o'.dst != o.dst)
structure GrowOK (l : List Oper) (n : Nat) : Prop where
 ne : l.length ≠ 0
 guard : ∀ (i : Nat) (o : Oper), l[i]? = some o -> o.guard = none
 dst : ∀ (i : Nat) (o : Oper) (t : Tmp), l[i]? = some o -> o.dst = some t -> t < n
 aft : ∀ (i : Nat) (o : Oper), l[i]? = some o -> ∀ e ∈ o.after, Region.binds .any e = true -> e.on < i
 last : ∀ i, i + 1 < l.length -> (waitsFor l.toArray (l.length - 1)).getD i false = true
 apart : ∀ (i k : Nat) (o o' : Oper) (t : Tmp), l[i]? = some o -> l[k]? = some o' -> k ≠ i -> o.dst = some t -> o'.dst ≠ some t
theorem growOK_spec (h : growOK l n = true) : GrowOK l n := by
 unfold growOK at h
 simp only [Bool.and_eq_true, bne_iff_ne, ne_eq] at h
 obtain ⟨h0, h⟩ := h
 have h1 : ∀ (i : Nat) (o : Oper), l[i]? = some o -> _ := fun i o hi => by
  have := List.all_eq_true.1 h i (List.mem_range.2 (List.getElem?_eq_some_iff.1 hi).1)
  rw [hi] at this
  simp only [Bool.and_eq_true] at this
  exact this
 refine ⟨h0, fun i o hi => by simpa using (h1 i o hi).1.1.1.1, fun i o t hi hd => ?_, fun i o hi e he hb => ?_, fun i hi => ?_, fun i k o o' t hi hk hne hd hd' => ?_⟩
 ·have := (h1 i o hi).1.1.1.2
  rw [hd] at this
  simpa using this
 ·have := (h1 i o hi).1.1.2
  rw [Array.all_eq_true_iff_forall_mem] at this
  have := this e he
  rw [hb] at this
  simpa using this
 ·have := (h1 i _ (List.getElem?_eq_getElem (by omega))).1.2
  simp only [Bool.or_eq_true, beq_iff_eq] at this
  exact this.resolve_left (by omega)
 ·have := List.all_eq_true.1 (h1 i o hi).2 k (List.mem_range.2 (List.getElem?_eq_some_iff.1 hk).1)
  rw [hk, hd] at this
  simp [hne, hd'] at this
structure GrowI (l : List Oper) (n : Nat) (e0 : Nat -> Value) (ds : List Deferred) (Φ : Nat -> Value -> Hp -> Prop) (H0 : Hp) (listed : Array Bool) (a : Act) (H : Hp) : Prop where
 le : H0.le H
 env : ∃ e, a = act n e ds /\ (∀ t, nodB l t = true -> e t = e0 t) /\ ∀ (k : Nat) (o : Oper) (t : Tmp), l[k]? = some o -> o.dst = some t -> listed.getD k false = true -> Φ k (e t) H
theorem growG.num {i : Nat} {o : Oper} {K : (Nat -> Value) -> Hp -> Act -> Hp -> Prop} (h : growG P main lp Q l n e0 ds Φ H0 i o K) (hi : l[i]? = some o) (hg : o.guard = none) {listed : Array Bool} (hc : Closed l.toArray listed) (hr : i ∈ Region.ready .any l.toArray listed) {e : Nat -> Value} {H : Hp} (hle : H0.le H) (he : ∀ t, nodB l t = true -> e t = e0 t) (hf : ∀ (k : Nat) (o : Oper) (t : Tmp), l[k]? = some o -> o.dst = some t -> listed.getD k false = true -> Φ k (e t) H) :
  numX P main lp l.toArray i Q (K e H) (act n e ds) H := by
 rw [Bqz]
 have hw : Region.wanted o (yielded l.toArray (act n e ds).tmps) = true := by unfold Region.wanted; rw [hg]
 simp only [List.getElem?_toArray, hi, hw, if_true]
 refine h e H hle he fun k t hk => ?_
 unfold depB at hk
 cases ho : l[k]? with
 | none => rw [ho] at hk; cases hk
 | some ok =>
  rw [ho] at hk
  simp only [Bool.and_eq_true, beq_iff_eq, bne_iff_ne, ne_eq] at hk
  exact hf k ok t ho hk.1.1 (((Bxk hk.2).resolve_left hk.1.2).listed hc hr)
theorem grow_any (hst : ∀ k v H H', Φ k v H -> H.le H' -> Φ k v H') (ok : GrowOK l n)
  (hs : ∀ (i : Nat) (o : Oper), l[i]? = some o -> i + 1 < l.length -> growG P main lp Q l n e0 ds Φ H0 i o fun e H a' H' => H.le H' /\ ∃ v, a' = (act n e ds).put o.dst v /\ Φ i v H')
  (hl : ∀ o, l[l.length - 1]? = some o -> growG P main lp Q l n e0 ds Φ H0 (l.length - 1) o fun _ _ a' H' => Q .normal a' H') :
  ∀ (fuel : Nat) (listed : Array Bool) (a : Act) (H : Hp), listed.size = l.length -> listed.toList.count false <= fuel -> Closed l.toArray listed ->
   ((listed.getD (l.length - 1) false = false /\ GrowI l n e0 ds Φ H0 listed a H) ∨ ((∀ k, k < l.length -> listed.getD k false = true) /\ Q .normal a H)) -> anyX P main lp l.toArray Q (fun _ => True) fuel listed a H := by
 have hall : ∀ listed : Array Bool, (∀ k, k < l.length -> listed.getD k false = true) -> listed.size = l.length -> Region.ready .any l.toArray listed = [] := fun listed h hsz => by
  cases hr : Region.ready .any l.toArray listed with
  | nil => rfl
  | cons i r =>
   obtain ⟨h1, o, ho, _⟩ := mem_ready.1 (show i ∈ Region.ready .any l.toArray listed by rw [hr]; exact List.mem_cons_self)
   rw [List.getElem?_toArray] at ho
   have hlt := (List.getElem?_eq_some_iff.1 ho).1
   have := h i hlt
   simp [Array.getD, hsz, hlt] at h1 this
   rw [this] at h1
   cases h1
 have hlive : ∀ listed : Array Bool, listed.size = l.length -> listed.getD (l.length - 1) false = false -> Region.ready .any l.toArray listed ≠ [] := fun listed hsz hlast => by
  have key : ∀ m i, i < m -> i < l.length -> listed.getD i false = false -> ∃ j, j ∈ Region.ready .any l.toArray listed := by
   intro m
   induction m with
   | zero => intro i hi; omega
   | succ m ih =>
    intro i hi hil hun
    by_cases hex : ∃ j, j < i /\ listed.getD j false = false
    ·obtain ⟨j, hj, hju⟩ := hex
     exact ih j (by omega) (by omega) hju
    ·refine ⟨i, mem_ready.2 ⟨?_, l[i], by simp [hil], fun e he hb => ?_⟩⟩
     ·simpa [Array.getD, hsz, hil] using hun
     ·have := ok.aft i _ (List.getElem?_eq_getElem hil) e he hb
      cases hq : listed.getD e.on false with
      | true => rfl
      | false => exact absurd ⟨_, this, hq⟩ hex
  obtain ⟨j, hj⟩ := key l.length (l.length - 1) (by have := ok.ne; omega) (by have := ok.ne; omega) hlast
  intro h0
  rw [h0] at hj
  cases hj
 intro fuel
 induction fuel with
 | zero =>
  intro listed a H hsz hcnt hcl hI
  rcases hI with ⟨hlast, _⟩ | ⟨h, hq⟩
  ·exfalso
   have h0 : l.length - 1 < listed.toList.length := by have := ok.ne; simp [hsz]; omega
   have h1 : false ∈ listed.toList := by
    have h2 : listed.toList[l.length - 1] = false := by
     have h3 : l.length - 1 < listed.size := by simpa using h0
     simpa [Array.getD, h3] using hlast
    rw [<- h2]
    exact List.getElem_mem h0
   have := List.count_pos_iff.2 h1
   omega
  ·exact ⟨hall listed h hsz, hq⟩
 | succ fuel ih =>
  intro listed a H hsz hcnt hcl hI
  rcases hI with ⟨hlast, hG⟩ | ⟨h, hq⟩
  ·refine ⟨fun h0 => absurd h0 (hlive listed hsz hlast), fun i hi => ?_⟩
   obtain ⟨h1, o, ho, hdeps⟩ := mem_ready.1 hi
   rw [List.getElem?_toArray] at ho
   have hlt := (List.getElem?_eq_some_iff.1 ho).1
   have hsz' : (listed.setIfInBounds i true).size = l.length := by simp [hsz]
   have hcnt' : (listed.setIfInBounds i true).toList.count false <= fuel := by
    have h2 : i < listed.toList.length := by simpa [hsz] using hlt
    have h3 : listed.toList[i] = false := by
     have h4 : i < listed.size := by simpa using h2
     simpa [Array.getD, h4] using h1
    rw [Array.toList_setIfInBounds, List.count_set h2, h3]
    simp only [beq_self_eq_true, if_true]
    have := List.count_pos_iff.2 (show false ∈ listed.toList by rw [<- h3]; exact List.getElem_mem h2)
    simp only [Bool.true_eq_false, beq_iff_eq, if_false, Nat.add_zero]
    omega
   obtain ⟨hle, e, rfl, he, hf⟩ := hG
   by_cases hil : i + 1 < l.length
   ·refine Axy (fun a' H' h' => ⟨trivial, ih _ a' H' hsz' hcnt' (hcl.set hi) (.inl ⟨?_, ?_⟩)⟩) ((hs i o ho hil).num ho (ok.guard i o ho) hcl hi hle he hf)
    ·rw [getD_set_ne false (by omega)]
     exact hlast
    ·obtain ⟨hle', v, rfl, hv⟩ := h'
     refine ⟨fun x u hx => hle' _ _ (hle _ _ hx), ?_⟩
     cases hd : o.dst with
     | none =>
      refine ⟨e, rfl, he, fun k ok' t hk hdk hlk => ?_⟩
      by_cases hki : k = i
      ·subst hki
       rw [ho] at hk
       cases hk
       rw [hd] at hdk
       cases hdk
      ·rw [getD_set_ne false (Ne.symm hki)] at hlk
       exact hst _ _ _ _ (hf k ok' t hk hdk hlk) hle'
     | some t0 =>
      refine ⟨upd e t0 v, by rw [Aq3 (ok.dst i o t0 ho hd)], fun t ht => ?_, fun k ok' t hk hdk hlk => ?_⟩
      ·have hne : t ≠ t0 := by
        rintro rfl
        have := List.all_eq_true.1 ht o (List.mem_of_getElem? ho)
        simp [hd] at this
       rw [Axl, if_neg hne]
       exact he t ht
      ·by_cases hki : k = i
       ·subst hki
        rw [ho] at hk
        cases hk
        rw [hd] at hdk
        cases hdk
        rw [Axl, if_pos rfl]
        exact hv
       ·rw [getD_set_ne false (Ne.symm hki)] at hlk
        have hne : t ≠ t0 := by
         rintro rfl
         exact ok.apart i k o ok' t ho hk hki hd hdk
        rw [Axl, if_neg hne]
        exact hst _ _ _ _ (hf k ok' t hk hdk hlk) hle'
   ·obtain rfl : i = l.length - 1 := by omega
    refine Axy (fun a' H' h' => ⟨trivial, ih _ a' H' hsz' hcnt' (hcl.set hi) (.inr ⟨fun k hk => ?_, h'⟩)⟩) ((hl o ho).num ho (ok.guard _ o ho) hcl hi hle he hf)
    by_cases hkl : k = l.length - 1
    ·subst hkl
     simp [Array.getD, hsz, hk]
    ·rw [getD_set_ne false (Ne.symm hkl)]
     exact ((Bxk (ok.last k (by omega))).resolve_left hkl).listed hcl hi
  ·refine ⟨fun _ => hq, fun i hi => ?_⟩
   rw [hall listed h hsz] at hi
   cases hi
def growAll (P : Program) (main : Md) (lp : Option Nat) (Q : Exit -> Act -> Hp -> Prop) (l : List Oper) (n : Nat) (e0 : Nat -> Value) (ds : List Deferred) (Φ : Nat -> Value -> Hp -> Prop) (H0 : Hp) : List Oper -> Nat -> Prop
 | [], _ => True
 | [o], i => growG P main lp Q l n e0 ds Φ H0 i o fun _ _ a' H' => Q .normal a' H'
 | o :: o' :: r, i => growG P main lp Q l n e0 ds Φ H0 i o (fun e H a' H' => H.le H' /\ ∃ v, a' = (act n e ds).put o.dst v /\ Φ i v H') /\ growAll P main lp Q l n e0 ds Φ H0 (o' :: r) (i + 1)
theorem growAll_cons {o o' : Oper} {r : List Oper} {i : Nat} (h : growG P main lp Q l n e0 ds Φ H0 i o (fun e H a' H' => H.le H' /\ ∃ v, a' = (act n e ds).put o.dst v /\ Φ i v H')) (h' : growAll P main lp Q l n e0 ds Φ H0 (o' :: r) (i + 1)) : growAll P main lp Q l n e0 ds Φ H0 (o :: o' :: r) i := ⟨h, h'⟩
theorem growAll_one {o : Oper} {i : Nat} (h : growG P main lp Q l n e0 ds Φ H0 i o fun _ _ a' H' => Q .normal a' H') : growAll P main lp Q l n e0 ds Φ H0 [o] i := h
theorem growAll_get : ∀ (r : List Oper) (s : Nat), growAll P main lp Q l n e0 ds Φ H0 r s -> (∀ (i : Nat) (o : Oper), r[i]? = some o -> i + 1 < r.length -> growG P main lp Q l n e0 ds Φ H0 (s + i) o fun e H a' H' => H.le H' /\ ∃ v, a' = (act n e ds).put o.dst v /\ Φ (s + i) v H') /\
  ∀ o, r[r.length - 1]? = some o -> growG P main lp Q l n e0 ds Φ H0 (s + (r.length - 1)) o fun _ _ a' H' => Q .normal a' H'
 | [], _, _ => ⟨fun i o hi => by simp at hi, fun o hi => by simp at hi⟩
 | [o], s, h => ⟨fun i o hi hl => by simp at hl, fun o' ho => by
   simp at ho
   subst ho
   exact h⟩
 | o :: o' :: r, s, h => by
  have ih := growAll_get (o' :: r) (s + 1) h.2
  refine ⟨fun i x hi hl => ?_, fun x hx => ?_⟩
  ·cases i with
   | zero =>
    simp only [List.getElem?_cons_zero, Option.some.injEq] at hi
    subst hi
    exact h.1
   | succ i =>
    have := ih.1 i x (by simpa using hi) (by simpa using hl)
    rw [show s + (i + 1) = s + 1 + i by omega]
    exact this
  ·have := ih.2 x (by simpa using hx)
   rw [show s + ((o :: o' :: r).length - 1) = s + 1 + ((o' :: r).length - 1) by simp; omega]
   exact this
theorem wpX_grow {id : Nat} (Φ : Nat -> Value -> Hp -> Prop) (hm : P.follows .mixedOrders = true) (hok : growOK l n = true) (hst : ∀ k v H H', Φ k v H -> H.le H' -> Φ k v H')
  (h : growAll P main lp Q l n e0 ds Φ H0 l 0) : wpX P main lp (.region id l.toArray true) Q (act n e0 ds) H0 := by
 have ok := growOK_spec hok
 have hg := growAll_get l 0 h
 refine Bvo (fun _ => True) hm (grow_any hst ok (fun i o hi hl => by simpa using hg.1 i o hi hl) (fun o ho => by simpa using hg.2 o ho) _ _ _ _ ?_ ?_ .start (.inl ⟨?_, Hp.le_refl _, e0, rfl, fun _ _ => rfl, fun k o t hk hd hl => ?_⟩))
 ·simp
 ·simp
 ·simp [Array.getD]
 ·exfalso
  by_cases hk2 : k < l.length <;> simp [Array.getD, hk2] at hl
theorem wpX_gstmt {id : Nat} {y : Code} (Φ : Nat -> Value -> Hp -> Prop) (hm : P.follows .mixedOrders = true) (hok : growOK l n = true) (hst : ∀ k v H H', Φ k v H -> H.le H' -> Φ k v H')
  (h : ∀ K : Act -> Hp -> Prop, (∀ a' H', wpX P main lp y Q a' H' -> K a' H') -> growAll P main lp (only K) l n e0 ds Φ H0 l 0) : wpX P main lp (.seq (.region id l.toArray true) y) Q (act n e0 ds) H0 := by
 refine Axs ?_
 refine Az6 (Q := only fun a' H' => wpX P main lp y Q a' H') (wpX_grow Φ hm hok hst (h _ fun _ _ h => h)) fun e a H q => ?_
 cases e <;> first | exact q | exact q.elim
end
end Go.X
end
section
namespace Go.Proofs.YtkcomnkgdifboaaGreatDoor
open Go Go.X
def y11_152 := And.intro (fun H => Aqv (H := H) (P := Tryz.prog) (h := Tryz.zeroValue28)) (And.intro (fun H => Aqd (H := H) Tryz.underlying28 (i := 0) rfl (off := 0) rfl Tryz.sizeOf3) (And.intro (fun H => Aqg (H := H) Tryz.underlying3 rfl) (And.intro (fun H => Aqd (H := H) Tryz.underlying28 (i := 1) rfl (off := 1) rfl Tryz.sizeOf25) (And.intro (fun H => Aqg (H := H) Tryz.underlying25 rfl) (And.intro (fun H => Aqd (H := H) Tryz.underlying28 (i := 2) rfl (off := 2) rfl Tryz.sizeOf22) (And.intro (fun H => Aqg (H := H) Tryz.underlying22 rfl) (And.intro @Dzn (And.intro (fun H => Aqd (H := H) Tryz.underlying28 (i := 3) rfl (off := 3) rfl Tryz.sizeOf26) (And.intro (fun H => Aqg (H := H) Tryz.underlying26 rfl) (And.intro @Bxm (fun H => Aqs (H := H) Tryz.sizeOf28)))))))))))
theorem snBand {H : Hp} (a b c d : Int) (K : Value -> Hp -> Prop) (E : Value -> Hp -> Prop) :
 wpS Tryz.prog (binOp .neq 33 (.agg #[.int .i64 a, .int .i64 b]) (.agg #[.int .i64 c, .int .i64 d])) H K E = K (.bool !(a == c && b == d)) H := sbin_neq2 Dq9 a b c d K E
theorem snBandE {H : Hp} (a b : Int) (K : Value -> Hp -> Prop) (E : Value -> Hp -> Prop) :
  wpS Tryz.prog (binOp .neq 33 (.agg #[.int .i64 a, .int .i64 b]) (.agg #[.int .i64 a, .int .i64 b])) H K E = K (.bool false) H := by
 rw [snBand]
 simp
theorem append_newG {P : Program} {tt e : TypeId} {sz : Nat} {z : Value} {inf : TypeInfo} (hsz : 0 < sz) (hu : P.underlying tt = some (.slice e)) (hs : ∀ w, (sizeOf e).run P w = .ok sz w) (hz : ∀ w, (zeroValue e).run P w = .ok z w) (hzc : z.cells.size = sz)
  (hi : ∀ w, (typeInfo e).run P w = .ok inf w) (hby : inf.bytes <= 1024) (hby0 : 0 < inf.bytes) {H : Hp} {b : Nat} (hb : H b = some (true, .cells #[] e (0, 0))) {rows : List (List Value)} {g : Option Addr} {m cap : Nat} (h2 : SlG e sz H (.slice g m cap) rows) (hn : m <= 1000000)
  (ty : TypeId) (cb : Array Bool) (K : Next -> Hp -> Prop) (E : Value -> Hp -> Prop) (h : ∀ v' H', RowG e sz H' v' rows -> H.le H' -> (∀ x, rowB v' = some x -> x = b ∨ H x = none) -> K (.value v') H') :
  wpS P (builtin .append #[tt, tt] ty cb #[.slice (some ⟨b, 0, none⟩) 0 0, .slice g m cap]) H K E := by
 have hl2 := h2.len.1
 refine Bv1 hsz hu hs hz hzc hi hby hby0 ((RowG.new0 (sz := sz) hb).slG hsz) h2 (by omega) ty cb K E (fun e => h _ H (by rw [e]; exact RowG.new0 hb) (Hp.le_refl _) fun x hx => .inl ?_) fun b' C N hb' _ hN hC hall hget => h _ _ ⟨⟨(fun _ _ h => by cases h), .inr ⟨b', C, N, rfl, Axe, by rw [Nat.zero_add, hl2], hC, by omega, ?_, ?_⟩⟩, by simpa using hall⟩ (Hp.le_set hb') fun x hx => .inr ?_
 ·simp only [rowB, Option.some.injEq] at hx
  exact hx.symm
 ·have hr : ∀ r ∈ rows, (id r : List Value).length = sz := fun r hr => hall r (by simpa using hr)
  rw [Avn id sz rows hr]
 ·simpa using hget
 ·simp only [rowB, Option.some.injEq] at hx
  rw [<- hx]
  exact hb'
theorem rowX_G {H0 H : Hp} {v : Value} {xs : List Int} (h : RowX none H0 H v 3 (ints xs)) : RowG 3 1 H v (int1 xs) /\ ∀ x, rowB v = some x -> H0 x = none := by
 have hf : (int1 xs).flatMap id = ints xs := by
  unfold int1 ints
  clear h
  induction xs with
  | nil => rfl
  | cons x xs ih => simp_all [List.flatMap_cons]
 have hl : (int1 xs).length = xs.length := by simp [int1]
 have hr : ∀ r ∈ int1 xs, r.length = 1 := fun r hr => by
  obtain ⟨x, _, rfl⟩ := List.mem_map.1 hr
  rfl
 rcases h.2 with ⟨rfl, h0⟩ | ⟨b, c, cap, h0, hb, rfl, h1, h2, h3⟩
 ·have : xs = [] := by cases xs with | nil => rfl | cons x l => simp [ints] at h0
  subst this
  exact ⟨RowG.nil, fun x hx => by cases hx⟩
 ·have hi : (ints xs).length = xs.length := Aqz xs
  rw [hi] at h2 ⊢
  refine ⟨⟨⟨(fun _ _ h => by cases h), .inr ⟨b, c, cap, rfl, hb, by rw [hl], by omega, by omega, by rw [hf, hi, hl, Nat.mul_one], by rw [hf]; exact h3⟩⟩, hr⟩, fun x hx => ?_⟩
  simp only [rowB, Option.some.injEq] at hx
  rw [<- hx]
  exact h0
structure SmRow (H0 H : Hp) (dv hv nv : Value) (s : Sm) : Prop where
 dd : RowG 35 4 H dv (s.doors.map Bjh)
 hh : RowG 3 1 H hv (int1 s.hampers)
 nn : RowG 49 3 H nv (s.noses.map Bk9)
 dn : ∀ x, rowB dv = some x -> H0 x = none
 hn : ∀ x, rowB hv = some x -> H0 x = none
 nw : ∀ x, rowB nv = some x -> H0 x = none
theorem SmRow.smIn {H0 H : Hp} {dv hv nv : Value} {s : Sm} (h : SmRow H0 H dv hv nv s) : SmIn H dv hv nv s := ⟨h.dd.slG (by decide), SlG.ints1 (h.hh.slG (by decide)), h.nn.slG (by decide)⟩
theorem RowG.le {e : TypeId} {sz : Nat} {H H' : Hp} {v : Value} {rows : List (List Value)} (h : RowG e sz H v rows) (hl : H.le H') : RowG e sz H' v rows := h.keep fun x u _ hu => hl _ _ hu
theorem SmRow.le {H0 H H' : Hp} {dv hv nv : Value} {s : Sm} (h : SmRow H0 H dv hv nv s) (hl : H.le H') : SmRow H0 H' dv hv nv s := ⟨h.dd.le hl, h.hh.le hl, h.nn.le hl, h.dn, h.hn, h.nw⟩
theorem RowG.put {e : TypeId} {sz : Nat} {H : Hp} {v : Value} {rows : List (List Value)} (h : RowG e sz H v rows) {b : Nat} {q : Bool} {c : Array Value} {t : TypeId} {fr : Nat × Nat} (hb : H b = some (q, .cells c t fr)) (hne : e ≠ t) (o : Obj) : RowG e sz (H.set b o) v rows := h.keep fun x u hx hu => by
 rw [Aqx (h.bound hx hb fun c' hc => by simp only [Obj.cells.injEq] at hc; exact hne hc.2.1.symm)]
 exact hu
theorem SmRow.put {H0 H : Hp} {dv hv nv : Value} {s : Sm} (h : SmRow H0 H dv hv nv s) {b : Nat} {q : Bool} {c : Array Value} {fr : Nat × Nat} (hb : H b = some (q, .cells c 28 fr)) {o : Obj} : SmRow H0 (H.set b o) dv hv nv s := ⟨h.dd.put hb (by decide) o, h.hh.put hb (by decide) o, h.nn.put hb (by decide) o, h.dn, h.hn, h.nw⟩
theorem SmIn.put {H : Hp} {dv hv nv : Value} {s : Sm} (h : SmIn H dv hv nv s) {b : Nat} {q : Bool} {c : Array Value} {fr : Nat × Nat} (hb : H b = some (q, .cells c 28 fr)) (o : Array Value) : SmIn (H.set b (.cells o 28 (0, 0))) dv hv nv s := ⟨SlG.put h.dd hb (by decide) _, SlI.put h.hh hb (by decide) _, SlG.put h.nn hb (by decide) _⟩
theorem SmIn.lexT {H H' : Hp} {dv hv nv : Value} {s : Sm} (h : SmIn H dv hv nv s) {b k : Nat} (hT : TinI H b k) (hl : Lex (some b) H H') : SmIn H' dv hv nv s := ⟨SlG.lexT h.dd hT (by decide) hl, h.hh.lex hl hT, SlG.lexT h.nn hT (by decide) hl⟩
theorem SmRow.lexT {H0 H H' : Hp} {dv hv nv : Value} {s : Sm} (h : SmRow H0 H dv hv nv s) {b k : Nat} (hT : TinI H b k) (hl : Lex (some b) H H') : SmRow H0 H' dv hv nv s := ⟨h.dd.lexT hT (by decide) hl, h.hh.lexT hT (by decide) hl, h.nn.lexT hT (by decide) hl, h.dn, h.hn, h.nw⟩
theorem RowG.other {e e' : TypeId} {sz sz' : Nat} {H H' : Hp} {v v' : Value} {rows rows' : List (List Value)} (h : RowG e sz H v rows) (h' : RowG e' sz' H v' rows') (he : e ≠ e') (hk : ∀ x u, H x = some u -> rowB v ≠ some x -> H' x = some u) : RowG e' sz' H' v' rows' := h'.keep fun x u hx hu => hk x u hu fun hv => by
 obtain ⟨c, hc⟩ := h.cell hv
 exact h'.bound hx hc (fun c' hc' => by simp only [Obj.cells.injEq] at hc'; exact he hc'.2.1) rfl
def ksΦ (H0 : Hp) (sb : Nat) (s : Sm) (dv hv nv : Value) : Nat -> Value -> Hp -> Prop
 | 0 => fun v _ => v = .pointer (some ⟨sb, 0, none⟩)
 | 1 => fun v _ => v = .int .i64 s.places
 | 2 => fun v H => ∃ b, v = .slice (some ⟨b, 0, none⟩) 0 0 /\ H b = some (true, .cells #[] 35 (0, 0)) /\ H0 b = none
 | 3 => fun v _ => v = .pointer (some ⟨sb, 1, none⟩)
 | 4 => fun v _ => v = dv
 | 5 => fun v H => RowG 35 4 H v (s.doors.map Bjh) /\ ∀ x, rowB v = some x -> H0 x = none
 | 6 => fun v _ => v = .pointer (some ⟨sb, 2, none⟩)
 | 7 => fun v _ => v = hv
 | 8 => fun v H => RowG 3 1 H v (int1 s.hampers) /\ ∀ x, rowB v = some x -> H0 x = none
 | 9 => fun v H => ∃ b, v = .slice (some ⟨b, 0, none⟩) 0 0 /\ H b = some (true, .cells #[] 49 (0, 0)) /\ H0 b = none
 | 10 => fun v _ => v = .pointer (some ⟨sb, 3, none⟩)
 | 11 => fun v _ => v = nv
 | 12 => fun v H => RowG 49 3 H v (s.noses.map Bk9) /\ ∀ x, rowB v = some x -> H0 x = none
 | 13 => fun v H => ∃ dv' hv' nv', v = smV s.places dv' hv' nv' /\ SmRow H0 H dv' hv' nv' s
 | _ => fun _ _ => True
theorem ksΦ_le {H0 : Hp} {sb : Nat} {s : Sm} {dv hv nv : Value} : ∀ (k : Nat) (v : Value) (H H' : Hp), ksΦ H0 sb s dv hv nv k v H -> H.le H' -> ksΦ H0 sb s dv hv nv k v H'
 | 0, _, _, _, h, _ | 1, _, _, _, h, _ | 3, _, _, _, h, _ | 4, _, _, _, h, _ | 6, _, _, _, h, _ | 7, _, _, _, h, _ | 10, _, _, _, h, _ | 11, _, _, _, h, _ => h
 | 2, _, _, _, ⟨b, h1, h2, h3⟩, hl | 9, _, _, _, ⟨b, h1, h2, h3⟩, hl => ⟨b, h1, hl _ _ h2, h3⟩
 | 5, _, _, _, ⟨h1, h2⟩, hl | 8, _, _, _, ⟨h1, h2⟩, hl | 12, _, _, _, ⟨h1, h2⟩, hl => ⟨h1.le hl, h2⟩
 | 13, _, _, _, ⟨a, b, c, h1, h2⟩, hl => ⟨a, b, c, h1, h2.le hl⟩
 | _ + 14, _, _, _, _, _ => trivial
theorem keepSmell_spec (m : Md) (H : Hp) (s : Sm) (dv hv nv : Value) (hs : SmIn H dv hv nv s) (hl1 : s.doors.length <= 1000) (hl2 : s.hampers.length <= 1000) (hl3 : s.noses.length <= 1000) :
  FnX Tryz.prog m 11 #[smV s.places dv hv nv] H fun e H' => ∃ dv' hv' nv', e = .returned (smV s.places dv' hv' nv') /\ SmRow H H' dv' hv' nv' s /\ H.le H' := by
 obtain ⟨da, dc, ha, kc, na, nc, rfl, rfl, rfl, l1, l2, l3⟩ := hs.forms
 refine Aqn Tryz.func11 rfl Tryz.ntmps11 (by simp) ?_
 (refine @unH _ (zA y11_152 ?_); (repeat refine inC fun hc => ?_); try refine inK fun K hK => ?_)
 (intro sb hsb rb hrb; replace hrb : (Hp.set _ sb _) rb = none := hrb; generalize hG : Hp.set _ sb _ = H1 at hrb ⊢; have lH1 := Aqc hG hsb; have wsb := Aqb hG; clear hG; generalize hG : Hp.set _ rb _ = H2; have lH2 := Aqc hG hrb; have vrb := Aqb hG; have vsb := lH2 _ _ wsb; have nsbrb := Aqr wsb hrb; clear hG wsb)
 have lH := Hp.le_trans lH1 lH2
 refine hK _ _ ?_
 clear hK K
 (try refine @unH _ (zQ ?_))
 refine wpX_gstmt (ksΦ H sb s (.slice da s.doors.length dc) (.slice ha s.hampers.length kc) (.slice na s.noses.length nc)) (by kernel_rfl) (by kernel_rfl) ksΦ_le ?_; intro K hK
 (refine growAll_cons ?_ ?_; (focus (intro e HX hle he hd; have e1 : e 1 = .pointer (some ⟨sb, 0, none⟩) := he 1 (by kernel_rfl); clear he hd; refine ⟨by rfl, ?_⟩; (refine @unH _ ?_; refine zX y11_152 ?_); exact ⟨Hp.le_refl _, _, rfl, rfl⟩)))
 (refine growAll_cons ?_ ?_; (focus (intro e HX hle he hd; have vx := hle _ _ vsb; have e3 : e 3 = _ := hd 0 3 (by kernel_rfl); clear he hd; refine ⟨by rfl, ?_⟩; (refine @unH _ ?_; refine zX y11_152 ?_); exact ⟨Hp.le_refl _, _, rfl, rfl⟩)))
 refine growAll_cons ?_ ?_
 ·intro e HX hle he hd
  clear he hd
  refine ⟨by rfl, ?_⟩
  (refine @unH _ ?_; refine zX y11_152 ?_)
  intro b hb
  rw [range0]
  exact ⟨Hp.le_set hb, _, rfl, b, rfl, Axe, Hp.le_none (Hp.le_trans lH hle) hb⟩
 (refine growAll_cons ?_ ?_; (focus (intro e HX hle he hd; have e1 : e 1 = .pointer (some ⟨sb, 0, none⟩) := he 1 (by kernel_rfl); clear he hd; refine ⟨by rfl, ?_⟩; (refine @unH _ ?_; refine zX y11_152 ?_); exact ⟨Hp.le_refl _, _, rfl, rfl⟩)))
 (refine growAll_cons ?_ ?_; (focus (intro e HX hle he hd; have vx := hle _ _ vsb; have e6 : e 6 = _ := hd 3 6 (by kernel_rfl); clear he hd; refine ⟨by rfl, ?_⟩; (refine @unH _ ?_; refine zX y11_152 ?_); exact ⟨Hp.le_refl _, _, rfl, rfl⟩)))
 refine growAll_cons ?_ ?_
 ·intro e HX hle he hd
  obtain ⟨b, e5, vb, hb⟩ := hd 2 5 (by kernel_rfl)
  have e7 : e 7 = _ := hd 4 7 (by kernel_rfl)
  clear he hd
  refine ⟨by rfl, ?_⟩
  (refine @unH _ ?_; refine zX y11_152 ?_)
  refine append_newG (by decide) Tryz.underlying25 Tryz.sizeOf35 Tryz.zeroValue35 rfl Tryz.typeInfo35 (by decide) (by decide) vb (SlG.le hs.dd (Hp.le_trans lH hle)) (by omega) _ _ _ _ (fun v' H' hr hl hn => ?_)
  (refine @unH _ ?_; refine zX y11_152 ?_)
  exact ⟨_, rfl, hr, fun x hx => (hn x hx).elim (fun h => by rw [h]; exact hb) fun h => Hp.le_none (Hp.le_trans lH hle) h⟩
 (refine growAll_cons ?_ ?_; (focus (intro e HX hle he hd; have e1 : e 1 = .pointer (some ⟨sb, 0, none⟩) := he 1 (by kernel_rfl); clear he hd; refine ⟨by rfl, ?_⟩; (refine @unH _ ?_; refine zX y11_152 ?_); exact ⟨Hp.le_refl _, _, rfl, rfl⟩)))
 (refine growAll_cons ?_ ?_; (focus (intro e HX hle he hd; have vx := hle _ _ vsb; have e9 : e 9 = _ := hd 6 9 (by kernel_rfl); clear he hd; refine ⟨by rfl, ?_⟩; (refine @unH _ ?_; refine zX y11_152 ?_); exact ⟨Hp.le_refl _, _, rfl, rfl⟩)))
 refine growAll_cons ?_ ?_
 ·intro e HX hle he hd
  have e10 : e 10 = _ := hd 7 10 (by kernel_rfl)
  clear he hd
  refine ⟨by rfl, ?_⟩
  (refine @unH _ ?_; refine zX y11_152 ?_)
  refine (Cjg m HX _ s.hampers (hs.hh.le (Hp.le_trans lH hle)) (by omega)).runs.mono ?_
  rintro _ H' ⟨w, rfl, hr⟩
  have h2 := rowX_G hr
  simp -implicitDefEqProofs (disch := omega) only [Azt, Aq3, Aqm]
  exact ⟨fun x u hx => (by obtain ⟨v', g1, g2⟩ := hr.1 x u hx; rw [g1, g2 (fun h => by cases h)]), _, rfl, h2.1, fun x hx => Hp.le_none (Hp.le_trans lH hle) (h2.2 x hx)⟩
 refine growAll_cons ?_ ?_
 ·intro e HX hle he hd
  clear he hd
  refine ⟨by rfl, ?_⟩
  (refine @unH _ ?_; refine zX y11_152 ?_)
  intro b hb
  rw [range0]
  exact ⟨Hp.le_set hb, _, rfl, b, rfl, Axe, Hp.le_none (Hp.le_trans lH hle) hb⟩
 (refine growAll_cons ?_ ?_; (focus (intro e HX hle he hd; have e1 : e 1 = .pointer (some ⟨sb, 0, none⟩) := he 1 (by kernel_rfl); clear he hd; refine ⟨by rfl, ?_⟩; (refine @unH _ ?_; refine zX y11_152 ?_); exact ⟨Hp.le_refl _, _, rfl, rfl⟩)))
 (refine growAll_cons ?_ ?_; (focus (intro e HX hle he hd; have vx := hle _ _ vsb; have e13 : e 13 = _ := hd 10 13 (by kernel_rfl); clear he hd; refine ⟨by rfl, ?_⟩; (refine @unH _ ?_; refine zX y11_152 ?_); exact ⟨Hp.le_refl _, _, rfl, rfl⟩)))
 refine growAll_cons ?_ ?_
 ·intro e HX hle he hd
  obtain ⟨b, e12, vb, hb⟩ := hd 9 12 (by kernel_rfl)
  have e14 : e 14 = _ := hd 11 14 (by kernel_rfl)
  clear he hd
  refine ⟨by rfl, ?_⟩
  (refine @unH _ ?_; refine zX y11_152 ?_)
  refine append_newG (by decide) Tryz.underlying26 Tryz.sizeOf49 Tryz.zeroValue49 rfl Tryz.typeInfo49 (by decide) (by decide) vb (SlG.le hs.nn (Hp.le_trans lH hle)) (by omega) _ _ _ _ (fun v' H' hr hl hn => ?_)
  (refine @unH _ ?_; refine zX y11_152 ?_)
  exact ⟨_, rfl, hr, fun x hx => (hn x hx).elim (fun h => by rw [h]; exact hb) fun h => Hp.le_none (Hp.le_trans lH hle) h⟩
 refine growAll_cons ?_ ?_
 ·intro e HX hle he hd
  have e4 : e 4 = _ := hd 1 4 (by kernel_rfl)
  obtain ⟨g1, g2⟩ : RowG _ _ _ (e 8) _ /\ _ := hd 5 8 (by kernel_rfl)
  obtain ⟨g3, g4⟩ : RowG _ _ _ (e 11) _ /\ _ := hd 8 11 (by kernel_rfl)
  obtain ⟨g5, g6⟩ : RowG _ _ _ (e 15) _ /\ _ := hd 12 15 (by kernel_rfl)
  clear he hd
  generalize h8 : e 8 = v8 at *
  generalize h11 : e 11 = v11 at *
  generalize h15 : e 15 = v15 at *
  have hg : SmRow H HX v8 v11 v15 s := ⟨g1, g3, g5, g2, g4, g6⟩
  obtain ⟨_, _, rfl⟩ := g1.form
  obtain ⟨_, _, rfl⟩ := g3.form
  obtain ⟨_, _, rfl⟩ := g5.form
  replace hg : Aqk _ := hg
  clear g1 g2 g3 g4 g5 g6
  refine ⟨by rfl, ?_⟩
  (refine @unH _ ?_; refine zX y11_152 ?_)
  exact ⟨Hp.le_refl _, _, rfl, _, _, _, rfl, hg⟩
 refine growAll_one ?_
 intro e HX hle he hd
 obtain ⟨dv', hv', nv', e16, hg⟩ := hd 13 16 (by kernel_rfl)
 have e2 : e 2 = .pointer (some ⟨rb, 0, none⟩) := he 2 (by kernel_rfl)
 have vr := hle _ _ vrb
 clear he hd
 obtain ⟨_, _, rfl⟩ := hg.dd.form
 obtain ⟨_, _, rfl⟩ := hg.hh.form
 obtain ⟨_, _, rfl⟩ := hg.nn.form
 replace hg : Aqk _ := hg
 refine ⟨by rfl, ?_⟩
 (refine @unH _ ?_; refine zX y11_152 ?_)
 refine hK _ _ ?_
 clear hK K
 (try refine @unH _ (zQ ?_))
 (refine Axp ?_; (try simp only [nq, ↓reduceIte, Nat.reduceEqDiff]); rw [Aq6, Ax2 Tryz.results11 (by decide) (b := rb) (o := 0) ?hcell Tryz.underlying28 rfl Tryz.sizeOf28]; (case hcell => exact e2); simp -implicitDefEqProofs (disch := first | omega | (simp only [qd] <;> omega)) only [xq, ↓xp, qc, Nat.reduceAdd, List.range, List.range.loop, fine, Nat.reduceEqDiff, ↓reduceIte, yielded, reduceCtorEq, Nat.reduceLT, Nat.reduceMul, Nat.reduceSub, one, Nat.reduceLeDiff, Aqf, y11_152, Axk, List.extract_toArray])
 have hg' : SmRow H HX _ _ _ s := hg
 exact ⟨_, _, _, rfl, hg'.put vr, Az8 (Hp.le_trans lH hle) (Hp.le_none lH1 hrb)⟩
theorem rea_full {s : Sm} (ok : SmOk s) {a b : Int} (a0 : 0 <= a) (a1 : a < s.places) (b0 : 0 <= b) (b1 : b < s.places) :
  ∃ r1 r2 re, reaE s a b = (r1, r2, re) /\ reaE s b a = (r1, r2, re) /\ ((re = 11 /\ r1 = 0 /\ r2 = 0 /\ a ≠ b) ∨ (re = 0 /\ (r1 = 0 ↔ a = b))) := by
 have hs := rea_symm ok a0 a1 b0 b1
 have h1 := Djs (pl := s.places) ok.dk
 rcases rea_cases ok a0 a1 b0 b1 with ⟨h, hm, _⟩ | ⟨h, _, _⟩
 ·refine ⟨_, _, _, h, hs ▸ h, .inl ⟨rfl, rfl, rfl, fun e => ?_⟩⟩
  subst e
  rw [rea_self ok a0 a1] at h
  cases h
 ·refine ⟨_, _, _, h, hs ▸ h, .inr ⟨rfl, ds_zero ok h1 a0 a1 b0 b1, fun e => ?_⟩⟩
  subst e
  exact ds_self ok h1 a0 a1
theorem rea_tri {s : Sm} (ok : SmOk s) {a b c : Int} (a0 : 0 <= a) (a1 : a < s.places) (b0 : 0 <= b) (b1 : b < s.places) (c0 : 0 <= c) (c1 : c < s.places) {v1 v2 w1 w2 : Int} (hv : reaE s a c = (v1, v2, 0)) (hw : reaE s c b = (w1, w2, 0)) :
  ∃ r1 r2, reaE s a b = (r1, r2, 0) /\ r1 <= v1 + w1 /\ r2 <= v2 + w2 := by
 have h1 := Djs (pl := s.places) ok.dk
 have h2 := Djt (pl := s.places) ok.dk
 rcases rea_cases ok a0 a1 c0 c1 with ⟨h, _, _⟩ | ⟨h, p1, p2⟩
 ·rw [h] at hv; cases hv
 rw [h] at hv
 cases hv
 rcases rea_cases ok c0 c1 b0 b1 with ⟨h, _, _⟩ | ⟨h, q1, q2⟩
 ·rw [h] at hw; cases hw
 rw [h] at hw
 cases hw
 have g1 := ds_tri ok h1 a0 a1 b0 b1 c0 c1 p2 q2
 have g2 := ds_tri ok h2 a0 a1 b0 b1 c0 c1 p1 q1
 rcases rea_cases ok a0 a1 b0 b1 with ⟨h, k1, k2⟩ | ⟨h, k1, k2⟩
 ·omega
 ·exact ⟨_, _, h, g1.2, g2.2⟩
theorem rea_bnd {s : Sm} (ok : SmOk s) {a b : Int} (a0 : 0 <= a) (a1 : a < s.places) (b0 : 0 <= b) (b1 : b < s.places) {r1 r2 re : Int} (h : reaE s a b = (r1, r2, re)) : 0 <= r1 /\ r1 <= 99 /\ 0 <= r2 /\ r2 <= 99 := by
 have g1 := ds_walk ok (Djs (pl := s.places) ok.dk) a0 a1 b0 b1
 have g2 := ds_walk ok (Djt (pl := s.places) ok.dk) a0 a1 b0 b1
 rcases rea_cases ok a0 a1 b0 b1 with ⟨h', _, _⟩ | ⟨h', _, _⟩ <;> (rw [h'] at h; cases h; omega)
def moreS (s : Sm) (d : Dr) : Sm := ⟨s.places, s.doors ++ [d], s.hampers, s.noses⟩
theorem moreS_ok {s : Sm} (ok : SmOk s) {d : Dr} (hd : DrOk s.places d) (hl : s.doors.length < 6) : SmOk (moreS s d) :=
 ⟨ok.p0, ok.p1, by simp only [moreS, List.length_append, List.length_cons, List.length_nil]; omega, fun x hx => (List.mem_append.1 hx).elim (ok.dk x) (fun h => by rw [List.mem_singleton.1 h]; exact hd), ok.h0, ok.h1, ok.hk, ok.hd, ok.nl, ok.nk⟩
theorem edg_more {s : Sm} (d : Dr) (f : Dr -> Int) {a b n : Int} (h : Edg s.doors (pad6 (s.doors.map f)) a b n) : Edg (moreS s d).doors (pad6 ((moreS s d).doors.map f)) a b n := by
 obtain ⟨i, d0, h1, h2, h3⟩ := h.ix
 have hi := (List.getElem?_eq_some_iff.1 h1).1
 have e1 : (moreS s d).doors[i]? = some d0 := by simp only [moreS]; rw [List.getElem?_append_left hi, h1]
 have e2 : (pad6 ((moreS s d).doors.map f))[i]? = some n := by
  unfold pad6 at h2 ⊢
  rw [List.getElem?_append_left (by simpa using hi), List.getElem?_map, h1] at h2
  rw [List.getElem?_append_left (by simp only [moreS, List.length_map, List.length_append]; omega), List.getElem?_map, e1]
  exact h2
 have h4 := Edg.of e1 e2
 rcases h3 with ⟨rfl, rfl⟩ | ⟨rfl, rfl⟩
 ·exact h4
 ·exact h4.symm
theorem rea_more {s : Sm} (ok : SmOk s) {d : Dr} (hd : DrOk s.places d) (hl : s.doors.length < 6) {a b : Int} (a0 : 0 <= a) (a1 : a < s.places) (b0 : 0 <= b) (b1 : b < s.places) {r1 r2 : Int} (h : reaE s a b = (r1, r2, 0)) :
  ∃ y1 y2, reaE (moreS s d) a b = (y1, y2, 0) /\ y1 <= r1 /\ y2 <= r2 := by
 have ok' := moreS_ok ok hd hl
 rcases rea_cases ok a0 a1 b0 b1 with ⟨h', _, _⟩ | ⟨h', p1, p2⟩
 ·rw [h'] at h; cases h
 rw [h'] at h
 cases h
 have g1 := ds_more (s := moreS s d) (s' := s) ok' (Djs (pl := s.places) ok'.dk) a0 a1 rfl ok (Djs (pl := s.places) ok.dk) (fun a b n he => ⟨n, Int.le_refl _, edg_more d Dr.mn he⟩) b0 b1 p2
 have g2 := ds_more (s := moreS s d) (s' := s) ok' (Djt (pl := s.places) ok'.dk) a0 a1 rfl ok (Djt (pl := s.places) ok.dk) (fun a b n he => ⟨n, Int.le_refl _, edg_more d Dr.mx he⟩) b0 b1 p1
 rcases rea_cases ok' (a := a) (b := b) a0 a1 b0 b1 with ⟨h, k1, k2⟩ | ⟨h, k1, k2⟩
 ·omega
 ·exact ⟨_, _, h, g1.2, g2.2⟩
def y3_166 := And.intro @callF9 (And.intro @callF10 (And.intro (fun H => Aqv (H := H) (P := Tryz.prog) (h := Tryz.zeroValue28)) (And.intro (fun H => Aqs (H := H) Tryz.sizeOf28) (And.intro (fun H => Aqq (H := H) Tryz.underlying28 rfl Tryz.sizeOf28) (And.intro @callF11 (And.intro (fun H => Aqd (H := H) Tryz.underlying28 (i := 0) rfl (off := 0) rfl Tryz.sizeOf3) (And.intro (fun H => Aqg (H := H) Tryz.underlying3 rfl) (And.intro (fun H => Aqd (H := H) Tryz.underlying28 (i := 1) rfl (off := 1) rfl Tryz.sizeOf25) (And.intro (fun H => Aqg (H := H) Tryz.underlying25 rfl) (And.intro @Dza (And.intro (fun H => Av8 (H := H) Tryz.underlying25 Tryz.sizeOf35 Tryz.zeroValue35 rfl (by decide) (by decide)) (And.intro (fun H => Azr (H := H) Tryz.sizeOf25) (And.intro @Dzb (And.intro (fun H => Aqv (H := H) (P := Tryz.prog) (h := Tryz.zeroValue33)) (And.intro (fun H => Aqs (H := H) Tryz.sizeOf33) (And.intro (fun H => Aqq (H := H) Tryz.underlying33 rfl Tryz.sizeOf33) (And.intro (fun H => Aqd (H := H) Tryz.underlying33 (i := 0) rfl (off := 0) rfl Tryz.sizeOf3) (And.intro @eqG_bool (And.intro (fun H => Aqd (H := H) Tryz.underlying33 (i := 1) rfl (off := 1) rfl Tryz.sizeOf3) (And.intro (fun H => Aq7 (H := H) Tryz.underlying25) (And.intro (fun H => Aqu (H := H) Tryz.underlying25 Tryz.sizeOf35) (And.intro (fun H => Aqq (H := H) Tryz.underlying35 rfl Tryz.sizeOf35) (And.intro (fun H => Aqv (H := H) (P := Tryz.prog) (h := Tryz.zeroValue35)) (And.intro (fun H => Aqs (H := H) Tryz.sizeOf35) (And.intro (fun H => Aqd (H := H) Tryz.underlying35 (i := 0) rfl (off := 0) rfl Tryz.sizeOf3) (And.intro (fun H => Aqd (H := H) Tryz.underlying35 (i := 1) rfl (off := 1) rfl Tryz.sizeOf3) (And.intro (fun H => Aqd (H := H) Tryz.underlying35 (i := 2) rfl (off := 2) rfl Tryz.sizeOf33) @callF14)))))))))))))))))))))))))))
theorem lsreach_spec (H : Hp) (sa : Option Addr) (sl sc : Nat) (hs : ∀ i : Nat, i < sl -> ∃ sb so c e fr x, sa = some ⟨sb, so, none⟩ /\ H sb = some (false, .cells c e fr) /\ c[so + i]? = some (.int .i64 x)) :
  FnX Tryz.prog (.wg Tryz.prog) 3 #[.slice sa sl sc] H fun e _ => e = .returned (.bool true) := by
 refine Aqn Tryz.func3 rfl Tryz.ntmps3 (by simp) ?_
 (refine @unH _ (zA y3_166 ?_); (repeat refine inC fun hc => ?_); try refine inK fun K hK => ?_)
 refine (newTin_spec _ H sa sl sc hs 240 (by omega)).runs.mono ?_
 rintro _ H1 ⟨tb, rfl, l1, hT⟩
 ((try refine @unH _ (zX y3_166 ?_)); (try (refine hK _ _ ?_; clear hK K; try refine @unH _ (zQ ?_))); refine @unH _ (zA y3_166 ?_); (repeat refine inC fun hc => ?_); try refine inK fun K hK => ?_)
 refine (smellOf_spec _ H1 tb 180 5 false (by omega) (by omega) hT).runs.mono ?_
 rintro _ H2 ⟨s, dv, hv, nv, cv, i, hr, ts, rfl, hs2, ok, hp5, hdl, hnl, hil, hr12, htk, hcv, htr, lex2, hT2⟩
 clear hT hs l1 lex2
 obtain ⟨da, dc, ha, kc, na, nc, rfl, rfl, rfl, l1, l2, l3⟩ := hs2.forms
 ((try refine @unH _ (zX y3_166 ?_)); (try (refine hK _ _ ?_; clear hK K; try refine @unH _ (zQ ?_))); refine @unH _ (zA y3_166 ?_); (repeat refine inC fun hc => ?_); try refine inK fun K hK => ?_)
 (intro sb hsb; generalize hG : Hp.set _ sb _ = H3; have lH3 := Aqc hG hsb; have vsb := Aqb hG; clear hG)
 have hs3 := hs2.le lH3
 have hT3 := hT2.le lH3
 have hsn := hT2.ne hsb
 have hp0 := ok.p0
 have hh1 := ok.h1
 have hdl6 : s.doors.length < 6 := by omega
 clear hs2 lH3 hsb hT2 hcv htk htr hdl
 ((try refine @unH _ (zX y3_166 ?_)); (try (refine hK _ _ ?_; clear hK K; try refine @unH _ (zQ ?_))); refine @unH _ (zA y3_166 ?_); (repeat refine inC fun hc => ?_); try refine inK fun K hK => ?_)
 refine (keepSmell_spec _ H3 s _ _ _ hs3 (by omega) (by omega) (by omega)).runs.mono ?_
 rintro _ H4 ⟨xd, xh, xn, rfl, hx4, l34⟩
 obtain ⟨xa, xc, ya, yc, za, zc, rfl, rfl, rfl, _, _, _⟩ := hx4.smIn.forms
 have vsb4 := l34 _ _ vsb
 have hT4 := hT3.le l34
 replace hx4 : Aqk _ := hx4
 ((try refine @unH _ (zX y3_166 ?_)); (try (refine hK _ _ ?_; clear hK K; try refine @unH _ (zQ ?_))); refine @unH _ (zS y3_166 ?_); (repeat refine inC fun hc => ?_); try refine inK fun K hK => ?_)
 (intro xb hxb; generalize hG : Hp.set _ xb _ = H5; have lH5 := Aqc hG hxb; have vxb := Aqb hG; clear hG)
 have hx5 := SmRow.le (show SmRow _ _ _ _ _ _ from hx4) lH5
 have vsb5 := lH5 _ _ vsb4
 have hT5 := hT4.le lH5
 have l35 := Hp.le_trans l34 lH5
 have hxn := hT4.ne hxb
 have hsx := Aqr vsb4 hxb
 clear hx4 vsb4 hT4 lH5 l34 hxb
 replace hx5 : Aqk _ := hx5
 refine hK _ _ ?_
 clear hK K
 (try refine @unH _ (zQ ?_))
 refine Bki (fun e => e 3 = .pointer (some ⟨tb, 0, none⟩) /\ e 4 = .pointer (some ⟨sb, 0, none⟩) /\ e 8 = .pointer (some ⟨xb, 0, none⟩)) ⟨rfl, rfl, rfl⟩ ?_
 rintro e ⟨e3, e4, e8⟩
 refine Avw (fun a' H' => ∃ e x xv, a' = act 226 e [] /\ e 4 = .pointer (some ⟨sb, 0, none⟩) /\ e 8 = .pointer (some ⟨xb, 0, none⟩) /\ H' sb = some (true, smO s.places (.slice da s.doors.length dc) (.slice ha s.hampers.length kc) (.slice na s.noses.length nc)) /\ H' xb = some (true, smO s.places xv (.slice ya s.hampers.length yc) (.slice za s.noses.length zc)) /\
  SmIn H' (.slice da s.doors.length dc) (.slice ha s.hampers.length kc) (.slice na s.noses.length nc) s /\ SmIn H' xv (.slice ya s.hampers.length yc) (.slice za s.noses.length zc) x /\ SmOk x /\ x.places = s.places /\ Aqk (∀ a b r1 r2 : Int, 0 <= a -> a < s.places -> 0 <= b -> b < s.places -> reaE s a b = (r1, r2, 0) -> ∃ y1 y2, reaE x a b = (y1, y2, 0) /\ y1 <= r1 /\ y2 <= r2)) ?_ ?_
 ·by_cases hlt : 1 < s.places
  ·(refine @unH _ (zA y3_166 ?_); (repeat refine inC fun hc => ?_); try refine inK fun K hK => ?_)
   refine Axm (fun HX => HX sb = some (true, smO s.places (.slice da s.doors.length dc) (.slice ha s.hampers.length kc) (.slice na s.noses.length nc)) /\ HX xb = some (true, smO s.places (.slice xa s.doors.length xc) (.slice ya s.hampers.length yc) (.slice za s.noses.length zc))) [7, 9] (.free 0 (.take 1 (.free 2 (.free 3 (.take 4 (.one 5 (.one 6 (.one 7 (.free 8 (.one 9 .nil)))))))))) (by kernel_rfl) (by kernel_rfl) (by decide) (by kernel_rfl) ?_; intro K hK
   refine Ax8 fun ops hOz => ?_
   have hSS := And.intro vsb5 vxb
   (refine @unH _ ?_; refine zF y3_166 ?_)
   (refine @unH _ ?_; refine zK (And.intro y3_166 @exists_eq_left'.{1}) ?_)
   (iterate 2 (refine @unH _ ?_; refine zF y3_166 ?_))
   (refine @unH _ ?_; refine zK (And.intro y3_166 @exists_eq_left'.{1}) ?_)
   clear hSS
   (refine @unH _ ?_; refine zM y3_166 ?_)
   refine (By4 _ H5 tb 176 s.places 1 (by omega) ok.p1 (by omega) (by omega) hT5).runs.mono ?_
   rintro _ H6 ⟨d, rfl, hd, x6, _⟩
   have vsb6 := x6.keeps vsb5 hsn
   have vxb6 := x6.keeps vxb hxn
   have hx6 := SmRow.lexT (show SmRow _ _ _ _ _ _ from hx5) hT5 x6
   have x36 := (Lex.of l35).trans x6
   simp -implicitDefEqProofs (disch := omega) only [Azt, Aq3, Aqm]
   refine ⟨.inr fun _ => (by first | trivial | exact ⟨vsb6, vxb6⟩), ?_⟩
   clear vsb5 vxb hx5 hT5 x6
   replace hx6 : Aqk _ := hx6
   replace hd : Aqk _ := hd
   (refine @unH _ ?_; refine zM y3_166 ?_)
   intro g hg
   generalize hG : Hp.set H6 g _ = H7
   have l67 := Aqc hG hg
   have vg7 := Aqb hG
   clear hG
   refine ⟨.inr fun _ => (by first | trivial | exact ⟨by rw [if_neg (Aqr vsb6 hg)], by rw [if_neg (Aqr vxb6 hg)]⟩), ?_⟩
   have vsb7 := l67 _ _ vsb6
   have vxb7 := l67 _ _ vxb6
   have hx6' : SmRow H3 H6 _ _ _ s := hx6
   have hx7 := hx6'.le l67
   have hxg : rowB (.slice xa s.doors.length xc) ≠ some g := fun h => by
    obtain ⟨c, hc⟩ := hx6'.dd.cell h
    rw [hg] at hc
    cases hc
   have x37 := x36.trans (Lex.of l67)
   clear hx6 hx6' x36 vsb6 vxb6 l67 hg
   replace hx7 : Aqk _ := hx7
   (refine @unH _ ?_; refine zM y3_166 ?_)
   have hx7' : SmRow H3 H7 _ _ _ s := hx7
   refine append_RowGs (by decide) Tryz.underlying25 Tryz.sizeOf35 Tryz.zeroValue35 rfl Tryz.typeInfo35 (by decide) (by decide) hx7'.dd (slG_one (ws := Bjh d) rfl vg7) (fun _ x o hx h => hxg (by cases hx; exact h)) (SlD.one (ds := [d])) (by simp only [List.length_cons, List.length_nil, List.length_map]; omega) _ _ _ _ (fun v8 H8 r8 k8 n8 => ?_)
   have vsb8 := k8 _ _ vsb7 (fun h => hx7'.dd.bound h vsb7 (fun c hc => by simp only [Obj.cells.injEq] at hc; exact absurd hc.2.1 (by decide)) rfl)
   have vxb8 := k8 _ _ vxb7 (fun h => hx7'.dd.bound h vxb7 (fun c hc => by simp only [Obj.cells.injEq] at hc; exact absurd hc.2.1 (by decide)) rfl)
   have hs8 := hs3.lexT hT3 (x37.row hx7'.dn k8)
   have hh8 := hx7'.dd.other hx7'.hh (by decide) k8
   have hn8 := hx7'.dd.other hx7'.nn (by decide) k8
   obtain ⟨va, vc, rfl⟩ := r8.form
   clear hx7 hx7' x37 vsb7 vxb7 hxg vg7 k8 n8
   replace hs8 : Aqk _ := hs8
   replace hh8 : Aqk _ := hh8
   replace hn8 : Aqk _ := hn8
   replace r8 : Aqk _ := r8
   (refine @unH _ ?_; refine zX y3_166 ?_)
   refine ⟨.inl (by decide), ?_⟩
   (refine @unH _ ?_; refine zF y3_166 ?_)
   (refine @unH _ ?_; refine zM y3_166 ?_)
   refine ⟨.inl (by decide), ?_⟩
   (refine Ajc (hK _ _ ?_); clear hK K; (try simp only [nq, ↓reduceIte, Nat.reduceEqDiff]))
   have hs8' : SmIn H8 _ _ _ s := hs8
   have hh8' : RowG _ _ H8 _ _ := hh8
   have hn8' : RowG _ _ H8 _ _ := hn8
   have r8' : RowG 35 4 H8 _ (s.doors.map Bjh ++ [Bjh d]) := r8
   have hd' : DrOk s.places d := hd
   refine ⟨_, moreS s d, _, rfl, e4, e8, by rw [Aqx hsx]; exact vsb8, Axe, hs8'.put vxb8 _, ⟨?_, (SlG.ints1 (hh8'.slG (by decide))).put vxb8 (by decide) _, SlG.put (hn8'.slG (by decide)) vxb8 (by decide) _⟩, moreS_ok ok hd' hdl6, rfl, fun a b r1 r2 a0 a1 b0 b1 h => rea_more ok hd' hdl6 a0 a1 b0 b1 h⟩
   show SlG _ _ _ _ ((s.doors ++ [d]).map Bjh)
   rw [List.map_append]
   exact SlG.put (r8'.slG (by decide)) vxb8 (by decide) _
  ·(refine @unH _ (zA y3_166 ?_); (repeat refine inC fun hc => ?_); try refine inK fun K hK => ?_)
   have hx5' : SmRow H3 H5 _ _ _ s := hx5
   exact ⟨_, s, _, rfl, e4, e8, vsb5, vxb, hs3.le l35, hx5'.smIn, ok, rfl, fun a b r1 r2 a0 a1 b0 b1 h => ⟨_, _, h, Int.le_refl _, Int.le_refl _⟩⟩
 clear hs3 hT3 vsb l35 vsb5 hT5 hxn hsx hx5 vxb e3 e4 e8 e hsn
 rintro _ H9 ⟨e, x, xv, rfl, e4, e8, vsb9, vxb9, hs9, hx9, okx, hxp, hmo⟩
 have hRs := fun H (l : H9.le H) a b => Cqu H s _ _ _ (hs9.le l) ok a b (.wg Tryz.prog)
 have hRx := fun H (l : H9.le H) a b => Cqu H x _ _ _ (hx9.le l) okx a b (.wg Tryz.prog)
 simp only [hxp] at hRx
 obtain ⟨xa', xc', hxl, rfl⟩ := (show SlD H9 xv x.doors from hx9.dd).isSlice
 have hsd : SlD H9 _ s.doors := hs9.dd
 clear hs9 hx9 okx hxp
 replace hsd : Aqk _ := hsd
 replace hRs : Aqk _ := hRs
 replace hRx : Aqk _ := hRx
 (refine @unH _ (zA y3_166 ?_); (repeat refine inC fun hc => ?_); try refine inK fun K hK => ?_)
 refine Axg (fun w a' H' => ∃ e, ∃ p : Nat, w = s.places.toNat - p /\ (p : Int) <= s.places /\ a' = act 226 e [] /\ e 4 = .pointer (some ⟨sb, 0, none⟩) /\ e 8 = .pointer (some ⟨xb, 0, none⟩) /\ e 9 = .int .i64 (p : Nat) /\ H9.le H') (n := s.places.toNat) ?_ ?_
 ·exact ⟨_, 0, by omega, by omega, rfl, e4, e8, rfl, Hp.le_refl _⟩
 clear e4 e8 e
 rintro w a' H10 ⟨e, p, rfl, hp, rfl, e4, e8, e9, lb⟩
 have vsb := lb _ _ vsb9
 have vxb := lb _ _ vxb9
 by_cases hlt : (p : Int) < s.places
 ·(refine @unH _ (zA y3_166 ?_); (repeat refine inC fun hc => ?_); try refine inK fun K hK => ?_)
  refine Axg (fun w a' H' => ∃ e, ∃ q : Nat, w = s.places.toNat - q /\ (q : Int) <= s.places /\ a' = act 226 e [] /\ e 4 = .pointer (some ⟨sb, 0, none⟩) /\ e 8 = .pointer (some ⟨xb, 0, none⟩) /\ e 9 = .int .i64 (p : Nat) /\ e 10 = .int .i64 (q : Nat) /\ H9.le H') (n := s.places.toNat) ?_ ?_
  ·exact ⟨_, 0, by omega, by omega, rfl, e4, e8, e9, rfl, lb⟩
  clear e4 e8 e9 e vsb vxb lb
  rintro w a' H11 ⟨e, q, rfl, hq, rfl, e4, e8, e9, e10, lb⟩
  have vsb := lb _ _ vsb9
  have vxb := lb _ _ vxb9
  by_cases hlq : (q : Int) < s.places
  ·obtain ⟨r1, r2, re, hr, hr', hcs⟩ := rea_full ok (a := p) (b := q) (by omega) hlt (by omega) hlq
   have hmo' := (show ∀ a b r1 r2 : Int, _ from hmo) p q r1 r2 (by omega) hlt (by omega) hlq
   have hR1 := fun H l => (show ∀ H, _ -> ∀ a b, _ from hRs) H l p q
   have hR2 := fun H l => (show ∀ H, _ -> ∀ a b, _ from hRs) H l q p
   have hR3 := fun H l => (show ∀ H, _ -> ∀ a b, _ from hRx) H l p q
   rw [hr] at hR1 hmo'
   rw [hr'] at hR2
   generalize reaE x p q = Y at hR3 hmo'
   obtain ⟨y1, y2, ye⟩ := Y
   have hy : re = 0 -> ye = 0 /\ y1 <= r1 /\ y2 <= r2 := fun h => by
    obtain ⟨_, _, h1, h2, h3⟩ := hmo' (by rw [h])
    simp only [Prod.mk.injEq] at h1
    omega
   clear hmo' hr'
   replace hR1 : Aqk _ := hR1
   replace hR2 : Aqk _ := hR2
   replace hR3 : Aqk _ := hR3
   replace hr : Aqk _ := hr
   replace hcs : Aqk _ := hcs
   replace hy : Aqk _ := hy
   (refine @unH _ (zA y3_166 ?_); (repeat refine inC fun hc => ?_); try refine inK fun K hK => ?_)
   refine ((show ∀ H, _ -> _ from hR1) H11 lb).runs.mono ?_
   rintro _ H12 ⟨rfl, l12⟩
   ((try refine @unH _ (zX y3_166 ?_)); (try (refine hK _ _ ?_; clear hK K; try refine @unH _ (zQ ?_))); refine @unH _ (zA y3_166 ?_); (repeat refine inC fun hc => ?_); try refine inK fun K hK => ?_)
   (intro rb hrb; generalize hG : Hp.set _ rb _ = H13; have lH13 := Aqc hG hrb; have vrb := Aqb hG; clear hG)
   have lb13 := Hp.le_trans lb (Hp.le_trans l12 lH13)
   have vsb13 := lb13 _ _ vsb9
   clear hR1 vsb vxb lb l12 lH13 hrb
   ((try refine @unH _ (zX y3_166 ?_)); (try (refine hK _ _ ?_; clear hK K; try refine @unH _ (zQ ?_))); refine @unH _ (zA y3_166 ?_); (repeat refine inC fun hc => ?_); try refine inK fun K hK => ?_)
   refine ((show ∀ H, _ -> _ from hR2) H13 lb13).runs.mono ?_
   rintro _ H14 ⟨rfl, l14⟩
   ((try refine @unH _ (zX y3_166 ?_)); (try (refine hK _ _ ?_; clear hK K; try refine @unH _ (zQ ?_))); refine @unH _ (zA y3_166 ?_); (repeat refine inC fun hc => ?_); try refine inK fun K hK => ?_)
   (intro qb hqb; generalize hG : Hp.set _ qb _ = H15; have lH15 := Aqc hG hqb; have vqb := Aqb hG; clear hG)
   have l135 := Hp.le_trans l14 lH15
   have lb15 := Hp.le_trans lb13 l135
   have vxb15 := lb15 _ _ vxb9
   have vrb15 := l135 _ _ vrb
   clear hR2 vsb13 lb13 l14 lH15 hqb l135 vrb
   ((try refine @unH _ (zX y3_166 ?_)); (try (refine hK _ _ ?_; clear hK K; try refine @unH _ (zQ ?_))); refine @unH _ (zA y3_166 ?_); (repeat refine inC fun hc => ?_); try refine inK fun K hK => ?_)
   refine ((show ∀ H, _ -> _ from hR3) H15 lb15).runs.mono ?_
   rintro _ H16 ⟨rfl, l16⟩
   ((try refine @unH _ (zX y3_166 ?_)); (try (refine hK _ _ ?_; clear hK K; try refine @unH _ (zQ ?_))); refine @unH _ (zA y3_166 ?_); (repeat refine inC fun hc => ?_); try refine inK fun K hK => ?_)
   (intro yb hyb; generalize hG : Hp.set _ yb _ = H17; have lH17 := Aqc hG hyb; have vyb := Aqb hG; clear hG)
   have l157 := Hp.le_trans l16 lH17
   have lb17 := Hp.le_trans lb15 l157
   have vrb17 := l157 _ _ vrb15
   have vqb17 := l157 _ _ vqb
   clear hR3 vxb15 lb15 l16 lH17 hyb l157 vrb15 vqb
   refine hK _ _ ?_
   clear hK K
   (try refine @unH _ (zQ ?_))
   refine Bki (fun e => e 4 = .pointer (some ⟨sb, 0, none⟩) /\ e 8 = .pointer (some ⟨xb, 0, none⟩) /\ e 9 = .int .i64 (p : Nat) /\ e 10 = .int .i64 (q : Nat) /\ e 11 = .pointer (some ⟨rb, 0, none⟩) /\ e 12 = .int .i64 re /\ e 13 = .pointer (some ⟨qb, 0, none⟩) /\ e 14 = .int .i64 re /\ e 15 = .pointer (some ⟨yb, 0, none⟩) /\ e 16 = .int .i64 ye) ⟨e4, e8, e9, e10, rfl, rfl, rfl, rfl, rfl, rfl⟩ ?_
   clear e4 e8 e9 e10 e
   rintro e ⟨e4, e8, e9, e10, e11, e12, e13, e14, e15, e16⟩
   have hq1 : ∀ o, Hp.cell H17 ⟨rb, o, none⟩ = (#[.int .i64 r1, .int .i64 r2] : Array Value)[o]? := fun o => cell_of vrb17
   have hq2 : ∀ o, Hp.cell H17 ⟨yb, o, none⟩ = (#[.int .i64 y1, .int .i64 y2] : Array Value)[o]? := fun o => cell_of vyb
   have hcs' : (re = 11 /\ r1 = 0 /\ r2 = 0 /\ (p : Int) ≠ q) ∨ (re = 0 /\ (r1 = 0 ↔ (p : Int) = q)) := hcs
   have hy' : re = 0 -> ye = 0 /\ y1 <= r1 /\ y2 <= r2 := hy
   clear hcs hy
   have hcs : (re = 11 /\ r1 = 0 /\ r2 = 0 /\ (p : Int) ≠ q) ∨ (re = 0 /\ r1 = 0 /\ (p : Int) = q /\ ye = 0 /\ y1 <= r1 /\ y2 <= r2) ∨ (re = 0 /\ r1 ≠ 0 /\ (p : Int) ≠ q /\ ye = 0 /\ y1 <= r1 /\ y2 <= r2) := by omega
   clear hcs' hy'
   refine Avw (fun a' H' => ∃ e, a' = act 226 e [] /\ e 4 = .pointer (some ⟨sb, 0, none⟩) /\ e 8 = .pointer (some ⟨xb, 0, none⟩) /\ e 9 = .int .i64 (p : Nat) /\ e 10 = .int .i64 (q : Nat) /\ e 11 = .pointer (some ⟨rb, 0, none⟩) /\ e 12 = .int .i64 re /\ e 15 = .pointer (some ⟨yb, 0, none⟩) /\ e 16 = .int .i64 ye /\ H' = H17) ?_ ?_
   ·rcases hcs with ⟨rfl, rfl, rfl, hpq⟩ | ⟨rfl, rfl, hpq, _, _, _⟩ | ⟨rfl, hr1, hpq, _, _, _⟩
    all_goals
     refine Axs (wpX_rz 29 (by rfl) ?_)
     intro K hK ops hOz
     (iterate 2 (refine @unH _ ?_; refine zR y3_166 ?_))
     (refine @unH _ ?_; refine zR (And.intro y3_166 (And.intro @Aq2 @snBandE)) ?_)
     (iterate 26 (refine @unH _ ?_; refine zR y3_166 ?_))
     (refine RZ_nil ?_; refine hK _ _ ?_; clear hK K; (try simp only [nq, ↓reduceIte, Nat.reduceEqDiff]))
     (refine @unH _ (zA y3_166 ?_); (repeat refine inC fun hc => ?_); try refine inK fun K hK => ?_)
     exact ⟨_, rfl, e4, e8, e9, e10, e11, e12, e15, e16, trivial⟩
   clear e4 e8 e9 e10 e11 e12 e13 e14 e15 e16 e
   rintro a' H' ⟨e, rfl, e4, e8, e9, e10, e11, e12, e15, e16, hHQ⟩
   rw [hHQ]
   clear hHQ H'
   refine Avw (fun a' H' => ∃ e, a' = act 226 e [] /\ e 4 = .pointer (some ⟨sb, 0, none⟩) /\ e 8 = .pointer (some ⟨xb, 0, none⟩) /\ e 9 = .int .i64 (p : Nat) /\ e 10 = .int .i64 (q : Nat) /\ e 11 = .pointer (some ⟨rb, 0, none⟩) /\ e 12 = .int .i64 re /\ H' = H17) ?_ ?_
   ·rcases hcs with ⟨rfl, rfl, rfl, hpq⟩ | ⟨rfl, rfl, hpq, rfl, g1, g2⟩ | ⟨rfl, hr1, hpq, rfl, g1, g2⟩
    all_goals
     (try have g1' := Int.not_lt.2 g1)
     (try have g2' := Int.not_lt.2 g2)
     refine Axs (wpX_rz 20 (by rfl) ?_)
     intro K hK ops hOz
     (iterate 20 (refine @unH _ ?_; refine zR y3_166 ?_))
     (refine RZ_nil ?_; refine hK _ _ ?_; clear hK K; (try simp only [nq, ↓reduceIte, Nat.reduceEqDiff]))
     (refine @unH _ (zA y3_166 ?_); (repeat refine inC fun hc => ?_); try refine inK fun K hK => ?_)
     exact ⟨_, rfl, e4, e8, e9, e10, e11, e12, trivial⟩
   clear e4 e8 e9 e10 e11 e12 e15 e16 e hq1 hq2 vqb17 vyb
   rintro a' H' ⟨e, rfl, e4, e8, e9, e10, e11, e12, hHQ⟩
   rw [hHQ]
   clear hHQ H'
   have hr' : reaE s p q = (r1, r2, re) := hr
   have hbr := rea_bnd ok (a := p) (b := q) (by omega) hlt (by omega) hlq hr'
   replace hcs : Aqk _ := hcs
   (refine @unH _ (zA y3_166 ?_); (repeat refine inC fun hc => ?_); try refine inK fun K hK => ?_)
   refine Axg (fun w a' H' => ∃ e, ∃ k : Nat, w = s.places.toNat - k /\ (k : Int) <= s.places /\ a' = act 226 e [] /\ e 4 = .pointer (some ⟨sb, 0, none⟩) /\ e 8 = .pointer (some ⟨xb, 0, none⟩) /\ e 9 = .int .i64 (p : Nat) /\ e 10 = .int .i64 (q : Nat) /\ e 11 = .pointer (some ⟨rb, 0, none⟩) /\ e 12 = .int .i64 re /\ e 17 = .int .i64 (k : Nat) /\ H17.le H') (n := s.places.toNat) ?_ ?_
   ·exact ⟨_, 0, by omega, by omega, rfl, e4, e8, e9, e10, e11, e12, rfl, Hp.le_refl _⟩
   clear e4 e8 e9 e10 e11 e12 e
   rintro w a' H18 ⟨e, k, rfl, hk, rfl, e4, e8, e9, e10, e11, e12, e17, l18⟩
   have lb18 := Hp.le_trans lb17 l18
   have vsb18 := lb18 _ _ vsb9
   by_cases hlk : (k : Int) < s.places
   ·have hR1 := fun H l => (show ∀ H, _ -> ∀ a b, _ from hRs) H l p k
    have hR2 := fun H l => (show ∀ H, _ -> ∀ a b, _ from hRs) H l k q
    obtain ⟨v1, v2, ve, hv, _, hvc⟩ := rea_full ok (a := p) (b := k) (by omega) hlt (by omega) hlk
    obtain ⟨w1, w2, we, hw, _, hwc⟩ := rea_full ok (a := k) (b := q) (by omega) hlk (by omega) hlq
    have hbv := rea_bnd ok (a := p) (b := k) (by omega) hlt (by omega) hlk hv
    have hbw := rea_bnd ok (a := k) (b := q) (by omega) hlk (by omega) hlq hw
    have htri : ve = 0 -> we = 0 -> re = 0 /\ ¬ v1 + w1 < r1 /\ ¬ v2 + w2 < r2 := fun h1 h2 => by
     obtain ⟨_, _, h3, h4, h5⟩ := rea_tri ok (a := p) (b := q) (c := k) (by omega) hlt (by omega) hlq (by omega) hlk (by rw [hv, h1]) (by rw [hw, h2])
     rw [hr'] at h3
     cases h3
     omega
    rw [hv] at hR1
    rw [hw] at hR2
    have hvw : (ve = 11 /\ we = 11) ∨ (ve = 11 /\ we = 0) ∨ (ve = 0 /\ we = 11) ∨ (ve = 0 /\ we = 0 /\ re = 0 /\ ¬ v1 + w1 < r1 /\ ¬ v2 + w2 < r2) := by omega
    clear hvc hwc htri
    clear hv hw
    replace hR1 : Aqk _ := hR1
    replace hR2 : Aqk _ := hR2
    replace hr' : Aqk _ := hr'
    replace hvw : Aqk _ := hvw
    (refine @unH _ (zA y3_166 ?_); (repeat refine inC fun hc => ?_); try refine inK fun K hK => ?_)
    refine ((show ∀ H, _ -> _ from hR1) H18 lb18).runs.mono ?_
    rintro _ H19 ⟨rfl, l19⟩
    ((try refine @unH _ (zX y3_166 ?_)); (try (refine hK _ _ ?_; clear hK K; try refine @unH _ (zQ ?_))); refine @unH _ (zA y3_166 ?_); (repeat refine inC fun hc => ?_); try refine inK fun K hK => ?_)
    (intro vb hvb; generalize hG : Hp.set _ vb _ = H20; have lH20 := Aqc hG hvb; have vvb := Aqb hG; clear hG)
    have l180 := Hp.le_trans l19 lH20
    have lb20 := Hp.le_trans lb18 l180
    have vsb20 := lb20 _ _ vsb9
    have l170 := Hp.le_trans l18 l180
    clear hR1 vsb18 lb18 l19 lH20 hvb l180 l18
    ((try refine @unH _ (zX y3_166 ?_)); (try (refine hK _ _ ?_; clear hK K; try refine @unH _ (zQ ?_))); refine @unH _ (zA y3_166 ?_); (repeat refine inC fun hc => ?_); try refine inK fun K hK => ?_)
    refine ((show ∀ H, _ -> _ from hR2) H20 lb20).runs.mono ?_
    rintro _ H21 ⟨rfl, l21⟩
    ((try refine @unH _ (zX y3_166 ?_)); (try (refine hK _ _ ?_; clear hK K; try refine @unH _ (zQ ?_))); refine @unH _ (zA y3_166 ?_); (repeat refine inC fun hc => ?_); try refine inK fun K hK => ?_)
    (intro wb hwb; generalize hG : Hp.set _ wb _ = H22; have lH22 := Aqc hG hwb; have vwb := Aqb hG; clear hG)
    have l202 := Hp.le_trans l21 lH22
    have l172 := Hp.le_trans l170 l202
    have vvb22 := l202 _ _ vvb
    have vrb22 := l172 _ _ vrb17
    clear hR2 vsb20 lb20 l21 lH22 hwb l202 l170 vvb
    have hq1 : ∀ o, Hp.cell H22 ⟨rb, o, none⟩ = (#[.int .i64 r1, .int .i64 r2] : Array Value)[o]? := fun o => cell_of vrb22
    have hq2 : ∀ o, Hp.cell H22 ⟨vb, o, none⟩ = (#[.int .i64 v1, .int .i64 v2] : Array Value)[o]? := fun o => cell_of vvb22
    have hq3 : ∀ o, Hp.cell H22 ⟨wb, o, none⟩ = (#[.int .i64 w1, .int .i64 w2] : Array Value)[o]? := fun o => cell_of vwb
    refine hK _ _ ?_
    clear hK K
    (try refine @unH _ (zQ ?_))
    refine Bki (fun e => e 4 = .pointer (some ⟨sb, 0, none⟩) /\ e 8 = .pointer (some ⟨xb, 0, none⟩) /\ e 9 = .int .i64 (p : Nat) /\ e 10 = .int .i64 (q : Nat) /\ e 11 = .pointer (some ⟨rb, 0, none⟩) /\ e 12 = .int .i64 re /\ e 17 = .int .i64 (k : Nat) /\ e 18 = .pointer (some ⟨vb, 0, none⟩) /\ e 19 = .int .i64 ve /\ e 20 = .pointer (some ⟨wb, 0, none⟩) /\ e 21 = .int .i64 we) ⟨e4, e8, e9, e10, e11, e12, e17, rfl, rfl, rfl, rfl⟩ ?_
    clear e4 e8 e9 e10 e11 e12 e17 e
    rintro e ⟨e4, e8, e9, e10, e11, e12, e17, e18, e19, e20, e21⟩
    rcases (show (ve = 11 /\ we = 11) ∨ (ve = 11 /\ we = 0) ∨ (ve = 0 /\ we = 11) ∨ (ve = 0 /\ we = 0 /\ re = 0 /\ ¬ v1 + w1 < r1 /\ ¬ v2 + w2 < r2) from hvw) with ⟨rfl, rfl⟩ | ⟨rfl, rfl⟩ | ⟨rfl, rfl⟩ | ⟨rfl, rfl, rfl, g1, g2⟩
    all_goals
     refine Axs (wpX_rz 30 (by rfl) ?_)
     intro K hK ops hOz
     (iterate 30 (refine @unH _ ?_; refine zR y3_166 ?_))
     (refine RZ_nil ?_; refine hK _ _ ?_; clear hK K; (try simp only [nq, ↓reduceIte, Nat.reduceEqDiff]))
     (refine @unH _ (zA y3_166 ?_); (repeat refine inC fun hc => ?_); try refine inK fun K hK => ?_)
     exact ⟨s.places.toNat - (k + 1), by omega, _, k + 1, rfl, by omega, rfl, e4, e8, e9, e10, e11, e12, rfl, l172⟩
   ·(refine @unH _ (zA y3_166 ?_); (repeat refine inC fun hc => ?_); try refine inK fun K hK => ?_)
    exact ⟨s.places.toNat - (q + 1), by omega, _, q + 1, rfl, by omega, rfl, e4, e8, e9, rfl, lb18⟩
  ·(refine @unH _ (zA y3_166 ?_); (repeat refine inC fun hc => ?_); try refine inK fun K hK => ?_)
   exact ⟨s.places.toNat - (p + 1), by omega, _, p + 1, rfl, by omega, rfl, e4, e8, rfl, lb⟩
 ·(refine @unH _ (zA y3_166 ?_); (repeat refine inC fun hc => ?_); try refine inK fun K hK => ?_)
  refine Axg (fun w a' H' => ∃ e, ∃ j : Nat, w = s.doors.length - j /\ j <= s.doors.length /\ a' = act 226 e [] /\ e 4 = .pointer (some ⟨sb, 0, none⟩) /\ e 22 = .int .i64 (j : Nat) /\ H9.le H') (n := s.doors.length) ?_ ?_
  ·exact ⟨_, 0, by omega, by omega, rfl, e4, rfl, lb⟩
  clear e4 e8 e9 e vsb vxb lb
  rintro w a' H11 ⟨e, j, rfl, hj, rfl, e4, e22, lb⟩
  have vsb := lb _ _ vsb9
  by_cases hlj : j < s.doors.length
  ·have hlj' : (j : Int) < s.doors.length := by omega
   have hkd := List.getElem?_eq_getElem hlj
   obtain ⟨lo, hi, hrd, g1, g2, g3⟩ := rea_door ok hkd
   have hkk := ok.dk _ (List.mem_of_getElem? hkd)
   have hsd' : SlD H9 (.slice da s.doors.length dc) s.doors := hsd
   obtain ⟨db, dof, dp, dcl, dfr, rfl, hdb2, hdsz, hdrl, hdext⟩ := SlG.get (SlG.le hsd' lb) (i := j) (r := Bjh s.doors[j]) (by rw [List.getElem?_map, hkd]; rfl)
   have hR := fun H l => (show ∀ H, _ -> ∀ a b, _ from hRs) H l s.doors[j].a s.doors[j].b
   rw [hrd] at hR
   generalize s.doors[j] = d at *
   unfold Bjh at hdext
   have g1' := Int.not_lt.2 g1
   have g2' := Int.not_lt.2 g2
   have g3' : ¬ lo < 1 := by omega
   clear hdrl hkd hrd hsd hsd' hkk g1 g2 g3
   replace hR : Aqk _ := hR
   (refine @unH _ (zA y3_166 ?_); (repeat refine inC fun hc => ?_); try refine inK fun K hK => ?_)
   (intro tb htb; generalize hG : Hp.set _ tb _ = H12; have lH12 := Aqc hG htb; have vtb := Aqb hG; clear hG)
   have lb12 := Hp.le_trans lb lH12
   have vsb12 := lb12 _ _ vsb9
   have hq0 : ∀ o, Hp.cell H12 ⟨tb, o, none⟩ = (#[.int .i64 d.a, .int .i64 d.b, .int .i64 d.mn, .int .i64 d.mx] : Array Value)[o]? := fun o => cell_of vtb
   clear vsb lb lH12 htb hdb2 hdsz hdext
   ((try refine @unH _ (zX y3_166 ?_)); (try (refine hK _ _ ?_; clear hK K; try refine @unH _ (zQ ?_))); refine @unH _ (zA y3_166 ?_); (repeat refine inC fun hc => ?_); try refine inK fun K hK => ?_)
   refine ((show ∀ H, _ -> _ from hR) H12 lb12).runs.mono ?_
   rintro _ H13 ⟨rfl, l13⟩
   ((try refine @unH _ (zX y3_166 ?_)); (try (refine hK _ _ ?_; clear hK K; try refine @unH _ (zQ ?_))); refine @unH _ (zA y3_166 ?_); (repeat refine inC fun hc => ?_); try refine inK fun K hK => ?_)
   (intro rb hrb; generalize hG : Hp.set _ rb _ = H14; have lH14 := Aqc hG hrb; have vrb := Aqb hG; clear hG)
   have l134 := Hp.le_trans l13 lH14
   have lb14 := Hp.le_trans lb12 l134
   have vtb14 := l134 _ _ vtb
   have hq1 : ∀ o, Hp.cell H14 ⟨tb, o, none⟩ = (#[.int .i64 d.a, .int .i64 d.b, .int .i64 d.mn, .int .i64 d.mx] : Array Value)[o]? := fun o => cell_of vtb14
   have hq2 : ∀ o, Hp.cell H14 ⟨rb, o, none⟩ = (#[.int .i64 lo, .int .i64 hi] : Array Value)[o]? := fun o => cell_of vrb
   clear hR vsb12 lb12 l13 lH14 hrb l134 vtb hq0
   refine hK _ _ ?_
   clear hK K
   (try refine @unH _ (zQ ?_))
   refine Bki (fun e => e 4 = .pointer (some ⟨sb, 0, none⟩) /\ e 22 = .int .i64 (j : Nat) /\ e 23 = .pointer (some ⟨tb, 0, none⟩) /\ e 24 = .pointer (some ⟨rb, 0, none⟩) /\ e 25 = .int .i64 0) ⟨e4, e22, rfl, rfl, rfl⟩ ?_
   clear e4 e22 e
   rintro e ⟨e4, e22, e23, e24, e25⟩
   refine Axs (wpX_rz 23 (by rfl) ?_)
   intro K hK ops hOz
   (iterate 23 (refine @unH _ ?_; refine zR y3_166 ?_))
   (refine RZ_nil ?_; refine hK _ _ ?_; clear hK K; (try simp only [nq, ↓reduceIte, Nat.reduceEqDiff]))
   (refine @unH _ (zA y3_166 ?_); (repeat refine inC fun hc => ?_); try refine inK fun K hK => ?_)
   exact ⟨s.doors.length - (j + 1), by omega, _, j + 1, rfl, by omega, rfl, e4, rfl, lb14⟩
  ·have hlj' : ¬ (j : Int) < s.doors.length := by omega
   (refine @unH _ (zA y3_166 ?_); (repeat refine inC fun hc => ?_); try refine inK fun K hK => ?_)
   refine (smelled_spec H11).runs.mono ?_
   rintro _ H12 ⟨rfl, l12⟩
   ((try refine @unH _ (zX y3_166 ?_)); (try (refine hK _ _ ?_; clear hK K; try refine @unH _ (zQ ?_))); refine @unH _ (zA y3_166 ?_); (repeat refine inC fun hc => ?_); try refine inK fun K hK => ?_)
   (refine Axp ?_; (try simp only [nq, ↓reduceIte, Nat.reduceEqDiff]); rw [Aq6, Ayq Tryz.results3 (by decide)]; simp only [Axl, Nat.reduceEqDiff, ↓reduceIte])
end Go.Proofs.YtkcomnkgdifboaaGreatDoor
end
section
namespace Go.Proofs.YtkcomnkgdifboaaGreatDoor
open Go Go.X Go.ChangeShapes Go.WideShapes Go.RowKit
set_option maxRecDepth 100000 in
theorem law_lifted (os : Os) (started : os.Started) (H : Type) (enc : TypeId × Value -> H) :
  ReturnsInLeavingWide {} Tryz.checked os 3 .any (fun w args => (Rows.smellReachSpec.pre enc Tryz.prog Tryz.f3 [] false w args /\ laidMetH Tryz.prog [("errors.errorType", Rows.laid_errors_errorType)] w) /\ sizedMet enc Tryz.prog Tryz.f3 (OpenSpec.ofChange Rows.smellReachSpec) false w args)
   (Rows.smellReachSpec.post enc Tryz.prog Tryz.f3 false true false false) := by
 refine leaving_of_change_and (C := Tryz.checked) (X := fun w _ => laidMetH Tryz.prog [("errors.errorType", Rows.laid_errors_errorType)] w) (fun _ _ _ hh h => h.of_heap hh) ownK started Tryz.func3
  (ChangeSpec.witness_at (enc := enc) (C := Tryz.checked) (os := os) (X := fun w _ => laidMetH Tryz.prog [("errors.errorType", Rows.laid_errors_errorType)] w) false (laidWorld os) #[.slice none 0 0] 8 rfl (by kernel_rfl) (by kernel_rfl) (by kernel_rfl) (by kernel_rfl) (by kernel_rfl) (laidWorld_met os _)) ?_
 intro W base args ds gs before hval0 hW hL
 have hval : ∀ (j : Nat) t v, Tryz.f3.params[j]? = some t -> args[j]? = some v -> Value.okWide Tryz.prog W .any base t v := hval0
 have hW' := hW
 obtain ⟨p, q, hA0, hV0, rfl, hfz, hnd⟩ := hW
 have hA : DataW.TrodAll enc Tryz.prog W 0 (fun _ => true) true Tryz.f3.params.toList args.toList ds p := hA0
 have hV : DataW.TrodVars enc Tryz.prog W (fun _ => true) [] gs q := hV0
 rw [Tryz.params3] at hA hval
 obtain ⟨v0, d0, rfl, rfl, h0⟩ := trodAll_one hA
 obtain ⟨a0, len, cap, rfl⟩ := okWide_slice Tryz.underlying22 (hval 0 22 v0 rfl rfl)
 have h0k := h0
 obtain ⟨fuel, hf⟩ := h0
 obtain ⟨rfl, rfl⟩ : gs = [] /\ q = [] := by
  cases gs with
  | nil => exact ⟨rfl, hV⟩
  | cons g r => exact absurd hV (by intro h; cases h)
 have e1 : Rows.smellReachSpec.fn H ([d0] ++ []) = { results := [.lit (.bool true)], args := [d0] } := by simp [Rows.smellReachSpec]
 have hcells : ∀ i : Nat, i < len -> ∃ sb so c e fr x, a0 = some ⟨sb, so, none⟩ /\ Ay2 W sb = some (false, .cells c e fr) /\ c[so + i]? = some (.int .i64 x) := by
  rcases open_ints Tryz.underlying22 Tryz.underlying3 cellsK hf with ⟨hcs, _⟩ | ⟨a, len', cap', zs, hcs, _, hl, hm, hz, hx, hcell, hwz⟩
  ·simp [Value.cells] at hcs
   intro i hi
   omega
  ·simp [Value.cells] at hcs
   obtain ⟨rfl, rfl, rfl⟩ := hcs
   intro i hi
   simp only [if_true] at hz
   have hc := hcell i (by omega)
   obtain ⟨b, off, spot⟩ := a
   have hspot : spot = none := by simpa [Addr.add] using World.cell?_spot (hcell 0 (by omega))
   subst hspot
   rw [add_plain] at hc
   unfold World.cell? at hc
   split at hc
   ·rename_i c e fr hb
    exact ⟨b, off, c, e, fr, _, rfl, by simp [Ay2, hb], by simpa using hc⟩
   ·cases hc
 have hlt : ∀ x ∈ p, x.block < W.heap.size := fun x hx => by simpa using hW'.lt x (by simpa using hx)
 obtain ⟨N, last, o, w', t', r1, r2, r3, v, hv, ⟨rfl, hB⟩, r4⟩ := (lsreach_spec (Ay2 W) a0 len cap hcells).goodW Tryz.func3 (results_tmp Tryz.results3 _) (by kernel_rfl)
 refine ⟨N, last, o, w', t', r1, r2, r3, _, hv, ?_, r4⟩
 have hb := hB.below
 refine ⟨_, _, _, [], p, [], hW', ?_, ?_, ?_, hB.kept _, fun h => by cases h⟩
 ·rw [e1]; exact trodAll_mk1 (shut_bool Tryz.underlying4 true)
 ·rw [e1]
  have t := trodAll_mk1 (DataW.Trod.of_heap (w := { w' with tape := W.tape }) (w' := w') rfl (Below.trod laidOutK (by kernel_rfl) (of_decide_eq_true (by kernel_rfl)) h0k hb hlt))
  exact t
 ·rw [e1]; rfl
end Go.Proofs.YtkcomnkgdifboaaGreatDoor
end
section
namespace Go.Proofs.YtkcomnkgdifboaaGreatDoor
open Go Go.X Go.ChangeShapes Go.WideShapes Go.RowKit
theorem jEnter : Program.mayEnter Tryz.pinned.checked.prog = true := factEnter
theorem jLift : (Rows.smellReachRow.lifted == Program.liftsFinal Tryz.pinned.checked.prog) = true := by rw [show Program.liftsFinal Tryz.pinned.checked.prog = Rows.smellReachRow.lifted from factLift]; exact beq_self_eq_true _
theorem jMake : (Program.make Tryz.pinned.checked.prog == some Rows.smellReachRow.make) = true := by rw [show Program.make Tryz.pinned.checked.prog = some Rows.smellReachRow.make from factMake]; exact beq_self_eq_true _
set_option maxRecDepth 100000 in
theorem jf : joinedFacts Tryz.pinned.checked.prog 3 Tryz.f3 Rows.smellReachSpec Rows.smellReachRow = true := by
 unfold joinedFacts
 simp only [jEnter, jLift, jMake, Bool.and_true]
 kernel_rfl
set_option maxRecDepth 100000 in
theorem smellReach_said : Rows.SmellReachSaid :=
 OpenClaim.holds_of_wide_leaving 3 Tryz.f3 rfl rfl rfl rfl rfl rfl rfl ⟨rfl, rfl, rfl, rfl, rfl⟩ rfl rfl rfl rfl rfl (by kernel_rfl) Tryz.func3 jf
  (of_decide_eq_true (by kernel_rfl)) (by unfold Func.isWrapper; rw [if_neg (of_decide_eq_false (by kernel_rfl))]; exact ⟨rfl, rfl⟩)
  (fun os started H enc _ => law_lifted os started H enc)
end Go.Proofs.YtkcomnkgdifboaaGreatDoor
end
