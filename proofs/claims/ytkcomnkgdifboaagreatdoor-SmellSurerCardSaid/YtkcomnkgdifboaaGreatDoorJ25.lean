/- Texts PlanG SmKs SmKm SmNr LSSurer PSmellSurer SSmellSurer. -/
import Derived.Test.YtkcomnkgdifboaaGreatDoorJ24
import Derived.Test.YtkcomnkgdifboaaGreatDoorAFactA
import Derived.Test.YtkcomnkgdifboaaGreatDoorAFactSB
import Derived.Test.YtkcomnkgdifboaaGreatDoorAFactSC
set_option linter.defProp false
set_option linter.unusedSimpArgs false
set_option linter.unusedVariables false
set_option maxRecDepth 100000
set_option maxHeartbeats 2000000
section
namespace Go.X
open Go
section
variable {P : Program} {main : Md} {lp : Option Nat} {Q : Exit -> Act -> Hp -> Prop} {l : List Oper} {n : Nat} {e0 : Nat -> Value} {ds : List Deferred} {Φ : Nat -> Value -> Hp -> Prop} {H0 : Hp}
def depB (l : List Oper) (i k t : Nat) : Bool := match l[k]? with
 | none => false
 | some o => o.dst == some t && k != i && (waitsFor l.toArray i).getD k false
def nodB (l : List Oper) (t : Nat) : Bool := l.all fun o => o.dst != some t
def growG (P : Program) (main : Md) (lp : Option Nat) (Q : Exit -> Act -> Hp -> Prop) (l : List Oper) (n : Nat) (e0 : Nat -> Value) (ds : List Deferred) (Φ : Nat -> Value -> Hp -> Prop) (H0 : Hp) (i : Nat) (o : Oper) (K : (Nat -> Value) -> Hp -> Act -> Hp -> Prop) : Prop :=
 ∀ e H, H0.le H -> (∀ t, nodB l t = true -> e t = e0 t) -> (∀ k t, depB l i k t = true -> Φ k (e t) H) -> fine lp o = true /\ opX P main lp o (act n e ds) H (K e H) Q
def growOK (l : List Oper) (n : Nat) : Bool :=
 (l.length != 0) && (List.range l.length).all fun i => match l[i]? with
 | none => true
 | some o => o.guard.isNone && (match o.dst with | none => true | some t => decide (t < n)) && (o.after.all fun e => !(Region.binds .any e) || decide (e.on < i)) && (i + 1 == l.length || (waitsFor l.toArray (l.length - 1)).getD i false) &&
  (List.range l.length).all fun k => k == i || (match l[k]? with | none => true | some o' => o.dst.isNone || o'.dst != o.dst)
structure GrowOK (l : List Oper) (n : Nat) : Prop where
 ne : l.length ≠ 0
 guard : ∀ (i : Nat) (o : Oper), l[i]? = some o -> o.guard = none
 dst : ∀ (i : Nat) (o : Oper) (t : Tmp), l[i]? = some o -> o.dst = some t -> t < n
 aft : ∀ (i : Nat) (o : Oper), l[i]? = some o -> ∀ e ∈ o.after, Region.binds .any e = true -> e.on < i
 last : ∀ i, i + 1 < l.length -> (waitsFor l.toArray (l.length - 1)).getD i false = true
 apart : ∀ (i k : Nat) (o o' : Oper) (t : Tmp), l[i]? = some o -> l[k]? = some o' -> k ≠ i -> o.dst = some t -> o'.dst ≠ some t
theorem growOK_spec (h : growOK l n = true) : GrowOK l n := by
 unfold growOK at h
 simp only [Bool.and_eq_true, bne_iff_ne, ne_eq] at h
 obtain ⟨h0, h⟩ := h
 have h1 : ∀ (i : Nat) (o : Oper), l[i]? = some o -> _ := fun i o hi => by
  have := List.all_eq_true.1 h i (List.mem_range.2 (List.getElem?_eq_some_iff.1 hi).1)
  rw [hi] at this
  simp only [Bool.and_eq_true] at this
  exact this
 refine ⟨h0, fun i o hi => by simpa using (h1 i o hi).1.1.1.1, fun i o t hi hd => ?_, fun i o hi e he hb => ?_, fun i hi => ?_, fun i k o o' t hi hk hne hd hd' => ?_⟩
 ·have := (h1 i o hi).1.1.1.2
  rw [hd] at this
  simpa using this
 ·have := (h1 i o hi).1.1.2
  rw [Array.all_eq_true_iff_forall_mem] at this
  have := this e he
  rw [hb] at this
  simpa using this
 ·have := (h1 i _ (List.getElem?_eq_getElem (by omega))).1.2
  simp only [Bool.or_eq_true, beq_iff_eq] at this
  exact this.resolve_left (by omega)
 ·have := List.all_eq_true.1 (h1 i o hi).2 k (List.mem_range.2 (List.getElem?_eq_some_iff.1 hk).1)
  rw [hk, hd] at this
  simp [hne, hd'] at this
structure GrowI (l : List Oper) (n : Nat) (e0 : Nat -> Value) (ds : List Deferred) (Φ : Nat -> Value -> Hp -> Prop) (H0 : Hp) (listed : Array Bool) (a : Act) (H : Hp) : Prop where
 le : H0.le H
 env : ∃ e, a = act n e ds /\ (∀ t, nodB l t = true -> e t = e0 t) /\ ∀ (k : Nat) (o : Oper) (t : Tmp), l[k]? = some o -> o.dst = some t -> listed.getD k false = true -> Φ k (e t) H
theorem growG.num {i : Nat} {o : Oper} {K : (Nat -> Value) -> Hp -> Act -> Hp -> Prop} (h : growG P main lp Q l n e0 ds Φ H0 i o K) (hi : l[i]? = some o) (hg : o.guard = none) {listed : Array Bool} (hc : Closed l.toArray listed) (hr : i ∈ Region.ready .any l.toArray listed) {e : Nat -> Value} {H : Hp} (hle : H0.le H) (he : ∀ t, nodB l t = true -> e t = e0 t) (hf : ∀ (k : Nat) (o : Oper) (t : Tmp), l[k]? = some o -> o.dst = some t -> listed.getD k false = true -> Φ k (e t) H) :
  numX P main lp l.toArray i Q (K e H) (act n e ds) H := by
 rw [Bqz]
 have hw : Region.wanted o (yielded l.toArray (act n e ds).tmps) = true := by unfold Region.wanted; rw [hg]
 simp only [List.getElem?_toArray, hi, hw, if_true]
 refine h e H hle he fun k t hk => ?_
 unfold depB at hk
 cases ho : l[k]? with
 | none => rw [ho] at hk; cases hk
 | some ok =>
  rw [ho] at hk
  simp only [Bool.and_eq_true, beq_iff_eq, bne_iff_ne, ne_eq] at hk
  exact hf k ok t ho hk.1.1 (((Bxk hk.2).resolve_left hk.1.2).listed hc hr)
theorem grow_any (hst : ∀ k v H H', Φ k v H -> H.le H' -> Φ k v H') (ok : GrowOK l n)
  (hs : ∀ (i : Nat) (o : Oper), l[i]? = some o -> i + 1 < l.length -> growG P main lp Q l n e0 ds Φ H0 i o fun e H a' H' => H.le H' /\ ∃ v, a' = (act n e ds).put o.dst v /\ Φ i v H')
  (hl : ∀ o, l[l.length - 1]? = some o -> growG P main lp Q l n e0 ds Φ H0 (l.length - 1) o fun _ _ a' H' => Q .normal a' H') :
  ∀ (fuel : Nat) (listed : Array Bool) (a : Act) (H : Hp), listed.size = l.length -> listed.toList.count false <= fuel -> Closed l.toArray listed ->
   ((listed.getD (l.length - 1) false = false /\ GrowI l n e0 ds Φ H0 listed a H) ∨ ((∀ k, k < l.length -> listed.getD k false = true) /\ Q .normal a H)) -> anyX P main lp l.toArray Q (fun _ => True) fuel listed a H := by
 have hall : ∀ listed : Array Bool, (∀ k, k < l.length -> listed.getD k false = true) -> listed.size = l.length -> Region.ready .any l.toArray listed = [] := fun listed h hsz => by
  cases hr : Region.ready .any l.toArray listed with
  | nil => rfl
  | cons i r =>
   obtain ⟨h1, o, ho, _⟩ := mem_ready.1 (show i ∈ Region.ready .any l.toArray listed by rw [hr]; exact List.mem_cons_self)
   rw [List.getElem?_toArray] at ho
   have hlt := (List.getElem?_eq_some_iff.1 ho).1
   have := h i hlt
   simp [Array.getD, hsz, hlt] at h1 this
   rw [this] at h1
   cases h1
 have hlive : ∀ listed : Array Bool, listed.size = l.length -> listed.getD (l.length - 1) false = false -> Region.ready .any l.toArray listed ≠ [] := fun listed hsz hlast => by
  have key : ∀ m i, i < m -> i < l.length -> listed.getD i false = false -> ∃ j, j ∈ Region.ready .any l.toArray listed := by
   intro m
   induction m with
   | zero => intro i hi; omega
   | succ m ih =>
    intro i hi hil hun
    by_cases hex : ∃ j, j < i /\ listed.getD j false = false
    ·obtain ⟨j, hj, hju⟩ := hex
     exact ih j (by omega) (by omega) hju
    ·refine ⟨i, mem_ready.2 ⟨?_, l[i], by simp [hil], fun e he hb => ?_⟩⟩
     ·simpa [Array.getD, hsz, hil] using hun
     ·have := ok.aft i _ (List.getElem?_eq_getElem hil) e he hb
      cases hq : listed.getD e.on false with
      | true => rfl
      | false => exact absurd ⟨_, this, hq⟩ hex
  obtain ⟨j, hj⟩ := key l.length (l.length - 1) (by have := ok.ne; omega) (by have := ok.ne; omega) hlast
  intro h0
  rw [h0] at hj
  cases hj
 intro fuel
 induction fuel with
 | zero =>
  intro listed a H hsz hcnt hcl hI
  rcases hI with ⟨hlast, _⟩ | ⟨h, hq⟩
  ·exfalso
   have h0 : l.length - 1 < listed.toList.length := by have := ok.ne; simp [hsz]; omega
   have h1 : false ∈ listed.toList := by
    have h2 : listed.toList[l.length - 1] = false := by
     have h3 : l.length - 1 < listed.size := by simpa using h0
     simpa [Array.getD, h3] using hlast
    rw [<- h2]
    exact List.getElem_mem h0
   have := List.count_pos_iff.2 h1
   omega
  ·exact ⟨hall listed h hsz, hq⟩
 | succ fuel ih =>
  intro listed a H hsz hcnt hcl hI
  rcases hI with ⟨hlast, hG⟩ | ⟨h, hq⟩
  ·refine ⟨fun h0 => absurd h0 (hlive listed hsz hlast), fun i hi => ?_⟩
   obtain ⟨h1, o, ho, hdeps⟩ := mem_ready.1 hi
   rw [List.getElem?_toArray] at ho
   have hlt := (List.getElem?_eq_some_iff.1 ho).1
   have hsz' : (listed.setIfInBounds i true).size = l.length := by simp [hsz]
   have hcnt' : (listed.setIfInBounds i true).toList.count false <= fuel := by
    have h2 : i < listed.toList.length := by simpa [hsz] using hlt
    have h3 : listed.toList[i] = false := by
     have h4 : i < listed.size := by simpa using h2
     simpa [Array.getD, h4] using h1
    rw [Array.toList_setIfInBounds, List.count_set h2, h3]
    simp only [beq_self_eq_true, if_true]
    have := List.count_pos_iff.2 (show false ∈ listed.toList by rw [<- h3]; exact List.getElem_mem h2)
    simp only [Bool.true_eq_false, beq_iff_eq, if_false, Nat.add_zero]
    omega
   obtain ⟨hle, e, rfl, he, hf⟩ := hG
   by_cases hil : i + 1 < l.length
   ·refine Axy (fun a' H' h' => ⟨trivial, ih _ a' H' hsz' hcnt' (hcl.set hi) (.inl ⟨?_, ?_⟩)⟩) ((hs i o ho hil).num ho (ok.guard i o ho) hcl hi hle he hf)
    ·rw [getD_set_ne false (by omega)]
     exact hlast
    ·obtain ⟨hle', v, rfl, hv⟩ := h'
     refine ⟨fun x u hx => hle' _ _ (hle _ _ hx), ?_⟩
     cases hd : o.dst with
     | none =>
      refine ⟨e, rfl, he, fun k ok' t hk hdk hlk => ?_⟩
      by_cases hki : k = i
      ·subst hki
       rw [ho] at hk
       cases hk
       rw [hd] at hdk
       cases hdk
      ·rw [getD_set_ne false (Ne.symm hki)] at hlk
       exact hst _ _ _ _ (hf k ok' t hk hdk hlk) hle'
     | some t0 =>
      refine ⟨upd e t0 v, by rw [Aq3 (ok.dst i o t0 ho hd)], fun t ht => ?_, fun k ok' t hk hdk hlk => ?_⟩
      ·have hne : t ≠ t0 := by
        rintro rfl
        have := List.all_eq_true.1 ht o (List.mem_of_getElem? ho)
        simp [hd] at this
       rw [Axl, if_neg hne]
       exact he t ht
      ·by_cases hki : k = i
       ·subst hki
        rw [ho] at hk
        cases hk
        rw [hd] at hdk
        cases hdk
        rw [Axl, if_pos rfl]
        exact hv
       ·rw [getD_set_ne false (Ne.symm hki)] at hlk
        have hne : t ≠ t0 := by
         rintro rfl
         exact ok.apart i k o ok' t ho hk hki hd hdk
        rw [Axl, if_neg hne]
        exact hst _ _ _ _ (hf k ok' t hk hdk hlk) hle'
   ·obtain rfl : i = l.length - 1 := by omega
    refine Axy (fun a' H' h' => ⟨trivial, ih _ a' H' hsz' hcnt' (hcl.set hi) (.inr ⟨fun k hk => ?_, h'⟩)⟩) ((hl o ho).num ho (ok.guard _ o ho) hcl hi hle he hf)
    by_cases hkl : k = l.length - 1
    ·subst hkl
     simp [Array.getD, hsz, hk]
    ·rw [getD_set_ne false (Ne.symm hkl)]
     exact ((Bxk (ok.last k (by omega))).resolve_left hkl).listed hcl hi
  ·refine ⟨fun _ => hq, fun i hi => ?_⟩
   rw [hall listed h hsz] at hi
   cases hi
def growAll (P : Program) (main : Md) (lp : Option Nat) (Q : Exit -> Act -> Hp -> Prop) (l : List Oper) (n : Nat) (e0 : Nat -> Value) (ds : List Deferred) (Φ : Nat -> Value -> Hp -> Prop) (H0 : Hp) : List Oper -> Nat -> Prop
 | [], _ => True
 | [o], i => growG P main lp Q l n e0 ds Φ H0 i o fun _ _ a' H' => Q .normal a' H'
 | o :: o' :: r, i => growG P main lp Q l n e0 ds Φ H0 i o (fun e H a' H' => H.le H' /\ ∃ v, a' = (act n e ds).put o.dst v /\ Φ i v H') /\ growAll P main lp Q l n e0 ds Φ H0 (o' :: r) (i + 1)
theorem growAll_cons {o o' : Oper} {r : List Oper} {i : Nat} (h : growG P main lp Q l n e0 ds Φ H0 i o (fun e H a' H' => H.le H' /\ ∃ v, a' = (act n e ds).put o.dst v /\ Φ i v H')) (h' : growAll P main lp Q l n e0 ds Φ H0 (o' :: r) (i + 1)) : growAll P main lp Q l n e0 ds Φ H0 (o :: o' :: r) i := ⟨h, h'⟩
theorem growAll_one {o : Oper} {i : Nat} (h : growG P main lp Q l n e0 ds Φ H0 i o fun _ _ a' H' => Q .normal a' H') : growAll P main lp Q l n e0 ds Φ H0 [o] i := h
theorem growAll_get : ∀ (r : List Oper) (s : Nat), growAll P main lp Q l n e0 ds Φ H0 r s -> (∀ (i : Nat) (o : Oper), r[i]? = some o -> i + 1 < r.length -> growG P main lp Q l n e0 ds Φ H0 (s + i) o fun e H a' H' => H.le H' /\ ∃ v, a' = (act n e ds).put o.dst v /\ Φ (s + i) v H') /\
  ∀ o, r[r.length - 1]? = some o -> growG P main lp Q l n e0 ds Φ H0 (s + (r.length - 1)) o fun _ _ a' H' => Q .normal a' H'
 | [], _, _ => ⟨fun i o hi => by simp at hi, fun o hi => by simp at hi⟩
 | [o], s, h => ⟨fun i o hi hl => by simp at hl, fun o' ho => by
   simp at ho
   subst ho
   exact h⟩
 | o :: o' :: r, s, h => by
  have ih := growAll_get (o' :: r) (s + 1) h.2
  refine ⟨fun i x hi hl => ?_, fun x hx => ?_⟩
  ·cases i with
   | zero =>
    simp only [List.getElem?_cons_zero, Option.some.injEq] at hi
    subst hi
    exact h.1
   | succ i =>
    have := ih.1 i x (by simpa using hi) (by simpa using hl)
    rw [show s + (i + 1) = s + 1 + i by omega]
    exact this
  ·have := ih.2 x (by simpa using hx)
   rw [show s + ((o :: o' :: r).length - 1) = s + 1 + ((o' :: r).length - 1) by simp; omega]
   exact this
theorem wpX_grow {id : Nat} (Φ : Nat -> Value -> Hp -> Prop) (hm : P.follows .mixedOrders = true) (hok : growOK l n = true) (hst : ∀ k v H H', Φ k v H -> H.le H' -> Φ k v H')
  (h : growAll P main lp Q l n e0 ds Φ H0 l 0) : wpX P main lp (.region id l.toArray true) Q (act n e0 ds) H0 := by
 have ok := growOK_spec hok
 have hg := growAll_get l 0 h
 refine Bvo (fun _ => True) hm (grow_any hst ok (fun i o hi hl => by simpa using hg.1 i o hi hl) (fun o ho => by simpa using hg.2 o ho) _ _ _ _ ?_ ?_ .start (.inl ⟨?_, Hp.le_refl _, e0, rfl, fun _ _ => rfl, fun k o t hk hd hl => ?_⟩))
 ·simp
 ·simp
 ·simp [Array.getD]
 ·exfalso
  by_cases hk2 : k < l.length <;> simp [Array.getD, hk2] at hl
theorem wpX_gstmt {id : Nat} {y : Code} (Φ : Nat -> Value -> Hp -> Prop) (hm : P.follows .mixedOrders = true) (hok : growOK l n = true) (hst : ∀ k v H H', Φ k v H -> H.le H' -> Φ k v H')
  (h : ∀ K : Act -> Hp -> Prop, (∀ a' H', wpX P main lp y Q a' H' -> K a' H') -> growAll P main lp (only K) l n e0 ds Φ H0 l 0) : wpX P main lp (.seq (.region id l.toArray true) y) Q (act n e0 ds) H0 := by
 refine Axs ?_
 refine Az6 (Q := only fun a' H' => wpX P main lp y Q a' H') (wpX_grow Φ hm hok hst (h _ fun _ _ h => h)) fun e a H q => ?_
 cases e <;> first | exact q | exact q.elim
end
end Go.X
end
section
namespace Go.Proofs.YtkcomnkgdifboaaGreatDoor
open Go Go.X
def y11_152 := And.intro (fun H => Aqv (H := H) (P := Tryz.prog) (h := Tryz.zeroValue28)) (And.intro (fun H => Aqd (H := H) Tryz.underlying28 (i := 0) rfl (off := 0) rfl Tryz.sizeOf3) (And.intro (fun H => Aqg (H := H) Tryz.underlying3 rfl) (And.intro (fun H => Aqd (H := H) Tryz.underlying28 (i := 1) rfl (off := 1) rfl Tryz.sizeOf25) (And.intro (fun H => Aqg (H := H) Tryz.underlying25 rfl) (And.intro (fun H => Aqd (H := H) Tryz.underlying28 (i := 2) rfl (off := 2) rfl Tryz.sizeOf22) (And.intro (fun H => Aqg (H := H) Tryz.underlying22 rfl) (And.intro @Dzn (And.intro (fun H => Aqd (H := H) Tryz.underlying28 (i := 3) rfl (off := 3) rfl Tryz.sizeOf26) (And.intro (fun H => Aqg (H := H) Tryz.underlying26 rfl) (And.intro @Bxm (fun H => Aqs (H := H) Tryz.sizeOf28)))))))))))
theorem append_newG {P : Program} {tt e : TypeId} {sz : Nat} {z : Value} {inf : TypeInfo} (hsz : 0 < sz) (hu : P.underlying tt = some (.slice e)) (hs : ∀ w, (sizeOf e).run P w = .ok sz w) (hz : ∀ w, (zeroValue e).run P w = .ok z w) (hzc : z.cells.size = sz)
  (hi : ∀ w, (typeInfo e).run P w = .ok inf w) (hby : inf.bytes <= 1024) (hby0 : 0 < inf.bytes) {H : Hp} {b : Nat} (hb : H b = some (true, .cells #[] e (0, 0))) {rows : List (List Value)} {g : Option Addr} {m cap : Nat} (h2 : SlG e sz H (.slice g m cap) rows) (hn : m <= 1000000)
  (ty : TypeId) (cb : Array Bool) (K : Next -> Hp -> Prop) (E : Value -> Hp -> Prop) (h : ∀ v' H', RowG e sz H' v' rows -> H.le H' -> (∀ x, rowB v' = some x -> x = b ∨ H x = none) -> K (.value v') H') :
  wpS P (builtin .append #[tt, tt] ty cb #[.slice (some ⟨b, 0, none⟩) 0 0, .slice g m cap]) H K E := by
 have hl2 := h2.len.1
 refine Bv1 hsz hu hs hz hzc hi hby hby0 ((RowG.new0 (sz := sz) hb).slG hsz) h2 (by omega) ty cb K E (fun e => h _ H (by rw [e]; exact RowG.new0 hb) (Hp.le_refl _) fun x hx => .inl ?_) fun b' C N hb' _ hN hC hall hget => h _ _ ⟨⟨(fun _ _ h => by cases h), .inr ⟨b', C, N, rfl, Axe, by rw [Nat.zero_add, hl2], hC, by omega, ?_, ?_⟩⟩, by simpa using hall⟩ (Hp.le_set hb') fun x hx => .inr ?_
 ·simp only [rowB, Option.some.injEq] at hx
  exact hx.symm
 ·have hr : ∀ r ∈ rows, (id r : List Value).length = sz := fun r hr => hall r (by simpa using hr)
  rw [Avn id sz rows hr]
 ·simpa using hget
 ·simp only [rowB, Option.some.injEq] at hx
  rw [<- hx]
  exact hb'
theorem rowX_G {H0 H : Hp} {v : Value} {xs : List Int} (h : RowX none H0 H v 3 (ints xs)) : RowG 3 1 H v (int1 xs) /\ ∀ x, rowB v = some x -> H0 x = none := by
 have hf : (int1 xs).flatMap id = ints xs := by
  unfold int1 ints
  clear h
  induction xs with
  | nil => rfl
  | cons x xs ih => simp_all [List.flatMap_cons]
 have hl : (int1 xs).length = xs.length := by simp [int1]
 have hr : ∀ r ∈ int1 xs, r.length = 1 := fun r hr => by
  obtain ⟨x, _, rfl⟩ := List.mem_map.1 hr
  rfl
 rcases h.2 with ⟨rfl, h0⟩ | ⟨b, c, cap, h0, hb, rfl, h1, h2, h3⟩
 ·have : xs = [] := by cases xs with | nil => rfl | cons x l => simp [ints] at h0
  subst this
  exact ⟨RowG.nil, fun x hx => by cases hx⟩
 ·have hi : (ints xs).length = xs.length := Aqz xs
  rw [hi] at h2 ⊢
  refine ⟨⟨⟨(fun _ _ h => by cases h), .inr ⟨b, c, cap, rfl, hb, by rw [hl], by omega, by omega, by rw [hf, hi, hl, Nat.mul_one], by rw [hf]; exact h3⟩⟩, hr⟩, fun x hx => ?_⟩
  simp only [rowB, Option.some.injEq] at hx
  rw [<- hx]
  exact h0
structure SmRow (H0 H : Hp) (dv hv nv : Value) (s : Sm) : Prop where
 dd : RowG 35 4 H dv (s.doors.map Bjh)
 hh : RowG 3 1 H hv (int1 s.hampers)
 nn : RowG 49 3 H nv (s.noses.map Bjm)
 dn : ∀ x, rowB dv = some x -> H0 x = none
 hn : ∀ x, rowB hv = some x -> H0 x = none
 nw : ∀ x, rowB nv = some x -> H0 x = none
theorem SmRow.smIn {H0 H : Hp} {dv hv nv : Value} {s : Sm} (h : SmRow H0 H dv hv nv s) : SmIn H dv hv nv s := ⟨h.dd.slG (by decide), SlG.ints1 (h.hh.slG (by decide)), h.nn.slG (by decide)⟩
theorem RowG.le {e : TypeId} {sz : Nat} {H H' : Hp} {v : Value} {rows : List (List Value)} (h : RowG e sz H v rows) (hl : H.le H') : RowG e sz H' v rows := h.keep fun x u _ hu => hl _ _ hu
theorem SmRow.le {H0 H H' : Hp} {dv hv nv : Value} {s : Sm} (h : SmRow H0 H dv hv nv s) (hl : H.le H') : SmRow H0 H' dv hv nv s := ⟨h.dd.le hl, h.hh.le hl, h.nn.le hl, h.dn, h.hn, h.nw⟩
theorem RowG.put {e : TypeId} {sz : Nat} {H : Hp} {v : Value} {rows : List (List Value)} (h : RowG e sz H v rows) {b : Nat} {q : Bool} {c : Array Value} {t : TypeId} {fr : Nat × Nat} (hb : H b = some (q, .cells c t fr)) (hne : e ≠ t) (o : Obj) : RowG e sz (H.set b o) v rows := h.keep fun x u hx hu => by
 rw [Aqw (h.bound hx hb fun c' hc => by simp only [Obj.cells.injEq] at hc; exact hne hc.2.1.symm)]
 exact hu
theorem SmRow.put {H0 H : Hp} {dv hv nv : Value} {s : Sm} (h : SmRow H0 H dv hv nv s) {b : Nat} {q : Bool} {c : Array Value} {fr : Nat × Nat} (hb : H b = some (q, .cells c 28 fr)) {o : Obj} : SmRow H0 (H.set b o) dv hv nv s := ⟨h.dd.put hb (by decide) o, h.hh.put hb (by decide) o, h.nn.put hb (by decide) o, h.dn, h.hn, h.nw⟩
theorem SmIn.lexT {H H' : Hp} {dv hv nv : Value} {s : Sm} (h : SmIn H dv hv nv s) {b k : Nat} (hT : TinI H b k) (hl : Lex (some b) H H') : SmIn H' dv hv nv s := ⟨SlG.lexT h.dd hT (by decide) hl, h.hh.lex hl hT, SlG.lexT h.nn hT (by decide) hl⟩
theorem SmRow.lexT {H0 H H' : Hp} {dv hv nv : Value} {s : Sm} (h : SmRow H0 H dv hv nv s) {b k : Nat} (hT : TinI H b k) (hl : Lex (some b) H H') : SmRow H0 H' dv hv nv s := ⟨h.dd.lexT hT (by decide) hl, h.hh.lexT hT (by decide) hl, h.nn.lexT hT (by decide) hl, h.dn, h.hn, h.nw⟩
def ksΦ (H0 : Hp) (sb : Nat) (s : Sm) (dv hv nv : Value) : Nat -> Value -> Hp -> Prop
 | 0 => fun v _ => v = .pointer (some ⟨sb, 0, none⟩)
 | 1 => fun v _ => v = .int .i64 s.places
 | 2 => fun v H => ∃ b, v = .slice (some ⟨b, 0, none⟩) 0 0 /\ H b = some (true, .cells #[] 35 (0, 0)) /\ H0 b = none
 | 3 => fun v _ => v = .pointer (some ⟨sb, 1, none⟩)
 | 4 => fun v _ => v = dv
 | 5 => fun v H => RowG 35 4 H v (s.doors.map Bjh) /\ ∀ x, rowB v = some x -> H0 x = none
 | 6 => fun v _ => v = .pointer (some ⟨sb, 2, none⟩)
 | 7 => fun v _ => v = hv
 | 8 => fun v H => RowG 3 1 H v (int1 s.hampers) /\ ∀ x, rowB v = some x -> H0 x = none
 | 9 => fun v H => ∃ b, v = .slice (some ⟨b, 0, none⟩) 0 0 /\ H b = some (true, .cells #[] 49 (0, 0)) /\ H0 b = none
 | 10 => fun v _ => v = .pointer (some ⟨sb, 3, none⟩)
 | 11 => fun v _ => v = nv
 | 12 => fun v H => RowG 49 3 H v (s.noses.map Bjm) /\ ∀ x, rowB v = some x -> H0 x = none
 | 13 => fun v H => ∃ dv' hv' nv', v = smV s.places dv' hv' nv' /\ SmRow H0 H dv' hv' nv' s
 | _ => fun _ _ => True
theorem ksΦ_le {H0 : Hp} {sb : Nat} {s : Sm} {dv hv nv : Value} : ∀ (k : Nat) (v : Value) (H H' : Hp), ksΦ H0 sb s dv hv nv k v H -> H.le H' -> ksΦ H0 sb s dv hv nv k v H'
 | 0, _, _, _, h, _ | 1, _, _, _, h, _ | 3, _, _, _, h, _ | 4, _, _, _, h, _ | 6, _, _, _, h, _ | 7, _, _, _, h, _ | 10, _, _, _, h, _ | 11, _, _, _, h, _ => h
 | 2, _, _, _, ⟨b, h1, h2, h3⟩, hl | 9, _, _, _, ⟨b, h1, h2, h3⟩, hl => ⟨b, h1, hl _ _ h2, h3⟩
 | 5, _, _, _, ⟨h1, h2⟩, hl | 8, _, _, _, ⟨h1, h2⟩, hl | 12, _, _, _, ⟨h1, h2⟩, hl => ⟨h1.le hl, h2⟩
 | 13, _, _, _, ⟨a, b, c, h1, h2⟩, hl => ⟨a, b, c, h1, h2.le hl⟩
 | _ + 14, _, _, _, _, _ => trivial
theorem keepSmell_spec (m : Md) (H : Hp) (s : Sm) (dv hv nv : Value) (hs : SmIn H dv hv nv s) (hl1 : s.doors.length <= 1000) (hl2 : s.hampers.length <= 1000) (hl3 : s.noses.length <= 1000) :
  FnX Tryz.prog m 11 #[smV s.places dv hv nv] H fun e H' => ∃ dv' hv' nv', e = .returned (smV s.places dv' hv' nv') /\ SmRow H H' dv' hv' nv' s /\ H.le H' := by
 obtain ⟨da, dc, ha, kc, na, nc, rfl, rfl, rfl, l1, l2, l3⟩ := hs.forms
 refine Aqn Tryz.func11 rfl Tryz.ntmps11 (by simp) ?_
 (refine @unH _ (zA y11_152 ?_); (repeat refine inC fun hc => ?_); try refine inK fun K hK => ?_)
 (intro sb hsb rb hrb; replace hrb : (Hp.set _ sb _) rb = none := hrb; generalize hG : Hp.set _ sb _ = H1 at hrb ⊢; have lH1 := Aqc hG hsb; have wsb := Aqb hG; clear hG; generalize hG : Hp.set _ rb _ = H2; have lH2 := Aqc hG hrb; have vrb := Aqb hG; have vsb := lH2 _ _ wsb; have nsbrb := Aqr wsb hrb; clear hG wsb)
 have lH := Hp.le_trans lH1 lH2
 refine hK _ _ ?_
 clear hK K
 (try refine @unH _ (zQ ?_))
 refine wpX_gstmt (ksΦ H sb s (.slice da s.doors.length dc) (.slice ha s.hampers.length kc) (.slice na s.noses.length nc)) (by kernel_rfl) (by kernel_rfl) ksΦ_le ?_; intro K hK
 (refine growAll_cons ?_ ?_; (focus (intro e HX hle he hd; have e1 : e 1 = .pointer (some ⟨sb, 0, none⟩) := he 1 (by kernel_rfl); clear he hd; refine ⟨by rfl, ?_⟩; (refine @unH _ ?_; refine zX y11_152 ?_); exact ⟨Hp.le_refl _, _, rfl, rfl⟩)))
 (refine growAll_cons ?_ ?_; (focus (intro e HX hle he hd; have vx := hle _ _ vsb; have e3 : e 3 = _ := hd 0 3 (by kernel_rfl); clear he hd; refine ⟨by rfl, ?_⟩; (refine @unH _ ?_; refine zX y11_152 ?_); exact ⟨Hp.le_refl _, _, rfl, rfl⟩)))
 refine growAll_cons ?_ ?_
 ·intro e HX hle he hd
  clear he hd
  refine ⟨by rfl, ?_⟩
  (refine @unH _ ?_; refine zX y11_152 ?_)
  intro b hb
  rw [range0]
  exact ⟨Hp.le_set hb, _, rfl, b, rfl, Axe, Hp.le_none (Hp.le_trans lH hle) hb⟩
 (refine growAll_cons ?_ ?_; (focus (intro e HX hle he hd; have e1 : e 1 = .pointer (some ⟨sb, 0, none⟩) := he 1 (by kernel_rfl); clear he hd; refine ⟨by rfl, ?_⟩; (refine @unH _ ?_; refine zX y11_152 ?_); exact ⟨Hp.le_refl _, _, rfl, rfl⟩)))
 (refine growAll_cons ?_ ?_; (focus (intro e HX hle he hd; have vx := hle _ _ vsb; have e6 : e 6 = _ := hd 3 6 (by kernel_rfl); clear he hd; refine ⟨by rfl, ?_⟩; (refine @unH _ ?_; refine zX y11_152 ?_); exact ⟨Hp.le_refl _, _, rfl, rfl⟩)))
 refine growAll_cons ?_ ?_
 ·intro e HX hle he hd
  obtain ⟨b, e5, vb, hb⟩ := hd 2 5 (by kernel_rfl)
  have e7 : e 7 = _ := hd 4 7 (by kernel_rfl)
  clear he hd
  refine ⟨by rfl, ?_⟩
  (refine @unH _ ?_; refine zX y11_152 ?_)
  refine append_newG (by decide) Tryz.underlying25 Tryz.sizeOf35 Tryz.zeroValue35 rfl Tryz.typeInfo35 (by decide) (by decide) vb (SlG.le hs.dd (Hp.le_trans lH hle)) (by omega) _ _ _ _ (fun v' H' hr hl hn => ?_)
  (refine @unH _ ?_; refine zX y11_152 ?_)
  exact ⟨_, rfl, hr, fun x hx => (hn x hx).elim (fun h => by rw [h]; exact hb) fun h => Hp.le_none (Hp.le_trans lH hle) h⟩
 (refine growAll_cons ?_ ?_; (focus (intro e HX hle he hd; have e1 : e 1 = .pointer (some ⟨sb, 0, none⟩) := he 1 (by kernel_rfl); clear he hd; refine ⟨by rfl, ?_⟩; (refine @unH _ ?_; refine zX y11_152 ?_); exact ⟨Hp.le_refl _, _, rfl, rfl⟩)))
 (refine growAll_cons ?_ ?_; (focus (intro e HX hle he hd; have vx := hle _ _ vsb; have e9 : e 9 = _ := hd 6 9 (by kernel_rfl); clear he hd; refine ⟨by rfl, ?_⟩; (refine @unH _ ?_; refine zX y11_152 ?_); exact ⟨Hp.le_refl _, _, rfl, rfl⟩)))
 refine growAll_cons ?_ ?_
 ·intro e HX hle he hd
  have e10 : e 10 = _ := hd 7 10 (by kernel_rfl)
  clear he hd
  refine ⟨by rfl, ?_⟩
  (refine @unH _ ?_; refine zX y11_152 ?_)
  refine (Cjg m HX _ s.hampers (hs.hh.le (Hp.le_trans lH hle)) (by omega)).runs.mono ?_
  rintro _ H' ⟨w, rfl, hr⟩
  have h2 := rowX_G hr
  simp -implicitDefEqProofs (disch := omega) only [Azt, Aq3, Aqm]
  exact ⟨fun x u hx => (by obtain ⟨v', g1, g2⟩ := hr.1 x u hx; rw [g1, g2 (fun h => by cases h)]), _, rfl, h2.1, fun x hx => Hp.le_none (Hp.le_trans lH hle) (h2.2 x hx)⟩
 refine growAll_cons ?_ ?_
 ·intro e HX hle he hd
  clear he hd
  refine ⟨by rfl, ?_⟩
  (refine @unH _ ?_; refine zX y11_152 ?_)
  intro b hb
  rw [range0]
  exact ⟨Hp.le_set hb, _, rfl, b, rfl, Axe, Hp.le_none (Hp.le_trans lH hle) hb⟩
 (refine growAll_cons ?_ ?_; (focus (intro e HX hle he hd; have e1 : e 1 = .pointer (some ⟨sb, 0, none⟩) := he 1 (by kernel_rfl); clear he hd; refine ⟨by rfl, ?_⟩; (refine @unH _ ?_; refine zX y11_152 ?_); exact ⟨Hp.le_refl _, _, rfl, rfl⟩)))
 (refine growAll_cons ?_ ?_; (focus (intro e HX hle he hd; have vx := hle _ _ vsb; have e13 : e 13 = _ := hd 10 13 (by kernel_rfl); clear he hd; refine ⟨by rfl, ?_⟩; (refine @unH _ ?_; refine zX y11_152 ?_); exact ⟨Hp.le_refl _, _, rfl, rfl⟩)))
 refine growAll_cons ?_ ?_
 ·intro e HX hle he hd
  obtain ⟨b, e12, vb, hb⟩ := hd 9 12 (by kernel_rfl)
  have e14 : e 14 = _ := hd 11 14 (by kernel_rfl)
  clear he hd
  refine ⟨by rfl, ?_⟩
  (refine @unH _ ?_; refine zX y11_152 ?_)
  refine append_newG (by decide) Tryz.underlying26 Tryz.sizeOf49 Tryz.zeroValue49 rfl Tryz.typeInfo49 (by decide) (by decide) vb (SlG.le hs.nn (Hp.le_trans lH hle)) (by omega) _ _ _ _ (fun v' H' hr hl hn => ?_)
  (refine @unH _ ?_; refine zX y11_152 ?_)
  exact ⟨_, rfl, hr, fun x hx => (hn x hx).elim (fun h => by rw [h]; exact hb) fun h => Hp.le_none (Hp.le_trans lH hle) h⟩
 refine growAll_cons ?_ ?_
 ·intro e HX hle he hd
  have e4 : e 4 = _ := hd 1 4 (by kernel_rfl)
  obtain ⟨g1, g2⟩ : RowG _ _ _ (e 8) _ /\ _ := hd 5 8 (by kernel_rfl)
  obtain ⟨g3, g4⟩ : RowG _ _ _ (e 11) _ /\ _ := hd 8 11 (by kernel_rfl)
  obtain ⟨g5, g6⟩ : RowG _ _ _ (e 15) _ /\ _ := hd 12 15 (by kernel_rfl)
  clear he hd
  generalize h8 : e 8 = v8 at *
  generalize h11 : e 11 = v11 at *
  generalize h15 : e 15 = v15 at *
  have hg : SmRow H HX v8 v11 v15 s := ⟨g1, g3, g5, g2, g4, g6⟩
  obtain ⟨_, _, rfl⟩ := g1.form
  obtain ⟨_, _, rfl⟩ := g3.form
  obtain ⟨_, _, rfl⟩ := g5.form
  replace hg : Aqk _ := hg
  clear g1 g2 g3 g4 g5 g6
  refine ⟨by rfl, ?_⟩
  (refine @unH _ ?_; refine zX y11_152 ?_)
  exact ⟨Hp.le_refl _, _, rfl, _, _, _, rfl, hg⟩
 refine growAll_one ?_
 intro e HX hle he hd
 obtain ⟨dv', hv', nv', e16, hg⟩ := hd 13 16 (by kernel_rfl)
 have e2 : e 2 = .pointer (some ⟨rb, 0, none⟩) := he 2 (by kernel_rfl)
 have vr := hle _ _ vrb
 clear he hd
 obtain ⟨_, _, rfl⟩ := hg.dd.form
 obtain ⟨_, _, rfl⟩ := hg.hh.form
 obtain ⟨_, _, rfl⟩ := hg.nn.form
 replace hg : Aqk _ := hg
 refine ⟨by rfl, ?_⟩
 (refine @unH _ ?_; refine zX y11_152 ?_)
 refine hK _ _ ?_
 clear hK K
 (try refine @unH _ (zQ ?_))
 (refine Axp ?_; (try simp only [nq, ↓reduceIte, Nat.reduceEqDiff]); rw [Aq6, Ax2 Tryz.results11 (by decide) (b := rb) (o := 0) ?hcell Tryz.underlying28 rfl Tryz.sizeOf28]; (case hcell => exact e2); simp -implicitDefEqProofs (disch := first | omega | (simp only [qd] <;> omega)) only [xq, ↓xp, qc, Nat.reduceAdd, List.range, List.range.loop, fine, Nat.reduceEqDiff, ↓reduceIte, yielded, reduceCtorEq, Nat.reduceLT, Nat.reduceMul, Nat.reduceSub, one, Nat.reduceLeDiff, Aqf, y11_152, Axk, List.extract_toArray])
 have hg' : SmRow H HX _ _ _ s := hg
 exact ⟨_, _, _, rfl, hg'.put vr, Az8 (Hp.le_trans lH hle) (Hp.le_none lH1 hrb)⟩
theorem RowG.put1 {e : TypeId} {sz : Nat} (hsz : 0 < sz) {H : Hp} {b n cap : Nat} {rows : List (List Value)} (h : RowG e sz H (.slice (some ⟨b, 0, none⟩) n cap) rows) {c : Array Value} {q : Bool} {fr : Nat × Nat} (hb : H b = some (q, .cells c e fr)) {i k : Nat} {r : List Value} (hr : rows[i]? = some r) (hk : k < sz) (u : Value) :
  RowG e sz (H.set b (.cells (c.setIfInBounds (i * sz + k) u) e (0, 0))) (.slice (some ⟨b, 0, none⟩) n cap) (rows.set i (r.set k u)) := by
 rcases h.1.2 with ⟨h0, _⟩ | ⟨b', c', cap', h0, hb', hv, h1, h2, h3, h4⟩
 ·cases h0
 cases hv
 rw [hb] at hb'
 cases hb'
 have hi := (List.getElem?_eq_some_iff.1 hr).1
 have hrl := h.2 r (List.mem_of_getElem? hr)
 have hall : ∀ r' ∈ rows.set i (r.set k u), (id r' : List Value).length = sz := fun r' hm => by
  rcases List.mem_or_eq_of_mem_set hm with hm | hm
  ·exact h.2 r' hm
  ·rw [hm]; simp [hrl]
 refine ⟨⟨(fun _ _ h => by cases h), .inr ⟨b, _, cap, rfl, Axe, by rw [List.length_set], by rw [Array.size_setIfInBounds]; exact h1, by rw [List.length_set]; exact h2, by rw [Avn id sz _ hall], fun j w hj => ?_⟩⟩, hall⟩
 have h5 := h4 j
 rw [Ayi id sz hsz rows h.2] at h5
 rw [Ayi id sz hsz _ hall, List.getElem?_set] at hj
 have hdm := Nat.div_add_mod j sz
 rw [Nat.mul_comm] at hdm
 by_cases hq : i = j / sz
 ·rw [if_pos hq, if_pos hi] at hj
  simp only [id, Option.bind_some, List.getElem?_set] at hj
  by_cases hk' : k = j % sz
  ·rw [if_pos hk', if_pos (by omega)] at hj
   have hj2 : i * sz + k = j := by rw [hq, hk']; exact hdm
   have hjc : j < c.size := by
    have h6 : r[k]? = some (r[k]'(by omega)) := List.getElem?_eq_getElem _
    have h7 := h5 (r[k]'(by omega)) (by rw [<- hq, hr, <- hk']; exact h6)
    exact (Array.getElem?_eq_some_iff.1 h7).1
   rw [hj2, Array.getElem?_setIfInBounds_self_of_lt hjc]
   exact hj
  ·rw [if_neg hk'] at hj
   rw [Array.getElem?_setIfInBounds_ne (fun e => hk' (by rw [<- e, Nat.mul_comm, Nat.mul_add_mod, Nat.mod_eq_of_lt hk]))]
   exact h5 w (by rw [<- hq, hr]; simpa using hj)
 ·rw [if_neg hq] at hj
  rw [Array.getElem?_setIfInBounds_ne (fun e => hq (by rw [<- e, Nat.mul_comm, Nat.mul_add_div hsz, Nat.div_eq_of_lt hk, Nat.add_zero]))]
  exact h5 w hj
theorem RowG.ex {e : TypeId} {sz : Nat} {H : Hp} {v : Value} {rows : List (List Value)} (h : RowG e sz H v rows) {i : Nat} (hi : i < rows.length) : ∃ b c cap, v = .slice (some ⟨b, 0, none⟩) rows.length cap /\ H b = some (true, .cells c e (0, 0)) /\ rows.length <= cap /\ i * sz + sz <= c.size := by
 rcases h.1.2 with ⟨_, h0, _⟩ | ⟨b, c, cap, _, hb, hv, h1, h2, _⟩
 ·omega
 ·refine ⟨b, c, cap, hv, hb, h2, ?_⟩
  rw [h1, <- Nat.succ_mul]
  exact Nat.mul_le_mul_right _ (by omega)
end Go.Proofs.YtkcomnkgdifboaaGreatDoor
end
section
namespace Go.Proofs.YtkcomnkgdifboaaGreatDoor
open Go Go.X
def narS (s : Sm) (i : Nat) (x y : Int) : Sm := ⟨s.places, s.doors.set i ⟨(s.doors.getD i ⟨0, 0, 0, 0⟩).a, (s.doors.getD i ⟨0, 0, 0, 0⟩).b, x, y⟩, s.hampers, s.noses⟩
section
variable {s : Sm} (ok : SmOk s) {i : Nat} {d : Dr} (hd : s.doors[i]? = some d) {x y : Int} (h0 : d.mn <= x) (h1 : x <= y) (h2 : y <= d.mx)
include ok hd h0 h1 h2
theorem narS_get {j : Nat} {d' : Dr} (h : (narS s i x y).doors[j]? = some d') : ∃ d0, s.doors[j]? = some d0 /\ d'.a = d0.a /\ d'.b = d0.b /\ d0.mn <= d'.mn /\ d'.mx <= d0.mx /\ d'.mn <= d'.mx := by
 have hg : s.doors.getD i ⟨0, 0, 0, 0⟩ = d := by rw [List.getD, hd]; rfl
 simp only [narS, hg] at h
 rw [List.getElem?_set] at h
 by_cases hij : i = j
 ·subst hij
  rw [if_pos rfl, if_pos (List.getElem?_eq_some_iff.1 hd).1] at h
  cases h
  exact ⟨d, hd, rfl, rfl, h0, h2, h1⟩
 ·rw [if_neg hij] at h
  have := ok.dk d' (List.mem_of_getElem? h)
  exact ⟨d', h, rfl, rfl, Int.le_refl _, Int.le_refl _, this.m1⟩
theorem narS_ok : SmOk (narS s i x y) := by
 refine ⟨ok.p0, ok.p1, by simp only [narS, List.length_set]; exact ok.dl, fun d' hm => ?_, ok.h0, ok.h1, ok.hk, ok.hd, ok.nl, ok.nk⟩
 obtain ⟨j, hj⟩ := List.getElem?_of_mem hm
 obtain ⟨d0, g0, g1, g2, g3, g4, g5⟩ := narS_get ok hd h0 h1 h2 hj
 have k := ok.dk d0 (List.mem_of_getElem? g0)
 exact ⟨by rw [g1]; exact k.a0, by rw [g1]; exact k.a1, by rw [g2]; exact k.b0, by rw [g2]; exact k.b1, by rw [g1, g2]; exact k.ne, by have := k.m0; omega, g5, by have := k.m2; omega⟩
theorem nar_count : Azk (narS s i x y) <= Azk s :=
 count_sub (narS_ok ok hd h0 h1 h2) ok fun a b ts ht => ⟨ts, narrow_tr ok (s' := narS s i x y) rfl rfl rfl (narS_ok ok hd h0 h1 h2).dk (by simp [narS]) (fun j d0 d' g0 g1 => by
  obtain ⟨d1, q0, q1, q2, q3, q4, _⟩ := narS_get ok hd h0 h1 h2 g1
  rw [g0] at q0
  cases q0
  exact ⟨q1, q2, q3, q4⟩) ht⟩
theorem nar_edge (f : Dr -> Int) (hf : ∀ d0 d' : Dr, d0.mn <= d'.mn -> d'.mx <= d0.mx -> f d0 <= f d') {a b n : Int} (he : Edg (narS s i x y).doors (pad6 ((narS s i x y).doors.map f)) a b n) : ∃ m, m <= n /\ Edg s.doors (pad6 (s.doors.map f)) a b m := by
 obtain ⟨j, d', g1, g2, g3⟩ := he.ix
 obtain ⟨d0, q0, q1, q2, q3, q4, _⟩ := narS_get ok hd h0 h1 h2 g1
 have hj := (List.getElem?_eq_some_iff.1 g1).1
 have hn : n = f d' := by
  unfold pad6 at g2
  rw [List.getElem?_append_left (by simpa using hj), List.getElem?_map, g1] at g2
  exact (Option.some.inj g2).symm
 have h4 := edg_door q0 f
 refine ⟨f d0, by rw [hn]; exact hf d0 d' q3 q4, ?_⟩
 rcases g3 with ⟨rfl, rfl⟩ | ⟨rfl, rfl⟩
 ·rw [q1, q2]; exact h4
 ·rw [q1, q2]; exact h4.symm
theorem nar_edge' (f : Dr -> Int) (hf : ∀ d0 d' : Dr, d0.mn <= d'.mn -> d'.mx <= d0.mx -> f d' <= f d0) {a b n : Int} (he : Edg s.doors (pad6 (s.doors.map f)) a b n) : ∃ m, m <= n /\ Edg (narS s i x y).doors (pad6 ((narS s i x y).doors.map f)) a b m := by
 obtain ⟨j, d0, g1, g2, g3⟩ := he.ix
 have hj := (List.getElem?_eq_some_iff.1 g1).1
 have hj' : j < (narS s i x y).doors.length := by simpa [narS] using hj
 obtain ⟨d1, q0, q1, q2, q3, q4, _⟩ := narS_get ok hd h0 h1 h2 (List.getElem?_eq_getElem hj')
 rw [g1] at q0
 cases q0
 have hn : n = f d0 := by
  unfold pad6 at g2
  rw [List.getElem?_append_left (by simpa using hj), List.getElem?_map, g1] at g2
  exact (Option.some.inj g2).symm
 have h4 := edg_door (s := narS s i x y) (List.getElem?_eq_getElem hj') f
 refine ⟨_, by rw [hn]; exact hf d0 _ q3 q4, ?_⟩
 rcases g3 with ⟨rfl, rfl⟩ | ⟨rfl, rfl⟩
 ·rw [<- q1, <- q2]; exact h4
 ·rw [<- q1, <- q2]; exact h4.symm
theorem nar_reach {a b : Int} (a0 : 0 <= a) (a1 : a < s.places) (b0 : 0 <= b) (b1 : b < s.places) :
  ∃ r1 r2 re y1 y2, reaE s a b = (r1, r2, re) /\ reaE (narS s i x y) a b = (y1, y2, re) /\ ¬ y1 < r1 /\ ¬ r2 < y2 := by
 have ok' := narS_ok ok hd h0 h1 h2
 have m1 := Djs (pl := s.places) ok.dk
 have m2 := Djt (pl := s.places) ok.dk
 have m1' := Djs (pl := s.places) ok'.dk
 have m2' := Djt (pl := s.places) ok'.dk
 have g1 := ds_more (s := s) (s' := narS s i x y) ok m1 a0 a1 rfl ok' m1' (fun a b n he => nar_edge ok hd h0 h1 h2 Dr.mn (fun _ _ h _ => h) he) b0 b1
 have g2 := ds_more (s := narS s i x y) (s' := s) ok' m2' a0 a1 rfl ok m2 (fun a b n he => nar_edge' ok hd h0 h1 h2 Dr.mx (fun _ _ _ h => h) he) b0 b1
 rcases rea_cases ok a0 a1 b0 b1 with ⟨h, p1, p2⟩ | ⟨h, p1, p2⟩ <;> rcases rea_cases ok' (a := a) (b := b) a0 a1 b0 b1 with ⟨h', q1, q2⟩ | ⟨h', q1, q2⟩
 ·exact ⟨_, _, _, _, _, h, h', by omega, by omega⟩
 ·have := g1 q2; omega
 ·have := g2 p1; omega
 ·have k1 := (g1 q2).2
  have k2 := (g2 p1).2
  exact ⟨_, _, _, _, _, h, h', by omega, by omega⟩
end
end Go.Proofs.YtkcomnkgdifboaaGreatDoor
end
section
namespace Go.Proofs.YtkcomnkgdifboaaGreatDoor
open Go Go.X
def y5_172 := And.intro @callF9 (And.intro @callF10 (And.intro (fun H => Aqv (H := H) (P := Tryz.prog) (h := Tryz.zeroValue28)) (And.intro (fun H => Aqs (H := H) Tryz.sizeOf28) (And.intro (fun H => Aqq (H := H) Tryz.underlying28 rfl Tryz.sizeOf28) (And.intro @Dzd (And.intro (fun H => Aqd (H := H) Tryz.underlying28 (i := 1) rfl (off := 1) rfl Tryz.sizeOf25) (And.intro (fun H => Aqg (H := H) Tryz.underlying25 rfl) (And.intro (fun H => Aq7 (H := H) Tryz.underlying25) (And.intro @callF11 (And.intro (fun H => Aqu (H := H) Tryz.underlying25 Tryz.sizeOf35) (And.intro (fun H => Aqd (H := H) Tryz.underlying35 (i := 2) rfl (off := 2) rfl Tryz.sizeOf33) (And.intro (fun H => Aqd (H := H) Tryz.underlying33 (i := 0) rfl (off := 0) rfl Tryz.sizeOf3) (And.intro (fun H => Aqg (H := H) Tryz.underlying3 rfl) (And.intro (fun H => Aqd (H := H) Tryz.underlying33 (i := 1) rfl (off := 1) rfl Tryz.sizeOf3) (And.intro @callF20 (And.intro (fun H => Aqs (H := H) Tryz.sizeOf33) (And.intro (fun H => Aqd (H := H) Tryz.underlying28 (i := 0) rfl (off := 0) rfl Tryz.sizeOf3) (And.intro @Dzb (And.intro (fun H => Aqv (H := H) (P := Tryz.prog) (h := Tryz.zeroValue33)) @callF14)))))))))))))))))))
theorem lssurer_spec (H : Hp) (sa : Option Addr) (sl sc : Nat) (hs : ∀ i : Nat, i < sl -> ∃ sb so c e fr x, sa = some ⟨sb, so, none⟩ /\ H sb = some (false, .cells c e fr) /\ c[so + i]? = some (.int .i64 x)) :
  FnX Tryz.prog (.wg Tryz.prog) 5 #[.slice sa sl sc] H fun e _ => e = .returned (.bool true) := by
 refine Aqn Tryz.func5 rfl Tryz.ntmps5 (by simp) ?_
 (refine @unH _ (zA y5_172 ?_); (repeat refine inC fun hc => ?_); try refine inK fun K hK => ?_)
 refine (newTin_spec _ H sa sl sc hs 240 (by omega)).runs.mono ?_
 rintro _ H1 ⟨tb, rfl, l1, hT⟩
 ((try refine @unH _ (zX y5_172 ?_)); (try (refine hK _ _ ?_; clear hK K; try refine @unH _ (zQ ?_))); refine @unH _ (zA y5_172 ?_); (repeat refine inC fun hc => ?_); try refine inK fun K hK => ?_)
 refine (smellOf_spec _ H1 tb 180 3 false (by omega) (by omega) hT).runs.mono ?_
 rintro _ H2 ⟨s, dv, hv, nv, cv, i, hr, ts, rfl, hs2, ok, hp5, hdl, hnl, hil, hr12, htk, hcv, htr, lex2, hT2, -⟩
 clear hT hs l1 lex2
 obtain ⟨da, dc, ha, kc, na, nc, rfl, rfl, rfl, l1, l2, l3⟩ := hs2.forms
 ((try refine @unH _ (zX y5_172 ?_)); (try (refine hK _ _ ?_; clear hK K; try refine @unH _ (zQ ?_))); refine @unH _ (zA y5_172 ?_); (repeat refine inC fun hc => ?_); try refine inK fun K hK => ?_)
 (intro sb hsb; generalize hG : Hp.set _ sb _ = H3; have lH3 := Aqc hG hsb; have vsb := Aqb hG; clear hG)
 have hs3 := hs2.le lH3
 have hT3 := hT2.le lH3
 have hsn := hT2.ne hsb
 have hp0 := ok.p0
 have hh1 := ok.h1
 have hdl3 : s.doors.length <= 3 := by omega
 clear hs2 lH3 hsb hT2 hcv htk htr hdl
 ((try refine @unH _ (zX y5_172 ?_)); (try (refine hK _ _ ?_; clear hK K; try refine @unH _ (zQ ?_))); refine @unH _ (zA y5_172 ?_); (repeat refine inC fun hc => ?_); try refine inK fun K hK => ?_)
 refine (Cqr H3 s _ _ _ hs3 ok).runs.mono ?_
 rintro _ H4 ⟨rfl, l34⟩
 have hT4 := hT3.le l34
 ((try refine @unH _ (zX y5_172 ?_)); (try (refine hK _ _ ?_; clear hK K; try refine @unH _ (zQ ?_))); refine @unH _ (zA y5_172 ?_); (repeat refine inC fun hc => ?_); try refine inK fun K hK => ?_)
 refine Axg (fun w a' H' => ∃ e, ∃ j : Nat, w = s.doors.length - j /\ j <= s.doors.length /\ a' = act 113 e [] /\ e 3 = .pointer (some ⟨tb, 0, none⟩) /\ e 4 = .pointer (some ⟨sb, 0, none⟩) /\ e 8 = .int .i64 (Azk s : Nat) /\ e 10 = .int .i64 (j : Nat) /\ Lex (some tb) H3 H' /\ TinI H' tb (180 - 2 * j)) (n := s.doors.length) ?_ ?_
 ·exact ⟨_, 0, by omega, by omega, rfl, rfl, rfl, rfl, rfl, Lex.of l34, hT4⟩
 clear hT4 l34
 rintro w a' H5 ⟨e, j, rfl, hj, rfl, e3, e4, e8, e10, x5, hT5⟩
 have vsb5 := x5.keeps vsb hsn
 have hs5 := hs3.lexT hT3 x5
 by_cases hlj : j < s.doors.length
 ·have hlj' : (j : Int) < s.doors.length := by omega
  have hkd := List.getElem?_eq_getElem hlj
  (refine @unH _ (zA y5_172 ?_); (repeat refine inC fun hc => ?_); try refine inK fun K hK => ?_)
  refine (keepSmell_spec _ H5 s _ _ _ hs5 (by omega) (by omega) (by omega)).runs.mono ?_
  rintro _ H6 ⟨xd, xh, xn, rfl, hx6, l56⟩
  obtain ⟨xdb, xcl, xdc, hxe, hxdb, hxdc, hxsz⟩ := hx6.dd.ex (i := j) (by rw [List.length_map]; exact hlj)
  rw [List.length_map] at hxe hxdc
  subst hxe
  obtain ⟨_, _, ya, yc, za, zc, -, rfl, rfl, -, -, -⟩ := hx6.smIn.forms
  have vsb6 := l56 _ _ vsb5
  have hT6 := hT5.le l56
  have x6 := x5.trans (Lex.of l56)
  have x5' := x5
  clear x5 vsb5 hs5 hT5
  replace hx6 : Aqk _ := hx6
  replace hkd : Aqk _ := hkd
  ((try refine @unH _ (zX y5_172 ?_)); (try (refine hK _ _ ?_; clear hK K; try refine @unH _ (zQ ?_))); refine @unH _ (zA y5_172 ?_); (repeat refine inC fun hc => ?_); try refine inK fun K hK => ?_)
  (intro xb hxb; generalize hG : Hp.set _ xb _ = H7; have lH7 := Aqc hG hxb; have vxb := Aqb hG; clear hG)
  have hx6' : SmRow H5 H6 _ _ _ s := hx6
  have hx7 := hx6'.le lH7
  have vsb7 := lH7 _ _ vsb6
  have hT7 := hT6.le lH7
  have x7 := x6.trans (Lex.of lH7)
  have hxdb7 := lH7 _ _ hxdb
  have hxn := hT6.ne hxb
  have hxs := (Aqr vsb6 hxb).symm
  have hs7 := hs3.lexT hT3 x7
  have hdt := hT7.off hxdb7 (by decide)
  have hds : xdb ≠ sb := fun e => by rw [e, vsb7] at hxdb7; cases hxdb7
  have hdx : xdb ≠ xb := fun e => by rw [e, vxb] at hxdb7; cases hxdb7
  obtain ⟨db, dof, dp, dcl, dfr, hdae, hdb2, hdsz, hdrl, hdext⟩ := SlG.get hs7.dd (i := j) (r := Bjh s.doors[j]) (by rw [List.getElem?_map, show s.doors[j]? = _ from hkd]; rfl)
  have hkd' : s.doors[j]? = some s.doors[j] := hkd
  have hkk := ok.dk _ (List.mem_of_getElem? hkd')
  have hnc := fun x y h0 h1 h2 => nar_count ok hkd' (x := x) (y := y) h0 h1 h2
  have hno := fun x y h0 h1 h2 => narS_ok ok hkd' (x := x) (y := y) h0 h1 h2
  have hnr := fun x y h0 h1 h2 a b => nar_reach ok hkd' (x := x) (y := y) h0 h1 h2 (a := a) (b := b)
  have hns : ∀ x y, (narS s j x y).doors.map Bjh = ((s.doors.map Bjh).set j ((Bjh s.doors[j]).set 2 (.int .i64 x))).set j (((Bjh s.doors[j]).set 2 (.int .i64 x)).set 3 (.int .i64 y)) := fun x y => by
   rw [List.set_set]
   simp only [narS, List.map_set, List.getD, hkd', Option.getD_some]
   rfl
  have hdr : (s.doors.map Bjh)[j]? = some (Bjh s.doors[j]) := by rw [List.getElem?_map, hkd']; rfl
  replace hdr : Aqk _ := hdr
  have hc2 := Bxw (k := 2) hdext hdsz rfl
  have hc3 := Bxw (k := 3) hdext hdsz rfl
  have h3n : H3 xdb = none := x5'.gone (hx7.dn xdb rfl)
  subst hdae
  clear hx6 hx6' hxdb x5' vsb6 hT6 x6 l56 lH7 hxb hs7 hdrl hdext hkd hkd'
  have hm0 := hkk.m0
  have hm1 := hkk.m1
  have hm2 := hkk.m2
  have hdbt := hT7.off hdb2 (by decide)
  replace hns : Aqk _ := hns
  generalize s.doors[j] = d at *
  clear hkk
  replace hx7 : Aqk _ := hx7
  replace hnc : Aqk _ := hnc
  replace hno : Aqk _ := hno
  replace hnr : Aqk _ := hnr
  refine hK _ _ ?_
  clear hK K
  (try refine @unH _ (zQ ?_))
  refine Bkj (fun e => e 3 = .pointer (some ⟨tb, 0, none⟩) /\ e 4 = .pointer (some ⟨sb, 0, none⟩) /\ e 8 = .int .i64 (Azk s : Nat) /\ e 10 = .int .i64 (j : Nat) /\ e 11 = .pointer (some ⟨xb, 0, none⟩)) ⟨e3, e4, e8, e10, rfl⟩ ?_
  clear e3 e4 e8 e10 e
  rintro e ⟨e3, e4, e8, e10, e11⟩
  refine Bz9 (fun HX => HX sb = some (true, smO s.places (.slice (some ⟨db, dof, none⟩) s.doors.length dc) (.slice ha s.hampers.length kc) (.slice na s.noses.length nc)) /\ HX xb = some (true, smO s.places (.slice (some ⟨xdb, 0, none⟩) s.doors.length xdc) (.slice ya s.hampers.length yc) (.slice za s.noses.length zc)) /\ HX db = some (dp, .cells dcl 35 dfr)) [21] (.free 0 (.take 1 (.free 2 (.free 3 (.free 4 (.take 5 (.free 6 (.free 7 (.free 8 (.free 9 (.take 10 (.free 11 (.take 12 (.free 13 (.free 14 (.free 15 (.free 16 (.take 17 (.one 18 (.free 19 (.free 20 (.one 21 .nil)))))))))))))))))))))) (by kernel_rfl) (by kernel_rfl) (by decide) (by kernel_rfl) ?_; intro K hK
  refine Ax8 fun ops hOz => ?_
  have hSS := And.intro vsb7 (And.intro vxb hdb2)
  (refine @unH _ ?_; refine zF y5_172 ?_)
  (refine @unH _ ?_; refine zK (And.intro y5_172 @exists_eq_left'.{1}) ?_)
  (iterate 3 (refine @unH _ ?_; refine zF y5_172 ?_))
  (refine @unH _ ?_; refine zK (And.intro y5_172 @exists_eq_left'.{1}) ?_)
  (iterate 4 (refine @unH _ ?_; refine zF y5_172 ?_))
  (refine @unH _ ?_; refine zK (And.intro y5_172 @exists_eq_left'.{1}) ?_)
  (refine @unH _ ?_; refine zF y5_172 ?_)
  (refine @unH _ ?_; refine zK (And.intro y5_172 @exists_eq_left'.{1}) ?_)
  (iterate 4 (refine @unH _ ?_; refine zF y5_172 ?_))
  (refine @unH _ ?_; refine zK (And.intro y5_172 @exists_eq_left'.{1}) ?_)
  clear hSS
  (refine @unH _ ?_; refine zM y5_172 ?_)
  refine (bandIn_spec _ H7 tb (180 - 2 * (j + 1)) d.mn d.mx (by omega) hm1 (by omega) (hT7.less (by omega))).runs.mono ?_
  rintro _ H8 ⟨x, y, q0, q1, q2, rfl, x8, hT8⟩
  have vsb8 := x8.keeps vsb7 hsn
  have vxb8 := x8.keeps vxb hxn
  have hdb8 := x8.keeps hdb2 hdbt
  have hxd8 := x8.keeps hxdb7 hdt
  have hx8 := SmRow.lexT (show SmRow H5 H7 _ _ _ s from hx7) hT7 x8
  have x9 := x7.trans x8
  simp -implicitDefEqProofs (disch := omega) only [Azt, Aq3, Aqm]
  refine ⟨.inr fun _ => ⟨vsb8, vxb8, hdb8⟩, ?_⟩
  clear vsb7 vxb hdb2 hxdb7 hx7 hT7 x7 x8
  replace hx8 : Aqk _ := hx8
  (iterate 2 (refine @unH _ ?_; refine zF y5_172 ?_))
  (refine @unH _ ?_; refine zM y5_172 ?_)
  refine ⟨.inl (by decide), ?_⟩
  (refine Ajc (hK _ _ ?_); clear hK K; (try simp only [nq, ↓reduceIte, Nat.reduceEqDiff]))
  have ho : over xcl (j * 4 + 2) [.int .i64 x, .int .i64 y] = (xcl.setIfInBounds (j * 4 + 2) (.int .i64 x)).setIfInBounds (j * 4 + 3) (.int .i64 y) := by
   rw [<- Bqj (by omega), <- Bqj (by rw [Array.size_setIfInBounds]; omega), Bvf]
  rw [ho]
  have hx8' : SmRow H5 H8 _ _ _ s := hx8
  have hrow : (s.doors.map Bjh)[j]? = some (Bjh d) := hdr
  have r1 := RowG.put1 (by decide) hx8'.dd hxd8 hrow (k := 2) (by decide) (.int .i64 x)
  have r2 := RowG.put1 (by decide) r1 Axe (i := j) (k := 3) (r := (Bjh d).set 2 (.int .i64 x)) (by rw [List.getElem?_set, if_pos rfl, if_pos (by rw [List.length_map]; exact hlj)]) (by decide) (.int .i64 y)
  rw [set_set, <- (show ∀ x y, (narS s j x y).doors.map Bjh = _ from hns) x y] at r2
  generalize hG : Hp.set H8 xdb _ = H9 at r2 ⊢
  have vsb9 : H9 sb = H8 sb := by rw [<- hG, Aqw (Ne.symm hds)]
  have vxb9 : H9 xb = H8 xb := by rw [<- hG, Aqw (Ne.symm hdx)]
  rw [vsb8] at vsb9
  rw [vxb8] at vxb9
  have hsx : SmIn H9 (.slice (some ⟨xdb, 0, none⟩) s.doors.length xdc) (.slice ya s.hampers.length yc) (.slice za s.noses.length zc) (narS s j x y) := ⟨r2.slG (by decide), SlG.ints1 (by rw [<- hG]; exact (hx8'.hh.put hxd8 (by decide) _).slG (by decide)), by rw [<- hG]; exact (hx8'.nn.put hxd8 (by decide) _).slG (by decide)⟩
  have x10 : Lex (some tb) H3 H9 := by rw [<- hG]; exact x9.own h3n
  have hT9 : TinI H9 tb (180 - 2 * (j + 1)) := by rw [<- hG]; exact hT8.own hxd8 (Ne.symm hdt)
  have hs9 := hs3.lexT hT3 x10
  have okx := (show ∀ x y : Int, _ from hno) x y q0 q1 q2
  have hcx := (show ∀ x y : Int, _ from hnc) x y q0 q1 q2
  have hrx := fun b => (show ∀ x y : Int, _ -> _ -> _ -> ∀ a b, _ from hnr) x y q0 q1 q2 0 b
  clear hG r1 r2 ho hrow hx8 hx8' hT8 hxd8 vsb8 vxb8 hdb8 x9 h3n hno hnc hnr hns hds hdx hxsz hc2 hc3 hdr hdsz
  have hC := Cqr H9 (narS s j x y) _ _ _ hsx okx
  have hR1 := fun H (l : H9.le H) b => Cqu H s _ _ _ (hs9.le l) ok 0 b (.wg Tryz.prog)
  have hR2 := fun H (l : H9.le H) b => Cqu H (narS s j x y) _ _ _ (hsx.le l) okx 0 b (.wg Tryz.prog)
  have hcx' : ¬ ((Azk s : Nat) : Int) < (Azk (narS s j x y) : Nat) := by omega
  clear hcx hs9 okx hsx
  generalize Azk (narS s j x y) = nx at *
  replace hC : Aqk _ := hC
  replace hR1 : Aqk _ := hR1
  replace hR2 : Aqk _ := hR2
  replace hrx : Aqk _ := hrx
  refine Bkj (fun e => e 3 = .pointer (some ⟨tb, 0, none⟩) /\ e 4 = .pointer (some ⟨sb, 0, none⟩) /\ e 8 = .int .i64 (Azk s : Nat) /\ e 10 = .int .i64 (j : Nat) /\ e 11 = .pointer (some ⟨xb, 0, none⟩)) ⟨e3, e4, e8, e10, e11⟩ ?_
  clear e3 e4 e8 e10 e11 hOz e
  rintro e ⟨e3, e4, e8, e10, e11⟩
  (refine @unH _ (zA y5_172 ?_); (repeat refine inC fun hc => ?_); try refine inK fun K hK => ?_)
  refine (show FnX _ _ _ _ _ _ from hC).runs.mono ?_
  rintro _ H10 ⟨rfl, l10⟩
  clear hC
  ((try refine @unH _ (zX y5_172 ?_)); (try (refine hK _ _ ?_; clear hK K; try refine @unH _ (zQ ?_))); refine @unH _ (zA y5_172 ?_); (repeat refine inC fun hc => ?_); try refine inK fun K hK => ?_)
  refine Axg (fun w a' H' => ∃ e, ∃ p : Nat, w = s.places.toNat - p /\ (p : Int) <= s.places /\ a' = act 113 e [] /\ e 3 = .pointer (some ⟨tb, 0, none⟩) /\ e 4 = .pointer (some ⟨sb, 0, none⟩) /\ e 8 = .int .i64 (Azk s : Nat) /\ e 10 = .int .i64 (j : Nat) /\ e 11 = .pointer (some ⟨xb, 0, none⟩) /\ e 14 = .int .i64 (p : Nat) /\ H9.le H') (n := s.places.toNat) ?_ ?_
  ·exact ⟨_, 0, by omega, by omega, rfl, e3, e4, e8, e10, e11, rfl, l10⟩
  clear e3 e4 e8 e10 e11 l10 e
  rintro w a' H11 ⟨e, p, rfl, hp, rfl, e3, e4, e8, e10, e11, e14, lb⟩
  have vsb11 := lb _ _ vsb9
  by_cases hlp : (p : Int) < s.places
  ·obtain ⟨r1, r2, re, y1, y2, hr, hy, g1, g2⟩ := (show ∀ b : Int, _ from hrx) p (by omega) (by omega) (by omega) hlp
   have hQ1 := fun H l => (show ∀ H, _ -> ∀ b, _ from hR1) H l p
   have hQ2 := fun H l => (show ∀ H, _ -> ∀ b, _ from hR2) H l p
   rw [hr] at hQ1
   rw [hy] at hQ2
   clear hr hy
   replace hQ1 : Aqk _ := hQ1
   replace hQ2 : Aqk _ := hQ2
   (refine @unH _ (zA y5_172 ?_); (repeat refine inC fun hc => ?_); try refine inK fun K hK => ?_)
   refine ((show ∀ H, _ -> _ from hQ1) H11 lb).runs.mono ?_
   rintro _ H12 ⟨rfl, l12⟩
   ((try refine @unH _ (zX y5_172 ?_)); (try (refine hK _ _ ?_; clear hK K; try refine @unH _ (zQ ?_))); refine @unH _ (zA y5_172 ?_); (repeat refine inC fun hc => ?_); try refine inK fun K hK => ?_)
   (intro rb hrb; generalize hG : Hp.set _ rb _ = H13; have lH13 := Aqc hG hrb; have vrb := Aqb hG; clear hG)
   have lb13 := Hp.le_trans lb (Hp.le_trans l12 lH13)
   have vxb13 := lb13 _ _ vxb9
   clear hQ1 vsb11 lb l12 lH13 hrb
   ((try refine @unH _ (zX y5_172 ?_)); (try (refine hK _ _ ?_; clear hK K; try refine @unH _ (zQ ?_))); refine @unH _ (zA y5_172 ?_); (repeat refine inC fun hc => ?_); try refine inK fun K hK => ?_)
   refine ((show ∀ H, _ -> _ from hQ2) H13 lb13).runs.mono ?_
   rintro _ H14 ⟨rfl, l14⟩
   ((try refine @unH _ (zX y5_172 ?_)); (try (refine hK _ _ ?_; clear hK K; try refine @unH _ (zQ ?_))); refine @unH _ (zA y5_172 ?_); (repeat refine inC fun hc => ?_); try refine inK fun K hK => ?_)
   (intro yb hyb; generalize hG : Hp.set _ yb _ = H15; have lH15 := Aqc hG hyb; have vyb := Aqb hG; clear hG)
   have l135 := Hp.le_trans l14 lH15
   have lb15 := Hp.le_trans lb13 l135
   have vrb15 := l135 _ _ vrb
   have hq1 : ∀ o, Hp.cell H15 ⟨rb, o, none⟩ = (#[.int .i64 r1, .int .i64 r2] : Array Value)[o]? := fun o => cell_of vrb15
   have hq2 : ∀ o, Hp.cell H15 ⟨yb, o, none⟩ = (#[.int .i64 y1, .int .i64 y2] : Array Value)[o]? := fun o => cell_of vyb
   clear hQ2 vxb13 lb13 l14 lH15 hyb l135 vrb
   refine hK _ _ ?_
   clear hK K
   (try refine @unH _ (zQ ?_))
   refine Bkj (fun e => e 3 = .pointer (some ⟨tb, 0, none⟩) /\ e 4 = .pointer (some ⟨sb, 0, none⟩) /\ e 8 = .int .i64 (Azk s : Nat) /\ e 10 = .int .i64 (j : Nat) /\ e 11 = .pointer (some ⟨xb, 0, none⟩) /\ e 14 = .int .i64 (p : Nat) /\ e 15 = .pointer (some ⟨rb, 0, none⟩) /\ e 16 = .int .i64 re /\ e 17 = .pointer (some ⟨yb, 0, none⟩) /\ e 18 = .int .i64 re) ⟨e3, e4, e8, e10, e11, e14, rfl, rfl, rfl, rfl⟩ ?_
   clear e3 e4 e8 e10 e11 e14 e
   rintro e ⟨e3, e4, e8, e10, e11, e14, e15, e16, e17, e18⟩
   refine Axs (wpX_rz 17 (by rfl) ?_)
   intro K hK ops hOz
   (iterate 17 (refine @unH _ ?_; refine zR y5_172 ?_))
   (refine RZ_nil ?_; refine hK _ _ ?_; clear hK K; (try simp only [nq, ↓reduceIte, Nat.reduceEqDiff]))
   (refine @unH _ (zA y5_172 ?_); (repeat refine inC fun hc => ?_); try refine inK fun K hK => ?_)
   exact ⟨s.places.toNat - (p + 1), by omega, _, p + 1, rfl, by omega, rfl, e3, e4, e8, e10, e11, rfl, lb15⟩
  ·(refine @unH _ (zA y5_172 ?_); (repeat refine inC fun hc => ?_); try refine inK fun K hK => ?_)
   exact ⟨s.doors.length - (j + 1), by omega, _, j + 1, rfl, by omega, rfl, e3, e4, e8, rfl, x10.trans (Lex.of lb), hT9.le lb⟩
 ·have hlj' : ¬ (j : Int) < s.doors.length := by omega
  (refine @unH _ (zA y5_172 ?_); (repeat refine inC fun hc => ?_); try refine inK fun K hK => ?_)
  refine (smelled_spec H5).runs.mono ?_
  rintro _ H6 ⟨rfl, l6⟩
  ((try refine @unH _ (zX y5_172 ?_)); (try (refine hK _ _ ?_; clear hK K; try refine @unH _ (zQ ?_))); refine @unH _ (zA y5_172 ?_); (repeat refine inC fun hc => ?_); try refine inK fun K hK => ?_)
  (refine Axp ?_; (try simp only [nq, ↓reduceIte, Nat.reduceEqDiff]); rw [Aq6, Ayq Tryz.results5 (by decide)]; simp only [Axl, Nat.reduceEqDiff, ↓reduceIte])
end Go.Proofs.YtkcomnkgdifboaaGreatDoor
end
section
namespace Go.Proofs.YtkcomnkgdifboaaGreatDoor
open Go Go.X Go.ChangeShapes Go.WideShapes Go.RowKit
set_option maxRecDepth 100000 in
theorem law_lifted (os : Os) (started : os.Started) (H : Type) (enc : TypeId × Value -> H) :
  ReturnsInLeavingWide {} Tryz.checked os 5 .any (fun w args => (Rows.smellSurerSpec.pre enc Tryz.prog Tryz.f5 [] false w args /\ laidMetH Tryz.prog [("errors.errorType", Rows.laid_errors_errorType)] w) /\ sizedMet enc Tryz.prog Tryz.f5 (OpenSpec.ofChange Rows.smellSurerSpec) false w args)
   (Rows.smellSurerSpec.post enc Tryz.prog Tryz.f5 false true false false) := by
 refine leaving_of_change_and (C := Tryz.checked) (X := fun w _ => laidMetH Tryz.prog [("errors.errorType", Rows.laid_errors_errorType)] w) (fun _ _ _ hh h => h.of_heap hh) ownK started Tryz.func5
  (ChangeSpec.witness_at (enc := enc) (C := Tryz.checked) (os := os) (X := fun w _ => laidMetH Tryz.prog [("errors.errorType", Rows.laid_errors_errorType)] w) false (laidWorld os) #[.slice none 0 0] 8 rfl (by kernel_rfl) (by kernel_rfl) (by kernel_rfl) (by kernel_rfl) (by kernel_rfl) (laidWorld_met os _)) ?_
 intro W base args ds gs before hval0 hW hL
 have hval : ∀ (j : Nat) t v, Tryz.f5.params[j]? = some t -> args[j]? = some v -> Value.okWide Tryz.prog W .any base t v := hval0
 have hW' := hW
 obtain ⟨p, q, hA0, hV0, rfl, hfz, hnd⟩ := hW
 have hA : DataW.TrodAll enc Tryz.prog W 0 (fun _ => true) true Tryz.f5.params.toList args.toList ds p := hA0
 have hV : DataW.TrodVars enc Tryz.prog W (fun _ => true) [] gs q := hV0
 rw [Tryz.params5] at hA hval
 obtain ⟨v0, d0, rfl, rfl, h0⟩ := trodAll_one hA
 obtain ⟨a0, len, cap, rfl⟩ := okWide_slice Tryz.underlying22 (hval 0 22 v0 rfl rfl)
 have h0k := h0
 obtain ⟨fuel, hf⟩ := h0
 obtain ⟨rfl, rfl⟩ : gs = [] /\ q = [] := by
  cases gs with
  | nil => exact ⟨rfl, hV⟩
  | cons g r => exact absurd hV (by intro h; cases h)
 have e1 : Rows.smellSurerSpec.fn H ([d0] ++ []) = { results := [.lit (.bool true)], args := [d0] } := by simp [Rows.smellSurerSpec]
 have hcells : ∀ i : Nat, i < len -> ∃ sb so c e fr x, a0 = some ⟨sb, so, none⟩ /\ Ay2 W sb = some (false, .cells c e fr) /\ c[so + i]? = some (.int .i64 x) := by
  rcases open_ints Tryz.underlying22 Tryz.underlying3 cellsK hf with ⟨hcs, _⟩ | ⟨a, len', cap', zs, hcs, _, hl, hm, hz, hx, hcell, hwz⟩
  ·simp [Value.cells] at hcs
   intro i hi
   omega
  ·simp [Value.cells] at hcs
   obtain ⟨rfl, rfl, rfl⟩ := hcs
   intro i hi
   simp only [if_true] at hz
   have hc := hcell i (by omega)
   obtain ⟨b, off, spot⟩ := a
   have hspot : spot = none := by simpa [Addr.add] using World.cell?_spot (hcell 0 (by omega))
   subst hspot
   rw [add_plain] at hc
   unfold World.cell? at hc
   split at hc
   ·rename_i c e fr hb
    exact ⟨b, off, c, e, fr, _, rfl, by simp [Ay2, hb], by simpa using hc⟩
   ·cases hc
 have hlt : ∀ x ∈ p, x.block < W.heap.size := fun x hx => by simpa using hW'.lt x (by simpa using hx)
 obtain ⟨N, last, o, w', t', r1, r2, r3, v, hv, ⟨rfl, hB⟩, r4⟩ := (lssurer_spec (Ay2 W) a0 len cap hcells).goodW Tryz.func5 (results_tmp Tryz.results5 _) (by kernel_rfl)
 refine ⟨N, last, o, w', t', r1, r2, r3, _, hv, ?_, r4⟩
 have hb := hB.below
 refine ⟨_, _, _, [], p, [], hW', ?_, ?_, ?_, hB.kept _, fun h => by cases h⟩
 ·rw [e1]; exact trodAll_mk1 (shut_bool Tryz.underlying4 true)
 ·rw [e1]
  have t := trodAll_mk1 (DataW.Trod.of_heap (w := { w' with tape := W.tape }) (w' := w') rfl (Below.trod laidOutK (by kernel_rfl) (of_decide_eq_true (by kernel_rfl)) h0k hb hlt))
  exact t
 ·rw [e1]; rfl
end Go.Proofs.YtkcomnkgdifboaaGreatDoor
end
section
namespace Go.Proofs.YtkcomnkgdifboaaGreatDoor
open Go Go.X Go.ChangeShapes Go.WideShapes Go.RowKit
theorem jEnter : Program.mayEnter Tryz.pinned.checked.prog = true := factEnter
theorem jLift : (Rows.smellSurerRow.lifted == Program.liftsFinal Tryz.pinned.checked.prog) = true := by rw [show Program.liftsFinal Tryz.pinned.checked.prog = Rows.smellSurerRow.lifted from factLift]; exact beq_self_eq_true _
theorem jMake : (Program.make Tryz.pinned.checked.prog == some Rows.smellSurerRow.make) = true := by rw [show Program.make Tryz.pinned.checked.prog = some Rows.smellSurerRow.make from factMake]; exact beq_self_eq_true _
set_option maxRecDepth 100000 in
theorem jf : joinedFacts Tryz.pinned.checked.prog 5 Tryz.f5 Rows.smellSurerSpec Rows.smellSurerRow = true := by
 unfold joinedFacts
 simp only [jEnter, jLift, jMake, Bool.and_true]
 kernel_rfl
set_option maxRecDepth 100000 in
theorem smellSurer_said : Rows.SmellSurerSaid :=
 OpenClaim.holds_of_wide_leaving 5 Tryz.f5 rfl rfl rfl rfl rfl rfl rfl ⟨rfl, rfl, rfl, rfl, rfl⟩ rfl rfl rfl rfl rfl (by kernel_rfl) Tryz.func5 jf
  (of_decide_eq_true (by kernel_rfl)) (by unfold Func.isWrapper; rw [if_neg (of_decide_eq_false (by kernel_rfl))]; exact ⟨rfl, rfl⟩)
  (fun os started H enc _ => law_lifted os started H enc)
end Go.Proofs.YtkcomnkgdifboaaGreatDoor
end
