/- Texts Sem Go Call Draw Fn Mates Fan Comm Crew Hands. -/
import Derived.StepT
import Derived.Conc.Events
import Derived.Calls
import Derived.Orders
import Derived.Conc.Own5
import Derived.Conc.Listed
import Derived.Conc.Beside
set_option linter.defProp false
set_option linter.unusedSimpArgs false
set_option linter.unusedVariables false
set_option maxRecDepth 100000
set_option maxHeartbeats 2000000
section
namespace Go.X
open Go
abbrev Hp := Nat -> Option (Bool × Obj)
def Hp.set (H : Hp) (b : Nat) (o : Obj) : Hp := fun x => if x = b then some (true, o) else H x
def Hp.cell (H : Hp) (a : Addr) : Option Value :=
 match H a.block with
 | some (_, .cells c _ _) => if a.spot.isSome then none else c[a.off]?
 | _ => none
def Hp.shape (H : Hp) (b : Nat) : Option (Option (TypeId × Nat)) :=
 match H b with
 | some (_, .cells c e _) => some (some (e, c.size))
 | some _ => some none
 | none => none
def Hp.ice (H : Hp) (a : Addr) : Option Bool :=
 match H a.block with
 | some (_, .cells _ _ (lo, hi)) => some (lo <= a.off && a.off < hi)
 | some _ => some false
 | none => none
def Sat (H : Hp) (w : World) : Prop := ∀ b p o, H b = some (p, o) -> w.heap[b]? = some o
def Hp.le (H H' : Hp) : Prop := ∀ b x, H b = some x -> H' b = some x
theorem Hp.le_refl (H : Hp) : H.le H := fun _ _ h => h
theorem Hp.le_trans {a b c : Hp} (h : a.le b) (h' : b.le c) : a.le c := fun x v hv => h' x v (h x v hv)
theorem Sat.mono {H H' : Hp} {w : World} (h : Sat H' w) (hl : H.le H') : Sat H w := fun b p o hb => h b p o (hl b _ hb)
theorem Hp.le_set {H : Hp} {b : Nat} {o : Obj} (hb : H b = none) : H.le (H.set b o) := fun x v hv => by
 unfold Hp.set
 by_cases h : x = b
 ·subst h; rw [hb] at hv; cases hv
 ·rw [if_neg h]; exact hv
def EvOK (H : Hp) (n : Nat) (e : Event) : Prop :=
 match e.loc with
 | .cell a => e.sync = false /\ ((∃ o, H a.block = some (true, o)) ∨ n <= a.block ∨ (e.write = false /\ ∃ o, H a.block = some (false, o)))
 | .obj r => True /\ ((∃ o, H r = some (true, o)) ∨ n <= r ∨ (e.write = false /\ ∃ o, H r = some (false, o)))
 | .mark .noRoom => True
 | _ => False
def blkOf : Loc -> Option Nat
 | .cell a => some a.block
 | .obj r => some r
 | _ => none
structure Moves (H : Hp) (w : World) (es : Array Event) (H' : Hp) (w' : World) : Prop where
 sat : Sat H' w'
 size : w.heap.size <= w'.heap.size
 frame : ∀ b, b < w.heap.size -> (∀ o, H b ≠ some (true, o)) -> w'.heap[b]? = w.heap[b]?
 own : ∀ b p o', H' b = some (p, o') -> (∃ o, H b = some (p, o) /\ (p = false -> o' = o)) ∨ (w.heap.size <= b /\ p = true)
 tape : w'.tape = w.tape
 os : w'.os = w.os
 output : w'.output = w.output
 evs : ∀ e ∈ es, EvOK H w.heap.size e
 low : ∀ e ∈ es, ∀ b, blkOf e.loc = some b -> b < w'.heap.size
theorem Moves.refl {H : Hp} {w : World} (h : Sat H w) : Moves H w #[] H w :=
 ⟨h, Nat.le_refl _, fun _ _ _ => rfl, fun _ _ o hb => .inl ⟨o, hb, fun _ => rfl⟩, rfl, rfl, rfl, fun e he => by simp at he, fun e he => by simp at he⟩
theorem Sat.lt {H : Hp} {w : World} (h : Sat H w) {b : Nat} {p : Bool} {o : Obj} (hb : H b = some (p, o)) : b < w.heap.size :=
 (Array.getElem?_eq_some_iff.1 (h b p o hb)).1
theorem EvOK.weaken {H H' : Hp} {n n' : Nat} {e : Event} (hn : n <= n')
  (hH : ∀ b p o, H' b = some (p, o) -> (∃ o', H b = some (p, o')) ∨ (n <= b /\ p = true)) (h : EvOK H' n' e) : EvOK H n e := by
 unfold EvOK at *
 cases hl : e.loc with
 | cell a =>
  simp only [hl] at h
  obtain ⟨hs, h⟩ := h
  refine ⟨hs, ?_⟩
  rcases h with ⟨o, ho⟩ | h | ⟨hw, o, ho⟩
  ·rcases hH _ _ _ ho with ⟨o', ho'⟩ | ⟨h1, _⟩
   ·exact .inl ⟨o', ho'⟩
   ·exact .inr (.inl h1)
  ·exact .inr (.inl (Nat.le_trans hn h))
  ·rcases hH _ _ _ ho with ⟨o', ho'⟩ | ⟨h1, _⟩
   ·exact .inr (.inr ⟨hw, o', ho'⟩)
   ·exact .inr (.inl h1)
 | obj a =>
  simp only [hl] at h
  obtain ⟨hs, h⟩ := h
  refine ⟨hs, ?_⟩
  rcases h with ⟨o, ho⟩ | h | ⟨hw, o, ho⟩
  ·rcases hH _ _ _ ho with ⟨o', ho'⟩ | ⟨h1, _⟩
   ·exact .inl ⟨o', ho'⟩
   ·exact .inr (.inl h1)
  ·exact .inr (.inl (Nat.le_trans hn h))
  ·rcases hH _ _ _ ho with ⟨o', ho'⟩ | ⟨h1, _⟩
   ·exact .inr (.inr ⟨hw, o', ho'⟩)
   ·exact .inr (.inl h1)
 | output => simp only [hl] at h
 | goroutines => simp only [hl] at h
 | mark m => simp only [hl] at h; cases m <;> first | exact h.elim | trivial
theorem Moves.trans {H H₁ H₂ : Hp} {w w₁ w₂ : World} {es es' : Array Event} (h : Moves H w es H₁ w₁) (h' : Moves H₁ w₁ es' H₂ w₂) :
  Moves H w (es ++ es') H₂ w₂ where
 sat := h'.sat
 size := Nat.le_trans h.size h'.size
 frame := fun b hb hn => by
  rw [h'.frame b (Nat.lt_of_lt_of_le hb h.size) ?_, h.frame b hb hn]
  intro o ho
  rcases h.own b true o ho with ⟨o', ho', _⟩ | ⟨h1, _⟩
  ·exact hn _ ho'
  ·omega
 own := fun b p o' hb => by
  rcases h'.own b p o' hb with ⟨o, ho, he⟩ | ⟨h1, h2⟩
  ·rcases h.own b p o ho with ⟨o₀, ho₀, he₀⟩ | ⟨h1, h2⟩
   ·exact .inl ⟨o₀, ho₀, fun hp => (he hp).trans (he₀ hp)⟩
   ·exact .inr ⟨h1, h2⟩
  ·exact .inr ⟨Nat.le_trans h.size h1, h2⟩
 tape := h'.tape.trans h.tape
 os := h'.os.trans h.os
 output := h'.output.trans h.output
 evs := fun e he => by
  rcases Array.mem_append.1 he with he | he
  ·exact h.evs e he
  ·refine (h'.evs e he).weaken h.size fun b p o hb => ?_
   rcases h.own b p o hb with ⟨o', ho', _⟩ | h1
   ·exact .inl ⟨o', ho'⟩
   ·exact .inr h1
 low := fun e he b hb => by
  rcases Array.mem_append.1 he with he | he
  ·exact Nat.lt_of_lt_of_le (h.low e he b hb) h'.size
  ·exact h'.low e he b hb
theorem Moves.more {H H₁ G : Hp} {w w₁ : World} {es : Array Event} (h : Moves H w es H₁ w₁) (hl : H.le G) : Moves G w es H₁ w₁ where
 sat := h.sat
 size := h.size
 frame := fun b hb hn => h.frame b hb fun o ho => hn o (hl b _ ho)
 own := fun b p o' hb => (h.own b p o' hb).imp (fun ⟨o, ho, he⟩ => ⟨o, hl b _ ho, he⟩) id
 tape := h.tape
 os := h.os
 output := h.output
 evs := fun e he => (h.evs e he).weaken (Nat.le_refl _) fun b _ o hb => .inl ⟨o, hl b _ hb⟩
 low := h.low
def one : Value -> Bool
 | .agg _ => false
 | .tuple _ => false
 | _ => true
def wpS (P : Program) {α : Type} : Sem α -> Hp -> (α -> Hp -> Prop) -> (Value -> Hp -> Prop) -> Prop
 | .pure a, H, K, _ => K a H
 | .load m a k, H, K, E => m = .plain /\ ∃ v, H.cell a = some v /\ wpS P (k v) H K E
 | .store m a v k, H, K, E => m = .plain /\ one v = true /\ ∃ c e lo hi, H a.block = some (true, .cells c e (lo, hi)) /\ a.spot = none /\ a.off < c.size /\ (lo <= a.off && a.off < hi) = false /\
  wpS P k (H.set a.block (.cells (c.setIfInBounds a.off v) e (lo, hi))) K E
 | .new o k, H, K, E => ∀ b, H b = none -> wpS P (k b) (H.set b o) K E
 | .shape r k, H, K, E => ∃ s, H.shape r = some s /\ wpS P (k s) H K E
 | .freeze _ _ _, _, _, _ => False
 | .frozen a k, H, K, E => ∃ s, H.ice a = some s /\ wpS P (k s) H K E
 | .getObj r k, H, K, E => ∃ p o, H r = some (p, o) /\ (o matches .cells ..) = false /\ (o.isChan && !p) = false /\ wpS P (k o) H K E
 | .setObj r o k, H, K, E => ∃ o', H r = some (true, o') /\ (o' matches .cells ..) = false /\ (o.isChan && false) = false /\ wpS P k (H.set r o) K E
 | .choose q k, H, K, E => if q.forced then wpS P (k 0) H K E else ∀ n, wpS P (k (q.cut n)) H K E
 | .sys _ _, _, _, _ => False
 | .program k, H, K, E => wpS P (k P) H K E
 | .mark m k, H, K, E => m = .noRoom /\ wpS P k H K E
 | .halt (.panic v), H, _, E => E v H
 | .halt _, _, _, _ => False
section
variable {P : Program}
theorem wpS_mono {α : Type} {s : Sem α} {H : Hp} {K K' : α -> Hp -> Prop} {E E' : Value -> Hp -> Prop} (h : wpS P s H K E) (hk : ∀ a H, K a H -> K' a H) (he : ∀ v H, E v H -> E' v H) :
  wpS P s H K' E' := by
 induction s generalizing H with
 | pure a => exact hk _ _ h
 | load m a k ih => obtain ⟨hm, v, hv, h⟩ := h; exact ⟨hm, v, hv, ih _ h⟩
 | store m a v k ih => obtain ⟨hm, h1, c, e, lo, hi, hb, hs, ho, hf, h⟩ := h; exact ⟨hm, h1, c, e, lo, hi, hb, hs, ho, hf, ih h⟩
 | new o k ih => exact fun b hb => ih _ (h b hb)
 | shape r k ih => obtain ⟨s, hs, h⟩ := h; exact ⟨s, hs, ih _ h⟩
 | freeze a n k ih => exact h.elim
 | frozen a k ih => obtain ⟨s, hs, h⟩ := h; exact ⟨s, hs, ih _ h⟩
 | getObj r k ih => obtain ⟨p, o, ho, hc, hch, h⟩ := h; exact ⟨p, o, ho, hc, hch, ih _ h⟩
 | setObj r o k ih => obtain ⟨o', ho, hc, hch, h⟩ := h; exact ⟨o', ho, hc, hch, ih h⟩
 | choose q k ih =>
  simp only [wpS] at *
  split
  ·rename_i hq; rw [if_pos hq] at h; exact ih _ h
  ·rename_i hq; rw [if_neg hq] at h; exact fun n => ih _ (h n)
 | sys c k ih => exact h.elim
 | program k ih => exact ih _ h
 | mark m k ih => exact ⟨h.1, ih h.2⟩
 | halt x => cases x <;> first | exact he _ _ h | exact h.elim
theorem wpS_bind {α β : Type} (s : Sem α) (f : α -> Sem β) (H : Hp) (K : β -> Hp -> Prop) (E : Value -> Hp -> Prop) :
  wpS P (s >>= f) H K E ↔ wpS P s H (fun a H' => wpS P (f a) H' K E) E := by
 change wpS P (s.bind f) H K E ↔ _
 induction s generalizing H with
 | pure a => exact Iff.rfl
 | load m a k ih => simp only [Sem.bind, wpS, ih]
 | store m a v k ih => simp only [Sem.bind, wpS, ih]
 | new o k ih => simp only [Sem.bind, wpS, ih]
 | shape r k ih => simp only [Sem.bind, wpS, ih]
 | freeze a n k ih => exact Iff.rfl
 | frozen a k ih => simp only [Sem.bind, wpS, ih]
 | getObj r k ih => simp only [Sem.bind, wpS, ih]
 | setObj r o k ih => simp only [Sem.bind, wpS, ih]
 | choose q k ih => simp only [Sem.bind, wpS, ih]
 | sys c k ih => exact Iff.rfl
 | program k ih => simp only [Sem.bind, wpS, ih]
 | mark m k ih => simp only [Sem.bind, wpS, ih]
 | halt x => cases x <;> exact Iff.rfl
theorem cell_sat {H : Hp} {w : World} (h : Sat H w) {a : Addr} {v : Value} (hc : H.cell a = some v) : w.cell? a = some v := by
 unfold Hp.cell at hc
 unfold World.cell?
 split at hc
 ·rename_i c e f hb
  rw [h _ _ _ hb]
  exact hc
 ·cases hc
theorem Moves.one {H : Hp} {w : World} {e : Event} (h : Sat H w) (he : EvOK H w.heap.size e) (hl : ∀ b, blkOf e.loc = some b -> b < w.heap.size) : Moves H w #[e] H w :=
 {Moves.refl h with evs := fun x hx => (by simp at hx; subst hx; exact he), low := fun x hx => (by simp at hx; subst hx; exact hl) }
theorem Moves.draw {H : Hp} {w : World} (h : Sat H w) (n : Nat) : Moves H w #[] H { w with drawn := n } :=
 {Moves.refl h with sat := h }
theorem Moves.put {H : Hp} {w : World} (h : Sat H w) {b : Nat} {o o' : Obj} (hb : H b = some (true, o)) {es : Array Event} (hes : ∀ e ∈ es, EvOK H w.heap.size e) (hl : ∀ e ∈ es, ∀ b, blkOf e.loc = some b -> b < w.heap.size) :
  Moves H w es (H.set b o') { w with heap := w.heap.setIfInBounds b o' } where
 sat := fun x p o hx => by
  unfold Hp.set at hx
  by_cases hxb : x = b
  ·subst hxb; simp only [if_true, Option.some.injEq, Prod.mk.injEq] at hx
   simp [h.lt hb, hx.2]
  ·rw [if_neg hxb] at hx
   simp [Array.getElem?_setIfInBounds_ne (Ne.symm hxb), h _ _ _ hx]
 size := by simp
 frame := fun x hx hn => by
  have : b ≠ x := fun e => hn o (e ▸ hb)
  simp [Array.getElem?_setIfInBounds_ne this]
 own := fun x p o'' hx => by
  unfold Hp.set at hx
  by_cases hxb : x = b
  ·subst hxb; simp only [if_true, Option.some.injEq, Prod.mk.injEq] at hx
   exact .inl ⟨o, by rw [hb, hx.1], fun hp => by rw [<- hx.1] at hp; cases hp⟩
  ·rw [if_neg hxb] at hx
   exact .inl ⟨o'', hx, fun _ => rfl⟩
 tape := rfl
 os := rfl
 output := rfl
 evs := hes
 low := fun e he b hb => by simpa using hl e he b hb
theorem Moves.push {H : Hp} {w : World} (h : Sat H w) (o : Obj) : Moves H w #[] (H.set w.heap.size o) { w with heap := w.heap.push o } where
 sat := fun x p o' hx => by
  unfold Hp.set at hx
  by_cases hxb : x = w.heap.size
  ·subst hxb; simp only [if_true, Option.some.injEq, Prod.mk.injEq] at hx
   simp [hx.2]
  ·rw [if_neg hxb] at hx
   have := h.lt hx
   simp [Array.getElem?_push, Nat.ne_of_lt this, h _ _ _ hx]
 size := by simp
 frame := fun x hx hn => by simp [Array.getElem?_push, Nat.ne_of_lt hx]
 own := fun x p o'' hx => by
  unfold Hp.set at hx
  by_cases hxb : x = w.heap.size
  ·subst hxb; simp only [if_true, Option.some.injEq, Prod.mk.injEq] at hx
   exact .inr ⟨Nat.le_refl _, hx.1.symm⟩
  ·rw [if_neg hxb] at hx
   exact .inl ⟨o'', hx, fun _ => rfl⟩
 tape := rfl
 os := rfl
 output := rfl
 evs := fun e he => by simp at he
 low := fun e he => by simp at he
theorem Sat.fresh {H : Hp} {w : World} (h : Sat H w) : H w.heap.size = none := by
 cases hb : H w.heap.size with
 | none => rfl
 | some x => obtain ⟨p, o⟩ := x; exact absurd (h.lt hb) (Nat.lt_irrefl _)
theorem setCell_eq {w : World} {a : Addr} {c : Array Value} {e : TypeId} {lo hi : Nat} {v : Value} (hb : w.heap[a.block]? = some (.cells c e (lo, hi))) (hs : a.spot = none) :
  w.setCell a v = { w with heap := w.heap.setIfInBounds a.block (.cells (c.setIfInBounds a.off v) e (lo, hi)) } := by
 unfold World.setCell
 congr 1
 apply Array.ext_getElem?
 intro i
 rw [Array.getElem?_modify]
 by_cases hi : a.block = i
 ·subst hi
  have hlt := (Array.getElem?_eq_some_iff.1 hb).1
  have hb' : w.heap[a.block] = .cells c e (lo, hi) := by simpa [hlt] using hb
  simp [hb', hs, hlt]
 ·simp [hi, Array.getElem?_setIfInBounds_ne hi]
theorem plain_sync : (Mode.plain == Mode.atomic) = false := rfl
theorem wpS_sound {α : Type} (s : Sem α) : ∀ {H : Hp} {K : α -> Hp -> Prop} {E : Value -> Hp -> Prop} (w : World), Sat H w -> wpS P s H K E ->
  ∃ es w' H', Moves H w es H' w' /\ ∃ r, (∀ es₀, s.runT P w es₀ = (r, es₀ ++ es)) /\ ((∃ a, r = .ok a w' /\ K a H') ∨ (∃ v, r = .halt (.panic v) w' /\ E v H')) := by
 induction s with
 | pure a => intro H K E w hs h; exact ⟨#[], w, H, .refl hs, _, fun es => by simp only [Sem.runT, Array.append_empty], .inl ⟨a, rfl, h⟩⟩
 | load m a k ih =>
  intro H K E w hs h
  obtain ⟨rfl, v, hv, h⟩ := h
  obtain ⟨es, w', H', hm, r, hr, hd⟩ := ih v w hs h
  refine ⟨#[⟨.cell a, false, false⟩] ++ es, w', H', Moves.trans (Moves.one hs ?_ ?_) hm, r, fun es₀ => ?_, hd⟩
  ·refine ⟨rfl, ?_⟩
   unfold Hp.cell at hv
   split at hv
   ·rename_i p c e f hb
    cases p
    ·exact .inr (.inr ⟨rfl, _, hb⟩)
    ·exact .inl ⟨_, hb⟩
   ·cases hv
  ·intro b hb
   cases hb
   unfold Hp.cell at hv
   split at hv
   ·rename_i p c e f hb; exact hs.lt hb
   ·cases hv
  ·simp only [Sem.runT, cell_sat hs hv]
   rw [hr]
   simp [-Sem.runT_eq, plain_sync]
 | store m a v k ih =>
  intro H K E w hs h
  obtain ⟨rfl, h1, c, e, lo, hi, hb, hsp, ho, hf, h⟩ := h
  have hwb := hs _ _ _ hb
  have hset := setCell_eq (v := v) hwb hsp
  have hm0 : Moves H w #[⟨.cell a, true, false⟩] (H.set a.block (.cells (c.setIfInBounds a.off v) e (lo, hi))) (w.setCell a v) := by
   rw [hset]
   exact Moves.put hs hb (fun x hx => by simp at hx; subst hx; exact ⟨rfl, .inl ⟨_, hb⟩⟩) (fun x hx b' hb' => by simp at hx; subst hx; cases hb'; exact hs.lt hb)
  obtain ⟨es, w', H', hm, r, hr, hd⟩ := ih _ hm0.sat h
  refine ⟨#[⟨.cell a, true, false⟩] ++ es, w', H', Moves.trans hm0 hm, r, fun es₀ => ?_, hd⟩
  have hcell : w.cell? a = some c[a.off] := by simp [World.cell?, hwb, hsp, ho]
  have hfr : w.frozen? a = false := by simpa [World.frozen?, hwb] using hf
  cases v <;> first | (simp [one] at h1; done) | (simp only [Sem.runT, hcell, hfr, Bool.false_eq_true, if_false]; rw [hr]; simp [-Sem.runT_eq, plain_sync])
 | new o k ih =>
  intro H K E w hs h
  have hm0 := Moves.push hs o
  obtain ⟨es, w', H', hm, r, hr, hd⟩ := ih _ _ hm0.sat (h _ hs.fresh)
  exact ⟨#[] ++ es, w', H', Moves.trans hm0 hm, r, fun es₀ => by simp only [Sem.runT]; rw [hr]; simp [-Sem.runT_eq], hd⟩
 | shape x k ih =>
  intro H K E w hs h
  obtain ⟨s, hsh, h⟩ := h
  obtain ⟨es, w', H', hm, r, hr, hd⟩ := ih _ w hs h
  refine ⟨es, w', H', hm, r, fun es₀ => ?_, hd⟩
  have : w.shape? x = s := by
   unfold Hp.shape at hsh
   unfold World.shape?
   rcases hb : H x with _ | ⟨p, o⟩
   ·simp [hb] at hsh
   ·rw [hs _ _ _ hb]
    cases o <;> simpa [hb] using hsh
  simp only [Sem.runT, this]; rw [hr]
 | freeze a n k ih => intro H K E w hs h; exact h.elim
 | frozen a k ih =>
  intro H K E w hs h
  obtain ⟨s, hsh, h⟩ := h
  obtain ⟨es, w', H', hm, r, hr, hd⟩ := ih _ w hs h
  refine ⟨es, w', H', hm, r, fun es₀ => ?_, hd⟩
  have : w.frozen? a = s := by
   unfold Hp.ice at hsh
   unfold World.frozen?
   rcases hb : H a.block with _ | ⟨p, o⟩
   ·simp [hb] at hsh
   ·rw [hs _ _ _ hb]
    cases o <;> simpa [hb] using hsh
  simp only [Sem.runT, this]; rw [hr]
 | getObj x k ih =>
  intro H K E w hs h
  obtain ⟨p, o, hb, hc, hch, h⟩ := h
  obtain ⟨es, w', H', hm, r, hr, hd⟩ := ih _ w hs h
  refine ⟨#[⟨.obj x, false, o.isChan⟩] ++ es, w', H', Moves.trans (Moves.one hs ?_ (fun b' hb' => by cases hb'; exact hs.lt hb)) hm, r, fun es₀ => ?_, hd⟩
  ·refine ⟨trivial, ?_⟩
   cases p
   ·exact .inr (.inr ⟨rfl, _, hb⟩)
   ·exact .inl ⟨_, hb⟩
  ·have hwb := hs _ _ _ hb
   cases o <;> first | (simp at hc; done) | (simp only [Sem.runT, hwb]; rw [hr]; simp [-Sem.runT_eq])
 | setObj x o k ih =>
  intro H K E w hs h
  obtain ⟨o', hb, hc, hch, h⟩ := h
  have hm0 : Moves H w #[⟨.obj x, true, o.isChan⟩] (H.set x o) { w with heap := w.heap.setIfInBounds x o } :=
   Moves.put hs hb (fun e he => by simp at he; subst he; exact ⟨trivial, .inl ⟨_, hb⟩⟩) (fun e he b' hb' => by simp at he; subst he; cases hb'; exact hs.lt hb)
  obtain ⟨es, w', H', hm, r, hr, hd⟩ := ih _ hm0.sat h
  refine ⟨#[⟨.obj x, true, o.isChan⟩] ++ es, w', H', Moves.trans hm0 hm, r, fun es₀ => ?_, hd⟩
  have hwb := hs _ _ _ hb
  cases o' <;> first | (simp at hc; done) | (simp only [Sem.runT, hwb]; rw [hr]; simp [-Sem.runT_eq])
 | choose q k ih =>
  intro H K E w hs h
  simp only [wpS] at h
  by_cases hq : q.forced = true
  ·rw [if_pos hq] at h
   obtain ⟨es, w', H', hm, r, hr, hd⟩ := ih _ w hs h
   exact ⟨es, w', H', hm, r, fun es₀ => by simp only [Sem.runT, if_pos hq]; rw [hr], hd⟩
  ·rw [if_neg hq] at h
   have hm0 := Moves.draw hs (w.drawn + 1)
   obtain ⟨es, w', H', hm, r, hr, hd⟩ := ih _ _ hm0.sat (h (w.tape w.drawn q))
   exact ⟨#[] ++ es, w', H', Moves.trans hm0 hm, r, fun es₀ => by simp only [Sem.runT, if_neg hq]; rw [hr]; simp [-Sem.runT_eq], hd⟩
 | sys c k ih => intro H K E w hs h; exact h.elim
 | program k ih =>
  intro H K E w hs h
  obtain ⟨es, w', H', hm, r, hr, hd⟩ := ih _ w hs h
  exact ⟨es, w', H', hm, r, fun es₀ => by simp only [Sem.runT]; rw [hr], hd⟩
 | mark m k ih =>
  intro H K E w hs h
  obtain ⟨rfl, h⟩ := h
  obtain ⟨es, w', H', hm, r, hr, hd⟩ := ih w hs h
  exact ⟨#[⟨.mark .noRoom, false, true⟩] ++ es, w', H', Moves.trans (Moves.one (e := ⟨.mark .noRoom, false, true⟩) hs (by simp [EvOK]) (fun b hb => by cases hb)) hm, r, fun es₀ => by simp only [Sem.runT]; rw [hr]; simp [-Sem.runT_eq], hd⟩
 | halt x =>
  intro H K E w hs h
  cases x <;> first
   | (simp only [wpS] at h; done)
   | exact ⟨#[], w, H, .refl hs, _, fun es₀ => by simp only [Sem.runT, Array.append_empty], .inr ⟨_, rfl, h⟩⟩
end
end Go.X
end
section
namespace Go.X
open Go
open Go.Conc (G base)
def fat (b : Frame) (a : Act) (todo : List Item) : Frame := { b with tmps := a.tmps, todo := todo, defers := a.defers, mode := .run }
theorem eval_fat (b : Frame) (a : Act) (todo : List Item) : (fat b a todo).eval = a.eval := by
 funext x; cases x <;> rfl
structure Md where
 main : Bool
 ph : Goroutine -> Hp -> (Goroutine -> Hp -> Prop) -> Prop
 more : ∀ g H G T, ph g H T -> H.le G -> ph g G T
instance : Coe Md Bool := ⟨Md.main⟩
def Md.own (m : Bool) : Md := ⟨m, fun _ _ _ => False, fun _ _ _ _ h _ => h⟩
inductive WPG (P : Program) (main : Md) (Stop : Goroutine -> Hp -> Prop) : Goroutine -> Hp -> Prop
 | stop {g : Goroutine} {H H₀ : Hp} (h : Stop g H₀) (hl : H₀.le H) : WPG P main Stop g H
 | step {g : Goroutine} {H : Hp} (T : Goroutine -> Hp -> Prop) (hs : g.status = .running)
  (h : ∀ w, Sat H w -> ∃ g' w' es H', stepG P main g w = .go g' w' es /\ Moves H w es H' w' /\ T g' H')
  (ht : ∀ g' H', T g' H' -> WPG P main Stop g' H') : WPG P main Stop g H
 | phase {g : Goroutine} {H : Hp} (T : Goroutine -> Hp -> Prop) (h : main.ph g H T) (ht : ∀ g' H', T g' H' -> WPG P main Stop g' H') : WPG P main Stop g H
section
variable {P : Program} {main : Md} {Stop : Goroutine -> Hp -> Prop}
theorem WPG.more {g : Goroutine} {H G : Hp} (h : WPG P main Stop g H) (hl : H.le G) : WPG P main Stop g G := by
 cases h with
 | stop h hl' => exact .stop h (Hp.le_trans hl' hl)
 | step T hs h ht =>
  exact .step T hs (fun w hw => by
   obtain ⟨g', w', es, H', he, hm, hT⟩ := h w (hw.mono hl)
   exact ⟨g', w', es, H', he, hm.more hl, hT⟩) ht
 | phase T h ht => exact .phase T (main.more _ _ _ _ h hl) ht
theorem WPG.bind {Stop' : Goroutine -> Hp -> Prop} {g : Goroutine} {H : Hp} (h : WPG P main Stop g H) (hs : ∀ g' H', Stop g' H' -> WPG P main Stop' g' H') : WPG P main Stop' g H := by
 induction h with
 | stop h hl => exact (hs _ _ h).more hl
 | step T hr h _ ih => exact .step T hr h ih
 | phase T h _ ih => exact .phase T h ih
theorem WPG.ctl {g g' : Goroutine} {H : Hp} (hs : g.status = .running) (h : ∀ w, stepG P main g w = .go g' w #[]) (hg : WPG P main Stop g' H) : WPG P main Stop g H :=
 .step (fun x y => x = g' /\ y = H) hs (fun w hw => ⟨g', w, #[], H, h w, .refl hw, rfl, rfl⟩) fun x y e => by obtain ⟨rfl, rfl⟩ := e; exact hg
def After (P : Program) (main : Md) (Stop : Goroutine -> Hp -> Prop) (b : Frame) (k : List Item) (cs : List Frame) : Exit -> Act -> Hp -> Prop
 | .normal, a, H => WPG P main Stop (G (fat b a k) cs) H
 | .exit id, a, H => ∀ k', exitTo id k' = exitTo id k -> WPG P main Stop (G (fat b a (.code (.exit id) :: k')) cs) H
 | .goto l, a, H => ∀ k', gotoIn l k' = gotoIn l k -> WPG P main Stop (G (fat b a (.code (.goto l) :: k')) cs) H
 | .ret, a, H => ∀ k', WPG P main Stop (G (fat b a (.code .ret :: k')) cs) H
 | .panic ch, a, H => ∀ k', WPG P main Stop (G { fat b a k' with mode := .panicking ch } cs) H
 | .outgrown, _, _ => False
theorem After.push {b : Frame} {x : Item} {k : List Item} {cs : List Frame} {e : Exit} {a : Act} {H : Hp} (hx : x.plain = true) (he : e ≠ .normal)
  (h : After P main Stop b k cs e a H) : After P main Stop b (x :: k) cs e a H := by
 cases e with
 | normal => exact absurd rfl he
 | exit id => exact fun k' hk => h k' (hk.trans (by cases x <;> simp_all [exitTo, Item.plain]))
 | goto l => exact fun k' hk => h k' (hk.trans (by cases x <;> simp_all [gotoIn, Item.plain]))
 | ret => exact h
 | panic ch => exact h
 | outgrown => exact h
end
def thn (next : Act -> Hp -> Prop) (Q : Exit -> Act -> Hp -> Prop) : Exit -> Act -> Hp -> Prop
 | .normal, a, H => next a H
 | .exit id, a, H => Q (.exit id) a H
 | .goto l, a, H => Q (.goto l) a H
 | .ret, a, H => Q .ret a H
 | .panic ch, a, H => Q (.panic ch) a H
 | .outgrown, _, _ => False
def blk (id : Nat) (Q : Exit -> Act -> Hp -> Prop) : Exit -> Act -> Hp -> Prop
 | .normal, a, H => Q .normal a H
 | .exit id', a, H => if id' = id then Q .normal a H else Q (.exit id') a H
 | .goto l, a, H => Q (.goto l) a H
 | .ret, a, H => Q .ret a H
 | .panic ch, a, H => Q (.panic ch) a H
 | .outgrown, _, _ => False
def wpX (P : Program) (main : Md) (lp : Option Nat) (c : Code) (Q : Exit -> Act -> Hp -> Prop) (a : Act) (H : Hp) : Prop :=
 ∀ (b : Frame) (k : List Item) (cs : List Frame) (Stop : Goroutine -> Hp -> Prop), b.kind ≠ .early -> b.roundOf = lp ->
  (∀ e a' H', Q e a' H' -> After P main Stop b k cs e a' H') -> WPG P main Stop (G (fat b a (.code c :: k)) cs) H
def opsX (P : Program) (main : Md) (lp : Option Nat) (ops : Array Oper) (todo : List Nat) (Q : Exit -> Act -> Hp -> Prop) (a : Act) (H : Hp) : Prop :=
 ∀ (b : Frame) (k : List Item) (cs : List Frame) (Stop : Goroutine -> Hp -> Prop), b.kind ≠ .early -> b.roundOf = lp ->
  (∀ e a' H', Q e a' H' -> After P main Stop b k cs e a' H') -> WPG P main Stop (G (fat b a (.inRegion ops todo :: k)) cs) H
def Runs (P : Program) (main : Md) (fr : Frame) (H : Hp) (R : Ending -> Hp -> Prop) : Prop :=
 ∀ (c : Frame) (cs : List Frame) (Stop : Goroutine -> Hp -> Prop),
  (∀ v H₁, R (.returned v) H₁ -> WPG P main Stop (G (c.finish v) cs) H₁) ->
  (∀ ch H', R (.panicked ch) H' -> WPG P main Stop (G (c.raise ch) cs) H') -> WPG P main Stop (G fr (c :: cs)) H
def uponX (P : Program) (main : Md) (lp : Option Nat) (o : Oper) (a : Act) (next : Act -> Hp -> Prop) (Q : Exit -> Act -> Hp -> Prop) : Next -> Hp -> Prop
 | .value v, H => next (a.put o.dst v) H
 | .skip, H => next (a.put o.dst undef) H
 | .defer d, H => lp = none /\ next ({ a with defers := d :: a.defers }.put o.dst undef) H
 | .enter f args, H => Runs P main (Frame.enter P f args .normal) H fun
  | .returned v, H' => next (a.put o.dst v) H'
  | .panicked ch, H' => Q (.panic ch) a H'
  | .outgrown, _ => False
 | .round l f tmps ars body, H => Runs P main (Frame.round l f tmps ars body .normal) H fun
  | .returned v, H₁ => next (a.put o.dst v) H₁
  | .panicked ch, H₁ => Q (.panic ch) a H₁
  | .outgrown, _ => False
 | _, _ => False
def opX (P : Program) (main : Md) (lp : Option Nat) (o : Oper) (a : Act) (H : Hp) (next : Act -> Hp -> Prop) (Q : Exit -> Act -> Hp -> Prop) : Prop :=
 wpS P (execOp a.eval o) H (uponX P main lp o a next Q) fun v H₁ => Q (.panic [{ v, recovered := false }]) a H₁
section rules
variable {P : Program} {main : Md} {lp : Option Nat} {Q : Exit -> Act -> Hp -> Prop} {a : Act} {H : Hp}
theorem Runs.mono {fr : Frame} {R R' : Ending -> Hp -> Prop} (h : Runs P main fr H R) (hr : ∀ e H, R e H -> R' e H) : Runs P main fr H R' :=
 fun c cs Stop h1 h2 => h c cs Stop (fun v H' r => h1 v H' (hr _ _ r)) fun ch H' r => h2 ch H' (hr _ _ r)
theorem Runs.more {fr : Frame} {H' : Hp} {R : Ending -> Hp -> Prop} (h : Runs P main fr H R) (hl : H.le H') : Runs P main fr H' R :=
 fun c cs Stop h1 h2 => (h c cs Stop h1 h2).more hl
theorem Runs.less {fr : Frame} {R R' : Ending -> Hp -> Prop} (h : Runs P main fr H R) (hr : ∀ e H, R e H -> ∃ H₀, H₀.le H /\ R' e H₀) : Runs P main fr H R' :=
 fun c cs Stop h1 h2 => h c cs Stop (fun v _ r => let ⟨H₀, hl, r'⟩ := hr _ _ r; (h1 v H₀ r').more hl) fun ch _ r => let ⟨H₀, hl, r'⟩ := hr _ _ r; (h2 ch H₀ r').more hl
theorem wpX_mono {c : Code} {Q' : Exit -> Act -> Hp -> Prop} (h : wpX P main lp c Q a H) (hq : ∀ e a H, Q e a H -> Q' e a H) : wpX P main lp c Q' a H :=
 fun b k cs Stop hk hl hc => h b k cs Stop hk hl fun e a' H' q => hc e a' H' (hq e a' H' q)
theorem After.more {Stop : Goroutine -> Hp -> Prop} {b : Frame} {k : List Item} {cs : List Frame} {e : Exit} {H' : Hp} (h : After P main Stop b k cs e a H) (hl : H.le H') : After P main Stop b k cs e a H' := by
 cases e with
 | normal => exact WPG.more h hl
 | exit id => exact fun k' hk => (h k' hk).more hl
 | goto l => exact fun k' hk => (h k' hk).more hl
 | ret => exact fun k' => (h k').more hl
 | panic ch => exact fun k' => (h k').more hl
 | outgrown => exact h
theorem wpX_skip (h : Q .normal a H) : wpX P main lp .skip Q a H := fun b k cs _ _ _ hc =>
 .ctl (g' := G (fat b a k) cs) rfl (fun w => by simp [G, stepG, stepG.exec, fat]) (hc _ _ _ h)
theorem wpX_label {l : Nat} (h : Q .normal a H) : wpX P main lp (.label l) Q a H := fun b k cs _ _ _ hc =>
 .ctl (g' := G (fat b a k) cs) rfl (fun w => by simp [G, stepG, stepG.exec, fat]) (hc _ _ _ h)
theorem wpX_exit {id : Nat} (h : Q (.exit id) a H) : wpX P main lp (.exit id) Q a H := fun _ k _ _ _ _ hc => hc _ _ _ h k rfl
theorem wpX_goto {l : Nat} (h : Q (.goto l) a H) : wpX P main lp (.goto l) Q a H := fun _ k _ _ _ _ hc => hc _ _ _ h k rfl
theorem wpX_ret (h : Q .ret a H) : wpX P main lp .ret Q a H := fun _ k _ _ _ _ hc => hc _ _ _ h k
theorem wpX_seq {x y : Code} (h : wpX P main lp x (thn (fun a' H' => wpX P main lp y Q a' H') Q) a H) : wpX P main lp (.seq x y) Q a H := by
 intro b k cs Stop hk hl hc
 refine .ctl (g' := G (fat b a (.code x :: .code y :: k)) cs) rfl (fun w => by simp [G, stepG, stepG.exec, fat]) ?_
 refine h b (.code y :: k) cs Stop hk hl fun e a' H' q => ?_
 cases e with
 | normal => exact q b k cs Stop hk hl hc
 | exit id => exact (hc _ _ _ q).push rfl (by simp)
 | goto id => exact (hc _ _ _ q).push rfl (by simp)
 | ret => exact After.push (x := .code y) (e := .ret) rfl (by simp) (hc _ _ _ q)
 | panic ch => exact After.push (x := .code y) (e := .panic ch) rfl (by simp) (hc _ _ _ q)
 | outgrown => exact q.elim
theorem wpX_cond {c : Operand} {x y : Code} {t : Bool} (ht : a.eval c = .bool t) (h : wpX P main lp (if t then x else y) Q a H) : wpX P main lp (.cond c x y) Q a H := by
 intro b k cs Stop hk hl hc
 refine .ctl (g' := G (fat b a (.code (if t then x else y) :: k)) cs) rfl (fun w => ?_) (h b k cs Stop hk hl hc)
 have he : (fat b a (.code (.cond c x y) :: k)).eval c = .bool t := by rw [eval_fat]; exact ht
 simp only [fat] at he
 simp [G, stepG, stepG.exec, fat, he]
theorem wpX_block {id : Nat} {c : Code} (h : wpX P main lp c (blk id Q) a H) : wpX P main lp (.block id c) Q a H := by
 intro b k cs Stop hk hl hc
 refine .ctl (g' := G (fat b a (.code c :: .inBlock id :: k)) cs) rfl (fun w => by simp [G, stepG, stepG.exec, fat]) ?_
 refine h b (.inBlock id :: k) cs Stop hk hl fun e a' H' q => ?_
 cases e with
 | normal => exact .ctl (g' := G (fat b a' k) cs) rfl (fun w => by simp [G, stepG, stepG.exec, fat]) (hc _ _ _ q)
 | exit id' =>
  by_cases hid : id' = id
  ·simp only [blk, hid, if_true] at q
   subst hid
   intro k' hk'
   have hx : exitTo id' k' = some k := hk'.trans (by simp [exitTo])
   exact .ctl (g' := G (fat b a' k) cs) rfl (fun w => by simp [G, stepG, stepG.exec, fat, hx]) (hc _ _ _ q)
  ·simp only [blk, hid, if_false] at q
   have hn : (id == id') = false := by simp; exact fun h => hid h.symm
   exact fun k' hk' => hc _ _ _ q k' (hk'.trans (by simp [exitTo, hn]))
 | goto l => exact fun k' hk' => hc _ _ _ q k' (hk'.trans (by simp [gotoIn]))
 | ret => exact hc _ _ _ q
 | panic ch => exact hc _ _ _ q
 | outgrown => exact q.elim
theorem wpX_loop {c : Code} (I : Nat -> Act -> Hp -> Prop) {n : Nat} (h₀ : I n a H)
  (round : ∀ n a H, I n a H -> wpX P main lp c (thn (fun a' H' => ∃ n', n' < n /\ I n' a' H') Q) a H) : wpX P main lp (.loop c) Q a H := by
 intro b k cs Stop hk hl hc
 have key : ∀ n a H, I n a H -> WPG P main Stop (G (fat b a (.code c :: .inLoop c :: k)) cs) H := by
  intro n
  induction n using Nat.strongRecOn with
  | _ n ih =>
   intro a H hI
   refine round n a H hI b (.inLoop c :: k) cs Stop hk hl fun e a' H' q => ?_
   cases e with
   | normal =>
    obtain ⟨n', hlt, hI'⟩ := q
    exact .ctl (g' := G (fat b a' (.code c :: .inLoop c :: k)) cs) rfl (fun w => by simp [G, stepG, stepG.exec, fat]) (ih n' hlt a' H' hI')
   | exit id => exact (hc _ _ _ q).push rfl (by simp)
   | goto id => exact (hc _ _ _ q).push rfl (by simp)
   | ret => exact After.push (x := .inLoop c) (e := .ret) rfl (by simp) (hc _ _ _ q)
   | panic ch => exact After.push (x := .inLoop c) (e := .panic ch) rfl (by simp) (hc _ _ _ q)
   | outgrown => exact q.elim
 exact .ctl (g' := G (fat b a (.code c :: .inLoop c :: k)) cs) rfl (fun w => by simp [G, stepG, stepG.exec, fat]) (key n a H h₀)
theorem wpX_region {id : Nat} {ops : Array Oper} (h : opsX P main lp ops (List.range ops.size) Q a H) : wpX P main lp (.region id ops false) Q a H :=
 fun b k cs Stop hk hl hc => .ctl (g' := G (fat b a (.inRegion ops (List.range ops.size) :: k)) cs) rfl (fun w => by simp [G, stepG, stepG.exec, fat]) (h b k cs Stop hk hl hc)
theorem wpX_region_draw {id : Nat} {ops : Array Oper} (h : ∀ t, opsX P main lp ops (Region.schedule (P.follows .mixedOrders) ops t) Q a H) : wpX P main lp (.region id ops true) Q a H := by
 intro b k cs Stop hk hl hc
 refine .step (fun g' H' => ∃ t, g' = G (fat b a (.inRegion ops (Region.schedule (P.follows .mixedOrders) ops t) :: k)) cs /\ H' = H) rfl (fun w hw => ?_) ?_
 ·refine ⟨_, { w with drawn := w.drawn + 1 }, #[], H, ?_, .draw hw _, w.tape w.drawn (.order b.fn id), rfl, rfl⟩
  simp [G, stepG, stepG.exec, fat, choose, Sem.run, Question.forced, Question.cut]
 ·rintro g' H' ⟨t, rfl, rfl⟩
  exact h t b k cs Stop hk hl hc
theorem opsX_nil {ops : Array Oper} (h : Q .normal a H) : opsX P main lp ops [] Q a H := fun b k cs _ _ _ hc =>
 .ctl (g' := G (fat b a k) cs) rfl (fun w => by simp [G, stepG, stepG.exec, fat]) (hc _ _ _ h)
theorem finish_fat (b : Frame) (a : Act) (ops : Array Oper) (i : Nat) (rest : List Nat) (k : List Item) (v : Value) :
  (fat b a (.inRegion ops (i :: rest) :: k)).finish v = fat b (a.put ((ops[i]?).bind (·.dst)) v) (.inRegion ops rest :: k) := by
 cases h : (ops[i]?).bind (·.dst) <;> simp [Frame.finish, fat, Act.put, h]
theorem mem_seen {fn : FuncId} {es : Array Event} {e : Event} (h : e ∈ seen P fn es) : e ∈ es := by
 dsimp only [seen] at h
 have key : ∀ (l : List Event) (q : Bool) (kept : Array Event), e ∈ (l.foldl (fun (x : Bool × Array Event) (e : Event) => match x, e with
   | (q, kept), e => match e.loc with
    | .mark (.extern f) => ((P.funcs[f]?).any (·.norace), kept)
    | _ => (q, if q && !e.sync then kept else kept.push e)) (q, kept)).2 -> e ∈ kept ∨ e ∈ l := by
  intro l
  induction l with
  | nil => intro q kept h; exact .inl h
  | cons x l ih =>
   intro q kept h
   simp only [List.foldl_cons] at h
   split at h
   ·rcases ih _ _ h with h | h
    ·exact .inl h
    ·exact .inr (List.mem_cons_of_mem _ h)
   ·rcases ih _ _ h with h | h
    ·split at h
     ·exact .inl h
     ·rcases Array.mem_push.1 h with h | h
      ·exact .inl h
      ·exact .inr (h ▸ List.mem_cons_self)
    ·exact .inr (List.mem_cons_of_mem _ h)
 rw [<- Array.foldl_toList] at h
 rcases key _ _ _ h with h | h
 ·simp at h
 ·simpa using h
theorem Moves.seen {H' : Hp} {w w' : World} {es : Array Event} (fn : FuncId) (h : Moves H w es H' w') : Moves H w (Go.seen P fn es) H' w' :=
 {h with evs := fun e he => h.evs e (mem_seen he), low := fun e he => h.low e (mem_seen he) }
end rules
end Go.X
end
section
namespace Go.X
open Go
open Go.Conc (G base)
section rules
variable {P : Program} {main : Md} {lp : Option Nat} {Q : Exit -> Act -> Hp -> Prop} {a : Act} {H : Hp}
theorem stepG_op {b : Frame} {k : List Item} {cs : List Frame} {w : World} {ops : Array Oper} {i : Nat} {rest : List Nat} {o : Oper} (ho : ops[i]? = some o) (hw : Region.wanted o (yielded ops a.tmps) = true)
  (hd : b.roundOf = none ∨ ∀ c, o.op ≠ .defer c) :
  stepG P main (G (fat b a (.inRegion ops (i :: rest) :: k)) cs) w = stepG.apply P true (fat b a (.inRegion ops (i :: rest) :: k)) cs none (execOp a.eval o) w := by
 have he := eval_fat b a (.inRegion ops (i :: rest) :: k)
 simp only [fat] at he
 rcases hd with hd | hd
 ·rw [hd] at he
  simp [G, stepG, stepG.exec, stepG.oper, Frame.oper?, fat, ho, hw, he, hd]
 ·cases hr : b.roundOf with
  | none =>
   rw [hr] at he
   simp [G, stepG, stepG.exec, stepG.oper, Frame.oper?, fat, ho, hw, he, hr]
  | some l =>
   rw [hr] at he
   cases hop : o.op <;> first | (simp [G, stepG, stepG.exec, stepG.oper, Frame.oper?, fat, ho, hw, he, hr, hop]; done) | exact absurd hop (hd _)
theorem opsX_cons {ops : Array Oper} {i : Nat} {rest : List Nat} {o : Oper} (ho : ops[i]? = some o) (hw : Region.wanted o (yielded ops a.tmps) = true)
  (hd : lp = none ∨ ∀ c, o.op ≠ .defer c)
  (h : opX P main lp o a H (fun a' H' => opsX P main lp ops rest Q a' H') Q) : opsX P main lp ops (i :: rest) Q a H := by
 intro b k cs Stop hk hl hc
 have hk' : (b.kind == CallKind.early) = false := by simpa using hk
 have hfin : ∀ v, (fat b a (.inRegion ops (i :: rest) :: k)).finish v = fat b (a.put o.dst v) (.inRegion ops rest :: k) := fun v => by rw [finish_fat, ho]; rfl
 refine .step (fun g' H' => WPG P main Stop g' H') rfl (fun w hs => ?_) fun _ _ h => h
 rw [stepG_op ho hw (hl ▸ hd)]
 obtain ⟨es, w', H', hm, r, hr, hd'⟩ := wpS_sound _ w hs h
 have hm' : Moves H w (seen P b.fn es) H' w' := hm.seen b.fn
 have hr0 : (execOp a.eval o).runT P w #[] = (r, es) := by rw [hr #[]]; simp
 rcases hd' with ⟨x, rfl, hx⟩ | ⟨v, rfl, hv⟩
 ·cases x with
  | value v =>
   refine ⟨G (fat b (a.put o.dst v) (.inRegion ops rest :: k)) cs, w', seen P b.fn es, H', ?_, hm', hx b k cs Stop hk hl hc⟩
   rw [<- hfin]
   simp [stepG.apply, hr0, G, fat, hk', GStep.after, -Sem.runT_eq]
  | skip =>
   refine ⟨G (fat b (a.put o.dst undef) (.inRegion ops rest :: k)) cs, w', seen P b.fn es, H', ?_, hm', hx b k cs Stop hk hl hc⟩
   rw [<- hfin]
   simp [stepG.apply, hr0, G, fat, hk', GStep.after, -Sem.runT_eq]
  | defer d =>
   refine ⟨G (fat b ({ a with defers := d :: a.defers }.put o.dst undef) (.inRegion ops rest :: k)) cs, w', seen P b.fn es, H', ?_, hm', hx.2 b k cs Stop hk hl hc⟩
   have : ({ fat b a (.inRegion ops (i :: rest) :: k) with defers := d :: a.defers } : Frame).finish undef = fat b ({ a with defers := d :: a.defers }.put o.dst undef) (.inRegion ops rest :: k) := by
    have := finish_fat b { a with defers := d :: a.defers } ops i rest k undef
    rw [ho] at this
    exact this
   rw [<- this]
   simp [stepG.apply, hr0, G, fat, hk', GStep.after, -Sem.runT_eq]
  | enter f args =>
   refine ⟨G (Frame.enter P f args .normal) (fat b a (.inRegion ops (i :: rest) :: k) :: cs), w', seen P b.fn es, H', ?_, hm', ?_⟩
   ·simp [stepG.apply, hr0, G, fat, hk', GStep.after, -Sem.runT_eq]
   ·refine hx _ _ Stop (fun v H₁ r => ?_) fun ch H₁ r => ?_
    ·rw [hfin]; exact r b k cs Stop hk hl hc
    ·exact (hc (.panic ch) a H₁ r) _
  | round l f tmps ars body =>
   refine ⟨G (Frame.round l f tmps ars body .normal) (fat b a (.inRegion ops (i :: rest) :: k) :: cs), w', seen P b.fn es, H', ?_, hm', ?_⟩
   ·simp [stepG.apply, hr0, G, fat, hk', GStep.after, -Sem.runT_eq]
   ·refine hx _ _ Stop (fun v H₁ r => ?_) fun ch H₁ r => ?_
    ·rw [hfin]; exact r b k cs Stop hk hl hc
    ·exact (hc (.panic ch) a H₁ r) _
  | _ => exact hx.elim
 ·refine ⟨G { fat b a (.inRegion ops (i :: rest) :: k) with mode := .panicking [{ v, recovered := false }] } cs, w', seen P b.fn es, H', ?_, hm', hc (.panic _) a H' hv _⟩
  simp [stepG.apply, hr0, G, fat, hk', GStep.after, Frame.raise, -Sem.runT_eq]
theorem opsX_unwanted {ops : Array Oper} {i : Nat} {rest : List Nat} {o : Oper} (ho : ops[i]? = some o) (hw : Region.wanted o (yielded ops a.tmps) = false)
  (h : opsX P main lp ops rest Q (a.put o.dst undef) H) : opsX P main lp ops (i :: rest) Q a H := fun b k cs Stop hk hl hc => by
 have hfin : (fat b a (.inRegion ops (i :: rest) :: k)).finish undef = fat b (a.put o.dst undef) (.inRegion ops rest :: k) := by rw [finish_fat, ho]; rfl
 refine .ctl (g' := G (fat b (a.put o.dst undef) (.inRegion ops rest :: k)) cs) rfl (fun w => ?_) (h b k cs Stop hk hl hc)
 rw [<- hfin]
 simp [G, stepG, stepG.exec, fat, ho, hw]
theorem opsX_none {ops : Array Oper} {i : Nat} {rest : List Nat} (ho : ops[i]? = none) (h : opsX P main lp ops rest Q a H) : opsX P main lp ops (i :: rest) Q a H := fun b k cs Stop hk hl hc => by
 have hfin : (fat b a (.inRegion ops (i :: rest) :: k)).finish undef = fat b a (.inRegion ops rest :: k) := by rw [finish_fat, ho]; rfl
 refine .ctl (g' := G (fat b a (.inRegion ops rest :: k)) cs) rfl (fun w => ?_) (h b k cs Stop hk hl hc)
 rw [<- hfin]
 simp [G, stepG, stepG.exec, fat, ho]
def fine (lp : Option Nat) (o : Oper) : Bool := lp.isNone || !(o.op matches .defer _)
theorem fine_spec {o : Oper} (h : fine lp o = true) : lp = none ∨ ∀ c, o.op ≠ .defer c := by
 unfold fine at h
 cases lp with
 | none => exact .inl rfl
 | some l => refine .inr fun c hc => ?_; simp [hc] at h
def numX (P : Program) (main : Md) (lp : Option Nat) (ops : Array Oper) (i : Nat) (Q : Exit -> Act -> Hp -> Prop) (K : Act -> Hp -> Prop) (a : Act) (H : Hp) : Prop :=
 match ops[i]? with
 | none => K a H
 | some o => if Region.wanted o (yielded ops a.tmps) then fine lp o = true /\ opX P main lp o a H K Q else K (a.put o.dst undef) H
theorem opX_mono {o : Oper} {K K' : Act -> Hp -> Prop} (h : opX P main lp o a H K Q) (hk : ∀ a H, K a H -> K' a H) : opX P main lp o a H K' Q := by
 refine wpS_mono h (fun x H' hx => ?_) fun _ _ h => h
 cases x <;> simp only [uponX] at hx ⊢ <;> first
  | exact hk _ _ hx
  | exact ⟨hx.1, hk _ _ hx.2⟩
  | exact hx.mono fun e H₁ he => by cases e <;> first | exact hk _ _ he | exact he
theorem numX_mono {ops : Array Oper} {i : Nat} {K K' : Act -> Hp -> Prop} (hk : ∀ a H, K a H -> K' a H) (h : numX P main lp ops i Q K a H) : numX P main lp ops i Q K' a H := by
 unfold numX at *
 split
 ·exact hk _ _ (by simpa [*] using h)
 ·rename_i o ho
  simp only [ho] at h
  split
  ·rename_i hw; simp only [hw, if_true] at h; exact ⟨h.1, opX_mono h.2 hk⟩
  ·rename_i hw; simp only [hw] at h; exact hk _ _ h
theorem opsX_num {ops : Array Oper} {i : Nat} {rest : List Nat} (h : numX P main lp ops i Q (fun a' H' => opsX P main lp ops rest Q a' H') a H) : opsX P main lp ops (i :: rest) Q a H := by
 unfold numX at h
 cases ho : ops[i]? with
 | none => rw [ho] at h; exact opsX_none ho h
 | some o =>
  rw [ho] at h
  simp only [] at h
  by_cases hw : Region.wanted o (yielded ops a.tmps) = true
  ·rw [if_pos hw] at h; exact opsX_cons ho hw (fine_spec h.1) h.2
  ·rw [if_neg hw] at h; exact opsX_unwanted ho (by simpa using hw) h
def runX (P : Program) (main : Md) (lp : Option Nat) (ops : Array Oper) (Q : Exit -> Act -> Hp -> Prop) : List Nat -> Act -> Hp -> Prop
 | [], a, H => Q .normal a H
 | i :: rest, a, H => numX P main lp ops i Q (runX P main lp ops Q rest) a H
theorem runX_sound {ops : Array Oper} : ∀ {todo : List Nat} {a : Act} {H : Hp}, runX P main lp ops Q todo a H -> opsX P main lp ops todo Q a H
 | [], _, _, h => opsX_nil h
 | _ :: _, _, _, h => opsX_num (numX_mono (fun _ _ h => runX_sound h) h)
theorem wpX_text {id : Nat} {ops : Array Oper} (h : runX P main lp ops Q (List.range ops.size) a H) : wpX P main lp (.region id ops false) Q a H := wpX_region (runX_sound h)
def anyX (P : Program) (main : Md) (lp : Option Nat) (ops : Array Oper) (Q : Exit -> Act -> Hp -> Prop) (S : Hp -> Prop) : Nat -> Array Bool -> Act -> Hp -> Prop
 | 0, listed, a, H => Region.ready .any ops listed = [] /\ Q .normal a H
 | fuel + 1, listed, a, H =>
  (Region.ready .any ops listed = [] -> Q .normal a H) /\
  ∀ i ∈ Region.ready .any ops listed, numX P main lp ops i Q (fun a' H' => S H' /\ anyX P main lp ops Q S fuel (listed.setIfInBounds i true) a' H') a H
theorem anyX_sound {ops : Array Oper} {S : Hp -> Prop} : ∀ (fuel t : Nat) (listed : Array Bool) (a : Act) (H : Hp), anyX P main lp ops Q S fuel listed a H ->
  runX P main lp ops Q (Region.linearise.go .any ops fuel t listed []) a H := by
 intro fuel
 induction fuel with
 | zero => intro t listed a H h; simpa [Region.linearise.go, runX] using h.2
 | succ fuel ih =>
  intro t listed a H h
  obtain ⟨h₀, h₁⟩ := h
  simp only [Region.linearise.go]
  change runX P main lp ops Q (match (Region.ready .any ops listed)[t % (Region.ready .any ops listed).length]? with
   | some i => Region.linearise.go .any ops fuel (t / (Region.ready .any ops listed).length) (listed.setIfInBounds i true) [i]
   | none => [].reverse) a H
  cases hi : (Region.ready .any ops listed)[t % (Region.ready .any ops listed).length]? with
  | none =>
   have hnil : Region.ready .any ops listed = [] := by
    cases hr : Region.ready .any ops listed with
    | nil => rfl
    | cons x xs =>
     rw [hr] at hi
     have hlt : t % (x :: xs).length < (x :: xs).length := Nat.mod_lt _ (by simp)
     simp at hi
     simp at hlt
     omega
   simpa [runX] using h₀ hnil
  | some i =>
   simp only []
   rw [linearise_go_acc, List.reverse_singleton, List.singleton_append]
   exact numX_mono (fun a' H' h => ih _ _ a' H' h.2) (h₁ i (List.mem_of_getElem? hi))
theorem wpX_draw {id : Nat} {ops : Array Oper} (S : Hp -> Prop) (hm : P.follows .mixedOrders = true)
  (h : anyX P main lp ops Q S ops.size (Array.replicate ops.size false) a H) : wpX P main lp (.region id ops true) Q a H :=
 wpX_region_draw fun t => runX_sound (by
  simp only [Region.schedule, hm, Bool.true_or, if_true]
  exact anyX_sound ops.size t _ a H h)
end rules
end Go.X
end
section
namespace Go.X
open Go
section
variable {P : Program} {main : Md} {lp : Option Nat} {Q : Exit -> Act -> Hp -> Prop} {ops : Array Oper} {S : Hp -> Prop}
def YN (P : Program) (main : Md) (v : Value) (H : Hp) : Next -> Hp -> Prop
 | .value u, H' => u = v /\ H' = H
 | .enter f args, H' => Runs P main (Frame.enter P f args .normal) H' fun
  | .returned u, H₁ => u = v /\ H₁ = H
  | _, _ => False
 | _, _ => False
def YieldsX (P : Program) (main : Md) (lp : Option Nat) (ops : Array Oper) (S : Hp -> Prop) (o : Oper) (v : Value) (a : Act) : Prop :=
 (Region.wanted o (yielded ops a.tmps) = true /\ fine lp o = true /\ ∀ H, S H -> wpS P (execOp a.eval o) H (YN P main v H) fun _ _ => False) ∨
 (Region.wanted o (yielded ops a.tmps) = false /\ v = undef)
theorem YieldsX.num {i : Nat} {o : Oper} {v : Value} {a : Act} (hi : ops[i]? = some o) (hy : YieldsX P main lp ops S o v a) {K : Act -> Hp -> Prop} {H : Hp} (hS : S H) (h : K (a.put o.dst v) H) :
  numX P main lp ops i Q K a H := by
 unfold numX
 simp only [hi]
 rcases hy with ⟨hw, hf, hv⟩ | ⟨hw, rfl⟩
 ·simp only [hw, if_true]
  refine ⟨hf, wpS_mono (hv H hS) (fun x H' hx => ?_) fun _ _ h => h.elim⟩
  cases x <;> simp only [YN] at hx
  case value u => obtain ⟨rfl, rfl⟩ := hx; exact h
  case enter f args =>
   simp only [uponX]
   refine hx.mono fun e H₁ he => ?_
   cases e with
   | returned u => obtain ⟨rfl, rfl⟩ := he; exact h
   | panicked c => exact he.elim
   | outgrown => exact he.elim
 ·simp only [hw, Bool.false_eq_true, if_false]; exact h
theorem YieldsX.of_same {o : Oper} {v : Value} {a a' : Act} (hy : YieldsX P main lp ops S o v a) (he : execOp a'.eval o = execOp a.eval o)
  (hw : Region.wanted o (yielded ops a'.tmps) = Region.wanted o (yielded ops a.tmps)) : YieldsX P main lp ops S o v a' := by
 unfold YieldsX at *
 rw [he, hw]
 exact hy
theorem numX_put {j : Nat} {oi oj : Oper} {v : Value} (hj : ops[j]? = some oj) (hap : oi.apart ops oj = true)
  (hsi : ∀ cs b, oi.op ≠ .select cs b) (hsj : ∀ cs b, oj.op ≠ .select cs b)
  (hQ : ∀ c a H, Q (.panic c) (a.put oi.dst v) H -> Q (.panic c) a H) {K : Act -> Hp -> Prop} {a : Act} {H : Hp}
  (hy : YieldsX P main lp ops S oi v a) (h : numX P main lp ops j Q K (a.put oi.dst v) H) :
  numX P main lp ops j Q (fun a' H' => YieldsX P main lp ops S oi v a' /\ K (a'.put oi.dst v) H') a H := by
 obtain ⟨h1, h2, h3⟩ := Oper.apart_spec hap
 have keep : ∀ (a : Act), YieldsX P main lp ops S oi v a -> ∀ u, YieldsX P main lp ops S oi v (a.put oj.dst u) := fun a hy u =>
  hy.of_same (execOp_put oi hsi a oj.dst u h3) (wanted_put oi a oj.dst u h3)
 have keepD : ∀ d, YieldsX P main lp ops S oi v { a with defers := d :: a.defers } := fun d => hy.of_same rfl rfl
 unfold numX at *
 simp only [hj] at *
 rw [wanted_put oj a oi.dst v h1] at h
 split
 ·rename_i hw
  simp only [hw, if_true] at h
  refine ⟨h.1, ?_⟩
  have h := h.2
  unfold opX at *
  rw [execOp_put oj hsj a oi.dst v h1] at h
  refine wpS_mono h (fun x H' hx => ?_) fun u H' hu => hQ _ _ _ hu
  cases x <;> simp only [uponX] at hx ⊢
  case value u => exact ⟨keep a hy u, by rw [<- Act.put_comm a v u h2]; exact hx⟩
  case skip => exact ⟨keep a hy _, by rw [<- Act.put_comm a v undef h2]; exact hx⟩
  case defer d =>
   refine ⟨hx.1, keep _ (keepD d) _, ?_⟩
   rw [<- Act.put_comm _ v undef h2, <- Act.put_defers]
   exact hx.2
  case enter f args =>
   refine hx.mono fun e H₁ he => ?_
   cases e with
   | returned u => exact ⟨keep a hy u, by rw [<- Act.put_comm a v u h2]; exact he⟩
   | panicked c => exact hQ _ _ _ he
   | outgrown => exact he
  case round l f tmps ars body =>
   refine hx.mono fun e H₁ he => ?_
   cases e with
   | returned u => exact ⟨keep a hy u, by rw [<- Act.put_comm a v u h2]; exact he⟩
   | panicked c => exact hQ _ _ _ he
   | outgrown => exact he
 ·rename_i hw
  simp only [hw] at h
  exact ⟨keep a hy _, by rw [<- Act.put_comm a v undef h2]; exact h⟩
def Closed (ops : Array Oper) (listed : Array Bool) : Prop :=
 ∀ (k : Nat) (o : Oper), ops[k]? = some o -> listed.getD k false = true -> ∀ e ∈ o.after, Region.binds .any e = true -> listed.getD e.on false = true
inductive Dep (ops : Array Oper) : Nat -> Nat -> Prop
 | edge {j : Nat} {o : Oper} {e : Edge} (ho : ops[j]? = some o) (he : e ∈ o.after) (hb : Region.binds .any e = true) : Dep ops j e.on
 | more {j k : Nat} {o : Oper} {e : Edge} (h : Dep ops j k) (ho : ops[k]? = some o) (he : e ∈ o.after) (hb : Region.binds .any e = true) : Dep ops j e.on
theorem Dep.listed {listed : Array Bool} (hc : Closed ops listed) {j i : Nat} (hj : j ∈ Region.ready .any ops listed) (h : Dep ops j i) : listed.getD i false = true := by
 induction h with
 | edge ho he hb =>
  obtain ⟨_, o', ho', hall⟩ := mem_ready.1 hj
  rw [ho] at ho'
  exact hall _ (Option.some.inj ho' ▸ he) hb
 | more h ho he hb ih => exact hc _ _ ho ih _ he hb
theorem Closed.set {listed : Array Bool} (hc : Closed ops listed) {i : Nat} (hi : i ∈ Region.ready .any ops listed) : Closed ops (listed.setIfInBounds i true) := by
 intro k o ho hk e he hb
 by_cases hki : k = i
 ·subst hki
  obtain ⟨_, o', ho', hall⟩ := mem_ready.1 hi
  rw [ho] at ho'
  exact getD_set_true (hall e (Option.some.inj ho' ▸ he) hb)
 ·rw [getD_set_ne false (Ne.symm hki)] at hk
  exact getD_set_true (hc k o ho hk e he hb)
theorem Closed.start : Closed ops (Array.replicate ops.size false) := by
 intro k o _ hk
 exfalso
 by_cases h : k < ops.size
 ·simp [Array.getD, h] at hk
 ·simp [Array.getD, h] at hk
def marked (ops : Array Oper) : List Nat -> Array Bool -> Array Bool
 | [], m => m
 | k :: rest, m =>
  if m.getD k false then marked ops rest (((ops[k]?).map (·.after.toList)).getD [] |>.foldl (fun m e => if Region.binds .any e then m.setIfInBounds e.on true else m) m)
  else marked ops rest m
theorem fold_marks {t : Nat} {k : Nat} {o : Oper} (ho : ops[k]? = some o) (hk : k = t ∨ Dep ops t k) : ∀ (l : List Edge) (m : Array Bool), (∀ e ∈ l, e ∈ o.after) -> (∀ x, m.getD x false = true -> x = t ∨ Dep ops t x) ->
  ∀ x, (l.foldl (fun m e => if Region.binds .any e then m.setIfInBounds e.on true else m) m).getD x false = true -> x = t ∨ Dep ops t x
 | [], _, _, hm => hm
 | e :: l, m, hl, hm => by
  simp only [List.foldl_cons]
  refine fold_marks ho hk l _ (fun e' he' => hl e' (List.mem_cons_of_mem _ he')) fun x hx => ?_
  by_cases hb : Region.binds .any e = true
  ·rw [if_pos hb] at hx
   by_cases hxe : e.on = x
   ·subst hxe
    refine .inr ?_
    rcases hk with rfl | hk
    ·exact .edge ho (hl e List.mem_cons_self) hb
    ·exact .more hk ho (hl e List.mem_cons_self) hb
   ·rw [getD_set_ne false hxe] at hx; exact hm x hx
  ·rw [if_neg hb] at hx; exact hm x hx
theorem marked_dep {t : Nat} : ∀ (l : List Nat) (m : Array Bool), (∀ x, m.getD x false = true -> x = t ∨ Dep ops t x) -> ∀ x, (marked ops l m).getD x false = true -> x = t ∨ Dep ops t x
 | [], _, hm => hm
 | k :: rest, m, hm => by
  intro x hx
  unfold marked at hx
  split at hx
  ·rename_i hk
   refine marked_dep rest _ ?_ x hx
   cases ho : ops[k]? with
   | none => simpa [ho] using hm
   | some o =>
    simp only [Option.map_some, Option.getD_some]
    exact fold_marks ho (hm k hk) _ m (fun e he => by simpa using he) hm
  ·exact marked_dep rest m hm x hx
def anyS (P : Program) (main : Md) (lp : Option Nat) (ops : Array Oper) (Q : Exit -> Act -> Hp -> Prop) (S : Hp -> Prop) (t : Nat) : Nat -> Array Bool -> Act -> Hp -> Prop
 | 0, listed, a, H => Region.ready .any ops listed = [] /\ Q .normal a H
 | fuel + 1, listed, a, H =>
  (Region.ready .any ops listed = [] -> Q .normal a H) /\
  ∀ i ∈ Region.ready .any ops listed, numX P main lp ops i Q (fun a' H' => (i = t ∨ S H') /\ anyS P main lp ops Q S t fuel (listed.setIfInBounds i true) a' H') a H
theorem anyX_of_anyS {t : Nat} : ∀ (fuel : Nat) (listed : Array Bool) (a : Act) (H : Hp), anyS P main lp ops Q S t fuel listed a H -> anyX P main lp ops Q (fun _ => True) fuel listed a H
 | 0, _, _, _, h => h
 | fuel + 1, _, _, _, h => ⟨h.1, fun i hi => numX_mono (fun a' H' h' => ⟨trivial, anyX_of_anyS fuel _ a' H' h'.2⟩) (h.2 i hi)⟩
theorem anyS_first {t i : Nat} {oi : Oper} {v : Value} (hi : ops[i]? = some oi) (hsel : ∀ (j : Nat) (o : Oper) cs b, ops[j]? = some o -> o.op ≠ .select cs b)
  (hit : i ≠ t) (hdep : t < ops.size -> Dep ops t i)
  (hQ : ∀ c a H, Q (.panic c) (a.put oi.dst v) H -> Q (.panic c) a H) :
  ∀ (fuel : Nat) (listed : Array Bool) (a : Act) (H : Hp), Closed ops listed ->
   (∀ j oj, ops[j]? = some oj -> j ≠ i -> listed.getD j true = false -> (∀ e ∈ oj.after, Region.binds .any e = true -> e.on ≠ i) -> oi.apart ops oj = true) ->
   i ∈ Region.ready .any ops listed -> YieldsX P main lp ops S oi v a -> S H ->
   anyS P main lp ops Q S t fuel (listed.setIfInBounds i true) (a.put oi.dst v) H -> anyS P main lp ops Q S t (fuel + 1) listed a H := by
 intro fuel
 induction fuel with
 | zero =>
  intro listed a H _ _ hr hy hS h
  refine ⟨fun h0 => (by rw [h0] at hr; cases hr), fun j hj => ?_⟩
  by_cases hji : j = i
  ·subst hji; exact hy.num hi hS ⟨.inr hS, h⟩
  ·have := ready_mono hj hji
   rw [h.1] at this
   cases this
 | succ fuel ih =>
  intro listed a H hcl hfree hr hy hS h
  refine ⟨fun h0 => (by rw [h0] at hr; cases hr), fun j hj => ?_⟩
  by_cases hji : j = i
  ·subst hji; exact hy.num hi hS ⟨.inr hS, h⟩
  ·have h1 := h.2 j (ready_mono hj hji)
   obtain ⟨hjun, oj, hoj, hall⟩ := mem_ready.1 hj
   have hiun : listed.getD i false = false := by
    have h0 := (mem_ready.1 hr).1
    rcases Nat.lt_or_ge i listed.size with h' | h'
    ·simpa [h'] using h0
    ·simp [Array.getElem?_eq_none h']
   have hjt : j ≠ t := fun e => by
    have hlt : t < ops.size := e ▸ (Array.getElem?_eq_some_iff.1 hoj).1
    have := (hdep hlt).listed hcl (e ▸ hj)
    rw [hiun] at this; cases this
   have hnot : ∀ e ∈ oj.after, Region.binds .any e = true -> e.on ≠ i := fun e he hb heq => by
    have h1 := hall e he hb
    rw [heq, hiun] at h1
    cases h1
   have h2 := numX_put hoj (hfree j oj hoj hji hjun hnot) (fun cs b => hsel i oi cs b hi) (fun cs b => hsel j oj cs b hoj) hQ hy h1
   have hfree' : ∀ k ok, ops[k]? = some ok -> k ≠ i -> (listed.setIfInBounds j true).getD k true = false ->
     (∀ e ∈ ok.after, Region.binds .any e = true -> e.on ≠ i) -> oi.apart ops ok = true := fun k ok hk hki hun hno => by
    refine hfree k ok hk hki ?_ hno
    by_cases hjk : j = k
    ·subst hjk; exact hjun
    ·rw [getD_set_ne true hjk] at hun; exact hun
   refine numX_mono (fun a' H' h3 => ?_) h2
   obtain ⟨hy', hd, h4⟩ := h3
   have hS' : S H' := hd.resolve_left hjt
   exact ⟨.inr hS', ih (listed.setIfInBounds j true) a' H' (hcl.set hj) hfree' (ready_mono hr (Ne.symm hji)) hy' hS' (by rw [Array.setIfInBounds_comm _ _ hji]; exact h4)⟩
def planX (P : Program) (main : Md) (lp : Option Nat) (ops : Array Oper) (Q : Exit -> Act -> Hp -> Prop) (S : Hp -> Prop) (t : Nat) : List (Bool × Nat) -> Act -> Hp -> Prop
 | [], a, H => Q .normal a H
 | (true, i) :: rest, a, H => S H /\ ∃ o, ops[i]? = some o /\ ∃ v, YieldsX P main lp ops S o v a /\ planX P main lp ops Q S t rest (a.put o.dst v) H
 | (false, i) :: rest, a, H => numX P main lp ops i Q (fun a' H' => (i = t ∨ S H') /\ planX P main lp ops Q S t rest a' H') a H
def planOK (ops : Array Oper) (t : Nat) (deps : Array Bool) : List (Bool × Nat) -> Array Bool -> Bool
 | [], listed => (Region.ready .any ops listed).isEmpty
 | (true, i) :: rest, listed => i != t && (!(decide (t < ops.size)) || deps.getD i false) && Region.free .any ops listed i && (Region.ready .any ops listed).contains i && planOK ops t deps rest (listed.setIfInBounds i true)
 | (false, i) :: rest, listed => (Region.ready .any ops listed == [i]) && planOK ops t deps rest (listed.setIfInBounds i true)
theorem planX_sound {t : Nat} {deps : Array Bool} (hdeps : ∀ x, deps.getD x false = true -> x = t ∨ Dep ops t x) (hsel : Region.noSelect ops = true)
  (hQ : ∀ c a H d v, Q (.panic c) (a.put d v) H -> Q (.panic c) a H) :
  ∀ (plan : List (Bool × Nat)) (fuel : Nat) (listed : Array Bool) (a : Act) (H : Hp), plan.length <= fuel -> Closed ops listed -> planOK ops t deps plan listed = true ->
   planX P main lp ops Q S t plan a H -> anyS P main lp ops Q S t fuel listed a H
 | [], fuel, listed, a, H, _, _, hok, h => by
  have hr : Region.ready .any ops listed = [] := by simpa [planOK] using hok
  cases fuel with
  | zero => exact ⟨hr, h⟩
  | succ n => exact ⟨fun _ => h, by rw [hr]; simp⟩
 | (true, i) :: rest, 0, _, _, _, hl, _, _, _ => by simp at hl
 | (false, i) :: rest, 0, _, _, _, hl, _, _, _ => by simp at hl
 | (true, i) :: rest, fuel + 1, listed, a, H, hl, hcl, hok, h => by
  simp only [planOK, Bool.and_eq_true, Bool.or_eq_true, bne_iff_ne, ne_eq, Bool.not_eq_true', decide_eq_false_iff_not] at hok
  obtain ⟨⟨⟨⟨hit, hd⟩, hf⟩, hr⟩, hok⟩ := hok
  obtain ⟨hS, o, ho, v, hy, h⟩ := h
  have hr' : i ∈ Region.ready .any ops listed := by simpa using hr
  exact anyS_first ho (Region.noSelect_spec hsel) hit (fun hlt => ((hdeps i (hd.resolve_left (fun hn => hn hlt))).resolve_left hit)) (fun c a H => hQ c a H _ _) fuel listed a H hcl (Region.free_spec ho hf) hr' hy hS
   (planX_sound hdeps hsel hQ rest fuel _ _ _ (by simp at hl; omega) (hcl.set hr') hok h)
 | (false, i) :: rest, fuel + 1, listed, a, H, hl, hcl, hok, h => by
  simp only [planOK, Bool.and_eq_true, beq_iff_eq] at hok
  obtain ⟨hr, hok⟩ := hok
  refine ⟨fun h0 => (by rw [hr] at h0; cases h0), fun j hj => ?_⟩
  have hji : j = i := by rw [hr] at hj; simpa using hj
  subst hji
  exact numX_mono (fun a' H' h' => ⟨h'.1, planX_sound hdeps hsel hQ rest fuel _ _ _ (by simp at hl; omega) (hcl.set hj) hok h'.2⟩) h
theorem wpX_plan {id : Nat} {a : Act} {H : Hp} (S : Hp -> Prop) (t : Nat) (plan : List (Bool × Nat)) (hm : P.follows .mixedOrders = true) (hsel : Region.noSelect ops = true) (hlen : plan.length <= ops.size)
  (hok : planOK ops t (marked ops (List.range ops.size).reverse ((Array.replicate ops.size false).setIfInBounds t true)) plan (Array.replicate ops.size false) = true)
  (hQ : ∀ c a H d v, Q (.panic c) (a.put d v) H -> Q (.panic c) a H) (h : planX P main lp ops Q S t plan a H) : wpX P main lp (.region id ops true) Q a H := by
 refine wpX_draw (fun _ => True) hm (anyX_of_anyS _ _ _ _ (planX_sound (fun x hx => marked_dep _ _ (fun y hy => ?_) x hx) hsel hQ plan _ _ _ _ hlen .start hok h))
 by_cases hyt : t = y
 ·exact .inl hyt.symm
 ·rw [getD_set_ne false hyt] at hy
  by_cases hlt : y < ops.size <;> simp [Array.getD, hlt] at hy
end
end Go.X
end
section
namespace Go.X
open Go
open Go.Conc (G base)
def Leaving (P : Program) (fr : Frame) (H : Hp) (R : Ending -> Hp -> Prop) : Prop :=
 (fr.mode = .returning /\ fr.defers = [] /\ fr.kind = .normal /\ ∃ fn, P.funcs[fr.fn]? = some fn /\ wpS P (results fn fr.tmps) H (fun v H' => R (.returned v) H') fun _ _ => False) ∨
 (∃ ch, fr.mode = .panicking ch /\ fr.defers = [] /\ fr.kind = .normal /\ (∃ fn, P.funcs[fr.fn]? = some fn) /\ R (.panicked ch) H)
def FnX (P : Program) (main : Md) (f : FuncId) (args : Array Value) (H : Hp) (R : Ending -> Hp -> Prop) : Prop :=
 ∀ (cs : List Frame) (Stop : Goroutine -> Hp -> Prop), (∀ fr H', fr.fn = f -> Leaving P fr H' R -> WPG P main Stop (G fr cs) H') -> WPG P main Stop (G (Frame.enter P f args .normal) cs) H
def FnV (P : Program) (main : Md) (f : FuncId) (args : Array Value) (H : Hp) (R : Value -> Hp -> Prop) : Prop :=
 FnX P main f args H fun
  | .returned v, H' => R v H'
  | _, _ => False
section
variable {P : Program} {main : Md} {Stop : Goroutine -> Hp -> Prop}
theorem Leaving.mono {fr : Frame} {H : Hp} {R R' : Ending -> Hp -> Prop} (h : Leaving P fr H R) (hr : ∀ e H, R e H -> R' e H) : Leaving P fr H R' := by
 rcases h with ⟨hm, hd, hk, fn, hf, h⟩ | ⟨ch, hm, hd, hk, hf, h⟩
 ·exact .inl ⟨hm, hd, hk, fn, hf, wpS_mono h (fun v H' r => hr _ _ r) fun _ _ h => h⟩
 ·exact .inr ⟨ch, hm, hd, hk, hf, hr _ _ h⟩
theorem FnX.mono {f : FuncId} {args : Array Value} {H : Hp} {R R' : Ending -> Hp -> Prop} (h : FnX P main f args H R) (hr : ∀ e H, R e H -> R' e H) : FnX P main f args H R' :=
 fun cs Stop hc => h cs Stop fun fr H' hf hl => hc fr H' hf (hl.mono hr)
theorem FnV.mono {f : FuncId} {args : Array Value} {H : Hp} {R R' : Value -> Hp -> Prop} (h : FnV P main f args H R) (hr : ∀ v H, R v H -> R' v H) : FnV P main f args H R' :=
 FnX.mono h fun e H' he => by
  cases e with
  | returned v => exact hr v H' he
  | panicked ch => exact he
  | outgrown => exact he
theorem FnX.more {f : FuncId} {args : Array Value} {H H' : Hp} {R : Ending -> Hp -> Prop} (h : FnX P main f args H R) (hl : H.le H') : FnX P main f args H' R :=
 fun cs Stop hc => (h cs Stop hc).more hl
theorem WPG.tree {α : Type} {g : Goroutine} {H : Hp} {s : Sem α} {K : α -> Hp -> Prop} {E : Value -> Hp -> Prop} (hs : g.status = .running) (h : wpS P s H K E) (T : Goroutine -> Hp -> Prop)
  (hok : ∀ (w w' : World) (H' : Hp) (es : Array Event) (a : α), s.runT P w #[] = (.ok a w', es) -> Moves H w es H' w' -> K a H' -> ∃ g' es', stepG P main g w = .go g' w' es' /\ (∀ e ∈ es', e ∈ es) /\ T g' H')
  (hpan : ∀ (w w' : World) (H' : Hp) (es : Array Event) (v : Value), s.runT P w #[] = (.halt (.panic v) w', es) -> Moves H w es H' w' -> E v H' -> ∃ g' es', stepG P main g w = .go g' w' es' /\ (∀ e ∈ es', e ∈ es) /\ T g' H')
  (ht : ∀ g' H', T g' H' -> WPG P main Stop g' H') : WPG P main Stop g H := by
 refine .step T hs (fun w hw => ?_) ht
 obtain ⟨es, w', H', hm, r, hr, hd⟩ := wpS_sound s w hw h
 have hr0 : s.runT P w #[] = (r, es) := by rw [hr #[]]; simp
 rcases hd with ⟨a, rfl, hk⟩ | ⟨v, rfl, he⟩
 ·obtain ⟨g', es', h1, h2, h3⟩ := hok w w' H' es a hr0 hm hk
  exact ⟨g', w', es', H', h1, { hm with evs := fun e x => hm.evs e (h2 e x), low := fun e x => hm.low e (h2 e x) }, h3⟩
 ·obtain ⟨g', es', h1, h2, h3⟩ := hpan w w' H' es v hr0 hm he
  exact ⟨g', w', es', H', h1, { hm with evs := fun e x => hm.evs e (h2 e x), low := fun e x => hm.low e (h2 e x) }, h3⟩
theorem Leaving.back {fr : Frame} {c : Frame} {cs : List Frame} {H : Hp} {R : Ending -> Hp -> Prop} (h : Leaving P fr H R)
  (hv : ∀ v H', R (.returned v) H' -> WPG P main Stop (G (c.finish v) cs) H') (hp : ∀ ch H', R (.panicked ch) H' -> WPG P main Stop (G (c.raise ch) cs) H') :
  WPG P main Stop (G fr (c :: cs)) H := by
 rcases h with ⟨hm, hd, hk, fn, hf, h⟩ | ⟨ch, hm, hd, hk, ⟨fn, hf⟩, h⟩
 ·refine WPG.tree rfl h (fun g' H' => ∃ v, g' = G (c.finish v) cs /\ R (.returned v) H') (fun w w' H' es v hr _ hk' => ?_) (fun _ _ _ _ _ _ _ he => he.elim) ?_
  ·refine ⟨_, seen P fr.fn es, ?_, fun e => mem_seen, v, rfl, hk'⟩
   simp [G, stepG, unwind, doReturn, hm, hd, hk, hf, hr, GStep.after, -Sem.runT_eq]
  ·rintro g' H' ⟨v, rfl, r⟩; exact hv v H' r
 ·refine .ctl (g' := G (c.raise ch) cs) rfl (fun w => ?_) (hp ch H h)
  simp [G, stepG, unwind, Frame.catches, hm, hd, hf]
theorem FnX.runs {f : FuncId} {args : Array Value} {H : Hp} {R : Ending -> Hp -> Prop} (h : FnX P main f args H R) : Runs P main (Frame.enter P f args .normal) H R :=
 fun c cs Stop hv hp => h (c :: cs) Stop fun _ _ _ hl => hl.back hv hp
def DefX (P : Program) (main : Md) (m : FrameMode) (d : Deferred) (H : Hp) (R : FrameMode -> Hp -> Prop) : Prop :=
 ∀ (c : Frame) (cs : List Frame) (Stop : Goroutine -> Hp -> Prop), c.mode = m -> (∀ m' H', R m' H' -> WPG P main Stop (G { c with mode := m' } cs) H') -> WPG P main Stop (G { c with defers := d :: c.defers } cs) H
def LeaveX (P : Program) (main : Md) (fn : Func) (tmps : Array Value) (R : Ending -> Hp -> Prop) : List Deferred -> FrameMode -> Hp -> Prop
 | [], .returning, H => wpS P (results fn tmps) H (fun v H' => R (.returned v) H') fun _ _ => False
 | [], .panicking ch, H => R (.panicked ch) H
 | [], .run, _ => False
 | d :: ds, m, H => DefX P main m d H fun m' H' => LeaveX P main fn tmps R ds m' H'
def bodyX (P : Program) (main : Md) (fn : Func) (R : Ending -> Hp -> Prop) : Exit -> Act -> Hp -> Prop
 | .normal, a, H | .ret, a, H => LeaveX P main fn a.tmps R a.defers .returning H
 | .panic ch, a, H => LeaveX P main fn a.tmps R a.defers (.panicking ch) H
 | _, _, _ => False
theorem LeaveX.go {f : FuncId} {fn : Func} {tmps : Array Value} {R : Ending -> Hp -> Prop} (hf : P.funcs[f]? = some fn) {cs : List Frame}
  (hc : ∀ fr H', fr.fn = f -> Leaving P fr H' R -> WPG P main Stop (G fr cs) H') : ∀ (ds : List Deferred) (m : FrameMode) (H : Hp) (fr : Frame), fr.fn = f -> fr.tmps = tmps -> fr.kind = .normal -> fr.mode = m -> fr.defers = ds ->
  LeaveX P main fn tmps R ds m H -> WPG P main Stop (G fr cs) H
 | [], .returning, H, fr, h1, h2, h3, h4, h5, h => hc fr H h1 (.inl ⟨h4, h5, h3, fn, by rw [h1]; exact hf, by rw [h2]; exact h⟩)
 | [], .panicking ch, H, fr, h1, _, h3, h4, h5, h => hc fr H h1 (.inr ⟨ch, h4, h5, h3, ⟨fn, by rw [h1]; exact hf⟩, h⟩)
 | [], .run, _, _, _, _, _, _, _, h => h.elim
 | d :: ds, m, H, fr, h1, h2, h3, h4, h5, h => by
  have he : fr = { ({ fr with defers := ds } : Frame) with defers := d :: ({ fr with defers := ds } : Frame).defers } := by
   cases fr; simp at h5; simp [h5]
  rw [he]
  refine h { fr with defers := ds } cs Stop h4 fun m' H' r => ?_
  exact LeaveX.go hf hc ds m' H' { { fr with defers := ds } with mode := m' } h1 h2 h3 rfl rfl r
theorem FnX_of {f : FuncId} {fn : Func} {c : Code} {args : Array Value} {H : Hp} {R : Ending -> Hp -> Prop} (hf : P.funcs[f]? = some fn) (hb : fn.body = some c)
  (h : wpX P main none c (bodyX P main fn R) { tmps := args ++ Array.replicate (fn.ntmps - args.size) undef, defers := [] } H) : FnX P main f args H R := by
 intro cs Stop hc
 have he : Frame.enter P f args .normal = fat (base f) { tmps := args ++ Array.replicate (fn.ntmps - args.size) undef, defers := [] } [.code c] := by
  simp [Frame.enter, fat, hf, hb, base]; rfl
 rw [he]
 have hret : ∀ (a' : Act) (H' : Hp) (k' : List Item), LeaveX P main fn a'.tmps R a'.defers .returning H' -> WPG P main Stop (G { fat (base f) a' k' with mode := .returning } cs) H' := fun a' H' k' q =>
  LeaveX.go hf hc a'.defers .returning H' _ rfl rfl rfl rfl rfl q
 refine h (base f) [] cs Stop (by simp [base]) rfl fun e a' H' q => ?_
 cases e with
 | normal => exact .ctl (g' := G { fat (base f) a' [] with mode := .returning } cs) rfl (fun w => by simp [G, stepG, stepG.exec, fat, base]; rfl) (hret a' H' _ q)
 | ret => exact fun k' => .ctl (g' := G { fat (base f) a' (.code .ret :: k') with mode := .returning } cs) rfl (fun w => by simp [G, stepG, stepG.exec, fat, base]; rfl) (hret a' H' _ q)
 | panic ch => exact fun k' => LeaveX.go hf hc a'.defers (.panicking ch) H' _ rfl rfl rfl rfl rfl q
 | exit id => exact q.elim
 | goto l => exact q.elim
 | outgrown => exact q.elim
end
end Go.X
end
section
namespace Go.X
open Go
open Go.Conc
open Go.ConcN (upd upd_same upd_ne)
theorem EvOK.touch {K : Hp} {n : Nat} {e : Event} (h : EvOK K n e) {a : Touch} (ha : (MemAct.ofEvent e).touch? = some a) :
  a.loc = e.loc /\ ∃ b, blkOf a.loc = some b /\ ((∃ o, K b = some (true, o)) ∨ n <= b ∨ (a.write = false /\ ∃ o, K b = some (false, o))) := by
 obtain ⟨loc, wr, sy⟩ := e
 cases loc with
 | cell c =>
  obtain ⟨rfl, h⟩ := h
  have : a = ⟨.cell c, wr, .plain⟩ := by cases wr <;> simpa [MemAct.ofEvent, MemAct.touch?] using ha.symm
  subst this
  exact ⟨rfl, c.block, rfl, h⟩
 | obj r =>
  obtain ⟨_, h⟩ := h
  cases wr <;> cases sy <;> simp [MemAct.ofEvent, MemAct.touch?] at ha <;> subst ha <;> exact ⟨rfl, r, rfl, h⟩
 | output => exact h.elim
 | goroutines => exact h.elim
 | mark m => cases m <;> first | exact h.elim | (simp [MemAct.ofEvent, MemAct.touch?] at ha)
theorem EvOK.quiet {K : Hp} {n : Nat} {e : Event} (h : EvOK K n e) (m : Mark) (hm : MemAct.ofEvent e = .mark m) : Neutral m := by
 obtain ⟨loc, wr, sy⟩ := e
 cases loc with
 | cell c => cases wr <;> cases sy <;> simp [MemAct.ofEvent] at hm
 | obj r => cases wr <;> cases sy <;> simp [MemAct.ofEvent] at hm
 | output => exact h.elim
 | goroutines => exact h.elim
 | mark m' => cases m' <;> first | exact h.elim | (simp [MemAct.ofEvent] at hm; subst hm; rfl)
structure Mates (t : Trace) (w : World) (hp : Nat -> Option Hp) : Prop where
 sat : ∀ x K, hp x = some K -> Sat K w
 excl : ∀ x y K K', x ≠ y -> hp x = some K -> hp y = some K' -> ∀ b o, K b = some (true, o) -> K' b = none
 kn : ∀ x K, hp x = some K -> ∀ b p o, K b = some (p, o) -> ∀ i a, touchAt t i = some a -> blkOf a.loc = some b -> Knows t x i ∨ (p = false /\ a.write = false)
 clean : ∀ said, ¬ Race said t
 quiet : Wordless t
 low : ∀ i a b, touchAt t i = some a -> blkOf a.loc = some b -> b < w.heap.size
section
variable {t : Trace} {w w' : World} {hp : Nat -> Option Hp} {K K' : Hp} {x : Nat} {es : Array Event} {fn : FuncId} {pos : String}
theorem wordless_of (hm : Moves K w es K' w') : Wordless (MemOp.ofEvents x fn pos es) := fun op hop m hm' => by
 obtain ⟨e, he, rfl⟩ := Go.Conc.mem_ofEvents hop
 exact (hm.evs e he).quiet m hm'
theorem touchAt_new {t u : Trace} {i : Nat} {a : Touch} (h : touchAt (t ++ u) i = some a) : (i < t.size /\ touchAt t i = some a) ∨ (t.size <= i /\ ∃ op, op ∈ u /\ (t ++ u)[i]? = some op /\ op.act.touch? = some a) := by
 obtain ⟨op, ho, ha⟩ := touch_of h
 rcases getElem?_append_cases ho with ⟨hi, ho'⟩ | ⟨hi, hu⟩
 ·exact .inl ⟨hi, by rw [touchAt_of ho']; exact ha⟩
 ·exact .inr ⟨hi, op, hu, ho, ha⟩
theorem Mates.own (h : Mates t w hp) (hx : hp x = some K) (hm : Moves K w es K' w') : Mates (t ++ MemOp.ofEvents x fn pos es) w' (upd hp x (some K')) where
 sat := fun y L hy => by
  by_cases hyx : y = x
  ·subst hyx; rw [upd_same] at hy; cases hy; exact hm.sat
  ·rw [upd_ne _ _ hyx] at hy
   intro b p o hb
   rw [hm.frame b ((h.sat y L hy).lt hb) fun o' ho' => by rw [h.excl x y K L (Ne.symm hyx) hx hy b o' ho'] at hb; cases hb]
   exact h.sat y L hy b p o hb
 excl := fun y z L L' hyz hy hz b o hb => by
  by_cases hyx : y = x
  ·subst hyx
   rw [upd_same] at hy; cases hy
   rw [upd_ne _ _ (Ne.symm hyz)] at hz
   rcases hm.own b true o hb with ⟨o', ho', _⟩ | ⟨h1, _⟩
   ·exact h.excl y z K L' hyz hx hz b o' ho'
   ·cases hl : L' b with
    | none => rfl
    | some q => obtain ⟨p', o'⟩ := q; exact absurd ((h.sat z L' hz).lt hl) (by omega)
  ·rw [upd_ne _ _ hyx] at hy
   by_cases hzx : z = x
   ·subst hzx
    rw [upd_same] at hz; cases hz
    have hn := h.excl y z L K hyz hy hx b o hb
    cases hl : K' b with
    | none => rfl
    | some q =>
     obtain ⟨p', o'⟩ := q
     rcases hm.own b p' o' hl with ⟨o'', ho'', _⟩ | ⟨h1, _⟩
     ·rw [hn] at ho''; cases ho''
     ·exact absurd ((h.sat y L hy).lt hb) (by omega)
   ·rw [upd_ne _ _ hzx] at hz
    exact h.excl y z L L' hyz hy hz b o hb
 kn := fun y L hy b p o hb i a ha hab => by
  rcases touchAt_new ha with ⟨_, ha'⟩ | ⟨_, op, hop, hoi, hoa⟩
  ·by_cases hyx : y = x
   ·subst hyx
    rw [upd_same] at hy; cases hy
    rcases hm.own b p o hb with ⟨o', ho', _⟩ | ⟨h1, _⟩
    ·exact (h.kn y K hx b p o' ho' i a ha' hab).imp (·.app _) id
    ·exact absurd (h.low i a b ha' hab) (by omega)
   ·rw [upd_ne _ _ hyx] at hy
    exact (h.kn y L hy b p o hb i a ha' hab).imp (·.app _) id
  ·obtain ⟨e, he, rfl⟩ := Go.Conc.mem_ofEvents hop
   by_cases hyx : y = x
   ·subst hyx
    exact .inl (knows_own hoi)
   ·rw [upd_ne _ _ hyx] at hy
    obtain ⟨_, b', hb', hc⟩ := (hm.evs e he).touch hoa
    obtain rfl : b' = b := Option.some.inj (hb'.symm.trans hab)
    rcases hc with ⟨o', ho'⟩ | hc | ⟨hw, o', ho'⟩
    ·rw [h.excl x y K L (Ne.symm hyx) hx hy _ _ ho'] at hb; cases hb
    ·exact absurd ((h.sat y L hy).lt hb) (by omega)
    ·cases p with
     | false => exact .inr ⟨rfl, hw⟩
     | true => rw [h.excl y x L K hyx hy hx _ _ hb] at ho'; cases ho'
 clean := fun said => noRace_append (g := x) (h.clean said) (fun op hop => by obtain ⟨e, _, rfl⟩ := Go.Conc.mem_ofEvents hop; rfl) fun i a ha op hop c hc hcf => by
  obtain ⟨e, he, rfl⟩ := Go.Conc.mem_ofEvents hop
  obtain ⟨_, b, hb, hk⟩ := (hm.evs e he).touch hc
  obtain ⟨hl, hmem, hwr, _⟩ := hcf
  have hab : blkOf a.loc = some b := by rw [hl]; exact hb
  rcases hk with ⟨o', ho'⟩ | hk | ⟨hw, o', ho'⟩
  ·exact (h.kn x K hx b true o' ho' i a ha hab).elim id fun ⟨hp', _⟩ => by cases hp'
  ·exact absurd (h.low i a b ha hab) (by omega)
  ·refine (h.kn x K hx b false o' ho' i a ha hab).elim id fun ⟨_, haw⟩ => ?_
   rw [haw, hw] at hwr
   simp at hwr
 quiet := h.quiet.append (wordless_of hm)
 low := fun i a b ha hab => by
  rcases touchAt_new ha with ⟨_, ha'⟩ | ⟨_, op, hop, hoi, hoa⟩
  ·exact Nat.lt_of_lt_of_le (h.low i a b ha' hab) hm.size
  ·obtain ⟨e, he, rfl⟩ := Go.Conc.mem_ofEvents hop
   obtain ⟨hl, _⟩ := (hm.evs e he).touch hoa
   exact hm.low e he b (by rw [<- hl]; exact hab)
theorem noRace_mute {said : Bool} {u : Trace} (h : ¬ Race said t) (hu : ∀ op ∈ u, op.act.touch? = none) : ¬ Race said (t ++ u) := by
 rintro ⟨i, j, hij, ⟨a, b, ha, hb, hc⟩, n1, n2⟩
 rcases touchAt_new (t := t) (u := u) (i := j) hb with ⟨hj, hb'⟩ | ⟨_, op, hop, _, hoa⟩
 ·rcases touchAt_new (t := t) (u := u) (i := i) ha with ⟨hi, ha'⟩ | ⟨hi, _⟩
  ·exact h ⟨i, j, hij, ⟨a, b, ha', hb', hc⟩, fun e => n1 (hb_app u e), fun e => n2 (hb_app u e)⟩
  ·omega
 ·rw [hu op hop] at hoa; cases hoa
theorem Mates.mute (h : Mates t w hp) {u : Trace} (hu : ∀ op ∈ u, op.act.touch? = none) (hw : Wordless u) (hs : w.heap.size <= w'.heap.size)
  (hk : ∀ y L b q, hp y = some L -> L b = some q -> w'.heap[b]? = w.heap[b]?) : Mates (t ++ u) w' hp where
 sat := fun y L hy b p o hb => by rw [hk y L b _ hy hb]; exact h.sat y L hy b p o hb
 excl := h.excl
 kn := fun y L hy b p o hb i a ha hab => by
  rcases touchAt_new ha with ⟨_, ha'⟩ | ⟨_, op, hop, _, hoa⟩
  ·exact (h.kn y L hy b p o hb i a ha' hab).imp (·.app _) id
  ·rw [hu op hop] at hoa; cases hoa
 clean := fun said => noRace_mute (h.clean said) hu
 quiet := h.quiet.append hw
 low := fun i a b ha hab => by
  rcases touchAt_new ha with ⟨_, ha'⟩ | ⟨_, op, hop, _, hoa⟩
  ·exact Nat.lt_of_lt_of_le (h.low i a b ha' hab) hs
  ·rw [hu op hop] at hoa; cases hoa
theorem Mates.less (h : Mates t w hp) {hq : Nat -> Option Hp} (hl : ∀ y L, hq y = some L -> ∃ M, hp y = some M /\ ∀ b p o, L b = some (p, o) -> ∃ p', M b = some (p', o) /\ (p = true -> p' = true)) : Mates t w hq where
 sat := fun y L hy b p o hb => by
  obtain ⟨M, hM, hLM⟩ := hl y L hy
  obtain ⟨p', hb', _⟩ := hLM b p o hb
  exact h.sat y M hM b p' o hb'
 excl := fun y z L L' hyz hy hz b o hb => by
  obtain ⟨M, hM, hLM⟩ := hl y L hy
  obtain ⟨M', hM', hLM'⟩ := hl z L' hz
  obtain ⟨p', hb', hp'⟩ := hLM b true o hb
  obtain rfl := hp' rfl
  have := h.excl y z M M' hyz hM hM' b o hb'
  cases hL : L' b with
  | none => rfl
  | some q => obtain ⟨p, o'⟩ := q; obtain ⟨_, hb'', _⟩ := hLM' b p o' hL; rw [this] at hb''; cases hb''
 kn := fun y L hy b p o hb i a ha hab => by
  obtain ⟨M, hM, hLM⟩ := hl y L hy
  obtain ⟨p', hb', hp'⟩ := hLM b p o hb
  refine (h.kn y M hM b p' o hb' i a ha hab).imp id fun ⟨h1, h2⟩ => ⟨?_, h2⟩
  cases p with
  | false => rfl
  | true => rw [hp' rfl] at h1; cases h1
 clean := h.clean
 quiet := h.quiet
 low := h.low
theorem Mates.spawn (h : Mates t w hp) {n : Nat} {H Hc : Hp} {f₁ f₂ : FuncId} {p₁ p₂ : String} (h0 : hp 0 = some H) (hn : hp n = none) (hn0 : n ≠ 0)
  (hc : ∀ b p o, Hc b = some (p, o) -> p = false /\ H b = some (false, o)) :
  Mates (t ++ #[{ g := 0, fn := f₁, pos := p₁, act := .go n }, { g := n, fn := f₂, pos := p₂, act := .start }]) w (upd hp n (some Hc)) := by
 have hm : Mates (t ++ #[({ g := 0, fn := f₁, pos := p₁, act := .go n } : MemOp), { g := n, fn := f₂, pos := p₂, act := .start }]) w hp :=
  h.mute (fun op hop => by simp at hop; rcases hop with rfl | rfl <;> rfl) (fun op hop m hm => by simp at hop; rcases hop with rfl | rfl <;> cases hm) (Nat.le_refl _) fun _ _ _ _ _ _ => rfl
 have e1 : (t ++ #[({ g := 0, fn := f₁, pos := p₁, act := .go n } : MemOp), { g := n, fn := f₂, pos := p₂, act := .start }])[t.size]? = some { g := 0, fn := f₁, pos := p₁, act := .go n } := by
  rw [Array.getElem?_append_right (Nat.le_refl _)]; simp
 have e2 : (t ++ #[({ g := 0, fn := f₁, pos := p₁, act := .go n } : MemOp), { g := n, fn := f₂, pos := p₂, act := .start }])[t.size + 1]? = some { g := n, fn := f₂, pos := p₂, act := .start } := by
  rw [Array.getElem?_append_right (by omega)]; simp
 have edge : HappensBefore (t ++ #[({ g := 0, fn := f₁, pos := p₁, act := .go n } : MemOp), { g := n, fn := f₂, pos := p₂, act := .start }]) t.size (t.size + 1) :=
  .single (.inr ⟨.spawn (child := n) (by simp [Trace.act?, e1]) (by simp [Trace.act?, e2]) (by simp [Trace.g?, e2]), hm.quiet.heard e1, hm.quiet.heard e2⟩)
 refine ⟨fun y L hy => ?_, fun y z L L' hyz hy hz b o hb => ?_, fun y L hy b p o hb i a ha hab => ?_, hm.clean, hm.quiet, hm.low⟩
 ·by_cases hyn : y = n
  ·subst hyn; rw [upd_same] at hy; cases hy
   exact fun b p o hb => h.sat 0 H h0 b false o (hc b p o hb).2
  ·rw [upd_ne _ _ hyn] at hy; exact hm.sat y L hy
 ·by_cases hyn : y = n
  ·subst hyn; rw [upd_same] at hy; cases hy
   exact absurd (hc b true o hb).1 (by simp)
  ·rw [upd_ne _ _ hyn] at hy
   by_cases hzn : z = n
   ·subst hzn; rw [upd_same] at hz; cases hz
    cases hl : Hc b with
    | none => rfl
    | some q =>
     obtain ⟨p, o'⟩ := q
     have h2 := (hc b p o' hl).2
     by_cases hy0 : y = 0
     ·subst hy0; rw [h0] at hy; cases hy; rw [h2] at hb; cases hb
     ·rw [h.excl y 0 L H hy0 hy h0 b o hb] at h2; cases h2
   ·rw [upd_ne _ _ hzn] at hz
    exact h.excl y z L L' hyz hy hz b o hb
 ·by_cases hyn : y = n
  ·subst hyn; rw [upd_same] at hy; cases hy
   obtain ⟨rfl, hb'⟩ := hc b p o hb
   rcases touchAt_new ha with ⟨_, ha'⟩ | ⟨_, op, hop, _, hoa⟩
   ·refine (h.kn 0 H h0 b false o hb' i a ha' hab).imp (fun hk => ?_) id
    exact ⟨t.size + 1, _, e2, rfl, .inr ((hk.hb_new (Nat.le_refl _) e1 rfl).trans edge)⟩
   ·simp at hop; rcases hop with rfl | rfl <;> cases hoa
  ·rw [upd_ne _ _ hyn] at hy
   exact hm.kn y L hy b p o hb i a ha hab
end
end Go.X
end
section
namespace Go.X
open Go
open Go.Conc
open Go.ConcN (upd upd_same upd_ne)
inductive Rk where
 | zero
 | node (f : Goroutine × Hp -> Rk)
inductive Rk.lt : Rk -> Rk -> Prop
 | sub (f : Goroutine × Hp -> Rk) (x : Goroutine × Hp) : Rk.lt (f x) (.node f)
theorem Rk.acc (ρ : Rk) : Acc Rk.lt ρ := by
 induction ρ with
 | zero => exact ⟨_, fun y h => by cases h⟩
 | node f ih => exact ⟨_, fun y h => by cases h with | sub _ x => exact ih x⟩
inductive Down : List Rk -> List Rk -> Prop
 | head {x y : Rk} {l : List Rk} : Rk.lt x y -> Down (x :: l) (y :: l)
 | tail {y : Rk} {l l' : List Rk} : Down l' l -> Down (y :: l') (y :: l)
theorem Down.acc (l : List Rk) : Acc Down l := by
 induction l with
 | nil => exact ⟨_, fun y h => by cases h⟩
 | cons y l ih =>
  have key : ∀ y, Acc Rk.lt y -> ∀ l, Acc Down l -> Acc Down (y :: l) := by
   intro y hy
   induction hy with
   | intro y _ ihy =>
    intro l hl
    induction hl with
    | intro l hl ihl =>
     refine ⟨_, fun z hz => ?_⟩
     cases hz with
     | head hxy => exact ihy _ hxy l ⟨l, hl⟩
     | tail h => exact ihl _ h
  exact key y (Rk.acc y) l ih
theorem Down.set {μ : List Rk} {i : Nat} {x y : Rk} (hy : μ[i]? = some y) (h : Rk.lt x y) : Down (μ.set i x) μ := by
 induction μ generalizing i with
 | nil => simp at hy
 | cons z l ih =>
  cases i with
  | zero => simp at hy; subst hy; exact .head h
  | succ i => exact .tail (ih (by simpa using hy))
inductive Oth (P : Program) (c : Nat) : Rk -> Goroutine -> Option (Hp × Value) -> Prop
 | fin {ρ : Rk} {g : Goroutine} (h : g.status = .finished) : Oth P c ρ g none
 | slip {f : Goroutine × Hp -> Rk} {g g' : Goroutine} (x : Goroutine × Hp) (hs : g.status = .running) (h : ∀ w, stepG P false g w = .go g' w #[]) (hn : Oth P c (f x) g' none) : Oth P c (.node f) g none
 | step {f : Goroutine × Hp -> Rk} {g : Goroutine} {K : Hp} {v : Value} (S : Goroutine -> Hp -> Prop) (hs : g.status = .running)
  (h : ∀ w, Sat K w -> ∃ g' w' es K', stepG P false g w = .go g' w' es /\ Moves K w es K' w' /\ S g' K') (ht : ∀ g' K', S g' K' -> Oth P c (f (g', K')) g' (some (K', v))) : Oth P c (.node f) g (some (K, v))
 | send {f : Goroutine × Hp -> Rk} {g g₁ : Goroutine} {z : Value} {K : Hp} {v : Value} (x : Goroutine × Hp) (hs : g.status = .running) (h : ∀ w, Sat K w -> stepG P false g w = .comm g₁ #[scase c v z] true .send w #[])
  (hn : Oth P c (f x) (Go.Conc.served g₁ undef) none) : Oth P c (.node f) g (some (K, v))
theorem Oth.status {P : Program} {c : Nat} {ρ : Rk} {g : Goroutine} {q : Option (Hp × Value)} (h : Oth P c ρ g q) : g.status = .running ∨ g.status = .finished := by
 cases h <;> first | exact .inl ‹_› | exact .inr ‹_›
theorem Oth.quits {P : Program} {c : Nat} {ρ : Rk} {g : Goroutine} {q : Option (Hp × Value)} (h : Oth P c ρ g q) (hq : q = none) : ∃ n, QuitsD P n 0 g := by
 induction h with
 | fin h => exact ⟨0, h, rfl⟩
 | slip x hs h _ ih => obtain ⟨n, hn⟩ := ih rfl; exact ⟨n + 1, .ctl hs h hn⟩
 | step => cases hq
 | send => cases hq
theorem Oth.any {P : Program} {c : Nat} {ρ : Rk} {g : Goroutine} {q : Option (Hp × Value)} (h : Oth P c ρ g q) (hq : q = none) (c' : Nat) : Oth P c' ρ g none := by
 induction h with
 | fin h => exact .fin h
 | slip x hs h _ ih => exact .slip x hs h (ih rfl)
 | step => cases hq
 | send => cases hq
theorem Oth.of_quits {P : Program} {c : Nat} : ∀ {n : Nat} {g : Goroutine}, QuitsIn P n g -> ∃ ρ, Oth P c ρ g none
 | 0, _, h => ⟨.zero, .fin h⟩
 | _ + 1, g, h => h.elim (fun x => ⟨.zero, .fin x⟩) fun ⟨hs, g', hst, hq⟩ => let ⟨ρ, hρ⟩ := Oth.of_quits hq; ⟨.node fun _ => ρ, .slip (g, fun _ => none) hs hst hρ⟩
def AtSend (P : Program) (c : Nat) (v : Value) (g : Goroutine) (K : Hp) : Prop :=
 g.status = .running /\ ∃ g₁ z, (∀ w, Sat K w -> stepG P false g w = .comm g₁ #[scase c v z] true .send w #[]) /\ ∃ n, QuitsIn P n (Go.Conc.served g₁ undef)
open Classical in
theorem WPG.oth {P : Program} {c : Nat} {v : Value} {g : Goroutine} {K : Hp} (h : WPG P (.own false) (AtSend P c v) g K) : ∃ ρ, Oth P c ρ g (some (K, v)) := by
 induction h with
 | stop h hl =>
  obtain ⟨hs, g₁, z, h1, n, h2⟩ := h
  obtain ⟨ρ, hρ⟩ := Oth.of_quits (c := c) h2
  exact ⟨.node fun _ => ρ, .send (g₁, fun _ => none) hs (fun w hw => h1 w (hw.mono hl)) hρ⟩
 | step T hs h _ ih => exact ⟨.node fun x => if hx : T x.1 x.2 then (ih x.1 x.2 hx).choose else .zero, .step T hs h fun g' K' ht => by
   simp only [dif_pos ht]
   exact (ih g' K' ht).choose_spec⟩
 | phase T h => exact h.elim
inductive Gh where
 | idle
 | busy (c cap : Nat) (L : List Value) (D : Nat -> Prop)
def Gh.free (γ : Gh) (H : Hp) : Prop := match γ with | .idle => True | .busy c _ _ _ => H c = none
def Gh.chan : Gh -> Nat
 | .idle => 0
 | .busy c _ _ _ => c
def Hp.del (H : Hp) (c : Nat) : Hp := fun b => if b = c then none else H b
inductive Fan (P : Program) (T : Goroutine -> Hp -> Prop) : Gh -> Goroutine -> Hp -> Prop
 | stop {g : Goroutine} {H H₀ : Hp} (h : T g H₀) (hl : H₀.le H) : Fan P T .idle g H
 | step {γ : Gh} {g : Goroutine} {H : Hp} (S : Goroutine -> Hp -> Prop) (hs : g.status = .running)
  (h : ∀ w, Sat H w -> ∃ g' w' es H', stepG P true g w = .go g' w' es /\ Moves H w es H' w' /\ S g' H') (ht : ∀ g' H', S g' H' -> Fan P T γ g' H') : Fan P T γ g H
 | opn {c cap : Nat} {D : Nat -> Prop} {g : Goroutine} {H : Hp} (h : H c = some (true, .chan cap #[] false 0 0 false)) (hD : ∀ b, D b -> ∃ o, H b = some (true, o)) (hn : Fan P T (.busy c cap [] D) g (H.del c)) : Fan P T .idle g H
 | spawn {c cap : Nat} {D : Nat -> Prop} {L : List Value} {g g' child : Goroutine} {H H' Hc : Hp} {v : Value} (hs : g.status = .running) (h : ∀ w, Sat H w -> stepG P true g w = .spawn g' child w #[]) (hl : L.length < cap)
  (hc : ∀ b p o, Hc b = some (p, o) -> p = false /\ H' b = some (false, o)) (hH : ∀ b p o, H' b = some (p, o) -> ∃ p', H b = some (p', o) /\ (p = true -> p' = true)) (ho : ∃ ρ, Oth P c ρ child (some (Hc, v)))
  (hn : Fan P T (.busy c cap (v :: L) D) g' H') : Fan P T (.busy c cap L D) g H
 | recv {c cap e s r : Nat} {D : Nat -> Prop} {L : List Value} {g g₁ : Goroutine} {z z' : Value} {H : Hp} (hs : g.status = .running) (hL : L ≠ []) (h : ∀ w, Sat H w -> stepG P true g w = .comm g₁ #[rcase c z, rcase e z'] true .select w #[])
  (he : H e = some (true, .chan 0 #[] false s r false))
  (hn : ∀ v L', L.Perm (v :: L') -> Fan P T (.busy c cap L' D) (g₁.finishComm P #[rcase c z, rcase e z'] .select 0 v true) H) : Fan P T (.busy c cap L D) g H
 | shut {c cap e s r : Nat} {D : Nat -> Prop} {g g₁ : Goroutine} {z z' : Value} {H : Hp} (hs : g.status = .running) (h : ∀ w, Sat H w -> stepG P true g w = .comm g₁ #[rcase c z, rcase e z'] true .select w #[])
  (he : H e = some (true, .chan 0 #[] true s r false)) (hn : Fan P T (.busy c cap [] D) (g₁.finishComm P #[rcase c z, rcase e z'] .select 1 z' false) H) : Fan P T (.busy c cap [] D) g H
 | close {c cap : Nat} {D : Nat -> Prop} {g : Goroutine} {H G : Hp} (hG : ∀ b p o, G b = some (p, o) -> ∃ p', H b = some (p', o) /\ (p = true -> p' = true ∨ D b)) (hn : ∀ n, Fan P T .idle g (G.set c (.chan cap #[] false n n false))) : Fan P T (.busy c cap [] D) g H
theorem Hp.del_le {H G : Hp} (h : H.le G) (c : Nat) : (H.del c).le (G.del c) := fun b x hb => by
 unfold Hp.del at *
 by_cases hc : b = c
 ·rw [if_pos hc] at hb; cases hb
 ·rw [if_neg hc] at hb ⊢; exact h b x hb
theorem Hp.del_same (H : Hp) (c : Nat) : H.del c c = none := by simp [Hp.del]
theorem Fan.more {P : Program} {T : Goroutine -> Hp -> Prop} {γ : Gh} {g : Goroutine} {H : Hp} (h : Fan P T γ g H) : ∀ G : Hp, H.le G -> Fan P T γ g G := by
 induction h with
 | stop h hl => exact fun G hG => .stop h (Hp.le_trans hl hG)
 | step S hs h ht _ => exact fun G hG => .step S hs (fun w hw => by
  obtain ⟨g', w', es, H', he, hm, hT⟩ := h w (hw.mono hG)
  exact ⟨g', w', es, H', he, hm.more hG, hT⟩) ht
 | opn h hD _ ih => exact fun G hG => .opn (hG _ _ h) (fun b hb => (hD b hb).imp fun _ h => hG _ _ h) (ih _ (Hp.del_le hG _))
 | spawn hs h hl hc hH ho hn _ => exact fun G hG => .spawn hs (fun w hw => h w (hw.mono hG)) hl hc (fun b p o hb => let ⟨p', h1, h2⟩ := hH b p o hb; ⟨p', hG _ _ h1, h2⟩) ho hn
 | recv hs hL h he _ ih => exact fun G hG => .recv hs hL (fun w hw => h w (hw.mono hG)) (hG _ _ he) fun v L' hp => ih v L' hp G hG
 | shut hs h he _ ih => exact fun G hG => .shut hs (fun w hw => h w (hw.mono hG)) (hG _ _ he) (ih G hG)
 | close hG' hn _ => exact fun G hG => .close (fun b p o hb => let ⟨p', h1, h2⟩ := hG' b p o hb; ⟨p', hG _ _ h1, h2⟩) hn
theorem Fan.bind {P : Program} {T T' : Goroutine -> Hp -> Prop} {γ : Gh} {g : Goroutine} {H : Hp} (h : Fan P T γ g H) (ht : ∀ g' H', T g' H' -> Fan P T' .idle g' H') : Fan P T' γ g H := by
 induction h with
 | stop h hl => exact (ht _ _ h).more _ hl
 | step S hs h _ ih => exact .step S hs h ih
 | opn h hD _ ih => exact .opn h hD ih
 | spawn hs h hl hc hH ho _ ih => exact .spawn hs h hl hc hH ho ih
 | recv hs hL h he _ ih => exact .recv hs hL h he ih
 | shut hs h he _ ih => exact .shut hs h he ih
 | close hG _ ih => exact .close hG ih
def Md.co (P : Program) : Md := ⟨true, fun g H T => Fan P T .idle g H, fun _ _ G _ h hl => h.more G hl⟩
theorem WPG.fan {P : Program} {T : Goroutine -> Hp -> Prop} {g : Goroutine} {H : Hp} (h : WPG P (.co P) T g H) : Fan P T .idle g H := by
 induction h with
 | stop h hl => exact .stop h hl
 | step S hs h _ ih => exact .step S hs h ih
 | phase S h _ ih => exact Fan.bind h ih
theorem WPG.walk {P : Program} {T S : Goroutine -> Hp -> Prop} {γ : Gh} {g : Goroutine} {H : Hp} (h : WPG P (.own true) S g H) (hs : ∀ g' H', S g' H' -> Fan P T γ g' H') : Fan P T γ g H := by
 induction h with
 | stop h hl => exact (hs _ _ h).more _ hl
 | step S' hr h _ ih => exact .step S' hr h ih
 | phase S' h => exact h.elim
end Go.X
end
section
namespace Go.X
open Go
open Go.Conc
def fin0 : Goroutine := { (default : Goroutine) with status := .finished }
def rest0 (sl : Option (Nat × Nat)) : Rest := { timers := #[], alone := none, slice := sl }
section
variable {P : Program} {gs : Array Goroutine} {w w' : World} {sl : Option (Nat × Nat)}
theorem runT_crowd_comm {i : Nat} {g g₁ : Goroutine} {cases : Array CommCase} {bl : Bool} {shape : CommShape} {es : Array Event} (hi : gs[i]? = some g) (h : stepG P (i == 0) g w = .comm g₁ cases bl shape w' es) :
  runT P (crowd gs w sl) i = ((communicate P (rest0 sl) (gs.setIfInBounds i fin0) i g₁ cases bl shape w').1, MemOp.ofEvents i g.frame.fn g.frame.place es ++ (communicate P (rest0 sl) (gs.setIfInBounds i fin0) i g₁ cases bl shape w').2) := by
 obtain ⟨hlt, rfl⟩ := Array.getElem?_eq_some_iff.1 hi
 have hsw := swapAt_of_lt hlt { (default : Goroutine) with status := .finished }
 have e : gs.set i { (default : Goroutine) with status := .finished } = gs.setIfInBounds i fin0 := by simp [Array.setIfInBounds, hlt, fin0]
 show runT P { world := w, gs := gs, rest := { timers := #[], alone := none, slice := sl } } i = _
 unfold runT
 simp only [hsw, h, GStep.es, e]
 rfl
theorem partners_none {r : Nat} {b : Bool} (h : ∀ x ∈ gs, x.status ≠ .blocked) : partners gs r b = [] := by
 unfold partners
 rw [List.flatMap_eq_nil_iff]
 rintro ⟨x, i⟩ hx
 have hm : x ∈ gs := by
  have := List.mem_zipIdx (by simpa using hx : (x, i) ∈ gs.toList.zipIdx)
  obtain ⟨_, h2, h3⟩ := this
  rw [h3]; exact Array.mem_toList_iff.1 (List.getElem_mem _)
 have := h x hm
 cases hs : x.status <;> simp_all
theorem set_self_set {i : Nat} {x y : Goroutine} : (gs.setIfInBounds i x).setIfInBounds i y = gs.setIfInBounds i y := by
 apply Array.ext_getElem?
 intro j
 by_cases hj : i = j
 ·subst hj; by_cases hl : i < gs.size <;> simp [hl]
 ·simp [Array.getElem?_setIfInBounds_ne hj]
theorem none_blocked {i : Nat} (h : ∀ j y, gs[j]? = some y -> j ≠ i -> y.status ≠ .blocked) : ∀ y ∈ gs.setIfInBounds i fin0, y.status ≠ .blocked := by
 intro y hy
 obtain ⟨j, hj⟩ := Array.mem_iff_getElem?.1 hy
 by_cases hji : i = j
 ·subst hji
  rw [Array.getElem?_setIfInBounds] at hj
  split at hj
  ·split at hj
   ·cases hj; simp [fin0]
   ·cases hj
  ·exact absurd rfl ‹_›
 ·rw [Array.getElem?_setIfInBounds_ne hji] at hj
  exact h j y hj (Ne.symm hji)
section
variable {c e cap s r s' r' : Nat} {buf : Array Value} {g₁ : Goroutine} {z z' v : Value} {i : Nat}
theorem comm_send_room (hc : w.heap[c]? = some (.chan cap buf false s r false)) (hroom : buf.size < cap) (hn : ∀ y ∈ gs, y.status ≠ .blocked) :
  communicate P (rest0 sl) gs i g₁ #[scase c v z] true .send w = (.next (crowd (gs.setIfInBounds i (Go.Conc.served g₁ undef)) { w with heap := w.heap.setIfInBounds c (.chan cap (buf.push v) false (s + 1) r false) } sl),
   #[{ g := i, fn := g₁.frame.fn, pos := g₁.frame.place, act := .send c s }, { g := i, fn := g₁.frame.fn, pos := g₁.frame.place, act := .sendDone c s }]) := by
 have hp := partners_none (r := c) (b := false) hn
 simp [communicate, ways, scase, hc, hp, hroom, choose, Sem.run, Question.forced, bind, Sem.bind, pure, Goroutine.finishComm, commResult, Go.Conc.served, crowd, rest0]
theorem comm_recv_buf (hc : w.heap[c]? = some (.chan cap buf false s r false)) (hsome : 0 < buf.size) (he : w.heap[e]? = some (.chan 0 #[] false s' r' false)) (hn : ∀ y ∈ gs, y.status ≠ .blocked) :
  communicate P (rest0 sl) gs i g₁ #[rcase c z, rcase e z'] true .select w = (.next (crowd (gs.setIfInBounds i (g₁.finishComm P #[rcase c z, rcase e z'] .select 0 (buf.getD 0 undef) true)) { w with heap := w.heap.setIfInBounds c (.chan cap (buf.extract 1 buf.size) false s (r + 1) false) } sl),
   #[{ g := i, fn := g₁.frame.fn, pos := g₁.frame.place, act := .recv c r cap }, { g := i, fn := g₁.frame.fn, pos := g₁.frame.place, act := .recvDone c r }]) := by
 have hp := partners_none (r := c) (b := true) hn
 have hp' := partners_none (r := e) (b := true) hn
 simp [communicate, ways, rcase, hc, he, hp, hp', hsome, choose, Sem.run, Question.forced, bind, Sem.bind, pure, crowd, rest0, List.zipIdx, List.filter]
theorem comm_recv_waits (hc : w.heap[c]? = some (.chan cap #[] false s r false)) (he : w.heap[e]? = some (.chan 0 #[] false s' r' false)) (hn : ∀ y ∈ gs, y.status ≠ .blocked) :
  communicate P (rest0 sl) gs i g₁ #[rcase c z, rcase e z'] true .select w = (.next (crowd (gs.setIfInBounds i (parked g₁ #[rcase c z, rcase e z'] .select)) w sl), #[]) := by
 have hp := partners_none (r := c) (b := true) hn
 have hp' := partners_none (r := e) (b := true) hn
 simp [communicate, ways, rcase, hc, he, hp, hp', crowd, rest0, List.zipIdx, List.filter, waitingAt, timerAhead, parked]
theorem comm_recv_shut (hc : w.heap[c]? = some (.chan cap #[] false s r false)) (he : w.heap[e]? = some (.chan 0 #[] true s' r' false)) (hn : ∀ y ∈ gs, y.status ≠ .blocked) :
  communicate P (rest0 sl) gs i g₁ #[rcase c z, rcase e z'] true .select w = (.next (crowd (gs.setIfInBounds i (g₁.finishComm P #[rcase c z, rcase e z'] .select 1 z' false)) w sl),
   #[{ g := i, fn := g₁.frame.fn, pos := g₁.frame.place, act := .recvClosed e }]) := by
 have hp := partners_none (r := c) (b := true) hn
 have hp' := partners_none (r := e) (b := true) hn
 simp [communicate, ways, rcase, hc, he, hp, hp', choose, Sem.run, Question.forced, bind, Sem.bind, pure, crowd, rest0, List.zipIdx, List.filter]
theorem partners_main {a : Goroutine} {l : List Goroutine} (hce : c ≠ e) (ha : a = parked g₁ #[rcase c z, rcase e z'] .select) (hn : ∀ y ∈ l, y.status ≠ .blocked) : partners (a :: l).toArray c false = [(0, 0)] := by
 unfold partners
 have h1 : ((a :: l).toArray.zipIdx).toList = (a, 0) :: l.zipIdx 1 := by simp [List.zipIdx_cons]
 rw [h1, List.flatMap_cons]
 refine (congrArg (_ ++ ·) (List.flatMap_eq_nil_iff.2 ?_)).trans ?_
 ·rintro ⟨x, i⟩ hx
  obtain ⟨_, h2, h3⟩ := List.mem_zipIdx hx
  have := hn x (by rw [h3]; exact List.getElem_mem _)
  cases hs : x.status <;> simp_all
 ·subst ha
  have hec : (e == c) = false := by simpa using Ne.symm hce
  simp [parked, rcase, List.zipIdx, List.filter, hec]
theorem fin_send (g : Goroutine) (cs : Array CommCase) (k : Int) (v : Value) (ok : Bool) : g.finishComm P cs .send k v ok = Go.Conc.served g undef := rfl
def handed (P : Program) (v : Value) (g : Goroutine) : Goroutine := match g.offers with
 | some (cs, shape) => g.finishComm P cs shape (0 : Nat) v (((cs[0]?).map (·.send.isNone)).getD false)
 | none => g
theorem comm_send_meets {a : Goroutine} {l : List Goroutine} (hce : c ≠ e) (ha : a = parked g₁ #[rcase c z, rcase e z'] .select) (hn : ∀ y ∈ l, y.status ≠ .blocked) {g₂ : Goroutine} {zz : Value}
  (hc : w.heap[c]? = some (.chan cap #[] false s r false)) :
  communicate P (rest0 sl) (a :: l).toArray i g₂ #[scase c v zz] true .send w = (.next (crowd (((a :: l).toArray.modify 0 (handed P v)).setIfInBounds i (Go.Conc.served g₂ undef)) { w with heap := w.heap.setIfInBounds c (.chan cap #[] false (s + 1) (r + 1) false) } sl),
   #[{ g := i, fn := g₂.frame.fn, pos := g₂.frame.place, act := .send c s }, { g := 0, fn := a.frame.fn, pos := a.frame.place, act := .recv c r cap },
    {g := i, fn := g₂.frame.fn, pos := g₂.frame.place, act := .sendDone c s }, { g := 0, fn := a.frame.fn, pos := a.frame.place, act := .recvDone c r }]) := by
 have hp := partners_main hce ha hn
 simp [communicate, ways, scase, hc, hp, choose, Sem.run, Question.forced, bind, Sem.bind, pure, finishPartner, fin_send, crowd, rest0]
 rfl
end
end
end Go.X
end
section
namespace Go.X
open Go
open Go.Conc
open Go.ConcN (upd upd_same upd_ne)
abbrev Ro := Nat -> Option (Hp × Value)
def hps (H : Hp) (ro : Ro) (x : Nat) : Option Hp := if x = 0 then some H else (ro x).map (·.1)
theorem hps_zero (H : Hp) (ro : Ro) : hps H ro 0 = some H := rfl
theorem hps_succ (H : Hp) (ro : Ro) (i : Nat) : hps H ro (i + 1) = (ro (i + 1)).map (·.1) := rfl
theorem upd_hps0 (H H' : Hp) (ro : Ro) : upd (hps H ro) 0 (some H') = hps H' ro := by
 funext x; by_cases hx : x = 0
 ·subst hx; rw [upd_same]; rfl
 ·rw [upd_ne _ _ hx]; simp [hps, hx]
theorem upd_hps (H : Hp) (ro : Ro) (i : Nat) (K : Hp) (v : Value) : upd (hps H ro) (i + 1) (some K) = hps H (upd ro (i + 1) (some (K, v))) := by
 funext x; by_cases hx : x = i + 1
 ·subst hx; rw [upd_same, hps_succ, upd_same]; rfl
 ·rw [upd_ne _ _ hx]
  cases x with
  | zero => rfl
  | succ x => rw [hps_succ, hps_succ, upd_ne _ _ hx]
def vals (ro : Ro) : Nat -> List Value
 | 0 => []
 | n + 1 => vals ro n ++ ((ro n).map (·.2)).toList
theorem vals_congr {ro ro' : Ro} : ∀ {n : Nat}, (∀ i, i < n -> (ro i).map (·.2) = (ro' i).map (·.2)) -> vals ro n = vals ro' n
 | 0, _ => rfl
 | n + 1, h => by rw [vals, vals, vals_congr fun i hi => h i (by omega), h n (by omega)]
theorem vals_upd {ro : Ro} {j : Nat} {K : Hp} {v : Value} (hj : ro j = some (K, v)) : ∀ {n : Nat}, j < n -> (vals ro n).Perm (v :: vals (upd ro j none) n)
 | n + 1, h => by
  rcases Nat.lt_or_ge j n with hlt | hge
  ·rw [vals, vals, upd_ne _ _ (by omega)]
   exact (vals_upd hj hlt).append_right _
  ·obtain rfl : j = n := by omega
   rw [vals, vals, upd_same, hj]
   have : vals (upd ro j none) j = vals ro j := vals_congr fun i hi => by rw [upd_ne _ _ (by omega)]
   rw [this]
   simp
theorem vals_some {ro : Ro} : ∀ {n : Nat}, vals ro n ≠ [] -> ∃ i K v, i < n /\ ro i = some (K, v)
 | 0, h => absurd rfl h
 | n + 1, h => by
  cases hr : ro n with
  | some q => exact ⟨n, q.1, q.2, by omega, by rw [hr]⟩
  | none =>
   rw [vals, hr] at h
   obtain ⟨i, K, v, hi, he⟩ := vals_some (n := n) (by simpa using h)
   exact ⟨i, K, v, by omega, he⟩
structure Base (W w : World) : Prop where
 os : w.os = W.os
 output : w.output = W.output
 size : W.heap.size <= w.heap.size
 block : ∀ b, b < W.heap.size -> w.heap[b]? = W.heap[b]?
structure Busy (W : World) (c cap : Nat) (L : List Value) (D : Nat -> Prop) (H : Hp) (n : Nat) (w : World) (t : Trace) (ro : Ro) (bf : List Nat) (buf : Array Value) (r : Nat) : Prop where
 obj : w.heap[c]? = some (.chan cap buf false (r + buf.size) r false)
 none : ∀ x K, hps H ro x = some K -> K c = none
 high : W.heap.size <= c
 perm : L.Perm (buf.toList ++ vals ro n)
 room : L.length <= cap
 len : bf.length = buf.size
 by_ : ∀ (p j : Nat), bf[p]? = some j -> (j ≠ 0 /\ j < n) /\ ro j = .none /\ ∃ (q : Nat) (op : MemOp), t[q]? = some op /\ op.act = .send c (r + p) /\ op.g = j /\ ∀ (i : Nat) (z : MemOp), t[i]? = some z -> z.g = j -> z.act.touch? ≠ .none -> i < q
 lent : ∀ b, D b -> W.heap.size <= b
def Still (W : World) (γ : Gh) (H : Hp) (n : Nat) (w : World) (t : Trace) (ro : Ro) (bf : List Nat) : Prop :=
 match γ with
 | .idle => bf = [] /\ ∀ i, ro i = none
 | .busy c cap L D => ∃ buf r, Busy W c cap L D H n w t ro bf buf r
structure FI (P : Program) (W : World) (γ : Gh) (H : Hp) (gs : Array Goroutine) (w : World) (t : Trace) (μ : List Rk) (ro : Ro) (bf : List Nat) : Prop where
 mates : Mates t w (hps H ro)
 size : gs.size = μ.length + 1
 oth : ∀ i x, gs[i + 1]? = some x -> ∃ ρ, μ[i]? = some ρ /\ Oth P γ.chan ρ x (ro (i + 1))
 out : ∀ i, gs.size <= i -> ro i = none
 zero : ro 0 = none
 over : ∀ i a, touchAt t i = some a -> Knows t 0 i ∨ ∃ op, t[i]? = some op /\ ((ro op.g).isSome = true ∨ op.g ∈ bf)
 base : Base W w
 owns : ∀ x K b o, hps H ro x = some K -> K b = some (true, o) -> W.heap.size <= b
 still : Still W γ H gs.size w t ro bf
section
variable {P : Program} {W : World} {γ : Gh} {H H' : Hp} {gs : Array Goroutine} {w w' : World} {t : Trace} {μ : List Rk} {ro : Ro} {bf : List Nat} {es : Array Event} {fn : FuncId} {pos : String}
theorem FI.at (h : FI P W γ H gs w t μ ro bf) (d : Nat) : FI P W γ H gs (w.at d) t μ ro bf where
 mates := ⟨h.mates.sat, h.mates.excl, h.mates.kn, h.mates.clean, h.mates.quiet, h.mates.low⟩
 size := h.size
 oth := h.oth
 out := h.out
 zero := h.zero
 over := h.over
 base := ⟨h.base.os, h.base.output, h.base.size, h.base.block⟩
 owns := h.owns
 still := by
  have := h.still
  cases γ with
  | idle => exact this
  | busy c cap L D => exact let ⟨buf, r, hb⟩ := this; ⟨buf, r, hb.obj, hb.none, hb.high, hb.perm, hb.room, hb.len, hb.by_, hb.lent⟩
theorem Base.moves {K K' : Hp} (h : Base W w) (ho : ∀ b o, K b = some (true, o) -> W.heap.size <= b) (hm : Moves K w es K' w') : Base W w' :=
 ⟨hm.os.trans h.os, hm.output.trans h.output, Nat.le_trans h.size hm.size, fun b hb => (hm.frame b (Nat.lt_of_lt_of_le hb h.size) fun o hbo => absurd (ho b o hbo) (by omega)).trans (h.block b hb)⟩
theorem lt_of_heap {c : Nat} {o : Obj} (h : w.heap[c]? = some o) : c < w.heap.size := (Array.getElem?_eq_some_iff.1 h).1
theorem sends_app {c r p j : Nat} {u : Trace} (hu : ∀ op ∈ u, op.g = j -> op.act.touch? = none)
  (h : ∃ (q : Nat) (op : MemOp), t[q]? = some op /\ op.act = .send c (r + p) /\ op.g = j /\ ∀ (i : Nat) (z : MemOp), t[i]? = some z -> z.g = j -> z.act.touch? ≠ none -> i < q) :
  ∃ (q : Nat) (op : MemOp), (t ++ u)[q]? = some op /\ op.act = .send c (r + p) /\ op.g = j /\ ∀ (i : Nat) (z : MemOp), (t ++ u)[i]? = some z -> z.g = j -> z.act.touch? ≠ none -> i < q := by
 obtain ⟨q, op, h1, h2, h3, h4⟩ := h
 refine ⟨q, op, by rw [getElem?_append_old (lt_size_of_getElem? h1)]; exact h1, h2, h3, fun i z hz hg ht => ?_⟩
 rcases getElem?_append_cases hz with ⟨hi, hz'⟩ | ⟨_, hz'⟩
 ·exact h4 i z hz' hg ht
 ·exact absurd (hu z hz' hg) ht
theorem Still.moves {x : Nat} {K K' : Hp} {ro' : Ro} {H' : Hp} (hx : hps H ro x = some K) (hro : upd (hps H ro) x (some K') = hps H' ro') (hv : ∀ i, (ro' i).map (·.2) = (ro i).map (·.2))
  (h : Still W γ H gs.size w t ro bf) (hm : Moves K w es K' w') (hxb : x = 0 ∨ (ro x).isSome = true) : Still W γ H' gs.size w' (t ++ MemOp.ofEvents x fn pos es) ro' bf := by
 cases γ with
 | idle => exact ⟨h.1, fun i => by have := hv i; rw [h.2 i] at this; simpa using this⟩
 | busy c cap L D =>
  obtain ⟨buf, r, hb⟩ := h
  have hc := lt_of_heap hb.obj
  refine ⟨buf, r, ?_, fun y M hy => ?_, hb.high, ?_, hb.room, hb.len, fun p j hp => ?_, hb.lent⟩
  ·rw [hm.frame c hc fun o ho => by rw [hb.none x K hx] at ho; cases ho]; exact hb.obj
  ·rw [<- hro] at hy
   by_cases hyx : y = x
   ·subst hyx; rw [upd_same] at hy; cases hy
    cases hl : K' c with
    | none => rfl
    | some q =>
     obtain ⟨p, o⟩ := q
     rcases hm.own c p o hl with ⟨o', ho', _⟩ | ⟨h1, _⟩
     ·rw [hb.none y K hx] at ho'; cases ho'
     ·omega
   ·rw [upd_ne _ _ hyx] at hy; exact hb.none y M hy
  ·rw [vals_congr fun i _ => hv i]; exact hb.perm
  ·obtain ⟨h0, hj, hq⟩ := hb.by_ p j hp
   refine ⟨h0, by have := hv j; rw [hj] at this; simpa using this, sends_app (fun op hop hg => ?_) hq⟩
   obtain ⟨e, _, rfl⟩ := Go.Conc.mem_ofEvents hop
   have hg : x = j := hg
   subst hg
   rcases hxb with h | h
   ·exact absurd h h0.1
   ·rw [hj] at h; cases h
theorem over_moves {x : Nat} {ro' : Ro} (hro : ∀ i, (ro i).isSome = true -> (ro' i).isSome = true) (hx : x = 0 ∨ (ro' x).isSome = true)
  (h : ∀ i a, touchAt t i = some a -> Knows t 0 i ∨ ∃ op, t[i]? = some op /\ ((ro op.g).isSome = true ∨ op.g ∈ bf)) :
  ∀ i a, touchAt (t ++ MemOp.ofEvents x fn pos es) i = some a -> Knows (t ++ MemOp.ofEvents x fn pos es) 0 i ∨ ∃ op, (t ++ MemOp.ofEvents x fn pos es)[i]? = some op /\ ((ro' op.g).isSome = true ∨ op.g ∈ bf) := by
 intro i a ha
 rcases touchAt_new ha with ⟨hi, ha'⟩ | ⟨_, op, hop, hoi, hoa⟩
 ·rcases h i a ha' with hk | ⟨op, ho, hr⟩
  ·exact .inl (hk.app _)
  ·exact .inr ⟨op, by rw [getElem?_append_old hi]; exact ho, hr.imp (hro _) id⟩
 ·obtain ⟨e, _, rfl⟩ := Go.Conc.mem_ofEvents hop
  rcases hx with rfl | hx
  ·exact .inl (knows_own hoi)
  ·exact .inr ⟨_, hoi, .inl hx⟩
theorem FI.move0 (h : FI P W γ H gs w t μ ro bf) (hm : Moves H w es H' w') (a' : Goroutine) : FI P W γ H' (gs.setIfInBounds 0 a') w' (t ++ MemOp.ofEvents 0 fn pos es) μ ro bf where
 mates := by have := h.mates.own (hps_zero H ro) hm (fn := fn) (pos := pos); rwa [upd_hps0] at this
 size := by simpa using h.size
 oth := fun i x hx => h.oth i x (by rwa [Array.getElem?_setIfInBounds_ne (by omega)] at hx)
 out := fun i hi => h.out i (by simpa using hi)
 zero := h.zero
 over := over_moves (fun _ h => h) (.inl rfl) h.over
 base := h.base.moves (fun b o hb => h.owns 0 H b o rfl hb) hm
 owns := fun x K b o hx hb => by
  by_cases hx0 : x = 0
  ·subst hx0; cases hx
   rcases hm.own b true o hb with ⟨o', ho', _⟩ | ⟨h1, _⟩
   ·exact h.owns 0 H b o' rfl ho'
   ·exact Nat.le_trans h.base.size h1
  ·exact h.owns x K b o (by simpa [hps, hx0] using hx) hb
 still := by rw [Array.size_setIfInBounds]; exact Still.moves (hps_zero H ro) (upd_hps0 H H' ro) (fun _ => rfl) h.still hm (.inl rfl)
theorem oth_set {i : Nat} {g' : Goroutine} {ρ' : Rk} {ro' : Ro} (h : FI P W γ H gs w t μ ro bf) {ρ : Rk} (hρ : μ[i]? = some ρ) (hn : Oth P γ.chan ρ' g' (ro' (i + 1))) (hne : ∀ j, j ≠ i + 1 -> ro' j = ro j) :
  ∀ j x, (gs.setIfInBounds (i + 1) g')[j + 1]? = some x -> ∃ ρ, (μ.set i ρ')[j]? = some ρ /\ Oth P γ.chan ρ x (ro' (j + 1)) := by
 intro j x hx
 have hl : i < μ.length := (List.getElem?_eq_some_iff.1 hρ).1
 by_cases hj : j = i
 ·subst hj
  rw [Array.getElem?_setIfInBounds_self_of_lt (by have := h.size; omega)] at hx
  cases hx
  exact ⟨ρ', by simp [hl], hn⟩
 ·rw [Array.getElem?_setIfInBounds_ne (by omega)] at hx
  obtain ⟨ρ₁, h1, h2⟩ := h.oth j x hx
  exact ⟨ρ₁, by rw [List.getElem?_set_ne (Ne.symm hj)]; exact h1, by rw [hne _ (by omega)]; exact h2⟩
theorem FI.moveI {i : Nat} {K K' : Hp} {v : Value} {ρ ρ' : Rk} {g' : Goroutine} (h : FI P W γ H gs w t μ ro bf) (hr : ro (i + 1) = some (K, v)) (hρ : μ[i]? = some ρ) (hm : Moves K w es K' w')
  (hn : Oth P γ.chan ρ' g' (some (K', v))) : FI P W γ H (gs.setIfInBounds (i + 1) g') w' (t ++ MemOp.ofEvents (i + 1) fn pos es) (μ.set i ρ') (upd ro (i + 1) (some (K', v))) bf := by
 have hx : hps H ro (i + 1) = some K := by rw [hps_succ, hr]; rfl
 have hv : ∀ j, (upd ro (i + 1) (some (K', v)) j).map (·.2) = (ro j).map (·.2) := fun j => by
  by_cases hj : j = i + 1
  ·subst hj; rw [upd_same, hr]; rfl
  ·rw [upd_ne _ _ hj]
 refine ⟨?_, by simpa using h.size, oth_set h hρ (by rw [upd_same]; exact hn) fun j hj => upd_ne _ _ hj, fun j hj => ?_, by rw [upd_ne _ _ (by omega)]; exact h.zero, over_moves (fun j hj => ?_) (.inr (by rw [upd_same]; rfl)) h.over,
  h.base.moves (fun b o hb => h.owns _ K b o hx hb) hm, fun x L b o hL hb => ?_, ?_⟩
 ·have := h.mates.own hx hm (fn := fn) (pos := pos)
  rwa [upd_hps _ _ _ _ v] at this
 ·have hj' : gs.size <= j := by simpa using hj
  by_cases hji : j = i + 1
  ·subst hji; rw [h.out _ hj'] at hr; cases hr
  ·rw [upd_ne _ _ hji]; exact h.out j hj'
 ·by_cases hji : j = i + 1
  ·subst hji; rw [upd_same]; rfl
  ·rw [upd_ne _ _ hji]; exact hj
 ·rw [<- upd_hps _ _ _ _ v] at hL
  by_cases hxi : x = i + 1
  ·subst hxi; rw [upd_same] at hL; cases hL
   rcases hm.own b true o hb with ⟨o', ho', _⟩ | ⟨h1, _⟩
   ·exact h.owns _ K b o' hx ho'
   ·exact Nat.le_trans h.base.size h1
  ·rw [upd_ne _ _ hxi] at hL; exact h.owns x L b o hL hb
 ·rw [Array.size_setIfInBounds]
  exact Still.moves hx (upd_hps _ _ _ _ v) hv h.still hm (.inr (by rw [hr]; rfl))
theorem FI.slip {i : Nat} {ρ ρ' : Rk} {g' : Goroutine} (h : FI P W γ H gs w t μ ro bf) (hr : ro (i + 1) = none) (hρ : μ[i]? = some ρ) (hn : Oth P γ.chan ρ' g' none) : FI P W γ H (gs.setIfInBounds (i + 1) g') w t (μ.set i ρ') ro bf :=
 ⟨h.mates, by simpa using h.size, oth_set h hρ (by rw [hr]; exact hn) fun _ _ => rfl, fun j hj => h.out j (by simpa using hj), h.zero, h.over, h.base, h.owns, by rw [Array.size_setIfInBounds]; exact h.still⟩
end
end Go.X
end
section
namespace Go.X
open Go
open Go.Conc
open Go.ConcN (upd upd_same upd_ne)
section
variable {P : Program} {W : World} {γ : Gh} {H H' : Hp} {gs : Array Goroutine} {w w' : World} {t : Trace} {μ : List Rk} {ro : Ro} {bf : List Nat} {f₁ f₂ f₃ f₄ : FuncId} {p₁ p₂ p₃ p₄ : String}
variable {c cap r : Nat} {L : List Value} {D : Nat -> Prop} {buf : Array Value} {v : Value} {K : Hp} {i : Nat} {ρ ρ' : Rk} {g' a' : Goroutine}
theorem hps_drop {x : Nat} {M : Hp} (h : hps H (upd ro i none) x = some M) : hps H ro x = some M := by
 unfold hps at *
 by_cases hx : x = 0
 ·simpa [hx] using h
 ·rw [if_neg hx] at h ⊢
  by_cases hxi : x = i
  ·subst hxi; rw [upd_same] at h; cases h
  ·rwa [upd_ne _ _ hxi] at h
theorem Base.chan {o : Obj} (h : Base W w) (hc : W.heap.size <= c) : Base W { w with heap := w.heap.setIfInBounds c o } :=
 ⟨h.os, h.output, by simpa using h.size, fun b hb => by rw [show ({ w with heap := w.heap.setIfInBounds c o } : World).heap = w.heap.setIfInBounds c o from rfl, Array.getElem?_setIfInBounds_ne (by omega)]; exact h.block b hb⟩
theorem Mates.chan {o : Obj} {u : Trace} {hp : Nat -> Option Hp} (h : Mates t w hp) (hc : ∀ y M, hp y = some M -> M c = none) (hu : ∀ op ∈ u, op.act.touch? = none) (hw : Wordless u) : Mates (t ++ u) { w with heap := w.heap.setIfInBounds c o } hp :=
 h.mute hu hw (by simp) fun y M b q hy hb => by
  have : b ≠ c := fun e => by rw [e, hc y M hy] at hb; cases hb
  rw [show ({ w with heap := w.heap.setIfInBounds c o } : World).heap = w.heap.setIfInBounds c o from rfl, Array.getElem?_setIfInBounds_ne (Ne.symm this)]
theorem at_new {u : Trace} {k : Nat} {op : MemOp} (h : u[k]? = some op) : (t ++ u)[t.size + k]? = some op := by
 rw [Array.getElem?_append_right (by omega)]; simpa using h
theorem g_ne {z : MemOp} {i j : Nat} (h : ro (i + 1) = some (K, v)) (hj : ro j = none) : j ≠ i + 1 := fun e => by rw [e, h] at hj; cases hj
theorem FI.send (h : FI P W (.busy c cap L D) H gs w t μ ro bf) (hB : Busy W c cap L D H gs.size w t ro bf buf r) (hr : ro (i + 1) = some (K, v)) (hρ : μ[i]? = some ρ) (hn : Oth P c ρ' g' none) :
  FI P W (.busy c cap L D) H (gs.setIfInBounds (i + 1) g') { w with heap := w.heap.setIfInBounds c (.chan cap (buf.push v) false (r + buf.size + 1) r false) }
   (t ++ #[{ g := i + 1, fn := f₁, pos := p₁, act := .send c (r + buf.size) }, { g := i + 1, fn := f₁, pos := p₁, act := .sendDone c (r + buf.size) }]) (μ.set i ρ') (upd ro (i + 1) none) (bf ++ [i + 1]) := by
 have hu : ∀ op ∈ #[({ g := i + 1, fn := f₁, pos := p₁, act := .send c (r + buf.size) } : MemOp), { g := i + 1, fn := f₁, pos := p₁, act := .sendDone c (r + buf.size) }], op.act.touch? = none := fun op hop => by
  simp at hop; rcases hop with rfl | rfl <;> rfl
 have hw : Wordless #[({ g := i + 1, fn := f₁, pos := p₁, act := .send c (r + buf.size) } : MemOp), { g := i + 1, fn := f₁, pos := p₁, act := .sendDone c (r + buf.size) }] := fun op hop m hm => by
  simp at hop; rcases hop with rfl | rfl <;> cases hm
 have hlt : i + 1 < gs.size := by have := (List.getElem?_eq_some_iff.1 hρ).1; have := h.size; omega
 refine ⟨(h.mates.chan hB.none hu hw).less fun y M hM => ⟨M, hps_drop hM, fun b p o hb => ⟨p, hb, id⟩⟩, by simpa using h.size, oth_set h hρ (by rw [upd_same]; exact hn) fun j hj => upd_ne _ _ hj, fun j hj => ?_, by rw [upd_ne _ _ (by omega)]; exact h.zero,
  fun j a ha => ?_, h.base.chan hB.high, fun x M b o hM hb => h.owns x M b o (hps_drop hM) hb, buf.push v, r, ?_⟩
 ·have hj' : gs.size <= j := by simpa using hj
  rw [upd_ne _ _ (by omega)]; exact h.out j hj'
 ·rcases touchAt_new ha with ⟨hj, ha'⟩ | ⟨_, op, hop, _, hoa⟩
  ·rcases h.over j a ha' with hk | ⟨op, ho, hr'⟩
   ·exact .inl (hk.app _)
   ·refine .inr ⟨op, by rw [getElem?_append_old hj]; exact ho, ?_⟩
    by_cases hg : op.g = i + 1
    ·exact .inr (by simp [hg])
    ·rw [upd_ne _ _ hg]; exact hr'.imp id fun x => by simp [x]
  ·rw [hu op hop] at hoa; cases hoa
 ·refine ⟨?_, fun x M hM => hB.none x M (hps_drop hM), hB.high, ?_, hB.room, by simp [hB.len], fun p j hp => ?_, hB.lent⟩
  ·simp [lt_of_heap hB.obj, Nat.add_assoc]
  ·rw [Array.size_setIfInBounds]
   have := (vals_upd hr hlt).append_left buf.toList
   refine (hB.perm.trans this).trans ?_
   simp
  ·by_cases hpl : p < bf.length
   ·rw [List.getElem?_append_left hpl] at hp
    obtain ⟨h0, hj, hq⟩ := hB.by_ p j hp
    exact ⟨by simpa using h0, by rw [upd_ne _ _ (g_ne (z := default) hr hj)]; exact hj, sends_app (fun op hop _ => hu op hop) hq⟩
   ·rw [List.getElem?_append_right (by omega)] at hp
    have hp0 : p = bf.length := by
     have := (List.getElem?_eq_some_iff.1 hp).1
     simp at this; omega
    subst hp0
    have hji : j = i + 1 := by simpa using hp.symm
    subst hji
    refine ⟨⟨by omega, by simpa using hlt⟩, upd_same _ _ _, t.size, { g := i + 1, fn := f₁, pos := p₁, act := .send c (r + buf.size) }, at_new (t := t) (k := 0) (u := #[({ g := i + 1, fn := f₁, pos := p₁, act := .send c (r + buf.size) } : MemOp), { g := i + 1, fn := f₁, pos := p₁, act := .sendDone c (r + buf.size) }]) rfl, by rw [hB.len], rfl, fun x z hz hg ht => ?_⟩
    rcases getElem?_append_cases hz with ⟨hi, _⟩ | ⟨_, hz'⟩
    ·exact hi
    ·exact absurd (hu z hz') ht
theorem FI.meet (h : FI P W (.busy c cap L D) H gs w t μ ro bf) (hB : Busy W c cap L D H gs.size w t ro bf #[] r) (hr : ro (i + 1) = some (K, v)) (hρ : μ[i]? = some ρ) (hn : Oth P c ρ' g' none) :
  ∃ L', L.Perm (v :: L') /\ FI P W (.busy c cap L' D) H ((gs.setIfInBounds 0 a').setIfInBounds (i + 1) g') { w with heap := w.heap.setIfInBounds c (.chan cap #[] false (r + 1) (r + 1) false) }
   (t ++ #[{ g := i + 1, fn := f₁, pos := p₁, act := .send c r }, { g := 0, fn := f₂, pos := p₂, act := .recv c r cap }, { g := i + 1, fn := f₁, pos := p₁, act := .sendDone c r }, { g := 0, fn := f₂, pos := p₂, act := .recvDone c r }]) (μ.set i ρ') (upd ro (i + 1) none) [] := by
 have hu : ∀ op ∈ #[({ g := i + 1, fn := f₁, pos := p₁, act := .send c r } : MemOp), { g := 0, fn := f₂, pos := p₂, act := .recv c r cap }, { g := i + 1, fn := f₁, pos := p₁, act := .sendDone c r }, { g := 0, fn := f₂, pos := p₂, act := .recvDone c r }], op.act.touch? = none := fun op hop => by
  simp at hop; rcases hop with rfl | rfl | rfl | rfl <;> rfl
 have hw : Wordless #[({ g := i + 1, fn := f₁, pos := p₁, act := .send c r } : MemOp), { g := 0, fn := f₂, pos := p₂, act := .recv c r cap }, { g := i + 1, fn := f₁, pos := p₁, act := .sendDone c r }, { g := 0, fn := f₂, pos := p₂, act := .recvDone c r }] := fun op hop m hm => by
  simp at hop; rcases hop with rfl | rfl | rfl | rfl <;> cases hm
 have hlt : i + 1 < gs.size := by have := (List.getElem?_eq_some_iff.1 hρ).1; have := h.size; omega
 have hbf : bf = [] := List.eq_nil_of_length_eq_zero (by simpa using hB.len)
 have hp : L.Perm (v :: vals (upd ro (i + 1) none) gs.size) := by
  have := hB.perm.trans (by simpa using vals_upd hr hlt)
  simpa using this
 have hm := h.mates.chan (o := .chan cap #[] false (r + 1) (r + 1) false) hB.none hu hw
 refine ⟨_, hp, hm.less fun y M hM => ⟨M, hps_drop hM, fun b p o hb => ⟨p, hb, id⟩⟩, by simpa using h.size, ?_, fun j hj => ?_, by rw [upd_ne _ _ (by omega)]; exact h.zero,
  fun j a ha => ?_, h.base.chan hB.high, fun x M b o hM hb => h.owns x M b o (hps_drop hM) hb, #[], r + 1, ?_⟩
 ·intro j x hx
  have : ((gs.setIfInBounds 0 a').setIfInBounds (i + 1) g')[j + 1]? = (gs.setIfInBounds (i + 1) g')[j + 1]? := by
   by_cases hji : j = i
   ·subst hji; rw [Array.getElem?_setIfInBounds_self_of_lt (by simpa using hlt), Array.getElem?_setIfInBounds_self_of_lt hlt]
   ·rw [Array.getElem?_setIfInBounds_ne (by omega), Array.getElem?_setIfInBounds_ne (by omega), Array.getElem?_setIfInBounds_ne (by omega)]
  rw [this] at hx
  exact oth_set h hρ (ro' := upd ro (i + 1) none) (by rw [upd_same]; exact hn) (fun j hj => upd_ne _ _ hj) j x hx
 ·have hj' : gs.size <= j := by simpa using hj
  rw [upd_ne _ _ (by omega)]; exact h.out j hj'
 ·rcases touchAt_new ha with ⟨hj, ha'⟩ | ⟨_, op, hop, _, hoa⟩
  ·rcases h.over j a ha' with hk | ⟨op, ho, hr'⟩
   ·exact .inl (hk.app _)
   ·by_cases hg : op.g = i + 1
    ·have e0 := at_new (t := t) (k := 0) (u := #[({ g := i + 1, fn := f₁, pos := p₁, act := .send c r } : MemOp), { g := 0, fn := f₂, pos := p₂, act := .recv c r cap }, { g := i + 1, fn := f₁, pos := p₁, act := .sendDone c r }, { g := 0, fn := f₂, pos := p₂, act := .recvDone c r }]) rfl
     have e3 := at_new (t := t) (k := 3) (u := #[({ g := i + 1, fn := f₁, pos := p₁, act := .send c r } : MemOp), { g := 0, fn := f₂, pos := p₂, act := .recv c r cap }, { g := i + 1, fn := f₁, pos := p₁, act := .sendDone c r }, { g := 0, fn := f₂, pos := p₂, act := .recvDone c r }]) rfl
     have po := hb_po (t := t ++ #[({ g := i + 1, fn := f₁, pos := p₁, act := .send c r } : MemOp), { g := 0, fn := f₂, pos := p₂, act := .recv c r cap }, { g := i + 1, fn := f₁, pos := p₁, act := .sendDone c r }, { g := 0, fn := f₂, pos := p₂, act := .recvDone c r }]) (i := j) (j := t.size + 0) (by omega) (by rw [getElem?_append_old hj]; exact ho) e0 hg
     exact .inl ⟨t.size + 3, _, e3, rfl, .inr (po.trans (.single (.inr ⟨.handOver (c := c) (k := r) (by simp [Trace.act?, e0]) (by simp [Trace.act?, e3]), hm.quiet.heard e0, hm.quiet.heard e3⟩)))⟩
    ·refine .inr ⟨op, by rw [getElem?_append_old hj]; exact ho, ?_⟩
     rw [upd_ne _ _ hg]
     rw [hbf] at hr'
     exact hr'
  ·rw [hu op hop] at hoa; cases hoa
 ·have hlen := hp.length_eq
  refine ⟨?_, fun x M hM => hB.none x M (hps_drop hM), hB.high, by simp, by have := hB.room; simp at hlen; omega, rfl, fun p j hp => by simp at hp, hB.lent⟩
  simp [lt_of_heap hB.obj]
theorem FI.take (h : FI P W (.busy c cap L D) H gs w t μ ro bf) (hB : Busy W c cap L D H gs.size w t ro bf buf r) (hs : 0 < buf.size) :
  ∃ L', L.Perm (buf.getD 0 undef :: L') /\ FI P W (.busy c cap L' D) H (gs.setIfInBounds 0 a') { w with heap := w.heap.setIfInBounds c (.chan cap (buf.extract 1 buf.size) false (r + buf.size) (r + 1) false) }
   (t ++ #[{ g := 0, fn := f₁, pos := p₁, act := .recv c r cap }, { g := 0, fn := f₁, pos := p₁, act := .recvDone c r }]) μ ro bf.tail := by
 have hu : ∀ op ∈ #[({ g := 0, fn := f₁, pos := p₁, act := .recv c r cap } : MemOp), { g := 0, fn := f₁, pos := p₁, act := .recvDone c r }], op.act.touch? = none := fun op hop => by
  simp at hop; rcases hop with rfl | rfl <;> rfl
 have hw : Wordless #[({ g := 0, fn := f₁, pos := p₁, act := .recv c r cap } : MemOp), { g := 0, fn := f₁, pos := p₁, act := .recvDone c r }] := fun op hop m hm => by
  simp at hop; rcases hop with rfl | rfl <;> cases hm
 have hm := h.mates.chan (o := .chan cap (buf.extract 1 buf.size) false (r + buf.size) (r + 1) false) hB.none hu hw
 obtain ⟨l⟩ := buf
 cases l with
 | nil => simp at hs
 | cons x l =>
  cases hbf : bf with
  | nil => have := hB.len; rw [hbf] at this; simp at this
  | cons j₀ bf' =>
   have hlen : bf'.length = l.length := by have := hB.len; rw [hbf] at this; simpa using this
   obtain ⟨_, hj₀, q, opq, hq1, hq2, hq3, hq4⟩ := hB.by_ 0 j₀ (by rw [hbf]; rfl)
   refine ⟨l ++ vals ro gs.size, by simpa using hB.perm, hm, by simpa using h.size, fun j y hy => h.oth j y (by rwa [Array.getElem?_setIfInBounds_ne (by omega)] at hy), fun j hj => h.out j (by simpa using hj), h.zero,
    fun j a ha => ?_, h.base.chan hB.high, h.owns, l.toArray, r + 1, ?_⟩
   ·rcases touchAt_new ha with ⟨hj, ha'⟩ | ⟨_, op, hop, _, hoa⟩
    ·rcases h.over j a ha' with hk | ⟨op, ho, hr'⟩
     ·exact .inl (hk.app _)
     ·by_cases hg : op.g = j₀
      ·have e0 : (t ++ #[({ g := 0, fn := f₁, pos := p₁, act := .recv c r cap } : MemOp), { g := 0, fn := f₁, pos := p₁, act := .recvDone c r }])[q]? = some opq := by rw [getElem?_append_old (lt_size_of_getElem? hq1)]; exact hq1
       have e3 := at_new (t := t) (k := 1) (u := #[({ g := 0, fn := f₁, pos := p₁, act := .recv c r cap } : MemOp), { g := 0, fn := f₁, pos := p₁, act := .recvDone c r }]) rfl
       have hjq : j < q := hq4 j op ho hg (by rw [touchAt_of ho] at ha'; rw [ha']; simp)
       have po := hb_po hjq (show (t ++ #[({ g := 0, fn := f₁, pos := p₁, act := .recv c r cap } : MemOp), { g := 0, fn := f₁, pos := p₁, act := .recvDone c r }])[j]? = some op by rw [getElem?_append_old hj]; exact ho) e0 (hg.trans hq3.symm)
       exact .inl ⟨t.size + 1, _, e3, rfl, .inr (po.trans (.single (.inr ⟨.handOver (c := c) (k := r) (by rw [Trace.act?, e0, Option.map_some, hq2]; rfl) (by simp [Trace.act?, e3]), hm.quiet.heard e0, hm.quiet.heard e3⟩)))⟩
      ·refine .inr ⟨op, by rw [getElem?_append_old hj]; exact ho, hr'.imp id fun x => ?_⟩
       rw [hbf] at x
       exact (List.mem_cons.1 x).elim (fun e => absurd e hg) id
    ·rw [hu op hop] at hoa; cases hoa
   ·have hlp := hB.perm.length_eq
    refine ⟨?_, hB.none, hB.high, by rw [Array.size_setIfInBounds], by have := hB.room; simp at hlp ⊢; omega, by simpa using hlen, fun p j hp => ?_, hB.lent⟩
    ·have e : (#[] : Array Value) = #[] := rfl
     have hx : ((x :: l).toArray.extract 1 (x :: l).toArray.size) = l.toArray := by simp
     rw [hx]
     simp [lt_of_heap hB.obj]; omega
    ·obtain ⟨h0, hj, hq⟩ := hB.by_ (p + 1) j (by rw [hbf]; simpa using hp)
     refine ⟨by simpa using h0, hj, ?_⟩
     rw [show r + 1 + p = r + (p + 1) by omega]
     exact sends_app (fun op hop _ => hu op hop) hq
theorem FI.shut {e : Nat} (h : FI P W (.busy c cap L D) H gs w t μ ro bf) : FI P W (.busy c cap L D) H (gs.setIfInBounds 0 a') w (t ++ #[{ g := 0, fn := f₁, pos := p₁, act := .recvClosed e }]) μ ro bf := by
 have hu : ∀ op ∈ #[({ g := 0, fn := f₁, pos := p₁, act := .recvClosed e } : MemOp)], op.act.touch? = none := fun op hop => by simp at hop; subst hop; rfl
 have hw : Wordless #[({ g := 0, fn := f₁, pos := p₁, act := .recvClosed e } : MemOp)] := fun op hop m hm => by simp at hop; subst hop; cases hm
 refine ⟨h.mates.mute hu hw (Nat.le_refl _) fun _ _ _ _ _ _ => rfl, by simpa using h.size, fun j y hy => h.oth j y (by rwa [Array.getElem?_setIfInBounds_ne (by omega)] at hy), fun j hj => h.out j (by simpa using hj), h.zero, fun j a ha => ?_, h.base, h.owns, ?_⟩
 ·rcases touchAt_new ha with ⟨hj, ha'⟩ | ⟨_, op, hop, _, hoa⟩
  ·exact (h.over j a ha').imp (·.app _) fun ⟨op, ho, hr⟩ => ⟨op, by rw [getElem?_append_old hj]; exact ho, hr⟩
  ·rw [hu op hop] at hoa; cases hoa
 ·obtain ⟨buf, r, hB⟩ := h.still
  rw [Array.size_setIfInBounds]
  exact ⟨buf, r, hB.obj, hB.none, hB.high, hB.perm, hB.room, hB.len, fun p j hp => let ⟨h0, hj, hq⟩ := hB.by_ p j hp; ⟨h0, hj, sends_app (fun op hop _ => hu op hop) hq⟩, hB.lent⟩
theorem FI.spawn {Hc : Hp} {child : Goroutine} (h : FI P W (.busy c cap L D) H gs w t μ ro bf) (h0 : 0 < gs.size) (hl : L.length < cap) (hc : ∀ b p o, Hc b = some (p, o) -> p = false /\ H' b = some (false, o))
  (hH : ∀ b p o, H' b = some (p, o) -> ∃ p', H b = some (p', o) /\ (p = true -> p' = true)) (hn : Oth P c ρ child (some (Hc, v))) :
  FI P W (.busy c cap (v :: L) D) H' ((gs.setIfInBounds 0 a').push child) w (t ++ #[{ g := 0, fn := f₁, pos := p₁, act := .go gs.size }, { g := gs.size, fn := f₂, pos := p₂, act := .start }]) (μ ++ [ρ]) (upd ro gs.size (some (Hc, v))) bf := by
 have hu : ∀ op ∈ #[({ g := 0, fn := f₁, pos := p₁, act := .go gs.size } : MemOp), { g := gs.size, fn := f₂, pos := p₂, act := .start }], op.act.touch? = none := fun op hop => by
  simp at hop; rcases hop with rfl | rfl <;> rfl
 obtain ⟨m, hm⟩ : ∃ m, gs.size = m + 1 := ⟨gs.size - 1, by omega⟩
 have hout := h.out gs.size (Nat.le_refl _)
 have hm1 : Mates t w (hps H' ro) := h.mates.less fun y M hM => by
  by_cases hy : y = 0
  ·subst hy; cases hM; exact ⟨H, rfl, hH⟩
  ·exact ⟨M, by simpa [hps, hy] using hM, fun b p o hb => ⟨p, hb, id⟩⟩
 have hm2 := hm1.spawn (n := gs.size) (f₁ := f₁) (f₂ := f₂) (p₁ := p₁) (p₂ := p₂) (hps_zero H' ro) (by rw [hm, hps_succ, <- hm, hout]; rfl) (by omega) hc
 rw [hm, upd_hps _ _ _ _ v, <- hm] at hm2
 have hro : ∀ x, (ro x).isSome = true -> (upd ro gs.size (some (Hc, v)) x).isSome = true := fun x hx => by
  by_cases hxs : x = gs.size
  ·subst hxs; rw [upd_same]; rfl
  ·rw [upd_ne _ _ hxs]; exact hx
 have hwho : ∀ x M, hps H' (upd ro gs.size (some (Hc, v))) x = some M -> (x = gs.size /\ M = Hc) ∨ (x = 0 /\ M = H') ∨ (x ≠ 0 /\ hps H ro x = some M) := fun x M hM => by
  by_cases hxs : x = gs.size
  ·subst hxs; rw [hm, hps_succ, <- hm, upd_same] at hM; cases hM; exact .inl ⟨rfl, rfl⟩
  ·by_cases hx0 : x = 0
   ·subst hx0; cases hM; exact .inr (.inl ⟨rfl, rfl⟩)
   ·refine .inr (.inr ⟨hx0, ?_⟩)
    simpa [hps, hx0, upd_ne _ _ hxs] using hM
 refine ⟨hm2, by simpa using h.size, fun j y hy => ?_, fun j hj => ?_, by rw [upd_ne _ _ (by omega)]; exact h.zero, fun j a ha => ?_, h.base, fun x M b o hM hb => ?_, ?_⟩
 ·have hsz : (gs.setIfInBounds 0 a').size = gs.size := by simp
  rw [Array.getElem?_push] at hy
  split at hy
  ·rename_i hjs
   rw [hsz] at hjs
   cases hy
   refine ⟨ρ, ?_, by rw [hjs, upd_same]; exact hn⟩
   have : j = μ.length := by have := h.size; omega
   subst this; simp
  ·rename_i hjs
   rw [Array.getElem?_setIfInBounds_ne (by omega)] at hy
   obtain ⟨ρ₁, h1, h2⟩ := h.oth j y hy
   refine ⟨ρ₁, ?_, by rw [upd_ne _ _ (by rw [hsz] at hjs; exact hjs)]; exact h2⟩
   rw [List.getElem?_append_left (List.getElem?_eq_some_iff.1 h1).1]; exact h1
 ·have : gs.size + 1 <= j := by simpa using hj
  rw [upd_ne _ _ (by omega)]; exact h.out j (by omega)
 ·rcases touchAt_new ha with ⟨hj, ha'⟩ | ⟨_, op, hop, _, hoa⟩
  ·exact (h.over j a ha').imp (·.app _) fun ⟨op, ho, hr⟩ => ⟨op, by rw [getElem?_append_old hj]; exact ho, hr.imp (hro _) id⟩
  ·rw [hu op hop] at hoa; cases hoa
 ·rcases hwho x M hM with ⟨_, rfl⟩ | ⟨_, rfl⟩ | ⟨_, h2⟩
  ·exact absurd (hc b true o hb).1 (by simp)
  ·obtain ⟨p', hb', hp'⟩ := hH b true o hb
   rw [hp' rfl] at hb'
   exact h.owns 0 H b o rfl hb'
  ·exact h.owns x M b o h2 hb
 ·obtain ⟨buf, r, hB⟩ := h.still
  have hc0 : H' c = none := by
   cases hl : H' c with
   | none => rfl
   | some q => obtain ⟨p, o⟩ := q; obtain ⟨p', hb', _⟩ := hH c p o hl; rw [hB.none 0 H rfl] at hb'; cases hb'
  refine ⟨buf, r, hB.obj, fun x M hM => ?_, hB.high, ?_, by simp; omega, hB.len, fun p j hp => ?_, hB.lent⟩
  ·rcases hwho x M hM with ⟨_, rfl⟩ | ⟨_, rfl⟩ | ⟨_, h2⟩
   ·cases hl : M c with
    | none => rfl
    | some q => obtain ⟨p, o⟩ := q; rw [(hc c p o hl).2] at hc0; cases hc0
   ·exact hc0
   ·exact hB.none x M h2
  ·have e1 : ((gs.setIfInBounds 0 a').push child).size = gs.size + 1 := by simp
   rw [e1, vals, upd_same, vals_congr (ro' := ro) fun i hi => by rw [upd_ne _ _ (by omega)]]
   refine (hB.perm.cons v).trans ?_
   have := List.perm_append_comm (l₁ := buf.toList ++ vals ro gs.size) (l₂ := [v])
   simpa using this.symm
  ·obtain ⟨h0', hj, hq⟩ := hB.by_ p j hp
   refine ⟨⟨h0'.1, by simp; omega⟩, by rw [upd_ne _ _ (by omega)]; exact hj, sends_app (fun op hop _ => hu op hop) hq⟩
end
end Go.X
end
