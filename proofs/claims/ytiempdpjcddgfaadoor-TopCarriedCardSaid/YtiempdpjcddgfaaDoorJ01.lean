/- Texts Sem Go Call Draw Fn Ops Mem Row. -/
import Derived.StepT
import Derived.Conc.Events
import Derived.Calls
import Derived.Orders
import Derived.Conc.Own5
import Derived.Conc.Listed
import Derived.KernelRfl
section
/- What one operation does to the part of memory that a goroutine owns: a weakest precondition over the trees of operations, and its soundness in every world that holds that part. -/
namespace Go.X
open Go

/-- The blocks that a goroutine knows: its own (true), or shared ones that nobody changes (false). -/
abbrev Hp := Nat → Option (Bool × Obj)

def Hp.set (H : Hp) (b : Nat) (o : Obj) : Hp := fun x => if x = b then some (true, o) else H x
def Hp.cell (H : Hp) (a : Addr) : Option Value :=
  match H a.block with
  | some (_, .cells c _ _) => if a.spot.isSome then none else c[a.off]?
  | _ => none
def Hp.shape (H : Hp) (b : Nat) : Option (Option (TypeId × Nat)) :=
  match H b with
  | some (_, .cells c e _) => some (some (e, c.size))
  | some _ => some none
  | none => none
def Hp.ice (H : Hp) (a : Addr) : Option Bool :=
  match H a.block with
  | some (_, .cells _ _ (lo, hi)) => some (lo ≤ a.off && a.off < hi)
  | some _ => some false
  | none => none

/-- The world holds what is known. -/
def Sat (H : Hp) (w : World) : Prop := ∀ b p o, H b = some (p, o) → w.heap[b]? = some o

/-- Less is known. -/
def Hp.le (H H' : Hp) : Prop := ∀ b x, H b = some x → H' b = some x

theorem Hp.le_refl (H : Hp) : H.le H := fun _ _ h => h
theorem Hp.le_trans {a b c : Hp} (h : a.le b) (h' : b.le c) : a.le c := fun x v hv => h' x v (h x v hv)
theorem Sat.mono {H H' : Hp} {w : World} (h : Sat H' w) (hl : H.le H') : Sat H w := fun b p o hb => h b p o (hl b _ hb)
theorem Hp.le_set {H : Hp} {b : Nat} {o : Obj} (hb : H b = none) : H.le (H.set b o) := fun x v hv => by
  unfold Hp.set
  by_cases h : x = b
  · subst h; rw [hb] at hv; cases hv
  · rw [if_neg h]; exact hv

/-- What an access may be: of a block of one's own, of one made since, or a reading of a shared one; the marks are of no moment. -/
def EvOK (H : Hp) (n : Nat) (e : Event) : Prop :=
  match e.loc with
  | .cell a => e.sync = false ∧ ((∃ o, H a.block = some (true, o)) ∨ n ≤ a.block ∨ (e.write = false ∧ ∃ o, H a.block = some (false, o)))
  | .obj r => (e.sync = false) ∧ ((∃ o, H r = some (true, o)) ∨ n ≤ r ∨ (e.write = false ∧ ∃ o, H r = some (false, o)))
  | .mark .noRoom => True
  | _ => False

/-- From one world to the next by one's own doing. -/
structure Moves (H : Hp) (w : World) (es : Array Event) (H' : Hp) (w' : World) : Prop where
  sat : Sat H' w'
  size : w.heap.size ≤ w'.heap.size
  frame : ∀ b, b < w.heap.size → (∀ o, H b ≠ some (true, o)) → w'.heap[b]? = w.heap[b]?
  own : ∀ b p o', H' b = some (p, o') → (∃ o, H b = some (p, o) ∧ (p = false → o' = o)) ∨ (w.heap.size ≤ b ∧ p = true)
  tape : w'.tape = w.tape
  os : w'.os = w.os
  output : w'.output = w.output
  evs : ∀ e ∈ es, EvOK H w.heap.size e

theorem Moves.refl {H : Hp} {w : World} (h : Sat H w) : Moves H w #[] H w :=
  ⟨h, Nat.le_refl _, fun _ _ _ => rfl, fun _ _ o hb => .inl ⟨o, hb, fun _ => rfl⟩, rfl, rfl, rfl, fun e he => by simp at he⟩

theorem Sat.lt {H : Hp} {w : World} (h : Sat H w) {b : Nat} {p : Bool} {o : Obj} (hb : H b = some (p, o)) : b < w.heap.size :=
  (Array.getElem?_eq_some_iff.1 (h b p o hb)).1

theorem EvOK.weaken {H H' : Hp} {n n' : Nat} {e : Event} (hn : n ≤ n')
    (hH : ∀ b p o, H' b = some (p, o) → (∃ o', H b = some (p, o')) ∨ (n ≤ b ∧ p = true)) (h : EvOK H' n' e) : EvOK H n e := by
  unfold EvOK at *
  cases hl : e.loc with
  | cell a =>
    simp only [hl] at h
    obtain ⟨hs, h⟩ := h
    refine ⟨hs, ?_⟩
    rcases h with ⟨o, ho⟩ | h | ⟨hw, o, ho⟩
    · rcases hH _ _ _ ho with ⟨o', ho'⟩ | ⟨h1, _⟩
      · exact .inl ⟨o', ho'⟩
      · exact .inr (.inl h1)
    · exact .inr (.inl (Nat.le_trans hn h))
    · rcases hH _ _ _ ho with ⟨o', ho'⟩ | ⟨h1, _⟩
      · exact .inr (.inr ⟨hw, o', ho'⟩)
      · exact .inr (.inl h1)
  | obj a =>
    simp only [hl] at h
    obtain ⟨hs, h⟩ := h
    refine ⟨hs, ?_⟩
    rcases h with ⟨o, ho⟩ | h | ⟨hw, o, ho⟩
    · rcases hH _ _ _ ho with ⟨o', ho'⟩ | ⟨h1, _⟩
      · exact .inl ⟨o', ho'⟩
      · exact .inr (.inl h1)
    · exact .inr (.inl (Nat.le_trans hn h))
    · rcases hH _ _ _ ho with ⟨o', ho'⟩ | ⟨h1, _⟩
      · exact .inr (.inr ⟨hw, o', ho'⟩)
      · exact .inr (.inl h1)
  | output => simp only [hl] at h
  | goroutines => simp only [hl] at h
  | mark m => simp only [hl] at h; cases m <;> first | exact h.elim | trivial

theorem Moves.trans {H H₁ H₂ : Hp} {w w₁ w₂ : World} {es es' : Array Event} (h : Moves H w es H₁ w₁) (h' : Moves H₁ w₁ es' H₂ w₂) :
    Moves H w (es ++ es') H₂ w₂ where
  sat := h'.sat
  size := Nat.le_trans h.size h'.size
  frame := fun b hb hn => by
    rw [h'.frame b (Nat.lt_of_lt_of_le hb h.size) ?_, h.frame b hb hn]
    intro o ho
    rcases h.own b true o ho with ⟨o', ho', _⟩ | ⟨h1, _⟩
    · exact hn _ ho'
    · omega
  own := fun b p o' hb => by
    rcases h'.own b p o' hb with ⟨o, ho, he⟩ | ⟨h1, h2⟩
    · rcases h.own b p o ho with ⟨o₀, ho₀, he₀⟩ | ⟨h1, h2⟩
      · exact .inl ⟨o₀, ho₀, fun hp => (he hp).trans (he₀ hp)⟩
      · exact .inr ⟨h1, h2⟩
    · exact .inr ⟨Nat.le_trans h.size h1, h2⟩
  tape := h'.tape.trans h.tape
  os := h'.os.trans h.os
  output := h'.output.trans h.output
  evs := fun e he => by
    rcases Array.mem_append.1 he with he | he
    · exact h.evs e he
    · refine (h'.evs e he).weaken h.size fun b p o hb => ?_
      rcases h.own b p o hb with ⟨o', ho', _⟩ | h1
      · exact .inl ⟨o', ho'⟩
      · exact .inr h1

/-- Knowing more beside it changes nothing. -/
theorem Moves.more {H H₁ G : Hp} {w w₁ : World} {es : Array Event} (h : Moves H w es H₁ w₁) (hl : H.le G) : Moves G w es H₁ w₁ where
  sat := h.sat
  size := h.size
  frame := fun b hb hn => h.frame b hb fun o ho => hn o (hl b _ ho)
  own := fun b p o' hb => (h.own b p o' hb).imp (fun ⟨o, ho, he⟩ => ⟨o, hl b _ ho, he⟩) id
  tape := h.tape
  os := h.os
  output := h.output
  evs := fun e he => (h.evs e he).weaken (Nat.le_refl _) fun b _ o hb => .inl ⟨o, hl b _ hb⟩

/-- A value of one cell. -/
def one : Value → Bool
  | .agg _ => false
  | .tuple _ => false
  | _ => true

/-- What an operation's tree comes to, over what is known: it ends by a value (K), or by a panic (E). -/
def wpS (P : Program) {α : Type} : Sem α → Hp → (α → Hp → Prop) → (Value → Hp → Prop) → Prop
  | .pure a, H, K, _ => K a H
  | .load m a k, H, K, E => m = .plain ∧ ∃ v, H.cell a = some v ∧ wpS P (k v) H K E
  | .store m a v k, H, K, E => m = .plain ∧ one v = true ∧ ∃ c e lo hi, H a.block = some (true, .cells c e (lo, hi)) ∧ a.spot = none ∧ a.off < c.size ∧ (lo ≤ a.off && a.off < hi) = false ∧
      wpS P k (H.set a.block (.cells (c.setIfInBounds a.off v) e (lo, hi))) K E
  | .new o k, H, K, E => ∀ b, H b = none → wpS P (k b) (H.set b o) K E
  | .shape r k, H, K, E => ∃ s, H.shape r = some s ∧ wpS P (k s) H K E
  | .freeze _ _ _, _, _, _ => False
  | .frozen a k, H, K, E => ∃ s, H.ice a = some s ∧ wpS P (k s) H K E
  | .getObj r k, H, K, E => ∃ p o, H r = some (p, o) ∧ (o matches .cells ..) = false ∧ o.isChan = false ∧ wpS P (k o) H K E
  | .setObj r o k, H, K, E => ∃ o', H r = some (true, o') ∧ (o' matches .cells ..) = false ∧ o.isChan = false ∧ wpS P k (H.set r o) K E
  | .choose q k, H, K, E => if q.forced then wpS P (k 0) H K E else ∀ n, wpS P (k (q.cut n)) H K E
  | .sys _ _, _, _, _ => False
  | .program k, H, K, E => wpS P (k P) H K E
  | .mark m k, H, K, E => m = .noRoom ∧ wpS P k H K E
  | .halt (.panic v), H, _, E => E v H
  | .halt _, _, _, _ => False

section
variable {P : Program}

theorem wpS_mono {α : Type} {s : Sem α} {H : Hp} {K K' : α → Hp → Prop} {E E' : Value → Hp → Prop} (h : wpS P s H K E) (hk : ∀ a H, K a H → K' a H) (he : ∀ v H, E v H → E' v H) :
    wpS P s H K' E' := by
  induction s generalizing H with
  | pure a => exact hk _ _ h
  | load m a k ih => obtain ⟨hm, v, hv, h⟩ := h; exact ⟨hm, v, hv, ih _ h⟩
  | store m a v k ih => obtain ⟨hm, h1, c, e, lo, hi, hb, hs, ho, hf, h⟩ := h; exact ⟨hm, h1, c, e, lo, hi, hb, hs, ho, hf, ih h⟩
  | new o k ih => exact fun b hb => ih _ (h b hb)
  | shape r k ih => obtain ⟨s, hs, h⟩ := h; exact ⟨s, hs, ih _ h⟩
  | freeze a n k ih => exact h.elim
  | frozen a k ih => obtain ⟨s, hs, h⟩ := h; exact ⟨s, hs, ih _ h⟩
  | getObj r k ih => obtain ⟨p, o, ho, hc, hch, h⟩ := h; exact ⟨p, o, ho, hc, hch, ih _ h⟩
  | setObj r o k ih => obtain ⟨o', ho, hc, hch, h⟩ := h; exact ⟨o', ho, hc, hch, ih h⟩
  | choose q k ih =>
    simp only [wpS] at *
    split
    · rename_i hq; rw [if_pos hq] at h; exact ih _ h
    · rename_i hq; rw [if_neg hq] at h; exact fun n => ih _ (h n)
  | sys c k ih => exact h.elim
  | program k ih => exact ih _ h
  | mark m k ih => exact ⟨h.1, ih h.2⟩
  | halt x => cases x <;> first | exact he _ _ h | exact h.elim

theorem wpS_bind {α β : Type} (s : Sem α) (f : α → Sem β) (H : Hp) (K : β → Hp → Prop) (E : Value → Hp → Prop) :
    wpS P (s >>= f) H K E ↔ wpS P s H (fun a H' => wpS P (f a) H' K E) E := by
  change wpS P (s.bind f) H K E ↔ _
  induction s generalizing H with
  | pure a => exact Iff.rfl
  | load m a k ih => simp only [Sem.bind, wpS, ih]
  | store m a v k ih => simp only [Sem.bind, wpS, ih]
  | new o k ih => simp only [Sem.bind, wpS, ih]
  | shape r k ih => simp only [Sem.bind, wpS, ih]
  | freeze a n k ih => exact Iff.rfl
  | frozen a k ih => simp only [Sem.bind, wpS, ih]
  | getObj r k ih => simp only [Sem.bind, wpS, ih]
  | setObj r o k ih => simp only [Sem.bind, wpS, ih]
  | choose q k ih => simp only [Sem.bind, wpS, ih]
  | sys c k ih => exact Iff.rfl
  | program k ih => simp only [Sem.bind, wpS, ih]
  | mark m k ih => simp only [Sem.bind, wpS, ih]
  | halt x => cases x <;> exact Iff.rfl

theorem cell_sat {H : Hp} {w : World} (h : Sat H w) {a : Addr} {v : Value} (hc : H.cell a = some v) : w.cell? a = some v := by
  unfold Hp.cell at hc
  unfold World.cell?
  split at hc
  · rename_i c e f hb
    rw [h _ _ _ hb]
    exact hc
  · cases hc

theorem Moves.one {H : Hp} {w : World} {e : Event} (h : Sat H w) (he : EvOK H w.heap.size e) : Moves H w #[e] H w :=
  { Moves.refl h with evs := fun x hx => by simp at hx; subst hx; exact he }

theorem Moves.draw {H : Hp} {w : World} (h : Sat H w) (n : Nat) : Moves H w #[] H { w with drawn := n } :=
  { Moves.refl h with sat := h }

theorem Moves.put {H : Hp} {w : World} (h : Sat H w) {b : Nat} {o o' : Obj} (hb : H b = some (true, o)) {es : Array Event} (hes : ∀ e ∈ es, EvOK H w.heap.size e) :
    Moves H w es (H.set b o') { w with heap := w.heap.setIfInBounds b o' } where
  sat := fun x p o hx => by
    unfold Hp.set at hx
    by_cases hxb : x = b
    · subst hxb; simp only [if_true, Option.some.injEq, Prod.mk.injEq] at hx
      simp [h.lt hb, hx.2]
    · rw [if_neg hxb] at hx
      simp [Array.getElem?_setIfInBounds_ne (Ne.symm hxb), h _ _ _ hx]
  size := by simp
  frame := fun x hx hn => by
    have : b ≠ x := fun e => hn o (e ▸ hb)
    simp [Array.getElem?_setIfInBounds_ne this]
  own := fun x p o'' hx => by
    unfold Hp.set at hx
    by_cases hxb : x = b
    · subst hxb; simp only [if_true, Option.some.injEq, Prod.mk.injEq] at hx
      exact .inl ⟨o, by rw [hb, hx.1], fun hp => by rw [← hx.1] at hp; cases hp⟩
    · rw [if_neg hxb] at hx
      exact .inl ⟨o'', hx, fun _ => rfl⟩
  tape := rfl
  os := rfl
  output := rfl
  evs := hes

theorem Moves.push {H : Hp} {w : World} (h : Sat H w) (o : Obj) : Moves H w #[] (H.set w.heap.size o) { w with heap := w.heap.push o } where
  sat := fun x p o' hx => by
    unfold Hp.set at hx
    by_cases hxb : x = w.heap.size
    · subst hxb; simp only [if_true, Option.some.injEq, Prod.mk.injEq] at hx
      simp [hx.2]
    · rw [if_neg hxb] at hx
      have := h.lt hx
      simp [Array.getElem?_push, Nat.ne_of_lt this, h _ _ _ hx]
  size := by simp
  frame := fun x hx hn => by simp [Array.getElem?_push, Nat.ne_of_lt hx]
  own := fun x p o'' hx => by
    unfold Hp.set at hx
    by_cases hxb : x = w.heap.size
    · subst hxb; simp only [if_true, Option.some.injEq, Prod.mk.injEq] at hx
      exact .inr ⟨Nat.le_refl _, hx.1.symm⟩
    · rw [if_neg hxb] at hx
      exact .inl ⟨o'', hx, fun _ => rfl⟩
  tape := rfl
  os := rfl
  output := rfl
  evs := fun e he => by simp at he

theorem Sat.fresh {H : Hp} {w : World} (h : Sat H w) : H w.heap.size = none := by
  cases hb : H w.heap.size with
  | none => rfl
  | some x => obtain ⟨p, o⟩ := x; exact absurd (h.lt hb) (Nat.lt_irrefl _)

theorem setCell_eq {w : World} {a : Addr} {c : Array Value} {e : TypeId} {lo hi : Nat} {v : Value} (hb : w.heap[a.block]? = some (.cells c e (lo, hi))) (hs : a.spot = none) :
    w.setCell a v = { w with heap := w.heap.setIfInBounds a.block (.cells (c.setIfInBounds a.off v) e (lo, hi)) } := by
  unfold World.setCell
  congr 1
  apply Array.ext_getElem?
  intro i
  rw [Array.getElem?_modify]
  by_cases hi : a.block = i
  · subst hi
    have hlt := (Array.getElem?_eq_some_iff.1 hb).1
    have hb' : w.heap[a.block] = .cells c e (lo, hi) := by simpa [hlt] using hb
    simp [hb', hs, hlt]
  · simp [hi, Array.getElem?_setIfInBounds_ne hi]

theorem plain_sync : (Mode.plain == Mode.atomic) = false := rfl

/-- SOUND: in every world that holds what is known. -/
theorem wpS_sound {α : Type} (s : Sem α) : ∀ {H : Hp} {K : α → Hp → Prop} {E : Value → Hp → Prop} (w : World), Sat H w → wpS P s H K E →
    ∃ es w' H', Moves H w es H' w' ∧ ∃ r, (∀ es₀, s.runT P w es₀ = (r, es₀ ++ es)) ∧ ((∃ a, r = .ok a w' ∧ K a H') ∨ (∃ v, r = .halt (.panic v) w' ∧ E v H')) := by
  induction s with
  | pure a => intro H K E w hs h; exact ⟨#[], w, H, .refl hs, _, fun es => by simp only [Sem.runT, Array.append_empty], .inl ⟨a, rfl, h⟩⟩
  | load m a k ih =>
    intro H K E w hs h
    obtain ⟨rfl, v, hv, h⟩ := h
    obtain ⟨es, w', H', hm, r, hr, hd⟩ := ih v w hs h
    refine ⟨#[⟨.cell a, false, false⟩] ++ es, w', H', Moves.trans (Moves.one hs ?_) hm, r, fun es₀ => ?_, hd⟩
    · refine ⟨rfl, ?_⟩
      unfold Hp.cell at hv
      split at hv
      · rename_i p c e f hb
        cases p
        · exact .inr (.inr ⟨rfl, _, hb⟩)
        · exact .inl ⟨_, hb⟩
      · cases hv
    · simp only [Sem.runT, cell_sat hs hv]
      rw [hr]
      simp [-Sem.runT_eq, plain_sync]
  | store m a v k ih =>
    intro H K E w hs h
    obtain ⟨rfl, h1, c, e, lo, hi, hb, hsp, ho, hf, h⟩ := h
    have hwb := hs _ _ _ hb
    have hset := setCell_eq (v := v) hwb hsp
    have hm0 : Moves H w #[⟨.cell a, true, false⟩] (H.set a.block (.cells (c.setIfInBounds a.off v) e (lo, hi))) (w.setCell a v) := by
      rw [hset]
      exact Moves.put hs hb fun x hx => by simp at hx; subst hx; exact ⟨rfl, .inl ⟨_, hb⟩⟩
    obtain ⟨es, w', H', hm, r, hr, hd⟩ := ih _ hm0.sat h
    refine ⟨#[⟨.cell a, true, false⟩] ++ es, w', H', Moves.trans hm0 hm, r, fun es₀ => ?_, hd⟩
    have hcell : w.cell? a = some c[a.off] := by simp [World.cell?, hwb, hsp, ho]
    have hfr : w.frozen? a = false := by simpa [World.frozen?, hwb] using hf
    cases v <;> first | (simp [one] at h1; done) | (simp only [Sem.runT, hcell, hfr, Bool.false_eq_true, if_false]; rw [hr]; simp [-Sem.runT_eq, plain_sync])
  | new o k ih =>
    intro H K E w hs h
    have hm0 := Moves.push hs o
    obtain ⟨es, w', H', hm, r, hr, hd⟩ := ih _ _ hm0.sat (h _ hs.fresh)
    exact ⟨#[] ++ es, w', H', Moves.trans hm0 hm, r, fun es₀ => by simp only [Sem.runT]; rw [hr]; simp [-Sem.runT_eq], hd⟩
  | shape x k ih =>
    intro H K E w hs h
    obtain ⟨s, hsh, h⟩ := h
    obtain ⟨es, w', H', hm, r, hr, hd⟩ := ih _ w hs h
    refine ⟨es, w', H', hm, r, fun es₀ => ?_, hd⟩
    have : w.shape? x = s := by
      unfold Hp.shape at hsh
      unfold World.shape?
      rcases hb : H x with _ | ⟨p, o⟩
      · simp [hb] at hsh
      · rw [hs _ _ _ hb]
        cases o <;> simpa [hb] using hsh
    simp only [Sem.runT, this]; rw [hr]
  | freeze a n k ih => intro H K E w hs h; exact h.elim
  | frozen a k ih =>
    intro H K E w hs h
    obtain ⟨s, hsh, h⟩ := h
    obtain ⟨es, w', H', hm, r, hr, hd⟩ := ih _ w hs h
    refine ⟨es, w', H', hm, r, fun es₀ => ?_, hd⟩
    have : w.frozen? a = s := by
      unfold Hp.ice at hsh
      unfold World.frozen?
      rcases hb : H a.block with _ | ⟨p, o⟩
      · simp [hb] at hsh
      · rw [hs _ _ _ hb]
        cases o <;> simpa [hb] using hsh
    simp only [Sem.runT, this]; rw [hr]
  | getObj x k ih =>
    intro H K E w hs h
    obtain ⟨p, o, hb, hc, hch, h⟩ := h
    obtain ⟨es, w', H', hm, r, hr, hd⟩ := ih _ w hs h
    refine ⟨#[⟨.obj x, false, false⟩] ++ es, w', H', Moves.trans (Moves.one hs ?_) hm, r, fun es₀ => ?_, hd⟩
    · refine ⟨rfl, ?_⟩
      cases p
      · exact .inr (.inr ⟨rfl, _, hb⟩)
      · exact .inl ⟨_, hb⟩
    · have hwb := hs _ _ _ hb
      cases o <;> first | (simp at hc; done) | (simp only [Sem.runT, hwb]; rw [hr]; simp [hch, -Sem.runT_eq])
  | setObj x o k ih =>
    intro H K E w hs h
    obtain ⟨o', hb, hc, hch, h⟩ := h
    have hm0 : Moves H w #[⟨.obj x, true, false⟩] (H.set x o) { w with heap := w.heap.setIfInBounds x o } :=
      Moves.put hs hb fun e he => by simp at he; subst he; exact ⟨rfl, .inl ⟨_, hb⟩⟩
    obtain ⟨es, w', H', hm, r, hr, hd⟩ := ih _ hm0.sat h
    refine ⟨#[⟨.obj x, true, false⟩] ++ es, w', H', Moves.trans hm0 hm, r, fun es₀ => ?_, hd⟩
    have hwb := hs _ _ _ hb
    cases o' <;> first | (simp at hc; done) | (simp only [Sem.runT, hwb]; rw [hr]; simp [hch, -Sem.runT_eq])
  | choose q k ih =>
    intro H K E w hs h
    simp only [wpS] at h
    by_cases hq : q.forced = true
    · rw [if_pos hq] at h
      obtain ⟨es, w', H', hm, r, hr, hd⟩ := ih _ w hs h
      exact ⟨es, w', H', hm, r, fun es₀ => by simp only [Sem.runT, if_pos hq]; rw [hr], hd⟩
    · rw [if_neg hq] at h
      have hm0 := Moves.draw hs (w.drawn + 1)
      obtain ⟨es, w', H', hm, r, hr, hd⟩ := ih _ _ hm0.sat (h (w.tape w.drawn q))
      exact ⟨#[] ++ es, w', H', Moves.trans hm0 hm, r, fun es₀ => by simp only [Sem.runT, if_neg hq]; rw [hr]; simp [-Sem.runT_eq], hd⟩
  | sys c k ih => intro H K E w hs h; exact h.elim
  | program k ih =>
    intro H K E w hs h
    obtain ⟨es, w', H', hm, r, hr, hd⟩ := ih _ w hs h
    exact ⟨es, w', H', hm, r, fun es₀ => by simp only [Sem.runT]; rw [hr], hd⟩
  | mark m k ih =>
    intro H K E w hs h
    obtain ⟨rfl, h⟩ := h
    obtain ⟨es, w', H', hm, r, hr, hd⟩ := ih w hs h
    exact ⟨#[⟨.mark .noRoom, false, true⟩] ++ es, w', H', Moves.trans (Moves.one (e := ⟨.mark .noRoom, false, true⟩) hs (by simp [EvOK])) hm, r, fun es₀ => by simp only [Sem.runT]; rw [hr]; simp [-Sem.runT_eq], hd⟩
  | halt x =>
    intro H K E w hs h
    cases x <;> first
      | (simp only [wpS] at h; done)
      | exact ⟨#[], w, H, .refl hs, _, fun es₀ => by simp only [Sem.runT, Array.append_empty], .inr ⟨_, rfl, h⟩⟩
end
end Go.X
end
section
/- One goroutine's own steps over what it knows of memory, whatever the others do elsewhere: the judgement, its rules for control, operations and calls. -/
namespace Go.X
open Go
open Go.Conc (G base)

/-- A frame that runs. -/
def fat (b : Frame) (a : Act) (todo : List Item) : Frame := { b with tmps := a.tmps, todo := todo, defers := a.defers, mode := .run }

theorem eval_fat (b : Frame) (a : Act) (todo : List Item) : (fat b a todo).eval = a.eval := by
  funext x; cases x <;> rfl

/-- FROM THIS GOROUTINE, OVER WHAT IT KNOWS, ITS OWN STEPS COME TO A STOP, each of them within what it knows, whatever else is in the world at each step. -/
inductive WPG (P : Program) (main : Bool) (Stop : Goroutine → Hp → Prop) : Goroutine → Hp → Prop
  | stop {g : Goroutine} {H H₀ : Hp} (h : Stop g H₀) (hl : H₀.le H) : WPG P main Stop g H
  | step {g : Goroutine} {H : Hp} (T : Goroutine → Hp → Prop) (hs : g.status = .running)
      (h : ∀ w, Sat H w → ∃ g' w' es H', stepG P main g w = .go g' w' es ∧ Moves H w es H' w' ∧ T g' H')
      (ht : ∀ g' H', T g' H' → WPG P main Stop g' H') : WPG P main Stop g H

section
variable {P : Program} {main : Bool} {Stop : Goroutine → Hp → Prop}

theorem WPG.more {g : Goroutine} {H G : Hp} (h : WPG P main Stop g H) (hl : H.le G) : WPG P main Stop g G := by
  cases h with
  | stop h hl' => exact .stop h (Hp.le_trans hl' hl)
  | step T hs h ht =>
    exact .step T hs (fun w hw => by
      obtain ⟨g', w', es, H', he, hm, hT⟩ := h w (hw.mono hl)
      exact ⟨g', w', es, H', he, hm.more hl, hT⟩) ht

theorem WPG.bind {Stop' : Goroutine → Hp → Prop} {g : Goroutine} {H : Hp} (h : WPG P main Stop g H) (hs : ∀ g' H', Stop g' H' → WPG P main Stop' g' H') : WPG P main Stop' g H := by
  induction h with
  | stop h hl => exact (hs _ _ h).more hl
  | step T hr h _ ih => exact .step T hr h ih

/-- One step that looks at no memory. -/
theorem WPG.ctl {g g' : Goroutine} {H : Hp} (hs : g.status = .running) (h : ∀ w, stepG P main g w = .go g' w #[]) (hg : WPG P main Stop g' H) : WPG P main Stop g H :=
  .step (fun x y => x = g' ∧ y = H) hs (fun w hw => ⟨g', w, #[], H, h w, .refl hw, rfl, rfl⟩) fun x y e => by obtain ⟨rfl, rfl⟩ := e; exact hg

/-- Where the walk goes on behind a piece of code that is left by this way out. -/
def After (P : Program) (main : Bool) (Stop : Goroutine → Hp → Prop) (b : Frame) (k : List Item) (cs : List Frame) : Exit → Act → Hp → Prop
  | .normal, a, H => WPG P main Stop (G (fat b a k) cs) H
  | .exit id, a, H => ∀ k', exitTo id k' = exitTo id k → WPG P main Stop (G (fat b a (.code (.exit id) :: k')) cs) H
  | .goto l, a, H => ∀ k', gotoIn l k' = gotoIn l k → WPG P main Stop (G (fat b a (.code (.goto l) :: k')) cs) H
  | .ret, a, H => ∀ k', WPG P main Stop (G (fat b a (.code .ret :: k')) cs) H
  | .panic ch, a, H => ∀ k', WPG P main Stop (G { fat b a k' with mode := .panicking ch } cs) H
  | .outgrown, _, _ => False

theorem After.push {b : Frame} {x : Item} {k : List Item} {cs : List Frame} {e : Exit} {a : Act} {H : Hp} (hx : x.plain = true) (he : e ≠ .normal)
    (h : After P main Stop b k cs e a H) : After P main Stop b (x :: k) cs e a H := by
  cases e with
  | normal => exact absurd rfl he
  | exit id => exact fun k' hk => h k' (hk.trans (by cases x <;> simp_all [exitTo, Item.plain]))
  | goto l => exact fun k' hk => h k' (hk.trans (by cases x <;> simp_all [gotoIn, Item.plain]))
  | ret => exact h
  | panic ch => exact h
  | outgrown => exact h
end

/-- What is asked behind the first of two. -/
def thn (next : Act → Hp → Prop) (Q : Exit → Act → Hp → Prop) : Exit → Act → Hp → Prop
  | .normal, a, H => next a H
  | .exit id, a, H => Q (.exit id) a H
  | .goto l, a, H => Q (.goto l) a H
  | .ret, a, H => Q .ret a H
  | .panic ch, a, H => Q (.panic ch) a H
  | .outgrown, _, _ => False
/-- What is asked of a block's body. -/
def blk (id : Nat) (Q : Exit → Act → Hp → Prop) : Exit → Act → Hp → Prop
  | .normal, a, H => Q .normal a H
  | .exit id', a, H => if id' = id then Q .normal a H else Q (.exit id') a H
  | .goto l, a, H => Q (.goto l) a H
  | .ret, a, H => Q .ret a H
  | .panic ch, a, H => Q (.panic ch) a H
  | .outgrown, _, _ => False

/-- THE JUDGEMENT on a piece of code; lp: the loop over a function whose round this frame is, if it is one. -/
def wpX (P : Program) (main : Bool) (lp : Option Nat) (c : Code) (Q : Exit → Act → Hp → Prop) (a : Act) (H : Hp) : Prop :=
  ∀ (b : Frame) (k : List Item) (cs : List Frame) (Stop : Goroutine → Hp → Prop), b.kind ≠ .early → b.roundOf = lp →
    (∀ e a' H', Q e a' H' → After P main Stop b k cs e a' H') → WPG P main Stop (G (fat b a (.code c :: k)) cs) H

/-- The same of the operations of a region that are still to come, in this order. -/
def opsX (P : Program) (main : Bool) (lp : Option Nat) (ops : Array Oper) (todo : List Nat) (Q : Exit → Act → Hp → Prop) (a : Act) (H : Hp) : Prop :=
  ∀ (b : Frame) (k : List Item) (cs : List Frame) (Stop : Goroutine → Hp → Prop), b.kind ≠ .early → b.roundOf = lp →
    (∀ e a' H', Q e a' H' → After P main Stop b k cs e a' H') → WPG P main Stop (G (fat b a (.inRegion ops todo :: k)) cs) H

/-- A frame that is put on top of its caller's runs, and comes back by this ending. -/
def Runs (P : Program) (main : Bool) (fr : Frame) (H : Hp) (R : Ending → Hp → Prop) : Prop :=
  ∀ (c : Frame) (cs : List Frame) (Stop : Goroutine → Hp → Prop),
    (∀ v H₁, R (.returned v) H₁ → WPG P main Stop (G (c.finish v) cs) H₁) →
    (∀ ch H', R (.panicked ch) H' → WPG P main Stop (G (c.raise ch) cs) H') → WPG P main Stop (G fr (c :: cs)) H

/-- What is asked once an operation has come to this. -/
def uponX (P : Program) (main : Bool) (lp : Option Nat) (o : Oper) (a : Act) (next : Act → Hp → Prop) (Q : Exit → Act → Hp → Prop) : Next → Hp → Prop
  | .value v, H => next (a.put o.dst v) H
  | .skip, H => next (a.put o.dst undef) H
  | .defer d, H => lp = none ∧ next ({ a with defers := d :: a.defers }.put o.dst undef) H
  | .enter f args, H => Runs P main (Frame.enter P f args .normal) H fun
      | .returned v, H' => next (a.put o.dst v) H'
      | .panicked ch, H' => Q (.panic ch) a H'
      | .outgrown, _ => False
  | .round l f tmps as body, H => Runs P main (Frame.round l f tmps as body .normal) H fun
      | .returned v, H₁ => next (a.put o.dst v) H₁
      | .panicked ch, H₁ => Q (.panic ch) a H₁
      | .outgrown, _ => False
  | _, _ => False

/-- One operation. -/
def opX (P : Program) (main : Bool) (lp : Option Nat) (o : Oper) (a : Act) (H : Hp) (next : Act → Hp → Prop) (Q : Exit → Act → Hp → Prop) : Prop :=
  wpS P (execOp a.eval o) H (uponX P main lp o a next Q) fun v H₁ => Q (.panic [{ v, recovered := false }]) a H₁

section rules
variable {P : Program} {main : Bool} {lp : Option Nat} {Q : Exit → Act → Hp → Prop} {a : Act} {H : Hp}

theorem Runs.mono {fr : Frame} {R R' : Ending → Hp → Prop} (h : Runs P main fr H R) (hr : ∀ e H, R e H → R' e H) : Runs P main fr H R' :=
  fun c cs Stop h1 h2 => h c cs Stop (fun v H' r => h1 v H' (hr _ _ r)) fun ch H' r => h2 ch H' (hr _ _ r)

theorem Runs.more {fr : Frame} {H' : Hp} {R : Ending → Hp → Prop} (h : Runs P main fr H R) (hl : H.le H') : Runs P main fr H' R :=
  fun c cs Stop h1 h2 => (h c cs Stop h1 h2).more hl

/-- What is kept besides may be forgotten at the end. -/
theorem Runs.less {fr : Frame} {R R' : Ending → Hp → Prop} (h : Runs P main fr H R) (hr : ∀ e H, R e H → ∃ H₀, H₀.le H ∧ R' e H₀) : Runs P main fr H R' :=
  fun c cs Stop h1 h2 => h c cs Stop (fun v _ r => let ⟨H₀, hl, r'⟩ := hr _ _ r; (h1 v H₀ r').more hl) fun ch _ r => let ⟨H₀, hl, r'⟩ := hr _ _ r; (h2 ch H₀ r').more hl

theorem wpX_mono {c : Code} {Q' : Exit → Act → Hp → Prop} (h : wpX P main lp c Q a H) (hq : ∀ e a H, Q e a H → Q' e a H) : wpX P main lp c Q' a H :=
  fun b k cs Stop hk hl hc => h b k cs Stop hk hl fun e a' H' q => hc e a' H' (hq e a' H' q)

theorem wpX_more {c : Code} {H' : Hp} (h : wpX P main lp c Q a H) (hl : H.le H') : wpX P main lp c Q a H' :=
  fun b k cs Stop hk hp hc => (h b k cs Stop hk hp hc).more hl

theorem After.more {Stop : Goroutine → Hp → Prop} {b : Frame} {k : List Item} {cs : List Frame} {e : Exit} {H' : Hp} (h : After P main Stop b k cs e a H) (hl : H.le H') : After P main Stop b k cs e a H' := by
  cases e with
  | normal => exact WPG.more h hl
  | exit id => exact fun k' hk => (h k' hk).more hl
  | goto l => exact fun k' hk => (h k' hk).more hl
  | ret => exact fun k' => (h k').more hl
  | panic ch => exact fun k' => (h k').more hl
  | outgrown => exact h

/-- What is kept besides may be forgotten. -/
theorem wpX_less {c : Code} {Q' : Exit → Act → Hp → Prop} (h : wpX P main lp c Q a H) (hq : ∀ e a H, Q e a H → ∃ H₀, H₀.le H ∧ Q' e a H₀) : wpX P main lp c Q' a H :=
  fun b k cs Stop hk hl hc => h b k cs Stop hk hl fun e a' H' q => let ⟨H₀, h0, q'⟩ := hq e a' H' q; (hc e a' H₀ q').more h0

theorem wpX_skip (h : Q .normal a H) : wpX P main lp .skip Q a H := fun b k cs _ _ _ hc =>
  .ctl (g' := G (fat b a k) cs) rfl (fun w => by simp [G, stepG, stepG.exec, fat]) (hc _ _ _ h)

theorem wpX_label {l : Nat} (h : Q .normal a H) : wpX P main lp (.label l) Q a H := fun b k cs _ _ _ hc =>
  .ctl (g' := G (fat b a k) cs) rfl (fun w => by simp [G, stepG, stepG.exec, fat]) (hc _ _ _ h)

theorem wpX_exit {id : Nat} (h : Q (.exit id) a H) : wpX P main lp (.exit id) Q a H := fun _ k _ _ _ _ hc => hc _ _ _ h k rfl
theorem wpX_goto {l : Nat} (h : Q (.goto l) a H) : wpX P main lp (.goto l) Q a H := fun _ k _ _ _ _ hc => hc _ _ _ h k rfl
theorem wpX_ret (h : Q .ret a H) : wpX P main lp .ret Q a H := fun _ k _ _ _ _ hc => hc _ _ _ h k

theorem wpX_seq {x y : Code} (h : wpX P main lp x (thn (fun a' H' => wpX P main lp y Q a' H') Q) a H) : wpX P main lp (.seq x y) Q a H := by
  intro b k cs Stop hk hl hc
  refine .ctl (g' := G (fat b a (.code x :: .code y :: k)) cs) rfl (fun w => by simp [G, stepG, stepG.exec, fat]) ?_
  refine h b (.code y :: k) cs Stop hk hl fun e a' H' q => ?_
  cases e with
  | normal => exact q b k cs Stop hk hl hc
  | exit id => exact (hc _ _ _ q).push rfl (by simp)
  | goto id => exact (hc _ _ _ q).push rfl (by simp)
  | ret => exact After.push (x := .code y) (e := .ret) rfl (by simp) (hc _ _ _ q)
  | panic ch => exact After.push (x := .code y) (e := .panic ch) rfl (by simp) (hc _ _ _ q)
  | outgrown => exact q.elim

theorem wpX_cond {c : Operand} {x y : Code} {t : Bool} (ht : a.eval c = .bool t) (h : wpX P main lp (if t then x else y) Q a H) : wpX P main lp (.cond c x y) Q a H := by
  intro b k cs Stop hk hl hc
  refine .ctl (g' := G (fat b a (.code (if t then x else y) :: k)) cs) rfl (fun w => ?_) (h b k cs Stop hk hl hc)
  have he : (fat b a (.code (.cond c x y) :: k)).eval c = .bool t := by rw [eval_fat]; exact ht
  simp only [fat] at he
  simp [G, stepG, stepG.exec, fat, he]

theorem wpX_block {id : Nat} {c : Code} (h : wpX P main lp c (blk id Q) a H) : wpX P main lp (.block id c) Q a H := by
  intro b k cs Stop hk hl hc
  refine .ctl (g' := G (fat b a (.code c :: .inBlock id :: k)) cs) rfl (fun w => by simp [G, stepG, stepG.exec, fat]) ?_
  refine h b (.inBlock id :: k) cs Stop hk hl fun e a' H' q => ?_
  cases e with
  | normal => exact .ctl (g' := G (fat b a' k) cs) rfl (fun w => by simp [G, stepG, stepG.exec, fat]) (hc _ _ _ q)
  | exit id' =>
    by_cases hid : id' = id
    · simp only [blk, hid, if_true] at q
      subst hid
      intro k' hk'
      have hx : exitTo id' k' = some k := hk'.trans (by simp [exitTo])
      exact .ctl (g' := G (fat b a' k) cs) rfl (fun w => by simp [G, stepG, stepG.exec, fat, hx]) (hc _ _ _ q)
    · simp only [blk, hid, if_false] at q
      have hn : (id == id') = false := by simp; exact fun h => hid h.symm
      exact fun k' hk' => hc _ _ _ q k' (hk'.trans (by simp [exitTo, hn]))
  | goto l => exact fun k' hk' => hc _ _ _ q k' (hk'.trans (by simp [gotoIn]))
  | ret => exact hc _ _ _ q
  | panic ch => exact hc _ _ _ q
  | outgrown => exact q.elim

/-- A LOOP: an invariant and a measure that every round lowers. -/
theorem wpX_loop {c : Code} (I : Nat → Act → Hp → Prop) {n : Nat} (h₀ : I n a H)
    (round : ∀ n a H, I n a H → wpX P main lp c (thn (fun a' H' => ∃ n', n' < n ∧ I n' a' H') Q) a H) : wpX P main lp (.loop c) Q a H := by
  intro b k cs Stop hk hl hc
  have key : ∀ n a H, I n a H → WPG P main Stop (G (fat b a (.code c :: .inLoop c :: k)) cs) H := by
    intro n
    induction n using Nat.strongRecOn with
    | _ n ih =>
      intro a H hI
      refine round n a H hI b (.inLoop c :: k) cs Stop hk hl fun e a' H' q => ?_
      cases e with
      | normal =>
        obtain ⟨n', hlt, hI'⟩ := q
        exact .ctl (g' := G (fat b a' (.code c :: .inLoop c :: k)) cs) rfl (fun w => by simp [G, stepG, stepG.exec, fat]) (ih n' hlt a' H' hI')
      | exit id => exact (hc _ _ _ q).push rfl (by simp)
      | goto id => exact (hc _ _ _ q).push rfl (by simp)
      | ret => exact After.push (x := .inLoop c) (e := .ret) rfl (by simp) (hc _ _ _ q)
      | panic ch => exact After.push (x := .inLoop c) (e := .panic ch) rfl (by simp) (hc _ _ _ q)
      | outgrown => exact q.elim
  exact .ctl (g' := G (fat b a (.code c :: .inLoop c :: k)) cs) rfl (fun w => by simp [G, stepG, stepG.exec, fat]) (key n a H h₀)

/-! ### Regions -/

theorem wpX_region {id : Nat} {ops : Array Oper} (h : opsX P main lp ops (List.range ops.size) Q a H) : wpX P main lp (.region id ops false) Q a H :=
  fun b k cs Stop hk hl hc => .ctl (g' := G (fat b a (.inRegion ops (List.range ops.size) :: k)) cs) rfl (fun w => by simp [G, stepG, stepG.exec, fat]) (h b k cs Stop hk hl hc)

theorem wpX_region_draw {id : Nat} {ops : Array Oper} (h : ∀ t, opsX P main lp ops (Region.schedule (P.follows .mixedOrders) ops t) Q a H) : wpX P main lp (.region id ops true) Q a H := by
  intro b k cs Stop hk hl hc
  refine .step (fun g' H' => ∃ t, g' = G (fat b a (.inRegion ops (Region.schedule (P.follows .mixedOrders) ops t) :: k)) cs ∧ H' = H) rfl (fun w hw => ?_) ?_
  · refine ⟨_, { w with drawn := w.drawn + 1 }, #[], H, ?_, .draw hw _, w.tape w.drawn (.order b.fn id), rfl, rfl⟩
    simp [G, stepG, stepG.exec, fat, choose, Sem.run, Question.forced, Question.cut]
  · rintro g' H' ⟨t, rfl, rfl⟩
    exact h t b k cs Stop hk hl hc

theorem opsX_nil {ops : Array Oper} (h : Q .normal a H) : opsX P main lp ops [] Q a H := fun b k cs _ _ _ hc =>
  .ctl (g' := G (fat b a k) cs) rfl (fun w => by simp [G, stepG, stepG.exec, fat]) (hc _ _ _ h)

theorem finish_fat (b : Frame) (a : Act) (ops : Array Oper) (i : Nat) (rest : List Nat) (k : List Item) (v : Value) :
    (fat b a (.inRegion ops (i :: rest) :: k)).finish v = fat b (a.put ((ops[i]?).bind (·.dst)) v) (.inRegion ops rest :: k) := by
  cases h : (ops[i]?).bind (·.dst) <;> simp [Frame.finish, fat, Act.put, h]

theorem mem_seen {fn : FuncId} {es : Array Event} {e : Event} (h : e ∈ seen P fn es) : e ∈ es := by
  dsimp only [seen] at h
  have key : ∀ (l : List Event) (q : Bool) (kept : Array Event), e ∈ (l.foldl (fun (x : Bool × Array Event) (e : Event) => match x, e with
      | (q, kept), e => match e.loc with
        | .mark (.extern f) => ((P.funcs[f]?).any (·.norace), kept)
        | _ => (q, if q && !e.sync then kept else kept.push e)) (q, kept)).2 → e ∈ kept ∨ e ∈ l := by
    intro l
    induction l with
    | nil => intro q kept h; exact .inl h
    | cons x l ih =>
      intro q kept h
      simp only [List.foldl_cons] at h
      split at h
      · rcases ih _ _ h with h | h
        · exact .inl h
        · exact .inr (List.mem_cons_of_mem _ h)
      · rcases ih _ _ h with h | h
        · split at h
          · exact .inl h
          · rcases Array.mem_push.1 h with h | h
            · exact .inl h
            · exact .inr (h ▸ List.mem_cons_self)
        · exact .inr (List.mem_cons_of_mem _ h)
  rw [← Array.foldl_toList] at h
  rcases key _ _ _ h with h | h
  · simp at h
  · simpa using h

theorem Moves.seen {H' : Hp} {w w' : World} {es : Array Event} (fn : FuncId) (h : Moves H w es H' w') : Moves H w (Go.seen P fn es) H' w' :=
  { h with evs := fun e he => h.evs e (mem_seen he) }

end rules
end Go.X
end
section
/- Operations and calls: one operation, a region in any order, a function's contract. -/
namespace Go.X
open Go
open Go.Conc (G base)

section rules
variable {P : Program} {main : Bool} {lp : Option Nat} {Q : Exit → Act → Hp → Prop} {a : Act} {H : Hp}

/-- The step of an operation. -/
theorem stepG_op {b : Frame} {k : List Item} {cs : List Frame} {w : World} {ops : Array Oper} {i : Nat} {rest : List Nat} {o : Oper} (ho : ops[i]? = some o) (hw : Region.wanted o (yielded ops a.tmps) = true)
    (hd : b.roundOf = none ∨ ∀ c, o.op ≠ .defer c) :
    stepG P main (G (fat b a (.inRegion ops (i :: rest) :: k)) cs) w = stepG.apply P true (fat b a (.inRegion ops (i :: rest) :: k)) cs none (execOp a.eval o) w := by
  have he := eval_fat b a (.inRegion ops (i :: rest) :: k)
  simp only [fat] at he
  rcases hd with hd | hd
  · rw [hd] at he
    simp [G, stepG, stepG.exec, stepG.oper, Frame.oper?, fat, ho, hw, he, hd]
  · cases hr : b.roundOf with
    | none =>
      rw [hr] at he
      simp [G, stepG, stepG.exec, stepG.oper, Frame.oper?, fat, ho, hw, he, hr]
    | some l =>
      rw [hr] at he
      cases hop : o.op <;> first | (simp [G, stepG, stepG.exec, stepG.oper, Frame.oper?, fat, ho, hw, he, hr, hop]; done) | exact absurd hop (hd _)

theorem wpS_defer_free {α : Type} {s : Sem α} {H : Hp} {K : α → Hp → Prop} {E : Value → Hp → Prop} (h : wpS P s H K E) (T : α → Hp → Prop) (hk : ∀ a H, K a H → T a H) : wpS P s H (fun a H => T a H ∧ K a H) E :=
  wpS_mono h (fun a H k => ⟨hk a H k, k⟩) fun _ _ h => h

theorem opsX_cons {ops : Array Oper} {i : Nat} {rest : List Nat} {o : Oper} (ho : ops[i]? = some o) (hw : Region.wanted o (yielded ops a.tmps) = true)
    (hd : lp = none ∨ ∀ c, o.op ≠ .defer c)
    (h : opX P main lp o a H (fun a' H' => opsX P main lp ops rest Q a' H') Q) : opsX P main lp ops (i :: rest) Q a H := by
  intro b k cs Stop hk hl hc
  have hk' : (b.kind == CallKind.early) = false := by simpa using hk
  have hfin : ∀ v, (fat b a (.inRegion ops (i :: rest) :: k)).finish v = fat b (a.put o.dst v) (.inRegion ops rest :: k) := fun v => by rw [finish_fat, ho]; rfl
  refine .step (fun g' H' => WPG P main Stop g' H') rfl (fun w hs => ?_) fun _ _ h => h
  rw [stepG_op ho hw (hl ▸ hd)]
  obtain ⟨es, w', H', hm, r, hr, hd'⟩ := wpS_sound _ w hs h
  have hm' : Moves H w (seen P b.fn es) H' w' := hm.seen b.fn
  have hr0 : (execOp a.eval o).runT P w #[] = (r, es) := by rw [hr #[]]; simp
  rcases hd' with ⟨x, rfl, hx⟩ | ⟨v, rfl, hv⟩
  · cases x with
    | value v =>
      refine ⟨G (fat b (a.put o.dst v) (.inRegion ops rest :: k)) cs, w', seen P b.fn es, H', ?_, hm', hx b k cs Stop hk hl hc⟩
      rw [← hfin]
      simp [stepG.apply, hr0, G, fat, hk', GStep.after, -Sem.runT_eq]
    | skip =>
      refine ⟨G (fat b (a.put o.dst undef) (.inRegion ops rest :: k)) cs, w', seen P b.fn es, H', ?_, hm', hx b k cs Stop hk hl hc⟩
      rw [← hfin]
      simp [stepG.apply, hr0, G, fat, hk', GStep.after, -Sem.runT_eq]
    | defer d =>
      refine ⟨G (fat b ({ a with defers := d :: a.defers }.put o.dst undef) (.inRegion ops rest :: k)) cs, w', seen P b.fn es, H', ?_, hm', hx.2 b k cs Stop hk hl hc⟩
      have : ({ fat b a (.inRegion ops (i :: rest) :: k) with defers := d :: a.defers } : Frame).finish undef = fat b ({ a with defers := d :: a.defers }.put o.dst undef) (.inRegion ops rest :: k) := by
        have := finish_fat b { a with defers := d :: a.defers } ops i rest k undef
        rw [ho] at this
        exact this
      rw [← this]
      simp [stepG.apply, hr0, G, fat, hk', GStep.after, -Sem.runT_eq]
    | enter f args =>
      refine ⟨G (Frame.enter P f args .normal) (fat b a (.inRegion ops (i :: rest) :: k) :: cs), w', seen P b.fn es, H', ?_, hm', ?_⟩
      · simp [stepG.apply, hr0, G, fat, hk', GStep.after, -Sem.runT_eq]
      · refine hx _ _ Stop (fun v H₁ r => ?_) fun ch H₁ r => ?_
        · rw [hfin]; exact r b k cs Stop hk hl hc
        · exact (hc (.panic ch) a H₁ r) _
    | round l f tmps as body =>
      refine ⟨G (Frame.round l f tmps as body .normal) (fat b a (.inRegion ops (i :: rest) :: k) :: cs), w', seen P b.fn es, H', ?_, hm', ?_⟩
      · simp [stepG.apply, hr0, G, fat, hk', GStep.after, -Sem.runT_eq]
      · refine hx _ _ Stop (fun v H₁ r => ?_) fun ch H₁ r => ?_
        · rw [hfin]; exact r b k cs Stop hk hl hc
        · exact (hc (.panic ch) a H₁ r) _
    | _ => exact hx.elim
  · refine ⟨G { fat b a (.inRegion ops (i :: rest) :: k) with mode := .panicking [{ v, recovered := false }] } cs, w', seen P b.fn es, H', ?_, hm', hc (.panic _) a H' hv _⟩
    simp [stepG.apply, hr0, G, fat, hk', GStep.after, Frame.raise, -Sem.runT_eq]

theorem opsX_unwanted {ops : Array Oper} {i : Nat} {rest : List Nat} {o : Oper} (ho : ops[i]? = some o) (hw : Region.wanted o (yielded ops a.tmps) = false)
    (h : opsX P main lp ops rest Q (a.put o.dst undef) H) : opsX P main lp ops (i :: rest) Q a H := fun b k cs Stop hk hl hc => by
  have hfin : (fat b a (.inRegion ops (i :: rest) :: k)).finish undef = fat b (a.put o.dst undef) (.inRegion ops rest :: k) := by rw [finish_fat, ho]; rfl
  refine .ctl (g' := G (fat b (a.put o.dst undef) (.inRegion ops rest :: k)) cs) rfl (fun w => ?_) (h b k cs Stop hk hl hc)
  rw [← hfin]
  simp [G, stepG, stepG.exec, fat, ho, hw]

theorem opsX_none {ops : Array Oper} {i : Nat} {rest : List Nat} (ho : ops[i]? = none) (h : opsX P main lp ops rest Q a H) : opsX P main lp ops (i :: rest) Q a H := fun b k cs Stop hk hl hc => by
  have hfin : (fat b a (.inRegion ops (i :: rest) :: k)).finish undef = fat b a (.inRegion ops rest :: k) := by rw [finish_fat, ho]; rfl
  refine .ctl (g' := G (fat b a (.inRegion ops rest :: k)) cs) rfl (fun w => ?_) (h b k cs Stop hk hl hc)
  rw [← hfin]
  simp [G, stepG, stepG.exec, fat, ho]

/-- An operation that may stand in this frame: no deferred call in the round of a loop over a function. -/
def fine (lp : Option Nat) (o : Oper) : Bool := lp.isNone || !(o.op matches .defer _)
theorem fine_spec {o : Oper} (h : fine lp o = true) : lp = none ∨ ∀ c, o.op ≠ .defer c := by
  unfold fine at h
  cases lp with
  | none => exact .inl rfl
  | some l => refine .inr fun c hc => ?_; simp [hc] at h

/-- One number of a region, in this state. -/
def numX (P : Program) (main : Bool) (lp : Option Nat) (ops : Array Oper) (i : Nat) (Q : Exit → Act → Hp → Prop) (K : Act → Hp → Prop) (a : Act) (H : Hp) : Prop :=
  match ops[i]? with
  | none => K a H
  | some o => if Region.wanted o (yielded ops a.tmps) then fine lp o = true ∧ opX P main lp o a H K Q else K (a.put o.dst undef) H

theorem opX_mono {o : Oper} {K K' : Act → Hp → Prop} (h : opX P main lp o a H K Q) (hk : ∀ a H, K a H → K' a H) : opX P main lp o a H K' Q := by
  refine wpS_mono h (fun x H' hx => ?_) fun _ _ h => h
  cases x <;> simp only [uponX] at hx ⊢ <;> first
    | exact hk _ _ hx
    | exact ⟨hx.1, hk _ _ hx.2⟩
    | exact hx.mono fun e H₁ he => by cases e <;> first | exact hk _ _ he | exact he

theorem numX_mono {ops : Array Oper} {i : Nat} {K K' : Act → Hp → Prop} (hk : ∀ a H, K a H → K' a H) (h : numX P main lp ops i Q K a H) : numX P main lp ops i Q K' a H := by
  unfold numX at *
  split
  · exact hk _ _ (by simpa [*] using h)
  · rename_i o ho
    simp only [ho] at h
    split
    · rename_i hw; simp only [hw, if_true] at h; exact ⟨h.1, opX_mono h.2 hk⟩
    · rename_i hw; simp only [hw] at h; exact hk _ _ h

theorem opsX_num {ops : Array Oper} {i : Nat} {rest : List Nat} (h : numX P main lp ops i Q (fun a' H' => opsX P main lp ops rest Q a' H') a H) : opsX P main lp ops (i :: rest) Q a H := by
  unfold numX at h
  cases ho : ops[i]? with
  | none => rw [ho] at h; exact opsX_none ho h
  | some o =>
    rw [ho] at h
    simp only [] at h
    by_cases hw : Region.wanted o (yielded ops a.tmps) = true
    · rw [if_pos hw] at h; exact opsX_cons ho hw (fine_spec h.1) h.2
    · rw [if_neg hw] at h; exact opsX_unwanted ho (by simpa using hw) h

/-- The operations in this order, one by one. -/
def runX (P : Program) (main : Bool) (lp : Option Nat) (ops : Array Oper) (Q : Exit → Act → Hp → Prop) : List Nat → Act → Hp → Prop
  | [], a, H => Q .normal a H
  | i :: rest, a, H => numX P main lp ops i Q (runX P main lp ops Q rest) a H

theorem runX_sound {ops : Array Oper} : ∀ {todo : List Nat} {a : Act} {H : Hp}, runX P main lp ops Q todo a H → opsX P main lp ops todo Q a H
  | [], _, _, h => opsX_nil h
  | _ :: _, _, _, h => opsX_num (numX_mono (fun _ _ h => runX_sound h) h)

theorem wpX_text {id : Nat} {ops : Array Oper} (h : runX P main lp ops Q (List.range ops.size) a H) : wpX P main lp (.region id ops false) Q a H := wpX_region (runX_sound h)

/-! ### A region that draws its order -/

/-- Whatever order is picked from here on, S holding behind every operation. -/
def anyX (P : Program) (main : Bool) (lp : Option Nat) (ops : Array Oper) (Q : Exit → Act → Hp → Prop) (S : Hp → Prop) : Nat → Array Bool → Act → Hp → Prop
  | 0, listed, a, H => Region.ready .any ops listed = [] ∧ Q .normal a H
  | fuel + 1, listed, a, H =>
    (Region.ready .any ops listed = [] → Q .normal a H) ∧
    ∀ i ∈ Region.ready .any ops listed, numX P main lp ops i Q (fun a' H' => S H' ∧ anyX P main lp ops Q S fuel (listed.setIfInBounds i true) a' H') a H

theorem anyX_sound {ops : Array Oper} {S : Hp → Prop} : ∀ (fuel t : Nat) (listed : Array Bool) (a : Act) (H : Hp), anyX P main lp ops Q S fuel listed a H →
    runX P main lp ops Q (Region.linearise.go .any ops fuel t listed []) a H := by
  intro fuel
  induction fuel with
  | zero => intro t listed a H h; simpa [Region.linearise.go, runX] using h.2
  | succ fuel ih =>
    intro t listed a H h
    obtain ⟨h₀, h₁⟩ := h
    simp only [Region.linearise.go]
    change runX P main lp ops Q (match (Region.ready .any ops listed)[t % (Region.ready .any ops listed).length]? with
      | some i => Region.linearise.go .any ops fuel (t / (Region.ready .any ops listed).length) (listed.setIfInBounds i true) [i]
      | none => [].reverse) a H
    cases hi : (Region.ready .any ops listed)[t % (Region.ready .any ops listed).length]? with
    | none =>
      have hnil : Region.ready .any ops listed = [] := by
        cases hr : Region.ready .any ops listed with
        | nil => rfl
        | cons x xs =>
          rw [hr] at hi
          have hlt : t % (x :: xs).length < (x :: xs).length := Nat.mod_lt _ (by simp)
          simp at hi
          simp at hlt
          omega
      simpa [runX] using h₀ hnil
    | some i =>
      simp only []
      rw [linearise_go_acc, List.reverse_singleton, List.singleton_append]
      exact numX_mono (fun a' H' h => ih _ _ a' H' h.2) (h₁ i (List.mem_of_getElem? hi))

theorem wpX_draw {id : Nat} {ops : Array Oper} (S : Hp → Prop) (hm : P.follows .mixedOrders = true)
    (h : anyX P main lp ops Q S ops.size (Array.replicate ops.size false) a H) : wpX P main lp (.region id ops true) Q a H :=
  wpX_region_draw fun t => runX_sound (by
    simp only [Region.schedule, hm, Bool.true_or, if_true]
    exact anyX_sound ops.size t _ a H h)

end rules
end Go.X
end
section
/- A region that draws its order: what yields its value in every memory that meets S may be taken first; a plan says in which order the operations are looked at. -/
namespace Go.X
open Go

section
variable {P : Program} {main : Bool} {lp : Option Nat} {Q : Exit → Act → Hp → Prop} {ops : Array Oper} {S : Hp → Prop}

/-- The operation has yielded v and left memory as it was. -/
def YN (P : Program) (main : Bool) (v : Value) (H : Hp) : Next → Hp → Prop
  | .value u, H' => u = v ∧ H' = H
  | .enter f args, H' => Runs P main (Frame.enter P f args .normal) H' fun
      | .returned u, H₁ => u = v ∧ H₁ = H
      | _, _ => False
  | _, _ => False

def YieldsX (P : Program) (main : Bool) (lp : Option Nat) (ops : Array Oper) (S : Hp → Prop) (o : Oper) (v : Value) (a : Act) : Prop :=
  (Region.wanted o (yielded ops a.tmps) = true ∧ fine lp o = true ∧ ∀ H, S H → wpS P (execOp a.eval o) H (YN P main v H) fun _ _ => False) ∨
  (Region.wanted o (yielded ops a.tmps) = false ∧ v = undef)

theorem YieldsX.num {i : Nat} {o : Oper} {v : Value} {a : Act} (hi : ops[i]? = some o) (hy : YieldsX P main lp ops S o v a) {K : Act → Hp → Prop} {H : Hp} (hS : S H) (h : K (a.put o.dst v) H) :
    numX P main lp ops i Q K a H := by
  unfold numX
  simp only [hi]
  rcases hy with ⟨hw, hf, hv⟩ | ⟨hw, rfl⟩
  · simp only [hw, if_true]
    refine ⟨hf, wpS_mono (hv H hS) (fun x H' hx => ?_) fun _ _ h => h.elim⟩
    cases x <;> simp only [YN] at hx
    case value u => obtain ⟨rfl, rfl⟩ := hx; exact h
    case enter f args =>
      simp only [uponX]
      refine hx.mono fun e H₁ he => ?_
      cases e with
      | returned u => obtain ⟨rfl, rfl⟩ := he; exact h
      | panicked c => exact he.elim
      | outgrown => exact he.elim
  · simp only [hw, Bool.false_eq_true, if_false]; exact h

theorem YieldsX.of_same {o : Oper} {v : Value} {a a' : Act} (hy : YieldsX P main lp ops S o v a) (he : execOp a'.eval o = execOp a.eval o)
    (hw : Region.wanted o (yielded ops a'.tmps) = Region.wanted o (yielded ops a.tmps)) : YieldsX P main lp ops S o v a' := by
  unfold YieldsX at *
  rw [he, hw]
  exact hy

theorem numX_put {j : Nat} {oi oj : Oper} {v : Value} (hj : ops[j]? = some oj) (hap : oi.apart ops oj = true)
    (hsi : ∀ cs b, oi.op ≠ .select cs b) (hsj : ∀ cs b, oj.op ≠ .select cs b)
    (hQ : ∀ c a H, Q (.panic c) (a.put oi.dst v) H → Q (.panic c) a H) {K : Act → Hp → Prop} {a : Act} {H : Hp}
    (hy : YieldsX P main lp ops S oi v a) (h : numX P main lp ops j Q K (a.put oi.dst v) H) :
    numX P main lp ops j Q (fun a' H' => YieldsX P main lp ops S oi v a' ∧ K (a'.put oi.dst v) H') a H := by
  obtain ⟨h1, h2, h3⟩ := Oper.apart_spec hap
  have keep : ∀ (a : Act), YieldsX P main lp ops S oi v a → ∀ u, YieldsX P main lp ops S oi v (a.put oj.dst u) := fun a hy u =>
    hy.of_same (execOp_put oi hsi a oj.dst u h3) (wanted_put oi a oj.dst u h3)
  have keepD : ∀ d, YieldsX P main lp ops S oi v { a with defers := d :: a.defers } := fun d => hy.of_same rfl rfl
  unfold numX at *
  simp only [hj] at *
  rw [wanted_put oj a oi.dst v h1] at h
  split
  · rename_i hw
    simp only [hw, if_true] at h
    refine ⟨h.1, ?_⟩
    have h := h.2
    unfold opX at *
    rw [execOp_put oj hsj a oi.dst v h1] at h
    refine wpS_mono h (fun x H' hx => ?_) fun u H' hu => hQ _ _ _ hu
    cases x <;> simp only [uponX] at hx ⊢
    case value u => exact ⟨keep a hy u, by rw [← Act.put_comm a v u h2]; exact hx⟩
    case skip => exact ⟨keep a hy _, by rw [← Act.put_comm a v undef h2]; exact hx⟩
    case defer d =>
      refine ⟨hx.1, keep _ (keepD d) _, ?_⟩
      rw [← Act.put_comm _ v undef h2, ← Act.put_defers]
      exact hx.2
    case enter f args =>
      refine hx.mono fun e H₁ he => ?_
      cases e with
      | returned u => exact ⟨keep a hy u, by rw [← Act.put_comm a v u h2]; exact he⟩
      | panicked c => exact hQ _ _ _ he
      | outgrown => exact he
    case round l f tmps as body =>
      refine hx.mono fun e H₁ he => ?_
      cases e with
      | returned u => exact ⟨keep a hy u, by rw [← Act.put_comm a v u h2]; exact he⟩
      | panicked c => exact hQ _ _ _ he
      | outgrown => exact he
  · rename_i hw
    simp only [hw] at h
    exact ⟨keep a hy _, by rw [← Act.put_comm a v undef h2]; exact h⟩

/-- What has come up is closed under what it waits for. -/
def Closed (ops : Array Oper) (listed : Array Bool) : Prop :=
  ∀ (k : Nat) (o : Oper), ops[k]? = some o → listed.getD k false = true → ∀ e ∈ o.after, Region.binds .any e = true → listed.getD e.on false = true

/-- j waits for i. -/
inductive Dep (ops : Array Oper) : Nat → Nat → Prop
  | edge {j : Nat} {o : Oper} {e : Edge} (ho : ops[j]? = some o) (he : e ∈ o.after) (hb : Region.binds .any e = true) : Dep ops j e.on
  | more {j k : Nat} {o : Oper} {e : Edge} (h : Dep ops j k) (ho : ops[k]? = some o) (he : e ∈ o.after) (hb : Region.binds .any e = true) : Dep ops j e.on

theorem Dep.listed {listed : Array Bool} (hc : Closed ops listed) {j i : Nat} (hj : j ∈ Region.ready .any ops listed) (h : Dep ops j i) : listed.getD i false = true := by
  induction h with
  | edge ho he hb =>
    obtain ⟨_, o', ho', hall⟩ := mem_ready.1 hj
    rw [ho] at ho'
    exact hall _ (Option.some.inj ho' ▸ he) hb
  | more h ho he hb ih => exact hc _ _ ho ih _ he hb

theorem Closed.set {listed : Array Bool} (hc : Closed ops listed) {i : Nat} (hi : i ∈ Region.ready .any ops listed) : Closed ops (listed.setIfInBounds i true) := by
  intro k o ho hk e he hb
  by_cases hki : k = i
  · subst hki
    obtain ⟨_, o', ho', hall⟩ := mem_ready.1 hi
    rw [ho] at ho'
    exact getD_set_true (hall e (Option.some.inj ho' ▸ he) hb)
  · rw [getD_set_ne false (Ne.symm hki)] at hk
    exact getD_set_true (hc k o ho hk e he hb)

theorem Closed.start : Closed ops (Array.replicate ops.size false) := by
  intro k o _ hk
  exfalso
  by_cases h : k < ops.size
  · simp [Array.getD, h] at hk
  · simp [Array.getD, h] at hk

/-- Which numbers t waits for, by marking downwards. -/
def marked (ops : Array Oper) : List Nat → Array Bool → Array Bool
  | [], m => m
  | k :: rest, m =>
    if m.getD k false then marked ops rest (((ops[k]?).map (·.after.toList)).getD [] |>.foldl (fun m e => if Region.binds .any e then m.setIfInBounds e.on true else m) m)
    else marked ops rest m

theorem fold_marks {t : Nat} {k : Nat} {o : Oper} (ho : ops[k]? = some o) (hk : k = t ∨ Dep ops t k) : ∀ (l : List Edge) (m : Array Bool), (∀ e ∈ l, e ∈ o.after) → (∀ x, m.getD x false = true → x = t ∨ Dep ops t x) →
    ∀ x, (l.foldl (fun m e => if Region.binds .any e then m.setIfInBounds e.on true else m) m).getD x false = true → x = t ∨ Dep ops t x
  | [], _, _, hm => hm
  | e :: l, m, hl, hm => by
    simp only [List.foldl_cons]
    refine fold_marks ho hk l _ (fun e' he' => hl e' (List.mem_cons_of_mem _ he')) fun x hx => ?_
    by_cases hb : Region.binds .any e = true
    · rw [if_pos hb] at hx
      by_cases hxe : e.on = x
      · subst hxe
        refine .inr ?_
        rcases hk with rfl | hk
        · exact .edge ho (hl e List.mem_cons_self) hb
        · exact .more hk ho (hl e List.mem_cons_self) hb
      · rw [getD_set_ne false hxe] at hx; exact hm x hx
    · rw [if_neg hb] at hx; exact hm x hx

theorem marked_dep {t : Nat} : ∀ (l : List Nat) (m : Array Bool), (∀ x, m.getD x false = true → x = t ∨ Dep ops t x) → ∀ x, (marked ops l m).getD x false = true → x = t ∨ Dep ops t x
  | [], _, hm => hm
  | k :: rest, m, hm => by
    intro x hx
    unfold marked at hx
    split at hx
    · rename_i hk
      refine marked_dep rest _ ?_ x hx
      cases ho : ops[k]? with
      | none => simpa [ho] using hm
      | some o =>
        simp only [Option.map_some, Option.getD_some]
        exact fold_marks ho (hm k hk) _ m (fun e he => by simpa using he) hm
    · exact marked_dep rest m hm x hx

/-- Whatever order is picked from here on; t: the one operation behind which S need not hold. -/
def anyS (P : Program) (main : Bool) (lp : Option Nat) (ops : Array Oper) (Q : Exit → Act → Hp → Prop) (S : Hp → Prop) (t : Nat) : Nat → Array Bool → Act → Hp → Prop
  | 0, listed, a, H => Region.ready .any ops listed = [] ∧ Q .normal a H
  | fuel + 1, listed, a, H =>
    (Region.ready .any ops listed = [] → Q .normal a H) ∧
    ∀ i ∈ Region.ready .any ops listed, numX P main lp ops i Q (fun a' H' => (i = t ∨ S H') ∧ anyS P main lp ops Q S t fuel (listed.setIfInBounds i true) a' H') a H

theorem anyX_of_anyS {t : Nat} : ∀ (fuel : Nat) (listed : Array Bool) (a : Act) (H : Hp), anyS P main lp ops Q S t fuel listed a H → anyX P main lp ops Q (fun _ => True) fuel listed a H
  | 0, _, _, _, h => h
  | fuel + 1, _, _, _, h => ⟨h.1, fun i hi => numX_mono (fun a' H' h' => ⟨trivial, anyX_of_anyS fuel _ a' H' h'.2⟩) (h.2 i hi)⟩

theorem anyS_first {t i : Nat} {oi : Oper} {v : Value} (hi : ops[i]? = some oi) (hsel : ∀ (j : Nat) (o : Oper) cs b, ops[j]? = some o → o.op ≠ .select cs b)
    (hit : i ≠ t) (hdep : t < ops.size → Dep ops t i)
    (hQ : ∀ c a H, Q (.panic c) (a.put oi.dst v) H → Q (.panic c) a H) :
    ∀ (fuel : Nat) (listed : Array Bool) (a : Act) (H : Hp), Closed ops listed →
      (∀ j oj, ops[j]? = some oj → j ≠ i → listed.getD j true = false → (∀ e ∈ oj.after, Region.binds .any e = true → e.on ≠ i) → oi.apart ops oj = true) →
      i ∈ Region.ready .any ops listed → YieldsX P main lp ops S oi v a → S H →
      anyS P main lp ops Q S t fuel (listed.setIfInBounds i true) (a.put oi.dst v) H → anyS P main lp ops Q S t (fuel + 1) listed a H := by
  intro fuel
  induction fuel with
  | zero =>
    intro listed a H _ _ hr hy hS h
    refine ⟨fun h0 => (by rw [h0] at hr; cases hr), fun j hj => ?_⟩
    by_cases hji : j = i
    · subst hji; exact hy.num hi hS ⟨.inr hS, h⟩
    · have := ready_mono hj hji
      rw [h.1] at this
      cases this
  | succ fuel ih =>
    intro listed a H hcl hfree hr hy hS h
    refine ⟨fun h0 => (by rw [h0] at hr; cases hr), fun j hj => ?_⟩
    by_cases hji : j = i
    · subst hji; exact hy.num hi hS ⟨.inr hS, h⟩
    · have h1 := h.2 j (ready_mono hj hji)
      obtain ⟨hjun, oj, hoj, hall⟩ := mem_ready.1 hj
      have hiun : listed.getD i false = false := by
        have h0 := (mem_ready.1 hr).1
        rcases Nat.lt_or_ge i listed.size with h' | h'
        · simpa [h'] using h0
        · simp [Array.getElem?_eq_none h']
      have hjt : j ≠ t := fun e => by
        have hlt : t < ops.size := e ▸ (Array.getElem?_eq_some_iff.1 hoj).1
        have := (hdep hlt).listed hcl (e ▸ hj)
        rw [hiun] at this; cases this
      have hnot : ∀ e ∈ oj.after, Region.binds .any e = true → e.on ≠ i := fun e he hb heq => by
        have h1 := hall e he hb
        rw [heq, hiun] at h1
        cases h1
      have h2 := numX_put hoj (hfree j oj hoj hji hjun hnot) (fun cs b => hsel i oi cs b hi) (fun cs b => hsel j oj cs b hoj) hQ hy h1
      have hfree' : ∀ k ok, ops[k]? = some ok → k ≠ i → (listed.setIfInBounds j true).getD k true = false →
          (∀ e ∈ ok.after, Region.binds .any e = true → e.on ≠ i) → oi.apart ops ok = true := fun k ok hk hki hun hno => by
        refine hfree k ok hk hki ?_ hno
        by_cases hjk : j = k
        · subst hjk; exact hjun
        · rw [getD_set_ne true hjk] at hun; exact hun
      refine numX_mono (fun a' H' h3 => ?_) h2
      obtain ⟨hy', hd, h4⟩ := h3
      have hS' : S H' := hd.resolve_left hjt
      exact ⟨.inr hS', ih (listed.setIfInBounds j true) a' H' (hcl.set hj) hfree' (ready_mono hr (Ne.symm hji)) hy' hS' (by rw [Array.setIfInBounds_comm _ _ hji]; exact h4)⟩

/-- A plan: (true, i): number i is taken first, with the value that it yields; (false, i): number i is the only one that may come up. -/
def planX (P : Program) (main : Bool) (lp : Option Nat) (ops : Array Oper) (Q : Exit → Act → Hp → Prop) (S : Hp → Prop) (t : Nat) : List (Bool × Nat) → Act → Hp → Prop
  | [], a, H => Q .normal a H
  | (true, i) :: rest, a, H => S H ∧ ∃ o, ops[i]? = some o ∧ ∃ v, YieldsX P main lp ops S o v a ∧ planX P main lp ops Q S t rest (a.put o.dst v) H
  | (false, i) :: rest, a, H => numX P main lp ops i Q (fun a' H' => (i = t ∨ S H') ∧ planX P main lp ops Q S t rest a' H') a H

/-- The plan fits the region. -/
def planOK (ops : Array Oper) (t : Nat) (deps : Array Bool) : List (Bool × Nat) → Array Bool → Bool
  | [], listed => (Region.ready .any ops listed).isEmpty
  | (true, i) :: rest, listed => i != t && (!(decide (t < ops.size)) || deps.getD i false) && Region.free .any ops listed i && (Region.ready .any ops listed).contains i && planOK ops t deps rest (listed.setIfInBounds i true)
  | (false, i) :: rest, listed => (Region.ready .any ops listed == [i]) && planOK ops t deps rest (listed.setIfInBounds i true)

theorem planX_sound {t : Nat} {deps : Array Bool} (hdeps : ∀ x, deps.getD x false = true → x = t ∨ Dep ops t x) (hsel : Region.noSelect ops = true)
    (hQ : ∀ c a H d v, Q (.panic c) (a.put d v) H → Q (.panic c) a H) :
    ∀ (plan : List (Bool × Nat)) (fuel : Nat) (listed : Array Bool) (a : Act) (H : Hp), plan.length ≤ fuel → Closed ops listed → planOK ops t deps plan listed = true →
      planX P main lp ops Q S t plan a H → anyS P main lp ops Q S t fuel listed a H
  | [], fuel, listed, a, H, _, _, hok, h => by
    have hr : Region.ready .any ops listed = [] := by simpa [planOK] using hok
    cases fuel with
    | zero => exact ⟨hr, h⟩
    | succ n => exact ⟨fun _ => h, by rw [hr]; simp⟩
  | (true, i) :: rest, 0, _, _, _, hl, _, _, _ => by simp at hl
  | (false, i) :: rest, 0, _, _, _, hl, _, _, _ => by simp at hl
  | (true, i) :: rest, fuel + 1, listed, a, H, hl, hcl, hok, h => by
    simp only [planOK, Bool.and_eq_true, Bool.or_eq_true, bne_iff_ne, ne_eq, Bool.not_eq_true', decide_eq_false_iff_not] at hok
    obtain ⟨⟨⟨⟨hit, hd⟩, hf⟩, hr⟩, hok⟩ := hok
    obtain ⟨hS, o, ho, v, hy, h⟩ := h
    have hr' : i ∈ Region.ready .any ops listed := by simpa using hr
    exact anyS_first ho (Region.noSelect_spec hsel) hit (fun hlt => ((hdeps i (hd.resolve_left (fun hn => hn hlt))).resolve_left hit)) (fun c a H => hQ c a H _ _) fuel listed a H hcl (Region.free_spec ho hf) hr' hy hS
      (planX_sound hdeps hsel hQ rest fuel _ _ _ (by simp at hl; omega) (hcl.set hr') hok h)
  | (false, i) :: rest, fuel + 1, listed, a, H, hl, hcl, hok, h => by
    simp only [planOK, Bool.and_eq_true, beq_iff_eq] at hok
    obtain ⟨hr, hok⟩ := hok
    refine ⟨fun h0 => (by rw [hr] at h0; cases h0), fun j hj => ?_⟩
    have hji : j = i := by rw [hr] at hj; simpa using hj
    subst hji
    exact numX_mono (fun a' H' h' => ⟨h'.1, planX_sound hdeps hsel hQ rest fuel _ _ _ (by simp at hl; omega) (hcl.set hj) hok h'.2⟩) h

/-- THE RULE: a region that draws its order, by a plan. t: the number of the operation behind which S need not hold (the region's size, if there is none). -/
theorem wpX_plan {id : Nat} {a : Act} {H : Hp} (S : Hp → Prop) (t : Nat) (plan : List (Bool × Nat)) (hm : P.follows .mixedOrders = true) (hsel : Region.noSelect ops = true) (hlen : plan.length ≤ ops.size)
    (hok : planOK ops t (marked ops (List.range ops.size).reverse ((Array.replicate ops.size false).setIfInBounds t true)) plan (Array.replicate ops.size false) = true)
    (hQ : ∀ c a H d v, Q (.panic c) (a.put d v) H → Q (.panic c) a H) (h : planX P main lp ops Q S t plan a H) : wpX P main lp (.region id ops true) Q a H := by
  refine wpX_draw (fun _ => True) hm (anyX_of_anyS _ _ _ _ (planX_sound (fun x hx => marked_dep _ _ (fun y hy => ?_) x hx) hsel hQ plan _ _ _ _ hlen .start hok h))
  by_cases hyt : t = y
  · exact .inl hyt.symm
  · rw [getD_set_ne false hyt] at hy
    by_cases hlt : y < ops.size <;> simp [Array.getD, hlt] at hy
end
end Go.X
end
section
/- A function's contract: its body, its deferred calls, its results; how it is entered. -/
namespace Go.X
open Go
open Go.Conc (G base)

/-- A frame on its way out. -/
def Leaving (P : Program) (fr : Frame) (H : Hp) (R : Ending → Hp → Prop) : Prop :=
  (fr.mode = .returning ∧ fr.defers = [] ∧ fr.kind = .normal ∧ ∃ fn, P.funcs[fr.fn]? = some fn ∧ wpS P (results fn fr.tmps) H (fun v H' => R (.returned v) H') fun _ _ => False) ∨
  (∃ ch, fr.mode = .panicking ch ∧ fr.defers = [] ∧ fr.kind = .normal ∧ (∃ fn, P.funcs[fr.fn]? = some fn) ∧ R (.panicked ch) H)

/-- A CONTRACT: entered with these arguments, function f comes to its end so. -/
def FnX (P : Program) (main : Bool) (f : FuncId) (args : Array Value) (H : Hp) (R : Ending → Hp → Prop) : Prop :=
  ∀ (cs : List Frame) (Stop : Goroutine → Hp → Prop), (∀ fr H', fr.fn = f → Leaving P fr H' R → WPG P main Stop (G fr cs) H') → WPG P main Stop (G (Frame.enter P f args .normal) cs) H

/-- .. by a value. -/
def FnV (P : Program) (main : Bool) (f : FuncId) (args : Array Value) (H : Hp) (R : Value → Hp → Prop) : Prop :=
  FnX P main f args H fun
    | .returned v, H' => R v H'
    | _, _ => False

section
variable {P : Program} {main : Bool} {Stop : Goroutine → Hp → Prop}

theorem Leaving.mono {fr : Frame} {H : Hp} {R R' : Ending → Hp → Prop} (h : Leaving P fr H R) (hr : ∀ e H, R e H → R' e H) : Leaving P fr H R' := by
  rcases h with ⟨hm, hd, hk, fn, hf, h⟩ | ⟨ch, hm, hd, hk, hf, h⟩
  · exact .inl ⟨hm, hd, hk, fn, hf, wpS_mono h (fun v H' r => hr _ _ r) fun _ _ h => h⟩
  · exact .inr ⟨ch, hm, hd, hk, hf, hr _ _ h⟩

theorem FnX.mono {f : FuncId} {args : Array Value} {H : Hp} {R R' : Ending → Hp → Prop} (h : FnX P main f args H R) (hr : ∀ e H, R e H → R' e H) : FnX P main f args H R' :=
  fun cs Stop hc => h cs Stop fun fr H' hf hl => hc fr H' hf (hl.mono hr)

theorem FnV.mono {f : FuncId} {args : Array Value} {H : Hp} {R R' : Value → Hp → Prop} (h : FnV P main f args H R) (hr : ∀ v H, R v H → R' v H) : FnV P main f args H R' :=
  FnX.mono h fun e H' he => by
    cases e with
    | returned v => exact hr v H' he
    | panicked ch => exact he
    | outgrown => exact he

theorem FnX.more {f : FuncId} {args : Array Value} {H H' : Hp} {R : Ending → Hp → Prop} (h : FnX P main f args H R) (hl : H.le H') : FnX P main f args H' R :=
  fun cs Stop hc => (h cs Stop hc).more hl

/-- One step whose outcome is that of a tree. -/
theorem WPG.tree {α : Type} {g : Goroutine} {H : Hp} {s : Sem α} {K : α → Hp → Prop} {E : Value → Hp → Prop} (hs : g.status = .running) (h : wpS P s H K E) (T : Goroutine → Hp → Prop)
    (hok : ∀ (w w' : World) (H' : Hp) (es : Array Event) (a : α), s.runT P w #[] = (.ok a w', es) → Moves H w es H' w' → K a H' → ∃ g' es', stepG P main g w = .go g' w' es' ∧ (∀ e ∈ es', e ∈ es) ∧ T g' H')
    (hpan : ∀ (w w' : World) (H' : Hp) (es : Array Event) (v : Value), s.runT P w #[] = (.halt (.panic v) w', es) → Moves H w es H' w' → E v H' → ∃ g' es', stepG P main g w = .go g' w' es' ∧ (∀ e ∈ es', e ∈ es) ∧ T g' H')
    (ht : ∀ g' H', T g' H' → WPG P main Stop g' H') : WPG P main Stop g H := by
  refine .step T hs (fun w hw => ?_) ht
  obtain ⟨es, w', H', hm, r, hr, hd⟩ := wpS_sound s w hw h
  have hr0 : s.runT P w #[] = (r, es) := by rw [hr #[]]; simp
  rcases hd with ⟨a, rfl, hk⟩ | ⟨v, rfl, he⟩
  · obtain ⟨g', es', h1, h2, h3⟩ := hok w w' H' es a hr0 hm hk
    exact ⟨g', w', es', H', h1, { hm with evs := fun e x => hm.evs e (h2 e x) }, h3⟩
  · obtain ⟨g', es', h1, h2, h3⟩ := hpan w w' H' es v hr0 hm he
    exact ⟨g', w', es', H', h1, { hm with evs := fun e x => hm.evs e (h2 e x) }, h3⟩

/-- The step back into the caller. -/
theorem Leaving.back {fr : Frame} {c : Frame} {cs : List Frame} {H : Hp} {R : Ending → Hp → Prop} (h : Leaving P fr H R)
    (hv : ∀ v H', R (.returned v) H' → WPG P main Stop (G (c.finish v) cs) H') (hp : ∀ ch H', R (.panicked ch) H' → WPG P main Stop (G (c.raise ch) cs) H') :
    WPG P main Stop (G fr (c :: cs)) H := by
  rcases h with ⟨hm, hd, hk, fn, hf, h⟩ | ⟨ch, hm, hd, hk, ⟨fn, hf⟩, h⟩
  · refine WPG.tree rfl h (fun g' H' => ∃ v, g' = G (c.finish v) cs ∧ R (.returned v) H') (fun w w' H' es v hr _ hk' => ?_) (fun _ _ _ _ _ _ _ he => he.elim) ?_
    · refine ⟨_, seen P fr.fn es, ?_, fun e => mem_seen, v, rfl, hk'⟩
      simp [G, stepG, unwind, doReturn, hm, hd, hk, hf, hr, GStep.after, -Sem.runT_eq]
    · rintro g' H' ⟨v, rfl, r⟩; exact hv v H' r
  · refine .ctl (g' := G (c.raise ch) cs) rfl (fun w => ?_) (hp ch H h)
    simp [G, stepG, unwind, Frame.catches, hm, hd, hf]

/-- On top of a caller. -/
theorem FnX.runs {f : FuncId} {args : Array Value} {H : Hp} {R : Ending → Hp → Prop} (h : FnX P main f args H R) : Runs P main (Frame.enter P f args .normal) H R :=
  fun c cs Stop hv hp => h (c :: cs) Stop fun _ _ _ hl => hl.back hv hp

/-- A DEFERRED CALL that is made while the frame is on its way out in this mode; the frame's mode behind it. -/
def DefX (P : Program) (main : Bool) (m : FrameMode) (d : Deferred) (H : Hp) (R : FrameMode → Hp → Prop) : Prop :=
  ∀ (c : Frame) (cs : List Frame) (Stop : Goroutine → Hp → Prop), c.mode = m → (∀ m' H', R m' H' → WPG P main Stop (G { c with mode := m' } cs) H') → WPG P main Stop (G { c with defers := d :: c.defers } cs) H

/-- What is asked of a frame on its way out in mode m, these calls deferred. -/
def LeaveX (P : Program) (main : Bool) (fn : Func) (tmps : Array Value) (R : Ending → Hp → Prop) : List Deferred → FrameMode → Hp → Prop
  | [], .returning, H => wpS P (results fn tmps) H (fun v H' => R (.returned v) H') fun _ _ => False
  | [], .panicking ch, H => R (.panicked ch) H
  | [], .run, _ => False
  | d :: ds, m, H => DefX P main m d H fun m' H' => LeaveX P main fn tmps R ds m' H'

/-- What a body must come to. -/
def bodyX (P : Program) (main : Bool) (fn : Func) (R : Ending → Hp → Prop) : Exit → Act → Hp → Prop
  | .normal, a, H | .ret, a, H => LeaveX P main fn a.tmps R a.defers .returning H
  | .panic ch, a, H => LeaveX P main fn a.tmps R a.defers (.panicking ch) H
  | _, _, _ => False

theorem LeaveX.go {f : FuncId} {fn : Func} {tmps : Array Value} {R : Ending → Hp → Prop} (hf : P.funcs[f]? = some fn) {cs : List Frame}
    (hc : ∀ fr H', fr.fn = f → Leaving P fr H' R → WPG P main Stop (G fr cs) H') : ∀ (ds : List Deferred) (m : FrameMode) (H : Hp) (fr : Frame), fr.fn = f → fr.tmps = tmps → fr.kind = .normal → fr.mode = m → fr.defers = ds →
    LeaveX P main fn tmps R ds m H → WPG P main Stop (G fr cs) H
  | [], .returning, H, fr, h1, h2, h3, h4, h5, h => hc fr H h1 (.inl ⟨h4, h5, h3, fn, by rw [h1]; exact hf, by rw [h2]; exact h⟩)
  | [], .panicking ch, H, fr, h1, _, h3, h4, h5, h => hc fr H h1 (.inr ⟨ch, h4, h5, h3, ⟨fn, by rw [h1]; exact hf⟩, h⟩)
  | [], .run, _, _, _, _, _, _, _, h => h.elim
  | d :: ds, m, H, fr, h1, h2, h3, h4, h5, h => by
    have he : fr = { ({ fr with defers := ds } : Frame) with defers := d :: ({ fr with defers := ds } : Frame).defers } := by
      cases fr; simp at h5; simp [h5]
    rw [he]
    refine h { fr with defers := ds } cs Stop h4 fun m' H' r => ?_
    exact LeaveX.go hf hc ds m' H' { { fr with defers := ds } with mode := m' } h1 h2 h3 rfl rfl r

/-- HOW A CONTRACT IS PROVED: by its body. -/
theorem FnX_of {f : FuncId} {fn : Func} {c : Code} {args : Array Value} {H : Hp} {R : Ending → Hp → Prop} (hf : P.funcs[f]? = some fn) (hb : fn.body = some c)
    (h : wpX P main none c (bodyX P main fn R) { tmps := args ++ Array.replicate (fn.ntmps - args.size) undef, defers := [] } H) : FnX P main f args H R := by
  intro cs Stop hc
  have he : Frame.enter P f args .normal = fat (base f) { tmps := args ++ Array.replicate (fn.ntmps - args.size) undef, defers := [] } [.code c] := by
    simp [Frame.enter, fat, hf, hb, base]; rfl
  rw [he]
  have hret : ∀ (a' : Act) (H' : Hp) (k' : List Item), LeaveX P main fn a'.tmps R a'.defers .returning H' → WPG P main Stop (G { fat (base f) a' k' with mode := .returning } cs) H' := fun a' H' k' q =>
    LeaveX.go hf hc a'.defers .returning H' _ rfl rfl rfl rfl rfl q
  refine h (base f) [] cs Stop (by simp [base]) rfl fun e a' H' q => ?_
  cases e with
  | normal => exact .ctl (g' := G { fat (base f) a' [] with mode := .returning } cs) rfl (fun w => by simp [G, stepG, stepG.exec, fat, base]; rfl) (hret a' H' _ q)
  | ret => exact fun k' => .ctl (g' := G { fat (base f) a' (.code .ret :: k') with mode := .returning } cs) rfl (fun w => by simp [G, stepG, stepG.exec, fat, base]; rfl) (hret a' H' _ q)
  | panic ch => exact fun k' => LeaveX.go hf hc a'.defers (.panicking ch) H' _ rfl rfl rfl rfl rfl q
  | exit id => exact q.elim
  | goto l => exact q.elim
  | outgrown => exact q.elim

end
end Go.X
end
section
/- How the operations of straight code are reckoned: equations for simp. -/
namespace Go.X
open Go

/-- The temporaries as a function. -/
def upd (e : Nat → Value) (d : Nat) (v : Value) : Nat → Value := fun t => if t = d then v else e t
def act (n : Nat) (e : Nat → Value) (ds : List Deferred) : Act := { tmps := Array.ofFn fun i : Fin n => e i, defers := ds }

section
variable {n : Nat} {e : Nat → Value} {ds : List Deferred}

theorem act_size : (act n e ds).tmps.size = n := by simp [act]
theorem act_defers : (act n e ds).defers = ds := rfl
theorem act_get {t : Nat} (h : t < n) : (act n e ds).tmps.getD t undef = e t := by simp [act, Array.getD, h]
theorem act_get? {t : Nat} (h : t < n) : (act n e ds).tmps[t]? = some (e t) := by simp [act, h]
theorem act_eval {t : Nat} (h : t < n) : (act n e ds).eval (.tmp t) = e t := act_get h
theorem act_put {d : Nat} {v : Value} (h : d < n) : (act n e ds).put (some d) v = act n (upd e d v) ds := by
  simp only [act, Act.put, Act.mk.injEq, and_true]
  apply Array.ext
  · simp
  · intro i h1 h2
    simp at h1 h2
    by_cases hi : i = d
    · subst hi; simp [upd]
    · rw [Array.getElem_setIfInBounds_ne (by simpa using h1) (fun h => hi h.symm)]
      simp [upd, hi]
theorem act_put_none {v : Value} : (act n e ds).put none v = act n e ds := rfl
theorem act_defer {d : Deferred} : ({ act n e ds with defers := d :: (act n e ds).defers } : Act) = act n e (d :: ds) := rfl

theorem eval_const (a : Act) (v : Value) : a.eval (.const v) = v := rfl
theorem eval_func (a : Act) (f : FuncId) : a.eval (.func f) = .func (.func f) #[] #[] := rfl
theorem eval_global (a : Act) (g : Nat) : a.eval (.global g) = .pointer (some ⟨g, 0, none⟩) := rfl

theorem upd_same {d : Nat} {v : Value} : upd e d v d = v := by simp [upd]
theorem upd_get {d t : Nat} {v : Value} : upd e d v t = if t = d then v else e t := rfl

/-- The temporaries at a function's beginning. -/
def envOf (args : List Value) : Nat → Value := fun t => args.getD t undef
theorem envOf_zero (v : Value) (l : List Value) : envOf (v :: l) 0 = v := rfl
theorem envOf_succ (v : Value) (l : List Value) (t : Nat) : envOf (v :: l) (t + 1) = envOf l t := rfl
theorem envOf_nil (t : Nat) : envOf [] t = undef := by simp [envOf]

theorem enter_act {args : List Value} (h : args.length ≤ n) : ({ tmps := args.toArray ++ Array.replicate (n - args.toArray.size) undef, defers := [] } : Act) = act n (envOf args) [] := by
  simp only [act, Act.mk.injEq, and_true]
  apply Array.ext
  · simp; omega
  · intro i h1 h2
    simp at h1 h2
    simp only [Array.getElem_ofFn, envOf]
    by_cases hi : i < args.length
    · simp [hi]
    · simp [Array.getElem_append, hi]
end

section
variable {P : Program} {main : Bool} {lp : Option Nat} {Q : Exit → Act → Hp → Prop} {H : Hp} {n : Nat} {e : Nat → Value} {ds : List Deferred}

/-- HOW A CONTRACT IS PROVED, over the temporaries as a function. -/
theorem FnX_start {f : FuncId} {fn : Func} {c : Code} {args : List Value} {R : Ending → Hp → Prop} (hf : P.funcs[f]? = some fn) (hb : fn.body = some c) (hn : fn.ntmps = n) (ha : args.length ≤ n)
    (h : wpX P main none c (bodyX P main fn R) (act n (envOf args) []) H) : FnX P main f args.toArray H R := by
  refine FnX_of hf hb ?_
  rw [hn, enter_act ha]
  exact h

/-- A region's operations one by one, over the list of operations still to come (no guard among them). -/
theorem bodyX_ret {fn : Func} {R : Ending → Hp → Prop} : bodyX P main fn R .ret (act n e []) H = wpS P (results fn (act n e []).tmps) H (fun v H' => R (.returned v) H') fun _ _ => False := rfl
theorem bodyX_normal {fn : Func} {R : Ending → Hp → Prop} : bodyX P main fn R .normal (act n e []) H = wpS P (results fn (act n e []).tmps) H (fun v H' => R (.returned v) H') fun _ _ => False := rfl

theorem wpS_pure {α : Type} (a : α) (K : α → Hp → Prop) (E : Value → Hp → Prop) : wpS P (pure a) H K E = K a H := rfl
theorem wpS_pure' {α : Type} (a : α) (K : α → Hp → Prop) (E : Value → Hp → Prop) : wpS P (Sem.pure a) H K E = K a H := rfl
theorem wpS_bind' {α β : Type} (s : Sem α) (f : α → Sem β) (K : β → Hp → Prop) (E : Value → Hp → Prop) :
    wpS P (s >>= f) H K E = wpS P s H (fun a H' => wpS P (f a) H' K E) E := propext (wpS_bind s f H K E)
theorem wpS_map {α β : Type} (s : Sem α) (f : α → β) (K : β → Hp → Prop) (E : Value → Hp → Prop) :
    wpS P (f <$> s) H K E = wpS P s H (fun a H' => K (f a) H') E := wpS_bind' s _ K E
theorem wpS_ite {α : Type} (c : Prop) [Decidable c] (x y : Sem α) (K : α → Hp → Prop) (E : Value → Hp → Prop) : wpS P (if c then x else y) H K E = if c then wpS P x H K E else wpS P y H K E := by split <;> rfl

/-! ### look-ups in the tables -/
theorem wpS_underlying {t : TypeId} {d : TypeDesc} (h : P.underlying t = some d) (K : TypeDesc → Hp → Prop) (E : Value → Hp → Prop) : wpS P (underlying t) H K E = K d H := by
  change wpS P (match P.underlying t with | some d => pure d | none => stuck _) H K E = _
  rw [h]; rfl
theorem wpS_typeInfo {t : TypeId} {i : TypeInfo} (h : P.info? t = some i) (K : TypeInfo → Hp → Prop) (E : Value → Hp → Prop) : wpS P (typeInfo t) H K E = K i H := by
  change wpS P (match P.info? t with | some d => pure d | none => stuck _) H K E = _
  rw [h]; rfl

theorem info_of_run {t : TypeId} {i : TypeInfo} (h : ∀ w, (typeInfo t).run P w = .ok i w) : P.info? t = some i := by
  have h := h default
  change (match P.info? t with | some d => (pure d : Sem TypeInfo) | none => stuck _).run P default = _ at h
  cases hi : P.info? t with
  | none => rw [hi] at h; exact absurd h (by simp [stuck])
  | some j => rw [hi] at h; simp only [pure, Sem.run, Result.ok.injEq] at h; rw [h.1]

theorem wpS_sizeOf {t : TypeId} {k : Nat} (h : ∀ w, (sizeOf t).run P w = .ok k w) (K : Nat → Hp → Prop) (E : Value → Hp → Prop) : wpS P (sizeOf t) H K E = K k H := by
  have h := h default
  change ((match P.info? t with | some d => (pure d : Sem TypeInfo) | none => stuck _).bind fun i => pure i.size).run P default = _ at h
  change wpS P ((match P.info? t with | some d => (pure d : Sem TypeInfo) | none => stuck _).bind fun i => pure i.size) H K E = _
  cases hi : P.info? t with
  | none => rw [hi] at h; exact absurd h (by simp [stuck, Sem.bind])
  | some j => rw [hi] at h; simp only [pure, Sem.run, Sem.bind, Result.ok.injEq] at h; rw [← h.1]; rfl

theorem wpS_zeroValue {t : TypeId} {z : Value} (h : ∀ w, (zeroValue t).run P w = .ok z w) (K : Value → Hp → Prop) (E : Value → Hp → Prop) : wpS P (zeroValue t) H K E = K z H := by
  have h := h default
  change ((match P.info? t with | some d => (pure d : Sem TypeInfo) | none => stuck _).bind fun i => match i.zero with | some v => pure v | none => unsupported _).run P default = _ at h
  change wpS P ((match P.info? t with | some d => (pure d : Sem TypeInfo) | none => stuck _).bind fun i => match i.zero with | some v => pure v | none => unsupported _) H K E = _
  cases hi : P.info? t with
  | none => rw [hi] at h; exact absurd h (by simp [stuck, Sem.bind])
  | some j =>
    rw [hi] at h
    cases hz : j.zero with
    | none => simp only [pure, Sem.bind, hz] at h; exact absurd h (by simp [unsupported])
    | some v => simp only [pure, Sem.run, Sem.bind, hz, Result.ok.injEq] at h; simp only [pure, Sem.bind, hz, wpS]; rw [h.1]

def aggB : TypeDesc → Bool
  | .struct _ => true
  | .array _ _ => true
  | _ => false
theorem wpS_isAgg {t : TypeId} {d : TypeDesc} (h : P.underlying t = some d) (K : Bool → Hp → Prop) (E : Value → Hp → Prop) :
    wpS P (isAgg t) H K E = K (aggB d) H := by
  unfold isAgg
  rw [wpS_bind', wpS_underlying h]
  cases d <;> rfl

theorem wpS_callFunc {f : FuncId} {fn : Func} (hf : P.funcs[f]? = some fn) (hn : (fn.name == "runtime.NumGoroutine") = false) (hb : fn.body.isNone = false) (args : Array Value) (K : Next → Hp → Prop) (E : Value → Hp → Prop) :
    wpS P (callFunc f args) H K E = K (.enter f args) H := by
  unfold callFunc
  rw [wpS_bind']
  change wpS P (match P.funcs[f]? with | none => _ | some fn => _) H K E = _
  rw [hf]
  simp only [hn, hb, Bool.false_eq_true, if_false]
  rfl

/-! ### operations -/
def pickK (P : Program) (c x y : Value) (H : Hp) (K : Next → Hp → Prop) (E : Value → Hp → Prop) : Prop := wpS P (do pure (.value (if ← asBool c then x else y)) : Sem Next) H K E
theorem pickK_bool (t : Bool) (x y : Value) (K : Next → Hp → Prop) (E : Value → Hp → Prop) : pickK P (.bool t) x y H K E = K (.value (if t then x else y)) H := by cases t <;> rfl
def nilK (P : Program) (v : Value) (H : Hp) (K : Next → Hp → Prop) (E : Value → Hp → Prop) : Prop := wpS P (execOp (fun _ => v) ⟨none, .nilCheck (.tmp 0), 0, default, #[], none⟩) H K E
theorem nilK_ptr (a : Addr) (K : Next → Hp → Prop) (E : Value → Hp → Prop) : nilK P (.pointer (some a)) H K E = K (.value (.pointer (some a))) H := rfl
theorem nilK_func (f : FuncId) (fi cap : Array Value) (K : Next → Hp → Prop) (E : Value → Hp → Prop) : nilK P (.func (.func f) fi cap) H K E = K (.value (.func (.func f) fi cap)) H := rfl
theorem nilK_yield (l : Nat) (fi cap : Array Value) (K : Next → Hp → Prop) (E : Value → Hp → Prop) : nilK P (.func (.yield l) fi cap) H K E = K (.value (.func (.yield l) fi cap)) H := rfl
def callK (P : Program) (v : Value) (args : Array Value) (H : Hp) (K : Next → Hp → Prop) (E : Value → Hp → Prop) : Prop := wpS P (do let d ← Deferred.ofValue v args; invoke d.target d.args) H K E
theorem callK_func (f : FuncId) (fi cap args : Array Value) (K : Next → Hp → Prop) (E : Value → Hp → Prop) : callK P (.func (.func f) fi cap) args H K E = wpS P (callFunc f (fi ++ args ++ cap)) H K E := by
  simp only [callK, Deferred.ofValue]; rw [wpS_bind']; rfl
section ex
variable (ρ : Operand → Value) (d : Option Tmp) (ty : TypeId) (pos : String) (af : Array Edge) (g : Option (Nat × Bool)) (K : Next → Hp → Prop) (E : Value → Hp → Prop)

theorem ex_move (x : Operand) : wpS P (execOp ρ ⟨d, .move x, ty, pos, af, g⟩) H K E = K (.value (ρ x)) H := rfl
theorem ex_assign (x : Operand) : wpS P (execOp ρ ⟨d, .assign x, ty, pos, af, g⟩) H K E = K (.value (ρ x)) H := rfl
theorem ex_pick (c x y : Operand) : wpS P (execOp ρ ⟨d, .pick c x y, ty, pos, af, g⟩) H K E = pickK P (ρ c) (ρ x) (ρ y) H K E := rfl
theorem ex_box (t : TypeId) (x : Operand) : wpS P (execOp ρ ⟨d, .box t x, ty, pos, af, g⟩) H K E = ∀ b, H b = none → K (.value (.pointer (some ⟨b, 0, none⟩))) (H.set b (.cells (ρ x).cells t (0, 0))) := rfl
theorem ex_alloc {t : TypeId} {z : Value} (h : ∀ w, (zeroValue t).run P w = .ok z w) : wpS P (execOp ρ ⟨d, .alloc t, ty, pos, af, g⟩) H K E = ∀ b, H b = none → K (.value (.pointer (some ⟨b, 0, none⟩))) (H.set b (.cells z.cells t (0, 0))) := by
  simp only [execOp, Instr.alloc]
  rw [wpS_bind', wpS_bind', wpS_zeroValue h]
  rfl
theorem ex_load (t : TypeId) (x : Operand) : wpS P (execOp ρ ⟨d, .load t x, ty, pos, af, g⟩) H K E = wpS P (Instr.loadAt t (ρ x)) H (fun v H' => K (.value v) H') E := wpS_bind' _ _ _ _
theorem ex_store (t : TypeId) (x y : Operand) : wpS P (execOp ρ ⟨d, .store t x y, ty, pos, af, g⟩) H K E = wpS P (Instr.storeAt t (ρ x) (ρ y)) H (fun _ H' => K .skip H') E := wpS_bind' _ _ _ _
theorem ex_fieldAddr (t : TypeId) (x : Operand) (i : Nat) : wpS P (execOp ρ ⟨d, .fieldAddr t x i, ty, pos, af, g⟩) H K E = wpS P (Instr.fieldAt t (ρ x) i) H (fun v H' => K (.value v) H') E := wpS_bind' _ _ _ _
theorem ex_field (t : TypeId) (x : Operand) (i : Nat) : wpS P (execOp ρ ⟨d, .field t x i, ty, pos, af, g⟩) H K E = wpS P (Instr.field t (ρ x) i) H (fun v H' => K (.value v) H') E := wpS_bind' _ _ _ _
theorem ex_indexAddr (t : TypeId) (x y : Operand) : wpS P (execOp ρ ⟨d, .indexAddr t x y, ty, pos, af, g⟩) H K E = wpS P (Instr.indexAt t (ρ x) (ρ y)) H (fun v H' => K (.value v) H') E := wpS_bind' _ _ _ _
theorem ex_index (t : TypeId) (x y : Operand) : wpS P (execOp ρ ⟨d, .index t x y, ty, pos, af, g⟩) H K E = wpS P (Instr.index t (ρ x) (ρ y)) H (fun v H' => K (.value v) H') E := wpS_bind' _ _ _ _
theorem ex_extract (x : Operand) (i : Nat) : wpS P (execOp ρ ⟨d, .extract x i, ty, pos, af, g⟩) H K E = wpS P (Instr.extract (ρ x) i) H (fun v H' => K (.value v) H') E := wpS_bind' _ _ _ _
theorem ex_nil (x : Operand) : wpS P (execOp ρ ⟨d, .nilCheck x, ty, pos, af, g⟩) H K E = nilK P (ρ x) H K E := rfl
theorem ex_bin (op : BinOp) (t u : TypeId) (x y : Operand) : wpS P (execOp ρ ⟨d, .binOp op t x y u, ty, pos, af, g⟩) H K E = wpS P (eqGuard op t x y (ρ x) (ρ y)) H (fun _ H' => wpS P (binOp op t (ρ x) (ρ y)) H' (fun v H₁ => K (.value v) H₁) E) E := by
  simp only [execOp]; rw [wpS_bind', wpS_bind']; rfl
theorem ex_un (op : UnOp) (t : TypeId) (x : Operand) : wpS P (execOp ρ ⟨d, .unOp op t x, ty, pos, af, g⟩) H K E = wpS P (Op.unary op (ρ x)) H (fun v H' => K (.value v) H') E := wpS_bind' _ _ _ _
theorem ex_convert (s t : TypeId) (x : Operand) : wpS P (execOp ρ ⟨d, .convert s t x, ty, pos, af, g⟩) H K E = wpS P (convert s t (ρ x)) H (fun v H' => K (.value v) H') E := wpS_bind' _ _ _ _
theorem ex_makeInterface (t : TypeId) (x : Operand) : wpS P (execOp ρ ⟨d, .makeInterface t x, ty, pos, af, g⟩) H K E = wpS P (Instr.makeInterface t (ρ x)) H (fun v H' => K (.value v) H') E := wpS_bind' _ _ _ _
theorem ex_makeFunc (f : Fn) (fi cap : Array Operand) : wpS P (execOp ρ ⟨d, .makeFunc f fi cap, ty, pos, af, g⟩) H K E = K (.value (.func f (fi.map ρ) (cap.map ρ))) H := rfl
theorem ex_makeMap (t : TypeId) : wpS P (execOp ρ ⟨d, .makeMap t none, ty, pos, af, g⟩) H K E = ∀ b, H b = none → K (.value (.map (some b))) (H.set b (.map #[] 0)) := rfl
theorem ex_slice (t : TypeId) (x : Operand) (l h m : Option Operand) : wpS P (execOp ρ ⟨d, .slice t x l h m, ty, pos, af, g⟩) H K E = wpS P (Instr.sliceAt t (ρ x) (l.map ρ) (h.map ρ) (m.map ρ)) H (fun v H' => K (.value v) H') E := wpS_bind' _ _ _ _
theorem ex_makeSlice (t : TypeId) (x y : Operand) : wpS P (execOp ρ ⟨d, .makeSlice t x y, ty, pos, af, g⟩) H K E = wpS P (Instr.makeSlice t (ρ x) (ρ y)) H (fun v H' => K (.value v) H') E := wpS_bind' _ _ _ _
theorem ex_build (t : TypeId) (ps : Array (Nat × Operand)) : wpS P (execOp ρ ⟨d, .build t ps, ty, pos, af, g⟩) H K E = wpS P (Instr.build t (ps.map fun (i, x) => (i, ρ x))) H (fun v H' => K (.value v) H') E := wpS_bind' _ _ _ _
theorem ex_buildSlice (t : TypeId) (k : Nat) (ps : Array (Nat × Operand)) : wpS P (execOp ρ ⟨d, .buildSlice t k ps, ty, pos, af, g⟩) H K E = wpS P (Instr.buildSlice t k (ps.map fun (i, x) => (i, ρ x))) H (fun v H' => K (.value v) H') E := wpS_bind' _ _ _ _
theorem ex_lookup (t : TypeId) (x y : Operand) (ok : Bool) : wpS P (execOp ρ ⟨d, .lookup t x y ok, ty, pos, af, g⟩) H K E = wpS P (Instr.lookup t (ρ x) (ρ y) ok) H (fun v H' => K (.value v) H') E := wpS_bind' _ _ _ _
theorem ex_mapUpdate (t : TypeId) (x y z : Operand) : wpS P (execOp ρ ⟨d, .mapUpdate t x y z, ty, pos, af, g⟩) H K E = wpS P (Instr.mapUpdate t (ρ x) (ρ y) (ρ z)) H (fun _ H' => K .skip H') E := wpS_bind' _ _ _ _
theorem ex_typeAssert (x : Operand) (s t : TypeId) (ok : Bool) : wpS P (execOp ρ ⟨d, .typeAssert x s t ok, ty, pos, af, g⟩) H K E = wpS P (Instr.typeAssert (ρ x) s t ok) H (fun v H' => K (.value v) H') E := wpS_bind' _ _ _ _
theorem ex_builtin (b : Builtin) (args : Array Operand) (ats : Array TypeId) : wpS P (execOp ρ ⟨d, .call ⟨.builtin b, args, ats⟩, ty, pos, af, g⟩) H K E = wpS P (builtin b ats ty (args.map fun | .const _ => true | _ => false) (args.map ρ)) H K E := by
  simp only [execOp, resolve]; rw [wpS_bind']; rfl
theorem ex_defer (c : Call) : wpS P (execOp ρ ⟨d, .defer c, ty, pos, af, g⟩) H K E = wpS P (resolve ρ c ty) H (fun x H' => K (.defer x) H') E := wpS_bind' _ _ _ _
end ex

/-- A call of a function by its name. -/
theorem ex_callF (a : Act) (d : Option Tmp) (ty : TypeId) (pos : String) (af : Array Edge) (g : Option (Nat × Bool)) (K : Next → Hp → Prop) (E : Value → Hp → Prop) {f : FuncId} {args : Array Operand} {ats : Array TypeId} :
    wpS P (execOp a.eval ⟨d, .call ⟨.value (.func f), args, ats⟩, ty, pos, af, g⟩) H K E = wpS P (callFunc f (args.map a.eval)) H K E := by
  simp only [execOp, resolve, eval_func, Deferred.ofValue]
  rw [wpS_bind']
  simp only [wpS_pure, invoke, Array.append_empty, Array.empty_append]
/-- A call of a function value. -/
theorem ex_callV (a : Act) (d : Option Tmp) (ty : TypeId) (pos : String) (af : Array Edge) (g : Option (Nat × Bool)) (K : Next → Hp → Prop) (E : Value → Hp → Prop) {t : Tmp} {args : Array Operand} {ats : Array TypeId} :
    wpS P (execOp a.eval ⟨d, .call ⟨.value (.tmp t), args, ats⟩, ty, pos, af, g⟩) H K E = callK P (a.eval (.tmp t)) (args.map a.eval) H K E := rfl

/-! ### integers -/
theorem bin_add (t : TypeId) (k : IntKind) (x y : Int) (K : Value → Hp → Prop) (E : Value → Hp → Prop) : wpS P (binOp .add t (.int k x) (.int k y)) H K E = K (.int k (k.wrap (x + y))) H := by simp [binOp, Op.intArith, wpS_pure]
theorem bin_sub (t : TypeId) (k : IntKind) (x y : Int) (K : Value → Hp → Prop) (E : Value → Hp → Prop) : wpS P (binOp .sub t (.int k x) (.int k y)) H K E = K (.int k (k.wrap (x - y))) H := by simp [binOp, Op.intArith, wpS_pure]
theorem bin_mul (t : TypeId) (k : IntKind) (x y : Int) (K : Value → Hp → Prop) (E : Value → Hp → Prop) : wpS P (binOp .mul t (.int k x) (.int k y)) H K E = K (.int k (k.wrap (x * y))) H := by simp [binOp, Op.intArith, wpS_pure]
theorem bin_rem (t : TypeId) (k : IntKind) (x y : Int) (K : Value → Hp → Prop) (E : Value → Hp → Prop) (h : y ≠ 0) : wpS P (binOp .rem t (.int k x) (.int k y)) H K E = K (.int k (x.tmod y)) H := by simp [binOp, Op.intDiv, wpS_pure, h]
theorem bin_quo (t : TypeId) (k : IntKind) (x y : Int) (K : Value → Hp → Prop) (E : Value → Hp → Prop) (h : y ≠ 0) : wpS P (binOp .quo t (.int k x) (.int k y)) H K E = K (.int k (k.wrap (x.tdiv y))) H := by simp [binOp, Op.intDiv, wpS_pure, h]
def bitv (f : (n : Nat) → BitVec n → BitVec n → BitVec n) (k : IntKind) (x y : Int) : Int := k.wrap (f k.bits (BitVec.ofInt k.bits x) (BitVec.ofInt k.bits y)).toNat
theorem bin_and (t : TypeId) (k : IntKind) (x y : Int) (K : Value → Hp → Prop) (E : Value → Hp → Prop) : wpS P (binOp .and t (.int k x) (.int k y)) H K E = K (.int k (bitv (fun _ a b => a &&& b) k x y)) H := by simp [binOp, Op.intBits, wpS_pure, bitv]
theorem bin_or (t : TypeId) (k : IntKind) (x y : Int) (K : Value → Hp → Prop) (E : Value → Hp → Prop) : wpS P (binOp .or t (.int k x) (.int k y)) H K E = K (.int k (bitv (fun _ a b => a ||| b) k x y)) H := by simp [binOp, Op.intBits, wpS_pure, bitv]
theorem bin_xor (t : TypeId) (k : IntKind) (x y : Int) (K : Value → Hp → Prop) (E : Value → Hp → Prop) : wpS P (binOp .xor t (.int k x) (.int k y)) H K E = K (.int k (bitv (fun _ a b => a ^^^ b) k x y)) H := by simp [binOp, Op.intBits, wpS_pure, bitv]
theorem bin_andNot (t : TypeId) (k : IntKind) (x y : Int) (K : Value → Hp → Prop) (E : Value → Hp → Prop) : wpS P (binOp .andNot t (.int k x) (.int k y)) H K E = K (.int k (bitv (fun _ a b => a &&& ~~~b) k x y)) H := by simp [binOp, Op.intBits, wpS_pure, bitv]
theorem bin_shl (t : TypeId) (k j : IntKind) (x y : Int) (K : Value → Hp → Prop) (E : Value → Hp → Prop) (h : 0 ≤ y) : wpS P (binOp .shl t (.int k x) (.int j y)) H K E = K (.int k (k.wrap (x * 2 ^ (min y.toNat k.bits)))) H := by
  have : ¬ y < 0 := by omega
  simp [binOp, Op.shift, wpS_pure, this]
theorem bin_shr (t : TypeId) (k j : IntKind) (x y : Int) (K : Value → Hp → Prop) (E : Value → Hp → Prop) (h : 0 ≤ y) : wpS P (binOp .shr t (.int k x) (.int j y)) H K E = K (.int k (x.fdiv (2 ^ (min y.toNat k.bits)))) H := by
  have : ¬ y < 0 := by omega
  simp [binOp, Op.shift, wpS_pure, this]
theorem bin_eql (t : TypeId) (k : IntKind) (x y : Int) (K : Value → Hp → Prop) (E : Value → Hp → Prop) : wpS P (binOp .eql t (.int k x) (.int k y)) H K E = K (.bool (x == y)) H := by simp [binOp, Op.intCmp, wpS_pure]
theorem bin_neq (t : TypeId) (k : IntKind) (x y : Int) (K : Value → Hp → Prop) (E : Value → Hp → Prop) : wpS P (binOp .neq t (.int k x) (.int k y)) H K E = K (.bool (x != y)) H := by simp [binOp, Op.intCmp, wpS_pure]
theorem bin_lss (t : TypeId) (k : IntKind) (x y : Int) (K : Value → Hp → Prop) (E : Value → Hp → Prop) : wpS P (binOp .lss t (.int k x) (.int k y)) H K E = K (.bool (decide (x < y))) H := by simp [binOp, Op.intCmp, wpS_pure]
theorem bin_leq (t : TypeId) (k : IntKind) (x y : Int) (K : Value → Hp → Prop) (E : Value → Hp → Prop) : wpS P (binOp .leq t (.int k x) (.int k y)) H K E = K (.bool (decide (x ≤ y))) H := by simp [binOp, Op.intCmp, wpS_pure]
theorem bin_gtr (t : TypeId) (k : IntKind) (x y : Int) (K : Value → Hp → Prop) (E : Value → Hp → Prop) : wpS P (binOp .gtr t (.int k x) (.int k y)) H K E = K (.bool (decide (y < x))) H := by simp [binOp, Op.intCmp, wpS_pure]
theorem bin_geq (t : TypeId) (k : IntKind) (x y : Int) (K : Value → Hp → Prop) (E : Value → Hp → Prop) : wpS P (binOp .geq t (.int k x) (.int k y)) H K E = K (.bool (decide (y ≤ x))) H := by simp [binOp, Op.intCmp, wpS_pure]
theorem eqG_int (op : BinOp) (t : TypeId) (x y : Operand) (k j : IntKind) (a b : Int) (K : Unit → Hp → Prop) (E : Value → Hp → Prop) : wpS P (eqGuard op t x y (.int k a) (.int j b)) H K E = K () H := by
  unfold eqGuard; cases op <;> rfl
theorem un_not (b : Bool) (K : Value → Hp → Prop) (E : Value → Hp → Prop) : wpS P (Op.unary .not (.bool b)) H K E = K (.bool (!b)) H := rfl
theorem un_neg (k : IntKind) (x : Int) (K : Value → Hp → Prop) (E : Value → Hp → Prop) : wpS P (Op.unary .neg (.int k x)) H K E = K (.int k (k.wrap (0 - x))) H := rfl
theorem conv_int {s t : TypeId} {j k : IntKind} (hs : P.underlying s = some (.int j)) (ht : P.underlying t = some (.int k)) (i : IntKind) (x : Int) (K : Value → Hp → Prop) (E : Value → Hp → Prop) :
    wpS P (convert s t (.int i x)) H K E = K (.int k (k.wrap x)) H := by
  unfold convert
  rw [wpS_bind', wpS_underlying hs, wpS_bind', wpS_underlying ht]
  rfl
theorem w64 (x : Int) (h1 : -9223372036854775808 ≤ x) (h2 : x ≤ 9223372036854775807) : IntKind.i64.wrap x = x := by rw [IntKind.wrap_i64]; omega

/-! ### memory -/
theorem get_set (b b' : Nat) (o : Obj) : (H.set b o) b' = if b' = b then some (true, o) else H b' := rfl
theorem wpS_load (a : Addr) (K : Value → Hp → Prop) (E : Value → Hp → Prop) : wpS P (load a) H K E = ∃ v, H.cell a = some v ∧ K v H := by simp [load, wpS]
theorem loadAt_one {t : TypeId} {d : TypeDesc} (h : P.underlying t = some d) (hd : aggB d = false) (a : Addr) (K : Value → Hp → Prop) (E : Value → Hp → Prop) :
    wpS P (Instr.loadAt t (.pointer (some a))) H K E = ∃ v, H.cell a = some v ∧ K v H := by
  unfold Instr.loadAt
  rw [wpS_bind']
  simp only [Instr.sureAddr, wpS_pure, loadVar]
  rw [wpS_bind', wpS_isAgg h, hd]
  simp only [Bool.false_eq_true, if_false]
  exact wpS_load _ _ _

/-! ### simp looks at what is being done, not at what follows -/
@[congr] theorem wpS_congr {α : Type} {s s' : Sem α} {H H' : Hp} {K : α → Hp → Prop} {E : Value → Hp → Prop} (hs : s = s') (hH : H = H') : wpS P s H K E = wpS P s' H' K E := by subst hs hH; rfl
@[congr] theorem numX_congr {ops : Array Oper} {i : Nat} {K : Act → Hp → Prop} {a a' : Act} {H H' : Hp} (ha : a = a') (hH : H = H') : numX P main lp ops i Q K a H = numX P main lp ops i Q K a' H' := by subst ha hH; rfl
@[congr] theorem runX_congr {ops : Array Oper} {todo : List Nat} {a a' : Act} {H H' : Hp} (ha : a = a') (hH : H = H') : runX P main lp ops Q todo a H = runX P main lp ops Q todo a' H' := by subst ha hH; rfl
@[congr] theorem opX_congr {o : Oper} {K : Act → Hp → Prop} {a a' : Act} {H H' : Hp} (ha : a = a') (hH : H = H') : opX P main lp o a H K Q = opX P main lp o a' H' K Q := by subst ha hH; rfl
@[congr] theorem uponX_congr {o : Oper} {K : Act → Hp → Prop} {a : Act} {x x' : Next} {H H' : Hp} (hx : x = x') (hH : H = H') : uponX P main lp o a K Q x H = uponX P main lp o a K Q x' H' := by subst hx hH; rfl
@[congr] theorem pickK_congr {c c' x x' y y' : Value} {K : Next → Hp → Prop} {E : Value → Hp → Prop} {H H' : Hp} (hc : c = c') (hx : x = x') (hy : y = y') (hH : H = H') : pickK P c x y H K E = pickK P c' x' y' H' K E := by subst hc hx hy hH; rfl
@[congr] theorem nilK_congr {c c' : Value} {K : Next → Hp → Prop} {E : Value → Hp → Prop} {H H' : Hp} (hc : c = c') (hH : H = H') : nilK P c H K E = nilK P c' H' K E := by subst hc hH; rfl
@[congr] theorem callK_congr {c c' : Value} {args args' : Array Value} {K : Next → Hp → Prop} {E : Value → Hp → Prop} {H H' : Hp} (hc : c = c') (ha : args = args') (hH : H = H') : callK P c args H K E = callK P c' args' H' K E := by subst hc ha hH; rfl
@[congr] theorem Runs_congr {fr fr' : Frame} {R : Ending → Hp → Prop} {H H' : Hp} (hf : fr = fr') (hH : H = H') : Runs P main fr H R = Runs P main fr' H' R := by subst hf hH; rfl
@[congr] theorem wpX_congr {c : Code} {a a' : Act} {H H' : Hp} (ha : a = a') (hH : H = H') : wpX P main lp c Q a H = wpX P main lp c Q a' H' := by subst ha hH; rfl
@[congr] theorem planX_congr {S : Hp → Prop} {t : Nat} {ops : Array Oper} {todo : List (Bool × Nat)} {a a' : Act} {H H' : Hp} (ha : a = a') (hH : H = H') : planX P main lp ops Q S t todo a H = planX P main lp ops Q S t todo a' H' := by subst ha hH; rfl
end
end Go.X
end
section
/- Statements; memory; slices; the built-in functions. -/
namespace Go.X
open Go

/-- Asked behind a statement that neither leaves nor panics. -/
def only (K : Act → Hp → Prop) : Exit → Act → Hp → Prop
  | .normal, a, H => K a H
  | _, _, _ => False

section
variable {P : Program} {main : Bool} {lp : Option Nat} {Q : Exit → Act → Hp → Prop} {a : Act} {H : Hp}

theorem numX_weaken {ops : Array Oper} {i : Nat} {Q' : Exit → Act → Hp → Prop} {K K' : Act → Hp → Prop} (hQ : ∀ c a H, Q (.panic c) a H → Q' (.panic c) a H) (hK : ∀ a H, K a H → K' a H) (h : numX P main lp ops i Q K a H) : numX P main lp ops i Q' K' a H := by
  unfold numX at *
  cases ho : ops[i]? with
  | none => rw [ho] at h; exact hK _ _ h
  | some o =>
    rw [ho] at h
    simp only [] at h ⊢
    split
    · rename_i hw
      rw [if_pos hw] at h
      refine ⟨h.1, ?_⟩
      unfold opX at *
      refine wpS_mono h.2 (fun x H' hx => ?_) fun v H' hv => hQ _ _ _ hv
      cases x <;> simp only [uponX] at hx ⊢
      case value v => exact hK _ _ hx
      case skip => exact hK _ _ hx
      case defer d => exact ⟨hx.1, hK _ _ hx.2⟩
      case enter f args => exact hx.mono fun e H₁ he => by cases e with
        | returned v => exact hK _ _ he
        | panicked c => exact hQ _ _ _ he
        | outgrown => exact he
      case round l f tmps as body => exact hx.mono fun e H₁ he => by cases e with
        | returned v => exact hK _ _ he
        | panicked c => exact hQ _ _ _ he
        | outgrown => exact he
    · rename_i hw; rw [if_neg hw] at h; exact hK _ _ h

theorem only_run {ops : Array Oper} : ∀ {todo : List Nat} {a : Act} {H : Hp} {K : Act → Hp → Prop}, runX P main lp ops (only K) todo a H → (∀ a H, K a H → Q .normal a H) → runX P main lp ops Q todo a H
  | [], _, _, _, h, hK => hK _ _ h
  | _ :: _, _, _, _, h, hK => numX_weaken (fun _ _ _ h => h.elim) (fun _ _ h => only_run h hK) h

/-- A STATEMENT, and on. -/
theorem wpX_stmt {id : Nat} {ops : Array Oper} {y : Code} (h : ∀ K : Act → Hp → Prop, (∀ a' H', wpX P main lp y Q a' H' → K a' H') → runX P main lp ops (only K) (List.range ops.size) a H) :
    wpX P main lp (.seq (.region id ops false) y) Q a H :=
  wpX_seq (wpX_text (only_run (h _ fun _ _ h => h) fun _ _ h => h))
/-- .. and nothing behind it. -/
theorem wpX_last {id : Nat} {ops : Array Oper} (h : ∀ K : Act → Hp → Prop, (∀ a' H', Q .normal a' H' → K a' H') → runX P main lp ops (only K) (List.range ops.size) a H) :
    wpX P main lp (.region id ops false) Q a H :=
  wpX_text (only_run (h _ fun _ _ h => h) fun _ _ h => h)

theorem only_plan {S : Hp → Prop} {t : Nat} {ops : Array Oper} : ∀ {plan : List (Bool × Nat)} {a : Act} {H : Hp} {K : Act → Hp → Prop}, planX P main lp ops (only K) S t plan a H → (∀ a H, K a H → Q .normal a H) → planX P main lp ops Q S t plan a H
  | [], _, _, _, h, hK => hK _ _ h
  | (true, _) :: _, _, _, _, h, hK => ⟨h.1, h.2.choose, h.2.choose_spec.1, h.2.choose_spec.2.choose, h.2.choose_spec.2.choose_spec.1, only_plan h.2.choose_spec.2.choose_spec.2 hK⟩
  | (false, _) :: _, _, _, _, h, hK => numX_weaken (fun _ _ _ h => h.elim) (fun _ _ h => ⟨h.1, only_plan h.2 hK⟩) h

/-- A STATEMENT THAT DRAWS ITS ORDER, and on: by a plan. -/
theorem wpX_dstmt {id : Nat} {ops : Array Oper} {y : Code} (S : Hp → Prop) (t : Nat) (plan : List (Bool × Nat)) (hm : P.follows .mixedOrders = true) (hsel : Region.noSelect ops = true) (hlen : plan.length ≤ ops.size)
    (hok : planOK ops t (marked ops (List.range ops.size).reverse ((Array.replicate ops.size false).setIfInBounds t true)) plan (Array.replicate ops.size false) = true)
    (h : ∀ K : Act → Hp → Prop, (∀ a' H', wpX P main lp y Q a' H' → K a' H') → planX P main lp ops (only K) S t plan a H) :
    wpX P main lp (.seq (.region id ops true) y) Q a H := by
  refine wpX_seq ?_
  refine wpX_mono (Q := only fun a' H' => wpX P main lp y Q a' H') (wpX_plan S t plan hm hsel hlen hok (fun c a H d v h => h) (h _ fun _ _ h => h)) fun e a H q => ?_
  cases e <;> first | exact q | exact q.elim

theorem wpX_dlast {id : Nat} {ops : Array Oper} (S : Hp → Prop) (t : Nat) (plan : List (Bool × Nat)) (hm : P.follows .mixedOrders = true) (hsel : Region.noSelect ops = true) (hlen : plan.length ≤ ops.size)
    (hok : planOK ops t (marked ops (List.range ops.size).reverse ((Array.replicate ops.size false).setIfInBounds t true)) plan (Array.replicate ops.size false) = true)
    (h : ∀ K : Act → Hp → Prop, (∀ a' H', Q .normal a' H' → K a' H') → planX P main lp ops (only K) S t plan a H) :
    wpX P main lp (.region id ops true) Q a H := by
  refine wpX_mono (Q := only fun a' H' => Q .normal a' H') (wpX_plan S t plan hm hsel hlen hok (fun c a H d v h => h) (h _ fun _ _ h => h)) fun e a H q => ?_
  cases e <;> first | exact q | exact q.elim

theorem wpX_dst0 {id : Nat} {ops : Array Oper} {y : Code} (t : Nat) (plan : List (Bool × Nat)) (hm : P.follows .mixedOrders = true) (hsel : Region.noSelect ops = true) (hlen : plan.length ≤ ops.size)
    (hok : planOK ops t (marked ops (List.range ops.size).reverse ((Array.replicate ops.size false).setIfInBounds t true)) plan (Array.replicate ops.size false) = true)
    (h : ∀ K : Act → Hp → Prop, (∀ a' H', wpX P main lp y Q a' H' → K a' H') → planX P main lp ops (only K) (· = H) t plan a H) :
    wpX P main lp (.seq (.region id ops true) y) Q a H := wpX_dstmt _ t plan hm hsel hlen hok h
theorem wpX_dst1 {id : Nat} {ops : Array Oper} (t : Nat) (plan : List (Bool × Nat)) (hm : P.follows .mixedOrders = true) (hsel : Region.noSelect ops = true) (hlen : plan.length ≤ ops.size)
    (hok : planOK ops t (marked ops (List.range ops.size).reverse ((Array.replicate ops.size false).setIfInBounds t true)) plan (Array.replicate ops.size false) = true)
    (h : ∀ K : Act → Hp → Prop, (∀ a' H', Q .normal a' H' → K a' H') → planX P main lp ops (only K) (· = H) t plan a H) :
    wpX P main lp (.region id ops true) Q a H := wpX_dlast _ t plan hm hsel hlen hok h

/-- A CUT: what holds between the two is said once. -/
theorem wpX_cut {x y : Code} (M : Act → Hp → Prop) (hx : wpX P main lp x (thn M Q) a H) (hy : ∀ a H, M a H → wpX P main lp y Q a H) : wpX P main lp (.seq x y) Q a H :=
  wpX_seq (wpX_mono hx fun e a' H' q => by cases e <;> first | exact hy _ _ q | exact q)

/-! ### a plan, step by step; S: memory as it was at the region's beginning -/
theorem plan_take {H : Hp} {t i : Nat} {ops : List Oper} {o : Oper} {rest : List (Bool × Nat)} {v : Value} (ho : ops[i]? = some o) (hw : Region.wanted o (yielded ops.toArray a.tmps) = true) (hf : fine lp o = true)
    (h : wpS P (execOp a.eval o) H (YN P main v H) fun _ _ => False) (hk : planX P main lp ops.toArray Q (· = H) t rest (a.put o.dst v) H) : planX P main lp ops.toArray Q (· = H) t ((true, i) :: rest) a H :=
  ⟨rfl, o, by simpa using ho, v, .inl ⟨hw, hf, fun _ e => e ▸ h⟩, hk⟩
theorem plan_skip {H : Hp} {t i : Nat} {ops : List Oper} {o : Oper} {rest : List (Bool × Nat)} (ho : ops[i]? = some o) (hw : Region.wanted o (yielded ops.toArray a.tmps) = false)
    (hk : planX P main lp ops.toArray Q (· = H) t rest (a.put o.dst undef) H) : planX P main lp ops.toArray Q (· = H) t ((true, i) :: rest) a H :=
  ⟨rfl, o, by simpa using ho, undef, .inr ⟨hw, rfl⟩, hk⟩
theorem plan_tail {H : Hp} {t : Nat} {ops : Array Oper} (h : numX P main lp ops t Q (Q .normal) a H) : planX P main lp ops Q (· = H) t [(false, t)] a H :=
  numX_mono (fun _ _ h => ⟨.inl rfl, h⟩) h
theorem plan_nil {S : Hp → Prop} {t : Nat} {ops : Array Oper} (h : Q .normal a H) : planX P main lp ops Q S t [] a H := h
theorem YN_value {v u : Value} {H' : Hp} : YN P main v H (.value u) H' = (u = v ∧ H' = H) := rfl
theorem YN_enter {v : Value} {f : FuncId} {args : Array Value} {H' : Hp} : YN P main v H (.enter f args) H' = Runs P main (Frame.enter P f args .normal) H' fun
      | .returned u, H₁ => u = v ∧ H₁ = H
      | _, _ => False := rfl
/-- A quiet callee. -/
theorem quiet_of {f : FuncId} {args : Array Value} {v : Value} (h : FnX P main f args H fun e H' => e = .returned v ∧ H' = H) : Runs P main (Frame.enter P f args .normal) H fun
      | .returned u, H₁ => u = v ∧ H₁ = H
      | _, _ => False :=
  h.runs.mono fun e H₁ he => by obtain ⟨rfl, rfl⟩ := he; exact ⟨rfl, rfl⟩

/-! ### equations that wait till the state is in order -/
theorem runX_nil {ops : Array Oper} : runX P main lp ops Q [] a H = Q .normal a H := rfl
theorem runX_cons {ops : Array Oper} {i : Nat} {rest : List Nat} : runX P main lp ops Q (i :: rest) a H = numX P main lp ops i Q (runX P main lp ops Q rest) a H := rfl
theorem numX_eq {ops : Array Oper} {i : Nat} {K : Act → Hp → Prop} : numX P main lp ops i Q K a H = match ops[i]? with
  | none => K a H
  | some o => if Region.wanted o (yielded ops a.tmps) then fine lp o = true ∧ opX P main lp o a H K Q else K (a.put o.dst undef) H := rfl
theorem opX_eq {o : Oper} {K : Act → Hp → Prop} : opX P main lp o a H K Q = wpS P (execOp a.eval o) H (uponX P main lp o a K Q) fun v H₁ => Q (.panic [{ v, recovered := false }]) a H₁ := rfl
theorem uponX_value {o : Oper} {K : Act → Hp → Prop} (v : Value) : uponX P main lp o a K Q (.value v) H = K (a.put o.dst v) H := rfl
theorem uponX_skip {o : Oper} {K : Act → Hp → Prop} : uponX P main lp o a K Q .skip H = K (a.put o.dst undef) H := rfl
theorem uponX_defer {o : Oper} {K : Act → Hp → Prop} (d : Deferred) : uponX P main lp o a K Q (.defer d) H = (lp = none ∧ K ({ a with defers := d :: a.defers }.put o.dst undef) H) := rfl
theorem uponX_enter {o : Oper} {K : Act → Hp → Prop} (f : FuncId) (args : Array Value) : uponX P main lp o a K Q (.enter f args) H = Runs P main (Frame.enter P f args .normal) H fun
      | .returned v, H' => K (a.put o.dst v) H'
      | .panicked ch, H' => Q (.panic ch) a H'
      | .outgrown, _ => False := rfl
theorem only_normal {K : Act → Hp → Prop} : only K .normal a H = K a H := rfl
theorem wanted_none {d : Option Tmp} {op : Op} {ty : TypeId} {pos : String} {af : Array Edge} {y : Nat → Option Bool} : Region.wanted ⟨d, op, ty, pos, af, none⟩ y = true := rfl
theorem wanted_some {d : Option Tmp} {op : Op} {ty : TypeId} {pos : String} {af : Array Edge} {y : Nat → Option Bool} {j : Nat} {b : Bool} : Region.wanted ⟨d, op, ty, pos, af, some (j, b)⟩ y = (y j == some b) := rfl

/-! ### memory -/
theorem add_eq (b o n : Nat) : (⟨b, o, none⟩ : Addr).add n = ⟨b, o + n, none⟩ := by
  unfold Addr.add; split
  · rename_i h; subst h; rfl
  · rfl
theorem cell_of {b o : Nat} {p : Bool} {c : Array Value} {e : TypeId} {f : Nat × Nat} (h : H b = some (p, .cells c e f)) : H.cell ⟨b, o, none⟩ = c[o]? := by simp [Hp.cell, h]

theorem cells_one {v : Value} (h : one v = true) : v.cells = #[v] := by cases v <;> first | rfl | (simp [one] at h; done)

/-- A store into a cell of one's own. -/
def stor (H : Hp) (b o : Nat) (v : Value) (K : Hp → Prop) : Prop :=
  match H b with
  | some (true, .cells c e (lo, hi)) => o < c.size ∧ (decide (lo ≤ o) && decide (o < hi)) = false ∧ K (H.set b (.cells (c.setIfInBounds o v) e (lo, hi)))
  | _ => False
theorem stor_at {b o : Nat} {v : Value} {K : Hp → Prop} {c : Array Value} {e : TypeId} (h : H b = some (true, .cells c e (0, 0))) : stor H b o v K = (o < c.size ∧ K (H.set b (.cells (c.setIfInBounds o v) e (0, 0)))) := by
  simp [stor, h]
theorem cell_set_same {b o : Nat} {c : Array Value} {e : TypeId} {f : Nat × Nat} : (H.set b (.cells c e f)).cell ⟨b, o, none⟩ = c[o]? := by simp [Hp.cell, Hp.set]
theorem cell_set_ne {b b' o : Nat} {ob : Obj} (h : b ≠ b') : (H.set b' ob).cell ⟨b, o, none⟩ = H.cell ⟨b, o, none⟩ := by simp [Hp.cell, Hp.set, h]
theorem stor_set_same {b o : Nat} {v : Value} {K : Hp → Prop} {c : Array Value} {e : TypeId} : stor (H.set b (.cells c e (0, 0))) b o v K = (o < c.size ∧ K (H.set b (.cells (c.setIfInBounds o v) e (0, 0)))) := by
  have : (H.set b (.cells c e (0, 0))).set b (.cells (c.setIfInBounds o v) e (0, 0)) = H.set b (.cells (c.setIfInBounds o v) e (0, 0)) := by
    funext x; unfold Hp.set; split <;> rfl
  rw [stor_at (c := c) (e := e) (by simp [Hp.set]), this]
theorem set_set {b : Nat} {o o' : Obj} : (H.set b o).set b o' = H.set b o' := by funext x; unfold Hp.set; split <;> rfl
theorem set_self {b : Nat} {o : Obj} (h : H b = some (true, o)) : H.set b o = H := by funext x; unfold Hp.set; split <;> simp_all
theorem wpS_store {v : Value} (hv : one v = true) (b o : Nat) (K : Unit → Hp → Prop) (E : Value → Hp → Prop) : wpS P (store ⟨b, o, none⟩ v) H K E = stor H b o v (K ()) := by
  simp only [store, wpS, stor, hv, true_and]
  rcases hb : H b with _ | ⟨p, ob⟩
  · simp
  · cases p
    · simp
    · cases ob <;> simp
      rename_i c e fr
      obtain ⟨lo, hi⟩ := fr
      constructor
      · rintro ⟨c', e', lo', hi', h, h'⟩
        simp only [Prod.mk.injEq] at h
        obtain ⟨rfl, rfl, rfl, rfl⟩ := h
        simpa using h'
      · intro h'
        exact ⟨c, e, lo, hi, by simp, by simpa using h'⟩

theorem storeAt_one {t : TypeId} (hs : ∀ w, (sizeOf t).run P w = .ok 1 w) {v : Value} (hv : one v = true) (b o : Nat) (K : Unit → Hp → Prop) (E : Value → Hp → Prop) :
    wpS P (Instr.storeAt t (.pointer (some ⟨b, o, none⟩)) v) H K E = stor H b o v (K ()) := by
  unfold Instr.storeAt
  rw [wpS_bind']
  simp only [Instr.sureAddr, wpS_pure, storeVar]
  rw [wpS_bind', wpS_sizeOf hs, cells_one hv]
  simp only [List.size_toArray, List.length_cons, List.length_nil, Nat.zero_add, ne_eq, not_true, if_false, storeCells, add_eq, Nat.add_zero]
  rw [wpS_bind', wpS_store hv]
  rfl
section
variable {t : TypeId} (hs : ∀ w, (sizeOf t).run P w = .ok 1 w) (b o : Nat) (K : Unit → Hp → Prop) (E : Value → Hp → Prop)
include hs
theorem storeAt_int (k : IntKind) (x : Int) : wpS P (Instr.storeAt t (.pointer (some ⟨b, o, none⟩)) (.int k x)) H K E = stor H b o (.int k x) (K ()) := storeAt_one hs rfl b o K E
theorem storeAt_bool (x : Bool) : wpS P (Instr.storeAt t (.pointer (some ⟨b, o, none⟩)) (.bool x)) H K E = stor H b o (.bool x) (K ()) := storeAt_one hs rfl b o K E
theorem storeAt_ptr (x : Option Addr) : wpS P (Instr.storeAt t (.pointer (some ⟨b, o, none⟩)) (.pointer x)) H K E = stor H b o (.pointer x) (K ()) := storeAt_one hs rfl b o K E
theorem storeAt_slice (x : Option Addr) (n c : Nat) : wpS P (Instr.storeAt t (.pointer (some ⟨b, o, none⟩)) (.slice x n c)) H K E = stor H b o (.slice x n c) (K ()) := storeAt_one hs rfl b o K E
theorem storeAt_map (x : Option Nat) : wpS P (Instr.storeAt t (.pointer (some ⟨b, o, none⟩)) (.map x)) H K E = stor H b o (.map x) (K ()) := storeAt_one hs rfl b o K E
theorem storeAt_func (f : Fn) (x y : Array Value) : wpS P (Instr.storeAt t (.pointer (some ⟨b, o, none⟩)) (.func f x y)) H K E = stor H b o (.func f x y) (K ()) := storeAt_one hs rfl b o K E
theorem storeAt_nilFunc : wpS P (Instr.storeAt t (.pointer (some ⟨b, o, none⟩)) .nilFunc) H K E = stor H b o .nilFunc (K ()) := storeAt_one hs rfl b o K E
theorem storeAt_iface (u : TypeId) (x : Value) : wpS P (Instr.storeAt t (.pointer (some ⟨b, o, none⟩)) (.iface u x)) H K E = stor H b o (.iface u x) (K ()) := storeAt_one hs rfl b o K E
theorem storeAt_nilIface : wpS P (Instr.storeAt t (.pointer (some ⟨b, o, none⟩)) .nilIface) H K E = stor H b o .nilIface (K ()) := storeAt_one hs rfl b o K E
theorem storeAt_string (x : ByteArray) : wpS P (Instr.storeAt t (.pointer (some ⟨b, o, none⟩)) (.string x)) H K E = stor H b o (.string x) (K ()) := storeAt_one hs rfl b o K E
end

theorem fieldAt_eq {s : TypeId} {fs : Array Field} (hu : P.underlying s = some (.struct fs)) {i : Nat} {f : Field} (hf : fs[i]? = some f) {off : Nat} (ho : f.offset = off) {n : Nat} (hs : ∀ w, (sizeOf f.type).run P w = .ok (n + 1) w) (b o : Nat) (K : Value → Hp → Prop) (E : Value → Hp → Prop) :
    wpS P (Instr.fieldAt s (.pointer (some ⟨b, o, none⟩)) i) H K E = K (.pointer (some ⟨b, o + off, none⟩)) H := by
  subst ho
  unfold Instr.fieldAt
  rw [wpS_bind', wpS_underlying hu]
  simp only [hf, Instr.sureAddr]
  rw [wpS_bind']
  simp only [wpS_pure]
  rw [wpS_bind']
  unfold fieldPlace
  rw [wpS_bind', wpS_sizeOf hs]
  simp only [Nat.succ_ne_zero, if_false, wpS_pure, add_eq]

theorem indexAt_slice {t e : TypeId} (hu : P.underlying t = some (.slice e)) {n : Nat} (hs : ∀ w, (sizeOf e).run P w = .ok n w) (b o len cap : Nat) (k : IntKind) (i : Int) (K : Value → Hp → Prop) (E : Value → Hp → Prop) (h0 : 0 ≤ i) (h1 : i < len) :
    wpS P (Instr.indexAt t (.slice (some ⟨b, o, none⟩) len cap) (.int k i)) H K E = K (.pointer (some ⟨b, o + i.toNat * n, none⟩)) H := by
  unfold Instr.indexAt
  rw [wpS_bind']
  simp only [asIntOf, wpS_pure]
  simp only [wpS_bind', wpS_underlying hu, wpS_pure, h0, h1, and_self, if_true, wpS_sizeOf hs, add_eq]

theorem len_slice {t e : TypeId} (hu : P.underlying t = some (.slice e)) (ty : TypeId) (cs : Array Bool) (a : Option Addr) (len cap : Nat) (K : Next → Hp → Prop) (E : Value → Hp → Prop) :
    wpS P (builtin .len #[t] ty cs #[.slice a len cap]) H K E = K (.value (.int .i64 len)) H := by
  simp only [builtin, Builtin.len_, List.getElem?_toArray, List.getElem?_cons_zero]
  rw [wpS_bind', wpS_bind', wpS_underlying hu]
  rfl
theorem extract_eq (vs : List Value) (i : Nat) {v : Value} (h : vs[i]? = some v) (K : Value → Hp → Prop) (E : Value → Hp → Prop) : wpS P (Instr.extract (.tuple vs.toArray) i) H K E = K v H := by
  simp [Instr.extract, h, wpS_pure]

/-! ### results -/
theorem results_one {fn : Func} {t : Tmp} (h : fn.results = #[.tmp t]) {n : Nat} {e : Nat → Value} {ds : List Deferred} (ht : t < n) (K : Value → Hp → Prop) (E : Value → Hp → Prop) :
    wpS P (results fn (act n e ds).tmps) H K E = K (e t) H := by
  simp [results, h, act_get? ht, wpS_pure]
theorem results_two {fn : Func} {t u : Tmp} (h : fn.results = #[.tmp t, .tmp u]) {n : Nat} {e : Nat → Value} {ds : List Deferred} (ht : t < n) (hu : u < n) (K : Value → Hp → Prop) (E : Value → Hp → Prop) :
    wpS P (results fn (act n e ds).tmps) H K E = K (.tuple #[e t, e u]) H := by
  simp [results, h, act_get? ht, act_get? hu, wpS_pure]
theorem results_zero {fn : Func} (h : fn.results = #[]) (tmps : Array Value) (K : Value → Hp → Prop) (E : Value → Hp → Prop) :
    wpS P (results fn tmps) H K E = K (.tuple #[]) H := by
  simp [results, h, wpS_pure]
@[congr] theorem stor_congr {H' : Hp} {b o b' o' : Nat} {v v' : Value} {K : Hp → Prop} (hH : H = H') (hb : b = b') (ho : o = o') (hv : v = v') : stor H b o v K = stor H' b' o' v' K := by subst hH hb ho hv; rfl
end
end Go.X
end
section
/- Slices of one's own making: append, make, and how they read. -/
namespace Go.X
open Go

/-- H is H₀ and, if it has cells, the array of the slice v: n elements of type e, sz cells each. -/
def NewRow (H₀ H : Hp) (v : Value) (e : TypeId) (sz n : Nat) (cs : List Value) : Prop :=
  (v = .slice none 0 0 ∧ n = 0 ∧ cs = [] ∧ H = H₀) ∨
  ∃ (b : Nat) (c : Array Value) (cap : Nat), H₀ b = none ∧ H = H₀.set b (.cells c e (0, 0)) ∧ v = .slice (some ⟨b, 0, none⟩) n cap ∧ c.size = cap * sz ∧ cs.length = n * sz ∧ n ≤ cap ∧ ∀ (i : Nat) (u : Value), cs[i]? = some u → c[i]? = some u

theorem NewRow.nil (H : Hp) (e : TypeId) (sz : Nat) : NewRow H H (.slice none 0 0) e sz 0 [] := .inl ⟨rfl, rfl, rfl, rfl⟩
theorem NewRow.le {H₀ H : Hp} {v : Value} {e : TypeId} {sz n : Nat} {cs : List Value} (h : NewRow H₀ H v e sz n cs) : H₀.le H := by
  rcases h with ⟨_, _, _, rfl⟩ | ⟨b, c, cap, hb, rfl, _⟩
  · exact Hp.le_refl _
  · exact Hp.le_set hb
theorem NewRow.len {H₀ H : Hp} {v : Value} {e : TypeId} {sz n : Nat} {cs : List Value} (h : NewRow H₀ H v e sz n cs) : cs.length = n * sz := by
  rcases h with ⟨_, rfl, rfl, _⟩ | ⟨b, c, cap, _, _, _, _, hl, _⟩
  · simp
  · exact hl

theorem Hp.set_le {H H' : Hp} {b : Nat} {o : Obj} (h : H.le H') : (H.set b o).le (H'.set b o) := fun x v hv => by
  unfold Hp.set at *
  split at hv
  · rename_i hx; rw [if_pos hx]; exact hv
  · rename_i hx; rw [if_neg hx]; exact h _ _ hv
theorem Hp.le_none {H H' : Hp} {b : Nat} (h : H.le H') (hb : H' b = none) : H b = none := by
  cases hx : H b with
  | none => rfl
  | some v => rw [h b v hx] at hb; cases hb

section
variable {P : Program} {H : Hp}

theorem wpS_loadCellsFrom (b o : Nat) (K : Array Value → Hp → Prop) (E : Value → Hp → Prop) : ∀ (n i : Nat) (acc : Array Value) (cs : List Value), cs.length = n → (∀ j u, cs[j]? = some u → H.cell ⟨b, o + (i + j), none⟩ = some u) →
    wpS P (loadCellsFrom ⟨b, o, none⟩ i n acc) H K E = K (acc ++ cs.toArray) H
  | 0, i, acc, cs, hl, _ => by
    have : cs = [] := by simpa using hl
    subst this
    simp [loadCellsFrom, wpS_pure]
  | n + 1, i, acc, cs, hl, hc => by
    cases cs with
    | nil => simp at hl
    | cons u cs =>
      unfold loadCellsFrom
      rw [wpS_bind']
      simp only [add_eq]
      have h0 : H.cell ⟨b, o + i, none⟩ = some u := by have := hc 0 u (by simp); simpa using this
      rw [wpS_load]
      simp only [h0, Option.some.injEq, exists_eq_left']
      rw [wpS_loadCellsFrom b o K E n (i + 1) (acc.push u) cs (by simpa using hl) (fun j w hj => by
        have := hc (j + 1) w (by simpa using hj)
        rw [show o + (i + 1 + j) = o + (i + (j + 1)) from by omega]; exact this)]
      simp
theorem wpS_loadCells {b o n : Nat} {cs : List Value} (hl : cs.length = n) (hc : ∀ j u, cs[j]? = some u → H.cell ⟨b, o + j, none⟩ = some u) (K : Array Value → Hp → Prop) (E : Value → Hp → Prop) :
    wpS P (loadCells ⟨b, o, none⟩ n) H K E = K cs.toArray H := by
  unfold loadCells
  rw [wpS_loadCellsFrom b o K E n 0 #[] cs hl (by simpa using hc)]
  simp

/-- The cells from o on, written over. -/
def over (c : Array Value) (o : Nat) (vs : List Value) : Array Value := Array.ofFn fun i : Fin c.size => if o ≤ i.val ∧ i.val < o + vs.length then vs.getD (i.val - o) undef else c[i]
theorem over_size {c : Array Value} {o : Nat} {vs : List Value} : (over c o vs).size = c.size := by simp [over]
theorem over_get {c : Array Value} {o : Nat} {vs : List Value} (i : Nat) (hi : i < c.size) : (over c o vs)[i]? = if o ≤ i ∧ i < o + vs.length then some (vs.getD (i - o) undef) else c[i]? := by
  simp only [over, Array.getElem?_ofFn, hi, dif_pos]
  split <;> simp
theorem over_cons {c : Array Value} {o : Nat} {v : Value} {vs : List Value} (h : o < c.size) : over (c.setIfInBounds o v) (o + 1) vs = over c o (v :: vs) := by
  apply Array.ext_getElem?
  intro i
  by_cases hi : i < c.size
  · rw [over_get i (by simpa using hi), over_get i hi]
    simp only [List.length_cons]
    by_cases h1 : o + 1 ≤ i ∧ i < o + 1 + vs.length
    · rw [if_pos h1, if_pos ⟨by omega, by omega⟩]
      have : i - o = (i - (o + 1)) + 1 := by omega
      rw [this]; simp
    · rw [if_neg h1]
      by_cases h2 : i = o
      · subst h2; rw [if_pos ⟨by omega, by omega⟩]; simp [hi]
      · rw [if_neg (by omega)]
        rw [Array.getElem?_setIfInBounds_ne (by omega)]
  · rw [Array.getElem?_eq_none (by simp [over_size]; omega), Array.getElem?_eq_none (by simp [over_size]; omega)]
theorem over_nil {c : Array Value} {o : Nat} : over c o [] = c := by
  apply Array.ext_getElem?
  intro i
  by_cases hi : i < c.size
  · rw [over_get i hi, if_neg (by intro h; simp at h; omega)]
  · rw [Array.getElem?_eq_none (by simp [over_size]; omega), Array.getElem?_eq_none (by omega)]

theorem wpS_storeCells (b o : Nat) (K : Unit → Hp → Prop) (E : Value → Hp → Prop) : ∀ (vs : List Value) (i : Nat) (H : Hp) (c : Array Value) (e : TypeId), (∀ v ∈ vs, one v = true) → H b = some (true, .cells c e (0, 0)) → o + i + vs.length ≤ c.size →
    K () (H.set b (.cells (over c (o + i) vs) e (0, 0))) → wpS P (storeCells ⟨b, o, none⟩ vs i) H K E
  | [], i, H, c, e, _, hb, _, h => by
    rw [over_nil, set_self hb] at h
    exact h
  | v :: vs, i, H, c, e, h1, hb, hl, h => by
    unfold storeCells
    rw [wpS_bind', add_eq, wpS_store (h1 v List.mem_cons_self), stor_at hb]
    simp only [List.length_cons] at hl
    refine ⟨by omega, ?_⟩
    refine wpS_storeCells b o K E vs (i + 1) _ (c.setIfInBounds (o + i) v) e (fun u hu => h1 u (List.mem_cons_of_mem _ hu)) (by simp [get_set]) (by simp; omega) ?_
    rw [set_set, show o + (i + 1) = o + i + 1 from by omega, over_cons (by omega)]
    exact h

theorem nextcap_le (need old : Nat) (h : old < need) : Builtin.nextslicecap need old ≤ 2 * need + 400 := by
  unfold Builtin.nextslicecap
  split
  · omega
  · split
    · omega
    · have key : ∀ (r c : Nat), 256 ≤ c → c ≤ need → Builtin.growBy need r c ≤ 2 * need + 400 := by
        intro r
        induction r with
        | zero => intro c _ hc; simp only [Builtin.growBy]; omega
        | succ r ih =>
          intro c h1 hc
          simp only [Builtin.growBy]
          split
          · omega
          · by_cases h2 : c + (c + 768) / 4 ≤ need
            · exact ih _ (by omega) h2
            · cases r with
              | zero => simp only [Builtin.growBy]; omega
              | succ r => simp only [Builtin.growBy]; rw [if_pos (by omega)]; omega
      exact key _ _ (by omega) (by omega)

theorem askRoom_wp (n : Nat) (K : Unit → Hp → Prop) (E : Value → Hp → Prop) : wpS P (askRoom n) H K E = K () H := by
  unfold askRoom
  split
  · simp [mark, wpS]
  · rfl

theorem zeroCells_size (z : Array Value) (n : Nat) : (Builtin.zeroCells z n).size = n * z.size := by simp [Builtin.zeroCells]

/-- APPEND to a slice of one's own making. -/
theorem append_law {t e : TypeId} {sz : Nat} {z : Value} {inf : TypeInfo} (hu : P.underlying t = some (.slice e)) (hs : ∀ w, (sizeOf e).run P w = .ok sz w) (hz : ∀ w, (zeroValue e).run P w = .ok z w) (hzc : z.cells.size = sz)
    (hi : ∀ w, (typeInfo e).run P w = .ok inf w) (hby : inf.bytes ≤ 1024) (hby0 : 0 < inf.bytes) {H₀ H : Hp} {v : Value} {n : Nat} {cs : List Value} (hrow : NewRow H₀ H v e sz n cs) {Hx : Hp} (hx : H.le Hx)
    {g o m cap : Nat} {news : List Value} (hl : news.length = m * sz) (hg : H₀ g = none → H g = none) (hnews : ∀ j u, news[j]? = some u → Hx.cell ⟨g, o + j, none⟩ = some u) (h1 : ∀ u ∈ news, one u = true) (hn : n + m ≤ 1073741824)
    (ty : TypeId) (cb : Array Bool) (K : Next → Hp → Prop) (E : Value → Hp → Prop)
    (h : ∀ v' H' H'', NewRow H₀ H' v' e sz (n + m) (cs ++ news) → H'.le H'' → K (.value v') H'') :
    wpS P (builtin .append #[t, t] ty cb #[v, .slice (some ⟨g, o, none⟩) m cap]) Hx K E := by
  have hinf := info_of_run hi
  have hcl := hrow.len
  simp only [builtin]
  rw [wpS_bind']
  unfold Builtin.append_
  simp only [List.getElem?_toArray, List.getElem?_cons_zero, List.getElem?_cons_succ]
  rw [wpS_bind', wpS_underlying hu]
  obtain ⟨base, scap, rfl⟩ : ∃ base scap, v = .slice base n scap := by
    rcases hrow with ⟨rfl, rfl, _, _⟩ | ⟨b, c, cp, _, _, rfl, _⟩
    · exact ⟨_, _, rfl⟩
    · exact ⟨_, _, rfl⟩
  simp only [wpS_bind', wpS_sizeOf hs, wpS_underlying hu, wpS_pure, Bool.false_eq_true, if_false, Builtin.lenOf, wpS_ite]
  have hle : H₀.le Hx := Hp.le_trans hrow.le hx
  have hfirst : ∀ (K' : Array Value → Hp → Prop), wpS P (Builtin.firstCells sz m (.slice (some ⟨g, o, none⟩) m cap)) Hx K' E = K' news.toArray Hx := fun K' => by
    unfold Builtin.firstCells
    exact wpS_loadCells hl hnews K' E
  split
  · rename_i hfit
    simp only [Bool.not_false, if_true]
    rw [hfirst]
    rcases hrow with ⟨hv, rfl, rfl, rfl⟩ | ⟨b, c, cp, hb, rfl, hv, hc, hcs, hcap, hget⟩
    · simp only [Value.slice.injEq] at hv
      obtain ⟨rfl, _, rfl⟩ := hv
      obtain rfl : m = 0 := by omega
      obtain rfl : news = [] := by simpa using hl
      simp only [wpS_pure]
      exact h _ _ _ (NewRow.nil _ _ _) hx
    · simp only [Value.slice.injEq] at hv
      obtain ⟨rfl, _, rfl⟩ := hv
      simp only [wpS_bind', wpS_pure, add_eq]
      have hbx : Hx b = some (true, .cells c e (0, 0)) := hx b _ (by simp [get_set])
      have hsz : n * sz + news.length ≤ c.size := by rw [hl, hc, ← Nat.add_mul]; exact Nat.mul_le_mul_right _ hfit
      refine wpS_storeCells b (0 + n * sz) _ E news 0 Hx c e h1 hbx (by omega) ?_
      refine h _ (H₀.set b (.cells (over c (0 + n * sz + 0) news) e (0, 0))) _ (.inr ⟨b, _, scap, hb, rfl, rfl, by rw [over_size, hc], ?_, hfit, fun i u hiu => ?_⟩) (Hp.set_le hle)
      · rw [List.length_append, hcs, hl, Nat.add_mul]
      · have hilt : i < (cs ++ news).length := (List.getElem?_eq_some_iff.1 hiu).1
        rw [List.length_append] at hilt
        rw [over_get i (by omega)]
        by_cases hic : i < cs.length
        · rw [if_neg (by omega)]
          exact hget i u (by rw [List.getElem?_append_left hic] at hiu; exact hiu)
        · rw [if_pos ⟨by omega, by omega⟩]
          rw [List.getElem?_append_right (by omega)] at hiu
          rw [show i - (0 + n * sz + 0) = i - cs.length from by omega]
          simp [List.getD, hiu]
  · rename_i hfit
    have hold : ∀ (K' : Array Value → Hp → Prop), wpS P (Builtin.firstCells sz n (.slice base n scap)) Hx K' E = K' cs.toArray Hx := fun K' => by
      rcases hrow with ⟨hv, rfl, rfl, rfl⟩ | ⟨b, c, cp, hb, rfl, hv, hc, hcs, hcap, hget⟩
      · simp only [Value.slice.injEq] at hv
        obtain ⟨rfl, _, rfl⟩ := hv
        rfl
      · simp only [Value.slice.injEq] at hv
        obtain ⟨rfl, _, rfl⟩ := hv
        unfold Builtin.firstCells
        refine wpS_loadCells hcs (fun j u hj => ?_) K' E
        rw [cell_of (hx b (true, .cells c e (0, 0)) (by simp [get_set]))]
        rw [Nat.zero_add]
        exact hget j u hj
    have hnc := nextcap_le (n + m) scap (by omega)
    simp only [wpS_typeInfo hinf]
    rw [if_neg (by intro hh; have := hh.2; simp at this; omega)]
    rw [if_neg (by
      have : Builtin.nextslicecap (n + m) scap * inf.bytes ≤ (2 * (n + m) + 400) * 1024 := Nat.mul_le_mul hnc hby
      omega)]
    simp only [choose, wpS, Question.forced, Bool.false_eq_true, if_false, Question.cut]
    intro t
    simp only [askRoom_wp, hold, Bool.not_false, if_true, hfirst, wpS_zeroValue hz, newRow, newObj, wpS_bind', wpS, wpS_pure]
    intro b' hb'
    generalize hN : n + m + t % (2 ^ 63 - (n + m)) = N
    have hNge : n + m ≤ N := by omega
    refine h _ (H₀.set b' (.cells (cs.toArray ++ news.toArray ++ Builtin.zeroCells z.cells (N - (n + m))) e (0, 0))) _ (.inr ⟨b', _, N, Hp.le_none hle hb', rfl, rfl, ?_, ?_, hNge, fun i u hiu => ?_⟩) (Hp.set_le hle)
    · simp only [Array.size_append, List.size_toArray, zeroCells_size, hzc, hcl, hl, ← Nat.add_mul]
      congr 1; omega
    · rw [List.length_append, hcl, hl, Nat.add_mul]
    · have hilt : i < (cs ++ news).length := (List.getElem?_eq_some_iff.1 hiu).1
      rw [Array.getElem?_append_left (by simpa using hilt)]
      simpa using hiu

/-! ### literals of slices; make -/
theorem reps (z : Value) (n : Nat) : ((Array.range n).map fun x => #[z][x % #[z].size]!) = Array.replicate n z := by
  apply Array.ext
  · simp
  · intro i h1 h2
    simp [Nat.mod_one]
theorem fill_one (c : Array Value) (o : Nat) (v : Value) (h : o < c.size) (rest : List (Nat × Value)) (h1 : one v = true) : Instr.fill (fun i => some (i * 1, 1)) c ((o, v) :: rest) = Instr.fill (fun i => some (i * 1, 1)) (c.setIfInBounds o v) rest := by
  have : ¬ o + 1 > c.size := by omega
  simp [Instr.fill, cells_one h1, this]
section
variable {t e : TypeId} {z : Value} (hu : P.underlying t = some (.slice e)) (hs : ∀ w, (sizeOf e).run P w = .ok 1 w) (hz : ∀ w, (zeroValue e).run P w = .ok z w) (hz1 : one z = true) (K : Value → Hp → Prop) (E : Value → Hp → Prop)
include hu hs hz hz1
omit hz hz1 in
theorem buildSlice0 : wpS P (Instr.buildSlice t 0 #[]) H K E = ∀ b, H b = none → K (.slice (some ⟨b, 0, none⟩) 0 0) (H.set b (.cells #[] e (0, 0))) := by
  unfold Instr.buildSlice
  simp only [wpS_bind', wpS_underlying hu, wpS_sizeOf hs, Nat.reduceMul, Nat.reducePow, gt_iff_lt, Nat.reduceLT, ↓reduceIte, wpS_pure]
  simp only [Instr.fill, newRow, newObj, wpS_bind', wpS, wpS_pure, Array.range, Array.ofFn_zero, Array.map_empty]
theorem buildSliceN (n : Nat) (vs : List (Nat × Value)) (hn : n ≤ 1000) (h0 : 0 < n) {c : Array Value} (hf : Instr.fill (fun i => some (i * 1, 1)) (Array.replicate n z) vs = some c) :
    wpS P (Instr.buildSlice t n vs.toArray) H K E = ∀ b, H b = none → K (.slice (some ⟨b, 0, none⟩) n n) (H.set b (.cells c e (0, 0))) := by
  unfold Instr.buildSlice
  have h1 : ¬ n > 16777216 := by omega
  have h2 : ¬ n = 0 := by omega
  simp only [Nat.mul_one] at hf
  simp only [wpS_bind', wpS_underlying hu, wpS_sizeOf hs, Nat.mul_one, Nat.reducePow, h1, h2, if_false, wpS_zeroValue hz, wpS_pure, cells_one hz1, reps, hf, newRow, newObj, wpS]
theorem buildSlice1 (v : Value) (h : one v = true) : wpS P (Instr.buildSlice t 1 #[(0, v)]) H K E = ∀ b, H b = none → K (.slice (some ⟨b, 0, none⟩) 1 1) (H.set b (.cells #[v] e (0, 0))) :=
  buildSliceN hu hs hz hz1 K E 1 [(0, v)] (by omega) (by omega) (by rw [fill_one _ _ _ (by simp) _ h]; rfl)
theorem buildSlice2 (v w : Value) (h : one v = true) (h' : one w = true) : wpS P (Instr.buildSlice t 2 #[(0, v), (1, w)]) H K E = ∀ b, H b = none → K (.slice (some ⟨b, 0, none⟩) 2 2) (H.set b (.cells #[v, w] e (0, 0))) :=
  buildSliceN hu hs hz hz1 K E 2 [(0, v), (1, w)] (by omega) (by omega) (by rw [fill_one _ _ _ (by simp) _ h, fill_one _ _ _ (by simp) _ h']; rfl)
end
end
end Go.X
end
