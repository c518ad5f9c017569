/- Texts Law Fork Work Flow Chan Lend WFork WWork. -/
import Derived.Test.YtgniilnljeedlaaGreatDoorJ05
import Derived.Test.YtgniilnljeedlaaGreatDoorJ07
import Derived.Test.YtgniilnljeedlaaGreatDoorJ16
import Derived.Conc.Own2
import Derived.Conc.DeferLaws
set_option linter.defProp false
set_option linter.unusedSimpArgs false
set_option linter.unusedVariables false
set_option maxRecDepth 100000
set_option maxHeartbeats 2000000
section
namespace Go.Proofs.YtgniilnljeedlaaGreatDoor
open Go Go.X
theorem Cvn (m n x : Nat) : (Aky m n).testBit x = (m.testBit x || decide (x = n)) := by
 unfold Aky
 rw [Nat.testBit_or, Nat.testBit_two_pow]
 congr 1
 exact decide_eq_decide.2 eq_comm
theorem Cy1 : ∀ n : Fin 6, ∀ x : Fin 6, (63 - 2 ^ n.val).testBit x.val = !decide (x.val = n.val) := by decide
theorem Bw1 (m n x : Nat) (hn : n < 6) (hx : x < 6) : (Avb m n).testBit x = (m.testBit x && !decide (x = n)) := by
 unfold Avb
 rw [Nat.testBit_and, Cy1 ⟨n, hn⟩ ⟨x, hx⟩]
theorem Cvl (m : Nat) (s t : Int) (hs : -1 <= s) (hs6 : s < 6) (h0 : 0 <= t) (x : Nat) (hx : x < 6) : (Aqv m s t).testBit x = (decide ((x : Int) = t) || (m.testBit x && !decide ((x : Int) = s))) := by
 unfold Aqv
 rw [Cvn]
 have ht : decide (x = t.toNat) = decide ((x : Int) = t) := decide_eq_decide.2 (by omega)
 rw [ht]
 split
 ·rw [Bw1 m _ x (by omega) hx]
  have : decide (x = s.toNat) = decide ((x : Int) = s) := decide_eq_decide.2 (by omega)
  rw [this, Bool.or_comm]
 ·have : decide ((x : Int) = s) = false := decide_eq_false (by omega)
  rw [this, Bool.not_false, Bool.and_true, Bool.or_comm]
def inO (m : Nat) (x : Int) : Prop := 0 <= x /\ x < 6 /\ m.testBit x.toNat = true
theorem Ajm {m : Nat} {s t x : Int} (hs : -1 <= s) (hs6 : s < 6) (h0 : 0 <= t) (h6 : t < 6) : inO (Aqv m s t) x ↔ x = t ∨ (inO m x /\ x ≠ s) := by
 unfold inO
 by_cases hx : 0 <= x /\ x < 6
 ·rw [Cvl m s t hs hs6 h0 x.toNat (by omega), Bool.or_eq_true, Bool.and_eq_true, Bool.not_eq_true', decide_eq_true_eq, decide_eq_false_iff_not]
  have hxe : (x.toNat : Int) = x := by omega
  rw [hxe]
  constructor
  ·rintro ⟨_, _, h | h⟩
   ·exact .inl h
   ·exact .inr ⟨⟨hx.1, hx.2, h.1⟩, h.2⟩
  ·rintro (h | h)
   ·exact ⟨hx.1, hx.2, .inl h⟩
   ·exact ⟨hx.1, hx.2, .inr ⟨h.1.2.2, h.2⟩⟩
 ·constructor
  ·rintro ⟨h1, h2, _⟩; exact absurd ⟨h1, h2⟩ hx
  ·rintro (h | h)
   ·exact absurd ⟨by omega, by omega⟩ hx
   ·exact absurd ⟨h.1.1, h.1.2.1⟩ hx
theorem Azg {m : Nat} {x : Int} : x ∈ Ax4 m ↔ inO m x := by
 refine ⟨fun h => Aji h, fun ⟨h0, h6, hb⟩ => ?_⟩
 simp only [Ax4, Awl, List.mem_map, List.mem_filter, List.mem_range]
 exact ⟨x.toNat, ⟨by omega, by simpa using hb⟩, by omega⟩
theorem Bqf {m : Nat} {x : Int} (h0 : 0 <= x) (h6 : x < 6) : m.testBit x.toNat = true ↔ inO m x := ⟨fun h => ⟨h0, h6, h⟩, fun h => h.2.2⟩
theorem Aj8 {m n : Nat} (h : ∀ x, inO m x -> inO n x) : Aq4 m <= Aq4 n := by
 unfold Aq4
 refine List.countP_mono_left fun x hx hb => ?_
 rw [List.mem_range] at hx
 have := (h (x : Int) ⟨by omega, by omega, by simpa using hb⟩).2.2
 simpa using this
theorem Bwl {α : Type} {p q : α -> Bool} : ∀ {l : List α}, (∀ x ∈ l, p x = true -> q x = true) -> ∀ y ∈ l, q y = true -> p y = false -> l.countP p < l.countP q
 | [], _, y, hy, _, _ => by cases hy
 | a :: l, h, y, hy, hq, hp => by
  have hm := List.countP_mono_left (l := l) (p := p) (q := q) fun x hx => h x (List.mem_cons_of_mem _ hx)
  simp only [List.countP_cons]
  rcases List.mem_cons.1 hy with rfl | hy
  ·rw [hq, hp]; simp; omega
  ·have := Bwl (l := l) (fun x hx => h x (List.mem_cons_of_mem _ hx)) y hy hq hp
   have ha := h a List.mem_cons_self
   cases hpa : p a
   ·simp; omega
   ·rw [ha hpa]; simp; omega
theorem Cvk {m n : Nat} (h : ∀ x, inO m x -> inO n x) {y : Int} (hy : inO n y) (hn : ¬ inO m y) : Aq4 m < Aq4 n := by
 unfold Aq4
 refine Bwl (fun x hx hb => ?_) y.toNat (List.mem_range.2 (by have := hy.1; have := hy.2.1; omega)) hy.2.2 ?_
 ·rw [List.mem_range] at hx
  have := (h (x : Int) ⟨by omega, by omega, by simpa using hb⟩).2.2
  simpa using this
 ·cases hb : m.testBit y.toNat
  ·rfl
  ·exact absurd ⟨hy.1, hy.2.1, hb⟩ hn
theorem Cxz (L : Nat) (pl : Int) : ∀ (ts : List Int) (a b : Nat), (∀ t ∈ ts, 0 <= t /\ t < 6) -> (∀ x, inO a x ↔ inO b x) -> optF L pl ts a = optF L pl ts b
 | [], _, _, _, _ => rfl
 | t :: ts, a, b, ht, h => by
  have h6 := ht t List.mem_cons_self
  have ih := fun s (hs : -1 <= s /\ s < 6) => Cxz L pl ts (Aqv a s t) (Aqv b s t) (fun x hx => ht x (List.mem_cons_of_mem _ hx)) fun x => by
   rw [Ajm hs.1 hs.2 h6.1 h6.2, Ajm hs.1 hs.2 h6.1 h6.2, h x]
  have hb : a.testBit t.toNat = b.testBit t.toNat := by
   have := h t
   rw [<- Bqf h6.1 h6.2, <- Bqf h6.1 h6.2] at this
   exact Bool.eq_iff_iff.2 this
  have hc : Aq4 a = Aq4 b := Nat.le_antisymm (Aj8 fun x hx => (h x).1 hx) (Aj8 fun x hx => (h x).2 hx)
  have hl : Ax4 a = Ax4 b := by
   unfold Ax4 Awl
   congr 1
   refine List.filter_congr fun x hx => ?_
   rw [List.mem_range] at hx
   have := h (x : Int)
   rw [<- Bqf (by omega) (by omega), <- Bqf (by omega) (by omega)] at this
   exact Bool.eq_iff_iff.2 (by simpa using this)
  rw [optF, optF, hb, hc, hl, ih (-1) (by omega)]
  split
  ·rfl
  ·split
   ·have key : ∀ (l : List Int) (acc : Nat), (∀ x ∈ l, -1 <= x /\ x < 6) -> l.foldl (fun acc p => min acc (1 + optF L pl ts (Aqv a p t))) acc = l.foldl (fun acc p => min acc (1 + optF L pl ts (Aqv b p t))) acc := by
     intro l
     induction l with
     | nil => intro acc _; rfl
     | cons x l ihl =>
      intro acc hx
      simp only [List.foldl_cons]
      rw [ih x (hx x List.mem_cons_self), ihl _ fun y hy => hx y (List.mem_cons_of_mem _ hy)]
    refine key _ _ fun x hx => ?_
    have := Aji hx
    omega
   ·rfl
theorem Azn {pl : Int} {m : Nat} {t s : Int} (h : s ∈ Axz pl m t) : -1 <= s /\ s < 6 := by
 unfold Axz at h
 split at h
 ·rw [List.mem_singleton.1 h]; omega
 ·split at h
  ·have := Aji h; omega
  ·rw [List.mem_singleton.1 h]; omega
theorem Ajj {pl : Int} {m : Nat} {t : Int} (h0 : 0 <= t) (h6 : t < 6) (h : inO m t) : Axz pl m t = [-1] /\ Azf m t = 0 := by
 unfold Axz Azf
 rw [(Bqf h0 h6).2 h]
 simp
theorem Aza {pl : Int} {m : Nat} {t : Int} (h : ¬ inO m t) (h0 : 0 <= t) (h6 : t < 6) : Axz pl m t = (if pl <= Aq4 m then Ax4 m else [-1]) /\ Azf m t = 1 := by
 unfold Axz Azf
 have : m.testBit t.toNat ≠ true := fun hb => h ((Bqf h0 h6).1 hb)
 simp [this]
theorem Aja {m : Nat} {x : Int} (h : inO m x) : x ≠ -1 := fun e => by have := h.1; omega
theorem Cjb : ∀ m : Fin 64, ∀ s t : Fin 6, m.val.testBit s.val = true -> m.val.testBit t.val = false -> Aq4 (Aqv m.val (s.val : Int) (t.val : Int)) = Aq4 m.val := by decide +kernel
theorem Cvg : ∀ m : Fin 64, ∀ t : Fin 6, Aq4 (Aqv m.val (-1) (t.val : Int)) <= Aq4 m.val + 1 := by decide +kernel
theorem Bji {m : Nat} {s t : Int} (hm : m < 64) (hs : inO m s) (h0 : 0 <= t) (h6 : t < 6) (ht : ¬ inO m t) : Aq4 (Aqv m s t) = Aq4 m := by
 have := Cjb ⟨m, hm⟩ ⟨s.toNat, by have := hs.1; have := hs.2.1; omega⟩ ⟨t.toNat, by omega⟩ hs.2.2 (by
  cases hb : m.testBit t.toNat
  ·rfl
  ·exact absurd ⟨h0, h6, hb⟩ ht)
 simp only [] at this
 rwa [show ((s.toNat : Nat) : Int) = s by have := hs.1; omega, show ((t.toNat : Nat) : Int) = t by omega] at this
theorem Cqq {m : Nat} {t : Int} (hm : m < 64) (h0 : 0 <= t) (h6 : t < 6) : Aq4 (Aqv m (-1) t) <= Aq4 m + 1 := by
 have := Cvg ⟨m, hm⟩ ⟨t.toNat, by omega⟩
 simp only [] at this
 rwa [show ((t.toNat : Nat) : Int) = t by omega] at this
theorem Cjd {m : Nat} {t : Int} (h0 : 0 <= t) (h6 : t < 6) (ht : inO m t) : Aq4 (Aqv m (-1) t) <= Aq4 m := Aj8 fun x hx => by
 rcases (Ajm (by omega) (by omega) h0 h6).1 hx with rfl | hx
 ·exact ht
 ·exact hx.1
theorem Bq4 (L : Nat) (pl : Int) (h1 : 1 <= pl) {t : Int} {ts : List Int} {a b : Nat} (d : Nat) (hL : (t :: ts).length <= L)
  (h : ∀ s ∈ Axz pl b t, ∃ s' ∈ Axz pl a t, Azf a t + optF L pl ts (Aqv a s' t) <= d + (Azf b t + optF L pl ts (Aqv b s t))) : optF L pl (t :: ts) a <= d + optF L pl (t :: ts) b := by
 obtain ⟨s, hs, he⟩ := Awz L pl h1 t ts b hL
 obtain ⟨s', hs', hle⟩ := h s hs
 have := Avr L pl t ts a s' hs'
 omega
section
variable (L : Nat) (pl : Int) (h1 : 1 <= pl)
structure Fit (pl : Int) (m : Nat) : Prop where
 lt : m < 64
 few : (Aq4 m : Int) <= pl
theorem Fit.next {pl : Int} {m : Nat} {s t : Int} (h : Fit pl m) (h0 : 0 <= t) (h6 : t < 6) (hs : s ∈ Axz pl m t) : Fit pl (Aqv m s t) := by
 refine ⟨Ak9 h.lt (Azn hs).2 h0 h6, ?_⟩
 have hf := h.few
 by_cases ht : inO m t
 ·rw [(Ajj h0 h6 ht).1, List.mem_singleton] at hs
  subst hs
  have := Cjd h0 h6 ht
  omega
 ·rw [(Aza ht h0 h6).1] at hs
  split at hs
  ·have := Bji h.lt (Azg.1 hs) h0 h6 ht
   omega
  ·rw [List.mem_singleton] at hs
   subst hs
   have := Cqq h.lt h0 h6
   omega
include h1 in
theorem Bvt : ∀ (ts : List Int) (a b : Nat), ts.length <= L -> (∀ t ∈ ts, 0 <= t /\ t < 6) -> Fit pl a -> (∀ x, inO b x -> inO a x) -> optF L pl ts a <= optF L pl ts b
 | [], _, _, _, _, _, _ => Nat.le_refl _
 | t :: ts, a, b, hL, ht, hfa, h => by
  have h6 := ht t List.mem_cons_self
  have hts : ∀ x ∈ ts, 0 <= x /\ x < 6 := fun x hx => ht x (List.mem_cons_of_mem _ hx)
  have hL' : ts.length <= L := by simp at hL; omega
  have nx : ∀ (m : Nat) (s : Int), -1 <= s /\ s < 6 -> ∀ x, inO (Aqv m s t) x ↔ x = t ∨ (inO m x /\ x ≠ s) := fun m s h x => Ajm h.1 h.2 h6.1 h6.2
  have := Bq4 L pl h1 (a := a) (b := b) 0 hL fun s hs => by
   have hsr := Azn hs
   have key : ∀ s' ∈ Axz pl a t, (∀ x, inO (Aqv b s t) x -> inO (Aqv a s' t) x) -> optF L pl ts (Aqv a s' t) <= optF L pl ts (Aqv b s t) := fun s' hs' hsub =>
    Bvt ts _ _ hL' hts (hfa.next h6.1 h6.2 hs') hsub
   by_cases hta : inO a t
   ·obtain ⟨ho, hcost⟩ := Ajj (pl := pl) h6.1 h6.2 hta
    refine ⟨-1, by rw [ho]; simp, ?_⟩
    have := key (-1) (by rw [ho]; simp) fun x hx => by
     rcases (nx b s hsr x).1 hx with rfl | hx
     ·exact (nx a (-1) (by omega) _).2 (.inl rfl)
     ·exact (nx a (-1) (by omega) x).2 (.inr ⟨h x hx.1, Aja (h x hx.1)⟩)
    omega
   ·have htb : ¬ inO b t := fun hb => hta (h t hb)
    obtain ⟨hoa, hca⟩ := Aza (pl := pl) hta h6.1 h6.2
    obtain ⟨hob, hcb⟩ := Aza (pl := pl) htb h6.1 h6.2
    suffices ∃ s' ∈ Axz pl a t, ∀ x, inO (Aqv b s t) x -> inO (Aqv a s' t) x by
     obtain ⟨s', hs', hsub⟩ := this
     exact ⟨s', hs', by have := key s' hs' hsub; omega⟩
    by_cases hfu : pl <= Aq4 a
    ·rw [if_pos hfu] at hoa
     rw [hoa]
     by_cases hex : ∃ y, inO a y /\ ¬ inO b y
     ·obtain ⟨y, hya, hyb⟩ := hex
      refine ⟨y, Azg.2 hya, fun x hx => ?_⟩
      rcases (nx b s hsr x).1 hx with rfl | hx
      ·exact (nx a y ⟨by have := hya.1; omega, hya.2.1⟩ _).2 (.inl rfl)
      ·exact (nx a y ⟨by have := hya.1; omega, hya.2.1⟩ x).2 (.inr ⟨h x hx.1, fun e => hyb (e ▸ hx.1)⟩)
     ·have heq : ∀ x, inO a x -> inO b x := fun x hx => Classical.byContradiction fun hn => hex ⟨x, hx, hn⟩
      have hcb : pl <= Aq4 b := by have := Aj8 heq; omega
      rw [if_pos hcb] at hob
      rw [hob] at hs
      have hsb := Azg.1 hs
      refine ⟨s, Azg.2 (h s hsb), fun x hx => ?_⟩
      rcases (nx b s hsr x).1 hx with rfl | hx
      ·exact (nx a s hsr _).2 (.inl rfl)
      ·exact (nx a s hsr x).2 (.inr ⟨h x hx.1, hx.2⟩)
    ·rw [if_neg hfu] at hoa
     rw [hoa]
     refine ⟨-1, by simp, fun x hx => ?_⟩
     rcases (nx b s hsr x).1 hx with rfl | hx
     ·exact (nx a (-1) (by omega) _).2 (.inl rfl)
     ·exact (nx a (-1) (by omega) x).2 (.inr ⟨h x hx.1, Aja hx.1⟩)
  omega
theorem Bz6 {a b : Nat} {q : Int} (hc : Aq4 b <= Aq4 a) (hq : inO b q) (hqa : ¬ inO a q) : ∃ y, inO a y /\ ¬ inO b y := Classical.byContradiction fun hn => by
 have := Cvk (m := a) (n := b) (fun x hx => Classical.byContradiction fun hb => hn ⟨x, hx, hb⟩) hq hqa
 omega
include h1 in
theorem Cx0 : ∀ (ts : List Int) (a b : Nat) (q : Int), ts.length <= L -> (∀ t ∈ ts, 0 <= t /\ t < 6) -> Fit pl a -> Fit pl b -> (∀ x, inO b x -> inO a x ∨ x = q) -> optF L pl ts a <= 1 + optF L pl ts b
 | [], _, _, _, _, _, _, _, _ => by simp [optF]
 | t :: ts, a, b, q, hL, ht, hfa, hfb, h => by
  by_cases hsub : ∀ x, inO b x -> inO a x
  ·have := Bvt L pl h1 (t :: ts) a b hL ht hfa hsub
   omega
  have hq : inO b q /\ ¬ inO a q := Classical.byContradiction fun hn => hsub fun x hx => by
   rcases h x hx with h' | rfl
   ·exact h'
   ·exact Classical.byContradiction fun ha => hn ⟨hx, ha⟩
  have h6 := ht t List.mem_cons_self
  have hts : ∀ x ∈ ts, 0 <= x /\ x < 6 := fun x hx => ht x (List.mem_cons_of_mem _ hx)
  have hL' : ts.length <= L := by simp at hL; omega
  have nx : ∀ (m : Nat) (s : Int), -1 <= s /\ s < 6 -> ∀ x, inO (Aqv m s t) x ↔ x = t ∨ (inO m x /\ x ≠ s) := fun m s h x => Ajm h.1 h.2 h6.1 h6.2
  refine Bq4 L pl h1 (a := a) (b := b) 1 hL fun s hs => ?_
  have hsr := Azn hs
  have key : ∀ s' ∈ Axz pl a t, ∀ q', (∀ x, inO (Aqv b s t) x -> inO (Aqv a s' t) x ∨ x = q') -> optF L pl ts (Aqv a s' t) <= 1 + optF L pl ts (Aqv b s t) := fun s' hs' q' hsub =>
   Cx0 ts _ _ q' hL' hts (hfa.next h6.1 h6.2 hs') (hfb.next h6.1 h6.2 hs) hsub
  by_cases hta : inO a t
  ·obtain ⟨ho, hcost⟩ := Ajj (pl := pl) h6.1 h6.2 hta
   refine ⟨-1, by rw [ho]; simp, ?_⟩
   have := key (-1) (by rw [ho]; simp) q fun x hx => by
    rcases (nx b s hsr x).1 hx with rfl | hx
    ·exact .inl ((nx a (-1) (by omega) _).2 (.inl rfl))
    ·rcases h x hx.1 with h' | h'
     ·exact .inl ((nx a (-1) (by omega) x).2 (.inr ⟨h', Aja h'⟩))
     ·exact .inr h'
   omega
  ·obtain ⟨hoa, hca⟩ := Aza (pl := pl) hta h6.1 h6.2
   by_cases htb : inO b t
   ·
    obtain rfl : t = q := (h t htb).resolve_left hta
    obtain ⟨hob, hcb⟩ := Ajj (pl := pl) h6.1 h6.2 htb
    rw [hob, List.mem_singleton] at hs
    subst hs
    suffices ∃ s' ∈ Axz pl a t, ∀ x, inO (Aqv b (-1) t) x -> inO (Aqv a s' t) x by
     obtain ⟨s', hs', hsub⟩ := this
     have := Bvt L pl h1 ts _ _ hL' hts (hfa.next h6.1 h6.2 hs') hsub
     exact ⟨s', hs', by omega⟩
    by_cases hfu : pl <= Aq4 a
    ·obtain ⟨y, hya, hyb⟩ := Bz6 (a := a) (b := b) (by have := hfb.few; omega) htb hta
     rw [hoa, if_pos hfu]
     refine ⟨y, Azg.2 hya, fun x hx => ?_⟩
     rcases (nx b (-1) (by omega) x).1 hx with rfl | hx
     ·exact (nx a y ⟨by have := hya.1; omega, hya.2.1⟩ _).2 (.inl rfl)
     ·rcases h x hx.1 with h' | rfl
      ·exact (nx a y ⟨by have := hya.1; omega, hya.2.1⟩ x).2 (.inr ⟨h', fun e => hyb (e ▸ hx.1)⟩)
      ·exact (nx a y ⟨by have := hya.1; omega, hya.2.1⟩ _).2 (.inl rfl)
    ·rw [hoa, if_neg hfu]
     refine ⟨-1, by simp, fun x hx => ?_⟩
     rcases (nx b (-1) (by omega) x).1 hx with rfl | hx
     ·exact (nx a (-1) (by omega) _).2 (.inl rfl)
     ·rcases h x hx.1 with h' | rfl
      ·exact (nx a (-1) (by omega) x).2 (.inr ⟨h', Aja h'⟩)
      ·exact (nx a (-1) (by omega) _).2 (.inl rfl)
   ·obtain ⟨hob, hcb⟩ := Aza (pl := pl) htb h6.1 h6.2
    suffices ∃ s' ∈ Axz pl a t, ∃ q', ∀ x, inO (Aqv b s t) x -> inO (Aqv a s' t) x ∨ x = q' by
     obtain ⟨s', hs', q', hsub⟩ := this
     exact ⟨s', hs', by have := key s' hs' q' hsub; omega⟩
    by_cases hfu : pl <= Aq4 a
    ·rw [hoa, if_pos hfu]
     obtain ⟨y, hya, hyb⟩ := Bz6 (a := a) (b := b) (by have := hfb.few; omega) hq.1 hq.2
     refine ⟨y, Azg.2 hya, q, fun x hx => ?_⟩
     rcases (nx b s hsr x).1 hx with rfl | hx
     ·exact .inl ((nx a y ⟨by have := hya.1; omega, hya.2.1⟩ _).2 (.inl rfl))
     ·rcases h x hx.1 with h' | h'
      ·exact .inl ((nx a y ⟨by have := hya.1; omega, hya.2.1⟩ x).2 (.inr ⟨h', fun e => hyb (e ▸ hx.1)⟩))
      ·exact .inr h'
    ·rw [hoa, if_neg hfu]
     refine ⟨-1, by simp, q, fun x hx => ?_⟩
     rcases (nx b s hsr x).1 hx with rfl | hx
     ·exact .inl ((nx a (-1) (by omega) _).2 (.inl rfl))
     ·rcases h x hx.1 with h' | h'
      ·exact .inl ((nx a (-1) (by omega) x).2 (.inr ⟨h', Aja h'⟩))
      ·exact .inr h'
include h1 in
theorem Bw4 : ∀ (ts : List Int) (a b : Nat) (p q : Int), ts.length <= L -> (∀ t ∈ ts, 0 <= t /\ t < 6) -> Fit pl a -> Fit pl b -> inO a p -> ¬ inO b p -> inO b q -> ¬ inO a q -> (∀ x, x ≠ p -> x ≠ q -> (inO a x ↔ inO b x)) ->
  ts.findIdx (· == p) <= ts.findIdx (· == q) -> optF L pl ts a <= optF L pl ts b
 | [], _, _, _, _, _, _, _, _, _, _, _, _, _, _ => Nat.le_refl _
 | t :: ts, a, b, p, q, hL, ht, hfa, hfb, hap, hbp, hbq, haq, h, hidx => by
  have h6 := ht t List.mem_cons_self
  have hts : ∀ x ∈ ts, 0 <= x /\ x < 6 := fun x hx => ht x (List.mem_cons_of_mem _ hx)
  have hL' : ts.length <= L := by simp at hL; omega
  have nx : ∀ (m : Nat) (s : Int), -1 <= s /\ s < 6 -> ∀ x, inO (Aqv m s t) x ↔ x = t ∨ (inO m x /\ x ≠ s) := fun m s h x => Ajm h.1 h.2 h6.1 h6.2
  have hpq : p ≠ q := fun e => haq (e ▸ hap)
  rw [List.findIdx_cons, List.findIdx_cons] at hidx
  by_cases htq : t = q
  ·exfalso
   have h2 : (t == p) = false := by simp; omega
   simp [htq, h2] at hidx
   rw [htq] at h2
   simp [h2] at hidx
  have htq' : (t == q) = false := by simpa using htq
  by_cases htp : t = p
  ·subst htp
   have := Bq4 L pl h1 (a := a) (b := b) 0 hL fun s hs => by
    have hsr := Azn hs
    obtain ⟨hoa, hca⟩ := Ajj (pl := pl) h6.1 h6.2 hap
    obtain ⟨hob, hcb⟩ := Aza (pl := pl) hbp h6.1 h6.2
    have hm : (-1 : Int) ∈ Axz pl a t := by rw [hoa]; simp
    refine ⟨-1, hm, ?_⟩
    have := Cx0 L pl h1 ts (Aqv a (-1) t) (Aqv b s t) q hL' hts (hfa.next h6.1 h6.2 hm) (hfb.next h6.1 h6.2 hs) fun x hx => by
     rcases (nx b s hsr x).1 hx with rfl | hx
     ·exact .inl ((nx a (-1) (by omega) _).2 (.inl rfl))
     ·by_cases hxq : x = q
      ·exact .inr hxq
      ·by_cases hxp : x = t
       ·exact absurd (hxp ▸ hx.1) hbp
       ·have := (h x hxp hxq).2 hx.1
        exact .inl ((nx a (-1) (by omega) x).2 (.inr ⟨this, Aja this⟩))
    omega
   omega
  have htp' : (t == p) = false := by simpa using htp
  rw [htq', htp'] at hidx
  simp only [cond_false] at hidx
  have htab : inO a t ↔ inO b t := h t htp htq
  have key : ∀ s, s ∈ Axz pl a t -> s ∈ Axz pl b t -> s ≠ p -> s ≠ q -> optF L pl ts (Aqv a s t) <= optF L pl ts (Aqv b s t) := fun s hsa hsb hsp hsq => by
   have hsr := Azn hsa
   refine Bw4 ts _ _ p q hL' hts (hfa.next h6.1 h6.2 hsa) (hfb.next h6.1 h6.2 hsb) ((nx a s hsr p).2 (.inr ⟨hap, hsp.symm⟩)) (fun hx => ?_) ((nx b s hsr q).2 (.inr ⟨hbq, hsq.symm⟩)) (fun hx => ?_) (fun x hxp hxq => ?_) (by omega)
   ·rcases (nx b s hsr p).1 hx with e | e
    ·exact htp e.symm
    ·exact hbp e.1
   ·rcases (nx a s hsr q).1 hx with e | e
    ·exact htq e.symm
    ·exact haq e.1
   ·rw [nx a s hsr x, nx b s hsr x, h x hxp hxq]
  have := Bq4 L pl h1 (a := a) (b := b) 0 hL fun s hs => by
   have hsr := Azn hs
   by_cases hta : inO a t
   ·obtain ⟨hoa, hca⟩ := Ajj (pl := pl) h6.1 h6.2 hta
    obtain ⟨hob, hcb⟩ := Ajj (pl := pl) h6.1 h6.2 (htab.1 hta)
    have hs1 := hs
    rw [hob, List.mem_singleton] at hs1
    subst hs1
    have := key (-1) (by rw [hoa]; simp) hs (fun e => Aja hap e.symm) (fun e => Aja hbq e.symm)
    exact ⟨-1, by rw [hoa]; simp, by omega⟩
   ·obtain ⟨hoa, hca⟩ := Aza (pl := pl) hta h6.1 h6.2
    obtain ⟨hob, hcb⟩ := Aza (pl := pl) (fun hb => hta (htab.2 hb)) h6.1 h6.2
    have hcount : Aq4 a = Aq4 b := by
     have h0 := hbq.1
     have h7 := hbq.2.1
     rw [<- Bji hfa.lt hap h0 h7 haq]
     have hx : ∀ x, inO (Aqv a p q) x ↔ inO b x := fun x => by
      rw [Ajm (by have := hap.1; omega) hap.2.1 h0 h7]
      constructor
      ·rintro (rfl | hx)
       ·exact hbq
       ·by_cases hxq : x = q
        ·rw [hxq]; exact hbq
        ·exact (h x hx.2 hxq).1 hx.1
      ·intro hx
       by_cases hxq : x = q
       ·exact .inl hxq
       ·have hxp : x ≠ p := fun e => hbp (e ▸ hx)
        exact .inr ⟨(h x hxp hxq).2 hx, hxp⟩
     exact Nat.le_antisymm (Aj8 fun x hx' => (hx x).1 hx') (Aj8 fun x hx' => (hx x).2 hx')
    by_cases hfu : pl <= Aq4 a
    ·rw [if_pos hfu] at hoa
     rw [if_pos (by omega)] at hob
     have hsb := hs
     rw [hob] at hsb
     have hsb := Azg.1 hsb
     by_cases hsq : s = q
     ·subst hsq
      refine ⟨p, by rw [hoa]; exact Azg.2 hap, ?_⟩
      have := Cxz L pl ts (Aqv a p t) (Aqv b s t) hts fun x => by
       rw [nx a p ⟨by have := hap.1; omega, hap.2.1⟩ x, nx b s hsr x]
       by_cases hxt : x = t
       ·simp [hxt]
       ·simp only [hxt, false_or]
        by_cases hxp : x = p
        ·subst hxp; simp [hbp]
        ·by_cases hxq : x = s
         ·subst hxq; simp [haq]
         ·rw [h x hxp hxq]; simp [hxp, hxq]
      omega
     ·have hsp : s ≠ p := fun e => hbp (e ▸ hsb)
      have hsa : s ∈ Axz pl a t := by rw [hoa]; exact Azg.2 ((h s hsp hsq).2 hsb)
      have := key s hsa hs hsp hsq
      exact ⟨s, hsa, by omega⟩
    ·rw [if_neg hfu] at hoa
     rw [if_neg (by omega)] at hob
     have hs1 := hs
     rw [hob, List.mem_singleton] at hs1
     subst hs1
     have := key (-1) (by rw [hoa]; simp) hs (fun e => Aja hap e.symm) (fun e => Aja hbq e.symm)
     exact ⟨-1, by rw [hoa]; simp, by omega⟩
  omega
include h1 in
theorem Cvv (t : Int) (ts : List Int) (m : Nat) (q : Int) (hL : (t :: ts).length <= L) (ht : ∀ x ∈ t :: ts, 0 <= x /\ x < 6) (hf : Fit pl m) (htm : ¬ inO m t) (hfu : pl <= Aq4 m) (hq : inO m q) (hlast : ∀ p, inO m p -> ts.findIdx (· == p) <= ts.findIdx (· == q)) :
  1 + optF L pl ts (Aqv m q t) = optF L pl (t :: ts) m := by
 have h6 := ht t List.mem_cons_self
 have hts : ∀ x ∈ ts, 0 <= x /\ x < 6 := fun x hx => ht x (List.mem_cons_of_mem _ hx)
 have hL' : ts.length <= L := by simp at hL; omega
 have nx : ∀ (m : Nat) (s : Int), -1 <= s /\ s < 6 -> ∀ x, inO (Aqv m s t) x ↔ x = t ∨ (inO m x /\ x ≠ s) := fun m s h x => Ajm h.1 h.2 h6.1 h6.2
 obtain ⟨ho, hc⟩ := Aza (pl := pl) htm h6.1 h6.2
 rw [if_pos hfu] at ho
 have hqo : q ∈ Axz pl m t := by rw [ho]; exact Azg.2 hq
 have h2 := Avr L pl t ts m q hqo
 obtain ⟨s, hs, he⟩ := Awz L pl h1 t ts m hL
 have hso := hs
 rw [ho] at hs
 have hs := Azg.1 hs
 have hqr := Azn hqo
 have hsr := Azn hso
 have h3 : optF L pl ts (Aqv m q t) <= optF L pl ts (Aqv m s t) := by
  by_cases hsq : s = q
  ·rw [hsq]; exact Nat.le_refl _
  ·have hst : s ≠ t := fun e => htm (e ▸ hs)
   have hqt : q ≠ t := fun e => htm (e ▸ hq)
   refine Bw4 L pl h1 ts _ _ s q hL' hts (hf.next h6.1 h6.2 hqo) (hf.next h6.1 h6.2 hso) ((nx m q hqr s).2 (.inr ⟨hs, hsq⟩)) (fun hx => ?_) ((nx m s hsr q).2 (.inr ⟨hq, fun e => hsq e.symm⟩)) (fun hx => ?_) (fun x hxs hxq => ?_) (hlast s hs)
   ·rcases (nx m s hsr s).1 hx with e | e
    ·exact hst e
    ·exact e.2 rfl
   ·rcases (nx m q hqr q).1 hx with e | e
    ·exact hqt e
    ·exact e.2 rfl
   ·rw [nx m q hqr x, nx m s hsr x]
    simp [hxs, hxq]
 omega
end
theorem Bjn (rk : Int -> Int) : ∀ (l : List Int) (c : Int), (∀ x ∈ l, 0 <= x) -> (c < 0 -> l ≠ []) ->
  let r := l.foldl (fun c q => if c < 0 ∨ rk q < rk c then q else c) c
  (r ∈ l ∨ (r = c /\ 0 <= c)) /\ (∀ x ∈ l, rk r <= rk x) /\ (0 <= c -> rk r <= rk c)
 | [], c, _, hc => by
  refine ⟨.inr ⟨rfl, ?_⟩, by simp, fun _ => Int.le_refl _⟩
  exact Int.not_lt.1 fun h => hc h rfl
 | x :: l, c, hl, hc => by
  have hx := hl x List.mem_cons_self
  simp only [List.foldl_cons]
  by_cases hif : c < 0 ∨ rk x < rk c
  ·rw [if_pos hif]
   obtain ⟨h1, h2, h3⟩ := Bjn rk l x (fun y hy => hl y (List.mem_cons_of_mem _ hy)) (by omega)
   refine ⟨.inl ?_, fun y hy => ?_, fun h => ?_⟩
   ·rcases h1 with h1 | h1
    ·exact List.mem_cons_of_mem _ h1
    ·rw [h1.1]; exact List.mem_cons_self
   ·rcases List.mem_cons.1 hy with rfl | hy
    ·exact h3 hx
    ·exact h2 y hy
   ·have := h3 hx; omega
  ·rw [if_neg hif]
   have hc0 : 0 <= c := by omega
   obtain ⟨h1, h2, h3⟩ := Bjn rk l c (fun y hy => hl y (List.mem_cons_of_mem _ hy)) (by omega)
   refine ⟨?_, fun y hy => ?_, h3⟩
   ·rcases h1 with h1 | h1
    ·exact .inl (List.mem_cons_of_mem _ h1)
    ·exact .inr h1
   ·rcases List.mem_cons.1 hy with rfl | hy
    ·have := h3 hc0; omega
    ·exact h2 y hy
theorem Bkm (rk : Int -> Int) (m : Nat) (h : 0 < Aq4 m) : inO m (Awp rk (Ax4 m)) /\ ∀ x, inO m x -> rk (Awp rk (Ax4 m)) <= rk x := by
 obtain ⟨h1, h2, _⟩ := Bjn rk (Ax4 m) (-1) (fun x hx => (Aji hx).1) (fun _ hn => by
  have := Akx m; rw [hn] at this; simp at this; omega)
 refine ⟨?_, fun x hx => h2 x (Azg.2 hx)⟩
 rcases h1 with h1 | h1
 ·exact Azg.1 h1
 ·omega
theorem Bjr {pl : Int} {m : Nat} {t : Int} (h0 : 0 <= t) (h6 : t < 6) : Bjq pl m t = true ↔ ¬ inO m t /\ pl <= Aq4 m := by
 unfold Bjq
 rw [Bool.and_eq_true, Bool.not_eq_true', decide_eq_true_eq, <- Bqf h0 h6]
 simp
theorem Bko {pl r : Int} {ts : List Int} {i : Nat} {t : Int} {s : RS} (h1 : 1 <= pl) (h0 : 0 <= t) (h6 : t < 6) : Bqk pl r ts i t s ∈ Axz pl s.m t := by
 unfold Bqk
 by_cases hs : Bjq pl s.m t = true
 ·rw [if_pos hs]
  obtain ⟨hm, hf⟩ := (Bjr h0 h6).1 hs
  rw [(Aza hm h0 h6).1, if_pos hf]
  exact Azg.2 (Bkm _ s.m (by omega)).1
 ·rw [if_neg hs]
  by_cases hm : inO s.m t
  ·rw [(Ajj h0 h6 hm).1]; simp
  ·rw [(Aza hm h0 h6).1, if_neg (fun hf => hs ((Bjr h0 h6).2 ⟨hm, hf⟩))]; simp
theorem Dzn {ts : List Int} {i : Nat} (h : i < ts.length) : ts.drop i = ts.getD i 0 :: ts.drop (i + 1) := by
 rw [List.drop_eq_getElem_cons h]
 simp [List.getD, List.getElem?_eq_getElem h]
theorem Dj3 {ts : List Int} {i : Nat} (h : i < ts.length) (hb : ∀ t ∈ ts, 0 <= t /\ t < 6) : 0 <= ts.getD i 0 /\ ts.getD i 0 < 6 := by
 simp [List.getD, List.getElem?_eq_getElem h]
 exact hb _ (List.getElem_mem _)
theorem Djc (s : RS) (pl r : Int) (ts : List Int) (i : Nat) (t : Int) : (rstep pl r ts i t s).f = s.f + Azf s.m t := by
 simp [rstep, Azf]
theorem Cx2 {pl r : Int} {ts : List Int} {s0 : RS} (h1 : 1 <= pl) (hb : ∀ t ∈ ts, 0 <= t /\ t < 6) (hf : Fit pl s0.m) : ∀ i, i <= ts.length -> Fit pl (rrun pl r ts s0 i).m
 | 0, _ => hf
 | i + 1, h => by
  have h6 := Dj3 (i := i) (by omega) hb
  exact (Cx2 h1 hb hf i (by omega)).next h6.1 h6.2 (Bko h1 h6.1 h6.2)
theorem Byb {pl : Int} {ts : List Int} {s0 : RS} (L : Nat) (hL : ts.length <= L) (h1 : 1 <= pl) (hb : ∀ t ∈ ts, 0 <= t /\ t < 6) (hf : Fit pl s0.m) : ∀ i, i <= ts.length -> s0.f + optF L pl ts s0.m = (rrun pl 3 ts s0 i).f + optF L pl (ts.drop i) (rrun pl 3 ts s0 i).m
 | 0, _ => rfl
 | i + 1, h => by
  have ih := Byb (s0 := s0) L hL h1 hb hf i (by omega)
  have hfi := Cx2 (r := 3) h1 hb hf i (by omega)
  have h6 := Dj3 (i := i) (by omega) hb
  rw [Dzn (by omega)] at ih
  rw [rrun, Djc]
  have e : (rstep pl 3 ts i (ts.getD i 0) (rrun pl 3 ts s0 i)).m = Aqv (rrun pl 3 ts s0 i).m (Bqk pl 3 ts i (ts.getD i 0) (rrun pl 3 ts s0 i)) (ts.getD i 0) := rfl
  rw [e]
  generalize rrun pl 3 ts s0 i = s at *
  have hdl : (ts.getD i 0 :: ts.drop (i + 1)).length <= L := by rw [<- Dzn (by omega), List.length_drop]; omega
  have hin : ∀ x ∈ ts.getD i 0 :: ts.drop (i + 1), 0 <= x /\ x < 6 := fun x hx => hb x (by
   rw [<- Dzn (by omega)] at hx
   exact List.mem_of_mem_drop hx)
  have hmem := Bko (pl := pl) (r := 3) (ts := ts) (i := i) (s := s) h1 h6.1 h6.2
  by_cases hm : inO s.m (ts.getD i 0)
  ·obtain ⟨ho, hc⟩ := Ajj (pl := pl) h6.1 h6.2 hm
   obtain ⟨s', hs', he⟩ := Awz L pl h1 (ts.getD i 0) (ts.drop (i + 1)) s.m hdl
   rw [ho, List.mem_singleton] at hs' hmem
   rw [hmem]
   rw [hs'] at he
   omega
  ·obtain ⟨ho, hc⟩ := Aza (pl := pl) hm h6.1 h6.2
   by_cases hfu : pl <= Aq4 s.m
   ·have hs : Bqk pl 3 ts i (ts.getD i 0) s = Awp (Awc 3 s.came s.asked (Azu ts (i + 1))) (Ax4 s.m) := by
     unfold Bqk
     rw [if_pos ((Bjr h6.1 h6.2).2 ⟨hm, hfu⟩)]
     rfl
    obtain ⟨hq, hmin⟩ := Bkm (Awc 3 s.came s.asked (Azu ts (i + 1))) s.m (by omega)
    rw [<- hs] at hq hmin
    have := Cvv L pl h1 (ts.getD i 0) (ts.drop (i + 1)) s.m _ hdl hin hfi hm hfu hq fun p hp => by
     have := hmin p hp
     unfold Awc at this
     simp only [Int.reduceEq, if_false] at this
     rw [Bkg _ _ _ hq.1 hq.2.1, Bkg _ _ _ hp.1 hp.2.1] at this
     unfold nxt at this
     omega
    omega
   ·obtain ⟨s', hs', he⟩ := Awz L pl h1 (ts.getD i 0) (ts.drop (i + 1)) s.m hdl
    rw [ho, if_neg hfu, List.mem_singleton] at hs' hmem
    rw [hmem]
    rw [hs'] at he
    omega
theorem Cvo {m : Nat} {n x : Int} (h0 : 0 <= n) (h6 : n < 6) : inO (Aky m n.toNat) x ↔ x = n ∨ inO m x := by
 have := Ajm (m := m) (s := -1) (t := n) (x := x) (by omega) (by omega) h0 h6
 have e : Aqv m (-1) n = Aky m n.toNat := by simp [Aqv]
 rw [e] at this
 rw [this]
 constructor
 ·rintro (h | h)
  ·exact .inl h
  ·exact .inr h.1
 ·rintro (h | h)
  ·exact .inl h
  ·exact .inr ⟨h, Aja h⟩
theorem Cvm : ∀ (xs : List Int) (m : Nat) (x : Int), (∀ y ∈ xs, 0 <= y /\ y < 6) -> (inO (xs.foldl (fun m x => Aky m x.toNat) m) x ↔ x ∈ xs ∨ inO m x)
 | [], m, x, _ => by simp
 | y :: xs, m, x, h => by
  have hy := h y List.mem_cons_self
  rw [List.foldl_cons, Cvm xs _ x fun z hz => h z (List.mem_cons_of_mem _ hz), Cvo hy.1 hy.2, List.mem_cons]
  constructor
  ·rintro (h | h | h)
   ·exact .inl (.inr h)
   ·exact .inl (.inl h)
   ·exact .inr h
  ·rintro ((h | h) | h)
   ·exact .inr (.inl h)
   ·exact .inl h
   ·exact .inr (.inr h)
theorem Cyx (x : Int) : ¬ inO 0 x := fun h => by have := h.2.2; simp at this
theorem Cv4 {start : List Int} (h : ∀ y ∈ start, 0 <= y /\ y < 6) (x : Int) : inO (oOf start) x ↔ x ∈ start := by
 rw [oOf, Cvm start 0 x h]
 exact ⟨fun h => h.resolve_right (Cyx x), .inl⟩
theorem Cwb : ∀ m : Fin 64, ∀ t : Fin 6, Aq4 (Aky m.val t.val) <= Aq4 m.val + 1 := by decide +kernel
theorem Bw0 : ∀ (xs : List Int) (m : Nat), m < 64 -> (∀ y ∈ xs, 0 <= y /\ y < 6) -> Aq4 (xs.foldl (fun m x => Aky m x.toNat) m) <= Aq4 m + xs.length
 | [], m, _, _ => Nat.le_refl _
 | y :: xs, m, hm, h => by
  have hy := h y List.mem_cons_self
  rw [List.foldl_cons]
  have h1 := Bw0 xs _ (Bq3 hm hy.1 hy.2) fun z hz => h z (List.mem_cons_of_mem _ hz)
  have h2 := Cwb ⟨m, hm⟩ ⟨y.toNat, by omega⟩
  simp only [] at h2
  simp only [List.length_cons]
  omega
theorem Cv3 {pl : Int} {start : List Int} (h : ∀ y ∈ start, 0 <= y /\ y < 6) (hl : (start.length : Int) <= pl) : Fit pl (oOf start) := by
 refine ⟨Ava start 0 (by omega) h, ?_⟩
 have := Bw0 start 0 (by omega) h
 have h0 : Aq4 0 = 0 := by decide
 unfold oOf
 omega
end Go.Proofs.YtgniilnljeedlaaGreatDoor
end
section
namespace Go.X
open Go
open Go.Conc
section
variable {P : Program} {T : Goroutine -> Hp -> Prop} {γ : Gh}
end
abbrev Dkb := Gh -> Exit -> Act -> Hp -> Prop
section
variable {P : Program} {γ : Gh} {Q : Dkb} {a : Act} {H : Hp}
theorem Bjt {main : Md} {b : Frame} {k : List Item} {cs : List Frame} {w : World} {ops : Array Oper} {i : Nat} {rest : List Nat} {o : Oper} {d : Deferred} {f : Fn} {c : Array Value} (ho : ops[i]? = some o) (hw : Region.wanted o (yielded ops a.tmps) = true)
  (hk : b.kind ≠ .early) (hl : b.roundOf = none) (hr : (execOp a.eval o).runT P w #[] = (.ok (.spawn d) w, #[])) (hd : d.target = .fn f c) :
  stepG P main (G (fat b a (.inRegion ops (i :: rest) :: k)) cs) w = .spawn (G (fat b (a.put o.dst undef) (.inRegion ops rest :: k)) cs) (born P d) w #[] := by
 have hk' : (b.kind == CallKind.early) = false := by simpa using hk
 have hfin : (fat b a (.inRegion ops (i :: rest) :: k)).finish undef = fat b (a.put o.dst undef) (.inRegion ops rest :: k) := by rw [Ax9, ho]; rfl
 rw [stepG_op ho hw (.inl hl), <- hfin]
 simp [stepG.apply, hr, G, fat, hk', GStep.after, born, hd, seen_none, -Sem.runT_eq]
theorem Ayk {main : Md} {b : Frame} {k : List Item} {cs : List Frame} {w : World} {ops : Array Oper} {i : Nat} {rest : List Nat} {o : Oper} {cases : Array CommCase} {bl : Bool} {shape : CommShape} (ho : ops[i]? = some o) (hw : Region.wanted o (yielded ops a.tmps) = true)
  (hk : b.kind ≠ .early) (hl : b.roundOf = none) (hr : (execOp a.eval o).runT P w #[] = (.ok (.comm cases bl shape) w, #[])) :
  stepG P main (G (fat b a (.inRegion ops (i :: rest) :: k)) cs) w = .comm (G (fat b a (.inRegion ops (i :: rest) :: k)) cs) cases bl shape w #[] := by
 have hk' : (b.kind == CallKind.early) = false := by simpa using hk
 rw [stepG_op ho hw (.inl hl)]
 simp [stepG.apply, hr, G, fat, hk', GStep.after, seen_none, -Sem.runT_eq]
theorem Ck7 {b : Frame} {k : List Item} {cs : List Frame} {ops : Array Oper} {i : Nat} {rest : List Nat} {o : Oper} (ho : ops[i]? = some o) (cases : Array CommCase) (shape : CommShape) (j : Int) (v : Value) (ok : Bool) :
  (G (fat b a (.inRegion ops (i :: rest) :: k)) cs).finishComm P cases shape j v ok = G (fat b (a.put o.dst (commResult cases shape j v ok)) (.inRegion ops rest :: k)) cs := by
 have hfin : ∀ v, (fat b a (.inRegion ops (i :: rest) :: k)).finish v = fat b (a.put o.dst v) (.inRegion ops rest :: k) := fun v => by rw [Ax9, ho]; rfl
 simp [Goroutine.finishComm, G, hfin]
end
end Go.X
end
section
namespace Go.X
open Go
open Go.Conc
def Ak6 (P : Program) : Frame := { (default : Frame) with fn := P.funcs.size, defers := [], mode := .panicking [goexitEntry] }
section
variable {P : Program} {md : Md} {Stop : Goroutine -> Hp -> Prop} {H : Hp} {a : Act}
theorem WPG.born {f : FuncId} {cap args : Array Value} (hcall : ∀ (args : Array Value) (H : Hp) (K : Next -> Hp -> Prop) (E : Value -> Hp -> Prop), wpS P (callFunc f args) H K E = K (.enter f args) H)
  (h : WPG P md Stop (G (Frame.enter P f (args ++ cap) .deferred) [Ak6 P]) H) : WPG P md Stop (Go.Conc.born P { target := .fn (.func f) cap, args := args }) H := by
 have h2 : wpS P (invoke (.fn (.func f) cap) args) H (fun x H' => x = .enter f (args ++ cap) /\ H' = H) (fun _ _ => False) := by
  simp only [invoke]
  rw [hcall]
  exact ⟨rfl, rfl⟩
 refine WPG.tree (s := invoke (.fn (.func f) cap) args) rfl h2 (fun g' H' => g' = G (Frame.enter P f (args ++ cap) .deferred) [Ak6 P] /\ H' = H) (fun w w' H' es v hr' hm' hk' => ?_) (fun _ _ _ _ _ _ _ he => he.elim) ?_
 ·obtain ⟨rfl, rfl⟩ := hk'
  refine ⟨_, seen P P.funcs.size es, ?_, fun e => mem_seen, rfl, rfl⟩
  simp [Go.Conc.born, stepG, unwind, callDeferred, G, hr', GStep.after, Ak6, -Sem.runT_eq]
 ·rintro g' H' ⟨rfl, rfl⟩
  exact h
theorem Ayt {f : FuncId} {fn : Func} {c : Code} (args : Array Value) (hf : P.funcs[f]? = some fn) (hb : fn.body = some c) :
  Frame.enter P f args .deferred = fat (baseD f) { tmps := args ++ Array.replicate (fn.ntmps - args.size) undef, defers := [] } [.code c] := by
 simp [Frame.enter, fat, hf, hb, baseD]
 rfl
theorem Cjl {n : Nat} {g g' : Goroutine} (hs : g.status = .running) (h : ∀ w, stepG P false g w = .go g' w #[]) (hq : QuitsIn P n g') : QuitsIn P (n + 1) g := .inr ⟨hs, g', h, hq⟩
theorem WPG.op {b : Frame} {k : List Item} {cs : List Frame} {ops : Array Oper} {i : Nat} {rest : List Nat} {o : Oper} (ho : ops[i]? = some o) (hw : Region.wanted o (yielded ops a.tmps) = true) (hk : b.kind ≠ .early) (hl : b.roundOf = none)
  (h : opX P md none o a H (fun a' H' => WPG P md Stop (G (fat b a' (.inRegion ops rest :: k)) cs) H') fun _ _ _ => False) : WPG P md Stop (G (fat b a (.inRegion ops (i :: rest) :: k)) cs) H := by
 have hk' : (b.kind == CallKind.early) = false := by simpa using hk
 have hfin : ∀ v, (fat b a (.inRegion ops (i :: rest) :: k)).finish v = fat b (a.put o.dst v) (.inRegion ops rest :: k) := fun v => by rw [Ax9, ho]; rfl
 refine .step (fun g' H' => WPG P md Stop g' H') rfl (fun w hs => ?_) fun _ _ h => h
 rw [stepG_op ho hw (.inl hl)]
 obtain ⟨es, w', H', hm, r, hr, hd'⟩ := Ak5 _ w hs h
 have hm' : Moves H w (seen P b.fn es) H' w' := hm.seen b.fn
 have hr0 : (execOp a.eval o).runT P w #[] = (r, es) := by rw [hr #[]]; simp
 rcases hd' with ⟨x, rfl, hx⟩ | ⟨v, rfl, hv⟩
 ·cases x with
  | value v =>
   refine ⟨G (fat b (a.put o.dst v) (.inRegion ops rest :: k)) cs, w', seen P b.fn es, H', ?_, hm', hx⟩
   rw [<- hfin]
   simp [stepG.apply, hr0, G, fat, hk', GStep.after, -Sem.runT_eq]
  | skip =>
   refine ⟨G (fat b (a.put o.dst undef) (.inRegion ops rest :: k)) cs, w', seen P b.fn es, H', ?_, hm', hx⟩
   rw [<- hfin]
   simp [stepG.apply, hr0, G, fat, hk', GStep.after, -Sem.runT_eq]
  | defer d =>
   refine ⟨G (fat b ({ a with defers := d :: a.defers }.put o.dst undef) (.inRegion ops rest :: k)) cs, w', seen P b.fn es, H', ?_, hm', hx.2⟩
   have : ({ fat b a (.inRegion ops (i :: rest) :: k) with defers := d :: a.defers } : Frame).finish undef = fat b ({ a with defers := d :: a.defers }.put o.dst undef) (.inRegion ops rest :: k) := by
    have := Ax9 b { a with defers := d :: a.defers } ops i rest k undef
    rw [ho] at this
    exact this
   rw [<- this]
   simp [stepG.apply, hr0, G, fat, hk', GStep.after, -Sem.runT_eq]
  | enter f args =>
   refine ⟨G (Frame.enter P f args .normal) (fat b a (.inRegion ops (i :: rest) :: k) :: cs), w', seen P b.fn es, H', ?_, hm', ?_⟩
   ·simp [stepG.apply, hr0, G, fat, hk', GStep.after, -Sem.runT_eq]
   ·refine hx _ _ Stop (fun v H₁ r => ?_) fun ch H₁ r => ?_
    ·rw [hfin]; exact r
    ·exact r.elim
  | round l f tmps ars body =>
   refine ⟨G (Frame.round l f tmps ars body .normal) (fat b a (.inRegion ops (i :: rest) :: k) :: cs), w', seen P b.fn es, H', ?_, hm', ?_⟩
   ·simp [stepG.apply, hr0, G, fat, hk', GStep.after, -Sem.runT_eq]
   ·refine hx _ _ Stop (fun v H₁ r => ?_) fun ch H₁ r => ?_
    ·rw [hfin]; exact r
    ·exact r.elim
  | _ => exact hx.elim
 ·exact hv.elim
end
end Go.X
end
section
namespace Go.X
open Go
open Go.Conc
section
variable {P : Program} {md : Md} {Stop : Goroutine -> Hp -> Prop} {ops : Array Oper} {s : Nat} {K : Act -> Hp -> Prop}
def left (ops : Array Oper) (listed : Array Bool) : Nat := (List.range ops.size).countP fun i => !listed.getD i false
end
end Go.X
end
section
namespace Go.X
open Go
open Go.Conc
section
variable {P : Program} {main : Md} {lp : Option Nat} {Q : Exit -> Act -> Hp -> Prop} {a : Act} {H : Hp}
theorem Bz5 (a : Act) (d : Option Tmp) (ty : TypeId) (pos : String) (af : Array Edge) (g : Option (Nat × Bool)) (K : Next -> Hp -> Prop) (E : Value -> Hp -> Prop) (t : TypeId) (x : Operand) :
 wpS P (execOp a.eval ⟨d, .makeChan t x, ty, pos, af, g⟩) H K E = wpS P (Instr.makeChan t (a.eval x)) H (fun v H' => K (.value v) H') E := Aqb _ _ _ _
theorem Bjf {t e : TypeId} {dir : ChanDir} (hu : P.underlying t = some (.chan dir e)) {inf : TypeInfo} (hi : ∀ w, (typeInfo e).run P w = .ok inf w) (hb : inf.bytes <= 1024) (k : IntKind) (n : Int) (h0 : 0 <= n) (h1 : n <= 1000) (K : Value -> Hp -> Prop) (E : Value -> Hp -> Prop) :
  wpS P (Instr.makeChan t (.int k n)) H K E = ∀ b, H b = none -> K (.chan (some b)) (H.set b (.chan n.toNat #[] false 0 0 false)) := by
 have hle : inf.bytes * n.toNat <= 1024 * 1000 := Nat.mul_le_mul hb (by omega)
 have hle2 : ¬ ((inf.bytes : Int) * n > 2 ^ 48 - 112) := by
  have : (inf.bytes : Int) * n = ((inf.bytes * n.toNat : Nat) : Int) := by push_cast; rw [Int.toNat_of_nonneg h0]
  rw [this]; omega
 have hmax : IntKind.i64.max = 9223372036854775807 := by decide
 have hif : ¬ (9223372036854775807 < n ∨ 281474976710544 < (inf.bytes : Int) * n) := by
  rintro (h | h)
  ·omega
  ·exact hle2 (by simpa using h)
 unfold Instr.makeChan
 simp [-bind_pure_comp, Aqb, asInt, asIntOf, Aqi, Aqj hu, Ave (Av6 hi), show ¬ n < 0 by omega, hmax]
 rw [if_neg hif]
 rfl
theorem Cqx {t e : TypeId} (hu : P.underlying t = some (.slice e)) {n : Nat} (hs : ∀ w, (sizeOf e).run P w = .ok n w) (x : Option Addr) (len cap : Nat) (k k' : IntKind) (i j : Int) (h0 : 0 <= i) (h1 : i <= j) (h2 : j <= cap) (K : Value -> Hp -> Prop) (E : Value -> Hp -> Prop) :
  wpS P (Instr.sliceAt t (.slice x len cap) (none : Option Value) (some (.int k i)) (some (.int k' j))) H K E = K (.slice (if j.toNat = 0 then x else x.map (·.add 0)) i.toNat j.toNat) H := by
 unfold Instr.sliceAt Instr.slice Instr.sliceBounds
 simp [-bind_pure_comp, Aqb, Aqj hu, Aqi, Akw k' j cap _ (by omega) h2, Akw k i j.toNat _ h0 (by omega), Axf hs]
theorem add_zero' (x : Option Addr) : x.map (·.add 0) = x := by
 cases x with
 | none => rfl
 | some a => obtain ⟨b, o, s⟩ := a; cases s <;> rfl
theorem Avc {t e : TypeId} (hu : P.underlying t = some (.slice e)) {n : Nat} (hs : ∀ w, (sizeOf e).run P w = .ok n w) (x : Option Addr) (len cap : Nat) (k k' : IntKind) (i j : Int) (h0 : 0 <= i) (h1 : i <= j) (h2 : j <= cap) (K : Value -> Hp -> Prop) (E : Value -> Hp -> Prop) :
  wpS P (Instr.sliceAt t (.slice x len cap) (none : Option Value) (some (.int k i)) (some (.int k' j))) H K E = K (.slice x i.toNat j.toNat) H := by
 rw [Cqx hu hs x len cap k k' i j h0 h1 h2, add_zero']
 simp
theorem Bzc {t : TypeId} (hs : ∀ w, (sizeOf t).run P w = .ok 1 w) (b o : Nat) (K : Unit -> Hp -> Prop) (E : Value -> Hp -> Prop) (x : Option Nat) : wpS P (Instr.storeAt t (.pointer (some ⟨b, o, none⟩)) (.chan x)) H K E = stor H b o (.chan x) (K ()) := Akd hs rfl b o K E
theorem Cvb {d : Option Tmp} {ty : TypeId} {pos : String} {af : Array Edge} {g : Option (Nat × Bool)} {t : Tmp} {ats : Array TypeId} {f : Fn} {fi cap : Array Value} (h : a.eval (.tmp t) = .func f fi cap) (w : World) :
  (execOp a.eval ⟨d, .go ⟨.value (.tmp t), #[], ats⟩, ty, pos, af, g⟩).runT P w #[] = (.ok (.spawn { target := .fn f cap, args := fi }) w, #[]) := by
 simp [execOp, resolve, h, Deferred.ofValue]
theorem Cv0 {d : Option Tmp} {ty : TypeId} {pos : String} {af : Array Edge} {g : Option (Nat × Bool)} {x y : Operand} {c : Nat} {v : Value} (hx : a.eval x = .chan (some c)) (hy : a.eval y = v) (w : World) :
  (execOp a.eval ⟨d, .send x y, ty, pos, af, g⟩).runT P w #[] = (.ok (.comm #[scase c v (.tuple #[])] true .send) w, #[]) := by
 simp [execOp, hx, hy, scase]
end
end Go.X
end
section
namespace Go.X
open Go
theorem cells_chan (x : Option Nat) : (Value.chan x).cells = #[.chan x] := rfl
def Hp.leS (H H' : Hp) : Prop := ∀ b p o, H b = some (p, o) -> ∃ p', H' b = some (p', o) /\ (p' = true -> p = true)
theorem Hp.leS.trans {H H' H'' : Hp} (h : H.leS H') (h' : H'.leS H'') : H.leS H'' := fun b p o hb => let ⟨p', h1, h2⟩ := h b p o hb; let ⟨p'', h3, h4⟩ := h' b p' o h1; ⟨p'', h3, fun e => h2 (h4 e)⟩
theorem Hp.leS.set {H H' : Hp} {b : Nat} {o : Obj} (h : H.leS H') (hb : H b = none) : H.leS (H'.set b o) := fun x p o' hx => by
 obtain ⟨p', h1, h2⟩ := h x p o' hx
 exact ⟨p', by unfold Hp.set; rw [if_neg (fun e => by rw [e, hb] at hx; cases hx)]; exact h1, h2⟩
def Hp.lend (H : Hp) (eb : Nat) : Hp := fun b => if b = eb then H b else (H b).map fun q => (false, q.2)
def Hp.hand (H : Hp) (eb : Nat) : Hp := fun b => if b = eb then none else (H b).map fun q => (false, q.2)
theorem Hp.lend_leS {H : Hp} {eb : Nat} : H.leS (H.lend eb) := fun b p o h => by
 unfold Hp.lend
 by_cases hb : b = eb
 ·rw [if_pos hb]; exact ⟨p, h, id⟩
 ·rw [if_neg hb, h]; exact ⟨false, rfl, fun e => by cases e⟩
theorem Hp.lend_at {H : Hp} {eb : Nat} : H.lend eb eb = H eb := by simp [Hp.lend]
theorem Hp.hand_some {H : Hp} {eb b : Nat} {p : Bool} {o : Obj} (h : H b = some (p, o)) (hb : b ≠ eb) : H.hand eb b = some (false, o) := by simp [Hp.hand, hb, h]
theorem Hp.hand_lend {H : Hp} {eb : Nat} : ∀ b p o, H.hand eb b = some (p, o) -> p = false /\ H.lend eb b = some (false, o) := fun b p o h => by
 unfold Hp.hand at h
 unfold Hp.lend
 by_cases hb : b = eb
 ·rw [if_pos hb] at h; cases h
 ·rw [if_neg hb] at h ⊢
  cases hq : H b with
  | none => rw [hq] at h; cases h
  | some q => rw [hq] at h; cases h; exact ⟨rfl, rfl⟩
theorem Hp.lend_own {H : Hp} {eb : Nat} : ∀ b p o, H.lend eb b = some (p, o) -> ∃ p', H b = some (p', o) /\ (p = true -> p' = true) := fun b p o h => by
 unfold Hp.lend at h
 by_cases hb : b = eb
 ·rw [if_pos hb] at h; exact ⟨p, h, id⟩
 ·rw [if_neg hb] at h
  cases hq : H b with
  | none => rw [hq] at h; cases h
  | some q => obtain ⟨p', o'⟩ := q; rw [hq] at h; cases h; exact ⟨p', rfl, fun e => by cases e⟩
end Go.X
namespace Go.Proofs.YtgniilnljeedlaaGreatDoor
open Go Go.X
def Aj4 (H H' : Hp) : Prop := ∀ b p c t fr, H b = some (p, .cells c t fr) -> ∃ p', H' b = some (p', .cells c t fr)
theorem SlI.cl {H H' : Hp} {w : Value} {xs : List Int} (hw : SlI H w xs) (hl : Aj4 H H') : SlI H' w xs := by
 obtain ⟨a, cap, h1, h2, h3⟩ := hw
 refine ⟨a, cap, h1, h2, fun i x hx => ?_⟩
 obtain ⟨b, o, p, c, fr, h4, h5, h6⟩ := h3 i x hx
 obtain ⟨p', h7⟩ := hl _ _ _ _ _ h5
 exact ⟨b, o, p', c, fr, h4, h7, h6⟩
theorem Bvi {H H' : Hp} (h : H.leS H') {b : Nat} (hb : H' b = none) : H b = none := by
 cases hx : H b with
 | none => rfl
 | some q => obtain ⟨p, o⟩ := q; obtain ⟨p', h1, _⟩ := h b p o hx; rw [hb] at h1; cases h1
end Go.Proofs.YtgniilnljeedlaaGreatDoor
end
section
namespace Go.X
open Go
open Go.Conc Go.Conc.Lib
section
variable {P : Program} {T : Goroutine -> Hp -> Prop} {γ : GhW}
theorem FanW.ctl {g g' : Goroutine} {H : Hp} (hs : g.status = .running) (h : ∀ w, stepG P true g w = .go g' w #[]) (hg : FanW P T γ g' H) : FanW P T γ g H :=
 .step (fun x y => x = g' /\ y = H) hs (fun w hw => ⟨g', w, #[], H, h w, .refl hw, rfl, rfl⟩) fun x y e => by obtain ⟨rfl, rfl⟩ := e; exact hg
def Awq (P : Program) (T : Goroutine -> Hp -> Prop) (b : Frame) (k : List Item) (cs : List Frame) (γ : GhW) : Exit -> Act -> Hp -> Prop
 | .normal, a, H => FanW P T γ (G (fat b a k) cs) H
 | .exit id, a, H => ∀ k', exitTo id k' = exitTo id k -> FanW P T γ (G (fat b a (.code (.exit id) :: k')) cs) H
 | .goto l, a, H => ∀ k', gotoIn l k' = gotoIn l k -> FanW P T γ (G (fat b a (.code (.goto l) :: k')) cs) H
 | .ret, a, H => ∀ k', FanW P T γ (G (fat b a (.code .ret :: k')) cs) H
 | .panic ch, a, H => ∀ k', FanW P T γ (G { fat b a k' with mode := .panicking ch } cs) H
 | .outgrown, _, _ => False
theorem Awq.push {b : Frame} {x : Item} {k : List Item} {cs : List Frame} {e : Exit} {a : Act} {H : Hp} (hx : x.plain = true) (he : e ≠ .normal)
  (h : Awq P T b k cs γ e a H) : Awq P T b (x :: k) cs γ e a H := by
 cases e with
 | normal => exact absurd rfl he
 | exit id => exact fun k' hk => h k' (hk.trans (by cases x <;> simp_all [exitTo, Item.plain]))
 | goto l => exact fun k' hk => h k' (hk.trans (by cases x <;> simp_all [gotoIn, Item.plain]))
 | ret => exact h
 | panic ch => exact h
 | outgrown => exact h
theorem Awq.after {b : Frame} {k : List Item} {cs : List Frame} {e : Exit} {a : Act} {H : Hp} (h : Awq P T b k cs γ e a H) : After P (.own true) (fun g H => FanW P T γ g H) b k cs e a H := by
 cases e with
 | normal => exact .stop h (Hp.le_refl _)
 | exit id => exact fun k' hk => .stop (h k' hk) (Hp.le_refl _)
 | goto l => exact fun k' hk => .stop (h k' hk) (Hp.le_refl _)
 | ret => exact fun k' => .stop (h k') (Hp.le_refl _)
 | panic ch => exact fun k' => .stop (h k') (Hp.le_refl _)
 | outgrown => exact h
end
abbrev Cj2 := GhW -> Exit -> Act -> Hp -> Prop
def wpV (P : Program) (c : Code) (Q : Cj2) (γ : GhW) (a : Act) (H : Hp) : Prop :=
 ∀ (b : Frame) (k : List Item) (cs : List Frame) (T : Goroutine -> Hp -> Prop), b.kind ≠ .early -> b.roundOf = none ->
  (∀ γ' e a' H', Q γ' e a' H' -> Awq P T b k cs γ' e a' H') -> FanW P T γ (G (fat b a (.code c :: k)) cs) H
def opsV (P : Program) (ops : Array Oper) (todo : List Nat) (Q : Cj2) (γ : GhW) (a : Act) (H : Hp) : Prop :=
 ∀ (b : Frame) (k : List Item) (cs : List Frame) (T : Goroutine -> Hp -> Prop), b.kind ≠ .early -> b.roundOf = none ->
  (∀ γ' e a' H', Q γ' e a' H' -> Awq P T b k cs γ' e a' H') -> FanW P T γ (G (fat b a (.inRegion ops todo :: k)) cs) H
section
variable {P : Program} {γ : GhW} {Q : Cj2} {a : Act} {H : Hp}
theorem Bqo {c : Code} (h : wpX P (.own true) none c (Q γ) a H) : wpV P c Q γ a H := fun b k cs T hk hl hc =>
 WPG.walkW (h b k cs (fun g H => FanW P T γ g H) hk hl fun e a' H' q => (hc γ e a' H' q).after) fun _ _ h => h
theorem Cy9 {ops : Array Oper} {todo : List Nat} (h : opsX P (.own true) none ops todo (Q γ) a H) : opsV P ops todo Q γ a H := fun b k cs T hk hl hc =>
 WPG.walkW (h b k cs (fun g H => FanW P T γ g H) hk hl fun e a' H' q => (hc γ e a' H' q).after) fun _ _ h => h
theorem Byt {c : Code} {R : Exit -> Act -> Hp -> Prop} (h : wpV P c (fun γ e a H => γ = .idle /\ R e a H) .idle a H) : wpX P (.wg P) none c R a H := fun b k cs Stop hk hl hc => by
 refine .phase (fun g H => WPG P (.wg P) Stop g H) (h b k cs _ hk hl fun γ' e a' H' ⟨hγ, q⟩ => ?_) fun _ _ h => h
 subst hγ
 have := hc e a' H' q
 cases e with
 | normal => exact .stop this (Hp.le_refl _)
 | exit id => exact fun k' hk => .stop (this k' hk) (Hp.le_refl _)
 | goto l => exact fun k' hk => .stop (this k' hk) (Hp.le_refl _)
 | ret => exact fun k' => .stop (this k') (Hp.le_refl _)
 | panic ch => exact fun k' => .stop (this k') (Hp.le_refl _)
 | outgrown => exact this
theorem Cjx {c : Code} {n : Nat} {e : Nat -> Value} {ds : List Deferred} (p : (Nat -> Value) -> Prop) (hp : p e) (h : ∀ e, p e -> wpV P c Q γ (act n e ds) H) : wpV P c Q γ (act n e ds) H := h e hp
theorem Ajz {x y : Code} (h : wpV P x (fun γ' => thn (fun a' H' => wpV P y Q γ' a' H') (Q γ')) γ a H) : wpV P (.seq x y) Q γ a H := by
 intro b k cs T hk hl hc
 refine .ctl (g' := G (fat b a (.code x :: .code y :: k)) cs) rfl (fun w => by simp [G, stepG, stepG.exec, fat]) ?_
 refine h b (.code y :: k) cs T hk hl fun γ' e a' H' q => ?_
 cases e with
 | normal => exact q b k cs T hk hl hc
 | exit id => exact (hc _ _ _ _ q).push rfl (by simp)
 | goto id => exact (hc _ _ _ _ q).push rfl (by simp)
 | ret => exact Awq.push (x := .code y) (e := .ret) rfl (by simp) (hc _ _ _ _ q)
 | panic ch => exact Awq.push (x := .code y) (e := .panic ch) rfl (by simp) (hc _ _ _ _ q)
 | outgrown => exact q.elim
theorem Dqn {c : Operand} {x y : Code} {t : Bool} (ht : a.eval c = .bool t) (h : wpV P (if t then x else y) Q γ a H) : wpV P (.cond c x y) Q γ a H := by
 intro b k cs T hk hl hc
 refine .ctl (g' := G (fat b a (.code (if t then x else y) :: k)) cs) rfl (fun w => ?_) (h b k cs T hk hl hc)
 have he : (fat b a (.code (.cond c x y) :: k)).eval c = .bool t := by rw [Bvb]; exact ht
 simp only [fat] at he
 simp [G, stepG, stepG.exec, fat, he]
theorem Czb (h : Q γ .normal a H) : wpV P .skip Q γ a H := fun b k cs _ _ _ hc =>
 .ctl (g' := G (fat b a k) cs) rfl (fun w => by simp [G, stepG, stepG.exec, fat]) (hc _ _ _ _ h)
theorem Cx9 {id : Nat} (h : Q γ (.exit id) a H) : wpV P (.exit id) Q γ a H := fun _ k _ _ _ _ hc => hc _ _ _ _ h k rfl
theorem Bjx {id : Nat} {c : Code} (h : wpV P c (fun γ' => blk id (Q γ')) γ a H) : wpV P (.block id c) Q γ a H := by
 intro b k cs T hk hl hc
 refine .ctl (g' := G (fat b a (.code c :: .inBlock id :: k)) cs) rfl (fun w => by simp [G, stepG, stepG.exec, fat]) ?_
 refine h b (.inBlock id :: k) cs T hk hl fun γ' e a' H' q => ?_
 cases e with
 | normal => exact .ctl (g' := G (fat b a' k) cs) rfl (fun w => by simp [G, stepG, stepG.exec, fat]) (hc _ _ _ _ q)
 | exit id' =>
  by_cases hid : id' = id
  ·simp only [blk, hid, if_true] at q
   subst hid
   intro k' hk'
   have hx : exitTo id' k' = some k := hk'.trans (by simp [exitTo])
   exact .ctl (g' := G (fat b a' k) cs) rfl (fun w => by simp [G, stepG, stepG.exec, fat, hx]) (hc _ _ _ _ q)
  ·simp only [blk, hid, if_false] at q
   have hn : (id == id') = false := by simp; exact fun h => hid h.symm
   exact fun k' hk' => hc _ _ _ _ q k' (hk'.trans (by simp [exitTo, hn]))
 | goto l => exact fun k' hk' => hc _ _ _ _ q k' (hk'.trans (by simp [gotoIn]))
 | ret => exact hc _ _ _ _ q
 | panic ch => exact hc _ _ _ _ q
 | outgrown => exact q.elim
theorem Cza {c : Code} (I : Nat -> GhW -> Act -> Hp -> Prop) {n : Nat} (h₀ : I n γ a H)
  (round : ∀ n γ a H, I n γ a H -> wpV P c (fun γ' => thn (fun a' H' => ∃ n', n' < n /\ I n' γ' a' H') (Q γ')) γ a H) : wpV P (.loop c) Q γ a H := by
 intro b k cs T hk hl hc
 have key : ∀ n γ a H, I n γ a H -> FanW P T γ (G (fat b a (.code c :: .inLoop c :: k)) cs) H := by
  intro n
  induction n using Nat.strongRecOn with
  | _ n ih =>
   intro γ a H hI
   refine round n γ a H hI b (.inLoop c :: k) cs T hk hl fun γ' e a' H' q => ?_
   cases e with
   | normal =>
    obtain ⟨n', hlt, hI'⟩ := q
    exact .ctl (g' := G (fat b a' (.code c :: .inLoop c :: k)) cs) rfl (fun w => by simp [G, stepG, stepG.exec, fat]) (ih n' hlt γ' a' H' hI')
   | exit id => exact (hc _ _ _ _ q).push rfl (by simp)
   | goto id => exact (hc _ _ _ _ q).push rfl (by simp)
   | ret => exact Awq.push (x := .inLoop c) (e := .ret) rfl (by simp) (hc _ _ _ _ q)
   | panic ch => exact Awq.push (x := .inLoop c) (e := .panic ch) rfl (by simp) (hc _ _ _ _ q)
   | outgrown => exact q.elim
 exact .ctl (g' := G (fat b a (.code c :: .inLoop c :: k)) cs) rfl (fun w => by simp [G, stepG, stepG.exec, fat]) (key n γ a H h₀)
theorem Avx {id : Nat} {ops : Array Oper} (h : opsV P ops (List.range ops.size) Q γ a H) : wpV P (.region id ops false) Q γ a H :=
 fun b k cs T hk hl hc => .ctl (g' := G (fat b a (.inRegion ops (List.range ops.size) :: k)) cs) rfl (fun w => by simp [G, stepG, stepG.exec, fat]) (h b k cs T hk hl hc)
theorem Bvq {ops : Array Oper} (h : Q γ .normal a H) : opsV P ops [] Q γ a H := fun b k cs _ _ _ hc =>
 .ctl (g' := G (fat b a k) cs) rfl (fun w => by simp [G, stepG, stepG.exec, fat]) (hc _ _ _ _ h)
theorem Bw2 {ops : Array Oper} {i : Nat} {rest : List Nat} {o : Oper} (ho : ops[i]? = some o) (hw : Region.wanted o (yielded ops a.tmps) = true)
  (h : opX P (.own true) none o a H (fun a' H' => opsV P ops rest Q γ a' H') (Q γ)) : opsV P ops (i :: rest) Q γ a H := by
 intro b k cs T hk hl hc
 have hk' : (b.kind == CallKind.early) = false := by simpa using hk
 have hfin : ∀ v, (fat b a (.inRegion ops (i :: rest) :: k)).finish v = fat b (a.put o.dst v) (.inRegion ops rest :: k) := fun v => by rw [Ax9, ho]; rfl
 refine .step (fun g' H' => FanW P T γ g' H') rfl (fun w hs => ?_) fun _ _ h => h
 have hst := stepG_op (main := .own true) (P := P) (b := b) (k := k) (cs := cs) (w := w) (a := a) (rest := rest) ho hw (.inl hl)
 rw [show stepG P true _ w = _ from hst]
 obtain ⟨es, w', H', hm, r, hr, hd'⟩ := Ak5 _ w hs h
 have hm' : Moves H w (seen P b.fn es) H' w' := hm.seen b.fn
 have hr0 : (execOp a.eval o).runT P w #[] = (r, es) := by rw [hr #[]]; simp
 rcases hd' with ⟨x, rfl, hx⟩ | ⟨v, rfl, hv⟩
 ·cases x with
  | value v =>
   refine ⟨G (fat b (a.put o.dst v) (.inRegion ops rest :: k)) cs, w', seen P b.fn es, H', ?_, hm', hx b k cs T hk hl hc⟩
   rw [<- hfin]
   simp [stepG.apply, hr0, G, fat, hk', GStep.after, -Sem.runT_eq]
  | skip =>
   refine ⟨G (fat b (a.put o.dst undef) (.inRegion ops rest :: k)) cs, w', seen P b.fn es, H', ?_, hm', hx b k cs T hk hl hc⟩
   rw [<- hfin]
   simp [stepG.apply, hr0, G, fat, hk', GStep.after, -Sem.runT_eq]
  | defer d =>
   refine ⟨G (fat b ({ a with defers := d :: a.defers }.put o.dst undef) (.inRegion ops rest :: k)) cs, w', seen P b.fn es, H', ?_, hm', hx.2 b k cs T hk hl hc⟩
   have : ({ fat b a (.inRegion ops (i :: rest) :: k) with defers := d :: a.defers } : Frame).finish undef = fat b ({ a with defers := d :: a.defers }.put o.dst undef) (.inRegion ops rest :: k) := by
    have := Ax9 b { a with defers := d :: a.defers } ops i rest k undef
    rw [ho] at this
    exact this
   rw [<- this]
   simp [stepG.apply, hr0, G, fat, hk', GStep.after, -Sem.runT_eq]
  | enter f args =>
   refine ⟨G (Frame.enter P f args .normal) (fat b a (.inRegion ops (i :: rest) :: k) :: cs), w', seen P b.fn es, H', ?_, hm', ?_⟩
   ·simp [stepG.apply, hr0, G, fat, hk', GStep.after, -Sem.runT_eq]
   ·refine WPG.walkW (hx _ _ (fun g H => FanW P T γ g H) (fun v H₁ r => ?_) fun ch H₁ r => ?_) fun _ _ h => h
    ·rw [hfin]; exact .stop (r b k cs T hk hl hc) (Hp.le_refl _)
    ·exact .stop ((hc _ (.panic ch) a H₁ r) _) (Hp.le_refl _)
  | round l f tmps ars body =>
   refine ⟨G (Frame.round l f tmps ars body .normal) (fat b a (.inRegion ops (i :: rest) :: k) :: cs), w', seen P b.fn es, H', ?_, hm', ?_⟩
   ·simp [stepG.apply, hr0, G, fat, hk', GStep.after, -Sem.runT_eq]
   ·refine WPG.walkW (hx _ _ (fun g H => FanW P T γ g H) (fun v H₁ r => ?_) fun ch H₁ r => ?_) fun _ _ h => h
    ·rw [hfin]; exact .stop (r b k cs T hk hl hc) (Hp.le_refl _)
    ·exact .stop ((hc _ (.panic ch) a H₁ r) _) (Hp.le_refl _)
  | _ => exact hx.elim
 ·refine ⟨G { fat b a (.inRegion ops (i :: rest) :: k) with mode := .panicking [{ v, recovered := false }] } cs, w', seen P b.fn es, H', ?_, hm', hc _ (.panic _) a H' hv _⟩
  simp [stepG.apply, hr0, G, fat, hk', GStep.after, Frame.raise, -Sem.runT_eq]
theorem Dzp {c : Code} {ch wg : Nat} {ty : TypeId} (D : Nat -> Prop) (hc : H ch = some (true, .chan 0 #[] false 0 0 false)) (hb : H wg = some (true, wgO ty 0 0)) (hD : ∀ x, D x -> ∃ o, H x = some (true, o)) (h : wpV P c Q (.busy ch wg ty 0 0 [] false D) a ((H.del ch).del wg)) : wpV P c Q .idle a H :=
 fun b k cs T hk hl hq => .opn hc hb hD (h b k cs T hk hl hq)
theorem Djs (c : Nat) (z v : Value) (ok : Bool) : commResult #[rcase c z] (.recv true) 0 v ok = .tuple #[v, .bool ok] := by
 simp [commResult, rcase]
theorem Dzg {ops : Array Oper} {i : Nat} {rest : List Nat} {o : Oper} {d : Deferred} {f : Fn} {cap' : Array Value} {c wg n : Nat} {ty : TypeId} {D : Nat -> Prop} {L : List Value} {v : Value} {H' Hc : Hp} (ho : ops[i]? = some o) (hw : Region.wanted o (yielded ops a.tmps) = true)
  (hr : ∀ w, Sat H w -> (execOp a.eval o).runT P w #[] = (.ok (.spawn d) w, #[])) (hd : d.target = .fn f cap')
  (hc : ∀ b p o, Hc b = some (p, o) -> p = false /\ H' b = some (false, o)) (hH : ∀ b p o, H' b = some (p, o) -> ∃ p', H b = some (p', o) /\ (p = true -> p' = true))
  (hwk : WPG P (.own false) (Bzy P c wg ty v) (born P d) Hc) (hn : opsV P ops rest Q (.busy c wg ty n 0 (v :: L) false D) (a.put o.dst undef) H') : opsV P ops (i :: rest) Q (.busy c wg ty n 0 L false D) a H :=
 fun b k cs T hk hl' hq => .spawn rfl (fun w hs => Bjt (main := .own true) ho hw hk hl' (hr w hs) hd) hc hH hwk.othW (hn b k cs T hk hl' hq)
theorem Cvq {ops : Array Oper} {i : Nat} {rest : List Nat} {o : Oper} {d : Deferred} {f : Fn} {cap' : Array Value} {c wg n : Nat} {ty : TypeId} {D : Nat -> Prop} {L : List Value} {H' Hc : Hp} (ho : ops[i]? = some o) (hw : Region.wanted o (yielded ops a.tmps) = true) (hl : n = L.length)
  (hr : ∀ w, Sat H w -> (execOp a.eval o).runT P w #[] = (.ok (.spawn d) w, #[])) (hd : d.target = .fn f cap')
  (hc : ∀ b p o, Hc b = some (p, o) -> p = false /\ H' b = some (false, o)) (hH : ∀ b p o, H' b = some (p, o) -> ∃ p', H b = some (p', o) /\ (p = true -> p' = true))
  (hwk : ∃ ρ, OthW P c wg ty ρ (born P d) (.wait Hc 0 n)) (hn : opsV P ops rest Q (.busy c wg ty n 0 L true D) (a.put o.dst undef) H') : opsV P ops (i :: rest) Q (.busy c wg ty n 0 L false D) a H :=
 fun b k cs T hk hl' hq => .hire rfl hl (fun w hs => Bjt (main := .own true) ho hw hk hl' (hr w hs) hd) hc hH hwk (hn b k cs T hk hl' hq)
theorem Cvr {ops : Array Oper} {i : Nat} {rest : List Nat} {o : Oper} {c wg n : Nat} {ty : TypeId} {D : Nat -> Prop} {L : List Value} {z : Value} (ho : ops[i]? = some o) (hw : Region.wanted o (yielded ops a.tmps) = true) (hL : L ≠ [])
  (hr : ∀ w, Sat H w -> (execOp a.eval o).runT P w #[] = (.ok (.comm #[rcase c z] true (.recv true)) w, #[]))
  (hn : ∀ v L', L.Perm (v :: L') -> opsV P ops rest Q (.busy c wg ty n 0 L' true D) (a.put o.dst (.tuple #[v, .bool true])) H) : opsV P ops (i :: rest) Q (.busy c wg ty n 0 L true D) a H :=
 fun b k cs T hk hl' hq => .recv rfl hL (fun w hs => Ayk (main := .own true) ho hw hk hl' (hr w hs)) fun v L' hp => by
  rw [Ck7 ho, Djs]
  exact hn v L' hp b k cs T hk hl' hq
theorem Cvs {ops : Array Oper} {i : Nat} {rest : List Nat} {o : Oper} {c wg n : Nat} {ty : TypeId} {D : Nat -> Prop} {z : Value} (G' : Hp) (ho : ops[i]? = some o) (hw : Region.wanted o (yielded ops a.tmps) = true)
  (hr : ∀ w, Sat H w -> (execOp a.eval o).runT P w #[] = (.ok (.comm #[rcase c z] true (.recv true)) w, #[])) (hG : ∀ b p o, G' b = some (p, o) -> ∃ p', H b = some (p', o) /\ (p = true -> p' = true ∨ D b))
  (hn : opsV P ops rest Q .idle (a.put o.dst (.tuple #[z, .bool false])) G') : opsV P ops (i :: rest) Q (.busy c wg ty n 0 [] true D) a H :=
 fun b k cs T hk hl' hq => .shut rfl (fun w hs => Ayk (main := .own true) ho hw hk hl' (hr w hs)) (fun w hs => Ayk (main := .own true) ho hw hk hl' (hr w hs)) hG (by
  rw [Ck7 ho, Djs]
  exact hn b k cs T hk hl' hq)
theorem Cy8 {Lk : WgLink} (HL : WgLib P Lk) {ops : Array Oper} {i : Nat} {rest : List Nat} {o : Oper} {x y : Operand} {ats : Array TypeId} {c wg n : Nat} {D : Nat -> Prop} {L : List Value} (ho : ops[i]? = some o) (hw : Region.wanted o (yielded ops a.tmps) = true)
  (hop : o.op = .call { callee := .value (.func Lk.add), args := #[x, y], argTypes := ats }) (hx : a.eval x = .pointer (some ⟨wg, 0, none⟩)) (hy : a.eval y = .int .i64 1) (hn1 : n < 99)
  (hn : opsV P ops rest Q (.busy c wg Lk.tWg (n + 1) 0 L false D) (a.put o.dst (.tuple #[])) H) : opsV P ops (i :: rest) Q (.busy c wg Lk.tWg n 0 L false D) a H := fun b k cs T hk hl' hq => by
 have hfat : ∀ (a : Act) (todo : List Item), fat b a todo = b.at a todo := fun a todo => by
  cases b
  simp only at hl'
  subst hl'
  rfl
 have hn' := hn b k cs T hk hl' hq
 simp only [hfat] at hn' ⊢
 refine (Quiet.fan (d := 0)).enter2 (b := b) ho hw hk hop HL.f_add (Go.ConcR.Gen.nm_add Lk) Bqw #[.pointer (some ⟨wg, 0, none⟩), .int .i64 1] 115 (by simp [hx, hy]) rfl ?_
 refine Dq2 HL hn1 ?_
 rw [ho]
 exact hn'
end
end Go.X
end
section
namespace Go.X
open Go
open Go.Conc Go.RowKit Go.Conc.Lib Go.ConcR.Gen Go.ConcN.Gen
open Go.ConcR (KK)
section
variable {P : Program} {md : Md} {Stop : Goroutine -> Hp -> Prop} {a : Act} {H : Hp} {b : Frame} {k : List Item} {cs : List Frame}
theorem WPG.code {x : Code} (hk : b.kind ≠ .early) (hl : b.roundOf = none) (h : wpX P md none x (only fun a' H' => WPG P md Stop (G (fat b a' k) cs) H') a H) : WPG P md Stop (G (fat b a (.code x :: k)) cs) H :=
 h b k cs Stop hk hl fun e a' H' q => by cases e <;> first | exact q | exact q.elim
theorem WPG.seqX {x y : Code} (hk : b.kind ≠ .early) (hl : b.roundOf = none) (h : wpX P md none x (only fun a' H' => WPG P md Stop (G (fat b a' (.code y :: k)) cs) H') a H) : WPG P md Stop (G (fat b a (.code (.seq x y) :: k)) cs) H :=
 .ctl (g' := G (fat b a (.code x :: .code y :: k)) cs) rfl (fun w => by simp [G, stepG, stepG.exec, fat]) (WPG.code hk hl h)
theorem WPG.regionX {id : Nat} {ops : Array Oper} (h : WPG P md Stop (G (fat b a (.inRegion ops (List.range ops.size) :: k)) cs) H) : WPG P md Stop (G (fat b a (.code (.region id ops false) :: k)) cs) H :=
 .ctl (g' := G (fat b a (.inRegion ops (List.range ops.size) :: k)) cs) rfl (fun w => by simp [G, stepG, stepG.exec, fat]) h
theorem WPG.endX {ops : Array Oper} (h : WPG P md Stop (G (fat b a k) cs) H) : WPG P md Stop (G (fat b a (.inRegion ops [] :: k)) cs) H :=
 .ctl (g' := G (fat b a k) cs) rfl (fun w => by simp [G, stepG, stepG.exec, fat]) h
theorem Ck4 {b : Frame} {a : Act} {todo : List Item} (hl : b.roundOf = none) : fat b a todo = b.at a todo := by
 cases b
 simp only at hl
 subst hl
 rfl
end
theorem Quiet.wpg {P : Program} {Stop : Goroutine -> Hp -> Prop} {H : Hp} : Quiet P false (fun _ => True) fun g => WPG P (.own false) Stop g H :=
 ⟨fun hs h hn => .ctl hs (fun w => h w trivial) hn⟩
variable {L : WgLink}
theorem Djz {P : Program} (HL : WgLib P L) {K : Hp} {f : FuncId} {fn : Func} {ops : Array Oper} {i : Nat} {o : Oper} {a : Act} {c Wg rb : Nat} {v z : Value} (ho : ops[i]? = some o) (hw : Region.wanted o (yielded ops a.tmps) = true)
  (hr : ∀ w, (execOp a.eval o).runT P w #[] = (.ok (.comm #[scase c v z] true .send) w, #[])) (hd : a.defers = [coll rb, dcall L.done #[.pointer (some ⟨Wg, 0, none⟩)]]) (hrb : K rb = some (true, .deferred (some []))) (hf : P.funcs[f]? = some fn) (hres : fn.results = #[]) :
  Bzy P c Wg L.tWg v (G (fat (baseD f) a [.inRegion ops [i]]) [Ak6 P]) K := by
 refine ⟨rfl, _, z, fun w _ => Ayk (main := .own false) ho hw (by simp [baseD]) rfl (hr w), ?_⟩
 have hs : Go.Conc.served (G (fat (baseD f) a [.inRegion ops [i]]) [Ak6 P]) undef = G (fat (baseD f) (a.put o.dst undef) [.inRegion ops []]) [Ak6 P] := by
  have hfin : (fat (baseD f) a [.inRegion ops [i]]).finish undef = fat (baseD f) (a.put o.dst undef) [.inRegion ops []] := by rw [Ax9, ho]; rfl
  simp [Go.Conc.served, G, hfin]
 rw [hs, Ck4 rfl]
 have hd' : (a.put o.dst undef).defers = [coll rb, dcall L.done #[.pointer (some ⟨Wg, 0, none⟩)]] := by rw [<- hd]; cases o.dst <;> rfl
 generalize a.put o.dst undef = a' at *
 have hJ := Quiet.sent (P := P) (c := c) (b := Wg) (ty := L.tWg) K
 refine hJ.region_end (hJ.ends ?_)
 refine WPG.sentW ?_
 refine WPG.tree (s := Instr.takeDeferred rb) (K := fun x H' => x = [] /\ H' = K.set rb (.deferred none)) (E := fun _ _ => False) rfl (Cx8 hrb _ _ ⟨rfl, rfl⟩)
  (fun g' H' => g' = G { (baseD f).at ⟨a'.tmps, [dcall L.done #[.pointer (some ⟨Wg, 0, none⟩)]]⟩ [] with mode := .returning } [Ak6 P] /\ H' = K.set rb (.deferred none)) (fun w w' H' es v hr' hm' hk' => ?_) (fun _ _ _ _ _ _ _ he => he.elim) ?_
 ·obtain ⟨rfl, rfl⟩ := hk'
  refine ⟨_, seen P f es, ?_, fun e => mem_seen, rfl, rfl⟩
  simp [stepG, unwind, G, Frame.at, baseD, hd', coll, hr', GStep.after, -Sem.runT_eq]
 rintro g' H' ⟨rfl, rfl⟩
 refine .stop ?_ (Hp.le_refl _)
 have hJ := Quiet.sent (P := P) (c := c) (b := Wg) (ty := L.tWg) (K.set rb (.deferred none))
 refine hJ.unwind_enter rfl HL.f_done (Go.ConcR.Gen.nm_done L) (c := body_done L) rfl ?_
 obtain ⟨qt, hq⟩ : ∃ n, QuitsD P n 0 (G { (baseD f).at ⟨a'.tmps, []⟩ [] with mode := .returning } [Ak6 P]) := by
  refine (Quiet.quits 0).ctl (g' := G (Ak6 P) []) rfl (fun w => ?_) ((Quiet.quits 0).ctl (g' := { G (Ak6 P) [] with status := .finished }) rfl (fun w => ?_) ⟨0, rfl, rfl⟩)
  ·simp [G, stepG, unwind, doReturn, Frame.at, baseD, hf, results, hres, Ak6, goexitEntry, GStep.after, seen_none]
  ·simp [G, stepG, unwind, Ak6, goexitEntry, Frame.catches]
   rfl
 exact Dkh HL _ (qt := qt) rfl hq
theorem Cjk {P : Program} {f : FuncId} {fn : Func} {a : Act} (hf : P.funcs[f]? = some fn) (hres : fn.results = #[]) (had : a.defers = []) : QuitsIn P 3 (G (fat (baseD f) a []) [Ak6 P]) := by
 refine .inr ⟨rfl, G { fat (baseD f) a [] with mode := .returning } [Ak6 P], fun w => by simp [G, stepG, stepG.exec, fat, baseD]; rfl, ?_⟩
 refine .inr ⟨rfl, G (Ak6 P) [], fun w => ?_, ?_⟩
 ·simp [G, stepG, unwind, doReturn, fat, baseD, had, hf, results, hres, Ak6, goexitEntry, GStep.after, seen_none]
 ·refine .inr ⟨rfl, { G (Ak6 P) [] with status := .finished }, fun w => ?_, rfl⟩
  simp [G, stepG, unwind, Ak6, goexitEntry, Frame.catches]
  rfl
theorem Dqi (P : Program) (fn : FuncId) (c : Nat) : seen P fn (clE c) = clE c := by
 rw [seen_def]
 simp [seenStep, clE]
theorem closeW {P : Program} {K : Hp} {f : FuncId} {fn : Func} {ops : Array Oper} {i : Nat} {o : Oper} {a : Act} {c Wg : Nat} {tWg : TypeId} {x : Operand} {ats : Array TypeId} (ho : ops[i]? = some o) (hw : Region.wanted o (yielded ops a.tmps) = true)
  (hop : o.op = .call { callee := .builtin .close, args := #[x], argTypes := ats }) (hx : a.eval x = .chan (some c)) (hd : a.defers = []) (hf : P.funcs[f]? = some fn) (hres : fn.results = #[]) :
  ∃ ρ, OthW P c Wg tWg ρ (G (fat (baseD f) a [.inRegion ops [i]]) [Ak6 P]) (.late K) := by
 obtain ⟨d, op, ty, pos, af, g⟩ := o
 simp only at hop
 subst hop
 refine Cyh (g' := G (fat (baseD f) (a.put d (.tuple #[])) [.inRegion ops []]) [Ak6 P]) rfl ?_ (fun w r hs hc => ?_) rfl ?_
 ·simp [mayWake, G, fat, ho]
 ·have h1 := run_close_open (P := P) ats ty hc
  have h2 := events_close_open (P := P) (es := #[]) ats ty hc
  have hrun : (execOp a.eval ⟨d, .call { callee := .builtin .close, args := #[x], argTypes := ats }, ty, pos, af, g⟩).runT P w #[] = (.ok (.value (.tuple #[])) (World.lay w c (.chan 0 #[] true r r false)), clE c) := by
   simp [execOp, resolve, invoke, hx, builtin, h1, h2, World.lay, clE]
  have hfin : (fat (baseD f) a [.inRegion ops [i]]).finish (.tuple #[]) = fat (baseD f) (a.put d (.tuple #[])) [.inRegion ops []] := by rw [Ax9, ho]; rfl
  have hk' : ((baseD f).kind == CallKind.early) = false := rfl
  refine (stepG_op (main := .own false) (b := baseD f) (k := []) (cs := [Ak6 P]) (rest := []) ho hw (.inl rfl)).trans ?_
  simp only [stepG.apply, hrun]
  rw [<- hfin]
  simp [G, fat, hk', GStep.after, Dqi]
 ·have hd' : (a.put d (.tuple #[])).defers = [] := by rw [<- hd]; cases d <;> rfl
  exact ⟨_, Cjl (g' := G (fat (baseD f) (a.put d (.tuple #[])) []) [Ak6 P]) rfl (fun w => by simp [G, stepG, stepG.exec, fat]) (Cjk hf hres hd')⟩
end Go.X
end
