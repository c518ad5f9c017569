/- Texts RefP RefD RefE RefF Made Leave PBase. -/
import Derived.Test.YtofmadjgbcopdaaGreatDoorJ09
import Derived.Conc.Holds
import Derived.Conc.LeavingOf
import Derived.Calls
import Derived.Below
import Derived.Carry
import Derived.ChangeSame
import Derived.ChangeVars
import Derived.ChangeSlices
import Derived.JoinedOf
import Derived.RowKit
import Derived.RowKitTokens
import Derived.LaidLaws
import Derived.LaidHandle
import Derived.Stop.Joined
import Derived.Handed
import Derived.Test.YtofmadjgbcopdaaGreatDoorRows
set_option linter.defProp false
set_option linter.unusedSimpArgs false
set_option linter.unusedVariables false
set_option maxRecDepth 100000
set_option maxHeartbeats 2000000
section
namespace Go.Proofs.YtofmadjgbcopdaaGreatDoor
open Go Go.X
theorem nextF_nxt (ts : List Int) (p : Int) (i : Nat) (hi : i < ts.length) : nextF ts p i = nxt ts (i + 1) p := by
 unfold nextF nxt
 rw [List.findIdx_eq_getD_findIdx?]
 cases h : (ts.drop (i + 1)).findIdx? (· == p) with
 | none => simp only [Option.getD_none, List.length_drop]; omega
 | some k => simp only [Option.getD_some]; omega
def lexB (rk : Int -> Int) (x y : Int) : Prop := rk x < rk y ∨ (rk x = rk y /\ x <= y)
theorem lexB_anti {rk : Int -> Int} {x y : Int} (h : lexB rk x y) (h' : lexB rk y x) : x = y := by
 unfold lexB at h h'; omega
theorem lexB_refl (rk : Int -> Int) (x : Int) : lexB rk x x := .inr ⟨rfl, Int.le_refl _⟩
theorem lexB_trans {rk : Int -> Int} {x y z : Int} (h : lexB rk x y) (h' : lexB rk y z) : lexB rk x z := by
 unfold lexB at h h' ⊢; omega
def firstBy (lt : Int -> Int -> Bool) : List Int -> Int
 | [] => -1
 | x :: l => l.foldl (fun s y => if lt y s then y else s) x
theorem fold_lex {lt : Int -> Int -> Bool} {rk : Int -> Int} {P : Int -> Prop} (h : ∀ x y, P x -> P y -> (lt x y = true ↔ rk x < rk y ∨ (rk x = rk y /\ x < y))) : ∀ (l : List Int) (s : Int), P s -> (∀ x ∈ l, P x) ->
  (l.foldl (fun s y => if lt y s then y else s) s = s ∨ l.foldl (fun s y => if lt y s then y else s) s ∈ l) /\ lexB rk (l.foldl (fun s y => if lt y s then y else s) s) s /\ ∀ x ∈ l, lexB rk (l.foldl (fun s y => if lt y s then y else s) s) x
 | [], s, _, _ => ⟨.inl rfl, lexB_refl _ _, by simp⟩
 | y :: l, s, hs, hl => by
  have hy := hl y List.mem_cons_self
  simp only [List.foldl_cons]
  by_cases hb : lt y s = true
  ·rw [if_pos hb]
   obtain ⟨h1, h2, h3⟩ := fold_lex h l y hy fun x hx => hl x (List.mem_cons_of_mem _ hx)
   have hys := (h y s hy hs).1 hb
   refine ⟨.inr ?_, lexB_trans h2 (by unfold lexB; omega), fun x hx => ?_⟩
   ·rcases h1 with h1 | h1
    ·rw [h1]; exact List.mem_cons_self
    ·exact List.mem_cons_of_mem _ h1
   ·rcases List.mem_cons.1 hx with rfl | hx
    ·exact h2
    ·exact h3 x hx
  ·rw [if_neg hb]
   obtain ⟨h1, h2, h3⟩ := fold_lex h l s hs fun x hx => hl x (List.mem_cons_of_mem _ hx)
   have hys := mt (h y s hy hs).2 hb
   refine ⟨h1.imp id (List.mem_cons_of_mem _), h2, fun x hx => ?_⟩
   rcases List.mem_cons.1 hx with rfl | hx
   ·exact lexB_trans h2 (by unfold lexB; omega)
   ·exact h3 x hx
theorem firstBy_succ {lt : Int -> Int -> Bool} {off : List Int} {k : Nat} (h1 : 1 <= k) (hk : k < off.length) : firstBy lt (off.take (k + 1)) = if lt off[k] (firstBy lt (off.take k)) then off[k] else firstBy lt (off.take k) := by
 cases off with
 | nil => simp at hk
 | cons x l =>
  obtain ⟨j, rfl⟩ : ∃ j, k = j + 1 := ⟨k - 1, by omega⟩
  have hj : j < l.length := by simpa using hk
  simp only [List.take_succ_cons, firstBy, List.getElem_cons_succ]
  rw [List.take_add_one, List.getElem?_eq_getElem hj, Option.toList_some, List.foldl_append]
  rfl
theorem pickF_lex0 (rk : Int -> Int) : ∀ (l : List Int) (c : Int), l.Pairwise (· < ·) -> (∀ x ∈ l, 0 <= x /\ c < x) -> (c < 0 -> l ≠ []) ->
  let r := l.foldl (fun c q => if c < 0 ∨ rk q < rk c then q else c) c
  (∀ x ∈ l, lexB rk r x) /\ (0 <= c -> lexB rk r c)
 | [], c, _, _, hc => ⟨by simp, fun _ => lexB_refl _ _⟩
 | x :: l, c, hp, hl, hc => by
  have hx := hl x List.mem_cons_self
  obtain ⟨hxl, hpl⟩ := List.pairwise_cons.1 hp
  simp only [List.foldl_cons]
  by_cases hif : c < 0 ∨ rk x < rk c
  ·rw [if_pos hif]
   obtain ⟨h2, h3⟩ := pickF_lex0 rk l x hpl (fun y hy => ⟨(hl y (List.mem_cons_of_mem _ hy)).1, hxl y hy⟩) (by omega)
   have h3 := h3 hx.1
   refine ⟨fun y hy => ?_, fun h => lexB_trans h3 (.inl (by omega))⟩
   rcases List.mem_cons.1 hy with rfl | hy
   ·exact h3
   ·exact h2 y hy
  ·rw [if_neg hif]
   have hc0 : 0 <= c := by omega
   obtain ⟨h2, h3⟩ := pickF_lex0 rk l c hpl (fun y hy => ⟨(hl y (List.mem_cons_of_mem _ hy)).1, (hl y (List.mem_cons_of_mem _ hy)).2⟩) (by omega)
   refine ⟨fun y hy => ?_, h3⟩
   rcases List.mem_cons.1 hy with rfl | hy
   ·exact lexB_trans (h3 hc0) (by unfold lexB; omega)
   ·exact h2 y hy
theorem oList_asc (m : Nat) : (oList m).Pairwise (· < ·) := by
 unfold oList oListN
 rw [List.pairwise_map]
 refine List.Pairwise.filter _ ?_
 exact (List.pairwise_lt_range (n := 6)).imp fun h => by omega
theorem pick_eq {lt : Int -> Int -> Bool} {rk : Int -> Int} {off : List Int} {m : Nat} (hm : ∀ x, x ∈ off ↔ inO m x) (h0 : 0 < oCount m) (h : ∀ x y, x ∈ off -> y ∈ off -> (lt x y = true ↔ rk x < rk y ∨ (rk x = rk y /\ x < y))) : firstBy lt off = pickF rk (oList m) := by
 have hp := pickF_spec rk m h0
 have hL : oList m ≠ [] := fun h => by have := oList_len m; rw [h] at this; simp at this; omega
 obtain ⟨hl, _⟩ := pickF_lex0 rk (oList m) (-1) (oList_asc m) (fun x hx => ⟨(oList_mem hx).1, by have := (oList_mem hx).1; omega⟩) (fun _ => hL)
 cases off with
 | nil => exact absurd ((hm _).2 hp.1) (by simp)
 | cons x l =>
  obtain ⟨h1, h2, h3⟩ := fold_lex (P := fun z => z ∈ x :: l) h l x List.mem_cons_self fun y hy => List.mem_cons_of_mem _ hy
  have hall : ∀ y ∈ x :: l, lexB rk (firstBy lt (x :: l)) y := fun y hy => by
   rcases List.mem_cons.1 hy with rfl | hy
   ·exact h2
   ·exact h3 y hy
  have hin : firstBy lt (x :: l) ∈ x :: l := by
   rcases h1 with h1 | h1
   ·show List.foldl _ _ _ ∈ _
    rw [h1]
    exact List.mem_cons_self
   ·exact List.mem_cons_of_mem _ h1
  exact lexB_anti (hall _ ((hm _).2 hp.1)) (hl _ (inO_list.2 ((hm _).1 hin)))
theorem off_count {off : List Int} {m : Nat} (hn : off.Nodup) (hm : ∀ x, x ∈ off ↔ inO m x) : off.length = oCount m := by
 have hp : off.Perm (oList m) := (List.perm_ext_iff_of_nodup hn ((oList_asc m).imp fun h => Int.ne_of_lt h)).2 fun x => (hm x).trans inO_list.symm
 rw [hp.length_eq, oList_len]
theorem set_getD {l : List Int} {p q v : Int} (hl : l.length = 6) (hp : 0 <= p /\ p < 6) (hq : 0 <= q /\ q < 6) : (l.set p.toNat v).getD q.toNat 0 = if p = q then v else l.getD q.toNat 0 := by
 simp only [List.getD]
 by_cases h : p = q
 ·subst h
  rw [List.getElem?_set_self (by omega), if_pos rfl]
  rfl
 ·rw [List.getElem?_set_ne (by omega), if_neg h]
theorem initL_at {start : List Int} (hn : start.Nodup) (h6 : ∀ y ∈ start, 0 <= y /\ y < 6) : ∀ k, k <= start.length -> ∀ j (h : j < k), (initL start k).getD (start.getD j 0).toNat 0 = (j : Int) - start.length
 | 0, _, j, h => by omega
 | k + 1, hk, j, h => by
  have hj : j < start.length := by omega
  have gj : start.getD j 0 = start[j] := getD_at hj
  have gk : start.getD k 0 = start[k] := getD_at (by omega)
  rw [initL, set_getD (initL_len start k) (gk ▸ h6 _ (List.getElem_mem _)) (gj ▸ h6 _ (List.getElem_mem _))]
  by_cases hjk : j = k
  ·subst hjk; rw [if_pos rfl]
  ·rw [if_neg, initL_at hn h6 k (by omega) j (by omega)]
   rw [gj, gk]
   intro e
   have := List.pairwise_iff_getElem.1 hn
   rcases Nat.lt_or_ge j k with hlt | hge
   ·exact this j k hj (by omega) hlt e.symm
   ·exact this k j (by omega) hj (by omega) e
theorem lastF_nonneg {start ts : List Int} {p : Int} : ∀ i, (∃ k : Nat, k < i /\ ts.getD k 0 = p /\ lastF start ts p i = k) ∨ lastF start ts p i = atF start p - 4
 | 0 => .inr rfl
 | i + 1 => by
  rw [lastF]
  by_cases h : ts.getD i 0 = p
  ·rw [if_pos h]; exact .inl ⟨i, by omega, h, rfl⟩
  ·rw [if_neg h]
   rcases lastF_nonneg i with ⟨k, h1, h2, h3⟩ | h1
   ·exact .inl ⟨k, by omega, h2, h3⟩
   ·exact .inr h1
structure OrdI (start ts off : List Int) (s : RS) (i : Nat) : Prop where
 came : off.Pairwise fun a b => s.came.getD a.toNat 0 < s.came.getD b.toNat 0
 bnd : ∀ a ∈ off, s.came.getD a.toNat 0 < i
 ask : ∀ p ∈ off, (0 <= lastF start ts p i /\ s.asked.getD p.toNat 0 = lastF start ts p i) ∨ (lastF start ts p i = atF start p - 4 /\ s.asked.getD p.toNat 0 = atF start p - start.length /\ p ∈ start)
theorem OrdI.zero {start ts : List Int} (hn : start.Nodup) (h6 : ∀ y ∈ start, 0 <= y /\ y < 6) : OrdI start ts start (rs0 start) 0 := by
 have key : ∀ j (h : j < start.length), (initL start start.length).getD (start[j]).toNat 0 = (j : Int) - start.length := fun j h => by
  have := initL_at hn h6 start.length (Nat.le_refl _) j h
  rwa [getD_at h] at this
 refine ⟨?_, ?_, ?_⟩
 ·rw [List.pairwise_iff_getElem]
  intro i j hi hj hij
  show (initL start start.length).getD _ 0 < (initL start start.length).getD _ 0
  rw [key i hi, key j hj]
  omega
 ·intro a ha
  obtain ⟨j, hj, rfl⟩ := List.getElem_of_mem ha
  show (initL start start.length).getD _ 0 < _
  rw [key j hj]
  omega
 ·intro p hp
  obtain ⟨j, hj, rfl⟩ := List.getElem_of_mem hp
  have hat : atF start start[j] = j := atF_at (List.getElem?_eq_getElem hj) fun hm => by
   obtain ⟨k, hk, he⟩ := List.getElem_of_mem hm
   rw [List.length_take] at hk
   rw [List.getElem_take] at he
   exact (List.pairwise_iff_getElem.1 hn) k j (by omega) hj (by omega) he
  refine .inr ⟨rfl, ?_, hp⟩
  rw [hat]
  exact key j hj
theorem OrdI.step {pl r : Int} {start ts off : List Int} {s : RS} {i : Nat} (h : OrdI start ts off s i) (hs : RSOk s i) (hi : i < ts.length) (hm : ∀ x, x ∈ off ↔ inO s.m x) (h6 : 0 <= ts.getD i 0 /\ ts.getD i 0 < 6) :
  OrdI start ts (if ts.getD i 0 ∈ off then off else (off.filter fun x => !(x == rsent pl r ts i (ts.getD i 0) s)) ++ [ts.getD i 0]) (rstep pl r ts i (ts.getD i 0) s) (i + 1) := by
 have hb : ∀ x ∈ off, 0 <= x /\ x < 6 := fun x hx => by have := (hm x).1 hx; exact ⟨this.1, this.2.1⟩
 have hlast : ∀ p, lastF start ts p (i + 1) = if ts.getD i 0 = p then (i : Int) else lastF start ts p i := fun p => rfl
 generalize hS : rsent pl r ts i (ts.getD i 0) s = sg
 have hask' : (rstep pl r ts i (ts.getD i 0) s).asked = s.asked.set (ts.getD i 0).toNat i := rfl
 have hcame' : (rstep pl r ts i (ts.getD i 0) s).came = if s.m.testBit (ts.getD i 0).toNat then s.came else s.came.set (ts.getD i 0).toNat i := rfl
 generalize rstep pl r ts i (ts.getD i 0) s = s' at hask' hcame' ⊢
 generalize ts.getD i 0 = t at *
 have hasked : ∀ p, 0 <= p /\ p < 6 -> (p ∈ off ∨ p = t) -> (0 <= lastF start ts p (i + 1) /\ s'.asked.getD p.toNat 0 = lastF start ts p (i + 1)) ∨ (lastF start ts p (i + 1) = atF start p - 4 /\ s'.asked.getD p.toNat 0 = atF start p - start.length /\ p ∈ start) := fun p hp6 hp => by
  rw [hask', set_getD hs.asked h6 hp6, hlast]
  by_cases e : t = p
  ·rw [if_pos e, if_pos e]; exact .inl ⟨by omega, rfl⟩
  ·rw [if_neg e, if_neg e]
   exact h.ask p (hp.resolve_right fun e' => e e'.symm)
 by_cases ht : t ∈ off
 ·rw [if_pos ht]
  have hc : s'.came = s.came := by rw [hcame', if_pos ((hm t).1 ht).2.2]
  exact ⟨by rw [hc]; exact h.came, fun a ha => by rw [hc]; have := h.bnd a ha; omega, fun p hp => hasked p (hb p hp) (.inl hp)⟩
 ·rw [if_neg ht]
  have hc : s'.came = s.came.set t.toNat i := by
   rw [hcame', if_neg]
   intro hbit
   exact ht ((hm t).2 ⟨h6.1, h6.2, hbit⟩)
  have hold : ∀ a ∈ off, s'.came.getD a.toNat 0 = s.came.getD a.toNat 0 := fun a ha => by
   rw [hc, set_getD hs.came h6 (hb a ha), if_neg (fun e : t = a => ht (by rw [e]; exact ha))]
  have hnew : s'.came.getD t.toNat 0 = i := by rw [hc, set_getD hs.came h6 h6, if_pos rfl]
  refine ⟨?_, ?_, ?_⟩
  ·rw [List.pairwise_append]
   refine ⟨?_, List.pairwise_singleton _ _, ?_⟩
   ·refine (List.Pairwise.filter _ h.came).imp_of_mem ?_
    intro a b ha hb' hab
    rw [hold a (List.mem_filter.1 ha).1, hold b (List.mem_filter.1 hb').1]
    exact hab
   ·intro a ha b hb'
    rw [List.mem_singleton.1 hb', hold a (List.mem_filter.1 ha).1, hnew]
    exact h.bnd a (List.mem_filter.1 ha).1
  ·intro a ha
   rcases List.mem_append.1 ha with ha | ha
   ·rw [hold a (List.mem_filter.1 ha).1]
    have := h.bnd a (List.mem_filter.1 ha).1
    omega
   ·rw [List.mem_singleton.1 ha, hnew]; omega
  ·intro p hp
   rcases List.mem_append.1 hp with hp | hp
   ·exact hasked p (hb p (List.mem_filter.1 hp).1) (.inl (List.mem_filter.1 hp).1)
   ·rw [List.mem_singleton.1 hp]; exact hasked t h6 (.inr rfl)
theorem at_came {off came : List Int} (hp : off.Pairwise fun a b => came.getD a.toNat 0 < came.getD b.toNat 0) {a b : Int} (ha : a ∈ off) (hb : b ∈ off) : atF off a < atF off b ↔ came.getD a.toNat 0 < came.getD b.toNat 0 := by
 obtain ⟨a0, a1, a2⟩ := atF_mem ha
 obtain ⟨b0, b1, b2⟩ := atF_mem hb
 obtain ⟨la, ea⟩ := List.getElem?_eq_some_iff.1 a2
 obtain ⟨lb, eb⟩ := List.getElem?_eq_some_iff.1 b2
 have h := List.pairwise_iff_getElem.1 hp
 constructor
 ·intro hlt
  have := h _ _ la lb (by omega)
  rwa [ea, eb] at this
 ·intro hlt
  rcases Int.lt_trichotomy (atF off a) (atF off b) with h1 | h1 | h1
  ·exact h1
  ·exfalso
   have e : a = b := by
    have hi : (atF off a).toNat = (atF off b).toNat := by rw [h1]
    rw [hi, b2] at a2
    exact (Option.some.inj a2).symm
   rw [e] at hlt; omega
  ·have := h _ _ lb la (by omega)
   rw [ea, eb] at this
   omega
theorem OrdI.bef {r : Int} {start ts off : List Int} {s : RS} {i : Nat} (h : OrdI start ts off s i) (hi : i < ts.length) (hr : 0 <= r /\ r <= 3) (hsl : start.length <= 4) (hb : ∀ x ∈ off, 0 <= x /\ x < 6) (x y : Int) (hx : x ∈ off) (hy : y ∈ off) :
  befF start ts off r i x y = true ↔ rankF r s.came s.asked (if r = 3 then laterL ts (i + 1) else s.later) x < rankF r s.came s.asked (if r = 3 then laterL ts (i + 1) else s.later) y ∨ (rankF r s.came s.asked (if r = 3 then laterL ts (i + 1) else s.later) x = rankF r s.came s.asked (if r = 3 then laterL ts (i + 1) else s.later) y /\ x < y) := by
 have hxb := hb x hx
 have hyb := hb y hy
 have hcase : r = 0 ∨ r = 1 ∨ r = 2 ∨ r = 3 := by omega
 rcases hcase with rfl | rfl | rfl | rfl
 ·simp only [befF, rankF]
  simp
 ·have hxy := at_came h.came hx hy
  have heq : s.came.getD x.toNat 0 = s.came.getD y.toNat 0 -> ¬ x < y := fun e hlt => by
   have h1 := mt (at_came h.came hx hy).1 (by omega)
   have h2 := mt (at_came h.came hy hx).1 (by omega)
   have e' : atF off x = atF off y := by omega
   have := (atF_mem hx).2.2
   rw [e', (atF_mem hy).2.2] at this
   have := Option.some.inj this
   omega
  simp only [befF, rankF]
  simp only [show ¬ (1 : Int) = 0 by decide, if_false, if_true, decide_eq_true_eq]
  rw [hxy]
  omega
 ·have heq : lastF start ts x i = lastF start ts y i -> x = y := fun e => by
   rcases h.ask x hx with ⟨hx1, hx2⟩ | ⟨hx1, hx2, hx3⟩
   ·rcases h.ask y hy with ⟨hy1, hy2⟩ | ⟨hy1, hy2, hy3⟩
    ·have bx := atF_bnd start x
     have by' := atF_bnd start y
     rcases lastF_nonneg (start := start) (ts := ts) (p := x) i with ⟨k, _, k1, k2⟩ | k1
     ·rcases lastF_nonneg (start := start) (ts := ts) (p := y) i with ⟨l, _, l1, l2⟩ | l1
      ·have : k = l := by omega
       rw [<- k1, <- l1, this]
      ·omega
     ·omega
    ·have by' := atF_bnd start y
     omega
   ·have bx := atF_bnd start x
    rcases h.ask y hy with ⟨hy1, hy2⟩ | ⟨hy1, hy2, hy3⟩
    ·omega
    ·have e' : atF start x = atF start y := by omega
     have := (atF_mem hx3).2.2
     rw [e', (atF_mem hy3).2.2] at this
     exact (Option.some.inj this).symm
  have hlt : lastF start ts x i < lastF start ts y i ↔ s.asked.getD x.toNat 0 < s.asked.getD y.toNat 0 := by
   have bx := atF_bnd start x
   have by' := atF_bnd start y
   rcases h.ask x hx with ⟨hx1, hx2⟩ | ⟨hx1, hx2, hx3⟩ <;> rcases h.ask y hy with ⟨hy1, hy2⟩ | ⟨hy1, hy2, hy3⟩ <;> omega
  have hgt : lastF start ts y i < lastF start ts x i ↔ s.asked.getD y.toNat 0 < s.asked.getD x.toNat 0 := by
   have bx := atF_bnd start x
   have by' := atF_bnd start y
   rcases h.ask x hx with ⟨hx1, hx2⟩ | ⟨hx1, hx2, hx3⟩ <;> rcases h.ask y hy with ⟨hy1, hy2⟩ | ⟨hy1, hy2, hy3⟩ <;> omega
  simp only [befF, rankF]
  simp only [show ¬ (2 : Int) = 0 by decide, show ¬ (2 : Int) = 1 by decide, if_false, if_true, decide_eq_true_eq]
  rw [hlt]
  constructor
  ·exact .inl
  ·rintro (h1 | ⟨h1, h2⟩)
   ·exact h1
   ·have := heq (by omega)
    omega
 ·simp only [befF, rankF]
  simp only [show ¬ (3 : Int) = 0 by decide, show ¬ (3 : Int) = 1 by decide, show ¬ (3 : Int) = 2 by decide, if_false, if_true]
  rw [laterL_get ts _ x hxb.1 hxb.2, laterL_get ts _ y hyb.1 hyb.2, nextF_nxt ts x i hi, nextF_nxt ts y i hi]
  split
  ·rw [decide_eq_true_eq]; omega
  ·rw [decide_eq_true_eq]; omega
def refSent (pl : Int) (start ts off : List Int) (r : Int) (i : Nat) : Int := if ts.getD i 0 ∈ off then -1 else if (off.length : Int) = pl then firstBy (befF start ts off r i) off else -1
theorem ref_inv (n : HN) (h : NumOk n) (hn : n.start.Nodup) (hr : 0 <= n.rule /\ n.rule <= 3) (hp4 : n.places <= 4) : ∀ i, i <= n.ts.length -> OrdI n.start n.ts (nhS n.ts n.sents n.start i).1 (rrun n.places n.rule n.ts (rs0 n.start) i) i
 | 0, _ => OrdI.zero hn h.sb
 | i + 1, hi => by
  have ih := ref_inv n h hn hr hp4 i (by omega)
  have hcl : (rs0 n.start).cl.length = 8 := by simp [rs0]
  have hm := (nhS_run (r := n.rule) h.pl h.t8 h.tb h.sb n.sents (fun i hi => sents_at hcl h.t8 hi) i (by omega)).1
  have hok := rrun_ok n.places n.rule n.ts n.start h.sb h.tb (by have := h.t8; omega) i (by omega)
  have hst := ih.step (pl := n.places) (r := n.rule) hok (by omega) hm (ts_in (by omega) h.tb)
  have hs : n.sents.getD i 0 = _ := sents_at (pl := n.places) (r := n.rule) hcl h.t8 (i := i) (by omega)
  rw [nhS, hs]
  rw [apply_ite Prod.fst]
  exact hst
theorem ref_sent (n : HN) (h : NumOk n) (hn : n.start.Nodup) (hr : 0 <= n.rule /\ n.rule <= 3) (hp4 : n.places <= 4) {i : Nat} (hi : i < n.ts.length) : refSent n.places n.start n.ts (nhS n.ts n.sents n.start i).1 n.rule i = n.sents.getD i 0 := by
 have ih := ref_inv n h hn hr hp4 i (by omega)
 have hcl : (rs0 n.start).cl.length = 8 := by simp [rs0]
 have hm := (nhS_run (r := n.rule) h.pl h.t8 h.tb h.sb n.sents (fun i hi => sents_at hcl h.t8 hi) i (by omega)).1
 have hs : n.sents.getD i 0 = _ := sents_at (pl := n.places) (r := n.rule) hcl h.t8 hi
 have h6 := ts_in hi h.tb
 have hcnt := off_count (nhS_nodup hn i) hm
 have hfit := (rrun_fit (r := n.rule) (s0 := rs0 n.start) h.pl h.tb (start_fit h.sb h.sl) i (by omega)).few
 rw [hs]
 unfold refSent rsent
 by_cases ht : n.ts.getD i 0 ∈ (nhS n.ts n.sents n.start i).1
 ·rw [if_pos ht, if_neg]
  intro hsd
  exact ((sendB_iff h6.1 h6.2).1 hsd).1 ((hm _).1 ht)
 ·rw [if_neg ht]
  by_cases hf : (((nhS n.ts n.sents n.start i).1.length : Nat) : Int) = n.places
  ·rw [if_pos hf, if_pos ((sendB_iff h6.1 h6.2).2 ⟨fun hin => ht ((hm _).2 hin), by rw [<- hcnt]; omega⟩)]
   exact pick_eq hm (by have := h.pl; omega) fun x y hx hy => ih.bef hi hr (by have := h.sl; omega) (fun z hz => ⟨((hm z).1 hz).1, ((hm z).1 hz).2.1⟩) x y hx hy
  ·rw [if_neg hf, if_neg]
   intro hsd
   have := ((sendB_iff h6.1 h6.2).1 hsd).2
   have hfit' : ((oCount (rrun n.places n.rule n.ts (rs0 n.start) i).m : Nat) : Int) <= n.places := hfit
   omega
end Go.Proofs.YtofmadjgbcopdaaGreatDoor
end
section
namespace Go.Proofs.YtofmadjgbcopdaaGreatDoor
open Go Go.X
def y111_113 := And.intro (fun H => loadAt_aggE (H := H) Tryz.underlying25 rfl Tryz.sizeOf25) (And.intro @callF148 (And.intro (fun H => len_slice (H := H) Tryz.underlying22) (And.intro (fun H => fieldAt_eq (H := H) Tryz.underlying25 (i := 3) rfl (off := 3) rfl Tryz.sizeOf23) (And.intro (fun H => loadAt_one (H := H) Tryz.underlying23 rfl) (And.intro (fun H => len_slice (H := H) Tryz.underlying23) (And.intro (fun H => indexAt_slice (H := H) Tryz.underlying23 Tryz.sizeOf22) (And.intro (fun H => loadAt_one (H := H) Tryz.underlying22 rfl) (And.intro (fun H => indexAt_slice (H := H) Tryz.underlying22 Tryz.sizeOf3) (And.intro (fun H => loadAt_one (H := H) Tryz.underlying3 rfl) @callF149)))))))))
def y112_113 := @callF150
def y113_113 := And.intro (fun H => buildSlice0 (H := H) Tryz.underlying22 Tryz.sizeOf3) (And.intro (fun H => fieldAt_eq (H := H) Tryz.underlying25 (i := 2) rfl (off := 2) rfl Tryz.sizeOf22) (And.intro (fun H => loadAt_one (H := H) Tryz.underlying22 rfl) (And.intro (fun H => len_slice (H := H) Tryz.underlying22) (And.intro (fun H => indexAt_slice (H := H) Tryz.underlying22 Tryz.sizeOf3) (And.intro (fun H => loadAt_one (H := H) Tryz.underlying3 rfl) (And.intro @callF149 (And.intro (fun H => fieldAt_eq (H := H) Tryz.underlying25 (i := 0) rfl (off := 0) rfl Tryz.sizeOf3) (And.intro (fun H => loadAt_aggE (H := H) Tryz.underlying25 rfl Tryz.sizeOf25) (And.intro @callF151 (And.intro @callF152 @lit_22_1_0_0))))))))))
theorem rcheckTruth_spec (m : Md) (H : Hp) (places pieces : Int) (sv cv tv : Value) (start : List Int) (xss : List (List Int)) (ts : List Int) (hd : DayIn H places pieces sv cv tv start xss ts) :
  FnX Tryz.prog m 111 #[.agg #[.int .i64 places, .int .i64 pieces, sv, cv], tv] H fun e H' => e = .returned (.int .i64 0) /\ H.le H' := by
 obtain ⟨sa, sn, sc, rfl⟩ := hd.st.isSlice
 obtain ⟨ca, cc, rfl, hcc, _⟩ := id hd.calls
 obtain ⟨ta, tc, rfl, htc, _⟩ := id hd.truth
 have htl : ts.length <= xss.length /\ xss.length <= ts.length := by have := hd.true.1; omega
 have hx8 := hd.few
 refine FnX_start Tryz.func111 rfl Tryz.ntmps111 (by simp) ?_
 (refine @unH _ ?_; refine zA y111_113 ?_; (repeat (refine inC ?_; intro hc)); try (refine inK ?_; intro K hK))
 (intro vb hvb; generalize hG : Hp.set _ vb _ = H1; have lH1 := le_of_set hG hvb; have vvb := at_of_set hG; clear hG)
 have hd1 := hd.le lH1
 clear hd
 ((try (refine @unH _ ?_; refine zX y111_113 ?_)); (try (refine hK _ _ ?_; clear hK K; (try simp only [nq, ↓reduceIte, Nat.reduceEqDiff]))); refine @unH _ ?_; refine zA y111_113 ?_; (repeat (refine inC ?_; intro hc)); try (refine inK ?_; intro K hK))
 refine (rcheck_spec m H1 places pieces _ _ start xss hd1.st hd1.calls hd1.ok hd1.few).runs.mono ?_
 rintro _ H2 ⟨rfl, lH2⟩
 have hd2 := hd1.le lH2
 have vvb2 := lH2 _ _ vvb
 have lHH := Hp.le_trans lH1 lH2
 clear hd1 vvb lH1 lH2
 ((try (refine @unH _ ?_; refine zX y111_113 ?_)); (try (refine hK _ _ ?_; clear hK K; (try simp only [nq, ↓reduceIte, Nat.reduceEqDiff]))); refine @unH _ ?_; refine zA y111_113 ?_; (repeat (refine inC ?_; intro hc)); try (refine inK ?_; intro K hK))
 refine wpX_loop (fun w a' H' => ∃ e i, w = ts.length - i /\ i <= ts.length /\ a' = act 41 e [] /\ e 1 = .slice ta ts.length tc /\ e 2 = .pointer (some ⟨vb, 0, none⟩) /\ e 6 = .int .i64 (i : Nat) /\ H' = H2) (n := ts.length) ?_ ?_
 ·exact ⟨_, 0, by omega, by omega, rfl, rfl, rfl, rfl, by trivial⟩
 ·rintro w a' H' ⟨e, i, rfl, hi, rfl, e1, e2, e6, hH⟩
  rw [hH]; clear hH H'
  by_cases hlt : i < ts.length
  ·obtain ⟨b, o, p, c, fr, rfl, hb, hcx⟩ := SlI.get hd2.truth (List.getElem?_eq_getElem hlt)
   have hltx : i < xss.length := by omega
   obtain ⟨rb, ro, rp, rc, rfr, rw', rfl, hrb, hrx, hrow⟩ := SlR.get hd2.calls (List.getElem?_eq_getElem hltx)
   have hmem := hd2.true.2 i _ _ (List.getElem?_eq_getElem hlt) (List.getElem?_eq_getElem hltx)
   have hxl : xss[i].length <= 1000000 := by have := (hd2.ok.2.2.2.2.2.2.2 _ (List.getElem_mem hltx)).len; have := hd2.ok.2.2.2.1; omega
   generalize ts[i] = t at *
   generalize xss[i] = xs at *
   have hat := (atF_mem hmem).1
   obtain ⟨ra, rn, rcap, rfl⟩ := hrow.isSlice
   replace hmem : SameP _ := hmem
   (refine @unH _ ?_; refine zA y111_113 ?_; (repeat (refine inC ?_; intro hc)); try (refine inK ?_; intro K hK))
   refine wpX_dst1 11 [(true, 0), (true, 1), (true, 2), (true, 3), (true, 4), (true, 5), (true, 6), (true, 7), (true, 8), (true, 9), (true, 10)] (by kernel_rfl) (by kernel_rfl) (by simp) (by kernel_rfl) ?_; intro K hK
   (iterate 9 (refine @unH _ ?_; refine z3 y111_113 ?_))
   (apply plan_take rfl rfl rfl; (focus ((refine @unH _ ?_; refine zX y111_113 ?_); exact quiet_of (rat_spec m H2 _ xs t hrow hxl))); simp -implicitDefEqProofs (disch := first | omega | (simp only [qd] <;> omega)) only [act_put, act_put_none])
   (refine @unH _ ?_; refine z3 y111_113 ?_)
   refine plan_nil (hK _ _ ?_)
   clear hK K
   (try simp only [nq, ↓reduceIte, Nat.reduceEqDiff])
   (refine @unH _ ?_; refine zA y111_113 ?_; (repeat (refine inC ?_; intro hc)); try (refine inK ?_; intro K hK))
   exact ⟨_, by omega, _, i + 1, rfl, hlt, rfl, e1, e2, rfl, by trivial⟩
  ·obtain rfl : i = ts.length := by omega
   (refine @unH _ ?_; refine zA y111_113 ?_; (repeat (refine inC ?_; intro hc)); try (refine inK ?_; intro K hK))
   (refine @unH _ ?_; refine z9 Tryz.results111 ?_)
   exact ⟨by trivial, lHH⟩
theorem isRule_spec (m : Md) (H : Hp) (r : Int) (h0 : 0 <= r) (h3 : r <= 3) :
  FnX Tryz.prog m 112 #[.int .i64 r] H fun e H' => e = .returned (.bool true) /\ H' = H := by
 refine FnX_start Tryz.func112 rfl Tryz.ntmps112 (by simp) ?_
 (refine @unH _ ?_; refine zA @y112_113 ?_; (repeat (refine inC ?_; intro hc)); try (refine inK ?_; intro K hK))
 refine (rin_yes m H r 0 3 h0 h3).runs.mono ?_; rintro _ HQ ⟨rfl, hHQ⟩; rw [hHQ]; clear hHQ HQ; ((try (refine @unH _ ?_; refine zX @y112_113 ?_)); (try (refine hK _ _ ?_; clear hK K; (try simp only [nq, ↓reduceIte, Nat.reduceEqDiff]))); refine @unH _ ?_; refine zA @y112_113 ?_; (repeat (refine inC ?_; intro hc)); try (refine inK ?_; intro K hK))
 (refine @unH _ ?_; refine z9 Tryz.results112 ?_)
 (refine ⟨?_, ?_⟩ <;> first | rfl | trivial | assumption)
theorem append_sli {H₀ H : Hp} {v w : Value} {xs ys : List Int} (h : RowX none H₀ H v 3 (ints xs)) (hw : SlI H w ys) (hsep : ys ≠ [] -> ∀ b, rowB w = some b -> rowB v ≠ some b) (hn : xs.length + ys.length <= 1000000) (ty : TypeId) (cb : Array Bool) (K : Next -> Hp -> Prop) (E : Value -> Hp -> Prop)
  (h' : ∀ v' H', RowX none H₀ H' v' 3 (ints (xs ++ ys)) -> (∀ x u, H x = some u -> rowB v ≠ some x -> H' x = some u) -> K (.value v') H') :
  wpS Tryz.prog (builtin .append #[22, 22] ty cb #[v, w]) H K E := by
 obtain ⟨a, cap, rfl, hcap, hx⟩ := hw
 cases ys with
 | nil =>
  have hv : ∃ va vc, v = .slice va (ints xs).length vc /\ (ints xs).length <= vc := by
   rcases h.2 with ⟨rfl, e⟩ | ⟨b, c, vc, _, _, rfl, _, hc, _⟩
   ·exact ⟨none, 0, by rw [e]; rfl, by rw [e]; exact Nat.le_refl _⟩
   ·exact ⟨_, vc, rfl, hc⟩
  obtain ⟨va, vc, rfl, hvc⟩ := hv
  exact append_zero Tryz.underlying22 Tryz.sizeOf3 _ _ _ _ _ _ _ hvc _ _ (h' _ H (by rw [List.append_nil]; exact h) (fun x u hx _ => hx))
 | cons y0 ys0 =>
  obtain ⟨b, o, p, c, fr, rfl, hb, _⟩ := hx 0 y0 rfl
  refine append_rowI h rfl ⟨_, hb⟩ (hsep (by simp) b rfl) (fun j y hj => ?_) hn ty cb K E h'
  obtain ⟨b2, o2, p2, c2, fr2, e2, hb2, hc2⟩ := hx j y hj
  cases e2
  rw [cell_of hb2]
  exact hc2
theorem nh_hit {ts ss start : List Int} {i : Nat} (h : ts.getD i 0 ∈ (nhS ts ss start i).1) : nhS ts ss start (i + 1) = ((nhS ts ss start i).1, (nhS ts ss start i).2) := by rw [nhS, if_pos h]
theorem nh_miss {ts ss start : List Int} {i : Nat} (h : ts.getD i 0 ∉ (nhS ts ss start i).1) : nhS ts ss start (i + 1) = (((nhS ts ss start i).1.filter fun x => !(x == ss.getD i 0)) ++ [ts.getD i 0], (nhS ts ss start i).2 ++ [(i : Int)]) := by rw [nhS, if_neg h]
theorem rrun_spec (m : Md) (H : Hp) (places pieces : Int) (sv cv tv : Value) (start : List Int) (xss : List (List Int)) (ts ss : List Int) (hd : DayIn H places pieces sv cv tv start xss ts) (r : Int) (hr0 : 0 <= r) (hr3 : r <= 3) (hss : ss.length = ts.length)
  (hq : ∀ i, i < ts.length -> refSent places start ts (nhS ts ss start i).1 r i = ss.getD i 0) :
  FnX Tryz.prog m 113 #[.agg #[.int .i64 places, .int .i64 pieces, sv, cv], tv, .int .i64 r] H fun e H' => ∃ w, e = .returned (.tuple #[w, .int .i64 ((nhS ts ss start ts.length).2.length : Nat)]) /\ H.le H' /\ SlI H' w ss := by
 obtain ⟨sa, sc, rfl, hsc, _⟩ := id hd.st
 obtain ⟨ca, cn, cc, rfl⟩ := hd.calls.isSlice
 obtain ⟨ta, tc, rfl, htc, _⟩ := id hd.truth
 have hsl : start.length <= 4 := by have := hd.ok.2.2.2.2.1; have := hd.ok.2.1; omega
 have htl : ts.length <= 8 := by have h1 := hd.true.1; have h2 := hd.few; omega
 replace hss : SameP _ := hss
 replace hq : SameP _ := hq
 refine FnX_start Tryz.func113 rfl Tryz.ntmps113 (by simp) ?_
 (refine @unH _ ?_; refine zA y113_113 ?_; (repeat (refine inC ?_; intro hc)); try (refine inK ?_; intro K hK))
 (intro vb hvb; generalize hG : Hp.set _ vb _ = H1; have lH1 := le_of_set hG hvb; have vvb := at_of_set hG; clear hG)
 have hd1 := hd.le lH1
 clear hd
 ((try (refine @unH _ ?_; refine zX y113_113 ?_)); (try (refine hK _ _ ?_; clear hK K; (try simp only [nq, ↓reduceIte, Nat.reduceEqDiff]))); refine @unH _ ?_; refine zA y113_113 ?_; (repeat (refine inC ?_; intro hc)); try (refine inK ?_; intro K hK))
 intro nb hnb
 have hrow0 : RowX none H1 (H1.set nb (.cells #[] 3 (0, 0))) (.slice (some ⟨nb, 0, none⟩) 0 0) 3 (ints []) := ⟨Lex.of (Hp.le_set hnb), .inr ⟨nb, #[], 0, hnb, set_at, rfl, rfl, Nat.le_refl _, fun i u hi => by simp [ints] at hi⟩⟩
 have hst2 := hd1.st.le (Hp.le_set hnb (o := .cells #[] 3 (0, 0)))
 have hday2 := hd1.le (Hp.le_set hnb (o := .cells #[] 3 (0, 0)))
 have vvb2 := Hp.le_set hnb (o := .cells #[] 3 (0, 0)) _ _ vvb
 have hnv : vb ≠ nb := ne_new vvb hnb
 have hsn : start ≠ [] -> ∀ b, rowB (.slice sa start.length sc) = some b -> rowB (.slice (some ⟨nb, 0, none⟩) 0 0) ≠ some b := fun hne b hb h => by
  obtain ⟨b1, o1, c1, p1, cs1, fr1, hv1, _, hb1, _⟩ := hd1.st.cons hne
  cases hv1
  cases hb
  cases h
  rw [hnb] at hb1
  cases hb1
 ((try (refine @unH _ ?_; refine zX y113_113 ?_)); (try (refine hK _ _ ?_; clear hK K; (try simp only [nq, ↓reduceIte, Nat.reduceEqDiff]))); refine @unH _ ?_; refine zA y113_113 ?_; (repeat (refine inC ?_; intro hc)); try (refine inK ?_; intro K hK))
 refine append_sli hrow0 hst2 hsn (by simp; omega) _ _ _ _ ?_
 intro ov H2 hov hk2
 have hlH2 : H1.le H2 := hov.1.toLe
 replace hday2 := hd1.le hlH2
 replace vvb2 := hlH2 _ _ vvb
 have hoI : SlI H2 ov start := by have := hov.ints; simpa using this
 have hoB : ∀ b, rowB ov = some b -> ∃ u, H2 b = some u := fun b hb => (row_new hov hb).2
 clear hk2 hov hrow0 hst2 hsn hnv hnb vvb hd1
 ((try (refine @unH _ ?_; refine zX y113_113 ?_)); (try (refine hK _ _ ?_; clear hK K; (try simp only [nq, ↓reduceIte, Nat.reduceEqDiff]))); refine @unH _ ?_; refine zA y113_113 ?_; (repeat (refine inC ?_; intro hc)); try (refine inK ?_; intro K hK))
 refine wpX_loop (fun w a' H' => ∃ e i ov chv, w = ts.length - i /\ i <= ts.length /\ a' = act 77 e [] /\ e 1 = .slice ta ts.length tc /\ e 2 = .int .i64 r /\ e 3 = .pointer (some ⟨vb, 0, none⟩) /\ e 8 = ov /\ e 9 = chv /\ e 10 = .int .i64 ((nhS ts ss start i).2.length : Nat) /\ e 11 = .int .i64 (i : Nat) /\
  SlI H' ov (nhS ts ss start i).1 /\ RowX none H2 H' chv 3 (ints (ss.take i)) /\ (∀ b, rowB ov = some b -> (∃ u, H' b = some u) /\ rowB chv ≠ some b)) (n := ts.length) ?_ ?_
 ·exact ⟨_, 0, _, _, by omega, by omega, rfl, rfl, rfl, rfl, rfl, rfl, rfl, rfl, hoI, RowX.nil, fun b hb => ⟨hoB b hb, fun h => by cases h⟩⟩
 ·clear hoI hoB ov
  rintro w a' H3 ⟨e, i, ov, chv, rfl, hi, rfl, e1, e2, e3, e8, e9, e10, e11, hov, hch, hsep⟩
  have hday3 := hday2.le hch.1.toLe
  have vvb3 := hch.1.toLe _ _ vvb2
  by_cases hlt : i < ts.length
  ·refine wpX_seq ?_
   (refine @unH _ ?_; refine zS y113_113 ?_; (repeat (refine inC ?_; intro hc)); try (refine inK ?_; intro K hK))
   refine wpX_seq (wpX_block ?_)
   (refine @unH _ ?_; refine zS y113_113 ?_; (repeat (refine inC ?_; intro hc)); try (refine inK ?_; intro K hK))
   have hlts : i < ss.length := by rw [show ss.length = ts.length from hss]; exact hlt
   have hsg : refSent places start ts (nhS ts ss start i).1 r i = ss.getD i 0 := (show ∀ i, i < ts.length -> refSent places start ts (nhS ts ss start i).1 r i = ss.getD i 0 from hq) i hlt
   have hmiss := nh_miss (ts := ts) (ss := ss) (start := start) (i := i)
   have hhit := nh_hit (ts := ts) (ss := ss) (start := start) (i := i)
   have hlen := (nhS_len ts ss start i).1
   have hlen2 := (nhS_len ts ss start i).2
   unfold refSent at hsg
   have hgt : ts.getD i 0 = ts[i] := getD_at hlt
   have hgs : ss.getD i 0 = ss[i] := getD_at hlts
   have htk : ss.take (i + 1) = ss.take i ++ [ss[i]] := by rw [List.take_add_one, List.getElem?_eq_getElem hlts]; rfl
   have htkl : (ss.take i).length <= 1000000 := by rw [List.length_take]; omega
   obtain ⟨b, o, p, c, fr, rfl, hb, hcx⟩ := SlI.get hday3.truth (List.getElem?_eq_getElem hlt)
   rw [hgt] at hsg hmiss hhit
   rw [hgs] at hsg hmiss
   generalize ts[i] = t at *
   generalize ss[i] = sg at *
   generalize ss.take i = chl at *
   clear hgt hgs
   generalize hN1 : (nhS ts ss start (i + 1)) = N1 at *
   generalize (nhS ts ss start i).1 = off at *
   generalize hJ : (nhS ts ss start i).2 = jb at *
   replace hsg : SameP _ := hsg
   replace hmiss : SameP _ := hmiss
   replace hhit : SameP _ := hhit
   replace htk : SameP _ := htk
   replace hN1 : SameP _ := hN1
   replace hlts : SameP _ := hlts
   clear hJ
   refine wpX_cut (fun a' H' => ∃ e ov', a' = act 77 e [] /\ e 1 = .slice (some ⟨b, o, none⟩) ts.length tc /\ e 2 = .int .i64 r /\ e 3 = .pointer (some ⟨vb, 0, none⟩) /\ e 8 = ov' /\ e 9 = chv /\ e 10 = .int .i64 (N1.2.length : Nat) /\ e 11 = .int .i64 (i : Nat) /\ e 12 = .int .i64 sg /\ SlI H' ov' N1.1 /\ RowX none H2 H' chv 3 (ints chl) /\ (∀ b, rowB ov' = some b -> (∃ u, H' b = some u) /\ rowB chv ≠ some b)) ?_ ?_
   ·obtain ⟨oa, oc, hove, hoc, _⟩ := id hov
    subst hove
    by_cases ht : t ∈ off
    ·have hat := (atF_mem ht).1
     have hN : N1 = (off, jb) := hhit ht
     have hs1 : (-1 : Int) = sg := by have h : (if t ∈ off then (-1 : Int) else _) = sg := hsg; rwa [if_pos ht] at h
     subst hN hs1
     replace ht : SameP _ := ht
     (refine @unH _ ?_; refine zA y113_113 ?_; (repeat (refine inC ?_; intro hc)); try (refine inK ?_; intro K hK))
     refine (rat_spec m H3 _ off t hov (by omega)).runs.mono ?_; rintro _ HQ ⟨rfl, hHQ⟩; rw [hHQ]; clear hHQ HQ; ((try (refine @unH _ ?_; refine zX y113_113 ?_)); (try (refine hK _ _ ?_; clear hK K; (try simp only [nq, ↓reduceIte, Nat.reduceEqDiff]))); refine @unH _ ?_; refine zA y113_113 ?_; (repeat (refine inC ?_; intro hc)); try (refine inK ?_; intro K hK))
     exact ⟨_, _, rfl, e1, e2, e3, e8, e9, e10, e11, rfl, hov, hch, hsep⟩
    ·have hN : N1 = ((off.filter fun x => !(x == sg)) ++ [t], jb ++ [(i : Int)]) := hmiss ht
     have hs1 : (if (off.length : Int) = places then firstBy (befF start ts off r i) off else (-1 : Int)) = sg := by have h : (if t ∈ off then (-1 : Int) else _) = sg := hsg; rwa [if_neg ht] at h
     subst hN
     replace hs1 : SameP _ := hs1
     (refine @unH _ ?_; refine zS y113_113 ?_; (repeat (refine inC ?_; intro hc)); try (refine inK ?_; intro K hK))
     refine (rat_no m H3 _ off t hov (by omega) ht).runs.mono ?_
     rintro _ HQ ⟨rfl, hHQ⟩; rw [hHQ]; clear hHQ HQ
     ((try (refine @unH _ ?_; refine zX y113_113 ?_)); (try (refine hK _ _ ?_; clear hK K; (try simp only [nq, ↓reduceIte, Nat.reduceEqDiff]))); refine @unH _ ?_; refine zS y113_113 ?_; (repeat (refine inC ?_; intro hc)); try (refine inK ?_; intro K hK))
     refine wpX_cut (fun a' H' => ∃ e, a' = act 77 e [] /\ e 1 = .slice (some ⟨b, o, none⟩) ts.length tc /\ e 2 = .int .i64 r /\ e 3 = .pointer (some ⟨vb, 0, none⟩) /\ e 8 = .slice oa off.length oc /\ e 9 = chv /\ e 10 = .int .i64 ((jb.length : Int) + 1) /\ e 11 = .int .i64 (i : Nat) /\ e 12 = .int .i64 sg /\ H' = H3) ?_ ?_
     ·by_cases hf : (off.length : Int) = places
      ·have hbq : ((off.length : Int) == places) = true := by simp [hf]
       have hs2 : firstBy (befF start ts off r i) off = sg := by have h : (if (off.length : Int) = places then firstBy (befF start ts off r i) off else (-1 : Int)) = sg := hs1; rwa [if_pos hf] at h
       have hpos : 0 < off.length := by have := hday3.ok.1; omega
       clear hf
       obtain ⟨b4, o4, p4, c4, fr4, h4, hb4, hcx4⟩ := SlI.get hov (List.getElem?_eq_getElem hpos)
       cases h4
       have hf1 : firstBy (befF start ts off r i) (off.take 1) = off[0] := by
        cases off with
        | nil => simp at hpos
        | cons x l => rfl
       generalize off[0] = x0 at *
       replace hcx4 : c4[o4 + Int.toNat 0]? = some (.int .i64 x0) := hcx4
       replace hs2 : SameP _ := hs2
       replace hf1 : SameP _ := hf1
       (refine @unH _ ?_; refine zA y113_113 ?_; (repeat (refine inC ?_; intro hc)); try (refine inK ?_; intro K hK))
       refine wpX_loop (fun w a' H' => ∃ e k, w = off.length - k /\ 1 <= k /\ k <= off.length /\ a' = act 77 e [] /\ e 1 = .slice (some ⟨b, o, none⟩) ts.length tc /\ e 2 = .int .i64 r /\ e 3 = .pointer (some ⟨vb, 0, none⟩) /\ e 8 = .slice (some ⟨b4, o4, none⟩) off.length oc /\ e 9 = chv /\ e 10 = .int .i64 ((jb.length : Int) + 1) /\ e 11 = .int .i64 (i : Nat) /\ e 12 = .int .i64 (firstBy (befF start ts off r i) (off.take k)) /\ e 13 = .int .i64 (k : Nat) /\ H' = H3) (n := off.length - 1) ?_ ?_
       ·exact ⟨_, 1, rfl, by omega, by omega, rfl, e1, e2, e3, e8, e9, rfl, e11, by rw [show firstBy _ _ = _ from hf1]; rfl, rfl, by trivial⟩
       ·clear e1 e2 e3 e8 e9 e10 e11 e hb4 hcx4
        rintro w a' H' ⟨e, k, rfl, hk1, hk, rfl, e1, e2, e3, e8, e9, e10, e11, e12, e13, hH⟩
        rw [hH]; clear hH H'
        by_cases hlt2 : k < off.length
        ·obtain ⟨b5, o5, p5, c5, fr5, h5, hb5, hcx5⟩ := SlI.get hov (List.getElem?_eq_getElem hlt2)
         cases h5
         have hsc2 := firstBy_succ (lt := befF start ts off r i) hk1 hlt2
         generalize off[k] = x at *
         generalize firstBy (befF start ts off r i) (off.take k) = s at *
         replace hsc2 : SameP _ := hsc2
         have hbf := before_spec m H3 places pieces _ _ _ _ start ts off hday3.st hday3.truth hov ⟨ca, cn, cc, rfl⟩ (by omega) (by omega) (by omega) r hr0 hr3 i hlt x s
         replace hbf : SameP _ := hbf
         (refine @unH _ ?_; refine zA y113_113 ?_; (repeat (refine inC ?_; intro hc)); try (refine inK ?_; intro K hK))
         refine wpX_dst1 11 [(true, 0), (true, 1), (true, 2), (true, 3), (true, 4), (true, 5), (true, 6), (true, 7), (true, 8), (true, 9), (true, 10)] (by kernel_rfl) (by kernel_rfl) (by simp) (by kernel_rfl) ?_; intro K hK
         (iterate 10 (refine @unH _ ?_; refine z3 y113_113 ?_))
         (apply plan_take rfl rfl rfl; (focus ((refine @unH _ ?_; refine zX y113_113 ?_); exact quiet_le hbf)); simp -implicitDefEqProofs (disch := first | omega | (simp only [qd] <;> omega)) only [act_put, act_put_none])
         refine plan_nil (hK _ _ ?_)
         clear hK K hbf
         (try simp only [nq, ↓reduceIte, Nat.reduceEqDiff])
         generalize befF start ts off r i x s = bb at *
         have hstep : ∀ q, (if bb = true then x else s) = q -> firstBy (befF start ts off r i) (off.take (k + 1)) = q := fun q hq => by rw [show firstBy _ (off.take (k + 1)) = _ from hsc2]; exact hq
         clear hsc2
         cases bb
         ·replace hstep := hstep s rfl
          replace hstep : SameP _ := hstep
          (refine @unH _ ?_; refine zA y113_113 ?_; (repeat (refine inC ?_; intro hc)); try (refine inK ?_; intro K hK))
          exact ⟨_, by omega, _, k + 1, rfl, by omega, hlt2, rfl, e1, e2, e3, e8, e9, e10, e11, by rw [show firstBy _ _ = _ from hstep]; exact e12, rfl, by trivial⟩
         ·replace hstep := hstep x rfl
          replace hstep : SameP _ := hstep
          (refine @unH _ ?_; refine zA y113_113 ?_; (repeat (refine inC ?_; intro hc)); try (refine inK ?_; intro K hK))
          exact ⟨_, by omega, _, k + 1, rfl, by omega, hlt2, rfl, e1, e2, e3, e8, e9, e10, e11, by rw [show firstBy _ _ = _ from hstep]; rfl, rfl, by trivial⟩
        ·obtain rfl : k = off.length := by omega
         have hs3 : firstBy (befF start ts off r i) off = sg := hs2
         rw [List.take_length, hs3] at e12
         clear hs3
         (refine @unH _ ?_; refine zA y113_113 ?_; (repeat (refine inC ?_; intro hc)); try (refine inK ?_; intro K hK))
         exact ⟨_, rfl, e1, e2, e3, e8, e9, e10, e11, e12, by trivial⟩
      ·have hbq : ((off.length : Int) == places) = false := by simp [hf]
       have hs2 : (-1 : Int) = sg := by have h : (if (off.length : Int) = places then firstBy (befF start ts off r i) off else (-1 : Int)) = sg := hs1; rwa [if_neg hf] at h
       clear hf
       subst hs2
       (refine @unH _ ?_; refine zA y113_113 ?_; (repeat (refine inC ?_; intro hc)); try (refine inK ?_; intro K hK))
       exact ⟨_, rfl, e1, e2, e3, e8, e9, rfl, e11, rfl, by trivial⟩
     ·clear e1 e2 e3 e8 e9 e10 e11 e
      rintro a' H' ⟨e, rfl, e1, e2, e3, e8, e9, e10, e11, e12, hH⟩
      rw [hH]; clear hH H'
      have hjl : (((jb ++ [(i : Int)]).length : Nat) : Int) = (jb.length : Int) + 1 := by simp
      have hfl : (off.filter fun x => !(x == sg)).length <= 1000 := by have := List.length_filter_le (fun x => !(x == sg)) off; omega
      have hfin : ∀ (HB H5 : Hp) (ov' : Value), H3.le HB -> RowX none HB H5 ov' 3 (ints ((off.filter fun x => !(x == sg)) ++ [t])) -> SlI H5 ov' ((off.filter fun x => !(x == sg)) ++ [t]) /\ RowX none H2 H5 chv 3 (ints chl) /\ (∀ b, rowB ov' = some b -> (∃ u, H5 b = some u) /\ rowB chv ≠ some b) := fun HB H5 ov' hl hr =>
       ⟨hr.ints, hch.le (Hp.le_trans hl hr.1.toLe), fun b' hb' => ⟨(row_new hr hb').2, fun hcb => by
        obtain ⟨u, hu⟩ := (row_new hch hcb).2
        have h1 := hl _ _ hu
        rw [(row_new hr hb').1] at h1
        cases h1⟩⟩
      replace hfin : SameP _ := hfin
      refine wpX_tlast (fun HX => HX b = some (p, .cells c 3 fr)) (.take 0 (.take 1 (.take 3 (.take 4 (.take 5 (.take 6 (.two 2 (.one 7 (.one 8 (.take 9 .nil))) 7 (.one 2 (.one 8 (.take 9 .nil)))))))))) (by kernel_rfl) (by kernel_rfl) (by decide) (by kernel_rfl) ?_; intro K hK
      (iterate 6 (refine @unH _ ?_; refine z4 y113_113 ?_))
      refine planT_two ?_ ?_
      ·(refine @unH _ ?_; refine zX y113_113 ?_)
       refine (rwithout_spec m H3 _ off sg hov (by omega)).runs.mono ?_
       rintro _ H4 ⟨w, rfl, hw⟩
       have hb4 := hw.1.toLe _ _ hb
       (refine @unH _ ?_; refine zX y113_113 ?_)
       refine planT_one ?_
       (refine @unH _ ?_; refine zX y113_113 ?_)
       intro g hg
       have nbg : b ≠ g := ne_new hb4 hg
       (refine @unH _ ?_; refine zX y113_113 ?_)
       refine planT_one ?_
       (refine @unH _ ?_; refine zX y113_113 ?_)
       refine append_i2 hw hg (by omega) _ _ _ _ ?_
       intro ov' H5 hr5 _ _
       have hb6 := hr5.1.toLe _ _ hb
       clear hb4 hb
       (refine @unH _ ?_; refine zX y113_113 ?_)
       (refine @unH _ ?_; refine z4 y113_113 ?_)
       refine planT_nil (hK _ _ ?_); clear hK K
       (try simp only [nq, ↓reduceIte, Nat.reduceEqDiff])
       exact ⟨_, ov', rfl, e1, e2, e3, rfl, e9, e10.trans (by rw [hjl]), e11, e12, hfin H3 H5 ov' (Hp.le_refl _) hr5⟩
      ·(refine @unH _ ?_; refine zX y113_113 ?_)
       intro g hg
       have nbg : b ≠ g := ne_new hb hg
       (refine @unH _ ?_; refine zX y113_113 ?_)
       have lg : H3.le (H3.set g (.cells #[.int .i64 t] 3 (0, 0))) := Hp.le_set hg
       have vg : (H3.set g (.cells #[.int .i64 t] 3 (0, 0))) g = _ := set_at
       generalize H3.set g (.cells #[.int .i64 t] 3 (0, 0)) = HB at *
       have hbB := lg _ _ hb
       refine planT_one ?_
       (refine @unH _ ?_; refine zX y113_113 ?_)
       refine (rwithout_spec m HB _ off sg (hov.le lg) (by omega)).runs.mono ?_
       rintro _ H4 ⟨w, rfl, hw⟩
       have hb4 := hw.1.toLe _ _ hbB
       have vg4 := hw.1.toLe _ _ vg
       have hsg4 := row_sep hw vg
       (refine @unH _ ?_; refine zX y113_113 ?_)
       refine planT_one ?_
       (refine @unH _ ?_; refine zX y113_113 ?_)
       refine append_rowI (ys := [t]) hw rfl ⟨_, vg4⟩ hsg4 (fun j y hj => by
        match j, hj with
        | 0, hj => cases hj; rw [cell_of vg4]; rfl
        | j + 1, hj => simp at hj) (by simp only [List.length_singleton]; omega) _ _ _ _ ?_
       intro ov' H5 hr5 _
       have hb6 := hr5.1.toLe _ _ hbB
       clear hb4 hb hbB vg4
       (refine @unH _ ?_; refine zX y113_113 ?_)
       (refine @unH _ ?_; refine z4 y113_113 ?_)
       refine planT_nil (hK _ _ ?_); clear hK K
       (try simp only [nq, ↓reduceIte, Nat.reduceEqDiff])
       exact ⟨_, ov', rfl, e1, e2, e3, rfl, e9, e10.trans (by rw [hjl]), e11, e12, hfin HB H5 ov' lg hr5⟩
   ·clear e1 e2 e3 e8 e9 e10 e11 e
    rintro a' H4 ⟨e, ov', rfl, e1, e2, e3, e8, e9, e10, e11, e12, hov4, hch4, hsep4⟩
    (refine @unH _ ?_; refine zA y113_113 ?_; (repeat (refine inC ?_; intro hc)); try (refine inK ?_; intro K hK))
    intro g hg
    refine append_i2 hch4 hg htkl _ _ _ _ ?_
    intro chv' H5 hr5 hk5 hn5
    ((try (refine @unH _ ?_; refine zX y113_113 ?_)); (try (refine hK _ _ ?_; clear hK K; (try simp only [nq, ↓reduceIte, Nat.reduceEqDiff]))); refine @unH _ ?_; refine zA y113_113 ?_; (repeat (refine inC ?_; intro hc)); try (refine inK ?_; intro K hK))
    refine ⟨_, by omega, _, i + 1, ov', chv', rfl, hlt, rfl, e1, e2, e3, e8, rfl, ?_, rfl, ?_, ?_, ?_⟩
    ·rw [show nhS ts ss start (i + 1) = N1 from hN1]; exact e10
    ·rw [show nhS ts ss start (i + 1) = N1 from hN1]
     exact hov4.keepB fun b' x hb' hx => hk5 b' x hx (hsep4 b' hb').2
    ·rw [show ss.take (i + 1) = _ from htk]; exact hr5
    ·intro b' hb'
     obtain ⟨⟨u, hu⟩, hne⟩ := hsep4 b' hb'
     refine ⟨⟨u, hk5 b' u hu hne⟩, fun h => ?_⟩
     rcases hn5 b' h with h | h
     ·exact hne h
     ·rw [hu] at h; cases h
  ·obtain rfl : i = ts.length := by omega
   have htk : ss.take ts.length = ss := List.take_of_length_le (by rw [show ss.length = ts.length from hss]; exact Nat.le_refl _)
   rw [htk] at hch
   obtain ⟨cha, chc, rfl⟩ := hch.len
   (refine @unH _ ?_; refine zA y113_113 ?_; (repeat (refine inC ?_; intro hc)); try (refine inK ?_; intro K hK))
   (refine @unH _ ?_; refine zB Tryz.results113 ?_)
   exact ⟨_, rfl, Hp.le_trans lH1 (Hp.le_trans hlH2 hch.1.toLe), hch.ints⟩
end Go.Proofs.YtofmadjgbcopdaaGreatDoor
end
section
namespace Go.Proofs.YtofmadjgbcopdaaGreatDoor
open Go Go.X
def y29_114 := And.intro (fun H => fieldAt_eq (H := H) Tryz.underlying29 (i := 0) rfl (off := 0) rfl Tryz.sizeOf25) (And.intro (fun H => loadAt_aggE (H := H) Tryz.underlying25 rfl Tryz.sizeOf25) (And.intro (fun H => fieldAt_eq (H := H) Tryz.underlying29 (i := 1) rfl (off := 4) rfl Tryz.sizeOf22) (And.intro (fun H => loadAt_one (H := H) Tryz.underlying22 rfl) (And.intro (fun H => fieldAt_eq (H := H) Tryz.underlying29 (i := 2) rfl (off := 5) rfl Tryz.sizeOf3) (And.intro (fun H => loadAt_one (H := H) Tryz.underlying3 rfl) (And.intro @callF72 (And.intro (fun H => fieldAt_eq (H := H) Tryz.underlying29 (i := 3) rfl (off := 6) rfl Tryz.sizeOf22) (And.intro (fun H => len_slice (H := H) Tryz.underlying22) (And.intro (fun H => indexAt_slice (H := H) Tryz.underlying22 Tryz.sizeOf3) (And.intro @callF73 (And.intro (fun H => fieldAt_eq (H := H) Tryz.underlying29 (i := 4) rfl (off := 7) rfl Tryz.sizeOf3) (And.intro (fun H => fieldAt_eq (H := H) Tryz.underlying29 (i := 5) rfl (off := 8) rfl Tryz.sizeOf3) (And.intro (fun H => fieldAt_eq (H := H) Tryz.underlying29 (i := 6) rfl (off := 9) rfl Tryz.sizeOf3) (And.intro (fun H => fieldAt_eq (H := H) Tryz.underlying29 (i := 7) rfl (off := 10) rfl Tryz.sizeOf27) (And.intro (fun H => fieldAt_eq (H := H) Tryz.underlying27 (i := 0) rfl (off := 0) rfl Tryz.sizeOf3) (fun H => fieldAt_eq (H := H) Tryz.underlying27 (i := 1) rfl (off := 1) rfl Tryz.sizeOf3))))))))))))))))
def y72_114 := And.intro (fun H => loadAt_aggE (H := H) Tryz.underlying25 rfl Tryz.sizeOf25) (And.intro @callF111 (And.intro @callF112 @callF113))
theorem HaulIn.numR {H : Hp} {n : HN} {v : HV} (h : HaulIn H n v) : NumOk n :=
 ⟨h.day.ok.1, by have := h.day.true.1; have := h.day.few; omega, h.day.true.bnd h.day.ok, fun x hx => by
  have := h.day.ok.2.2.2.2.2.2.1 x hx; have := h.day.ok.2.2.2.1; omega, h.day.ok.2.2.2.2.1⟩
theorem HN.sentsL (n : HN) (h : NumOk n) : n.sents.length = n.ts.length := by
 have hcl : (rs0 n.start).cl.length = 8 := by simp [rs0]
 have := (rrun_cl (pl := n.places) (r := n.rule) hcl h.t8 n.ts.length (Nat.le_refl _)).1
 have h8 := h.t8
 show ((rrun n.places n.rule n.ts (rs0 n.start) n.ts.length).cl.take n.ts.length).length = _
 rw [List.length_take]
 omega
theorem rRun_spec (m : Md) (H : Hp) (n : HN) (v : HV) (hd : HaulIn H n v) :
  FnX Tryz.prog m 72 #[.agg #[.int .i64 n.places, .int .i64 n.pieces, v.sv, v.cv], v.tv, .int .i64 n.rule] H fun e H' => ∃ w, e = .returned (.tuple #[w, .int .i64 (n.jobs.length : Nat), .int .i64 0]) /\ H.le H' /\ SlI H' w n.sents := by
 have hno := hd.numR
 have hrs := fun H' (hd' : DayIn H' n.places n.pieces v.sv v.cv v.tv n.start n.xss n.ts) => rrun_spec m H' n.places n.pieces v.sv v.cv v.tv n.start n.xss n.ts n.sents hd' n.rule hd.r0 hd.r3 (n.sentsL hno) fun i hi => ref_sent n hno hd.day.ok.2.2.2.2.2.1 ⟨hd.r0, hd.r3⟩ hd.day.ok.2.1 hi
 replace hrs : SameP _ := hrs
 have hjobs : ((nhS n.ts n.sents n.start n.ts.length).2.length : Nat) = n.jobs.length := rfl
 have r0 := hd.r0
 have r3 := hd.r3
 have hday := hd.day
 clear hd hno
 obtain ⟨sv, cv, tv, xv⟩ := v
 obtain ⟨places, pieces, rule, notice, load, barrows, lo, hi, start, xss, ts, xs⟩ := n
 simp only [] at hday r0 r3 hrs hjobs ⊢
 generalize HN.sents _ = ss at *
 generalize List.length (HN.jobs _) = jl at *
 obtain ⟨sa, sn, sc, rfl⟩ := hday.st.isSlice
 obtain ⟨ca, cn, cc, rfl⟩ := hday.calls.isSlice
 obtain ⟨ta, tn, tc, rfl⟩ := hday.truth.isSlice
 refine FnX_start Tryz.func72 rfl Tryz.ntmps72 (by simp) ?_
 (refine @unH _ ?_; refine zA y72_114 ?_; (repeat (refine inC ?_; intro hc)); try (refine inK ?_; intro K hK))
 (intro vb hvb; generalize hG : Hp.set _ vb _ = H1; have lH1 := le_of_set hG hvb; have vvb := at_of_set hG; clear hG)
 have hd1 := hday.le lH1
 ((try (refine @unH _ ?_; refine zX y72_114 ?_)); (try (refine hK _ _ ?_; clear hK K; (try simp only [nq, ↓reduceIte, Nat.reduceEqDiff]))); refine @unH _ ?_; refine zA y72_114 ?_; (repeat (refine inC ?_; intro hc)); try (refine inK ?_; intro K hK))
 refine (rcheckTruth_spec m H1 places pieces _ _ _ start xss ts hd1).runs.mono ?_
 rintro _ H2 ⟨rfl, lH2⟩
 have hd2 := hd1.le lH2
 have vvb2 := lH2 _ _ vvb
 clear hd1 vvb hday
 ((try (refine @unH _ ?_; refine zX y72_114 ?_)); (try (refine hK _ _ ?_; clear hK K; (try simp only [nq, ↓reduceIte, Nat.reduceEqDiff]))); refine @unH _ ?_; refine zA y72_114 ?_; (repeat (refine inC ?_; intro hc)); try (refine inK ?_; intro K hK))
 refine (isRule_spec m H2 rule r0 r3).runs.mono ?_; rintro _ HQ ⟨rfl, hHQ⟩; rw [hHQ]; clear hHQ HQ; ((try (refine @unH _ ?_; refine zX y72_114 ?_)); (try (refine hK _ _ ?_; clear hK K; (try simp only [nq, ↓reduceIte, Nat.reduceEqDiff]))); refine @unH _ ?_; refine zA y72_114 ?_; (repeat (refine inC ?_; intro hc)); try (refine inK ?_; intro K hK))
 have hr2 := (show ∀ H', DayIn H' places pieces _ _ _ start xss ts -> _ from hrs) H2 hd2
 refine hr2.runs.mono ?_
 clear hr2
 rintro _ H3 ⟨w, rfl, lH3, hw⟩
 rw [hjobs]
 ((try (refine @unH _ ?_; refine zX y72_114 ?_)); (try (refine hK _ _ ?_; clear hK K; (try simp only [nq, ↓reduceIte, Nat.reduceEqDiff]))); refine @unH _ ?_; refine zA y72_114 ?_; (repeat (refine inC ?_; intro hc)); try (refine inK ?_; intro K hK))
 (refine @unH _ ?_; refine zC Tryz.results72 ?_)
 exact ⟨w, rfl, Hp.le_trans lH1 (Hp.le_trans lH2 lH3), hw⟩
theorem rinside_yes (m : Md) (H : Hp) (n lo hi : Int) (h0 : lo <= n) (h1 : n <= hi) :
  FnX Tryz.prog m 73 #[.int .i64 n, .int .i64 lo, .int .i64 hi] H fun e H' => e = .returned (.bool true) /\ H' = H := by
 refine FnX_start Tryz.func73 rfl Tryz.ntmps73 (by simp) ?_
 (refine @unH _ ?_; refine zA trivial ?_; (repeat (refine inC ?_; intro hc)); try (refine inK ?_; intro K hK))
 (refine @unH _ ?_; refine z9 Tryz.results73 ?_)
 (refine ⟨?_, ?_⟩ <;> first | rfl | trivial | assumption)
theorem rcheck6_spec (m : Md) (H : Hp) (n : HN) (v : HV) (hd : HaulIn H n v) :
  FnX Tryz.prog m 29 #[n.agg v] H fun e H' => e = .returned (.int .i64 0) /\ H.le H' := by
 have hrun := fun H' h' => rRun_spec m H' n v h'
 have hd0 := hd
 obtain ⟨sv, cv, tv, xv⟩ := v
 have hxl := hd.xlen
 replace hxl : n.xs.length <= n.ts.length /\ n.ts.length <= n.xs.length := by omega
 have hxl' : n.ts.length <= 8 := by have := hd.day.true.1; have := hd.day.few; omega
 obtain ⟨hday, htimes, hok, r0, r3, n0, n30, l1, l3, b1, b4, t1, t2, t20⟩ := hd
 simp only [] at hday htimes hok r0 r3 n0 n30 l1 l3 b1 b4 t1 t2 t20
 obtain ⟨sa, sn, sc, rfl⟩ := hday.st.isSlice
 obtain ⟨ca, cn, cc, rfl⟩ := hday.calls.isSlice
 obtain ⟨ta, tc, rfl, htc, _⟩ := id hday.truth
 obtain ⟨xa, xc, rfl, hxc, _⟩ := id htimes
 simp only [HN.agg] at hrun ⊢
 replace hrun : SameP _ := hrun
 clear hday
 have hasc : SameP _ := hok.2.1
 have hbnd : SameP _ := hok.2.2
 clear hok
 refine FnX_start Tryz.func29 rfl Tryz.ntmps29 (by simp) ?_
 (refine @unH _ ?_; refine zA y29_114 ?_; (repeat (refine inC ?_; intro hc)); try (refine inK ?_; intro K hK))
 (intro vb hvb; generalize hG : Hp.set _ vb _ = H1; have lH1 := le_of_set hG hvb; have vvb := at_of_set hG; clear hG)
 have hd1 := hd0.le lH1
 clear hd0
 ((try (refine @unH _ ?_; refine zX y29_114 ?_)); (try (refine hK _ _ ?_; clear hK K; (try simp only [nq, ↓reduceIte, Nat.reduceEqDiff]))); refine @unH _ ?_; refine zA y29_114 ?_; (repeat (refine inC ?_; intro hc)); try (refine inK ?_; intro K hK))
 have hr := (show ∀ H', HaulIn H' n ⟨.slice sa sn sc, .slice ca cn cc, .slice ta n.ts.length tc, .slice xa n.xs.length xc⟩ -> _ from hrun) H1 hd1
 refine hr.runs.mono ?_
 clear hr
 rintro _ H2 ⟨w, rfl, lH2, _⟩
 have hx2 := htimes.le (Hp.le_trans lH1 lH2)
 have vvb2 := lH2 _ _ vvb
 have lHH := Hp.le_trans lH1 lH2
 clear hd1 vvb lH1 lH2 htimes
 ((try (refine @unH _ ?_; refine zX y29_114 ?_)); (try (refine hK _ _ ?_; clear hK K; (try simp only [nq, ↓reduceIte, Nat.reduceEqDiff]))); refine @unH _ ?_; refine zA y29_114 ?_; (repeat (refine inC ?_; intro hc)); try (refine inK ?_; intro K hK))
 refine wpX_loop (fun w a' H' => ∃ e j, w = n.xs.length - j /\ j <= n.xs.length /\ a' = act 100 e [] /\ e 1 = .pointer (some ⟨vb, 0, none⟩) /\ e 6 = .int .i64 (j : Nat) /\ H' = H2) (n := n.xs.length) ?_ ?_
 ·exact ⟨_, 0, by omega, by omega, rfl, rfl, rfl, by trivial⟩
 ·rintro w a' H' ⟨e, j, rfl, hj, rfl, e1, e6, hH⟩
  rw [hH]; clear hH H'
  by_cases hlt : j < n.xs.length
  ·obtain ⟨b, o, p, c, fr, rfl, hb, hcx⟩ := SlI.get hx2 (List.getElem?_eq_getElem hlt)
   have hxb := (show ∀ x ∈ n.xs, 0 <= x /\ x <= 99 from hbnd) _ (List.getElem_mem hlt)
   have hprev : 0 < j -> ∃ y : Int, c[o + ((j : Int) - 1).toNat]? = some (.int .i64 y) /\ y <= n.xs[j] := fun hj0 => by
    have hj1 : j - 1 < n.xs.length := by omega
    obtain ⟨b3, o3, p3, c3, fr3, hre, hb3, hx3⟩ := SlI.get hx2 (List.getElem?_eq_getElem hj1)
    cases hre
    rw [hb] at hb3
    cases hb3
    refine ⟨n.xs[j - 1], ?_, (List.pairwise_iff_getElem.1 hasc) (j - 1) j hj1 hlt (by omega)⟩
    rw [show ((j : Int) - 1).toNat = j - 1 by omega]
    exact hx3
   generalize n.xs[j] = x at *
   replace hprev : SameP _ := hprev
   (refine @unH _ ?_; refine zA y29_114 ?_; (repeat (refine inC ?_; intro hc)); try (refine inK ?_; intro K hK))
   refine (rinside_yes m H2 x 0 99 hxb.1 hxb.2).runs.mono ?_; rintro _ HQ ⟨rfl, hHQ⟩; rw [hHQ]; clear hHQ HQ; ((try (refine @unH _ ?_; refine zX y29_114 ?_)); (try (refine hK _ _ ?_; clear hK K; (try simp only [nq, ↓reduceIte, Nat.reduceEqDiff]))); refine @unH _ ?_; refine zA y29_114 ?_; (repeat (refine inC ?_; intro hc)); try (refine inK ?_; intro K hK))
   by_cases hk0 : j = 0
   ·subst hk0
    refine wpX_dst1 16 [(true, 0), (true, 1), (true, 2), (true, 3), (true, 4), (true, 5), (true, 6), (true, 7), (true, 8), (true, 9), (true, 10), (true, 11), (true, 12), (true, 13), (true, 14), (true, 15)] (by kernel_rfl) (by kernel_rfl) (by simp) (by kernel_rfl) ?_; intro K hK
    (iterate 3 (refine @unH _ ?_; refine z3 y29_114 ?_))
    (iterate 12 (apply plan_skip rfl (by simp -implicitDefEqProofs (disch := omega) only [wanted_some, yielded_list, ylK_bool, List.getElem?_cons_succ, List.getElem?_cons_zero, Option.bind_some, act_get?, upd_get, Nat.reduceEqDiff, ↓reduceIte, *]; rfl); simp -implicitDefEqProofs (disch := first | omega | (simp only [qd] <;> omega)) only [act_put, act_put_none]))
    (refine @unH _ ?_; refine z3 y29_114 ?_)
    refine plan_nil (hK _ _ ?_)
    clear hK K
    (try simp only [nq, ↓reduceIte, Nat.reduceEqDiff])
    (refine @unH _ ?_; refine zA y29_114 ?_; (repeat (refine inC ?_; intro hc)); try (refine inK ?_; intro K hK))
    exact ⟨_, by omega, _, 1, rfl, hlt, rfl, e1, rfl, by trivial⟩
   ·obtain ⟨y, hy, hyx⟩ := (show 0 < j -> _ from hprev) (by omega)
    refine wpX_dst1 16 [(true, 0), (true, 1), (true, 2), (true, 3), (true, 4), (true, 5), (true, 6), (true, 7), (true, 8), (true, 9), (true, 10), (true, 11), (true, 12), (true, 13), (true, 14), (true, 15)] (by kernel_rfl) (by kernel_rfl) (by simp) (by kernel_rfl) ?_; intro K hK
    (iterate 3 (refine @unH _ ?_; refine z3 y29_114 ?_))
    (iterate 12 (refine @unH _ ?_; refine z6 y29_114 ?_))
    (refine @unH _ ?_; refine z3 y29_114 ?_)
    refine plan_nil (hK _ _ ?_)
    clear hK K
    (try simp only [nq, ↓reduceIte, Nat.reduceEqDiff])
    (refine @unH _ ?_; refine zA y29_114 ?_; (repeat (refine inC ?_; intro hc)); try (refine inK ?_; intro K hK))
    exact ⟨_, by omega, _, j + 1, rfl, hlt, rfl, e1, rfl, by trivial⟩
  ·obtain rfl : j = n.xs.length := by omega
   (refine @unH _ ?_; refine zA y29_114 ?_; (repeat (refine inC ?_; intro hc)); try (refine inK ?_; intro K hK))
   refine (rinside_yes m H2 n.notice 0 30 n0 n30).runs.mono ?_; rintro _ HQ ⟨rfl, hHQ⟩; rw [hHQ]; clear hHQ HQ; ((try (refine @unH _ ?_; refine zX y29_114 ?_)); (try (refine hK _ _ ?_; clear hK K; (try simp only [nq, ↓reduceIte, Nat.reduceEqDiff]))); refine @unH _ ?_; refine zA y29_114 ?_; (repeat (refine inC ?_; intro hc)); try (refine inK ?_; intro K hK))
   refine (rinside_yes m H2 n.load 1 3 l1 l3).runs.mono ?_; rintro _ HQ ⟨rfl, hHQ⟩; rw [hHQ]; clear hHQ HQ; ((try (refine @unH _ ?_; refine zX y29_114 ?_)); (try (refine hK _ _ ?_; clear hK K; (try simp only [nq, ↓reduceIte, Nat.reduceEqDiff]))); refine @unH _ ?_; refine zA y29_114 ?_; (repeat (refine inC ?_; intro hc)); try (refine inK ?_; intro K hK))
   refine (rinside_yes m H2 n.barrows 1 4 b1 b4).runs.mono ?_; rintro _ HQ ⟨rfl, hHQ⟩; rw [hHQ]; clear hHQ HQ; ((try (refine @unH _ ?_; refine zX y29_114 ?_)); (try (refine hK _ _ ?_; clear hK K; (try simp only [nq, ↓reduceIte, Nat.reduceEqDiff]))); refine @unH _ ?_; refine zA y29_114 ?_; (repeat (refine inC ?_; intro hc)); try (refine inK ?_; intro K hK))
   refine (rinside_yes m H2 n.lo 1 20 t1 (by omega)).runs.mono ?_; rintro _ HQ ⟨rfl, hHQ⟩; rw [hHQ]; clear hHQ HQ; ((try (refine @unH _ ?_; refine zX y29_114 ?_)); (try (refine hK _ _ ?_; clear hK K; (try simp only [nq, ↓reduceIte, Nat.reduceEqDiff]))); refine @unH _ ?_; refine zA y29_114 ?_; (repeat (refine inC ?_; intro hc)); try (refine inK ?_; intro K hK))
   refine (rinside_yes m H2 n.hi 1 20 (by omega) t20).runs.mono ?_; rintro _ HQ ⟨rfl, hHQ⟩; rw [hHQ]; clear hHQ HQ; ((try (refine @unH _ ?_; refine zX y29_114 ?_)); (try (refine hK _ _ ?_; clear hK K; (try simp only [nq, ↓reduceIte, Nat.reduceEqDiff]))); refine @unH _ ?_; refine zA y29_114 ?_; (repeat (refine inC ?_; intro hc)); try (refine inK ?_; intro K hK))
   (refine @unH _ ?_; refine z9 Tryz.results29 ?_)
   exact ⟨by trivial, lHH⟩
end Go.Proofs.YtofmadjgbcopdaaGreatDoor
end
section
namespace Go.Proofs.YtofmadjgbcopdaaGreatDoor
open Go Go.X
def y27_115 := And.intro (fun H => loadAt_aggE (H := H) Tryz.underlying29 rfl Tryz.sizeOf29) (And.intro @callF29 @callF69)
def y69_115 := And.intro (fun H => fieldAt_eq (H := H) Tryz.underlying29 (i := 0) rfl (off := 0) rfl Tryz.sizeOf25) (And.intro (fun H => loadAt_aggE (H := H) Tryz.underlying25 rfl Tryz.sizeOf25) (And.intro (fun H => fieldAt_eq (H := H) Tryz.underlying29 (i := 1) rfl (off := 4) rfl Tryz.sizeOf22) (And.intro (fun H => loadAt_one (H := H) Tryz.underlying22 rfl) (And.intro (fun H => fieldAt_eq (H := H) Tryz.underlying29 (i := 2) rfl (off := 5) rfl Tryz.sizeOf3) (And.intro (fun H => loadAt_one (H := H) Tryz.underlying3 rfl) (And.intro @callF72 (And.intro (fun H => makeSlice_one (H := H) Tryz.underlying59 Tryz.sizeOf4 Tryz.zeroValue4 rfl Tryz.typeInfo4 (by decide)) (And.intro (fun H => fieldAt_eq (H := H) Tryz.underlying25 (i := 2) rfl (off := 2) rfl Tryz.sizeOf22) (And.intro (fun H => len_slice (H := H) Tryz.underlying22) (And.intro (fun H => indexAt_slice (H := H) Tryz.underlying22 Tryz.sizeOf3) (And.intro (fun H => indexAt_slice (H := H) Tryz.underlying59 Tryz.sizeOf4) (And.intro (fun H => storeAt_bool (H := H) Tryz.sizeOf4) (And.intro (fun H => loadAt_one (H := H) Tryz.underlying4 rfl) @lit_22_1_0_0)))))))))))))
def boolsO (off : List Int) : List Value := (List.range 6).map fun p : Nat => .bool (decide ((p : Int) ∈ off))
theorem boolsO_len (off : List Int) : (boolsO off).length = 6 := by simp [boolsO]
theorem boolsO_get {off : List Int} {p : Int} (h : 0 <= p /\ p < 6) : (boolsO off)[p.toNat]? = some (.bool (decide (p ∈ off))) := by
 have : (p.toNat : Int) = p := by omega
 simp [boolsO, List.getElem?_map, List.getElem?_range (show p.toNat < 6 by omega), this]
theorem boolsO_set {off off' : List Int} {p : Int} {b : Bool} (h : 0 <= p /\ p < 6) (hq : ∀ q : Int, 0 <= q -> q < 6 -> (q ∈ off' ↔ if q = p then b = true else q ∈ off)) : (boolsO off).set p.toNat (.bool b) = boolsO off' := by
 apply List.ext_getElem?
 intro i
 by_cases hi : i < 6
 ·have h2 := boolsO_get (off := off') (p := (i : Int)) ⟨by omega, by omega⟩
  have h1 := boolsO_get (off := off) (p := (i : Int)) ⟨by omega, by omega⟩
  rw [Int.toNat_natCast] at h1 h2
  rw [h2]
  have h3 := hq (i : Int) (by omega) (by omega)
  by_cases hip : (i : Int) = p
  ·have : p.toNat = i := by omega
   rw [this, List.getElem?_set_self (by rw [boolsO_len]; exact hi)]
   rw [if_pos hip] at h3
   cases b
   ·rw [decide_eq_false (fun h => by simp at h3; exact h3 h)]
   ·rw [decide_eq_true (h3.2 rfl)]
  ·rw [List.getElem?_set_ne (by omega), h1]
   rw [if_neg hip] at h3
   by_cases ho : (i : Int) ∈ off
   ·rw [decide_eq_true ho, decide_eq_true (h3.2 ho)]
   ·rw [decide_eq_false ho, decide_eq_false (fun h => ho (h3.1 h))]
 ·rw [List.getElem?_eq_none (by rw [List.length_set, boolsO_len]; omega), List.getElem?_eq_none (by rw [boolsO_len]; omega)]
theorem boolsO_new {off : List Int} {t : Int} (h : 0 <= t /\ t < 6) : (boolsO off).set t.toNat (.bool true) = boolsO (off ++ [t]) := boolsO_set h fun q _ _ => by
 rw [List.mem_append, List.mem_singleton]
 by_cases e : q = t
 ·rw [if_pos e]; exact ⟨fun _ => rfl, fun _ => .inr e⟩
 ·rw [if_neg e]; exact ⟨fun h => h.resolve_right e, .inl⟩
theorem boolsO_out {off : List Int} {s : Int} (h : 0 <= s /\ s < 6) : (boolsO off).set s.toNat (.bool false) = boolsO (off.filter fun x => !(x == s)) := boolsO_set h fun q _ _ => by
 rw [List.mem_filter]
 by_cases e : q = s
 ·rw [if_pos e]; simp [e]
 ·rw [if_neg e]; simp [e]
theorem boolsO_neg {off : List Int} {s : Int} (h : s < 0) : boolsO (off.filter fun x => !(x == s)) = boolsO off := by
 unfold boolsO
 refine List.map_congr_left fun p _ => ?_
 congr 1
 refine decide_eq_decide.2 ?_
 rw [List.mem_filter]
 refine ⟨fun h => h.1, fun h' => ⟨h', ?_⟩⟩
 simp
 omega
theorem sents_bnd (n : HN) (h : NumOk n) {i : Nat} (hi : i < n.ts.length) : -1 <= n.sents.getD i 0 /\ n.sents.getD i 0 < 6 := by
 have hcl : (rs0 n.start).cl.length = 8 := by simp [rs0]
 have hs : n.sents.getD i 0 = _ := sents_at (pl := n.places) (r := n.rule) hcl h.t8 hi
 have h6 := ts_in hi h.tb
 rw [hs]
 exact optsF_range (rsent_opts h.pl h6.1 h6.2)
theorem rjobs_spec (m : Md) (H : Hp) (n : HN) (v : HV) (hd : HaulIn H n v) :
  FnX Tryz.prog m 69 #[n.agg v] H fun e H' => ∃ jv, e = .returned jv /\ H.le H' /\ SlI H' jv n.jobs := by
 have hno := hd.numR
 have hrun := fun H' h' => rRun_spec m H' n v h'
 have hsl := n.sentsL hno
 have hsb := fun i hi => sents_bnd n hno (i := i) hi
 have hd0 := hd
 obtain ⟨sv, cv, tv, xv⟩ := v
 obtain ⟨hday, htimes, _⟩ := hd
 simp only [] at hday htimes
 obtain ⟨sa, sc, rfl, hsc, _⟩ := id hday.st
 obtain ⟨ca, cn, cc, rfl⟩ := hday.calls.isSlice
 obtain ⟨ta, tc, rfl, htc, _⟩ := id hday.truth
 obtain ⟨xa, xn, xc, rfl⟩ := htimes.isSlice
 have ht8 := hno.t8
 have hst4 : n.start.length <= 4 := by have := hno.sl; have := hday.ok.2.1; omega
 have hstb : SameP _ := hno.sb
 have htb : SameP _ := hno.tb
 have hst0 := hday.st
 have htr0 := hday.truth
 simp only [HN.agg] at hrun ⊢
 replace hrun : SameP _ := hrun
 replace hsb : SameP _ := hsb
 have hjobs : n.jobs = (nhS n.ts n.sents n.start n.ts.length).2 := rfl
 generalize hJ : n.jobs = jj at hjobs hrun ⊢
 clear hJ
 generalize n.sents = ss at *
 replace hsl : SameP _ := hsl
 replace hjobs : SameP _ := hjobs
 clear hday htimes hno
 refine FnX_start Tryz.func69 rfl Tryz.ntmps69 (by simp) ?_
 (refine @unH _ ?_; refine zA y69_115 ?_; (repeat (refine inC ?_; intro hc)); try (refine inK ?_; intro K hK))
 (intro vb hvb; generalize hG : Hp.set _ vb _ = H1; have lH1 := le_of_set hG hvb; have vvb := at_of_set hG; clear hG)
 have hd1 := hd0.le lH1
 ((try (refine @unH _ ?_; refine zX y69_115 ?_)); (try (refine hK _ _ ?_; clear hK K; (try simp only [nq, ↓reduceIte, Nat.reduceEqDiff]))); refine @unH _ ?_; refine zA y69_115 ?_; (repeat (refine inC ?_; intro hc)); try (refine inK ?_; intro K hK))
 have hr := (show ∀ H', HaulIn H' n ⟨.slice sa n.start.length sc, .slice ca cn cc, .slice ta n.ts.length tc, .slice xa xn xc⟩ -> _ from hrun) H1 hd1
 refine hr.runs.mono ?_
 clear hr
 rintro _ H2 ⟨w, rfl, lH2, hw⟩
 have vvb2 := lH2 _ _ vvb
 have lHH := Hp.le_trans lH1 lH2
 have hst2 := hst0.le lHH
 have htr2 := htr0.le lHH
 clear hd1 vvb lH1 lH2 hst0 htr0 hd0 hrun
 ((try (refine @unH _ ?_; refine zX y69_115 ?_)); (try (refine hK _ _ ?_; clear hK K; (try simp only [nq, ↓reduceIte, Nat.reduceEqDiff]))); refine @unH _ ?_; refine zA y69_115 ?_; (repeat (refine inC ?_; intro hc)); try (refine inK ?_; intro K hK))
 intro ob hob
 have nvo : vb ≠ ob := ne_new vvb2 hob
 ((try (refine @unH _ ?_; refine zX y69_115 ?_)); (try (refine hK _ _ ?_; clear hK K; (try simp only [nq, ↓reduceIte, Nat.reduceEqDiff]))); refine @unH _ ?_; refine zA y69_115 ?_; (repeat (refine inC ?_; intro hc)); try (refine inK ?_; intro K hK))
 refine wpX_loop (fun w' a' H' => ∃ e j, w' = n.start.length - j /\ j <= n.start.length /\ a' = act 76 e [] /\ e 1 = .pointer (some ⟨vb, 0, none⟩) /\ e 3 = w /\ e 6 = .slice (some ⟨ob, 0, none⟩) 6 6 /\ e 7 = .int .i64 (j : Nat) /\ H' = H2.set ob (.cells (boolsO (n.start.take j)).toArray 4 (0, 0))) (n := n.start.length) ?_ ?_
 ·exact ⟨_, 0, by omega, by omega, rfl, rfl, rfl, rfl, rfl, rfl⟩
 ·rintro w' a' H' ⟨e, j, rfl, hj, rfl, e1, e3, e6, e7, hH⟩
  generalize hG : H2.set ob (.cells (boolsO (n.start.take j)).toArray 4 (0, 0)) = H3 at hH
  have vob3 := at_of_set hG
  have l3 := le_of_set hG hob
  have vvb3 := l3 _ _ vvb2
  have hst3 := hst2.le l3
  rw [hH]; clear hH H'
  by_cases hlt : j < n.start.length
  ·obtain ⟨b, o, p, c, fr, rfl, hb, hcx⟩ := SlI.get hst3 (List.getElem?_eq_getElem hlt)
   have hxb := (show ∀ x ∈ n.start, 0 <= x /\ x < 6 from hstb) _ (List.getElem_mem hlt)
   have hnx : n.start.take (j + 1) = n.start.take j ++ [n.start[j]] := by rw [List.take_add_one, List.getElem?_eq_getElem hlt]; rfl
   have hbs := boolsO_new (off := n.start.take j) hxb
   have hbl := boolsO_len (n.start.take j)
   rw [<- hnx] at hbs
   generalize n.start[j] = x at *
   generalize boolsO (n.start.take j) = bl at *
   replace hbl : bl.length <= 6 /\ 6 <= bl.length := by omega
   replace hbs : SameP _ := hbs
   replace hG : SameP _ := hG
   clear hnx
   (refine @unH _ ?_; refine zA y69_115 ?_; (repeat (refine inC ?_; intro hc)); try (refine inK ?_; intro K hK))
   refine ⟨_, by omega, _, j + 1, rfl, hlt, rfl, e1, e3, e6, rfl, ?_⟩
   rw [show H3 = _ from (show H2.set ob _ = H3 from hG).symm, set_set, show bl.set _ _ = _ from hbs]
  ·obtain rfl : j = n.start.length := by omega
   rw [List.take_length] at vob3
   clear hG hst3
   (refine @unH _ ?_; refine zA y69_115 ?_; (repeat (refine inC ?_; intro hc)); try (refine inK ?_; intro K hK))
   refine wpX_loop (fun w' a' H' => ∃ e i jv, w' = n.ts.length - i /\ i <= n.ts.length /\ a' = act 76 e [] /\ e 1 = .pointer (some ⟨vb, 0, none⟩) /\ e 3 = w /\ e 6 = .slice (some ⟨ob, 0, none⟩) 6 6 /\ e 8 = jv /\ e 9 = .int .i64 (i : Nat) /\
    H' ob = some (true, .cells (boolsO (nhS n.ts ss n.start i).1).toArray 4 (0, 0)) /\ RowX none H2 H' jv 3 (ints (nhS n.ts ss n.start i).2) /\ rowB jv ≠ some ob) (n := n.ts.length) ?_ ?_
   ·exact ⟨_, 0, .slice none 0 0, rfl, by omega, rfl, e1, e3, e6, rfl, rfl, vob3, ⟨Lex.of l3, .inl ⟨rfl, rfl⟩⟩, fun h => by cases h⟩
   ·clear vob3 vvb3 l3 H3 e1 e3 e6 e7 e
    rintro w' a' H3 ⟨e, i, jv, rfl, hi, rfl, e1, e3, e6, e8, e9, vob3, hjv, hjo⟩
    have l3 := hjv.1.toLe
    have vvb3 := l3 _ _ vvb2
    by_cases hlt : i < n.ts.length
    ·have hlts : i < ss.length := by rw [show ss.length = n.ts.length from hsl]; exact hlt
     obtain ⟨b, o, p, c, fr, rfl, hb, hcx⟩ := SlI.get htr2 (List.getElem?_eq_getElem hlt)
     have hb3 := l3 _ _ hb
     have htx := (show ∀ x ∈ n.ts, 0 <= x /\ x < 6 from htb) _ (List.getElem_mem hlt)
     obtain ⟨wa, wc, rfl, hwc, _⟩ := id hw
     obtain ⟨b2, o2, p2, c2, fr2, rfl, hb2, hcx2⟩ := SlI.get hw (List.getElem?_eq_getElem hlts)
     have hsx := (show ∀ i, i < n.ts.length -> -1 <= ss.getD i 0 /\ ss.getD i 0 < 6 from hsb) i hlt
     have hmiss := nh_miss (ts := n.ts) (ss := ss) (start := n.start) (i := i)
     have hhit := nh_hit (ts := n.ts) (ss := ss) (start := n.start) (i := i)
     have hlen2 := (nhS_len n.ts ss n.start i).2
     have hgt : n.ts.getD i 0 = n.ts[i] := getD_at hlt
     have hgs : ss.getD i 0 = ss[i] := getD_at hlts
     rw [hgt] at hmiss hhit
     rw [hgs] at hmiss hsx
     rw [show ss.length = n.ts.length from hsl] at *
     generalize n.ts[i] = t at *
     generalize ss[i] = sg at *
     clear hgt hgs
     generalize hN1 : nhS n.ts ss n.start (i + 1) = N1 at *
     generalize (nhS n.ts ss n.start i).1 = off at *
     generalize (nhS n.ts ss n.start i).2 = jb at *
     have hbg := boolsO_get (off := off) htx
     have hbl := boolsO_len off
     have hbs := boolsO_new (off := off.filter fun x => !(x == sg)) htx
     have hbo := boolsO_out (off := off) (s := sg)
     have hbn := boolsO_neg (off := off) (s := sg)
     generalize hB : boolsO off = bl at *
     replace hB : SameP _ := hB
     replace hbl : bl.length <= 6 /\ 6 <= bl.length := by omega
     replace hbs : SameP _ := hbs
     replace hbo : SameP _ := hbo
     replace hbn : SameP _ := hbn
     replace hmiss : SameP _ := hmiss
     replace hhit : SameP _ := hhit
     replace hN1 : SameP _ := hN1
     by_cases ht : t ∈ off
     ·have hN : N1 = (off, jb) := hhit ht
      rw [decide_eq_true ht] at hbg
      subst hN
      replace ht : SameP _ := ht
      (refine @unH _ ?_; refine zA y69_115 ?_; (repeat (refine inC ?_; intro hc)); try (refine inK ?_; intro K hK))
      refine ⟨_, by omega, _, i + 1, jv, rfl, hlt, rfl, e1, e3, e6, e8, rfl, ?_, ?_, hjo⟩
      ·rw [show nhS n.ts ss n.start (i + 1) = _ from hN1]; exact vob3.trans (by rw [show bl = boolsO off from (show boolsO off = bl from hB).symm])
      ·rw [show nhS n.ts ss n.start (i + 1) = _ from hN1]; exact hjv
     ·have hN : N1 = ((off.filter fun x => !(x == sg)) ++ [t], jb ++ [(i : Int)]) := hmiss ht
      rw [decide_eq_false ht] at hbg
      subst hN
      replace ht : SameP _ := ht
      (refine @unH _ ?_; refine zA y69_115 ?_; (repeat (refine inC ?_; intro hc)); try (refine inK ?_; intro K hK))
      intro g hg
      refine append_i2 hjv hg (by omega) _ _ _ _ ?_
      intro jv' H4 hr4 hk4 hn4
      have l4 := hr4.1.toLe
      have vvb4 := l4 _ _ vvb2
      have hb4 := l4 _ _ hb
      have hb24 := l4 _ _ hb2
      have vob4 := hk4 _ _ vob3 hjo
      have hjo4 : rowB jv' ≠ some ob := fun h => by
       rcases hn4 _ h with h | h
       ·exact hjo h
       ·rw [vob3] at h; cases h
      have hfin : ∀ bl', bl' = boolsO ((off.filter fun x => !(x == sg)) ++ [t]) -> (H4.set ob (.cells bl'.toArray 4 (0, 0))) ob = some (true, .cells (boolsO (nhS n.ts ss n.start (i + 1)).1).toArray 4 (0, 0)) /\ RowX none H2 (H4.set ob (.cells bl'.toArray 4 (0, 0))) jv' 3 (ints (nhS n.ts ss n.start (i + 1)).2) := fun bl' e' => by
       rw [show nhS n.ts ss n.start (i + 1) = _ from hN1, e']
       exact ⟨set_at, row_set hr4 hjo4 (hr4.1.own hob)⟩
      replace hfin : SameP _ := hfin
      clear vvb3 hb3 vob3 hN1 hk4 hn4
      have nbo : b ≠ ob := ne_new hb hob
      have nb2o : b2 ≠ ob := ne_new hb2 hob
      by_cases hs0 : 0 <= sg
      ·have hbo' := (show 0 <= sg /\ sg < 6 -> bl.set sg.toNat (.bool false) = boolsO (off.filter fun x => !(x == sg)) from hbo) ⟨hs0, hsx.2⟩
       replace hbo' : SameP _ := hbo'
       ((try (refine @unH _ ?_; refine zX y69_115 ?_)); (try (refine hK _ _ ?_; clear hK K; (try simp only [nq, ↓reduceIte, Nat.reduceEqDiff]))); refine @unH _ ?_; refine zA y69_115 ?_; (repeat (refine inC ?_; intro hc)); try (refine inK ?_; intro K hK))
       refine ⟨by rw [List.length_set]; omega, hK _ _ ?_⟩
       clear hK K
       (try simp only [nq, ↓reduceIte, Nat.reduceEqDiff])
       (refine @unH _ ?_; refine zA y69_115 ?_; (repeat (refine inC ?_; intro hc)); try (refine inK ?_; intro K hK))
       have hf := (show ∀ bl', _ -> _ /\ _ from hfin) ((bl.set sg.toNat (.bool false)).set t.toNat (.bool true)) (by rw [show bl.set _ _ = _ from hbo']; exact hbs)
       exact ⟨_, by omega, _, i + 1, jv', rfl, hlt, rfl, e1, e3, e6, rfl, rfl, hf.1, hf.2, hjo4⟩
      ·have hbn' := (show sg < 0 -> boolsO (off.filter fun x => !(x == sg)) = bl from hbn) (by omega)
       replace hbn' : SameP _ := hbn'
       ((try (refine @unH _ ?_; refine zX y69_115 ?_)); (try (refine hK _ _ ?_; clear hK K; (try simp only [nq, ↓reduceIte, Nat.reduceEqDiff]))); refine @unH _ ?_; refine zA y69_115 ?_; (repeat (refine inC ?_; intro hc)); try (refine inK ?_; intro K hK))
       have hf := (show ∀ bl', _ -> _ /\ _ from hfin) (bl.set t.toNat (.bool true)) (by rw [<- show boolsO _ = bl from hbn']; exact hbs)
       exact ⟨_, by omega, _, i + 1, jv', rfl, hlt, rfl, e1, e3, e6, rfl, rfl, hf.1, hf.2, hjo4⟩
    ·obtain rfl : i = n.ts.length := by omega
     rw [<- show jj = _ from hjobs] at hjv
     obtain ⟨ja, jc, rfl⟩ := hjv.len
     (refine @unH _ ?_; refine zA y69_115 ?_; (repeat (refine inC ?_; intro hc)); try (refine inK ?_; intro K hK))
     (refine @unH _ ?_; refine z9 Tryz.results69 ?_)
     exact ⟨_, rfl, Hp.le_trans lHH l3, hjv.ints⟩
theorem rJobs_spec (m : Md) (H : Hp) (n : HN) (v : HV) (hd : HaulIn H n v) :
  FnX Tryz.prog m 27 #[n.agg v] H fun e H' => ∃ jv, e = .returned (.tuple #[jv, .int .i64 0]) /\ H.le H' /\ SlI H' jv n.jobs := by
 have hck := fun H' h' => rcheck6_spec m H' n v h'
 have hjb := fun H' h' => rjobs_spec m H' n v h'
 have hd0 := hd
 obtain ⟨sv, cv, tv, xv⟩ := v
 obtain ⟨hday, htimes, _⟩ := hd
 simp only [] at hday htimes
 obtain ⟨sa, sn, sc, rfl⟩ := hday.st.isSlice
 obtain ⟨ca, cn, cc, rfl⟩ := hday.calls.isSlice
 obtain ⟨ta, tn, tc, rfl⟩ := hday.truth.isSlice
 obtain ⟨xa, xn, xc, rfl⟩ := htimes.isSlice
 simp only [HN.agg] at hck hjb ⊢
 replace hck : SameP _ := hck
 replace hjb : SameP _ := hjb
 clear hday htimes
 refine FnX_start Tryz.func27 rfl Tryz.ntmps27 (by simp) ?_
 (refine @unH _ ?_; refine zA y27_115 ?_; (repeat (refine inC ?_; intro hc)); try (refine inK ?_; intro K hK))
 (intro vb hvb; generalize hG : Hp.set _ vb _ = H1; have lH1 := le_of_set hG hvb; have vvb := at_of_set hG; clear hG)
 have hd1 := hd0.le lH1
 ((try (refine @unH _ ?_; refine zX y27_115 ?_)); (try (refine hK _ _ ?_; clear hK K; (try simp only [nq, ↓reduceIte, Nat.reduceEqDiff]))); refine @unH _ ?_; refine zA y27_115 ?_; (repeat (refine inC ?_; intro hc)); try (refine inK ?_; intro K hK))
 have hr := (show ∀ H', HaulIn H' n ⟨.slice sa sn sc, .slice ca cn cc, .slice ta tn tc, .slice xa xn xc⟩ -> _ from hck) H1 hd1
 refine hr.runs.mono ?_
 clear hr
 rintro _ H2 ⟨rfl, lH2⟩
 have hd2 := hd1.le lH2
 have vvb2 := lH2 _ _ vvb
 clear vvb
 ((try (refine @unH _ ?_; refine zX y27_115 ?_)); (try (refine hK _ _ ?_; clear hK K; (try simp only [nq, ↓reduceIte, Nat.reduceEqDiff]))); refine @unH _ ?_; refine zA y27_115 ?_; (repeat (refine inC ?_; intro hc)); try (refine inK ?_; intro K hK))
 have hr := (show ∀ H', HaulIn H' n ⟨.slice sa sn sc, .slice ca cn cc, .slice ta tn tc, .slice xa xn xc⟩ -> _ from hjb) H2 hd2
 refine hr.runs.mono ?_
 clear hr
 rintro _ H3 ⟨jv, rfl, lH3, hj⟩
 obtain ⟨ja, jn, jc, rfl⟩ := hj.isSlice
 ((try (refine @unH _ ?_; refine zX y27_115 ?_)); (try (refine hK _ _ ?_; clear hK K; (try simp only [nq, ↓reduceIte, Nat.reduceEqDiff]))); refine @unH _ ?_; refine zA y27_115 ?_; (repeat (refine inC ?_; intro hc)); try (refine inK ?_; intro K hK))
 (refine @unH _ ?_; refine zB Tryz.results27 ?_)
 exact ⟨_, rfl, Hp.le_trans lH1 (Hp.le_trans lH2 lH3), hj⟩
end Go.Proofs.YtofmadjgbcopdaaGreatDoor
end
section
namespace Go.X
open Go
theorem results_cell_tmp3 {P : Program} {H : Hp} {fn : Func} {t u v x : Tmp} {ty : TypeId} (h : fn.results = #[.cell t ty, .tmp u, .tmp v, .tmp x]) {n : Nat} {e : Nat -> Value} {ds : List Deferred} (ht : t < n) (hu' : u < n) (hv : v < n) (hx : x < n) {b o : Nat} (hb : e t = .pointer (some ⟨b, o, none⟩))
  {d : TypeDesc} (hu : P.underlying ty = some d) (hd : aggB d = true) {k : Nat} (hs : ∀ w, (sizeOf ty).run P w = .ok (k + 1) w) (K : Value -> Hp -> Prop) (E : Value -> Hp -> Prop) :
  wpS P (results fn (act n e ds).tmps) H K E = loadA H b o (k + 1) (fun w => K (.tuple #[w, e u, e v, e x]) H) := by
 simp [-bind_pure_comp, results, h, act_get? ht, act_get? hu', act_get? hv, act_get? hx, hb, asAddr, wpS_bind', wpS_pure, loadVar_agg hu hd hs]
end Go.X
namespace Go.Proofs.YtofmadjgbcopdaaGreatDoor
open Go Go.X
def y41_116 := And.intro (fun H => ex_alloc (H := H) (P := Tryz.prog) (h := Tryz.zeroValue29)) (And.intro @callF38 (And.intro (fun H => storeAt_agg (H := H) Tryz.sizeOf29) (And.intro (fun H => loadAt_aggE (H := H) Tryz.underlying29 rfl Tryz.sizeOf29) (And.intro @callF27 (And.intro (fun H => len_slice (H := H) Tryz.underlying22) (And.intro (fun H => fieldAt_eq (H := H) Tryz.underlying29 (i := 5) rfl (off := 8) rfl Tryz.sizeOf3) (And.intro (fun H => loadAt_one (H := H) Tryz.underlying3 rfl) (And.intro @callF66 (And.intro @lit_22_3_0_1_2_0 (And.intro @callF82 @callF24))))))))))
def y66_116 := And.intro @min_int (And.intro @callF24 @lit_22_1_0_0)
theorem HaulIn.move {H H' : Hp} {n : HN} {v : HV} (h : HaulIn H n v) (hl : ∀ x p c fr e, (e = 3 ∨ e = 22) -> H x = some (p, .cells c e fr) -> H' x = some (p, .cells c e fr)) : HaulIn H' n v :=
 {h with
  day := { h.day with st := h.day.st.move fun _ _ _ _ q => hl _ _ _ _ _ (.inl rfl) q, calls := h.day.calls.move hl, truth := h.day.truth.move fun _ _ _ _ q => hl _ _ _ _ _ (.inl rfl) q }
  times := h.times.move fun _ _ _ _ q => hl _ _ _ _ _ (.inl rfl) q }
theorem tin_keeps {H H' : Hp} {b k : Nat} (hl : Lex (some b) H H') (hT : TinI H b k) : ∀ x p c fr e, (e = 3 ∨ e = 22) -> H x = some (p, .cells c e fr) -> H' x = some (p, .cells c e fr) := fun x p c fr e he hx => hl.keeps hx fun e' => by
 obtain ⟨_, _, _, _, _, hb2, _⟩ := hT
 rw [e', hb2] at hx
 simp only [Option.some.injEq, Prod.mk.injEq, Obj.cells.injEq] at hx
 rcases he with he | he <;> rw [he] at hx <;> exact absurd hx.2.2.1 (by decide)
theorem set_keeps {H : Hp} {b : Nat} {p : Bool} {c0 : Array Value} {e0 : TypeId} {fr0 : Nat × Nat} {o : Obj} (hb : H b = some (p, .cells c0 e0 fr0)) (h1 : e0 ≠ 3) (h2 : e0 ≠ 22) : ∀ x p c fr e, (e = 3 ∨ e = 22) -> H x = some (p, .cells c e fr) -> (H.set b o) x = some (p, .cells c e fr) := fun x p c fr e he hx => by
 rw [set_ne (fun e' => ?_)]
 ·exact hx
 ·rw [e', hb] at hx
  simp only [Option.some.injEq, Prod.mk.injEq, Obj.cells.injEq] at hx
  rcases he with he | he <;> rw [he] at hx
  ·exact h1 hx.2.2.1
  ·exact h2 hx.2.2.1
theorem planOf_spec (m : Md) (H : Hp) (b k N : Nat) (load : Int) (hN : N <= 8) (l1 : 1 <= load) (l3 : load <= 3) (hT : TinI H b (k + N)) :
  FnX Tryz.prog m 66 #[.pointer (some ⟨b, 0, none⟩), .int .i64 N, .int .i64 load] H fun e H' => ∃ (pv : Value) (pl : List Nat), e = .returned pv /\ RowX (some b) H H' pv 3 (ints (pl.map fun x : Nat => (x : Int))) /\ (∀ m ∈ pl, 1 <= m) /\ (∀ m ∈ pl, (m : Int) <= load) /\ pl.sum = N /\ TinI H' b k := by
 refine FnX_start Tryz.func66 rfl Tryz.ntmps66 (by simp) ?_
 (refine @unH _ ?_; refine zA y66_116 ?_; (repeat (refine inC ?_; intro hc)); try (refine inK ?_; intro K hK))
 refine wpX_loop (fun w' a' H' => ∃ e pv, ∃ (pl : List Nat) (left : Nat), w' = left /\ a' = act 24 e [] /\ e 0 = .pointer (some ⟨b, 0, none⟩) /\ e 1 = .int .i64 (left : Nat) /\ e 2 = .int .i64 load /\ e 7 = pv /\ RowX (some b) H H' pv 3 (ints (pl.map fun x : Nat => (x : Int))) /\ (∀ m ∈ pl, 1 <= m) /\ (∀ m ∈ pl, (m : Int) <= load) /\ pl.sum + left = N /\ pl.length + left <= N /\ TinI H' b (k + left)) (n := N) ?_ ?_
 ·exact ⟨_, .slice none 0 0, [], N, rfl, rfl, rfl, rfl, rfl, rfl, RowX.nil, by simp, by simp, by simp, by simp, hT⟩
 ·rintro w' a' H2 ⟨e, pv, pl, left, rfl, rfl, e0, e1, e2, e7, hrow, hp1, hp2, hps, hpl, hT2⟩
  replace hp1 : SameP _ := hp1
  replace hp2 : SameP _ := hp2
  replace hps : SameP _ := hps
  by_cases h0 : 0 < w'
  ·(refine @unH _ ?_; refine zA y66_116 ?_; (repeat (refine inC ?_; intro hc)); try (refine inK ?_; intro K hK))
   obtain ⟨hi, hhi⟩ : ∃ hi : Int, hi = (if (w' : Int) < load then (w' : Int) else load) := ⟨_, rfl⟩
   rw [<- hhi]
   have hb : 1 <= hi /\ hi <= load /\ hi <= w' := by rw [hhi]; split <;> omega
   clear hhi
   refine (withinL m H2 b (k + (w' - 1)) 1 hi (by omega) (by omega) (by omega) (by omega) (by rw [show k + (w' - 1) + 1 = k + w' by omega]; exact hT2)).runs.mono ?_
   rintro _ H3 ⟨r, hr1, hr2, rfl, hl3, hT3⟩
   replace hr2 : r <= hi := by omega
   have hrow3 := hrow.lex hl3 (fun b' e p c fr h => hT2.neI h (Option.some.inj e).symm)
   clear hrow hT2 hl3
   ((try (refine @unH _ ?_; refine zX y66_116 ?_)); (try (refine hK _ _ ?_; clear hK K; (try simp only [nq, ↓reduceIte, Nat.reduceEqDiff]))); refine @unH _ ?_; refine zA y66_116 ?_; (repeat (refine inC ?_; intro hc)); try (refine inK ?_; intro K hK))
   intro g hg
   refine append_i hrow3 hg (by rw [List.length_map]; omega) _ _ _ _ ?_
   intro v' H5 hr5 ho5
   have hT5 := ho5.tin (by decide) hT3
   ((try (refine @unH _ ?_; refine zX y66_116 ?_)); (try (refine hK _ _ ?_; clear hK K; (try simp only [nq, ↓reduceIte, Nat.reduceEqDiff]))); refine @unH _ ?_; refine zA y66_116 ?_; (repeat (refine inC ?_; intro hc)); try (refine inK ?_; intro K hK))
   have hrn : (r.toNat : Int) = r := by omega
   refine ⟨w' - r.toNat, by omega, _, v', pl ++ [r.toNat], w' - r.toNat, rfl, rfl, e0, ?_, e2, rfl, ?_, ?_, ?_, ?_, ?_, ?_⟩
   ·show Value.int .i64 _ = Value.int .i64 _
    congr 1
    omega
   ·rw [List.map_append, List.map_singleton, hrn]
    exact hr5
   ·intro x hx
    rcases List.mem_append.1 hx with hx | hx
    ·exact hp1 x hx
    ·rw [List.mem_singleton.1 hx]; omega
   ·intro x hx
    rcases List.mem_append.1 hx with hx | hx
    ·exact hp2 x hx
    ·rw [List.mem_singleton.1 hx]; omega
   ·have : pl.sum + w' = N := hps
    rw [List.sum_append, List.sum_singleton]
    omega
   ·rw [List.length_append, List.length_singleton]
    omega
   ·exact hT5.less (by omega)
  ·obtain rfl : w' = 0 := by omega
   obtain ⟨pa, pc, rfl⟩ := hrow.len
   (refine @unH _ ?_; refine zA y66_116 ?_; (repeat (refine inC ?_; intro hc)); try (refine inK ?_; intro K hK))
   (refine @unH _ ?_; refine z9 Tryz.results66 ?_)
   exact ⟨_, pl, rfl, hrow, hp1, hp2, by have : pl.sum + 0 = N := hps; omega, hT2⟩
theorem made_specX (m : Md) (H : Hp) (b k c : Nat) (hc : c <= 8) (hT : TinI H b (k + 240)) :
  FnX Tryz.prog m 41 #[.pointer (some ⟨b, 0, none⟩), .int .i64 (c : Nat)] H fun e H' => ∃ n v jv pv pl mi, e = .returned (.tuple #[n.agg v, jv, pv, .int .i64 mi]) /\ HaulIn H' n v /\ n.xss.length <= c /\ SlI H' jv n.jobs /\ SlI H' pv (pl.map fun x : Nat => (x : Int)) /\ PlanOk n n.jobs.length pl /\ 1 <= mi /\ mi <= 20 /\ Lex (some b) H H' /\ TinI H' b k /\ ∀ x ∈ n.xs, x <= 82 := by
 refine FnX_start Tryz.func41 rfl Tryz.ntmps41 (by simp) ?_
 (refine @unH _ ?_; refine zA y41_116 ?_; (repeat (refine inC ?_; intro hc)); try (refine inK ?_; intro K hK))
 intro rb hrb
 have hrbn := hT.ne hrb
 have hT1 := hT.new hrb (o := (.cells #[.int .i64 0, .int .i64 0, .slice none 0 0, .slice none 0 0, .slice none 0 0, .int .i64 0, .slice none 0 0, .int .i64 0, .int .i64 0, .int .i64 0, .int .i64 0, .int .i64 0] 29 (0, 0)))
 have l1 : Lex (some b) H (H.set rb (.cells #[.int .i64 0, .int .i64 0, .slice none 0 0, .slice none 0 0, .slice none 0 0, .int .i64 0, .slice none 0 0, .int .i64 0, .int .i64 0, .int .i64 0, .int .i64 0, .int .i64 0] 29 (0, 0))) := Lex.refl.new hrb
 have vrb1 : (H.set rb (.cells #[.int .i64 0, .int .i64 0, .slice none 0 0, .slice none 0 0, .slice none 0 0, .int .i64 0, .slice none 0 0, .int .i64 0, .int .i64 0, .int .i64 0, .int .i64 0, .int .i64 0] 29 (0, 0))) rb = _ := set_at
 generalize H.set rb (.cells #[.int .i64 0, .int .i64 0, .slice none 0 0, .slice none 0 0, .slice none 0 0, .int .i64 0, .slice none 0 0, .int .i64 0, .int .i64 0, .int .i64 0, .int .i64 0, .int .i64 0] 29 (0, 0)) = H1 at *
 ((try (refine @unH _ ?_; refine zX y41_116 ?_)); (try (refine hK _ _ ?_; clear hK K; (try simp only [nq, ↓reduceIte, Nat.reduceEqDiff]))); refine @unH _ ?_; refine zA y41_116 ?_; (repeat (refine inC ?_; intro hc)); try (refine inK ?_; intro K hK))
 refine (haulN_specX m H1 b (k + 20) c hc (hT1.less (by omega))).runs.mono ?_
 rintro _ H2 ⟨n, v, rfl, hd2, hxc, hl2, hT2, hx82⟩
 replace hx82 : SameP _ := hx82
 have vrb2 := hl2.keeps vrb1 hrbn
 have L2 := l1.trans hl2
 have hjob := fun H' h' => rJobs_spec m H' n v h'
 have hj8 := hd2.jobs.1
 have hl1 := hd2.l1
 have hl3 := hd2.l3
 obtain ⟨sv, cv, tv, xv⟩ := v
 obtain ⟨a1, n1, c1, hsv⟩ := hd2.day.st.isSlice
 obtain ⟨a2, n2, c2, hcv⟩ := hd2.day.calls.isSlice
 obtain ⟨a3, n3, c3, htv⟩ := hd2.day.truth.isSlice
 obtain ⟨a4, n4, c4, hxv⟩ := hd2.times.isSlice
 simp only [] at hsv hcv htv hxv
 subst hsv hcv htv hxv
 simp only [HN.agg] at hjob ⊢
 replace hjob : SameP _ := hjob
 clear hT hT1 l1 hl2 vrb1
 ((try (refine @unH _ ?_; refine zX y41_116 ?_)); (try (refine hK _ _ ?_; clear hK K; (try simp only [nq, ↓reduceIte, Nat.reduceEqDiff]))); refine @unH _ ?_; refine zA y41_116 ?_; (repeat (refine inC ?_; intro hc)); try (refine inK ?_; intro K hK))
 intro hb hhb
 have hbr : hb ≠ rb := fun e => by rw [e, vrb2] at hhb; cases hhb
 have hhbn := hT2.ne hhb
 have lH3 : H2.le (H2.set hb (.cells #[.int .i64 n.places, .int .i64 n.pieces, .slice a1 n1 c1, .slice a2 n2 c2, .slice a3 n3 c3, .int .i64 n.rule, .slice a4 n4 c4, .int .i64 n.notice, .int .i64 n.load, .int .i64 n.barrows, .int .i64 n.lo, .int .i64 n.hi] 29 (0, 0))) := Hp.le_set hhb
 have vhb3 : (H2.set hb (.cells #[.int .i64 n.places, .int .i64 n.pieces, .slice a1 n1 c1, .slice a2 n2 c2, .slice a3 n3 c3, .int .i64 n.rule, .slice a4 n4 c4, .int .i64 n.notice, .int .i64 n.load, .int .i64 n.barrows, .int .i64 n.lo, .int .i64 n.hi] 29 (0, 0))) hb = _ := set_at
 generalize H2.set hb (.cells #[.int .i64 n.places, .int .i64 n.pieces, .slice a1 n1 c1, .slice a2 n2 c2, .slice a3 n3 c3, .int .i64 n.rule, .slice a4 n4 c4, .int .i64 n.notice, .int .i64 n.load, .int .i64 n.barrows, .int .i64 n.lo, .int .i64 n.hi] 29 (0, 0)) = H3 at *
 have vrb3 := lH3 _ _ vrb2
 have hd3 := hd2.le lH3
 have hT3 := hT2.le lH3
 have L3 := L2.le lH3
 clear vrb2 hd2 hT2 L2 lH3
 refine hK _ _ ?_
 clear hK K
 (try simp only [nq, ↓reduceIte, Nat.reduceEqDiff])
 (refine @unH _ ?_; refine zA y41_116 ?_; (repeat (refine inC ?_; intro hc)); try (refine inK ?_; intro K hK))
 have hr := (show ∀ H', HaulIn H' n ⟨.slice a1 n1 c1, .slice a2 n2 c2, .slice a3 n3 c3, .slice a4 n4 c4⟩ -> _ from hjob) H3 hd3
 refine hr.runs.mono ?_
 clear hr hjob
 rintro _ H4 ⟨jv, rfl, lH4, hj4⟩
 have vhb4 := lH4 _ _ vhb3
 have vrb4 := lH4 _ _ vrb3
 have hd4 := hd3.le lH4
 have hT4 := hT3.le lH4
 have L4 := L3.le lH4
 clear vhb3 vrb3 hd3 hT3 L3 lH4
 generalize hjj : n.jobs = js at *
 obtain ⟨ja, jc, rfl, hjc, _⟩ := id hj4
 ((try (refine @unH _ ?_; refine zX y41_116 ?_)); (try (refine hK _ _ ?_; clear hK K; (try simp only [nq, ↓reduceIte, Nat.reduceEqDiff]))); refine @unH _ ?_; refine zA y41_116 ?_; (repeat (refine inC ?_; intro hc)); try (refine inK ?_; intro K hK))
 refine wpX_tlast (fun HX => HX hb = some (true, (.cells #[.int .i64 n.places, .int .i64 n.pieces, .slice a1 n1 c1, .slice a2 n2 c2, .slice a3 n3 c3, .int .i64 n.rule, .slice a4 n4 c4, .int .i64 n.notice, .int .i64 n.load, .int .i64 n.barrows, .int .i64 n.lo, .int .i64 n.hi] 29 (0, 0)))) (.take 0 (.take 1 (.take 2 (.take 3 (.take 4 (.take 5 (.take 6 (.take 8 (.take 9 (.two 7 (.one 10 (.one 11 (.one 12 (.one 13 (.take 14 (.take 15 (.take 16 .nil))))))) 10 (.one 7 (.one 11 (.one 12 (.one 13 (.take 14 (.take 15 (.take 16 .nil))))))))))))))))) (by kernel_rfl) (by kernel_rfl) (by decide) (by kernel_rfl) ?_; intro K hK
 (iterate 9 (refine @unH _ ?_; refine z4 y41_116 ?_))
 refine planT_two ?_ ?_
 ·(refine @unH _ ?_; refine zX y41_116 ?_)
  refine (planOf_spec m H4 b (k + 4) js.length n.load hj8 hl1 hl3 (hT4.less (by omega))).runs.mono ?_
  rintro _ H5 ⟨pv, pl, rfl, hrow, hp1, hp2, hps, hT5⟩
  have hl5 := hrow.1
  have vhb5 := hl5.keeps vhb4 hhbn
  have vrb5 := hl5.keeps vrb4 hrbn
  have hd5 := hd4.move (tin_keeps hl5 hT4)
  have hj5 := hj4.lex hl5 hT4
  have hp5 : SlI H5 pv (pl.map fun x : Nat => (x : Int)) := hrow.ints
  have L5 := L4.trans hl5
  clear vhb4 vrb4 hd4 hj4 L4 hT4 hl5 hrow
  have hpok : PlanOk n js.length pl := ⟨hp1, hp2, hps⟩
  clear hp1 hp2 hps
  obtain ⟨pa, pc, rfl, _, _⟩ := id hp5
  (refine @unH _ ?_; refine zX y41_116 ?_)
  refine planT_one ?_
  (refine @unH _ ?_; refine zX y41_116 ?_)
  intro g hg
  have nhg : hb ≠ g := ne_new vhb5 hg
  (refine @unH _ ?_; refine zX y41_116 ?_)
  have vg6 : (H5.set g (.cells #[.int .i64 5, .int .i64 10, .int .i64 20] 3 (0, 0))) g = _ := set_at
  have lg : H5.le (H5.set g (.cells #[.int .i64 5, .int .i64 10, .int .i64 20] 3 (0, 0))) := Hp.le_set hg
  generalize H5.set g (.cells #[.int .i64 5, .int .i64 10, .int .i64 20] 3 (0, 0)) = H6 at *
  have vhb6 := lg _ _ vhb5
  have vrb6 := lg _ _ vrb5
  have hd6 := hd5.le lg
  have hj6 := hj5.le lg
  have hp6 := hp5.le lg
  have hT6 := hT5.le lg
  have L6 := L5.le lg
  clear vhb5 vrb5 hd5 hj5 hp5 hT5 L5 lg
  refine planT_one ?_
  (refine @unH _ ?_; refine zX y41_116 ?_)
  refine (eitherL m H6 b (k + 3) _ [5, 10, 20] (sli_new (xs := [5, 10, 20]) vg6 rfl) (by simp) (by simp) hT6).runs.mono ?_
  rintro _ H7 ⟨r, hr, rfl, hl7, hT7⟩
  have hr5 : 5 <= r /\ r <= 20 := by simp at hr; omega
  have vhb7 := hl7.keeps vhb6 hhbn
  have vrb7 := hl7.keeps vrb6 hrbn
  have hd7 := hd6.move (tin_keeps hl7 hT6)
  have hj7 := hj6.lex hl7 hT6
  have hp7 := hp6.lex hl7 hT6
  have L7 := L6.trans hl7
  clear vhb6 vrb6 hd6 hj6 hp6 L6 hT6 hl7 vg6
  (refine @unH _ ?_; refine zX y41_116 ?_)
  refine planT_one ?_
  (refine @unH _ ?_; refine zX y41_116 ?_)
  refine (withinL m H7 b (k + 2) 1 r (by omega) (by omega) (by omega) (by omega) hT7).runs.mono ?_
  rintro _ H8 ⟨mi, hm1, hm2, rfl, hl8, hT8⟩
  have vhb8 := hl8.keeps vhb7 hhbn
  have vrb8 := hl8.keeps vrb7 hrbn
  have hd8 := hd7.move (tin_keeps hl8 hT7)
  have hj8 := hj7.lex hl8 hT7
  have hp8 := hp7.lex hl8 hT7
  have L8 := L7.trans hl8
  clear vhb7 vrb7 hd7 hj7 hp7 L7 hT7 hl8
  (refine @unH _ ?_; refine zX y41_116 ?_)
  refine planT_one ?_
  (refine @unH _ ?_; refine zX y41_116 ?_)
  have vhb9 : (H8.set rb (.cells #[.int .i64 n.places, .int .i64 n.pieces, .slice a1 n1 c1, .slice a2 n2 c2, .slice a3 n3 c3, .int .i64 n.rule, .slice a4 n4 c4, .int .i64 n.notice, .int .i64 n.load, .int .i64 n.barrows, .int .i64 n.lo, .int .i64 n.hi] 29 (0, 0))) hb = some (true, (.cells #[.int .i64 n.places, .int .i64 n.pieces, .slice a1 n1 c1, .slice a2 n2 c2, .slice a3 n3 c3, .int .i64 n.rule, .slice a4 n4 c4, .int .i64 n.notice, .int .i64 n.load, .int .i64 n.barrows, .int .i64 n.lo, .int .i64 n.hi] 29 (0, 0))) := (set_ne hbr).trans vhb8
  have vrb9 : (H8.set rb (.cells #[.int .i64 n.places, .int .i64 n.pieces, .slice a1 n1 c1, .slice a2 n2 c2, .slice a3 n3 c3, .int .i64 n.rule, .slice a4 n4 c4, .int .i64 n.notice, .int .i64 n.load, .int .i64 n.barrows, .int .i64 n.lo, .int .i64 n.hi] 29 (0, 0))) rb = some (true, (.cells #[.int .i64 n.places, .int .i64 n.pieces, .slice a1 n1 c1, .slice a2 n2 c2, .slice a3 n3 c3, .int .i64 n.rule, .slice a4 n4 c4, .int .i64 n.notice, .int .i64 n.load, .int .i64 n.barrows, .int .i64 n.lo, .int .i64 n.hi] 29 (0, 0))) := set_at
  have hd9 := hd8.move (set_keeps vrb8 (by decide) (by decide) (o := (.cells #[.int .i64 n.places, .int .i64 n.pieces, .slice a1 n1 c1, .slice a2 n2 c2, .slice a3 n3 c3, .int .i64 n.rule, .slice a4 n4 c4, .int .i64 n.notice, .int .i64 n.load, .int .i64 n.barrows, .int .i64 n.lo, .int .i64 n.hi] 29 (0, 0))))
  have hj9 := hj8.set (fun p c fr h => by rw [vrb8] at h; cases h) (b := rb) (o := (.cells #[.int .i64 n.places, .int .i64 n.pieces, .slice a1 n1 c1, .slice a2 n2 c2, .slice a3 n3 c3, .int .i64 n.rule, .slice a4 n4 c4, .int .i64 n.notice, .int .i64 n.load, .int .i64 n.barrows, .int .i64 n.lo, .int .i64 n.hi] 29 (0, 0)))
  have hp9 := hp8.set (fun p c fr h => by rw [vrb8] at h; cases h) (b := rb) (o := (.cells #[.int .i64 n.places, .int .i64 n.pieces, .slice a1 n1 c1, .slice a2 n2 c2, .slice a3 n3 c3, .int .i64 n.rule, .slice a4 n4 c4, .int .i64 n.notice, .int .i64 n.load, .int .i64 n.barrows, .int .i64 n.lo, .int .i64 n.hi] 29 (0, 0)))
  have L9 := L8.own hrb (o := (.cells #[.int .i64 n.places, .int .i64 n.pieces, .slice a1 n1 c1, .slice a2 n2 c2, .slice a3 n3 c3, .int .i64 n.rule, .slice a4 n4 c4, .int .i64 n.notice, .int .i64 n.load, .int .i64 n.barrows, .int .i64 n.lo, .int .i64 n.hi] 29 (0, 0)))
  have hT9 := hT8.own vrb8 hrbn.symm (o' := (.cells #[.int .i64 n.places, .int .i64 n.pieces, .slice a1 n1 c1, .slice a2 n2 c2, .slice a3 n3 c3, .int .i64 n.rule, .slice a4 n4 c4, .int .i64 n.notice, .int .i64 n.load, .int .i64 n.barrows, .int .i64 n.lo, .int .i64 n.hi] 29 (0, 0)))
  generalize H8.set rb (.cells #[.int .i64 n.places, .int .i64 n.pieces, .slice a1 n1 c1, .slice a2 n2 c2, .slice a3 n3 c3, .int .i64 n.rule, .slice a4 n4 c4, .int .i64 n.notice, .int .i64 n.load, .int .i64 n.barrows, .int .i64 n.lo, .int .i64 n.hi] 29 (0, 0)) = H9 at *
  clear vhb8 vrb8 hd8 hj8 hp8 L8 hT8
  (iterate 3 (refine @unH _ ?_; refine z4 y41_116 ?_))
  refine planT_nil (hK _ _ ?_)
  clear hK K
  (try simp only [nq, ↓reduceIte, Nat.reduceEqDiff])
  refine wpX_ret ?_
  (try simp only [nq, ↓reduceIte, Nat.reduceEqDiff])
  rw [bodyX_ret, results_cell_tmp3 Tryz.results41 (by decide) (by decide) (by decide) (by decide) (b := rb) (o := 0) rfl Tryz.underlying29 rfl Tryz.sizeOf29]
  simp -implicitDefEqProofs (disch := first | omega | (simp only [qd] <;> omega)) only [xq, ↓xp, qc, Nat.reduceAdd, List.range, List.range.loop, fine, Nat.reduceEqDiff, ↓reduceIte, yielded, reduceCtorEq, Nat.reduceLT, Nat.reduceMul, Nat.reduceSub, one, Nat.reduceLeDiff, runX_cons, y41_116, aq, loadA_at vrb9, qe0, qe1, qe2]
  rw [vrb9]
  refine ⟨Nat.le_refl 12, ?_⟩
  exact ⟨n, ⟨.slice a1 n1 c1, .slice a2 n2 c2, .slice a3 n3 c3, .slice a4 n4 c4⟩, _, _, pl, mi, rfl, hd9, hxc, by rw [hjj]; exact hj9, hp9, by rw [hjj]; exact hpok, hm1, by omega, L9, hT9.less (by omega), hx82⟩
 ·(refine @unH _ ?_; refine zX y41_116 ?_)
  intro g hg
  have nhg : hb ≠ g := ne_new vhb4 hg
  (refine @unH _ ?_; refine zX y41_116 ?_)
  have vg5 : (H4.set g (.cells #[.int .i64 5, .int .i64 10, .int .i64 20] 3 (0, 0))) g = _ := set_at
  have lg : H4.le (H4.set g (.cells #[.int .i64 5, .int .i64 10, .int .i64 20] 3 (0, 0))) := Hp.le_set hg
  have hgn := hT4.ne hg
  generalize H4.set g (.cells #[.int .i64 5, .int .i64 10, .int .i64 20] 3 (0, 0)) = H5 at *
  have vhb5 := lg _ _ vhb4
  have vrb5 := lg _ _ vrb4
  have hd5 := hd4.le lg
  have hj5 := hj4.le lg
  have hT5 := hT4.le lg
  have L5 := L4.le lg
  clear vhb4 vrb4 hd4 hj4 hT4 L4 lg
  refine planT_one ?_
  (refine @unH _ ?_; refine zX y41_116 ?_)
  refine (planOf_spec m H5 b (k + 4) js.length n.load hj8 hl1 hl3 (hT5.less (by omega))).runs.mono ?_
  rintro _ H6 ⟨pv, pl, rfl, hrow, hp1, hp2, hps, hT6⟩
  have hl6 := hrow.1
  have vhb6 := hl6.keeps vhb5 hhbn
  have vrb6 := hl6.keeps vrb5 hrbn
  have vg6 := hl6.keeps vg5 hgn
  have hd6 := hd5.move (tin_keeps hl6 hT5)
  have hj6 := hj5.lex hl6 hT5
  have hp6 : SlI H6 pv (pl.map fun x : Nat => (x : Int)) := hrow.ints
  have L6 := L5.trans hl6
  clear vhb5 vrb5 vg5 hd5 hj5 L5 hT5 hl6 hrow
  have hpok : PlanOk n js.length pl := ⟨hp1, hp2, hps⟩
  clear hp1 hp2 hps
  obtain ⟨pa, pc, rfl, _, _⟩ := id hp6
  (refine @unH _ ?_; refine zX y41_116 ?_)
  refine planT_one ?_
  (refine @unH _ ?_; refine zX y41_116 ?_)
  refine (eitherL m H6 b (k + 3) _ [5, 10, 20] (sli_new (xs := [5, 10, 20]) vg6 rfl) (by simp) (by simp) hT6).runs.mono ?_
  rintro _ H7 ⟨r, hr, rfl, hl7, hT7⟩
  have hr5 : 5 <= r /\ r <= 20 := by simp at hr; omega
  have vhb7 := hl7.keeps vhb6 hhbn
  have vrb7 := hl7.keeps vrb6 hrbn
  have hd7 := hd6.move (tin_keeps hl7 hT6)
  have hj7 := hj6.lex hl7 hT6
  have hp7 := hp6.lex hl7 hT6
  have L7 := L6.trans hl7
  clear vhb6 vrb6 hd6 hj6 hp6 L6 hT6 hl7 vg6
  (refine @unH _ ?_; refine zX y41_116 ?_)
  refine planT_one ?_
  (refine @unH _ ?_; refine zX y41_116 ?_)
  refine (withinL m H7 b (k + 2) 1 r (by omega) (by omega) (by omega) (by omega) hT7).runs.mono ?_
  rintro _ H8 ⟨mi, hm1, hm2, rfl, hl8, hT8⟩
  have vhb8 := hl8.keeps vhb7 hhbn
  have vrb8 := hl8.keeps vrb7 hrbn
  have hd8 := hd7.move (tin_keeps hl8 hT7)
  have hj8 := hj7.lex hl8 hT7
  have hp8 := hp7.lex hl8 hT7
  have L8 := L7.trans hl8
  clear vhb7 vrb7 hd7 hj7 hp7 L7 hT7 hl8
  (refine @unH _ ?_; refine zX y41_116 ?_)
  refine planT_one ?_
  (refine @unH _ ?_; refine zX y41_116 ?_)
  have vhb9 : (H8.set rb (.cells #[.int .i64 n.places, .int .i64 n.pieces, .slice a1 n1 c1, .slice a2 n2 c2, .slice a3 n3 c3, .int .i64 n.rule, .slice a4 n4 c4, .int .i64 n.notice, .int .i64 n.load, .int .i64 n.barrows, .int .i64 n.lo, .int .i64 n.hi] 29 (0, 0))) hb = some (true, (.cells #[.int .i64 n.places, .int .i64 n.pieces, .slice a1 n1 c1, .slice a2 n2 c2, .slice a3 n3 c3, .int .i64 n.rule, .slice a4 n4 c4, .int .i64 n.notice, .int .i64 n.load, .int .i64 n.barrows, .int .i64 n.lo, .int .i64 n.hi] 29 (0, 0))) := (set_ne hbr).trans vhb8
  have vrb9 : (H8.set rb (.cells #[.int .i64 n.places, .int .i64 n.pieces, .slice a1 n1 c1, .slice a2 n2 c2, .slice a3 n3 c3, .int .i64 n.rule, .slice a4 n4 c4, .int .i64 n.notice, .int .i64 n.load, .int .i64 n.barrows, .int .i64 n.lo, .int .i64 n.hi] 29 (0, 0))) rb = some (true, (.cells #[.int .i64 n.places, .int .i64 n.pieces, .slice a1 n1 c1, .slice a2 n2 c2, .slice a3 n3 c3, .int .i64 n.rule, .slice a4 n4 c4, .int .i64 n.notice, .int .i64 n.load, .int .i64 n.barrows, .int .i64 n.lo, .int .i64 n.hi] 29 (0, 0))) := set_at
  have hd9 := hd8.move (set_keeps vrb8 (by decide) (by decide) (o := (.cells #[.int .i64 n.places, .int .i64 n.pieces, .slice a1 n1 c1, .slice a2 n2 c2, .slice a3 n3 c3, .int .i64 n.rule, .slice a4 n4 c4, .int .i64 n.notice, .int .i64 n.load, .int .i64 n.barrows, .int .i64 n.lo, .int .i64 n.hi] 29 (0, 0))))
  have hj9 := hj8.set (fun p c fr h => by rw [vrb8] at h; cases h) (b := rb) (o := (.cells #[.int .i64 n.places, .int .i64 n.pieces, .slice a1 n1 c1, .slice a2 n2 c2, .slice a3 n3 c3, .int .i64 n.rule, .slice a4 n4 c4, .int .i64 n.notice, .int .i64 n.load, .int .i64 n.barrows, .int .i64 n.lo, .int .i64 n.hi] 29 (0, 0)))
  have hp9 := hp8.set (fun p c fr h => by rw [vrb8] at h; cases h) (b := rb) (o := (.cells #[.int .i64 n.places, .int .i64 n.pieces, .slice a1 n1 c1, .slice a2 n2 c2, .slice a3 n3 c3, .int .i64 n.rule, .slice a4 n4 c4, .int .i64 n.notice, .int .i64 n.load, .int .i64 n.barrows, .int .i64 n.lo, .int .i64 n.hi] 29 (0, 0)))
  have L9 := L8.own hrb (o := (.cells #[.int .i64 n.places, .int .i64 n.pieces, .slice a1 n1 c1, .slice a2 n2 c2, .slice a3 n3 c3, .int .i64 n.rule, .slice a4 n4 c4, .int .i64 n.notice, .int .i64 n.load, .int .i64 n.barrows, .int .i64 n.lo, .int .i64 n.hi] 29 (0, 0)))
  have hT9 := hT8.own vrb8 hrbn.symm (o' := (.cells #[.int .i64 n.places, .int .i64 n.pieces, .slice a1 n1 c1, .slice a2 n2 c2, .slice a3 n3 c3, .int .i64 n.rule, .slice a4 n4 c4, .int .i64 n.notice, .int .i64 n.load, .int .i64 n.barrows, .int .i64 n.lo, .int .i64 n.hi] 29 (0, 0)))
  generalize H8.set rb (.cells #[.int .i64 n.places, .int .i64 n.pieces, .slice a1 n1 c1, .slice a2 n2 c2, .slice a3 n3 c3, .int .i64 n.rule, .slice a4 n4 c4, .int .i64 n.notice, .int .i64 n.load, .int .i64 n.barrows, .int .i64 n.lo, .int .i64 n.hi] 29 (0, 0)) = H9 at *
  clear vhb8 vrb8 hd8 hj8 hp8 L8 hT8
  (iterate 3 (refine @unH _ ?_; refine z4 y41_116 ?_))
  refine planT_nil (hK _ _ ?_)
  clear hK K
  (try simp only [nq, ↓reduceIte, Nat.reduceEqDiff])
  refine wpX_ret ?_
  (try simp only [nq, ↓reduceIte, Nat.reduceEqDiff])
  rw [bodyX_ret, results_cell_tmp3 Tryz.results41 (by decide) (by decide) (by decide) (by decide) (b := rb) (o := 0) rfl Tryz.underlying29 rfl Tryz.sizeOf29]
  simp -implicitDefEqProofs (disch := first | omega | (simp only [qd] <;> omega)) only [xq, ↓xp, qc, Nat.reduceAdd, List.range, List.range.loop, fine, Nat.reduceEqDiff, ↓reduceIte, yielded, reduceCtorEq, Nat.reduceLT, Nat.reduceMul, Nat.reduceSub, one, Nat.reduceLeDiff, runX_cons, y41_116, aq, loadA_at vrb9, qe0, qe1, qe2]
  rw [vrb9]
  refine ⟨Nat.le_refl 12, ?_⟩
  exact ⟨n, ⟨.slice a1 n1 c1, .slice a2 n2 c2, .slice a3 n3 c3, .slice a4 n4 c4⟩, _, _, pl, mi, rfl, hd9, hxc, by rw [hjj]; exact hj9, hp9, by rw [hjj]; exact hpok, hm1, by omega, L9, hT9.less (by omega), hx82⟩
theorem made_spec (m : Md) (H : Hp) (b k c : Nat) (hc : c <= 8) (hT : TinI H b (k + 240)) :
  FnX Tryz.prog m 41 #[.pointer (some ⟨b, 0, none⟩), .int .i64 (c : Nat)] H fun e H' => ∃ n v jv pv pl mi, e = .returned (.tuple #[n.agg v, jv, pv, .int .i64 mi]) /\ HaulIn H' n v /\ n.xss.length <= c /\ SlI H' jv n.jobs /\ SlI H' pv (pl.map fun x : Nat => (x : Int)) /\ PlanOk n n.jobs.length pl /\ 1 <= mi /\ mi <= 20 /\ Lex (some b) H H' /\ TinI H' b k :=
 (made_specX m H b k c hc hT).mono fun e H' ⟨n, v, jv, pv, pl, mi, h1, h2, h3, h4, h5, h6, h7, h8, h9, h10, _⟩ => ⟨n, v, jv, pv, pl, mi, h1, h2, h3, h4, h5, h6, h7, h8, h9, h10⟩
end Go.Proofs.YtofmadjgbcopdaaGreatDoor
end
section
namespace Go.X
open Go Go.RowKit
open Go.Conc (G base)
theorem Base.below {W w : World} (h : Base W w) : Below W.heap.size W { w with tape := W.tape } := ⟨h.os, rfl, h.output, h.size, h.block⟩
theorem Base.kept {W w : World} (h : Base W w) (may : MemPlace -> Prop) : W.keptBut w may := by
 have := World.keptBut_refl W may
 refine ⟨h.os, h.output, fun i hi => ?_⟩
 rw [h.block i hi]
 exact this.2.2 i hi
theorem leaving_of_change_and {H : Type} {enc : TypeId × Value -> H} {a : Assume} {C : Checked} {os : Os} {f : FuncId} {fn : Func} {s : ChangeSpec} {conds : List PathCond} {apart fresh handsOn again : Bool} {X : World -> Array Value -> Prop}
  (hX : ∀ (w w' : World) (args : Array Value), w.heap = w'.heap -> X w args -> X w' args)
  (own : ownKnob C.prog.godebug = none) (started : os.Started) (hfn : C.prog.funcs[f]? = some fn)
  (witness : ∃ (w : World) (tape : Tape) (i : Input), w.os = os /\ (w.forCall tape i).Shaped C.prog /\ i.vars = [] /\ Input.okWide C.prog (w.forCall tape i) .any w.heap.size f i /\
   ((s.pre enc C.prog fn conds apart (w.forCall tape i).memory i.args /\ X (w.forCall tape i).memory i.args) /\ sizedMet enc C.prog fn (OpenSpec.ofChange s) apart (w.forCall tape i).memory i.args) /\ a.holds C.prog (lone (Frame.enter C.prog f i.args .normal) [] (w.forCall tape i)))
  (runs : ∀ (W : World) (base : Nat) (args : Array Value) (ds gs : List (DataW H)) (before : List MemPlace),
   (∀ (j : Nat) t v, fn.params[j]? = some t -> args[j]? = some v -> Value.okWide C.prog W .any base t v) ->
   DataW.Whole enc C.prog fn.params.toList s.vars apart W args.toList ds gs before -> X W args ->
   Ends C.prog (fun v W' => s.post enc C.prog fn apart fresh handsOn again W args v W') (Conc.solo (G (Frame.enter C.prog f args .normal) []) W) #[]) :
  ReturnsInLeavingWide a C os f .any (fun w args => (s.pre enc C.prog fn conds apart w args /\ X w args) /\ sizedMet enc C.prog fn (OpenSpec.ofChange s) apart w args) (s.post enc C.prog fn apart fresh handsOn again) := by
 refine returnsInLeavingWide_of_good own started witness ?_
 intro w tape i _ _ _ hok hpre hholds
 obtain ⟨_, _, _, fn', hfn', _, _, _, _, hval⟩ := hok
 have e : fn' = fn := Option.some.inj (hfn'.symm.trans hfn)
 subst e
 obtain ⟨⟨⟨ds, gs, before, hw, hc⟩, hx⟩, hz⟩ := hpre
 have hw' := DataW.Whole.of_heap (w' := w.forCall tape i) (by rfl) hw
 obtain ⟨M, last, o, w', t', h1, h2, h3, h4⟩ := runs (w.forCall tape i) w.heap.size i.args ds gs before hval hw' (hX _ _ _ (by rfl) hx)
 exact ⟨M, last, o, w', t', h1, h2, h3, h4.mono fun v hp => ChangeSpec.post_blind hp⟩
end Go.X
end
section
namespace Go.Proofs.YtofmadjgbcopdaaGreatDoor
open Go Go.X Go.ChangeShapes Go.WideShapes Go.RowKit
theorem ownK : ownKnob Tryz.prog.godebug = none := by kernel_rfl
theorem laidOutK : laidOutB Tryz.prog = true := by kernel_rfl
theorem cellsK : Tryz.prog.cellsOf 3 = 1 := by kernel_rfl
noncomputable def laidWorld (os : Os) : World :=
 let w0 := World.holding Tryz.prog os ⟨#[], #[], []⟩
 {w0 with heap := w0.heap.modify 0 fun
   | .cells _ t frozen => .cells #[.iface 230 (.agg #[.pointer (some ⟨1, 142, none⟩)])] t frozen
   | o => o }
theorem laidWorld_met (os : Os) (args : Array Value) : laidMetH Tryz.prog [("errors.errorType", Rows.laid_errors_errorType)] ((laidWorld os).forCall (fun _ _ => 0) ⟨#[], args, []⟩).memory :=
 laidMetH_of_parts (laidMet_nil _ _) (by kernel_rfl)
theorem results_tmp {fn : Func} {t : Tmp} (h : fn.results = #[.tmp t]) (P : Program) (tmps : Array Value) (w : World) (v : Value) (w' : World) (hr : (results fn tmps).run P w = .ok v w') : w' = w := by
 simp [results, h] at hr
 exact hr.2.symm
end Go.Proofs.YtofmadjgbcopdaaGreatDoor
end
