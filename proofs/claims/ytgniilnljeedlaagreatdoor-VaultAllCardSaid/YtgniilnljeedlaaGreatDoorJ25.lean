/- Texts LdO LawVR RowPut LTrs LTruths LawVA LLists LEvery LAll. -/
import Derived.Test.YtgniilnljeedlaaGreatDoorJ23
set_option linter.defProp false
set_option linter.unusedSimpArgs false
set_option linter.unusedVariables false
set_option maxRecDepth 100000
set_option maxHeartbeats 2000000
section
namespace Go.X
open Go
def ldO (q : Option Value) (K : Value -> Prop) : Prop := ∃ v, q = some v /\ K v
@[congr] theorem ldO_congr {q q' : Option Value} {K : Value -> Prop} (h : q = q') : ldO q K = ldO q' K := by rw [h]
theorem ldO_some {v : Value} {K : Value -> Prop} : ldO (some v) K = K v := by simp [ldO]
theorem ld_O {H : Hp} {a : Addr} {K : Value -> Prop} : (∃ v, H.cell a = some v /\ K v) = ldO (H.cell a) K := rfl
theorem ylK_undef : ylK (some undef) = none := rfl
theorem gateL_no {b : Bool} {x y : Prop} : Cqk none b x y = y := by cases b <;> rfl
end Go.X
end
section
namespace Go.Proofs.YtgniilnljeedlaaGreatDoor
open Go Go.X
structure Ren (n : Int) (g h : Int -> Int) : Prop where
 n6 : n <= 6
 gh : ∀ x, 0 <= x -> x < n -> 0 <= g x /\ g x < n /\ h (g x) = x
 hg : ∀ x, 0 <= x -> x < n -> 0 <= h x /\ h x < n /\ g (h x) = x
section
variable {n : Int} {g h : Int -> Int} (r : Ren n g h)
include r
end
def g1 (g : Int -> Int) (c : Int) : Int := if c = -1 then -1 else g c
theorem chF_in {pl n : Int} (h6 : n <= 6) : ∀ (ts cs : List Int) (m k : Nat), chF pl ts m cs = some k -> (∀ x, inO m x -> x < n) -> (∀ t ∈ ts, 0 <= t /\ t < n) -> ∀ c ∈ cs, c = -1 ∨ (0 <= c /\ c < n)
 | [], [], _, _, _, _, _, c, hc => by cases hc
 | [], _ :: _, _, _, h, _, _, _, _ => by simp [chF] at h
 | _ :: _, [], _, _, h, _, _, _, _ => by simp [chF] at h
 | t :: ts, c0 :: cs, m, k, h, hm, hb, c, hc => by
  unfold chF at h
  split at h
  ·rename_i hco
   have ht := hb t List.mem_cons_self
   rw [Option.map_eq_some_iff] at h
   obtain ⟨k', h', _⟩ := h
   have hc0 : c0 = -1 ∨ (0 <= c0 /\ c0 < n) := by
    unfold Axz at hco
    split at hco
    ·exact .inl (List.mem_singleton.1 hco)
    ·split at hco
     ·have := Azg.1 hco
      exact .inr ⟨this.1, hm c0 this⟩
     ·exact .inl (List.mem_singleton.1 hco)
   rcases List.mem_cons.1 hc with rfl | hc
   ·exact hc0
   ·refine chF_in h6 ts cs _ k' h' (fun x hx => ?_) (fun x hx => hb x (List.mem_cons_of_mem _ hx)) c hc
    rcases (Ajm (by omega) (by omega) ht.1 (by omega)).1 hx with h | h
    ·omega
    ·exact hm x h.1
  ·cases h
section
variable {n : Int} {g h : Int -> Int} (r : Ren n g h)
include r
end
end Go.Proofs.YtgniilnljeedlaaGreatDoor
end
section
namespace Go.Proofs.YtgniilnljeedlaaGreatDoor
open Go Go.X
theorem RowX.put {H0 H : Hp} {v : Value} {e : TypeId} {cs : List Value} (h : RowX none H0 H v e cs) {i : Nat} (hi : i < cs.length) : ∃ (b : Nat) (c : Array Value) (cap : Nat), v = .slice (some ⟨b, 0, none⟩) cs.length cap /\ H0 b = none /\ H b = some (true, .cells c e (0, 0)) /\ cs.length <= cap /\ i < c.size /\ c[i]? = cs[i]? /\ ∀ w, RowX none H0 (H.set b (.cells (c.setIfInBounds i w) e (0, 0))) v e (cs.set i w) := by
 rcases h.2 with ⟨_, rfl⟩ | ⟨b, c, cap, h0, h1, rfl, h3, h4, h5⟩
 ·simp at hi
 ·refine ⟨b, c, cap, rfl, h0, h1, h4, by omega, ?_, fun w => ⟨h.1.own h0, .inr ⟨b, c.setIfInBounds i w, cap, h0, Aqw, by rw [List.length_set], by rw [Array.size_setIfInBounds]; exact h3, by rw [List.length_set]; exact h4, fun j u hj => ?_⟩⟩⟩
  ·rw [List.getElem?_eq_getElem hi]
   exact h5 i _ (List.getElem?_eq_getElem hi)
  ·by_cases e : i = j
   ·subst e
    rw [List.getElem?_set_self hi] at hj
    rw [Array.getElem?_setIfInBounds_self_of_lt (by omega)]
    exact hj
   ·rw [List.getElem?_set_ne e] at hj
    rw [Array.getElem?_setIfInBounds_ne e]
    exact h5 j u hj
theorem RowX.other {H0 H : Hp} {v : Value} {e : TypeId} {cs : List Value} (h : RowX none H0 H v e cs) {b : Nat} {o : Obj} (h0 : H0 b = none) (hb : rowB v ≠ some b) : RowX none H0 (H.set b o) v e cs := by
 refine ⟨h.1.own h0, h.2.imp id ?_⟩
 rintro ⟨b', c, cap, h0', h1, rfl, h3, h4, h5⟩
 exact ⟨b', c, cap, h0', (Aqp (fun e => hb (by rw [<- e]; rfl))).trans h1, rfl, h3, h4, h5⟩
theorem row_one {H0 H : Hp} {b : Nat} {u : Value} (hb : H0 b = none) (hl : H0.le H) (hv : H b = some (true, .cells #[u] 22 (0, 0))) : RowX none H0 H (.slice (some ⟨b, 0, none⟩) 1 1) 22 [u] :=
 ⟨Lex.of hl, .inr ⟨b, #[u], 1, hb, hv, rfl, rfl, Nat.le_refl _, fun i w h => by
  cases i with
  | zero => simpa using h
  | succ i => simp at h⟩⟩
end Go.Proofs.YtgniilnljeedlaaGreatDoor
end
section
namespace Go.Proofs.YtgniilnljeedlaaGreatDoor
open Go Go.X
section
variable {H H' : Hp} {vb : Nat} {places pieces : Int} {sv cv ov : Value} {start : List Int} {xss L : List (List Int)}
end
theorem take_snoc {L : List (List Int)} {i : Nat} {t : List Int} (h : L[i]? = some t) : L.take (i + 1) = L.take i ++ [t] := by rw [List.take_add_one, h]; rfl
end Go.Proofs.YtgniilnljeedlaaGreatDoor
end
section
namespace Go.Proofs.YtgniilnljeedlaaGreatDoor
open Go Go.X
def listsF (n : Nat) : Nat -> List (List Int)
 | 0 => [[]]
 | k + 1 => (List.range n).flatMap fun (i : Nat) => (listsF n k).map ((i : Int) :: ·)
theorem listsF_mem (n : Nat) : ∀ (k : Nat) (l : List Int), l ∈ listsF n k ↔ l.length = k /\ ∀ x ∈ l, 0 <= x /\ x < n
 | 0, l => by
  simp only [listsF, List.mem_singleton, List.length_eq_zero_iff]
  constructor
  ·rintro rfl; exact ⟨rfl, fun x hx => by cases hx⟩
  ·exact fun h => h.1
 | k + 1, l => by
  simp only [listsF, List.mem_flatMap, List.mem_range, List.mem_map]
  constructor
  ·rintro ⟨i, hi, t, ht, rfl⟩
   obtain ⟨h1, h2⟩ := (listsF_mem n k t).1 ht
   refine ⟨by simp [h1], fun x hx => ?_⟩
   rcases List.mem_cons.1 hx with rfl | hx
   ·omega
   ·exact h2 x hx
  ·rintro ⟨h1, h2⟩
   cases l with
   | nil => simp at h1
   | cons x t =>
    have hx := h2 x List.mem_cons_self
    exact ⟨x.toNat, by omega, t, (listsF_mem n k t).2 ⟨by simpa using h1, fun y hy => h2 y (List.mem_cons_of_mem _ hy)⟩, by rw [show ((x.toNat : Nat) : Int) = x by omega]⟩
theorem listsF_up (n : Nat) : ∀ k : Nat, (listsF n k).Pairwise Lx
 | 0 => List.pairwise_singleton _ _
 | k + 1 => by
  unfold listsF
  rw [List.pairwise_flatMap]
  refine ⟨fun s hs => ?_, ?_⟩
  ·rw [List.pairwise_map]
   exact (listsF_up n k).imp fun h => by unfold Lx; exact .inr ⟨rfl, h⟩
  ·refine List.Pairwise.imp (R := (· < ·)) (fun {a b} hab x hx y hy => ?_) List.pairwise_lt_range
   rw [List.mem_map] at hx hy
   obtain ⟨x', _, rfl⟩ := hx
   obtain ⟨y', _, rfl⟩ := hy
   unfold Lx
   exact .inl (by omega)
theorem listsF_len (n : Nat) : ∀ k : Nat, (listsF n k).length = n ^ k
 | 0 => rfl
 | k + 1 => by
  unfold listsF
  rw [List.length_flatMap]
  simp only [List.length_map, listsF_len n k, List.map_const', List.length_range, List.sum_replicate_nat]
  rw [Nat.pow_succ, Nat.mul_comm]
def allF (n k : Nat) : List (List Int) := (listsF n k).map (·.map (· - 1))
theorem Lx_map : ∀ {a b : List Int}, Lx a b -> Lx (a.map (· - 1)) (b.map (· - 1))
 | [], _, h => by unfold Lx at h; exact h.elim
 | _ :: _, [], h => by unfold Lx at h; exact h.elim
 | a :: xs, b :: ys, h => by
  simp only [List.map_cons]
  unfold Lx at h ⊢
  rcases h with h | ⟨rfl, h⟩
  ·exact .inl (by omega)
  ·exact .inr ⟨rfl, Lx_map h⟩
theorem allF_up (n k : Nat) : (allF n k).Pairwise Lx := by
 unfold allF
 rw [List.pairwise_map]
 exact (listsF_up n k).imp fun h => Lx_map h
theorem allF_mem (n k : Nat) (l : List Int) : l ∈ allF n k ↔ l.length = k /\ ∀ x ∈ l, -1 <= x /\ x < (n : Int) - 1 := by
 unfold allF
 rw [List.mem_map]
 constructor
 ·rintro ⟨t, ht, rfl⟩
  obtain ⟨h1, h2⟩ := (listsF_mem n k t).1 ht
  refine ⟨by simp [h1], fun x hx => ?_⟩
  rw [List.mem_map] at hx
  obtain ⟨y, hy, rfl⟩ := hx
  have := h2 y hy
  omega
 ·rintro ⟨h1, h2⟩
  refine ⟨l.map (· + 1), (listsF_mem n k _).2 ⟨by simp [h1], fun x hx => ?_⟩, ?_⟩
  ·rw [List.mem_map] at hx
   obtain ⟨y, hy, rfl⟩ := hx
   have := h2 y hy
   omega
  ·rw [List.map_map]
   conv => rhs; rw [<- List.map_id l]
   refine List.map_congr_left fun x _ => ?_
   simp
def BestK (f : List Int -> Option Nat) (P : List (List Int)) (least : Int) (best : List (List Int)) : Prop :=
 (least = -1 /\ best = [] /\ ∀ c ∈ P, f c = none) ∨ ∃ k : Nat, least = k /\ (∀ c ∈ P, ∀ j, f c = some j -> k <= j) /\ best = P.filter (fun c => f c == some k) /\ best ≠ []
section
variable {f : List Int -> Option Nat} {P : List (List Int)} {least : Int} {best : List (List Int)} {c : List Int}
theorem BestK.nil : BestK f [] (-1) [] := .inl ⟨rfl, rfl, fun c hc => by cases hc⟩
theorem BestK.none (h : BestK f P least best) (hs : f c = none) : BestK f (P ++ [c]) least best := by
 rcases h with ⟨h1, h2, h3⟩ | ⟨k, h1, h2, h3, h4⟩
 ·exact .inl ⟨h1, h2, fun x hx => by
   rcases List.mem_append.1 hx with hx | hx
   ·exact h3 x hx
   ·rw [List.mem_singleton.1 hx, hs]⟩
 ·refine .inr ⟨k, h1, fun x hx j hj => ?_, ?_, h4⟩
  ·rcases List.mem_append.1 hx with hx | hx
   ·exact h2 x hx j hj
   ·rw [List.mem_singleton.1 hx, hs] at hj; cases hj
  ·rw [List.filter_append, <- h3]
   simp [hs]
theorem BestK.skip (h : BestK f P least best) {j : Nat} (hs : f c = some j) (h0 : 0 <= least) (hl : least < j) : BestK f (P ++ [c]) least best := by
 rcases h with ⟨h1, _, _⟩ | ⟨k, h1, h2, h3, h4⟩
 ·omega
 ·refine .inr ⟨k, h1, fun x hx j' hj => ?_, ?_, h4⟩
  ·rcases List.mem_append.1 hx with hx | hx
   ·exact h2 x hx j' hj
   ·rw [List.mem_singleton.1 hx, hs] at hj; cases hj; omega
  ·rw [List.filter_append, <- h3]
   have : j ≠ k := by omega
   simp [hs, this]
theorem BestK.new (h : BestK f P least best) {j : Nat} (hs : f c = some j) (hl : ¬ (0 <= least /\ least < j)) (hn : (j : Int) ≠ least) : BestK f (P ++ [c]) j [c] := by
 refine .inr ⟨j, rfl, fun x hx j' hj => ?_, ?_, by simp⟩
 ·rcases List.mem_append.1 hx with hx | hx
  ·rcases h with ⟨h1, h2, h3⟩ | ⟨k, h1, h2, h3, h4⟩
   ·rw [h3 x hx] at hj; cases hj
   ·have := h2 x hx j' hj; omega
  ·rw [List.mem_singleton.1 hx, hs] at hj; cases hj; exact Nat.le_refl _
 ·rw [List.filter_append]
  have : P.filter (fun c => f c == some j) = [] := by
   rw [List.filter_eq_nil_iff]
   intro x hx hj
   have hj : f x = some j := by simpa using hj
   rcases h with ⟨h1, h2, h3⟩ | ⟨k, h1, h2, h3, h4⟩
   ·rw [h3 x hx] at hj; cases hj
   ·have := h2 x hx j hj; omega
  rw [this]
  simp [hs]
theorem BestK.more (h : BestK f P least best) {j : Nat} (hs : f c = some j) (hl : (j : Int) = least) : BestK f (P ++ [c]) least (best ++ [c]) := by
 rcases h with ⟨h1, _, _⟩ | ⟨k, h1, h2, h3, h4⟩
 ·omega
 ·obtain rfl : j = k := by omega
  refine .inr ⟨j, h1, fun x hx j' hj => ?_, ?_, by simp⟩
  ·rcases List.mem_append.1 hx with hx | hx
   ·exact h2 x hx j' hj
   ·rw [List.mem_singleton.1 hx, hs] at hj; cases hj; exact Nat.le_refl _
  ·rw [List.filter_append, <- h3]
   simp [hs]
end
theorem BestK.all {places pieces : Int} {start ts : List Int} (h1 : 1 <= places) (hp0 : 0 <= pieces) (hp6 : pieces <= 6) (hs6 : ∀ t ∈ start, 0 <= t /\ t < pieces) (hn : start.Nodup) (htp : ∀ t ∈ ts, 0 <= t /\ t < pieces) {least : Int} {best : List (List Int)}
  (h : BestK (Axb places start ts) (allF (pieces.toNat + 1) ts.length) least best) : best = Axl ts.length places ts (oOf start) /\ least = (optF ts.length places ts (oOf start) : Nat) := by
 have hs : ∀ t ∈ start, 0 <= t /\ t < 6 := fun t ht => by have := hs6 t ht; omega
 have ht6 : ∀ t ∈ ts, 0 <= t /\ t < 6 := fun t ht => by have := htp t ht; omega
 have hf : ∀ c, Axb places start ts c = chF places ts (oOf start) c := fun c => Bqe ts c start _ (offA_start hs hn) ht6
 have hall : ∀ c, c ∈ Axl ts.length places ts (oOf start) -> c ∈ allF (pieces.toNat + 1) ts.length := fun c hc => by
  have hch := (Bxo ts.length).1 hc
  rw [allF_mem]
  refine ⟨Ckr hch, fun x hx => ?_⟩
  have := chF_in hp6 ts c _ _ hch (fun x hx => by have := hs6 x ((Cv4 hs x).1 hx); omega) htp x hx
  omega
 obtain ⟨b, hb⟩ := List.exists_mem_of_ne_nil _ (Cka ts.length h1 ts (oOf start) (Nat.le_refl _))
 have hbc := (Bxo ts.length).1 hb
 rcases h with ⟨_, _, h3⟩ | ⟨k, hk, h2, h3, h4⟩
 ·have := h3 b (hall b hb)
  rw [hf, hbc] at this
  cases this
 ·have hk1 := h2 b (hall b hb) _ (by rw [hf]; exact hbc)
  obtain ⟨c, hc⟩ := List.exists_mem_of_ne_nil _ h4
  rw [h3, List.mem_filter] at hc
  have hck : chF places ts (oOf start) c = some k := by rw [<- hf]; simpa using hc.2
  have hk2 := Dqt ts.length hck
  obtain rfl : k = optF ts.length places ts (oOf start) := by omega
  refine ⟨?_, hk⟩
  rw [h3]
  refine Dj6 (fun a => Lx.irr) (fun a b => Lx.asymm) ((allF_up _ _).filter _) (Ckb _ _ _ _) fun x => ?_
  rw [List.mem_filter, Bxo, hf]
  constructor
  ·rintro ⟨_, h⟩; simpa using h
  ·intro h; exact ⟨hall x ((Bxo ts.length).2 h), by simpa using h⟩
end Go.Proofs.YtgniilnljeedlaaGreatDoor
end
section
namespace Go.Proofs.YtgniilnljeedlaaGreatDoor
open Go Go.X
def y96_183 := And.intro @Bx9 (And.intro @callF96 (And.intro (fun H => Aq5 (H := H) Tryz.underlying23) (And.intro @Axp (And.intro (fun H => Aqq (H := H) Tryz.underlying23 Tryz.sizeOf22) (fun H => Aqd (H := H) Tryz.underlying22 rfl)))))
structure OwnRs (H0 H : Hp) (vs : List Value) (xss : List (List Int)) : Prop where
 len : vs.length = xss.length
 at_ : ∀ (i : Nat) (xs : List Int), xss[i]? = some xs -> ∃ v, vs[i]? = some v /\ RowX none H0 H v 3 (ints xs)
 sep : ∀ (i j : Nat) (b : Nat), (vs[i]?).bind rowB = some b -> (vs[j]?).bind rowB = some b -> i = j
theorem OwnRs.nil {H : Hp} : OwnRs H H [] [] := ⟨rfl, fun i xs h => by simp at h, fun i j b h => by simp at h⟩
theorem OwnRs.rows {H0 H : Hp} {vs : List Value} {xss : List (List Int)} (h : OwnRs H0 H vs xss) : Rows H vs xss :=
 ⟨h.len, fun i xs hx => by obtain ⟨v, h1, h2⟩ := h.at_ i xs hx; exact ⟨v, h1, h2.ints⟩⟩
theorem OwnRs.base {H0 H1 H : Hp} {vs : List Value} {xss : List (List Int)} (h : OwnRs H1 H vs xss) (hl : H0.le H1) : OwnRs H0 H vs xss :=
 ⟨h.len, fun i xs hx => by obtain ⟨v, h1, h2⟩ := h.at_ i xs hx; exact ⟨v, h1, h2.base (Lex.of hl)⟩, h.sep⟩
theorem RowX.mv {H0 H H' : Hp} {v : Value} {cs : List Value} (h : RowX none H0 H v 3 cs) (hl : H0.le H') (ho : Other 22 H H') : RowX none H0 H' v 3 cs :=
 ⟨Lex.of hl, h.2.imp id fun ⟨b, c, cap, h0, h1, h2⟩ => ⟨b, c, cap, h0, ho.cells h1 (by decide), h2⟩⟩
theorem RowX.blk {t : Option Nat} {H0 H : Hp} {v : Value} {e : TypeId} {cs : List Value} (h : RowX t H0 H v e cs) {b : Nat} (hb : rowB v = some b) : ∃ u, H b = some u := by
 rcases h.2 with ⟨rfl, _⟩ | ⟨b', c, cap, h0, h1, rfl, _⟩
 ·cases hb
 ·simp only [rowB, Option.some.injEq] at hb
  subst hb
  exact ⟨_, h1⟩
theorem OwnRs.snoc {H0 H4 H8 H' : Hp} {vs : List Value} {xss : List (List Int)} (h : OwnRs H0 H4 vs xss) (h04 : H0.le H4) (hl : H4.le H8) (h0 : H0.le H') (ho : Other 22 H8 H') {w : Value} {xs : List Int} (hw : RowX none H4 H8 w 3 (ints xs)) : OwnRs H0 H' (vs ++ [w]) (xss ++ [xs]) := by
 refine ⟨by simp [h.len], fun i ys hy => ?_, fun i j b hi hj => ?_⟩
 ·by_cases hlt : i < xss.length
  ·rw [List.getElem?_append_left hlt] at hy
   obtain ⟨v, h1, h2⟩ := h.at_ i ys hy
   exact ⟨v, by rw [List.getElem?_append_left (by rw [h.len]; exact hlt)]; exact h1, (h2.le hl).mv h0 ho⟩
  ·rw [List.getElem?_append_right (by omega)] at hy
   obtain ⟨k, hk⟩ : ∃ k, i - xss.length = k := ⟨_, rfl⟩
   rw [hk] at hy
   cases k with
   | zero =>
    simp only [List.getElem?_cons_zero, Option.some.injEq] at hy
    subst hy
    refine ⟨w, by rw [List.getElem?_append_right (by rw [h.len]; omega), h.len, hk]; rfl, (hw.base (Lex.of h04)).mv h0 ho⟩
   | succ k => simp at hy
 ·have key : ∀ (i b : Nat), ((vs ++ [w])[i]?).bind rowB = some b -> (i < vs.length /\ (vs[i]?).bind rowB = some b) ∨ (i = vs.length /\ rowB w = some b) := fun i b h => by
   by_cases hlt : i < vs.length
   ·rw [List.getElem?_append_left hlt] at h; exact .inl ⟨hlt, h⟩
   ·rw [List.getElem?_append_right (by omega)] at h
    obtain ⟨k, hk⟩ : ∃ k, i - vs.length = k := ⟨_, rfl⟩
    rw [hk] at h
    cases k with
    | zero => exact .inr ⟨by omega, by simpa using h⟩
    | succ k => simp at h
  have old : ∀ (i b : Nat), i < vs.length -> (vs[i]?).bind rowB = some b -> rowB w ≠ some b := fun i b hlt h1 h2 => by
   obtain ⟨v, hv, hr⟩ := h.at_ i (xss[i]'(by rw [<- h.len]; exact hlt)) (List.getElem?_eq_getElem (by rw [<- h.len]; exact hlt))
   rw [hv] at h1
   obtain ⟨u, hu⟩ := hr.blk h1
   rw [hw.rowB_new h2] at hu
   cases hu
  rcases key i b hi with ⟨h1, h2⟩ | ⟨h1, h2⟩ <;> rcases key j b hj with ⟨h3, h4⟩ | ⟨h3, h4⟩
  ·exact h.sep i j b h2 h4
  ·exact absurd h4 (old i b h1 h2)
  ·exact absurd h2 (old j b h3 h4)
  ·omega
theorem listsF_step (n k i x : Nat) {l : List Int} (h : (listsF n k)[x]? = some l) : (List.range i).flatMap (fun (i : Nat) => (listsF n k).map ((i : Int) :: ·)) ++ ((listsF n k).take (x + 1)).map ((i : Int) :: ·) = (List.range i).flatMap (fun (i : Nat) => (listsF n k).map ((i : Int) :: ·)) ++ ((listsF n k).take x).map ((i : Int) :: ·) ++ [(i : Int) :: l] := by
 rw [List.take_add_one, h, Option.toList_some, List.map_append, List.append_assoc]
 rfl
theorem range_step (f : Nat -> List (List Int)) (i : Nat) : (List.range (i + 1)).flatMap f = (List.range i).flatMap f ++ f i := by
 rw [List.range_succ, List.flatMap_append]
 simp
theorem pow_bnd {n k : Nat} (hn : n <= 7) (hk : k <= 4) : n ^ k <= 2401 := Nat.le_trans (Nat.pow_le_pow_left hn k) (by
 have : k = 0 ∨ k = 1 ∨ k = 2 ∨ k = 3 ∨ k = 4 := by omega
 rcases this with rfl | rfl | rfl | rfl | rfl <;> decide)
theorem lists_spec (m : Md) (n : Nat) (hn : n <= 7) : ∀ (k : Nat) (hk : k <= 4) (H : Hp),
  FnX Tryz.prog m 96 #[.int .i64 (n : Nat), .int .i64 (k : Nat)] H fun e H' => ∃ v vs, e = .returned v /\ RowX none H H' v 22 vs /\ OwnRs H H' vs (listsF n k)
 | 0, hk, H => by
  refine Aqk Tryz.func96 rfl Tryz.ntmps96 (by simp) ?_
  (refine @unH _ ?_; refine zA y96_183 ?_; (repeat (refine inC ?_; intro hc)); try (refine inK ?_; intro K hK))
  (intro ob hob; generalize hG : Hp.set _ ob _ = H1; have lH1 := Aqg hG hob; have vob := Aqf hG; clear hG)
  ((try (refine @unH _ ?_; refine zX y96_183 ?_)); (try (refine hK _ _ ?_; clear hK K; (try simp only [nq, ↓reduceIte, Nat.reduceEqDiff]))); refine @unH _ ?_; refine zA y96_183 ?_; (repeat (refine inC ?_; intro hc)); try (refine inK ?_; intro K hK))
  (refine @unH _ ?_; refine z9 Tryz.results96 ?_)
  refine ⟨_, _, rfl, row_one hob lH1 vob, rfl, fun i xs hx => ?_, fun i j b h => ?_⟩
  ·cases i with
   | zero => simp only [listsF, List.getElem?_cons_zero, Option.some.injEq] at hx; subst hx; exact ⟨_, rfl, Lex.of lH1, .inl ⟨rfl, rfl⟩⟩
   | succ i => simp [listsF] at hx
  ·cases i with
   | zero => simp [rowB] at h
   | succ i => simp at h
 | k + 1, hk, H => by
  have ih := lists_spec m n hn k (by omega) H
  have hRl : ∀ i, ((List.range i).flatMap fun (i : Nat) => (listsF n k).map ((i : Int) :: ·)).length = i * (listsF n k).length := fun i => by rw [List.length_flatMap]; simp only [List.length_map, List.map_const', List.length_range, List.sum_replicate_nat]
  have hlen : (listsF n k).length <= 2401 := by rw [listsF_len]; exact pow_bnd hn (by omega)
  have hrl : ∀ l ∈ listsF n k, l.length <= 4 := fun l hl => by rw [((listsF_mem n k l).1 hl).1]; omega
  have hL : listsF n (k + 1) = (List.range n).flatMap fun (i : Nat) => (listsF n k).map ((i : Int) :: ·) := rfl
  have hst := fun i x l h => listsF_step n k i x (l := l) h
  have hrs := fun i => range_step (fun (i : Nat) => (listsF n k).map ((i : Int) :: ·)) i
  have hk0 : ¬ (((k + 1 : Nat) : Int) = 0) := by omega
  replace ih : Aqs _ := ih
  replace hRl : Aqs _ := hRl
  replace hrl : Aqs _ := hrl
  replace hL : Aqs _ := hL
  replace hst : Aqs _ := hst
  replace hrs : Aqs _ := hrs
  refine Aqk Tryz.func96 rfl Tryz.ntmps96 (by simp) ?_
  (refine @unH _ ?_; refine zA y96_183 ?_; (repeat (refine inC ?_; intro hc)); try (refine inK ?_; intro K hK))
  rw [show (((k + 1 : Nat) : Int) - 1) = (k : Nat) by omega]
  refine (show FnX _ _ _ _ _ _ from ih).runs.mono ?_
  rintro _ H1 ⟨lv, ws, rfl, hl, hown⟩
  have l01 := hl.1.toLe
  have hlr := hl.rows hown.rows
  obtain ⟨la, lc, rfl⟩ := hl.len
  have hwl := hown.len
  rw [hwl] at hlr ⊢
  clear hl hown hwl ih
  generalize listsF n k = Lk at *
  ((try (refine @unH _ ?_; refine zX y96_183 ?_)); (try (refine hK _ _ ?_; clear hK K; (try simp only [nq, ↓reduceIte, Nat.reduceEqDiff]))); refine @unH _ ?_; refine zA y96_183 ?_; (repeat (refine inC ?_; intro hc)); try (refine inK ?_; intro K hK))
  refine Axe (fun w a' H' => ∃ e i ov vs, w = n - i /\ i <= n /\ a' = act 38 e [] /\ e 0 = .int .i64 (n : Nat) /\ e 5 = ov /\ e 6 = .slice la Lk.length lc /\ e 7 = .int .i64 (i : Nat) /\ RowX none H1 H' ov 22 vs /\ OwnRs H1 H' vs ((List.range i).flatMap fun (i : Nat) => Lk.map ((i : Int) :: ·))) (n := n) ?_ ?_
  ·exact ⟨_, 0, .slice none 0 0, [], by omega, by omega, rfl, rfl, rfl, rfl, rfl, RowX.nil, by simpa using OwnRs.nil⟩
  rintro w a' H2 ⟨e, i, ov, vs, rfl, hi, rfl, e0, e5, e6, e7, hrow, hown⟩
  by_cases hin : i < n
  ·have hRi := (show ∀ i, _ = i * Lk.length from hRl) i
   have hri := (show ∀ i, _ from hrs) i
   have hsi := (show ∀ (i x : Nat) (l : List Int), Lk[x]? = some l -> _ from hst) i
   have hRb : i * Lk.length <= 7 * 2401 := Nat.mul_le_mul (by omega) hlen
   generalize (List.range i).flatMap (fun (i : Nat) => Lk.map ((i : Int) :: ·)) = R0 at *
   obtain ⟨oa, oc, rfl⟩ := hrow.len
   replace hri : Aqs _ := hri
   replace hsi : Aqs _ := hsi
   replace hRi : R0.length <= 16807 := by omega
   clear hRb
   (refine @unH _ ?_; refine zA y96_183 ?_; (repeat (refine inC ?_; intro hc)); try (refine inK ?_; intro K hK))
   refine Axe (fun w a' H' => ∃ e x ov vs, w = Lk.length - x /\ x <= Lk.length /\ a' = act 38 e [] /\ e 0 = .int .i64 (n : Nat) /\ e 5 = ov /\ e 6 = .slice la Lk.length lc /\ e 7 = .int .i64 (i : Nat) /\ e 8 = .int .i64 (x : Nat) /\ RowX none H1 H' ov 22 vs /\ OwnRs H1 H' vs (R0 ++ (Lk.take x).map ((i : Int) :: ·))) (n := Lk.length) ?_ ?_
   ·exact ⟨_, 0, _, vs, by omega, by omega, rfl, e0, e5, e6, e7, rfl, hrow, by simpa using hown⟩
   clear e0 e5 e6 e7 hrow hown
   rintro w a' H4 ⟨e, x, ov, vs, rfl, hx, rfl, e0, e5, e6, e7, e8, hrow, hown⟩
   have l14 := hrow.1.toLe
   obtain ⟨oa, oc, rfl⟩ := hrow.len
   by_cases hxl : x < Lk.length
   ·have hxi := List.getElem?_eq_getElem hxl
    have hlx := (show ∀ l ∈ Lk, l.length <= 4 from hrl) Lk[x] (List.getElem_mem hxl)
    generalize Lk[x] = l at *
    have hs1 := (show ∀ (x : Nat) (l : List Int), Lk[x]? = some l -> _ from hsi) x l hxi
    obtain ⟨lb, lo, lq, lcc, lfr, u, hla, hlb, hlu, hu⟩ := SlR.get (hlr.le l14) hxi
    subst hla
    have hvb : vs.length <= 20000 := by rw [hown.len, List.length_append, List.length_map, List.length_take]; omega
    obtain ⟨ua, uc, rfl, _, _⟩ := id hu
    replace hs1 : Aqs _ := hs1
    replace hxi : Aqs _ := hxi
    (refine @unH _ ?_; refine zA y96_183 ?_; (repeat (refine inC ?_; intro hc)); try (refine inK ?_; intro K hK))
    intro nb hnb
    generalize hG : Hp.set H4 nb _ = H5
    have lH5 := Aqg hG hnb
    have vnb := Aqf hG
    clear hG
    have hz : RowX none H4 H5 (.slice (some ⟨nb, 0, none⟩) 1 1) 3 (ints [(i : Int)]) := ⟨Lex.of lH5, .inr ⟨nb, _, 1, hnb, vnb, rfl, rfl, Nat.le_refl _, fun j w h => by
     cases j with
     | zero => simpa [ints] using h
     | succ j => simp [ints] at h⟩⟩
    have nlb : lb ≠ nb := Ax0 hlb hnb
    refine ⟨.slice ua l.length uc, by rw [if_neg nlb]; exact hlu, ?_⟩
    refine Avm hz (hu.le lH5) (fun hne b hb h => by
     simp only [rowB, Option.some.injEq] at h
     subst h
     obtain ⟨b', o', _, _, c', fr', h1, _, h2, _⟩ := hu.cons hne
     cases h1
     simp only [rowB, Option.some.injEq] at hb
     rw [hb, hnb] at h2
     cases h2) (by simp only [List.length_cons, List.length_nil]; omega) _ _ _ _ (fun v6 H8 hw hkeep => ?_)
    have l48 := hw.1.toLe
    obtain ⟨wa, wc, rfl⟩ := id hw.len
    ((try (refine @unH _ ?_; refine zX y96_183 ?_)); (try (refine hK _ _ ?_; clear hK K; (try simp only [nq, ↓reduceIte, Nat.reduceEqDiff]))); refine @unH _ ?_; refine zA y96_183 ?_; (repeat (refine inC ?_; intro hc)); try (refine inK ?_; intro K hK))
    intro mb hmb
    refine Cwp (hrow.le l48) rfl hmb (by omega) _ _ _ _ (fun v7 HB hrB hoB => ?_)
    ((try (refine @unH _ ?_; refine zX y96_183 ?_)); (try (refine hK _ _ ?_; clear hK K; (try simp only [nq, ↓reduceIte, Nat.reduceEqDiff]))); refine @unH _ ?_; refine zA y96_183 ?_; (repeat (refine inC ?_; intro hc)); try (refine inK ?_; intro K hK))
    refine ⟨Lk.length - (x + 1), by omega, _, x + 1, v7, _, rfl, hxl, rfl, e0, rfl, e6, e7, rfl, hrB, ?_⟩
    rw [show R0 ++ (Lk.take (x + 1)).map _ = _ from hs1]
    exact hown.snoc l14 l48 hrB.1.toLe hoB hw
   ·obtain rfl : x = Lk.length := by omega
    rw [List.take_length] at hown
    (refine @unH _ ?_; refine zA y96_183 ?_; (repeat (refine inC ?_; intro hc)); try (refine inK ?_; intro K hK))
    refine ⟨n - (i + 1), by omega, _, i + 1, _, vs, rfl, hin, rfl, e0, e5, e6, rfl, hrow, ?_⟩
    rw [show (List.range (i + 1)).flatMap _ = _ from hri]
    exact hown
  ·obtain rfl : i = n := by omega
   obtain ⟨oa, oc, rfl⟩ := hrow.len
   (refine @unH _ ?_; refine zA y96_183 ?_; (repeat (refine inC ?_; intro hc)); try (refine inK ?_; intro K hK))
   (refine @unH _ ?_; refine z9 Tryz.results96 ?_)
   refine ⟨_, vs, rfl, hrow.base (Lex.of l01), ?_⟩
   rw [show listsF i (k + 1) = _ from hL]
   exact hown.base l01
def y49_184 := And.intro @callF96 (And.intro (fun H => Aq5 (H := H) Tryz.underlying23) (And.intro (fun H => Aqq (H := H) Tryz.underlying23 Tryz.sizeOf22) (And.intro (fun H => Aqd (H := H) Tryz.underlying22 rfl) (And.intro (fun H => Aqq (H := H) Tryz.underlying22 Tryz.sizeOf3) (And.intro (fun H => Aqd (H := H) Tryz.underlying3 rfl) (fun H => Axo (H := H) Tryz.sizeOf3))))))
theorem OwnRs.put {H0 H : Hp} {vs : List Value} {xss : List (List Int)} (h : OwnRs H0 H vs xss) {i x : Nat} {xs : List Int} (hi : xss[i]? = some xs) (hx : x < xs.length) :
  ∃ (b : Nat) (c : Array Value) (cap : Nat), vs[i]? = some (.slice (some ⟨b, 0, none⟩) xs.length cap) /\ H0 b = none /\ H b = some (true, .cells c 3 (0, 0)) /\ x < c.size /\ c[x]? = some (.int .i64 xs[x]) /\ ∀ y : Int, OwnRs H0 (H.set b (.cells (c.setIfInBounds x (.int .i64 y)) 3 (0, 0))) vs (xss.set i (xs.set x y)) := by
 obtain ⟨v, hv, hr⟩ := h.at_ i xs hi
 obtain ⟨b, c, cap, rfl, h0, hb, h4, h5, h6, h7⟩ := hr.put (i := x) (by rw [Aq7]; exact hx)
 rw [Aq7] at hv h4
 refine ⟨b, c, cap, hv, h0, hb, h5, by rw [h6]; simp [ints, hx], fun y => ⟨by rw [List.length_set]; exact h.len, fun j ys hj => ?_, h.sep⟩⟩
 by_cases e : i = j
 ·subst e
  have hlt : i < xss.length := (List.getElem?_eq_some_iff.1 hi).1
  rw [List.getElem?_set_self hlt] at hj
  cases hj
  refine ⟨_, hv, ?_⟩
  have h8 := h7 (.int .i64 y)
  rw [Aq7] at h8
  rw [show ints (xs.set x y) = (ints xs).set x (.int .i64 y) by simp [ints, List.map_set]]
  exact h8
 ·rw [List.getElem?_set_ne e] at hj
  obtain ⟨w, hw, hrw⟩ := h.at_ j ys hj
  exact ⟨w, hw, hrw.other h0 fun hb' => e (h.sep i j b (by rw [hv]; rfl) (by rw [hw]; exact hb'))⟩
def Dk (x : Nat) (l : List Int) : List Int := (l.take x).map (· - 1) ++ l.drop x
theorem Dk_zero (l : List Int) : Dk 0 l = l := by simp [Dk]
theorem Dk_all (l : List Int) : Dk l.length l = l.map (· - 1) := by simp [Dk]
theorem Dk_len (x : Nat) (l : List Int) : (Dk x l).length = l.length := by
 unfold Dk
 rw [List.length_append, List.length_map, List.length_take, List.length_drop]
 omega
theorem Dk_at : ∀ (l : List Int) (x : Nat) (h : x < l.length) (h' : x < (Dk x l).length), (Dk x l)[x] = l[x]
 | a :: l, 0, h, h' => by simp [Dk]
 | a :: l, x + 1, h, h' => by
  have := Dk_at l x (by simpa using h) (by rw [Dk_len]; simpa using h)
  simp only [List.getElem_cons_succ, <- this]
  simp only [Dk, List.take_succ_cons, List.map_cons, List.cons_append, List.drop_succ_cons, List.getElem_cons_succ]
theorem Dk_set : ∀ (l : List Int) (x : Nat) (h : x < l.length), (Dk x l).set x (l[x] - 1) = Dk (x + 1) l
 | a :: l, 0, h => by simp [Dk]
 | a :: l, x + 1, h => by
  have := Dk_set l x (by simpa using h)
  simp only [Dk, List.take_succ_cons, List.map_cons, List.cons_append, List.drop_succ_cons, List.getElem_cons_succ, List.set_cons_succ] at this ⊢
  rw [this]
def Pt (Lk yss : List (List Int)) (i x : Nat) : Prop := yss.length = Lk.length /\ ∀ (j : Nat) (l : List Int), Lk[j]? = some l -> yss[j]? = some (if j < i then l.map (· - 1) else if j = i then Dk x l else l)
theorem Pt.start (Lk : List (List Int)) : Pt Lk Lk 0 0 := ⟨rfl, fun j l h => by rw [h]; simp [Dk_zero]⟩
theorem Pt.put {Lk yss : List (List Int)} {i x : Nat} (h : Pt Lk yss i x) {l : List Int} (hl : Lk[i]? = some l) (hx : x < l.length) : Pt Lk (yss.set i ((Dk x l).set x (l[x] - 1))) i (x + 1) := by
 refine ⟨by rw [List.length_set]; exact h.1, fun j l' hj => ?_⟩
 by_cases e : i = j
 ·subst e
  rw [hl] at hj
  cases hj
  rw [List.getElem?_set_self (by rw [h.1]; exact (List.getElem?_eq_some_iff.1 hl).1), Dk_set l x hx]
  simp
 ·rw [List.getElem?_set_ne e, h.2 j l' hj]
  have : ¬ j = i := fun h => e h.symm
  simp [this]
theorem Pt.next {Lk yss : List (List Int)} {i x : Nat} (h : Pt Lk yss i x) {l : List Int} (hl : Lk[i]? = some l) (hx : x = l.length) : Pt Lk yss (i + 1) 0 := by
 refine ⟨h.1, fun j l' hj => ?_⟩
 rw [h.2 j l' hj]
 by_cases e : j = i
 ·subst e
  rw [hl] at hj
  cases hj
  rw [hx, Dk_all]
  simp
 ·by_cases e2 : j < i
  ·rw [if_pos e2, if_pos (by omega)]
  ·rw [if_neg e2, if_neg e, if_neg (by omega)]
   split
   ·rw [Dk_zero]
   ·rfl
theorem Pt.all {Lk yss : List (List Int)} (h : Pt Lk yss Lk.length 0) : yss = Lk.map (·.map (· - 1)) := by
 refine List.ext_getElem? fun j => ?_
 rw [List.getElem?_map]
 by_cases hj : j < Lk.length
 ·rw [h.2 j _ (List.getElem?_eq_getElem hj), List.getElem?_eq_getElem hj, if_pos hj]
  rfl
 ·rw [List.getElem?_eq_none (by rw [h.1]; omega), List.getElem?_eq_none (by omega)]
  rfl
theorem every_spec (m : Md) (n : Nat) (hn : n <= 6) (k : Nat) (hk : k <= 4) (H : Hp) :
  FnX Tryz.prog m 49 #[.int .i64 (n : Nat), .int .i64 (k : Nat)] H fun e H' => ∃ v, e = .returned v /\ H.le H' /\ SlR H' v (allF (n + 1) k) := by
 have hlen : (listsF (n + 1) k).length <= 2401 := by rw [listsF_len]; exact pow_bnd (by omega) hk
 have hrl : ∀ l ∈ listsF (n + 1) k, l.length = k /\ ∀ x ∈ l, 0 <= x /\ x < 7 := fun l hl => by
  obtain ⟨h1, h2⟩ := (listsF_mem (n + 1) k l).1 hl
  exact ⟨h1, fun x hx => by have := h2 x hx; omega⟩
 have hall : allF (n + 1) k = (listsF (n + 1) k).map (·.map (· - 1)) := rfl
 have hls := fun H => lists_spec m (n + 1) (by omega) k hk H
 have hst := Pt.start (listsF (n + 1) k)
 replace hls : Aqs _ := hls
 replace hrl : Aqs _ := hrl
 rw [hall]
 clear hall
 refine Aqk Tryz.func49 rfl Tryz.ntmps49 (by simp) ?_
 (refine @unH _ ?_; refine zA y49_184 ?_; (repeat (refine inC ?_; intro hc)); try (refine inK ?_; intro K hK))
 rw [show ((n : Nat) : Int) + 1 = ((n + 1 : Nat) : Int) by omega]
 refine ((show ∀ H, _ from hls) H).runs.mono ?_
 rintro _ H1 ⟨lv, vs, rfl, hrow, hown⟩
 clear hls
 generalize listsF (n + 1) k = Lk at *
 have hwl := hown.len
 obtain ⟨la, lc, hlv⟩ := hrow.len
 rw [hwl] at hlv
 subst hlv
 replace hwl : Aqs _ := hwl
 ((try (refine @unH _ ?_; refine zX y49_184 ?_)); (try (refine hK _ _ ?_; clear hK K; (try simp only [nq, ↓reduceIte, Nat.reduceEqDiff]))); refine @unH _ ?_; refine zA y49_184 ?_; (repeat (refine inC ?_; intro hc)); try (refine inK ?_; intro K hK))
 refine Axe (fun w a' H' => ∃ e i yss, w = Lk.length - i /\ i <= Lk.length /\ a' = act 33 e [] /\ e 1 = .int .i64 (k : Nat) /\ e 5 = .slice la Lk.length lc /\ e 6 = .int .i64 (i : Nat) /\ RowX none H H' (.slice la Lk.length lc) 22 vs /\ OwnRs H H' vs yss /\ Pt Lk yss i 0) (n := Lk.length) ?_ ?_
 ·exact ⟨_, 0, Lk, by omega, by omega, rfl, rfl, rfl, rfl, hrow, hown, hst⟩
 clear hrow hown hst
 rintro w a' H2 ⟨e, i, yss, rfl, hi, rfl, e1, e5, e6, hrow, hown, hpt⟩
 by_cases hlt : i < Lk.length
 ·have hli := List.getElem?_eq_getElem hlt
  obtain ⟨hlk, hlb⟩ := (show ∀ l ∈ Lk, _ from hrl) Lk[i] (List.getElem_mem hlt)
  generalize Lk[i] = l at *
  replace hli : Aqs _ := hli
  replace hlb : Aqs _ := hlb
  have hlk2 : l.length <= k /\ k <= l.length := by omega
  clear hlk
  (refine @unH _ ?_; refine zA y49_184 ?_; (repeat (refine inC ?_; intro hc)); try (refine inK ?_; intro K hK))
  refine Axe (fun w a' H' => ∃ e x yss, w = k - x /\ x <= k /\ a' = act 33 e [] /\ e 1 = .int .i64 (k : Nat) /\ e 5 = .slice la Lk.length lc /\ e 6 = .int .i64 (i : Nat) /\ e 7 = .int .i64 (x : Nat) /\ RowX none H H' (.slice la Lk.length lc) 22 vs /\ OwnRs H H' vs yss /\ Pt Lk yss i x) (n := k) ?_ ?_
  ·exact ⟨_, 0, yss, by omega, by omega, rfl, e1, e5, e6, rfl, hrow, hown, hpt⟩
  clear e1 e5 e6 hrow hown hpt
  rintro w a' H2 ⟨e, x, yss, rfl, hx, rfl, e1, e5, e6, e7, hrow, hown, hpt⟩
  by_cases hxk : x < k
  ·have hxl : x < l.length := by omega
   have hyi : yss[i]? = some (Dk x l) := by rw [hpt.2 i l (show Lk[i]? = some l from hli)]; simp
   have hxd : x < (Dk x l).length := by rw [Dk_len]; exact hxl
   obtain ⟨b, c, cap, hvi, h0b, hb, hxc, hcx, hput⟩ := hown.put hyi hxd
   rw [Dk_at l x hxl] at hcx
   rw [Dk_len] at hvi
   have hbx := (show ∀ x ∈ l, 0 <= x /\ x < 7 from hlb) l[x] (List.getElem_mem hxl)
   have hput2 := hput (l[x] - 1)
   have hpt2 := hpt.put (show Lk[i]? = some l from hli) hxl
   obtain ⟨ob, oc, ocap, hov, h0o, hob, hoc1, hoc2, hoi, _⟩ := hrow.put (i := i) (by rw [show vs.length = Lk.length from (show vs.length = Lk.length from hwl)]; exact hlt)
   have hoi' : oc[i]? = some (.slice (some ⟨b, 0, none⟩) l.length cap) := hoi.trans hvi
   injection hov with hla hln hlc
   subst hla
   have hnb : rowB (.slice (some ⟨ob, 0, none⟩) Lk.length lc) ≠ some b := hrow.rowB_ne fun c' fr h => by rw [hb] at h; cases h
   have hrow2 := hrow.other (o := .cells (c.setIfInBounds x (.int .i64 (l[x] - 1))) 3 (0, 0)) h0b hnb
   generalize l[x] = lx at *
   clear hput hpt hown hrow hoi hyi hvi hln hlc hwl hnb
   replace hput2 : Aqs _ := hput2
   replace hpt2 : Aqs _ := hpt2
   replace hrow2 : Aqs _ := hrow2
   (refine @unH _ ?_; refine zA y49_184 ?_; (repeat (refine inC ?_; intro hc)); try (refine inK ?_; intro K hK))
   exact ⟨k - (x + 1), by omega, _, x + 1, _, rfl, hxk, rfl, e1, e5, e6, rfl, hrow2, hput2, hpt2⟩
  ·obtain rfl : x = k := by omega
   have hpn := hpt.next (show Lk[i]? = some l from hli) (by omega)
   (refine @unH _ ?_; refine zA y49_184 ?_; (repeat (refine inC ?_; intro hc)); try (refine inK ?_; intro K hK))
   exact ⟨Lk.length - (i + 1), by omega, _, i + 1, yss, rfl, hlt, rfl, e1, e5, rfl, hrow, hown, hpn⟩
 ·obtain rfl : i = Lk.length := by omega
  (refine @unH _ ?_; refine zA y49_184 ?_; (repeat (refine inC ?_; intro hc)); try (refine inK ?_; intro K hK))
  (refine @unH _ ?_; refine z9 Tryz.results49 ?_)
  refine ⟨_, rfl, hrow.1.toLe, ?_⟩
  rw [<- hpt.all]
  exact hrow.rows hown.rows
def y7_185 := And.intro @callF23 (And.intro @callF46 (And.intro (fun H => Aq1 (H := H) (P := Tryz.prog) (h := Tryz.zeroValue25)) (And.intro (fun H => Aq3 (H := H) Tryz.sizeOf25) (And.intro (fun H => Aqh (H := H) Tryz.underlying25 (i := 1) rfl (off := 1) rfl Tryz.sizeOf3) (And.intro (fun H => Aqd (H := H) Tryz.underlying3 rfl) (And.intro (fun H => Aq5 (H := H) Tryz.underlying22) (And.intro @callF49 (And.intro (fun H => Aq5 (H := H) Tryz.underlying23) (And.intro (fun H => Aqx (H := H) Tryz.underlying25 rfl Tryz.sizeOf25) (And.intro (fun H => Aqq (H := H) Tryz.underlying23 Tryz.sizeOf22) (And.intro (fun H => Aqd (H := H) Tryz.underlying22 rfl) (And.intro @callF47 (And.intro @Bx9 (And.intro @Dxm (And.intro @Dxn (And.intro @Dxk (And.intro (fun H => Aqq (H := H) Tryz.underlying22 Tryz.sizeOf3) (And.intro @Dxo @callF22))))))))))))))))))
theorem BestK.len {f : List Int -> Option Nat} {P best : List (List Int)} {least : Int} (h : BestK f P least best) : best.length <= P.length := by
 rcases h with ⟨_, rfl, _⟩ | ⟨k, _, _, rfl, _⟩
 ·exact Nat.zero_le _
 ·exact List.length_filter_le _ _
theorem countP_step {p : List Int -> Bool} {L : List (List Int)} {i : Nat} {c : List Int} (h : L[i]? = some c) : (L.take (i + 1)).countP p = (L.take i).countP p + if p c then 1 else 0 := by
 rw [take_snoc h, List.countP_append]
 simp [List.countP_cons]
theorem lall_spec (H : Hp) (sa : Option Addr) (sl sc : Nat) (hs : ∀ i : Nat, i < sl -> ∃ sb so c e fr x, sa = some ⟨sb, so, none⟩ /\ H sb = some (false, .cells c e fr) /\ c[so + i]? = some (.int .i64 x)) :
  FnX Tryz.prog (.wg Tryz.prog) 7 #[.slice sa sl sc] H fun e _ => e = .returned (.bool true) := by
 refine Aqk Tryz.func7 rfl Tryz.ntmps7 (by simp) ?_
 repeat' (first
 | (refine Axn rfl ?_; intro K hK; simp -implicitDefEqProofs (disch := first | omega | (simp only [qd] <;> omega)) only [xq, ↓xp, qc, Nat.reduceAdd, List.range, List.range.loop, fine, Nat.reduceEqDiff, ↓reduceIte, yielded, reduceCtorEq, Nat.reduceLT, Nat.reduceMul, Nat.reduceSub, one, Nat.reduceLeDiff, Aqa, y7_185, aq, ↓ap, qe0, qe1, qe2, *, -hK]; try (refine hK _ _ ?_; clear hK K))
 | (refine Axs rfl ?_; intro K hK; simp -implicitDefEqProofs (disch := first | omega | (simp only [qd] <;> omega)) only [xq, ↓xp, qc, Nat.reduceAdd, List.range, List.range.loop, fine, Nat.reduceEqDiff, ↓reduceIte, yielded, reduceCtorEq, Nat.reduceLT, Nat.reduceMul, Nat.reduceSub, one, Nat.reduceLeDiff, Aqa, y7_185, aq, ↓ap, qe0, qe1, qe2, *, -hK]; try (refine hK _ _ ?_; clear hK K; (try simp only [nq, ↓reduceIte, Nat.reduceEqDiff])))
 | (refine Aqu ?_; (try simp only [nq, ↓reduceIte, Nat.reduceEqDiff]))
 | (refine Axr ?_; (try simp only [nq, ↓reduceIte, Nat.reduceEqDiff]))
 | (refine Axa ?_; (try simp only [nq, ↓reduceIte, Nat.reduceEqDiff]))
 | (refine Azb ?_; (try simp only [nq, ↓reduceIte, Nat.reduceEqDiff]))
 | (refine Axy (by simp only [Aqm, Aqr, Nat.reduceEqDiff, Nat.reduceLT, ↓reduceIte, *]; rfl) ?_ ?_ <;> (intro hc; first | (exfalso; simp -implicitDefEqProofs (disch := omega) only [*, bq, reduceCtorEq] at hc; done) | (simp only [dq, qe3, qe4, qe5, qe6] at hc) | skip))
 | (refine Axq ?_)
 | (refine Aqo ?_)
 | (refine Aql ?_))
 refine (newTin_spec _ H sa sl sc hs 240 (by omega)).runs.mono ?_
 rintro _ H1 ⟨tb, rfl, l1, hT⟩
 (try simp -implicitDefEqProofs (disch := first | omega | (simp only [qd] <;> omega)) only [xq, ↓xp, qc, Nat.reduceAdd, List.range, List.range.loop, fine, Nat.reduceEqDiff, ↓reduceIte, yielded, reduceCtorEq, Nat.reduceLT, Nat.reduceMul, Nat.reduceSub, one, Nat.reduceLeDiff, Aqa, y7_185, aq, ↓ap, qe0, qe1, qe2, *, -hK]); try (refine hK _ _ ?_; clear hK K; (try simp only [nq, ↓reduceIte, Nat.reduceEqDiff])); repeat' (first
 | (refine Axn rfl ?_; intro K hK; simp -implicitDefEqProofs (disch := first | omega | (simp only [qd] <;> omega)) only [xq, ↓xp, qc, Nat.reduceAdd, List.range, List.range.loop, fine, Nat.reduceEqDiff, ↓reduceIte, yielded, reduceCtorEq, Nat.reduceLT, Nat.reduceMul, Nat.reduceSub, one, Nat.reduceLeDiff, Aqa, y7_185, aq, ↓ap, qe0, qe1, qe2, *, -hK]; try (refine hK _ _ ?_; clear hK K))
 | (refine Axs rfl ?_; intro K hK; simp -implicitDefEqProofs (disch := first | omega | (simp only [qd] <;> omega)) only [xq, ↓xp, qc, Nat.reduceAdd, List.range, List.range.loop, fine, Nat.reduceEqDiff, ↓reduceIte, yielded, reduceCtorEq, Nat.reduceLT, Nat.reduceMul, Nat.reduceSub, one, Nat.reduceLeDiff, Aqa, y7_185, aq, ↓ap, qe0, qe1, qe2, *, -hK]; try (refine hK _ _ ?_; clear hK K; (try simp only [nq, ↓reduceIte, Nat.reduceEqDiff])))
 | (refine Aqu ?_; (try simp only [nq, ↓reduceIte, Nat.reduceEqDiff]))
 | (refine Axr ?_; (try simp only [nq, ↓reduceIte, Nat.reduceEqDiff]))
 | (refine Axa ?_; (try simp only [nq, ↓reduceIte, Nat.reduceEqDiff]))
 | (refine Azb ?_; (try simp only [nq, ↓reduceIte, Nat.reduceEqDiff]))
 | (refine Axy (by simp only [Aqm, Aqr, Nat.reduceEqDiff, Nat.reduceLT, ↓reduceIte, *]; rfl) ?_ ?_ <;> (intro hc; first | (exfalso; simp -implicitDefEqProofs (disch := omega) only [*, bq, reduceCtorEq] at hc; done) | (simp only [dq, qe3, qe4, qe5, qe6] at hc) | skip))
 | (refine Axq ?_)
 | (refine Aqo ?_)
 | (refine Aql ?_))
 refine (vaultOf_spec _ H1 tb 184 4 2 (by omega) (by omega) (by omega) hT).runs.mono ?_
 rintro _ H2 ⟨places, pieces, sv, start, cv, xss, tv, ts, rfl, hst, hcs, htr, hok, hfew, htok, lex2, hT2⟩
 have hd2 : Awr H2 places pieces sv cv tv start xss ts := ⟨hst, hcs, htr, hok, by omega, htok⟩
 clear hT hs l1 hst hcs htr lex2
 obtain ⟨va, vc, rfl, hvc, _⟩ := id hd2.st
 obtain ⟨ca, cc, rfl, hcc, _⟩ := id hd2.calls
 obtain ⟨ta, tc, rfl, htc, _⟩ := id hd2.truth
 have htl : ts.length <= 4 := by have := htok.1; omega
 have htb := htok.bnd hok
 have hok2 := hok
 obtain ⟨p1, p4, q1, q6, hsp, hsd, hsb, hxs⟩ := hok2
 have hs6 : ∀ t ∈ start, 0 <= t /\ t < 6 := fun t ht => by have := hsb t ht; omega
 have hpz : 0 <= pieces := by omega
 obtain ⟨pn, hpn⟩ : ∃ pn : Nat, pieces = pn := ⟨pieces.toNat, by omega⟩
 subst hpn
 have htp : ∀ t ∈ ts, 0 <= t /\ t < (pn : Int) := htok.below hok
 have hfin : ∀ least best, BestK (Axb places start ts) (allF (pn + 1) ts.length) least best -> best = Axl ts.length places ts (oOf start) /\ least = (optF ts.length places ts (oOf start) : Nat) := fun least best h => BestK.all (pieces := (pn : Int)) p1 hpz q6 hsb hsd htp (by rw [Int.toNat_natCast]; exact h)
 have hAl : (allF (pn + 1) ts.length).length <= 2401 := by unfold allF; rw [List.length_map, listsF_len]; exact pow_bnd (by omega) htl
 have hAm : ∀ c ∈ allF (pn + 1) ts.length, c.length = ts.length := fun c hc => ((allF_mem _ _ c).1 hc).1
 have hBm : ∀ c ∈ Axl ts.length places ts (oOf start), c.length = ts.length := fun c hc => Ckr ((Bxo ts.length).1 hc)
 have hB0 := By2 ts.length p1 ts (oOf start) (Nat.le_refl _)
 have hev := fun H => every_spec (.wg Tryz.prog) pn (by omega) ts.length (by omega) H
 replace hfin : Aqs _ := hfin
 replace hAm : Aqs _ := hAm
 replace hBm : Aqs _ := hBm
 replace hB0 : Aqs _ := hB0
 generalize allF (pn + 1) ts.length = A at *
 replace hev : Aqs _ := hev
 ((try (refine @unH _ ?_; refine zX y7_185 ?_)); (try (refine hK _ _ ?_; clear hK K; (try simp only [nq, ↓reduceIte, Nat.reduceEqDiff]))); refine @unH _ ?_; refine zA y7_185 ?_; (repeat (refine inC ?_; intro hc)); try (refine inK ?_; intro K hK))
 (intro vb hvb; generalize hG : Hp.set _ vb _ = H3; have lH3 := Aqg hG hvb; have vvb := Aqf hG; clear hG)
 have hd3 := hd2.le lH3
 clear hd2 lH3 hvb hT2
 ((try (refine @unH _ ?_; refine zX y7_185 ?_)); (try (refine hK _ _ ?_; clear hK K; (try simp only [nq, ↓reduceIte, Nat.reduceEqDiff]))); refine @unH _ ?_; refine zA y7_185 ?_; (repeat (refine inC ?_; intro hc)); try (refine inK ?_; intro K hK))
 refine ((show ∀ H, _ from hev) H3).runs.mono ?_
 rintro _ H4 ⟨lv, rfl, l1, hl⟩
 have hd4 := hd3.le l1
 have vvb4 := l1 _ _ vvb
 clear hd3 vvb l1 hev
 obtain ⟨la, lc, rfl, hlc, _⟩ := id hl
 ((try (refine @unH _ ?_; refine zX y7_185 ?_)); (try (refine hK _ _ ?_; clear hK K; (try simp only [nq, ↓reduceIte, Nat.reduceEqDiff]))); refine @unH _ ?_; refine zA y7_185 ?_; (repeat (refine inC ?_; intro hc)); try (refine inK ?_; intro K hK))
 refine Axe (fun w a' H' => ∃ e i least best bv vs, w = A.length - i /\ i <= A.length /\ a' = act 160 e [] /\ e 3 = .pointer (some ⟨vb, 0, none⟩) /\ e 4 = .slice ta ts.length tc /\ e 5 = .slice la A.length lc /\ e 6 = .int .i64 least /\ e 7 = bv /\ e 8 = .int .i64 (i : Nat) /\ RowX none H4 H' bv 22 vs /\ Rows H' vs best /\ BestK (Axb places start ts) (A.take i) least best) (n := A.length) ?_ ?_
 ·exact ⟨_, 0, -1, [], .slice none 0 0, [], by omega, by omega, rfl, rfl, rfl, rfl, rfl, rfl, rfl, RowX.nil, Rows.nil, BestK.nil⟩
 rename_i eold
 clear eold
 rintro w a' H5 ⟨e, i, least, best, bv, vs, rfl, hi, rfl, e3, e4, e5, e6, e7, e8, hrow, hrows, hbk⟩
 have l45 := hrow.1.toLe
 have hd5 := hd4.le l45
 have vvb5 := l45 _ _ vvb4
 obtain ⟨ba, bc, rfl⟩ := hrow.len
 have hvl := hrows.1
 by_cases hlt : i < A.length
 ·have hxi := List.getElem?_eq_getElem hlt
  have hcl := (show ∀ c ∈ A, c.length = ts.length from hAm) A[i] (List.getElem_mem hlt)
  have hbl := hbk.len
  rw [List.length_take] at hbl
  generalize A[i] = c at *
  have hsn := take_snoc hxi
  have hcl2 : c.length <= ts.length /\ ts.length <= c.length := by omega
  clear hcl
  obtain ⟨ob, oo, oq, occ, ofr, ow, hoa, hob, hoi, how⟩ := SlR.get (hl.le l45) hxi
  subst hoa
  obtain ⟨wa, wc, rfl, hwc, _⟩ := id how
  have hvl2 : vs.length <= 2401 := by omega
  replace hvl : Aqs _ := hvl
  replace hsn : Aqs _ := hsn
  replace hxi : Aqs _ := hxi
  (refine @unH _ ?_; refine zA y7_185 ?_; (repeat (refine inC ?_; intro hc)); try (refine inK ?_; intro K hK))
  refine Ajl (fun HX => H5.le HX) [] (.take 0 (.free 1 (.free 2 (.free 3 (.free 4 (.take 5 (.one 6 (.free 7 .nil)))))))) (by kernel_rfl) (by kernel_rfl) (by decide) (by kernel_rfl) ?_; intro K hK
  have hSx := Hp.le_refl H5
  (apply Axd rfl rfl rfl ‹_›; (focus (intro HX hHX; simp -implicitDefEqProofs (disch := first | omega | (simp only [qd] <;> omega)) only [xq, ↓xp, qc, Nat.reduceAdd, List.range, List.range.loop, fine, Nat.reduceEqDiff, ↓reduceIte, yielded, reduceCtorEq, Nat.reduceLT, Nat.reduceMul, Nat.reduceSub, one, Nat.reduceLeDiff, Aqa, y7_185, aq, ↓ap, qe0, qe1, qe2, *, -hK, Aq0, hHX _ _ vvb5, hHX _ _ hob] <;> (first | exact rfl | exact ⟨rfl, rfl⟩ | exact ⟨rfl, trivial⟩))); simp -implicitDefEqProofs (disch := first | omega | (simp only [qd] <;> omega)) only [Aqn, Aqc])
  (iterate 4 (apply Ax5 rfl rfl rfl; (focus (intro HX; simp -implicitDefEqProofs (disch := first | omega | (simp only [qd] <;> omega)) only [xq, ↓xp, qc, Nat.reduceAdd, List.range, List.range.loop, fine, Nat.reduceEqDiff, ↓reduceIte, yielded, reduceCtorEq, Nat.reduceLT, Nat.reduceMul, Nat.reduceSub, one, Nat.reduceLeDiff, Aqa, y7_185, aq, ↓ap, qe0, qe1, qe2, *, -hK, Aq0] <;> (first | exact rfl | exact ⟨rfl, rfl⟩ | exact ⟨rfl, trivial⟩))); simp -implicitDefEqProofs (disch := first | omega | (simp only [qd] <;> omega)) only [Aqn, Aqc]))
  (apply Axd rfl rfl rfl ‹_›; (focus (intro HX hHX; simp -implicitDefEqProofs (disch := first | omega | (simp only [qd] <;> omega)) only [xq, ↓xp, qc, Nat.reduceAdd, List.range, List.range.loop, fine, Nat.reduceEqDiff, ↓reduceIte, yielded, reduceCtorEq, Nat.reduceLT, Nat.reduceMul, Nat.reduceSub, one, Nat.reduceLeDiff, Aqa, y7_185, aq, ↓ap, qe0, qe1, qe2, *, -hK, Aq0, hHX _ _ vvb5, hHX _ _ hob] <;> (first | exact rfl | exact ⟨rfl, rfl⟩ | exact ⟨rfl, trivial⟩))); simp -implicitDefEqProofs (disch := first | omega | (simp only [qd] <;> omega)) only [Aqn, Aqc])
  refine Aq6 ?_
  (refine @unH _ ?_; refine zX y7_185 ?_)
  refine (follow_spec _ H5 places (pn : Nat) _ _ _ _ start ts c hd5.st rfl hd5.truth how (by omega) (by omega) (by omega)).runs.mono ?_
  rintro _ H6 ⟨rfl, l56⟩
  (refine @unH _ ?_; refine zX y7_185 ?_)
  refine ⟨.inr (by intros; first | exact l56 | trivial), ?_⟩
  (apply Ax5 rfl rfl rfl; (focus (intro HX; simp -implicitDefEqProofs (disch := first | omega | (simp only [qd] <;> omega)) only [xq, ↓xp, qc, Nat.reduceAdd, List.range, List.range.loop, fine, Nat.reduceEqDiff, ↓reduceIte, yielded, reduceCtorEq, Nat.reduceLT, Nat.reduceMul, Nat.reduceSub, one, Nat.reduceLeDiff, Aqa, y7_185, aq, ↓ap, qe0, qe1, qe2, *, -hK, Aq0] <;> (first | exact rfl | exact ⟨rfl, rfl⟩ | exact ⟨rfl, trivial⟩))); simp -implicitDefEqProofs (disch := first | omega | (simp only [qd] <;> omega)) only [Aqn, Aqc])
  refine Azw (hK _ _ ?_); clear hK K hSx
  (try simp only [nq, ↓reduceIte, Nat.reduceEqDiff])
  have hrow6 := hrow.le l56
  have hrows6 := hrows.mono fun v xs h => h.le l56
  have how6 := (show SlI H5 _ _ from how).le l56
  have hob6 := l56 _ _ hob
  clear hrow hrows hob vvb5
  generalize hq : Axb places start ts c = q
  replace hq : Aqs _ := hq
  cases q with
  | none =>
   have hbk2 := hbk.none (show Axb places start ts c = none from hq)
   rw [<- show A.take (i + 1) = _ from hsn] at hbk2
   simp only [Dza]
   clear hbk
   replace hbk2 : Aqs _ := hbk2
   (refine @unH _ ?_; refine zA y7_185 ?_; (repeat (refine inC ?_; intro hc)); try (refine inK ?_; intro K hK))
   exact ⟨A.length - (i + 1), by omega, _, i + 1, least, best, _, vs, rfl, hlt, rfl, e3, e4, e5, e6, e7, rfl, hrow6, hrows6, hbk2⟩
  | some j =>
   simp only [Dza]
   have hj0 : ¬ ((j : Int) < 0) := by omega
   by_cases hsk : 0 <= least /\ least < j
   ·obtain ⟨hs1, hs2⟩ := hsk
    have hbk2 := hbk.skip (show Axb places start ts c = some j from hq) hs1 hs2
    rw [<- show A.take (i + 1) = _ from hsn] at hbk2
    clear hbk
    replace hbk2 : Aqs _ := hbk2
    (refine @unH _ ?_; refine zA y7_185 ?_; (repeat (refine inC ?_; intro hc)); try (refine inK ?_; intro K hK))
    exact ⟨A.length - (i + 1), by omega, _, i + 1, least, best, _, vs, rfl, hlt, rfl, e3, e4, e5, e6, e7, rfl, hrow6, hrows6, hbk2⟩
   ·have hn56 : RowX none H4 H6 (.slice none 0 0) 22 [] := ⟨hrow6.1, .inl ⟨rfl, rfl⟩⟩
    have hor : least < 0 ∨ (0 <= least /\ ¬ least < (j : Int)) := by omega
    by_cases hjl : (j : Int) = least
    ·have hbk2 := hbk.more (show Axb places start ts c = some j from hq) hjl
     rw [<- show A.take (i + 1) = _ from hsn] at hbk2
     subst hjl
     clear hbk hsk
     replace hbk2 : Aqs _ := hbk2
     have hjj : ¬ ((j : Int) < (j : Int)) := by omega
     have hj1 : 0 <= (j : Int) := by omega
     clear hor
     (refine @unH _ ?_; refine zA y7_185 ?_; (repeat (refine inC ?_; intro hc)); try (refine inK ?_; intro K hK))
     intro mb hmb
     refine Cwp hrow6 rfl hmb (by omega) _ _ _ _ (fun v7 HB hrB hoB => ?_)
     ((try (refine @unH _ ?_; refine zX y7_185 ?_)); (try (refine hK _ _ ?_; clear hK K; (try simp only [nq, ↓reduceIte, Nat.reduceEqDiff]))); refine @unH _ ?_; refine zA y7_185 ?_; (repeat (refine inC ?_; intro hc)); try (refine inK ?_; intro K hK))
     refine ⟨A.length - (i + 1), by omega, _, i + 1, _, _, v7, _, rfl, hlt, rfl, e3, e4, e5, e6, rfl, rfl, hrB, ?_, hbk2⟩
     exact (hrows6.mono fun v xs h => h.move fun x q c fr hx => hoB.cells hx (by decide)).snoc (how6.move fun x q c fr hx => hoB.cells hx (by decide))
    ·have hbk2 := hbk.new (show Axb places start ts c = some j from hq) hsk hjl
     rw [<- show A.take (i + 1) = _ from hsn] at hbk2
     clear hbk hsk
     replace hbk2 : Aqs _ := hbk2
     rcases hor with h0 | ⟨h0, h1⟩
     ·(refine @unH _ ?_; refine zA y7_185 ?_; (repeat (refine inC ?_; intro hc)); try (refine inK ?_; intro K hK))
      intro mb hmb
      refine Cwp hn56 rfl hmb (by simp) _ _ _ _ (fun v7 HB hrB hoB => ?_)
      ((try (refine @unH _ ?_; refine zX y7_185 ?_)); (try (refine hK _ _ ?_; clear hK K; (try simp only [nq, ↓reduceIte, Nat.reduceEqDiff]))); refine @unH _ ?_; refine zA y7_185 ?_; (repeat (refine inC ?_; intro hc)); try (refine inK ?_; intro K hK))
      refine ⟨A.length - (i + 1), by omega, _, i + 1, _, _, v7, _, rfl, hlt, rfl, e3, e4, e5, rfl, rfl, rfl, hrB, ?_, hbk2⟩
      exact Rows.nil.snoc (how6.move fun x q c fr hx => hoB.cells hx (by decide))
     ·(refine @unH _ ?_; refine zA y7_185 ?_; (repeat (refine inC ?_; intro hc)); try (refine inK ?_; intro K hK))
      intro mb hmb
      refine Cwp hn56 rfl hmb (by simp) _ _ _ _ (fun v7 HB hrB hoB => ?_)
      ((try (refine @unH _ ?_; refine zX y7_185 ?_)); (try (refine hK _ _ ?_; clear hK K; (try simp only [nq, ↓reduceIte, Nat.reduceEqDiff]))); refine @unH _ ?_; refine zA y7_185 ?_; (repeat (refine inC ?_; intro hc)); try (refine inK ?_; intro K hK))
      refine ⟨A.length - (i + 1), by omega, _, i + 1, _, _, v7, _, rfl, hlt, rfl, e3, e4, e5, rfl, rfl, rfl, hrB, ?_, hbk2⟩
      exact Rows.nil.snoc (how6.move fun x q c fr hx => hoB.cells hx (by decide))
 ·obtain rfl : i = A.length := by omega
  rw [List.take_length] at hbk
  have hbl := hbk.len
  obtain ⟨hb1, hb2⟩ := (show ∀ least best, _ -> _ from hfin) least best hbk
  subst hb1 hb2
  clear hbk hfin hAm
  have hSB := hrow.rows hrows
  rw [hvl] at hSB e7
  clear hrow hrows hvl
  have hbest := fun HX hX => Cj9 (.wg Tryz.prog) HX places (pn : Nat) (.slice va start.length vc) (.slice ca xss.length cc) (.slice ta ts.length tc) start xss ts hX
  have hcnt := fun HX hX => Cqf (.wg Tryz.prog) HX places (pn : Nat) (.slice va start.length vc) (.slice ca xss.length cc) (.slice ta ts.length tc) start xss ts hX
  have hsent := fun HX hX (c p : Nat) h0 h1 h2 h3 => Cjo (.wg Tryz.prog) HX places (pn : Nat) (.slice va start.length vc) (.slice ca xss.length cc) (.slice ta ts.length tc) start xss ts hX (c : Nat) (p : Nat) h0 h1 h2 h3
  simp only [Int.toNat_natCast] at hsent
  replace hbest : Aqs _ := hbest
  replace hcnt : Aqs _ := hcnt
  replace hsent : Aqs _ := hsent
  have hPl : (Aj9 ts.length places ts (oOf start)).length <= 4 := by
   have hm := List.mem_of_mem_head? (show (Aj9 ts.length places ts (oOf start)) ∈ (Axl ts.length places ts (oOf start)).head? by rw [show (Axl ts.length places ts (oOf start)).head? = _ from hB0]; rfl)
   rw [(show ∀ c ∈ Axl ts.length places ts (oOf start), c.length = ts.length from hBm) _ hm]
   omega
  generalize Axl ts.length places ts (oOf start) = B at *
  generalize Aj9 ts.length places ts (oOf start) = PA at *
  generalize optF ts.length places ts (oOf start) = N at *
  have hB00 : B[0]? = some PA := by rw [<- List.head?_eq_getElem?]; exact hB0
  have hBp : 0 < B.length := (List.getElem?_eq_some_iff.1 hB00).1
  have hBlt : B.length <= 2401 := by omega
  clear hbl hlc hAl
  obtain ⟨bb, bo, bfl, bcc, bfr, bu, hba, hbb, hbu, hu0⟩ := SlR.get hSB hB00
  subst hba
  obtain ⟨ua, uc, rfl, _, _⟩ := id hu0
  replace hB00 : Aqs _ := hB00
  clear hB0
  refine Aql ?_
  refine Aql ?_
  (refine Axs rfl ?_; intro K hK; simp -implicitDefEqProofs (maxSteps := 3000000) (disch := first | omega | (simp only [qd] <;> omega)) only [xq, ↓xp, qc, Nat.reduceAdd, List.range, List.range.loop, fine, Nat.reduceEqDiff, ↓reduceIte, yielded, reduceCtorEq, Nat.reduceLT, Nat.reduceMul, Nat.reduceSub, one, Nat.reduceLeDiff, Aqa, y7_185, aq, ↓ap, qe0, qe1, qe2, ↓ld_O, ldO_some, ylK_undef, gateL_no, *, -hK]; refine hK _ _ ?_; clear hK K; (try simp only [nq, ↓reduceIte, Nat.reduceEqDiff]))
  (refine Axy (by simp only [Aqm, Aqr, Nat.reduceEqDiff, Nat.reduceLT, ↓reduceIte]; rfl) ?_ ?_ <;> (intro hc; first | (cases hc; done) | skip))
  refine Axa ?_
  (try simp only [nq, ↓reduceIte, Nat.reduceEqDiff])
  refine Aql ?_
  refine Aql ?_
  (refine Axs rfl ?_; intro K hK; simp -implicitDefEqProofs (maxSteps := 3000000) (disch := first | omega | (simp only [qd] <;> omega)) only [xq, ↓xp, qc, Nat.reduceAdd, List.range, List.range.loop, fine, Nat.reduceEqDiff, ↓reduceIte, yielded, reduceCtorEq, Nat.reduceLT, Nat.reduceMul, Nat.reduceSub, one, Nat.reduceLeDiff, Aqa, y7_185, aq, ↓ap, qe0, qe1, qe2, ↓ld_O, ldO_some, ylK_undef, gateL_no, *, -hK]; refine hK _ _ ?_; clear hK K; (try simp only [nq, ↓reduceIte, Nat.reduceEqDiff]))
  (refine Axy (by simp only [Aqm, Aqr, Nat.reduceEqDiff, Nat.reduceLT, ↓reduceIte]; rfl) ?_ ?_ <;> (intro hc; first | (cases hc; done) | skip))
  (refine @unH _ ?_; refine zA y7_185 ?_; (repeat (refine inC ?_; intro hc)); try (refine inK ?_; intro K hK))
  refine ((show ∀ HX, _ -> _ from hbest) H5 hd5).runs.mono ?_
  rintro _ H6 ⟨gv, rfl, hg, l56⟩
  have hd6 := hd5.le l56
  have vvb6 := l56 _ _ vvb5
  clear hbest vvb5
  obtain ⟨ga, gc, rfl, _, _⟩ := id hg
  ((try (refine @unH _ ?_; refine zX y7_185 ?_)); (try (refine hK _ _ ?_; clear hK K; (try simp only [nq, ↓reduceIte, Nat.reduceEqDiff]))); refine @unH _ ?_; refine zA y7_185 ?_; (repeat (refine inC ?_; intro hc)); try (refine inK ?_; intro K hK))
  refine ((show ∀ HX, _ -> _ from hcnt) H6 hd6).runs.mono ?_
  rintro _ H7 ⟨rfl, l67⟩
  have l57 := Hp.le_trans l56 l67
  have hd7 := hd5.le l57
  have vvb7 := l67 _ _ vvb6
  have hg7 := hg.le l67
  have hSB7 := hSB.le l57
  have hbb7 := l57 _ _ hbb
  have hu7 := (show SlI H5 _ _ from hu0).le l57
  clear hcnt vvb6 hd5 hd6 hg hSB hbb hu0 l56 l67 l57 l45
  have hlike := Av8 (.wg Tryz.prog) H7 _ _ PA PA hg7 hu7 (by omega) (by omega)
  rw [decide_eq_true rfl] at hlike
  replace hlike : Aqs _ := hlike
  replace hbu : bcc[bo + Int.toNat 0]? = some (.slice ua PA.length uc) := hbu
  (refine @unH _ ?_; refine zX y7_185 ?_)
  refine hK _ _ ?_; clear hK K
  (try simp only [nq, ↓reduceIte, Nat.reduceEqDiff])
  refine Avy (fun e => e 3 = .pointer (some ⟨vb, 0, none⟩) /\ e 4 = .slice ta ts.length tc /\ e 6 = .int .i64 (N : Nat) /\ e 7 = .slice (some ⟨bb, bo, none⟩) B.length bc /\ e 10 = .slice ga PA.length gc /\ e 11 = .int .i64 (N : Nat) /\ e 12 = .int .i64 0 /\ e 13 = .int .i64 (B.length : Nat) /\ e 14 = .int .i64 0) ⟨e3, e4, e6, e7, rfl, rfl, rfl, rfl, rfl⟩ ?_
  clear e3 e4 e5 e6 e7 e8
  rintro e ⟨e3, e4, e6, e7, e10, e11, e12, e13, e14⟩
  refine Aql ?_
  refine Aql ?_
  refine Axs rfl ?_; intro K hK
  simp -implicitDefEqProofs (maxSteps := 3000000) (disch := first | omega | (simp only [qd] <;> omega)) only [xq, ↓xp, qc, Nat.reduceAdd, List.range, List.range.loop, fine, Nat.reduceEqDiff, ↓reduceIte, yielded, reduceCtorEq, Nat.reduceLT, Nat.reduceMul, Nat.reduceSub, one, Nat.reduceLeDiff, Aqa, y7_185, aq, ↓ap, qe0, qe1, qe2, ↓ld_O, ldO_some, ylK_undef, gateL_no, *, -hK, bne_self_eq_false]
  refine (show FnX _ _ _ _ _ _ from hlike).runs.mono ?_
  rintro _ HQ ⟨rfl, hHQ⟩
  rw [hHQ]; clear hHQ HQ hlike
  simp -implicitDefEqProofs (maxSteps := 3000000) (disch := first | omega | (simp only [qd] <;> omega)) only [xq, ↓xp, qc, Nat.reduceAdd, List.range, List.range.loop, fine, Nat.reduceEqDiff, ↓reduceIte, yielded, reduceCtorEq, Nat.reduceLT, Nat.reduceMul, Nat.reduceSub, one, Nat.reduceLeDiff, Aqa, y7_185, aq, ↓ap, qe0, qe1, qe2, ↓ld_O, ldO_some, ylK_undef, gateL_no, *, -hK]
  refine hK _ _ ?_; clear hK K
  (try simp only [nq, ↓reduceIte, Nat.reduceEqDiff])
  (refine Axy (by simp only [Aqm, Aqr, Nat.reduceEqDiff, Nat.reduceLT, ↓reduceIte]; rfl) ?_ ?_ <;> (intro hc; first | (cases hc; done) | skip))
  clear hu7 hbu hg7 hPl hB00
  clear e6 e10 e11 e12 e13 e14
  (refine @unH _ ?_; refine zA y7_185 ?_; (repeat (refine inC ?_; intro hc)); try (refine inK ?_; intro K hK))
  refine Axe (fun w a' H' => ∃ e c, w = ts.length - c /\ c <= ts.length /\ a' = act 160 e [] /\ e 3 = .pointer (some ⟨vb, 0, none⟩) /\ e 4 = .slice ta ts.length tc /\ e 7 = .slice (some ⟨bb, bo, none⟩) B.length bc /\ e 15 = .int .i64 (c : Nat) /\ H7.le H') (n := ts.length) ?_ ?_
  ·exact ⟨_, 0, by omega, by omega, rfl, e3, e4, e7, rfl, Hp.le_refl _⟩
  clear e3 e4 e7
  rintro w a' H8 ⟨e, c, rfl, hc4, rfl, e3, e4, e7, e15, l78⟩
  by_cases hcl : c < ts.length
  ·(refine @unH _ ?_; refine zA y7_185 ?_; (repeat (refine inC ?_; intro hc)); try (refine inK ?_; intro K hK))
   refine Axe (fun w a' H' => ∃ e p, w = pn - p /\ p <= pn /\ a' = act 160 e [] /\ e 3 = .pointer (some ⟨vb, 0, none⟩) /\ e 4 = .slice ta ts.length tc /\ e 7 = .slice (some ⟨bb, bo, none⟩) B.length bc /\ e 15 = .int .i64 (c : Nat) /\ e 16 = .int .i64 (p : Nat) /\ H7.le H') (n := pn) ?_ ?_
   ·exact ⟨_, 0, by omega, by omega, rfl, e3, e4, e7, e15, rfl, l78⟩
   clear e3 e4 e7 e15 l78
   rintro w a' H8 ⟨e, p, rfl, hp4, rfl, e3, e4, e7, e15, e16, l78⟩
   have vvb8 := l78 _ _ vvb7
   by_cases hpl : p < pn
   ·have hse := (show ∀ HX, _ -> ∀ (c p : Nat), _ from hsent)
    have hz : (B.take 0).countP (fun cs : List Int => cs.getD c 0 == (p : Int)) = 0 := rfl
    replace hse : Aqs _ := hse
    replace hz : Aqs _ := hz
    (refine @unH _ ?_; refine zA y7_185 ?_; (repeat (refine inC ?_; intro hc)); try (refine inK ?_; intro K hK))
    refine Axe (fun w a' H' => ∃ e i, w = B.length - i /\ i <= B.length /\ a' = act 160 e [] /\ e 3 = .pointer (some ⟨vb, 0, none⟩) /\ e 4 = .slice ta ts.length tc /\ e 7 = .slice (some ⟨bb, bo, none⟩) B.length bc /\ e 15 = .int .i64 (c : Nat) /\ e 16 = .int .i64 (p : Nat) /\ e 17 = .int .i64 ((B.take i).countP (fun cs : List Int => cs.getD c 0 == (p : Int)) : Nat) /\ e 18 = .int .i64 (i : Nat) /\ H7.le H') (n := B.length) ?_ ?_
    ·exact ⟨_, 0, by omega, by omega, rfl, e3, e4, e7, e15, e16, rfl, rfl, l78⟩
    clear e3 e4 e7 e15 e16 l78 vvb8
    rintro w a' H8 ⟨e, i, rfl, hi, rfl, e3, e4, e7, e15, e16, e17, e18, l78⟩
    by_cases hib : i < B.length
    ·have hbi := List.getElem?_eq_getElem hib
     have hcsl := (show ∀ c ∈ B, c.length = ts.length from hBm) B[i] (List.getElem_mem hib)
     generalize B[i] = cs at *
     have hst := countP_step (p := (fun cs : List Int => cs.getD c 0 == (p : Int))) hbi
     have hcb : (B.take i).countP (fun cs : List Int => cs.getD c 0 == (p : Int)) <= i := Nat.le_trans List.countP_le_length (by rw [List.length_take]; omega)
     have hcc2 : c < cs.length := by omega
     obtain ⟨b1, o1, q1', c1, f1, u1, h1a, h1b, h1c, h1d⟩ := SlR.get (hSB7.le l78) hbi
     cases h1a
     obtain ⟨x1, x2, rfl, _, _⟩ := id h1d
     have hcg := List.getElem?_eq_getElem hcc2
     obtain ⟨b2, o2, q2', c2, f2, h2a, h2b, h2c⟩ := h1d.get hcg
     subst h2a
     have hgd : cs.getD c 0 = cs[c] := by simp [List.getD, hcg]
     simp only [hgd] at hst
     generalize cs[c] = y at *
     have hcl3 : cs.length <= ts.length /\ ts.length <= cs.length := by omega
     clear hcsl hgd hcg hbi
     replace hcb : ((B.take i).countP (fun cs : List Int => cs.getD c 0 == (p : Int))) <= 2401 := by omega
     by_cases hyp : y = (p : Int)
     ·rw [if_pos (by simp [hyp])] at hst
      subst hyp
      replace hst : Aqs _ := hst
      generalize hcn : (B.take i).countP (fun cs : List Int => cs.getD c 0 == (p : Int)) = cn at *
      clear hcn
      (refine @unH _ ?_; refine zA y7_185 ?_; (repeat (refine inC ?_; intro hc)); try (refine inK ?_; intro K hK))
      refine ⟨B.length - (i + 1), by omega, _, i + 1, rfl, hib, rfl, e3, e4, e7, e15, e16, ?_, rfl, l78⟩
      rw [show (B.take (i + 1)).countP (fun cs : List Int => cs.getD c 0 == (p : Int)) = _ from hst]
      rfl
     ·rw [if_neg (by simpa using hyp)] at hst
      replace hst : Aqs _ := hst
      generalize hcn : (B.take i).countP (fun cs : List Int => cs.getD c 0 == (p : Int)) = cn at *
      clear hcn
      (refine @unH _ ?_; refine zA y7_185 ?_; (repeat (refine inC ?_; intro hc)); try (refine inK ?_; intro K hK))
      refine ⟨B.length - (i + 1), by omega, _, i + 1, rfl, hib, rfl, e3, e4, e7, e15, e16, ?_, rfl, l78⟩
      rw [show (B.take (i + 1)).countP (fun cs : List Int => cs.getD c 0 == (p : Int)) = _ from hst]
      exact e17
    ·obtain rfl : i = B.length := by omega
     rw [List.take_length] at e17
     have hd8 := hd7.le l78
     have vvb8 := l78 _ _ vvb7
     have hr := (show ∀ HX, _ -> ∀ (c p : Nat), _ from hse) H8 hd8 c p (by omega) (by omega) (by omega) (by omega)
     have hcb : B.countP (fun cs : List Int => cs.getD c 0 == (p : Int)) <= B.length := List.countP_le_length
     generalize hcn : B.countP (fun cs : List Int => cs.getD c 0 == (p : Int)) = cn at *
     clear hcn hse hsent hz
     have hcs3 : (cn = 0 /\ Dqk cn B.length = 2) ∨ (cn = B.length /\ ¬ cn = 0 /\ Dqk cn B.length = 1) ∨ (¬ cn = 0 /\ ¬ cn = B.length /\ Dqk cn B.length = 3) := by
      unfold Dqk
      by_cases h0 : cn = 0
      ·refine .inl ⟨h0, ?_⟩
       rw [if_neg (by omega), if_pos h0]
      ·by_cases h1 : cn = B.length
       ·refine .inr (.inl ⟨h1, h0, ?_⟩)
        rw [if_neg (by omega), if_neg h0]
       ·refine .inr (.inr ⟨h0, h1, ?_⟩)
        rw [if_pos (by omega)]
     rcases hcs3 with ⟨h0, hv⟩ | ⟨h1, h0, hv⟩ | ⟨h0, h1, hv⟩
     ·subst h0
      replace hv : Aqs _ := hv
      replace hr : Aqs _ := hr
      (refine @unH _ ?_; refine zA y7_185 ?_; (repeat (refine inC ?_; intro hc)); try (refine inK ?_; intro K hK))
      refine (show FnX _ _ _ _ _ _ from hr).runs.mono ?_
      rintro _ H9 ⟨rfl, l89⟩
      rw [show Dqk _ _ = _ from hv]
      have l79 := Hp.le_trans l78 l89
      clear hr hd8 vvb8 hv l89
      ((try (refine @unH _ ?_; refine zX y7_185 ?_)); (try (refine hK _ _ ?_; clear hK K; (try simp only [nq, ↓reduceIte, Nat.reduceEqDiff]))); refine @unH _ ?_; refine zA y7_185 ?_; (repeat (refine inC ?_; intro hc)); try (refine inK ?_; intro K hK))
      exact ⟨pn - (p + 1), by omega, _, p + 1, rfl, hpl, rfl, e3, e4, e7, e15, rfl, l79⟩
     ·subst h1
      replace hv : Aqs _ := hv
      replace hr : Aqs _ := hr
      have h0' : ¬ ((B.length : Int) = 0) := by omega
      (refine @unH _ ?_; refine zA y7_185 ?_; (repeat (refine inC ?_; intro hc)); try (refine inK ?_; intro K hK))
      refine (show FnX _ _ _ _ _ _ from hr).runs.mono ?_
      rintro _ H9 ⟨rfl, l89⟩
      rw [show Dqk _ _ = _ from hv]
      have l79 := Hp.le_trans l78 l89
      clear hr hd8 vvb8 hv l89
      ((try (refine @unH _ ?_; refine zX y7_185 ?_)); (try (refine hK _ _ ?_; clear hK K; (try simp only [nq, ↓reduceIte, Nat.reduceEqDiff]))); refine @unH _ ?_; refine zA y7_185 ?_; (repeat (refine inC ?_; intro hc)); try (refine inK ?_; intro K hK))
      exact ⟨pn - (p + 1), by omega, _, p + 1, rfl, hpl, rfl, e3, e4, e7, e15, rfl, l79⟩
     ·replace hv : Aqs _ := hv
      replace hr : Aqs _ := hr
      have h0' : ¬ ((cn : Int) = 0) := by omega
      have h1' : ¬ ((cn : Int) = (B.length : Int)) := by omega
      (refine @unH _ ?_; refine zA y7_185 ?_; (repeat (refine inC ?_; intro hc)); try (refine inK ?_; intro K hK))
      refine (show FnX _ _ _ _ _ _ from hr).runs.mono ?_
      rintro _ H9 ⟨rfl, l89⟩
      rw [show Dqk _ _ = _ from hv]
      have l79 := Hp.le_trans l78 l89
      clear hr hd8 vvb8 hv l89
      ((try (refine @unH _ ?_; refine zX y7_185 ?_)); (try (refine hK _ _ ?_; clear hK K; (try simp only [nq, ↓reduceIte, Nat.reduceEqDiff]))); refine @unH _ ?_; refine zA y7_185 ?_; (repeat (refine inC ?_; intro hc)); try (refine inK ?_; intro K hK))
      exact ⟨pn - (p + 1), by omega, _, p + 1, rfl, hpl, rfl, e3, e4, e7, e15, rfl, l79⟩
   ·obtain rfl : p = pn := by omega
    (refine @unH _ ?_; refine zA y7_185 ?_; (repeat (refine inC ?_; intro hc)); try (refine inK ?_; intro K hK))
    exact ⟨ts.length - (c + 1), by omega, _, c + 1, rfl, hcl, rfl, e3, e4, e7, rfl, l78⟩
  ·obtain rfl : c = ts.length := by omega
   (refine @unH _ ?_; refine zA y7_185 ?_; (repeat (refine inC ?_; intro hc)); try (refine inK ?_; intro K hK))
   refine (kept_spec H8).runs.mono ?_
   rintro _ H9 ⟨rfl, lH9⟩
   ((try (refine @unH _ ?_; refine zX y7_185 ?_)); (try (refine hK _ _ ?_; clear hK K; (try simp only [nq, ↓reduceIte, Nat.reduceEqDiff]))); refine @unH _ ?_; refine zA y7_185 ?_; (repeat (refine inC ?_; intro hc)); try (refine inK ?_; intro K hK))
   (refine Ax7 ?_; (try simp only [nq, ↓reduceIte, Nat.reduceEqDiff]); rw [Axw, Akz Tryz.results7 (by decide)]; simp only [Aqr, Nat.reduceEqDiff, ↓reduceIte])
end Go.Proofs.YtgniilnljeedlaaGreatDoor
end
