/- Texts SmT SmP SmFq SmFr SmFo. -/
import Derived.Test.YtnfnaehonkbknaaGreatDoorJ15
set_option linter.defProp false
set_option linter.unusedSimpArgs false
set_option linter.unusedVariables false
set_option maxRecDepth 100000
set_option maxHeartbeats 2000000
section
namespace Go.X
open Go
theorem Awo {α : Type} (f : α -> List Value) (n : Nat) (hn : 0 < n) : ∀ (L : List α), (∀ x ∈ L, (f x).length = n) -> ∀ j : Nat, (L.flatMap f)[j]? = (L[j / n]?).bind fun x => (f x)[j % n]?
 | [], _, j => by simp
 | x :: L, h, j => by
  rw [List.flatMap_cons]
  have hx := h x List.mem_cons_self
  by_cases hj : j < n
  ·rw [List.getElem?_append_left (by omega), Nat.div_eq_of_lt hj, Nat.mod_eq_of_lt hj]
   rfl
  ·rw [List.getElem?_append_right (by omega), hx, Awo f n hn L (fun y hy => h y (List.mem_cons_of_mem _ hy))]
   have h1 : j / n = (j - n) / n + 1 := by
    rw [Nat.div_eq_sub_div hn (by omega)]
   have h2 : j % n = (j - n) % n := by
    rw [Nat.mod_eq_sub_mod (by omega)]
   rw [h1, h2, List.getElem?_cons_succ]
theorem Ak9 {α : Type} (f : α -> List Value) (n : Nat) : ∀ (L : List α), (∀ x ∈ L, (f x).length = n) -> (L.flatMap f).length = L.length * n
 | [], _ => by simp
 | x :: L, h => by
  rw [List.flatMap_cons, List.length_append, h x List.mem_cons_self, Ak9 f n L (fun y hy => h y (List.mem_cons_of_mem _ hy)), List.length_cons, Nat.succ_mul, Nat.add_comm]
end Go.X
namespace Go.Proofs.YtnfnaehonkbknaaGreatDoor
open Go Go.X
def bdC (b : Bd) : List Value := [.int .i64 b.lo, .int .i64 b.hi, .bool b.some]
def Axn (x : Hint) : List Value := x.bs.flatMap bdC ++ (ints x.first ++ [.bool x.some])
def Aq4 (t : Trail) : List Value := .int .i64 t.ham :: t.hs.flatMap Axn
structure Axi (x : Hint) : Prop where
 b : x.bs.length = 6
 f : x.first.length = 6
structure Axw (t : Trail) : Prop where
 l : t.hs.length = 13
 k : ∀ x ∈ t.hs, Axi x
theorem Axs {x : Hint} (h : Axi x) : (Axn x).length = 25 := by
 unfold Axn
 rw [List.length_append, List.length_append, Ak9 bdC 3 _ (fun _ _ => rfl), Aq1, h.b, h.f]
 rfl
theorem Axm {t : Trail} (h : Axw t) : (Aq4 t).length = 326 := by
 unfold Aq4
 rw [List.length_cons, Ak9 Axn 25 _ (fun x hx => Axs (h.k x hx)), h.l]
theorem Bxo (x : Hint) : ∀ v ∈ Axn x, one v = true := by
 intro v hv
 unfold Axn at hv
 rw [List.mem_append, List.mem_append] at hv
 rcases hv with hv | hv | hv
 ·obtain ⟨b, _, hb⟩ := List.mem_flatMap.1 hv
  simp only [bdC, List.mem_cons, List.not_mem_nil, or_false] at hb
  rcases hb with rfl | rfl | rfl <;> rfl
 ·exact Bq5 _ v hv
 ·simp only [List.mem_singleton] at hv
  subst hv; rfl
theorem Ay6 (t : Trail) : ∀ v ∈ Aq4 t, one v = true := by
 intro v hv
 unfold Aq4 at hv
 rcases List.mem_cons.1 hv with rfl | hv
 ·rfl
 ·obtain ⟨x, _, hx⟩ := List.mem_flatMap.1 hv
  exact Bxo x v hx
theorem Av5 {x : Hint} (h : Axi x) : ∃ b0 b1 b2 b3 b4 b5 f0 f1 f2 f3 f4 f5 s, x = ⟨[b0, b1, b2, b3, b4, b5], [f0, f1, f2, f3, f4, f5], s⟩ := by
 obtain ⟨bs, fs, s⟩ := x
 obtain ⟨hb, hf⟩ := h
 simp only at hb hf
 match bs, hb with
 | [b0, b1, b2, b3, b4, b5], _ =>
  match fs, hf with
  | [f0, f1, f2, f3, f4, f5], _ => exact ⟨b0, b1, b2, b3, b4, b5, f0, f1, f2, f3, f4, f5, s, rfl⟩
theorem Cxc {x : Hint} (h : Axi x) : (Axn x)[24]? = some (.bool x.some) := by
 obtain ⟨b0, b1, b2, b3, b4, b5, f0, f1, f2, f3, f4, f5, s, rfl⟩ := Av5 h
 rfl
theorem Ayb {x : Hint} (h : Axi x) {p : Nat} {b : Bd} (hb : x.bs[p]? = some b) : (Axn x)[p * 3]? = some (.int .i64 b.lo) /\ (Axn x)[p * 3 + 1]? = some (.int .i64 b.hi) /\ (Axn x)[p * 3 + 2]? = some (.bool b.some) := by
 have hp : p < 6 := by have := (List.getElem?_eq_some_iff.1 hb).1; rw [h.b] at this; exact this
 obtain ⟨b0, b1, b2, b3, b4, b5, f0, f1, f2, f3, f4, f5, s, rfl⟩ := Av5 h
 rcases (by omega : p = 0 ∨ p = 1 ∨ p = 2 ∨ p = 3 ∨ p = 4 ∨ p = 5) with rfl | rfl | rfl | rfl | rfl | rfl <;> (cases hb; exact ⟨rfl, rfl, rfl⟩)
theorem Cky {x : Hint} (h : Axi x) {p : Nat} (hp : p < 6) (b : Bd) : Axn ⟨x.bs.set p b, x.first, x.some⟩ = (((Axn x).set (p * 3) (.int .i64 b.lo)).set (p * 3 + 1) (.int .i64 b.hi)).set (p * 3 + 2) (.bool b.some) := by
 obtain ⟨b0, b1, b2, b3, b4, b5, f0, f1, f2, f3, f4, f5, s, rfl⟩ := Av5 h
 rcases (by omega : p = 0 ∨ p = 1 ∨ p = 2 ∨ p = 3 ∨ p = 4 ∨ p = 5) with rfl | rfl | rfl | rfl | rfl | rfl <;> rfl
theorem Byl {x : Hint} (h : Axi x) {d : List Int} (hd : d.length = 6) (s : Bool) (k : Nat) : (Axn ⟨x.bs, d, s⟩)[k]? = if k < 18 then (Axn x)[k]? else if k < 24 then (ints d)[k - 18]? else if k = 24 then some (.bool s) else none := by
 have hl : (x.bs.flatMap bdC).length = 18 := by rw [Ak9 bdC 3 _ (fun _ _ => rfl), h.b]
 unfold Axn
 simp only
 by_cases h1 : k < 18
 ·rw [if_pos h1, List.getElem?_append_left (by omega), List.getElem?_append_left (by omega)]
 ·rw [if_neg h1, List.getElem?_append_right (by omega), hl]
  by_cases h2 : k < 24
  ·rw [if_pos h2, List.getElem?_append_left (by rw [Aq1]; omega)]
  ·rw [if_neg h2, List.getElem?_append_right (by rw [Aq1]; omega), Aq1, hd]
   by_cases h3 : k = 24
   ·subst h3; rfl
   ·rw [if_neg h3, List.getElem?_eq_none (by simp; omega)]
structure HR (c c0 : Array Value) (o : Nat) (x : Hint) : Prop where
 size : c.size = c0.size
 out : ∀ i, i < o ∨ o + 25 <= i -> c[i]? = c0[i]?
 inn : ∀ k, k < 25 -> c[o + k]? = (Axn x)[k]?
theorem HR.bd {c c0 : Array Value} {o : Nat} {x : Hint} (h : HR c c0 o x) (hx : Axi x) {p : Nat} {b : Bd} (hb : x.bs[p]? = some b) : BdC c (o + p * 3) b := by
 have hp : p < 6 := by have := (List.getElem?_eq_some_iff.1 hb).1; rw [hx.b] at this; exact this
 obtain ⟨h1, h2, h3⟩ := Ayb hx hb
 refine ⟨?_, ?_, ?_⟩
 ·rw [h.inn _ (by omega), h1]
 ·rw [Nat.add_assoc, h.inn _ (by omega), h2]
 ·rw [Nat.add_assoc, h.inn _ (by omega), h3]
theorem HR.sm {c c0 : Array Value} {o : Nat} {x : Hint} (h : HR c c0 o x) (hx : Axi x) : c[o + 24]? = some (.bool x.some) := by
 rw [h.inn 24 (by omega), Cxc hx]
theorem HR.add {c c0 : Array Value} {o : Nat} {x : Hint} (h : HR c c0 o x) (hx : Axi x) (hs : o + 25 <= c0.size) {p : Nat} (hp : p < 6) (b : Bd) : HR (Bzk c (o + p * 3) b) c0 o ⟨x.bs.set p b, x.first, x.some⟩ := by
 have hsz : o + p * 3 + 2 < c.size := by rw [h.size]; omega
 refine ⟨by rw [Cx4]; exact h.size, fun i hi => ?_, fun k hk => ?_⟩
 ·rw [Aw6 hsz, if_neg (by omega), if_neg (by omega), if_neg (by omega)]
  exact h.out i hi
 ·have hl := Axs hx
  rw [Aw6 hsz, Cky hx hp, h.inn k hk]
  simp only [List.getElem?_set, List.length_set, hl]
  by_cases e2 : k = p * 3 + 2
  ·rw [if_neg (by omega), if_neg (by omega), if_pos (by omega), if_pos e2.symm, if_pos (by omega)]
  ·rw [if_neg (Ne.symm e2)]
   by_cases e1 : k = p * 3 + 1
   ·rw [if_neg (by omega), if_pos (by omega), if_pos e1.symm, if_pos (by omega)]
   ·rw [if_neg (Ne.symm e1)]
    by_cases e0 : k = p * 3
    ·rw [if_pos (by omega), if_pos e0.symm, if_pos (by omega)]
    ·rw [if_neg (by omega), if_neg (by omega), if_neg (by omega), if_neg (Ne.symm e0)]
theorem HR.set1 {c c0 : Array Value} {o : Nat} {x : Hint} (h : HR c c0 o x) (hx : Axi x) (hs : o + 25 <= c0.size) {d : List Int} (hd : d.length = 6) : HR (over (c.setIfInBounds (o + 24) (.bool true)) (o + 18) (ints d)) c0 o ⟨x.bs, d, true⟩ := by
 have hsz : (c.setIfInBounds (o + 24) (.bool true)).size = c0.size := by rw [Array.size_setIfInBounds, h.size]
 refine ⟨by rw [Azi]; exact hsz, fun i hi => ?_, fun k hk => ?_⟩
 ·by_cases hi2 : i < c0.size
  ·rw [Ajn i (by rw [hsz]; exact hi2), if_neg (by rw [Aq1, hd]; omega), Array.getElem?_setIfInBounds, if_neg (by omega)]
   exact h.out i hi
  ·rw [Array.getElem?_eq_none (by rw [Azi, hsz]; omega), Array.getElem?_eq_none (by omega)]
 ·rw [Ajn (o + k) (by rw [hsz]; omega), Byl hx hd, Aq1, hd]
  by_cases h1 : k < 18
  ·rw [if_neg (by omega), if_pos h1, Array.getElem?_setIfInBounds, if_neg (by omega), h.inn k hk]
  ·rw [if_neg h1]
   by_cases h2 : k < 24
   ·rw [if_pos (by omega), if_pos h2, show o + k - (o + 18) = k - 18 by omega]
    simp [List.getD, List.getElem?_eq_getElem (show k - 18 < (ints d).length by rw [Aq1]; omega)]
   ·obtain rfl : k = 24 := by omega
    rw [if_neg (by omega), if_neg h2, if_pos rfl, Array.getElem?_setIfInBounds, if_pos rfl, if_pos (by rw [h.size]; omega)]
theorem HR.refl {t : Trail} (ht : Axw t) {h : Nat} {x : Hint} (hx : t.hs[h]? = some x) : HR (Aq4 t).toArray (Aq4 t).toArray (1 + h * 25) x := by
 refine ⟨rfl, fun _ _ => rfl, fun k hk => ?_⟩
 simp only [List.getElem?_toArray]
 unfold Aq4
 rw [show 1 + h * 25 + k = (h * 25 + k) + 1 by omega, List.getElem?_cons_succ, Awo Axn 25 (by omega) _ (fun x hx => Axs (ht.k x hx)), show (h * 25 + k) / 25 = h by omega, show (h * 25 + k) % 25 = k by omega, hx]
 rfl
theorem HR.done {t : Trail} (ht : Axw t) {h : Nat} (hh : h < 13) {x : Hint} (hxo : Axi x) {c : Array Value} (hc : HR c (Aq4 t).toArray (1 + h * 25) x) : c = (Aq4 ⟨t.ham, t.hs.set h x⟩).toArray := by
 have hl := Axm ht
 have ht2 : Axw ⟨t.ham, t.hs.set h x⟩ := ⟨by simp [ht.l], fun y hy => by
  rcases List.mem_or_eq_of_mem_set hy with h | h
  ·exact ht.k y h
  ·subst h; exact hxo⟩
 apply Array.ext_getElem?
 intro i
 by_cases hi : 1 + h * 25 <= i /\ i < 1 + h * 25 + 25
 ·have h1 := hc.inn (i - (1 + h * 25)) (by omega)
  rw [show 1 + h * 25 + (i - (1 + h * 25)) = i by omega] at h1
  rw [h1]
  simp only [List.getElem?_toArray]
  unfold Aq4
  rw [show i = (h * 25 + (i - (1 + h * 25))) + 1 by omega, List.getElem?_cons_succ, Awo Axn 25 (by omega) _ (fun x hx => Axs (ht2.k x hx)), show (h * 25 + (i - (1 + h * 25))) / 25 = h by omega, show (h * 25 + (i - (1 + h * 25))) % 25 = i - (1 + h * 25) by omega]
  simp only [List.getElem?_set_self (show h < t.hs.length by rw [ht.l]; exact hh)]
  rw [show h * 25 + (i - (1 + h * 25)) + 1 - (1 + h * 25) = i - (1 + h * 25) by omega]
  rfl
 ·rw [hc.out i (by omega)]
  simp only [List.getElem?_toArray]
  unfold Aq4
  cases i with
  | zero => rfl
  | succ i =>
   rw [List.getElem?_cons_succ, List.getElem?_cons_succ, Awo Axn 25 (by omega) _ (fun x hx => Axs (ht.k x hx)), Awo Axn 25 (by omega) _ (fun x hx => Axs (ht2.k x hx))]
   rw [List.getElem?_set_ne (by omega)]
theorem Bwe {t : Trail} (h : Axw t) : (Aq4 t).toArray.extract 0 326 = (Aq4 t).toArray := by
 rw [List.extract_toArray, List.extract_eq_take_drop, List.drop_zero, List.take_of_length_le (by rw [Axm h]; omega)]
theorem Awx {H : Hp} {b : Nat} {t : Trail} {c : Array Value} {e : TypeId} {K : Hp -> Prop} (ht : Axw t) (hb : H b = some (true, .cells c e (0, 0))) (hs : c.size = 326) : Akd H b 0 (Aq4 t) K = K (H.set b (.cells (Aq4 t).toArray e (0, 0))) := by
 have hl := Axm ht
 rw [Aj5 (c := c) (e := e) (by intro h; rw [h] at hl; simp at hl) hb]
 have ho : over c 0 (Aq4 t) = (Aq4 t).toArray := by
  obtain ⟨l⟩ := c
  exact Ayj (by simp at hs; omega)
 rw [ho]
 have h3 : (Aq4 t).all one = true := by rw [List.all_eq_true]; exact Ay6 t
 rw [h3]
 simp [hl, hs]
end Go.Proofs.YtnfnaehonkbknaaGreatDoor
end
section
namespace Go.Proofs.YtnfnaehonkbknaaGreatDoor
open Go Go.X
theorem Cxb : Axi Bvp := ⟨rfl, rfl⟩
theorem Ayy {pl b : Int} {x : Hint} {tc : List Int × List Int} (h : Axi x) (ht : tc.1.length = 6) : Axi (Ax5 pl b x tc) := by
 refine ⟨by simp [Ax5, h.b], ?_⟩
 unfold Ax5
 simp only
 split
 ·exact h.f
 ·exact ht
theorem Bxp {pl b : Int} : ∀ (L : List (List Int × List Int)) (x : Hint), Axi x -> (∀ tc ∈ L, tc.1.length = 6) -> Axi (L.foldl (Ax5 pl b) x)
 | [], _, h, _ => h
 | tc :: L, x, h, ht => Bxp L _ (Ayy h (ht tc List.mem_cons_self)) fun y hy => ht y (List.mem_cons_of_mem _ hy)
theorem Cyn {s : Sm} {L : List (List Int × List Int)} {b : Int} (h : ∀ tc ∈ L, tc.1.length = 6) : Axi (Bqv s L b) := Bxp _ _ Cxb fun tc htc => h tc (List.mem_filter.1 htc).1
theorem Cjy {s : Sm} {L : List (List Int × List Int)} (h : ∀ tc ∈ L, tc.1.length = 6) (ham : Int) : Axw ⟨ham, byL s L⟩ := by
 refine ⟨by simp [byL], fun x hx => ?_⟩
 simp only [byL, List.mem_map] at hx
 obtain ⟨b, _, rfl⟩ := hx
 exact Cyn h
def Azs (pl : Int) (tc : List Int × List Int) (lo b : Int) (hs : List Hint) : List Hint := hs.mapIdx fun i x => if lo <= (i : Int) /\ (i : Int) < b then Ax5 pl i x tc else x
theorem Bz5 (pl : Int) (tc : List Int × List Int) (lo b : Int) (hs : List Hint) : (Azs pl tc lo b hs).length = hs.length := by simp [Azs]
theorem Bz4 {pl : Int} {tc : List Int × List Int} {lo b : Int} {hs : List Hint} {i : Nat} {x : Hint} (h : hs[i]? = some x) : (Azs pl tc lo b hs)[i]? = some (if lo <= (i : Int) /\ (i : Int) < b then Ax5 pl i x tc else x) := by simp [Azs, h]
theorem Awp (pl : Int) (tc : List Int × List Int) {lo b : Int} (h : b <= lo) (hs : List Hint) : Azs pl tc lo b hs = hs := by
 apply List.ext_getElem?
 intro i
 unfold Azs
 rw [List.getElem?_mapIdx]
 cases hs[i]? with
 | none => rfl
 | some x => rw [Option.map_some, if_neg (by omega)]
theorem Byn {pl : Int} {tc : List Int × List Int} {lo : Int} {b : Nat} {hs : List Hint} {x : Hint} (hx : hs[b]? = some x) (hlo : lo <= (b : Int)) : Azs pl tc lo ((b : Int) + 1) hs = (Azs pl tc lo b hs).set b (Ax5 pl b x tc) := by
 apply List.ext_getElem?
 intro i
 have hl : b < (Azs pl tc lo b hs).length := by rw [Bz5]; exact (List.getElem?_eq_some_iff.1 hx).1
 by_cases h : i = b
 ·subst h
  rw [Bz4 hx, List.getElem?_set_self hl, if_pos ⟨hlo, by omega⟩]
 ·rw [List.getElem?_set_ne (Ne.symm h)]
  unfold Azs
  rw [List.getElem?_mapIdx, List.getElem?_mapIdx]
  cases hs[i]? with
  | none => rfl
  | some y =>
   simp only [Option.map_some, Option.some.injEq]
   by_cases h1 : lo <= (i : Int) /\ (i : Int) < (b : Int)
   ·rw [if_pos h1, if_pos (by omega)]
   ·rw [if_neg h1, if_neg (by omega)]
theorem Cwj {s : Sm} {L : List (List Int × List Int)} {tc : List Int × List Int} {lo hi : Int} (h : begN s.noses tc.2 0 12 = some (lo, hi)) : byL s (L ++ [tc]) = Azs s.places tc lo (hi + 1) (byL s L) := by
 apply List.ext_getElem?
 intro i
 unfold Azs byL
 rw [List.getElem?_mapIdx, List.getElem?_map, List.getElem?_map]
 cases hr : (List.range 13)[i]? with
 | none => rfl
 | some b =>
  obtain rfl : b = i := by
   obtain ⟨_, h2⟩ := List.getElem?_eq_some_iff.1 hr
   rw [List.getElem_range] at h2
   exact h2.symm
  simp only [Option.map_some, Option.some.injEq]
  unfold Bqv
  rw [List.filter_append]
  have hf : fitB s.noses tc.2 (b : Int) = decide (lo <= (b : Int) /\ (b : Int) <= hi) := by unfold fitB; rw [h]
  by_cases hin : lo <= (b : Int) /\ (b : Int) < hi + 1
  ·rw [if_pos hin]
   have : [tc].filter (fun tc => fitB s.noses tc.2 (b : Int)) = [tc] := by simp [hf]; omega
   rw [this, List.foldl_append]
   rfl
  ·rw [if_neg hin]
   have : [tc].filter (fun tc => fitB s.noses tc.2 (b : Int)) = [] := by simp [hf]; omega
   rw [this, List.append_nil]
theorem Cwi {s : Sm} {L : List (List Int × List Int)} {tc : List Int × List Int} (h : begN s.noses tc.2 0 12 = none) : byL s (L ++ [tc]) = byL s L := by
 unfold byL
 congr 1
 funext b
 unfold Bqv
 rw [List.filter_append]
 have hf : fitB s.noses tc.2 (b : Int) = false := by unfold fitB; rw [h]
 have : [tc].filter (fun tc => fitB s.noses tc.2 (b : Int)) = [] := by simp [hf]
 rw [this, List.append_nil]
theorem Ck1 {pl : Int} {tc : List Int × List Int} (ht : tc.1.length = 6) {lo b : Int} {hs : List Hint} {ham : Int} (h : Axw ⟨ham, hs⟩) : Axw ⟨ham, Azs pl tc lo b hs⟩ := by
 refine ⟨by rw [Bz5]; exact h.l, fun x hx => ?_⟩
 simp only [Azs, List.mem_mapIdx] at hx
 obtain ⟨i, hi, rfl⟩ := hx
 have := h.k _ (List.getElem_mem hi)
 split
 ·exact Ayy this ht
 ·exact this
def Awj (pl b : Int) (x : Hint) (tc : List Int × List Int) (k : Nat) : Hint := ⟨x.bs.mapIdx fun p w => if p < k /\ (p : Int) < pl then Ax0 w (min 99 (b + gI tc.2 p)) else w, if x.some then x.first else tc.1, true⟩
theorem Bz3 (pl b : Int) (x : Hint) (tc : List Int × List Int) : Awj pl b x tc 0 = ⟨x.bs, if x.some then x.first else tc.1, true⟩ := by
 unfold Awj
 congr 1
 apply List.ext_getElem?
 intro i
 rw [List.getElem?_mapIdx]
 cases x.bs[i]? with
 | none => rfl
 | some w => rw [Option.map_some, if_neg (by omega)]
theorem Ck0 {pl b : Int} {x : Hint} {tc : List Int × List Int} {k : Nat} {w : Bd} (h : x.bs[k]? = some w) : (Awj pl b x tc k).bs[k]? = some w := by
 unfold Awj
 simp only
 rw [List.getElem?_mapIdx, h, Option.map_some, if_neg (by omega)]
theorem Czo {pl b : Int} {x : Hint} {tc : List Int × List Int} {k : Nat} {w : Bd} (h : x.bs[k]? = some w) (hk : (k : Int) < pl) : Awj pl b x tc (k + 1) = ⟨(Awj pl b x tc k).bs.set k (Ax0 w (min 99 (b + gI tc.2 k))), (Awj pl b x tc k).first, (Awj pl b x tc k).some⟩ := by
 have hl : k < x.bs.length := (List.getElem?_eq_some_iff.1 h).1
 unfold Awj
 congr 1
 apply List.ext_getElem?
 intro i
 by_cases e : i = k
 ·subst e
  rw [List.getElem?_mapIdx, h, Option.map_some, if_pos ⟨by omega, hk⟩, List.getElem?_set_self (by simpa using hl)]
 ·rw [List.getElem?_set_ne (Ne.symm e), List.getElem?_mapIdx, List.getElem?_mapIdx]
  cases x.bs[i]? with
  | none => rfl
  | some y =>
   simp only [Option.map_some, Option.some.injEq]
   by_cases h1 : i < k /\ (i : Int) < pl
   ·rw [if_pos h1, if_pos (by omega)]
   ·rw [if_neg h1, if_neg (by omega)]
theorem Ckz {pl b : Int} {x : Hint} {tc : List Int × List Int} {k : Nat} (hk : pl <= (k : Int)) : Awj pl b x tc k = Ax5 pl b x tc := by
 unfold Awj Ax5
 congr 1
 apply List.ext_getElem?
 intro i
 rw [List.getElem?_mapIdx, List.getElem?_mapIdx]
 cases x.bs[i]? with
 | none => rfl
 | some y =>
  simp only [Option.map_some, Option.some.injEq]
  by_cases h1 : (i : Int) < pl
  ·rw [if_pos h1, if_pos ⟨by omega, h1⟩]
  ·rw [if_neg h1, if_neg (by omega)]
theorem Cxd {pl b : Int} {x : Hint} {tc : List Int × List Int} (h : Axi x) (ht : tc.1.length = 6) (k : Nat) : Axi (Awj pl b x tc k) := by
 refine ⟨by simp [Awj, h.b], ?_⟩
 unfold Awj
 simp only
 split
 ·exact h.f
 ·exact ht
end Go.Proofs.YtnfnaehonkbknaaGreatDoor
end
section
namespace Go.Proofs.YtnfnaehonkbknaaGreatDoor
open Go Go.X Go.Proofs.Tryz
def Cqu := aN @Dwj @Bjw
theorem Aj8 (main : Md) (H : Hp) (pl : Int) (da : Option Addr) (dn dc : Nat) (ha : Option Addr) (hn kc : Nat) (na : Option Addr) (nn nc : Nat) :
  FnX Tryz.prog main 67 #[smV pl (.slice da dn dc) (.slice ha hn kc) (.slice na nn nc)] H fun e H' => ∃ hb mb, e = .returned (.pointer (some ⟨hb, 0, none⟩)) /\ H' hb = some (true, hsO pl (.slice da dn dc) (.slice ha hn kc) (.slice na nn nc) mb) /\ H' mb = some (true, .map #[] 0) /\ H hb = none /\ H mb = none /\ H.le H' := by
 refine Aql func67 rfl ntmps67 (by simp) ?_
 (refine @unH _ (zA Cqu ?_); (try clear hK K); intro K hK hc)
 (intro sb hsb; generalize hG : Hp.set _ sb _ = H1; have lH1 := Aqc hG hsb; have vsb := Aqb hG; clear hG)
 (refine @unH _ (zU Cqu ?_); (try clear hK K); intro K hK hc)
 intro mb hmb hb hhb
 replace hhb : (Hp.set H1 mb (.map #[] 0)) hb = none := hhb
 generalize hG : Hp.set H1 mb _ = H2 at hhb ⊢
 have lH2 := Aqc hG hmb
 have vmb := Aqb hG
 clear hG
 generalize hG : Hp.set H2 hb _ = H3
 have lH3 := Aqc hG hhb
 have vhb := Aqb hG
 clear hG
 (refine @unH _ (zU Cqu ?_); (try clear hK K); intro K hK hc)
 (refine @unH _ ?_; refine z9 results67 ?_)
 exact ⟨hb, mb, rfl, vhb, lH3 _ _ vmb, Hp.le_none (Hp.le_trans lH1 lH2) hhb, Hp.le_none lH1 hmb, Hp.le_trans lH1 (Hp.le_trans lH2 lH3)⟩
def FolS (H3 : Hp) (sb ib rb : Nat) (pl : Int) (dv hv nv : Value) (t0 : Trail) (e : Nat -> Value) (H' : Hp) : Prop :=
 ∃ hb mb pb tb, e 2 = .pointer (some ⟨sb, 0, none⟩) /\ e 3 = .pointer (some ⟨ib, 0, none⟩) /\ e 4 = .pointer (some ⟨rb, 0, none⟩) /\ e 5 = .pointer (some ⟨pb, 0, none⟩) /\ e 6 = .pointer (some ⟨tb, 0, none⟩) /\ H3.le H' /\ (H3 hb = none /\ H3 mb = none /\ H3 pb = none /\ H3 tb = none) /\
  H' hb = some (true, hsO pl dv hv nv mb) /\ H' mb = some (true, .map #[] 0) /\ H' pb = some (true, .cells #[.pointer (some ⟨hb, 0, none⟩)] 115 (0, 0)) /\ H' tb = some (true, .cells (Aq4 t0).toArray 127 (0, 0))
theorem Bw0 {H : Hp} (p : Int) (xs : List Int) (h : xs.length = 6) (K : Value -> Hp -> Prop) (E : Value -> Hp -> Prop) : wpS Tryz.prog (Instr.build 120 #[(0, .int .i64 p), (1, .agg (ints xs).toArray)]) H K E = K (.agg (.int .i64 p :: ints xs).toArray) H := by
 obtain ⟨x0, x1, x2, x3, x4, x5, rfl⟩ := Bx2 xs h
 exact Aj0 H .i64 p .i64 x0 .i64 x1 .i64 x2 .i64 x3 .i64 x4 .i64 x5 K E
def RdS (Hb : Hp) (sb pb tb xb mb : Nat) (ds : List Dr) (c : List Int) (e : Nat -> Value) (H' : Hp) : Prop :=
 ∃ cb, e 2 = .pointer (some ⟨sb, 0, none⟩) /\ e 5 = .pointer (some ⟨pb, 0, none⟩) /\ e 6 = .pointer (some ⟨tb, 0, none⟩) /\ e 7 = .pointer (some ⟨xb, 0, none⟩) /\ e 8 = .pointer (some ⟨cb, 0, none⟩) /\
  H' cb = some (true, .cells (ints c).toArray 117 (0, 0)) /\ Az5 ds mb H' /\ ∀ b x, b ≠ mb -> Hb b = some x -> H' b = some x
theorem SmIn.mv {H H' : Hp} {dv hv nv : Value} {s : Sm} (h : SmIn H dv hv nv s) (hl : ∀ x p c t fr, (t = 66 ∨ t = 3 ∨ t = 46) -> H x = some (p, .cells c t fr) -> H' x = some (p, .cells c t fr)) : SmIn H' dv hv nv s :=
 ⟨h.dd.move fun x p c fr hx => ⟨p, hl x p c _ fr (.inl rfl) hx⟩, h.hh.move fun x p c fr hx => hl x p c _ fr (.inr (.inl rfl)) hx, h.nn.move fun x p c fr hx => ⟨p, hl x p c _ fr (.inr (.inr rfl)) hx⟩⟩
def prF (s : Sm) (p : Int) (L : List (List Int)) : List (List Int × List Int) := L.map fun t => (t, Axf s.doors p t)
def Axa := aN @Dwy (aN @Dwj (aN @Bw7 (aN @Dwc (aN @Bxg (aN @Dww (aN @Dyk (aN @Dwq (aN @Dv6 (aN @Cj4 (aN @Dw7 (aN @Dwv (aN @Dvp (aN @Dv9 (aN @Dw8 (aN @Dwn (aN @Aj0 (aN @Bw8 (aN @Dwx (aN @Dwp (aN @Dwf (aN @Cj5 (aN @Dvk (aN @Dve (aN @Dv3 (aN @Dwd (aN @Dvb (aN @Dv2 (aN @Dvn (aN @Dv1 (aN @Dvf (aN @Dvc (aN @Bxt @Dwh))))))))))))))))))))))))))))))))
def folT (H6 : Hp) (s : Sm) (p : Int) (ham : Int) (l r mb tb : Nat) (lo : Loop) (t : Bool) (L : List (List Int)) (H : Hp) : Prop :=
 t = true /\ H l = some (true, .loop lo) /\ H r = some (true, .deferred (some [])) /\ Az5 s.doors mb H /\ H tb = some (true, .cells (Aq4 ⟨ham, byL s (prF s p L)⟩).toArray 127 (0, 0)) /\
  (∀ x ∈ L, x.length = 6) /\ ∀ b x, b ≠ l -> b ≠ r -> b ≠ mb -> b ≠ tb -> H6 b = some x -> H b = some x
theorem Cyd (main : Md) (H3 H4 : Hp) (sb ib rb : Nat) (s : Sm) (ok : SmOk s) (i : Nat) (p : Int) (hi : s.hampers[i]? = some p) (da : Option Addr) (dc : Nat) (ha : Option Addr) (kc : Nat) (na : Option Addr) (nc : Nat)
  (hs : SmIn H3 (.slice da s.doors.length dc) (.slice ha s.hampers.length kc) (.slice na s.noses.length nc) s)
  (vs : H3 sb = some (true, smO s.places (.slice da s.doors.length dc) (.slice ha s.hampers.length kc) (.slice na s.noses.length nc))) (vi : H3 ib = some (true, .cells #[.int .i64 i] 3 (0, 0))) (z : Array Value) (hz : z.size = 326) (vr : H3 rb = some (true, .cells z 127 (0, 0)))
  (e : Nat -> Value) (hF : FolS H3 sb ib rb s.places (.slice da s.doors.length dc) (.slice ha s.hampers.length kc) (.slice na s.noses.length nc) ⟨i, List.replicate 13 Bvp⟩ e H4) (R : Ending -> Hp -> Prop)
  (hR : Aqo (∀ H', (∀ b x, b ≠ rb -> H3 b = some x -> H' b = some x) -> R (.returned (.agg (Aq4 (Azk s i)).toArray)) H')) :
  wpX Tryz.prog main none (sdC (sdC ((Tryz.f78).body.getD .skip))) (Bva Tryz.prog main Tryz.f78 R) (act 83 e []) H4 := by
 obtain ⟨hb, mb, pb, tb, e2, e3, e4, e5, e6, l34, ⟨n0h, n0m, n0p, n0t⟩, vh, vm, vp, vt⟩ := hF
 show wpX _ _ _ (.seq _ _) _ _ _
 refine Axy ?_
 (refine @unH _ (zA Axa ?_); (try clear hK K); intro K hK hc)
 refine (Czd main H4 hb).runs.mono ?_
 rintro _ H5 ⟨thisb, rfl, vth, l45, n4th⟩
 have vh5 := l45 _ _ vh
 have vm5 := l45 _ _ vm
 have vp5 := l45 _ _ vp
 have vt5 := l45 _ _ vt
 have l35 := Hp.le_trans l34 l45
 have hs5 := hs.le l35
 have vs5 := l35 _ _ vs
 have vi5 := l35 _ _ vi
 have vr5 := l35 _ _ vr
 clear vh vm vp vt l34 l45 hs vs vi
 (refine @unH _ (zU Axa ?_); (try clear hK K); intro K hK hc)
 refine Bjl (fun e => e 2 = .pointer (some ⟨sb, 0, none⟩) /\ e 3 = .pointer (some ⟨ib, 0, none⟩) /\ e 4 = .pointer (some ⟨rb, 0, none⟩) /\ e 5 = .pointer (some ⟨pb, 0, none⟩) /\ e 6 = .pointer (some ⟨tb, 0, none⟩) /\ e 21 = .func (.func 112) #[] #[.pointer (some ⟨thisb, 0, none⟩)]) ⟨e2, e3, e4, e5, e6, rfl⟩ ?_
 clear e2 e3 e4 e5 e6
 rintro e ⟨e2, e3, e4, e5, e6, e21⟩
 refine Cjh (g := 112) (fi := #[]) (cap := #[.pointer (some ⟨thisb, 0, none⟩)]) (by rw [Aq6 (by omega), e21]) (by omega) (fun _ _ _ _ => Cwk _ _ _) (fun r l lo hr hl hlo1 hlo2 hround => ?_)
 have hlr : r ≠ l := fun e => by rw [<- e, Axp] at hl; cases hl
 have hnl : H5 l = none := by
  rw [Aqv (Ne.symm hlr)] at hl; exact hl
 have hloe : ({ ({ lo with state := LoopState.busy } : Loop) with state := .ready, pending := none } : Loop) = lo := by
  cases lo; simp only [] at hlo1 hlo2; subst hlo1 hlo2; rfl
 generalize hG : Hp.set (Hp.set H5 r (.deferred (some []))) l (.loop lo) = H6
 have l56 : H5.le H6 := fun b x hx => by rw [<- hG]; exact Hp.le_set hl _ _ (Hp.le_set hr _ _ hx)
 have vl6 : H6 l = some (true, .loop lo) := by rw [<- hG, Axp]
 have vr6 : H6 r = some (true, .deferred (some [])) := by rw [<- hG, Aqv hlr, Axp]
 clear hG
 have nrl : ∀ b x, H5 b = some x -> b ≠ l /\ b ≠ r := fun b x hx => ⟨fun e => (by rw [e, hnl] at hx; cases hx), fun e => (by rw [e, hr] at hx; cases hx)⟩
 have vh6 := l56 _ _ vh5
 have vm6 := l56 _ _ vm5
 have vp6 := l56 _ _ vp5
 have vt6 := l56 _ _ vt5
 have hs6 := hs5.le l56
 have vs6 := l56 _ _ vs5
 have vi6 := l56 _ _ vi5
 have vth6 := l56 _ _ vth
 have hC : Cjj Tryz.prog main (.func (.yield l) #[] #[]) (fun b => H6 b ≠ none) (fun H v xs => v = .agg (ints xs).toArray) (fun xs => xs.length = 6 /\ TsOk s.doors xs) (folT H6 s p i l r mb tb lo) := by
  have hn : ∀ b x, H6 b = some x -> H6 b ≠ none := fun b x h => by rw [h]; simp
  refine ⟨?_, ?_, ?_⟩
  ·rintro t L H H' ⟨h0, h1, h2, h3, h4, h5, h6⟩ hk
   refine ⟨h0, hk _ _ (hn _ _ vl6) h1, hk _ _ (hn _ _ vr6) h2, ?_, hk _ _ (hn _ _ vt6) h4, h5, fun b x g1 g2 g3 g4 hx => hk _ _ (hn _ _ hx) (h6 b x g1 g2 g3 g4 hx)⟩
   obtain ⟨es, clock, k1, k2⟩ := h3
   exact ⟨es, clock, hk _ _ (hn _ _ vm6) k1, k2⟩
  ·rintro t L H b ⟨h0, h1, h2, h3, h4, h5, h6⟩ hb
   by_cases g1 : b = l
   ·subst g1; rw [h1]; simp
   by_cases g2 : b = r
   ·subst g2; rw [h2]; simp
   by_cases g3 : b = mb
   ·subst g3; obtain ⟨es, clock, k1, k2⟩ := h3; rw [k1]; simp
   by_cases g4 : b = tb
   ·subst g4; rw [h4]; simp
   cases hx : H6 b with
   | none => exact absurd hx hb
   | some x => rw [h6 b x g1 g2 g3 g4 hx]; simp
  ·rintro L H v' xs ⟨_, h1, h2, h3, h4, h5, h6⟩ rfl ⟨hxl, hxt⟩
   refine hround H _ _ h1 ?_
   have hil : (ints xs).length = 6 := by rw [Aq1]; exact hxl
   have hex := Aja hxl
   (refine @unH _ (zA (aN Axa @Bool.or_true) ?_); (try clear hK K); intro K hK hc)
   intro xb hxb
   have nlx := Aqq h1 hxb
   (refine @unH _ (zU (aN Axa (aN @Bool.or_true (aN @Avf (aN @Aj3 @Aj4)))) ?_); (try clear hK K); intro K hK hc)
   generalize hG0 : Hp.set H xb _ = Ha
   have vxa := Aqb hG0
   have hka : ∀ b x, H b = some x -> Ha b = some x := fun b x hx => Aqf hG0 hx (Aqq hx hxb)
   refine ⟨hka _ _ h1, ?_⟩
   generalize hG : Hp.set Ha l _ = Hb
   have vlb := Aqb hG
   have hkb : ∀ b x, b ≠ l -> H b = some x -> Hb b = some x := fun b x hb hx => Aqf hG (hka _ _ hx) hb
   have vxb := Aqf hG vxa (Ne.symm nlx)
   have hnn : ∀ b x, ¬ H6 b ≠ none -> H b = some x -> b ≠ l := fun b x h hx e => h (by rw [e, vl6]; simp)
   clear hG hG0 vxa hka
   have hk5 : ∀ b x, b ≠ mb -> b ≠ tb -> H5 b = some x -> Hb b = some x := fun b x g1 g2 hx => hkb b x (nrl _ _ hx).1 (h6 b x (nrl _ _ hx).1 (nrl _ _ hx).2 g1 g2 (l56 _ _ hx))
   have vhb := hk5 _ _ (fun e => by rw [e, vm5] at vh5; cases vh5) (Aza vh5 vt5 (by decide)) vh5
   have vpb := hk5 _ _ (fun e => by rw [e, vm5] at vp5; cases vp5) (Aza vp5 vt5 (by decide)) vp5
   have vsb := hk5 _ _ (fun e => by rw [e, vm5] at vs5; cases vs5) (Aza vs5 vt5 (by decide)) vs5
   have vib := hk5 _ _ (fun e => by rw [e, vm5] at vi5; cases vi5) (Aza vi5 vt5 (by decide)) vi5
   have nlm : l ≠ mb := Ne.symm (nrl _ _ vm5).1
   have nlt : l ≠ tb := Ne.symm (nrl _ _ vt5).1
   have nmt : mb ≠ tb := fun e => by rw [e, vt5] at vm5; cases vm5
   have hsb := hs5.mv (H' := Hb) fun x q c t fr ht hx => hk5 x _ (fun e => by rw [e, vm5] at hx; cases hx) (Aza hx vt5 (by rcases ht with rfl | rfl | rfl <;> decide)) hx
   obtain ⟨es, clock, vmH, hmap⟩ := id h3
   have knb : Az5 s.doors mb Hb := ⟨es, clock, hkb _ _ (Ne.symm nlm) vmH, hmap⟩
   have vtb := hkb _ _ (Ne.symm nlt) h4
   have vrb := hkb _ _ hlr h2
   have nxm : xb ≠ mb := fun e => by rw [e, vmH] at hxb; cases hxb
   have n6m : H6 mb ≠ none := by rw [vm6]; simp
   have n6t : H6 tb ≠ none := by rw [vt6]; simp
   have nrm : r ≠ mb := Ne.symm (nrl _ _ vm5).2
   have nrt : r ≠ tb := Ne.symm (nrl _ _ vt5).2
   clear h1 h3 vmH vl6 vr6 vh6 vm6 vp6 vt6 hs6 vs6 vi6 vth6 hn hr hl hround
   replace hloe : Aqo _ := hloe
   replace hkb : Aqo _ := hkb
   replace h6 : Aqo _ := h6
   replace hk5 : Aqo _ := hk5
   replace hnn : Aqo _ := hnn
   obtain ⟨hpp, hp0, hp1⟩ : Aqo (s.hampers[i]? = some p) /\ 0 <= p /\ p < s.places := ⟨hi, ok.hk p (List.mem_of_getElem? hi)⟩
   obtain ⟨ib2, io, iq, ic, ifr, iw, hib2, hic⟩ := hsb.hh.get hi
   subst iw
   have hcl := Avd s.doors p xs
   have hil2 : i < s.hampers.length := (List.getElem?_eq_some_iff.1 hpp).1
   have hspr := fun H' q vh' kn' dd' => Bx5 main H' hb mb q s.places da dc (.slice (some ⟨ib2, io, none⟩) s.hampers.length kc) (.slice na s.noses.length nc) p xs s.doors vh' kn' dd' ok.p1 hp0 hp1 ok.dk ok.dl hxl hxt
   have hdist := Bji (pl := s.places) ok.p1 hp0 (by have := ok.p1; omega) ok.dk hxt
   generalize hce : Axf s.doors p xs = c at *
   replace hce : Aqo _ := hce
   replace hpp : Aqo _ := hpp
   clear hi
   have hic6 : (ints c).length = 6 := by rw [Aq1]; exact hcl
   simp only [hsO, smO] at vhb vsb
   (refine @unH _ (zA (aN Axa @Bool.or_true) ?_); (try clear hK K); intro K hK hc)
   refine Azl (fun HX => Hb.le HX) [8, 10] (.take 0 (.take 1 (.take 2 (.take 3 (.take 4 (.take 5 (.take 6 (.take 7 (.two 8 (.one 9 (.one 10 .nil)) 9 (.one 8 (.one 10 .nil))))))))))) (by kernel_rfl) (by kernel_rfl) (by decide) (by kernel_rfl) ?_; intro K hK0
   have hleb : Hb.le Hb := Hp.le_refl _
   have hK : ∀ e' H', RdS Hb sb pb tb xb mb s.doors c e' H' -> K (act 83 e' []) H' := fun e' H' hF => hK0 _ _ (by
    clear hK0 K hleb
    obtain ⟨cb, e2, e5, e6, e7, e8, vc, kn, hfr⟩ := hF
    have hend : Aqo (∀ (e2 : Nat -> Value) (Hz : Hp), (∀ b x, b ≠ mb -> b ≠ tb -> Hb b = some x -> Hz b = some x) -> Az5 s.doors mb Hz -> Hz tb = some (true, .cells (Aq4 ⟨(i : Int), byL s (prF s p (L ++ [xs]))⟩).toArray 127 (0, 0)) ->
      rnd l (fun e H' => ∃ t, e = .returned (.bool t) /\ folT H6 s p i l r mb tb lo t (L ++ [xs]) H' /\ ∀ b x, ¬ H6 b ≠ none -> H b = some x -> H' b = some x) .normal (act 83 e2 []) Hz) := fun e2 Hz hfz knz vtz => by
     have vlz := hfz _ _ nlm nlt vlb
     refine ⟨rfl, _, vlz, true, rfl, ?_, fun b x hb hx => ?_⟩
     ·have hloe' : ({ ({ lo with state := LoopState.busy } : Loop) with state := .ready, pending := none } : Loop) = lo := hloe
      rw [hloe']
      refine ⟨rfl, Axp, ?_, ?_, ?_, fun x hx => ?_, fun b x g1 g2 g3 g4 hx => ?_⟩
      ·rw [Aqv hlr]; exact hfz _ _ nrm nrt vrb
      ·obtain ⟨es, clock, k1, k2⟩ := knz
       exact ⟨es, clock, by rw [Aqv (Ne.symm nlm)]; exact k1, k2⟩
      ·rw [Aqv (Ne.symm nlt)]; exact vtz
      ·rcases List.mem_append.1 hx with hx | hx
       ·exact h5 x hx
       ·rw [List.mem_singleton.1 hx]; exact hxl
      ·rw [Aqv g1]
       exact hfz b x g3 g4 ((show ∀ b x, b ≠ l -> H b = some x -> Hb b = some x from hkb) b x g1 ((show ∀ b x, b ≠ l -> b ≠ r -> b ≠ mb -> b ≠ tb -> H6 b = some x -> H b = some x from h6) b x g1 g2 g3 g4 hx))
     ·have g1 := (show ∀ b x, ¬ H6 b ≠ none -> H b = some x -> b ≠ l from hnn) b x hb hx
      rw [Aqv g1]
      exact hfz b x (fun e => hb (by rw [e]; exact n6m)) (fun e => hb (by rw [e]; exact n6t)) ((show ∀ b x, b ≠ l -> H b = some x -> Hb b = some x from hkb) b x g1 hx)
    have nhm : hb ≠ mb := fun e => by rw [e, vm5] at vh5; cases vh5
    have vhc := hfr _ _ nhm vhb
    have hnc : SlN H' (.slice na s.noses.length nc) s.noses := hsb.nn.move fun x q c fr hx => ⟨q, hfr x _ (fun e => by obtain ⟨es, clock, k1, k2⟩ := knb; rw [e, k1] at hx; cases hx) hx⟩
    have hc0 : ∀ q, 0 <= q -> q < 6 -> 0 <= gI c q /\ gI c q <= 99 := fun q h0 h1 => ⟨hdist.pos q h0 h1, by rcases hdist.att q h0 h1 with h | h <;> omega⟩
    have vpc := hfr _ _ (fun e => by rw [e, vm5] at vp5; cases vp5) vpb
    have hbe := Bws main H' hb mb true s.places (.slice da s.doors.length dc) (.slice (some ⟨ib2, io, none⟩) s.hampers.length kc) na nc c s.noses vhc hnc ok.p1 ok.nk ok.nl hcl hc0
    have vtc := hfr _ _ (Ne.symm nmt) vtb
    have vxc := hfr _ _ nxm vxb
    have vsc := hfr _ _ (fun e => by rw [e, vm5] at vs5; cases vs5) vsb
    have hexc := Aja hcl
    clear vhc hnc hspr knb vlb vrb h2 hkb h6 hk5 hnn vib vhb vpb vsb vtb vxb hsb hib2 hic hex hxb
    (try refine @unH _ (zQ ?_))
    (refine @unH _ (zA (aN Axa @Bool.or_true) ?_); (try clear hK K); intro K hK hc)
    refine hbe.runs.mono ?_
    clear hbe
    rintro _ H8 ⟨blo, bhi, f, rfl, hbg, l8⟩
    have vt8 := l8 _ _ vtc
    have vx8 := l8 _ _ vxc
    have vs8 := l8 _ _ vsc
    have vc8 := l8 _ _ vc
    have kn8 := kn.le l8
    have hfr8 : Aqo (∀ b x, b ≠ mb -> Hb b = some x -> H8 b = some x) := fun b x hb hx => l8 _ _ (hfr b x hb hx)
    have hpair : prF s p (L ++ [xs]) = prF s p L ++ [(xs, c)] := by
     unfold prF
     rw [List.map_append, List.map_singleton, show Axf s.doors p xs = c from hce]
    rw [hpair] at hend
    have hL0 : ∀ tc ∈ prF s p L, tc.1.length = 6 := fun tc htc => by
     obtain ⟨t, ht, rfl⟩ := List.mem_map.1 htc
     exact h5 t ht
    clear vtc vxc vsc vc kn l8 hfr vpc hpair
    cases f with
    | false =>
     have hno : begN s.noses c 0 12 = none := by
      unfold Bwr at hbg
      cases hq : begN s.noses c 0 12 with
      | none => rfl
      | some q => rw [hq] at hbg; exact absurd hbg.1 (by simp)
     rw [Cwi (tc := (xs, c)) hno] at hend
     clear hno hbg
     (refine @unH _ (zU (aN Axa @Bool.or_true) ?_); (try clear hK K); intro K hK hc)
     exact (show ∀ e2 Hz, _ -> _ -> _ -> _ from hend) _ _ (fun b x g1 g2 hx => (show ∀ b x, b ≠ mb -> Hb b = some x -> H8 b = some x from hfr8) b x g1 hx) kn8 vt8
    | true =>
     have hsome : begN s.noses c 0 12 = some (blo, bhi) := by
      unfold Bwr at hbg
      cases hq : begN s.noses c 0 12 with
      | none => rw [hq] at hbg; exact absurd hbg (by simp)
      | some q =>
       obtain ⟨ql, qh⟩ := q
       rw [hq] at hbg
       rw [hbg.2.1, hbg.2.2]
     obtain ⟨hin0, hin12⟩ := Cjt _ hsome
     rw [Cwj (tc := (xs, c)) hsome] at hend
     clear hsome hbg
     obtain ⟨kl, rfl⟩ : ∃ kl : Nat, blo = kl := ⟨blo.toNat, by omega⟩
     have hTo0 : Axw ⟨(i : Int), byL s (prF s p L)⟩ := Cjy hL0 _
     generalize byL s (prF s p L) = hs0 at *
     replace hTo0 : Aqo _ := hTo0
     clear hL0
     (refine @unH _ (zU (aN Axa @Bool.or_true) ?_); (try clear hK K); intro K hK hc)
     refine Axh (fun w a' H' => ∃ e, ∃ k : Nat, w = (bhi + 1 - k).toNat /\ kl <= k /\ (k = kl ∨ (k : Int) <= bhi + 1) /\ a' = act 83 e [] /\ e 2 = .pointer (some ⟨sb, 0, none⟩) /\ e 6 = .pointer (some ⟨tb, 0, none⟩) /\ e 7 = .pointer (some ⟨xb, 0, none⟩) /\ e 8 = .pointer (some ⟨cb, 0, none⟩) /\ e 10 = .int .i64 bhi /\ e 12 = .int .i64 (k : Nat) /\
      H' tb = some (true, .cells (Aq4 ⟨(i : Int), Azs s.places (xs, c) kl k hs0⟩).toArray 127 (0, 0)) /\ ∀ b x, b ≠ tb -> H8 b = some x -> H' b = some x) (n := (bhi + 1 - kl).toNat) ?_ ?_
     ·exact ⟨_, kl, rfl, Nat.le_refl _, .inl rfl, rfl, e2, e6, e7, e8, rfl, rfl, by rw [Awp _ _ (Int.le_refl _)]; exact vt8, fun _ _ _ hx => hx⟩
     ·clear e2 e6 e7 e8 e5
      rintro w a' H9 ⟨e, k, rfl, hkl, hkb, rfl, e2, e6, e7, e8, e10, e12, vt9, hfr9⟩
      by_cases hlt : (k : Int) <= bhi
      ·obtain ⟨x, hx0⟩ : ∃ x, hs0[k]? = some x := ⟨_, List.getElem?_eq_getElem (by rw [show hs0.length = 13 from (show Axw _ from hTo0).l]; omega)⟩
       have hxo : Axi x := (show Axw _ from hTo0).k x (List.mem_of_getElem? hx0)
       have hTk : Axw ⟨(i : Int), Azs s.places (xs, c) kl k hs0⟩ := Ck1 hxl hTo0
       have hxk : (Azs s.places (xs, c) kl k hs0)[k]? = some x := by rw [Bz4 hx0, if_neg (by omega)]
       have hHR := HR.refl hTk hxk
       have hstep := Byn (pl := s.places) (tc := (xs, c)) hx0 (show (kl : Int) <= (k : Int) by omega)
       have hdone : Aqo (∀ c1 : Array Value, HR c1 (Aq4 ⟨(i : Int), Azs s.places (xs, c) kl k hs0⟩).toArray (1 + k * 25) (Ax5 s.places k x (xs, c)) -> c1 = (Aq4 ⟨(i : Int), Azs s.places (xs, c) kl ((k : Int) + 1) hs0⟩).toArray) := fun c1 h => by
        rw [hstep]
        exact HR.done hTk (by omega) (Ayy hxo hxl) h
       have hsz : (Aq4 ⟨(i : Int), Azs s.places (xs, c) kl k hs0⟩).toArray.size = 326 := by rw [List.size_toArray]; exact Axm hTk
       have hsm := hHR.sm hxo
       clear hstep hTk hxk
       generalize (Aq4 ⟨(i : Int), Azs s.places (xs, c) kl k hs0⟩).toArray = c0 at *
       replace hfr9 : Aqo _ := hfr9
       have htk6 : (ints xs).take 6 = ints xs := List.take_of_length_le (by omega)
       (refine @unH _ (zS (aN Axa @Bool.or_true) ?_); (try clear hK K); intro K hK hc)
       refine Axy ?_
       (refine @unH _ (zS (aN Axa @Bool.or_true) ?_); (try clear hK K); intro K hK hc)
       refine Axy (Azt ?_)
       (refine @unH _ (zS (aN Axa @Bool.or_true) ?_); (try clear hK K); intro K hK hc)
       have nxt : xb ≠ tb := Aza vx8 vt8 (by decide)
       have vx9 := (show ∀ b x, b ≠ tb -> H8 b = some x -> H9 b = some x from hfr9) _ _ (Aza vx8 vt8 (by decide)) vx8
       refine Cqn (fun a' H' => ∃ e c1, a' = act 83 e [] /\ e 2 = .pointer (some ⟨sb, 0, none⟩) /\ e 6 = .pointer (some ⟨tb, 0, none⟩) /\ e 7 = .pointer (some ⟨xb, 0, none⟩) /\ e 8 = .pointer (some ⟨cb, 0, none⟩) /\ e 10 = .int .i64 bhi /\ e 12 = .int .i64 (k : Nat) /\ e 13 = .pointer (some ⟨tb, 1 + k * 25, none⟩) /\
        H' tb = some (true, .cells c1 127 (0, 0)) /\ HR c1 c0 (1 + k * 25) (Awj s.places k x (xs, c) 0) /\ ∀ b x, b ≠ tb -> H8 b = some x -> H' b = some x) ?_ ?_
       ·cases hxs : x.some with
        | true =>
         rw [hxs] at hsm
         (refine @unH _ (zA (aN Axa @Bool.or_true) ?_); (try clear hK K); intro K hK hc)
         refine ⟨_, c0, rfl, e2, e6, e7, e8, e10, e12, rfl, vt9, ?_, hfr9⟩
         rw [Bz3, hxs, if_pos rfl]
         obtain ⟨xbs, xfs, xsm⟩ := x
         simp only at hxs
         subst hxs
         exact hHR
        | false =>
         rw [hxs] at hsm
         (refine @unH _ (zA (aN Axa @Bool.or_true) ?_); (try clear hK K); intro K hK hc)
         refine Azl (fun HX => HX xb = some (true, .cells (ints xs).toArray 91 (0, 0))) [8] (.free 0 (.free 1 (.take 2 (.free 3 (.free 4 (.one 5 (.free 6 (.free 7 (.one 8 .nil))))))))) (by kernel_rfl) (by kernel_rfl) (by decide) (by kernel_rfl) ?_; intro K hK
         (iterate 2 (refine @unH _ ?_; refine zI (aN Axa @Bool.or_true) ?_))
         (refine @unH _ ?_; refine zJ (aN Axa @Bool.or_true) ?_)
         (iterate 2 (refine @unH _ ?_; refine zI (aN Axa @Bool.or_true) ?_))
         refine Aqt ?_
         (refine @unH _ ?_; refine zX (aN Axa @Bool.or_true) ?_)
         refine ⟨.inr (fun _ => by first | trivial | rw [if_neg nxt]), ?_⟩
         generalize hG : Hp.set H9 tb _ = H10
         have vt10 := Aqb hG
         have hfr10 : Aqo (∀ b x, b ≠ tb -> H9 b = some x -> H10 b = some x) := fun b x hb hx => Aqf hG hx hb
         clear hG
         (iterate 2 (refine @unH _ ?_; refine zI (aN Axa @Bool.or_true) ?_))
         refine Aqt ?_
         (refine @unH _ ?_; refine zX (aN Axa @Bool.or_true) ?_)
         rw [Aj5 (c := c0.setIfInBounds (1 + k * 25 + 24) (.bool true)) (e := 127) (by intro h; rw [h] at hil; simp at hil) vt10]
         refine ⟨by rw [List.all_eq_true]; exact Bq5 xs, by rw [Aq1, hxl, Array.size_setIfInBounds]; omega, .inl (by decide), Axk (hK _ _ ?_)⟩
         clear hK K
         refine ⟨_, _, rfl, e2, e6, e7, e8, e10, e12, rfl, Axp, ?_, fun b x' hb hx => ?_⟩
         ·rw [Bz3, hxs, if_neg (by simp)]
          exact HR.set1 hHR hxo (by omega) hxl
         ·rw [Aqv hb]
          exact (show ∀ b x, b ≠ tb -> H9 b = some x -> H10 b = some x from hfr10) b _ hb ((show ∀ b x, b ≠ tb -> H8 b = some x -> H9 b = some x from hfr9) b _ hb hx)
       ·clear vt9 hHR hsm hfr9 vx9 e2 e6 e7 e8 e10 e12
        rintro a' H10 ⟨e, c1, rfl, e2, e6, e7, e8, e10, e12, e13, vt10, hr10, hfr10⟩
        have vs10 := hfr10 _ _ (Aza vs8 vt8 (by decide)) vs8
        replace hfr10 : Aqo _ := hfr10
        (refine @unH _ (zA (aN Axa @Bool.or_true) ?_); (try clear hK K); intro K hK hc)
        refine Axh (fun w a' H' => ∃ e c1, ∃ m : Nat, w = s.places.toNat - m /\ (m : Int) <= s.places /\ a' = act 83 e [] /\ e 2 = .pointer (some ⟨sb, 0, none⟩) /\ e 6 = .pointer (some ⟨tb, 0, none⟩) /\ e 7 = .pointer (some ⟨xb, 0, none⟩) /\ e 8 = .pointer (some ⟨cb, 0, none⟩) /\ e 10 = .int .i64 bhi /\ e 12 = .int .i64 (k : Nat) /\ e 13 = .pointer (some ⟨tb, 1 + k * 25, none⟩) /\
         e 63 = .int .i64 s.places /\ e 64 = .int .i64 (m : Nat) /\ H' tb = some (true, .cells c1 127 (0, 0)) /\ HR c1 c0 (1 + k * 25) (Awj s.places k x (xs, c) m) /\ ∀ b x, b ≠ tb -> H8 b = some x -> H' b = some x) (n := s.places.toNat) ?_ ?_
        ·exact ⟨_, c1, 0, by omega, by have := ok.p0; omega, rfl, e2, e6, e7, e8, e10, e12, e13, rfl, rfl, vt10, hr10, hfr10⟩
        ·clear vt10 hr10 hfr10 vs10 e2 e6 e7 e8 e10 e12 e13
         rintro w a' H11 ⟨e, c2, m, rfl, hm, rfl, e2, e6, e7, e8, e10, e12, e13, e63, e64, vt11, hr11, hfr11⟩
         have ok1 := ok.p1
         by_cases hmp : (m : Int) < s.places
         ·obtain ⟨w, hw⟩ : ∃ w, x.bs[m]? = some w := ⟨_, List.getElem?_eq_getElem (by rw [hxo.b]; omega)⟩
          have hbc := hr11.bd (Cxd hxo hxl m) (Ck0 (pl := s.places) (b := (k : Int)) (tc := (xs, c)) hw)
          have hsu := Czo (pl := s.places) (b := (k : Int)) (tc := (xs, c)) hw hmp
          have hadd := hr11.add (Cxd hxo hxl m) (by omega) (show m < 6 by omega) (Ax0 w (min 99 ((k : Int) + gI c (m : Int))))
          rw [<- hsu] at hadd
          have hgc := Avq hcl (show (0 : Int) <= (m : Int) by omega) (by omega)
          rw [Int.toNat_natCast] at hgc
          obtain ⟨hg0, hg9⟩ := hc0 (m : Int) (by omega) (by omega)
          have vc11 := hfr11 _ _ (Aza vc8 vt8 (by decide)) vc8
          generalize gI c (m : Int) = g at *
          clear hsu hr11
          replace hfr11 : Aqo _ := hfr11
          (refine @unH _ (zA (aN Axa @Bool.or_true) ?_); (try clear hK K); intro K hK hc)
          rw [show (if (k : Int) + g < 99 then (k : Int) + g else 99) = min 99 ((k : Int) + g) by split <;> omega]
          rw [Bjy, Ajt]
          simp only [Array.append_empty, List.append_toArray, List.cons_append, List.nil_append]
          refine (Bv0 main H11 tb (1 + k * 25 + m * 3) w (min 99 ((k : Int) + g)) c2 127 vt11 hbc).runs.mono ?_
          rintro _ H12 ⟨rfl, vt12, hfr12⟩
          replace hfr12 : Aqo _ := hfr12
          clear vt11 hbc hgc vc11
          (refine @unH _ (zU (aN Axa @Bool.or_true) ?_); (try clear hK K); intro K hK hc)
          exact ⟨_, by omega, _, _, m + 1, rfl, by omega, rfl, e2, e6, e7, e8, e10, e12, e13, e63, rfl, vt12, hadd, fun b x' hb hx => ((show ∀ y, y ≠ tb -> H12 y = H11 y from hfr12) b hb).trans ((show ∀ b x, b ≠ tb -> H8 b = some x -> H11 b = some x from hfr11) b _ hb hx)⟩
         ·rw [Ckz (by omega)] at hr11
          obtain rfl := (show ∀ c1 : Array Value, HR c1 c0 (1 + k * 25) (Ax5 s.places k x (xs, c)) -> c1 = _ from hdone) c2 hr11
          clear hr11 hdone
          replace hfr11 : Aqo _ := hfr11
          (refine @unH _ (zA (aN Axa @Bool.or_true) ?_); (try clear hK K); intro K hK hc)
          exact ⟨_, by omega, _, k + 1, rfl, by omega, .inr (by omega), rfl, e2, e6, e7, e8, e10, rfl, vt11, hfr11⟩
      ·have hfin : Azs s.places (xs, c) kl (bhi + 1) hs0 = Azs s.places (xs, c) kl k hs0 := by
        rcases hkb with rfl | hkb
        ·by_cases h : bhi + 1 <= (k : Int)
         ·rw [Awp _ _ h, Awp _ _ (Int.le_refl _)]
         ·omega
        ·rw [show bhi + 1 = (k : Int) by omega]
       rw [hfin] at hend
       replace hfr9 : Aqo _ := hfr9
       clear hfin hkb
       (refine @unH _ (zA (aN Axa @Bool.or_true) ?_); (try clear hK K); intro K hK hc)
       refine (show ∀ e2 Hz, _ -> _ -> _ -> _ from hend) _ _ (fun b x g1 g2 hx => (show ∀ b x, b ≠ tb -> H8 b = some x -> H9 b = some x from hfr9) b x g2 ((show ∀ b x, b ≠ mb -> Hb b = some x -> H8 b = some x from hfr8) b x g1 hx)) ?_ vt9
       obtain ⟨es, clock, k1, k2⟩ := kn8
       exact ⟨es, clock, (show ∀ b x, b ≠ tb -> H8 b = some x -> H9 b = some x from hfr9) _ _ nmt k1, k2⟩)
   clear hK0
   (iterate 8 (apply Aq5 rfl rfl rfl ‹_›; (focus (intro HX hHX; simp -implicitDefEqProofs (disch := first | omega | (simp only [qd] <;> omega)) only [xq, ↓xp, qc, Nat.reduceAdd, List.range, List.range.loop, fine, Nat.reduceEqDiff, ↓reduceIte, yielded, reduceCtorEq, Nat.reduceLT, Nat.reduceMul, Nat.reduceSub, one, Nat.reduceLeDiff, Aqj, Axa, aq, ↓ap, qe0, qe1, qe2, *, -hK, Aq3, hHX _ _ vpb, hHX _ _ vsb, hHX _ _ vib, hHX _ _ vxb, hHX _ _ hib2, Bw0, Bool.or_true] <;> (first | exact rfl | exact ⟨rfl, rfl⟩ | exact ⟨rfl, trivial⟩))); simp -implicitDefEqProofs (disch := first | omega | (simp only [qd] <;> omega)) only [Aq0, Aqp]))
   refine Ak1 ?_ ?_
   ·(refine @unH _ ?_; refine zX (aN Axa @Bool.or_true) ?_)
    refine (hspr Hb true vhb knb hsb.dd).runs.mono ?_
    rintro _ Hc ⟨rfl, hfc, knc⟩
    (refine @unH _ ?_; refine zX (aN Axa @Bool.or_true) ?_)
    refine ⟨.inl (by decide), Aqt ?_⟩
    (refine @unH _ ?_; refine zX (aN Axa @Bool.or_true) ?_)
    (intro cb hcb; generalize hG : Hp.set _ cb _ = Hd; have lHd := Aqc hG hcb; have vcb := Aqb hG; clear hG)
    refine ⟨.inr (fun h => Hp.le_trans h lHd), Aqt ?_⟩
    (refine @unH _ ?_; refine zX (aN Axa (aN @Bool.or_true (aN @Avf (aN @Aj3 @Aj4)))) ?_)
    refine ⟨.inl (by decide), Axk (hK _ _ ?_)⟩
    refine ⟨cb, e2, e5, e6, rfl, rfl, Axp, ?_, fun b x hb hx => ?_⟩
    ·obtain ⟨es, clock, k1, k2⟩ := knc
     exact ⟨es, clock, by rw [Aqv (Aqq k1 hcb)]; exact lHd _ _ k1, k2⟩
    ·have h1 := hfc b x hb hx
     rw [Aqv (Aqq h1 hcb)]
     exact lHd _ _ h1
   ·(refine @unH _ ?_; refine zX (aN Axa @Bool.or_true) ?_)
    (intro cb hcb; generalize hG : Hp.set _ cb _ = Hd; have lHd := Aqc hG hcb; have vcb := Aqb hG; clear hG)
    refine ⟨.inr (fun _ => by first | exact lHd | trivial), Aqt ?_⟩
    have vhd := lHd _ _ vhb
    (refine @unH _ ?_; refine zX (aN Axa @Bool.or_true) ?_)
    refine (hspr Hd true vhd (knb.le lHd) (hsb.dd.le lHd)).runs.mono ?_
    rintro _ Hc ⟨rfl, hfc, knc⟩
    have ncm : cb ≠ mb := fun e => by obtain ⟨es, clock, k1, k2⟩ := knb; rw [<- e, hcb] at k1; cases k1
    have vcc := hfc _ _ ncm vcb
    (refine @unH _ ?_; refine zX (aN Axa @Bool.or_true) ?_)
    refine ⟨.inl (by decide), Aqt ?_⟩
    (refine @unH _ ?_; refine zX (aN Axa (aN @Bool.or_true (aN @Avf (aN @Aj3 @Aj4)))) ?_)
    refine ⟨.inl (by decide), Axk (hK _ _ ?_)⟩
    refine ⟨cb, e2, e5, e6, rfl, rfl, Axp, ?_, fun b x hb hx => ?_⟩
    ·obtain ⟨es, clock, k1, k2⟩ := knc
     exact ⟨es, clock, by rw [Aqv (Ne.symm ncm)]; exact k1, k2⟩
    ·rw [Aqv (Aqq hx hcb)]
     exact hfc b x hb (lHd _ _ hx)
 have hpk := ok.hk p (List.mem_of_getElem? hi)
 have nlm : l ≠ mb := Ne.symm (nrl _ _ vm5).1
 have nrm : r ≠ mb := Ne.symm (nrl _ _ vm5).2
 have nlt : l ≠ tb := Ne.symm (nrl _ _ vt5).1
 have nrt : r ≠ tb := Ne.symm (nrl _ _ vt5).2
 have hT0 : folT H6 s p i l r mb tb lo true [] H6 := by
  refine ⟨rfl, vl6, vr6, ⟨#[], 0, vm6, fun e he => by simp at he⟩, ?_, fun x hx => by simp at hx, fun _ _ _ _ _ _ hx => hx⟩
  rw [vt6]
  rfl
 have hthis : ∀ L H, folT H6 s p i l r mb tb lo true L H -> ∃ hb mb q q', H thisb = some (q', .cells #[.pointer (some ⟨hb, 0, none⟩)] 115 (0, 0)) /\ H hb = some (q, hsO s.places (.slice da s.doors.length dc) (.slice ha s.hampers.length kc) (.slice na s.noses.length nc) mb) /\ SlD H (.slice da s.doors.length dc) s.doors := by
  rintro L H ⟨_, h1, h2, h3, h4, h5, h6⟩
  refine ⟨hb, mb, true, true, h6 _ _ (nrl _ _ vth).1 (nrl _ _ vth).2 (fun e => by rw [e, vm6] at vth6; cases vth6) (Aza vth6 vt6 (by decide)) vth6, h6 _ _ (nrl _ _ vh5).1 (nrl _ _ vh5).2 (fun e => by rw [e, vm6] at vh6; cases vh6) (Aza vh6 vt6 (by decide)) vh6, hs6.dd.move fun x q c fr hx => ⟨q, ?_⟩⟩
  exact h6 _ _ (fun e => by rw [e, vl6] at hx; cases hx) (fun e => by rw [e, vr6] at hx; cases hx) (fun e => by rw [e, vm6] at hx; cases hx) (Aza hx vt6 (by decide)) hx
 have hrun := Byi main (thisb := thisb) (pl := s.places) (da := da) (dc := dc) (hv := .slice ha s.hampers.length kc) (nv := .slice na s.noses.length nc) (ds := s.doors) hC (fun t L H h => h.1) hthis ok.dl H6 hT0 (fun u hu => ⟨by
  have := Ay5 hu
  have := ok.dl
  simp [pad6]
  omega, Ayq ok.dk hu⟩)
 refine hrun.runs.mono ?_
 clear hrun hC hround hthis hT0
 rintro _ H7 ⟨rfl, ⟨_, vl7, vr7, _, vt7, hL6, hk7⟩, hfr7⟩
 refine Bwt vl7 hlo1 hlo2 ?_
 have hTe : (⟨(i : Int), byL s (prF s p ((Ax9 s.doors).map pad6))⟩ : Trail) = Azk s i := by
  unfold Azk prF trL
  rw [List.map_map, List.getD, hi]
  rfl
 have hTo : Axw ⟨(i : Int), byL s (prF s p ((Ax9 s.doors).map pad6))⟩ := Cjy (fun tc htc => by
  obtain ⟨t, ht, rfl⟩ := List.mem_map.1 htc
  exact hL6 t ht) _
 rw [hTe] at vt7 hTo
 clear hTe hL6
 generalize Azk s i = T at *
 have hTl := Axm hTo
 have hTx := Bwe hTo
 have vrb7 := hk7 _ _ (nrl _ _ vr5).1 (nrl _ _ vr5).2 (fun e => by have := l56 _ _ vr5; rw [e, vm6] at this; cases this) (fun e => by rw [e, n0t] at vr; cases vr) (l56 _ _ vr5)
 have hk9 : ∀ b x, b ≠ l -> b ≠ r -> b ≠ mb -> b ≠ tb -> H6 b = some x -> (H7.set l (.loop { lo with state := .exhausted })) b = some x := fun b x g1 g2 g3 g4 hx => (Aqv g1).trans (hk7 b x g1 g2 g3 g4 hx)
 have vt9 : (H7.set l (.loop { lo with state := .exhausted })) tb = _ := (Aqv (Ne.symm nlt)).trans vt7
 have vr9 : (H7.set l (.loop { lo with state := .exhausted })) r = _ := (Aqv hlr).trans vr7
 have vrb9 : (H7.set l (.loop { lo with state := .exhausted })) rb = _ := (Aqv (nrl _ _ vr5).1).trans vrb7
 have nrbr : rb ≠ r := (nrl _ _ vr5).2
 have h3l : H3 l = none := Hp.le_none l35 hnl
 have h3r : H3 r = none := Hp.le_none l35 hr
 have l36 := Hp.le_trans l35 l56
 generalize H7.set l (.loop { lo with state := .exhausted }) = H9 at *
 clear vl7 vr7 vt7 hfr7 hk7 vrb7 vl6 vr6 vh6 vm6 vp6 vt6 hs6 vs6 vi6 vth6 nrl vh5 vm5 vp5 vt5 hs5 vs5 vi5 vr5 vth n4th
 (try refine @unH _ (zQ ?_))
 (refine @unH _ (zA Axa ?_); (try clear hK K); intro K hK hc)
 rw [Awx hTo vrb9 hz]
 refine hK _ _ ?_
 clear hK K
 (try refine @unH _ (zQ ?_))
 (refine @unH _ (zA Axa ?_); (try clear hK K); intro K hK hc)
 refine Axt ?_
 (try refine @unH _ (zQ ?_))
 refine Cx7 (show (Hp.set H9 rb _) r = _ from (Aqv (Ne.symm nrbr)).trans vr9) ?_
 rw [Ax2 results78 (by decide) (b := rb) (o := 0) (by exact e4) underlying127 rfl sizeOf127]
 rw [Av7 (p := true) (c := (Aq4 T).toArray) (e := 127) (f := (0, 0)) ((Aqv nrbr).trans Axp)]
 refine ⟨by rw [List.size_toArray, hTl]; omega, ?_⟩
 rw [show (Aq4 T).toArray.extract 0 (0 + (325 + 1)) = _ from hTx]
 refine (show ∀ H', (∀ b x, b ≠ rb -> H3 b = some x -> H' b = some x) -> R (.returned (.agg (Aq4 T).toArray)) H' from hR) _ fun b x hb hx => ?_
 rw [Aqv (fun e => by rw [e, h3r] at hx; cases hx), Aqv hb]
 exact hk9 b x (fun e => by rw [e, h3l] at hx; cases hx) (fun e => by rw [e, h3r] at hx; cases hx) (fun e => by rw [e, n0m] at hx; cases hx) (fun e => by rw [e, n0t] at hx; cases hx) (l36 _ _ hx)
def Axb := aN @Dwy (aN @Dwj (aN @Bw7 (aN @Dwc (aN @Bxg (aN @Dww (aN @Dyk (aN @Dwq (aN @Dv6 (aN @Cj4 (aN @Dw7 (aN @Dwv (aN @Dvp (aN @Dv9 (aN @Dw8 (aN @Dwn (aN @Aj0 (aN @Bw8 (aN @Dwx (aN @Dwp (aN @Dwf (aN @Cj5 (aN @Dvk (aN @Dve (aN @Dv3 (aN @Dwd (aN @Dvb (aN @Dv2 (aN @Dvn (aN @Dv1 (aN @Dvf (aN @Dvc (aN @Bxt @Dwh))))))))))))))))))))))))))))))))
theorem Byj (main : Md) (H : Hp) (s : Sm) (dv hv nv : Value) (hs : SmIn H dv hv nv s) (ok : SmOk s) (i : Nat) (p : Int) (hi : s.hampers[i]? = some p) :
  FnX Tryz.prog main 78 #[smV s.places dv hv nv, .int .i64 i] H fun e H' => e = .returned (.agg (Aq4 (Azk s i)).toArray) /\ H.le H' := by
 obtain ⟨da, dc, ha, kc, na, nc, rfl, rfl, rfl, l1, l2, l3⟩ := hs.forms
 refine Aql func78 rfl ntmps78 (by simp) ?_
 refine Axv rfl ?_; intro K hK
 (refine @unH _ ?_; refine zX Axb ?_)
 intro sb hsb ib hib rb hrb
 replace hrb : (Hp.set (Hp.set H sb (smO s.places (.slice da s.doors.length dc) (.slice ha s.hampers.length kc) (.slice na s.noses.length nc))) ib (.cells #[.int .i64 i] 3 (0, 0))) rb = none := hrb
 replace hib : (Hp.set H sb (smO s.places (.slice da s.doors.length dc) (.slice ha s.hampers.length kc) (.slice na s.noses.length nc))) ib = none := hib
 generalize hG : Hp.set H sb _ = H1 at hib hrb ⊢
 have lH1 := Aqc hG hsb
 have ws := Aqb hG
 clear hG
 generalize hG : Hp.set H1 ib _ = H2 at hrb ⊢
 have lH2 := Aqc hG hib
 have wi := Aqb hG
 clear hG
 generalize hG : Hp.set H2 rb _ = H3
 have lH3 := Aqc hG hrb
 have vr := Aqb hG
 clear hG
 have vs := lH3 _ _ (lH2 _ _ ws)
 have vi := lH3 _ _ wi
 have l03 := Hp.le_trans lH1 (Hp.le_trans lH2 lH3)
 have h0rb : H rb = none := Hp.le_none (Hp.le_trans lH1 lH2) hrb
 clear hsb hib hrb ws wi lH1 lH2 lH3
 refine hK _ _ ?_; clear hK K
 have hT0 : Axw ⟨i, List.replicate 13 Bvp⟩ := ⟨rfl, fun x hx => by rw [List.eq_of_mem_replicate hx]; exact Cxb⟩
 refine Cv5 (fun HX => H3.le HX) [7] (.take 0 (.take 2 (.take 3 (.three 1 (.two 4 (.one 5 (.one 6 (.one 7 .nil))) 5 (.one 4 (.one 6 (.one 7 .nil)))) 4 (.two 1 (.one 5 (.one 6 (.one 7 .nil))) 5 (.one 1 (.one 6 (.one 7 .nil)))) 5 (.two 1 (.one 4 (.one 6 (.one 7 .nil))) 4 (.one 1 (.one 6 (.one 7 .nil)))))))) (by kernel_rfl) (by kernel_rfl) (by decide) (by kernel_rfl) ?_; intro K hK0
 have gH3 : H3.le H3 := Hp.le_refl _
 have hK : ∀ e H', FolS H3 sb ib rb s.places (.slice da s.doors.length dc) (.slice ha s.hampers.length kc) (.slice na s.noses.length nc) ⟨i, List.replicate 13 Bvp⟩ e H' -> K (act 83 e []) H' := fun e H' hF => hK0 _ _ (by
  clear hK0 K gH3
  refine Cyd main H3 H' sb ib rb s ok i p hi da dc ha kc na nc (hs.le l03) vs vi _ rfl vr e hF _ (fun H'' hk => ⟨rfl, fun b x hx => hk b x (fun e => by rw [e, h0rb] at hx; cases hx) (l03 _ _ hx)⟩))
 clear hK0
 (iterate 2 (apply Bjb rfl rfl rfl ‹_›; (focus (intro HX hHX; simp -implicitDefEqProofs (disch := first | omega | (simp only [qd] <;> omega)) only [xq, ↓xp, qc, Nat.reduceAdd, List.range, List.range.loop, fine, Nat.reduceEqDiff, ↓reduceIte, yielded, reduceCtorEq, Nat.reduceLT, Nat.reduceMul, Nat.reduceSub, one, Nat.reduceLeDiff, Aqj, Axb, aq, ↓ap, qe0, qe1, qe2, *, -hK, Aq3, hHX _ _ vs, hHX _ _ vi] <;> (first | exact rfl | exact ⟨rfl, rfl⟩ | exact ⟨rfl, trivial⟩))); simp -implicitDefEqProofs (disch := first | omega | (simp only [qd] <;> omega)) only [Aq0, Aqp]))
 refine Bjb (v := .agg (Aq4 ⟨i, List.replicate 13 Bvp⟩).toArray) rfl rfl rfl ‹_› (fun HX hHX => ?_) ?_
 ·(refine @unH _ ?_; refine zX (aN Axb @Aq3) ?_)
  first | exact rfl | exact ⟨rfl, rfl⟩
 ·simp -implicitDefEqProofs (disch := first | omega | (simp only [qd] <;> omega)) only [Aq0, Aqp]
  refine Byw ?_ ?_ ?_
  ·(refine @unH _ ?_; refine zX Axb ?_)
   refine (Aj8 main H3 _ _ _ _ _ _ _ _ _ _).runs.mono ?_
   rintro _ H4 ⟨hb, mb, rfl, vhb, vmb, h0h, h0m, lH4⟩
   (refine @unH _ ?_; refine zX Axb ?_)
   have gH4 : H3.le H4 := Hp.le_trans gH3 lH4
   refine ⟨.inr (fun _ => by first | exact gH4 | trivial), ?_⟩
   refine Bxx ?_ ?_
   ·(refine @unH _ ?_; refine zX Axb ?_)
    (intro pb hpb; generalize hG : Hp.set _ pb _ = H5; have lH5 := Aqc hG hpb; have vpb := Aqb hG; clear hG)
    have gH5 : H3.le H5 := Hp.le_trans gH4 lH5
    refine ⟨.inr (fun _ => by first | exact gH5 | trivial), ?_⟩
    refine Axr ?_
    (refine @unH _ ?_; refine zX Axb ?_)
    (intro tb htb; generalize hG : Hp.set _ tb _ = H6; have lH6 := Aqc hG htb; have vtb := Aqb hG; clear hG)
    have gH6 : H3.le H6 := Hp.le_trans gH5 lH6
    refine ⟨.inr (fun _ => by first | exact gH6 | trivial), ?_⟩
    have vhx := (lH6 _ _ (lH5 _ _ vhb))
    have vmx := (lH6 _ _ (lH5 _ _ vmb))
    have vpx := (lH6 _ _ vpb)
    have vtx := vtb
    have n0h := (Hp.le_none gH3 h0h)
    have n0m := (Hp.le_none gH3 h0m)
    have n0p := (Hp.le_none gH4 hpb)
    have n0t := (Hp.le_none gH5 htb)
    refine Axr ?_
    (refine @unH _ ?_; refine zX Axb ?_)
    generalize hG : Hp.set H6 pb _ = H7
    have vh7 := Aqf hG vhx (Aza vhx vpx (by decide))
    have vm7 := Aqf hG vmx (fun e => by rw [e, vpx] at vmx; cases vmx)
    have vp7 := Aqb hG
    have vt7 := Aqf hG vtx (Aza vtx vpx (by decide))
    have g7 : H3.le H7 := fun b x hx => Aqf hG (gH6 _ _ hx) (fun e => by rw [e, n0p] at hx; cases hx)
    have nth : hb ≠ tb := Aza vh7 vt7 (by decide)
    have ntp : pb ≠ tb := Aza vp7 vt7 (by decide)
    have ntm : mb ≠ tb := fun e => by rw [e, vt7] at vm7; cases vm7
    refine ⟨.inr (fun _ => by first | exact g7 | trivial), Axr ?_⟩
    (refine @unH _ ?_; refine zX Axb ?_)
    refine ⟨Axm hT0, ?_⟩
    rw [Awx hT0 vt7 rfl]
    refine ⟨.inl (by decide), Ak2 (hK _ _ ⟨hb, mb, pb, tb, rfl, rfl, rfl, rfl, rfl, fun b x hx => ?_, ⟨n0h, n0m, n0p, n0t⟩, ?_, ?_, ?_, Axp⟩)⟩
    ·rw [Aqv (fun e => by rw [e, n0t] at hx; cases hx)]; exact g7 _ _ hx
    ·rw [Aqv nth]; exact vh7
    ·rw [Aqv ntm]; exact vm7
    ·rw [Aqv ntp]; exact vp7
   ·(refine @unH _ ?_; refine zX Axb ?_)
    (intro tb htb; generalize hG : Hp.set _ tb _ = H5; have lH5 := Aqc hG htb; have vtb := Aqb hG; clear hG)
    have gH5 : H3.le H5 := Hp.le_trans gH4 lH5
    refine ⟨.inr (fun _ => by first | exact gH5 | trivial), ?_⟩
    refine Axr ?_
    (refine @unH _ ?_; refine zX Axb ?_)
    (intro pb hpb; generalize hG : Hp.set _ pb _ = H6; have lH6 := Aqc hG hpb; have vpb := Aqb hG; clear hG)
    have gH6 : H3.le H6 := Hp.le_trans gH5 lH6
    refine ⟨.inr (fun _ => by first | exact gH6 | trivial), ?_⟩
    have vhx := (lH6 _ _ (lH5 _ _ vhb))
    have vmx := (lH6 _ _ (lH5 _ _ vmb))
    have vpx := vpb
    have vtx := (lH6 _ _ vtb)
    have n0h := (Hp.le_none gH3 h0h)
    have n0m := (Hp.le_none gH3 h0m)
    have n0p := (Hp.le_none gH5 hpb)
    have n0t := (Hp.le_none gH4 htb)
    refine Axr ?_
    (refine @unH _ ?_; refine zX Axb ?_)
    generalize hG : Hp.set H6 pb _ = H7
    have vh7 := Aqf hG vhx (Aza vhx vpx (by decide))
    have vm7 := Aqf hG vmx (fun e => by rw [e, vpx] at vmx; cases vmx)
    have vp7 := Aqb hG
    have vt7 := Aqf hG vtx (Aza vtx vpx (by decide))
    have g7 : H3.le H7 := fun b x hx => Aqf hG (gH6 _ _ hx) (fun e => by rw [e, n0p] at hx; cases hx)
    have nth : hb ≠ tb := Aza vh7 vt7 (by decide)
    have ntp : pb ≠ tb := Aza vp7 vt7 (by decide)
    have ntm : mb ≠ tb := fun e => by rw [e, vt7] at vm7; cases vm7
    refine ⟨.inr (fun _ => by first | exact g7 | trivial), Axr ?_⟩
    (refine @unH _ ?_; refine zX Axb ?_)
    refine ⟨Axm hT0, ?_⟩
    rw [Awx hT0 vt7 rfl]
    refine ⟨.inl (by decide), Ak2 (hK _ _ ⟨hb, mb, pb, tb, rfl, rfl, rfl, rfl, rfl, fun b x hx => ?_, ⟨n0h, n0m, n0p, n0t⟩, ?_, ?_, ?_, Axp⟩)⟩
    ·rw [Aqv (fun e => by rw [e, n0t] at hx; cases hx)]; exact g7 _ _ hx
    ·rw [Aqv nth]; exact vh7
    ·rw [Aqv ntm]; exact vm7
    ·rw [Aqv ntp]; exact vp7
  ·(refine @unH _ ?_; refine zX Axb ?_)
   (intro pb hpb; generalize hG : Hp.set _ pb _ = H4; have lH4 := Aqc hG hpb; have vpb := Aqb hG; clear hG)
   have gH4 : H3.le H4 := Hp.le_trans gH3 lH4
   refine ⟨.inr (fun _ => by first | exact gH4 | trivial), ?_⟩
   refine Bxx ?_ ?_
   ·(refine @unH _ ?_; refine zX Axb ?_)
    refine (Aj8 main H4 _ _ _ _ _ _ _ _ _ _).runs.mono ?_
    rintro _ H5 ⟨hb, mb, rfl, vhb, vmb, h0h, h0m, lH5⟩
    (refine @unH _ ?_; refine zX Axb ?_)
    have gH5 : H3.le H5 := Hp.le_trans gH4 lH5
    refine ⟨.inr (fun _ => by first | exact gH5 | trivial), ?_⟩
    refine Axr ?_
    (refine @unH _ ?_; refine zX Axb ?_)
    (intro tb htb; generalize hG : Hp.set _ tb _ = H6; have lH6 := Aqc hG htb; have vtb := Aqb hG; clear hG)
    have gH6 : H3.le H6 := Hp.le_trans gH5 lH6
    refine ⟨.inr (fun _ => by first | exact gH6 | trivial), ?_⟩
    have vhx := (lH6 _ _ vhb)
    have vmx := (lH6 _ _ vmb)
    have vpx := (lH6 _ _ (lH5 _ _ vpb))
    have vtx := vtb
    have n0h := (Hp.le_none gH4 h0h)
    have n0m := (Hp.le_none gH4 h0m)
    have n0p := (Hp.le_none gH3 hpb)
    have n0t := (Hp.le_none gH5 htb)
    refine Axr ?_
    (refine @unH _ ?_; refine zX Axb ?_)
    generalize hG : Hp.set H6 pb _ = H7
    have vh7 := Aqf hG vhx (Aza vhx vpx (by decide))
    have vm7 := Aqf hG vmx (fun e => by rw [e, vpx] at vmx; cases vmx)
    have vp7 := Aqb hG
    have vt7 := Aqf hG vtx (Aza vtx vpx (by decide))
    have g7 : H3.le H7 := fun b x hx => Aqf hG (gH6 _ _ hx) (fun e => by rw [e, n0p] at hx; cases hx)
    have nth : hb ≠ tb := Aza vh7 vt7 (by decide)
    have ntp : pb ≠ tb := Aza vp7 vt7 (by decide)
    have ntm : mb ≠ tb := fun e => by rw [e, vt7] at vm7; cases vm7
    refine ⟨.inr (fun _ => by first | exact g7 | trivial), Axr ?_⟩
    (refine @unH _ ?_; refine zX Axb ?_)
    refine ⟨Axm hT0, ?_⟩
    rw [Awx hT0 vt7 rfl]
    refine ⟨.inl (by decide), Ak2 (hK _ _ ⟨hb, mb, pb, tb, rfl, rfl, rfl, rfl, rfl, fun b x hx => ?_, ⟨n0h, n0m, n0p, n0t⟩, ?_, ?_, ?_, Axp⟩)⟩
    ·rw [Aqv (fun e => by rw [e, n0t] at hx; cases hx)]; exact g7 _ _ hx
    ·rw [Aqv nth]; exact vh7
    ·rw [Aqv ntm]; exact vm7
    ·rw [Aqv ntp]; exact vp7
   ·(refine @unH _ ?_; refine zX Axb ?_)
    (intro tb htb; generalize hG : Hp.set _ tb _ = H5; have lH5 := Aqc hG htb; have vtb := Aqb hG; clear hG)
    have gH5 : H3.le H5 := Hp.le_trans gH4 lH5
    refine ⟨.inr (fun _ => by first | exact gH5 | trivial), ?_⟩
    refine Axr ?_
    (refine @unH _ ?_; refine zX Axb ?_)
    refine (Aj8 main H5 _ _ _ _ _ _ _ _ _ _).runs.mono ?_
    rintro _ H6 ⟨hb, mb, rfl, vhb, vmb, h0h, h0m, lH6⟩
    (refine @unH _ ?_; refine zX Axb ?_)
    have gH6 : H3.le H6 := Hp.le_trans gH5 lH6
    refine ⟨.inr (fun _ => by first | exact gH6 | trivial), ?_⟩
    have vhx := vhb
    have vmx := vmb
    have vpx := (lH6 _ _ (lH5 _ _ vpb))
    have vtx := (lH6 _ _ vtb)
    have n0h := (Hp.le_none gH5 h0h)
    have n0m := (Hp.le_none gH5 h0m)
    have n0p := (Hp.le_none gH3 hpb)
    have n0t := (Hp.le_none gH4 htb)
    refine Axr ?_
    (refine @unH _ ?_; refine zX Axb ?_)
    generalize hG : Hp.set H6 pb _ = H7
    have vh7 := Aqf hG vhx (Aza vhx vpx (by decide))
    have vm7 := Aqf hG vmx (fun e => by rw [e, vpx] at vmx; cases vmx)
    have vp7 := Aqb hG
    have vt7 := Aqf hG vtx (Aza vtx vpx (by decide))
    have g7 : H3.le H7 := fun b x hx => Aqf hG (gH6 _ _ hx) (fun e => by rw [e, n0p] at hx; cases hx)
    have nth : hb ≠ tb := Aza vh7 vt7 (by decide)
    have ntp : pb ≠ tb := Aza vp7 vt7 (by decide)
    have ntm : mb ≠ tb := fun e => by rw [e, vt7] at vm7; cases vm7
    refine ⟨.inr (fun _ => by first | exact g7 | trivial), Axr ?_⟩
    (refine @unH _ ?_; refine zX Axb ?_)
    refine ⟨Axm hT0, ?_⟩
    rw [Awx hT0 vt7 rfl]
    refine ⟨.inl (by decide), Ak2 (hK _ _ ⟨hb, mb, pb, tb, rfl, rfl, rfl, rfl, rfl, fun b x hx => ?_, ⟨n0h, n0m, n0p, n0t⟩, ?_, ?_, ?_, Axp⟩)⟩
    ·rw [Aqv (fun e => by rw [e, n0t] at hx; cases hx)]; exact g7 _ _ hx
    ·rw [Aqv nth]; exact vh7
    ·rw [Aqv ntm]; exact vm7
    ·rw [Aqv ntp]; exact vp7
  ·(refine @unH _ ?_; refine zX Axb ?_)
   (intro tb htb; generalize hG : Hp.set _ tb _ = H4; have lH4 := Aqc hG htb; have vtb := Aqb hG; clear hG)
   have gH4 : H3.le H4 := Hp.le_trans gH3 lH4
   refine ⟨.inr (fun _ => by first | exact gH4 | trivial), ?_⟩
   refine Bxx ?_ ?_
   ·(refine @unH _ ?_; refine zX Axb ?_)
    refine (Aj8 main H4 _ _ _ _ _ _ _ _ _ _).runs.mono ?_
    rintro _ H5 ⟨hb, mb, rfl, vhb, vmb, h0h, h0m, lH5⟩
    (refine @unH _ ?_; refine zX Axb ?_)
    have gH5 : H3.le H5 := Hp.le_trans gH4 lH5
    refine ⟨.inr (fun _ => by first | exact gH5 | trivial), ?_⟩
    refine Axr ?_
    (refine @unH _ ?_; refine zX Axb ?_)
    (intro pb hpb; generalize hG : Hp.set _ pb _ = H6; have lH6 := Aqc hG hpb; have vpb := Aqb hG; clear hG)
    have gH6 : H3.le H6 := Hp.le_trans gH5 lH6
    refine ⟨.inr (fun _ => by first | exact gH6 | trivial), ?_⟩
    have vhx := (lH6 _ _ vhb)
    have vmx := (lH6 _ _ vmb)
    have vpx := vpb
    have vtx := (lH6 _ _ (lH5 _ _ vtb))
    have n0h := (Hp.le_none gH4 h0h)
    have n0m := (Hp.le_none gH4 h0m)
    have n0p := (Hp.le_none gH5 hpb)
    have n0t := (Hp.le_none gH3 htb)
    refine Axr ?_
    (refine @unH _ ?_; refine zX Axb ?_)
    generalize hG : Hp.set H6 pb _ = H7
    have vh7 := Aqf hG vhx (Aza vhx vpx (by decide))
    have vm7 := Aqf hG vmx (fun e => by rw [e, vpx] at vmx; cases vmx)
    have vp7 := Aqb hG
    have vt7 := Aqf hG vtx (Aza vtx vpx (by decide))
    have g7 : H3.le H7 := fun b x hx => Aqf hG (gH6 _ _ hx) (fun e => by rw [e, n0p] at hx; cases hx)
    have nth : hb ≠ tb := Aza vh7 vt7 (by decide)
    have ntp : pb ≠ tb := Aza vp7 vt7 (by decide)
    have ntm : mb ≠ tb := fun e => by rw [e, vt7] at vm7; cases vm7
    refine ⟨.inr (fun _ => by first | exact g7 | trivial), Axr ?_⟩
    (refine @unH _ ?_; refine zX Axb ?_)
    refine ⟨Axm hT0, ?_⟩
    rw [Awx hT0 vt7 rfl]
    refine ⟨.inl (by decide), Ak2 (hK _ _ ⟨hb, mb, pb, tb, rfl, rfl, rfl, rfl, rfl, fun b x hx => ?_, ⟨n0h, n0m, n0p, n0t⟩, ?_, ?_, ?_, Axp⟩)⟩
    ·rw [Aqv (fun e => by rw [e, n0t] at hx; cases hx)]; exact g7 _ _ hx
    ·rw [Aqv nth]; exact vh7
    ·rw [Aqv ntm]; exact vm7
    ·rw [Aqv ntp]; exact vp7
   ·(refine @unH _ ?_; refine zX Axb ?_)
    (intro pb hpb; generalize hG : Hp.set _ pb _ = H5; have lH5 := Aqc hG hpb; have vpb := Aqb hG; clear hG)
    have gH5 : H3.le H5 := Hp.le_trans gH4 lH5
    refine ⟨.inr (fun _ => by first | exact gH5 | trivial), ?_⟩
    refine Axr ?_
    (refine @unH _ ?_; refine zX Axb ?_)
    refine (Aj8 main H5 _ _ _ _ _ _ _ _ _ _).runs.mono ?_
    rintro _ H6 ⟨hb, mb, rfl, vhb, vmb, h0h, h0m, lH6⟩
    (refine @unH _ ?_; refine zX Axb ?_)
    have gH6 : H3.le H6 := Hp.le_trans gH5 lH6
    refine ⟨.inr (fun _ => by first | exact gH6 | trivial), ?_⟩
    have vhx := vhb
    have vmx := vmb
    have vpx := (lH6 _ _ vpb)
    have vtx := (lH6 _ _ (lH5 _ _ vtb))
    have n0h := (Hp.le_none gH5 h0h)
    have n0m := (Hp.le_none gH5 h0m)
    have n0p := (Hp.le_none gH4 hpb)
    have n0t := (Hp.le_none gH3 htb)
    refine Axr ?_
    (refine @unH _ ?_; refine zX Axb ?_)
    generalize hG : Hp.set H6 pb _ = H7
    have vh7 := Aqf hG vhx (Aza vhx vpx (by decide))
    have vm7 := Aqf hG vmx (fun e => by rw [e, vpx] at vmx; cases vmx)
    have vp7 := Aqb hG
    have vt7 := Aqf hG vtx (Aza vtx vpx (by decide))
    have g7 : H3.le H7 := fun b x hx => Aqf hG (gH6 _ _ hx) (fun e => by rw [e, n0p] at hx; cases hx)
    have nth : hb ≠ tb := Aza vh7 vt7 (by decide)
    have ntp : pb ≠ tb := Aza vp7 vt7 (by decide)
    have ntm : mb ≠ tb := fun e => by rw [e, vt7] at vm7; cases vm7
    refine ⟨.inr (fun _ => by first | exact g7 | trivial), Axr ?_⟩
    (refine @unH _ ?_; refine zX Axb ?_)
    refine ⟨Axm hT0, ?_⟩
    rw [Awx hT0 vt7 rfl]
    refine ⟨.inl (by decide), Ak2 (hK _ _ ⟨hb, mb, pb, tb, rfl, rfl, rfl, rfl, rfl, fun b x hx => ?_, ⟨n0h, n0m, n0p, n0t⟩, ?_, ?_, ?_, Axp⟩)⟩
    ·rw [Aqv (fun e => by rw [e, n0t] at hx; cases hx)]; exact g7 _ _ hx
    ·rw [Aqv nth]; exact vh7
    ·rw [Aqv ntm]; exact vm7
    ·rw [Aqv ntp]; exact vp7
end Go.Proofs.YtnfnaehonkbknaaGreatDoor
end
