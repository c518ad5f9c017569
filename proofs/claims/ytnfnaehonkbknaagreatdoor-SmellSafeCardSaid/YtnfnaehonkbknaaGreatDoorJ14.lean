/- Texts SmB SmA SmM SmC SmK. -/
import Derived.Test.YtnfnaehonkbknaaGreatDoorJ13
set_option linter.defProp false
set_option linter.unusedSimpArgs false
set_option linter.unusedVariables false
set_option maxRecDepth 100000
set_option maxHeartbeats 2000000
section
namespace Go.Proofs.YtnfnaehonkbknaaGreatDoor
open Go Go.X
def Cq0 (c : List Int) (b : Int) (n : Ns) : Prop := n.sm = decide (b + gI c n.pl <= n.hr)
theorem Cx3 {c : List Int} {b : Int} : ∀ (ns : List Ns) (lo hi : Int), (∀ n ∈ ns, n.hr <= 12) -> 0 <= lo ->
  ((∃ l h, begN ns c lo hi = some (l, h) /\ l <= b /\ b <= h) ↔ (lo <= b /\ b <= hi /\ ∀ n ∈ ns, Cq0 c b n))
 | [], lo, hi, _, _ => by
  simp only [begN, Option.some.injEq, Prod.mk.injEq, List.not_mem_nil, false_implies, implies_true, and_true]
  constructor
  ·rintro ⟨l, h, ⟨rfl, rfl⟩, h1, h2⟩; exact ⟨h1, h2⟩
  ·rintro ⟨h1, h2⟩; exact ⟨lo, hi, ⟨rfl, rfl⟩, h1, h2⟩
 | n :: ns, lo, hi, hn, h0 => by
  have hn12 := hn n List.mem_cons_self
  have ih := Cx3 (c := c) (b := b) ns (if n.sm then lo else max lo (n.hr - gI c n.pl + 1)) (if n.sm then min hi (n.hr - gI c n.pl) else hi) (fun x hx => hn x (List.mem_cons_of_mem _ hx)) (by split <;> omega)
  unfold begN
  have key : (lo <= b /\ b <= hi /\ ∀ x ∈ n :: ns, Cq0 c b x) ↔ ((if n.sm then lo else max lo (n.hr - gI c n.pl + 1)) <= b /\ b <= (if n.sm then min hi (n.hr - gI c n.pl) else hi) /\ ∀ x ∈ ns, Cq0 c b x) := by
   rw [List.forall_mem_cons]
   have : Cq0 c b n ↔ (n.sm = true -> b + gI c n.pl <= n.hr) /\ (n.sm = false -> ¬ b + gI c n.pl <= n.hr) := by
    unfold Cq0
    cases n.sm with
    | true => simp
    | false => simp
   rw [this]
   cases n.sm with
   | true =>
    simp only [if_true, reduceCtorEq, false_implies, and_true, forall_const]
    constructor
    ·rintro ⟨h1, h2, h3, h4⟩; exact ⟨h1, by omega, h4⟩
    ·rintro ⟨h1, h2, h4⟩; exact ⟨h1, by omega, by omega, h4⟩
   | false =>
    simp only [Bool.false_eq_true, if_false, false_implies, true_and, forall_const]
    constructor
    ·rintro ⟨h1, h2, h3, h4⟩; exact ⟨by omega, h2, h4⟩
    ·rintro ⟨h1, h2, h4⟩; exact ⟨by omega, h2, by omega, h4⟩
  rw [key, <- ih]
  by_cases hc : (n.sm = true /\ gI c n.pl = 99) ∨ (if n.sm then min hi (n.hr - gI c n.pl) else hi) < (if n.sm then lo else max lo (n.hr - gI c n.pl + 1))
  ·rw [if_pos hc]
   constructor
   ·rintro ⟨l, h, h1, _⟩; cases h1
   ·intro h
    rw [ih] at h
    obtain ⟨h1, h2, _⟩ := h
    rcases hc with ⟨hs, h99⟩ | hc
    ·rw [hs] at h1 h2
     simp only [if_true] at h1 h2
     omega
    ·omega
  ·rw [if_neg hc]
theorem Ck8 {c : List Int} : ∀ (ns : List Ns) {lo hi l h : Int}, begN ns c lo hi = some (l, h) -> lo <= l /\ h <= hi
 | [], lo, hi, l, h, he => by
  simp [begN] at he
  omega
 | n :: ns, lo, hi, l, h, he => by
  unfold begN at he
  by_cases hc : (n.sm = true /\ gI c n.pl = 99) ∨ (if n.sm then min hi (n.hr - gI c n.pl) else hi) < (if n.sm then lo else max lo (n.hr - gI c n.pl + 1))
  ·rw [if_pos hc] at he; cases he
  ·rw [if_neg hc] at he
   have := Ck8 ns he
   constructor
   ·refine Int.le_trans ?_ this.1
    split <;> omega
   ·refine Int.le_trans this.2 ?_
    split <;> omega
theorem Czg {ns : List Ns} (hn : ∀ n ∈ ns, n.hr <= 12) {c : List Int} {b : Int} : fitB ns c b = true ↔ 0 <= b /\ b <= 12 /\ ∀ n ∈ ns, Cq0 c b n := by
 rw [<- Cx3 ns 0 12 hn (Int.le_refl _)]
 unfold fitB
 cases begN ns c 0 12 with
 | none => simp
 | some x =>
  obtain ⟨l, h⟩ := x
  simp only [decide_eq_true_eq, Option.some.injEq, Prod.mk.injEq]
  constructor
  ·rintro ⟨h1, h2⟩; exact ⟨l, h, ⟨rfl, rfl⟩, h1, h2⟩
  ·rintro ⟨_, _, ⟨rfl, rfl⟩, h1, h2⟩; exact ⟨h1, h2⟩
theorem Awy (w : Bd) (x : Int) : (Aza w x).some = true := by
 unfold Aza; split <;> rfl
theorem Bzi : ∀ (V : List Int) (w : Bd), w.some = true -> (V.foldl Aza w).some = true
 | [], _, h => h
 | x :: V, w, _ => Bzi V _ (Awy w x)
theorem Bwi : ∀ (V : List Int) (w : Bd), w.some = true -> (V.foldl Aza w).lo <= w.lo /\ w.hi <= (V.foldl Aza w).hi /\ (∀ x ∈ V, (V.foldl Aza w).lo <= x /\ x <= (V.foldl Aza w).hi) /\
  ((V.foldl Aza w).lo = w.lo ∨ (V.foldl Aza w).lo ∈ V) /\ ((V.foldl Aza w).hi = w.hi ∨ (V.foldl Aza w).hi ∈ V)
 | [], w, _ => ⟨Int.le_refl _, Int.le_refl _, fun x h => by simp at h, .inl rfl, .inl rfl⟩
 | x :: V, w, h => by
  have hw : Aza w x = ⟨min w.lo x, max w.hi x, true⟩ := by unfold Aza; rw [if_pos h]
  obtain ⟨h1, h2, h3, h4, h5⟩ := Bwi V (Aza w x) (Awy w x)
  rw [List.foldl_cons]
  generalize V.foldl Aza (Aza w x) = r at *
  rw [hw] at h1 h2 h4 h5
  simp only at h1 h2 h4 h5
  refine ⟨by omega, by omega, fun y hy => ?_, ?_, ?_⟩
  ·rcases List.mem_cons.1 hy with rfl | hy
   ·exact ⟨by omega, by omega⟩
   ·exact h3 y hy
  ·rcases h4 with h4 | h4
   ·rcases (by omega : r.lo = w.lo ∨ r.lo = x) with h | h
    ·exact .inl h
    ·exact .inr (by rw [h]; exact List.mem_cons_self)
   ·exact .inr (List.mem_cons_of_mem _ h4)
  ·rcases h5 with h5 | h5
   ·rcases (by omega : r.hi = w.hi ∨ r.hi = x) with h | h
    ·exact .inl h
    ·exact .inr (by rw [h]; exact List.mem_cons_self)
   ·exact .inr (List.mem_cons_of_mem _ h5)
structure IsBd (V : List Int) (w : Bd) : Prop where
 some : w.some = true
 all : ∀ x ∈ V, w.lo <= x /\ x <= w.hi
 lo : w.lo ∈ V
 hi : w.hi ∈ V
theorem Bw2 {V : List Int} (h : V ≠ []) : IsBd V (V.foldl Aza bd0) := by
 cases V with
 | nil => exact absurd rfl h
 | cons x V =>
  rw [List.foldl_cons]
  have hw : Aza bd0 x = ⟨x, x, true⟩ := rfl
  obtain ⟨h1, h2, h3, h4, h5⟩ := Bwi V (Aza bd0 x) (Awy _ x)
  have h6 := Bzi V (Aza bd0 x) (Awy _ x)
  generalize V.foldl Aza (Aza bd0 x) = r at *
  rw [hw] at h1 h2 h4 h5
  simp only at h1 h2 h4 h5
  refine ⟨h6, fun y hy => ?_, ?_, ?_⟩
  ·rcases List.mem_cons.1 hy with rfl | hy
   ·omega
   ·exact h3 y hy
  ·rcases h4 with h4 | h4
   ·rw [h4]; exact List.mem_cons_self
   ·exact List.mem_cons_of_mem _ h4
  ·rcases h5 with h5 | h5
   ·rw [h5]; exact List.mem_cons_self
   ·exact List.mem_cons_of_mem _ h5
theorem IsBd.lo_iff {V : List Int} {w : Bd} (h : IsBd V w) (k : Int) : w.lo <= k ↔ ∃ x ∈ V, x <= k := ⟨fun hk => ⟨_, h.lo, hk⟩, fun ⟨x, hx, hk⟩ => Int.le_trans (h.all x hx).1 hk⟩
theorem Bzy (pl b : Int) : ∀ (L : List (List Int × List Int)) (x : Hint), (L.foldl (Azd pl b) x).some = (x.some || !L.isEmpty) /\
  (L.foldl (Azd pl b) x).first = (if x.some then x.first else (L.head?.map (·.1)).getD x.first) /\ (L.foldl (Azd pl b) x).bs.length = x.bs.length /\
  ∀ (p : Nat) (w : Bd), x.bs[p]? = some w -> (L.foldl (Azd pl b) x).bs[p]? = some (if (p : Int) < pl then (L.map fun tc => min 99 (b + gI tc.2 p)).foldl Aza w else w)
 | [], x => ⟨by simp, by simp, rfl, fun p w h => by simp [h]⟩
 | tc :: L, x => by
  obtain ⟨h1, h2, h3, h4⟩ := Bzy pl b L (Azd pl b x tc)
  rw [List.foldl_cons]
  refine ⟨?_, ?_, ?_, fun p w hw => ?_⟩
  ·rw [h1]; simp [Azd]
  ·rw [h2]; simp [Azd]
  ·rw [h3]; simp [Azd]
  ·have := h4 p (if (p : Int) < pl then Aza w (min 99 (b + gI tc.2 p)) else w) (by simp [Azd, hw])
   rw [this]
   by_cases hp : (p : Int) < pl
   ·simp [hp]
   ·simp [hp]
def fitL (s : Sm) (L : List (List Int × List Int)) (b : Int) : List (List Int × List Int) := L.filter fun tc => fitB s.noses tc.2 b
theorem Bkd (s : Sm) (L : List (List Int × List Int)) (b : Int) : (Ays s L b).some = !(fitL s L b).isEmpty := by
 have h : (Ays s L b).some = _ := (Bzy s.places b (fitL s L b) Bw0).1
 rw [h]
 rfl
theorem Dq2 (s : Sm) (L : List (List Int × List Int)) (b : Int) {p : Nat} (h6 : p < 6) (hp : (p : Int) < s.places) : (Ays s L b).bs[p]? = some (((fitL s L b).map fun tc => min 99 (b + gI tc.2 p)).foldl Aza bd0) := by
 have := (Bzy s.places b (fitL s L b) Bw0).2.2.2 p bd0 (by show (List.replicate 6 bd0)[p]? = _; rw [List.getElem?_replicate, if_pos h6])
 rw [if_pos hp] at this
 exact this
theorem Czq {d : Dr} (h : 0 <= d.mn) (h' : d.mx <= 4) {n : Int} : n ∈ hrsF d ↔ d.mn <= n /\ n <= d.mx := by
 unfold hrsF
 rw [List.mem_filter]
 simp only [List.mem_map, List.mem_range, decide_eq_true_eq]
 constructor
 ·exact fun h => h.2
 ·intro hn
  exact ⟨⟨n.toNat, by omega, by omega⟩, hn⟩
theorem Akq : ∀ {ds : List Dr} {t : List Int}, t ∈ Axv ds -> t.length = ds.length
 | [], t, h => by
  simp [Axv] at h
  simp [h]
 | d :: ds, t, h => by
  simp only [Axv, List.mem_flatMap, List.mem_map] at h
  obtain ⟨n, _, t', h2, rfl⟩ := h
  simp [Akq h2]
theorem Akp {pl : Int} : ∀ {ds : List Dr} (hd : Av8 pl ds) {t : List Int}, t ∈ Axv ds ↔ t.length = ds.length /\ ∀ (i : Nat) (d : Dr) (n : Int), ds[i]? = some d -> t[i]? = some n -> d.mn <= n /\ n <= d.mx
 | [], _, t => by
  simp [Axv]
 | d :: ds, hd, t => by
  have hk := hd d List.mem_cons_self
  have := hk.m0
  have := hk.m2
  simp only [Axv, List.mem_flatMap, List.mem_map]
  cases t with
  | nil => simp
  | cons n t =>
   have ih := Akp (fun x hx => hd x (List.mem_cons_of_mem _ hx)) (t := t)
   constructor
   ·rintro ⟨m, hm, t', ht', he⟩
    obtain ⟨rfl, rfl⟩ := List.cons.inj he
    obtain ⟨h1, h2⟩ := ih.1 ht'
    refine ⟨by simp [h1], fun i d' n' hd' hn' => ?_⟩
    cases i with
    | zero =>
     simp at hd' hn'
     subst hd' hn'
     exact (Czq (by omega) (by omega)).1 hm
    | succ i => exact h2 i d' n' (by simpa using hd') (by simpa using hn')
   ·rintro ⟨h1, h2⟩
    exact ⟨n, (Czq (by omega) (by omega)).2 (h2 0 d n rfl rfl), t, ih.2 ⟨by simpa using h1, fun i d' n' hd' hn' => h2 (i + 1) d' n' (by simpa using hd') (by simpa using hn')⟩, rfl⟩
theorem Ckz {ds : List Dr} {t : List Int} (hl : t.length = ds.length) (u : List Int) {a b n : Int} : Edg ds (t ++ u) a b n ↔ Edg ds t a b n := by
 induction ds generalizing t with
 | nil => simp [Edg]
 | cons d ds ih =>
  cases t with
  | nil => simp at hl
  | cons x t => simp only [List.cons_append, Edg, ih (by simpa using hl)]
theorem Aka {pl : Int} {ds : List Dr} (hd : Av8 pl ds) {t : List Int} (ht : t ∈ Axv ds) : TsOk ds (pad6 t) := by
 intro a b n h
 obtain ⟨hl, hk⟩ := (Akp hd).1 ht
 rw [pad6, Ckz hl] at h
 obtain ⟨i, d, h1, h2, _⟩ := h.ix
 have := hk i d n h1 h2
 have hx := hd d (List.mem_of_getElem? h1)
 have := hx.m0
 have := hx.m2
 omega
def Ajy := And.intro (fun H => Aqd (H := H) Tryz.underlying87 (i := 2) rfl (off := 2) rfl Tryz.sizeOf4) (And.intro (fun H => Aqf (H := H) Tryz.underlying4 rfl) (And.intro (fun H => Aqd (H := H) Tryz.underlying87 (i := 0) rfl (off := 0) rfl Tryz.sizeOf3) (And.intro (fun H => Axh (H := H) Tryz.sizeOf3) (And.intro (fun H => Aqd (H := H) Tryz.underlying87 (i := 1) rfl (off := 1) rfl Tryz.sizeOf3) (And.intro (fun H => Ajl (H := H) Tryz.sizeOf4) (And.intro (fun H => Aqf (H := H) Tryz.underlying3 rfl) (And.intro @Ayx @Bvl)))))))
def Cys := And.intro (fun H => Aq8 (H := H) Tryz.underlying22) (And.intro (fun H => Aqu (H := H) Tryz.underlying22 Tryz.sizeOf3) (And.intro (fun H => Aqf (H := H) Tryz.underlying3 rfl) @Ayx))
theorem Axj (main : Md) (H : Hp) (n lo hi : Int) :
  FnX Tryz.prog main 59 #[.int .i64 n, .int .i64 lo, .int .i64 hi] H fun e H' => e = .returned (.bool (decide (n < lo) || decide (hi < n))) /\ H' = H := by
 refine Aqo Tryz.func59 rfl Tryz.ntmps59 (by simp) ?_
 by_cases h : n < lo
 ·(refine @unH _ (zA trivial ?_); (repeat refine inC fun hc => ?_); try refine inK fun K hK => ?_)
  (refine @unH _ ?_; refine z9 Tryz.results59 ?_)
  exact ⟨by simp [h], trivial⟩
 ·(refine @unH _ (zA trivial ?_); (repeat refine inC fun hc => ?_); try refine inK fun K hK => ?_)
  (refine @unH _ ?_; refine z9 Tryz.results59 ?_)
  exact ⟨by simp [h], trivial⟩
theorem Cwa : ∀ m : Fin 64, ∀ n : Fin 8, (bitv (fun x a b => a &&& b) IntKind.u8 ((m.val : Int).fdiv (2 ^ min (n.val : Int).toNat IntKind.u8.bits)) 1 == 1) = m.val.testBit (n.val : Int).toNat := by decide +kernel
theorem Cww (main : Md) (H : Hp) (m : Nat) (n : Int) (hm : m < 64) (h0 : 0 <= n) (h1 : n < 8) :
  FnX Tryz.prog main 66 #[.int .u8 m, .int .i64 n] H fun e H' => e = .returned (.bool (m.testBit n.toNat)) /\ H' = H := by
 refine Aqo Tryz.func66 rfl Tryz.ntmps66 (by simp) ?_
 (refine @unH _ (zA trivial ?_); (repeat refine inC fun hc => ?_); try refine inK fun K hK => ?_)
 (refine @unH _ ?_; refine z9 Tryz.results66 ?_)
 obtain ⟨a, b, rfl, rfl⟩ : ∃ (a : Fin 64) (b : Fin 8), a.val = m /\ (b.val : Int) = n := ⟨⟨m, hm⟩, ⟨n.toNat, by omega⟩, rfl, by simp; omega⟩
 exact ⟨by rw [Cwa a b], trivial⟩
theorem Cki (main : Md) (H : Hp) (m : Nat) (n : Int) (hm : m < 64) (h0 : 0 <= n) (h1 : n < 6) :
  FnX Tryz.prog main 63 #[.int .u8 m, .int .i64 n] H fun e H' => e = .returned (.int .u8 (Bq9 m n.toNat)) /\ H' = H := by
 refine Aqo Tryz.func63 rfl Tryz.ntmps63 (by simp) ?_
 (refine @unH _ (zA trivial ?_); (repeat refine inC fun hc => ?_); try refine inK fun K hK => ?_)
 (refine @unH _ ?_; refine z9 Tryz.results63 ?_)
 obtain ⟨a, b, rfl, rfl⟩ := Cwb hm h0 h1
 exact ⟨by rw [(Byt a b).1], trivial⟩
theorem Ayu (main : Md) (H : Hp) (x y : Int) (b : Nat) (p : Bool) (fr : Nat × Nat) (hb : H b = some (p, .cells #[.int .i64 y] 3 fr)) :
  FnX Tryz.prog main 47 #[.int .i64 x, .slice (some ⟨b, 0, none⟩) 1 1] H fun e H' => e = .returned (.int .i64 (min x y)) /\ H' = H := by
 refine Aqo Tryz.func47 rfl Tryz.ntmps47 (by simp) ?_
 (refine @unH _ (zA Cys ?_); (repeat refine inC fun hc => ?_); try refine inK fun K hK => ?_)
 refine Axg (fun w a' H' => ∃ e j, w = 1 - j /\ j <= 1 /\ a' = act 18 e [] /\ e 0 = .int .i64 (if j = 0 then x else min x y) /\ e 7 = .slice (some ⟨b, 0, none⟩) 1 1 /\ e 8 = .int .i64 1 /\ e 9 = .int .i64 (j : Nat) /\ H' = H) (n := 1) ?_ ?_
 ·exact ⟨_, 0, by omega, by omega, rfl, rfl, rfl, rfl, rfl, rfl⟩
 ·rintro w a' H' ⟨e, j, rfl, hj, rfl, e0, e7, e8, e9, rfl⟩
  rcases (by omega : j = 0 ∨ j = 1) with rfl | rfl
  ·simp only [if_true] at e0
   (refine @unH _ (zA Cys ?_); (repeat refine inC fun hc => ?_); try refine inK fun K hK => ?_)
   refine ⟨0, by omega, _, 1, rfl, by omega, rfl, ?_, e7, e8, rfl, trivial⟩
   show Value.int .i64 (if y < x then y else x) = Value.int .i64 (min x y)
   congr 1
   split <;> omega
  ·(refine @unH _ (zA Cys ?_); (repeat refine inC fun hc => ?_); try refine inK fun K hK => ?_)
   (refine @unH _ ?_; refine z9 Tryz.results47 ?_)
   exact ⟨trivial, trivial⟩
structure BdC (c : Array Value) (o : Nat) (b : Bd) : Prop where
 lo : c[o]? = some (.int .i64 b.lo)
 hi : c[o + 1]? = some (.int .i64 b.hi)
 sm : c[o + 2]? = some (.bool b.some)
theorem BdC.size {c : Array Value} {o : Nat} {b : Bd} (h : BdC c o b) : o + 2 < c.size := (Array.getElem?_eq_some_iff.1 h.sm).1
def Bjt (c : Array Value) (o : Nat) (b : Bd) : Array Value := ((c.setIfInBounds o (.int .i64 b.lo)).setIfInBounds (o + 1) (.int .i64 b.hi)).setIfInBounds (o + 2) (.bool b.some)
theorem Bqx {c : Array Value} {i : Nat} {v : Value} : (c.setIfInBounds i v).size = c.size := by simp
theorem Bqg {c : Array Value} {o : Nat} {b : Bd} (h : o + 2 < c.size) (i : Nat) : (Bjt c o b)[i]? = if i = o then some (.int .i64 b.lo) else if i = o + 1 then some (.int .i64 b.hi) else if i = o + 2 then some (.bool b.some) else c[i]? := by
 unfold Bjt
 simp only [Array.getElem?_setIfInBounds, Array.size_setIfInBounds]
 by_cases e0 : i = o
 ·subst e0
  rw [if_pos rfl, if_neg (by omega), if_neg (by omega), if_pos rfl, if_pos (by omega)]
 ·by_cases e1 : i = o + 1
  ·subst e1
   rw [if_neg e0, if_pos rfl, if_neg (by omega), if_pos rfl, if_pos (by omega)]
  ·by_cases e2 : i = o + 2
   ·subst e2
    rw [if_neg e0, if_neg e1, if_pos rfl, if_pos rfl, if_pos (by omega)]
   ·rw [if_neg e0, if_neg e1, if_neg e2, if_neg (by omega), if_neg (by omega), if_neg (by omega)]
theorem Cjb (c : Array Value) (o : Nat) (b : Bd) : (Bjt c o b).size = c.size := by simp [Bjt]
theorem Byc (main : Md) (H : Hp) (bb o : Nat) (b : Bd) (x : Int) (c : Array Value) (e : TypeId) (vb : H bb = some (true, .cells c e (0, 0))) (hb : BdC c o b) :
  FnX Tryz.prog main 46 #[.pointer (some ⟨bb, o, none⟩), .int .i64 x] H fun e' H' => e' = .returned (.tuple #[]) /\ H' bb = some (true, .cells (Bjt c o (Aza b x)) e (0, 0)) /\ ∀ y, y ≠ bb -> H' y = H y := by
 have hsz := hb.size
 obtain ⟨b0, b1, b2⟩ := hb
 obtain ⟨lo, hi, sm⟩ := b
 simp only at b0 b1 b2
 cases sm with
 | false =>
  refine Aqo Tryz.func46 rfl Tryz.ntmps46 (by simp) ?_
  (refine @unH _ (zA (And.intro Ajy @Bqx) ?_); (repeat refine inC fun hc => ?_); try refine inK fun K hK => ?_)
  obtain ⟨c1, hc1⟩ : ∃ c1 : Array Value, c1 = ((c.setIfInBounds o (.int .i64 x)).setIfInBounds (o + 1) (.int .i64 x)).setIfInBounds (o + 2) (.bool true) := ⟨_, rfl⟩
  have hs1 : c1.size = c.size := by rw [hc1]; simp
  have g0 : c1[o]? = some (.int .i64 x) := by rw [hc1]; simp [Array.getElem?_setIfInBounds, show o < c.size by omega]
  have g1 : c1[o + 1]? = some (.int .i64 x) := by rw [hc1]; simp [Array.getElem?_setIfInBounds, show o + 1 < c.size by omega]
  have hz1 : o < c1.size := by omega
  have hz2 : o + 1 < c1.size := by omega
  have hput : (c1.setIfInBounds o (.int .i64 (if x < x then x else x))).setIfInBounds (o + 1) (.int .i64 (if x < x then x else x)) = Bjt c o (Aza ⟨lo, hi, false⟩ x) := by
   apply Array.ext_getElem?
   intro i
   rw [Bqg hsz, hc1]
   simp only [Array.getElem?_setIfInBounds, Array.size_setIfInBounds, Aza, Bool.false_eq_true, if_false, if_true]
   by_cases e1 : i = o + 1
   ·subst e1
    simp only [show ¬ (o + 1 = o) by omega, show o + 1 < c.size by omega, ↓reduceIte]
    refine congrArg some (congrArg (Value.int .i64) ?_); (try dsimp only); (repeat' split) <;> omega
   ·by_cases e0 : i = o
    ·subst e0
     simp only [show ¬ (i + 1 = i) by omega, show i < c.size by omega, ↓reduceIte]
     refine congrArg some (congrArg (Value.int .i64) ?_); (try dsimp only); (repeat' split) <;> omega
    ·rw [if_neg (Ne.symm e1), if_neg (Ne.symm e0), if_neg e0, if_neg e1]
     by_cases e2 : i = o + 2
     ·subst e2
      rw [if_pos rfl, if_pos rfl, if_pos (by omega)]
     ·rw [if_neg (Ne.symm e2), if_neg (Ne.symm e1), if_neg (Ne.symm e0), if_neg e2]
  rw [<- hc1]
  generalize hG : Hp.set H bb (.cells c1 e (0, 0)) = H1
  have v1 : H1 bb = some (true, .cells c1 e (0, 0)) := by rw [<- hG, Axf]
  have ho : ∀ y, y ≠ bb -> H1 y = H y := fun y hy => by rw [<- hG, Aqw hy]
  clear hc1 vb b0 b1 b2 hG
  refine Axl (fun HX => HX bb = some (true, .cells c1 e (0, 0))) [16, 19] (.free 0 (.free 1 (.free 2 (.free 3 (.free 4 (.take 5 (.free 6 (.free 7 (.free 8 (.free 9 (.free 10 (.take 11 (.free 12 (.free 13 (.free 14 (.free 15 (.one 16 (.free 17 (.free 18 (.one 19 .nil)))))))))))))))))))) (by kernel_rfl) (by kernel_rfl) (by decide) (by kernel_rfl) ?_; intro K hK
  (iterate 5 (refine @unH _ ?_; refine zI Ajy ?_))
  (refine @unH _ ?_; refine zJ Ajy ?_)
  (iterate 5 (refine @unH _ ?_; refine zI Ajy ?_))
  (refine @unH _ ?_; refine zJ Ajy ?_)
  (iterate 4 (refine @unH _ ?_; refine zI Ajy ?_))
  refine Aqx ?_
  (refine @unH _ ?_; refine zX Ajy ?_)
  refine ⟨.inl (by decide), ?_⟩
  (iterate 2 (refine @unH _ ?_; refine zI Ajy ?_))
  refine Aqx ?_
  (refine @unH _ ?_; refine zX (And.intro Ajy @Bqx) ?_)
  refine ⟨.inl (by decide), ?_⟩
  refine Axq (hK _ _ ?_)
  clear hK K
  (try refine @unH _ (zQ ?_))
  (refine @unH _ ?_; refine zD Tryz.results46 ?_)
  refine ⟨by trivial, ?_, fun y hy => (Aqw hy).trans (ho y hy)⟩
  rw [Axf, <- hput]
 | true =>
  refine Aqo Tryz.func46 rfl Tryz.ntmps46 (by simp) ?_
  (refine @unH _ (zA (And.intro Ajy @Bqx) ?_); (repeat refine inC fun hc => ?_); try refine inK fun K hK => ?_)
  obtain ⟨c1, hc1⟩ : ∃ c1 : Array Value, c1 = c := ⟨_, rfl⟩
  have hs1 : c1.size = c.size := by rw [hc1]
  have g0 : c1[o]? = some (.int .i64 lo) := by rw [hc1]; exact b0
  have g1 : c1[o + 1]? = some (.int .i64 hi) := by rw [hc1]; exact b1
  have hz1 : o < c1.size := by omega
  have hz2 : o + 1 < c1.size := by omega
  have hput : (c1.setIfInBounds o (.int .i64 (if x < lo then x else lo))).setIfInBounds (o + 1) (.int .i64 (if hi < x then x else hi)) = Bjt c o (Aza ⟨lo, hi, true⟩ x) := by
   apply Array.ext_getElem?
   intro i
   rw [Bqg hsz, hc1]
   simp only [Array.getElem?_setIfInBounds, Array.size_setIfInBounds, Aza, Bool.false_eq_true, if_false, if_true]
   by_cases e1 : i = o + 1
   ·subst e1
    simp only [show ¬ (o + 1 = o) by omega, show o + 1 < c.size by omega, ↓reduceIte]
    refine congrArg some (congrArg (Value.int .i64) ?_); (try dsimp only); (repeat' split) <;> omega
   ·by_cases e0 : i = o
    ·subst e0
     simp only [show ¬ (i + 1 = i) by omega, show i < c.size by omega, ↓reduceIte]
     refine congrArg some (congrArg (Value.int .i64) ?_); (try dsimp only); (repeat' split) <;> omega
    ·rw [if_neg (Ne.symm e1), if_neg (Ne.symm e0), if_neg e0, if_neg e1]
     by_cases e2 : i = o + 2
     ·subst e2
      rw [if_pos rfl, b2]
     ·rw [if_neg e2]
  have v1 : H bb = some (true, .cells c1 e (0, 0)) := by rw [hc1]; exact vb
  clear hc1 vb b0 b1 b2
  refine Axl (fun HX => HX bb = some (true, .cells c1 e (0, 0))) [16, 19] (.free 0 (.free 1 (.free 2 (.free 3 (.free 4 (.take 5 (.free 6 (.free 7 (.free 8 (.free 9 (.free 10 (.take 11 (.free 12 (.free 13 (.free 14 (.free 15 (.one 16 (.free 17 (.free 18 (.one 19 .nil)))))))))))))))))))) (by kernel_rfl) (by kernel_rfl) (by decide) (by kernel_rfl) ?_; intro K hK
  (iterate 5 (refine @unH _ ?_; refine zI Ajy ?_))
  (refine @unH _ ?_; refine zJ Ajy ?_)
  (iterate 5 (refine @unH _ ?_; refine zI Ajy ?_))
  (refine @unH _ ?_; refine zJ Ajy ?_)
  (iterate 4 (refine @unH _ ?_; refine zI Ajy ?_))
  refine Aqx ?_
  (refine @unH _ ?_; refine zX Ajy ?_)
  refine ⟨.inl (by decide), ?_⟩
  (iterate 2 (refine @unH _ ?_; refine zI Ajy ?_))
  refine Aqx ?_
  (refine @unH _ ?_; refine zX (And.intro Ajy @Bqx) ?_)
  refine ⟨.inl (by decide), ?_⟩
  refine Axq (hK _ _ ?_)
  clear hK K
  (try refine @unH _ (zQ ?_))
  (refine @unH _ ?_; refine zD Tryz.results46 ?_)
  refine ⟨by trivial, ?_, fun y hy => Aqw hy⟩
  rw [Axf, <- hput]
end Go.Proofs.YtnfnaehonkbknaaGreatDoor
end
section
namespace Go.X
open Go
def SlG (e : TypeId) (sz : Nat) (H : Hp) (v : Value) (rows : List (List Value)) : Prop :=
 ∃ a cap, v = .slice a rows.length cap /\ rows.length <= cap /\ ∀ (i : Nat) (r : List Value), rows[i]? = some r -> ∃ b o p c fr, a = some ⟨b, o, none⟩ /\ H b = some (p, .cells c e fr) /\ o + i * sz + sz <= c.size /\ r.length = sz /\ c.extract (o + i * sz) (o + i * sz + sz) = r.toArray
theorem SlG.move {e : TypeId} {sz : Nat} {H H' : Hp} {v : Value} {rows : List (List Value)} (h : SlG e sz H v rows) (hl : ∀ x p c fr, H x = some (p, .cells c e fr) -> ∃ p', H' x = some (p', .cells c e fr)) : SlG e sz H' v rows := by
 obtain ⟨a, cap, h1, h2, h3⟩ := h
 refine ⟨a, cap, h1, h2, fun i r hr => ?_⟩
 obtain ⟨b, o, p, c, fr, h4, h5, h6, h7, h8⟩ := h3 i r hr
 obtain ⟨p', h9⟩ := hl _ _ _ _ h5
 exact ⟨b, o, p', c, fr, h4, h9, h6, h7, h8⟩
theorem SlG.le {e : TypeId} {sz : Nat} {H H' : Hp} {v : Value} {rows : List (List Value)} (h : SlG e sz H v rows) (hl : H.le H') : SlG e sz H' v rows := h.move fun x p c fr hx => ⟨p, hl _ _ hx⟩
theorem SlG.get {e : TypeId} {sz : Nat} {H : Hp} {a : Option Addr} {n cap : Nat} {rows : List (List Value)} (h : SlG e sz H (.slice a n cap) rows) {i : Nat} {r : List Value} (hr : rows[i]? = some r) :
  ∃ b o p c fr, a = some ⟨b, o, none⟩ /\ H b = some (p, .cells c e fr) /\ o + i * sz + sz <= c.size /\ r.length = sz /\ c.extract (o + i * sz) (o + i * sz + sz) = r.toArray := by
 obtain ⟨a', cap', h1, h2, h3⟩ := h
 cases h1
 exact h3 i r hr
theorem SlG.len {e : TypeId} {sz : Nat} {H : Hp} {a : Option Addr} {n cap : Nat} {rows : List (List Value)} (h : SlG e sz H (.slice a n cap) rows) : n = rows.length /\ rows.length <= cap := by
 obtain ⟨a', cap', h1, h2, h3⟩ := h
 cases h1
 exact ⟨rfl, h2⟩
theorem SlG.isSlice {e : TypeId} {sz : Nat} {H : Hp} {v : Value} {rows : List (List Value)} (h : SlG e sz H v rows) : ∃ a n cap, v = .slice a n cap := by
 obtain ⟨a', cap', h1, h2, h3⟩ := h
 exact ⟨_, _, _, h1⟩
theorem Bx6 {c : Array Value} {o n : Nat} {r : List Value} (h : c.extract o (o + n) = r.toArray) (hs : o + n <= c.size) {k : Nat} {x : Value} (hx : r[k]? = some x) : c[o + k]? = some x := by
 have h1 : (c.extract o (o + n))[k]? = some x := by rw [h]; simpa using hx
 rw [Array.getElem?_extract] at h1
 split at h1
 ·exact h1
 ·cases h1
end Go.X
namespace Go.Proofs.YtnfnaehonkbknaaGreatDoor
open Go Go.X
def Bjv (d : Dr) : List Value := [.int .i64 d.a, .int .i64 d.b, .int .i64 d.mn, .int .i64 d.mx]
def Bjz (n : Ns) : List Value := [.int .i64 n.pl, .int .i64 n.hr, .bool n.sm]
def SlD (H : Hp) (v : Value) (ds : List Dr) : Prop := SlG 66 4 H v (ds.map Bjv)
def SlN (H : Hp) (v : Value) (ns : List Ns) : Prop := SlG 46 3 H v (ns.map Bjz)
theorem SlD.move {H H' : Hp} {v : Value} {ds : List Dr} (h : SlD H v ds) (hl : ∀ x p c fr, H x = some (p, .cells c 66 fr) -> ∃ p', H' x = some (p', .cells c 66 fr)) : SlD H' v ds := SlG.move h hl
theorem SlN.move {H H' : Hp} {v : Value} {ns : List Ns} (h : SlN H v ns) (hl : ∀ x p c fr, H x = some (p, .cells c 46 fr) -> ∃ p', H' x = some (p', .cells c 46 fr)) : SlN H' v ns := SlG.move h hl
theorem SlD.le {H H' : Hp} {v : Value} {ds : List Dr} (h : SlD H v ds) (hl : H.le H') : SlD H' v ds := SlG.le h hl
theorem SlN.le {H H' : Hp} {v : Value} {ns : List Ns} (h : SlN H v ns) (hl : H.le H') : SlN H' v ns := SlG.le h hl
theorem SlD.isSlice {H : Hp} {v : Value} {ds : List Dr} (h : SlD H v ds) : ∃ a n cap, v = .slice a n cap := SlG.isSlice h
theorem SlN.isSlice {H : Hp} {v : Value} {ns : List Ns} (h : SlN H v ns) : ∃ a n cap, v = .slice a n cap := SlG.isSlice h
abbrev smV (pl : Int) (dv hv nv : Value) : Value := .agg #[.int .i64 pl, dv, hv, nv]
abbrev smO (pl : Int) (dv hv nv : Value) : Obj := .cells #[.int .i64 pl, dv, hv, nv] 26 (0, 0)
structure SmIn (H : Hp) (dv hv nv : Value) (s : Sm) : Prop where
 dd : SlD H dv s.doors
 hh : SlI H hv s.hampers
 nn : SlN H nv s.noses
theorem SmIn.le {H H' : Hp} {dv hv nv : Value} {s : Sm} (h : SmIn H dv hv nv s) (hl : H.le H') : SmIn H' dv hv nv s := ⟨h.dd.le hl, h.hh.le hl, h.nn.le hl⟩
theorem SlD.get {H : Hp} {a : Option Addr} {n cap : Nat} {ds : List Dr} (h : SlD H (.slice a n cap) ds) {i : Nat} {d : Dr} (hd : ds[i]? = some d) :
  ∃ b o p c fr, a = some ⟨b, o, none⟩ /\ H b = some (p, .cells c 66 fr) /\ o + i * 4 + 4 <= c.size /\ c.extract (o + i * 4) (o + i * 4 + 4) = #[.int .i64 d.a, .int .i64 d.b, .int .i64 d.mn, .int .i64 d.mx] := by
 obtain ⟨b, o, p, c, fr, h1, h2, h3, h4, h5⟩ := SlG.get h (i := i) (r := Bjv d) (by simp [hd])
 exact ⟨b, o, p, c, fr, h1, h2, h3, h5⟩
theorem SlN.get {H : Hp} {a : Option Addr} {n cap : Nat} {ns : List Ns} (h : SlN H (.slice a n cap) ns) {i : Nat} {d : Ns} (hd : ns[i]? = some d) :
  ∃ b o p c fr, a = some ⟨b, o, none⟩ /\ H b = some (p, .cells c 46 fr) /\ o + i * 3 + 3 <= c.size /\ c.extract (o + i * 3) (o + i * 3 + 3) = #[.int .i64 d.pl, .int .i64 d.hr, .bool d.sm] := by
 obtain ⟨b, o, p, c, fr, h1, h2, h3, h4, h5⟩ := SlG.get h (i := i) (r := Bjz d) (by simp [hd])
 exact ⟨b, o, p, c, fr, h1, h2, h3, h5⟩
theorem SlD.len {H : Hp} {a : Option Addr} {n cap : Nat} {ds : List Dr} (h : SlD H (.slice a n cap) ds) : n = ds.length /\ ds.length <= cap := by
 have := SlG.len h
 simpa using this
theorem SlN.len {H : Hp} {a : Option Addr} {n cap : Nat} {ns : List Ns} (h : SlN H (.slice a n cap) ns) : n = ns.length /\ ns.length <= cap := by
 have := SlG.len h
 simpa using this
theorem SmIn.forms {H : Hp} {dv hv nv : Value} {s : Sm} (h : SmIn H dv hv nv s) : ∃ da dc ha hc na nc, dv = .slice da s.doors.length dc /\ hv = .slice ha s.hampers.length hc /\ nv = .slice na s.noses.length nc /\ s.doors.length <= dc /\ s.hampers.length <= hc /\ s.noses.length <= nc := by
 obtain ⟨a1, n1, c1, rfl⟩ := h.dd.isSlice
 obtain ⟨a2, c2, rfl, l2, _⟩ := id h.hh
 obtain ⟨a3, n3, c3, rfl⟩ := h.nn.isSlice
 obtain ⟨rfl, l1⟩ := h.dd.len
 obtain ⟨rfl, l3⟩ := h.nn.len
 refine ⟨a1, c1, a2, c2, a3, c3, ?_, rfl, ?_, ?_, l2, ?_⟩ <;> first | simp | simpa using l1 | simpa using l3
end Go.Proofs.YtnfnaehonkbknaaGreatDoor
end
section
namespace Go.Proofs.YtnfnaehonkbknaaGreatDoor
open Go Go.X
def Azx := And.intro (fun H => Aqd (H := H) Tryz.underlying26 (i := 0) rfl (off := 0) rfl Tryz.sizeOf3) (And.intro (fun H => Aqf (H := H) Tryz.underlying3 rfl) (And.intro @Ayo (And.intro (fun H => Aqd (H := H) Tryz.underlying26 (i := 1) rfl (off := 1) rfl Tryz.sizeOf23) (And.intro (fun H => Aqf (H := H) Tryz.underlying23 rfl) (And.intro (fun H => Aq8 (H := H) Tryz.underlying23) (And.intro (fun H => Aqu (H := H) Tryz.underlying23 Tryz.sizeOf66) (And.intro (fun H => Aqp (H := H) Tryz.underlying66 rfl Tryz.sizeOf66) (And.intro (fun H => Aqv (H := H) (P := Tryz.prog) (h := Tryz.zeroValue66)) (And.intro (fun H => Aqr (H := H) Tryz.sizeOf66) (And.intro (fun H => Aqp (H := H) Tryz.underlying26 rfl Tryz.sizeOf26) (And.intro @Djj (And.intro (fun H => Aqd (H := H) Tryz.underlying26 (i := 2) rfl (off := 2) rfl Tryz.sizeOf22) (And.intro (fun H => Aqf (H := H) Tryz.underlying22 rfl) (And.intro (fun H => Aq8 (H := H) Tryz.underlying22) (And.intro (fun H => Aqu (H := H) Tryz.underlying22 Tryz.sizeOf3) (And.intro @Djk (And.intro @Dji (And.intro (fun H => Aqd (H := H) Tryz.underlying26 (i := 3) rfl (off := 3) rfl Tryz.sizeOf24) (And.intro (fun H => Aqf (H := H) Tryz.underlying24 rfl) (And.intro (fun H => Aq8 (H := H) Tryz.underlying24) (And.intro (fun H => Aqu (H := H) Tryz.underlying24 Tryz.sizeOf46) (And.intro (fun H => Aqp (H := H) Tryz.underlying46 rfl Tryz.sizeOf46) (And.intro (fun H => Aqv (H := H) (P := Tryz.prog) (h := Tryz.zeroValue46)) (And.intro (fun H => Aqr (H := H) Tryz.sizeOf46) (And.intro @Djd (And.intro @Cvu (And.intro @Djw (And.intro (fun H => By4 (H := H) Tryz.underlying103) (And.intro (fun H => Bkz (H := H) Tryz.underlying103) (And.intro (fun H => By5 (H := H) Tryz.underlying103) (And.intro (fun H => Bk1 (H := H) Tryz.underlying103) @Dje)))))))))))))))))))))))))))))))
def Bjo := And.intro (fun H => Aqd (H := H) Tryz.underlying46 (i := 0) rfl (off := 0) rfl Tryz.sizeOf3) (And.intro (fun H => Aqf (H := H) Tryz.underlying3 rfl) (And.intro (fun H => Aqd (H := H) Tryz.underlying26 (i := 0) rfl (off := 0) rfl Tryz.sizeOf3) (And.intro @Ayo (And.intro @Bk3 (And.intro (fun H => Dq9 (H := H) Tryz.underlying131 rfl) (fun H => Aqd (H := H) Tryz.underlying46 (i := 1) rfl (off := 1) rfl Tryz.sizeOf3))))))
def Aww := And.intro (fun H => Aqd (H := H) Tryz.underlying66 (i := 0) rfl (off := 0) rfl Tryz.sizeOf3) (And.intro (fun H => Aqf (H := H) Tryz.underlying3 rfl) (And.intro (fun H => Aqd (H := H) Tryz.underlying26 (i := 0) rfl (off := 0) rfl Tryz.sizeOf3) (And.intro @Ayo (And.intro (fun H => Aqd (H := H) Tryz.underlying66 (i := 1) rfl (off := 1) rfl Tryz.sizeOf3) (And.intro (fun H => Aqd (H := H) Tryz.underlying66 (i := 2) rfl (off := 2) rfl Tryz.sizeOf34) (And.intro (fun H => Aqd (H := H) Tryz.underlying34 (i := 0) rfl (off := 0) rfl Tryz.sizeOf3) (fun H => Aqd (H := H) Tryz.underlying34 (i := 1) rfl (off := 1) rfl Tryz.sizeOf3)))))))
theorem Bwq (main : Md) (H : Hp) (pl : Int) (dv hv nv : Value) (n : Ns) (at_ : Int) (hn : NsOk pl n) (hp : pl <= 6) (h1 : one dv = true) (h2 : one hv = true) (h3 : one nv = true) :
  FnX Tryz.prog main 53 #[smV pl dv hv nv, .agg #[.int .i64 n.pl, .int .i64 n.hr, .bool n.sm], .int .i64 at_] H fun e H' => e = .returned .nilIface /\ H.le H' := by
 obtain ⟨p0, p1, q0, q1⟩ := hn
 refine Aqo Tryz.func53 rfl Tryz.ntmps53 (by simp) ?_
 (refine @unH _ (zA Bjo ?_); (repeat refine inC fun hc => ?_); try refine inK fun K hK => ?_)
 (intro sb hsb nb hnb; replace hnb : (Hp.set _ sb _) nb = none := hnb; generalize hG : Hp.set _ sb _ = H1 at hnb ⊢; have lH1 := Aqc hG hsb; have wsb := Aqb hG; clear hG; generalize hG : Hp.set _ nb _ = H2; have lH2 := Aqc hG hnb; have vnb := Aqb hG; have vsb := lH2 _ _ wsb; have nsbnb := Aqq wsb hnb; clear hG wsb)
 have l2 := Hp.le_trans lH1 lH2
 clear hsb hnb lH1 lH2
 ((try refine @unH _ (zX Bjo ?_)); (try (refine hK _ _ ?_; clear hK K; try refine @unH _ (zQ ?_))); refine @unH _ (zA Bjo ?_); (repeat refine inC fun hc => ?_); try refine inK fun K hK => ?_)
 refine (Axj main H2 n.pl 0 (pl - 1)).runs.mono ?_
 rintro _ _ ⟨rfl, hQ⟩
 rw [hQ, show (decide (n.pl < 0) || decide (pl - 1 < n.pl)) = false by simp; omega]
 clear hQ
 ((try refine @unH _ (zX Bjo ?_)); (try (refine hK _ _ ?_; clear hK K; try refine @unH _ (zQ ?_))); refine @unH _ (zA Bjo ?_); (repeat refine inC fun hc => ?_); try refine inK fun K hK => ?_)
 refine (Axj main H2 n.hr 0 12).runs.mono ?_
 rintro _ _ ⟨rfl, hQ⟩
 rw [hQ, show (decide (n.hr < 0) || decide (12 < n.hr)) = false by simp; omega]
 clear hQ
 ((try refine @unH _ (zX Bjo ?_)); (try (refine hK _ _ ?_; clear hK K; try refine @unH _ (zQ ?_))); refine @unH _ (zA Bjo ?_); (repeat refine inC fun hc => ?_); try refine inK fun K hK => ?_)
 (refine @unH _ ?_; refine z9 Tryz.results53 ?_)
 exact ⟨trivial, l2⟩
theorem Bwp (main : Md) (H : Hp) (pl : Int) (dv hv nv : Value) (d : Dr) (hn : DrOk pl d) (hp : pl <= 6) (h1 : one dv = true) (h2 : one hv = true) (h3 : one nv = true) :
  FnX Tryz.prog main 65 #[smV pl dv hv nv, .agg #[.int .i64 d.a, .int .i64 d.b, .int .i64 d.mn, .int .i64 d.mx]] H fun e H' => e = .returned (.int .i64 0) /\ H.le H' := by
 obtain ⟨p0, p1, q0, q1, ne, r0, r1, r2⟩ := hn
 refine Aqo Tryz.func65 rfl Tryz.ntmps65 (by simp) ?_
 (refine @unH _ (zA Aww ?_); (repeat refine inC fun hc => ?_); try refine inK fun K hK => ?_)
 (intro sb hsb nb hnb; replace hnb : (Hp.set _ sb _) nb = none := hnb; generalize hG : Hp.set _ sb _ = H1 at hnb ⊢; have lH1 := Aqc hG hsb; have wsb := Aqb hG; clear hG; generalize hG : Hp.set _ nb _ = H2; have lH2 := Aqc hG hnb; have vnb := Aqb hG; have vsb := lH2 _ _ wsb; have nsbnb := Aqq wsb hnb; clear hG wsb)
 have l2 := Hp.le_trans lH1 lH2
 clear hsb hnb lH1 lH2
 ((try refine @unH _ (zX Aww ?_)); (try (refine hK _ _ ?_; clear hK K; try refine @unH _ (zQ ?_))); refine @unH _ (zA Aww ?_); (repeat refine inC fun hc => ?_); try refine inK fun K hK => ?_)
 refine (Axj main H2 d.a 0 (pl - 1)).runs.mono ?_
 rintro _ _ ⟨rfl, hQ⟩
 rw [hQ, show (decide (d.a < 0) || decide (pl - 1 < d.a)) = false by simp; omega]
 clear hQ
 ((try refine @unH _ (zX Aww ?_)); (try (refine hK _ _ ?_; clear hK K; try refine @unH _ (zQ ?_))); refine @unH _ (zA Aww ?_); (repeat refine inC fun hc => ?_); try refine inK fun K hK => ?_)
 refine (Axj main H2 d.b 0 (pl - 1)).runs.mono ?_
 rintro _ _ ⟨rfl, hQ⟩
 rw [hQ, show (decide (d.b < 0) || decide (pl - 1 < d.b)) = false by simp; omega]
 clear hQ
 ((try refine @unH _ (zX Aww ?_)); (try (refine hK _ _ ?_; clear hK K; try refine @unH _ (zQ ?_))); refine @unH _ (zA Aww ?_); (repeat refine inC fun hc => ?_); try refine inK fun K hK => ?_)
 refine (Axj main H2 d.mn 1 4).runs.mono ?_
 rintro _ _ ⟨rfl, hQ⟩
 rw [hQ, show (decide (d.mn < 1) || decide (4 < d.mn)) = false by simp; omega]
 clear hQ
 ((try refine @unH _ (zX Aww ?_)); (try (refine hK _ _ ?_; clear hK K; try refine @unH _ (zQ ?_))); refine @unH _ (zA Aww ?_); (repeat refine inC fun hc => ?_); try refine inK fun K hK => ?_)
 refine (Axj main H2 d.mx 1 4).runs.mono ?_
 rintro _ _ ⟨rfl, hQ⟩
 rw [hQ, show (decide (d.mx < 1) || decide (4 < d.mx)) = false by simp; omega]
 clear hQ
 ((try refine @unH _ (zX Aww ?_)); (try (refine hK _ _ ?_; clear hK K; try refine @unH _ (zQ ?_))); refine @unH _ (zA Aww ?_); (repeat refine inC fun hc => ?_); try refine inK fun K hK => ?_)
 (refine @unH _ ?_; refine z9 Tryz.results65 ?_)
 exact ⟨trivial, l2⟩
theorem Dxd (xs : List Int) (x : Int) : oOf (xs ++ [x]) = Bq9 (oOf xs) x.toNat := by simp [oOf]
theorem Avr (main : Md) (H : Hp) (s : Sm) (dv hv nv : Value) (hs : SmIn H dv hv nv s) (ok : SmOk s) :
  FnX Tryz.prog main 31 #[smV s.places dv hv nv] H fun e H' => e = .returned (.int .i64 0) /\ H.le H' := by
 obtain ⟨da, dc, ha, kc, na, nc, rfl, rfl, rfl, l1, l2, l3⟩ := hs.forms
 obtain ⟨p0, p1, dl, dk, h0, h1, hk, hd, nl, nk⟩ := ok
 obtain ⟨pl, ds, hp, ns⟩ := s
 simp only at *
 have hsD : SlD H _ ds := hs.dd
 have hsH : SlI H _ hp := hs.hh
 have hsN : SlN H _ ns := hs.nn
 clear hs
 refine Aqo Tryz.func31 rfl Tryz.ntmps31 (by simp) ?_
 (refine @unH _ (zA Azx ?_); (repeat refine inC fun hc => ?_); try refine inK fun K hK => ?_)
 (intro sb hsb; generalize hG : Hp.set _ sb _ = H1; have lH1 := Aqc hG hsb; have vsb := Aqb hG; clear hG)
 replace hsD := hsD.le lH1
 replace hsH := hsH.le lH1
 replace hsN := hsN.le lH1
 ((try refine @unH _ (zX Azx ?_)); (try (refine hK _ _ ?_; clear hK K; try refine @unH _ (zQ ?_))); refine @unH _ (zA Azx ?_); (repeat refine inC fun hc => ?_); try refine inK fun K hK => ?_)
 refine (Axj main H1 pl 1 6).runs.mono ?_
 rintro _ _ ⟨rfl, hQ⟩
 rw [hQ, show (decide (pl < 1) || decide (6 < pl)) = false by simp; omega]
 clear hQ
 ((try refine @unH _ (zX Azx ?_)); (try (refine hK _ _ ?_; clear hK K; try refine @unH _ (zQ ?_))); refine @unH _ (zA Azx ?_); (repeat refine inC fun hc => ?_); try refine inK fun K hK => ?_)
 refine Axg (fun w a' H' => ∃ e, ∃ k : Nat, w = ds.length - k /\ k <= ds.length /\ a' = act 83 e [] /\ e 1 = .pointer (some ⟨sb, 0, none⟩) /\ e 21 = .slice da ds.length dc /\ e 22 = .int .i64 ds.length /\ e 23 = .int .i64 (k : Nat) /\ H1.le H') (n := ds.length) ?_ ?_
 ·exact ⟨_, 0, by omega, by omega, rfl, rfl, rfl, rfl, rfl, Hp.le_refl _⟩
 ·rename_i eold
  clear eold
  rintro w a' H2 ⟨e, k, rfl, hk', rfl, e1, e21, e22, e23, l12⟩
  have vs2 := l12 _ _ vsb
  by_cases hlt : k < ds.length
  ·obtain ⟨b, o, p, c, fr, rfl, hb, hcs, hce⟩ := hsD.get (List.getElem?_eq_getElem hlt)
   have hdk := dk _ (List.getElem_mem hlt)
   generalize ds[k] = d at *
   have hb2 := l12 _ _ hb
   clear hb vsb hsD
   (refine @unH _ (zA Azx ?_); (repeat refine inC fun hc => ?_); try refine inK fun K hK => ?_)
   intro ab hab
   have nsb := Aqq vs2 hab
   ((try refine @unH _ (zX Azx ?_)); (try (refine hK _ _ ?_; clear hK K; try refine @unH _ (zQ ?_))); refine @unH _ (zA Azx ?_); (repeat refine inC fun hc => ?_); try refine inK fun K hK => ?_)
   generalize hG : Hp.set _ ab _ = H3
   have vs3 := Aqi hG vs2 nsb
   have l13 := Hp.le_trans l12 (Aqc hG hab)
   clear vs2 hb2 hab hG
   refine (Bwp main H3 pl (.slice _ _ _) (.slice _ _ _) (.slice _ _ _) d hdk p1 rfl rfl rfl).runs.mono ?_
   rintro _ H4 ⟨rfl, lH4⟩
   have l14 := Hp.le_trans l13 lH4
   clear lH4 vs3 hce hcs hdk
   ((try refine @unH _ (zX Azx ?_)); (try (refine hK _ _ ?_; clear hK K; try refine @unH _ (zQ ?_))); refine @unH _ (zA Azx ?_); (repeat refine inC fun hc => ?_); try refine inK fun K hK => ?_)
   exact ⟨_, by omega, _, k + 1, rfl, by omega, rfl, e1, e21, e22, rfl, l14⟩
  ·obtain rfl : k = ds.length := by omega
   have hn0 : (hp.length : Int) ≠ 0 := by omega
   (refine @unH _ (zA Azx ?_); (repeat refine inC fun hc => ?_); try refine inK fun K hK => ?_)
   clear e21 e22 e23 hsD
   refine Axg (fun w a' H' => ∃ e, ∃ k : Nat, w = hp.length - k /\ k <= hp.length /\ a' = act 83 e [] /\ e 1 = .pointer (some ⟨sb, 0, none⟩) /\ e 7 = .int .u8 (oOf (hp.take k) : Nat) /\ e 44 = .slice ha hp.length kc /\ e 45 = .int .i64 hp.length /\ e 46 = .int .i64 (k : Nat) /\ H1.le H') (n := hp.length) ?_ ?_
   ·exact ⟨_, 0, by omega, by omega, rfl, e1, rfl, rfl, rfl, rfl, l12⟩
   clear vs2 l12 e1 H2
   rename_i eold
   clear eold
   rintro w a' H2 ⟨e, k, rfl, hk', rfl, e1, e7, e44, e45, e46, l12⟩
   have vs2 := l12 _ _ vsb
   by_cases hlt : k < hp.length
   ·obtain ⟨b, o, p, c, fr, rfl, hb, hce⟩ := hsH.get (List.getElem?_eq_getElem hlt)
    have hce' : c[o + (k : Int).toNat * 1]? = some (.int .i64 hp[k]) := by simpa using hce
    have hx := hk _ (List.getElem_mem hlt)
    have hb2 := l12 _ _ hb
    have hnm : (oOf (hp.take k)).testBit (hp[k]).toNat = false := by
     rw [Cq2 _ (fun x hx => (hk x (List.mem_of_mem_take hx)).1) _ hx.1]
     rw [decide_eq_false_iff_not]
     intro hm
     have := List.nodup_iff_pairwise_ne.1 hd
     obtain ⟨i, hi, he⟩ := List.getElem_of_mem hm
     rw [List.length_take] at hi
     rw [List.getElem_take] at he
     exact (List.pairwise_iff_getElem.1 this i k (by omega) hlt (by omega)) he
    have hlt64 : oOf (hp.take k) < 64 := Dx4 _ 0 (by decide) (fun x hx => by have := hk x (List.mem_of_mem_take hx); omega)
    have hsn : oOf (hp.take (k + 1)) = Bq9 (oOf (hp.take k)) (hp[k]).toNat := by rw [List.take_add_one, List.getElem?_eq_getElem hlt]; exact Dxd _ _
    obtain ⟨m1, hm1⟩ : ∃ m1, m1 = oOf (hp.take (k + 1)) := ⟨_, rfl⟩
    rw [<- hm1] at hsn
    replace hm1 : Aqk _ := hm1
    generalize oOf (hp.take k) = m at *
    generalize hp[k] = x at *
    clear hb vsb
    replace hsn : Aqk _ := hsn
    replace hnm : Aqk _ := hnm
    (refine @unH _ (zA Azx ?_); (repeat refine inC fun hc => ?_); try refine inK fun K hK => ?_)
    refine (Axj main H2 x 0 (pl - 1)).runs.mono ?_
    rintro _ _ ⟨rfl, hQ⟩
    rw [hQ, show (decide (x < 0) || decide (pl - 1 < x)) = false by simp; omega]
    clear hQ
    ((try refine @unH _ (zX Azx ?_)); (try (refine hK _ _ ?_; clear hK K; try refine @unH _ (zQ ?_))); refine @unH _ (zA Azx ?_); (repeat refine inC fun hc => ?_); try refine inK fun K hK => ?_)
    refine (Cww main H2 m x hlt64 hx.1 (by omega)).runs.mono ?_
    rintro _ _ ⟨rfl, hQ⟩
    rw [hQ, show m.testBit x.toNat = false from hnm]
    clear hQ
    ((try refine @unH _ (zX Azx ?_)); (try (refine hK _ _ ?_; clear hK K; try refine @unH _ (zQ ?_))); refine @unH _ (zA Azx ?_); (repeat refine inC fun hc => ?_); try refine inK fun K hK => ?_)
    refine (Cki main H2 m x hlt64 hx.1 (by omega)).runs.mono ?_
    rintro _ _ ⟨rfl, hQ⟩
    rw [hQ, <- show m1 = Bq9 m x.toNat from hsn]
    clear hQ
    ((try refine @unH _ (zX Azx ?_)); (try (refine hK _ _ ?_; clear hK K; try refine @unH _ (zQ ?_))); refine @unH _ (zA Azx ?_); (repeat refine inC fun hc => ?_); try refine inK fun K hK => ?_)
    exact ⟨_, by omega, _, k + 1, rfl, by omega, rfl, e1, by rw [<- show m1 = _ from hm1]; rfl, e44, e45, rfl, l12⟩
   ·obtain rfl : k = hp.length := by omega
    (refine @unH _ (zA Azx ?_); (repeat refine inC fun hc => ?_); try refine inK fun K hK => ?_)
    clear e7 e44 e45 e46 hsH
    refine Axg (fun w a' H' => ∃ e, ∃ k : Nat, w = ns.length - k /\ k <= ns.length /\ a' = act 83 e [] /\ e 1 = .pointer (some ⟨sb, 0, none⟩) /\ e 67 = .slice na ns.length nc /\ e 68 = .int .i64 ns.length /\ e 69 = .int .i64 (k : Nat) /\ H1.le H') (n := ns.length) ?_ ?_
    ·exact ⟨_, 0, by omega, by omega, rfl, e1, rfl, rfl, rfl, l12⟩
    clear vs2 l12 e1 H2
    rename_i eold
    clear eold
    rintro w a' H2 ⟨e, k, rfl, hk', rfl, e1, e67, e68, e69, l12⟩
    have vs2 := l12 _ _ vsb
    by_cases hlt : k < ns.length
    ·obtain ⟨b, o, p, c, fr, rfl, hb, hcs, hce⟩ := hsN.get (List.getElem?_eq_getElem hlt)
     have hdk := nk _ (List.getElem_mem hlt)
     generalize ns[k] = d at *
     have hb2 := l12 _ _ hb
     clear hb vsb hsN
     (refine @unH _ (zA Azx ?_); (repeat refine inC fun hc => ?_); try refine inK fun K hK => ?_)
     intro ab hab
     have nsb := Aqq vs2 hab
     ((try refine @unH _ (zX Azx ?_)); (try (refine hK _ _ ?_; clear hK K; try refine @unH _ (zQ ?_))); refine @unH _ (zA Azx ?_); (repeat refine inC fun hc => ?_); try refine inK fun K hK => ?_)
     generalize hG : Hp.set _ ab _ = H3
     have vs3 := Aqi hG vs2 nsb
     have l13 := Hp.le_trans l12 (Aqc hG hab)
     clear vs2 hb2 hab hG
     refine (Bwq main H3 pl (.slice _ _ _) (.slice _ _ _) (.slice _ _ _) d _ hdk p1 rfl rfl rfl).runs.mono ?_
     rintro _ H4 ⟨rfl, lH4⟩
     have l14 := Hp.le_trans l13 lH4
     clear lH4 vs3 hce hcs hdk
     ((try refine @unH _ (zX Azx ?_)); (try (refine hK _ _ ?_; clear hK K; try refine @unH _ (zQ ?_))); refine @unH _ (zA Azx ?_); (repeat refine inC fun hc => ?_); try refine inK fun K hK => ?_)
     exact ⟨_, by omega, _, k + 1, rfl, by omega, rfl, e1, e67, e68, rfl, l14⟩
    ·obtain rfl : k = ns.length := by omega
     (refine @unH _ (zA Azx ?_); (repeat refine inC fun hc => ?_); try refine inK fun K hK => ?_)
     (refine @unH _ ?_; refine z9 Tryz.results31 ?_)
     exact ⟨trivial, Hp.le_trans lH1 l12⟩
end Go.Proofs.YtnfnaehonkbknaaGreatDoor
end
section
namespace Go.X
open Go
section
variable {P : Program} {ks : TypeId}
theorem Bj9 {H : Hp} {t et : TypeId} (hu : P.underlying t = some (.array 6 et)) {d : IntKind} (he : P.underlying et = some (.int d)) (hs : ∀ w, (sizeOf et).run P w = .ok 1 w) (n : Nat) (x0 x1 x2 x3 x4 x5 y0 y1 y2 y3 y4 y5 : Int) (K : Bool -> Hp -> Prop) (E : Value -> Hp -> Prop) :
  wpS P (Op.equalIn (n + 1 + 1) t (.agg #[.int .i64 x0, .int .i64 x1, .int .i64 x2, .int .i64 x3, .int .i64 x4, .int .i64 x5]) (.agg #[.int .i64 y0, .int .i64 y1, .int .i64 y2, .int .i64 y3, .int .i64 y4, .int .i64 y5])) H K E = K (x0 == y0 && (x1 == y1 && (x2 == y2 && (x3 == y3 && (x4 == y4 && (x5 == y5)))))) H := by
 conv => lhs; unfold Op.equalIn
 simp only [Aqa, Aqh hu, Aq0 hs, Std.Legacy.Range.forIn_eq_forIn_range', Std.Legacy.Range.size]
 simp only [Nat.sub_zero, Nat.add_one_sub_one, Nat.div_one, List.range'_succ, List.range'_zero, List.forIn_cons, List.forIn_nil, Aqa, Aqe]
 simp only [Aqn he rfl (v := .int .i64 x0) #[.int .i64 x0, .int .i64 x1, .int .i64 x2, .int .i64 x3, .int .i64 x4, .int .i64 x5] (0 * 1) rfl, Aqn he rfl (v := .int .i64 x1) #[.int .i64 x0, .int .i64 x1, .int .i64 x2, .int .i64 x3, .int .i64 x4, .int .i64 x5] ((0 + 1) * 1) rfl, Aqn he rfl (v := .int .i64 x2) #[.int .i64 x0, .int .i64 x1, .int .i64 x2, .int .i64 x3, .int .i64 x4, .int .i64 x5] ((0 + 1 + 1) * 1) rfl, Aqn he rfl (v := .int .i64 x3) #[.int .i64 x0, .int .i64 x1, .int .i64 x2, .int .i64 x3, .int .i64 x4, .int .i64 x5] ((0 + 1 + 1 + 1) * 1) rfl, Aqn he rfl (v := .int .i64 x4) #[.int .i64 x0, .int .i64 x1, .int .i64 x2, .int .i64 x3, .int .i64 x4, .int .i64 x5] ((0 + 1 + 1 + 1 + 1) * 1) rfl, Aqn he rfl (v := .int .i64 x5) #[.int .i64 x0, .int .i64 x1, .int .i64 x2, .int .i64 x3, .int .i64 x4, .int .i64 x5] ((0 + 1 + 1 + 1 + 1 + 1) * 1) rfl, Aqn he rfl (v := .int .i64 y0) #[.int .i64 y0, .int .i64 y1, .int .i64 y2, .int .i64 y3, .int .i64 y4, .int .i64 y5] (0 * 1) rfl, Aqn he rfl (v := .int .i64 y1) #[.int .i64 y0, .int .i64 y1, .int .i64 y2, .int .i64 y3, .int .i64 y4, .int .i64 y5] ((0 + 1) * 1) rfl, Aqn he rfl (v := .int .i64 y2) #[.int .i64 y0, .int .i64 y1, .int .i64 y2, .int .i64 y3, .int .i64 y4, .int .i64 y5] ((0 + 1 + 1) * 1) rfl, Aqn he rfl (v := .int .i64 y3) #[.int .i64 y0, .int .i64 y1, .int .i64 y2, .int .i64 y3, .int .i64 y4, .int .i64 y5] ((0 + 1 + 1 + 1) * 1) rfl, Aqn he rfl (v := .int .i64 y4) #[.int .i64 y0, .int .i64 y1, .int .i64 y2, .int .i64 y3, .int .i64 y4, .int .i64 y5] ((0 + 1 + 1 + 1 + 1) * 1) rfl, Aqn he rfl (v := .int .i64 y5) #[.int .i64 y0, .int .i64 y1, .int .i64 y2, .int .i64 y3, .int .i64 y4, .int .i64 y5] ((0 + 1 + 1 + 1 + 1 + 1) * 1) rfl, Ajp he]
 generalize (x0 == y0) = q
 cases q
 ·simp only [Bool.not_false, if_true, Aqe, Bool.false_and]
 simp only [Bool.not_true, Bool.false_eq_true, if_false, Aqe, Aqa, Bool.true_and, Aqn he rfl (v := .int .i64 x0) #[.int .i64 x0, .int .i64 x1, .int .i64 x2, .int .i64 x3, .int .i64 x4, .int .i64 x5] (0 * 1) rfl, Aqn he rfl (v := .int .i64 x1) #[.int .i64 x0, .int .i64 x1, .int .i64 x2, .int .i64 x3, .int .i64 x4, .int .i64 x5] ((0 + 1) * 1) rfl, Aqn he rfl (v := .int .i64 x2) #[.int .i64 x0, .int .i64 x1, .int .i64 x2, .int .i64 x3, .int .i64 x4, .int .i64 x5] ((0 + 1 + 1) * 1) rfl, Aqn he rfl (v := .int .i64 x3) #[.int .i64 x0, .int .i64 x1, .int .i64 x2, .int .i64 x3, .int .i64 x4, .int .i64 x5] ((0 + 1 + 1 + 1) * 1) rfl, Aqn he rfl (v := .int .i64 x4) #[.int .i64 x0, .int .i64 x1, .int .i64 x2, .int .i64 x3, .int .i64 x4, .int .i64 x5] ((0 + 1 + 1 + 1 + 1) * 1) rfl, Aqn he rfl (v := .int .i64 x5) #[.int .i64 x0, .int .i64 x1, .int .i64 x2, .int .i64 x3, .int .i64 x4, .int .i64 x5] ((0 + 1 + 1 + 1 + 1 + 1) * 1) rfl, Aqn he rfl (v := .int .i64 y0) #[.int .i64 y0, .int .i64 y1, .int .i64 y2, .int .i64 y3, .int .i64 y4, .int .i64 y5] (0 * 1) rfl, Aqn he rfl (v := .int .i64 y1) #[.int .i64 y0, .int .i64 y1, .int .i64 y2, .int .i64 y3, .int .i64 y4, .int .i64 y5] ((0 + 1) * 1) rfl, Aqn he rfl (v := .int .i64 y2) #[.int .i64 y0, .int .i64 y1, .int .i64 y2, .int .i64 y3, .int .i64 y4, .int .i64 y5] ((0 + 1 + 1) * 1) rfl, Aqn he rfl (v := .int .i64 y3) #[.int .i64 y0, .int .i64 y1, .int .i64 y2, .int .i64 y3, .int .i64 y4, .int .i64 y5] ((0 + 1 + 1 + 1) * 1) rfl, Aqn he rfl (v := .int .i64 y4) #[.int .i64 y0, .int .i64 y1, .int .i64 y2, .int .i64 y3, .int .i64 y4, .int .i64 y5] ((0 + 1 + 1 + 1 + 1) * 1) rfl, Aqn he rfl (v := .int .i64 y5) #[.int .i64 y0, .int .i64 y1, .int .i64 y2, .int .i64 y3, .int .i64 y4, .int .i64 y5] ((0 + 1 + 1 + 1 + 1 + 1) * 1) rfl, Ajp he]
 generalize (x1 == y1) = q
 cases q
 ·simp only [Bool.not_false, if_true, Aqe, Bool.false_and]
 simp only [Bool.not_true, Bool.false_eq_true, if_false, Aqe, Aqa, Bool.true_and, Aqn he rfl (v := .int .i64 x0) #[.int .i64 x0, .int .i64 x1, .int .i64 x2, .int .i64 x3, .int .i64 x4, .int .i64 x5] (0 * 1) rfl, Aqn he rfl (v := .int .i64 x1) #[.int .i64 x0, .int .i64 x1, .int .i64 x2, .int .i64 x3, .int .i64 x4, .int .i64 x5] ((0 + 1) * 1) rfl, Aqn he rfl (v := .int .i64 x2) #[.int .i64 x0, .int .i64 x1, .int .i64 x2, .int .i64 x3, .int .i64 x4, .int .i64 x5] ((0 + 1 + 1) * 1) rfl, Aqn he rfl (v := .int .i64 x3) #[.int .i64 x0, .int .i64 x1, .int .i64 x2, .int .i64 x3, .int .i64 x4, .int .i64 x5] ((0 + 1 + 1 + 1) * 1) rfl, Aqn he rfl (v := .int .i64 x4) #[.int .i64 x0, .int .i64 x1, .int .i64 x2, .int .i64 x3, .int .i64 x4, .int .i64 x5] ((0 + 1 + 1 + 1 + 1) * 1) rfl, Aqn he rfl (v := .int .i64 x5) #[.int .i64 x0, .int .i64 x1, .int .i64 x2, .int .i64 x3, .int .i64 x4, .int .i64 x5] ((0 + 1 + 1 + 1 + 1 + 1) * 1) rfl, Aqn he rfl (v := .int .i64 y0) #[.int .i64 y0, .int .i64 y1, .int .i64 y2, .int .i64 y3, .int .i64 y4, .int .i64 y5] (0 * 1) rfl, Aqn he rfl (v := .int .i64 y1) #[.int .i64 y0, .int .i64 y1, .int .i64 y2, .int .i64 y3, .int .i64 y4, .int .i64 y5] ((0 + 1) * 1) rfl, Aqn he rfl (v := .int .i64 y2) #[.int .i64 y0, .int .i64 y1, .int .i64 y2, .int .i64 y3, .int .i64 y4, .int .i64 y5] ((0 + 1 + 1) * 1) rfl, Aqn he rfl (v := .int .i64 y3) #[.int .i64 y0, .int .i64 y1, .int .i64 y2, .int .i64 y3, .int .i64 y4, .int .i64 y5] ((0 + 1 + 1 + 1) * 1) rfl, Aqn he rfl (v := .int .i64 y4) #[.int .i64 y0, .int .i64 y1, .int .i64 y2, .int .i64 y3, .int .i64 y4, .int .i64 y5] ((0 + 1 + 1 + 1 + 1) * 1) rfl, Aqn he rfl (v := .int .i64 y5) #[.int .i64 y0, .int .i64 y1, .int .i64 y2, .int .i64 y3, .int .i64 y4, .int .i64 y5] ((0 + 1 + 1 + 1 + 1 + 1) * 1) rfl, Ajp he]
 generalize (x2 == y2) = q
 cases q
 ·simp only [Bool.not_false, if_true, Aqe, Bool.false_and]
 simp only [Bool.not_true, Bool.false_eq_true, if_false, Aqe, Aqa, Bool.true_and, Aqn he rfl (v := .int .i64 x0) #[.int .i64 x0, .int .i64 x1, .int .i64 x2, .int .i64 x3, .int .i64 x4, .int .i64 x5] (0 * 1) rfl, Aqn he rfl (v := .int .i64 x1) #[.int .i64 x0, .int .i64 x1, .int .i64 x2, .int .i64 x3, .int .i64 x4, .int .i64 x5] ((0 + 1) * 1) rfl, Aqn he rfl (v := .int .i64 x2) #[.int .i64 x0, .int .i64 x1, .int .i64 x2, .int .i64 x3, .int .i64 x4, .int .i64 x5] ((0 + 1 + 1) * 1) rfl, Aqn he rfl (v := .int .i64 x3) #[.int .i64 x0, .int .i64 x1, .int .i64 x2, .int .i64 x3, .int .i64 x4, .int .i64 x5] ((0 + 1 + 1 + 1) * 1) rfl, Aqn he rfl (v := .int .i64 x4) #[.int .i64 x0, .int .i64 x1, .int .i64 x2, .int .i64 x3, .int .i64 x4, .int .i64 x5] ((0 + 1 + 1 + 1 + 1) * 1) rfl, Aqn he rfl (v := .int .i64 x5) #[.int .i64 x0, .int .i64 x1, .int .i64 x2, .int .i64 x3, .int .i64 x4, .int .i64 x5] ((0 + 1 + 1 + 1 + 1 + 1) * 1) rfl, Aqn he rfl (v := .int .i64 y0) #[.int .i64 y0, .int .i64 y1, .int .i64 y2, .int .i64 y3, .int .i64 y4, .int .i64 y5] (0 * 1) rfl, Aqn he rfl (v := .int .i64 y1) #[.int .i64 y0, .int .i64 y1, .int .i64 y2, .int .i64 y3, .int .i64 y4, .int .i64 y5] ((0 + 1) * 1) rfl, Aqn he rfl (v := .int .i64 y2) #[.int .i64 y0, .int .i64 y1, .int .i64 y2, .int .i64 y3, .int .i64 y4, .int .i64 y5] ((0 + 1 + 1) * 1) rfl, Aqn he rfl (v := .int .i64 y3) #[.int .i64 y0, .int .i64 y1, .int .i64 y2, .int .i64 y3, .int .i64 y4, .int .i64 y5] ((0 + 1 + 1 + 1) * 1) rfl, Aqn he rfl (v := .int .i64 y4) #[.int .i64 y0, .int .i64 y1, .int .i64 y2, .int .i64 y3, .int .i64 y4, .int .i64 y5] ((0 + 1 + 1 + 1 + 1) * 1) rfl, Aqn he rfl (v := .int .i64 y5) #[.int .i64 y0, .int .i64 y1, .int .i64 y2, .int .i64 y3, .int .i64 y4, .int .i64 y5] ((0 + 1 + 1 + 1 + 1 + 1) * 1) rfl, Ajp he]
 generalize (x3 == y3) = q
 cases q
 ·simp only [Bool.not_false, if_true, Aqe, Bool.false_and]
 simp only [Bool.not_true, Bool.false_eq_true, if_false, Aqe, Aqa, Bool.true_and, Aqn he rfl (v := .int .i64 x0) #[.int .i64 x0, .int .i64 x1, .int .i64 x2, .int .i64 x3, .int .i64 x4, .int .i64 x5] (0 * 1) rfl, Aqn he rfl (v := .int .i64 x1) #[.int .i64 x0, .int .i64 x1, .int .i64 x2, .int .i64 x3, .int .i64 x4, .int .i64 x5] ((0 + 1) * 1) rfl, Aqn he rfl (v := .int .i64 x2) #[.int .i64 x0, .int .i64 x1, .int .i64 x2, .int .i64 x3, .int .i64 x4, .int .i64 x5] ((0 + 1 + 1) * 1) rfl, Aqn he rfl (v := .int .i64 x3) #[.int .i64 x0, .int .i64 x1, .int .i64 x2, .int .i64 x3, .int .i64 x4, .int .i64 x5] ((0 + 1 + 1 + 1) * 1) rfl, Aqn he rfl (v := .int .i64 x4) #[.int .i64 x0, .int .i64 x1, .int .i64 x2, .int .i64 x3, .int .i64 x4, .int .i64 x5] ((0 + 1 + 1 + 1 + 1) * 1) rfl, Aqn he rfl (v := .int .i64 x5) #[.int .i64 x0, .int .i64 x1, .int .i64 x2, .int .i64 x3, .int .i64 x4, .int .i64 x5] ((0 + 1 + 1 + 1 + 1 + 1) * 1) rfl, Aqn he rfl (v := .int .i64 y0) #[.int .i64 y0, .int .i64 y1, .int .i64 y2, .int .i64 y3, .int .i64 y4, .int .i64 y5] (0 * 1) rfl, Aqn he rfl (v := .int .i64 y1) #[.int .i64 y0, .int .i64 y1, .int .i64 y2, .int .i64 y3, .int .i64 y4, .int .i64 y5] ((0 + 1) * 1) rfl, Aqn he rfl (v := .int .i64 y2) #[.int .i64 y0, .int .i64 y1, .int .i64 y2, .int .i64 y3, .int .i64 y4, .int .i64 y5] ((0 + 1 + 1) * 1) rfl, Aqn he rfl (v := .int .i64 y3) #[.int .i64 y0, .int .i64 y1, .int .i64 y2, .int .i64 y3, .int .i64 y4, .int .i64 y5] ((0 + 1 + 1 + 1) * 1) rfl, Aqn he rfl (v := .int .i64 y4) #[.int .i64 y0, .int .i64 y1, .int .i64 y2, .int .i64 y3, .int .i64 y4, .int .i64 y5] ((0 + 1 + 1 + 1 + 1) * 1) rfl, Aqn he rfl (v := .int .i64 y5) #[.int .i64 y0, .int .i64 y1, .int .i64 y2, .int .i64 y3, .int .i64 y4, .int .i64 y5] ((0 + 1 + 1 + 1 + 1 + 1) * 1) rfl, Ajp he]
 generalize (x4 == y4) = q
 cases q
 ·simp only [Bool.not_false, if_true, Aqe, Bool.false_and]
 simp only [Bool.not_true, Bool.false_eq_true, if_false, Aqe, Aqa, Bool.true_and, Aqn he rfl (v := .int .i64 x0) #[.int .i64 x0, .int .i64 x1, .int .i64 x2, .int .i64 x3, .int .i64 x4, .int .i64 x5] (0 * 1) rfl, Aqn he rfl (v := .int .i64 x1) #[.int .i64 x0, .int .i64 x1, .int .i64 x2, .int .i64 x3, .int .i64 x4, .int .i64 x5] ((0 + 1) * 1) rfl, Aqn he rfl (v := .int .i64 x2) #[.int .i64 x0, .int .i64 x1, .int .i64 x2, .int .i64 x3, .int .i64 x4, .int .i64 x5] ((0 + 1 + 1) * 1) rfl, Aqn he rfl (v := .int .i64 x3) #[.int .i64 x0, .int .i64 x1, .int .i64 x2, .int .i64 x3, .int .i64 x4, .int .i64 x5] ((0 + 1 + 1 + 1) * 1) rfl, Aqn he rfl (v := .int .i64 x4) #[.int .i64 x0, .int .i64 x1, .int .i64 x2, .int .i64 x3, .int .i64 x4, .int .i64 x5] ((0 + 1 + 1 + 1 + 1) * 1) rfl, Aqn he rfl (v := .int .i64 x5) #[.int .i64 x0, .int .i64 x1, .int .i64 x2, .int .i64 x3, .int .i64 x4, .int .i64 x5] ((0 + 1 + 1 + 1 + 1 + 1) * 1) rfl, Aqn he rfl (v := .int .i64 y0) #[.int .i64 y0, .int .i64 y1, .int .i64 y2, .int .i64 y3, .int .i64 y4, .int .i64 y5] (0 * 1) rfl, Aqn he rfl (v := .int .i64 y1) #[.int .i64 y0, .int .i64 y1, .int .i64 y2, .int .i64 y3, .int .i64 y4, .int .i64 y5] ((0 + 1) * 1) rfl, Aqn he rfl (v := .int .i64 y2) #[.int .i64 y0, .int .i64 y1, .int .i64 y2, .int .i64 y3, .int .i64 y4, .int .i64 y5] ((0 + 1 + 1) * 1) rfl, Aqn he rfl (v := .int .i64 y3) #[.int .i64 y0, .int .i64 y1, .int .i64 y2, .int .i64 y3, .int .i64 y4, .int .i64 y5] ((0 + 1 + 1 + 1) * 1) rfl, Aqn he rfl (v := .int .i64 y4) #[.int .i64 y0, .int .i64 y1, .int .i64 y2, .int .i64 y3, .int .i64 y4, .int .i64 y5] ((0 + 1 + 1 + 1 + 1) * 1) rfl, Aqn he rfl (v := .int .i64 y5) #[.int .i64 y0, .int .i64 y1, .int .i64 y2, .int .i64 y3, .int .i64 y4, .int .i64 y5] ((0 + 1 + 1 + 1 + 1 + 1) * 1) rfl, Ajp he]
 generalize (x5 == y5) = q
 cases q
 ·simp only [Bool.not_false, if_true, Aqe, Bool.false_and]
 ·simp only [Bool.not_true, Bool.false_eq_true, if_false, Aqe, Aqa, Bool.true_and]
theorem Cji {H : Hp} {t et : TypeId} (hu : P.underlying t = some (.array 6 et)) {d : IntKind} (he : P.underlying et = some (.int d)) (hs : ∀ w, (sizeOf et).run P w = .ok 1 w) (em : Bool) (n : Nat) (x0 x1 x2 x3 x4 x5 : Int) (K : Unit -> Hp -> Prop) (E : Value -> Hp -> Prop) :
  wpS P (Instr.checkKey em (n + 1 + 1) t (.agg #[.int .i64 x0, .int .i64 x1, .int .i64 x2, .int .i64 x3, .int .i64 x4, .int .i64 x5])) H K E = K () H := by
 conv => lhs; unfold Instr.checkKey
 simp only [Aqa, Aqh hu, Aq0 hs, Std.Legacy.Range.forIn_eq_forIn_range', Std.Legacy.Range.size]
 simp only [Nat.sub_zero, Nat.add_one_sub_one, Nat.div_one, List.range'_succ, List.range'_zero, List.forIn_cons, List.forIn_nil, Aqa, Aqe, Aq0 hs, Aqn he rfl (v := .int .i64 x0) #[.int .i64 x0, .int .i64 x1, .int .i64 x2, .int .i64 x3, .int .i64 x4, .int .i64 x5] (0 * 1) rfl, Aqn he rfl (v := .int .i64 x1) #[.int .i64 x0, .int .i64 x1, .int .i64 x2, .int .i64 x3, .int .i64 x4, .int .i64 x5] ((0 + 1) * 1) rfl, Aqn he rfl (v := .int .i64 x2) #[.int .i64 x0, .int .i64 x1, .int .i64 x2, .int .i64 x3, .int .i64 x4, .int .i64 x5] ((0 + 1 + 1) * 1) rfl, Aqn he rfl (v := .int .i64 x3) #[.int .i64 x0, .int .i64 x1, .int .i64 x2, .int .i64 x3, .int .i64 x4, .int .i64 x5] ((0 + 1 + 1 + 1) * 1) rfl, Aqn he rfl (v := .int .i64 x4) #[.int .i64 x0, .int .i64 x1, .int .i64 x2, .int .i64 x3, .int .i64 x4, .int .i64 x5] ((0 + 1 + 1 + 1 + 1) * 1) rfl, Aqn he rfl (v := .int .i64 x5) #[.int .i64 x0, .int .i64 x1, .int .i64 x2, .int .i64 x3, .int .i64 x4, .int .i64 x5] ((0 + 1 + 1 + 1 + 1 + 1) * 1) rfl, Bxo he]
theorem Bz7 (l : List Int) (h : l.length = 6) : ∃ x0 x1 x2 x3 x4 x5, l = [x0, x1, x2, x3, x4, x5] := by
 match l, h with
 | [x0, x1, x2, x3, x4, x5], _ => exact ⟨x0, x1, x2, x3, x4, x5, rfl⟩
def arrV (l : List Int) : Value := .agg (l.map fun x => Value.int .i64 x).toArray
theorem Bwj {H : Hp} {t et : TypeId} (hu : P.underlying t = some (.array 6 et)) {d : IntKind} (he : P.underlying et = some (.int d)) (hs : ∀ w, (sizeOf et).run P w = .ok 1 w) (l l' : List Int) (hl : l.length = 6) (hl' : l'.length = 6) (K : Value -> Hp -> Prop) (E : Value -> Hp -> Prop) :
  wpS P (binOp .neq t (arrV l) (arrV l')) H K E = K (.bool (decide (l ≠ l'))) H := by
 obtain ⟨x0, x1, x2, x3, x4, x5, rfl⟩ := Bz7 l hl
 obtain ⟨y0, y1, y2, y3, y4, y5, rfl⟩ := Bz7 l' hl'
 have hd : decide ([x0, x1, x2, x3, x4, x5] ≠ [y0, y1, y2, y3, y4, y5]) = !(x0 == y0 && (x1 == y1 && (x2 == y2 && (x3 == y3 && (x4 == y4 && (x5 == y5)))))) := by
  rw [Bool.eq_iff_iff]
  simp
 rw [hd]
 unfold arrV
 simp only [List.map_cons, List.map_nil, binOp]
 rw [Aqa]
 unfold Op.equal Op.maxDepth
 rw [show (10000 : Nat) = 9998 + 1 + 1 from rfl, Bj9 hu he hs]
 rfl
structure Dwd (P : Program) (ks : TypeId) : Prop where
 ex : ∃ (f1 f2 : Field) (et : TypeId), P.underlying ks = some (.struct #[f1, f2]) /\ f1.name ≠ "_" /\ f2.name ≠ "_" /\ f1.offset = 0 /\ f2.offset = 1 /\ P.underlying f2.type = some (.array 6 et) /\ (∀ w, (sizeOf f2.type).run P w = .ok 6 w) /\
  (∃ d, P.underlying et = some (.int d)) /\ (∀ w, (sizeOf et).run P w = .ok 1 w) /\ (∃ d, P.underlying f1.type = some (.int d))
 held : P.stoodInHeld ks = false
def K7 : Type := { l : List Int // l.length = 7 }
instance : DecidableEq K7 := fun a b => decidable_of_iff (a.1 = b.1) ⟨Subtype.ext, fun h => congrArg _ h⟩
def K7.enc (k : K7) : Value := .agg (k.1.map fun x => Value.int .i64 x).toArray
theorem K7.cells (k : K7) : ∃ a x0 x1 x2 x3 x4 x5, k.1 = [a, x0, x1, x2, x3, x4, x5] := by
 obtain ⟨l, hl⟩ := k
 match l, hl with
 | [a, x0, x1, x2, x3, x4, x5], _ => exact ⟨a, x0, x1, x2, x3, x4, x5, rfl⟩
theorem Dwl (h : Dwd P ks) : KeyT P ks K7.enc where
 eq := fun x y H K E => by
  obtain ⟨f1, f2, et, hu, hn1, hn2, ho1, ho2, h1, hs1, ⟨de, he⟩, hse, ⟨d2, h2⟩⟩ := h.ex
  have hh := h.held
  obtain ⟨a, x0, x1, x2, x3, x4, x5, hx⟩ := x.cells
  obtain ⟨b, y0, y1, y2, y3, y4, y5, hy⟩ := y.cells
  have hdec : decide (x = y) = (a == b && (x0 == y0 && (x1 == y1 && (x2 == y2 && (x3 == y3 && (x4 == y4 && (x5 == y5))))))) := by
   rw [Bool.eq_iff_iff]
   simp only [decide_eq_true_eq, Bool.and_eq_true, beq_iff_eq]
   constructor
   ·rintro rfl
    rw [hx] at hy
    simp at hy
    obtain ⟨rfl, rfl, rfl, rfl, rfl, rfl, rfl⟩ := hy
    simp
   ·rintro ⟨rfl, rfl, rfl, rfl, rfl, rfl, rfl⟩
    exact Subtype.ext (hx.trans hy.symm)
  rw [hdec]
  unfold K7.enc
  rw [hx, hy]
  simp only [List.map_cons, List.map_nil]
  unfold Op.equal Op.maxDepth
  rw [show (10000 : Nat) = 9997 + 1 + 1 + 1 from rfl]
  conv => lhs; unfold Op.equalIn
  simp only [Aqa, Aqh hu, Aj5, hh, Bool.false_eq_true, if_false, Aqe, List.forIn_toArray, List.forIn_cons, List.forIn_nil, hn1, hn2, ne_eq, not_false_eq_true, if_true]
  rw [Aqn h2 rfl (v := .int .i64 a) _ _ (by simp [ho1]), Aqn h2 rfl (v := .int .i64 b) _ _ (by simp [ho1]), show (9999 : Nat) = 9998 + 1 from rfl, Ajp h2]
  cases a == b
  ·simp only [Bool.not_false, if_true, Aqe, Bool.false_and]
  ·simp only [Bool.not_true, Bool.false_eq_true, if_false, Aqe, Bool.true_and, Aqa]
   rw [Bzb h1 rfl hs1, Bzb h1 rfl hs1, ho2]
   simp only [List.extract_toArray, List.extract_eq_take_drop, List.drop_zero, List.drop_succ_cons, List.take_succ_cons, List.take_zero, Nat.reduceAdd, Nat.reduceSub, Nat.sub_zero]
   rw [show (9999 : Nat) = 9997 + 1 + 1 from rfl, Bj9 h1 he hse]
   generalize (x0 == y0 && (x1 == y1 && (x2 == y2 && (x3 == y3 && (x4 == y4 && (x5 == y5)))))) = q
   cases q
   ·simp only [Bool.not_false, if_true, Aqe]
   ·simp only [Bool.not_true, Bool.false_eq_true, if_false, Aqe]
 ck := fun em x H K E => by
  obtain ⟨f1, f2, et, hu, hn1, hn2, ho1, ho2, h1, hs1, ⟨de, he⟩, hse, ⟨d2, h2⟩⟩ := h.ex
  obtain ⟨a, x0, x1, x2, x3, x4, x5, hx⟩ := x.cells
  unfold K7.enc
  rw [hx]
  simp only [List.map_cons, List.map_nil]
  rw [show (10000 : Nat) = 9997 + 1 + 1 + 1 from rfl]
  conv => lhs; unfold Instr.checkKey
  rw [Aqa, Aqh hu]
  simp only [Aqa, Aqe, List.forIn_toArray, List.forIn_cons, List.forIn_nil, hn1, hn2, ne_eq, not_false_eq_true, if_true]
  rw [Aqn h2 rfl (v := .int .i64 a) _ _ (by simp [ho1]), show (9999 : Nat) = 9998 + 1 from rfl, Bxo h2, Bzb h1 rfl hs1, ho2]
  simp only [List.extract_toArray, List.extract_eq_take_drop, List.drop_zero, List.drop_succ_cons, List.take_succ_cons, List.take_zero, Nat.reduceAdd, Nat.reduceSub, Nat.sub_zero]
  rw [show (9999 : Nat) = 9997 + 1 + 1 from rfl, Cji h1 he hse]
 un := by
  obtain ⟨f1, f2, et, hu, _⟩ := h.ex
  exact ⟨_, hu, fun a b => rfl⟩
 bits := fun x => by
  obtain ⟨a, x0, x1, x2, x3, x4, x5, hx⟩ := x.cells
  unfold K7.enc
  rw [hx, show (10000 : Nat) = 9998 + 1 + 1 from rfl]
  simp [Instr.sameBits]
end
end Go.X
end
