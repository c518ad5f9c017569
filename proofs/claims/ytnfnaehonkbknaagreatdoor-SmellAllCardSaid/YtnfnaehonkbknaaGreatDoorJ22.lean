/- Texts SmCo SmTr SmTs SmKd SmKc. -/
import Derived.Test.YtnfnaehonkbknaaGreatDoorJ21
set_option linter.defProp false
set_option linter.unusedSimpArgs false
set_option linter.unusedVariables false
set_option maxRecDepth 100000
set_option maxHeartbeats 2000000
section
namespace Go.Proofs.YtnfnaehonkbknaaGreatDoor
open Go Go.X
def Bqf (d hr : Int) : Int := if d = 99 then 1000 else hr + d
def Awf (s : Sm) (p hr : Int) (ts : List Int) : List Int := (List.range s.places.toNat).map fun (q : Nat) => Bqf (gI (Aq4 s.doors p (pad6 ts)) q) hr
theorem Bzt (s : Sm) (p hr : Int) (ts : List Int) : (Awf s p hr ts).length = s.places.toNat := by simp [Awf]
theorem Bza {s : Sm} {p hr : Int} {ts : List Int} {q : Int} (h0 : 0 <= q) (h1 : q < s.places) : gI (Awf s p hr ts) q = Bqf (gI (Aq4 s.doors p (pad6 ts)) q) hr := by
 unfold gI Awf
 rw [List.getD, List.getElem?_map, List.getElem?_range (by omega)]
 simp only [Option.map_some, Option.getD_some]
 rw [show ((q.toNat : Nat) : Int) = q by omega]
 rfl
structure Awb (E : Int -> Int -> Int -> Prop) (pl p hr : Int) (c : List Int) : Prop where
 len : c.length = pl.toNat
 at0 : gI c p = hr
 att : ∀ q, 0 <= q -> q < pl -> gI c q = 1000 ∨ (gI c q < 1000 /\ Walk E p q (gI c q - hr))
 pos : ∀ q, 0 <= q -> q < pl -> hr <= gI c q
theorem Awb.start (E : Int -> Int -> Int -> Prop) {pl p hr : Int} (h0 : 0 <= p) (h1 : p < pl) (hh : hr <= 12) : Awb E pl p hr ((List.replicate pl.toNat (1000 : Int)).set p.toNat hr) := by
 have hl : ∀ q, 0 <= q -> q < pl -> gI (List.replicate pl.toNat (1000 : Int)) q = 1000 := fun q h0 h1 => by
  unfold gI
  rw [List.getD, List.getElem?_replicate, if_pos (by omega)]
  rfl
 have hg : ∀ q, 0 <= q -> q < pl -> gI ((List.replicate pl.toNat (1000 : Int)).set p.toNat hr) q = if p = q then hr else 1000 := fun q hq0 hq1 => by
  rw [Awh h0 (by simp; omega) hq0, hl q hq0 hq1]
 refine ⟨by simp, by rw [hg p h0 h1, if_pos rfl], fun q hq0 hq1 => ?_, fun q hq0 hq1 => ?_⟩
 ·rw [hg q hq0 hq1]
  split
  ·rename_i h; subst h; refine .inr ⟨by omega, ?_⟩; rw [Int.sub_self]; exact .here
  ·exact .inl rfl
 ·rw [hg q hq0 hq1]; split <;> omega
theorem Awb.le {E : Int -> Int -> Int -> Prop} {pl p hr : Int} {c : List Int} (h : Awb E pl p hr c) {q : Int} (h0 : 0 <= q) (h1 : q < pl) : gI c q <= 1000 := by
 rcases h.att q h0 h1 with h | h <;> omega
theorem Awb.one {E : Int -> Int -> Int -> Prop} {pl p hr : Int} {c : List Int} (h : Awb E pl p hr c) {a b t : Int} (hE : E a b t) (ht : 1 <= t) (ha0 : 0 <= a) (ha1 : a < pl) (hb0 : 0 <= b) (hb1 : b < pl) (h0 : 0 <= p) (h1 : p < pl) (hlt : gI c a + t < gI c b) : Awb E pl p hr (c.set b.toNat (gI c a + t)) := by
 have hl := h.len
 have hg : ∀ q, 0 <= q -> gI (c.set b.toNat (gI c a + t)) q = if b = q then gI c a + t else gI c q := fun q hq => Awh hb0 (by omega) hq
 have pa := h.pos a ha0 ha1
 have lb := h.le hb0 hb1
 refine ⟨by rw [Cyj, hl], ?_, fun q hq0 hq1 => ?_, fun q hq0 hq1 => ?_⟩
 ·rw [hg p h0]
  split
  ·rename_i e; subst e; have := h.at0; omega
  ·exact h.at0
 ·rw [hg q hq0]
  split
  ·rename_i e; subst e
   rcases h.att a ha0 ha1 with h2 | ⟨h2, hw⟩
   ·omega
   ·refine .inr ⟨by omega, ?_⟩
    rw [show gI c a + t - hr = gI c a - hr + t by omega]
    exact hw.step hE
  ·exact h.att q hq0 hq1
 ·rw [hg q hq0]
  split
  ·omega
  ·exact h.pos q hq0 hq1
def sumI (c : List Int) : Int := c.foldr (· + ·) 0
theorem Cja : ∀ (c : List Int) (i : Nat) (v x : Int), c[i]? = some x -> sumI (c.set i v) = sumI c - x + v
 | [], i, v, x, h => by simp at h
 | y :: c, 0, v, x, h => by
  simp at h
  subst h
  simp only [List.set_cons_zero, sumI, List.foldr_cons]
  omega
 | y :: c, i + 1, v, x, h => by
  have := Cja c i v x (by simpa using h)
  simp only [List.set_cons_succ, sumI, List.foldr_cons] at this ⊢
  omega
theorem Cyu : ∀ {c : List Int}, (∀ x ∈ c, 0 <= x) -> 0 <= sumI c
 | [], _ => Int.le_refl _
 | x :: c, h => by
  have h1 := h x List.mem_cons_self
  have := Cyu (c := c) fun y hy => h y (List.mem_cons_of_mem _ hy)
  simp only [sumI, List.foldr_cons] at this ⊢
  omega
theorem Dv8 {c : List Int} {x : Int} (h : x ∈ c) : ∃ q : Int, 0 <= q /\ q < c.length /\ gI c q = x := by
 obtain ⟨i, hi, rfl⟩ := List.mem_iff_getElem.1 h
 refine ⟨i, by omega, by omega, ?_⟩
 unfold gI
 simp [List.getD, List.getElem?_eq_getElem hi]
theorem Awb.sum {E : Int -> Int -> Int -> Prop} {pl p hr : Int} {c : List Int} (h : Awb E pl p hr c) (hh : 0 <= hr) : 0 <= sumI c := Cyu fun x hx => by
 obtain ⟨q, h0, h1, rfl⟩ := Dv8 hx
 have := h.pos q h0 (by have := h.len; omega)
 omega
theorem Awb.is {s : Sm} (ok : SmOk s) {p hr : Int} {ts c : List Int} (hc : Awb (Edg s.doors ts) s.places p hr c) (ht : ts ∈ Axw s.doors) (hr0 : 0 <= hr) (hr1 : hr <= 12) (h0 : 0 <= p) (h1 : p < s.places) (rel : ∀ a b n, Edg s.doors ts a b n -> gI c b <= gI c a + n) : c = Awf s p hr ts := by
 have hE : ∀ a b n, Edg s.doors (pad6 ts) a b n ↔ Edg s.doors ts a b n := fun a b n => by unfold pad6; exact Cvf (Akq ht) _
 have hd := Bq3 ok h0 h1 ht
 have hto := Aj3 (pl := s.places) ok.dk ht
 have h6 := ok.p1
 apply List.ext_getElem?
 intro i
 by_cases hi : i < s.places.toNat
 ·have g1 := Awg (c := c) (p := (i : Int)) (by omega) (by rw [hc.len]; omega)
  have g2 := Awg (c := Awf s p hr ts) (p := (i : Int)) (by omega) (by rw [Bzt]; omega)
  simp only [Int.toNat_natCast] at g1 g2
  rw [g1, g2, Bza (by omega) (by omega)]
  congr 1
  unfold Bqf
  rcases hc.att i (by omega) (by omega) with ha | ⟨ha, hw⟩
  ·rcases hd.att i (by omega) (by omega) with hb | ⟨hb, hv⟩
   ·rw [if_pos hb, ha]
   ·have := Walk.ge hv (c := gI c) fun a b t he => rel a b t ((hE a b t).1 he)
    rw [hc.at0] at this
    omega
  ·have hw' : Walk (Edg s.doors (pad6 ts)) p i (gI c i - hr) := Walk.map (fun x => x) (fun a b t he => (hE a b t).2 he) hw
   obtain ⟨_, _, g3, g4⟩ := hd.walk h6 ok.dk hto h0 (by omega) hw'
   rcases hd.att i (by omega) (by omega) with hb | ⟨hb, hv⟩
   ·omega
   ·have := Walk.ge hv (c := gI c) fun a b t he => rel a b t ((hE a b t).1 he)
    rw [hc.at0] at this
    rw [if_neg (by omega)]
    omega
 ·rw [List.getElem?_eq_none (by rw [hc.len]; omega), List.getElem?_eq_none (by rw [Bzt]; omega)]
theorem Ck6 {s : Sm} (ok : SmOk s) {i b : Nat} (hi : i < s.hampers.length) (hb : b <= 12) {ts : List Int} (ht : ts ∈ Axw s.doors) (hn : ∀ n ∈ s.noses, n.sm = decide (gI (Awf s (s.hampers.getD i 0) b ts) n.pl <= n.hr)) :
  (i, b, pad6 ts, Aq4 s.doors (s.hampers.getD i 0) (pad6 ts)) ∈ allT s := by
 refine (Ajl s i b _ _).2 ⟨hi, by omega, ?_⟩
 unfold fitS fitL trL
 rw [List.mem_filter]
 refine ⟨List.mem_map.2 ⟨ts, ht, rfl⟩, (Czu fun n hn => (ok.nk n hn).h1).2 ⟨by omega, by omega, fun n hm => ?_⟩⟩
 have h1 := ok.nk n hm
 obtain ⟨q0, q1⟩ := Cwo ok hi
 show n.sm = decide ((b : Int) + gI (Aq4 s.doors (s.hampers.getD i 0) (pad6 ts)) n.pl <= n.hr)
 rw [hn n hm, Bza h1.p0 h1.p1, decide_eq_decide]
 have := h1.h1
 have hp := (Bq3 ok q0 q1 ht).pos n.pl h1.p0 (by have := ok.p1; have := h1.p1; omega)
 unfold Bqf
 split <;> constructor <;> intro <;> omega
def Avi (s : Sm) (i b : Nat) (ts : List Int) (p : Int) : Int := gI (Awf s (s.hampers.getD i 0) b ts) p
structure Tr (s : Sm) (i₀ b₀ : Nat) (ts : List Int) : Prop where
 i : i₀ < s.hampers.length
 b : b₀ < 13
 t : ts ∈ Axw s.doors
 n : ∀ m ∈ s.noses, m.sm = decide (Avi s i₀ b₀ ts m.pl <= m.hr)
theorem Tr.mem {s : Sm} (ok : SmOk s) {i b : Nat} {ts : List Int} (h : Tr s i b ts) : (i, b, pad6 ts, Aq4 s.doors (s.hampers.getD i 0) (pad6 ts)) ∈ allT s := Ck6 ok h.i (by have := h.b; omega) h.t h.n
theorem Akf {s : Sm} {i b : Nat} {ts : List Int} {p : Int} (h0 : 0 <= p) (h1 : p < s.places) : Avi s i b ts p = Bqf (gI (Aq4 s.doors (s.hampers.getD i 0) (pad6 ts)) p) b := Bza h0 h1
theorem Aj1 {s : Sm} (ok : SmOk s) {i : Nat} (hi : i < s.hampers.length) {ts : List Int} (ht : ts ∈ Axw s.doors) {p : Int} (h0 : 0 <= p) (h1 : p < s.places) : 0 <= gI (Aq4 s.doors (s.hampers.getD i 0) (pad6 ts)) p /\ (gI (Aq4 s.doors (s.hampers.getD i 0) (pad6 ts)) p = 99 ∨ gI (Aq4 s.doors (s.hampers.getD i 0) (pad6 ts)) p <= 24) := by
 obtain ⟨q0, q1⟩ := Cwo ok hi
 have h6 := ok.p1
 have hd := Bq3 ok q0 q1 ht
 exact ⟨hd.pos p h0 (by omega), hd.small h6 ok.dk (Aj3 (pl := s.places) ok.dk ht) q0 (by omega) h0 (by omega)⟩
theorem Bqz {s : Sm} (ok : SmOk s) {i b : Nat} {t c : List Int} (h : (i, b, t, c) ∈ allT s) : ∃ ts, Tr s i b ts /\ t = pad6 ts /\ c = Aq4 s.doors (s.hampers.getD i 0) (pad6 ts) := by
 obtain ⟨ts, h1, h2, h3, h4, h5, h6⟩ := Dz2 ok h
 refine ⟨ts, ⟨h4, h5, h1, fun n hm => ?_⟩, h2, h3⟩
 have hn := ((Czu fun n hn => (ok.nk n hn).h1).1 h6).2.2 n hm
 have hk := ok.nk n hm
 subst h3
 unfold Cxb at hn
 rw [hn, Akf hk.p0 hk.p1]
 rw [decide_eq_decide]
 have := hk.h1
 have := Aj1 ok h4 h1 hk.p0 hk.p1
 unfold Bqf
 split <;> constructor <;> intro <;> omega
theorem Aju {s : Sm} (ok : SmOk s) {i b : Nat} (hi : i < s.hampers.length) (hb : b < 13) : fitS s i b ≠ [] ↔ ∃ ts, Tr s i b ts := by
 constructor
 ·intro h
  obtain ⟨⟨t, c⟩, hx⟩ := List.exists_mem_of_ne_nil _ h
  obtain ⟨ts, h1, _⟩ := Bqz ok ((Ajl s i b t c).2 ⟨hi, hb, hx⟩)
  exact ⟨ts, h1⟩
 ·rintro ⟨ts, h⟩
  exact List.ne_nil_of_mem ((Ajl s i b _ _).1 (h.mem ok)).2.2
theorem Bwa {s : Sm} (ok : SmOk s) : susp s ≠ [] ↔ ∃ i b ts, Tr s i b ts := by
 rw [ne_eq, Dzk]
 constructor
 ·intro h
  obtain ⟨⟨i, b, t, c⟩, hx⟩ := List.exists_mem_of_ne_nil _ h
  obtain ⟨ts, h1, _⟩ := Bqz ok hx
  exact ⟨i, b, ts, h1⟩
 ·rintro ⟨i, b, ts, h⟩
  exact List.ne_nil_of_mem (h.mem ok)
theorem Dxy {s : Sm} (ok : SmOk s) : Azi s ≠ 0 ↔ ∃ i b ts, Tr s i b ts := by
 rw [<- Bwa ok, Awj, ne_eq, List.length_eq_zero_iff]
theorem Dz4 {s : Sm} {i b : Nat} {ts : List Int} (ok : SmOk s) (h : Tr s i b ts) {ps : List Int} (hp : ∀ p ∈ ps, 0 <= p /\ p < s.places) {hr : Int} (h0 : 0 <= hr) (h1 : hr <= 12) : begE s ps hr = 0 := by
 unfold begE
 rw [if_neg, if_neg (by omega), if_neg ((Dxy ok).2 ⟨i, b, ts, h⟩)]
 simp only [List.any_eq_true, Bool.or_eq_true, decide_eq_true_eq, not_exists, not_and]
 intro p hm
 have := hp p hm
 omega
theorem Dvi {s : Sm} (ok : SmOk s) {p : Int} (h0 : 0 <= p) (h1 : p < s.places) (hne : ∃ i b ts, Tr s i b ts) {k : Int} (hk : k <= 98) : (arrL (susp s) p).lo <= k ↔ ∃ i b ts, Tr s i b ts /\ Avi s i b ts p <= k := by
 rw [(Bzm ok h0 h1 ((Bwa ok).2 hne)).lo_iff]
 constructor
 ·rintro ⟨x, hx, hle⟩
  obtain ⟨⟨i, b, t, c⟩, hm, rfl⟩ := List.mem_map.1 hx
  obtain ⟨ts, h2, rfl, rfl⟩ := Bqz ok hm
  refine ⟨i, b, ts, h2, ?_⟩
  have := Aj1 ok h2.i h2.t h0 h1
  have := h2.b
  rw [Akf h0 h1]
  unfold Bqf
  simp only at hle
  split <;> omega
 ·rintro ⟨i, b, ts, h2, hle⟩
  refine ⟨_, List.mem_map.2 ⟨_, h2.mem ok, rfl⟩, ?_⟩
  rw [Akf h0 h1] at hle
  unfold Bqf at hle
  simp only
  split at hle <;> omega
theorem Dvh {s : Sm} (ok : SmOk s) {p : Int} (h0 : 0 <= p) (h1 : p < s.places) (hne : ∃ i b ts, Tr s i b ts) {k : Int} (hk : k <= 98) : (arrL (susp s) p).hi <= k ↔ ∀ i b ts, Tr s i b ts -> Avi s i b ts p <= k := by
 have hb := Bzm ok h0 h1 ((Bwa ok).2 hne)
 constructor
 ·intro h i b ts h2
  have h3 := (hb.all _ (List.mem_map.2 ⟨_, h2.mem ok, rfl⟩)).2
  simp only at h3
  have := Aj1 ok h2.i h2.t h0 h1
  have := h2.b
  rw [Akf h0 h1]
  unfold Bqf
  split <;> omega
 ·intro h
  obtain ⟨⟨i, b, t, c⟩, hm, he⟩ := List.mem_map.1 hb.hi
  obtain ⟨ts, h2, rfl, rfl⟩ := Bqz ok hm
  have h3 := h i b ts h2
  rw [Akf h0 h1] at h3
  unfold Bqf at h3
  have := Aj1 ok h2.i h2.t h0 h1
  simp only at he
  split at h3 <;> omega
theorem Dzq {s : Sm} (ok : SmOk s) {p : Int} (h0 : 0 <= p) (h1 : p < s.places) (hne : ∃ i b ts, Tr s i b ts) : (arrL (susp s) p).lo <= (arrL (susp s) p).hi := by
 have hb := Bzm ok h0 h1 ((Bwa ok).2 hne)
 exact (hb.all _ hb.lo).2
theorem verd_always {s : Sm} (ok : SmOk s) {p : Int} (h0 : 0 <= p) (h1 : p < s.places) (hne : ∃ i b ts, Tr s i b ts) {h : Int} (hh : h <= 12) : Av1 (arrL (susp s) p) h = 1 ↔ ∀ i b ts, Tr s i b ts -> Avi s i b ts p <= h := by
 rw [<- Dvh ok h0 h1 hne (by omega)]
 have := Dzq ok h0 h1 hne
 unfold Av1
 split
 ·constructor <;> intro <;> omega
 ·split <;> constructor <;> intro <;> omega
theorem verd_never {s : Sm} (ok : SmOk s) {p : Int} (h0 : 0 <= p) (h1 : p < s.places) (hne : ∃ i b ts, Tr s i b ts) {h : Int} (hh : h <= 12) : Av1 (arrL (susp s) p) h = 2 ↔ ∀ i b ts, Tr s i b ts -> h < Avi s i b ts p := by
 have hlo := Dvi ok h0 h1 hne (k := h) (by omega)
 have := Dzq ok h0 h1 hne
 have key : (∀ i b ts, Tr s i b ts -> h < Avi s i b ts p) ↔ ¬ (arrL (susp s) p).lo <= h := by
  rw [hlo]
  constructor
  ·rintro g ⟨i, b, ts, g1, g2⟩
   have := g i b ts g1
   omega
  ·intro g i b ts g1
   by_cases hc : Avi s i b ts p <= h
   ·exact absurd ⟨i, b, ts, g1, hc⟩ g
   ·omega
 rw [key]
 unfold Av1
 split
 ·constructor <;> intro <;> omega
 ·split <;> constructor <;> intro <;> omega
theorem verd_in (b : Bd) (h : Int) : Av1 b h = 1 ∨ Av1 b h = 2 ∨ Av1 b h = 3 := by
 unfold Av1
 split
 ·exact .inr (.inr rfl)
 ·split
  ·exact .inr (.inl rfl)
  ·exact .inl rfl
theorem Bk1 (m n x : Nat) : (Akh m n).testBit x = (m.testBit x || decide (x = n)) := by
 unfold Akh
 rw [Nat.testBit_or, Nat.testBit_two_pow]
 congr 1
 exact decide_eq_decide.2 eq_comm
theorem Bk0 {m : Nat} {x : Int} : x ∈ Bq8 m ↔ 0 <= x /\ x < 6 /\ m.testBit x.toNat = true := by
 refine ⟨fun h => Cw5 h, fun ⟨h0, h6, hb⟩ => ?_⟩
 simp only [Bq8, Awk, List.mem_map, List.mem_filter, List.mem_range]
 exact ⟨x.toNat, ⟨by omega, by simpa using hb⟩, by omega⟩
theorem Cjb (L : List (Int × Int × Hint)) (h : Int) (p : Nat) : ∀ k, (surM L h k).testBit p = decide (p < k /\ Av1 (arrL L p) h = 1)
 | 0 => by simp [surM]
 | k + 1 => by
  unfold surM
  have ih := Cjb L h p k
  split
  ·rename_i hv
   rw [Bk1, ih]
   by_cases e : p = k
   ·subst e; simp [hv]
   ·have : (p < k + 1) ↔ p < k := by omega
    simp [e, this]
  ·rename_i hv
   rw [ih]
   by_cases e : p = k
   ·subst e; simp [hv]
   ·have : (p < k + 1) ↔ p < k := by omega
    simp [this]
theorem sure_mem {s : Sm} (ok : SmOk s) {h p : Int} : p ∈ Bq8 (surM (susp s) h s.places.toNat) ↔ 0 <= p /\ p < s.places /\ Av1 (arrL (susp s) p) h = 1 := by
 have h6 := ok.p1
 rw [Bk0, Cjb]
 simp only [decide_eq_true_eq]
 constructor
 ·rintro ⟨g0, g1, g2, g3⟩
  rw [show ((p.toNat : Nat) : Int) = p by omega] at g3
  exact ⟨g0, by omega, g3⟩
 ·rintro ⟨g0, g1, g3⟩
  refine ⟨g0, by omega, by omega, ?_⟩
  rw [show ((p.toNat : Nat) : Int) = p by omega]
  exact g3
theorem Byc (x : Nat) : ∀ (L : List (Int × Int × Hint)) (m : Nat), ((L.map fun x => x.1).foldl (fun m x => Akh m x.toNat) m).testBit x = (m.testBit x || L.any fun y => decide (x = y.1.toNat))
 | [], m => by simp
 | y :: L, m => by
  rw [List.map_cons, List.foldl_cons, Byc x L, Bk1, List.any_cons, Bool.or_assoc]
theorem suspects_mem {s : Sm} (ok : SmOk s) {i : Int} : i ∈ Bq8 (Cka (susp s)) ↔ 0 <= i /\ ∃ b ts, Tr s i.toNat b ts := by
 have h3 := ok.h1
 rw [Bk0]
 unfold Cka oOf
 rw [Byc]
 simp only [Nat.zero_testBit, Bool.false_or, List.any_eq_true, decide_eq_true_eq]
 constructor
 ·rintro ⟨g0, g1, x, hx, he⟩
  obtain ⟨j, b, hj, hb, hne, rfl⟩ := (Ajb s x).1 hx
  simp only [Int.toNat_natCast] at he
  obtain ⟨ts, ht⟩ := (Aju ok hj hb).1 hne
  rw [<- he] at ht
  exact ⟨g0, b, ts, ht⟩
 ·rintro ⟨g0, b, ts, ht⟩
  have := ht.i
  refine ⟨g0, by omega, _, (Ajb s _).2 ⟨i.toNat, b, ht.i, ht.b, (Aju ok ht.i ht.b).2 ⟨ts, ht⟩, rfl⟩, ?_⟩
  rw [Int.toNat_natCast]
theorem Ck1 {α : Type} [BEq α] [LawfulBEq α] : ∀ {l l' : List α}, l.Nodup -> (∀ x ∈ l, x ∈ l') -> l.length <= l'.length
 | [], _, _, _ => Nat.zero_le _
 | x :: l, l', hn, h => by
  rw [List.nodup_cons] at hn
  have hx := h x List.mem_cons_self
  have ih := Ck1 (l := l) (l' := l'.erase x) hn.2 fun y hy => (List.mem_erase_of_ne fun e : y = x => hn.1 (by rw [<- e]; exact hy)).2 (h y (List.mem_cons_of_mem _ hy))
  rw [List.length_erase_of_mem hx] at ih
  have := List.length_pos_of_mem hx
  simp only [List.length_cons]
  omega
def suLt (x y : Int × Int × Hint) : Prop := x.1 < y.1 ∨ (x.1 = y.1 /\ x.2.1 < y.2.1)
theorem Dzj (t : Trail) : (Akx t).Pairwise suLt := by
 unfold Akx
 rw [List.pairwise_map]
 refine List.Pairwise.filter _ ?_
 rw [List.pairwise_iff_getElem]
 intro i j hi hj hij
 refine .inr ⟨rfl, ?_⟩
 simp only [List.getElem_zipIdx]
 omega
theorem Byz {t : Trail} {x : Int × Int × Hint} (h : x ∈ Akx t) : x.1 = t.ham := by
 unfold Akx at h
 obtain ⟨y, _, rfl⟩ := List.mem_map.1 h
 rfl
theorem Cyw (s : Sm) : (susp s).Pairwise suLt := by
 unfold susp Azv
 rw [List.pairwise_flatMap]
 refine ⟨fun t _ => Dzj t, ?_⟩
 unfold Axl
 rw [List.pairwise_map, List.pairwise_iff_getElem]
 intro i j hi hj hij x hx y hy
 refine .inl ?_
 rw [Byz hx, Byz hy]
 simp only [List.getElem_range, Ax6]
 omega
def suP (s : Sm) : List (Int × Int) := (susp s).map fun x => (x.1, x.2.1)
theorem suP_nodup (s : Sm) : (suP s).Nodup := by
 unfold suP List.Nodup
 rw [List.pairwise_map]
 refine (Cyw s).imp fun {x y} h e => ?_
 rw [Prod.mk.injEq] at e
 rcases h with h | ⟨_, h⟩ <;> omega
theorem suP_len (s : Sm) : (suP s).length = Azi s := by rw [Awj]; simp [suP]
theorem suP_mem {s : Sm} (ok : SmOk s) {i b : Int} : (i, b) ∈ suP s ↔ 0 <= i /\ 0 <= b /\ ∃ ts, Tr s i.toNat b.toNat ts := by
 unfold suP
 rw [List.mem_map]
 constructor
 ·rintro ⟨x, hx, he⟩
  obtain ⟨j, c, hj, hc, hne, rfl⟩ := (Ajb s x).1 hx
  rw [Prod.mk.injEq] at he
  obtain ⟨rfl, rfl⟩ := he
  exact ⟨by simp only; omega, by simp only; omega, (Aju ok hj hc).1 hne⟩
 ·rintro ⟨h0, h1, ts, ht⟩
  refine ⟨_, (Ajb s _).2 ⟨i.toNat, b.toNat, ht.i, ht.b, (Aju ok ht.i ht.b).2 ⟨ts, ht⟩, rfl⟩, ?_⟩
  rw [Prod.mk.injEq]
  exact ⟨by simp only; omega, by simp only; omega⟩
theorem first_some {s : Sm} (ok : SmOk s) {i b : Nat} {ts : List Int} (h : Tr s i b ts) : ∃ (a hr : Nat) (l : List Int), fstE s = ((a : Int), (hr : Int), l, 0) /\ (a < i ∨ a = i /\ hr <= b) /\ ∃ ts', Tr s a hr ts' := by
 have hm : ((i : Int), (b : Int), Ayh s (trL s (s.hampers.getD i 0)) (b : Int)) ∈ susp s := (Ajb s _).2 ⟨i, b, h.i, h.b, (Aju ok h.i h.b).2 ⟨ts, h⟩, rfl⟩
 have hp := Cyw s
 unfold fstE
 cases hs : susp s with
 | nil => rw [hs] at hm; cases hm
 | cons x L =>
  have hx : x ∈ susp s := by rw [hs]; exact List.mem_cons_self
  obtain ⟨a, hr, ha, hb, hne, rfl⟩ := (Ajb s x).1 hx
  refine ⟨a, hr, _, rfl, ?_, (Aju ok ha hb).1 hne⟩
  rw [hs] at hm hp
  rcases List.mem_cons.1 hm with e | e
  ·simp only [Prod.mk.injEq] at e
   omega
  ·rcases (List.pairwise_cons.1 hp).1 _ e with h1 | ⟨h1, h2⟩
   ·simp only at h1; omega
   ·simp only at h1 h2; omega
theorem Dzf (L : List (Int × Int × Hint)) : sinL L = (L.map fun x => x.2.1).foldl Ax9 bd0 := by
 unfold sinL
 rw [List.foldl_map]
 rfl
theorem since_some {s : Sm} (ok : SmOk s) {i : Nat} (h : ∃ b ts, Tr s i b ts) : ∃ lo hi : Nat, sinE s i = ((lo : Int), (hi : Int), 0) /\ (∀ b ts, Tr s i b ts -> lo <= b /\ b <= hi) /\ (∃ ts, Tr s i lo ts) /\ ∃ ts, Tr s i hi ts := by
 obtain ⟨b0, t0, h0⟩ := h
 have hi := h0.i
 have key : ∀ x : Int, x ∈ (Akx (Ax6 s i)).map (fun x => x.2.1) ↔ 0 <= x /\ ∃ ts, Tr s i x.toNat ts := by
  intro x
  rw [List.mem_map]
  constructor
  ·rintro ⟨y, hy, rfl⟩
   obtain ⟨b, hb, hne, rfl⟩ := (Awr s i y).1 hy
   exact ⟨by simp only; omega, (Aju ok hi hb).1 hne⟩
  ·rintro ⟨h0, ts, ht⟩
   refine ⟨_, (Awr s i _).2 ⟨x.toNat, ht.b, (Aju ok hi ht.b).2 ⟨ts, ht⟩, rfl⟩, ?_⟩
   simp only
   omega
 have hb := Bz4 (V := (Akx (Ax6 s i)).map (fun x => x.2.1)) (List.ne_nil_of_mem ((key b0).2 ⟨by omega, t0, by simpa using h0⟩))
 unfold sinE bdE
 rw [show (if (i : Int) < 0 ∨ (s.hampers.length : Int) - 1 < (i : Int) then (3 : Int) else 0) = 0 from if_neg (by omega), if_pos rfl, Int.toNat_natCast, Dzf]
 generalize ((Akx (Ax6 s i)).map (fun x => x.2.1)).foldl Ax9 bd0 = w at hb ⊢
 rw [hb.some, if_pos rfl]
 obtain ⟨l0, l1⟩ := (key _).1 hb.lo
 obtain ⟨l2, l3⟩ := (key _).1 hb.hi
 refine ⟨w.lo.toNat, w.hi.toNat, ?_, fun b ts ht => ?_, l1, l3⟩
 ·rw [show ((w.lo.toNat : Nat) : Int) = w.lo by omega, show ((w.hi.toNat : Nat) : Int) = w.hi by omega]
 ·have := hb.all _ ((key b).2 ⟨by omega, ts, by simpa using ht⟩)
  omega
theorem since_none {s : Sm} (ok : SmOk s) {i : Nat} (hi : i < s.hampers.length) (h : ¬ ∃ b ts, Tr s i b ts) : sinE s i = (0, 0, 11) := by
 have hn : Akx (Ax6 s i) = [] := by
  cases hs : Akx (Ax6 s i) with
  | nil => rfl
  | cons x L =>
   exfalso
   obtain ⟨b, hb, hne, _⟩ := (Awr s i x).1 (by rw [hs]; exact List.mem_cons_self)
   exact h ⟨b, (Aju ok hi hb).1 hne⟩
 unfold sinE bdE
 rw [show (if (i : Int) < 0 ∨ (s.hampers.length : Int) - 1 < (i : Int) then (3 : Int) else 0) = 0 from if_neg (by omega), if_pos rfl, Int.toNat_natCast, hn]
 rfl
theorem Bzs (p : Int) : ∀ (L : List (Int × Int × Hint)) (w : Bd), L.foldl (comF p) w = (L.filter fun x => decide ((gB x.2.2 p).hi < 99)).foldl (arrF p) w
 | [], _ => rfl
 | x :: L, w => by
  rw [List.foldl_cons, Bzs p L, List.filter_cons]
  unfold comF
  by_cases h : (gB x.2.2 p).hi < 99
  ·simp [h]
  ·simp [h]
theorem walk_other {E E' : Int -> Int -> Int -> Prop} (hE : ∀ a b t, E a b t -> ∃ t', E' a b t') {p q n : Int} (h : Walk E p q n) : ∃ m, Walk E' p q m := by
 induction h with
 | here => exact ⟨0, .here⟩
 | step _ he ih =>
  obtain ⟨m, hm⟩ := ih
  obtain ⟨t', ht⟩ := hE _ _ _ he
  exact ⟨_, hm.step ht⟩
theorem Bkv {s : Sm} (ok : SmOk s) {h : Int} (h0 : 0 <= h) (h1 : h < s.places) {t t' : List Int} (ht : t ∈ Axw s.doors) (ht' : t' ∈ Axw s.doors) {p : Int} (hp0 : 0 <= p) (hp1 : p < s.places) (hc : gI (Aq4 s.doors h (pad6 t')) p = 99) : gI (Aq4 s.doors h (pad6 t)) p = 99 := by
 have h6 := ok.p1
 have hd := Bq3 ok h0 h1 ht
 have hd' := Bq3 ok h0 h1 ht'
 rcases hd.att p hp0 (by omega) with h2 | ⟨_, hw⟩
 ·exact h2
 ·exfalso
  obtain ⟨m, hm⟩ := walk_other (E' := Edg s.doors (pad6 t')) (fun a b n he => by
   obtain ⟨i, d, g1, g2, g3⟩ := he.ix
   have hl := Akq ht'
   have hil := (List.getElem?_eq_some_iff.1 g1).1
   have g4 : (pad6 t')[i]? = some (t'[i]'(by omega)) := by
    unfold pad6
    rw [List.getElem?_append_left (by omega), List.getElem?_eq_getElem]
   refine ⟨t'[i]'(by omega), ?_⟩
   rcases g3 with ⟨rfl, rfl⟩ | ⟨rfl, rfl⟩
   ·exact Edg.of g1 g4
   ·exact (Edg.of g1 g4).symm) hw
  have := (hd'.walk h6 ok.dk (Aj3 (pl := s.places) ok.dk ht') h0 (by omega) hm).2.2.1
  omega
theorem Czv {s : Sm} (ok : SmOk s) {i b : Nat} {ts : List Int} (h : Tr s i b ts) {p : Int} (h0 : 0 <= p) (h1 : p < s.places) : (gB (Ayh s (trL s (s.hampers.getD i 0)) (b : Int)) p).hi < 99 ↔ Avi s i b ts p < 1000 := by
 have hB := Cq2 s i b h0 h1 ok.p1 ((Aju ok h.i h.b).2 ⟨ts, h⟩)
 obtain ⟨q0, q1⟩ := Cwo ok h.i
 have hb := h.b
 rw [Akf h0 h1]
 have hc := Aj1 ok h.i h.t h0 h1
 have key : ∀ x ∈ Bzu s i b p, ∃ t', Tr s i b t' /\ x = min 99 ((b : Int) + gI (Aq4 s.doors (s.hampers.getD i 0) (pad6 t')) p) := by
  intro x hx
  obtain ⟨⟨t, c⟩, hm, rfl⟩ := List.mem_map.1 hx
  obtain ⟨t', g1, rfl, rfl⟩ := Bqz ok ((Ajl s i b t c).2 ⟨h.i, h.b, hm⟩)
  exact ⟨t', g1, rfl⟩
 obtain ⟨t', g1, g2⟩ := key _ hB.hi
 have hc' := Aj1 ok g1.i g1.t h0 h1
 have r1 := Bkv ok q0 q1 h.t g1.t h0 h1
 have r2 := Bkv ok q0 q1 g1.t h.t h0 h1
 unfold Bqf
 rw [g2]
 split
 ·rename_i e
  have := r2 e
  constructor <;> intro <;> omega
 ·rename_i e
  have : ¬ gI (Aq4 s.doors (s.hampers.getD i 0) (pad6 t')) p = 99 := fun e' => e (r1 e')
  constructor <;> intro <;> omega
theorem Bw3 {s : Sm} (ok : SmOk s) {p : Int} (h0 : 0 <= p) (h1 : p < s.places) : ((∃ i b ts, Tr s i b ts /\ Avi s i b ts p < 1000) -> ∃ V, IsBd V (comL (susp s) p) /\ ∀ x, x ∈ V ↔ x < 1000 /\ ∃ i b ts, Tr s i b ts /\ Avi s i b ts p = x) /\
  (¬ (∃ i b ts, Tr s i b ts /\ Avi s i b ts p < 1000) -> comL (susp s) p = bd0) := by
 unfold comL
 rw [Bzs]
 have key : ∀ x, x ∈ ((susp s).filter fun x => decide ((gB x.2.2 p).hi < 99)) ↔ ∃ i b : Nat, (∃ ts, Tr s i b ts /\ Avi s i b ts p < 1000) /\ x = ((i : Int), (b : Int), Ayh s (trL s (s.hampers.getD i 0)) (b : Int)) := by
  intro x
  rw [List.mem_filter, Ajb, decide_eq_true_eq]
  constructor
  ·rintro ⟨⟨i, b, hi, hb, hne, rfl⟩, hh⟩
   obtain ⟨ts, ht⟩ := (Aju ok hi hb).1 hne
   exact ⟨i, b, ⟨ts, ht, (Czv ok ht h0 h1).1 hh⟩, rfl⟩
  ·rintro ⟨i, b, ⟨ts, ht, hc⟩, rfl⟩
   exact ⟨⟨i, b, ht.i, ht.b, (Aju ok ht.i ht.b).2 ⟨ts, ht⟩, rfl⟩, (Czv ok ht h0 h1).2 hc⟩
 constructor
 ·rintro ⟨i, b, ts, ht, hc⟩
  rw [Dkx]
  refine ⟨_, Byf (V := fun x => Bzu s x.1.toNat x.2.1.toNat p) (g := fun x => gB x.2.2 p) (fun x hx => ?_) (List.ne_nil_of_mem ((key _).2 ⟨i, b, ⟨ts, ht, hc⟩, rfl⟩)), fun x => ?_⟩
  ·obtain ⟨i, b, ⟨ts, ht, hc⟩, rfl⟩ := (key x).1 hx
   simp only [Int.toNat_natCast]
   exact Cq2 s i b h0 h1 ok.p1 ((Aju ok ht.i ht.b).2 ⟨ts, ht⟩)
  ·rw [List.mem_flatMap]
   constructor
   ·rintro ⟨y, hy, hx⟩
    obtain ⟨i, b, ⟨ts, ht, hc⟩, rfl⟩ := (key y).1 hy
    simp only [Int.toNat_natCast] at hx
    obtain ⟨⟨t, c⟩, hm, he⟩ := List.mem_map.1 hx
    obtain ⟨t', g1, rfl, rfl⟩ := Bqz ok ((Ajl s i b t c).2 ⟨ht.i, ht.b, hm⟩)
    have hhi := (Czv ok g1 h0 h1).1 ((Czv ok ht h0 h1).2 hc)
    have hc' := Aj1 ok g1.i g1.t h0 h1
    have hb := g1.b
    rw [Akf h0 h1] at hhi
    refine ⟨?_, i, b, t', g1, ?_⟩
    ·simp only at he; omega
    ·rw [Akf h0 h1]
     unfold Bqf at hhi ⊢
     simp only at he
     split at hhi
     ·omega
     ·rename_i e
      rw [if_neg e]
      omega
   ·rintro ⟨hx, i, b, ts, ht, rfl⟩
    refine ⟨_, (key _).2 ⟨i, b, ⟨ts, ht, hx⟩, rfl⟩, ?_⟩
    simp only [Int.toNat_natCast]
    refine List.mem_map.2 ⟨_, ((Ajl s i b _ _).1 (ht.mem ok)).2.2, ?_⟩
    have hc' := Aj1 ok ht.i ht.t h0 h1
    have hb := ht.b
    rw [Akf h0 h1] at hx ⊢
    unfold Bqf at hx ⊢
    split at hx
    ·omega
    ·rename_i e
     rw [if_neg e]
     simp only
     omega
 ·intro hn
  have : ((susp s).filter fun x => decide ((gB x.2.2 p).hi < 99)) = [] := by
   cases hs : ((susp s).filter fun x => decide ((gB x.2.2 p).hi < 99)) with
   | nil => rfl
   | cons x L =>
    exfalso
    obtain ⟨i, b, ⟨ts, h⟩, _⟩ := (key x).1 (by rw [hs]; exact List.mem_cons_self)
    exact hn ⟨i, b, ts, h⟩
  rw [this]
  rfl
theorem Dzr {s : Sm} {i b : Nat} {ts : List Int} (ok : SmOk s) (h : Tr s i b ts) {p : Int} (h0 : 0 <= p) (h1 : p < s.places) {hr : Int} (h2 : 0 <= hr) (h3 : hr <= 12) : begE s [p] hr = 0 :=
 Dz4 ok h (by simp only [List.mem_cons, List.not_mem_nil, or_false]; rintro _ rfl; exact ⟨h0, h1⟩) h2 h3
theorem come_some {s : Sm} (ok : SmOk s) {p : Int} (h0 : 0 <= p) (h1 : p < s.places) (h : ∃ i b ts, Tr s i b ts /\ Avi s i b ts p < 1000) : ∃ lo hi : Int, comE s p = (lo, hi, 0) /\ lo < 1000 /\ hi < 1000 /\ (∀ i b ts, Tr s i b ts -> Avi s i b ts p < 1000 -> lo <= Avi s i b ts p /\ Avi s i b ts p <= hi) /\
  (∃ i b ts, Tr s i b ts /\ Avi s i b ts p = lo) /\ ∃ i b ts, Tr s i b ts /\ Avi s i b ts p = hi := by
 obtain ⟨V, hb, hV⟩ := (Bw3 ok h0 h1).1 h
 obtain ⟨i, b, ts, ht, _⟩ := id h
 refine ⟨(comL (susp s) p).lo, (comL (susp s) p).hi, ?_, ((hV _).1 hb.lo).1, ((hV _).1 hb.hi).1, fun i b ts ht hc => hb.all _ ((hV _).2 ⟨hc, i, b, ts, ht, rfl⟩), ((hV _).1 hb.lo).2, ((hV _).1 hb.hi).2⟩
 unfold comE bdE
 rw [Dzr ok ht h0 h1 (by omega) (by omega), if_pos rfl, hb.some, if_pos rfl]
theorem come_none {s : Sm} (ok : SmOk s) {p : Int} (h0 : 0 <= p) (h1 : p < s.places) {i b : Nat} {ts : List Int} (ht : Tr s i b ts) (h : ¬ ∃ i b ts, Tr s i b ts /\ Avi s i b ts p < 1000) : comE s p = (0, 0, 11) := by
 unfold comE bdE
 rw [Dzr ok ht h0 h1 (by omega) (by omega), if_pos rfl, (Bw3 ok h0 h1).2 h]
 rfl
end Go.Proofs.YtnfnaehonkbknaaGreatDoor
end
section
namespace Go.Proofs.YtnfnaehonkbknaaGreatDoor
open Go Go.X Go.Proofs.Tryz
def Ak4 := aN @Exx (aN @Bq0 (aN @Cvv (aN @Ayy (aN @Ajg (aN @Ayl @Exf)))))
theorem Cyx {a n : Int} (h0 : 0 <= a) (h1 : a < 2 * n) : a.tmod n = if a < n then a else a - n := by
 rw [Int.tmod_eq_emod_of_nonneg h0]
 split
 ·exact Int.emod_eq_of_lt h0 (by omega)
 ·rw [show a = (a - n) + n * 1 by omega, Int.add_mul_emod_self_left, Int.emod_eq_of_lt (by omega) (by omega)]
  omega
theorem Cqx (m : Md) (H : Hp) (b k : Nat) (places wide : Int) (h0 : 2 <= places) (h1 : places <= 6) (w0 : 0 <= wide) (w1 : wide <= 10) (hT : TinI H b (k + 4)) :
  FnX Tryz.prog m 37 #[.pointer (some ⟨b, 0, none⟩), .int .i64 places, .int .i64 wide] H fun e H' => ∃ d : Dr, e = .returned (.agg #[.int .i64 d.a, .int .i64 d.b, .int .i64 d.mn, .int .i64 d.mx]) /\ DrOk places d /\ Lex (some b) H H' /\ TinI H' b k := by
 refine Aql func37 rfl ntmps37 (by simp) ?_
 (refine @unH _ (zA Ak4 ?_); (try clear hK K); intro K hK hc)
 (intro db hdb; generalize hG : Hp.set _ db _ = H1; have lH1 := Aqc hG hdb; have vdb := Aqb hG; clear hG)
 have hT1 := hT.le lH1
 have hne := hT.ne hdb
 (refine @unH _ (zU Ak4 ?_); (try clear hK K); intro K hK hc)
 refine (Bj7 m H1 b (k + 3) (places - 1) (by omega) hT1).runs.mono ?_
 rintro _ H2 ⟨r, r0, r1, rfl, x2, hT2⟩
 have v2 := x2.keeps vdb hne
 clear vdb hT1
 (refine @unH _ (zU Ak4 ?_); (try clear hK K); intro K hK hc)
 refine (Bjp m H2 b (k + 2) 1 3 (by omega) (by omega) (by omega) (by omega) hT2).runs.mono ?_
 rintro _ H3 ⟨n, n0, n1, rfl, x3, hT3⟩
 have v3 := x3.keeps v2 hne
 clear v2 hT2
 (refine @unH _ (zU Ak4 ?_); (try clear hK K); intro K hK hc)
 refine Axn (fun HX => True) [] (.free 0 (.free 1 (.free 2 (.free 3 (.free 4 (.free 7 (.free 9 (.free 10 (.free 11 (.free 12 (.one 5 (.free 6 (.free 8 (.one 13 (.free 14 (.free 15 (.free 16 (.free 17 (.one 18 .nil))))))))))))))))))) (by kernel_rfl) (by kernel_rfl) (by decide) (by kernel_rfl) ?_; intro K hK
 refine Ax5 fun ops hOz => ?_
 (iterate 10 (refine @unH _ ?_; refine zF Ak4 ?_))
 (refine @unH _ ?_; refine zM Ak4 ?_)
 refine (Bjp m H3 b (k + 1) 1 (places - 1) (by omega) (by omega) (by omega) (by omega) hT3).runs.mono ?_
 rintro _ H4 ⟨x, q0, q1, rfl, x4, hT4⟩
 have v4 := x4.keeps v3 hne
 clear v3 hT3
 simp -implicitDefEqProofs (disch := omega) only [Azs, Aq3, Aqm]
 refine ⟨.inr fun _ => trivial, ?_⟩
 (iterate 2 (refine @unH _ ?_; refine zF Ak4 ?_))
 (refine @unH _ ?_; refine zM Ak4 ?_)
 refine (Bj7 m H4 b k wide (by omega) hT4).runs.mono ?_
 rintro _ H5 ⟨y, y0, y1, rfl, x5, hT5⟩
 have v5 := x5.keeps v4 hne
 clear v4 hT4
 simp -implicitDefEqProofs (disch := omega) only [Azs, Aq3, Aqm]
 refine ⟨.inr fun _ => trivial, ?_⟩
 (iterate 4 (refine @unH _ ?_; refine zF Ak4 ?_))
 (refine @unH _ ?_; refine zM Ak4 ?_)
 refine ⟨.inr fun _ => trivial, ?_⟩
 (refine Aja (hK _ _ ?_); clear hK K; (try simp only [nq, ↓reduceIte, Nat.reduceEqDiff]))
 (refine Axs ?_; (try simp only [nq, ↓reduceIte, Nat.reduceEqDiff]); rw [Aq8, Ax3 results37 (by decide) (b := db) (o := 0) rfl underlying66 rfl sizeOf66]; simp -implicitDefEqProofs (disch := first | omega | (simp only [qd] <;> omega)) only [xq, ↓xp, qc, Nat.reduceAdd, List.range, List.range.loop, fine, Nat.reduceEqDiff, ↓reduceIte, yielded, reduceCtorEq, Nat.reduceLT, Nat.reduceMul, Nat.reduceSub, one, Nat.reduceLeDiff, Aqg, Ak4, Axm, List.extract_toArray])
 refine ⟨⟨r, (r + x).tmod places, n, if n + y < 4 then n + y else 4⟩, rfl, ?_, (((((Lex.of lH1).trans x2).trans x3).trans x4).trans x5).own hdb, hT5.own v5 (Ne.symm hne)⟩
 have e := Cyx (a := r + x) (n := places) (by omega) (by omega)
 generalize (r + x).tmod places = z at e ⊢
 have hz : 0 <= z /\ z < places /\ r ≠ z := by
  rw [e]
  split <;> omega
 refine ⟨r0, by simp only; omega, hz.1, hz.2.1, hz.2.2, n0, ?_, ?_⟩ <;> simp only <;> split <;> omega
end Go.Proofs.YtnfnaehonkbknaaGreatDoor
end
section
namespace Go.X
open Go
theorem Dzp {P : Program} {main : Md} {lp : Option Nat} {x : Code} {a : Act} {H : Hp} {Q : Exit -> Act -> Hp -> Prop} (M : Act -> Hp -> Prop) (hx : wpX P main lp x (thn M Q) a H) (hy : ∀ a H, M a H -> Q .normal a H) : wpX P main lp x Q a H :=
 Az7 hx fun e a' H' q => by cases e <;> first | exact hy _ _ q | exact q | exact q.elim
end Go.X
namespace Go.Proofs.YtnfnaehonkbknaaGreatDoor
open Go Go.X Go.Proofs.Tryz
def Aqy := aN @Dy6 (aN @Eqy (aN @Ex0 (aN @Exh (aN @Ex2 (aN @Dy7 (aN @Eqw (aN @Dyw (aN @Exi (aN @Eq7 (aN @Exx (aN @Exf (aN @Eqh @Eqi))))))))))))
theorem Dwy {p q : Prop} (g : q) (h : Hid q -> p := by
 intro g
 repeat' (first
 | (refine Axz rfl ?_; intro Kz hKz; simp -implicitDefEqProofs (disch := first | omega | (simp only [qd] <;> omega)) only [xq, ↓xp, qc, Nat.reduceAdd, List.range, List.range.loop, fine, Nat.reduceEqDiff, ↓reduceIte, yielded, reduceCtorEq, Nat.reduceLT, Nat.reduceMul, Nat.reduceSub, one, Nat.reduceLeDiff, Aqg, Aqy, aq, ↓ap, qe0, qe1, qe2, *, -g, -hKz, Azr, Int.toNat_natCast, Nat.mul_one, hlc, Aqz]; try (refine hKz _ _ ?_; clear hKz Kz))
 | (refine Azx rfl ?_; intro Kz hKz; simp -implicitDefEqProofs (disch := first | omega | (simp only [qd] <;> omega)) only [xq, ↓xp, qc, Nat.reduceAdd, List.range, List.range.loop, fine, Nat.reduceEqDiff, ↓reduceIte, yielded, reduceCtorEq, Nat.reduceLT, Nat.reduceMul, Nat.reduceSub, one, Nat.reduceLeDiff, Aqg, Aqy, aq, ↓ap, qe0, qe1, qe2, *, -g, -hKz, Azr, Int.toNat_natCast, Nat.mul_one, hlc, Aqz]; try (refine hKz _ _ ?_; clear hKz Kz; (try simp only [nq, ↓reduceIte, Nat.reduceEqDiff])))
 | (refine Aze ?_; (try simp only [nq, ↓reduceIte, Nat.reduceEqDiff]))
 | (refine Azh ?_; (try simp only [nq, ↓reduceIte, Nat.reduceEqDiff]))
 | (refine Az6 ?_; (try simp only [nq, ↓reduceIte, Nat.reduceEqDiff]))
 | (refine Ajc ?_; (try simp only [nq, ↓reduceIte, Nat.reduceEqDiff]))
 | (refine Azw (by simp only [Aq6, Axh, Nat.reduceEqDiff, Nat.reduceLT, ↓reduceIte, *, -g]; rfl) ?_ ?_ <;> (intro hcz; first | (exfalso; simp -implicitDefEqProofs (disch := omega) only [*, -g, bq, reduceCtorEq] at hcz; done) | (simp only [dq, qe3, qe4, qe5, qe6] at hcz) | skip))
 | (refine Azy ?_)
 | (refine Ax7 ?_)
 | (refine Axp ?_))
 refine unT ?_; (try (revert hcz; refine unC ?_)); (repeat (revert hcz; refine unD ?_)); first | revert Kz | refine unU ?_
 exact Hid.out g) : Hid p := ⟨h ⟨g⟩⟩
theorem Dw0 {p q : Prop} (g : q) (h : Hid q -> p := by
 intro g
 repeat' (first
 | (refine Axz rfl ?_; intro Kz hKz; simp -implicitDefEqProofs (disch := first | omega | (simp only [qd] <;> omega)) only [xq, ↓xp, qc, Nat.reduceAdd, List.range, List.range.loop, fine, Nat.reduceEqDiff, ↓reduceIte, yielded, reduceCtorEq, Nat.reduceLT, Nat.reduceMul, Nat.reduceSub, one, Nat.reduceLeDiff, Aqg, Aqy, aq, ↓ap, qe0, qe1, qe2, *, -g, -hKz, Azr, Nat.mul_one, hpl, Aqz]; try (refine hKz _ _ ?_; clear hKz Kz))
 | (refine Azx rfl ?_; intro Kz hKz; simp -implicitDefEqProofs (disch := first | omega | (simp only [qd] <;> omega)) only [xq, ↓xp, qc, Nat.reduceAdd, List.range, List.range.loop, fine, Nat.reduceEqDiff, ↓reduceIte, yielded, reduceCtorEq, Nat.reduceLT, Nat.reduceMul, Nat.reduceSub, one, Nat.reduceLeDiff, Aqg, Aqy, aq, ↓ap, qe0, qe1, qe2, *, -g, -hKz, Azr, Nat.mul_one, hpl, Aqz]; try (refine hKz _ _ ?_; clear hKz Kz; (try simp only [nq, ↓reduceIte, Nat.reduceEqDiff])))
 | (refine Aze ?_; (try simp only [nq, ↓reduceIte, Nat.reduceEqDiff]))
 | (refine Azh ?_; (try simp only [nq, ↓reduceIte, Nat.reduceEqDiff]))
 | (refine Az6 ?_; (try simp only [nq, ↓reduceIte, Nat.reduceEqDiff]))
 | (refine Ajc ?_; (try simp only [nq, ↓reduceIte, Nat.reduceEqDiff]))
 | (refine Azw (by simp only [Aq6, Axh, Nat.reduceEqDiff, Nat.reduceLT, ↓reduceIte, *, -g]; rfl) ?_ ?_ <;> (intro hcz; first | (exfalso; simp -implicitDefEqProofs (disch := omega) only [*, -g, bq, reduceCtorEq] at hcz; done) | (simp only [dq, qe3, qe4, qe5, qe6] at hcz) | skip))
 | (refine Azy ?_)
 | (refine Ax7 ?_)
 | (refine Axp ?_))
 refine unT ?_; (try (revert hcz; refine unC ?_)); (repeat (revert hcz; refine unD ?_)); first | revert Kz | refine unU ?_
 exact Hid.out g) : Hid p := ⟨h ⟨g⟩⟩
theorem Czp {E : Int -> Int -> Int -> Prop} {pl p hr : Int} {c : List Int} (h : Awb E pl p hr c) {a b t : Int} (hE : E a b t) (ht : 1 <= t) (ha0 : 0 <= a) (ha1 : a < pl) (hb0 : 0 <= b) (hb1 : b < pl) (p0 : 0 <= p) (p1 : p < pl) (hne : a ≠ b) {c' : List Int} (hc : c' = if gI c a + t < gI c b then c.set b.toNat (gI c a + t) else c) :
  Awb E pl p hr c' /\ sumI c' <= sumI c /\ (gI c a + t < gI c b -> sumI c' < sumI c) /\ gI c' a = gI c a /\ gI c' b = if gI c a + t < gI c b then gI c a + t else gI c b := by
 by_cases hlt : gI c a + t < gI c b
 ·rw [if_pos hlt] at hc
  subst hc
  have hl := h.len
  have hs := Cja c b.toNat (gI c a + t) (gI c b) (Awg hb0 (by omega))
  refine ⟨h.one hE ht ha0 ha1 hb0 hb1 p0 p1 hlt, by omega, fun _ => by omega, ?_, ?_⟩
  ·rw [Awh hb0 (by omega) ha0, if_neg (Ne.symm hne)]
  ·rw [Awh hb0 (by omega) hb0, if_pos rfl, if_pos hlt]
 ·rw [if_neg hlt] at hc
  subst hc
  exact ⟨h, Int.le_refl _, fun h => absurd h hlt, rfl, by rw [if_neg hlt]⟩
def Ak5 (ob : Nat) (H H' : Hp) : Prop := ∀ x u, x ≠ ob -> H x = some u -> H' x = some u
theorem Ak5.refl (ob : Nat) (H : Hp) : Ak5 ob H H := fun _ _ _ h => h
theorem Ak5.le {ob : Nat} {H H' H'' : Hp} (h : Ak5 ob H H') (l : H'.le H'') : Ak5 ob H H'' := fun x u hx hu => l _ _ (h x u hx hu)
theorem Ak5.set {ob : Nat} {H H' : Hp} {o : Obj} (h : Ak5 ob H H') : Ak5 ob H (H'.set ob o) := fun x u hx hu => by rw [Aqu hx]; exact h x u hx hu
theorem Ak5.base {ob : Nat} {H H2 H' : Hp} (h : Ak5 ob H2 H') (l : H.le H2) (hn : H ob = none) : H.le H' := fun x u hx => h x u (fun e => by rw [e, hn] at hx; cases hx) (l _ _ hx)
theorem Bw4 (m : Md) (H : Hp) (s : Sm) (dv hv nv : Value) (hs : SmIn H dv hv nv s) (ok : SmOk s) (p hr : Int) (p0 : 0 <= p) (p1 : p < s.places) (h0 : 0 <= hr) (h1 : hr <= 12) (tv : Value) (ts : List Int) (ht : SlI H tv ts) (htk : ts ∈ Axw s.doors) :
  FnX Tryz.prog m 41 #[smV s.places dv hv nv, .int .i64 p, .int .i64 hr, tv] H fun e H' => ∃ v, e = .returned v /\ SlI H' v (Awf s p hr ts) /\ H.le H' := by
 obtain ⟨da, dc, ha, kc, na, nc, rfl, rfl, rfl, l1, l2, l3⟩ := hs.forms
 obtain ⟨ta, tc, rfl, htc, _⟩ := id ht
 have k0 := ok.p0
 have k1 := ok.p1
 have k2 := ok.dl
 refine Aql func41 rfl ntmps41 (by simp) ?_
 (refine @unH _ (zA Aqy ?_); (try clear hK K); intro K hK hc)
 (intro sb hsb; generalize hG : Hp.set _ sb _ = H1; have lH1 := Aqc hG hsb; have vsb := Aqb hG; clear hG)
 have hs1 := hs.le lH1
 have ht1 := ht.le lH1
 have hs0 : SmIn H (.slice da s.doors.length dc) (.slice ha s.hampers.length kc) (.slice na s.noses.length nc) s := hs
 have ht0 : SlI H (.slice ta ts.length tc) ts := ht
 clear hs ht
 obtain ⟨n, hn⟩ : ∃ n : Nat, (n : Int) = s.places := ⟨s.places.toNat, by omega⟩
 rw [<- hn] at vsb ⊢
 have hn6 : n <= 6 := by omega
 replace hn : Aqk _ := hn
 (refine @unH _ (zU Aqy ?_); (try clear hK K); intro K hK hc)
 intro ob hob
 generalize hG : Hp.set H1 ob _ = H2
 have l12 := Aqc hG hob
 have vob := Aqb hG
 clear hG
 have vsb2 := l12 _ _ vsb
 have hs2 := hs1.le l12
 have ht2 := ht1.le l12
 have l02 := Hp.le_trans lH1 l12
 have hbo : sb ≠ ob := fun e => by rw [<- e, vsb] at hob; cases hob
 have hHo : H ob = none := by
  cases hx : H ob with
  | none => rfl
  | some u => have := lH1 _ _ hx; rw [hob] at this; cases this
 clear hs1 ht1 vsb
 (refine @unH _ (zU Aqy ?_); (try clear hK K); intro K hK hc)
 refine Axc (fun w a' H' => ∃ e j c, w = n - j /\ j <= n /\ a' = act 104 e [] /\ e 1 = .int .i64 p /\ e 2 = .int .i64 hr /\ e 3 = .slice ta ts.length tc /\ e 4 = .pointer (some ⟨sb, 0, none⟩) /\ e 9 = .slice (some ⟨ob, 0, none⟩) n n /\ e 10 = .int .i64 (j : Nat) /\
  H' ob = some (true, .cells (ints c).toArray 3 (0, 0)) /\ Ak5 ob H2 H' /\ (c.length <= n /\ n <= c.length) /\ Aqk (∀ i, i < j -> c[i]? = some 1000)) (n := n) ?_ ?_
 ·refine ⟨_, 0, List.replicate n 0, by omega, by omega, rfl, rfl, rfl, rfl, rfl, rfl, rfl, ?_, Ak5.refl _ _, by simp, fun i hi => by omega⟩
  rw [vob]
  simp [ints]
 ·rintro w a' H3 ⟨e, j, c, rfl, hj, rfl, e1, e2, e3, e4, e9, e10, v3, hk, hcl, hcv⟩
  have vsb3 := hk _ _ hbo vsb2
  by_cases hlt : j < n
  ·have hlt' : (j : Int) < n := by omega
   have hlc : j < (ints c).length := by rw [Aqz]; omega
   (refine @unH _ (Dwy ?_); (try clear hK K); intro K hK hc)
   refine ⟨n - (j + 1), by omega, _, j + 1, c.set j 1000, rfl, hlt, rfl, e1, e2, e3, e4, e9, rfl, Axf, hk.set, by rw [List.length_set]; exact hcl, fun i hi => ?_⟩
   have hcv : ∀ i, i < j -> c[i]? = some 1000 := hcv
   rw [List.getElem?_set]
   by_cases hij : j = i
   ·rw [if_pos hij, if_pos (by omega)]
   ·rw [if_neg hij]
    exact hcv i (by omega)
  ·have hlt' : ¬ (j : Int) < n := by omega
   have hcv : ∀ i, i < j -> c[i]? = some 1000 := hcv
   obtain rfl : c = List.replicate n 1000 := by
    apply List.ext_getElem?
    intro i
    rw [List.getElem?_replicate]
    by_cases hi : i < n
    ·rw [if_pos hi, hcv i (by omega)]
    ·rw [if_neg hi, List.getElem?_eq_none (by omega)]
   clear hcv hcl hj hlt
   have hpn : p < (n : Int) := by have : (n : Int) = s.places := hn; omega
   have hpl : p.toNat < (ints (List.replicate n (1000 : Int))).length := by rw [Aqz, List.length_replicate]; omega
   have hco : Awb (Edg s.doors ts) s.places p hr ((List.replicate n (1000 : Int)).set p.toNat hr) := by
    have e : n = s.places.toNat := by have : (n : Int) = s.places := hn; omega
    rw [e]
    exact Awb.start _ p0 p1 h1
   (refine @unH _ (Dw0 ?_); (try clear hK K); intro K hK hc)
   generalize hG : Hp.set H3 ob _ = H4
   have v4 : H4 ob = some (true, .cells (ints ((List.replicate n (1000 : Int)).set p.toNat hr)).toArray 3 (0, 0)) := by rw [<- hG, Axf]
   have hk4 : Ak5 ob H2 H4 := by rw [<- hG]; exact hk.set
   clear hG hk v3 vsb3
   generalize (List.replicate n (1000 : Int)).set p.toNat hr = c0 at v4 hco
   refine ⟨by rw [List.length_replicate]; omega, ?_⟩
   refine hK _ _ ?_
   clear hK K hcv hpl e10
   (try refine @unH _ (zQ ?_))
   (refine @unH _ (zA Aqy ?_); (try clear hK K); intro K hK hc)
   refine Axc (fun w a' H' => ∃ e fl c, w = (sumI c).toNat + (if fl then 1 else 0) /\ a' = act 104 e [] /\ e 3 = .slice ta ts.length tc /\ e 4 = .pointer (some ⟨sb, 0, none⟩) /\ e 9 = .slice (some ⟨ob, 0, none⟩) n n /\ e 11 = .bool fl /\
    H' ob = some (true, .cells (ints c).toArray 3 (0, 0)) /\ Ak5 ob H2 H' /\ Awb (Edg s.doors ts) s.places p hr c /\ Aqk (fl = false -> ∀ (i : Nat) (d : Dr) (t : Int), s.doors[i]? = some d -> ts[i]? = some t -> gI c d.b <= gI c d.a + t /\ gI c d.a <= gI c d.b + t)) (n := (sumI c0).toNat + 1) ?_ ?_
   ·exact ⟨_, true, c0, rfl, rfl, e3, e4, e9, rfl, v4, hk4, hco, fun h => by cases h⟩
   clear v4 hk4 hco e1 e2 e3 e4 e9
   rintro w a' H5 ⟨e, fl, c, rfl, rfl, e3, e4, e9, e11, v5, hk5, hco5, hst⟩
   cases fl with
   | false =>
    (refine @unH _ (zA Aqy ?_); (try clear hK K); intro K hK hc)
    (refine @unH _ ?_; refine z9 results41 ?_)
    have hst : ∀ (i : Nat) (d : Dr) (t : Int), s.doors[i]? = some d -> ts[i]? = some t -> gI c d.b <= gI c d.a + t /\ gI c d.a <= gI c d.b + t := (show false = false -> _ from hst) rfl
    have hce : c = Awf s p hr ts := hco5.is ok htk h0 h1 p0 p1 fun a b t he => by
     obtain ⟨i, d, g1, g2, g3⟩ := he.ix
     have := hst i d t g1 g2
     rcases g3 with ⟨rfl, rfl⟩ | ⟨rfl, rfl⟩
     ·exact this.1
     ·exact this.2
    refine ⟨_, rfl, ?_, hk5.base l02 hHo⟩
    rw [<- hce]
    have hcl : n = c.length := by have := hco5.len; have : (n : Int) = s.places := hn; omega
    exact Bzi v5 rfl hcl
   | true =>
    clear hst
    (refine @unH _ (zA Aqy ?_); (try clear hK K); intro K hK hc)
    refine Axc (fun w a' H' => ∃ e i fl c', w = s.doors.length - i /\ i <= s.doors.length /\ a' = act 104 e [] /\ e 3 = .slice ta ts.length tc /\ e 4 = .pointer (some ⟨sb, 0, none⟩) /\ e 9 = .slice (some ⟨ob, 0, none⟩) n n /\ e 11 = .bool fl /\ e 12 = .int .i64 (i : Nat) /\
     H' ob = some (true, .cells (ints c').toArray 3 (0, 0)) /\ Ak5 ob H2 H' /\ Awb (Edg s.doors ts) s.places p hr c' /\ Aqk (fl = true -> sumI c' < sumI c) /\ Aqk (fl = false -> c' = c /\ ∀ (j : Nat) (d : Dr) (t : Int), j < i -> s.doors[j]? = some d -> ts[j]? = some t -> gI c d.b <= gI c d.a + t /\ gI c d.a <= gI c d.b + t)) (n := s.doors.length) ?_ ?_
    ·exact ⟨_, 0, false, c, rfl, by omega, rfl, e3, e4, e9, rfl, rfl, v5, hk5, hco5, fun h => (by cases h), fun _ => ⟨rfl, fun _ _ _ h => by omega⟩⟩
    clear v5 hk5 e3 e4 e9 e11
    rintro w a' H6 ⟨e, i, fl, c6, rfl, hi, rfl, e3, e4, e9, e11, e12, v6, hk6, hco6, ht6, hf6⟩
    have l06 := hk6.base l02 hHo
    have vsb6 := hk6 _ _ hbo vsb2
    by_cases hlt : i < s.doors.length
    ·have hkd := List.getElem?_eq_getElem hlt
     have hdk := ok.dk _ (List.mem_of_getElem? hkd)
     have hil : i < ts.length := by rw [Akq htk]; exact hlt
     have hkt := List.getElem?_eq_getElem hil
     have hEd := Edg.of hkd hkt
     have ht1 := ((Akp (pl := s.places) ok.dk).1 htk).2 i _ _ hkd hkt
     have hlt' : (i : Int) < s.doors.length := by omega
     obtain ⟨db, dof, dp, dcl, dfr, rfl, hdb2, hdsz, hdrl, hdext⟩ := SlG.get (hs0.le l06).dd (i := i) (r := Bj1 s.doors[i]) (by rw [List.getElem?_map, hkd]; rfl)
     obtain ⟨xb, xo, xc, bown, xcl, xfr, hve, _, hxb0, hxx⟩ := ht0.cons (fun h => absurd (congrArg List.length h) (by simp only [List.length_nil]; omega))
     cases hve
     have hxb := l06 _ _ hxb0
     have hbx : xb ≠ ob := fun e => by rw [e, hHo] at hxb0; cases hxb0
     clear hxb0
     have hxi := hxx i ts[i] hkt
     clear hxx
     replace hkd : Aqk _ := hkd
     replace hkt : Aqk _ := hkt
     generalize s.doors[i] = d at *
     generalize ts[i] = t at *
     unfold Bj1 at hdext
     have ha0 := hdk.a0
     have ha1 := hdk.a1
     have hb0 := hdk.b0
     have hb1 := hdk.b1
     have hn' : (n : Int) = s.places := hn
     have han : d.a < (n : Int) := by omega
     have hbn : d.b < (n : Int) := by omega
     have hxa : (ints c6).toArray[d.a.toNat]? = some (.int .i64 (gI c6 d.a)) := by
      have hg := Awg (c := c6) ha0 (by rw [hco6.len]; omega)
      simpa using Akg hg
     have hxb2 : (ints c6).toArray[d.b.toNat]? = some (.int .i64 (gI c6 d.b)) := by
      have hg := Awg (c := c6) hb0 (by rw [hco6.len]; omega)
      simpa using Akg hg
     clear hn' hdrl
     have t1 : 1 <= t /\ t <= 4 := by have := hdk.m0; have := hdk.m2; omega
     have bA := hco6.le ha0 ha1
     have bA' := hco6.pos d.a ha0 ha1
     have bB := hco6.le hb0 hb1
     have bB' := hco6.pos d.b hb0 hb1
     generalize hA : gI c6 d.a = A at *
     generalize hB : gI c6 d.b = B at *
     replace hA : Aqk _ := hA
     replace hB : Aqk _ := hB
     replace ht1 : Aqk _ := ht1
     generalize hCC : (ints c6).toArray = CC at *
     replace hCC : Aqk _ := hCC
     (refine @unH _ (zA Aqy ?_); (try clear hK K); intro K hK hc)
     (intro tb htb; generalize hG : Hp.set _ tb _ = H7; have lH7 := Aqc hG htb; have vtb := Aqb hG; clear hG)
     have v7 := lH7 _ _ v6
     have xb7 := lH7 _ _ hxb
     have hk7 := hk6.le lH7
     have hbt : tb ≠ ob := fun e => by rw [e, v6] at htb; cases htb
     clear lH7 v6 hxb hk6 hdb2 hdsz hdext l06 vsb6 htb
     refine hK _ _ ?_
     clear hK K
     (try refine @unH _ (zQ ?_))
     have hCs : CC.size = n := by
      have h1 : (ints c6).toArray = CC := hCC
      have h2 : (n : Int) = s.places := hn
      rw [<- h1, List.size_toArray, Aqz, hco6.len]
      omega
     have ha' : d.a.toNat < CC.size := by omega
     have hb' : d.b.toNat < CC.size := by omega
     have c7e : ∃ c7 : List Int, Aqk (c7 = if A + t < B then c6.set d.b.toNat (A + t) else c6) := ⟨_, rfl⟩
     obtain ⟨c7, hc7⟩ := c7e
     have hq1 : ∀ o, Hp.cell H7 ⟨ob, o, none⟩ = CC[o]? := fun o => cell_of v7
     have hq2 : ∀ o, Hp.cell H7 ⟨tb, o, none⟩ = (#[.int .i64 d.a, .int .i64 d.b, .int .i64 d.mn, .int .i64 d.mx] : Array Value)[o]? := fun o => cell_of vtb
     have hq3 : ∀ o, Hp.cell H7 ⟨xb, o, none⟩ = xcl[o]? := fun o => cell_of xb7
     refine Av3 (fun a' H' => ∃ e, a' = act 104 e [] /\ e 3 = .slice (some ⟨xb, xo, none⟩) ts.length tc /\ e 4 = .pointer (some ⟨sb, 0, none⟩) /\ e 9 = .slice (some ⟨ob, 0, none⟩) n n /\ e 11 = .bool (if A + t < B then true else fl) /\ e 12 = .int .i64 (i : Nat) /\ e 13 = .pointer (some ⟨tb, 0, none⟩) /\
      H' ob = some (true, .cells (ints c7).toArray 3 (0, 0)) /\ Ak5 ob H7 H') ?_ ?_
     ·refine Axp ?_
      refine Axn (fun HX => HX = H7) [] (.free 0 (.free 1 (.take 2 (.free 3 (.take 4 (.free 5 (.free 6 (.free 7 (.take 8 (.free 9 (.free 10 (.free 11 (.take 12 (.free 13 (.take 14 (.free 15 .nil)))))))))))))))) (by kernel_rfl) (by kernel_rfl) (by decide) (by kernel_rfl) ?_; intro K hK
      refine Ax5 fun ops hOz => ?_
      (iterate 2 (refine @unH _ ?_; refine zF Aqy ?_))
      (refine @unH _ ?_; refine zL (aN Aqy @exists_eq_left'.{1}) ?_)
      (refine @unH _ ?_; refine zF Aqy ?_)
      (refine @unH _ ?_; refine zL (aN Aqy @exists_eq_left'.{1}) ?_)
      (iterate 3 (refine @unH _ ?_; refine zF Aqy ?_))
      (refine @unH _ ?_; refine zL (aN Aqy @exists_eq_left'.{1}) ?_)
      (iterate 3 (refine @unH _ ?_; refine zF Aqy ?_))
      (refine @unH _ ?_; refine zL (aN Aqy @exists_eq_left'.{1}) ?_)
      (refine @unH _ ?_; refine zF Aqy ?_)
      (refine @unH _ ?_; refine zL (aN Aqy @exists_eq_left'.{1}) ?_)
      (refine @unH _ ?_; refine zF Aqy ?_)
      (refine Aja (hK _ _ ?_); clear hK K; (try simp only [nq, ↓reduceIte, Nat.reduceEqDiff]))
      by_cases hAB : A + t < B
      ·(refine @unH _ (zA Aqy ?_); (try clear hK K); intro K hK hc)
       refine Axn (fun HX => HX = H7) [14] (.free 0 (.free 1 (.take 2 (.free 3 (.free 4 (.take 5 (.free 6 (.take 7 (.free 8 (.free 9 (.free 10 (.take 11 (.free 12 (.free 13 (.one 14 (.free 15 .nil)))))))))))))))) (by kernel_rfl) (by kernel_rfl) (by decide) (by kernel_rfl) ?_; intro K hK
       refine Ax5 fun ops hOz => ?_
       (iterate 2 (refine @unH _ ?_; refine zF Aqy ?_))
       (refine @unH _ ?_; refine zL (aN Aqy @exists_eq_left'.{1}) ?_)
       (iterate 2 (refine @unH _ ?_; refine zF Aqy ?_))
       (refine @unH _ ?_; refine zL (aN Aqy @exists_eq_left'.{1}) ?_)
       (refine @unH _ ?_; refine zF Aqy ?_)
       (refine @unH _ ?_; refine zL (aN Aqy @exists_eq_left'.{1}) ?_)
       (iterate 3 (refine @unH _ ?_; refine zF Aqy ?_))
       (refine @unH _ ?_; refine zL (aN Aqy @exists_eq_left'.{1}) ?_)
       (iterate 2 (refine @unH _ ?_; refine zF Aqy ?_))
       (refine @unH _ ?_; refine zM (aN Aqy @exists_eq_left'.{1}) ?_)
       refine ⟨.inl (by decide), ?_⟩
       (refine @unH _ ?_; refine zF Aqy ?_)
       (refine Aja (hK _ _ ?_); clear hK K; (try simp only [nq, ↓reduceIte, Nat.reduceEqDiff]))
       have hp7 : CC.setIfInBounds d.b.toNat (.int .i64 (A + t)) = (ints c7).toArray := by
        rw [show c7 = _ from hc7, if_pos hAB, <- show (ints c6).toArray = CC from hCC, Bze]
       rw [hp7]
       exact ⟨_, rfl, e3, e4, e9, by rw [if_pos hAB]; rfl, e12, rfl, Axf, (Ak5.refl _ _).set⟩
      ·(refine @unH _ (zA Aqy ?_); (try clear hK K); intro K hK hc)
       have hp7 : CC = (ints c7).toArray := by
        rw [show c7 = _ from hc7, if_neg hAB, <- show (ints c6).toArray = CC from hCC]
       exact ⟨_, rfl, e3, e4, e9, by rw [if_neg hAB]; exact e11, e12, rfl, by rw [v7, hp7], Ak5.refl _ _⟩
     ·clear e3 e4 e9 e11 e12 hq1 hq2 hq3
      rintro a H8 ⟨e, rfl, e3, e4, e9, e11, e12, e13, v8, hk78⟩
      obtain ⟨hco7, hs7, ht7, hA7, hB7⟩ := Czp hco6 hEd t1.1 ha0 ha1 hb0 hb1 p0 p1 hdk.ne (c' := c7) (by rw [show gI c6 d.a = A from hA, show gI c6 d.b = B from hB]; exact hc7)
      rw [show gI c6 d.a = A from hA, show gI c6 d.b = B from hB] at ht7 hB7
      rw [show gI c6 d.a = A from hA] at hA7
      have hcl7 := hco7.len
      have hn' : (n : Int) = s.places := hn
      have hxa : (ints c7).toArray[d.a.toNat]? = some (.int .i64 (gI c7 d.a)) := by
       have hg := Awg (c := c7) ha0 (by omega)
       simpa using Akg hg
      have hxb2 : (ints c7).toArray[d.b.toNat]? = some (.int .i64 (gI c7 d.b)) := by
       have hg := Awg (c := c7) hb0 (by omega)
       simpa using Akg hg
      have hCs : (ints c7).toArray.size = n := by rw [List.size_toArray, Aqz]; omega
      clear hn'
      have vtb8 := hk78 _ _ hbt vtb
      have xb8 := hk78 _ _ hbx xb7
      have hk8 : Ak5 ob H2 H8 := fun x u hx hu => hk78 x u hx (hk7 x u hx hu)
      clear hk7 hk78 vtb xb7 v7 hbt
      replace hA7 : Aqk _ := hA7
      replace hB7 : Aqk _ := hB7
      replace hc7 : Aqk _ := hc7
      replace hs7 : Aqk _ := hs7
      replace ht7 : Aqk _ := ht7
      generalize hAg : gI c7 d.a = A7 at *
      generalize hBg : gI c7 d.b = B7 at *
      have bA := hco7.le ha0 ha1
      have bA' := hco7.pos d.a ha0 ha1
      have bB := hco7.le hb0 hb1
      have bB' := hco7.pos d.b hb0 hb1
      rw [hAg] at bA bA'
      rw [hBg] at bB bB'
      replace hAg : Aqk _ := hAg
      replace hBg : Aqk _ := hBg
      clear hCC hcl7
      generalize hCC7 : (ints c7).toArray = C7 at *
      replace hCC7 : Aqk _ := hCC7
      have ha' : d.a.toNat < C7.size := by omega
      have hb' : d.b.toNat < C7.size := by omega
      have hq1 : ∀ o, Hp.cell H8 ⟨ob, o, none⟩ = C7[o]? := fun o => cell_of v8
      have hq2 : ∀ o, Hp.cell H8 ⟨tb, o, none⟩ = (#[.int .i64 d.a, .int .i64 d.b, .int .i64 d.mn, .int .i64 d.mx] : Array Value)[o]? := fun o => cell_of vtb8
      have hq3 : ∀ o, Hp.cell H8 ⟨xb, o, none⟩ = xcl[o]? := fun o => cell_of xb8
      obtain ⟨c8, hc8⟩ : ∃ c8 : List Int, Aqk (c8 = if B7 + t < A7 then c7.set d.a.toNat (B7 + t) else c7) := ⟨_, rfl⟩
      refine Dzp (fun a' H' => ∃ e, a' = act 104 e [] /\ e 3 = .slice (some ⟨xb, xo, none⟩) ts.length tc /\ e 4 = .pointer (some ⟨sb, 0, none⟩) /\ e 9 = .slice (some ⟨ob, 0, none⟩) n n /\ e 11 = .bool (if B7 + t < A7 then true else (if A + t < B then true else fl)) /\ e 12 = .int .i64 (i : Nat) /\
       H' ob = some (true, .cells (ints c8).toArray 3 (0, 0)) /\ Ak5 ob H8 H') ?_ ?_
      ·refine Axp ?_
       refine Axn (fun HX => HX = H8) [] (.free 0 (.free 1 (.take 2 (.free 3 (.take 4 (.free 5 (.free 6 (.free 7 (.take 8 (.free 9 (.free 10 (.free 11 (.take 12 (.free 13 (.take 14 (.free 15 .nil)))))))))))))))) (by kernel_rfl) (by kernel_rfl) (by decide) (by kernel_rfl) ?_; intro K hK
       refine Ax5 fun ops hOz => ?_
       (iterate 2 (refine @unH _ ?_; refine zF Aqy ?_))
       (refine @unH _ ?_; refine zL (aN Aqy @exists_eq_left'.{1}) ?_)
       (refine @unH _ ?_; refine zF Aqy ?_)
       (refine @unH _ ?_; refine zL (aN Aqy @exists_eq_left'.{1}) ?_)
       (iterate 3 (refine @unH _ ?_; refine zF Aqy ?_))
       (refine @unH _ ?_; refine zL (aN Aqy @exists_eq_left'.{1}) ?_)
       (iterate 3 (refine @unH _ ?_; refine zF Aqy ?_))
       (refine @unH _ ?_; refine zL (aN Aqy @exists_eq_left'.{1}) ?_)
       (refine @unH _ ?_; refine zF Aqy ?_)
       (refine @unH _ ?_; refine zL (aN Aqy @exists_eq_left'.{1}) ?_)
       (refine @unH _ ?_; refine zF Aqy ?_)
       (refine Aja (hK _ _ ?_); clear hK K; (try simp only [nq, ↓reduceIte, Nat.reduceEqDiff]))
       by_cases hBA : B7 + t < A7
       ·(refine @unH _ (zA Aqy ?_); (try clear hK K); intro K hK hc)
        refine Axn (fun HX => HX = H8) [14] (.free 0 (.free 1 (.take 2 (.free 3 (.free 4 (.take 5 (.free 6 (.take 7 (.free 8 (.free 9 (.free 10 (.take 11 (.free 12 (.free 13 (.one 14 (.free 15 .nil)))))))))))))))) (by kernel_rfl) (by kernel_rfl) (by decide) (by kernel_rfl) ?_; intro K hK
        refine Ax5 fun ops hOz => ?_
        (iterate 2 (refine @unH _ ?_; refine zF Aqy ?_))
        (refine @unH _ ?_; refine zL (aN Aqy @exists_eq_left'.{1}) ?_)
        (iterate 2 (refine @unH _ ?_; refine zF Aqy ?_))
        (refine @unH _ ?_; refine zL (aN Aqy @exists_eq_left'.{1}) ?_)
        (refine @unH _ ?_; refine zF Aqy ?_)
        (refine @unH _ ?_; refine zL (aN Aqy @exists_eq_left'.{1}) ?_)
        (iterate 3 (refine @unH _ ?_; refine zF Aqy ?_))
        (refine @unH _ ?_; refine zL (aN Aqy @exists_eq_left'.{1}) ?_)
        (iterate 2 (refine @unH _ ?_; refine zF Aqy ?_))
        (refine @unH _ ?_; refine zM (aN Aqy @exists_eq_left'.{1}) ?_)
        refine ⟨.inl (by decide), ?_⟩
        (refine @unH _ ?_; refine zF Aqy ?_)
        (refine Aja (hK _ _ ?_); clear hK K; (try simp only [nq, ↓reduceIte, Nat.reduceEqDiff]))
        have hp8 : C7.setIfInBounds d.a.toNat (.int .i64 (B7 + t)) = (ints c8).toArray := by
         rw [show c8 = _ from hc8, if_pos hBA, <- show (ints c7).toArray = C7 from hCC7, Bze]
        rw [hp8]
        exact ⟨_, rfl, e3, e4, e9, by rw [if_pos hBA]; rfl, e12, Axf, (Ak5.refl _ _).set⟩
       ·(refine @unH _ (zA Aqy ?_); (try clear hK K); intro K hK hc)
        have hp8 : C7 = (ints c8).toArray := by
         rw [show c8 = _ from hc8, if_neg hBA, <- show (ints c7).toArray = C7 from hCC7]
        exact ⟨_, rfl, e3, e4, e9, by rw [if_neg hBA]; exact e11, e12, by rw [v8, hp8], Ak5.refl _ _⟩
      ·clear e3 e4 e9 e11 e12 e13 hq1 hq2 hq3
       rintro a H9 ⟨e, rfl, e3, e4, e9, e11, e12, v9, hk89⟩
       clear hxa hxb2 ha' hb' hCs hCC7 v8 vtb8 xb8
       (try refine @unH _ (zQ ?_))
       (refine @unH _ (zA Aqy ?_); (try clear hK K); intro K hK hc)
       obtain ⟨hco8, hs8, ht8, _, _⟩ := Czp hco7 hEd.symm t1.1 hb0 hb1 ha0 ha1 p0 p1 (Ne.symm hdk.ne) (c' := c8) (by rw [show gI c7 d.a = A7 from hAg, show gI c7 d.b = B7 from hBg]; exact hc8)
       rw [show gI c7 d.a = A7 from hAg, show gI c7 d.b = B7 from hBg] at ht8
       have hs7 : sumI c7 <= sumI c6 := hs7
       have ht7 : A + t < B -> sumI c7 < sumI c6 := ht7
       have ht6 : fl = true -> sumI c6 < sumI c := ht6
       have hf6 : fl = false -> c6 = c /\ ∀ (j : Nat) (d : Dr) (t : Int), j < i -> s.doors[j]? = some d -> ts[j]? = some t -> gI c d.b <= gI c d.a + t /\ gI c d.a <= gI c d.b + t := hf6
       have h6c : sumI c6 <= sumI c := by
        cases fl with
        | true => exact Int.le_of_lt (ht6 rfl)
        | false => rw [(hf6 rfl).1]; exact Int.le_refl _
       refine ⟨s.doors.length - (i + 1), by omega, _, i + 1, if B7 + t < A7 then true else (if A + t < B then true else fl), c8, rfl, hlt, rfl, e3, e4, e9, e11, rfl, v9, fun x u hx hu => hk89 x u hx (hk8 x u hx hu), hco8, fun hfl => ?_, fun hfl => ?_⟩
       ·by_cases h1 : B7 + t < A7
        ·have := ht8 h1; omega
        ·rw [if_neg h1] at hfl
         by_cases h2 : A + t < B
         ·have := ht7 h2; omega
         ·rw [if_neg h2] at hfl
          have := ht6 hfl
          omega
       ·by_cases h1 : B7 + t < A7
        ·rw [if_pos h1] at hfl; cases hfl
        ·rw [if_neg h1] at hfl
         by_cases h2 : A + t < B
         ·rw [if_pos h2] at hfl; cases hfl
         ·rw [if_neg h2] at hfl
          obtain ⟨g1, g2⟩ := hf6 hfl
          have e8 : c8 = c7 := by rw [show c8 = _ from hc8, if_neg h1]
          have e7 : c7 = c6 := by rw [show c7 = _ from hc7, if_neg h2]
          refine ⟨by rw [e8, e7, g1], fun j d' t' hj hd' ht' => ?_⟩
          by_cases hji : j < i
          ·exact g2 j d' t' hji hd' ht'
          ·obtain rfl : j = i := by omega
           have hkd : s.doors[j]? = some d := hkd
           have hkt : ts[j]? = some t := hkt
           rw [hkd] at hd'
           rw [hkt] at ht'
           cases hd'
           cases ht'
           have q1 : gI c6 d.a = A := hA
           have q2 : gI c6 d.b = B := hB
           have q3 : gI c7 d.a = A7 := hAg
           have q4 : gI c7 d.b = B7 := hBg
           rw [e7, g1] at q3 q4
           rw [g1] at q1 q2
           omega
    ·have hlt' : ¬ (i : Int) < s.doors.length := by omega
     (refine @unH _ (zA Aqy ?_); (try clear hK K); intro K hK hc)
     have ht6 : fl = true -> sumI c6 < sumI c := ht6
     have hf6 : fl = false -> c6 = c /\ ∀ (j : Nat) (d : Dr) (t : Int), j < i -> s.doors[j]? = some d -> ts[j]? = some t -> gI c d.b <= gI c d.a + t /\ gI c d.a <= gI c d.b + t := hf6
     have hsum := hco6.sum h0
     refine ⟨(sumI c6).toNat + (if fl then 1 else 0), ?_, _, fl, c6, rfl, rfl, e3, e4, e9, e11, v6, hk6, hco6, fun hfl j d t hd ht => ?_⟩
     ·cases fl with
      | true => have := ht6 rfl; simp only [if_true]; omega
      | false => rw [(hf6 rfl).1]; simp
     ·obtain ⟨g1, g2⟩ := hf6 hfl
      rw [g1]
      exact g2 j d t (by have := (List.getElem?_eq_some_iff.1 hd).1; omega) hd ht
end Go.Proofs.YtnfnaehonkbknaaGreatDoor
end
