/- Texts KeepH LawVR RowPut LTin KeepX LNum. -/
import Derived.Test.YtgniilnljeedlaaGreatDoorJ23
set_option linter.defProp false
set_option linter.unusedSimpArgs false
set_option linter.unusedVariables false
set_option maxRecDepth 100000
set_option maxHeartbeats 2000000
section
namespace Go.Proofs.YtgniilnljeedlaaGreatDoor
open Go Go.X
theorem set_keeps0 {H : Hp} {b : Nat} {p : Bool} {c0 : Array Value} {e0 : TypeId} {fr0 : Nat × Nat} {o : Obj} (hb : H b = some (p, .cells c0 e0 fr0)) (h1 : e0 ≠ 3) (h2 : e0 ≠ 22) : ∀ x p c fr e, (e = 3 ∨ e = 22) -> H x = some (p, .cells c e fr) -> (H.set b o) x = some (p, .cells c e fr) := fun x p c fr e he hx => by
 rw [Aqo (fun e' => ?_)]
 ·exact hx
 ·rw [e', hb] at hx
  simp only [Option.some.injEq, Prod.mk.injEq, Obj.cells.injEq] at hx
  rcases he with he | he <;> rw [he] at hx
  ·exact h1 hx.2.2.1
  ·exact h2 hx.2.2.1
end Go.Proofs.YtgniilnljeedlaaGreatDoor
end
section
namespace Go.Proofs.YtgniilnljeedlaaGreatDoor
open Go Go.X
theorem nodup_len {α : Type} [BEq α] [LawfulBEq α] : ∀ {l l' : List α}, l.Nodup -> (∀ x ∈ l, x ∈ l') -> l.length <= l'.length
 | [], _, _, _ => Nat.zero_le _
 | x :: l, l', hn, h => by
  rw [List.nodup_cons] at hn
  have hx := h x List.mem_cons_self
  have ih := nodup_len (l := l) (l' := l'.erase x) hn.2 fun y hy => (List.mem_erase_of_ne fun e : y = x => hn.1 (by rw [<- e]; exact hy)).2 (h y (List.mem_cons_of_mem _ hy))
  rw [List.length_erase_of_mem hx] at ih
  have := List.length_pos_of_mem hx
  simp only [List.length_cons]
  omega
theorem nodup_map_in {α β : Type} {f : α -> β} : ∀ {l : List α}, (∀ x ∈ l, ∀ y ∈ l, f x = f y -> x = y) -> l.Nodup -> (l.map f).Nodup
 | [], _, _ => List.nodup_nil
 | x :: l, h, hn => by
  rw [List.nodup_cons] at hn
  rw [List.map_cons, List.nodup_cons]
  refine ⟨fun hm => ?_, nodup_map_in (fun y hy z hz => h y (List.mem_cons_of_mem _ hy) z (List.mem_cons_of_mem _ hz)) hn.2⟩
  obtain ⟨y, hy, e⟩ := List.mem_map.1 hm
  have := h y (List.mem_cons_of_mem _ hy) x List.mem_cons_self e
  exact hn.1 (this ▸ hy)
structure Ren (n : Int) (g h : Int -> Int) : Prop where
 n6 : n <= 6
 gh : ∀ x, 0 <= x -> x < n -> 0 <= g x /\ g x < n /\ h (g x) = x
 hg : ∀ x, 0 <= x -> x < n -> 0 <= h x /\ h x < n /\ g (h x) = x
theorem Ren.symm {n : Int} {g h : Int -> Int} (r : Ren n g h) : Ren n h g := ⟨r.n6, r.hg, r.gh⟩
theorem Ren.inj {n : Int} {g h : Int -> Int} (r : Ren n g h) {x y : Int} (hx : 0 <= x /\ x < n) (hy : 0 <= y /\ y < n) (e : g x = g y) : x = y := by
 rw [<- (r.gh x hx.1 hx.2).2.2, e, (r.gh y hy.1 hy.2).2.2]
structure RelO (n : Int) (g : Int -> Int) (m m' : Nat) : Prop where
 a : ∀ x, inO m x -> x < n
 b : ∀ x, inO m' x -> x < n
 m : ∀ x, 0 <= x -> x < n -> (inO m' (g x) ↔ inO m x)
section
variable {n : Int} {g h : Int -> Int} (r : Ren n g h)
include r
theorem RelO.symm {m m' : Nat} (o : RelO n g m m') : RelO n h m' m := ⟨o.b, o.a, fun x h0 hn => by
 have := r.hg x h0 hn
 rw [<- o.m (h x) this.1 this.2.1, this.2.2]⟩
theorem RelO.le {m m' : Nat} (o : RelO n g m m') : Aq3 m <= Aq3 m' := by
 rw [<- Avu, <- Avu, <- List.length_map (f := g)]
 refine nodup_len (nodup_map_in (fun x hx y hy e => ?_) ((Cyr m).imp fun h => by omega)) fun y hy => ?_
 ·have hx' := Azx.1 hx
  have hy' := Azx.1 hy
  exact r.inj ⟨hx'.1, o.a x hx'⟩ ⟨hy'.1, o.a y hy'⟩ e
 ·obtain ⟨x, hx, rfl⟩ := List.mem_map.1 hy
  have hx' := Azx.1 hx
  exact Azx.2 ((o.m x hx'.1 (o.a x hx')).2 hx')
theorem RelO.count {m m' : Nat} (o : RelO n g m m') : Aq3 m' = Aq3 m := Nat.le_antisymm (RelO.le r.symm (RelO.symm r o)) (RelO.le r o)
end
theorem relO_zero {n : Int} {g : Int -> Int} : RelO n g 0 0 := ⟨fun x h => absurd h (Cyi x), fun x h => absurd h (Cyi x), fun x _ _ => ⟨fun h => absurd h (Cyi _), fun h => absurd h (Cyi _)⟩⟩
def g1 (g : Int -> Int) (c : Int) : Int := if c = -1 then -1 else g c
section
variable {n : Int} {g h : Int -> Int} (r : Ren n g h)
include r
theorem g1_bnd {c : Int} (hc : c = -1 ∨ (0 <= c /\ c < n)) : g1 g c = -1 /\ c = -1 ∨ (c ≠ -1 /\ g1 g c = g c /\ 0 <= g c /\ g c < n) := by
 unfold g1
 rcases hc with rfl | hc
 ·exact .inl ⟨rfl, rfl⟩
 ·have := r.gh c hc.1 hc.2
  exact .inr ⟨by omega, by rw [if_neg (by omega)], this.1, this.2.1⟩
theorem RelO.next {m m' : Nat} (o : RelO n g m m') {s t : Int} (hs : s = -1 ∨ (0 <= s /\ s < n)) (ht : 0 <= t /\ t < n) : RelO n g (Aq0 m s t) (Aq0 m' (g1 g s) (g t)) := by
 have h6 := r.n6
 have hgt := r.gh t ht.1 ht.2
 have hg1 := g1_bnd r hs
 have e1 := fun x => Akm (m := m) (s := s) (t := t) (x := x) (by omega) (by omega) ht.1 (by omega)
 have e2 := fun x => Akm (m := m') (s := g1 g s) (t := g t) (x := x) (by omega) (by omega) hgt.1 (by omega)
 refine ⟨fun x hx => ?_, fun x hx => ?_, fun x h0 hn => ?_⟩
 ·rcases (e1 x).1 hx with h | h
  ·omega
  ·exact o.a x h.1
 ·rcases (e2 x).1 hx with h | h
  ·omega
  ·exact o.b x h.1
 ·have hgx := r.gh x h0 hn
  rw [e1, e2, o.m x h0 hn]
  constructor
  ·rintro (e | ⟨h1, h2⟩)
   ·exact .inl (r.inj ⟨h0, hn⟩ ht e)
   ·refine .inr ⟨h1, fun e => h2 ?_⟩
    rcases hg1 with ⟨h3, h4⟩ | ⟨h3, h4, _⟩
    ·omega
    ·rw [h4, e]
  ·rintro (e | ⟨h1, h2⟩)
   ·exact .inl (by rw [e])
   ·refine .inr ⟨h1, fun e => h2 ?_⟩
    rcases hg1 with ⟨h3, h4⟩ | ⟨h3, h4, _⟩
    ·omega
    ·rw [h4] at e
     exact r.inj ⟨h0, hn⟩ (hs.resolve_left h3) e
theorem opts_ren {pl : Int} {m m' : Nat} (o : RelO n g m m') {c t : Int} (hc : c = -1 ∨ (0 <= c /\ c < n)) (ht : 0 <= t /\ t < n) : (g1 g c ∈ Axx pl m' (g t) ↔ c ∈ Axx pl m t) /\ Azw m' (g t) = Azw m t := by
 have h6 := r.n6
 have hgt := r.gh t ht.1 ht.2
 have hg1 := g1_bnd r hc
 have hm1 : g1 g c = -1 ↔ c = -1 := by
  rcases hg1 with ⟨h3, h4⟩ | ⟨h3, h4, h5, _⟩
  ·exact ⟨fun _ => h4, fun _ => h3⟩
  ·exact ⟨fun e => by omega, fun e => absurd e h3⟩
 by_cases hin : inO m t
 ·obtain ⟨a1, a2⟩ := Ajs (pl := pl) ht.1 (by omega) hin
  obtain ⟨b1, b2⟩ := Ajs (pl := pl) hgt.1 (by omega) ((o.m t ht.1 ht.2).2 hin)
  rw [a1, b1, a2, b2, List.mem_singleton, List.mem_singleton]
  exact ⟨hm1, rfl⟩
 ·obtain ⟨a1, a2⟩ := Aza (pl := pl) hin ht.1 (by omega)
  obtain ⟨b1, b2⟩ := Aza (pl := pl) (fun h => hin ((o.m t ht.1 ht.2).1 h)) hgt.1 (by omega)
  rw [a1, b1, a2, b2, RelO.count r o]
  refine ⟨?_, rfl⟩
  split
  ·rw [Azx, Azx]
   rcases hg1 with ⟨h3, h4⟩ | ⟨h3, h4, h5, _⟩
   ·rw [h3, h4]
    exact ⟨fun h => absurd rfl (Ajq h), fun h => absurd rfl (Ajq h)⟩
   ·rw [h4]
    exact o.m c (hc.resolve_left h3).1 (hc.resolve_left h3).2
  ·rw [List.mem_singleton, List.mem_singleton]
   exact hm1
theorem chF_ren {pl : Int} : ∀ (ts cs : List Int) (m m' : Nat), RelO n g m m' -> (∀ t ∈ ts, 0 <= t /\ t < n) -> (∀ c ∈ cs, c = -1 ∨ (0 <= c /\ c < n)) -> chF pl (ts.map g) m' (cs.map (g1 g)) = chF pl ts m cs
 | [], [], _, _, _, _, _ => rfl
 | [], _ :: _, _, _, _, _, _ => rfl
 | _ :: _, [], _, _, _, _, _ => rfl
 | t :: ts, c :: cs, m, m', o, hb, hc => by
  obtain ⟨h1, h2⟩ := opts_ren r (pl := pl) o (hc c List.mem_cons_self) (hb t List.mem_cons_self)
  have ih := chF_ren (pl := pl) ts cs _ _ (RelO.next r o (hc c List.mem_cons_self) (hb t List.mem_cons_self)) (fun x hx => hb x (List.mem_cons_of_mem _ hx)) fun x hx => hc x (List.mem_cons_of_mem _ hx)
  simp only [List.map_cons, chF, ih, h2]
  by_cases hco : c ∈ Axx pl m t
  ·rw [if_pos hco, if_pos (h1.2 hco)]
  ·rw [if_neg hco, if_neg fun h => hco (h1.1 h)]
omit r in
theorem chF_in {pl n : Int} (h6 : n <= 6) : ∀ (ts cs : List Int) (m k : Nat), chF pl ts m cs = some k -> (∀ x, inO m x -> x < n) -> (∀ t ∈ ts, 0 <= t /\ t < n) -> ∀ c ∈ cs, c = -1 ∨ (0 <= c /\ c < n)
 | [], [], _, _, _, _, _, c, hc => by cases hc
 | [], _ :: _, _, _, h, _, _, _, _ => by simp [chF] at h
 | _ :: _, [], _, _, h, _, _, _, _ => by simp [chF] at h
 | t :: ts, c0 :: cs, m, k, h, hm, hb, c, hc => by
  unfold chF at h
  split at h
  ·rename_i hco
   have ht := hb t List.mem_cons_self
   rw [Option.map_eq_some_iff] at h
   obtain ⟨k', h', _⟩ := h
   have hc0 : c0 = -1 ∨ (0 <= c0 /\ c0 < n) := by
    unfold Axx at hco
    split at hco
    ·exact .inl (List.mem_singleton.1 hco)
    ·split at hco
     ·have := Azx.1 hco
      exact .inr ⟨this.1, hm c0 this⟩
     ·exact .inl (List.mem_singleton.1 hco)
   rcases List.mem_cons.1 hc with rfl | hc
   ·exact hc0
   ·refine chF_in h6 ts cs _ k' h' (fun x hx => ?_) (fun x hx => hb x (List.mem_cons_of_mem _ hx)) c hc
    rcases (Akm (by omega) (by omega) ht.1 (by omega)).1 hx with h | h
    ·omega
    ·exact hm x h.1
  ·cases h
theorem opt_ren_le (L : Nat) {pl : Int} (h1 : 1 <= pl) {ts : List Int} {m m' : Nat} (o : RelO n g m m') (hb : ∀ t ∈ ts, 0 <= t /\ t < n) (hL : ts.length <= L) : optF L pl (ts.map g) m' <= optF L pl ts m := by
 obtain ⟨cs, hcs⟩ := List.exists_mem_of_ne_nil _ (Cj3 L h1 ts m hL)
 have hch := (Bxr L).1 hcs
 have := chF_ren r (pl := pl) ts cs m m' o hb (chF_in r.n6 ts cs m _ hch o.a hb)
 rw [hch] at this
 exact Dqf L this
theorem map_back {ts : List Int} (hb : ∀ t ∈ ts, 0 <= t /\ t < n) : (ts.map g).map h = ts := by
 rw [List.map_map]
 conv => rhs; rw [<- List.map_id ts]
 exact List.map_congr_left fun t ht => (r.gh t (hb t ht).1 (hb t ht).2).2.2
theorem map_bnd {ts : List Int} (hb : ∀ t ∈ ts, 0 <= t /\ t < n) : ∀ t ∈ ts.map g, 0 <= t /\ t < n := fun t ht => by
 obtain ⟨x, hx, rfl⟩ := List.mem_map.1 ht
 have := r.gh x (hb x hx).1 (hb x hx).2
 exact ⟨this.1, this.2.1⟩
theorem opt_ren (L : Nat) {pl : Int} (h1 : 1 <= pl) {ts : List Int} {m m' : Nat} (o : RelO n g m m') (hb : ∀ t ∈ ts, 0 <= t /\ t < n) (hL : ts.length <= L) : optF L pl (ts.map g) m' = optF L pl ts m := by
 refine Nat.le_antisymm (opt_ren_le r L h1 o hb hL) ?_
 have := opt_ren_le r.symm L h1 (RelO.symm r o) (map_bnd r hb) (by rw [List.length_map]; exact hL)
 rwa [map_back r hb] at this
theorem bests_ren_le (L : Nat) {pl : Int} (h1 : 1 <= pl) {ts : List Int} {m m' : Nat} (o : RelO n g m m') (hb : ∀ t ∈ ts, 0 <= t /\ t < n) (hL : ts.length <= L) : (Axj L pl ts m).length <= (Axj L pl (ts.map g) m').length := by
 rw [<- List.length_map (f := List.map (g1 g))]
 have hin : ∀ cs ∈ Axj L pl ts m, ∀ c ∈ cs, c = -1 ∨ (0 <= c /\ c < n) := fun cs hcs => chF_in r.n6 ts cs m _ ((Bxr L).1 hcs) o.a hb
 refine nodup_len (nodup_map_in (fun x hx y hy e => ?_) (List.Pairwise.imp (S := fun a b => a ≠ b) (fun {a b} h e => Lx.irr (a := a) (by rw [<- e] at h; exact h)) (Cj4 L pl ts m))) fun cs' hcs' => ?_
 ·have hlen : x.length = y.length := by rw [Ckh ((Bxr L).1 hx), Ckh ((Bxr L).1 hy)]
  refine List.ext_getElem hlen fun i hi hi' => ?_
  have e1 : (x.map (g1 g))[i]'(by simpa using hi) = (y.map (g1 g))[i]'(by simpa using hi') := by simp only [e]
  simp only [List.getElem_map] at e1
  have hxi := hin x hx _ (List.getElem_mem hi)
  have hyi := hin y hy _ (List.getElem_mem hi')
  generalize x[i] = a at *
  generalize y[i] = b at *
  rcases g1_bnd r hxi with ⟨h3, h4⟩ | ⟨h3, h4, h5, _⟩ <;> rcases g1_bnd r hyi with ⟨k3, k4⟩ | ⟨k3, k4, k5, _⟩
  ·omega
  ·omega
  ·omega
  ·rw [h4, k4] at e1
   exact r.inj (hxi.resolve_left h3) (hyi.resolve_left k3) e1
 ·obtain ⟨cs, hcs, rfl⟩ := List.mem_map.1 hcs'
  refine (Bxr L).2 ?_
  rw [chF_ren r ts cs m m' o hb (hin cs hcs), opt_ren r L h1 o hb hL]
  exact (Bxr L).1 hcs
theorem bests_ren (L : Nat) {pl : Int} (h1 : 1 <= pl) {ts : List Int} {m m' : Nat} (o : RelO n g m m') (hb : ∀ t ∈ ts, 0 <= t /\ t < n) (hL : ts.length <= L) : (Axj L pl (ts.map g) m').length = (Axj L pl ts m).length := by
 refine Nat.le_antisymm ?_ (bests_ren_le r L h1 o hb hL)
 have := bests_ren_le r.symm L h1 (RelO.symm r o) (map_bnd r hb) (by rw [List.length_map]; exact hL)
 rwa [map_back r hb] at this
theorem phLen_ren {pl : Int} : ∀ (ts : List Int) (m m' : Nat), RelO n g m m' -> (∀ t ∈ ts, 0 <= t /\ t < n) -> Avl pl m' (ts.map g) = Avl pl m ts
 | [], _, _, _, _ => rfl
 | t :: ts, m, m', o, hb => by
  have ht := hb t List.mem_cons_self
  have ho := RelO.next r o (s := -1) (.inl rfl) ht
  have e1 : Aq0 m (-1) t = Aky m t.toNat := by simp [Aq0]
  have e2 : Aq0 m' (g1 g (-1)) (g t) = Aky m' (g t).toNat := by simp [Aq0, g1]
  rw [e1, e2] at ho
  simp only [List.map_cons, Avl, RelO.count r ho, phLen_ren ts _ _ ho fun x hx => hb x (List.mem_cons_of_mem _ hx)]
theorem phases_ren {pl : Int} {ts : List Int} (hb : ∀ t ∈ ts, 0 <= t /\ t < n) : ∀ fuel i, Azi pl (ts.map g) fuel i = Azi pl ts fuel i
 | 0, _ => rfl
 | fuel + 1, i => by
  simp only [Azi, List.length_map, <- List.map_drop, phLen_ren r (pl := pl) (ts.drop i) 0 0 relO_zero (fun t ht => hb t (List.mem_of_mem_drop ht)), phases_ren hb fuel]
structure RunR (rl : Int) (n : Int) (g : Int -> Int) (i : Nat) (S S' : RS) : Prop where
 o : RelO n g S.m S'.m
 k : ∀ x, 0 <= x -> x < n -> rkR rl S' (g x) = rkR rl S x
 dis : ∀ x y, inO S.m x -> inO S.m y -> x ≠ y -> rkR rl S x ≠ rkR rl S y
 lt : ∀ x, inO S.m x -> rkR rl S x < i
 f : S'.f = S.f
theorem RunR.step {pl rl : Int} (hr : rl = 1 ∨ rl = 2) (h1 : 1 <= pl) {ts ts' : List Int} {i : Nat} {t : Int} {S S' : RS} (w : RunR rl n g i S S') (ht : 0 <= t /\ t < n) (hc : S.came.length = 6) (ha : S.asked.length = 6) (hc' : S'.came.length = 6) (ha' : S'.asked.length = 6) :
  RunR rl n g (i + 1) (rstep pl rl ts i t S) (rstep pl rl ts' i (g t) S') := by
 have h6 := r.n6
 have hgt := r.gh t ht.1 ht.2
 have em : (rstep pl rl ts i t S).m = Aq0 S.m (Avb pl rl ts i t S) t := rfl
 have em' : (rstep pl rl ts' i (g t) S').m = Aq0 S'.m (Avb pl rl ts' i (g t) S') (g t) := rfl
 have ef : (rstep pl rl ts i t S).f = S.f + Azw S.m t := Dzz _ _ _ _ _ _
 have ef' : (rstep pl rl ts' i (g t) S').f = S'.f + Azw S'.m (g t) := Dzz _ _ _ _ _ _
 have c1 := rsent_rk (pl := pl) hr (ts := ts) (i := i) (t := t) (s := S) h1 ht.1 (by omega)
 have c2 := rsent_rk (pl := pl) hr (ts := ts') (i := i) (t := g t) (s := S') h1 hgt.1 (by omega)
 have k1 := fun x hx => rkR_step (pl := pl) hr (ts := ts) (i := i) (t := t) (x := x) hc ha ⟨ht.1, by omega⟩ hx
 have k2 := fun x hx => rkR_step (pl := pl) hr (ts := ts') (i := i) (t := g t) (x := x) hc' ha' ⟨hgt.1, by omega⟩ hx
 have hcost : Azw S'.m (g t) = Azw S.m t := (opts_ren r (pl := pl) w.o (c := -1) (.inl rfl) ht).2
 have hin : inO S'.m (g t) ↔ inO S.m t := w.o.m t ht.1 ht.2
 have hcnt := RelO.count r w.o
 have hbit : S'.m.testBit (g t).toNat = S.m.testBit t.toNat := by
  rw [Bool.eq_iff_iff, Awx hgt.1 (by omega), Awx ht.1 (by omega)]
  exact hin
 have hsent : (Avb pl rl ts i t S = -1 ∨ (0 <= Avb pl rl ts i t S /\ Avb pl rl ts i t S < n)) /\ Avb pl rl ts' i (g t) S' = g1 g (Avb pl rl ts i t S) := by
  rcases c1 with ⟨a1, a2⟩ | ⟨a1, a2, a3, a4⟩
  ·refine ⟨.inl a1, ?_⟩
   rw [a1]
   rcases c2 with ⟨b1, b2⟩ | ⟨b1, b2, b3, b4⟩
   ·exact b1
   ·exfalso
    rcases a2 with h | h
    ·exact b2 (hin.2 h)
    ·omega
  ·have hsb := w.o.a _ a1
   refine ⟨.inr ⟨a1.1, hsb⟩, ?_⟩
   have e1 : g1 g (Avb pl rl ts i t S) = g (Avb pl rl ts i t S) := by unfold g1; rw [if_neg (Ajq a1)]
   rw [e1]
   rcases c2 with ⟨b1, b2⟩ | ⟨b1, b2, b3, b4⟩
   ·exfalso
    rcases b2 with h | h
    ·exact a2 (hin.1 h)
    ·omega
   ·have hb1 := w.o.b _ b1
    have hh := r.hg _ b1.1 hb1
    have hm : inO S.m (h (Avb pl rl ts' i (g t) S')) := (w.o.m _ hh.1 hh.2.1).1 (by rw [hh.2.2]; exact b1)
    have q1 := a4 _ hm
    have q2 := b4 _ ((w.o.m _ a1.1 hsb).2 a1)
    have q3 := w.k _ hh.1 hh.2.1
    rw [hh.2.2] at q3
    have q4 := w.k _ a1.1 hsb
    have : Avb pl rl ts i t S = h (Avb pl rl ts' i (g t) S') := Classical.byContradiction fun hne => w.dis _ _ a1 hm hne (by omega)
    rw [this, hh.2.2]
 have hnx := fun x => Akm (m := S.m) (x := x) (rsent_bnd (pl := pl) (r := rl) (ts := ts) (i := i) (t := t) (s := S)).1 rsent_bnd.2 ht.1 (show t < 6 by omega)
 rw [<- em] at hnx
 refine ⟨?_, fun x h0 hn => ?_, fun x y hx hy hxy => ?_, fun x hx => ?_, by rw [ef, ef', hcost, w.f]⟩
 ·rw [em, em', hsent.2]
  exact RelO.next r w.o hsent.1 ht
 ·have hgx := r.gh x h0 hn
  rw [k1 x ⟨h0, by omega⟩, k2 (g x) ⟨hgx.1, by omega⟩, hbit, w.k x h0 hn]
  have : g x = g t ↔ x = t := ⟨fun e => r.inj ⟨h0, hn⟩ ht e, fun e => by rw [e]⟩
  simp only [this]
 ·rw [k1 x ⟨hx.1, hx.2.1⟩, k1 y ⟨hy.1, hy.2.1⟩]
  have hold : ∀ z, inO (rstep pl rl ts i t S).m z -> ¬ (z = t /\ (rl = 2 ∨ S.m.testBit t.toNat = false)) -> inO S.m z := fun z hz hn => by
   rcases (hnx z).1 hz with h | h
   ·apply Classical.byContradiction
    intro hno
    exact hn ⟨h, .inr ((notin_bit ht.1 (by omega)).1 (h ▸ hno))⟩
   ·exact h.1
  split
  ·rename_i hxt
   rw [if_neg fun hyt => hxy (hxt.1.trans hyt.1.symm)]
   have := w.lt y (hold y hy fun hyt => hxy (hxt.1.trans hyt.1.symm))
   omega
  ·rename_i hxt
   have hx' := hold x hx hxt
   have := w.lt x hx'
   split
   ·omega
   ·rename_i hyt
    exact w.dis x y hx' (hold y hy hyt) hxy
 ·rw [k1 x ⟨hx.1, hx.2.1⟩]
  split
  ·omega
  ·rename_i hxt
   have hx' : inO S.m x := by
    rcases (hnx x).1 hx with h | h
    ·apply Classical.byContradiction
     intro hno
     exact hxt ⟨h, .inr ((notin_bit ht.1 (by omega)).1 (h ▸ hno))⟩
    ·exact h.1
   have := w.lt x hx'
   omega
theorem initL_ren {start : List Int} (hs : ∀ y ∈ start, 0 <= y /\ y < n) : ∀ k, k <= start.length -> ∀ x, 0 <= x -> x < n -> (Awy (start.map g) k).getD (g x).toNat 0 = (Awy start k).getD x.toNat 0
 | 0, _, x, h0, hn => by
  have h6 := r.n6
  have hgx := r.gh x h0 hn
  simp only [Awy, List.getD, List.getElem?_replicate]
  rw [if_pos (by omega), if_pos (by omega)]
 | k + 1, hk, x, h0, hn => by
  have h6 := r.n6
  have hgx := r.gh x h0 hn
  have gk : start.getD k 0 = start[k] := by simp [List.getD, List.getElem?_eq_getElem (show k < start.length by omega)]
  have gk' : (start.map g).getD k 0 = g (start[k]) := by simp [List.getD, List.getElem?_eq_getElem (show k < start.length by omega)]
  have hsk := hs _ (List.getElem_mem (show k < start.length by omega))
  have hgk := r.gh _ hsk.1 hsk.2
  rw [Awy, Awy, gk, gk', List.length_map, Bjt (Avs _ _) ⟨hgk.1, by omega⟩ ⟨hgx.1, by omega⟩, Bjt (Avs _ _) ⟨hsk.1, by omega⟩ ⟨h0, by omega⟩, initL_ren hs k (by omega) x h0 hn]
  have : g x = g start[k] ↔ x = start[k] := ⟨fun e => r.inj ⟨h0, hn⟩ hsk e, fun e => by rw [e]⟩
  simp only [this]
theorem relO_start {start : List Int} (hs : ∀ y ∈ start, 0 <= y /\ y < n) : RelO n g (oOf start) (oOf (start.map g)) := by
 have h6 := r.n6
 have e1 := start_inO (start := start) fun y hy => by have := hs y hy; omega
 have e2 := start_inO (start := start.map g) fun y hy => by have := map_bnd r hs y hy; omega
 refine ⟨fun x hx => (hs x ((e1 x).1 hx)).2, fun x hx => (map_bnd r hs x ((e2 x).1 hx)).2, fun x h0 hn => ?_⟩
 rw [e1, e2, List.mem_map]
 exact ⟨fun ⟨y, hy, e⟩ => r.inj (hs y hy) ⟨h0, hn⟩ e ▸ hy, fun hx => ⟨x, hx, rfl⟩⟩
theorem run_ren {pl rl : Int} (hr : rl = 1 ∨ rl = 2) (h1 : 1 <= pl) {ts start : List Int} (hs : ∀ y ∈ start, 0 <= y /\ y < n) (hn : start.Nodup) (hb : ∀ t ∈ ts, 0 <= t /\ t < n) (hL : ts.length <= 1000) : ∀ i, i <= ts.length -> RunR rl n g i (rrun pl rl ts (rs0 start) i) (rrun pl rl (ts.map g) (rs0 (start.map g)) i)
 | 0, _ => by
  have h6 := r.n6
  have hs6 : ∀ y ∈ start, 0 <= y /\ y < 6 := fun y hy => by have := hs y hy; omega
  have ham : ∀ x, inO (rs0 start).m x -> ∃ j : Nat, j < start.length /\ start[j]? = some x /\ rkR rl (rs0 start) x = (j : Int) - start.length := fun x hx => by
   have hx' := (start_inO hs6 x).1 hx
   obtain ⟨j, h2, h3, h4⟩ := Czy hn hs6 start.length (Nat.le_refl _) x (by rwa [List.take_length])
   exact ⟨j, h2, h3, by unfold rkR; split <;> exact h4⟩
  refine ⟨relO_start r hs, fun x h0 hx => ?_, fun x y hx hy hxy => ?_, fun x hx => ?_, rfl⟩
  ·have := initL_ren r hs start.length (Nat.le_refl _) x h0 hx
   rw [show (rrun pl rl (ts.map g) (rs0 (start.map g)) 0) = rs0 (start.map g) from rfl, show (rrun pl rl ts (rs0 start) 0) = rs0 start from rfl]
   unfold rkR rs0
   simp only [List.length_map, this, ite_self]
  ·obtain ⟨j, h2, h3, h4⟩ := ham x hx
   obtain ⟨k, h5, h6, h7⟩ := ham y hy
   show rkR rl (rs0 start) x ≠ rkR rl (rs0 start) y
   rw [h4, h7]
   intro e
   have : j = k := by omega
   subst this
   rw [h3] at h6
   exact hxy (Option.some.inj h6)
  ·obtain ⟨j, h2, h3, h4⟩ := ham x hx
   show rkR rl (rs0 start) x < _
   rw [h4]
   omega
 | i + 1, hi => by
  have h6 := r.n6
  have hs6 : ∀ y ∈ start, 0 <= y /\ y < 6 := fun y hy => by have := hs y hy; omega
  have hs6' : ∀ y ∈ start.map g, 0 <= y /\ y < 6 := fun y hy => by have := map_bnd r hs y hy; omega
  have hb6 : ∀ t ∈ ts, 0 <= t /\ t < 6 := fun y hy => by have := hb y hy; omega
  have hb6' : ∀ t ∈ ts.map g, 0 <= t /\ t < 6 := fun y hy => by have := map_bnd r hb y hy; omega
  have ok1 := Bjs pl rl ts start hs6 hb6 hL i (by omega)
  have ok2 := Bjs pl rl (ts.map g) (start.map g) hs6' hb6' (by rw [List.length_map]; exact hL) i (by rw [List.length_map]; omega)
  have gi : ts.getD i 0 = ts[i] := by simp [List.getD, List.getElem?_eq_getElem (show i < ts.length by omega)]
  have gi' : (ts.map g).getD i 0 = g ts[i] := by simp [List.getD, List.getElem?_eq_getElem (show i < ts.length by omega)]
  simp only [rrun]
  rw [gi, gi']
  exact (run_ren hr h1 hs hn hb hL i (by omega)).step r hr h1 (hb _ (List.getElem_mem _)) ok1.came ok1.asked ok2.came ok2.asked
end
end Go.Proofs.YtgniilnljeedlaaGreatDoor
end
section
namespace Go.Proofs.YtgniilnljeedlaaGreatDoor
open Go Go.X
theorem RowX.put {H0 H : Hp} {v : Value} {e : TypeId} {cs : List Value} (h : RowX none H0 H v e cs) {i : Nat} (hi : i < cs.length) : ∃ (b : Nat) (c : Array Value) (cap : Nat), v = .slice (some ⟨b, 0, none⟩) cs.length cap /\ H0 b = none /\ H b = some (true, .cells c e (0, 0)) /\ cs.length <= cap /\ i < c.size /\ c[i]? = cs[i]? /\ ∀ w, RowX none H0 (H.set b (.cells (c.setIfInBounds i w) e (0, 0))) v e (cs.set i w) := by
 rcases h.2 with ⟨_, rfl⟩ | ⟨b, c, cap, h0, h1, rfl, h3, h4, h5⟩
 ·simp at hi
 ·refine ⟨b, c, cap, rfl, h0, h1, h4, by omega, ?_, fun w => ⟨h.1.own h0, .inr ⟨b, c.setIfInBounds i w, cap, h0, Aqw, by rw [List.length_set], by rw [Array.size_setIfInBounds]; exact h3, by rw [List.length_set]; exact h4, fun j u hj => ?_⟩⟩⟩
  ·rw [List.getElem?_eq_getElem hi]
   exact h5 i _ (List.getElem?_eq_getElem hi)
  ·by_cases e : i = j
   ·subst e
    rw [List.getElem?_set_self hi] at hj
    rw [Array.getElem?_setIfInBounds_self_of_lt (by omega)]
    exact hj
   ·rw [List.getElem?_set_ne e] at hj
    rw [Array.getElem?_setIfInBounds_ne e]
    exact h5 j u hj
theorem RowX.other {H0 H : Hp} {v : Value} {e : TypeId} {cs : List Value} (h : RowX none H0 H v e cs) {b : Nat} {o : Obj} (h0 : H0 b = none) (hb : rowB v ≠ some b) : RowX none H0 (H.set b o) v e cs := by
 refine ⟨h.1.own h0, h.2.imp id ?_⟩
 rintro ⟨b', c, cap, h0', h1, rfl, h3, h4, h5⟩
 exact ⟨b', c, cap, h0', (Aqo (fun e => hb (by rw [<- e]; rfl))).trans h1, rfl, h3, h4, h5⟩
theorem Awt.move {H H' : Hp} {places pieces : Int} {sv cv tv : Value} {start ts : List Int} {xss : List (List Int)} (h : Awt H places pieces sv cv tv start xss ts) (hk : ∀ x p c fr e, (e = 3 ∨ e = 22) -> H x = some (p, .cells c e fr) -> H' x = some (p, .cells c e fr)) : Awt H' places pieces sv cv tv start xss ts :=
 ⟨h.st.move fun x p c fr hx => hk x p c fr _ (.inl rfl) hx, h.calls.move fun x p c fr e he hx => hk x p c fr e he hx, h.truth.move fun x p c fr hx => hk x p c fr _ (.inl rfl) hx, h.ok, h.few, h.true⟩
def y25_126 := And.intro (fun H => Aqx (H := H) (P := Tryz.prog) (h := Tryz.zeroValue25)) (And.intro (fun H => Aqh (H := H) Tryz.underlying25 (i := 0) rfl (off := 0) rfl Tryz.sizeOf3) (And.intro (fun H => Aqe (H := H) Tryz.underlying3 rfl) (And.intro (fun H => Aqh (H := H) Tryz.underlying25 (i := 1) rfl (off := 1) rfl Tryz.sizeOf3) (And.intro (fun H => Aqh (H := H) Tryz.underlying25 (i := 2) rfl (off := 2) rfl Tryz.sizeOf22) (And.intro (fun H => Aqe (H := H) Tryz.underlying22 rfl) (And.intro @Dq5 (And.intro (fun H => Aqh (H := H) Tryz.underlying25 (i := 3) rfl (off := 3) rfl Tryz.sizeOf23) (And.intro (fun H => Aqe (H := H) Tryz.underlying23 rfl) (And.intro @callF71 (And.intro @Awk (fun H => Aq1 (H := H) Tryz.sizeOf25)))))))))))
def y71_126 := And.intro (fun H => Aq4 (H := H) Tryz.underlying23) (And.intro (fun H => Aqq (H := H) Tryz.underlying23 Tryz.sizeOf22) (And.intro (fun H => Aqe (H := H) Tryz.underlying22 rfl) (And.intro @Dq5 @Bza)))
theorem RowX.own_set {H H2 H3 : Hp} {v : Value} {e : TypeId} {cs : List Value} (h : RowX none H2 H3 v e cs) (hl : H.le H2) {ob : Nat} {u : Bool × Obj} (hob : H ob = none) (h2 : H2 ob = some u) {o : Obj} : RowX none H (H3.set ob o) v e cs := by
 refine ⟨(Lex.of (Hp.le_trans hl h.1.toLe) : Lex none H H3).own hob, h.2.imp id ?_⟩
 rintro ⟨b, c, cap, h0, h1, h2', h3, h4, h5⟩
 exact ⟨b, c, cap, Hp.le_none hl h0, (Aqo (fun e => by rw [e, h2] at h0; cases h0)).trans h1, h2', h3, h4, h5⟩
theorem keepRx_spec (m : Md) (H : Hp) (v : Value) (xss : List (List Int)) (hv : SlR H v xss) (hl : xss.length <= 1000) (hx : ∀ xs ∈ xss, xs.length <= 1000000) :
  FnX Tryz.prog m 71 #[v] H fun e H' => ∃ w vs, e = .returned w /\ RowX none H H' w 22 vs /\ Rows H' vs xss := by
 have hvS := hv
 obtain ⟨a, cap, rfl, hcap, _⟩ := hv
 replace hx : Aqz _ := hx
 refine Aqk Tryz.func71 rfl Tryz.ntmps71 (by simp) ?_
 (refine @unH _ ?_; refine zA y71_126 ?_; (repeat (refine inC ?_; intro hc)); try (refine inK ?_; intro K hK))
 refine Axd (fun w a' H' => ∃ e j ov vs, w = xss.length - j /\ j <= xss.length /\ a' = act 20 e [] /\ e 0 = .slice a xss.length cap /\ e 3 = ov /\ e 4 = .int .i64 (j : Nat) /\ RowX none H H' ov 22 vs /\ Rows H' vs (xss.take j)) (n := xss.length) ?_ ?_
 ·exact ⟨_, 0, .slice none 0 0, [], by omega, by omega, rfl, rfl, rfl, rfl, RowX.nil, by simpa using Rows.nil⟩
 ·rintro w a' H2 ⟨e, j, ov, vs, rfl, hj, rfl, e0, e3, e4, hov, hvs⟩
  by_cases hlt : j < xss.length
  ·obtain ⟨b, o, p, c, fr, u, rfl, hb, hc, hu⟩ := SlR.get hvS (List.getElem?_eq_getElem hlt)
   have hb2 := hov.1.toLe _ _ hb
   have hu2 := hu.le hov.1.toLe
   have hlx := (show ∀ xs ∈ xss, xs.length <= 1000000 from hx) _ (List.getElem_mem hlt)
   have htk : xss.take (j + 1) = xss.take j ++ [xss[j]] := by rw [List.take_add_one, List.getElem?_eq_getElem hlt]; rfl
   have hvl : vs.length = j := by rw [hvs.1, List.length_take]; omega
   generalize xss[j] = xs at *
   generalize xss.take j = T0 at *
   replace htk : Aqz _ := htk
   replace hvl : vs.length <= j /\ j <= vs.length := by omega
   (refine @unH _ ?_; refine zA y71_126 ?_; (repeat (refine inC ?_; intro hc)); try (refine inK ?_; intro K hK))
   refine (keepI_spec m H2 u xs hu2 hlx).runs.mono ?_
   rintro _ H3 ⟨z, rfl, hz⟩
   have hov3 := hov.le hz.1.toLe
   have hvs3 := hvs.mono fun v xs h => h.le hz.1.toLe
   have hz3 := hz.ints
   obtain ⟨za, zc, rfl⟩ := hz.len
   clear hov hvs hu hu2 hz
   ((try (refine @unH _ ?_; refine zX y71_126 ?_)); (try (refine hK _ _ ?_; clear hK K; (try simp only [nq, ↓reduceIte, Nat.reduceEqDiff]))); refine @unH _ ?_; refine zA y71_126 ?_; (repeat (refine inC ?_; intro hc)); try (refine inK ?_; intro K hK))
   intro g hg
   refine Cwb hov3 rfl hg (by omega) _ _ _ _ ?_
   intro v' H5 hr5 ho5
   ((try (refine @unH _ ?_; refine zX y71_126 ?_)); (try (refine hK _ _ ?_; clear hK K; (try simp only [nq, ↓reduceIte, Nat.reduceEqDiff]))); refine @unH _ ?_; refine zA y71_126 ?_; (repeat (refine inC ?_; intro hc)); try (refine inK ?_; intro K hK))
   refine ⟨_, by omega, _, j + 1, v', _, rfl, hlt, rfl, e0, rfl, rfl, hr5, ?_⟩
   rw [show List.take (j + 1) xss = _ from htk]
   exact (hvs3.mono fun v xs h => h.move fun x q c fr hx => ho5.cells hx (by decide)).snoc (hz3.move fun x q c fr hx => ho5.cells hx (by decide))
  ·obtain rfl : j = xss.length := by omega
   rw [List.take_length] at hvs
   have hovS := hov
   obtain ⟨oa, oc, rfl⟩ := hov.len
   (refine @unH _ ?_; refine zA y71_126 ?_; (repeat (refine inC ?_; intro hc)); try (refine inK ?_; intro K hK))
   (refine @unH _ ?_; refine z9 Tryz.results71 ?_)
   exact ⟨_, _, rfl, hovS, hvs⟩
theorem keepVx_spec (m : Md) (H : Hp) (places pieces : Int) (sv cv : Value) (start : List Int) (xss : List (List Int)) (hs : SlI H sv start) (hc : SlR H cv xss) (hl : xss.length <= 1000) (hsl : start.length <= 1000000) (hx : ∀ xs ∈ xss, xs.length <= 1000000) :
  FnX Tryz.prog m 25 #[.agg #[.int .i64 places, .int .i64 pieces, sv, cv]] H fun e H' => ∃ sw cw vs, e = .returned (.agg #[.int .i64 places, .int .i64 pieces, sw, cw]) /\ RowX none H H' sw 3 (ints start) /\ RowX none H H' cw 22 vs /\ Rows H' vs xss := by
 have hsS := hs
 have hcS := hc
 obtain ⟨sa, sc, rfl, _, _⟩ := hs
 obtain ⟨ca, cc, rfl, _, _⟩ := hc
 replace hx : Aqz _ := hx
 refine Aqk Tryz.func25 rfl Tryz.ntmps25 (by simp) ?_
 (refine @unH _ ?_; refine zA y25_126 ?_; (repeat (refine inC ?_; intro hc)); try (refine inK ?_; intro K hK))
 intro bb hbb ob hob
 replace hob : (Hp.set H bb _) ob = none := hob
 have vbb : ((H.set bb (.cells #[.int .i64 places, .int .i64 pieces, .slice sa start.length sc, .slice ca xss.length cc] 25 (0, 0))).set ob (.cells #[.int .i64 0, .int .i64 0, .slice none 0 0, .slice none 0 0] 25 (0, 0))) bb = some (true, .cells #[.int .i64 places, .int .i64 pieces, .slice sa start.length sc, .slice ca xss.length cc] 25 (0, 0)) := (Aqo (fun e => by rw [e, Aqw] at hob; cases hob)).trans Aqw
 have vob : ((H.set bb (.cells #[.int .i64 places, .int .i64 pieces, .slice sa start.length sc, .slice ca xss.length cc] 25 (0, 0))).set ob (.cells #[.int .i64 0, .int .i64 0, .slice none 0 0, .slice none 0 0] 25 (0, 0))) ob = some (true, .cells #[.int .i64 0, .int .i64 0, .slice none 0 0, .slice none 0 0] 25 (0, 0)) := Aqw
 have l1 : H.le ((H.set bb (.cells #[.int .i64 places, .int .i64 pieces, .slice sa start.length sc, .slice ca xss.length cc] 25 (0, 0))).set ob (.cells #[.int .i64 0, .int .i64 0, .slice none 0 0, .slice none 0 0] 25 (0, 0))) := Hp.le_trans (Hp.le_set hbb) (Hp.le_set hob)
 have hobH : H ob = none := Hp.le_none (Hp.le_set hbb) hob
 have hne : bb ≠ ob := fun e => by rw [e, Aqw] at hob; cases hob
 generalize ((H.set bb _).set ob _) = H1 at *
 clear hbb hob
 have hs1 := hsS.le l1
 have hc1 := hcS.le l1
 refine hK _ _ ?_
 clear hK K
 (try simp only [nq, ↓reduceIte, Nat.reduceEqDiff])
 refine Bj1 (fun HX => HX bb = some (true, .cells #[.int .i64 places, .int .i64 pieces, .slice sa start.length sc, .slice ca xss.length cc] 25 (0, 0))) 11 [(true, 0), (true, 1), (true, 2), (true, 3), (true, 4), (true, 5), (true, 7), (true, 8), (false, 6), (false, 9), (true, 10), (false, 11)] (by kernel_rfl) (by kernel_rfl) (by decide) (by kernel_rfl) ?_; intro K hK
 (iterate 8 (refine @unH _ ?_; refine z5 y25_126 ?_))
 refine Ajh ?_
 (refine @unH _ ?_; refine zX y25_126 ?_)
 refine (keepI_spec m H1 _ start hs1 hsl).runs.mono ?_
 rintro _ H2 ⟨sw, rfl, hsw⟩
 have l2 := hsw.1.toLe
 have vbb2 := l2 _ _ vbb
 have vob2 := l2 _ _ vob
 have hc2 := hc1.le l2
 have hsw2 := hsw.ints
 have l12 := Hp.le_trans l1 l2
 obtain ⟨wa, wc, rfl⟩ := hsw.len
 have hswS := hsw
 have vobS := vob
 have l1S := l1
 clear hsw hc1 hs1 vbb vob l1 l2
 (refine @unH _ ?_; refine zX (And.intro y25_126 @Cvc) ?_)
 refine ⟨.inr trivial, ?_⟩
 refine Ajh ?_
 (refine @unH _ ?_; refine zX y25_126 ?_)
 refine (keepRx_spec m H2 _ xss hc2 hl hx).runs.mono ?_
 rintro _ H3 ⟨cw, vs, rfl, hrow, hrows⟩
 have l3 := hrow.1.toLe
 have vbb3 := l3 _ _ vbb2
 have vob3 := l3 _ _ vob2
 have hsw3 := hsw2.le l3
 have l13 := Hp.le_trans l12 l3
 have hs5 := (hswS.le l3).own_set l1S hobH vobS (o := .cells #[.int .i64 places, .int .i64 pieces, .slice wa (ints start).length wc, cw] 25 (0, 0))
 have hr4 := hrow.own_set l12 hobH vob2 (o := .cells #[.int .i64 places, .int .i64 pieces, .slice wa (ints start).length wc, cw] 25 (0, 0))
 obtain ⟨ya, yc, rfl⟩ := hrow.len
 generalize hyn : vs.length = yn at *
 clear hsw2 hsw3 hc2 vbb2 vob2 l12 l3 hrow hswS vobS l1S
 (refine @unH _ ?_; refine zX (And.intro y25_126 @Cvc) ?_)
 refine ⟨.inr trivial, ?_⟩
 (refine @unH _ ?_; refine z5 y25_126 ?_)
 refine Ajh ?_
 (refine @unH _ ?_; refine zX y25_126 ?_)
 refine ⟨.inr trivial, Axy (hK _ _ ?_)⟩
 clear hK K
 (try simp only [nq, ↓reduceIte, Nat.reduceEqDiff])
 have hcw4 := hrows.mono fun v xs h => h.move fun x p c fr hx => set_keeps0 vob3 (by decide) (by decide) (o := .cells #[.int .i64 places, .int .i64 pieces, .slice wa (ints start).length wc, .slice ya yn yc] 25 (0, 0)) x p c fr _ (.inl rfl) hx
 (refine Ax3 ?_; (try simp only [nq, ↓reduceIte, Nat.reduceEqDiff]); rw [Axn, Azl Tryz.results25 (by decide) (b := ob) (o := 0) rfl Tryz.underlying25 rfl Tryz.sizeOf25]; simp -implicitDefEqProofs (disch := first | omega | (simp only [qd] <;> omega)) only [xq, ↓xp, qc, Nat.reduceAdd, List.range, List.range.loop, fine, Nat.reduceEqDiff, ↓reduceIte, yielded, reduceCtorEq, Nat.reduceLT, Nat.reduceMul, Nat.reduceSub, one, Nat.reduceLeDiff, Aqa, y25_126, Ajf])
 exact ⟨_, _, vs, rfl, hs5, hr4, hcw4⟩
def y13_132 := And.intro @callF23 (And.intro @callF46 (And.intro (fun H => Aqx (H := H) (P := Tryz.prog) (h := Tryz.zeroValue25)) (And.intro (fun H => Aq1 (H := H) Tryz.sizeOf25) (And.intro (fun H => Aqh (H := H) Tryz.underlying25 (i := 1) rfl (off := 1) rfl Tryz.sizeOf3) (And.intro (fun H => Aqe (H := H) Tryz.underlying3 rfl) (And.intro @Cj8 (And.intro (fun H => Aqt (H := H) Tryz.underlying25 rfl Tryz.sizeOf25) (And.intro @callF25 (And.intro @Dq5 (And.intro (fun H => Aqh (H := H) Tryz.underlying25 (i := 2) rfl (off := 2) rfl Tryz.sizeOf22) (And.intro (fun H => Aqe (H := H) Tryz.underlying22 rfl) (And.intro (fun H => Aq4 (H := H) Tryz.underlying22) (And.intro (fun H => Aqq (H := H) Tryz.underlying22 Tryz.sizeOf3) (And.intro (fun H => Axk (H := H) Tryz.sizeOf3) (And.intro (fun H => Aqh (H := H) Tryz.underlying25 (i := 3) rfl (off := 3) rfl Tryz.sizeOf23) (And.intro (fun H => Aqe (H := H) Tryz.underlying23 rfl) (And.intro @Axr (And.intro (fun H => Aqq (H := H) Tryz.underlying23 Tryz.sizeOf22) (And.intro (fun H => Ajv (H := H) Tryz.sizeOf22) (And.intro @Dq9 (And.intro @Dxa (And.intro @Dq8 (And.intro @Dq7 (And.intro @Dq6 @callF22))))))))))))))))))))))))
theorem map_step (g : Int -> Int) (l : List Int) {i : Nat} (hi : i < l.length) : ((l.take i).map g ++ l.drop i).set i (g l[i]) = (l.take (i + 1)).map g ++ l.drop (i + 1) := by
 have hl : ((l.take i).map g).length = i := by rw [List.length_map, List.length_take]; omega
 have e : l.take (i + 1) = l.take i ++ [l[i]] := by rw [List.take_add_one, List.getElem?_eq_getElem hi]; rfl
 rw [List.drop_eq_getElem_cons hi, List.set_append_right _ _ (by omega), hl, Nat.sub_self, List.set_cons_zero, e, List.map_append, List.append_assoc]
 rfl
theorem map_len (g : Int -> Int) (l : List Int) {i : Nat} (hi : i <= l.length) : ((l.take i).map g ++ l.drop i).length = l.length := by
 rw [List.length_append, List.length_map, List.length_take, List.length_drop]
 omega
theorem ren_of {n : Nat} (h6 : n <= 6) {xs : List Int} (hl : xs.length = n) (hn : xs.Nodup) (hb : ∀ x ∈ xs, 0 <= x /\ x < n) : Ren n (fun x => xs.getD x.toNat 0) (fun y => (xs.idxOf y : Nat)) := by
 have hg : ∀ x : Int, 0 <= x -> x < n -> ∃ h : x.toNat < xs.length, xs.getD x.toNat 0 = xs[x.toNat] := fun x h0 h1 => ⟨by omega, by rw [List.getD, List.getElem?_eq_getElem (by omega)]; rfl⟩
 refine ⟨by omega, fun x h0 h1 => ?_, fun y h0 h1 => ?_⟩
 ·obtain ⟨h, e⟩ := hg x h0 h1
  have := hb _ (List.getElem_mem h)
  refine ⟨by rw [e]; exact this.1, by rw [e]; exact this.2, ?_⟩
  rw [e, hn.idxOf_getElem _ h]
  omega
 ·have hm : y ∈ xs := by
   refine Classical.byContradiction fun hc => ?_
   have := nodup_len (l := y :: xs) (l' := (List.range n).map fun k : Nat => (k : Int)) (List.nodup_cons.2 ⟨hc, hn⟩) fun x hx => by
    have hx' : 0 <= x /\ x < n := by
     rcases List.mem_cons.1 hx with rfl | hx
     ·exact ⟨h0, h1⟩
     ·exact hb x hx
    exact List.mem_map.2 ⟨x.toNat, List.mem_range.2 (by omega), by omega⟩
   rw [List.length_cons, List.length_map, List.length_range] at this
   omega
  have hi := List.idxOf_lt_length_of_mem hm
  refine ⟨?_, ?_, ?_⟩
  ·show (0 : Int) <= ((xs.idxOf y : Nat) : Int); omega
  ·show ((xs.idxOf y : Nat) : Int) < n; omega
  show xs.getD _ 0 = y
  rw [Int.toNat_natCast, List.getD, List.getElem?_eq_getElem hi]
  exact List.getElem_idxOf hi
theorem num_ok {pl pc : Int} {start : List Int} {xss : List (List Int)} {ts : List Int} (h : Az3 pl pc start xss) (ht : Azv xss ts) {g k : Int -> Int} (r : Ren pc g k) (hb : ∀ t ∈ ts, 0 <= t /\ t < pc) : Az3 pl pc (start.map g) ((ts.map g).map fun t => [t]) /\ Azv ((ts.map g).map fun t => [t]) (ts.map g) := by
 obtain ⟨a1, a2, a3, a4, a5, a6, a7, a8⟩ := h
 refine ⟨⟨a1, a2, a3, a4, by rw [List.length_map]; exact a5, nodup_map_in (fun x hx y hy e => r.inj (a7 x hx) (a7 y hy) e) a6, map_bnd r a7, fun xs hx => ?_⟩, by simp only [List.length_map], fun i t xs h1 h2 => ?_⟩
 ·obtain ⟨t, ht', rfl⟩ := List.mem_map.1 hx
  have := map_bnd r hb t ht'
  exact ⟨by simp, List.pairwise_singleton _ _, fun x hx => by rw [List.mem_singleton.1 hx]; omega⟩
 ·rw [List.getElem?_map, h1] at h2
  cases h2
  exact List.mem_singleton.2 rfl
def CallsN (H : Hp) (kv : Value) (g : Int -> Int) (ts : List Int) (vs : List Value) (i : Nat) : Prop :=
 (vs.length <= ts.length /\ ts.length <= vs.length) /\ ∀ j, j < i -> ∃ nb, vs[j]? = some (.slice (some ⟨nb, 0, none⟩) 1 1) /\ H nb = some (true, .cells #[.int .i64 (g (ts.getD j 0))] 3 (0, 0)) /\ rowB kv ≠ some nb
theorem CallsN.keep {H H' : Hp} {kv : Value} {g : Int -> Int} {ts : List Int} {vs : List Value} {i : Nat} (h : CallsN H kv g ts vs i) (hk : ∀ x c, rowB kv ≠ some x -> H x = some (true, .cells c 3 (0, 0)) -> H' x = some (true, .cells c 3 (0, 0))) : CallsN H' kv g ts vs i :=
 ⟨h.1, fun j hj => by
  obtain ⟨nb, h1, h2, h3⟩ := h.2 j hj
  exact ⟨nb, h1, hk _ _ h3 h2, h3⟩⟩
theorem CallsN.snoc {H : Hp} {kv : Value} {g : Int -> Int} {ts : List Int} {vs : List Value} {i : Nat} (h : CallsN H kv g ts vs i) (hi : i < ts.length) {nb : Nat} (hb : H nb = some (true, .cells #[.int .i64 (g ts[i])] 3 (0, 0))) (hr : rowB kv ≠ some nb) : CallsN H kv g ts (vs.set i (.slice (some ⟨nb, 0, none⟩) 1 1)) (i + 1) := by
 have hl := h.1
 refine ⟨by rw [List.length_set]; exact hl, fun j hj => ?_⟩
 by_cases e : i = j
 ·subst e
  exact ⟨nb, List.getElem?_set_self (by omega), by simpa [List.getD, List.getElem?_eq_getElem hi] using hb, hr⟩
 ·obtain ⟨nb', h1, h2, h3⟩ := h.2 j (by omega)
  exact ⟨nb', by rw [List.getElem?_set_ne e]; exact h1, h2, h3⟩
theorem CallsN.rows {H : Hp} {kv : Value} {g : Int -> Int} {ts : List Int} {vs : List Value} (h : CallsN H kv g ts vs ts.length) : Rows H vs ((ts.map g).map fun t => [t]) := by
 have hl := h.1
 refine ⟨by simp only [List.length_map]; omega, fun i xs hx => ?_⟩
 rw [List.map_map, List.getElem?_map] at hx
 by_cases hi : i < ts.length
 ·rw [List.getElem?_eq_getElem hi] at hx
  cases hx
  obtain ⟨nb, h1, h2, _⟩ := h.2 i hi
  refine ⟨_, h1, Ajn (xs := [g ts[i]]) h2 ?_⟩
  simp [List.getD, List.getElem?_eq_getElem hi, ints]
 ·rw [List.getElem?_eq_none (by omega)] at hx
  cases hx
theorem phasesF_len (pl : Int) (ts : List Int) : ∀ fuel i, (Azi pl ts fuel i).length <= fuel
 | 0, _ => Nat.le_refl _
 | fuel + 1, i => by
  unfold Azi
  split
  ·have := phasesF_len pl ts fuel (i + Avl pl 0 (ts.drop i))
   simp only [List.length_cons]
   omega
  ·simp
theorem lnum_spec (H : Hp) (sa : Option Addr) (sl sc : Nat) (hs : ∀ i : Nat, i < sl -> ∃ sb so c e fr x, sa = some ⟨sb, so, none⟩ /\ H sb = some (false, .cells c e fr) /\ c[so + i]? = some (.int .i64 x)) :
  FnX Tryz.prog (.wg Tryz.prog) 13 #[.slice sa sl sc] H fun e _ => e = .returned (.bool true) := by
 refine Aqk Tryz.func13 rfl Tryz.ntmps13 (by simp) ?_
 repeat' (first
 | (refine Axl rfl ?_; intro K hK; simp -implicitDefEqProofs (disch := first | omega | (simp only [qd] <;> omega)) only [xq, ↓xp, qc, Nat.reduceAdd, List.range, List.range.loop, fine, Nat.reduceEqDiff, ↓reduceIte, yielded, reduceCtorEq, Nat.reduceLT, Nat.reduceMul, Nat.reduceSub, one, Nat.reduceLeDiff, Aqa, y13_132, aq, ↓ap, qe0, qe1, qe2, *, -hK]; try (refine hK _ _ ?_; clear hK K))
 | (refine Axw rfl ?_; intro K hK; simp -implicitDefEqProofs (disch := first | omega | (simp only [qd] <;> omega)) only [xq, ↓xp, qc, Nat.reduceAdd, List.range, List.range.loop, fine, Nat.reduceEqDiff, ↓reduceIte, yielded, reduceCtorEq, Nat.reduceLT, Nat.reduceMul, Nat.reduceSub, one, Nat.reduceLeDiff, Aqa, y13_132, aq, ↓ap, qe0, qe1, qe2, *, -hK]; try (refine hK _ _ ?_; clear hK K; (try simp only [nq, ↓reduceIte, Nat.reduceEqDiff])))
 | (refine Aqu ?_; (try simp only [nq, ↓reduceIte, Nat.reduceEqDiff]))
 | (refine Axv ?_; (try simp only [nq, ↓reduceIte, Nat.reduceEqDiff]))
 | (refine Aq7 ?_; (try simp only [nq, ↓reduceIte, Nat.reduceEqDiff]))
 | (refine Azc ?_; (try simp only [nq, ↓reduceIte, Nat.reduceEqDiff]))
 | (refine Ax0 (by simp only [Aqn, Aqr, Nat.reduceEqDiff, Nat.reduceLT, ↓reduceIte, *]; rfl) ?_ ?_ <;> (intro hc; first | (exfalso; simp -implicitDefEqProofs (disch := omega) only [*, bq, reduceCtorEq] at hc; done) | (simp only [dq, qe3, qe4, qe5, qe6] at hc) | skip))
 | (refine Axp ?_)
 | (refine Aqp ?_)
 | (refine Aql ?_))
 refine (newTin_spec _ H sa sl sc hs 240 (by omega)).runs.mono ?_
 rintro _ H1 ⟨tb, rfl, l1, hT⟩
 (try simp -implicitDefEqProofs (disch := first | omega | (simp only [qd] <;> omega)) only [xq, ↓xp, qc, Nat.reduceAdd, List.range, List.range.loop, fine, Nat.reduceEqDiff, ↓reduceIte, yielded, reduceCtorEq, Nat.reduceLT, Nat.reduceMul, Nat.reduceSub, one, Nat.reduceLeDiff, Aqa, y13_132, aq, ↓ap, qe0, qe1, qe2, *, -hK]); try (refine hK _ _ ?_; clear hK K; (try simp only [nq, ↓reduceIte, Nat.reduceEqDiff])); repeat' (first
 | (refine Axl rfl ?_; intro K hK; simp -implicitDefEqProofs (disch := first | omega | (simp only [qd] <;> omega)) only [xq, ↓xp, qc, Nat.reduceAdd, List.range, List.range.loop, fine, Nat.reduceEqDiff, ↓reduceIte, yielded, reduceCtorEq, Nat.reduceLT, Nat.reduceMul, Nat.reduceSub, one, Nat.reduceLeDiff, Aqa, y13_132, aq, ↓ap, qe0, qe1, qe2, *, -hK]; try (refine hK _ _ ?_; clear hK K))
 | (refine Axw rfl ?_; intro K hK; simp -implicitDefEqProofs (disch := first | omega | (simp only [qd] <;> omega)) only [xq, ↓xp, qc, Nat.reduceAdd, List.range, List.range.loop, fine, Nat.reduceEqDiff, ↓reduceIte, yielded, reduceCtorEq, Nat.reduceLT, Nat.reduceMul, Nat.reduceSub, one, Nat.reduceLeDiff, Aqa, y13_132, aq, ↓ap, qe0, qe1, qe2, *, -hK]; try (refine hK _ _ ?_; clear hK K; (try simp only [nq, ↓reduceIte, Nat.reduceEqDiff])))
 | (refine Aqu ?_; (try simp only [nq, ↓reduceIte, Nat.reduceEqDiff]))
 | (refine Axv ?_; (try simp only [nq, ↓reduceIte, Nat.reduceEqDiff]))
 | (refine Aq7 ?_; (try simp only [nq, ↓reduceIte, Nat.reduceEqDiff]))
 | (refine Azc ?_; (try simp only [nq, ↓reduceIte, Nat.reduceEqDiff]))
 | (refine Ax0 (by simp only [Aqn, Aqr, Nat.reduceEqDiff, Nat.reduceLT, ↓reduceIte, *]; rfl) ?_ ?_ <;> (intro hc; first | (exfalso; simp -implicitDefEqProofs (disch := omega) only [*, bq, reduceCtorEq] at hc; done) | (simp only [dq, qe3, qe4, qe5, qe6] at hc) | skip))
 | (refine Axp ?_)
 | (refine Aqp ?_)
 | (refine Aql ?_))
 refine (vaultOf_spec _ H1 tb 175 5 1 (by omega) (by omega) (by omega) hT).runs.mono ?_
 rintro _ H2 ⟨places, pieces, sv, start, cv, xss, tv, ts, rfl, hst, hcs, htr, hok, hfew, htok, lex2, hT2⟩
 have hd2 : Awt H2 places pieces sv cv tv start xss ts := ⟨hst, hcs, htr, hok, by omega, htok⟩
 clear hT hs l1 hst hcs htr lex2
 obtain ⟨va, vc, rfl, hvc, _⟩ := id hd2.st
 obtain ⟨ca, cc, rfl, hcc, _⟩ := id hd2.calls
 obtain ⟨ta, tc, rfl, htc, _⟩ := id hd2.truth
 have htl : ts.length <= 5 := by have := htok.1; omega
 have htb := htok.bnd hok
 have hok2 := hok
 obtain ⟨p1, p4, q1, q6, hsp, hsd, hsb, hxs⟩ := hok2
 have hs6 : ∀ t ∈ start, 0 <= t /\ t < 6 := fun t ht => by have := hsb t ht; omega
 have htp : ∀ t ∈ ts, 0 <= t /\ t < pieces := htok.below hok
 ((try (refine @unH _ ?_; refine zX y13_132 ?_)); (try (refine hK _ _ ?_; clear hK K; (try simp only [nq, ↓reduceIte, Nat.reduceEqDiff]))); refine @unH _ ?_; refine zA y13_132 ?_; (repeat (refine inC ?_; intro hc)); try (refine inK ?_; intro K hK))
 (intro vb hvb; generalize hG : Hp.set _ vb _ = H3; have lH3 := Aqg hG hvb; have vvb := Aqf hG; clear hG)
 have hd3 := hd2.le lH3
 have hT3 := hT2.le lH3
 clear hd2 lH3 hvb hT2
 obtain ⟨pc, rfl⟩ : ∃ pc : Nat, pieces = pc := ⟨pieces.toNat, by omega⟩
 ((try (refine @unH _ ?_; refine zX y13_132 ?_)); (try (refine hK _ _ ?_; clear hK K; (try simp only [nq, ↓reduceIte, Nat.reduceEqDiff]))); refine @unH _ ?_; refine zA y13_132 ?_; (repeat (refine inC ?_; intro hc)); try (refine inK ?_; intro K hK))
 refine (Bkk _ H3 tb (175 - pc) pc (by omega) (by rw [show 175 - pc + pc = 175 by omega]; exact hT3)).runs.mono ?_
 rintro _ H4 ⟨ov, os, rfl, hos, hol, hon, hob, lex, _⟩
 have hkk : ∀ x p c fr e, (e = 3 ∨ e = 22) -> H3 x = some (p, .cells c e fr) -> H4 x = some (p, .cells c e fr) := fun x p c fr e he hx => lex.keeps hx fun e' => by
  obtain ⟨sa, sl, sc, g, st, h1, _⟩ := hT3
  rw [e', h1] at hx
  simp only [Option.some.injEq, Prod.mk.injEq, Obj.cells.injEq] at hx
  rcases he with he | he <;> (rw [he] at hx; exact absurd hx.2.2.1 (by decide))
 have hd4 := hd3.move hkk
 have vvb4 := lex.keeps vvb (fun e => by obtain ⟨_, _, _, _, _, h1, _⟩ := hT3; rw [e, h1] at vvb; cases vvb)
 have hren := ren_of (by omega) hol hon hob
 obtain ⟨oa, oc, rfl, hoc, _⟩ := id hos
 rw [hol] at hos ⊢
 clear hd3 hT3 vvb lex hkk hon
 ((try (refine @unH _ ?_; refine zX y13_132 ?_)); (try (refine hK _ _ ?_; clear hK K; (try simp only [nq, ↓reduceIte, Nat.reduceEqDiff]))); refine @unH _ ?_; refine zA y13_132 ?_; (repeat (refine inC ?_; intro hc)); try (refine inK ?_; intro K hK))
 refine (keepVx_spec _ H4 places pc _ _ start xss hd4.st hd4.calls (by omega) (by omega) (fun xs h => by have := (hxs xs h).len; omega)).runs.mono ?_
 rintro _ H5 ⟨sw, cw, vs, rfl, hsw, hcw, hrows⟩
 have l45 := hcw.1.toLe
 have hvl := hrows.1
 replace hvl : Aqz _ := hvl
 clear hrows
 obtain ⟨wa, wc, rfl⟩ := hsw.len
 obtain ⟨ya, yc, rfl⟩ := hcw.len
 rw [Axi] at hsw ⊢
 ((try (refine @unH _ ?_; refine zX y13_132 ?_)); (try (refine hK _ _ ?_; clear hK K; (try simp only [nq, ↓reduceIte, Nat.reduceEqDiff]))); refine @unH _ ?_; refine zA y13_132 ?_; (repeat (refine inC ?_; intro hc)); try (refine inK ?_; intro K hK))
 refine (keepI_spec _ H5 _ ts (hd4.le l45).truth (by omega)).runs.mono ?_
 rintro _ H6 ⟨kw, rfl, hkw⟩
 have l56 := hkw.1.toLe
 have l46 := Hp.le_trans l45 l56
 have hne : ∀ b, rowB (.slice wa start.length wc) = some b -> rowB kw ≠ some b := fun b hb hb' => by
  have h1 := hkw.rowB_new hb'
  rcases hsw.2 with ⟨h, _⟩ | ⟨b', c, cap, _, h, h', _⟩
  ·simp only [Value.slice.injEq] at h
   rw [h.1] at hb
   cases hb
  ·simp only [Value.slice.injEq] at h'
   rw [h'.1] at hb
   cases hb
   rw [h1] at h
   cases h
 have hsw6 := hsw.le l56
 have hcw6 := hcw.le l56
 have hkw6 := hkw.base (Lex.of l45)
 obtain ⟨ka, kc, rfl⟩ := hkw.len
 rw [Axi] at hkw6 hne ⊢
 clear hsw hcw hkw l56 l45
 ((try (refine @unH _ ?_; refine zX y13_132 ?_)); (try (refine hK _ _ ?_; clear hK K; (try simp only [nq, ↓reduceIte, Nat.reduceEqDiff]))); refine @unH _ ?_; refine zA y13_132 ?_; (repeat (refine inC ?_; intro hc)); try (refine inK ?_; intro K hK))
 (intro xb hxb; generalize hG : Hp.set _ xb _ = H7; have lH7 := Aqg hG hxb; have vxb := Aqf hG; clear hG)
 have hxb4 : H4 xb = none := Hp.le_none l46 hxb
 have hnvx : vb ≠ xb := Ax4 vvb4 hxb4
 have hsw7 := hsw6.le lH7
 have hcw7 := hcw6.le lH7
 have hkw7 := hkw6.le lH7
 clear hsw6 hcw6 hkw6 lH7 hxb l46
 have htr1 := htok.1
 replace htr1 : Aqz _ := htr1
 generalize hg : (fun x : Int => os.getD x.toNat 0) = g at hren
 ((try (refine @unH _ ?_; refine zX y13_132 ?_)); (try (refine hK _ _ ?_; clear hK K; (try simp only [nq, ↓reduceIte, Nat.reduceEqDiff]))); refine @unH _ ?_; refine zA y13_132 ?_; (repeat (refine inC ?_; intro hc)); try (refine inK ?_; intro K hK))
 refine Axd (fun w a' H' => ∃ e i, w = start.length - i /\ i <= start.length /\ a' = act 199 e [] /\ e 4 = .pointer (some ⟨vb, 0, none⟩) /\ e 5 = .slice ta ts.length tc /\ e 6 = .slice oa pc oc /\ e 7 = .pointer (some ⟨xb, 0, none⟩) /\ e 8 = .slice ka ts.length kc /\ e 9 = .int .i64 (i : Nat) /\
  H' xb = some (true, .cells #[.int .i64 places, .int .i64 (pc : Nat), .slice wa start.length wc, .slice ya vs.length yc] 25 (0, 0)) /\ RowX none H4 H' (.slice wa start.length wc) 3 (ints ((start.take i).map g ++ start.drop i)) /\ RowX none H4 H' (.slice ya vs.length yc) 22 vs /\ RowX none H4 H' (.slice ka ts.length kc) 3 (ints ts)) (n := start.length) ?_ ?_
 ·exact ⟨_, 0, by omega, by omega, rfl, rfl, rfl, rfl, rfl, rfl, rfl, vxb, by simpa using hsw7, hcw7, hkw7⟩
 ·clear hsw7 hcw7 hkw7 vxb
  rintro w a' H8 ⟨e, i, rfl, hi, rfl, e4, e5, e6, e7, e8, e9, vxb, hsw, hcw, hkw⟩
  have l48 := hsw.1.toLe
  have hd8 := hd4.le l48
  have vvb8 := l48 _ _ vvb4
  by_cases hlt : i < start.length
  ·obtain ⟨b, o, cap', q, c, fr, hve, _, hb', hx⟩ := hd8.st.cons (fun h => absurd (congrArg List.length h) (by simp only [List.length_nil]; omega))
   simp only [Value.slice.injEq] at hve
   obtain ⟨rfl, hq, rfl⟩ := hve
   clear hq
   have hxi := hx i start[i] (List.getElem?_eq_getElem hlt)
   have hsi := hsb start[i] (List.getElem_mem hlt)
   obtain ⟨b2, o2, cap2, q2, c2, fr2, hve, _, hb2, hx2⟩ := (hos.le l48).cons (fun h => absurd (congrArg List.length h) (by simp only [List.length_nil]; omega))
   simp only [Value.slice.injEq] at hve
   obtain ⟨rfl, hq, rfl⟩ := hve
   clear hq
   have hgi : os[start[i].toNat]? = some (g start[i]) := by
    rw [<- hg, List.getElem?_eq_getElem (by omega)]
    simp only [List.getD, List.getElem?_eq_getElem (show start[i].toNat < os.length by omega), Option.getD_some]
   have hx2i := hx2 _ _ hgi
   have hst := map_step g start hlt
   obtain ⟨sb, sc', scap, hve, h40, hsb8, _, hsz, _, hput⟩ := hsw.put (i := i) (by rw [Axi, map_len g start (by omega)]; exact hlt)
   simp only [Value.slice.injEq] at hve
   obtain ⟨rfl, hq, rfl⟩ := hve
   clear hq
   have hput := hput (.int .i64 (g start[i]))
   rw [Az5, hst] at hput
   generalize g start[i] = gi at *
   generalize start[i] = si at *
   replace hst : Aqz _ := hst
   replace hgi : Aqz _ := hgi
   replace hput : Aqz _ := hput
   replace hsw : Aqz _ := hsw
   replace hol : Aqz _ := hol
   replace hg : Aqz _ := hg
   (refine @unH _ ?_; refine zA y13_132 ?_; (repeat (refine inC ?_; intro hc)); try (refine inK ?_; intro K hK))
   (refine Az0 12 [(true, 0), (true, 1), (true, 2), (true, 3), (true, 4), (true, 5), (true, 6), (true, 7), (true, 8), (true, 9), (true, 10), (true, 11), (false, 12)] (by kernel_rfl) (by kernel_rfl) (by simp) (by kernel_rfl) ?_; intro K hK; (iterate 12 (refine @unH _ ?_; refine z3 y13_132 ?_)); refine Ajt ?_; (refine @unH _ ?_; refine zX y13_132 ?_); try (refine hK _ _ ?_; clear hK K; (try simp only [nq, ↓reduceIte, Nat.reduceEqDiff])))
   (refine @unH _ ?_; refine zA y13_132 ?_; (repeat (refine inC ?_; intro hc)); try (refine inK ?_; intro K hK))
   have hns : xb ≠ sb := fun e => by rw [e, hsb8] at vxb; cases vxb
   exact ⟨start.length - (i + 1), by omega, _, i + 1, rfl, hlt, rfl, e4, e5, e6, e7, e8, rfl, (Aqo hns).trans vxb, hput, hcw.other h40 (hcw.rowB_ne fun c fr h => by rw [hsb8] at h; cases h), hkw.other h40 (hne sb rfl)⟩
  ·obtain rfl : i = start.length := by omega
   rw [List.take_length, List.drop_length, List.append_nil] at hsw
   replace hol : Aqz _ := hol
   replace hg : Aqz _ := hg
   (refine @unH _ ?_; refine zA y13_132 ?_; (repeat (refine inC ?_; intro hc)); try (refine inK ?_; intro K hK))
   refine Axd (fun w a' H' => ∃ e i vs', w = ts.length - i /\ i <= ts.length /\ a' = act 199 e [] /\ e 4 = .pointer (some ⟨vb, 0, none⟩) /\ e 5 = .slice ta ts.length tc /\ e 6 = .slice oa pc oc /\ e 7 = .pointer (some ⟨xb, 0, none⟩) /\ e 8 = .slice ka ts.length kc /\ e 10 = .int .i64 (i : Nat) /\
    H' xb = some (true, .cells #[.int .i64 places, .int .i64 (pc : Nat), .slice wa start.length wc, .slice ya vs.length yc] 25 (0, 0)) /\ RowX none H4 H' (.slice wa start.length wc) 3 (ints (start.map g)) /\ RowX none H4 H' (.slice ya vs.length yc) 22 vs' /\ RowX none H4 H' (.slice ka ts.length kc) 3 (ints ((ts.take i).map g ++ ts.drop i)) /\ CallsN H' (.slice ka ts.length kc) g ts vs' i) (n := ts.length) ?_ ?_
   ·have h1 : vs.length = xss.length := hvl
    have h2 : ts.length = xss.length := htr1
    exact ⟨_, 0, vs, by omega, by omega, rfl, e4, e5, e6, e7, e8, rfl, vxb, hsw, hcw, by simpa using hkw, ⟨by omega, fun j hj => absurd hj (by omega)⟩⟩
   ·clear hsw hcw hkw vxb e4 e5 e6 e7 e8 hd8 vvb8 l48 e9
    rename_i eold
    clear eold
    rintro w a' H9 ⟨e, i, vs', rfl, hi, rfl, e4, e5, e6, e7, e8, e10, vxb, hsw, hcw, hkw, hcn⟩
    have l49 := hsw.1.toLe
    have hd9 := hd4.le l49
    have vvb9 := l49 _ _ vvb4
    by_cases hlt : i < ts.length
    ·obtain ⟨b, o, cap', q, c, fr, hve, _, hb', hx⟩ := hd9.truth.cons (fun h => absurd (congrArg List.length h) (by simp only [List.length_nil]; omega))
     simp only [Value.slice.injEq] at hve
     obtain ⟨rfl, hq, rfl⟩ := hve
     clear hq
     have hxi := hx i ts[i] (List.getElem?_eq_getElem hlt)
     have hsi := htp ts[i] (List.getElem_mem hlt)
     obtain ⟨b2, o2, cap2, q2, c2, fr2, hve, _, hb2, hx2⟩ := (hos.le l49).cons (fun h => by have h1 : os.length = pc := hol; rw [h] at h1; simp only [List.length_nil] at h1; omega)
     simp only [Value.slice.injEq] at hve
     obtain ⟨rfl, hq, rfl⟩ := hve
     clear hq
     have hgi : os[ts[i].toNat]? = some (g ts[i]) := by
      have h1 : os.length = pc := hol
      rw [<- show (fun x : Int => os.getD x.toNat 0) = g from hg, List.getElem?_eq_getElem (by omega)]
      simp only [List.getD, List.getElem?_eq_getElem (show ts[i].toNat < os.length by omega), Option.getD_some]
     have hx2i := hx2 _ _ hgi
     have hst := map_step g ts hlt
     have hsn := fun H (h : CallsN H (.slice ka ts.length kc) g ts vs' i) nb => h.snoc hlt (nb := nb)
     obtain ⟨ob, kc', kcap, hve, h4o, hob9, _, hsz, _, hput⟩ := hkw.put (i := i) (by rw [Axi, map_len g ts (by omega)]; exact hlt)
     simp only [Value.slice.injEq] at hve
     obtain ⟨rfl, hq, rfl⟩ := hve
     clear hq
     have hput := hput (.int .i64 (g ts[i]))
     rw [Az5, hst] at hput
     generalize g ts[i] = gi at *
     generalize ts[i] = si at *
     replace hst : Aqz _ := hst
     replace hgi : Aqz _ := hgi
     replace hput : Aqz _ := hput
     replace hsw : Aqz _ := hsw
     replace hkw : Aqz _ := hkw
     replace hsn : Aqz _ := hsn
     replace hcn : Aqz _ := hcn
     (refine @unH _ ?_; refine zA y13_132 ?_; (repeat (refine inC ?_; intro hc)); try (refine inK ?_; intro K hK))
     have hoci : (kc'.setIfInBounds i (.int .i64 gi))[i]? = some (.int .i64 gi) := Array.getElem?_setIfInBounds_self_of_lt hsz
     have hsep := hne ob
     have hnx : xb ≠ ob := fun e => by rw [e, hob9] at vxb; cases vxb
     have hsw10 := (show RowX none H4 H9 (.slice wa start.length wc) 3 (ints (start.map g)) from hsw).other (o := .cells (kc'.setIfInBounds i (.int .i64 gi)) 3 (0, 0)) h4o (fun h => hne ob h rfl)
     have hcw10 := hcw.other (o := .cells (kc'.setIfInBounds i (.int .i64 gi)) 3 (0, 0)) h4o (hcw.rowB_ne fun c fr h => by rw [hob9] at h; cases h)
     have hcn10 := (show CallsN H9 _ g ts vs' i from hcn).keep (H' := H9.set ob (.cells (kc'.setIfInBounds i (.int .i64 gi)) 3 (0, 0))) (fun x c hx hy => (Aqo (fun e => hx (by rw [e]; rfl))).trans hy)
     have vxb10 := (Aqo (H := H9) (o := .cells (kc'.setIfInBounds i (.int .i64 gi)) 3 (0, 0)) hnx).trans vxb
     have hput10 : RowX none H4 (H9.set ob (.cells (kc'.setIfInBounds i (.int .i64 gi)) 3 (0, 0))) _ _ _ := hput
     clear hput hcn hsw hcw hkw hob9 vxb hxi hx hb' hx2i hx2 hb2 hgi hst
     generalize kc'.setIfInBounds i (.int .i64 gi) = C at *
     generalize hG : Hp.set H9 ob _ = H10 at *
     have vob10 := Aqf hG
     clear hG hd9 vvb9 l49
     have hlv := hcn10.1
     have hvi : i < vs.length := by
      have h1 : vs.length = xss.length := hvl
      have h2 : ts.length = xss.length := htr1
      omega
     obtain ⟨yb, rfl⟩ : ∃ y, ya = some ⟨y, 0, none⟩ := by
      obtain ⟨y, _, _, hve, _⟩ := hcw10.put (i := i) (by omega)
      simp only [Value.slice.injEq] at hve
      exact ⟨y, hve.1⟩
     clear hlv
     refine Ayg (fun HX => HX xb = some (true, .cells #[.int .i64 places, .int .i64 (pc : Nat), .slice wa start.length wc, .slice (some ⟨yb, 0, none⟩) vs.length yc] 25 (0, 0)) /\ HX ob = some (true, .cells C 3 (0, 0))) 9 [(true, 0), (true, 1), (true, 2), (true, 3), (true, 4), (true, 5), (true, 6), (false, 7), (true, 8), (false, 9)] (by kernel_rfl) (by kernel_rfl) (by decide) (by kernel_rfl) ?_; intro K hK
     (iterate 7 (apply Az9 rfl rfl rfl (by exact ⟨vxb10, vob10⟩); (focus (intro HX hHX; have hX1 := hHX.1; have hX2 := hHX.2; clear hHX; simp -implicitDefEqProofs (disch := first | omega | (simp only [qd] <;> omega)) only [xq, ↓xp, qc, Nat.reduceAdd, List.range, List.range.loop, fine, Nat.reduceEqDiff, ↓reduceIte, yielded, reduceCtorEq, Nat.reduceLT, Nat.reduceMul, Nat.reduceSub, one, Nat.reduceLeDiff, Aqa, y13_132, aq, ↓ap, qe0, qe1, qe2, *, -hK, Aqv] <;> (first | exact rfl | exact ⟨rfl, rfl⟩ | exact ⟨rfl, trivial⟩))); simp -implicitDefEqProofs (disch := first | omega | (simp only [qd] <;> omega)) only [Aqm, Aqc]))
     refine Ajh ?_
     (refine @unH _ ?_; refine zX y13_132 ?_)
     (intro nb hnb; generalize hG : Hp.set _ nb _ = H11; have lH11 := Aqg hG hnb; have vnb := Aqf hG; clear hG)
     have vxb11 := lH11 _ _ vxb10
     have vob11 := lH11 _ _ vob10
     have hsw11 := hsw10.le lH11
     have hcw11 := hcw10.le lH11
     have hput11 := hput10.le lH11
     have hcn11 := (show ∀ H, _ -> ∀ nb, _ from hsn) H11 (hcn10.keep fun x c _ hx => lH11 _ _ hx) nb vnb (hput10.rowB_ne fun c fr h => by rw [hnb] at h; cases h)
     have hn4 : H4 nb = none := Hp.le_none hsw10.1.toLe hnb
     have hxn := Ax4 vxb10 hnb
     have hon := Ax4 vob10 hnb
     clear vxb10 vob10 hsw10 hcw10 hput10 hcn10 lH11 hsn hnb
     refine ⟨.inr ⟨by rw [if_neg hxn], by rw [if_neg hon]⟩, ?_⟩
     (apply Az9 rfl rfl rfl (by exact ⟨vxb11, vob11⟩); (focus (intro HX hHX; have hX1 := hHX.1; have hX2 := hHX.2; clear hHX; simp -implicitDefEqProofs (disch := first | omega | (simp only [qd] <;> omega)) only [xq, ↓xp, qc, Nat.reduceAdd, List.range, List.range.loop, fine, Nat.reduceEqDiff, ↓reduceIte, yielded, reduceCtorEq, Nat.reduceLT, Nat.reduceMul, Nat.reduceSub, one, Nat.reduceLeDiff, Aqa, y13_132, aq, ↓ap, qe0, qe1, qe2, *, -hK, Aqv] <;> (first | exact rfl | exact ⟨rfl, rfl⟩ | exact ⟨rfl, trivial⟩))); simp -implicitDefEqProofs (disch := first | omega | (simp only [qd] <;> omega)) only [Aqm, Aqc])
     obtain ⟨yb', yc', ycap, hve, h4y, hyb11, _, hysz, _, hyput⟩ := hcw11.put (i := i) (by have := hcn11.1; rw [List.length_set] at this; omega)
     simp only [Value.slice.injEq] at hve
     obtain ⟨hy, hq, rfl⟩ := hve
     cases hy
     clear hq
     have hyput := hyput (.slice (some ⟨nb, 0, none⟩) 1 1)
     have hxy : xb ≠ yb := fun e => by rw [e, hyb11] at vxb11; cases vxb11
     replace hyput : Aqz _ := hyput
     replace hcn11 : Aqz _ := hcn11
     replace hsw11 : Aqz _ := hsw11
     replace hput11 : Aqz _ := hput11
     replace hcw11 : Aqz _ := hcw11
     refine Ajh ?_
     (refine @unH _ ?_; refine zX y13_132 ?_)
     refine ⟨.inl trivial, Axy (hK _ _ ?_)⟩
     clear hK K
     (try simp only [nq, ↓reduceIte, Nat.reduceEqDiff])
     (refine @unH _ ?_; refine zA y13_132 ?_; (repeat (refine inC ?_; intro hc)); try (refine inK ?_; intro K hK))
     have hsw12 : RowX none H4 H11 _ _ _ := hsw11
     have hkw12 : RowX none H4 H11 _ _ _ := hput11
     exact ⟨ts.length - (i + 1), by omega, _, i + 1, _, rfl, hlt, rfl, e4, e5, e6, e7, e8, rfl, (Aqo hxy).trans vxb11, hsw12.other h4y (hsw12.rowB_ne fun c fr h => by rw [hyb11] at h; cases h), hyput, hkw12.other h4y (hkw12.rowB_ne fun c fr h => by rw [hyb11] at h; cases h), (show CallsN H11 _ g ts _ (i + 1) from hcn11).keep fun x c _ hx => (Aqo (fun e => by rw [e, hyb11] at hx; cases hx)).trans hx⟩
    ·obtain rfl : i = ts.length := by omega
     rw [List.take_length, List.drop_length, List.append_nil] at hkw
     have hrows := hcn.rows
     have hcl := hcn.1
     have hx3 : SlR H9 (.slice ya vs.length yc) ((ts.map g).map fun t => [t]) := hcw.rows hrows
     obtain ⟨hok', htr'⟩ := num_ok hok htok hren htp
     have hdx : Awt H9 places pc _ _ _ (start.map g) ((ts.map g).map fun t => [t]) (ts.map g) := ⟨hsw.ints, hx3, hkw.ints, hok', by simp only [List.length_map]; omega, htr'⟩
     clear hrows hcl hx3 hcn hsw hcw hkw hok' htr' hne hos
     replace hol : Aqz _ := hol
     replace hg : Aqz _ := hg
     (refine @unH _ ?_; refine zA y13_132 ?_; (repeat (refine inC ?_; intro hc)); try (refine inK ?_; intro K hK))
     refine (Cj2 _ H9 places pc _ _ _ start xss ts hd9).runs.mono ?_
     rintro _ HD ⟨bv, rfl, hbl, l1⟩
     have hdD := hd9.le l1
     have hxD := hdx.le l1
     have vvbD := l1 _ _ vvb9
     have vxbD := l1 _ _ vxb
     clear hd9 hdx vvb9 vxb l1
     obtain ⟨ba, bc, rfl, _, _⟩ := id hbl
     clear hbl
     ((try (refine @unH _ ?_; refine zX y13_132 ?_)); (try (refine hK _ _ ?_; clear hK K; (try simp only [nq, ↓reduceIte, Nat.reduceEqDiff]))); refine @unH _ ?_; refine zA y13_132 ?_; (repeat (refine inC ?_; intro hc)); try (refine inK ?_; intro K hK))
     refine (Cj2 _ HD places pc _ _ _ _ _ _ hxD).runs.mono ?_
     rintro _ HE ⟨bv, rfl, hbl, l1⟩
     have hdE := hdD.le l1
     have hxE := hxD.le l1
     have vvbE := l1 _ _ vvbD
     have vxbE := l1 _ _ vxbD
     clear hdD hxD vvbD vxbD l1
     obtain ⟨ba2, bc2, rfl, _, _⟩ := id hbl
     clear hbl
     rw [List.length_map, opt_ren hren ts.length p1 (relO_start hren hsb) htp (Nat.le_refl _)]
     ((try (refine @unH _ ?_; refine zX y13_132 ?_)); (try (refine hK _ _ ?_; clear hK K; (try simp only [nq, ↓reduceIte, Nat.reduceEqDiff]))); refine @unH _ ?_; refine zA y13_132 ?_; (repeat (refine inC ?_; intro hc)); try (refine inK ?_; intro K hK))
     generalize optF ts.length places ts (oOf start) = N at *
     refine (Cqc _ HE places pc _ _ _ start xss ts hdE).runs.mono ?_
     rintro _ HF ⟨rfl, l1⟩
     have hdF := hdE.le l1
     have hxF := hxE.le l1
     have vvbF := l1 _ _ vvbE
     have vxbF := l1 _ _ vxbE
     clear hdE hxE vvbE vxbE l1
     ((try (refine @unH _ ?_; refine zX y13_132 ?_)); (try (refine hK _ _ ?_; clear hK K; (try simp only [nq, ↓reduceIte, Nat.reduceEqDiff]))); refine @unH _ ?_; refine zA y13_132 ?_; (repeat (refine inC ?_; intro hc)); try (refine inK ?_; intro K hK))
     refine (Cqc _ HF places pc _ _ _ _ _ _ hxF).runs.mono ?_
     rintro _ HG ⟨rfl, l1⟩
     have hdG := hdF.le l1
     have hxG := hxF.le l1
     have vvbG := l1 _ _ vvbF
     have vxbG := l1 _ _ vxbF
     clear hdF hxF vvbF vxbF l1
     rw [List.length_map, bests_ren hren ts.length p1 (relO_start hren hsb) htp (Nat.le_refl _)]
     generalize (Axj ts.length places ts (oOf start)).length = M at *
     ((try (refine @unH _ ?_; refine zX y13_132 ?_)); (try (refine hK _ _ ?_; clear hK K; (try simp only [nq, ↓reduceIte, Nat.reduceEqDiff]))); refine @unH _ ?_; refine zA y13_132 ?_; (repeat (refine inC ?_; intro hc)); try (refine inK ?_; intro K hK))
     refine (Byj _ HG places pc _ _ _ start xss ts hdG).runs.mono ?_
     rintro _ HI ⟨pv, rfl, l1, hp1⟩
     have hdI := hdG.le l1
     have hxI := hxG.le l1
     have vvbI := l1 _ _ vvbG
     have vxbI := l1 _ _ vxbG
     clear hdG hxG vvbG vxbG l1
     obtain ⟨pa, pn, rfl, hpn, _⟩ := id hp1
     have hpl8 : (Azi places ts ts.length 0).length <= 1000000 := by
      have := phasesF_len places ts ts.length 0
      omega
     ((try (refine @unH _ ?_; refine zX y13_132 ?_)); (try (refine hK _ _ ?_; clear hK K; (try simp only [nq, ↓reduceIte, Nat.reduceEqDiff]))); refine @unH _ ?_; refine zA y13_132 ?_; (repeat (refine inC ?_; intro hc)); try (refine inK ?_; intro K hK))
     refine (Byj _ HI places pc _ _ _ _ _ _ hxI).runs.mono ?_
     rintro _ HJ ⟨pv, rfl, l1, hp2⟩
     have hdJ := hdI.le l1
     have hxJ := hxI.le l1
     have vvbJ := l1 _ _ vvbI
     have vxbJ := l1 _ _ vxbI
     have hp1 := hp1.le l1
     rw [List.length_map, phases_ren hren htp] at hp2
     generalize Azi places ts ts.length 0 = PH at *
     obtain ⟨pb, pm, rfl, hpm, _⟩ := id hp2
     have hlike := Awb (.wg Tryz.prog) HJ _ _ _ _ hp1 hp2 hpl8 hpl8
     rw [decide_eq_true rfl] at hlike
     replace hlike : Aqz _ := hlike
     clear hdI hxI vvbI vxbI l1 hp1 hp2
     (refine @unH _ ?_; refine zX y13_132 ?_)
     refine hK _ _ ?_; clear hK K
     (try simp only [nq, ↓reduceIte, Nat.reduceEqDiff])
     refine Av2 (fun e => e 4 = .pointer (some ⟨vb, 0, none⟩) /\ e 5 = .slice ta ts.length tc /\ e 7 = .pointer (some ⟨xb, 0, none⟩) /\ e 8 = .slice ka ts.length kc /\ e 12 = .int .i64 N /\ e 13 = .int .i64 0 /\ e 15 = .int .i64 N /\ e 16 = .int .i64 0 /\ e 17 = .int .i64 M /\ e 18 = .int .i64 0 /\ e 19 = .int .i64 M /\ e 20 = .int .i64 0 /\ e 21 = .slice pa PH.length pn /\ e 22 = .int .i64 0 /\ e 23 = .slice pb PH.length pm /\ e 24 = .int .i64 0) ⟨e4, e5, e7, e8, rfl, rfl, rfl, rfl, rfl, rfl, rfl, rfl, rfl, rfl, rfl, rfl⟩ ?_
     clear e4 e5 e6 e7 e8 e10
     rename_i eold
     clear eold
     rintro e ⟨e4, e5, e7, e8, e12, e13, e15, e16, e17, e18, e19, e20, e21, e22, e23, e24⟩
     (refine @unH _ ?_; refine zA y13_132 ?_; (repeat (refine inC ?_; intro hc)); try (refine inK ?_; intro K hK))
     refine (show FnX _ _ _ _ _ _ from hlike).runs.mono ?_
     rintro _ HQ ⟨rfl, hHQ⟩
     rw [hHQ]; clear hHQ HQ hlike
     ((try (refine @unH _ ?_; refine zX y13_132 ?_)); (try (refine hK _ _ ?_; clear hK K; (try simp only [nq, ↓reduceIte, Nat.reduceEqDiff]))); refine @unH _ ?_; refine zA y13_132 ?_; (repeat (refine inC ?_; intro hc)); try (refine inK ?_; intro K hK))
     clear e12 e13 e15 e16 e17 e18 e19 e20 e21 e22 e23 e24
     refine Axd (fun w a' H' => ∃ e, ∃ r : Nat, w = 3 - r /\ 1 <= r /\ r <= 3 /\ a' = act 199 e [] /\ e 4 = .pointer (some ⟨vb, 0, none⟩) /\ e 5 = .slice ta ts.length tc /\ e 7 = .pointer (some ⟨xb, 0, none⟩) /\ e 8 = .slice ka ts.length kc /\ e 25 = .int .i64 (r : Nat) /\ HJ.le H') (n := 2) ?_ ?_
     ·exact ⟨_, 1, by omega, by omega, by omega, rfl, e4, e5, e7, e8, rfl, Hp.le_refl _⟩
     ·clear e4 e5 e7 e8
      rename_i eold
      clear eold
      rintro w a' HX ⟨e, r, rfl, hr1, hr, rfl, e4, e5, e7, e8, e25, lJ⟩
      have hdX := hdJ.le lJ
      have hxX := hxJ.le lJ
      have vvbX := lJ _ _ vvbJ
      have vxbX := lJ _ _ vxbJ
      by_cases hr3 : r <= 2
      ·have hrr := (run_ren hren (pl := places) (rl := (r : Int)) (by omega) p1 hsb hsd htp (by omega) ts.length (Nat.le_refl _)).f
       replace hrr : Aqz _ := hrr
       (refine @unH _ ?_; refine zA y13_132 ?_; (repeat (refine inC ?_; intro hc)); try (refine inK ?_; intro K hK))
       refine (Cvw _ HX places pc _ _ _ start xss ts hdX r (by omega) (by omega)).runs.mono ?_
       rintro _ HY ⟨lv, rfl, l1, hlv⟩
       have hxY := hxX.le l1
       have vxbY := l1 _ _ vxbX
       have lJY := Hp.le_trans lJ l1
       obtain ⟨q1a, q1c, rfl, _, _⟩ := hlv
       clear hdX hxX vvbX vxbX l1 lJ
       ((try (refine @unH _ ?_; refine zX y13_132 ?_)); (try (refine hK _ _ ?_; clear hK K; (try simp only [nq, ↓reduceIte, Nat.reduceEqDiff]))); refine @unH _ ?_; refine zA y13_132 ?_; (repeat (refine inC ?_; intro hc)); try (refine inK ?_; intro K hK))
       refine (Cvw _ HY places pc _ _ _ _ _ _ hxY r (by omega) (by omega)).runs.mono ?_
       rintro _ HZ ⟨lv, rfl, l1, hlv⟩
       have lJZ := Hp.le_trans lJY l1
       obtain ⟨q2a, q2c, rfl, _, _⟩ := hlv
       rw [List.length_map, show (rrun places r (ts.map g) (rs0 (start.map g)) ts.length).f = (rrun places r ts (rs0 start) ts.length).f from hrr]
       generalize (rrun places r ts (rs0 start) ts.length).f = FA at *
       clear hxY vxbY l1 lJY hrr
       ((try (refine @unH _ ?_; refine zX y13_132 ?_)); (try (refine hK _ _ ?_; clear hK K; (try simp only [nq, ↓reduceIte, Nat.reduceEqDiff]))); refine @unH _ ?_; refine zA y13_132 ?_; (repeat (refine inC ?_; intro hc)); try (refine inK ?_; intro K hK))
       exact ⟨3 - (r + 1), by omega, _, r + 1, rfl, by omega, by omega, rfl, e4, e5, e7, e8, rfl, lJZ⟩
      ·obtain rfl : r = 3 := by omega
       (refine @unH _ ?_; refine zA y13_132 ?_; (repeat (refine inC ?_; intro hc)); try (refine inK ?_; intro K hK))
       refine (kept_spec HX).runs.mono ?_
       rintro _ H7 ⟨rfl, lH7⟩
       ((try (refine @unH _ ?_; refine zX y13_132 ?_)); (try (refine hK _ _ ?_; clear hK K; (try simp only [nq, ↓reduceIte, Nat.reduceEqDiff]))); refine @unH _ ?_; refine zA y13_132 ?_; (repeat (refine inC ?_; intro hc)); try (refine inK ?_; intro K hK))
       (refine Ax3 ?_; (try simp only [nq, ↓reduceIte, Nat.reduceEqDiff]); rw [Axn, Ak0 Tryz.results13 (by decide)]; simp only [Aqr, Nat.reduceEqDiff, ↓reduceIte])
end Go.Proofs.YtgniilnljeedlaaGreatDoor
end
