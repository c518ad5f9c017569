/- Texts SmSn SmRp SmPl SmKw PlanG SmKs SmKm SmMx. -/
import Derived.Test.YtkenloilljeliaaGreatDoorJ23
set_option linter.defProp false
set_option linter.unusedSimpArgs false
set_option linter.unusedVariables false
set_option maxRecDepth 100000
set_option maxHeartbeats 2000000
section
namespace Go.Proofs.YtkenloilljeliaaGreatDoor
open Go Go.X
def withS (s : Sm) (n : Ns) : Sm := ⟨s.places, s.doors, s.hampers, s.noses ++ [n]⟩
theorem withS_ok {s : Sm} (ok : SmOk s) {n : Ns} (hn : NsOk s.places n) (hl : s.noses.length < 4) : SmOk (withS s n) :=
 ⟨ok.p0, ok.p1, ok.dl, ok.dk, ok.h0, ok.h1, ok.hk, ok.hd, by simp [withS]; omega, fun m hm => by
  rcases List.mem_append.1 hm with h | h
  ·exact ok.nk m h
  ·simp only [List.mem_cons, List.not_mem_nil, or_false] at h
   subst h
   exact hn⟩
theorem tr_withS {s : Sm} {n : Ns} {i b : Nat} {ts : List Int} : Tr (withS s n) i b ts ↔ Tr s i b ts /\ n.sm = decide (Bw1 s i b ts n.pl <= n.hr) := by
 constructor
 ·rintro ⟨h1, h2, h3, h4⟩
  exact ⟨⟨h1, h2, h3, fun m hm => h4 m (List.mem_append_left _ hm)⟩, h4 n (List.mem_append_right _ List.mem_cons_self)⟩
 ·rintro ⟨⟨h1, h2, h3, h4⟩, h5⟩
  refine ⟨h1, h2, h3, fun m hm => ?_⟩
  rcases List.mem_append.1 hm with h | h
  ·exact h4 m h
  ·simp only [List.mem_cons, List.not_mem_nil, or_false] at h
   subst h
   exact h5
end Go.Proofs.YtkenloilljeliaaGreatDoor
end
section
namespace Go.Proofs.YtkenloilljeliaaGreatDoor
open Go Go.X
def dsF (s : Sm) (ts : List Int) (a b : Int) : Int := gI (Aq4 s.doors a (pad6 ts)) b
section
variable {s : Sm} (ok : SmOk s) {ts : List Int} (ht : ts ∈ Axx s.doors) {a b c : Int} (a0 : 0 <= a) (a1 : a < s.places) (b0 : 0 <= b) (b1 : b < s.places)
include ok ht a0 a1
theorem ds_self : dsF s ts a a = 0 := (Bxb ok a0 a1 ht).at0
end
end Go.Proofs.YtkenloilljeliaaGreatDoor
end
section
namespace Go.Proofs.YtkenloilljeliaaGreatDoor
open Go Go.X
def lateN (more : Int) (n : Ns) : Ns := ⟨n.pl, n.hr + more, n.sm⟩
def lateS (s : Sm) (more : Int) : Sm := ⟨s.places, s.doors, s.hampers, s.noses.map (lateN more)⟩
theorem lateS_ok {s : Sm} (ok : SmOk s) {more : Int} (h0 : 0 <= more) (h : ∀ n ∈ s.noses, n.hr + more <= 12) : SmOk (lateS s more) :=
 ⟨ok.p0, ok.p1, ok.dl, ok.dk, ok.h0, ok.h1, ok.hk, ok.hd, by simpa [lateS] using ok.nl, fun n hn => by
  obtain ⟨m, hm, rfl⟩ := List.mem_map.1 hn
  have := ok.nk m hm
  have h1 := this.h0
  exact ⟨this.p0, this.p1, by simp only [lateN]; omega, h m hm⟩⟩
theorem late_tr {s : Sm} (ok : SmOk s) {more : Int} (h0 : 0 <= more) (h : ∀ n ∈ s.noses, n.hr + more <= 12) (hs : ∃ n ∈ s.noses, n.sm = true) {i b : Nat} {ts : List Int} (ht : Tr s i b ts) : Tr (lateS s more) i (b + more.toNat) ts := by
 have hc : ∀ p, 0 <= p -> p < s.places -> Bw1 (lateS s more) i (b + more.toNat) ts p = Bjz (gI (Aq4 s.doors (s.hampers.getD i 0) (pad6 ts)) p) ((b + more.toNat : Nat) : Int) := fun p h0 h1 => Bqk (s := lateS s more) h0 h1
 refine ⟨ht.i, ?_, ht.t, fun n hn => ?_⟩
 ·obtain ⟨n, hn, hsm⟩ := hs
  have hk := ok.nk n hn
  have h1 := ht.n n hn
  rw [hsm] at h1
  have h2 : Bw1 s i b ts n.pl <= n.hr := by simpa using h1.symm
  have h3 := h n hn
  have := Awj ok ht.i ht.t hk.p0 hk.p1
  rw [Bqk hk.p0 hk.p1] at h2
  have := hk.h1
  unfold Bjz at h2
  split at h2 <;> omega
 ·obtain ⟨m, hm, rfl⟩ := List.mem_map.1 hn
  have hk := ok.nk m hm
  have h1 := ht.n m hm
  have h3 := h m hm
  show m.sm = decide (Bw1 (lateS s more) i (b + more.toNat) ts m.pl <= m.hr + more)
  rw [h1, hc m.pl hk.p0 hk.p1, Bqk hk.p0 hk.p1, decide_eq_decide]
  have := hk.h1
  unfold Bjz
  split
  ·constructor <;> intro <;> omega
  ·constructor <;> intro <;> omega
theorem late_count {s : Sm} (ok : SmOk s) {more : Int} (h0 : 0 <= more) (h : ∀ n ∈ s.noses, n.hr + more <= 12) (hs : ∃ n ∈ s.noses, n.sm = true) : Aza s <= Aza (lateS s more) :=
 count_le ok (lateS_ok ok h0 h) (fun x => (x.1, x.2 + more)) (fun x _ y _ e => by
  rw [Prod.mk.injEq] at e
  exact Prod.ext e.1 (by omega)) fun i b ts ht => (Cyp (lateS_ok ok h0 h)).2 ⟨by simp only; omega, by simp only; omega, ts, by
   have := late_tr ok h0 h hs ht
   simp only [Int.toNat_natCast]
   rw [show ((b : Int) + more).toNat = b + more.toNat by omega]
   exact this⟩
theorem append_RowGs {P : Program} {tt e : TypeId} {sz : Nat} {z : Value} {inf : TypeInfo} (hsz : 0 < sz) (hu : P.underlying tt = some (.slice e)) (hs : ∀ w, (sizeOf e).run P w = .ok sz w) (hz : ∀ w, (zeroValue e).run P w = .ok z w) (hzc : z.cells.size = sz)
  (hi : ∀ w, (typeInfo e).run P w = .ok inf w) (hby : inf.bytes <= 1024) (hby0 : 0 < inf.bytes)
  {H : Hp} {v : Value} {rows rows2 : List (List Value)} (h : RowG e sz H v rows) {g : Option Addr} {m cap : Nat} (h2 : SlG e sz H (.slice g m cap) rows2) (hsep : rows2 ≠ [] -> ∀ x o, g = some ⟨x, o, none⟩ -> rowB v ≠ some x) (hone : ∀ r ∈ rows2, ∀ u ∈ r, one u = true) (hn : rows.length + rows2.length <= 1000000) (ty : TypeId) (cb : Array Bool) (K : Next -> Hp -> Prop) (E : Value -> Hp -> Prop)
  (h' : ∀ v' H', RowG e sz H' v' (rows ++ rows2) -> (∀ x u, H x = some u -> rowB v ≠ some x -> H' x = some u) -> (∀ x, rowB v' = some x -> rowB v = some x ∨ H x = none) -> K (.value v') H') :
  wpS P (builtin .append #[tt, tt] ty cb #[v, .slice g m cap]) H K E := by
 have hl2 := h2.len.1
 have hr2 : ∀ r ∈ rows2, (id r : List Value).length = sz := fun r hr => by
  obtain ⟨i, hi⟩ := List.getElem?_of_mem hr
  obtain ⟨_, _, _, _, _, _, _, _, h4, _⟩ := h2.get hi
  exact h4
 have hfl : (rows ++ rows2).flatMap id = rows.flatMap id ++ rows2.flatMap id := by simp
 have hro : ∀ r ∈ rows ++ rows2, r.length = sz := fun r hr => (List.mem_append.1 hr).elim (h.2 r) (hr2 r)
 have hcap := h.slG hsz
 by_cases hm : m = 0
 ·subst hm
  have h0 : rows2 = [] := List.eq_nil_of_length_eq_zero hl2.symm
  subst h0
  obtain ⟨a, cp, rfl⟩ := h.form
  exact Ayq hu hs _ _ _ _ _ _ _ hcap.len.2 _ _ (h' _ H (by rw [List.append_nil]; exact h) (fun _ _ hx _ => hx) fun x hx => .inl hx)
 obtain ⟨⟨gb, go, rfl⟩⟩ : Nonempty (∃ gb go, g = some ⟨gb, go, none⟩) := by
  cases hx : rows2 with
  | nil => rw [hx] at hl2; exact absurd hl2 hm
  | cons r l =>
   obtain ⟨b, o, _, _, _, hh, _⟩ := h2.get (i := 0) (r := r) (by rw [hx]; rfl)
   exact ⟨b, o, hh⟩
 have hfn : (rows2.flatMap id).length = m * sz := by rw [Avs id sz rows2 hr2, hl2]
 have hcell := SlG.cells hsz h2
 have hw : ∀ u ∈ rows2.flatMap id, one u = true := fun u hm' => by
  obtain ⟨r, hr, hu'⟩ := List.mem_flatMap.1 hm'
  exact hone r hr u hu'
 have hlen : rows.length + m = (rows ++ rows2).length := by rw [List.length_append, hl2]
 obtain ⟨_, hrow⟩ := h.1
 rcases hrow with ⟨rfl, hz0, hc0⟩ | ⟨b, c, cap', hb0, hb, rfl, hcs, hcap', hlen', hget⟩
 ·obtain rfl : rows = [] := List.eq_nil_of_length_eq_zero hz0
  refine Avf (P := P) hu hs hz hzc hi hby hby0 (Akr.nil H e sz) (Hp.le_refl H) (m := m) hfn id hcell hw (by simp at hn; omega) ty cb K E (fun v' H1 H2 hr hl => ?_)
  have hle : H.le H2 := fun x u hx => hl _ _ (hr.le _ _ hx)
  rcases hr with ⟨_, hn0, _⟩ | ⟨b', c', cap'', hb', rfl, rfl, hs', hl', hn', hg'⟩
  ·simp at hn0; exact absurd hn0 hm
  ·refine h' _ H2 ⟨⟨fun _ _ h => (by cases h), .inr ⟨b', c', cap'', rfl, hl _ _ (by rw [Axy, if_pos rfl]), ?_, hs', ?_, ?_, ?_⟩⟩, hro⟩ (fun x u hx _ => hle _ _ hx) fun x hx => ?_
   ·simp only [List.nil_append, Nat.zero_add]; rw [hl2]
   ·simpa [hl2] using hn'
   ·simpa [hl2] using hl'
   ·intro i u hi; exact hg' i u (by simpa using hi)
   ·simp only [rowB, Option.some.injEq] at hx
    subst hx
    exact .inr hb'
 ·have hgb : gb ≠ b := fun e => hsep (fun h => by rw [h] at hl2; exact hm hl2) gb go rfl (by rw [e]; rfl)
  have hD : (fun x => if x = b then none else H x : Hp) b = none := by simp
  have hH : H = Hp.set (fun x => if x = b then none else H x) b (.cells c e (0, 0)) := by
   funext x
   unfold Hp.set
   by_cases e : x = b
   ·subst e; simp [hb]
   ·simp [e]
  refine Avf (P := P) hu hs hz hzc hi hby hby0 (H₀ := fun x => if x = b then none else H x) (H := H) (n := rows.length) (cs := rows.flatMap id) (.inr ⟨b, c, cap', hD, hH, rfl, hcs, hlen', hcap', hget⟩) (Hp.le_refl H) (m := m) hfn (fun hx => by simpa [hgb] using hx) hcell hw (by omega) ty cb K E (fun v' H1 H2 hr hl => ?_)
  have hkeep : ∀ x u, x ≠ b -> H x = some u -> H2 x = some u := fun x u hn hx => hl _ _ (hr.le _ _ (by simp only [hn, if_false]; exact hx))
  rcases hr with ⟨_, hn0, _⟩ | ⟨b', c', cap'', hb', rfl, rfl, hs', hl', hn', hg'⟩
  ·exact absurd hn0 (by omega)
  ·refine h' _ H2 ⟨⟨fun _ _ h => (by cases h), .inr ⟨b', c', cap'', rfl, hl _ _ (by rw [Axy, if_pos rfl]), by rw [hlen], hs', by rw [<- hlen]; exact hn', by rw [hfl, <- hlen]; exact hl', fun i u hi => hg' i u (by rw [<- hfl]; exact hi)⟩⟩, hro⟩ (fun x u hx ho => hkeep x _ (fun e => ho (by rw [e]; rfl)) hx) fun x hx => ?_
   simp only [rowB, Option.some.injEq] at hx
   subst hx
   by_cases e : b' = b
   ·exact .inl (by rw [e]; rfl)
   ·simp only [e, if_false] at hb'; exact .inr hb'
theorem range0 (f : Nat -> Value) (k : Nat) : (Array.range (0 * k)).map f = #[] := by simp
theorem RowG.new0 {e : TypeId} {sz : Nat} {H : Hp} {b : Nat} (h : H b = some (true, .cells #[] e (0, 0))) : RowG e sz H (.slice (some ⟨b, 0, none⟩) 0 0) [] :=
 ⟨⟨(fun _ _ h => by cases h), .inr ⟨b, #[], 0, rfl, h, rfl, by simp, Nat.le_refl _, by simp, fun i u hi => by simp at hi⟩⟩, (fun _ h => by cases h)⟩
theorem slG_one {e : TypeId} {sz : Nat} {H : Hp} {g : Nat} {ws : List Value} (hw : ws.length = sz) (h : H g = some (true, .cells ws.toArray e (0, 0))) : SlG e sz H (.slice (some ⟨g, 0, none⟩) 1 1) [ws] := by
 refine ⟨_, 1, rfl, Nat.le_refl _, fun i r hi => ?_⟩
 have hi0 : i = 0 := by have := (List.getElem?_eq_some_iff.1 hi).1; simp only [List.length_singleton] at this; omega
 subst hi0
 simp only [List.getElem?_cons_zero, Option.some.injEq] at hi
 subst hi
 refine ⟨g, 0, true, _, _, rfl, h, by simp [hw], hw, ?_⟩
 simp [List.take_of_length_le (Nat.le_of_eq hw)]
theorem SlN.one {ns : List Ns} : ∀ r ∈ ns.map Bj4, ∀ u ∈ r, one u = true := fun r hr u hu => by
 obtain ⟨d, _, rfl⟩ := List.mem_map.1 hr
 simp only [Bj4, List.mem_cons, List.not_mem_nil, or_false] at hu
 rcases hu with rfl | rfl | rfl <;> rfl
end Go.Proofs.YtkenloilljeliaaGreatDoor
end
section
namespace Go.X
open Go
section
variable {P : Program} {main : Md} {lp : Option Nat} {Q : Exit -> Act -> Hp -> Prop} {l : List Oper} {n : Nat} {e0 : Nat -> Value} {ds : List Deferred} {Φ : Nat -> Value -> Hp -> Prop} {H0 : Hp}
def depB (l : List Oper) (i k t : Nat) : Bool := match l[k]? with
 | none => false
 | some o => o.dst == some t && k != i && (waitsFor l.toArray i).getD k false
def nodB (l : List Oper) (t : Nat) : Bool := l.all fun o => o.dst != some t
def growG (P : Program) (main : Md) (lp : Option Nat) (Q : Exit -> Act -> Hp -> Prop) (l : List Oper) (n : Nat) (e0 : Nat -> Value) (ds : List Deferred) (Φ : Nat -> Value -> Hp -> Prop) (H0 : Hp) (i : Nat) (o : Oper) (K : (Nat -> Value) -> Hp -> Act -> Hp -> Prop) : Prop :=
 ∀ e H, H0.le H -> (∀ t, nodB l t = true -> e t = e0 t) -> (∀ k t, depB l i k t = true -> Φ k (e t) H) -> fine lp o = true /\ opX P main lp o (act n e ds) H (K e H) Q
def growOK (l : List Oper) (n : Nat) : Bool :=
 (l.length != 0) && (List.range l.length).all fun i => match l[i]? with
 | none => true
 | some o => o.guard.isNone && (match o.dst with | none => true | some t => decide (t < n)) && (o.after.all fun e => !(Region.binds .any e) || decide (e.on < i)) && (i + 1 == l.length || (waitsFor l.toArray (l.length - 1)).getD i false) &&
  (List.range l.length).all fun k => k == i || (match l[k]? with | none => true | some o' => o.dst.isNone || o'.dst != o.dst)
structure GrowOK (l : List Oper) (n : Nat) : Prop where
 ne : l.length ≠ 0
 guard : ∀ (i : Nat) (o : Oper), l[i]? = some o -> o.guard = none
 dst : ∀ (i : Nat) (o : Oper) (t : Tmp), l[i]? = some o -> o.dst = some t -> t < n
 aft : ∀ (i : Nat) (o : Oper), l[i]? = some o -> ∀ e ∈ o.after, Region.binds .any e = true -> e.on < i
 last : ∀ i, i + 1 < l.length -> (waitsFor l.toArray (l.length - 1)).getD i false = true
 apart : ∀ (i k : Nat) (o o' : Oper) (t : Tmp), l[i]? = some o -> l[k]? = some o' -> k ≠ i -> o.dst = some t -> o'.dst ≠ some t
theorem growOK_spec (h : growOK l n = true) : GrowOK l n := by
 unfold growOK at h
 simp only [Bool.and_eq_true, bne_iff_ne, ne_eq] at h
 obtain ⟨h0, h⟩ := h
 have h1 : ∀ (i : Nat) (o : Oper), l[i]? = some o -> _ := fun i o hi => by
  have := List.all_eq_true.1 h i (List.mem_range.2 (List.getElem?_eq_some_iff.1 hi).1)
  rw [hi] at this
  simp only [Bool.and_eq_true] at this
  exact this
 refine ⟨h0, fun i o hi => by simpa using (h1 i o hi).1.1.1.1, fun i o t hi hd => ?_, fun i o hi e he hb => ?_, fun i hi => ?_, fun i k o o' t hi hk hne hd hd' => ?_⟩
 ·have := (h1 i o hi).1.1.1.2
  rw [hd] at this
  simpa using this
 ·have := (h1 i o hi).1.1.2
  rw [Array.all_eq_true_iff_forall_mem] at this
  have := this e he
  rw [hb] at this
  simpa using this
 ·have := (h1 i _ (List.getElem?_eq_getElem (by omega))).1.2
  simp only [Bool.or_eq_true, beq_iff_eq] at this
  exact this.resolve_left (by omega)
 ·have := List.all_eq_true.1 (h1 i o hi).2 k (List.mem_range.2 (List.getElem?_eq_some_iff.1 hk).1)
  rw [hk, hd] at this
  simp [hne, hd'] at this
structure GrowI (l : List Oper) (n : Nat) (e0 : Nat -> Value) (ds : List Deferred) (Φ : Nat -> Value -> Hp -> Prop) (H0 : Hp) (listed : Array Bool) (a : Act) (H : Hp) : Prop where
 le : H0.le H
 env : ∃ e, a = act n e ds /\ (∀ t, nodB l t = true -> e t = e0 t) /\ ∀ (k : Nat) (o : Oper) (t : Tmp), l[k]? = some o -> o.dst = some t -> listed.getD k false = true -> Φ k (e t) H
theorem growG.num {i : Nat} {o : Oper} {K : (Nat -> Value) -> Hp -> Act -> Hp -> Prop} (h : growG P main lp Q l n e0 ds Φ H0 i o K) (hi : l[i]? = some o) (hg : o.guard = none) {listed : Array Bool} (hc : Closed l.toArray listed) (hr : i ∈ Region.ready .any l.toArray listed) {e : Nat -> Value} {H : Hp} (hle : H0.le H) (he : ∀ t, nodB l t = true -> e t = e0 t) (hf : ∀ (k : Nat) (o : Oper) (t : Tmp), l[k]? = some o -> o.dst = some t -> listed.getD k false = true -> Φ k (e t) H) :
  numX P main lp l.toArray i Q (K e H) (act n e ds) H := by
 rw [Awo]
 have hw : Region.wanted o (yielded l.toArray (act n e ds).tmps) = true := by unfold Region.wanted; rw [hg]
 simp only [List.getElem?_toArray, hi, hw, if_true]
 refine h e H hle he fun k t hk => ?_
 unfold depB at hk
 cases ho : l[k]? with
 | none => rw [ho] at hk; cases hk
 | some ok =>
  rw [ho] at hk
  simp only [Bool.and_eq_true, beq_iff_eq, bne_iff_ne, ne_eq] at hk
  exact hf k ok t ho hk.1.1 (((Bxz hk.2).resolve_left hk.1.2).listed hc hr)
theorem grow_any (hst : ∀ k v H H', Φ k v H -> H.le H' -> Φ k v H') (ok : GrowOK l n)
  (hs : ∀ (i : Nat) (o : Oper), l[i]? = some o -> i + 1 < l.length -> growG P main lp Q l n e0 ds Φ H0 i o fun e H a' H' => H.le H' /\ ∃ v, a' = (act n e ds).put o.dst v /\ Φ i v H')
  (hl : ∀ o, l[l.length - 1]? = some o -> growG P main lp Q l n e0 ds Φ H0 (l.length - 1) o fun _ _ a' H' => Q .normal a' H') :
  ∀ (fuel : Nat) (listed : Array Bool) (a : Act) (H : Hp), listed.size = l.length -> listed.toList.count false <= fuel -> Closed l.toArray listed ->
   ((listed.getD (l.length - 1) false = false /\ GrowI l n e0 ds Φ H0 listed a H) ∨ ((∀ k, k < l.length -> listed.getD k false = true) /\ Q .normal a H)) -> anyX P main lp l.toArray Q (fun _ => True) fuel listed a H := by
 have hall : ∀ listed : Array Bool, (∀ k, k < l.length -> listed.getD k false = true) -> listed.size = l.length -> Region.ready .any l.toArray listed = [] := fun listed h hsz => by
  cases hr : Region.ready .any l.toArray listed with
  | nil => rfl
  | cons i r =>
   obtain ⟨h1, o, ho, _⟩ := mem_ready.1 (show i ∈ Region.ready .any l.toArray listed by rw [hr]; exact List.mem_cons_self)
   rw [List.getElem?_toArray] at ho
   have hlt := (List.getElem?_eq_some_iff.1 ho).1
   have := h i hlt
   simp [Array.getD, hsz, hlt] at h1 this
   rw [this] at h1
   cases h1
 have hlive : ∀ listed : Array Bool, listed.size = l.length -> listed.getD (l.length - 1) false = false -> Region.ready .any l.toArray listed ≠ [] := fun listed hsz hlast => by
  have key : ∀ m i, i < m -> i < l.length -> listed.getD i false = false -> ∃ j, j ∈ Region.ready .any l.toArray listed := by
   intro m
   induction m with
   | zero => intro i hi; omega
   | succ m ih =>
    intro i hi hil hun
    by_cases hex : ∃ j, j < i /\ listed.getD j false = false
    ·obtain ⟨j, hj, hju⟩ := hex
     exact ih j (by omega) (by omega) hju
    ·refine ⟨i, mem_ready.2 ⟨?_, l[i], by simp [hil], fun e he hb => ?_⟩⟩
     ·simpa [Array.getD, hsz, hil] using hun
     ·have := ok.aft i _ (List.getElem?_eq_getElem hil) e he hb
      cases hq : listed.getD e.on false with
      | true => rfl
      | false => exact absurd ⟨_, this, hq⟩ hex
  obtain ⟨j, hj⟩ := key l.length (l.length - 1) (by have := ok.ne; omega) (by have := ok.ne; omega) hlast
  intro h0
  rw [h0] at hj
  cases hj
 intro fuel
 induction fuel with
 | zero =>
  intro listed a H hsz hcnt hcl hI
  rcases hI with ⟨hlast, _⟩ | ⟨h, hq⟩
  ·exfalso
   have h0 : l.length - 1 < listed.toList.length := by have := ok.ne; simp [hsz]; omega
   have h1 : false ∈ listed.toList := by
    have h2 : listed.toList[l.length - 1] = false := by
     have h3 : l.length - 1 < listed.size := by simpa using h0
     simpa [Array.getD, h3] using hlast
    rw [<- h2]
    exact List.getElem_mem h0
   have := List.count_pos_iff.2 h1
   omega
  ·exact ⟨hall listed h hsz, hq⟩
 | succ fuel ih =>
  intro listed a H hsz hcnt hcl hI
  rcases hI with ⟨hlast, hG⟩ | ⟨h, hq⟩
  ·refine ⟨fun h0 => absurd h0 (hlive listed hsz hlast), fun i hi => ?_⟩
   obtain ⟨h1, o, ho, hdeps⟩ := mem_ready.1 hi
   rw [List.getElem?_toArray] at ho
   have hlt := (List.getElem?_eq_some_iff.1 ho).1
   have hsz' : (listed.setIfInBounds i true).size = l.length := by simp [hsz]
   have hcnt' : (listed.setIfInBounds i true).toList.count false <= fuel := by
    have h2 : i < listed.toList.length := by simpa [hsz] using hlt
    have h3 : listed.toList[i] = false := by
     have h4 : i < listed.size := by simpa using h2
     simpa [Array.getD, h4] using h1
    rw [Array.toList_setIfInBounds, List.count_set h2, h3]
    simp only [beq_self_eq_true, if_true]
    have := List.count_pos_iff.2 (show false ∈ listed.toList by rw [<- h3]; exact List.getElem_mem h2)
    simp only [Bool.true_eq_false, beq_iff_eq, if_false, Nat.add_zero]
    omega
   obtain ⟨hle, e, rfl, he, hf⟩ := hG
   by_cases hil : i + 1 < l.length
   ·refine Axz (fun a' H' h' => ⟨trivial, ih _ a' H' hsz' hcnt' (hcl.set hi) (.inl ⟨?_, ?_⟩)⟩) ((hs i o ho hil).num ho (ok.guard i o ho) hcl hi hle he hf)
    ·rw [getD_set_ne false (by omega)]
     exact hlast
    ·obtain ⟨hle', v, rfl, hv⟩ := h'
     refine ⟨fun x u hx => hle' _ _ (hle _ _ hx), ?_⟩
     cases hd : o.dst with
     | none =>
      refine ⟨e, rfl, he, fun k ok' t hk hdk hlk => ?_⟩
      by_cases hki : k = i
      ·subst hki
       rw [ho] at hk
       cases hk
       rw [hd] at hdk
       cases hdk
      ·rw [getD_set_ne false (Ne.symm hki)] at hlk
       exact hst _ _ _ _ (hf k ok' t hk hdk hlk) hle'
     | some t0 =>
      refine ⟨upd e t0 v, by rw [Aq3 (ok.dst i o t0 ho hd)], fun t ht => ?_, fun k ok' t hk hdk hlk => ?_⟩
      ·have hne : t ≠ t0 := by
        rintro rfl
        have := List.all_eq_true.1 ht o (List.mem_of_getElem? ho)
        simp [hd] at this
       rw [Axk, if_neg hne]
       exact he t ht
      ·by_cases hki : k = i
       ·subst hki
        rw [ho] at hk
        cases hk
        rw [hd] at hdk
        cases hdk
        rw [Axk, if_pos rfl]
        exact hv
       ·rw [getD_set_ne false (Ne.symm hki)] at hlk
        have hne : t ≠ t0 := by
         rintro rfl
         exact ok.apart i k o ok' t ho hk hki hd hdk
        rw [Axk, if_neg hne]
        exact hst _ _ _ _ (hf k ok' t hk hdk hlk) hle'
   ·obtain rfl : i = l.length - 1 := by omega
    refine Axz (fun a' H' h' => ⟨trivial, ih _ a' H' hsz' hcnt' (hcl.set hi) (.inr ⟨fun k hk => ?_, h'⟩)⟩) ((hl o ho).num ho (ok.guard _ o ho) hcl hi hle he hf)
    by_cases hkl : k = l.length - 1
    ·subst hkl
     simp [Array.getD, hsz, hk]
    ·rw [getD_set_ne false (Ne.symm hkl)]
     exact ((Bxz (ok.last k (by omega))).resolve_left hkl).listed hcl hi
  ·refine ⟨fun _ => hq, fun i hi => ?_⟩
   rw [hall listed h hsz] at hi
   cases hi
def growAll (P : Program) (main : Md) (lp : Option Nat) (Q : Exit -> Act -> Hp -> Prop) (l : List Oper) (n : Nat) (e0 : Nat -> Value) (ds : List Deferred) (Φ : Nat -> Value -> Hp -> Prop) (H0 : Hp) : List Oper -> Nat -> Prop
 | [], _ => True
 | [o], i => growG P main lp Q l n e0 ds Φ H0 i o fun _ _ a' H' => Q .normal a' H'
 | o :: o' :: r, i => growG P main lp Q l n e0 ds Φ H0 i o (fun e H a' H' => H.le H' /\ ∃ v, a' = (act n e ds).put o.dst v /\ Φ i v H') /\ growAll P main lp Q l n e0 ds Φ H0 (o' :: r) (i + 1)
theorem growAll_cons {o o' : Oper} {r : List Oper} {i : Nat} (h : growG P main lp Q l n e0 ds Φ H0 i o (fun e H a' H' => H.le H' /\ ∃ v, a' = (act n e ds).put o.dst v /\ Φ i v H')) (h' : growAll P main lp Q l n e0 ds Φ H0 (o' :: r) (i + 1)) : growAll P main lp Q l n e0 ds Φ H0 (o :: o' :: r) i := ⟨h, h'⟩
theorem growAll_one {o : Oper} {i : Nat} (h : growG P main lp Q l n e0 ds Φ H0 i o fun _ _ a' H' => Q .normal a' H') : growAll P main lp Q l n e0 ds Φ H0 [o] i := h
theorem growAll_get : ∀ (r : List Oper) (s : Nat), growAll P main lp Q l n e0 ds Φ H0 r s -> (∀ (i : Nat) (o : Oper), r[i]? = some o -> i + 1 < r.length -> growG P main lp Q l n e0 ds Φ H0 (s + i) o fun e H a' H' => H.le H' /\ ∃ v, a' = (act n e ds).put o.dst v /\ Φ (s + i) v H') /\
  ∀ o, r[r.length - 1]? = some o -> growG P main lp Q l n e0 ds Φ H0 (s + (r.length - 1)) o fun _ _ a' H' => Q .normal a' H'
 | [], _, _ => ⟨fun i o hi => by simp at hi, fun o hi => by simp at hi⟩
 | [o], s, h => ⟨fun i o hi hl => by simp at hl, fun o' ho => by
   simp at ho
   subst ho
   exact h⟩
 | o :: o' :: r, s, h => by
  have ih := growAll_get (o' :: r) (s + 1) h.2
  refine ⟨fun i x hi hl => ?_, fun x hx => ?_⟩
  ·cases i with
   | zero =>
    simp only [List.getElem?_cons_zero, Option.some.injEq] at hi
    subst hi
    exact h.1
   | succ i =>
    have := ih.1 i x (by simpa using hi) (by simpa using hl)
    rw [show s + (i + 1) = s + 1 + i by omega]
    exact this
  ·have := ih.2 x (by simpa using hx)
   rw [show s + ((o :: o' :: r).length - 1) = s + 1 + ((o' :: r).length - 1) by simp; omega]
   exact this
theorem wpX_grow {id : Nat} (Φ : Nat -> Value -> Hp -> Prop) (hm : P.follows .mixedOrders = true) (hok : growOK l n = true) (hst : ∀ k v H H', Φ k v H -> H.le H' -> Φ k v H')
  (h : growAll P main lp Q l n e0 ds Φ H0 l 0) : wpX P main lp (.region id l.toArray true) Q (act n e0 ds) H0 := by
 have ok := growOK_spec hok
 have hg := growAll_get l 0 h
 refine Bv9 (fun _ => True) hm (grow_any hst ok (fun i o hi hl => by simpa using hg.1 i o hi hl) (fun o ho => by simpa using hg.2 o ho) _ _ _ _ ?_ ?_ .start (.inl ⟨?_, Hp.le_refl _, e0, rfl, fun _ _ => rfl, fun k o t hk hd hl => ?_⟩))
 ·simp
 ·simp
 ·simp [Array.getD]
 ·exfalso
  by_cases hk2 : k < l.length <;> simp [Array.getD, hk2] at hl
theorem wpX_gstmt {id : Nat} {y : Code} (Φ : Nat -> Value -> Hp -> Prop) (hm : P.follows .mixedOrders = true) (hok : growOK l n = true) (hst : ∀ k v H H', Φ k v H -> H.le H' -> Φ k v H')
  (h : ∀ K : Act -> Hp -> Prop, (∀ a' H', wpX P main lp y Q a' H' -> K a' H') -> growAll P main lp (only K) l n e0 ds Φ H0 l 0) : wpX P main lp (.seq (.region id l.toArray true) y) Q (act n e0 ds) H0 := by
 refine Axq ?_
 refine Az9 (Q := only fun a' H' => wpX P main lp y Q a' H') (wpX_grow Φ hm hok hst (h _ fun _ _ h => h)) fun e a H q => ?_
 cases e <;> first | exact q | exact q.elim
end
end Go.X
end
section
namespace Go.Proofs.YtkenloilljeliaaGreatDoor
open Go Go.X
def y23_152 := And.intro (fun H => Aqv (H := H) (P := Tryz.prog) (h := Tryz.zeroValue26)) (And.intro (fun H => Aqd (H := H) Tryz.underlying26 (i := 0) rfl (off := 0) rfl Tryz.sizeOf3) (And.intro (fun H => Aqf (H := H) Tryz.underlying3 rfl) (And.intro (fun H => Aqd (H := H) Tryz.underlying26 (i := 1) rfl (off := 1) rfl Tryz.sizeOf23) (And.intro (fun H => Aqf (H := H) Tryz.underlying23 rfl) (And.intro (fun H => Aqd (H := H) Tryz.underlying26 (i := 2) rfl (off := 2) rfl Tryz.sizeOf22) (And.intro (fun H => Aqf (H := H) Tryz.underlying22 rfl) (And.intro @Djp (And.intro (fun H => Aqd (H := H) Tryz.underlying26 (i := 3) rfl (off := 3) rfl Tryz.sizeOf24) (And.intro (fun H => Aqf (H := H) Tryz.underlying24 rfl) (And.intro @Bx1 (fun H => Aqr (H := H) Tryz.sizeOf26)))))))))))
theorem append_newG {P : Program} {tt e : TypeId} {sz : Nat} {z : Value} {inf : TypeInfo} (hsz : 0 < sz) (hu : P.underlying tt = some (.slice e)) (hs : ∀ w, (sizeOf e).run P w = .ok sz w) (hz : ∀ w, (zeroValue e).run P w = .ok z w) (hzc : z.cells.size = sz)
  (hi : ∀ w, (typeInfo e).run P w = .ok inf w) (hby : inf.bytes <= 1024) (hby0 : 0 < inf.bytes) {H : Hp} {b : Nat} (hb : H b = some (true, .cells #[] e (0, 0))) {rows : List (List Value)} {g : Option Addr} {m cap : Nat} (h2 : SlG e sz H (.slice g m cap) rows) (hn : m <= 1000000)
  (ty : TypeId) (cb : Array Bool) (K : Next -> Hp -> Prop) (E : Value -> Hp -> Prop) (h : ∀ v' H', RowG e sz H' v' rows -> H.le H' -> (∀ x, rowB v' = some x -> x = b ∨ H x = none) -> K (.value v') H') :
  wpS P (builtin .append #[tt, tt] ty cb #[.slice (some ⟨b, 0, none⟩) 0 0, .slice g m cap]) H K E := by
 have hl2 := h2.len.1
 refine Bwo hsz hu hs hz hzc hi hby hby0 ((RowG.new0 (sz := sz) hb).slG hsz) h2 (by omega) ty cb K E (fun e => h _ H (by rw [e]; exact RowG.new0 hb) (Hp.le_refl _) fun x hx => .inl ?_) fun b' C N hb' _ hN hC hall hget => h _ _ ⟨⟨(fun _ _ h => by cases h), .inr ⟨b', C, N, rfl, Axg, by rw [Nat.zero_add, hl2], hC, by omega, ?_, ?_⟩⟩, by simpa using hall⟩ (Hp.le_set hb') fun x hx => .inr ?_
 ·simp only [rowB, Option.some.injEq] at hx
  exact hx.symm
 ·have hr : ∀ r ∈ rows, (id r : List Value).length = sz := fun r hr => hall r (by simpa using hr)
  rw [Avs id sz rows hr]
 ·simpa using hget
 ·simp only [rowB, Option.some.injEq] at hx
  rw [<- hx]
  exact hb'
theorem rowX_G {H0 H : Hp} {v : Value} {xs : List Int} (h : RowX none H0 H v 3 (ints xs)) : RowG 3 1 H v (int1 xs) /\ ∀ x, rowB v = some x -> H0 x = none := by
 have hf : (int1 xs).flatMap id = ints xs := by
  unfold int1 ints
  clear h
  induction xs with
  | nil => rfl
  | cons x xs ih => simp_all [List.flatMap_cons]
 have hl : (int1 xs).length = xs.length := by simp [int1]
 have hr : ∀ r ∈ int1 xs, r.length = 1 := fun r hr => by
  obtain ⟨x, _, rfl⟩ := List.mem_map.1 hr
  rfl
 rcases h.2 with ⟨rfl, h0⟩ | ⟨b, c, cap, h0, hb, rfl, h1, h2, h3⟩
 ·have : xs = [] := by cases xs with | nil => rfl | cons x l => simp [ints] at h0
  subst this
  exact ⟨RowG.nil, fun x hx => by cases hx⟩
 ·have hi : (ints xs).length = xs.length := Aqz xs
  rw [hi] at h2 ⊢
  refine ⟨⟨⟨(fun _ _ h => by cases h), .inr ⟨b, c, cap, rfl, hb, by rw [hl], by omega, by omega, by rw [hf, hi, hl, Nat.mul_one], by rw [hf]; exact h3⟩⟩, hr⟩, fun x hx => ?_⟩
  simp only [rowB, Option.some.injEq] at hx
  rw [<- hx]
  exact h0
structure SmRow (H0 H : Hp) (dv hv nv : Value) (s : Sm) : Prop where
 dd : RowG 60 4 H dv (s.doors.map Bj0)
 hh : RowG 3 1 H hv (int1 s.hampers)
 nn : RowG 53 3 H nv (s.noses.map Bj4)
 dn : ∀ x, rowB dv = some x -> H0 x = none
 hn : ∀ x, rowB hv = some x -> H0 x = none
 nw : ∀ x, rowB nv = some x -> H0 x = none
theorem SmRow.smIn {H0 H : Hp} {dv hv nv : Value} {s : Sm} (h : SmRow H0 H dv hv nv s) : SmIn H dv hv nv s := ⟨h.dd.slG (by decide), SlG.ints1 (h.hh.slG (by decide)), h.nn.slG (by decide)⟩
theorem RowG.le {e : TypeId} {sz : Nat} {H H' : Hp} {v : Value} {rows : List (List Value)} (h : RowG e sz H v rows) (hl : H.le H') : RowG e sz H' v rows := h.keep fun x u _ hu => hl _ _ hu
theorem SmRow.le {H0 H H' : Hp} {dv hv nv : Value} {s : Sm} (h : SmRow H0 H dv hv nv s) (hl : H.le H') : SmRow H0 H' dv hv nv s := ⟨h.dd.le hl, h.hh.le hl, h.nn.le hl, h.dn, h.hn, h.nw⟩
theorem RowG.put {e : TypeId} {sz : Nat} {H : Hp} {v : Value} {rows : List (List Value)} (h : RowG e sz H v rows) {b : Nat} {q : Bool} {c : Array Value} {t : TypeId} {fr : Nat × Nat} (hb : H b = some (q, .cells c t fr)) (hne : e ≠ t) (o : Obj) : RowG e sz (H.set b o) v rows := h.keep fun x u hx hu => by
 rw [Aqw (h.bound hx hb fun c' hc => by simp only [Obj.cells.injEq] at hc; exact hne hc.2.1.symm)]
 exact hu
theorem SmRow.put {H0 H : Hp} {dv hv nv : Value} {s : Sm} (h : SmRow H0 H dv hv nv s) {b : Nat} {q : Bool} {c : Array Value} {fr : Nat × Nat} (hb : H b = some (q, .cells c 26 fr)) {o : Obj} : SmRow H0 (H.set b o) dv hv nv s := ⟨h.dd.put hb (by decide) o, h.hh.put hb (by decide) o, h.nn.put hb (by decide) o, h.dn, h.hn, h.nw⟩
theorem SmIn.lexT {H H' : Hp} {dv hv nv : Value} {s : Sm} (h : SmIn H dv hv nv s) {b k : Nat} (hT : TinI H b k) (hl : Lex (some b) H H') : SmIn H' dv hv nv s := ⟨SlG.lexT h.dd hT (by decide) hl, h.hh.lex hl hT, SlG.lexT h.nn hT (by decide) hl⟩
theorem SmRow.lexT {H0 H H' : Hp} {dv hv nv : Value} {s : Sm} (h : SmRow H0 H dv hv nv s) {b k : Nat} (hT : TinI H b k) (hl : Lex (some b) H H') : SmRow H0 H' dv hv nv s := ⟨h.dd.lexT hT (by decide) hl, h.hh.lexT hT (by decide) hl, h.nn.lexT hT (by decide) hl, h.dn, h.hn, h.nw⟩
def ksΦ (H0 : Hp) (sb : Nat) (s : Sm) (dv hv nv : Value) : Nat -> Value -> Hp -> Prop
 | 0 => fun v _ => v = .pointer (some ⟨sb, 0, none⟩)
 | 1 => fun v _ => v = .int .i64 s.places
 | 2 => fun v H => ∃ b, v = .slice (some ⟨b, 0, none⟩) 0 0 /\ H b = some (true, .cells #[] 60 (0, 0)) /\ H0 b = none
 | 3 => fun v _ => v = .pointer (some ⟨sb, 1, none⟩)
 | 4 => fun v _ => v = dv
 | 5 => fun v H => RowG 60 4 H v (s.doors.map Bj0) /\ ∀ x, rowB v = some x -> H0 x = none
 | 6 => fun v _ => v = .pointer (some ⟨sb, 2, none⟩)
 | 7 => fun v _ => v = hv
 | 8 => fun v H => RowG 3 1 H v (int1 s.hampers) /\ ∀ x, rowB v = some x -> H0 x = none
 | 9 => fun v H => ∃ b, v = .slice (some ⟨b, 0, none⟩) 0 0 /\ H b = some (true, .cells #[] 53 (0, 0)) /\ H0 b = none
 | 10 => fun v _ => v = .pointer (some ⟨sb, 3, none⟩)
 | 11 => fun v _ => v = nv
 | 12 => fun v H => RowG 53 3 H v (s.noses.map Bj4) /\ ∀ x, rowB v = some x -> H0 x = none
 | 13 => fun v H => ∃ dv' hv' nv', v = smV s.places dv' hv' nv' /\ SmRow H0 H dv' hv' nv' s
 | _ => fun _ _ => True
theorem ksΦ_le {H0 : Hp} {sb : Nat} {s : Sm} {dv hv nv : Value} : ∀ (k : Nat) (v : Value) (H H' : Hp), ksΦ H0 sb s dv hv nv k v H -> H.le H' -> ksΦ H0 sb s dv hv nv k v H'
 | 0, _, _, _, h, _ | 1, _, _, _, h, _ | 3, _, _, _, h, _ | 4, _, _, _, h, _ | 6, _, _, _, h, _ | 7, _, _, _, h, _ | 10, _, _, _, h, _ | 11, _, _, _, h, _ => h
 | 2, _, _, _, ⟨b, h1, h2, h3⟩, hl | 9, _, _, _, ⟨b, h1, h2, h3⟩, hl => ⟨b, h1, hl _ _ h2, h3⟩
 | 5, _, _, _, ⟨h1, h2⟩, hl | 8, _, _, _, ⟨h1, h2⟩, hl | 12, _, _, _, ⟨h1, h2⟩, hl => ⟨h1.le hl, h2⟩
 | 13, _, _, _, ⟨a, b, c, h1, h2⟩, hl => ⟨a, b, c, h1, h2.le hl⟩
 | _ + 14, _, _, _, _, _ => trivial
theorem keepSmell_spec (m : Md) (H : Hp) (s : Sm) (dv hv nv : Value) (hs : SmIn H dv hv nv s) (hl1 : s.doors.length <= 1000) (hl2 : s.hampers.length <= 1000) (hl3 : s.noses.length <= 1000) :
  FnX Tryz.prog m 23 #[smV s.places dv hv nv] H fun e H' => ∃ dv' hv' nv', e = .returned (smV s.places dv' hv' nv') /\ SmRow H H' dv' hv' nv' s /\ H.le H' := by
 obtain ⟨da, dc, ha, kc, na, nc, rfl, rfl, rfl, l1, l2, l3⟩ := hs.forms
 refine Aqm Tryz.func23 rfl Tryz.ntmps23 (by simp) ?_
 (refine @unH _ (zA y23_152 ?_); (repeat refine inC fun hc => ?_); try refine inK fun K hK => ?_)
 (intro sb hsb rb hrb; replace hrb : (Hp.set _ sb _) rb = none := hrb; generalize hG : Hp.set _ sb _ = H1 at hrb ⊢; have lH1 := Aqc hG hsb; have wsb := Aqb hG; clear hG; generalize hG : Hp.set _ rb _ = H2; have lH2 := Aqc hG hrb; have vrb := Aqb hG; have vsb := lH2 _ _ wsb; have nsbrb := Aqq wsb hrb; clear hG wsb)
 have lH := Hp.le_trans lH1 lH2
 refine hK _ _ ?_
 clear hK K
 (try refine @unH _ (zQ ?_))
 refine wpX_gstmt (ksΦ H sb s (.slice da s.doors.length dc) (.slice ha s.hampers.length kc) (.slice na s.noses.length nc)) (by kernel_rfl) (by kernel_rfl) ksΦ_le ?_; intro K hK
 (refine growAll_cons ?_ ?_; (focus (intro e HX hle he hd; have e1 : e 1 = .pointer (some ⟨sb, 0, none⟩) := he 1 (by kernel_rfl); clear he hd; refine ⟨by rfl, ?_⟩; (refine @unH _ ?_; refine zX y23_152 ?_); exact ⟨Hp.le_refl _, _, rfl, rfl⟩)))
 (refine growAll_cons ?_ ?_; (focus (intro e HX hle he hd; have vx := hle _ _ vsb; have e3 : e 3 = _ := hd 0 3 (by kernel_rfl); clear he hd; refine ⟨by rfl, ?_⟩; (refine @unH _ ?_; refine zX y23_152 ?_); exact ⟨Hp.le_refl _, _, rfl, rfl⟩)))
 refine growAll_cons ?_ ?_
 ·intro e HX hle he hd
  clear he hd
  refine ⟨by rfl, ?_⟩
  (refine @unH _ ?_; refine zX y23_152 ?_)
  intro b hb
  rw [range0]
  exact ⟨Hp.le_set hb, _, rfl, b, rfl, Axg, Hp.le_none (Hp.le_trans lH hle) hb⟩
 (refine growAll_cons ?_ ?_; (focus (intro e HX hle he hd; have e1 : e 1 = .pointer (some ⟨sb, 0, none⟩) := he 1 (by kernel_rfl); clear he hd; refine ⟨by rfl, ?_⟩; (refine @unH _ ?_; refine zX y23_152 ?_); exact ⟨Hp.le_refl _, _, rfl, rfl⟩)))
 (refine growAll_cons ?_ ?_; (focus (intro e HX hle he hd; have vx := hle _ _ vsb; have e6 : e 6 = _ := hd 3 6 (by kernel_rfl); clear he hd; refine ⟨by rfl, ?_⟩; (refine @unH _ ?_; refine zX y23_152 ?_); exact ⟨Hp.le_refl _, _, rfl, rfl⟩)))
 refine growAll_cons ?_ ?_
 ·intro e HX hle he hd
  obtain ⟨b, e5, vb, hb⟩ := hd 2 5 (by kernel_rfl)
  have e7 : e 7 = _ := hd 4 7 (by kernel_rfl)
  clear he hd
  refine ⟨by rfl, ?_⟩
  (refine @unH _ ?_; refine zX y23_152 ?_)
  refine append_newG (by decide) Tryz.underlying23 Tryz.sizeOf60 Tryz.zeroValue60 rfl Tryz.typeInfo60 (by decide) (by decide) vb (SlG.le hs.dd (Hp.le_trans lH hle)) (by omega) _ _ _ _ (fun v' H' hr hl hn => ?_)
  (refine @unH _ ?_; refine zX y23_152 ?_)
  exact ⟨_, rfl, hr, fun x hx => (hn x hx).elim (fun h => by rw [h]; exact hb) fun h => Hp.le_none (Hp.le_trans lH hle) h⟩
 (refine growAll_cons ?_ ?_; (focus (intro e HX hle he hd; have e1 : e 1 = .pointer (some ⟨sb, 0, none⟩) := he 1 (by kernel_rfl); clear he hd; refine ⟨by rfl, ?_⟩; (refine @unH _ ?_; refine zX y23_152 ?_); exact ⟨Hp.le_refl _, _, rfl, rfl⟩)))
 (refine growAll_cons ?_ ?_; (focus (intro e HX hle he hd; have vx := hle _ _ vsb; have e9 : e 9 = _ := hd 6 9 (by kernel_rfl); clear he hd; refine ⟨by rfl, ?_⟩; (refine @unH _ ?_; refine zX y23_152 ?_); exact ⟨Hp.le_refl _, _, rfl, rfl⟩)))
 refine growAll_cons ?_ ?_
 ·intro e HX hle he hd
  have e10 : e 10 = _ := hd 7 10 (by kernel_rfl)
  clear he hd
  refine ⟨by rfl, ?_⟩
  (refine @unH _ ?_; refine zX y23_152 ?_)
  refine (Cka m HX _ s.hampers (hs.hh.le (Hp.le_trans lH hle)) (by omega)).runs.mono ?_
  rintro _ H' ⟨w, rfl, hr⟩
  have h2 := rowX_G hr
  simp -implicitDefEqProofs (disch := omega) only [Azw, Aq3, Aqn]
  exact ⟨fun x u hx => (by obtain ⟨v', g1, g2⟩ := hr.1 x u hx; rw [g1, g2 (fun h => by cases h)]), _, rfl, h2.1, fun x hx => Hp.le_none (Hp.le_trans lH hle) (h2.2 x hx)⟩
 refine growAll_cons ?_ ?_
 ·intro e HX hle he hd
  clear he hd
  refine ⟨by rfl, ?_⟩
  (refine @unH _ ?_; refine zX y23_152 ?_)
  intro b hb
  rw [range0]
  exact ⟨Hp.le_set hb, _, rfl, b, rfl, Axg, Hp.le_none (Hp.le_trans lH hle) hb⟩
 (refine growAll_cons ?_ ?_; (focus (intro e HX hle he hd; have e1 : e 1 = .pointer (some ⟨sb, 0, none⟩) := he 1 (by kernel_rfl); clear he hd; refine ⟨by rfl, ?_⟩; (refine @unH _ ?_; refine zX y23_152 ?_); exact ⟨Hp.le_refl _, _, rfl, rfl⟩)))
 (refine growAll_cons ?_ ?_; (focus (intro e HX hle he hd; have vx := hle _ _ vsb; have e13 : e 13 = _ := hd 10 13 (by kernel_rfl); clear he hd; refine ⟨by rfl, ?_⟩; (refine @unH _ ?_; refine zX y23_152 ?_); exact ⟨Hp.le_refl _, _, rfl, rfl⟩)))
 refine growAll_cons ?_ ?_
 ·intro e HX hle he hd
  obtain ⟨b, e12, vb, hb⟩ := hd 9 12 (by kernel_rfl)
  have e14 : e 14 = _ := hd 11 14 (by kernel_rfl)
  clear he hd
  refine ⟨by rfl, ?_⟩
  (refine @unH _ ?_; refine zX y23_152 ?_)
  refine append_newG (by decide) Tryz.underlying24 Tryz.sizeOf53 Tryz.zeroValue53 rfl Tryz.typeInfo53 (by decide) (by decide) vb (SlG.le hs.nn (Hp.le_trans lH hle)) (by omega) _ _ _ _ (fun v' H' hr hl hn => ?_)
  (refine @unH _ ?_; refine zX y23_152 ?_)
  exact ⟨_, rfl, hr, fun x hx => (hn x hx).elim (fun h => by rw [h]; exact hb) fun h => Hp.le_none (Hp.le_trans lH hle) h⟩
 refine growAll_cons ?_ ?_
 ·intro e HX hle he hd
  have e4 : e 4 = _ := hd 1 4 (by kernel_rfl)
  obtain ⟨g1, g2⟩ : RowG _ _ _ (e 8) _ /\ _ := hd 5 8 (by kernel_rfl)
  obtain ⟨g3, g4⟩ : RowG _ _ _ (e 11) _ /\ _ := hd 8 11 (by kernel_rfl)
  obtain ⟨g5, g6⟩ : RowG _ _ _ (e 15) _ /\ _ := hd 12 15 (by kernel_rfl)
  clear he hd
  generalize h8 : e 8 = v8 at *
  generalize h11 : e 11 = v11 at *
  generalize h15 : e 15 = v15 at *
  have hg : SmRow H HX v8 v11 v15 s := ⟨g1, g3, g5, g2, g4, g6⟩
  obtain ⟨_, _, rfl⟩ := g1.form
  obtain ⟨_, _, rfl⟩ := g3.form
  obtain ⟨_, _, rfl⟩ := g5.form
  replace hg : Aqk _ := hg
  clear g1 g2 g3 g4 g5 g6
  refine ⟨by rfl, ?_⟩
  (refine @unH _ ?_; refine zX y23_152 ?_)
  exact ⟨Hp.le_refl _, _, rfl, _, _, _, rfl, hg⟩
 refine growAll_one ?_
 intro e HX hle he hd
 obtain ⟨dv', hv', nv', e16, hg⟩ := hd 13 16 (by kernel_rfl)
 have e2 : e 2 = .pointer (some ⟨rb, 0, none⟩) := he 2 (by kernel_rfl)
 have vr := hle _ _ vrb
 clear he hd
 obtain ⟨_, _, rfl⟩ := hg.dd.form
 obtain ⟨_, _, rfl⟩ := hg.hh.form
 obtain ⟨_, _, rfl⟩ := hg.nn.form
 replace hg : Aqk _ := hg
 refine ⟨by rfl, ?_⟩
 (refine @unH _ ?_; refine zX y23_152 ?_)
 refine hK _ _ ?_
 clear hK K
 (try refine @unH _ (zQ ?_))
 (refine Axt ?_; (try simp only [nq, ↓reduceIte, Nat.reduceEqDiff]); rw [Aq7, Ax7 Tryz.results23 (by decide) (b := rb) (o := 0) ?hcell Tryz.underlying26 rfl Tryz.sizeOf26]; (case hcell => exact e2); simp -implicitDefEqProofs (disch := first | omega | (simp only [qd] <;> omega)) only [xq, ↓xp, qc, Nat.reduceAdd, List.range, List.range.loop, fine, Nat.reduceEqDiff, ↓reduceIte, yielded, reduceCtorEq, Nat.reduceLT, Nat.reduceMul, Nat.reduceSub, one, Nat.reduceLeDiff, Aqi, y23_152, Axm, List.extract_toArray])
 have hg' : SmRow H HX _ _ _ s := hg
 exact ⟨_, _, _, rfl, hg'.put vr, Ajb (Hp.le_trans lH hle) (Hp.le_none lH1 hrb)⟩
theorem RowG.put1 {e : TypeId} {sz : Nat} (hsz : 0 < sz) {H : Hp} {b n cap : Nat} {rows : List (List Value)} (h : RowG e sz H (.slice (some ⟨b, 0, none⟩) n cap) rows) {c : Array Value} {q : Bool} {fr : Nat × Nat} (hb : H b = some (q, .cells c e fr)) {i k : Nat} {r : List Value} (hr : rows[i]? = some r) (hk : k < sz) (u : Value) :
  RowG e sz (H.set b (.cells (c.setIfInBounds (i * sz + k) u) e (0, 0))) (.slice (some ⟨b, 0, none⟩) n cap) (rows.set i (r.set k u)) := by
 rcases h.1.2 with ⟨h0, _⟩ | ⟨b', c', cap', h0, hb', hv, h1, h2, h3, h4⟩
 ·cases h0
 cases hv
 rw [hb] at hb'
 cases hb'
 have hi := (List.getElem?_eq_some_iff.1 hr).1
 have hrl := h.2 r (List.mem_of_getElem? hr)
 have hall : ∀ r' ∈ rows.set i (r.set k u), (id r' : List Value).length = sz := fun r' hm => by
  rcases List.mem_or_eq_of_mem_set hm with hm | hm
  ·exact h.2 r' hm
  ·rw [hm]; simp [hrl]
 refine ⟨⟨(fun _ _ h => by cases h), .inr ⟨b, _, cap, rfl, Axg, by rw [List.length_set], by rw [Array.size_setIfInBounds]; exact h1, by rw [List.length_set]; exact h2, by rw [Avs id sz _ hall], fun j w hj => ?_⟩⟩, hall⟩
 have h5 := h4 j
 rw [Ayt id sz hsz rows h.2] at h5
 rw [Ayt id sz hsz _ hall, List.getElem?_set] at hj
 have hdm := Nat.div_add_mod j sz
 rw [Nat.mul_comm] at hdm
 by_cases hq : i = j / sz
 ·rw [if_pos hq, if_pos hi] at hj
  simp only [id, Option.bind_some, List.getElem?_set] at hj
  by_cases hk' : k = j % sz
  ·rw [if_pos hk', if_pos (by omega)] at hj
   have hj2 : i * sz + k = j := by rw [hq, hk']; exact hdm
   have hjc : j < c.size := by
    have h6 : r[k]? = some (r[k]'(by omega)) := List.getElem?_eq_getElem _
    have h7 := h5 (r[k]'(by omega)) (by rw [<- hq, hr, <- hk']; exact h6)
    exact (Array.getElem?_eq_some_iff.1 h7).1
   rw [hj2, Array.getElem?_setIfInBounds_self_of_lt hjc]
   exact hj
  ·rw [if_neg hk'] at hj
   rw [Array.getElem?_setIfInBounds_ne (fun e => hk' (by rw [<- e, Nat.mul_comm, Nat.mul_add_mod, Nat.mod_eq_of_lt hk]))]
   exact h5 w (by rw [<- hq, hr]; simpa using hj)
 ·rw [if_neg hq] at hj
  rw [Array.getElem?_setIfInBounds_ne (fun e => hq (by rw [<- e, Nat.mul_comm, Nat.mul_add_div hsz, Nat.div_eq_of_lt hk, Nat.add_zero]))]
  exact h5 w hj
theorem RowG.ex {e : TypeId} {sz : Nat} {H : Hp} {v : Value} {rows : List (List Value)} (h : RowG e sz H v rows) {i : Nat} (hi : i < rows.length) : ∃ b c cap, v = .slice (some ⟨b, 0, none⟩) rows.length cap /\ H b = some (true, .cells c e (0, 0)) /\ rows.length <= cap /\ i * sz + sz <= c.size := by
 rcases h.1.2 with ⟨_, h0, _⟩ | ⟨b, c, cap, _, hb, hv, h1, h2, _⟩
 ·omega
 ·refine ⟨b, c, cap, hv, hb, h2, ?_⟩
  rw [h1, <- Nat.succ_mul]
  exact Nat.mul_le_mul_right _ (by omega)
def mixT {α : Type} (f g : α -> List Value) (l : List α) (i : Nat) : List (List Value) := (List.range l.length).map fun j => (l[j]?.map fun a => if j < i then g a else f a).getD []
theorem mixT_len {α : Type} (f g : α -> List Value) (l : List α) (i : Nat) : (mixT f g l i).length = l.length := by simp [mixT]
theorem mixT_at {α : Type} (f g : α -> List Value) {l : List α} {i j : Nat} {a : α} (h : l[j]? = some a) : (mixT f g l i)[j]? = some (if j < i then g a else f a) := by
 have hj := (List.getElem?_eq_some_iff.1 h).1
 simp [mixT, List.getElem?_map, List.getElem?_range hj, h]
theorem mixT_get {α : Type} (f g : α -> List Value) {l : List α} {i : Nat} {a : α} (h : l[i]? = some a) : (mixT f g l i)[i]? = some (f a) := by
 rw [mixT_at f g h, if_neg (Nat.lt_irrefl i)]
theorem mixT_set {α : Type} (f g : α -> List Value) {l : List α} {i : Nat} {a : α} (h : l[i]? = some a) : (mixT f g l i).set i (g a) = mixT f g l (i + 1) := by
 have hi := (List.getElem?_eq_some_iff.1 h).1
 refine List.ext_getElem? fun j => ?_
 rw [List.getElem?_set]
 by_cases hj : i = j
 ·subst hj
  rw [if_pos rfl, if_pos (by rw [mixT_len]; exact hi), mixT_at f g h, if_pos (by omega)]
 ·rw [if_neg hj]
  cases hl : l[j]? with
  | none =>
   have := List.getElem?_eq_none_iff.1 hl
   rw [List.getElem?_eq_none (by rw [mixT_len]; exact this), List.getElem?_eq_none (by rw [mixT_len]; exact this)]
  | some b =>
   rw [mixT_at f g hl, mixT_at f g hl]
   by_cases h1 : j < i
   ·rw [if_pos h1, if_pos (by omega)]
   ·rw [if_neg h1, if_neg (by omega)]
theorem mixT_0 {α : Type} (f g : α -> List Value) (l : List α) : mixT f g l 0 = l.map f := by
 refine List.ext_getElem? fun j => ?_
 cases hl : l[j]? with
 | none =>
  have := List.getElem?_eq_none_iff.1 hl
  rw [List.getElem?_eq_none (by rw [mixT_len]; exact this), List.getElem?_map, hl]
  rfl
 | some b => rw [mixT_at f g hl, if_neg (by omega), List.getElem?_map, hl]; rfl
theorem mixT_end {α : Type} (f g : α -> List Value) (l : List α) {i : Nat} (hi : l.length <= i) : mixT f g l i = l.map g := by
 refine List.ext_getElem? fun j => ?_
 cases hl : l[j]? with
 | none =>
  have := List.getElem?_eq_none_iff.1 hl
  rw [List.getElem?_eq_none (by rw [mixT_len]; exact this), List.getElem?_map, hl]
  rfl
 | some b =>
  have hj := (List.getElem?_eq_some_iff.1 hl).1
  rw [mixT_at f g hl, if_pos (by omega), List.getElem?_map, hl]; rfl
end Go.Proofs.YtkenloilljeliaaGreatDoor
end
