/- Texts LawB RidesG LawR BRides PBarrowRides SBarrowRides. -/
import Derived.Test.YtofmadjgbcopdaaGreatDoorJ10
import Derived.Test.YtofmadjgbcopdaaGreatDoorAFactA
import Derived.Test.YtofmadjgbcopdaaGreatDoorAFactB
import Derived.Test.YtofmadjgbcopdaaGreatDoorAFactC
set_option linter.defProp false
set_option linter.unusedSimpArgs false
set_option linter.unusedVariables false
set_option maxRecDepth 100000
set_option maxHeartbeats 2000000
section
namespace Go.Proofs.YtofmadjgbcopdaaGreatDoor
open Go Go.X
def laterB (by_ : Int) (bs bs' : List Int) : Prop := bs.length = bs'.length /\ ∀ i, i < bs.length -> (bs.getD i 0 = -1048576 /\ bs'.getD i 0 = -1048576) ∨ (-1000 <= bs.getD i 0 /\ bs'.getD i 0 = bs.getD i 0 + by_)
theorem laterB.pick {by_ : Int} {bs bs' : List Int} (h0 : 0 <= by_) (h : laterB by_ bs bs') : ∀ B, B <= bs.length -> pickB bs' B = pickB bs B
 | 0, _ => rfl
 | B + 1, hB => by
  unfold pickB
  have ih := h.pick h0 B (by omega)
  rw [ih]
  by_cases hB0 : B = 0
  ·rw [if_pos hB0, if_pos hB0]
  ·rw [if_neg hB0, if_neg hB0]
   have hp := pickB_lt bs B (by omega)
   have h1 := h.2 B (by omega)
   have h2 := h.2 (pickB bs B) (by omega)
   have e : bs'.getD B 0 < bs'.getD (pickB bs B) 0 ↔ bs.getD B 0 < bs.getD (pickB bs B) 0 := by omega
   by_cases hc : bs.getD B 0 < bs.getD (pickB bs B) 0
   ·rw [if_pos hc, if_pos (e.2 hc)]
   ·rw [if_neg hc, if_neg (mt e.1 hc)]
def RideV.later (r : RideV) (by_ : Int) : RideV := ⟨r.barrow, r.out + by_, r.back + by_⟩
end Go.Proofs.YtofmadjgbcopdaaGreatDoor
end
section
namespace Go.Proofs.YtofmadjgbcopdaaGreatDoor
open Go Go.X
theorem RidesIn.get {H : Hp} {a : Option Addr} {n cap : Nat} {rs : List RideV} (h : RidesIn H (.slice a n cap) rs) {i : Nat} {r : RideV} (hi : rs[i]? = some r) :
  ∃ (b : Nat) (p : Bool) (c : Array Value) (fr : Nat × Nat), a = some ⟨b, 0, none⟩ /\ H b = some (p, .cells c 61 fr) /\ c.extract (i * 3) (i * 3 + 3) = #[.int .i64 r.barrow, .int .i64 r.out, .int .i64 r.back] /\ i * 3 + 3 <= c.size /\
   c[i * 3]? = some (.int .i64 r.barrow) /\ c[i * 3 + 1]? = some (.int .i64 r.out) /\ c[i * 3 + 2]? = some (.int .i64 r.back) := by
 obtain ⟨a', cap', he, _, hg⟩ := h
 cases he
 obtain ⟨b, p, c, fr, e1, e2, e3, e4⟩ := hg i r hi
 have hk : ∀ k, k < 3 -> c[i * 3 + k]? = (#[Value.int .i64 r.barrow, .int .i64 r.out, .int .i64 r.back] : Array Value)[k]? := fun k hk => by
  rw [<- e3, Array.getElem?_extract]
  rw [if_pos (by omega)]
 exact ⟨b, p, c, fr, e1, e2, e3, e4, hk 0 (by omega), hk 1 (by omega), hk 2 (by omega)⟩
end Go.Proofs.YtofmadjgbcopdaaGreatDoor
end
section
namespace Go.Proofs.YtofmadjgbcopdaaGreatDoor
open Go Go.X
theorem pickB_first (bs : List Int) : ∀ B k, k < pickB bs B -> bs.getD (pickB bs B) 0 < bs.getD k 0
 | 0, k, h => by simp [pickB] at h
 | B + 1, k, h => by
  unfold pickB at h ⊢
  by_cases hB : B = 0
  ·rw [if_pos hB] at h; omega
  ·rw [if_neg hB] at h ⊢
   by_cases hc : bs.getD B 0 < bs.getD (pickB bs B) 0
   ·rw [if_pos hc] at h ⊢
    have := pickB_min bs B k h
    omega
   ·rw [if_neg hc] at h ⊢
    exact pickB_first bs B k h
def usedB (bs : List Int) (k : Nat) : Bool := decide (-1048576 < bs.getD k 0)
def backB (bs : List Int) (k : Nat) : Int := if -1048576 < bs.getD k 0 then bs.getD k 0 else 0
def usedL (bs : List Int) (B : Nat) : List Value := (List.range B).map fun k => .bool (usedB bs k)
def backL (bs : List Int) (B : Nat) : List Value := (List.range B).map fun k => .int .i64 (backB bs k)
theorem usedL_len (bs : List Int) (B : Nat) : (usedL bs B).length = B := by simp [usedL]
theorem backL_len (bs : List Int) (B : Nat) : (backL bs B).length = B := by simp [backL]
theorem usedL_get (bs : List Int) {B k : Nat} (h : k < B) : (usedL bs B)[k]? = some (.bool (usedB bs k)) := by simp [usedL, h]
theorem backL_get (bs : List Int) {B k : Nat} (h : k < B) : (backL bs B)[k]? = some (.int .i64 (backB bs k)) := by simp [backL, h]
theorem getD_set_ne (bs : List Int) {p k : Nat} (x : Int) (h : p ≠ k) : (bs.set p x).getD k 0 = bs.getD k 0 := by simp [List.getD, List.getElem?_set_ne h]
theorem usedL_set (bs : List Int) (B : Nat) {p : Nat} {x : Int} (hp : p < bs.length) (hx : -1048576 < x) : usedL (bs.set p x) B = (usedL bs B).set p (.bool true) := by
 apply List.ext_getElem?
 intro k
 by_cases hk : k < B
 ·rw [usedL_get _ hk]
  by_cases e : p = k
  ·subst e
   rw [List.getElem?_set_self (by rw [usedL_len]; exact hk)]
   simp [usedB, List.getD, hp, hx]
  ·rw [List.getElem?_set_ne e, usedL_get _ hk, usedB, usedB, getD_set_ne bs x e]
 ·rw [List.getElem?_eq_none (by rw [usedL_len]; omega), List.getElem?_eq_none (by rw [List.length_set, usedL_len]; omega)]
theorem backL_set (bs : List Int) (B : Nat) {p : Nat} {x : Int} (hp : p < bs.length) (hx : -1048576 < x) : backL (bs.set p x) B = (backL bs B).set p (.int .i64 x) := by
 apply List.ext_getElem?
 intro k
 by_cases hk : k < B
 ·rw [backL_get _ hk]
  by_cases e : p = k
  ·subst e
   rw [List.getElem?_set_self (by rw [backL_len]; exact hk)]
   simp [backB, List.getD, hp, hx]
  ·rw [List.getElem?_set_ne e, backL_get _ hk, backB, backB, getD_set_ne bs x e]
 ·rw [List.getElem?_eq_none (by rw [backL_len]; omega), List.getElem?_eq_none (by rw [List.length_set, backL_len]; omega)]
structure RideSeen (n : HN) (js : List Int) (mi : Int) (B : Nat) (bs bs' : List Int) (f m : Nat) (r : RideV) (p : Nat) (late : List Int) : Prop where
 pb : p < B
 pe : r.barrow = p
 back : r.back = r.out + mi
 used' : usedL bs' B = (usedL bs B).set p (.bool true)
 back' : backL bs' B = (backL bs B).set p (.int .i64 r.back)
 own : ∀ k, k < B -> (usedB bs k = false -> usedB bs p = false /\ p <= k) /\ (usedB bs k = true -> usedB bs p = true -> backB bs p < backB bs k ∨ (backB bs p = backB bs k /\ p <= k))
 late : ∀ j, j < m -> late[f + j]? = some (max 0 (r.back - n.due js (f + j)))
 free : usedB bs p = false -> r.out = n.due js (f + m - 1) - n.notice
 taken : usedB bs p = true -> r.out = max (n.due js (f + m - 1) - n.notice) (backB bs p)
 m1 : 1 <= m
 fm : f + m <= js.length
 lo : -100 <= r.out /\ r.out <= 1000
theorem ride_seen {n : HN} {js : List Int} {mi : Int} {pl : List Nat} (hx : ∀ x ∈ n.xs, 0 <= x /\ x <= 99) (n0 : 0 <= n.notice) (n30 : n.notice <= 30) (b1 : 1 <= n.barrows) (b4 : n.barrows <= 4) (h1 : 1 <= mi) (h2 : mi <= 20)
  (hp1 : ∀ m ∈ pl, 1 <= m) (hps : pl.sum = js.length) (h8 : js.length <= 8) {i : Nat} (hi : i < pl.length) :
  RideSeen n js mi n.barrows.toNat (dS n js mi pl i).1 (dS n js mi pl (i + 1)).1 (dS n js mi pl i).2.1 (pl.getD i 0) (rideF n js (dS n js mi pl i).1 (dS n js mi pl i).2.1 (pl.getD i 0) mi) (pickB (dS n js mi pl i).1 n.barrows.toNat) (lateG n js mi pl bs0 0) := by
 obtain ⟨i1, i2, i3, i4⟩ := dS_ok n js mi pl hx n0 b1 b4 h1 h2 i (by omega)
 have hpl8 := parts_len pl hp1
 have hpk := pickB_lt (dS n js mi pl i).1 n.barrows.toNat (by omega)
 have hg : pl.getD i 0 = pl[i] := by simp [List.getD, List.getElem?_eq_getElem hi]
 have hm1 := hp1 _ (List.getElem_mem hi)
 have hst := sum_take_succ hi
 have hdue : ∀ k, 0 <= n.due js k /\ n.due js k <= 99 := fun k => by
  unfold HN.due
  generalize (js.getD k 0).toNat = q
  rw [List.getD_eq_getElem?_getD]
  cases hq : n.xs[q]? with
  | none => simp
  | some x => exact hx x (List.mem_of_getElem? hq)
 have hd := hdue ((dS n js mi pl i).2.1 + pl.getD i 0 - 1)
 have hbp : -1048576 <= (dS n js mi pl i).1.getD (pickB (dS n js mi pl i).1 n.barrows.toNat) 0 /\ (dS n js mi pl i).1.getD (pickB (dS n js mi pl i).1 n.barrows.toNat) 0 <= 100 + 20 * i := by
  simp only [List.getD, List.getElem?_eq_getElem (show pickB (dS n js mi pl i).1 n.barrows.toNat < (dS n js mi pl i).1.length by omega), Option.getD_some]
  exact i2 _ (List.getElem_mem _)
 have hlow : ∀ k, k < n.barrows.toNat -> -1048576 <= (dS n js mi pl i).1.getD k 0 := fun k hk => by
  simp only [List.getD, List.getElem?_eq_getElem (show k < (dS n js mi pl i).1.length by omega), Option.getD_some]
  exact (i2 _ (List.getElem_mem _)).1
 have hback : -1048576 < (rideF n js (dS n js mi pl i).1 (dS n js mi pl i).2.1 (pl.getD i 0) mi).back := by
  simp only [rideF]
  omega
 have hmin := fun k hk => pickB_min (dS n js mi pl i).1 n.barrows.toNat k hk
 have hfst := fun k hk => pickB_first (dS n js mi pl i).1 n.barrows.toNat k hk
 refine ⟨hpk, rfl, rfl, ?_, ?_, fun k hk => ?_, fun j hj => ?_, fun hu => ?_, fun hu => ?_, by omega, by omega, ?_⟩
 ·rw [dS_succ]
  exact usedL_set _ _ (by omega) hback
 ·rw [dS_succ]
  exact backL_set _ _ (by omega) hback
 ·have h3 := hmin k hk
  have h4 := hfst k
  have h5 := hlow k hk
  simp only [usedB, backB, decide_eq_false_iff_not, decide_eq_true_eq]
  refine ⟨fun hu => ⟨by omega, ?_⟩, fun hu hv => ?_⟩
  ·rcases Nat.lt_or_ge k (pickB (dS n js mi pl i).1 n.barrows.toNat) with h6 | h6
   ·have := h4 h6; omega
   ·exact h6
  ·rw [if_pos hu, if_pos hv]
   rcases Nat.lt_or_ge k (pickB (dS n js mi pl i).1 n.barrows.toNat) with h6 | h6
   ·have := h4 h6; exact .inl this
   ·omega
 ·have hG := lateD_G n js mi pl (i + 1) (by omega)
  have hl := lateD_length n js mi pl i (by omega)
  rw [lateD] at hG
  rw [<- hG, List.append_assoc, List.getElem?_append_right (by omega), List.getElem?_append_left (by simp only [lateR, List.length_map, List.length_range]; omega)]
  simp only [lateR, List.getElem?_map]
  rw [List.getElem?_range (by omega)]
  simp only [Option.map_some]
  rw [show (dS n js mi pl i).2.1 + j - (lateD n js mi pl i).length = j by omega]
 ·simp only [usedB, decide_eq_false_iff_not] at hu
  simp only [rideF]
  omega
 ·simp only [usedB, decide_eq_true_eq] at hu
  simp only [rideF, backB, if_pos hu]
  omega
 ·simp only [rideF]
  omega
end Go.Proofs.YtofmadjgbcopdaaGreatDoor
end
section
namespace Go.Proofs.YtofmadjgbcopdaaGreatDoor
open Go Go.X
def y5_124 := And.intro @callF21 (And.intro @callF41 (And.intro (fun H => ex_alloc (H := H) (P := Tryz.prog) (h := Tryz.zeroValue29)) (And.intro (fun H => storeAt_agg (H := H) Tryz.sizeOf29) (And.intro (fun H => loadAt_aggE (H := H) Tryz.underlying29 rfl Tryz.sizeOf29) (And.intro @callF32 (And.intro @callF34 (And.intro (fun H => len_slice (H := H) Tryz.underlying45) (And.intro (fun H => len_slice (H := H) Tryz.underlying22) (And.intro (fun H => fieldAt_eq (H := H) Tryz.underlying29 (i := 6) rfl (off := 9) rfl Tryz.sizeOf3) (And.intro (fun H => loadAt_one (H := H) Tryz.underlying3 rfl) (And.intro (fun H => makeSlice_one (H := H) Tryz.underlying22 Tryz.sizeOf3 Tryz.zeroValue3 rfl Tryz.typeInfo3 (by decide)) (And.intro (fun H => makeSlice_one (H := H) Tryz.underlying59 Tryz.sizeOf4 Tryz.zeroValue4 rfl Tryz.typeInfo4 (by decide)) (And.intro (fun H => indexAt_slice (H := H) Tryz.underlying45 Tryz.sizeOf61) (And.intro (fun H => fieldAt_eq (H := H) Tryz.underlying61 (i := 0) rfl (off := 0) rfl Tryz.sizeOf3) (And.intro (fun H => fieldAt_eq (H := H) Tryz.underlying61 (i := 2) rfl (off := 2) rfl Tryz.sizeOf3) (And.intro (fun H => fieldAt_eq (H := H) Tryz.underlying61 (i := 1) rfl (off := 1) rfl Tryz.sizeOf3) (And.intro (fun H => indexAt_slice (H := H) Tryz.underlying59 Tryz.sizeOf4) (And.intro (fun H => loadAt_one (H := H) Tryz.underlying4 rfl) (And.intro (fun H => indexAt_slice (H := H) Tryz.underlying22 Tryz.sizeOf3) (And.intro (fun H => fieldAt_eq (H := H) Tryz.underlying29 (i := 3) rfl (off := 6) rfl Tryz.sizeOf22) (And.intro (fun H => loadAt_one (H := H) Tryz.underlying22 rfl) (And.intro @max_int (And.intro (fun H => fieldAt_eq (H := H) Tryz.underlying29 (i := 4) rfl (off := 7) rfl Tryz.sizeOf3) (And.intro (fun H => storeAt_int (H := H) Tryz.sizeOf3) (And.intro (fun H => storeAt_bool (H := H) Tryz.sizeOf4) @callF20)))))))))))))))))))))))))
theorem due_get {n : HN} {js : List Int} (hj : ∀ i ∈ js, 0 <= i /\ i < n.xs.length) {k : Nat} (hk : k < js.length) : ∃ j : Nat, js[k]? = some (j : Int) /\ j < n.xs.length /\ n.xs[j]? = some (n.due js k) := by
 have h1 : js.getD k 0 = js[k] := by simp [List.getD, List.getElem?_eq_getElem hk]
 obtain ⟨h2, h3⟩ := hj _ (List.getElem_mem hk)
 refine ⟨js[k].toNat, by rw [List.getElem?_eq_getElem hk, Int.toNat_of_nonneg h2], by omega, ?_⟩
 have : js[k].toNat < n.xs.length := by omega
 unfold HN.due
 rw [h1, List.getElem?_eq_getElem this]
 simp [List.getD, List.getElem?_eq_getElem this]
theorem SlI.at0 {H : Hp} {a : Option Addr} {n cap : Nat} {xs : List Int} (h : SlI H (.slice a n cap) xs) {i : Nat} {x : Int} (hx : xs[i]? = some x) : ∃ (b o : Nat) (p : Bool) (c : Array Value) (fr : Nat × Nat), a = some ⟨b, o, none⟩ /\ H b = some (p, .cells c 3 fr) /\ c[o + i]? = some (.int .i64 x) := by
 obtain ⟨a', cap', he, _, hg⟩ := h
 cases he
 exact hg i x hx
theorem brides_spec (H : Hp) (sa : Option Addr) (sl sc : Nat) (hs : ∀ i : Nat, i < sl -> ∃ sb so c e fr x, sa = some ⟨sb, so, none⟩ /\ H sb = some (false, .cells c e fr) /\ c[so + i]? = some (.int .i64 x)) :
  FnX Tryz.prog (.co Tryz.prog) 5 #[.slice sa sl sc] H fun e _ => e = .returned (.bool true) := by
 refine FnX_start Tryz.func5 rfl Tryz.ntmps5 (by simp) ?_
 (refine @unH _ ?_; refine zA y5_124 ?_; (repeat (refine inC ?_; intro hc)); try (refine inK ?_; intro K hK))
 refine (newTin_spec _ H sa sl sc hs 240 (by omega)).runs.mono ?_
 rintro _ H1 ⟨tb, rfl, l1, hT⟩
 ((try (refine @unH _ ?_; refine zX y5_124 ?_)); (try (refine hK _ _ ?_; clear hK K; (try simp only [nq, ↓reduceIte, Nat.reduceEqDiff]))); refine @unH _ ?_; refine zA y5_124 ?_; (repeat (refine inC ?_; intro hc)); try (refine inK ?_; intro K hK))
 refine (made_spec _ H1 tb 0 8 (by omega) hT).runs.mono ?_
 rintro _ H2 ⟨n, v, jv, pv, pl, mi, rfl, hd2, hx8, hj2, hp2, hok, hm1, hm20, _, _⟩
 clear hT hs l1
 obtain ⟨hj8, hjb, _⟩ := hd2.jobs
 have b1 := hd2.b1
 have b4 := hd2.b4
 have n0 := hd2.n0
 have n30 := hd2.n30
 have hdr := fun H' (h' : HaulIn H' n v) hp' => Drive_spec (.co Tryz.prog) H' n v h' pv pl hp' hok hj8 hjb mi hm1 hm20
 have hla := fun H' (h' : HaulIn H' n v) hp' => Late_spec (.co Tryz.prog) H' n v h' pv pl hp' hok hj8 hjb mi hm1 hm20
 have hpl8 : pl.length <= 8 := Nat.le_trans (parts_len pl hok.p1) (by rw [hok.ps]; exact hj8)
 have hdue : ∀ k, 0 <= n.due n.jobs k /\ n.due n.jobs k <= 99 := fun k => by
  unfold HN.due
  generalize (n.jobs.getD k 0).toNat = q
  rw [List.getD_eq_getElem?_getD]
  cases hq : n.xs[q]? with
  | none => simp
  | some x => exact hd2.ok.2.2 x (List.mem_of_getElem? hq)
 have hjx := fun k hk => due_get (n := n) hjb (k := k) hk
 have hxl : n.xs.length <= 8 := by rw [hd2.ok.1]; exact hd2.day.few
 have hLl : (lateG n n.jobs mi pl bs0 0).length = n.jobs.length := by rw [lateG_length, hok.ps]
 have hok' := dS_ok n n.jobs mi pl hd2.ok.2.2 hd2.n0 hd2.b1 hd2.b4 hm1 hm20
 have hRl : (ridesG n n.jobs mi pl bs0 0).length = pl.length := by rw [<- dS_all]; exact (hok' _ (Nat.le_refl _)).2.2.2
 have hRg : ∀ i, i < pl.length -> (ridesG n n.jobs mi pl bs0 0)[i]? = some (rideF n n.jobs (dS n n.jobs mi pl i).1 (dS n n.jobs mi pl i).2.1 (pl.getD i 0) mi) := fun i hi => by
  rw [<- dS_all]
  exact dS_get n n.jobs mi pl pl.length i hi (hok' _ (Nat.le_refl _)).2.2.2 fun j hj => (hok' j (by omega)).2.2.2
 have hsn := fun i hi => ride_seen (n := n) (js := n.jobs) (mi := mi) (pl := pl) hd2.ok.2.2 n0 n30 b1 b4 hm1 hm20 hok.p1 hok.ps hj8 (i := i) hi
 have hFs : ∀ i, (dS n n.jobs mi pl (i + 1)).2.1 = (dS n n.jobs mi pl i).2.1 + pl.getD i 0 := fun i => rfl
 have hF0 : (dS n n.jobs mi pl 0).2.1 = 0 := rfl
 have hB0 : (dS n n.jobs mi pl 0).1 = bs0 := rfl
 obtain ⟨RR, hRR⟩ : ∃ RR : Nat -> RideV, ∀ i, rideF n n.jobs (dS n n.jobs mi pl i).1 (dS n n.jobs mi pl i).2.1 (pl.getD i 0) mi = RR i := ⟨_, fun _ => rfl⟩
 obtain ⟨PP, hPP⟩ : ∃ PP : Nat -> Nat, ∀ i, pickB (dS n n.jobs mi pl i).1 n.barrows.toNat = PP i := ⟨_, fun _ => rfl⟩
 simp only [hRR, hPP] at hRg hsn
 clear hRR hPP
 obtain ⟨BS, hBS⟩ : ∃ BS : Nat -> List Int, ∀ i, (dS n n.jobs mi pl i).1 = BS i := ⟨_, fun _ => rfl⟩
 obtain ⟨FF, hFF⟩ : ∃ FF : Nat -> Nat, ∀ i, (dS n n.jobs mi pl i).2.1 = FF i := ⟨_, fun _ => rfl⟩
 simp only [hBS, hFF] at hsn hFs hF0 hB0
 have hU0 : usedL (BS 0) n.barrows.toNat = List.replicate n.barrows.toNat (.bool false) := by
  rw [hB0]
  have hall : ∀ B, B <= 4 -> usedL bs0 B = List.replicate B (.bool false) := fun B hB => by
   rcases (by omega : B = 0 ∨ B = 1 ∨ B = 2 ∨ B = 3 ∨ B = 4) with rfl | rfl | rfl | rfl | rfl <;> rfl
  exact hall _ (by omega)
 have hK0 : backL (BS 0) n.barrows.toNat = List.replicate n.barrows.toNat (.int .i64 0) := by
  rw [hB0]
  have hall : ∀ B, B <= 4 -> backL bs0 B = List.replicate B (.int .i64 0) := fun B hB => by
   rcases (by omega : B = 0 ∨ B = 1 ∨ B = 2 ∨ B = 3 ∨ B = 4) with rfl | rfl | rfl | rfl | rfl <;> rfl
  exact hall _ (by omega)
 clear hBS hFF hB0 hok'
 generalize ridesG n n.jobs mi pl bs0 0 = R at *
 generalize lateG n n.jobs mi pl bs0 0 = L at *
 replace hLl : L.length = n.jobs.length := hLl
 obtain ⟨sv, cv, tv, xv⟩ := v
 obtain ⟨a1, n1, c1, hsv⟩ := hd2.day.st.isSlice
 obtain ⟨a2, n2, c2, hcv⟩ := hd2.day.calls.isSlice
 obtain ⟨a3, n3, c3, htv⟩ := hd2.day.truth.isSlice
 obtain ⟨a4, c4, hxv, _, _⟩ := id hd2.times
 simp only [] at hsv hcv htv hxv
 subst hsv hcv htv hxv
 obtain ⟨ja, jc, rfl, _, _⟩ := id hj2
 obtain ⟨pa, pc, hpe, _, _⟩ := id hp2
 rw [List.length_map] at hpe
 subst hpe
 simp only [HN.agg] at hdr hla ⊢
 replace hdr : SameP _ := hdr
 replace hla : SameP _ := hla
 replace hjx : SameP _ := hjx
 replace hsn : SameP _ := hsn
 replace hRg : SameP _ := hRg
 replace hFs : SameP _ := hFs
 replace hF0 : SameP _ := hF0
 replace hU0 : SameP _ := hU0
 replace hK0 : SameP _ := hK0
 replace hLl : SameP _ := hLl
 replace hRl : SameP _ := hRl
 replace hdue : SameP _ := hdue
 clear hjb hok
 ((try (refine @unH _ ?_; refine zX y5_124 ?_)); (try (refine hK _ _ ?_; clear hK K; (try simp only [nq, ↓reduceIte, Nat.reduceEqDiff]))); refine @unH _ ?_; refine zA y5_124 ?_; (repeat (refine inC ?_; intro hc)); try (refine inK ?_; intro K hK))
 (intro hb hhb; generalize hG : Hp.set _ hb _ = H3; have lH3 := le_of_set hG hhb; have vhb := at_of_set hG; clear hG)
 have hd3 := hd2.le lH3
 have hj3 := hj2.le lH3
 have hp3 := hp2.le lH3
 clear hd2 hj2 hp2 lH3 hhb
 ((try (refine @unH _ ?_; refine zX y5_124 ?_)); (try (refine hK _ _ ?_; clear hK K; (try simp only [nq, ↓reduceIte, Nat.reduceEqDiff]))); refine @unH _ ?_; refine zA y5_124 ?_; (repeat (refine inC ?_; intro hc)); try (refine inK ?_; intro K hK))
 have hr := (show ∀ H', HaulIn H' n _ -> SlI H' _ _ -> _ from hdr) H3 hd3 hp3
 refine hr.runs.mono ?_
 clear hr hdr
 rintro _ H4 ⟨H30, rv, rfl, lH30, hrow⟩
 have lH4 := Hp.le_trans lH30 hrow.1.toLe
 have hR4 : RidesIn H4 rv R := RidesIn.row (by rw [show R.length = _ from hRl]; exact hrow)
 have hd4 := hd3.le lH4
 have hj4 := hj3.le lH4
 have hp4 := hp3.le lH4
 have vhb4 := lH4 _ _ vhb
 clear hd3 hj3 hp3 vhb lH4 lH30 hrow
 obtain ⟨ra, rc, hre, _, _⟩ := id hR4
 rw [show R.length = _ from hRl] at hre
 subst hre
 ((try (refine @unH _ ?_; refine zX y5_124 ?_)); (try (refine hK _ _ ?_; clear hK K; (try simp only [nq, ↓reduceIte, Nat.reduceEqDiff]))); refine @unH _ ?_; refine zA y5_124 ?_; (repeat (refine inC ?_; intro hc)); try (refine inK ?_; intro K hK))
 have hr := (show ∀ H', HaulIn H' n _ -> SlI H' _ _ -> _ from hla) H4 hd4 hp4
 refine hr.runs.mono ?_
 clear hr hla
 rintro _ H5 ⟨lv, rfl, lH5, hl5⟩
 have hd5 := hd4.le lH5
 have hj5 := hj4.le lH5
 have hp5 := hp4.le lH5
 have hR5 := hR4.le lH5
 have vhb5 := lH5 _ _ vhb4
 clear hd4 hj4 hp4 hR4 vhb4 lH5
 obtain ⟨la, lc, hle, _, _⟩ := id hl5
 rw [show L.length = _ from hLl] at hle
 subst hle
 have hx5 := hd5.times
 clear hd5
 ((try (refine @unH _ ?_; refine zX y5_124 ?_)); (try (refine hK _ _ ?_; clear hK K; (try simp only [nq, ↓reduceIte, Nat.reduceEqDiff]))); refine @unH _ ?_; refine zA y5_124 ?_; (repeat (refine inC ?_; intro hc)); try (refine inK ?_; intro K hK))
 refine wpX_tlast (fun HX => HX hb = some (true, (.cells #[.int .i64 n.places, .int .i64 n.pieces, .slice a1 n1 c1, .slice a2 n2 c2, .slice a3 n3 c3, .int .i64 n.rule, .slice a4 n.xs.length c4, .int .i64 n.notice, .int .i64 n.load, .int .i64 n.barrows, .int .i64 n.lo, .int .i64 n.hi] 29 (0, 0)))) (.take 0 (.take 1 (.take 3 (.take 4 (.two 2 (.take 6 (.one 5 (.take 7 .nil))) 5 (.one 2 (.take 6 (.take 7 .nil)))))))) (by kernel_rfl) (by kernel_rfl) (by decide) (by kernel_rfl) ?_; intro K hK
 (iterate 4 (refine @unH _ ?_; refine z4 y5_124 ?_))
 have key : ∀ (kb ub : Nat) (H' : Hp) (e : Nat -> Value), H5 kb = none -> H5 ub = none -> kb ≠ ub -> H5.le H' -> H' kb = some (true, (.cells (Array.replicate n.barrows.toNat (.int .i64 0)) 3 (0, 0))) -> H' ub = some (true, (.cells (Array.replicate n.barrows.toNat (.bool false)) 4 (0, 0))) ->
   e 3 = .pointer (some ⟨hb, 0, none⟩) -> e 4 = .slice ja n.jobs.length jc -> e 5 = .slice pa pl.length pc -> e 6 = .int .i64 mi -> e 7 = .slice ra pl.length rc -> e 9 = .slice la n.jobs.length lc -> e 11 = .slice (some ⟨kb, 0, none⟩) n.barrows.toNat n.barrows.toNat -> e 12 = .slice (some ⟨ub, 0, none⟩) n.barrows.toNat n.barrows.toNat -> K (act 257 e []) H' := by
  intro kb ub H6 e hkb hub nku lH6 vkb6 vub6 e3 e4 e5 e6 e7 e9 e11 e12
  have nuk := nku.symm
  have lx6 : Lex none H5 H6 := Lex.of lH6
  rw [show (Array.replicate n.barrows.toNat (Value.int .i64 0)) = (backL (BS 0) n.barrows.toNat).toArray by rw [show backL (BS 0) _ = _ from hK0]; simp] at vkb6
  rw [show (Array.replicate n.barrows.toNat (Value.bool false)) = (usedL (BS 0) n.barrows.toNat).toArray by rw [show usedL (BS 0) _ = _ from hU0]; simp] at vub6
  refine hK _ _ ?_
  clear hK K lH6
  (try simp only [nq, ↓reduceIte, Nat.reduceEqDiff])
  (refine @unH _ ?_; refine zA y5_124 ?_; (repeat (refine inC ?_; intro hc)); try (refine inK ?_; intro K hK))
  refine wpX_loop (fun w a' H' => ∃ e, ∃ i : Nat, w = pl.length - i /\ i <= pl.length /\ a' = act 257 e [] /\ e 3 = .pointer (some ⟨hb, 0, none⟩) /\ e 4 = .slice ja n.jobs.length jc /\ e 5 = .slice pa pl.length pc /\ e 6 = .int .i64 mi /\ e 7 = .slice ra pl.length rc /\ e 9 = .slice la n.jobs.length lc /\ e 11 = .slice (some ⟨kb, 0, none⟩) n.barrows.toNat n.barrows.toNat /\ e 12 = .slice (some ⟨ub, 0, none⟩) n.barrows.toNat n.barrows.toNat /\ e 13 = .int .i64 (FF i : Nat) /\ e 14 = .int .i64 (i : Nat) /\ Lex none H5 H' /\
   H' kb = some (true, .cells (backL (BS i) n.barrows.toNat).toArray 3 (0, 0)) /\ H' ub = some (true, .cells (usedL (BS i) n.barrows.toNat).toArray 4 (0, 0))) (n := pl.length) ?_ ?_
  ·exact ⟨_, 0, by omega, by omega, rfl, e3, e4, e5, e6, e7, e9, e11, e12, by rw [show FF 0 = 0 from hF0]; rfl, rfl, lx6, vkb6, vub6⟩
  clear lx6 vkb6 vub6 e3 e4 e5 e6 e7 e9 e11 e12
  rintro w a' H6 ⟨e, i, rfl, hi, rfl, e3, e4, e5, e6, e7, e9, e11, e12, e13, e14, lx6, vkb6, vub6⟩
  by_cases hlt : i < pl.length
  ·have sn := (show ∀ i, i < pl.length -> RideSeen n n.jobs mi n.barrows.toNat (BS i) (BS (i + 1)) (FF i) (pl.getD i 0) (RR i) (PP i) L from hsn) i hlt
   have hgr := (show ∀ i, i < pl.length -> R[i]? = some (RR i) from hRg) i hlt
   have hFi := (show ∀ i, FF (i + 1) = FF i + pl.getD i 0 from hFs) i
   have hpg : (pl.map fun x : Nat => (x : Int))[i]? = some ((pl.getD i 0 : Nat) : Int) := by rw [List.getElem?_map, List.getElem?_eq_getElem hlt]; simp [List.getD, List.getElem?_eq_getElem hlt]
   obtain ⟨s1, s2, s3, s4, s5, s6, s7, s8, s9, s10, s11, s12⟩ := sn
   have hR6 := hR5.le lx6.toLe
   obtain ⟨q1, p1, k1, f1, rfl, hq1, _, hsz1, g0, g1, g2⟩ := RidesIn.get hR6 hgr
   clear hgr
   rw [s2] at g0
   rw [s3] at g2
   generalize RR i = r at *
   obtain ⟨r0, r1, r2⟩ := r
   simp only [] at s2 s3 s5 s7 s8 s9 s12 g0 g1 g2
   subst s2 s3
   have hB' : (n.barrows.toNat : Int) = n.barrows := by omega
   have vhb6 := lx6.toLe _ _ vhb5
   have hl6 := hl5.le lx6.toLe
   have hj6 := hj5.le lx6.toLe
   have hx6 := hx5.le lx6.toLe
   have hp6 := hp5.le lx6.toLe
   have nq1k : q1 ≠ kb := fun e => by
    rw [e, vkb6] at hq1
    simp only [Option.some.injEq, Prod.mk.injEq, Obj.cells.injEq] at hq1
    exact absurd hq1.2.2.1 (by decide)
   have nq1u : q1 ≠ ub := fun e => by
    rw [e, vub6] at hq1
    simp only [Option.some.injEq, Prod.mk.injEq, Obj.cells.injEq] at hq1
    exact absurd hq1.2.2.1 (by decide)
   generalize PP i = p at *
   generalize pl.getD i 0 = m at *
   have hpB : ¬ n.barrows <= (p : Int) := by omega
   have hp0 : ¬ (p : Int) < 0 := by omega
   have hi3 : 0 + i * 3 = i * 3 := by omega
   have hup : (usedL (BS i) n.barrows.toNat)[p]? = some (.bool (usedB (BS i) p)) := usedL_get _ s1
   have hbp : (backL (BS i) n.barrows.toNat)[p]? = some (.int .i64 (backB (BS i) p)) := backL_get _ s1
   replace s4 : SameP _ := s4
   replace s5 : SameP _ := s5
   replace s6 : SameP _ := s6
   replace s7 : SameP _ := s7
   replace s8 : SameP _ := s8
   replace s9 : SameP _ := s9
   replace hFi : SameP _ := hFi
   replace hB' : SameP _ := hB'
   (refine @unH _ ?_; refine zA y5_124 ?_; (repeat (refine inC ?_; intro hc)); try (refine inK ?_; intro K hK))
   (refine wpX_dst1 31 [(true, 0), (true, 1), (true, 2), (true, 3), (true, 4), (true, 5), (true, 6), (true, 7), (true, 8), (true, 9), (true, 10), (true, 11), (true, 12), (true, 13), (true, 14), (true, 15), (true, 16), (true, 17), (true, 18), (true, 19), (true, 20), (true, 21), (true, 22), (true, 23), (true, 24), (true, 25), (true, 26), (true, 27), (true, 28), (true, 29), (true, 30)] (by kernel_rfl) (by kernel_rfl) (by simp) (by kernel_rfl) ?_; intro K hK; (iterate 7 (refine @unH _ ?_; refine z3 y5_124 ?_)); (iterate 8 (refine @unH _ ?_; refine z6 y5_124 ?_)); (iterate 2 (refine @unH _ ?_; refine z3 y5_124 ?_)); (iterate 13 (refine @unH _ ?_; refine z6 y5_124 ?_)); (refine @unH _ ?_; refine z3 y5_124 ?_); refine plan_nil (hK _ _ ?_); clear hK K)
   (try simp only [nq, ↓reduceIte, Nat.reduceEqDiff])
   (refine @unH _ ?_; refine zA y5_124 ?_; (repeat (refine inC ?_; intro hc)); try (refine inK ?_; intro K hK))
   refine wpX_loop (fun w a' H' => ∃ e, ∃ k : Nat, w = n.barrows.toNat - k /\ k <= n.barrows.toNat /\ a' = act 257 e [] /\ e 3 = .pointer (some ⟨hb, 0, none⟩) /\ e 4 = .slice ja n.jobs.length jc /\ e 5 = .slice pa pl.length pc /\ e 6 = .int .i64 mi /\ e 7 = .slice (some ⟨q1, 0, none⟩) pl.length rc /\ e 9 = .slice la n.jobs.length lc /\ e 11 = .slice (some ⟨kb, 0, none⟩) n.barrows.toNat n.barrows.toNat /\ e 12 = .slice (some ⟨ub, 0, none⟩) n.barrows.toNat n.barrows.toNat /\ e 13 = .int .i64 (FF i : Nat) /\ e 14 = .int .i64 (i : Nat) /\ e 15 = .int .i64 (k : Nat) /\ H' = H6) (n := n.barrows.toNat) ?_ ?_
   ·exact ⟨_, 0, by omega, by omega, rfl, e3, e4, e5, e6, e7, e9, e11, e12, e13, e14, rfl, by trivial⟩
   clear e3 e4 e5 e6 e7 e9 e11 e12 e13 e14
   rintro w a' HQ ⟨e, k, rfl, hk, rfl, e3, e4, e5, e6, e7, e9, e11, e12, e13, e14, e15, hHQ⟩
   rw [hHQ]; clear hHQ HQ
   by_cases hkl : k < n.barrows.toNat
   ·have hkB : (k : Int) < n.barrows := by omega
    have hbk := backL_get (BS i) hkl
    have huk := usedL_get (BS i) hkl
    obtain ⟨o1, o2⟩ := (show ∀ k, k < n.barrows.toNat -> _ from s6) k hkl
    generalize hUk : usedB (BS i) k = uk at *
    generalize hUp : usedB (BS i) p = up at *
    generalize backB (BS i) k = bk at *
    generalize backB (BS i) p = bp at *
    clear hUk hUp
    cases uk with
    | false =>
     obtain ⟨rfl, hpk⟩ := o1 rfl
     have hkp : ¬ (k : Int) < (p : Int) := by omega
     clear o1 o2 hpk
     (refine @unH _ ?_; refine zA y5_124 ?_; (repeat (refine inC ?_; intro hc)); try (refine inK ?_; intro K hK))
     (refine wpX_dst1 55 [(true, 0), (true, 1), (true, 2), (true, 3), (true, 4), (true, 5), (true, 6), (true, 7), (true, 8), (true, 9), (true, 10), (true, 11), (true, 12), (true, 13), (true, 14), (true, 15), (true, 16), (true, 17), (true, 18), (true, 19), (true, 20), (true, 21), (true, 22), (true, 23), (true, 24), (true, 25), (true, 26), (true, 27), (true, 28), (true, 29), (true, 30), (true, 31), (true, 32), (true, 33), (true, 34), (true, 35), (true, 36), (true, 37), (true, 38), (true, 39), (true, 40), (true, 41), (true, 42), (true, 43), (true, 44), (true, 45), (true, 46), (true, 47), (true, 48), (true, 49), (true, 50), (true, 51), (true, 52), (true, 53), (true, 54)] (by kernel_rfl) (by kernel_rfl) (by simp) (by kernel_rfl) ?_; intro K hK; (iterate 6 (refine @unH _ ?_; refine z3 y5_124 ?_)); (iterate 9 (refine @unH _ ?_; refine z6 y5_124 ?_)); (iterate 2 (refine @unH _ ?_; refine z3 y5_124 ?_)); (iterate 5 (refine @unH _ ?_; refine z6 y5_124 ?_)); (iterate 4 (apply plan_skip rfl (by simp -implicitDefEqProofs (disch := omega) only [wanted_some, yielded_list, ylK_bool, List.getElem?_cons_succ, List.getElem?_cons_zero, Option.bind_some, act_get?, upd_get, Nat.reduceEqDiff, ↓reduceIte, *]; rfl); simp -implicitDefEqProofs (disch := first | omega | (simp only [qd] <;> omega)) only [act_put, act_put_none])); (iterate 2 (refine @unH _ ?_; refine z6 y5_124 ?_)); (iterate 25 (apply plan_skip rfl (by simp -implicitDefEqProofs (disch := omega) only [wanted_some, yielded_list, ylK_bool, List.getElem?_cons_succ, List.getElem?_cons_zero, Option.bind_some, act_get?, upd_get, Nat.reduceEqDiff, ↓reduceIte, *]; rfl); simp -implicitDefEqProofs (disch := first | omega | (simp only [qd] <;> omega)) only [act_put, act_put_none])); (refine @unH _ ?_; refine z6 y5_124 ?_); (refine @unH _ ?_; refine z3 y5_124 ?_); refine plan_nil (hK _ _ ?_); clear hK K)
     (try simp only [nq, ↓reduceIte, Nat.reduceEqDiff])
     (refine @unH _ ?_; refine zA y5_124 ?_; (repeat (refine inC ?_; intro hc)); try (refine inK ?_; intro K hK))
     exact ⟨_, by omega, _, k + 1, rfl, hkl, rfl, e3, e4, e5, e6, e7, e9, e11, e12, e13, e14, rfl, by trivial⟩
    | true =>
     replace o2 := o2 rfl
     clear o1
     cases up with
     | false =>
      clear o2
      (refine @unH _ ?_; refine zA y5_124 ?_; (repeat (refine inC ?_; intro hc)); try (refine inK ?_; intro K hK))
      (refine wpX_dst1 55 [(true, 0), (true, 1), (true, 2), (true, 3), (true, 4), (true, 5), (true, 6), (true, 7), (true, 8), (true, 9), (true, 10), (true, 11), (true, 12), (true, 13), (true, 14), (true, 15), (true, 16), (true, 17), (true, 18), (true, 19), (true, 20), (true, 21), (true, 22), (true, 23), (true, 24), (true, 25), (true, 26), (true, 27), (true, 28), (true, 29), (true, 30), (true, 31), (true, 32), (true, 33), (true, 34), (true, 35), (true, 36), (true, 37), (true, 38), (true, 39), (true, 40), (true, 41), (true, 42), (true, 43), (true, 44), (true, 45), (true, 46), (true, 47), (true, 48), (true, 49), (true, 50), (true, 51), (true, 52), (true, 53), (true, 54)] (by kernel_rfl) (by kernel_rfl) (by simp) (by kernel_rfl) ?_; intro K hK; (iterate 6 (refine @unH _ ?_; refine z3 y5_124 ?_)); (iterate 9 (apply plan_skip rfl (by simp -implicitDefEqProofs (disch := omega) only [wanted_some, yielded_list, ylK_bool, List.getElem?_cons_succ, List.getElem?_cons_zero, Option.bind_some, act_get?, upd_get, Nat.reduceEqDiff, ↓reduceIte, *]; rfl); simp -implicitDefEqProofs (disch := first | omega | (simp only [qd] <;> omega)) only [act_put, act_put_none])); (iterate 2 (refine @unH _ ?_; refine z3 y5_124 ?_)); (iterate 11 (refine @unH _ ?_; refine z6 y5_124 ?_)); (iterate 25 (apply plan_skip rfl (by simp -implicitDefEqProofs (disch := omega) only [wanted_some, yielded_list, ylK_bool, List.getElem?_cons_succ, List.getElem?_cons_zero, Option.bind_some, act_get?, upd_get, Nat.reduceEqDiff, ↓reduceIte, *]; rfl); simp -implicitDefEqProofs (disch := first | omega | (simp only [qd] <;> omega)) only [act_put, act_put_none])); (refine @unH _ ?_; refine z6 y5_124 ?_); (refine @unH _ ?_; refine z3 y5_124 ?_); refine plan_nil (hK _ _ ?_); clear hK K)
      (try simp only [nq, ↓reduceIte, Nat.reduceEqDiff])
      (refine @unH _ ?_; refine zA y5_124 ?_; (repeat (refine inC ?_; intro hc)); try (refine inK ?_; intro K hK))
      exact ⟨_, by omega, _, k + 1, rfl, hkl, rfl, e3, e4, e5, e6, e7, e9, e11, e12, e13, e14, rfl, by trivial⟩
     | true =>
      replace o2 := o2 rfl
      by_cases hq : bk = bp
      ·subst hq
       have hkp : ¬ (k : Int) < (p : Int) := by omega
       have hbb : ¬ bk < bk := by omega
       clear o2
       (refine @unH _ ?_; refine zA y5_124 ?_; (repeat (refine inC ?_; intro hc)); try (refine inK ?_; intro K hK))
       (refine wpX_dst1 55 [(true, 0), (true, 1), (true, 2), (true, 3), (true, 4), (true, 5), (true, 6), (true, 7), (true, 8), (true, 9), (true, 10), (true, 11), (true, 12), (true, 13), (true, 14), (true, 15), (true, 16), (true, 17), (true, 18), (true, 19), (true, 20), (true, 21), (true, 22), (true, 23), (true, 24), (true, 25), (true, 26), (true, 27), (true, 28), (true, 29), (true, 30), (true, 31), (true, 32), (true, 33), (true, 34), (true, 35), (true, 36), (true, 37), (true, 38), (true, 39), (true, 40), (true, 41), (true, 42), (true, 43), (true, 44), (true, 45), (true, 46), (true, 47), (true, 48), (true, 49), (true, 50), (true, 51), (true, 52), (true, 53), (true, 54)] (by kernel_rfl) (by kernel_rfl) (by simp) (by kernel_rfl) ?_; intro K hK; (iterate 6 (refine @unH _ ?_; refine z3 y5_124 ?_)); (iterate 9 (apply plan_skip rfl (by simp -implicitDefEqProofs (disch := omega) only [wanted_some, yielded_list, ylK_bool, List.getElem?_cons_succ, List.getElem?_cons_zero, Option.bind_some, act_get?, upd_get, Nat.reduceEqDiff, ↓reduceIte, *]; rfl); simp -implicitDefEqProofs (disch := first | omega | (simp only [qd] <;> omega)) only [act_put, act_put_none])); (iterate 2 (refine @unH _ ?_; refine z3 y5_124 ?_)); (iterate 11 (refine @unH _ ?_; refine z6 y5_124 ?_)); (iterate 20 (refine @unH _ ?_; refine z6 y5_124 ?_)); (iterate 3 (refine @unH _ ?_; refine z6 y5_124 ?_)); (iterate 3 (refine @unH _ ?_; refine z6 y5_124 ?_)); (refine @unH _ ?_; refine z3 y5_124 ?_); refine plan_nil (hK _ _ ?_); clear hK K)
       (try simp only [nq, ↓reduceIte, Nat.reduceEqDiff])
       (refine @unH _ ?_; refine zA y5_124 ?_; (repeat (refine inC ?_; intro hc)); try (refine inK ?_; intro K hK))
       exact ⟨_, by omega, _, k + 1, rfl, hkl, rfl, e3, e4, e5, e6, e7, e9, e11, e12, e13, e14, rfl, by trivial⟩
      ·have hbb : ¬ bk < bp := by omega
       have hqq : (bk == bp) = false := by simpa using hq
       clear o2
       (refine @unH _ ?_; refine zA y5_124 ?_; (repeat (refine inC ?_; intro hc)); try (refine inK ?_; intro K hK))
       (refine wpX_dst1 55 [(true, 0), (true, 1), (true, 2), (true, 3), (true, 4), (true, 5), (true, 6), (true, 7), (true, 8), (true, 9), (true, 10), (true, 11), (true, 12), (true, 13), (true, 14), (true, 15), (true, 16), (true, 17), (true, 18), (true, 19), (true, 20), (true, 21), (true, 22), (true, 23), (true, 24), (true, 25), (true, 26), (true, 27), (true, 28), (true, 29), (true, 30), (true, 31), (true, 32), (true, 33), (true, 34), (true, 35), (true, 36), (true, 37), (true, 38), (true, 39), (true, 40), (true, 41), (true, 42), (true, 43), (true, 44), (true, 45), (true, 46), (true, 47), (true, 48), (true, 49), (true, 50), (true, 51), (true, 52), (true, 53), (true, 54)] (by kernel_rfl) (by kernel_rfl) (by simp) (by kernel_rfl) ?_; intro K hK; (iterate 6 (refine @unH _ ?_; refine z3 y5_124 ?_)); (iterate 9 (apply plan_skip rfl (by simp -implicitDefEqProofs (disch := omega) only [wanted_some, yielded_list, ylK_bool, List.getElem?_cons_succ, List.getElem?_cons_zero, Option.bind_some, act_get?, upd_get, Nat.reduceEqDiff, ↓reduceIte, *]; rfl); simp -implicitDefEqProofs (disch := first | omega | (simp only [qd] <;> omega)) only [act_put, act_put_none])); (iterate 2 (refine @unH _ ?_; refine z3 y5_124 ?_)); (iterate 11 (refine @unH _ ?_; refine z6 y5_124 ?_)); (iterate 20 (refine @unH _ ?_; refine z6 y5_124 ?_)); (iterate 3 (apply plan_skip rfl (by simp -implicitDefEqProofs (disch := omega) only [wanted_some, yielded_list, ylK_bool, List.getElem?_cons_succ, List.getElem?_cons_zero, Option.bind_some, act_get?, upd_get, Nat.reduceEqDiff, ↓reduceIte, *]; rfl); simp -implicitDefEqProofs (disch := first | omega | (simp only [qd] <;> omega)) only [act_put, act_put_none])); (iterate 3 (refine @unH _ ?_; refine z6 y5_124 ?_)); (refine @unH _ ?_; refine z3 y5_124 ?_); refine plan_nil (hK _ _ ?_); clear hK K)
       (try simp only [nq, ↓reduceIte, Nat.reduceEqDiff])
       (refine @unH _ ?_; refine zA y5_124 ?_; (repeat (refine inC ?_; intro hc)); try (refine inK ?_; intro K hK))
       exact ⟨_, by omega, _, k + 1, rfl, hkl, rfl, e3, e4, e5, e6, e7, e9, e11, e12, e13, e14, rfl, by trivial⟩
   obtain rfl : k = n.barrows.toNat := by omega
   (refine @unH _ ?_; refine zA y5_124 ?_; (repeat (refine inC ?_; intro hc)); try (refine inK ?_; intro K hK))
   refine wpX_loop (fun w a' H' => ∃ e, ∃ k : Nat, w = m - k /\ k <= m /\ a' = act 257 e [] /\ e 3 = .pointer (some ⟨hb, 0, none⟩) /\ e 4 = .slice ja n.jobs.length jc /\ e 5 = .slice pa pl.length pc /\ e 6 = .int .i64 mi /\ e 7 = .slice (some ⟨q1, 0, none⟩) pl.length rc /\ e 9 = .slice la n.jobs.length lc /\ e 11 = .slice (some ⟨kb, 0, none⟩) n.barrows.toNat n.barrows.toNat /\ e 12 = .slice (some ⟨ub, 0, none⟩) n.barrows.toNat n.barrows.toNat /\ e 13 = .int .i64 (FF i + k : Nat) /\ e 14 = .int .i64 (i : Nat) /\ e 17 = .int .i64 (k : Nat) /\ H' = H6) (n := m) ?_ ?_
   ·exact ⟨_, 0, by omega, by omega, rfl, e3, e4, e5, e6, e7, e9, e11, e12, e13, e14, rfl, by trivial⟩
   clear e3 e4 e5 e6 e7 e9 e11 e12 e13 e14 e15
   rintro w a' HQ ⟨e, k, rfl, hk, rfl, e3, e4, e5, e6, e7, e9, e11, e12, e13, e14, e17, hHQ⟩
   rw [hHQ]; clear hHQ HQ
   obtain ⟨pb, po, pp, pcs, pfr, hpae, hpb1, hpc1⟩ := SlI.at0 hp6 hpg
   by_cases hkl : k < m
   ·obtain ⟨j, hj1, hj2, hj3⟩ := (show ∀ k, k < n.jobs.length -> _ from hjx) (FF i + k) (by omega)
    have hlk := (show ∀ j, j < m -> _ from s7) k hkl
    obtain ⟨d1, d2⟩ := (show ∀ k, 0 <= n.due n.jobs k /\ n.due n.jobs k <= 99 from hdue) (FF i + k)
    generalize n.due n.jobs (FF i + k) = dd at *
    obtain ⟨b6, o6, p6, c6, f6, rfl, hb6, hc6⟩ := SlI.at0 hl6 hlk
    obtain ⟨b7, o7, p7, c7, f7, rfl, hb7, hc7⟩ := SlI.at0 hj6 hj1
    obtain ⟨b8, o8, p8, c8, f8, rfl, hb8, hc8⟩ := SlI.at0 hx6 hj3
    subst hpae
    have hFk : FF i + k < n.jobs.length := by omega
    clear hj1 hj3
    obtain ⟨lt, hlt'⟩ : ∃ lt, lt = max 0 (r1 + mi - dd) := ⟨_, rfl⟩
    rw [<- hlt'] at hc6
    have hm1' : max 0 (r1 + mi - dd) = lt := hlt'.symm
    have hm2' : (if 0 < r1 + mi - dd then r1 + mi - dd else 0) = lt := by rw [hlt']; split <;> omega
    clear hlk hlt'
    (refine @unH _ ?_; refine zA y5_124 ?_; (repeat (refine inC ?_; intro hc)); try (refine inK ?_; intro K hK))
    (refine wpX_dst1 20 [(true, 0), (true, 1), (true, 2), (true, 3), (true, 4), (true, 5), (true, 6), (true, 7), (true, 8), (true, 9), (true, 10), (true, 11), (true, 12), (true, 13), (true, 14), (true, 15), (true, 16), (true, 17), (true, 18), (true, 19)] (by kernel_rfl) (by kernel_rfl) (by simp) (by kernel_rfl) ?_; intro K hK; (iterate 20 (refine @unH _ ?_; refine z3 y5_124 ?_)); refine plan_nil (hK _ _ ?_); clear hK K)
    (try simp only [nq, ↓reduceIte, Nat.reduceEqDiff])
    (refine @unH _ ?_; refine zA y5_124 ?_; (repeat (refine inC ?_; intro hc)); try (refine inK ?_; intro K hK))
    refine ⟨_, by omega, _, k + 1, rfl, hkl, rfl, e3, e4, e5, e6, e7, e9, e11, e12, ?_, e14, rfl, by trivial⟩
    show Value.int .i64 _ = Value.int .i64 _
    first | (congr 1; done) | (congr 1; omega)
   obtain rfl : k = m := by omega
   subst hpae
   obtain ⟨q, hq⟩ : ∃ q, FF i + k = q + 1 := ⟨FF i + k - 1, by omega⟩
   obtain ⟨j, hj1, hj2, hj3⟩ := (show ∀ k, k < n.jobs.length -> _ from hjx) q (by omega)
   have t8 : usedB (BS i) p = false -> r1 = n.due n.jobs q - n.notice := fun h => by
    have := (show usedB (BS i) p = false -> r1 = n.due n.jobs (FF i + k - 1) - n.notice from s8) h
    rwa [show FF i + k - 1 = q by omega] at this
   have t9 : usedB (BS i) p = true -> r1 = max (n.due n.jobs q - n.notice) (backB (BS i) p) := fun h => by
    have := (show usedB (BS i) p = true -> r1 = max (n.due n.jobs (FF i + k - 1) - n.notice) (backB (BS i) p) from s9) h
    rwa [show FF i + k - 1 = q by omega] at this
   obtain ⟨d1, d2⟩ := (show ∀ k, 0 <= n.due n.jobs k /\ n.due n.jobs k <= 99 from hdue) q
   have hFn : FF (i + 1) = q + 1 := by rw [show FF (i + 1) = _ from hFi]; exact hq
   replace hFn : SameP _ := hFn
   rw [hq] at e13
   have hqe : ((q + 1 : Nat) : Int) - 1 = (q : Nat) := by omega
   have hq2 : q < n.jobs.length := by omega
   clear hq s8 s9 s7 hFi
   generalize n.due n.jobs q = dd at *
   generalize usedB (BS i) p = up at *
   generalize backB (BS i) p = bp at *
   obtain ⟨b7, o7, p7, c7, f7, rfl, hb7, hc7⟩ := SlI.at0 hj6 hj1
   obtain ⟨b8, o8, p8, c8, f8, rfl, hb8, hc8⟩ := SlI.at0 hx6 hj3
   clear hj1 hj3
   replace t8 : SameP _ := t8
   replace t9 : SameP _ := t9
   (refine @unH _ ?_; refine zA y5_124 ?_; (repeat (refine inC ?_; intro hc)); try (refine inK ?_; intro K hK))
   (refine wpX_dst1 13 [(true, 0), (true, 1), (true, 2), (true, 3), (true, 4), (true, 5), (true, 6), (true, 7), (true, 8), (true, 9), (true, 10), (true, 11), (true, 12)] (by kernel_rfl) (by kernel_rfl) (by simp) (by kernel_rfl) ?_; intro K hK; (iterate 13 (refine @unH _ ?_; refine z3 y5_124 ?_)); refine plan_nil (hK _ _ ?_); clear hK K)
   (try simp only [nq, ↓reduceIte, Nat.reduceEqDiff])
   cases up with
   | false =>
    have hO : dd - n.notice = r1 := ((show false = false -> r1 = dd - n.notice from t8) rfl).symm
    (refine @unH _ ?_; refine zA y5_124 ?_; (repeat (refine inC ?_; intro hc)); try (refine inK ?_; intro K hK))
    refine wpX_dlast (fun HX => HX q1 = some (p1, .cells k1 61 f1)) 20 [(true, 0), (true, 1), (true, 2), (true, 3), (true, 4), (true, 5), (true, 6), (true, 7), (true, 8), (true, 9), (true, 10), (true, 11), (true, 12), (true, 13), (true, 14), (true, 15), (true, 16), (true, 17), (false, 18), (true, 19), (false, 20)] (by kernel_rfl) (by kernel_rfl) (by decide) (by kernel_rfl) ?_; intro K hK
    (iterate 18 (refine @unH _ ?_; refine z5 y5_124 ?_))
    refine planX_act ?_
    (refine @unH _ ?_; refine zX y5_124 ?_)
    refine ⟨(by first | exact s1 | (rw [backL_len]; exact s1) | (simp only [List.size_toArray, backL_len]; exact s1)), .inr trivial, ?_⟩
    generalize hG7 : Hp.set H6 kb _ = H7
    have vkb7 := at_of_set hG7
    have vub7 := other_of_set hG7 vub6 nku.symm
    have vq7 := other_of_set hG7 hq1 nq1k
    have lx7 : Lex none H5 H7 := by rw [<- hG7]; exact lx6.own hkb
    clear hG7
    (refine @unH _ ?_; refine z5 y5_124 ?_)
    refine planX_act ?_
    (refine @unH _ ?_; refine zX y5_124 ?_)
    refine ⟨(by first | exact s1 | (rw [usedL_len]; exact s1) | (simp only [List.size_toArray, usedL_len]; exact s1)), .inr trivial, plan_nil (hK _ _ ?_)⟩
    clear hK K
    (try simp only [nq, ↓reduceIte, Nat.reduceEqDiff])
    generalize hG8 : Hp.set H7 ub _ = H8
    have vub8 := at_of_set hG8
    have vkb8 := other_of_set hG8 vkb7 nku
    have lx8 : Lex none H5 H8 := by rw [<- hG8]; exact lx7.own hub
    clear hG8 vkb7 vub7 vq7 lx7
    (refine @unH _ ?_; refine zA y5_124 ?_; (repeat (refine inC ?_; intro hc)); try (refine inK ?_; intro K hK))
    refine ⟨_, by omega, _, i + 1, rfl, hlt, rfl, e3, e4, e5, e6, e7, e9, e11, e12, ?_, rfl, lx8, ?_, ?_⟩
    ·rw [show FF (i + 1) = q + 1 from hFn]; exact e13
    ·rw [show backL (BS (i + 1)) n.barrows.toNat = (backL (BS i) n.barrows.toNat).set p (.int .i64 (r1 + mi)) from s5]; simpa using vkb8
    ·rw [show usedL (BS (i + 1)) n.barrows.toNat = (usedL (BS i) n.barrows.toNat).set p (.bool true) from s4]; simpa using vub8
   | true =>
    have hO : max (dd - n.notice) bp = r1 := ((show true = true -> r1 = max (dd - n.notice) bp from t9) rfl).symm
    have hO2 : (if dd - n.notice < bp then bp else dd - n.notice) = r1 := by rw [<- hO]; split <;> omega
    (refine @unH _ ?_; refine zA y5_124 ?_; (repeat (refine inC ?_; intro hc)); try (refine inK ?_; intro K hK))
    refine wpX_dlast (fun HX => HX q1 = some (p1, .cells k1 61 f1)) 20 [(true, 0), (true, 1), (true, 2), (true, 3), (true, 4), (true, 5), (true, 6), (true, 7), (true, 8), (true, 9), (true, 10), (true, 11), (true, 12), (true, 13), (true, 14), (true, 15), (true, 16), (true, 17), (false, 18), (true, 19), (false, 20)] (by kernel_rfl) (by kernel_rfl) (by decide) (by kernel_rfl) ?_; intro K hK
    (iterate 18 (refine @unH _ ?_; refine z5 y5_124 ?_))
    refine planX_act ?_
    (refine @unH _ ?_; refine zX y5_124 ?_)
    refine ⟨(by first | exact s1 | (rw [backL_len]; exact s1) | (simp only [List.size_toArray, backL_len]; exact s1)), .inr trivial, ?_⟩
    generalize hG7 : Hp.set H6 kb _ = H7
    have vkb7 := at_of_set hG7
    have vub7 := other_of_set hG7 vub6 nku.symm
    have vq7 := other_of_set hG7 hq1 nq1k
    have lx7 : Lex none H5 H7 := by rw [<- hG7]; exact lx6.own hkb
    clear hG7
    (refine @unH _ ?_; refine z5 y5_124 ?_)
    refine planX_act ?_
    (refine @unH _ ?_; refine zX y5_124 ?_)
    refine ⟨(by first | exact s1 | (rw [usedL_len]; exact s1) | (simp only [List.size_toArray, usedL_len]; exact s1)), .inr trivial, plan_nil (hK _ _ ?_)⟩
    clear hK K
    (try simp only [nq, ↓reduceIte, Nat.reduceEqDiff])
    generalize hG8 : Hp.set H7 ub _ = H8
    have vub8 := at_of_set hG8
    have vkb8 := other_of_set hG8 vkb7 nku
    have lx8 : Lex none H5 H8 := by rw [<- hG8]; exact lx7.own hub
    clear hG8 vkb7 vub7 vq7 lx7
    (refine @unH _ ?_; refine zA y5_124 ?_; (repeat (refine inC ?_; intro hc)); try (refine inK ?_; intro K hK))
    refine ⟨_, by omega, _, i + 1, rfl, hlt, rfl, e3, e4, e5, e6, e7, e9, e11, e12, ?_, rfl, lx8, ?_, ?_⟩
    ·rw [show FF (i + 1) = q + 1 from hFn]; exact e13
    ·rw [show backL (BS (i + 1)) n.barrows.toNat = (backL (BS i) n.barrows.toNat).set p (.int .i64 (r1 + mi)) from s5]; simpa using vkb8
    ·rw [show usedL (BS (i + 1)) n.barrows.toNat = (usedL (BS i) n.barrows.toNat).set p (.bool true) from s4]; simpa using vub8
  ·obtain rfl : i = pl.length := by omega
   (refine @unH _ ?_; refine zA y5_124 ?_; (repeat (refine inC ?_; intro hc)); try (refine inK ?_; intro K hK))
   refine (driven_spec H6).runs.mono ?_
   rintro _ H8 ⟨rfl, lH8⟩
   ((try (refine @unH _ ?_; refine zX y5_124 ?_)); (try (refine hK _ _ ?_; clear hK K; (try simp only [nq, ↓reduceIte, Nat.reduceEqDiff]))); refine @unH _ ?_; refine zA y5_124 ?_; (repeat (refine inC ?_; intro hc)); try (refine inK ?_; intro K hK))
   (refine wpX_ret ?_; (try simp only [nq, ↓reduceIte, Nat.reduceEqDiff]); rw [bodyX_ret, results_one Tryz.results5 (by decide)]; simp only [upd_get, Nat.reduceEqDiff, ↓reduceIte])
 refine planT_two ?_ ?_
 ·(refine @unH _ ?_; refine zX y5_124 ?_)
  intro kb hkb
  have nhkb : hb ≠ kb := ne_new vhb5 hkb
  have vkb : (H5.set kb (.cells (Array.replicate n.barrows.toNat (.int .i64 0)) 3 (0, 0))) kb = some (true, (.cells (Array.replicate n.barrows.toNat (.int .i64 0)) 3 (0, 0))) := set_at
  have vhb6 := Hp.le_set hkb (o := (.cells (Array.replicate n.barrows.toNat (.int .i64 0)) 3 (0, 0))) _ _ vhb5
  have l6 : H5.le (H5.set kb (.cells (Array.replicate n.barrows.toNat (.int .i64 0)) 3 (0, 0))) := Hp.le_set hkb
  refine ⟨by first | exact vhb6 | (rw [if_neg nhkb]) | (rw [if_neg nhkb]; exact vhb5) | trivial, ?_⟩
  generalize H5.set kb (.cells (Array.replicate n.barrows.toNat (.int .i64 0)) 3 (0, 0)) = H6 at *
  (refine @unH _ ?_; refine z4 y5_124 ?_)
  refine planT_one ?_
  (refine @unH _ ?_; refine zX y5_124 ?_)
  intro ub hub
  have nhub : hb ≠ ub := ne_new vhb6 hub
  have n1 : kb ≠ ub := ne_new vkb hub
  have hub0 : H5 ub = none := Hp.le_none l6 hub
  have vub : (H6.set ub (.cells (Array.replicate n.barrows.toNat (.bool false)) 4 (0, 0))) ub = some (true, (.cells (Array.replicate n.barrows.toNat (.bool false)) 4 (0, 0))) := set_at
  have vkb7 := Hp.le_set hub (o := (.cells (Array.replicate n.barrows.toNat (.bool false)) 4 (0, 0))) _ _ vkb
  have vhb7 := Hp.le_set hub (o := (.cells (Array.replicate n.barrows.toNat (.bool false)) 4 (0, 0))) _ _ vhb6
  have l7 : H5.le (H6.set ub (.cells (Array.replicate n.barrows.toNat (.bool false)) 4 (0, 0))) := Hp.le_trans l6 (Hp.le_set hub)
  refine ⟨by first | exact vhb7 | (rw [if_neg nhub]) | (rw [if_neg nhub]; exact vhb6) | trivial, ?_⟩
  generalize H6.set ub (.cells (Array.replicate n.barrows.toNat (.bool false)) 4 (0, 0)) = H7 at *
  (refine @unH _ ?_; refine z4 y5_124 ?_)
  exact planT_nil (key kb ub _ _ hkb hub0 n1 l7 vkb7 vub rfl rfl rfl rfl rfl rfl rfl rfl)
 ·(refine @unH _ ?_; refine zX y5_124 ?_)
  intro ub hub
  have nhub : hb ≠ ub := ne_new vhb5 hub
  have vub : (H5.set ub (.cells (Array.replicate n.barrows.toNat (.bool false)) 4 (0, 0))) ub = some (true, (.cells (Array.replicate n.barrows.toNat (.bool false)) 4 (0, 0))) := set_at
  have vhb6 := Hp.le_set hub (o := (.cells (Array.replicate n.barrows.toNat (.bool false)) 4 (0, 0))) _ _ vhb5
  have l6 : H5.le (H5.set ub (.cells (Array.replicate n.barrows.toNat (.bool false)) 4 (0, 0))) := Hp.le_set hub
  refine ⟨by first | exact vhb6 | (rw [if_neg nhub]) | (rw [if_neg nhub]; exact vhb5) | trivial, ?_⟩
  generalize H5.set ub (.cells (Array.replicate n.barrows.toNat (.bool false)) 4 (0, 0)) = H6 at *
  refine planT_one ?_
  (refine @unH _ ?_; refine zX y5_124 ?_)
  intro kb hkb
  have nhkb : hb ≠ kb := ne_new vhb6 hkb
  have n1 : ub ≠ kb := ne_new vub hkb
  have hkb0 : H5 kb = none := Hp.le_none l6 hkb
  have vkb : (H6.set kb (.cells (Array.replicate n.barrows.toNat (.int .i64 0)) 3 (0, 0))) kb = some (true, (.cells (Array.replicate n.barrows.toNat (.int .i64 0)) 3 (0, 0))) := set_at
  have vub7 := Hp.le_set hkb (o := (.cells (Array.replicate n.barrows.toNat (.int .i64 0)) 3 (0, 0))) _ _ vub
  have vhb7 := Hp.le_set hkb (o := (.cells (Array.replicate n.barrows.toNat (.int .i64 0)) 3 (0, 0))) _ _ vhb6
  have l7 : H5.le (H6.set kb (.cells (Array.replicate n.barrows.toNat (.int .i64 0)) 3 (0, 0))) := Hp.le_trans l6 (Hp.le_set hkb)
  refine ⟨by first | exact vhb7 | (rw [if_neg nhkb]) | (rw [if_neg nhkb]; exact vhb6) | trivial, ?_⟩
  generalize H6.set kb (.cells (Array.replicate n.barrows.toNat (.int .i64 0)) 3 (0, 0)) = H7 at *
  (refine @unH _ ?_; refine z4 y5_124 ?_)
  (refine @unH _ ?_; refine z4 y5_124 ?_)
  exact planT_nil (key kb ub _ _ hkb0 hub n1.symm l7 vkb vub7 rfl rfl rfl rfl rfl rfl rfl rfl)
end Go.Proofs.YtofmadjgbcopdaaGreatDoor
end
section
namespace Go.Proofs.YtofmadjgbcopdaaGreatDoor
open Go Go.X Go.ChangeShapes Go.WideShapes Go.RowKit
set_option maxRecDepth 100000 in
theorem law_lifted (os : Os) (started : os.Started) (H : Type) (enc : TypeId × Value -> H) :
  ReturnsInLeavingWide {} Tryz.checked os 5 .any (fun w args => (Rows.barrowRidesSpec.pre enc Tryz.prog Tryz.f5 [] false w args /\ laidMetH Tryz.prog [("errors.errorType", Rows.laid_errors_errorType)] w) /\ sizedMet enc Tryz.prog Tryz.f5 (OpenSpec.ofChange Rows.barrowRidesSpec) false w args)
   (Rows.barrowRidesSpec.post enc Tryz.prog Tryz.f5 false true false false) := by
 refine leaving_of_change_and (C := Tryz.checked) (X := fun w _ => laidMetH Tryz.prog [("errors.errorType", Rows.laid_errors_errorType)] w) (fun _ _ _ hh h => h.of_heap hh) ownK started Tryz.func5
  (ChangeSpec.witness_at (enc := enc) (C := Tryz.checked) (os := os) (X := fun w _ => laidMetH Tryz.prog [("errors.errorType", Rows.laid_errors_errorType)] w) false (laidWorld os) #[.slice none 0 0] 8 rfl (by kernel_rfl) (by kernel_rfl) (by kernel_rfl) (by kernel_rfl) (by kernel_rfl) (laidWorld_met os _)) ?_
 intro W base args ds gs before hval0 hW hL
 have hval : ∀ (j : Nat) t v, Tryz.f5.params[j]? = some t -> args[j]? = some v -> Value.okWide Tryz.prog W .any base t v := hval0
 have hW' := hW
 obtain ⟨p, q, hA0, hV0, rfl, hfz, hnd⟩ := hW
 have hA : DataW.TrodAll enc Tryz.prog W 0 (fun _ => true) true Tryz.f5.params.toList args.toList ds p := hA0
 have hV : DataW.TrodVars enc Tryz.prog W (fun _ => true) [] gs q := hV0
 rw [Tryz.params5] at hA hval
 obtain ⟨v0, d0, rfl, rfl, h0⟩ := trodAll_one hA
 obtain ⟨a0, len, cap, rfl⟩ := okWide_slice Tryz.underlying22 (hval 0 22 v0 rfl rfl)
 have h0k := h0
 obtain ⟨fuel, hf⟩ := h0
 obtain ⟨rfl, rfl⟩ : gs = [] /\ q = [] := by
  cases gs with
  | nil => exact ⟨rfl, hV⟩
  | cons g r => exact absurd hV (by intro h; cases h)
 have e1 : Rows.barrowRidesSpec.fn H ([d0] ++ []) = { results := [.lit (.bool true)], args := [d0] } := by simp [Rows.barrowRidesSpec]
 have hcells : ∀ i : Nat, i < len -> ∃ sb so c e fr x, a0 = some ⟨sb, so, none⟩ /\ allShared W sb = some (false, .cells c e fr) /\ c[so + i]? = some (.int .i64 x) := by
  rcases open_ints Tryz.underlying22 Tryz.underlying3 cellsK hf with ⟨hcs, _⟩ | ⟨a, len', cap', zs, hcs, _, hl, hm, hz, hx, hcell, hwz⟩
  ·simp [Value.cells] at hcs
   intro i hi
   omega
  ·simp [Value.cells] at hcs
   obtain ⟨rfl, rfl, rfl⟩ := hcs
   intro i hi
   simp only [if_true] at hz
   have hc := hcell i (by omega)
   obtain ⟨b, off, spot⟩ := a
   have hspot : spot = none := by simpa [Addr.add] using World.cell?_spot (hcell 0 (by omega))
   subst hspot
   rw [add_plain] at hc
   unfold World.cell? at hc
   split at hc
   ·rename_i c e fr hb
    exact ⟨b, off, c, e, fr, _, rfl, by simp [allShared, hb], by simpa using hc⟩
   ·cases hc
 have hlt : ∀ x ∈ p, x.block < W.heap.size := fun x hx => by simpa using hW'.lt x (by simpa using hx)
 obtain ⟨N, last, o, w', t', r1, r2, r3, v, hv, ⟨rfl, hB⟩, r4⟩ := (brides_spec (allShared W) a0 len cap hcells).good Tryz.func5 (results_tmp Tryz.results5 _) (by kernel_rfl)
 refine ⟨N, last, o, w', t', r1, r2, r3, _, hv, ?_, r4⟩
 have hb := hB.below
 refine ⟨_, _, _, [], p, [], hW', ?_, ?_, ?_, hB.kept _, fun h => by cases h⟩
 ·rw [e1]; exact trodAll_mk1 (shut_bool Tryz.underlying4 true)
 ·rw [e1]
  have t := trodAll_mk1 (DataW.Trod.of_heap (w := { w' with tape := W.tape }) (w' := w') rfl (Below.trod laidOutK (by kernel_rfl) (of_decide_eq_true (by kernel_rfl)) h0k hb hlt))
  exact t
 ·rw [e1]; rfl
end Go.Proofs.YtofmadjgbcopdaaGreatDoor
end
section
namespace Go.Proofs.YtofmadjgbcopdaaGreatDoor
open Go Go.X Go.ChangeShapes Go.WideShapes Go.RowKit
theorem jEnter : Program.mayEnter Tryz.pinned.checked.prog = true := factEnter
theorem jLift : (Rows.barrowRidesRow.lifted == Program.liftsFinal Tryz.pinned.checked.prog) = true := by rw [show Program.liftsFinal Tryz.pinned.checked.prog = Rows.barrowRidesRow.lifted from factLift]; exact beq_self_eq_true _
theorem jMake : (Program.make Tryz.pinned.checked.prog == some Rows.barrowRidesRow.make) = true := by rw [show Program.make Tryz.pinned.checked.prog = some Rows.barrowRidesRow.make from factMake]; exact beq_self_eq_true _
set_option maxRecDepth 100000 in
theorem jf : joinedFacts Tryz.pinned.checked.prog 5 Tryz.f5 Rows.barrowRidesSpec Rows.barrowRidesRow = true := by
 unfold joinedFacts
 simp only [jEnter, jLift, jMake, Bool.and_true]
 kernel_rfl
set_option maxRecDepth 100000 in
theorem barrowRides_said : Rows.BarrowRidesSaid :=
 OpenClaim.holds_of_wide_leaving 5 Tryz.f5 rfl rfl rfl rfl rfl rfl rfl ⟨rfl, rfl, rfl, rfl, rfl⟩ rfl rfl rfl rfl rfl (by kernel_rfl) Tryz.func5 jf
  (of_decide_eq_true (by kernel_rfl)) (by unfold Func.isWrapper; rw [if_neg (of_decide_eq_false (by kernel_rfl))]; exact ⟨rfl, rfl⟩)
  (fun os started H enc _ => law_lifted os started H enc)
end Go.Proofs.YtofmadjgbcopdaaGreatDoor
end
