/- Texts LawB BFaster PBarrowFaster SBarrowFaster. -/
import Derived.Test.YtofmadjgbcopdaaGreatDoorJ10
import Derived.Test.YtofmadjgbcopdaaGreatDoorAFactA
import Derived.Test.YtofmadjgbcopdaaGreatDoorAFactB
import Derived.Test.YtofmadjgbcopdaaGreatDoorAFactC
set_option linter.defProp false
set_option linter.unusedSimpArgs false
set_option linter.unusedVariables false
set_option maxRecDepth 100000
set_option maxHeartbeats 2000000
section
namespace Go.Proofs.YtofmadjgbcopdaaGreatDoor
open Go Go.X
def laterB (by_ : Int) (bs bs' : List Int) : Prop := bs.length = bs'.length /\ ∀ i, i < bs.length -> (bs.getD i 0 = -1048576 /\ bs'.getD i 0 = -1048576) ∨ (-1000 <= bs.getD i 0 /\ bs'.getD i 0 = bs.getD i 0 + by_)
theorem laterB.pick {by_ : Int} {bs bs' : List Int} (h0 : 0 <= by_) (h : laterB by_ bs bs') : ∀ B, B <= bs.length -> pickB bs' B = pickB bs B
 | 0, _ => rfl
 | B + 1, hB => by
  unfold pickB
  have ih := h.pick h0 B (by omega)
  rw [ih]
  by_cases hB0 : B = 0
  ·rw [if_pos hB0, if_pos hB0]
  ·rw [if_neg hB0, if_neg hB0]
   have hp := pickB_lt bs B (by omega)
   have h1 := h.2 B (by omega)
   have h2 := h.2 (pickB bs B) (by omega)
   have e : bs'.getD B 0 < bs'.getD (pickB bs B) 0 ↔ bs.getD B 0 < bs.getD (pickB bs B) 0 := by omega
   by_cases hc : bs.getD B 0 < bs.getD (pickB bs B) 0
   ·rw [if_pos hc, if_pos (e.2 hc)]
   ·rw [if_neg hc, if_neg (mt e.1 hc)]
def RideV.later (r : RideV) (by_ : Int) : RideV := ⟨r.barrow, r.out + by_, r.back + by_⟩
end Go.Proofs.YtofmadjgbcopdaaGreatDoor
end
section
namespace Go.Proofs.YtofmadjgbcopdaaGreatDoor
open Go Go.X
def y6_117 := And.intro @callF21 (And.intro @callF41 (And.intro (fun H => ex_alloc (H := H) (P := Tryz.prog) (h := Tryz.zeroValue29)) (And.intro (fun H => storeAt_agg (H := H) Tryz.sizeOf29) (And.intro (fun H => loadAt_aggE (H := H) Tryz.underlying29 rfl Tryz.sizeOf29) (And.intro (fun H => fieldAt_eq (H := H) Tryz.underlying29 (i := 6) rfl (off := 9) rfl Tryz.sizeOf3) (And.intro (fun H => loadAt_one (H := H) Tryz.underlying3 rfl) (And.intro @min_int (And.intro (fun H => fieldAt_eq (H := H) Tryz.underlying29 (i := 4) rfl (off := 7) rfl Tryz.sizeOf3) (And.intro (fun H => storeAt_int (H := H) Tryz.sizeOf3) (And.intro @callF34 (And.intro @callF24 (And.intro (fun H => len_slice (H := H) Tryz.underlying22) (And.intro (fun H => indexAt_slice (H := H) Tryz.underlying22 Tryz.sizeOf3) @callF20)))))))))))))
theorem faster_law {H : Hp} {n : HN} {v : HV} (hd : HaulIn H n v) {mi r : Int} (h1 : 1 <= r) (hr : r <= mi) (pl : List Nat) (bx ny : Int) (hb : bx = min 4 (n.barrows + 1)) (hn : ny = min 30 (n.notice + 1)) (k : Nat) (x y : Int) (hy : (lateG n n.jobs mi pl bs0 0)[k]? = some y) :
  ((lateG n n.jobs r pl bs0 0)[k]? = some x -> x <= y) /\ ((lateG { n with barrows := bx } n.jobs mi pl bs0 0)[k]? = some x -> x <= y) /\ ((lateG { n with notice := ny } n.jobs mi pl bs0 0)[k]? = some x -> x <= y) := by
 have b1 := hd.b1
 have b4 := hd.b4
 have n30 := hd.n30
 refine ⟨fun hx => ?_, fun hx => ?_, fun hx => ?_⟩
 ·exact late_mono (n := n) (n' := n) n.jobs mi r rfl (Int.le_refl _) b1 b4 b1 b4 hr h1 pl bs0 bs0 0 rfl rfl (fun t => Nat.le_refl _) k x y hx hy
 ·exact late_mono (n := n) (n' := { n with barrows := bx }) n.jobs mi mi rfl (Int.le_refl _) b1 b4 (by show 1 <= bx; omega) (by show bx <= 4; omega) (Int.le_refl _) (by omega) pl bs0 bs0 0 rfl rfl (fun t => cntB_mono bs0 t _ _ (by show n.barrows.toNat <= bx.toNat; omega)) k x y hx hy
 ·exact late_mono (n := n) (n' := { n with notice := ny }) n.jobs mi mi rfl (by show n.notice <= ny; omega) b1 b4 b1 b4 (Int.le_refl _) (by omega) pl bs0 bs0 0 rfl rfl (fun t => Nat.le_refl _) k x y hx hy
theorem SlI.at {H : Hp} {a : Option Addr} {n cap : Nat} {xs : List Int} (h : SlI H (.slice a n cap) xs) {i : Nat} {x : Int} (hx : xs[i]? = some x) : ∃ (b o : Nat) (p : Bool) (c : Array Value) (fr : Nat × Nat), a = some ⟨b, o, none⟩ /\ H b = some (p, .cells c 3 fr) /\ c[o + i]? = some (.int .i64 x) := by
 obtain ⟨a', cap', he, _, hg⟩ := h
 cases he
 exact hg i x hx
theorem bfaster_spec (H : Hp) (sa : Option Addr) (sl sc : Nat) (hs : ∀ i : Nat, i < sl -> ∃ sb so c e fr x, sa = some ⟨sb, so, none⟩ /\ H sb = some (false, .cells c e fr) /\ c[so + i]? = some (.int .i64 x)) :
  FnX Tryz.prog (.co Tryz.prog) 6 #[.slice sa sl sc] H fun e _ => e = .returned (.bool true) := by
 refine FnX_start Tryz.func6 rfl Tryz.ntmps6 (by simp) ?_
 (refine @unH _ ?_; refine zA y6_117 ?_; (repeat (refine inC ?_; intro hc)); try (refine inK ?_; intro K hK))
 refine (newTin_spec _ H sa sl sc hs 250 (by omega)).runs.mono ?_
 rintro _ H1 ⟨tb, rfl, l1, hT⟩
 ((try (refine @unH _ ?_; refine zX y6_117 ?_)); (try (refine hK _ _ ?_; clear hK K; (try simp only [nq, ↓reduceIte, Nat.reduceEqDiff]))); refine @unH _ ?_; refine zA y6_117 ?_; (repeat (refine inC ?_; intro hc)); try (refine inK ?_; intro K hK))
 refine (made_spec _ H1 tb 10 8 (by omega) hT).runs.mono ?_
 rintro _ H2 ⟨n, v, jv, pv, pl, mi, rfl, hd2, hx8, hj2, hp2, hok, hm1, hm20, _, hT2⟩
 obtain ⟨hj8, hjb, _⟩ := hd2.jobs
 have b1 := hd2.b1
 have b4 := hd2.b4
 have n0 := hd2.n0
 have n30 := hd2.n30
 obtain ⟨bx, hbx⟩ : ∃ bx : Int, bx = min 4 (n.barrows + 1) := ⟨_, rfl⟩
 obtain ⟨ny, hny⟩ : ∃ ny : Int, ny = min 30 (n.notice + 1) := ⟨_, rfl⟩
 have hlaw := fun r h1 hr k x y hy => faster_law hd2 (mi := mi) (r := r) h1 hr pl bx ny hbx hny k x y hy
 have hl0 := fun H' h' hp' => Late_spec (.co Tryz.prog) H' n v h' pv pl hp' hok hj8 hjb mi hm1 hm20
 have hl1 := fun r h1 h20 H' h' hp' => Late_spec (.co Tryz.prog) H' n v h' pv pl hp' hok hj8 hjb r h1 h20
 have hl2 := fun H' (h' : HaulIn H' n v) hp' => Late_spec (.co Tryz.prog) H' { n with barrows := bx } v { h' with b1 := by show 1 <= bx; omega, b4 := by show bx <= 4; omega } pv pl hp' ⟨hok.p1, hok.p2, hok.ps⟩ hj8 hjb mi hm1 hm20
 have hl3 := fun H' (h' : HaulIn H' n v) hp' => Late_spec (.co Tryz.prog) H' { n with notice := ny } v { h' with n0 := by show 0 <= ny; omega, n30 := by show ny <= 30; omega } pv pl hp' ⟨hok.p1, hok.p2, hok.ps⟩ hj8 hjb mi hm1 hm20
 have e2 : HN.jobs { n with barrows := bx } = n.jobs := rfl
 have e3 : HN.jobs { n with notice := ny } = n.jobs := rfl
 rw [e2] at hl2
 rw [e3] at hl3
 clear e2 e3
 have hlen : ∀ m, (lateG n n.jobs m pl bs0 0).length = n.jobs.length := fun m => by rw [lateG_length]; exact hok.ps
 have hlen2 : (lateG { n with barrows := bx } n.jobs mi pl bs0 0).length = n.jobs.length := by rw [lateG_length]; exact hok.ps
 have hlen3 : (lateG { n with notice := ny } n.jobs mi pl bs0 0).length = n.jobs.length := by rw [lateG_length]; exact hok.ps
 obtain ⟨LF, hLF⟩ : ∃ LF : Int -> List Int, ∀ m, lateG n n.jobs m pl bs0 0 = LF m := ⟨_, fun _ => rfl⟩
 generalize lateG { n with barrows := bx } n.jobs mi pl bs0 0 = L2 at *
 generalize lateG { n with notice := ny } n.jobs mi pl bs0 0 = L3 at *
 simp only [hLF] at hlaw hl0 hl1 hlen
 clear hLF
 obtain ⟨sv, cv, tv, xv⟩ := v
 obtain ⟨a1, n1, c1, hsv⟩ := hd2.day.st.isSlice
 obtain ⟨a2, n2, c2, hcv⟩ := hd2.day.calls.isSlice
 obtain ⟨a3, n3, c3, htv⟩ := hd2.day.truth.isSlice
 obtain ⟨a4, n4, c4, hxv⟩ := hd2.times.isSlice
 simp only [] at hsv hcv htv hxv
 subst hsv hcv htv hxv
 obtain ⟨a5, n5, c5, rfl⟩ := hj2.isSlice
 obtain ⟨a6, n6, c6, rfl⟩ := hp2.isSlice
 generalize n.jobs.length = J at *
 simp only [HN.agg] at hl0 hl1 hl2 hl3 ⊢
 replace hl0 : SameP _ := hl0
 replace hl1 : SameP _ := hl1
 replace hl2 : SameP _ := hl2
 replace hl3 : SameP _ := hl3
 replace hlaw : SameP _ := hlaw
 replace hlen : SameP _ := hlen
 replace hlen2 : SameP _ := hlen2
 replace hlen3 : SameP _ := hlen3
 replace hbx : SameP _ := hbx
 replace hny : SameP _ := hny
 clear hT hs l1 hjb hok hj2
 ((try (refine @unH _ ?_; refine zX y6_117 ?_)); (try (refine hK _ _ ?_; clear hK K; (try simp only [nq, ↓reduceIte, Nat.reduceEqDiff]))); refine @unH _ ?_; refine zA y6_117 ?_; (repeat (refine inC ?_; intro hc)); try (refine inK ?_; intro K hK))
 intro hb hhb
 have hhbn := hT2.ne hhb
 have vhb : (H2.set hb (.cells #[.int .i64 n.places, .int .i64 n.pieces, .slice a1 n1 c1, .slice a2 n2 c2, .slice a3 n3 c3, .int .i64 n.rule, .slice a4 n4 c4, .int .i64 n.notice, .int .i64 n.load, .int .i64 n.barrows, .int .i64 n.lo, .int .i64 n.hi] 29 (0, 0))) hb = some (true, (.cells #[.int .i64 n.places, .int .i64 n.pieces, .slice a1 n1 c1, .slice a2 n2 c2, .slice a3 n3 c3, .int .i64 n.rule, .slice a4 n4 c4, .int .i64 n.notice, .int .i64 n.load, .int .i64 n.barrows, .int .i64 n.lo, .int .i64 n.hi] 29 (0, 0))) := set_at
 have hd3 := hd2.le (Hp.le_set hhb (o := (.cells #[.int .i64 n.places, .int .i64 n.pieces, .slice a1 n1 c1, .slice a2 n2 c2, .slice a3 n3 c3, .int .i64 n.rule, .slice a4 n4 c4, .int .i64 n.notice, .int .i64 n.load, .int .i64 n.barrows, .int .i64 n.lo, .int .i64 n.hi] 29 (0, 0))))
 have hp3 := hp2.le (Hp.le_set hhb (o := (.cells #[.int .i64 n.places, .int .i64 n.pieces, .slice a1 n1 c1, .slice a2 n2 c2, .slice a3 n3 c3, .int .i64 n.rule, .slice a4 n4 c4, .int .i64 n.notice, .int .i64 n.load, .int .i64 n.barrows, .int .i64 n.lo, .int .i64 n.hi] 29 (0, 0))))
 have hT3 := hT2.new hhb (o := (.cells #[.int .i64 n.places, .int .i64 n.pieces, .slice a1 n1 c1, .slice a2 n2 c2, .slice a3 n3 c3, .int .i64 n.rule, .slice a4 n4 c4, .int .i64 n.notice, .int .i64 n.load, .int .i64 n.barrows, .int .i64 n.lo, .int .i64 n.hi] 29 (0, 0)))
 generalize H2.set hb (.cells #[.int .i64 n.places, .int .i64 n.pieces, .slice a1 n1 c1, .slice a2 n2 c2, .slice a3 n3 c3, .int .i64 n.rule, .slice a4 n4 c4, .int .i64 n.notice, .int .i64 n.load, .int .i64 n.barrows, .int .i64 n.lo, .int .i64 n.hi] 29 (0, 0)) = H3 at *
 clear hd2 hp2 hT2 hhb
 ((try (refine @unH _ ?_; refine zX y6_117 ?_)); (try (refine hK _ _ ?_; clear hK K; (try simp only [nq, ↓reduceIte, Nat.reduceEqDiff]))); refine @unH _ ?_; refine zA y6_117 ?_; (repeat (refine inC ?_; intro hc)); try (refine inK ?_; intro K hK))
 refine wpX_tlast (fun HX => HX hb = some (true, (.cells #[.int .i64 n.places, .int .i64 n.pieces, .slice a1 n1 c1, .slice a2 n2 c2, .slice a3 n3 c3, .int .i64 n.rule, .slice a4 n4 c4, .int .i64 n.notice, .int .i64 n.load, .int .i64 n.barrows, .int .i64 n.lo, .int .i64 n.hi] 29 (0, 0)))) (.take 0 (.take 1 (.two 2 (.one 3 (.one 4 (.one 5 .nil))) 3 (.one 2 (.one 4 (.one 5 .nil)))))) (by kernel_rfl) (by kernel_rfl) (by decide) (by kernel_rfl) ?_; intro K hK
 (iterate 2 (refine @unH _ ?_; refine z4 y6_117 ?_))
 have key : ∀ (xb yb : Nat) (H' : Hp) (e : Nat -> Value), hb ≠ xb -> hb ≠ yb -> xb ≠ yb -> tb ≠ xb -> tb ≠ yb -> H' hb = some (true, (.cells #[.int .i64 n.places, .int .i64 n.pieces, .slice a1 n1 c1, .slice a2 n2 c2, .slice a3 n3 c3, .int .i64 n.rule, .slice a4 n4 c4, .int .i64 n.notice, .int .i64 n.load, .int .i64 n.barrows, .int .i64 n.lo, .int .i64 n.hi] 29 (0, 0))) -> H' xb = some (true, (.cells #[.int .i64 n.places, .int .i64 n.pieces, .slice a1 n1 c1, .slice a2 n2 c2, .slice a3 n3 c3, .int .i64 n.rule, .slice a4 n4 c4, .int .i64 n.notice, .int .i64 n.load, .int .i64 n.barrows, .int .i64 n.lo, .int .i64 n.hi] 29 (0, 0))) -> H' yb = some (true, (.cells #[.int .i64 n.places, .int .i64 n.pieces, .slice a1 n1 c1, .slice a2 n2 c2, .slice a3 n3 c3, .int .i64 n.rule, .slice a4 n4 c4, .int .i64 n.notice, .int .i64 n.load, .int .i64 n.barrows, .int .i64 n.lo, .int .i64 n.hi] 29 (0, 0))) -> HaulIn H' n ⟨.slice a1 n1 c1, .slice a2 n2 c2, .slice a3 n3 c3, .slice a4 n4 c4⟩ -> SlI H' (.slice a6 n6 c6) (pl.map fun x : Nat => (x : Int)) -> TinI H' tb 10 ->
   e 3 = .pointer (some ⟨tb, 0, none⟩) -> e 4 = .pointer (some ⟨hb, 0, none⟩) -> e 6 = .slice a6 n6 c6 -> e 7 = .int .i64 mi -> e 8 = .pointer (some ⟨xb, 0, none⟩) -> e 9 = .pointer (some ⟨yb, 0, none⟩) -> K (act 143 e []) H' := by
  intro xb yb H4 e nhx nhy nxy ntx nty vhb4 vxb4 vyb4 hd4 hp4 hT4 e3 e4 e6 e7 e8 e9
  refine hK _ _ ?_
  clear hK K
  (try simp only [nq, ↓reduceIte, Nat.reduceEqDiff])
  (refine @unH _ ?_; refine zA y6_117 ?_; (repeat (refine inC ?_; intro hc)); try (refine inK ?_; intro K hK))
  refine wpX_dlast (fun HX => HX hb = some (true, (.cells #[.int .i64 n.places, .int .i64 n.pieces, .slice a1 n1 c1, .slice a2 n2 c2, .slice a3 n3 c3, .int .i64 n.rule, .slice a4 n4 c4, .int .i64 n.notice, .int .i64 n.load, .int .i64 n.barrows, .int .i64 n.lo, .int .i64 n.hi] 29 (0, 0)))) 11 [(true, 0), (true, 1), (true, 2), (true, 3), (true, 4), (true, 5), (true, 6), (true, 7), (true, 8), (false, 9), (true, 10), (false, 11)] (by kernel_rfl) (by kernel_rfl) (by decide) (by kernel_rfl) ?_; intro K hK
  (iterate 9 (refine @unH _ ?_; refine z5 y6_117 ?_))
  rw [show (if n.notice + 1 < 30 then n.notice + 1 else 30) = ny by rw [show ny = _ from hny]; split <;> omega, show (if n.barrows + 1 < 4 then n.barrows + 1 else 4) = bx by rw [show bx = _ from hbx]; split <;> omega]
  refine planX_act ?_
  (refine @unH _ ?_; refine zX y6_117 ?_)
  refine ⟨.inr trivial, ?_⟩
  have vxb5 : (H4.set xb (.cells #[.int .i64 n.places, .int .i64 n.pieces, .slice a1 n1 c1, .slice a2 n2 c2, .slice a3 n3 c3, .int .i64 n.rule, .slice a4 n4 c4, .int .i64 n.notice, .int .i64 n.load, .int .i64 bx, .int .i64 n.lo, .int .i64 n.hi] 29 (0, 0))) xb = some (true, (.cells #[.int .i64 n.places, .int .i64 n.pieces, .slice a1 n1 c1, .slice a2 n2 c2, .slice a3 n3 c3, .int .i64 n.rule, .slice a4 n4 c4, .int .i64 n.notice, .int .i64 n.load, .int .i64 bx, .int .i64 n.lo, .int .i64 n.hi] 29 (0, 0))) := set_at
  have vyb5 : (H4.set xb (.cells #[.int .i64 n.places, .int .i64 n.pieces, .slice a1 n1 c1, .slice a2 n2 c2, .slice a3 n3 c3, .int .i64 n.rule, .slice a4 n4 c4, .int .i64 n.notice, .int .i64 n.load, .int .i64 bx, .int .i64 n.lo, .int .i64 n.hi] 29 (0, 0))) yb = _ := (set_ne nxy.symm).trans vyb4
  have vhb5 : (H4.set xb (.cells #[.int .i64 n.places, .int .i64 n.pieces, .slice a1 n1 c1, .slice a2 n2 c2, .slice a3 n3 c3, .int .i64 n.rule, .slice a4 n4 c4, .int .i64 n.notice, .int .i64 n.load, .int .i64 bx, .int .i64 n.lo, .int .i64 n.hi] 29 (0, 0))) hb = _ := (set_ne nhx).trans vhb4
  have hd5 := hd4.move (set_keeps vxb4 (by decide) (by decide) (o := (.cells #[.int .i64 n.places, .int .i64 n.pieces, .slice a1 n1 c1, .slice a2 n2 c2, .slice a3 n3 c3, .int .i64 n.rule, .slice a4 n4 c4, .int .i64 n.notice, .int .i64 n.load, .int .i64 bx, .int .i64 n.lo, .int .i64 n.hi] 29 (0, 0))))
  have hp5 := hp4.set (fun p c fr h => by rw [vxb4] at h; cases h) (b := xb) (o := (.cells #[.int .i64 n.places, .int .i64 n.pieces, .slice a1 n1 c1, .slice a2 n2 c2, .slice a3 n3 c3, .int .i64 n.rule, .slice a4 n4 c4, .int .i64 n.notice, .int .i64 n.load, .int .i64 bx, .int .i64 n.lo, .int .i64 n.hi] 29 (0, 0)))
  have hT5 := hT4.own vxb4 ntx (o' := (.cells #[.int .i64 n.places, .int .i64 n.pieces, .slice a1 n1 c1, .slice a2 n2 c2, .slice a3 n3 c3, .int .i64 n.rule, .slice a4 n4 c4, .int .i64 n.notice, .int .i64 n.load, .int .i64 bx, .int .i64 n.lo, .int .i64 n.hi] 29 (0, 0)))
  generalize H4.set xb (.cells #[.int .i64 n.places, .int .i64 n.pieces, .slice a1 n1 c1, .slice a2 n2 c2, .slice a3 n3 c3, .int .i64 n.rule, .slice a4 n4 c4, .int .i64 n.notice, .int .i64 n.load, .int .i64 bx, .int .i64 n.lo, .int .i64 n.hi] 29 (0, 0)) = H5 at *
  clear vxb4 vyb4 vhb4 hd4 hp4 hT4
  (refine @unH _ ?_; refine z5 y6_117 ?_)
  refine planX_act ?_
  (refine @unH _ ?_; refine zX y6_117 ?_)
  refine ⟨.inr trivial, plan_nil (hK _ _ ?_)⟩
  clear hK K
  have vyb6 : (H5.set yb (.cells #[.int .i64 n.places, .int .i64 n.pieces, .slice a1 n1 c1, .slice a2 n2 c2, .slice a3 n3 c3, .int .i64 n.rule, .slice a4 n4 c4, .int .i64 ny, .int .i64 n.load, .int .i64 n.barrows, .int .i64 n.lo, .int .i64 n.hi] 29 (0, 0))) yb = some (true, (.cells #[.int .i64 n.places, .int .i64 n.pieces, .slice a1 n1 c1, .slice a2 n2 c2, .slice a3 n3 c3, .int .i64 n.rule, .slice a4 n4 c4, .int .i64 ny, .int .i64 n.load, .int .i64 n.barrows, .int .i64 n.lo, .int .i64 n.hi] 29 (0, 0))) := set_at
  have vxb6 : (H5.set yb (.cells #[.int .i64 n.places, .int .i64 n.pieces, .slice a1 n1 c1, .slice a2 n2 c2, .slice a3 n3 c3, .int .i64 n.rule, .slice a4 n4 c4, .int .i64 ny, .int .i64 n.load, .int .i64 n.barrows, .int .i64 n.lo, .int .i64 n.hi] 29 (0, 0))) xb = _ := (set_ne nxy).trans vxb5
  have vhb6 : (H5.set yb (.cells #[.int .i64 n.places, .int .i64 n.pieces, .slice a1 n1 c1, .slice a2 n2 c2, .slice a3 n3 c3, .int .i64 n.rule, .slice a4 n4 c4, .int .i64 ny, .int .i64 n.load, .int .i64 n.barrows, .int .i64 n.lo, .int .i64 n.hi] 29 (0, 0))) hb = _ := (set_ne nhy).trans vhb5
  have hd6 := hd5.move (set_keeps vyb5 (by decide) (by decide) (o := (.cells #[.int .i64 n.places, .int .i64 n.pieces, .slice a1 n1 c1, .slice a2 n2 c2, .slice a3 n3 c3, .int .i64 n.rule, .slice a4 n4 c4, .int .i64 ny, .int .i64 n.load, .int .i64 n.barrows, .int .i64 n.lo, .int .i64 n.hi] 29 (0, 0))))
  have hp6 := hp5.set (fun p c fr h => by rw [vyb5] at h; cases h) (b := yb) (o := (.cells #[.int .i64 n.places, .int .i64 n.pieces, .slice a1 n1 c1, .slice a2 n2 c2, .slice a3 n3 c3, .int .i64 n.rule, .slice a4 n4 c4, .int .i64 ny, .int .i64 n.load, .int .i64 n.barrows, .int .i64 n.lo, .int .i64 n.hi] 29 (0, 0)))
  have hT6 := hT5.own vyb5 nty (o' := (.cells #[.int .i64 n.places, .int .i64 n.pieces, .slice a1 n1 c1, .slice a2 n2 c2, .slice a3 n3 c3, .int .i64 n.rule, .slice a4 n4 c4, .int .i64 ny, .int .i64 n.load, .int .i64 n.barrows, .int .i64 n.lo, .int .i64 n.hi] 29 (0, 0)))
  generalize H5.set yb (.cells #[.int .i64 n.places, .int .i64 n.pieces, .slice a1 n1 c1, .slice a2 n2 c2, .slice a3 n3 c3, .int .i64 n.rule, .slice a4 n4 c4, .int .i64 ny, .int .i64 n.load, .int .i64 n.barrows, .int .i64 n.lo, .int .i64 n.hi] 29 (0, 0)) = H6 at *
  clear vxb5 vyb5 vhb5 hd5 hp5 hT5
  (try simp only [nq, ↓reduceIte, Nat.reduceEqDiff])
  (refine @unH _ ?_; refine zA y6_117 ?_; (repeat (refine inC ?_; intro hc)); try (refine inK ?_; intro K hK))
  have hr := (show ∀ H', HaulIn H' n _ -> SlI H' _ _ -> _ from hl0) H6 hd6 hp6
  refine hr.runs.mono ?_
  clear hr hl0
  rintro _ H7 ⟨la, rfl, lH7, hla⟩
  obtain ⟨laa, lac, ela, _, _⟩ := id hla
  rw [show (LF mi).length = _ from (show ∀ m, (LF m).length = J from hlen) mi] at ela
  subst ela
  have vhb7 := lH7 _ _ vhb6
  have vxb7 := lH7 _ _ vxb6
  have vyb7 := lH7 _ _ vyb6
  have hd7 := hd6.le lH7
  have hp7 := hp6.le lH7
  have hT7 := hT6.le lH7
  clear vhb6 vxb6 vyb6 hd6 hp6 hT6 lH7
  ((try (refine @unH _ ?_; refine zX y6_117 ?_)); (try (refine hK _ _ ?_; clear hK K; (try simp only [nq, ↓reduceIte, Nat.reduceEqDiff]))); refine @unH _ ?_; refine zA y6_117 ?_; (repeat (refine inC ?_; intro hc)); try (refine inK ?_; intro K hK))
  refine wpX_dlast (fun HX => HX hb = some (true, (.cells #[.int .i64 n.places, .int .i64 n.pieces, .slice a1 n1 c1, .slice a2 n2 c2, .slice a3 n3 c3, .int .i64 n.rule, .slice a4 n4 c4, .int .i64 n.notice, .int .i64 n.load, .int .i64 n.barrows, .int .i64 n.lo, .int .i64 n.hi] 29 (0, 0)))) 11 [(true, 0), (true, 1), (true, 2), (true, 3), (false, 4), (false, 5), (true, 6), (true, 7), (true, 8), (true, 9), (true, 10)] (by kernel_rfl) (by kernel_rfl) (by decide) (by kernel_rfl) ?_; intro K hK
  (iterate 4 (refine @unH _ ?_; refine z5 y6_117 ?_))
  refine planX_act ?_
  (refine @unH _ ?_; refine zX y6_117 ?_)
  refine (withinL _ H7 tb 9 1 mi (by omega) (by omega) (by omega) (by omega) hT7).runs.mono ?_
  rintro _ H8 ⟨r, hr1, hr2, rfl, l8, hT8⟩
  replace hr2 : r <= mi := by omega
  have vhb8 := l8.keeps vhb7 hhbn
  have vxb8 := l8.keeps vxb7 ntx.symm
  have vyb8 := l8.keeps vyb7 nty.symm
  have hd8 := hd7.move (tin_keeps l8 hT7)
  have hp8 := hp7.lex l8 hT7
  have hla8 := hla.lex l8 hT7
  clear vhb7 vxb7 vyb7 hd7 hp7 hla hT7 hT8 l8
  (refine @unH _ ?_; refine zX y6_117 ?_)
  refine ⟨.inr trivial, ?_⟩
  refine planX_act ?_
  (refine @unH _ ?_; refine zX y6_117 ?_)
  have hr := (show ∀ r : Int, 1 <= r -> r <= 20 -> ∀ H', HaulIn H' n _ -> SlI H' _ _ -> _ from hl1) r hr1 (by omega) H8 hd8 hp8
  refine hr.runs.mono ?_
  clear hr hl1
  rintro _ H9 ⟨lb, rfl, lH9, hlb⟩
  obtain ⟨lba, lbc, elb, _, _⟩ := id hlb
  rw [show (LF r).length = _ from (show ∀ m, (LF m).length = J from hlen) r] at elb
  subst elb
  have vhb9 := lH9 _ _ vhb8
  have vxb9 := lH9 _ _ vxb8
  have vyb9 := lH9 _ _ vyb8
  have hd9 := hd8.le lH9
  have hp9 := hp8.le lH9
  have hla9 := hla8.le lH9
  clear vhb8 vxb8 vyb8 hd8 hp8 hla8 lH9
  (refine @unH _ ?_; refine zX (And.intro y6_117 @onEnd_ret) ?_)
  refine ⟨.inr trivial, ?_⟩
  (iterate 5 (refine @unH _ ?_; refine z5 y6_117 ?_))
  refine plan_nil (hK _ _ ?_)
  clear hK K
  (try simp only [nq, ↓reduceIte, Nat.reduceEqDiff])
  (refine @unH _ ?_; refine zA y6_117 ?_; (repeat (refine inC ?_; intro hc)); try (refine inK ?_; intro K hK))
  have hr := (show ∀ H', HaulIn H' n _ -> SlI H' _ _ -> _ from hl2) H9 hd9 hp9
  refine hr.runs.mono ?_
  clear hr hl2
  rintro _ H10 ⟨lc, rfl, lH10, hlc⟩
  obtain ⟨lca, lcc, elc, _, _⟩ := id hlc
  rw [show L2.length = J from hlen2] at elc
  subst elc
  have vhb10 := lH10 _ _ vhb9
  have vyb10 := lH10 _ _ vyb9
  have hd10 := hd9.le lH10
  have hp10 := hp9.le lH10
  have hla10 := hla9.le lH10
  have hlb10 := hlb.le lH10
  clear vhb9 vyb9 hd9 hp9 hla9 hlb lH10
  ((try (refine @unH _ ?_; refine zX y6_117 ?_)); (try (refine hK _ _ ?_; clear hK K; (try simp only [nq, ↓reduceIte, Nat.reduceEqDiff]))); refine @unH _ ?_; refine zA y6_117 ?_; (repeat (refine inC ?_; intro hc)); try (refine inK ?_; intro K hK))
  have hr := (show ∀ H', HaulIn H' n _ -> SlI H' _ _ -> _ from hl3) H10 hd10 hp10
  refine hr.runs.mono ?_
  clear hr hl3
  rintro _ H11 ⟨ld, rfl, lH11, hld⟩
  obtain ⟨lda, ldc, eld, _, _⟩ := id hld
  rw [show L3.length = J from hlen3] at eld
  subst eld
  have vhb11 := lH11 _ _ vhb10
  have hla11 := hla10.le lH11
  have hlb11 := hlb10.le lH11
  have hlc11 := hlc.le lH11
  clear vhb10 hla10 hlb10 hlc lH11
  have hlaw2 : ∀ k x y, (LF mi)[k]? = some y -> ((LF r)[k]? = some x -> x <= y) /\ (L2[k]? = some x -> x <= y) /\ (L3[k]? = some x -> x <= y) := fun k x y hy => (show ∀ r : Int, 1 <= r -> r <= mi -> ∀ (k : Nat) (x y : Int), (LF mi)[k]? = some y -> _ from hlaw) r hr1 hr2 k x y hy
  have n1l : (LF mi).length = J := (show ∀ m, (LF m).length = J from hlen) mi
  have n2l : (LF r).length = J := (show ∀ m, (LF m).length = J from hlen) r
  have n3l : L2.length = J := hlen2
  have n4l : L3.length = J := hlen3
  clear hlaw hlen hlen2 hlen3 vhb11 hd10 hp10 vyb10 hbx hny
  generalize LF mi = LA at *
  generalize LF r = LB at *
  replace hlaw2 : SameP _ := hlaw2
  replace n1l : SameP _ := n1l
  replace n2l : SameP _ := n2l
  replace n3l : SameP _ := n3l
  replace n4l : SameP _ := n4l
  ((try (refine @unH _ ?_; refine zX y6_117 ?_)); (try (refine hK _ _ ?_; clear hK K; (try simp only [nq, ↓reduceIte, Nat.reduceEqDiff]))); refine @unH _ ?_; refine zA y6_117 ?_; (repeat (refine inC ?_; intro hc)); try (refine inK ?_; intro K hK))
  refine wpX_loop (fun w a' H' => ∃ e, ∃ k : Nat, w = J - k /\ k <= J /\ a' = act 143 e [] /\ e 10 = .slice laa J lac /\ e 12 = .slice lba J lbc /\ e 14 = .slice lca J lcc /\ e 16 = .slice lda J ldc /\ e 18 = .int .i64 (k : Nat) /\ H' = H11) (n := J) ?_ ?_
  ·exact ⟨_, 0, by omega, by omega, rfl, rfl, rfl, rfl, rfl, rfl, rfl⟩
  ·rintro w a' HQ ⟨e, k, rfl, hk, rfl, e10, e12, e14, e16, e18, hHQ⟩
   rw [hHQ]; clear hHQ HQ
   by_cases hlt : k < J
   ·have h1 : k < LA.length := by have : LA.length = J := n1l; omega
    have h2 : k < LB.length := by have : LB.length = J := n2l; omega
    have h3 : k < L2.length := by have : L2.length = J := n3l; omega
    have h4 : k < L3.length := by have : L3.length = J := n4l; omega
    obtain ⟨x1, x2, x3⟩ : (LA[k] < LB[k] -> False) /\ (LA[k] < L2[k] -> False) /\ (LA[k] < L3[k] -> False) := by
     have h := fun x => (show ∀ (k : Nat) (x y : Int), LA[k]? = some y -> _ from hlaw2) k x _ (List.getElem?_eq_getElem h1)
     refine ⟨fun h5 => ?_, fun h5 => ?_, fun h5 => ?_⟩
     ·have := (h _).1 (List.getElem?_eq_getElem h2); omega
     ·have := (h _).2.1 (List.getElem?_eq_getElem h3); omega
     ·have := (h _).2.2 (List.getElem?_eq_getElem h4); omega
    obtain ⟨q1, o1, p1, k1, f1, rfl, hq1, hc1⟩ := SlI.at hla11 (List.getElem?_eq_getElem h1)
    obtain ⟨q2, o2, p2, k2, f2, rfl, hq2, hc2⟩ := SlI.at hlb11 (List.getElem?_eq_getElem h2)
    obtain ⟨q3, o3, p3, k3, f3, rfl, hq3, hc3⟩ := SlI.at hlc11 (List.getElem?_eq_getElem h3)
    obtain ⟨q4, o4, p4, k4, f4, rfl, hq4, hc4⟩ := SlI.at hld (List.getElem?_eq_getElem h4)
    generalize LA[k] = y0 at *
    generalize LB[k] = y1 at *
    generalize L2[k] = y2 at *
    generalize L3[k] = y3 at *
    replace x1 : ¬ y0 < y1 := x1
    replace x2 : ¬ y0 < y2 := x2
    replace x3 : ¬ y0 < y3 := x3
    clear h1 h2 h3 h4
    (refine @unH _ ?_; refine zA y6_117 ?_; (repeat (refine inC ?_; intro hc)); try (refine inK ?_; intro K hK))
    (refine wpX_dst1 31 [(true, 0), (true, 1), (true, 2), (true, 3), (true, 4), (true, 5), (true, 6), (true, 7), (true, 8), (true, 9), (true, 10), (true, 11), (true, 12), (true, 13), (true, 14), (true, 15), (true, 16), (true, 17), (true, 18), (true, 19), (true, 20), (true, 21), (true, 22), (true, 23), (true, 24), (true, 25), (true, 26), (true, 27), (true, 28), (true, 29), (true, 30)] (by kernel_rfl) (by kernel_rfl) (by simp) (by kernel_rfl) ?_; intro K hK; (iterate 10 (refine @unH _ ?_; refine z3 y6_117 ?_)); (iterate 9 (refine @unH _ ?_; refine z6 y6_117 ?_)); (iterate 2 (refine @unH _ ?_; refine z3 y6_117 ?_)); (iterate 9 (refine @unH _ ?_; refine z6 y6_117 ?_)); (refine @unH _ ?_; refine z3 y6_117 ?_); refine plan_nil (hK _ _ ?_); clear hK K)
    (try simp only [nq, ↓reduceIte, Nat.reduceEqDiff])
    (refine @unH _ ?_; refine zA y6_117 ?_; (repeat (refine inC ?_; intro hc)); try (refine inK ?_; intro K hK))
    refine ⟨_, by omega, _, k + 1, rfl, hlt, rfl, e10, e12, e14, e16, rfl, by trivial⟩
   ·obtain rfl : k = J := by omega
    (refine @unH _ ?_; refine zA y6_117 ?_; (repeat (refine inC ?_; intro hc)); try (refine inK ?_; intro K hK))
    refine (driven_spec H11).runs.mono ?_
    rintro _ H12 ⟨rfl, lH12⟩
    ((try (refine @unH _ ?_; refine zX y6_117 ?_)); (try (refine hK _ _ ?_; clear hK K; (try simp only [nq, ↓reduceIte, Nat.reduceEqDiff]))); refine @unH _ ?_; refine zA y6_117 ?_; (repeat (refine inC ?_; intro hc)); try (refine inK ?_; intro K hK))
    (refine wpX_ret ?_; (try simp only [nq, ↓reduceIte, Nat.reduceEqDiff]); rw [bodyX_ret, results_one Tryz.results6 (by decide)]; simp only [upd_get, Nat.reduceEqDiff, ↓reduceIte])
 refine planT_two ?_ ?_
 ·(refine @unH _ ?_; refine zX y6_117 ?_)
  intro xb hxb
  have nhxb : hb ≠ xb := ne_new vhb hxb
  have ntxb := (hT3.ne hxb).symm
  have vxb4 : (H3.set xb (.cells #[.int .i64 0, .int .i64 0, .slice none 0 0, .slice none 0 0, .slice none 0 0, .int .i64 0, .slice none 0 0, .int .i64 0, .int .i64 0, .int .i64 0, .int .i64 0, .int .i64 0] 29 (0, 0))) xb = some (true, (.cells #[.int .i64 0, .int .i64 0, .slice none 0 0, .slice none 0 0, .slice none 0 0, .int .i64 0, .slice none 0 0, .int .i64 0, .int .i64 0, .int .i64 0, .int .i64 0, .int .i64 0] 29 (0, 0))) := set_at
  have vhb4 := Hp.le_set hxb (o := (.cells #[.int .i64 0, .int .i64 0, .slice none 0 0, .slice none 0 0, .slice none 0 0, .int .i64 0, .slice none 0 0, .int .i64 0, .int .i64 0, .int .i64 0, .int .i64 0, .int .i64 0] 29 (0, 0))) _ _ vhb
  have hd4 := hd3.le (Hp.le_set hxb (o := (.cells #[.int .i64 0, .int .i64 0, .slice none 0 0, .slice none 0 0, .slice none 0 0, .int .i64 0, .slice none 0 0, .int .i64 0, .int .i64 0, .int .i64 0, .int .i64 0, .int .i64 0] 29 (0, 0))))
  have hp4 := hp3.le (Hp.le_set hxb (o := (.cells #[.int .i64 0, .int .i64 0, .slice none 0 0, .slice none 0 0, .slice none 0 0, .int .i64 0, .slice none 0 0, .int .i64 0, .int .i64 0, .int .i64 0, .int .i64 0, .int .i64 0] 29 (0, 0))))
  have hT4 := hT3.new hxb (o := (.cells #[.int .i64 0, .int .i64 0, .slice none 0 0, .slice none 0 0, .slice none 0 0, .int .i64 0, .slice none 0 0, .int .i64 0, .int .i64 0, .int .i64 0, .int .i64 0, .int .i64 0] 29 (0, 0)))
  generalize H3.set xb (.cells #[.int .i64 0, .int .i64 0, .slice none 0 0, .slice none 0 0, .slice none 0 0, .int .i64 0, .slice none 0 0, .int .i64 0, .int .i64 0, .int .i64 0, .int .i64 0, .int .i64 0] 29 (0, 0)) = H4 at *
  (refine @unH _ ?_; refine zX y6_117 ?_)
  refine planT_one ?_
  (refine @unH _ ?_; refine zX y6_117 ?_)
  intro yb hyb
  have nhyb : hb ≠ yb := ne_new vhb4 hyb
  have nxbyb : xb ≠ yb := ne_new vxb4 hyb
  have nybxb := nxbyb.symm
  have ntyb := (hT4.ne hyb).symm
  have vyb5 : (H4.set yb (.cells #[.int .i64 0, .int .i64 0, .slice none 0 0, .slice none 0 0, .slice none 0 0, .int .i64 0, .slice none 0 0, .int .i64 0, .int .i64 0, .int .i64 0, .int .i64 0, .int .i64 0] 29 (0, 0))) yb = some (true, (.cells #[.int .i64 0, .int .i64 0, .slice none 0 0, .slice none 0 0, .slice none 0 0, .int .i64 0, .slice none 0 0, .int .i64 0, .int .i64 0, .int .i64 0, .int .i64 0, .int .i64 0] 29 (0, 0))) := set_at
  have vxb5 := Hp.le_set hyb (o := (.cells #[.int .i64 0, .int .i64 0, .slice none 0 0, .slice none 0 0, .slice none 0 0, .int .i64 0, .slice none 0 0, .int .i64 0, .int .i64 0, .int .i64 0, .int .i64 0, .int .i64 0] 29 (0, 0))) _ _ vxb4
  have vhb5 := Hp.le_set hyb (o := (.cells #[.int .i64 0, .int .i64 0, .slice none 0 0, .slice none 0 0, .slice none 0 0, .int .i64 0, .slice none 0 0, .int .i64 0, .int .i64 0, .int .i64 0, .int .i64 0, .int .i64 0] 29 (0, 0))) _ _ vhb4
  have hd5 := hd4.le (Hp.le_set hyb (o := (.cells #[.int .i64 0, .int .i64 0, .slice none 0 0, .slice none 0 0, .slice none 0 0, .int .i64 0, .slice none 0 0, .int .i64 0, .int .i64 0, .int .i64 0, .int .i64 0, .int .i64 0] 29 (0, 0))))
  have hp5 := hp4.le (Hp.le_set hyb (o := (.cells #[.int .i64 0, .int .i64 0, .slice none 0 0, .slice none 0 0, .slice none 0 0, .int .i64 0, .slice none 0 0, .int .i64 0, .int .i64 0, .int .i64 0, .int .i64 0, .int .i64 0] 29 (0, 0))))
  have hT5 := hT4.new hyb (o := (.cells #[.int .i64 0, .int .i64 0, .slice none 0 0, .slice none 0 0, .slice none 0 0, .int .i64 0, .slice none 0 0, .int .i64 0, .int .i64 0, .int .i64 0, .int .i64 0, .int .i64 0] 29 (0, 0)))
  generalize H4.set yb (.cells #[.int .i64 0, .int .i64 0, .slice none 0 0, .slice none 0 0, .slice none 0 0, .int .i64 0, .slice none 0 0, .int .i64 0, .int .i64 0, .int .i64 0, .int .i64 0, .int .i64 0] 29 (0, 0)) = H5 at *
  clear vxb4 vhb4 hd4 hp4 hT4 hxb hyb
  (refine @unH _ ?_; refine zX y6_117 ?_)
  refine planT_one ?_
  (refine @unH _ ?_; refine zX y6_117 ?_)
  have vxb6 : (H5.set xb (.cells #[.int .i64 n.places, .int .i64 n.pieces, .slice a1 n1 c1, .slice a2 n2 c2, .slice a3 n3 c3, .int .i64 n.rule, .slice a4 n4 c4, .int .i64 n.notice, .int .i64 n.load, .int .i64 n.barrows, .int .i64 n.lo, .int .i64 n.hi] 29 (0, 0))) xb = some (true, (.cells #[.int .i64 n.places, .int .i64 n.pieces, .slice a1 n1 c1, .slice a2 n2 c2, .slice a3 n3 c3, .int .i64 n.rule, .slice a4 n4 c4, .int .i64 n.notice, .int .i64 n.load, .int .i64 n.barrows, .int .i64 n.lo, .int .i64 n.hi] 29 (0, 0))) := set_at
  have vyb6 : (H5.set xb (.cells #[.int .i64 n.places, .int .i64 n.pieces, .slice a1 n1 c1, .slice a2 n2 c2, .slice a3 n3 c3, .int .i64 n.rule, .slice a4 n4 c4, .int .i64 n.notice, .int .i64 n.load, .int .i64 n.barrows, .int .i64 n.lo, .int .i64 n.hi] 29 (0, 0))) yb = _ := (set_ne nybxb).trans vyb5
  have vhb6 : (H5.set xb (.cells #[.int .i64 n.places, .int .i64 n.pieces, .slice a1 n1 c1, .slice a2 n2 c2, .slice a3 n3 c3, .int .i64 n.rule, .slice a4 n4 c4, .int .i64 n.notice, .int .i64 n.load, .int .i64 n.barrows, .int .i64 n.lo, .int .i64 n.hi] 29 (0, 0))) hb = _ := (set_ne nhxb).trans vhb5
  have hd6 := hd5.move (set_keeps vxb5 (by decide) (by decide) (o := (.cells #[.int .i64 n.places, .int .i64 n.pieces, .slice a1 n1 c1, .slice a2 n2 c2, .slice a3 n3 c3, .int .i64 n.rule, .slice a4 n4 c4, .int .i64 n.notice, .int .i64 n.load, .int .i64 n.barrows, .int .i64 n.lo, .int .i64 n.hi] 29 (0, 0))))
  have hp6 := hp5.set (fun p c fr h => by rw [vxb5] at h; cases h) (b := xb) (o := (.cells #[.int .i64 n.places, .int .i64 n.pieces, .slice a1 n1 c1, .slice a2 n2 c2, .slice a3 n3 c3, .int .i64 n.rule, .slice a4 n4 c4, .int .i64 n.notice, .int .i64 n.load, .int .i64 n.barrows, .int .i64 n.lo, .int .i64 n.hi] 29 (0, 0)))
  have hT6 := hT5.own vxb5 ntxb (o' := (.cells #[.int .i64 n.places, .int .i64 n.pieces, .slice a1 n1 c1, .slice a2 n2 c2, .slice a3 n3 c3, .int .i64 n.rule, .slice a4 n4 c4, .int .i64 n.notice, .int .i64 n.load, .int .i64 n.barrows, .int .i64 n.lo, .int .i64 n.hi] 29 (0, 0)))
  generalize H5.set xb (.cells #[.int .i64 n.places, .int .i64 n.pieces, .slice a1 n1 c1, .slice a2 n2 c2, .slice a3 n3 c3, .int .i64 n.rule, .slice a4 n4 c4, .int .i64 n.notice, .int .i64 n.load, .int .i64 n.barrows, .int .i64 n.lo, .int .i64 n.hi] 29 (0, 0)) = H6 at *
  clear vxb5 vyb5 vhb5 hd5 hp5 hT5
  refine planT_one ?_
  (refine @unH _ ?_; refine zX y6_117 ?_)
  have vxb7 : (H6.set yb (.cells #[.int .i64 n.places, .int .i64 n.pieces, .slice a1 n1 c1, .slice a2 n2 c2, .slice a3 n3 c3, .int .i64 n.rule, .slice a4 n4 c4, .int .i64 n.notice, .int .i64 n.load, .int .i64 n.barrows, .int .i64 n.lo, .int .i64 n.hi] 29 (0, 0))) xb = _ := (set_ne nxbyb).trans vxb6
  have vyb7 : (H6.set yb (.cells #[.int .i64 n.places, .int .i64 n.pieces, .slice a1 n1 c1, .slice a2 n2 c2, .slice a3 n3 c3, .int .i64 n.rule, .slice a4 n4 c4, .int .i64 n.notice, .int .i64 n.load, .int .i64 n.barrows, .int .i64 n.lo, .int .i64 n.hi] 29 (0, 0))) yb = some (true, (.cells #[.int .i64 n.places, .int .i64 n.pieces, .slice a1 n1 c1, .slice a2 n2 c2, .slice a3 n3 c3, .int .i64 n.rule, .slice a4 n4 c4, .int .i64 n.notice, .int .i64 n.load, .int .i64 n.barrows, .int .i64 n.lo, .int .i64 n.hi] 29 (0, 0))) := set_at
  have vhb7 : (H6.set yb (.cells #[.int .i64 n.places, .int .i64 n.pieces, .slice a1 n1 c1, .slice a2 n2 c2, .slice a3 n3 c3, .int .i64 n.rule, .slice a4 n4 c4, .int .i64 n.notice, .int .i64 n.load, .int .i64 n.barrows, .int .i64 n.lo, .int .i64 n.hi] 29 (0, 0))) hb = _ := (set_ne nhyb).trans vhb6
  have hd7 := hd6.move (set_keeps vyb6 (by decide) (by decide) (o := (.cells #[.int .i64 n.places, .int .i64 n.pieces, .slice a1 n1 c1, .slice a2 n2 c2, .slice a3 n3 c3, .int .i64 n.rule, .slice a4 n4 c4, .int .i64 n.notice, .int .i64 n.load, .int .i64 n.barrows, .int .i64 n.lo, .int .i64 n.hi] 29 (0, 0))))
  have hp7 := hp6.set (fun p c fr h => by rw [vyb6] at h; cases h) (b := yb) (o := (.cells #[.int .i64 n.places, .int .i64 n.pieces, .slice a1 n1 c1, .slice a2 n2 c2, .slice a3 n3 c3, .int .i64 n.rule, .slice a4 n4 c4, .int .i64 n.notice, .int .i64 n.load, .int .i64 n.barrows, .int .i64 n.lo, .int .i64 n.hi] 29 (0, 0)))
  have hT7 := hT6.own vyb6 ntyb (o' := (.cells #[.int .i64 n.places, .int .i64 n.pieces, .slice a1 n1 c1, .slice a2 n2 c2, .slice a3 n3 c3, .int .i64 n.rule, .slice a4 n4 c4, .int .i64 n.notice, .int .i64 n.load, .int .i64 n.barrows, .int .i64 n.lo, .int .i64 n.hi] 29 (0, 0)))
  exact planT_nil (key xb yb _ _ nhxb nhyb nxbyb ntxb ntyb vhb7 vxb7 vyb7 hd7 hp7 hT7 rfl rfl rfl rfl rfl rfl)
 ·(refine @unH _ ?_; refine zX y6_117 ?_)
  intro yb hyb
  have nhyb : hb ≠ yb := ne_new vhb hyb
  have ntyb := (hT3.ne hyb).symm
  have vyb4 : (H3.set yb (.cells #[.int .i64 0, .int .i64 0, .slice none 0 0, .slice none 0 0, .slice none 0 0, .int .i64 0, .slice none 0 0, .int .i64 0, .int .i64 0, .int .i64 0, .int .i64 0, .int .i64 0] 29 (0, 0))) yb = some (true, (.cells #[.int .i64 0, .int .i64 0, .slice none 0 0, .slice none 0 0, .slice none 0 0, .int .i64 0, .slice none 0 0, .int .i64 0, .int .i64 0, .int .i64 0, .int .i64 0, .int .i64 0] 29 (0, 0))) := set_at
  have vhb4 := Hp.le_set hyb (o := (.cells #[.int .i64 0, .int .i64 0, .slice none 0 0, .slice none 0 0, .slice none 0 0, .int .i64 0, .slice none 0 0, .int .i64 0, .int .i64 0, .int .i64 0, .int .i64 0, .int .i64 0] 29 (0, 0))) _ _ vhb
  have hd4 := hd3.le (Hp.le_set hyb (o := (.cells #[.int .i64 0, .int .i64 0, .slice none 0 0, .slice none 0 0, .slice none 0 0, .int .i64 0, .slice none 0 0, .int .i64 0, .int .i64 0, .int .i64 0, .int .i64 0, .int .i64 0] 29 (0, 0))))
  have hp4 := hp3.le (Hp.le_set hyb (o := (.cells #[.int .i64 0, .int .i64 0, .slice none 0 0, .slice none 0 0, .slice none 0 0, .int .i64 0, .slice none 0 0, .int .i64 0, .int .i64 0, .int .i64 0, .int .i64 0, .int .i64 0] 29 (0, 0))))
  have hT4 := hT3.new hyb (o := (.cells #[.int .i64 0, .int .i64 0, .slice none 0 0, .slice none 0 0, .slice none 0 0, .int .i64 0, .slice none 0 0, .int .i64 0, .int .i64 0, .int .i64 0, .int .i64 0, .int .i64 0] 29 (0, 0)))
  generalize H3.set yb (.cells #[.int .i64 0, .int .i64 0, .slice none 0 0, .slice none 0 0, .slice none 0 0, .int .i64 0, .slice none 0 0, .int .i64 0, .int .i64 0, .int .i64 0, .int .i64 0, .int .i64 0] 29 (0, 0)) = H4 at *
  (refine @unH _ ?_; refine zX y6_117 ?_)
  refine planT_one ?_
  (refine @unH _ ?_; refine zX y6_117 ?_)
  intro xb hxb
  have nhxb : hb ≠ xb := ne_new vhb4 hxb
  have nybxb : yb ≠ xb := ne_new vyb4 hxb
  have nxbyb := nybxb.symm
  have ntxb := (hT4.ne hxb).symm
  have vxb5 : (H4.set xb (.cells #[.int .i64 0, .int .i64 0, .slice none 0 0, .slice none 0 0, .slice none 0 0, .int .i64 0, .slice none 0 0, .int .i64 0, .int .i64 0, .int .i64 0, .int .i64 0, .int .i64 0] 29 (0, 0))) xb = some (true, (.cells #[.int .i64 0, .int .i64 0, .slice none 0 0, .slice none 0 0, .slice none 0 0, .int .i64 0, .slice none 0 0, .int .i64 0, .int .i64 0, .int .i64 0, .int .i64 0, .int .i64 0] 29 (0, 0))) := set_at
  have vyb5 := Hp.le_set hxb (o := (.cells #[.int .i64 0, .int .i64 0, .slice none 0 0, .slice none 0 0, .slice none 0 0, .int .i64 0, .slice none 0 0, .int .i64 0, .int .i64 0, .int .i64 0, .int .i64 0, .int .i64 0] 29 (0, 0))) _ _ vyb4
  have vhb5 := Hp.le_set hxb (o := (.cells #[.int .i64 0, .int .i64 0, .slice none 0 0, .slice none 0 0, .slice none 0 0, .int .i64 0, .slice none 0 0, .int .i64 0, .int .i64 0, .int .i64 0, .int .i64 0, .int .i64 0] 29 (0, 0))) _ _ vhb4
  have hd5 := hd4.le (Hp.le_set hxb (o := (.cells #[.int .i64 0, .int .i64 0, .slice none 0 0, .slice none 0 0, .slice none 0 0, .int .i64 0, .slice none 0 0, .int .i64 0, .int .i64 0, .int .i64 0, .int .i64 0, .int .i64 0] 29 (0, 0))))
  have hp5 := hp4.le (Hp.le_set hxb (o := (.cells #[.int .i64 0, .int .i64 0, .slice none 0 0, .slice none 0 0, .slice none 0 0, .int .i64 0, .slice none 0 0, .int .i64 0, .int .i64 0, .int .i64 0, .int .i64 0, .int .i64 0] 29 (0, 0))))
  have hT5 := hT4.new hxb (o := (.cells #[.int .i64 0, .int .i64 0, .slice none 0 0, .slice none 0 0, .slice none 0 0, .int .i64 0, .slice none 0 0, .int .i64 0, .int .i64 0, .int .i64 0, .int .i64 0, .int .i64 0] 29 (0, 0)))
  generalize H4.set xb (.cells #[.int .i64 0, .int .i64 0, .slice none 0 0, .slice none 0 0, .slice none 0 0, .int .i64 0, .slice none 0 0, .int .i64 0, .int .i64 0, .int .i64 0, .int .i64 0, .int .i64 0] 29 (0, 0)) = H5 at *
  clear vyb4 vhb4 hd4 hp4 hT4 hyb hxb
  (refine @unH _ ?_; refine zX y6_117 ?_)
  refine planT_one ?_
  (refine @unH _ ?_; refine zX y6_117 ?_)
  have vxb6 : (H5.set xb (.cells #[.int .i64 n.places, .int .i64 n.pieces, .slice a1 n1 c1, .slice a2 n2 c2, .slice a3 n3 c3, .int .i64 n.rule, .slice a4 n4 c4, .int .i64 n.notice, .int .i64 n.load, .int .i64 n.barrows, .int .i64 n.lo, .int .i64 n.hi] 29 (0, 0))) xb = some (true, (.cells #[.int .i64 n.places, .int .i64 n.pieces, .slice a1 n1 c1, .slice a2 n2 c2, .slice a3 n3 c3, .int .i64 n.rule, .slice a4 n4 c4, .int .i64 n.notice, .int .i64 n.load, .int .i64 n.barrows, .int .i64 n.lo, .int .i64 n.hi] 29 (0, 0))) := set_at
  have vyb6 : (H5.set xb (.cells #[.int .i64 n.places, .int .i64 n.pieces, .slice a1 n1 c1, .slice a2 n2 c2, .slice a3 n3 c3, .int .i64 n.rule, .slice a4 n4 c4, .int .i64 n.notice, .int .i64 n.load, .int .i64 n.barrows, .int .i64 n.lo, .int .i64 n.hi] 29 (0, 0))) yb = _ := (set_ne nybxb).trans vyb5
  have vhb6 : (H5.set xb (.cells #[.int .i64 n.places, .int .i64 n.pieces, .slice a1 n1 c1, .slice a2 n2 c2, .slice a3 n3 c3, .int .i64 n.rule, .slice a4 n4 c4, .int .i64 n.notice, .int .i64 n.load, .int .i64 n.barrows, .int .i64 n.lo, .int .i64 n.hi] 29 (0, 0))) hb = _ := (set_ne nhxb).trans vhb5
  have hd6 := hd5.move (set_keeps vxb5 (by decide) (by decide) (o := (.cells #[.int .i64 n.places, .int .i64 n.pieces, .slice a1 n1 c1, .slice a2 n2 c2, .slice a3 n3 c3, .int .i64 n.rule, .slice a4 n4 c4, .int .i64 n.notice, .int .i64 n.load, .int .i64 n.barrows, .int .i64 n.lo, .int .i64 n.hi] 29 (0, 0))))
  have hp6 := hp5.set (fun p c fr h => by rw [vxb5] at h; cases h) (b := xb) (o := (.cells #[.int .i64 n.places, .int .i64 n.pieces, .slice a1 n1 c1, .slice a2 n2 c2, .slice a3 n3 c3, .int .i64 n.rule, .slice a4 n4 c4, .int .i64 n.notice, .int .i64 n.load, .int .i64 n.barrows, .int .i64 n.lo, .int .i64 n.hi] 29 (0, 0)))
  have hT6 := hT5.own vxb5 ntxb (o' := (.cells #[.int .i64 n.places, .int .i64 n.pieces, .slice a1 n1 c1, .slice a2 n2 c2, .slice a3 n3 c3, .int .i64 n.rule, .slice a4 n4 c4, .int .i64 n.notice, .int .i64 n.load, .int .i64 n.barrows, .int .i64 n.lo, .int .i64 n.hi] 29 (0, 0)))
  generalize H5.set xb (.cells #[.int .i64 n.places, .int .i64 n.pieces, .slice a1 n1 c1, .slice a2 n2 c2, .slice a3 n3 c3, .int .i64 n.rule, .slice a4 n4 c4, .int .i64 n.notice, .int .i64 n.load, .int .i64 n.barrows, .int .i64 n.lo, .int .i64 n.hi] 29 (0, 0)) = H6 at *
  clear vxb5 vyb5 vhb5 hd5 hp5 hT5
  refine planT_one ?_
  (refine @unH _ ?_; refine zX y6_117 ?_)
  have vxb7 : (H6.set yb (.cells #[.int .i64 n.places, .int .i64 n.pieces, .slice a1 n1 c1, .slice a2 n2 c2, .slice a3 n3 c3, .int .i64 n.rule, .slice a4 n4 c4, .int .i64 n.notice, .int .i64 n.load, .int .i64 n.barrows, .int .i64 n.lo, .int .i64 n.hi] 29 (0, 0))) xb = _ := (set_ne nxbyb).trans vxb6
  have vyb7 : (H6.set yb (.cells #[.int .i64 n.places, .int .i64 n.pieces, .slice a1 n1 c1, .slice a2 n2 c2, .slice a3 n3 c3, .int .i64 n.rule, .slice a4 n4 c4, .int .i64 n.notice, .int .i64 n.load, .int .i64 n.barrows, .int .i64 n.lo, .int .i64 n.hi] 29 (0, 0))) yb = some (true, (.cells #[.int .i64 n.places, .int .i64 n.pieces, .slice a1 n1 c1, .slice a2 n2 c2, .slice a3 n3 c3, .int .i64 n.rule, .slice a4 n4 c4, .int .i64 n.notice, .int .i64 n.load, .int .i64 n.barrows, .int .i64 n.lo, .int .i64 n.hi] 29 (0, 0))) := set_at
  have vhb7 : (H6.set yb (.cells #[.int .i64 n.places, .int .i64 n.pieces, .slice a1 n1 c1, .slice a2 n2 c2, .slice a3 n3 c3, .int .i64 n.rule, .slice a4 n4 c4, .int .i64 n.notice, .int .i64 n.load, .int .i64 n.barrows, .int .i64 n.lo, .int .i64 n.hi] 29 (0, 0))) hb = _ := (set_ne nhyb).trans vhb6
  have hd7 := hd6.move (set_keeps vyb6 (by decide) (by decide) (o := (.cells #[.int .i64 n.places, .int .i64 n.pieces, .slice a1 n1 c1, .slice a2 n2 c2, .slice a3 n3 c3, .int .i64 n.rule, .slice a4 n4 c4, .int .i64 n.notice, .int .i64 n.load, .int .i64 n.barrows, .int .i64 n.lo, .int .i64 n.hi] 29 (0, 0))))
  have hp7 := hp6.set (fun p c fr h => by rw [vyb6] at h; cases h) (b := yb) (o := (.cells #[.int .i64 n.places, .int .i64 n.pieces, .slice a1 n1 c1, .slice a2 n2 c2, .slice a3 n3 c3, .int .i64 n.rule, .slice a4 n4 c4, .int .i64 n.notice, .int .i64 n.load, .int .i64 n.barrows, .int .i64 n.lo, .int .i64 n.hi] 29 (0, 0)))
  have hT7 := hT6.own vyb6 ntyb (o' := (.cells #[.int .i64 n.places, .int .i64 n.pieces, .slice a1 n1 c1, .slice a2 n2 c2, .slice a3 n3 c3, .int .i64 n.rule, .slice a4 n4 c4, .int .i64 n.notice, .int .i64 n.load, .int .i64 n.barrows, .int .i64 n.lo, .int .i64 n.hi] 29 (0, 0)))
  exact planT_nil (key xb yb _ _ nhxb nhyb nxbyb ntxb ntyb vhb7 vxb7 vyb7 hd7 hp7 hT7 rfl rfl rfl rfl rfl rfl)
end Go.Proofs.YtofmadjgbcopdaaGreatDoor
end
section
namespace Go.Proofs.YtofmadjgbcopdaaGreatDoor
open Go Go.X Go.ChangeShapes Go.WideShapes Go.RowKit
set_option maxRecDepth 100000 in
theorem law_lifted (os : Os) (started : os.Started) (H : Type) (enc : TypeId × Value -> H) :
  ReturnsInLeavingWide {} Tryz.checked os 6 .any (fun w args => (Rows.barrowFasterSpec.pre enc Tryz.prog Tryz.f6 [] false w args /\ laidMetH Tryz.prog [("errors.errorType", Rows.laid_errors_errorType)] w) /\ sizedMet enc Tryz.prog Tryz.f6 (OpenSpec.ofChange Rows.barrowFasterSpec) false w args)
   (Rows.barrowFasterSpec.post enc Tryz.prog Tryz.f6 false true false false) := by
 refine leaving_of_change_and (C := Tryz.checked) (X := fun w _ => laidMetH Tryz.prog [("errors.errorType", Rows.laid_errors_errorType)] w) (fun _ _ _ hh h => h.of_heap hh) ownK started Tryz.func6
  (ChangeSpec.witness_at (enc := enc) (C := Tryz.checked) (os := os) (X := fun w _ => laidMetH Tryz.prog [("errors.errorType", Rows.laid_errors_errorType)] w) false (laidWorld os) #[.slice none 0 0] 8 rfl (by kernel_rfl) (by kernel_rfl) (by kernel_rfl) (by kernel_rfl) (by kernel_rfl) (laidWorld_met os _)) ?_
 intro W base args ds gs before hval0 hW hL
 have hval : ∀ (j : Nat) t v, Tryz.f6.params[j]? = some t -> args[j]? = some v -> Value.okWide Tryz.prog W .any base t v := hval0
 have hW' := hW
 obtain ⟨p, q, hA0, hV0, rfl, hfz, hnd⟩ := hW
 have hA : DataW.TrodAll enc Tryz.prog W 0 (fun _ => true) true Tryz.f6.params.toList args.toList ds p := hA0
 have hV : DataW.TrodVars enc Tryz.prog W (fun _ => true) [] gs q := hV0
 rw [Tryz.params6] at hA hval
 obtain ⟨v0, d0, rfl, rfl, h0⟩ := trodAll_one hA
 obtain ⟨a0, len, cap, rfl⟩ := okWide_slice Tryz.underlying22 (hval 0 22 v0 rfl rfl)
 have h0k := h0
 obtain ⟨fuel, hf⟩ := h0
 obtain ⟨rfl, rfl⟩ : gs = [] /\ q = [] := by
  cases gs with
  | nil => exact ⟨rfl, hV⟩
  | cons g r => exact absurd hV (by intro h; cases h)
 have e1 : Rows.barrowFasterSpec.fn H ([d0] ++ []) = { results := [.lit (.bool true)], args := [d0] } := by simp [Rows.barrowFasterSpec]
 have hcells : ∀ i : Nat, i < len -> ∃ sb so c e fr x, a0 = some ⟨sb, so, none⟩ /\ allShared W sb = some (false, .cells c e fr) /\ c[so + i]? = some (.int .i64 x) := by
  rcases open_ints Tryz.underlying22 Tryz.underlying3 cellsK hf with ⟨hcs, _⟩ | ⟨a, len', cap', zs, hcs, _, hl, hm, hz, hx, hcell, hwz⟩
  ·simp [Value.cells] at hcs
   intro i hi
   omega
  ·simp [Value.cells] at hcs
   obtain ⟨rfl, rfl, rfl⟩ := hcs
   intro i hi
   simp only [if_true] at hz
   have hc := hcell i (by omega)
   obtain ⟨b, off, spot⟩ := a
   have hspot : spot = none := by simpa [Addr.add] using World.cell?_spot (hcell 0 (by omega))
   subst hspot
   rw [add_plain] at hc
   unfold World.cell? at hc
   split at hc
   ·rename_i c e fr hb
    exact ⟨b, off, c, e, fr, _, rfl, by simp [allShared, hb], by simpa using hc⟩
   ·cases hc
 have hlt : ∀ x ∈ p, x.block < W.heap.size := fun x hx => by simpa using hW'.lt x (by simpa using hx)
 obtain ⟨N, last, o, w', t', r1, r2, r3, v, hv, ⟨rfl, hB⟩, r4⟩ := (bfaster_spec (allShared W) a0 len cap hcells).good Tryz.func6 (results_tmp Tryz.results6 _) (by kernel_rfl)
 refine ⟨N, last, o, w', t', r1, r2, r3, _, hv, ?_, r4⟩
 have hb := hB.below
 refine ⟨_, _, _, [], p, [], hW', ?_, ?_, ?_, hB.kept _, fun h => by cases h⟩
 ·rw [e1]; exact trodAll_mk1 (shut_bool Tryz.underlying4 true)
 ·rw [e1]
  have t := trodAll_mk1 (DataW.Trod.of_heap (w := { w' with tape := W.tape }) (w' := w') rfl (Below.trod laidOutK (by kernel_rfl) (of_decide_eq_true (by kernel_rfl)) h0k hb hlt))
  exact t
 ·rw [e1]; rfl
end Go.Proofs.YtofmadjgbcopdaaGreatDoor
end
section
namespace Go.Proofs.YtofmadjgbcopdaaGreatDoor
open Go Go.X Go.ChangeShapes Go.WideShapes Go.RowKit
theorem jEnter : Program.mayEnter Tryz.pinned.checked.prog = true := factEnter
theorem jLift : (Rows.barrowFasterRow.lifted == Program.liftsFinal Tryz.pinned.checked.prog) = true := by rw [show Program.liftsFinal Tryz.pinned.checked.prog = Rows.barrowFasterRow.lifted from factLift]; exact beq_self_eq_true _
theorem jMake : (Program.make Tryz.pinned.checked.prog == some Rows.barrowFasterRow.make) = true := by rw [show Program.make Tryz.pinned.checked.prog = some Rows.barrowFasterRow.make from factMake]; exact beq_self_eq_true _
set_option maxRecDepth 100000 in
theorem jf : joinedFacts Tryz.pinned.checked.prog 6 Tryz.f6 Rows.barrowFasterSpec Rows.barrowFasterRow = true := by
 unfold joinedFacts
 simp only [jEnter, jLift, jMake, Bool.and_true]
 kernel_rfl
set_option maxRecDepth 100000 in
theorem barrowFaster_said : Rows.BarrowFasterSaid :=
 OpenClaim.holds_of_wide_leaving 6 Tryz.f6 rfl rfl rfl rfl rfl rfl rfl ⟨rfl, rfl, rfl, rfl, rfl⟩ rfl rfl rfl rfl rfl (by kernel_rfl) Tryz.func6 jf
  (of_decide_eq_true (by kernel_rfl)) (by unfold Func.isWrapper; rw [if_neg (of_decide_eq_false (by kernel_rfl))]; exact ⟨rfl, rfl⟩)
  (fun os started H enc _ => law_lifted os started H enc)
end Go.Proofs.YtofmadjgbcopdaaGreatDoor
end
