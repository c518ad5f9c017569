/- Texts SmP SmFq SmFr SmFo. -/
import Derived.Test.YtkcomnkgdifboaaGreatDoorJ16
set_option linter.defProp false
set_option linter.unusedSimpArgs false
set_option linter.unusedVariables false
set_option maxRecDepth 100000
set_option maxHeartbeats 2000000
section
namespace Go.Proofs.YtkcomnkgdifboaaGreatDoor
open Go Go.X
theorem Czz : Axq Byj := ⟨rfl, rfl⟩
theorem Bxi {pl b : Int} {x : Hint} {tc : List Int × List Int} (h : Axq x) (ht : tc.1.length = 6) : Axq (Azg pl b x tc) := by
 refine ⟨by simp [Azg, h.b], ?_⟩
 unfold Azg
 simp only
 split
 ·exact h.f
 ·exact ht
theorem Bz9 {pl b : Int} : ∀ (L : List (List Int × List Int)) (x : Hint), Axq x -> (∀ tc ∈ L, tc.1.length = 6) -> Axq (L.foldl (Azg pl b) x)
 | [], _, h, _ => h
 | tc :: L, x, h, ht => Bz9 L _ (Bxi h (ht tc List.mem_cons_self)) fun y hy => ht y (List.mem_cons_of_mem _ hy)
theorem Dxv {s : Sm} {L : List (List Int × List Int)} {b : Int} (h : ∀ tc ∈ L, tc.1.length = 6) : Axq (Aym s L b) := Bz9 _ _ Czz fun tc htc => h tc (List.mem_filter.1 htc).1
theorem Cv0 {s : Sm} {L : List (List Int × List Int)} (h : ∀ tc ∈ L, tc.1.length = 6) (ham : Int) : Ax6 ⟨ham, byL s L⟩ := by
 refine ⟨by simp [byL], fun x hx => ?_⟩
 simp only [byL, List.mem_map] at hx
 obtain ⟨b, _, rfl⟩ := hx
 exact Dxv h
def Az5 (pl : Int) (tc : List Int × List Int) (lo b : Int) (hs : List Hint) : List Hint := hs.mapIdx fun i x => if lo <= (i : Int) /\ (i : Int) < b then Azg pl i x tc else x
theorem Bku (pl : Int) (tc : List Int × List Int) (lo b : Int) (hs : List Hint) : (Az5 pl tc lo b hs).length = hs.length := by simp [Az5]
theorem Bkt {pl : Int} {tc : List Int × List Int} {lo b : Int} {hs : List Hint} {i : Nat} {x : Hint} (h : hs[i]? = some x) : (Az5 pl tc lo b hs)[i]? = some (if lo <= (i : Int) /\ (i : Int) < b then Azg pl i x tc else x) := by simp [Az5, h]
theorem Ay1 (pl : Int) (tc : List Int × List Int) {lo b : Int} (h : b <= lo) (hs : List Hint) : Az5 pl tc lo b hs = hs := by
 apply List.ext_getElem?
 intro i
 unfold Az5
 rw [List.getElem?_mapIdx]
 cases hs[i]? with
 | none => rfl
 | some x => rw [Option.map_some, if_neg (by omega)]
theorem Cxa {pl : Int} {tc : List Int × List Int} {lo : Int} {b : Nat} {hs : List Hint} {x : Hint} (hx : hs[b]? = some x) (hlo : lo <= (b : Int)) : Az5 pl tc lo ((b : Int) + 1) hs = (Az5 pl tc lo b hs).set b (Azg pl b x tc) := by
 apply List.ext_getElem?
 intro i
 have hl : b < (Az5 pl tc lo b hs).length := by rw [Bku]; exact (List.getElem?_eq_some_iff.1 hx).1
 by_cases h : i = b
 ·subst h
  rw [Bkt hx, List.getElem?_set_self hl, if_pos ⟨hlo, by omega⟩]
 ·rw [List.getElem?_set_ne (Ne.symm h)]
  unfold Az5
  rw [List.getElem?_mapIdx, List.getElem?_mapIdx]
  cases hs[i]? with
  | none => rfl
  | some y =>
   simp only [Option.map_some, Option.some.injEq]
   by_cases h1 : lo <= (i : Int) /\ (i : Int) < (b : Int)
   ·rw [if_pos h1, if_pos (by omega)]
   ·rw [if_neg h1, if_neg (by omega)]
theorem Dqs {s : Sm} {L : List (List Int × List Int)} {tc : List Int × List Int} {lo hi : Int} (h : begN s.noses tc.2 0 12 = some (lo, hi)) : byL s (L ++ [tc]) = Az5 s.places tc lo (hi + 1) (byL s L) := by
 apply List.ext_getElem?
 intro i
 unfold Az5 byL
 rw [List.getElem?_mapIdx, List.getElem?_map, List.getElem?_map]
 cases hr : (List.range 13)[i]? with
 | none => rfl
 | some b =>
  obtain rfl : b = i := by
   obtain ⟨_, h2⟩ := List.getElem?_eq_some_iff.1 hr
   rw [List.getElem_range] at h2
   exact h2.symm
  simp only [Option.map_some, Option.some.injEq]
  unfold Aym
  rw [List.filter_append]
  have hf : fitB s.noses tc.2 (b : Int) = decide (lo <= (b : Int) /\ (b : Int) <= hi) := by unfold fitB; rw [h]
  by_cases hin : lo <= (b : Int) /\ (b : Int) < hi + 1
  ·rw [if_pos hin]
   have : [tc].filter (fun tc => fitB s.noses tc.2 (b : Int)) = [tc] := by simp [hf]; omega
   rw [this, List.foldl_append]
   rfl
  ·rw [if_neg hin]
   have : [tc].filter (fun tc => fitB s.noses tc.2 (b : Int)) = [] := by simp [hf]; omega
   rw [this, List.append_nil]
theorem Dqr {s : Sm} {L : List (List Int × List Int)} {tc : List Int × List Int} (h : begN s.noses tc.2 0 12 = none) : byL s (L ++ [tc]) = byL s L := by
 unfold byL
 congr 1
 funext b
 unfold Aym
 rw [List.filter_append]
 have hf : fitB s.noses tc.2 (b : Int) = false := by unfold fitB; rw [h]
 have : [tc].filter (fun tc => fitB s.noses tc.2 (b : Int)) = [] := by simp [hf]
 rw [this, List.append_nil]
theorem Cw3 {pl : Int} {tc : List Int × List Int} (ht : tc.1.length = 6) {lo b : Int} {hs : List Hint} {ham : Int} (h : Ax6 ⟨ham, hs⟩) : Ax6 ⟨ham, Az5 pl tc lo b hs⟩ := by
 refine ⟨by rw [Bku]; exact h.l, fun x hx => ?_⟩
 simp only [Az5, List.mem_mapIdx] at hx
 obtain ⟨i, hi, rfl⟩ := hx
 have := h.k _ (List.getElem_mem hi)
 split
 ·exact Bxi this ht
 ·exact this
def Ayn (pl b : Int) (x : Hint) (tc : List Int × List Int) (k : Nat) : Hint := ⟨x.bs.mapIdx fun p w => if p < k /\ (p : Int) < pl then Aza w (min 99 (b + gI tc.2 p)) else w, if x.some then x.first else tc.1, true⟩
theorem Bks (pl b : Int) (x : Hint) (tc : List Int × List Int) : Ayn pl b x tc 0 = ⟨x.bs, if x.some then x.first else tc.1, true⟩ := by
 unfold Ayn
 congr 1
 apply List.ext_getElem?
 intro i
 rw [List.getElem?_mapIdx]
 cases x.bs[i]? with
 | none => rfl
 | some w => rw [Option.map_some, if_neg (by omega)]
theorem Cw2 {pl b : Int} {x : Hint} {tc : List Int × List Int} {k : Nat} {w : Bd} (h : x.bs[k]? = some w) : (Ayn pl b x tc k).bs[k]? = some w := by
 unfold Ayn
 simp only
 rw [List.getElem?_mapIdx, h, Option.map_some, if_neg (by omega)]
theorem Ckf {pl b : Int} {x : Hint} {tc : List Int × List Int} {k : Nat} {w : Bd} (h : x.bs[k]? = some w) (hk : (k : Int) < pl) : Ayn pl b x tc (k + 1) = ⟨(Ayn pl b x tc k).bs.set k (Aza w (min 99 (b + gI tc.2 k))), (Ayn pl b x tc k).first, (Ayn pl b x tc k).some⟩ := by
 have hl : k < x.bs.length := (List.getElem?_eq_some_iff.1 h).1
 unfold Ayn
 congr 1
 apply List.ext_getElem?
 intro i
 by_cases e : i = k
 ·subst e
  rw [List.getElem?_mapIdx, h, Option.map_some, if_pos ⟨by omega, hk⟩, List.getElem?_set_self (by simpa using hl)]
 ·rw [List.getElem?_set_ne (Ne.symm e), List.getElem?_mapIdx, List.getElem?_mapIdx]
  cases x.bs[i]? with
  | none => rfl
  | some y =>
   simp only [Option.map_some, Option.some.injEq]
   by_cases h1 : i < k /\ (i : Int) < pl
   ·rw [if_pos h1, if_pos (by omega)]
   ·rw [if_neg h1, if_neg (by omega)]
theorem Cw1 {pl b : Int} {x : Hint} {tc : List Int × List Int} {k : Nat} (hk : pl <= (k : Int)) : Ayn pl b x tc k = Azg pl b x tc := by
 unfold Ayn Azg
 congr 1
 apply List.ext_getElem?
 intro i
 rw [List.getElem?_mapIdx, List.getElem?_mapIdx]
 cases x.bs[i]? with
 | none => rfl
 | some y =>
  simp only [Option.map_some, Option.some.injEq]
  by_cases h1 : (i : Int) < pl
  ·rw [if_pos h1, if_pos ⟨by omega, h1⟩]
  ·rw [if_neg h1, if_neg (by omega)]
theorem Cz1 {pl b : Int} {x : Hint} {tc : List Int × List Int} (h : Axq x) (ht : tc.1.length = 6) (k : Nat) : Axq (Ayn pl b x tc k) := by
 refine ⟨by simp [Ayn, h.b], ?_⟩
 unfold Ayn
 simp only
 split
 ·exact h.f
 ·exact ht
def Bj2 := And.intro (fun H => Aqp (H := H) Tryz.underlying28 rfl Tryz.sizeOf28) @Bvi
theorem Akp (main : Md) (H : Hp) (pl : Int) (da : Option Addr) (dn dc : Nat) (ha : Option Addr) (hn kc : Nat) (na : Option Addr) (nn nc : Nat) :
  FnX Tryz.prog main 41 #[smV pl (.slice da dn dc) (.slice ha hn kc) (.slice na nn nc)] H fun e H' => ∃ hb mb, e = .returned (.pointer (some ⟨hb, 0, none⟩)) /\ H' hb = some (true, hsO pl (.slice da dn dc) (.slice ha hn kc) (.slice na nn nc) mb) /\ H' mb = some (true, .map #[] 0) /\ H hb = none /\ H mb = none /\ H.le H' := by
 refine Aqm Tryz.func41 rfl Tryz.ntmps41 (by simp) ?_
 (refine @unH _ ?_; refine zA Bj2 ?_; (repeat (refine inC ?_; intro hc)); try (refine inK ?_; intro K hK))
 (intro sb hsb; generalize hG : Hp.set _ sb _ = H1; have lH1 := Aqc hG hsb; have vsb := Aqb hG; clear hG)
 ((try (refine @unH _ ?_; refine zX Bj2 ?_)); (try (refine hK _ _ ?_; clear hK K; (try simp only [nq, ↓reduceIte, Nat.reduceEqDiff]))); refine @unH _ ?_; refine zA Bj2 ?_; (repeat (refine inC ?_; intro hc)); try (refine inK ?_; intro K hK))
 intro mb hmb hb hhb
 replace hhb : (Hp.set H1 mb (.map #[] 0)) hb = none := hhb
 generalize hG : Hp.set H1 mb _ = H2 at hhb ⊢
 have lH2 := Aqc hG hmb
 have vmb := Aqb hG
 clear hG
 generalize hG : Hp.set H2 hb _ = H3
 have lH3 := Aqc hG hhb
 have vhb := Aqb hG
 clear hG
 ((try (refine @unH _ ?_; refine zX Bj2 ?_)); (try (refine hK _ _ ?_; clear hK K; (try simp only [nq, ↓reduceIte, Nat.reduceEqDiff]))); refine @unH _ ?_; refine zA Bj2 ?_; (repeat (refine inC ?_; intro hc)); try (refine inK ?_; intro K hK))
 (refine @unH _ ?_; refine z9 Tryz.results41 ?_)
 exact ⟨hb, mb, rfl, vhb, lH3 _ _ vmb, Hp.le_none (Hp.le_trans lH1 lH2) hhb, Hp.le_none lH1 hmb, Hp.le_trans lH1 (Hp.le_trans lH2 lH3)⟩
def FolS (H3 : Hp) (sb ib rb : Nat) (pl : Int) (dv hv nv : Value) (t0 : Trail) (e : Nat -> Value) (H' : Hp) : Prop :=
 ∃ hb mb pb tb, e 2 = .pointer (some ⟨sb, 0, none⟩) /\ e 3 = .pointer (some ⟨ib, 0, none⟩) /\ e 4 = .pointer (some ⟨rb, 0, none⟩) /\ e 5 = .pointer (some ⟨pb, 0, none⟩) /\ e 6 = .pointer (some ⟨tb, 0, none⟩) /\ H3.le H' /\ (H3 hb = none /\ H3 mb = none /\ H3 pb = none /\ H3 tb = none) /\
  H' hb = some (true, hsO pl dv hv nv mb) /\ H' mb = some (true, .map #[] 0) /\ H' pb = some (true, .cells #[.pointer (some ⟨hb, 0, none⟩)] 77 (0, 0)) /\ H' tb = some (true, .cells (Axd t0).toArray 130 (0, 0))
theorem Cqp {H : Hp} (p : Int) (xs : List Int) (h : xs.length = 6) (K : Value -> Hp -> Prop) (E : Value -> Hp -> Prop) : wpS Tryz.prog (Instr.build 82 #[(0, .int .i64 p), (1, .agg (ints xs).toArray)]) H K E = K (.agg (.int .i64 p :: ints xs).toArray) H := by
 obtain ⟨x0, x1, x2, x3, x4, x5, rfl⟩ := Bjl xs h
 exact Ak7 H .i64 p .i64 x0 .i64 x1 .i64 x2 .i64 x3 .i64 x4 .i64 x5 K E
def RdS (Hb : Hp) (sb pb tb xb mb : Nat) (ds : List Dr) (c : List Int) (e : Nat -> Value) (H' : Hp) : Prop :=
 ∃ cb, e 2 = .pointer (some ⟨sb, 0, none⟩) /\ e 5 = .pointer (some ⟨pb, 0, none⟩) /\ e 6 = .pointer (some ⟨tb, 0, none⟩) /\ e 7 = .pointer (some ⟨xb, 0, none⟩) /\ e 8 = .pointer (some ⟨cb, 0, none⟩) /\
  H' cb = some (true, .cells (ints c).toArray 79 (0, 0)) /\ Ajo ds mb H' /\ ∀ b x, b ≠ mb -> Hb b = some x -> H' b = some x
theorem SmIn.mv {H H' : Hp} {dv hv nv : Value} {s : Sm} (h : SmIn H dv hv nv s) (hl : ∀ x p c t fr, (t = 35 ∨ t = 3 ∨ t = 49) -> H x = some (p, .cells c t fr) -> H' x = some (p, .cells c t fr)) : SmIn H' dv hv nv s :=
 ⟨h.dd.move fun x p c fr hx => ⟨p, hl x p c _ fr (.inl rfl) hx⟩, h.hh.move fun x p c fr hx => hl x p c _ fr (.inr (.inl rfl)) hx, h.nn.move fun x p c fr hx => ⟨p, hl x p c _ fr (.inr (.inr rfl)) hx⟩⟩
def prF (s : Sm) (p : Int) (L : List (List Int)) : List (List Int × List Int) := L.map fun t => (t, Aq4 s.doors p t)
def Axa := And.intro (fun H => Aqv (H := H) (P := Tryz.prog) (h := Tryz.zeroValue130)) (And.intro (fun H => Aqp (H := H) Tryz.underlying28 rfl Tryz.sizeOf28) (And.intro @Cqq (And.intro (fun H => Aqg (H := H) Tryz.underlying3 rfl) (And.intro @Bzw (And.intro (fun H => Aqv (H := H) (P := Tryz.prog) (h := Tryz.zeroValue77)) (And.intro (fun H => Bjt (H := H) Tryz.sizeOf77) (And.intro (fun H => Aqs (H := H) Tryz.sizeOf130) (And.intro (fun H => Aqg (H := H) Tryz.underlying77 rfl) (And.intro @Cv8 (And.intro (fun H => Aqv (H := H) (P := Tryz.prog) (h := Tryz.zeroValue76)) (And.intro (fun H => Aqs (H := H) Tryz.sizeOf76) (And.intro (fun H => Aqd (H := H) Tryz.underlying28 (i := 2) rfl (off := 2) rfl Tryz.sizeOf22) (And.intro (fun H => Aqg (H := H) Tryz.underlying22 rfl) (And.intro (fun H => Aqu (H := H) Tryz.underlying22 Tryz.sizeOf3) (And.intro (fun H => Aqp (H := H) Tryz.underlying76 rfl Tryz.sizeOf76) (And.intro @Ak7 (And.intro @Cqr (And.intro (fun H => Aqv (H := H) (P := Tryz.prog) (h := Tryz.zeroValue79)) (And.intro (fun H => Aqs (H := H) Tryz.sizeOf79) (And.intro (fun H => Aqp (H := H) Tryz.underlying79 rfl Tryz.sizeOf79) (And.intro @Cv9 (And.intro (fun H => Aqd (H := H) Tryz.underlying130 (i := 1) rfl (off := 1) rfl Tryz.sizeOf128) (And.intro (fun H => Aq5 (H := H) Tryz.underlying128 Tryz.sizeOf94) (And.intro (fun H => Aqd (H := H) Tryz.underlying94 (i := 2) rfl (off := 24) rfl Tryz.sizeOf4) (And.intro (fun H => Aqg (H := H) Tryz.underlying4 rfl) (And.intro (fun H => Ajr (H := H) Tryz.sizeOf4) (And.intro (fun H => Aqd (H := H) Tryz.underlying94 (i := 1) rfl (off := 18) rfl Tryz.sizeOf76) (And.intro (fun H => Aqd (H := H) Tryz.underlying28 (i := 0) rfl (off := 0) rfl Tryz.sizeOf3) (And.intro (fun H => Aqd (H := H) Tryz.underlying94 (i := 0) rfl (off := 0) rfl Tryz.sizeOf92) (And.intro (fun H => Aq5 (H := H) Tryz.underlying92 Tryz.sizeOf91) (And.intro (fun H => Aq5 (H := H) Tryz.underlying79 Tryz.sizeOf3) (And.intro @Ay5 (fun H => Aqp (H := H) Tryz.underlying130 rfl Tryz.sizeOf130)))))))))))))))))))))))))))))))))
def folT (H6 : Hp) (s : Sm) (p : Int) (ham : Int) (l r mb tb : Nat) (lo : Loop) (t : Bool) (L : List (List Int)) (H : Hp) : Prop :=
 t = true /\ H l = some (true, .loop lo) /\ H r = some (true, .deferred (some [])) /\ Ajo s.doors mb H /\ H tb = some (true, .cells (Axd ⟨ham, byL s (prF s p L)⟩).toArray 130 (0, 0)) /\
  (∀ x ∈ L, x.length = 6) /\ ∀ b x, b ≠ l -> b ≠ r -> b ≠ mb -> b ≠ tb -> H6 b = some x -> H b = some x
theorem Dxm (main : Md) (H3 H4 : Hp) (sb ib rb : Nat) (s : Sm) (ok : SmOk s) (i : Nat) (p : Int) (hi : s.hampers[i]? = some p) (da : Option Addr) (dc : Nat) (ha : Option Addr) (kc : Nat) (na : Option Addr) (nc : Nat)
  (hs : SmIn H3 (.slice da s.doors.length dc) (.slice ha s.hampers.length kc) (.slice na s.noses.length nc) s)
  (vs : H3 sb = some (true, smO s.places (.slice da s.doors.length dc) (.slice ha s.hampers.length kc) (.slice na s.noses.length nc))) (vi : H3 ib = some (true, .cells #[.int .i64 i] 3 (0, 0))) (z : Array Value) (hz : z.size = 326) (vr : H3 rb = some (true, .cells z 130 (0, 0)))
  (e : Nat -> Value) (hF : FolS H3 sb ib rb s.places (.slice da s.doors.length dc) (.slice ha s.hampers.length kc) (.slice na s.noses.length nc) ⟨i, List.replicate 13 Byj⟩ e H4) (R : Ending -> Hp -> Prop)
  (hR : Aqk (∀ H', (∀ b x, b ≠ rb -> H3 b = some x -> H' b = some x) -> R (.returned (.agg (Axd (Azc s i)).toArray)) H')) :
  wpX Tryz.prog main none (sdC (sdC ((Tryz.f78).body.getD .skip))) (Bw2 Tryz.prog main Tryz.f78 R) (act 83 e []) H4 := by
 obtain ⟨hb, mb, pb, tb, e2, e3, e4, e5, e6, l34, ⟨n0h, n0m, n0p, n0t⟩, vh, vm, vp, vt⟩ := hF
 show wpX _ _ _ (.seq _ _) _ _ _
 refine Axp ?_
 (refine @unH _ ?_; refine zA Axa ?_; (repeat (refine inC ?_; intro hc)); try (refine inK ?_; intro K hK))
 refine (Cj3 main H4 hb).runs.mono ?_
 rintro _ H5 ⟨thisb, rfl, vth, l45, n4th⟩
 have vh5 := l45 _ _ vh
 have vm5 := l45 _ _ vm
 have vp5 := l45 _ _ vp
 have vt5 := l45 _ _ vt
 have l35 := Hp.le_trans l34 l45
 have hs5 := hs.le l35
 have vs5 := l35 _ _ vs
 have vi5 := l35 _ _ vi
 have vr5 := l35 _ _ vr
 clear vh vm vp vt l34 l45 hs vs vi
 ((try (refine @unH _ ?_; refine zX Axa ?_)); (try (refine hK _ _ ?_; clear hK K; (try simp only [nq, ↓reduceIte, Nat.reduceEqDiff]))); refine @unH _ ?_; refine zA Axa ?_; (repeat (refine inC ?_; intro hc)); try (refine inK ?_; intro K hK))
 refine Bvb (fun e => e 2 = .pointer (some ⟨sb, 0, none⟩) /\ e 3 = .pointer (some ⟨ib, 0, none⟩) /\ e 4 = .pointer (some ⟨rb, 0, none⟩) /\ e 5 = .pointer (some ⟨pb, 0, none⟩) /\ e 6 = .pointer (some ⟨tb, 0, none⟩) /\ e 21 = .func (.func 112) #[] #[.pointer (some ⟨thisb, 0, none⟩)]) ⟨e2, e3, e4, e5, e6, rfl⟩ ?_
 clear e2 e3 e4 e5 e6
 rintro e ⟨e2, e3, e4, e5, e6, e21⟩
 refine Cvi (g := 112) (fi := #[]) (cap := #[.pointer (some ⟨thisb, 0, none⟩)]) (by rw [Aq9 (by omega), e21]) (by omega) (fun _ _ _ _ => Dqt _ _ _) (fun r l lo hr hl hlo1 hlo2 hround => ?_)
 have hlr : r ≠ l := fun e => by rw [<- e, Axg] at hl; cases hl
 have hnl : H5 l = none := by
  rw [Aqw (Ne.symm hlr)] at hl; exact hl
 have hloe : ({ ({ lo with state := LoopState.busy } : Loop) with state := .ready, pending := none } : Loop) = lo := by
  cases lo; simp only [] at hlo1 hlo2; subst hlo1 hlo2; rfl
 generalize hG : Hp.set (Hp.set H5 r (.deferred (some []))) l (.loop lo) = H6
 have l56 : H5.le H6 := fun b x hx => by rw [<- hG]; exact Hp.le_set hl _ _ (Hp.le_set hr _ _ hx)
 have vl6 : H6 l = some (true, .loop lo) := by rw [<- hG, Axg]
 have vr6 : H6 r = some (true, .deferred (some [])) := by rw [<- hG, Aqw hlr, Axg]
 clear hG
 have nrl : ∀ b x, H5 b = some x -> b ≠ l /\ b ≠ r := fun b x hx => ⟨fun e => (by rw [e, hnl] at hx; cases hx), fun e => (by rw [e, hr] at hx; cases hx)⟩
 have vh6 := l56 _ _ vh5
 have vm6 := l56 _ _ vm5
 have vp6 := l56 _ _ vp5
 have vt6 := l56 _ _ vt5
 have hs6 := hs5.le l56
 have vs6 := l56 _ _ vs5
 have vi6 := l56 _ _ vi5
 have vth6 := l56 _ _ vth
 have hC : Cvk Tryz.prog main (.func (.yield l) #[] #[]) (fun b => H6 b ≠ none) (fun H v xs => v = .agg (ints xs).toArray) (fun xs => xs.length = 6 /\ TsOk s.doors xs) (folT H6 s p i l r mb tb lo) := by
  have hn : ∀ b x, H6 b = some x -> H6 b ≠ none := fun b x h => by rw [h]; simp
  refine ⟨?_, ?_, ?_⟩
  ·rintro t L H H' ⟨h0, h1, h2, h3, h4, h5, h6⟩ hk
   refine ⟨h0, hk _ _ (hn _ _ vl6) h1, hk _ _ (hn _ _ vr6) h2, ?_, hk _ _ (hn _ _ vt6) h4, h5, fun b x g1 g2 g3 g4 hx => hk _ _ (hn _ _ hx) (h6 b x g1 g2 g3 g4 hx)⟩
   obtain ⟨es, clock, k1, k2⟩ := h3
   exact ⟨es, clock, hk _ _ (hn _ _ vm6) k1, k2⟩
  ·rintro t L H b ⟨h0, h1, h2, h3, h4, h5, h6⟩ hb
   by_cases g1 : b = l
   ·subst g1; rw [h1]; simp
   by_cases g2 : b = r
   ·subst g2; rw [h2]; simp
   by_cases g3 : b = mb
   ·subst g3; obtain ⟨es, clock, k1, k2⟩ := h3; rw [k1]; simp
   by_cases g4 : b = tb
   ·subst g4; rw [h4]; simp
   cases hx : H6 b with
   | none => exact absurd hx hb
   | some x => rw [h6 b x g1 g2 g3 g4 hx]; simp
  ·rintro L H v' xs ⟨_, h1, h2, h3, h4, h5, h6⟩ rfl ⟨hxl, hxt⟩
   refine hround H _ _ h1 ?_
   have hil : (ints xs).length = 6 := by rw [Aqz]; exact hxl
   have hex := Ajw hxl
   (refine @unH _ ?_; refine zA (And.intro Axa @Bool.or_true) ?_; (repeat (refine inC ?_; intro hc)); try (refine inK ?_; intro K hK))
   intro xb hxb
   have nlx := Aqr h1 hxb
   ((try (refine @unH _ ?_; refine zX (And.intro Axa (And.intro @Bool.or_true (And.intro @Ajz (And.intro @Az1 @Az2)))) ?_)); (try (refine hK _ _ ?_; clear hK K; (try simp only [nq, ↓reduceIte, Nat.reduceEqDiff]))); refine @unH _ ?_; refine zA (And.intro Axa (And.intro @Bool.or_true (And.intro @Ajz (And.intro @Az1 @Az2)))) ?_; (repeat (refine inC ?_; intro hc)); try (refine inK ?_; intro K hK))
   generalize hG0 : Hp.set H xb _ = Ha
   have vxa := Aqb hG0
   have hka : ∀ b x, H b = some x -> Ha b = some x := fun b x hx => Aqi hG0 hx (Aqr hx hxb)
   refine ⟨hka _ _ h1, ?_⟩
   generalize hG : Hp.set Ha l _ = Hb
   have vlb := Aqb hG
   have hkb : ∀ b x, b ≠ l -> H b = some x -> Hb b = some x := fun b x hb hx => Aqi hG (hka _ _ hx) hb
   have vxb := Aqi hG vxa (Ne.symm nlx)
   have hnn : ∀ b x, ¬ H6 b ≠ none -> H b = some x -> b ≠ l := fun b x h hx e => h (by rw [e, vl6]; simp)
   clear hG hG0 vxa hka
   have hk5 : ∀ b x, b ≠ mb -> b ≠ tb -> H5 b = some x -> Hb b = some x := fun b x g1 g2 hx => hkb b x (nrl _ _ hx).1 (h6 b x (nrl _ _ hx).1 (nrl _ _ hx).2 g1 g2 (l56 _ _ hx))
   have vhb := hk5 _ _ (fun e => by rw [e, vm5] at vh5; cases vh5) (Azo vh5 vt5 (by decide)) vh5
   have vpb := hk5 _ _ (fun e => by rw [e, vm5] at vp5; cases vp5) (Azo vp5 vt5 (by decide)) vp5
   have vsb := hk5 _ _ (fun e => by rw [e, vm5] at vs5; cases vs5) (Azo vs5 vt5 (by decide)) vs5
   have vib := hk5 _ _ (fun e => by rw [e, vm5] at vi5; cases vi5) (Azo vi5 vt5 (by decide)) vi5
   have nlm : l ≠ mb := Ne.symm (nrl _ _ vm5).1
   have nlt : l ≠ tb := Ne.symm (nrl _ _ vt5).1
   have nmt : mb ≠ tb := fun e => by rw [e, vt5] at vm5; cases vm5
   have hsb := hs5.mv (H' := Hb) fun x q c t fr ht hx => hk5 x _ (fun e => by rw [e, vm5] at hx; cases hx) (Azo hx vt5 (by rcases ht with rfl | rfl | rfl <;> decide)) hx
   obtain ⟨es, clock, vmH, hmap⟩ := id h3
   have knb : Ajo s.doors mb Hb := ⟨es, clock, hkb _ _ (Ne.symm nlm) vmH, hmap⟩
   have vtb := hkb _ _ (Ne.symm nlt) h4
   have vrb := hkb _ _ hlr h2
   have nxm : xb ≠ mb := fun e => by rw [e, vmH] at hxb; cases hxb
   have n6m : H6 mb ≠ none := by rw [vm6]; simp
   have n6t : H6 tb ≠ none := by rw [vt6]; simp
   have nrm : r ≠ mb := Ne.symm (nrl _ _ vm5).2
   have nrt : r ≠ tb := Ne.symm (nrl _ _ vt5).2
   clear h1 h3 vmH vl6 vr6 vh6 vm6 vp6 vt6 hs6 vs6 vi6 vth6 hn hr hl hround
   replace hloe : Aqk _ := hloe
   replace hkb : Aqk _ := hkb
   replace h6 : Aqk _ := h6
   replace hk5 : Aqk _ := hk5
   replace hnn : Aqk _ := hnn
   obtain ⟨hpp, hp0, hp1⟩ : Aqk (s.hampers[i]? = some p) /\ 0 <= p /\ p < s.places := ⟨hi, ok.hk p (List.mem_of_getElem? hi)⟩
   obtain ⟨ib2, io, iq, ic, ifr, iw, hib2, hic⟩ := hsb.hh.get hi
   subst iw
   have hcl := Av6 s.doors p xs
   have hil2 : i < s.hampers.length := (List.getElem?_eq_some_iff.1 hpp).1
   have hspr := fun H' q vh' kn' dd' => Bjo main H' hb mb q s.places da dc (.slice (some ⟨ib2, io, none⟩) s.hampers.length kc) (.slice na s.noses.length nc) p xs s.doors vh' kn' dd' ok.p1 hp0 hp1 ok.dk ok.dl hxl hxt
   have hdist := Bk8 (pl := s.places) ok.p1 hp0 (by have := ok.p1; omega) ok.dk hxt
   generalize hce : Aq4 s.doors p xs = c at *
   replace hce : Aqk _ := hce
   replace hpp : Aqk _ := hpp
   clear hi
   have hic6 : (ints c).length = 6 := by rw [Aqz]; exact hcl
   simp only [hsO, smO] at vhb vsb
   (refine @unH _ ?_; refine zA (And.intro Axa @Bool.or_true) ?_; (repeat (refine inC ?_; intro hc)); try (refine inK ?_; intro K hK))
   refine Axn (fun HX => Hb.le HX) [8, 10] (.take 0 (.take 1 (.take 2 (.take 3 (.take 4 (.take 5 (.take 6 (.take 7 (.two 8 (.one 9 (.one 10 .nil)) 9 (.one 8 (.one 10 .nil))))))))))) (by kernel_rfl) (by kernel_rfl) (by decide) (by kernel_rfl) ?_; intro K hK0
   have hleb : Hb.le Hb := Hp.le_refl _
   have hK : ∀ e' H', RdS Hb sb pb tb xb mb s.doors c e' H' -> K (act 83 e' []) H' := fun e' H' hF => hK0 _ _ (by
    clear hK0 K hleb
    obtain ⟨cb, e2, e5, e6, e7, e8, vc, kn, hfr⟩ := hF
    have hend : Aqk (∀ (e2 : Nat -> Value) (Hz : Hp), (∀ b x, b ≠ mb -> b ≠ tb -> Hb b = some x -> Hz b = some x) -> Ajo s.doors mb Hz -> Hz tb = some (true, .cells (Axd ⟨(i : Int), byL s (prF s p (L ++ [xs]))⟩).toArray 130 (0, 0)) ->
      rnd l (fun e H' => ∃ t, e = .returned (.bool t) /\ folT H6 s p i l r mb tb lo t (L ++ [xs]) H' /\ ∀ b x, ¬ H6 b ≠ none -> H b = some x -> H' b = some x) .normal (act 83 e2 []) Hz) := fun e2 Hz hfz knz vtz => by
     have vlz := hfz _ _ nlm nlt vlb
     refine ⟨rfl, _, vlz, true, rfl, ?_, fun b x hb hx => ?_⟩
     ·have hloe' : ({ ({ lo with state := LoopState.busy } : Loop) with state := .ready, pending := none } : Loop) = lo := hloe
      rw [hloe']
      refine ⟨rfl, Axg, ?_, ?_, ?_, fun x hx => ?_, fun b x g1 g2 g3 g4 hx => ?_⟩
      ·rw [Aqw hlr]; exact hfz _ _ nrm nrt vrb
      ·obtain ⟨es, clock, k1, k2⟩ := knz
       exact ⟨es, clock, by rw [Aqw (Ne.symm nlm)]; exact k1, k2⟩
      ·rw [Aqw (Ne.symm nlt)]; exact vtz
      ·rcases List.mem_append.1 hx with hx | hx
       ·exact h5 x hx
       ·rw [List.mem_singleton.1 hx]; exact hxl
      ·rw [Aqw g1]
       exact hfz b x g3 g4 ((show ∀ b x, b ≠ l -> H b = some x -> Hb b = some x from hkb) b x g1 ((show ∀ b x, b ≠ l -> b ≠ r -> b ≠ mb -> b ≠ tb -> H6 b = some x -> H b = some x from h6) b x g1 g2 g3 g4 hx))
     ·have g1 := (show ∀ b x, ¬ H6 b ≠ none -> H b = some x -> b ≠ l from hnn) b x hb hx
      rw [Aqw g1]
      exact hfz b x (fun e => hb (by rw [e]; exact n6m)) (fun e => hb (by rw [e]; exact n6t)) ((show ∀ b x, b ≠ l -> H b = some x -> Hb b = some x from hkb) b x g1 hx)
    have nhm : hb ≠ mb := fun e => by rw [e, vm5] at vh5; cases vh5
    have vhc := hfr _ _ nhm vhb
    have hnc : SlN H' (.slice na s.noses.length nc) s.noses := hsb.nn.move fun x q c fr hx => ⟨q, hfr x _ (fun e => by obtain ⟨es, clock, k1, k2⟩ := knb; rw [e, k1] at hx; cases hx) hx⟩
    have hc0 : ∀ q, 0 <= q -> q < 6 -> 0 <= gI c q /\ gI c q <= 99 := fun q h0 h1 => ⟨hdist.pos q h0 h1, by rcases hdist.att q h0 h1 with h | h <;> omega⟩
    have vpc := hfr _ _ (fun e => by rw [e, vm5] at vp5; cases vp5) vpb
    have hbe := Cqj main H' hb mb true s.places (.slice da s.doors.length dc) (.slice (some ⟨ib2, io, none⟩) s.hampers.length kc) na nc c s.noses vhc hnc ok.p1 ok.nk ok.nl hcl hc0
    have vtc := hfr _ _ (Ne.symm nmt) vtb
    have vxc := hfr _ _ nxm vxb
    have vsc := hfr _ _ (fun e => by rw [e, vm5] at vs5; cases vs5) vsb
    have hexc := Ajw hcl
    clear vhc hnc hspr knb vlb vrb h2 hkb h6 hk5 hnn vib vhb vpb vsb vtb vxb hsb hib2 hic hex hxb
    (try simp only [nq, ↓reduceIte, Nat.reduceEqDiff])
    (refine @unH _ ?_; refine zA (And.intro Axa @Bool.or_true) ?_; (repeat (refine inC ?_; intro hc)); try (refine inK ?_; intro K hK))
    refine hbe.runs.mono ?_
    clear hbe
    rintro _ H8 ⟨blo, bhi, f, rfl, hbg, l8⟩
    have vt8 := l8 _ _ vtc
    have vx8 := l8 _ _ vxc
    have vs8 := l8 _ _ vsc
    have vc8 := l8 _ _ vc
    have kn8 := kn.le l8
    have hfr8 : Aqk (∀ b x, b ≠ mb -> Hb b = some x -> H8 b = some x) := fun b x hb hx => l8 _ _ (hfr b x hb hx)
    have hpair : prF s p (L ++ [xs]) = prF s p L ++ [(xs, c)] := by
     unfold prF
     rw [List.map_append, List.map_singleton, show Aq4 s.doors p xs = c from hce]
    rw [hpair] at hend
    have hL0 : ∀ tc ∈ prF s p L, tc.1.length = 6 := fun tc htc => by
     obtain ⟨t, ht, rfl⟩ := List.mem_map.1 htc
     exact h5 t ht
    clear vtc vxc vsc vc kn l8 hfr vpc hpair
    cases f with
    | false =>
     have hno : begN s.noses c 0 12 = none := by
      unfold Cqi at hbg
      cases hq : begN s.noses c 0 12 with
      | none => rfl
      | some q => rw [hq] at hbg; exact absurd hbg.1 (by simp)
     rw [Dqr (tc := (xs, c)) hno] at hend
     clear hno hbg
     ((try (refine @unH _ ?_; refine zX (And.intro Axa @Bool.or_true) ?_)); (try (refine hK _ _ ?_; clear hK K; (try simp only [nq, ↓reduceIte, Nat.reduceEqDiff]))); refine @unH _ ?_; refine zA (And.intro Axa @Bool.or_true) ?_; (repeat (refine inC ?_; intro hc)); try (refine inK ?_; intro K hK))
     exact (show ∀ e2 Hz, _ -> _ -> _ -> _ from hend) _ _ (fun b x g1 g2 hx => (show ∀ b x, b ≠ mb -> Hb b = some x -> H8 b = some x from hfr8) b x g1 hx) kn8 vt8
    | true =>
     have hsome : begN s.noses c 0 12 = some (blo, bhi) := by
      unfold Cqi at hbg
      cases hq : begN s.noses c 0 12 with
      | none => rw [hq] at hbg; exact absurd hbg (by simp)
      | some q =>
       obtain ⟨ql, qh⟩ := q
       rw [hq] at hbg
       rw [hbg.2.1, hbg.2.2]
     obtain ⟨hin0, hin12⟩ := Cvv _ hsome
     rw [Dqs (tc := (xs, c)) hsome] at hend
     clear hsome hbg
     obtain ⟨kl, rfl⟩ : ∃ kl : Nat, blo = kl := ⟨blo.toNat, by omega⟩
     have hTo0 : Ax6 ⟨(i : Int), byL s (prF s p L)⟩ := Cv0 hL0 _
     generalize byL s (prF s p L) = hs0 at *
     replace hTo0 : Aqk _ := hTo0
     clear hL0
     ((try (refine @unH _ ?_; refine zX (And.intro Axa @Bool.or_true) ?_)); (try (refine hK _ _ ?_; clear hK K; (try simp only [nq, ↓reduceIte, Nat.reduceEqDiff]))); refine @unH _ ?_; refine zA (And.intro Axa @Bool.or_true) ?_; (repeat (refine inC ?_; intro hc)); try (refine inK ?_; intro K hK))
     refine Axe (fun w a' H' => ∃ e, ∃ k : Nat, w = (bhi + 1 - k).toNat /\ kl <= k /\ (k = kl ∨ (k : Int) <= bhi + 1) /\ a' = act 83 e [] /\ e 2 = .pointer (some ⟨sb, 0, none⟩) /\ e 6 = .pointer (some ⟨tb, 0, none⟩) /\ e 7 = .pointer (some ⟨xb, 0, none⟩) /\ e 8 = .pointer (some ⟨cb, 0, none⟩) /\ e 10 = .int .i64 bhi /\ e 12 = .int .i64 (k : Nat) /\
      H' tb = some (true, .cells (Axd ⟨(i : Int), Az5 s.places (xs, c) kl k hs0⟩).toArray 130 (0, 0)) /\ ∀ b x, b ≠ tb -> H8 b = some x -> H' b = some x) (n := (bhi + 1 - kl).toNat) ?_ ?_
     ·exact ⟨_, kl, rfl, Nat.le_refl _, .inl rfl, rfl, e2, e6, e7, e8, rfl, rfl, by rw [Ay1 _ _ (Int.le_refl _)]; exact vt8, fun _ _ _ hx => hx⟩
     ·clear e2 e6 e7 e8 e5
      rintro w a' H9 ⟨e, k, rfl, hkl, hkb, rfl, e2, e6, e7, e8, e10, e12, vt9, hfr9⟩
      by_cases hlt : (k : Int) <= bhi
      ·obtain ⟨x, hx0⟩ : ∃ x, hs0[k]? = some x := ⟨_, List.getElem?_eq_getElem (by rw [show hs0.length = 13 from (show Ax6 _ from hTo0).l]; omega)⟩
       have hxo : Axq x := (show Ax6 _ from hTo0).k x (List.mem_of_getElem? hx0)
       have hTk : Ax6 ⟨(i : Int), Az5 s.places (xs, c) kl k hs0⟩ := Cw3 hxl hTo0
       have hxk : (Az5 s.places (xs, c) kl k hs0)[k]? = some x := by rw [Bkt hx0, if_neg (by omega)]
       have hHR := HR.refl hTk hxk
       have hstep := Cxa (pl := s.places) (tc := (xs, c)) hx0 (show (kl : Int) <= (k : Int) by omega)
       have hdone : Aqk (∀ c1 : Array Value, HR c1 (Axd ⟨(i : Int), Az5 s.places (xs, c) kl k hs0⟩).toArray (1 + k * 25) (Azg s.places k x (xs, c)) -> c1 = (Axd ⟨(i : Int), Az5 s.places (xs, c) kl ((k : Int) + 1) hs0⟩).toArray) := fun c1 h => by
        rw [hstep]
        exact HR.done hTk (by omega) (Bxi hxo hxl) h
       have hsz : (Axd ⟨(i : Int), Az5 s.places (xs, c) kl k hs0⟩).toArray.size = 326 := by rw [List.size_toArray]; exact Axu hTk
       have hsm := hHR.sm hxo
       clear hstep hTk hxk
       generalize (Axd ⟨(i : Int), Az5 s.places (xs, c) kl k hs0⟩).toArray = c0 at *
       replace hfr9 : Aqk _ := hfr9
       have htk6 : (ints xs).take 6 = ints xs := List.take_of_length_le (by omega)
       (refine @unH _ ?_; refine zS (And.intro Axa @Bool.or_true) ?_; (repeat (refine inC ?_; intro hc)); try (refine inK ?_; intro K hK))
       refine Axp ?_
       (refine @unH _ ?_; refine zS (And.intro Axa @Bool.or_true) ?_; (repeat (refine inC ?_; intro hc)); try (refine inK ?_; intro K hK))
       refine Axp (Azd ?_)
       (refine @unH _ ?_; refine zS (And.intro Axa @Bool.or_true) ?_; (repeat (refine inC ?_; intro hc)); try (refine inK ?_; intro K hK))
       have nxt : xb ≠ tb := Azo vx8 vt8 (by decide)
       have vx9 := (show ∀ b x, b ≠ tb -> H8 b = some x -> H9 b = some x from hfr9) _ _ (Azo vx8 vt8 (by decide)) vx8
       refine Awa (fun a' H' => ∃ e c1, a' = act 83 e [] /\ e 2 = .pointer (some ⟨sb, 0, none⟩) /\ e 6 = .pointer (some ⟨tb, 0, none⟩) /\ e 7 = .pointer (some ⟨xb, 0, none⟩) /\ e 8 = .pointer (some ⟨cb, 0, none⟩) /\ e 10 = .int .i64 bhi /\ e 12 = .int .i64 (k : Nat) /\ e 13 = .pointer (some ⟨tb, 1 + k * 25, none⟩) /\
        H' tb = some (true, .cells c1 130 (0, 0)) /\ HR c1 c0 (1 + k * 25) (Ayn s.places k x (xs, c) 0) /\ ∀ b x, b ≠ tb -> H8 b = some x -> H' b = some x) ?_ ?_
       ·cases hxs : x.some with
        | true =>
         rw [hxs] at hsm
         (refine @unH _ ?_; refine zA (And.intro Axa @Bool.or_true) ?_; (repeat (refine inC ?_; intro hc)); try (refine inK ?_; intro K hK))
         refine ⟨_, c0, rfl, e2, e6, e7, e8, e10, e12, rfl, vt9, ?_, hfr9⟩
         rw [Bks, hxs, if_pos rfl]
         obtain ⟨xbs, xfs, xsm⟩ := x
         simp only at hxs
         subst hxs
         exact hHR
        | false =>
         rw [hxs] at hsm
         (refine @unH _ ?_; refine zA (And.intro Axa @Bool.or_true) ?_; (repeat (refine inC ?_; intro hc)); try (refine inK ?_; intro K hK))
         refine Axn (fun HX => HX xb = some (true, .cells (ints xs).toArray 76 (0, 0))) [8] (.free 0 (.free 1 (.take 2 (.free 3 (.free 4 (.one 5 (.free 6 (.free 7 (.one 8 .nil))))))))) (by kernel_rfl) (by kernel_rfl) (by decide) (by kernel_rfl) ?_; intro K hK
         (iterate 2 (refine @unH _ ?_; refine zI (And.intro Axa @Bool.or_true) ?_))
         (refine @unH _ ?_; refine zJ (And.intro Axa @Bool.or_true) ?_)
         (iterate 2 (refine @unH _ ?_; refine zI (And.intro Axa @Bool.or_true) ?_))
         refine Aqx ?_
         (refine @unH _ ?_; refine zX (And.intro Axa @Bool.or_true) ?_)
         refine ⟨.inr (fun _ => by first | trivial | rw [if_neg nxt]), ?_⟩
         generalize hG : Hp.set H9 tb _ = H10
         have vt10 := Aqb hG
         have hfr10 : Aqk (∀ b x, b ≠ tb -> H9 b = some x -> H10 b = some x) := fun b x hb hx => Aqi hG hx hb
         clear hG
         (iterate 2 (refine @unH _ ?_; refine zI (And.intro Axa @Bool.or_true) ?_))
         refine Aqx ?_
         (refine @unH _ ?_; refine zX (And.intro Axa @Bool.or_true) ?_)
         rw [Akm (c := c0.setIfInBounds (1 + k * 25 + 24) (.bool true)) (e := 130) (by intro h; rw [h] at hil; simp at hil) vt10]
         refine ⟨by rw [List.all_eq_true]; exact Bzk xs, by rw [Aqz, hxl, Array.size_setIfInBounds]; omega, .inl (by decide), Axs (hK _ _ ?_)⟩
         clear hK K
         refine ⟨_, _, rfl, e2, e6, e7, e8, e10, e12, rfl, Axg, ?_, fun b x' hb hx => ?_⟩
         ·rw [Bks, hxs, if_neg (by simp)]
          exact HR.set1 hHR hxo (by omega) hxl
         ·rw [Aqw hb]
          exact (show ∀ b x, b ≠ tb -> H9 b = some x -> H10 b = some x from hfr10) b _ hb ((show ∀ b x, b ≠ tb -> H8 b = some x -> H9 b = some x from hfr9) b _ hb hx)
       ·clear vt9 hHR hsm hfr9 vx9 e2 e6 e7 e8 e10 e12
        rintro a' H10 ⟨e, c1, rfl, e2, e6, e7, e8, e10, e12, e13, vt10, hr10, hfr10⟩
        have vs10 := hfr10 _ _ (Azo vs8 vt8 (by decide)) vs8
        replace hfr10 : Aqk _ := hfr10
        (refine @unH _ ?_; refine zA (And.intro Axa @Bool.or_true) ?_; (repeat (refine inC ?_; intro hc)); try (refine inK ?_; intro K hK))
        refine Axe (fun w a' H' => ∃ e c1, ∃ m : Nat, w = s.places.toNat - m /\ (m : Int) <= s.places /\ a' = act 83 e [] /\ e 2 = .pointer (some ⟨sb, 0, none⟩) /\ e 6 = .pointer (some ⟨tb, 0, none⟩) /\ e 7 = .pointer (some ⟨xb, 0, none⟩) /\ e 8 = .pointer (some ⟨cb, 0, none⟩) /\ e 10 = .int .i64 bhi /\ e 12 = .int .i64 (k : Nat) /\ e 13 = .pointer (some ⟨tb, 1 + k * 25, none⟩) /\
         e 63 = .int .i64 s.places /\ e 64 = .int .i64 (m : Nat) /\ H' tb = some (true, .cells c1 130 (0, 0)) /\ HR c1 c0 (1 + k * 25) (Ayn s.places k x (xs, c) m) /\ ∀ b x, b ≠ tb -> H8 b = some x -> H' b = some x) (n := s.places.toNat) ?_ ?_
        ·exact ⟨_, c1, 0, by omega, by have := ok.p0; omega, rfl, e2, e6, e7, e8, e10, e12, e13, rfl, rfl, vt10, hr10, hfr10⟩
        ·clear vt10 hr10 hfr10 vs10 e2 e6 e7 e8 e10 e12 e13
         rintro w a' H11 ⟨e, c2, m, rfl, hm, rfl, e2, e6, e7, e8, e10, e12, e13, e63, e64, vt11, hr11, hfr11⟩
         have ok1 := ok.p1
         by_cases hmp : (m : Int) < s.places
         ·obtain ⟨w, hw⟩ : ∃ w, x.bs[m]? = some w := ⟨_, List.getElem?_eq_getElem (by rw [hxo.b]; omega)⟩
          have hbc := hr11.bd (Cz1 hxo hxl m) (Cw2 (pl := s.places) (b := (k : Int)) (tc := (xs, c)) hw)
          have hsu := Ckf (pl := s.places) (b := (k : Int)) (tc := (xs, c)) hw hmp
          have hadd := hr11.add (Cz1 hxo hxl m) (by omega) (show m < 6 by omega) (Aza w (min 99 ((k : Int) + gI c (m : Int))))
          rw [<- hsu] at hadd
          have hgc := Awq hcl (show (0 : Int) <= (m : Int) by omega) (by omega)
          rw [Int.toNat_natCast] at hgc
          obtain ⟨hg0, hg9⟩ := hc0 (m : Int) (by omega) (by omega)
          have vc11 := hfr11 _ _ (Azo vc8 vt8 (by decide)) vc8
          generalize gI c (m : Int) = g at *
          clear hsu hr11
          replace hfr11 : Aqk _ := hfr11
          (refine @unH _ ?_; refine zA (And.intro Axa @Bool.or_true) ?_; (repeat (refine inC ?_; intro hc)); try (refine inK ?_; intro K hK))
          rw [show (if (k : Int) + g < 99 then (k : Int) + g else 99) = min 99 ((k : Int) + g) by split <;> omega]
          rw [Bvn, Ake]
          simp only [Array.append_empty, List.append_toArray, List.cons_append, List.nil_append]
          refine (Byt main H11 tb (1 + k * 25 + m * 3) w (min 99 ((k : Int) + g)) c2 130 vt11 hbc).runs.mono ?_
          rintro _ H12 ⟨rfl, vt12, hfr12⟩
          replace hfr12 : Aqk _ := hfr12
          clear vt11 hbc hgc vc11
          ((try (refine @unH _ ?_; refine zX (And.intro Axa @Bool.or_true) ?_)); (try (refine hK _ _ ?_; clear hK K; (try simp only [nq, ↓reduceIte, Nat.reduceEqDiff]))); refine @unH _ ?_; refine zA (And.intro Axa @Bool.or_true) ?_; (repeat (refine inC ?_; intro hc)); try (refine inK ?_; intro K hK))
          exact ⟨_, by omega, _, _, m + 1, rfl, by omega, rfl, e2, e6, e7, e8, e10, e12, e13, e63, rfl, vt12, hadd, fun b x' hb hx => ((show ∀ y, y ≠ tb -> H12 y = H11 y from hfr12) b hb).trans ((show ∀ b x, b ≠ tb -> H8 b = some x -> H11 b = some x from hfr11) b _ hb hx)⟩
         ·rw [Cw1 (by omega)] at hr11
          obtain rfl := (show ∀ c1 : Array Value, HR c1 c0 (1 + k * 25) (Azg s.places k x (xs, c)) -> c1 = _ from hdone) c2 hr11
          clear hr11 hdone
          replace hfr11 : Aqk _ := hfr11
          (refine @unH _ ?_; refine zA (And.intro Axa @Bool.or_true) ?_; (repeat (refine inC ?_; intro hc)); try (refine inK ?_; intro K hK))
          exact ⟨_, by omega, _, k + 1, rfl, by omega, .inr (by omega), rfl, e2, e6, e7, e8, e10, rfl, vt11, hfr11⟩
      ·have hfin : Az5 s.places (xs, c) kl (bhi + 1) hs0 = Az5 s.places (xs, c) kl k hs0 := by
        rcases hkb with rfl | hkb
        ·by_cases h : bhi + 1 <= (k : Int)
         ·rw [Ay1 _ _ h, Ay1 _ _ (Int.le_refl _)]
         ·omega
        ·rw [show bhi + 1 = (k : Int) by omega]
       rw [hfin] at hend
       replace hfr9 : Aqk _ := hfr9
       clear hfin hkb
       (refine @unH _ ?_; refine zA (And.intro Axa @Bool.or_true) ?_; (repeat (refine inC ?_; intro hc)); try (refine inK ?_; intro K hK))
       refine (show ∀ e2 Hz, _ -> _ -> _ -> _ from hend) _ _ (fun b x g1 g2 hx => (show ∀ b x, b ≠ tb -> H8 b = some x -> H9 b = some x from hfr9) b x g2 ((show ∀ b x, b ≠ mb -> Hb b = some x -> H8 b = some x from hfr8) b x g1 hx)) ?_ vt9
       obtain ⟨es, clock, k1, k2⟩ := kn8
       exact ⟨es, clock, (show ∀ b x, b ≠ tb -> H8 b = some x -> H9 b = some x from hfr9) _ _ nmt k1, k2⟩)
   clear hK0
   (iterate 8 (apply Axf rfl rfl rfl ‹_›; (focus (intro HX hHX; simp -implicitDefEqProofs (disch := first | omega | (simp only [qd] <;> omega)) only [xq, ↓xp, qc, Nat.reduceAdd, List.range, List.range.loop, fine, Nat.reduceEqDiff, ↓reduceIte, yielded, reduceCtorEq, Nat.reduceLT, Nat.reduceMul, Nat.reduceSub, one, Nat.reduceLeDiff, Aqj, Axa, aq, ↓ap, qe0, qe1, qe2, *, -hK, Aq8, hHX _ _ vpb, hHX _ _ vsb, hHX _ _ vib, hHX _ _ vxb, hHX _ _ hib2, Cqp, Bool.or_true] <;> (first | exact rfl | exact ⟨rfl, rfl⟩ | exact ⟨rfl, trivial⟩))); simp -implicitDefEqProofs (disch := first | omega | (simp only [qd] <;> omega)) only [Aq3, Aqn]))
   refine Avr ?_ ?_
   ·(refine @unH _ ?_; refine zX (And.intro Axa @Bool.or_true) ?_)
    refine (hspr Hb true vhb knb hsb.dd).runs.mono ?_
    rintro _ Hc ⟨rfl, hfc, knc⟩
    (refine @unH _ ?_; refine zX (And.intro Axa @Bool.or_true) ?_)
    refine ⟨.inl (by decide), Aqx ?_⟩
    (refine @unH _ ?_; refine zX (And.intro Axa @Bool.or_true) ?_)
    (intro cb hcb; generalize hG : Hp.set _ cb _ = Hd; have lHd := Aqc hG hcb; have vcb := Aqb hG; clear hG)
    refine ⟨.inr (fun h => Hp.le_trans h lHd), Aqx ?_⟩
    (refine @unH _ ?_; refine zX (And.intro Axa (And.intro @Bool.or_true (And.intro @Ajz (And.intro @Az1 @Az2)))) ?_)
    refine ⟨.inl (by decide), Axs (hK _ _ ?_)⟩
    refine ⟨cb, e2, e5, e6, rfl, rfl, Axg, ?_, fun b x hb hx => ?_⟩
    ·obtain ⟨es, clock, k1, k2⟩ := knc
     exact ⟨es, clock, by rw [Aqw (Aqr k1 hcb)]; exact lHd _ _ k1, k2⟩
    ·have h1 := hfc b x hb hx
     rw [Aqw (Aqr h1 hcb)]
     exact lHd _ _ h1
   ·(refine @unH _ ?_; refine zX (And.intro Axa @Bool.or_true) ?_)
    (intro cb hcb; generalize hG : Hp.set _ cb _ = Hd; have lHd := Aqc hG hcb; have vcb := Aqb hG; clear hG)
    refine ⟨.inr (fun _ => by first | exact lHd | trivial), Aqx ?_⟩
    have vhd := lHd _ _ vhb
    (refine @unH _ ?_; refine zX (And.intro Axa @Bool.or_true) ?_)
    refine (hspr Hd true vhd (knb.le lHd) (hsb.dd.le lHd)).runs.mono ?_
    rintro _ Hc ⟨rfl, hfc, knc⟩
    have ncm : cb ≠ mb := fun e => by obtain ⟨es, clock, k1, k2⟩ := knb; rw [<- e, hcb] at k1; cases k1
    have vcc := hfc _ _ ncm vcb
    (refine @unH _ ?_; refine zX (And.intro Axa @Bool.or_true) ?_)
    refine ⟨.inl (by decide), Aqx ?_⟩
    (refine @unH _ ?_; refine zX (And.intro Axa (And.intro @Bool.or_true (And.intro @Ajz (And.intro @Az1 @Az2)))) ?_)
    refine ⟨.inl (by decide), Axs (hK _ _ ?_)⟩
    refine ⟨cb, e2, e5, e6, rfl, rfl, Axg, ?_, fun b x hb hx => ?_⟩
    ·obtain ⟨es, clock, k1, k2⟩ := knc
     exact ⟨es, clock, by rw [Aqw (Ne.symm ncm)]; exact k1, k2⟩
    ·rw [Aqw (Aqr hx hcb)]
     exact hfc b x hb (lHd _ _ hx)
 have hpk := ok.hk p (List.mem_of_getElem? hi)
 have nlm : l ≠ mb := Ne.symm (nrl _ _ vm5).1
 have nrm : r ≠ mb := Ne.symm (nrl _ _ vm5).2
 have nlt : l ≠ tb := Ne.symm (nrl _ _ vt5).1
 have nrt : r ≠ tb := Ne.symm (nrl _ _ vt5).2
 have hT0 : folT H6 s p i l r mb tb lo true [] H6 := by
  refine ⟨rfl, vl6, vr6, ⟨#[], 0, vm6, fun e he => by simp at he⟩, ?_, fun x hx => by simp at hx, fun _ _ _ _ _ _ hx => hx⟩
  rw [vt6]
  rfl
 have hthis : ∀ L H, folT H6 s p i l r mb tb lo true L H -> ∃ hb mb q q', H thisb = some (q', .cells #[.pointer (some ⟨hb, 0, none⟩)] 77 (0, 0)) /\ H hb = some (q, hsO s.places (.slice da s.doors.length dc) (.slice ha s.hampers.length kc) (.slice na s.noses.length nc) mb) /\ SlD H (.slice da s.doors.length dc) s.doors := by
  rintro L H ⟨_, h1, h2, h3, h4, h5, h6⟩
  refine ⟨hb, mb, true, true, h6 _ _ (nrl _ _ vth).1 (nrl _ _ vth).2 (fun e => by rw [e, vm6] at vth6; cases vth6) (Azo vth6 vt6 (by decide)) vth6, h6 _ _ (nrl _ _ vh5).1 (nrl _ _ vh5).2 (fun e => by rw [e, vm6] at vh6; cases vh6) (Azo vh6 vt6 (by decide)) vh6, hs6.dd.move fun x q c fr hx => ⟨q, ?_⟩⟩
  exact h6 _ _ (fun e => by rw [e, vl6] at hx; cases hx) (fun e => by rw [e, vr6] at hx; cases hx) (fun e => by rw [e, vm6] at hx; cases hx) (Azo hx vt6 (by decide)) hx
 have hrun := Cq2 main (thisb := thisb) (pl := s.places) (da := da) (dc := dc) (hv := .slice ha s.hampers.length kc) (nv := .slice na s.noses.length nc) (ds := s.doors) hC (fun t L H h => h.1) hthis ok.dl H6 hT0 (fun u hu => ⟨by
  have := Akr hu
  have := ok.dl
  simp [pad6]
  omega, Akd ok.dk hu⟩)
 refine hrun.runs.mono ?_
 clear hrun hC hround hthis hT0
 rintro _ H7 ⟨rfl, ⟨_, vl7, vr7, _, vt7, hL6, hk7⟩, hfr7⟩
 refine Cqk vl7 hlo1 hlo2 ?_
 have hTe : (⟨(i : Int), byL s (prF s p ((Axx s.doors).map pad6))⟩ : Trail) = Azc s i := by
  unfold Azc prF trL
  rw [List.map_map, List.getD, hi]
  rfl
 have hTo : Ax6 ⟨(i : Int), byL s (prF s p ((Axx s.doors).map pad6))⟩ := Cv0 (fun tc htc => by
  obtain ⟨t, ht, rfl⟩ := List.mem_map.1 htc
  exact hL6 t ht) _
 rw [hTe] at vt7 hTo
 clear hTe hL6
 generalize Azc s i = T at *
 have hTl := Axu hTo
 have hTx := By7 hTo
 have vrb7 := hk7 _ _ (nrl _ _ vr5).1 (nrl _ _ vr5).2 (fun e => by have := l56 _ _ vr5; rw [e, vm6] at this; cases this) (fun e => by rw [e, n0t] at vr; cases vr) (l56 _ _ vr5)
 have hk9 : ∀ b x, b ≠ l -> b ≠ r -> b ≠ mb -> b ≠ tb -> H6 b = some x -> (H7.set l (.loop { lo with state := .exhausted })) b = some x := fun b x g1 g2 g3 g4 hx => (Aqw g1).trans (hk7 b x g1 g2 g3 g4 hx)
 have vt9 : (H7.set l (.loop { lo with state := .exhausted })) tb = _ := (Aqw (Ne.symm nlt)).trans vt7
 have vr9 : (H7.set l (.loop { lo with state := .exhausted })) r = _ := (Aqw hlr).trans vr7
 have vrb9 : (H7.set l (.loop { lo with state := .exhausted })) rb = _ := (Aqw (nrl _ _ vr5).1).trans vrb7
 have nrbr : rb ≠ r := (nrl _ _ vr5).2
 have h3l : H3 l = none := Hp.le_none l35 hnl
 have h3r : H3 r = none := Hp.le_none l35 hr
 have l36 := Hp.le_trans l35 l56
 generalize H7.set l (.loop { lo with state := .exhausted }) = H9 at *
 clear vl7 vr7 vt7 hfr7 hk7 vrb7 vl6 vr6 vh6 vm6 vp6 vt6 hs6 vs6 vi6 vth6 nrl vh5 vm5 vp5 vt5 hs5 vs5 vi5 vr5 vth n4th
 (try simp only [nq, ↓reduceIte, Nat.reduceEqDiff])
 (refine @unH _ ?_; refine zA Axa ?_; (repeat (refine inC ?_; intro hc)); try (refine inK ?_; intro K hK))
 rw [Bqc hTo vrb9 hz]
 refine hK _ _ ?_
 clear hK K
 (try simp only [nq, ↓reduceIte, Nat.reduceEqDiff])
 (refine @unH _ ?_; refine zA Axa ?_; (repeat (refine inC ?_; intro hc)); try (refine inK ?_; intro K hK))
 refine Axt ?_
 (try simp only [nq, ↓reduceIte, Nat.reduceEqDiff])
 refine Cjx (show (Hp.set H9 rb _) r = _ from (Aqw (Ne.symm nrbr)).trans vr9) ?_
 rw [Ax7 Tryz.results78 (by decide) (b := rb) (o := 0) (by exact e4) Tryz.underlying130 rfl Tryz.sizeOf130]
 rw [Ayb (p := true) (c := (Axd T).toArray) (e := 130) (f := (0, 0)) ((Aqw nrbr).trans Axg)]
 refine ⟨by rw [List.size_toArray, hTl]; omega, ?_⟩
 rw [show (Axd T).toArray.extract 0 (0 + (325 + 1)) = _ from hTx]
 refine (show ∀ H', (∀ b x, b ≠ rb -> H3 b = some x -> H' b = some x) -> R (.returned (.agg (Axd T).toArray)) H' from hR) _ fun b x hb hx => ?_
 rw [Aqw (fun e => by rw [e, h3r] at hx; cases hx), Aqw hb]
 exact hk9 b x (fun e => by rw [e, h3l] at hx; cases hx) (fun e => by rw [e, h3r] at hx; cases hx) (fun e => by rw [e, n0m] at hx; cases hx) (fun e => by rw [e, n0t] at hx; cases hx) (l36 _ _ hx)
def Axi := And.intro (fun H => Aqv (H := H) (P := Tryz.prog) (h := Tryz.zeroValue130)) (And.intro (fun H => Aqp (H := H) Tryz.underlying28 rfl Tryz.sizeOf28) (And.intro @Cqq (And.intro (fun H => Aqg (H := H) Tryz.underlying3 rfl) (And.intro @Bzw (And.intro (fun H => Aqv (H := H) (P := Tryz.prog) (h := Tryz.zeroValue77)) (And.intro (fun H => Bjt (H := H) Tryz.sizeOf77) (And.intro (fun H => Aqs (H := H) Tryz.sizeOf130) (And.intro (fun H => Aqg (H := H) Tryz.underlying77 rfl) (And.intro @Cv8 (And.intro (fun H => Aqv (H := H) (P := Tryz.prog) (h := Tryz.zeroValue76)) (And.intro (fun H => Aqs (H := H) Tryz.sizeOf76) (And.intro (fun H => Aqd (H := H) Tryz.underlying28 (i := 2) rfl (off := 2) rfl Tryz.sizeOf22) (And.intro (fun H => Aqg (H := H) Tryz.underlying22 rfl) (And.intro (fun H => Aqu (H := H) Tryz.underlying22 Tryz.sizeOf3) (And.intro (fun H => Aqp (H := H) Tryz.underlying76 rfl Tryz.sizeOf76) (And.intro @Ak7 (And.intro @Cqr (And.intro (fun H => Aqv (H := H) (P := Tryz.prog) (h := Tryz.zeroValue79)) (And.intro (fun H => Aqs (H := H) Tryz.sizeOf79) (And.intro (fun H => Aqp (H := H) Tryz.underlying79 rfl Tryz.sizeOf79) (And.intro @Cv9 (And.intro (fun H => Aqd (H := H) Tryz.underlying130 (i := 1) rfl (off := 1) rfl Tryz.sizeOf128) (And.intro (fun H => Aq5 (H := H) Tryz.underlying128 Tryz.sizeOf94) (And.intro (fun H => Aqd (H := H) Tryz.underlying94 (i := 2) rfl (off := 24) rfl Tryz.sizeOf4) (And.intro (fun H => Aqg (H := H) Tryz.underlying4 rfl) (And.intro (fun H => Ajr (H := H) Tryz.sizeOf4) (And.intro (fun H => Aqd (H := H) Tryz.underlying94 (i := 1) rfl (off := 18) rfl Tryz.sizeOf76) (And.intro (fun H => Aqd (H := H) Tryz.underlying28 (i := 0) rfl (off := 0) rfl Tryz.sizeOf3) (And.intro (fun H => Aqd (H := H) Tryz.underlying94 (i := 0) rfl (off := 0) rfl Tryz.sizeOf92) (And.intro (fun H => Aq5 (H := H) Tryz.underlying92 Tryz.sizeOf91) (And.intro (fun H => Aq5 (H := H) Tryz.underlying79 Tryz.sizeOf3) (And.intro @Ay5 (fun H => Aqp (H := H) Tryz.underlying130 rfl Tryz.sizeOf130)))))))))))))))))))))))))))))))))
theorem Cq4 (main : Md) (H : Hp) (s : Sm) (dv hv nv : Value) (hs : SmIn H dv hv nv s) (ok : SmOk s) (i : Nat) (p : Int) (hi : s.hampers[i]? = some p) :
  FnX Tryz.prog main 78 #[smV s.places dv hv nv, .int .i64 i] H fun e H' => e = .returned (.agg (Axd (Azc s i)).toArray) /\ H.le H' := by
 obtain ⟨da, dc, ha, kc, na, nc, rfl, rfl, rfl, l1, l2, l3⟩ := hs.forms
 refine Aqm Tryz.func78 rfl Tryz.ntmps78 (by simp) ?_
 refine Ax5 rfl ?_; intro K hK
 (refine @unH _ ?_; refine zX Axi ?_)
 intro sb hsb ib hib rb hrb
 replace hrb : (Hp.set (Hp.set H sb (smO s.places (.slice da s.doors.length dc) (.slice ha s.hampers.length kc) (.slice na s.noses.length nc))) ib (.cells #[.int .i64 i] 3 (0, 0))) rb = none := hrb
 replace hib : (Hp.set H sb (smO s.places (.slice da s.doors.length dc) (.slice ha s.hampers.length kc) (.slice na s.noses.length nc))) ib = none := hib
 generalize hG : Hp.set H sb _ = H1 at hib hrb ⊢
 have lH1 := Aqc hG hsb
 have ws := Aqb hG
 clear hG
 generalize hG : Hp.set H1 ib _ = H2 at hrb ⊢
 have lH2 := Aqc hG hib
 have wi := Aqb hG
 clear hG
 generalize hG : Hp.set H2 rb _ = H3
 have lH3 := Aqc hG hrb
 have vr := Aqb hG
 clear hG
 have vs := lH3 _ _ (lH2 _ _ ws)
 have vi := lH3 _ _ wi
 have l03 := Hp.le_trans lH1 (Hp.le_trans lH2 lH3)
 have h0rb : H rb = none := Hp.le_none (Hp.le_trans lH1 lH2) hrb
 clear hsb hib hrb ws wi lH1 lH2 lH3
 refine hK _ _ ?_; clear hK K
 have hT0 : Ax6 ⟨i, List.replicate 13 Byj⟩ := ⟨rfl, fun x hx => by rw [List.eq_of_mem_replicate hx]; exact Czz⟩
 refine Dqd (fun HX => H3.le HX) [7] (.take 0 (.take 2 (.take 3 (.three 1 (.two 4 (.one 5 (.one 6 (.one 7 .nil))) 5 (.one 4 (.one 6 (.one 7 .nil)))) 4 (.two 1 (.one 5 (.one 6 (.one 7 .nil))) 5 (.one 1 (.one 6 (.one 7 .nil)))) 5 (.two 1 (.one 4 (.one 6 (.one 7 .nil))) 4 (.one 1 (.one 6 (.one 7 .nil)))))))) (by kernel_rfl) (by kernel_rfl) (by decide) (by kernel_rfl) ?_; intro K hK0
 have gH3 : H3.le H3 := Hp.le_refl _
 have hK : ∀ e H', FolS H3 sb ib rb s.places (.slice da s.doors.length dc) (.slice ha s.hampers.length kc) (.slice na s.noses.length nc) ⟨i, List.replicate 13 Byj⟩ e H' -> K (act 83 e []) H' := fun e H' hF => hK0 _ _ (by
  clear hK0 K gH3
  refine Dxm main H3 H' sb ib rb s ok i p hi da dc ha kc na nc (hs.le l03) vs vi _ rfl vr e hF _ (fun H'' hk => ⟨rfl, fun b x hx => hk b x (fun e => by rw [e, h0rb] at hx; cases hx) (l03 _ _ hx)⟩))
 clear hK0
 (iterate 2 (apply Bkz rfl rfl rfl ‹_›; (focus (intro HX hHX; simp -implicitDefEqProofs (disch := first | omega | (simp only [qd] <;> omega)) only [xq, ↓xp, qc, Nat.reduceAdd, List.range, List.range.loop, fine, Nat.reduceEqDiff, ↓reduceIte, yielded, reduceCtorEq, Nat.reduceLT, Nat.reduceMul, Nat.reduceSub, one, Nat.reduceLeDiff, Aqj, Axi, aq, ↓ap, qe0, qe1, qe2, *, -hK, Aq8, hHX _ _ vs, hHX _ _ vi] <;> (first | exact rfl | exact ⟨rfl, rfl⟩ | exact ⟨rfl, trivial⟩))); simp -implicitDefEqProofs (disch := first | omega | (simp only [qd] <;> omega)) only [Aq3, Aqn]))
 refine Bkz (v := .agg (Axd ⟨i, List.replicate 13 Byj⟩).toArray) rfl rfl rfl ‹_› (fun HX hHX => ?_) ?_
 ·(refine @unH _ ?_; refine zX (And.intro Axi @Aq8) ?_)
  first | exact rfl | exact ⟨rfl, rfl⟩
 ·simp -implicitDefEqProofs (disch := first | omega | (simp only [qd] <;> omega)) only [Aq3, Aqn]
  refine Cxi ?_ ?_ ?_
  ·(refine @unH _ ?_; refine zX Axi ?_)
   refine (Akp main H3 _ _ _ _ _ _ _ _ _ _).runs.mono ?_
   rintro _ H4 ⟨hb, mb, rfl, vhb, vmb, h0h, h0m, lH4⟩
   (refine @unH _ ?_; refine zX Axi ?_)
   have gH4 : H3.le H4 := Hp.le_trans gH3 lH4
   refine ⟨.inr (fun _ => by first | exact gH4 | trivial), ?_⟩
   refine Bjg ?_ ?_
   ·(refine @unH _ ?_; refine zX Axi ?_)
    (intro pb hpb; generalize hG : Hp.set _ pb _ = H5; have lH5 := Aqc hG hpb; have vpb := Aqb hG; clear hG)
    have gH5 : H3.le H5 := Hp.le_trans gH4 lH5
    refine ⟨.inr (fun _ => by first | exact gH5 | trivial), ?_⟩
    refine Axz ?_
    (refine @unH _ ?_; refine zX Axi ?_)
    (intro tb htb; generalize hG : Hp.set _ tb _ = H6; have lH6 := Aqc hG htb; have vtb := Aqb hG; clear hG)
    have gH6 : H3.le H6 := Hp.le_trans gH5 lH6
    refine ⟨.inr (fun _ => by first | exact gH6 | trivial), ?_⟩
    have vhx := (lH6 _ _ (lH5 _ _ vhb))
    have vmx := (lH6 _ _ (lH5 _ _ vmb))
    have vpx := (lH6 _ _ vpb)
    have vtx := vtb
    have n0h := (Hp.le_none gH3 h0h)
    have n0m := (Hp.le_none gH3 h0m)
    have n0p := (Hp.le_none gH4 hpb)
    have n0t := (Hp.le_none gH5 htb)
    refine Axz ?_
    (refine @unH _ ?_; refine zX Axi ?_)
    generalize hG : Hp.set H6 pb _ = H7
    have vh7 := Aqi hG vhx (Azo vhx vpx (by decide))
    have vm7 := Aqi hG vmx (fun e => by rw [e, vpx] at vmx; cases vmx)
    have vp7 := Aqb hG
    have vt7 := Aqi hG vtx (Azo vtx vpx (by decide))
    have g7 : H3.le H7 := fun b x hx => Aqi hG (gH6 _ _ hx) (fun e => by rw [e, n0p] at hx; cases hx)
    have nth : hb ≠ tb := Azo vh7 vt7 (by decide)
    have ntp : pb ≠ tb := Azo vp7 vt7 (by decide)
    have ntm : mb ≠ tb := fun e => by rw [e, vt7] at vm7; cases vm7
    refine ⟨.inr (fun _ => by first | exact g7 | trivial), Axz ?_⟩
    (refine @unH _ ?_; refine zX Axi ?_)
    refine ⟨Axu hT0, ?_⟩
    rw [Bqc hT0 vt7 rfl]
    refine ⟨.inl (by decide), Avs (hK _ _ ⟨hb, mb, pb, tb, rfl, rfl, rfl, rfl, rfl, fun b x hx => ?_, ⟨n0h, n0m, n0p, n0t⟩, ?_, ?_, ?_, Axg⟩)⟩
    ·rw [Aqw (fun e => by rw [e, n0t] at hx; cases hx)]; exact g7 _ _ hx
    ·rw [Aqw nth]; exact vh7
    ·rw [Aqw ntm]; exact vm7
    ·rw [Aqw ntp]; exact vp7
   ·(refine @unH _ ?_; refine zX Axi ?_)
    (intro tb htb; generalize hG : Hp.set _ tb _ = H5; have lH5 := Aqc hG htb; have vtb := Aqb hG; clear hG)
    have gH5 : H3.le H5 := Hp.le_trans gH4 lH5
    refine ⟨.inr (fun _ => by first | exact gH5 | trivial), ?_⟩
    refine Axz ?_
    (refine @unH _ ?_; refine zX Axi ?_)
    (intro pb hpb; generalize hG : Hp.set _ pb _ = H6; have lH6 := Aqc hG hpb; have vpb := Aqb hG; clear hG)
    have gH6 : H3.le H6 := Hp.le_trans gH5 lH6
    refine ⟨.inr (fun _ => by first | exact gH6 | trivial), ?_⟩
    have vhx := (lH6 _ _ (lH5 _ _ vhb))
    have vmx := (lH6 _ _ (lH5 _ _ vmb))
    have vpx := vpb
    have vtx := (lH6 _ _ vtb)
    have n0h := (Hp.le_none gH3 h0h)
    have n0m := (Hp.le_none gH3 h0m)
    have n0p := (Hp.le_none gH5 hpb)
    have n0t := (Hp.le_none gH4 htb)
    refine Axz ?_
    (refine @unH _ ?_; refine zX Axi ?_)
    generalize hG : Hp.set H6 pb _ = H7
    have vh7 := Aqi hG vhx (Azo vhx vpx (by decide))
    have vm7 := Aqi hG vmx (fun e => by rw [e, vpx] at vmx; cases vmx)
    have vp7 := Aqb hG
    have vt7 := Aqi hG vtx (Azo vtx vpx (by decide))
    have g7 : H3.le H7 := fun b x hx => Aqi hG (gH6 _ _ hx) (fun e => by rw [e, n0p] at hx; cases hx)
    have nth : hb ≠ tb := Azo vh7 vt7 (by decide)
    have ntp : pb ≠ tb := Azo vp7 vt7 (by decide)
    have ntm : mb ≠ tb := fun e => by rw [e, vt7] at vm7; cases vm7
    refine ⟨.inr (fun _ => by first | exact g7 | trivial), Axz ?_⟩
    (refine @unH _ ?_; refine zX Axi ?_)
    refine ⟨Axu hT0, ?_⟩
    rw [Bqc hT0 vt7 rfl]
    refine ⟨.inl (by decide), Avs (hK _ _ ⟨hb, mb, pb, tb, rfl, rfl, rfl, rfl, rfl, fun b x hx => ?_, ⟨n0h, n0m, n0p, n0t⟩, ?_, ?_, ?_, Axg⟩)⟩
    ·rw [Aqw (fun e => by rw [e, n0t] at hx; cases hx)]; exact g7 _ _ hx
    ·rw [Aqw nth]; exact vh7
    ·rw [Aqw ntm]; exact vm7
    ·rw [Aqw ntp]; exact vp7
  ·(refine @unH _ ?_; refine zX Axi ?_)
   (intro pb hpb; generalize hG : Hp.set _ pb _ = H4; have lH4 := Aqc hG hpb; have vpb := Aqb hG; clear hG)
   have gH4 : H3.le H4 := Hp.le_trans gH3 lH4
   refine ⟨.inr (fun _ => by first | exact gH4 | trivial), ?_⟩
   refine Bjg ?_ ?_
   ·(refine @unH _ ?_; refine zX Axi ?_)
    refine (Akp main H4 _ _ _ _ _ _ _ _ _ _).runs.mono ?_
    rintro _ H5 ⟨hb, mb, rfl, vhb, vmb, h0h, h0m, lH5⟩
    (refine @unH _ ?_; refine zX Axi ?_)
    have gH5 : H3.le H5 := Hp.le_trans gH4 lH5
    refine ⟨.inr (fun _ => by first | exact gH5 | trivial), ?_⟩
    refine Axz ?_
    (refine @unH _ ?_; refine zX Axi ?_)
    (intro tb htb; generalize hG : Hp.set _ tb _ = H6; have lH6 := Aqc hG htb; have vtb := Aqb hG; clear hG)
    have gH6 : H3.le H6 := Hp.le_trans gH5 lH6
    refine ⟨.inr (fun _ => by first | exact gH6 | trivial), ?_⟩
    have vhx := (lH6 _ _ vhb)
    have vmx := (lH6 _ _ vmb)
    have vpx := (lH6 _ _ (lH5 _ _ vpb))
    have vtx := vtb
    have n0h := (Hp.le_none gH4 h0h)
    have n0m := (Hp.le_none gH4 h0m)
    have n0p := (Hp.le_none gH3 hpb)
    have n0t := (Hp.le_none gH5 htb)
    refine Axz ?_
    (refine @unH _ ?_; refine zX Axi ?_)
    generalize hG : Hp.set H6 pb _ = H7
    have vh7 := Aqi hG vhx (Azo vhx vpx (by decide))
    have vm7 := Aqi hG vmx (fun e => by rw [e, vpx] at vmx; cases vmx)
    have vp7 := Aqb hG
    have vt7 := Aqi hG vtx (Azo vtx vpx (by decide))
    have g7 : H3.le H7 := fun b x hx => Aqi hG (gH6 _ _ hx) (fun e => by rw [e, n0p] at hx; cases hx)
    have nth : hb ≠ tb := Azo vh7 vt7 (by decide)
    have ntp : pb ≠ tb := Azo vp7 vt7 (by decide)
    have ntm : mb ≠ tb := fun e => by rw [e, vt7] at vm7; cases vm7
    refine ⟨.inr (fun _ => by first | exact g7 | trivial), Axz ?_⟩
    (refine @unH _ ?_; refine zX Axi ?_)
    refine ⟨Axu hT0, ?_⟩
    rw [Bqc hT0 vt7 rfl]
    refine ⟨.inl (by decide), Avs (hK _ _ ⟨hb, mb, pb, tb, rfl, rfl, rfl, rfl, rfl, fun b x hx => ?_, ⟨n0h, n0m, n0p, n0t⟩, ?_, ?_, ?_, Axg⟩)⟩
    ·rw [Aqw (fun e => by rw [e, n0t] at hx; cases hx)]; exact g7 _ _ hx
    ·rw [Aqw nth]; exact vh7
    ·rw [Aqw ntm]; exact vm7
    ·rw [Aqw ntp]; exact vp7
   ·(refine @unH _ ?_; refine zX Axi ?_)
    (intro tb htb; generalize hG : Hp.set _ tb _ = H5; have lH5 := Aqc hG htb; have vtb := Aqb hG; clear hG)
    have gH5 : H3.le H5 := Hp.le_trans gH4 lH5
    refine ⟨.inr (fun _ => by first | exact gH5 | trivial), ?_⟩
    refine Axz ?_
    (refine @unH _ ?_; refine zX Axi ?_)
    refine (Akp main H5 _ _ _ _ _ _ _ _ _ _).runs.mono ?_
    rintro _ H6 ⟨hb, mb, rfl, vhb, vmb, h0h, h0m, lH6⟩
    (refine @unH _ ?_; refine zX Axi ?_)
    have gH6 : H3.le H6 := Hp.le_trans gH5 lH6
    refine ⟨.inr (fun _ => by first | exact gH6 | trivial), ?_⟩
    have vhx := vhb
    have vmx := vmb
    have vpx := (lH6 _ _ (lH5 _ _ vpb))
    have vtx := (lH6 _ _ vtb)
    have n0h := (Hp.le_none gH5 h0h)
    have n0m := (Hp.le_none gH5 h0m)
    have n0p := (Hp.le_none gH3 hpb)
    have n0t := (Hp.le_none gH4 htb)
    refine Axz ?_
    (refine @unH _ ?_; refine zX Axi ?_)
    generalize hG : Hp.set H6 pb _ = H7
    have vh7 := Aqi hG vhx (Azo vhx vpx (by decide))
    have vm7 := Aqi hG vmx (fun e => by rw [e, vpx] at vmx; cases vmx)
    have vp7 := Aqb hG
    have vt7 := Aqi hG vtx (Azo vtx vpx (by decide))
    have g7 : H3.le H7 := fun b x hx => Aqi hG (gH6 _ _ hx) (fun e => by rw [e, n0p] at hx; cases hx)
    have nth : hb ≠ tb := Azo vh7 vt7 (by decide)
    have ntp : pb ≠ tb := Azo vp7 vt7 (by decide)
    have ntm : mb ≠ tb := fun e => by rw [e, vt7] at vm7; cases vm7
    refine ⟨.inr (fun _ => by first | exact g7 | trivial), Axz ?_⟩
    (refine @unH _ ?_; refine zX Axi ?_)
    refine ⟨Axu hT0, ?_⟩
    rw [Bqc hT0 vt7 rfl]
    refine ⟨.inl (by decide), Avs (hK _ _ ⟨hb, mb, pb, tb, rfl, rfl, rfl, rfl, rfl, fun b x hx => ?_, ⟨n0h, n0m, n0p, n0t⟩, ?_, ?_, ?_, Axg⟩)⟩
    ·rw [Aqw (fun e => by rw [e, n0t] at hx; cases hx)]; exact g7 _ _ hx
    ·rw [Aqw nth]; exact vh7
    ·rw [Aqw ntm]; exact vm7
    ·rw [Aqw ntp]; exact vp7
  ·(refine @unH _ ?_; refine zX Axi ?_)
   (intro tb htb; generalize hG : Hp.set _ tb _ = H4; have lH4 := Aqc hG htb; have vtb := Aqb hG; clear hG)
   have gH4 : H3.le H4 := Hp.le_trans gH3 lH4
   refine ⟨.inr (fun _ => by first | exact gH4 | trivial), ?_⟩
   refine Bjg ?_ ?_
   ·(refine @unH _ ?_; refine zX Axi ?_)
    refine (Akp main H4 _ _ _ _ _ _ _ _ _ _).runs.mono ?_
    rintro _ H5 ⟨hb, mb, rfl, vhb, vmb, h0h, h0m, lH5⟩
    (refine @unH _ ?_; refine zX Axi ?_)
    have gH5 : H3.le H5 := Hp.le_trans gH4 lH5
    refine ⟨.inr (fun _ => by first | exact gH5 | trivial), ?_⟩
    refine Axz ?_
    (refine @unH _ ?_; refine zX Axi ?_)
    (intro pb hpb; generalize hG : Hp.set _ pb _ = H6; have lH6 := Aqc hG hpb; have vpb := Aqb hG; clear hG)
    have gH6 : H3.le H6 := Hp.le_trans gH5 lH6
    refine ⟨.inr (fun _ => by first | exact gH6 | trivial), ?_⟩
    have vhx := (lH6 _ _ vhb)
    have vmx := (lH6 _ _ vmb)
    have vpx := vpb
    have vtx := (lH6 _ _ (lH5 _ _ vtb))
    have n0h := (Hp.le_none gH4 h0h)
    have n0m := (Hp.le_none gH4 h0m)
    have n0p := (Hp.le_none gH5 hpb)
    have n0t := (Hp.le_none gH3 htb)
    refine Axz ?_
    (refine @unH _ ?_; refine zX Axi ?_)
    generalize hG : Hp.set H6 pb _ = H7
    have vh7 := Aqi hG vhx (Azo vhx vpx (by decide))
    have vm7 := Aqi hG vmx (fun e => by rw [e, vpx] at vmx; cases vmx)
    have vp7 := Aqb hG
    have vt7 := Aqi hG vtx (Azo vtx vpx (by decide))
    have g7 : H3.le H7 := fun b x hx => Aqi hG (gH6 _ _ hx) (fun e => by rw [e, n0p] at hx; cases hx)
    have nth : hb ≠ tb := Azo vh7 vt7 (by decide)
    have ntp : pb ≠ tb := Azo vp7 vt7 (by decide)
    have ntm : mb ≠ tb := fun e => by rw [e, vt7] at vm7; cases vm7
    refine ⟨.inr (fun _ => by first | exact g7 | trivial), Axz ?_⟩
    (refine @unH _ ?_; refine zX Axi ?_)
    refine ⟨Axu hT0, ?_⟩
    rw [Bqc hT0 vt7 rfl]
    refine ⟨.inl (by decide), Avs (hK _ _ ⟨hb, mb, pb, tb, rfl, rfl, rfl, rfl, rfl, fun b x hx => ?_, ⟨n0h, n0m, n0p, n0t⟩, ?_, ?_, ?_, Axg⟩)⟩
    ·rw [Aqw (fun e => by rw [e, n0t] at hx; cases hx)]; exact g7 _ _ hx
    ·rw [Aqw nth]; exact vh7
    ·rw [Aqw ntm]; exact vm7
    ·rw [Aqw ntp]; exact vp7
   ·(refine @unH _ ?_; refine zX Axi ?_)
    (intro pb hpb; generalize hG : Hp.set _ pb _ = H5; have lH5 := Aqc hG hpb; have vpb := Aqb hG; clear hG)
    have gH5 : H3.le H5 := Hp.le_trans gH4 lH5
    refine ⟨.inr (fun _ => by first | exact gH5 | trivial), ?_⟩
    refine Axz ?_
    (refine @unH _ ?_; refine zX Axi ?_)
    refine (Akp main H5 _ _ _ _ _ _ _ _ _ _).runs.mono ?_
    rintro _ H6 ⟨hb, mb, rfl, vhb, vmb, h0h, h0m, lH6⟩
    (refine @unH _ ?_; refine zX Axi ?_)
    have gH6 : H3.le H6 := Hp.le_trans gH5 lH6
    refine ⟨.inr (fun _ => by first | exact gH6 | trivial), ?_⟩
    have vhx := vhb
    have vmx := vmb
    have vpx := (lH6 _ _ vpb)
    have vtx := (lH6 _ _ (lH5 _ _ vtb))
    have n0h := (Hp.le_none gH5 h0h)
    have n0m := (Hp.le_none gH5 h0m)
    have n0p := (Hp.le_none gH4 hpb)
    have n0t := (Hp.le_none gH3 htb)
    refine Axz ?_
    (refine @unH _ ?_; refine zX Axi ?_)
    generalize hG : Hp.set H6 pb _ = H7
    have vh7 := Aqi hG vhx (Azo vhx vpx (by decide))
    have vm7 := Aqi hG vmx (fun e => by rw [e, vpx] at vmx; cases vmx)
    have vp7 := Aqb hG
    have vt7 := Aqi hG vtx (Azo vtx vpx (by decide))
    have g7 : H3.le H7 := fun b x hx => Aqi hG (gH6 _ _ hx) (fun e => by rw [e, n0p] at hx; cases hx)
    have nth : hb ≠ tb := Azo vh7 vt7 (by decide)
    have ntp : pb ≠ tb := Azo vp7 vt7 (by decide)
    have ntm : mb ≠ tb := fun e => by rw [e, vt7] at vm7; cases vm7
    refine ⟨.inr (fun _ => by first | exact g7 | trivial), Axz ?_⟩
    (refine @unH _ ?_; refine zX Axi ?_)
    refine ⟨Axu hT0, ?_⟩
    rw [Bqc hT0 vt7 rfl]
    refine ⟨.inl (by decide), Avs (hK _ _ ⟨hb, mb, pb, tb, rfl, rfl, rfl, rfl, rfl, fun b x hx => ?_, ⟨n0h, n0m, n0p, n0t⟩, ?_, ?_, ?_, Axg⟩)⟩
    ·rw [Aqw (fun e => by rw [e, n0t] at hx; cases hx)]; exact g7 _ _ hx
    ·rw [Aqw nth]; exact vh7
    ·rw [Aqw ntm]; exact vm7
    ·rw [Aqw ntp]; exact vp7
end Go.Proofs.YtkcomnkgdifboaaGreatDoor
end
