/- Texts Planned Fork Work Flow Chan Join Child Within Verdict First Plan Take. -/
import Derived.Test.YtofmadjgbcopdaaGreatDoorJ06
import Derived.Conc.Own2
import Derived.Conc.DeferLaws
set_option linter.defProp false
set_option linter.unusedSimpArgs false
set_option linter.unusedVariables false
set_option maxRecDepth 100000
set_option maxHeartbeats 2000000
section
namespace Go.Proofs.YtofmadjgbcopdaaGreatDoor
open Go Go.X
def y32_53 := And.intro (fun H => loadAt_aggE (H := H) Tryz.underlying29 rfl Tryz.sizeOf29) (And.intro @callF74 @callF75)
def y34_53 := And.intro (fun H => loadAt_aggE (H := H) Tryz.underlying29 rfl Tryz.sizeOf29) (And.intro @callF74 @callF78)
def y74_53 := And.intro (fun H => loadAt_aggE (H := H) Tryz.underlying29 rfl Tryz.sizeOf29) (And.intro @callF68 (And.intro @callF115 (And.intro @callF114 @callF98)))
def y114_53 := And.intro (fun H => ex_alloc (H := H) (P := Tryz.prog) (h := Tryz.zeroValue208)) (And.intro (fun H => makeI (H := H) Tryz.underlying209 rfl) (And.intro @callF125 (And.intro (fun H => fieldAt_eq (H := H) Tryz.underlying208 (i := 0) rfl (off := 0) rfl Tryz.sizeOf39) (fun H => loadAt_one (H := H) Tryz.underlying39 rfl))))
def y115_53 := And.intro (fun H => len_slice (H := H) Tryz.underlying22) (And.intro (fun H => indexAt_slice (H := H) Tryz.underlying22 Tryz.sizeOf3) (And.intro (fun H => loadAt_one (H := H) Tryz.underlying3 rfl) (And.intro (fun H => fieldAt_eq (H := H) Tryz.underlying85 (i := 0) rfl (off := 0) rfl Tryz.sizeOf29) (And.intro (fun H => fieldAt_eq (H := H) Tryz.underlying29 (i := 5) rfl (off := 8) rfl Tryz.sizeOf3) (And.intro @callF71 (And.intro @bld_208_0_0 (And.intro (fun H => makeI (H := H) Tryz.underlying208 rfl) (And.intro (fun H => fieldAt_eq (H := H) Tryz.underlying85 (i := 1) rfl (off := 12) rfl Tryz.sizeOf22) (fun H => loadAt_one (H := H) Tryz.underlying22 rfl)))))))))
structure PlanOk (n : HN) (N : Nat) (pl : List Nat) : Prop where
 p1 : ∀ m ∈ pl, 1 <= m
 p2 : ∀ m ∈ pl, (m : Int) <= n.load
 ps : pl.sum = N
theorem sum_take_succ {pl : List Nat} {i : Nat} (h : i < pl.length) : (pl.take (i + 1)).sum = (pl.take i).sum + pl.getD i 0 /\ (pl.take (i + 1)).sum <= pl.sum := by
 constructor
 ·rw [List.take_add_one, List.getElem?_eq_getElem h, List.sum_append]
  simp [List.getD, List.getElem?_eq_getElem h]
 ·have : pl.sum = (pl.take (i + 1)).sum + (pl.drop (i + 1)).sum := by rw [<- List.sum_append, List.take_append_drop]
  omega
theorem hcheck_spec (main : Md) (H : Hp) (hb : Nat) (n : HN) (v : HV) (jv : Value) (q : Bool) (hhb : H hb = some (q, n.obj v jv)) (N : Nat) (hj : ∃ ja jc, jv = .slice ja N jc) (pv : Value) (pl : List Nat) (hp : SlI H pv (pl.map fun m : Nat => (m : Int))) (hok : PlanOk n N pl) (hN : N <= 1000) :
  FnX Tryz.prog main 115 #[.pointer (some ⟨hb, 0, none⟩), pv] H fun e H' => e = .returned .nilIface /\ H' = H := by
 have hpS := hp
 obtain ⟨pa, pc, rfl, hpc, _⟩ := hp
 obtain ⟨ja, jc, rfl⟩ := hj
 obtain ⟨p1, p2, ps⟩ := hok
 simp only [List.length_map] at hpc
 simp only [List.length_map]
 have hpl : pl.length <= 1000 := by have := parts_len pl p1; omega
 simp only [HN.obj] at hhb
 refine FnX_start Tryz.func115 rfl Tryz.ntmps115 (by simp) ?_
 (refine @unH _ ?_; refine zA y115_53 ?_; (repeat (refine inC ?_; intro hc)); try (refine inK ?_; intro K hK))
 refine wpX_loop (fun w a' H' => ∃ e i, w = pl.length - i /\ i <= pl.length /\ a' = act 37 e [] /\ e 0 = .pointer (some ⟨hb, 0, none⟩) /\ e 5 = .int .i64 ((pl.take i).sum : Nat) /\ e 8 = .slice pa pl.length pc /\ e 9 = .int .i64 pl.length /\ e 10 = .int .i64 (i : Nat) /\ H' = H) (n := pl.length) ?_ ?_
 ·exact ⟨_, 0, rfl, by omega, rfl, rfl, rfl, rfl, rfl, rfl, rfl⟩
 ·rintro w a' H2 ⟨e, i, rfl, hi, rfl, e0, e5, e8, e9, e10, hH⟩
  rw [hH]; clear hH H2
  by_cases hlt : i < pl.length
  ·obtain ⟨b3, o3, cap3, p3, c3, fr3, hve, _, vb3, hx⟩ := hpS.cons (fun h => absurd (congrArg List.length h) (by simp only [List.length_nil, List.length_map]; omega))
   cases hve
   have hxi := hx i (pl[i] : Nat) (by rw [List.getElem?_map, List.getElem?_eq_getElem hlt]; rfl)
   have hg : pl.getD i 0 = pl[i] := by simp [List.getD, List.getElem?_eq_getElem hlt]
   have hm1 := p1 _ (List.getElem_mem hlt)
   have hm2 := p2 _ (List.getElem_mem hlt)
   obtain ⟨hs1, hs2⟩ := sum_take_succ hlt
   rw [<- hg] at hxi hm1 hm2
   generalize hsi1 : (pl.take (i + 1)).sum = S1 at hs1 hs2
   generalize hsi : (pl.take i).sum = S0 at hs1 e5
   generalize pl.getD i 0 = mi' at hxi hs1 hm1 hm2
   clear hx hg
   replace hs1 : S1 <= S0 + mi' /\ S0 + mi' <= S1 := by omega
   (refine @unH _ ?_; refine zA y115_53 ?_; (repeat (refine inC ?_; intro hc)); try (refine inK ?_; intro K hK))
   refine (binside_spec main H mi' 1 n.load (by omega) hm2).runs.mono ?_; rintro _ HQ ⟨rfl, hHQ⟩; rw [hHQ]; clear hHQ HQ; ((try (refine @unH _ ?_; refine zX y115_53 ?_)); (try (refine hK _ _ ?_; clear hK K; (try simp only [nq, ↓reduceIte, Nat.reduceEqDiff]))); refine @unH _ ?_; refine zA y115_53 ?_; (repeat (refine inC ?_; intro hc)); try (refine inK ?_; intro K hK))
   refine ⟨_, by omega, _, i + 1, rfl, hlt, rfl, e0, ?_, e8, e9, rfl, by trivial⟩
   rw [hsi1]
   show Value.int _ _ = Value.int _ _
   congr 1
   omega
  ·obtain rfl : i = pl.length := by omega
   rw [List.take_length] at e5
   rw [ps] at e5
   (refine @unH _ ?_; refine zA y115_53 ?_; (repeat (refine inC ?_; intro hc)); try (refine inK ?_; intro K hK))
   (refine @unH _ ?_; refine z9 Tryz.results115 ?_)
   (refine ⟨?_, ?_⟩ <;> first | rfl | trivial | assumption)
theorem errno_nil (main : Md) (H : Hp) : FnX Tryz.prog main 114 #[.nilIface] H fun e H' => e = .returned (.int .i64 0) /\ H.le H' := by
 refine FnX_start Tryz.func114 rfl Tryz.ntmps114 (by simp) ?_
 (refine @unH _ ?_; refine zA y114_53 ?_; (repeat (refine inC ?_; intro hc)); try (refine inK ?_; intro K hK))
 (intro b1 hb1; generalize hG : Hp.set _ b1 _ = H1; have lH1 := le_of_set hG hb1; have vb1 := at_of_set hG; clear hG)
 ((try (refine @unH _ ?_; refine zX y114_53 ?_)); (try (refine hK _ _ ?_; clear hK K; (try simp only [nq, ↓reduceIte, Nat.reduceEqDiff]))); refine @unH _ ?_; refine zA y114_53 ?_; (repeat (refine inC ?_; intro hc)); try (refine inK ?_; intro K hK))
 refine (as_nil main H1 _).runs.mono ?_; rintro _ HQ ⟨rfl, hHQ⟩; rw [hHQ]; clear hHQ HQ; ((try (refine @unH _ ?_; refine zX y114_53 ?_)); (try (refine hK _ _ ?_; clear hK K; (try simp only [nq, ↓reduceIte, Nat.reduceEqDiff]))); refine @unH _ ?_; refine zA y114_53 ?_; (repeat (refine inC ?_; intro hc)); try (refine inK ?_; intro K hK))
 (refine @unH _ ?_; refine z9 Tryz.results114 ?_)
 exact ⟨by trivial, lH1⟩
theorem planned_spec (main : Md) (H : Hp) (n : HN) (v : HV) (hd : HaulIn H n v) (pv : Value) (pl : List Nat) (hp : SlI H pv (pl.map fun m : Nat => (m : Int))) (hok : PlanOk n n.jobs.length pl) (hN : n.jobs.length <= 1000) (mi : Int) (h1 : 1 <= mi) (h20 : mi <= 20) :
  FnX Tryz.prog main 74 #[n.agg v, pv, .int .i64 mi] H fun e H' => ∃ hb jv, e = .returned (.tuple #[.pointer (some ⟨hb, 0, none⟩), .int .i64 0]) /\ H.le H' /\ H' hb = some (true, n.obj v jv) /\ SlI H' jv n.jobs := by
 have hpS := hp
 obtain ⟨pa, pc, rfl, hpc, _⟩ := hp
 have hop := fun H' h' => bopen_spec main H' n v h'
 have hdr := fun H' h' => driving_spec main H' n v h' mi h1 h20
 simp only [HN.agg] at hop hdr ⊢
 refine FnX_start Tryz.func74 rfl Tryz.ntmps74 (by simp) ?_
 (refine @unH _ ?_; refine zA y74_53 ?_; (repeat (refine inC ?_; intro hc)); try (refine inK ?_; intro K hK))
 (intro ab hab; generalize hG : Hp.set _ ab _ = H1; have lH1 := le_of_set hG hab; have vab := at_of_set hG; clear hG)
 have hd1 := hd.le lH1
 ((try (refine @unH _ ?_; refine zX y74_53 ?_)); (try (refine hK _ _ ?_; clear hK K; (try simp only [nq, ↓reduceIte, Nat.reduceEqDiff]))); refine @unH _ ?_; refine zA y74_53 ?_; (repeat (refine inC ?_; intro hc)); try (refine inK ?_; intro K hK))
 refine (hop H1 hd1).runs.mono ?_
 rintro _ H2 ⟨hb, jv, rfl, lH2, vhb, hj⟩
 have hd2 := hd1.le lH2
 have vab2 := lH2 _ _ vab
 have hp2 := hpS.le (Hp.le_trans lH1 lH2)
 have hjs : ∃ ja jc, jv = .slice ja n.jobs.length jc := by obtain ⟨ja, jc, h, _⟩ := id hj; exact ⟨ja, jc, h⟩
 ((try (refine @unH _ ?_; refine zX y74_53 ?_)); (try (refine hK _ _ ?_; clear hK K; (try simp only [nq, ↓reduceIte, Nat.reduceEqDiff]))); refine @unH _ ?_; refine zA y74_53 ?_; (repeat (refine inC ?_; intro hc)); try (refine inK ?_; intro K hK))
 refine (hcheck_spec main H2 hb n v jv true vhb _ hjs _ pl hp2 hok hN).runs.mono ?_; rintro _ HQ ⟨rfl, hHQ⟩; rw [hHQ]; clear hHQ HQ; ((try (refine @unH _ ?_; refine zX y74_53 ?_)); (try (refine hK _ _ ?_; clear hK K; (try simp only [nq, ↓reduceIte, Nat.reduceEqDiff]))); refine @unH _ ?_; refine zA y74_53 ?_; (repeat (refine inC ?_; intro hc)); try (refine inK ?_; intro K hK))
 refine (errno_nil main H2).runs.mono ?_
 rintro _ H3 ⟨rfl, lH3⟩
 have hd3 := hd2.le lH3
 have vab3 := lH3 _ _ vab2
 clear vab vab2
 ((try (refine @unH _ ?_; refine zX y74_53 ?_)); (try (refine hK _ _ ?_; clear hK K; (try simp only [nq, ↓reduceIte, Nat.reduceEqDiff]))); refine @unH _ ?_; refine zA y74_53 ?_; (repeat (refine inC ?_; intro hc)); try (refine inK ?_; intro K hK))
 refine (hdr H3 hd3).runs.mono ?_
 rintro _ H4 ⟨hb4, jv4, rfl, lH4, vhb4, hj4⟩
 ((try (refine @unH _ ?_; refine zX y74_53 ?_)); (try (refine hK _ _ ?_; clear hK K; (try simp only [nq, ↓reduceIte, Nat.reduceEqDiff]))); refine @unH _ ?_; refine zA y74_53 ?_; (repeat (refine inC ?_; intro hc)); try (refine inK ?_; intro K hK))
 (refine @unH _ ?_; refine zB Tryz.results74 ?_)
 exact ⟨hb4, jv4, rfl, Hp.le_trans lH1 (Hp.le_trans lH2 (Hp.le_trans lH3 lH4)), vhb4, hj4⟩
theorem HaulIn.at {H H' : Hp} {n : HN} {v : HV} (h : HaulIn H n v) (hl : H.le H') {hb : Nat} {jv : Value} (ho : H' hb = some (true, n.obj v jv)) (hj : SlI H' jv n.jobs) (hjb : ∀ i ∈ n.jobs, 0 <= i /\ i < n.xs.length) (hjl : n.jobs.length <= 1000) : HaulAt H' hb n v jv n.jobs :=
 ⟨⟨_, ho⟩, h.times.le hl, hj, h.b1, h.b4, h.n0, h.n30, h.ok.2.2, hjb, hjl⟩
theorem Drive_spec (main : Md) (H : Hp) (n : HN) (v : HV) (hd : HaulIn H n v) (pv : Value) (pl : List Nat) (hp : SlI H pv (pl.map fun m : Nat => (m : Int))) (hok : PlanOk n n.jobs.length pl) (hN : n.jobs.length <= 8) (hjb : ∀ i ∈ n.jobs, 0 <= i /\ i < n.xs.length) (mi : Int) (h1 : 1 <= mi) (h20 : mi <= 20) :
  FnX Tryz.prog main 32 #[n.agg v, pv, .int .i64 mi] H fun e H' => ∃ H0 rv, e = .returned (.tuple #[rv, .int .i64 0]) /\ H.le H0 /\ RowZ (Lex none) H0 H' rv 61 3 pl.length (rcells (ridesG n n.jobs mi pl bs0 0)) := by
 have hpS := hp
 obtain ⟨pa, pc, rfl, hpc, _⟩ := hp
 have hpd := fun H' h' (hp' : SlI H' (.slice pa (pl.map fun m : Nat => (m : Int)).length pc) _) => planned_spec main H' n v h' (.slice pa (pl.map fun m : Nat => (m : Int)).length pc) pl hp' hok (by omega) mi h1 h20
 have hpl := parts_len pl hok.p1
 have hps := hok.ps
 simp only [HN.agg] at hpd ⊢
 refine FnX_start Tryz.func32 rfl Tryz.ntmps32 (by simp) ?_
 (refine @unH _ ?_; refine zA y32_53 ?_; (repeat (refine inC ?_; intro hc)); try (refine inK ?_; intro K hK))
 (intro ab hab; generalize hG : Hp.set _ ab _ = H1; have lH1 := le_of_set hG hab; have vab := at_of_set hG; clear hG)
 have hd1 := hd.le lH1
 ((try (refine @unH _ ?_; refine zX y32_53 ?_)); (try (refine hK _ _ ?_; clear hK K; (try simp only [nq, ↓reduceIte, Nat.reduceEqDiff]))); refine @unH _ ?_; refine zA y32_53 ?_; (repeat (refine inC ?_; intro hc)); try (refine inK ?_; intro K hK))
 refine (hpd H1 hd1 (hpS.le lH1)).runs.mono ?_
 rintro _ H2 ⟨hb, jv, rfl, lH2, vhb, hj⟩
 have hat := hd1.at lH2 vhb hj hjb (by omega)
 ((try (refine @unH _ ?_; refine zX y32_53 ?_)); (try (refine hK _ _ ?_; clear hK K; (try simp only [nq, ↓reduceIte, Nat.reduceEqDiff]))); refine @unH _ ?_; refine zA y32_53 ?_; (repeat (refine inC ?_; intro hc)); try (refine inK ?_; intro K hK))
 refine (drive_spec main H2 hb n v jv n.jobs hat _ pl (hpS.le (Hp.le_trans lH1 lH2)) hok.p1 (by omega) (by omega) mi h1 h20).runs.mono ?_
 rintro _ H3 ⟨rv, rfl, hrow⟩
 ((try (refine @unH _ ?_; refine zX y32_53 ?_)); (try (refine hK _ _ ?_; clear hK K; (try simp only [nq, ↓reduceIte, Nat.reduceEqDiff]))); refine @unH _ ?_; refine zA y32_53 ?_; (repeat (refine inC ?_; intro hc)); try (refine inK ?_; intro K hK))
 (refine @unH _ ?_; refine zB Tryz.results32 ?_)
 exact ⟨H2, rv, rfl, Hp.le_trans lH1 lH2, by rw [<- dS_all]; exact hrow⟩
theorem Late_spec (main : Md) (H : Hp) (n : HN) (v : HV) (hd : HaulIn H n v) (pv : Value) (pl : List Nat) (hp : SlI H pv (pl.map fun m : Nat => (m : Int))) (hok : PlanOk n n.jobs.length pl) (hN : n.jobs.length <= 8) (hjb : ∀ i ∈ n.jobs, 0 <= i /\ i < n.xs.length) (mi : Int) (h1 : 1 <= mi) (h20 : mi <= 20) :
  FnX Tryz.prog main 34 #[n.agg v, pv, .int .i64 mi] H fun e H' => ∃ lv, e = .returned (.tuple #[lv, .int .i64 0]) /\ H.le H' /\ SlI H' lv (lateG n n.jobs mi pl bs0 0) := by
 have hpS := hp
 obtain ⟨pa, pc, rfl, hpc, _⟩ := hp
 have hpd := fun H' h' (hp' : SlI H' (.slice pa (pl.map fun m : Nat => (m : Int)).length pc) _) => planned_spec main H' n v h' (.slice pa (pl.map fun m : Nat => (m : Int)).length pc) pl hp' hok (by omega) mi h1 h20
 have hpl := parts_len pl hok.p1
 have hps := hok.ps
 simp only [HN.agg] at hpd ⊢
 refine FnX_start Tryz.func34 rfl Tryz.ntmps34 (by simp) ?_
 (refine @unH _ ?_; refine zA y34_53 ?_; (repeat (refine inC ?_; intro hc)); try (refine inK ?_; intro K hK))
 (intro ab hab; generalize hG : Hp.set _ ab _ = H1; have lH1 := le_of_set hG hab; have vab := at_of_set hG; clear hG)
 have hd1 := hd.le lH1
 ((try (refine @unH _ ?_; refine zX y34_53 ?_)); (try (refine hK _ _ ?_; clear hK K; (try simp only [nq, ↓reduceIte, Nat.reduceEqDiff]))); refine @unH _ ?_; refine zA y34_53 ?_; (repeat (refine inC ?_; intro hc)); try (refine inK ?_; intro K hK))
 refine (hpd H1 hd1 (hpS.le lH1)).runs.mono ?_
 rintro _ H2 ⟨hb, jv, rfl, lH2, vhb, hj⟩
 have hat := hd1.at lH2 vhb hj hjb (by omega)
 ((try (refine @unH _ ?_; refine zX y34_53 ?_)); (try (refine hK _ _ ?_; clear hK K; (try simp only [nq, ↓reduceIte, Nat.reduceEqDiff]))); refine @unH _ ?_; refine zA y34_53 ?_; (repeat (refine inC ?_; intro hc)); try (refine inK ?_; intro K hK))
 refine (late_hspec main H2 hb n v jv n.jobs hat _ pl (hpS.le (Hp.le_trans lH1 lH2)) hok.p1 (by omega) (by omega) mi h1 h20).runs.mono ?_
 rintro _ H3 ⟨rv, rfl, hrow⟩
 ((try (refine @unH _ ?_; refine zX y34_53 ?_)); (try (refine hK _ _ ?_; clear hK K; (try simp only [nq, ↓reduceIte, Nat.reduceEqDiff]))); refine @unH _ ?_; refine zA y34_53 ?_; (repeat (refine inC ?_; intro hc)); try (refine inK ?_; intro K hK))
 (refine @unH _ ?_; refine zB Tryz.results34 ?_)
 exact ⟨rv, rfl, Hp.le_trans lH1 (Hp.le_trans lH2 hrow.1.toLe), hrow.ints⟩
end Go.Proofs.YtofmadjgbcopdaaGreatDoor
end
section
namespace Go.X
open Go
open Go.Conc
section
variable {P : Program} {T : Goroutine -> Hp -> Prop} {γ : Gh}
theorem Fan.ctl {g g' : Goroutine} {H : Hp} (hs : g.status = .running) (h : ∀ w, stepG P true g w = .go g' w #[]) (hg : Fan P T γ g' H) : Fan P T γ g H :=
 .step (fun x y => x = g' /\ y = H) hs (fun w hw => ⟨g', w, #[], H, h w, .refl hw, rfl, rfl⟩) fun x y e => by obtain ⟨rfl, rfl⟩ := e; exact hg
def AfterF (P : Program) (T : Goroutine -> Hp -> Prop) (b : Frame) (k : List Item) (cs : List Frame) (γ : Gh) : Exit -> Act -> Hp -> Prop
 | .normal, a, H => Fan P T γ (G (fat b a k) cs) H
 | .exit id, a, H => ∀ k', exitTo id k' = exitTo id k -> Fan P T γ (G (fat b a (.code (.exit id) :: k')) cs) H
 | .goto l, a, H => ∀ k', gotoIn l k' = gotoIn l k -> Fan P T γ (G (fat b a (.code (.goto l) :: k')) cs) H
 | .ret, a, H => ∀ k', Fan P T γ (G (fat b a (.code .ret :: k')) cs) H
 | .panic ch, a, H => ∀ k', Fan P T γ (G { fat b a k' with mode := .panicking ch } cs) H
 | .outgrown, _, _ => False
theorem AfterF.push {b : Frame} {x : Item} {k : List Item} {cs : List Frame} {e : Exit} {a : Act} {H : Hp} (hx : x.plain = true) (he : e ≠ .normal)
  (h : AfterF P T b k cs γ e a H) : AfterF P T b (x :: k) cs γ e a H := by
 cases e with
 | normal => exact absurd rfl he
 | exit id => exact fun k' hk => h k' (hk.trans (by cases x <;> simp_all [exitTo, Item.plain]))
 | goto l => exact fun k' hk => h k' (hk.trans (by cases x <;> simp_all [gotoIn, Item.plain]))
 | ret => exact h
 | panic ch => exact h
 | outgrown => exact h
theorem AfterF.after {b : Frame} {k : List Item} {cs : List Frame} {e : Exit} {a : Act} {H : Hp} (h : AfterF P T b k cs γ e a H) : After P (.own true) (fun g H => Fan P T γ g H) b k cs e a H := by
 cases e with
 | normal => exact .stop h (Hp.le_refl _)
 | exit id => exact fun k' hk => .stop (h k' hk) (Hp.le_refl _)
 | goto l => exact fun k' hk => .stop (h k' hk) (Hp.le_refl _)
 | ret => exact fun k' => .stop (h k') (Hp.le_refl _)
 | panic ch => exact fun k' => .stop (h k') (Hp.le_refl _)
 | outgrown => exact h
end
abbrev Post3 := Gh -> Exit -> Act -> Hp -> Prop
def wpF (P : Program) (c : Code) (Q : Post3) (γ : Gh) (a : Act) (H : Hp) : Prop :=
 ∀ (b : Frame) (k : List Item) (cs : List Frame) (T : Goroutine -> Hp -> Prop), b.kind ≠ .early -> b.roundOf = none ->
  (∀ γ' e a' H', Q γ' e a' H' -> AfterF P T b k cs γ' e a' H') -> Fan P T γ (G (fat b a (.code c :: k)) cs) H
def opsF (P : Program) (ops : Array Oper) (todo : List Nat) (Q : Post3) (γ : Gh) (a : Act) (H : Hp) : Prop :=
 ∀ (b : Frame) (k : List Item) (cs : List Frame) (T : Goroutine -> Hp -> Prop), b.kind ≠ .early -> b.roundOf = none ->
  (∀ γ' e a' H', Q γ' e a' H' -> AfterF P T b k cs γ' e a' H') -> Fan P T γ (G (fat b a (.inRegion ops todo :: k)) cs) H
section
variable {P : Program} {γ : Gh} {Q : Post3} {a : Act} {H : Hp}
theorem wpF_own {c : Code} (h : wpX P (.own true) none c (Q γ) a H) : wpF P c Q γ a H := fun b k cs T hk hl hc =>
 WPG.walk (h b k cs (fun g H => Fan P T γ g H) hk hl fun e a' H' q => (hc γ e a' H' q).after) fun _ _ h => h
theorem opsF_own {ops : Array Oper} {todo : List Nat} (h : opsX P (.own true) none ops todo (Q γ) a H) : opsF P ops todo Q γ a H := fun b k cs T hk hl hc =>
 WPG.walk (h b k cs (fun g H => Fan P T γ g H) hk hl fun e a' H' q => (hc γ e a' H' q).after) fun _ _ h => h
theorem wpX_stretch {c : Code} {R : Exit -> Act -> Hp -> Prop} (h : wpF P c (fun γ e a H => γ = .idle /\ R e a H) .idle a H) : wpX P (.co P) none c R a H := fun b k cs Stop hk hl hc => by
 refine .phase (fun g H => WPG P (.co P) Stop g H) (h b k cs _ hk hl fun γ' e a' H' ⟨hγ, q⟩ => ?_) fun _ _ h => h
 subst hγ
 have := hc e a' H' q
 cases e with
 | normal => exact .stop this (Hp.le_refl _)
 | exit id => exact fun k' hk => .stop (this k' hk) (Hp.le_refl _)
 | goto l => exact fun k' hk => .stop (this k' hk) (Hp.le_refl _)
 | ret => exact fun k' => .stop (this k') (Hp.le_refl _)
 | panic ch => exact fun k' => .stop (this k') (Hp.le_refl _)
 | outgrown => exact this
theorem wpF_forget {c : Code} {n : Nat} {e : Nat -> Value} {ds : List Deferred} (p : (Nat -> Value) -> Prop) (hp : p e) (h : ∀ e, p e -> wpF P c Q γ (act n e ds) H) : wpF P c Q γ (act n e ds) H := h e hp
theorem wpF_opn {c : Code} {ch cap : Nat} (D : Nat -> Prop) (hc : H ch = some (true, .chan cap #[] false 0 0 false)) (hD : ∀ b, D b -> ∃ o, H b = some (true, o)) (h : wpF P c Q (.busy ch cap [] D) a (H.del ch)) : wpF P c Q .idle a H :=
 fun b k cs T hk hl hq => .opn hc hD (h b k cs T hk hl hq)
theorem wpF_close {c : Code} {ch cap : Nat} {D : Nat -> Prop} (G : Hp) (hG : ∀ b p o, G b = some (p, o) -> ∃ p', H b = some (p', o) /\ (p = true -> p' = true ∨ D b)) (h : ∀ n, wpF P c Q .idle a (G.set ch (.chan cap #[] false n n false))) : wpF P c Q (.busy ch cap [] D) a H :=
 fun b k cs T hk hl hq => .close hG fun n => h n b k cs T hk hl hq
theorem wpF_seq {x y : Code} (h : wpF P x (fun γ' => thn (fun a' H' => wpF P y Q γ' a' H') (Q γ')) γ a H) : wpF P (.seq x y) Q γ a H := by
 intro b k cs T hk hl hc
 refine .ctl (g' := G (fat b a (.code x :: .code y :: k)) cs) rfl (fun w => by simp [G, stepG, stepG.exec, fat]) ?_
 refine h b (.code y :: k) cs T hk hl fun γ' e a' H' q => ?_
 cases e with
 | normal => exact q b k cs T hk hl hc
 | exit id => exact (hc _ _ _ _ q).push rfl (by simp)
 | goto id => exact (hc _ _ _ _ q).push rfl (by simp)
 | ret => exact AfterF.push (x := .code y) (e := .ret) rfl (by simp) (hc _ _ _ _ q)
 | panic ch => exact AfterF.push (x := .code y) (e := .panic ch) rfl (by simp) (hc _ _ _ _ q)
 | outgrown => exact q.elim
theorem wpF_cond {c : Operand} {x y : Code} {t : Bool} (ht : a.eval c = .bool t) (h : wpF P (if t then x else y) Q γ a H) : wpF P (.cond c x y) Q γ a H := by
 intro b k cs T hk hl hc
 refine .ctl (g' := G (fat b a (.code (if t then x else y) :: k)) cs) rfl (fun w => ?_) (h b k cs T hk hl hc)
 have he : (fat b a (.code (.cond c x y) :: k)).eval c = .bool t := by rw [eval_fat]; exact ht
 simp only [fat] at he
 simp [G, stepG, stepG.exec, fat, he]
theorem wpF_skip (h : Q γ .normal a H) : wpF P .skip Q γ a H := fun b k cs _ _ _ hc =>
 .ctl (g' := G (fat b a k) cs) rfl (fun w => by simp [G, stepG, stepG.exec, fat]) (hc _ _ _ _ h)
theorem wpF_exit {id : Nat} (h : Q γ (.exit id) a H) : wpF P (.exit id) Q γ a H := fun _ k _ _ _ _ hc => hc _ _ _ _ h k rfl
theorem wpF_block {id : Nat} {c : Code} (h : wpF P c (fun γ' => blk id (Q γ')) γ a H) : wpF P (.block id c) Q γ a H := by
 intro b k cs T hk hl hc
 refine .ctl (g' := G (fat b a (.code c :: .inBlock id :: k)) cs) rfl (fun w => by simp [G, stepG, stepG.exec, fat]) ?_
 refine h b (.inBlock id :: k) cs T hk hl fun γ' e a' H' q => ?_
 cases e with
 | normal => exact .ctl (g' := G (fat b a' k) cs) rfl (fun w => by simp [G, stepG, stepG.exec, fat]) (hc _ _ _ _ q)
 | exit id' =>
  by_cases hid : id' = id
  ·simp only [blk, hid, if_true] at q
   subst hid
   intro k' hk'
   have hx : exitTo id' k' = some k := hk'.trans (by simp [exitTo])
   exact .ctl (g' := G (fat b a' k) cs) rfl (fun w => by simp [G, stepG, stepG.exec, fat, hx]) (hc _ _ _ _ q)
  ·simp only [blk, hid, if_false] at q
   have hn : (id == id') = false := by simp; exact fun h => hid h.symm
   exact fun k' hk' => hc _ _ _ _ q k' (hk'.trans (by simp [exitTo, hn]))
 | goto l => exact fun k' hk' => hc _ _ _ _ q k' (hk'.trans (by simp [gotoIn]))
 | ret => exact hc _ _ _ _ q
 | panic ch => exact hc _ _ _ _ q
 | outgrown => exact q.elim
theorem wpF_loop {c : Code} (I : Nat -> Gh -> Act -> Hp -> Prop) {n : Nat} (h₀ : I n γ a H)
  (round : ∀ n γ a H, I n γ a H -> wpF P c (fun γ' => thn (fun a' H' => ∃ n', n' < n /\ I n' γ' a' H') (Q γ')) γ a H) : wpF P (.loop c) Q γ a H := by
 intro b k cs T hk hl hc
 have key : ∀ n γ a H, I n γ a H -> Fan P T γ (G (fat b a (.code c :: .inLoop c :: k)) cs) H := by
  intro n
  induction n using Nat.strongRecOn with
  | _ n ih =>
   intro γ a H hI
   refine round n γ a H hI b (.inLoop c :: k) cs T hk hl fun γ' e a' H' q => ?_
   cases e with
   | normal =>
    obtain ⟨n', hlt, hI'⟩ := q
    exact .ctl (g' := G (fat b a' (.code c :: .inLoop c :: k)) cs) rfl (fun w => by simp [G, stepG, stepG.exec, fat]) (ih n' hlt γ' a' H' hI')
   | exit id => exact (hc _ _ _ _ q).push rfl (by simp)
   | goto id => exact (hc _ _ _ _ q).push rfl (by simp)
   | ret => exact AfterF.push (x := .inLoop c) (e := .ret) rfl (by simp) (hc _ _ _ _ q)
   | panic ch => exact AfterF.push (x := .inLoop c) (e := .panic ch) rfl (by simp) (hc _ _ _ _ q)
   | outgrown => exact q.elim
 exact .ctl (g' := G (fat b a (.code c :: .inLoop c :: k)) cs) rfl (fun w => by simp [G, stepG, stepG.exec, fat]) (key n γ a H h₀)
theorem wpF_region {id : Nat} {ops : Array Oper} (h : opsF P ops (List.range ops.size) Q γ a H) : wpF P (.region id ops false) Q γ a H :=
 fun b k cs T hk hl hc => .ctl (g' := G (fat b a (.inRegion ops (List.range ops.size) :: k)) cs) rfl (fun w => by simp [G, stepG, stepG.exec, fat]) (h b k cs T hk hl hc)
theorem opsF_nil {ops : Array Oper} (h : Q γ .normal a H) : opsF P ops [] Q γ a H := fun b k cs _ _ _ hc =>
 .ctl (g' := G (fat b a k) cs) rfl (fun w => by simp [G, stepG, stepG.exec, fat]) (hc _ _ _ _ h)
theorem opsF_cons {ops : Array Oper} {i : Nat} {rest : List Nat} {o : Oper} (ho : ops[i]? = some o) (hw : Region.wanted o (yielded ops a.tmps) = true)
  (h : opX P (.own true) none o a H (fun a' H' => opsF P ops rest Q γ a' H') (Q γ)) : opsF P ops (i :: rest) Q γ a H := by
 intro b k cs T hk hl hc
 have hk' : (b.kind == CallKind.early) = false := by simpa using hk
 have hfin : ∀ v, (fat b a (.inRegion ops (i :: rest) :: k)).finish v = fat b (a.put o.dst v) (.inRegion ops rest :: k) := fun v => by rw [finish_fat, ho]; rfl
 refine .step (fun g' H' => Fan P T γ g' H') rfl (fun w hs => ?_) fun _ _ h => h
 have hst := stepG_op (main := .own true) (P := P) (b := b) (k := k) (cs := cs) (w := w) (a := a) (rest := rest) ho hw (.inl hl)
 rw [show stepG P true _ w = _ from hst]
 obtain ⟨es, w', H', hm, r, hr, hd'⟩ := wpS_sound _ w hs h
 have hm' : Moves H w (seen P b.fn es) H' w' := hm.seen b.fn
 have hr0 : (execOp a.eval o).runT P w #[] = (r, es) := by rw [hr #[]]; simp
 rcases hd' with ⟨x, rfl, hx⟩ | ⟨v, rfl, hv⟩
 ·cases x with
  | value v =>
   refine ⟨G (fat b (a.put o.dst v) (.inRegion ops rest :: k)) cs, w', seen P b.fn es, H', ?_, hm', hx b k cs T hk hl hc⟩
   rw [<- hfin]
   simp [stepG.apply, hr0, G, fat, hk', GStep.after, -Sem.runT_eq]
  | skip =>
   refine ⟨G (fat b (a.put o.dst undef) (.inRegion ops rest :: k)) cs, w', seen P b.fn es, H', ?_, hm', hx b k cs T hk hl hc⟩
   rw [<- hfin]
   simp [stepG.apply, hr0, G, fat, hk', GStep.after, -Sem.runT_eq]
  | defer d =>
   refine ⟨G (fat b ({ a with defers := d :: a.defers }.put o.dst undef) (.inRegion ops rest :: k)) cs, w', seen P b.fn es, H', ?_, hm', hx.2 b k cs T hk hl hc⟩
   have : ({ fat b a (.inRegion ops (i :: rest) :: k) with defers := d :: a.defers } : Frame).finish undef = fat b ({ a with defers := d :: a.defers }.put o.dst undef) (.inRegion ops rest :: k) := by
    have := finish_fat b { a with defers := d :: a.defers } ops i rest k undef
    rw [ho] at this
    exact this
   rw [<- this]
   simp [stepG.apply, hr0, G, fat, hk', GStep.after, -Sem.runT_eq]
  | enter f args =>
   refine ⟨G (Frame.enter P f args .normal) (fat b a (.inRegion ops (i :: rest) :: k) :: cs), w', seen P b.fn es, H', ?_, hm', ?_⟩
   ·simp [stepG.apply, hr0, G, fat, hk', GStep.after, -Sem.runT_eq]
   ·refine WPG.walk (hx _ _ (fun g H => Fan P T γ g H) (fun v H₁ r => ?_) fun ch H₁ r => ?_) fun _ _ h => h
    ·rw [hfin]; exact .stop (r b k cs T hk hl hc) (Hp.le_refl _)
    ·exact .stop ((hc _ (.panic ch) a H₁ r) _) (Hp.le_refl _)
  | round l f tmps ars body =>
   refine ⟨G (Frame.round l f tmps ars body .normal) (fat b a (.inRegion ops (i :: rest) :: k) :: cs), w', seen P b.fn es, H', ?_, hm', ?_⟩
   ·simp [stepG.apply, hr0, G, fat, hk', GStep.after, -Sem.runT_eq]
   ·refine WPG.walk (hx _ _ (fun g H => Fan P T γ g H) (fun v H₁ r => ?_) fun ch H₁ r => ?_) fun _ _ h => h
    ·rw [hfin]; exact .stop (r b k cs T hk hl hc) (Hp.le_refl _)
    ·exact .stop ((hc _ (.panic ch) a H₁ r) _) (Hp.le_refl _)
  | _ => exact hx.elim
 ·refine ⟨G { fat b a (.inRegion ops (i :: rest) :: k) with mode := .panicking [{ v, recovered := false }] } cs, w', seen P b.fn es, H', ?_, hm', hc _ (.panic _) a H' hv _⟩
  simp [stepG.apply, hr0, G, fat, hk', GStep.after, Frame.raise, -Sem.runT_eq]
theorem stepX_spawn {main : Md} {b : Frame} {k : List Item} {cs : List Frame} {w : World} {ops : Array Oper} {i : Nat} {rest : List Nat} {o : Oper} {d : Deferred} {f : Fn} {c : Array Value} (ho : ops[i]? = some o) (hw : Region.wanted o (yielded ops a.tmps) = true)
  (hk : b.kind ≠ .early) (hl : b.roundOf = none) (hr : (execOp a.eval o).runT P w #[] = (.ok (.spawn d) w, #[])) (hd : d.target = .fn f c) :
  stepG P main (G (fat b a (.inRegion ops (i :: rest) :: k)) cs) w = .spawn (G (fat b (a.put o.dst undef) (.inRegion ops rest :: k)) cs) (born P d) w #[] := by
 have hk' : (b.kind == CallKind.early) = false := by simpa using hk
 have hfin : (fat b a (.inRegion ops (i :: rest) :: k)).finish undef = fat b (a.put o.dst undef) (.inRegion ops rest :: k) := by rw [finish_fat, ho]; rfl
 rw [stepG_op ho hw (.inl hl), <- hfin]
 simp [stepG.apply, hr, G, fat, hk', GStep.after, born, hd, seen_none, -Sem.runT_eq]
theorem stepX_comm {main : Md} {b : Frame} {k : List Item} {cs : List Frame} {w : World} {ops : Array Oper} {i : Nat} {rest : List Nat} {o : Oper} {cases : Array CommCase} {bl : Bool} {shape : CommShape} (ho : ops[i]? = some o) (hw : Region.wanted o (yielded ops a.tmps) = true)
  (hk : b.kind ≠ .early) (hl : b.roundOf = none) (hr : (execOp a.eval o).runT P w #[] = (.ok (.comm cases bl shape) w, #[])) :
  stepG P main (G (fat b a (.inRegion ops (i :: rest) :: k)) cs) w = .comm (G (fat b a (.inRegion ops (i :: rest) :: k)) cs) cases bl shape w #[] := by
 have hk' : (b.kind == CallKind.early) = false := by simpa using hk
 rw [stepG_op ho hw (.inl hl)]
 simp [stepG.apply, hr, G, fat, hk', GStep.after, seen_none, -Sem.runT_eq]
theorem opsF_go {ops : Array Oper} {i : Nat} {rest : List Nat} {o : Oper} {d : Deferred} {f : Fn} {cap' : Array Value} {c cap : Nat} {D : Nat -> Prop} {L : List Value} {v : Value} {H' Hc : Hp} (ho : ops[i]? = some o) (hw : Region.wanted o (yielded ops a.tmps) = true)
  (hr : ∀ w, Sat H w -> (execOp a.eval o).runT P w #[] = (.ok (.spawn d) w, #[])) (hd : d.target = .fn f cap') (hl : L.length < cap)
  (hc : ∀ b p o, Hc b = some (p, o) -> p = false /\ H' b = some (false, o)) (hH : ∀ b p o, H' b = some (p, o) -> ∃ p', H b = some (p', o) /\ (p = true -> p' = true))
  (hwk : WPG P (.own false) (AtSend P c v) (born P d) Hc) (hn : opsF P ops rest Q (.busy c cap (v :: L) D) (a.put o.dst undef) H') : opsF P ops (i :: rest) Q (.busy c cap L D) a H :=
 fun b k cs T hk hl' hq => .spawn rfl (fun w hs => stepX_spawn (main := .own true) ho hw hk hl' (hr w hs) hd) hl hc hH hwk.oth (hn b k cs T hk hl' hq)
theorem fin_fat {b : Frame} {k : List Item} {cs : List Frame} {ops : Array Oper} {i : Nat} {rest : List Nat} {o : Oper} (ho : ops[i]? = some o) (cases : Array CommCase) (shape : CommShape) (j : Int) (v : Value) (ok : Bool) :
  (G (fat b a (.inRegion ops (i :: rest) :: k)) cs).finishComm P cases shape j v ok = G (fat b (a.put o.dst (commResult cases shape j v ok)) (.inRegion ops rest :: k)) cs := by
 have hfin : ∀ v, (fat b a (.inRegion ops (i :: rest) :: k)).finish v = fat b (a.put o.dst v) (.inRegion ops rest :: k) := fun v => by rw [finish_fat, ho]; rfl
 simp [Goroutine.finishComm, G, hfin]
theorem res0 (c e : Nat) (z z' v : Value) (ok : Bool) : commResult #[rcase c z, rcase e z'] .select 0 v ok = .tuple #[goInt 0, .bool ok, v, z'] := by
 simp [commResult, rcase, List.zipIdx, List.filter]
theorem res1 (c e : Nat) (z z' v : Value) (ok : Bool) : commResult #[rcase c z, rcase e z'] .select 1 v ok = .tuple #[goInt 1, .bool ok, z, v] := by
 simp [commResult, rcase, List.zipIdx, List.filter]
theorem opsF_select {ops : Array Oper} {i : Nat} {rest : List Nat} {o : Oper} {c cap e s r : Nat} {D : Nat -> Prop} {L : List Value} {z z' : Value} (ho : ops[i]? = some o) (hw : Region.wanted o (yielded ops a.tmps) = true) (hL : L ≠ [])
  (hr : ∀ w, Sat H w -> (execOp a.eval o).runT P w #[] = (.ok (.comm #[rcase c z, rcase e z'] true .select) w, #[])) (he : H e = some (true, .chan 0 #[] false s r false))
  (hn : ∀ v L', L.Perm (v :: L') -> opsF P ops rest Q (.busy c cap L' D) (a.put o.dst (.tuple #[goInt 0, .bool true, v, z'])) H) : opsF P ops (i :: rest) Q (.busy c cap L D) a H :=
 fun b k cs T hk hl' hq => .recv rfl hL (fun w hs => stepX_comm (main := .own true) ho hw hk hl' (hr w hs)) he fun v L' hp => by
  rw [fin_fat ho, res0]
  exact hn v L' hp b k cs T hk hl' hq
theorem opsF_shut {ops : Array Oper} {i : Nat} {rest : List Nat} {o : Oper} {c cap e s r : Nat} {D : Nat -> Prop} {z z' : Value} (ho : ops[i]? = some o) (hw : Region.wanted o (yielded ops a.tmps) = true)
  (hr : ∀ w, Sat H w -> (execOp a.eval o).runT P w #[] = (.ok (.comm #[rcase c z, rcase e z'] true .select) w, #[])) (he : H e = some (true, .chan 0 #[] true s r false))
  (hn : opsF P ops rest Q (.busy c cap [] D) (a.put o.dst (.tuple #[goInt 1, .bool false, z, z'])) H) : opsF P ops (i :: rest) Q (.busy c cap [] D) a H :=
 fun b k cs T hk hl' hq => .shut rfl (fun w hs => stepX_comm (main := .own true) ho hw hk hl' (hr w hs)) he (by
  rw [fin_fat ho, res1]
  exact hn b k cs T hk hl' hq)
end
end Go.X
end
section
namespace Go.X
open Go
open Go.Conc
def bornF (P : Program) : Frame := { (default : Frame) with fn := P.funcs.size, defers := [], mode := .panicking [goexitEntry] }
section
variable {P : Program} {md : Md} {Stop : Goroutine -> Hp -> Prop} {H : Hp} {a : Act}
theorem WPG.born {f : FuncId} {cap args : Array Value} (hcall : ∀ (args : Array Value) (H : Hp) (K : Next -> Hp -> Prop) (E : Value -> Hp -> Prop), wpS P (callFunc f args) H K E = K (.enter f args) H)
  (h : WPG P md Stop (G (Frame.enter P f (args ++ cap) .deferred) [bornF P]) H) : WPG P md Stop (Go.Conc.born P { target := .fn (.func f) cap, args := args }) H := by
 have h2 : wpS P (invoke (.fn (.func f) cap) args) H (fun x H' => x = .enter f (args ++ cap) /\ H' = H) (fun _ _ => False) := by
  simp only [invoke]
  rw [hcall]
  exact ⟨rfl, rfl⟩
 refine WPG.tree (s := invoke (.fn (.func f) cap) args) rfl h2 (fun g' H' => g' = G (Frame.enter P f (args ++ cap) .deferred) [bornF P] /\ H' = H) (fun w w' H' es v hr' hm' hk' => ?_) (fun _ _ _ _ _ _ _ he => he.elim) ?_
 ·obtain ⟨rfl, rfl⟩ := hk'
  refine ⟨_, seen P P.funcs.size es, ?_, fun e => mem_seen, rfl, rfl⟩
  simp [Go.Conc.born, stepG, unwind, callDeferred, G, hr', GStep.after, bornF, -Sem.runT_eq]
 ·rintro g' H' ⟨rfl, rfl⟩
  exact h
theorem enter_deferred {f : FuncId} {fn : Func} {c : Code} (args : Array Value) (hf : P.funcs[f]? = some fn) (hb : fn.body = some c) :
  Frame.enter P f args .deferred = fat (baseD f) { tmps := args ++ Array.replicate (fn.ntmps - args.size) undef, defers := [] } [.code c] := by
 simp [Frame.enter, fat, hf, hb, baseD]
 rfl
theorem quits_step {n : Nat} {g g' : Goroutine} (hs : g.status = .running) (h : ∀ w, stepG P false g w = .go g' w #[]) (hq : QuitsIn P n g') : QuitsIn P (n + 1) g := .inr ⟨hs, g', h, hq⟩
theorem WPG.op {b : Frame} {k : List Item} {cs : List Frame} {ops : Array Oper} {i : Nat} {rest : List Nat} {o : Oper} (ho : ops[i]? = some o) (hw : Region.wanted o (yielded ops a.tmps) = true) (hk : b.kind ≠ .early) (hl : b.roundOf = none)
  (h : opX P md none o a H (fun a' H' => WPG P md Stop (G (fat b a' (.inRegion ops rest :: k)) cs) H') fun _ _ _ => False) : WPG P md Stop (G (fat b a (.inRegion ops (i :: rest) :: k)) cs) H := by
 have hk' : (b.kind == CallKind.early) = false := by simpa using hk
 have hfin : ∀ v, (fat b a (.inRegion ops (i :: rest) :: k)).finish v = fat b (a.put o.dst v) (.inRegion ops rest :: k) := fun v => by rw [finish_fat, ho]; rfl
 refine .step (fun g' H' => WPG P md Stop g' H') rfl (fun w hs => ?_) fun _ _ h => h
 rw [stepG_op ho hw (.inl hl)]
 obtain ⟨es, w', H', hm, r, hr, hd'⟩ := wpS_sound _ w hs h
 have hm' : Moves H w (seen P b.fn es) H' w' := hm.seen b.fn
 have hr0 : (execOp a.eval o).runT P w #[] = (r, es) := by rw [hr #[]]; simp
 rcases hd' with ⟨x, rfl, hx⟩ | ⟨v, rfl, hv⟩
 ·cases x with
  | value v =>
   refine ⟨G (fat b (a.put o.dst v) (.inRegion ops rest :: k)) cs, w', seen P b.fn es, H', ?_, hm', hx⟩
   rw [<- hfin]
   simp [stepG.apply, hr0, G, fat, hk', GStep.after, -Sem.runT_eq]
  | skip =>
   refine ⟨G (fat b (a.put o.dst undef) (.inRegion ops rest :: k)) cs, w', seen P b.fn es, H', ?_, hm', hx⟩
   rw [<- hfin]
   simp [stepG.apply, hr0, G, fat, hk', GStep.after, -Sem.runT_eq]
  | defer d =>
   refine ⟨G (fat b ({ a with defers := d :: a.defers }.put o.dst undef) (.inRegion ops rest :: k)) cs, w', seen P b.fn es, H', ?_, hm', hx.2⟩
   have : ({ fat b a (.inRegion ops (i :: rest) :: k) with defers := d :: a.defers } : Frame).finish undef = fat b ({ a with defers := d :: a.defers }.put o.dst undef) (.inRegion ops rest :: k) := by
    have := finish_fat b { a with defers := d :: a.defers } ops i rest k undef
    rw [ho] at this
    exact this
   rw [<- this]
   simp [stepG.apply, hr0, G, fat, hk', GStep.after, -Sem.runT_eq]
  | enter f args =>
   refine ⟨G (Frame.enter P f args .normal) (fat b a (.inRegion ops (i :: rest) :: k) :: cs), w', seen P b.fn es, H', ?_, hm', ?_⟩
   ·simp [stepG.apply, hr0, G, fat, hk', GStep.after, -Sem.runT_eq]
   ·refine hx _ _ Stop (fun v H₁ r => ?_) fun ch H₁ r => ?_
    ·rw [hfin]; exact r
    ·exact r.elim
  | round l f tmps ars body =>
   refine ⟨G (Frame.round l f tmps ars body .normal) (fat b a (.inRegion ops (i :: rest) :: k) :: cs), w', seen P b.fn es, H', ?_, hm', ?_⟩
   ·simp [stepG.apply, hr0, G, fat, hk', GStep.after, -Sem.runT_eq]
   ·refine hx _ _ Stop (fun v H₁ r => ?_) fun ch H₁ r => ?_
    ·rw [hfin]; exact r
    ·exact r.elim
  | _ => exact hx.elim
 ·exact hv.elim
end
end Go.X
end
section
namespace Go.X
open Go
open Go.Conc
section
variable {P : Program} {md : Md} {Stop : Goroutine -> Hp -> Prop} {ops : Array Oper} {s : Nat} {K : Act -> Hp -> Prop}
def runU (P : Program) (md : Md) (ops : Array Oper) (s : Nat) (K : Act -> Hp -> Prop) : List Nat -> Act -> Hp -> Prop
 | [], _, _ => False
 | i :: rest, a, H => if i = s then rest = [] /\ K a H else ∃ o, ops[i]? = some o /\ Region.wanted o (yielded ops a.tmps) = true /\ opX P md none o a H (runU P md ops s K rest) fun _ _ _ => False
theorem runU_sound {b : Frame} {k : List Item} {cs : List Frame} (hk : b.kind ≠ .early) (hl : b.roundOf = none) (hK : ∀ a H, K a H -> WPG P md Stop (G (fat b a (.inRegion ops [s] :: k)) cs) H) :
  ∀ (todo : List Nat) (a : Act) (H : Hp), runU P md ops s K todo a H -> WPG P md Stop (G (fat b a (.inRegion ops todo :: k)) cs) H
 | [], _, _, h => h.elim
 | i :: rest, a, H, h => by
  unfold runU at h
  by_cases hi : i = s
  ·rw [if_pos hi] at h
   obtain ⟨rfl, h⟩ := h
   rw [hi]
   exact hK a H h
  ·rw [if_neg hi] at h
   obtain ⟨o, ho, hw, h⟩ := h
   exact WPG.op ho hw hk hl (opX_mono h fun a' H' h' => runU_sound hk hl hK rest a' H' h')
def edgesB (ops : Array Oper) : Bool := (List.range ops.size).all fun i => match ops[i]? with
 | some o => o.after.all fun e => !Region.binds .any e || decide (e.on < i)
 | none => true
def dstB (ops : Array Oper) : Bool := (List.range ops.size).all fun i => (List.range ops.size).all fun j => i == j || ((ops[i]?).bind (·.dst)).isNone || ((ops[i]?).bind (·.dst)) != ((ops[j]?).bind (·.dst))
def lastB (ops : Array Oper) (s : Nat) : Bool := (List.range ops.size).all fun j => j == s || (marked ops (List.range ops.size).reverse ((Array.replicate ops.size false).setIfInBounds s true)).getD j false
def left (ops : Array Oper) (listed : Array Bool) : Nat := (List.range ops.size).countP fun i => !listed.getD i false
theorem countP_lt' {p q : Nat -> Bool} : ∀ {l : List Nat}, (∀ x ∈ l, p x = true -> q x = true) -> ∀ y ∈ l, q y = true -> p y = false -> l.countP p < l.countP q
 | [], _, y, hy, _, _ => by cases hy
 | x :: l, h, y, hy, h1, h2 => by
  rw [List.countP_cons, List.countP_cons]
  have hle : l.countP p <= l.countP q := List.countP_mono_left fun z hz => h z (by simp [hz])
  rcases List.mem_cons.1 hy with rfl | hy
  ·rw [h1, h2]; simp; omega
  ·have := countP_lt' (fun z hz => h z (by simp [hz])) y hy h1 h2
   have hx := h x (by simp)
   cases hp : p x
   ·simp; omega
   ·simp [hx hp]; omega
theorem left_set {listed : Array Bool} {i : Nat} (hi : i < ops.size) (hs : listed.size = ops.size) (hl : listed.getD i false = false) : left ops (listed.setIfInBounds i true) < left ops listed := by
 unfold left
 refine countP_lt' (fun x _ hx => ?_) i (List.mem_range.2 hi) (by simp [hl]) (by simp [Array.getD, hs, hi])
 by_cases hxi : x = i
 ·subst hxi; simp [hl]
 ·rwa [getD_set_ne false (Ne.symm hxi)] at hx
theorem go_nil {listed : Array Bool} (h : Region.ready .any ops listed = []) : ∀ fuel t, Region.linearise.go .any ops fuel t listed [] = []
 | 0, _ => rfl
 | fuel + 1, t => by
  simp only [Region.linearise.go]
  change (match (Region.ready .any ops listed)[t % (Region.ready .any ops listed).length]? with
   | some i => Region.linearise.go .any ops fuel (t / (Region.ready .any ops listed).length) (listed.setIfInBounds i true) [i]
   | none => [].reverse) = []
  rw [h]
  rfl
theorem region_flow {n : Nat} (val : Nat -> Value) (I : (Nat -> Value) -> Prop) (S : Hp -> Prop) (hed : edgesB ops = true) (hds : dstB ops = true) (hla : lastB ops s = true) (hsz : s < ops.size)
  (hI : ∀ i o d e, i ≠ s -> ops[i]? = some o -> o.dst = some d -> I e -> I (upd e d (val i)))
  (hstep : ∀ i o, ops[i]? = some o -> i ≠ s -> ∀ e H, I e -> (∀ x ∈ o.after, Region.binds .any x = true -> ∀ o' d, ops[x.on]? = some o' -> o'.dst = some d -> e d = val x.on) -> S H ->
   Region.wanted o (yielded ops (act n e []).tmps) = true /\ ∃ d, o.dst = some d /\ opX P md none o (act n e []) H (fun a' H' => a' = act n (upd e d (val i)) [] /\ S H') fun _ _ _ => False)
  (hend : ∀ o, ops[s]? = some o -> ∀ e H, I e -> (∀ x ∈ o.after, Region.binds .any x = true -> ∀ o' d, ops[x.on]? = some o' -> o'.dst = some d -> e d = val x.on) -> S H -> K (act n e []) H) :
  ∀ (fuel t : Nat) (listed : Array Bool) (e : Nat -> Value) (H : Hp), left ops listed <= fuel -> listed.size = ops.size -> Closed ops listed -> listed.getD s false = false -> I e ->
   (∀ i o d, ops[i]? = some o -> listed.getD i false = true -> o.dst = some d -> e d = val i) -> S H -> runU P md ops s K (Region.linearise.go .any ops fuel t listed []) (act n e []) H := by
 have hdep : ∀ j, j < ops.size -> j ≠ s -> Dep ops s j := fun j hj hne => by
  have h1 := List.all_eq_true.1 hla j (List.mem_range.2 hj)
  simp only [Bool.or_eq_true, beq_iff_eq, hne, false_or] at h1
  exact (marked_dep _ _ (fun y hy => by
   by_cases hys : s = y
   ·exact .inl hys.symm
   ·rw [getD_set_ne false hys] at hy
    by_cases hlt : y < ops.size <;> simp [Array.getD, hlt] at hy) j h1).resolve_left hne
 have hdst : ∀ (i j : Nat) (oi oj : Oper) (d : Tmp), ops[i]? = some oi -> ops[j]? = some oj -> oi.dst = some d -> oj.dst = some d -> i = j := fun i j oi oj d hi hj hdi hdj => by
  have hil := (Array.getElem?_eq_some_iff.1 hi).1
  have hjl := (Array.getElem?_eq_some_iff.1 hj).1
  have h1 := List.all_eq_true.1 (List.all_eq_true.1 hds i (List.mem_range.2 hil)) j (List.mem_range.2 hjl)
  simp only [hi, hj, Option.bind_some, hdi, hdj, Option.isNone_some, Bool.or_false, bne_self_eq_false, beq_iff_eq] at h1
  exact h1
 have hon : ∀ (i : Nat) (o : Oper), ops[i]? = some o -> ∀ x ∈ o.after, Region.binds .any x = true -> x.on < i := fun i o hi x hx hb => by
  have h1 := List.all_eq_true.1 hed i (List.mem_range.2 (Array.getElem?_eq_some_iff.1 hi).1)
  rw [hi] at h1
  simp only [Array.all_eq_true_iff_forall_mem] at h1
  have h2 := h1 x hx
  simpa [hb] using h2
 intro fuel
 induction fuel with
 | zero =>
  intro t listed e H hfu hls hcl hun _ _ _
  have := countP_lt' (p := fun _ => false) (q := fun i => !listed.getD i false) (l := List.range ops.size) (by simp) s (List.mem_range.2 hsz) (by simp [hun]) rfl
  unfold left at hfu
  omega
 | succ fuel ih =>
  intro t listed e H hfu hls hcl hun hIe hval hS
  have hne : Region.ready .any ops listed ≠ [] := by
   have key : ∀ i, i < ops.size -> listed.getD i false = false -> ∃ j, j ∈ Region.ready .any ops listed := by
    intro i
    induction i using Nat.strongRecOn with
    | _ i ihi =>
     intro hi hli
     obtain ⟨o, ho⟩ : ∃ o, ops[i]? = some o := ⟨_, Array.getElem?_eq_getElem hi⟩
     by_cases hall : ∀ x ∈ o.after, Region.binds .any x = true -> listed.getD x.on false = true
     ·exact ⟨i, mem_ready.2 ⟨by simp [Array.getD, hls, hi] at hli ⊢; exact hli, o, ho, hall⟩⟩
     ·have : ∃ x ∈ o.after, Region.binds .any x = true /\ listed.getD x.on false = false := Classical.byContradiction fun hn => hall fun x hx hb => by
       cases hl : listed.getD x.on false with
       | true => rfl
       | false => exact absurd ⟨x, hx, hb, hl⟩ hn
      obtain ⟨x, hx, hb, hl⟩ := this
      have hlt := hon i o ho x hx hb
      exact ihi x.on hlt (by omega) hl
   obtain ⟨j, hj⟩ := key s hsz hun
   exact fun h => by rw [h] at hj; cases hj
  simp only [Region.linearise.go]
  change runU P md ops s K (match (Region.ready .any ops listed)[t % (Region.ready .any ops listed).length]? with
   | some i => Region.linearise.go .any ops fuel (t / (Region.ready .any ops listed).length) (listed.setIfInBounds i true) [i]
   | none => [].reverse) (act n e []) H
  have hlen : t % (Region.ready .any ops listed).length < (Region.ready .any ops listed).length := Nat.mod_lt _ (List.length_pos_iff.2 hne)
  have hi := List.getElem?_eq_getElem hlen
  have hmem := List.mem_of_getElem? hi
  generalize (Region.ready .any ops listed)[t % (Region.ready .any ops listed).length] = i at hi hmem
  rw [hi]
  simp only []
  rw [linearise_go_acc, List.reverse_singleton, List.singleton_append]
  obtain ⟨hu, o, ho, hall⟩ := mem_ready.1 hmem
  have hil := (Array.getElem?_eq_some_iff.1 ho).1
  have hu' : listed.getD i false = false := by simpa [Array.getD, hls, hil] using hu
  have hdeps : ∀ x ∈ o.after, Region.binds .any x = true -> ∀ o' d, ops[x.on]? = some o' -> o'.dst = some d -> e d = val x.on := fun x hx hb o' d ho' hd => hval x.on o' d ho' (hall x hx hb) hd
  unfold runU
  by_cases his : i = s
  ·rw [if_pos his]
   subst his
   refine ⟨go_nil ?_ _ _, hend o ho e H hIe hdeps hS⟩
   refine List.eq_nil_iff_forall_not_mem.2 fun j hj => ?_
   obtain ⟨hju, o', ho', _⟩ := mem_ready.1 hj
   have hjl := (Array.getElem?_eq_some_iff.1 ho').1
   by_cases hji : j = i
   ·subst hji
    simp [Array.getD, hls, hjl] at hju
   ·have h1 := (hdep j hjl hji).listed hcl hmem
    have h2 := getD_set_true (i := i) h1
    simp only [Array.getD, Array.size_setIfInBounds, hls, hjl, dite_true] at h2 hju
    rw [h2] at hju; cases hju
  ·rw [if_neg his]
   obtain ⟨hw, d, hd, hop⟩ := hstep i o ho his e H hIe hdeps hS
   refine ⟨o, ho, hw, opX_mono hop ?_⟩
   rintro a' H' ⟨rfl, hS'⟩
   have hns : listed.getD s false = false := hun
   refine ih _ _ _ _ ?_ (by simpa using hls) (hcl.set hmem) (by rw [getD_set_ne false his]; exact hun) (hI i o d e his ho hd hIe) (fun j oj d' hj hlj hd' => ?_) hS'
   ·have := left_set (ops := ops) hil hls hu'
    omega
   ·by_cases hji : j = i
    ·subst hji
     rw [ho] at hj; cases hj
     rw [hd] at hd'; cases hd'
     simp [upd]
    ·rw [getD_set_ne false (Ne.symm hji)] at hlj
     have hdd : d' ≠ d := fun he => hji (hdst j i oj o d' hj ho hd' (by rw [he]; exact hd))
     have := hval j oj d' hj hlj hd'
     simp [upd, hdd, this]
end
end Go.X
end
section
namespace Go.X
open Go
open Go.Conc
section
variable {P : Program} {main : Md} {lp : Option Nat} {Q : Exit -> Act -> Hp -> Prop} {a : Act} {H : Hp}
theorem ex_makeChan (a : Act) (d : Option Tmp) (ty : TypeId) (pos : String) (af : Array Edge) (g : Option (Nat × Bool)) (K : Next -> Hp -> Prop) (E : Value -> Hp -> Prop) (t : TypeId) (x : Operand) :
 wpS P (execOp a.eval ⟨d, .makeChan t x, ty, pos, af, g⟩) H K E = wpS P (Instr.makeChan t (a.eval x)) H (fun v H' => K (.value v) H') E := wpS_bind' _ _ _ _
theorem makeChan_eq {t e : TypeId} {dir : ChanDir} (hu : P.underlying t = some (.chan dir e)) {inf : TypeInfo} (hi : ∀ w, (typeInfo e).run P w = .ok inf w) (hb : inf.bytes <= 1024) (k : IntKind) (n : Int) (h0 : 0 <= n) (h1 : n <= 1000) (K : Value -> Hp -> Prop) (E : Value -> Hp -> Prop) :
  wpS P (Instr.makeChan t (.int k n)) H K E = ∀ b, H b = none -> K (.chan (some b)) (H.set b (.chan n.toNat #[] false 0 0 false)) := by
 have hle : inf.bytes * n.toNat <= 1024 * 1000 := Nat.mul_le_mul hb (by omega)
 have hle2 : ¬ ((inf.bytes : Int) * n > 2 ^ 48 - 112) := by
  have : (inf.bytes : Int) * n = ((inf.bytes * n.toNat : Nat) : Int) := by push_cast; rw [Int.toNat_of_nonneg h0]
  rw [this]; omega
 have hmax : IntKind.i64.max = 9223372036854775807 := by decide
 have hif : ¬ (9223372036854775807 < n ∨ 281474976710544 < (inf.bytes : Int) * n) := by
  rintro (h | h)
  ·omega
  ·exact hle2 (by simpa using h)
 unfold Instr.makeChan
 simp [-bind_pure_comp, wpS_bind', asInt, asIntOf, wpS_pure, wpS_underlying hu, wpS_typeInfo (info_of_run hi), show ¬ n < 0 by omega, hmax]
 rw [if_neg hif]
 rfl
theorem close_at {r cap s rc : Nat} {buf : Array Value} (h : H r = some (true, .chan cap buf false s rc false)) (ats : Array TypeId) (ty : TypeId) (cb : Array Bool) (K : Next -> Hp -> Prop) (E : Value -> Hp -> Prop) :
  wpS P (builtin .close ats ty cb #[.chan (some r)]) H K E = K (.value (.tuple #[])) (H.set r (.chan cap buf true s rc false)) := by
 have hb : builtin .close ats ty cb #[.chan (some r)] = (do let x <- Builtin.close_ ats ty #[.chan (some r)]; pure (.value x) : Sem Next) := rfl
 have hc : Builtin.close_ ats ty #[.chan (some r)] = (getObj r >>= fun o => match o with
  | .chan room buf closed sent received timer => (do
   if closed then runtimePanic (.plain "close of closed channel")
   setObj r (.chan room buf true sent received timer)
   pure (.tuple #[]))
  | _ => stuck "close: no channel in this block") := by
  unfold Builtin.close_
  rfl
 rw [hb, wpS_bind', hc, wpS_bind']
 refine propext ⟨?_, ?_⟩
 ·rintro ⟨p, o, ho, h1, h2, h3⟩
  rw [h] at ho; cases ho
  obtain ⟨o', ho', _, _, h4⟩ := h3
  exact h4
 ·intro hk
  exact ⟨true, _, h, rfl, rfl, _, h, rfl, rfl, hk⟩
theorem slice_himax {t e : TypeId} (hu : P.underlying t = some (.slice e)) {n : Nat} (hs : ∀ w, (sizeOf e).run P w = .ok n w) (x : Option Addr) (len cap : Nat) (k k' : IntKind) (i j : Int) (h0 : 0 <= i) (h1 : i <= j) (h2 : j <= cap) (K : Value -> Hp -> Prop) (E : Value -> Hp -> Prop) :
  wpS P (Instr.sliceAt t (.slice x len cap) (none : Option Value) (some (.int k i)) (some (.int k' j))) H K E = K (.slice (if j.toNat = 0 then x else x.map (·.add 0)) i.toNat j.toNat) H := by
 unfold Instr.sliceAt Instr.slice Instr.sliceBounds
 simp [-bind_pure_comp, wpS_bind', wpS_underlying hu, wpS_pure, bound_int k' j cap _ (by omega) h2, bound_int k i j.toNat _ h0 (by omega), wpS_sizeOf hs]
theorem add_zero' (x : Option Addr) : x.map (·.add 0) = x := by
 cases x with
 | none => rfl
 | some a => obtain ⟨b, o, s⟩ := a; cases s <;> rfl
theorem slice_himax' {t e : TypeId} (hu : P.underlying t = some (.slice e)) {n : Nat} (hs : ∀ w, (sizeOf e).run P w = .ok n w) (x : Option Addr) (len cap : Nat) (k k' : IntKind) (i j : Int) (h0 : 0 <= i) (h1 : i <= j) (h2 : j <= cap) (K : Value -> Hp -> Prop) (E : Value -> Hp -> Prop) :
  wpS P (Instr.sliceAt t (.slice x len cap) (none : Option Value) (some (.int k i)) (some (.int k' j))) H K E = K (.slice x i.toNat j.toNat) H := by
 rw [slice_himax hu hs x len cap k k' i j h0 h1 h2, add_zero']
 simp
theorem storeAt_chan {t : TypeId} (hs : ∀ w, (sizeOf t).run P w = .ok 1 w) (b o : Nat) (K : Unit -> Hp -> Prop) (E : Value -> Hp -> Prop) (x : Option Nat) : wpS P (Instr.storeAt t (.pointer (some ⟨b, o, none⟩)) (.chan x)) H K E = stor H b o (.chan x) (K ()) := storeAt_one hs rfl b o K E
theorem go_runT {d : Option Tmp} {ty : TypeId} {pos : String} {af : Array Edge} {g : Option (Nat × Bool)} {t : Tmp} {ats : Array TypeId} {f : Fn} {fi cap : Array Value} (h : a.eval (.tmp t) = .func f fi cap) (w : World) :
  (execOp a.eval ⟨d, .go ⟨.value (.tmp t), #[], ats⟩, ty, pos, af, g⟩).runT P w #[] = (.ok (.spawn { target := .fn f cap, args := fi }) w, #[]) := by
 simp [execOp, resolve, h, Deferred.ofValue]
theorem send_runT {d : Option Tmp} {ty : TypeId} {pos : String} {af : Array Edge} {g : Option (Nat × Bool)} {x y : Operand} {c : Nat} {v : Value} (hx : a.eval x = .chan (some c)) (hy : a.eval y = v) (w : World) :
  (execOp a.eval ⟨d, .send x y, ty, pos, af, g⟩).runT P w #[] = (.ok (.comm #[scase c v (.tuple #[])] true .send) w, #[]) := by
 simp [execOp, hx, hy, scase]
theorem select_runT {d : Option Tmp} {ty : TypeId} {pos : String} {af : Array Edge} {g : Option (Nat × Bool)} {x y : Operand} {t u : TypeId} {c e : Nat} {z z' : Value} (hx : a.eval x = .chan (some c)) (hy : a.eval y = .chan (some e))
  (hz : ∀ w, (zeroValue t).run P w = .ok z w) (hz' : ∀ w, (zeroValue u).run P w = .ok z' w) (w : World) :
  (execOp a.eval ⟨d, .select #[⟨x, none, t⟩, ⟨y, none, u⟩] true, ty, pos, af, g⟩).runT P w #[] = (.ok (.comm #[rcase c z, rcase e z'] true .select) w, #[]) := by
 simp [execOp, hx, hy, rcase, hz, hz', Array.mapM_eq_mapM_toList]
end
end Go.X
end
section
namespace Go.Proofs.YtofmadjgbcopdaaGreatDoor
open Go Go.X
def y133_79 := And.intro (fun H => len_slice (H := H) Tryz.underlying23) (And.intro (fun H => indexAt_slice (H := H) Tryz.underlying23 Tryz.sizeOf22) (fun H => loadAt_one (H := H) Tryz.underlying22 rfl))
theorem join_spec (main : Md) (H : Hp) (b : Nat) (v : Value) (xs : List Int) (hb : H b = some (true, .cells #[v] 22 (0, 0))) (hv : SlI H v xs) (hl : xs.length <= 1000000) :
  FnX Tryz.prog main 133 #[.slice (some ⟨b, 0, none⟩) 1 1] H fun e H' => ∃ w, e = .returned w /\ H.le H' /\ SlI H' w xs := by
 refine FnX_start Tryz.func133 rfl Tryz.ntmps133 (by simp) ?_
 (refine @unH _ ?_; refine zA y133_79 ?_; (repeat (refine inC ?_; intro hc)); try (refine inK ?_; intro K hK))
 refine wpX_loop (fun w a' H' => ∃ e j, w = 1 - j /\ j <= 1 /\ a' = act 17 e [] /\ e 6 = .slice (some ⟨b, 0, none⟩) 1 1 /\ e 7 = .int .i64 1 /\ e 8 = .int .i64 (j : Nat) /\ ((j = 0 /\ e 3 = .slice none 0 0 /\ H' = H) ∨ (j = 1 /\ H.le H' /\ SlI H' (e 3) xs))) (n := 1) ?_ ?_
 ·exact ⟨_, 0, rfl, by omega, rfl, rfl, rfl, rfl, .inl ⟨rfl, rfl, rfl⟩⟩
 ·rintro w a' H2 ⟨e, j, rfl, hj, rfl, e6, e7, e8, ⟨rfl, e3, hH⟩ | ⟨rfl, hle, hw⟩⟩
  ·rw [hH]; clear hH H2
   obtain ⟨a, cap, rfl, hcap, hx⟩ := hv
   have hlt : (0 : Int) < 1 := by omega
   cases xs with
   | nil =>
    (refine @unH _ ?_; refine zA y133_79 ?_; (repeat (refine inC ?_; intro hc)); try (refine inK ?_; intro K hK))
    refine append_zero Tryz.underlying22 Tryz.sizeOf3 _ _ _ _ _ _ _ (Nat.le_refl _) _ _ ?_
    ((try (refine @unH _ ?_; refine zX y133_79 ?_)); (try (refine hK _ _ ?_; clear hK K; (try simp only [nq, ↓reduceIte, Nat.reduceEqDiff]))); refine @unH _ ?_; refine zA y133_79 ?_; (repeat (refine inC ?_; intro hc)); try (refine inK ?_; intro K hK))
    exact ⟨_, by omega, _, 1, rfl, by omega, rfl, e6, e7, rfl, .inr ⟨rfl, Hp.le_refl _, SlI.nil _ _ _⟩⟩
   | cons x0 xs0 =>
    obtain ⟨b', o', p', c', fr', h', hb', _⟩ := hx 0 x0 rfl
    cases h'
    (refine @unH _ ?_; refine zA y133_79 ?_; (repeat (refine inC ?_; intro hc)); try (refine inK ?_; intro K hK))
    refine append_ints (H₀ := H) (n := 0) (xs := []) (.inl ⟨rfl, rfl, rfl, rfl⟩) (Hp.le_refl _) (ys := x0 :: xs0) rfl (fun h => absurd h (by rw [hb']; simp)) (fun j y hj => ?_) (by simp at hl ⊢; omega) _ _ _ _ (fun v' H1 H2 hr hl2 => ?_)
    ·obtain ⟨b2, o2, p2, c2, fr2, e2, hb2, hc2⟩ := hx j y hj
     cases e2
     rw [cell_of hb2]
     exact hc2
    ·((try (refine @unH _ ?_; refine zX y133_79 ?_)); (try (refine hK _ _ ?_; clear hK K; (try simp only [nq, ↓reduceIte, Nat.reduceEqDiff]))); refine @unH _ ?_; refine zA y133_79 ?_; (repeat (refine inC ?_; intro hc)); try (refine inK ?_; intro K hK))
     exact ⟨_, by omega, _, 1, rfl, by omega, rfl, e6, e7, rfl, .inr ⟨rfl, fun x v hx => hl2 _ _ (hr.le _ _ hx), (SlI.row hr).le hl2⟩⟩
  ·generalize hw3 : e 3 = w3 at hw
   (refine @unH _ ?_; refine zA y133_79 ?_; (repeat (refine inC ?_; intro hc)); try (refine inK ?_; intro K hK))
   (refine @unH _ ?_; refine z9 Tryz.results133 ?_)
   exact ⟨w3, rfl, hle, hw⟩
end Go.Proofs.YtofmadjgbcopdaaGreatDoor
end
section
namespace Go.X
open Go
open Go.Conc
section
variable {P : Program} {md : Md} {Stop : Goroutine -> Hp -> Prop} {a : Act} {H : Hp}
theorem WPG.region_draw {b : Frame} {k : List Item} {cs : List Frame} {id : Nat} {ops : Array Oper} (hm : P.follows .mixedOrders = true) (h : ∀ t, WPG P md Stop (G (fat b a (.inRegion ops (Region.linearise.go .any ops ops.size t (Array.replicate ops.size false) []) :: k)) cs) H) :
  WPG P md Stop (G (fat b a (.code (.region id ops true) :: k)) cs) H := by
 refine .step (fun g' H' => ∃ t, g' = G (fat b a (.inRegion ops (Region.schedule (P.follows .mixedOrders) ops t) :: k)) cs /\ H' = H) rfl (fun w hw => ?_) ?_
 ·refine ⟨_, { w with drawn := w.drawn + 1 }, #[], H, ?_, .draw hw _, w.tape w.drawn (.order b.fn id), rfl, rfl⟩
  simp [G, stepG, stepG.exec, fat, choose, Sem.run, Question.forced, Question.cut]
 ·rintro g' H' ⟨t, rfl, rfl⟩
  have := h t
  simp only [Region.schedule, hm, Bool.true_or, if_true]
  exact this
theorem quits_end {f : FuncId} {fn : Func} (hf : P.funcs[f]? = some fn) (hres : fn.results = #[]) (had : a.defers = []) : QuitsIn P 3 (G (fat (baseD f) a []) [bornF P]) := by
 refine .inr ⟨rfl, G { fat (baseD f) a [] with mode := .returning } [bornF P], fun w => by simp [G, stepG, stepG.exec, fat, baseD]; rfl, ?_⟩
 refine .inr ⟨rfl, G (bornF P) [], fun w => ?_, ?_⟩
 ·simp [G, stepG, unwind, doReturn, fat, baseD, had, hf, results, hres, bornF, goexitEntry, GStep.after, seen_none]
 ·refine .inr ⟨rfl, { G (bornF P) [] with status := .finished }, fun w => ?_, rfl⟩
  simp [G, stepG, unwind, bornF, goexitEntry, Frame.catches]
  rfl
theorem served_fat {b : Frame} {k : List Item} {cs : List Frame} {ops : Array Oper} {i : Nat} {rest : List Nat} {o : Oper} (ho : ops[i]? = some o) :
  Go.Conc.served (G (fat b a (.inRegion ops (i :: rest) :: k)) cs) undef = G (fat b (a.put o.dst undef) (.inRegion ops rest :: k)) cs := by
 have hfin : (fat b a (.inRegion ops (i :: rest) :: k)).finish undef = fat b (a.put o.dst undef) (.inRegion ops rest :: k) := by rw [finish_fat, ho]; rfl
 simp [Go.Conc.served, G, hfin]
end
end Go.X
namespace Go.Proofs.YtofmadjgbcopdaaGreatDoor
open Go Go.X
def y134_80 := And.intro (fun H => loadAt_one (H := H) Tryz.underlying189 rfl) (And.intro (fun H => loadAt_one (H := H) Tryz.underlying81 rfl) (And.intro (fun H => loadAt_one (H := H) Tryz.underlying22 rfl) (And.intro (fun H => fieldAt_eq (H := H) Tryz.underlying85 (i := 0) rfl (off := 0) rfl Tryz.sizeOf29) (And.intro (fun H => fieldAt_eq (H := H) Tryz.underlying29 (i := 7) rfl (off := 10) rfl Tryz.sizeOf27) (And.intro (fun H => fieldAt_eq (H := H) Tryz.underlying27 (i := 0) rfl (off := 0) rfl Tryz.sizeOf3) (And.intro (fun H => loadAt_one (H := H) Tryz.underlying3 rfl) @callF100))))))
open Go.Conc (G baseD)
theorem child_spec (K : Hp) (hb tb hc pc ic c : Nat) (n : HN) (v : HV) (jv : Value) (js : List Int) (hh : HaulAt K hb n v jv js) (pv : Value) (pl : List Nat) (hp : SlI K pv (pl.map fun m : Nat => (m : Int))) (hp1 : ∀ m ∈ pl, 1 <= m) (hps : pl.sum <= js.length) (hpl : pl.length <= 1000)
  (vt : K tb = some (false, .cells #[.chan (some c)] 189 (0, 0))) (vh : K hc = some (false, .cells #[.pointer (some ⟨hb, 0, none⟩)] 81 (0, 0))) (vp : K pc = some (false, .cells #[pv] 22 (0, 0)))
  (i : Nat) (vi : K ic = some (false, .cells #[.int .i64 i] 3 (0, 0))) (h1 : 1 <= n.lo + i) (h20 : n.lo + i <= 20) :
  WPG Tryz.prog (.own false) (AtSend Tryz.prog c (.bool (fineB n js (n.lo + i) pl))) (Go.Conc.born Tryz.prog { target := .fn (.func 134) #[.pointer (some ⟨tb, 0, none⟩), .pointer (some ⟨hc, 0, none⟩), .pointer (some ⟨pc, 0, none⟩), .pointer (some ⟨ic, 0, none⟩)], args := #[] }) K := by
 refine WPG.born (fun _ _ => callF134 _) ?_
 rw [enter_deferred _ Tryz.func134 rfl, Tryz.ntmps134]
 rw [show ((#[] : Array Value) ++ #[.pointer (some ⟨tb, 0, none⟩), .pointer (some ⟨hc, 0, none⟩), .pointer (some ⟨pc, 0, none⟩), .pointer (some ⟨ic, 0, none⟩)]) = [Value.pointer (some ⟨tb, 0, none⟩), .pointer (some ⟨hc, 0, none⟩), .pointer (some ⟨pc, 0, none⟩), .pointer (some ⟨ic, 0, none⟩)].toArray from rfl, enter_act (by simp)]
 refine WPG.region_draw (by kernel_rfl) fun t => ?_
 have hfine := fun H' (hl : K.le H') => fine_spec (.own false) H' hb n v jv js (hh.le hl) pv pl (hp.le hl) hp1 hps hpl (n.lo + i) h1 h20 (fun r hr => by
  have := dS_back n js (n.lo + i) pl hh.xb hh.n0 hh.b1 hh.b4 h1 h20 pl.length (Nat.le_refl _) r hr
  omega)
 have hfB := fineB_iff n js (n.lo + i) pl fun k hk => (dS_ok n js (n.lo + i) pl hh.xb hh.n0 hh.b1 hh.b4 h1 h20 k hk).2.2
 obtain ⟨hq, hho⟩ := hh.o
 simp only [HN.obj] at hho
 generalize fineB n js (n.lo + i) pl = R at *
 have hlo : n.lo <= 20 := by omega
 generalize n.lo = lo at *
 refine runU_sound (s := 12) (K := fun a H => a.eval (.tmp 4) = .chan (some c) /\ a.eval (.tmp 15) = .bool R /\ a.defers = []) (by simp [baseD]) rfl ?_ _ _ _ (region_flow (P := Tryz.prog) (md := .own false) (s := 12) (n := 16) (fun j => match j with
   | 0 => .chan (some c) | 1 => .pointer (some ⟨hb, 0, none⟩) | 2 => pv | 3 => .pointer (some ⟨hb, 0, none⟩) | 4 => .pointer (some ⟨hb, 0, none⟩) | 5 => .pointer (some ⟨hb, 0, none⟩) | 6 => .pointer (some ⟨hb, 10, none⟩) | 7 => .pointer (some ⟨hb, 10, none⟩)
   | 8 => .int .i64 lo | 9 => .int .i64 i | 10 => .int .i64 (lo + i) | _ => .bool R)
  (fun e => e 0 = .pointer (some ⟨tb, 0, none⟩) /\ e 1 = .pointer (some ⟨hc, 0, none⟩) /\ e 2 = .pointer (some ⟨pc, 0, none⟩) /\ e 3 = .pointer (some ⟨ic, 0, none⟩)) (fun H => K.le H) (by kernel_rfl) (by kernel_rfl) (by kernel_rfl) (by decide) ?_ ?_ ?_ _ t _ _ _ ?_ ?_ ?_ ?_ ?_ ?_ ?_)
 ·rintro a H ⟨ha4, ha15, had⟩
  refine .stop ⟨rfl, _, .tuple #[], fun w hw => stepX_comm (main := .own false) (i := 12) rfl rfl (by simp [baseD]) rfl (send_runT ha4 ha15 w), ?_⟩ (Hp.le_refl _)
  rw [served_fat rfl]
  refine ⟨_, quits_step rfl (fun w => ?_) (quits_end Tryz.func134 Tryz.results134 had)⟩
  simp [G, stepG, stepG.exec, fat]
  exact ⟨rfl, rfl⟩
 ·rintro j o d e hj ho hd ⟨e0, e1, e2, e3⟩
  have hj13 : j < 13 := (Array.getElem?_eq_some_iff.1 ho).1
  obtain rfl | rfl | rfl | rfl | rfl | rfl | rfl | rfl | rfl | rfl | rfl | rfl : j = 0 ∨ j = 1 ∨ j = 2 ∨ j = 3 ∨ j = 4 ∨ j = 5 ∨ j = 6 ∨ j = 7 ∨ j = 8 ∨ j = 9 ∨ j = 10 ∨ j = 11 := by omega
  all_goals
   cases ho
   cases hd
   exact ⟨e0, e1, e2, e3⟩
 ·rintro j o ho hj e H ⟨e0, e1, e2, e3⟩ hdep hS
  have hj13 : j < 13 := (Array.getElem?_eq_some_iff.1 ho).1
  have vt' := hS _ _ vt
  have vh' := hS _ _ vh
  have vp' := hS _ _ vp
  have vi' := hS _ _ vi
  have vo' := hS _ _ hho
  obtain rfl | rfl | rfl | rfl | rfl | rfl | rfl | rfl | rfl | rfl | rfl | rfl : j = 0 ∨ j = 1 ∨ j = 2 ∨ j = 3 ∨ j = 4 ∨ j = 5 ∨ j = 6 ∨ j = 7 ∨ j = 8 ∨ j = 9 ∨ j = 10 ∨ j = 11 := by omega
  ·simp only [List.getElem?_toArray, List.getElem?_cons_succ, List.getElem?_cons_zero, Option.some.injEq] at ho
   subst ho
   clear hdep
   refine ⟨rfl, _, rfl, ?_⟩
   simp -implicitDefEqProofs (disch := first | omega | (simp only [qd] <;> omega)) only [xq, ↓xp, qc, Nat.reduceAdd, List.range, List.range.loop, fine, Nat.reduceEqDiff, ↓reduceIte, yielded, reduceCtorEq, Nat.reduceLT, Nat.reduceMul, Nat.reduceSub, one, Nat.reduceLeDiff, runX_cons, y134_80, aq, ↓ap, qe0, qe1, qe2, *] <;> first | exact ⟨rfl, hS⟩ | exact ⟨.int .i64 lo, by rw [cell_of vo']; rfl, (⟨rfl, hS⟩ : act _ _ _ = act _ _ _ /\ K.le H)⟩
  ·simp only [List.getElem?_toArray, List.getElem?_cons_succ, List.getElem?_cons_zero, Option.some.injEq] at ho
   subst ho
   clear hdep
   refine ⟨rfl, _, rfl, ?_⟩
   simp -implicitDefEqProofs (disch := first | omega | (simp only [qd] <;> omega)) only [xq, ↓xp, qc, Nat.reduceAdd, List.range, List.range.loop, fine, Nat.reduceEqDiff, ↓reduceIte, yielded, reduceCtorEq, Nat.reduceLT, Nat.reduceMul, Nat.reduceSub, one, Nat.reduceLeDiff, runX_cons, y134_80, aq, ↓ap, qe0, qe1, qe2, *] <;> first | exact ⟨rfl, hS⟩ | exact ⟨.int .i64 lo, by rw [cell_of vo']; rfl, (⟨rfl, hS⟩ : act _ _ _ = act _ _ _ /\ K.le H)⟩
  ·simp only [List.getElem?_toArray, List.getElem?_cons_succ, List.getElem?_cons_zero, Option.some.injEq] at ho
   subst ho
   clear hdep
   refine ⟨rfl, _, rfl, ?_⟩
   simp -implicitDefEqProofs (disch := first | omega | (simp only [qd] <;> omega)) only [xq, ↓xp, qc, Nat.reduceAdd, List.range, List.range.loop, fine, Nat.reduceEqDiff, ↓reduceIte, yielded, reduceCtorEq, Nat.reduceLT, Nat.reduceMul, Nat.reduceSub, one, Nat.reduceLeDiff, runX_cons, y134_80, aq, ↓ap, qe0, qe1, qe2, *] <;> first | exact ⟨rfl, hS⟩ | exact ⟨.int .i64 lo, by rw [cell_of vo']; rfl, (⟨rfl, hS⟩ : act _ _ _ = act _ _ _ /\ K.le H)⟩
  ·simp only [List.getElem?_toArray, List.getElem?_cons_succ, List.getElem?_cons_zero, Option.some.injEq] at ho
   subst ho
   clear hdep
   refine ⟨rfl, _, rfl, ?_⟩
   simp -implicitDefEqProofs (disch := first | omega | (simp only [qd] <;> omega)) only [xq, ↓xp, qc, Nat.reduceAdd, List.range, List.range.loop, fine, Nat.reduceEqDiff, ↓reduceIte, yielded, reduceCtorEq, Nat.reduceLT, Nat.reduceMul, Nat.reduceSub, one, Nat.reduceLeDiff, runX_cons, y134_80, aq, ↓ap, qe0, qe1, qe2, *] <;> first | exact ⟨rfl, hS⟩ | exact ⟨.int .i64 lo, by rw [cell_of vo']; rfl, (⟨rfl, hS⟩ : act _ _ _ = act _ _ _ /\ K.le H)⟩
  ·simp only [List.getElem?_toArray, List.getElem?_cons_succ, List.getElem?_cons_zero, Option.some.injEq] at ho
   subst ho
   have d0 : e 7 = .pointer (some ⟨hb, 0, none⟩) := hdep _ (Array.mem_of_getElem? (i := 0) rfl) rfl _ _ rfl rfl
   clear hdep
   refine ⟨rfl, _, rfl, ?_⟩
   simp -implicitDefEqProofs (disch := first | omega | (simp only [qd] <;> omega)) only [xq, ↓xp, qc, Nat.reduceAdd, List.range, List.range.loop, fine, Nat.reduceEqDiff, ↓reduceIte, yielded, reduceCtorEq, Nat.reduceLT, Nat.reduceMul, Nat.reduceSub, one, Nat.reduceLeDiff, runX_cons, y134_80, aq, ↓ap, qe0, qe1, qe2, *] <;> first | exact ⟨rfl, hS⟩ | exact ⟨.int .i64 lo, by rw [cell_of vo']; rfl, (⟨rfl, hS⟩ : act _ _ _ = act _ _ _ /\ K.le H)⟩
  ·simp only [List.getElem?_toArray, List.getElem?_cons_succ, List.getElem?_cons_zero, Option.some.injEq] at ho
   subst ho
   have d0 : e 8 = .pointer (some ⟨hb, 0, none⟩) := hdep _ (Array.mem_of_getElem? (i := 0) rfl) rfl _ _ rfl rfl
   clear hdep
   refine ⟨rfl, _, rfl, ?_⟩
   simp -implicitDefEqProofs (disch := first | omega | (simp only [qd] <;> omega)) only [xq, ↓xp, qc, Nat.reduceAdd, List.range, List.range.loop, fine, Nat.reduceEqDiff, ↓reduceIte, yielded, reduceCtorEq, Nat.reduceLT, Nat.reduceMul, Nat.reduceSub, one, Nat.reduceLeDiff, runX_cons, y134_80, aq, ↓ap, qe0, qe1, qe2, *] <;> first | exact ⟨rfl, hS⟩ | exact ⟨.int .i64 lo, by rw [cell_of vo']; rfl, (⟨rfl, hS⟩ : act _ _ _ = act _ _ _ /\ K.le H)⟩
  ·simp only [List.getElem?_toArray, List.getElem?_cons_succ, List.getElem?_cons_zero, Option.some.injEq] at ho
   subst ho
   have d0 : e 9 = .pointer (some ⟨hb, 0, none⟩) := hdep _ (Array.mem_of_getElem? (i := 0) rfl) rfl _ _ rfl rfl
   clear hdep
   refine ⟨rfl, _, rfl, ?_⟩
   simp -implicitDefEqProofs (disch := first | omega | (simp only [qd] <;> omega)) only [xq, ↓xp, qc, Nat.reduceAdd, List.range, List.range.loop, fine, Nat.reduceEqDiff, ↓reduceIte, yielded, reduceCtorEq, Nat.reduceLT, Nat.reduceMul, Nat.reduceSub, one, Nat.reduceLeDiff, runX_cons, y134_80, aq, ↓ap, qe0, qe1, qe2, *] <;> first | exact ⟨rfl, hS⟩ | exact ⟨.int .i64 lo, by rw [cell_of vo']; rfl, (⟨rfl, hS⟩ : act _ _ _ = act _ _ _ /\ K.le H)⟩
  ·simp only [List.getElem?_toArray, List.getElem?_cons_succ, List.getElem?_cons_zero, Option.some.injEq] at ho
   subst ho
   have d0 : e 10 = .pointer (some ⟨hb, 10, none⟩) := hdep _ (Array.mem_of_getElem? (i := 0) rfl) rfl _ _ rfl rfl
   clear hdep
   refine ⟨rfl, _, rfl, ?_⟩
   simp -implicitDefEqProofs (disch := first | omega | (simp only [qd] <;> omega)) only [xq, ↓xp, qc, Nat.reduceAdd, List.range, List.range.loop, fine, Nat.reduceEqDiff, ↓reduceIte, yielded, reduceCtorEq, Nat.reduceLT, Nat.reduceMul, Nat.reduceSub, one, Nat.reduceLeDiff, runX_cons, y134_80, aq, ↓ap, qe0, qe1, qe2, *] <;> first | exact ⟨rfl, hS⟩ | exact ⟨.int .i64 lo, by rw [cell_of vo']; rfl, (⟨rfl, hS⟩ : act _ _ _ = act _ _ _ /\ K.le H)⟩
  ·simp only [List.getElem?_toArray, List.getElem?_cons_succ, List.getElem?_cons_zero, Option.some.injEq] at ho
   subst ho
   have d0 : e 11 = .pointer (some ⟨hb, 10, none⟩) := hdep _ (Array.mem_of_getElem? (i := 0) rfl) rfl _ _ rfl rfl
   clear hdep
   refine ⟨rfl, _, rfl, ?_⟩
   simp -implicitDefEqProofs (disch := first | omega | (simp only [qd] <;> omega)) only [xq, ↓xp, qc, Nat.reduceAdd, List.range, List.range.loop, fine, Nat.reduceEqDiff, ↓reduceIte, yielded, reduceCtorEq, Nat.reduceLT, Nat.reduceMul, Nat.reduceSub, one, Nat.reduceLeDiff, runX_cons, y134_80, aq, ↓ap, qe0, qe1, qe2, *] <;> first | exact ⟨rfl, hS⟩ | exact ⟨.int .i64 lo, by rw [cell_of vo']; rfl, (⟨rfl, hS⟩ : act _ _ _ = act _ _ _ /\ K.le H)⟩
  ·simp only [List.getElem?_toArray, List.getElem?_cons_succ, List.getElem?_cons_zero, Option.some.injEq] at ho
   subst ho
   clear hdep
   refine ⟨rfl, _, rfl, ?_⟩
   simp -implicitDefEqProofs (disch := first | omega | (simp only [qd] <;> omega)) only [xq, ↓xp, qc, Nat.reduceAdd, List.range, List.range.loop, fine, Nat.reduceEqDiff, ↓reduceIte, yielded, reduceCtorEq, Nat.reduceLT, Nat.reduceMul, Nat.reduceSub, one, Nat.reduceLeDiff, runX_cons, y134_80, aq, ↓ap, qe0, qe1, qe2, *] <;> first | exact ⟨rfl, hS⟩ | exact ⟨.int .i64 lo, by rw [cell_of vo']; rfl, (⟨rfl, hS⟩ : act _ _ _ = act _ _ _ /\ K.le H)⟩
  ·simp only [List.getElem?_toArray, List.getElem?_cons_succ, List.getElem?_cons_zero, Option.some.injEq] at ho
   subst ho
   have d0 : e 12 = .int .i64 lo := hdep _ (Array.mem_of_getElem? (i := 0) rfl) rfl _ _ rfl rfl
   have d1 : e 13 = .int .i64 i := hdep _ (Array.mem_of_getElem? (i := 1) rfl) rfl _ _ rfl rfl
   clear hdep
   refine ⟨rfl, _, rfl, ?_⟩
   simp -implicitDefEqProofs (disch := first | omega | (simp only [qd] <;> omega)) only [xq, ↓xp, qc, Nat.reduceAdd, List.range, List.range.loop, fine, Nat.reduceEqDiff, ↓reduceIte, yielded, reduceCtorEq, Nat.reduceLT, Nat.reduceMul, Nat.reduceSub, one, Nat.reduceLeDiff, runX_cons, y134_80, aq, ↓ap, qe0, qe1, qe2, *] <;> first | exact ⟨rfl, hS⟩ | exact ⟨.int .i64 lo, by rw [cell_of vo']; rfl, (⟨rfl, hS⟩ : act _ _ _ = act _ _ _ /\ K.le H)⟩
  ·simp only [List.getElem?_toArray, List.getElem?_cons_succ, List.getElem?_cons_zero, Option.some.injEq] at ho
   subst ho
   have d0 : e 5 = .pointer (some ⟨hb, 0, none⟩) := hdep _ (Array.mem_of_getElem? (i := 0) rfl) rfl _ _ rfl rfl
   have d1 : e 6 = pv := hdep _ (Array.mem_of_getElem? (i := 1) rfl) rfl _ _ rfl rfl
   have d2 : e 14 = .int .i64 (lo + i) := hdep _ (Array.mem_of_getElem? (i := 2) rfl) rfl _ _ rfl rfl
   clear hdep
   refine ⟨rfl, _, rfl, ?_⟩
   (refine @unH _ ?_; refine z7 y134_80 ?_)
   refine (hfine H hS).runs.mono ?_
   rintro _ H' ⟨q, rfl, hq', hl⟩
   refine ⟨?_, Hp.le_trans hS hl⟩
   rw [show q = R by rw [Bool.eq_iff_iff, hq', hfB]]
   exact act_put (by decide)
 ·rintro o ho e H ⟨e0, e1, e2, e3⟩ hdep hS
  simp only [List.getElem?_toArray, List.getElem?_cons_succ, List.getElem?_cons_zero, Option.some.injEq] at ho
  subst ho
  have d0 := hdep _ (Array.mem_of_getElem? (i := 0) rfl) rfl _ _ rfl rfl
  have d1 := hdep _ (Array.mem_of_getElem? (i := 1) rfl) rfl _ _ rfl rfl
  exact ⟨by rw [act_eval (by decide)]; exact d0, by rw [act_eval (by decide)]; exact d1, rfl⟩
 ·exact Nat.le_trans (List.countP_le_length) (by simp)
 ·simp
 ·exact Closed.start
 ·rfl
 ·exact ⟨rfl, rfl, rfl, rfl⟩
 ·rintro j o d ho hl
  exfalso
  by_cases h : j < 13 <;> simp [Array.getD, h] at hl
 ·exact Hp.le_refl _
end Go.Proofs.YtofmadjgbcopdaaGreatDoor
end
section
namespace Go.X
open Go
open Go.Conc
theorem wpF_condK {P : Program} {γ : Gh} {Q : Post3} {a : Act} {H : Hp} {c : Operand} {x y : Code} {t : Bool} (ht : a.eval c = .bool t) (h1 : t = true -> wpF P x Q γ a H) (h2 : t = false -> wpF P y Q γ a H) : wpF P (.cond c x y) Q γ a H := by
 refine wpF_cond ht ?_
 cases t
 ·exact h2 rfl
 ·exact h1 rfl
theorem opsF_rest {P : Program} {γ : Gh} {Q : Post3} {a : Act} {H : Hp} {ops : Array Oper} {todo : List Nat} (h : ∀ K : Act -> Hp -> Prop, (∀ a' H', Q γ .normal a' H' -> K a' H') -> runX P (.own true) none ops (only K) todo a H) : opsF P ops todo Q γ a H :=
 opsF_own fun b k cs Stop hk hl hc => runX_sound (h _ fun _ _ h => h) b k cs Stop hk hl fun e a' H' q => by
  cases e <;> first | exact hc _ _ _ q | exact q.elim
theorem cells_chan (x : Option Nat) : (Value.chan x).cells = #[.chan x] := rfl
def Hp.leS (H H' : Hp) : Prop := ∀ b p o, H b = some (p, o) -> ∃ p', H' b = some (p', o) /\ (p' = true -> p = true)
theorem Hp.leS.refl {H : Hp} : H.leS H := fun _ p _ h => ⟨p, h, id⟩
theorem Hp.leS.trans {H H' H'' : Hp} (h : H.leS H') (h' : H'.leS H'') : H.leS H'' := fun b p o hb => let ⟨p', h1, h2⟩ := h b p o hb; let ⟨p'', h3, h4⟩ := h' b p' o h1; ⟨p'', h3, fun e => h2 (h4 e)⟩
theorem Hp.leS.set {H H' : Hp} {b : Nat} {o : Obj} (h : H.leS H') (hb : H b = none) : H.leS (H'.set b o) := fun x p o' hx => by
 obtain ⟨p', h1, h2⟩ := h x p o' hx
 exact ⟨p', by unfold Hp.set; rw [if_neg (fun e => by rw [e, hb] at hx; cases hx)]; exact h1, h2⟩
def Hp.lend (H : Hp) (eb : Nat) : Hp := fun b => if b = eb then H b else (H b).map fun q => (false, q.2)
def Hp.hand (H : Hp) (eb : Nat) : Hp := fun b => if b = eb then none else (H b).map fun q => (false, q.2)
theorem Hp.lend_leS {H : Hp} {eb : Nat} : H.leS (H.lend eb) := fun b p o h => by
 unfold Hp.lend
 by_cases hb : b = eb
 ·rw [if_pos hb]; exact ⟨p, h, id⟩
 ·rw [if_neg hb, h]; exact ⟨false, rfl, fun e => by cases e⟩
theorem Hp.lend_at {H : Hp} {eb : Nat} : H.lend eb eb = H eb := by simp [Hp.lend]
theorem Hp.hand_some {H : Hp} {eb b : Nat} {p : Bool} {o : Obj} (h : H b = some (p, o)) (hb : b ≠ eb) : H.hand eb b = some (false, o) := by simp [Hp.hand, hb, h]
theorem Hp.hand_lend {H : Hp} {eb : Nat} : ∀ b p o, H.hand eb b = some (p, o) -> p = false /\ H.lend eb b = some (false, o) := fun b p o h => by
 unfold Hp.hand at h
 unfold Hp.lend
 by_cases hb : b = eb
 ·rw [if_pos hb] at h; cases h
 ·rw [if_neg hb] at h ⊢
  cases hq : H b with
  | none => rw [hq] at h; cases h
  | some q => rw [hq] at h; cases h; exact ⟨rfl, rfl⟩
theorem Hp.lend_own {H : Hp} {eb : Nat} : ∀ b p o, H.lend eb b = some (p, o) -> ∃ p', H b = some (p', o) /\ (p = true -> p' = true) := fun b p o h => by
 unfold Hp.lend at h
 by_cases hb : b = eb
 ·rw [if_pos hb] at h; exact ⟨p, h, id⟩
 ·rw [if_neg hb] at h
  cases hq : H b with
  | none => rw [hq] at h; cases h
  | some q => obtain ⟨p', o'⟩ := q; rw [hq] at h; cases h; exact ⟨p', rfl, fun e => by cases e⟩
end Go.X
namespace Go.Proofs.YtofmadjgbcopdaaGreatDoor
open Go Go.X
def y89_81 := And.intro (fun H => loadAt_one (H := H) Tryz.underlying81 rfl) (And.intro (fun H => fieldAt_eq (H := H) Tryz.underlying85 (i := 0) rfl (off := 0) rfl Tryz.sizeOf29) (And.intro (fun H => fieldAt_eq (H := H) Tryz.underlying29 (i := 7) rfl (off := 10) rfl Tryz.sizeOf27) (And.intro (fun H => fieldAt_eq (H := H) Tryz.underlying27 (i := 1) rfl (off := 1) rfl Tryz.sizeOf3) (And.intro (fun H => loadAt_one (H := H) Tryz.underlying3 rfl) (And.intro (fun H => fieldAt_eq (H := H) Tryz.underlying27 (i := 0) rfl (off := 0) rfl Tryz.sizeOf3) (And.intro @ex_makeChan (And.intro (fun H => makeChan_eq (H := H) Tryz.underlying189 Tryz.typeInfo4 (by decide)) (And.intro (fun H => ex_alloc (H := H) (P := Tryz.prog) (h := Tryz.zeroValue189)) (And.intro (fun H => storeAt_chan (H := H) Tryz.sizeOf189) (And.intro (fun H => makeChan_eq (H := H) Tryz.underlying190 Tryz.typeInfo165 (by decide)) (And.intro (fun H => loadAt_one (H := H) Tryz.underlying22 rfl) (And.intro (fun H => len_slice (H := H) Tryz.underlying22) (And.intro (fun H => slice_hi (H := H) Tryz.underlying22 Tryz.sizeOf3) (And.intro (fun H => slice_lo (H := H) Tryz.underlying22 Tryz.sizeOf3) (And.intro (fun H => slice_lohi (H := H) Tryz.underlying22 Tryz.sizeOf3) (And.intro (fun H => slice_himax' (H := H) Tryz.underlying22 Tryz.sizeOf3) (And.intro @lit_23_1_0_0 (And.intro @callF133 (And.intro (fun H => storeAt_slice (H := H) Tryz.sizeOf22) (And.intro (fun H => ex_alloc (H := H) (P := Tryz.prog) (h := Tryz.zeroValue3)) (And.intro (fun H => storeAt_int (H := H) Tryz.sizeOf3) (fun H => loadAt_one (H := H) Tryz.underlying189 rfl))))))))))))))))))))))
open Go.Conc (G baseD rcase scase)
def CellsLe (H H' : Hp) : Prop := ∀ b p c t fr, H b = some (p, .cells c t fr) -> ∃ p', H' b = some (p', .cells c t fr)
theorem SlI.cl {H H' : Hp} {w : Value} {xs : List Int} (hw : SlI H w xs) (hl : CellsLe H H') : SlI H' w xs := by
 obtain ⟨a, cap, h1, h2, h3⟩ := hw
 refine ⟨a, cap, h1, h2, fun i x hx => ?_⟩
 obtain ⟨b, o, p, c, fr, h4, h5, h6⟩ := h3 i x hx
 obtain ⟨p', h7⟩ := hl _ _ _ _ _ h5
 exact ⟨b, o, p', c, fr, h4, h7, h6⟩
theorem HaulAt.cl {H H' : Hp} {hb : Nat} {n : HN} {v : HV} {jv : Value} {js : List Int} (h : HaulAt H hb n v jv js) (hl : CellsLe H H') : HaulAt H' hb n v jv js := by
 obtain ⟨q, ho⟩ := h.o
 obtain ⟨q', ho'⟩ := hl _ _ _ _ _ ho
 exact { h with o := ⟨q', ho'⟩, x := SlI.cl h.x hl, j := SlI.cl h.j hl }
theorem leS_none {H H' : Hp} (h : H.leS H') {b : Nat} (hb : H' b = none) : H b = none := by
 cases hx : H b with
 | none => rfl
 | some q => obtain ⟨p, o⟩ := q; obtain ⟨p', h1, _⟩ := h b p o hx; rw [hb] at h1; cases h1
def someF (n : HN) (js : List Int) (pl : List Nat) : Bool := (List.range (n.hi - n.lo + 1).toNat).any fun i => fineB n js (n.lo + i) pl
def allF (n : HN) (js : List Int) (pl : List Nat) : Bool := (List.range (n.hi - n.lo + 1).toNat).all fun i => fineB n js (n.lo + i) pl
theorem within_hspec (H : Hp) (hb : Nat) (n : HN) (v : HV) (jv : Value) (js : List Int) (hh : HaulAt H hb n v jv js) (pv : Value) (pl : List Nat) (hp : SlI H pv (pl.map fun m : Nat => (m : Int))) (hp1 : ∀ m ∈ pl, 1 <= m) (hps : pl.sum <= js.length) (hpl : pl.length <= 1000)
  (t1 : 1 <= n.lo) (t2 : n.lo <= n.hi) (t20 : n.hi <= 20) :
  FnX Tryz.prog (.co Tryz.prog) 89 #[.pointer (some ⟨hb, 0, none⟩), pv] H fun e H' => e = .returned (.tuple #[.bool (someF n js pl), .bool (allF n js pl)]) /\ H.le H' := by
 have hpS := hp
 obtain ⟨pa, pc, rfl, hpc, _⟩ := hp
 simp only [List.length_map] at hpc
 obtain ⟨hq, hho⟩ := hh.o
 simp only [HN.obj] at hho
 have hpml : (pl.map fun m : Nat => (m : Int)).length <= pc := by rw [List.length_map]; exact hpc
 generalize hlen : (pl.map fun m : Nat => (m : Int)).length = plen at hpml ⊢
 refine FnX_start Tryz.func89 rfl Tryz.ntmps89 (by simp) ?_
 (refine @unH _ ?_; refine zA y89_81 ?_; (repeat (refine inC ?_; intro hc)); try (refine inK ?_; intro K hK))
 intro b1 hb1 b2 hb2
 replace hb2 : (Hp.set H b1 _) b2 = none := hb2
 generalize hG : Hp.set H b1 _ = H1 at hb2 ⊢
 have lH1 := le_of_set hG hb1
 have vb1 := at_of_set hG
 clear hG
 generalize hG : Hp.set H1 b2 _ = H2
 have lH2 := le_of_set hG hb2
 have vb2 := at_of_set hG
 clear hG
 have vb12 := lH2 _ _ vb1
 have hh2 := hh.le (Hp.le_trans lH1 lH2)
 have hp2 := hpS.le (Hp.le_trans lH1 lH2)
 have vho2 := Hp.le_trans lH1 lH2 _ _ hho
 have l02 : H.le H2 := Hp.le_trans lH1 lH2
 have h0b1 := hb1
 have h0b2 : H b2 = none := Hp.le_none lH1 hb2
 clear vb1 lH1 lH2 hb1 hb2
 ((try (refine @unH _ ?_; refine zX y89_81 ?_)); (try (refine hK _ _ ?_; clear hK K; (try simp only [nq, ↓reduceIte, Nat.reduceEqDiff]))); refine @unH _ ?_; refine zA y89_81 ?_; (repeat (refine inC ?_; intro hc)); try (refine inK ?_; intro K hK))
 (refine wpX_dst1 15 [(true, 0), (true, 1), (true, 2), (true, 3), (true, 4), (true, 5), (true, 6), (true, 7), (true, 8), (true, 9), (true, 10), (true, 11), (true, 12), (true, 13), (true, 14)] (by kernel_rfl) (by kernel_rfl) (by simp) (by kernel_rfl) ?_; intro K hK; (iterate 15 (refine @unH _ ?_; refine z3 y89_81 ?_)); refine plan_nil (hK _ _ ?_); clear hK K; (try simp only [nq, ↓reduceIte, Nat.reduceEqDiff]))
 (refine @unH _ ?_; refine zA y89_81 ?_; (repeat (refine inC ?_; intro hc)); try (refine inK ?_; intro K hK))
 intro cb hcb tb htb
 replace htb : (Hp.set H2 cb _) tb = none := htb
 generalize hG : Hp.set H2 cb _ = H3 at htb ⊢
 have lH3 := le_of_set hG hcb
 have vcb3 := at_of_set hG
 clear hG
 ((try (refine @unH _ ?_; refine zX (And.intro y89_81 @cells_chan) ?_)); (try (refine hK _ _ ?_; clear hK K; (try simp only [nq, ↓reduceIte, Nat.reduceEqDiff]))); refine @unH _ ?_; refine zA (And.intro y89_81 @cells_chan) ?_; (repeat (refine inC ?_; intro hc)); try (refine inK ?_; intro K hK))
 intro eb heb
 replace heb : (Hp.set H3 tb _) eb = none := heb
 generalize hG : Hp.set H3 tb _ = H4 at heb ⊢
 have lH4 := le_of_set hG htb
 have vtb4 := at_of_set hG
 clear hG
 have vcb4 := lH4 _ _ vcb3
 have l24 : H2.le H4 := Hp.le_trans lH3 lH4
 have l04 := Hp.le_trans l02 l24
 have vb14 := l24 _ _ vb12
 have vb24 := l24 _ _ vb2
 have h0cb : H cb = none := Hp.le_none l02 hcb
 have h0tb : H tb = none := Hp.le_none l02 (Hp.le_none lH3 htb)
 have nct : cb ≠ tb := ne_new vcb3 htb
 clear lH3 lH4 vcb3 hcb htb
 generalize hG : Hp.set H4 eb _ = H5
 have lH5 := le_of_set hG heb
 have veb := at_of_set hG
 clear hG
 have vcb5 := lH5 _ _ vcb4
 have vtb5 := lH5 _ _ vtb4
 have vb15 := lH5 _ _ vb14
 have vb25 := lH5 _ _ vb24
 have l05 := Hp.le_trans l04 lH5
 have h0eb : H eb = none := Hp.le_none l04 heb
 have nce : cb ≠ eb := ne_new vcb4 heb
 have nte : tb ≠ eb := ne_new vtb4 heb
 have n1e : b1 ≠ eb := ne_new vb14 heb
 have n2e : b2 ≠ eb := ne_new vb24 heb
 have hp5 := hp2.le (Hp.le_trans l24 lH5)
 rw [hlen] at hp5
 clear vcb4 vtb4 vb14 vb24 heb lH5 l24 hp2
 ((try (refine @unH _ ?_; refine zX (And.intro y89_81 @cells_chan) ?_)); (try (refine hK _ _ ?_; clear hK K; (try simp only [nq, ↓reduceIte, Nat.reduceEqDiff]))); refine @unH _ ?_; refine zA (And.intro y89_81 @cells_chan) ?_; (repeat (refine inC ?_; intro hc)); try (refine inK ?_; intro K hK))
 (intro sb hsb; generalize hG : Hp.set _ sb _ = H6; have lH6 := le_of_set hG hsb; have vsb := at_of_set hG; clear hG)
 have vcb6 := lH6 _ _ vcb5
 have vtb6 := lH6 _ _ vtb5
 have vb16 := lH6 _ _ vb15
 have vb26 := lH6 _ _ vb25
 have veb6 := lH6 _ _ veb
 have l06 := Hp.le_trans l05 lH6
 have hp6 := hp5.le lH6
 clear vcb5 vtb5 vb15 vb25 veb lH6 hp5 hsb
 ((try (refine @unH _ ?_; refine zX (And.intro y89_81 @cells_chan) ?_)); (try (refine hK _ _ ?_; clear hK K; (try simp only [nq, ↓reduceIte, Nat.reduceEqDiff]))); refine @unH _ ?_; refine zA (And.intro y89_81 @cells_chan) ?_; (repeat (refine inC ?_; intro hc)); try (refine inK ?_; intro K hK))
 have hp6' : SlI H6 (.slice pa plen plen) (pl.map fun m : Nat => (m : Int)) := by
  obtain ⟨a, cap, h1, h2, h3⟩ := hp6
  cases h1
  exact ⟨_, _, by rw [hlen], by rw [hlen]; exact Nat.le_refl _, h3⟩
 refine (join_spec _ H6 sb _ _ vsb hp6' (by rw [List.length_map]; omega)).runs.mono ?_
 rintro _ H7 ⟨w, rfl, lH7, hw⟩
 obtain ⟨wa, wc, rfl, hwc, _⟩ := id hw
 have vcb7 := lH7 _ _ vcb6
 have vtb7 := lH7 _ _ vtb6
 have vb17 := lH7 _ _ vb16
 have vb27 := lH7 _ _ vb26
 have veb7 := lH7 _ _ veb6
 have l07 := Hp.le_trans l06 lH7
 clear vcb6 vtb6 vb16 vb26 veb6 vsb lH7 hp6 hp6'
 ((try (refine @unH _ ?_; refine zX (And.intro y89_81 @cells_chan) ?_)); (try (refine hK _ _ ?_; clear hK K; (try simp only [nq, ↓reduceIte, Nat.reduceEqDiff]))); refine @unH _ ?_; refine zS (And.intro y89_81 @cells_chan) ?_; (repeat (refine inC ?_; intro hc)); try (refine inK ?_; intro K hK))
 try rw [hlen]
 obtain ⟨H8, hG⟩ : ∃ H8, H8 = H7.set b2 (.cells #[.slice wa plen wc] 22 (0, 0)) := ⟨_, rfl⟩
 rw [<- hG]
 have vb28 := at_of_set hG.symm
 have vb18 := other_of_set hG.symm vb17 (fun h => by rw [h, vb27] at vb17; cases vb17)
 have vtb8 := other_of_set hG.symm vtb7 (fun h => by rw [h, vb27] at vtb7; cases vtb7)
 have vcb8 := other_of_set hG.symm vcb7 (fun h => by rw [h, vb27] at vcb7; cases vcb7)
 have veb8 := other_of_set hG.symm veb7 (fun h => by rw [h, vb27] at veb7; cases veb7)
 have hw8 : SlI H8 (.slice wa plen wc) (pl.map fun m : Nat => (m : Int)) := by
  rw [hG, <- hlen]
  exact hw.set fun p c fr h => by rw [vb27] at h; cases h
 have l08 : H.le H8 := fun x u hx => by
  rw [hG, set_ne (fun h => by rw [h, h0b2] at hx; cases hx)]
  exact l07 _ _ hx
 clear hG vb17 vb27 vtb7 vcb7 veb7 hw l07 vb2 vb12 hh2 vho2 l02 l04 l05 l06
 refine wpX_stretch ?_
 refine wpF_forget (fun e => e 2 = .pointer (some ⟨b1, 0, none⟩) /\ e 3 = .pointer (some ⟨b2, 0, none⟩) /\ e 4 = .bool false /\ e 5 = .bool false /\ e 6 = .int .i64 (n.hi - n.lo + 1) /\ e 7 = .pointer (some ⟨tb, 0, none⟩) /\ e 8 = .chan (some eb)) ⟨rfl, rfl, rfl, rfl, rfl, rfl, rfl⟩ ?_
 rintro e ⟨e2, e3, e4, e5, e6, e7, e8⟩
 have hM : n.hi - n.lo + 1 = ((n.hi - n.lo + 1).toNat : Nat) := by omega
 have hsome : someF n js pl = (List.range (n.hi - n.lo + 1).toNat).any fun i => fineB n js (n.lo + i) pl := rfl
 have hall : allF n js pl = (List.range (n.hi - n.lo + 1).toNat).all fun i => fineB n js (n.lo + i) pl := rfl
 rw [hM] at e6
 generalize hMM : (n.hi - n.lo + 1).toNat = M at *
 have hM20 : M <= 20 := by omega
 refine wpF_opn (fun b => ∃ o, H8 b = some (true, o)) vcb8 (fun _ h => h) ?_
 have hdel : ∀ b, b ≠ cb -> (H8.del cb) b = H8 b := fun b hb => by unfold Hp.del; rw [if_neg hb]
 have lB : ∀ b p o, (H8.del cb) b = some (p, o) -> H8 b = some (p, o) := fun b p o h => by
  unfold Hp.del at h
  split at h
  ·cases h
  ·exact h
 have hBle : H.le (H8.del cb) := fun x u hx => by rw [hdel x (fun h => by rw [h, h0cb] at hx; cases hx)]; exact l08 _ _ hx
 have vb1B := (hdel b1 (fun h => by rw [h, vcb8] at vb18; cases vb18)).trans vb18
 have vb2B := (hdel b2 (fun h => by rw [h, vcb8] at vb28; cases vb28)).trans vb28
 have vtbB := (hdel tb nct.symm).trans vtb8
 have vebB := (hdel eb nce.symm).trans veb8
 have hwB : SlI (H8.del cb) (.slice wa plen wc) (pl.map fun m : Nat => (m : Int)) := hw8.move fun x p c fr hx => (hdel x (fun h => by rw [h, vcb8] at hx; cases hx)).trans hx
 have hhB := hh.le hBle
 generalize H8.del cb = B at *
 clear vb18 vb28 vtb8 vcb8 veb8 hw8 hdel
 have hCB : (B.del eb).leS B := fun b p o h => by
  unfold Hp.del at h
  split at h
  ·cases h
  ·exact ⟨p, h, id⟩
 have hdel : ∀ b p c t fr, B b = some (p, .cells c t fr) -> (B.del eb) b = some (p, .cells c t fr) := fun b p c t fr h => by
  unfold Hp.del
  rw [if_neg (fun h9 => by rw [h9, vebB] at h; cases h)]
  exact h
 have hCle : H.le (B.del eb) := fun x u hx => by
  unfold Hp.del
  rw [if_neg (fun h9 => by rw [h9, h0eb] at hx; cases hx)]
  exact hBle _ _ hx
 have hCB8 : ∀ b p o, (B.del eb) b = some (p, o) -> H8 b = some (p, o) := fun b p o h => by
  unfold Hp.del at h
  split at h
  ·cases h
  ·exact lB _ _ _ h
 have hclC : CellsLe B (B.del eb) := fun b p c t fr h => ⟨p, hdel _ _ _ _ _ h⟩
 replace vb1B := hdel _ _ _ _ _ vb1B
 replace vb2B := hdel _ _ _ _ _ vb2B
 replace vtbB := hdel _ _ _ _ _ vtbB
 replace hwB := SlI.cl hwB hclC
 replace hhB := hhB.cl hclC
 have hCeb : (B.del eb) eb = none := Hp.del_same _ _
 generalize B.del eb = C at *
 clear hdel hclC hBle lB
 refine wpF_seq (wpF_seq (wpF_own ?_))
 (refine @unH _ ?_; refine zA y89_81 ?_; (repeat (refine inC ?_; intro hc)); try (refine inK ?_; intro K hK))
 refine wpF_block (wpF_loop (fun w γ a' H' => ∃ e i, w = M - i /\ i <= M /\ γ = .busy cb M ((List.range i).reverse.map fun j : Nat => Value.bool (fineB n js (n.lo + j) pl)) (fun b => ∃ o, H8 b = some (true, o)) /\ a' = act 66 e [] /\
  e 2 = .pointer (some ⟨b1, 0, none⟩) /\ e 3 = .pointer (some ⟨b2, 0, none⟩) /\ e 4 = .bool false /\ e 5 = .bool false /\ e 6 = .int .i64 M /\ e 7 = .pointer (some ⟨tb, 0, none⟩) /\ e 8 = .chan (some eb) /\ e 37 = .int .i64 M /\ e 38 = .int .i64 i /\ C.leS H' /\ H' eb = some (true, .chan 0 #[] false 0 0 false)) (n := M) ?_ ?_)
 ·exact ⟨_, 0, by omega, by omega, rfl, rfl, e2, e3, e4, e5, e6, e7, e8, rfl, rfl, hCB, vebB⟩
 ·clear e2 e3 e4 e5 e6 e7 e8
  rename_i eold
  clear eold
  rintro w γ a' H9 ⟨e, i, rfl, hi, rfl, rfl, e2, e3, e4, e5, e6, e7, e8, e37, e38, lS9, veb9⟩
  refine wpF_seq (wpF_own ?_)
  (refine @unH _ ?_; refine zA y89_81 ?_; (repeat (refine inC ?_; intro hc)); try (refine inK ?_; intro K hK))
  refine wpF_seq (wpF_condK (by simp only [act_eval, upd_get, Nat.reduceEqDiff, Nat.reduceLT, ↓reduceIte, *]; rfl) ?_ ?_) <;> intro hc
  ·have hlt : i < M := by simpa using hc
   refine wpF_skip ?_
   (try simp only [nq, ↓reduceIte, Nat.reduceEqDiff])
   refine wpF_seq (wpF_block (wpF_seq (wpF_own ?_)))
   (refine @unH _ ?_; refine zA y89_81 ?_; (repeat (refine inC ?_; intro hc)); try (refine inK ?_; intro K hK))
   intro ib hib
   have n_ib_eb : eb ≠ ib := ne_new veb9 hib
   ((try (refine @unH _ ?_; refine zX y89_81 ?_)); (try (refine hK _ _ ?_; clear hK K; (try simp only [nq, ↓reduceIte, Nat.reduceEqDiff]))); refine @unH _ ?_; refine zA y89_81 ?_; (repeat (refine inC ?_; intro hc)); try (refine inK ?_; intro K hK))
   obtain ⟨H10, hG⟩ : ∃ H10, H10 = H9.set ib (.cells #[.int .i64 i] 3 (0, 0)) := ⟨_, rfl⟩
   rw [<- hG]
   have vib := at_of_set hG.symm
   have veb10 := other_of_set hG.symm veb9 n_ib_eb
   have lS10 : C.leS H10 := by rw [hG]; exact lS9.set (leS_none lS9 hib)
   clear hG lS9 veb9 hib
   have hcl : CellsLe C (H10.hand eb) := fun b p c t fr hb => by
    obtain ⟨p', h1, _⟩ := lS10 _ _ _ hb
    exact ⟨false, Hp.hand_some h1 (fun h => by rw [h, veb10] at h1; cases h1)⟩
   have hfix : ∀ b p c t fr, C b = some (p, .cells c t fr) -> (H10.hand eb) b = some (false, .cells c t fr) := fun b p c t fr hb => by
    obtain ⟨p', h1, _⟩ := lS10 _ _ _ hb
    exact Hp.hand_some h1 (fun h => by rw [h, veb10] at h1; cases h1)
   have hch := child_spec (H10.hand eb) hb tb b1 b2 ib cb n v jv js (hhB.cl hcl) (.slice wa plen wc) pl (SlI.cl hwB hcl) hp1 hps hpl (hfix _ _ _ _ _ vtbB) (hfix _ _ _ _ _ vb1B) (hfix _ _ _ _ _ vb2B) i (Hp.hand_some vib n_ib_eb.symm) (by omega) (by omega)
   refine wpF_region (opsF_cons rfl rfl (opX_mono (K := fun a' H' => ∃ e', a' = act 66 e' [] /\ H10 = H' /\ e' 41 = .func (.func 134) #[] #[.pointer (some ⟨tb, 0, none⟩), .pointer (some ⟨b1, 0, none⟩), .pointer (some ⟨b2, 0, none⟩), .pointer (some ⟨ib, 0, none⟩)] /\
    e' 2 = .pointer (some ⟨b1, 0, none⟩) /\ e' 3 = .pointer (some ⟨b2, 0, none⟩) /\ e' 4 = .bool false /\ e' 5 = .bool false /\ e' 6 = .int .i64 M /\ e' 7 = .pointer (some ⟨tb, 0, none⟩) /\ e' 8 = .chan (some eb) /\ e' 37 = .int .i64 M /\ e' 38 = .int .i64 i) ?_ ?_))
   ·unfold opX
    change wpS _ (execOp _ ⟨some 41, .makeFunc (.func 134) #[] #[.tmp 7, .tmp 2, .tmp 3, .tmp 9], _, _, _, _⟩) _ _ _
    rw [ex_makeFunc]
    refine ⟨_, act_put (by decide), rfl, ?_, e2, e3, e4, e5, e6, e7, e8, e37, e38⟩
    simp only [upd_get, ↓reduceIte, List.map_toArray, List.map_cons, List.map_nil, act_eval, Nat.reduceLT, Nat.reduceEqDiff, e7, e2, e3]
   ·clear e2 e3 e4 e5 e6 e7 e8 e37 e38
    rintro _ _ ⟨e', rfl, rfl, e41, e2, e3, e4, e5, e6, e7, e8, e37, e38⟩
    refine opsF_go rfl rfl (fun w hw => go_runT (by rw [act_eval (by decide)]; exact e41) w) rfl (by simpa using hlt) Hp.hand_lend Hp.lend_own hch (opsF_nil ?_)
    show blk 1 _ .normal (act 66 e' []) _
    (try simp only [nq, ↓reduceIte, Nat.reduceEqDiff])
    refine wpF_own ?_
    have hle10 := lS10.trans (Hp.lend_leS (eb := eb))
    have vebL : (H10.lend eb) eb = _ := Hp.lend_at.trans veb10
    generalize H10.lend eb = H11 at *
    clear hch hfix hcl vib veb10 lS10
    (refine @unH _ ?_; refine zA y89_81 ?_; (repeat (refine inC ?_; intro hc)); try (refine inK ?_; intro K hK))
    refine ⟨_, by omega, _, i + 1, rfl, hlt, ?_, rfl, e2, e3, e4, e5, e6, e7, e8, e37, rfl, hle10, vebL⟩
    simp [List.range_succ]
  ·have hge : ¬ i < M := by simpa using hc
   obtain rfl : i = M := by omega
   refine wpF_exit ?_
   (try simp only [nq, ↓reduceIte, Nat.reduceEqDiff])
   refine wpF_seq (wpF_own ?_)
   (refine @unH _ ?_; refine zA y89_81 ?_; (repeat (refine inC ?_; intro hc)); try (refine inK ?_; intro K hK))
   refine wpF_seq (wpF_own ?_)
   (refine @unH _ ?_; refine zA y89_81 ?_; (repeat (refine inC ?_; intro hc)); try (refine inK ?_; intro K hK))
   generalize hV : (List.range i).reverse.map (fun j : Nat => fineB n js (n.lo + j) pl) = V
   have hVL : ((List.range i).reverse.map fun j : Nat => Value.bool (fineB n js (n.lo + j) pl)) = V.map Value.bool := by rw [<- hV]; simp
   have hVl : V.length = i := by rw [<- hV]; simp
   have hVany : V.any id = someF n js pl := by rw [<- hV, hsome]; simp [List.any_map, Function.comp_def]
   have hVall : V.all id = allF n js pl := by rw [<- hV, hall]; simp [List.all_map, Function.comp_def]
   rw [hVL]
   refine wpF_block (wpF_loop (fun w γ a' H' => ∃ e L LV R, w = L.length + 1 /\ γ = .busy cb i LV (fun b => ∃ o, H8 b = some (true, o)) /\ LV.Perm (L.map Value.bool) /\ (R ++ L).Perm V /\ a' = act 66 e [] /\ e 4 = .bool (R.any id) /\ e 5 = .bool (R.all id) /\ e 7 = .pointer (some ⟨tb, 0, none⟩) /\ e 8 = .chan (some eb) /\ e 10 = .int .i64 (L.length : Nat) /\ C.leS H' /\ H' eb = some (true, .chan 0 #[] (decide (L = [])) 0 0 false)) (n := V.length + 1) ?_ ?_)
   ·exact ⟨_, V, _, [], rfl, rfl, List.Perm.refl _, List.Perm.refl _, rfl, e4, rfl, e7, e8, by rw [hVl]; rfl, lS9, by rw [veb9, decide_eq_false (fun h => by rw [h] at hVl; simp at hVl; omega)]⟩
   ·clear e2 e3 e4 e5 e6 e7 e8 e37 e38 veb9 lS9 hc
    rename_i eold _
    clear eold
    rintro w γ a' H12 ⟨e, L, LV, R, rfl, rfl, hLV, hperm, rfl, e4, e5, e7, e8, e10, lS12, veb12⟩
    obtain ⟨q12, vtb12, _⟩ := lS12 _ _ _ vtbB
    refine wpF_block (wpF_seq (wpF_seq (wpF_own ?_)))
    (refine @unH _ ?_; refine zA y89_81 ?_; (repeat (refine inC ?_; intro hc)); try (refine inK ?_; intro K hK))
    refine wpF_own ?_
    (refine @unH _ ?_; refine zA y89_81 ?_; (repeat (refine inC ?_; intro hc)); try (refine inK ?_; intro K hK))
    cases L with
    | nil =>
     obtain rfl : LV = [] := by simpa using hLV
     refine wpF_seq (wpF_region (opsF_shut rfl rfl (fun w hw => select_runT (c := cb) (e := eb) (by rw [act_eval (by decide)]; rfl) (by rw [act_eval (by decide)]; rfl) Tryz.zeroValue4 Tryz.zeroValue165 w) veb12 (opsF_rest ?_)))
     intro K hK
     change runX _ _ _ _ _ _ ((act 66 (upd (upd e 44 (.chan (some cb))) 45 (.chan (some eb))) []).put (some 46) (.tuple #[.int .i64 1, .bool false, .bool false, .agg #[]])) _
     rw [act_put (by decide)]
     (refine @unH _ ?_; refine zX y89_81 ?_)
     refine hK _ _ ?_
     clear hK K
     (try simp only [nq, ↓reduceIte, Nat.reduceEqDiff])
     refine wpF_block (wpF_condK (by simp only [act_eval, upd_get, Nat.reduceEqDiff, Nat.reduceLT, ↓reduceIte, *]; rfl) ?_ ?_) <;> intro hc
     ·cases hc
     refine wpF_condK (by simp only [act_eval, upd_get, Nat.reduceEqDiff, Nat.reduceLT, ↓reduceIte, *]; rfl) ?_ ?_ <;> intro hc
     ·
      have hR : R.Perm V := by simpa using hperm
      refine wpF_close (fun b => (H12 b).map fun z => (z.1 || @decide (∃ o, H8 b = some (true, o)) (Classical.propDecidable _), z.2)) (fun b p o hb => ?_) fun k => ?_
      ·simp only [Option.map_eq_some_iff] at hb
       obtain ⟨⟨p', o'⟩, h1, h2⟩ := hb
       simp only [Prod.mk.injEq] at h2
       obtain ⟨h2, rfl⟩ := h2
       refine ⟨p', h1, fun hp => ?_⟩
       rw [hp] at h2
       rcases Bool.or_eq_true_iff.1 h2 with h2 | h2
       ·exact .inl h2
       ·exact .inr (@of_decide_eq_true _ (Classical.propDecidable _) h2)
      ·have hback : H.le (Hp.set (fun b => (H12 b).map fun z => (z.1 || @decide (∃ o, H8 b = some (true, o)) (Classical.propDecidable _), z.2)) cb (.chan i #[] false k k false)) := fun x u hx => by
        rw [set_ne (fun h => by rw [h, h0cb] at hx; cases hx)]
        obtain ⟨p, o⟩ := u
        obtain ⟨p', h1, h2⟩ := lS12 _ _ _ (hCle _ _ hx)
        have h8 := l08 _ _ hx
        simp only [h1, Option.map_some, Option.some.injEq, Prod.mk.injEq, and_true]
        cases p with
        | true => rw [Bool.or_eq_true_iff]; exact .inr (@decide_eq_true _ (Classical.propDecidable _) ⟨_, h8⟩)
        | false =>
         rw [Bool.or_eq_false_iff]
         refine ⟨by cases hp : p' with | false => rfl | true => exact absurd (h2 hp) (by simp), @decide_eq_false _ (Classical.propDecidable _) (fun ⟨o', h9⟩ => by rw [h8] at h9; cases h9)⟩
       generalize Hp.set (fun b => (H12 b).map fun z => (z.1 || @decide (∃ o, H8 b = some (true, o)) (Classical.propDecidable _), z.2)) cb (.chan i #[] false k k false) = H13 at hback ⊢
       refine wpF_own ?_
       (refine @unH _ ?_; refine zA y89_81 ?_; (repeat (refine inC ?_; intro hc)); try (refine inK ?_; intro K hK))
       refine wpX_ret ?_
       (try simp only [nq, ↓reduceIte, Nat.reduceEqDiff])
       refine ⟨by trivial, ?_⟩
       rw [bodyX_ret, results_two Tryz.results89 (by decide) (by decide)]
       refine ⟨?_, hback⟩
       simp only [upd_get, Nat.reduceEqDiff, ↓reduceIte]
       rw [<- hVany, <- hVall, <- hR.any_eq, <- hR.all_eq]
     ·cases hc
    | cons q0 L0 =>
     have hne : LV ≠ [] := fun h => by rw [h] at hLV; simp at hLV
     rw [decide_eq_false (by simp)] at veb12
     refine wpF_seq (wpF_region (opsF_select rfl rfl hne (fun w hw => select_runT (c := cb) (e := eb) (by rw [act_eval (by decide)]; rfl) (by rw [act_eval (by decide)]; rfl) Tryz.zeroValue4 Tryz.zeroValue165 w) veb12 fun v L' hpv => opsF_rest ?_))
     obtain ⟨q, L1, rfl, hpq, hL1⟩ : ∃ q L1, v = Value.bool q /\ (q0 :: L0).Perm (q :: L1) /\ L'.Perm (L1.map Value.bool) := by
      have hmem : v ∈ (q0 :: L0).map Value.bool := (hLV.symm.trans hpv).mem_iff.2 (by simp)
      obtain ⟨q, hq, rfl⟩ := List.mem_map.1 hmem
      have h1 := List.perm_cons_erase hq
      exact ⟨q, _, rfl, h1, (List.perm_cons _).1 (hpv.symm.trans (hLV.trans (h1.map _)))⟩
     have hlen1 : (q0 :: L0).length = L1.length + 1 := by rw [hpq.length_eq]; rfl
     have hVm : (R ++ (q0 :: L0)).length = V.length := hperm.length_eq
     rw [List.length_append] at hVm
     have hperm' : ((R ++ [q]) ++ L1).Perm V := by
      rw [List.append_assoc]
      exact ((hpq.symm.append_left R)).trans hperm
     rw [hlen1] at e10 hVm ⊢
     generalize hm : L1.length = m at *
     have hm20 : m <= 20 := by omega
     have hany : (R ++ [q]).any id = (R.any id || q) := by simp
     have hall' : (R ++ [q]).all id = (R.all id && q) := by simp
     generalize R.any id = s at e4 hany
     generalize R.all id = u at e5 hall'
     clear hVm hperm hLV hpq hpv hlen1
     intro K hK
     change runX _ _ _ _ _ _ ((act 66 (upd (upd e 44 (.chan (some cb))) 45 (.chan (some eb))) []).put (some 46) (.tuple #[.int .i64 0, .bool true, .bool q, .agg #[]])) _
     rw [act_put (by decide)]
     (refine @unH _ ?_; refine zX y89_81 ?_)
     refine hK _ _ ?_
     clear hK K
     (try simp only [nq, ↓reduceIte, Nat.reduceEqDiff])
     refine wpF_block (wpF_condK (by simp only [act_eval, upd_get, Nat.reduceEqDiff, Nat.reduceLT, ↓reduceIte, *]; rfl) ?_ ?_) <;> intro hc
     ·clear hc
      refine wpF_own ?_
      have hcl := fun H ats ty cb' K E h => close_at (P := Tryz.prog) (H := H) (r := eb) (cap := 0) (s := 0) (rc := 0) (buf := #[]) h ats ty cb' K E
      cases s <;> cases u
      all_goals repeat' (first
 | (refine wpX_stmtL rfl ?_; intro K hK; simp -implicitDefEqProofs (disch := first | omega | (simp only [qd] <;> omega)) only [xq, ↓xp, qc, Nat.reduceAdd, List.range, List.range.loop, fine, Nat.reduceEqDiff, ↓reduceIte, yielded, reduceCtorEq, Nat.reduceLT, Nat.reduceMul, Nat.reduceSub, one, Nat.reduceLeDiff, runX_cons, y89_81, aq, ↓ap, qe0, qe1, qe2, *, -hK, close_at veb12, Bool.or_true, Bool.true_or, Bool.false_or, Bool.and_true, Bool.true_and, Bool.false_and]; try (refine hK _ _ ?_; clear hK K))
 | (refine wpX_lastL rfl ?_; intro K hK; simp -implicitDefEqProofs (disch := first | omega | (simp only [qd] <;> omega)) only [xq, ↓xp, qc, Nat.reduceAdd, List.range, List.range.loop, fine, Nat.reduceEqDiff, ↓reduceIte, yielded, reduceCtorEq, Nat.reduceLT, Nat.reduceMul, Nat.reduceSub, one, Nat.reduceLeDiff, runX_cons, y89_81, aq, ↓ap, qe0, qe1, qe2, *, -hK, close_at veb12, Bool.or_true, Bool.true_or, Bool.false_or, Bool.and_true, Bool.true_and, Bool.false_and]; try (refine hK _ _ ?_; clear hK K; (try simp only [nq, ↓reduceIte, Nat.reduceEqDiff])))
 | (refine wpX_skip ?_; (try simp only [nq, ↓reduceIte, Nat.reduceEqDiff]))
 | (refine wpX_label ?_; (try simp only [nq, ↓reduceIte, Nat.reduceEqDiff]))
 | (refine wpX_exit ?_; (try simp only [nq, ↓reduceIte, Nat.reduceEqDiff]))
 | (refine wpX_goto ?_; (try simp only [nq, ↓reduceIte, Nat.reduceEqDiff]))
 | (refine wpX_condK (by simp only [act_eval, upd_get, Nat.reduceEqDiff, Nat.reduceLT, ↓reduceIte, *]; rfl) ?_ ?_ <;> (intro hc; first | (exfalso; simp -implicitDefEqProofs (disch := omega) only [*, bq, reduceCtorEq] at hc; done) | (simp only [dq, qe3, qe4, qe5, qe6] at hc) | skip))
 | (refine wpX_scope0 ?_)
 | (refine wpX_block ?_)
 | (refine wpX_seq ?_))
      all_goals
       refine ⟨_, ?_, _, L1, L', R ++ [q], rfl, rfl, hL1, hperm', rfl, ?_, ?_, e7, e8, ?_, ?_, ?_⟩
       ·omega
       ·rw [hany]; rfl
       ·rw [hall']; rfl
       ·rw [hm]
        show Value.int _ _ = Value.int _ _
        congr 1
        omega
       ·first | exact lS12 | exact lS12.set hCeb
       ·first
         | (rw [set_at, decide_eq_true (List.eq_nil_of_length_eq_zero (by omega))])
         | (rw [decide_eq_false (fun h => by rw [h] at hm; simp at hm; omega)]; exact veb12)
     ·cases hc
end Go.Proofs.YtofmadjgbcopdaaGreatDoor
end
section
namespace Go.Proofs.YtofmadjgbcopdaaGreatDoor
open Go Go.X
def y43_82 := And.intro (fun H => loadAt_aggE (H := H) Tryz.underlying29 rfl Tryz.sizeOf29) (And.intro @callF74 @callF89)
def verdictF (n : HN) (pl : List Nat) : Int := if allF n n.jobs pl then 1 else if someF n n.jobs pl then 3 else 2
theorem Verdict_spec (H : Hp) (n : HN) (v : HV) (hd : HaulIn H n v) (pv : Value) (pl : List Nat) (hp : SlI H pv (pl.map fun m : Nat => (m : Int))) (hok : PlanOk n n.jobs.length pl) (hN : n.jobs.length <= 8) (hjb : ∀ i ∈ n.jobs, 0 <= i /\ i < n.xs.length) :
  FnX Tryz.prog (.co Tryz.prog) 43 #[n.agg v, pv] H fun e H' => e = .returned (.tuple #[.int .i64 (verdictF n pl), .int .i64 0]) /\ H.le H' := by
 have hpS := hp
 obtain ⟨pa, pc, rfl, hpc, _⟩ := hp
 have hpd := fun H' h' (hp' : SlI H' (.slice pa (pl.map fun m : Nat => (m : Int)).length pc) _) => planned_spec (.co Tryz.prog) H' n v h' (.slice pa (pl.map fun m : Nat => (m : Int)).length pc) pl hp' hok (by omega) 1 (by omega) (by omega)
 have hpl := parts_len pl hok.p1
 have hps := hok.ps
 simp only [HN.agg] at hpd ⊢
 unfold verdictF
 refine FnX_start Tryz.func43 rfl Tryz.ntmps43 (by simp) ?_
 (refine @unH _ ?_; refine zA y43_82 ?_; (repeat (refine inC ?_; intro hc)); try (refine inK ?_; intro K hK))
 (intro ab hab; generalize hG : Hp.set _ ab _ = H1; have lH1 := le_of_set hG hab; have vab := at_of_set hG; clear hG)
 have hd1 := hd.le lH1
 ((try (refine @unH _ ?_; refine zX y43_82 ?_)); (try (refine hK _ _ ?_; clear hK K; (try simp only [nq, ↓reduceIte, Nat.reduceEqDiff]))); refine @unH _ ?_; refine zA y43_82 ?_; (repeat (refine inC ?_; intro hc)); try (refine inK ?_; intro K hK))
 refine (hpd H1 hd1 (hpS.le lH1)).runs.mono ?_
 rintro _ H2 ⟨hb, jv, rfl, lH2, vhb, hj⟩
 have hat := hd1.at lH2 vhb hj hjb (by omega)
 have hwi := within_hspec H2 hb n v jv n.jobs hat _ pl (hpS.le (Hp.le_trans lH1 lH2)) hok.p1 (by omega) (by omega) hd.t1 hd.t2 hd.t20
 ((try (refine @unH _ ?_; refine zX y43_82 ?_)); (try (refine hK _ _ ?_; clear hK K; (try simp only [nq, ↓reduceIte, Nat.reduceEqDiff]))); refine @unH _ ?_; refine zA y43_82 ?_; (repeat (refine inC ?_; intro hc)); try (refine inK ?_; intro K hK))
 refine hwi.runs.mono ?_
 rintro _ H3 ⟨rfl, lH3⟩
 have l03 := Hp.le_trans lH1 (Hp.le_trans lH2 lH3)
 clear hwi hpd hat vhb hj
 generalize hs : someF n n.jobs pl = s
 generalize hu : allF n n.jobs pl = u
 cases u
 ·cases s
  all_goals
   ((try (refine @unH _ ?_; refine zX y43_82 ?_)); (try (refine hK _ _ ?_; clear hK K; (try simp only [nq, ↓reduceIte, Nat.reduceEqDiff]))); refine @unH _ ?_; refine zA y43_82 ?_; (repeat (refine inC ?_; intro hc)); try (refine inK ?_; intro K hK))
   (refine @unH _ ?_; refine zB Tryz.results43 ?_)
   exact ⟨by simp [hs, hu], l03⟩
 ·((try (refine @unH _ ?_; refine zX y43_82 ?_)); (try (refine hK _ _ ?_; clear hK K; (try simp only [nq, ↓reduceIte, Nat.reduceEqDiff]))); refine @unH _ ?_; refine zA y43_82 ?_; (repeat (refine inC ?_; intro hc)); try (refine inK ?_; intro K hK))
  (refine @unH _ ?_; refine zB Tryz.results43 ?_)
  exact ⟨by simp [hs, hu], l03⟩
end Go.Proofs.YtofmadjgbcopdaaGreatDoor
end
section
namespace Go.Proofs.YtofmadjgbcopdaaGreatDoor
open Go Go.X
def y102_83 := And.intro (fun H => ex_alloc (H := H) (P := Tryz.prog) (h := Tryz.zeroValue22)) (And.intro (fun H => ex_alloc (H := H) (P := Tryz.prog) (h := Tryz.zeroValue4)) (And.intro (fun H => storeAt_bool (H := H) Tryz.sizeOf4) (And.intro @callF99 (And.intro (fun H => loadAt_one (H := H) Tryz.underlying56 rfl) (And.intro @callF87 (And.intro (fun H => storeAt_slice (H := H) Tryz.sizeOf22) (And.intro (fun H => loadAt_one (H := H) Tryz.underlying22 rfl) (fun H => loadAt_one (H := H) Tryz.underlying4 rfl))))))))
theorem SlI.keepB {H H' : Hp} {w : Value} {xs : List Int} (h : SlI H w xs) (hk : ∀ b x, rowB w = some b -> H b = some x -> H' b = some x) : SlI H' w xs := by
 obtain ⟨a, cap, rfl, h2, h3⟩ := h
 refine ⟨a, cap, rfl, h2, fun i x hx => ?_⟩
 obtain ⟨b, o, p, c, fr, rfl, h5, h6⟩ := h3 i x hx
 exact ⟨b, o, p, c, fr, rfl, hk _ _ rfl h5, h6⟩
def fstT (base : Hp) (p : List Int -> Bool) (ob ib l r thisb hb : Nat) (lo : Loop) (S : Nat -> Prop) (t : Bool) (L : List (List Int)) (H : Hp) : Prop :=
  base.le H /\ H thisb = some (true, .cells #[.pointer (some ⟨hb, 0, none⟩)] 81 (0, 0)) /\ H r = some (true, .deferred (some [])) /\
    ((t = true /\ (∀ b, S b ↔ base b ≠ none ∨ b = ob ∨ b = ib ∨ b = thisb ∨ b = l ∨ b = r) /\ H l = some (true, .loop lo) /\ H ob = some (true, .cells #[.slice none 0 0] 22 (0, 0)) /\ H ib = some (true, .cells #[.bool false] 4 (0, 0)) /\ ∀ xs ∈ L, p xs = false) ∨
     (t = false /\ H l = some (true, .loop { lo with state := .done, pending := some (.exit 0) }) /\ ∃ w xs L0, L = L0 ++ [xs] /\ (∀ ys ∈ L0, p ys = false) /\ p xs = true /\ H ob = some (true, .cells #[w] 22 (0, 0)) /\ SlI H w xs /\ H ib = some (true, .cells #[.bool true] 4 (0, 0)) /\
        (∀ b, S b ↔ base b ≠ none ∨ b = ob ∨ b = ib ∨ b = thisb ∨ b = l ∨ b = r ∨ rowB w = some b) /\ ∀ b, rowB w = some b -> H b ≠ none))
theorem behind_exit {n : Nat} {e : Nat -> Value} {ds : List Deferred} {l r id : Nat} {Q : Exit -> Act -> Hp -> Prop} {v : Value} {H : Hp} {q : Loop} (h : H l = some (true, .loop q)) (h1 : q.state = .done) (h2 : q.pending = some (.exit id))
  (hk : Q (.exit id) (act n e (coll r :: ds)) (H.set l (.loop { q with state := .exhausted }))) : behind l r (act n e ds) Q (.returned v) H := by
 refine ⟨q, h, by rw [h1]; simp, ?_⟩
 cases q
 simp only [] at h1 h2
 subst h1 h2
 exact hk
theorem find_none' {p : List Int -> Bool} {L : List (List Int)} (h : ∀ xs ∈ L, p xs = false) : L.find? p = none := by
 rw [List.find?_eq_none]
 intro x hx
 simp [h x hx]
theorem find_pre {p : List Int -> Bool} {L0 L : List (List Int)} {xs : List Int} (h : ∀ ys ∈ L0, p ys = false) (hx : p xs = true) (hp : L0 ++ [xs] <+: L) : L.find? p = some xs := by
 obtain ⟨R, rfl⟩ := hp
 rw [List.append_assoc, List.find?_append, find_none' h]
 simp [hx]
theorem first_hspec (main : Md) (H : Hp) (hb : Nat) (n : HN) (v : HV) (jv : Value) (js : List Int) (hh : HaulAt H hb n v jv js) (hho : H hb = some (true, n.obj v jv)) (l1 : 1 <= n.load) (l3 : n.load <= 3) (sf : Fn) (sc si : Array Value) (p : List Int -> Bool) (hso : ∀ (H' : Hp) (v' : Value) (pl : List Nat), H.le H' -> SlI H' v' (pl.map fun m : Nat => (m : Int)) -> PlanOk n js.length pl -> CallV Tryz.prog main (.func sf sc si) #[v'] H' fun e H'' => e = .returned (.bool (p (pl.map fun m : Nat => (m : Int)))) /\ H'.le H'') :
  FnX Tryz.prog main 102 #[.pointer (some ⟨hb, 0, none⟩), .func sf sc si] H fun e H' => ∃ w is, e = .returned (.tuple #[w, .bool is]) /\ H.le H' /\ match (comps n.load.toNat js.length).find? p with
   | some xs => is = true /\ SlI H' w xs
   | none => is = false /\ w = .slice none 0 0 := by
 obtain ⟨ja, jc, hjs⟩ : ∃ ja jc, jv = .slice ja js.length jc := by obtain ⟨ja, jc, h, _⟩ := id hh.j; exact ⟨ja, jc, h⟩
 refine FnX_start Tryz.func102 rfl Tryz.ntmps102 (by simp) ?_
 (refine @unH _ ?_; refine zA y102_83 ?_; (repeat (refine inC ?_; intro hc)); try (refine inK ?_; intro K hK))
 (intro sb hsb; generalize hG : Hp.set _ sb _ = H1; have lH1 := le_of_set hG hsb; have vsb := at_of_set hG; clear hG)
 rw [cells_func] at vsb
 ((try (refine @unH _ ?_; refine zX (And.intro y102_83 (And.intro @cells_func @cells_nilFunc)) ?_)); (try (refine hK _ _ ?_; clear hK K; (try simp only [nq, ↓reduceIte, Nat.reduceEqDiff]))); refine @unH _ ?_; refine zA (And.intro y102_83 (And.intro @cells_func @cells_nilFunc)) ?_; (repeat (refine inC ?_; intro hc)); try (refine inK ?_; intro K hK))
 (intro ob hob; generalize hG : Hp.set _ ob _ = H2; have lH2 := le_of_set hG hob; have vob := at_of_set hG; clear hG)
 have h1ob := hob
 have vsb2 := lH2 _ _ vsb
 have l02 := Hp.le_trans lH1 lH2
 have vsb1 := vsb
 clear vsb hob
 ((try (refine @unH _ ?_; refine zX (And.intro y102_83 (And.intro @cells_func @cells_nilFunc)) ?_)); (try (refine hK _ _ ?_; clear hK K; (try simp only [nq, ↓reduceIte, Nat.reduceEqDiff]))); refine @unH _ ?_; refine zA (And.intro y102_83 (And.intro @cells_func @cells_nilFunc)) ?_; (repeat (refine inC ?_; intro hc)); try (refine inK ?_; intro K hK))
 (intro ib hib; generalize hG : Hp.set _ ib _ = H3; have lH3 := le_of_set hG hib; have vib := at_of_set hG; clear hG)
 have vsb3 := lH3 _ _ vsb2
 have vob3 := lH3 _ _ vob
 have l13 := Hp.le_trans lH2 lH3
 have h1ib : H1 ib = none := Hp.le_none lH2 hib
 have nio : ib ≠ ob := (ne_new vob hib).symm
 clear vsb2 vob lH3 hib l02 lH2
 ((try (refine @unH _ ?_; refine zX (And.intro y102_83 (And.intro @cells_func @cells_nilFunc)) ?_)); (try (refine hK _ _ ?_; clear hK K; (try simp only [nq, ↓reduceIte, Nat.reduceEqDiff]))); refine @unH _ ?_; refine zA (And.intro y102_83 (And.intro @cells_func @cells_nilFunc)) ?_; (repeat (refine inC ?_; intro hc)); try (refine inK ?_; intro K hK))
 refine (plans_spec main H3 hb).runs.mono ?_
 rintro _ H6 ⟨thisb, rfl, vthis, lH6⟩
 have vsb6 := lH6 _ _ vsb3
 have vob6 := lH6 _ _ vob3
 have vib6 := lH6 _ _ vib
 have l16 := Hp.le_trans l13 lH6
 ((try (refine @unH _ ?_; refine zX y102_83 ?_)); (try (refine hK _ _ ?_; clear hK K; (try simp only [nq, ↓reduceIte, Nat.reduceEqDiff]))); refine @unH _ ?_; refine zA y102_83 ?_; (repeat (refine inC ?_; intro hc)); try (refine inK ?_; intro K hK))
 refine wpX_forget (fun e => e 3 = .pointer (some ⟨sb, 0, none⟩) /\ e 6 = .pointer (some ⟨ob, 0, none⟩) /\ e 7 = .pointer (some ⟨ib, 0, none⟩) /\ e 10 = .func (.func 139) #[] #[.pointer (some ⟨thisb, 0, none⟩)]) ⟨rfl, rfl, rfl, rfl⟩ ?_
 rintro e ⟨e3, e6, e7, e10⟩
 clear vsb3 vob3 vib l13 lH6 vsb6
 refine wpX_range1 (g := 139) (fi := #[]) (cap := #[.pointer (some ⟨thisb, 0, none⟩)]) (by rw [act_eval (by omega), e10]) (by omega) (fun _ _ _ _ => callF139 _ _ _) (fun r l lo hr hl hlo1 hlo2 hround => ?_)
 have hnl : H6 l = none := by
  by_cases e : l = r
  ·rw [e]; exact hr
  ·rwa [set_ne e] at hl
 have hlr : r ≠ l := fun e => by rw [<- e, set_at] at hl; cases hl
 have hn1l : H1 l = none := Hp.le_none l16 hnl
 have hN : js.length <= 1000 := hh.jl
 have hS0 : ∀ {S : Nat -> Prop} {t : Bool} {L : List (List Int)} {H : Hp}, fstT H1 p ob ib l r thisb hb lo S t L H -> ∀ b, (H1 b ≠ none ∨ b = ob ∨ b = ib ∨ b = thisb ∨ b = l ∨ b = r) -> S b := fun h b hb => by
  obtain ⟨_, _, _, ⟨_, hS, _⟩ | ⟨_, _, w, xs, L0, _, _, _, _, _, _, hS, _⟩⟩ := h
  ·exact (hS b).2 hb
  ·refine (hS b).2 ?_
   rcases hb with h | h | h | h | h | h
   ·exact .inl h
   ·exact .inr (.inl h)
   ·exact .inr (.inr (.inl h))
   ·exact .inr (.inr (.inr (.inl h)))
   ·exact .inr (.inr (.inr (.inr (.inl h))))
   ·exact .inr (.inr (.inr (.inr (.inr (.inl h)))))
 have hC : ClientS Tryz.prog main (.func (.yield l) #[] #[]) (fun H v xs => SlI H v xs) (fun xs => xs ∈ comps n.load.toNat js.length) (fstT H1 p ob ib l r thisb hb lo) := by
  refine ⟨?_, ?_, ?_⟩
  ·intro S t L H H' hT hk
   have hs := hS0 hT
   obtain ⟨hle, h1, h3, h4⟩ := hT
   have kob : ∀ x, H ob = some x -> H' ob = some x := fun x => hk _ _ (hs _ (.inr (.inl rfl)))
   have kib : ∀ x, H ib = some x -> H' ib = some x := fun x => hk _ _ (hs _ (.inr (.inr (.inl rfl))))
   have kl : ∀ x, H l = some x -> H' l = some x := fun x => hk _ _ (hs _ (.inr (.inr (.inr (.inr (.inl rfl))))))
   refine ⟨fun b x hx => hk b x (hs _ (.inl (by rw [hx]; simp))) (hle b x hx), hk _ _ (hs _ (.inr (.inr (.inr (.inl rfl))))) h1, hk _ _ (hs _ (.inr (.inr (.inr (.inr (.inr rfl)))))) h3, ?_⟩
   rcases h4 with ⟨h5, hS, h6, h7, h8, h9⟩ | ⟨h5, h6, w, xs, L0, h7, h8, h9, h10, h11, h12, hS, h13⟩
   ·exact .inl ⟨h5, hS, kl _ h6, kob _ h7, kib _ h8, h9⟩
   ·have kw : ∀ b x, rowB w = some b -> H b = some x -> H' b = some x := fun b x hb => hk b x ((hS b).2 (.inr (.inr (.inr (.inr (.inr (.inr hb)))))))
    refine .inr ⟨h5, kl _ h6, w, xs, L0, h7, h8, h9, kob _ h10, h11.keepB kw, kib _ h12, hS, fun b hb => ?_⟩
    obtain ⟨x, hx⟩ := Option.ne_none_iff_exists'.1 (h13 b hb)
    rw [kw b x hb hx]; simp
  ·rintro S t L H b ⟨hle, h1, h3, h4⟩ hb
   have hcase : (H1 b ≠ none ∨ b = ob ∨ b = ib ∨ b = thisb ∨ b = l ∨ b = r) ∨ H b ≠ none := by
    rcases h4 with ⟨_, hS, _⟩ | ⟨h5, h6, w, xs, L0, h7, h8, h9, h10, h11, h12, hS, h13⟩
    ·exact .inl ((hS b).1 hb)
    ·rcases (hS b).1 hb with h | h | h | h | h | h | h
     ·exact .inl (.inl h)
     ·exact .inl (.inr (.inl h))
     ·exact .inl (.inr (.inr (.inl h)))
     ·exact .inl (.inr (.inr (.inr (.inl h))))
     ·exact .inl (.inr (.inr (.inr (.inr (.inl h)))))
     ·exact .inl (.inr (.inr (.inr (.inr (.inr h)))))
     ·exact .inr (h13 b h)
   have hx : H ob ≠ none /\ H ib ≠ none /\ H l ≠ none := by
    rcases h4 with ⟨h5, _, h6, h7, h8, h9⟩ | ⟨h5, h6, w, xs, L0, h7, h8, h9, h10, h11, h12, _⟩
    ·rw [h6, h7, h8]; simp
    ·rw [h6, h10, h12]; simp
   rcases hcase with (hb | rfl | rfl | rfl | rfl | rfl) | hb
   ·obtain ⟨x, hx⟩ := Option.ne_none_iff_exists'.1 hb
    rw [hle _ _ hx]; simp
   ·exact hx.1
   ·exact hx.2.1
   ·rw [h1]; simp
   ·exact hx.2.2
   ·rw [h3]; simp
   ·exact hb
  ·rintro S L H v' xs hT hv hA
   have hs := hS0 hT
   obtain ⟨hle, h1, h3, ⟨_, hS, h2, h4, h5, h6⟩ | ⟨h0, _⟩⟩ := hT
   rotate_left
   ·cases h0
   obtain ⟨pl, rfl, hp1, hps⟩ := comps_parts _ _ _ hA
   have hpok : PlanOk n js.length pl := ⟨hp1, fun m hm => by have := comps_parts_le _ _ _ hA _ (List.mem_map.2 ⟨m, hm, rfl⟩); omega, hps⟩
   refine hround H v' _ h2 ?_
   obtain ⟨va, vc, rfl, hvc, hvv⟩ := id hv
   (refine @unH _ ?_; refine zA (And.intro y102_83 @Bool.or_true) ?_; (repeat (refine inC ?_; intro hc)); try (refine inK ?_; intro K hK))
   refine ⟨h2, ?_⟩
   have hnlx : ∀ b x, H b = some x -> (∀ q, x ≠ (true, .loop q)) -> (H.set l (.loop { lo with state := .busy })) b = some x := fun b x hx hq => by
    rw [set_ne (fun e => hq lo (by rw [e, h2] at hx; exact (Option.some.inj hx).symm))]; exact hx
   obtain ⟨Hb, hB⟩ : ∃ Hb, H.set l (.loop { lo with state := .busy }) = Hb := ⟨_, rfl⟩
   rw [hB] at hnlx ⊢
   have vl : Hb l = some (true, .loop { lo with state := .busy }) := by rw [<- hB, set_at]
   have l1b : H1.le Hb := fun b x hx => by
    rw [<- hB, set_ne (fun e : b = l => by rw [e, hn1l] at hx; cases hx)]
    exact hle b x hx
   have hvb := hv.move (H' := Hb) fun x p c fr hx => hnlx _ _ hx (fun q e => by cases e)
   have vobB := hnlx _ _ h4 (fun q e => by cases e)
   have vibB := hnlx _ _ h5 (fun q e => by cases e)
   have vthB := hnlx _ _ h1 (fun q e => by cases e)
   have vrB := hnlx _ _ h3 (fun q e => by cases e)
   have vsbB := l1b _ _ vsb1
   have hcall := hso Hb _ pl (Hp.le_trans lH1 l1b) hvb hpok
   (refine @unH _ ?_; refine zS (And.intro y102_83 @Bool.or_true) ?_; (repeat (refine inC ?_; intro hc)); try (refine inK ?_; intro K hK))
   refine wpX_block ?_
   (refine @unH _ ?_; refine zS (And.intro y102_83 @Bool.or_true) ?_; (repeat (refine inC ?_; intro hc)); try (refine inK ?_; intro K hK))
   refine CallV.use hcall ?_
   rintro _ Hf ⟨rfl, lf⟩
   have vlf := lf _ _ vl
   have vobf := lf _ _ vobB
   have vibf := lf _ _ vibB
   have vthf := lf _ _ vthB
   have vrf := lf _ _ vrB
   have l1f := Hp.le_trans l1b lf
   have hvf := hvb.le lf
   have lHf : ∀ b x, b ≠ l -> H b = some x -> Hf b = some x := fun b x hb hx => lf _ _ (by rw [<- hB, set_ne hb]; exact hx)
   clear hcall hvb hnlx hround vl vobB vibB vthB vrB vsbB hB lf hvv hv
   have hloe : ({ ({ lo with state := LoopState.busy } : Loop) with state := .ready, pending := none } : Loop) = lo := by
    cases lo; simp only [] at hlo1 hlo2; subst hlo1 hlo2; rfl
   have hfl : ∃ x, Hf l = some x := ⟨_, vlf⟩
   have hfo : ∃ x, Hf ob = some x := ⟨_, vobf⟩
   have hfi : ∃ x, Hf ib = some x := ⟨_, vibf⟩
   have nol : ob ≠ l := fun e => by rw [e, vlf] at vobf; cases vobf
   have nil' : ib ≠ l := fun e => by rw [e, vlf] at vibf; cases vibf
   have ntl : thisb ≠ l := fun e => by rw [e, vlf] at vthf; cases vthf
   have nrl : r ≠ l := fun e => by rw [e, vlf] at vrf; cases vrf
   cases hpx : p (pl.map fun x : Nat => (x : Int)) with
   | false =>
    ((try (refine @unH _ ?_; refine zX (And.intro y102_83 @Bool.or_true) ?_)); (try (refine hK _ _ ?_; clear hK K; (try simp only [nq, ↓reduceIte, Nat.reduceEqDiff]))); refine @unH _ ?_; refine zA (And.intro y102_83 @Bool.or_true) ?_; (repeat (refine inC ?_; intro hc)); try (refine inK ?_; intro K hK))
    refine ⟨rfl, _, vlf, true, S, rfl, ⟨?_, ?_, ?_, .inl ⟨rfl, hS, ?_, ?_, ?_, ?_⟩⟩, fun b hb => .inl hb, fun b x hb hx => ?_⟩
    ·intro b x hx
     rw [set_ne (fun e : b = l => by rw [e, hn1l] at hx; cases hx)]
     exact l1f _ _ hx
    ·rw [set_ne ntl]; exact vthf
    ·rw [set_ne nrl]; exact vrf
    ·rw [hloe, set_at]
    ·rw [set_ne nol]; exact vobf
    ·rw [set_ne nil']; exact vibf
    ·intro ys hys
     rcases List.mem_append.1 hys with hys | hys
     ·exact h6 ys hys
     ·rw [List.mem_singleton] at hys
      rw [hys]; exact hpx
    ·have hbl : b ≠ l := fun e => hb (hs b (.inr (.inr (.inr (.inr (.inl e))))))
     rw [set_ne hbl]
     exact lHf _ _ hbl hx
   | true =>
    ((try (refine @unH _ ?_; refine zX (And.intro y102_83 @Bool.or_true) ?_)); (try (refine hK _ _ ?_; clear hK K; (try simp only [nq, ↓reduceIte, Nat.reduceEqDiff]))); refine @unH _ ?_; refine zA (And.intro y102_83 @Bool.or_true) ?_; (repeat (refine inC ?_; intro hc)); try (refine inK ?_; intro K hK))
    refine (clone_spec main Hf _ _ hvf (by have := parts_len pl hp1; rw [List.length_map]; omega)).runs.mono ?_
    rintro _ Hg ⟨w, rfl, hw⟩
    have lg := hw.1.toLe
    have vlg := lg _ _ vlf
    have vobg := lg _ _ vobf
    have vibg := lg _ _ vibf
    have vthg := lg _ _ vthf
    have vrg := lg _ _ vrf
    obtain ⟨wa, wc, rfl⟩ := hw.len
    have hww := hw.ints
    have nro : r ≠ ob := fun e => by rw [e, vobf] at vrf; cases vrf
    have nri : r ≠ ib := fun e => by rw [e, vibf] at vrf; cases vrf
    have nto : thisb ≠ ob := fun e => by rw [e, vobf] at vthf; cases vthf
    have nti : thisb ≠ ib := fun e => by rw [e, vibf] at vthf; cases vthf
    clear hvf vlf vobf vibf vthf vrf
    ((try (refine @unH _ ?_; refine zX (And.intro y102_83 @Bool.or_true) ?_)); (try (refine hK _ _ ?_; clear hK K; (try simp only [nq, ↓reduceIte, Nat.reduceEqDiff]))); refine @unH _ ?_; refine zA (And.intro y102_83 @Bool.or_true) ?_; (repeat (refine inC ?_; intro hc)); try (refine inK ?_; intro K hK))
    have hnew : ∀ b, rowB (.slice wa (ints (pl.map fun x : Nat => (x : Int))).length wc) = some b -> Hf b = none := fun b hb => (row_new hw hb).1
    have hnb : ∀ b, rowB (.slice wa (ints (pl.map fun x : Nat => (x : Int))).length wc) = some b -> b ≠ l /\ b ≠ ob /\ b ≠ ib := fun b hb => by
     have h0 := hnew b hb
     refine ⟨fun e => ?_, fun e => ?_, fun e => ?_⟩
     ·rw [e] at h0; exact absurd h0 (fun h => by obtain ⟨_, h9⟩ := hfl; rw [h9] at h; cases h)
     ·rw [e] at h0; exact absurd h0 (fun h => by obtain ⟨_, h9⟩ := hfo; rw [h9] at h; cases h)
     ·rw [e] at h0; exact absurd h0 (fun h => by obtain ⟨_, h9⟩ := hfi; rw [h9] at h; cases h)
    refine ⟨rfl, { lo with state := .busy }, by rw [set_ne nil'.symm, set_ne nol.symm]; exact vlg, false, fun b => H1 b ≠ none ∨ b = ob ∨ b = ib ∨ b = thisb ∨ b = l ∨ b = r ∨ rowB (.slice wa (ints (pl.map fun x : Nat => (x : Int))).length wc) = some b, rfl, ⟨?_, ?_, ?_, .inr ⟨rfl, set_at, .slice wa (ints (pl.map fun x : Nat => (x : Int))).length wc, _, L, rfl, h6, hpx, ?_, ?_, ?_, fun _ => Iff.rfl, fun b hb => ?_⟩⟩, fun b hb => ?_, fun b x hb hx => ?_⟩
    ·intro b x hx
     rw [set_ne (fun e : b = l => by rw [e, hn1l] at hx; cases hx), set_ne (fun e : b = ib => by rw [e, h1ib] at hx; cases hx), set_ne (fun e : b = ob => by rw [e, h1ob] at hx; cases hx)]
     exact lg _ _ (l1f _ _ hx)
    ·rw [set_ne ntl, set_ne nti, set_ne nto]; exact vthg
    ·rw [set_ne nrl, set_ne nri, set_ne nro]; exact vrg
    ·rw [set_ne nol, set_ne nio.symm, set_at]
    ·refine hww.keepB fun b x hb hx => ?_
     obtain ⟨n1, n2, n3⟩ := hnb b hb
     rw [set_ne n1, set_ne n3, set_ne n2]; exact hx
    ·rw [set_ne nil', set_at]
    ·obtain ⟨n1, n2, n3⟩ := hnb b hb
     obtain ⟨_, u, hu⟩ := row_new hw hb
     rw [set_ne n1, set_ne n3, set_ne n2, hu]; simp
    ·rcases hb with h | h | h | h | h | h | h
     ·exact .inl (hs b (.inl h))
     ·exact .inl (hs b (.inr (.inl h)))
     ·exact .inl (hs b (.inr (.inr (.inl h))))
     ·exact .inl (hs b (.inr (.inr (.inr (.inl h)))))
     ·exact .inl (hs b (.inr (.inr (.inr (.inr (.inl h))))))
     ·exact .inl (hs b (.inr (.inr (.inr (.inr (.inr h))))))
     ·refine .inr ?_
      obtain ⟨n1, n2, n3⟩ := hnb b h
      cases hx : H b with
      | none => rfl
      | some x => have := lHf b x n1 hx; rw [hnew b h] at this; cases this
    ·have n1 : b ≠ l := fun e => hb (hs b (.inr (.inr (.inr (.inr (.inl e))))))
     have n2 : b ≠ ob := fun e => hb (hs b (.inr (.inl e)))
     have n3 : b ≠ ib := fun e => hb (hs b (.inr (.inr (.inl e))))
     rw [set_ne n1, set_ne n3, set_ne n2]
     exact lg _ _ (lHf _ _ n1 hx)
 have hset : ∀ b x, b ≠ l -> b ≠ r -> H6 b = some x -> ((H6.set r (.deferred (some []))).set l (.loop lo)) b = some x := fun b x n1 n2 hx => by rw [set_ne n1, set_ne n2]; exact hx
 have hn1r : H1 r = none := Hp.le_none l16 hr
 have hrun := plansOfS_spec main n.load.toNat js.length (by omega) hN hC (fun S L H ⟨hle, h1, _⟩ => ⟨hb, n, v, ja, jc, h1, by rw [<- hjs]; exact hle _ _ (lH1 _ _ hho), by omega⟩) ((H6.set r (.deferred (some []))).set l (.loop lo)) (S := fun b => H1 b ≠ none ∨ b = ob ∨ b = ib ∨ b = thisb ∨ b = l ∨ b = r) ⟨fun b x hx => ?_, ?_, ?_, .inl ⟨rfl, fun _ => Iff.rfl, set_at, ?_, ?_, fun xs h => by simp at h⟩⟩ (fun l h => h)
 ·refine hrun.runs.mono ?_
  clear hrun hC hround hS0 hset
  rintro _ H8 ⟨t, L', v', S', rfl, ⟨hle8, h1, h3, ⟨rfl, _, h2, h4, h5, h6⟩ | ⟨rfl, h2, w, xs, L0, rfl, h6, hpx, h4, hw, h5, _, hwn⟩⟩, hL, hpre⟩
  ·have hL' := hL rfl
   have hfind := find_none' h6
   rw [hL'] at hfind
   clear hL h6 hL' hpre
   have nol : ob ≠ l := fun e => by rw [e, h2] at h4; cases h4
   have nil' : ib ≠ l := fun e => by rw [e, h2] at h5; cases h5
   have hle9 : H1.le (H8.set l (.loop { lo with state := .exhausted })) := fun b x hx => by
    rw [set_ne (fun e : b = l => by rw [e, hn1l] at hx; cases hx)]; exact hle8 _ _ hx
   have vob9 : (H8.set l (.loop { lo with state := .exhausted })) ob = _ := (set_ne nol).trans h4
   have vib9 : (H8.set l (.loop { lo with state := .exhausted })) ib = _ := (set_ne nil').trans h5
   have vr9 : (H8.set l (.loop { lo with state := .exhausted })) r = _ := (set_ne hlr).trans h3
   refine behind_none h2 hlo1 hlo2 ?_
   generalize H8.set l (.loop { lo with state := .exhausted }) = H9 at *
   clear h1 h2 h3 h4 h5 hle8 hlo1 hlo2
   (try simp only [nq, ↓reduceIte, Nat.reduceEqDiff])
   ((refine wpX_dst0 4 [(true, 0), (true, 1), (true, 2), (true, 3)] (by kernel_rfl) (by kernel_rfl) (by simp) (by kernel_rfl) ?_; intro K hK; (iterate 4 (refine @unH _ ?_; refine z3 y102_83 ?_)); refine plan_nil (hK _ _ ?_); clear hK K))
   (refine @unH _ ?_; refine zA y102_83 ?_; (repeat (refine inC ?_; intro hc)); try (refine inK ?_; intro K hK))
   refine wpX_ret ?_
   (try simp only [nq, ↓reduceIte, Nat.reduceEqDiff])
   refine bodyX_coll vr9 ?_
   rw [results_two Tryz.results102 (by decide) (by decide)]
   refine ⟨_, _, rfl, fun b x hx => ?_, ?_⟩
   ·have hx1 := lH1 _ _ hx
    rw [set_ne (fun e : b = r => by rw [e, hn1r] at hx1; cases hx1)]
    exact hle9 _ _ hx1
   ·rw [hfind]
    exact ⟨rfl, rfl⟩
  ·have hfind := find_pre h6 hpx hpre
   clear hL h6 hpre
   have nol : ob ≠ l := fun e => by rw [e, h2] at h4; cases h4
   have nil' : ib ≠ l := fun e => by rw [e, h2] at h5; cases h5
   have hle9 : H1.le (H8.set l (.loop { ({ lo with state := LoopState.done, pending := some (Code.exit 0) } : Loop) with state := .exhausted })) := fun b x hx => by
    rw [set_ne (fun e : b = l => by rw [e, hn1l] at hx; cases hx)]; exact hle8 _ _ hx
   have vob9 : (H8.set l (.loop { ({ lo with state := LoopState.done, pending := some (Code.exit 0) } : Loop) with state := .exhausted })) ob = _ := (set_ne nol).trans h4
   have vib9 : (H8.set l (.loop { ({ lo with state := LoopState.done, pending := some (Code.exit 0) } : Loop) with state := .exhausted })) ib = _ := (set_ne nil').trans h5
   have vr9 : (H8.set l (.loop { ({ lo with state := LoopState.done, pending := some (Code.exit 0) } : Loop) with state := .exhausted })) r = _ := (set_ne hlr).trans h3
   have hw9 : SlI (H8.set l (.loop { ({ lo with state := LoopState.done, pending := some (Code.exit 0) } : Loop) with state := .exhausted })) w xs := hw.set fun p c fr h => by rw [h2] at h; cases h
   refine behind_exit h2 rfl rfl ?_
   generalize H8.set l (.loop { ({ lo with state := LoopState.done, pending := some (Code.exit 0) } : Loop) with state := .exhausted }) = H9 at *
   clear h1 h2 h3 h4 h5 hle8 hlo1 hlo2 hw hwn
   obtain ⟨wa, wc, rfl, _⟩ := id hw9
   (try simp only [nq, ↓reduceIte, Nat.reduceEqDiff])
   ((refine wpX_dst0 4 [(true, 0), (true, 1), (true, 2), (true, 3)] (by kernel_rfl) (by kernel_rfl) (by simp) (by kernel_rfl) ?_; intro K hK; (iterate 4 (refine @unH _ ?_; refine z3 y102_83 ?_)); refine plan_nil (hK _ _ ?_); clear hK K))
   (refine @unH _ ?_; refine zA y102_83 ?_; (repeat (refine inC ?_; intro hc)); try (refine inK ?_; intro K hK))
   refine wpX_ret ?_
   (try simp only [nq, ↓reduceIte, Nat.reduceEqDiff])
   refine bodyX_coll vr9 ?_
   rw [results_two Tryz.results102 (by decide) (by decide)]
   refine ⟨_, _, rfl, fun b x hx => ?_, ?_⟩
   ·have hx1 := lH1 _ _ hx
    rw [set_ne (fun e : b = r => by rw [e, hn1r] at hx1; cases hx1)]
    exact hle9 _ _ hx1
   ·rw [hfind]
    exact ⟨rfl, hw9.set fun p c fr h => by rw [vr9] at h; cases h⟩
 ·rw [set_ne (fun e : b = l => by rw [e, hn1l] at hx; cases hx), set_ne (fun e : b = r => by rw [e, hn1r] at hx; cases hx)]
  exact l16 _ _ hx
 ·exact hset _ _ (fun e : thisb = l => by rw [e, hnl] at vthis; cases vthis) (fun e : thisb = r => by rw [e, hr] at vthis; cases vthis) vthis
 ·rw [set_ne hlr, set_at]
 ·exact hset _ _ (fun e : ob = l => by rw [e, hnl] at vob6; cases vob6) (fun e : ob = r => by rw [e, hr] at vob6; cases vob6) vob6
 ·exact hset _ _ (fun e : ib = l => by rw [e, hnl] at vib6; cases vib6) (fun e : ib = r => by rw [e, hr] at vib6; cases vib6) vib6
end Go.Proofs.YtofmadjgbcopdaaGreatDoor
end
section
namespace Go.X
open Go
theorem CallV.of_fn {P : Program} {main : Md} {H : Hp} {f : FuncId} {caps args : Array Value} {R : Ending -> Hp -> Prop} (hcall : ∀ (args : Array Value) (H : Hp) (K : Next -> Hp -> Prop) (E : Value -> Hp -> Prop), wpS P (callFunc f args) H K E = K (.enter f args) H)
  (h : FnX P main f (args ++ caps) H R) : CallV P main (.func (.func f) #[] caps) args H R := by
 intro K E h1 h2
 rw [callK_func, hcall, Array.empty_append]
 exact h1 _ _ _ h.runs
end Go.X
namespace Go.Proofs.YtofmadjgbcopdaaGreatDoor
open Go Go.X
def y58_84 := And.intro (fun H => loadAt_aggE (H := H) Tryz.underlying29 rfl Tryz.sizeOf29) (And.intro (fun H => loadAt_one (H := H) Tryz.underlying3 rfl) (And.intro @callF98 (And.intro (fun H => ex_alloc (H := H) (P := Tryz.prog) (h := Tryz.zeroValue81)) (And.intro (fun H => storeAt_ptr (H := H) Tryz.sizeOf81) (And.intro (fun H => loadAt_one (H := H) Tryz.underlying81 rfl) @callF102)))))
def y107_84 := And.intro (fun H => loadAt_one (H := H) Tryz.underlying81 rfl) (And.intro (fun H => loadAt_one (H := H) Tryz.underlying3 rfl) @callF100)
def planF (n : HN) (mi : Int) : Option (List Int) := (comps n.load.toNat n.jobs.length).find? (fineI n n.jobs mi)
theorem fineB_spec (main : Md) (H : Hp) (hb : Nat) (n : HN) (v : HV) (jv : Value) (js : List Int) (hh : HaulAt H hb n v jv js) (pv : Value) (pl : List Nat) (hp : SlI H pv (pl.map fun m : Nat => (m : Int))) (hp1 : ∀ m ∈ pl, 1 <= m) (hps : pl.sum <= js.length) (hpl : pl.length <= 1000) (mi : Int) (hm1 : 1 <= mi) (hm2 : mi <= 20) :
  FnX Tryz.prog main 100 #[.pointer (some ⟨hb, 0, none⟩), pv, .int .i64 mi] H fun e H' => e = .returned (.bool (fineB n js mi pl)) /\ H.le H' := by
 refine (fine_spec main H hb n v jv js hh pv pl hp hp1 hps hpl mi hm1 hm2 (fun r hr => by
  have := dS_back n js mi pl hh.xb hh.n0 hh.b1 hh.b4 hm1 hm2 pl.length (Nat.le_refl _) r hr
  omega)).mono ?_
 rintro _ H' ⟨b, rfl, hb', hl⟩
 have hfB := fineB_iff n js mi pl fun k hk => (dS_ok n js mi pl hh.xb hh.n0 hh.b1 hh.b4 hm1 hm2 k hk).2.2
 exact ⟨by rw [show b = fineB n js mi pl by rw [Bool.eq_iff_iff, hb', hfB]], hl⟩
theorem planSo_spec (main : Md) (H : Hp) (hb hc mc : Nat) (n : HN) (v : HV) (jv : Value) (js : List Int) (hh : HaulAt H hb n v jv js) (pv : Value) (pl : List Nat) (hp : SlI H pv (pl.map fun m : Nat => (m : Int))) (hp1 : ∀ m ∈ pl, 1 <= m) (hps : pl.sum <= js.length) (hpl : pl.length <= 1000) (mi : Int) (hm1 : 1 <= mi) (hm2 : mi <= 20)
  (vh : H hc = some (true, .cells #[.pointer (some ⟨hb, 0, none⟩)] 81 (0, 0))) (vm : H mc = some (true, .cells #[.int .i64 mi] 3 (0, 0))) :
  FnX Tryz.prog main 107 #[pv, .pointer (some ⟨hc, 0, none⟩), .pointer (some ⟨mc, 0, none⟩)] H fun e H' => e = .returned (.bool (fineB n js mi pl)) /\ H.le H' := by
 have hpS := hp
 obtain ⟨pa, pc, rfl, hpc, _⟩ := hp
 refine FnX_start Tryz.func107 rfl Tryz.ntmps107 (by simp) ?_
 (refine @unH _ ?_; refine zA y107_84 ?_; (repeat (refine inC ?_; intro hc)); try (refine inK ?_; intro K hK))
 refine (fineB_spec main H hb n v jv js hh _ pl hpS hp1 hps hpl mi hm1 hm2).runs.mono ?_
 rintro _ H1 ⟨rfl, lH1⟩
 ((try (refine @unH _ ?_; refine zX y107_84 ?_)); (try (refine hK _ _ ?_; clear hK K; (try simp only [nq, ↓reduceIte, Nat.reduceEqDiff]))); refine @unH _ ?_; refine zA y107_84 ?_; (repeat (refine inC ?_; intro hc)); try (refine inK ?_; intro K hK))
 (refine @unH _ ?_; refine z9 Tryz.results107 ?_)
 exact ⟨by trivial, lH1⟩
theorem Plan_spec (main : Md) (H : Hp) (n : HN) (v : HV) (hd : HaulIn H n v) (hN : n.jobs.length <= 8) (hjb : ∀ i ∈ n.jobs, 0 <= i /\ i < n.xs.length) (mi : Int) (h1 : 1 <= mi) (h20 : mi <= 20) :
  FnX Tryz.prog main 58 #[n.agg v, .int .i64 mi] H fun e H' => H.le H' /\ ∃ w c, e = .returned (.tuple #[w, .int .i64 c]) /\ match planF n mi with
   | some xs => c = 0 /\ SlI H' w xs
   | none => c = 11 /\ w = .slice none 0 0 := by
 have hdr := fun H' h => driving_spec main H' n v h mi h1 h20
 simp only [HN.agg, planF] at hdr ⊢
 refine FnX_start Tryz.func58 rfl Tryz.ntmps58 (by simp) ?_
 (refine @unH _ ?_; refine zA y58_84 ?_; (repeat (refine inC ?_; intro hc)); try (refine inK ?_; intro K hK))
 intro ab hab mb hmb
 replace hmb : (Hp.set H ab _) mb = none := hmb
 generalize hG : Hp.set H ab _ = H1 at hmb ⊢
 have lH1 := le_of_set hG hab
 have vab := at_of_set hG
 clear hG
 generalize hG : Hp.set H1 mb _ = H2
 have lH2 := le_of_set hG hmb
 have vmb := at_of_set hG
 clear hG
 have hd1 := hd.le lH1
 have hd2 := hd1.le lH2
 have vab2 := lH2 _ _ vab
 have l12 : H.le H2 := Hp.le_trans lH1 lH2
 clear vab hd1 lH1 lH2 hab hmb
 ((try (refine @unH _ ?_; refine zX y58_84 ?_)); (try (refine hK _ _ ?_; clear hK K; (try simp only [nq, ↓reduceIte, Nat.reduceEqDiff]))); refine @unH _ ?_; refine zA y58_84 ?_; (repeat (refine inC ?_; intro hc)); try (refine inK ?_; intro K hK))
 refine (hdr H2 hd2).runs.mono ?_
 rintro _ H3 ⟨hb, jv, rfl, lH3, vhb, hj⟩
 have hat := hd2.at lH3 vhb hj hjb (by omega)
 have vmb3 := lH3 _ _ vmb
 clear hdr vab2 vmb
 ((try (refine @unH _ ?_; refine zX y58_84 ?_)); (try (refine hK _ _ ?_; clear hK K; (try simp only [nq, ↓reduceIte, Nat.reduceEqDiff]))); refine @unH _ ?_; refine zA y58_84 ?_; (repeat (refine inC ?_; intro hc)); try (refine inK ?_; intro K hK))
 (intro pb hpb; generalize hG : Hp.set _ pb _ = H4; have lH4 := le_of_set hG hpb; have vpb := at_of_set hG; clear hG)
 have hat4 := hat.le lH4
 have vmb4 := lH4 _ _ vmb3
 have vhb4 := lH4 _ _ vhb
 have l14 := Hp.le_trans l12 (Hp.le_trans lH3 lH4)
 clear vmb3 vhb hj lH3 lH4 l12 hpb hat
 ((try (refine @unH _ ?_; refine zX y58_84 ?_)); (try (refine hK _ _ ?_; clear hK K; (try simp only [nq, ↓reduceIte, Nat.reduceEqDiff]))); refine @unH _ ?_; refine zA y58_84 ?_; (repeat (refine inC ?_; intro hc)); try (refine inK ?_; intro K hK))
 have hf := first_hspec main H4 hb n v jv n.jobs hat4 vhb4 hd.l1 hd.l3 (.func 107) #[] #[.pointer (some ⟨pb, 0, none⟩), .pointer (some ⟨mb, 0, none⟩)] (fineI n n.jobs mi) (fun H' v' pl hl hv hok => by
  refine CallV.of_fn (fun _ _ _ _ => callF107 _ _ _) ?_
  rw [fineI_map]
  have := parts_len pl hok.p1
  have := hok.ps
  exact planSo_spec main H' hb pb mb n v jv n.jobs (hat4.le hl) v' pl hv hok.p1 (by omega) (by omega) mi h1 h20 (hl _ _ vpb) (hl _ _ vmb4))
 refine hf.runs.mono ?_
 rintro _ H5 ⟨w, is, rfl, lH5, hres⟩
 cases hpf : (comps n.load.toNat n.jobs.length).find? (fineI n n.jobs mi) with
 | none =>
  rw [hpf] at hres
  obtain ⟨rfl, rfl⟩ := hres
  ((try (refine @unH _ ?_; refine zX y58_84 ?_)); (try (refine hK _ _ ?_; clear hK K; (try simp only [nq, ↓reduceIte, Nat.reduceEqDiff]))); refine @unH _ ?_; refine zA y58_84 ?_; (repeat (refine inC ?_; intro hc)); try (refine inK ?_; intro K hK))
  (refine @unH _ ?_; refine zB Tryz.results58 ?_)
  exact ⟨Hp.le_trans l14 lH5, _, _, rfl, by rw [hpf]; exact ⟨rfl, rfl⟩⟩
 | some xs =>
  rw [hpf] at hres
  obtain ⟨rfl, hw⟩ := hres
  obtain ⟨wa, wc, rfl, _⟩ := id hw
  ((try (refine @unH _ ?_; refine zX y58_84 ?_)); (try (refine hK _ _ ?_; clear hK K; (try simp only [nq, ↓reduceIte, Nat.reduceEqDiff]))); refine @unH _ ?_; refine zA y58_84 ?_; (repeat (refine inC ?_; intro hc)); try (refine inK ?_; intro K hK))
  (refine @unH _ ?_; refine zB Tryz.results58 ?_)
  exact ⟨Hp.le_trans l14 lH5, _, _, rfl, by rw [hpf]; exact ⟨rfl, hw⟩⟩
end Go.Proofs.YtofmadjgbcopdaaGreatDoor
end
section
namespace Go.Proofs.YtofmadjgbcopdaaGreatDoor
open Go Go.X
def y143_85 := And.intro (fun H => fieldAt_eq (H := H) Tryz.underlying129 (i := 1) rfl (off := 1) rfl Tryz.sizeOf3) (fun H => loadAt_one (H := H) Tryz.underlying3 rfl)
def y144_85 := And.intro (fun H => fieldAt_eq (H := H) Tryz.underlying203 (i := 2) rfl (off := 3) rfl Tryz.sizeOf4) (And.intro (fun H => loadAt_one (H := H) Tryz.underlying4 rfl) (And.intro (fun H => fieldAt_eq (H := H) Tryz.underlying203 (i := 0) rfl (off := 0) rfl Tryz.sizeOf201) (And.intro (fun H => loadAt_one (H := H) Tryz.underlying201 rfl) (And.intro (fun H => loadAt_aggE (H := H) Tryz.underlying129 rfl Tryz.sizeOf129) (And.intro (fun H => fieldAt_eq (H := H) Tryz.underlying203 (i := 1) rfl (off := 1) rfl Tryz.sizeOf129) (And.intro (fun H => storeAt_agg (H := H) Tryz.sizeOf129) (fun H => storeAt_bool (H := H) Tryz.sizeOf4)))))))
abbrev chO (bw : Value) (bl : Int) (sm : Bool) : Obj := .cells #[.func (.func 143) #[] #[], bw, .int .i64 bl, .bool sm] 203 (0, 0)
theorem better_spec (main : Md) (H : Hp) (a : Option Addr) (k c : Nat) (x : Int) (b : Option Addr) (k' c' : Nat) (y : Int) :
  FnX Tryz.prog main 143 #[.agg #[.slice a k c, .int .i64 x], .agg #[.slice b k' c', .int .i64 y]] H fun e H' => e = .returned (.bool (decide (x < y))) /\ H.le H' := by
 refine FnX_start Tryz.func143 rfl Tryz.ntmps143 (by simp) ?_
 (refine @unH _ ?_; refine zA y143_85 ?_; (repeat (refine inC ?_; intro hc)); try (refine inK ?_; intro K hK))
 intro ab hab mb hmb
 replace hmb : (Hp.set H ab _) mb = none := hmb
 generalize hG : Hp.set H ab _ = H1 at hmb ⊢
 have lH1 := le_of_set hG hab
 have vab := at_of_set hG
 clear hG
 generalize hG : Hp.set H1 mb _ = H2
 have lH2 := le_of_set hG hmb
 have vmb := at_of_set hG
 clear hG
 have vab2 := lH2 _ _ vab
 ((try (refine @unH _ ?_; refine zX y143_85 ?_)); (try (refine hK _ _ ?_; clear hK K; (try simp only [nq, ↓reduceIte, Nat.reduceEqDiff]))); refine @unH _ ?_; refine zA y143_85 ?_; (repeat (refine inC ?_; intro hc)); try (refine inK ?_; intro K hK))
 (refine @unH _ ?_; refine z9 Tryz.results143 ?_)
 exact ⟨by trivial, Hp.le_trans lH1 lH2⟩
theorem take_cspec (main : Md) (H : Hp) (cb : Nat) (bw : Value) (bl : Int) (sm : Bool) (hbw : ∃ a k c, bw = .slice a k c) (wa : Option Addr) (wk wc : Nat) (x : Int) (vcb : H cb = some (true, chO bw bl sm)) :
  FnX Tryz.prog main 144 #[.pointer (some ⟨cb, 0, none⟩), .agg #[.slice wa wk wc, .int .i64 x]] H fun e H' => e = .returned (.tuple #[]) /\ Lex (some cb) H H' /\
   H' cb = some (true, if sm = false ∨ x < bl then chO (.slice wa wk wc) x true else chO bw bl sm) := by
 obtain ⟨ba, bk, bc, rfl⟩ := hbw
 refine FnX_start Tryz.func144 rfl Tryz.ntmps144 (by simp) ?_
 (refine @unH _ ?_; refine zA y144_85 ?_; (repeat (refine inC ?_; intro hc)); try (refine inK ?_; intro K hK))
 (intro ab hab; generalize hG : Hp.set _ ab _ = H1; have lH1 := le_of_set hG hab; have vab := at_of_set hG; clear hG)
 have vcb1 := lH1 _ _ vcb
 have ncb : cb ≠ ab := ne_new vcb hab
 ((try (refine @unH _ ?_; refine zX y144_85 ?_)); (try (refine hK _ _ ?_; clear hK K; (try simp only [nq, ↓reduceIte, Nat.reduceEqDiff]))); refine @unH _ ?_; refine zA y144_85 ?_; (repeat (refine inC ?_; intro hc)); try (refine inK ?_; intro K hK))
 refine wpX_dst1 17 [(true, 0), (true, 1), (true, 2), (true, 3), (true, 4), (true, 5), (true, 6), (true, 7), (true, 8), (true, 9), (true, 10), (true, 11), (true, 12), (true, 13), (true, 14), (true, 15), (true, 16)] (by kernel_rfl) (by kernel_rfl) (by simp) (by kernel_rfl) ?_
 intro K hK
 cases sm with
 | false =>
  (iterate 6 (refine @unH _ ?_; refine z3 y144_85 ?_))
  (iterate 10 (apply plan_skip rfl (by simp -implicitDefEqProofs (disch := omega) only [wanted_some, yielded_list, ylK_bool, List.getElem?_cons_succ, List.getElem?_cons_zero, Option.bind_some, act_get?, upd_get, Nat.reduceEqDiff, ↓reduceIte, *]; rfl); simp -implicitDefEqProofs (disch := first | omega | (simp only [qd] <;> omega)) only [act_put, act_put_none]))
  (refine @unH _ ?_; refine z3 y144_85 ?_)
  refine plan_nil (hK _ _ ?_)
  clear hK K
  (try simp only [nq, ↓reduceIte, Nat.reduceEqDiff])
  (refine @unH _ ?_; refine zA y144_85 ?_; (repeat (refine inC ?_; intro hc)); try (refine inK ?_; intro K hK))
  (refine @unH _ ?_; refine zD Tryz.results144 ?_)
  refine ⟨by trivial, ?_, ?_⟩
  ·exact (Lex.of lH1).set
  ·rw [set_at, if_pos (.inl (by trivial))]
 | true =>
  (iterate 6 (refine @unH _ ?_; refine z3 y144_85 ?_))
  (iterate 9 (refine @unH _ ?_; refine z6 y144_85 ?_))
  (apply plan_take rfl (by simp -implicitDefEqProofs (disch := omega) only [wanted_some, yielded_list, ylK_bool, List.getElem?_cons_succ, List.getElem?_cons_zero, Option.bind_some, act_get?, upd_get, Nat.reduceEqDiff, ↓reduceIte, beq_self_eq_true, *]) rfl; (focus ((refine @unH _ ?_; refine zX y144_85 ?_); exact quiet_le (better_spec main H1 wa wk wc x ba bk bc bl))); simp -implicitDefEqProofs (disch := first | omega | (simp only [qd] <;> omega)) only [act_put, act_put_none])
  (refine @unH _ ?_; refine z3 y144_85 ?_)
  refine plan_nil (hK _ _ ?_)
  clear hK K
  (try simp only [nq, ↓reduceIte, Nat.reduceEqDiff])
  repeat' (first
 | (refine wpX_stmtL rfl ?_; intro K hK; simp -implicitDefEqProofs (disch := first | omega | (simp only [qd] <;> omega)) only [xq, ↓xp, qc, Nat.reduceAdd, List.range, List.range.loop, fine, Nat.reduceEqDiff, ↓reduceIte, yielded, reduceCtorEq, Nat.reduceLT, Nat.reduceMul, Nat.reduceSub, one, Nat.reduceLeDiff, runX_cons, y144_85, aq, ↓ap, qe0, qe1, qe2, *, -hK]; try (refine hK _ _ ?_; clear hK K))
 | (refine wpX_lastL rfl ?_; intro K hK; simp -implicitDefEqProofs (disch := first | omega | (simp only [qd] <;> omega)) only [xq, ↓xp, qc, Nat.reduceAdd, List.range, List.range.loop, fine, Nat.reduceEqDiff, ↓reduceIte, yielded, reduceCtorEq, Nat.reduceLT, Nat.reduceMul, Nat.reduceSub, one, Nat.reduceLeDiff, runX_cons, y144_85, aq, ↓ap, qe0, qe1, qe2, *, -hK]; try (refine hK _ _ ?_; clear hK K; (try simp only [nq, ↓reduceIte, Nat.reduceEqDiff])))
 | (refine wpX_skip ?_; (try simp only [nq, ↓reduceIte, Nat.reduceEqDiff]))
 | (refine wpX_label ?_; (try simp only [nq, ↓reduceIte, Nat.reduceEqDiff]))
 | (refine wpX_exit ?_; (try simp only [nq, ↓reduceIte, Nat.reduceEqDiff]))
 | (refine wpX_goto ?_; (try simp only [nq, ↓reduceIte, Nat.reduceEqDiff]))
 | (refine wpX_condK (by simp only [act_eval, upd_get, Nat.reduceEqDiff, Nat.reduceLT, ↓reduceIte, *]; rfl) ?_ ?_ <;> (intro hc; first | (exfalso; simp -implicitDefEqProofs (disch := omega) only [*, bq, reduceCtorEq] at hc; done) | (simp only [dq, qe3, qe4, qe5, qe6] at hc) | skip))
 | (refine wpX_scope0 ?_)
 | (refine wpX_block ?_)
 | (refine wpX_seq ?_))
  ·(refine @unH _ ?_; refine zD Tryz.results144 ?_)
   refine ⟨by trivial, (Lex.of lH1).set, ?_⟩
   rw [set_at, if_pos (.inr hc)]
  ·(refine @unH _ ?_; refine zD Tryz.results144 ?_)
   refine ⟨by trivial, Lex.of lH1, ?_⟩
   rw [vcb1, if_neg (by simp; omega)]
end Go.Proofs.YtofmadjgbcopdaaGreatDoor
end
