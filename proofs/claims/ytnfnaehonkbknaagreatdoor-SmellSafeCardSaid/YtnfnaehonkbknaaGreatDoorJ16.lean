/- Texts SmD PlanW SmT SmP SmFq. -/
import Derived.Test.YtnfnaehonkbknaaGreatDoorJ15
set_option linter.defProp false
set_option linter.unusedSimpArgs false
set_option linter.unusedVariables false
set_option maxRecDepth 100000
set_option maxHeartbeats 2000000
section
namespace Go.Proofs.YtnfnaehonkbknaaGreatDoor
open Go Go.X
def Ak1 := And.intro (fun H => Aqv (H := H) (P := Tryz.prog) (h := Tryz.zeroValue91)) (And.intro (fun H => Aqv (H := H) (P := Tryz.prog) (h := Tryz.zeroValue49)) (And.intro (fun H => Byo (H := H) Tryz.sizeOf49) (And.intro (fun H => Bje (H := H) Tryz.sizeOf49) (fun H => Aqf (H := H) Tryz.underlying49 rfl))))
def Ajh := And.intro (fun H => Aqf (H := H) Tryz.underlying115 rfl) (And.intro (fun H => Aqd (H := H) Tryz.underlying147 (i := 0) rfl (off := 0) rfl Tryz.sizeOf26) (And.intro (fun H => Aqd (H := H) Tryz.underlying26 (i := 1) rfl (off := 1) rfl Tryz.sizeOf23) (And.intro (fun H => Aqf (H := H) Tryz.underlying23 rfl) (And.intro (fun H => Aq8 (H := H) Tryz.underlying23) (And.intro (fun H => Aqf (H := H) Tryz.underlying199 rfl) (And.intro (fun H => Aqp (H := H) Tryz.underlying91 rfl Tryz.sizeOf91) (And.intro (fun H => Aqu (H := H) Tryz.underlying23 Tryz.sizeOf66) (And.intro (fun H => Aqd (H := H) Tryz.underlying66 (i := 2) rfl (off := 2) rfl Tryz.sizeOf34) (And.intro (fun H => Aqp (H := H) Tryz.underlying34 rfl Tryz.sizeOf34) (And.intro (fun H => Aqv (H := H) (P := Tryz.prog) (h := Tryz.zeroValue34)) (And.intro (fun H => Aqr (H := H) Tryz.sizeOf34) (And.intro (fun H => Aqd (H := H) Tryz.underlying34 (i := 0) rfl (off := 0) rfl Tryz.sizeOf3) (And.intro (fun H => Aqf (H := H) Tryz.underlying3 rfl) (And.intro (fun H => Aqd (H := H) Tryz.underlying34 (i := 1) rfl (off := 1) rfl Tryz.sizeOf3) (And.intro @Ayo (And.intro (fun H => Aq5 (H := H) Tryz.underlying91 Tryz.sizeOf3) (And.intro (fun H => Axh (H := H) Tryz.sizeOf3) (fun H => Aqf (H := H) Tryz.underlying49 rfl))))))))))))))))))
structure Drs (S : Nat -> Prop) (T : Bool -> List (List Int) -> Hp -> Prop) (y : Value) (yb tb gb thisb : Nat) (ds : List Dr) (L : List (List Int)) (pre : List Int) (H : Hp) : Prop where
 cl : T true L H
 vy : H yb = some (true, .cells #[y] 199 (0, 0))
 vg : H gb = some (true, .cells #[.func (.func 113) #[] #[.pointer (some ⟨thisb, 0, none⟩), .pointer (some ⟨yb, 0, none⟩), .pointer (some ⟨tb, 0, none⟩), .pointer (some ⟨gb, 0, none⟩)]] 49 (0, 0))
 vt : ∃ p, H tb = some (true, .cells (ints p).toArray 91 (0, 0)) /\ p.length = 6 /\ p.take pre.length = pre /\ p.drop ds.length = List.replicate (6 - ds.length) 0
 ny : ¬ S yb
 ng : ¬ S gb
 nt : ¬ S tb
def Bxy (d : Dr) (R : List (List Int)) (pre : List Int) (i : Nat) : List (List Int) := (((List.range i).map fun (n : Nat) => (n : Int)).filter fun n => decide (d.mn <= n /\ n <= d.mx)).flatMap fun n => R.map fun u => pad6 (pre ++ n :: u)
theorem Cjk (d : Dr) (R : List (List Int)) (pre : List Int) (i : Nat) : Bxy d R pre (i + 1) = Bxy d R pre i ++ if d.mn <= (i : Int) /\ (i : Int) <= d.mx then R.map (fun u => pad6 ((pre ++ [(i : Int)]) ++ u)) else [] := by
 unfold Bxy
 rw [List.range_succ, List.map_append, List.filter_append, List.flatMap_append]
 congr 1
 by_cases h : d.mn <= (i : Int) /\ (i : Int) <= d.mx
 ·rw [if_pos h]
  simp [h]
 ·rw [if_neg h]
  simp [h]
theorem Cvs (d : Dr) (ds : List Dr) (pre : List Int) : Bxy d (Axv ds) pre 5 = (Axv (d :: ds)).map fun u => pad6 (pre ++ u) := by
 show _ = ((hrsF d).flatMap fun n => (Axv ds).map (n :: ·)).map fun u => pad6 (pre ++ u)
 unfold Bxy hrsF
 rw [List.map_flatMap]
 congr 1
 funext n
 rw [List.map_map]
 rfl
theorem Cwt {p pre : List Int} (h : p.length = 6) (n : Nat) (hn : pre.length = n) (h1 : p.take n = pre) (h2 : p.drop n = List.replicate (6 - n) 0) : p = pad6 pre := by
 unfold pad6
 rw [<- List.take_append_drop n p, h1, h2, hn]
theorem Cju (main : Md) {S : Nat -> Prop} {A : List Int -> Prop} {T : Bool -> List (List Int) -> Hp -> Prop} {yf : Fn} {yi yc : Array Value} {yb tb gb thisb : Nat} {pl : Int} {da : Option Addr} {dc : Nat} {hv nv : Value} {ds : List Dr}
  (hC : Ckx Tryz.prog main (.func yf yi yc) S (fun H v xs => v = .agg (ints xs).toArray) A T) (hT1 : ∀ t L H, T t L H -> t = true)
  (hthis : ∀ L H, T true L H -> ∃ hb mb q q', H thisb = some (q', .cells #[.pointer (some ⟨hb, 0, none⟩)] 115 (0, 0)) /\ H hb = some (q, hsO pl (.slice da ds.length dc) hv nv mb) /\ SlD H (.slice da ds.length dc) ds)
  (hl6 : ds.length <= 6) : ∀ (n k : Nat) (hk : k + n = ds.length) (pre : List Int) (hpre : pre.length = k) (L : List (List Int)) (H : Hp) (hP : Drs S T (.func yf yi yc) yb tb gb thisb ds L pre H) (hA : ∀ u ∈ Axv (ds.drop k), A (pad6 (pre ++ u))),
  FnX Tryz.prog main 113 #[.int .i64 k, .pointer (some ⟨thisb, 0, none⟩), .pointer (some ⟨yb, 0, none⟩), .pointer (some ⟨tb, 0, none⟩), .pointer (some ⟨gb, 0, none⟩)] H fun e H' => e = .returned (.bool true) /\ Drs S T (.func yf yi yc) yb tb gb thisb ds (L ++ (Axv (ds.drop k)).map fun u => pad6 (pre ++ u)) pre H' /\ ∀ b x, ¬ S b -> b ≠ tb -> H b = some x -> H' b = some x := by
 intro n
 induction n with
 | zero =>
  intro k hk pre hpre L H hP hA
  obtain ⟨p, vt, hp6, hp1, hp2⟩ := hP.vt
  obtain ⟨hb, mb, q, q', vth, vh, dd⟩ := hthis _ _ hP.cl
  have vy := hP.vy
  obtain rfl : k = ds.length := by omega
  have hpp : p = pad6 pre := Cwt hp6 _ hpre (by rw [<- hpre]; exact hp1) hp2
  have hil : (ints p).length = 6 := by rw [Aqz]; exact hp6
  have hex := Ajq hp6
  simp only [hsO] at vh
  replace hpp : Aqk _ := hpp
  replace hp1 : Aqk _ := hp1
  replace hp2 : Aqk _ := hp2
  replace hpre : Aqk _ := hpre
  refine Aqo Tryz.func113 rfl Tryz.ntmps113 (by simp) ?_
  (refine @unH _ (zA Ajh ?_); (repeat refine inC fun hc => ?_); try refine inK fun K hK => ?_)
  have hcall := hC.call L H _ p hP.cl rfl (by rw [show p = _ from hpp]; have := hA [] (by simp [Axv]); simpa using this)
  refine Ajz.use hcall ?_
  clear hcall
  rintro _ H2 ⟨t, rfl, hT, hk2⟩
  obtain rfl : t = true := hT1 _ _ _ hT
  have hP2 : Drs S T (.func yf yi yc) yb tb gb thisb ds (L ++ [p]) pre H2 := ⟨hT, hk2 _ _ hP.ny vy, hk2 _ _ hP.ng hP.vg, ⟨p, hk2 _ _ hP.nt vt, hp6, hp1, hp2⟩, hP.ny, hP.ng, hP.nt⟩
  clear vy vt vth vh hex hil dd
  replace hk2 : Aqk _ := hk2
  ((try refine @unH _ (zX Ajh ?_)); (try (refine hK _ _ ?_; clear hK K; try refine @unH _ (zQ ?_))); refine @unH _ (zA Ajh ?_); (repeat refine inC fun hc => ?_); try refine inK fun K hK => ?_)
  (refine @unH _ ?_; refine z9 Tryz.results113 ?_)
  refine ⟨trivial, ?_, fun b x h1 _ hx => (show ∀ b x, ¬ S b -> H b = some x -> H2 b = some x from hk2) b x h1 hx⟩
  rw [show p = _ from hpp] at hP2
  simpa [Axv] using hP2
 | succ n ih =>
  intro k hk pre hpre L H hP hA
  obtain ⟨p, vt, hp6, hp1, hp2⟩ := hP.vt
  obtain ⟨hb, mb, q, q', vth, vh, dd⟩ := hthis _ _ hP.cl
  have hlt : k < ds.length := by omega
  obtain ⟨db, o, p', cd, fr, rfl, hdb, hcs, hce⟩ := dd.get (List.getElem?_eq_getElem hlt)
  have hdr : ds.drop k = ds[k] :: ds.drop (k + 1) := List.drop_eq_getElem_cons hlt
  generalize ds[k] = d at *
  have hce2 : cd.extract (o + k * 4 + 2) (o + k * 4 + 4) = #[.int .i64 d.mn, .int .i64 d.mx] := by
   have h : (cd.extract (o + k * 4) (o + k * 4 + 4)).extract 2 4 = #[.int .i64 d.mn, .int .i64 d.mx] := by rw [hce]; rfl
   rw [Array.extract_extract] at h
   rw [<- h]
   congr 1
   omega
  have hcs2 : o + k * 4 + 4 <= cd.size := hcs
  simp only [hsO] at vh
  rw [hdr] at hA ⊢
  rw [<- Cvs]
  clear hdr hce hcs
  have hke : ((k : Int) == (ds.length : Int)) = false := by simp; omega
  have hA2 : ∀ i : Int, d.mn <= i -> i <= d.mx -> 0 <= i -> i < 5 -> ∀ u ∈ Axv (ds.drop (k + 1)), A (pad6 (pre ++ [i] ++ u)) := fun i h1 h2 h3 h4 u hu => by
   rw [List.append_assoc]
   refine hA _ ?_
   unfold Axv
   rw [List.mem_flatMap]
   refine ⟨i, ?_, List.mem_map.2 ⟨u, hu, rfl⟩⟩
   unfold hrsF
   rw [List.mem_filter]
   exact ⟨List.mem_map.2 ⟨i.toNat, List.mem_range.2 (by omega), by omega⟩, by simp [h1, h2]⟩
  clear hA
  have hrec := fun (L : List (List Int)) (H : Hp) (i : Int) (hP : Drs S T (.func yf yi yc) yb tb gb thisb ds L (pre ++ [i]) H) h => ih (k + 1) (by omega) (pre ++ [i]) (by simp [hpre]) L H hP h
  clear ih
  generalize Axv (ds.drop (k + 1)) = R at *
  replace hp1 : Aqk _ := hp1
  replace hp2 : Aqk _ := hp2
  replace hp6 : Aqk _ := hp6
  replace hpre : Aqk _ := hpre
  refine Aqo Tryz.func113 rfl Tryz.ntmps113 (by simp) ?_
  (refine @unH _ (zA Ajh ?_); (repeat refine inC fun hc => ?_); try refine inK fun K hK => ?_)
  intro bb hbb
  have nSb : ¬ S bb := fun h => hC.ex _ _ _ _ hP.cl h hbb
  have ntb := Aqq vt hbb
  generalize hG : Hp.set H bb _ = H1
  have lH1 := Aqc hG hbb
  have vb := Aqb hG
  have hP1 : Drs S T (.func yf yi yc) yb tb gb thisb ds (L ++ Bxy d R pre 0) pre H1 := by
   rw [show Bxy d R pre 0 = [] from rfl, List.append_nil]
   exact ⟨hC.keep _ _ _ _ hP.cl fun b x _ hx => lH1 _ _ hx, lH1 _ _ hP.vy, lH1 _ _ hP.vg, ⟨p, lH1 _ _ vt, hp6, hp1, hp2⟩, hP.ny, hP.ng, hP.nt⟩
  have hnt := hP.nt
  clear hG vt vth vh dd hdb hce2 hcs2 hP hp1 hp2 hp6 hbb
  ((try refine @unH _ (zX Ajh ?_)); (try (refine hK _ _ ?_; clear hK K; try refine @unH _ (zQ ?_))); refine @unH _ (zA Ajh ?_); (repeat refine inC fun hc => ?_); try refine inK fun K hK => ?_)
  refine Axg (fun w a' H' => ∃ e, ∃ i : Nat, w = 5 - i /\ i <= 5 /\ a' = act 47 e [] /\ e 0 = .int .i64 k /\ e 3 = .pointer (some ⟨tb, 0, none⟩) /\ e 4 = .pointer (some ⟨gb, 0, none⟩) /\ e 7 = .pointer (some ⟨bb, 0, none⟩) /\ e 29 = .int .i64 (i : Nat) /\
   Drs S T (.func yf yi yc) yb tb gb thisb ds (L ++ Bxy d R pre i) pre H' /\ ∀ b x, ¬ S b -> b ≠ tb -> H1 b = some x -> H' b = some x) (n := 5) ?_ ?_
  ·exact ⟨_, 0, by omega, by omega, rfl, rfl, rfl, rfl, rfl, rfl, hP1, fun _ _ _ _ h => h⟩
  ·clear hP1
   rintro w a' H2 ⟨e, i, rfl, hi, rfl, e0, e3, e4, e7, e29, hP2, hfr⟩
   have vb2 := hfr _ _ nSb (Ne.symm ntb) vb
   by_cases hi5 : i < 5
   ·have hsu := Cjk d R pre i
    by_cases hin : d.mn <= (i : Int) /\ (i : Int) <= d.mx
    ·rw [if_pos hin] at hsu
     obtain ⟨p2, vt2, hq6, hq1, hq2⟩ := hP2.vt
     have vg2 := hP2.vg
     have ngt : gb ≠ tb := Azl vg2 vt2 (by decide)
     have hil : (ints p2).length = 6 := by rw [Aqz]; exact hq6
     have hk6 : k < 6 := by omega
     replace hsu : Aqk _ := hsu
     replace hq1 : Aqk _ := hq1
     replace hq2 : Aqk _ := hq2
     replace hq6 : Aqk _ := hq6
     replace hfr : Aqk _ := hfr
     (refine @unH _ (zA Ajh ?_); (repeat refine inC fun hc => ?_); try refine inK fun K hK => ?_)
     refine (Axj main H2 (i : Int) d.mn d.mx).runs.mono ?_
     rintro _ _ ⟨rfl, hQ⟩
     rw [hQ, show (decide ((i : Int) < d.mn) || decide (d.mx < (i : Int))) = false by simp; omega]
     clear hQ
     ((try refine @unH _ (zX (And.intro Ajh @Azg) ?_)); (try (refine hK _ _ ?_; clear hK K; try refine @unH _ (zQ ?_))); refine @unH _ (zA (And.intro Ajh @Azg) ?_); (repeat refine inC fun hc => ?_); try refine inK fun K hK => ?_)
     generalize hG : Hp.set H2 tb _ = H3
     have hfr3 : ∀ b x, b ≠ tb -> H2 b = some x -> H3 b = some x := fun b x hb hx => Aqi hG hx hb
     have hP3 : Drs S T (.func yf yi yc) yb tb gb thisb ds (L ++ Bxy d R pre i) (pre ++ [(i : Int)]) H3 := by
      refine ⟨hC.keep _ _ _ _ hP2.cl fun b x hb hx => hfr3 b x (fun e => hnt (by rw [<- e]; exact hb)) hx, hfr3 _ _ (Azl hP2.vy vt2 (by decide)) hP2.vy, hfr3 _ _ ngt hP2.vg, ⟨p2.set k (i : Int), Aqb hG, by rw [List.length_set]; exact hq6, ?_, ?_⟩, hP2.ny, hP2.ng, hP2.nt⟩
      ·rw [List.length_append, List.length_singleton, show pre.length = k from hpre, List.take_set, List.take_add_one, List.getElem?_eq_getElem (by rw [show p2.length = 6 from hq6]; omega)]
       have h1 : p2.take k = pre := by have := hq1; rw [show pre.length = k from hpre] at this; exact this
       have hpl : pre.length = k := hpre
       rw [h1, List.set_append_right _ _ (by omega), show k - pre.length = 0 by omega]
       rfl
      ·rw [List.drop_set_of_lt hlt]
       exact hq2
     have hr := hrec _ H3 (i : Int) hP3 (hA2 _ hin.1 hin.2 (by omega) (by omega))
     have vb3 := hfr3 _ _ (Ne.symm ntb) vb2
     replace hfr3 : Aqk _ := hfr3
     clear hG vg2 vt2 hP2 hP3 hrec hA2 vb2
     rw [Cx7, Akb]
     simp only [Array.empty_append, List.append_toArray, List.cons_append, List.nil_append]
     refine hr.runs.mono ?_
     clear hr
     rintro _ H4 ⟨rfl, hP4, hfr4⟩
     replace hfr4 : Aqk _ := hfr4
     ((try refine @unH _ (zX Ajh ?_)); (try (refine hK _ _ ?_; clear hK K; try refine @unH _ (zQ ?_))); refine @unH _ (zA Ajh ?_); (repeat refine inC fun hc => ?_); try refine inK fun K hK => ?_)
     refine ⟨_, by omega, _, i + 1, rfl, by omega, rfl, e0, e3, e4, e7, rfl, ?_, fun b x h1 h2 hx => (show ∀ b x, ¬ S b -> b ≠ tb -> H3 b = some x -> H4 b = some x from hfr4) b x h1 h2 ((show ∀ b x, b ≠ tb -> H2 b = some x -> H3 b = some x from hfr3) b x h2 ((show ∀ b x, ¬ S b -> b ≠ tb -> H1 b = some x -> H2 b = some x from hfr) b x h1 h2 hx))⟩
     rw [show Bxy d R pre (i + 1) = _ from hsu, <- List.append_assoc]
     obtain ⟨p4, vt4, h6, h1, h2⟩ := hP4.vt
     refine ⟨hP4.cl, hP4.vy, hP4.vg, ⟨p4, vt4, h6, ?_, h2⟩, hP4.ny, hP4.ng, hP4.nt⟩
     rw [List.length_append, List.length_singleton] at h1
     have h3 := congrArg (List.take pre.length) h1
     rw [List.take_take, Nat.min_eq_left (by omega), List.take_append_of_le_length (Nat.le_refl _), List.take_length] at h3
     exact h3
    ·rw [if_neg hin, List.append_nil] at hsu
     replace hsu : Aqk _ := hsu
     replace hfr : Aqk _ := hfr
     (refine @unH _ (zA Ajh ?_); (repeat refine inC fun hc => ?_); try refine inK fun K hK => ?_)
     refine (Axj main H2 (i : Int) d.mn d.mx).runs.mono ?_
     rintro _ _ ⟨rfl, hQ⟩
     rw [hQ, show (decide ((i : Int) < d.mn) || decide (d.mx < (i : Int))) = true by simp; omega]
     clear hQ
     ((try refine @unH _ (zX Ajh ?_)); (try (refine hK _ _ ?_; clear hK K; try refine @unH _ (zQ ?_))); refine @unH _ (zA Ajh ?_); (repeat refine inC fun hc => ?_); try refine inK fun K hK => ?_)
     exact ⟨_, by omega, _, i + 1, rfl, by omega, rfl, e0, e3, e4, e7, rfl, by rw [show Bxy d R pre (i + 1) = Bxy d R pre i from hsu]; exact hP2, hfr⟩
   ·obtain rfl : i = 5 := by omega
    replace hfr : Aqk _ := hfr
    (refine @unH _ (zA Ajh ?_); (repeat refine inC fun hc => ?_); try refine inK fun K hK => ?_)
    (refine @unH _ ?_; refine z9 Tryz.results113 ?_)
    exact ⟨trivial, hP2, fun b x h1 h2 hx => (show ∀ b x, ¬ S b -> b ≠ tb -> H1 b = some x -> H2 b = some x from hfr) b x h1 h2 (lH1 _ _ hx)⟩
theorem Cqn (main : Md) {S : Nat -> Prop} {A : List Int -> Prop} {T : Bool -> List (List Int) -> Hp -> Prop} {yf : Fn} {yi yc : Array Value} {thisb : Nat} {pl : Int} {da : Option Addr} {dc : Nat} {hv nv : Value} {ds : List Dr}
  (hC : Ckx Tryz.prog main (.func yf yi yc) S (fun H v xs => v = .agg (ints xs).toArray) A T) (hT1 : ∀ t L H, T t L H -> t = true)
  (hthis : ∀ L H, T true L H -> ∃ hb mb q q', H thisb = some (q', .cells #[.pointer (some ⟨hb, 0, none⟩)] 115 (0, 0)) /\ H hb = some (q, hsO pl (.slice da ds.length dc) hv nv mb) /\ SlD H (.slice da ds.length dc) ds)
  (hl6 : ds.length <= 6) (H : Hp) (hT : T true [] H) (hA : ∀ u ∈ Axv ds, A (pad6 u)) :
  FnX Tryz.prog main 112 #[.func yf yi yc, .pointer (some ⟨thisb, 0, none⟩)] H fun e H' => e = .returned (.tuple #[]) /\ T true ((Axv ds).map pad6) H' /\ ∀ b x, ¬ S b -> H b = some x -> H' b = some x := by
 refine Aqo Tryz.func112 rfl Tryz.ntmps112 (by simp) ?_
 (refine @unH _ (zA (And.intro Ak1 (And.intro @cells_func @Azo)) ?_); (repeat refine inC fun hc => ?_); try refine inK fun K hK => ?_)
 (intro yb hyb; generalize hG : Hp.set _ yb _ = H1; have lH1 := Aqc hG hyb; have vyb := Aqb hG; clear hG)
 have ny : ¬ S yb := fun h => hC.ex _ _ _ _ hT h hyb
 have hT0 := hC.keep _ _ _ _ hT fun b x _ hx => lH1 _ _ hx
 have l1 := lH1
 clear hyb lH1 hT
 ((try refine @unH _ (zX (And.intro Ak1 (And.intro @cells_func @Azo)) ?_)); (try (refine hK _ _ ?_; clear hK K; try refine @unH _ (zQ ?_))); refine @unH _ (zA (And.intro Ak1 (And.intro @cells_func @Azo)) ?_); (repeat refine inC fun hc => ?_); try refine inK fun K hK => ?_)
 (intro tb htb; generalize hG : Hp.set _ tb _ = H2; have lH2 := Aqc hG htb; have vtb := Aqb hG; clear hG)
 have nt : ¬ S tb := fun h => hC.ex _ _ _ _ hT0 h htb
 have vyb2 := lH2 _ _ vyb
 replace hT0 := hC.keep _ _ _ _ hT0 fun b x _ hx => lH2 _ _ hx
 have h0tb := Hp.le_none l1 htb
 have l2 := Hp.le_trans l1 lH2
 clear htb lH2 vyb l1
 ((try refine @unH _ (zX (And.intro Ak1 (And.intro @cells_func @Azo)) ?_)); (try (refine hK _ _ ?_; clear hK K; try refine @unH _ (zQ ?_))); refine @unH _ (zA (And.intro Ak1 (And.intro @cells_func @Azo)) ?_); (repeat refine inC fun hc => ?_); try refine inK fun K hK => ?_)
 (intro gb hgb; generalize hG : Hp.set _ gb _ = H3; have lH3 := Aqc hG hgb; have vgb := Aqb hG; clear hG)
 have ng : ¬ S gb := fun h => hC.ex _ _ _ _ hT0 h hgb
 have vyb3 := lH3 _ _ vyb2
 have vtb3 := lH3 _ _ vtb
 replace hT0 := hC.keep _ _ _ _ hT0 fun b x _ hx => lH3 _ _ hx
 have h0gb := Hp.le_none l2 hgb
 have l3 := Hp.le_trans l2 lH3
 clear hgb lH3 vyb2 vtb l2
 ((try refine @unH _ (zX (And.intro Ak1 (And.intro @cells_func @Azo)) ?_)); (try (refine hK _ _ ?_; clear hK K; try refine @unH _ (zQ ?_))); refine @unH _ (zA (And.intro Ak1 (And.intro @cells_func @Azo)) ?_); (repeat refine inC fun hc => ?_); try refine inK fun K hK => ?_)
 generalize hG : Hp.set H3 gb _ = H4
 have hk4 : ∀ b x, b ≠ gb -> H3 b = some x -> H4 b = some x := fun b x hb hx => Aqi hG hx hb
 have vg4 := Aqb hG
 have vyb4 := hk4 _ _ (Azl vyb3 vgb (by decide)) vyb3
 have vtb4 := hk4 _ _ (Azl vtb3 vgb (by decide)) vtb3
 have hT4 := hC.keep _ _ _ H4 hT0 fun b x hb hx => hk4 b x (fun e => ng (by rw [<- e]; exact hb)) hx
 have hfr4 : Aqk (∀ b x, H b = some x -> H4 b = some x) := fun b x hx => hk4 b x (fun e => by rw [e, h0gb] at hx; cases hx) (l3 _ _ hx)
 have hz : List.drop ds.length [(0 : Int), 0, 0, 0, 0, 0] = List.replicate (6 - ds.length) 0 := by
  rcases (by omega : ds.length = 0 ∨ ds.length = 1 ∨ ds.length = 2 ∨ ds.length = 3 ∨ ds.length = 4 ∨ ds.length = 5 ∨ ds.length = 6) with h | h | h | h | h | h | h <;> rw [h] <;> rfl
 have hP : Drs S T (.func yf yi yc) yb tb gb thisb ds [] [] H4 := ⟨hT4, vyb4, vg4, ⟨[0, 0, 0, 0, 0, 0], vtb4, rfl, rfl, hz⟩, ny, ng, nt⟩
 have hg := Cju main hC hT1 hthis hl6 ds.length 0 (by omega) [] rfl [] H4 hP (by simpa using hA)
 clear hG vgb vyb3 vtb3 hT0 hT4 hz hP hk4 vyb4 vtb4
 ((try refine @unH _ (zX Ak1 ?_)); (try (refine hK _ _ ?_; clear hK K; try refine @unH _ (zQ ?_))); refine @unH _ (zA Ak1 ?_); (repeat refine inC fun hc => ?_); try refine inK fun K hK => ?_)
 rw [Cx7, Akb]
 simp only [Array.empty_append, List.append_toArray, List.cons_append, List.nil_append]
 refine hg.runs.mono ?_
 clear hg
 rintro _ H5 ⟨rfl, hP5, hfr5⟩
 have hT5 := hP5.cl
 rw [List.nil_append, List.drop_zero] at hT5
 replace hfr5 : Aqk _ := hfr5
 replace hT5 : Aqk _ := hT5
 clear hP5 vg4
 ((try refine @unH _ (zX Ak1 ?_)); (try (refine hK _ _ ?_; clear hK K; try refine @unH _ (zQ ?_))); refine @unH _ (zA Ak1 ?_); (repeat refine inC fun hc => ?_); try refine inK fun K hK => ?_)
 (refine @unH _ ?_; refine zD Tryz.results112 ?_)
 refine ⟨by trivial, hT5, fun b x hb hx => (show ∀ b x, ¬ S b -> b ≠ tb -> H4 b = some x -> H5 b = some x from hfr5) b x hb (fun e => by rw [e, h0tb] at hx; cases hx) ((show ∀ b x, H b = some x -> H4 b = some x from hfr4) b x hx)⟩
theorem Cjl (main : Md) (H : Hp) (hb : Nat) :
  FnX Tryz.prog main 98 #[.pointer (some ⟨hb, 0, none⟩)] H fun e H' => ∃ thisb, e = .returned (.func (.func 112) #[] #[.pointer (some ⟨thisb, 0, none⟩)]) /\ H' thisb = some (true, .cells #[.pointer (some ⟨hb, 0, none⟩)] 115 (0, 0)) /\ H.le H' /\ H thisb = none := by
 refine Aqo Tryz.func98 rfl Tryz.ntmps98 (by simp) ?_
 (refine @unH _ (zA trivial ?_); (repeat refine inC fun hc => ?_); try refine inK fun K hK => ?_)
 (intro thisb hthisb; generalize hG : Hp.set _ thisb _ = H1; have lH1 := Aqc hG hthisb; have vthisb := Aqb hG; clear hG)
 ((try refine @unH _ (zX trivial ?_)); (try (refine hK _ _ ?_; clear hK K; try refine @unH _ (zQ ?_))); refine @unH _ (zA trivial ?_); (repeat refine inC fun hc => ?_); try refine inK fun K hK => ?_)
 (refine @unH _ ?_; refine z9 Tryz.results98 ?_)
 exact ⟨thisb, rfl, vthisb, lH1, hthisb⟩
end Go.Proofs.YtnfnaehonkbknaaGreatDoor
end
section
namespace Go.X
open Go
section
variable {P : Program} {main : Md} {lp : Option Nat} {Q : Exit -> Act -> Hp -> Prop} {ops : Array Oper} {S : Hp -> Prop}
inductive PW where
 | nil
 | take (i : Nat) (p : PW)
 | free (i : Nat) (p : PW)
 | one (i : Nat) (p : PW)
 | two (i : Nat) (p : PW) (j : Nat) (q : PW)
 | three (i : Nat) (p : PW) (j : Nat) (q : PW) (k : Nat) (r : PW)
def PW.depth : PW -> Nat
 | .nil => 0
 | .take _ p => p.depth + 1
 | .free _ p => p.depth + 1
 | .one _ p => p.depth + 1
 | .two _ p _ q => max p.depth q.depth + 1
 | .three _ p _ q _ r => max p.depth (max q.depth r.depth) + 1
def Akd (P : Program) (main : Md) (lp : Option Nat) (ops : Array Oper) (Q : Exit -> Act -> Hp -> Prop) (S : Hp -> Prop) (ts : List Nat) : PW -> Act -> Hp -> Prop
 | .nil, a, H => Q .normal a H
 | .take i p, a, H => S H /\ ∃ o, ops[i]? = some o /\ ∃ v, Azc P main lp ops S o v a /\ Akd P main lp ops Q S ts p (a.put o.dst v) H
 | .free i p, a, H => ∃ o, ops[i]? = some o /\ ∃ v, Azc P main lp ops (fun _ => True) o v a /\ Akd P main lp ops Q S ts p (a.put o.dst v) H
 | .one i p, a, H => numX P main lp ops i Q (fun a' H' => (i ∈ ts ∨ (S H -> S H')) /\ Akd P main lp ops Q S ts p a' H') a H
 | .two i p j q, a, H => numX P main lp ops i Q (fun a' H' => (i ∈ ts ∨ (S H -> S H')) /\ Akd P main lp ops Q S ts p a' H') a H /\ numX P main lp ops j Q (fun a' H' => (j ∈ ts ∨ (S H -> S H')) /\ Akd P main lp ops Q S ts q a' H') a H
 | .three i p j q k r, a, H => numX P main lp ops i Q (fun a' H' => (i ∈ ts ∨ (S H -> S H')) /\ Akd P main lp ops Q S ts p a' H') a H /\ numX P main lp ops j Q (fun a' H' => (j ∈ ts ∨ (S H -> S H')) /\ Akd P main lp ops Q S ts q a' H') a H /\ numX P main lp ops k Q (fun a' H' => (k ∈ ts ∨ (S H -> S H')) /\ Akd P main lp ops Q S ts r a' H') a H
def Az3 (ops : Array Oper) (ts : List Nat) : PW -> Array Bool -> Bool
 | .nil, listed => (Region.ready .any ops listed).isEmpty
 | .take i p, listed => (ts.all fun t => i != t && (waitsFor ops t).getD i false) && Region.free .any ops listed i && (Region.ready .any ops listed).contains i && Az3 ops ts p (listed.setIfInBounds i true)
 | .free i p, listed => Region.free .any ops listed i && (Region.ready .any ops listed).contains i && Az3 ops ts p (listed.setIfInBounds i true)
 | .one i p, listed => (Region.ready .any ops listed == [i]) && Az3 ops ts p (listed.setIfInBounds i true)
 | .two i p j q, listed => (Region.ready .any ops listed == [i, j]) && Az3 ops ts p (listed.setIfInBounds i true) && Az3 ops ts q (listed.setIfInBounds j true)
 | .three i p j q k r, listed => (Region.ready .any ops listed == [i, j, k]) && Az3 ops ts p (listed.setIfInBounds i true) && Az3 ops ts q (listed.setIfInBounds j true) && Az3 ops ts r (listed.setIfInBounds k true)
theorem Azp {ts : List Nat} (hsel : Region.noSelect ops = true) (hQ : ∀ c a H d v, Q (.panic c) (a.put d v) H -> Q (.panic c) a H) :
  ∀ (plan : PW) (fuel : Nat) (listed : Array Bool) (a : Act) (H : Hp), plan.depth <= fuel -> Closed ops listed -> Az3 ops ts plan listed = true ->
   Akd P main lp ops Q S ts plan a H -> anyV P main lp ops Q S ts fuel listed a H
 | .nil, fuel, listed, a, H, _, _, hok, h => by
  have hr : Region.ready .any ops listed = [] := by simpa [Az3] using hok
  cases fuel with
  | zero => exact ⟨hr, h⟩
  | succ n => exact ⟨fun _ => h, by rw [hr]; simp⟩
 | .take i p, 0, _, _, _, hl, _, _, _ => by simp [PW.depth] at hl
 | .free i p, 0, _, _, _, hl, _, _, _ => by simp [PW.depth] at hl
 | .free i p, fuel + 1, listed, a, H, hl, hcl, hok, h => by
  simp only [Az3, Bool.and_eq_true] at hok
  obtain ⟨⟨hf, hr⟩, hok⟩ := hok
  obtain ⟨o, ho, v, hy, h⟩ := h
  have hr' : i ∈ Region.ready .any ops listed := by simpa using hr
  exact Bwd ho (Region.noSelect_spec hsel) (fun c a H => hQ c a H _ _) fuel listed a H hcl (Region.free_spec ho hf) hr' hy
   (Azp hsel hQ p fuel _ _ _ (by simp [PW.depth] at hl; omega) (hcl.set hr') hok h)
 | .one i p, 0, _, _, _, hl, _, _, _ => by simp [PW.depth] at hl
 | .two i p j q, 0, _, _, _, hl, _, _, _ => by simp [PW.depth] at hl
 | .three i p j q k r, 0, _, _, _, hl, _, _, _ => by simp [PW.depth] at hl
 | .take i p, fuel + 1, listed, a, H, hl, hcl, hok, h => by
  simp only [Az3, Bool.and_eq_true] at hok
  obtain ⟨⟨⟨hd, hf⟩, hr⟩, hok⟩ := hok
  obtain ⟨hS, o, ho, v, hy, h⟩ := h
  have hr' : i ∈ Region.ready .any ops listed := by simpa using hr
  refine Bj3 ho (Region.noSelect_spec hsel) (fun t ht hlt => ?_) (fun c a H => hQ c a H _ _) fuel listed a H hcl (Region.free_spec ho hf) hr' hy hS
   (Azp hsel hQ p fuel _ _ _ (by simp [PW.depth] at hl; omega) (hcl.set hr') hok h)
  have := List.all_eq_true.1 hd t ht
  simp only [Bool.and_eq_true, bne_iff_ne, ne_eq] at this
  exact (Bxv this.2).resolve_left this.1
 | .one i p, fuel + 1, listed, a, H, hl, hcl, hok, h => by
  simp only [Az3, Bool.and_eq_true, beq_iff_eq] at hok
  obtain ⟨hr, hok⟩ := hok
  refine ⟨fun h0 => (by rw [hr] at h0; cases h0), fun j hj => ?_⟩
  have hji : j = i := by rw [hr] at hj; simpa using hj
  subst hji
  exact Axy (fun a' H' h' => ⟨h'.1, Azp hsel hQ p fuel _ _ _ (by simp [PW.depth] at hl; omega) (hcl.set hj) hok h'.2⟩) h
 | .two i p j q, fuel + 1, listed, a, H, hl, hcl, hok, h => by
  simp only [Az3, Bool.and_eq_true, beq_iff_eq] at hok
  obtain ⟨⟨hr, hok1⟩, hok2⟩ := hok
  refine ⟨fun h0 => (by rw [hr] at h0; cases h0), fun k hk => ?_⟩
  have hkk : k = i ∨ k = j := by rw [hr] at hk; simpa using hk
  rcases hkk with rfl | rfl
  ·exact Axy (fun a' H' h' => ⟨h'.1, Azp hsel hQ p fuel _ _ _ (by simp [PW.depth] at hl; omega) (hcl.set hk) hok1 h'.2⟩) h.1
  ·exact Axy (fun a' H' h' => ⟨h'.1, Azp hsel hQ q fuel _ _ _ (by simp [PW.depth] at hl; omega) (hcl.set hk) hok2 h'.2⟩) h.2
 | .three i p j q k r, fuel + 1, listed, a, H, hl, hcl, hok, h => by
  simp only [Az3, Bool.and_eq_true, beq_iff_eq] at hok
  obtain ⟨⟨⟨hr, hok1⟩, hok2⟩, hok3⟩ := hok
  refine ⟨fun h0 => (by rw [hr] at h0; cases h0), fun x hk => ?_⟩
  have hkk : x = i ∨ x = j ∨ x = k := by rw [hr] at hk; simpa using hk
  rcases hkk with rfl | rfl | rfl
  ·exact Axy (fun a' H' h' => ⟨h'.1, Azp hsel hQ p fuel _ _ _ (by simp [PW.depth] at hl; omega) (hcl.set hk) hok1 h'.2⟩) h.1
  ·exact Axy (fun a' H' h' => ⟨h'.1, Azp hsel hQ q fuel _ _ _ (by simp [PW.depth] at hl; omega) (hcl.set hk) hok2 h'.2⟩) h.2.1
  ·exact Axy (fun a' H' h' => ⟨h'.1, Azp hsel hQ r fuel _ _ _ (by simp [PW.depth] at hl; omega) (hcl.set hk) hok3 h'.2⟩) h.2.2
theorem Cyn {id : Nat} {a : Act} {H : Hp} (S : Hp -> Prop) (ts : List Nat) (plan : PW) (hm : P.follows .mixedOrders = true) (hsel : Region.noSelect ops = true) (hlen : plan.depth <= ops.size)
  (hok : Az3 ops ts plan (Array.replicate ops.size false) = true)
  (hQ : ∀ c a H d v, Q (.panic c) (a.put d v) H -> Q (.panic c) a H) (h : Akd P main lp ops Q S ts plan a H) : wpX P main lp (.region id ops true) Q a H :=
 Bv1 (fun _ => True) hm (Awd _ _ _ _ (Azp hsel hQ plan _ _ _ _ hlen .start hok h))
theorem Cyo {id : Nat} {ops : Array Oper} {y : Code} {a : Act} {H : Hp} (S : Hp -> Prop) (ts : List Nat) (plan : PW) (hm : P.follows .mixedOrders = true) (hsel : Region.noSelect ops = true) (hlen : plan.depth <= ops.size)
  (hok : Az3 ops ts plan (Array.replicate ops.size false) = true)
  (h : ∀ K : Act -> Hp -> Prop, (∀ a' H', wpX P main lp y Q a' H' -> K a' H') -> Akd P main lp ops (only K) S ts plan a H) :
  wpX P main lp (.seq (.region id ops true) y) Q a H := by
 refine Axs ?_
 refine Az7 (Q := only fun a' H' => wpX P main lp y Q a' H') (Cyn S ts plan hm hsel hlen hok (fun c a H d v h => h) (h _ fun _ _ h => h)) fun e a H q => ?_
 cases e <;> first | exact q | exact q.elim
theorem Bkl {S : Hp -> Prop} {ts : List Nat} {a : Act} {H : Hp} {i : Nat} {ops : List Oper} {o : Oper} {p : PW} {v : Value} (ho : ops[i]? = some o) (hw : Region.wanted o (yielded ops.toArray a.tmps) = true) (hf : fine lp o = true)
  (hS : S H) (h : ∀ H', S H' -> wpS P (execOp a.eval o) H' (YN P main v H') fun _ _ => False) (hk : Akd P main lp ops.toArray Q S ts p (a.put o.dst v) H) : Akd P main lp ops.toArray Q S ts (.take i p) a H :=
 ⟨hS, o, by simpa using ho, v, .inl ⟨hw, hf, h⟩, hk⟩
theorem Axz {S : Hp -> Prop} {ts : List Nat} {a : Act} {H : Hp} {i : Nat} {ops : Array Oper} {p : PW} (h : numX P main lp ops i Q (fun a' H' => (i ∈ ts ∨ (S H -> S H')) /\ Akd P main lp ops Q S ts p a' H') a H) : Akd P main lp ops Q S ts (.one i p) a H := h
theorem Avl {S : Hp -> Prop} {ts : List Nat} {a : Act} {H : Hp} {ops : Array Oper} (h : Q .normal a H) : Akd P main lp ops Q S ts .nil a H := h
@[congr] theorem planW_congr {S : Hp -> Prop} {ts : List Nat} {ops : Array Oper} {p : PW} {a a' : Act} {H H' : Hp} (ha : a = a') (hH : H = H') : Akd P main lp ops Q S ts p a H = Akd P main lp ops Q S ts p a' H' := by subst ha hH; rfl
theorem Bz2 {S : Hp -> Prop} {ts : List Nat} {a : Act} {H : Hp} {i j : Nat} {ops : Array Oper} {p q : PW} (h : numX P main lp ops i Q (fun a' H' => (i ∈ ts ∨ (S H -> S H')) /\ Akd P main lp ops Q S ts p a' H') a H)
 (h' : numX P main lp ops j Q (fun a' H' => (j ∈ ts ∨ (S H -> S H')) /\ Akd P main lp ops Q S ts q a' H') a H) : Akd P main lp ops Q S ts (.two i p j q) a H := ⟨h, h'⟩
theorem Cq4 {S : Hp -> Prop} {ts : List Nat} {a : Act} {H : Hp} {i j k : Nat} {ops : Array Oper} {p q r : PW} (h1 : numX P main lp ops i Q (fun a' H' => (i ∈ ts ∨ (S H -> S H')) /\ Akd P main lp ops Q S ts p a' H') a H) (h2 : numX P main lp ops j Q (fun a' H' => (j ∈ ts ∨ (S H -> S H')) /\ Akd P main lp ops Q S ts q a' H') a H) (h3 : numX P main lp ops k Q (fun a' H' => (k ∈ ts ∨ (S H -> S H')) /\ Akd P main lp ops Q S ts r a' H') a H) : Akd P main lp ops Q S ts (.three i p j q k r) a H := ⟨h1, h2, h3⟩
end
end Go.X
end
section
namespace Go.X
open Go
theorem Ayr {α : Type} (f : α -> List Value) (n : Nat) (hn : 0 < n) : ∀ (L : List α), (∀ x ∈ L, (f x).length = n) -> ∀ j : Nat, (L.flatMap f)[j]? = (L[j / n]?).bind fun x => (f x)[j % n]?
 | [], _, j => by simp
 | x :: L, h, j => by
  rw [List.flatMap_cons]
  have hx := h x List.mem_cons_self
  by_cases hj : j < n
  ·rw [List.getElem?_append_left (by omega), Nat.div_eq_of_lt hj, Nat.mod_eq_of_lt hj]
   rfl
  ·rw [List.getElem?_append_right (by omega), hx, Ayr f n hn L (fun y hy => h y (List.mem_cons_of_mem _ hy))]
   have h1 : j / n = (j - n) / n + 1 := by
    rw [Nat.div_eq_sub_div hn (by omega)]
   have h2 : j % n = (j - n) % n := by
    rw [Nat.mod_eq_sub_mod (by omega)]
   rw [h1, h2, List.getElem?_cons_succ]
theorem Avt {α : Type} (f : α -> List Value) (n : Nat) : ∀ (L : List α), (∀ x ∈ L, (f x).length = n) -> (L.flatMap f).length = L.length * n
 | [], _ => by simp
 | x :: L, h => by
  rw [List.flatMap_cons, List.length_append, h x List.mem_cons_self, Avt f n L (fun y hy => h y (List.mem_cons_of_mem _ hy)), List.length_cons, Nat.succ_mul, Nat.add_comm]
end Go.X
namespace Go.Proofs.YtnfnaehonkbknaaGreatDoor
open Go Go.X
def bdC (b : Bd) : List Value := [.int .i64 b.lo, .int .i64 b.hi, .bool b.some]
def Axx (x : Hint) : List Value := x.bs.flatMap bdC ++ (ints x.first ++ [.bool x.some])
def Axc (t : Trail) : List Value := .int .i64 t.ham :: t.hs.flatMap Axx
structure Axp (x : Hint) : Prop where
 b : x.bs.length = 6
 f : x.first.length = 6
structure Ax5 (t : Trail) : Prop where
 l : t.hs.length = 13
 k : ∀ x ∈ t.hs, Axp x
theorem Ax1 {x : Hint} (h : Axp x) : (Axx x).length = 25 := by
 unfold Axx
 rw [List.length_append, List.length_append, Avt bdC 3 _ (fun _ _ => rfl), Aqz, h.b, h.f]
 rfl
theorem Axt {t : Trail} (h : Ax5 t) : (Axc t).length = 326 := by
 unfold Axc
 rw [List.length_cons, Avt Axx 25 _ (fun x hx => Ax1 (h.k x hx)), h.l]
theorem Bzw (x : Hint) : ∀ v ∈ Axx x, one v = true := by
 intro v hv
 unfold Axx at hv
 rw [List.mem_append, List.mem_append] at hv
 rcases hv with hv | hv | hv
 ·obtain ⟨b, _, hb⟩ := List.mem_flatMap.1 hv
  simp only [bdC, List.mem_cons, List.not_mem_nil, or_false] at hb
  rcases hb with rfl | rfl | rfl <;> rfl
 ·exact Bx8 _ v hv
 ·simp only [List.mem_singleton] at hv
  subst hv; rfl
theorem Bxi (t : Trail) : ∀ v ∈ Axc t, one v = true := by
 intro v hv
 unfold Axc at hv
 rcases List.mem_cons.1 hv with rfl | hv
 ·rfl
 ·obtain ⟨x, _, hx⟩ := List.mem_flatMap.1 hv
  exact Bzw x v hx
theorem Aw1 {x : Hint} (h : Axp x) : ∃ b0 b1 b2 b3 b4 b5 f0 f1 f2 f3 f4 f5 s, x = ⟨[b0, b1, b2, b3, b4, b5], [f0, f1, f2, f3, f4, f5], s⟩ := by
 obtain ⟨bs, fs, s⟩ := x
 obtain ⟨hb, hf⟩ := h
 simp only at hb hf
 match bs, hb with
 | [b0, b1, b2, b3, b4, b5], _ =>
  match fs, hf with
  | [f0, f1, f2, f3, f4, f5], _ => exact ⟨b0, b1, b2, b3, b4, b5, f0, f1, f2, f3, f4, f5, s, rfl⟩
theorem Czl {x : Hint} (h : Axp x) : (Axx x)[24]? = some (.bool x.some) := by
 obtain ⟨b0, b1, b2, b3, b4, b5, f0, f1, f2, f3, f4, f5, s, rfl⟩ := Aw1 h
 rfl
theorem Bqn {x : Hint} (h : Axp x) {p : Nat} {b : Bd} (hb : x.bs[p]? = some b) : (Axx x)[p * 3]? = some (.int .i64 b.lo) /\ (Axx x)[p * 3 + 1]? = some (.int .i64 b.hi) /\ (Axx x)[p * 3 + 2]? = some (.bool b.some) := by
 have hp : p < 6 := by have := (List.getElem?_eq_some_iff.1 hb).1; rw [h.b] at this; exact this
 obtain ⟨b0, b1, b2, b3, b4, b5, f0, f1, f2, f3, f4, f5, s, rfl⟩ := Aw1 h
 rcases (by omega : p = 0 ∨ p = 1 ∨ p = 2 ∨ p = 3 ∨ p = 4 ∨ p = 5) with rfl | rfl | rfl | rfl | rfl | rfl <;> (cases hb; exact ⟨rfl, rfl, rfl⟩)
theorem Cwd {x : Hint} (h : Axp x) {p : Nat} (hp : p < 6) (b : Bd) : Axx ⟨x.bs.set p b, x.first, x.some⟩ = (((Axx x).set (p * 3) (.int .i64 b.lo)).set (p * 3 + 1) (.int .i64 b.hi)).set (p * 3 + 2) (.bool b.some) := by
 obtain ⟨b0, b1, b2, b3, b4, b5, f0, f1, f2, f3, f4, f5, s, rfl⟩ := Aw1 h
 rcases (by omega : p = 0 ∨ p = 1 ∨ p = 2 ∨ p = 3 ∨ p = 4 ∨ p = 5) with rfl | rfl | rfl | rfl | rfl | rfl <;> rfl
theorem Cqt {x : Hint} (h : Axp x) {d : List Int} (hd : d.length = 6) (s : Bool) (k : Nat) : (Axx ⟨x.bs, d, s⟩)[k]? = if k < 18 then (Axx x)[k]? else if k < 24 then (ints d)[k - 18]? else if k = 24 then some (.bool s) else none := by
 have hl : (x.bs.flatMap bdC).length = 18 := by rw [Avt bdC 3 _ (fun _ _ => rfl), h.b]
 unfold Axx
 simp only
 by_cases h1 : k < 18
 ·rw [if_pos h1, List.getElem?_append_left (by omega), List.getElem?_append_left (by omega)]
 ·rw [if_neg h1, List.getElem?_append_right (by omega), hl]
  by_cases h2 : k < 24
  ·rw [if_pos h2, List.getElem?_append_left (by rw [Aqz]; omega)]
  ·rw [if_neg h2, List.getElem?_append_right (by rw [Aqz]; omega), Aqz, hd]
   by_cases h3 : k = 24
   ·subst h3; rfl
   ·rw [if_neg h3, List.getElem?_eq_none (by simp; omega)]
structure HR (c c0 : Array Value) (o : Nat) (x : Hint) : Prop where
 size : c.size = c0.size
 out : ∀ i, i < o ∨ o + 25 <= i -> c[i]? = c0[i]?
 inn : ∀ k, k < 25 -> c[o + k]? = (Axx x)[k]?
theorem HR.bd {c c0 : Array Value} {o : Nat} {x : Hint} (h : HR c c0 o x) (hx : Axp x) {p : Nat} {b : Bd} (hb : x.bs[p]? = some b) : BdC c (o + p * 3) b := by
 have hp : p < 6 := by have := (List.getElem?_eq_some_iff.1 hb).1; rw [hx.b] at this; exact this
 obtain ⟨h1, h2, h3⟩ := Bqn hx hb
 refine ⟨?_, ?_, ?_⟩
 ·rw [h.inn _ (by omega), h1]
 ·rw [Nat.add_assoc, h.inn _ (by omega), h2]
 ·rw [Nat.add_assoc, h.inn _ (by omega), h3]
theorem HR.sm {c c0 : Array Value} {o : Nat} {x : Hint} (h : HR c c0 o x) (hx : Axp x) : c[o + 24]? = some (.bool x.some) := by
 rw [h.inn 24 (by omega), Czl hx]
theorem HR.add {c c0 : Array Value} {o : Nat} {x : Hint} (h : HR c c0 o x) (hx : Axp x) (hs : o + 25 <= c0.size) {p : Nat} (hp : p < 6) (b : Bd) : HR (Bjt c (o + p * 3) b) c0 o ⟨x.bs.set p b, x.first, x.some⟩ := by
 have hsz : o + p * 3 + 2 < c.size := by rw [h.size]; omega
 refine ⟨by rw [Cjb]; exact h.size, fun i hi => ?_, fun k hk => ?_⟩
 ·rw [Bqg hsz, if_neg (by omega), if_neg (by omega), if_neg (by omega)]
  exact h.out i hi
 ·have hl := Ax1 hx
  rw [Bqg hsz, Cwd hx hp, h.inn k hk]
  simp only [List.getElem?_set, List.length_set, hl]
  by_cases e2 : k = p * 3 + 2
  ·rw [if_neg (by omega), if_neg (by omega), if_pos (by omega), if_pos e2.symm, if_pos (by omega)]
  ·rw [if_neg (Ne.symm e2)]
   by_cases e1 : k = p * 3 + 1
   ·rw [if_neg (by omega), if_pos (by omega), if_pos e1.symm, if_pos (by omega)]
   ·rw [if_neg (Ne.symm e1)]
    by_cases e0 : k = p * 3
    ·rw [if_pos (by omega), if_pos e0.symm, if_pos (by omega)]
    ·rw [if_neg (by omega), if_neg (by omega), if_neg (by omega), if_neg (Ne.symm e0)]
theorem HR.set1 {c c0 : Array Value} {o : Nat} {x : Hint} (h : HR c c0 o x) (hx : Axp x) (hs : o + 25 <= c0.size) {d : List Int} (hd : d.length = 6) : HR (over (c.setIfInBounds (o + 24) (.bool true)) (o + 18) (ints d)) c0 o ⟨x.bs, d, true⟩ := by
 have hsz : (c.setIfInBounds (o + 24) (.bool true)).size = c0.size := by rw [Array.size_setIfInBounds, h.size]
 refine ⟨by rw [Azu]; exact hsz, fun i hi => ?_, fun k hk => ?_⟩
 ·by_cases hi2 : i < c0.size
  ·rw [Aj6 i (by rw [hsz]; exact hi2), if_neg (by rw [Aqz, hd]; omega), Array.getElem?_setIfInBounds, if_neg (by omega)]
   exact h.out i hi
  ·rw [Array.getElem?_eq_none (by rw [Azu, hsz]; omega), Array.getElem?_eq_none (by omega)]
 ·rw [Aj6 (o + k) (by rw [hsz]; omega), Cqt hx hd, Aqz, hd]
  by_cases h1 : k < 18
  ·rw [if_neg (by omega), if_pos h1, Array.getElem?_setIfInBounds, if_neg (by omega), h.inn k hk]
  ·rw [if_neg h1]
   by_cases h2 : k < 24
   ·rw [if_pos (by omega), if_pos h2, show o + k - (o + 18) = k - 18 by omega]
    simp [List.getD, List.getElem?_eq_getElem (show k - 18 < (ints d).length by rw [Aqz]; omega)]
   ·obtain rfl : k = 24 := by omega
    rw [if_neg (by omega), if_neg h2, if_pos rfl, Array.getElem?_setIfInBounds, if_pos rfl, if_pos (by rw [h.size]; omega)]
theorem HR.refl {t : Trail} (ht : Ax5 t) {h : Nat} {x : Hint} (hx : t.hs[h]? = some x) : HR (Axc t).toArray (Axc t).toArray (1 + h * 25) x := by
 refine ⟨rfl, fun _ _ => rfl, fun k hk => ?_⟩
 simp only [List.getElem?_toArray]
 unfold Axc
 rw [show 1 + h * 25 + k = (h * 25 + k) + 1 by omega, List.getElem?_cons_succ, Ayr Axx 25 (by omega) _ (fun x hx => Ax1 (ht.k x hx)), show (h * 25 + k) / 25 = h by omega, show (h * 25 + k) % 25 = k by omega, hx]
 rfl
theorem HR.done {t : Trail} (ht : Ax5 t) {h : Nat} (hh : h < 13) {x : Hint} (hxo : Axp x) {c : Array Value} (hc : HR c (Axc t).toArray (1 + h * 25) x) : c = (Axc ⟨t.ham, t.hs.set h x⟩).toArray := by
 have hl := Axt ht
 have ht2 : Ax5 ⟨t.ham, t.hs.set h x⟩ := ⟨by simp [ht.l], fun y hy => by
  rcases List.mem_or_eq_of_mem_set hy with h | h
  ·exact ht.k y h
  ·subst h; exact hxo⟩
 apply Array.ext_getElem?
 intro i
 by_cases hi : 1 + h * 25 <= i /\ i < 1 + h * 25 + 25
 ·have h1 := hc.inn (i - (1 + h * 25)) (by omega)
  rw [show 1 + h * 25 + (i - (1 + h * 25)) = i by omega] at h1
  rw [h1]
  simp only [List.getElem?_toArray]
  unfold Axc
  rw [show i = (h * 25 + (i - (1 + h * 25))) + 1 by omega, List.getElem?_cons_succ, Ayr Axx 25 (by omega) _ (fun x hx => Ax1 (ht2.k x hx)), show (h * 25 + (i - (1 + h * 25))) / 25 = h by omega, show (h * 25 + (i - (1 + h * 25))) % 25 = i - (1 + h * 25) by omega]
  simp only [List.getElem?_set_self (show h < t.hs.length by rw [ht.l]; exact hh)]
  rw [show h * 25 + (i - (1 + h * 25)) + 1 - (1 + h * 25) = i - (1 + h * 25) by omega]
  rfl
 ·rw [hc.out i (by omega)]
  simp only [List.getElem?_toArray]
  unfold Axc
  cases i with
  | zero => rfl
  | succ i =>
   rw [List.getElem?_cons_succ, List.getElem?_cons_succ, Ayr Axx 25 (by omega) _ (fun x hx => Ax1 (ht.k x hx)), Ayr Axx 25 (by omega) _ (fun x hx => Ax1 (ht2.k x hx))]
   rw [List.getElem?_set_ne (by omega)]
theorem Byr {t : Trail} (h : Ax5 t) : (Axc t).toArray.extract 0 326 = (Axc t).toArray := by
 rw [List.extract_toArray, List.extract_eq_take_drop, List.drop_zero, List.take_of_length_le (by rw [Axt h]; omega)]
theorem Ay3 {H : Hp} {b : Nat} {t : Trail} {c : Array Value} {e : TypeId} {K : Hp -> Prop} (ht : Ax5 t) (hb : H b = some (true, .cells c e (0, 0))) (hs : c.size = 326) : Akw H b 0 (Axc t) K = K (H.set b (.cells (Axc t).toArray e (0, 0))) := by
 have hl := Axt ht
 rw [Akk (c := c) (e := e) (by intro h; rw [h] at hl; simp at hl) hb]
 have ho : over c 0 (Axc t) = (Axc t).toArray := by
  obtain ⟨l⟩ := c
  exact Bqt (by simp at hs; omega)
 rw [ho]
 have h3 : (Axc t).all one = true := by rw [List.all_eq_true]; exact Bxi t
 rw [h3]
 simp [hl, hs]
end Go.Proofs.YtnfnaehonkbknaaGreatDoor
end
section
namespace Go.Proofs.YtnfnaehonkbknaaGreatDoor
open Go Go.X
theorem Czk : Axp Bw0 := ⟨rfl, rfl⟩
theorem Bq7 {pl b : Int} {x : Hint} {tc : List Int × List Int} (h : Axp x) (ht : tc.1.length = 6) : Axp (Azd pl b x tc) := by
 refine ⟨by simp [Azd, h.b], ?_⟩
 unfold Azd
 simp only
 split
 ·exact h.f
 ·exact ht
theorem Bzx {pl b : Int} : ∀ (L : List (List Int × List Int)) (x : Hint), Axp x -> (∀ tc ∈ L, tc.1.length = 6) -> Axp (L.foldl (Azd pl b) x)
 | [], _, h, _ => h
 | tc :: L, x, h, ht => Bzx L _ (Bq7 h (ht tc List.mem_cons_self)) fun y hy => ht y (List.mem_cons_of_mem _ hy)
theorem Dq3 {s : Sm} {L : List (List Int × List Int)} {b : Int} (h : ∀ tc ∈ L, tc.1.length = 6) : Axp (Ays s L b) := Bzx _ _ Czk fun tc htc => h tc (List.mem_filter.1 htc).1
theorem Cvd {s : Sm} {L : List (List Int × List Int)} (h : ∀ tc ∈ L, tc.1.length = 6) (ham : Int) : Ax5 ⟨ham, byL s L⟩ := by
 refine ⟨by simp [byL], fun x hx => ?_⟩
 simp only [byL, List.mem_map] at hx
 obtain ⟨b, _, rfl⟩ := hx
 exact Dq3 h
def Az2 (pl : Int) (tc : List Int × List Int) (lo b : Int) (hs : List Hint) : List Hint := hs.mapIdx fun i x => if lo <= (i : Int) /\ (i : Int) < b then Azd pl i x tc else x
theorem Bkg (pl : Int) (tc : List Int × List Int) (lo b : Int) (hs : List Hint) : (Az2 pl tc lo b hs).length = hs.length := by simp [Az2]
theorem Bkf {pl : Int} {tc : List Int × List Int} {lo b : Int} {hs : List Hint} {i : Nat} {x : Hint} (h : hs[i]? = some x) : (Az2 pl tc lo b hs)[i]? = some (if lo <= (i : Int) /\ (i : Int) < b then Azd pl i x tc else x) := by simp [Az2, h]
theorem Ayt (pl : Int) (tc : List Int × List Int) {lo b : Int} (h : b <= lo) (hs : List Hint) : Az2 pl tc lo b hs = hs := by
 apply List.ext_getElem?
 intro i
 unfold Az2
 rw [List.getElem?_mapIdx]
 cases hs[i]? with
 | none => rfl
 | some x => rw [Option.map_some, if_neg (by omega)]
theorem Cqv {pl : Int} {tc : List Int × List Int} {lo : Int} {b : Nat} {hs : List Hint} {x : Hint} (hx : hs[b]? = some x) (hlo : lo <= (b : Int)) : Az2 pl tc lo ((b : Int) + 1) hs = (Az2 pl tc lo b hs).set b (Azd pl b x tc) := by
 apply List.ext_getElem?
 intro i
 have hl : b < (Az2 pl tc lo b hs).length := by rw [Bkg]; exact (List.getElem?_eq_some_iff.1 hx).1
 by_cases h : i = b
 ·subst h
  rw [Bkf hx, List.getElem?_set_self hl, if_pos ⟨hlo, by omega⟩]
 ·rw [List.getElem?_set_ne (Ne.symm h)]
  unfold Az2
  rw [List.getElem?_mapIdx, List.getElem?_mapIdx]
  cases hs[i]? with
  | none => rfl
  | some y =>
   simp only [Option.map_some, Option.some.injEq]
   by_cases h1 : lo <= (i : Int) /\ (i : Int) < (b : Int)
   ·rw [if_pos h1, if_pos (by omega)]
   ·rw [if_neg h1, if_neg (by omega)]
theorem Cy3 {s : Sm} {L : List (List Int × List Int)} {tc : List Int × List Int} {lo hi : Int} (h : begN s.noses tc.2 0 12 = some (lo, hi)) : byL s (L ++ [tc]) = Az2 s.places tc lo (hi + 1) (byL s L) := by
 apply List.ext_getElem?
 intro i
 unfold Az2 byL
 rw [List.getElem?_mapIdx, List.getElem?_map, List.getElem?_map]
 cases hr : (List.range 13)[i]? with
 | none => rfl
 | some b =>
  obtain rfl : b = i := by
   obtain ⟨_, h2⟩ := List.getElem?_eq_some_iff.1 hr
   rw [List.getElem_range] at h2
   exact h2.symm
  simp only [Option.map_some, Option.some.injEq]
  unfold Ays
  rw [List.filter_append]
  have hf : fitB s.noses tc.2 (b : Int) = decide (lo <= (b : Int) /\ (b : Int) <= hi) := by unfold fitB; rw [h]
  by_cases hin : lo <= (b : Int) /\ (b : Int) < hi + 1
  ·rw [if_pos hin]
   have : [tc].filter (fun tc => fitB s.noses tc.2 (b : Int)) = [tc] := by simp [hf]; omega
   rw [this, List.foldl_append]
   rfl
  ·rw [if_neg hin]
   have : [tc].filter (fun tc => fitB s.noses tc.2 (b : Int)) = [] := by simp [hf]; omega
   rw [this, List.append_nil]
theorem Cy2 {s : Sm} {L : List (List Int × List Int)} {tc : List Int × List Int} (h : begN s.noses tc.2 0 12 = none) : byL s (L ++ [tc]) = byL s L := by
 unfold byL
 congr 1
 funext b
 unfold Ays
 rw [List.filter_append]
 have hf : fitB s.noses tc.2 (b : Int) = false := by unfold fitB; rw [h]
 have : [tc].filter (fun tc => fitB s.noses tc.2 (b : Int)) = [] := by simp [hf]
 rw [this, List.append_nil]
theorem Cwg {pl : Int} {tc : List Int × List Int} (ht : tc.1.length = 6) {lo b : Int} {hs : List Hint} {ham : Int} (h : Ax5 ⟨ham, hs⟩) : Ax5 ⟨ham, Az2 pl tc lo b hs⟩ := by
 refine ⟨by rw [Bkg]; exact h.l, fun x hx => ?_⟩
 simp only [Az2, List.mem_mapIdx] at hx
 obtain ⟨i, hi, rfl⟩ := hx
 have := h.k _ (List.getElem_mem hi)
 split
 ·exact Bq7 this ht
 ·exact this
def Ayf (pl b : Int) (x : Hint) (tc : List Int × List Int) (k : Nat) : Hint := ⟨x.bs.mapIdx fun p w => if p < k /\ (p : Int) < pl then Aza w (min 99 (b + gI tc.2 p)) else w, if x.some then x.first else tc.1, true⟩
theorem Bke (pl b : Int) (x : Hint) (tc : List Int × List Int) : Ayf pl b x tc 0 = ⟨x.bs, if x.some then x.first else tc.1, true⟩ := by
 unfold Ayf
 congr 1
 apply List.ext_getElem?
 intro i
 rw [List.getElem?_mapIdx]
 cases x.bs[i]? with
 | none => rfl
 | some w => rw [Option.map_some, if_neg (by omega)]
theorem Cwf {pl b : Int} {x : Hint} {tc : List Int × List Int} {k : Nat} {w : Bd} (h : x.bs[k]? = some w) : (Ayf pl b x tc k).bs[k]? = some w := by
 unfold Ayf
 simp only
 rw [List.getElem?_mapIdx, h, Option.map_some, if_neg (by omega)]
theorem Cjw {pl b : Int} {x : Hint} {tc : List Int × List Int} {k : Nat} {w : Bd} (h : x.bs[k]? = some w) (hk : (k : Int) < pl) : Ayf pl b x tc (k + 1) = ⟨(Ayf pl b x tc k).bs.set k (Aza w (min 99 (b + gI tc.2 k))), (Ayf pl b x tc k).first, (Ayf pl b x tc k).some⟩ := by
 have hl : k < x.bs.length := (List.getElem?_eq_some_iff.1 h).1
 unfold Ayf
 congr 1
 apply List.ext_getElem?
 intro i
 by_cases e : i = k
 ·subst e
  rw [List.getElem?_mapIdx, h, Option.map_some, if_pos ⟨by omega, hk⟩, List.getElem?_set_self (by simpa using hl)]
 ·rw [List.getElem?_set_ne (Ne.symm e), List.getElem?_mapIdx, List.getElem?_mapIdx]
  cases x.bs[i]? with
  | none => rfl
  | some y =>
   simp only [Option.map_some, Option.some.injEq]
   by_cases h1 : i < k /\ (i : Int) < pl
   ·rw [if_pos h1, if_pos (by omega)]
   ·rw [if_neg h1, if_neg (by omega)]
theorem Cwe {pl b : Int} {x : Hint} {tc : List Int × List Int} {k : Nat} (hk : pl <= (k : Int)) : Ayf pl b x tc k = Azd pl b x tc := by
 unfold Ayf Azd
 congr 1
 apply List.ext_getElem?
 intro i
 rw [List.getElem?_mapIdx, List.getElem?_mapIdx]
 cases x.bs[i]? with
 | none => rfl
 | some y =>
  simp only [Option.map_some, Option.some.injEq]
  by_cases h1 : (i : Int) < pl
  ·rw [if_pos h1, if_pos ⟨by omega, h1⟩]
  ·rw [if_neg h1, if_neg (by omega)]
theorem Czm {pl b : Int} {x : Hint} {tc : List Int × List Int} (h : Axp x) (ht : tc.1.length = 6) (k : Nat) : Axp (Ayf pl b x tc k) := by
 refine ⟨by simp [Ayf, h.b], ?_⟩
 unfold Ayf
 simp only
 split
 ·exact h.f
 ·exact ht
def Bjq := And.intro (fun H => Aqp (H := H) Tryz.underlying26 rfl Tryz.sizeOf26) @Bk4
theorem Ako (main : Md) (H : Hp) (pl : Int) (da : Option Addr) (dn dc : Nat) (ha : Option Addr) (hn kc : Nat) (na : Option Addr) (nn nc : Nat) :
  FnX Tryz.prog main 67 #[smV pl (.slice da dn dc) (.slice ha hn kc) (.slice na nn nc)] H fun e H' => ∃ hb mb, e = .returned (.pointer (some ⟨hb, 0, none⟩)) /\ H' hb = some (true, hsO pl (.slice da dn dc) (.slice ha hn kc) (.slice na nn nc) mb) /\ H' mb = some (true, .map #[] 0) /\ H hb = none /\ H mb = none /\ H.le H' := by
 refine Aqo Tryz.func67 rfl Tryz.ntmps67 (by simp) ?_
 (refine @unH _ (zA Bjq ?_); (repeat refine inC fun hc => ?_); try refine inK fun K hK => ?_)
 (intro sb hsb; generalize hG : Hp.set _ sb _ = H1; have lH1 := Aqc hG hsb; have vsb := Aqb hG; clear hG)
 ((try refine @unH _ (zX Bjq ?_)); (try (refine hK _ _ ?_; clear hK K; try refine @unH _ (zQ ?_))); refine @unH _ (zA Bjq ?_); (repeat refine inC fun hc => ?_); try refine inK fun K hK => ?_)
 intro mb hmb hb hhb
 replace hhb : (Hp.set H1 mb (.map #[] 0)) hb = none := hhb
 generalize hG : Hp.set H1 mb _ = H2 at hhb ⊢
 have lH2 := Aqc hG hmb
 have vmb := Aqb hG
 clear hG
 generalize hG : Hp.set H2 hb _ = H3
 have lH3 := Aqc hG hhb
 have vhb := Aqb hG
 clear hG
 ((try refine @unH _ (zX Bjq ?_)); (try (refine hK _ _ ?_; clear hK K; try refine @unH _ (zQ ?_))); refine @unH _ (zA Bjq ?_); (repeat refine inC fun hc => ?_); try refine inK fun K hK => ?_)
 (refine @unH _ ?_; refine z9 Tryz.results67 ?_)
 exact ⟨hb, mb, rfl, vhb, lH3 _ _ vmb, Hp.le_none (Hp.le_trans lH1 lH2) hhb, Hp.le_none lH1 hmb, Hp.le_trans lH1 (Hp.le_trans lH2 lH3)⟩
def FolS (H3 : Hp) (sb ib rb : Nat) (pl : Int) (dv hv nv : Value) (t0 : Trail) (e : Nat -> Value) (H' : Hp) : Prop :=
 ∃ hb mb pb tb, e 2 = .pointer (some ⟨sb, 0, none⟩) /\ e 3 = .pointer (some ⟨ib, 0, none⟩) /\ e 4 = .pointer (some ⟨rb, 0, none⟩) /\ e 5 = .pointer (some ⟨pb, 0, none⟩) /\ e 6 = .pointer (some ⟨tb, 0, none⟩) /\ H3.le H' /\ (H3 hb = none /\ H3 mb = none /\ H3 pb = none /\ H3 tb = none) /\
  H' hb = some (true, hsO pl dv hv nv mb) /\ H' mb = some (true, .map #[] 0) /\ H' pb = some (true, .cells #[.pointer (some ⟨hb, 0, none⟩)] 115 (0, 0)) /\ H' tb = some (true, .cells (Axc t0).toArray 127 (0, 0))
theorem Cqa {H : Hp} (p : Int) (xs : List Int) (h : xs.length = 6) (K : Value -> Hp -> Prop) (E : Value -> Hp -> Prop) : wpS Tryz.prog (Instr.build 120 #[(0, .int .i64 p), (1, .agg (ints xs).toArray)]) H K E = K (.agg (.int .i64 p :: ints xs).toArray) H := by
 obtain ⟨x0, x1, x2, x3, x4, x5, rfl⟩ := Bz7 xs h
 exact Akg H .i64 p .i64 x0 .i64 x1 .i64 x2 .i64 x3 .i64 x4 .i64 x5 K E
def RdS (Hb : Hp) (sb pb tb xb mb : Nat) (ds : List Dr) (c : List Int) (e : Nat -> Value) (H' : Hp) : Prop :=
 ∃ cb, e 2 = .pointer (some ⟨sb, 0, none⟩) /\ e 5 = .pointer (some ⟨pb, 0, none⟩) /\ e 6 = .pointer (some ⟨tb, 0, none⟩) /\ e 7 = .pointer (some ⟨xb, 0, none⟩) /\ e 8 = .pointer (some ⟨cb, 0, none⟩) /\
  H' cb = some (true, .cells (ints c).toArray 117 (0, 0)) /\ Aji ds mb H' /\ ∀ b x, b ≠ mb -> Hb b = some x -> H' b = some x
theorem SmIn.mv {H H' : Hp} {dv hv nv : Value} {s : Sm} (h : SmIn H dv hv nv s) (hl : ∀ x p c t fr, (t = 66 ∨ t = 3 ∨ t = 46) -> H x = some (p, .cells c t fr) -> H' x = some (p, .cells c t fr)) : SmIn H' dv hv nv s :=
 ⟨h.dd.move fun x p c fr hx => ⟨p, hl x p c _ fr (.inl rfl) hx⟩, h.hh.move fun x p c fr hx => hl x p c _ fr (.inr (.inl rfl)) hx, h.nn.move fun x p c fr hx => ⟨p, hl x p c _ fr (.inr (.inr rfl)) hx⟩⟩
def prF (s : Sm) (p : Int) (L : List (List Int)) : List (List Int × List Int) := L.map fun t => (t, Aq4 s.doors p t)
end Go.Proofs.YtnfnaehonkbknaaGreatDoor
end
