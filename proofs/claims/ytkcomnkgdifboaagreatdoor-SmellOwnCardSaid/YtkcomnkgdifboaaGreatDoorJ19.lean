/- Texts SmH SmI SmJ SmL. -/
import Derived.Test.YtkcomnkgdifboaaGreatDoorJ18
set_option linter.defProp false
set_option linter.unusedSimpArgs false
set_option linter.unusedVariables false
set_option maxRecDepth 100000
set_option maxHeartbeats 2000000
section
namespace Go.X
open Go
theorem Ckh {P : Program} {H : Hp} {t e : TypeId} {N : Nat} {d : TypeDesc} (hu : P.underlying t = some (.array N e)) (hue : P.underlying e = some d) (hd : aggB d = true) {n : Nat} (hs : ∀ w, (sizeOf e).run P w = .ok n w) (cs : Array Value) (k : IntKind) (i : Int) (K : Value -> Hp -> Prop) (E : Value -> Hp -> Prop) (h0 : 0 <= i) (h1 : i < N) :
  wpS P (Instr.index t (.agg cs) (.int k i)) H K E = K (.agg (cs.extract (i.toNat * n) (i.toNat * n + n))) H := by
 unfold Instr.index
 rw [Aqa]
 simp only [asIntOf, Aqe]
 simp only [Aqa, Aqh hu, Aqe, h0, h1, and_self, if_true, Aq0 hs, Bzn hue hd hs]
theorem Cki {P : Program} {H : Hp} {t e : TypeId} {N : Nat} {d : TypeDesc} (hu : P.underlying t = some (.array N e)) (hue : P.underlying e = some d) (hd : aggB d = false) (hs : ∀ w, (sizeOf e).run P w = .ok 1 w) (cs : Array Value) (k : IntKind) (i : Int) (K : Value -> Hp -> Prop) (E : Value -> Hp -> Prop) (h0 : 0 <= i) (h1 : i < N) :
  wpS P (Instr.index t (.agg cs) (.int k i)) H K E = ∃ v, cs[i.toNat]? = some v /\ K v H := by
 unfold Instr.index
 rw [Aqa]
 simp only [asIntOf, Aqe]
 simp only [Aqa, Aqh hu, Aqe, h0, h1, and_self, if_true, Aq0 hs, Nat.mul_one]
 cases hc : cs[i.toNat]? with
 | some v => rw [Aqo hue hd cs _ hc]; simp
 | none =>
  unfold part
  rw [Aqa, Aky hue, hd]
  simp [hc]
  exact fun h => h
end Go.X
namespace Go.Proofs.YtkcomnkgdifboaaGreatDoor
open Go Go.X
def Bqf := And.intro (fun H => Aqv (H := H) (P := Tryz.prog) (h := Tryz.zeroValue3)) (And.intro (fun H => Axc (H := H) Tryz.sizeOf3) (And.intro @Bxf (fun H => Aqg (H := H) Tryz.underlying3 rfl)))
def Avh := And.intro (fun H => Aq6 (H := H) Tryz.underlying85) (And.intro (fun H => Aqu (H := H) Tryz.underlying85 Tryz.sizeOf130) (And.intro (fun H => Aqp (H := H) Tryz.underlying130 rfl Tryz.sizeOf130) (And.intro (fun H => Aqv (H := H) (P := Tryz.prog) (h := Tryz.zeroValue130)) (And.intro (fun H => Aqs (H := H) Tryz.sizeOf130) (And.intro (fun H => Aqd (H := H) Tryz.underlying130 (i := 1) rfl (off := 1) rfl Tryz.sizeOf128) (And.intro (fun H => Aqp (H := H) Tryz.underlying128 rfl Tryz.sizeOf128) (And.intro (fun H => Ckh (H := H) Tryz.underlying128 Tryz.underlying94 rfl Tryz.sizeOf94) (And.intro (fun H => Aqv (H := H) (P := Tryz.prog) (h := Tryz.zeroValue94)) (And.intro (fun H => Aqs (H := H) Tryz.sizeOf94) (And.intro (fun H => Aqd (H := H) Tryz.underlying94 (i := 2) rfl (off := 24) rfl Tryz.sizeOf4) (And.intro (fun H => Aqg (H := H) Tryz.underlying4 rfl) (And.intro (fun H => Aqd (H := H) Tryz.underlying130 (i := 0) rfl (off := 0) rfl Tryz.sizeOf3) (And.intro (fun H => Aqg (H := H) Tryz.underlying3 rfl) (fun H => Aqp (H := H) Tryz.underlying94 rfl Tryz.sizeOf94))))))))))))))
def Bqi := And.intro (fun H => Aqg (H := H) Tryz.underlying89 rfl) (And.intro (fun H => Aqp (H := H) Tryz.underlying94 rfl Tryz.sizeOf94) (And.intro (fun H => Aqg (H := H) Tryz.underlying3 rfl) (fun H => Axc (H := H) Tryz.sizeOf3)))
theorem By3 {H : Hp} {b : Nat} {l : List Value} {c : Array Value} {e : TypeId} {K : Hp -> Prop} (hl : l ≠ []) (h1 : l.all one = true) (hb : H b = some (true, .cells c e (0, 0))) (hs : c.size = l.length) : Akw H b 0 l K = K (H.set b (.cells l.toArray e (0, 0))) := by
 rw [Akm (c := c) (e := e) hl hb]
 have ho : over c 0 l = l.toArray := by
  obtain ⟨l'⟩ := c
  exact Bq1 (by simpa using hs.symm)
 rw [ho, h1]
 simp [hs]
theorem SlT.get {H : Hp} {a : Option Addr} {n cap : Nat} {l : List Trail} (h : SlT H (.slice a n cap) l) {i : Nat} {t : Trail} (hi : l[i]? = some t) :
  ∃ b o p c fr, a = some ⟨b, o, none⟩ /\ H b = some (p, .cells c 130 fr) /\ o + i * 326 + 326 <= c.size /\ c.extract (o + i * 326) (o + i * 326 + 326) = (Axd t).toArray := by
 obtain ⟨b, o, p, c, fr, h1, h2, h3, h4, h5⟩ := SlG.get h (i := i) (r := Axd t) (by simp [hi])
 exact ⟨b, o, p, c, fr, h1, h2, h3, h5⟩
theorem SlT.isSlice {H : Hp} {v : Value} {l : List Trail} (h : SlT H v l) : ∃ a cap, v = .slice a l.length cap /\ l.length <= cap := by
 obtain ⟨a, cap, h1, h2, _⟩ := h
 exact ⟨a, cap, by simpa using h1, by simpa using h2⟩
theorem SlT.move {H H' : Hp} {v : Value} {l : List Trail} (h : SlT H v l) (hl : ∀ x p c fr, H x = some (p, .cells c 130 fr) -> ∃ p', H' x = some (p', .cells c 130 fr)) : SlT H' v l := SlG.move h hl
theorem SlT.le {H H' : Hp} {v : Value} {l : List Trail} (h : SlT H v l) (hl : H.le H') : SlT H' v l := SlG.le h hl
theorem Dxw {t : Trail} (ht : Ax6 t) {h : Nat} {x : Hint} (hx : t.hs[h]? = some x) : ((Axd t).toArray.extract 1 326).extract (h * 25) (h * 25 + 25) = (Axv x).toArray := by
 have hr := HR.refl ht hx
 have hh : h < 13 := by have := (List.getElem?_eq_some_iff.1 hx).1; rw [ht.l] at this; exact this
 have hl := Axu ht
 have hxl := Ax1 (ht.k x (List.mem_of_getElem? hx))
 rw [Array.extract_extract]
 apply Array.ext_getElem?
 intro k
 by_cases hk : k < 25
 ·rw [Array.getElem?_extract, if_pos (by simp [hl]; omega), hr.inn k hk]
  simp
 ·rw [Array.getElem?_eq_none (by rw [Array.size_extract]; simp [hl]; omega), Array.getElem?_eq_none (by simp; omega)]
structure HCl (P : Program) (main : Md) (y : Value) (A : Int -> Int -> Hint -> Prop) (S : Nat -> Prop) (T : List (Int × Int × Hint) -> Hp -> Prop) : Prop where
 keep : ∀ L H H', T L H -> H.le H' -> T L H'
 ex : ∀ L H b, T L H -> S b -> H b ≠ none
 call : ∀ L H ham hour x, T L H -> Axq x -> A ham hour x -> Aj3 P main y #[.int .i64 ham, .int .i64 hour, .agg (Axv x).toArray] H fun e H' => e = .returned (.tuple #[]) /\ T (L ++ [(ham, hour, x)]) H' /\ ∀ b x, ¬ S b -> H b = some x -> H' b = some x
def Av8 (t : Trail) (n : Nat) : List (Int × Int × Hint) := (((t.hs.take n).zipIdx).filter fun x => x.1.some).map fun x => (t.ham, (x.2 : Int), x.1)
theorem Cva {t : Trail} {n : Nat} {x : Hint} (hx : t.hs[n]? = some x) : Av8 t (n + 1) = Av8 t n ++ if x.some then [(t.ham, (n : Int), x)] else [] := by
 have hn : n < t.hs.length := (List.getElem?_eq_some_iff.1 hx).1
 unfold Av8
 rw [List.take_add_one, hx, Option.toList_some, List.zipIdx_append, List.filter_append, List.map_append]
 congr 1
 have hl : (t.hs.take n).length = n := by rw [List.length_take]; omega
 rw [hl]
 cases hs : x.some with
 | true => simp [hs]
 | false => simp [hs]
theorem Cy1 {t : Trail} {n : Nat} (h : t.hs.length <= n) : Av8 t n = Avf t := by
 unfold Av8 Avf
 rw [List.take_of_length_le h]
theorem Ck9 (l : List Trail) {k : Nat} {t : Trail} (h : l[k]? = some t) : Az0 (l.take (k + 1)) = Az0 (l.take k) ++ Avf t := by
 unfold Az0
 rw [List.take_add_one, h, Option.toList_some, List.flatMap_append]
 simp
theorem Aya (main : Md) {A : Int -> Int -> Hint -> Prop} {S : Nat -> Prop} {T : List (Int × Int × Hint) -> Hp -> Prop} {yf : Fn} {yi yc : Array Value} (hC : HCl Tryz.prog main (.func yf yi yc) A S T) (H : Hp) (v : Value) (l : List Trail) (hrd : ∀ L H', T L H' -> (∀ b x, ¬ S b -> H b = some x -> H' b = some x) -> SlT H' v l) (hok : ∀ t ∈ l, Ax6 t) (hA : ∀ t ∈ l, ∀ (h : Nat) x, t.hs[h]? = some x -> x.some = true -> A t.ham h x) (hl : l.length <= 1000) (L0 : List (Int × Int × Hint)) (hT : T L0 H) :
  FnX Tryz.prog main 59 #[v, .func yf yi yc] H fun e H' => e = .returned (.tuple #[]) /\ T (L0 ++ Az0 l) H' /\ ∀ b x, ¬ S b -> H b = some x -> H' b = some x := by
 have hv := hrd _ _ hT fun _ _ _ hx => hx
 obtain ⟨a, cap, rfl, hcap⟩ := hv.isSlice
 clear hv
 refine Aqm Tryz.func59 rfl Tryz.ntmps59 (by simp) ?_
 (refine @unH _ ?_; refine zA Avh ?_; (repeat (refine inC ?_; intro hc)); try (refine inK ?_; intro K hK))
 refine Axe (fun w a' H' => ∃ e, ∃ k : Nat, w = l.length - k /\ k <= l.length /\ a' = act 30 e [] /\ e 1 = .func yf yi yc /\ e 8 = .slice a l.length cap /\ e 9 = .int .i64 l.length /\ e 10 = .int .i64 (k : Nat) /\ T (L0 ++ Az0 (l.take k)) H' /\ ∀ b x, ¬ S b -> H b = some x -> H' b = some x) (n := l.length) ?_ ?_
 ·exact ⟨_, 0, by omega, by omega, rfl, rfl, rfl, rfl, rfl, by simpa [Az0] using hT, fun _ _ _ hx => hx⟩
 ·rintro w a' H1 ⟨e, k, rfl, hk, rfl, e1, e8, e9, e10, hT1, hfr1⟩
  by_cases hlt : k < l.length
  ·have hkt := List.getElem?_eq_getElem hlt
   have htok := hok _ (List.getElem_mem hlt)
   have htA := hA _ (List.getElem_mem hlt)
   generalize l[k] = t at *
   obtain ⟨b, o, p, c, fr, rfl, hb1, hcs, hce⟩ := (hrd _ _ hT1 hfr1).get hkt
   have hsu := Ck9 l hkt
   have hTl := Axu htok
   have hTone : (Axd t).all one = true := by rw [List.all_eq_true]; exact Bxr t
   have hTne : Axd t ≠ [] := fun h => by rw [h] at hTl; simp at hTl
   have hT0 : (Axd t)[0]? = some (.int .i64 t.ham) := rfl
   have hho := fun (i : Nat) (x : Hint) hx => Dxw htok (h := i) (x := x) hx
   have hTx : ∀ i, i <= 13 -> ((Axd t).toArray.extract 1 326).size = 325 := fun i _ => by rw [Array.size_extract]; simp [hTl]
   generalize Axd t = TC at *
   replace hsu : Aqk _ := hsu
   replace hT1 : Aqk _ := hT1
   replace hfr1 : Aqk _ := hfr1
   (refine @unH _ ?_; refine zA Avh ?_; (repeat (refine inC ?_; intro hc)); try (refine inK ?_; intro K hK))
   intro xb hxb
   rw [By3 hTne hTone Axg (by rw [hTl]; rfl), Aww]
   have nSx : ¬ S xb := fun h => hC.ex _ _ _ hT1 h hxb
   have h0xb : H xb = none := by
    cases h : H xb with
    | none => rfl
    | some z => have := (show ∀ b x, ¬ S b -> H b = some x -> H1 b = some x from hfr1) _ _ nSx h; rw [hxb] at this; cases this
   generalize hG : Hp.set H1 xb _ = H2
   have vxb := Aqb hG
   have hT2 : T (L0 ++ Az0 (l.take k)) H2 := hC.keep _ _ _ hT1 (Aqc hG hxb)
   have hfr2 : ∀ b x, ¬ S b -> H b = some x -> H2 b = some x := fun b x hb hx => Aqi hG ((show ∀ b x, ¬ S b -> H b = some x -> H1 b = some x from hfr1) b x hb hx) (fun e => by rw [e, h0xb] at hx; cases hx)
   clear hG hb1 hcs hce hxb hT1 hfr1
   refine hK _ _ ?_
   clear hK K
   (try simp only [nq, ↓reduceIte, Nat.reduceEqDiff])
   (refine @unH _ ?_; refine zA Avh ?_; (repeat (refine inC ?_; intro hc)); try (refine inK ?_; intro K hK))
   obtain ⟨AA, hAA⟩ : ∃ AA, AA = TC.toArray.extract 1 326 := ⟨_, rfl⟩
   have hAv : Value.agg (TC.toArray.extract 1 326) = .agg AA := by rw [hAA]
   rw [<- hAA] at hho
   replace hAA : Aqk _ := hAA
   refine Axe (fun w a' H' => ∃ e, ∃ h : Nat, w = 13 - h /\ h <= 13 /\ a' = act 30 e [] /\ e 1 = .func yf yi yc /\ e 5 = .pointer (some ⟨xb, 0, none⟩) /\ e 8 = .slice (some ⟨b, o, none⟩) l.length cap /\ e 9 = .int .i64 l.length /\ e 10 = .int .i64 (k : Nat) /\ e 15 = .agg AA /\ e 16 = .int .i64 (h : Nat) /\ T (L0 ++ (Az0 (l.take k) ++ Av8 t h)) H' /\ (∀ b x, ¬ S b -> H b = some x -> H' b = some x) /\ H' xb = some (true, .cells TC.toArray 130 (0, 0))) (n := 13) ?_ ?_
   ·refine ⟨_, 0, by omega, by omega, rfl, e1, rfl, e8, e9, e10, ?_, rfl, by simpa [Av8] using hT2, hfr2, vxb⟩
    rw [<- hAv, List.extract_toArray, List.extract_eq_take_drop]; rfl
   ·clear hAv hTx hT2 hfr2 vxb e1 e8 e9 e10
    rintro w a' H3 ⟨e, h, rfl, hh, rfl, e1, e5, e8, e9, e10, e15, e16, hT3, hfr3, vx3⟩
    by_cases hh13 : h < 13
    ·obtain ⟨x, hx⟩ : ∃ x, t.hs[h]? = some x := ⟨_, List.getElem?_eq_getElem (by rw [htok.l]; exact hh13)⟩
     have hxo := htok.k x (List.mem_of_getElem? hx)
     have hxe := hho h x hx
     have hsn := Cva hx
     have hHl := Ax1 hxo
     have hHone : (Axv x).all one = true := by rw [List.all_eq_true]; exact Bz8 x
     have hHne : Axv x ≠ [] := fun h => by rw [h] at hHl; simp at hHl
     have hH24 := Cz0 hxo
     have hcall := fun H' hT' hs' => hC.call (L0 ++ (Az0 (l.take k) ++ Av8 t h)) H' t.ham h x hT' hxo (htA h x hx hs')
     have hHx : (Axv x).toArray.extract 0 25 = (Axv x).toArray := by
      rw [List.extract_toArray, List.extract_eq_take_drop, List.drop_zero, List.take_of_length_le (by omega)]
     generalize Axv x = HC at *
     replace hsn : Aqk _ := hsn
     replace hT3 : Aqk _ := hT3
     replace hfr3 : Aqk _ := hfr3
     replace hcall : Aqk _ := hcall
     clear hho
     (refine @unH _ ?_; refine zA Avh ?_; (repeat (refine inC ?_; intro hc)); try (refine inK ?_; intro K hK))
     intro yb hyb
     have nxy := Aqr vx3 hyb
     have nSy : ¬ S yb := fun h => hC.ex _ _ _ hT3 h hyb
     have h0yb : H yb = none := by
      cases h : H yb with
      | none => rfl
      | some z => have := (show ∀ b x, ¬ S b -> H b = some x -> H3 b = some x from hfr3) _ _ nSy h; rw [hyb] at this; cases this
     rw [By3 hHne hHone Axg (by rw [hHl]; rfl), Aww]
     generalize hG : Hp.set H3 yb _ = H4
     have vyb := Aqb hG
     have vx4 := Aqi hG vx3 nxy
     have hT4 : Aqk (T (L0 ++ (Az0 (l.take k) ++ Av8 t h)) H4) := hC.keep _ _ _ hT3 (Aqc hG hyb)
     have hfr4 : Aqk (∀ b x, ¬ S b -> H b = some x -> H4 b = some x) := fun b x hb hx => Aqi hG ((show ∀ b x, ¬ S b -> H b = some x -> H3 b = some x from hfr3) b x hb hx) (fun e => by rw [e, h0yb] at hx; cases hx)
     clear hG hyb hT3 hfr3 hxe vx3
     refine hK _ _ ?_
     clear hK K
     (try simp only [nq, ↓reduceIte, Nat.reduceEqDiff])
     cases hxs : x.some with
     | false =>
      rw [hxs] at hH24 hsn
      replace hsn : Aqk (Av8 t (h + 1) = Av8 t h) := show Av8 t (h + 1) = Av8 t h from Eq.trans hsn (by simp)
      (refine @unH _ ?_; refine zA Avh ?_; (repeat (refine inC ?_; intro hc)); try (refine inK ?_; intro K hK))
      exact ⟨_, by omega, _, h + 1, rfl, by omega, rfl, e1, e5, e8, e9, e10, e15, rfl, by rw [show Av8 t (h + 1) = _ from hsn]; exact hT4, hfr4, vx4⟩
     | true =>
      rw [hxs] at hH24 hsn
      replace hsn : Aqk (Av8 t (h + 1) = Av8 t h ++ [(t.ham, (h : Int), x)]) := show Av8 t (h + 1) = Av8 t h ++ [(t.ham, (h : Int), x)] from Eq.trans hsn (by simp)
      (refine @unH _ ?_; refine zA Avh ?_; (repeat (refine inC ?_; intro hc)); try (refine inK ?_; intro K hK))
      refine Aj3.use ((show ∀ H', T _ H' -> x.some = true -> _ from hcall) H4 hT4 hxs) ?_
      rintro _ H5 ⟨rfl, hT5, hfr5⟩
      have vx5 := hfr5 _ _ nSx vx4
      replace hT5 : Aqk _ := hT5
      replace hfr5 : Aqk _ := hfr5
      clear hcall vyb vx4
      ((try (refine @unH _ ?_; refine zX Avh ?_)); (try (refine hK _ _ ?_; clear hK K; (try simp only [nq, ↓reduceIte, Nat.reduceEqDiff]))); refine @unH _ ?_; refine zA Avh ?_; (repeat (refine inC ?_; intro hc)); try (refine inK ?_; intro K hK))
      refine ⟨_, by omega, _, h + 1, rfl, by omega, rfl, e1, e5, e8, e9, e10, e15, rfl, ?_, fun b x hb hx => (show ∀ b x, ¬ S b -> H4 b = some x -> H5 b = some x from hfr5) b x hb ((show ∀ b x, ¬ S b -> H b = some x -> H4 b = some x from hfr4) b x hb hx), vx5⟩
      rw [show Av8 t (h + 1) = _ from hsn, <- List.append_assoc (Az0 _), <- List.append_assoc L0]
      exact hT5
    ·obtain rfl : h = 13 := by omega
     rw [Cy1 (by rw [htok.l]; exact Nat.le_refl _), <- show Az0 (l.take (k + 1)) = _ from hsu] at hT3
     replace hT3 : Aqk _ := hT3
     replace hfr3 : Aqk _ := hfr3
     (refine @unH _ ?_; refine zA Avh ?_; (repeat (refine inC ?_; intro hc)); try (refine inK ?_; intro K hK))
     exact ⟨_, by omega, _, k + 1, rfl, by omega, rfl, e1, e8, e9, rfl, hT3, hfr3⟩
  ·obtain rfl : k = l.length := by omega
   rw [List.take_length] at hT1
   replace hT1 : Aqk _ := hT1
   replace hfr1 : Aqk _ := hfr1
   (refine @unH _ ?_; refine zA Avh ?_; (repeat (refine inC ?_; intro hc)); try (refine inK ?_; intro K hK))
   (refine @unH _ ?_; refine zD Tryz.results59 ?_)
   exact ⟨rfl, hT1, hfr1⟩
def IsF (P : Program) (main : Md) (H : Hp) (v : Value) (q : Hint -> Bool) : Prop := ∀ (H' : Hp) (x : Hint), H.le H' -> Axq x -> Aj3 P main v #[.agg (Axv x).toArray] H' fun e H'' => e = .returned (.bool (q x)) /\ H'.le H''
def cntL (q : Hint -> Bool) (L : List (Int × Int × Hint)) : Nat := (L.filter fun x => q x.2.2).length
theorem Cwe (q : Hint -> Bool) (L : List (Int × Int × Hint)) (x : Int × Int × Hint) : cntL q (L ++ [x]) = cntL q L + if q x.2.2 then 1 else 0 := by
 unfold cntL
 rw [List.filter_append, List.length_append]
 congr 1
 by_cases h : q x.2.2 <;> simp [h]
theorem Dko (q : Hint -> Bool) (L : List (Int × Int × Hint)) : cntL q L <= L.length := List.length_filter_le _ _
theorem Bju : ∀ (l : List Trail), (∀ t ∈ l, Ax6 t) -> (Az0 l).length <= 13 * l.length
 | [], _ => by simp [Az0]
 | t :: l, h => by
  have h1 := Bju l (fun x hx => h x (List.mem_cons_of_mem _ hx))
  have h2 : (Avf t).length <= 13 := by
   unfold Avf
   rw [List.length_map]
   refine Nat.le_trans (List.length_filter_le _ _) ?_
   rw [List.length_zipIdx, (h t List.mem_cons_self).l]
   exact Nat.le_refl _
  unfold Az0 at *
  rw [List.flatMap_cons, List.length_append, List.length_cons]
  omega
theorem Cvq (main : Md) (H : Hp) (x : Hint) (hx : Axq x) :
  FnX Tryz.prog main 48 #[.agg (Axv x).toArray] H fun e H' => e = .returned (.bool true) /\ H.le H' := by
 refine Aqm Tryz.func48 rfl Tryz.ntmps48 (by simp) ?_
 (refine @unH _ ?_; refine zA trivial ?_; (repeat (refine inC ?_; intro hc)); try (refine inK ?_; intro K hK))
 (intro b hb; generalize hG : Hp.set _ b _ = H1; have lH1 := Aqc hG hb; have vb := Aqb hG; clear hG)
 ((try (refine @unH _ ?_; refine zX trivial ?_)); (try (refine hK _ _ ?_; clear hK K; (try simp only [nq, ↓reduceIte, Nat.reduceEqDiff]))); refine @unH _ ?_; refine zA trivial ?_; (repeat (refine inC ?_; intro hc)); try (refine inK ?_; intro K hK))
 (refine @unH _ ?_; refine z9 Tryz.results48 ?_)
 exact ⟨trivial, lH1⟩
theorem Dxx {main : Md} {H : Hp} {f : FuncId} {q : Hint -> Bool} (hc : ∀ (args : Array Value) (H : Hp) (K : Next -> Hp -> Prop) (E : Value -> Hp -> Prop), wpS Tryz.prog (callFunc f args) H K E = K (.enter f args) H) (h : ∀ H' x, H.le H' -> Axq x -> FnX Tryz.prog main f #[.agg (Axv x).toArray] H' fun e H'' => e = .returned (.bool (q x)) /\ H'.le H'') :
  IsF Tryz.prog main H (.func (.func f) #[] #[]) q := fun H' x hl hx K E h1 _ => by
 show wpS Tryz.prog (callFunc f (#[] ++ #[.agg (Axv x).toArray] ++ #[])) H' K E
 rw [hc]
 exact h1 _ _ _ (h H' x hl hx).runs
theorem Aj3.fn {P : Program} {main : Md} {f : FuncId} {fi cap args : Array Value} {H : Hp} {R : Ending -> Hp -> Prop} (hc : ∀ (args : Array Value) (H : Hp) (K : Next -> Hp -> Prop) (E : Value -> Hp -> Prop), wpS P (callFunc f args) H K E = K (.enter f args) H) (h : FnX P main f (fi ++ args ++ cap) H R) : Aj3 P main (.func (.func f) fi cap) args H R := fun K E h1 _ => by
 rw [Bkm, hc]
 exact h1 _ _ _ h.runs
theorem Ak8 {x : Hint} (h : Axq x) : (Axv x).toArray.extract 0 25 = (Axv x).toArray := by
 have := Ax1 h
 rw [List.extract_toArray, List.extract_eq_take_drop, List.drop_zero, List.take_of_length_le (by omega)]
theorem Cqz (main : Md) (H : Hp) (fb nb : Nat) (yf : Fn) (yi yc : Array Value) (z : Int) (x : Hint) (hx : Axq x) (ham hour : Int) (r : Bool) (vf : H fb = some (true, .cells #[.func yf yi yc] 89 (0, 0))) (vn : H nb = some (true, .cells #[.int .i64 z] 3 (0, 0)))
  (hq : ∀ H', H.le H' -> Aj3 Tryz.prog main (.func yf yi yc) #[.agg (Axv x).toArray] H' fun e H'' => e = .returned (.bool r) /\ H'.le H'') :
  FnX Tryz.prog main 72 #[.int .i64 ham, .int .i64 hour, .agg (Axv x).toArray, .pointer (some ⟨fb, 0, none⟩), .pointer (some ⟨nb, 0, none⟩)] H fun e H' => e = .returned (.tuple #[]) /\ H' nb = some (true, .cells #[.int .i64 (if r then IntKind.i64.wrap (z + 1) else z)] 3 (0, 0)) /\ ∀ b x, b ≠ nb -> H b = some x -> H' b = some x := by
 have hl := Ax1 hx
 have hex := Ak8 hx
 generalize Axv x = HC at *
 refine Aqm Tryz.func72 rfl Tryz.ntmps72 (by simp) ?_
 (refine @unH _ ?_; refine zA Bqi ?_; (repeat (refine inC ?_; intro hc)); try (refine inK ?_; intro K hK))
 (intro b hb; generalize hG : Hp.set _ b _ = H1; have lH1 := Aqc hG hb; have vb := Aqb hG; clear hG)
 have vf1 := lH1 _ _ vf
 have vn1 := lH1 _ _ vn
 ((try (refine @unH _ ?_; refine zX Bqi ?_)); (try (refine hK _ _ ?_; clear hK K; (try simp only [nq, ↓reduceIte, Nat.reduceEqDiff]))); refine @unH _ ?_; refine zA Bqi ?_; (repeat (refine inC ?_; intro hc)); try (refine inK ?_; intro K hK))
 refine Aj3.use (hq H1 lH1) ?_
 rintro _ H2 ⟨rfl, l2⟩
 have vn2 := l2 _ _ vn1
 have l02 := Hp.le_trans lH1 l2
 clear hq vf1 vn1 vb hex
 cases r with
 | true =>
  ((try (refine @unH _ ?_; refine zX Bqi ?_)); (try (refine hK _ _ ?_; clear hK K; (try simp only [nq, ↓reduceIte, Nat.reduceEqDiff]))); refine @unH _ ?_; refine zA Bqi ?_; (repeat (refine inC ?_; intro hc)); try (refine inK ?_; intro K hK))
  (refine @unH _ ?_; refine zD Tryz.results72 ?_)
  exact ⟨by trivial, Axg, fun b x hb hx => by rw [Aqw hb]; exact l02 _ _ hx⟩
 | false =>
  ((try (refine @unH _ ?_; refine zX Bqi ?_)); (try (refine hK _ _ ?_; clear hK K; (try simp only [nq, ↓reduceIte, Nat.reduceEqDiff]))); refine @unH _ ?_; refine zA Bqi ?_; (repeat (refine inC ?_; intro hc)); try (refine inK ?_; intro K hK))
  (refine @unH _ ?_; refine zD Tryz.results72 ?_)
  exact ⟨by trivial, vn2, fun b x hb hx => l02 _ _ hx⟩
theorem Awx (main : Md) (H : Hp) (v : Value) (l : List Trail) (hv : SlT H v l) (hok : ∀ t ∈ l, Ax6 t) (hl : l.length <= 1000) (yf : Fn) (yi yc : Array Value) (q : Hint -> Bool) (hq : IsF Tryz.prog main H (.func yf yi yc) q) :
  FnX Tryz.prog main 47 #[v, .func yf yi yc] H fun e H' => e = .returned (.int .i64 (cntL q (Az0 l) : Nat)) /\ H.le H' := by
 refine Aqm Tryz.func47 rfl Tryz.ntmps47 (by simp) ?_
 (refine @unH _ ?_; refine zA (And.intro Bqf @cells_func) ?_; (repeat (refine inC ?_; intro hc)); try (refine inK ?_; intro K hK))
 (intro fb hfb; generalize hG : Hp.set _ fb _ = H1; have lH1 := Aqc hG hfb; have vfb := Aqb hG; clear hG)
 have h0fb := hfb
 have l1 := lH1
 clear hfb lH1
 ((try (refine @unH _ ?_; refine zX Bqf ?_)); (try (refine hK _ _ ?_; clear hK K; (try simp only [nq, ↓reduceIte, Nat.reduceEqDiff]))); refine @unH _ ?_; refine zA Bqf ?_; (repeat (refine inC ?_; intro hc)); try (refine inK ?_; intro K hK))
 intro nb hnb
 have nfn := Aqr vfb hnb
 ((try (refine @unH _ ?_; refine zX Bqf ?_)); (try (refine hK _ _ ?_; clear hK K; (try simp only [nq, ↓reduceIte, Nat.reduceEqDiff]))); refine @unH _ ?_; refine zA Bqf ?_; (repeat (refine inC ?_; intro hc)); try (refine inK ?_; intro K hK))
 generalize hG : Hp.set H1 nb _ = H2
 have vnb := Aqb hG
 have l2 := Hp.le_trans l1 (Aqc hG hnb)
 have vf2 := Aqi hG vfb nfn
 have h0nb : H nb = none := Hp.le_none l1 hnb
 clear hG hnb vfb l1
 have hn : ∀ b x, H2 b = some x -> H2 b ≠ none := fun b x h => by rw [h]; simp
 have hC : HCl Tryz.prog main (.func (.func 72) #[] #[.pointer (some ⟨fb, 0, none⟩), .pointer (some ⟨nb, 0, none⟩)]) (fun _ _ _ => True) (fun b => H2 b ≠ none) (fun L H' => (∃ z, H' nb = some (true, .cells #[.int .i64 z] 3 (0, 0)) /\ (L.length <= 100000 -> z = (cntL q L : Nat))) /\ ∀ b x, b ≠ nb -> H2 b = some x -> H' b = some x) := by
  refine ⟨?_, ?_, ?_⟩
  ·rintro L H' H'' ⟨⟨z, h1, hz⟩, h2⟩ hk
   exact ⟨⟨z, hk _ _ h1, hz⟩, fun b x hb hx => hk _ _ (h2 b x hb hx)⟩
  ·rintro L H' b ⟨⟨z, h1, hz⟩, h2⟩ hb
   by_cases e : b = nb
   ·subst e; rw [h1]; simp
   ·cases hx : H2 b with
    | none => exact absurd hx hb
    | some x => rw [h2 b x e hx]; simp
  ·rintro L H' ham hour x ⟨⟨z, h1, hz⟩, h2⟩ hxo _
   have hq' : ∀ H'', H'.le H'' -> Aj3 Tryz.prog main (.func yf yi yc) #[.agg (Axv x).toArray] H'' fun e H3 => e = .returned (.bool (q x)) /\ H''.le H3 := fun H'' l => hq H'' x (fun b z hz => l _ _ (h2 b z (fun e => by rw [e, h0nb] at hz; cases hz) (l2 _ _ hz))) hxo
   refine Aj3.fn (fun _ _ => Dkj _) ((Cqz main H' fb nb yf yi yc z x hxo ham hour (q x) (h2 _ _ nfn vf2) h1 hq').mono ?_)
   rintro _ H3 ⟨rfl, h3, h4⟩
   refine ⟨rfl, ⟨⟨_, h3, fun hL => ?_⟩, fun b x hb hx => h4 b _ hb (h2 b x hb hx)⟩, fun b x hb hx => h4 b x (fun e => hb (by rw [e]; exact hn _ _ vnb)) hx⟩
   rw [List.length_append, List.length_singleton] at hL
   have h5 := hz (by omega)
   have h6 := Dko q L
   rw [Cwe]
   cases hqx : q x with
   | true =>
    simp only [hqx, if_true]
    rw [h5, w64 _ (by omega) (by omega)]
    simp
   | false =>
    simp only [hqx, Bool.false_eq_true, if_false]
    rw [h5]
    simp
 refine (Aya main hC H2 v l (fun L H' h _ => hv.move fun x p c fr hx => ⟨p, h.2 x _ (fun e => by rw [e, h0nb] at hx; cases hx) (l2 _ _ hx)⟩) hok (fun _ _ _ _ _ _ => trivial) hl [] ⟨⟨0, vnb, fun _ => rfl⟩, fun _ _ _ hx => hx⟩).runs.mono ?_
 rintro _ H3 ⟨rfl, ⟨⟨z, h3, hz⟩, h4⟩, _⟩
 rw [List.nil_append] at hz
 obtain rfl := hz (by have := Bju l hok; omega)
 clear hz
 have l3 : Aqk (H.le H3) := fun b x hx => h4 b x (fun e => by rw [e, h0nb] at hx; cases hx) (l2 _ _ hx)
 clear hC h4 hq hn
 generalize cntL q (Az0 l) = z at *
 ((try (refine @unH _ ?_; refine zX Bqf ?_)); (try (refine hK _ _ ?_; clear hK K; (try simp only [nq, ↓reduceIte, Nat.reduceEqDiff]))); refine @unH _ ?_; refine zA Bqf ?_; (repeat (refine inC ?_; intro hc)); try (refine inK ?_; intro K hK))
 (refine @unH _ ?_; refine z9 Tryz.results47 ?_)
 exact ⟨trivial, l3⟩
theorem Cwz {main : Md} {y : Value} {A : Int -> Int -> Hint -> Prop} (H2 : Hp) (ob : Nat) (O : List (Int × Int × Hint) -> Obj) (vo : H2 ob = some (true, O []))
  (h : ∀ L H' ham hour x, H' ob = some (true, O L) -> (∀ b z, b ≠ ob -> H2 b = some z -> H' b = some z) -> Axq x -> A ham hour x -> Aj3 Tryz.prog main y #[.int .i64 ham, .int .i64 hour, .agg (Axv x).toArray] H' fun e H'' => e = .returned (.tuple #[]) /\ H'' ob = some (true, O (L ++ [(ham, hour, x)])) /\ ∀ b z, b ≠ ob -> H' b = some z -> H'' b = some z) :
  HCl Tryz.prog main y A (fun b => H2 b ≠ none) (fun L H' => H' ob = some (true, O L) /\ ∀ b x, b ≠ ob -> H2 b = some x -> H' b = some x) := by
 have hn : ∀ b x, H2 b = some x -> H2 b ≠ none := fun b x h => by rw [h]; simp
 refine ⟨?_, ?_, ?_⟩
 ·rintro L H' H'' ⟨h1, h2⟩ hk
  exact ⟨hk _ _ h1, fun b x hb hx => hk _ _ (h2 b x hb hx)⟩
 ·rintro L H' b ⟨h1, h2⟩ hb
  by_cases e : b = ob
  ·subst e; rw [h1]; simp
  ·cases hx : H2 b with
   | none => exact absurd hx hb
   | some x => rw [h2 b x e hx]; simp
 ·rintro L H' ham hour x ⟨h1, h2⟩ hxo hA
  refine (h L H' ham hour x h1 h2 hxo hA).mono ?_
  rintro e H3 ⟨rfl, h3, h4⟩
  exact ⟨rfl, ⟨h3, fun b x hb hx => h4 b _ hb (h2 b x hb hx)⟩, fun b x hb hx => h4 b x (fun e => hb (by rw [e]; exact hn _ _ vo)) hx⟩
theorem Bjb (main : Md) {A : Int -> Int -> Hint -> Prop} {yf : Fn} {yi yc : Array Value} (H H2 : Hp) (v : Value) (l : List Trail) (hv : SlT H v l) (ob : Nat) (O : List (Int × Int × Hint) -> Obj) (l2 : H.le H2) (h0 : H ob = none) (vo : H2 ob = some (true, O []))
  (h : ∀ L H' ham hour x, H' ob = some (true, O L) -> (∀ b z, b ≠ ob -> H2 b = some z -> H' b = some z) -> Axq x -> A ham hour x -> Aj3 Tryz.prog main (.func yf yi yc) #[.int .i64 ham, .int .i64 hour, .agg (Axv x).toArray] H' fun e H'' => e = .returned (.tuple #[]) /\ H'' ob = some (true, O (L ++ [(ham, hour, x)])) /\ ∀ b z, b ≠ ob -> H' b = some z -> H'' b = some z)
  (hok : ∀ t ∈ l, Ax6 t) (hA : ∀ t ∈ l, ∀ (h : Nat) x, t.hs[h]? = some x -> x.some = true -> A t.ham h x) (hl : l.length <= 1000) :
  FnX Tryz.prog main 59 #[v, .func yf yi yc] H2 fun e H' => e = .returned (.tuple #[]) /\ H' ob = some (true, O (Az0 l)) /\ ∀ b x, b ≠ ob -> H2 b = some x -> H' b = some x :=
 (Aya main (Cwz H2 ob O vo h) H2 v l (fun L H' h _ => hv.move fun x p c fr hx => ⟨p, h.2 x _ (fun e => by rw [e, h0] at hx; cases hx) (l2 _ _ hx)⟩) hok hA hl [] ⟨vo, fun _ _ _ hx => hx⟩).mono fun e H' ⟨h1, h2, _⟩ => ⟨h1, by simpa using h2.1, h2.2⟩
end Go.Proofs.YtkcomnkgdifboaaGreatDoor
end
section
namespace Go.Proofs.YtkcomnkgdifboaaGreatDoor
open Go Go.X
def Azh := And.intro (fun H => Aqp (H := H) Tryz.underlying28 rfl Tryz.sizeOf28) (And.intro @Bvl (And.intro (fun H => Aq6 (H := H) Tryz.underlying22) (And.intro (fun H => Aqu (H := H) Tryz.underlying22 Tryz.sizeOf3) (And.intro (fun H => Aqg (H := H) Tryz.underlying3 rfl) (And.intro (fun H => Aqd (H := H) Tryz.underlying28 (i := 0) rfl (off := 0) rfl Tryz.sizeOf3) (And.intro @Ayw (And.intro @Cqt @Bvm)))))))
theorem Ajs {s : Sm} (ok : SmOk s) : ∀ t ∈ Axm s, Ax6 t := fun t ht => by
 simp only [Axm, List.mem_map] at ht
 obtain ⟨i, _, rfl⟩ := ht
 exact Awy ok i
theorem Azv (s : Sm) : (Axm s).length = s.hampers.length := by simp [Axm]
def susp (s : Sm) : List (Int × Int × Hint) := Az0 (Axm s)
def Azn (s : Sm) : Nat := cntL (fun _ => true) (susp s)
theorem Avq (s : Sm) : Azn s = (susp s).length := by
 unfold Azn cntL
 rw [List.filter_eq_self.2 (fun _ _ => rfl)]
def begE (s : Sm) (ps : List Int) (hour : Int) : Int := if ps.any (fun p => decide (p < 0) || decide (s.places - 1 < p)) then 3 else if hour < 0 ∨ 12 < hour then 1 else if Azn s = 0 then 11 else 0
theorem Dz5 (main : Md) (H : Hp) : IsF Tryz.prog main H (.func (.func 48) #[] #[]) (fun _ => true) := Dxx (fun _ _ => Dj4 _) fun H' x _ hx => Cvq main H' x hx
theorem Ayc (main : Md) (H : Hp) (s : Sm) (ok : SmOk s) (v : Value) (hv : SlT H v (Axm s)) :
  FnX Tryz.prog main 47 #[v, .func (.func 48) #[] #[]] H fun e H' => e = .returned (.int .i64 (Azn s : Nat)) /\ H.le H' :=
 Awx main H v _ hv (Ajs ok) (by rw [Azv]; have := ok.h1; omega) _ _ _ _ (Dz5 main H)
theorem Az7 (H : Hp) (s : Sm) (dv hv nv : Value) (hs : SmIn H dv hv nv s) (ok : SmOk s) (hour : Int) (pv : Value) (ps : List Int) (hp : SlI H pv ps) (hpl : ps.length <= 1000) :
  FnX Tryz.prog (.wg Tryz.prog) 46 #[smV s.places dv hv nv, .int .i64 hour, pv] H fun e H' => ∃ v, e = .returned (.tuple #[v, .int .i64 (begE s ps hour)]) /\ H.le H' /\ (begE s ps hour = 0 ∨ begE s ps hour = 11 -> SlT H' v (Axm s)) /\ (begE s ps hour = 3 ∨ begE s ps hour = 1 -> v = .slice none 0 0) := by
 obtain ⟨da, dc, ha, kc, na, nc, rfl, rfl, rfl, l1, l2, l3⟩ := hs.forms
 obtain ⟨pa, pc, rfl, hpc, _⟩ := id hp
 refine Aqm Tryz.func46 rfl Tryz.ntmps46 (by simp) ?_
 (refine @unH _ ?_; refine zA Azh ?_; (repeat (refine inC ?_; intro hc)); try (refine inK ?_; intro K hK))
 (intro sb hsb; generalize hG : Hp.set _ sb _ = H1; have lH1 := Aqc hG hsb; have vsb := Aqb hG; clear hG)
 have hs1 := hs.le lH1
 have hp1 := hp.le lH1
 have q0 := ok.p0
 have q6 := ok.p1
 clear hsb
 ((try (refine @unH _ ?_; refine zX Azh ?_)); (try (refine hK _ _ ?_; clear hK K; (try simp only [nq, ↓reduceIte, Nat.reduceEqDiff]))); refine @unH _ ?_; refine zA Azh ?_; (repeat (refine inC ?_; intro hc)); try (refine inK ?_; intro K hK))
 refine (Avy _ H1 s _ _ _ hs1 ok).runs.mono ?_
 rintro _ H2 ⟨rfl, lH2⟩
 have l02 := Hp.le_trans lH1 lH2
 have hs2 := hs1.le lH2
 have hp2 := hp1.le lH2
 have vs2 := lH2 _ _ vsb
 clear vsb lH1 lH2 hs1 hp1 hs hp
 ((try (refine @unH _ ?_; refine zX Azh ?_)); (try (refine hK _ _ ?_; clear hK K; (try simp only [nq, ↓reduceIte, Nat.reduceEqDiff]))); refine @unH _ ?_; refine zA Azh ?_; (repeat (refine inC ?_; intro hc)); try (refine inK ?_; intro K hK))
 refine Axe (fun w a' H' => ∃ e, ∃ k : Nat, w = ps.length - k /\ k <= ps.length /\ a' = act 38 e [] /\ e 1 = .int .i64 hour /\ e 3 = .pointer (some ⟨sb, 0, none⟩) /\ e 17 = .slice pa ps.length pc /\ e 18 = .int .i64 ps.length /\ e 19 = .int .i64 (k : Nat) /\ (ps.take k).any (fun p => decide (p < 0) || decide (s.places - 1 < p)) = false /\ H' = H2) (n := ps.length) ?_ ?_
 ·exact ⟨_, 0, by omega, by omega, rfl, rfl, rfl, rfl, rfl, rfl, rfl, rfl⟩
 ·rintro w a' H3 ⟨e, k, rfl, hk, rfl, e1, e3, e17, e18, e19, hany, hHQ⟩
  rw [hHQ]; clear hHQ H3
  by_cases hlt : k < ps.length
  ·obtain ⟨b, o, q, c, fr, rfl, hb, hc'⟩ := hp2.get (List.getElem?_eq_getElem hlt)
   have hstep : (ps.take (k + 1)).any (fun p => decide (p < 0) || decide (s.places - 1 < p)) = (decide (ps[k] < 0) || decide (s.places - 1 < ps[k])) := by
    rw [List.take_add_one, List.getElem?_eq_getElem hlt, List.any_append, hany]
    simp
   have hall : (decide (ps[k] < 0) || decide (s.places - 1 < ps[k])) = true -> ps.any (fun p => decide (p < 0) || decide (s.places - 1 < p)) = true := fun h => List.any_eq_true.2 ⟨_, List.getElem_mem hlt, h⟩
   generalize ps[k] = p at *
   replace hany : Aqk _ := hany
   replace hstep : Aqk _ := hstep
   replace hall : Aqk _ := hall
   (refine @unH _ ?_; refine zA Azh ?_; (repeat (refine inC ?_; intro hc)); try (refine inK ?_; intro K hK))
   refine (Axj _ H2 p 0 (s.places - 1)).runs.mono ?_
   rintro _ _ ⟨rfl, hQ⟩
   rw [hQ]
   clear hQ
   cases hbad : (decide (p < 0) || decide (s.places - 1 < p)) with
   | true =>
    have hE : Aqk (begE s ps hour = 3) := show begE s ps hour = 3 by
     unfold begE
     rw [(show _ -> _ from hall) hbad, if_pos rfl]
    ((try (refine @unH _ ?_; refine zX Azh ?_)); (try (refine hK _ _ ?_; clear hK K; (try simp only [nq, ↓reduceIte, Nat.reduceEqDiff]))); refine @unH _ ?_; refine zA Azh ?_; (repeat (refine inC ?_; intro hc)); try (refine inK ?_; intro K hK))
    (refine @unH _ ?_; refine zB Tryz.results46 ?_)
    rw [show begE s ps hour = 3 from hE]
    exact ⟨_, rfl, l02, by simp, fun _ => rfl⟩
   | false =>
    rw [hbad] at hstep
    ((try (refine @unH _ ?_; refine zX Azh ?_)); (try (refine hK _ _ ?_; clear hK K; (try simp only [nq, ↓reduceIte, Nat.reduceEqDiff]))); refine @unH _ ?_; refine zA Azh ?_; (repeat (refine inC ?_; intro hc)); try (refine inK ?_; intro K hK))
    exact ⟨_, by omega, _, k + 1, rfl, by omega, rfl, e1, e3, e17, e18, rfl, hstep, by trivial⟩
  ·obtain rfl : k = ps.length := by omega
   rw [List.take_length] at hany
   replace hany : Aqk _ := hany
   (refine @unH _ ?_; refine zA Azh ?_; (repeat (refine inC ?_; intro hc)); try (refine inK ?_; intro K hK))
   refine (Axj _ H2 hour 0 12).runs.mono ?_
   rintro _ _ ⟨rfl, hQ⟩
   rw [hQ]
   clear hQ
   by_cases hh : hour < 0 ∨ 12 < hour
   ·rw [show (decide (hour < 0) || decide (12 < hour)) = true by simp; omega]
    have hE : Aqk (begE s ps hour = 1) := show begE s ps hour = 1 by
     unfold begE
     rw [show ps.any _ = false from hany, if_neg (by simp), if_pos hh]
    ((try (refine @unH _ ?_; refine zX Azh ?_)); (try (refine hK _ _ ?_; clear hK K; (try simp only [nq, ↓reduceIte, Nat.reduceEqDiff]))); refine @unH _ ?_; refine zA Azh ?_; (repeat (refine inC ?_; intro hc)); try (refine inK ?_; intro K hK))
    (refine @unH _ ?_; refine zB Tryz.results46 ?_)
    rw [show begE s ps hour = 1 from hE]
    exact ⟨_, rfl, l02, by simp, fun _ => rfl⟩
   ·rw [show (decide (hour < 0) || decide (12 < hour)) = false by simp; omega]
    have hE : Aqk (begE s ps hour = if Azn s = 0 then 11 else 0) := show begE s ps hour = _ by
     unfold begE
     rw [show ps.any _ = false from hany, if_neg (by simp), if_neg hh]
    ((try (refine @unH _ ?_; refine zX Azh ?_)); (try (refine hK _ _ ?_; clear hK K; (try simp only [nq, ↓reduceIte, Nat.reduceEqDiff]))); refine @unH _ ?_; refine zA Azh ?_; (repeat (refine inC ?_; intro hc)); try (refine inK ?_; intro K hK))
    refine (Bqd H2 s _ _ _ hs2 ok).runs.mono ?_
    rintro _ H4 ⟨v, rfl, hv, lH4⟩
    have l04 := Hp.le_trans l02 lH4
    clear lH4 hs2 hp2 vs2
    ((try (refine @unH _ ?_; refine zX Azh ?_)); (try (refine hK _ _ ?_; clear hK K; (try simp only [nq, ↓reduceIte, Nat.reduceEqDiff]))); refine @unH _ ?_; refine zA Azh ?_; (repeat (refine inC ?_; intro hc)); try (refine inK ?_; intro K hK))
    refine (Ayc _ H4 s ok v hv).runs.mono ?_
    rintro _ H5 ⟨rfl, lH5⟩
    have hv5 := hv.le lH5
    have l05 := Hp.le_trans l04 lH5
    by_cases hz : Azn s = 0
    ·rw [hz] at hE ⊢
     rw [if_pos rfl] at hE
     replace hE : Aqk _ := hE
     clear hz
     ((try (refine @unH _ ?_; refine zX Azh ?_)); (try (refine hK _ _ ?_; clear hK K; (try simp only [nq, ↓reduceIte, Nat.reduceEqDiff]))); refine @unH _ ?_; refine zA Azh ?_; (repeat (refine inC ?_; intro hc)); try (refine inK ?_; intro K hK))
     (refine @unH _ ?_; refine zB Tryz.results46 ?_)
     rw [show begE s ps hour = 11 from hE]
     exact ⟨_, rfl, l05, fun _ => hv5, by simp⟩
    ·rw [if_neg hz] at hE
     replace hE : Aqk _ := hE
     have hz' : ((Azn s : Nat) : Int) ≠ 0 := by omega
     ((try (refine @unH _ ?_; refine zX Azh ?_)); (try (refine hK _ _ ?_; clear hK K; (try simp only [nq, ↓reduceIte, Nat.reduceEqDiff]))); refine @unH _ ?_; refine zA Azh ?_; (repeat (refine inC ?_; intro hc)); try (refine inK ?_; intro K hK))
     (refine @unH _ ?_; refine zB Tryz.results46 ?_)
     rw [show begE s ps hour = 0 from hE]
     exact ⟨_, rfl, l05, fun _ => hv5, by simp⟩
def Awb := And.intro (fun H => Aqp (H := H) Tryz.underlying28 rfl Tryz.sizeOf28) (And.intro @Ayx @Bvm)
def Ajd := And.intro (fun H => Aqp (H := H) Tryz.underlying28 rfl Tryz.sizeOf28) (And.intro @Ayx (And.intro (fun H => Aqv (H := H) (P := Tryz.prog) (h := Tryz.zeroValue107)) (And.intro (fun H => Axc (H := H) Tryz.sizeOf107) (And.intro @Bxf (And.intro (fun H => Aqg (H := H) Tryz.underlying107 rfl) @Dkd)))))
def Bqg := And.intro (fun H => Aqp (H := H) Tryz.underlying28 rfl Tryz.sizeOf28) (And.intro @Cqt @Bvm)
def Bj4 := And.intro (fun H => Aqg (H := H) Tryz.underlying107 rfl) (And.intro @Cv5 (fun H => Axc (H := H) Tryz.sizeOf107))
theorem nilS (H : Hp) : SlI H (.slice none 0 0) [] := ⟨none, 0, rfl, Nat.le_refl _, fun i x h => by simp at h⟩
theorem Bzf (s : Sm) : begE s [] 0 = if Azn s = 0 then 11 else 0 := by
 unfold begE
 simp
theorem Cxo (H : Hp) (s : Sm) (dv hv nv : Value) (hs : SmIn H dv hv nv s) (ok : SmOk s) :
  FnX Tryz.prog (.wg Tryz.prog) 17 #[smV s.places dv hv nv] H fun e H' => e = .returned (.tuple #[.int .i64 (Azn s : Nat), .int .i64 0]) /\ H.le H' := by
 obtain ⟨da, dc, ha, kc, na, nc, rfl, rfl, rfl, l1, l2, l3⟩ := hs.forms
 refine Aqm Tryz.func17 rfl Tryz.ntmps17 (by simp) ?_
 (refine @unH _ ?_; refine zA Awb ?_; (repeat (refine inC ?_; intro hc)); try (refine inK ?_; intro K hK))
 (intro sb hsb; generalize hG : Hp.set _ sb _ = H1; have lH1 := Aqc hG hsb; have vsb := Aqb hG; clear hG)
 ((try (refine @unH _ ?_; refine zX Awb ?_)); (try (refine hK _ _ ?_; clear hK K; (try simp only [nq, ↓reduceIte, Nat.reduceEqDiff]))); refine @unH _ ?_; refine zA Awb ?_; (repeat (refine inC ?_; intro hc)); try (refine inK ?_; intro K hK))
 refine (Az7 H1 s _ _ _ (hs.le lH1) ok 0 _ [] (nilS H1) (by simp)).runs.mono ?_
 rw [Bzf]
 rintro _ H2 ⟨v, rfl, lH2, hv, _⟩
 have l02 := Hp.le_trans lH1 lH2
 clear lH1 lH2 vsb hs hsb
 by_cases hz : Azn s = 0
 ·rw [if_pos hz]
  have hz' : Aqk (Azn s = 0) := hz
  replace hz' : Aqk _ := hz'
  clear hz hv
  ((try (refine @unH _ ?_; refine zX Awb ?_)); (try (refine hK _ _ ?_; clear hK K; (try simp only [nq, ↓reduceIte, Nat.reduceEqDiff]))); refine @unH _ ?_; refine zA Awb ?_; (repeat (refine inC ?_; intro hc)); try (refine inK ?_; intro K hK))
  (refine @unH _ ?_; refine zB Tryz.results17 ?_)
  exact ⟨by rw [show Azn s = 0 from hz']; rfl, l02⟩
 ·rw [if_neg hz]
  rw [if_neg hz] at hv
  have hv2 := hv (.inl rfl)
  clear hv
  ((try (refine @unH _ ?_; refine zX Awb ?_)); (try (refine hK _ _ ?_; clear hK K; (try simp only [nq, ↓reduceIte, Nat.reduceEqDiff]))); refine @unH _ ?_; refine zA Awb ?_; (repeat (refine inC ?_; intro hc)); try (refine inK ?_; intro K hK))
  refine (Ayc _ H2 s ok v hv2).runs.mono ?_
  rintro _ H3 ⟨rfl, lH3⟩
  have l03 := Hp.le_trans l02 lH3
  ((try (refine @unH _ ?_; refine zX Awb ?_)); (try (refine hK _ _ ?_; clear hK K; (try simp only [nq, ↓reduceIte, Nat.reduceEqDiff]))); refine @unH _ ?_; refine zA Awb ?_; (repeat (refine inC ?_; intro hc)); try (refine inK ?_; intro K hK))
  (refine @unH _ ?_; refine zB Tryz.results17 ?_)
  exact ⟨trivial, l03⟩
theorem Cym (H : Hp) (s : Sm) (dv hv nv : Value) (hs : SmIn H dv hv nv s) (ok : SmOk s) :
  FnX Tryz.prog (.wg Tryz.prog) 55 #[smV s.places dv hv nv] H fun e H' => e = .returned (.bool (decide (0 < Azn s))) /\ H.le H' := by
 obtain ⟨da, dc, ha, kc, na, nc, rfl, rfl, rfl, l1, l2, l3⟩ := hs.forms
 refine Aqm Tryz.func55 rfl Tryz.ntmps55 (by simp) ?_
 (refine @unH _ ?_; refine zA Bqg ?_; (repeat (refine inC ?_; intro hc)); try (refine inK ?_; intro K hK))
 (intro sb hsb; generalize hG : Hp.set _ sb _ = H1; have lH1 := Aqc hG hsb; have vsb := Aqb hG; clear hG)
 ((try (refine @unH _ ?_; refine zX Bqg ?_)); (try (refine hK _ _ ?_; clear hK K; (try simp only [nq, ↓reduceIte, Nat.reduceEqDiff]))); refine @unH _ ?_; refine zA Bqg ?_; (repeat (refine inC ?_; intro hc)); try (refine inK ?_; intro K hK))
 refine (Bqd H1 s _ _ _ (hs.le lH1) ok).runs.mono ?_
 rintro _ H2 ⟨v, rfl, hv, lH2⟩
 have l02 := Hp.le_trans lH1 lH2
 ((try (refine @unH _ ?_; refine zX Bqg ?_)); (try (refine hK _ _ ?_; clear hK K; (try simp only [nq, ↓reduceIte, Nat.reduceEqDiff]))); refine @unH _ ?_; refine zA Bqg ?_; (repeat (refine inC ?_; intro hc)); try (refine inK ?_; intro K hK))
 refine (Ayc _ H2 s ok v hv).runs.mono ?_
 rintro _ H3 ⟨rfl, lH3⟩
 have l03 := Hp.le_trans l02 lH3
 ((try (refine @unH _ ?_; refine zX Bqg ?_)); (try (refine hK _ _ ?_; clear hK K; (try simp only [nq, ↓reduceIte, Nat.reduceEqDiff]))); refine @unH _ ?_; refine zA Bqg ?_; (repeat (refine inC ?_; intro hc)); try (refine inK ?_; intro K hK))
 (refine @unH _ ?_; refine z9 Tryz.results55 ?_)
 refine ⟨?_, l03⟩
 have : decide ((0 : Int) < ((Azn s : Nat) : Int)) = decide (0 < Azn s) := by
  rw [Bool.eq_iff_iff]
  simp
 rw [<- this]
def Ckd (L : List (Int × Int × Hint)) : Nat := oOf (L.map fun x => x.1)
theorem Bkd (main : Md) (H : Hp) (ob m : Nat) (ham hour : Int) (x : Hint) (hm : m < 64) (h0 : 0 <= ham) (h1 : ham < 6) (vo : H ob = some (true, .cells #[.int .u8 m] 107 (0, 0))) :
  FnX Tryz.prog main 60 #[.int .i64 ham, .int .i64 hour, .agg (Axv x).toArray, .pointer (some ⟨ob, 0, none⟩)] H fun e H' => e = .returned (.tuple #[]) /\ H' ob = some (true, .cells #[.int .u8 (Avd m ham.toNat : Nat)] 107 (0, 0)) /\ ∀ b x, b ≠ ob -> H b = some x -> H' b = some x := by
 refine Aqm Tryz.func60 rfl Tryz.ntmps60 (by simp) ?_
 (refine @unH _ ?_; refine zA Bj4 ?_; (repeat (refine inC ?_; intro hc)); try (refine inK ?_; intro K hK))
 (intro b hb; generalize hG : Hp.set _ b _ = H1; have lH1 := Aqc hG hb; have vb := Aqb hG; clear hG)
 have vo1 := lH1 _ _ vo
 ((try (refine @unH _ ?_; refine zX Bj4 ?_)); (try (refine hK _ _ ?_; clear hK K; (try simp only [nq, ↓reduceIte, Nat.reduceEqDiff]))); refine @unH _ ?_; refine zA Bj4 ?_; (repeat (refine inC ?_; intro hc)); try (refine inK ?_; intro K hK))
 refine (Bk7 main H1 m ham hm h0 h1).runs.mono ?_
 rintro _ _ ⟨rfl, hQ⟩
 rw [hQ]
 clear hQ
 ((try (refine @unH _ ?_; refine zX Bj4 ?_)); (try (refine hK _ _ ?_; clear hK K; (try simp only [nq, ↓reduceIte, Nat.reduceEqDiff]))); refine @unH _ ?_; refine zA Bj4 ?_; (repeat (refine inC ?_; intro hc)); try (refine inK ?_; intro K hK))
 (refine @unH _ ?_; refine zD Tryz.results60 ?_)
 exact ⟨by trivial, Axg, fun b x hb hx => by rw [Aqw hb]; exact lH1 _ _ hx⟩
theorem Bxs {s : Sm} (ok : SmOk s) : ∀ t ∈ Axm s, 0 <= t.ham /\ t.ham < 3 := fun t ht => by
 simp only [Axm, List.mem_map, List.mem_range] at ht
 obtain ⟨i, hi, rfl⟩ := ht
 have := ok.h1
 exact ⟨by show (0 : Int) <= (i : Int); omega, by show (i : Int) < 3; omega⟩
theorem Cje {s : Sm} (ok : SmOk s) : ∀ x ∈ susp s, 0 <= x.1 /\ x.1 < 3 := fun x hx => by
 unfold susp Az0 at hx
 obtain ⟨t, ht, hx⟩ := List.mem_flatMap.1 hx
 unfold Avf at hx
 obtain ⟨y, _, rfl⟩ := List.mem_map.1 hx
 exact Bxs ok t ht
def Dxr (L : List (Int × Int × Hint)) : Nat := L.foldl (fun m x => if 0 <= x.1 /\ x.1 < 3 then Avd m x.1.toNat else m) 0
theorem Dxt (L : List (Int × Int × Hint)) : Dxr L < 64 := by
 have key : ∀ (L : List (Int × Int × Hint)) (m : Nat), m < 64 -> L.foldl (fun m x => if 0 <= x.1 /\ x.1 < 3 then Avd m x.1.toNat else m) m < 64 := by
  intro L
  induction L with
  | nil => intro m h; exact h
  | cons x L ih =>
   intro m h
   rw [List.foldl_cons]
   refine ih _ ?_
   split
   ·exact Cja h (by omega) (by omega)
   ·exact h
 exact key L 0 (by decide)
theorem Dxs {L : List (Int × Int × Hint)} (h : ∀ x ∈ L, 0 <= x.1 /\ x.1 < 3) : Dxr L = Ckd L := by
 have key : ∀ (L : List (Int × Int × Hint)) (m : Nat), (∀ x ∈ L, 0 <= x.1 /\ x.1 < 3) -> L.foldl (fun m x => if 0 <= x.1 /\ x.1 < 3 then Avd m x.1.toNat else m) m = (L.map fun x => x.1).foldl (fun m x => Avd m x.toNat) m := by
  intro L
  induction L with
  | nil => intro m _; rfl
  | cons x L ih =>
   intro m h
   rw [List.foldl_cons, List.map_cons, List.foldl_cons, if_pos (h x List.mem_cons_self), ih _ (fun y hy => h y (List.mem_cons_of_mem _ hy))]
 exact key L 0 h
theorem sSuspects_spec (H : Hp) (s : Sm) (dv hv nv : Value) (hs : SmIn H dv hv nv s) (ok : SmOk s) :
  FnX Tryz.prog (.wg Tryz.prog) 26 #[smV s.places dv hv nv] H fun e H' => ∃ v, e = .returned (.tuple #[v, .int .i64 (if Azn s = 0 then 11 else 0)]) /\ SlI H' v (if Azn s = 0 then [] else Ay6 (Ckd (susp s))) /\ H.le H' := by
 obtain ⟨da, dc, ha, kc, na, nc, rfl, rfl, rfl, l1, l2, l3⟩ := hs.forms
 have hm64 : Ckd (susp s) < 64 := Cyc _ 0 (by decide) fun x hx => by
  obtain ⟨y, hy, rfl⟩ := List.mem_map.1 hx
  have := Cje ok y hy
  omega
 by_cases hz : Azn s = 0
 ·simp only [if_pos hz]
  refine Aqm Tryz.func26 rfl Tryz.ntmps26 (by simp) ?_
  (refine @unH _ ?_; refine zA Ajd ?_; (repeat (refine inC ?_; intro hc)); try (refine inK ?_; intro K hK))
  (intro sb hsb; generalize hG : Hp.set _ sb _ = H1; have lH1 := Aqc hG hsb; have vsb := Aqb hG; clear hG)
  ((try (refine @unH _ ?_; refine zX Ajd ?_)); (try (refine hK _ _ ?_; clear hK K; (try simp only [nq, ↓reduceIte, Nat.reduceEqDiff]))); refine @unH _ ?_; refine zA Ajd ?_; (repeat (refine inC ?_; intro hc)); try (refine inK ?_; intro K hK))
  refine (Az7 H1 s _ _ _ (hs.le lH1) ok 0 _ [] (nilS H1) (by simp)).runs.mono ?_
  rw [Bzf, if_pos hz]
  rintro _ H2 ⟨v, rfl, lH2, hv, _⟩
  have l02 := Hp.le_trans lH1 lH2
  clear lH1 lH2 vsb hs hsb
  clear hz hv
  ((try (refine @unH _ ?_; refine zX Ajd ?_)); (try (refine hK _ _ ?_; clear hK K; (try simp only [nq, ↓reduceIte, Nat.reduceEqDiff]))); refine @unH _ ?_; refine zA Ajd ?_; (repeat (refine inC ?_; intro hc)); try (refine inK ?_; intro K hK))
  (refine @unH _ ?_; refine zB Tryz.results26 ?_)
  exact ⟨_, rfl, nilS _, l02⟩
 ·simp only [if_neg hz]
  refine Aqm Tryz.func26 rfl Tryz.ntmps26 (by simp) ?_
  (refine @unH _ ?_; refine zA Ajd ?_; (repeat (refine inC ?_; intro hc)); try (refine inK ?_; intro K hK))
  (intro sb hsb; generalize hG : Hp.set _ sb _ = H1; have lH1 := Aqc hG hsb; have vsb := Aqb hG; clear hG)
  ((try (refine @unH _ ?_; refine zX Ajd ?_)); (try (refine hK _ _ ?_; clear hK K; (try simp only [nq, ↓reduceIte, Nat.reduceEqDiff]))); refine @unH _ ?_; refine zA Ajd ?_; (repeat (refine inC ?_; intro hc)); try (refine inK ?_; intro K hK))
  refine (Az7 H1 s _ _ _ (hs.le lH1) ok 0 _ [] (nilS H1) (by simp)).runs.mono ?_
  rw [Bzf, if_neg hz]
  rintro _ H2 ⟨v, rfl, lH2, hv, _⟩
  have l02 := Hp.le_trans lH1 lH2
  clear lH1 lH2 vsb hs hsb
  have hv2 := hv (.inl rfl)
  clear hv hz
  ((try (refine @unH _ ?_; refine zX Ajd ?_)); (try (refine hK _ _ ?_; clear hK K; (try simp only [nq, ↓reduceIte, Nat.reduceEqDiff]))); refine @unH _ ?_; refine zA Ajd ?_; (repeat (refine inC ?_; intro hc)); try (refine inK ?_; intro K hK))
  intro ob hob
  ((try (refine @unH _ ?_; refine zX Ajd ?_)); (try (refine hK _ _ ?_; clear hK K; (try simp only [nq, ↓reduceIte, Nat.reduceEqDiff]))); refine @unH _ ?_; refine zA Ajd ?_; (repeat (refine inC ?_; intro hc)); try (refine inK ?_; intro K hK))
  generalize hG : Hp.set H2 ob _ = H3
  have lH3 := Aqc hG hob
  have vo3 := Aqb hG
  have l03 := Hp.le_trans l02 lH3
  have h0ob := hob
  have h00 := Hp.le_none l02 hob
  clear hG hob
  have hone := Bjb (.wg Tryz.prog) (A := fun ham _ _ => 0 <= ham /\ ham < 3) (yf := .func 60) (yi := #[]) (yc := #[.pointer (some ⟨ob, 0, none⟩)]) H2 H3 v _ hv2 ob (fun L => .cells #[.int .u8 (Dxr L : Nat)] 107 (0, 0)) lH3 h0ob (by rw [vo3]; rfl) (fun L H' ham hour x h1 h2 hxo ⟨a0, a3⟩ => by
   refine Aj3.fn (fun _ _ => Dkc _) ((Bkd _ H' ob _ ham hour x (Dxt L) a0 (by omega) h1).mono ?_)
   rintro _ H4 ⟨rfl, h3, h4⟩
   refine ⟨rfl, ?_, h4⟩
   rw [h3]
   unfold Dxr
   rw [List.foldl_append, List.foldl_cons, List.foldl_nil, if_pos ⟨a0, a3⟩]) (Ajs ok) (fun t ht h x _ _ => Bxs ok t ht) (by rw [Azv]; have := ok.h1; omega)
  refine hone.runs.mono ?_
  clear hone
  rintro _ H4 ⟨rfl, h3, h4⟩
  rw [show Az0 (Axm s) = susp s from rfl, Dxs (Cje ok)] at h3
  have l04 : H.le H4 := fun b x hx => h4 b x (fun e => by rw [e, h00] at hx; cases hx) (l03 _ _ hx)
  replace h3 : H4 ob = some (true, .cells #[.int .u8 (Ckd (susp s) : Nat)] 107 (0, 0)) := h3
  clear h4 vo3 l03 l02
  ((try (refine @unH _ ?_; refine zX Ajd ?_)); (try (refine hK _ _ ?_; clear hK K; (try simp only [nq, ↓reduceIte, Nat.reduceEqDiff]))); refine @unH _ ?_; refine zA Ajd ?_; (repeat (refine inC ?_; intro hc)); try (refine inK ?_; intro K hK))
  refine (Ck3 _ H4 _ hm64).runs.mono ?_
  rintro _ H5 ⟨w, rfl, hw, lH5⟩
  have l05 := Hp.le_trans l04 lH5
  ((try (refine @unH _ ?_; refine zX Ajd ?_)); (try (refine hK _ _ ?_; clear hK K; (try simp only [nq, ↓reduceIte, Nat.reduceEqDiff]))); refine @unH _ ?_; refine zA Ajd ?_; (repeat (refine inC ?_; intro hc)); try (refine inK ?_; intro K hK))
  (refine @unH _ ?_; refine zB Tryz.results26 ?_)
  exact ⟨_, rfl, hw, l05⟩
def Ak2 := And.intro (fun H => Aqp (H := H) Tryz.underlying28 rfl Tryz.sizeOf28) (And.intro @Azb (And.intro @Ayx (And.intro @Cv4 @Dkb)))
def Awc := And.intro (fun H => Aqd (H := H) Tryz.underlying91 (i := 0) rfl (off := 0) rfl Tryz.sizeOf3) (And.intro (fun H => Aqg (H := H) Tryz.underlying3 rfl) (fun H => Aqd (H := H) Tryz.underlying91 (i := 1) rfl (off := 1) rfl Tryz.sizeOf3))
def Aw3 := And.intro (fun H => Aqv (H := H) (P := Tryz.prog) (h := Tryz.zeroValue91)) (And.intro @Bxf (And.intro (fun H => Aqp (H := H) Tryz.underlying91 rfl Tryz.sizeOf91) (fun H => Aqs (H := H) Tryz.sizeOf91)))
def Bqj := And.intro (fun H => Aqg (H := H) Tryz.underlying3 rfl) (And.intro (fun H => Aqd (H := H) Tryz.underlying94 (i := 0) rfl (off := 0) rfl Tryz.sizeOf92) (And.intro (fun H => Aq5 (H := H) Tryz.underlying92 Tryz.sizeOf91) (And.intro (fun H => Aqd (H := H) Tryz.underlying91 (i := 0) rfl (off := 0) rfl Tryz.sizeOf3) (And.intro @Bvn (fun H => Aqd (H := H) Tryz.underlying91 (i := 1) rfl (off := 1) rfl Tryz.sizeOf3)))))
def gB (x : Hint) (p : Int) : Bd := x.bs.getD p.toNat bd0
theorem Czx {x : Hint} (h : Axq x) {p : Int} (h0 : 0 <= p) (h1 : p < 6) : x.bs[p.toNat]? = some (gB x p) := by
 unfold gB
 rw [List.getD, List.getElem?_eq_getElem (by rw [h.b]; omega)]
 rfl
abbrev bdO (b : Bd) : Obj := .cells #[.int .i64 b.lo, .int .i64 b.hi, .bool b.some] 91 (0, 0)
theorem Dqp (b : Bd) : BdC #[.int .i64 b.lo, .int .i64 b.hi, .bool b.some] 0 b := ⟨rfl, rfl, rfl⟩
theorem Cjq (b b' : Bd) : Bj7 #[.int .i64 b.lo, .int .i64 b.hi, .bool b.some] 0 b' = #[.int .i64 b'.lo, .int .i64 b'.hi, .bool b'.some] := by simp [Bj7]
theorem Avu (main : Md) (H : Hp) (bb : Nat) (b : Bd) (x : Int) (vb : H bb = some (true, bdO b)) :
  FnX Tryz.prog main 65 #[.pointer (some ⟨bb, 0, none⟩), .int .i64 x] H fun e' H' => e' = .returned (.tuple #[]) /\ H' bb = some (true, bdO (Aza b x)) /\ ∀ y, y ≠ bb -> H' y = H y :=
 (Byt main H bb 0 b x _ _ vb (Dqp b)).mono fun e H' ⟨h1, h2, h3⟩ => ⟨h1, by rw [h2, Cjq], h3⟩
def arrF (p : Int) (b : Bd) (x : Int × Int × Hint) : Bd := Aza (Aza b (gB x.2.2 p).lo) (gB x.2.2 p).hi
theorem Bvd (main : Md) (H : Hp) (ob pb : Nat) (p : Int) (h0 : 0 <= p) (h1 : p < 6) (ham hour : Int) (x : Hint) (hx : Axq x) (b : Bd) (vo : H ob = some (true, bdO b)) (vp : H pb = some (true, .cells #[.int .i64 p] 3 (0, 0))) (hne : pb ≠ ob) :
  FnX Tryz.prog main 74 #[.int .i64 ham, .int .i64 hour, .agg (Axv x).toArray, .pointer (some ⟨ob, 0, none⟩), .pointer (some ⟨pb, 0, none⟩)] H fun e H' => e = .returned (.tuple #[]) /\ H' ob = some (true, bdO (arrF p b (ham, hour, x))) /\ ∀ b x, b ≠ ob -> H b = some x -> H' b = some x := by
 have hl := Ax1 hx
 have hex := Ak8 hx
 have hbd := Bqv hx (Czx hx h0 h1)
 obtain ⟨hb1, hb2, _⟩ := hbd
 unfold arrF
 simp only
 generalize gB x p = g at *
 generalize Axv x = HC at *
 refine Aqm Tryz.func74 rfl Tryz.ntmps74 (by simp) ?_
 (refine @unH _ ?_; refine zA Bqj ?_; (repeat (refine inC ?_; intro hc)); try (refine inK ?_; intro K hK))
 (intro b hb; generalize hG : Hp.set _ b _ = H1; have lH1 := Aqc hG hb; have vb := Aqb hG; clear hG)
 have vo1 := lH1 _ _ vo
 have vp1 := lH1 _ _ vp
 ((try (refine @unH _ ?_; refine zX Bqj ?_)); (try (refine hK _ _ ?_; clear hK K; (try simp only [nq, ↓reduceIte, Nat.reduceEqDiff]))); refine @unH _ ?_; refine zA Bqj ?_; (repeat (refine inC ?_; intro hc)); try (refine inK ?_; intro K hK))
 refine (Avu main H1 ob _ g.lo vo1).runs.mono ?_
 rintro _ H2 ⟨rfl, h21, h22⟩
 have nob : b ≠ ob := fun e => by rw [e, vo] at hb; cases hb
 have vp2 := (h22 pb hne).trans vp1
 have vb2 := (h22 b nob).trans vb
 have hf2 : ∀ c z, c ≠ ob -> H c = some z -> H2 c = some z := fun c z hc hz => (h22 c hc).trans (lH1 _ _ hz)
 clear vo1 vp1 vb h22 lH1
 ((try (refine @unH _ ?_; refine zX Bqj ?_)); (try (refine hK _ _ ?_; clear hK K; (try simp only [nq, ↓reduceIte, Nat.reduceEqDiff]))); refine @unH _ ?_; refine zA Bqj ?_; (repeat (refine inC ?_; intro hc)); try (refine inK ?_; intro K hK))
 refine (Avu main H2 ob _ g.hi h21).runs.mono ?_
 rintro _ H3 ⟨rfl, h31, h32⟩
 ((try (refine @unH _ ?_; refine zX Bqj ?_)); (try (refine hK _ _ ?_; clear hK K; (try simp only [nq, ↓reduceIte, Nat.reduceEqDiff]))); refine @unH _ ?_; refine zA Bqj ?_; (repeat (refine inC ?_; intro hc)); try (refine inK ?_; intro K hK))
 (refine @unH _ ?_; refine zD Tryz.results74 ?_)
 exact ⟨rfl, h31, fun c z hc hz => (h32 c hc).trans (hf2 c z hc hz)⟩
def arrL (L : List (Int × Int × Hint)) (p : Int) : Bd := L.foldl (arrF p) bd0
theorem Cvr (L : List (Int × Int × Hint)) (p : Int) (x : Int × Int × Hint) : arrL (L ++ [x]) p = arrF p (arrL L p) x := by simp [arrL]
theorem Bxx (main : Md) (H : Hp) (v : Value) (l : List Trail) (hv : SlT H v l) (hok : ∀ t ∈ l, Ax6 t) (hl : l.length <= 1000) (p : Int) (h0 : 0 <= p) (h1 : p < 6) :
  FnX Tryz.prog main 57 #[v, .int .i64 p] H fun e H' => e = .returned (.agg #[.int .i64 (arrL (Az0 l) p).lo, .int .i64 (arrL (Az0 l) p).hi, .bool (arrL (Az0 l) p).some]) /\ H.le H' := by
 obtain ⟨a, cap, rfl, hcap⟩ := hv.isSlice
 refine Aqm Tryz.func57 rfl Tryz.ntmps57 (by simp) ?_
 (refine @unH _ ?_; refine zA Aw3 ?_; (repeat (refine inC ?_; intro hc)); try (refine inK ?_; intro K hK))
 (intro pb hpb rb hrb; replace hrb : (Hp.set _ pb _) rb = none := hrb; generalize hG : Hp.set _ pb _ = H1 at hrb ⊢; have lH1 := Aqc hG hpb; have wpb := Aqb hG; clear hG; generalize hG : Hp.set _ rb _ = H2; have lH2 := Aqc hG hrb; have vrb := Aqb hG; have vpb := lH2 _ _ wpb; have npbrb := Aqr wpb hrb; clear hG wpb)
 have l02 := Hp.le_trans lH1 lH2
 have hv2 := hv.le l02
 have h0rb := Hp.le_none lH1 hrb
 clear lH1 lH2 hpb
 ((try (refine @unH _ ?_; refine zX Aw3 ?_)); (try (refine hK _ _ ?_; clear hK K; (try simp only [nq, ↓reduceIte, Nat.reduceEqDiff]))); refine @unH _ ?_; refine zA Aw3 ?_; (repeat (refine inC ?_; intro hc)); try (refine inK ?_; intro K hK))
 intro ob hob
 have nob := Aqr vpb hob
 have nrb := Aqr vrb hob
 generalize hG : Hp.set H2 ob _ = H3
 have lH3 := Aqc hG hob
 have vo3 := Aqb hG
 have vp3 := Aqi hG vpb nob
 have vr3 := Aqi hG vrb nrb
 have h00 := Hp.le_none l02 hob
 clear hG vpb vrb
 have hone := Bjb main (A := fun _ _ _ => True) (yf := .func 74) (yi := #[]) (yc := #[.pointer (some ⟨ob, 0, none⟩), .pointer (some ⟨pb, 0, none⟩)]) H2 H3 _ _ hv2 ob (fun L => bdO (arrL L p)) lH3 hob (by rw [vo3]; rfl) (fun L H' ham hour x g1 g2 hxo _ => by
  refine Aj3.fn (fun _ _ => Dkk _) ((Bvd main H' ob pb p h0 h1 ham hour x hxo _ g1 (g2 _ _ nob vp3) nob).mono ?_)
  rintro _ H4 ⟨rfl, h3, h4⟩
  exact ⟨rfl, by rw [h3, Cvr], h4⟩) hok (fun _ _ _ _ _ _ => trivial) hl
 ((try (refine @unH _ ?_; refine zX Aw3 ?_)); (try (refine hK _ _ ?_; clear hK K; (try simp only [nq, ↓reduceIte, Nat.reduceEqDiff]))); refine @unH _ ?_; refine zA Aw3 ?_; (repeat (refine inC ?_; intro hc)); try (refine inK ?_; intro K hK))
 refine hone.runs.mono ?_
 clear hone
 rintro _ H4 ⟨rfl, h3, h4⟩
 have l04 : H.le H4 := fun b x hx => h4 b x (fun e => by rw [e, h00] at hx; cases hx) (lH3 _ _ (l02 _ _ hx))
 have vr4 := h4 _ _ nrb vr3
 generalize arrL (Az0 l) p = w at *
 clear h4 vr3 vp3 vo3 l02 lH3 hv2
 ((try (refine @unH _ ?_; refine zX Aw3 ?_)); (try (refine hK _ _ ?_; clear hK K; (try simp only [nq, ↓reduceIte, Nat.reduceEqDiff]))); refine @unH _ ?_; refine zA Aw3 ?_; (repeat (refine inC ?_; intro hc)); try (refine inK ?_; intro K hK))
 (refine Axt ?_; (try simp only [nq, ↓reduceIte, Nat.reduceEqDiff]); rw [Aq7, Ax7 Tryz.results57 (by decide) (b := rb) (o := 0) rfl Tryz.underlying91 rfl Tryz.sizeOf91]; simp -implicitDefEqProofs (disch := first | omega | (simp only [qd] <;> omega)) only [xq, ↓xp, qc, Nat.reduceAdd, List.range, List.range.loop, fine, Nat.reduceEqDiff, ↓reduceIte, yielded, reduceCtorEq, Nat.reduceLT, Nat.reduceMul, Nat.reduceSub, one, Nat.reduceLeDiff, Aqj, Aw3, Axl, List.extract_toArray])
 exact fun c z hc => by rw [Aqw (fun e => by rw [e, h0rb] at hc; cases hc)]; exact l04 _ _ hc
def Cx4 (b : Bd) (h : Int) : Int := if b.lo <= h /\ h < b.hi then 3 else if h < b.lo then 2 else 1
theorem Bwf (main : Md) (H : Hp) (b : Bd) (h : Int) :
  FnX Tryz.prog main 56 #[.agg #[.int .i64 b.lo, .int .i64 b.hi, .bool b.some], .int .i64 h] H fun e H' => e = .returned (.int .i64 (Cx4 b h)) /\ H.le H' := by
 unfold Cx4
 by_cases g1 : b.lo <= h
 ·have d1 : decide (b.lo <= h) = true := by simpa using g1
  by_cases g2 : h < b.hi
  ·have d2 : decide (h < b.hi) = true := by simpa using g2
   rw [if_pos ⟨g1, g2⟩]
   clear g1 g2
   refine Aqm Tryz.func56 rfl Tryz.ntmps56 (by simp) ?_
   (refine @unH _ ?_; refine zA Awc ?_; (repeat (refine inC ?_; intro hc)); try (refine inK ?_; intro K hK))
   (intro bb hbb; generalize hG : Hp.set _ bb _ = H1; have lH1 := Aqc hG hbb; have vbb := Aqb hG; clear hG)
   ((try (refine @unH _ ?_; refine zX Awc ?_)); (try (refine hK _ _ ?_; clear hK K; (try simp only [nq, ↓reduceIte, Nat.reduceEqDiff]))); refine @unH _ ?_; refine zA Awc ?_; (repeat (refine inC ?_; intro hc)); try (refine inK ?_; intro K hK))
   (refine @unH _ ?_; refine z9 Tryz.results56 ?_)
   exact ⟨rfl, lH1⟩
  ·have d2 : decide (h < b.hi) = false := by simpa using g2
   have d3 : decide (h < b.lo) = false := by simp; omega
   rw [if_neg (fun g => g2 g.2), if_neg (by omega : ¬ h < b.lo)]
   clear g1 g2
   refine Aqm Tryz.func56 rfl Tryz.ntmps56 (by simp) ?_
   (refine @unH _ ?_; refine zA Awc ?_; (repeat (refine inC ?_; intro hc)); try (refine inK ?_; intro K hK))
   (intro bb hbb; generalize hG : Hp.set _ bb _ = H1; have lH1 := Aqc hG hbb; have vbb := Aqb hG; clear hG)
   ((try (refine @unH _ ?_; refine zX Awc ?_)); (try (refine hK _ _ ?_; clear hK K; (try simp only [nq, ↓reduceIte, Nat.reduceEqDiff]))); refine @unH _ ?_; refine zA Awc ?_; (repeat (refine inC ?_; intro hc)); try (refine inK ?_; intro K hK))
   (refine @unH _ ?_; refine z9 Tryz.results56 ?_)
   exact ⟨rfl, lH1⟩
 ·have d1 : decide (b.lo <= h) = false := by simpa using g1
  have d3 : decide (h < b.lo) = true := by simp; omega
  rw [if_neg (fun g => g1 g.1), if_pos (by omega)]
  clear g1
  refine Aqm Tryz.func56 rfl Tryz.ntmps56 (by simp) ?_
  (refine @unH _ ?_; refine zA Awc ?_; (repeat (refine inC ?_; intro hc)); try (refine inK ?_; intro K hK))
  (intro bb hbb; generalize hG : Hp.set _ bb _ = H1; have lH1 := Aqc hG hbb; have vbb := Aqb hG; clear hG)
  ((try (refine @unH _ ?_; refine zX Awc ?_)); (try (refine hK _ _ ?_; clear hK K; (try simp only [nq, ↓reduceIte, Nat.reduceEqDiff]))); refine @unH _ ?_; refine zA Awc ?_; (repeat (refine inC ?_; intro hc)); try (refine inK ?_; intro K hK))
  (refine @unH _ ?_; refine z9 Tryz.results56 ?_)
  exact ⟨rfl, lH1⟩
theorem Dvb {H : Hp} {b : Nat} {x : Int} {p : Bool} {fr : Nat × Nat} (h : H b = some (p, .cells #[.int .i64 x] 3 fr)) : SlI H (.slice (some ⟨b, 0, none⟩) 1 1) [x] := by
 refine ⟨some ⟨b, 0, none⟩, 1, rfl, Nat.le_refl _, fun i y hy => ?_⟩
 rcases i with _ | i
 ·simp only [List.getElem?_cons_zero, Option.some.injEq] at hy
  subst hy
  exact ⟨b, 0, p, _, _, rfl, h, rfl⟩
 ·simp at hy
theorem Cqh {s : Sm} (ok : SmOk s) {p h : Int} (hb : begE s [p] h = 0) : 0 <= p /\ p < 6 := by
 unfold begE at hb
 have h6 := ok.p1
 simp only [List.any_cons, List.any_nil, Bool.or_false, Bool.or_eq_true, decide_eq_true_eq] at hb
 split at hb
 ·cases hb
 ·omega
def Cy6 (s : Sm) (p h : Int) : Int := if begE s [p] h = 0 then Cx4 (arrL (susp s) p) h else 0
theorem Bwa (H : Hp) (s : Sm) (dv hv nv : Value) (hs : SmIn H dv hv nv s) (ok : SmOk s) (p h : Int) :
  FnX Tryz.prog (.wg Tryz.prog) 24 #[smV s.places dv hv nv, .int .i64 p, .int .i64 h] H fun e H' => e = .returned (.tuple #[.int .i64 (Cy6 s p h), .int .i64 (begE s [p] h)]) /\ H.le H' := by
 obtain ⟨da, dc, ha, kc, na, nc, rfl, rfl, rfl, l1, l2, l3⟩ := hs.forms
 have hpp : begE s [p] h = 0 -> 0 <= p /\ p < 6 := Cqh ok
 have hr0 : begE s [p] h = 0 -> Cy6 s p h = Cx4 (arrL (susp s) p) h := fun e => if_pos e
 have hr1 : begE s [p] h ≠ 0 -> Cy6 s p h = 0 := fun e => if_neg e
 have hbeg := fun H dv hv nv (hs : SmIn H dv hv nv s) pv (hp : SlI H pv [p]) => Az7 H s dv hv nv hs ok h pv [p] hp (by simp)
 generalize begE s [p] h = z at *
 generalize Cy6 s p h = r at *
 replace hpp : Aqk _ := hpp
 replace hr0 : Aqk _ := hr0
 replace hr1 : Aqk _ := hr1
 replace hbeg : Aqk _ := hbeg
 refine Aqm Tryz.func24 rfl Tryz.ntmps24 (by simp) ?_
 (refine @unH _ ?_; refine zA Ak2 ?_; (repeat (refine inC ?_; intro hc)); try (refine inK ?_; intro K hK))
 (intro sb hsb; generalize hG : Hp.set _ sb _ = H1; have lH1 := Aqc hG hsb; have vsb := Aqb hG; clear hG)
 have hs1 := hs.le lH1
 have h0sb := hsb
 clear hsb
 ((try (refine @unH _ ?_; refine zX Ak2 ?_)); (try (refine hK _ _ ?_; clear hK K; (try simp only [nq, ↓reduceIte, Nat.reduceEqDiff]))); refine @unH _ ?_; refine zA Ak2 ?_; (repeat (refine inC ?_; intro hc)); try (refine inK ?_; intro K hK))
 (intro pb hpb; generalize hG : Hp.set _ pb _ = H2; have lH2 := Aqc hG hpb; have vpb := Aqb hG; clear hG)
 have hs2 := hs1.le lH2
 have l02 := Hp.le_trans lH1 lH2
 have hp2 : SlI H2 (.slice (some ⟨pb, 0, none⟩) 1 1) [p] := Dvb vpb
 clear hs hs1 vsb hpb lH1 lH2 vpb
 refine ((show ∀ H dv hv nv (hs : SmIn H dv hv nv s) pv (hp : SlI H pv [p]), _ from hbeg) H2 _ _ _ hs2 _ hp2).runs.mono ?_
 clear hbeg
 rintro _ H3 ⟨v, rfl, lH3, hv, _⟩
 have l03 := Hp.le_trans l02 lH3
 clear hs2 hp2 lH3 l02 h0sb
 by_cases hz : z = 0
 ·subst hz
  replace hv := hv (.inl rfl)
  obtain ⟨p0, p1⟩ := hpp rfl
  replace hr0 : Aqk (r = Cx4 (arrL (susp s) p) h) := hr0 rfl
  clear hpp hr1
  ((try (refine @unH _ ?_; refine zX Ak2 ?_)); (try (refine hK _ _ ?_; clear hK K; (try simp only [nq, ↓reduceIte, Nat.reduceEqDiff]))); refine @unH _ ?_; refine zA Ak2 ?_; (repeat (refine inC ?_; intro hc)); try (refine inK ?_; intro K hK))
  refine (Bxx _ H3 v _ hv (Ajs ok) (by rw [Azv]; have := ok.h1; omega) p p0 p1).runs.mono ?_
  rintro _ H4 ⟨rfl, lH4⟩
  have l04 := Hp.le_trans l03 lH4
  clear l03 lH4
  rw [show arrL (Az0 (Axm s)) p = arrL (susp s) p from rfl]
  generalize arrL (susp s) p = w at *
  ((try (refine @unH _ ?_; refine zX Ak2 ?_)); (try (refine hK _ _ ?_; clear hK K; (try simp only [nq, ↓reduceIte, Nat.reduceEqDiff]))); refine @unH _ ?_; refine zA Ak2 ?_; (repeat (refine inC ?_; intro hc)); try (refine inK ?_; intro K hK))
  refine (Bwf _ H4 w h).runs.mono ?_
  rintro _ H5 ⟨rfl, lH5⟩
  ((try (refine @unH _ ?_; refine zX Ak2 ?_)); (try (refine hK _ _ ?_; clear hK K; (try simp only [nq, ↓reduceIte, Nat.reduceEqDiff]))); refine @unH _ ?_; refine zA Ak2 ?_; (repeat (refine inC ?_; intro hc)); try (refine inK ?_; intro K hK))
  (refine @unH _ ?_; refine zB Tryz.results24 ?_)
  exact ⟨by rw [show r = _ from hr0], Hp.le_trans l04 lH5⟩
 ·replace hr1 : Aqk (r = 0) := hr1 hz
  clear hv hpp hr0
  ((try (refine @unH _ ?_; refine zX Ak2 ?_)); (try (refine hK _ _ ?_; clear hK K; (try simp only [nq, ↓reduceIte, Nat.reduceEqDiff]))); refine @unH _ ?_; refine zA Ak2 ?_; (repeat (refine inC ?_; intro hc)); try (refine inK ?_; intro K hK))
  (refine @unH _ ?_; refine zB Tryz.results24 ?_)
  exact ⟨by rw [show r = _ from hr1], l03⟩
end Go.Proofs.YtkcomnkgdifboaaGreatDoor
end
