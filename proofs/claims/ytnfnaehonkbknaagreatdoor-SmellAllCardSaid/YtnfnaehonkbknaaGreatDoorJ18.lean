/- Texts SmW2 SmW3 SmH SmI SmJ. -/
import Derived.Test.YtnfnaehonkbknaaGreatDoorJ17
set_option linter.defProp false
set_option linter.unusedSimpArgs false
set_option linter.unusedVariables false
set_option maxRecDepth 100000
set_option maxHeartbeats 2000000
section
namespace Go.X
open Go
def sndS : Code -> Code
 | .seq _ y => y
 | c => c
end Go.X
namespace Go.Proofs.YtnfnaehonkbknaaGreatDoor
open Go Go.X Go.Proofs.Tryz
def Ay7 := aN @Bzv (aN (fun H => Bxt (H := H) underlying134 typeInfo127 (by decide)) (aN @Exq (aN (fun H => Bxw (H := H) sizeOf134) (aN @Exr (aN @Dy8 (aN @Eqv (aN @Dyv (aN @Exu (aN @Ex2 (aN @Eqt (aN @Exp (aN @Exb (aN @Dy2 (aN @Eqy (aN @Eq3 @Exm)))))))))))))))
open Go.Conc (G baseD rcase scase)
theorem Dk8 {H : Hp} {b : Nat} {l : List Value} {c : Array Value} {e : TypeId} {K : Hp -> Prop} (hl : l.length = 326) (h1 : l.all one = true) (hb : H b = some (true, .cells c e (0, 0))) (hs : c.size = 326) : Akw H b 0 l K = K (H.set b (.cells l.toArray e (0, 0))) := by
 rw [Akl (c := c) (e := e) (by intro h; rw [h] at hl; simp at hl) hb]
 have ho : over c 0 l = l.toArray := by
  obtain ⟨l'⟩ := c
  exact Bqp (by simp at hs; omega)
 rw [ho, h1]
 simp [hl, hs]
theorem Cxy (H H8 C H9 : Hp) (c wg tb vx : Nat) (s : Sm) (ok : SmOk s) (n : Nat) (hn : n = s.hampers.length) (dv nv : Value) (ha : Option Addr) (kc : Nat) (e : Nat -> Value)
  (e1 : e 1 = .pointer (some ⟨vx, 0, none⟩)) (e3 : e 3 = .pointer (some ⟨tb, 0, none⟩)) (e4 : e 4 = .pointer (some ⟨wg, 0, none⟩))
  (lS9 : C.leS H9) (hCle : H.le C) (l08 : H.le H8) (vtbC : C tb = some (true, .cells #[.chan (some c)] 134 (0, 0))) (vvxC : C vx = some (true, smO s.places dv (.slice ha n kc) nv)) (hCwg : C wg = none) :
  wpV Tryz.prog (sndS (sndS (sndS (sndS ((Tryz.f60).body.getD .skip))))) (fun γ e a H' => γ = .idle /\ Bwy Tryz.prog (.wg Tryz.prog) Tryz.f60 (fun e H' => ∃ v, e = .returned v /\ SlT H' v (Axl s) /\ H.le H') e a H') (.busy c wg lk.tWg n 0 ((List.range n).reverse.map (trV s)) false (fun b => ∃ o, H8 b = some (true, o))) (act 33 e []) H9 := by
 subst hn
 have ntw : tb ≠ wg := fun e => by rw [e, hCwg] at vtbC; cases vtbC
 have hcl := fun (m : Nat) => Byp (H9.hand wg) c wg tb m (by obtain ⟨p', h1, _⟩ := lS9 _ _ _ vtbC; exact Hp.hand_some h1 ntw)
 show wpV _ (.seq (.region _ _ false) _) _ _ _ _
 refine Aje (Avp (Byk rfl rfl (Aw8 (K := fun a' H' => ∃ e', a' = act 33 e' [] /\ H9 = H' /\ e' 18 = .func (.func 79) #[] #[.pointer (some ⟨wg, 0, none⟩), .pointer (some ⟨tb, 0, none⟩)] /\
   e' 1 = .pointer (some ⟨vx, 0, none⟩) /\ e' 3 = .pointer (some ⟨tb, 0, none⟩)) ?_ ?_)))
 ·unfold opX
  change wpS _ (execOp _ ⟨some 18, .makeFunc (.func 79) #[] #[.tmp 4, .tmp 3], _, _, _, _⟩) _ _ _
  rw [Ayt]
  refine ⟨_, Aq3 (by decide), rfl, ?_, e1, e3⟩
  simp only [Axh, ↓reduceIte, List.map_toArray, List.map_cons, List.map_nil, Aq6, Nat.reduceLT, Nat.reduceEqDiff, e3, e4]
 ·clear e1 e3 e4
  rintro _ _ ⟨e', rfl, rfl, e18, e1, e3⟩
  refine Cw7 rfl rfl (by simp) (fun w hw => Cwn (by rw [Aq6 (by decide)]; exact e18) w) rfl Hp.hand_lend Hp.lend_own (hcl _) (Bv1 ?_)
  have hle10 := lS9.trans (Hp.lend_leS (eb := wg))
  generalize H9.lend wg = H11 at *
  clear hcl lS9 e18
  show wpV _ _ _ _ (act 33 e' []) _
  obtain ⟨pt, vtb11, _⟩ := hle10 _ _ _ vtbC
  obtain ⟨pv, vvx11, _⟩ := hle10 _ _ _ vvxC
  simp only [smO] at vvx11
  refine Aje (Aww ?_)
  (refine @unH _ (zA Ay7 ?_); (try clear hK K); intro K hK hc)
  refine Bj4 underlying83 sizeOf127 zeroValue127 rfl typeInfo127 (by decide) (by decide) _ _ _ (by have := ok.h0; omega) (by have := ok.h1; omega) _ _ (fun ob c0 hob hc0 => ?_)
  rw [Int.toNat_natCast] at hc0 ⊢
  have hCob : C ob = none := Bvv hle10 hob
  have nob := Aqq vtb11 hob
  generalize hG : Hp.set H11 ob _ = H12
  have vob := Aqb hG
  have lS12 : C.leS H12 := by rw [<- hG]; exact hle10.set hCob
  have vtb12 := Aqi hG vtb11 nob
  have hout : OutR s s.hampers.length c0 [] := ⟨hc0, fun i hi => by simp at hi⟩
  clear hG hle10 hob vtb11 vvx11 hc0
  refine hK _ _ ?_
  clear hK K
  (try refine @unH _ (zQ ?_))
  refine Aje (Aje (Aww ?_))
  (refine @unH _ (zA Ay7 ?_); (try clear hK K); intro K hK hc)
  have hLV0 : ((List.range s.hampers.length).reverse.map (trV s)).Perm ((List.range s.hampers.length).map (trV s)) := (List.reverse_perm _).map _
  have hlen : (List.range s.hampers.length).length = s.hampers.length := List.length_range
  generalize hN : s.hampers.length = n at *
  generalize hR0 : List.range n = l at *
  generalize (l.reverse.map (trV s)) = LV0 at *
  replace hR0 : Aqk _ := hR0
  replace hN : Aqk _ := hN
  refine Bjs (Cjg (fun w γ a' H' => ∃ (e : Nat -> Value) (L : List Nat) (LV : List Value) (R : List Nat) (cc : Array Value), w = L.length + 1 /\ γ = .busy c wg lk.tWg n 0 LV true (fun b => ∃ o, H8 b = some (true, o)) /\ LV.Perm (L.map (trV s)) /\ (R ++ L).Perm l /\ a' = act 33 e [] /\ e 6 = .slice (some ⟨ob, 0, none⟩) n n /\ e 23 = .chan (some c) /\
   C.leS H' /\ H' ob = some (true, .cells cc 127 (0, 0)) /\ OutR s n cc R) (n := n + 1) ?_ ?_)
  ·exact ⟨_, l, LV0, [], c0, by rw [hlen], rfl, hLV0, .refl _, rfl, rfl, rfl, lS12, vob, hout⟩
  ·clear e1 e3 lS12 vob hout hLV0 vtb12 nob vtbC vvxC
   rename_i eold
   clear eold
   rintro w γ a' H13 ⟨e, L, LV, R, cc, rfl, rfl, hLV, hperm, rfl, e6, e23, lS13, vob13, hout⟩
   cases L with
   | nil =>
    obtain rfl : LV = [] := by simpa using hLV
    refine Aje (Avp (Cw9 (z := .agg (Tryz.zeroCells127)) (fun b => (H13 b).map fun z => (z.1 || @decide (∃ o, H8 b = some (true, o)) (Classical.propDecidable _), z.2)) rfl rfl (fun w hw => Bkw (by rw [Aq6 (by decide)]; exact e23) underlying134 zeroValue127 w) (fun b p o hb => ?_) (Bkr ?_)))
    ·simp only [Option.map_eq_some_iff] at hb
     obtain ⟨⟨p', o'⟩, h1, h2⟩ := hb
     simp only [Prod.mk.injEq] at h2
     obtain ⟨h2, rfl⟩ := h2
     refine ⟨p', h1, fun hp => ?_⟩
     rw [hp] at h2
     rcases Bool.or_eq_true_iff.1 h2 with h2 | h2
     ·exact .inl h2
     ·exact .inr (@of_decide_eq_true _ (Classical.propDecidable _) h2)
    ·obtain ⟨G', hGe⟩ : ∃ G' : Hp, G' = fun b => (H13 b).map fun z => (z.1 || @decide (∃ o, H8 b = some (true, o)) (Classical.propDecidable _), z.2) := ⟨_, rfl⟩
     rw [<- hGe]
     have hback : Aqk (H.le G') := fun x u hx => by
      obtain ⟨p, o⟩ := u
      obtain ⟨p', h1, h2⟩ := lS13 _ _ _ (hCle _ _ hx)
      have h8 := l08 _ _ hx
      rw [hGe]
      simp only [h1, Option.map_some, Option.some.injEq, Prod.mk.injEq, and_true]
      cases p with
      | true => rw [Bool.or_eq_true_iff]; exact .inr (@decide_eq_true _ (Classical.propDecidable _) ⟨_, h8⟩)
      | false =>
       rw [Bool.or_eq_false_iff]
       refine ⟨by cases hp : p' with | false => rfl | true => exact absurd (h2 hp) (by simp), @decide_eq_false _ (Classical.propDecidable _) (fun ⟨o', h9⟩ => by rw [h8] at h9; cases h9)⟩
     have vobG : G' ob = some (true, .cells cc 127 (0, 0)) := by rw [hGe]; simp [vob13]
     have hres : SlT G' (.slice (some ⟨ob, 0, none⟩) n n) (Axl s) := hout.all ok (show s.hampers.length = n from hN).symm (by rw [List.append_nil] at hperm; rw [show List.range n = l from hR0]; exact hperm) vobG
     clear hGe vob13 lS13 hout hperm
     intro K hK
     change runX _ _ _ _ _ _ ((act 33 e []).put (some 24) (.tuple #[.agg (Tryz.zeroCells127), .bool false])) _
     rw [Aq3 (by decide)]
     (refine @unH _ ?_; refine zX Ay7 ?_)
     refine hK _ _ ?_
     clear hK K
     (try refine @unH _ (zQ ?_))
     refine Aje (Bxj (by simp only [Aq6, Axh, Nat.reduceEqDiff, Nat.reduceLT, ↓reduceIte, *]; rfl) ?_ ?_) <;> intro hc
     ·cases hc
     ·clear hc
      refine Cjf ?_
      (try refine @unH _ (zQ ?_))
      refine Aww ?_
      (refine @unH _ (zA Ay7 ?_); (try clear hK K); intro K hK hc)
      refine Axs ?_
      (try refine @unH _ (zQ ?_))
      refine ⟨by trivial, ?_⟩
      rw [Aq8, Ay2 results60 (by decide)]
      exact ⟨_, rfl, hres, hback⟩
   | cons q0 L0 =>
    have hne : LV ≠ [] := fun h => by rw [h] at hLV; simp at hLV
    refine Aje (Avp (Cw8 (z := .agg (Tryz.zeroCells127)) rfl rfl hne (fun w hw => Bkw (by rw [Aq6 (by decide)]; exact e23) underlying134 zeroValue127 w) fun v L' hpv => Bkr ?_))
    obtain ⟨q, L1, rfl, hpq, hL1⟩ : ∃ q L1, v = trV s q /\ (q0 :: L0).Perm (q :: L1) /\ L'.Perm (L1.map (trV s)) := by
     have hmem : v ∈ (q0 :: L0).map (trV s) := (hLV.symm.trans hpv).mem_iff.2 (by simp)
     obtain ⟨q, hq, rfl⟩ := List.mem_map.1 hmem
     have h1 := List.perm_cons_erase hq
     exact ⟨q, _, rfl, h1, (List.perm_cons _).1 (hpv.symm.trans (hLV.trans (h1.map _)))⟩
    have hlen1 : (q0 :: L0).length = L1.length + 1 := by rw [hpq.length_eq]; rfl
    have hperm' : ((R ++ [q]) ++ L1).Perm l := by
     rw [List.append_assoc]
     exact ((hpq.symm.append_left R)).trans hperm
    have hqn : q < n := by
     have : q ∈ l := hperm'.mem_iff.1 (by simp)
     rw [<- show List.range n = l from hR0] at this
     exact List.mem_range.1 this
    rw [hlen1]
    have hTo := Aws ok q
    have hTl := Axt hTo
    have hTx := By1 hTo
    have hTq : (Axd (Ax6 s q))[0]? = some (.int .i64 (q : Nat)) := rfl
    have hput := hout.put ok hqn
    have hcs := hout.size
    have hTr : trV s q = .agg (Axd (Ax6 s q)).toArray := rfl
    rw [hTr]
    have hTone : (Axd (Ax6 s q)).all one = true := by rw [List.all_eq_true]; exact Bxh _
    generalize Axd (Ax6 s q) = TC at *
    clear hperm hLV hpq hpv hlen1 hTr
    replace hcs : Aqk _ := hcs
    replace hR0 : Aqk _ := hR0
    intro K hK
    change runX _ _ _ _ _ _ ((act 33 e []).put (some 24) (.tuple #[.agg TC.toArray, .bool true])) _
    rw [Aq3 (by decide)]
    (refine @unH _ ?_; refine zX Ay7 ?_)
    refine hK _ _ ?_
    clear hK K
    (try refine @unH _ (zQ ?_))
    refine Aje (Bxj (by simp only [Aq6, Axh, Nat.reduceEqDiff, Nat.reduceLT, ↓reduceIte, *]; rfl) ?_ ?_) <;> intro hc
    ·clear hc
     refine Cjh ?_
     (try refine @unH _ (zQ ?_))
     refine Aww ?_
     (refine @unH _ (zA Ay7 ?_); (try clear hK K); intro K hK hc)
     intro xb hxb
     have nox := Aqq vob13 hxb
     rw [Dk8 hTl hTone Axf rfl, Awp]
     generalize hG : Hp.set H13 xb _ = H14
     have vxb := Aqb hG
     have vob14 := Aqi hG vob13 nox
     have lS14 : C.leS H14 := by rw [<- hG]; exact lS13.set (Bvv lS13 hxb)
     clear hG vob13 lS13 hxb
     refine hK _ _ ?_
     clear hK K
     (try refine @unH _ (zQ ?_))
     (refine @unH _ (zA Ay7 ?_); (try clear hK K); intro K hK hc)
     rw [Akl (c := cc) (e := 127) (by intro h; rw [h] at hTl; simp at hTl) vob14]
     refine ⟨hTone, by rw [hTl, show cc.size = n * 326 from hcs]; omega, ?_⟩
     refine hK _ _ ?_
     clear hK K
     (try refine @unH _ (zQ ?_))
     refine ⟨L1.length + 1, by omega, _, L1, L', R ++ [q], _, rfl, rfl, hL1, hperm', rfl, e6, e23, fun b p o hb => ?_, Axf, hput⟩
     rw [Aqu (fun h => by rw [h, hCob] at hb; cases hb)]
     exact lS14 b p o hb
    ·cases hc
end Go.Proofs.YtnfnaehonkbknaaGreatDoor
end
section
namespace Go.Proofs.YtnfnaehonkbknaaGreatDoor
open Go Go.X Go.Proofs.Tryz
def Awy := aN @Bzv (aN (fun H => Bxt (H := H) underlying134 typeInfo127 (by decide)) (aN @Exq (aN (fun H => Bxw (H := H) sizeOf134) (aN @Exr (aN @Dy8 (aN @Eqv (aN @Dyv (aN @Exu (aN @Ex2 (aN @Eqt (aN @Exp (aN @Exb (aN @Dy2 (aN @Eqy (aN @Eq3 @Exm)))))))))))))))
open Go.Conc (G baseD rcase scase)
def Bx4 (H : Hp) : Hp := fun b => (H b).map fun q => (false, q.2)
theorem Aw3 {H : Hp} {b : Nat} {p : Bool} {o : Obj} (h : H b = some (p, o)) : Bx4 H b = some (false, o) := by simp [Bx4, h]
theorem Ckb {H : Hp} : ∀ b p o, Bx4 H b = some (p, o) -> p = false /\ Bx4 H b = some (false, o) := fun b p o h => by
 have h' := h
 unfold Bx4 at h
 simp only [Option.map_eq_some_iff, Prod.mk.injEq] at h
 obtain ⟨q, h1, h2, h3⟩ := h
 exact ⟨h2.symm, by rw [h', <- h2]⟩
theorem Cwq {H : Hp} : ∀ b p o, Bx4 H b = some (p, o) -> ∃ p', H b = some (p', o) /\ (p = true -> p' = true) := fun b p o h => by
 unfold Bx4 at h
 simp only [Option.map_eq_some_iff, Prod.mk.injEq] at h
 obtain ⟨⟨p', o'⟩, h1, h2, h3⟩ := h
 simp only at h2 h3
 subst h2 h3
 exact ⟨p', h1, fun h => by cases h⟩
theorem Cwp {H : Hp} : H.leS (Bx4 H) := fun b p o h => ⟨false, Aw3 h, fun h => by cases h⟩
theorem SmIn.cl {H H' : Hp} {dv hv nv : Value} {s : Sm} (h : SmIn H dv hv nv s) (hl : By9 H H') : SmIn H' dv hv nv s :=
 ⟨h.dd.move fun x p c fr hx => hl x p c _ fr hx, SlI.cl h.hh hl, h.nn.move fun x p c fr hx => hl x p c _ fr hx⟩
theorem Ay5 (H : Hp) (s : Sm) (dv hv nv : Value) (hs : SmIn H dv hv nv s) (ok : SmOk s) :
  FnX Tryz.prog (.wg Tryz.prog) 60 #[smV s.places dv hv nv] H fun e H' => ∃ v, e = .returned v /\ SlT H' v (Axl s) /\ H.le H' := by
 obtain ⟨da, dc, ha, kc, na, nc, rfl, rfl, rfl, l1, l2, l3⟩ := hs.forms
 refine Aql func60 rfl ntmps60 (by simp) ?_
 (refine @unH _ (zA Awy ?_); (try clear hK K); intro K hK hc)
 (intro vx hvx; generalize hG : Hp.set _ vx _ = H4; have lH4 := Aqc hG hvx; have vvx := Aqb hG; clear hG)
 have l04 := lH4
 clear hvx lH4
 (refine @unH _ (zU Awy ?_); (try clear hK K); intro K hK hc)
 intro c hc0 tb htb
 replace htb : (Hp.set H4 c _) tb = none := htb
 generalize hG : Hp.set H4 c _ = H5 at htb ⊢
 have lH5 := Aqc hG hc0
 have vc5 := Aqb hG
 clear hG
 (refine @unH _ (zU (aN Awy @cells_chan) ?_); (try clear hK K); intro K hK hc)
 intro wg hwg
 replace hwg : (Hp.set H5 tb (.cells #[.chan (some c)] 134 (0, 0))) wg = none := hwg
 generalize hG : Hp.set H5 tb _ = H6 at hwg ⊢
 have lH6 := Aqc hG htb
 have vtb6 := Aqb hG
 clear hG
 have vc6 := lH6 _ _ vc5
 have nct : c ≠ tb := Aqq vc5 htb
 have l46 := Hp.le_trans lH5 lH6
 have h4c := hc0
 have h4tb : H4 tb = none := Hp.le_none lH5 htb
 clear lH5 lH6 vc5 hc0 htb
 generalize hG : Hp.set H6 wg _ = H8
 have lH8 := Aqc hG hwg
 have vwg := Aqb hG
 clear hG
 have vwg8 : H8 wg = some (true, wgO lk.tWg 0 0) := vwg
 have vc8 := lH8 _ _ vc6
 have vtb8 := lH8 _ _ vtb6
 have l48 := Hp.le_trans l46 lH8
 have l08 := Hp.le_trans l04 l48
 have ncw : c ≠ wg := Aqq vc6 hwg
 have ntw : tb ≠ wg := Aqq vtb6 hwg
 have n4 : ∀ b x, H4 b = some x -> b ≠ c /\ b ≠ tb /\ b ≠ wg := fun b x hx => ⟨Aqq hx h4c, Aqq hx h4tb, Aqq (l46 _ _ hx) hwg⟩
 have vvx8 := l48 _ _ vvx
 obtain ⟨nvc, nvt, nvw⟩ := n4 _ _ vvx
 have n0 : ∀ b x, H b = some x -> b ≠ c /\ b ≠ wg := fun b x hx => ⟨(n4 _ _ (l04 _ _ hx)).1, (n4 _ _ (l04 _ _ hx)).2.2⟩
 clear vwg lH8 hwg vc6 vtb6 l46 vvx n4 h4c h4tb l48
 refine hK _ _ ?_
 clear hK K
 (try refine @unH _ (zQ ?_))
 refine By7 ?_
 refine Cva (fun e => e 1 = .pointer (some ⟨vx, 0, none⟩) /\ e 3 = .pointer (some ⟨tb, 0, none⟩) /\ e 4 = .pointer (some ⟨wg, 0, none⟩)) ⟨rfl, rfl, rfl⟩ ?_
 rintro e ⟨e1, e3, e4⟩
 refine Dvc (fun b => ∃ o, H8 b = some (true, o)) vc8 vwg8 (fun _ h => h) ?_
 have hdel : ∀ b, b ≠ c -> b ≠ wg -> ((H8.del c).del wg) b = H8 b := fun b hb hb2 => by unfold Hp.del; rw [if_neg hb2, if_neg hb]
 have hCwg : ((H8.del c).del wg) wg = none := Hp.del_same _ _
 have hCle : H.le ((H8.del c).del wg) := fun x u hx => by rw [hdel x (n0 _ _ hx).1 (n0 _ _ hx).2]; exact l08 _ _ hx
 have vvxC := (hdel vx nvc nvw).trans vvx8
 have vtbC := (hdel tb nct.symm ntw).trans vtb8
 generalize (H8.del c).del wg = C at *
 clear vvx8 vtb8 vc8 vwg8 hdel
 refine Aje (Aje (Aww ?_))
 (refine @unH _ (zA Awy ?_); (try clear hK K); intro K hK hc)
 refine Bjs (Cjg (fun w γ a' H' => ∃ e i, w = s.hampers.length - i /\ i <= s.hampers.length /\ γ = .busy c wg lk.tWg i 0 ((List.range i).reverse.map (trV s)) false (fun b => ∃ o, H8 b = some (true, o)) /\ a' = act 33 e [] /\
  e 1 = .pointer (some ⟨vx, 0, none⟩) /\ e 3 = .pointer (some ⟨tb, 0, none⟩) /\ e 4 = .pointer (some ⟨wg, 0, none⟩) /\ e 11 = .int .i64 s.hampers.length /\ e 12 = .int .i64 (i : Nat) /\ C.leS H') (n := s.hampers.length) ?_ ?_)
 ·exact ⟨_, 0, by omega, by omega, rfl, rfl, e1, e3, e4, rfl, rfl, Hp.leS.refl⟩
 ·have hs0 := hs
  clear e1 e3 e4 hs
  rintro w γ a' H9 ⟨e, i, rfl, hi, rfl, rfl, e1, e3, e4, e11, e12, lS9⟩
  refine Aje (Aww ?_)
  (refine @unH _ (zA Awy ?_); (try clear hK K); intro K hK hc)
  refine Aje (Bxj (by simp only [Aq6, Axh, Nat.reduceEqDiff, Nat.reduceLT, ↓reduceIte, *]; rfl) ?_ ?_) <;> intro hc
  ·have hlt : i < s.hampers.length := by simpa using hc
   clear hc
   refine Cjh ?_
   (try refine @unH _ (zQ ?_))
   refine Aje (Bjs (Aje (Aww ?_)))
   (refine @unH _ (zA Awy ?_); (try clear hK K); intro K hK hc)
   intro pb hpb
   (refine @unH _ (zU Awy ?_); (try clear hK K); intro K hK hc)
   obtain ⟨H10, hG⟩ : ∃ H10, H10 = H9.set pb (.cells #[.int .i64 i] 3 (0, 0)) := ⟨_, rfl⟩
   rw [<- hG]
   have vpb := Aqb hG.symm
   have lS10 : C.leS H10 := by rw [hG]; exact lS9.set (Bvv lS9 hpb)
   have hn3 := ok.h1
   clear hG lS9 hpb
   refine Aje (Avp (Dx5 wgLib rfl rfl rfl (by rw [Aq6 (by decide)]; exact e4) rfl (by omega) (Bv1 ?_)))
   show wpV _ _ _ _ ((act 33 _ []).put (some 15) _) _
   rw [Aq3 (by decide)]
   have hcl : By9 H (Bx4 H10) := fun b p c t fr hb => by
    obtain ⟨p', h1, _⟩ := lS10 _ _ _ (hCle _ _ hb)
    exact ⟨false, Aw3 h1⟩
   have hfix : ∀ b p c t fr, C b = some (p, .cells c t fr) -> (Bx4 H10) b = some (false, .cells c t fr) := fun b p c t fr hb => by
    obtain ⟨p', h1, _⟩ := lS10 _ _ _ hb
    exact Aw3 h1
   have hch := By0 (Bx4 H10) c wg tb vx pb s _ _ _ i _ (hfix _ _ _ _ _ vvxC) (Aw3 vpb) (hfix _ _ _ _ _ vtbC) (hs0.cl hcl) ok (List.getElem?_eq_getElem hlt)
   refine Avp (Byk rfl rfl (Aw8 (K := fun a' H' => ∃ e', a' = act 33 e' [] /\ H10 = H' /\ e' 16 = .func (.func 76) #[] #[.pointer (some ⟨wg, 0, none⟩), .pointer (some ⟨tb, 0, none⟩), .pointer (some ⟨vx, 0, none⟩), .pointer (some ⟨pb, 0, none⟩)] /\
    e' 1 = .pointer (some ⟨vx, 0, none⟩) /\ e' 3 = .pointer (some ⟨tb, 0, none⟩) /\ e' 4 = .pointer (some ⟨wg, 0, none⟩) /\ e' 11 = .int .i64 s.hampers.length /\ e' 12 = .int .i64 (i : Nat)) ?_ ?_))
   ·unfold opX
    change wpS _ (execOp _ ⟨some 16, .makeFunc (.func 76) #[] #[.tmp 4, .tmp 3, .tmp 1, .tmp 5], _, _, _, _⟩) _ _ _
    rw [Ayt]
    refine ⟨_, Aq3 (by decide), rfl, ?_, e1, e3, e4, e11, e12⟩
    simp only [Axh, ↓reduceIte, List.map_toArray, List.map_cons, List.map_nil, Aq6, Nat.reduceLT, Nat.reduceEqDiff, e1, e3, e4]
   ·clear e1 e3 e4 e11 e12
    rintro _ _ ⟨e', rfl, rfl, e16, e1, e3, e4, e11, e12⟩
    refine Dk4 rfl rfl (fun w hw => Cwn (by rw [Aq6 (by decide)]; exact e16) w) rfl Ckb Cwq hch (Bv1 ?_)
    show blk 1 _ .normal (act 33 e' []) _
    (try refine @unH _ (zQ ?_))
    refine Aww ?_
    have hle10 := lS10.trans Cwp
    generalize Bx4 H10 = H11 at *
    clear hch hfix hcl vpb lS10
    (refine @unH _ (zA Awy ?_); (try clear hK K); intro K hK hc)
    refine ⟨_, by omega, _, i + 1, rfl, hlt, ?_, rfl, e1, e3, e4, e11, rfl, hle10⟩
    rw [List.range_succ, List.reverse_append]
    rfl
  ·have hge : ¬ i < s.hampers.length := by simpa using hc
   obtain rfl : i = s.hampers.length := by omega
   refine Cjf ?_
   (try refine @unH _ (zQ ?_))
   exact Cxy H H8 C H9 c wg tb vx s ok _ rfl _ _ ha kc _ e1 e3 e4 lS9 hCle l08 vtbC vvxC hCwg
end Go.Proofs.YtnfnaehonkbknaaGreatDoor
end
section
namespace Go.X
open Go
theorem Cke {P : Program} {H : Hp} {t e : TypeId} {N : Nat} {d : TypeDesc} (hu : P.underlying t = some (.array N e)) (hue : P.underlying e = some d) (hd : aggB d = true) {n : Nat} (hs : ∀ w, (sizeOf e).run P w = .ok n w) (cs : Array Value) (k : IntKind) (i : Int) (K : Value -> Hp -> Prop) (E : Value -> Hp -> Prop) (h0 : 0 <= i) (h1 : i < N) :
  wpS P (Instr.index t (.agg cs) (.int k i)) H K E = K (.agg (cs.extract (i.toNat * n) (i.toNat * n + n))) H := by
 unfold Instr.index
 rw [Aqa]
 simp only [asIntOf, Aqe]
 simp only [Aqa, Aqj hu, Aqe, h0, h1, and_self, if_true, Aq0 hs, Bzg hue hd hs]
theorem Ckf {P : Program} {H : Hp} {t e : TypeId} {N : Nat} {d : TypeDesc} (hu : P.underlying t = some (.array N e)) (hue : P.underlying e = some d) (hd : aggB d = false) (hs : ∀ w, (sizeOf e).run P w = .ok 1 w) (cs : Array Value) (k : IntKind) (i : Int) (K : Value -> Hp -> Prop) (E : Value -> Hp -> Prop) (h0 : 0 <= i) (h1 : i < N) :
  wpS P (Instr.index t (.agg cs) (.int k i)) H K E = ∃ v, cs[i.toNat]? = some v /\ K v H := by
 unfold Instr.index
 rw [Aqa]
 simp only [asIntOf, Aqe]
 simp only [Aqa, Aqj hu, Aqe, h0, h1, and_self, if_true, Aq0 hs, Nat.mul_one]
 cases hc : cs[i.toNat]? with
 | some v => rw [Aqn hue hd cs _ hc]; simp
 | none =>
  unfold part
  rw [Aqa, Akz hue, hd]
  simp [hc]
  exact fun h => h
end Go.X
namespace Go.Proofs.YtnfnaehonkbknaaGreatDoor
open Go Go.X Go.Proofs.Tryz
def Av5 := aN (fun H => Aq9 (H := H) underlying83) (aN @Exm (aN @Eq3 (aN @Exp (aN @Exb (aN @Dy3 (aN (fun H => Aqo (H := H) underlying125 rfl sizeOf125) (aN (fun H => Cke (H := H) underlying125 underlying93 rfl sizeOf93) (aN (fun H => Aqt (H := H) (P := Tryz.prog) (h := zeroValue93)) (aN (fun H => Aqr (H := H) sizeOf93) (aN @Eqp (aN @Eqz (aN @Dy2 (aN @Eqy @Eq9)))))))))))))
def Bwi := aN @Exu (aN @Ex2 (aN @Bq1 @Eqy))
def Bwl := aN @Eqq (aN @Eq9 (aN @Eqy @Ex2))
theorem Byx {H : Hp} {b : Nat} {l : List Value} {c : Array Value} {e : TypeId} {K : Hp -> Prop} (hl : l ≠ []) (h1 : l.all one = true) (hb : H b = some (true, .cells c e (0, 0))) (hs : c.size = l.length) : Akw H b 0 l K = K (H.set b (.cells l.toArray e (0, 0))) := by
 rw [Akl (c := c) (e := e) hl hb]
 have ho : over c 0 l = l.toArray := by
  obtain ⟨l'⟩ := c
  exact Bqp (by simpa using hs.symm)
 rw [ho, h1]
 simp [hs]
theorem SlT.get {H : Hp} {a : Option Addr} {n cap : Nat} {l : List Trail} (h : SlT H (.slice a n cap) l) {i : Nat} {t : Trail} (hi : l[i]? = some t) :
  ∃ b o p c fr, a = some ⟨b, o, none⟩ /\ H b = some (p, .cells c 127 fr) /\ o + i * 326 + 326 <= c.size /\ c.extract (o + i * 326) (o + i * 326 + 326) = (Axd t).toArray := by
 obtain ⟨b, o, p, c, fr, h1, h2, h3, h4, h5⟩ := SlG.get h (i := i) (r := Axd t) (by simp [hi])
 exact ⟨b, o, p, c, fr, h1, h2, h3, h5⟩
theorem SlT.isSlice {H : Hp} {v : Value} {l : List Trail} (h : SlT H v l) : ∃ a cap, v = .slice a l.length cap /\ l.length <= cap := by
 obtain ⟨a, cap, h1, h2, _⟩ := h
 exact ⟨a, cap, by simpa using h1, by simpa using h2⟩
theorem SlT.move {H H' : Hp} {v : Value} {l : List Trail} (h : SlT H v l) (hl : ∀ x p c fr, H x = some (p, .cells c 127 fr) -> ∃ p', H' x = some (p', .cells c 127 fr)) : SlT H' v l := SlG.move h hl
theorem SlT.le {H H' : Hp} {v : Value} {l : List Trail} (h : SlT H v l) (hl : H.le H') : SlT H' v l := SlG.le h hl
theorem Dxs {t : Trail} (ht : Ax2 t) {h : Nat} {x : Hint} (hx : t.hs[h]? = some x) : ((Axd t).toArray.extract 1 326).extract (h * 25) (h * 25 + 25) = (Axu x).toArray := by
 have hr := HR.refl ht hx
 have hh : h < 13 := by have := (List.getElem?_eq_some_iff.1 hx).1; rw [ht.l] at this; exact this
 have hl := Axt ht
 have hxl := Ax0 (ht.k x (List.mem_of_getElem? hx))
 rw [Array.extract_extract]
 apply Array.ext_getElem?
 intro k
 by_cases hk : k < 25
 ·rw [Array.getElem?_extract, if_pos (by simp [hl]; omega), hr.inn k hk]
  simp
 ·rw [Array.getElem?_eq_none (by rw [Array.size_extract]; simp [hl]; omega), Array.getElem?_eq_none (by simp; omega)]
structure HCl (P : Program) (main : Md) (y : Value) (A : Int -> Int -> Hint -> Prop) (S : Nat -> Prop) (T : List (Int × Int × Hint) -> Hp -> Prop) : Prop where
 keep : ∀ L H H', T L H -> H.le H' -> T L H'
 ex : ∀ L H b, T L H -> S b -> H b ≠ none
 call : ∀ L H ham hour x, T L H -> Axq x -> A ham hour x -> Ajp P main y #[.int .i64 ham, .int .i64 hour, .agg (Axu x).toArray] H fun e H' => e = .returned (.tuple #[]) /\ T (L ++ [(ham, hour, x)]) H' /\ ∀ b x, ¬ S b -> H b = some x -> H' b = some x
def Av0 (t : Trail) (n : Nat) : List (Int × Int × Hint) := (((t.hs.take n).zipIdx).filter fun x => x.1.some).map fun x => (t.ham, (x.2 : Int), x.1)
theorem Ck4 {t : Trail} {n : Nat} {x : Hint} (hx : t.hs[n]? = some x) : Av0 t (n + 1) = Av0 t n ++ if x.some then [(t.ham, (n : Int), x)] else [] := by
 have hn : n < t.hs.length := (List.getElem?_eq_some_iff.1 hx).1
 unfold Av0
 rw [List.take_add_one, hx, Option.toList_some, List.zipIdx_append, List.filter_append, List.map_append]
 congr 1
 have hl : (t.hs.take n).length = n := by rw [List.length_take]; omega
 rw [hl]
 cases hs : x.some with
 | true => simp [hs]
 | false => simp [hs]
theorem Cyv {t : Trail} {n : Nat} (h : t.hs.length <= n) : Av0 t n = Akx t := by
 unfold Av0 Akx
 rw [List.take_of_length_le h]
theorem Ck3 (l : List Trail) {k : Nat} {t : Trail} (h : l[k]? = some t) : Azv (l.take (k + 1)) = Azv (l.take k) ++ Akx t := by
 unfold Azv
 rw [List.take_add_one, h, Option.toList_some, List.flatMap_append]
 simp
theorem Aw5 (main : Md) {A : Int -> Int -> Hint -> Prop} {S : Nat -> Prop} {T : List (Int × Int × Hint) -> Hp -> Prop} {yf : Fn} {yi yc : Array Value} (hC : HCl Tryz.prog main (.func yf yi yc) A S T) (H : Hp) (v : Value) (l : List Trail) (hrd : ∀ L H', T L H' -> (∀ b x, ¬ S b -> H b = some x -> H' b = some x) -> SlT H' v l) (hok : ∀ t ∈ l, Ax2 t) (hA : ∀ t ∈ l, ∀ (h : Nat) x, t.hs[h]? = some x -> x.some = true -> A t.ham h x) (hl : l.length <= 1000) (L0 : List (Int × Int × Hint)) (hT : T L0 H) :
  FnX Tryz.prog main 44 #[v, .func yf yi yc] H fun e H' => e = .returned (.tuple #[]) /\ T (L0 ++ Azv l) H' /\ ∀ b x, ¬ S b -> H b = some x -> H' b = some x := by
 have hv := hrd _ _ hT fun _ _ _ hx => hx
 obtain ⟨a, cap, rfl, hcap⟩ := hv.isSlice
 clear hv
 refine Aql func44 rfl ntmps44 (by simp) ?_
 (refine @unH _ (zA Av5 ?_); (try clear hK K); intro K hK hc)
 refine Axc (fun w a' H' => ∃ e, ∃ k : Nat, w = l.length - k /\ k <= l.length /\ a' = act 30 e [] /\ e 1 = .func yf yi yc /\ e 8 = .slice a l.length cap /\ e 9 = .int .i64 l.length /\ e 10 = .int .i64 (k : Nat) /\ T (L0 ++ Azv (l.take k)) H' /\ ∀ b x, ¬ S b -> H b = some x -> H' b = some x) (n := l.length) ?_ ?_
 ·exact ⟨_, 0, by omega, by omega, rfl, rfl, rfl, rfl, rfl, by simpa [Azv] using hT, fun _ _ _ hx => hx⟩
 ·rintro w a' H1 ⟨e, k, rfl, hk, rfl, e1, e8, e9, e10, hT1, hfr1⟩
  by_cases hlt : k < l.length
  ·have hkt := List.getElem?_eq_getElem hlt
   have htok := hok _ (List.getElem_mem hlt)
   have htA := hA _ (List.getElem_mem hlt)
   generalize l[k] = t at *
   obtain ⟨b, o, p, c, fr, rfl, hb1, hcs, hce⟩ := (hrd _ _ hT1 hfr1).get hkt
   have hsu := Ck3 l hkt
   have hTl := Axt htok
   have hTone : (Axd t).all one = true := by rw [List.all_eq_true]; exact Bxh t
   have hTne : Axd t ≠ [] := fun h => by rw [h] at hTl; simp at hTl
   have hT0 : (Axd t)[0]? = some (.int .i64 t.ham) := rfl
   have hho := fun (i : Nat) (x : Hint) hx => Dxs htok (h := i) (x := x) hx
   have hTx : ∀ i, i <= 13 -> ((Axd t).toArray.extract 1 326).size = 325 := fun i _ => by rw [Array.size_extract]; simp [hTl]
   generalize Axd t = TC at *
   replace hsu : Aqk _ := hsu
   replace hT1 : Aqk _ := hT1
   replace hfr1 : Aqk _ := hfr1
   (refine @unH _ (zA Av5 ?_); (try clear hK K); intro K hK hc)
   intro xb hxb
   rw [Byx hTne hTone Axf (by rw [hTl]; rfl), Awp]
   have nSx : ¬ S xb := fun h => hC.ex _ _ _ hT1 h hxb
   have h0xb : H xb = none := by
    cases h : H xb with
    | none => rfl
    | some z => have := (show ∀ b x, ¬ S b -> H b = some x -> H1 b = some x from hfr1) _ _ nSx h; rw [hxb] at this; cases this
   generalize hG : Hp.set H1 xb _ = H2
   have vxb := Aqb hG
   have hT2 : T (L0 ++ Azv (l.take k)) H2 := hC.keep _ _ _ hT1 (Aqc hG hxb)
   have hfr2 : ∀ b x, ¬ S b -> H b = some x -> H2 b = some x := fun b x hb hx => Aqi hG ((show ∀ b x, ¬ S b -> H b = some x -> H1 b = some x from hfr1) b x hb hx) (fun e => by rw [e, h0xb] at hx; cases hx)
   clear hG hb1 hcs hce hxb hT1 hfr1
   refine hK _ _ ?_
   clear hK K
   (try refine @unH _ (zQ ?_))
   (refine @unH _ (zA Av5 ?_); (try clear hK K); intro K hK hc)
   obtain ⟨AA, hAA⟩ : ∃ AA, AA = TC.toArray.extract 1 326 := ⟨_, rfl⟩
   have hAv : Value.agg (TC.toArray.extract 1 326) = .agg AA := by rw [hAA]
   rw [<- hAA] at hho
   replace hAA : Aqk _ := hAA
   refine Axc (fun w a' H' => ∃ e, ∃ h : Nat, w = 13 - h /\ h <= 13 /\ a' = act 30 e [] /\ e 1 = .func yf yi yc /\ e 5 = .pointer (some ⟨xb, 0, none⟩) /\ e 8 = .slice (some ⟨b, o, none⟩) l.length cap /\ e 9 = .int .i64 l.length /\ e 10 = .int .i64 (k : Nat) /\ e 15 = .agg AA /\ e 16 = .int .i64 (h : Nat) /\ T (L0 ++ (Azv (l.take k) ++ Av0 t h)) H' /\ (∀ b x, ¬ S b -> H b = some x -> H' b = some x) /\ H' xb = some (true, .cells TC.toArray 127 (0, 0))) (n := 13) ?_ ?_
   ·refine ⟨_, 0, by omega, by omega, rfl, e1, rfl, e8, e9, e10, ?_, rfl, by simpa [Av0] using hT2, hfr2, vxb⟩
    rw [<- hAv, List.extract_toArray, List.extract_eq_take_drop]; rfl
   ·clear hAv hTx hT2 hfr2 vxb e1 e8 e9 e10
    rintro w a' H3 ⟨e, h, rfl, hh, rfl, e1, e5, e8, e9, e10, e15, e16, hT3, hfr3, vx3⟩
    by_cases hh13 : h < 13
    ·obtain ⟨x, hx⟩ : ∃ x, t.hs[h]? = some x := ⟨_, List.getElem?_eq_getElem (by rw [htok.l]; exact hh13)⟩
     have hxo := htok.k x (List.mem_of_getElem? hx)
     have hxe := hho h x hx
     have hsn := Ck4 hx
     have hHl := Ax0 hxo
     have hHone : (Axu x).all one = true := by rw [List.all_eq_true]; exact Bz0 x
     have hHne : Axu x ≠ [] := fun h => by rw [h] at hHl; simp at hHl
     have hH24 := Czy hxo
     have hcall := fun H' hT' hs' => hC.call (L0 ++ (Azv (l.take k) ++ Av0 t h)) H' t.ham h x hT' hxo (htA h x hx hs')
     have hHx : (Axu x).toArray.extract 0 25 = (Axu x).toArray := by
      rw [List.extract_toArray, List.extract_eq_take_drop, List.drop_zero, List.take_of_length_le (by omega)]
     generalize Axu x = HC at *
     replace hsn : Aqk _ := hsn
     replace hT3 : Aqk _ := hT3
     replace hfr3 : Aqk _ := hfr3
     replace hcall : Aqk _ := hcall
     clear hho
     (refine @unH _ (zA Av5 ?_); (try clear hK K); intro K hK hc)
     intro yb hyb
     have nxy := Aqq vx3 hyb
     have nSy : ¬ S yb := fun h => hC.ex _ _ _ hT3 h hyb
     have h0yb : H yb = none := by
      cases h : H yb with
      | none => rfl
      | some z => have := (show ∀ b x, ¬ S b -> H b = some x -> H3 b = some x from hfr3) _ _ nSy h; rw [hyb] at this; cases this
     rw [Byx hHne hHone Axf (by rw [hHl]; rfl), Awp]
     generalize hG : Hp.set H3 yb _ = H4
     have vyb := Aqb hG
     have vx4 := Aqi hG vx3 nxy
     have hT4 : Aqk (T (L0 ++ (Azv (l.take k) ++ Av0 t h)) H4) := hC.keep _ _ _ hT3 (Aqc hG hyb)
     have hfr4 : Aqk (∀ b x, ¬ S b -> H b = some x -> H4 b = some x) := fun b x hb hx => Aqi hG ((show ∀ b x, ¬ S b -> H b = some x -> H3 b = some x from hfr3) b x hb hx) (fun e => by rw [e, h0yb] at hx; cases hx)
     clear hG hyb hT3 hfr3 hxe vx3
     refine hK _ _ ?_
     clear hK K
     (try refine @unH _ (zQ ?_))
     cases hxs : x.some with
     | false =>
      rw [hxs] at hH24 hsn
      replace hsn : Aqk (Av0 t (h + 1) = Av0 t h) := show Av0 t (h + 1) = Av0 t h from Eq.trans hsn (by simp)
      (refine @unH _ (zA Av5 ?_); (try clear hK K); intro K hK hc)
      exact ⟨_, by omega, _, h + 1, rfl, by omega, rfl, e1, e5, e8, e9, e10, e15, rfl, by rw [show Av0 t (h + 1) = _ from hsn]; exact hT4, hfr4, vx4⟩
     | true =>
      rw [hxs] at hH24 hsn
      replace hsn : Aqk (Av0 t (h + 1) = Av0 t h ++ [(t.ham, (h : Int), x)]) := show Av0 t (h + 1) = Av0 t h ++ [(t.ham, (h : Int), x)] from Eq.trans hsn (by simp)
      (refine @unH _ (zA Av5 ?_); (try clear hK K); intro K hK hc)
      refine Ajp.use ((show ∀ H', T _ H' -> x.some = true -> _ from hcall) H4 hT4 hxs) ?_
      rintro _ H5 ⟨rfl, hT5, hfr5⟩
      have vx5 := hfr5 _ _ nSx vx4
      replace hT5 : Aqk _ := hT5
      replace hfr5 : Aqk _ := hfr5
      clear hcall vyb vx4
      (refine @unH _ (zU Av5 ?_); (try clear hK K); intro K hK hc)
      refine ⟨_, by omega, _, h + 1, rfl, by omega, rfl, e1, e5, e8, e9, e10, e15, rfl, ?_, fun b x hb hx => (show ∀ b x, ¬ S b -> H4 b = some x -> H5 b = some x from hfr5) b x hb ((show ∀ b x, ¬ S b -> H b = some x -> H4 b = some x from hfr4) b x hb hx), vx5⟩
      rw [show Av0 t (h + 1) = _ from hsn, <- List.append_assoc (Azv _), <- List.append_assoc L0]
      exact hT5
    ·obtain rfl : h = 13 := by omega
     rw [Cyv (by rw [htok.l]; exact Nat.le_refl _), <- show Azv (l.take (k + 1)) = _ from hsu] at hT3
     replace hT3 : Aqk _ := hT3
     replace hfr3 : Aqk _ := hfr3
     (refine @unH _ (zA Av5 ?_); (try clear hK K); intro K hK hc)
     exact ⟨_, by omega, _, k + 1, rfl, by omega, rfl, e1, e8, e9, rfl, hT3, hfr3⟩
  ·obtain rfl : k = l.length := by omega
   rw [List.take_length] at hT1
   replace hT1 : Aqk _ := hT1
   replace hfr1 : Aqk _ := hfr1
   (refine @unH _ (zA Av5 ?_); (try clear hK K); intro K hK hc)
   (refine @unH _ ?_; refine zD results44 ?_)
   exact ⟨rfl, hT1, hfr1⟩
def IsF (P : Program) (main : Md) (H : Hp) (v : Value) (q : Hint -> Bool) : Prop := ∀ (H' : Hp) (x : Hint), H.le H' -> Axq x -> Ajp P main v #[.agg (Axu x).toArray] H' fun e H'' => e = .returned (.bool (q x)) /\ H'.le H''
def cntL (q : Hint -> Bool) (L : List (Int × Int × Hint)) : Nat := (L.filter fun x => q x.2.2).length
theorem Cv7 (q : Hint -> Bool) (L : List (Int × Int × Hint)) (x : Int × Int × Hint) : cntL q (L ++ [x]) = cntL q L + if q x.2.2 then 1 else 0 := by
 unfold cntL
 rw [List.filter_append, List.length_append]
 congr 1
 by_cases h : q x.2.2 <;> simp [h]
theorem Dkl (q : Hint -> Bool) (L : List (Int × Int × Hint)) : cntL q L <= L.length := List.length_filter_le _ _
theorem Bjo : ∀ (l : List Trail), (∀ t ∈ l, Ax2 t) -> (Azv l).length <= 13 * l.length
 | [], _ => by simp [Azv]
 | t :: l, h => by
  have h1 := Bjo l (fun x hx => h x (List.mem_cons_of_mem _ hx))
  have h2 : (Akx t).length <= 13 := by
   unfold Akx
   rw [List.length_map]
   refine Nat.le_trans (List.length_filter_le _ _) ?_
   rw [List.length_zipIdx, (h t List.mem_cons_self).l]
   exact Nat.le_refl _
  unfold Azv at *
  rw [List.flatMap_cons, List.length_append, List.length_cons]
  omega
theorem Cvj (main : Md) (H : Hp) (x : Hint) (hx : Axq x) :
  FnX Tryz.prog main 52 #[.agg (Axu x).toArray] H fun e H' => e = .returned (.bool true) /\ H.le H' := by
 refine Aql func52 rfl ntmps52 (by simp) ?_
 (refine @unH _ (zA trivial ?_); (try clear hK K); intro K hK hc)
 (intro b hb; generalize hG : Hp.set _ b _ = H1; have lH1 := Aqc hG hb; have vb := Aqb hG; clear hG)
 (refine @unH _ (zU trivial ?_); (try clear hK K); intro K hK hc)
 (refine @unH _ ?_; refine z9 results52 ?_)
 exact ⟨trivial, lH1⟩
theorem Dxt {main : Md} {H : Hp} {f : FuncId} {q : Hint -> Bool} (hc : ∀ (args : Array Value) (H : Hp) (K : Next -> Hp -> Prop) (E : Value -> Hp -> Prop), wpS Tryz.prog (callFunc f args) H K E = K (.enter f args) H) (h : ∀ H' x, H.le H' -> Axq x -> FnX Tryz.prog main f #[.agg (Axu x).toArray] H' fun e H'' => e = .returned (.bool (q x)) /\ H'.le H'') :
  IsF Tryz.prog main H (.func (.func f) #[] #[]) q := fun H' x hl hx K E h1 _ => by
 show wpS Tryz.prog (callFunc f (#[] ++ #[.agg (Axu x).toArray] ++ #[])) H' K E
 rw [hc]
 exact h1 _ _ _ (h H' x hl hx).runs
theorem Ajp.fn {P : Program} {main : Md} {f : FuncId} {fi cap args : Array Value} {H : Hp} {R : Ending -> Hp -> Prop} (hc : ∀ (args : Array Value) (H : Hp) (K : Next -> Hp -> Prop) (E : Value -> Hp -> Prop), wpS P (callFunc f args) H K E = K (.enter f args) H) (h : FnX P main f (fi ++ args ++ cap) H R) : Ajp P main (.func (.func f) fi cap) args H R := fun K E h1 _ => by
 rw [Bkf, hc]
 exact h1 _ _ _ h.runs
theorem Ak7 {x : Hint} (h : Axq x) : (Axu x).toArray.extract 0 25 = (Axu x).toArray := by
 have := Ax0 h
 rw [List.extract_toArray, List.extract_eq_take_drop, List.drop_zero, List.take_of_length_le (by omega)]
theorem Cqv (main : Md) (H : Hp) (fb nb : Nat) (yf : Fn) (yi yc : Array Value) (z : Int) (x : Hint) (hx : Axq x) (ham hour : Int) (r : Bool) (vf : H fb = some (true, .cells #[.func yf yi yc] 101 (0, 0))) (vn : H nb = some (true, .cells #[.int .i64 z] 3 (0, 0)))
  (hq : ∀ H', H.le H' -> Ajp Tryz.prog main (.func yf yi yc) #[.agg (Axu x).toArray] H' fun e H'' => e = .returned (.bool r) /\ H'.le H'') :
  FnX Tryz.prog main 73 #[.int .i64 ham, .int .i64 hour, .agg (Axu x).toArray, .pointer (some ⟨fb, 0, none⟩), .pointer (some ⟨nb, 0, none⟩)] H fun e H' => e = .returned (.tuple #[]) /\ H' nb = some (true, .cells #[.int .i64 (if r then IntKind.i64.wrap (z + 1) else z)] 3 (0, 0)) /\ ∀ b x, b ≠ nb -> H b = some x -> H' b = some x := by
 have hl := Ax0 hx
 have hex := Ak7 hx
 generalize Axu x = HC at *
 refine Aql func73 rfl ntmps73 (by simp) ?_
 (refine @unH _ (zA Bwl ?_); (try clear hK K); intro K hK hc)
 (intro b hb; generalize hG : Hp.set _ b _ = H1; have lH1 := Aqc hG hb; have vb := Aqb hG; clear hG)
 have vf1 := lH1 _ _ vf
 have vn1 := lH1 _ _ vn
 (refine @unH _ (zU Bwl ?_); (try clear hK K); intro K hK hc)
 refine Ajp.use (hq H1 lH1) ?_
 rintro _ H2 ⟨rfl, l2⟩
 have vn2 := l2 _ _ vn1
 have l02 := Hp.le_trans lH1 l2
 clear hq vf1 vn1 vb hex
 cases r with
 | true =>
  (refine @unH _ (zU Bwl ?_); (try clear hK K); intro K hK hc)
  (refine @unH _ ?_; refine zD results73 ?_)
  exact ⟨by trivial, Axf, fun b x hb hx => by rw [Aqu hb]; exact l02 _ _ hx⟩
 | false =>
  (refine @unH _ (zU Bwl ?_); (try clear hK K); intro K hK hc)
  (refine @unH _ ?_; refine zD results73 ?_)
  exact ⟨by trivial, vn2, fun b x hb hx => l02 _ _ hx⟩
theorem Awq (main : Md) (H : Hp) (v : Value) (l : List Trail) (hv : SlT H v l) (hok : ∀ t ∈ l, Ax2 t) (hl : l.length <= 1000) (yf : Fn) (yi yc : Array Value) (q : Hint -> Bool) (hq : IsF Tryz.prog main H (.func yf yi yc) q) :
  FnX Tryz.prog main 51 #[v, .func yf yi yc] H fun e H' => e = .returned (.int .i64 (cntL q (Azv l) : Nat)) /\ H.le H' := by
 refine Aql func51 rfl ntmps51 (by simp) ?_
 (refine @unH _ (zA (aN Bwi @cells_func) ?_); (try clear hK K); intro K hK hc)
 (intro fb hfb; generalize hG : Hp.set _ fb _ = H1; have lH1 := Aqc hG hfb; have vfb := Aqb hG; clear hG)
 have h0fb := hfb
 have l1 := lH1
 clear hfb lH1
 (refine @unH _ (zU Bwi ?_); (try clear hK K); intro K hK hc)
 intro nb hnb
 have nfn := Aqq vfb hnb
 (refine @unH _ (zU Bwi ?_); (try clear hK K); intro K hK hc)
 generalize hG : Hp.set H1 nb _ = H2
 have vnb := Aqb hG
 have l2 := Hp.le_trans l1 (Aqc hG hnb)
 have vf2 := Aqi hG vfb nfn
 have h0nb : H nb = none := Hp.le_none l1 hnb
 clear hG hnb vfb l1
 have hn : ∀ b x, H2 b = some x -> H2 b ≠ none := fun b x h => by rw [h]; simp
 have hC : HCl Tryz.prog main (.func (.func 73) #[] #[.pointer (some ⟨fb, 0, none⟩), .pointer (some ⟨nb, 0, none⟩)]) (fun _ _ _ => True) (fun b => H2 b ≠ none) (fun L H' => (∃ z, H' nb = some (true, .cells #[.int .i64 z] 3 (0, 0)) /\ (L.length <= 100000 -> z = (cntL q L : Nat))) /\ ∀ b x, b ≠ nb -> H2 b = some x -> H' b = some x) := by
  refine ⟨?_, ?_, ?_⟩
  ·rintro L H' H'' ⟨⟨z, h1, hz⟩, h2⟩ hk
   exact ⟨⟨z, hk _ _ h1, hz⟩, fun b x hb hx => hk _ _ (h2 b x hb hx)⟩
  ·rintro L H' b ⟨⟨z, h1, hz⟩, h2⟩ hb
   by_cases e : b = nb
   ·subst e; rw [h1]; simp
   ·cases hx : H2 b with
    | none => exact absurd hx hb
    | some x => rw [h2 b x e hx]; simp
  ·rintro L H' ham hour x ⟨⟨z, h1, hz⟩, h2⟩ hxo _
   have hq' : ∀ H'', H'.le H'' -> Ajp Tryz.prog main (.func yf yi yc) #[.agg (Axu x).toArray] H'' fun e H3 => e = .returned (.bool (q x)) /\ H''.le H3 := fun H'' l => hq H'' x (fun b z hz => l _ _ (h2 b z (fun e => by rw [e, h0nb] at hz; cases hz) (l2 _ _ hz))) hxo
   refine Ajp.fn (fun _ _ => Dkh _) ((Cqv main H' fb nb yf yi yc z x hxo ham hour (q x) (h2 _ _ nfn vf2) h1 hq').mono ?_)
   rintro _ H3 ⟨rfl, h3, h4⟩
   refine ⟨rfl, ⟨⟨_, h3, fun hL => ?_⟩, fun b x hb hx => h4 b _ hb (h2 b x hb hx)⟩, fun b x hb hx => h4 b x (fun e => hb (by rw [e]; exact hn _ _ vnb)) hx⟩
   rw [List.length_append, List.length_singleton] at hL
   have h5 := hz (by omega)
   have h6 := Dkl q L
   rw [Cv7]
   cases hqx : q x with
   | true =>
    simp only [hqx, if_true]
    rw [h5, w64 _ (by omega) (by omega)]
    simp
   | false =>
    simp only [hqx, Bool.false_eq_true, if_false]
    rw [h5]
    simp
 refine (Aw5 main hC H2 v l (fun L H' h _ => hv.move fun x p c fr hx => ⟨p, h.2 x _ (fun e => by rw [e, h0nb] at hx; cases hx) (l2 _ _ hx)⟩) hok (fun _ _ _ _ _ _ => trivial) hl [] ⟨⟨0, vnb, fun _ => rfl⟩, fun _ _ _ hx => hx⟩).runs.mono ?_
 rintro _ H3 ⟨rfl, ⟨⟨z, h3, hz⟩, h4⟩, _⟩
 rw [List.nil_append] at hz
 obtain rfl := hz (by have := Bjo l hok; omega)
 clear hz
 have l3 : Aqk (H.le H3) := fun b x hx => h4 b x (fun e => by rw [e, h0nb] at hx; cases hx) (l2 _ _ hx)
 clear hC h4 hq hn
 generalize cntL q (Azv l) = z at *
 (refine @unH _ (zU Bwi ?_); (try clear hK K); intro K hK hc)
 (refine @unH _ ?_; refine z9 results51 ?_)
 exact ⟨trivial, l3⟩
theorem Cwt {main : Md} {y : Value} {A : Int -> Int -> Hint -> Prop} (H2 : Hp) (ob : Nat) (O : List (Int × Int × Hint) -> Obj) (vo : H2 ob = some (true, O []))
  (h : ∀ L H' ham hour x, H' ob = some (true, O L) -> (∀ b z, b ≠ ob -> H2 b = some z -> H' b = some z) -> Axq x -> A ham hour x -> Ajp Tryz.prog main y #[.int .i64 ham, .int .i64 hour, .agg (Axu x).toArray] H' fun e H'' => e = .returned (.tuple #[]) /\ H'' ob = some (true, O (L ++ [(ham, hour, x)])) /\ ∀ b z, b ≠ ob -> H' b = some z -> H'' b = some z) :
  HCl Tryz.prog main y A (fun b => H2 b ≠ none) (fun L H' => H' ob = some (true, O L) /\ ∀ b x, b ≠ ob -> H2 b = some x -> H' b = some x) := by
 have hn : ∀ b x, H2 b = some x -> H2 b ≠ none := fun b x h => by rw [h]; simp
 refine ⟨?_, ?_, ?_⟩
 ·rintro L H' H'' ⟨h1, h2⟩ hk
  exact ⟨hk _ _ h1, fun b x hb hx => hk _ _ (h2 b x hb hx)⟩
 ·rintro L H' b ⟨h1, h2⟩ hb
  by_cases e : b = ob
  ·subst e; rw [h1]; simp
  ·cases hx : H2 b with
   | none => exact absurd hx hb
   | some x => rw [h2 b x e hx]; simp
 ·rintro L H' ham hour x ⟨h1, h2⟩ hxo hA
  refine (h L H' ham hour x h1 h2 hxo hA).mono ?_
  rintro e H3 ⟨rfl, h3, h4⟩
  exact ⟨rfl, ⟨h3, fun b x hb hx => h4 b _ hb (h2 b x hb hx)⟩, fun b x hb hx => h4 b x (fun e => hb (by rw [e]; exact hn _ _ vo)) hx⟩
theorem Bz3 (main : Md) {A : Int -> Int -> Hint -> Prop} {yf : Fn} {yi yc : Array Value} (H H2 : Hp) (v : Value) (l : List Trail) (hv : SlT H v l) (ob : Nat) (O : List (Int × Int × Hint) -> Obj) (l2 : H.le H2) (h0 : H ob = none) (vo : H2 ob = some (true, O []))
  (h : ∀ L H' ham hour x, H' ob = some (true, O L) -> (∀ b z, b ≠ ob -> H2 b = some z -> H' b = some z) -> Axq x -> A ham hour x -> Ajp Tryz.prog main (.func yf yi yc) #[.int .i64 ham, .int .i64 hour, .agg (Axu x).toArray] H' fun e H'' => e = .returned (.tuple #[]) /\ H'' ob = some (true, O (L ++ [(ham, hour, x)])) /\ ∀ b z, b ≠ ob -> H' b = some z -> H'' b = some z)
  (hok : ∀ t ∈ l, Ax2 t) (hA : ∀ t ∈ l, ∀ (h : Nat) x, t.hs[h]? = some x -> x.some = true -> A t.ham h x) (hl : l.length <= 1000) :
  FnX Tryz.prog main 44 #[v, .func yf yi yc] H2 fun e H' => e = .returned (.tuple #[]) /\ H' ob = some (true, O (Azv l)) /\ ∀ b x, b ≠ ob -> H2 b = some x -> H' b = some x :=
 (Aw5 main (Cwt H2 ob O vo h) H2 v l (fun L H' h _ => hv.move fun x p c fr hx => ⟨p, h.2 x _ (fun e => by rw [e, h0] at hx; cases hx) (l2 _ _ hx)⟩) hok hA hl [] ⟨vo, fun _ _ _ hx => hx⟩).mono fun e H' ⟨h1, h2, _⟩ => ⟨h1, by simpa using h2.1, h2.2⟩
end Go.Proofs.YtnfnaehonkbknaaGreatDoor
end
section
namespace Go.Proofs.YtnfnaehonkbknaaGreatDoor
open Go Go.X Go.Proofs.Tryz
def Aj8 := aN @Eq4 (aN @Bvi (aN @Dyv (aN @Exh (aN @Eqy (aN @Dy6 (aN @Ays (aN @Cql @Bvk)))))))
theorem Ajj {s : Sm} (ok : SmOk s) : ∀ t ∈ Axl s, Ax2 t := fun t ht => by
 simp only [Axl, List.mem_map] at ht
 obtain ⟨i, _, rfl⟩ := ht
 exact Aws ok i
theorem Azp (s : Sm) : (Axl s).length = s.hampers.length := by simp [Axl]
def susp (s : Sm) : List (Int × Int × Hint) := Azv (Axl s)
def Azi (s : Sm) : Nat := cntL (fun _ => true) (susp s)
theorem Awj (s : Sm) : Azi s = (susp s).length := by
 unfold Azi cntL
 rw [List.filter_eq_self.2 (fun _ _ => rfl)]
def begE (s : Sm) (ps : List Int) (hour : Int) : Int := if ps.any (fun p => decide (p < 0) || decide (s.places - 1 < p)) then 3 else if hour < 0 ∨ 12 < hour then 1 else if Azi s = 0 then 11 else 0
theorem Dz3 (main : Md) (H : Hp) : IsF Tryz.prog main H (.func (.func 52) #[] #[]) (fun _ => true) := Dxt (fun _ _ => Dj5 _) fun H' x _ hx => Cvj main H' x hx
theorem Aw7 (main : Md) (H : Hp) (s : Sm) (ok : SmOk s) (v : Value) (hv : SlT H v (Axl s)) :
  FnX Tryz.prog main 51 #[v, .func (.func 52) #[] #[]] H fun e H' => e = .returned (.int .i64 (Azi s : Nat)) /\ H.le H' :=
 Awq main H v _ hv (Ajj ok) (by rw [Azp]; have := ok.h1; omega) _ _ _ _ (Dz3 main H)
theorem Az4 (H : Hp) (s : Sm) (dv hv nv : Value) (hs : SmIn H dv hv nv s) (ok : SmOk s) (hour : Int) (pv : Value) (ps : List Int) (hp : SlI H pv ps) (hpl : ps.length <= 1000) :
  FnX Tryz.prog (.wg Tryz.prog) 43 #[smV s.places dv hv nv, .int .i64 hour, pv] H fun e H' => ∃ v, e = .returned (.tuple #[v, .int .i64 (begE s ps hour)]) /\ H.le H' /\ (begE s ps hour = 0 ∨ begE s ps hour = 11 -> SlT H' v (Axl s)) /\ (begE s ps hour = 3 ∨ begE s ps hour = 1 -> v = .slice none 0 0) := by
 obtain ⟨da, dc, ha, kc, na, nc, rfl, rfl, rfl, l1, l2, l3⟩ := hs.forms
 obtain ⟨pa, pc, rfl, hpc, _⟩ := id hp
 refine Aql func43 rfl ntmps43 (by simp) ?_
 (refine @unH _ (zA Aj8 ?_); (try clear hK K); intro K hK hc)
 (intro sb hsb; generalize hG : Hp.set _ sb _ = H1; have lH1 := Aqc hG hsb; have vsb := Aqb hG; clear hG)
 have hs1 := hs.le lH1
 have hp1 := hp.le lH1
 have q0 := ok.p0
 have q6 := ok.p1
 clear hsb
 (refine @unH _ (zU Aj8 ?_); (try clear hK K); intro K hK hc)
 refine (Avr _ H1 s _ _ _ hs1 ok).runs.mono ?_
 rintro _ H2 ⟨rfl, lH2⟩
 have l02 := Hp.le_trans lH1 lH2
 have hs2 := hs1.le lH2
 have hp2 := hp1.le lH2
 have vs2 := lH2 _ _ vsb
 clear vsb lH1 lH2 hs1 hp1 hs hp
 (refine @unH _ (zU Aj8 ?_); (try clear hK K); intro K hK hc)
 refine Axc (fun w a' H' => ∃ e, ∃ k : Nat, w = ps.length - k /\ k <= ps.length /\ a' = act 38 e [] /\ e 1 = .int .i64 hour /\ e 3 = .pointer (some ⟨sb, 0, none⟩) /\ e 17 = .slice pa ps.length pc /\ e 18 = .int .i64 ps.length /\ e 19 = .int .i64 (k : Nat) /\ (ps.take k).any (fun p => decide (p < 0) || decide (s.places - 1 < p)) = false /\ H' = H2) (n := ps.length) ?_ ?_
 ·exact ⟨_, 0, by omega, by omega, rfl, rfl, rfl, rfl, rfl, rfl, rfl, rfl⟩
 ·rintro w a' H3 ⟨e, k, rfl, hk, rfl, e1, e3, e17, e18, e19, hany, hHQ⟩
  rw [hHQ]; clear hHQ H3
  by_cases hlt : k < ps.length
  ·obtain ⟨b, o, q, c, fr, rfl, hb, hc'⟩ := hp2.get (List.getElem?_eq_getElem hlt)
   have hstep : (ps.take (k + 1)).any (fun p => decide (p < 0) || decide (s.places - 1 < p)) = (decide (ps[k] < 0) || decide (s.places - 1 < ps[k])) := by
    rw [List.take_add_one, List.getElem?_eq_getElem hlt, List.any_append, hany]
    simp
   have hall : (decide (ps[k] < 0) || decide (s.places - 1 < ps[k])) = true -> ps.any (fun p => decide (p < 0) || decide (s.places - 1 < p)) = true := fun h => List.any_eq_true.2 ⟨_, List.getElem_mem hlt, h⟩
   generalize ps[k] = p at *
   replace hany : Aqk _ := hany
   replace hstep : Aqk _ := hstep
   replace hall : Aqk _ := hall
   (refine @unH _ (zA Aj8 ?_); (try clear hK K); intro K hK hc)
   refine (Axk _ H2 p 0 (s.places - 1)).runs.mono ?_
   rintro _ _ ⟨rfl, hQ⟩
   rw [hQ]
   clear hQ
   cases hbad : (decide (p < 0) || decide (s.places - 1 < p)) with
   | true =>
    have hE : Aqk (begE s ps hour = 3) := show begE s ps hour = 3 by
     unfold begE
     rw [(show _ -> _ from hall) hbad, if_pos rfl]
    (refine @unH _ (zU Aj8 ?_); (try clear hK K); intro K hK hc)
    (refine @unH _ ?_; refine zB results43 ?_)
    rw [show begE s ps hour = 3 from hE]
    exact ⟨_, rfl, l02, by simp, fun _ => rfl⟩
   | false =>
    rw [hbad] at hstep
    (refine @unH _ (zU Aj8 ?_); (try clear hK K); intro K hK hc)
    exact ⟨_, by omega, _, k + 1, rfl, by omega, rfl, e1, e3, e17, e18, rfl, hstep, by trivial⟩
  ·obtain rfl : k = ps.length := by omega
   rw [List.take_length] at hany
   replace hany : Aqk _ := hany
   (refine @unH _ (zA Aj8 ?_); (try clear hK K); intro K hK hc)
   refine (Axk _ H2 hour 0 12).runs.mono ?_
   rintro _ _ ⟨rfl, hQ⟩
   rw [hQ]
   clear hQ
   by_cases hh : hour < 0 ∨ 12 < hour
   ·rw [show (decide (hour < 0) || decide (12 < hour)) = true by simp; omega]
    have hE : Aqk (begE s ps hour = 1) := show begE s ps hour = 1 by
     unfold begE
     rw [show ps.any _ = false from hany, if_neg (by simp), if_pos hh]
    (refine @unH _ (zU Aj8 ?_); (try clear hK K); intro K hK hc)
    (refine @unH _ ?_; refine zB results43 ?_)
    rw [show begE s ps hour = 1 from hE]
    exact ⟨_, rfl, l02, by simp, fun _ => rfl⟩
   ·rw [show (decide (hour < 0) || decide (12 < hour)) = false by simp; omega]
    have hE : Aqk (begE s ps hour = if Azi s = 0 then 11 else 0) := show begE s ps hour = _ by
     unfold begE
     rw [show ps.any _ = false from hany, if_neg (by simp), if_neg hh]
    (refine @unH _ (zU Aj8 ?_); (try clear hK K); intro K hK hc)
    refine (Ay5 H2 s _ _ _ hs2 ok).runs.mono ?_
    rintro _ H4 ⟨v, rfl, hv, lH4⟩
    have l04 := Hp.le_trans l02 lH4
    clear lH4 hs2 hp2 vs2
    (refine @unH _ (zU Aj8 ?_); (try clear hK K); intro K hK hc)
    refine (Aw7 _ H4 s ok v hv).runs.mono ?_
    rintro _ H5 ⟨rfl, lH5⟩
    have hv5 := hv.le lH5
    have l05 := Hp.le_trans l04 lH5
    by_cases hz : Azi s = 0
    ·rw [hz] at hE ⊢
     rw [if_pos rfl] at hE
     replace hE : Aqk _ := hE
     clear hz
     (refine @unH _ (zU Aj8 ?_); (try clear hK K); intro K hK hc)
     (refine @unH _ ?_; refine zB results43 ?_)
     rw [show begE s ps hour = 11 from hE]
     exact ⟨_, rfl, l05, fun _ => hv5, by simp⟩
    ·rw [if_neg hz] at hE
     replace hE : Aqk _ := hE
     have hz' : ((Azi s : Nat) : Int) ≠ 0 := by omega
     (refine @unH _ (zU Aj8 ?_); (try clear hK K); intro K hK hc)
     (refine @unH _ ?_; refine zB results43 ?_)
     rw [show begE s ps hour = 0 from hE]
     exact ⟨_, rfl, l05, fun _ => hv5, by simp⟩
def Bjw := aN @Eq4 (aN @Ayr @Bvk)
def Av4 := aN @Eq4 (aN @Ayr (aN (fun H => Aqt (H := H) (P := Tryz.prog) (h := zeroValue110)) (aN @Ex1 (aN @Bq1 (aN @Eqr @Cv0)))))
def Bwj := aN @Eq4 (aN @Cql @Bvk)
def Czb := aN @Eqr (aN @Cqm @Ex1)
theorem nilS (H : Hp) : SlI H (.slice none 0 0) [] := ⟨none, 0, rfl, Nat.le_refl _, fun i x h => by simp at h⟩
theorem Bx8 (s : Sm) : begE s [] 0 = if Azi s = 0 then 11 else 0 := by
 unfold begE
 simp
theorem Cxk (H : Hp) (s : Sm) (dv hv nv : Value) (hs : SmIn H dv hv nv s) (ok : SmOk s) :
  FnX Tryz.prog (.wg Tryz.prog) 18 #[smV s.places dv hv nv] H fun e H' => e = .returned (.tuple #[.int .i64 (Azi s : Nat), .int .i64 0]) /\ H.le H' := by
 obtain ⟨da, dc, ha, kc, na, nc, rfl, rfl, rfl, l1, l2, l3⟩ := hs.forms
 refine Aql func18 rfl ntmps18 (by simp) ?_
 (refine @unH _ (zA Bjw ?_); (try clear hK K); intro K hK hc)
 (intro sb hsb; generalize hG : Hp.set _ sb _ = H1; have lH1 := Aqc hG hsb; have vsb := Aqb hG; clear hG)
 (refine @unH _ (zU Bjw ?_); (try clear hK K); intro K hK hc)
 refine (Az4 H1 s _ _ _ (hs.le lH1) ok 0 _ [] (nilS H1) (by simp)).runs.mono ?_
 rw [Bx8]
 rintro _ H2 ⟨v, rfl, lH2, hv, _⟩
 have l02 := Hp.le_trans lH1 lH2
 clear lH1 lH2 vsb hs hsb
 by_cases hz : Azi s = 0
 ·rw [if_pos hz]
  have hz' : Aqk (Azi s = 0) := hz
  replace hz' : Aqk _ := hz'
  clear hz hv
  (refine @unH _ (zU Bjw ?_); (try clear hK K); intro K hK hc)
  (refine @unH _ ?_; refine zB results18 ?_)
  exact ⟨by rw [show Azi s = 0 from hz']; rfl, l02⟩
 ·rw [if_neg hz]
  rw [if_neg hz] at hv
  have hv2 := hv (.inl rfl)
  clear hv
  (refine @unH _ (zU Bjw ?_); (try clear hK K); intro K hK hc)
  refine (Aw7 _ H2 s ok v hv2).runs.mono ?_
  rintro _ H3 ⟨rfl, lH3⟩
  have l03 := Hp.le_trans l02 lH3
  (refine @unH _ (zU Bjw ?_); (try clear hK K); intro K hK hc)
  (refine @unH _ ?_; refine zB results18 ?_)
  exact ⟨trivial, l03⟩
theorem Cyg (H : Hp) (s : Sm) (dv hv nv : Value) (hs : SmIn H dv hv nv s) (ok : SmOk s) :
  FnX Tryz.prog (.wg Tryz.prog) 57 #[smV s.places dv hv nv] H fun e H' => e = .returned (.bool (decide (0 < Azi s))) /\ H.le H' := by
 obtain ⟨da, dc, ha, kc, na, nc, rfl, rfl, rfl, l1, l2, l3⟩ := hs.forms
 refine Aql func57 rfl ntmps57 (by simp) ?_
 (refine @unH _ (zA Bwj ?_); (try clear hK K); intro K hK hc)
 (intro sb hsb; generalize hG : Hp.set _ sb _ = H1; have lH1 := Aqc hG hsb; have vsb := Aqb hG; clear hG)
 (refine @unH _ (zU Bwj ?_); (try clear hK K); intro K hK hc)
 refine (Ay5 H1 s _ _ _ (hs.le lH1) ok).runs.mono ?_
 rintro _ H2 ⟨v, rfl, hv, lH2⟩
 have l02 := Hp.le_trans lH1 lH2
 (refine @unH _ (zU Bwj ?_); intro _ _ hc)
 refine (Aw7 _ H2 s ok v hv).runs.mono ?_
 rintro _ H3 ⟨rfl, lH3⟩
 have l03 := Hp.le_trans l02 lH3
 (refine @unH _ (zU Bwj ?_); (try clear hK K); intro K hK hc)
 (refine @unH _ ?_; refine z9 results57 ?_)
 refine ⟨?_, l03⟩
 have : decide ((0 : Int) < ((Azi s : Nat) : Int)) = decide (0 < Azi s) := by
  rw [Bool.eq_iff_iff]
  simp
 rw [<- this]
def Cka (L : List (Int × Int × Hint)) : Nat := oOf (L.map fun x => x.1)
theorem Bj6 (main : Md) (H : Hp) (ob m : Nat) (ham hour : Int) (x : Hint) (hm : m < 64) (h0 : 0 <= ham) (h1 : ham < 6) (vo : H ob = some (true, .cells #[.int .u8 m] 110 (0, 0))) :
  FnX Tryz.prog main 62 #[.int .i64 ham, .int .i64 hour, .agg (Axu x).toArray, .pointer (some ⟨ob, 0, none⟩)] H fun e H' => e = .returned (.tuple #[]) /\ H' ob = some (true, .cells #[.int .u8 (Akh m ham.toNat : Nat)] 110 (0, 0)) /\ ∀ b x, b ≠ ob -> H b = some x -> H' b = some x := by
 refine Aql func62 rfl ntmps62 (by simp) ?_
 (refine @unH _ (zA Czb ?_); (try clear hK K); intro K hK hc)
 (intro b hb; generalize hG : Hp.set _ b _ = H1; have lH1 := Aqc hG hb; have vb := Aqb hG; clear hG)
 have vo1 := lH1 _ _ vo
 (refine @unH _ (zU Czb ?_); (try clear hK K); intro K hK hc)
 refine (Bxb main H1 m ham hm h0 h1).runs.mono ?_
 rintro _ _ ⟨rfl, hQ⟩
 rw [hQ]
 clear hQ
 (refine @unH _ (zU Czb ?_); (try clear hK K); intro K hK hc)
 (refine @unH _ ?_; refine zD results62 ?_)
 exact ⟨by trivial, Axf, fun b x hb hx => by rw [Aqu hb]; exact lH1 _ _ hx⟩
theorem Bxi {s : Sm} (ok : SmOk s) : ∀ t ∈ Axl s, 0 <= t.ham /\ t.ham < 3 := fun t ht => by
 simp only [Axl, List.mem_map, List.mem_range] at ht
 obtain ⟨i, hi, rfl⟩ := ht
 have := ok.h1
 exact ⟨by show (0 : Int) <= (i : Int); omega, by show (i : Int) < 3; omega⟩
theorem Cjc {s : Sm} (ok : SmOk s) : ∀ x ∈ susp s, 0 <= x.1 /\ x.1 < 3 := fun x hx => by
 unfold susp Azv at hx
 obtain ⟨t, ht, hx⟩ := List.mem_flatMap.1 hx
 unfold Akx at hx
 obtain ⟨y, _, rfl⟩ := List.mem_map.1 hx
 exact Bxi ok t ht
def Dxn (L : List (Int × Int × Hint)) : Nat := L.foldl (fun m x => if 0 <= x.1 /\ x.1 < 3 then Akh m x.1.toNat else m) 0
theorem Dxp (L : List (Int × Int × Hint)) : Dxn L < 64 := by
 have key : ∀ (L : List (Int × Int × Hint)) (m : Nat), m < 64 -> L.foldl (fun m x => if 0 <= x.1 /\ x.1 < 3 then Akh m x.1.toNat else m) m < 64 := by
  intro L
  induction L with
  | nil => intro m h; exact h
  | cons x L ih =>
   intro m h
   rw [List.foldl_cons]
   refine ih _ ?_
   split
   ·exact Bvy h (by omega) (by omega)
   ·exact h
 exact key L 0 (by decide)
theorem Dxo {L : List (Int × Int × Hint)} (h : ∀ x ∈ L, 0 <= x.1 /\ x.1 < 3) : Dxn L = Cka L := by
 have key : ∀ (L : List (Int × Int × Hint)) (m : Nat), (∀ x ∈ L, 0 <= x.1 /\ x.1 < 3) -> L.foldl (fun m x => if 0 <= x.1 /\ x.1 < 3 then Akh m x.1.toNat else m) m = (L.map fun x => x.1).foldl (fun m x => Akh m x.toNat) m := by
  intro L
  induction L with
  | nil => intro m _; rfl
  | cons x L ih =>
   intro m h
   rw [List.foldl_cons, List.map_cons, List.foldl_cons, if_pos (h x List.mem_cons_self), ih _ (fun y hy => h y (List.mem_cons_of_mem _ hy))]
 exact key L 0 h
theorem sSuspects_spec (H : Hp) (s : Sm) (dv hv nv : Value) (hs : SmIn H dv hv nv s) (ok : SmOk s) :
  FnX Tryz.prog (.wg Tryz.prog) 27 #[smV s.places dv hv nv] H fun e H' => ∃ v, e = .returned (.tuple #[v, .int .i64 (if Azi s = 0 then 11 else 0)]) /\ SlI H' v (if Azi s = 0 then [] else Bq8 (Cka (susp s))) /\ H.le H' := by
 obtain ⟨da, dc, ha, kc, na, nc, rfl, rfl, rfl, l1, l2, l3⟩ := hs.forms
 have hm64 : Cka (susp s) < 64 := Cw6 _ 0 (by decide) fun x hx => by
  obtain ⟨y, hy, rfl⟩ := List.mem_map.1 hx
  have := Cjc ok y hy
  omega
 by_cases hz : Azi s = 0
 ·simp only [if_pos hz]
  refine Aql func27 rfl ntmps27 (by simp) ?_
  (refine @unH _ (zA Av4 ?_); (try clear hK K); intro K hK hc)
  (intro sb hsb; generalize hG : Hp.set _ sb _ = H1; have lH1 := Aqc hG hsb; have vsb := Aqb hG; clear hG)
  (refine @unH _ (zU Av4 ?_); (try clear hK K); intro K hK hc)
  refine (Az4 H1 s _ _ _ (hs.le lH1) ok 0 _ [] (nilS H1) (by simp)).runs.mono ?_
  rw [Bx8, if_pos hz]
  rintro _ H2 ⟨v, rfl, lH2, hv, _⟩
  have l02 := Hp.le_trans lH1 lH2
  clear lH1 lH2 vsb hs hsb
  clear hz hv
  (refine @unH _ (zU Av4 ?_); (try clear hK K); intro K hK hc)
  (refine @unH _ ?_; refine zB results27 ?_)
  exact ⟨_, rfl, nilS _, l02⟩
 ·simp only [if_neg hz]
  refine Aql func27 rfl ntmps27 (by simp) ?_
  (refine @unH _ (zA Av4 ?_); (try clear hK K); intro K hK hc)
  (intro sb hsb; generalize hG : Hp.set _ sb _ = H1; have lH1 := Aqc hG hsb; have vsb := Aqb hG; clear hG)
  (refine @unH _ (zU Av4 ?_); (try clear hK K); intro K hK hc)
  refine (Az4 H1 s _ _ _ (hs.le lH1) ok 0 _ [] (nilS H1) (by simp)).runs.mono ?_
  rw [Bx8, if_neg hz]
  rintro _ H2 ⟨v, rfl, lH2, hv, _⟩
  have l02 := Hp.le_trans lH1 lH2
  clear lH1 lH2 vsb hs hsb
  have hv2 := hv (.inl rfl)
  clear hv hz
  (refine @unH _ (zU Av4 ?_); (try clear hK K); intro K hK hc)
  intro ob hob
  (refine @unH _ (zU Av4 ?_); (try clear hK K); intro K hK hc)
  generalize hG : Hp.set H2 ob _ = H3
  have lH3 := Aqc hG hob
  have vo3 := Aqb hG
  have l03 := Hp.le_trans l02 lH3
  have h0ob := hob
  have h00 := Hp.le_none l02 hob
  clear hG hob
  have hone := Bz3 (.wg Tryz.prog) (A := fun ham _ _ => 0 <= ham /\ ham < 3) (yf := .func 62) (yi := #[]) (yc := #[.pointer (some ⟨ob, 0, none⟩)]) H2 H3 v _ hv2 ob (fun L => .cells #[.int .u8 (Dxn L : Nat)] 110 (0, 0)) lH3 h0ob (by rw [vo3]; rfl) (fun L H' ham hour x h1 h2 hxo ⟨a0, a3⟩ => by
   refine Ajp.fn (fun _ _ => Dkb _) ((Bj6 _ H' ob _ ham hour x (Dxp L) a0 (by omega) h1).mono ?_)
   rintro _ H4 ⟨rfl, h3, h4⟩
   refine ⟨rfl, ?_, h4⟩
   rw [h3]
   unfold Dxn
   rw [List.foldl_append, List.foldl_cons, List.foldl_nil, if_pos ⟨a0, a3⟩]) (Ajj ok) (fun t ht h x _ _ => Bxi ok t ht) (by rw [Azp]; have := ok.h1; omega)
  refine hone.runs.mono ?_
  clear hone
  rintro _ H4 ⟨rfl, h3, h4⟩
  rw [show Azv (Axl s) = susp s from rfl, Dxo (Cjc ok)] at h3
  have l04 : H.le H4 := fun b x hx => h4 b x (fun e => by rw [e, h00] at hx; cases hx) (l03 _ _ hx)
  replace h3 : H4 ob = some (true, .cells #[.int .u8 (Cka (susp s) : Nat)] 110 (0, 0)) := h3
  clear h4 vo3 l03 l02
  (refine @unH _ (zU Av4 ?_); (try clear hK K); intro K hK hc)
  refine (Ckz _ H4 _ hm64).runs.mono ?_
  rintro _ H5 ⟨w, rfl, hw, lH5⟩
  have l05 := Hp.le_trans l04 lH5
  (refine @unH _ (zU Av4 ?_); (try clear hK K); intro K hK hc)
  (refine @unH _ ?_; refine zB results27 ?_)
  exact ⟨_, rfl, hw, l05⟩
end Go.Proofs.YtnfnaehonkbknaaGreatDoor
end
