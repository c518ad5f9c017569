/- Texts LSKnown. -/
import Derived.Test.YtnfnaehonkbknaaGreatDoorJ24
set_option linter.defProp false
set_option linter.unusedSimpArgs false
set_option linter.unusedVariables false
set_option maxRecDepth 100000
set_option maxHeartbeats 2000000
section
namespace Go.Proofs.YtnfnaehonkbknaaGreatDoor
open Go Go.X Go.Proofs.Tryz
def y6_188 := aN @Cj0 (aN @Dw1 (aN @Dwr (aN @Dvo (aN @Dwa (aN @Dvq (aN @Dwb (aN @Dxk (aN @Bzo (aN @Cjz (aN @Dvn (aN @Dyi (aN @Dw9 (aN @Dwu (aN @Dvp (aN @Dk8 (aN @Dya (aN @Dwt (aN @Dk9 (aN @callF13 (aN @Bjx (aN @Dwj (aN @Dxl (aN @Dw3 (aN @Dws (aN @Dxm (aN @Dxf (aN @callF27 (aN @Dwk (aN @Dxi (aN @Dxh (aN @Dxj (aN @Dxe (aN @callF28 (aN @Ax1 (aN @Dxd (aN @callF11 (aN @Dxn (aN @Dxo (aN @Dyd (aN @callF19 (aN @callF17 @callF20)))))))))))))))))))))))))))))))))))))))))
structure KnM (Hs : Hp) (x1 x2 x3 x4 x5 : Nat) (o1 o2 o3 o4 o5 : Obj) (H : Hp) : Prop where
 keep : ∀ x u, x ≠ x1 -> x ≠ x2 -> x ≠ x3 -> x ≠ x4 -> x ≠ x5 -> Hs x = some u -> H x = some u
 a1 : H x1 = some (true, o1)
 a2 : H x2 = some (true, o2)
 a3 : H x3 = some (true, o3)
 a4 : H x4 = some (true, o4)
 a5 : H x5 = some (true, o5)
structure KnD (x1 x2 x3 x4 x5 : Nat) : Prop where
 d12 : x1 ≠ x2
 d13 : x1 ≠ x3
 d14 : x1 ≠ x4
 d15 : x1 ≠ x5
 d23 : x2 ≠ x3
 d24 : x2 ≠ x4
 d25 : x2 ≠ x5
 d34 : x3 ≠ x4
 d35 : x3 ≠ x5
 d45 : x4 ≠ x5
section
variable {Hs H H' : Hp} {x1 x2 x3 x4 x5 : Nat} {o1 o2 o3 o4 o5 o : Obj}
theorem KnM.le (k : KnM Hs x1 x2 x3 x4 x5 o1 o2 o3 o4 o5 H) (l : H.le H') : KnM Hs x1 x2 x3 x4 x5 o1 o2 o3 o4 o5 H' := ⟨fun x u h1 h2 h3 h4 h5 h => l _ _ (k.keep x u h1 h2 h3 h4 h5 h), l _ _ k.a1, l _ _ k.a2, l _ _ k.a3, l _ _ k.a4, l _ _ k.a5⟩
theorem KnM.p1 (k : KnM Hs x1 x2 x3 x4 x5 o1 o2 o3 o4 o5 H) (d : KnD x1 x2 x3 x4 x5) : KnM Hs x1 x2 x3 x4 x5 o o2 o3 o4 o5 (H.set x1 o) := ⟨fun x u h1 h2 h3 h4 h5 h => (Aqv h1).trans (k.keep x u h1 h2 h3 h4 h5 h), Axp, (Aqv d.d12.symm).trans k.a2, (Aqv d.d13.symm).trans k.a3, (Aqv d.d14.symm).trans k.a4, (Aqv d.d15.symm).trans k.a5⟩
theorem KnM.p2 (k : KnM Hs x1 x2 x3 x4 x5 o1 o2 o3 o4 o5 H) (d : KnD x1 x2 x3 x4 x5) : KnM Hs x1 x2 x3 x4 x5 o1 o o3 o4 o5 (H.set x2 o) := ⟨fun x u h1 h2 h3 h4 h5 h => (Aqv h2).trans (k.keep x u h1 h2 h3 h4 h5 h), (Aqv d.d12).trans k.a1, Axp, (Aqv d.d23.symm).trans k.a3, (Aqv d.d24.symm).trans k.a4, (Aqv d.d25.symm).trans k.a5⟩
theorem KnM.p3 (k : KnM Hs x1 x2 x3 x4 x5 o1 o2 o3 o4 o5 H) (d : KnD x1 x2 x3 x4 x5) : KnM Hs x1 x2 x3 x4 x5 o1 o2 o o4 o5 (H.set x3 o) := ⟨fun x u h1 h2 h3 h4 h5 h => (Aqv h3).trans (k.keep x u h1 h2 h3 h4 h5 h), (Aqv d.d13).trans k.a1, (Aqv d.d23).trans k.a2, Axp, (Aqv d.d34.symm).trans k.a4, (Aqv d.d35.symm).trans k.a5⟩
theorem KnM.p4 (k : KnM Hs x1 x2 x3 x4 x5 o1 o2 o3 o4 o5 H) (d : KnD x1 x2 x3 x4 x5) : KnM Hs x1 x2 x3 x4 x5 o1 o2 o3 o o5 (H.set x4 o) := ⟨fun x u h1 h2 h3 h4 h5 h => (Aqv h4).trans (k.keep x u h1 h2 h3 h4 h5 h), (Aqv d.d14).trans k.a1, (Aqv d.d24).trans k.a2, (Aqv d.d34).trans k.a3, Axp, (Aqv d.d45.symm).trans k.a5⟩
theorem KnM.p5 (k : KnM Hs x1 x2 x3 x4 x5 o1 o2 o3 o4 o5 H) (d : KnD x1 x2 x3 x4 x5) : KnM Hs x1 x2 x3 x4 x5 o1 o2 o3 o4 o (H.set x5 o) := ⟨fun x u h1 h2 h3 h4 h5 h => (Aqv h5).trans (k.keep x u h1 h2 h3 h4 h5 h), (Aqv d.d15).trans k.a1, (Aqv d.d25).trans k.a2, (Aqv d.d35).trans k.a3, (Aqv d.d45).trans k.a4, Axp⟩
end
theorem ErrS.putS {H : Hp} (h : ErrS H) {b : Nat} {x : Int} {u v w : Value} (hb : H b = some (true, smO x u v w)) (o : Obj) : ErrS (H.set b o) := by
 obtain ⟨q, cg, eg, fg, h1, h2⟩ := h
 refine ⟨q, cg, eg, fg, ?_, h2⟩
 rw [Aqv (fun e => by
  rw [e, hb] at h1
  simp only [smO, Option.some.injEq, Prod.mk.injEq, Obj.cells.injEq] at h1
  rw [<- h1.2.1] at h2
  simp at h2)]
 exact h1
theorem fillD2 (a b c d a' b' c' d' : Int) : Instr.fill (fun i => some (i * 4, 4)) ((Array.range (2 * 4)).map fun x => (Value.agg #[.int .i64 0, .int .i64 0, .int .i64 0, .int .i64 0]).cells[x % (Value.agg #[.int .i64 0, .int .i64 0, .int .i64 0, .int .i64 0]).cells.size]!) [(0, .agg #[.int .i64 a, .int .i64 b, .int .i64 c, .int .i64 d]), (1, .agg #[.int .i64 a', .int .i64 b', .int .i64 c', .int .i64 d'])] = some #[.int .i64 a, .int .i64 b, .int .i64 c, .int .i64 d, .int .i64 a', .int .i64 b', .int .i64 c', .int .i64 d'] := by
 kernel_rfl
theorem buildD2 {H : Hp} (a b c d a' b' c' d' : Int) (K : Value -> Hp -> Prop) (E : Value -> Hp -> Prop) :
  wpS Tryz.prog (Instr.buildSlice 23 2 #[(0, .agg #[.int .i64 a, .int .i64 b, .int .i64 c, .int .i64 d]), (1, .agg #[.int .i64 a', .int .i64 b', .int .i64 c', .int .i64 d'])]) H K E = ∀ nb, H nb = none -> K (.slice (some ⟨nb, 0, none⟩) 2 2) (H.set nb (.cells #[.int .i64 a, .int .i64 b, .int .i64 c, .int .i64 d, .int .i64 a', .int .i64 b', .int .i64 c', .int .i64 d'] 66 (0, 0))) := by
 unfold Instr.buildSlice
 have hn1 : ¬ 2 * 4 > 2 ^ 24 := by decide
 have hn2 : ¬ 2 * 4 = 0 := by decide
 simp only [Aqa, Aqh underlying23, Aqw sizeOf66, hn1, hn2, if_false, Aq8 zeroValue66, Aqd]
 rw [fillD2]
 simp only [newRow, newObj, Aqa, wpS, Aqd]
theorem lsknown_spec (H : Hp) (he : ErrS H) : FnX Tryz.prog (.wg Tryz.prog) 6 #[] H fun e _ => e = .returned (.bool true) := by
 refine Aql (args := []) func6 rfl ntmps6 (by simp) ?_
 (refine @unH _ (zA y6_188 ?_); (try clear hK K); intro K hK hc)
 refine (foulN_spec _ H).runs.mono ?_
 rintro _ A1 ⟨d1, i1, m1, rfl, vd1, vi1, vm1, fd1, fi1, fm1, lA1⟩
 replace he := he.le lA1
 clear fd1 fi1 fm1 lA1
 (refine @unH _ (zU y6_188 ?_); intro _ _ hc)
 refine (foulN_spec _ A1).runs.mono ?_
 rintro _ A2 ⟨d2, i2, m2, rfl, vd2, vi2, vm2, fd2, fi2, fm2, lA2⟩
 have qd12 : d1 ≠ d2 := Aqq vd1 fd2
 replace he := he.le lA2
 replace vd1 := lA2 _ _ vd1
 replace vi1 := lA2 _ _ vi1
 replace vm1 := lA2 _ _ vm1
 clear fd2 fi2 fm2 lA2
 (refine @unH _ (zU y6_188 ?_); intro _ _ hc)
 refine (foulN_spec _ A2).runs.mono ?_
 rintro _ A3 ⟨d3, i3, m3, rfl, vd3, vi3, vm3, fd3, fi3, fm3, lA3⟩
 have qd13 : d1 ≠ d3 := Aqq vd1 fd3
 have qd23 : d2 ≠ d3 := Aqq vd2 fd3
 replace he := he.le lA3
 replace vd1 := lA3 _ _ vd1
 replace vi1 := lA3 _ _ vi1
 replace vm1 := lA3 _ _ vm1
 replace vd2 := lA3 _ _ vd2
 replace vi2 := lA3 _ _ vi2
 replace vm2 := lA3 _ _ vm2
 clear fd3 fi3 fm3 lA3
 (refine @unH _ (zU y6_188 ?_); intro _ _ hc)
 refine (foulN_spec _ A3).runs.mono ?_
 rintro _ A4 ⟨d4, i4, m4, rfl, vd4, vi4, vm4, fd4, fi4, fm4, lA4⟩
 have qd24 : d2 ≠ d4 := Aqq vd2 fd4
 have qd34 : d3 ≠ d4 := Aqq vd3 fd4
 replace he := he.le lA4
 replace vd1 := lA4 _ _ vd1
 replace vi1 := lA4 _ _ vi1
 replace vm1 := lA4 _ _ vm1
 replace vd2 := lA4 _ _ vd2
 replace vi2 := lA4 _ _ vi2
 replace vm2 := lA4 _ _ vm2
 replace vd3 := lA4 _ _ vd3
 replace vi3 := lA4 _ _ vi3
 replace vm3 := lA4 _ _ vm3
 clear fd4 fi4 fm4 lA4
 (refine @unH _ (zU y6_188 ?_); intro _ _ hc)
 refine (foulN_spec _ A4).runs.mono ?_
 rintro _ A5 ⟨d5, i5, m5, rfl, vd5, vi5, vm5, fd5, fi5, fm5, lA5⟩
 have qm15 : m1 ≠ m5 := Aqq vm1 fm5
 have qd25 : d2 ≠ d5 := Aqq vd2 fd5
 have qm25 : m2 ≠ m5 := Aqq vm2 fm5
 have qd35 : d3 ≠ d5 := Aqq vd3 fd5
 have qm35 : m3 ≠ m5 := Aqq vm3 fm5
 have qm45 : m4 ≠ m5 := Aqq vm4 fm5
 replace he := he.le lA5
 replace vd1 := lA5 _ _ vd1
 replace vi1 := lA5 _ _ vi1
 replace vm1 := lA5 _ _ vm1
 replace vd2 := lA5 _ _ vd2
 replace vi2 := lA5 _ _ vi2
 replace vm2 := lA5 _ _ vm2
 replace vd3 := lA5 _ _ vd3
 replace vi3 := lA5 _ _ vi3
 replace vm3 := lA5 _ _ vm3
 replace vd4 := lA5 _ _ vd4
 replace vi4 := lA5 _ _ vi4
 replace vm4 := lA5 _ _ vm4
 clear fd5 fi5 fm5 lA5
 (refine @unH _ (zU y6_188 ?_); intro _ _ hc)
 refine (foulN_spec _ A5).runs.mono ?_
 rintro _ A6 ⟨d6, i6, m6, rfl, vd6, vi6, vm6, fd6, fi6, fm6, lA6⟩
 have qd26 : d2 ≠ d6 := Aqq vd2 fd6
 have qd36 : d3 ≠ d6 := Aqq vd3 fd6
 have qm56 : m5 ≠ m6 := Aqq vm5 fm6
 replace he := he.le lA6
 replace vd1 := lA6 _ _ vd1
 replace vi1 := lA6 _ _ vi1
 replace vm1 := lA6 _ _ vm1
 replace vd2 := lA6 _ _ vd2
 replace vi2 := lA6 _ _ vi2
 replace vm2 := lA6 _ _ vm2
 replace vd3 := lA6 _ _ vd3
 replace vi3 := lA6 _ _ vi3
 replace vm3 := lA6 _ _ vm3
 replace vd4 := lA6 _ _ vd4
 replace vi4 := lA6 _ _ vi4
 replace vm4 := lA6 _ _ vm4
 replace vd5 := lA6 _ _ vd5
 replace vi5 := lA6 _ _ vi5
 replace vm5 := lA6 _ _ vm5
 clear fd6 fi6 fm6 lA6
 (refine @unH _ (zU y6_188 ?_); intro _ _ hc)
 intro n1 hn1 n2 hn2 n3 hn3 n4 hn4 n5 hn5 n6 hn6
 replace hn2 : (Hp.set A6 n1 _) n2 = none := hn2
 replace hn3 : (Hp.set (Hp.set A6 n1 _) n2 _) n3 = none := hn3
 replace hn4 : (Hp.set (Hp.set (Hp.set A6 n1 _) n2 _) n3 _) n4 = none := hn4
 replace hn5 : (Hp.set (Hp.set (Hp.set (Hp.set A6 n1 _) n2 _) n3 _) n4 _) n5 = none := hn5
 replace hn6 : (Hp.set (Hp.set (Hp.set (Hp.set (Hp.set A6 n1 _) n2 _) n3 _) n4 _) n5 _) n6 = none := hn6
 generalize hG : Hp.set A6 n1 _ = N1 at hn2 hn3 hn4 hn5 hn6 ⊢
 have lN1 := Aqc hG hn1
 have vn1 := Aqb hG
 replace he := he.le lN1
 replace vd1 := lN1 _ _ vd1
 replace vi1 := lN1 _ _ vi1
 replace vm1 := lN1 _ _ vm1
 replace vd2 := lN1 _ _ vd2
 replace vi2 := lN1 _ _ vi2
 replace vm2 := lN1 _ _ vm2
 replace vd3 := lN1 _ _ vd3
 replace vi3 := lN1 _ _ vi3
 replace vm3 := lN1 _ _ vm3
 replace vd4 := lN1 _ _ vd4
 replace vi4 := lN1 _ _ vi4
 replace vm4 := lN1 _ _ vm4
 replace vd5 := lN1 _ _ vd5
 replace vi5 := lN1 _ _ vi5
 replace vm5 := lN1 _ _ vm5
 replace vd6 := lN1 _ _ vd6
 replace vi6 := lN1 _ _ vi6
 replace vm6 := lN1 _ _ vm6
 clear hG lN1 hn1
 have qn12 : n1 ≠ n2 := Aqq vn1 hn2
 have qn21 := qn12.symm
 generalize hG : Hp.set N1 n2 _ = N2 at hn3 hn4 hn5 hn6 ⊢
 have lN2 := Aqc hG hn2
 have vn2 := Aqb hG
 replace he := he.le lN2
 replace vd1 := lN2 _ _ vd1
 replace vi1 := lN2 _ _ vi1
 replace vm1 := lN2 _ _ vm1
 replace vd2 := lN2 _ _ vd2
 replace vi2 := lN2 _ _ vi2
 replace vm2 := lN2 _ _ vm2
 replace vd3 := lN2 _ _ vd3
 replace vi3 := lN2 _ _ vi3
 replace vm3 := lN2 _ _ vm3
 replace vd4 := lN2 _ _ vd4
 replace vi4 := lN2 _ _ vi4
 replace vm4 := lN2 _ _ vm4
 replace vd5 := lN2 _ _ vd5
 replace vi5 := lN2 _ _ vi5
 replace vm5 := lN2 _ _ vm5
 replace vd6 := lN2 _ _ vd6
 replace vi6 := lN2 _ _ vi6
 replace vm6 := lN2 _ _ vm6
 replace vn1 := lN2 _ _ vn1
 clear hG lN2 hn2
 have qn13 : n1 ≠ n3 := Aqq vn1 hn3
 have qn31 := qn13.symm
 have qn23 : n2 ≠ n3 := Aqq vn2 hn3
 have qn32 := qn23.symm
 generalize hG : Hp.set N2 n3 _ = N3 at hn4 hn5 hn6 ⊢
 have lN3 := Aqc hG hn3
 have vn3 := Aqb hG
 replace he := he.le lN3
 replace vd1 := lN3 _ _ vd1
 replace vi1 := lN3 _ _ vi1
 replace vm1 := lN3 _ _ vm1
 replace vd2 := lN3 _ _ vd2
 replace vi2 := lN3 _ _ vi2
 replace vm2 := lN3 _ _ vm2
 replace vd3 := lN3 _ _ vd3
 replace vi3 := lN3 _ _ vi3
 replace vm3 := lN3 _ _ vm3
 replace vd4 := lN3 _ _ vd4
 replace vi4 := lN3 _ _ vi4
 replace vm4 := lN3 _ _ vm4
 replace vd5 := lN3 _ _ vd5
 replace vi5 := lN3 _ _ vi5
 replace vm5 := lN3 _ _ vm5
 replace vd6 := lN3 _ _ vd6
 replace vi6 := lN3 _ _ vi6
 replace vm6 := lN3 _ _ vm6
 replace vn1 := lN3 _ _ vn1
 replace vn2 := lN3 _ _ vn2
 clear hG lN3 hn3
 have qn14 : n1 ≠ n4 := Aqq vn1 hn4
 have qn41 := qn14.symm
 have qn24 : n2 ≠ n4 := Aqq vn2 hn4
 have qn42 := qn24.symm
 have qn34 : n3 ≠ n4 := Aqq vn3 hn4
 have qn43 := qn34.symm
 generalize hG : Hp.set N3 n4 _ = N4 at hn5 hn6 ⊢
 have lN4 := Aqc hG hn4
 have vn4 := Aqb hG
 replace he := he.le lN4
 replace vd1 := lN4 _ _ vd1
 replace vi1 := lN4 _ _ vi1
 replace vm1 := lN4 _ _ vm1
 replace vd2 := lN4 _ _ vd2
 replace vi2 := lN4 _ _ vi2
 replace vm2 := lN4 _ _ vm2
 replace vd3 := lN4 _ _ vd3
 replace vi3 := lN4 _ _ vi3
 replace vm3 := lN4 _ _ vm3
 replace vd4 := lN4 _ _ vd4
 replace vi4 := lN4 _ _ vi4
 replace vm4 := lN4 _ _ vm4
 replace vd5 := lN4 _ _ vd5
 replace vi5 := lN4 _ _ vi5
 replace vm5 := lN4 _ _ vm5
 replace vd6 := lN4 _ _ vd6
 replace vi6 := lN4 _ _ vi6
 replace vm6 := lN4 _ _ vm6
 replace vn1 := lN4 _ _ vn1
 replace vn2 := lN4 _ _ vn2
 replace vn3 := lN4 _ _ vn3
 clear hG lN4 hn4
 have qn15 : n1 ≠ n5 := Aqq vn1 hn5
 have qn51 := qn15.symm
 have qn25 : n2 ≠ n5 := Aqq vn2 hn5
 have qn52 := qn25.symm
 have qn35 : n3 ≠ n5 := Aqq vn3 hn5
 have qn53 := qn35.symm
 have qn45 : n4 ≠ n5 := Aqq vn4 hn5
 have qn54 := qn45.symm
 generalize hG : Hp.set N4 n5 _ = N5 at hn6 ⊢
 have lN5 := Aqc hG hn5
 have vn5 := Aqb hG
 replace he := he.le lN5
 replace vd1 := lN5 _ _ vd1
 replace vi1 := lN5 _ _ vi1
 replace vm1 := lN5 _ _ vm1
 replace vd2 := lN5 _ _ vd2
 replace vi2 := lN5 _ _ vi2
 replace vm2 := lN5 _ _ vm2
 replace vd3 := lN5 _ _ vd3
 replace vi3 := lN5 _ _ vi3
 replace vm3 := lN5 _ _ vm3
 replace vd4 := lN5 _ _ vd4
 replace vi4 := lN5 _ _ vi4
 replace vm4 := lN5 _ _ vm4
 replace vd5 := lN5 _ _ vd5
 replace vi5 := lN5 _ _ vi5
 replace vm5 := lN5 _ _ vm5
 replace vd6 := lN5 _ _ vd6
 replace vi6 := lN5 _ _ vi6
 replace vm6 := lN5 _ _ vm6
 replace vn1 := lN5 _ _ vn1
 replace vn2 := lN5 _ _ vn2
 replace vn3 := lN5 _ _ vn3
 replace vn4 := lN5 _ _ vn4
 clear hG lN5 hn5
 have qn16 : n1 ≠ n6 := Aqq vn1 hn6
 have qn61 := qn16.symm
 have qn26 : n2 ≠ n6 := Aqq vn2 hn6
 have qn62 := qn26.symm
 have qn36 : n3 ≠ n6 := Aqq vn3 hn6
 have qn63 := qn36.symm
 have qn46 : n4 ≠ n6 := Aqq vn4 hn6
 have qn64 := qn46.symm
 have qn56 : n5 ≠ n6 := Aqq vn5 hn6
 have qn65 := qn56.symm
 generalize hG : Hp.set N5 n6 _ = N6 at ⊢
 have lN6 := Aqc hG hn6
 have vn6 := Aqb hG
 replace he := he.le lN6
 replace vd1 := lN6 _ _ vd1
 replace vi1 := lN6 _ _ vi1
 replace vm1 := lN6 _ _ vm1
 replace vd2 := lN6 _ _ vd2
 replace vi2 := lN6 _ _ vi2
 replace vm2 := lN6 _ _ vm2
 replace vd3 := lN6 _ _ vd3
 replace vi3 := lN6 _ _ vi3
 replace vm3 := lN6 _ _ vm3
 replace vd4 := lN6 _ _ vd4
 replace vi4 := lN6 _ _ vi4
 replace vm4 := lN6 _ _ vm4
 replace vd5 := lN6 _ _ vd5
 replace vi5 := lN6 _ _ vi5
 replace vm5 := lN6 _ _ vm5
 replace vd6 := lN6 _ _ vd6
 replace vi6 := lN6 _ _ vi6
 replace vm6 := lN6 _ _ vm6
 replace vn1 := lN6 _ _ vn1
 replace vn2 := lN6 _ _ vn2
 replace vn3 := lN6 _ _ vn3
 replace vn4 := lN6 _ _ vn4
 replace vn5 := lN6 _ _ vn5
 clear hG lN6 hn6
 (refine @unH _ (zV y6_188 ?_); (try clear hK K); intro K hK hc)
 have hk : ∀ x u, x ≠ n1 -> x ≠ n2 -> x ≠ n3 -> x ≠ n4 -> x ≠ n5 -> x ≠ n6 -> N6 x = some u -> ∀ o1 o2 o3 o4 o5 o6, Hp.set (Hp.set (Hp.set (Hp.set (Hp.set (Hp.set N6 n1 o1) n2 o2) n3 o3) n4 o4) n5 o5) n6 o6 x = some u := fun x u h1 h2 h3 h4 h5 h6 hx o1 o2 o3 o4 o5 o6 => by simp only [Hp.set, h1, h2, h3, h4, h5, h6, if_false]; exact hx
 have hm : ∀ o1 o2 o3 o4 o5 o6, Hp.set (Hp.set (Hp.set (Hp.set (Hp.set (Hp.set N6 n1 o1) n2 o2) n3 o3) n4 o4) n5 o5) n6 o6 n1 = some (true, o1) /\ Hp.set (Hp.set (Hp.set (Hp.set (Hp.set (Hp.set N6 n1 o1) n2 o2) n3 o3) n4 o4) n5 o5) n6 o6 n2 = some (true, o2) /\ Hp.set (Hp.set (Hp.set (Hp.set (Hp.set (Hp.set N6 n1 o1) n2 o2) n3 o3) n4 o4) n5 o5) n6 o6 n3 = some (true, o3) /\ Hp.set (Hp.set (Hp.set (Hp.set (Hp.set (Hp.set N6 n1 o1) n2 o2) n3 o3) n4 o4) n5 o5) n6 o6 n4 = some (true, o4) /\ Hp.set (Hp.set (Hp.set (Hp.set (Hp.set (Hp.set N6 n1 o1) n2 o2) n3 o3) n4 o4) n5 o5) n6 o6 n5 = some (true, o5) /\ Hp.set (Hp.set (Hp.set (Hp.set (Hp.set (Hp.set N6 n1 o1) n2 o2) n3 o3) n4 o4) n5 o5) n6 o6 n6 = some (true, o6) := fun o1 o2 o3 o4 o5 o6 => by simp [Hp.set, qn12, qn13, qn14, qn15, qn16, qn21, qn23, qn24, qn25, qn26, qn31, qn32, qn34, qn35, qn36, qn41, qn42, qn43, qn45, qn46, qn51, qn52, qn53, qn54, qn56, qn61, qn62, qn63, qn64, qn65]
 have kd1 := fun o1 o2 o3 o4 o5 o6 => hk d1 _ (Aza vd1 vn1 (by decide)) (Aza vd1 vn2 (by decide)) (Aza vd1 vn3 (by decide)) (Aza vd1 vn4 (by decide)) (Aza vd1 vn5 (by decide)) (Aza vd1 vn6 (by decide)) vd1 o1 o2 o3 o4 o5 o6
 have ki1 := fun o1 o2 o3 o4 o5 o6 => hk i1 _ (Aza vi1 vn1 (by decide)) (Aza vi1 vn2 (by decide)) (Aza vi1 vn3 (by decide)) (Aza vi1 vn4 (by decide)) (Aza vi1 vn5 (by decide)) (Aza vi1 vn6 (by decide)) vi1 o1 o2 o3 o4 o5 o6
 have km1 := fun o1 o2 o3 o4 o5 o6 => hk m1 _ (Aza vm1 vn1 (by decide)) (Aza vm1 vn2 (by decide)) (Aza vm1 vn3 (by decide)) (Aza vm1 vn4 (by decide)) (Aza vm1 vn5 (by decide)) (Aza vm1 vn6 (by decide)) vm1 o1 o2 o3 o4 o5 o6
 have kd2 := fun o1 o2 o3 o4 o5 o6 => hk d2 _ (Aza vd2 vn1 (by decide)) (Aza vd2 vn2 (by decide)) (Aza vd2 vn3 (by decide)) (Aza vd2 vn4 (by decide)) (Aza vd2 vn5 (by decide)) (Aza vd2 vn6 (by decide)) vd2 o1 o2 o3 o4 o5 o6
 have ki2 := fun o1 o2 o3 o4 o5 o6 => hk i2 _ (Aza vi2 vn1 (by decide)) (Aza vi2 vn2 (by decide)) (Aza vi2 vn3 (by decide)) (Aza vi2 vn4 (by decide)) (Aza vi2 vn5 (by decide)) (Aza vi2 vn6 (by decide)) vi2 o1 o2 o3 o4 o5 o6
 have km2 := fun o1 o2 o3 o4 o5 o6 => hk m2 _ (Aza vm2 vn1 (by decide)) (Aza vm2 vn2 (by decide)) (Aza vm2 vn3 (by decide)) (Aza vm2 vn4 (by decide)) (Aza vm2 vn5 (by decide)) (Aza vm2 vn6 (by decide)) vm2 o1 o2 o3 o4 o5 o6
 have kd3 := fun o1 o2 o3 o4 o5 o6 => hk d3 _ (Aza vd3 vn1 (by decide)) (Aza vd3 vn2 (by decide)) (Aza vd3 vn3 (by decide)) (Aza vd3 vn4 (by decide)) (Aza vd3 vn5 (by decide)) (Aza vd3 vn6 (by decide)) vd3 o1 o2 o3 o4 o5 o6
 have ki3 := fun o1 o2 o3 o4 o5 o6 => hk i3 _ (Aza vi3 vn1 (by decide)) (Aza vi3 vn2 (by decide)) (Aza vi3 vn3 (by decide)) (Aza vi3 vn4 (by decide)) (Aza vi3 vn5 (by decide)) (Aza vi3 vn6 (by decide)) vi3 o1 o2 o3 o4 o5 o6
 have km3 := fun o1 o2 o3 o4 o5 o6 => hk m3 _ (Aza vm3 vn1 (by decide)) (Aza vm3 vn2 (by decide)) (Aza vm3 vn3 (by decide)) (Aza vm3 vn4 (by decide)) (Aza vm3 vn5 (by decide)) (Aza vm3 vn6 (by decide)) vm3 o1 o2 o3 o4 o5 o6
 have kd4 := fun o1 o2 o3 o4 o5 o6 => hk d4 _ (Aza vd4 vn1 (by decide)) (Aza vd4 vn2 (by decide)) (Aza vd4 vn3 (by decide)) (Aza vd4 vn4 (by decide)) (Aza vd4 vn5 (by decide)) (Aza vd4 vn6 (by decide)) vd4 o1 o2 o3 o4 o5 o6
 have ki4 := fun o1 o2 o3 o4 o5 o6 => hk i4 _ (Aza vi4 vn1 (by decide)) (Aza vi4 vn2 (by decide)) (Aza vi4 vn3 (by decide)) (Aza vi4 vn4 (by decide)) (Aza vi4 vn5 (by decide)) (Aza vi4 vn6 (by decide)) vi4 o1 o2 o3 o4 o5 o6
 have km4 := fun o1 o2 o3 o4 o5 o6 => hk m4 _ (Aza vm4 vn1 (by decide)) (Aza vm4 vn2 (by decide)) (Aza vm4 vn3 (by decide)) (Aza vm4 vn4 (by decide)) (Aza vm4 vn5 (by decide)) (Aza vm4 vn6 (by decide)) vm4 o1 o2 o3 o4 o5 o6
 have kd5 := fun o1 o2 o3 o4 o5 o6 => hk d5 _ (Aza vd5 vn1 (by decide)) (Aza vd5 vn2 (by decide)) (Aza vd5 vn3 (by decide)) (Aza vd5 vn4 (by decide)) (Aza vd5 vn5 (by decide)) (Aza vd5 vn6 (by decide)) vd5 o1 o2 o3 o4 o5 o6
 have ki5 := fun o1 o2 o3 o4 o5 o6 => hk i5 _ (Aza vi5 vn1 (by decide)) (Aza vi5 vn2 (by decide)) (Aza vi5 vn3 (by decide)) (Aza vi5 vn4 (by decide)) (Aza vi5 vn5 (by decide)) (Aza vi5 vn6 (by decide)) vi5 o1 o2 o3 o4 o5 o6
 have km5 := fun o1 o2 o3 o4 o5 o6 => hk m5 _ (Aza vm5 vn1 (by decide)) (Aza vm5 vn2 (by decide)) (Aza vm5 vn3 (by decide)) (Aza vm5 vn4 (by decide)) (Aza vm5 vn5 (by decide)) (Aza vm5 vn6 (by decide)) vm5 o1 o2 o3 o4 o5 o6
 have kd6 := fun o1 o2 o3 o4 o5 o6 => hk d6 _ (Aza vd6 vn1 (by decide)) (Aza vd6 vn2 (by decide)) (Aza vd6 vn3 (by decide)) (Aza vd6 vn4 (by decide)) (Aza vd6 vn5 (by decide)) (Aza vd6 vn6 (by decide)) vd6 o1 o2 o3 o4 o5 o6
 have ki6 := fun o1 o2 o3 o4 o5 o6 => hk i6 _ (Aza vi6 vn1 (by decide)) (Aza vi6 vn2 (by decide)) (Aza vi6 vn3 (by decide)) (Aza vi6 vn4 (by decide)) (Aza vi6 vn5 (by decide)) (Aza vi6 vn6 (by decide)) vi6 o1 o2 o3 o4 o5 o6
 have km6 := fun o1 o2 o3 o4 o5 o6 => hk m6 _ (Aza vm6 vn1 (by decide)) (Aza vm6 vn2 (by decide)) (Aza vm6 vn3 (by decide)) (Aza vm6 vn4 (by decide)) (Aza vm6 vn5 (by decide)) (Aza vm6 vn6 (by decide)) vm6 o1 o2 o3 o4 o5 o6
 obtain ⟨q0, cg0, eg0, fg0, hg0, hg1⟩ := he
 have ke := fun o1 o2 o3 o4 o5 o6 => hk 0 _ (fun e => by rw [e, vn1] at hg0; simp only [Option.some.injEq, Prod.mk.injEq, Obj.cells.injEq] at hg0; rw [<- hg0.2.1] at hg1; simp at hg1) (fun e => by rw [e, vn2] at hg0; simp only [Option.some.injEq, Prod.mk.injEq, Obj.cells.injEq] at hg0; rw [<- hg0.2.1] at hg1; simp at hg1) (fun e => by rw [e, vn3] at hg0; simp only [Option.some.injEq, Prod.mk.injEq, Obj.cells.injEq] at hg0; rw [<- hg0.2.1] at hg1; simp at hg1) (fun e => by rw [e, vn4] at hg0; simp only [Option.some.injEq, Prod.mk.injEq, Obj.cells.injEq] at hg0; rw [<- hg0.2.1] at hg1; simp at hg1) (fun e => by rw [e, vn5] at hg0; simp only [Option.some.injEq, Prod.mk.injEq, Obj.cells.injEq] at hg0; rw [<- hg0.2.1] at hg1; simp at hg1) (fun e => by rw [e, vn6] at hg0; simp only [Option.some.injEq, Prod.mk.injEq, Obj.cells.injEq] at hg0; rw [<- hg0.2.1] at hg1; simp at hg1) hg0 o1 o2 o3 o4 o5 o6
 clear hk
 generalize hG : Hp.set (Hp.set (Hp.set (Hp.set (Hp.set (Hp.set N6 n1 _) n2 _) n3 _) n4 _) n5 _) n6 _ = Hs
 replace vd1 := hG ▸ kd1 _ _ _ _ _ _
 replace vi1 := hG ▸ ki1 _ _ _ _ _ _
 replace vm1 := hG ▸ km1 _ _ _ _ _ _
 replace vd2 := hG ▸ kd2 _ _ _ _ _ _
 replace vi2 := hG ▸ ki2 _ _ _ _ _ _
 replace vm2 := hG ▸ km2 _ _ _ _ _ _
 replace vd3 := hG ▸ kd3 _ _ _ _ _ _
 replace vi3 := hG ▸ ki3 _ _ _ _ _ _
 replace vm3 := hG ▸ km3 _ _ _ _ _ _
 replace vd4 := hG ▸ kd4 _ _ _ _ _ _
 replace vi4 := hG ▸ ki4 _ _ _ _ _ _
 replace vm4 := hG ▸ km4 _ _ _ _ _ _
 replace vd5 := hG ▸ kd5 _ _ _ _ _ _
 replace vi5 := hG ▸ ki5 _ _ _ _ _ _
 replace vm5 := hG ▸ km5 _ _ _ _ _ _
 replace vd6 := hG ▸ kd6 _ _ _ _ _ _
 replace vi6 := hG ▸ ki6 _ _ _ _ _ _
 replace vm6 := hG ▸ km6 _ _ _ _ _ _
 replace ke := hG ▸ ke _ _ _ _ _ _
 replace hm := hG ▸ hm _ _ _ _ _ _
 clear hG
 obtain ⟨wn1, wn2, wn3, wn4, wn5, wn6⟩ := hm
 have he : ErrS Hs := ⟨q0, cg0, eg0, fg0, ke, hg1⟩
 clear ke hg0 hg1
 have D : KnD n1 d2 d3 n4 m5 := ⟨(Aza wn1 vd2 (by decide)), (Aza wn1 vd3 (by decide)), qn14, (Aza wn1 vm5 (by decide)), qd23, (Aza vd2 wn4 (by decide)), (Aza vd2 vm5 (by decide)), (Aza vd3 wn4 (by decide)), (Aza vd3 vm5 (by decide)), (Aza wn4 vm5 (by decide))⟩
 have k : KnM Hs n1 d2 d3 n4 m5 (smO 4 (.slice (some ⟨d1, 0, none⟩) 3 3) (.slice (some ⟨i1, 0, none⟩) 2 2) (.slice (some ⟨m1, 0, none⟩) 2 2)) (.cells #[.int .i64 0, .int .i64 1, .int .i64 2, .int .i64 3, .int .i64 1, .int .i64 2, .int .i64 1, .int .i64 1, .int .i64 0, .int .i64 3, .int .i64 1, .int .i64 2] 66 (0, 0)) (.cells #[.int .i64 0, .int .i64 1, .int .i64 2, .int .i64 3, .int .i64 1, .int .i64 2, .int .i64 1, .int .i64 1, .int .i64 0, .int .i64 3, .int .i64 1, .int .i64 2] 66 (0, 0)) (smO 4 (.slice (some ⟨d4, 0, none⟩) 3 3) (.slice (some ⟨i4, 0, none⟩) 2 2) (.slice (some ⟨m4, 0, none⟩) 2 2)) (.cells #[.int .i64 1, .int .i64 4, .bool true, .int .i64 3, .int .i64 3, .bool false] 46 (0, 0)) Hs := ⟨fun _ _ _ _ _ _ _ h => h, wn1, vd2, vd3, wn4, vm5⟩
 have hS : ∀ HX o1 o2 o3 o4 o5, KnM Hs n1 d2 d3 n4 m5 o1 o2 o3 o4 o5 HX -> (HX n2 = some (true, (smO 4 (.slice (some ⟨d2, 0, none⟩) 3 3) (.slice (some ⟨i2, 0, none⟩) 2 2) (.slice (some ⟨m2, 0, none⟩) 2 2))) /\ HX n3 = some (true, (smO 4 (.slice (some ⟨d3, 0, none⟩) 3 3) (.slice (some ⟨i3, 0, none⟩) 2 2) (.slice (some ⟨m3, 0, none⟩) 2 2))) /\ HX n5 = some (true, (smO 4 (.slice (some ⟨d5, 0, none⟩) 3 3) (.slice (some ⟨i5, 0, none⟩) 2 2) (.slice (some ⟨m5, 0, none⟩) 2 2)))) := fun HX o1 o2 o3 o4 o5 k => ⟨k.keep _ _ qn21 (Aza wn2 vd2 (by decide)) (Aza wn2 vd3 (by decide)) qn24 (Aza wn2 vm5 (by decide)) wn2, k.keep _ _ qn31 (Aza wn3 vd2 (by decide)) (Aza wn3 vd3 (by decide)) qn34 (Aza wn3 vm5 (by decide)) wn3, k.keep _ _ qn51 (Aza wn5 vd2 (by decide)) (Aza wn5 vd3 (by decide)) qn54 (Aza wn5 vm5 (by decide)) wn5⟩
 have zn2n1 := qn21
 have zn2d2 := Aza wn2 vd2 (by decide)
 have zn2d3 := Aza wn2 vd3 (by decide)
 have zn2n4 := qn24
 have zn2m5 := Aza wn2 vm5 (by decide)
 have zn3n1 := qn31
 have zn3d2 := Aza wn3 vd2 (by decide)
 have zn3d3 := Aza wn3 vd3 (by decide)
 have zn3n4 := qn34
 have zn3m5 := Aza wn3 vm5 (by decide)
 have zn5n1 := qn51
 have zn5d2 := Aza wn5 vd2 (by decide)
 have zn5d3 := Aza wn5 vd3 (by decide)
 have zn5n4 := qn54
 have zn5m5 := Aza wn5 vm5 (by decide)
 refine Bjl (fun e => e 1 = .pointer (some ⟨n1, 0, none⟩) /\ e 2 = .pointer (some ⟨n2, 0, none⟩) /\ e 3 = .pointer (some ⟨n3, 0, none⟩) /\ e 4 = .pointer (some ⟨n4, 0, none⟩) /\ e 5 = .pointer (some ⟨n5, 0, none⟩) /\ e 6 = .pointer (some ⟨n6, 0, none⟩)) ⟨rfl, rfl, rfl, rfl, rfl, rfl⟩ ?_
 rintro e ⟨e1, e2, e3, e4, e5, e6⟩
 refine Cqn (fun a' H' => ∃ e g, a' = act 370 e [] /\ e 1 = .pointer (some ⟨n1, 0, none⟩) /\ e 2 = .pointer (some ⟨n2, 0, none⟩) /\ e 3 = .pointer (some ⟨n3, 0, none⟩) /\ e 4 = .pointer (some ⟨n4, 0, none⟩) /\ e 5 = .pointer (some ⟨n5, 0, none⟩) /\ e 6 = .pointer (some ⟨n6, 0, none⟩) /\ KnM Hs n1 d2 d3 n4 m5 (smO 0 (.slice (some ⟨d1, 0, none⟩) 3 3) (.slice (some ⟨i1, 0, none⟩) 2 2) (.slice (some ⟨m1, 0, none⟩) 2 2)) (.cells #[.int .i64 0, .int .i64 0, .int .i64 2, .int .i64 3, .int .i64 1, .int .i64 2, .int .i64 1, .int .i64 1, .int .i64 0, .int .i64 3, .int .i64 1, .int .i64 2] 66 (0, 0)) (.cells #[.int .i64 0, .int .i64 1, .int .i64 2, .int .i64 5, .int .i64 1, .int .i64 2, .int .i64 1, .int .i64 1, .int .i64 0, .int .i64 3, .int .i64 1, .int .i64 2] 66 (0, 0)) (smO 4 (.slice (some ⟨d4, 0, none⟩) 3 3) (.slice (some ⟨g, 0, none⟩) 2 2) (.slice (some ⟨m4, 0, none⟩) 2 2)) (.cells #[.int .i64 1, .int .i64 13, .bool true, .int .i64 3, .int .i64 3, .bool false] 46 (0, 0)) H' /\ H' g = some (true, .cells #[.int .i64 0, .int .i64 0] 3 (0, 0))) ?_ ?_
 ·refine wpX_wlast (fun HX => HX n2 = some (true, (smO 4 (.slice (some ⟨d2, 0, none⟩) 3 3) (.slice (some ⟨i2, 0, none⟩) 2 2) (.slice (some ⟨m2, 0, none⟩) 2 2))) /\ HX n3 = some (true, (smO 4 (.slice (some ⟨d3, 0, none⟩) 3 3) (.slice (some ⟨i3, 0, none⟩) 2 2) (.slice (some ⟨m3, 0, none⟩) 2 2))) /\ HX n5 = some (true, (smO 4 (.slice (some ⟨d5, 0, none⟩) 3 3) (.slice (some ⟨i5, 0, none⟩) 2 2) (.slice (some ⟨m5, 0, none⟩) 2 2)))) [] (.free 0 (.take 1 (.free 2 (.take 3 (.free 4 (.take 5 (.two 6 (.two 7 (.two 8 (.one 9 (.free 10 (.one 11 (.free 12 (.one 13 (.free 14 (.one 15 (.free 16 (.one 17 (.free 18 (.one 19 .nil))))))))))) 9 (.free 10 (.two 8 (.one 11 (.free 12 (.one 13 (.free 14 (.one 15 (.free 16 (.one 17 (.free 18 (.one 19 .nil))))))))) 11 (.free 12 (.two 8 (.one 13 (.free 14 (.one 15 (.free 16 (.one 17 (.free 18 (.one 19 .nil))))))) 13 (.free 14 (.two 8 (.one 15 (.free 16 (.one 17 (.free 18 (.one 19 .nil))))) 15 (.one 8 (.free 16 (.one 17 (.free 18 (.one 19 .nil)))))))))))) 8 (.one 7 (.one 9 (.free 10 (.one 11 (.free 12 (.one 13 (.free 14 (.one 15 (.free 16 (.one 17 (.free 18 (.one 19 .nil))))))))))))) 8 (.one 6 (.one 7 (.one 9 (.free 10 (.one 11 (.free 12 (.one 13 (.free 14 (.one 15 (.free 16 (.one 17 (.free 18 (.one 19 .nil)))))))))))))))))))) (by kernel_rfl) (by kernel_rfl) (by decide) (by kernel_rfl) ?_; intro K hK
  have hS0 := hS _ _ _ _ _ _ k
  (apply planW_free rfl rfl rfl; (focus (intro HX; simp -implicitDefEqProofs (disch := first | omega | (simp only [qd] <;> omega)) only [xq, ↓xp, qc, Nat.reduceAdd, List.range, List.range.loop, fine, Nat.reduceEqDiff, ↓reduceIte, yielded, reduceCtorEq, Nat.reduceLT, Nat.reduceMul, Nat.reduceSub, one, Nat.reduceLeDiff, Aqj, y6_188, aq, ↓ap, qe0, qe1, qe2, *, -hK, Aq3] <;> (first | exact rfl | exact ⟨rfl, rfl⟩ | exact ⟨rfl, trivial⟩))); simp -implicitDefEqProofs (disch := first | omega | (simp only [qd] <;> omega)) only [Aq0, Aqp])
  (apply Bjb rfl rfl rfl ‹_›; (focus (intro HX hHX; simp -implicitDefEqProofs (disch := first | omega | (simp only [qd] <;> omega)) only [xq, ↓xp, qc, Nat.reduceAdd, List.range, List.range.loop, fine, Nat.reduceEqDiff, ↓reduceIte, yielded, reduceCtorEq, Nat.reduceLT, Nat.reduceMul, Nat.reduceSub, one, Nat.reduceLeDiff, Aqj, y6_188, aq, ↓ap, qe0, qe1, qe2, *, -hK, Aq3, hHX.1] <;> (first | exact rfl | exact ⟨rfl, rfl⟩ | exact ⟨rfl, trivial⟩))); simp -implicitDefEqProofs (disch := first | omega | (simp only [qd] <;> omega)) only [Aq0, Aqp])
  (apply planW_free rfl rfl rfl; (focus (intro HX; simp -implicitDefEqProofs (disch := first | omega | (simp only [qd] <;> omega)) only [xq, ↓xp, qc, Nat.reduceAdd, List.range, List.range.loop, fine, Nat.reduceEqDiff, ↓reduceIte, yielded, reduceCtorEq, Nat.reduceLT, Nat.reduceMul, Nat.reduceSub, one, Nat.reduceLeDiff, Aqj, y6_188, aq, ↓ap, qe0, qe1, qe2, *, -hK, Aq3] <;> (first | exact rfl | exact ⟨rfl, rfl⟩ | exact ⟨rfl, trivial⟩))); simp -implicitDefEqProofs (disch := first | omega | (simp only [qd] <;> omega)) only [Aq0, Aqp])
  (apply Bjb rfl rfl rfl ‹_›; (focus (intro HX hHX; simp -implicitDefEqProofs (disch := first | omega | (simp only [qd] <;> omega)) only [xq, ↓xp, qc, Nat.reduceAdd, List.range, List.range.loop, fine, Nat.reduceEqDiff, ↓reduceIte, yielded, reduceCtorEq, Nat.reduceLT, Nat.reduceMul, Nat.reduceSub, one, Nat.reduceLeDiff, Aqj, y6_188, aq, ↓ap, qe0, qe1, qe2, *, -hK, Aq3, hHX.2.1] <;> (first | exact rfl | exact ⟨rfl, rfl⟩ | exact ⟨rfl, trivial⟩))); simp -implicitDefEqProofs (disch := first | omega | (simp only [qd] <;> omega)) only [Aq0, Aqp])
  (apply planW_free rfl rfl rfl; (focus (intro HX; simp -implicitDefEqProofs (disch := first | omega | (simp only [qd] <;> omega)) only [xq, ↓xp, qc, Nat.reduceAdd, List.range, List.range.loop, fine, Nat.reduceEqDiff, ↓reduceIte, yielded, reduceCtorEq, Nat.reduceLT, Nat.reduceMul, Nat.reduceSub, one, Nat.reduceLeDiff, Aqj, y6_188, aq, ↓ap, qe0, qe1, qe2, *, -hK, Aq3] <;> (first | exact rfl | exact ⟨rfl, rfl⟩ | exact ⟨rfl, trivial⟩))); simp -implicitDefEqProofs (disch := first | omega | (simp only [qd] <;> omega)) only [Aq0, Aqp])
  (apply Bjb rfl rfl rfl ‹_›; (focus (intro HX hHX; simp -implicitDefEqProofs (disch := first | omega | (simp only [qd] <;> omega)) only [xq, ↓xp, qc, Nat.reduceAdd, List.range, List.range.loop, fine, Nat.reduceEqDiff, ↓reduceIte, yielded, reduceCtorEq, Nat.reduceLT, Nat.reduceMul, Nat.reduceSub, one, Nat.reduceLeDiff, Aqj, y6_188, aq, ↓ap, qe0, qe1, qe2, *, -hK, Aq3, hHX.2.2] <;> (first | exact rfl | exact ⟨rfl, rfl⟩ | exact ⟨rfl, trivial⟩))); simp -implicitDefEqProofs (disch := first | omega | (simp only [qd] <;> omega)) only [Aq0, Aqp])
  clear hS0
  refine Bxx ?_ ?_
  ·(refine @unH _ ?_; refine zX y6_188 ?_)
   refine (Ay2 _ Hs 0 0 2 3).runs.mono ?_
   rintro _ G10 ⟨rfl, lG10⟩
   replace k := k.le lG10
   clear lG10
   (refine @unH _ ?_; refine zX y6_188 ?_)
   refine ⟨.inr fun _ => (by first | trivial | exact hS _ _ _ _ _ _ k), ?_⟩
   refine Bxx ?_ ?_
   ·(refine @unH _ ?_; refine zX y6_188 ?_)
    refine (Ay2 _ G10 0 1 2 5).runs.mono ?_
    rintro _ G19 ⟨rfl, lG19⟩
    replace k := k.le lG19
    clear lG19
    (refine @unH _ ?_; refine zX y6_188 ?_)
    refine ⟨.inr fun _ => (by first | trivial | exact hS _ _ _ _ _ _ k), ?_⟩
    refine Bxx ?_ ?_
    ·(refine @unH _ ?_; refine zX y6_188 ?_)
     intro g hg
     have hx2 := Aqq (hS _ _ _ _ _ _ k).1 hg
     have hx3 := Aqq (hS _ _ _ _ _ _ k).2.1 hg
     have hx5 := Aqq (hS _ _ _ _ _ _ k).2.2 hg
     generalize hG : Hp.set G19 g _ = G20
     have lG20 := Aqc hG hg
     have vg := Aqb hG
     replace k := k.le lG20
     clear hG hg lG20
     refine ⟨.inr fun _ => (by first | trivial | exact hS _ _ _ _ _ _ k | simp [hx2, hx3, hx5]), ?_⟩
     clear hx2 hx3 hx5
     refine Axr ?_
     (refine @unH _ ?_; refine zX y6_188 ?_)
     refine (Awd _ G20 1 13 true).runs.mono ?_
     rintro _ G21 ⟨rfl, lG21⟩
     replace k := k.le lG21
     replace vg := lG21 _ _ vg
     clear lG21
     (refine @unH _ ?_; refine zX y6_188 ?_)
     refine ⟨.inr fun _ => (by first | trivial | exact hS _ _ _ _ _ _ k), ?_⟩
     (apply planW_free rfl rfl rfl; (focus (intro HX; simp -implicitDefEqProofs (disch := first | omega | (simp only [qd] <;> omega)) only [xq, ↓xp, qc, Nat.reduceAdd, List.range, List.range.loop, fine, Nat.reduceEqDiff, ↓reduceIte, yielded, reduceCtorEq, Nat.reduceLT, Nat.reduceMul, Nat.reduceSub, one, Nat.reduceLeDiff, Aqj, y6_188, aq, ↓ap, qe0, qe1, qe2, *, -hK, Aq3] <;> (first | exact rfl | exact ⟨rfl, rfl⟩ | exact ⟨rfl, trivial⟩))); simp -implicitDefEqProofs (disch := first | omega | (simp only [qd] <;> omega)) only [Aq0, Aqp])
     refine Axr ?_
     have w := k.a1
     (refine @unH _ ?_; refine zX y6_188 ?_)
     replace k := fun o => k.p1 (o := o) D
     generalize hG : Hp.set G21 n1 _ = G22
     have vg2 := Aqf hG vg (fun e => by rw [e, w] at vg; cases vg)
     clear vg
     have vg := vg2
     clear vg2
     replace k := hG ▸ k _
     clear hG w
     refine ⟨.inr fun _ => (by first | trivial | exact hS _ _ _ _ _ _ k | simp [zn2n1, zn3n1, zn5n1]), ?_⟩
     (apply planW_free rfl rfl rfl; (focus (intro HX; simp -implicitDefEqProofs (disch := first | omega | (simp only [qd] <;> omega)) only [xq, ↓xp, qc, Nat.reduceAdd, List.range, List.range.loop, fine, Nat.reduceEqDiff, ↓reduceIte, yielded, reduceCtorEq, Nat.reduceLT, Nat.reduceMul, Nat.reduceSub, one, Nat.reduceLeDiff, Aqj, y6_188, aq, ↓ap, qe0, qe1, qe2, *, -hK, Aq3] <;> (first | exact rfl | exact ⟨rfl, rfl⟩ | exact ⟨rfl, trivial⟩))); simp -implicitDefEqProofs (disch := first | omega | (simp only [qd] <;> omega)) only [Aq0, Aqp])
     refine Axr ?_
     have w := k.a2
     (refine @unH _ ?_; refine zX y6_188 ?_)
     replace k := fun o => k.p2 (o := o) D
     generalize hG : Hp.set G22 d2 _ = G23
     have vg2 := Aqf hG vg (fun e => by rw [e, w] at vg; cases vg)
     clear vg
     have vg := vg2
     clear vg2
     replace k := hG ▸ k _
     clear hG w
     refine ⟨.inr fun _ => (by first | trivial | exact hS _ _ _ _ _ _ k | simp [zn2d2, zn3d2, zn5d2]), ?_⟩
     (apply planW_free rfl rfl rfl; (focus (intro HX; simp -implicitDefEqProofs (disch := first | omega | (simp only [qd] <;> omega)) only [xq, ↓xp, qc, Nat.reduceAdd, List.range, List.range.loop, fine, Nat.reduceEqDiff, ↓reduceIte, yielded, reduceCtorEq, Nat.reduceLT, Nat.reduceMul, Nat.reduceSub, one, Nat.reduceLeDiff, Aqj, y6_188, aq, ↓ap, qe0, qe1, qe2, *, -hK, Aq3] <;> (first | exact rfl | exact ⟨rfl, rfl⟩ | exact ⟨rfl, trivial⟩))); simp -implicitDefEqProofs (disch := first | omega | (simp only [qd] <;> omega)) only [Aq0, Aqp])
     refine Axr ?_
     have w := k.a3
     (refine @unH _ ?_; refine zX y6_188 ?_)
     replace k := fun o => k.p3 (o := o) D
     generalize hG : Hp.set G23 d3 _ = G24
     have vg2 := Aqf hG vg (fun e => by rw [e, w] at vg; cases vg)
     clear vg
     have vg := vg2
     clear vg2
     replace k := hG ▸ k _
     clear hG w
     refine ⟨.inr fun _ => (by first | trivial | exact hS _ _ _ _ _ _ k | simp [zn2d3, zn3d3, zn5d3]), ?_⟩
     (apply planW_free rfl rfl rfl; (focus (intro HX; simp -implicitDefEqProofs (disch := first | omega | (simp only [qd] <;> omega)) only [xq, ↓xp, qc, Nat.reduceAdd, List.range, List.range.loop, fine, Nat.reduceEqDiff, ↓reduceIte, yielded, reduceCtorEq, Nat.reduceLT, Nat.reduceMul, Nat.reduceSub, one, Nat.reduceLeDiff, Aqj, y6_188, aq, ↓ap, qe0, qe1, qe2, *, -hK, Aq3] <;> (first | exact rfl | exact ⟨rfl, rfl⟩ | exact ⟨rfl, trivial⟩))); simp -implicitDefEqProofs (disch := first | omega | (simp only [qd] <;> omega)) only [Aq0, Aqp])
     refine Axr ?_
     have w := k.a4
     (refine @unH _ ?_; refine zX y6_188 ?_)
     replace k := fun o => k.p4 (o := o) D
     generalize hG : Hp.set G24 n4 _ = G25
     have vg2 := Aqf hG vg (fun e => by rw [e, w] at vg; cases vg)
     clear vg
     have vg := vg2
     clear vg2
     replace k := hG ▸ k _
     clear hG w
     refine ⟨.inr fun _ => (by first | trivial | exact hS _ _ _ _ _ _ k | simp [zn2n4, zn3n4, zn5n4]), ?_⟩
     (apply planW_free rfl rfl rfl; (focus (intro HX; simp -implicitDefEqProofs (disch := first | omega | (simp only [qd] <;> omega)) only [xq, ↓xp, qc, Nat.reduceAdd, List.range, List.range.loop, fine, Nat.reduceEqDiff, ↓reduceIte, yielded, reduceCtorEq, Nat.reduceLT, Nat.reduceMul, Nat.reduceSub, one, Nat.reduceLeDiff, Aqj, y6_188, aq, ↓ap, qe0, qe1, qe2, *, -hK, Aq3] <;> (first | exact rfl | exact ⟨rfl, rfl⟩ | exact ⟨rfl, trivial⟩))); simp -implicitDefEqProofs (disch := first | omega | (simp only [qd] <;> omega)) only [Aq0, Aqp])
     refine Axr ?_
     have w := k.a5
     (refine @unH _ ?_; refine zX y6_188 ?_)
     replace k := fun o => k.p5 (o := o) D
     generalize hG : Hp.set G25 m5 _ = G26
     have vg2 := Aqf hG vg (fun e => by rw [e, w] at vg; cases vg)
     clear vg
     have vg := vg2
     clear vg2
     replace k := hG ▸ k _
     clear hG w
     refine ⟨.inr fun _ => (by first | trivial | exact hS _ _ _ _ _ _ k | simp [zn2m5, zn3m5, zn5m5]), ?_⟩
     refine Ak2 (hK _ _ ⟨_, g, rfl, e1, e2, e3, e4, e5, e6, k, vg⟩)
    ·(refine @unH _ ?_; refine zX y6_188 ?_)
     refine (Awd _ G19 1 13 true).runs.mono ?_
     rintro _ G27 ⟨rfl, lG27⟩
     replace k := k.le lG27
     clear lG27
     (refine @unH _ ?_; refine zX y6_188 ?_)
     refine ⟨.inr fun _ => (by first | trivial | exact hS _ _ _ _ _ _ k), ?_⟩
     (apply planW_free rfl rfl rfl; (focus (intro HX; simp -implicitDefEqProofs (disch := first | omega | (simp only [qd] <;> omega)) only [xq, ↓xp, qc, Nat.reduceAdd, List.range, List.range.loop, fine, Nat.reduceEqDiff, ↓reduceIte, yielded, reduceCtorEq, Nat.reduceLT, Nat.reduceMul, Nat.reduceSub, one, Nat.reduceLeDiff, Aqj, y6_188, aq, ↓ap, qe0, qe1, qe2, *, -hK, Aq3] <;> (first | exact rfl | exact ⟨rfl, rfl⟩ | exact ⟨rfl, trivial⟩))); simp -implicitDefEqProofs (disch := first | omega | (simp only [qd] <;> omega)) only [Aq0, Aqp])
     refine Bxx ?_ ?_
     ·(refine @unH _ ?_; refine zX y6_188 ?_)
      intro g hg
      have hx2 := Aqq (hS _ _ _ _ _ _ k).1 hg
      have hx3 := Aqq (hS _ _ _ _ _ _ k).2.1 hg
      have hx5 := Aqq (hS _ _ _ _ _ _ k).2.2 hg
      generalize hG : Hp.set G27 g _ = G28
      have lG28 := Aqc hG hg
      have vg := Aqb hG
      replace k := k.le lG28
      clear hG hg lG28
      refine ⟨.inr fun _ => (by first | trivial | exact hS _ _ _ _ _ _ k | simp [hx2, hx3, hx5]), ?_⟩
      clear hx2 hx3 hx5
      refine Axr ?_
      have w := k.a1
      (refine @unH _ ?_; refine zX y6_188 ?_)
      replace k := fun o => k.p1 (o := o) D
      generalize hG : Hp.set G28 n1 _ = G29
      have vg2 := Aqf hG vg (fun e => by rw [e, w] at vg; cases vg)
      clear vg
      have vg := vg2
      clear vg2
      replace k := hG ▸ k _
      clear hG w
      refine ⟨.inr fun _ => (by first | trivial | exact hS _ _ _ _ _ _ k | simp [zn2n1, zn3n1, zn5n1]), ?_⟩
      (apply planW_free rfl rfl rfl; (focus (intro HX; simp -implicitDefEqProofs (disch := first | omega | (simp only [qd] <;> omega)) only [xq, ↓xp, qc, Nat.reduceAdd, List.range, List.range.loop, fine, Nat.reduceEqDiff, ↓reduceIte, yielded, reduceCtorEq, Nat.reduceLT, Nat.reduceMul, Nat.reduceSub, one, Nat.reduceLeDiff, Aqj, y6_188, aq, ↓ap, qe0, qe1, qe2, *, -hK, Aq3] <;> (first | exact rfl | exact ⟨rfl, rfl⟩ | exact ⟨rfl, trivial⟩))); simp -implicitDefEqProofs (disch := first | omega | (simp only [qd] <;> omega)) only [Aq0, Aqp])
      refine Axr ?_
      have w := k.a2
      (refine @unH _ ?_; refine zX y6_188 ?_)
      replace k := fun o => k.p2 (o := o) D
      generalize hG : Hp.set G29 d2 _ = G30
      have vg2 := Aqf hG vg (fun e => by rw [e, w] at vg; cases vg)
      clear vg
      have vg := vg2
      clear vg2
      replace k := hG ▸ k _
      clear hG w
      refine ⟨.inr fun _ => (by first | trivial | exact hS _ _ _ _ _ _ k | simp [zn2d2, zn3d2, zn5d2]), ?_⟩
      (apply planW_free rfl rfl rfl; (focus (intro HX; simp -implicitDefEqProofs (disch := first | omega | (simp only [qd] <;> omega)) only [xq, ↓xp, qc, Nat.reduceAdd, List.range, List.range.loop, fine, Nat.reduceEqDiff, ↓reduceIte, yielded, reduceCtorEq, Nat.reduceLT, Nat.reduceMul, Nat.reduceSub, one, Nat.reduceLeDiff, Aqj, y6_188, aq, ↓ap, qe0, qe1, qe2, *, -hK, Aq3] <;> (first | exact rfl | exact ⟨rfl, rfl⟩ | exact ⟨rfl, trivial⟩))); simp -implicitDefEqProofs (disch := first | omega | (simp only [qd] <;> omega)) only [Aq0, Aqp])
      refine Axr ?_
      have w := k.a3
      (refine @unH _ ?_; refine zX y6_188 ?_)
      replace k := fun o => k.p3 (o := o) D
      generalize hG : Hp.set G30 d3 _ = G31
      have vg2 := Aqf hG vg (fun e => by rw [e, w] at vg; cases vg)
      clear vg
      have vg := vg2
      clear vg2
      replace k := hG ▸ k _
      clear hG w
      refine ⟨.inr fun _ => (by first | trivial | exact hS _ _ _ _ _ _ k | simp [zn2d3, zn3d3, zn5d3]), ?_⟩
      (apply planW_free rfl rfl rfl; (focus (intro HX; simp -implicitDefEqProofs (disch := first | omega | (simp only [qd] <;> omega)) only [xq, ↓xp, qc, Nat.reduceAdd, List.range, List.range.loop, fine, Nat.reduceEqDiff, ↓reduceIte, yielded, reduceCtorEq, Nat.reduceLT, Nat.reduceMul, Nat.reduceSub, one, Nat.reduceLeDiff, Aqj, y6_188, aq, ↓ap, qe0, qe1, qe2, *, -hK, Aq3] <;> (first | exact rfl | exact ⟨rfl, rfl⟩ | exact ⟨rfl, trivial⟩))); simp -implicitDefEqProofs (disch := first | omega | (simp only [qd] <;> omega)) only [Aq0, Aqp])
      refine Axr ?_
      have w := k.a4
      (refine @unH _ ?_; refine zX y6_188 ?_)
      replace k := fun o => k.p4 (o := o) D
      generalize hG : Hp.set G31 n4 _ = G32
      have vg2 := Aqf hG vg (fun e => by rw [e, w] at vg; cases vg)
      clear vg
      have vg := vg2
      clear vg2
      replace k := hG ▸ k _
      clear hG w
      refine ⟨.inr fun _ => (by first | trivial | exact hS _ _ _ _ _ _ k | simp [zn2n4, zn3n4, zn5n4]), ?_⟩
      (apply planW_free rfl rfl rfl; (focus (intro HX; simp -implicitDefEqProofs (disch := first | omega | (simp only [qd] <;> omega)) only [xq, ↓xp, qc, Nat.reduceAdd, List.range, List.range.loop, fine, Nat.reduceEqDiff, ↓reduceIte, yielded, reduceCtorEq, Nat.reduceLT, Nat.reduceMul, Nat.reduceSub, one, Nat.reduceLeDiff, Aqj, y6_188, aq, ↓ap, qe0, qe1, qe2, *, -hK, Aq3] <;> (first | exact rfl | exact ⟨rfl, rfl⟩ | exact ⟨rfl, trivial⟩))); simp -implicitDefEqProofs (disch := first | omega | (simp only [qd] <;> omega)) only [Aq0, Aqp])
      refine Axr ?_
      have w := k.a5
      (refine @unH _ ?_; refine zX y6_188 ?_)
      replace k := fun o => k.p5 (o := o) D
      generalize hG : Hp.set G32 m5 _ = G33
      have vg2 := Aqf hG vg (fun e => by rw [e, w] at vg; cases vg)
      clear vg
      have vg := vg2
      clear vg2
      replace k := hG ▸ k _
      clear hG w
      refine ⟨.inr fun _ => (by first | trivial | exact hS _ _ _ _ _ _ k | simp [zn2m5, zn3m5, zn5m5]), ?_⟩
      refine Ak2 (hK _ _ ⟨_, g, rfl, e1, e2, e3, e4, e5, e6, k, vg⟩)
     ·have w := k.a1
      (refine @unH _ ?_; refine zX y6_188 ?_)
      replace k := fun o => k.p1 (o := o) D
      generalize hG : Hp.set G27 n1 _ = G34
      replace k := hG ▸ k _
      clear hG w
      refine ⟨.inr fun _ => (by first | trivial | exact hS _ _ _ _ _ _ k | simp [zn2n1, zn3n1, zn5n1]), ?_⟩
      (apply planW_free rfl rfl rfl; (focus (intro HX; simp -implicitDefEqProofs (disch := first | omega | (simp only [qd] <;> omega)) only [xq, ↓xp, qc, Nat.reduceAdd, List.range, List.range.loop, fine, Nat.reduceEqDiff, ↓reduceIte, yielded, reduceCtorEq, Nat.reduceLT, Nat.reduceMul, Nat.reduceSub, one, Nat.reduceLeDiff, Aqj, y6_188, aq, ↓ap, qe0, qe1, qe2, *, -hK, Aq3] <;> (first | exact rfl | exact ⟨rfl, rfl⟩ | exact ⟨rfl, trivial⟩))); simp -implicitDefEqProofs (disch := first | omega | (simp only [qd] <;> omega)) only [Aq0, Aqp])
      refine Bxx ?_ ?_
      ·(refine @unH _ ?_; refine zX y6_188 ?_)
       intro g hg
       have hx2 := Aqq (hS _ _ _ _ _ _ k).1 hg
       have hx3 := Aqq (hS _ _ _ _ _ _ k).2.1 hg
       have hx5 := Aqq (hS _ _ _ _ _ _ k).2.2 hg
       generalize hG : Hp.set G34 g _ = G35
       have lG35 := Aqc hG hg
       have vg := Aqb hG
       replace k := k.le lG35
       clear hG hg lG35
       refine ⟨.inr fun _ => (by first | trivial | exact hS _ _ _ _ _ _ k | simp [hx2, hx3, hx5]), ?_⟩
       clear hx2 hx3 hx5
       refine Axr ?_
       have w := k.a2
       (refine @unH _ ?_; refine zX y6_188 ?_)
       replace k := fun o => k.p2 (o := o) D
       generalize hG : Hp.set G35 d2 _ = G36
       have vg2 := Aqf hG vg (fun e => by rw [e, w] at vg; cases vg)
       clear vg
       have vg := vg2
       clear vg2
       replace k := hG ▸ k _
       clear hG w
       refine ⟨.inr fun _ => (by first | trivial | exact hS _ _ _ _ _ _ k | simp [zn2d2, zn3d2, zn5d2]), ?_⟩
       (apply planW_free rfl rfl rfl; (focus (intro HX; simp -implicitDefEqProofs (disch := first | omega | (simp only [qd] <;> omega)) only [xq, ↓xp, qc, Nat.reduceAdd, List.range, List.range.loop, fine, Nat.reduceEqDiff, ↓reduceIte, yielded, reduceCtorEq, Nat.reduceLT, Nat.reduceMul, Nat.reduceSub, one, Nat.reduceLeDiff, Aqj, y6_188, aq, ↓ap, qe0, qe1, qe2, *, -hK, Aq3] <;> (first | exact rfl | exact ⟨rfl, rfl⟩ | exact ⟨rfl, trivial⟩))); simp -implicitDefEqProofs (disch := first | omega | (simp only [qd] <;> omega)) only [Aq0, Aqp])
       refine Axr ?_
       have w := k.a3
       (refine @unH _ ?_; refine zX y6_188 ?_)
       replace k := fun o => k.p3 (o := o) D
       generalize hG : Hp.set G36 d3 _ = G37
       have vg2 := Aqf hG vg (fun e => by rw [e, w] at vg; cases vg)
       clear vg
       have vg := vg2
       clear vg2
       replace k := hG ▸ k _
       clear hG w
       refine ⟨.inr fun _ => (by first | trivial | exact hS _ _ _ _ _ _ k | simp [zn2d3, zn3d3, zn5d3]), ?_⟩
       (apply planW_free rfl rfl rfl; (focus (intro HX; simp -implicitDefEqProofs (disch := first | omega | (simp only [qd] <;> omega)) only [xq, ↓xp, qc, Nat.reduceAdd, List.range, List.range.loop, fine, Nat.reduceEqDiff, ↓reduceIte, yielded, reduceCtorEq, Nat.reduceLT, Nat.reduceMul, Nat.reduceSub, one, Nat.reduceLeDiff, Aqj, y6_188, aq, ↓ap, qe0, qe1, qe2, *, -hK, Aq3] <;> (first | exact rfl | exact ⟨rfl, rfl⟩ | exact ⟨rfl, trivial⟩))); simp -implicitDefEqProofs (disch := first | omega | (simp only [qd] <;> omega)) only [Aq0, Aqp])
       refine Axr ?_
       have w := k.a4
       (refine @unH _ ?_; refine zX y6_188 ?_)
       replace k := fun o => k.p4 (o := o) D
       generalize hG : Hp.set G37 n4 _ = G38
       have vg2 := Aqf hG vg (fun e => by rw [e, w] at vg; cases vg)
       clear vg
       have vg := vg2
       clear vg2
       replace k := hG ▸ k _
       clear hG w
       refine ⟨.inr fun _ => (by first | trivial | exact hS _ _ _ _ _ _ k | simp [zn2n4, zn3n4, zn5n4]), ?_⟩
       (apply planW_free rfl rfl rfl; (focus (intro HX; simp -implicitDefEqProofs (disch := first | omega | (simp only [qd] <;> omega)) only [xq, ↓xp, qc, Nat.reduceAdd, List.range, List.range.loop, fine, Nat.reduceEqDiff, ↓reduceIte, yielded, reduceCtorEq, Nat.reduceLT, Nat.reduceMul, Nat.reduceSub, one, Nat.reduceLeDiff, Aqj, y6_188, aq, ↓ap, qe0, qe1, qe2, *, -hK, Aq3] <;> (first | exact rfl | exact ⟨rfl, rfl⟩ | exact ⟨rfl, trivial⟩))); simp -implicitDefEqProofs (disch := first | omega | (simp only [qd] <;> omega)) only [Aq0, Aqp])
       refine Axr ?_
       have w := k.a5
       (refine @unH _ ?_; refine zX y6_188 ?_)
       replace k := fun o => k.p5 (o := o) D
       generalize hG : Hp.set G38 m5 _ = G39
       have vg2 := Aqf hG vg (fun e => by rw [e, w] at vg; cases vg)
       clear vg
       have vg := vg2
       clear vg2
       replace k := hG ▸ k _
       clear hG w
       refine ⟨.inr fun _ => (by first | trivial | exact hS _ _ _ _ _ _ k | simp [zn2m5, zn3m5, zn5m5]), ?_⟩
       refine Ak2 (hK _ _ ⟨_, g, rfl, e1, e2, e3, e4, e5, e6, k, vg⟩)
      ·have w := k.a2
       (refine @unH _ ?_; refine zX y6_188 ?_)
       replace k := fun o => k.p2 (o := o) D
       generalize hG : Hp.set G34 d2 _ = G40
       replace k := hG ▸ k _
       clear hG w
       refine ⟨.inr fun _ => (by first | trivial | exact hS _ _ _ _ _ _ k | simp [zn2d2, zn3d2, zn5d2]), ?_⟩
       (apply planW_free rfl rfl rfl; (focus (intro HX; simp -implicitDefEqProofs (disch := first | omega | (simp only [qd] <;> omega)) only [xq, ↓xp, qc, Nat.reduceAdd, List.range, List.range.loop, fine, Nat.reduceEqDiff, ↓reduceIte, yielded, reduceCtorEq, Nat.reduceLT, Nat.reduceMul, Nat.reduceSub, one, Nat.reduceLeDiff, Aqj, y6_188, aq, ↓ap, qe0, qe1, qe2, *, -hK, Aq3] <;> (first | exact rfl | exact ⟨rfl, rfl⟩ | exact ⟨rfl, trivial⟩))); simp -implicitDefEqProofs (disch := first | omega | (simp only [qd] <;> omega)) only [Aq0, Aqp])
       refine Bxx ?_ ?_
       ·(refine @unH _ ?_; refine zX y6_188 ?_)
        intro g hg
        have hx2 := Aqq (hS _ _ _ _ _ _ k).1 hg
        have hx3 := Aqq (hS _ _ _ _ _ _ k).2.1 hg
        have hx5 := Aqq (hS _ _ _ _ _ _ k).2.2 hg
        generalize hG : Hp.set G40 g _ = G41
        have lG41 := Aqc hG hg
        have vg := Aqb hG
        replace k := k.le lG41
        clear hG hg lG41
        refine ⟨.inr fun _ => (by first | trivial | exact hS _ _ _ _ _ _ k | simp [hx2, hx3, hx5]), ?_⟩
        clear hx2 hx3 hx5
        refine Axr ?_
        have w := k.a3
        (refine @unH _ ?_; refine zX y6_188 ?_)
        replace k := fun o => k.p3 (o := o) D
        generalize hG : Hp.set G41 d3 _ = G42
        have vg2 := Aqf hG vg (fun e => by rw [e, w] at vg; cases vg)
        clear vg
        have vg := vg2
        clear vg2
        replace k := hG ▸ k _
        clear hG w
        refine ⟨.inr fun _ => (by first | trivial | exact hS _ _ _ _ _ _ k | simp [zn2d3, zn3d3, zn5d3]), ?_⟩
        (apply planW_free rfl rfl rfl; (focus (intro HX; simp -implicitDefEqProofs (disch := first | omega | (simp only [qd] <;> omega)) only [xq, ↓xp, qc, Nat.reduceAdd, List.range, List.range.loop, fine, Nat.reduceEqDiff, ↓reduceIte, yielded, reduceCtorEq, Nat.reduceLT, Nat.reduceMul, Nat.reduceSub, one, Nat.reduceLeDiff, Aqj, y6_188, aq, ↓ap, qe0, qe1, qe2, *, -hK, Aq3] <;> (first | exact rfl | exact ⟨rfl, rfl⟩ | exact ⟨rfl, trivial⟩))); simp -implicitDefEqProofs (disch := first | omega | (simp only [qd] <;> omega)) only [Aq0, Aqp])
        refine Axr ?_
        have w := k.a4
        (refine @unH _ ?_; refine zX y6_188 ?_)
        replace k := fun o => k.p4 (o := o) D
        generalize hG : Hp.set G42 n4 _ = G43
        have vg2 := Aqf hG vg (fun e => by rw [e, w] at vg; cases vg)
        clear vg
        have vg := vg2
        clear vg2
        replace k := hG ▸ k _
        clear hG w
        refine ⟨.inr fun _ => (by first | trivial | exact hS _ _ _ _ _ _ k | simp [zn2n4, zn3n4, zn5n4]), ?_⟩
        (apply planW_free rfl rfl rfl; (focus (intro HX; simp -implicitDefEqProofs (disch := first | omega | (simp only [qd] <;> omega)) only [xq, ↓xp, qc, Nat.reduceAdd, List.range, List.range.loop, fine, Nat.reduceEqDiff, ↓reduceIte, yielded, reduceCtorEq, Nat.reduceLT, Nat.reduceMul, Nat.reduceSub, one, Nat.reduceLeDiff, Aqj, y6_188, aq, ↓ap, qe0, qe1, qe2, *, -hK, Aq3] <;> (first | exact rfl | exact ⟨rfl, rfl⟩ | exact ⟨rfl, trivial⟩))); simp -implicitDefEqProofs (disch := first | omega | (simp only [qd] <;> omega)) only [Aq0, Aqp])
        refine Axr ?_
        have w := k.a5
        (refine @unH _ ?_; refine zX y6_188 ?_)
        replace k := fun o => k.p5 (o := o) D
        generalize hG : Hp.set G43 m5 _ = G44
        have vg2 := Aqf hG vg (fun e => by rw [e, w] at vg; cases vg)
        clear vg
        have vg := vg2
        clear vg2
        replace k := hG ▸ k _
        clear hG w
        refine ⟨.inr fun _ => (by first | trivial | exact hS _ _ _ _ _ _ k | simp [zn2m5, zn3m5, zn5m5]), ?_⟩
        refine Ak2 (hK _ _ ⟨_, g, rfl, e1, e2, e3, e4, e5, e6, k, vg⟩)
       ·have w := k.a3
        (refine @unH _ ?_; refine zX y6_188 ?_)
        replace k := fun o => k.p3 (o := o) D
        generalize hG : Hp.set G40 d3 _ = G45
        replace k := hG ▸ k _
        clear hG w
        refine ⟨.inr fun _ => (by first | trivial | exact hS _ _ _ _ _ _ k | simp [zn2d3, zn3d3, zn5d3]), ?_⟩
        refine Axr ?_
        (refine @unH _ ?_; refine zX y6_188 ?_)
        intro g hg
        have hx2 := Aqq (hS _ _ _ _ _ _ k).1 hg
        have hx3 := Aqq (hS _ _ _ _ _ _ k).2.1 hg
        have hx5 := Aqq (hS _ _ _ _ _ _ k).2.2 hg
        generalize hG : Hp.set G45 g _ = G46
        have lG46 := Aqc hG hg
        have vg := Aqb hG
        replace k := k.le lG46
        clear hG hg lG46
        refine ⟨.inr fun _ => (by first | trivial | exact hS _ _ _ _ _ _ k | simp [hx2, hx3, hx5]), ?_⟩
        clear hx2 hx3 hx5
        (apply planW_free rfl rfl rfl; (focus (intro HX; simp -implicitDefEqProofs (disch := first | omega | (simp only [qd] <;> omega)) only [xq, ↓xp, qc, Nat.reduceAdd, List.range, List.range.loop, fine, Nat.reduceEqDiff, ↓reduceIte, yielded, reduceCtorEq, Nat.reduceLT, Nat.reduceMul, Nat.reduceSub, one, Nat.reduceLeDiff, Aqj, y6_188, aq, ↓ap, qe0, qe1, qe2, *, -hK, Aq3] <;> (first | exact rfl | exact ⟨rfl, rfl⟩ | exact ⟨rfl, trivial⟩))); simp -implicitDefEqProofs (disch := first | omega | (simp only [qd] <;> omega)) only [Aq0, Aqp])
        refine Axr ?_
        have w := k.a4
        (refine @unH _ ?_; refine zX y6_188 ?_)
        replace k := fun o => k.p4 (o := o) D
        generalize hG : Hp.set G46 n4 _ = G47
        have vg2 := Aqf hG vg (fun e => by rw [e, w] at vg; cases vg)
        clear vg
        have vg := vg2
        clear vg2
        replace k := hG ▸ k _
        clear hG w
        refine ⟨.inr fun _ => (by first | trivial | exact hS _ _ _ _ _ _ k | simp [zn2n4, zn3n4, zn5n4]), ?_⟩
        (apply planW_free rfl rfl rfl; (focus (intro HX; simp -implicitDefEqProofs (disch := first | omega | (simp only [qd] <;> omega)) only [xq, ↓xp, qc, Nat.reduceAdd, List.range, List.range.loop, fine, Nat.reduceEqDiff, ↓reduceIte, yielded, reduceCtorEq, Nat.reduceLT, Nat.reduceMul, Nat.reduceSub, one, Nat.reduceLeDiff, Aqj, y6_188, aq, ↓ap, qe0, qe1, qe2, *, -hK, Aq3] <;> (first | exact rfl | exact ⟨rfl, rfl⟩ | exact ⟨rfl, trivial⟩))); simp -implicitDefEqProofs (disch := first | omega | (simp only [qd] <;> omega)) only [Aq0, Aqp])
        refine Axr ?_
        have w := k.a5
        (refine @unH _ ?_; refine zX y6_188 ?_)
        replace k := fun o => k.p5 (o := o) D
        generalize hG : Hp.set G47 m5 _ = G48
        have vg2 := Aqf hG vg (fun e => by rw [e, w] at vg; cases vg)
        clear vg
        have vg := vg2
        clear vg2
        replace k := hG ▸ k _
        clear hG w
        refine ⟨.inr fun _ => (by first | trivial | exact hS _ _ _ _ _ _ k | simp [zn2m5, zn3m5, zn5m5]), ?_⟩
        refine Ak2 (hK _ _ ⟨_, g, rfl, e1, e2, e3, e4, e5, e6, k, vg⟩)
   ·(refine @unH _ ?_; refine zX y6_188 ?_)
    intro g hg
    have hx2 := Aqq (hS _ _ _ _ _ _ k).1 hg
    have hx3 := Aqq (hS _ _ _ _ _ _ k).2.1 hg
    have hx5 := Aqq (hS _ _ _ _ _ _ k).2.2 hg
    generalize hG : Hp.set G10 g _ = G11
    have lG11 := Aqc hG hg
    have vg := Aqb hG
    replace k := k.le lG11
    clear hG hg lG11
    refine ⟨.inr fun _ => (by first | trivial | exact hS _ _ _ _ _ _ k | simp [hx2, hx3, hx5]), ?_⟩
    clear hx2 hx3 hx5
    refine Axr ?_
    (refine @unH _ ?_; refine zX y6_188 ?_)
    refine (Ay2 _ G11 0 1 2 5).runs.mono ?_
    rintro _ G12 ⟨rfl, lG12⟩
    replace k := k.le lG12
    replace vg := lG12 _ _ vg
    clear lG12
    (refine @unH _ ?_; refine zX y6_188 ?_)
    refine ⟨.inr fun _ => (by first | trivial | exact hS _ _ _ _ _ _ k), ?_⟩
    refine Axr ?_
    (refine @unH _ ?_; refine zX y6_188 ?_)
    refine (Awd _ G12 1 13 true).runs.mono ?_
    rintro _ G13 ⟨rfl, lG13⟩
    replace k := k.le lG13
    replace vg := lG13 _ _ vg
    clear lG13
    (refine @unH _ ?_; refine zX y6_188 ?_)
    refine ⟨.inr fun _ => (by first | trivial | exact hS _ _ _ _ _ _ k), ?_⟩
    (apply planW_free rfl rfl rfl; (focus (intro HX; simp -implicitDefEqProofs (disch := first | omega | (simp only [qd] <;> omega)) only [xq, ↓xp, qc, Nat.reduceAdd, List.range, List.range.loop, fine, Nat.reduceEqDiff, ↓reduceIte, yielded, reduceCtorEq, Nat.reduceLT, Nat.reduceMul, Nat.reduceSub, one, Nat.reduceLeDiff, Aqj, y6_188, aq, ↓ap, qe0, qe1, qe2, *, -hK, Aq3] <;> (first | exact rfl | exact ⟨rfl, rfl⟩ | exact ⟨rfl, trivial⟩))); simp -implicitDefEqProofs (disch := first | omega | (simp only [qd] <;> omega)) only [Aq0, Aqp])
    refine Axr ?_
    have w := k.a1
    (refine @unH _ ?_; refine zX y6_188 ?_)
    replace k := fun o => k.p1 (o := o) D
    generalize hG : Hp.set G13 n1 _ = G14
    have vg2 := Aqf hG vg (fun e => by rw [e, w] at vg; cases vg)
    clear vg
    have vg := vg2
    clear vg2
    replace k := hG ▸ k _
    clear hG w
    refine ⟨.inr fun _ => (by first | trivial | exact hS _ _ _ _ _ _ k | simp [zn2n1, zn3n1, zn5n1]), ?_⟩
    (apply planW_free rfl rfl rfl; (focus (intro HX; simp -implicitDefEqProofs (disch := first | omega | (simp only [qd] <;> omega)) only [xq, ↓xp, qc, Nat.reduceAdd, List.range, List.range.loop, fine, Nat.reduceEqDiff, ↓reduceIte, yielded, reduceCtorEq, Nat.reduceLT, Nat.reduceMul, Nat.reduceSub, one, Nat.reduceLeDiff, Aqj, y6_188, aq, ↓ap, qe0, qe1, qe2, *, -hK, Aq3] <;> (first | exact rfl | exact ⟨rfl, rfl⟩ | exact ⟨rfl, trivial⟩))); simp -implicitDefEqProofs (disch := first | omega | (simp only [qd] <;> omega)) only [Aq0, Aqp])
    refine Axr ?_
    have w := k.a2
    (refine @unH _ ?_; refine zX y6_188 ?_)
    replace k := fun o => k.p2 (o := o) D
    generalize hG : Hp.set G14 d2 _ = G15
    have vg2 := Aqf hG vg (fun e => by rw [e, w] at vg; cases vg)
    clear vg
    have vg := vg2
    clear vg2
    replace k := hG ▸ k _
    clear hG w
    refine ⟨.inr fun _ => (by first | trivial | exact hS _ _ _ _ _ _ k | simp [zn2d2, zn3d2, zn5d2]), ?_⟩
    (apply planW_free rfl rfl rfl; (focus (intro HX; simp -implicitDefEqProofs (disch := first | omega | (simp only [qd] <;> omega)) only [xq, ↓xp, qc, Nat.reduceAdd, List.range, List.range.loop, fine, Nat.reduceEqDiff, ↓reduceIte, yielded, reduceCtorEq, Nat.reduceLT, Nat.reduceMul, Nat.reduceSub, one, Nat.reduceLeDiff, Aqj, y6_188, aq, ↓ap, qe0, qe1, qe2, *, -hK, Aq3] <;> (first | exact rfl | exact ⟨rfl, rfl⟩ | exact ⟨rfl, trivial⟩))); simp -implicitDefEqProofs (disch := first | omega | (simp only [qd] <;> omega)) only [Aq0, Aqp])
    refine Axr ?_
    have w := k.a3
    (refine @unH _ ?_; refine zX y6_188 ?_)
    replace k := fun o => k.p3 (o := o) D
    generalize hG : Hp.set G15 d3 _ = G16
    have vg2 := Aqf hG vg (fun e => by rw [e, w] at vg; cases vg)
    clear vg
    have vg := vg2
    clear vg2
    replace k := hG ▸ k _
    clear hG w
    refine ⟨.inr fun _ => (by first | trivial | exact hS _ _ _ _ _ _ k | simp [zn2d3, zn3d3, zn5d3]), ?_⟩
    (apply planW_free rfl rfl rfl; (focus (intro HX; simp -implicitDefEqProofs (disch := first | omega | (simp only [qd] <;> omega)) only [xq, ↓xp, qc, Nat.reduceAdd, List.range, List.range.loop, fine, Nat.reduceEqDiff, ↓reduceIte, yielded, reduceCtorEq, Nat.reduceLT, Nat.reduceMul, Nat.reduceSub, one, Nat.reduceLeDiff, Aqj, y6_188, aq, ↓ap, qe0, qe1, qe2, *, -hK, Aq3] <;> (first | exact rfl | exact ⟨rfl, rfl⟩ | exact ⟨rfl, trivial⟩))); simp -implicitDefEqProofs (disch := first | omega | (simp only [qd] <;> omega)) only [Aq0, Aqp])
    refine Axr ?_
    have w := k.a4
    (refine @unH _ ?_; refine zX y6_188 ?_)
    replace k := fun o => k.p4 (o := o) D
    generalize hG : Hp.set G16 n4 _ = G17
    have vg2 := Aqf hG vg (fun e => by rw [e, w] at vg; cases vg)
    clear vg
    have vg := vg2
    clear vg2
    replace k := hG ▸ k _
    clear hG w
    refine ⟨.inr fun _ => (by first | trivial | exact hS _ _ _ _ _ _ k | simp [zn2n4, zn3n4, zn5n4]), ?_⟩
    (apply planW_free rfl rfl rfl; (focus (intro HX; simp -implicitDefEqProofs (disch := first | omega | (simp only [qd] <;> omega)) only [xq, ↓xp, qc, Nat.reduceAdd, List.range, List.range.loop, fine, Nat.reduceEqDiff, ↓reduceIte, yielded, reduceCtorEq, Nat.reduceLT, Nat.reduceMul, Nat.reduceSub, one, Nat.reduceLeDiff, Aqj, y6_188, aq, ↓ap, qe0, qe1, qe2, *, -hK, Aq3] <;> (first | exact rfl | exact ⟨rfl, rfl⟩ | exact ⟨rfl, trivial⟩))); simp -implicitDefEqProofs (disch := first | omega | (simp only [qd] <;> omega)) only [Aq0, Aqp])
    refine Axr ?_
    have w := k.a5
    (refine @unH _ ?_; refine zX y6_188 ?_)
    replace k := fun o => k.p5 (o := o) D
    generalize hG : Hp.set G17 m5 _ = G18
    have vg2 := Aqf hG vg (fun e => by rw [e, w] at vg; cases vg)
    clear vg
    have vg := vg2
    clear vg2
    replace k := hG ▸ k _
    clear hG w
    refine ⟨.inr fun _ => (by first | trivial | exact hS _ _ _ _ _ _ k | simp [zn2m5, zn3m5, zn5m5]), ?_⟩
    refine Ak2 (hK _ _ ⟨_, g, rfl, e1, e2, e3, e4, e5, e6, k, vg⟩)
  ·(refine @unH _ ?_; refine zX y6_188 ?_)
   intro g hg
   have hx2 := Aqq (hS _ _ _ _ _ _ k).1 hg
   have hx3 := Aqq (hS _ _ _ _ _ _ k).2.1 hg
   have hx5 := Aqq (hS _ _ _ _ _ _ k).2.2 hg
   generalize hG : Hp.set Hs g _ = G1
   have lG1 := Aqc hG hg
   have vg := Aqb hG
   replace k := k.le lG1
   clear hG hg lG1
   refine ⟨.inr fun _ => (by first | trivial | exact hS _ _ _ _ _ _ k | simp [hx2, hx3, hx5]), ?_⟩
   clear hx2 hx3 hx5
   refine Axr ?_
   (refine @unH _ ?_; refine zX y6_188 ?_)
   refine (Ay2 _ G1 0 0 2 3).runs.mono ?_
   rintro _ G2 ⟨rfl, lG2⟩
   replace k := k.le lG2
   replace vg := lG2 _ _ vg
   clear lG2
   (refine @unH _ ?_; refine zX y6_188 ?_)
   refine ⟨.inr fun _ => (by first | trivial | exact hS _ _ _ _ _ _ k), ?_⟩
   refine Axr ?_
   (refine @unH _ ?_; refine zX y6_188 ?_)
   refine (Ay2 _ G2 0 1 2 5).runs.mono ?_
   rintro _ G3 ⟨rfl, lG3⟩
   replace k := k.le lG3
   replace vg := lG3 _ _ vg
   clear lG3
   (refine @unH _ ?_; refine zX y6_188 ?_)
   refine ⟨.inr fun _ => (by first | trivial | exact hS _ _ _ _ _ _ k), ?_⟩
   refine Axr ?_
   (refine @unH _ ?_; refine zX y6_188 ?_)
   refine (Awd _ G3 1 13 true).runs.mono ?_
   rintro _ G4 ⟨rfl, lG4⟩
   replace k := k.le lG4
   replace vg := lG4 _ _ vg
   clear lG4
   (refine @unH _ ?_; refine zX y6_188 ?_)
   refine ⟨.inr fun _ => (by first | trivial | exact hS _ _ _ _ _ _ k), ?_⟩
   (apply planW_free rfl rfl rfl; (focus (intro HX; simp -implicitDefEqProofs (disch := first | omega | (simp only [qd] <;> omega)) only [xq, ↓xp, qc, Nat.reduceAdd, List.range, List.range.loop, fine, Nat.reduceEqDiff, ↓reduceIte, yielded, reduceCtorEq, Nat.reduceLT, Nat.reduceMul, Nat.reduceSub, one, Nat.reduceLeDiff, Aqj, y6_188, aq, ↓ap, qe0, qe1, qe2, *, -hK, Aq3] <;> (first | exact rfl | exact ⟨rfl, rfl⟩ | exact ⟨rfl, trivial⟩))); simp -implicitDefEqProofs (disch := first | omega | (simp only [qd] <;> omega)) only [Aq0, Aqp])
   refine Axr ?_
   have w := k.a1
   (refine @unH _ ?_; refine zX y6_188 ?_)
   replace k := fun o => k.p1 (o := o) D
   generalize hG : Hp.set G4 n1 _ = G5
   have vg2 := Aqf hG vg (fun e => by rw [e, w] at vg; cases vg)
   clear vg
   have vg := vg2
   clear vg2
   replace k := hG ▸ k _
   clear hG w
   refine ⟨.inr fun _ => (by first | trivial | exact hS _ _ _ _ _ _ k | simp [zn2n1, zn3n1, zn5n1]), ?_⟩
   (apply planW_free rfl rfl rfl; (focus (intro HX; simp -implicitDefEqProofs (disch := first | omega | (simp only [qd] <;> omega)) only [xq, ↓xp, qc, Nat.reduceAdd, List.range, List.range.loop, fine, Nat.reduceEqDiff, ↓reduceIte, yielded, reduceCtorEq, Nat.reduceLT, Nat.reduceMul, Nat.reduceSub, one, Nat.reduceLeDiff, Aqj, y6_188, aq, ↓ap, qe0, qe1, qe2, *, -hK, Aq3] <;> (first | exact rfl | exact ⟨rfl, rfl⟩ | exact ⟨rfl, trivial⟩))); simp -implicitDefEqProofs (disch := first | omega | (simp only [qd] <;> omega)) only [Aq0, Aqp])
   refine Axr ?_
   have w := k.a2
   (refine @unH _ ?_; refine zX y6_188 ?_)
   replace k := fun o => k.p2 (o := o) D
   generalize hG : Hp.set G5 d2 _ = G6
   have vg2 := Aqf hG vg (fun e => by rw [e, w] at vg; cases vg)
   clear vg
   have vg := vg2
   clear vg2
   replace k := hG ▸ k _
   clear hG w
   refine ⟨.inr fun _ => (by first | trivial | exact hS _ _ _ _ _ _ k | simp [zn2d2, zn3d2, zn5d2]), ?_⟩
   (apply planW_free rfl rfl rfl; (focus (intro HX; simp -implicitDefEqProofs (disch := first | omega | (simp only [qd] <;> omega)) only [xq, ↓xp, qc, Nat.reduceAdd, List.range, List.range.loop, fine, Nat.reduceEqDiff, ↓reduceIte, yielded, reduceCtorEq, Nat.reduceLT, Nat.reduceMul, Nat.reduceSub, one, Nat.reduceLeDiff, Aqj, y6_188, aq, ↓ap, qe0, qe1, qe2, *, -hK, Aq3] <;> (first | exact rfl | exact ⟨rfl, rfl⟩ | exact ⟨rfl, trivial⟩))); simp -implicitDefEqProofs (disch := first | omega | (simp only [qd] <;> omega)) only [Aq0, Aqp])
   refine Axr ?_
   have w := k.a3
   (refine @unH _ ?_; refine zX y6_188 ?_)
   replace k := fun o => k.p3 (o := o) D
   generalize hG : Hp.set G6 d3 _ = G7
   have vg2 := Aqf hG vg (fun e => by rw [e, w] at vg; cases vg)
   clear vg
   have vg := vg2
   clear vg2
   replace k := hG ▸ k _
   clear hG w
   refine ⟨.inr fun _ => (by first | trivial | exact hS _ _ _ _ _ _ k | simp [zn2d3, zn3d3, zn5d3]), ?_⟩
   (apply planW_free rfl rfl rfl; (focus (intro HX; simp -implicitDefEqProofs (disch := first | omega | (simp only [qd] <;> omega)) only [xq, ↓xp, qc, Nat.reduceAdd, List.range, List.range.loop, fine, Nat.reduceEqDiff, ↓reduceIte, yielded, reduceCtorEq, Nat.reduceLT, Nat.reduceMul, Nat.reduceSub, one, Nat.reduceLeDiff, Aqj, y6_188, aq, ↓ap, qe0, qe1, qe2, *, -hK, Aq3] <;> (first | exact rfl | exact ⟨rfl, rfl⟩ | exact ⟨rfl, trivial⟩))); simp -implicitDefEqProofs (disch := first | omega | (simp only [qd] <;> omega)) only [Aq0, Aqp])
   refine Axr ?_
   have w := k.a4
   (refine @unH _ ?_; refine zX y6_188 ?_)
   replace k := fun o => k.p4 (o := o) D
   generalize hG : Hp.set G7 n4 _ = G8
   have vg2 := Aqf hG vg (fun e => by rw [e, w] at vg; cases vg)
   clear vg
   have vg := vg2
   clear vg2
   replace k := hG ▸ k _
   clear hG w
   refine ⟨.inr fun _ => (by first | trivial | exact hS _ _ _ _ _ _ k | simp [zn2n4, zn3n4, zn5n4]), ?_⟩
   (apply planW_free rfl rfl rfl; (focus (intro HX; simp -implicitDefEqProofs (disch := first | omega | (simp only [qd] <;> omega)) only [xq, ↓xp, qc, Nat.reduceAdd, List.range, List.range.loop, fine, Nat.reduceEqDiff, ↓reduceIte, yielded, reduceCtorEq, Nat.reduceLT, Nat.reduceMul, Nat.reduceSub, one, Nat.reduceLeDiff, Aqj, y6_188, aq, ↓ap, qe0, qe1, qe2, *, -hK, Aq3] <;> (first | exact rfl | exact ⟨rfl, rfl⟩ | exact ⟨rfl, trivial⟩))); simp -implicitDefEqProofs (disch := first | omega | (simp only [qd] <;> omega)) only [Aq0, Aqp])
   refine Axr ?_
   have w := k.a5
   (refine @unH _ ?_; refine zX y6_188 ?_)
   replace k := fun o => k.p5 (o := o) D
   generalize hG : Hp.set G8 m5 _ = G9
   have vg2 := Aqf hG vg (fun e => by rw [e, w] at vg; cases vg)
   clear vg
   have vg := vg2
   clear vg2
   replace k := hG ▸ k _
   clear hG w
   refine ⟨.inr fun _ => (by first | trivial | exact hS _ _ _ _ _ _ k | simp [zn2m5, zn3m5, zn5m5]), ?_⟩
   refine Ak2 (hK _ _ ⟨_, g, rfl, e1, e2, e3, e4, e5, e6, k, vg⟩)
 rintro _ G0 ⟨e', g, rfl, f1, f2, f3, f4, f5, f6, k, vg⟩
 clear e1 e2 e3 e4 e5 e6 e hS
 have he0 : ErrS G0 := by
  obtain ⟨q0, cg0, eg0, fg0, h0, h1⟩ := he
  refine ⟨q0, cg0, eg0, fg0, k.keep 0 _ ?_ ?_ ?_ ?_ ?_ h0, h1⟩ <;> intro e
  all_goals (first | rw [e, wn1] at h0 | rw [e, show Hs d2 = some (true, (.cells #[.int .i64 0, .int .i64 1, .int .i64 2, .int .i64 3, .int .i64 1, .int .i64 2, .int .i64 1, .int .i64 1, .int .i64 0, .int .i64 3, .int .i64 1, .int .i64 2] 66 (0, 0))) from vd2] at h0 | rw [e, show Hs d3 = some (true, (.cells #[.int .i64 0, .int .i64 1, .int .i64 2, .int .i64 3, .int .i64 1, .int .i64 2, .int .i64 1, .int .i64 1, .int .i64 0, .int .i64 3, .int .i64 1, .int .i64 2] 66 (0, 0))) from vd3] at h0 | rw [e, wn4] at h0 | rw [e, show Hs m5 = some (true, (.cells #[.int .i64 1, .int .i64 4, .bool true, .int .i64 3, .int .i64 3, .bool false] 46 (0, 0))) from vm5] at h0)
  all_goals (simp only [smO, Option.some.injEq, Prod.mk.injEq, Obj.cells.injEq] at h0; rw [<- h0.2.1] at h1; simp at h1)
 have hs1 : SmIn G0 (.slice (some ⟨d1, 0, none⟩) 3 3) (.slice (some ⟨i1, 0, none⟩) 2 2) (.slice (some ⟨m1, 0, none⟩) 2 2) noneS := ⟨flatC_D (ds := noneS.doors) (N := 3) (show G0 d1 = some (true, .cells (flatC noneS.doors Ckc) 66 (0, 0)) from k.keep _ _ (Aza vd1 wn1 (by decide)) qd12 qd13 (Aza vd1 wn4 (by decide)) (Aza vd1 vm5 (by decide)) vd1) (by decide), Cxq (xs := noneS.hampers) (k.keep _ _ (Aza vi1 wn1 (by decide)) (Aza vi1 vd2 (by decide)) (Aza vi1 vd3 (by decide)) (Aza vi1 wn4 (by decide)) (Aza vi1 vm5 (by decide)) vi1) rfl, flatC_N (ns := noneS.noses) (N := 2) (show G0 m1 = some (true, .cells (flatC noneS.noses Ck9) 46 (0, 0)) from k.keep _ _ (Aza vm1 wn1 (by decide)) (Aza vm1 vd2 (by decide)) (Aza vm1 vd3 (by decide)) (Aza vm1 wn4 (by decide)) qm15 vm1) (by decide)⟩
 have vn1 : G0 n1 = some (true, smO 0 (.slice (some ⟨d1, 0, none⟩) 3 3) (.slice (some ⟨i1, 0, none⟩) 2 2) (.slice (some ⟨m1, 0, none⟩) 2 2)) := k.a1
 have hs2 : SmIn G0 (.slice (some ⟨d2, 0, none⟩) 3 3) (.slice (some ⟨i2, 0, none⟩) 2 2) (.slice (some ⟨m2, 0, none⟩) 2 2) selfS := ⟨flatC_D (ds := selfS.doors) (N := 3) (show G0 d2 = some (true, .cells (flatC selfS.doors Ckc) 66 (0, 0)) from k.a2) (by decide), Cxq (xs := selfS.hampers) (k.keep _ _ (Aza vi2 wn1 (by decide)) (Aza vi2 vd2 (by decide)) (Aza vi2 vd3 (by decide)) (Aza vi2 wn4 (by decide)) (Aza vi2 vm5 (by decide)) vi2) rfl, flatC_N (ns := selfS.noses) (N := 2) (show G0 m2 = some (true, .cells (flatC selfS.noses Ck9) 46 (0, 0)) from k.keep _ _ (Aza vm2 wn1 (by decide)) (Aza vm2 vd2 (by decide)) (Aza vm2 vd3 (by decide)) (Aza vm2 wn4 (by decide)) qm25 vm2) (by decide)⟩
 have vn2 : G0 n2 = some (true, smO 4 (.slice (some ⟨d2, 0, none⟩) 3 3) (.slice (some ⟨i2, 0, none⟩) 2 2) (.slice (some ⟨m2, 0, none⟩) 2 2)) := k.keep _ _ qn21 (Aza wn2 vd2 (by decide)) (Aza wn2 vd3 (by decide)) qn24 (Aza wn2 vm5 (by decide)) wn2
 have hs3 : SmIn G0 (.slice (some ⟨d3, 0, none⟩) 3 3) (.slice (some ⟨i3, 0, none⟩) 2 2) (.slice (some ⟨m3, 0, none⟩) 2 2) slowS := ⟨flatC_D (ds := slowS.doors) (N := 3) (show G0 d3 = some (true, .cells (flatC slowS.doors Ckc) 66 (0, 0)) from k.a3) (by decide), Cxq (xs := slowS.hampers) (k.keep _ _ (Aza vi3 wn1 (by decide)) (Aza vi3 vd2 (by decide)) (Aza vi3 vd3 (by decide)) (Aza vi3 wn4 (by decide)) (Aza vi3 vm5 (by decide)) vi3) rfl, flatC_N (ns := slowS.noses) (N := 2) (show G0 m3 = some (true, .cells (flatC slowS.noses Ck9) 46 (0, 0)) from k.keep _ _ (Aza vm3 wn1 (by decide)) (Aza vm3 vd2 (by decide)) (Aza vm3 vd3 (by decide)) (Aza vm3 wn4 (by decide)) qm35 vm3) (by decide)⟩
 have vn3 : G0 n3 = some (true, smO 4 (.slice (some ⟨d3, 0, none⟩) 3 3) (.slice (some ⟨i3, 0, none⟩) 2 2) (.slice (some ⟨m3, 0, none⟩) 2 2)) := k.keep _ _ qn31 (Aza wn3 vd2 (by decide)) (Aza wn3 vd3 (by decide)) qn34 (Aza wn3 vm5 (by decide)) wn3
 have hs4 : SmIn G0 (.slice (some ⟨d4, 0, none⟩) 3 3) (.slice (some ⟨g, 0, none⟩) 2 2) (.slice (some ⟨m4, 0, none⟩) 2 2) twiceS := ⟨flatC_D (ds := twiceS.doors) (N := 3) (show G0 d4 = some (true, .cells (flatC twiceS.doors Ckc) 66 (0, 0)) from k.keep _ _ (Aza vd4 wn1 (by decide)) qd24.symm qd34.symm (Aza vd4 wn4 (by decide)) (Aza vd4 vm5 (by decide)) vd4) (by decide), Cxq (xs := twiceS.hampers) (vg) rfl, flatC_N (ns := twiceS.noses) (N := 2) (show G0 m4 = some (true, .cells (flatC twiceS.noses Ck9) 46 (0, 0)) from k.keep _ _ (Aza vm4 wn1 (by decide)) (Aza vm4 vd2 (by decide)) (Aza vm4 vd3 (by decide)) (Aza vm4 wn4 (by decide)) qm45 vm4) (by decide)⟩
 have vn4 : G0 n4 = some (true, smO 4 (.slice (some ⟨d4, 0, none⟩) 3 3) (.slice (some ⟨g, 0, none⟩) 2 2) (.slice (some ⟨m4, 0, none⟩) 2 2)) := k.a4
 have hs5 : SmIn G0 (.slice (some ⟨d5, 0, none⟩) 3 3) (.slice (some ⟨i5, 0, none⟩) 2 2) (.slice (some ⟨m5, 0, none⟩) 2 2) lateS := ⟨flatC_D (ds := lateS.doors) (N := 3) (show G0 d5 = some (true, .cells (flatC lateS.doors Ckc) 66 (0, 0)) from k.keep _ _ (Aza vd5 wn1 (by decide)) qd25.symm qd35.symm (Aza vd5 wn4 (by decide)) (Aza vd5 vm5 (by decide)) vd5) (by decide), Cxq (xs := lateS.hampers) (k.keep _ _ (Aza vi5 wn1 (by decide)) (Aza vi5 vd2 (by decide)) (Aza vi5 vd3 (by decide)) (Aza vi5 wn4 (by decide)) (Aza vi5 vm5 (by decide)) vi5) rfl, flatC_N (ns := lateS.noses) (N := 2) (show G0 m5 = some (true, .cells (flatC lateS.noses Ck9) 46 (0, 0)) from k.a5) (by decide)⟩
 have vn5 : G0 n5 = some (true, smO 4 (.slice (some ⟨d5, 0, none⟩) 3 3) (.slice (some ⟨i5, 0, none⟩) 2 2) (.slice (some ⟨m5, 0, none⟩) 2 2)) := k.keep _ _ qn51 (Aza wn5 vd2 (by decide)) (Aza wn5 vd3 (by decide)) qn54 (Aza wn5 vm5 (by decide)) wn5
 have hi6 : SlI G0 (.slice (some ⟨i6, 0, none⟩) 2 2) cutS.hampers := Cxq (xs := cutS.hampers) (k.keep _ _ (Aza vi6 wn1 (by decide)) (Aza vi6 vd2 (by decide)) (Aza vi6 vd3 (by decide)) (Aza vi6 wn4 (by decide)) (Aza vi6 vm5 (by decide)) vi6) rfl
 have hm6 : SlN G0 (.slice (some ⟨m6, 0, none⟩) 2 2) cutS.noses := flatC_N (ns := cutS.noses) (N := 2) (show G0 m6 = some (true, .cells (flatC cutS.noses Ck9) 46 (0, 0)) from k.keep _ _ (Aza vm6 wn1 (by decide)) (Aza vm6 vd2 (by decide)) (Aza vm6 vd3 (by decide)) (Aza vm6 wn4 (by decide)) qm56.symm vm6) (by decide)
 have vn6 : G0 n6 = some (true, smO 4 (.slice (some ⟨d6, 0, none⟩) 3 3) (.slice (some ⟨i6, 0, none⟩) 2 2) (.slice (some ⟨m6, 0, none⟩) 2 2)) := k.keep _ _ qn61 (Aza wn6 vd2 (by decide)) (Aza wn6 vd3 (by decide)) qn64 (Aza wn6 vm5 (by decide)) wn6
 clear k vg D he vd1 vd2 vd3 vd4 vd5 vd6 vi1 vi2 vi3 vi4 vi5 vi6 vm1 vm2 vm3 vm4 vm5 vm6 wn1 wn2 wn3 wn4 wn5 wn6
 (refine @unH _ (zA y6_188 ?_); (try clear hK K); intro K hK hc)
 refine (Ay2 _ G0 0 1 2 3).runs.mono ?_
 rintro _ A9 ⟨rfl, lA9⟩
 replace he0 := he0.le lA9
 replace hs1 := hs1.le lA9
 replace hs2 := hs2.le lA9
 replace hs3 := hs3.le lA9
 replace hs4 := hs4.le lA9
 replace hs5 := hs5.le lA9
 replace hi6 := hi6.le lA9
 replace hm6 := hm6.le lA9
 replace vn1 := lA9 _ _ vn1
 replace vn2 := lA9 _ _ vn2
 replace vn3 := lA9 _ _ vn3
 replace vn4 := lA9 _ _ vn4
 replace vn5 := lA9 _ _ vn5
 replace vn6 := lA9 _ _ vn6
 clear lA9
 (refine @unH _ (zU y6_188 ?_); intro _ _ hc)
 refine (Ay2 _ A9 0 3 1 2).runs.mono ?_
 rintro _ A10 ⟨rfl, lA10⟩
 replace he0 := he0.le lA10
 replace hs1 := hs1.le lA10
 replace hs2 := hs2.le lA10
 replace hs3 := hs3.le lA10
 replace hs4 := hs4.le lA10
 replace hs5 := hs5.le lA10
 replace hi6 := hi6.le lA10
 replace hm6 := hm6.le lA10
 replace vn1 := lA10 _ _ vn1
 replace vn2 := lA10 _ _ vn2
 replace vn3 := lA10 _ _ vn3
 replace vn4 := lA10 _ _ vn4
 replace vn5 := lA10 _ _ vn5
 replace vn6 := lA10 _ _ vn6
 clear lA10
 (refine @unH _ (zU (aN y6_188 @buildD2) ?_); intro _ _ hc)
 intro gd hgd
 generalize hG : Hp.set A10 gd _ = Gd
 have lGd := Aqc hG hgd
 have vgd := Aqb hG
 have nd6 := Aqq vn6 hgd
 clear hG hgd
 replace he0 := he0.le lGd
 replace hs1 := hs1.le lGd
 replace hs2 := hs2.le lGd
 replace hs3 := hs3.le lGd
 replace hs4 := hs4.le lGd
 replace hs5 := hs5.le lGd
 replace hi6 := hi6.le lGd
 replace hm6 := hm6.le lGd
 replace vn1 := lGd _ _ vn1
 replace vn2 := lGd _ _ vn2
 replace vn3 := lGd _ _ vn3
 replace vn4 := lGd _ _ vn4
 replace vn5 := lGd _ _ vn5
 replace vn6 := lGd _ _ vn6
 clear lGd
 (refine @unH _ (zV y6_188 ?_); (try clear hK K); intro K hK hc)
 generalize hG : Hp.set Gd n6 _ = Ge
 replace hs1 := hG ▸ hs1.put vn6 _
 replace vn1 := Aqf hG vn1 qn16
 replace hs2 := hG ▸ hs2.put vn6 _
 replace vn2 := Aqf hG vn2 qn26
 replace hs3 := hG ▸ hs3.put vn6 _
 replace vn3 := Aqf hG vn3 qn36
 replace hs4 := hG ▸ hs4.put vn6 _
 replace vn4 := Aqf hG vn4 qn46
 replace hs5 := hG ▸ hs5.put vn6 _
 replace vn5 := Aqf hG vn5 qn56
 replace he0 := hG ▸ he0.putS vn6 _
 have hd6 : SlD Gd (.slice (some ⟨gd, 0, none⟩) 2 2) cutS.doors := flatC_D (ds := cutS.doors) (N := 2) (show Gd gd = some (true, Obj.cells (flatC cutS.doors Ckc) 66 (0, 0)) from vgd) (by decide)
 have hq6 : SmIn Gd _ _ _ cutS := ⟨hd6, hi6, hm6⟩
 have hs6 := hG ▸ hq6.put vn6 _
 clear hq6 hd6 hi6 hm6
 replace vn6 := Aqb hG
 clear hG
 refine Bjl (fun e => e 1 = .pointer (some ⟨n1, 0, none⟩) /\ e 2 = .pointer (some ⟨n2, 0, none⟩) /\ e 3 = .pointer (some ⟨n3, 0, none⟩) /\ e 4 = .pointer (some ⟨n4, 0, none⟩) /\ e 5 = .pointer (some ⟨n5, 0, none⟩) /\ e 6 = .pointer (some ⟨n6, 0, none⟩)) ⟨f1, f2, f3, f4, f5, f6⟩ ?_
 clear f1 f2 f3 f4 f5 f6 e'
 rintro e ⟨e1, e2, e3, e4, e5, e6⟩
 exact kn2 Ge he0 e n1 _ _ _ e1 vn1 hs1 n2 _ _ _ e2 vn2 hs2 n3 _ _ _ e3 vn3 hs3 n4 _ _ _ e4 vn4 hs4 n5 _ _ _ e5 vn5 hs5 n6 _ _ _ e6 vn6 hs6
end Go.Proofs.YtnfnaehonkbknaaGreatDoor
end
