/- Texts SmK SmS1 SmS2 SmS. -/
import Derived.Test.YtnfnaehonkbknaaGreatDoorJ14
set_option linter.defProp false
set_option linter.unusedSimpArgs false
set_option linter.unusedVariables false
set_option maxRecDepth 100000
set_option maxHeartbeats 2000000
section
namespace Go.X
open Go
section
variable {P : Program} {ks : TypeId}
theorem Bkg {H : Hp} {t et : TypeId} (hu : P.underlying t = some (.array 6 et)) {d : IntKind} (he : P.underlying et = some (.int d)) (hs : ∀ w, (sizeOf et).run P w = .ok 1 w) (n : Nat) (x0 x1 x2 x3 x4 x5 y0 y1 y2 y3 y4 y5 : Int) (K : Bool -> Hp -> Prop) (E : Value -> Hp -> Prop) :
  wpS P (Op.equalIn (n + 1 + 1) t (.agg #[.int .i64 x0, .int .i64 x1, .int .i64 x2, .int .i64 x3, .int .i64 x4, .int .i64 x5]) (.agg #[.int .i64 y0, .int .i64 y1, .int .i64 y2, .int .i64 y3, .int .i64 y4, .int .i64 y5])) H K E = K (x0 == y0 && (x1 == y1 && (x2 == y2 && (x3 == y3 && (x4 == y4 && (x5 == y5)))))) H := by
 conv => lhs; unfold Op.equalIn
 simp only [Aqa, Aqj hu, Aq0 hs, Std.Legacy.Range.forIn_eq_forIn_range', Std.Legacy.Range.size]
 simp only [Nat.sub_zero, Nat.add_one_sub_one, Nat.div_one, List.range'_succ, List.range'_zero, List.forIn_cons, List.forIn_nil, Aqa, Aqe]
 simp only [Aqn he rfl (v := .int .i64 x0) #[.int .i64 x0, .int .i64 x1, .int .i64 x2, .int .i64 x3, .int .i64 x4, .int .i64 x5] (0 * 1) rfl, Aqn he rfl (v := .int .i64 x1) #[.int .i64 x0, .int .i64 x1, .int .i64 x2, .int .i64 x3, .int .i64 x4, .int .i64 x5] ((0 + 1) * 1) rfl, Aqn he rfl (v := .int .i64 x2) #[.int .i64 x0, .int .i64 x1, .int .i64 x2, .int .i64 x3, .int .i64 x4, .int .i64 x5] ((0 + 1 + 1) * 1) rfl, Aqn he rfl (v := .int .i64 x3) #[.int .i64 x0, .int .i64 x1, .int .i64 x2, .int .i64 x3, .int .i64 x4, .int .i64 x5] ((0 + 1 + 1 + 1) * 1) rfl, Aqn he rfl (v := .int .i64 x4) #[.int .i64 x0, .int .i64 x1, .int .i64 x2, .int .i64 x3, .int .i64 x4, .int .i64 x5] ((0 + 1 + 1 + 1 + 1) * 1) rfl, Aqn he rfl (v := .int .i64 x5) #[.int .i64 x0, .int .i64 x1, .int .i64 x2, .int .i64 x3, .int .i64 x4, .int .i64 x5] ((0 + 1 + 1 + 1 + 1 + 1) * 1) rfl, Aqn he rfl (v := .int .i64 y0) #[.int .i64 y0, .int .i64 y1, .int .i64 y2, .int .i64 y3, .int .i64 y4, .int .i64 y5] (0 * 1) rfl, Aqn he rfl (v := .int .i64 y1) #[.int .i64 y0, .int .i64 y1, .int .i64 y2, .int .i64 y3, .int .i64 y4, .int .i64 y5] ((0 + 1) * 1) rfl, Aqn he rfl (v := .int .i64 y2) #[.int .i64 y0, .int .i64 y1, .int .i64 y2, .int .i64 y3, .int .i64 y4, .int .i64 y5] ((0 + 1 + 1) * 1) rfl, Aqn he rfl (v := .int .i64 y3) #[.int .i64 y0, .int .i64 y1, .int .i64 y2, .int .i64 y3, .int .i64 y4, .int .i64 y5] ((0 + 1 + 1 + 1) * 1) rfl, Aqn he rfl (v := .int .i64 y4) #[.int .i64 y0, .int .i64 y1, .int .i64 y2, .int .i64 y3, .int .i64 y4, .int .i64 y5] ((0 + 1 + 1 + 1 + 1) * 1) rfl, Aqn he rfl (v := .int .i64 y5) #[.int .i64 y0, .int .i64 y1, .int .i64 y2, .int .i64 y3, .int .i64 y4, .int .i64 y5] ((0 + 1 + 1 + 1 + 1 + 1) * 1) rfl, Ajm he]
 generalize (x0 == y0) = q
 cases q
 ·simp only [Bool.not_false, if_true, Aqe, Bool.false_and]
 simp only [Bool.not_true, Bool.false_eq_true, if_false, Aqe, Aqa, Bool.true_and, Aqn he rfl (v := .int .i64 x0) #[.int .i64 x0, .int .i64 x1, .int .i64 x2, .int .i64 x3, .int .i64 x4, .int .i64 x5] (0 * 1) rfl, Aqn he rfl (v := .int .i64 x1) #[.int .i64 x0, .int .i64 x1, .int .i64 x2, .int .i64 x3, .int .i64 x4, .int .i64 x5] ((0 + 1) * 1) rfl, Aqn he rfl (v := .int .i64 x2) #[.int .i64 x0, .int .i64 x1, .int .i64 x2, .int .i64 x3, .int .i64 x4, .int .i64 x5] ((0 + 1 + 1) * 1) rfl, Aqn he rfl (v := .int .i64 x3) #[.int .i64 x0, .int .i64 x1, .int .i64 x2, .int .i64 x3, .int .i64 x4, .int .i64 x5] ((0 + 1 + 1 + 1) * 1) rfl, Aqn he rfl (v := .int .i64 x4) #[.int .i64 x0, .int .i64 x1, .int .i64 x2, .int .i64 x3, .int .i64 x4, .int .i64 x5] ((0 + 1 + 1 + 1 + 1) * 1) rfl, Aqn he rfl (v := .int .i64 x5) #[.int .i64 x0, .int .i64 x1, .int .i64 x2, .int .i64 x3, .int .i64 x4, .int .i64 x5] ((0 + 1 + 1 + 1 + 1 + 1) * 1) rfl, Aqn he rfl (v := .int .i64 y0) #[.int .i64 y0, .int .i64 y1, .int .i64 y2, .int .i64 y3, .int .i64 y4, .int .i64 y5] (0 * 1) rfl, Aqn he rfl (v := .int .i64 y1) #[.int .i64 y0, .int .i64 y1, .int .i64 y2, .int .i64 y3, .int .i64 y4, .int .i64 y5] ((0 + 1) * 1) rfl, Aqn he rfl (v := .int .i64 y2) #[.int .i64 y0, .int .i64 y1, .int .i64 y2, .int .i64 y3, .int .i64 y4, .int .i64 y5] ((0 + 1 + 1) * 1) rfl, Aqn he rfl (v := .int .i64 y3) #[.int .i64 y0, .int .i64 y1, .int .i64 y2, .int .i64 y3, .int .i64 y4, .int .i64 y5] ((0 + 1 + 1 + 1) * 1) rfl, Aqn he rfl (v := .int .i64 y4) #[.int .i64 y0, .int .i64 y1, .int .i64 y2, .int .i64 y3, .int .i64 y4, .int .i64 y5] ((0 + 1 + 1 + 1 + 1) * 1) rfl, Aqn he rfl (v := .int .i64 y5) #[.int .i64 y0, .int .i64 y1, .int .i64 y2, .int .i64 y3, .int .i64 y4, .int .i64 y5] ((0 + 1 + 1 + 1 + 1 + 1) * 1) rfl, Ajm he]
 generalize (x1 == y1) = q
 cases q
 ·simp only [Bool.not_false, if_true, Aqe, Bool.false_and]
 simp only [Bool.not_true, Bool.false_eq_true, if_false, Aqe, Aqa, Bool.true_and, Aqn he rfl (v := .int .i64 x0) #[.int .i64 x0, .int .i64 x1, .int .i64 x2, .int .i64 x3, .int .i64 x4, .int .i64 x5] (0 * 1) rfl, Aqn he rfl (v := .int .i64 x1) #[.int .i64 x0, .int .i64 x1, .int .i64 x2, .int .i64 x3, .int .i64 x4, .int .i64 x5] ((0 + 1) * 1) rfl, Aqn he rfl (v := .int .i64 x2) #[.int .i64 x0, .int .i64 x1, .int .i64 x2, .int .i64 x3, .int .i64 x4, .int .i64 x5] ((0 + 1 + 1) * 1) rfl, Aqn he rfl (v := .int .i64 x3) #[.int .i64 x0, .int .i64 x1, .int .i64 x2, .int .i64 x3, .int .i64 x4, .int .i64 x5] ((0 + 1 + 1 + 1) * 1) rfl, Aqn he rfl (v := .int .i64 x4) #[.int .i64 x0, .int .i64 x1, .int .i64 x2, .int .i64 x3, .int .i64 x4, .int .i64 x5] ((0 + 1 + 1 + 1 + 1) * 1) rfl, Aqn he rfl (v := .int .i64 x5) #[.int .i64 x0, .int .i64 x1, .int .i64 x2, .int .i64 x3, .int .i64 x4, .int .i64 x5] ((0 + 1 + 1 + 1 + 1 + 1) * 1) rfl, Aqn he rfl (v := .int .i64 y0) #[.int .i64 y0, .int .i64 y1, .int .i64 y2, .int .i64 y3, .int .i64 y4, .int .i64 y5] (0 * 1) rfl, Aqn he rfl (v := .int .i64 y1) #[.int .i64 y0, .int .i64 y1, .int .i64 y2, .int .i64 y3, .int .i64 y4, .int .i64 y5] ((0 + 1) * 1) rfl, Aqn he rfl (v := .int .i64 y2) #[.int .i64 y0, .int .i64 y1, .int .i64 y2, .int .i64 y3, .int .i64 y4, .int .i64 y5] ((0 + 1 + 1) * 1) rfl, Aqn he rfl (v := .int .i64 y3) #[.int .i64 y0, .int .i64 y1, .int .i64 y2, .int .i64 y3, .int .i64 y4, .int .i64 y5] ((0 + 1 + 1 + 1) * 1) rfl, Aqn he rfl (v := .int .i64 y4) #[.int .i64 y0, .int .i64 y1, .int .i64 y2, .int .i64 y3, .int .i64 y4, .int .i64 y5] ((0 + 1 + 1 + 1 + 1) * 1) rfl, Aqn he rfl (v := .int .i64 y5) #[.int .i64 y0, .int .i64 y1, .int .i64 y2, .int .i64 y3, .int .i64 y4, .int .i64 y5] ((0 + 1 + 1 + 1 + 1 + 1) * 1) rfl, Ajm he]
 generalize (x2 == y2) = q
 cases q
 ·simp only [Bool.not_false, if_true, Aqe, Bool.false_and]
 simp only [Bool.not_true, Bool.false_eq_true, if_false, Aqe, Aqa, Bool.true_and, Aqn he rfl (v := .int .i64 x0) #[.int .i64 x0, .int .i64 x1, .int .i64 x2, .int .i64 x3, .int .i64 x4, .int .i64 x5] (0 * 1) rfl, Aqn he rfl (v := .int .i64 x1) #[.int .i64 x0, .int .i64 x1, .int .i64 x2, .int .i64 x3, .int .i64 x4, .int .i64 x5] ((0 + 1) * 1) rfl, Aqn he rfl (v := .int .i64 x2) #[.int .i64 x0, .int .i64 x1, .int .i64 x2, .int .i64 x3, .int .i64 x4, .int .i64 x5] ((0 + 1 + 1) * 1) rfl, Aqn he rfl (v := .int .i64 x3) #[.int .i64 x0, .int .i64 x1, .int .i64 x2, .int .i64 x3, .int .i64 x4, .int .i64 x5] ((0 + 1 + 1 + 1) * 1) rfl, Aqn he rfl (v := .int .i64 x4) #[.int .i64 x0, .int .i64 x1, .int .i64 x2, .int .i64 x3, .int .i64 x4, .int .i64 x5] ((0 + 1 + 1 + 1 + 1) * 1) rfl, Aqn he rfl (v := .int .i64 x5) #[.int .i64 x0, .int .i64 x1, .int .i64 x2, .int .i64 x3, .int .i64 x4, .int .i64 x5] ((0 + 1 + 1 + 1 + 1 + 1) * 1) rfl, Aqn he rfl (v := .int .i64 y0) #[.int .i64 y0, .int .i64 y1, .int .i64 y2, .int .i64 y3, .int .i64 y4, .int .i64 y5] (0 * 1) rfl, Aqn he rfl (v := .int .i64 y1) #[.int .i64 y0, .int .i64 y1, .int .i64 y2, .int .i64 y3, .int .i64 y4, .int .i64 y5] ((0 + 1) * 1) rfl, Aqn he rfl (v := .int .i64 y2) #[.int .i64 y0, .int .i64 y1, .int .i64 y2, .int .i64 y3, .int .i64 y4, .int .i64 y5] ((0 + 1 + 1) * 1) rfl, Aqn he rfl (v := .int .i64 y3) #[.int .i64 y0, .int .i64 y1, .int .i64 y2, .int .i64 y3, .int .i64 y4, .int .i64 y5] ((0 + 1 + 1 + 1) * 1) rfl, Aqn he rfl (v := .int .i64 y4) #[.int .i64 y0, .int .i64 y1, .int .i64 y2, .int .i64 y3, .int .i64 y4, .int .i64 y5] ((0 + 1 + 1 + 1 + 1) * 1) rfl, Aqn he rfl (v := .int .i64 y5) #[.int .i64 y0, .int .i64 y1, .int .i64 y2, .int .i64 y3, .int .i64 y4, .int .i64 y5] ((0 + 1 + 1 + 1 + 1 + 1) * 1) rfl, Ajm he]
 generalize (x3 == y3) = q
 cases q
 ·simp only [Bool.not_false, if_true, Aqe, Bool.false_and]
 simp only [Bool.not_true, Bool.false_eq_true, if_false, Aqe, Aqa, Bool.true_and, Aqn he rfl (v := .int .i64 x0) #[.int .i64 x0, .int .i64 x1, .int .i64 x2, .int .i64 x3, .int .i64 x4, .int .i64 x5] (0 * 1) rfl, Aqn he rfl (v := .int .i64 x1) #[.int .i64 x0, .int .i64 x1, .int .i64 x2, .int .i64 x3, .int .i64 x4, .int .i64 x5] ((0 + 1) * 1) rfl, Aqn he rfl (v := .int .i64 x2) #[.int .i64 x0, .int .i64 x1, .int .i64 x2, .int .i64 x3, .int .i64 x4, .int .i64 x5] ((0 + 1 + 1) * 1) rfl, Aqn he rfl (v := .int .i64 x3) #[.int .i64 x0, .int .i64 x1, .int .i64 x2, .int .i64 x3, .int .i64 x4, .int .i64 x5] ((0 + 1 + 1 + 1) * 1) rfl, Aqn he rfl (v := .int .i64 x4) #[.int .i64 x0, .int .i64 x1, .int .i64 x2, .int .i64 x3, .int .i64 x4, .int .i64 x5] ((0 + 1 + 1 + 1 + 1) * 1) rfl, Aqn he rfl (v := .int .i64 x5) #[.int .i64 x0, .int .i64 x1, .int .i64 x2, .int .i64 x3, .int .i64 x4, .int .i64 x5] ((0 + 1 + 1 + 1 + 1 + 1) * 1) rfl, Aqn he rfl (v := .int .i64 y0) #[.int .i64 y0, .int .i64 y1, .int .i64 y2, .int .i64 y3, .int .i64 y4, .int .i64 y5] (0 * 1) rfl, Aqn he rfl (v := .int .i64 y1) #[.int .i64 y0, .int .i64 y1, .int .i64 y2, .int .i64 y3, .int .i64 y4, .int .i64 y5] ((0 + 1) * 1) rfl, Aqn he rfl (v := .int .i64 y2) #[.int .i64 y0, .int .i64 y1, .int .i64 y2, .int .i64 y3, .int .i64 y4, .int .i64 y5] ((0 + 1 + 1) * 1) rfl, Aqn he rfl (v := .int .i64 y3) #[.int .i64 y0, .int .i64 y1, .int .i64 y2, .int .i64 y3, .int .i64 y4, .int .i64 y5] ((0 + 1 + 1 + 1) * 1) rfl, Aqn he rfl (v := .int .i64 y4) #[.int .i64 y0, .int .i64 y1, .int .i64 y2, .int .i64 y3, .int .i64 y4, .int .i64 y5] ((0 + 1 + 1 + 1 + 1) * 1) rfl, Aqn he rfl (v := .int .i64 y5) #[.int .i64 y0, .int .i64 y1, .int .i64 y2, .int .i64 y3, .int .i64 y4, .int .i64 y5] ((0 + 1 + 1 + 1 + 1 + 1) * 1) rfl, Ajm he]
 generalize (x4 == y4) = q
 cases q
 ·simp only [Bool.not_false, if_true, Aqe, Bool.false_and]
 simp only [Bool.not_true, Bool.false_eq_true, if_false, Aqe, Aqa, Bool.true_and, Aqn he rfl (v := .int .i64 x0) #[.int .i64 x0, .int .i64 x1, .int .i64 x2, .int .i64 x3, .int .i64 x4, .int .i64 x5] (0 * 1) rfl, Aqn he rfl (v := .int .i64 x1) #[.int .i64 x0, .int .i64 x1, .int .i64 x2, .int .i64 x3, .int .i64 x4, .int .i64 x5] ((0 + 1) * 1) rfl, Aqn he rfl (v := .int .i64 x2) #[.int .i64 x0, .int .i64 x1, .int .i64 x2, .int .i64 x3, .int .i64 x4, .int .i64 x5] ((0 + 1 + 1) * 1) rfl, Aqn he rfl (v := .int .i64 x3) #[.int .i64 x0, .int .i64 x1, .int .i64 x2, .int .i64 x3, .int .i64 x4, .int .i64 x5] ((0 + 1 + 1 + 1) * 1) rfl, Aqn he rfl (v := .int .i64 x4) #[.int .i64 x0, .int .i64 x1, .int .i64 x2, .int .i64 x3, .int .i64 x4, .int .i64 x5] ((0 + 1 + 1 + 1 + 1) * 1) rfl, Aqn he rfl (v := .int .i64 x5) #[.int .i64 x0, .int .i64 x1, .int .i64 x2, .int .i64 x3, .int .i64 x4, .int .i64 x5] ((0 + 1 + 1 + 1 + 1 + 1) * 1) rfl, Aqn he rfl (v := .int .i64 y0) #[.int .i64 y0, .int .i64 y1, .int .i64 y2, .int .i64 y3, .int .i64 y4, .int .i64 y5] (0 * 1) rfl, Aqn he rfl (v := .int .i64 y1) #[.int .i64 y0, .int .i64 y1, .int .i64 y2, .int .i64 y3, .int .i64 y4, .int .i64 y5] ((0 + 1) * 1) rfl, Aqn he rfl (v := .int .i64 y2) #[.int .i64 y0, .int .i64 y1, .int .i64 y2, .int .i64 y3, .int .i64 y4, .int .i64 y5] ((0 + 1 + 1) * 1) rfl, Aqn he rfl (v := .int .i64 y3) #[.int .i64 y0, .int .i64 y1, .int .i64 y2, .int .i64 y3, .int .i64 y4, .int .i64 y5] ((0 + 1 + 1 + 1) * 1) rfl, Aqn he rfl (v := .int .i64 y4) #[.int .i64 y0, .int .i64 y1, .int .i64 y2, .int .i64 y3, .int .i64 y4, .int .i64 y5] ((0 + 1 + 1 + 1 + 1) * 1) rfl, Aqn he rfl (v := .int .i64 y5) #[.int .i64 y0, .int .i64 y1, .int .i64 y2, .int .i64 y3, .int .i64 y4, .int .i64 y5] ((0 + 1 + 1 + 1 + 1 + 1) * 1) rfl, Ajm he]
 generalize (x5 == y5) = q
 cases q
 ·simp only [Bool.not_false, if_true, Aqe, Bool.false_and]
 ·simp only [Bool.not_true, Bool.false_eq_true, if_false, Aqe, Aqa, Bool.true_and]
theorem Cjx {H : Hp} {t et : TypeId} (hu : P.underlying t = some (.array 6 et)) {d : IntKind} (he : P.underlying et = some (.int d)) (hs : ∀ w, (sizeOf et).run P w = .ok 1 w) (em : Bool) (n : Nat) (x0 x1 x2 x3 x4 x5 : Int) (K : Unit -> Hp -> Prop) (E : Value -> Hp -> Prop) :
  wpS P (Instr.checkKey em (n + 1 + 1) t (.agg #[.int .i64 x0, .int .i64 x1, .int .i64 x2, .int .i64 x3, .int .i64 x4, .int .i64 x5])) H K E = K () H := by
 conv => lhs; unfold Instr.checkKey
 simp only [Aqa, Aqj hu, Aq0 hs, Std.Legacy.Range.forIn_eq_forIn_range', Std.Legacy.Range.size]
 simp only [Nat.sub_zero, Nat.add_one_sub_one, Nat.div_one, List.range'_succ, List.range'_zero, List.forIn_cons, List.forIn_nil, Aqa, Aqe, Aq0 hs, Aqn he rfl (v := .int .i64 x0) #[.int .i64 x0, .int .i64 x1, .int .i64 x2, .int .i64 x3, .int .i64 x4, .int .i64 x5] (0 * 1) rfl, Aqn he rfl (v := .int .i64 x1) #[.int .i64 x0, .int .i64 x1, .int .i64 x2, .int .i64 x3, .int .i64 x4, .int .i64 x5] ((0 + 1) * 1) rfl, Aqn he rfl (v := .int .i64 x2) #[.int .i64 x0, .int .i64 x1, .int .i64 x2, .int .i64 x3, .int .i64 x4, .int .i64 x5] ((0 + 1 + 1) * 1) rfl, Aqn he rfl (v := .int .i64 x3) #[.int .i64 x0, .int .i64 x1, .int .i64 x2, .int .i64 x3, .int .i64 x4, .int .i64 x5] ((0 + 1 + 1 + 1) * 1) rfl, Aqn he rfl (v := .int .i64 x4) #[.int .i64 x0, .int .i64 x1, .int .i64 x2, .int .i64 x3, .int .i64 x4, .int .i64 x5] ((0 + 1 + 1 + 1 + 1) * 1) rfl, Aqn he rfl (v := .int .i64 x5) #[.int .i64 x0, .int .i64 x1, .int .i64 x2, .int .i64 x3, .int .i64 x4, .int .i64 x5] ((0 + 1 + 1 + 1 + 1 + 1) * 1) rfl, Bxs he]
theorem Bjf (l : List Int) (h : l.length = 6) : ∃ x0 x1 x2 x3 x4 x5, l = [x0, x1, x2, x3, x4, x5] := by
 match l, h with
 | [x0, x1, x2, x3, x4, x5], _ => exact ⟨x0, x1, x2, x3, x4, x5, rfl⟩
def arrV (l : List Int) : Value := .agg (l.map fun x => Value.int .i64 x).toArray
theorem Bwv {H : Hp} {t et : TypeId} (hu : P.underlying t = some (.array 6 et)) {d : IntKind} (he : P.underlying et = some (.int d)) (hs : ∀ w, (sizeOf et).run P w = .ok 1 w) (l l' : List Int) (hl : l.length = 6) (hl' : l'.length = 6) (K : Value -> Hp -> Prop) (E : Value -> Hp -> Prop) :
  wpS P (binOp .neq t (arrV l) (arrV l')) H K E = K (.bool (decide (l ≠ l'))) H := by
 obtain ⟨x0, x1, x2, x3, x4, x5, rfl⟩ := Bjf l hl
 obtain ⟨y0, y1, y2, y3, y4, y5, rfl⟩ := Bjf l' hl'
 have hd : decide ([x0, x1, x2, x3, x4, x5] ≠ [y0, y1, y2, y3, y4, y5]) = !(x0 == y0 && (x1 == y1 && (x2 == y2 && (x3 == y3 && (x4 == y4 && (x5 == y5)))))) := by
  rw [Bool.eq_iff_iff]
  simp
 rw [hd]
 unfold arrV
 simp only [List.map_cons, List.map_nil, binOp]
 rw [Aqa]
 unfold Op.equal Op.maxDepth
 rw [show (10000 : Nat) = 9998 + 1 + 1 from rfl, Bkg hu he hs]
 rfl
structure Dw1 (P : Program) (ks : TypeId) : Prop where
 ex : ∃ (f1 f2 : Field) (et : TypeId), P.underlying ks = some (.struct #[f1, f2]) /\ f1.name ≠ "_" /\ f2.name ≠ "_" /\ f1.offset = 0 /\ f2.offset = 1 /\ P.underlying f2.type = some (.array 6 et) /\ (∀ w, (sizeOf f2.type).run P w = .ok 6 w) /\
  (∃ d, P.underlying et = some (.int d)) /\ (∀ w, (sizeOf et).run P w = .ok 1 w) /\ (∃ d, P.underlying f1.type = some (.int d))
 held : P.stoodInHeld ks = false
def K7 : Type := { l : List Int // l.length = 7 }
instance : DecidableEq K7 := fun a b => decidable_of_iff (a.1 = b.1) ⟨Subtype.ext, fun h => congrArg _ h⟩
def K7.enc (k : K7) : Value := .agg (k.1.map fun x => Value.int .i64 x).toArray
theorem K7.cells (k : K7) : ∃ a x0 x1 x2 x3 x4 x5, k.1 = [a, x0, x1, x2, x3, x4, x5] := by
 obtain ⟨l, hl⟩ := k
 match l, hl with
 | [a, x0, x1, x2, x3, x4, x5], _ => exact ⟨a, x0, x1, x2, x3, x4, x5, rfl⟩
theorem Dw9 (h : Dw1 P ks) : KeyT P ks K7.enc where
 eq := fun x y H K E => by
  obtain ⟨f1, f2, et, hu, hn1, hn2, ho1, ho2, h1, hs1, ⟨de, he⟩, hse, ⟨d2, h2⟩⟩ := h.ex
  have hh := h.held
  obtain ⟨a, x0, x1, x2, x3, x4, x5, hx⟩ := x.cells
  obtain ⟨b, y0, y1, y2, y3, y4, y5, hy⟩ := y.cells
  have hdec : decide (x = y) = (a == b && (x0 == y0 && (x1 == y1 && (x2 == y2 && (x3 == y3 && (x4 == y4 && (x5 == y5))))))) := by
   rw [Bool.eq_iff_iff]
   simp only [decide_eq_true_eq, Bool.and_eq_true, beq_iff_eq]
   constructor
   ·rintro rfl
    rw [hx] at hy
    simp at hy
    obtain ⟨rfl, rfl, rfl, rfl, rfl, rfl, rfl⟩ := hy
    simp
   ·rintro ⟨rfl, rfl, rfl, rfl, rfl, rfl, rfl⟩
    exact Subtype.ext (hx.trans hy.symm)
  rw [hdec]
  unfold K7.enc
  rw [hx, hy]
  simp only [List.map_cons, List.map_nil]
  unfold Op.equal Op.maxDepth
  rw [show (10000 : Nat) = 9997 + 1 + 1 + 1 from rfl]
  conv => lhs; unfold Op.equalIn
  simp only [Aqa, Aqj hu, Ajy, hh, Bool.false_eq_true, if_false, Aqe, List.forIn_toArray, List.forIn_cons, List.forIn_nil, hn1, hn2, ne_eq, not_false_eq_true, if_true]
  rw [Aqn h2 rfl (v := .int .i64 a) _ _ (by simp [ho1]), Aqn h2 rfl (v := .int .i64 b) _ _ (by simp [ho1]), show (9999 : Nat) = 9998 + 1 from rfl, Ajm h2]
  cases a == b
  ·simp only [Bool.not_false, if_true, Aqe, Bool.false_and]
  ·simp only [Bool.not_true, Bool.false_eq_true, if_false, Aqe, Bool.true_and, Aqa]
   rw [Bzg h1 rfl hs1, Bzg h1 rfl hs1, ho2]
   simp only [List.extract_toArray, List.extract_eq_take_drop, List.drop_zero, List.drop_succ_cons, List.take_succ_cons, List.take_zero, Nat.reduceAdd, Nat.reduceSub, Nat.sub_zero]
   rw [show (9999 : Nat) = 9997 + 1 + 1 from rfl, Bkg h1 he hse]
   generalize (x0 == y0 && (x1 == y1 && (x2 == y2 && (x3 == y3 && (x4 == y4 && (x5 == y5)))))) = q
   cases q
   ·simp only [Bool.not_false, if_true, Aqe]
   ·simp only [Bool.not_true, Bool.false_eq_true, if_false, Aqe]
 ck := fun em x H K E => by
  obtain ⟨f1, f2, et, hu, hn1, hn2, ho1, ho2, h1, hs1, ⟨de, he⟩, hse, ⟨d2, h2⟩⟩ := h.ex
  obtain ⟨a, x0, x1, x2, x3, x4, x5, hx⟩ := x.cells
  unfold K7.enc
  rw [hx]
  simp only [List.map_cons, List.map_nil]
  rw [show (10000 : Nat) = 9997 + 1 + 1 + 1 from rfl]
  conv => lhs; unfold Instr.checkKey
  rw [Aqa, Aqj hu]
  simp only [Aqa, Aqe, List.forIn_toArray, List.forIn_cons, List.forIn_nil, hn1, hn2, ne_eq, not_false_eq_true, if_true]
  rw [Aqn h2 rfl (v := .int .i64 a) _ _ (by simp [ho1]), show (9999 : Nat) = 9998 + 1 from rfl, Bxs h2, Bzg h1 rfl hs1, ho2]
  simp only [List.extract_toArray, List.extract_eq_take_drop, List.drop_zero, List.drop_succ_cons, List.take_succ_cons, List.take_zero, Nat.reduceAdd, Nat.reduceSub, Nat.sub_zero]
  rw [show (9999 : Nat) = 9997 + 1 + 1 from rfl, Cjx h1 he hse]
 un := by
  obtain ⟨f1, f2, et, hu, _⟩ := h.ex
  exact ⟨_, hu, fun a b => rfl⟩
 bits := fun x => by
  obtain ⟨a, x0, x1, x2, x3, x4, x5, hx⟩ := x.cells
  unfold K7.enc
  rw [hx, show (10000 : Nat) = 9998 + 1 + 1 from rfl]
  simp [Instr.sameBits]
end
end Go.X
end
section
namespace Go.X
open Go
section
variable {P : Program} {κ : Type} [DecidableEq κ] {enc : κ -> Value} {ks : TypeId}
theorem Bzx (h : KeyT P ks enc) {ok : κ -> Prop} {F : κ -> Value} {clock : Nat} (a : κ) :
  ∀ (es : List MapEntry) (i : Nat), MapG enc ok F clock es -> ∃ r : Option (Nat × Value), (∀ j v, r = some (j, v) -> i <= j /\ v = F a /\ ∃ e, es[j - i]? = some e /\ e.key = enc a) /\
   ∀ (H : Hp) (K : Option (Nat × Value) -> Hp -> Prop) (E : Value -> Hp -> Prop), K r H -> wpS P (Instr.findAsking ks (enc a) es i) H K E
 | [], i, _ => ⟨none, fun j v h => (by cases h), fun H K E hk => hk⟩
 | e :: es, i, hm => by
  obtain ⟨c, _, hke, hve, _⟩ := hm e List.mem_cons_self
  unfold Instr.findAsking
  by_cases hq : a = c
  ·subst hq
   refine ⟨some (i, e.val), fun j v hj => ?_, fun H K E hK => ?_⟩
   ·cases hj
    exact ⟨Nat.le_refl _, hve, e, by simp, hke⟩
   ·rw [Aqa, hke, h.eq]
    simp only [decide_true, if_true, Aqe]
    exact hK
  ·obtain ⟨r, hr, hk⟩ := Bzx h a es (i + 1) (fun e he => hm e (List.mem_cons_of_mem _ he))
   refine ⟨r, fun j v hj => ?_, fun H K E hK => ?_⟩
   ·obtain ⟨h1, h2, e', h3, h4⟩ := hr j v hj
    refine ⟨by omega, h2, e', ?_, h4⟩
    rw [show j - i = (j - (i + 1)) + 1 by omega, List.getElem?_cons_succ]
    exact h3
   ·rw [Aqa, hke, h.eq]
    simp only [hq, decide_false, Bool.false_eq_true, if_false]
    exact hk H K E hK
theorem Dk0 {mt vt : TypeId} {z : Value} (hu : P.underlying mt = some (.map ks vt)) (h : KeyT P ks enc) (hz : ∀ w, (zeroValue vt).run P w = .ok z w) {ok : κ -> Prop} {F : κ -> Value} (a : κ)
  {es : Array MapEntry} {clock : Nat} (hm : MapG enc ok F clock es.toList) : ∃ v met, (met = true -> v = F a) /\ (met = false -> v = z) /\ ∀ (mb : Nat) (p : Bool) (H : Hp), H mb = some (p, .map es clock) -> ∀ (K : Value -> Hp -> Prop) (E : Value -> Hp -> Prop),
   K (.tuple #[v, .bool met]) H -> wpS P (Instr.lookup mt (.map (some mb)) (enc a) true) H K E := by
 obtain ⟨d, hud, hd⟩ := h.un
 obtain ⟨r, hr, hk'⟩ := Bzx h a es.toList 0 hm
 have hk2 : ∀ (H : Hp) (K : Option (Nat × Value) -> Hp -> Prop) (E : Value -> Hp -> Prop), K r H -> wpS P (Instr.findKey ks (enc a) es.toList) H K E := fun H K E hK => by
  cases hes : es.toList with
  | nil =>
   rw [hes] at hr hk'
   have hr0 : r = none := by
    cases r with
    | none => rfl
    | some q =>
     obtain ⟨j, v⟩ := q
     obtain ⟨_, _, e, he, _⟩ := hr j v rfl
     simp at he
   subst hr0
   unfold Instr.findKey
   rw [Aqa, Aqj hud]
   exact hK
  | cons e es' =>
   have hmem : e ∈ es.toList := by rw [hes]; exact List.mem_cons_self
   obtain ⟨c, _, hke, hve, _⟩ := hm e hmem
   unfold Instr.findKey
   rw [Aqa, Aqj hud]
   simp only [Instr.findNow, hke, hd]
   rw [<- hes]
   exact hk' H K E hK
 have step : ∀ (mb : Nat) (p : Bool) (H : Hp), H mb = some (p, .map es clock) -> ∀ (K : Value -> Hp -> Prop) (E : Value -> Hp -> Prop), (match r with | some (_, v) => K (.tuple #[v, .bool true]) H | none => K (.tuple #[z, .bool false]) H) -> wpS P (Instr.lookup mt (.map (some mb)) (enc a) true) H K E := fun mb p H hb K E hK => by
  unfold Instr.lookup
  simp only [Aqa, Aqj hu]
  refine ⟨p, _, hb, rfl, rfl, ?_⟩
  simp only [Ak0, Aqe, Aqa, h.ck]
  refine hk2 H _ _ ?_
  cases r with
  | none =>
   simp only [Aqa, Axg hz, Aqe, if_true]
   exact hK
  | some q =>
   obtain ⟨j, v⟩ := q
   simp only [Aqe, if_true]
   exact hK
 cases r with
 | none => exact ⟨z, false, by simp, fun _ => rfl, fun mb p H hb K E hK => step mb p H hb K E hK⟩
 | some q =>
  obtain ⟨j, v⟩ := q
  exact ⟨v, true, fun _ => (hr j v rfl).2.1, by simp, fun mb p H hb K E hK => step mb p H hb K E hK⟩
end
theorem Azj {H : Hp} {b b' : Nat} {p p' : Bool} {c c' : Array Value} {t t' : TypeId} {f f' : Nat × Nat} (h : H b = some (p, .cells c t f)) (h' : H b' = some (p', .cells c' t' f')) (hn : t ≠ t') : b ≠ b' := fun e => by
 rw [e, h'] at h
 simp only [Option.some.injEq, Prod.mk.injEq, Obj.cells.injEq] at h
 exact hn h.2.2.1.symm
theorem Czq {P : Program} {H : Hp} {t : TypeId} (h : P.eqGuardType P.depth t = false) (op : BinOp) (x y : Operand) (p q : Array Value) (K : Unit -> Hp -> Prop) (E : Value -> Hp -> Prop) : wpS P (eqGuard op t x y (.agg p) (.agg q)) H K E = K () H := by
 unfold eqGuard
 cases op <;> first | rfl | (simp only [Aqa, Ajy, h, Bool.not_false, if_true]; first | rfl | (simp [Aqa, Ajy, h, Aqe]; done))
end Go.X
namespace Go.Proofs.YtnfnaehonkbknaaGreatDoor
open Go Go.X Go.Proofs.Tryz
def Bxv (q : Option (Bool × Obj)) (H : Hp) (b : Nat) (c : List Int) (K : Hp -> Prop) : Prop := match q with
 | some (true, .cells d e f) => if f = (0, 0) /\ d.size = c.length /\ c.length ≠ 0 then K (H.set b (.cells (ints c).toArray e (0, 0))) else Akw H b 0 (ints c) K
 | _ => Akw H b 0 (ints c) K
theorem Avz {H : Hp} {b : Nat} {c : List Int} {K : Hp -> Prop} : Akw H b 0 (ints c) K = Bxv (H b) H b c K := by
 rcases hb : H b with _ | ⟨p, ob⟩
 ·rfl
 ·cases p
  ·rfl
  ·cases ob <;> try rfl
   rename_i d e f
   simp only [Bxv]
   split
   ·rename_i hf
    obtain ⟨rfl, h1, h2⟩ := hf
    rw [Akl (c := d) (e := e) (by intro h; rw [<- Aqz c, h] at h2; exact h2 rfl) hb]
    have ho : over d 0 (ints c) = (ints c).toArray := by
     obtain ⟨l⟩ := d
     exact Bqp (by simp at h1; rw [Aqz]; omega)
    rw [ho]
    have h3 : (ints c).all one = true := by rw [List.all_eq_true]; exact Bzd c
    rw [h3, Aqz, <- h1]
    simp
   ·rfl
theorem Bjk {H : Hp} {d : Array Value} {e : TypeId} {b : Nat} {c : List Int} {K : Hp -> Prop} : Bxv (some (true, .cells d e (0, 0))) H b c K = if d.size = c.length /\ c.length ≠ 0 then K (H.set b (.cells (ints c).toArray e (0, 0))) else Akw H b 0 (ints c) K := by
 simp [Bxv]
theorem Akj {H : Hp} {v0 v1 v2 v3 v4 v5 : Value} {e : TypeId} {b : Nat} {c : List Int} {K : Hp -> Prop} (h : c.length = 6) : Bxv (some (true, .cells #[v0, v1, v2, v3, v4, v5] e (0, 0))) H b c K = K (H.set b (.cells (ints c).toArray e (0, 0))) := by
 rw [Bjk, if_pos (by rw [h]; exact ⟨rfl, by decide⟩)]
theorem Akk {H : Hp} {c' : List Int} {e : TypeId} {b : Nat} {c : List Int} {K : Hp -> Prop} (h : c.length = 6) (h' : c'.length = 6) : Bxv (some (true, .cells (ints c').toArray e (0, 0))) H b c K = K (H.set b (.cells (ints c).toArray e (0, 0))) := by
 rw [Bjk, if_pos (by rw [List.size_toArray, Aqz, h, h']; exact ⟨rfl, by decide⟩)]
@[congr] theorem storIK_congr {q q' : Option (Bool × Obj)} {H H' : Hp} {b b' : Nat} {c c' : List Int} {K : Hp -> Prop} (hq : q = q') (hH : H = H') (hb : b = b') (hc : c = c') : Bxv q H b c K = Bxv q' H' b' c' K := by subst hq hH hb hc; rfl
theorem Ajn {c : List Int} (h : c.length = 6) : (ints c).toArray.extract 0 6 = (ints c).toArray := by
 rw [List.extract_toArray, List.extract_eq_take_drop, List.drop_zero, List.take_of_length_le (by rw [Aqz]; omega)]
theorem Awi {c : List Int} (h : c.length = 6) {p : Int} (h0 : 0 <= p) (h1 : p < 6) : (ints c)[p.toNat]? = some (.int .i64 (gI c p)) := Akg (Awg h0 (by omega))
theorem K7.key : KeyT Tryz.prog 120 K7.enc := Dw9 ⟨⟨_, _, _, underlying120, by decide, by decide, rfl, rfl, underlying91, sizeOf91, ⟨_, underlying3⟩, sizeOf3, ⟨_, underlying3⟩⟩, by kernel_rfl⟩
def wayK (p : Int) (ts : List Int) (h : ts.length = 6) : K7 := ⟨p :: ts, by simp [h]⟩
def Cyo (ds : List Dr) (k : K7) : Value := .agg (ints (Aq4 ds (k.1.headD 0) (k.1.drop 1))).toArray
def Ajf (ds : List Dr) (mb : Nat) (H : Hp) : Prop := ∃ es clock, H mb = some (true, .map es clock) /\ MapG K7.enc (fun _ => True) (Cyo ds) clock es.toList
theorem Ajf.le {ds : List Dr} {mb : Nat} {H H' : Hp} (h : Ajf ds mb H) (hl : H.le H') : Ajf ds mb H' := by
 obtain ⟨es, clock, h1, h2⟩ := h
 exact ⟨es, clock, hl _ _ h1, h2⟩
abbrev hsO (pl : Int) (dv hv nv : Value) (mb : Nat) : Obj := .cells #[.int .i64 pl, dv, hv, nv, .map (some mb)] 147 (0, 0)
theorem Bjb : ∀ (ds : List Dr) (ts c : List Int) (k : Nat) (d : Dr) (t : Int), ds[k]? = some d -> ts[k]? = some t -> Ajh (ds.take (k + 1)) ts c = Akv (Ajh (ds.take k) ts c) d t
 | d' :: ds, t' :: ts, c, 0, d, t, h1, h2 => by
  simp at h1 h2
  subst h1 h2
  simp [Ajh]
 | d' :: ds, t' :: ts, c, k + 1, d, t, h1, h2 => by
  simp only [List.take_succ_cons, Ajh]
  exact Bjb ds ts _ k d t (by simpa using h1) (by simpa using h2)
 | [], _, _, _, _, _, h1, _ => by simp at h1
 | _ :: _, [], _, _, _, _, _, h2 => by simp at h2
theorem Czg : ∀ {ds : List Dr} {ts : List Int} {k : Nat} {a b n : Int}, Edg (ds.take k) ts a b n -> Edg ds ts a b n
 | [], ts, k, a, b, n, h => by cases k <;> simp [Edg] at h
 | d :: ds, ts, 0, a, b, n, h => by simp [Edg] at h
 | d :: ds, [], k + 1, a, b, n, h => by simp [Edg] at h
 | d :: ds, t :: ts, k + 1, a, b, n, h => by
  rcases h with h | h
  ·exact .inl h
  ·exact .inr (Czg h)
theorem Akc.le99 {E : Int -> Int -> Int -> Prop} {pl p : Int} {c : List Int} (h : Akc E pl p c) {q : Int} (h0 : 0 <= q) (h1 : q < 6) : 0 <= gI c q /\ gI c q <= 99 := by
 have := h.pos q h0 h1
 rcases h.att q h0 h1 with h2 | h2 <;> omega
theorem Bkj : (Tryz.prog).eqGuardType (Tryz.prog).depth 117 = false := by kernel_rfl
theorem Cz7 {H : Hp} (l l' : List Int) (hl : l.length = 6) (hl' : l'.length = 6) (K : Value -> Hp -> Prop) (E : Value -> Hp -> Prop) : wpS Tryz.prog (binOp .neq 117 (.agg (ints l).toArray) (.agg (ints l').toArray)) H K E = K (.bool (decide (l ≠ l'))) H :=
 Bwv underlying117 underlying3 sizeOf3 l l' hl hl' K E
end Go.Proofs.YtnfnaehonkbknaaGreatDoor
end
section
namespace Go.X
open Go
def sdC : Code -> Code
 | .seq _ y => y
 | c => c
def scC : Code -> Code
 | .scope c => c
 | c => c
theorem Dwk {c : Code} {I : Nat -> Act -> Hp -> Prop} {Q : Exit -> Act -> Hp -> Prop} {l : Nat} {a : Act} {H : Hp} (h : (findLabel c l).isSome = true) : scp c I Q (.goto l) a H = I l a H := by
 simp [scp, h]
theorem Byq {c : Code} {I I' : Nat -> Act -> Hp -> Prop} {Q Q' : Exit -> Act -> Hp -> Prop} (hI : ∀ l a H, I l a H -> I' l a H) (hQ : ∀ e a H, Q e a H -> Q' e a H) : ∀ {e : Exit} {a : Act} {H : Hp}, scp c I Q e a H -> scp c I' Q' e a H
 | .normal, _, _, h => hQ _ _ _ h
 | .exit _, _, _, h => hQ _ _ _ h
 | .ret, _, _, h => hQ _ _ _ h
 | .panic _, _, _, h => hQ _ _ _ h
 | .outgrown, _, _, h => h
 | .goto l, a, H, h => by
  simp only [scp] at h ⊢
  split
  ·rename_i hs
   rw [if_pos hs] at h
   exact hI _ _ _ h
  ·rename_i hs
   rw [if_neg hs] at h
   exact hQ _ _ _ h
end Go.X
namespace Go.Proofs.YtnfnaehonkbknaaGreatDoor
open Go Go.X Go.Proofs.Tryz
def Az0 := aN @Exo (aN @Dy5 (aN @Equ (aN @Eq2 (aN @Exa (aN @Eq1 (aN @Dyr (aN @Ex2 (aN @Dy0 (aN @Eqy (aN @Dy4 (aN @Dy7 (aN @Eqw (aN @Dyw (aN @Exi (aN @Eq7 (aN @Exx (aN @Exf (aN @Eqh (aN @Eqi (aN @Dy1 (aN @Dyu (aN @Aza @Cvw))))))))))))))))))))))
theorem Dwz {p q : Prop} (g : q) (h : Hid q -> p := by
 intro g
 repeat' (first
 | (refine Axz rfl ?_; intro Kz hKz; simp -implicitDefEqProofs (disch := first | omega | (simp only [qd] <;> omega)) only [xq, ↓xp, qc, Nat.reduceAdd, List.range, List.range.loop, fine, Nat.reduceEqDiff, ↓reduceIte, yielded, reduceCtorEq, Nat.reduceLT, Nat.reduceMul, Nat.reduceSub, one, Nat.reduceLeDiff, Aqg, Az0, aq, ↓ap, qe0, qe1, qe2, *, -g, -hKz, Czq Bkj]; try (refine hKz _ _ ?_; clear hKz Kz))
 | (refine Azx rfl ?_; intro Kz hKz; simp -implicitDefEqProofs (disch := first | omega | (simp only [qd] <;> omega)) only [xq, ↓xp, qc, Nat.reduceAdd, List.range, List.range.loop, fine, Nat.reduceEqDiff, ↓reduceIte, yielded, reduceCtorEq, Nat.reduceLT, Nat.reduceMul, Nat.reduceSub, one, Nat.reduceLeDiff, Aqg, Az0, aq, ↓ap, qe0, qe1, qe2, *, -g, -hKz, Czq Bkj]; try (refine hKz _ _ ?_; clear hKz Kz; (try simp only [nq, ↓reduceIte, Nat.reduceEqDiff])))
 | (refine Aze ?_; (try simp only [nq, ↓reduceIte, Nat.reduceEqDiff]))
 | (refine Azh ?_; (try simp only [nq, ↓reduceIte, Nat.reduceEqDiff]))
 | (refine Az6 ?_; (try simp only [nq, ↓reduceIte, Nat.reduceEqDiff]))
 | (refine Ajc ?_; (try simp only [nq, ↓reduceIte, Nat.reduceEqDiff]))
 | (refine Azw (by simp only [Aq6, Axh, Nat.reduceEqDiff, Nat.reduceLT, ↓reduceIte, *, -g]; rfl) ?_ ?_ <;> (intro hcz; first | (exfalso; simp -implicitDefEqProofs (disch := omega) only [*, -g, bq, reduceCtorEq] at hcz; done) | (simp only [dq, qe3, qe4, qe5, qe6] at hcz) | skip))
 | (refine Azy ?_)
 | (refine Ax7 ?_)
 | (refine Axp ?_))
 refine unT ?_; (try (revert hcz; refine unC ?_)); (repeat (revert hcz; refine unD ?_)); first | revert Kz | refine unU ?_
 exact Hid.out g) : Hid p := ⟨h ⟨g⟩⟩
structure SpH (H0 : Hp) (hb wb rb nb mb : Nat) (pl : Int) (da : Option Addr) (dc : Nat) (hv nv : Value) (p : Int) (ts : List Int) (ds : List Dr) : Prop where
 vh : ∃ q, H0 hb = some (q, hsO pl (.slice da ds.length dc) hv nv mb)
 vw : H0 wb = some (true, .cells ((.int .i64 p) :: ints ts).toArray 120 (0, 0))
 vr : H0 rb = some (true, .cells #[.int .i64 0, .int .i64 0, .int .i64 0, .int .i64 0, .int .i64 0, .int .i64 0] 117 (0, 0))
 kn : Ajf ds mb H0
 dd : SlD H0 (.slice da ds.length dc) ds
 vn0 : ∃ c0, H0 nb = some (true, .cells c0 117 (0, 0))
 nh : hb ≠ nb
 nw : wb ≠ nb
 nr : rb ≠ nb
 nm : mb ≠ nb
def SpI (H0 : Hp) (hb wb rb nb mb : Nat) (pl : Int) (p : Int) (ts : List Int) (ds : List Dr) (l n : Nat) (a : Act) (H' : Hp) : Prop :=
 ∃ e c, a = act 92 e [] /\ e 0 = .pointer (some ⟨hb, 0, none⟩) /\ e 3 = .pointer (some ⟨wb, 0, none⟩) /\ e 4 = .pointer (some ⟨rb, 0, none⟩) /\ e 7 = .pointer (some ⟨nb, 0, none⟩) /\
  H' nb = some (true, .cells (ints c).toArray 117 (0, 0)) /\ Lex (some nb) H0 H' /\ Avy ds ts n c = Aq4 ds p ts /\ Akc (Edg ds ts) pl p c /\ sum6 c < n
theorem Bjh (main : Md) (H0 : Hp) (hb wb rb nb mb : Nat) (pl : Int) (da : Option Addr) (dc : Nat) (hv nv : Value) (p : Int) (ts : List Int) (ds : List Dr) (hH : SpH H0 hb wb rb nb mb pl da dc hv nv p ts ds)
  (hp : pl <= 6) (h0 : 0 <= p) (h1 : p < pl) (hd : Av8 pl ds) (hl6 : ds.length <= 6) (hts : ts.length = 6) (ht : TsOk ds ts) (R : Ending -> Hp -> Prop)
  (hR : Aqk (∀ H', (∀ b x, b ≠ mb -> b ≠ nb -> b ≠ rb -> H0 b = some x -> H' b = some x) -> Ajf ds mb H' -> R (.returned (.agg (ints (Aq4 ds p ts)).toArray)) H'))
  (n : Nat) (a : Act) (H' : Hp) (hI : SpI H0 hb wb rb nb mb pl p ts ds 0 n a H') :
  wpX Tryz.prog main none (sdC (sdC (sdC (sdC (sdC (scC (sdC ((Tryz.f68).body.getD .skip)))))))) (scp (scC (sdC ((Tryz.f68).body.getD .skip))) (fun l a H => ∃ n', n' < n /\ SpI H0 hb wb rb nb mb pl p ts ds l n' a H) (Bwy Tryz.prog main Tryz.f68 R)) a H' := by
 obtain ⟨e, c, rfl, e0, e3, e4, e7, vn, lx, hs, ok, hsum⟩ := hI
 show wpX _ _ _ (.seq _ _) _ _ _
 have hcl := ok.len
 have hil : (ints c).length = 6 := by rw [Aqz]; exact hcl
 have hex := Ajn hcl
 have htk : (ints c).take 6 = ints c := List.take_of_length_le (by omega)
 obtain ⟨q0, vh0⟩ := hH.vh
 have vh := lx.keeps vh0 hH.nh
 simp only [hsO] at vh
 (refine @unH _ (zA Az0 ?_); (try clear hK K); intro K hK hc)
 intro xb hxb
 have nxn := Aqq vn hxb
 have h0x := lx.gone hxb
 have nxh := Aqq vh hxb
 (refine @unH _ (zU (aN Az0 (aN @Avz (aN @Akj @Akk))) ?_); (try clear hK K); intro K hK hc)
 generalize hG : Hp.set H' xb _ = H2
 have vx := Aqb hG
 have vn2 := Aqi hG vn nxn
 have lx2 := lx.le (Aqc hG hxb)
 have nxw := Aqq (lx.keeps hH.vw hH.nw) hxb
 have nxr := Aqq (lx.keeps hH.vr hH.nr) hxb
 obtain ⟨es, clock, vm0, hmap⟩ := hH.kn
 have nxm := Aqq (lx.keeps vm0 hH.nm) hxb
 have vh2 := Aqi hG vh nxh
 have vw2 := Aqi hG (lx.keeps hH.vw hH.nw) nxw
 have vr2 := Aqi hG (lx.keeps hH.vr hH.nr) nxr
 have vm2 := Aqi hG (lx.keeps vm0 hH.nm) nxm
 obtain ⟨c0, vn0⟩ := hH.vn0
 have dd2 : SlD H2 (.slice da ds.length dc) ds := SlD.move hH.dd (fun x p c fr hx => by
  have h1 := lx.keeps hx (fun e => by rw [e, vn0] at hx; cases hx)
  exact ⟨p, Aqi hG h1 (Aqq h1 hxb)⟩)
 clear hG vm0 vn0 c0
 refine Axc (fun w a' H' => ∃ e c', ∃ k : Nat, w = ds.length - k /\ k <= ds.length /\ a' = act 92 e [] /\ e 0 = .pointer (some ⟨hb, 0, none⟩) /\ e 3 = .pointer (some ⟨wb, 0, none⟩) /\ e 4 = .pointer (some ⟨rb, 0, none⟩) /\ e 7 = .pointer (some ⟨nb, 0, none⟩) /\ e 9 = .pointer (some ⟨xb, 0, none⟩) /\
  e 37 = .slice da ds.length dc /\ e 38 = .int .i64 ds.length /\ e 39 = .int .i64 (k : Nat) /\ H' xb = some (true, .cells (ints c').toArray 117 (0, 0)) /\ Lex (some xb) H2 H' /\ c' = Ajh (ds.take k) ts c) (n := ds.length) ?_ ?_
 ·exact ⟨_, c, 0, by omega, by omega, rfl, e0, e3, e4, e7, rfl, rfl, rfl, rfl, vx, Lex.refl, by simp [Ajh]⟩
 ·clear vh vn lx e0 e3 e4 e7 hxb hex htk
  rintro w a' H3 ⟨e, c', k, rfl, hk, rfl, e0, e3, e4, e7, e9, e37, e38, e39, vx3, lxx, hc'⟩
  by_cases hlt : k < ds.length
  ·obtain ⟨b, o, p', cd, fr, rfl, hb, hcs, hce⟩ := dd2.get (List.getElem?_eq_getElem hlt)
   have hdk := hd _ (List.getElem_mem hlt)
   have hsn := Bjb ds ts c k _ _ (List.getElem?_eq_getElem hlt) (List.getElem?_eq_getElem (show k < ts.length by omega))
   have htk : (Value.int .i64 p :: ints ts)[1 + k]? = some (.int .i64 (ts[k]'(by omega))) := by rw [Nat.add_comm, List.getElem?_cons_succ]; exact Akg (List.getElem?_eq_getElem _)
   have ok' : Akc (Edg ds ts) pl p c' := by
    rw [hc']
    exact (Akc.all hp h0 (by omega) (fun _ _ _ h => h.symm) (fun _ _ _ h => (ht _ _ _ h).1) (ds.take k) ts (fun x hx => hd x (List.mem_of_mem_take hx)) (fun _ _ _ h => Czg h) ok).1
   obtain ⟨t1, t4⟩ := ht _ _ _ (Edg.of (List.getElem?_eq_getElem hlt) (List.getElem?_eq_getElem (show k < ts.length by omega)))
   generalize ds[k] = d at *
   generalize ts[k]'(by omega) = tk at *
   obtain ⟨a0, a1, b0, b1, dne, m0, m1, m2⟩ := hdk
   have hcl' : c'.length = 6 := by rw [hc', Aw9]; exact hcl
   obtain ⟨qa0, qa9⟩ := ok'.le99 a0 (by omega)
   obtain ⟨qb0, qb9⟩ := ok'.le99 b0 (by omega)
   clear ok'
   have hga := Awi hcl' a0 (by omega)
   have hgb := Awi hcl' b0 (by omega)
   have hb3 := lxx.keeps hb (fun e => by rw [e, vx] at hb; cases hb)
   have vw3 := lxx.keeps vw2 nxw
   rw [<- hc'] at hsn
   replace hsn : Aqk _ := hsn
   replace hc' : Aqk _ := hc'
   replace hcl' : Aqk _ := hcl'
   clear hb vx vm2 vr2 vh2 vn2 hmap lx2
   (refine @unH _ (zA Az0 ?_); (try clear hK K); intro K hK hc)
   intro ab hab
   have nxa := Aqq vx3 hab
   have nwa := Aqq vw3 hab
   (refine @unH _ (zU Az0 ?_); (try clear hK K); intro K hK hc)
   generalize hG : Hp.set H3 ab _ = H4
   have va := Aqb hG
   have vx4 := Aqi hG vx3 nxa
   have vw4 := Aqi hG vw3 nwa
   have lx4 := lxx.le (Aqc hG hab)
   clear hG vx3 vw3 lxx hb3
   refine Axn (fun HX => H4.le HX) [18] (.take 0 (.take 1 (.take 2 (.take 3 (.take 4 (.take 5 (.take 6 (.take 7 (.take 8 (.take 9 (.take 10 (.take 11 (.take 12 (.take 13 (.take 14 (.one 15 (.one 16 (.take 17 (.one 18 .nil))))))))))))))))))) (by kernel_rfl) (by kernel_rfl) (by decide) (by kernel_rfl) ?_; intro K hK
   have hle4 : H4.le H4 := Hp.le_refl _
   (iterate 15 (apply Axe rfl rfl rfl ‹_›; (focus (intro HX hHX; simp -implicitDefEqProofs (disch := first | omega | (simp only [qd] <;> omega)) only [xq, ↓xp, qc, Nat.reduceAdd, List.range, List.range.loop, fine, Nat.reduceEqDiff, ↓reduceIte, yielded, reduceCtorEq, Nat.reduceLT, Nat.reduceMul, Nat.reduceSub, one, Nat.reduceLeDiff, Aqg, Az0, aq, ↓ap, qe0, qe1, qe2, *, -hK, Axa, hHX _ _ va, hHX _ _ vx4, hHX _ _ vw4] <;> (first | exact rfl | exact ⟨rfl, rfl⟩ | exact ⟨rfl, trivial⟩))); simp -implicitDefEqProofs (disch := first | omega | (simp only [qd] <;> omega)) only [Aq3, Aqm]))
   refine Aqv ?_
   (refine @unH _ ?_; refine zX Az0 ?_)
   (intro g2 hg2; generalize hG : Hp.set _ g2 _ = H5; have lH5 := Aqc hG hg2; have vg2 := Aqb hG; clear hG)
   have vx5 := lH5 _ _ vx4
   have lx5 := lx4.le lH5
   refine ⟨.inr (fun _ => by first | exact lH5 | trivial), Aqv ?_⟩
   (refine @unH _ ?_; refine zX Az0 ?_)
   refine (Bz5 main H5 _ _ g2 true _ vg2).runs.mono ?_
   rintro _ _ ⟨rfl, hQ⟩
   rw [hQ]
   clear hQ
   (refine @unH _ ?_; refine zX Az0 ?_)
   refine ⟨.inr (fun _ => by first | exact lH5 | trivial), ?_⟩
   (apply Axe rfl rfl rfl ‹_›; (focus (intro HX hHX; simp -implicitDefEqProofs (disch := first | omega | (simp only [qd] <;> omega)) only [xq, ↓xp, qc, Nat.reduceAdd, List.range, List.range.loop, fine, Nat.reduceEqDiff, ↓reduceIte, yielded, reduceCtorEq, Nat.reduceLT, Nat.reduceMul, Nat.reduceSub, one, Nat.reduceLeDiff, Aqg, Az0, aq, ↓ap, qe0, qe1, qe2, *, -hK, Axa, hHX _ _ va, hHX _ _ vx4, hHX _ _ vw4] <;> (first | exact rfl | exact ⟨rfl, rfl⟩ | exact ⟨rfl, trivial⟩))); simp -implicitDefEqProofs (disch := first | omega | (simp only [qd] <;> omega)) only [Aq3, Aqm])
   refine Aqv ?_
   (refine @unH _ ?_; refine zX (aN Az0 @Azr) ?_)
   refine ⟨by rw [Aqz, show c'.length = 6 from hcl']; omega, .inl (by decide), Axr (hK _ _ ?_)⟩
   clear hK K hle4
   (try refine @unH _ (zQ ?_))
   have va5 := lH5 _ _ va
   have vw5 := lH5 _ _ vw4
   have nax : ab ≠ xb := Ne.symm nxa
   have nwx : wb ≠ xb := nxw
   clear va vw4 vx4 lx4 lH5 hg2 vg2
   generalize hC : c'.set d.a.toNat (min (gI c' d.a) (gI c' d.b + tk)) = c2 at *
   generalize hG : Hp.set H5 xb _ = H6
   have va := Aqi hG va5 nax
   have vw4 := Aqi hG vw5 nwx
   have vx4 := Aqb hG
   have lx4 : Lex (some xb) H2 H6 := by rw [<- hG]; exact lx5.set
   have hga2 : gI c2 d.a = min (gI c' d.a) (gI c' d.b + tk) := by rw [<- hC, Awh a0 (by rw [show c'.length = 6 from hcl']; omega) a0, if_pos rfl]
   have hgb2 : gI c2 d.b = gI c' d.b := by rw [<- hC, Awh a0 (by rw [show c'.length = 6 from hcl']; omega) b0, if_neg dne]
   have hcl2 : Aqk (c2.length = 6) := show c2.length = 6 by rw [<- hC, List.length_set]; exact hcl'
   have hga' := Awi (show c2.length = 6 from hcl2) a0 (by omega)
   have hgb' := Awi (show c2.length = 6 from hcl2) b0 (by omega)
   have qa2 : 0 <= gI c2 d.a /\ gI c2 d.a <= 99 := by omega
   obtain ⟨qa20, qa29⟩ := qa2
   have hfin : Aqk (Akv c' d tk = c2.set d.b.toNat (min (gI c2 d.b) (gI c2 d.a + tk))) := show Akv c' d tk = _ by unfold Akv; rw [hC]
   replace hga2 : Aqk _ := hga2
   replace hgb2 : Aqk _ := hgb2
   clear hG hC va5 vw5 lx5 vx5 hga hgb
   refine Axn (fun HX => H6.le HX) [18] (.take 0 (.take 1 (.take 2 (.take 3 (.take 4 (.take 5 (.take 6 (.take 7 (.take 8 (.take 9 (.take 10 (.take 11 (.take 12 (.take 13 (.take 14 (.one 15 (.one 16 (.take 17 (.one 18 .nil))))))))))))))))))) (by kernel_rfl) (by kernel_rfl) (by decide) (by kernel_rfl) ?_; intro K hK
   have hle4 : H6.le H6 := Hp.le_refl _
   (iterate 15 (apply Axe rfl rfl rfl ‹_›; (focus (intro HX hHX; simp -implicitDefEqProofs (disch := first | omega | (simp only [qd] <;> omega)) only [xq, ↓xp, qc, Nat.reduceAdd, List.range, List.range.loop, fine, Nat.reduceEqDiff, ↓reduceIte, yielded, reduceCtorEq, Nat.reduceLT, Nat.reduceMul, Nat.reduceSub, one, Nat.reduceLeDiff, Aqg, Az0, aq, ↓ap, qe0, qe1, qe2, *, -hK, Axa, hHX _ _ va, hHX _ _ vx4, hHX _ _ vw4] <;> (first | exact rfl | exact ⟨rfl, rfl⟩ | exact ⟨rfl, trivial⟩))); simp -implicitDefEqProofs (disch := first | omega | (simp only [qd] <;> omega)) only [Aq3, Aqm]))
   refine Aqv ?_
   (refine @unH _ ?_; refine zX Az0 ?_)
   (intro g2 hg2; generalize hG : Hp.set _ g2 _ = H7; have lH7 := Aqc hG hg2; have vg2 := Aqb hG; clear hG)
   have vx5 := lH7 _ _ vx4
   have lx5 := lx4.le lH7
   refine ⟨.inr (fun _ => by first | exact lH7 | trivial), Aqv ?_⟩
   (refine @unH _ ?_; refine zX Az0 ?_)
   refine (Bz5 main H7 _ _ g2 true _ vg2).runs.mono ?_
   rintro _ _ ⟨rfl, hQ⟩
   rw [hQ]
   clear hQ
   (refine @unH _ ?_; refine zX Az0 ?_)
   refine ⟨.inr (fun _ => by first | exact lH7 | trivial), ?_⟩
   (apply Axe rfl rfl rfl ‹_›; (focus (intro HX hHX; simp -implicitDefEqProofs (disch := first | omega | (simp only [qd] <;> omega)) only [xq, ↓xp, qc, Nat.reduceAdd, List.range, List.range.loop, fine, Nat.reduceEqDiff, ↓reduceIte, yielded, reduceCtorEq, Nat.reduceLT, Nat.reduceMul, Nat.reduceSub, one, Nat.reduceLeDiff, Aqg, Az0, aq, ↓ap, qe0, qe1, qe2, *, -hK, Axa, hHX _ _ va, hHX _ _ vx4, hHX _ _ vw4] <;> (first | exact rfl | exact ⟨rfl, rfl⟩ | exact ⟨rfl, trivial⟩))); simp -implicitDefEqProofs (disch := first | omega | (simp only [qd] <;> omega)) only [Aq3, Aqm])
   refine Aqv ?_
   (refine @unH _ ?_; refine zX (aN Az0 @Azr) ?_)
   refine ⟨by rw [Aqz, show c2.length = 6 from hcl2]; omega, .inl (by decide), Axr (hK _ _ ?_)⟩
   clear hK K hle4
   (try refine @unH _ (zQ ?_))
   generalize hC : c2.set d.b.toNat (min (gI c2 d.b) (gI c2 d.a + tk)) = c3 at *
   generalize hG : Hp.set H7 xb _ = H8
   have vx8 := Aqb hG
   have lx8 : Lex (some xb) H2 H8 := by rw [<- hG]; exact lx5.set
   clear hG hC
   (refine @unH _ (zA Az0 ?_); (try clear hK K); intro K hK hc)
   exact ⟨_, by omega, _, c3, k + 1, rfl, by omega, rfl, e0, e3, e4, e7, e9, e37, e38, rfl, vx8, lx8, (show Akv c' d tk = c3 from hfin).symm.trans (show Ajh (ds.take (k + 1)) ts c = _ from hsn).symm⟩
  ·obtain rfl : k = ds.length := by omega
   rw [List.take_length] at hc'
   have hcl' : c'.length = 6 := by rw [hc', Aw9]; exact hcl
   have hil' : (ints c').length = 6 := by rw [Aqz]; exact hcl'
   have hex' := Ajn hcl'
   have hex := Ajn hcl
   obtain ⟨ok', hle'⟩ : Akc (Edg ds ts) pl p c' /\ _ := by
    rw [hc']
    exact Akc.all hp h0 (by omega) (fun _ _ _ h => h.symm) (fun _ _ _ h => (ht _ _ _ h).1) ds ts hd (fun _ _ _ h => h) ok
   have vn3 := lxx.keeps vn2 nxn
   replace hc' : Aqk _ := hc'
   obtain ⟨m, rfl⟩ : ∃ m, n = m + 1 := ⟨n - 1, by
    have := ok.pos 0 (by omega) (by omega)
    have := ok.pos 1 (by omega) (by omega)
    have := ok.pos 2 (by omega) (by omega)
    have := ok.pos 3 (by omega) (by omega)
    have := ok.pos 4 (by omega) (by omega)
    have := ok.pos 5 (by omega) (by omega)
    unfold sum6 at hsum
    omega⟩
   rw [Avy, <- show c' = Ajh ds ts c from hc'] at hs
   have vm3 := lxx.keeps vm2 nxm
   have lx3 : Lex (some nb) H0 H3 := fun x v hx => by
    obtain ⟨v', h1, h2⟩ := lx2 x v hx
    exact ⟨v', lxx.keeps h1 (fun e => by rw [e, h0x] at hx; cases hx), h2⟩
   have vh3 := lxx.keeps vh2 nxh
   have vw3 := lxx.keeps vw2 nxw
   have vr3 := lxx.keeps vr2 nxr
   by_cases heq : c' = c
   ·have hne : ∀ (K : Value -> Hp -> Prop) (E : Value -> Hp -> Prop), wpS Tryz.prog (binOp .neq 117 (.agg (ints c').toArray) (.agg (ints c).toArray)) H3 K E = K (.bool false) H3 := fun K E => by
     rw [Cz7 c' c hcl' hcl, heq]; simp
    rw [if_pos heq] at hs
    replace heq : Aqk _ := heq
    replace hs : Aqk _ := hs
    (refine @unH _ (Dwz ?_); (try clear hK K); intro K hK hc)
    clear hne vx3 hex' hil' hcl' ok' hle' vn2 vw2 vr2 vm2 vh2 e9 e37 e38 e39
    have hw7 : (Value.int .i64 p :: ints ts).toArray.extract 0 7 = (Value.int .i64 p :: ints ts).toArray := by
     rw [List.extract_toArray, List.extract_eq_take_drop, List.drop_zero, List.take_of_length_le (by simp [Aqz, hts])]
    have hw6 : (Value.int .i64 p :: ints ts).length = 7 := by simp [Aqz, hts]
    (refine Akm 6 [(true, 0), (true, 1), (true, 2), (true, 3), (true, 4), (true, 5), (false, 6)] (by kernel_rfl) (by kernel_rfl) (by simp) (by kernel_rfl) ?_; intro K hK; (iterate 6 (refine @unH _ ?_; refine z3 Az0 ?_)); refine Bja ?_; (refine @unH _ ?_; refine zX Az0 ?_); try (refine hK _ _ ?_; clear hK K; (try refine @unH _ (zQ ?_))))
    obtain rfl : c = Aq4 ds p ts := hs
    refine Dva (P := Tryz.prog) underlying145 K7.key (F := Cyo ds) (wayK p ts hts) trivial vm3 hmap _ _ (fun es' clock' hm' => ?_)
    have nnm : nb ≠ mb := Ne.symm hH.nm
    have nrm : rb ≠ mb := fun e => by rw [e, vm3] at vr3; cases vr3
    have nrn := hH.nr
    (refine @unH _ (zU (aN Az0 (aN @Avz (aN @Akj @Akk))) ?_); (try clear hK K); intro K hK hc)
    (refine Axs ?_; (try simp only [nq, ↓reduceIte, Nat.reduceEqDiff]); rw [Aq8, Ax3 results68 (by decide) (b := rb) (o := 0) ?hcell underlying117 rfl sizeOf117]; (case hcell => exact e4); simp -implicitDefEqProofs (disch := first | omega | (simp only [qd] <;> omega)) only [xq, ↓xp, qc, Nat.reduceAdd, List.range, List.range.loop, fine, Nat.reduceEqDiff, ↓reduceIte, yielded, reduceCtorEq, Nat.reduceLT, Nat.reduceMul, Nat.reduceSub, one, Nat.reduceLeDiff, Aqg, Az0, hil, hex, Axm])
    refine (show ∀ H', (∀ b x, b ≠ mb -> b ≠ nb -> b ≠ rb -> H0 b = some x -> H' b = some x) -> Ajf ds mb H' -> R (.returned (.agg (ints (Aq4 ds p ts)).toArray)) H' from hR) _ (fun b x h1 h2 h3 hx => ?_) ⟨es', clock', ?_, hm'⟩
    ·rw [Aqu h3, Aqu h1]
     exact lx3.keeps hx h2
    ·rw [Aqu (Ne.symm nrm), Axf]
   ·have hne : ∀ (K : Value -> Hp -> Prop) (E : Value -> Hp -> Prop), wpS Tryz.prog (binOp .neq 117 (.agg (ints c').toArray) (.agg (ints c).toArray)) H3 K E = K (.bool true) H3 := fun K E => by
     rw [Cz7 c' c hcl' hcl]; simp [heq]
    rw [if_neg heq] at hs
    have hlt' := Cyt hcl hcl' (by rw [show c' = _ from hc']; exact hle') heq
    replace heq : Aqk _ := heq
    replace hs : Aqk _ := hs
    (refine @unH _ (Dwz ?_); (try clear hK K); intro K hK hc)
    (refine @unH _ (zU (aN Az0 (aN @Avz (aN @Akj @Akk))) ?_); (try clear hK K); intro K hK hc)
    rw [Dwk (by rfl)]
    refine ⟨m, by omega, _, c', rfl, e0, e3, e4, e7, Axf, ?_, hs, ok', by omega⟩
    exact lx3.set
end Go.Proofs.YtnfnaehonkbknaaGreatDoor
end
section
namespace Go.Proofs.YtnfnaehonkbknaaGreatDoor
open Go Go.X Go.Proofs.Tryz
def Azl := aN @Exo (aN @Dy5 (aN @Equ (aN @Eq2 (aN @Exa (aN @Eq1 (aN @Dyr (aN @Ex2 (aN @Dy0 (aN @Eqy (aN @Dy4 (aN @Dy7 (aN @Eqw (aN @Dyw (aN @Exi (aN @Eq7 (aN @Exx (aN @Exf (aN @Eqh (aN @Eqi (aN @Dy1 (aN @Dyu (aN @Aza @Cvw))))))))))))))))))))))
theorem Bji (main : Md) (H : Hp) (hb mb : Nat) (q : Bool) (pl : Int) (da : Option Addr) (dc : Nat) (hv nv : Value) (p : Int) (ts : List Int) (ds : List Dr) (vh : H hb = some (q, hsO pl (.slice da ds.length dc) hv nv mb)) (kn : Ajf ds mb H) (dd : SlD H (.slice da ds.length dc) ds)
  (hp : pl <= 6) (h0 : 0 <= p) (h1 : p < pl) (hd : Av8 pl ds) (hl6 : ds.length <= 6) (hts : ts.length = 6) (ht : TsOk ds ts) :
  FnX Tryz.prog main 68 #[.pointer (some ⟨hb, 0, none⟩), .agg (.int .i64 p :: ints ts).toArray] H fun e H' => e = .returned (.agg (ints (Aq4 ds p ts)).toArray) /\ (∀ b x, b ≠ mb -> H b = some x -> H' b = some x) /\ Ajf ds mb H' := by
 have hw6 : (Value.int .i64 p :: ints ts).length = 7 := by simp [Aqz, hts]
 have hw7 : (Value.int .i64 p :: ints ts).toArray.extract 0 7 = (Value.int .i64 p :: ints ts).toArray := by
  rw [List.extract_toArray, List.extract_eq_take_drop, List.drop_zero, List.take_of_length_le (by omega)]
 refine Aql func68 rfl ntmps68 (by simp) ?_
 (refine @unH _ (zS Azl ?_); (try clear hK K); intro K hK hc)
 (intro wb hwb rb hrb; replace hrb : (Hp.set _ wb _) rb = none := hrb; generalize hG : Hp.set _ wb _ = H1 at hrb ⊢; have lH1 := Aqc hG hwb; have wwb := Aqb hG; clear hG; generalize hG : Hp.set _ rb _ = H2; have lH2 := Aqc hG hrb; have vrb := Aqb hG; have vwb := lH2 _ _ wwb; have nwbrb := Aqq wwb hrb; clear hG wwb)
 have l2 := Hp.le_trans lH1 lH2
 have h0wb := hwb
 have h0rb := Hp.le_none lH1 hrb
 have nrw := nwbrb
 have vh2 := l2 _ _ vh
 have vw2 := vwb
 have vr2 := vrb
 have kn2 := kn.le l2
 have dd2 := dd.le l2
 obtain ⟨es, clock, vm2, hmap⟩ := id kn2
 simp only [hsO] at vh2
 clear hwb hrb lH1 lH2 vwb vrb vh kn
 (refine @unH _ (zV Azl ?_); (try clear hK K); intro K hK hc)
 refine By6 (fun l w a' H' => ∃ nb H0, H2.le H0 /\ H2 nb = none /\ SpH H0 hb wb rb nb mb pl da dc hv nv p ts ds /\ SpI H0 hb wb rb nb mb pl p ts ds l w a' H') ?_ ?_
 ·obtain ⟨v, met, hmet, hunmet, hlk⟩ := Dk0 (P := Tryz.prog) underlying145 K7.key zeroValue117 (wayK p ts hts) hmap
  (refine @unH _ (zS Azl ?_); (try clear hK K); intro K hK hc)
  cases met with
  | true =>
   obtain rfl : v = .agg (ints (Aq4 ds p ts)).toArray := hmet rfl
   have hcl := Avx ds p ts
   have hil : (ints (Aq4 ds p ts)).length = 6 := by rw [Aqz]; exact hcl
   have hex := Ajn hcl
   generalize hC : Aq4 ds p ts = c at *
   replace hC : Aqk _ := hC
   clear hmet hunmet
   refine Axp ?_
   refine Bjv (fun HX => H2.le HX) [10] (.take 0 (.take 1 (.take 2 (.take 3 (.take 4 (.take 5 (.take 6 (.take 7 (.free 8 (.one 9 (.one 10 (.free 11 .nil)))))))))))) (by kernel_rfl) (by kernel_rfl) (by decide) (by kernel_rfl) ?_; intro K hK
   have hle2 : H2.le H2 := Hp.le_refl _
   (iterate 5 (apply Axe rfl rfl rfl ‹_›; (focus (intro HX hHX; simp -implicitDefEqProofs (disch := first | omega | (simp only [qd] <;> omega)) only [xq, ↓xp, qc, Nat.reduceAdd, List.range, List.range.loop, fine, Nat.reduceEqDiff, ↓reduceIte, yielded, reduceCtorEq, Nat.reduceLT, Nat.reduceMul, Nat.reduceSub, one, Nat.reduceLeDiff, Aqg, Azl, aq, ↓ap, qe0, qe1, qe2, *, -hK, Axa, hHX _ _ vh2, hHX _ _ vw2, hw7, hw6] <;> (first | exact rfl | exact ⟨rfl, rfl⟩ | exact ⟨rfl, trivial⟩))); simp -implicitDefEqProofs (disch := first | omega | (simp only [qd] <;> omega)) only [Aq3, Aqm]))
   (apply Axe rfl rfl rfl ‹_›; (focus (intro HX hHX; (refine @unH _ ?_; refine zX (aN Azl @Axa) ?_); refine hlk mb true HX (hHX _ _ vm2) _ _ ?_; exact ⟨rfl, rfl⟩)); simp -implicitDefEqProofs (disch := first | omega | (simp only [qd] <;> omega)) only [Aq3, Aqm])
   (iterate 2 (apply Axe rfl rfl rfl ‹_›; (focus (intro HX hHX; simp -implicitDefEqProofs (disch := first | omega | (simp only [qd] <;> omega)) only [xq, ↓xp, qc, Nat.reduceAdd, List.range, List.range.loop, fine, Nat.reduceEqDiff, ↓reduceIte, yielded, reduceCtorEq, Nat.reduceLT, Nat.reduceMul, Nat.reduceSub, one, Nat.reduceLeDiff, Aqg, Azl, aq, ↓ap, qe0, qe1, qe2, *, -hK, Axa, hHX _ _ vh2, hHX _ _ vw2, hw7, hw6] <;> (first | exact rfl | exact ⟨rfl, rfl⟩ | exact ⟨rfl, trivial⟩))); simp -implicitDefEqProofs (disch := first | omega | (simp only [qd] <;> omega)) only [Aq3, Aqm]))
   (refine @unH _ ?_; refine zI Azl ?_)
   refine Aqv ?_
   (refine @unH _ ?_; refine zX Azl ?_)
   (intro gb hgb; generalize hG : Hp.set _ gb _ = H3; have lH3 := Aqc hG hgb; have vgb := Aqb hG; clear hG)
   refine ⟨.inr (fun _ => by first | exact lH3 | trivial), Aqv ?_⟩
   (refine @unH _ ?_; refine zX (aN Azl (aN @Avz (aN @Akj @Akk))) ?_)
   refine ⟨.inl (by decide), ?_⟩
   (refine @unH _ ?_; refine zI Azl ?_)
   refine Axr (hK _ _ ?_)
   clear hK K hlk
   (try refine @unH _ (zQ ?_))
   generalize hG : Hp.set H3 gb _ = H4
   have vg4 := Aqb hG
   have nrg := Aqq vr2 hgb
   have vr4 := Aqi hG (lH3 _ _ vr2) nrg
   have hk4 : ∀ b x, H b = some x -> H4 b = some x := fun b x hx => Aqi hG (lH3 _ _ (l2 _ _ hx)) (Aqq (l2 _ _ hx) hgb)
   have kn4 : Ajf ds mb H4 := ⟨es, clock, Aqi hG (lH3 _ _ vm2) (Aqq vm2 hgb), hmap⟩
   clear hG vgb lH3 hgb
   replace hk4 : Aqk _ := hk4
   (refine @unH _ (zA Azl ?_); (try clear hK K); intro K hK hc)
   (refine @unH _ (zU (aN Azl (aN @Avz (aN @Akj @Akk))) ?_); (try clear hK K); intro K hK hc)
   (refine Axs ?_; (try simp only [nq, ↓reduceIte, Nat.reduceEqDiff]); rw [Aq8, Ax3 results68 (by decide) (b := rb) (o := 0) rfl underlying117 rfl sizeOf117]; simp -implicitDefEqProofs (disch := first | omega | (simp only [qd] <;> omega)) only [xq, ↓xp, qc, Nat.reduceAdd, List.range, List.range.loop, fine, Nat.reduceEqDiff, ↓reduceIte, yielded, reduceCtorEq, Nat.reduceLT, Nat.reduceMul, Nat.reduceSub, one, Nat.reduceLeDiff, Aqg, Azl, hil, hex, Axm])
   refine ⟨fun b x hb hx => ?_, ?_⟩
   ·rw [Aqu (fun e => by rw [e, h0rb] at hx; cases hx)]
    exact (show ∀ b x, H b = some x -> H4 b = some x from hk4) b x hx
   ·obtain ⟨es, clock, vm4, hm4⟩ := kn4
    exact ⟨es, clock, by rw [Aqu (fun e => by rw [e, vr4] at vm4; cases vm4)]; exact vm4, hm4⟩
  | false =>
   obtain rfl := hunmet rfl
   clear hmet hunmet
   refine Axp ?_
   refine Bjv (fun HX => H2.le HX) [10] (.take 0 (.take 1 (.take 2 (.take 3 (.take 4 (.take 5 (.take 6 (.take 7 (.free 8 (.one 9 (.one 10 (.free 11 .nil)))))))))))) (by kernel_rfl) (by kernel_rfl) (by decide) (by kernel_rfl) ?_; intro K hK
   have hle2 : H2.le H2 := Hp.le_refl _
   (iterate 5 (apply Axe rfl rfl rfl ‹_›; (focus (intro HX hHX; simp -implicitDefEqProofs (disch := first | omega | (simp only [qd] <;> omega)) only [xq, ↓xp, qc, Nat.reduceAdd, List.range, List.range.loop, fine, Nat.reduceEqDiff, ↓reduceIte, yielded, reduceCtorEq, Nat.reduceLT, Nat.reduceMul, Nat.reduceSub, one, Nat.reduceLeDiff, Aqg, Azl, aq, ↓ap, qe0, qe1, qe2, *, -hK, Axa, hHX _ _ vh2, hHX _ _ vw2, hw7, hw6] <;> (first | exact rfl | exact ⟨rfl, rfl⟩ | exact ⟨rfl, trivial⟩))); simp -implicitDefEqProofs (disch := first | omega | (simp only [qd] <;> omega)) only [Aq3, Aqm]))
   (apply Axe rfl rfl rfl ‹_›; (focus (intro HX hHX; (refine @unH _ ?_; refine zX (aN Azl @Axa) ?_); refine hlk mb true HX (hHX _ _ vm2) _ _ ?_; exact ⟨rfl, rfl⟩)); simp -implicitDefEqProofs (disch := first | omega | (simp only [qd] <;> omega)) only [Aq3, Aqm])
   (iterate 2 (apply Axe rfl rfl rfl ‹_›; (focus (intro HX hHX; simp -implicitDefEqProofs (disch := first | omega | (simp only [qd] <;> omega)) only [xq, ↓xp, qc, Nat.reduceAdd, List.range, List.range.loop, fine, Nat.reduceEqDiff, ↓reduceIte, yielded, reduceCtorEq, Nat.reduceLT, Nat.reduceMul, Nat.reduceSub, one, Nat.reduceLeDiff, Aqg, Azl, aq, ↓ap, qe0, qe1, qe2, *, -hK, Axa, hHX _ _ vh2, hHX _ _ vw2, hw7, hw6] <;> (first | exact rfl | exact ⟨rfl, rfl⟩ | exact ⟨rfl, trivial⟩))); simp -implicitDefEqProofs (disch := first | omega | (simp only [qd] <;> omega)) only [Aq3, Aqm]))
   (refine @unH _ ?_; refine zI Azl ?_)
   refine Aqv ?_
   (refine @unH _ ?_; refine zX Azl ?_)
   (intro gb hgb; generalize hG : Hp.set _ gb _ = H3; have lH3 := Aqc hG hgb; have vgb := Aqb hG; clear hG)
   refine ⟨.inr (fun _ => by first | exact lH3 | trivial), Aqv ?_⟩
   (refine @unH _ ?_; refine zX (aN Azl (aN @Avz (aN @Akj @Akk))) ?_)
   refine ⟨.inl (by decide), ?_⟩
   (refine @unH _ ?_; refine zI Azl ?_)
   refine Axr (hK _ _ ?_)
   clear hK K hlk
   (try refine @unH _ (zQ ?_))
   generalize hG : Hp.set H3 gb _ = H4
   have l24 : H2.le H4 := fun b x hx => Aqi hG (lH3 _ _ hx) (Aqq hx hgb)
   have vh4 := l24 _ _ vh2
   have vw4 := l24 _ _ vw2
   have vr4 := l24 _ _ vr2
   clear hG vgb lH3 hgb hle2
   (refine @unH _ (zS Azl ?_); (try clear hK K); intro K hK hc)
   intro nb hnb
   have nhn := Aqq vh4 hnb
   have nwn := Aqq vw4 hnb
   have nrn := Aqq vr4 hnb
   have nmn := Aqq (l24 _ _ vm2) hnb
   have h2nb := Hp.le_none l24 hnb
   generalize hG : Hp.set H4 nb _ = H5
   have vn := Aqb hG
   have l25 := Hp.le_trans l24 (Aqc hG hnb)
   have l45 := Aqc hG hnb
   have vh5 := l45 _ _ vh4
   have vw5 := l45 _ _ vw4
   have vr5 := l45 _ _ vr4
   clear hG hnb l45 vh4 vw4 vr4
   (refine @unH _ (zV Azl ?_); (try clear hK K); intro K hK hc)
   refine Axp ?_
   have hSp : SpH H5 hb wb rb nb mb pl da dc hv nv p ts ds := ⟨⟨_, vh5⟩, vw5, vr5, kn2.le l25, dd2.le l25, ⟨_, vn⟩, nhn, nwn, nrn, nmn⟩
   have vn0 : H5 nb = some (true, .cells (ints (List.replicate 0 (99 : Int) ++ List.replicate (6 - 0) 0)).toArray 117 (0, 0)) := vn
   clear vn
   (refine @unH _ (zS Azl ?_); (try clear hK K); intro K hK hc)
   refine Ax7 (Axc (fun w a' H' => ∃ e c, ∃ k : Nat, w = 6 - k /\ k <= 6 /\ a' = act 92 e [] /\ e 0 = .pointer (some ⟨hb, 0, none⟩) /\ e 3 = .pointer (some ⟨wb, 0, none⟩) /\ e 4 = .pointer (some ⟨rb, 0, none⟩) /\ e 7 = .pointer (some ⟨nb, 0, none⟩) /\ e 23 = .int .i64 (k : Nat) /\
    H' nb = some (true, .cells (ints c).toArray 117 (0, 0)) /\ Lex (some nb) H5 H' /\ c = List.replicate k (99 : Int) ++ List.replicate (6 - k) 0) (n := 6) ?_ ?_)
   ·exact ⟨_, _, 0, by omega, by omega, rfl, rfl, rfl, rfl, rfl, rfl, vn0, Lex.refl, rfl⟩
   ·clear vn0
    rintro w a' H6 ⟨e, c, k, rfl, hk, rfl, e0, e3, e4, e7, e23, vn6, lx6, hc⟩
    have hcl : c.length = 6 := by rw [hc]; simp; omega
    have hil : (ints c).length = 6 := by rw [Aqz]; exact hcl
    by_cases hlt : k < 6
    ·have hstep : c.set k 99 = List.replicate (k + 1) (99 : Int) ++ List.replicate (6 - (k + 1)) 0 := by
      rw [hc]
      rcases (by omega : k = 0 ∨ k = 1 ∨ k = 2 ∨ k = 3 ∨ k = 4 ∨ k = 5) with rfl | rfl | rfl | rfl | rfl | rfl <;> rfl
     replace hc : Aqk _ := hc
     replace hstep : Aqk _ := hstep
     (refine @unH _ (zA (aN Azl @Azr) ?_); (try clear hK K); intro K hK hc)
     exact ⟨_, by omega, _, c.set k 99, k + 1, rfl, by omega, rfl, e0, e3, e4, e7, rfl, Axf, lx6.set, hstep⟩
    ·obtain rfl : k = 6 := by omega
     have hcc : Aqk (c = List.replicate 6 99) := show c = _ by rw [hc]; rfl
     have vw6 := lx6.keeps vw5 nwn
     clear hc
     have hp1 : p.toNat < 6 := by omega
     (refine @unH _ (zS (aN Azl @Azr) ?_); (try clear hK K); intro K hK hc)
     refine Axp ?_
     (refine @unH _ (zS (aN Azl @Azr) ?_); (try clear hK K); intro K hK hc)
     have hfr : Akc (Edg ds ts) pl p (c.set p.toNat 0) := by rw [show c = _ from hcc]; exact Akc.start _ h0 (by omega)
     have hfs : Avy ds ts 600 (c.set p.toNat 0) = Aq4 ds p ts := by rw [show c = _ from hcc]; rfl
     have hsm : sum6 (c.set p.toNat 0) < 600 := by
      have h0 := (hfr.le99 (q := 0) (by omega) (by omega)).2
      have h1 := (hfr.le99 (q := 1) (by omega) (by omega)).2
      have h2 := (hfr.le99 (q := 2) (by omega) (by omega)).2
      have h3 := (hfr.le99 (q := 3) (by omega) (by omega)).2
      have h4 := (hfr.le99 (q := 4) (by omega) (by omega)).2
      have h5 := (hfr.le99 (q := 5) (by omega) (by omega)).2
      unfold sum6
      omega
     refine Axp (Azh ?_)
     refine Az7 (Bjh main H5 hb wb rb nb mb pl da dc hv nv p ts ds hSp hp h0 h1 hd hl6 hts ht (fun e H' => e = .returned (.agg (ints (Aq4 ds p ts)).toArray) /\ (∀ b x, b ≠ mb -> H b = some x -> H' b = some x) /\ Ajf ds mb H')
      (fun H' h1 h2 => ⟨rfl, fun b x hb hx => h1 b x hb (fun e => by have := l2 _ _ hx; rw [e, h2nb] at this; cases this) (fun e => by rw [e, h0rb] at hx; cases hx) (l25 _ _ (l2 _ _ hx)), h2⟩) 600 _ _ ⟨_, _, rfl, e0, e3, e4, e7, Axf, lx6.set, hfs, hfr, hsm⟩) ?_
     exact fun e a H' q => Byq (fun l a H' ⟨n', hlt, h⟩ => ⟨n', nb, H5, l25, h2nb, hSp, h⟩) (fun _ _ _ h => h) q
 ·rintro l rest w a' H' hf ⟨nb, H0, l20, hnb, hS, hI⟩
  have hl : l = 0 := by
   apply Classical.byContradiction
   intro hl
   have h9 : (0 == l) = false := by simp; omega
   simp only [findLabel, h9, Bool.false_eq_true, if_false] at hf
   cases hf
  subst hl
  simp only [findLabel, beq_self_eq_true, if_true, Option.some.injEq] at hf
  subst hf
  refine Axp (Aze ?_)
  refine Az7 (Bjh main H0 hb wb rb nb mb pl da dc hv nv p ts ds hS hp h0 h1 hd hl6 hts ht (fun e H' => e = .returned (.agg (ints (Aq4 ds p ts)).toArray) /\ (∀ b x, b ≠ mb -> H b = some x -> H' b = some x) /\ Ajf ds mb H')
   (fun H' h1 h2 => ⟨rfl, fun b x hb hx => h1 b x hb (fun e => by have := l2 _ _ hx; rw [e, hnb] at this; cases this) (fun e => by rw [e, h0rb] at hx; cases hx) (l20 _ _ (l2 _ _ hx)), h2⟩) w _ H' hI) ?_
  exact fun e a H' q => Byq (fun l a H' ⟨n', hlt, h⟩ => ⟨n', hlt, nb, H0, l20, hnb, hS, h⟩) (fun _ _ _ h => h) q
end Go.Proofs.YtnfnaehonkbknaaGreatDoor
end
