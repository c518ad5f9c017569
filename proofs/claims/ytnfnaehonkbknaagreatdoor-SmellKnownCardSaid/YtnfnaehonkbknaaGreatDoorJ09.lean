/- Texts More. -/
import Derived.Test.YtnfnaehonkbknaaGreatDoorJ08
set_option linter.defProp false
set_option linter.unusedSimpArgs false
set_option linter.unusedVariables false
set_option maxRecDepth 100000
set_option maxHeartbeats 2000000
section
namespace Go.X
open Go
section
variable {P : Program} {main : Md} {lp : Option Nat} {Q : Exit -> Act -> Hp -> Prop} {a : Act} {H : Hp}
theorem Bka {t e : TypeId} {z : Value} {inf : TypeInfo} (hu : P.underlying t = some (.slice e)) (hs : ∀ w, (sizeOf e).run P w = .ok 1 w) (hz : ∀ w, (zeroValue e).run P w = .ok z w) (hz1 : one z = true)
  (hi : ∀ w, (typeInfo e).run P w = .ok inf w) (hby : inf.bytes <= 1024) (k j : IntKind) (n : Int) (h0 : 0 <= n) (h1 : n <= 1000000) (K : Value -> Hp -> Prop) (E : Value -> Hp -> Prop) :
  wpS P (Instr.makeSlice t (.int k n) (.int j n)) H K E = ∀ b, H b = none -> K (.slice (some ⟨b, 0, none⟩) n.toNat n.toNat) (H.set b (.cells (Array.replicate n.toNat z) e (0, 0))) := by
 have hinf := Akb hi
 have hw : IntKind.i64.wrap n = n := w64 n (by omega) (by omega)
 have hb : ¬ ((inf.bytes : Int) * n > 2 ^ 48) := by
  have : (inf.bytes : Int) * n <= 1024 * 1000000 := Int.mul_le_mul (by omega) h1 h0 (by omega)
  have h2 : (2 : Int) ^ 48 = 281474976710656 := by decide
  omega
 have h00 : ¬ n < 0 := by omega
 unfold Instr.makeSlice
 simp only [Aqa, Aqh hu, asInt, asIntOf, Aqd, Aju hinf, hw]
 simp only [h00, decide_false, hb, Bool.or_self, Bool.false_eq_true, if_false, gt_iff_lt, Int.lt_irrefl, Aqa, Av1, Aqw hs, Nat.mul_one]
 have h0r : ∀ f : Nat -> Value, Array.map f (Array.range 0) = #[] := fun f => Array.eq_empty_of_size_eq_zero (by simp)
 by_cases hn : n.toNat = 0
 ·simp [-bind_pure_comp, hn, Aqd, newRow, newObj, Aqa, wpS, h0r]
 ·simp only [hn, if_false, Aqa, Aq8 hz, Aqd, cells_one hz1, reps, newRow, newObj, wpS]
theorem Bxt (ats : Array TypeId) (ty : TypeId) (cs : Array Bool) (k j : IntKind) (x y : Int) (K : Next -> Hp -> Prop) (E : Value -> Hp -> Prop) :
  wpS P (builtin .min ats ty cs #[.int k x, .int j y]) H K E = K (.value (.int k (if y < x then y else x))) H := by
 simp only [builtin, Builtin.min_, Aqa, List.foldlM, Builtin.min2, Aqd]
theorem Byq (ats : Array TypeId) (ty : TypeId) (cs : Array Bool) (k j : IntKind) (x y : Int) (K : Next -> Hp -> Prop) (E : Value -> Hp -> Prop) :
  wpS P (builtin .max ats ty cs #[.int k x, .int j y]) H K E = K (.value (.int k (if x < y then y else x))) H := by
 simp only [builtin, Builtin.max_, Aqa, List.foldlM, Builtin.max2, Aqd]
theorem Aq2 {t e : TypeId} {N : Nat} (hu : P.underlying t = some (.array N e)) {n : Nat} (hs : ∀ w, (sizeOf e).run P w = .ok n w) (b o : Nat) (k : IntKind) (i : Int) (K : Value -> Hp -> Prop) (E : Value -> Hp -> Prop) (h0 : 0 <= i) (h1 : i < N) :
  wpS P (Instr.indexAt t (.pointer (some ⟨b, o, none⟩)) (.int k i)) H K E = K (.pointer (some ⟨b, o + i.toNat * n, none⟩)) H := by
 unfold Instr.indexAt
 rw [Aqa]
 simp only [asIntOf, Aqd]
 simp only [Aqa, Aqh hu, Instr.sureAddr, Aqd, h0, h1, and_self, if_true, Aqw hs, Ajx]
def Dzk (q : Option (Nat × Nat)) (v : Value) (cs : List Value) : List Value := match q with
 | none => cs
 | some (off, n) => cs.take off ++ v.cells.toList ++ cs.drop (off + n)
def layT (pl : List (Nat × Nat)) : List (Nat × Value) -> List Value -> List Value
 | [], cs => cs
 | (i, v) :: rest, cs => layT pl rest (Dzk pl[i]? v cs)
theorem Cyq {pl : List (Nat × Nat)} {cs : List Value} : layT pl [] cs = cs := rfl
theorem Ck3 {pl : List (Nat × Nat)} {cs : List Value} {i : Nat} {v : Value} {rest : List (Nat × Value)} : layT pl ((i, v) :: rest) cs = layT pl rest (Dzk pl[i]? v cs) := rfl
theorem Czs {v : Value} {cs : List Value} {off n : Nat} : Dzk (some (off, n)) v cs = cs.take off ++ v.cells.toList ++ cs.drop (off + n) := rfl
theorem Cj6 {k : IntKind} {x : Int} : (Value.int k x).cells = #[.int k x] := rfl
theorem Cx9 {x : Bool} : (Value.bool x).cells = #[.bool x] := rfl
theorem Byc {x : Option Addr} {n c : Nat} : (Value.slice x n c).cells = #[.slice x n c] := rfl
theorem Bj2 {x : Option Addr} : (Value.pointer x).cells = #[.pointer x] := rfl
theorem Cj7 {x : Option Nat} : (Value.map x).cells = #[.map x] := rfl
theorem Byb {x : TypeId} {v : Value} : (Value.iface x v).cells = #[.iface x v] := rfl
theorem Bvc {c : Array Value} : (Value.agg c).cells = c := rfl
def Cyz (K : Act -> Hp -> Prop) (Q : Exit -> Act -> Hp -> Prop) (d : Option Tmp) (a : Act) : Ending -> Hp -> Prop
 | .returned v, H' => K (a.put d v) H'
 | .panicked c, H' => Q (.panic c) a H'
 | .outgrown, _ => False
theorem Ak0 {K : Act -> Hp -> Prop} {d : Option Tmp} {v : Value} : Cyz K Q d a (.returned v) H = K (a.put d v) H := rfl
theorem Ajt {o : Oper} {K : Act -> Hp -> Prop} (f : FuncId) (args : Array Value) : Avw P main lp o a K Q (.enter f args) H = Runs P main (Frame.enter P f args .normal) H (Cyz K Q o.dst a) := by
 unfold Avw
 congr 1
def exK (q : Option Value) (K : Value -> Prop) : Prop := match q with
 | some v => K v
 | none => False
theorem Cwx {v : Value} {K : Value -> Prop} : exK (some v) K = K v := rfl
theorem Ckl (vs : List Value) (i : Nat) (K : Value -> Hp -> Prop) (E : Value -> Hp -> Prop) : wpS P (Instr.extract (.tuple vs.toArray) i) H K E = exK vs[i]? (fun v => K v H) := by
 unfold Instr.extract exK
 simp only [List.getElem?_toArray]
 cases vs[i]? <;> rfl
theorem Bxs {t : TypeId} {d : TypeDesc} (hu : P.underlying t = some d) (hd : aggB d = true) {n : Nat} (hs : ∀ w, (sizeOf t).run P w = .ok (n + 1) w) (b o : Nat) (K : Value -> Hp -> Prop) (E : Value -> Hp -> Prop) :
 wpS P (loadVar t ⟨b, o, none⟩) H K E = Bqx H b o (n + 1) (fun v => K v H) := Aqn hu hd hs b o K E
theorem Ax2 {fn : Func} {t : Tmp} {ty : TypeId} (h : fn.results = #[.cell t ty]) {n : Nat} {e : Nat -> Value} {ds : List Deferred} (ht : t < n) {b o : Nat} (hb : e t = .pointer (some ⟨b, o, none⟩))
  {d : TypeDesc} (hu : P.underlying ty = some d) (hd : aggB d = true) {k : Nat} (hs : ∀ w, (sizeOf ty).run P w = .ok (k + 1) w) (K : Value -> Hp -> Prop) (E : Value -> Hp -> Prop) :
  wpS P (results fn (act n e ds).tmps) H K E = Bqx H b o (k + 1) (fun v => K v H) := by
 simp [-bind_pure_comp, results, h, act_get? ht, hb, asAddr, Aqa, Aqd, Bxs hu hd hs]
theorem results_cell_tmp {fn : Func} {t u : Tmp} {ty : TypeId} (h : fn.results = #[.cell t ty, .tmp u]) {n : Nat} {e : Nat -> Value} {ds : List Deferred} (ht : t < n) (hu' : u < n) {b o : Nat} (hb : e t = .pointer (some ⟨b, o, none⟩))
  {d : TypeDesc} (hu : P.underlying ty = some d) (hd : aggB d = true) {k : Nat} (hs : ∀ w, (sizeOf ty).run P w = .ok (k + 1) w) (K : Value -> Hp -> Prop) (E : Value -> Hp -> Prop) :
  wpS P (results fn (act n e ds).tmps) H K E = Bqx H b o (k + 1) (fun v => K (.tuple #[v, e u]) H) := by
 simp [-bind_pure_comp, results, h, act_get? ht, act_get? hu', hb, asAddr, Aqa, Aqd, Bxs hu hd hs]
theorem Bki {fn : Func} {t u v : Tmp} (h : fn.results = #[.tmp t, .tmp u, .tmp v]) {n : Nat} {e : Nat -> Value} {ds : List Deferred} (ht : t < n) (hu : u < n) (hv : v < n) (K : Value -> Hp -> Prop) (E : Value -> Hp -> Prop) :
  wpS P (results fn (act n e ds).tmps) H K E = K (.tuple #[e t, e u, e v]) H := by
 simp [results, h, act_get? ht, act_get? hu, act_get? hv, Aqd]
theorem Azy (k : IntKind) (i : Int) (cap : Nat) (kd : BoundsCode) (h0 : 0 <= i) (h1 : i <= cap) (K : Nat -> Hp -> Prop) (E : Value -> Hp -> Prop) : wpS P (Instr.sliceBound (.int k i) cap kd) H K E = K i.toNat H := by
 unfold Instr.sliceBound
 simp [-bind_pure_comp, Aqa, asIntOf, Aqd, h0, h1]
theorem Cxo {t e : TypeId} (hu : P.underlying t = some (.slice e)) {n : Nat} (hs : ∀ w, (sizeOf e).run P w = .ok n w) (b o len cap : Nat) (k : IntKind) (i : Int) (h0 : 0 <= i) (h1 : i <= cap) (K : Value -> Hp -> Prop) (E : Value -> Hp -> Prop) :
  wpS P (Instr.sliceAt t (.slice (some ⟨b, o, none⟩) len cap) (none : Option Value) (some (.int k i)) none) H K E = K (.slice (some ⟨b, o, none⟩) i.toNat cap) H := by
 unfold Instr.sliceAt Instr.slice Instr.sliceBounds
 simp [-bind_pure_comp, Aqa, Aqh hu, Aqd, Azy k i cap _ h0 h1, Aqw hs, Ajx]
theorem Cvp {t e : TypeId} {N : Nat} (hu : P.underlying t = some (.array N e)) {n : Nat} (hs : ∀ w, (sizeOf e).run P w = .ok n w) (b o : Nat) (K : Value -> Hp -> Prop) (E : Value -> Hp -> Prop) :
  wpS P (Instr.sliceAt t (.pointer (some ⟨b, o, none⟩)) (none : Option Value) none none) H K E = K (.slice (some ⟨b, o, none⟩) N N) H := by
 unfold Instr.sliceAt Instr.sliceBounds
 simp [-bind_pure_comp, Aqa, Aqh hu, Instr.sureAddr, Aqd, Aqw hs, Ajx]
theorem Bv6 {t e : TypeId} {N : Nat} (hu : P.underlying t = some (.array N e)) {n : Nat} (hs : ∀ w, (sizeOf e).run P w = .ok n w) (b o : Nat) (k : IntKind) (i : Int) (h0 : 0 <= i) (h1 : i <= N) (K : Value -> Hp -> Prop) (E : Value -> Hp -> Prop) :
  wpS P (Instr.sliceAt t (.pointer (some ⟨b, o, none⟩)) (none : Option Value) (some (.int k i)) none) H K E = K (.slice (some ⟨b, o, none⟩) i.toNat N) H := by
 unfold Instr.sliceAt Instr.sliceBounds
 simp [-bind_pure_comp, Aqa, Aqh hu, Instr.sureAddr, Aqd, Azy k i N _ h0 h1, Aqw hs, Ajx]
theorem Cxp {t e : TypeId} (hu : P.underlying t = some (.slice e)) {n : Nat} (hs : ∀ w, (sizeOf e).run P w = .ok n w) (b o len cap : Nat) (k : IntKind) (i : Int) (h0 : 0 <= i) (h1 : i <= len) (K : Value -> Hp -> Prop) (E : Value -> Hp -> Prop) :
  wpS P (Instr.sliceAt t (.slice (some ⟨b, o, none⟩) len cap) (some (.int k i)) (none : Option Value) none) H K E = K (.slice (if cap = i.toNat then some ⟨b, o, none⟩ else some ⟨b, o + i.toNat * n, none⟩) (len - i.toNat) (cap - i.toNat)) H := by
 unfold Instr.sliceAt Instr.slice Instr.sliceBounds
 simp [-bind_pure_comp, Aqa, Aqh hu, Aqd, Azy k i len _ h0 h1, Aqw hs, Ajx]
theorem Bjh {t e : TypeId} (hu : P.underlying t = some (.slice e)) {n : Nat} (hs : ∀ w, (sizeOf e).run P w = .ok n w) (b o len cap : Nat) (k k' : IntKind) (i j : Int) (h0 : 0 <= i) (h1 : i <= j) (h2 : j <= cap) (K : Value -> Hp -> Prop) (E : Value -> Hp -> Prop) :
  wpS P (Instr.sliceAt t (.slice (some ⟨b, o, none⟩) len cap) (some (.int k i)) (some (.int k' j)) none) H K E = K (.slice (if cap = i.toNat then some ⟨b, o, none⟩ else some ⟨b, o + i.toNat * n, none⟩) (j.toNat - i.toNat) (cap - i.toNat)) H := by
 unfold Instr.sliceAt Instr.slice Instr.sliceBounds
 have hj : i <= (j.toNat : Int) := by omega
 simp [-bind_pure_comp, Aqa, Aqh hu, Aqd, Azy k' j cap _ (by omega) h2, Azy k i j.toNat _ h0 hj, Aqw hs, Ajx]
end
end Go.X
end
