/- Texts Blds Fns Hid Data Kit Grow. -/
import Derived.Test.YtnfnaehonkbknaaGreatDoorJ09
import Derived.Test.YtnfnaehonkbknaaGreatDoorProg
set_option linter.defProp false
set_option linter.unusedSimpArgs false
set_option linter.unusedVariables false
set_option maxRecDepth 100000
set_option maxHeartbeats 2000000
section
namespace Go.Proofs.YtnfnaehonkbknaaGreatDoor
open Go Go.X Go.Proofs.Tryz
theorem Ax1 (H : Hp) (kx1 : IntKind) (x1 : Int) (K : Value -> Hp -> Prop) (E : Value -> Hp -> Prop) : wpS Tryz.prog (Instr.buildSlice 22 1 #[(0, .int kx1 x1)]) H K E = ∀ b, H b = none -> K (.slice (some ⟨b, 0, none⟩) 1 1) (H.set b (.cells #[.int kx1 x1] 3 (0, 0))) := Ak7 (K := K) (E := E) underlying22 sizeOf3 zeroValue3 rfl 1 [(0, .int kx1 x1)] (by decide) (by decide) (c := #[.int kx1 x1]) (by kernel_rfl)
theorem Bzo (H : Hp) (kx1 : IntKind) (x1 : Int) (kx2 : IntKind) (x2 : Int) (K : Value -> Hp -> Prop) (E : Value -> Hp -> Prop) : wpS Tryz.prog (Instr.buildSlice 22 2 #[(0, .int kx1 x1), (1, .int kx2 x2)]) H K E = ∀ b, H b = none -> K (.slice (some ⟨b, 0, none⟩) 2 2) (H.set b (.cells #[.int kx1 x1, .int kx2 x2] 3 (0, 0))) := Ak7 (K := K) (E := E) underlying22 sizeOf3 zeroValue3 rfl 2 [(0, .int kx1 x1), (1, .int kx2 x2)] (by decide) (by decide) (c := #[.int kx1 x1, .int kx2 x2]) (by kernel_rfl)
theorem Bqw (H : Hp) (kx1 : IntKind) (x1 : Int) (kx2 : IntKind) (x2 : Int) (kx3 : IntKind) (x3 : Int) (K : Value -> Hp -> Prop) (E : Value -> Hp -> Prop) : wpS Tryz.prog (Instr.buildSlice 22 3 #[(0, .int kx1 x1), (1, .int kx2 x2), (2, .int kx3 x3)]) H K E = ∀ b, H b = none -> K (.slice (some ⟨b, 0, none⟩) 3 3) (H.set b (.cells #[.int kx1 x1, .int kx2 x2, .int kx3 x3] 3 (0, 0))) := Ak7 (K := K) (E := E) underlying22 sizeOf3 zeroValue3 rfl 3 [(0, .int kx1 x1), (1, .int kx2 x2), (2, .int kx3 x3)] (by decide) (by decide) (c := #[.int kx1 x1, .int kx2 x2, .int kx3 x3]) (by kernel_rfl)
theorem Bxh (H : Hp)  (K : Value -> Hp -> Prop) (E : Value -> Hp -> Prop) : wpS Tryz.prog (Instr.build 34 #[]) H K E = K (.agg #[.int .i64 0, .int .i64 0]) H := Aq9 underlying34 zeroValue34 (ns := [1, 1]) ⟨sizeOf3, sizeOf3, trivial⟩ [] (out := [.int .i64 0, .int .i64 0]) (by kernel_rfl) K E
theorem Ajq (H : Hp) (kx1 : IntKind) (x1 : Int) (kx2 : IntKind) (x2 : Int) (K : Value -> Hp -> Prop) (E : Value -> Hp -> Prop) : wpS Tryz.prog (Instr.build 34 #[(0, .int kx1 x1), (1, .int kx2 x2)]) H K E = K (.agg #[.int kx1 x1, .int kx2 x2]) H := Aq9 underlying34 zeroValue34 (ns := [1, 1]) ⟨sizeOf3, sizeOf3, trivial⟩ [(0, .int kx1 x1), (1, .int kx2 x2)] (out := [.int kx1 x1, .int kx2 x2]) (by kernel_rfl) K E
theorem Bzl (H : Hp) (kx1 : IntKind) (x1 : Int) (kx2 : IntKind) (x2 : Int) (x3 : Bool) (K : Value -> Hp -> Prop) (E : Value -> Hp -> Prop) : wpS Tryz.prog (Instr.build 46 #[(0, .int kx1 x1), (1, .int kx2 x2), (2, .bool x3)]) H K E = K (.agg #[.int kx1 x1, .int kx2 x2, .bool x3]) H := Aq9 underlying46 zeroValue46 (ns := [1, 1, 1]) ⟨sizeOf3, sizeOf3, sizeOf4, trivial⟩ [(0, .int kx1 x1), (1, .int kx2 x2), (2, .bool x3)] (out := [.int kx1 x1, .int kx2 x2, .bool x3]) (by kernel_rfl) K E
theorem bld_26__0 (H : Hp)  (K : Value -> Hp -> Prop) (E : Value -> Hp -> Prop) : wpS Tryz.prog (Instr.build 26 #[]) H K E = K (.agg #[.int .i64 0, .slice none 0 0, .slice none 0 0, .slice none 0 0]) H := Aq9 underlying26 zeroValue26 (ns := [1, 1, 1, 1]) ⟨sizeOf3, sizeOf23, sizeOf22, sizeOf24, trivial⟩ [] (out := [.int .i64 0, .slice none 0 0, .slice none 0 0, .slice none 0 0]) (by kernel_rfl) K E
theorem Bqr (H : Hp) (kx1 : IntKind) (x1 : Int) (x2 : Option Addr) (nx2 cx2 : Nat) (x3 : Option Addr) (nx3 cx3 : Nat) (x4 : Option Addr) (nx4 cx4 : Nat) (K : Value -> Hp -> Prop) (E : Value -> Hp -> Prop) : wpS Tryz.prog (Instr.build 26 #[(0, .int kx1 x1), (1, .slice x2 nx2 cx2), (2, .slice x3 nx3 cx3), (3, .slice x4 nx4 cx4)]) H K E = K (.agg #[.int kx1 x1, .slice x2 nx2 cx2, .slice x3 nx3 cx3, .slice x4 nx4 cx4]) H := Aq9 underlying26 zeroValue26 (ns := [1, 1, 1, 1]) ⟨sizeOf3, sizeOf23, sizeOf22, sizeOf24, trivial⟩ [(0, .int kx1 x1), (1, .slice x2 nx2 cx2), (2, .slice x3 nx3 cx3), (3, .slice x4 nx4 cx4)] (out := [.int kx1 x1, .slice x2 nx2 cx2, .slice x3 nx3 cx3, .slice x4 nx4 cx4]) (by kernel_rfl) K E
theorem Bzm (H : Hp) (kx1 : IntKind) (x1 : Int) (kx2 : IntKind) (x2 : Int) (kx3 : IntKind) (x3 : Int) (kx4 : IntKind) (x4 : Int) (K : Value -> Hp -> Prop) (E : Value -> Hp -> Prop) : wpS Tryz.prog (Instr.build 66 #[(0, .int kx1 x1), (1, .int kx2 x2), (2, .agg #[.int kx3 x3, .int kx4 x4])]) H K E = K (.agg #[.int kx1 x1, .int kx2 x2, .int kx3 x3, .int kx4 x4]) H := Aq9 underlying66 zeroValue66 (ns := [1, 1, 2]) ⟨sizeOf3, sizeOf3, sizeOf34, trivial⟩ [(0, .int kx1 x1), (1, .int kx2 x2), (2, .agg #[.int kx3 x3, .int kx4 x4])] (out := [.int kx1 x1, .int kx2 x2, .int kx3 x3, .int kx4 x4]) (by kernel_rfl) K E
theorem Aj0 (H : Hp) (kx1 : IntKind) (x1 : Int) (kx2 : IntKind) (x2 : Int) (kx3 : IntKind) (x3 : Int) (kx4 : IntKind) (x4 : Int) (kx5 : IntKind) (x5 : Int) (kx6 : IntKind) (x6 : Int) (kx7 : IntKind) (x7 : Int) (K : Value -> Hp -> Prop) (E : Value -> Hp -> Prop) : wpS Tryz.prog (Instr.build 120 #[(0, .int kx1 x1), (1, .agg #[.int kx2 x2, .int kx3 x3, .int kx4 x4, .int kx5 x5, .int kx6 x6, .int kx7 x7])]) H K E = K (.agg #[.int kx1 x1, .int kx2 x2, .int kx3 x3, .int kx4 x4, .int kx5 x5, .int kx6 x6, .int kx7 x7]) H := Aq9 underlying120 zeroValue120 (ns := [1, 6]) ⟨sizeOf3, sizeOf91, trivial⟩ [(0, .int kx1 x1), (1, .agg #[.int kx2 x2, .int kx3 x3, .int kx4 x4, .int kx5 x5, .int kx6 x6, .int kx7 x7])] (out := [.int kx1 x1, .int kx2 x2, .int kx3 x3, .int kx4 x4, .int kx5 x5, .int kx6 x6, .int kx7 x7]) (by kernel_rfl) K E
theorem Bww (H : Hp) (x1 : Fn) (ax1 bx1 : Array Value) (K : Value -> Hp -> Prop) (E : Value -> Hp -> Prop) : wpS Tryz.prog (Instr.build 123 #[(0, .func x1 ax1 bx1)]) H K E = K (.agg #[.func x1 ax1 bx1]) H := Aq9 underlying123 zeroValue123 (ns := [1]) ⟨sizeOf101, trivial⟩ [(0, .func x1 ax1 bx1)] (out := [.func x1 ax1 bx1]) (by kernel_rfl) K E
theorem Bwx (H : Hp)  (K : Value -> Hp -> Prop) (E : Value -> Hp -> Prop) : wpS Tryz.prog (Instr.build 123 #[(0, .nilFunc)]) H K E = K (.agg #[.nilFunc]) H := Aq9 underlying123 zeroValue123 (ns := [1]) ⟨sizeOf101, trivial⟩ [(0, .nilFunc)] (out := [.nilFunc]) (by kernel_rfl) K E
theorem Bvr (H : Hp) (x1 : Option Addr) (nx1 cx1 : Nat) (K : Value -> Hp -> Prop) (E : Value -> Hp -> Prop) : wpS Tryz.prog (Instr.buildSlice 81 1 #[(0, .slice x1 nx1 cx1)]) H K E = ∀ b, H b = none -> K (.slice (some ⟨b, 0, none⟩) 1 1) (H.set b (.cells #[.slice x1 nx1 cx1] 22 (0, 0))) := Ak7 (K := K) (E := E) underlying81 sizeOf22 zeroValue22 rfl 1 [(0, .slice x1 nx1 cx1)] (by decide) (by decide) (c := #[.slice x1 nx1 cx1]) (by kernel_rfl)
theorem Bjv (H : Hp) (kx1 : IntKind) (x1 : Int) (kx2 : IntKind) (x2 : Int) (K : Value -> Hp -> Prop) (E : Value -> Hp -> Prop) : wpS Tryz.prog (Instr.build 131 #[(0, .int kx1 x1), (1, .int kx2 x2)]) H K E = K (.agg #[.int kx1 x1, .int kx2 x2]) H := Aq9 underlying131 zeroValue131 (ns := [1, 1]) ⟨sizeOf35, sizeOf3, trivial⟩ [(0, .int kx1 x1), (1, .int kx2 x2)] (out := [.int kx1 x1, .int kx2 x2]) (by kernel_rfl) K E
theorem Bjw (H : Hp) (kx1 : IntKind) (x1 : Int) (x2 : Option Addr) (nx2 cx2 : Nat) (x3 : Option Addr) (nx3 cx3 : Nat) (x4 : Option Addr) (nx4 cx4 : Nat) (x5 : Option Nat) (K : Value -> Hp -> Prop) (E : Value -> Hp -> Prop) : wpS Tryz.prog (Instr.build 147 #[(0, .agg #[.int kx1 x1, .slice x2 nx2 cx2, .slice x3 nx3 cx3, .slice x4 nx4 cx4]), (1, .map x5)]) H K E = K (.agg #[.int kx1 x1, .slice x2 nx2 cx2, .slice x3 nx3 cx3, .slice x4 nx4 cx4, .map x5]) H := Aq9 underlying147 zeroValue147 (ns := [4, 1]) ⟨sizeOf26, sizeOf145, trivial⟩ [(0, .agg #[.int kx1 x1, .slice x2 nx2 cx2, .slice x3 nx3 cx3, .slice x4 nx4 cx4]), (1, .map x5)] (out := [.int kx1 x1, .slice x2 nx2 cx2, .slice x3 nx3 cx3, .slice x4 nx4 cx4, .map x5]) (by kernel_rfl) K E
theorem Bxg (H : Hp) (kx1 : IntKind) (x1 : Int) (K : Value -> Hp -> Prop) (E : Value -> Hp -> Prop) : wpS Tryz.prog (Instr.build 127 #[(0, .int kx1 x1)]) H K E = K (.agg #[.int kx1 x1, .int .i64 0, .int .i64 0, .bool false, .int .i64 0, .int .i64 0, .bool false, .int .i64 0, .int .i64 0, .bool false, .int .i64 0, .int .i64 0, .bool false, .int .i64 0, .int .i64 0, .bool false, .int .i64 0, .int .i64 0, .bool false, .int .i64 0, .int .i64 0, .int .i64 0, .int .i64 0, .int .i64 0, .int .i64 0, .bool false, .int .i64 0, .int .i64 0, .bool false, .int .i64 0, .int .i64 0, .bool false, .int .i64 0, .int .i64 0, .bool false, .int .i64 0, .int .i64 0, .bool false, .int .i64 0, .int .i64 0, .bool false, .int .i64 0, .int .i64 0, .bool false, .int .i64 0, .int .i64 0, .int .i64 0, .int .i64 0, .int .i64 0, .int .i64 0, .bool false, .int .i64 0, .int .i64 0, .bool false, .int .i64 0, .int .i64 0, .bool false, .int .i64 0, .int .i64 0, .bool false, .int .i64 0, .int .i64 0, .bool false, .int .i64 0, .int .i64 0, .bool false, .int .i64 0, .int .i64 0, .bool false, .int .i64 0, .int .i64 0, .int .i64 0, .int .i64 0, .int .i64 0, .int .i64 0, .bool false, .int .i64 0, .int .i64 0, .bool false, .int .i64 0, .int .i64 0, .bool false, .int .i64 0, .int .i64 0, .bool false, .int .i64 0, .int .i64 0, .bool false, .int .i64 0, .int .i64 0, .bool false, .int .i64 0, .int .i64 0, .bool false, .int .i64 0, .int .i64 0, .int .i64 0, .int .i64 0, .int .i64 0, .int .i64 0, .bool false, .int .i64 0, .int .i64 0, .bool false, .int .i64 0, .int .i64 0, .bool false, .int .i64 0, .int .i64 0, .bool false, .int .i64 0, .int .i64 0, .bool false, .int .i64 0, .int .i64 0, .bool false, .int .i64 0, .int .i64 0, .bool false, .int .i64 0, .int .i64 0, .int .i64 0, .int .i64 0, .int .i64 0, .int .i64 0, .bool false, .int .i64 0, .int .i64 0, .bool false, .int .i64 0, .int .i64 0, .bool false, .int .i64 0, .int .i64 0, .bool false, .int .i64 0, .int .i64 0, .bool false, .int .i64 0, .int .i64 0, .bool false, .int .i64 0, .int .i64 0, .bool false, .int .i64 0, .int .i64 0, .int .i64 0, .int .i64 0, .int .i64 0, .int .i64 0, .bool false, .int .i64 0, .int .i64 0, .bool false, .int .i64 0, .int .i64 0, .bool false, .int .i64 0, .int .i64 0, .bool false, .int .i64 0, .int .i64 0, .bool false, .int .i64 0, .int .i64 0, .bool false, .int .i64 0, .int .i64 0, .bool false, .int .i64 0, .int .i64 0, .int .i64 0, .int .i64 0, .int .i64 0, .int .i64 0, .bool false, .int .i64 0, .int .i64 0, .bool false, .int .i64 0, .int .i64 0, .bool false, .int .i64 0, .int .i64 0, .bool false, .int .i64 0, .int .i64 0, .bool false, .int .i64 0, .int .i64 0, .bool false, .int .i64 0, .int .i64 0, .bool false, .int .i64 0, .int .i64 0, .int .i64 0, .int .i64 0, .int .i64 0, .int .i64 0, .bool false, .int .i64 0, .int .i64 0, .bool false, .int .i64 0, .int .i64 0, .bool false, .int .i64 0, .int .i64 0, .bool false, .int .i64 0, .int .i64 0, .bool false, .int .i64 0, .int .i64 0, .bool false, .int .i64 0, .int .i64 0, .bool false, .int .i64 0, .int .i64 0, .int .i64 0, .int .i64 0, .int .i64 0, .int .i64 0, .bool false, .int .i64 0, .int .i64 0, .bool false, .int .i64 0, .int .i64 0, .bool false, .int .i64 0, .int .i64 0, .bool false, .int .i64 0, .int .i64 0, .bool false, .int .i64 0, .int .i64 0, .bool false, .int .i64 0, .int .i64 0, .bool false, .int .i64 0, .int .i64 0, .int .i64 0, .int .i64 0, .int .i64 0, .int .i64 0, .bool false, .int .i64 0, .int .i64 0, .bool false, .int .i64 0, .int .i64 0, .bool false, .int .i64 0, .int .i64 0, .bool false, .int .i64 0, .int .i64 0, .bool false, .int .i64 0, .int .i64 0, .bool false, .int .i64 0, .int .i64 0, .bool false, .int .i64 0, .int .i64 0, .int .i64 0, .int .i64 0, .int .i64 0, .int .i64 0, .bool false, .int .i64 0, .int .i64 0, .bool false, .int .i64 0, .int .i64 0, .bool false, .int .i64 0, .int .i64 0, .bool false, .int .i64 0, .int .i64 0, .bool false, .int .i64 0, .int .i64 0, .bool false, .int .i64 0, .int .i64 0, .bool false, .int .i64 0, .int .i64 0, .int .i64 0, .int .i64 0, .int .i64 0, .int .i64 0, .bool false, .int .i64 0, .int .i64 0, .bool false, .int .i64 0, .int .i64 0, .bool false, .int .i64 0, .int .i64 0, .bool false, .int .i64 0, .int .i64 0, .bool false, .int .i64 0, .int .i64 0, .bool false, .int .i64 0, .int .i64 0, .bool false, .int .i64 0, .int .i64 0, .int .i64 0, .int .i64 0, .int .i64 0, .int .i64 0, .bool false]) H := Aq9 underlying127 zeroValue127 (ns := [1, 325]) ⟨sizeOf3, sizeOf125, trivial⟩ [(0, .int kx1 x1)] (out := [.int kx1 x1, .int .i64 0, .int .i64 0, .bool false, .int .i64 0, .int .i64 0, .bool false, .int .i64 0, .int .i64 0, .bool false, .int .i64 0, .int .i64 0, .bool false, .int .i64 0, .int .i64 0, .bool false, .int .i64 0, .int .i64 0, .bool false, .int .i64 0, .int .i64 0, .int .i64 0, .int .i64 0, .int .i64 0, .int .i64 0, .bool false, .int .i64 0, .int .i64 0, .bool false, .int .i64 0, .int .i64 0, .bool false, .int .i64 0, .int .i64 0, .bool false, .int .i64 0, .int .i64 0, .bool false, .int .i64 0, .int .i64 0, .bool false, .int .i64 0, .int .i64 0, .bool false, .int .i64 0, .int .i64 0, .int .i64 0, .int .i64 0, .int .i64 0, .int .i64 0, .bool false, .int .i64 0, .int .i64 0, .bool false, .int .i64 0, .int .i64 0, .bool false, .int .i64 0, .int .i64 0, .bool false, .int .i64 0, .int .i64 0, .bool false, .int .i64 0, .int .i64 0, .bool false, .int .i64 0, .int .i64 0, .bool false, .int .i64 0, .int .i64 0, .int .i64 0, .int .i64 0, .int .i64 0, .int .i64 0, .bool false, .int .i64 0, .int .i64 0, .bool false, .int .i64 0, .int .i64 0, .bool false, .int .i64 0, .int .i64 0, .bool false, .int .i64 0, .int .i64 0, .bool false, .int .i64 0, .int .i64 0, .bool false, .int .i64 0, .int .i64 0, .bool false, .int .i64 0, .int .i64 0, .int .i64 0, .int .i64 0, .int .i64 0, .int .i64 0, .bool false, .int .i64 0, .int .i64 0, .bool false, .int .i64 0, .int .i64 0, .bool false, .int .i64 0, .int .i64 0, .bool false, .int .i64 0, .int .i64 0, .bool false, .int .i64 0, .int .i64 0, .bool false, .int .i64 0, .int .i64 0, .bool false, .int .i64 0, .int .i64 0, .int .i64 0, .int .i64 0, .int .i64 0, .int .i64 0, .bool false, .int .i64 0, .int .i64 0, .bool false, .int .i64 0, .int .i64 0, .bool false, .int .i64 0, .int .i64 0, .bool false, .int .i64 0, .int .i64 0, .bool false, .int .i64 0, .int .i64 0, .bool false, .int .i64 0, .int .i64 0, .bool false, .int .i64 0, .int .i64 0, .int .i64 0, .int .i64 0, .int .i64 0, .int .i64 0, .bool false, .int .i64 0, .int .i64 0, .bool false, .int .i64 0, .int .i64 0, .bool false, .int .i64 0, .int .i64 0, .bool false, .int .i64 0, .int .i64 0, .bool false, .int .i64 0, .int .i64 0, .bool false, .int .i64 0, .int .i64 0, .bool false, .int .i64 0, .int .i64 0, .int .i64 0, .int .i64 0, .int .i64 0, .int .i64 0, .bool false, .int .i64 0, .int .i64 0, .bool false, .int .i64 0, .int .i64 0, .bool false, .int .i64 0, .int .i64 0, .bool false, .int .i64 0, .int .i64 0, .bool false, .int .i64 0, .int .i64 0, .bool false, .int .i64 0, .int .i64 0, .bool false, .int .i64 0, .int .i64 0, .int .i64 0, .int .i64 0, .int .i64 0, .int .i64 0, .bool false, .int .i64 0, .int .i64 0, .bool false, .int .i64 0, .int .i64 0, .bool false, .int .i64 0, .int .i64 0, .bool false, .int .i64 0, .int .i64 0, .bool false, .int .i64 0, .int .i64 0, .bool false, .int .i64 0, .int .i64 0, .bool false, .int .i64 0, .int .i64 0, .int .i64 0, .int .i64 0, .int .i64 0, .int .i64 0, .bool false, .int .i64 0, .int .i64 0, .bool false, .int .i64 0, .int .i64 0, .bool false, .int .i64 0, .int .i64 0, .bool false, .int .i64 0, .int .i64 0, .bool false, .int .i64 0, .int .i64 0, .bool false, .int .i64 0, .int .i64 0, .bool false, .int .i64 0, .int .i64 0, .int .i64 0, .int .i64 0, .int .i64 0, .int .i64 0, .bool false, .int .i64 0, .int .i64 0, .bool false, .int .i64 0, .int .i64 0, .bool false, .int .i64 0, .int .i64 0, .bool false, .int .i64 0, .int .i64 0, .bool false, .int .i64 0, .int .i64 0, .bool false, .int .i64 0, .int .i64 0, .bool false, .int .i64 0, .int .i64 0, .int .i64 0, .int .i64 0, .int .i64 0, .int .i64 0, .bool false, .int .i64 0, .int .i64 0, .bool false, .int .i64 0, .int .i64 0, .bool false, .int .i64 0, .int .i64 0, .bool false, .int .i64 0, .int .i64 0, .bool false, .int .i64 0, .int .i64 0, .bool false, .int .i64 0, .int .i64 0, .bool false, .int .i64 0, .int .i64 0, .int .i64 0, .int .i64 0, .int .i64 0, .int .i64 0, .bool false, .int .i64 0, .int .i64 0, .bool false, .int .i64 0, .int .i64 0, .bool false, .int .i64 0, .int .i64 0, .bool false, .int .i64 0, .int .i64 0, .bool false, .int .i64 0, .int .i64 0, .bool false, .int .i64 0, .int .i64 0, .bool false, .int .i64 0, .int .i64 0, .int .i64 0, .int .i64 0, .int .i64 0, .int .i64 0, .bool false]) (by kernel_rfl) K E
theorem Cx6 (H : Hp)  (K : Value -> Hp -> Prop) (E : Value -> Hp -> Prop) : wpS Tryz.prog (Instr.build 200 #[]) H K E = K (.agg #[]) H := Aq9 underlying200 zeroValue200 (ns := []) trivial [] (out := []) (by kernel_rfl) K E
theorem Bwy (H : Hp) (kx1 : IntKind) (x1 : Int) (K : Value -> Hp -> Prop) (E : Value -> Hp -> Prop) : wpS Tryz.prog (Instr.build 206 #[(0, .int kx1 x1)]) H K E = K (.agg #[.int kx1 x1]) H := Aq9 underlying206 zeroValue206 (ns := [1]) ⟨sizeOf3, trivial⟩ [(0, .int kx1 x1)] (out := [.int kx1 x1]) (by kernel_rfl) K E
theorem Bwz (H : Hp) (kx1 : IntKind) (x1 : Int) (K : Value -> Hp -> Prop) (E : Value -> Hp -> Prop) : wpS Tryz.prog (Instr.build 208 #[(0, .int kx1 x1)]) H K E = K (.agg #[.int kx1 x1]) H := Aq9 underlying208 zeroValue208 (ns := [1]) ⟨sizeOf3, trivial⟩ [(0, .int kx1 x1)] (out := [.int kx1 x1]) (by kernel_rfl) K E
end Go.Proofs.YtnfnaehonkbknaaGreatDoor
end
section
namespace Go.Proofs.YtnfnaehonkbknaaGreatDoor
open Go Go.X Go.Proofs.Tryz
variable {H : Hp} (args : Array Value) (K : Next -> Hp -> Prop) (E : Value -> Hp -> Prop)
def Dxd := Aqg (H := H) func10 (by kernel_rfl) (by kernel_rfl) args K E
def callF11 := Aqg (H := H) func11 (by kernel_rfl) (by kernel_rfl) args K E
def Dxe := Aqg (H := H) func12 (by kernel_rfl) (by kernel_rfl) args K E
def callF13 := Aqg (H := H) func13 (by kernel_rfl) (by kernel_rfl) args K E
def Cjz := Aqg (H := H) func14 (by kernel_rfl) (by kernel_rfl) args K E
def callF17 := Aqg (H := H) func17 (by kernel_rfl) (by kernel_rfl) args K E
def Dxf := Aqg (H := H) func18 (by kernel_rfl) (by kernel_rfl) args K E
def callF19 := Aqg (H := H) func19 (by kernel_rfl) (by kernel_rfl) args K E
def callF20 := Aqg (H := H) func20 (by kernel_rfl) (by kernel_rfl) args K E
def Dxg := Aqg (H := H) func22 (by kernel_rfl) (by kernel_rfl) args K E
def Dxh := Aqg (H := H) func23 (by kernel_rfl) (by kernel_rfl) args K E
def Dxi := Aqg (H := H) func24 (by kernel_rfl) (by kernel_rfl) args K E
def Dxj := Aqg (H := H) func26 (by kernel_rfl) (by kernel_rfl) args K E
def callF27 := Aqg (H := H) func27 (by kernel_rfl) (by kernel_rfl) args K E
def callF28 := Aqg (H := H) func28 (by kernel_rfl) (by kernel_rfl) args K E
def Cj0 := Aqg (H := H) func29 (by kernel_rfl) (by kernel_rfl) args K E
def Dxk := Aqg (H := H) func30 (by kernel_rfl) (by kernel_rfl) args K E
def Bjx := Aqg (H := H) func31 (by kernel_rfl) (by kernel_rfl) args K E
def Dxl := Aqg (H := H) func32 (by kernel_rfl) (by kernel_rfl) args K E
def Dxm := Aqg (H := H) func33 (by kernel_rfl) (by kernel_rfl) args K E
def Dxn := Aqg (H := H) func34 (by kernel_rfl) (by kernel_rfl) args K E
def Dxo := Aqg (H := H) func35 (by kernel_rfl) (by kernel_rfl) args K E
def Avp := Aqg (H := H) func43 (by kernel_rfl) (by kernel_rfl) args K E
def Ayv := Aqg (H := H) func44 (by kernel_rfl) (by kernel_rfl) args K E
def Dxp := Aqg (H := H) func45 (by kernel_rfl) (by kernel_rfl) args K E
def Bjy := Aqg (H := H) func46 (by kernel_rfl) (by kernel_rfl) args K E
def Bw2 := Aqg (H := H) func47 (by kernel_rfl) (by kernel_rfl) args K E
def Bw3 := Aqg (H := H) func48 (by kernel_rfl) (by kernel_rfl) args K E
def Cj1 := Aqg (H := H) func49 (by kernel_rfl) (by kernel_rfl) args K E
def Bjz := Aqg (H := H) func51 (by kernel_rfl) (by kernel_rfl) args K E
def Dxq := Aqg (H := H) func52 (by kernel_rfl) (by kernel_rfl) args K E
def Dxr := Aqg (H := H) func53 (by kernel_rfl) (by kernel_rfl) args K E
def Dxs := Aqg (H := H) func54 (by kernel_rfl) (by kernel_rfl) args K E
def callF55 := Aqg (H := H) func55 (by kernel_rfl) (by kernel_rfl) args K E
def Dxt := Aqg (H := H) func56 (by kernel_rfl) (by kernel_rfl) args K E
def Dxu := Aqg (H := H) func57 (by kernel_rfl) (by kernel_rfl) args K E
def Cj2 := Aqg (H := H) func58 (by kernel_rfl) (by kernel_rfl) args K E
def Awm := Aqg (H := H) func59 (by kernel_rfl) (by kernel_rfl) args K E
def Bw4 := Aqg (H := H) func60 (by kernel_rfl) (by kernel_rfl) args K E
def Dxv := Aqg (H := H) func61 (by kernel_rfl) (by kernel_rfl) args K E
def Dxw := Aqg (H := H) func62 (by kernel_rfl) (by kernel_rfl) args K E
def Bw5 := Aqg (H := H) func63 (by kernel_rfl) (by kernel_rfl) args K E
def Cj3 := Aqg (H := H) func64 (by kernel_rfl) (by kernel_rfl) args K E
def Dxx := Aqg (H := H) func65 (by kernel_rfl) (by kernel_rfl) args K E
def Bw6 := Aqg (H := H) func66 (by kernel_rfl) (by kernel_rfl) args K E
def Bw7 := Aqg (H := H) func67 (by kernel_rfl) (by kernel_rfl) args K E
def Bw8 := Aqg (H := H) func68 (by kernel_rfl) (by kernel_rfl) args K E
def Dxy := Aqg (H := H) func69 (by kernel_rfl) (by kernel_rfl) args K E
def Dxz := Aqg (H := H) func70 (by kernel_rfl) (by kernel_rfl) args K E
def Dx0 := Aqg (H := H) func71 (by kernel_rfl) (by kernel_rfl) args K E
def Dx1 := Aqg (H := H) func72 (by kernel_rfl) (by kernel_rfl) args K E
def Dx2 := Aqg (H := H) func73 (by kernel_rfl) (by kernel_rfl) args K E
def callF74 := Aqg (H := H) func74 (by kernel_rfl) (by kernel_rfl) args K E
def Dx3 := Aqg (H := H) func76 (by kernel_rfl) (by kernel_rfl) args K E
def Dx4 := Aqg (H := H) func78 (by kernel_rfl) (by kernel_rfl) args K E
def Dx5 := Aqg (H := H) func79 (by kernel_rfl) (by kernel_rfl) args K E
def callF84 := Aqg (H := H) func84 (by kernel_rfl) (by kernel_rfl) args K E
def Cj4 := Aqg (H := H) func98 (by kernel_rfl) (by kernel_rfl) args K E
def Cj5 := Aqg (H := H) func99 (by kernel_rfl) (by kernel_rfl) args K E
def Cwk := Aqg (H := H) func112 (by kernel_rfl) (by kernel_rfl) args K E
def Cq2 := Aqg (H := H) func113 (by kernel_rfl) (by kernel_rfl) args K E
def Cwl := Aqg (H := H) func114 (by kernel_rfl) (by kernel_rfl) args K E
def Cwm := Aqg (H := H) func115 (by kernel_rfl) (by kernel_rfl) args K E
def Cwn := Aqg (H := H) func150 (by kernel_rfl) (by kernel_rfl) args K E
def Cwo := Aqg (H := H) func151 (by kernel_rfl) (by kernel_rfl) args K E
def xq := aN @Nat.zero_add (aN @Nat.add_zero (aN @Bool.true_or (aN @true_and (aN @eval_const (aN @eval_func (aN @Aq6 (aN @Aq0 (aN @Aqp (aN @Axg (aN @Aqd (aN @Cyu (aN @Ck7 (aN @Czw (aN @Czy (aN @Bzx (aN @Dqx (aN @Dxa (aN @Dq4 (aN @Dq7 (aN @Dq6 (aN @Dqy (aN @Dz9 (aN @Dxb (aN @Cx5 (aN @Dq8 (aN @Dq9 (aN @Dqz (aN @Dq5 (aN @Dq3 (aN @Dq2 (aN @Dq1 (aN @Dq0 (aN @Dx9 (aN @Dkc (aN @Dkb (aN @w64 (aN @Ajx (aN @act_get? (aN @Bool.false_eq_true (aN @Bool.true_eq_false (aN @Cy7 (aN @Avr (aN @Djy (aN @Cqi (aN @Cjd (aN @Ajt (aN @Byv (aN @Czf (aN @Cze (aN @Ckd (aN @Aq3 (aN @Cwa (aN @Bj1 (aN @Bkm (aN @Axj (aN @Cvw (aN @Bxw (aN @Bool.and_true (aN @Bool.and_self (aN @Cyq (aN @Ck3 (aN @Czs (aN @Cj6 (aN @Cx9 (aN @Byc (aN @Bj2 (aN @Cj7 (aN @Byb (aN @Bvc (aN @and_true (aN @Nat.le_refl (aN @Ckl (aN @Cwx @Ak0)))))))))))))))))))))))))))))))))))))))))))))))))))))))))))))))))))))))))
def xp := aN @Dzd (aN @Ckg (aN @Dze (aN @Djn (aN @Dzc (aN @Cw9 (aN @Bvi (aN @Cw2 (aN @Bvj (aN @Cw3 (aN @Czj (aN @Djp (aN @Djm (aN @Dkp (aN @Czh (aN @Bqt (aN @Awn (aN @Cw8 (aN @Bvk (aN @Cwy (aN @Bj6 (aN @Cki (aN @Bvl (aN @Bj8 (aN @Czg (aN @Cwz (aN @Cw0 (aN @Cqj (aN @Cqk @Czk))))))))))))))))))))))))))))
def qc := aN @List.size_toArray.{0} (aN @List.length_cons.{0} (aN @List.length_nil.{0} (aN @List.getElem?_toArray.{0} (aN @List.getElem?_cons_zero.{0} (aN @List.getElem?_cons_succ.{0} (aN @Option.isNone_none.{0} (aN @List.map_toArray.{0,0} (aN @List.map_cons.{0,0} (aN @List.map_nil.{0,0} (aN @Option.bind_some.{0,0} (aN @beq_iff_eq.{0} (aN @Option.some.injEq.{0} (aN @List.setIfInBounds_toArray.{0} (aN @List.set_cons_succ.{0} (aN @List.set_cons_zero.{0} (aN @List.extract_toArray.{0} (aN @List.extract_eq_take_drop.{0} (aN @List.take_succ_cons.{0} (aN @List.take_zero.{0} (aN @List.drop_succ_cons.{0} (aN @List.drop_zero.{0} (aN @List.take_nil.{0} (aN @List.drop_nil.{0} (aN @List.cons_append.{0} (aN @List.nil_append.{0} (aN @List.append_assoc.{0} (aN @List.append_nil.{0} (aN @List.all_cons.{0} (aN @List.all_nil.{0} (aN @List.toList_toArray.{0} (aN @Option.map_none.{0,0} @Option.map_some.{0,0})))))))))))))))))))))))))))))))
def qd := aN @List.length_cons.{0} @List.length_nil.{0}
end Go.Proofs.YtnfnaehonkbknaaGreatDoor
end
section
namespace Go.X
structure Hid (q : Prop) : Prop where
 out : q
theorem unH {q : Prop} (h : Hid q) : q := h.out
theorem unT {G : Prop} (h : True -> G) : G := h trivial
theorem unC {c G : Prop} (h : c -> G) : c -> True -> G := fun a _ => h a
theorem unD {c d G : Prop} (h : c /\ d -> G) : c -> d -> G := fun a b => h ⟨a, b⟩
theorem unU {X : Prop} (h : ∀ (_ : Unit) (_ : True), X) : X := h () trivial
def Aqo (p : Prop) : Prop := p
theorem zA {Y p q : Prop} (y : Y) (g : q) (h : Hid Y -> Hid q -> p := by
 intro yy g
 repeat' (first
 | (refine Axv rfl ?_; intro Kz hKz; simp -implicitDefEqProofs (disch := first | omega | (simp only [qd] <;> omega)) only [xq, ↓xp, qc, Nat.reduceAdd, List.range, List.range.loop, fine, Nat.reduceEqDiff, ↓reduceIte, yielded, reduceCtorEq, Nat.reduceLT, Nat.reduceMul, Nat.reduceSub, one, Nat.reduceLeDiff, Aqj, yy.out, aq, ↓ap, qe0, qe1, qe2, *, -g, -yy, -hKz]; try (refine hKz _ _ ?_; clear hKz Kz))
 | (refine Az0 rfl ?_; intro Kz hKz; simp -implicitDefEqProofs (disch := first | omega | (simp only [qd] <;> omega)) only [xq, ↓xp, qc, Nat.reduceAdd, List.range, List.range.loop, fine, Nat.reduceEqDiff, ↓reduceIte, yielded, reduceCtorEq, Nat.reduceLT, Nat.reduceMul, Nat.reduceSub, one, Nat.reduceLeDiff, Aqj, yy.out, aq, ↓ap, qe0, qe1, qe2, *, -g, -yy, -hKz]; try (refine hKz _ _ ?_; clear hKz Kz; (try simp only [nq, ↓reduceIte, Nat.reduceEqDiff])))
 | (refine Ajc ?_; (try simp only [nq, ↓reduceIte, Nat.reduceEqDiff]))
 | (refine Azu ?_; (try simp only [nq, ↓reduceIte, Nat.reduceEqDiff]))
 | (refine Ajo ?_; (try simp only [nq, ↓reduceIte, Nat.reduceEqDiff]))
 | (refine Ajp ?_; (try simp only [nq, ↓reduceIte, Nat.reduceEqDiff]))
 | (refine Azz (by simp only [Aq6, Axg, Nat.reduceEqDiff, Nat.reduceLT, ↓reduceIte, *, -g, -yy]; rfl) ?_ ?_ <;> (intro hcz; first | (exfalso; simp -implicitDefEqProofs (disch := omega) only [*, -g, -yy, bq, reduceCtorEq] at hcz; done) | (simp only [dq, qe3, qe4, qe5, qe6] at hcz) | skip))
 | (refine Az7 ?_)
 | (refine Azt ?_)
 | (refine Axy ?_))
 refine unT ?_; (try (revert hcz; refine unC ?_)); (repeat (revert hcz; refine unD ?_)); first | revert Kz | refine unU ?_
 exact Hid.out g) : Hid p := ⟨h ⟨y⟩ ⟨g⟩⟩
theorem zS {Y p q : Prop} (y : Y) (g : q) (h : Hid Y -> Hid q -> p := by
 intro yy g
 repeat' (first
 | (refine Axv rfl ?_; intro Kz hKz; simp -implicitDefEqProofs (disch := first | omega | (simp only [qd] <;> omega)) only [xq, ↓xp, qc, Nat.reduceAdd, List.range, List.range.loop, fine, Nat.reduceEqDiff, ↓reduceIte, yielded, reduceCtorEq, Nat.reduceLT, Nat.reduceMul, Nat.reduceSub, one, Nat.reduceLeDiff, Aqj, yy.out, aq, ↓ap, qe0, qe1, qe2, *, -g, -yy, -hKz]; try (refine hKz _ _ ?_; clear hKz Kz))
 | (refine Az0 rfl ?_; intro Kz hKz; simp -implicitDefEqProofs (disch := first | omega | (simp only [qd] <;> omega)) only [xq, ↓xp, qc, Nat.reduceAdd, List.range, List.range.loop, fine, Nat.reduceEqDiff, ↓reduceIte, yielded, reduceCtorEq, Nat.reduceLT, Nat.reduceMul, Nat.reduceSub, one, Nat.reduceLeDiff, Aqj, yy.out, aq, ↓ap, qe0, qe1, qe2, *, -g, -yy, -hKz]; try (refine hKz _ _ ?_; clear hKz Kz; (try simp only [nq, ↓reduceIte, Nat.reduceEqDiff])))
 | (refine Ajc ?_; (try simp only [nq, ↓reduceIte, Nat.reduceEqDiff]))
 | (refine Azu ?_; (try simp only [nq, ↓reduceIte, Nat.reduceEqDiff]))
 | (refine Ajo ?_; (try simp only [nq, ↓reduceIte, Nat.reduceEqDiff]))
 | (refine Ajp ?_; (try simp only [nq, ↓reduceIte, Nat.reduceEqDiff]))
 | (refine Azz (by simp only [Aq6, Axg, Nat.reduceEqDiff, Nat.reduceLT, ↓reduceIte, *, -g, -yy]; rfl) ?_ ?_ <;> (intro hcz; first | (exfalso; simp -implicitDefEqProofs (disch := omega) only [*, -g, -yy, bq, reduceCtorEq] at hcz; done) | (simp only [dq, qe3, qe4, qe5, qe6] at hcz) | skip)))
 refine unT ?_; (try (revert hcz; refine unC ?_)); (repeat (revert hcz; refine unD ?_)); first | revert Kz | refine unU ?_
 exact Hid.out g) : Hid p := ⟨h ⟨y⟩ ⟨g⟩⟩
theorem zX {Y p q : Prop} (y : Y) (g : q) (h : Hid Y -> Hid q -> p := by
 intro yy g
 simp -implicitDefEqProofs (disch := first | omega | (simp only [qd] <;> omega)) only [xq, ↓xp, qc, Nat.reduceAdd, List.range, List.range.loop, fine, Nat.reduceEqDiff, ↓reduceIte, yielded, reduceCtorEq, Nat.reduceLT, Nat.reduceMul, Nat.reduceSub, one, Nat.reduceLeDiff, Aqj, yy.out, aq, ↓ap, qe0, qe1, qe2, *, -g, -yy, -hK]
 exact Hid.out g) : Hid p := ⟨h ⟨y⟩ ⟨g⟩⟩
theorem zU {Y p q : Prop} (y : Y) (g : q) (h : Hid Y -> Hid q -> p := by
 intro yy g
 (try (simp -implicitDefEqProofs (disch := first | omega | (simp only [qd] <;> omega)) only [xq, ↓xp, qc, Nat.reduceAdd, List.range, List.range.loop, fine, Nat.reduceEqDiff, ↓reduceIte, yielded, reduceCtorEq, Nat.reduceLT, Nat.reduceMul, Nat.reduceSub, one, Nat.reduceLeDiff, Aqj, yy.out, aq, ↓ap, qe0, qe1, qe2, *, -g, -yy, -hK])); (try (refine hK _ _ ?_; try simp only [nq, ↓reduceIte, Nat.reduceEqDiff]))
 repeat' (first
 | (refine Axv rfl ?_; intro Kz hKz; simp -implicitDefEqProofs (disch := first | omega | (simp only [qd] <;> omega)) only [xq, ↓xp, qc, Nat.reduceAdd, List.range, List.range.loop, fine, Nat.reduceEqDiff, ↓reduceIte, yielded, reduceCtorEq, Nat.reduceLT, Nat.reduceMul, Nat.reduceSub, one, Nat.reduceLeDiff, Aqj, yy.out, aq, ↓ap, qe0, qe1, qe2, *, -g, -yy, -hKz]; try (refine hKz _ _ ?_; clear hKz Kz))
 | (refine Az0 rfl ?_; intro Kz hKz; simp -implicitDefEqProofs (disch := first | omega | (simp only [qd] <;> omega)) only [xq, ↓xp, qc, Nat.reduceAdd, List.range, List.range.loop, fine, Nat.reduceEqDiff, ↓reduceIte, yielded, reduceCtorEq, Nat.reduceLT, Nat.reduceMul, Nat.reduceSub, one, Nat.reduceLeDiff, Aqj, yy.out, aq, ↓ap, qe0, qe1, qe2, *, -g, -yy, -hKz]; try (refine hKz _ _ ?_; clear hKz Kz; (try simp only [nq, ↓reduceIte, Nat.reduceEqDiff])))
 | (refine Ajc ?_; (try simp only [nq, ↓reduceIte, Nat.reduceEqDiff]))
 | (refine Azu ?_; (try simp only [nq, ↓reduceIte, Nat.reduceEqDiff]))
 | (refine Ajo ?_; (try simp only [nq, ↓reduceIte, Nat.reduceEqDiff]))
 | (refine Ajp ?_; (try simp only [nq, ↓reduceIte, Nat.reduceEqDiff]))
 | (refine Azz (by simp only [Aq6, Axg, Nat.reduceEqDiff, Nat.reduceLT, ↓reduceIte, *, -g, -yy]; rfl) ?_ ?_ <;> (intro hcz; first | (exfalso; simp -implicitDefEqProofs (disch := omega) only [*, -g, -yy, bq, reduceCtorEq] at hcz; done) | (simp only [dq, qe3, qe4, qe5, qe6] at hcz) | skip))
 | (refine Az7 ?_)
 | (refine Azt ?_)
 | (refine Axy ?_))
 refine unT ?_; (try (revert hcz; refine unC ?_)); (repeat (revert hcz; refine unD ?_)); first | revert Kz | refine unU ?_
 exact Hid.out g) : Hid p := ⟨h ⟨y⟩ ⟨g⟩⟩
theorem zV {Y p q : Prop} (y : Y) (g : q) (h : Hid Y -> Hid q -> p := by
 intro yy g
 (try (simp -implicitDefEqProofs (disch := first | omega | (simp only [qd] <;> omega)) only [xq, ↓xp, qc, Nat.reduceAdd, List.range, List.range.loop, fine, Nat.reduceEqDiff, ↓reduceIte, yielded, reduceCtorEq, Nat.reduceLT, Nat.reduceMul, Nat.reduceSub, one, Nat.reduceLeDiff, Aqj, yy.out, aq, ↓ap, qe0, qe1, qe2, *, -g, -yy, -hK])); (try (refine hK _ _ ?_; try simp only [nq, ↓reduceIte, Nat.reduceEqDiff]))
 repeat' (first
 | (refine Axv rfl ?_; intro Kz hKz; simp -implicitDefEqProofs (disch := first | omega | (simp only [qd] <;> omega)) only [xq, ↓xp, qc, Nat.reduceAdd, List.range, List.range.loop, fine, Nat.reduceEqDiff, ↓reduceIte, yielded, reduceCtorEq, Nat.reduceLT, Nat.reduceMul, Nat.reduceSub, one, Nat.reduceLeDiff, Aqj, yy.out, aq, ↓ap, qe0, qe1, qe2, *, -g, -yy, -hKz]; try (refine hKz _ _ ?_; clear hKz Kz))
 | (refine Az0 rfl ?_; intro Kz hKz; simp -implicitDefEqProofs (disch := first | omega | (simp only [qd] <;> omega)) only [xq, ↓xp, qc, Nat.reduceAdd, List.range, List.range.loop, fine, Nat.reduceEqDiff, ↓reduceIte, yielded, reduceCtorEq, Nat.reduceLT, Nat.reduceMul, Nat.reduceSub, one, Nat.reduceLeDiff, Aqj, yy.out, aq, ↓ap, qe0, qe1, qe2, *, -g, -yy, -hKz]; try (refine hKz _ _ ?_; clear hKz Kz; (try simp only [nq, ↓reduceIte, Nat.reduceEqDiff])))
 | (refine Ajc ?_; (try simp only [nq, ↓reduceIte, Nat.reduceEqDiff]))
 | (refine Azu ?_; (try simp only [nq, ↓reduceIte, Nat.reduceEqDiff]))
 | (refine Ajo ?_; (try simp only [nq, ↓reduceIte, Nat.reduceEqDiff]))
 | (refine Ajp ?_; (try simp only [nq, ↓reduceIte, Nat.reduceEqDiff]))
 | (refine Azz (by simp only [Aq6, Axg, Nat.reduceEqDiff, Nat.reduceLT, ↓reduceIte, *, -g, -yy]; rfl) ?_ ?_ <;> (intro hcz; first | (exfalso; simp -implicitDefEqProofs (disch := omega) only [*, -g, -yy, bq, reduceCtorEq] at hcz; done) | (simp only [dq, qe3, qe4, qe5, qe6] at hcz) | skip)))
 refine unT ?_; (try (revert hcz; refine unC ?_)); (repeat (revert hcz; refine unD ?_)); first | revert Kz | refine unU ?_
 exact Hid.out g) : Hid p := ⟨h ⟨y⟩ ⟨g⟩⟩
theorem zAi {Y p q : Prop} (y : Y) (g : q) (h : Hid Y -> Hid q -> p := by
 intro yy g
 repeat' (first
 | (refine Axv rfl ?_; intro Kz hKz; simp -implicitDefEqProofs (disch := first | omega | (simp only [qd] <;> omega)) only [xq, ↓xp, qc, Nat.reduceAdd, List.range, List.range.loop, fine, Nat.reduceEqDiff, ↓reduceIte, yielded, reduceCtorEq, Nat.reduceLT, Nat.reduceMul, Nat.reduceSub, one, Nat.reduceLeDiff, Aqj, yy.out, ↓Aka, aq, ↓ap, qe0, qe1, qe2, *, -g, -yy, -hKz]; try (refine hKz _ _ ?_; clear hKz Kz))
 | (refine Az0 rfl ?_; intro Kz hKz; simp -implicitDefEqProofs (disch := first | omega | (simp only [qd] <;> omega)) only [xq, ↓xp, qc, Nat.reduceAdd, List.range, List.range.loop, fine, Nat.reduceEqDiff, ↓reduceIte, yielded, reduceCtorEq, Nat.reduceLT, Nat.reduceMul, Nat.reduceSub, one, Nat.reduceLeDiff, Aqj, yy.out, ↓Aka, aq, ↓ap, qe0, qe1, qe2, *, -g, -yy, -hKz]; try (refine hKz _ _ ?_; clear hKz Kz; (try simp only [nq, ↓reduceIte, Nat.reduceEqDiff])))
 | (refine Ajc ?_; (try simp only [nq, ↓reduceIte, Nat.reduceEqDiff]))
 | (refine Azu ?_; (try simp only [nq, ↓reduceIte, Nat.reduceEqDiff]))
 | (refine Ajo ?_; (try simp only [nq, ↓reduceIte, Nat.reduceEqDiff]))
 | (refine Ajp ?_; (try simp only [nq, ↓reduceIte, Nat.reduceEqDiff]))
 | (refine Azz (by simp only [Aq6, Axg, Nat.reduceEqDiff, Nat.reduceLT, ↓reduceIte, *, -g, -yy]; rfl) ?_ ?_ <;> (intro hcz; first | (exfalso; simp -implicitDefEqProofs (disch := omega) only [*, -g, -yy, bq, reduceCtorEq] at hcz; done) | (simp only [dq, qe3, qe4, qe5, qe6] at hcz) | skip))
 | (refine Az7 ?_)
 | (refine Azt ?_)
 | (refine Axy ?_))
 refine unT ?_; (try (revert hcz; refine unC ?_)); (repeat (revert hcz; refine unD ?_)); first | revert Kz | refine unU ?_
 exact Hid.out g) : Hid p := ⟨h ⟨y⟩ ⟨g⟩⟩
theorem zXi {Y p q : Prop} (y : Y) (g : q) (h : Hid Y -> Hid q -> p := by
 intro yy g
 simp -implicitDefEqProofs (disch := first | omega | (simp only [qd] <;> omega)) only [xq, ↓xp, qc, Nat.reduceAdd, List.range, List.range.loop, fine, Nat.reduceEqDiff, ↓reduceIte, yielded, reduceCtorEq, Nat.reduceLT, Nat.reduceMul, Nat.reduceSub, one, Nat.reduceLeDiff, Aqj, yy.out, ↓Aka, aq, ↓ap, qe0, qe1, qe2, *, -g, -yy, -hK]
 exact Hid.out g) : Hid p := ⟨h ⟨y⟩ ⟨g⟩⟩
theorem zUi {Y p q : Prop} (y : Y) (g : q) (h : Hid Y -> Hid q -> p := by
 intro yy g
 (try (simp -implicitDefEqProofs (disch := first | omega | (simp only [qd] <;> omega)) only [xq, ↓xp, qc, Nat.reduceAdd, List.range, List.range.loop, fine, Nat.reduceEqDiff, ↓reduceIte, yielded, reduceCtorEq, Nat.reduceLT, Nat.reduceMul, Nat.reduceSub, one, Nat.reduceLeDiff, Aqj, yy.out, ↓Aka, aq, ↓ap, qe0, qe1, qe2, *, -g, -yy, -hK])); (try (refine hK _ _ ?_; try simp only [nq, ↓reduceIte, Nat.reduceEqDiff]))
 repeat' (first
 | (refine Axv rfl ?_; intro Kz hKz; simp -implicitDefEqProofs (disch := first | omega | (simp only [qd] <;> omega)) only [xq, ↓xp, qc, Nat.reduceAdd, List.range, List.range.loop, fine, Nat.reduceEqDiff, ↓reduceIte, yielded, reduceCtorEq, Nat.reduceLT, Nat.reduceMul, Nat.reduceSub, one, Nat.reduceLeDiff, Aqj, yy.out, ↓Aka, aq, ↓ap, qe0, qe1, qe2, *, -g, -yy, -hKz]; try (refine hKz _ _ ?_; clear hKz Kz))
 | (refine Az0 rfl ?_; intro Kz hKz; simp -implicitDefEqProofs (disch := first | omega | (simp only [qd] <;> omega)) only [xq, ↓xp, qc, Nat.reduceAdd, List.range, List.range.loop, fine, Nat.reduceEqDiff, ↓reduceIte, yielded, reduceCtorEq, Nat.reduceLT, Nat.reduceMul, Nat.reduceSub, one, Nat.reduceLeDiff, Aqj, yy.out, ↓Aka, aq, ↓ap, qe0, qe1, qe2, *, -g, -yy, -hKz]; try (refine hKz _ _ ?_; clear hKz Kz; (try simp only [nq, ↓reduceIte, Nat.reduceEqDiff])))
 | (refine Ajc ?_; (try simp only [nq, ↓reduceIte, Nat.reduceEqDiff]))
 | (refine Azu ?_; (try simp only [nq, ↓reduceIte, Nat.reduceEqDiff]))
 | (refine Ajo ?_; (try simp only [nq, ↓reduceIte, Nat.reduceEqDiff]))
 | (refine Ajp ?_; (try simp only [nq, ↓reduceIte, Nat.reduceEqDiff]))
 | (refine Azz (by simp only [Aq6, Axg, Nat.reduceEqDiff, Nat.reduceLT, ↓reduceIte, *, -g, -yy]; rfl) ?_ ?_ <;> (intro hcz; first | (exfalso; simp -implicitDefEqProofs (disch := omega) only [*, -g, -yy, bq, reduceCtorEq] at hcz; done) | (simp only [dq, qe3, qe4, qe5, qe6] at hcz) | skip))
 | (refine Az7 ?_)
 | (refine Azt ?_)
 | (refine Axy ?_))
 refine unT ?_; (try (revert hcz; refine unC ?_)); (repeat (revert hcz; refine unD ?_)); first | revert Kz | refine unU ?_
 exact Hid.out g) : Hid p := ⟨h ⟨y⟩ ⟨g⟩⟩
theorem zQ {p q : Prop} (g : q) (h : Hid q -> p := by
 intro g
 simp only [nq, ↓reduceIte, Nat.reduceEqDiff]
 exact Hid.out g) : Hid p := ⟨h ⟨g⟩⟩
theorem z0 {Y p q : Prop} (y : Y) (g : q) (h : Hid Y -> Hid q -> p := by
 intro yy g
 simp -implicitDefEqProofs (disch := first | omega | (simp only [qd] <;> omega)) only [xq, ↓xp, qc, Nat.reduceAdd, List.range, List.range.loop, fine, Nat.reduceEqDiff, ↓reduceIte, yielded, reduceCtorEq, Nat.reduceLT, Nat.reduceMul, Nat.reduceSub, one, Nat.reduceLeDiff, Aqj, yy.out]
 exact Hid.out g) : Hid p := ⟨h ⟨y⟩ ⟨g⟩⟩
theorem z1 {Y p q : Prop} (y : Y) (g : q) (h : Hid Y -> Hid q -> p := by
 intro yy g
 (refine Cxy ?_; intro K hK; simp -implicitDefEqProofs (disch := first | omega | (simp only [qd] <;> omega)) only [xq, ↓xp, qc, Nat.reduceAdd, List.range, List.range.loop, fine, Nat.reduceEqDiff, ↓reduceIte, yielded, reduceCtorEq, Nat.reduceLT, Nat.reduceMul, Nat.reduceSub, one, Nat.reduceLeDiff, Aqj, yy.out]; refine hK _ _ ?_; clear hK K)
 exact Hid.out g) : Hid p := ⟨h ⟨y⟩ ⟨g⟩⟩
theorem z2 {Y p q : Prop} (y : Y) (g : q) (h : Hid Y -> Hid q -> p := by
 intro yy g
 (refine Bkr ?_; intro K hK; simp -implicitDefEqProofs (disch := first | omega | (simp only [qd] <;> omega)) only [xq, ↓xp, qc, Nat.reduceAdd, List.range, List.range.loop, fine, Nat.reduceEqDiff, ↓reduceIte, yielded, reduceCtorEq, Nat.reduceLT, Nat.reduceMul, Nat.reduceSub, one, Nat.reduceLeDiff, Aqj, yy.out]; refine hK _ _ ?_; clear hK K)
 exact Hid.out g) : Hid p := ⟨h ⟨y⟩ ⟨g⟩⟩
theorem z3 {Y p q : Prop} (y : Y) (g : q) (h : Hid Y -> Hid q -> p := by
 intro yy g
 (apply Aym rfl rfl rfl; (focus (simp -implicitDefEqProofs (disch := first | omega | (simp only [qd] <;> omega)) only [xq, ↓xp, qc, Nat.reduceAdd, List.range, List.range.loop, fine, Nat.reduceEqDiff, ↓reduceIte, yielded, reduceCtorEq, Nat.reduceLT, Nat.reduceMul, Nat.reduceSub, one, Nat.reduceLeDiff, Aqj, yy.out, aq, ↓ap, qe0, qe1, qe2, *, -g, -yy, -hK, Aq3] <;> (first | exact rfl | exact ⟨rfl, rfl⟩ | exact ⟨rfl, trivial⟩))); simp -implicitDefEqProofs (disch := first | omega | (simp only [qd] <;> omega)) only [Aq0, Aqp])
 exact Hid.out g) : Hid p := ⟨h ⟨y⟩ ⟨g⟩⟩
theorem z3i {Y p q : Prop} (y : Y) (g : q) (h : Hid Y -> Hid q -> p := by
 intro yy g
 (apply Aym rfl rfl rfl; (focus (simp -implicitDefEqProofs (disch := first | omega | (simp only [qd] <;> omega)) only [xq, ↓xp, qc, Nat.reduceAdd, List.range, List.range.loop, fine, Nat.reduceEqDiff, ↓reduceIte, yielded, reduceCtorEq, Nat.reduceLT, Nat.reduceMul, Nat.reduceSub, one, Nat.reduceLeDiff, Aqj, yy.out, ↓Aka, aq, ↓ap, qe0, qe1, qe2, *, -g, -yy, -hK, Aq3] <;> (first | exact rfl | exact ⟨rfl, rfl⟩ | exact ⟨rfl, trivial⟩))); simp -implicitDefEqProofs (disch := first | omega | (simp only [qd] <;> omega)) only [Aq0, Aqp])
 exact Hid.out g) : Hid p := ⟨h ⟨y⟩ ⟨g⟩⟩
theorem z7 {Y p q : Prop} (y : Y) (g : q) (h : Hid Y -> Hid q -> p := by
 intro yy g
 simp -implicitDefEqProofs (disch := first | omega | (simp only [qd] <;> omega)) only [xq, ↓xp, qc, Nat.reduceAdd, List.range, List.range.loop, fine, Nat.reduceEqDiff, ↓reduceIte, yielded, reduceCtorEq, Nat.reduceLT, Nat.reduceMul, Nat.reduceSub, one, Nat.reduceLeDiff, Aqj, yy.out, aq, ↓ap, qe0, qe1, qe2, *, -g, -yy]
 exact Hid.out g) : Hid p := ⟨h ⟨y⟩ ⟨g⟩⟩
theorem z9 {Y p q : Prop} (y : Y) (g : q) (h : Hid Y -> Hid q -> p := by
 intro yy g
 (refine Axt ?_; (try simp only [nq, ↓reduceIte, Nat.reduceEqDiff]); rw [Aq7, Bx0 yy.out (by decide)]; simp only [Axg, Nat.reduceEqDiff, ↓reduceIte])
 exact Hid.out g) : Hid p := ⟨h ⟨y⟩ ⟨g⟩⟩
theorem zB {Y p q : Prop} (y : Y) (g : q) (h : Hid Y -> Hid q -> p := by
 intro yy g
 (refine Axt ?_; (try simp only [nq, ↓reduceIte, Nat.reduceEqDiff]); rw [Aq7, Byz yy.out (by decide) (by decide)]; simp only [Axg, Nat.reduceEqDiff, ↓reduceIte])
 exact Hid.out g) : Hid p := ⟨h ⟨y⟩ ⟨g⟩⟩
theorem zC {Y p q : Prop} (y : Y) (g : q) (h : Hid Y -> Hid q -> p := by
 intro yy g
 (refine Axt ?_; (try simp only [nq, ↓reduceIte, Nat.reduceEqDiff]); rw [Aq7, Bki yy.out (by decide) (by decide) (by decide)]; simp only [Axg, Nat.reduceEqDiff, ↓reduceIte])
 exact Hid.out g) : Hid p := ⟨h ⟨y⟩ ⟨g⟩⟩
theorem zD {Y p q : Prop} (y : Y) (g : q) (h : Hid Y -> Hid q -> p := by
 intro yy g
 ((try simp only [nq, ↓reduceIte, Nat.reduceEqDiff]); rw [Bvb, Avt yy.out])
 exact Hid.out g) : Hid p := ⟨h ⟨y⟩ ⟨g⟩⟩
theorem zI {Y p q : Prop} (y : Y) (g : q) (h : Hid Y -> Hid q -> p := by
 intro yy g
 (apply Ayz rfl rfl rfl; (focus (intro HX; simp -implicitDefEqProofs (disch := first | omega | (simp only [qd] <;> omega)) only [xq, ↓xp, qc, Nat.reduceAdd, List.range, List.range.loop, fine, Nat.reduceEqDiff, ↓reduceIte, yielded, reduceCtorEq, Nat.reduceLT, Nat.reduceMul, Nat.reduceSub, one, Nat.reduceLeDiff, Aqj, yy.out, aq, ↓ap, qe0, qe1, qe2, *, -g, -yy, -hK, Aq3] <;> (first | exact rfl | exact ⟨rfl, rfl⟩ | exact ⟨rfl, trivial⟩))); simp -implicitDefEqProofs (disch := first | omega | (simp only [qd] <;> omega)) only [Aq0, Aqp])
 exact Hid.out g) : Hid p := ⟨h ⟨y⟩ ⟨g⟩⟩
theorem zJ {Y p q : Prop} (y : Y) (g : q) (h : Hid Y -> Hid q -> p := by
 intro yy g
 (apply Aq5 rfl rfl rfl ‹_›; (focus (intro HX hHX; simp -implicitDefEqProofs (disch := first | omega | (simp only [qd] <;> omega)) only [xq, ↓xp, qc, Nat.reduceAdd, List.range, List.range.loop, fine, Nat.reduceEqDiff, ↓reduceIte, yielded, reduceCtorEq, Nat.reduceLT, Nat.reduceMul, Nat.reduceSub, one, Nat.reduceLeDiff, Aqj, yy.out, aq, ↓ap, qe0, qe1, qe2, *, -g, -yy, -hK, Aq3] <;> (first | exact rfl | exact ⟨rfl, rfl⟩ | exact ⟨rfl, trivial⟩))); simp -implicitDefEqProofs (disch := first | omega | (simp only [qd] <;> omega)) only [Aq0, Aqp])
 exact Hid.out g) : Hid p := ⟨h ⟨y⟩ ⟨g⟩⟩
theorem zF {Y p q : Prop} (y : Y) (g : q) (h : Hid Y -> Hid q -> p := by
 intro yy g
 (apply Cz1 hOz rfl rfl; (focus (intro HX; simp -implicitDefEqProofs (disch := first | omega | (simp only [qd] <;> omega)) only [xq, ↓xp, qc, Nat.reduceAdd, List.range, List.range.loop, fine, Nat.reduceEqDiff, ↓reduceIte, yielded, reduceCtorEq, Nat.reduceLT, Nat.reduceMul, Nat.reduceSub, one, Nat.reduceLeDiff, Aqj, yy.out, aq, ↓ap, qe0, qe1, qe2, *, -g, -yy, -hK, Aq3] <;> (first | exact rfl | exact ⟨rfl, rfl⟩ | exact ⟨rfl, trivial⟩))); simp -implicitDefEqProofs (disch := first | omega | (simp only [qd] <;> omega)) only [Aq0, Aqp])
 exact Hid.out g) : Hid p := ⟨h ⟨y⟩ ⟨g⟩⟩
theorem zG {Y p q : Prop} (y : Y) (g : q) (h : Hid Y -> Hid q -> p := by
 intro yy g
 (apply Byx hOz rfl rfl rfl rfl (by simp -implicitDefEqProofs (disch := omega) only [act_get?, Axg, Nat.reduceEqDiff, ↓reduceIte, beq_self_eq_true, Bool.and_self, *, -g, -yy]); (focus (intro HX; simp -implicitDefEqProofs (disch := first | omega | (simp only [qd] <;> omega)) only [xq, ↓xp, qc, Nat.reduceAdd, List.range, List.range.loop, fine, Nat.reduceEqDiff, ↓reduceIte, yielded, reduceCtorEq, Nat.reduceLT, Nat.reduceMul, Nat.reduceSub, one, Nat.reduceLeDiff, Aqj, yy.out, aq, ↓ap, qe0, qe1, qe2, *, -g, -yy, -hK, Aq3] <;> (first | exact rfl | exact ⟨rfl, rfl⟩ | exact ⟨rfl, trivial⟩))); simp -implicitDefEqProofs (disch := first | omega | (simp only [qd] <;> omega)) only [Aq0, Aqp])
 exact Hid.out g) : Hid p := ⟨h ⟨y⟩ ⟨g⟩⟩
theorem zK {Y p q : Prop} (y : Y) (g : q) (h : Hid Y -> Hid q -> p := by
 intro yy g
 (apply Bjc hOz rfl rfl ‹_›; (focus (intro HX hHX; simp -implicitDefEqProofs (disch := first | omega | (simp only [qd] <;> omega)) only [xq, ↓xp, qc, Nat.reduceAdd, List.range, List.range.loop, fine, Nat.reduceEqDiff, ↓reduceIte, yielded, reduceCtorEq, Nat.reduceLT, Nat.reduceMul, Nat.reduceSub, one, Nat.reduceLeDiff, Aqj, yy.out, aq, ↓ap, qe0, qe1, qe2, *, -g, -yy, -hK, Aq3] <;> (first | exact rfl | exact ⟨rfl, rfl⟩ | exact ⟨rfl, trivial⟩))); simp -implicitDefEqProofs (disch := first | omega | (simp only [qd] <;> omega)) only [Aq0, Aqp])
 exact Hid.out g) : Hid p := ⟨h ⟨y⟩ ⟨g⟩⟩
theorem zL {Y p q : Prop} (y : Y) (g : q) (h : Hid Y -> Hid q -> p := by
 intro yy g
 (apply Bjc hOz rfl rfl (by rfl); (focus (intro HX hHX; subst hHX; simp -implicitDefEqProofs (disch := first | omega | (simp only [qd] <;> omega)) only [xq, ↓xp, qc, Nat.reduceAdd, List.range, List.range.loop, fine, Nat.reduceEqDiff, ↓reduceIte, yielded, reduceCtorEq, Nat.reduceLT, Nat.reduceMul, Nat.reduceSub, one, Nat.reduceLeDiff, Aqj, yy.out, aq, ↓ap, qe0, qe1, qe2, *, -g, -yy, -hK, Aq3] <;> (first | exact rfl | exact ⟨rfl, rfl⟩ | exact ⟨rfl, trivial⟩))); simp -implicitDefEqProofs (disch := first | omega | (simp only [qd] <;> omega)) only [Aq0, Aqp])
 exact Hid.out g) : Hid p := ⟨h ⟨y⟩ ⟨g⟩⟩
theorem zM {Y p q : Prop} (y : Y) (g : q) (h : Hid Y -> Hid q -> p := by
 intro yy g
 (refine Cvi hOz rfl rfl ?_; simp -implicitDefEqProofs (disch := first | omega | (simp only [qd] <;> omega)) only [xq, ↓xp, qc, Nat.reduceAdd, List.range, List.range.loop, fine, Nat.reduceEqDiff, ↓reduceIte, yielded, reduceCtorEq, Nat.reduceLT, Nat.reduceMul, Nat.reduceSub, one, Nat.reduceLeDiff, Aqj, yy.out, aq, ↓ap, qe0, qe1, qe2, *, -g, -yy, -hK])
 exact Hid.out g) : Hid p := ⟨h ⟨y⟩ ⟨g⟩⟩
theorem zN {Y p q : Prop} (y : Y) (g : q) (h : Hid Y -> Hid q -> p := by
 intro yy g
 (refine Cz2 hOz rfl rfl rfl rfl (by simp -implicitDefEqProofs (disch := omega) only [act_get?, Axg, Nat.reduceEqDiff, ↓reduceIte, beq_self_eq_true, Bool.and_self, *, -g, -yy]) ?_; simp -implicitDefEqProofs (disch := first | omega | (simp only [qd] <;> omega)) only [xq, ↓xp, qc, Nat.reduceAdd, List.range, List.range.loop, fine, Nat.reduceEqDiff, ↓reduceIte, yielded, reduceCtorEq, Nat.reduceLT, Nat.reduceMul, Nat.reduceSub, one, Nat.reduceLeDiff, Aqj, yy.out, aq, ↓ap, qe0, qe1, qe2, *, -g, -yy, -hK])
 exact Hid.out g) : Hid p := ⟨h ⟨y⟩ ⟨g⟩⟩
theorem zR {Y p q : Prop} (y : Y) (g : q) (h : Hid Y -> Hid q -> p := by
 intro yy g
 (first | (refine Dqq hOz rfl rfl ?_; simp -implicitDefEqProofs (disch := first | omega | (simp only [qd] <;> omega)) only [xq, ↓xp, qc, Nat.reduceAdd, List.range, List.range.loop, fine, Nat.reduceEqDiff, ↓reduceIte, yielded, reduceCtorEq, Nat.reduceLT, Nat.reduceMul, Nat.reduceSub, one, Nat.reduceLeDiff, Aqj, yy.out, aq, ↓ap, qe0, qe1, qe2, *, -g, -yy, -hK, exists_eq_left', beq_self_eq_true, Bool.not_true, Bool.not_false, Bool.false_eq_true, if_false, if_true]) | (refine Cv9 hOz rfl rfl rfl rfl ?_ ?_; (focus (simp -implicitDefEqProofs (disch := omega) only [act_get?, Axg, Nat.reduceEqDiff, ↓reduceIte, beq_self_eq_true, Bool.and_self, Bool.not_true, Bool.not_false, Bool.true_and, Bool.false_and, Bool.and_true, Bool.and_false, Bool.or_true, Bool.true_or, Bool.or_false, Bool.false_or, decide_true, decide_false, if_true, Bool.false_eq_true, if_false, *, -g, -yy]; done)); simp -implicitDefEqProofs (disch := first | omega | (simp only [qd] <;> omega)) only [xq, ↓xp, qc, Nat.reduceAdd, List.range, List.range.loop, fine, Nat.reduceEqDiff, ↓reduceIte, yielded, reduceCtorEq, Nat.reduceLT, Nat.reduceMul, Nat.reduceSub, one, Nat.reduceLeDiff, Aqj, yy.out, aq, ↓ap, qe0, qe1, qe2, *, -g, -yy, -hK, exists_eq_left', beq_self_eq_true, Bool.not_true, Bool.not_false, Bool.false_eq_true, if_false, if_true]) | (refine Dqp hOz rfl rfl rfl (act_get? (by omega)) ?_ ?_; (focus ((simp -implicitDefEqProofs (disch := omega) only [Axg, Nat.reduceEqDiff, ↓reduceIte, beq_self_eq_true, Bool.and_self, Bool.not_true, Bool.not_false, Bool.true_and, Bool.false_and, Bool.and_true, Bool.and_false, Bool.or_true, Bool.true_or, Bool.or_false, Bool.false_or, decide_true, decide_false, if_true, Bool.false_eq_true, if_false, Bkz, *, -g, -yy] <;> rfl); done)); simp -implicitDefEqProofs (disch := first | omega | (simp only [qd] <;> omega)) only [Aq0, Aqp, Nat.reduceAdd]))
 exact Hid.out g) : Hid p := ⟨h ⟨y⟩ ⟨g⟩⟩
end Go.X
namespace Go.Proofs.YtnfnaehonkbknaaGreatDoor
open Go Go.X Go.Proofs.Tryz
def Dk8 := fun H => Aj6 (H := H) sizeOf22
def Dk9 := fun H => Aj6 (H := H) sizeOf23
def Dva := fun H => Aj6 (H := H) sizeOf24
def Dvb := fun H => Ajs (H := H) sizeOf4
def Dvc := fun H => Aq2 (H := H) underlying117 sizeOf3
def Dve := fun H => Aq2 (H := H) underlying125 sizeOf93
def Dvf := fun H => Aq2 (H := H) underlying89 sizeOf87
def Dvg := fun H => Aq2 (H := H) underlying91 sizeOf3
def Dvh := fun H => Aqe (H := H) underlying120 (i := 0) rfl (off := 0) rfl sizeOf3
def Dvi := fun H => Aqe (H := H) underlying120 (i := 1) rfl (off := 1) rfl sizeOf91
def Dvj := fun H => Aqe (H := H) underlying127 (i := 0) rfl (off := 0) rfl sizeOf3
def Dvk := fun H => Aqe (H := H) underlying127 (i := 1) rfl (off := 1) rfl sizeOf125
def Dvl := fun H => Aqe (H := H) underlying147 (i := 0) rfl (off := 0) rfl sizeOf26
def Dvm := fun H => Aqe (H := H) underlying147 (i := 1) rfl (off := 4) rfl sizeOf145
def Dvn := fun H => Aqe (H := H) underlying26 (i := 0) rfl (off := 0) rfl sizeOf3
def Dvo := fun H => Aqe (H := H) underlying26 (i := 1) rfl (off := 1) rfl sizeOf23
def Dvp := fun H => Aqe (H := H) underlying26 (i := 2) rfl (off := 2) rfl sizeOf22
def Dvq := fun H => Aqe (H := H) underlying26 (i := 3) rfl (off := 3) rfl sizeOf24
def Dvr := fun H => Aqe (H := H) underlying34 (i := 0) rfl (off := 0) rfl sizeOf3
def Dvs := fun H => Aqe (H := H) underlying34 (i := 1) rfl (off := 1) rfl sizeOf3
def Dvt := fun H => Aqe (H := H) underlying46 (i := 0) rfl (off := 0) rfl sizeOf3
def Dvu := fun H => Aqe (H := H) underlying46 (i := 1) rfl (off := 1) rfl sizeOf3
def Dvv := fun H => Aqe (H := H) underlying66 (i := 0) rfl (off := 0) rfl sizeOf3
def Dvw := fun H => Aqe (H := H) underlying66 (i := 1) rfl (off := 1) rfl sizeOf3
def Dvx := fun H => Aqe (H := H) underlying66 (i := 2) rfl (off := 2) rfl sizeOf34
def Dvy := fun H => Aqe (H := H) underlying87 (i := 0) rfl (off := 0) rfl sizeOf3
def Dvz := fun H => Aqe (H := H) underlying87 (i := 1) rfl (off := 1) rfl sizeOf3
def Dv0 := fun H => Aqe (H := H) underlying87 (i := 2) rfl (off := 2) rfl sizeOf4
def Dv1 := fun H => Aqe (H := H) underlying93 (i := 0) rfl (off := 0) rfl sizeOf89
def Dv2 := fun H => Aqe (H := H) underlying93 (i := 1) rfl (off := 18) rfl sizeOf91
def Dv3 := fun H => Aqe (H := H) underlying93 (i := 2) rfl (off := 24) rfl sizeOf4
def Dv4 := fun H => Aqi (H := H) underlying101 rfl
def Dv5 := fun H => Aqi (H := H) underlying110 rfl
def Dv6 := fun H => Aqi (H := H) underlying115 rfl
def Dv7 := fun H => Aqi (H := H) underlying134 rfl
def Dv8 := fun H => Aqi (H := H) underlying145 rfl
def Dv9 := fun H => Aqi (H := H) underlying22 rfl
def Dwa := fun H => Aqi (H := H) underlying23 rfl
def Dwb := fun H => Aqi (H := H) underlying24 rfl
def Dwc := fun H => Aqi (H := H) underlying3 rfl
def Dwd := fun H => Aqi (H := H) underlying4 rfl
def Dwe := fun H => Aqi (H := H) underlying49 rfl
def Dwf := fun H => Aqn (H := H) underlying117 rfl sizeOf117
def Dwg := fun H => Aqn (H := H) underlying120 rfl sizeOf120
def Dwh := fun H => Aqn (H := H) underlying127 rfl sizeOf127
def Dwi := fun H => Aqn (H := H) underlying152 rfl sizeOf152
def Dwj := fun H => Aqn (H := H) underlying26 rfl sizeOf26
def Dwk := fun H => Aqn (H := H) underlying34 rfl sizeOf34
def Dwl := fun H => Aqn (H := H) underlying46 rfl sizeOf46
def Dwm := fun H => Aqn (H := H) underlying66 rfl sizeOf66
def Dwn := fun H => Aqn (H := H) underlying91 rfl sizeOf91
def Dwo := fun H => Aqn (H := H) underlying93 rfl sizeOf93
def Dwp := fun H => Aqr (H := H) sizeOf117
def Dwq := fun H => Aqr (H := H) sizeOf127
def Dwr := fun H => Aqr (H := H) sizeOf26
def Dws := fun H => Aqr (H := H) sizeOf34
def Dwt := fun H => Aqr (H := H) sizeOf46
def Dwu := fun H => Aqr (H := H) sizeOf66
def Dwv := fun H => Aqr (H := H) sizeOf91
def Dww := fun H => Aqs (H := H) (P := Tryz.prog) (h := zeroValue115)
def Dwx := fun H => Aqs (H := H) (P := Tryz.prog) (h := zeroValue117)
def Dwy := fun H => Aqs (H := H) (P := Tryz.prog) (h := zeroValue127)
def Dwz := fun H => Aqs (H := H) (P := Tryz.prog) (h := zeroValue134)
def Dw0 := fun H => Aqs (H := H) (P := Tryz.prog) (h := zeroValue143)
def Dw1 := fun H => Aqs (H := H) (P := Tryz.prog) (h := zeroValue26)
def Dw2 := fun H => Aqs (H := H) (P := Tryz.prog) (h := zeroValue3)
def Dw3 := fun H => Aqs (H := H) (P := Tryz.prog) (h := zeroValue34)
def Dw4 := fun H => Aqs (H := H) (P := Tryz.prog) (h := zeroValue46)
def Dw5 := fun H => Aqs (H := H) (P := Tryz.prog) (h := zeroValue66)
def Dw6 := fun H => Aqs (H := H) (P := Tryz.prog) (h := zeroValue87)
def Dw7 := fun H => Aqs (H := H) (P := Tryz.prog) (h := zeroValue91)
def Dw8 := fun H => Aqz (H := H) underlying22 sizeOf3
def Dw9 := fun H => Aqz (H := H) underlying23 sizeOf66
def Dya := fun H => Aqz (H := H) underlying24 sizeOf46
def Dyb := fun H => Aqz (H := H) underlying81 sizeOf22
def Dyc := fun H => Aqz (H := H) underlying83 sizeOf127
def Dyd := fun H => Axe (H := H) underlying22
def Dye := fun H => Axe (H := H) underlying23
def Dyf := fun H => Axe (H := H) underlying24
def Dyg := fun H => Axe (H := H) underlying81
def Dyh := fun H => Axl (H := H) sizeOf110
def Dyi := fun H => Axl (H := H) sizeOf3
def Dyj := fun H => Bjh (H := H) underlying24 sizeOf46
def Dyk := fun H => Bza (H := H) sizeOf115
def Dyl := fun H => Cxo (H := H) underlying24 sizeOf46
def Dym := fun H => Cxp (H := H) underlying24 sizeOf46
def Dyn := fun H => Cyt (H := H) underlying131 rfl
end Go.Proofs.YtnfnaehonkbknaaGreatDoor
end
section
namespace Go.Proofs.YtnfnaehonkbknaaGreatDoor
open Go Go.X Go.Proofs.Tryz
def SlI (H : Hp) (v : Value) (xs : List Int) : Prop :=
 ∃ (a : Option Addr) (cap : Nat), v = .slice a xs.length cap /\ xs.length <= cap /\ ∀ (i : Nat) (x : Int), xs[i]? = some x -> ∃ (b o : Nat) (p : Bool) (c : Array Value) (fr : Nat × Nat), a = some ⟨b, o, none⟩ /\ H b = some (p, .cells c 3 fr) /\ c[o + i]? = some (.int .i64 x)
theorem SlI.le {H H' : Hp} {v : Value} {xs : List Int} (h : SlI H v xs) (hl : H.le H') : SlI H' v xs := by
 obtain ⟨a, cap, hv, hc, h⟩ := h
 refine ⟨a, cap, hv, hc, fun i x hi => ?_⟩
 obtain ⟨b, o, p, c, fr, ha, hb, hx⟩ := h i x hi
 exact ⟨b, o, p, c, fr, ha, hl _ _ hb, hx⟩
theorem SlI.nil (H : Hp) (a : Option Addr) (cap : Nat) : SlI H (.slice a 0 cap) [] := ⟨a, cap, rfl, Nat.zero_le _, fun i x hi => by simp at hi⟩
def ints (xs : List Int) : List Value := xs.map (Value.int .i64)
theorem Bq4 {xs : List Int} {i : Nat} {x : Int} (h : xs[i]? = some x) : (ints xs)[i]? = some (.int .i64 x) := by simp [ints, h]
theorem Cxi (xs ys : List Int) : ints (xs ++ ys) = ints xs ++ ints ys := by simp [ints]
theorem Aq1 (xs : List Int) : (ints xs).length = xs.length := by simp [ints]
theorem Bq5 (xs : List Int) : ∀ u ∈ ints xs, one u = true := fun u hu => by
 simp only [ints, List.mem_map] at hu
 obtain ⟨x, _, rfl⟩ := hu
 rfl
theorem Bwp {H₀ H : Hp} {v : Value} {n : Nat} {xs : List Int} (hrow : Aku H₀ H v 3 1 n (ints xs)) {Hx : Hp} (hx : H.le Hx) {g o m cap : Nat} {ys : List Int} (hm : ys.length = m)
  (hg : H₀ g = none -> H g = none) (hys : ∀ (j : Nat) (y : Int), ys[j]? = some y -> Hx.cell ⟨g, o + j, none⟩ = some (.int .i64 y)) (hn : n + m <= 1073741824)
  (ty : TypeId) (cb : Array Bool) (K : Next -> Hp -> Prop) (E : Value -> Hp -> Prop)
  (h : ∀ v' H' H'', Aku H₀ H' v' 3 1 (n + m) (ints (xs ++ ys)) -> H'.le H'' -> K (.value v') H'') :
  wpS Tryz.prog (builtin .append #[22, 22] ty cb #[v, .slice (some ⟨g, o, none⟩) m cap]) Hx K E := by
 refine Ayu underlying22 sizeOf3 zeroValue3 rfl typeInfo3 (by decide) (by decide) hrow hx (news := ints ys) (by rw [Aq1, hm, Nat.mul_one]) hg (fun j u hj => ?_) (Bq5 ys) hn ty cb K E (fun v' H' H'' h1 h2 => h v' H' H'' (by rw [Cxi]; exact h1) h2)
 simp only [ints, List.getElem?_map, Option.map_eq_some_iff] at hj
 obtain ⟨y, hy, rfl⟩ := hj
 exact hys j y hy
end Go.Proofs.YtnfnaehonkbknaaGreatDoor
end
section
namespace Go.Proofs.YtnfnaehonkbknaaGreatDoor
open Go Go.X
def Lex (b : Option Nat) (H H' : Hp) : Prop := ∀ x v, H x = some v -> ∃ v', H' x = some v' /\ (b ≠ some x -> v' = v)
theorem Lex.refl {b : Option Nat} {H : Hp} : Lex b H H := fun _ v h => ⟨v, h, fun _ => rfl⟩
theorem Lex.trans {b : Option Nat} {H H' H'' : Hp} (h : Lex b H H') (h' : Lex b H' H'') : Lex b H H'' := fun x v hx => by
 obtain ⟨v1, h1, e1⟩ := h x v hx
 obtain ⟨v2, h2, e2⟩ := h' x v1 h1
 exact ⟨v2, h2, fun hn => (e2 hn).trans (e1 hn)⟩
theorem Lex.hold {b : Option Nat} {b' : Nat} {H H' : Hp} {v : Bool × Obj} (h : Lex b H H') (hx : H b' = some v) (hn : b ≠ some b') : H' b' = some v := by
 obtain ⟨v', h', e⟩ := h _ _ hx
 rw [h', e hn]
theorem Lex.keeps {b b' : Nat} {H H' : Hp} {v : Bool × Obj} (h : Lex (some b) H H') (hx : H b' = some v) (hn : b' ≠ b) : H' b' = some v := h.hold hx (fun e => hn (Option.some.inj e).symm)
theorem Lex.of {b : Option Nat} {H H' : Hp} (h : H.le H') : Lex b H H' := fun x v hx => ⟨v, h _ _ hx, fun _ => rfl⟩
theorem Lex.toLe {H H' : Hp} (h : Lex none H H') : H.le H' := fun _ _ hx => h.hold hx (by simp)
theorem Lex.gone {b : Option Nat} {H H' : Hp} (h : Lex b H H') {x : Nat} (hx : H' x = none) : H x = none := by
 cases e : H x with
 | none => rfl
 | some v => obtain ⟨v', h', _⟩ := h x v e; rw [hx] at h'; cases h'
theorem Lex.set {b : Nat} {H H' : Hp} {o : Obj} (h : Lex (some b) H H') : Lex (some b) H (H'.set b o) := fun x v hx => by
 obtain ⟨v', h', e⟩ := h x v hx
 by_cases hxb : x = b
 ·exact ⟨_, by rw [Azr, if_pos hxb], fun hn => absurd (by rw [hxb]) hn⟩
 ·exact ⟨v', by rw [Azr, if_neg hxb]; exact h', e⟩
theorem Lex.le {b : Option Nat} {H H' H'' : Hp} (h : Lex b H H') (hl : H'.le H'') : Lex b H H'' := h.trans (Lex.of hl)
theorem Lex.own {b : Option Nat} {b' : Nat} {H H' : Hp} {o : Obj} (h : Lex b H H') (hb : H b' = none) : Lex b H (H'.set b' o) := fun x v hx => by
 obtain ⟨v', h', e⟩ := h x v hx
 exact ⟨v', by rw [Azr, if_neg (fun e => by rw [e, hb] at hx; cases hx)]; exact h', e⟩
theorem Akx (xs : List Int) (j : Nat) (x : Int) : (ints xs).set j (.int .i64 x) = ints (xs.set j x) := by
 simp [ints, List.map_set]
theorem Axp {H : Hp} {b : Nat} {o : Obj} : (H.set b o) b = some (true, o) := by rw [Azr, if_pos rfl]
theorem Aqv {H : Hp} {b b' : Nat} {o : Obj} (h : b' ≠ b) : (H.set b o) b' = H b' := by rw [Azr, if_neg h]
def RowX (t : Option Nat) (H₀ H : Hp) (v : Value) (e : TypeId) (cs : List Value) : Prop :=
 Lex t H₀ H /\ ((v = .slice none 0 0 /\ cs = []) ∨
 ∃ (b : Nat) (c : Array Value) (cap : Nat), H₀ b = none /\ H b = some (true, .cells c e (0, 0)) /\ v = .slice (some ⟨b, 0, none⟩) cs.length cap /\ c.size = cap /\ cs.length <= cap /\ ∀ (i : Nat) (u : Value), cs[i]? = some u -> c[i]? = some u)
def Other (e : TypeId) (H H' : Hp) : Prop := ∀ x p o, H x = some (p, o) -> (p = false ∨ ∀ c fr, o ≠ .cells c e fr) -> H' x = some (p, o)
theorem RowX.nil {t : Option Nat} {H : Hp} {e : TypeId} : RowX t H H (.slice none 0 0) e [] := ⟨Lex.refl, .inl ⟨rfl, rfl⟩⟩
theorem RowX.len {t : Option Nat} {H₀ H : Hp} {v : Value} {e : TypeId} {cs : List Value} (h : RowX t H₀ H v e cs) : ∃ a cap, v = .slice a cs.length cap := by
 rcases h.2 with ⟨rfl, rfl⟩ | ⟨b, c, cap, _, _, rfl, _⟩
 ·exact ⟨_, _, rfl⟩
 ·exact ⟨_, _, rfl⟩
theorem RowX.le {t : Option Nat} {H₀ H H' : Hp} {v : Value} {e : TypeId} {cs : List Value} (h : RowX t H₀ H v e cs) (hl : H.le H') : RowX t H₀ H' v e cs := by
 refine ⟨h.1.le hl, h.2.imp id ?_⟩
 rintro ⟨b, c, cap, h0, h1, h2, h3, h4, h5⟩
 exact ⟨b, c, cap, h0, hl _ _ h1, h2, h3, h4, h5⟩
theorem Bzv {P : Program} {tt e : TypeId} {z : Value} {inf : TypeInfo} (hu : P.underlying tt = some (.slice e)) (hs : ∀ w, (sizeOf e).run P w = .ok 1 w) (hz : ∀ w, (zeroValue e).run P w = .ok z w) (hzc : z.cells.size = 1)
  (hi : ∀ w, (typeInfo e).run P w = .ok inf w) (hby : inf.bytes <= 1024) (hby0 : 0 < inf.bytes)
  {t : Option Nat} {H₀ H : Hp} {v : Value} {cs : List Value} (h : RowX t H₀ H v e cs) {g : Nat} {w : Value} (hg : H g = none) (hw : one w = true) (hn : cs.length <= 1000000) (ty : TypeId) (cb : Array Bool) (K : Next -> Hp -> Prop) (E : Value -> Hp -> Prop)
  (h' : ∀ v' H', RowX t H₀ H' v' e (cs ++ [w]) -> Other e H H' -> K (.value v') H') :
  wpS P (builtin .append #[tt, tt] ty cb #[v, .slice (some ⟨g, 0, none⟩) 1 1]) (H.set g (.cells #[w] e (0, 0))) K E := by
 obtain ⟨hlex, hrow⟩ := h
 have hws : ∀ (j : Nat) (u : Value), [w][j]? = some u -> (H.set g (.cells #[w] e (0, 0))).cell ⟨g, 0 + j, none⟩ = some u := by
  intro j u hj
  rw [Nat.zero_add, cell_of (b := g) (p := true) (c := #[w]) (e := e) (f := (0, 0)) (by rw [Azr, if_pos rfl])]
  simpa using hj
 have h1w : ∀ u ∈ [w], one u = true := by simp [hw]
 rcases hrow with ⟨rfl, rfl⟩ | ⟨b, c, cap, hb0, hb, rfl, hcs, hcap, hget⟩
 ·refine Ayu (P := P) hu hs hz hzc hi hby hby0 (Aku.nil H e 1) (Hp.le_set hg) (by simp) id hws h1w (by omega) ty cb K E (fun v' H1 H2 hr hl => ?_)
  have hle : H.le H2 := fun x u hx => hl _ _ (hr.le _ _ hx)
  refine h' v' H2 ⟨hlex.le hle, ?_⟩ (fun x p o hx _ => hle _ _ hx)
  rcases hr with ⟨_, hn0, _⟩ | ⟨b', c', cap', hb', rfl, rfl, hs', hl', hn', hg'⟩
  ·simp at hn0
  ·refine .inr ⟨b', c', cap', hlex.gone hb', hl _ _ (by rw [Azr, if_pos rfl]), by simp, by omega, by simpa using hn', fun i u hi => hg' i u hi⟩
 ·have hgb : g ≠ b := fun e => by rw [e, hb] at hg; cases hg
  have hD : (fun x => if x = b then none else H x : Hp) b = none := by simp
  have hH : H = Hp.set (fun x => if x = b then none else H x) b (.cells c e (0, 0)) := by
   funext x
   unfold Hp.set
   by_cases e : x = b
   ·subst e; simp [hb]
   ·simp [e]
  refine Ayu (P := P) hu hs hz hzc hi hby hby0 (H₀ := fun x => if x = b then none else H x) (H := H) (n := cs.length) (cs := cs) (.inr ⟨b, c, cap, hD, hH, rfl, by omega, by omega, hcap, hget⟩) (Hp.le_set hg) (by simp) (fun _ => hg) hws h1w (by omega) ty cb K E (fun v' H1 H2 hr hl => ?_)
  have hkeep : ∀ x u, x ≠ b -> H x = some u -> H2 x = some u := fun x u hn hx => hl _ _ (hr.le _ _ (by simp only [hn, if_false]; exact hx))
  rcases hr with ⟨_, hn0, _⟩ | ⟨b', c', cap', hb', rfl, rfl, hs', hl', hn', hg'⟩
  ·simp at hn0
  ·have hb2 : H2 b' = some (true, .cells c' e (0, 0)) := hl _ _ (by rw [Azr, if_pos rfl])
   have hb'0 : H₀ b' = none := by
    by_cases e : b' = b
    ·rw [e]; exact hb0
    ·simp only [e, if_false] at hb'; exact hlex.gone hb'
   refine h' _ H2 ⟨fun x u hx => ?_, .inr ⟨b', c', cap', hb'0, hb2, by simp, by omega, by simpa using hn', hg'⟩⟩ (fun x p o hx ho => hkeep x _ (fun e => ?_) hx)
   ·obtain ⟨u', hu', e'⟩ := hlex x u hx
    exact ⟨u', hkeep x u' (fun e => by rw [e, hb0] at hx; cases hx) hu', e'⟩
   ·rw [e, hb] at hx
    simp only [Option.some.injEq, Prod.mk.injEq] at hx
    rcases ho with ho | ho
    ·rw [ho] at hx; cases hx.1
    ·exact ho c (0, 0) hx.2.symm
theorem Other.cells {H H' : Hp} {e e' : TypeId} (h : Other e H H') {x : Nat} {p : Bool} {c : Array Value} {fr : Nat × Nat} (hx : H x = some (p, .cells c e' fr)) (he : e' ≠ e) : H' x = some (p, .cells c e' fr) :=
 h x _ _ hx (.inr fun c' fr' e'' => by simp only [Obj.cells.injEq] at e''; exact he e''.2.1)
theorem RowX.ints {t : Option Nat} {H₀ H : Hp} {v : Value} {xs : List Int} (h : RowX t H₀ H v 3 (ints xs)) : SlI H v xs := by
 rcases h.2 with ⟨rfl, hx⟩ | ⟨b, c, cap, _, hb, rfl, hc, hle, hget⟩
 ·have : xs = [] := by simpa [Go.Proofs.YtnfnaehonkbknaaGreatDoor.ints] using hx
  subst this
  exact SlI.nil _ _ _
 ·rw [Aq1] at hle ⊢
  exact ⟨_, cap, rfl, hle, fun i x hi => ⟨b, 0, true, c, (0, 0), rfl, hb, by rw [Nat.zero_add]; exact hget i _ (Bq4 hi)⟩⟩
def SlR (H : Hp) (v : Value) (xss : List (List Int)) : Prop :=
 ∃ (a : Option Addr) (cap : Nat), v = .slice a xss.length cap /\ xss.length <= cap /\ ∀ (i : Nat) (xs : List Int), xss[i]? = some xs -> ∃ (b o : Nat) (p : Bool) (c : Array Value) (fr : Nat × Nat) (w : Value), a = some ⟨b, o, none⟩ /\ H b = some (p, .cells c 22 fr) /\ c[o + i]? = some w /\ SlI H w xs
def Rows (H : Hp) (vs : List Value) (xss : List (List Int)) : Prop := vs.length = xss.length /\ ∀ (i : Nat) (xs : List Int), xss[i]? = some xs -> ∃ w, vs[i]? = some w /\ SlI H w xs
theorem Rows.mono {H H' : Hp} {vs : List Value} {xss : List (List Int)} (h : Rows H vs xss) (hl : ∀ v xs, SlI H v xs -> SlI H' v xs) : Rows H' vs xss :=
 ⟨h.1, fun i xs hi => by obtain ⟨w, h1, h2⟩ := h.2 i xs hi; exact ⟨w, h1, hl _ _ h2⟩⟩
theorem Rows.snoc {H : Hp} {vs : List Value} {xss : List (List Int)} (h : Rows H vs xss) {w : Value} {xs : List Int} (hw : SlI H w xs) : Rows H (vs ++ [w]) (xss ++ [xs]) := by
 refine ⟨by simp [h.1], fun i ys hi => ?_⟩
 by_cases hlt : i < xss.length
 ·rw [List.getElem?_append_left hlt] at hi
  obtain ⟨w', h1, h2⟩ := h.2 i ys hi
  exact ⟨w', by rw [List.getElem?_append_left (by rw [h.1]; exact hlt)]; exact h1, h2⟩
 ·rw [List.getElem?_append_right (by omega)] at hi
  have : i - xss.length = 0 := by
   have := (List.getElem?_eq_some_iff.1 hi).1
   simp at this; omega
  rw [this] at hi
  simp at hi
  subst hi
  exact ⟨w, by rw [List.getElem?_append_right (by rw [h.1]; omega), h.1, this]; rfl, hw⟩
theorem RowX.rows {t : Option Nat} {H₀ H : Hp} {v : Value} {vs : List Value} {xss : List (List Int)} (h : RowX t H₀ H v 22 vs) (hr : Rows H vs xss) : SlR H v xss := by
 rcases h.2 with ⟨rfl, rfl⟩ | ⟨b, c, cap, _, hb, rfl, hc, hle, hget⟩
 ·have : xss = [] := by have := hr.1; simp at this; exact List.eq_nil_of_length_eq_zero this.symm
  subst this
  exact ⟨_, _, rfl, Nat.zero_le _, fun i xs hi => by simp at hi⟩
 ·refine ⟨_, cap, by rw [hr.1], by rw [<- hr.1]; exact hle, fun i xs hi => ?_⟩
  obtain ⟨w, h1, h2⟩ := hr.2 i xs hi
  exact ⟨b, 0, true, c, (0, 0), w, rfl, hb, by rw [Nat.zero_add]; exact hget i w h1, h2⟩
theorem SlI.move {H H' : Hp} {v : Value} {xs : List Int} (h : SlI H v xs) (hl : ∀ x p c fr, H x = some (p, .cells c 3 fr) -> H' x = some (p, .cells c 3 fr)) : SlI H' v xs := by
 obtain ⟨a, cap, hv, hc, h⟩ := h
 refine ⟨a, cap, hv, hc, fun i x hi => ?_⟩
 obtain ⟨b, o, p, c, fr, ha, hb, hx⟩ := h i x hi
 exact ⟨b, o, p, c, fr, ha, hl _ _ _ _ hb, hx⟩
theorem SlR.move {H H' : Hp} {v : Value} {xss : List (List Int)} (h : SlR H v xss) (hl : ∀ x p c fr e, (e = 3 ∨ e = 22) -> H x = some (p, .cells c e fr) -> H' x = some (p, .cells c e fr)) : SlR H' v xss := by
 obtain ⟨a, cap, hv, hc, h⟩ := h
 refine ⟨a, cap, hv, hc, fun i x hi => ?_⟩
 obtain ⟨b, o, p, c, fr, w, ha, hb, hx, hs⟩ := h i x hi
 exact ⟨b, o, p, c, fr, w, ha, hl _ _ _ _ _ (.inr rfl) hb, hx, hs.move fun _ _ _ _ h => hl _ _ _ _ _ (.inl rfl) h⟩
theorem SlR.le {H H' : Hp} {v : Value} {xss : List (List Int)} (h : SlR H v xss) (hl : H.le H') : SlR H' v xss := h.move fun _ _ _ _ _ _ hx => hl _ _ hx
end Go.Proofs.YtnfnaehonkbknaaGreatDoor
end
