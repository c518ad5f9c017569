/- Texts Blds Fns Hid. -/
import Derived.Test.YtnfnaehonkbknaaGreatDoorJ09
import Derived.Test.YtnfnaehonkbknaaGreatDoorProg
set_option linter.defProp false
set_option linter.unusedSimpArgs false
set_option linter.unusedVariables false
set_option maxRecDepth 100000
set_option maxHeartbeats 2000000
section
namespace Go.Proofs.YtnfnaehonkbknaaGreatDoor
open Go Go.X Go.Proofs.Tryz
theorem Aza (H : Hp) (kx1 : IntKind) (x1 : Int) (K : Value -> Hp -> Prop) (E : Value -> Hp -> Prop) : wpS Tryz.prog (Instr.buildSlice 22 1 #[(0, .int kx1 x1)]) H K E = ∀ b, H b = none -> K (.slice (some ⟨b, 0, none⟩) 1 1) (H.set b (.cells #[.int kx1 x1] 3 (0, 0))) := Avq (K := K) (E := E) underlying22 sizeOf3 zeroValue3 rfl 1 [(0, .int kx1 x1)] (by decide) (by decide) (c := #[.int kx1 x1]) (by kernel_rfl)
theorem Bj3 (H : Hp) (kx1 : IntKind) (x1 : Int) (kx2 : IntKind) (x2 : Int) (K : Value -> Hp -> Prop) (E : Value -> Hp -> Prop) : wpS Tryz.prog (Instr.buildSlice 22 2 #[(0, .int kx1 x1), (1, .int kx2 x2)]) H K E = ∀ b, H b = none -> K (.slice (some ⟨b, 0, none⟩) 2 2) (H.set b (.cells #[.int kx1 x1, .int kx2 x2] 3 (0, 0))) := Avq (K := K) (E := E) underlying22 sizeOf3 zeroValue3 rfl 2 [(0, .int kx1 x1), (1, .int kx2 x2)] (by decide) (by decide) (c := #[.int kx1 x1, .int kx2 x2]) (by kernel_rfl)
theorem Cjt (H : Hp) (kx1 : IntKind) (x1 : Int) (K : Value -> Hp -> Prop) (E : Value -> Hp -> Prop) : wpS Tryz.prog (Instr.build 26 #[(0, .int kx1 x1)]) H K E = K (.agg #[.int kx1 x1, .slice none 0 0, .slice none 0 0, .slice none 0 0]) H := Aq7 underlying26 zeroValue26 (ns := [1, 1, 1, 1]) ⟨sizeOf3, sizeOf23, sizeOf22, sizeOf24, trivial⟩ [(0, .int kx1 x1)] (out := [.int kx1 x1, .slice none 0 0, .slice none 0 0, .slice none 0 0]) (by kernel_rfl) K E
theorem Av7 (H : Hp) (kx1 : IntKind) (x1 : Int) (kx2 : IntKind) (x2 : Int) (kx3 : IntKind) (x3 : Int) (K : Value -> Hp -> Prop) (E : Value -> Hp -> Prop) : wpS Tryz.prog (Instr.buildSlice 22 3 #[(0, .int kx1 x1), (1, .int kx2 x2), (2, .int kx3 x3)]) H K E = ∀ b, H b = none -> K (.slice (some ⟨b, 0, none⟩) 3 3) (H.set b (.cells #[.int kx1 x1, .int kx2 x2, .int kx3 x3] 3 (0, 0))) := Avq (K := K) (E := E) underlying22 sizeOf3 zeroValue3 rfl 3 [(0, .int kx1 x1), (1, .int kx2 x2), (2, .int kx3 x3)] (by decide) (by decide) (c := #[.int kx1 x1, .int kx2 x2, .int kx3 x3]) (by kernel_rfl)
theorem Bww (H : Hp) (kx1 : IntKind) (x1 : Int) (kx2 : IntKind) (x2 : Int) (K : Value -> Hp -> Prop) (E : Value -> Hp -> Prop) : wpS Tryz.prog (Instr.build 46 #[(0, .int kx1 x1), (1, .int kx2 x2)]) H K E = K (.agg #[.int kx1 x1, .int kx2 x2, .bool false]) H := Aq7 underlying46 zeroValue46 (ns := [1, 1, 1]) ⟨sizeOf3, sizeOf3, sizeOf4, trivial⟩ [(0, .int kx1 x1), (1, .int kx2 x2)] (out := [.int kx1 x1, .int kx2 x2, .bool false]) (by kernel_rfl) K E
theorem Bwx (H : Hp) (x1 : Option Addr) (nx1 cx1 : Nat) (kx2 : IntKind) (x2 : Int) (K : Value -> Hp -> Prop) (E : Value -> Hp -> Prop) : wpS Tryz.prog (Instr.build 80 #[(0, .slice x1 nx1 cx1), (2, .int kx2 x2)]) H K E = K (.agg #[.slice x1 nx1 cx1, .int .i64 0, .int kx2 x2]) H := Aq7 underlying80 zeroValue80 (ns := [1, 1, 1]) ⟨sizeOf22, sizeOf3, sizeOf78, trivial⟩ [(0, .slice x1 nx1 cx1), (2, .int kx2 x2)] (out := [.slice x1 nx1 cx1, .int .i64 0, .int kx2 x2]) (by kernel_rfl) K E
theorem bld_41_0_1_2_3_0 (H : Hp) (kx1 : IntKind) (x1 : Int) (kx2 : IntKind) (x2 : Int) (x3 : Option Addr) (nx3 cx3 : Nat) (x4 : Option Addr) (nx4 cx4 : Nat) (K : Value -> Hp -> Prop) (E : Value -> Hp -> Prop) : wpS Tryz.prog (Instr.build 41 #[(0, .int kx1 x1), (1, .int kx2 x2), (2, .slice x3 nx3 cx3), (3, .slice x4 nx4 cx4)]) H K E = K (.agg #[.int kx1 x1, .int kx2 x2, .slice x3 nx3 cx3, .slice x4 nx4 cx4]) H := Aq7 underlying41 zeroValue41 (ns := [1, 1, 1, 1]) ⟨sizeOf3, sizeOf3, sizeOf22, sizeOf22, trivial⟩ [(0, .int kx1 x1), (1, .int kx2 x2), (2, .slice x3 nx3 cx3), (3, .slice x4 nx4 cx4)] (out := [.int kx1 x1, .int kx2 x2, .slice x3 nx3 cx3, .slice x4 nx4 cx4]) (by kernel_rfl) K E
theorem Bzp (H : Hp)  (K : Value -> Hp -> Prop) (E : Value -> Hp -> Prop) : wpS Tryz.prog (Instr.build 34 #[]) H K E = K (.agg #[.int .i64 0, .int .i64 0]) H := Aq7 underlying34 zeroValue34 (ns := [1, 1]) ⟨sizeOf3, sizeOf3, trivial⟩ [] (out := [.int .i64 0, .int .i64 0]) (by kernel_rfl) K E
theorem Ajg (H : Hp) (kx1 : IntKind) (x1 : Int) (kx2 : IntKind) (x2 : Int) (K : Value -> Hp -> Prop) (E : Value -> Hp -> Prop) : wpS Tryz.prog (Instr.build 34 #[(0, .int kx1 x1), (1, .int kx2 x2)]) H K E = K (.agg #[.int kx1 x1, .int kx2 x2]) H := Aq7 underlying34 zeroValue34 (ns := [1, 1]) ⟨sizeOf3, sizeOf3, trivial⟩ [(0, .int kx1 x1), (1, .int kx2 x2)] (out := [.int kx1 x1, .int kx2 x2]) (by kernel_rfl) K E
theorem Bj0 (H : Hp) (kx1 : IntKind) (x1 : Int) (kx2 : IntKind) (x2 : Int) (x3 : Bool) (K : Value -> Hp -> Prop) (E : Value -> Hp -> Prop) : wpS Tryz.prog (Instr.build 46 #[(0, .int kx1 x1), (1, .int kx2 x2), (2, .bool x3)]) H K E = K (.agg #[.int kx1 x1, .int kx2 x2, .bool x3]) H := Aq7 underlying46 zeroValue46 (ns := [1, 1, 1]) ⟨sizeOf3, sizeOf3, sizeOf4, trivial⟩ [(0, .int kx1 x1), (1, .int kx2 x2), (2, .bool x3)] (out := [.int kx1 x1, .int kx2 x2, .bool x3]) (by kernel_rfl) K E
theorem Bx1 (H : Hp) (kx1 : IntKind) (x1 : Int) (x2 : Option Addr) (nx2 cx2 : Nat) (x3 : Option Addr) (nx3 cx3 : Nat) (x4 : Option Addr) (nx4 cx4 : Nat) (K : Value -> Hp -> Prop) (E : Value -> Hp -> Prop) : wpS Tryz.prog (Instr.build 26 #[(0, .int kx1 x1), (1, .slice x2 nx2 cx2), (2, .slice x3 nx3 cx3), (3, .slice x4 nx4 cx4)]) H K E = K (.agg #[.int kx1 x1, .slice x2 nx2 cx2, .slice x3 nx3 cx3, .slice x4 nx4 cx4]) H := Aq7 underlying26 zeroValue26 (ns := [1, 1, 1, 1]) ⟨sizeOf3, sizeOf23, sizeOf22, sizeOf24, trivial⟩ [(0, .int kx1 x1), (1, .slice x2 nx2 cx2), (2, .slice x3 nx3 cx3), (3, .slice x4 nx4 cx4)] (out := [.int kx1 x1, .slice x2 nx2 cx2, .slice x3 nx3 cx3, .slice x4 nx4 cx4]) (by kernel_rfl) K E
theorem Ayl (H : Hp) (kx1 : IntKind) (x1 : Int) (kx2 : IntKind) (x2 : Int) (kx3 : IntKind) (x3 : Int) (kx4 : IntKind) (x4 : Int) (K : Value -> Hp -> Prop) (E : Value -> Hp -> Prop) : wpS Tryz.prog (Instr.build 66 #[(0, .int kx1 x1), (1, .int kx2 x2), (2, .agg #[.int kx3 x3, .int kx4 x4])]) H K E = K (.agg #[.int kx1 x1, .int kx2 x2, .int kx3 x3, .int kx4 x4]) H := Aq7 underlying66 zeroValue66 (ns := [1, 1, 2]) ⟨sizeOf3, sizeOf3, sizeOf34, trivial⟩ [(0, .int kx1 x1), (1, .int kx2 x2), (2, .agg #[.int kx3 x3, .int kx4 x4])] (out := [.int kx1 x1, .int kx2 x2, .int kx3 x3, .int kx4 x4]) (by kernel_rfl) K E
theorem Akd (H : Hp) (kx1 : IntKind) (x1 : Int) (kx2 : IntKind) (x2 : Int) (kx3 : IntKind) (x3 : Int) (kx4 : IntKind) (x4 : Int) (kx5 : IntKind) (x5 : Int) (kx6 : IntKind) (x6 : Int) (kx7 : IntKind) (x7 : Int) (K : Value -> Hp -> Prop) (E : Value -> Hp -> Prop) : wpS Tryz.prog (Instr.build 120 #[(0, .int kx1 x1), (1, .agg #[.int kx2 x2, .int kx3 x3, .int kx4 x4, .int kx5 x5, .int kx6 x6, .int kx7 x7])]) H K E = K (.agg #[.int kx1 x1, .int kx2 x2, .int kx3 x3, .int kx4 x4, .int kx5 x5, .int kx6 x6, .int kx7 x7]) H := Aq7 underlying120 zeroValue120 (ns := [1, 6]) ⟨sizeOf3, sizeOf91, trivial⟩ [(0, .int kx1 x1), (1, .agg #[.int kx2 x2, .int kx3 x3, .int kx4 x4, .int kx5 x5, .int kx6 x6, .int kx7 x7])] (out := [.int kx1 x1, .int kx2 x2, .int kx3 x3, .int kx4 x4, .int kx5 x5, .int kx6 x6, .int kx7 x7]) (by kernel_rfl) K E
theorem Cqg (H : Hp) (x1 : Fn) (ax1 bx1 : Array Value) (K : Value -> Hp -> Prop) (E : Value -> Hp -> Prop) : wpS Tryz.prog (Instr.build 123 #[(0, .func x1 ax1 bx1)]) H K E = K (.agg #[.func x1 ax1 bx1]) H := Aq7 underlying123 zeroValue123 (ns := [1]) ⟨sizeOf101, trivial⟩ [(0, .func x1 ax1 bx1)] (out := [.func x1 ax1 bx1]) (by kernel_rfl) K E
theorem Cqh (H : Hp)  (K : Value -> Hp -> Prop) (E : Value -> Hp -> Prop) : wpS Tryz.prog (Instr.build 123 #[(0, .nilFunc)]) H K E = K (.agg #[.nilFunc]) H := Aq7 underlying123 zeroValue123 (ns := [1]) ⟨sizeOf101, trivial⟩ [(0, .nilFunc)] (out := [.nilFunc]) (by kernel_rfl) K E
theorem Byg (H : Hp) (x1 : Option Addr) (nx1 cx1 : Nat) (K : Value -> Hp -> Prop) (E : Value -> Hp -> Prop) : wpS Tryz.prog (Instr.buildSlice 81 1 #[(0, .slice x1 nx1 cx1)]) H K E = ∀ b, H b = none -> K (.slice (some ⟨b, 0, none⟩) 1 1) (H.set b (.cells #[.slice x1 nx1 cx1] 22 (0, 0))) := Avq (K := K) (E := E) underlying81 sizeOf22 zeroValue22 rfl 1 [(0, .slice x1 nx1 cx1)] (by decide) (by decide) (c := #[.slice x1 nx1 cx1]) (by kernel_rfl)
theorem Bvg (H : Hp) (kx1 : IntKind) (x1 : Int) (kx2 : IntKind) (x2 : Int) (K : Value -> Hp -> Prop) (E : Value -> Hp -> Prop) : wpS Tryz.prog (Instr.build 131 #[(0, .int kx1 x1), (1, .int kx2 x2)]) H K E = K (.agg #[.int kx1 x1, .int kx2 x2]) H := Aq7 underlying131 zeroValue131 (ns := [1, 1]) ⟨sizeOf35, sizeOf3, trivial⟩ [(0, .int kx1 x1), (1, .int kx2 x2)] (out := [.int kx1 x1, .int kx2 x2]) (by kernel_rfl) K E
theorem Bvh (H : Hp) (kx1 : IntKind) (x1 : Int) (x2 : Option Addr) (nx2 cx2 : Nat) (x3 : Option Addr) (nx3 cx3 : Nat) (x4 : Option Addr) (nx4 cx4 : Nat) (x5 : Option Nat) (K : Value -> Hp -> Prop) (E : Value -> Hp -> Prop) : wpS Tryz.prog (Instr.build 147 #[(0, .agg #[.int kx1 x1, .slice x2 nx2 cx2, .slice x3 nx3 cx3, .slice x4 nx4 cx4]), (1, .map x5)]) H K E = K (.agg #[.int kx1 x1, .slice x2 nx2 cx2, .slice x3 nx3 cx3, .slice x4 nx4 cx4, .map x5]) H := Aq7 underlying147 zeroValue147 (ns := [4, 1]) ⟨sizeOf26, sizeOf145, trivial⟩ [(0, .agg #[.int kx1 x1, .slice x2 nx2 cx2, .slice x3 nx3 cx3, .slice x4 nx4 cx4]), (1, .map x5)] (out := [.int kx1 x1, .slice x2 nx2 cx2, .slice x3 nx3 cx3, .slice x4 nx4 cx4, .map x5]) (by kernel_rfl) K E
theorem Bzo (H : Hp) (kx1 : IntKind) (x1 : Int) (K : Value -> Hp -> Prop) (E : Value -> Hp -> Prop) : wpS Tryz.prog (Instr.build 127 #[(0, .int kx1 x1)]) H K E = K (.agg #[.int kx1 x1, .int .i64 0, .int .i64 0, .bool false, .int .i64 0, .int .i64 0, .bool false, .int .i64 0, .int .i64 0, .bool false, .int .i64 0, .int .i64 0, .bool false, .int .i64 0, .int .i64 0, .bool false, .int .i64 0, .int .i64 0, .bool false, .int .i64 0, .int .i64 0, .int .i64 0, .int .i64 0, .int .i64 0, .int .i64 0, .bool false, .int .i64 0, .int .i64 0, .bool false, .int .i64 0, .int .i64 0, .bool false, .int .i64 0, .int .i64 0, .bool false, .int .i64 0, .int .i64 0, .bool false, .int .i64 0, .int .i64 0, .bool false, .int .i64 0, .int .i64 0, .bool false, .int .i64 0, .int .i64 0, .int .i64 0, .int .i64 0, .int .i64 0, .int .i64 0, .bool false, .int .i64 0, .int .i64 0, .bool false, .int .i64 0, .int .i64 0, .bool false, .int .i64 0, .int .i64 0, .bool false, .int .i64 0, .int .i64 0, .bool false, .int .i64 0, .int .i64 0, .bool false, .int .i64 0, .int .i64 0, .bool false, .int .i64 0, .int .i64 0, .int .i64 0, .int .i64 0, .int .i64 0, .int .i64 0, .bool false, .int .i64 0, .int .i64 0, .bool false, .int .i64 0, .int .i64 0, .bool false, .int .i64 0, .int .i64 0, .bool false, .int .i64 0, .int .i64 0, .bool false, .int .i64 0, .int .i64 0, .bool false, .int .i64 0, .int .i64 0, .bool false, .int .i64 0, .int .i64 0, .int .i64 0, .int .i64 0, .int .i64 0, .int .i64 0, .bool false, .int .i64 0, .int .i64 0, .bool false, .int .i64 0, .int .i64 0, .bool false, .int .i64 0, .int .i64 0, .bool false, .int .i64 0, .int .i64 0, .bool false, .int .i64 0, .int .i64 0, .bool false, .int .i64 0, .int .i64 0, .bool false, .int .i64 0, .int .i64 0, .int .i64 0, .int .i64 0, .int .i64 0, .int .i64 0, .bool false, .int .i64 0, .int .i64 0, .bool false, .int .i64 0, .int .i64 0, .bool false, .int .i64 0, .int .i64 0, .bool false, .int .i64 0, .int .i64 0, .bool false, .int .i64 0, .int .i64 0, .bool false, .int .i64 0, .int .i64 0, .bool false, .int .i64 0, .int .i64 0, .int .i64 0, .int .i64 0, .int .i64 0, .int .i64 0, .bool false, .int .i64 0, .int .i64 0, .bool false, .int .i64 0, .int .i64 0, .bool false, .int .i64 0, .int .i64 0, .bool false, .int .i64 0, .int .i64 0, .bool false, .int .i64 0, .int .i64 0, .bool false, .int .i64 0, .int .i64 0, .bool false, .int .i64 0, .int .i64 0, .int .i64 0, .int .i64 0, .int .i64 0, .int .i64 0, .bool false, .int .i64 0, .int .i64 0, .bool false, .int .i64 0, .int .i64 0, .bool false, .int .i64 0, .int .i64 0, .bool false, .int .i64 0, .int .i64 0, .bool false, .int .i64 0, .int .i64 0, .bool false, .int .i64 0, .int .i64 0, .bool false, .int .i64 0, .int .i64 0, .int .i64 0, .int .i64 0, .int .i64 0, .int .i64 0, .bool false, .int .i64 0, .int .i64 0, .bool false, .int .i64 0, .int .i64 0, .bool false, .int .i64 0, .int .i64 0, .bool false, .int .i64 0, .int .i64 0, .bool false, .int .i64 0, .int .i64 0, .bool false, .int .i64 0, .int .i64 0, .bool false, .int .i64 0, .int .i64 0, .int .i64 0, .int .i64 0, .int .i64 0, .int .i64 0, .bool false, .int .i64 0, .int .i64 0, .bool false, .int .i64 0, .int .i64 0, .bool false, .int .i64 0, .int .i64 0, .bool false, .int .i64 0, .int .i64 0, .bool false, .int .i64 0, .int .i64 0, .bool false, .int .i64 0, .int .i64 0, .bool false, .int .i64 0, .int .i64 0, .int .i64 0, .int .i64 0, .int .i64 0, .int .i64 0, .bool false, .int .i64 0, .int .i64 0, .bool false, .int .i64 0, .int .i64 0, .bool false, .int .i64 0, .int .i64 0, .bool false, .int .i64 0, .int .i64 0, .bool false, .int .i64 0, .int .i64 0, .bool false, .int .i64 0, .int .i64 0, .bool false, .int .i64 0, .int .i64 0, .int .i64 0, .int .i64 0, .int .i64 0, .int .i64 0, .bool false, .int .i64 0, .int .i64 0, .bool false, .int .i64 0, .int .i64 0, .bool false, .int .i64 0, .int .i64 0, .bool false, .int .i64 0, .int .i64 0, .bool false, .int .i64 0, .int .i64 0, .bool false, .int .i64 0, .int .i64 0, .bool false, .int .i64 0, .int .i64 0, .int .i64 0, .int .i64 0, .int .i64 0, .int .i64 0, .bool false, .int .i64 0, .int .i64 0, .bool false, .int .i64 0, .int .i64 0, .bool false, .int .i64 0, .int .i64 0, .bool false, .int .i64 0, .int .i64 0, .bool false, .int .i64 0, .int .i64 0, .bool false, .int .i64 0, .int .i64 0, .bool false, .int .i64 0, .int .i64 0, .int .i64 0, .int .i64 0, .int .i64 0, .int .i64 0, .bool false]) H := Aq7 underlying127 zeroValue127 (ns := [1, 325]) ⟨sizeOf3, sizeOf125, trivial⟩ [(0, .int kx1 x1)] (out := [.int kx1 x1, .int .i64 0, .int .i64 0, .bool false, .int .i64 0, .int .i64 0, .bool false, .int .i64 0, .int .i64 0, .bool false, .int .i64 0, .int .i64 0, .bool false, .int .i64 0, .int .i64 0, .bool false, .int .i64 0, .int .i64 0, .bool false, .int .i64 0, .int .i64 0, .int .i64 0, .int .i64 0, .int .i64 0, .int .i64 0, .bool false, .int .i64 0, .int .i64 0, .bool false, .int .i64 0, .int .i64 0, .bool false, .int .i64 0, .int .i64 0, .bool false, .int .i64 0, .int .i64 0, .bool false, .int .i64 0, .int .i64 0, .bool false, .int .i64 0, .int .i64 0, .bool false, .int .i64 0, .int .i64 0, .int .i64 0, .int .i64 0, .int .i64 0, .int .i64 0, .bool false, .int .i64 0, .int .i64 0, .bool false, .int .i64 0, .int .i64 0, .bool false, .int .i64 0, .int .i64 0, .bool false, .int .i64 0, .int .i64 0, .bool false, .int .i64 0, .int .i64 0, .bool false, .int .i64 0, .int .i64 0, .bool false, .int .i64 0, .int .i64 0, .int .i64 0, .int .i64 0, .int .i64 0, .int .i64 0, .bool false, .int .i64 0, .int .i64 0, .bool false, .int .i64 0, .int .i64 0, .bool false, .int .i64 0, .int .i64 0, .bool false, .int .i64 0, .int .i64 0, .bool false, .int .i64 0, .int .i64 0, .bool false, .int .i64 0, .int .i64 0, .bool false, .int .i64 0, .int .i64 0, .int .i64 0, .int .i64 0, .int .i64 0, .int .i64 0, .bool false, .int .i64 0, .int .i64 0, .bool false, .int .i64 0, .int .i64 0, .bool false, .int .i64 0, .int .i64 0, .bool false, .int .i64 0, .int .i64 0, .bool false, .int .i64 0, .int .i64 0, .bool false, .int .i64 0, .int .i64 0, .bool false, .int .i64 0, .int .i64 0, .int .i64 0, .int .i64 0, .int .i64 0, .int .i64 0, .bool false, .int .i64 0, .int .i64 0, .bool false, .int .i64 0, .int .i64 0, .bool false, .int .i64 0, .int .i64 0, .bool false, .int .i64 0, .int .i64 0, .bool false, .int .i64 0, .int .i64 0, .bool false, .int .i64 0, .int .i64 0, .bool false, .int .i64 0, .int .i64 0, .int .i64 0, .int .i64 0, .int .i64 0, .int .i64 0, .bool false, .int .i64 0, .int .i64 0, .bool false, .int .i64 0, .int .i64 0, .bool false, .int .i64 0, .int .i64 0, .bool false, .int .i64 0, .int .i64 0, .bool false, .int .i64 0, .int .i64 0, .bool false, .int .i64 0, .int .i64 0, .bool false, .int .i64 0, .int .i64 0, .int .i64 0, .int .i64 0, .int .i64 0, .int .i64 0, .bool false, .int .i64 0, .int .i64 0, .bool false, .int .i64 0, .int .i64 0, .bool false, .int .i64 0, .int .i64 0, .bool false, .int .i64 0, .int .i64 0, .bool false, .int .i64 0, .int .i64 0, .bool false, .int .i64 0, .int .i64 0, .bool false, .int .i64 0, .int .i64 0, .int .i64 0, .int .i64 0, .int .i64 0, .int .i64 0, .bool false, .int .i64 0, .int .i64 0, .bool false, .int .i64 0, .int .i64 0, .bool false, .int .i64 0, .int .i64 0, .bool false, .int .i64 0, .int .i64 0, .bool false, .int .i64 0, .int .i64 0, .bool false, .int .i64 0, .int .i64 0, .bool false, .int .i64 0, .int .i64 0, .int .i64 0, .int .i64 0, .int .i64 0, .int .i64 0, .bool false, .int .i64 0, .int .i64 0, .bool false, .int .i64 0, .int .i64 0, .bool false, .int .i64 0, .int .i64 0, .bool false, .int .i64 0, .int .i64 0, .bool false, .int .i64 0, .int .i64 0, .bool false, .int .i64 0, .int .i64 0, .bool false, .int .i64 0, .int .i64 0, .int .i64 0, .int .i64 0, .int .i64 0, .int .i64 0, .bool false, .int .i64 0, .int .i64 0, .bool false, .int .i64 0, .int .i64 0, .bool false, .int .i64 0, .int .i64 0, .bool false, .int .i64 0, .int .i64 0, .bool false, .int .i64 0, .int .i64 0, .bool false, .int .i64 0, .int .i64 0, .bool false, .int .i64 0, .int .i64 0, .int .i64 0, .int .i64 0, .int .i64 0, .int .i64 0, .bool false, .int .i64 0, .int .i64 0, .bool false, .int .i64 0, .int .i64 0, .bool false, .int .i64 0, .int .i64 0, .bool false, .int .i64 0, .int .i64 0, .bool false, .int .i64 0, .int .i64 0, .bool false, .int .i64 0, .int .i64 0, .bool false, .int .i64 0, .int .i64 0, .int .i64 0, .int .i64 0, .int .i64 0, .int .i64 0, .bool false, .int .i64 0, .int .i64 0, .bool false, .int .i64 0, .int .i64 0, .bool false, .int .i64 0, .int .i64 0, .bool false, .int .i64 0, .int .i64 0, .bool false, .int .i64 0, .int .i64 0, .bool false, .int .i64 0, .int .i64 0, .bool false, .int .i64 0, .int .i64 0, .int .i64 0, .int .i64 0, .int .i64 0, .int .i64 0, .bool false]) (by kernel_rfl) K E
theorem Cjs (H : Hp)  (K : Value -> Hp -> Prop) (E : Value -> Hp -> Prop) : wpS Tryz.prog (Instr.build 200 #[]) H K E = K (.agg #[]) H := Aq7 underlying200 zeroValue200 (ns := []) trivial [] (out := []) (by kernel_rfl) K E
theorem Cqi (H : Hp) (kx1 : IntKind) (x1 : Int) (K : Value -> Hp -> Prop) (E : Value -> Hp -> Prop) : wpS Tryz.prog (Instr.build 206 #[(0, .int kx1 x1)]) H K E = K (.agg #[.int kx1 x1]) H := Aq7 underlying206 zeroValue206 (ns := [1]) ⟨sizeOf3, trivial⟩ [(0, .int kx1 x1)] (out := [.int kx1 x1]) (by kernel_rfl) K E
theorem Cqj (H : Hp) (kx1 : IntKind) (x1 : Int) (K : Value -> Hp -> Prop) (E : Value -> Hp -> Prop) : wpS Tryz.prog (Instr.build 208 #[(0, .int kx1 x1)]) H K E = K (.agg #[.int kx1 x1]) H := Aq7 underlying208 zeroValue208 (ns := [1]) ⟨sizeOf3, trivial⟩ [(0, .int kx1 x1)] (out := [.int kx1 x1]) (by kernel_rfl) K E
end Go.Proofs.YtnfnaehonkbknaaGreatDoor
end
section
namespace Go.Proofs.YtnfnaehonkbknaaGreatDoor
open Go Go.X Go.Proofs.Tryz
variable {H : Hp} (args : Array Value) (K : Next -> Hp -> Prop) (E : Value -> Hp -> Prop)
def callF7 := Aqf (H := H) func7 (by kernel_rfl) (by kernel_rfl) args K E
def callF8 := Aqf (H := H) func8 (by kernel_rfl) (by kernel_rfl) args K E
def callF9 := Aqf (H := H) func9 (by kernel_rfl) (by kernel_rfl) args K E
def Djl := Aqf (H := H) func10 (by kernel_rfl) (by kernel_rfl) args K E
def Djm := Aqf (H := H) func12 (by kernel_rfl) (by kernel_rfl) args K E
def callF13 := Aqf (H := H) func13 (by kernel_rfl) (by kernel_rfl) args K E
def Cvt := Aqf (H := H) func14 (by kernel_rfl) (by kernel_rfl) args K E
def Bq0 := Aqf (H := H) func15 (by kernel_rfl) (by kernel_rfl) args K E
def Djn := Aqf (H := H) func16 (by kernel_rfl) (by kernel_rfl) args K E
def Djo := Aqf (H := H) func18 (by kernel_rfl) (by kernel_rfl) args K E
def callF21 := Aqf (H := H) func21 (by kernel_rfl) (by kernel_rfl) args K E
def Djp := Aqf (H := H) func22 (by kernel_rfl) (by kernel_rfl) args K E
def Djq := Aqf (H := H) func23 (by kernel_rfl) (by kernel_rfl) args K E
def Djr := Aqf (H := H) func24 (by kernel_rfl) (by kernel_rfl) args K E
def callF25 := Aqf (H := H) func25 (by kernel_rfl) (by kernel_rfl) args K E
def Djs := Aqf (H := H) func26 (by kernel_rfl) (by kernel_rfl) args K E
def callF27 := Aqf (H := H) func27 (by kernel_rfl) (by kernel_rfl) args K E
def callF28 := Aqf (H := H) func28 (by kernel_rfl) (by kernel_rfl) args K E
def Cvu := Aqf (H := H) func29 (by kernel_rfl) (by kernel_rfl) args K E
def Djt := Aqf (H := H) func30 (by kernel_rfl) (by kernel_rfl) args K E
def Bvi := Aqf (H := H) func31 (by kernel_rfl) (by kernel_rfl) args K E
def Dju := Aqf (H := H) func32 (by kernel_rfl) (by kernel_rfl) args K E
def Djv := Aqf (H := H) func33 (by kernel_rfl) (by kernel_rfl) args K E
def Djw := Aqf (H := H) func34 (by kernel_rfl) (by kernel_rfl) args K E
def Djx := Aqf (H := H) func35 (by kernel_rfl) (by kernel_rfl) args K E
def Cvv := Aqf (H := H) func36 (by kernel_rfl) (by kernel_rfl) args K E
def Djy := Aqf (H := H) func37 (by kernel_rfl) (by kernel_rfl) args K E
def Djz := Aqf (H := H) func38 (by kernel_rfl) (by kernel_rfl) args K E
def Dj0 := Aqf (H := H) func39 (by kernel_rfl) (by kernel_rfl) args K E
def Dj1 := Aqf (H := H) func40 (by kernel_rfl) (by kernel_rfl) args K E
def Dj2 := Aqf (H := H) func41 (by kernel_rfl) (by kernel_rfl) args K E
def callF42 := Aqf (H := H) func42 (by kernel_rfl) (by kernel_rfl) args K E
def Ayr := Aqf (H := H) func43 (by kernel_rfl) (by kernel_rfl) args K E
def Bq1 := Aqf (H := H) func44 (by kernel_rfl) (by kernel_rfl) args K E
def Dj3 := Aqf (H := H) func45 (by kernel_rfl) (by kernel_rfl) args K E
def Bvj := Aqf (H := H) func46 (by kernel_rfl) (by kernel_rfl) args K E
def Cvw := Aqf (H := H) func47 (by kernel_rfl) (by kernel_rfl) args K E
def Cvx := Aqf (H := H) func48 (by kernel_rfl) (by kernel_rfl) args K E
def Cvy := Aqf (H := H) func49 (by kernel_rfl) (by kernel_rfl) args K E
def Dj4 := Aqf (H := H) func50 (by kernel_rfl) (by kernel_rfl) args K E
def Bvk := Aqf (H := H) func51 (by kernel_rfl) (by kernel_rfl) args K E
def Dj5 := Aqf (H := H) func52 (by kernel_rfl) (by kernel_rfl) args K E
def Dj6 := Aqf (H := H) func53 (by kernel_rfl) (by kernel_rfl) args K E
def Dj7 := Aqf (H := H) func54 (by kernel_rfl) (by kernel_rfl) args K E
def Dj8 := Aqf (H := H) func56 (by kernel_rfl) (by kernel_rfl) args K E
def Dj9 := Aqf (H := H) func57 (by kernel_rfl) (by kernel_rfl) args K E
def Cvz := Aqf (H := H) func58 (by kernel_rfl) (by kernel_rfl) args K E
def Ays := Aqf (H := H) func59 (by kernel_rfl) (by kernel_rfl) args K E
def Cql := Aqf (H := H) func60 (by kernel_rfl) (by kernel_rfl) args K E
def Dka := Aqf (H := H) func61 (by kernel_rfl) (by kernel_rfl) args K E
def Dkb := Aqf (H := H) func62 (by kernel_rfl) (by kernel_rfl) args K E
def Cqm := Aqf (H := H) func63 (by kernel_rfl) (by kernel_rfl) args K E
def Cv0 := Aqf (H := H) func64 (by kernel_rfl) (by kernel_rfl) args K E
def Dkc := Aqf (H := H) func65 (by kernel_rfl) (by kernel_rfl) args K E
def Cqn := Aqf (H := H) func66 (by kernel_rfl) (by kernel_rfl) args K E
def Cqo := Aqf (H := H) func67 (by kernel_rfl) (by kernel_rfl) args K E
def Cqp := Aqf (H := H) func68 (by kernel_rfl) (by kernel_rfl) args K E
def Dkd := Aqf (H := H) func69 (by kernel_rfl) (by kernel_rfl) args K E
def Dke := Aqf (H := H) func70 (by kernel_rfl) (by kernel_rfl) args K E
def Dkf := Aqf (H := H) func71 (by kernel_rfl) (by kernel_rfl) args K E
def Dkg := Aqf (H := H) func72 (by kernel_rfl) (by kernel_rfl) args K E
def Dkh := Aqf (H := H) func73 (by kernel_rfl) (by kernel_rfl) args K E
def Dki := Aqf (H := H) func76 (by kernel_rfl) (by kernel_rfl) args K E
def Dkj := Aqf (H := H) func78 (by kernel_rfl) (by kernel_rfl) args K E
def Dkk := Aqf (H := H) func79 (by kernel_rfl) (by kernel_rfl) args K E
def Cv1 := Aqf (H := H) func98 (by kernel_rfl) (by kernel_rfl) args K E
def Cv2 := Aqf (H := H) func99 (by kernel_rfl) (by kernel_rfl) args K E
def Dqp := Aqf (H := H) func112 (by kernel_rfl) (by kernel_rfl) args K E
def Czm := Aqf (H := H) func113 (by kernel_rfl) (by kernel_rfl) args K E
def Dqq := Aqf (H := H) func114 (by kernel_rfl) (by kernel_rfl) args K E
def Dqr := Aqf (H := H) func115 (by kernel_rfl) (by kernel_rfl) args K E
def Dqs := Aqf (H := H) func150 (by kernel_rfl) (by kernel_rfl) args K E
def Dqt := Aqf (H := H) func151 (by kernel_rfl) (by kernel_rfl) args K E
def xq := aN @Nat.zero_add (aN @Nat.add_zero (aN @Bool.true_or (aN @true_and (aN @eval_const (aN @eval_func (aN @Aq6 (aN @Aq3 (aN @Aqm (aN @Axh (aN @Aqe (aN @Dxz (aN @Cw3 (aN @Ckn (aN @Ckp (aN @Bkf (aN @Dz5 (aN @Dji (aN @Djc (aN @Djf (aN @Dje (aN @Dz6 (aN @Dvp (aN @Djj (aN @Cjr (aN @Djg (aN @Djh (aN @Dz7 (aN @Djd (aN @Djb (aN @Dja (aN @Dz9 (aN @Dz8 (aN @Dkn (aN @Dws (aN @Dwr (aN @w64 (aN @Aka (aN @act_get? (aN @Bool.false_eq_true (aN @Bool.true_eq_false (aN @Dzc (aN @Bq7 (aN @Dwd (aN @Cx0 (aN @Ck7 (aN @Aj4 (aN @Cxd (aN @Cj2 (aN @Cj1 (aN @Cwa (aN @Axa (aN @Dqf (aN @Bvm (aN @Bv9 (aN @Axm (aN @Cys (aN @Bz8 (aN @Bool.and_true (aN @Bool.and_self (aN @Dxu (aN @Cwy (aN @Ckh (aN @Cv4 (aN @Cjw (aN @Cqs (aN @Bvn (aN @Cv5 (aN @Cqr (aN @Bw0 (aN @and_true (aN @Nat.le_refl (aN @Cwi (aN @Dq3 @Azs)))))))))))))))))))))))))))))))))))))))))))))))))))))))))))))))))))))))))
def xp := aN @Dkr (aN @Cwd (aN @Dks (aN @Dv3 (aN @Dkq (aN @Dxf (aN @Bw7 (aN @Dq8 (aN @Bw8 (aN @Dq9 (aN @Cj6 (aN @Dv5 (aN @Dv2 (aN @Dw8 (aN @Cj4 (aN @Bx3 (aN @Ayt (aN @Dxe (aN @Bw9 (aN @Dq4 (aN @Bvs (aN @Cwf (aN @Bya (aN @Bvu (aN @Cj3 (aN @Dq5 (aN @Dq6 (aN @Cx1 (aN @Cx2 @Cj7))))))))))))))))))))))))))))
def qc := aN @List.size_toArray.{0} (aN @List.length_cons.{0} (aN @List.length_nil.{0} (aN @List.getElem?_toArray.{0} (aN @List.getElem?_cons_zero.{0} (aN @List.getElem?_cons_succ.{0} (aN @Option.isNone_none.{0} (aN @List.map_toArray.{0,0} (aN @List.map_cons.{0,0} (aN @List.map_nil.{0,0} (aN @Option.bind_some.{0,0} (aN @beq_iff_eq.{0} (aN @Option.some.injEq.{0} (aN @List.setIfInBounds_toArray.{0} (aN @List.set_cons_succ.{0} (aN @List.set_cons_zero.{0} (aN @List.extract_toArray.{0} (aN @List.extract_eq_take_drop.{0} (aN @List.take_succ_cons.{0} (aN @List.take_zero.{0} (aN @List.drop_succ_cons.{0} (aN @List.drop_zero.{0} (aN @List.take_nil.{0} (aN @List.drop_nil.{0} (aN @List.cons_append.{0} (aN @List.nil_append.{0} (aN @List.append_assoc.{0} (aN @List.append_nil.{0} (aN @List.all_cons.{0} (aN @List.all_nil.{0} (aN @List.toList_toArray.{0} (aN @Option.map_none.{0,0} @Option.map_some.{0,0})))))))))))))))))))))))))))))))
def qd := aN @List.length_cons.{0} @List.length_nil.{0}
end Go.Proofs.YtnfnaehonkbknaaGreatDoor
end
section
namespace Go.X
structure Hid (q : Prop) : Prop where
 out : q
theorem unH {q : Prop} (h : Hid q) : q := h.out
theorem unT {G : Prop} (h : True -> G) : G := h trivial
theorem unC {c G : Prop} (h : c -> G) : c -> True -> G := fun a _ => h a
theorem unD {c d G : Prop} (h : c /\ d -> G) : c -> d -> G := fun a b => h ⟨a, b⟩
theorem unU {X : Prop} (h : ∀ (_ : Unit) (_ : True), X) : X := h () trivial
def Aqk (p : Prop) : Prop := p
theorem zA {Y p q : Prop} (y : Y) (g : q) (h : Hid Y -> Hid q -> p := by
 intro yy g
 repeat' (first
 | (refine Axz rfl ?_; intro Kz hKz; simp -implicitDefEqProofs (disch := first | omega | (simp only [qd] <;> omega)) only [xq, ↓xp, qc, Nat.reduceAdd, List.range, List.range.loop, fine, Nat.reduceEqDiff, ↓reduceIte, yielded, reduceCtorEq, Nat.reduceLT, Nat.reduceMul, Nat.reduceSub, one, Nat.reduceLeDiff, Aqg, yy.out, aq, ↓ap, qe0, qe1, qe2, *, -g, -yy, -hKz]; try (refine hKz _ _ ?_; clear hKz Kz))
 | (refine Azx rfl ?_; intro Kz hKz; simp -implicitDefEqProofs (disch := first | omega | (simp only [qd] <;> omega)) only [xq, ↓xp, qc, Nat.reduceAdd, List.range, List.range.loop, fine, Nat.reduceEqDiff, ↓reduceIte, yielded, reduceCtorEq, Nat.reduceLT, Nat.reduceMul, Nat.reduceSub, one, Nat.reduceLeDiff, Aqg, yy.out, aq, ↓ap, qe0, qe1, qe2, *, -g, -yy, -hKz]; try (refine hKz _ _ ?_; clear hKz Kz; (try simp only [nq, ↓reduceIte, Nat.reduceEqDiff])))
 | (refine Aze ?_; (try simp only [nq, ↓reduceIte, Nat.reduceEqDiff]))
 | (refine Azh ?_; (try simp only [nq, ↓reduceIte, Nat.reduceEqDiff]))
 | (refine Az6 ?_; (try simp only [nq, ↓reduceIte, Nat.reduceEqDiff]))
 | (refine Ajc ?_; (try simp only [nq, ↓reduceIte, Nat.reduceEqDiff]))
 | (refine Azw (by simp only [Aq6, Axh, Nat.reduceEqDiff, Nat.reduceLT, ↓reduceIte, *, -g, -yy]; rfl) ?_ ?_ <;> (intro hcz; first | (exfalso; simp -implicitDefEqProofs (disch := omega) only [*, -g, -yy, bq, reduceCtorEq] at hcz; done) | (simp only [dq, qe3, qe4, qe5, qe6] at hcz) | skip))
 | (refine Azy ?_)
 | (refine Ax7 ?_)
 | (refine Axp ?_))
 refine unT ?_; (try (revert hcz; refine unC ?_)); (repeat (revert hcz; refine unD ?_)); first | revert Kz | refine unU ?_
 exact Hid.out g) : Hid p := ⟨h ⟨y⟩ ⟨g⟩⟩
theorem zS {Y p q : Prop} (y : Y) (g : q) (h : Hid Y -> Hid q -> p := by
 intro yy g
 repeat' (first
 | (refine Axz rfl ?_; intro Kz hKz; simp -implicitDefEqProofs (disch := first | omega | (simp only [qd] <;> omega)) only [xq, ↓xp, qc, Nat.reduceAdd, List.range, List.range.loop, fine, Nat.reduceEqDiff, ↓reduceIte, yielded, reduceCtorEq, Nat.reduceLT, Nat.reduceMul, Nat.reduceSub, one, Nat.reduceLeDiff, Aqg, yy.out, aq, ↓ap, qe0, qe1, qe2, *, -g, -yy, -hKz]; try (refine hKz _ _ ?_; clear hKz Kz))
 | (refine Azx rfl ?_; intro Kz hKz; simp -implicitDefEqProofs (disch := first | omega | (simp only [qd] <;> omega)) only [xq, ↓xp, qc, Nat.reduceAdd, List.range, List.range.loop, fine, Nat.reduceEqDiff, ↓reduceIte, yielded, reduceCtorEq, Nat.reduceLT, Nat.reduceMul, Nat.reduceSub, one, Nat.reduceLeDiff, Aqg, yy.out, aq, ↓ap, qe0, qe1, qe2, *, -g, -yy, -hKz]; try (refine hKz _ _ ?_; clear hKz Kz; (try simp only [nq, ↓reduceIte, Nat.reduceEqDiff])))
 | (refine Aze ?_; (try simp only [nq, ↓reduceIte, Nat.reduceEqDiff]))
 | (refine Azh ?_; (try simp only [nq, ↓reduceIte, Nat.reduceEqDiff]))
 | (refine Az6 ?_; (try simp only [nq, ↓reduceIte, Nat.reduceEqDiff]))
 | (refine Ajc ?_; (try simp only [nq, ↓reduceIte, Nat.reduceEqDiff]))
 | (refine Azw (by simp only [Aq6, Axh, Nat.reduceEqDiff, Nat.reduceLT, ↓reduceIte, *, -g, -yy]; rfl) ?_ ?_ <;> (intro hcz; first | (exfalso; simp -implicitDefEqProofs (disch := omega) only [*, -g, -yy, bq, reduceCtorEq] at hcz; done) | (simp only [dq, qe3, qe4, qe5, qe6] at hcz) | skip)))
 refine unT ?_; (try (revert hcz; refine unC ?_)); (repeat (revert hcz; refine unD ?_)); first | revert Kz | refine unU ?_
 exact Hid.out g) : Hid p := ⟨h ⟨y⟩ ⟨g⟩⟩
theorem zX {Y p q : Prop} (y : Y) (g : q) (h : Hid Y -> Hid q -> p := by
 intro yy g
 simp -implicitDefEqProofs (disch := first | omega | (simp only [qd] <;> omega)) only [xq, ↓xp, qc, Nat.reduceAdd, List.range, List.range.loop, fine, Nat.reduceEqDiff, ↓reduceIte, yielded, reduceCtorEq, Nat.reduceLT, Nat.reduceMul, Nat.reduceSub, one, Nat.reduceLeDiff, Aqg, yy.out, aq, ↓ap, qe0, qe1, qe2, *, -g, -yy, -hK]
 exact Hid.out g) : Hid p := ⟨h ⟨y⟩ ⟨g⟩⟩
theorem zU {Y p q : Prop} (y : Y) (g : q) (h : Hid Y -> Hid q -> p := by
 intro yy g
 (try (simp -implicitDefEqProofs (disch := first | omega | (simp only [qd] <;> omega)) only [xq, ↓xp, qc, Nat.reduceAdd, List.range, List.range.loop, fine, Nat.reduceEqDiff, ↓reduceIte, yielded, reduceCtorEq, Nat.reduceLT, Nat.reduceMul, Nat.reduceSub, one, Nat.reduceLeDiff, Aqg, yy.out, aq, ↓ap, qe0, qe1, qe2, *, -g, -yy, -hK])); (try (refine hK _ _ ?_; try simp only [nq, ↓reduceIte, Nat.reduceEqDiff]))
 repeat' (first
 | (refine Axz rfl ?_; intro Kz hKz; simp -implicitDefEqProofs (disch := first | omega | (simp only [qd] <;> omega)) only [xq, ↓xp, qc, Nat.reduceAdd, List.range, List.range.loop, fine, Nat.reduceEqDiff, ↓reduceIte, yielded, reduceCtorEq, Nat.reduceLT, Nat.reduceMul, Nat.reduceSub, one, Nat.reduceLeDiff, Aqg, yy.out, aq, ↓ap, qe0, qe1, qe2, *, -g, -yy, -hKz]; try (refine hKz _ _ ?_; clear hKz Kz))
 | (refine Azx rfl ?_; intro Kz hKz; simp -implicitDefEqProofs (disch := first | omega | (simp only [qd] <;> omega)) only [xq, ↓xp, qc, Nat.reduceAdd, List.range, List.range.loop, fine, Nat.reduceEqDiff, ↓reduceIte, yielded, reduceCtorEq, Nat.reduceLT, Nat.reduceMul, Nat.reduceSub, one, Nat.reduceLeDiff, Aqg, yy.out, aq, ↓ap, qe0, qe1, qe2, *, -g, -yy, -hKz]; try (refine hKz _ _ ?_; clear hKz Kz; (try simp only [nq, ↓reduceIte, Nat.reduceEqDiff])))
 | (refine Aze ?_; (try simp only [nq, ↓reduceIte, Nat.reduceEqDiff]))
 | (refine Azh ?_; (try simp only [nq, ↓reduceIte, Nat.reduceEqDiff]))
 | (refine Az6 ?_; (try simp only [nq, ↓reduceIte, Nat.reduceEqDiff]))
 | (refine Ajc ?_; (try simp only [nq, ↓reduceIte, Nat.reduceEqDiff]))
 | (refine Azw (by simp only [Aq6, Axh, Nat.reduceEqDiff, Nat.reduceLT, ↓reduceIte, *, -g, -yy]; rfl) ?_ ?_ <;> (intro hcz; first | (exfalso; simp -implicitDefEqProofs (disch := omega) only [*, -g, -yy, bq, reduceCtorEq] at hcz; done) | (simp only [dq, qe3, qe4, qe5, qe6] at hcz) | skip))
 | (refine Azy ?_)
 | (refine Ax7 ?_)
 | (refine Axp ?_))
 refine unT ?_; (try (revert hcz; refine unC ?_)); (repeat (revert hcz; refine unD ?_)); first | revert Kz | refine unU ?_
 exact Hid.out g) : Hid p := ⟨h ⟨y⟩ ⟨g⟩⟩
theorem zV {Y p q : Prop} (y : Y) (g : q) (h : Hid Y -> Hid q -> p := by
 intro yy g
 (try (simp -implicitDefEqProofs (disch := first | omega | (simp only [qd] <;> omega)) only [xq, ↓xp, qc, Nat.reduceAdd, List.range, List.range.loop, fine, Nat.reduceEqDiff, ↓reduceIte, yielded, reduceCtorEq, Nat.reduceLT, Nat.reduceMul, Nat.reduceSub, one, Nat.reduceLeDiff, Aqg, yy.out, aq, ↓ap, qe0, qe1, qe2, *, -g, -yy, -hK])); (try (refine hK _ _ ?_; try simp only [nq, ↓reduceIte, Nat.reduceEqDiff]))
 repeat' (first
 | (refine Axz rfl ?_; intro Kz hKz; simp -implicitDefEqProofs (disch := first | omega | (simp only [qd] <;> omega)) only [xq, ↓xp, qc, Nat.reduceAdd, List.range, List.range.loop, fine, Nat.reduceEqDiff, ↓reduceIte, yielded, reduceCtorEq, Nat.reduceLT, Nat.reduceMul, Nat.reduceSub, one, Nat.reduceLeDiff, Aqg, yy.out, aq, ↓ap, qe0, qe1, qe2, *, -g, -yy, -hKz]; try (refine hKz _ _ ?_; clear hKz Kz))
 | (refine Azx rfl ?_; intro Kz hKz; simp -implicitDefEqProofs (disch := first | omega | (simp only [qd] <;> omega)) only [xq, ↓xp, qc, Nat.reduceAdd, List.range, List.range.loop, fine, Nat.reduceEqDiff, ↓reduceIte, yielded, reduceCtorEq, Nat.reduceLT, Nat.reduceMul, Nat.reduceSub, one, Nat.reduceLeDiff, Aqg, yy.out, aq, ↓ap, qe0, qe1, qe2, *, -g, -yy, -hKz]; try (refine hKz _ _ ?_; clear hKz Kz; (try simp only [nq, ↓reduceIte, Nat.reduceEqDiff])))
 | (refine Aze ?_; (try simp only [nq, ↓reduceIte, Nat.reduceEqDiff]))
 | (refine Azh ?_; (try simp only [nq, ↓reduceIte, Nat.reduceEqDiff]))
 | (refine Az6 ?_; (try simp only [nq, ↓reduceIte, Nat.reduceEqDiff]))
 | (refine Ajc ?_; (try simp only [nq, ↓reduceIte, Nat.reduceEqDiff]))
 | (refine Azw (by simp only [Aq6, Axh, Nat.reduceEqDiff, Nat.reduceLT, ↓reduceIte, *, -g, -yy]; rfl) ?_ ?_ <;> (intro hcz; first | (exfalso; simp -implicitDefEqProofs (disch := omega) only [*, -g, -yy, bq, reduceCtorEq] at hcz; done) | (simp only [dq, qe3, qe4, qe5, qe6] at hcz) | skip)))
 refine unT ?_; (try (revert hcz; refine unC ?_)); (repeat (revert hcz; refine unD ?_)); first | revert Kz | refine unU ?_
 exact Hid.out g) : Hid p := ⟨h ⟨y⟩ ⟨g⟩⟩
theorem zAi {Y p q : Prop} (y : Y) (g : q) (h : Hid Y -> Hid q -> p := by
 intro yy g
 repeat' (first
 | (refine Axz rfl ?_; intro Kz hKz; simp -implicitDefEqProofs (disch := first | omega | (simp only [qd] <;> omega)) only [xq, ↓xp, qc, Nat.reduceAdd, List.range, List.range.loop, fine, Nat.reduceEqDiff, ↓reduceIte, yielded, reduceCtorEq, Nat.reduceLT, Nat.reduceMul, Nat.reduceSub, one, Nat.reduceLeDiff, Aqg, yy.out, ↓Aks, aq, ↓ap, qe0, qe1, qe2, *, -g, -yy, -hKz]; try (refine hKz _ _ ?_; clear hKz Kz))
 | (refine Azx rfl ?_; intro Kz hKz; simp -implicitDefEqProofs (disch := first | omega | (simp only [qd] <;> omega)) only [xq, ↓xp, qc, Nat.reduceAdd, List.range, List.range.loop, fine, Nat.reduceEqDiff, ↓reduceIte, yielded, reduceCtorEq, Nat.reduceLT, Nat.reduceMul, Nat.reduceSub, one, Nat.reduceLeDiff, Aqg, yy.out, ↓Aks, aq, ↓ap, qe0, qe1, qe2, *, -g, -yy, -hKz]; try (refine hKz _ _ ?_; clear hKz Kz; (try simp only [nq, ↓reduceIte, Nat.reduceEqDiff])))
 | (refine Aze ?_; (try simp only [nq, ↓reduceIte, Nat.reduceEqDiff]))
 | (refine Azh ?_; (try simp only [nq, ↓reduceIte, Nat.reduceEqDiff]))
 | (refine Az6 ?_; (try simp only [nq, ↓reduceIte, Nat.reduceEqDiff]))
 | (refine Ajc ?_; (try simp only [nq, ↓reduceIte, Nat.reduceEqDiff]))
 | (refine Azw (by simp only [Aq6, Axh, Nat.reduceEqDiff, Nat.reduceLT, ↓reduceIte, *, -g, -yy]; rfl) ?_ ?_ <;> (intro hcz; first | (exfalso; simp -implicitDefEqProofs (disch := omega) only [*, -g, -yy, bq, reduceCtorEq] at hcz; done) | (simp only [dq, qe3, qe4, qe5, qe6] at hcz) | skip))
 | (refine Azy ?_)
 | (refine Ax7 ?_)
 | (refine Axp ?_))
 refine unT ?_; (try (revert hcz; refine unC ?_)); (repeat (revert hcz; refine unD ?_)); first | revert Kz | refine unU ?_
 exact Hid.out g) : Hid p := ⟨h ⟨y⟩ ⟨g⟩⟩
theorem zXi {Y p q : Prop} (y : Y) (g : q) (h : Hid Y -> Hid q -> p := by
 intro yy g
 simp -implicitDefEqProofs (disch := first | omega | (simp only [qd] <;> omega)) only [xq, ↓xp, qc, Nat.reduceAdd, List.range, List.range.loop, fine, Nat.reduceEqDiff, ↓reduceIte, yielded, reduceCtorEq, Nat.reduceLT, Nat.reduceMul, Nat.reduceSub, one, Nat.reduceLeDiff, Aqg, yy.out, ↓Aks, aq, ↓ap, qe0, qe1, qe2, *, -g, -yy, -hK]
 exact Hid.out g) : Hid p := ⟨h ⟨y⟩ ⟨g⟩⟩
theorem zUi {Y p q : Prop} (y : Y) (g : q) (h : Hid Y -> Hid q -> p := by
 intro yy g
 (try (simp -implicitDefEqProofs (disch := first | omega | (simp only [qd] <;> omega)) only [xq, ↓xp, qc, Nat.reduceAdd, List.range, List.range.loop, fine, Nat.reduceEqDiff, ↓reduceIte, yielded, reduceCtorEq, Nat.reduceLT, Nat.reduceMul, Nat.reduceSub, one, Nat.reduceLeDiff, Aqg, yy.out, ↓Aks, aq, ↓ap, qe0, qe1, qe2, *, -g, -yy, -hK])); (try (refine hK _ _ ?_; try simp only [nq, ↓reduceIte, Nat.reduceEqDiff]))
 repeat' (first
 | (refine Axz rfl ?_; intro Kz hKz; simp -implicitDefEqProofs (disch := first | omega | (simp only [qd] <;> omega)) only [xq, ↓xp, qc, Nat.reduceAdd, List.range, List.range.loop, fine, Nat.reduceEqDiff, ↓reduceIte, yielded, reduceCtorEq, Nat.reduceLT, Nat.reduceMul, Nat.reduceSub, one, Nat.reduceLeDiff, Aqg, yy.out, ↓Aks, aq, ↓ap, qe0, qe1, qe2, *, -g, -yy, -hKz]; try (refine hKz _ _ ?_; clear hKz Kz))
 | (refine Azx rfl ?_; intro Kz hKz; simp -implicitDefEqProofs (disch := first | omega | (simp only [qd] <;> omega)) only [xq, ↓xp, qc, Nat.reduceAdd, List.range, List.range.loop, fine, Nat.reduceEqDiff, ↓reduceIte, yielded, reduceCtorEq, Nat.reduceLT, Nat.reduceMul, Nat.reduceSub, one, Nat.reduceLeDiff, Aqg, yy.out, ↓Aks, aq, ↓ap, qe0, qe1, qe2, *, -g, -yy, -hKz]; try (refine hKz _ _ ?_; clear hKz Kz; (try simp only [nq, ↓reduceIte, Nat.reduceEqDiff])))
 | (refine Aze ?_; (try simp only [nq, ↓reduceIte, Nat.reduceEqDiff]))
 | (refine Azh ?_; (try simp only [nq, ↓reduceIte, Nat.reduceEqDiff]))
 | (refine Az6 ?_; (try simp only [nq, ↓reduceIte, Nat.reduceEqDiff]))
 | (refine Ajc ?_; (try simp only [nq, ↓reduceIte, Nat.reduceEqDiff]))
 | (refine Azw (by simp only [Aq6, Axh, Nat.reduceEqDiff, Nat.reduceLT, ↓reduceIte, *, -g, -yy]; rfl) ?_ ?_ <;> (intro hcz; first | (exfalso; simp -implicitDefEqProofs (disch := omega) only [*, -g, -yy, bq, reduceCtorEq] at hcz; done) | (simp only [dq, qe3, qe4, qe5, qe6] at hcz) | skip))
 | (refine Azy ?_)
 | (refine Ax7 ?_)
 | (refine Axp ?_))
 refine unT ?_; (try (revert hcz; refine unC ?_)); (repeat (revert hcz; refine unD ?_)); first | revert Kz | refine unU ?_
 exact Hid.out g) : Hid p := ⟨h ⟨y⟩ ⟨g⟩⟩
theorem zQ {p q : Prop} (g : q) (h : Hid q -> p := by
 intro g
 simp only [nq, ↓reduceIte, Nat.reduceEqDiff]
 exact Hid.out g) : Hid p := ⟨h ⟨g⟩⟩
theorem z0 {Y p q : Prop} (y : Y) (g : q) (h : Hid Y -> Hid q -> p := by
 intro yy g
 simp -implicitDefEqProofs (disch := first | omega | (simp only [qd] <;> omega)) only [xq, ↓xp, qc, Nat.reduceAdd, List.range, List.range.loop, fine, Nat.reduceEqDiff, ↓reduceIte, yielded, reduceCtorEq, Nat.reduceLT, Nat.reduceMul, Nat.reduceSub, one, Nat.reduceLeDiff, Aqg, yy.out]
 exact Hid.out g) : Hid p := ⟨h ⟨y⟩ ⟨g⟩⟩
theorem z1 {Y p q : Prop} (y : Y) (g : q) (h : Hid Y -> Hid q -> p := by
 intro yy g
 (refine Aye ?_; intro K hK; simp -implicitDefEqProofs (disch := first | omega | (simp only [qd] <;> omega)) only [xq, ↓xp, qc, Nat.reduceAdd, List.range, List.range.loop, fine, Nat.reduceEqDiff, ↓reduceIte, yielded, reduceCtorEq, Nat.reduceLT, Nat.reduceMul, Nat.reduceSub, one, Nat.reduceLeDiff, Aqg, yy.out]; refine hK _ _ ?_; clear hK K)
 exact Hid.out g) : Hid p := ⟨h ⟨y⟩ ⟨g⟩⟩
theorem z2 {Y p q : Prop} (y : Y) (g : q) (h : Hid Y -> Hid q -> p := by
 intro yy g
 (refine Bqw ?_; intro K hK; simp -implicitDefEqProofs (disch := first | omega | (simp only [qd] <;> omega)) only [xq, ↓xp, qc, Nat.reduceAdd, List.range, List.range.loop, fine, Nat.reduceEqDiff, ↓reduceIte, yielded, reduceCtorEq, Nat.reduceLT, Nat.reduceMul, Nat.reduceSub, one, Nat.reduceLeDiff, Aqg, yy.out]; refine hK _ _ ?_; clear hK K)
 exact Hid.out g) : Hid p := ⟨h ⟨y⟩ ⟨g⟩⟩
theorem z3 {Y p q : Prop} (y : Y) (g : q) (h : Hid Y -> Hid q -> p := by
 intro yy g
 (apply Aku rfl rfl rfl; (focus (simp -implicitDefEqProofs (disch := first | omega | (simp only [qd] <;> omega)) only [xq, ↓xp, qc, Nat.reduceAdd, List.range, List.range.loop, fine, Nat.reduceEqDiff, ↓reduceIte, yielded, reduceCtorEq, Nat.reduceLT, Nat.reduceMul, Nat.reduceSub, one, Nat.reduceLeDiff, Aqg, yy.out, aq, ↓ap, qe0, qe1, qe2, *, -g, -yy, -hK, Axa] <;> (first | exact rfl | exact ⟨rfl, rfl⟩ | exact ⟨rfl, trivial⟩))); simp -implicitDefEqProofs (disch := first | omega | (simp only [qd] <;> omega)) only [Aq3, Aqm])
 exact Hid.out g) : Hid p := ⟨h ⟨y⟩ ⟨g⟩⟩
theorem z3i {Y p q : Prop} (y : Y) (g : q) (h : Hid Y -> Hid q -> p := by
 intro yy g
 (apply Aku rfl rfl rfl; (focus (simp -implicitDefEqProofs (disch := first | omega | (simp only [qd] <;> omega)) only [xq, ↓xp, qc, Nat.reduceAdd, List.range, List.range.loop, fine, Nat.reduceEqDiff, ↓reduceIte, yielded, reduceCtorEq, Nat.reduceLT, Nat.reduceMul, Nat.reduceSub, one, Nat.reduceLeDiff, Aqg, yy.out, ↓Aks, aq, ↓ap, qe0, qe1, qe2, *, -g, -yy, -hK, Axa] <;> (first | exact rfl | exact ⟨rfl, rfl⟩ | exact ⟨rfl, trivial⟩))); simp -implicitDefEqProofs (disch := first | omega | (simp only [qd] <;> omega)) only [Aq3, Aqm])
 exact Hid.out g) : Hid p := ⟨h ⟨y⟩ ⟨g⟩⟩
theorem z7 {Y p q : Prop} (y : Y) (g : q) (h : Hid Y -> Hid q -> p := by
 intro yy g
 simp -implicitDefEqProofs (disch := first | omega | (simp only [qd] <;> omega)) only [xq, ↓xp, qc, Nat.reduceAdd, List.range, List.range.loop, fine, Nat.reduceEqDiff, ↓reduceIte, yielded, reduceCtorEq, Nat.reduceLT, Nat.reduceMul, Nat.reduceSub, one, Nat.reduceLeDiff, Aqg, yy.out, aq, ↓ap, qe0, qe1, qe2, *, -g, -yy]
 exact Hid.out g) : Hid p := ⟨h ⟨y⟩ ⟨g⟩⟩
theorem z8 {Y p q : Prop} (y : Y) (g : q) (h : Hid Y -> Hid q -> p := by
 intro yy g
 (refine Aye ?_; intro Kz hKz; simp -implicitDefEqProofs (disch := first | omega | (simp only [qd] <;> omega)) only [xq, ↓xp, qc, Nat.reduceAdd, List.range, List.range.loop, fine, Nat.reduceEqDiff, ↓reduceIte, yielded, reduceCtorEq, Nat.reduceLT, Nat.reduceMul, Nat.reduceSub, one, Nat.reduceLeDiff, Aqg, yy.out])
 refine unT ?_; (try (revert hcz; refine unC ?_)); (repeat (revert hcz; refine unD ?_)); first | revert Kz | refine unU ?_
 exact Hid.out g) : Hid p := ⟨h ⟨y⟩ ⟨g⟩⟩
theorem z9 {Y p q : Prop} (y : Y) (g : q) (h : Hid Y -> Hid q -> p := by
 intro yy g
 (refine Axs ?_; (try simp only [nq, ↓reduceIte, Nat.reduceEqDiff]); rw [Aq8, Ay2 yy.out (by decide)]; simp only [Axh, Nat.reduceEqDiff, ↓reduceIte])
 exact Hid.out g) : Hid p := ⟨h ⟨y⟩ ⟨g⟩⟩
theorem zB {Y p q : Prop} (y : Y) (g : q) (h : Hid Y -> Hid q -> p := by
 intro yy g
 (refine Axs ?_; (try simp only [nq, ↓reduceIte, Nat.reduceEqDiff]); rw [Aq8, Cxh yy.out (by decide) (by decide)]; simp only [Axh, Nat.reduceEqDiff, ↓reduceIte])
 exact Hid.out g) : Hid p := ⟨h ⟨y⟩ ⟨g⟩⟩
theorem zC {Y p q : Prop} (y : Y) (g : q) (h : Hid Y -> Hid q -> p := by
 intro yy g
 (refine Axs ?_; (try simp only [nq, ↓reduceIte, Nat.reduceEqDiff]); rw [Aq8, Bv4 yy.out (by decide) (by decide) (by decide)]; simp only [Axh, Nat.reduceEqDiff, ↓reduceIte])
 exact Hid.out g) : Hid p := ⟨h ⟨y⟩ ⟨g⟩⟩
theorem zD {Y p q : Prop} (y : Y) (g : q) (h : Hid Y -> Hid q -> p := by
 intro yy g
 ((try simp only [nq, ↓reduceIte, Nat.reduceEqDiff]); rw [Bwz, Awo yy.out])
 exact Hid.out g) : Hid p := ⟨h ⟨y⟩ ⟨g⟩⟩
theorem zI {Y p q : Prop} (y : Y) (g : q) (h : Hid Y -> Hid q -> p := by
 intro yy g
 (apply Bq9 rfl rfl rfl; (focus (intro HX; simp -implicitDefEqProofs (disch := first | omega | (simp only [qd] <;> omega)) only [xq, ↓xp, qc, Nat.reduceAdd, List.range, List.range.loop, fine, Nat.reduceEqDiff, ↓reduceIte, yielded, reduceCtorEq, Nat.reduceLT, Nat.reduceMul, Nat.reduceSub, one, Nat.reduceLeDiff, Aqg, yy.out, aq, ↓ap, qe0, qe1, qe2, *, -g, -yy, -hK, Axa] <;> (first | exact rfl | exact ⟨rfl, rfl⟩ | exact ⟨rfl, trivial⟩))); simp -implicitDefEqProofs (disch := first | omega | (simp only [qd] <;> omega)) only [Aq3, Aqm])
 exact Hid.out g) : Hid p := ⟨h ⟨y⟩ ⟨g⟩⟩
theorem zJ {Y p q : Prop} (y : Y) (g : q) (h : Hid Y -> Hid q -> p := by
 intro yy g
 (apply Axe rfl rfl rfl ‹_›; (focus (intro HX hHX; simp -implicitDefEqProofs (disch := first | omega | (simp only [qd] <;> omega)) only [xq, ↓xp, qc, Nat.reduceAdd, List.range, List.range.loop, fine, Nat.reduceEqDiff, ↓reduceIte, yielded, reduceCtorEq, Nat.reduceLT, Nat.reduceMul, Nat.reduceSub, one, Nat.reduceLeDiff, Aqg, yy.out, aq, ↓ap, qe0, qe1, qe2, *, -g, -yy, -hK, Axa] <;> (first | exact rfl | exact ⟨rfl, rfl⟩ | exact ⟨rfl, trivial⟩))); simp -implicitDefEqProofs (disch := first | omega | (simp only [qd] <;> omega)) only [Aq3, Aqm])
 exact Hid.out g) : Hid p := ⟨h ⟨y⟩ ⟨g⟩⟩
theorem zF {Y p q : Prop} (y : Y) (g : q) (h : Hid Y -> Hid q -> p := by
 intro yy g
 (apply Cks hOz rfl rfl; (focus (intro HX; simp -implicitDefEqProofs (disch := first | omega | (simp only [qd] <;> omega)) only [xq, ↓xp, qc, Nat.reduceAdd, List.range, List.range.loop, fine, Nat.reduceEqDiff, ↓reduceIte, yielded, reduceCtorEq, Nat.reduceLT, Nat.reduceMul, Nat.reduceSub, one, Nat.reduceLeDiff, Aqg, yy.out, aq, ↓ap, qe0, qe1, qe2, *, -g, -yy, -hK, Axa] <;> (first | exact rfl | exact ⟨rfl, rfl⟩ | exact ⟨rfl, trivial⟩))); simp -implicitDefEqProofs (disch := first | omega | (simp only [qd] <;> omega)) only [Aq3, Aqm])
 exact Hid.out g) : Hid p := ⟨h ⟨y⟩ ⟨g⟩⟩
theorem zG {Y p q : Prop} (y : Y) (g : q) (h : Hid Y -> Hid q -> p := by
 intro yy g
 (apply Cxf hOz rfl rfl rfl rfl (by simp -implicitDefEqProofs (disch := omega) only [act_get?, Axh, Nat.reduceEqDiff, ↓reduceIte, beq_self_eq_true, Bool.and_self, *, -g, -yy]); (focus (intro HX; simp -implicitDefEqProofs (disch := first | omega | (simp only [qd] <;> omega)) only [xq, ↓xp, qc, Nat.reduceAdd, List.range, List.range.loop, fine, Nat.reduceEqDiff, ↓reduceIte, yielded, reduceCtorEq, Nat.reduceLT, Nat.reduceMul, Nat.reduceSub, one, Nat.reduceLeDiff, Aqg, yy.out, aq, ↓ap, qe0, qe1, qe2, *, -g, -yy, -hK, Axa] <;> (first | exact rfl | exact ⟨rfl, rfl⟩ | exact ⟨rfl, trivial⟩))); simp -implicitDefEqProofs (disch := first | omega | (simp only [qd] <;> omega)) only [Aq3, Aqm])
 exact Hid.out g) : Hid p := ⟨h ⟨y⟩ ⟨g⟩⟩
theorem zK {Y p q : Prop} (y : Y) (g : q) (h : Hid Y -> Hid q -> p := by
 intro yy g
 (apply Bku hOz rfl rfl ‹_›; (focus (intro HX hHX; simp -implicitDefEqProofs (disch := first | omega | (simp only [qd] <;> omega)) only [xq, ↓xp, qc, Nat.reduceAdd, List.range, List.range.loop, fine, Nat.reduceEqDiff, ↓reduceIte, yielded, reduceCtorEq, Nat.reduceLT, Nat.reduceMul, Nat.reduceSub, one, Nat.reduceLeDiff, Aqg, yy.out, aq, ↓ap, qe0, qe1, qe2, *, -g, -yy, -hK, Axa] <;> (first | exact rfl | exact ⟨rfl, rfl⟩ | exact ⟨rfl, trivial⟩))); simp -implicitDefEqProofs (disch := first | omega | (simp only [qd] <;> omega)) only [Aq3, Aqm])
 exact Hid.out g) : Hid p := ⟨h ⟨y⟩ ⟨g⟩⟩
theorem zL {Y p q : Prop} (y : Y) (g : q) (h : Hid Y -> Hid q -> p := by
 intro yy g
 (apply Bku hOz rfl rfl (by rfl); (focus (intro HX hHX; subst hHX; simp -implicitDefEqProofs (disch := first | omega | (simp only [qd] <;> omega)) only [xq, ↓xp, qc, Nat.reduceAdd, List.range, List.range.loop, fine, Nat.reduceEqDiff, ↓reduceIte, yielded, reduceCtorEq, Nat.reduceLT, Nat.reduceMul, Nat.reduceSub, one, Nat.reduceLeDiff, Aqg, yy.out, aq, ↓ap, qe0, qe1, qe2, *, -g, -yy, -hK, Axa] <;> (first | exact rfl | exact ⟨rfl, rfl⟩ | exact ⟨rfl, trivial⟩))); simp -implicitDefEqProofs (disch := first | omega | (simp only [qd] <;> omega)) only [Aq3, Aqm])
 exact Hid.out g) : Hid p := ⟨h ⟨y⟩ ⟨g⟩⟩
theorem zM {Y p q : Prop} (y : Y) (g : q) (h : Hid Y -> Hid q -> p := by
 intro yy g
 (refine Bqs hOz rfl rfl ?_; simp -implicitDefEqProofs (disch := first | omega | (simp only [qd] <;> omega)) only [xq, ↓xp, qc, Nat.reduceAdd, List.range, List.range.loop, fine, Nat.reduceEqDiff, ↓reduceIte, yielded, reduceCtorEq, Nat.reduceLT, Nat.reduceMul, Nat.reduceSub, one, Nat.reduceLeDiff, Aqg, yy.out, aq, ↓ap, qe0, qe1, qe2, *, -g, -yy, -hK])
 exact Hid.out g) : Hid p := ⟨h ⟨y⟩ ⟨g⟩⟩
theorem zN {Y p q : Prop} (y : Y) (g : q) (h : Hid Y -> Hid q -> p := by
 intro yy g
 (refine Cku hOz rfl rfl rfl rfl (by simp -implicitDefEqProofs (disch := omega) only [act_get?, Axh, Nat.reduceEqDiff, ↓reduceIte, beq_self_eq_true, Bool.and_self, *, -g, -yy]) ?_; simp -implicitDefEqProofs (disch := first | omega | (simp only [qd] <;> omega)) only [xq, ↓xp, qc, Nat.reduceAdd, List.range, List.range.loop, fine, Nat.reduceEqDiff, ↓reduceIte, yielded, reduceCtorEq, Nat.reduceLT, Nat.reduceMul, Nat.reduceSub, one, Nat.reduceLeDiff, Aqg, yy.out, aq, ↓ap, qe0, qe1, qe2, *, -g, -yy, -hK])
 exact Hid.out g) : Hid p := ⟨h ⟨y⟩ ⟨g⟩⟩
theorem zR {Y p q : Prop} (y : Y) (g : q) (h : Hid Y -> Hid q -> p := by
 intro yy g
 (first | (refine Dzy hOz rfl rfl ?_; simp -implicitDefEqProofs (disch := first | omega | (simp only [qd] <;> omega)) only [xq, ↓xp, qc, Nat.reduceAdd, List.range, List.range.loop, fine, Nat.reduceEqDiff, ↓reduceIte, yielded, reduceCtorEq, Nat.reduceLT, Nat.reduceMul, Nat.reduceSub, one, Nat.reduceLeDiff, Aqg, yy.out, aq, ↓ap, qe0, qe1, qe2, *, -g, -yy, -hK, exists_eq_left', beq_self_eq_true, Bool.not_true, Bool.not_false, Bool.false_eq_true, if_false, if_true]) | (refine Dqe hOz rfl rfl rfl rfl ?_ ?_; (focus (simp -implicitDefEqProofs (disch := omega) only [act_get?, Axh, Nat.reduceEqDiff, ↓reduceIte, beq_self_eq_true, Bool.and_self, Bool.not_true, Bool.not_false, Bool.true_and, Bool.false_and, Bool.and_true, Bool.and_false, Bool.or_true, Bool.true_or, Bool.or_false, Bool.false_or, decide_true, decide_false, if_true, Bool.false_eq_true, if_false, *, -g, -yy]; done)); simp -implicitDefEqProofs (disch := first | omega | (simp only [qd] <;> omega)) only [xq, ↓xp, qc, Nat.reduceAdd, List.range, List.range.loop, fine, Nat.reduceEqDiff, ↓reduceIte, yielded, reduceCtorEq, Nat.reduceLT, Nat.reduceMul, Nat.reduceSub, one, Nat.reduceLeDiff, Aqg, yy.out, aq, ↓ap, qe0, qe1, qe2, *, -g, -yy, -hK, exists_eq_left', beq_self_eq_true, Bool.not_true, Bool.not_false, Bool.false_eq_true, if_false, if_true]) | (refine Dzx hOz rfl rfl rfl (act_get? (by omega)) ?_ ?_; (focus ((simp -implicitDefEqProofs (disch := omega) only [Axh, Nat.reduceEqDiff, ↓reduceIte, beq_self_eq_true, Bool.and_self, Bool.not_true, Bool.not_false, Bool.true_and, Bool.false_and, Bool.and_true, Bool.and_false, Bool.or_true, Bool.true_or, Bool.or_false, Bool.false_or, decide_true, decide_false, if_true, Bool.false_eq_true, if_false, Bwm, *, -g, -yy] <;> rfl); done)); simp -implicitDefEqProofs (disch := first | omega | (simp only [qd] <;> omega)) only [Aq3, Aqm, Nat.reduceAdd]))
 exact Hid.out g) : Hid p := ⟨h ⟨y⟩ ⟨g⟩⟩
end Go.X
namespace Go.Proofs.YtnfnaehonkbknaaGreatDoor
open Go Go.X Go.Proofs.Tryz
def Dyq := fun H => Aji (H := H) sizeOf4
def Dyr := fun H => Aq5 (H := H) underlying117 sizeOf3
def Dys := fun H => Aq5 (H := H) underlying125 sizeOf93
def Dyt := fun H => Aq5 (H := H) underlying89 sizeOf87
def Dyu := fun H => Aq5 (H := H) underlying91 sizeOf3
def Dyv := fun H => Aq9 (H := H) underlying22
def Dyw := fun H => Aq9 (H := H) underlying23
def Dyx := fun H => Aq9 (H := H) underlying24
def Dyy := fun H => Aq9 (H := H) underlying31
def Dyz := fun H => Aq9 (H := H) underlying81
def Dy0 := fun H => Aqd (H := H) underlying120 (i := 0) rfl (off := 0) rfl sizeOf3
def Dy1 := fun H => Aqd (H := H) underlying120 (i := 1) rfl (off := 1) rfl sizeOf91
def Dy2 := fun H => Aqd (H := H) underlying127 (i := 0) rfl (off := 0) rfl sizeOf3
def Dy3 := fun H => Aqd (H := H) underlying127 (i := 1) rfl (off := 1) rfl sizeOf125
def Dy4 := fun H => Aqd (H := H) underlying147 (i := 0) rfl (off := 0) rfl sizeOf26
def Dy5 := fun H => Aqd (H := H) underlying147 (i := 1) rfl (off := 4) rfl sizeOf145
def Dy6 := fun H => Aqd (H := H) underlying26 (i := 0) rfl (off := 0) rfl sizeOf3
def Dy7 := fun H => Aqd (H := H) underlying26 (i := 1) rfl (off := 1) rfl sizeOf23
def Dy8 := fun H => Aqd (H := H) underlying26 (i := 2) rfl (off := 2) rfl sizeOf22
def Dy9 := fun H => Aqd (H := H) underlying26 (i := 3) rfl (off := 3) rfl sizeOf24
def Eqa := fun H => Aqd (H := H) underlying34 (i := 0) rfl (off := 0) rfl sizeOf3
def Eqb := fun H => Aqd (H := H) underlying34 (i := 1) rfl (off := 1) rfl sizeOf3
def Eqc := fun H => Aqd (H := H) underlying41 (i := 0) rfl (off := 0) rfl sizeOf3
def Eqd := fun H => Aqd (H := H) underlying41 (i := 1) rfl (off := 1) rfl sizeOf3
def Eqe := fun H => Aqd (H := H) underlying46 (i := 0) rfl (off := 0) rfl sizeOf3
def Eqf := fun H => Aqd (H := H) underlying46 (i := 1) rfl (off := 1) rfl sizeOf3
def Eqg := fun H => Aqd (H := H) underlying46 (i := 2) rfl (off := 2) rfl sizeOf4
def Eqh := fun H => Aqd (H := H) underlying66 (i := 0) rfl (off := 0) rfl sizeOf3
def Eqi := fun H => Aqd (H := H) underlying66 (i := 1) rfl (off := 1) rfl sizeOf3
def Eqj := fun H => Aqd (H := H) underlying66 (i := 2) rfl (off := 2) rfl sizeOf34
def Eqk := fun H => Aqd (H := H) underlying87 (i := 0) rfl (off := 0) rfl sizeOf3
def Eql := fun H => Aqd (H := H) underlying87 (i := 1) rfl (off := 1) rfl sizeOf3
def Eqm := fun H => Aqd (H := H) underlying87 (i := 2) rfl (off := 2) rfl sizeOf4
def Eqn := fun H => Aqd (H := H) underlying93 (i := 0) rfl (off := 0) rfl sizeOf89
def Eqo := fun H => Aqd (H := H) underlying93 (i := 1) rfl (off := 18) rfl sizeOf91
def Eqp := fun H => Aqd (H := H) underlying93 (i := 2) rfl (off := 24) rfl sizeOf4
def Eqq := fun H => Aqh (H := H) underlying101 rfl
def Eqr := fun H => Aqh (H := H) underlying110 rfl
def Eqs := fun H => Aqh (H := H) underlying115 rfl
def Eqt := fun H => Aqh (H := H) underlying134 rfl
def Equ := fun H => Aqh (H := H) underlying145 rfl
def Eqv := fun H => Aqh (H := H) underlying22 rfl
def Eqw := fun H => Aqh (H := H) underlying23 rfl
def Eqx := fun H => Aqh (H := H) underlying24 rfl
def Eqy := fun H => Aqh (H := H) underlying3 rfl
def Eqz := fun H => Aqh (H := H) underlying4 rfl
def Eq0 := fun H => Aqh (H := H) underlying49 rfl
def Eq1 := fun H => Aqo (H := H) underlying117 rfl sizeOf117
def Eq2 := fun H => Aqo (H := H) underlying120 rfl sizeOf120
def Eq3 := fun H => Aqo (H := H) underlying127 rfl sizeOf127
def Eq4 := fun H => Aqo (H := H) underlying26 rfl sizeOf26
def Eq5 := fun H => Aqo (H := H) underlying34 rfl sizeOf34
def Eq6 := fun H => Aqo (H := H) underlying46 rfl sizeOf46
def Eq7 := fun H => Aqo (H := H) underlying66 rfl sizeOf66
def Eq8 := fun H => Aqo (H := H) underlying91 rfl sizeOf91
def Eq9 := fun H => Aqo (H := H) underlying93 rfl sizeOf93
def Exa := fun H => Aqr (H := H) sizeOf117
def Exb := fun H => Aqr (H := H) sizeOf127
def Exc := fun H => Aqr (H := H) sizeOf26
def Exd := fun H => Aqr (H := H) sizeOf34
def Exe := fun H => Aqr (H := H) sizeOf46
def Exf := fun H => Aqr (H := H) sizeOf66
def Exg := fun H => Aqr (H := H) sizeOf91
def Exh := fun H => Aqs (H := H) underlying22 sizeOf3
def Exi := fun H => Aqs (H := H) underlying23 sizeOf66
def Exj := fun H => Aqs (H := H) underlying24 sizeOf46
def Exk := fun H => Aqs (H := H) underlying31 sizeOf41
def Exl := fun H => Aqs (H := H) underlying81 sizeOf22
def Exm := fun H => Aqs (H := H) underlying83 sizeOf127
def Exn := fun H => Aqt (H := H) (P := Tryz.prog) (h := zeroValue115)
def Exo := fun H => Aqt (H := H) (P := Tryz.prog) (h := zeroValue117)
def Exp := fun H => Aqt (H := H) (P := Tryz.prog) (h := zeroValue127)
def Exq := fun H => Aqt (H := H) (P := Tryz.prog) (h := zeroValue134)
def Exr := fun H => Aqt (H := H) (P := Tryz.prog) (h := zeroValue143)
def Exs := fun H => Aqt (H := H) (P := Tryz.prog) (h := zeroValue26)
def Exu := fun H => Aqt (H := H) (P := Tryz.prog) (h := zeroValue3)
def Exv := fun H => Aqt (H := H) (P := Tryz.prog) (h := zeroValue34)
def Exw := fun H => Aqt (H := H) (P := Tryz.prog) (h := zeroValue46)
def Exx := fun H => Aqt (H := H) (P := Tryz.prog) (h := zeroValue66)
def Exy := fun H => Aqt (H := H) (P := Tryz.prog) (h := zeroValue87)
def Exz := fun H => Aqt (H := H) (P := Tryz.prog) (h := zeroValue91)
def Ex0 := fun H => Avv (H := H) underlying22 sizeOf3 zeroValue3 rfl typeInfo3 (by decide)
def Ex1 := fun H => Axb (H := H) sizeOf110
def Ex2 := fun H => Axb (H := H) sizeOf3
def Ex3 := fun H => Azo (H := H) sizeOf22
def Ex4 := fun H => Azo (H := H) sizeOf24
def Ex5 := fun H => Bjn (H := H) sizeOf115
def Ex6 := fun H => Bvo (H := H) underlying3 underlying78
end Go.Proofs.YtnfnaehonkbknaaGreatDoor
end
