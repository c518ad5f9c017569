/- Texts Blds Fns Hid Tin Data. -/
import Derived.Test.YtkenloilljeliaaGreatDoorJ09
import Derived.Test.YtkenloilljeliaaGreatDoorProg
import Derived.IntWalk
set_option linter.defProp false
set_option linter.unusedSimpArgs false
set_option linter.unusedVariables false
set_option maxRecDepth 100000
set_option maxHeartbeats 2000000
section
namespace Go.Proofs.YtkenloilljeliaaGreatDoor
open Go Go.X
theorem Azo (H : Hp) (kx1 : IntKind) (x1 : Int) (K : Value -> Hp -> Prop) (E : Value -> Hp -> Prop) : wpS Tryz.prog (Instr.buildSlice 22 1 #[(0, .int kx1 x1)]) H K E = ∀ b, H b = none -> K (.slice (some ⟨b, 0, none⟩) 1 1) (H.set b (.cells #[.int kx1 x1] 3 (0, 0))) := Avq (K := K) (E := E) Tryz.underlying22 Tryz.sizeOf3 Tryz.zeroValue3 rfl 1 [(0, .int kx1 x1)] (by decide) (by decide) (c := #[.int kx1 x1]) (by kernel_rfl)
theorem Bj2 (H : Hp) (kx1 : IntKind) (x1 : Int) (kx2 : IntKind) (x2 : Int) (K : Value -> Hp -> Prop) (E : Value -> Hp -> Prop) : wpS Tryz.prog (Instr.buildSlice 22 2 #[(0, .int kx1 x1), (1, .int kx2 x2)]) H K E = ∀ b, H b = none -> K (.slice (some ⟨b, 0, none⟩) 2 2) (H.set b (.cells #[.int kx1 x1, .int kx2 x2] 3 (0, 0))) := Avq (K := K) (E := E) Tryz.underlying22 Tryz.sizeOf3 Tryz.zeroValue3 rfl 2 [(0, .int kx1 x1), (1, .int kx2 x2)] (by decide) (by decide) (c := #[.int kx1 x1, .int kx2 x2]) (by kernel_rfl)
theorem Cjn (H : Hp) (kx1 : IntKind) (x1 : Int) (K : Value -> Hp -> Prop) (E : Value -> Hp -> Prop) : wpS Tryz.prog (Instr.build 26 #[(0, .int kx1 x1)]) H K E = K (.agg #[.int kx1 x1, .slice none 0 0, .slice none 0 0, .slice none 0 0]) H := Axb Tryz.underlying26 Tryz.zeroValue26 (ns := [1, 1, 1, 1]) ⟨Tryz.sizeOf3, Tryz.sizeOf23, Tryz.sizeOf22, Tryz.sizeOf24, trivial⟩ [(0, .int kx1 x1)] (out := [.int kx1 x1, .slice none 0 0, .slice none 0 0, .slice none 0 0]) (by kernel_rfl) K E
theorem Av7 (H : Hp) (kx1 : IntKind) (x1 : Int) (kx2 : IntKind) (x2 : Int) (kx3 : IntKind) (x3 : Int) (K : Value -> Hp -> Prop) (E : Value -> Hp -> Prop) : wpS Tryz.prog (Instr.buildSlice 22 3 #[(0, .int kx1 x1), (1, .int kx2 x2), (2, .int kx3 x3)]) H K E = ∀ b, H b = none -> K (.slice (some ⟨b, 0, none⟩) 3 3) (H.set b (.cells #[.int kx1 x1, .int kx2 x2, .int kx3 x3] 3 (0, 0))) := Avq (K := K) (E := E) Tryz.underlying22 Tryz.sizeOf3 Tryz.zeroValue3 rfl 3 [(0, .int kx1 x1), (1, .int kx2 x2), (2, .int kx3 x3)] (by decide) (by decide) (c := #[.int kx1 x1, .int kx2 x2, .int kx3 x3]) (by kernel_rfl)
theorem Bwu (H : Hp) (kx1 : IntKind) (x1 : Int) (kx2 : IntKind) (x2 : Int) (K : Value -> Hp -> Prop) (E : Value -> Hp -> Prop) : wpS Tryz.prog (Instr.build 53 #[(0, .int kx1 x1), (1, .int kx2 x2)]) H K E = K (.agg #[.int kx1 x1, .int kx2 x2, .bool false]) H := Axb Tryz.underlying53 Tryz.zeroValue53 (ns := [1, 1, 1]) ⟨Tryz.sizeOf3, Tryz.sizeOf3, Tryz.sizeOf4, trivial⟩ [(0, .int kx1 x1), (1, .int kx2 x2)] (out := [.int kx1 x1, .int kx2 x2, .bool false]) (by kernel_rfl) K E
theorem Bwv (H : Hp) (x1 : Option Addr) (nx1 cx1 : Nat) (kx2 : IntKind) (x2 : Int) (K : Value -> Hp -> Prop) (E : Value -> Hp -> Prop) : wpS Tryz.prog (Instr.build 85 #[(0, .slice x1 nx1 cx1), (2, .int kx2 x2)]) H K E = K (.agg #[.slice x1 nx1 cx1, .int .i64 0, .int kx2 x2]) H := Axb Tryz.underlying85 Tryz.zeroValue85 (ns := [1, 1, 1]) ⟨Tryz.sizeOf22, Tryz.sizeOf3, Tryz.sizeOf83, trivial⟩ [(0, .slice x1 nx1 cx1), (2, .int kx2 x2)] (out := [.slice x1 nx1 cx1, .int .i64 0, .int kx2 x2]) (by kernel_rfl) K E
theorem Bzo (H : Hp)  (K : Value -> Hp -> Prop) (E : Value -> Hp -> Prop) : wpS Tryz.prog (Instr.build 45 #[]) H K E = K (.agg #[.int .i64 0, .int .i64 0]) H := Axb Tryz.underlying45 Tryz.zeroValue45 (ns := [1, 1]) ⟨Tryz.sizeOf3, Tryz.sizeOf3, trivial⟩ [] (out := [.int .i64 0, .int .i64 0]) (by kernel_rfl) K E
theorem Ajo (H : Hp) (kx1 : IntKind) (x1 : Int) (kx2 : IntKind) (x2 : Int) (K : Value -> Hp -> Prop) (E : Value -> Hp -> Prop) : wpS Tryz.prog (Instr.build 45 #[(0, .int kx1 x1), (1, .int kx2 x2)]) H K E = K (.agg #[.int kx1 x1, .int kx2 x2]) H := Axb Tryz.underlying45 Tryz.zeroValue45 (ns := [1, 1]) ⟨Tryz.sizeOf3, Tryz.sizeOf3, trivial⟩ [(0, .int kx1 x1), (1, .int kx2 x2)] (out := [.int kx1 x1, .int kx2 x2]) (by kernel_rfl) K E
theorem Bjy (H : Hp) (kx1 : IntKind) (x1 : Int) (kx2 : IntKind) (x2 : Int) (x3 : Bool) (K : Value -> Hp -> Prop) (E : Value -> Hp -> Prop) : wpS Tryz.prog (Instr.build 53 #[(0, .int kx1 x1), (1, .int kx2 x2), (2, .bool x3)]) H K E = K (.agg #[.int kx1 x1, .int kx2 x2, .bool x3]) H := Axb Tryz.underlying53 Tryz.zeroValue53 (ns := [1, 1, 1]) ⟨Tryz.sizeOf3, Tryz.sizeOf3, Tryz.sizeOf4, trivial⟩ [(0, .int kx1 x1), (1, .int kx2 x2), (2, .bool x3)] (out := [.int kx1 x1, .int kx2 x2, .bool x3]) (by kernel_rfl) K E
theorem Bx1 (H : Hp) (kx1 : IntKind) (x1 : Int) (x2 : Option Addr) (nx2 cx2 : Nat) (x3 : Option Addr) (nx3 cx3 : Nat) (x4 : Option Addr) (nx4 cx4 : Nat) (K : Value -> Hp -> Prop) (E : Value -> Hp -> Prop) : wpS Tryz.prog (Instr.build 26 #[(0, .int kx1 x1), (1, .slice x2 nx2 cx2), (2, .slice x3 nx3 cx3), (3, .slice x4 nx4 cx4)]) H K E = K (.agg #[.int kx1 x1, .slice x2 nx2 cx2, .slice x3 nx3 cx3, .slice x4 nx4 cx4]) H := Axb Tryz.underlying26 Tryz.zeroValue26 (ns := [1, 1, 1, 1]) ⟨Tryz.sizeOf3, Tryz.sizeOf23, Tryz.sizeOf22, Tryz.sizeOf24, trivial⟩ [(0, .int kx1 x1), (1, .slice x2 nx2 cx2), (2, .slice x3 nx3 cx3), (3, .slice x4 nx4 cx4)] (out := [.int kx1 x1, .slice x2 nx2 cx2, .slice x3 nx3 cx3, .slice x4 nx4 cx4]) (by kernel_rfl) K E
theorem Ayl (H : Hp) (kx1 : IntKind) (x1 : Int) (kx2 : IntKind) (x2 : Int) (kx3 : IntKind) (x3 : Int) (kx4 : IntKind) (x4 : Int) (K : Value -> Hp -> Prop) (E : Value -> Hp -> Prop) : wpS Tryz.prog (Instr.build 60 #[(0, .int kx1 x1), (1, .int kx2 x2), (2, .agg #[.int kx3 x3, .int kx4 x4])]) H K E = K (.agg #[.int kx1 x1, .int kx2 x2, .int kx3 x3, .int kx4 x4]) H := Axb Tryz.underlying60 Tryz.zeroValue60 (ns := [1, 1, 2]) ⟨Tryz.sizeOf3, Tryz.sizeOf3, Tryz.sizeOf45, trivial⟩ [(0, .int kx1 x1), (1, .int kx2 x2), (2, .agg #[.int kx3 x3, .int kx4 x4])] (out := [.int kx1 x1, .int kx2 x2, .int kx3 x3, .int kx4 x4]) (by kernel_rfl) K E
theorem Akh (H : Hp) (kx1 : IntKind) (x1 : Int) (kx2 : IntKind) (x2 : Int) (kx3 : IntKind) (x3 : Int) (kx4 : IntKind) (x4 : Int) (kx5 : IntKind) (x5 : Int) (kx6 : IntKind) (x6 : Int) (kx7 : IntKind) (x7 : Int) (K : Value -> Hp -> Prop) (E : Value -> Hp -> Prop) : wpS Tryz.prog (Instr.build 126 #[(0, .int kx1 x1), (1, .agg #[.int kx2 x2, .int kx3 x3, .int kx4 x4, .int kx5 x5, .int kx6 x6, .int kx7 x7])]) H K E = K (.agg #[.int kx1 x1, .int kx2 x2, .int kx3 x3, .int kx4 x4, .int kx5 x5, .int kx6 x6, .int kx7 x7]) H := Axb Tryz.underlying126 Tryz.zeroValue126 (ns := [1, 6]) ⟨Tryz.sizeOf3, Tryz.sizeOf101, trivial⟩ [(0, .int kx1 x1), (1, .agg #[.int kx2 x2, .int kx3 x3, .int kx4 x4, .int kx5 x5, .int kx6 x6, .int kx7 x7])] (out := [.int kx1 x1, .int kx2 x2, .int kx3 x3, .int kx4 x4, .int kx5 x5, .int kx6 x6, .int kx7 x7]) (by kernel_rfl) K E
theorem Cqg (H : Hp) (x1 : Fn) (ax1 bx1 : Array Value) (K : Value -> Hp -> Prop) (E : Value -> Hp -> Prop) : wpS Tryz.prog (Instr.build 128 #[(0, .func x1 ax1 bx1)]) H K E = K (.agg #[.func x1 ax1 bx1]) H := Axb Tryz.underlying128 Tryz.zeroValue128 (ns := [1]) ⟨Tryz.sizeOf93, trivial⟩ [(0, .func x1 ax1 bx1)] (out := [.func x1 ax1 bx1]) (by kernel_rfl) K E
theorem Cqh (H : Hp)  (K : Value -> Hp -> Prop) (E : Value -> Hp -> Prop) : wpS Tryz.prog (Instr.build 128 #[(0, .nilFunc)]) H K E = K (.agg #[.nilFunc]) H := Axb Tryz.underlying128 Tryz.zeroValue128 (ns := [1]) ⟨Tryz.sizeOf93, trivial⟩ [(0, .nilFunc)] (out := [.nilFunc]) (by kernel_rfl) K E
theorem Bye (H : Hp) (x1 : Option Addr) (nx1 cx1 : Nat) (K : Value -> Hp -> Prop) (E : Value -> Hp -> Prop) : wpS Tryz.prog (Instr.buildSlice 34 1 #[(0, .slice x1 nx1 cx1)]) H K E = ∀ b, H b = none -> K (.slice (some ⟨b, 0, none⟩) 1 1) (H.set b (.cells #[.slice x1 nx1 cx1] 22 (0, 0))) := Avq (K := K) (E := E) Tryz.underlying34 Tryz.sizeOf22 Tryz.zeroValue22 rfl 1 [(0, .slice x1 nx1 cx1)] (by decide) (by decide) (c := #[.slice x1 nx1 cx1]) (by kernel_rfl)
theorem Bvd (H : Hp) (kx1 : IntKind) (x1 : Int) (kx2 : IntKind) (x2 : Int) (K : Value -> Hp -> Prop) (E : Value -> Hp -> Prop) : wpS Tryz.prog (Instr.build 148 #[(0, .int kx1 x1), (1, .int kx2 x2)]) H K E = K (.agg #[.int kx1 x1, .int kx2 x2]) H := Axb Tryz.underlying148 Tryz.zeroValue148 (ns := [1, 1]) ⟨Tryz.sizeOf31, Tryz.sizeOf3, trivial⟩ [(0, .int kx1 x1), (1, .int kx2 x2)] (out := [.int kx1 x1, .int kx2 x2]) (by kernel_rfl) K E
theorem Bve (H : Hp) (kx1 : IntKind) (x1 : Int) (x2 : Option Addr) (nx2 cx2 : Nat) (x3 : Option Addr) (nx3 cx3 : Nat) (x4 : Option Addr) (nx4 cx4 : Nat) (x5 : Option Nat) (K : Value -> Hp -> Prop) (E : Value -> Hp -> Prop) : wpS Tryz.prog (Instr.build 153 #[(0, .agg #[.int kx1 x1, .slice x2 nx2 cx2, .slice x3 nx3 cx3, .slice x4 nx4 cx4]), (1, .map x5)]) H K E = K (.agg #[.int kx1 x1, .slice x2 nx2 cx2, .slice x3 nx3 cx3, .slice x4 nx4 cx4, .map x5]) H := Axb Tryz.underlying153 Tryz.zeroValue153 (ns := [4, 1]) ⟨Tryz.sizeOf26, Tryz.sizeOf151, trivial⟩ [(0, .agg #[.int kx1 x1, .slice x2 nx2 cx2, .slice x3 nx3 cx3, .slice x4 nx4 cx4]), (1, .map x5)] (out := [.int kx1 x1, .slice x2 nx2 cx2, .slice x3 nx3 cx3, .slice x4 nx4 cx4, .map x5]) (by kernel_rfl) K E
theorem Bzn (H : Hp) (kx1 : IntKind) (x1 : Int) (K : Value -> Hp -> Prop) (E : Value -> Hp -> Prop) : wpS Tryz.prog (Instr.build 133 #[(0, .int kx1 x1)]) H K E = K (.agg #[.int kx1 x1, .int .i64 0, .int .i64 0, .bool false, .int .i64 0, .int .i64 0, .bool false, .int .i64 0, .int .i64 0, .bool false, .int .i64 0, .int .i64 0, .bool false, .int .i64 0, .int .i64 0, .bool false, .int .i64 0, .int .i64 0, .bool false, .int .i64 0, .int .i64 0, .int .i64 0, .int .i64 0, .int .i64 0, .int .i64 0, .bool false, .int .i64 0, .int .i64 0, .bool false, .int .i64 0, .int .i64 0, .bool false, .int .i64 0, .int .i64 0, .bool false, .int .i64 0, .int .i64 0, .bool false, .int .i64 0, .int .i64 0, .bool false, .int .i64 0, .int .i64 0, .bool false, .int .i64 0, .int .i64 0, .int .i64 0, .int .i64 0, .int .i64 0, .int .i64 0, .bool false, .int .i64 0, .int .i64 0, .bool false, .int .i64 0, .int .i64 0, .bool false, .int .i64 0, .int .i64 0, .bool false, .int .i64 0, .int .i64 0, .bool false, .int .i64 0, .int .i64 0, .bool false, .int .i64 0, .int .i64 0, .bool false, .int .i64 0, .int .i64 0, .int .i64 0, .int .i64 0, .int .i64 0, .int .i64 0, .bool false, .int .i64 0, .int .i64 0, .bool false, .int .i64 0, .int .i64 0, .bool false, .int .i64 0, .int .i64 0, .bool false, .int .i64 0, .int .i64 0, .bool false, .int .i64 0, .int .i64 0, .bool false, .int .i64 0, .int .i64 0, .bool false, .int .i64 0, .int .i64 0, .int .i64 0, .int .i64 0, .int .i64 0, .int .i64 0, .bool false, .int .i64 0, .int .i64 0, .bool false, .int .i64 0, .int .i64 0, .bool false, .int .i64 0, .int .i64 0, .bool false, .int .i64 0, .int .i64 0, .bool false, .int .i64 0, .int .i64 0, .bool false, .int .i64 0, .int .i64 0, .bool false, .int .i64 0, .int .i64 0, .int .i64 0, .int .i64 0, .int .i64 0, .int .i64 0, .bool false, .int .i64 0, .int .i64 0, .bool false, .int .i64 0, .int .i64 0, .bool false, .int .i64 0, .int .i64 0, .bool false, .int .i64 0, .int .i64 0, .bool false, .int .i64 0, .int .i64 0, .bool false, .int .i64 0, .int .i64 0, .bool false, .int .i64 0, .int .i64 0, .int .i64 0, .int .i64 0, .int .i64 0, .int .i64 0, .bool false, .int .i64 0, .int .i64 0, .bool false, .int .i64 0, .int .i64 0, .bool false, .int .i64 0, .int .i64 0, .bool false, .int .i64 0, .int .i64 0, .bool false, .int .i64 0, .int .i64 0, .bool false, .int .i64 0, .int .i64 0, .bool false, .int .i64 0, .int .i64 0, .int .i64 0, .int .i64 0, .int .i64 0, .int .i64 0, .bool false, .int .i64 0, .int .i64 0, .bool false, .int .i64 0, .int .i64 0, .bool false, .int .i64 0, .int .i64 0, .bool false, .int .i64 0, .int .i64 0, .bool false, .int .i64 0, .int .i64 0, .bool false, .int .i64 0, .int .i64 0, .bool false, .int .i64 0, .int .i64 0, .int .i64 0, .int .i64 0, .int .i64 0, .int .i64 0, .bool false, .int .i64 0, .int .i64 0, .bool false, .int .i64 0, .int .i64 0, .bool false, .int .i64 0, .int .i64 0, .bool false, .int .i64 0, .int .i64 0, .bool false, .int .i64 0, .int .i64 0, .bool false, .int .i64 0, .int .i64 0, .bool false, .int .i64 0, .int .i64 0, .int .i64 0, .int .i64 0, .int .i64 0, .int .i64 0, .bool false, .int .i64 0, .int .i64 0, .bool false, .int .i64 0, .int .i64 0, .bool false, .int .i64 0, .int .i64 0, .bool false, .int .i64 0, .int .i64 0, .bool false, .int .i64 0, .int .i64 0, .bool false, .int .i64 0, .int .i64 0, .bool false, .int .i64 0, .int .i64 0, .int .i64 0, .int .i64 0, .int .i64 0, .int .i64 0, .bool false, .int .i64 0, .int .i64 0, .bool false, .int .i64 0, .int .i64 0, .bool false, .int .i64 0, .int .i64 0, .bool false, .int .i64 0, .int .i64 0, .bool false, .int .i64 0, .int .i64 0, .bool false, .int .i64 0, .int .i64 0, .bool false, .int .i64 0, .int .i64 0, .int .i64 0, .int .i64 0, .int .i64 0, .int .i64 0, .bool false, .int .i64 0, .int .i64 0, .bool false, .int .i64 0, .int .i64 0, .bool false, .int .i64 0, .int .i64 0, .bool false, .int .i64 0, .int .i64 0, .bool false, .int .i64 0, .int .i64 0, .bool false, .int .i64 0, .int .i64 0, .bool false, .int .i64 0, .int .i64 0, .int .i64 0, .int .i64 0, .int .i64 0, .int .i64 0, .bool false, .int .i64 0, .int .i64 0, .bool false, .int .i64 0, .int .i64 0, .bool false, .int .i64 0, .int .i64 0, .bool false, .int .i64 0, .int .i64 0, .bool false, .int .i64 0, .int .i64 0, .bool false, .int .i64 0, .int .i64 0, .bool false, .int .i64 0, .int .i64 0, .int .i64 0, .int .i64 0, .int .i64 0, .int .i64 0, .bool false]) H := Axb Tryz.underlying133 Tryz.zeroValue133 (ns := [1, 325]) ⟨Tryz.sizeOf3, Tryz.sizeOf131, trivial⟩ [(0, .int kx1 x1)] (out := [.int kx1 x1, .int .i64 0, .int .i64 0, .bool false, .int .i64 0, .int .i64 0, .bool false, .int .i64 0, .int .i64 0, .bool false, .int .i64 0, .int .i64 0, .bool false, .int .i64 0, .int .i64 0, .bool false, .int .i64 0, .int .i64 0, .bool false, .int .i64 0, .int .i64 0, .int .i64 0, .int .i64 0, .int .i64 0, .int .i64 0, .bool false, .int .i64 0, .int .i64 0, .bool false, .int .i64 0, .int .i64 0, .bool false, .int .i64 0, .int .i64 0, .bool false, .int .i64 0, .int .i64 0, .bool false, .int .i64 0, .int .i64 0, .bool false, .int .i64 0, .int .i64 0, .bool false, .int .i64 0, .int .i64 0, .int .i64 0, .int .i64 0, .int .i64 0, .int .i64 0, .bool false, .int .i64 0, .int .i64 0, .bool false, .int .i64 0, .int .i64 0, .bool false, .int .i64 0, .int .i64 0, .bool false, .int .i64 0, .int .i64 0, .bool false, .int .i64 0, .int .i64 0, .bool false, .int .i64 0, .int .i64 0, .bool false, .int .i64 0, .int .i64 0, .int .i64 0, .int .i64 0, .int .i64 0, .int .i64 0, .bool false, .int .i64 0, .int .i64 0, .bool false, .int .i64 0, .int .i64 0, .bool false, .int .i64 0, .int .i64 0, .bool false, .int .i64 0, .int .i64 0, .bool false, .int .i64 0, .int .i64 0, .bool false, .int .i64 0, .int .i64 0, .bool false, .int .i64 0, .int .i64 0, .int .i64 0, .int .i64 0, .int .i64 0, .int .i64 0, .bool false, .int .i64 0, .int .i64 0, .bool false, .int .i64 0, .int .i64 0, .bool false, .int .i64 0, .int .i64 0, .bool false, .int .i64 0, .int .i64 0, .bool false, .int .i64 0, .int .i64 0, .bool false, .int .i64 0, .int .i64 0, .bool false, .int .i64 0, .int .i64 0, .int .i64 0, .int .i64 0, .int .i64 0, .int .i64 0, .bool false, .int .i64 0, .int .i64 0, .bool false, .int .i64 0, .int .i64 0, .bool false, .int .i64 0, .int .i64 0, .bool false, .int .i64 0, .int .i64 0, .bool false, .int .i64 0, .int .i64 0, .bool false, .int .i64 0, .int .i64 0, .bool false, .int .i64 0, .int .i64 0, .int .i64 0, .int .i64 0, .int .i64 0, .int .i64 0, .bool false, .int .i64 0, .int .i64 0, .bool false, .int .i64 0, .int .i64 0, .bool false, .int .i64 0, .int .i64 0, .bool false, .int .i64 0, .int .i64 0, .bool false, .int .i64 0, .int .i64 0, .bool false, .int .i64 0, .int .i64 0, .bool false, .int .i64 0, .int .i64 0, .int .i64 0, .int .i64 0, .int .i64 0, .int .i64 0, .bool false, .int .i64 0, .int .i64 0, .bool false, .int .i64 0, .int .i64 0, .bool false, .int .i64 0, .int .i64 0, .bool false, .int .i64 0, .int .i64 0, .bool false, .int .i64 0, .int .i64 0, .bool false, .int .i64 0, .int .i64 0, .bool false, .int .i64 0, .int .i64 0, .int .i64 0, .int .i64 0, .int .i64 0, .int .i64 0, .bool false, .int .i64 0, .int .i64 0, .bool false, .int .i64 0, .int .i64 0, .bool false, .int .i64 0, .int .i64 0, .bool false, .int .i64 0, .int .i64 0, .bool false, .int .i64 0, .int .i64 0, .bool false, .int .i64 0, .int .i64 0, .bool false, .int .i64 0, .int .i64 0, .int .i64 0, .int .i64 0, .int .i64 0, .int .i64 0, .bool false, .int .i64 0, .int .i64 0, .bool false, .int .i64 0, .int .i64 0, .bool false, .int .i64 0, .int .i64 0, .bool false, .int .i64 0, .int .i64 0, .bool false, .int .i64 0, .int .i64 0, .bool false, .int .i64 0, .int .i64 0, .bool false, .int .i64 0, .int .i64 0, .int .i64 0, .int .i64 0, .int .i64 0, .int .i64 0, .bool false, .int .i64 0, .int .i64 0, .bool false, .int .i64 0, .int .i64 0, .bool false, .int .i64 0, .int .i64 0, .bool false, .int .i64 0, .int .i64 0, .bool false, .int .i64 0, .int .i64 0, .bool false, .int .i64 0, .int .i64 0, .bool false, .int .i64 0, .int .i64 0, .int .i64 0, .int .i64 0, .int .i64 0, .int .i64 0, .bool false, .int .i64 0, .int .i64 0, .bool false, .int .i64 0, .int .i64 0, .bool false, .int .i64 0, .int .i64 0, .bool false, .int .i64 0, .int .i64 0, .bool false, .int .i64 0, .int .i64 0, .bool false, .int .i64 0, .int .i64 0, .bool false, .int .i64 0, .int .i64 0, .int .i64 0, .int .i64 0, .int .i64 0, .int .i64 0, .bool false, .int .i64 0, .int .i64 0, .bool false, .int .i64 0, .int .i64 0, .bool false, .int .i64 0, .int .i64 0, .bool false, .int .i64 0, .int .i64 0, .bool false, .int .i64 0, .int .i64 0, .bool false, .int .i64 0, .int .i64 0, .bool false, .int .i64 0, .int .i64 0, .int .i64 0, .int .i64 0, .int .i64 0, .int .i64 0, .bool false]) (by kernel_rfl) K E
theorem Cjm (H : Hp)  (K : Value -> Hp -> Prop) (E : Value -> Hp -> Prop) : wpS Tryz.prog (Instr.build 192 #[]) H K E = K (.agg #[]) H := Axb Tryz.underlying192 Tryz.zeroValue192 (ns := []) trivial [] (out := []) (by kernel_rfl) K E
theorem Cqi (H : Hp) (kx1 : IntKind) (x1 : Int) (K : Value -> Hp -> Prop) (E : Value -> Hp -> Prop) : wpS Tryz.prog (Instr.build 198 #[(0, .int kx1 x1)]) H K E = K (.agg #[.int kx1 x1]) H := Axb Tryz.underlying198 Tryz.zeroValue198 (ns := [1]) ⟨Tryz.sizeOf3, trivial⟩ [(0, .int kx1 x1)] (out := [.int kx1 x1]) (by kernel_rfl) K E
theorem Cqj (H : Hp) (kx1 : IntKind) (x1 : Int) (K : Value -> Hp -> Prop) (E : Value -> Hp -> Prop) : wpS Tryz.prog (Instr.build 200 #[(0, .int kx1 x1)]) H K E = K (.agg #[.int kx1 x1]) H := Axb Tryz.underlying200 Tryz.zeroValue200 (ns := [1]) ⟨Tryz.sizeOf3, trivial⟩ [(0, .int kx1 x1)] (out := [.int kx1 x1]) (by kernel_rfl) K E
end Go.Proofs.YtkenloilljeliaaGreatDoor
end
section
namespace Go.Proofs.YtkenloilljeliaaGreatDoor
open Go Go.X
variable {H : Hp} (args : Array Value) (K : Next -> Hp -> Prop) (E : Value -> Hp -> Prop)
theorem callF9 : wpS Tryz.prog (callFunc 9 args) H K E = K (.enter 9 args) H := Aqg Tryz.func9 (by kernel_rfl) (by kernel_rfl) args K E
theorem callF10 : wpS Tryz.prog (callFunc 10 args) H K E = K (.enter 10 args) H := Aqg Tryz.func10 (by kernel_rfl) (by kernel_rfl) args K E
theorem Djb : wpS Tryz.prog (callFunc 11 args) H K E = K (.enter 11 args) H := Aqg Tryz.func11 (by kernel_rfl) (by kernel_rfl) args K E
theorem Djc : wpS Tryz.prog (callFunc 13 args) H K E = K (.enter 13 args) H := Aqg Tryz.func13 (by kernel_rfl) (by kernel_rfl) args K E
theorem Djd : wpS Tryz.prog (callFunc 15 args) H K E = K (.enter 15 args) H := Aqg Tryz.func15 (by kernel_rfl) (by kernel_rfl) args K E
theorem callF16 : wpS Tryz.prog (callFunc 16 args) H K E = K (.enter 16 args) H := Aqg Tryz.func16 (by kernel_rfl) (by kernel_rfl) args K E
theorem Dje : wpS Tryz.prog (callFunc 18 args) H K E = K (.enter 18 args) H := Aqg Tryz.func18 (by kernel_rfl) (by kernel_rfl) args K E
theorem Djf : wpS Tryz.prog (callFunc 20 args) H K E = K (.enter 20 args) H := Aqg Tryz.func20 (by kernel_rfl) (by kernel_rfl) args K E
theorem Cvo : wpS Tryz.prog (callFunc 21 args) H K E = K (.enter 21 args) H := Aqg Tryz.func21 (by kernel_rfl) (by kernel_rfl) args K E
theorem Bq6 : wpS Tryz.prog (callFunc 22 args) H K E = K (.enter 22 args) H := Aqg Tryz.func22 (by kernel_rfl) (by kernel_rfl) args K E
theorem callF23 : wpS Tryz.prog (callFunc 23 args) H K E = K (.enter 23 args) H := Aqg Tryz.func23 (by kernel_rfl) (by kernel_rfl) args K E
theorem callF24 : wpS Tryz.prog (callFunc 24 args) H K E = K (.enter 24 args) H := Aqg Tryz.func24 (by kernel_rfl) (by kernel_rfl) args K E
theorem callF25 : wpS Tryz.prog (callFunc 25 args) H K E = K (.enter 25 args) H := Aqg Tryz.func25 (by kernel_rfl) (by kernel_rfl) args K E
theorem Djg : wpS Tryz.prog (callFunc 26 args) H K E = K (.enter 26 args) H := Aqg Tryz.func26 (by kernel_rfl) (by kernel_rfl) args K E
theorem Djh : wpS Tryz.prog (callFunc 28 args) H K E = K (.enter 28 args) H := Aqg Tryz.func28 (by kernel_rfl) (by kernel_rfl) args K E
theorem Dji : wpS Tryz.prog (callFunc 29 args) H K E = K (.enter 29 args) H := Aqg Tryz.func29 (by kernel_rfl) (by kernel_rfl) args K E
theorem Djj : wpS Tryz.prog (callFunc 31 args) H K E = K (.enter 31 args) H := Aqg Tryz.func31 (by kernel_rfl) (by kernel_rfl) args K E
theorem Cvp : wpS Tryz.prog (callFunc 33 args) H K E = K (.enter 33 args) H := Aqg Tryz.func33 (by kernel_rfl) (by kernel_rfl) args K E
theorem Djk : wpS Tryz.prog (callFunc 34 args) H K E = K (.enter 34 args) H := Aqg Tryz.func34 (by kernel_rfl) (by kernel_rfl) args K E
theorem Bvg : wpS Tryz.prog (callFunc 35 args) H K E = K (.enter 35 args) H := Aqg Tryz.func35 (by kernel_rfl) (by kernel_rfl) args K E
theorem Djl : wpS Tryz.prog (callFunc 36 args) H K E = K (.enter 36 args) H := Aqg Tryz.func36 (by kernel_rfl) (by kernel_rfl) args K E
theorem Djm : wpS Tryz.prog (callFunc 37 args) H K E = K (.enter 37 args) H := Aqg Tryz.func37 (by kernel_rfl) (by kernel_rfl) args K E
theorem Djn : wpS Tryz.prog (callFunc 38 args) H K E = K (.enter 38 args) H := Aqg Tryz.func38 (by kernel_rfl) (by kernel_rfl) args K E
theorem Cvq : wpS Tryz.prog (callFunc 42 args) H K E = K (.enter 42 args) H := Aqg Tryz.func42 (by kernel_rfl) (by kernel_rfl) args K E
theorem Djo : wpS Tryz.prog (callFunc 43 args) H K E = K (.enter 43 args) H := Aqg Tryz.func43 (by kernel_rfl) (by kernel_rfl) args K E
theorem Djp : wpS Tryz.prog (callFunc 44 args) H K E = K (.enter 44 args) H := Aqg Tryz.func44 (by kernel_rfl) (by kernel_rfl) args K E
theorem Djq : wpS Tryz.prog (callFunc 45 args) H K E = K (.enter 45 args) H := Aqg Tryz.func45 (by kernel_rfl) (by kernel_rfl) args K E
theorem Djr : wpS Tryz.prog (callFunc 46 args) H K E = K (.enter 46 args) H := Aqg Tryz.func46 (by kernel_rfl) (by kernel_rfl) args K E
theorem Djs : wpS Tryz.prog (callFunc 47 args) H K E = K (.enter 47 args) H := Aqg Tryz.func47 (by kernel_rfl) (by kernel_rfl) args K E
theorem Djt : wpS Tryz.prog (callFunc 48 args) H K E = K (.enter 48 args) H := Aqg Tryz.func48 (by kernel_rfl) (by kernel_rfl) args K E
theorem Dju : wpS Tryz.prog (callFunc 49 args) H K E = K (.enter 49 args) H := Aqg Tryz.func49 (by kernel_rfl) (by kernel_rfl) args K E
theorem Bq7 : wpS Tryz.prog (callFunc 51 args) H K E = K (.enter 51 args) H := Aqg Tryz.func51 (by kernel_rfl) (by kernel_rfl) args K E
theorem Bvh : wpS Tryz.prog (callFunc 52 args) H K E = K (.enter 52 args) H := Aqg Tryz.func52 (by kernel_rfl) (by kernel_rfl) args K E
theorem Djv : wpS Tryz.prog (callFunc 53 args) H K E = K (.enter 53 args) H := Aqg Tryz.func53 (by kernel_rfl) (by kernel_rfl) args K E
theorem Bq8 : wpS Tryz.prog (callFunc 56 args) H K E = K (.enter 56 args) H := Aqg Tryz.func56 (by kernel_rfl) (by kernel_rfl) args K E
theorem Djw : wpS Tryz.prog (callFunc 57 args) H K E = K (.enter 57 args) H := Aqg Tryz.func57 (by kernel_rfl) (by kernel_rfl) args K E
theorem Bvi : wpS Tryz.prog (callFunc 58 args) H K E = K (.enter 58 args) H := Aqg Tryz.func58 (by kernel_rfl) (by kernel_rfl) args K E
theorem Cvr : wpS Tryz.prog (callFunc 59 args) H K E = K (.enter 59 args) H := Aqg Tryz.func59 (by kernel_rfl) (by kernel_rfl) args K E
theorem Djx : wpS Tryz.prog (callFunc 60 args) H K E = K (.enter 60 args) H := Aqg Tryz.func60 (by kernel_rfl) (by kernel_rfl) args K E
theorem Djy : wpS Tryz.prog (callFunc 61 args) H K E = K (.enter 61 args) H := Aqg Tryz.func61 (by kernel_rfl) (by kernel_rfl) args K E
theorem Djz : wpS Tryz.prog (callFunc 62 args) H K E = K (.enter 62 args) H := Aqg Tryz.func62 (by kernel_rfl) (by kernel_rfl) args K E
theorem Dj0 : wpS Tryz.prog (callFunc 63 args) H K E = K (.enter 63 args) H := Aqg Tryz.func63 (by kernel_rfl) (by kernel_rfl) args K E
theorem Cvs : wpS Tryz.prog (callFunc 64 args) H K E = K (.enter 64 args) H := Aqg Tryz.func64 (by kernel_rfl) (by kernel_rfl) args K E
theorem Dj1 : wpS Tryz.prog (callFunc 65 args) H K E = K (.enter 65 args) H := Aqg Tryz.func65 (by kernel_rfl) (by kernel_rfl) args K E
theorem Cvt : wpS Tryz.prog (callFunc 66 args) H K E = K (.enter 66 args) H := Aqg Tryz.func66 (by kernel_rfl) (by kernel_rfl) args K E
theorem Ayr : wpS Tryz.prog (callFunc 67 args) H K E = K (.enter 67 args) H := Aqg Tryz.func67 (by kernel_rfl) (by kernel_rfl) args K E
theorem Cql : wpS Tryz.prog (callFunc 68 args) H K E = K (.enter 68 args) H := Aqg Tryz.func68 (by kernel_rfl) (by kernel_rfl) args K E
theorem Dj2 : wpS Tryz.prog (callFunc 69 args) H K E = K (.enter 69 args) H := Aqg Tryz.func69 (by kernel_rfl) (by kernel_rfl) args K E
theorem Dj3 : wpS Tryz.prog (callFunc 70 args) H K E = K (.enter 70 args) H := Aqg Tryz.func70 (by kernel_rfl) (by kernel_rfl) args K E
theorem Cvu : wpS Tryz.prog (callFunc 71 args) H K E = K (.enter 71 args) H := Aqg Tryz.func71 (by kernel_rfl) (by kernel_rfl) args K E
theorem Dj4 : wpS Tryz.prog (callFunc 72 args) H K E = K (.enter 72 args) H := Aqg Tryz.func72 (by kernel_rfl) (by kernel_rfl) args K E
theorem Dj5 : wpS Tryz.prog (callFunc 73 args) H K E = K (.enter 73 args) H := Aqg Tryz.func73 (by kernel_rfl) (by kernel_rfl) args K E
theorem Cqm : wpS Tryz.prog (callFunc 74 args) H K E = K (.enter 74 args) H := Aqg Tryz.func74 (by kernel_rfl) (by kernel_rfl) args K E
theorem Cqn : wpS Tryz.prog (callFunc 75 args) H K E = K (.enter 75 args) H := Aqg Tryz.func75 (by kernel_rfl) (by kernel_rfl) args K E
theorem Dj6 : wpS Tryz.prog (callFunc 76 args) H K E = K (.enter 76 args) H := Aqg Tryz.func76 (by kernel_rfl) (by kernel_rfl) args K E
theorem Dj7 : wpS Tryz.prog (callFunc 77 args) H K E = K (.enter 77 args) H := Aqg Tryz.func77 (by kernel_rfl) (by kernel_rfl) args K E
theorem Dj8 : wpS Tryz.prog (callFunc 79 args) H K E = K (.enter 79 args) H := Aqg Tryz.func79 (by kernel_rfl) (by kernel_rfl) args K E
theorem Dj9 : wpS Tryz.prog (callFunc 80 args) H K E = K (.enter 80 args) H := Aqg Tryz.func80 (by kernel_rfl) (by kernel_rfl) args K E
theorem Dka : wpS Tryz.prog (callFunc 81 args) H K E = K (.enter 81 args) H := Aqg Tryz.func81 (by kernel_rfl) (by kernel_rfl) args K E
theorem Dkb : wpS Tryz.prog (callFunc 83 args) H K E = K (.enter 83 args) H := Aqg Tryz.func83 (by kernel_rfl) (by kernel_rfl) args K E
theorem Dkc : wpS Tryz.prog (callFunc 85 args) H K E = K (.enter 85 args) H := Aqg Tryz.func85 (by kernel_rfl) (by kernel_rfl) args K E
theorem Dkd : wpS Tryz.prog (callFunc 86 args) H K E = K (.enter 86 args) H := Aqg Tryz.func86 (by kernel_rfl) (by kernel_rfl) args K E
theorem Czd : wpS Tryz.prog (callFunc 102 args) H K E = K (.enter 102 args) H := Aqg Tryz.func102 (by kernel_rfl) (by kernel_rfl) args K E
theorem Cze : wpS Tryz.prog (callFunc 103 args) H K E = K (.enter 103 args) H := Aqg Tryz.func103 (by kernel_rfl) (by kernel_rfl) args K E
theorem Dqk : wpS Tryz.prog (callFunc 117 args) H K E = K (.enter 117 args) H := Aqg Tryz.func117 (by kernel_rfl) (by kernel_rfl) args K E
theorem Czf : wpS Tryz.prog (callFunc 118 args) H K E = K (.enter 118 args) H := Aqg Tryz.func118 (by kernel_rfl) (by kernel_rfl) args K E
theorem Dql : wpS Tryz.prog (callFunc 119 args) H K E = K (.enter 119 args) H := Aqg Tryz.func119 (by kernel_rfl) (by kernel_rfl) args K E
theorem Dqm : wpS Tryz.prog (callFunc 120 args) H K E = K (.enter 120 args) H := Aqg Tryz.func120 (by kernel_rfl) (by kernel_rfl) args K E
theorem Dqn : wpS Tryz.prog (callFunc 147 args) H K E = K (.enter 147 args) H := Aqg Tryz.func147 (by kernel_rfl) (by kernel_rfl) args K E
theorem Dqo : wpS Tryz.prog (callFunc 148 args) H K E = K (.enter 148 args) H := Aqg Tryz.func148 (by kernel_rfl) (by kernel_rfl) args K E
def xq := And.intro @Nat.zero_add (And.intro @Nat.add_zero (And.intro @Bool.true_or (And.intro @true_and (And.intro @eval_const (And.intro @eval_func (And.intro @Aq9 (And.intro @Aq3 (And.intro @Aqn (And.intro @Axk (And.intro @Aqe (And.intro @Dxt (And.intro @Cwy (And.intro @Ckh (And.intro @Ckk (And.intro @Bke (And.intro @Dzw (And.intro @Dz9 (And.intro @Dz3 (And.intro @Dz6 (And.intro @Dz5 (And.intro @Dzx (And.intro @Dvk (And.intro @Dja (And.intro @Cjl (And.intro @Dz7 (And.intro @Dz8 (And.intro @Dzy (And.intro @Dz4 (And.intro @Dz2 (And.intro @Dz1 (And.intro @Dz0 (And.intro @Dzz (And.intro @Dkg (And.intro @Dwp (And.intro @Dwo (And.intro @w64 (And.intro @Ake (And.intro @act_get? (And.intro @Bool.false_eq_true (And.intro @Bool.true_eq_false (And.intro @Dx6 (And.intro @Awo (And.intro @Dwa (And.intro @Cxv (And.intro @Ck2 (And.intro @Akb (And.intro @Cxa (And.intro @Cjw (And.intro @Cjv (And.intro @Cv3 (And.intro @Aq8 (And.intro @Dqb (And.intro @Bvk (And.intro @Bv6 (And.intro @Axm (And.intro @Cyn (And.intro @Bz5 (And.intro @Bool.and_true (And.intro @Bool.and_self (And.intro @Dxp (And.intro @Cwt (And.intro @Ckb (And.intro @Cvw (And.intro @Cjq (And.intro @Cqq (And.intro @Bvl (And.intro @Cvx (And.intro @Cqp (And.intro @Bwy (And.intro @and_true (And.intro @Nat.le_refl (And.intro @Cwb (And.intro @Dqy @Azw)))))))))))))))))))))))))))))))))))))))))))))))))))))))))))))))))))))))))
def xp := And.intro @Dkk (And.intro @Cv6 (And.intro @Dkl (And.intro @Dvy (And.intro @Dkj (And.intro @Dxa (And.intro @Bw5 (And.intro @Dq3 (And.intro @Bw6 (And.intro @Dq4 (And.intro @Cj0 (And.intro @Dv0 (And.intro @Dvx (And.intro @Dw4 (And.intro @Cjy (And.intro @Bx3 (And.intro @Ays (And.intro @Dq9 (And.intro @Bw7 (And.intro @Dqz (And.intro @Bvq (And.intro @Cv8 (And.intro @Bw8 (And.intro @Bvs (And.intro @Cjx (And.intro @Dq0 (And.intro @Dq1 (And.intro @Cxw (And.intro @Cxx @Cj1))))))))))))))))))))))))))))
def qc := And.intro @List.size_toArray.{0} (And.intro @List.length_cons.{0} (And.intro @List.length_nil.{0} (And.intro @List.getElem?_toArray.{0} (And.intro @List.getElem?_cons_zero.{0} (And.intro @List.getElem?_cons_succ.{0} (And.intro @Option.isNone_none.{0} (And.intro @List.map_toArray.{0,0} (And.intro @List.map_cons.{0,0} (And.intro @List.map_nil.{0,0} (And.intro @Option.bind_some.{0,0} (And.intro @beq_iff_eq.{0} (And.intro @Option.some.injEq.{0} (And.intro @List.setIfInBounds_toArray.{0} (And.intro @List.set_cons_succ.{0} (And.intro @List.set_cons_zero.{0} (And.intro @List.extract_toArray.{0} (And.intro @List.extract_eq_take_drop.{0} (And.intro @List.take_succ_cons.{0} (And.intro @List.take_zero.{0} (And.intro @List.drop_succ_cons.{0} (And.intro @List.drop_zero.{0} (And.intro @List.take_nil.{0} (And.intro @List.drop_nil.{0} (And.intro @List.cons_append.{0} (And.intro @List.nil_append.{0} (And.intro @List.append_assoc.{0} (And.intro @List.append_nil.{0} (And.intro @List.all_cons.{0} (And.intro @List.all_nil.{0} (And.intro @List.toList_toArray.{0} (And.intro @Option.map_none.{0,0} @Option.map_some.{0,0})))))))))))))))))))))))))))))))
def qd := And.intro @List.length_cons.{0} @List.length_nil.{0}
end Go.Proofs.YtkenloilljeliaaGreatDoor
end
section
namespace Go.X
structure Hid (q : Prop) : Prop where
 out : q
theorem unH {q : Prop} (h : Hid q) : q := h.out
structure Dvb (p : Prop) : Prop where
 out : p
structure Dva (p : Prop) : Prop where
 out : p
theorem inK {p : Prop} (h : p) : Dvb p := ⟨h⟩
theorem unK {p : Prop} (h : Dvb p) : p := h.out
theorem inC {p : Prop} (h : p) : Dva p := ⟨h⟩
theorem unC {p : Prop} (h : Dva p) : p := h.out
def Aqk (p : Prop) : Prop := p
theorem zA {Y p q : Prop} (y : Y) (g : q) (h : Hid Y -> Hid q -> p := by
 intro yy g
 repeat' (first
 | (refine Ax5 rfl ?_; intro Kz hKz; simp -implicitDefEqProofs (disch := first | omega | (simp only [qd] <;> omega)) only [xq, ↓xp, qc, Nat.reduceAdd, List.range, List.range.loop, fine, Nat.reduceEqDiff, ↓reduceIte, yielded, reduceCtorEq, Nat.reduceLT, Nat.reduceMul, Nat.reduceSub, one, Nat.reduceLeDiff, Aqi, yy.out, aq, ↓ap, qe0, qe1, qe2, *, -g, -yy, -hKz]; try (refine hKz _ _ ?_; clear hKz Kz))
 | (refine Aji rfl ?_; intro Kz hKz; simp -implicitDefEqProofs (disch := first | omega | (simp only [qd] <;> omega)) only [xq, ↓xp, qc, Nat.reduceAdd, List.range, List.range.loop, fine, Nat.reduceEqDiff, ↓reduceIte, yielded, reduceCtorEq, Nat.reduceLT, Nat.reduceMul, Nat.reduceSub, one, Nat.reduceLeDiff, Aqi, yy.out, aq, ↓ap, qe0, qe1, qe2, *, -g, -yy, -hKz]; try (refine hKz _ _ ?_; clear hKz Kz; (try simp only [nq, ↓reduceIte, Nat.reduceEqDiff])))
 | (refine Az1 ?_; (try simp only [nq, ↓reduceIte, Nat.reduceEqDiff]))
 | (refine Az7 ?_; (try simp only [nq, ↓reduceIte, Nat.reduceEqDiff]))
 | (refine Ajw ?_; (try simp only [nq, ↓reduceIte, Nat.reduceEqDiff]))
 | (refine Aj8 ?_; (try simp only [nq, ↓reduceIte, Nat.reduceEqDiff]))
 | (refine Ajh (by simp only [Aq9, Axk, Nat.reduceEqDiff, Nat.reduceLT, ↓reduceIte, *, -g, -yy]; rfl) ?_ ?_ <;> (intro hcz; first | (exfalso; simp -implicitDefEqProofs (disch := omega) only [*, -g, -yy, bq, reduceCtorEq] at hcz; done) | (simp only [dq, qe3, qe4, qe5, qe6] at hcz) | skip))
 | (refine Aja ?_)
 | (refine Azb ?_)
 | (refine Axq ?_))
 (try (revert Kz; refine unK ?_)); (repeat (revert hcz; refine unC ?_))
 exact Hid.out g) : Hid p := ⟨h ⟨y⟩ ⟨g⟩⟩
theorem zS {Y p q : Prop} (y : Y) (g : q) (h : Hid Y -> Hid q -> p := by
 intro yy g
 repeat' (first
 | (refine Ax5 rfl ?_; intro Kz hKz; simp -implicitDefEqProofs (disch := first | omega | (simp only [qd] <;> omega)) only [xq, ↓xp, qc, Nat.reduceAdd, List.range, List.range.loop, fine, Nat.reduceEqDiff, ↓reduceIte, yielded, reduceCtorEq, Nat.reduceLT, Nat.reduceMul, Nat.reduceSub, one, Nat.reduceLeDiff, Aqi, yy.out, aq, ↓ap, qe0, qe1, qe2, *, -g, -yy, -hKz]; try (refine hKz _ _ ?_; clear hKz Kz))
 | (refine Aji rfl ?_; intro Kz hKz; simp -implicitDefEqProofs (disch := first | omega | (simp only [qd] <;> omega)) only [xq, ↓xp, qc, Nat.reduceAdd, List.range, List.range.loop, fine, Nat.reduceEqDiff, ↓reduceIte, yielded, reduceCtorEq, Nat.reduceLT, Nat.reduceMul, Nat.reduceSub, one, Nat.reduceLeDiff, Aqi, yy.out, aq, ↓ap, qe0, qe1, qe2, *, -g, -yy, -hKz]; try (refine hKz _ _ ?_; clear hKz Kz; (try simp only [nq, ↓reduceIte, Nat.reduceEqDiff])))
 | (refine Az1 ?_; (try simp only [nq, ↓reduceIte, Nat.reduceEqDiff]))
 | (refine Az7 ?_; (try simp only [nq, ↓reduceIte, Nat.reduceEqDiff]))
 | (refine Ajw ?_; (try simp only [nq, ↓reduceIte, Nat.reduceEqDiff]))
 | (refine Aj8 ?_; (try simp only [nq, ↓reduceIte, Nat.reduceEqDiff]))
 | (refine Ajh (by simp only [Aq9, Axk, Nat.reduceEqDiff, Nat.reduceLT, ↓reduceIte, *, -g, -yy]; rfl) ?_ ?_ <;> (intro hcz; first | (exfalso; simp -implicitDefEqProofs (disch := omega) only [*, -g, -yy, bq, reduceCtorEq] at hcz; done) | (simp only [dq, qe3, qe4, qe5, qe6] at hcz) | skip)))
 (try (revert Kz; refine unK ?_)); (repeat (revert hcz; refine unC ?_))
 exact Hid.out g) : Hid p := ⟨h ⟨y⟩ ⟨g⟩⟩
theorem zX {Y p q : Prop} (y : Y) (g : q) (h : Hid Y -> Hid q -> p := by
 intro yy g
 simp -implicitDefEqProofs (disch := first | omega | (simp only [qd] <;> omega)) only [xq, ↓xp, qc, Nat.reduceAdd, List.range, List.range.loop, fine, Nat.reduceEqDiff, ↓reduceIte, yielded, reduceCtorEq, Nat.reduceLT, Nat.reduceMul, Nat.reduceSub, one, Nat.reduceLeDiff, Aqi, yy.out, aq, ↓ap, qe0, qe1, qe2, *, -g, -yy, -hK]
 exact Hid.out g) : Hid p := ⟨h ⟨y⟩ ⟨g⟩⟩
theorem zAi {Y p q : Prop} (y : Y) (g : q) (h : Hid Y -> Hid q -> p := by
 intro yy g
 repeat' (first
 | (refine Ax5 rfl ?_; intro Kz hKz; simp -implicitDefEqProofs (disch := first | omega | (simp only [qd] <;> omega)) only [xq, ↓xp, qc, Nat.reduceAdd, List.range, List.range.loop, fine, Nat.reduceEqDiff, ↓reduceIte, yielded, reduceCtorEq, Nat.reduceLT, Nat.reduceMul, Nat.reduceSub, one, Nat.reduceLeDiff, Aqi, yy.out, ↓Bqn, aq, ↓ap, qe0, qe1, qe2, *, -g, -yy, -hKz]; try (refine hKz _ _ ?_; clear hKz Kz))
 | (refine Aji rfl ?_; intro Kz hKz; simp -implicitDefEqProofs (disch := first | omega | (simp only [qd] <;> omega)) only [xq, ↓xp, qc, Nat.reduceAdd, List.range, List.range.loop, fine, Nat.reduceEqDiff, ↓reduceIte, yielded, reduceCtorEq, Nat.reduceLT, Nat.reduceMul, Nat.reduceSub, one, Nat.reduceLeDiff, Aqi, yy.out, ↓Bqn, aq, ↓ap, qe0, qe1, qe2, *, -g, -yy, -hKz]; try (refine hKz _ _ ?_; clear hKz Kz; (try simp only [nq, ↓reduceIte, Nat.reduceEqDiff])))
 | (refine Az1 ?_; (try simp only [nq, ↓reduceIte, Nat.reduceEqDiff]))
 | (refine Az7 ?_; (try simp only [nq, ↓reduceIte, Nat.reduceEqDiff]))
 | (refine Ajw ?_; (try simp only [nq, ↓reduceIte, Nat.reduceEqDiff]))
 | (refine Aj8 ?_; (try simp only [nq, ↓reduceIte, Nat.reduceEqDiff]))
 | (refine Ajh (by simp only [Aq9, Axk, Nat.reduceEqDiff, Nat.reduceLT, ↓reduceIte, *, -g, -yy]; rfl) ?_ ?_ <;> (intro hcz; first | (exfalso; simp -implicitDefEqProofs (disch := omega) only [*, -g, -yy, bq, reduceCtorEq] at hcz; done) | (simp only [dq, qe3, qe4, qe5, qe6] at hcz) | skip))
 | (refine Aja ?_)
 | (refine Azb ?_)
 | (refine Axq ?_))
 (try (revert Kz; refine unK ?_)); (repeat (revert hcz; refine unC ?_))
 exact Hid.out g) : Hid p := ⟨h ⟨y⟩ ⟨g⟩⟩
theorem zXi {Y p q : Prop} (y : Y) (g : q) (h : Hid Y -> Hid q -> p := by
 intro yy g
 simp -implicitDefEqProofs (disch := first | omega | (simp only [qd] <;> omega)) only [xq, ↓xp, qc, Nat.reduceAdd, List.range, List.range.loop, fine, Nat.reduceEqDiff, ↓reduceIte, yielded, reduceCtorEq, Nat.reduceLT, Nat.reduceMul, Nat.reduceSub, one, Nat.reduceLeDiff, Aqi, yy.out, ↓Bqn, aq, ↓ap, qe0, qe1, qe2, *, -g, -yy, -hK]
 exact Hid.out g) : Hid p := ⟨h ⟨y⟩ ⟨g⟩⟩
theorem zQ {p q : Prop} (g : q) (h : Hid q -> p := by
 intro g
 simp only [nq, ↓reduceIte, Nat.reduceEqDiff]
 exact Hid.out g) : Hid p := ⟨h ⟨g⟩⟩
theorem z0 {Y p q : Prop} (y : Y) (g : q) (h : Hid Y -> Hid q -> p := by
 intro yy g
 simp -implicitDefEqProofs (disch := first | omega | (simp only [qd] <;> omega)) only [xq, ↓xp, qc, Nat.reduceAdd, List.range, List.range.loop, fine, Nat.reduceEqDiff, ↓reduceIte, yielded, reduceCtorEq, Nat.reduceLT, Nat.reduceMul, Nat.reduceSub, one, Nat.reduceLeDiff, Aqi, yy.out]
 exact Hid.out g) : Hid p := ⟨h ⟨y⟩ ⟨g⟩⟩
theorem z1 {Y p q : Prop} (y : Y) (g : q) (h : Hid Y -> Hid q -> p := by
 intro yy g
 (refine Ayf ?_; intro K hK; simp -implicitDefEqProofs (disch := first | omega | (simp only [qd] <;> omega)) only [xq, ↓xp, qc, Nat.reduceAdd, List.range, List.range.loop, fine, Nat.reduceEqDiff, ↓reduceIte, yielded, reduceCtorEq, Nat.reduceLT, Nat.reduceMul, Nat.reduceSub, one, Nat.reduceLeDiff, Aqi, yy.out]; refine hK _ _ ?_; clear hK K)
 exact Hid.out g) : Hid p := ⟨h ⟨y⟩ ⟨g⟩⟩
theorem z2 {Y p q : Prop} (y : Y) (g : q) (h : Hid Y -> Hid q -> p := by
 intro yy g
 (refine Bq1 ?_; intro K hK; simp -implicitDefEqProofs (disch := first | omega | (simp only [qd] <;> omega)) only [xq, ↓xp, qc, Nat.reduceAdd, List.range, List.range.loop, fine, Nat.reduceEqDiff, ↓reduceIte, yielded, reduceCtorEq, Nat.reduceLT, Nat.reduceMul, Nat.reduceSub, one, Nat.reduceLeDiff, Aqi, yy.out]; refine hK _ _ ?_; clear hK K)
 exact Hid.out g) : Hid p := ⟨h ⟨y⟩ ⟨g⟩⟩
theorem z3 {Y p q : Prop} (y : Y) (g : q) (h : Hid Y -> Hid q -> p := by
 intro yy g
 (apply Akt rfl rfl rfl; (focus (simp -implicitDefEqProofs (disch := first | omega | (simp only [qd] <;> omega)) only [xq, ↓xp, qc, Nat.reduceAdd, List.range, List.range.loop, fine, Nat.reduceEqDiff, ↓reduceIte, yielded, reduceCtorEq, Nat.reduceLT, Nat.reduceMul, Nat.reduceSub, one, Nat.reduceLeDiff, Aqi, yy.out, aq, ↓ap, qe0, qe1, qe2, *, -g, -yy, -hK, Aq8] <;> (first | exact rfl | exact ⟨rfl, rfl⟩ | exact ⟨rfl, trivial⟩))); simp -implicitDefEqProofs (disch := first | omega | (simp only [qd] <;> omega)) only [Aq3, Aqn])
 exact Hid.out g) : Hid p := ⟨h ⟨y⟩ ⟨g⟩⟩
theorem z3i {Y p q : Prop} (y : Y) (g : q) (h : Hid Y -> Hid q -> p := by
 intro yy g
 (apply Akt rfl rfl rfl; (focus (simp -implicitDefEqProofs (disch := first | omega | (simp only [qd] <;> omega)) only [xq, ↓xp, qc, Nat.reduceAdd, List.range, List.range.loop, fine, Nat.reduceEqDiff, ↓reduceIte, yielded, reduceCtorEq, Nat.reduceLT, Nat.reduceMul, Nat.reduceSub, one, Nat.reduceLeDiff, Aqi, yy.out, ↓Bqn, aq, ↓ap, qe0, qe1, qe2, *, -g, -yy, -hK, Aq8] <;> (first | exact rfl | exact ⟨rfl, rfl⟩ | exact ⟨rfl, trivial⟩))); simp -implicitDefEqProofs (disch := first | omega | (simp only [qd] <;> omega)) only [Aq3, Aqn])
 exact Hid.out g) : Hid p := ⟨h ⟨y⟩ ⟨g⟩⟩
theorem z7 {Y p q : Prop} (y : Y) (g : q) (h : Hid Y -> Hid q -> p := by
 intro yy g
 simp -implicitDefEqProofs (disch := first | omega | (simp only [qd] <;> omega)) only [xq, ↓xp, qc, Nat.reduceAdd, List.range, List.range.loop, fine, Nat.reduceEqDiff, ↓reduceIte, yielded, reduceCtorEq, Nat.reduceLT, Nat.reduceMul, Nat.reduceSub, one, Nat.reduceLeDiff, Aqi, yy.out, aq, ↓ap, qe0, qe1, qe2, *, -g, -yy]
 exact Hid.out g) : Hid p := ⟨h ⟨y⟩ ⟨g⟩⟩
theorem z8 {Y p q : Prop} (y : Y) (g : q) (h : Hid Y -> Hid q -> p := by
 intro yy g
 (refine Ayf ?_; intro Kz hKz; simp -implicitDefEqProofs (disch := first | omega | (simp only [qd] <;> omega)) only [xq, ↓xp, qc, Nat.reduceAdd, List.range, List.range.loop, fine, Nat.reduceEqDiff, ↓reduceIte, yielded, reduceCtorEq, Nat.reduceLT, Nat.reduceMul, Nat.reduceSub, one, Nat.reduceLeDiff, Aqi, yy.out])
 (try (revert Kz; refine unK ?_)); (repeat (revert hcz; refine unC ?_))
 exact Hid.out g) : Hid p := ⟨h ⟨y⟩ ⟨g⟩⟩
theorem z9 {Y p q : Prop} (y : Y) (g : q) (h : Hid Y -> Hid q -> p := by
 intro yy g
 (refine Axt ?_; (try simp only [nq, ↓reduceIte, Nat.reduceEqDiff]); rw [Aq7, Ay3 yy.out (by decide)]; simp only [Axk, Nat.reduceEqDiff, ↓reduceIte])
 exact Hid.out g) : Hid p := ⟨h ⟨y⟩ ⟨g⟩⟩
theorem zB {Y p q : Prop} (y : Y) (g : q) (h : Hid Y -> Hid q -> p := by
 intro yy g
 (refine Axt ?_; (try simp only [nq, ↓reduceIte, Nat.reduceEqDiff]); rw [Aq7, Cxe yy.out (by decide) (by decide)]; simp only [Axk, Nat.reduceEqDiff, ↓reduceIte])
 exact Hid.out g) : Hid p := ⟨h ⟨y⟩ ⟨g⟩⟩
theorem zC {Y p q : Prop} (y : Y) (g : q) (h : Hid Y -> Hid q -> p := by
 intro yy g
 (refine Axt ?_; (try simp only [nq, ↓reduceIte, Nat.reduceEqDiff]); rw [Aq7, Bv1 yy.out (by decide) (by decide) (by decide)]; simp only [Axk, Nat.reduceEqDiff, ↓reduceIte])
 exact Hid.out g) : Hid p := ⟨h ⟨y⟩ ⟨g⟩⟩
theorem zD {Y p q : Prop} (y : Y) (g : q) (h : Hid Y -> Hid q -> p := by
 intro yy g
 ((try simp only [nq, ↓reduceIte, Nat.reduceEqDiff]); rw [Bwx, Aws yy.out])
 exact Hid.out g) : Hid p := ⟨h ⟨y⟩ ⟨g⟩⟩
theorem zI {Y p q : Prop} (y : Y) (g : q) (h : Hid Y -> Hid q -> p := by
 intro yy g
 (apply Bxf rfl rfl rfl; (focus (intro HX; simp -implicitDefEqProofs (disch := first | omega | (simp only [qd] <;> omega)) only [xq, ↓xp, qc, Nat.reduceAdd, List.range, List.range.loop, fine, Nat.reduceEqDiff, ↓reduceIte, yielded, reduceCtorEq, Nat.reduceLT, Nat.reduceMul, Nat.reduceSub, one, Nat.reduceLeDiff, Aqi, yy.out, aq, ↓ap, qe0, qe1, qe2, *, -g, -yy, -hK, Aq8] <;> (first | exact rfl | exact ⟨rfl, rfl⟩ | exact ⟨rfl, trivial⟩))); simp -implicitDefEqProofs (disch := first | omega | (simp only [qd] <;> omega)) only [Aq3, Aqn])
 exact Hid.out g) : Hid p := ⟨h ⟨y⟩ ⟨g⟩⟩
theorem zJ {Y p q : Prop} (y : Y) (g : q) (h : Hid Y -> Hid q -> p := by
 intro yy g
 (apply Axf rfl rfl rfl ‹_›; (focus (intro HX hHX; simp -implicitDefEqProofs (disch := first | omega | (simp only [qd] <;> omega)) only [xq, ↓xp, qc, Nat.reduceAdd, List.range, List.range.loop, fine, Nat.reduceEqDiff, ↓reduceIte, yielded, reduceCtorEq, Nat.reduceLT, Nat.reduceMul, Nat.reduceSub, one, Nat.reduceLeDiff, Aqi, yy.out, aq, ↓ap, qe0, qe1, qe2, *, -g, -yy, -hK, Aq8] <;> (first | exact rfl | exact ⟨rfl, rfl⟩ | exact ⟨rfl, trivial⟩))); simp -implicitDefEqProofs (disch := first | omega | (simp only [qd] <;> omega)) only [Aq3, Aqn])
 exact Hid.out g) : Hid p := ⟨h ⟨y⟩ ⟨g⟩⟩
theorem zF {Y p q : Prop} (y : Y) (g : q) (h : Hid Y -> Hid q -> p := by
 intro yy g
 (apply Ckn hOz rfl rfl; (focus (intro HX; simp -implicitDefEqProofs (disch := first | omega | (simp only [qd] <;> omega)) only [xq, ↓xp, qc, Nat.reduceAdd, List.range, List.range.loop, fine, Nat.reduceEqDiff, ↓reduceIte, yielded, reduceCtorEq, Nat.reduceLT, Nat.reduceMul, Nat.reduceSub, one, Nat.reduceLeDiff, Aqi, yy.out, aq, ↓ap, qe0, qe1, qe2, *, -g, -yy, -hK, Aq8] <;> (first | exact rfl | exact ⟨rfl, rfl⟩ | exact ⟨rfl, trivial⟩))); simp -implicitDefEqProofs (disch := first | omega | (simp only [qd] <;> omega)) only [Aq3, Aqn])
 exact Hid.out g) : Hid p := ⟨h ⟨y⟩ ⟨g⟩⟩
theorem zG {Y p q : Prop} (y : Y) (g : q) (h : Hid Y -> Hid q -> p := by
 intro yy g
 (apply Cxc hOz rfl rfl rfl rfl (by simp -implicitDefEqProofs (disch := omega) only [act_get?, Axk, Nat.reduceEqDiff, ↓reduceIte, beq_self_eq_true, Bool.and_self, *, -g, -yy]); (focus (intro HX; simp -implicitDefEqProofs (disch := first | omega | (simp only [qd] <;> omega)) only [xq, ↓xp, qc, Nat.reduceAdd, List.range, List.range.loop, fine, Nat.reduceEqDiff, ↓reduceIte, yielded, reduceCtorEq, Nat.reduceLT, Nat.reduceMul, Nat.reduceSub, one, Nat.reduceLeDiff, Aqi, yy.out, aq, ↓ap, qe0, qe1, qe2, *, -g, -yy, -hK, Aq8] <;> (first | exact rfl | exact ⟨rfl, rfl⟩ | exact ⟨rfl, trivial⟩))); simp -implicitDefEqProofs (disch := first | omega | (simp only [qd] <;> omega)) only [Aq3, Aqn])
 exact Hid.out g) : Hid p := ⟨h ⟨y⟩ ⟨g⟩⟩
theorem zK {Y p q : Prop} (y : Y) (g : q) (h : Hid Y -> Hid q -> p := by
 intro yy g
 (apply Bks hOz rfl rfl ‹_›; (focus (intro HX hHX; simp -implicitDefEqProofs (disch := first | omega | (simp only [qd] <;> omega)) only [xq, ↓xp, qc, Nat.reduceAdd, List.range, List.range.loop, fine, Nat.reduceEqDiff, ↓reduceIte, yielded, reduceCtorEq, Nat.reduceLT, Nat.reduceMul, Nat.reduceSub, one, Nat.reduceLeDiff, Aqi, yy.out, aq, ↓ap, qe0, qe1, qe2, *, -g, -yy, -hK, Aq8] <;> (first | exact rfl | exact ⟨rfl, rfl⟩ | exact ⟨rfl, trivial⟩))); simp -implicitDefEqProofs (disch := first | omega | (simp only [qd] <;> omega)) only [Aq3, Aqn])
 exact Hid.out g) : Hid p := ⟨h ⟨y⟩ ⟨g⟩⟩
theorem zL {Y p q : Prop} (y : Y) (g : q) (h : Hid Y -> Hid q -> p := by
 intro yy g
 (apply Bks hOz rfl rfl (by rfl); (focus (intro HX hHX; subst hHX; simp -implicitDefEqProofs (disch := first | omega | (simp only [qd] <;> omega)) only [xq, ↓xp, qc, Nat.reduceAdd, List.range, List.range.loop, fine, Nat.reduceEqDiff, ↓reduceIte, yielded, reduceCtorEq, Nat.reduceLT, Nat.reduceMul, Nat.reduceSub, one, Nat.reduceLeDiff, Aqi, yy.out, aq, ↓ap, qe0, qe1, qe2, *, -g, -yy, -hK, Aq8] <;> (first | exact rfl | exact ⟨rfl, rfl⟩ | exact ⟨rfl, trivial⟩))); simp -implicitDefEqProofs (disch := first | omega | (simp only [qd] <;> omega)) only [Aq3, Aqn])
 exact Hid.out g) : Hid p := ⟨h ⟨y⟩ ⟨g⟩⟩
theorem zM {Y p q : Prop} (y : Y) (g : q) (h : Hid Y -> Hid q -> p := by
 intro yy g
 (refine Bqy hOz rfl rfl ?_; simp -implicitDefEqProofs (disch := first | omega | (simp only [qd] <;> omega)) only [xq, ↓xp, qc, Nat.reduceAdd, List.range, List.range.loop, fine, Nat.reduceEqDiff, ↓reduceIte, yielded, reduceCtorEq, Nat.reduceLT, Nat.reduceMul, Nat.reduceSub, one, Nat.reduceLeDiff, Aqi, yy.out, aq, ↓ap, qe0, qe1, qe2, *, -g, -yy, -hK])
 exact Hid.out g) : Hid p := ⟨h ⟨y⟩ ⟨g⟩⟩
theorem zN {Y p q : Prop} (y : Y) (g : q) (h : Hid Y -> Hid q -> p := by
 intro yy g
 (refine Cko hOz rfl rfl rfl rfl (by simp -implicitDefEqProofs (disch := omega) only [act_get?, Axk, Nat.reduceEqDiff, ↓reduceIte, beq_self_eq_true, Bool.and_self, *, -g, -yy]) ?_; simp -implicitDefEqProofs (disch := first | omega | (simp only [qd] <;> omega)) only [xq, ↓xp, qc, Nat.reduceAdd, List.range, List.range.loop, fine, Nat.reduceEqDiff, ↓reduceIte, yielded, reduceCtorEq, Nat.reduceLT, Nat.reduceMul, Nat.reduceSub, one, Nat.reduceLeDiff, Aqi, yy.out, aq, ↓ap, qe0, qe1, qe2, *, -g, -yy, -hK])
 exact Hid.out g) : Hid p := ⟨h ⟨y⟩ ⟨g⟩⟩
theorem zR {Y p q : Prop} (y : Y) (g : q) (h : Hid Y -> Hid q -> p := by
 intro yy g
 (first | (refine Dzp hOz rfl rfl ?_; simp -implicitDefEqProofs (disch := first | omega | (simp only [qd] <;> omega)) only [xq, ↓xp, qc, Nat.reduceAdd, List.range, List.range.loop, fine, Nat.reduceEqDiff, ↓reduceIte, yielded, reduceCtorEq, Nat.reduceLT, Nat.reduceMul, Nat.reduceSub, one, Nat.reduceLeDiff, Aqi, yy.out, aq, ↓ap, qe0, qe1, qe2, *, -g, -yy, -hK, exists_eq_left', beq_self_eq_true, Bool.not_true, Bool.not_false, Bool.false_eq_true, if_false, if_true]) | (refine Dqa hOz rfl rfl rfl rfl ?_ ?_; (focus (simp -implicitDefEqProofs (disch := omega) only [act_get?, Axk, Nat.reduceEqDiff, ↓reduceIte, beq_self_eq_true, Bool.and_self, Bool.not_true, Bool.not_false, Bool.true_and, Bool.false_and, Bool.and_true, Bool.and_false, Bool.or_true, Bool.true_or, Bool.or_false, Bool.false_or, decide_true, decide_false, if_true, Bool.false_eq_true, if_false, *, -g, -yy]; done)); simp -implicitDefEqProofs (disch := first | omega | (simp only [qd] <;> omega)) only [xq, ↓xp, qc, Nat.reduceAdd, List.range, List.range.loop, fine, Nat.reduceEqDiff, ↓reduceIte, yielded, reduceCtorEq, Nat.reduceLT, Nat.reduceMul, Nat.reduceSub, one, Nat.reduceLeDiff, Aqi, yy.out, aq, ↓ap, qe0, qe1, qe2, *, -g, -yy, -hK, exists_eq_left', beq_self_eq_true, Bool.not_true, Bool.not_false, Bool.false_eq_true, if_false, if_true]) | (refine Dzo hOz rfl rfl rfl (act_get? (by omega)) ?_ ?_; (focus ((simp -implicitDefEqProofs (disch := omega) only [Axk, Nat.reduceEqDiff, ↓reduceIte, beq_self_eq_true, Bool.and_self, Bool.not_true, Bool.not_false, Bool.true_and, Bool.false_and, Bool.and_true, Bool.and_false, Bool.or_true, Bool.true_or, Bool.or_false, Bool.false_or, decide_true, decide_false, if_true, Bool.false_eq_true, if_false, Bwj, *, -g, -yy] <;> rfl); done)); simp -implicitDefEqProofs (disch := first | omega | (simp only [qd] <;> omega)) only [Aq3, Aqn, Nat.reduceAdd]))
 exact Hid.out g) : Hid p := ⟨h ⟨y⟩ ⟨g⟩⟩
end Go.X
end
section
namespace Go.Proofs.YtkenloilljeliaaGreatDoor
open Go Go.X
def Bk6 := And.intro @Djz (And.intro (fun H => Bvm (H := H) Tryz.underlying3 Tryz.underlying83) (fun H => Bvm (H := H) Tryz.underlying83 Tryz.underlying3))
def Cy6 := @Bq6
def Cy8 := @Bq6
def Ayo := And.intro (fun H => Aqd (H := H) Tryz.underlying85 (i := 1) rfl (off := 1) rfl Tryz.sizeOf3) (And.intro (fun H => Aqf (H := H) Tryz.underlying3 rfl) (And.intro (fun H => Bvm (H := H) Tryz.underlying3 Tryz.underlying83) (And.intro (fun H => Aqd (H := H) Tryz.underlying85 (i := 0) rfl (off := 0) rfl Tryz.sizeOf22) (And.intro (fun H => Aqf (H := H) Tryz.underlying22 rfl) (And.intro (fun H => Aq6 (H := H) Tryz.underlying22) (And.intro (fun H => Aqu (H := H) Tryz.underlying22 Tryz.sizeOf3) (And.intro (fun H => Axc (H := H) Tryz.sizeOf3) (And.intro (fun H => Aqd (H := H) Tryz.underlying85 (i := 2) rfl (off := 2) rfl Tryz.sizeOf83) (And.intro (fun H => Aqf (H := H) Tryz.underlying83 rfl) (fun H => Axc (H := H) Tryz.sizeOf83))))))))))
def TinI (H : Hp) (b k : Nat) : Prop :=
 ∃ (sa : Option Addr) (sl sc : Nat) (g st : Int), H b = some (true, .cells #[.slice sa sl sc, .int .i64 g, .int .u64 st] 85 (0, 0)) /\ 0 <= g /\ g + k <= 4611686018427387904 /\
  ∀ i : Nat, i < sl -> ∃ sb so c e fr x, sa = some ⟨sb, so, none⟩ /\ H sb = some (false, .cells c e fr) /\ c[so + i]? = some (.int .i64 x)
theorem TinI.new {H : Hp} {b k b2 : Nat} {o : Obj} (h : TinI H b k) (hb : H b2 = none) : TinI (H.set b2 o) b k := by
 obtain ⟨sa, sl, sc, g, st, h1, h2, h3, h4⟩ := h
 refine ⟨sa, sl, sc, g, st, Hp.le_set hb _ _ h1, h2, h3, fun i hi => ?_⟩
 obtain ⟨sb, so, c, e, fr, x, ha, hs, hx⟩ := h4 i hi
 exact ⟨sb, so, c, e, fr, x, ha, Hp.le_set hb _ _ hs, hx⟩
theorem TinI.own {H : Hp} {b k b2 : Nat} {o o' : Obj} (h : TinI H b k) (hb : H b2 = some (true, o)) (hn : b ≠ b2) : TinI (H.set b2 o') b k := by
 obtain ⟨sa, sl, sc, g, st, h1, h2, h3, h4⟩ := h
 refine ⟨sa, sl, sc, g, st, by rw [Axy, if_neg hn]; exact h1, h2, h3, fun i hi => ?_⟩
 obtain ⟨sb, so, c, e, fr, x, ha, hs, hx⟩ := h4 i hi
 exact ⟨sb, so, c, e, fr, x, ha, by rw [Axy, if_neg (fun e => by subst e; rw [hb] at hs; cases hs)]; exact hs, hx⟩
theorem TinI.less {H : Hp} {b k k' : Nat} (h : TinI H b k) (hk : k' <= k) : TinI H b k' := by
 obtain ⟨sa, sl, sc, g, st, h1, h2, h3, h4⟩ := h
 exact ⟨sa, sl, sc, g, st, h1, h2, by omega, h4⟩
theorem Cyv (n : Int) : 0 <= IntKind.u64.wrap n /\ IntKind.u64.wrap n < 18446744073709551616 := by
 unfold IntKind.wrap
 simp only [IntKind.bits, IntKind.signed, Bool.false_and, Bool.false_eq_true, if_false]
 omega
theorem shr9 (x : Int) (h : 0 <= x) (h' : x < 18446744073709551616) : 0 <= x.fdiv (2 ^ (min (9 : Int).toNat IntKind.u64.bits)) /\ x.fdiv (2 ^ (min (9 : Int).toNat IntKind.u64.bits)) < 36028797018963968 := by
 have e : (2 : Int) ^ (min (9 : Int).toNat IntKind.u64.bits) = 512 := rfl
 rw [e, Int.fdiv_eq_ediv_of_nonneg _ (by omega)]
 omega
theorem Bx9 (f : (n : Nat) -> BitVec n -> BitVec n -> BitVec n) (x y : Int) : 0 <= bitv f .u64 x y /\ bitv f .u64 x y < 18446744073709551616 := Cyv _
theorem Cwx (m : Md) (H : Hp) (b k : Nat) (hT : TinI H b (k + 1)) :
  FnX Tryz.prog m 62 #[.pointer (some ⟨b, 0, none⟩)] H fun e H' => ∃ v : Int, 0 <= v /\ v < 36028797018963968 /\ e = .returned (.int .u64 v) /\ ∃ o, H' = H.set b o /\ TinI H' b k := by
 obtain ⟨sa, sl, sc, g, st, hb, hg, hg', hs⟩ := hT
 refine Aqm Tryz.func62 rfl Tryz.ntmps62 (by simp) ?_
 (refine @unH _ ?_; refine z1 Ayo ?_)
 (refine Ayf ?_; intro K hK; simp -implicitDefEqProofs (disch := first | omega | (simp only [qd] <;> omega)) only [xq, ↓xp, qc, Nat.reduceAdd, List.range, List.range.loop, fine, Nat.reduceEqDiff, ↓reduceIte, yielded, reduceCtorEq, Nat.reduceLT, Nat.reduceMul, Nat.reduceSub, one, Nat.reduceLeDiff, Aqi, Ayo, cell_of hb, exists_eq_left']; refine hK _ _ ?_; clear hK K)
 refine Av3 (fun a' H' => ∃ e x, a' = act 76 e [] /\ H' = H /\ e 0 = .pointer (some ⟨b, 0, none⟩) /\ e 3 = .int .u64 x) ?_ ?_
 ·refine Cjd 10 [(true, 0), (true, 1), (true, 2), (true, 3), (true, 4), (true, 5), (true, 6), (true, 7), (true, 8), (true, 9)] (by kernel_rfl) (by kernel_rfl) (by simp) (by kernel_rfl) ?_; intro K hK
  iterate 10 (apply Akt rfl rfl rfl; (focus (simp -implicitDefEqProofs (disch := first | omega | (simp only [qd] <;> omega)) only [xq, ↓xp, qc, Nat.reduceAdd, List.range, List.range.loop, fine, Nat.reduceEqDiff, ↓reduceIte, yielded, reduceCtorEq, Nat.reduceLT, Nat.reduceMul, Nat.reduceSub, one, Nat.reduceLeDiff, Aqi, Ayo, cell_of hb, exists_eq_left', and_true, true_and] <;> (first | exact rfl | exact ⟨rfl, rfl⟩))); simp -implicitDefEqProofs (disch := first | omega | (simp only [qd] <;> omega)) only [Aq3, Aqn])
  refine Ak6 (hK _ _ ?_); clear hK K
  refine Av2 (by simp -implicitDefEqProofs (disch := first | omega | (simp only [qd] <;> omega)) only [Aq9, Axk, Nat.reduceEqDiff, ↓reduceIte]; rfl) ?_
  by_cases hlt : g < sl
  ·simp only [hlt, decide_true, if_true]
   obtain ⟨sb, so, c, e, fr, x, rfl, hsb, hcx⟩ := hs g.toNat (by omega)
   have hcx' : c[so + g.toNat * 1]? = some (.int .i64 x) := by simpa using hcx
   refine Akl 15 [(true, 0), (true, 1), (true, 2), (true, 3), (true, 4), (true, 5), (true, 6), (true, 7), (true, 8), (true, 9), (true, 10), (true, 11), (true, 12), (true, 13), (true, 14)] (by kernel_rfl) (by kernel_rfl) (by simp) (by kernel_rfl) ?_; intro K hK
   iterate 15 (apply Akt rfl rfl rfl; (focus (simp -implicitDefEqProofs (disch := first | omega | (simp only [qd] <;> omega)) only [xq, ↓xp, qc, Nat.reduceAdd, List.range, List.range.loop, fine, Nat.reduceEqDiff, ↓reduceIte, yielded, reduceCtorEq, Nat.reduceLT, Nat.reduceMul, Nat.reduceSub, one, Nat.reduceLeDiff, Aqi, Ayo, cell_of hb, cell_of hsb, hcx', exists_eq_left', and_true, true_and] <;> (first | exact rfl | exact ⟨rfl, rfl⟩))); simp -implicitDefEqProofs (disch := first | omega | (simp only [qd] <;> omega)) only [Aq3, Aqn])
   refine Ak6 (hK _ _ ?_); clear hK K
   exact ⟨_, _, rfl, rfl, rfl, rfl⟩
  ·simp only [hlt, decide_false, Bool.false_eq_true, if_false]
   exact Az1 ⟨_, _, rfl, rfl, rfl, rfl⟩
 ·rintro a' H' ⟨e, x, rfl, rfl, h0, h3⟩
  (refine Ayf ?_; intro K hK; simp -implicitDefEqProofs (disch := first | omega | (simp only [qd] <;> omega)) only [xq, ↓xp, qc, Nat.reduceAdd, List.range, List.range.loop, fine, Nat.reduceEqDiff, ↓reduceIte, yielded, reduceCtorEq, Nat.reduceLT, Nat.reduceMul, Nat.reduceSub, one, Nat.reduceLeDiff, Aqi, Ayo, h0, h3, cell_of hb, exists_eq_left', Avb hb, true_and]; refine hK _ _ ?_; clear hK K)
  (refine @unH _ ?_; refine z1 (And.intro Ayo (And.intro @h0 (And.intro @h3 (And.intro @exists_eq_left'.{1} @true_and)))) ?_)
  refine Cjd 13 [(true, 0), (true, 1), (true, 2), (true, 3), (true, 4), (true, 5), (true, 6), (true, 7), (true, 8), (true, 9), (true, 10), (true, 11), (true, 12), (false, 13)] (by kernel_rfl) (by kernel_rfl) (by simp) (by kernel_rfl) ?_; intro K hK
  iterate 13 (apply Akt rfl rfl rfl; (focus (simp -implicitDefEqProofs (disch := first | omega | (simp only [qd] <;> omega)) only [xq, ↓xp, qc, Nat.reduceAdd, List.range, List.range.loop, fine, Nat.reduceEqDiff, ↓reduceIte, yielded, reduceCtorEq, Nat.reduceLT, Nat.reduceMul, Nat.reduceSub, one, Nat.reduceLeDiff, Aqi, Ayo, h0, h3, exists_eq_left', and_true, true_and] <;> (first | exact rfl | exact ⟨rfl, rfl⟩))); simp -implicitDefEqProofs (disch := first | omega | (simp only [qd] <;> omega)) only [Aq3, Aqn])
  refine Bz7 ?_
  (refine @unH _ ?_; refine z0 (And.intro Ayo (And.intro @h0 (And.intro @h3 (And.intro @exists_eq_left'.{1} @true_and)))) ?_)
  refine hK _ _ ?_; clear hK K
  (refine @unH _ ?_; refine z1 (And.intro Ayo (And.intro @h0 (And.intro @h3 (And.intro @exists_eq_left'.{1} @true_and)))) ?_)
  (refine @unH _ ?_; refine z1 (And.intro Ayo (And.intro @h0 (And.intro @h3 (And.intro @exists_eq_left'.{1} @true_and)))) ?_)
  (refine @unH _ ?_; refine z9 Tryz.results62 ?_)
  refine ⟨_, (shr9 _ (Bx9 _ _ _).1 (Bx9 _ _ _).2).1, (shr9 _ (Bx9 _ _ _).1 (Bx9 _ _ _).2).2, rfl, _, rfl, ?_⟩
  refine ⟨sa, sl, sc, g + 1, _, by rw [Axy, if_pos rfl], by omega, by omega, fun i hi => ?_⟩
  obtain ⟨sb, so, c, e', fr, x', h1, h2, h4⟩ := hs i hi
  exact ⟨sb, so, c, e', fr, x', h1, by rw [Axy, if_neg (fun h => by subst h; rw [hb] at h2; cases h2)]; exact h2, h4⟩
theorem Aww (m : Md) (H : Hp) (b k : Nat) (n : Int) (hn : n < 36028797018963967) (hT : TinI H b (k + 1)) :
  FnX Tryz.prog m 22 #[.pointer (some ⟨b, 0, none⟩), .int .i64 n] H fun e H' => ∃ r : Int, 0 <= r /\ (r <= n ∨ r = 0) /\ e = .returned (.int .i64 r) /\ ∃ o, H' = H.set b o /\ TinI H' b k := by
 refine Aqm Tryz.func22 rfl Tryz.ntmps22 (by simp) ?_
 (refine @unH _ ?_; refine z1 Bk6 ?_)
 (refine @unH _ ?_; refine z8 Bk6 ?_; try (refine inK ?_; intro K hK))
 refine (Cwx m H b k hT).runs.mono ?_; rintro _ _ ⟨v, hv0, hv1, rfl, o, rfl, hT'⟩; simp -implicitDefEqProofs (disch := first | omega | (simp only [qd] <;> omega)) only [xq, ↓xp, qc, Nat.reduceAdd, List.range, List.range.loop, fine, Nat.reduceEqDiff, ↓reduceIte, yielded, reduceCtorEq, Nat.reduceLT, Nat.reduceMul, Nat.reduceSub, one, Nat.reduceLeDiff, Aqi, Bk6]
 refine hK _ _ ?_; clear hK K
 refine Av3 (fun a' H' => ∃ e, 1 <= n /\ a' = act 16 e [] /\ H' = H.set b o /\ e 1 = .int .i64 n /\ e 5 = .int .u64 v) ?_ ?_
 ·(refine @unH _ ?_; refine z1 Bk6 ?_)
  refine Av2 (by simp -implicitDefEqProofs (disch := first | omega | (simp only [qd] <;> omega)) only [Aq9, Axk, Nat.reduceEqDiff, ↓reduceIte]; rfl) ?_
  by_cases h : n < 1
  ·simp only [h, decide_true, if_true]
   (refine @unH _ ?_; refine z1 Bk6 ?_)
   refine Axt ?_
   simp only [thn]
   rw [Aq7, Ay3 Tryz.results22 (by decide)]
   exact ⟨0, by omega, .inr rfl, rfl, o, rfl, hT'⟩
  ·simp only [h, decide_false, Bool.false_eq_true, if_false]
   exact Az1 ⟨_, by omega, rfl, rfl, rfl, rfl⟩
 ·rintro a' H' ⟨e, h1, rfl, rfl, e1, e5⟩
  have hw : IntKind.u64.wrap n = n := IntWalk.u64_in n (by omega)
  have hw' : IntKind.u64.wrap (n + 1) = n + 1 := IntWalk.u64_in _ (by omega)
  have hm : v.tmod (n + 1) = v % (n + 1) := Int.tmod_eq_emod_of_nonneg hv0
  have hr0 := Int.emod_nonneg v (show n + 1 ≠ 0 by omega)
  have hr1 := Int.emod_lt_of_pos v (show 0 < n + 1 by omega)
  have hw2 : IntKind.i64.wrap (v % (n + 1)) = v % (n + 1) := IntWalk.i64_in _ (by omega)
  (refine @unH _ ?_; refine z1 (And.intro Bk6 (And.intro @e1 (And.intro @e5 (And.intro @hw (And.intro @hw' (And.intro @hm @hw2)))))) ?_)
  (refine @unH _ ?_; refine z9 Tryz.results22 ?_)
  exact ⟨_, hr0, .inl (by omega), rfl, o, rfl, hT'⟩
theorem Cxy (m : Md) (H : Hp) (b k : Nat) (lo hi : Int) (h0 : -1000000 <= lo) (h1 : lo <= 1000000) (h2 : -1000000 <= hi) (h3 : hi <= 1000000) (hT : TinI H b (k + 1)) :
  FnX Tryz.prog m 42 #[.pointer (some ⟨b, 0, none⟩), .int .i64 lo, .int .i64 hi] H fun e H' => ∃ r : Int, lo <= r /\ (r <= hi ∨ r = lo) /\ e = .returned (.int .i64 r) /\ ∃ o, H' = H.set b o /\ TinI H' b k := by
 refine Aqm Tryz.func42 rfl Tryz.ntmps42 (by simp) ?_
 (refine @unH _ ?_; refine z1 @Cy6 ?_)
 (refine @unH _ ?_; refine z8 @Cy6 ?_; try (refine inK ?_; intro K hK))
 refine (Aww m H b k (hi - lo) (by omega) hT).runs.mono ?_
 rintro _ _ ⟨r, hr0, hr1, rfl, o, rfl, hT'⟩
 have hr2 : r <= 2000000 := by omega
 (refine @unH _ ?_; refine z0 @Cy6 ?_)
 refine hK _ _ ?_; clear hK K
 (refine @unH _ ?_; refine z9 Tryz.results42 ?_)
 exact ⟨_, by omega, by omega, rfl, o, rfl, hT'⟩
theorem Cxd (m : Md) (H : Hp) (b k : Nat) (n : Int) (h0 : -1000000 <= n) (h1 : n <= 1000000) (hT : TinI H b (k + 1)) :
  FnX Tryz.prog m 47 #[.pointer (some ⟨b, 0, none⟩), .int .i64 n] H fun e H' => ∃ r : Bool, e = .returned (.bool r) /\ ∃ o, H' = H.set b o /\ TinI H' b k := by
 refine Aqm Tryz.func47 rfl Tryz.ntmps47 (by simp) ?_
 (refine @unH _ ?_; refine z1 @Cy8 ?_)
 (refine @unH _ ?_; refine z8 @Cy8 ?_; try (refine inK ?_; intro K hK))
 refine (Aww m H b k (n - 1) (by omega) hT).runs.mono ?_; rintro _ _ ⟨r, hr0, hr1, rfl, o, rfl, hT'⟩; simp -implicitDefEqProofs (disch := first | omega | (simp only [qd] <;> omega)) only [xq, ↓xp, qc, Nat.reduceAdd, List.range, List.range.loop, fine, Nat.reduceEqDiff, ↓reduceIte, yielded, reduceCtorEq, Nat.reduceLT, Nat.reduceMul, Nat.reduceSub, one, Nat.reduceLeDiff, Aqi, Cy8]
 refine hK _ _ ?_; clear hK K
 (refine @unH _ ?_; refine z9 Tryz.results47 ?_)
 exact ⟨_, rfl, o, rfl, hT'⟩
def Cy7 := And.intro (fun H => Aq6 (H := H) Tryz.underlying22) (And.intro @Bq6 (And.intro (fun H => Aqu (H := H) Tryz.underlying22 Tryz.sizeOf3) (fun H => Aqf (H := H) Tryz.underlying3 rfl)))
def SlI (H : Hp) (v : Value) (xs : List Int) : Prop :=
 ∃ (a : Option Addr) (cap : Nat), v = .slice a xs.length cap /\ xs.length <= cap /\ ∀ (i : Nat) (x : Int), xs[i]? = some x -> ∃ (b o : Nat) (p : Bool) (c : Array Value) (fr : Nat × Nat), a = some ⟨b, o, none⟩ /\ H b = some (p, .cells c 3 fr) /\ c[o + i]? = some (.int .i64 x)
theorem SlI.le {H H' : Hp} {v : Value} {xs : List Int} (h : SlI H v xs) (hl : H.le H') : SlI H' v xs := by
 obtain ⟨a, cap, hv, hc, h⟩ := h
 refine ⟨a, cap, hv, hc, fun i x hi => ?_⟩
 obtain ⟨b, o, p, c, fr, ha, hb, hx⟩ := h i x hi
 exact ⟨b, o, p, c, fr, ha, hl _ _ hb, hx⟩
theorem SlI.nil (H : Hp) (a : Option Addr) (cap : Nat) : SlI H (.slice a 0 cap) [] := ⟨a, cap, rfl, Nat.zero_le _, fun i x hi => by simp at hi⟩
theorem SlI.cons {H : Hp} {v : Value} {xs : List Int} (h : SlI H v xs) (hx : xs ≠ []) : ∃ (b o cap : Nat) (p : Bool) (c : Array Value) (fr : Nat × Nat), v = .slice (some ⟨b, o, none⟩) xs.length cap /\ xs.length <= cap /\ H b = some (p, .cells c 3 fr) /\ ∀ (i : Nat) (x : Int), xs[i]? = some x -> c[o + i]? = some (.int .i64 x) := by
 obtain ⟨a, cap, hv, hc, h⟩ := h
 cases xs with
 | nil => exact absurd rfl hx
 | cons y ys =>
  obtain ⟨b, o, p, c, fr, rfl, hb, _⟩ := h 0 y rfl
  refine ⟨b, o, cap, p, c, fr, hv, hc, hb, fun i x hi => ?_⟩
  obtain ⟨b', o', p', c', fr', ha, hb', hx'⟩ := h i x hi
  simp only [Option.some.injEq, Addr.mk.injEq] at ha
  obtain ⟨rfl, rfl, _⟩ := ha
  rw [hb] at hb'
  simp only [Option.some.injEq, Prod.mk.injEq, Obj.cells.injEq] at hb'
  obtain ⟨_, rfl, _⟩ := hb'
  exact hx'
def ints (xs : List Int) : List Value := xs.map (Value.int .i64)
theorem Aki {xs : List Int} {i : Nat} {x : Int} (h : xs[i]? = some x) : (ints xs)[i]? = some (.int .i64 x) := by simp [ints, h]
theorem Czy (xs ys : List Int) : ints (xs ++ ys) = ints xs ++ ints ys := by simp [ints]
theorem Aqz (xs : List Int) : (ints xs).length = xs.length := by simp [ints]
theorem Bzd (xs : List Int) : ∀ u ∈ ints xs, one u = true := fun u hu => by
 simp only [ints, List.mem_map] at hu
 obtain ⟨x, _, rfl⟩ := hu
 rfl
theorem Bzl {H₀ H : Hp} {v : Value} {n : Nat} {xs : List Int} (hrow : Akr H₀ H v 3 1 n (ints xs)) {Hx : Hp} (hx : H.le Hx) {g o m cap : Nat} {ys : List Int} (hm : ys.length = m)
  (hg : H₀ g = none -> H g = none) (hys : ∀ (j : Nat) (y : Int), ys[j]? = some y -> Hx.cell ⟨g, o + j, none⟩ = some (.int .i64 y)) (hn : n + m <= 1073741824)
  (ty : TypeId) (cb : Array Bool) (K : Next -> Hp -> Prop) (E : Value -> Hp -> Prop)
  (h : ∀ v' H' H'', Akr H₀ H' v' 3 1 (n + m) (ints (xs ++ ys)) -> H'.le H'' -> K (.value v') H'') :
  wpS Tryz.prog (builtin .append #[22, 22] ty cb #[v, .slice (some ⟨g, o, none⟩) m cap]) Hx K E := by
 refine Avf Tryz.underlying22 Tryz.sizeOf3 Tryz.zeroValue3 rfl Tryz.typeInfo3 (by decide) (by decide) hrow hx (news := ints ys) (by rw [Aqz, hm, Nat.mul_one]) hg (fun j u hj => ?_) (Bzd ys) hn ty cb K E (fun v' H' H'' h1 h2 => h v' H' H'' (by rw [Czy]; exact h1) h2)
 simp only [ints, List.getElem?_map, Option.map_eq_some_iff] at hj
 obtain ⟨y, hy, rfl⟩ := hj
 exact hys j y hy
theorem Cqx (m : Md) (H : Hp) (b k : Nat) (v : Value) (xs : List Int) (hv : SlI H v xs) (hne : xs ≠ []) (hl : xs.length <= 1000000) (hT : TinI H b (k + 1)) :
  FnX Tryz.prog m 45 #[.pointer (some ⟨b, 0, none⟩), v] H fun e H' => ∃ r : Int, r ∈ xs /\ e = .returned (.int .i64 r) /\ ∃ o, H' = H.set b o /\ TinI H' b k := by
 have hpos : 0 < xs.length := List.length_pos_iff.2 hne
 obtain ⟨sb, so, cap, p, c, fr, rfl, _, hsb, hc⟩ := hv.cons hne
 have hbn : sb ≠ b := fun e => by
  obtain ⟨_, _, _, _, _, hb, _⟩ := hT
  rw [e, hb] at hsb
  cases hsb
 refine Aqm Tryz.func45 rfl Tryz.ntmps45 (by simp) ?_
 (refine @unH _ ?_; refine z1 Cy7 ?_)
 (refine @unH _ ?_; refine z8 Cy7 ?_; try (refine inK ?_; intro K hK))
 refine (Aww m H b k ((xs.length : Int) - 1) (by omega) hT).runs.mono ?_
 rintro _ _ ⟨r, hr0, hr1, rfl, o, rfl, hT'⟩
 have hr2 : r < xs.length := by omega
 have hrn : r.toNat < xs.length := by omega
 have hx := hc r.toNat xs[r.toNat] (List.getElem?_eq_getElem hrn)
 have hx' : c[so + r.toNat * 1]? = some (.int .i64 xs[r.toNat]) := by simpa using hx
 have hsb' : (H.set b o) sb = some (p, .cells c 3 fr) := by rw [Axy, if_neg hbn]; exact hsb
 simp -implicitDefEqProofs (disch := first | omega | (simp only [qd] <;> omega)) only [xq, ↓xp, qc, Nat.reduceAdd, List.range, List.range.loop, fine, Nat.reduceEqDiff, ↓reduceIte, yielded, reduceCtorEq, Nat.reduceLT, Nat.reduceMul, Nat.reduceSub, one, Nat.reduceLeDiff, Aqi, Cy7, cell_of hsb', hx', exists_eq_left']
 refine hK _ _ ?_; clear hK K
 (refine @unH _ ?_; refine z9 Tryz.results45 ?_)
 exact ⟨_, List.getElem_mem hrn, rfl, o, rfl, hT'⟩
end Go.Proofs.YtkenloilljeliaaGreatDoor
end
