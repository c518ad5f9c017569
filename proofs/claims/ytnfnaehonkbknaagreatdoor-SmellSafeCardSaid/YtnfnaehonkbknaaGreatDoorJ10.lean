/- Texts Blds Fns Hid Tin Data. -/
import Derived.Test.YtnfnaehonkbknaaGreatDoorJ09
import Derived.Test.YtnfnaehonkbknaaGreatDoorProg
import Derived.IntWalk
set_option linter.defProp false
set_option linter.unusedSimpArgs false
set_option linter.unusedVariables false
set_option maxRecDepth 100000
set_option maxHeartbeats 2000000
section
namespace Go.Proofs.YtnfnaehonkbknaaGreatDoor
open Go Go.X
theorem Azn (H : Hp) (kx1 : IntKind) (x1 : Int) (K : Value -> Hp -> Prop) (E : Value -> Hp -> Prop) : wpS Tryz.prog (Instr.buildSlice 22 1 #[(0, .int kx1 x1)]) H K E = ∀ b, H b = none -> K (.slice (some ⟨b, 0, none⟩) 1 1) (H.set b (.cells #[.int kx1 x1] 3 (0, 0))) := Avq (K := K) (E := E) Tryz.underlying22 Tryz.sizeOf3 Tryz.zeroValue3 rfl 1 [(0, .int kx1 x1)] (by decide) (by decide) (c := #[.int kx1 x1]) (by kernel_rfl)
theorem Bjx (H : Hp) (kx1 : IntKind) (x1 : Int) (kx2 : IntKind) (x2 : Int) (K : Value -> Hp -> Prop) (E : Value -> Hp -> Prop) : wpS Tryz.prog (Instr.buildSlice 22 2 #[(0, .int kx1 x1), (1, .int kx2 x2)]) H K E = ∀ b, H b = none -> K (.slice (some ⟨b, 0, none⟩) 2 2) (H.set b (.cells #[.int kx1 x1, .int kx2 x2] 3 (0, 0))) := Avq (K := K) (E := E) Tryz.underlying22 Tryz.sizeOf3 Tryz.zeroValue3 rfl 2 [(0, .int kx1 x1), (1, .int kx2 x2)] (by decide) (by decide) (c := #[.int kx1 x1, .int kx2 x2]) (by kernel_rfl)
theorem Cje (H : Hp) (kx1 : IntKind) (x1 : Int) (K : Value -> Hp -> Prop) (E : Value -> Hp -> Prop) : wpS Tryz.prog (Instr.build 26 #[(0, .int kx1 x1)]) H K E = K (.agg #[.int kx1 x1, .slice none 0 0, .slice none 0 0, .slice none 0 0]) H := Aq6 Tryz.underlying26 Tryz.zeroValue26 (ns := [1, 1, 1, 1]) ⟨Tryz.sizeOf3, Tryz.sizeOf23, Tryz.sizeOf22, Tryz.sizeOf24, trivial⟩ [(0, .int kx1 x1)] (out := [.int kx1 x1, .slice none 0 0, .slice none 0 0, .slice none 0 0]) (by kernel_rfl) K E
theorem Av6 (H : Hp) (kx1 : IntKind) (x1 : Int) (kx2 : IntKind) (x2 : Int) (kx3 : IntKind) (x3 : Int) (K : Value -> Hp -> Prop) (E : Value -> Hp -> Prop) : wpS Tryz.prog (Instr.buildSlice 22 3 #[(0, .int kx1 x1), (1, .int kx2 x2), (2, .int kx3 x3)]) H K E = ∀ b, H b = none -> K (.slice (some ⟨b, 0, none⟩) 3 3) (H.set b (.cells #[.int kx1 x1, .int kx2 x2, .int kx3 x3] 3 (0, 0))) := Avq (K := K) (E := E) Tryz.underlying22 Tryz.sizeOf3 Tryz.zeroValue3 rfl 3 [(0, .int kx1 x1), (1, .int kx2 x2), (2, .int kx3 x3)] (by decide) (by decide) (c := #[.int kx1 x1, .int kx2 x2, .int kx3 x3]) (by kernel_rfl)
theorem Bwk (H : Hp) (kx1 : IntKind) (x1 : Int) (kx2 : IntKind) (x2 : Int) (K : Value -> Hp -> Prop) (E : Value -> Hp -> Prop) : wpS Tryz.prog (Instr.build 46 #[(0, .int kx1 x1), (1, .int kx2 x2)]) H K E = K (.agg #[.int kx1 x1, .int kx2 x2, .bool false]) H := Aq6 Tryz.underlying46 Tryz.zeroValue46 (ns := [1, 1, 1]) ⟨Tryz.sizeOf3, Tryz.sizeOf3, Tryz.sizeOf4, trivial⟩ [(0, .int kx1 x1), (1, .int kx2 x2)] (out := [.int kx1 x1, .int kx2 x2, .bool false]) (by kernel_rfl) K E
theorem Bwl (H : Hp) (x1 : Option Addr) (nx1 cx1 : Nat) (kx2 : IntKind) (x2 : Int) (K : Value -> Hp -> Prop) (E : Value -> Hp -> Prop) : wpS Tryz.prog (Instr.build 80 #[(0, .slice x1 nx1 cx1), (2, .int kx2 x2)]) H K E = K (.agg #[.slice x1 nx1 cx1, .int .i64 0, .int kx2 x2]) H := Aq6 Tryz.underlying80 Tryz.zeroValue80 (ns := [1, 1, 1]) ⟨Tryz.sizeOf22, Tryz.sizeOf3, Tryz.sizeOf78, trivial⟩ [(0, .slice x1 nx1 cx1), (2, .int kx2 x2)] (out := [.slice x1 nx1 cx1, .int .i64 0, .int kx2 x2]) (by kernel_rfl) K E
theorem bld_41_0_1_2_3_0 (H : Hp) (kx1 : IntKind) (x1 : Int) (kx2 : IntKind) (x2 : Int) (x3 : Option Addr) (nx3 cx3 : Nat) (x4 : Option Addr) (nx4 cx4 : Nat) (K : Value -> Hp -> Prop) (E : Value -> Hp -> Prop) : wpS Tryz.prog (Instr.build 41 #[(0, .int kx1 x1), (1, .int kx2 x2), (2, .slice x3 nx3 cx3), (3, .slice x4 nx4 cx4)]) H K E = K (.agg #[.int kx1 x1, .int kx2 x2, .slice x3 nx3 cx3, .slice x4 nx4 cx4]) H := Aq6 Tryz.underlying41 Tryz.zeroValue41 (ns := [1, 1, 1, 1]) ⟨Tryz.sizeOf3, Tryz.sizeOf3, Tryz.sizeOf22, Tryz.sizeOf22, trivial⟩ [(0, .int kx1 x1), (1, .int kx2 x2), (2, .slice x3 nx3 cx3), (3, .slice x4 nx4 cx4)] (out := [.int kx1 x1, .int kx2 x2, .slice x3 nx3 cx3, .slice x4 nx4 cx4]) (by kernel_rfl) K E
theorem Bzk (H : Hp)  (K : Value -> Hp -> Prop) (E : Value -> Hp -> Prop) : wpS Tryz.prog (Instr.build 34 #[]) H K E = K (.agg #[.int .i64 0, .int .i64 0]) H := Aq6 Tryz.underlying34 Tryz.zeroValue34 (ns := [1, 1]) ⟨Tryz.sizeOf3, Tryz.sizeOf3, trivial⟩ [] (out := [.int .i64 0, .int .i64 0]) (by kernel_rfl) K E
theorem Ajj (H : Hp) (kx1 : IntKind) (x1 : Int) (kx2 : IntKind) (x2 : Int) (K : Value -> Hp -> Prop) (E : Value -> Hp -> Prop) : wpS Tryz.prog (Instr.build 34 #[(0, .int kx1 x1), (1, .int kx2 x2)]) H K E = K (.agg #[.int kx1 x1, .int kx2 x2]) H := Aq6 Tryz.underlying34 Tryz.zeroValue34 (ns := [1, 1]) ⟨Tryz.sizeOf3, Tryz.sizeOf3, trivial⟩ [(0, .int kx1 x1), (1, .int kx2 x2)] (out := [.int kx1 x1, .int kx2 x2]) (by kernel_rfl) K E
theorem Bju (H : Hp) (kx1 : IntKind) (x1 : Int) (kx2 : IntKind) (x2 : Int) (x3 : Bool) (K : Value -> Hp -> Prop) (E : Value -> Hp -> Prop) : wpS Tryz.prog (Instr.build 46 #[(0, .int kx1 x1), (1, .int kx2 x2), (2, .bool x3)]) H K E = K (.agg #[.int kx1 x1, .int kx2 x2, .bool x3]) H := Aq6 Tryz.underlying46 Tryz.zeroValue46 (ns := [1, 1, 1]) ⟨Tryz.sizeOf3, Tryz.sizeOf3, Tryz.sizeOf4, trivial⟩ [(0, .int kx1 x1), (1, .int kx2 x2), (2, .bool x3)] (out := [.int kx1 x1, .int kx2 x2, .bool x3]) (by kernel_rfl) K E
theorem Bxx (H : Hp) (kx1 : IntKind) (x1 : Int) (x2 : Option Addr) (nx2 cx2 : Nat) (x3 : Option Addr) (nx3 cx3 : Nat) (x4 : Option Addr) (nx4 cx4 : Nat) (K : Value -> Hp -> Prop) (E : Value -> Hp -> Prop) : wpS Tryz.prog (Instr.build 26 #[(0, .int kx1 x1), (1, .slice x2 nx2 cx2), (2, .slice x3 nx3 cx3), (3, .slice x4 nx4 cx4)]) H K E = K (.agg #[.int kx1 x1, .slice x2 nx2 cx2, .slice x3 nx3 cx3, .slice x4 nx4 cx4]) H := Aq6 Tryz.underlying26 Tryz.zeroValue26 (ns := [1, 1, 1, 1]) ⟨Tryz.sizeOf3, Tryz.sizeOf23, Tryz.sizeOf22, Tryz.sizeOf24, trivial⟩ [(0, .int kx1 x1), (1, .slice x2 nx2 cx2), (2, .slice x3 nx3 cx3), (3, .slice x4 nx4 cx4)] (out := [.int kx1 x1, .slice x2 nx2 cx2, .slice x3 nx3 cx3, .slice x4 nx4 cx4]) (by kernel_rfl) K E
theorem Ayi (H : Hp) (kx1 : IntKind) (x1 : Int) (kx2 : IntKind) (x2 : Int) (kx3 : IntKind) (x3 : Int) (kx4 : IntKind) (x4 : Int) (K : Value -> Hp -> Prop) (E : Value -> Hp -> Prop) : wpS Tryz.prog (Instr.build 66 #[(0, .int kx1 x1), (1, .int kx2 x2), (2, .agg #[.int kx3 x3, .int kx4 x4])]) H K E = K (.agg #[.int kx1 x1, .int kx2 x2, .int kx3 x3, .int kx4 x4]) H := Aq6 Tryz.underlying66 Tryz.zeroValue66 (ns := [1, 1, 2]) ⟨Tryz.sizeOf3, Tryz.sizeOf3, Tryz.sizeOf34, trivial⟩ [(0, .int kx1 x1), (1, .int kx2 x2), (2, .agg #[.int kx3 x3, .int kx4 x4])] (out := [.int kx1 x1, .int kx2 x2, .int kx3 x3, .int kx4 x4]) (by kernel_rfl) K E
theorem Akg (H : Hp) (kx1 : IntKind) (x1 : Int) (kx2 : IntKind) (x2 : Int) (kx3 : IntKind) (x3 : Int) (kx4 : IntKind) (x4 : Int) (kx5 : IntKind) (x5 : Int) (kx6 : IntKind) (x6 : Int) (kx7 : IntKind) (x7 : Int) (K : Value -> Hp -> Prop) (E : Value -> Hp -> Prop) : wpS Tryz.prog (Instr.build 120 #[(0, .int kx1 x1), (1, .agg #[.int kx2 x2, .int kx3 x3, .int kx4 x4, .int kx5 x5, .int kx6 x6, .int kx7 x7])]) H K E = K (.agg #[.int kx1 x1, .int kx2 x2, .int kx3 x3, .int kx4 x4, .int kx5 x5, .int kx6 x6, .int kx7 x7]) H := Aq6 Tryz.underlying120 Tryz.zeroValue120 (ns := [1, 6]) ⟨Tryz.sizeOf3, Tryz.sizeOf91, trivial⟩ [(0, .int kx1 x1), (1, .agg #[.int kx2 x2, .int kx3 x3, .int kx4 x4, .int kx5 x5, .int kx6 x6, .int kx7 x7])] (out := [.int kx1 x1, .int kx2 x2, .int kx3 x3, .int kx4 x4, .int kx5 x5, .int kx6 x6, .int kx7 x7]) (by kernel_rfl) K E
theorem By6 (H : Hp) (x1 : Fn) (ax1 bx1 : Array Value) (K : Value -> Hp -> Prop) (E : Value -> Hp -> Prop) : wpS Tryz.prog (Instr.build 123 #[(0, .func x1 ax1 bx1)]) H K E = K (.agg #[.func x1 ax1 bx1]) H := Aq6 Tryz.underlying123 Tryz.zeroValue123 (ns := [1]) ⟨Tryz.sizeOf101, trivial⟩ [(0, .func x1 ax1 bx1)] (out := [.func x1 ax1 bx1]) (by kernel_rfl) K E
theorem By7 (H : Hp)  (K : Value -> Hp -> Prop) (E : Value -> Hp -> Prop) : wpS Tryz.prog (Instr.build 123 #[(0, .nilFunc)]) H K E = K (.agg #[.nilFunc]) H := Aq6 Tryz.underlying123 Tryz.zeroValue123 (ns := [1]) ⟨Tryz.sizeOf101, trivial⟩ [(0, .nilFunc)] (out := [.nilFunc]) (by kernel_rfl) K E
theorem Bw4 (H : Hp) (x1 : Option Addr) (nx1 cx1 : Nat) (K : Value -> Hp -> Prop) (E : Value -> Hp -> Prop) : wpS Tryz.prog (Instr.buildSlice 81 1 #[(0, .slice x1 nx1 cx1)]) H K E = ∀ b, H b = none -> K (.slice (some ⟨b, 0, none⟩) 1 1) (H.set b (.cells #[.slice x1 nx1 cx1] 22 (0, 0))) := Avq (K := K) (E := E) Tryz.underlying81 Tryz.sizeOf22 Tryz.zeroValue22 rfl 1 [(0, .slice x1 nx1 cx1)] (by decide) (by decide) (c := #[.slice x1 nx1 cx1]) (by kernel_rfl)
theorem Bk3 (H : Hp) (kx1 : IntKind) (x1 : Int) (kx2 : IntKind) (x2 : Int) (K : Value -> Hp -> Prop) (E : Value -> Hp -> Prop) : wpS Tryz.prog (Instr.build 131 #[(0, .int kx1 x1), (1, .int kx2 x2)]) H K E = K (.agg #[.int kx1 x1, .int kx2 x2]) H := Aq6 Tryz.underlying131 Tryz.zeroValue131 (ns := [1, 1]) ⟨Tryz.sizeOf35, Tryz.sizeOf3, trivial⟩ [(0, .int kx1 x1), (1, .int kx2 x2)] (out := [.int kx1 x1, .int kx2 x2]) (by kernel_rfl) K E
theorem Bk4 (H : Hp) (kx1 : IntKind) (x1 : Int) (x2 : Option Addr) (nx2 cx2 : Nat) (x3 : Option Addr) (nx3 cx3 : Nat) (x4 : Option Addr) (nx4 cx4 : Nat) (x5 : Option Nat) (K : Value -> Hp -> Prop) (E : Value -> Hp -> Prop) : wpS Tryz.prog (Instr.build 147 #[(0, .agg #[.int kx1 x1, .slice x2 nx2 cx2, .slice x3 nx3 cx3, .slice x4 nx4 cx4]), (1, .map x5)]) H K E = K (.agg #[.int kx1 x1, .slice x2 nx2 cx2, .slice x3 nx3 cx3, .slice x4 nx4 cx4, .map x5]) H := Aq6 Tryz.underlying147 Tryz.zeroValue147 (ns := [4, 1]) ⟨Tryz.sizeOf26, Tryz.sizeOf145, trivial⟩ [(0, .agg #[.int kx1 x1, .slice x2 nx2 cx2, .slice x3 nx3 cx3, .slice x4 nx4 cx4]), (1, .map x5)] (out := [.int kx1 x1, .slice x2 nx2 cx2, .slice x3 nx3 cx3, .slice x4 nx4 cx4, .map x5]) (by kernel_rfl) K E
theorem Bzj (H : Hp) (kx1 : IntKind) (x1 : Int) (K : Value -> Hp -> Prop) (E : Value -> Hp -> Prop) : wpS Tryz.prog (Instr.build 127 #[(0, .int kx1 x1)]) H K E = K (.agg #[.int kx1 x1, .int .i64 0, .int .i64 0, .bool false, .int .i64 0, .int .i64 0, .bool false, .int .i64 0, .int .i64 0, .bool false, .int .i64 0, .int .i64 0, .bool false, .int .i64 0, .int .i64 0, .bool false, .int .i64 0, .int .i64 0, .bool false, .int .i64 0, .int .i64 0, .int .i64 0, .int .i64 0, .int .i64 0, .int .i64 0, .bool false, .int .i64 0, .int .i64 0, .bool false, .int .i64 0, .int .i64 0, .bool false, .int .i64 0, .int .i64 0, .bool false, .int .i64 0, .int .i64 0, .bool false, .int .i64 0, .int .i64 0, .bool false, .int .i64 0, .int .i64 0, .bool false, .int .i64 0, .int .i64 0, .int .i64 0, .int .i64 0, .int .i64 0, .int .i64 0, .bool false, .int .i64 0, .int .i64 0, .bool false, .int .i64 0, .int .i64 0, .bool false, .int .i64 0, .int .i64 0, .bool false, .int .i64 0, .int .i64 0, .bool false, .int .i64 0, .int .i64 0, .bool false, .int .i64 0, .int .i64 0, .bool false, .int .i64 0, .int .i64 0, .int .i64 0, .int .i64 0, .int .i64 0, .int .i64 0, .bool false, .int .i64 0, .int .i64 0, .bool false, .int .i64 0, .int .i64 0, .bool false, .int .i64 0, .int .i64 0, .bool false, .int .i64 0, .int .i64 0, .bool false, .int .i64 0, .int .i64 0, .bool false, .int .i64 0, .int .i64 0, .bool false, .int .i64 0, .int .i64 0, .int .i64 0, .int .i64 0, .int .i64 0, .int .i64 0, .bool false, .int .i64 0, .int .i64 0, .bool false, .int .i64 0, .int .i64 0, .bool false, .int .i64 0, .int .i64 0, .bool false, .int .i64 0, .int .i64 0, .bool false, .int .i64 0, .int .i64 0, .bool false, .int .i64 0, .int .i64 0, .bool false, .int .i64 0, .int .i64 0, .int .i64 0, .int .i64 0, .int .i64 0, .int .i64 0, .bool false, .int .i64 0, .int .i64 0, .bool false, .int .i64 0, .int .i64 0, .bool false, .int .i64 0, .int .i64 0, .bool false, .int .i64 0, .int .i64 0, .bool false, .int .i64 0, .int .i64 0, .bool false, .int .i64 0, .int .i64 0, .bool false, .int .i64 0, .int .i64 0, .int .i64 0, .int .i64 0, .int .i64 0, .int .i64 0, .bool false, .int .i64 0, .int .i64 0, .bool false, .int .i64 0, .int .i64 0, .bool false, .int .i64 0, .int .i64 0, .bool false, .int .i64 0, .int .i64 0, .bool false, .int .i64 0, .int .i64 0, .bool false, .int .i64 0, .int .i64 0, .bool false, .int .i64 0, .int .i64 0, .int .i64 0, .int .i64 0, .int .i64 0, .int .i64 0, .bool false, .int .i64 0, .int .i64 0, .bool false, .int .i64 0, .int .i64 0, .bool false, .int .i64 0, .int .i64 0, .bool false, .int .i64 0, .int .i64 0, .bool false, .int .i64 0, .int .i64 0, .bool false, .int .i64 0, .int .i64 0, .bool false, .int .i64 0, .int .i64 0, .int .i64 0, .int .i64 0, .int .i64 0, .int .i64 0, .bool false, .int .i64 0, .int .i64 0, .bool false, .int .i64 0, .int .i64 0, .bool false, .int .i64 0, .int .i64 0, .bool false, .int .i64 0, .int .i64 0, .bool false, .int .i64 0, .int .i64 0, .bool false, .int .i64 0, .int .i64 0, .bool false, .int .i64 0, .int .i64 0, .int .i64 0, .int .i64 0, .int .i64 0, .int .i64 0, .bool false, .int .i64 0, .int .i64 0, .bool false, .int .i64 0, .int .i64 0, .bool false, .int .i64 0, .int .i64 0, .bool false, .int .i64 0, .int .i64 0, .bool false, .int .i64 0, .int .i64 0, .bool false, .int .i64 0, .int .i64 0, .bool false, .int .i64 0, .int .i64 0, .int .i64 0, .int .i64 0, .int .i64 0, .int .i64 0, .bool false, .int .i64 0, .int .i64 0, .bool false, .int .i64 0, .int .i64 0, .bool false, .int .i64 0, .int .i64 0, .bool false, .int .i64 0, .int .i64 0, .bool false, .int .i64 0, .int .i64 0, .bool false, .int .i64 0, .int .i64 0, .bool false, .int .i64 0, .int .i64 0, .int .i64 0, .int .i64 0, .int .i64 0, .int .i64 0, .bool false, .int .i64 0, .int .i64 0, .bool false, .int .i64 0, .int .i64 0, .bool false, .int .i64 0, .int .i64 0, .bool false, .int .i64 0, .int .i64 0, .bool false, .int .i64 0, .int .i64 0, .bool false, .int .i64 0, .int .i64 0, .bool false, .int .i64 0, .int .i64 0, .int .i64 0, .int .i64 0, .int .i64 0, .int .i64 0, .bool false, .int .i64 0, .int .i64 0, .bool false, .int .i64 0, .int .i64 0, .bool false, .int .i64 0, .int .i64 0, .bool false, .int .i64 0, .int .i64 0, .bool false, .int .i64 0, .int .i64 0, .bool false, .int .i64 0, .int .i64 0, .bool false, .int .i64 0, .int .i64 0, .int .i64 0, .int .i64 0, .int .i64 0, .int .i64 0, .bool false]) H := Aq6 Tryz.underlying127 Tryz.zeroValue127 (ns := [1, 325]) ⟨Tryz.sizeOf3, Tryz.sizeOf125, trivial⟩ [(0, .int kx1 x1)] (out := [.int kx1 x1, .int .i64 0, .int .i64 0, .bool false, .int .i64 0, .int .i64 0, .bool false, .int .i64 0, .int .i64 0, .bool false, .int .i64 0, .int .i64 0, .bool false, .int .i64 0, .int .i64 0, .bool false, .int .i64 0, .int .i64 0, .bool false, .int .i64 0, .int .i64 0, .int .i64 0, .int .i64 0, .int .i64 0, .int .i64 0, .bool false, .int .i64 0, .int .i64 0, .bool false, .int .i64 0, .int .i64 0, .bool false, .int .i64 0, .int .i64 0, .bool false, .int .i64 0, .int .i64 0, .bool false, .int .i64 0, .int .i64 0, .bool false, .int .i64 0, .int .i64 0, .bool false, .int .i64 0, .int .i64 0, .int .i64 0, .int .i64 0, .int .i64 0, .int .i64 0, .bool false, .int .i64 0, .int .i64 0, .bool false, .int .i64 0, .int .i64 0, .bool false, .int .i64 0, .int .i64 0, .bool false, .int .i64 0, .int .i64 0, .bool false, .int .i64 0, .int .i64 0, .bool false, .int .i64 0, .int .i64 0, .bool false, .int .i64 0, .int .i64 0, .int .i64 0, .int .i64 0, .int .i64 0, .int .i64 0, .bool false, .int .i64 0, .int .i64 0, .bool false, .int .i64 0, .int .i64 0, .bool false, .int .i64 0, .int .i64 0, .bool false, .int .i64 0, .int .i64 0, .bool false, .int .i64 0, .int .i64 0, .bool false, .int .i64 0, .int .i64 0, .bool false, .int .i64 0, .int .i64 0, .int .i64 0, .int .i64 0, .int .i64 0, .int .i64 0, .bool false, .int .i64 0, .int .i64 0, .bool false, .int .i64 0, .int .i64 0, .bool false, .int .i64 0, .int .i64 0, .bool false, .int .i64 0, .int .i64 0, .bool false, .int .i64 0, .int .i64 0, .bool false, .int .i64 0, .int .i64 0, .bool false, .int .i64 0, .int .i64 0, .int .i64 0, .int .i64 0, .int .i64 0, .int .i64 0, .bool false, .int .i64 0, .int .i64 0, .bool false, .int .i64 0, .int .i64 0, .bool false, .int .i64 0, .int .i64 0, .bool false, .int .i64 0, .int .i64 0, .bool false, .int .i64 0, .int .i64 0, .bool false, .int .i64 0, .int .i64 0, .bool false, .int .i64 0, .int .i64 0, .int .i64 0, .int .i64 0, .int .i64 0, .int .i64 0, .bool false, .int .i64 0, .int .i64 0, .bool false, .int .i64 0, .int .i64 0, .bool false, .int .i64 0, .int .i64 0, .bool false, .int .i64 0, .int .i64 0, .bool false, .int .i64 0, .int .i64 0, .bool false, .int .i64 0, .int .i64 0, .bool false, .int .i64 0, .int .i64 0, .int .i64 0, .int .i64 0, .int .i64 0, .int .i64 0, .bool false, .int .i64 0, .int .i64 0, .bool false, .int .i64 0, .int .i64 0, .bool false, .int .i64 0, .int .i64 0, .bool false, .int .i64 0, .int .i64 0, .bool false, .int .i64 0, .int .i64 0, .bool false, .int .i64 0, .int .i64 0, .bool false, .int .i64 0, .int .i64 0, .int .i64 0, .int .i64 0, .int .i64 0, .int .i64 0, .bool false, .int .i64 0, .int .i64 0, .bool false, .int .i64 0, .int .i64 0, .bool false, .int .i64 0, .int .i64 0, .bool false, .int .i64 0, .int .i64 0, .bool false, .int .i64 0, .int .i64 0, .bool false, .int .i64 0, .int .i64 0, .bool false, .int .i64 0, .int .i64 0, .int .i64 0, .int .i64 0, .int .i64 0, .int .i64 0, .bool false, .int .i64 0, .int .i64 0, .bool false, .int .i64 0, .int .i64 0, .bool false, .int .i64 0, .int .i64 0, .bool false, .int .i64 0, .int .i64 0, .bool false, .int .i64 0, .int .i64 0, .bool false, .int .i64 0, .int .i64 0, .bool false, .int .i64 0, .int .i64 0, .int .i64 0, .int .i64 0, .int .i64 0, .int .i64 0, .bool false, .int .i64 0, .int .i64 0, .bool false, .int .i64 0, .int .i64 0, .bool false, .int .i64 0, .int .i64 0, .bool false, .int .i64 0, .int .i64 0, .bool false, .int .i64 0, .int .i64 0, .bool false, .int .i64 0, .int .i64 0, .bool false, .int .i64 0, .int .i64 0, .int .i64 0, .int .i64 0, .int .i64 0, .int .i64 0, .bool false, .int .i64 0, .int .i64 0, .bool false, .int .i64 0, .int .i64 0, .bool false, .int .i64 0, .int .i64 0, .bool false, .int .i64 0, .int .i64 0, .bool false, .int .i64 0, .int .i64 0, .bool false, .int .i64 0, .int .i64 0, .bool false, .int .i64 0, .int .i64 0, .int .i64 0, .int .i64 0, .int .i64 0, .int .i64 0, .bool false, .int .i64 0, .int .i64 0, .bool false, .int .i64 0, .int .i64 0, .bool false, .int .i64 0, .int .i64 0, .bool false, .int .i64 0, .int .i64 0, .bool false, .int .i64 0, .int .i64 0, .bool false, .int .i64 0, .int .i64 0, .bool false, .int .i64 0, .int .i64 0, .int .i64 0, .int .i64 0, .int .i64 0, .int .i64 0, .bool false]) (by kernel_rfl) K E
theorem Cjd (H : Hp)  (K : Value -> Hp -> Prop) (E : Value -> Hp -> Prop) : wpS Tryz.prog (Instr.build 200 #[]) H K E = K (.agg #[]) H := Aq6 Tryz.underlying200 Tryz.zeroValue200 (ns := []) trivial [] (out := []) (by kernel_rfl) K E
theorem By8 (H : Hp) (kx1 : IntKind) (x1 : Int) (K : Value -> Hp -> Prop) (E : Value -> Hp -> Prop) : wpS Tryz.prog (Instr.build 206 #[(0, .int kx1 x1)]) H K E = K (.agg #[.int kx1 x1]) H := Aq6 Tryz.underlying206 Tryz.zeroValue206 (ns := [1]) ⟨Tryz.sizeOf3, trivial⟩ [(0, .int kx1 x1)] (out := [.int kx1 x1]) (by kernel_rfl) K E
theorem By9 (H : Hp) (kx1 : IntKind) (x1 : Int) (K : Value -> Hp -> Prop) (E : Value -> Hp -> Prop) : wpS Tryz.prog (Instr.build 208 #[(0, .int kx1 x1)]) H K E = K (.agg #[.int kx1 x1]) H := Aq6 Tryz.underlying208 Tryz.zeroValue208 (ns := [1]) ⟨Tryz.sizeOf3, trivial⟩ [(0, .int kx1 x1)] (out := [.int kx1 x1]) (by kernel_rfl) K E
end Go.Proofs.YtnfnaehonkbknaaGreatDoor
end
section
namespace Go.Proofs.YtnfnaehonkbknaaGreatDoor
open Go Go.X
variable {H : Hp} (args : Array Value) (K : Next -> Hp -> Prop) (E : Value -> Hp -> Prop)
theorem callF7 : wpS Tryz.prog (callFunc 7 args) H K E = K (.enter 7 args) H := Aqg Tryz.func7 (by kernel_rfl) (by kernel_rfl) args K E
theorem callF8 : wpS Tryz.prog (callFunc 8 args) H K E = K (.enter 8 args) H := Aqg Tryz.func8 (by kernel_rfl) (by kernel_rfl) args K E
theorem callF9 : wpS Tryz.prog (callFunc 9 args) H K E = K (.enter 9 args) H := Aqg Tryz.func9 (by kernel_rfl) (by kernel_rfl) args K E
theorem Dzr : wpS Tryz.prog (callFunc 10 args) H K E = K (.enter 10 args) H := Aqg Tryz.func10 (by kernel_rfl) (by kernel_rfl) args K E
theorem callF11 : wpS Tryz.prog (callFunc 11 args) H K E = K (.enter 11 args) H := Aqg Tryz.func11 (by kernel_rfl) (by kernel_rfl) args K E
theorem Dzs : wpS Tryz.prog (callFunc 12 args) H K E = K (.enter 12 args) H := Aqg Tryz.func12 (by kernel_rfl) (by kernel_rfl) args K E
theorem callF13 : wpS Tryz.prog (callFunc 13 args) H K E = K (.enter 13 args) H := Aqg Tryz.func13 (by kernel_rfl) (by kernel_rfl) args K E
theorem Cve : wpS Tryz.prog (callFunc 14 args) H K E = K (.enter 14 args) H := Aqg Tryz.func14 (by kernel_rfl) (by kernel_rfl) args K E
theorem Bq3 : wpS Tryz.prog (callFunc 15 args) H K E = K (.enter 15 args) H := Aqg Tryz.func15 (by kernel_rfl) (by kernel_rfl) args K E
theorem Dzt : wpS Tryz.prog (callFunc 16 args) H K E = K (.enter 16 args) H := Aqg Tryz.func16 (by kernel_rfl) (by kernel_rfl) args K E
theorem Dzu : wpS Tryz.prog (callFunc 18 args) H K E = K (.enter 18 args) H := Aqg Tryz.func18 (by kernel_rfl) (by kernel_rfl) args K E
theorem Dzv : wpS Tryz.prog (callFunc 22 args) H K E = K (.enter 22 args) H := Aqg Tryz.func22 (by kernel_rfl) (by kernel_rfl) args K E
theorem Dzw : wpS Tryz.prog (callFunc 23 args) H K E = K (.enter 23 args) H := Aqg Tryz.func23 (by kernel_rfl) (by kernel_rfl) args K E
theorem Dzx : wpS Tryz.prog (callFunc 24 args) H K E = K (.enter 24 args) H := Aqg Tryz.func24 (by kernel_rfl) (by kernel_rfl) args K E
theorem Dzy : wpS Tryz.prog (callFunc 26 args) H K E = K (.enter 26 args) H := Aqg Tryz.func26 (by kernel_rfl) (by kernel_rfl) args K E
theorem Cvf : wpS Tryz.prog (callFunc 29 args) H K E = K (.enter 29 args) H := Aqg Tryz.func29 (by kernel_rfl) (by kernel_rfl) args K E
theorem Dzz : wpS Tryz.prog (callFunc 30 args) H K E = K (.enter 30 args) H := Aqg Tryz.func30 (by kernel_rfl) (by kernel_rfl) args K E
theorem Bk6 : wpS Tryz.prog (callFunc 31 args) H K E = K (.enter 31 args) H := Aqg Tryz.func31 (by kernel_rfl) (by kernel_rfl) args K E
theorem Dz0 : wpS Tryz.prog (callFunc 32 args) H K E = K (.enter 32 args) H := Aqg Tryz.func32 (by kernel_rfl) (by kernel_rfl) args K E
theorem Dz1 : wpS Tryz.prog (callFunc 33 args) H K E = K (.enter 33 args) H := Aqg Tryz.func33 (by kernel_rfl) (by kernel_rfl) args K E
theorem Dz2 : wpS Tryz.prog (callFunc 34 args) H K E = K (.enter 34 args) H := Aqg Tryz.func34 (by kernel_rfl) (by kernel_rfl) args K E
theorem Dz3 : wpS Tryz.prog (callFunc 35 args) H K E = K (.enter 35 args) H := Aqg Tryz.func35 (by kernel_rfl) (by kernel_rfl) args K E
theorem Cvg : wpS Tryz.prog (callFunc 36 args) H K E = K (.enter 36 args) H := Aqg Tryz.func36 (by kernel_rfl) (by kernel_rfl) args K E
theorem Dz4 : wpS Tryz.prog (callFunc 37 args) H K E = K (.enter 37 args) H := Aqg Tryz.func37 (by kernel_rfl) (by kernel_rfl) args K E
theorem Dz5 : wpS Tryz.prog (callFunc 38 args) H K E = K (.enter 38 args) H := Aqg Tryz.func38 (by kernel_rfl) (by kernel_rfl) args K E
theorem Dz6 : wpS Tryz.prog (callFunc 39 args) H K E = K (.enter 39 args) H := Aqg Tryz.func39 (by kernel_rfl) (by kernel_rfl) args K E
theorem Dz7 : wpS Tryz.prog (callFunc 40 args) H K E = K (.enter 40 args) H := Aqg Tryz.func40 (by kernel_rfl) (by kernel_rfl) args K E
theorem Dz8 : wpS Tryz.prog (callFunc 41 args) H K E = K (.enter 41 args) H := Aqg Tryz.func41 (by kernel_rfl) (by kernel_rfl) args K E
theorem callF42 : wpS Tryz.prog (callFunc 42 args) H K E = K (.enter 42 args) H := Aqg Tryz.func42 (by kernel_rfl) (by kernel_rfl) args K E
theorem Bq4 : wpS Tryz.prog (callFunc 43 args) H K E = K (.enter 43 args) H := Aqg Tryz.func43 (by kernel_rfl) (by kernel_rfl) args K E
theorem Bzm : wpS Tryz.prog (callFunc 44 args) H K E = K (.enter 44 args) H := Aqg Tryz.func44 (by kernel_rfl) (by kernel_rfl) args K E
theorem Dz9 : wpS Tryz.prog (callFunc 45 args) H K E = K (.enter 45 args) H := Aqg Tryz.func45 (by kernel_rfl) (by kernel_rfl) args K E
theorem Bk7 : wpS Tryz.prog (callFunc 46 args) H K E = K (.enter 46 args) H := Aqg Tryz.func46 (by kernel_rfl) (by kernel_rfl) args K E
theorem Cqb : wpS Tryz.prog (callFunc 47 args) H K E = K (.enter 47 args) H := Aqg Tryz.func47 (by kernel_rfl) (by kernel_rfl) args K E
theorem Cvi : wpS Tryz.prog (callFunc 48 args) H K E = K (.enter 48 args) H := Aqg Tryz.func48 (by kernel_rfl) (by kernel_rfl) args K E
theorem Dja : wpS Tryz.prog (callFunc 49 args) H K E = K (.enter 49 args) H := Aqg Tryz.func49 (by kernel_rfl) (by kernel_rfl) args K E
theorem Djb : wpS Tryz.prog (callFunc 50 args) H K E = K (.enter 50 args) H := Aqg Tryz.func50 (by kernel_rfl) (by kernel_rfl) args K E
theorem Bk8 : wpS Tryz.prog (callFunc 51 args) H K E = K (.enter 51 args) H := Aqg Tryz.func51 (by kernel_rfl) (by kernel_rfl) args K E
theorem Djc : wpS Tryz.prog (callFunc 52 args) H K E = K (.enter 52 args) H := Aqg Tryz.func52 (by kernel_rfl) (by kernel_rfl) args K E
theorem Djd : wpS Tryz.prog (callFunc 53 args) H K E = K (.enter 53 args) H := Aqg Tryz.func53 (by kernel_rfl) (by kernel_rfl) args K E
theorem Dje : wpS Tryz.prog (callFunc 54 args) H K E = K (.enter 54 args) H := Aqg Tryz.func54 (by kernel_rfl) (by kernel_rfl) args K E
theorem Djf : wpS Tryz.prog (callFunc 56 args) H K E = K (.enter 56 args) H := Aqg Tryz.func56 (by kernel_rfl) (by kernel_rfl) args K E
theorem Djg : wpS Tryz.prog (callFunc 57 args) H K E = K (.enter 57 args) H := Aqg Tryz.func57 (by kernel_rfl) (by kernel_rfl) args K E
theorem Cvj : wpS Tryz.prog (callFunc 58 args) H K E = K (.enter 58 args) H := Aqg Tryz.func58 (by kernel_rfl) (by kernel_rfl) args K E
theorem Ayo : wpS Tryz.prog (callFunc 59 args) H K E = K (.enter 59 args) H := Aqg Tryz.func59 (by kernel_rfl) (by kernel_rfl) args K E
theorem Cqc : wpS Tryz.prog (callFunc 60 args) H K E = K (.enter 60 args) H := Aqg Tryz.func60 (by kernel_rfl) (by kernel_rfl) args K E
theorem Djh : wpS Tryz.prog (callFunc 61 args) H K E = K (.enter 61 args) H := Aqg Tryz.func61 (by kernel_rfl) (by kernel_rfl) args K E
theorem Dji : wpS Tryz.prog (callFunc 63 args) H K E = K (.enter 63 args) H := Aqg Tryz.func63 (by kernel_rfl) (by kernel_rfl) args K E
theorem Djj : wpS Tryz.prog (callFunc 65 args) H K E = K (.enter 65 args) H := Aqg Tryz.func65 (by kernel_rfl) (by kernel_rfl) args K E
theorem Djk : wpS Tryz.prog (callFunc 66 args) H K E = K (.enter 66 args) H := Aqg Tryz.func66 (by kernel_rfl) (by kernel_rfl) args K E
theorem Cqd : wpS Tryz.prog (callFunc 67 args) H K E = K (.enter 67 args) H := Aqg Tryz.func67 (by kernel_rfl) (by kernel_rfl) args K E
theorem Cqe : wpS Tryz.prog (callFunc 68 args) H K E = K (.enter 68 args) H := Aqg Tryz.func68 (by kernel_rfl) (by kernel_rfl) args K E
theorem Djl : wpS Tryz.prog (callFunc 69 args) H K E = K (.enter 69 args) H := Aqg Tryz.func69 (by kernel_rfl) (by kernel_rfl) args K E
theorem Djm : wpS Tryz.prog (callFunc 70 args) H K E = K (.enter 70 args) H := Aqg Tryz.func70 (by kernel_rfl) (by kernel_rfl) args K E
theorem Djn : wpS Tryz.prog (callFunc 71 args) H K E = K (.enter 71 args) H := Aqg Tryz.func71 (by kernel_rfl) (by kernel_rfl) args K E
theorem Djo : wpS Tryz.prog (callFunc 72 args) H K E = K (.enter 72 args) H := Aqg Tryz.func72 (by kernel_rfl) (by kernel_rfl) args K E
theorem Djp : wpS Tryz.prog (callFunc 73 args) H K E = K (.enter 73 args) H := Aqg Tryz.func73 (by kernel_rfl) (by kernel_rfl) args K E
theorem Djq : wpS Tryz.prog (callFunc 76 args) H K E = K (.enter 76 args) H := Aqg Tryz.func76 (by kernel_rfl) (by kernel_rfl) args K E
theorem Djr : wpS Tryz.prog (callFunc 78 args) H K E = K (.enter 78 args) H := Aqg Tryz.func78 (by kernel_rfl) (by kernel_rfl) args K E
theorem Djs : wpS Tryz.prog (callFunc 79 args) H K E = K (.enter 79 args) H := Aqg Tryz.func79 (by kernel_rfl) (by kernel_rfl) args K E
theorem Cvk : wpS Tryz.prog (callFunc 98 args) H K E = K (.enter 98 args) H := Aqg Tryz.func98 (by kernel_rfl) (by kernel_rfl) args K E
theorem Cvl : wpS Tryz.prog (callFunc 99 args) H K E = K (.enter 99 args) H := Aqg Tryz.func99 (by kernel_rfl) (by kernel_rfl) args K E
theorem Cy4 : wpS Tryz.prog (callFunc 112 args) H K E = K (.enter 112 args) H := Aqg Tryz.func112 (by kernel_rfl) (by kernel_rfl) args K E
theorem Cx7 : wpS Tryz.prog (callFunc 113 args) H K E = K (.enter 113 args) H := Aqg Tryz.func113 (by kernel_rfl) (by kernel_rfl) args K E
theorem Cy5 : wpS Tryz.prog (callFunc 114 args) H K E = K (.enter 114 args) H := Aqg Tryz.func114 (by kernel_rfl) (by kernel_rfl) args K E
theorem Cy6 : wpS Tryz.prog (callFunc 115 args) H K E = K (.enter 115 args) H := Aqg Tryz.func115 (by kernel_rfl) (by kernel_rfl) args K E
theorem Cy7 : wpS Tryz.prog (callFunc 150 args) H K E = K (.enter 150 args) H := Aqg Tryz.func150 (by kernel_rfl) (by kernel_rfl) args K E
theorem Cy8 : wpS Tryz.prog (callFunc 151 args) H K E = K (.enter 151 args) H := Aqg Tryz.func151 (by kernel_rfl) (by kernel_rfl) args K E
def xq := And.intro @Nat.zero_add (And.intro @Nat.add_zero (And.intro @Bool.true_or (And.intro @true_and (And.intro @eval_const (And.intro @eval_func (And.intro @Axb (And.intro @Aq3 (And.intro @Aqm (And.intro @Axn (And.intro @Aqe (And.intro @Dxb (And.intro @Cwm (And.intro @Cj7 (And.intro @Cj9 (And.intro @Bj8 (And.intro @Dzc (And.intro @Dzp (And.intro @Dzj (And.intro @Dzm (And.intro @Dzl (And.intro @Dzd (And.intro @Dk0 (And.intro @Dzq (And.intro @Cjc (And.intro @Dzn (And.intro @Dzo (And.intro @Dze (And.intro @Dzk (And.intro @Dzi (And.intro @Dzh (And.intro @Dzg (And.intro @Dzf (And.intro @Djv (And.intro @Dv4 (And.intro @Dv3 (And.intro @w64 (And.intro @Ake (And.intro @act_get? (And.intro @Bool.false_eq_true (And.intro @Bool.true_eq_false (And.intro @Dxp (And.intro @Cq1 (And.intro @Dvq (And.intro @Cxo (And.intro @Ckq (And.intro @Akb (And.intro @Cq3 (And.intro @Cjn (And.intro @Cjm (And.intro @Cvt (And.intro @Aq9 (And.intro @Cyt (And.intro @Bva (And.intro @Bvx (And.intro @Axk (And.intro @Cya (And.intro @Bz1 (And.intro @Bool.and_true (And.intro @Bool.and_self (And.intro @Dq6 (And.intro @Cwh (And.intro @Cj1 (And.intro @Cvn (And.intro @Cjh (And.intro @Cqh (And.intro @Bvb (And.intro @Cvo (And.intro @Cqg (And.intro @Bwo (And.intro @and_true (And.intro @Nat.le_refl (And.intro @Cv2 (And.intro @Dqi @Azt)))))))))))))))))))))))))))))))))))))))))))))))))))))))))))))))))))))))))
def xp := And.intro @Djz (And.intro @Cvx (And.intro @Dj0 (And.intro @Dvf (And.intro @Djy (And.intro @Dqu (And.intro @Bwu (And.intro @Dqn (And.intro @Bwv (And.intro @Dqo (And.intro @Cjr (And.intro @Dvh (And.intro @Dve (And.intro @Dwk (And.intro @Cjp (And.intro @Bxz (And.intro @Ayq (And.intro @Dqt (And.intro @Bww (And.intro @Dqj (And.intro @Bvg (And.intro @Cvz (And.intro @Bwx (And.intro @Bvi (And.intro @Cjo (And.intro @Dqk (And.intro @Dql (And.intro @Cxq (And.intro @Cxr @Cjs))))))))))))))))))))))))))))
def qc := And.intro @List.size_toArray.{0} (And.intro @List.length_cons.{0} (And.intro @List.length_nil.{0} (And.intro @List.getElem?_toArray.{0} (And.intro @List.getElem?_cons_zero.{0} (And.intro @List.getElem?_cons_succ.{0} (And.intro @Option.isNone_none.{0} (And.intro @List.map_toArray.{0,0} (And.intro @List.map_cons.{0,0} (And.intro @List.map_nil.{0,0} (And.intro @Option.bind_some.{0,0} (And.intro @beq_iff_eq.{0} (And.intro @Option.some.injEq.{0} (And.intro @List.setIfInBounds_toArray.{0} (And.intro @List.set_cons_succ.{0} (And.intro @List.set_cons_zero.{0} (And.intro @List.extract_toArray.{0} (And.intro @List.extract_eq_take_drop.{0} (And.intro @List.take_succ_cons.{0} (And.intro @List.take_zero.{0} (And.intro @List.drop_succ_cons.{0} (And.intro @List.drop_zero.{0} (And.intro @List.take_nil.{0} (And.intro @List.drop_nil.{0} (And.intro @List.cons_append.{0} (And.intro @List.nil_append.{0} (And.intro @List.append_assoc.{0} (And.intro @List.append_nil.{0} (And.intro @List.all_cons.{0} (And.intro @List.all_nil.{0} (And.intro @List.toList_toArray.{0} (And.intro @Option.map_none.{0,0} @Option.map_some.{0,0})))))))))))))))))))))))))))))))
def qd := And.intro @List.length_cons.{0} @List.length_nil.{0}
end Go.Proofs.YtnfnaehonkbknaaGreatDoor
end
section
namespace Go.X
structure Hid (q : Prop) : Prop where
 out : q
theorem unH {q : Prop} (h : Hid q) : q := h.out
structure Dkq (p : Prop) : Prop where
 out : p
structure Dkp (p : Prop) : Prop where
 out : p
theorem inK {p : Prop} (h : p) : Dkq p := ⟨h⟩
theorem unK {p : Prop} (h : Dkq p) : p := h.out
theorem inC {p : Prop} (h : p) : Dkp p := ⟨h⟩
theorem unC {p : Prop} (h : Dkp p) : p := h.out
def Aqk (p : Prop) : Prop := p
theorem zA {Y p q : Prop} (y : Y) (g : q) (h : Hid Y -> Hid q -> p := by
 intro yy g
 repeat' (first
 | (refine Ax9 rfl ?_; intro Kz hKz; simp -implicitDefEqProofs (disch := first | omega | (simp only [qd] <;> omega)) only [xq, ↓xp, qc, Nat.reduceAdd, List.range, List.range.loop, fine, Nat.reduceEqDiff, ↓reduceIte, yielded, reduceCtorEq, Nat.reduceLT, Nat.reduceMul, Nat.reduceSub, one, Nat.reduceLeDiff, Aqj, yy.out, aq, ↓ap, qe0, qe1, qe2, *, -g, -yy, -hKz]; try (refine hKz _ _ ?_; clear hKz Kz))
 | (refine Aju rfl ?_; intro Kz hKz; simp -implicitDefEqProofs (disch := first | omega | (simp only [qd] <;> omega)) only [xq, ↓xp, qc, Nat.reduceAdd, List.range, List.range.loop, fine, Nat.reduceEqDiff, ↓reduceIte, yielded, reduceCtorEq, Nat.reduceLT, Nat.reduceMul, Nat.reduceSub, one, Nat.reduceLeDiff, Aqj, yy.out, aq, ↓ap, qe0, qe1, qe2, *, -g, -yy, -hKz]; try (refine hKz _ _ ?_; clear hKz Kz; (try simp only [nq, ↓reduceIte, Nat.reduceEqDiff])))
 | (refine Az8 ?_; (try simp only [nq, ↓reduceIte, Nat.reduceEqDiff]))
 | (refine Aje ?_; (try simp only [nq, ↓reduceIte, Nat.reduceEqDiff]))
 | (refine Aj7 ?_; (try simp only [nq, ↓reduceIte, Nat.reduceEqDiff]))
 | (refine Akm ?_; (try simp only [nq, ↓reduceIte, Nat.reduceEqDiff]))
 | (refine Ajt (by simp only [Axb, Axn, Nat.reduceEqDiff, Nat.reduceLT, ↓reduceIte, *, -g, -yy]; rfl) ?_ ?_ <;> (intro hcz; first | (exfalso; simp -implicitDefEqProofs (disch := omega) only [*, -g, -yy, bq, reduceCtorEq] at hcz; done) | (simp only [dq, qe3, qe4, qe5, qe6] at hcz) | skip))
 | (refine Ajm ?_)
 | (refine Azj ?_)
 | (refine Axs ?_))
 (try (revert Kz; refine unK ?_)); (repeat (revert hcz; refine unC ?_))
 exact Hid.out g) : Hid p := ⟨h ⟨y⟩ ⟨g⟩⟩
theorem zS {Y p q : Prop} (y : Y) (g : q) (h : Hid Y -> Hid q -> p := by
 intro yy g
 repeat' (first
 | (refine Ax9 rfl ?_; intro Kz hKz; simp -implicitDefEqProofs (disch := first | omega | (simp only [qd] <;> omega)) only [xq, ↓xp, qc, Nat.reduceAdd, List.range, List.range.loop, fine, Nat.reduceEqDiff, ↓reduceIte, yielded, reduceCtorEq, Nat.reduceLT, Nat.reduceMul, Nat.reduceSub, one, Nat.reduceLeDiff, Aqj, yy.out, aq, ↓ap, qe0, qe1, qe2, *, -g, -yy, -hKz]; try (refine hKz _ _ ?_; clear hKz Kz))
 | (refine Aju rfl ?_; intro Kz hKz; simp -implicitDefEqProofs (disch := first | omega | (simp only [qd] <;> omega)) only [xq, ↓xp, qc, Nat.reduceAdd, List.range, List.range.loop, fine, Nat.reduceEqDiff, ↓reduceIte, yielded, reduceCtorEq, Nat.reduceLT, Nat.reduceMul, Nat.reduceSub, one, Nat.reduceLeDiff, Aqj, yy.out, aq, ↓ap, qe0, qe1, qe2, *, -g, -yy, -hKz]; try (refine hKz _ _ ?_; clear hKz Kz; (try simp only [nq, ↓reduceIte, Nat.reduceEqDiff])))
 | (refine Az8 ?_; (try simp only [nq, ↓reduceIte, Nat.reduceEqDiff]))
 | (refine Aje ?_; (try simp only [nq, ↓reduceIte, Nat.reduceEqDiff]))
 | (refine Aj7 ?_; (try simp only [nq, ↓reduceIte, Nat.reduceEqDiff]))
 | (refine Akm ?_; (try simp only [nq, ↓reduceIte, Nat.reduceEqDiff]))
 | (refine Ajt (by simp only [Axb, Axn, Nat.reduceEqDiff, Nat.reduceLT, ↓reduceIte, *, -g, -yy]; rfl) ?_ ?_ <;> (intro hcz; first | (exfalso; simp -implicitDefEqProofs (disch := omega) only [*, -g, -yy, bq, reduceCtorEq] at hcz; done) | (simp only [dq, qe3, qe4, qe5, qe6] at hcz) | skip)))
 (try (revert Kz; refine unK ?_)); (repeat (revert hcz; refine unC ?_))
 exact Hid.out g) : Hid p := ⟨h ⟨y⟩ ⟨g⟩⟩
theorem zX {Y p q : Prop} (y : Y) (g : q) (h : Hid Y -> Hid q -> p := by
 intro yy g
 simp -implicitDefEqProofs (disch := first | omega | (simp only [qd] <;> omega)) only [xq, ↓xp, qc, Nat.reduceAdd, List.range, List.range.loop, fine, Nat.reduceEqDiff, ↓reduceIte, yielded, reduceCtorEq, Nat.reduceLT, Nat.reduceMul, Nat.reduceSub, one, Nat.reduceLeDiff, Aqj, yy.out, aq, ↓ap, qe0, qe1, qe2, *, -g, -yy, -hK]
 exact Hid.out g) : Hid p := ⟨h ⟨y⟩ ⟨g⟩⟩
theorem zAi {Y p q : Prop} (y : Y) (g : q) (h : Hid Y -> Hid q -> p := by
 intro yy g
 repeat' (first
 | (refine Ax9 rfl ?_; intro Kz hKz; simp -implicitDefEqProofs (disch := first | omega | (simp only [qd] <;> omega)) only [xq, ↓xp, qc, Nat.reduceAdd, List.range, List.range.loop, fine, Nat.reduceEqDiff, ↓reduceIte, yielded, reduceCtorEq, Nat.reduceLT, Nat.reduceMul, Nat.reduceSub, one, Nat.reduceLeDiff, Aqj, yy.out, ↓Bql, aq, ↓ap, qe0, qe1, qe2, *, -g, -yy, -hKz]; try (refine hKz _ _ ?_; clear hKz Kz))
 | (refine Aju rfl ?_; intro Kz hKz; simp -implicitDefEqProofs (disch := first | omega | (simp only [qd] <;> omega)) only [xq, ↓xp, qc, Nat.reduceAdd, List.range, List.range.loop, fine, Nat.reduceEqDiff, ↓reduceIte, yielded, reduceCtorEq, Nat.reduceLT, Nat.reduceMul, Nat.reduceSub, one, Nat.reduceLeDiff, Aqj, yy.out, ↓Bql, aq, ↓ap, qe0, qe1, qe2, *, -g, -yy, -hKz]; try (refine hKz _ _ ?_; clear hKz Kz; (try simp only [nq, ↓reduceIte, Nat.reduceEqDiff])))
 | (refine Az8 ?_; (try simp only [nq, ↓reduceIte, Nat.reduceEqDiff]))
 | (refine Aje ?_; (try simp only [nq, ↓reduceIte, Nat.reduceEqDiff]))
 | (refine Aj7 ?_; (try simp only [nq, ↓reduceIte, Nat.reduceEqDiff]))
 | (refine Akm ?_; (try simp only [nq, ↓reduceIte, Nat.reduceEqDiff]))
 | (refine Ajt (by simp only [Axb, Axn, Nat.reduceEqDiff, Nat.reduceLT, ↓reduceIte, *, -g, -yy]; rfl) ?_ ?_ <;> (intro hcz; first | (exfalso; simp -implicitDefEqProofs (disch := omega) only [*, -g, -yy, bq, reduceCtorEq] at hcz; done) | (simp only [dq, qe3, qe4, qe5, qe6] at hcz) | skip))
 | (refine Ajm ?_)
 | (refine Azj ?_)
 | (refine Axs ?_))
 (try (revert Kz; refine unK ?_)); (repeat (revert hcz; refine unC ?_))
 exact Hid.out g) : Hid p := ⟨h ⟨y⟩ ⟨g⟩⟩
theorem zXi {Y p q : Prop} (y : Y) (g : q) (h : Hid Y -> Hid q -> p := by
 intro yy g
 simp -implicitDefEqProofs (disch := first | omega | (simp only [qd] <;> omega)) only [xq, ↓xp, qc, Nat.reduceAdd, List.range, List.range.loop, fine, Nat.reduceEqDiff, ↓reduceIte, yielded, reduceCtorEq, Nat.reduceLT, Nat.reduceMul, Nat.reduceSub, one, Nat.reduceLeDiff, Aqj, yy.out, ↓Bql, aq, ↓ap, qe0, qe1, qe2, *, -g, -yy, -hK]
 exact Hid.out g) : Hid p := ⟨h ⟨y⟩ ⟨g⟩⟩
theorem zQ {p q : Prop} (g : q) (h : Hid q -> p := by
 intro g
 simp only [nq, ↓reduceIte, Nat.reduceEqDiff]
 exact Hid.out g) : Hid p := ⟨h ⟨g⟩⟩
theorem z0 {Y p q : Prop} (y : Y) (g : q) (h : Hid Y -> Hid q -> p := by
 intro yy g
 simp -implicitDefEqProofs (disch := first | omega | (simp only [qd] <;> omega)) only [xq, ↓xp, qc, Nat.reduceAdd, List.range, List.range.loop, fine, Nat.reduceEqDiff, ↓reduceIte, yielded, reduceCtorEq, Nat.reduceLT, Nat.reduceMul, Nat.reduceSub, one, Nat.reduceLeDiff, Aqj, yy.out]
 exact Hid.out g) : Hid p := ⟨h ⟨y⟩ ⟨g⟩⟩
theorem z1 {Y p q : Prop} (y : Y) (g : q) (h : Hid Y -> Hid q -> p := by
 intro yy g
 (refine Ayc ?_; intro K hK; simp -implicitDefEqProofs (disch := first | omega | (simp only [qd] <;> omega)) only [xq, ↓xp, qc, Nat.reduceAdd, List.range, List.range.loop, fine, Nat.reduceEqDiff, ↓reduceIte, yielded, reduceCtorEq, Nat.reduceLT, Nat.reduceMul, Nat.reduceSub, one, Nat.reduceLeDiff, Aqj, yy.out]; refine hK _ _ ?_; clear hK K)
 exact Hid.out g) : Hid p := ⟨h ⟨y⟩ ⟨g⟩⟩
theorem z2 {Y p q : Prop} (y : Y) (g : q) (h : Hid Y -> Hid q -> p := by
 intro yy g
 (refine Bzf ?_; intro K hK; simp -implicitDefEqProofs (disch := first | omega | (simp only [qd] <;> omega)) only [xq, ↓xp, qc, Nat.reduceAdd, List.range, List.range.loop, fine, Nat.reduceEqDiff, ↓reduceIte, yielded, reduceCtorEq, Nat.reduceLT, Nat.reduceMul, Nat.reduceSub, one, Nat.reduceLeDiff, Aqj, yy.out]; refine hK _ _ ?_; clear hK K)
 exact Hid.out g) : Hid p := ⟨h ⟨y⟩ ⟨g⟩⟩
theorem z3 {Y p q : Prop} (y : Y) (g : q) (h : Hid Y -> Hid q -> p := by
 intro yy g
 (apply Aku rfl rfl rfl; (focus (simp -implicitDefEqProofs (disch := first | omega | (simp only [qd] <;> omega)) only [xq, ↓xp, qc, Nat.reduceAdd, List.range, List.range.loop, fine, Nat.reduceEqDiff, ↓reduceIte, yielded, reduceCtorEq, Nat.reduceLT, Nat.reduceMul, Nat.reduceSub, one, Nat.reduceLeDiff, Aqj, yy.out, aq, ↓ap, qe0, qe1, qe2, *, -g, -yy, -hK, Aq9] <;> (first | exact rfl | exact ⟨rfl, rfl⟩ | exact ⟨rfl, trivial⟩))); simp -implicitDefEqProofs (disch := first | omega | (simp only [qd] <;> omega)) only [Aq3, Aqm])
 exact Hid.out g) : Hid p := ⟨h ⟨y⟩ ⟨g⟩⟩
theorem z3i {Y p q : Prop} (y : Y) (g : q) (h : Hid Y -> Hid q -> p := by
 intro yy g
 (apply Aku rfl rfl rfl; (focus (simp -implicitDefEqProofs (disch := first | omega | (simp only [qd] <;> omega)) only [xq, ↓xp, qc, Nat.reduceAdd, List.range, List.range.loop, fine, Nat.reduceEqDiff, ↓reduceIte, yielded, reduceCtorEq, Nat.reduceLT, Nat.reduceMul, Nat.reduceSub, one, Nat.reduceLeDiff, Aqj, yy.out, ↓Bql, aq, ↓ap, qe0, qe1, qe2, *, -g, -yy, -hK, Aq9] <;> (first | exact rfl | exact ⟨rfl, rfl⟩ | exact ⟨rfl, trivial⟩))); simp -implicitDefEqProofs (disch := first | omega | (simp only [qd] <;> omega)) only [Aq3, Aqm])
 exact Hid.out g) : Hid p := ⟨h ⟨y⟩ ⟨g⟩⟩
theorem z7 {Y p q : Prop} (y : Y) (g : q) (h : Hid Y -> Hid q -> p := by
 intro yy g
 simp -implicitDefEqProofs (disch := first | omega | (simp only [qd] <;> omega)) only [xq, ↓xp, qc, Nat.reduceAdd, List.range, List.range.loop, fine, Nat.reduceEqDiff, ↓reduceIte, yielded, reduceCtorEq, Nat.reduceLT, Nat.reduceMul, Nat.reduceSub, one, Nat.reduceLeDiff, Aqj, yy.out, aq, ↓ap, qe0, qe1, qe2, *, -g, -yy]
 exact Hid.out g) : Hid p := ⟨h ⟨y⟩ ⟨g⟩⟩
theorem z8 {Y p q : Prop} (y : Y) (g : q) (h : Hid Y -> Hid q -> p := by
 intro yy g
 (refine Ayc ?_; intro Kz hKz; simp -implicitDefEqProofs (disch := first | omega | (simp only [qd] <;> omega)) only [xq, ↓xp, qc, Nat.reduceAdd, List.range, List.range.loop, fine, Nat.reduceEqDiff, ↓reduceIte, yielded, reduceCtorEq, Nat.reduceLT, Nat.reduceMul, Nat.reduceSub, one, Nat.reduceLeDiff, Aqj, yy.out])
 (try (revert Kz; refine unK ?_)); (repeat (revert hcz; refine unC ?_))
 exact Hid.out g) : Hid p := ⟨h ⟨y⟩ ⟨g⟩⟩
theorem z9 {Y p q : Prop} (y : Y) (g : q) (h : Hid Y -> Hid q -> p := by
 intro yy g
 (refine Axr ?_; (try simp only [nq, ↓reduceIte, Nat.reduceEqDiff]); rw [Aq7, Ay1 yy.out (by decide)]; simp only [Axn, Nat.reduceEqDiff, ↓reduceIte])
 exact Hid.out g) : Hid p := ⟨h ⟨y⟩ ⟨g⟩⟩
theorem zB {Y p q : Prop} (y : Y) (g : q) (h : Hid Y -> Hid q -> p := by
 intro yy g
 (refine Axr ?_; (try simp only [nq, ↓reduceIte, Nat.reduceEqDiff]); rw [Aq7, Cq7 yy.out (by decide) (by decide)]; simp only [Axn, Nat.reduceEqDiff, ↓reduceIte])
 exact Hid.out g) : Hid p := ⟨h ⟨y⟩ ⟨g⟩⟩
theorem zC {Y p q : Prop} (y : Y) (g : q) (h : Hid Y -> Hid q -> p := by
 intro yy g
 (refine Axr ?_; (try simp only [nq, ↓reduceIte, Nat.reduceEqDiff]); rw [Aq7, Bvs yy.out (by decide) (by decide) (by decide)]; simp only [Axn, Nat.reduceEqDiff, ↓reduceIte])
 exact Hid.out g) : Hid p := ⟨h ⟨y⟩ ⟨g⟩⟩
theorem zD {Y p q : Prop} (y : Y) (g : q) (h : Hid Y -> Hid q -> p := by
 intro yy g
 ((try simp only [nq, ↓reduceIte, Nat.reduceEqDiff]); rw [Bwn, Awn yy.out])
 exact Hid.out g) : Hid p := ⟨h ⟨y⟩ ⟨g⟩⟩
theorem zI {Y p q : Prop} (y : Y) (g : q) (h : Hid Y -> Hid q -> p := by
 intro yy g
 (apply Bxb rfl rfl rfl; (focus (intro HX; simp -implicitDefEqProofs (disch := first | omega | (simp only [qd] <;> omega)) only [xq, ↓xp, qc, Nat.reduceAdd, List.range, List.range.loop, fine, Nat.reduceEqDiff, ↓reduceIte, yielded, reduceCtorEq, Nat.reduceLT, Nat.reduceMul, Nat.reduceSub, one, Nat.reduceLeDiff, Aqj, yy.out, aq, ↓ap, qe0, qe1, qe2, *, -g, -yy, -hK, Aq9] <;> (first | exact rfl | exact ⟨rfl, rfl⟩ | exact ⟨rfl, trivial⟩))); simp -implicitDefEqProofs (disch := first | omega | (simp only [qd] <;> omega)) only [Aq3, Aqm])
 exact Hid.out g) : Hid p := ⟨h ⟨y⟩ ⟨g⟩⟩
theorem zJ {Y p q : Prop} (y : Y) (g : q) (h : Hid Y -> Hid q -> p := by
 intro yy g
 (apply Axd rfl rfl rfl ‹_›; (focus (intro HX hHX; simp -implicitDefEqProofs (disch := first | omega | (simp only [qd] <;> omega)) only [xq, ↓xp, qc, Nat.reduceAdd, List.range, List.range.loop, fine, Nat.reduceEqDiff, ↓reduceIte, yielded, reduceCtorEq, Nat.reduceLT, Nat.reduceMul, Nat.reduceSub, one, Nat.reduceLeDiff, Aqj, yy.out, aq, ↓ap, qe0, qe1, qe2, *, -g, -yy, -hK, Aq9] <;> (first | exact rfl | exact ⟨rfl, rfl⟩ | exact ⟨rfl, trivial⟩))); simp -implicitDefEqProofs (disch := first | omega | (simp only [qd] <;> omega)) only [Aq3, Aqm])
 exact Hid.out g) : Hid p := ⟨h ⟨y⟩ ⟨g⟩⟩
theorem zF {Y p q : Prop} (y : Y) (g : q) (h : Hid Y -> Hid q -> p := by
 intro yy g
 (apply Ckc hOz rfl rfl; (focus (intro HX; simp -implicitDefEqProofs (disch := first | omega | (simp only [qd] <;> omega)) only [xq, ↓xp, qc, Nat.reduceAdd, List.range, List.range.loop, fine, Nat.reduceEqDiff, ↓reduceIte, yielded, reduceCtorEq, Nat.reduceLT, Nat.reduceMul, Nat.reduceSub, one, Nat.reduceLeDiff, Aqj, yy.out, aq, ↓ap, qe0, qe1, qe2, *, -g, -yy, -hK, Aq9] <;> (first | exact rfl | exact ⟨rfl, rfl⟩ | exact ⟨rfl, trivial⟩))); simp -implicitDefEqProofs (disch := first | omega | (simp only [qd] <;> omega)) only [Aq3, Aqm])
 exact Hid.out g) : Hid p := ⟨h ⟨y⟩ ⟨g⟩⟩
theorem zG {Y p q : Prop} (y : Y) (g : q) (h : Hid Y -> Hid q -> p := by
 intro yy g
 (apply Cq5 hOz rfl rfl rfl rfl (by simp -implicitDefEqProofs (disch := omega) only [act_get?, Axn, Nat.reduceEqDiff, ↓reduceIte, beq_self_eq_true, Bool.and_self, *, -g, -yy]); (focus (intro HX; simp -implicitDefEqProofs (disch := first | omega | (simp only [qd] <;> omega)) only [xq, ↓xp, qc, Nat.reduceAdd, List.range, List.range.loop, fine, Nat.reduceEqDiff, ↓reduceIte, yielded, reduceCtorEq, Nat.reduceLT, Nat.reduceMul, Nat.reduceSub, one, Nat.reduceLeDiff, Aqj, yy.out, aq, ↓ap, qe0, qe1, qe2, *, -g, -yy, -hK, Aq9] <;> (first | exact rfl | exact ⟨rfl, rfl⟩ | exact ⟨rfl, trivial⟩))); simp -implicitDefEqProofs (disch := first | omega | (simp only [qd] <;> omega)) only [Aq3, Aqm])
 exact Hid.out g) : Hid p := ⟨h ⟨y⟩ ⟨g⟩⟩
theorem zK {Y p q : Prop} (y : Y) (g : q) (h : Hid Y -> Hid q -> p := by
 intro yy g
 (apply Bkm hOz rfl rfl ‹_›; (focus (intro HX hHX; simp -implicitDefEqProofs (disch := first | omega | (simp only [qd] <;> omega)) only [xq, ↓xp, qc, Nat.reduceAdd, List.range, List.range.loop, fine, Nat.reduceEqDiff, ↓reduceIte, yielded, reduceCtorEq, Nat.reduceLT, Nat.reduceMul, Nat.reduceSub, one, Nat.reduceLeDiff, Aqj, yy.out, aq, ↓ap, qe0, qe1, qe2, *, -g, -yy, -hK, Aq9] <;> (first | exact rfl | exact ⟨rfl, rfl⟩ | exact ⟨rfl, trivial⟩))); simp -implicitDefEqProofs (disch := first | omega | (simp only [qd] <;> omega)) only [Aq3, Aqm])
 exact Hid.out g) : Hid p := ⟨h ⟨y⟩ ⟨g⟩⟩
theorem zL {Y p q : Prop} (y : Y) (g : q) (h : Hid Y -> Hid q -> p := by
 intro yy g
 (apply Bkm hOz rfl rfl (by rfl); (focus (intro HX hHX; subst hHX; simp -implicitDefEqProofs (disch := first | omega | (simp only [qd] <;> omega)) only [xq, ↓xp, qc, Nat.reduceAdd, List.range, List.range.loop, fine, Nat.reduceEqDiff, ↓reduceIte, yielded, reduceCtorEq, Nat.reduceLT, Nat.reduceMul, Nat.reduceSub, one, Nat.reduceLeDiff, Aqj, yy.out, aq, ↓ap, qe0, qe1, qe2, *, -g, -yy, -hK, Aq9] <;> (first | exact rfl | exact ⟨rfl, rfl⟩ | exact ⟨rfl, trivial⟩))); simp -implicitDefEqProofs (disch := first | omega | (simp only [qd] <;> omega)) only [Aq3, Aqm])
 exact Hid.out g) : Hid p := ⟨h ⟨y⟩ ⟨g⟩⟩
theorem zM {Y p q : Prop} (y : Y) (g : q) (h : Hid Y -> Hid q -> p := by
 intro yy g
 (refine Bqw hOz rfl rfl ?_; simp -implicitDefEqProofs (disch := first | omega | (simp only [qd] <;> omega)) only [xq, ↓xp, qc, Nat.reduceAdd, List.range, List.range.loop, fine, Nat.reduceEqDiff, ↓reduceIte, yielded, reduceCtorEq, Nat.reduceLT, Nat.reduceMul, Nat.reduceSub, one, Nat.reduceLeDiff, Aqj, yy.out, aq, ↓ap, qe0, qe1, qe2, *, -g, -yy, -hK])
 exact Hid.out g) : Hid p := ⟨h ⟨y⟩ ⟨g⟩⟩
theorem zN {Y p q : Prop} (y : Y) (g : q) (h : Hid Y -> Hid q -> p := by
 intro yy g
 (refine Ckd hOz rfl rfl rfl rfl (by simp -implicitDefEqProofs (disch := omega) only [act_get?, Axn, Nat.reduceEqDiff, ↓reduceIte, beq_self_eq_true, Bool.and_self, *, -g, -yy]) ?_; simp -implicitDefEqProofs (disch := first | omega | (simp only [qd] <;> omega)) only [xq, ↓xp, qc, Nat.reduceAdd, List.range, List.range.loop, fine, Nat.reduceEqDiff, ↓reduceIte, yielded, reduceCtorEq, Nat.reduceLT, Nat.reduceMul, Nat.reduceSub, one, Nat.reduceLeDiff, Aqj, yy.out, aq, ↓ap, qe0, qe1, qe2, *, -g, -yy, -hK])
 exact Hid.out g) : Hid p := ⟨h ⟨y⟩ ⟨g⟩⟩
end Go.X
end
section
namespace Go.Proofs.YtnfnaehonkbknaaGreatDoor
open Go Go.X
def Bkw := And.intro @Djb (And.intro (fun H => Bvc (H := H) Tryz.underlying3 Tryz.underlying78) (fun H => Bvc (H := H) Tryz.underlying78 Tryz.underlying3))
def Cyp := @Bq3
def Cyq := @Bq3
def Ayl := And.intro (fun H => Aqd (H := H) Tryz.underlying80 (i := 1) rfl (off := 1) rfl Tryz.sizeOf3) (And.intro (fun H => Aqf (H := H) Tryz.underlying3 rfl) (And.intro (fun H => Bvc (H := H) Tryz.underlying3 Tryz.underlying78) (And.intro (fun H => Aqd (H := H) Tryz.underlying80 (i := 0) rfl (off := 0) rfl Tryz.sizeOf22) (And.intro (fun H => Aqf (H := H) Tryz.underlying22 rfl) (And.intro (fun H => Aq8 (H := H) Tryz.underlying22) (And.intro (fun H => Aqu (H := H) Tryz.underlying22 Tryz.sizeOf3) (And.intro (fun H => Axh (H := H) Tryz.sizeOf3) (And.intro (fun H => Aqd (H := H) Tryz.underlying80 (i := 2) rfl (off := 2) rfl Tryz.sizeOf78) (And.intro (fun H => Aqf (H := H) Tryz.underlying78 rfl) (fun H => Axh (H := H) Tryz.sizeOf78))))))))))
def TinI (H : Hp) (b k : Nat) : Prop :=
 ∃ (sa : Option Addr) (sl sc : Nat) (g st : Int), H b = some (true, .cells #[.slice sa sl sc, .int .i64 g, .int .u64 st] 80 (0, 0)) /\ 0 <= g /\ g + k <= 4611686018427387904 /\
  ∀ i : Nat, i < sl -> ∃ sb so c e fr x, sa = some ⟨sb, so, none⟩ /\ H sb = some (false, .cells c e fr) /\ c[so + i]? = some (.int .i64 x)
theorem TinI.new {H : Hp} {b k b2 : Nat} {o : Obj} (h : TinI H b k) (hb : H b2 = none) : TinI (H.set b2 o) b k := by
 obtain ⟨sa, sl, sc, g, st, h1, h2, h3, h4⟩ := h
 refine ⟨sa, sl, sc, g, st, Hp.le_set hb _ _ h1, h2, h3, fun i hi => ?_⟩
 obtain ⟨sb, so, c, e, fr, x, ha, hs, hx⟩ := h4 i hi
 exact ⟨sb, so, c, e, fr, x, ha, Hp.le_set hb _ _ hs, hx⟩
theorem TinI.own {H : Hp} {b k b2 : Nat} {o o' : Obj} (h : TinI H b k) (hb : H b2 = some (true, o)) (hn : b ≠ b2) : TinI (H.set b2 o') b k := by
 obtain ⟨sa, sl, sc, g, st, h1, h2, h3, h4⟩ := h
 refine ⟨sa, sl, sc, g, st, by rw [Axw, if_neg hn]; exact h1, h2, h3, fun i hi => ?_⟩
 obtain ⟨sb, so, c, e, fr, x, ha, hs, hx⟩ := h4 i hi
 exact ⟨sb, so, c, e, fr, x, ha, by rw [Axw, if_neg (fun e => by subst e; rw [hb] at hs; cases hs)]; exact hs, hx⟩
theorem TinI.less {H : Hp} {b k k' : Nat} (h : TinI H b k) (hk : k' <= k) : TinI H b k' := by
 obtain ⟨sa, sl, sc, g, st, h1, h2, h3, h4⟩ := h
 exact ⟨sa, sl, sc, g, st, h1, h2, by omega, h4⟩
theorem Cyf (n : Int) : 0 <= IntKind.u64.wrap n /\ IntKind.u64.wrap n < 18446744073709551616 := by
 unfold IntKind.wrap
 simp only [IntKind.bits, IntKind.signed, Bool.false_and, Bool.false_eq_true, if_false]
 omega
theorem shr9 (x : Int) (h : 0 <= x) (h' : x < 18446744073709551616) : 0 <= x.fdiv (2 ^ (min (9 : Int).toNat IntKind.u64.bits)) /\ x.fdiv (2 ^ (min (9 : Int).toNat IntKind.u64.bits)) < 36028797018963968 := by
 have e : (2 : Int) ^ (min (9 : Int).toNat IntKind.u64.bits) = 512 := rfl
 rw [e, Int.fdiv_eq_ediv_of_nonneg _ (by omega)]
 omega
theorem Bx4 (f : (n : Nat) -> BitVec n -> BitVec n -> BitVec n) (x y : Int) : 0 <= bitv f .u64 x y /\ bitv f .u64 x y < 18446744073709551616 := Cyf _
theorem Cwl (m : Md) (H : Hp) (b k : Nat) (hT : TinI H b (k + 1)) :
  FnX Tryz.prog m 50 #[.pointer (some ⟨b, 0, none⟩)] H fun e H' => ∃ v : Int, 0 <= v /\ v < 36028797018963968 /\ e = .returned (.int .u64 v) /\ ∃ o, H' = H.set b o /\ TinI H' b k := by
 obtain ⟨sa, sl, sc, g, st, hb, hg, hg', hs⟩ := hT
 refine Aqo Tryz.func50 rfl Tryz.ntmps50 (by simp) ?_
 (refine @unH _ ?_; refine z1 Ayl ?_)
 (refine Ayc ?_; intro K hK; simp -implicitDefEqProofs (disch := first | omega | (simp only [qd] <;> omega)) only [xq, ↓xp, qc, Nat.reduceAdd, List.range, List.range.loop, fine, Nat.reduceEqDiff, ↓reduceIte, yielded, reduceCtorEq, Nat.reduceLT, Nat.reduceMul, Nat.reduceSub, one, Nat.reduceLeDiff, Aqj, Ayl, cell_of hb, exists_eq_left']; refine hK _ _ ?_; clear hK K)
 refine Av2 (fun a' H' => ∃ e x, a' = act 76 e [] /\ H' = H /\ e 0 = .pointer (some ⟨b, 0, none⟩) /\ e 3 = .int .u64 x) ?_ ?_
 ·refine Cz3 10 [(true, 0), (true, 1), (true, 2), (true, 3), (true, 4), (true, 5), (true, 6), (true, 7), (true, 8), (true, 9)] (by kernel_rfl) (by kernel_rfl) (by simp) (by kernel_rfl) ?_; intro K hK
  iterate 10 (apply Aku rfl rfl rfl; (focus (simp -implicitDefEqProofs (disch := first | omega | (simp only [qd] <;> omega)) only [xq, ↓xp, qc, Nat.reduceAdd, List.range, List.range.loop, fine, Nat.reduceEqDiff, ↓reduceIte, yielded, reduceCtorEq, Nat.reduceLT, Nat.reduceMul, Nat.reduceSub, one, Nat.reduceLeDiff, Aqj, Ayl, cell_of hb, exists_eq_left', and_true, true_and] <;> (first | exact rfl | exact ⟨rfl, rfl⟩))); simp -implicitDefEqProofs (disch := first | omega | (simp only [qd] <;> omega)) only [Aq3, Aqm])
  refine Ak8 (hK _ _ ?_); clear hK K
  refine Av1 (by simp -implicitDefEqProofs (disch := first | omega | (simp only [qd] <;> omega)) only [Axb, Axn, Nat.reduceEqDiff, ↓reduceIte]; rfl) ?_
  by_cases hlt : g < sl
  ·simp only [hlt, decide_true, if_true]
   obtain ⟨sb, so, c, e, fr, x, rfl, hsb, hcx⟩ := hs g.toNat (by omega)
   have hcx' : c[so + g.toNat * 1]? = some (.int .i64 x) := by simpa using hcx
   refine Akl 15 [(true, 0), (true, 1), (true, 2), (true, 3), (true, 4), (true, 5), (true, 6), (true, 7), (true, 8), (true, 9), (true, 10), (true, 11), (true, 12), (true, 13), (true, 14)] (by kernel_rfl) (by kernel_rfl) (by simp) (by kernel_rfl) ?_; intro K hK
   iterate 15 (apply Aku rfl rfl rfl; (focus (simp -implicitDefEqProofs (disch := first | omega | (simp only [qd] <;> omega)) only [xq, ↓xp, qc, Nat.reduceAdd, List.range, List.range.loop, fine, Nat.reduceEqDiff, ↓reduceIte, yielded, reduceCtorEq, Nat.reduceLT, Nat.reduceMul, Nat.reduceSub, one, Nat.reduceLeDiff, Aqj, Ayl, cell_of hb, cell_of hsb, hcx', exists_eq_left', and_true, true_and] <;> (first | exact rfl | exact ⟨rfl, rfl⟩))); simp -implicitDefEqProofs (disch := first | omega | (simp only [qd] <;> omega)) only [Aq3, Aqm])
   refine Ak8 (hK _ _ ?_); clear hK K
   exact ⟨_, _, rfl, rfl, rfl, rfl⟩
  ·simp only [hlt, decide_false, Bool.false_eq_true, if_false]
   exact Az8 ⟨_, _, rfl, rfl, rfl, rfl⟩
 ·rintro a' H' ⟨e, x, rfl, rfl, h0, h3⟩
  (refine Ayc ?_; intro K hK; simp -implicitDefEqProofs (disch := first | omega | (simp only [qd] <;> omega)) only [xq, ↓xp, qc, Nat.reduceAdd, List.range, List.range.loop, fine, Nat.reduceEqDiff, ↓reduceIte, yielded, reduceCtorEq, Nat.reduceLT, Nat.reduceMul, Nat.reduceSub, one, Nat.reduceLeDiff, Aqj, Ayl, h0, h3, cell_of hb, exists_eq_left', Avc hb, true_and]; refine hK _ _ ?_; clear hK K)
  (refine @unH _ ?_; refine z1 (And.intro Ayl (And.intro @h0 (And.intro @h3 (And.intro @exists_eq_left'.{1} @true_and)))) ?_)
  refine Cz3 13 [(true, 0), (true, 1), (true, 2), (true, 3), (true, 4), (true, 5), (true, 6), (true, 7), (true, 8), (true, 9), (true, 10), (true, 11), (true, 12), (false, 13)] (by kernel_rfl) (by kernel_rfl) (by simp) (by kernel_rfl) ?_; intro K hK
  iterate 13 (apply Aku rfl rfl rfl; (focus (simp -implicitDefEqProofs (disch := first | omega | (simp only [qd] <;> omega)) only [xq, ↓xp, qc, Nat.reduceAdd, List.range, List.range.loop, fine, Nat.reduceEqDiff, ↓reduceIte, yielded, reduceCtorEq, Nat.reduceLT, Nat.reduceMul, Nat.reduceSub, one, Nat.reduceLeDiff, Aqj, Ayl, h0, h3, exists_eq_left', and_true, true_and] <;> (first | exact rfl | exact ⟨rfl, rfl⟩))); simp -implicitDefEqProofs (disch := first | omega | (simp only [qd] <;> omega)) only [Aq3, Aqm])
  refine Bz3 ?_
  (refine @unH _ ?_; refine z0 (And.intro Ayl (And.intro @h0 (And.intro @h3 (And.intro @exists_eq_left'.{1} @true_and)))) ?_)
  refine hK _ _ ?_; clear hK K
  (refine @unH _ ?_; refine z1 (And.intro Ayl (And.intro @h0 (And.intro @h3 (And.intro @exists_eq_left'.{1} @true_and)))) ?_)
  (refine @unH _ ?_; refine z1 (And.intro Ayl (And.intro @h0 (And.intro @h3 (And.intro @exists_eq_left'.{1} @true_and)))) ?_)
  (refine @unH _ ?_; refine z9 Tryz.results50 ?_)
  refine ⟨_, (shr9 _ (Bx4 _ _ _).1 (Bx4 _ _ _).2).1, (shr9 _ (Bx4 _ _ _).1 (Bx4 _ _ _).2).2, rfl, _, rfl, ?_⟩
  refine ⟨sa, sl, sc, g + 1, _, by rw [Axw, if_pos rfl], by omega, by omega, fun i hi => ?_⟩
  obtain ⟨sb, so, c, e', fr, x', h1, h2, h4⟩ := hs i hi
  exact ⟨sb, so, c, e', fr, x', h1, by rw [Axw, if_neg (fun h => by subst h; rw [hb] at h2; cases h2)]; exact h2, h4⟩
theorem Aws (m : Md) (H : Hp) (b k : Nat) (n : Int) (hn : n < 36028797018963967) (hT : TinI H b (k + 1)) :
  FnX Tryz.prog m 15 #[.pointer (some ⟨b, 0, none⟩), .int .i64 n] H fun e H' => ∃ r : Int, 0 <= r /\ (r <= n ∨ r = 0) /\ e = .returned (.int .i64 r) /\ ∃ o, H' = H.set b o /\ TinI H' b k := by
 refine Aqo Tryz.func15 rfl Tryz.ntmps15 (by simp) ?_
 (refine @unH _ ?_; refine z1 Bkw ?_)
 (refine @unH _ ?_; refine z8 Bkw ?_; try (refine inK ?_; intro K hK))
 refine (Cwl m H b k hT).runs.mono ?_; rintro _ _ ⟨v, hv0, hv1, rfl, o, rfl, hT'⟩; simp -implicitDefEqProofs (disch := first | omega | (simp only [qd] <;> omega)) only [xq, ↓xp, qc, Nat.reduceAdd, List.range, List.range.loop, fine, Nat.reduceEqDiff, ↓reduceIte, yielded, reduceCtorEq, Nat.reduceLT, Nat.reduceMul, Nat.reduceSub, one, Nat.reduceLeDiff, Aqj, Bkw]
 refine hK _ _ ?_; clear hK K
 refine Av2 (fun a' H' => ∃ e, 1 <= n /\ a' = act 16 e [] /\ H' = H.set b o /\ e 1 = .int .i64 n /\ e 5 = .int .u64 v) ?_ ?_
 ·(refine @unH _ ?_; refine z1 Bkw ?_)
  refine Av1 (by simp -implicitDefEqProofs (disch := first | omega | (simp only [qd] <;> omega)) only [Axb, Axn, Nat.reduceEqDiff, ↓reduceIte]; rfl) ?_
  by_cases h : n < 1
  ·simp only [h, decide_true, if_true]
   (refine @unH _ ?_; refine z1 Bkw ?_)
   refine Axr ?_
   simp only [thn]
   rw [Aq7, Ay1 Tryz.results15 (by decide)]
   exact ⟨0, by omega, .inr rfl, rfl, o, rfl, hT'⟩
  ·simp only [h, decide_false, Bool.false_eq_true, if_false]
   exact Az8 ⟨_, by omega, rfl, rfl, rfl, rfl⟩
 ·rintro a' H' ⟨e, h1, rfl, rfl, e1, e5⟩
  have hw : IntKind.u64.wrap n = n := IntWalk.u64_in n (by omega)
  have hw' : IntKind.u64.wrap (n + 1) = n + 1 := IntWalk.u64_in _ (by omega)
  have hm : v.tmod (n + 1) = v % (n + 1) := Int.tmod_eq_emod_of_nonneg hv0
  have hr0 := Int.emod_nonneg v (show n + 1 ≠ 0 by omega)
  have hr1 := Int.emod_lt_of_pos v (show 0 < n + 1 by omega)
  have hw2 : IntKind.i64.wrap (v % (n + 1)) = v % (n + 1) := IntWalk.i64_in _ (by omega)
  (refine @unH _ ?_; refine z1 (And.intro Bkw (And.intro @e1 (And.intro @e5 (And.intro @hw (And.intro @hw' (And.intro @hm @hw2)))))) ?_)
  (refine @unH _ ?_; refine z9 Tryz.results15 ?_)
  exact ⟨_, hr0, .inl (by omega), rfl, o, rfl, hT'⟩
theorem Cxs (m : Md) (H : Hp) (b k : Nat) (lo hi : Int) (h0 : -1000000 <= lo) (h1 : lo <= 1000000) (h2 : -1000000 <= hi) (h3 : hi <= 1000000) (hT : TinI H b (k + 1)) :
  FnX Tryz.prog m 36 #[.pointer (some ⟨b, 0, none⟩), .int .i64 lo, .int .i64 hi] H fun e H' => ∃ r : Int, lo <= r /\ (r <= hi ∨ r = lo) /\ e = .returned (.int .i64 r) /\ ∃ o, H' = H.set b o /\ TinI H' b k := by
 refine Aqo Tryz.func36 rfl Tryz.ntmps36 (by simp) ?_
 (refine @unH _ ?_; refine z1 @Cyq ?_)
 (refine @unH _ ?_; refine z8 @Cyq ?_; try (refine inK ?_; intro K hK))
 refine (Aws m H b k (hi - lo) (by omega) hT).runs.mono ?_
 rintro _ _ ⟨r, hr0, hr1, rfl, o, rfl, hT'⟩
 have hr2 : r <= 2000000 := by omega
 (refine @unH _ ?_; refine z0 @Cyq ?_)
 refine hK _ _ ?_; clear hK K
 (refine @unH _ ?_; refine z9 Tryz.results36 ?_)
 exact ⟨_, by omega, by omega, rfl, o, rfl, hT'⟩
theorem Cq6 (m : Md) (H : Hp) (b k : Nat) (n : Int) (h0 : -1000000 <= n) (h1 : n <= 1000000) (hT : TinI H b (k + 1)) :
  FnX Tryz.prog m 16 #[.pointer (some ⟨b, 0, none⟩), .int .i64 n] H fun e H' => ∃ r : Bool, e = .returned (.bool r) /\ ∃ o, H' = H.set b o /\ TinI H' b k := by
 refine Aqo Tryz.func16 rfl Tryz.ntmps16 (by simp) ?_
 (refine @unH _ ?_; refine z1 @Cyp ?_)
 (refine @unH _ ?_; refine z8 @Cyp ?_; try (refine inK ?_; intro K hK))
 refine (Aws m H b k (n - 1) (by omega) hT).runs.mono ?_; rintro _ _ ⟨r, hr0, hr1, rfl, o, rfl, hT'⟩; simp -implicitDefEqProofs (disch := first | omega | (simp only [qd] <;> omega)) only [xq, ↓xp, qc, Nat.reduceAdd, List.range, List.range.loop, fine, Nat.reduceEqDiff, ↓reduceIte, yielded, reduceCtorEq, Nat.reduceLT, Nat.reduceMul, Nat.reduceSub, one, Nat.reduceLeDiff, Aqj, Cyp]
 refine hK _ _ ?_; clear hK K
 (refine @unH _ ?_; refine z9 Tryz.results16 ?_)
 exact ⟨_, rfl, o, rfl, hT'⟩
def Cyr := And.intro (fun H => Aq8 (H := H) Tryz.underlying22) (And.intro @Bq3 (And.intro (fun H => Aqu (H := H) Tryz.underlying22 Tryz.sizeOf3) (fun H => Aqf (H := H) Tryz.underlying3 rfl)))
def SlI (H : Hp) (v : Value) (xs : List Int) : Prop :=
 ∃ (a : Option Addr) (cap : Nat), v = .slice a xs.length cap /\ xs.length <= cap /\ ∀ (i : Nat) (x : Int), xs[i]? = some x -> ∃ (b o : Nat) (p : Bool) (c : Array Value) (fr : Nat × Nat), a = some ⟨b, o, none⟩ /\ H b = some (p, .cells c 3 fr) /\ c[o + i]? = some (.int .i64 x)
theorem SlI.le {H H' : Hp} {v : Value} {xs : List Int} (h : SlI H v xs) (hl : H.le H') : SlI H' v xs := by
 obtain ⟨a, cap, hv, hc, h⟩ := h
 refine ⟨a, cap, hv, hc, fun i x hi => ?_⟩
 obtain ⟨b, o, p, c, fr, ha, hb, hx⟩ := h i x hi
 exact ⟨b, o, p, c, fr, ha, hl _ _ hb, hx⟩
theorem SlI.nil (H : Hp) (a : Option Addr) (cap : Nat) : SlI H (.slice a 0 cap) [] := ⟨a, cap, rfl, Nat.zero_le _, fun i x hi => by simp at hi⟩
theorem SlI.cons {H : Hp} {v : Value} {xs : List Int} (h : SlI H v xs) (hx : xs ≠ []) : ∃ (b o cap : Nat) (p : Bool) (c : Array Value) (fr : Nat × Nat), v = .slice (some ⟨b, o, none⟩) xs.length cap /\ xs.length <= cap /\ H b = some (p, .cells c 3 fr) /\ ∀ (i : Nat) (x : Int), xs[i]? = some x -> c[o + i]? = some (.int .i64 x) := by
 obtain ⟨a, cap, hv, hc, h⟩ := h
 cases xs with
 | nil => exact absurd rfl hx
 | cons y ys =>
  obtain ⟨b, o, p, c, fr, rfl, hb, _⟩ := h 0 y rfl
  refine ⟨b, o, cap, p, c, fr, hv, hc, hb, fun i x hi => ?_⟩
  obtain ⟨b', o', p', c', fr', ha, hb', hx'⟩ := h i x hi
  simp only [Option.some.injEq, Addr.mk.injEq] at ha
  obtain ⟨rfl, rfl, _⟩ := ha
  rw [hb] at hb'
  simp only [Option.some.injEq, Prod.mk.injEq, Obj.cells.injEq] at hb'
  obtain ⟨_, rfl, _⟩ := hb'
  exact hx'
def ints (xs : List Int) : List Value := xs.map (Value.int .i64)
theorem Aki {xs : List Int} {i : Nat} {x : Int} (h : xs[i]? = some x) : (ints xs)[i]? = some (.int .i64 x) := by simp [ints, h]
theorem Czr (xs ys : List Int) : ints (xs ++ ys) = ints xs ++ ints ys := by simp [ints]
theorem Aqz (xs : List Int) : (ints xs).length = xs.length := by simp [ints]
theorem Bx8 (xs : List Int) : ∀ u ∈ ints xs, one u = true := fun u hu => by
 simp only [ints, List.mem_map] at hu
 obtain ⟨x, _, rfl⟩ := hu
 rfl
theorem Bzh {H₀ H : Hp} {v : Value} {n : Nat} {xs : List Int} (hrow : Aks H₀ H v 3 1 n (ints xs)) {Hx : Hp} (hx : H.le Hx) {g o m cap : Nat} {ys : List Int} (hm : ys.length = m)
  (hg : H₀ g = none -> H g = none) (hys : ∀ (j : Nat) (y : Int), ys[j]? = some y -> Hx.cell ⟨g, o + j, none⟩ = some (.int .i64 y)) (hn : n + m <= 1073741824)
  (ty : TypeId) (cb : Array Bool) (K : Next -> Hp -> Prop) (E : Value -> Hp -> Prop)
  (h : ∀ v' H' H'', Aks H₀ H' v' 3 1 (n + m) (ints (xs ++ ys)) -> H'.le H'' -> K (.value v') H'') :
  wpS Tryz.prog (builtin .append #[22, 22] ty cb #[v, .slice (some ⟨g, o, none⟩) m cap]) Hx K E := by
 refine Avg Tryz.underlying22 Tryz.sizeOf3 Tryz.zeroValue3 rfl Tryz.typeInfo3 (by decide) (by decide) hrow hx (news := ints ys) (by rw [Aqz, hm, Nat.mul_one]) hg (fun j u hj => ?_) (Bx8 ys) hn ty cb K E (fun v' H' H'' h1 h2 => h v' H' H'' (by rw [Czr]; exact h1) h2)
 simp only [ints, List.getElem?_map, Option.map_eq_some_iff] at hj
 obtain ⟨y, hy, rfl⟩ := hj
 exact hys j y hy
theorem Cqo (m : Md) (H : Hp) (b k : Nat) (v : Value) (xs : List Int) (hv : SlI H v xs) (hne : xs ≠ []) (hl : xs.length <= 1000000) (hT : TinI H b (k + 1)) :
  FnX Tryz.prog m 40 #[.pointer (some ⟨b, 0, none⟩), v] H fun e H' => ∃ r : Int, r ∈ xs /\ e = .returned (.int .i64 r) /\ ∃ o, H' = H.set b o /\ TinI H' b k := by
 have hpos : 0 < xs.length := List.length_pos_iff.2 hne
 obtain ⟨sb, so, cap, p, c, fr, rfl, _, hsb, hc⟩ := hv.cons hne
 have hbn : sb ≠ b := fun e => by
  obtain ⟨_, _, _, _, _, hb, _⟩ := hT
  rw [e, hb] at hsb
  cases hsb
 refine Aqo Tryz.func40 rfl Tryz.ntmps40 (by simp) ?_
 (refine @unH _ ?_; refine z1 Cyr ?_)
 (refine @unH _ ?_; refine z8 Cyr ?_; try (refine inK ?_; intro K hK))
 refine (Aws m H b k ((xs.length : Int) - 1) (by omega) hT).runs.mono ?_
 rintro _ _ ⟨r, hr0, hr1, rfl, o, rfl, hT'⟩
 have hr2 : r < xs.length := by omega
 have hrn : r.toNat < xs.length := by omega
 have hx := hc r.toNat xs[r.toNat] (List.getElem?_eq_getElem hrn)
 have hx' : c[so + r.toNat * 1]? = some (.int .i64 xs[r.toNat]) := by simpa using hx
 have hsb' : (H.set b o) sb = some (p, .cells c 3 fr) := by rw [Axw, if_neg hbn]; exact hsb
 simp -implicitDefEqProofs (disch := first | omega | (simp only [qd] <;> omega)) only [xq, ↓xp, qc, Nat.reduceAdd, List.range, List.range.loop, fine, Nat.reduceEqDiff, ↓reduceIte, yielded, reduceCtorEq, Nat.reduceLT, Nat.reduceMul, Nat.reduceSub, one, Nat.reduceLeDiff, Aqj, Cyr, cell_of hsb', hx', exists_eq_left']
 refine hK _ _ ?_; clear hK K
 (refine @unH _ ?_; refine z9 Tryz.results40 ?_)
 exact ⟨_, List.getElem_mem hrn, rfl, o, rfl, hT'⟩
end Go.Proofs.YtnfnaehonkbknaaGreatDoor
end
