/- Texts Blds Fns Hid Tin Data Kit Grow Calls. -/
import Derived.Test.YtofmadjgbcopdaaGreatDoorJ02
import Derived.Test.YtofmadjgbcopdaaGreatDoorProg
import Derived.IntWalk
set_option linter.defProp false
set_option linter.unusedSimpArgs false
set_option linter.unusedVariables false
set_option maxRecDepth 100000
set_option maxHeartbeats 2000000
section
namespace Go.Proofs.YtofmadjgbcopdaaGreatDoor
open Go Go.X
theorem lit_22_2_0_1_0 (H : Hp) (kx1 : IntKind) (x1 : Int) (kx2 : IntKind) (x2 : Int) (K : Value -> Hp -> Prop) (E : Value -> Hp -> Prop) : wpS Tryz.prog (Instr.buildSlice 22 2 #[(0, .int kx1 x1), (1, .int kx2 x2)]) H K E = ∀ b, H b = none -> K (.slice (some ⟨b, 0, none⟩) 2 2) (H.set b (.cells #[.int kx1 x1, .int kx2 x2] 3 (0, 0))) := buildSliceN (K := K) (E := E) Tryz.underlying22 Tryz.sizeOf3 Tryz.zeroValue3 rfl 2 [(0, .int kx1 x1), (1, .int kx2 x2)] (by decide) (by decide) (c := #[.int kx1 x1, .int kx2 x2]) (by kernel_rfl)
theorem lit_22_1_0_0 (H : Hp) (kx1 : IntKind) (x1 : Int) (K : Value -> Hp -> Prop) (E : Value -> Hp -> Prop) : wpS Tryz.prog (Instr.buildSlice 22 1 #[(0, .int kx1 x1)]) H K E = ∀ b, H b = none -> K (.slice (some ⟨b, 0, none⟩) 1 1) (H.set b (.cells #[.int kx1 x1] 3 (0, 0))) := buildSliceN (K := K) (E := E) Tryz.underlying22 Tryz.sizeOf3 Tryz.zeroValue3 rfl 1 [(0, .int kx1 x1)] (by decide) (by decide) (c := #[.int kx1 x1]) (by kernel_rfl)
theorem lit_22_3_0_1_2_0 (H : Hp) (kx1 : IntKind) (x1 : Int) (kx2 : IntKind) (x2 : Int) (kx3 : IntKind) (x3 : Int) (K : Value -> Hp -> Prop) (E : Value -> Hp -> Prop) : wpS Tryz.prog (Instr.buildSlice 22 3 #[(0, .int kx1 x1), (1, .int kx2 x2), (2, .int kx3 x3)]) H K E = ∀ b, H b = none -> K (.slice (some ⟨b, 0, none⟩) 3 3) (H.set b (.cells #[.int kx1 x1, .int kx2 x2, .int kx3 x3] 3 (0, 0))) := buildSliceN (K := K) (E := E) Tryz.underlying22 Tryz.sizeOf3 Tryz.zeroValue3 rfl 3 [(0, .int kx1 x1), (1, .int kx2 x2), (2, .int kx3 x3)] (by decide) (by decide) (c := #[.int kx1 x1, .int kx2 x2, .int kx3 x3]) (by kernel_rfl)
theorem bld_27_0_1_0 (H : Hp) (kx1 : IntKind) (x1 : Int) (kx2 : IntKind) (x2 : Int) (K : Value -> Hp -> Prop) (E : Value -> Hp -> Prop) : wpS Tryz.prog (Instr.build 27 #[(0, .int kx1 x1), (1, .int kx2 x2)]) H K E = K (.agg #[.int kx1 x1, .int kx2 x2]) H := build_struct Tryz.underlying27 Tryz.zeroValue27 (ns := [1, 1]) ⟨Tryz.sizeOf3, Tryz.sizeOf3, trivial⟩ [(0, .int kx1 x1), (1, .int kx2 x2)] (out := [.int kx1 x1, .int kx2 x2]) (by kernel_rfl) K E
theorem bld_61_1_2_0 (H : Hp) (kx1 : IntKind) (x1 : Int) (kx2 : IntKind) (x2 : Int) (K : Value -> Hp -> Prop) (E : Value -> Hp -> Prop) : wpS Tryz.prog (Instr.build 61 #[(1, .int kx1 x1), (2, .int kx2 x2)]) H K E = K (.agg #[.int .i64 0, .int kx1 x1, .int kx2 x2]) H := build_struct Tryz.underlying61 Tryz.zeroValue61 (ns := [1, 1, 1]) ⟨Tryz.sizeOf3, Tryz.sizeOf3, Tryz.sizeOf3, trivial⟩ [(1, .int kx1 x1), (2, .int kx2 x2)] (out := [.int .i64 0, .int kx1 x1, .int kx2 x2]) (by kernel_rfl) K E
theorem bld_78_0_2_0 (H : Hp) (x1 : Option Addr) (nx1 cx1 : Nat) (kx2 : IntKind) (x2 : Int) (K : Value -> Hp -> Prop) (E : Value -> Hp -> Prop) : wpS Tryz.prog (Instr.build 78 #[(0, .slice x1 nx1 cx1), (2, .int kx2 x2)]) H K E = K (.agg #[.slice x1 nx1 cx1, .int .i64 0, .int kx2 x2]) H := build_struct Tryz.underlying78 Tryz.zeroValue78 (ns := [1, 1, 1]) ⟨Tryz.sizeOf22, Tryz.sizeOf3, Tryz.sizeOf76, trivial⟩ [(0, .slice x1 nx1 cx1), (2, .int kx2 x2)] (out := [.slice x1 nx1 cx1, .int .i64 0, .int kx2 x2]) (by kernel_rfl) K E
theorem lit_22_4_0_1_2_3_0 (H : Hp) (kx1 : IntKind) (x1 : Int) (kx2 : IntKind) (x2 : Int) (kx3 : IntKind) (x3 : Int) (kx4 : IntKind) (x4 : Int) (K : Value -> Hp -> Prop) (E : Value -> Hp -> Prop) : wpS Tryz.prog (Instr.buildSlice 22 4 #[(0, .int kx1 x1), (1, .int kx2 x2), (2, .int kx3 x3), (3, .int kx4 x4)]) H K E = ∀ b, H b = none -> K (.slice (some ⟨b, 0, none⟩) 4 4) (H.set b (.cells #[.int kx1 x1, .int kx2 x2, .int kx3 x3, .int kx4 x4] 3 (0, 0))) := buildSliceN (K := K) (E := E) Tryz.underlying22 Tryz.sizeOf3 Tryz.zeroValue3 rfl 4 [(0, .int kx1 x1), (1, .int kx2 x2), (2, .int kx3 x3), (3, .int kx4 x4)] (by decide) (by decide) (c := #[.int kx1 x1, .int kx2 x2, .int kx3 x3, .int kx4 x4]) (by kernel_rfl)
theorem lit_23_1_0_0 (H : Hp) (x1 : Option Addr) (nx1 cx1 : Nat) (K : Value -> Hp -> Prop) (E : Value -> Hp -> Prop) : wpS Tryz.prog (Instr.buildSlice 23 1 #[(0, .slice x1 nx1 cx1)]) H K E = ∀ b, H b = none -> K (.slice (some ⟨b, 0, none⟩) 1 1) (H.set b (.cells #[.slice x1 nx1 cx1] 22 (0, 0))) := buildSliceN (K := K) (E := E) Tryz.underlying23 Tryz.sizeOf22 Tryz.zeroValue22 rfl 1 [(0, .slice x1 nx1 cx1)] (by decide) (by decide) (c := #[.slice x1 nx1 cx1]) (by kernel_rfl)
theorem lit_23_4_0_1_2_3_0 (H : Hp) (x1 : Option Addr) (nx1 cx1 : Nat) (x2 : Option Addr) (nx2 cx2 : Nat) (x3 : Option Addr) (nx3 cx3 : Nat) (x4 : Option Addr) (nx4 cx4 : Nat) (K : Value -> Hp -> Prop) (E : Value -> Hp -> Prop) : wpS Tryz.prog (Instr.buildSlice 23 4 #[(0, .slice x1 nx1 cx1), (1, .slice x2 nx2 cx2), (2, .slice x3 nx3 cx3), (3, .slice x4 nx4 cx4)]) H K E = ∀ b, H b = none -> K (.slice (some ⟨b, 0, none⟩) 4 4) (H.set b (.cells #[.slice x1 nx1 cx1, .slice x2 nx2 cx2, .slice x3 nx3 cx3, .slice x4 nx4 cx4] 22 (0, 0))) := buildSliceN (K := K) (E := E) Tryz.underlying23 Tryz.sizeOf22 Tryz.zeroValue22 rfl 4 [(0, .slice x1 nx1 cx1), (1, .slice x2 nx2 cx2), (2, .slice x3 nx3 cx3), (3, .slice x4 nx4 cx4)] (by decide) (by decide) (c := #[.slice x1 nx1 cx1, .slice x2 nx2 cx2, .slice x3 nx3 cx3, .slice x4 nx4 cx4]) (by kernel_rfl)
theorem bld_25_0_1_2_3_0 (H : Hp) (kx1 : IntKind) (x1 : Int) (kx2 : IntKind) (x2 : Int) (x3 : Option Addr) (nx3 cx3 : Nat) (x4 : Option Addr) (nx4 cx4 : Nat) (K : Value -> Hp -> Prop) (E : Value -> Hp -> Prop) : wpS Tryz.prog (Instr.build 25 #[(0, .int kx1 x1), (1, .int kx2 x2), (2, .slice x3 nx3 cx3), (3, .slice x4 nx4 cx4)]) H K E = K (.agg #[.int kx1 x1, .int kx2 x2, .slice x3 nx3 cx3, .slice x4 nx4 cx4]) H := build_struct Tryz.underlying25 Tryz.zeroValue25 (ns := [1, 1, 1, 1]) ⟨Tryz.sizeOf3, Tryz.sizeOf3, Tryz.sizeOf22, Tryz.sizeOf23, trivial⟩ [(0, .int kx1 x1), (1, .int kx2 x2), (2, .slice x3 nx3 cx3), (3, .slice x4 nx4 cx4)] (out := [.int kx1 x1, .int kx2 x2, .slice x3 nx3 cx3, .slice x4 nx4 cx4]) (by kernel_rfl) K E
theorem bld_29_0_1_2_3_4_5_6_7_0 (H : Hp) (kx1 : IntKind) (x1 : Int) (kx2 : IntKind) (x2 : Int) (x3 : Option Addr) (nx3 cx3 : Nat) (x4 : Option Addr) (nx4 cx4 : Nat) (x5 : Option Addr) (nx5 cx5 : Nat) (kx6 : IntKind) (x6 : Int) (x7 : Option Addr) (nx7 cx7 : Nat) (kx8 : IntKind) (x8 : Int) (kx9 : IntKind) (x9 : Int) (kx10 : IntKind) (x10 : Int) (kx11 : IntKind) (x11 : Int) (kx12 : IntKind) (x12 : Int) (K : Value -> Hp -> Prop) (E : Value -> Hp -> Prop) : wpS Tryz.prog (Instr.build 29 #[(0, .agg #[.int kx1 x1, .int kx2 x2, .slice x3 nx3 cx3, .slice x4 nx4 cx4]), (1, .slice x5 nx5 cx5), (2, .int kx6 x6), (3, .slice x7 nx7 cx7), (4, .int kx8 x8), (5, .int kx9 x9), (6, .int kx10 x10), (7, .agg #[.int kx11 x11, .int kx12 x12])]) H K E = K (.agg #[.int kx1 x1, .int kx2 x2, .slice x3 nx3 cx3, .slice x4 nx4 cx4, .slice x5 nx5 cx5, .int kx6 x6, .slice x7 nx7 cx7, .int kx8 x8, .int kx9 x9, .int kx10 x10, .int kx11 x11, .int kx12 x12]) H := build_struct Tryz.underlying29 Tryz.zeroValue29 (ns := [4, 1, 1, 1, 1, 1, 1, 2]) ⟨Tryz.sizeOf25, Tryz.sizeOf22, Tryz.sizeOf3, Tryz.sizeOf22, Tryz.sizeOf3, Tryz.sizeOf3, Tryz.sizeOf3, Tryz.sizeOf27, trivial⟩ [(0, .agg #[.int kx1 x1, .int kx2 x2, .slice x3 nx3 cx3, .slice x4 nx4 cx4]), (1, .slice x5 nx5 cx5), (2, .int kx6 x6), (3, .slice x7 nx7 cx7), (4, .int kx8 x8), (5, .int kx9 x9), (6, .int kx10 x10), (7, .agg #[.int kx11 x11, .int kx12 x12])] (out := [.int kx1 x1, .int kx2 x2, .slice x3 nx3 cx3, .slice x4 nx4 cx4, .slice x5 nx5 cx5, .int kx6 x6, .slice x7 nx7 cx7, .int kx8 x8, .int kx9 x9, .int kx10 x10, .int kx11 x11, .int kx12 x12]) (by kernel_rfl) K E
theorem lit_22_6_0_1_2_3_4_5_0 (H : Hp) (kx1 : IntKind) (x1 : Int) (kx2 : IntKind) (x2 : Int) (kx3 : IntKind) (x3 : Int) (kx4 : IntKind) (x4 : Int) (kx5 : IntKind) (x5 : Int) (kx6 : IntKind) (x6 : Int) (K : Value -> Hp -> Prop) (E : Value -> Hp -> Prop) : wpS Tryz.prog (Instr.buildSlice 22 6 #[(0, .int kx1 x1), (1, .int kx2 x2), (2, .int kx3 x3), (3, .int kx4 x4), (4, .int kx5 x5), (5, .int kx6 x6)]) H K E = ∀ b, H b = none -> K (.slice (some ⟨b, 0, none⟩) 6 6) (H.set b (.cells #[.int kx1 x1, .int kx2 x2, .int kx3 x3, .int kx4 x4, .int kx5 x5, .int kx6 x6] 3 (0, 0))) := buildSliceN (K := K) (E := E) Tryz.underlying22 Tryz.sizeOf3 Tryz.zeroValue3 rfl 6 [(0, .int kx1 x1), (1, .int kx2 x2), (2, .int kx3 x3), (3, .int kx4 x4), (4, .int kx5 x5), (5, .int kx6 x6)] (by decide) (by decide) (c := #[.int kx1 x1, .int kx2 x2, .int kx3 x3, .int kx4 x4, .int kx5 x5, .int kx6 x6]) (by kernel_rfl)
theorem bld_25_0_1_0 (H : Hp) (kx1 : IntKind) (x1 : Int) (kx2 : IntKind) (x2 : Int) (K : Value -> Hp -> Prop) (E : Value -> Hp -> Prop) : wpS Tryz.prog (Instr.build 25 #[(0, .int kx1 x1), (1, .int kx2 x2)]) H K E = K (.agg #[.int kx1 x1, .int kx2 x2, .slice none 0 0, .slice none 0 0]) H := build_struct Tryz.underlying25 Tryz.zeroValue25 (ns := [1, 1, 1, 1]) ⟨Tryz.sizeOf3, Tryz.sizeOf3, Tryz.sizeOf22, Tryz.sizeOf23, trivial⟩ [(0, .int kx1 x1), (1, .int kx2 x2)] (out := [.int kx1 x1, .int kx2 x2, .slice none 0 0, .slice none 0 0]) (by kernel_rfl) K E
theorem bld_166__0 (H : Hp)  (K : Value -> Hp -> Prop) (E : Value -> Hp -> Prop) : wpS Tryz.prog (Instr.build 166 #[]) H K E = K (.agg #[]) H := build_struct Tryz.underlying166 Tryz.zeroValue166 (ns := []) trivial [] (out := []) (by kernel_rfl) K E
theorem bld_167__0 (H : Hp)  (K : Value -> Hp -> Prop) (E : Value -> Hp -> Prop) : wpS Tryz.prog (Instr.build 167 #[]) H K E = K (.agg #[]) H := build_struct Tryz.underlying167 Tryz.zeroValue167 (ns := []) trivial [] (out := []) (by kernel_rfl) K E
theorem bld_168__0 (H : Hp)  (K : Value -> Hp -> Prop) (E : Value -> Hp -> Prop) : wpS Tryz.prog (Instr.build 168 #[]) H K E = K (.agg #[]) H := build_struct Tryz.underlying168 Tryz.zeroValue168 (ns := []) trivial [] (out := []) (by kernel_rfl) K E
theorem bld_169__0 (H : Hp)  (K : Value -> Hp -> Prop) (E : Value -> Hp -> Prop) : wpS Tryz.prog (Instr.build 169 #[]) H K E = K (.agg #[]) H := build_struct Tryz.underlying169 Tryz.zeroValue169 (ns := []) trivial [] (out := []) (by kernel_rfl) K E
theorem bld_186__0 (H : Hp)  (K : Value -> Hp -> Prop) (E : Value -> Hp -> Prop) : wpS Tryz.prog (Instr.build 186 #[]) H K E = K (.agg #[]) H := build_struct Tryz.underlying186 Tryz.zeroValue186 (ns := []) trivial [] (out := []) (by kernel_rfl) K E
theorem bld_195_0_1_0 (H : Hp) (kx1 : IntKind) (x1 : Int) (kx2 : IntKind) (x2 : Int) (kx3 : IntKind) (x3 : Int) (kx4 : IntKind) (x4 : Int) (kx5 : IntKind) (x5 : Int) (K : Value -> Hp -> Prop) (E : Value -> Hp -> Prop) : wpS Tryz.prog (Instr.build 195 #[(0, .agg #[.int kx1 x1, .int kx2 x2, .int kx3 x3, .int kx4 x4]), (1, .int kx5 x5)]) H K E = K (.agg #[.int kx1 x1, .int kx2 x2, .int kx3 x3, .int kx4 x4, .int kx5 x5]) H := build_struct Tryz.underlying195 Tryz.zeroValue195 (ns := [4, 1]) ⟨Tryz.sizeOf145, Tryz.sizeOf3, trivial⟩ [(0, .agg #[.int kx1 x1, .int kx2 x2, .int kx3 x3, .int kx4 x4]), (1, .int kx5 x5)] (out := [.int kx1 x1, .int kx2 x2, .int kx3 x3, .int kx4 x4, .int kx5 x5]) (by kernel_rfl) K E
theorem bld_203_0_0 (H : Hp) (x1 : Fn) (ax1 bx1 : Array Value) (K : Value -> Hp -> Prop) (E : Value -> Hp -> Prop) : wpS Tryz.prog (Instr.build 203 #[(0, .func x1 ax1 bx1)]) H K E = K (.agg #[.func x1 ax1 bx1, .slice none 0 0, .int .i64 0, .bool false]) H := build_struct Tryz.underlying203 Tryz.zeroValue203 (ns := [1, 2, 1]) ⟨Tryz.sizeOf201, Tryz.sizeOf129, Tryz.sizeOf4, trivial⟩ [(0, .func x1 ax1 bx1)] (out := [.func x1 ax1 bx1, .slice none 0 0, .int .i64 0, .bool false]) (by kernel_rfl) K E
theorem bld_203_0_1 (H : Hp)  (K : Value -> Hp -> Prop) (E : Value -> Hp -> Prop) : wpS Tryz.prog (Instr.build 203 #[(0, .nilFunc)]) H K E = K (.agg #[.nilFunc, .slice none 0 0, .int .i64 0, .bool false]) H := build_struct Tryz.underlying203 Tryz.zeroValue203 (ns := [1, 2, 1]) ⟨Tryz.sizeOf201, Tryz.sizeOf129, Tryz.sizeOf4, trivial⟩ [(0, .nilFunc)] (out := [.nilFunc, .slice none 0 0, .int .i64 0, .bool false]) (by kernel_rfl) K E
theorem bld_129_0_1_0 (H : Hp) (x1 : Option Addr) (nx1 cx1 : Nat) (kx2 : IntKind) (x2 : Int) (K : Value -> Hp -> Prop) (E : Value -> Hp -> Prop) : wpS Tryz.prog (Instr.build 129 #[(0, .slice x1 nx1 cx1), (1, .int kx2 x2)]) H K E = K (.agg #[.slice x1 nx1 cx1, .int kx2 x2]) H := build_struct Tryz.underlying129 Tryz.zeroValue129 (ns := [1, 1]) ⟨Tryz.sizeOf22, Tryz.sizeOf3, trivial⟩ [(0, .slice x1 nx1 cx1), (1, .int kx2 x2)] (out := [.slice x1 nx1 cx1, .int kx2 x2]) (by kernel_rfl) K E
theorem bld_85_0_0 (H : Hp) (kx1 : IntKind) (x1 : Int) (kx2 : IntKind) (x2 : Int) (x3 : Option Addr) (nx3 cx3 : Nat) (x4 : Option Addr) (nx4 cx4 : Nat) (x5 : Option Addr) (nx5 cx5 : Nat) (kx6 : IntKind) (x6 : Int) (x7 : Option Addr) (nx7 cx7 : Nat) (kx8 : IntKind) (x8 : Int) (kx9 : IntKind) (x9 : Int) (kx10 : IntKind) (x10 : Int) (kx11 : IntKind) (x11 : Int) (kx12 : IntKind) (x12 : Int) (K : Value -> Hp -> Prop) (E : Value -> Hp -> Prop) : wpS Tryz.prog (Instr.build 85 #[(0, .agg #[.int kx1 x1, .int kx2 x2, .slice x3 nx3 cx3, .slice x4 nx4 cx4, .slice x5 nx5 cx5, .int kx6 x6, .slice x7 nx7 cx7, .int kx8 x8, .int kx9 x9, .int kx10 x10, .int kx11 x11, .int kx12 x12])]) H K E = K (.agg #[.int kx1 x1, .int kx2 x2, .slice x3 nx3 cx3, .slice x4 nx4 cx4, .slice x5 nx5 cx5, .int kx6 x6, .slice x7 nx7 cx7, .int kx8 x8, .int kx9 x9, .int kx10 x10, .int kx11 x11, .int kx12 x12, .slice none 0 0]) H := build_struct Tryz.underlying85 Tryz.zeroValue85 (ns := [12, 1]) ⟨Tryz.sizeOf29, Tryz.sizeOf22, trivial⟩ [(0, .agg #[.int kx1 x1, .int kx2 x2, .slice x3 nx3 cx3, .slice x4 nx4 cx4, .slice x5 nx5 cx5, .int kx6 x6, .slice x7 nx7 cx7, .int kx8 x8, .int kx9 x9, .int kx10 x10, .int kx11 x11, .int kx12 x12])] (out := [.int kx1 x1, .int kx2 x2, .slice x3 nx3 cx3, .slice x4 nx4 cx4, .slice x5 nx5 cx5, .int kx6 x6, .slice x7 nx7 cx7, .int kx8 x8, .int kx9 x9, .int kx10 x10, .int kx11 x11, .int kx12 x12, .slice none 0 0]) (by kernel_rfl) K E
theorem bld_208_0_0 (H : Hp) (kx1 : IntKind) (x1 : Int) (K : Value -> Hp -> Prop) (E : Value -> Hp -> Prop) : wpS Tryz.prog (Instr.build 208 #[(0, .int kx1 x1)]) H K E = K (.agg #[.int kx1 x1]) H := build_struct Tryz.underlying208 Tryz.zeroValue208 (ns := [1]) ⟨Tryz.sizeOf39, trivial⟩ [(0, .int kx1 x1)] (out := [.int kx1 x1]) (by kernel_rfl) K E
theorem bld_61_0_1_0 (H : Hp) (kx1 : IntKind) (x1 : Int) (kx2 : IntKind) (x2 : Int) (K : Value -> Hp -> Prop) (E : Value -> Hp -> Prop) : wpS Tryz.prog (Instr.build 61 #[(0, .int kx1 x1), (1, .int kx2 x2)]) H K E = K (.agg #[.int kx1 x1, .int kx2 x2, .int .i64 0]) H := build_struct Tryz.underlying61 Tryz.zeroValue61 (ns := [1, 1, 1]) ⟨Tryz.sizeOf3, Tryz.sizeOf3, Tryz.sizeOf3, trivial⟩ [(0, .int kx1 x1), (1, .int kx2 x2)] (out := [.int kx1 x1, .int kx2 x2, .int .i64 0]) (by kernel_rfl) K E
theorem bld_200__0 (H : Hp)  (K : Value -> Hp -> Prop) (E : Value -> Hp -> Prop) : wpS Tryz.prog (Instr.build 200 #[]) H K E = K (.agg #[]) H := build_struct Tryz.underlying200 Tryz.zeroValue200 (ns := []) trivial [] (out := []) (by kernel_rfl) K E
theorem bld_160_0_1_0 (H : Hp) (kx1 : IntKind) (x1 : Int) (kx2 : IntKind) (x2 : Int) (K : Value -> Hp -> Prop) (E : Value -> Hp -> Prop) : wpS Tryz.prog (Instr.build 160 #[(0, .int kx1 x1), (1, .int kx2 x2)]) H K E = K (.agg #[.int kx1 x1, .int kx2 x2]) H := build_struct Tryz.underlying160 Tryz.zeroValue160 (ns := [1, 1]) ⟨Tryz.sizeOf39, Tryz.sizeOf3, trivial⟩ [(0, .int kx1 x1), (1, .int kx2 x2)] (out := [.int kx1 x1, .int kx2 x2]) (by kernel_rfl) K E
theorem bld_175_0_1_2_0 (H : Hp) (kx1 : IntKind) (x1 : Int) (kx2 : IntKind) (x2 : Int) (x3 : Option Addr) (nx3 cx3 : Nat) (x4 : Option Addr) (nx4 cx4 : Nat) (x5 : Option Addr) (nx5 cx5 : Nat) (x6 : Option Nat) (K : Value -> Hp -> Prop) (E : Value -> Hp -> Prop) : wpS Tryz.prog (Instr.build 175 #[(0, .agg #[.int kx1 x1, .int kx2 x2, .slice x3 nx3 cx3, .slice x4 nx4 cx4]), (1, .slice x5 nx5 cx5), (2, .map x6)]) H K E = K (.agg #[.int kx1 x1, .int kx2 x2, .slice x3 nx3 cx3, .slice x4 nx4 cx4, .slice x5 nx5 cx5, .map x6]) H := build_struct Tryz.underlying175 Tryz.zeroValue175 (ns := [4, 1, 1]) ⟨Tryz.sizeOf25, Tryz.sizeOf22, Tryz.sizeOf173, trivial⟩ [(0, .agg #[.int kx1 x1, .int kx2 x2, .slice x3 nx3 cx3, .slice x4 nx4 cx4]), (1, .slice x5 nx5 cx5), (2, .map x6)] (out := [.int kx1 x1, .int kx2 x2, .slice x3 nx3 cx3, .slice x4 nx4 cx4, .slice x5 nx5 cx5, .map x6]) (by kernel_rfl) K E
theorem bld_178_1_0 (H : Hp) (kx1 : IntKind) (x1 : Int) (K : Value -> Hp -> Prop) (E : Value -> Hp -> Prop) : wpS Tryz.prog (Instr.build 178 #[(1, .int kx1 x1)]) H K E = K (.agg #[.int .i64 0, .int kx1 x1]) H := build_struct Tryz.underlying178 Tryz.zeroValue178 (ns := [1, 1]) ⟨Tryz.sizeOf3, Tryz.sizeOf176, trivial⟩ [(1, .int kx1 x1)] (out := [.int .i64 0, .int kx1 x1]) (by kernel_rfl) K E
theorem bld_178_0_1_0 (H : Hp) (kx1 : IntKind) (x1 : Int) (kx2 : IntKind) (x2 : Int) (K : Value -> Hp -> Prop) (E : Value -> Hp -> Prop) : wpS Tryz.prog (Instr.build 178 #[(0, .int kx1 x1), (1, .int kx2 x2)]) H K E = K (.agg #[.int kx1 x1, .int kx2 x2]) H := build_struct Tryz.underlying178 Tryz.zeroValue178 (ns := [1, 1]) ⟨Tryz.sizeOf3, Tryz.sizeOf176, trivial⟩ [(0, .int kx1 x1), (1, .int kx2 x2)] (out := [.int kx1 x1, .int kx2 x2]) (by kernel_rfl) K E
end Go.Proofs.YtofmadjgbcopdaaGreatDoor
end
section
namespace Go.Proofs.YtofmadjgbcopdaaGreatDoor
open Go Go.X
variable {H : Hp} (args : Array Value) (K : Next -> Hp -> Prop) (E : Value -> Hp -> Prop)
theorem callF20 : wpS Tryz.prog (callFunc 20 args) H K E = K (.enter 20 args) H := wpS_callFunc Tryz.func20 (by kernel_rfl) (by kernel_rfl) args K E
theorem callF21 : wpS Tryz.prog (callFunc 21 args) H K E = K (.enter 21 args) H := wpS_callFunc Tryz.func21 (by kernel_rfl) (by kernel_rfl) args K E
theorem callF24 : wpS Tryz.prog (callFunc 24 args) H K E = K (.enter 24 args) H := wpS_callFunc Tryz.func24 (by kernel_rfl) (by kernel_rfl) args K E
theorem callF26 : wpS Tryz.prog (callFunc 26 args) H K E = K (.enter 26 args) H := wpS_callFunc Tryz.func26 (by kernel_rfl) (by kernel_rfl) args K E
theorem callF27 : wpS Tryz.prog (callFunc 27 args) H K E = K (.enter 27 args) H := wpS_callFunc Tryz.func27 (by kernel_rfl) (by kernel_rfl) args K E
theorem callF28 : wpS Tryz.prog (callFunc 28 args) H K E = K (.enter 28 args) H := wpS_callFunc Tryz.func28 (by kernel_rfl) (by kernel_rfl) args K E
theorem callF29 : wpS Tryz.prog (callFunc 29 args) H K E = K (.enter 29 args) H := wpS_callFunc Tryz.func29 (by kernel_rfl) (by kernel_rfl) args K E
theorem callF30 : wpS Tryz.prog (callFunc 30 args) H K E = K (.enter 30 args) H := wpS_callFunc Tryz.func30 (by kernel_rfl) (by kernel_rfl) args K E
theorem callF31 : wpS Tryz.prog (callFunc 31 args) H K E = K (.enter 31 args) H := wpS_callFunc Tryz.func31 (by kernel_rfl) (by kernel_rfl) args K E
theorem callF32 : wpS Tryz.prog (callFunc 32 args) H K E = K (.enter 32 args) H := wpS_callFunc Tryz.func32 (by kernel_rfl) (by kernel_rfl) args K E
theorem callF34 : wpS Tryz.prog (callFunc 34 args) H K E = K (.enter 34 args) H := wpS_callFunc Tryz.func34 (by kernel_rfl) (by kernel_rfl) args K E
theorem callF36 : wpS Tryz.prog (callFunc 36 args) H K E = K (.enter 36 args) H := wpS_callFunc Tryz.func36 (by kernel_rfl) (by kernel_rfl) args K E
theorem callF38 : wpS Tryz.prog (callFunc 38 args) H K E = K (.enter 38 args) H := wpS_callFunc Tryz.func38 (by kernel_rfl) (by kernel_rfl) args K E
theorem callF39 : wpS Tryz.prog (callFunc 39 args) H K E = K (.enter 39 args) H := wpS_callFunc Tryz.func39 (by kernel_rfl) (by kernel_rfl) args K E
theorem callF40 : wpS Tryz.prog (callFunc 40 args) H K E = K (.enter 40 args) H := wpS_callFunc Tryz.func40 (by kernel_rfl) (by kernel_rfl) args K E
theorem callF41 : wpS Tryz.prog (callFunc 41 args) H K E = K (.enter 41 args) H := wpS_callFunc Tryz.func41 (by kernel_rfl) (by kernel_rfl) args K E
theorem callF42 : wpS Tryz.prog (callFunc 42 args) H K E = K (.enter 42 args) H := wpS_callFunc Tryz.func42 (by kernel_rfl) (by kernel_rfl) args K E
theorem callF43 : wpS Tryz.prog (callFunc 43 args) H K E = K (.enter 43 args) H := wpS_callFunc Tryz.func43 (by kernel_rfl) (by kernel_rfl) args K E
theorem callF45 : wpS Tryz.prog (callFunc 45 args) H K E = K (.enter 45 args) H := wpS_callFunc Tryz.func45 (by kernel_rfl) (by kernel_rfl) args K E
theorem callF47 : wpS Tryz.prog (callFunc 47 args) H K E = K (.enter 47 args) H := wpS_callFunc Tryz.func47 (by kernel_rfl) (by kernel_rfl) args K E
theorem callF49 : wpS Tryz.prog (callFunc 49 args) H K E = K (.enter 49 args) H := wpS_callFunc Tryz.func49 (by kernel_rfl) (by kernel_rfl) args K E
theorem callF51 : wpS Tryz.prog (callFunc 51 args) H K E = K (.enter 51 args) H := wpS_callFunc Tryz.func51 (by kernel_rfl) (by kernel_rfl) args K E
theorem callF53 : wpS Tryz.prog (callFunc 53 args) H K E = K (.enter 53 args) H := wpS_callFunc Tryz.func53 (by kernel_rfl) (by kernel_rfl) args K E
theorem callF54 : wpS Tryz.prog (callFunc 54 args) H K E = K (.enter 54 args) H := wpS_callFunc Tryz.func54 (by kernel_rfl) (by kernel_rfl) args K E
theorem callF58 : wpS Tryz.prog (callFunc 58 args) H K E = K (.enter 58 args) H := wpS_callFunc Tryz.func58 (by kernel_rfl) (by kernel_rfl) args K E
theorem callF65 : wpS Tryz.prog (callFunc 65 args) H K E = K (.enter 65 args) H := wpS_callFunc Tryz.func65 (by kernel_rfl) (by kernel_rfl) args K E
theorem callF66 : wpS Tryz.prog (callFunc 66 args) H K E = K (.enter 66 args) H := wpS_callFunc Tryz.func66 (by kernel_rfl) (by kernel_rfl) args K E
theorem callF68 : wpS Tryz.prog (callFunc 68 args) H K E = K (.enter 68 args) H := wpS_callFunc Tryz.func68 (by kernel_rfl) (by kernel_rfl) args K E
theorem callF69 : wpS Tryz.prog (callFunc 69 args) H K E = K (.enter 69 args) H := wpS_callFunc Tryz.func69 (by kernel_rfl) (by kernel_rfl) args K E
theorem callF70 : wpS Tryz.prog (callFunc 70 args) H K E = K (.enter 70 args) H := wpS_callFunc Tryz.func70 (by kernel_rfl) (by kernel_rfl) args K E
theorem callF71 : wpS Tryz.prog (callFunc 71 args) H K E = K (.enter 71 args) H := wpS_callFunc Tryz.func71 (by kernel_rfl) (by kernel_rfl) args K E
theorem callF72 : wpS Tryz.prog (callFunc 72 args) H K E = K (.enter 72 args) H := wpS_callFunc Tryz.func72 (by kernel_rfl) (by kernel_rfl) args K E
theorem callF73 : wpS Tryz.prog (callFunc 73 args) H K E = K (.enter 73 args) H := wpS_callFunc Tryz.func73 (by kernel_rfl) (by kernel_rfl) args K E
theorem callF74 : wpS Tryz.prog (callFunc 74 args) H K E = K (.enter 74 args) H := wpS_callFunc Tryz.func74 (by kernel_rfl) (by kernel_rfl) args K E
theorem callF75 : wpS Tryz.prog (callFunc 75 args) H K E = K (.enter 75 args) H := wpS_callFunc Tryz.func75 (by kernel_rfl) (by kernel_rfl) args K E
theorem callF78 : wpS Tryz.prog (callFunc 78 args) H K E = K (.enter 78 args) H := wpS_callFunc Tryz.func78 (by kernel_rfl) (by kernel_rfl) args K E
theorem callF81 : wpS Tryz.prog (callFunc 81 args) H K E = K (.enter 81 args) H := wpS_callFunc Tryz.func81 (by kernel_rfl) (by kernel_rfl) args K E
theorem callF82 : wpS Tryz.prog (callFunc 82 args) H K E = K (.enter 82 args) H := wpS_callFunc Tryz.func82 (by kernel_rfl) (by kernel_rfl) args K E
theorem callF83 : wpS Tryz.prog (callFunc 83 args) H K E = K (.enter 83 args) H := wpS_callFunc Tryz.func83 (by kernel_rfl) (by kernel_rfl) args K E
theorem callF84 : wpS Tryz.prog (callFunc 84 args) H K E = K (.enter 84 args) H := wpS_callFunc Tryz.func84 (by kernel_rfl) (by kernel_rfl) args K E
theorem callF85 : wpS Tryz.prog (callFunc 85 args) H K E = K (.enter 85 args) H := wpS_callFunc Tryz.func85 (by kernel_rfl) (by kernel_rfl) args K E
theorem callF86 : wpS Tryz.prog (callFunc 86 args) H K E = K (.enter 86 args) H := wpS_callFunc Tryz.func86 (by kernel_rfl) (by kernel_rfl) args K E
theorem callF87 : wpS Tryz.prog (callFunc 87 args) H K E = K (.enter 87 args) H := wpS_callFunc Tryz.func87 (by kernel_rfl) (by kernel_rfl) args K E
theorem callF88 : wpS Tryz.prog (callFunc 88 args) H K E = K (.enter 88 args) H := wpS_callFunc Tryz.func88 (by kernel_rfl) (by kernel_rfl) args K E
theorem callF89 : wpS Tryz.prog (callFunc 89 args) H K E = K (.enter 89 args) H := wpS_callFunc Tryz.func89 (by kernel_rfl) (by kernel_rfl) args K E
theorem callF90 : wpS Tryz.prog (callFunc 90 args) H K E = K (.enter 90 args) H := wpS_callFunc Tryz.func90 (by kernel_rfl) (by kernel_rfl) args K E
theorem callF91 : wpS Tryz.prog (callFunc 91 args) H K E = K (.enter 91 args) H := wpS_callFunc Tryz.func91 (by kernel_rfl) (by kernel_rfl) args K E
theorem callF92 : wpS Tryz.prog (callFunc 92 args) H K E = K (.enter 92 args) H := wpS_callFunc Tryz.func92 (by kernel_rfl) (by kernel_rfl) args K E
theorem callF93 : wpS Tryz.prog (callFunc 93 args) H K E = K (.enter 93 args) H := wpS_callFunc Tryz.func93 (by kernel_rfl) (by kernel_rfl) args K E
theorem callF94 : wpS Tryz.prog (callFunc 94 args) H K E = K (.enter 94 args) H := wpS_callFunc Tryz.func94 (by kernel_rfl) (by kernel_rfl) args K E
theorem callF96 : wpS Tryz.prog (callFunc 96 args) H K E = K (.enter 96 args) H := wpS_callFunc Tryz.func96 (by kernel_rfl) (by kernel_rfl) args K E
theorem callF98 : wpS Tryz.prog (callFunc 98 args) H K E = K (.enter 98 args) H := wpS_callFunc Tryz.func98 (by kernel_rfl) (by kernel_rfl) args K E
theorem callF99 : wpS Tryz.prog (callFunc 99 args) H K E = K (.enter 99 args) H := wpS_callFunc Tryz.func99 (by kernel_rfl) (by kernel_rfl) args K E
theorem callF100 : wpS Tryz.prog (callFunc 100 args) H K E = K (.enter 100 args) H := wpS_callFunc Tryz.func100 (by kernel_rfl) (by kernel_rfl) args K E
theorem callF101 : wpS Tryz.prog (callFunc 101 args) H K E = K (.enter 101 args) H := wpS_callFunc Tryz.func101 (by kernel_rfl) (by kernel_rfl) args K E
theorem callF102 : wpS Tryz.prog (callFunc 102 args) H K E = K (.enter 102 args) H := wpS_callFunc Tryz.func102 (by kernel_rfl) (by kernel_rfl) args K E
theorem callF107 : wpS Tryz.prog (callFunc 107 args) H K E = K (.enter 107 args) H := wpS_callFunc Tryz.func107 (by kernel_rfl) (by kernel_rfl) args K E
theorem callF110 : wpS Tryz.prog (callFunc 110 args) H K E = K (.enter 110 args) H := wpS_callFunc Tryz.func110 (by kernel_rfl) (by kernel_rfl) args K E
theorem callF111 : wpS Tryz.prog (callFunc 111 args) H K E = K (.enter 111 args) H := wpS_callFunc Tryz.func111 (by kernel_rfl) (by kernel_rfl) args K E
theorem callF112 : wpS Tryz.prog (callFunc 112 args) H K E = K (.enter 112 args) H := wpS_callFunc Tryz.func112 (by kernel_rfl) (by kernel_rfl) args K E
theorem callF113 : wpS Tryz.prog (callFunc 113 args) H K E = K (.enter 113 args) H := wpS_callFunc Tryz.func113 (by kernel_rfl) (by kernel_rfl) args K E
theorem callF114 : wpS Tryz.prog (callFunc 114 args) H K E = K (.enter 114 args) H := wpS_callFunc Tryz.func114 (by kernel_rfl) (by kernel_rfl) args K E
theorem callF115 : wpS Tryz.prog (callFunc 115 args) H K E = K (.enter 115 args) H := wpS_callFunc Tryz.func115 (by kernel_rfl) (by kernel_rfl) args K E
theorem callF116 : wpS Tryz.prog (callFunc 116 args) H K E = K (.enter 116 args) H := wpS_callFunc Tryz.func116 (by kernel_rfl) (by kernel_rfl) args K E
theorem callF117 : wpS Tryz.prog (callFunc 117 args) H K E = K (.enter 117 args) H := wpS_callFunc Tryz.func117 (by kernel_rfl) (by kernel_rfl) args K E
theorem callF119 : wpS Tryz.prog (callFunc 119 args) H K E = K (.enter 119 args) H := wpS_callFunc Tryz.func119 (by kernel_rfl) (by kernel_rfl) args K E
theorem callF121 : wpS Tryz.prog (callFunc 121 args) H K E = K (.enter 121 args) H := wpS_callFunc Tryz.func121 (by kernel_rfl) (by kernel_rfl) args K E
theorem callF122 : wpS Tryz.prog (callFunc 122 args) H K E = K (.enter 122 args) H := wpS_callFunc Tryz.func122 (by kernel_rfl) (by kernel_rfl) args K E
theorem callF123 : wpS Tryz.prog (callFunc 123 args) H K E = K (.enter 123 args) H := wpS_callFunc Tryz.func123 (by kernel_rfl) (by kernel_rfl) args K E
theorem callF124 : wpS Tryz.prog (callFunc 124 args) H K E = K (.enter 124 args) H := wpS_callFunc Tryz.func124 (by kernel_rfl) (by kernel_rfl) args K E
theorem callF125 : wpS Tryz.prog (callFunc 125 args) H K E = K (.enter 125 args) H := wpS_callFunc Tryz.func125 (by kernel_rfl) (by kernel_rfl) args K E
theorem callF126 : wpS Tryz.prog (callFunc 126 args) H K E = K (.enter 126 args) H := wpS_callFunc Tryz.func126 (by kernel_rfl) (by kernel_rfl) args K E
theorem callF127 : wpS Tryz.prog (callFunc 127 args) H K E = K (.enter 127 args) H := wpS_callFunc Tryz.func127 (by kernel_rfl) (by kernel_rfl) args K E
theorem callF128 : wpS Tryz.prog (callFunc 128 args) H K E = K (.enter 128 args) H := wpS_callFunc Tryz.func128 (by kernel_rfl) (by kernel_rfl) args K E
theorem callF129 : wpS Tryz.prog (callFunc 129 args) H K E = K (.enter 129 args) H := wpS_callFunc Tryz.func129 (by kernel_rfl) (by kernel_rfl) args K E
theorem callF130 : wpS Tryz.prog (callFunc 130 args) H K E = K (.enter 130 args) H := wpS_callFunc Tryz.func130 (by kernel_rfl) (by kernel_rfl) args K E
theorem callF131 : wpS Tryz.prog (callFunc 131 args) H K E = K (.enter 131 args) H := wpS_callFunc Tryz.func131 (by kernel_rfl) (by kernel_rfl) args K E
theorem callF132 : wpS Tryz.prog (callFunc 132 args) H K E = K (.enter 132 args) H := wpS_callFunc Tryz.func132 (by kernel_rfl) (by kernel_rfl) args K E
theorem callF133 : wpS Tryz.prog (callFunc 133 args) H K E = K (.enter 133 args) H := wpS_callFunc Tryz.func133 (by kernel_rfl) (by kernel_rfl) args K E
theorem callF134 : wpS Tryz.prog (callFunc 134 args) H K E = K (.enter 134 args) H := wpS_callFunc Tryz.func134 (by kernel_rfl) (by kernel_rfl) args K E
theorem callF135 : wpS Tryz.prog (callFunc 135 args) H K E = K (.enter 135 args) H := wpS_callFunc Tryz.func135 (by kernel_rfl) (by kernel_rfl) args K E
theorem callF137 : wpS Tryz.prog (callFunc 137 args) H K E = K (.enter 137 args) H := wpS_callFunc Tryz.func137 (by kernel_rfl) (by kernel_rfl) args K E
theorem callF138 : wpS Tryz.prog (callFunc 138 args) H K E = K (.enter 138 args) H := wpS_callFunc Tryz.func138 (by kernel_rfl) (by kernel_rfl) args K E
theorem callF139 : wpS Tryz.prog (callFunc 139 args) H K E = K (.enter 139 args) H := wpS_callFunc Tryz.func139 (by kernel_rfl) (by kernel_rfl) args K E
theorem callF140 : wpS Tryz.prog (callFunc 140 args) H K E = K (.enter 140 args) H := wpS_callFunc Tryz.func140 (by kernel_rfl) (by kernel_rfl) args K E
theorem callF141 : wpS Tryz.prog (callFunc 141 args) H K E = K (.enter 141 args) H := wpS_callFunc Tryz.func141 (by kernel_rfl) (by kernel_rfl) args K E
theorem callF142 : wpS Tryz.prog (callFunc 142 args) H K E = K (.enter 142 args) H := wpS_callFunc Tryz.func142 (by kernel_rfl) (by kernel_rfl) args K E
theorem callF144 : wpS Tryz.prog (callFunc 144 args) H K E = K (.enter 144 args) H := wpS_callFunc Tryz.func144 (by kernel_rfl) (by kernel_rfl) args K E
theorem callF145 : wpS Tryz.prog (callFunc 145 args) H K E = K (.enter 145 args) H := wpS_callFunc Tryz.func145 (by kernel_rfl) (by kernel_rfl) args K E
theorem callF146 : wpS Tryz.prog (callFunc 146 args) H K E = K (.enter 146 args) H := wpS_callFunc Tryz.func146 (by kernel_rfl) (by kernel_rfl) args K E
theorem callF147 : wpS Tryz.prog (callFunc 147 args) H K E = K (.enter 147 args) H := wpS_callFunc Tryz.func147 (by kernel_rfl) (by kernel_rfl) args K E
theorem callF148 : wpS Tryz.prog (callFunc 148 args) H K E = K (.enter 148 args) H := wpS_callFunc Tryz.func148 (by kernel_rfl) (by kernel_rfl) args K E
theorem callF149 : wpS Tryz.prog (callFunc 149 args) H K E = K (.enter 149 args) H := wpS_callFunc Tryz.func149 (by kernel_rfl) (by kernel_rfl) args K E
theorem callF150 : wpS Tryz.prog (callFunc 150 args) H K E = K (.enter 150 args) H := wpS_callFunc Tryz.func150 (by kernel_rfl) (by kernel_rfl) args K E
theorem callF151 : wpS Tryz.prog (callFunc 151 args) H K E = K (.enter 151 args) H := wpS_callFunc Tryz.func151 (by kernel_rfl) (by kernel_rfl) args K E
theorem callF152 : wpS Tryz.prog (callFunc 152 args) H K E = K (.enter 152 args) H := wpS_callFunc Tryz.func152 (by kernel_rfl) (by kernel_rfl) args K E
theorem callF153 : wpS Tryz.prog (callFunc 153 args) H K E = K (.enter 153 args) H := wpS_callFunc Tryz.func153 (by kernel_rfl) (by kernel_rfl) args K E
theorem callF154 : wpS Tryz.prog (callFunc 154 args) H K E = K (.enter 154 args) H := wpS_callFunc Tryz.func154 (by kernel_rfl) (by kernel_rfl) args K E
theorem callF155 : wpS Tryz.prog (callFunc 155 args) H K E = K (.enter 155 args) H := wpS_callFunc Tryz.func155 (by kernel_rfl) (by kernel_rfl) args K E
theorem callF156 : wpS Tryz.prog (callFunc 156 args) H K E = K (.enter 156 args) H := wpS_callFunc Tryz.func156 (by kernel_rfl) (by kernel_rfl) args K E
theorem callF157 : wpS Tryz.prog (callFunc 157 args) H K E = K (.enter 157 args) H := wpS_callFunc Tryz.func157 (by kernel_rfl) (by kernel_rfl) args K E
theorem callF161 : wpS Tryz.prog (callFunc 161 args) H K E = K (.enter 161 args) H := wpS_callFunc Tryz.func161 (by kernel_rfl) (by kernel_rfl) args K E
theorem callF162 : wpS Tryz.prog (callFunc 162 args) H K E = K (.enter 162 args) H := wpS_callFunc Tryz.func162 (by kernel_rfl) (by kernel_rfl) args K E
theorem callF163 : wpS Tryz.prog (callFunc 163 args) H K E = K (.enter 163 args) H := wpS_callFunc Tryz.func163 (by kernel_rfl) (by kernel_rfl) args K E
theorem callF164 : wpS Tryz.prog (callFunc 164 args) H K E = K (.enter 164 args) H := wpS_callFunc Tryz.func164 (by kernel_rfl) (by kernel_rfl) args K E
theorem callF165 : wpS Tryz.prog (callFunc 165 args) H K E = K (.enter 165 args) H := wpS_callFunc Tryz.func165 (by kernel_rfl) (by kernel_rfl) args K E
theorem callF166 : wpS Tryz.prog (callFunc 166 args) H K E = K (.enter 166 args) H := wpS_callFunc Tryz.func166 (by kernel_rfl) (by kernel_rfl) args K E
theorem callF167 : wpS Tryz.prog (callFunc 167 args) H K E = K (.enter 167 args) H := wpS_callFunc Tryz.func167 (by kernel_rfl) (by kernel_rfl) args K E
theorem callF168 : wpS Tryz.prog (callFunc 168 args) H K E = K (.enter 168 args) H := wpS_callFunc Tryz.func168 (by kernel_rfl) (by kernel_rfl) args K E
theorem callF192 : wpS Tryz.prog (callFunc 192 args) H K E = K (.enter 192 args) H := wpS_callFunc Tryz.func192 (by kernel_rfl) (by kernel_rfl) args K E
theorem callF193 : wpS Tryz.prog (callFunc 193 args) H K E = K (.enter 193 args) H := wpS_callFunc Tryz.func193 (by kernel_rfl) (by kernel_rfl) args K E
theorem callF194 : wpS Tryz.prog (callFunc 194 args) H K E = K (.enter 194 args) H := wpS_callFunc Tryz.func194 (by kernel_rfl) (by kernel_rfl) args K E
theorem callF195 : wpS Tryz.prog (callFunc 195 args) H K E = K (.enter 195 args) H := wpS_callFunc Tryz.func195 (by kernel_rfl) (by kernel_rfl) args K E
theorem callF196 : wpS Tryz.prog (callFunc 196 args) H K E = K (.enter 196 args) H := wpS_callFunc Tryz.func196 (by kernel_rfl) (by kernel_rfl) args K E
theorem callF197 : wpS Tryz.prog (callFunc 197 args) H K E = K (.enter 197 args) H := wpS_callFunc Tryz.func197 (by kernel_rfl) (by kernel_rfl) args K E
def xq := And.intro @Nat.zero_add (And.intro @Nat.add_zero (And.intro @Bool.true_or (And.intro @true_and (And.intro @eval_const (And.intro @eval_func (And.intro @act_eval (And.intro @act_put (And.intro @act_put_none (And.intro @upd_get (And.intro @wpS_pure (And.intro @nilK_ptr (And.intro @nilK_func (And.intro @nilK_yield (And.intro @pickK_bool (And.intro @callK_func (And.intro @bin_add (And.intro @bin_sub (And.intro @bin_mul (And.intro @bin_rem (And.intro @bin_quo (And.intro @bin_and (And.intro @bin_or (And.intro @bin_xor (And.intro @bin_andNot (And.intro @bin_shl (And.intro @bin_shr (And.intro @bin_eql (And.intro @bin_neq (And.intro @bin_lss (And.intro @bin_leq (And.intro @bin_gtr (And.intro @bin_geq (And.intro @eqG_int (And.intro @un_not (And.intro @un_neg (And.intro @w64 (And.intro @add_eq (And.intro @act_get? (And.intro @Bool.false_eq_true (And.intro @Bool.true_eq_false (And.intro @runX_nil (And.intro @numX_eq (And.intro @opX_eq (And.intro @uponX_value (And.intro @uponX_skip (And.intro @uponX_enterK (And.intro @only_normal (And.intro @envOf_zero (And.intro @envOf_succ (And.intro @envOf_nil (And.intro @YN_value (And.intro @YN_enter (And.intro @cell_set_same (And.intro @stor_set_same (And.intro @loadA_set (And.intro @storL_set (And.intro @over_list (And.intro @Bool.and_true (And.intro @Bool.and_self (And.intro @layT_nil (And.intro @layT_cons (And.intro @layT1_some (And.intro @cells_int (And.intro @cells_bool (And.intro @cells_slice (And.intro @cells_pointer (And.intro @cells_map (And.intro @cells_iface (And.intro @cells_agg (And.intro @and_true (And.intro @Nat.le_refl (And.intro @extract_E (And.intro @exK_some @onEnd_ret)))))))))))))))))))))))))))))))))))))))))))))))))))))))))))))))))))))))))
def xp := And.intro @ex_move (And.intro @ex_assign (And.intro @ex_pick (And.intro @ex_box (And.intro @ex_load (And.intro @ex_store (And.intro @ex_fieldAddr (And.intro @ex_field (And.intro @ex_indexAddr (And.intro @ex_index (And.intro @ex_extract (And.intro @ex_nil (And.intro @ex_bin (And.intro @ex_un (And.intro @ex_convert (And.intro @ex_makeInterface (And.intro @ex_makeFunc (And.intro @ex_slice (And.intro @ex_makeSlice (And.intro @ex_build (And.intro @ex_buildSlice (And.intro @ex_lookup (And.intro @ex_mapUpdate (And.intro @ex_typeAssert (And.intro @ex_builtin (And.intro @ex_callF (And.intro @ex_callV (And.intro @wanted_none (And.intro @wanted_some @ex_makeMap))))))))))))))))))))))))))))
def qc := And.intro @List.size_toArray.{0} (And.intro @List.length_cons.{0} (And.intro @List.length_nil.{0} (And.intro @List.getElem?_toArray.{0} (And.intro @List.getElem?_cons_zero.{0} (And.intro @List.getElem?_cons_succ.{0} (And.intro @Option.isNone_none.{0} (And.intro @List.map_toArray.{0,0} (And.intro @List.map_cons.{0,0} (And.intro @List.map_nil.{0,0} (And.intro @Option.bind_some.{0,0} (And.intro @beq_iff_eq.{0} (And.intro @Option.some.injEq.{0} (And.intro @List.setIfInBounds_toArray.{0} (And.intro @List.set_cons_succ.{0} (And.intro @List.set_cons_zero.{0} (And.intro @List.extract_toArray.{0} (And.intro @List.extract_eq_take_drop.{0} (And.intro @List.take_succ_cons.{0} (And.intro @List.take_zero.{0} (And.intro @List.drop_succ_cons.{0} (And.intro @List.drop_zero.{0} (And.intro @List.take_nil.{0} (And.intro @List.drop_nil.{0} (And.intro @List.cons_append.{0} (And.intro @List.nil_append.{0} (And.intro @List.append_assoc.{0} (And.intro @List.append_nil.{0} (And.intro @List.all_cons.{0} (And.intro @List.all_nil.{0} (And.intro @List.toList_toArray.{0} (And.intro @Option.map_none.{0,0} @Option.map_some.{0,0})))))))))))))))))))))))))))))))
def qd := And.intro @List.length_cons.{0} @List.length_nil.{0}
end Go.Proofs.YtofmadjgbcopdaaGreatDoor
end
section
namespace Go.X
structure Hid (q : Prop) : Prop where
 out : q
theorem unH {q : Prop} (h : Hid q) : q := h.out
structure WithK (p : Prop) : Prop where
 out : p
structure WithC (p : Prop) : Prop where
 out : p
theorem inK {p : Prop} (h : p) : WithK p := ⟨h⟩
theorem unK {p : Prop} (h : WithK p) : p := h.out
theorem inC {p : Prop} (h : p) : WithC p := ⟨h⟩
theorem unC {p : Prop} (h : WithC p) : p := h.out
def SameP (p : Prop) : Prop := p
def SameB (a b : Bool) : Prop := a = b
def SameV (a b : Value) : Prop := a = b
theorem zA {Y p q : Prop} (y : Y) (g : q) (h : Hid Y -> Hid q -> p := by
 intro yy g
 repeat' (first
 | (refine wpX_stmtL rfl ?_; intro Kz hKz; simp -implicitDefEqProofs (disch := first | omega | (simp only [qd] <;> omega)) only [xq, ↓xp, qc, Nat.reduceAdd, List.range, List.range.loop, fine, Nat.reduceEqDiff, ↓reduceIte, yielded, reduceCtorEq, Nat.reduceLT, Nat.reduceMul, Nat.reduceSub, one, Nat.reduceLeDiff, runX_cons, yy.out, aq, ↓ap, qe0, qe1, qe2, *, -g, -yy, -hKz]; try (refine hKz _ _ ?_; clear hKz Kz))
 | (refine wpX_lastL rfl ?_; intro Kz hKz; simp -implicitDefEqProofs (disch := first | omega | (simp only [qd] <;> omega)) only [xq, ↓xp, qc, Nat.reduceAdd, List.range, List.range.loop, fine, Nat.reduceEqDiff, ↓reduceIte, yielded, reduceCtorEq, Nat.reduceLT, Nat.reduceMul, Nat.reduceSub, one, Nat.reduceLeDiff, runX_cons, yy.out, aq, ↓ap, qe0, qe1, qe2, *, -g, -yy, -hKz]; try (refine hKz _ _ ?_; clear hKz Kz; (try simp only [nq, ↓reduceIte, Nat.reduceEqDiff])))
 | (refine wpX_skip ?_; (try simp only [nq, ↓reduceIte, Nat.reduceEqDiff]))
 | (refine wpX_label ?_; (try simp only [nq, ↓reduceIte, Nat.reduceEqDiff]))
 | (refine wpX_exit ?_; (try simp only [nq, ↓reduceIte, Nat.reduceEqDiff]))
 | (refine wpX_goto ?_; (try simp only [nq, ↓reduceIte, Nat.reduceEqDiff]))
 | (refine wpX_condK (by simp only [act_eval, upd_get, Nat.reduceEqDiff, Nat.reduceLT, ↓reduceIte, *, -g, -yy]; rfl) ?_ ?_ <;> (intro hcz; first | (exfalso; simp -implicitDefEqProofs (disch := omega) only [*, -g, -yy, bq, reduceCtorEq] at hcz; done) | (simp only [dq, qe3, qe4, qe5, qe6] at hcz) | skip))
 | (refine wpX_scope0 ?_)
 | (refine wpX_block ?_)
 | (refine wpX_seq ?_))
 (try (revert Kz; refine unK ?_)); (repeat (revert hcz; refine unC ?_))
 exact Hid.out g) : Hid p := ⟨h ⟨y⟩ ⟨g⟩⟩
theorem zS {Y p q : Prop} (y : Y) (g : q) (h : Hid Y -> Hid q -> p := by
 intro yy g
 repeat' (first
 | (refine wpX_stmtL rfl ?_; intro Kz hKz; simp -implicitDefEqProofs (disch := first | omega | (simp only [qd] <;> omega)) only [xq, ↓xp, qc, Nat.reduceAdd, List.range, List.range.loop, fine, Nat.reduceEqDiff, ↓reduceIte, yielded, reduceCtorEq, Nat.reduceLT, Nat.reduceMul, Nat.reduceSub, one, Nat.reduceLeDiff, runX_cons, yy.out, aq, ↓ap, qe0, qe1, qe2, *, -g, -yy, -hKz]; try (refine hKz _ _ ?_; clear hKz Kz))
 | (refine wpX_lastL rfl ?_; intro Kz hKz; simp -implicitDefEqProofs (disch := first | omega | (simp only [qd] <;> omega)) only [xq, ↓xp, qc, Nat.reduceAdd, List.range, List.range.loop, fine, Nat.reduceEqDiff, ↓reduceIte, yielded, reduceCtorEq, Nat.reduceLT, Nat.reduceMul, Nat.reduceSub, one, Nat.reduceLeDiff, runX_cons, yy.out, aq, ↓ap, qe0, qe1, qe2, *, -g, -yy, -hKz]; try (refine hKz _ _ ?_; clear hKz Kz; (try simp only [nq, ↓reduceIte, Nat.reduceEqDiff])))
 | (refine wpX_skip ?_; (try simp only [nq, ↓reduceIte, Nat.reduceEqDiff]))
 | (refine wpX_label ?_; (try simp only [nq, ↓reduceIte, Nat.reduceEqDiff]))
 | (refine wpX_exit ?_; (try simp only [nq, ↓reduceIte, Nat.reduceEqDiff]))
 | (refine wpX_goto ?_; (try simp only [nq, ↓reduceIte, Nat.reduceEqDiff]))
 | (refine wpX_condK (by simp only [act_eval, upd_get, Nat.reduceEqDiff, Nat.reduceLT, ↓reduceIte, *, -g, -yy]; rfl) ?_ ?_ <;> (intro hcz; first | (exfalso; simp -implicitDefEqProofs (disch := omega) only [*, -g, -yy, bq, reduceCtorEq] at hcz; done) | (simp only [dq, qe3, qe4, qe5, qe6] at hcz) | skip)))
 (try (revert Kz; refine unK ?_)); (repeat (revert hcz; refine unC ?_))
 exact Hid.out g) : Hid p := ⟨h ⟨y⟩ ⟨g⟩⟩
theorem zX {Y p q : Prop} (y : Y) (g : q) (h : Hid Y -> Hid q -> p := by
 intro yy g
 simp -implicitDefEqProofs (disch := first | omega | (simp only [qd] <;> omega)) only [xq, ↓xp, qc, Nat.reduceAdd, List.range, List.range.loop, fine, Nat.reduceEqDiff, ↓reduceIte, yielded, reduceCtorEq, Nat.reduceLT, Nat.reduceMul, Nat.reduceSub, one, Nat.reduceLeDiff, runX_cons, yy.out, aq, ↓ap, qe0, qe1, qe2, *, -g, -yy, -hK]
 exact Hid.out g) : Hid p := ⟨h ⟨y⟩ ⟨g⟩⟩
theorem zAi {Y p q : Prop} (y : Y) (g : q) (h : Hid Y -> Hid q -> p := by
 intro yy g
 repeat' (first
 | (refine wpX_stmtL rfl ?_; intro Kz hKz; simp -implicitDefEqProofs (disch := first | omega | (simp only [qd] <;> omega)) only [xq, ↓xp, qc, Nat.reduceAdd, List.range, List.range.loop, fine, Nat.reduceEqDiff, ↓reduceIte, yielded, reduceCtorEq, Nat.reduceLT, Nat.reduceMul, Nat.reduceSub, one, Nat.reduceLeDiff, runX_cons, yy.out, ↓ex_invoke, aq, ↓ap, qe0, qe1, qe2, *, -g, -yy, -hKz]; try (refine hKz _ _ ?_; clear hKz Kz))
 | (refine wpX_lastL rfl ?_; intro Kz hKz; simp -implicitDefEqProofs (disch := first | omega | (simp only [qd] <;> omega)) only [xq, ↓xp, qc, Nat.reduceAdd, List.range, List.range.loop, fine, Nat.reduceEqDiff, ↓reduceIte, yielded, reduceCtorEq, Nat.reduceLT, Nat.reduceMul, Nat.reduceSub, one, Nat.reduceLeDiff, runX_cons, yy.out, ↓ex_invoke, aq, ↓ap, qe0, qe1, qe2, *, -g, -yy, -hKz]; try (refine hKz _ _ ?_; clear hKz Kz; (try simp only [nq, ↓reduceIte, Nat.reduceEqDiff])))
 | (refine wpX_skip ?_; (try simp only [nq, ↓reduceIte, Nat.reduceEqDiff]))
 | (refine wpX_label ?_; (try simp only [nq, ↓reduceIte, Nat.reduceEqDiff]))
 | (refine wpX_exit ?_; (try simp only [nq, ↓reduceIte, Nat.reduceEqDiff]))
 | (refine wpX_goto ?_; (try simp only [nq, ↓reduceIte, Nat.reduceEqDiff]))
 | (refine wpX_condK (by simp only [act_eval, upd_get, Nat.reduceEqDiff, Nat.reduceLT, ↓reduceIte, *, -g, -yy]; rfl) ?_ ?_ <;> (intro hcz; first | (exfalso; simp -implicitDefEqProofs (disch := omega) only [*, -g, -yy, bq, reduceCtorEq] at hcz; done) | (simp only [dq, qe3, qe4, qe5, qe6] at hcz) | skip))
 | (refine wpX_scope0 ?_)
 | (refine wpX_block ?_)
 | (refine wpX_seq ?_))
 (try (revert Kz; refine unK ?_)); (repeat (revert hcz; refine unC ?_))
 exact Hid.out g) : Hid p := ⟨h ⟨y⟩ ⟨g⟩⟩
theorem zSi {Y p q : Prop} (y : Y) (g : q) (h : Hid Y -> Hid q -> p := by
 intro yy g
 repeat' (first
 | (refine wpX_stmtL rfl ?_; intro Kz hKz; simp -implicitDefEqProofs (disch := first | omega | (simp only [qd] <;> omega)) only [xq, ↓xp, qc, Nat.reduceAdd, List.range, List.range.loop, fine, Nat.reduceEqDiff, ↓reduceIte, yielded, reduceCtorEq, Nat.reduceLT, Nat.reduceMul, Nat.reduceSub, one, Nat.reduceLeDiff, runX_cons, yy.out, ↓ex_invoke, aq, ↓ap, qe0, qe1, qe2, *, -g, -yy, -hKz]; try (refine hKz _ _ ?_; clear hKz Kz))
 | (refine wpX_lastL rfl ?_; intro Kz hKz; simp -implicitDefEqProofs (disch := first | omega | (simp only [qd] <;> omega)) only [xq, ↓xp, qc, Nat.reduceAdd, List.range, List.range.loop, fine, Nat.reduceEqDiff, ↓reduceIte, yielded, reduceCtorEq, Nat.reduceLT, Nat.reduceMul, Nat.reduceSub, one, Nat.reduceLeDiff, runX_cons, yy.out, ↓ex_invoke, aq, ↓ap, qe0, qe1, qe2, *, -g, -yy, -hKz]; try (refine hKz _ _ ?_; clear hKz Kz; (try simp only [nq, ↓reduceIte, Nat.reduceEqDiff])))
 | (refine wpX_skip ?_; (try simp only [nq, ↓reduceIte, Nat.reduceEqDiff]))
 | (refine wpX_label ?_; (try simp only [nq, ↓reduceIte, Nat.reduceEqDiff]))
 | (refine wpX_exit ?_; (try simp only [nq, ↓reduceIte, Nat.reduceEqDiff]))
 | (refine wpX_goto ?_; (try simp only [nq, ↓reduceIte, Nat.reduceEqDiff]))
 | (refine wpX_condK (by simp only [act_eval, upd_get, Nat.reduceEqDiff, Nat.reduceLT, ↓reduceIte, *, -g, -yy]; rfl) ?_ ?_ <;> (intro hcz; first | (exfalso; simp -implicitDefEqProofs (disch := omega) only [*, -g, -yy, bq, reduceCtorEq] at hcz; done) | (simp only [dq, qe3, qe4, qe5, qe6] at hcz) | skip)))
 (try (revert Kz; refine unK ?_)); (repeat (revert hcz; refine unC ?_))
 exact Hid.out g) : Hid p := ⟨h ⟨y⟩ ⟨g⟩⟩
theorem zXi {Y p q : Prop} (y : Y) (g : q) (h : Hid Y -> Hid q -> p := by
 intro yy g
 simp -implicitDefEqProofs (disch := first | omega | (simp only [qd] <;> omega)) only [xq, ↓xp, qc, Nat.reduceAdd, List.range, List.range.loop, fine, Nat.reduceEqDiff, ↓reduceIte, yielded, reduceCtorEq, Nat.reduceLT, Nat.reduceMul, Nat.reduceSub, one, Nat.reduceLeDiff, runX_cons, yy.out, ↓ex_invoke, aq, ↓ap, qe0, qe1, qe2, *, -g, -yy, -hK]
 exact Hid.out g) : Hid p := ⟨h ⟨y⟩ ⟨g⟩⟩
theorem z0 {Y p q : Prop} (y : Y) (g : q) (h : Hid Y -> Hid q -> p := by
 intro yy g
 simp -implicitDefEqProofs (disch := first | omega | (simp only [qd] <;> omega)) only [xq, ↓xp, qc, Nat.reduceAdd, List.range, List.range.loop, fine, Nat.reduceEqDiff, ↓reduceIte, yielded, reduceCtorEq, Nat.reduceLT, Nat.reduceMul, Nat.reduceSub, one, Nat.reduceLeDiff, runX_cons, yy.out]
 exact Hid.out g) : Hid p := ⟨h ⟨y⟩ ⟨g⟩⟩
theorem z1 {Y p q : Prop} (y : Y) (g : q) (h : Hid Y -> Hid q -> p := by
 intro yy g
 (refine wpX_stmt ?_; intro K hK; simp -implicitDefEqProofs (disch := first | omega | (simp only [qd] <;> omega)) only [xq, ↓xp, qc, Nat.reduceAdd, List.range, List.range.loop, fine, Nat.reduceEqDiff, ↓reduceIte, yielded, reduceCtorEq, Nat.reduceLT, Nat.reduceMul, Nat.reduceSub, one, Nat.reduceLeDiff, runX_cons, yy.out]; refine hK _ _ ?_; clear hK K)
 exact Hid.out g) : Hid p := ⟨h ⟨y⟩ ⟨g⟩⟩
theorem z2 {Y p q : Prop} (y : Y) (g : q) (h : Hid Y -> Hid q -> p := by
 intro yy g
 (refine wpX_last ?_; intro K hK; simp -implicitDefEqProofs (disch := first | omega | (simp only [qd] <;> omega)) only [xq, ↓xp, qc, Nat.reduceAdd, List.range, List.range.loop, fine, Nat.reduceEqDiff, ↓reduceIte, yielded, reduceCtorEq, Nat.reduceLT, Nat.reduceMul, Nat.reduceSub, one, Nat.reduceLeDiff, runX_cons, yy.out]; refine hK _ _ ?_; clear hK K)
 exact Hid.out g) : Hid p := ⟨h ⟨y⟩ ⟨g⟩⟩
theorem z3 {Y p q : Prop} (y : Y) (g : q) (h : Hid Y -> Hid q -> p := by
 intro yy g
 (apply plan_take rfl rfl rfl; (focus (simp -implicitDefEqProofs (disch := first | omega | (simp only [qd] <;> omega)) only [xq, ↓xp, qc, Nat.reduceAdd, List.range, List.range.loop, fine, Nat.reduceEqDiff, ↓reduceIte, yielded, reduceCtorEq, Nat.reduceLT, Nat.reduceMul, Nat.reduceSub, one, Nat.reduceLeDiff, runX_cons, yy.out, aq, ↓ap, qe0, qe1, qe2, *, -g, -yy, -hK, YN_value] <;> (first | exact rfl | exact ⟨rfl, rfl⟩ | exact ⟨rfl, trivial⟩))); simp -implicitDefEqProofs (disch := first | omega | (simp only [qd] <;> omega)) only [act_put, act_put_none])
 exact Hid.out g) : Hid p := ⟨h ⟨y⟩ ⟨g⟩⟩
theorem z3i {Y p q : Prop} (y : Y) (g : q) (h : Hid Y -> Hid q -> p := by
 intro yy g
 (apply plan_take rfl rfl rfl; (focus (simp -implicitDefEqProofs (disch := first | omega | (simp only [qd] <;> omega)) only [xq, ↓xp, qc, Nat.reduceAdd, List.range, List.range.loop, fine, Nat.reduceEqDiff, ↓reduceIte, yielded, reduceCtorEq, Nat.reduceLT, Nat.reduceMul, Nat.reduceSub, one, Nat.reduceLeDiff, runX_cons, yy.out, ↓ex_invoke, aq, ↓ap, qe0, qe1, qe2, *, -g, -yy, -hK, YN_value] <;> (first | exact rfl | exact ⟨rfl, rfl⟩ | exact ⟨rfl, trivial⟩))); simp -implicitDefEqProofs (disch := first | omega | (simp only [qd] <;> omega)) only [act_put, act_put_none])
 exact Hid.out g) : Hid p := ⟨h ⟨y⟩ ⟨g⟩⟩
theorem z4 {Y p q : Prop} (y : Y) (g : q) (h : Hid Y -> Hid q -> p := by
 intro yy g
 (apply planT_take rfl rfl rfl ‹_›; (focus (intro HX hHX; simp -implicitDefEqProofs (disch := first | omega | (simp only [qd] <;> omega)) only [xq, ↓xp, qc, Nat.reduceAdd, List.range, List.range.loop, fine, Nat.reduceEqDiff, ↓reduceIte, yielded, reduceCtorEq, Nat.reduceLT, Nat.reduceMul, Nat.reduceSub, one, Nat.reduceLeDiff, runX_cons, yy.out, aq, ↓ap, qe0, qe1, qe2, *, -g, -yy, -hK, YN_value] <;> (first | exact rfl | exact ⟨rfl, rfl⟩ | exact ⟨rfl, trivial⟩))); simp -implicitDefEqProofs (disch := first | omega | (simp only [qd] <;> omega)) only [act_put, act_put_none])
 exact Hid.out g) : Hid p := ⟨h ⟨y⟩ ⟨g⟩⟩
theorem z5 {Y p q : Prop} (y : Y) (g : q) (h : Hid Y -> Hid q -> p := by
 intro yy g
 (apply plan_takeB rfl rfl rfl ‹_›; (focus (intro HX hHX; simp -implicitDefEqProofs (disch := first | omega | (simp only [qd] <;> omega)) only [xq, ↓xp, qc, Nat.reduceAdd, List.range, List.range.loop, fine, Nat.reduceEqDiff, ↓reduceIte, yielded, reduceCtorEq, Nat.reduceLT, Nat.reduceMul, Nat.reduceSub, one, Nat.reduceLeDiff, runX_cons, yy.out, aq, ↓ap, qe0, qe1, qe2, *, -g, -yy, -hK, YN_value] <;> (first | exact rfl | exact ⟨rfl, rfl⟩ | exact ⟨rfl, trivial⟩))); simp -implicitDefEqProofs (disch := first | omega | (simp only [qd] <;> omega)) only [act_put, act_put_none])
 exact Hid.out g) : Hid p := ⟨h ⟨y⟩ ⟨g⟩⟩
theorem z5i {Y p q : Prop} (y : Y) (g : q) (h : Hid Y -> Hid q -> p := by
 intro yy g
 (apply plan_takeB rfl rfl rfl ‹_›; (focus (intro HX hHX; simp -implicitDefEqProofs (disch := first | omega | (simp only [qd] <;> omega)) only [xq, ↓xp, qc, Nat.reduceAdd, List.range, List.range.loop, fine, Nat.reduceEqDiff, ↓reduceIte, yielded, reduceCtorEq, Nat.reduceLT, Nat.reduceMul, Nat.reduceSub, one, Nat.reduceLeDiff, runX_cons, yy.out, ↓ex_invoke, aq, ↓ap, qe0, qe1, qe2, *, -g, -yy, -hK, YN_value] <;> (first | exact rfl | exact ⟨rfl, rfl⟩ | exact ⟨rfl, trivial⟩))); simp -implicitDefEqProofs (disch := first | omega | (simp only [qd] <;> omega)) only [act_put, act_put_none])
 exact Hid.out g) : Hid p := ⟨h ⟨y⟩ ⟨g⟩⟩
theorem z6 {Y p q : Prop} (y : Y) (g : q) (h : Hid Y -> Hid q -> p := by
 intro yy g
 (apply plan_take rfl (by simp -implicitDefEqProofs (disch := omega) only [wanted_some, yielded_list, ylK_bool, List.getElem?_cons_succ, List.getElem?_cons_zero, Option.bind_some, act_get?, upd_get, Nat.reduceEqDiff, ↓reduceIte, beq_self_eq_true, *, -g, -yy]) rfl; (focus (simp -implicitDefEqProofs (disch := first | omega | (simp only [qd] <;> omega)) only [xq, ↓xp, qc, Nat.reduceAdd, List.range, List.range.loop, fine, Nat.reduceEqDiff, ↓reduceIte, yielded, reduceCtorEq, Nat.reduceLT, Nat.reduceMul, Nat.reduceSub, one, Nat.reduceLeDiff, runX_cons, yy.out, aq, ↓ap, qe0, qe1, qe2, *, -g, -yy, -hK, YN_value] <;> (first | exact rfl | exact ⟨rfl, rfl⟩ | exact ⟨rfl, trivial⟩))); simp -implicitDefEqProofs (disch := first | omega | (simp only [qd] <;> omega)) only [act_put, act_put_none])
 exact Hid.out g) : Hid p := ⟨h ⟨y⟩ ⟨g⟩⟩
theorem z6i {Y p q : Prop} (y : Y) (g : q) (h : Hid Y -> Hid q -> p := by
 intro yy g
 (apply plan_take rfl (by simp -implicitDefEqProofs (disch := omega) only [wanted_some, yielded_list, ylK_bool, List.getElem?_cons_succ, List.getElem?_cons_zero, Option.bind_some, act_get?, upd_get, Nat.reduceEqDiff, ↓reduceIte, beq_self_eq_true, *, -g, -yy]) rfl; (focus (simp -implicitDefEqProofs (disch := first | omega | (simp only [qd] <;> omega)) only [xq, ↓xp, qc, Nat.reduceAdd, List.range, List.range.loop, fine, Nat.reduceEqDiff, ↓reduceIte, yielded, reduceCtorEq, Nat.reduceLT, Nat.reduceMul, Nat.reduceSub, one, Nat.reduceLeDiff, runX_cons, yy.out, ↓ex_invoke, aq, ↓ap, qe0, qe1, qe2, *, -g, -yy, -hK, YN_value] <;> (first | exact rfl | exact ⟨rfl, rfl⟩ | exact ⟨rfl, trivial⟩))); simp -implicitDefEqProofs (disch := first | omega | (simp only [qd] <;> omega)) only [act_put, act_put_none])
 exact Hid.out g) : Hid p := ⟨h ⟨y⟩ ⟨g⟩⟩
theorem z7 {Y p q : Prop} (y : Y) (g : q) (h : Hid Y -> Hid q -> p := by
 intro yy g
 simp -implicitDefEqProofs (disch := first | omega | (simp only [qd] <;> omega)) only [xq, ↓xp, qc, Nat.reduceAdd, List.range, List.range.loop, fine, Nat.reduceEqDiff, ↓reduceIte, yielded, reduceCtorEq, Nat.reduceLT, Nat.reduceMul, Nat.reduceSub, one, Nat.reduceLeDiff, runX_cons, yy.out, aq, ↓ap, qe0, qe1, qe2, *, -g, -yy]
 exact Hid.out g) : Hid p := ⟨h ⟨y⟩ ⟨g⟩⟩
theorem z8 {Y p q : Prop} (y : Y) (g : q) (h : Hid Y -> Hid q -> p := by
 intro yy g
 (refine wpX_stmt ?_; intro Kz hKz; simp -implicitDefEqProofs (disch := first | omega | (simp only [qd] <;> omega)) only [xq, ↓xp, qc, Nat.reduceAdd, List.range, List.range.loop, fine, Nat.reduceEqDiff, ↓reduceIte, yielded, reduceCtorEq, Nat.reduceLT, Nat.reduceMul, Nat.reduceSub, one, Nat.reduceLeDiff, runX_cons, yy.out])
 (try (revert Kz; refine unK ?_)); (repeat (revert hcz; refine unC ?_))
 exact Hid.out g) : Hid p := ⟨h ⟨y⟩ ⟨g⟩⟩
theorem z9 {Y p q : Prop} (y : Y) (g : q) (h : Hid Y -> Hid q -> p := by
 intro yy g
 (refine wpX_ret ?_; (try simp only [nq, ↓reduceIte, Nat.reduceEqDiff]); rw [bodyX_ret, results_one yy.out (by decide)]; simp only [upd_get, Nat.reduceEqDiff, ↓reduceIte])
 exact Hid.out g) : Hid p := ⟨h ⟨y⟩ ⟨g⟩⟩
theorem zB {Y p q : Prop} (y : Y) (g : q) (h : Hid Y -> Hid q -> p := by
 intro yy g
 (refine wpX_ret ?_; (try simp only [nq, ↓reduceIte, Nat.reduceEqDiff]); rw [bodyX_ret, results_two yy.out (by decide) (by decide)]; simp only [upd_get, Nat.reduceEqDiff, ↓reduceIte])
 exact Hid.out g) : Hid p := ⟨h ⟨y⟩ ⟨g⟩⟩
theorem zC {Y p q : Prop} (y : Y) (g : q) (h : Hid Y -> Hid q -> p := by
 intro yy g
 (refine wpX_ret ?_; (try simp only [nq, ↓reduceIte, Nat.reduceEqDiff]); rw [bodyX_ret, results_three yy.out (by decide) (by decide) (by decide)]; simp only [upd_get, Nat.reduceEqDiff, ↓reduceIte])
 exact Hid.out g) : Hid p := ⟨h ⟨y⟩ ⟨g⟩⟩
theorem zD {Y p q : Prop} (y : Y) (g : q) (h : Hid Y -> Hid q -> p := by
 intro yy g
 ((try simp only [nq, ↓reduceIte, Nat.reduceEqDiff]); rw [bodyX_normal, results_zero yy.out])
 exact Hid.out g) : Hid p := ⟨h ⟨y⟩ ⟨g⟩⟩
theorem zE {Y p q : Prop} (y : Y) (g : q) (h : Hid Y -> Hid q -> p := by
 intro yy g
 (refine planX_act ?_; simp -implicitDefEqProofs (disch := first | omega | (simp only [qd] <;> omega)) only [xq, ↓xp, qc, Nat.reduceAdd, List.range, List.range.loop, fine, Nat.reduceEqDiff, ↓reduceIte, yielded, reduceCtorEq, Nat.reduceLT, Nat.reduceMul, Nat.reduceSub, one, Nat.reduceLeDiff, runX_cons, yy.out])
 exact Hid.out g) : Hid p := ⟨h ⟨y⟩ ⟨g⟩⟩
end Go.X
end
section
namespace Go.Proofs.YtofmadjgbcopdaaGreatDoor
open Go Go.X
def y24_13 := @callF42
def y42_13 := And.intro @callF88 (And.intro (fun H => conv_int (H := H) Tryz.underlying3 Tryz.underlying76) (fun H => conv_int (H := H) Tryz.underlying76 Tryz.underlying3))
def y88_13 := And.intro (fun H => fieldAt_eq (H := H) Tryz.underlying78 (i := 1) rfl (off := 1) rfl Tryz.sizeOf3) (And.intro (fun H => loadAt_one (H := H) Tryz.underlying3 rfl) (And.intro (fun H => conv_int (H := H) Tryz.underlying3 Tryz.underlying76) (And.intro (fun H => fieldAt_eq (H := H) Tryz.underlying78 (i := 0) rfl (off := 0) rfl Tryz.sizeOf22) (And.intro (fun H => loadAt_one (H := H) Tryz.underlying22 rfl) (And.intro (fun H => len_slice (H := H) Tryz.underlying22) (And.intro (fun H => indexAt_slice (H := H) Tryz.underlying22 Tryz.sizeOf3) (And.intro (fun H => storeAt_int (H := H) Tryz.sizeOf3) (And.intro (fun H => fieldAt_eq (H := H) Tryz.underlying78 (i := 2) rfl (off := 2) rfl Tryz.sizeOf76) (And.intro (fun H => loadAt_one (H := H) Tryz.underlying76 rfl) (fun H => storeAt_int (H := H) Tryz.sizeOf76))))))))))
def y154_13 := @callF42
def TinI (H : Hp) (b k : Nat) : Prop :=
 ∃ (sa : Option Addr) (sl sc : Nat) (g st : Int), H b = some (true, .cells #[.slice sa sl sc, .int .i64 g, .int .u64 st] 78 (0, 0)) /\ 0 <= g /\ g + k <= 4611686018427387904 /\
  ∀ i : Nat, i < sl -> ∃ sb so c e fr x, sa = some ⟨sb, so, none⟩ /\ H sb = some (false, .cells c e fr) /\ c[so + i]? = some (.int .i64 x)
theorem TinI.new {H : Hp} {b k b2 : Nat} {o : Obj} (h : TinI H b k) (hb : H b2 = none) : TinI (H.set b2 o) b k := by
 obtain ⟨sa, sl, sc, g, st, h1, h2, h3, h4⟩ := h
 refine ⟨sa, sl, sc, g, st, Hp.le_set hb _ _ h1, h2, h3, fun i hi => ?_⟩
 obtain ⟨sb, so, c, e, fr, x, ha, hs, hx⟩ := h4 i hi
 exact ⟨sb, so, c, e, fr, x, ha, Hp.le_set hb _ _ hs, hx⟩
theorem TinI.own {H : Hp} {b k b2 : Nat} {o o' : Obj} (h : TinI H b k) (hb : H b2 = some (true, o)) (hn : b ≠ b2) : TinI (H.set b2 o') b k := by
 obtain ⟨sa, sl, sc, g, st, h1, h2, h3, h4⟩ := h
 refine ⟨sa, sl, sc, g, st, by rw [get_set, if_neg hn]; exact h1, h2, h3, fun i hi => ?_⟩
 obtain ⟨sb, so, c, e, fr, x, ha, hs, hx⟩ := h4 i hi
 exact ⟨sb, so, c, e, fr, x, ha, by rw [get_set, if_neg (fun e => by subst e; rw [hb] at hs; cases hs)]; exact hs, hx⟩
theorem TinI.less {H : Hp} {b k k' : Nat} (h : TinI H b k) (hk : k' <= k) : TinI H b k' := by
 obtain ⟨sa, sl, sc, g, st, h1, h2, h3, h4⟩ := h
 exact ⟨sa, sl, sc, g, st, h1, h2, by omega, h4⟩
theorem u64_range (n : Int) : 0 <= IntKind.u64.wrap n /\ IntKind.u64.wrap n < 18446744073709551616 := by
 unfold IntKind.wrap
 simp only [IntKind.bits, IntKind.signed, Bool.false_and, Bool.false_eq_true, if_false]
 omega
theorem shr9 (x : Int) (h : 0 <= x) (h' : x < 18446744073709551616) : 0 <= x.fdiv (2 ^ (min (9 : Int).toNat IntKind.u64.bits)) /\ x.fdiv (2 ^ (min (9 : Int).toNat IntKind.u64.bits)) < 36028797018963968 := by
 have e : (2 : Int) ^ (min (9 : Int).toNat IntKind.u64.bits) = 512 := rfl
 rw [e, Int.fdiv_eq_ediv_of_nonneg _ (by omega)]
 omega
theorem bitv_u64 (f : (n : Nat) -> BitVec n -> BitVec n -> BitVec n) (x y : Int) : 0 <= bitv f .u64 x y /\ bitv f .u64 x y < 18446744073709551616 := u64_range _
theorem next_spec (m : Md) (H : Hp) (b k : Nat) (hT : TinI H b (k + 1)) :
  FnX Tryz.prog m 88 #[.pointer (some ⟨b, 0, none⟩)] H fun e H' => ∃ v : Int, 0 <= v /\ v < 36028797018963968 /\ e = .returned (.int .u64 v) /\ ∃ o, H' = H.set b o /\ TinI H' b k := by
 obtain ⟨sa, sl, sc, g, st, hb, hg, hg', hs⟩ := hT
 refine FnX_start Tryz.func88 rfl Tryz.ntmps88 (by simp) ?_
 (refine @unH _ ?_; refine z1 y88_13 ?_)
 (refine wpX_stmt ?_; intro K hK; simp -implicitDefEqProofs (disch := first | omega | (simp only [qd] <;> omega)) only [xq, ↓xp, qc, Nat.reduceAdd, List.range, List.range.loop, fine, Nat.reduceEqDiff, ↓reduceIte, yielded, reduceCtorEq, Nat.reduceLT, Nat.reduceMul, Nat.reduceSub, one, Nat.reduceLeDiff, runX_cons, y88_13, cell_of hb, exists_eq_left']; refine hK _ _ ?_; clear hK K)
 refine wpX_cut (fun a' H' => ∃ e x, a' = act 76 e [] /\ H' = H /\ e 0 = .pointer (some ⟨b, 0, none⟩) /\ e 3 = .int .u64 x) ?_ ?_
 ·refine wpX_dst0 10 [(true, 0), (true, 1), (true, 2), (true, 3), (true, 4), (true, 5), (true, 6), (true, 7), (true, 8), (true, 9)] (by kernel_rfl) (by kernel_rfl) (by simp) (by kernel_rfl) ?_; intro K hK
  iterate 10 (apply plan_take rfl rfl rfl; (focus (simp -implicitDefEqProofs (disch := first | omega | (simp only [qd] <;> omega)) only [xq, ↓xp, qc, Nat.reduceAdd, List.range, List.range.loop, fine, Nat.reduceEqDiff, ↓reduceIte, yielded, reduceCtorEq, Nat.reduceLT, Nat.reduceMul, Nat.reduceSub, one, Nat.reduceLeDiff, runX_cons, y88_13, cell_of hb, exists_eq_left', and_true, true_and] <;> (first | exact rfl | exact ⟨rfl, rfl⟩))); simp -implicitDefEqProofs (disch := first | omega | (simp only [qd] <;> omega)) only [act_put, act_put_none])
  refine plan_nil (hK _ _ ?_); clear hK K
  refine wpX_cond (by simp -implicitDefEqProofs (disch := first | omega | (simp only [qd] <;> omega)) only [act_eval, upd_get, Nat.reduceEqDiff, ↓reduceIte]; rfl) ?_
  by_cases hlt : g < sl
  ·simp only [hlt, decide_true, if_true]
   obtain ⟨sb, so, c, e, fr, x, rfl, hsb, hcx⟩ := hs g.toNat (by omega)
   have hcx' : c[so + g.toNat * 1]? = some (.int .i64 x) := by simpa using hcx
   refine wpX_dst1 15 [(true, 0), (true, 1), (true, 2), (true, 3), (true, 4), (true, 5), (true, 6), (true, 7), (true, 8), (true, 9), (true, 10), (true, 11), (true, 12), (true, 13), (true, 14)] (by kernel_rfl) (by kernel_rfl) (by simp) (by kernel_rfl) ?_; intro K hK
   iterate 15 (apply plan_take rfl rfl rfl; (focus (simp -implicitDefEqProofs (disch := first | omega | (simp only [qd] <;> omega)) only [xq, ↓xp, qc, Nat.reduceAdd, List.range, List.range.loop, fine, Nat.reduceEqDiff, ↓reduceIte, yielded, reduceCtorEq, Nat.reduceLT, Nat.reduceMul, Nat.reduceSub, one, Nat.reduceLeDiff, runX_cons, y88_13, cell_of hb, cell_of hsb, hcx', exists_eq_left', and_true, true_and] <;> (first | exact rfl | exact ⟨rfl, rfl⟩))); simp -implicitDefEqProofs (disch := first | omega | (simp only [qd] <;> omega)) only [act_put, act_put_none])
   refine plan_nil (hK _ _ ?_); clear hK K
   exact ⟨_, _, rfl, rfl, rfl, rfl⟩
  ·simp only [hlt, decide_false, Bool.false_eq_true, if_false]
   exact wpX_skip ⟨_, _, rfl, rfl, rfl, rfl⟩
 ·rintro a' H' ⟨e, x, rfl, rfl, h0, h3⟩
  (refine wpX_stmt ?_; intro K hK; simp -implicitDefEqProofs (disch := first | omega | (simp only [qd] <;> omega)) only [xq, ↓xp, qc, Nat.reduceAdd, List.range, List.range.loop, fine, Nat.reduceEqDiff, ↓reduceIte, yielded, reduceCtorEq, Nat.reduceLT, Nat.reduceMul, Nat.reduceSub, one, Nat.reduceLeDiff, runX_cons, y88_13, h0, h3, cell_of hb, exists_eq_left', stor_at hb, true_and]; refine hK _ _ ?_; clear hK K)
  (refine @unH _ ?_; refine z1 (And.intro y88_13 (And.intro @h0 (And.intro @h3 (And.intro @exists_eq_left'.{1} @true_and)))) ?_)
  refine wpX_dst0 13 [(true, 0), (true, 1), (true, 2), (true, 3), (true, 4), (true, 5), (true, 6), (true, 7), (true, 8), (true, 9), (true, 10), (true, 11), (true, 12), (false, 13)] (by kernel_rfl) (by kernel_rfl) (by simp) (by kernel_rfl) ?_; intro K hK
  iterate 13 (apply plan_take rfl rfl rfl; (focus (simp -implicitDefEqProofs (disch := first | omega | (simp only [qd] <;> omega)) only [xq, ↓xp, qc, Nat.reduceAdd, List.range, List.range.loop, fine, Nat.reduceEqDiff, ↓reduceIte, yielded, reduceCtorEq, Nat.reduceLT, Nat.reduceMul, Nat.reduceSub, one, Nat.reduceLeDiff, runX_cons, y88_13, h0, h3, exists_eq_left', and_true, true_and] <;> (first | exact rfl | exact ⟨rfl, rfl⟩))); simp -implicitDefEqProofs (disch := first | omega | (simp only [qd] <;> omega)) only [act_put, act_put_none])
  refine plan_tail ?_
  (refine @unH _ ?_; refine z0 (And.intro y88_13 (And.intro @h0 (And.intro @h3 (And.intro @exists_eq_left'.{1} @true_and)))) ?_)
  refine hK _ _ ?_; clear hK K
  (refine @unH _ ?_; refine z1 (And.intro y88_13 (And.intro @h0 (And.intro @h3 (And.intro @exists_eq_left'.{1} @true_and)))) ?_)
  (refine @unH _ ?_; refine z1 (And.intro y88_13 (And.intro @h0 (And.intro @h3 (And.intro @exists_eq_left'.{1} @true_and)))) ?_)
  (refine @unH _ ?_; refine z9 Tryz.results88 ?_)
  refine ⟨_, (shr9 _ (bitv_u64 _ _ _).1 (bitv_u64 _ _ _).2).1, (shr9 _ (bitv_u64 _ _ _).1 (bitv_u64 _ _ _).2).2, rfl, _, rfl, ?_⟩
  refine ⟨sa, sl, sc, g + 1, _, by rw [get_set, if_pos rfl], by omega, by omega, fun i hi => ?_⟩
  obtain ⟨sb, so, c, e', fr, x', h1, h2, h4⟩ := hs i hi
  exact ⟨sb, so, c, e', fr, x', h1, by rw [get_set, if_neg (fun h => by subst h; rw [hb] at h2; cases h2)]; exact h2, h4⟩
theorem upto_spec (m : Md) (H : Hp) (b k : Nat) (n : Int) (hn : n < 36028797018963967) (hT : TinI H b (k + 1)) :
  FnX Tryz.prog m 42 #[.pointer (some ⟨b, 0, none⟩), .int .i64 n] H fun e H' => ∃ r : Int, 0 <= r /\ (r <= n ∨ r = 0) /\ e = .returned (.int .i64 r) /\ ∃ o, H' = H.set b o /\ TinI H' b k := by
 refine FnX_start Tryz.func42 rfl Tryz.ntmps42 (by simp) ?_
 (refine @unH _ ?_; refine z1 y42_13 ?_)
 (refine @unH _ ?_; refine z8 y42_13 ?_; try (refine inK ?_; intro K hK))
 refine (next_spec m H b k hT).runs.mono ?_; rintro _ _ ⟨v, hv0, hv1, rfl, o, rfl, hT'⟩; simp -implicitDefEqProofs (disch := first | omega | (simp only [qd] <;> omega)) only [xq, ↓xp, qc, Nat.reduceAdd, List.range, List.range.loop, fine, Nat.reduceEqDiff, ↓reduceIte, yielded, reduceCtorEq, Nat.reduceLT, Nat.reduceMul, Nat.reduceSub, one, Nat.reduceLeDiff, runX_cons, y42_13]
 refine hK _ _ ?_; clear hK K
 refine wpX_cut (fun a' H' => ∃ e, 1 <= n /\ a' = act 16 e [] /\ H' = H.set b o /\ e 1 = .int .i64 n /\ e 5 = .int .u64 v) ?_ ?_
 ·(refine @unH _ ?_; refine z1 y42_13 ?_)
  refine wpX_cond (by simp -implicitDefEqProofs (disch := first | omega | (simp only [qd] <;> omega)) only [act_eval, upd_get, Nat.reduceEqDiff, ↓reduceIte]; rfl) ?_
  by_cases h : n < 1
  ·simp only [h, decide_true, if_true]
   (refine @unH _ ?_; refine z1 y42_13 ?_)
   refine wpX_ret ?_
   simp only [thn]
   rw [bodyX_ret, results_one Tryz.results42 (by decide)]
   exact ⟨0, by omega, .inr rfl, rfl, o, rfl, hT'⟩
  ·simp only [h, decide_false, Bool.false_eq_true, if_false]
   exact wpX_skip ⟨_, by omega, rfl, rfl, rfl, rfl⟩
 ·rintro a' H' ⟨e, h1, rfl, rfl, e1, e5⟩
  have hw : IntKind.u64.wrap n = n := IntWalk.u64_in n (by omega)
  have hw' : IntKind.u64.wrap (n + 1) = n + 1 := IntWalk.u64_in _ (by omega)
  have hm : v.tmod (n + 1) = v % (n + 1) := Int.tmod_eq_emod_of_nonneg hv0
  have hr0 := Int.emod_nonneg v (show n + 1 ≠ 0 by omega)
  have hr1 := Int.emod_lt_of_pos v (show 0 < n + 1 by omega)
  have hw2 : IntKind.i64.wrap (v % (n + 1)) = v % (n + 1) := IntWalk.i64_in _ (by omega)
  (refine @unH _ ?_; refine z1 (And.intro y42_13 (And.intro @e1 (And.intro @e5 (And.intro @hw (And.intro @hw' (And.intro @hm @hw2)))))) ?_)
  (refine @unH _ ?_; refine z9 Tryz.results42 ?_)
  exact ⟨_, hr0, .inl (by omega), rfl, o, rfl, hT'⟩
theorem within_spec (m : Md) (H : Hp) (b k : Nat) (lo hi : Int) (h0 : -1000000 <= lo) (h1 : lo <= 1000000) (h2 : -1000000 <= hi) (h3 : hi <= 1000000) (hT : TinI H b (k + 1)) :
  FnX Tryz.prog m 24 #[.pointer (some ⟨b, 0, none⟩), .int .i64 lo, .int .i64 hi] H fun e H' => ∃ r : Int, lo <= r /\ (r <= hi ∨ r = lo) /\ e = .returned (.int .i64 r) /\ ∃ o, H' = H.set b o /\ TinI H' b k := by
 refine FnX_start Tryz.func24 rfl Tryz.ntmps24 (by simp) ?_
 (refine @unH _ ?_; refine z1 @y24_13 ?_)
 (refine @unH _ ?_; refine z8 @y24_13 ?_; try (refine inK ?_; intro K hK))
 refine (upto_spec m H b k (hi - lo) (by omega) hT).runs.mono ?_
 rintro _ _ ⟨r, hr0, hr1, rfl, o, rfl, hT'⟩
 have hr2 : r <= 2000000 := by omega
 (refine @unH _ ?_; refine z0 @y24_13 ?_)
 refine hK _ _ ?_; clear hK K
 (refine @unH _ ?_; refine z9 Tryz.results24 ?_)
 exact ⟨_, by omega, by omega, rfl, o, rfl, hT'⟩
theorem rarely_spec (m : Md) (H : Hp) (b k : Nat) (n : Int) (h0 : -1000000 <= n) (h1 : n <= 1000000) (hT : TinI H b (k + 1)) :
  FnX Tryz.prog m 154 #[.pointer (some ⟨b, 0, none⟩), .int .i64 n] H fun e H' => ∃ r : Bool, e = .returned (.bool r) /\ ∃ o, H' = H.set b o /\ TinI H' b k := by
 refine FnX_start Tryz.func154 rfl Tryz.ntmps154 (by simp) ?_
 (refine @unH _ ?_; refine z1 @y154_13 ?_)
 (refine @unH _ ?_; refine z8 @y154_13 ?_; try (refine inK ?_; intro K hK))
 refine (upto_spec m H b k (n - 1) (by omega) hT).runs.mono ?_; rintro _ _ ⟨r, hr0, hr1, rfl, o, rfl, hT'⟩; simp -implicitDefEqProofs (disch := first | omega | (simp only [qd] <;> omega)) only [xq, ↓xp, qc, Nat.reduceAdd, List.range, List.range.loop, fine, Nat.reduceEqDiff, ↓reduceIte, yielded, reduceCtorEq, Nat.reduceLT, Nat.reduceMul, Nat.reduceSub, one, Nat.reduceLeDiff, runX_cons, y154_13]
 refine hK _ _ ?_; clear hK K
 (refine @unH _ ?_; refine z9 Tryz.results154 ?_)
 exact ⟨_, rfl, o, rfl, hT'⟩
end Go.Proofs.YtofmadjgbcopdaaGreatDoor
end
section
namespace Go.Proofs.YtofmadjgbcopdaaGreatDoor
open Go Go.X
def y82_14 := And.intro (fun H => len_slice (H := H) Tryz.underlying22) (And.intro @callF42 (And.intro (fun H => indexAt_slice (H := H) Tryz.underlying22 Tryz.sizeOf3) (fun H => loadAt_one (H := H) Tryz.underlying3 rfl)))
def SlI (H : Hp) (v : Value) (xs : List Int) : Prop :=
 ∃ (a : Option Addr) (cap : Nat), v = .slice a xs.length cap /\ xs.length <= cap /\ ∀ (i : Nat) (x : Int), xs[i]? = some x -> ∃ (b o : Nat) (p : Bool) (c : Array Value) (fr : Nat × Nat), a = some ⟨b, o, none⟩ /\ H b = some (p, .cells c 3 fr) /\ c[o + i]? = some (.int .i64 x)
theorem SlI.le {H H' : Hp} {v : Value} {xs : List Int} (h : SlI H v xs) (hl : H.le H') : SlI H' v xs := by
 obtain ⟨a, cap, hv, hc, h⟩ := h
 refine ⟨a, cap, hv, hc, fun i x hi => ?_⟩
 obtain ⟨b, o, p, c, fr, ha, hb, hx⟩ := h i x hi
 exact ⟨b, o, p, c, fr, ha, hl _ _ hb, hx⟩
theorem SlI.set {H : Hp} {v : Value} {xs : List Int} (h : SlI H v xs) {b : Nat} {o : Obj} (hb : ∀ p c fr, H b ≠ some (p, .cells c 3 fr)) : SlI (H.set b o) v xs := by
 obtain ⟨a, cap, hv, hc, h⟩ := h
 refine ⟨a, cap, hv, hc, fun i x hi => ?_⟩
 obtain ⟨b', o', p, c, fr, ha, hb', hx⟩ := h i x hi
 refine ⟨b', o', p, c, fr, ha, ?_, hx⟩
 rw [get_set, if_neg (fun e => hb p c fr (by rw [<- e]; exact hb'))]
 exact hb'
theorem SlI.tin {H : Hp} {v : Value} {xs : List Int} (h : SlI H v xs) {b k : Nat} {o : Obj} (hT : TinI H b k) : SlI (H.set b o) v xs := by
 obtain ⟨sa, sl, sc, g, st, hb, _⟩ := hT
 exact h.set fun p c fr e => by rw [hb] at e; cases e
theorem SlI.nil (H : Hp) (a : Option Addr) (cap : Nat) : SlI H (.slice a 0 cap) [] := ⟨a, cap, rfl, Nat.zero_le _, fun i x hi => by simp at hi⟩
theorem SlI.cons {H : Hp} {v : Value} {xs : List Int} (h : SlI H v xs) (hx : xs ≠ []) : ∃ (b o cap : Nat) (p : Bool) (c : Array Value) (fr : Nat × Nat), v = .slice (some ⟨b, o, none⟩) xs.length cap /\ xs.length <= cap /\ H b = some (p, .cells c 3 fr) /\ ∀ (i : Nat) (x : Int), xs[i]? = some x -> c[o + i]? = some (.int .i64 x) := by
 obtain ⟨a, cap, hv, hc, h⟩ := h
 cases xs with
 | nil => exact absurd rfl hx
 | cons y ys =>
  obtain ⟨b, o, p, c, fr, rfl, hb, _⟩ := h 0 y rfl
  refine ⟨b, o, cap, p, c, fr, hv, hc, hb, fun i x hi => ?_⟩
  obtain ⟨b', o', p', c', fr', ha, hb', hx'⟩ := h i x hi
  simp only [Option.some.injEq, Addr.mk.injEq] at ha
  obtain ⟨rfl, rfl, _⟩ := ha
  rw [hb] at hb'
  simp only [Option.some.injEq, Prod.mk.injEq, Obj.cells.injEq] at hb'
  obtain ⟨_, rfl, _⟩ := hb'
  exact hx'
def ints (xs : List Int) : List Value := xs.map (Value.int .i64)
theorem ints_get {xs : List Int} {i : Nat} {x : Int} (h : xs[i]? = some x) : (ints xs)[i]? = some (.int .i64 x) := by simp [ints, h]
theorem ints_app (xs ys : List Int) : ints (xs ++ ys) = ints xs ++ ints ys := by simp [ints]
theorem ints_len (xs : List Int) : (ints xs).length = xs.length := by simp [ints]
theorem ints_one (xs : List Int) : ∀ u ∈ ints xs, one u = true := fun u hu => by
 simp only [ints, List.mem_map] at hu
 obtain ⟨x, _, rfl⟩ := hu
 rfl
theorem SlI.row {H₀ H : Hp} {v : Value} {n : Nat} {xs : List Int} (h : NewRow H₀ H v 3 1 n (ints xs)) : SlI H v xs := by
 have hl := h.len
 rw [ints_len, Nat.mul_one] at hl
 rcases h with ⟨rfl, rfl, hx, _⟩ | ⟨b, c, cap, hb, rfl, rfl, _, _, hc, hget⟩
 ·have : xs = [] := by simpa [ints] using hx
  subst this
  exact SlI.nil _ _ _
 ·refine ⟨_, cap, by rw [hl], by omega, fun i x hi => ⟨b, 0, true, c, (0, 0), rfl, by simp [get_set], ?_⟩⟩
  rw [Nat.zero_add]
  exact hget i _ (ints_get hi)
theorem append_ints {H₀ H : Hp} {v : Value} {n : Nat} {xs : List Int} (hrow : NewRow H₀ H v 3 1 n (ints xs)) {Hx : Hp} (hx : H.le Hx) {g o m cap : Nat} {ys : List Int} (hm : ys.length = m)
  (hg : H₀ g = none -> H g = none) (hys : ∀ (j : Nat) (y : Int), ys[j]? = some y -> Hx.cell ⟨g, o + j, none⟩ = some (.int .i64 y)) (hn : n + m <= 1073741824)
  (ty : TypeId) (cb : Array Bool) (K : Next -> Hp -> Prop) (E : Value -> Hp -> Prop)
  (h : ∀ v' H' H'', NewRow H₀ H' v' 3 1 (n + m) (ints (xs ++ ys)) -> H'.le H'' -> K (.value v') H'') :
  wpS Tryz.prog (builtin .append #[22, 22] ty cb #[v, .slice (some ⟨g, o, none⟩) m cap]) Hx K E := by
 refine append_law Tryz.underlying22 Tryz.sizeOf3 Tryz.zeroValue3 rfl Tryz.typeInfo3 (by decide) (by decide) hrow hx (news := ints ys) (by rw [ints_len, hm, Nat.mul_one]) hg (fun j u hj => ?_) (ints_one ys) hn ty cb K E (fun v' H' H'' h1 h2 => h v' H' H'' (by rw [ints_app]; exact h1) h2)
 simp only [ints, List.getElem?_map, Option.map_eq_some_iff] at hj
 obtain ⟨y, hy, rfl⟩ := hj
 exact hys j y hy
theorem either_spec (m : Md) (H : Hp) (b k : Nat) (v : Value) (xs : List Int) (hv : SlI H v xs) (hne : xs ≠ []) (hl : xs.length <= 1000000) (hT : TinI H b (k + 1)) :
  FnX Tryz.prog m 82 #[.pointer (some ⟨b, 0, none⟩), v] H fun e H' => ∃ r : Int, r ∈ xs /\ e = .returned (.int .i64 r) /\ ∃ o, H' = H.set b o /\ TinI H' b k := by
 have hpos : 0 < xs.length := List.length_pos_iff.2 hne
 obtain ⟨sb, so, cap, p, c, fr, rfl, _, hsb, hc⟩ := hv.cons hne
 have hbn : sb ≠ b := fun e => by
  obtain ⟨_, _, _, _, _, hb, _⟩ := hT
  rw [e, hb] at hsb
  cases hsb
 refine FnX_start Tryz.func82 rfl Tryz.ntmps82 (by simp) ?_
 (refine @unH _ ?_; refine z1 y82_14 ?_)
 (refine @unH _ ?_; refine z8 y82_14 ?_; try (refine inK ?_; intro K hK))
 refine (upto_spec m H b k ((xs.length : Int) - 1) (by omega) hT).runs.mono ?_
 rintro _ _ ⟨r, hr0, hr1, rfl, o, rfl, hT'⟩
 have hr2 : r < xs.length := by omega
 have hrn : r.toNat < xs.length := by omega
 have hx := hc r.toNat xs[r.toNat] (List.getElem?_eq_getElem hrn)
 have hx' : c[so + r.toNat * 1]? = some (.int .i64 xs[r.toNat]) := by simpa using hx
 have hsb' : (H.set b o) sb = some (p, .cells c 3 fr) := by rw [get_set, if_neg hbn]; exact hsb
 simp -implicitDefEqProofs (disch := first | omega | (simp only [qd] <;> omega)) only [xq, ↓xp, qc, Nat.reduceAdd, List.range, List.range.loop, fine, Nat.reduceEqDiff, ↓reduceIte, yielded, reduceCtorEq, Nat.reduceLT, Nat.reduceMul, Nat.reduceSub, one, Nat.reduceLeDiff, runX_cons, y82_14, cell_of hsb', hx', exists_eq_left']
 refine hK _ _ ?_; clear hK K
 (refine @unH _ ?_; refine z9 Tryz.results82 ?_)
 exact ⟨_, List.getElem_mem hrn, rfl, o, rfl, hT'⟩
end Go.Proofs.YtofmadjgbcopdaaGreatDoor
end
section
namespace Go.Proofs.YtofmadjgbcopdaaGreatDoor
open Go Go.X
def y31_15 := (fun H => buildSlice0 (H := H) Tryz.underlying22 Tryz.sizeOf3)
def y40_15 := And.intro (fun H => len_slice (H := H) Tryz.underlying22) (And.intro (fun H => indexAt_slice (H := H) Tryz.underlying22 Tryz.sizeOf3) (fun H => loadAt_one (H := H) Tryz.underlying3 rfl))
def y83_15 := And.intro (fun H => ex_alloc (H := H) (P := Tryz.prog) (h := Tryz.zeroValue27)) (And.intro @callF24 (And.intro @bld_27_0_1_0 (fun H => storeAt_agg (H := H) Tryz.sizeOf27)))
def y121_15 := And.intro (fun H => makeSlice_one (H := H) Tryz.underlying22 Tryz.sizeOf3 Tryz.zeroValue3 rfl Tryz.typeInfo3 (by decide)) (And.intro @callF42 (And.intro (fun H => indexAt_slice (H := H) Tryz.underlying22 Tryz.sizeOf3) (And.intro (fun H => loadAt_one (H := H) Tryz.underlying3 rfl) (fun H => storeAt_int (H := H) Tryz.sizeOf3))))
def Lex (b : Option Nat) (H H' : Hp) : Prop := ∀ x v, H x = some v -> ∃ v', H' x = some v' /\ (b ≠ some x -> v' = v)
theorem Lex.refl {b : Option Nat} {H : Hp} : Lex b H H := fun _ v h => ⟨v, h, fun _ => rfl⟩
theorem Lex.trans {b : Option Nat} {H H' H'' : Hp} (h : Lex b H H') (h' : Lex b H' H'') : Lex b H H'' := fun x v hx => by
 obtain ⟨v1, h1, e1⟩ := h x v hx
 obtain ⟨v2, h2, e2⟩ := h' x v1 h1
 exact ⟨v2, h2, fun hn => (e2 hn).trans (e1 hn)⟩
theorem Lex.hold {b : Option Nat} {b' : Nat} {H H' : Hp} {v : Bool × Obj} (h : Lex b H H') (hx : H b' = some v) (hn : b ≠ some b') : H' b' = some v := by
 obtain ⟨v', h', e⟩ := h _ _ hx
 rw [h', e hn]
theorem Lex.keeps {b b' : Nat} {H H' : Hp} {v : Bool × Obj} (h : Lex (some b) H H') (hx : H b' = some v) (hn : b' ≠ b) : H' b' = some v := h.hold hx (fun e => hn (Option.some.inj e).symm)
theorem Lex.of {b : Option Nat} {H H' : Hp} (h : H.le H') : Lex b H H' := fun x v hx => ⟨v, h _ _ hx, fun _ => rfl⟩
theorem Lex.toLe {H H' : Hp} (h : Lex none H H') : H.le H' := fun _ _ hx => h.hold hx (by simp)
theorem Lex.gone {b : Option Nat} {H H' : Hp} (h : Lex b H H') {x : Nat} (hx : H' x = none) : H x = none := by
 cases e : H x with
 | none => rfl
 | some v => obtain ⟨v', h', _⟩ := h x v e; rw [hx] at h'; cases h'
theorem Lex.set {b : Nat} {H H' : Hp} {o : Obj} (h : Lex (some b) H H') : Lex (some b) H (H'.set b o) := fun x v hx => by
 obtain ⟨v', h', e⟩ := h x v hx
 by_cases hxb : x = b
 ·exact ⟨_, by rw [get_set, if_pos hxb], fun hn => absurd (by rw [hxb]) hn⟩
 ·exact ⟨v', by rw [get_set, if_neg hxb]; exact h', e⟩
theorem Lex.le {b : Option Nat} {H H' H'' : Hp} (h : Lex b H H') (hl : H'.le H'') : Lex b H H'' := h.trans (Lex.of hl)
theorem Lex.new {b : Option Nat} {b' : Nat} {H H' : Hp} {o : Obj} (h : Lex b H H') (hb : H' b' = none) : Lex b H (H'.set b' o) := h.le (Hp.le_set hb)
theorem Lex.own {b : Option Nat} {b' : Nat} {H H' : Hp} {o : Obj} (h : Lex b H H') (hb : H b' = none) : Lex b H (H'.set b' o) := fun x v hx => by
 obtain ⟨v', h', e⟩ := h x v hx
 exact ⟨v', by rw [get_set, if_neg (fun e => by rw [e, hb] at hx; cases hx)]; exact h', e⟩
theorem SlI.lex {H H' : Hp} {v : Value} {xs : List Int} (h : SlI H v xs) {b k : Nat} (hl : Lex (some b) H H') (hT : TinI H b k) : SlI H' v xs := by
 obtain ⟨a, cap, hv, hc, h⟩ := h
 refine ⟨a, cap, hv, hc, fun i x hi => ?_⟩
 obtain ⟨b', o, p, c, fr, ha, hb, hx⟩ := h i x hi
 refine ⟨b', o, p, c, fr, ha, hl.keeps hb (fun e => ?_), hx⟩
 obtain ⟨_, _, _, _, _, hb2, _⟩ := hT
 rw [e, hb2] at hb; cases hb
theorem TinI.ne {H : Hp} {b b' k : Nat} (h : TinI H b k) (hb : H b' = none) : b' ≠ b := fun e => by
 obtain ⟨_, _, _, _, _, hb2, _⟩ := h
 rw [e, hb2] at hb; cases hb
theorem TinI.neI {H : Hp} {b b' k : Nat} {p : Bool} {c : Array Value} {fr : Nat × Nat} (h : TinI H b k) (hb : H b' = some (p, .cells c 3 fr)) : b' ≠ b := fun e => by
 obtain ⟨_, _, _, _, _, hb2, _⟩ := h
 rw [e, hb2] at hb; cases hb
theorem ints_setL (xs : List Int) (j : Nat) (x : Int) : (ints xs).set j (.int .i64 x) = ints (xs.set j x) := by
 simp [ints, List.map_set]
theorem ints_at {xs : List Int} {j : Nat} (h : j < xs.length) : (ints xs).toArray[j]? = some (.int .i64 xs[j]) := by
 simp [ints, h]
def MixOk (n j : Nat) (xs : List Int) : Prop :=
 xs.length = n /\ (∀ i, i < j -> ∃ x, xs[i]? = some x /\ 0 <= x /\ x < j) /\ ∀ i i' x, i < j -> i' < j -> xs[i]? = some x -> xs[i']? = some x -> i = i'
theorem MixOk.step {n j r : Nat} {xs : List Int} (h : MixOk n j xs) (hj : j < n) (hr : r <= j) {y : Int} (hy : xs[r]? = some y) : MixOk n (j + 1) ((xs.set j y).set r j) := by
 obtain ⟨hl, h1, h2⟩ := h
 have hg : ∀ i, i < j + 1 -> ((xs.set j y).set r (j : Int))[i]? = if i = r then some (j : Int) else if i = j then some y else xs[i]? := by
  intro i hi
  rw [List.getElem?_set, List.getElem?_set, List.length_set]
  by_cases e : i = r
  ·subst e; rw [if_pos rfl, if_pos rfl, if_pos (by omega)]
  ·rw [if_neg (fun h => e h.symm), if_neg e]
   by_cases e' : i = j
   ·subst e'; rw [if_pos rfl, if_pos rfl, if_pos (by omega)]
   ·rw [if_neg (fun h => e' h.symm), if_neg e']
 refine ⟨by simp [hl], fun i hi => ?_, fun i i' x hi hi' hx hx' => ?_⟩
 ·rw [hg i hi]
  by_cases e : i = r
  ·exact ⟨j, by simp [e], by omega, by omega⟩
  ·rw [if_neg e]
   by_cases e' : i = j
   ·rw [if_pos e']
    obtain ⟨x, hx, h0, h0'⟩ := h1 r (by omega)
    rw [hy] at hx; cases hx
    exact ⟨y, rfl, h0, by omega⟩
   ·rw [if_neg e']
    obtain ⟨x, hx, h0, h0'⟩ := h1 i (by omega)
    exact ⟨x, hx, h0, by omega⟩
 ·rw [hg i hi] at hx
  rw [hg i' hi'] at hx'
  have lo : ∀ i x, i < j -> xs[i]? = some x -> x < j := fun i x hi hx => by
   obtain ⟨x', hx', _, h⟩ := h1 i hi
   rw [hx] at hx'; cases hx'; exact h
  by_cases e : i = r <;> by_cases e' : i' = r <;> simp only [e, e', if_true, if_false] at hx hx' ⊢
  ·exfalso
   cases hx
   by_cases f : i' = j
   ·rw [if_pos f] at hx'; cases hx'
    have := lo r j (by omega) hy
    omega
   ·rw [if_neg f] at hx'
    have := lo i' j (by omega) hx'
    omega
  ·exfalso
   cases hx'
   by_cases f : i = j
   ·rw [if_pos f] at hx; cases hx
    have := lo r j (by omega) hy
    omega
   ·rw [if_neg f] at hx
    have := lo i j (by omega) hx
    omega
  ·by_cases f : i = j <;> by_cases f' : i' = j <;> simp only [f, f', if_true, if_false] at hx hx' ⊢
   ·cases hx
    exfalso
    exact e' (h2 i' r y (by omega) (by omega) hx' hy)
   ·cases hx'
    exfalso
    exact e (h2 i r y (by omega) (by omega) hx hy)
   ·exact h2 i i' x (by omega) (by omega) hx hx'
theorem MixOk.nodup {n : Nat} {xs : List Int} (h : MixOk n n xs) : xs.length = n /\ xs.Nodup /\ ∀ x ∈ xs, 0 <= x /\ x < n := by
 obtain ⟨hl, h1, h2⟩ := h
 refine ⟨hl, ?_, fun x hx => ?_⟩
 ·rw [List.Nodup, List.pairwise_iff_getElem]
  intro i j hi hj hlt e
  have := h2 i j xs[i] (by omega) (by omega) (List.getElem?_eq_getElem hi) (by rw [List.getElem?_eq_getElem hj, e])
  omega
 ·obtain ⟨i, hi, rfl⟩ := List.getElem_of_mem hx
  obtain ⟨x, hx, h⟩ := h1 i (by omega)
  rw [List.getElem?_eq_getElem hi] at hx
  cases hx
  exact h
theorem mixed_spec (m : Md) (H : Hp) (b k : Nat) (n : Nat) (hn : n <= 1000) (hT : TinI H b (k + n)) :
  FnX Tryz.prog m 121 #[.pointer (some ⟨b, 0, none⟩), .int .i64 n] H fun e H' => ∃ v xs, e = .returned v /\ SlI H' v xs /\ xs.length = n /\ xs.Nodup /\ (∀ x ∈ xs, 0 <= x /\ x < n) /\ Lex (some b) H H' /\ TinI H' b k := by
 refine FnX_start Tryz.func121 rfl Tryz.ntmps121 (by simp) ?_
 (refine @unH _ ?_; refine z1 y121_15 ?_)
 (refine @unH _ ?_; refine z8 y121_15 ?_; try (refine inK ?_; intro K hK))
 intro lb hlb
 refine hK _ _ ?_; clear hK K
 have hlbn : lb ≠ b := hT.ne hlb
 refine wpX_seq ?_
 (refine @unH _ ?_; refine z1 y121_15 ?_)
 refine wpX_block (wpX_loop (fun w a' H' => ∃ e j xs, w = n - j /\ j <= n /\ a' = act 30 e [] /\ e 0 = .pointer (some ⟨b, 0, none⟩) /\ e 1 = .int .i64 n /\ e 5 = .slice (some ⟨lb, 0, none⟩) n n /\ e 6 = .int .i64 j /\
  H' lb = some (true, .cells (ints xs).toArray 3 (0, 0)) /\ Lex (some b) H H' /\ TinI H' b (k + (n - j)) /\ MixOk n j xs) (n := n) ?_ ?_)
 ·exact ⟨_, 0, List.replicate n 0, by omega, by omega, rfl, rfl, rfl, rfl, rfl, by rw [get_set, if_pos rfl]; simp [ints], Lex.refl.new hlb, (hT.new hlb).less (by omega), by simp, fun i hi => by omega, fun i i' x hi => by omega⟩
 ·rintro w a' H' ⟨e, j, xs, rfl, hj, rfl, e0, e1, e5, e6, hlb', hlex, hT', hM⟩
  refine wpX_seq ?_
  (refine @unH _ ?_; refine z1 (And.intro y121_15 (And.intro @e0 (And.intro @e1 (And.intro @e5 @e6)))) ?_)
  refine wpX_cond (by simp -implicitDefEqProofs (disch := first | omega | (simp only [qd] <;> omega)) only [act_eval, upd_get, Nat.reduceEqDiff, ↓reduceIte]; rfl) ?_
  by_cases hlt : j < n
  ·simp only [Int.ofNat_lt, hlt, decide_true, if_true]
   refine wpX_skip (wpX_seq (wpX_block ?_))
   (refine @unH _ ?_; refine z8 (And.intro y121_15 (And.intro @e0 (And.intro @e1 (And.intro @e5 @e6)))) ?_; try (refine inK ?_; intro K hK))
   refine (upto_spec m H' b (k + (n - (j + 1))) (j : Int) (by omega) (by rw [show k + (n - (j + 1)) + 1 = k + (n - j) by omega]; exact hT')).runs.mono ?_
   rintro _ _ ⟨r, hr0, hr1, rfl, o, rfl, hT2⟩
   (refine @unH _ ?_; refine z0 y121_15 ?_)
   refine hK _ _ ?_; clear hK K
   obtain ⟨r, rfl⟩ := Int.eq_ofNat_of_zero_le hr0
   have hrj : r <= j := by omega
   have hrn : r < n := by omega
   have hl := hM.1
   have hlb2 : (H'.set b o) lb = some (true, .cells (ints xs).toArray 3 (0, 0)) := by rw [get_set, if_neg hlbn]; exact hlb'
   have hx := ints_at (xs := xs) (j := r) (by omega)
   (refine wpX_stmt ?_; intro K hK; simp -implicitDefEqProofs (disch := first | omega | (simp only [qd] <;> omega)) only [xq, ↓xp, qc, Nat.reduceAdd, List.range, List.range.loop, fine, Nat.reduceEqDiff, ↓reduceIte, yielded, reduceCtorEq, Nat.reduceLT, Nat.reduceMul, Nat.reduceSub, one, Nat.reduceLeDiff, runX_cons, y121_15, e0, e1, e5, e6, cell_of hlb2, stor_at hlb2, Int.toNat_natCast, Nat.mul_one, hx, exists_eq_left', ints_setL, ints_len, hl, hlt, hrn]; refine hK _ _ ?_; clear hK K)
   (refine wpX_last ?_; intro K hK; simp -implicitDefEqProofs (disch := first | omega | (simp only [qd] <;> omega)) only [xq, ↓xp, qc, Nat.reduceAdd, List.range, List.range.loop, fine, Nat.reduceEqDiff, ↓reduceIte, yielded, reduceCtorEq, Nat.reduceLT, Nat.reduceMul, Nat.reduceSub, one, Nat.reduceLeDiff, runX_cons, y121_15, e0, e1, e5, e6, Int.toNat_natCast, Nat.mul_one, ints_setL, ints_len, List.length_set, hl, hlt, hrn, set_set]; refine hK _ _ ?_; clear hK K)
   (refine wpX_last ?_; intro K hK; simp -implicitDefEqProofs (disch := first | omega | (simp only [qd] <;> omega)) only [xq, ↓xp, qc, Nat.reduceAdd, List.range, List.range.loop, fine, Nat.reduceEqDiff, ↓reduceIte, yielded, reduceCtorEq, Nat.reduceLT, Nat.reduceMul, Nat.reduceSub, one, Nat.reduceLeDiff, runX_cons, y121_15, e0, e1, e5, e6, Int.toNat_natCast, Nat.mul_one]; refine hK _ _ ?_; clear hK K)
   simp -implicitDefEqProofs (disch := first | omega | (simp only [qd] <;> omega)) only [thn, blk, ↓reduceIte, Nat.reduceEqDiff]
   refine ⟨_, ?_, _, j + 1, (xs.set j xs[r]).set r j, rfl, hlt, rfl, e0, e1, e5, rfl, by rw [get_set, if_pos rfl], (hlex.set.own hlb), (hT2.own hlb2 (Ne.symm hlbn)).less (by omega), hM.step hlt hrj (List.getElem?_eq_getElem _)⟩
   omega
  ·simp only [Int.ofNat_lt, hlt, decide_false, Bool.false_eq_true, if_false]
   (refine wpX_exit ?_; simp only [thn, blk, ↓reduceIte, Nat.reduceEqDiff])
   (refine @unH _ ?_; refine z1 (And.intro y121_15 @e5) ?_)
   (refine @unH _ ?_; refine z9 Tryz.results121 ?_)
   have : j = n := by omega
   subst this
   obtain ⟨hl, hnd, hb⟩ := hM.nodup
   exact ⟨_, xs, rfl, ⟨_, _, by rw [hl], by omega, fun i x hi => ⟨lb, 0, true, _, _, rfl, hlb', by rw [Nat.zero_add]; simpa using ints_get hi⟩⟩, hl, hnd, hb, hlex, hT'.less (by omega)⟩
theorem uptoL (m : Md) (H : Hp) (b k : Nat) (n : Int) (hn : n < 36028797018963967) (hT : TinI H b (k + 1)) :
  FnX Tryz.prog m 42 #[.pointer (some ⟨b, 0, none⟩), .int .i64 n] H fun e H' => ∃ r : Int, 0 <= r /\ (r <= n ∨ r = 0) /\ e = .returned (.int .i64 r) /\ Lex (some b) H H' /\ TinI H' b k :=
 (upto_spec m H b k n hn hT).mono fun _ _ ⟨r, h0, h1, he, _, hH, hT'⟩ => ⟨r, h0, h1, he, hH ▸ Lex.refl.set, hT'⟩
theorem withinL (m : Md) (H : Hp) (b k : Nat) (lo hi : Int) (h0 : -1000000 <= lo) (h1 : lo <= 1000000) (h2 : -1000000 <= hi) (h3 : hi <= 1000000) (hT : TinI H b (k + 1)) :
  FnX Tryz.prog m 24 #[.pointer (some ⟨b, 0, none⟩), .int .i64 lo, .int .i64 hi] H fun e H' => ∃ r : Int, lo <= r /\ (r <= hi ∨ r = lo) /\ e = .returned (.int .i64 r) /\ Lex (some b) H H' /\ TinI H' b k :=
 (within_spec m H b k lo hi h0 h1 h2 h3 hT).mono fun _ _ ⟨r, h0, h1, he, _, hH, hT'⟩ => ⟨r, h0, h1, he, hH ▸ Lex.refl.set, hT'⟩
theorem rarelyL (m : Md) (H : Hp) (b k : Nat) (n : Int) (h0 : -1000000 <= n) (h1 : n <= 1000000) (hT : TinI H b (k + 1)) :
  FnX Tryz.prog m 154 #[.pointer (some ⟨b, 0, none⟩), .int .i64 n] H fun e H' => ∃ r : Bool, e = .returned (.bool r) /\ Lex (some b) H H' /\ TinI H' b k :=
 (rarely_spec m H b k n h0 h1 hT).mono fun _ _ ⟨r, he, _, hH, hT'⟩ => ⟨r, he, hH ▸ Lex.refl.set, hT'⟩
theorem eitherL (m : Md) (H : Hp) (b k : Nat) (v : Value) (xs : List Int) (hv : SlI H v xs) (hne : xs ≠ []) (hl : xs.length <= 1000000) (hT : TinI H b (k + 1)) :
  FnX Tryz.prog m 82 #[.pointer (some ⟨b, 0, none⟩), v] H fun e H' => ∃ r : Int, r ∈ xs /\ e = .returned (.int .i64 r) /\ Lex (some b) H H' /\ TinI H' b k :=
 (either_spec m H b k v xs hv hne hl hT).mono fun _ _ ⟨r, h0, he, _, hH, hT'⟩ => ⟨r, h0, he, hH ▸ Lex.refl.set, hT'⟩
theorem set_at {H : Hp} {b : Nat} {o : Obj} : (H.set b o) b = some (true, o) := by rw [get_set, if_pos rfl]
theorem set_ne {H : Hp} {b b' : Nat} {o : Obj} (h : b' ≠ b) : (H.set b o) b' = H b' := by rw [get_set, if_neg h]
theorem SlI.lit {H : Hp} {b : Nat} {vs : List Value} (xs : List Int) (h : vs = ints xs) {n : Nat} (hn : xs.length = n) : SlI (H.set b (.cells vs.toArray 3 (0, 0))) (.slice (some ⟨b, 0, none⟩) n n) xs :=
 ⟨_, _, by rw [hn], by omega, fun i x hi => ⟨b, 0, true, _, _, rfl, set_at, by rw [Nat.zero_add, h]; simpa using ints_get hi⟩⟩
theorem bandIn_spec (m : Md) (H : Hp) (b k : Nat) (lo hi : Int) (h0 : 0 <= lo) (h1 : lo <= hi) (h2 : hi <= 1000) (hT : TinI H b (k + 2)) :
  FnX Tryz.prog m 83 #[.pointer (some ⟨b, 0, none⟩), .int .i64 lo, .int .i64 hi] H fun e H' => ∃ x y, lo <= x /\ x <= y /\ y <= hi /\ e = .returned (.agg #[.int .i64 x, .int .i64 y]) /\ Lex (some b) H H' /\ TinI H' b k := by
 refine FnX_start Tryz.func83 rfl Tryz.ntmps83 (by simp) ?_
 (refine @unH _ ?_; refine z8 y83_15 ?_; try (refine inK ?_; intro K hK))
 intro nb hnb
 refine hK _ _ ?_; clear hK K
 have hn := hT.ne hnb
 (refine @unH _ ?_; refine z8 y83_15 ?_; try (refine inK ?_; intro K hK))
 refine (withinL m _ b (k + 1) lo hi (by omega) (by omega) (by omega) (by omega) (hT.new hnb)).runs.mono ?_; rintro _ _ ⟨x, hx0, hx1, rfl, hl1, hT1⟩; simp -implicitDefEqProofs (disch := first | omega | (simp only [qd] <;> omega)) only [xq, ↓xp, qc, Nat.reduceAdd, List.range, List.range.loop, fine, Nat.reduceEqDiff, ↓reduceIte, yielded, reduceCtorEq, Nat.reduceLT, Nat.reduceMul, Nat.reduceSub, one, Nat.reduceLeDiff, runX_cons, y83_15]
 refine hK _ _ ?_; clear hK K
 (refine @unH _ ?_; refine z8 y83_15 ?_; try (refine inK ?_; intro K hK))
 refine (withinL m _ b k x hi (by omega) (by omega) (by omega) (by omega) hT1).runs.mono ?_; rintro _ _ ⟨y, hy0, hy1, rfl, hl2, hT2⟩; simp -implicitDefEqProofs (disch := first | omega | (simp only [qd] <;> omega)) only [xq, ↓xp, qc, Nat.reduceAdd, List.range, List.range.loop, fine, Nat.reduceEqDiff, ↓reduceIte, yielded, reduceCtorEq, Nat.reduceLT, Nat.reduceMul, Nat.reduceSub, one, Nat.reduceLeDiff, runX_cons, y83_15]
 have hb2 := hl2.keeps (hl1.keeps set_at hn) hn
 simp -implicitDefEqProofs (disch := first | omega | (simp only [qd] <;> omega)) only [xq, ↓xp, qc, Nat.reduceAdd, List.range, List.range.loop, fine, Nat.reduceEqDiff, ↓reduceIte, yielded, reduceCtorEq, Nat.reduceLT, Nat.reduceMul, Nat.reduceSub, one, Nat.reduceLeDiff, runX_cons, y83_15, storL_of hb2, List.append_eq]
 refine hK _ _ ?_; clear hK K
 (refine wpX_ret ?_; (try simp only [nq, ↓reduceIte, Nat.reduceEqDiff]); rw [bodyX_ret, results_cell Tryz.results83 (by decide) (b := nb) (o := 0) rfl Tryz.underlying27 rfl Tryz.sizeOf27]; simp -implicitDefEqProofs (disch := first | omega | (simp only [qd] <;> omega)) only [xq, ↓xp, qc, Nat.reduceAdd, List.range, List.range.loop, fine, Nat.reduceEqDiff, ↓reduceIte, yielded, reduceCtorEq, Nat.reduceLT, Nat.reduceMul, Nat.reduceSub, one, Nat.reduceLeDiff, runX_cons, y83_15, loadA_set])
 exact ⟨x, y, by omega, by omega, by omega, rfl, (Lex.refl.new hnb).trans (hl1.trans hl2) |>.own hnb, hT2.own hb2 hn.symm⟩
theorem keepInts_spec (m : Md) (H : Hp) (g o n cap : Nat) (ys : List Int) (hys : ∀ (j : Nat) (y : Int), ys[j]? = some y -> H.cell ⟨g, o + j, none⟩ = some (.int .i64 y)) (hn : ys.length = n) (hb : n <= 1000000) (hg : ∃ x, H g = some x) :
  FnX Tryz.prog m 31 #[.slice (some ⟨g, o, none⟩) n cap] H fun e H' => ∃ v, e = .returned v /\ SlI H' v ys /\ H.le H' := by
 refine FnX_start Tryz.func31 rfl Tryz.ntmps31 (by simp) ?_
 (refine @unH _ ?_; refine z1 @y31_15 ?_)
 (refine @unH _ ?_; refine z8 @y31_15 ?_; try (refine inK ?_; intro K hK))
 intro nb hnb
 have hle : H.le (H.set nb (.cells #[] 3 (0, 0))) := Hp.le_set hnb
 refine append_ints (H₀ := H) (n := 0) (xs := []) (ys := ys) (.inr ⟨nb, #[], 0, hnb, rfl, rfl, rfl, rfl, Nat.le_refl _, fun i u hi => by simp [ints] at hi⟩) (Hp.le_refl _) hn (fun h => ?_) (fun j y hj => ?_) (by omega) _ _ _ _ ?_
 ·obtain ⟨x, hx⟩ := hg; rw [hx] at h; cases h
 ·obtain ⟨x, hx⟩ := hg
  rw [cell_set_ne (fun e => by rw [e, hnb] at hx; cases hx)]
  exact hys j y hj
 ·intro v H1 H2 hr hl
  (refine @unH _ ?_; refine z0 @y31_15 ?_)
  refine hK _ _ ?_; clear hK K
  (refine @unH _ ?_; refine z9 Tryz.results31 ?_)
  exact ⟨v, rfl, (SlI.row hr).le hl, fun x v hx => hl _ _ (hr.le _ _ hx)⟩
theorem at_spec (m : Md) (H : Hp) (v : Value) (xs : List Int) (n : Int) (hv : SlI H v xs) (hb : xs.length <= 1000000) :
  FnX Tryz.prog m 40 #[v, .int .i64 n] H fun e H' => H' = H /\ ∃ r : Int, e = .returned (.int .i64 r) /\ (xs[0]? = some n -> r = 0) := by
 obtain ⟨a, cap, rfl, hc, hv⟩ := hv
 refine FnX_start Tryz.func40 rfl Tryz.ntmps40 (by simp) ?_
 (refine @unH _ ?_; refine z1 y40_15 ?_)
 refine wpX_seq ?_
 (refine @unH _ ?_; refine z1 y40_15 ?_)
 refine wpX_block (wpX_loop (fun w a' H' => ∃ e j, w = xs.length - j /\ j <= xs.length /\ a' = act 19 e [] /\ e 0 = .slice a xs.length cap /\ e 1 = .int .i64 n /\ e 5 = .int .i64 (j : Nat) /\ H' = H /\ (0 < j -> xs[0]? ≠ some n)) (n := xs.length) ?_ ?_)
 ·exact ⟨_, 0, by omega, by omega, rfl, rfl, rfl, rfl, rfl, fun h => by omega⟩
 ·rintro w a' H' ⟨e, j, rfl, hj, rfl, e0, e1, e5, rfl, h0⟩
  refine wpX_seq ?_
  (refine @unH _ ?_; refine z1 (And.intro y40_15 (And.intro @e0 (And.intro @e1 @e5))) ?_)
  refine wpX_cond (by simp -implicitDefEqProofs (disch := first | omega | (simp only [qd] <;> omega)) only [act_eval, upd_get, Nat.reduceEqDiff, ↓reduceIte]; rfl) ?_
  by_cases hlt : j < xs.length
  ·simp only [Int.ofNat_lt, hlt, decide_true, if_true]
   refine wpX_skip (wpX_seq (wpX_block ?_))
   obtain ⟨b, o, p, c, fr, rfl, hb, hx⟩ := hv j xs[j] (List.getElem?_eq_getElem hlt)
   have hx' : c[o + (j : Int).toNat * 1]? = some (.int .i64 xs[j]) := by simpa using hx
   (refine wpX_stmt ?_; intro K hK; simp -implicitDefEqProofs (disch := first | omega | (simp only [qd] <;> omega)) only [xq, ↓xp, qc, Nat.reduceAdd, List.range, List.range.loop, fine, Nat.reduceEqDiff, ↓reduceIte, yielded, reduceCtorEq, Nat.reduceLT, Nat.reduceMul, Nat.reduceSub, one, Nat.reduceLeDiff, runX_cons, y40_15, e0, e1, e5, cell_of hb, hx', exists_eq_left']; refine hK _ _ ?_; clear hK K)
   refine wpX_cond (by simp -implicitDefEqProofs (disch := first | omega | (simp only [qd] <;> omega)) only [act_eval, upd_get, Nat.reduceEqDiff, ↓reduceIte]; rfl) ?_
   by_cases heq : xs[j] = n
   ·simp only [heq, beq_self_eq_true, decide_true, if_true]
    (refine @unH _ ?_; refine z1 (And.intro y40_15 (And.intro @e0 (And.intro @e1 @e5))) ?_)
    (refine wpX_ret ?_; simp only [thn, blk]; rw [bodyX_ret, results_one Tryz.results40 (by decide)]; simp only [upd_get, Nat.reduceEqDiff, ↓reduceIte])
    refine ⟨by trivial, _, rfl, fun h => ?_⟩
    by_cases hz : j = 0
    ·rw [hz]; rfl
    ·exact absurd h (h0 (by omega))
   ·rw [beq_false_of_ne heq]
    simp only [Bool.false_eq_true, if_false]
    refine wpX_skip ?_
    simp -implicitDefEqProofs (disch := first | omega | (simp only [qd] <;> omega)) only [thn, blk, ↓reduceIte, Nat.reduceEqDiff]
    (refine @unH _ ?_; refine z2 (And.intro y40_15 (And.intro @e0 (And.intro @e1 @e5))) ?_)
    simp -implicitDefEqProofs (disch := first | omega | (simp only [qd] <;> omega)) only [thn, blk, ↓reduceIte, Nat.reduceEqDiff]
    refine ⟨_, ?_, _, j + 1, rfl, hlt, rfl, e0, e1, rfl, by trivial, fun _ h => ?_⟩
    ·omega
    ·by_cases hz : j = 0
     ·subst hz
      rw [List.getElem?_eq_getElem hlt] at h
      exact heq (Option.some.inj h)
     ·exact h0 (by omega) h
  ·simp only [Int.ofNat_lt, hlt, decide_false, Bool.false_eq_true, if_false]
   (refine wpX_exit ?_; simp only [thn, blk, ↓reduceIte, Nat.reduceEqDiff])
   (refine @unH _ ?_; refine z1 (And.intro y40_15 (And.intro @e0 (And.intro @e1 @e5))) ?_)
   (refine @unH _ ?_; refine z9 Tryz.results40 ?_)
   refine ⟨by trivial, _, rfl, fun h => ?_⟩
   by_cases hz : xs = []
   ·subst hz; simp at h
   ·exact absurd h (h0 (by have := List.length_pos_iff.2 hz; omega))
end Go.Proofs.YtofmadjgbcopdaaGreatDoor
end
section
namespace Go.Proofs.YtofmadjgbcopdaaGreatDoor
open Go Go.X
def RowX (t : Option Nat) (H₀ H : Hp) (v : Value) (e : TypeId) (cs : List Value) : Prop :=
 Lex t H₀ H /\ ((v = .slice none 0 0 /\ cs = []) ∨
 ∃ (b : Nat) (c : Array Value) (cap : Nat), H₀ b = none /\ H b = some (true, .cells c e (0, 0)) /\ v = .slice (some ⟨b, 0, none⟩) cs.length cap /\ c.size = cap /\ cs.length <= cap /\ ∀ (i : Nat) (u : Value), cs[i]? = some u -> c[i]? = some u)
def Other (e : TypeId) (H H' : Hp) : Prop := ∀ x p o, H x = some (p, o) -> (p = false ∨ ∀ c fr, o ≠ .cells c e fr) -> H' x = some (p, o)
theorem RowX.nil {t : Option Nat} {H : Hp} {e : TypeId} : RowX t H H (.slice none 0 0) e [] := ⟨Lex.refl, .inl ⟨rfl, rfl⟩⟩
theorem RowX.len {t : Option Nat} {H₀ H : Hp} {v : Value} {e : TypeId} {cs : List Value} (h : RowX t H₀ H v e cs) : ∃ a cap, v = .slice a cs.length cap := by
 rcases h.2 with ⟨rfl, rfl⟩ | ⟨b, c, cap, _, _, rfl, _⟩
 ·exact ⟨_, _, rfl⟩
 ·exact ⟨_, _, rfl⟩
theorem RowX.lex {t : Option Nat} {H₀ H H' : Hp} {v : Value} {e : TypeId} {cs : List Value} (h : RowX t H₀ H v e cs) (hl : Lex t H H') (ht : ∀ b, t = some b -> ∀ p c fr, H b ≠ some (p, .cells c e fr)) : RowX t H₀ H' v e cs := by
 refine ⟨h.1.trans hl, h.2.imp id ?_⟩
 rintro ⟨b, c, cap, h0, h1, h2, h3, h4, h5⟩
 exact ⟨b, c, cap, h0, hl.hold h1 (fun e => ht b e _ _ _ h1), h2, h3, h4, h5⟩
theorem RowX.le {t : Option Nat} {H₀ H H' : Hp} {v : Value} {e : TypeId} {cs : List Value} (h : RowX t H₀ H v e cs) (hl : H.le H') : RowX t H₀ H' v e cs := by
 refine ⟨h.1.le hl, h.2.imp id ?_⟩
 rintro ⟨b, c, cap, h0, h1, h2, h3, h4, h5⟩
 exact ⟨b, c, cap, h0, hl _ _ h1, h2, h3, h4, h5⟩
theorem RowX.new {t : Option Nat} {H₀ H : Hp} {v : Value} {e : TypeId} {cs : List Value} (h : RowX t H₀ H v e cs) {g : Nat} (hg : H g = none) {o : Obj} : RowX t H₀ (H.set g o) v e cs := h.le (Hp.le_set hg)
theorem RowX.base {t : Option Nat} {H₀ H₁ H : Hp} {v : Value} {e : TypeId} {cs : List Value} (h : RowX t H₁ H v e cs) (hl : Lex t H₀ H₁) : RowX t H₀ H v e cs := by
 refine ⟨hl.trans h.1, h.2.imp id ?_⟩
 rintro ⟨b, c, cap, h0, h1, h2, h3, h4, h5⟩
 exact ⟨b, c, cap, hl.gone h0, h1, h2, h3, h4, h5⟩
theorem append_row {P : Program} {tt e : TypeId} {z : Value} {inf : TypeInfo} (hu : P.underlying tt = some (.slice e)) (hs : ∀ w, (sizeOf e).run P w = .ok 1 w) (hz : ∀ w, (zeroValue e).run P w = .ok z w) (hzc : z.cells.size = 1)
  (hi : ∀ w, (typeInfo e).run P w = .ok inf w) (hby : inf.bytes <= 1024) (hby0 : 0 < inf.bytes)
  {t : Option Nat} {H₀ H : Hp} {v : Value} {cs : List Value} (h : RowX t H₀ H v e cs) {g : Nat} {w : Value} (hg : H g = none) (hw : one w = true) (hn : cs.length <= 1000000) (ty : TypeId) (cb : Array Bool) (K : Next -> Hp -> Prop) (E : Value -> Hp -> Prop)
  (h' : ∀ v' H', RowX t H₀ H' v' e (cs ++ [w]) -> Other e H H' -> K (.value v') H') :
  wpS P (builtin .append #[tt, tt] ty cb #[v, .slice (some ⟨g, 0, none⟩) 1 1]) (H.set g (.cells #[w] e (0, 0))) K E := by
 obtain ⟨hlex, hrow⟩ := h
 have hws : ∀ (j : Nat) (u : Value), [w][j]? = some u -> (H.set g (.cells #[w] e (0, 0))).cell ⟨g, 0 + j, none⟩ = some u := by
  intro j u hj
  rw [Nat.zero_add, cell_of (b := g) (p := true) (c := #[w]) (e := e) (f := (0, 0)) (by rw [get_set, if_pos rfl])]
  simpa using hj
 have h1w : ∀ u ∈ [w], one u = true := by simp [hw]
 rcases hrow with ⟨rfl, rfl⟩ | ⟨b, c, cap, hb0, hb, rfl, hcs, hcap, hget⟩
 ·refine append_law (P := P) hu hs hz hzc hi hby hby0 (NewRow.nil H e 1) (Hp.le_set hg) (by simp) id hws h1w (by omega) ty cb K E (fun v' H1 H2 hr hl => ?_)
  have hle : H.le H2 := fun x u hx => hl _ _ (hr.le _ _ hx)
  refine h' v' H2 ⟨hlex.le hle, ?_⟩ (fun x p o hx _ => hle _ _ hx)
  rcases hr with ⟨_, hn0, _⟩ | ⟨b', c', cap', hb', rfl, rfl, hs', hl', hn', hg'⟩
  ·simp at hn0
  ·refine .inr ⟨b', c', cap', hlex.gone hb', hl _ _ (by rw [get_set, if_pos rfl]), by simp, by omega, by simpa using hn', fun i u hi => hg' i u hi⟩
 ·have hgb : g ≠ b := fun e => by rw [e, hb] at hg; cases hg
  have hD : (fun x => if x = b then none else H x : Hp) b = none := by simp
  have hH : H = Hp.set (fun x => if x = b then none else H x) b (.cells c e (0, 0)) := by
   funext x
   unfold Hp.set
   by_cases e : x = b
   ·subst e; simp [hb]
   ·simp [e]
  refine append_law (P := P) hu hs hz hzc hi hby hby0 (H₀ := fun x => if x = b then none else H x) (H := H) (n := cs.length) (cs := cs) (.inr ⟨b, c, cap, hD, hH, rfl, by omega, by omega, hcap, hget⟩) (Hp.le_set hg) (by simp) (fun _ => hg) hws h1w (by omega) ty cb K E (fun v' H1 H2 hr hl => ?_)
  have hkeep : ∀ x u, x ≠ b -> H x = some u -> H2 x = some u := fun x u hn hx => hl _ _ (hr.le _ _ (by simp only [hn, if_false]; exact hx))
  rcases hr with ⟨_, hn0, _⟩ | ⟨b', c', cap', hb', rfl, rfl, hs', hl', hn', hg'⟩
  ·simp at hn0
  ·have hb2 : H2 b' = some (true, .cells c' e (0, 0)) := hl _ _ (by rw [get_set, if_pos rfl])
   have hb'0 : H₀ b' = none := by
    by_cases e : b' = b
    ·rw [e]; exact hb0
    ·simp only [e, if_false] at hb'; exact hlex.gone hb'
   refine h' _ H2 ⟨fun x u hx => ?_, .inr ⟨b', c', cap', hb'0, hb2, by simp, by omega, by simpa using hn', hg'⟩⟩ (fun x p o hx ho => hkeep x _ (fun e => ?_) hx)
   ·obtain ⟨u', hu', e'⟩ := hlex x u hx
    exact ⟨u', hkeep x u' (fun e => by rw [e, hb0] at hx; cases hx) hu', e'⟩
   ·rw [e, hb] at hx
    simp only [Option.some.injEq, Prod.mk.injEq] at hx
    rcases ho with ho | ho
    ·rw [ho] at hx; cases hx.1
    ·exact ho c (0, 0) hx.2.symm
theorem Other.tin {H H' : Hp} {e : TypeId} {b k : Nat} (h : Other e H H') (he : e ≠ 78) (hT : TinI H b k) : TinI H' b k := by
 obtain ⟨sa, sl, sc, g, st, h1, h2, h3, h4⟩ := hT
 refine ⟨sa, sl, sc, g, st, h b _ _ h1 (.inr fun c fr e' => ?_), h2, h3, fun i hi => ?_⟩
 ·simp only [Obj.cells.injEq] at e'
  exact he e'.2.1.symm
 ·obtain ⟨sb, so, c, e, fr, x, ha, hs, hx⟩ := h4 i hi
  exact ⟨sb, so, c, e, fr, x, ha, h sb _ _ hs (.inl rfl), hx⟩
theorem Other.cells {H H' : Hp} {e e' : TypeId} (h : Other e H H') {x : Nat} {p : Bool} {c : Array Value} {fr : Nat × Nat} (hx : H x = some (p, .cells c e' fr)) (he : e' ≠ e) : H' x = some (p, .cells c e' fr) :=
 h x _ _ hx (.inr fun c' fr' e'' => by simp only [Obj.cells.injEq] at e''; exact he e''.2.1)
theorem RowX.ints {t : Option Nat} {H₀ H : Hp} {v : Value} {xs : List Int} (h : RowX t H₀ H v 3 (ints xs)) : SlI H v xs := by
 rcases h.2 with ⟨rfl, hx⟩ | ⟨b, c, cap, _, hb, rfl, hc, hle, hget⟩
 ·have : xs = [] := by simpa [Go.Proofs.YtofmadjgbcopdaaGreatDoor.ints] using hx
  subst this
  exact SlI.nil _ _ _
 ·rw [ints_len] at hle ⊢
  exact ⟨_, cap, rfl, hle, fun i x hi => ⟨b, 0, true, c, (0, 0), rfl, hb, by rw [Nat.zero_add]; exact hget i _ (ints_get hi)⟩⟩
def SlR (H : Hp) (v : Value) (xss : List (List Int)) : Prop :=
 ∃ (a : Option Addr) (cap : Nat), v = .slice a xss.length cap /\ xss.length <= cap /\ ∀ (i : Nat) (xs : List Int), xss[i]? = some xs -> ∃ (b o : Nat) (p : Bool) (c : Array Value) (fr : Nat × Nat) (w : Value), a = some ⟨b, o, none⟩ /\ H b = some (p, .cells c 22 fr) /\ c[o + i]? = some w /\ SlI H w xs
def Rows (H : Hp) (vs : List Value) (xss : List (List Int)) : Prop := vs.length = xss.length /\ ∀ (i : Nat) (xs : List Int), xss[i]? = some xs -> ∃ w, vs[i]? = some w /\ SlI H w xs
theorem Rows.mono {H H' : Hp} {vs : List Value} {xss : List (List Int)} (h : Rows H vs xss) (hl : ∀ v xs, SlI H v xs -> SlI H' v xs) : Rows H' vs xss :=
 ⟨h.1, fun i xs hi => by obtain ⟨w, h1, h2⟩ := h.2 i xs hi; exact ⟨w, h1, hl _ _ h2⟩⟩
theorem Rows.nil {H : Hp} : Rows H [] [] := ⟨rfl, fun i xs hi => by simp at hi⟩
theorem Rows.snoc {H : Hp} {vs : List Value} {xss : List (List Int)} (h : Rows H vs xss) {w : Value} {xs : List Int} (hw : SlI H w xs) : Rows H (vs ++ [w]) (xss ++ [xs]) := by
 refine ⟨by simp [h.1], fun i ys hi => ?_⟩
 by_cases hlt : i < xss.length
 ·rw [List.getElem?_append_left hlt] at hi
  obtain ⟨w', h1, h2⟩ := h.2 i ys hi
  exact ⟨w', by rw [List.getElem?_append_left (by rw [h.1]; exact hlt)]; exact h1, h2⟩
 ·rw [List.getElem?_append_right (by omega)] at hi
  have : i - xss.length = 0 := by
   have := (List.getElem?_eq_some_iff.1 hi).1
   simp at this; omega
  rw [this] at hi
  simp at hi
  subst hi
  exact ⟨w, by rw [List.getElem?_append_right (by rw [h.1]; omega), h.1, this]; rfl, hw⟩
theorem RowX.rows {t : Option Nat} {H₀ H : Hp} {v : Value} {vs : List Value} {xss : List (List Int)} (h : RowX t H₀ H v 22 vs) (hr : Rows H vs xss) : SlR H v xss := by
 rcases h.2 with ⟨rfl, rfl⟩ | ⟨b, c, cap, _, hb, rfl, hc, hle, hget⟩
 ·have : xss = [] := by have := hr.1; simp at this; exact List.eq_nil_of_length_eq_zero this.symm
  subst this
  exact ⟨_, _, rfl, Nat.zero_le _, fun i xs hi => by simp at hi⟩
 ·refine ⟨_, cap, by rw [hr.1], by rw [<- hr.1]; exact hle, fun i xs hi => ?_⟩
  obtain ⟨w, h1, h2⟩ := hr.2 i xs hi
  exact ⟨b, 0, true, c, (0, 0), w, rfl, hb, by rw [Nat.zero_add]; exact hget i w h1, h2⟩
theorem SlI.one {H : Hp} {v : Value} {xs : List Int} (h : SlI H v xs) : one v = true := by
 obtain ⟨a, cap, rfl, _⟩ := h
 rfl
theorem SlI.move {H H' : Hp} {v : Value} {xs : List Int} (h : SlI H v xs) (hl : ∀ x p c fr, H x = some (p, .cells c 3 fr) -> H' x = some (p, .cells c 3 fr)) : SlI H' v xs := by
 obtain ⟨a, cap, hv, hc, h⟩ := h
 refine ⟨a, cap, hv, hc, fun i x hi => ?_⟩
 obtain ⟨b, o, p, c, fr, ha, hb, hx⟩ := h i x hi
 exact ⟨b, o, p, c, fr, ha, hl _ _ _ _ hb, hx⟩
theorem SlR.move {H H' : Hp} {v : Value} {xss : List (List Int)} (h : SlR H v xss) (hl : ∀ x p c fr e, (e = 3 ∨ e = 22) -> H x = some (p, .cells c e fr) -> H' x = some (p, .cells c e fr)) : SlR H' v xss := by
 obtain ⟨a, cap, hv, hc, h⟩ := h
 refine ⟨a, cap, hv, hc, fun i x hi => ?_⟩
 obtain ⟨b, o, p, c, fr, w, ha, hb, hx, hs⟩ := h i x hi
 exact ⟨b, o, p, c, fr, w, ha, hl _ _ _ _ _ (.inr rfl) hb, hx, hs.move fun _ _ _ _ h => hl _ _ _ _ _ (.inl rfl) h⟩
theorem SlR.le {H H' : Hp} {v : Value} {xss : List (List Int)} (h : SlR H v xss) (hl : H.le H') : SlR H' v xss := h.move fun _ _ _ _ _ _ hx => hl _ _ hx
theorem SlR.lex {H H' : Hp} {v : Value} {xss : List (List Int)} (h : SlR H v xss) {b k : Nat} (hl : Lex (some b) H H') (hT : TinI H b k) : SlR H' v xss := h.move fun x p c fr e he hx => hl.keeps hx fun e' => by
 obtain ⟨_, _, _, _, _, hb2, _⟩ := hT
 rw [e', hb2] at hx
 simp only [Option.some.injEq, Prod.mk.injEq, Obj.cells.injEq] at hx
 rcases he with he | he <;> rw [he] at hx <;> exact absurd hx.2.2.1 (by decide)
end Go.Proofs.YtofmadjgbcopdaaGreatDoor
end
section
namespace Go.Proofs.YtofmadjgbcopdaaGreatDoor
open Go Go.X
def y81_17 := And.intro (fun H => ex_alloc (H := H) (P := Tryz.prog) (h := Tryz.zeroValue25)) (And.intro @lit_22_6_0_1_2_3_4_5_0 (And.intro @callF82 (And.intro @callF24 (And.intro @bld_25_0_1_0 (And.intro (fun H => storeAt_agg (H := H) Tryz.sizeOf25) (And.intro (fun H => fieldAt_eq (H := H) Tryz.underlying25 (i := 1) rfl (off := 1) rfl Tryz.sizeOf3) (And.intro (fun H => loadAt_one (H := H) Tryz.underlying3 rfl) (And.intro @callF121 (And.intro (fun H => fieldAt_eq (H := H) Tryz.underlying25 (i := 0) rfl (off := 0) rfl Tryz.sizeOf3) (And.intro @callF42 (And.intro @lit_22_4_0_1_2_3_0 (And.intro @min_int (And.intro (fun H => slice_hi (H := H) Tryz.underlying22 Tryz.sizeOf3) (And.intro (fun H => slice_lo (H := H) Tryz.underlying22 Tryz.sizeOf3) (And.intro (fun H => slice_lohi (H := H) Tryz.underlying22 Tryz.sizeOf3) (And.intro @callF31 (And.intro (fun H => fieldAt_eq (H := H) Tryz.underlying25 (i := 2) rfl (off := 2) rfl Tryz.sizeOf22) (And.intro (fun H => storeAt_slice (H := H) Tryz.sizeOf22) (And.intro @callF122 (And.intro (fun H => fieldAt_eq (H := H) Tryz.underlying25 (i := 3) rfl (off := 3) rfl Tryz.sizeOf23) (And.intro (fun H => storeAt_slice (H := H) Tryz.sizeOf23) (And.intro (fun H => loadAt_aggE (H := H) Tryz.underlying25 rfl Tryz.sizeOf25) @callF123))))))))))))))))))))))
def y122_17 := And.intro @callF42 (And.intro @callF121 (And.intro @callF154 (And.intro @min_int (And.intro @callF24 (And.intro @callF40 (And.intro @lit_22_1_0_0 @lit_23_1_0_0))))))
def y123_17 := And.intro (fun H => fieldAt_eq (H := H) Tryz.underlying25 (i := 3) rfl (off := 3) rfl Tryz.sizeOf23) (And.intro (fun H => loadAt_one (H := H) Tryz.underlying23 rfl) (And.intro (fun H => len_slice (H := H) Tryz.underlying23) (And.intro (fun H => indexAt_slice (H := H) Tryz.underlying23 Tryz.sizeOf22) (And.intro (fun H => loadAt_one (H := H) Tryz.underlying22 rfl) (And.intro @callF82 @lit_22_1_0_0)))))
def CallOk (pieces : Nat) (xs : List Int) : Prop := xs ≠ [] /\ xs.Pairwise (· < ·) /\ ∀ x ∈ xs, 0 <= x /\ x < pieces
theorem asc_len (hi : Int) : ∀ (xs : List Int) (lo : Int), xs.Pairwise (· < ·) -> (∀ x ∈ xs, lo <= x /\ x < hi) -> xs.length <= (hi - lo).toNat
 | [], _, _, _ => Nat.zero_le _
 | x :: xs, lo, hp, hb => by
  have h1 := hb x List.mem_cons_self
  have h2 := asc_len hi xs (x + 1) (List.pairwise_cons.1 hp).2 fun y hy => ⟨by have := (List.pairwise_cons.1 hp).1 y hy; omega, (hb y (List.mem_cons_of_mem _ hy)).2⟩
  simp only [List.length_cons]
  omega
theorem CallOk.len {pieces : Nat} {xs : List Int} (h : CallOk pieces xs) : xs.length <= pieces := by
 have := asc_len pieces xs 0 h.2.1 h.2.2
 omega
theorem append_i {t : Option Nat} {H₀ H : Hp} {v : Value} {xs : List Int} (h : RowX t H₀ H v 3 (ints xs)) {g : Nat} {x : Int} (hg : H g = none) (hn : xs.length <= 1000000) (ty : TypeId) (cb : Array Bool) (K : Next -> Hp -> Prop) (E : Value -> Hp -> Prop)
  (h' : ∀ v' H', RowX t H₀ H' v' 3 (ints (xs ++ [x])) -> Other 3 H H' -> K (.value v') H') :
  wpS Tryz.prog (builtin .append #[22, 22] ty cb #[v, .slice (some ⟨g, 0, none⟩) 1 1]) (H.set g (.cells #[.int .i64 x] 3 (0, 0))) K E :=
 append_row Tryz.underlying22 Tryz.sizeOf3 Tryz.zeroValue3 rfl Tryz.typeInfo3 (by decide) (by decide) h hg rfl (by rw [ints_len]; exact hn) ty cb K E fun v' H' hr ho => h' v' H' (by rw [ints_app]; exact hr) ho
theorem append_r {t : Option Nat} {H₀ H : Hp} {v : Value} {vs : List Value} (h : RowX t H₀ H v 22 vs) {g : Nat} {w : Value} (hw : one w = true) (hg : H g = none) (hn : vs.length <= 1000000) (ty : TypeId) (cb : Array Bool) (K : Next -> Hp -> Prop) (E : Value -> Hp -> Prop)
  (h' : ∀ v' H', RowX t H₀ H' v' 22 (vs ++ [w]) -> Other 22 H H' -> K (.value v') H') :
  wpS Tryz.prog (builtin .append #[23, 23] ty cb #[v, .slice (some ⟨g, 0, none⟩) 1 1]) (H.set g (.cells #[w] 22 (0, 0))) K E :=
 append_row Tryz.underlying23 Tryz.sizeOf22 Tryz.zeroValue22 rfl Tryz.typeInfo22 (by decide) (by decide) h hg hw hn ty cb K E h'
theorem TinI.le {H H' : Hp} {b k : Nat} (h : TinI H b k) (hl : H.le H') : TinI H' b k := by
 obtain ⟨sa, sl, sc, g, st, h1, h2, h3, h4⟩ := h
 refine ⟨sa, sl, sc, g, st, hl _ _ h1, h2, h3, fun i hi => ?_⟩
 obtain ⟨sb, so, c, e, fr, x, ha, hs, hx⟩ := h4 i hi
 exact ⟨sb, so, c, e, fr, x, ha, hl _ _ hs, hx⟩
theorem TinI.notI {H : Hp} {b k : Nat} (h : TinI H b k) {e : TypeId} (he : e ≠ 78) : ∀ b', some b = some b' -> ∀ p c fr, H b' ≠ some (p, .cells c e fr) := fun b' hb' p c fr hx => by
 cases hb'
 obtain ⟨_, _, _, _, _, hb2, _⟩ := h
 rw [hb2] at hx
 simp only [Option.some.injEq, Prod.mk.injEq, Obj.cells.injEq] at hx
 exact he hx.2.2.1.symm
theorem callsOf_spec (m : Md) (H : Hp) (b k : Nat) (calls pieces each : Nat) (hc : calls <= 100) (hp0 : 1 <= pieces) (hp : pieces <= 100) (he0 : 1 <= each) (he : each <= 100) (hT : TinI H b (k + calls * (pieces + 2) + 1)) :
  FnX Tryz.prog m 122 #[.pointer (some ⟨b, 0, none⟩), .int .i64 calls, .int .i64 pieces, .int .i64 each] H fun e H' => ∃ v xss, e = .returned v /\ SlR H' v xss /\ xss.length <= calls /\ (∀ xs ∈ xss, CallOk pieces xs) /\ Lex (some b) H H' /\ TinI H' b k := by
 refine FnX_start Tryz.func122 rfl Tryz.ntmps122 (by simp) ?_
 (refine @unH _ ?_; refine z1 y122_17 ?_)
 (refine @unH _ ?_; refine z1 y122_17 ?_)
 refine wpX_seq ?_
 (refine @unH _ ?_; refine z8 y122_17 ?_; try (refine inK ?_; intro K hK))
 refine (uptoL m H b _ calls (by omega) hT).runs.mono ?_; rintro _ _ ⟨r, hr0, hr1, rfl, hl1, hT1⟩; simp -implicitDefEqProofs (disch := first | omega | (simp only [qd] <;> omega)) only [xq, ↓xp, qc, Nat.reduceAdd, List.range, List.range.loop, fine, Nat.reduceEqDiff, ↓reduceIte, yielded, reduceCtorEq, Nat.reduceLT, Nat.reduceMul, Nat.reduceSub, one, Nat.reduceLeDiff, runX_cons, y122_17]
 refine hK _ _ ?_; clear hK K
 obtain ⟨i, rfl⟩ := Int.eq_ofNat_of_zero_le hr0
 rename_i H1
 refine wpX_block (wpX_loop (fun w a' H' => ∃ e ov vs xss, w <= calls /\ a' = act 51 e [] /\ e 0 = .pointer (some ⟨b, 0, none⟩) /\ e 2 = .int .i64 pieces /\ e 3 = .int .i64 each /\ e 9 = ov /\ e 10 = .int .i64 w /\
  RowX (some b) H H' ov 22 vs /\ Rows H' vs xss /\ xss.length + w <= calls /\ (∀ xs ∈ xss, CallOk pieces xs) /\ TinI H' b (k + w * (pieces + 2))) (n := i) ?_ ?_)
 ·have hi : i <= calls := by omega
  exact ⟨_, _, [], [], hi, rfl, rfl, rfl, rfl, rfl, rfl, ⟨hl1, .inl ⟨rfl, rfl⟩⟩, Rows.nil, by simp; omega, by simp, hT1.less (Nat.add_le_add_left (Nat.mul_le_mul_right _ hi) _)⟩
 ·rintro w a' H' ⟨e, ov, vs, xss, hw, rfl, e0, e2, e3, e9, e10, hov, hvs, hlen, hok, hT'⟩
  refine wpX_seq ?_
  (refine @unH _ ?_; refine z1 (And.intro y122_17 @e10) ?_)
  refine wpX_cond (by simp -implicitDefEqProofs (disch := first | omega | (simp only [qd] <;> omega)) only [act_eval, upd_get, Nat.reduceEqDiff, ↓reduceIte]; rfl) ?_
  by_cases hlt : 0 < w
  ·simp only [Int.natCast_pos, hlt, decide_true, if_true]
   refine wpX_skip (wpX_seq (wpX_block ?_))
   obtain ⟨w, rfl⟩ : ∃ w', w = w' + 1 := ⟨w - 1, by omega⟩
   (refine @unH _ ?_; refine z8 (And.intro y122_17 (And.intro @e0 @e2)) ?_; try (refine inK ?_; intro K hK))
   refine (mixed_spec m H' b (k + w * (pieces + 2) + 2) pieces (by omega) (hT'.less (by rw [Nat.add_mul]; omega))).runs.mono ?_
   rintro _ H2 ⟨order, os, rfl, hos, hol, hond, hob, hl2, hT2⟩
   (refine @unH _ ?_; refine z0 y122_17 ?_)
   refine hK _ _ ?_; clear hK K
   (refine @unH _ ?_; refine z1 y122_17 ?_)
   refine wpX_cut (fun a' H3 => ∃ e' mn, a' = act 51 e' [] /\ e' 0 = .pointer (some ⟨b, 0, none⟩) /\ e' 2 = .int .i64 pieces /\ e' 3 = .int .i64 each /\ e' 9 = ov /\ e' 10 = .int .i64 ((w + 1 : Nat) : Int) /\ e' 11 = order /\
    e' 12 = .int .i64 mn /\ 1 <= mn /\ Lex (some b) H2 H3 /\ TinI H3 b (k + w * (pieces + 2))) ?_ ?_
   ·(refine @unH _ ?_; refine z8 (And.intro y122_17 @e0) ?_; try (refine inK ?_; intro K hK))
    refine (rarelyL m H2 b (k + w * (pieces + 2) + 1) 3 (by omega) (by omega) hT2).runs.mono ?_; rintro _ _ ⟨r, rfl, hl3, hT3⟩; simp -implicitDefEqProofs (disch := first | omega | (simp only [qd] <;> omega)) only [xq, ↓xp, qc, Nat.reduceAdd, List.range, List.range.loop, fine, Nat.reduceEqDiff, ↓reduceIte, yielded, reduceCtorEq, Nat.reduceLT, Nat.reduceMul, Nat.reduceSub, one, Nat.reduceLeDiff, runX_cons, y122_17]
    refine hK _ _ ?_; clear hK K
    refine wpX_cond (by simp -implicitDefEqProofs (disch := first | omega | (simp only [qd] <;> omega)) only [act_eval, upd_get, Nat.reduceEqDiff, ↓reduceIte]; rfl) ?_
    cases r
    ·simp only [Bool.false_eq_true, if_false]
     exact wpX_skip ⟨_, 1, rfl, e0, e2, e3, e9, e10, rfl, rfl, by omega, hl3, hT3.less (by omega)⟩
    ·simp only [if_true]
     have hmin : ∃ mm : Int, (if (pieces : Int) < each then (pieces : Int) else each) = mm /\ 1 <= mm /\ mm <= 100 := ⟨_, rfl, by split <;> omega, by split <;> omega⟩
     obtain ⟨mm, hmm, hm1, hm2⟩ := hmin
     refine wpX_last ?_; intro K hK
     (refine @unH _ ?_; refine z0 (And.intro y122_17 (And.intro @e0 (And.intro @e2 (And.intro @e3 @hmm)))) ?_)
     refine (withinL m _ b (k + w * (pieces + 2)) 1 mm (by omega) (by omega) (by omega) (by omega) hT3).runs.mono ?_; rintro _ _ ⟨r, hr0, hr1, rfl, hl4, hT4⟩; simp -implicitDefEqProofs (disch := first | omega | (simp only [qd] <;> omega)) only [xq, ↓xp, qc, Nat.reduceAdd, List.range, List.range.loop, fine, Nat.reduceEqDiff, ↓reduceIte, yielded, reduceCtorEq, Nat.reduceLT, Nat.reduceMul, Nat.reduceSub, one, Nat.reduceLeDiff, runX_cons, y122_17]
     refine hK _ _ ?_
     exact ⟨_, r, rfl, e0, e2, e3, e9, e10, rfl, rfl, hr0, hl3.trans hl4, hT4⟩
   ·rintro a' H3 ⟨e', mn, rfl, f0, f2, f3, f9, f10, f11, f12, hmn, hl3, hT3⟩
    (refine @unH _ ?_; refine z1 (And.intro y122_17 @f0) ?_)
    have hos3 := hos.lex hl3 hT2
    refine wpX_seq ?_
    (refine @unH _ ?_; refine z1 y122_17 ?_)
    refine wpX_block (wpX_loop (fun q a' H4 => ∃ g p lv ps, q = pieces - p /\ p <= pieces /\ a' = act 51 g [] /\ g 0 = .pointer (some ⟨b, 0, none⟩) /\ g 2 = .int .i64 pieces /\ g 3 = .int .i64 each /\ g 9 = ov /\ g 10 = .int .i64 ((w + 1 : Nat) : Int) /\ g 11 = order /\
     g 12 = .int .i64 mn /\ g 13 = lv /\ g 14 = .int .i64 (p : Nat) /\ RowX none H3 H4 lv 3 (ints ps) /\ ps.length <= p /\ ps.Pairwise (· < ·) /\ (∀ x ∈ ps, 0 <= x /\ x < p) /\ (∀ x : Int, os[0]? = some x -> x < p -> x ∈ ps)) (n := pieces) ?_ ?_)
    ·exact ⟨_, 0, _, [], by omega, by omega, rfl, f0, f2, f3, f9, f10, f11, f12, rfl, rfl, RowX.nil, by simp, by simp, by simp, fun x hx hx0 => absurd (hob x (List.mem_of_getElem? hx)).1 (by omega)⟩
    ·rintro q a' H4 ⟨g, p, lv, ps, rfl, hpp, rfl, g0, g2, g3, g9, g10, g11, g12, g13, g14, hlv, hpl, hps, hpb, hpz⟩
     refine wpX_seq ?_
     (refine @unH _ ?_; refine z1 (And.intro y122_17 (And.intro @g14 @g2)) ?_)
     refine wpX_cond (by simp -implicitDefEqProofs (disch := first | omega | (simp only [qd] <;> omega)) only [act_eval, upd_get, Nat.reduceEqDiff, ↓reduceIte]; rfl) ?_
     by_cases hlt : p < pieces
     ·simp only [Int.ofNat_lt, hlt, decide_true, if_true]
      refine wpX_skip (wpX_seq (wpX_block ?_))
      (refine @unH _ ?_; refine z8 (And.intro y122_17 (And.intro @g11 (And.intro @g14 @g12))) ?_; try (refine inK ?_; intro K hK))
      refine (at_spec m H4 order os p (hos3.le hlv.1.toLe) (by omega)).runs.mono ?_
      rintro _ _ ⟨rfl, r, rfl, hr⟩
      (refine @unH _ ?_; refine z0 (And.intro y122_17 @g12) ?_)
      refine hK _ _ ?_; clear hK K
      refine wpX_cond (by simp -implicitDefEqProofs (disch := first | omega | (simp only [qd] <;> omega)) only [act_eval, upd_get, Nat.reduceEqDiff, ↓reduceIte]; rfl) ?_
      by_cases hrm : r < mn
      ·simp only [hrm, decide_true, if_true]
       refine wpX_last ?_; intro K hK
       (refine @unH _ ?_; refine z0 (And.intro y122_17 (And.intro @g13 @g14)) ?_)
       intro gb hgb
       refine append_i hlv hgb (by omega) _ _ _ _ ?_
       intro v' H5 hr5 ho5
       (refine @unH _ ?_; refine z0 y122_17 ?_)
       refine hK _ _ ?_; clear hK K
       simp -implicitDefEqProofs (disch := first | omega | (simp only [qd] <;> omega)) only [thn, blk, ↓reduceIte, Nat.reduceEqDiff]
       (refine @unH _ ?_; refine z2 (And.intro y122_17 @g14) ?_)
       simp -implicitDefEqProofs (disch := first | omega | (simp only [qd] <;> omega)) only [thn, blk, ↓reduceIte, Nat.reduceEqDiff]
       refine ⟨_, ?_, _, p + 1, v', ps ++ [(p : Int)], rfl, hlt, rfl, g0, g2, g3, g9, g10, g11, g12, rfl, rfl, hr5, by simp; omega, ?_, ?_, ?_⟩
       ·omega
       ·rw [List.pairwise_append]
        refine ⟨hps, by simp, fun x hx y hy => ?_⟩
        have := (hpb x hx).2
        simp at hy; omega
       ·intro x hx
        rcases List.mem_append.1 hx with hx | hx
        ·have := hpb x hx; omega
        ·simp at hx; omega
       ·intro x hx hx1
        by_cases hxp : x < p
        ·exact List.mem_append_left _ (hpz x hx hxp)
        ·exact List.mem_append_right _ (by simp; omega)
      ·simp only [hrm, decide_false, Bool.false_eq_true, if_false]
       refine wpX_skip ?_
       simp -implicitDefEqProofs (disch := first | omega | (simp only [qd] <;> omega)) only [thn, blk, ↓reduceIte, Nat.reduceEqDiff]
       (refine @unH _ ?_; refine z2 (And.intro y122_17 @g14) ?_)
       simp -implicitDefEqProofs (disch := first | omega | (simp only [qd] <;> omega)) only [thn, blk, ↓reduceIte, Nat.reduceEqDiff]
       refine ⟨_, ?_, _, p + 1, lv, ps, rfl, hlt, rfl, g0, g2, g3, g9, g10, g11, g12, g13, rfl, hlv, by omega, hps, ?_, ?_⟩
       ·omega
       ·intro x hx
        have := hpb x hx; omega
       ·intro x hx hx1
        by_cases hxp : x < p
        ·exact hpz x hx hxp
        ·have : x = p := by omega
         subst this
         exact absurd (hr hx) (by omega)
     ·simp only [Int.ofNat_lt, hlt, decide_false, Bool.false_eq_true, if_false]
      (refine wpX_exit ?_; simp only [thn, blk, ↓reduceIte, Nat.reduceEqDiff])
      have hpe : p = pieces := by omega
      subst hpe
      have hok' : CallOk p ps := by
       refine ⟨fun h => ?_, hps, hpb⟩
       have h0 : os[0]? = some os[0] := List.getElem?_eq_getElem (by omega)
       have := hpz _ h0 (hob _ (List.getElem_mem _)).2
       rw [h] at this; cases this
      have hsl : SlI H4 lv ps := hlv.ints
      have hov4 : RowX (some b) H H4 ov 22 vs := ((hov.lex (hl2.trans hl3) (hT'.notI (by decide))).lex (Lex.of hlv.1.toLe) (hT3.notI (by decide)))
      have hvs4 : Rows H4 vs xss := hvs.mono fun v xs h => ((h.lex (hl2.trans hl3) hT').le hlv.1.toLe)
      have hT4 : TinI H4 b (k + w * (p + 2)) := hT3.le hlv.1.toLe
      obtain ⟨la, lc, rfl⟩ := hlv.len
      rw [ints_len] at g13
      refine wpX_last ?_; intro K hK
      (refine @unH _ ?_; refine z0 (And.intro y122_17 (And.intro @g9 @g13)) ?_)
      intro gb hgb
      refine append_r hov4 rfl hgb ?_ _ _ _ _ ?_
      ·rw [hvs.1]; omega
      intro v' H5 hr5 ho5
      (refine @unH _ ?_; refine z0 y122_17 ?_)
      refine hK _ _ ?_; clear hK K
      simp -implicitDefEqProofs (disch := first | omega | (simp only [qd] <;> omega)) only [thn, blk, ↓reduceIte, Nat.reduceEqDiff]
      have hw1 : ((w + 1 : Nat) : Int) - 1 = (w : Nat) := by omega
      (refine @unH _ ?_; refine z2 (And.intro y122_17 (And.intro @g10 @hw1)) ?_)
      simp -implicitDefEqProofs (disch := first | omega | (simp only [qd] <;> omega)) only [thn, blk, ↓reduceIte, Nat.reduceEqDiff]
      refine ⟨w, by omega, _, v', _, xss ++ [ps], by omega, rfl, g0, g2, g3, rfl, rfl, hr5, ?_, by simp; omega, ?_, ho5.tin (by decide) hT4⟩
      ·rw [ints_len] at hsl
       exact (hvs4.mono fun v xs h => h.move fun x q c fr hx => ho5.cells hx (by decide)).snoc (hsl.move fun x q c fr hx => ho5.cells hx (by decide))
      ·intro xs hxs
       rcases List.mem_append.1 hxs with h | h
       ·exact hok xs h
       ·simp at h; rw [h]; exact hok'
  ·simp only [Int.natCast_pos, hlt, decide_false, Bool.false_eq_true, if_false]
   (refine wpX_exit ?_; simp only [thn, blk, ↓reduceIte, Nat.reduceEqDiff])
   (refine @unH _ ?_; refine z1 (And.intro y122_17 @e9) ?_)
   (refine @unH _ ?_; refine z9 Tryz.results122 ?_)
   exact ⟨_, xss, rfl, hov.rows hvs, by omega, hok, hov.1, hT'.less (by omega)⟩
def TruthOk (xss : List (List Int)) (ts : List Int) : Prop := ts.length = xss.length /\ ∀ (i : Nat) (t : Int) (xs : List Int), ts[i]? = some t -> xss[i]? = some xs -> t ∈ xs
theorem truthOf_spec (m : Md) (H : Hp) (b k : Nat) (pl pc : Int) (st cv : Value) (hst : one st = true) (xss : List (List Int)) (hcv : SlR H cv xss) (hne : ∀ xs ∈ xss, xs ≠ [] /\ xs.length <= 100000) (hlen : xss.length <= 100000) (hT : TinI H b (k + xss.length)) :
  FnX Tryz.prog m 123 #[.pointer (some ⟨b, 0, none⟩), .agg #[.int .i64 pl, .int .i64 pc, st, cv]] H fun e H' => ∃ v ts, e = .returned v /\ SlI H' v ts /\ TruthOk xss ts /\ Lex (some b) H H' /\ TinI H' b k := by
 obtain ⟨a, cap, rfl, hcap, hcv⟩ := hcv
 refine FnX_start Tryz.func123 rfl Tryz.ntmps123 (by simp) ?_
 (refine @unH _ ?_; refine z8 y123_17 ?_; try (refine inK ?_; intro K hK))
 intro nb hnb
 refine hK _ _ ?_; clear hK K
 (refine @unH _ ?_; refine z1 y123_17 ?_)
 refine wpX_seq ?_
 (refine @unH _ ?_; refine z1 y123_17 ?_)
 refine wpX_block (wpX_loop (fun w a' H' => ∃ e j tv ts, w = xss.length - j /\ j <= xss.length /\ a' = act 25 e [] /\ e 0 = .pointer (some ⟨b, 0, none⟩) /\ e 3 = .pointer (some ⟨nb, 0, none⟩) /\ e 5 = tv /\ e 6 = .int .i64 (j : Nat) /\
  RowX (some b) (H.set nb (.cells #[.int .i64 pl, .int .i64 pc, st, .slice a xss.length cap] 25 (0, 0))) H' tv 3 (ints ts) /\ ts.length = j /\ (∀ (i : Nat) (t : Int) (xs : List Int), ts[i]? = some t -> xss[i]? = some xs -> t ∈ xs) /\ TinI H' b (k + (xss.length - j))) (n := xss.length) ?_ ?_)
 ·exact ⟨_, 0, _, [], by omega, by omega, rfl, rfl, rfl, rfl, rfl, RowX.nil, rfl, by simp, (hT.new hnb).less (by omega)⟩
 ·rintro w a' H' ⟨e, j, tv, ts, rfl, hj, rfl, e0, e3, e5, e6, htv, htl, hti, hT'⟩
  have hnb' := htv.1.keeps set_at (hT.ne hnb)
  refine wpX_seq ?_
  (refine wpX_stmt ?_; intro K hK; simp -implicitDefEqProofs (disch := first | omega | (simp only [qd] <;> omega)) only [xq, ↓xp, qc, Nat.reduceAdd, List.range, List.range.loop, fine, Nat.reduceEqDiff, ↓reduceIte, yielded, reduceCtorEq, Nat.reduceLT, Nat.reduceMul, Nat.reduceSub, one, Nat.reduceLeDiff, runX_cons, y123_17, e3, e6, cell_of hnb', exists_eq_left']; refine hK _ _ ?_; clear hK K)
  refine wpX_cond (by simp -implicitDefEqProofs (disch := first | omega | (simp only [qd] <;> omega)) only [act_eval, upd_get, Nat.reduceEqDiff, ↓reduceIte]; rfl) ?_
  by_cases hlt : j < xss.length
  ·simp only [Int.ofNat_lt, hlt, decide_true, if_true]
   refine wpX_skip (wpX_seq (wpX_block ?_))
   obtain ⟨rb, ro, p, c, fr, w, rfl, hrb, hcw, hsl⟩ := hcv j xss[j] (List.getElem?_eq_getElem hlt)
   have hrb' := htv.1.keeps (Hp.le_set hnb _ _ hrb) (fun e' => by
    obtain ⟨_, _, _, _, _, hb2, _⟩ := hT
    rw [e', hb2] at hrb
    simp only [Option.some.injEq, Prod.mk.injEq, Obj.cells.injEq] at hrb
    exact absurd hrb.2.2.1 (by decide))
   have hcw' : c[ro + (j : Int).toNat * 1]? = some w := by simpa using hcw
   have hmem : xss[j] ∈ xss := List.getElem_mem hlt
   have hsl' : SlI H' w xss[j] := ((hsl.le (Hp.le_set hnb)).lex htv.1 (hT.new hnb))
   refine wpX_last ?_; intro K hK
   simp -implicitDefEqProofs (disch := first | omega | (simp only [qd] <;> omega)) only [xq, ↓xp, qc, Nat.reduceAdd, List.range, List.range.loop, fine, Nat.reduceEqDiff, ↓reduceIte, yielded, reduceCtorEq, Nat.reduceLT, Nat.reduceMul, Nat.reduceSub, one, Nat.reduceLeDiff, runX_cons, y123_17, e0, e3, e5, e6, cell_of hnb', cell_of hrb', hcw', exists_eq_left']
   refine (eitherL m H' b (k + (xss.length - (j + 1))) w xss[j] hsl' (hne _ hmem).1 (by have := (hne _ hmem).2; omega) (by rw [show k + (xss.length - (j + 1)) + 1 = k + (xss.length - j) by omega]; exact hT')).runs.mono ?_; rintro _ _ ⟨r, hr, rfl, hl2, hT2⟩; simp -implicitDefEqProofs (disch := first | omega | (simp only [qd] <;> omega)) only [xq, ↓xp, qc, Nat.reduceAdd, List.range, List.range.loop, fine, Nat.reduceEqDiff, ↓reduceIte, yielded, reduceCtorEq, Nat.reduceLT, Nat.reduceMul, Nat.reduceSub, one, Nat.reduceLeDiff, runX_cons, y123_17, e5]
   intro gb hgb
   have htv2 := htv.lex hl2 (hT'.notI (by decide))
   refine append_i htv2 hgb (by omega) _ _ _ _ ?_
   intro v' H5 hr5 ho5
   (refine @unH _ ?_; refine z0 y123_17 ?_)
   refine hK _ _ ?_; clear hK K
   simp -implicitDefEqProofs (disch := first | omega | (simp only [qd] <;> omega)) only [thn, blk, ↓reduceIte, Nat.reduceEqDiff]
   (refine @unH _ ?_; refine z2 (And.intro y123_17 @e6) ?_)
   simp -implicitDefEqProofs (disch := first | omega | (simp only [qd] <;> omega)) only [thn, blk, ↓reduceIte, Nat.reduceEqDiff]
   refine ⟨_, ?_, _, j + 1, v', ts ++ [r], rfl, hlt, rfl, e0, e3, rfl, rfl, hr5, by simp [htl], fun i t xs hi hx => ?_, ho5.tin (by decide) hT2⟩
   ·omega
   ·by_cases hij : i < ts.length
    ·rw [List.getElem?_append_left hij] at hi
     exact hti i t xs hi hx
    ·rw [List.getElem?_append_right (by omega)] at hi
     have h1 := (List.getElem?_eq_some_iff.1 hi).1
     simp at h1
     have : i = j := by omega
     subst this
     rw [show i - ts.length = 0 by omega] at hi
     simp at hi
     rw [List.getElem?_eq_getElem hlt] at hx
     rw [<- hi, <- Option.some.inj hx]
     exact hr
  ·simp only [Int.ofNat_lt, hlt, decide_false, Bool.false_eq_true, if_false]
   (refine wpX_exit ?_; simp only [thn, blk, ↓reduceIte, Nat.reduceEqDiff])
   (refine @unH _ ?_; refine z1 (And.intro y123_17 @e5) ?_)
   (refine @unH _ ?_; refine z9 Tryz.results123 ?_)
   have : j = xss.length := by omega
   exact ⟨_, ts, rfl, htv.ints, ⟨by omega, hti⟩, (Lex.refl.new hnb).trans htv.1, hT'.less (by omega)⟩
theorem plan_takeB {P : Program} {main : Md} {lp : Option Nat} {Q : Exit -> Act -> Hp -> Prop} {a : Act} {H : Hp} {nb : Nat} {u : Bool × Obj} {t i : Nat} {ops : List Oper} {o : Oper} {rest : List (Bool × Nat)} {v : Value} (ho : ops[i]? = some o) (hw : Region.wanted o (yielded ops.toArray a.tmps) = true) (hf : fine lp o = true)
  (hS : H nb = some u) (h : ∀ H', H' nb = some u -> wpS P (execOp a.eval o) H' (YN P main v H') fun _ _ => False) (hk : planX P main lp ops.toArray Q (fun H' => H' nb = some u) t rest (a.put o.dst v) H) : planX P main lp ops.toArray Q (fun H' => H' nb = some u) t ((true, i) :: rest) a H :=
 ⟨hS, o, by simpa using ho, v, .inl ⟨hw, hf, h⟩, hk⟩
theorem planX_act {P : Program} {main : Md} {lp : Option Nat} {Q : Exit -> Act -> Hp -> Prop} {S : Hp -> Prop} {a : Act} {H : Hp} {t i : Nat} {ops : Array Oper} {rest : List (Bool × Nat)} (h : numX P main lp ops i Q (fun a' H' => (i = t ∨ S H') /\ planX P main lp ops Q S t rest a' H') a H) : planX P main lp ops Q S t ((false, i) :: rest) a H := h
def VaultOk (places pieces : Int) (start : List Int) (xss : List (List Int)) : Prop :=
 1 <= places /\ places <= 4 /\ 1 <= pieces /\ pieces <= 6 /\ (start.length : Int) <= places /\ start.Nodup /\ (∀ x ∈ start, 0 <= x /\ x < pieces) /\ ∀ xs ∈ xss, CallOk pieces.toNat xs
theorem vaultOf_spec (m : Md) (H : Hp) (b k : Nat) (calls each : Nat) (hc : calls <= 8) (he0 : 1 <= each) (he : each <= 100) (hT : TinI H b (k + 20 + calls * 9)) :
  FnX Tryz.prog m 81 #[.pointer (some ⟨b, 0, none⟩), .int .i64 calls, .int .i64 each] H fun e H' => ∃ places pieces st start cv xss tv ts, e = .returned (.tuple #[.agg #[.int .i64 places, .int .i64 pieces, st, cv], tv]) /\
   SlI H' st start /\ SlR H' cv xss /\ SlI H' tv ts /\ VaultOk places pieces start xss /\ xss.length <= calls /\ TruthOk xss ts /\ Lex (some b) H H' /\ TinI H' b k := by
 refine FnX_start Tryz.func81 rfl Tryz.ntmps81 (by simp) ?_
 (refine @unH _ ?_; refine z8 y81_17 ?_; try (refine inK ?_; intro K hK))
 intro rb hrb
 refine hK _ _ ?_; clear hK K
 have hl0 : Lex (some b) H (H.set rb (.cells #[.int .i64 0, .int .i64 0, .slice none 0 0, .slice none 0 0] 25 (0, 0))) := Lex.refl.new hrb
 have hT0 := hT.new hrb (o := .cells #[.int .i64 0, .int .i64 0, .slice none 0 0, .slice none 0 0] 25 (0, 0))
 have hrbn := hT.ne hrb
 (refine @unH _ ?_; refine z8 y81_17 ?_; try (refine inK ?_; intro K hK))
 intro gb hgb
 refine (eitherL m _ b (k + 18 + calls * 9) _ [1, 2, 2, 3, 3, 4] (by exact SlI.lit (vs := [_, _, _, _, _, _]) _ rfl rfl) (by simp) (by simp) (by exact (hT0.new hgb).less (by omega))).runs.mono ?_; rintro _ _ ⟨pl, hpl, rfl, hl1, hT1⟩; simp -implicitDefEqProofs (disch := first | omega | (simp only [qd] <;> omega)) only [xq, ↓xp, qc, Nat.reduceAdd, List.range, List.range.loop, fine, Nat.reduceEqDiff, ↓reduceIte, yielded, reduceCtorEq, Nat.reduceLT, Nat.reduceMul, Nat.reduceSub, one, Nat.reduceLeDiff, runX_cons, y81_17]
 refine (withinL m _ b (k + 17 + calls * 9) 1 6 (by omega) (by omega) (by omega) (by omega) (hT1.less (by omega))).runs.mono ?_; rintro _ _ ⟨pc, hpc0, hpc1, rfl, hl2, hT2⟩; simp -implicitDefEqProofs (disch := first | omega | (simp only [qd] <;> omega)) only [xq, ↓xp, qc, Nat.reduceAdd, List.range, List.range.loop, fine, Nat.reduceEqDiff, ↓reduceIte, yielded, reduceCtorEq, Nat.reduceLT, Nat.reduceMul, Nat.reduceSub, one, Nat.reduceLeDiff, runX_cons, y81_17]
 intro nb hnb
 refine hK _ _ ?_; clear hK K
 have hnbn : nb ≠ b := hT2.ne hnb
 have hT3 := hT2.new hnb (o := .cells #[.int .i64 pl, .int .i64 pc, .slice none 0 0, .slice none 0 0] 25 (0, 0))
 have hl3 := ((((Lex.refl.new hgb).trans hl1).trans hl2).new hnb (o := .cells #[.int .i64 pl, .int .i64 pc, .slice none 0 0, .slice none 0 0] 25 (0, 0)))
 obtain ⟨pieces, rfl⟩ := Int.eq_ofNat_of_zero_le (show 0 <= pc by omega)
 have hpl' : 1 <= pl /\ pl <= 4 := by simp at hpl; omega
 clear hpl
 (refine @unH _ ?_; refine z8 (And.intro y81_17 @exists_eq_left'.{1}) ?_; try (refine inK ?_; intro K hK))
 refine (mixed_spec m _ b (k + 11 + calls * 9) pieces (by omega) (by exact hT3.less (by omega))).runs.mono ?_
 rintro _ H4 ⟨order, os, rfl, hos, hol, hond, hob, hl4, hT4⟩
 (refine @unH _ ?_; refine z0 y81_17 ?_)
 refine hK _ _ ?_; clear hK K
 have hnb4 := hl4.keeps set_at hnbn
 obtain ⟨ob, oo, oc, op, cc, ofr, rfl, hoc, hob4, hcc⟩ := hos.cons (by intro h; rw [h] at hol; simp at hol; omega)
 refine wpX_dstmt (fun H' => H' nb = some (true, .cells #[.int .i64 pl, .int .i64 (pieces : Int), .slice none 0 0, .slice none 0 0] 25 (0, 0))) 18 [(true, 0), (true, 1), (true, 2), (true, 3), (true, 4), (true, 5), (true, 6), (true, 7), (true, 8), (true, 9), (true, 10), (false, 11), (false, 12), (false, 13), (true, 14), (true, 15), (false, 16), (true, 17), (false, 18)] (by kernel_rfl) (by kernel_rfl) (by simp) (by kernel_rfl) ?_
 intro K hK
 iterate 11 (apply plan_takeB rfl rfl rfl ‹_›; (focus (intro HX hHX; simp -implicitDefEqProofs (disch := first | omega | (simp only [qd] <;> omega)) only [xq, ↓xp, qc, Nat.reduceAdd, List.range, List.range.loop, fine, Nat.reduceEqDiff, ↓reduceIte, yielded, reduceCtorEq, Nat.reduceLT, Nat.reduceMul, Nat.reduceSub, one, Nat.reduceLeDiff, runX_cons, y81_17, exists_eq_left', cell_of hHX, loadA_at hHX] <;> (first | exact rfl | exact ⟨rfl, rfl⟩))); simp only [act_put, act_put_none])
 (refine @unH _ ?_; refine zE y81_17 ?_)
 refine (uptoL m _ b (k + 10 + calls * 9) pl (by omega) (by exact hT4.less (by omega))).runs.mono ?_
 rintro _ H5 ⟨r, hr0, hr1, rfl, hl5, hT5⟩
 (refine @unH _ ?_; refine z0 y81_17 ?_)
 have hnb5 := hl5.keeps hnb4 hnbn
 refine ⟨.inr hnb5, ?_⟩
 (refine @unH _ ?_; refine zE y81_17 ?_)
 intro g2 hg2
 refine ⟨.inr (Hp.le_set hg2 _ _ hnb5), ?_⟩
 (refine @unH _ ?_; refine zE y81_17 ?_)
 refine (eitherL m _ b (k + 9 + calls * 9) _ [0, pl, pl, r] (by exact SlI.lit (vs := [_, _, _, _]) _ rfl rfl) (by simp) (by simp) (by exact (hT5.new hg2).less (by omega))).runs.mono ?_
 rintro _ H6 ⟨q, hq, rfl, hl6, hT6⟩
 (refine @unH _ ?_; refine z0 y81_17 ?_)
 have hnb6 := hl6.keeps (Hp.le_set hg2 _ _ hnb5) hnbn
 have hob6 := hl6.keeps (Hp.le_set hg2 _ _ (hl5.keeps hob4 (hT4.neI hob4))) (hT4.neI hob4)
 have hq' : 0 <= q /\ q <= pl := by simp at hq; omega
 clear hq
 obtain ⟨mm, hmm, hm0, hm1, hm2⟩ : ∃ mm : Nat, (if q < (pieces : Int) then q else (pieces : Int)) = mm /\ (mm : Int) <= pl /\ mm <= pieces /\ mm <= 1000 :=
  ⟨(if q < (pieces : Int) then q else (pieces : Int)).toNat, by split <;> omega, by split <;> omega, by split <;> omega, by split <;> omega⟩
 refine ⟨.inr hnb6, ?_⟩
 iterate 2 (apply plan_takeB rfl rfl rfl ‹_›; (focus (intro HX hHX; simp -implicitDefEqProofs (disch := first | omega | (simp only [qd] <;> omega)) only [xq, ↓xp, qc, Nat.reduceAdd, List.range, List.range.loop, fine, Nat.reduceEqDiff, ↓reduceIte, yielded, reduceCtorEq, Nat.reduceLT, Nat.reduceMul, Nat.reduceSub, one, Nat.reduceLeDiff, runX_cons, y81_17, hmm, Int.toNat_natCast, cell_of hHX, loadA_at hHX] <;> (first | exact rfl | exact ⟨rfl, rfl⟩))); simp only [act_put, act_put_none])
 (refine @unH _ ?_; refine zE y81_17 ?_)
 refine (keepInts_spec m _ ob oo mm oc (os.take mm) (fun j y hj => ?_) (by rw [List.length_take]; omega) (by omega) ⟨_, hob6⟩).runs.mono ?_
 ·rw [cell_of hob6]
  by_cases hjm : j < mm
  ·rw [List.getElem?_take_of_lt hjm] at hj
   exact hcc j y hj
  ·rw [List.getElem?_eq_none (by simp; omega)] at hj; cases hj
 rintro _ H7 ⟨sv, rfl, hsv, hl7⟩
 have hnb7 := hl7 _ _ hnb6
 obtain ⟨sa, scap, rfl, hscap, hsi⟩ := hsv
 (refine @unH _ ?_; refine z0 y81_17 ?_)
 refine ⟨.inr hnb7, ?_⟩
 (apply plan_takeB rfl rfl rfl ‹_›; (focus (intro HX hHX; simp -implicitDefEqProofs (disch := first | omega | (simp only [qd] <;> omega)) only [xq, ↓xp, qc, Nat.reduceAdd, List.range, List.range.loop, fine, Nat.reduceEqDiff, ↓reduceIte, yielded, reduceCtorEq, Nat.reduceLT, Nat.reduceMul, Nat.reduceSub, one, Nat.reduceLeDiff, runX_cons, y81_17, cell_of hHX, loadA_at hHX] <;> (first | exact rfl | exact ⟨rfl, rfl⟩))); simp only [act_put, act_put_none])
 (refine planX_act ?_; simp -implicitDefEqProofs (disch := first | omega | (simp only [qd] <;> omega)) only [xq, ↓xp, qc, Nat.reduceAdd, List.range, List.range.loop, fine, Nat.reduceEqDiff, ↓reduceIte, yielded, reduceCtorEq, Nat.reduceLT, Nat.reduceMul, Nat.reduceSub, one, Nat.reduceLeDiff, runX_cons, y81_17, storL_of hnb7, stor_at hnb7])
 refine ⟨.inl (by trivial), plan_nil (hK _ _ ?_)⟩
 clear hK K
 have hT7 := hT6.le hl7
 have hT8 := hT7.own hnb7 (Ne.symm hnbn) (o' := .cells #[.int .i64 pl, .int .i64 (pieces : Int), .slice sa (os.take mm).length scap, .slice none 0 0] 25 (0, 0))
 have hsv8 : SlI (H7.set nb (.cells #[.int .i64 pl, .int .i64 (pieces : Int), .slice sa (os.take mm).length scap, .slice none 0 0] 25 (0, 0))) (.slice sa (os.take mm).length scap) (os.take mm) :=
  SlI.set ⟨sa, scap, rfl, hscap, hsi⟩ fun p c fr e => by rw [hnb7] at e; cases e
 have hL7 := (((hl3.trans hl4).trans hl5).new hg2 (o := .cells #[.int .i64 0, .int .i64 pl, .int .i64 pl, .int .i64 r] 3 (0, 0))).trans hl6 |>.le hl7
 have hnb0 := (((Lex.refl.new hgb (o := .cells #[.int .i64 1, .int .i64 2, .int .i64 2, .int .i64 3, .int .i64 3, .int .i64 4] 3 (0, 0))).trans hl1).trans hl2).gone hnb
 have hL8 := hL7.own hnb0 (o := .cells #[.int .i64 pl, .int .i64 (pieces : Int), .slice sa (os.take mm).length scap, .slice none 0 0] 25 (0, 0))
 have hnb8 : (H7.set nb (.cells #[.int .i64 pl, .int .i64 (pieces : Int), .slice sa (os.take mm).length scap, .slice none 0 0] 25 (0, 0))) nb = _ := set_at
 generalize (H7.set nb (.cells #[.int .i64 pl, .int .i64 (pieces : Int), .slice sa (os.take mm).length scap, .slice none 0 0] 25 (0, 0))) = H8 at *
 (refine wpX_stmt ?_; intro K hK; simp -implicitDefEqProofs (disch := first | omega | (simp only [qd] <;> omega)) only [xq, ↓xp, qc, Nat.reduceAdd, List.range, List.range.loop, fine, Nat.reduceEqDiff, ↓reduceIte, yielded, reduceCtorEq, Nat.reduceLT, Nat.reduceMul, Nat.reduceSub, one, Nat.reduceLeDiff, runX_cons, y81_17, cell_of hnb8, exists_eq_left'])
 refine (callsOf_spec m H8 b (k + calls) calls pieces each (by omega) (by omega) (by omega) he0 he (hT8.less (by have : calls * (pieces + 2) <= calls * 8 := Nat.mul_le_mul_left _ (by omega); omega))).runs.mono ?_
 rintro _ H9 ⟨cv, xss, rfl, hcv, hxl, hxo, hl9, hT9⟩
 have hnb9 := hl9.keeps hnb8 hnbn
 obtain ⟨ca, ccap, rfl, hccap, hci⟩ := hcv
 simp -implicitDefEqProofs (disch := first | omega | (simp only [qd] <;> omega)) only [xq, ↓xp, qc, Nat.reduceAdd, List.range, List.range.loop, fine, Nat.reduceEqDiff, ↓reduceIte, yielded, reduceCtorEq, Nat.reduceLT, Nat.reduceMul, Nat.reduceSub, one, Nat.reduceLeDiff, runX_cons, y81_17, storL_of hnb9, stor_at hnb9]
 refine hK _ _ ?_; clear hK K
 have hnbI : ∀ p c fr e, (e = 3 ∨ e = 22) -> H9 nb ≠ some (p, .cells c e fr) := fun p c fr e he h => by
  rw [hnb9] at h
  simp only [Option.some.injEq, Prod.mk.injEq, Obj.cells.injEq] at h
  rcases he with he | he <;> rw [he] at h <;> exact absurd h.2.2.1 (by decide)
 have hsv9 := hsv8.lex hl9 hT8
 have hsv10 := hsv9.set (o := .cells #[.int .i64 pl, .int .i64 (pieces : Int), .slice sa (os.take mm).length scap, .slice ca xss.length ccap] 25 (0, 0)) fun p c fr => hnbI p c fr _ (.inl rfl)
 have hcv10 : SlR (H9.set nb (.cells #[.int .i64 pl, .int .i64 (pieces : Int), .slice sa (os.take mm).length scap, .slice ca xss.length ccap] 25 (0, 0))) (.slice ca xss.length ccap) xss :=
  SlR.move ⟨ca, ccap, rfl, hccap, hci⟩ fun x p c fr e he hx => by rw [set_ne (H := H9) (b := nb) (b' := x) (fun e' => hnbI p c fr e he (by rw [<- e']; exact hx))]; exact hx
 have hL10 := (hL8.trans hl9).own hnb0 (o := .cells #[.int .i64 pl, .int .i64 (pieces : Int), .slice sa (os.take mm).length scap, .slice ca xss.length ccap] 25 (0, 0))
 have hT10 := hT9.own hnb9 (Ne.symm hnbn) (o' := .cells #[.int .i64 pl, .int .i64 (pieces : Int), .slice sa (os.take mm).length scap, .slice ca xss.length ccap] 25 (0, 0))
 have hnb10 : (H9.set nb (.cells #[.int .i64 pl, .int .i64 (pieces : Int), .slice sa (os.take mm).length scap, .slice ca xss.length ccap] 25 (0, 0))) nb = _ := set_at
 generalize (H9.set nb (.cells #[.int .i64 pl, .int .i64 (pieces : Int), .slice sa (os.take mm).length scap, .slice ca xss.length ccap] 25 (0, 0))) = H10 at *
 refine wpX_dstmt (fun H' => H' nb = some (true, .cells #[.int .i64 pl, .int .i64 (pieces : Int), .slice sa (os.take mm).length scap, .slice ca xss.length ccap] 25 (0, 0))) 5 [(true, 0), (true, 1), (true, 2), (false, 3), (false, 4), (false, 5)] (by kernel_rfl) (by kernel_rfl) (by simp) (by kernel_rfl) ?_
 intro K hK
 iterate 3 (apply plan_takeB rfl rfl rfl ‹_›; (focus (intro HX hHX; simp -implicitDefEqProofs (disch := first | omega | (simp only [qd] <;> omega)) only [xq, ↓xp, qc, Nat.reduceAdd, List.range, List.range.loop, fine, Nat.reduceEqDiff, ↓reduceIte, yielded, reduceCtorEq, Nat.reduceLT, Nat.reduceMul, Nat.reduceSub, one, Nat.reduceLeDiff, runX_cons, y81_17, exists_eq_left', cell_of hHX, loadA_at hHX] <;> (first | exact rfl | exact ⟨rfl, rfl⟩))); simp only [act_put, act_put_none])
 (refine @unH _ ?_; refine zE y81_17 ?_)
 refine (truthOf_spec m H10 b k pl pieces _ _ (by rfl) xss hcv10 (fun xs h => ⟨(hxo xs h).1, by have := (hxo xs h).len; omega⟩) (by omega) (hT10.less (by omega))).runs.mono ?_
 rintro _ H11 ⟨tv, ts, rfl, hts, htok, hl11, hT11⟩
 obtain ⟨ta, tcap, rfl, htcap, hti⟩ := hts
 have hL11 := hL10.trans hl11
 have hnb11 := hl11.keeps hnb10 hnbn
 have hrb11 := hL11.keeps set_at hrbn
 have hrbnb : rb ≠ nb := fun e => by rw [<- e, set_at] at hnb0; cases hnb0
 (refine @unH _ ?_; refine z0 y81_17 ?_)
 refine ⟨.inr hnb11, ?_⟩
 (refine planX_act ?_; simp -implicitDefEqProofs (disch := first | omega | (simp only [qd] <;> omega)) only [xq, ↓xp, qc, Nat.reduceAdd, List.range, List.range.loop, fine, Nat.reduceEqDiff, ↓reduceIte, yielded, reduceCtorEq, Nat.reduceLT, Nat.reduceMul, Nat.reduceSub, one, Nat.reduceLeDiff, runX_cons, y81_17, storL_of hrb11])
 refine ⟨.inr (by rw [set_ne (Ne.symm hrbnb)]; exact hnb11), ?_⟩
 (refine @unH _ ?_; refine zE y81_17 ?_)
 refine ⟨.inl (by trivial), plan_nil (hK _ _ ?_)⟩
 clear hK K
 (refine wpX_ret ?_; (try simp only [nq, ↓reduceIte, Nat.reduceEqDiff]); rw [bodyX_ret, results_cell_tmp Tryz.results81 (by decide) (by decide) (b := rb) (o := 0) rfl Tryz.underlying25 rfl Tryz.sizeOf25]; simp -implicitDefEqProofs (disch := first | omega | (simp only [qd] <;> omega)) only [xq, ↓xp, qc, Nat.reduceAdd, List.range, List.range.loop, fine, Nat.reduceEqDiff, ↓reduceIte, yielded, reduceCtorEq, Nat.reduceLT, Nat.reduceMul, Nat.reduceSub, one, Nat.reduceLeDiff, runX_cons, y81_17, loadA_set])
 have hrbI : ∀ p c fr e, (e = 3 ∨ e = 22) -> H11 rb ≠ some (p, .cells c e fr) := fun p c fr e he h => by
  rw [hrb11] at h
  simp only [Option.some.injEq, Prod.mk.injEq, Obj.cells.injEq] at h
  rcases he with he | he <;> rw [he] at h <;> exact absurd h.2.2.1 (by decide)
 refine ⟨pl, pieces, _, os.take mm, _, xss, _, ts, rfl, (hsv10.lex hl11 hT10).set fun p c fr => hrbI p c fr _ (.inl rfl), (hcv10.lex hl11 hT10).move fun x p c fr e he hx => ?_,
  SlI.set ⟨ta, tcap, rfl, htcap, hti⟩ fun p c fr => hrbI p c fr _ (.inl rfl), ⟨by omega, by omega, by omega, by omega, by rw [List.length_take]; omega, (List.take_sublist _ _).nodup hond, fun x hx => hob x (List.mem_of_mem_take hx), fun xs h => hxo xs h⟩,
  hxl, htok, ((Lex.refl.new hrb).trans hL11).own hrb, hT11.own hrb11 (Ne.symm hrbn)⟩
 rw [set_ne (H := H11) (b := rb) (b' := x) (fun e' => hrbI p c fr e he (by rw [<- e']; exact hx))]
 exact hx
end Go.Proofs.YtofmadjgbcopdaaGreatDoor
end
