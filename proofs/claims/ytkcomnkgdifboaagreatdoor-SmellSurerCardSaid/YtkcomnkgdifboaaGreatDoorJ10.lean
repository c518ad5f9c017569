/- Texts Blds Fns Hid Tin Data. -/
import Derived.Test.YtkcomnkgdifboaaGreatDoorJ09
import Derived.Test.YtkcomnkgdifboaaGreatDoorProg
import Derived.IntWalk
set_option linter.defProp false
set_option linter.unusedSimpArgs false
set_option linter.unusedVariables false
set_option maxRecDepth 100000
set_option maxHeartbeats 2000000
section
namespace Go.Proofs.YtkcomnkgdifboaaGreatDoor
open Go Go.X
theorem Az2 (H : Hp) (kx1 : IntKind) (x1 : Int) (K : Value -> Hp -> Prop) (E : Value -> Hp -> Prop) : wpS Tryz.prog (Instr.buildSlice 22 1 #[(0, .int kx1 x1)]) H K E = ∀ b, H b = none -> K (.slice (some ⟨b, 0, none⟩) 1 1) (H.set b (.cells #[.int kx1 x1] 3 (0, 0))) := Avl (K := K) (E := E) Tryz.underlying22 Tryz.sizeOf3 Tryz.zeroValue3 rfl 1 [(0, .int kx1 x1)] (by decide) (by decide) (c := #[.int kx1 x1]) (by kernel_rfl)
theorem Bv7 (H : Hp) (x1 : Option Addr) (nx1 cx1 : Nat) (kx2 : IntKind) (x2 : Int) (K : Value -> Hp -> Prop) (E : Value -> Hp -> Prop) : wpS Tryz.prog (Instr.build 67 #[(0, .slice x1 nx1 cx1), (2, .int kx2 x2)]) H K E = K (.agg #[.slice x1 nx1 cx1, .int .i64 0, .int kx2 x2]) H := Axa Tryz.underlying67 Tryz.zeroValue67 (ns := [1, 1, 1]) ⟨Tryz.sizeOf22, Tryz.sizeOf3, Tryz.sizeOf65, trivial⟩ [(0, .slice x1 nx1 cx1), (2, .int kx2 x2)] (out := [.slice x1 nx1 cx1, .int .i64 0, .int kx2 x2]) (by kernel_rfl) K E
theorem Czs (H : Hp) (kx1 : IntKind) (x1 : Int) (K : Value -> Hp -> Prop) (E : Value -> Hp -> Prop) : wpS Tryz.prog (Instr.build 28 #[(0, .int kx1 x1)]) H K E = K (.agg #[.int kx1 x1, .slice none 0 0, .slice none 0 0, .slice none 0 0]) H := Axa Tryz.underlying28 Tryz.zeroValue28 (ns := [1, 1, 1, 1]) ⟨Tryz.sizeOf3, Tryz.sizeOf25, Tryz.sizeOf22, Tryz.sizeOf26, trivial⟩ [(0, .int kx1 x1)] (out := [.int kx1 x1, .slice none 0 0, .slice none 0 0, .slice none 0 0]) (by kernel_rfl) K E
theorem Av0 (H : Hp) (kx1 : IntKind) (x1 : Int) (kx2 : IntKind) (x2 : Int) (kx3 : IntKind) (x3 : Int) (K : Value -> Hp -> Prop) (E : Value -> Hp -> Prop) : wpS Tryz.prog (Instr.buildSlice 22 3 #[(0, .int kx1 x1), (1, .int kx2 x2), (2, .int kx3 x3)]) H K E = ∀ b, H b = none -> K (.slice (some ⟨b, 0, none⟩) 3 3) (H.set b (.cells #[.int kx1 x1, .int kx2 x2, .int kx3 x3] 3 (0, 0))) := Avl (K := K) (E := E) Tryz.underlying22 Tryz.sizeOf3 Tryz.zeroValue3 rfl 3 [(0, .int kx1 x1), (1, .int kx2 x2), (2, .int kx3 x3)] (by decide) (by decide) (c := #[.int kx1 x1, .int kx2 x2, .int kx3 x3]) (by kernel_rfl)
theorem Bv6 (H : Hp) (kx1 : IntKind) (x1 : Int) (kx2 : IntKind) (x2 : Int) (K : Value -> Hp -> Prop) (E : Value -> Hp -> Prop) : wpS Tryz.prog (Instr.build 49 #[(0, .int kx1 x1), (1, .int kx2 x2)]) H K E = K (.agg #[.int kx1 x1, .int kx2 x2, .bool false]) H := Axa Tryz.underlying49 Tryz.zeroValue49 (ns := [1, 1, 1]) ⟨Tryz.sizeOf3, Tryz.sizeOf3, Tryz.sizeOf4, trivial⟩ [(0, .int kx1 x1), (1, .int kx2 x2)] (out := [.int kx1 x1, .int kx2 x2, .bool false]) (by kernel_rfl) K E
theorem Bxm (H : Hp) (kx1 : IntKind) (x1 : Int) (x2 : Option Addr) (nx2 cx2 : Nat) (x3 : Option Addr) (nx3 cx3 : Nat) (x4 : Option Addr) (nx4 cx4 : Nat) (K : Value -> Hp -> Prop) (E : Value -> Hp -> Prop) : wpS Tryz.prog (Instr.build 28 #[(0, .int kx1 x1), (1, .slice x2 nx2 cx2), (2, .slice x3 nx3 cx3), (3, .slice x4 nx4 cx4)]) H K E = K (.agg #[.int kx1 x1, .slice x2 nx2 cx2, .slice x3 nx3 cx3, .slice x4 nx4 cx4]) H := Axa Tryz.underlying28 Tryz.zeroValue28 (ns := [1, 1, 1, 1]) ⟨Tryz.sizeOf3, Tryz.sizeOf25, Tryz.sizeOf22, Tryz.sizeOf26, trivial⟩ [(0, .int kx1 x1), (1, .slice x2 nx2 cx2), (2, .slice x3 nx3 cx3), (3, .slice x4 nx4 cx4)] (out := [.int kx1 x1, .slice x2 nx2 cx2, .slice x3 nx3 cx3, .slice x4 nx4 cx4]) (by kernel_rfl) K E
theorem Az0 (H : Hp) (kx1 : IntKind) (x1 : Int) (kx2 : IntKind) (x2 : Int) (K : Value -> Hp -> Prop) (E : Value -> Hp -> Prop) : wpS Tryz.prog (Instr.build 33 #[(0, .int kx1 x1), (1, .int kx2 x2)]) H K E = K (.agg #[.int kx1 x1, .int kx2 x2]) H := Axa Tryz.underlying33 Tryz.zeroValue33 (ns := [1, 1]) ⟨Tryz.sizeOf3, Tryz.sizeOf3, trivial⟩ [(0, .int kx1 x1), (1, .int kx2 x2)] (out := [.int kx1 x1, .int kx2 x2]) (by kernel_rfl) K E
theorem Aw9 (H : Hp) (kx1 : IntKind) (x1 : Int) (kx2 : IntKind) (x2 : Int) (kx3 : IntKind) (x3 : Int) (kx4 : IntKind) (x4 : Int) (K : Value -> Hp -> Prop) (E : Value -> Hp -> Prop) : wpS Tryz.prog (Instr.build 35 #[(0, .int kx1 x1), (1, .int kx2 x2), (2, .agg #[.int kx3 x3, .int kx4 x4])]) H K E = K (.agg #[.int kx1 x1, .int kx2 x2, .int kx3 x3, .int kx4 x4]) H := Axa Tryz.underlying35 Tryz.zeroValue35 (ns := [1, 1, 2]) ⟨Tryz.sizeOf3, Tryz.sizeOf3, Tryz.sizeOf33, trivial⟩ [(0, .int kx1 x1), (1, .int kx2 x2), (2, .agg #[.int kx3 x3, .int kx4 x4])] (out := [.int kx1 x1, .int kx2 x2, .int kx3 x3, .int kx4 x4]) (by kernel_rfl) K E
theorem Bx8 (H : Hp)  (K : Value -> Hp -> Prop) (E : Value -> Hp -> Prop) : wpS Tryz.prog (Instr.build 33 #[]) H K E = K (.agg #[.int .i64 0, .int .i64 0]) H := Axa Tryz.underlying33 Tryz.zeroValue33 (ns := [1, 1]) ⟨Tryz.sizeOf3, Tryz.sizeOf3, trivial⟩ [] (out := [.int .i64 0, .int .i64 0]) (by kernel_rfl) K E
theorem Ak1 (H : Hp) (kx1 : IntKind) (x1 : Int) (kx2 : IntKind) (x2 : Int) (kx3 : IntKind) (x3 : Int) (kx4 : IntKind) (x4 : Int) (kx5 : IntKind) (x5 : Int) (kx6 : IntKind) (x6 : Int) (kx7 : IntKind) (x7 : Int) (K : Value -> Hp -> Prop) (E : Value -> Hp -> Prop) : wpS Tryz.prog (Instr.build 82 #[(0, .int kx1 x1), (1, .agg #[.int kx2 x2, .int kx3 x3, .int kx4 x4, .int kx5 x5, .int kx6 x6, .int kx7 x7])]) H K E = K (.agg #[.int kx1 x1, .int kx2 x2, .int kx3 x3, .int kx4 x4, .int kx5 x5, .int kx6 x6, .int kx7 x7]) H := Axa Tryz.underlying82 Tryz.zeroValue82 (ns := [1, 6]) ⟨Tryz.sizeOf3, Tryz.sizeOf76, trivial⟩ [(0, .int kx1 x1), (1, .agg #[.int kx2 x2, .int kx3 x3, .int kx4 x4, .int kx5 x5, .int kx6 x6, .int kx7 x7])] (out := [.int kx1 x1, .int kx2 x2, .int kx3 x3, .int kx4 x4, .int kx5 x5, .int kx6 x6, .int kx7 x7]) (by kernel_rfl) K E
theorem Czt (H : Hp) (x1 : Fn) (ax1 bx1 : Array Value) (K : Value -> Hp -> Prop) (E : Value -> Hp -> Prop) : wpS Tryz.prog (Instr.build 96 #[(0, .func x1 ax1 bx1)]) H K E = K (.agg #[.func x1 ax1 bx1]) H := Axa Tryz.underlying96 Tryz.zeroValue96 (ns := [1]) ⟨Tryz.sizeOf89, trivial⟩ [(0, .func x1 ax1 bx1)] (out := [.func x1 ax1 bx1]) (by kernel_rfl) K E
theorem Czu (H : Hp)  (K : Value -> Hp -> Prop) (E : Value -> Hp -> Prop) : wpS Tryz.prog (Instr.build 96 #[(0, .nilFunc)]) H K E = K (.agg #[.nilFunc]) H := Axa Tryz.underlying96 Tryz.zeroValue96 (ns := [1]) ⟨Tryz.sizeOf89, trivial⟩ [(0, .nilFunc)] (out := [.nilFunc]) (by kernel_rfl) K E
theorem Bjg (H : Hp) (kx1 : IntKind) (x1 : Int) (kx2 : IntKind) (x2 : Int) (x3 : Bool) (K : Value -> Hp -> Prop) (E : Value -> Hp -> Prop) : wpS Tryz.prog (Instr.build 49 #[(0, .int kx1 x1), (1, .int kx2 x2), (2, .bool x3)]) H K E = K (.agg #[.int kx1 x1, .int kx2 x2, .bool x3]) H := Axa Tryz.underlying49 Tryz.zeroValue49 (ns := [1, 1, 1]) ⟨Tryz.sizeOf3, Tryz.sizeOf3, Tryz.sizeOf4, trivial⟩ [(0, .int kx1 x1), (1, .int kx2 x2), (2, .bool x3)] (out := [.int kx1 x1, .int kx2 x2, .bool x3]) (by kernel_rfl) K E
theorem Bkq (H : Hp) (kx1 : IntKind) (x1 : Int) (x2 : Option Addr) (nx2 cx2 : Nat) (x3 : Option Addr) (nx3 cx3 : Nat) (x4 : Option Addr) (nx4 cx4 : Nat) (x5 : Option Nat) (K : Value -> Hp -> Prop) (E : Value -> Hp -> Prop) : wpS Tryz.prog (Instr.build 120 #[(0, .agg #[.int kx1 x1, .slice x2 nx2 cx2, .slice x3 nx3 cx3, .slice x4 nx4 cx4]), (1, .map x5)]) H K E = K (.agg #[.int kx1 x1, .slice x2 nx2 cx2, .slice x3 nx3 cx3, .slice x4 nx4 cx4, .map x5]) H := Axa Tryz.underlying120 Tryz.zeroValue120 (ns := [4, 1]) ⟨Tryz.sizeOf28, Tryz.sizeOf118, trivial⟩ [(0, .agg #[.int kx1 x1, .slice x2 nx2 cx2, .slice x3 nx3 cx3, .slice x4 nx4 cx4]), (1, .map x5)] (out := [.int kx1 x1, .slice x2 nx2 cx2, .slice x3 nx3 cx3, .slice x4 nx4 cx4, .map x5]) (by kernel_rfl) K E
theorem Bjk (H : Hp) (kx1 : IntKind) (x1 : Int) (kx2 : IntKind) (x2 : Int) (K : Value -> Hp -> Prop) (E : Value -> Hp -> Prop) : wpS Tryz.prog (Instr.buildSlice 22 2 #[(0, .int kx1 x1), (1, .int kx2 x2)]) H K E = ∀ b, H b = none -> K (.slice (some ⟨b, 0, none⟩) 2 2) (H.set b (.cells #[.int kx1 x1, .int kx2 x2] 3 (0, 0))) := Avl (K := K) (E := E) Tryz.underlying22 Tryz.sizeOf3 Tryz.zeroValue3 rfl 2 [(0, .int kx1 x1), (1, .int kx2 x2)] (by decide) (by decide) (c := #[.int kx1 x1, .int kx2 x2]) (by kernel_rfl)
theorem Bkr (H : Hp) (kx1 : IntKind) (x1 : Int) (kx2 : IntKind) (x2 : Int) (K : Value -> Hp -> Prop) (E : Value -> Hp -> Prop) : wpS Tryz.prog (Instr.build 125 #[(0, .int kx1 x1), (1, .int kx2 x2)]) H K E = K (.agg #[.int kx1 x1, .int kx2 x2]) H := Axa Tryz.underlying125 Tryz.zeroValue125 (ns := [1, 1]) ⟨Tryz.sizeOf37, Tryz.sizeOf3, trivial⟩ [(0, .int kx1 x1), (1, .int kx2 x2)] (out := [.int kx1 x1, .int kx2 x2]) (by kernel_rfl) K E
theorem Bk8 (H : Hp) (x1 : Option Addr) (nx1 cx1 : Nat) (K : Value -> Hp -> Prop) (E : Value -> Hp -> Prop) : wpS Tryz.prog (Instr.buildSlice 115 1 #[(0, .slice x1 nx1 cx1)]) H K E = ∀ b, H b = none -> K (.slice (some ⟨b, 0, none⟩) 1 1) (H.set b (.cells #[.slice x1 nx1 cx1] 22 (0, 0))) := Avl (K := K) (E := E) Tryz.underlying115 Tryz.sizeOf22 Tryz.zeroValue22 rfl 1 [(0, .slice x1 nx1 cx1)] (by decide) (by decide) (c := #[.slice x1 nx1 cx1]) (by kernel_rfl)
theorem Bx7 (H : Hp) (kx1 : IntKind) (x1 : Int) (K : Value -> Hp -> Prop) (E : Value -> Hp -> Prop) : wpS Tryz.prog (Instr.build 130 #[(0, .int kx1 x1)]) H K E = K (.agg #[.int kx1 x1, .int .i64 0, .int .i64 0, .bool false, .int .i64 0, .int .i64 0, .bool false, .int .i64 0, .int .i64 0, .bool false, .int .i64 0, .int .i64 0, .bool false, .int .i64 0, .int .i64 0, .bool false, .int .i64 0, .int .i64 0, .bool false, .int .i64 0, .int .i64 0, .int .i64 0, .int .i64 0, .int .i64 0, .int .i64 0, .bool false, .int .i64 0, .int .i64 0, .bool false, .int .i64 0, .int .i64 0, .bool false, .int .i64 0, .int .i64 0, .bool false, .int .i64 0, .int .i64 0, .bool false, .int .i64 0, .int .i64 0, .bool false, .int .i64 0, .int .i64 0, .bool false, .int .i64 0, .int .i64 0, .int .i64 0, .int .i64 0, .int .i64 0, .int .i64 0, .bool false, .int .i64 0, .int .i64 0, .bool false, .int .i64 0, .int .i64 0, .bool false, .int .i64 0, .int .i64 0, .bool false, .int .i64 0, .int .i64 0, .bool false, .int .i64 0, .int .i64 0, .bool false, .int .i64 0, .int .i64 0, .bool false, .int .i64 0, .int .i64 0, .int .i64 0, .int .i64 0, .int .i64 0, .int .i64 0, .bool false, .int .i64 0, .int .i64 0, .bool false, .int .i64 0, .int .i64 0, .bool false, .int .i64 0, .int .i64 0, .bool false, .int .i64 0, .int .i64 0, .bool false, .int .i64 0, .int .i64 0, .bool false, .int .i64 0, .int .i64 0, .bool false, .int .i64 0, .int .i64 0, .int .i64 0, .int .i64 0, .int .i64 0, .int .i64 0, .bool false, .int .i64 0, .int .i64 0, .bool false, .int .i64 0, .int .i64 0, .bool false, .int .i64 0, .int .i64 0, .bool false, .int .i64 0, .int .i64 0, .bool false, .int .i64 0, .int .i64 0, .bool false, .int .i64 0, .int .i64 0, .bool false, .int .i64 0, .int .i64 0, .int .i64 0, .int .i64 0, .int .i64 0, .int .i64 0, .bool false, .int .i64 0, .int .i64 0, .bool false, .int .i64 0, .int .i64 0, .bool false, .int .i64 0, .int .i64 0, .bool false, .int .i64 0, .int .i64 0, .bool false, .int .i64 0, .int .i64 0, .bool false, .int .i64 0, .int .i64 0, .bool false, .int .i64 0, .int .i64 0, .int .i64 0, .int .i64 0, .int .i64 0, .int .i64 0, .bool false, .int .i64 0, .int .i64 0, .bool false, .int .i64 0, .int .i64 0, .bool false, .int .i64 0, .int .i64 0, .bool false, .int .i64 0, .int .i64 0, .bool false, .int .i64 0, .int .i64 0, .bool false, .int .i64 0, .int .i64 0, .bool false, .int .i64 0, .int .i64 0, .int .i64 0, .int .i64 0, .int .i64 0, .int .i64 0, .bool false, .int .i64 0, .int .i64 0, .bool false, .int .i64 0, .int .i64 0, .bool false, .int .i64 0, .int .i64 0, .bool false, .int .i64 0, .int .i64 0, .bool false, .int .i64 0, .int .i64 0, .bool false, .int .i64 0, .int .i64 0, .bool false, .int .i64 0, .int .i64 0, .int .i64 0, .int .i64 0, .int .i64 0, .int .i64 0, .bool false, .int .i64 0, .int .i64 0, .bool false, .int .i64 0, .int .i64 0, .bool false, .int .i64 0, .int .i64 0, .bool false, .int .i64 0, .int .i64 0, .bool false, .int .i64 0, .int .i64 0, .bool false, .int .i64 0, .int .i64 0, .bool false, .int .i64 0, .int .i64 0, .int .i64 0, .int .i64 0, .int .i64 0, .int .i64 0, .bool false, .int .i64 0, .int .i64 0, .bool false, .int .i64 0, .int .i64 0, .bool false, .int .i64 0, .int .i64 0, .bool false, .int .i64 0, .int .i64 0, .bool false, .int .i64 0, .int .i64 0, .bool false, .int .i64 0, .int .i64 0, .bool false, .int .i64 0, .int .i64 0, .int .i64 0, .int .i64 0, .int .i64 0, .int .i64 0, .bool false, .int .i64 0, .int .i64 0, .bool false, .int .i64 0, .int .i64 0, .bool false, .int .i64 0, .int .i64 0, .bool false, .int .i64 0, .int .i64 0, .bool false, .int .i64 0, .int .i64 0, .bool false, .int .i64 0, .int .i64 0, .bool false, .int .i64 0, .int .i64 0, .int .i64 0, .int .i64 0, .int .i64 0, .int .i64 0, .bool false, .int .i64 0, .int .i64 0, .bool false, .int .i64 0, .int .i64 0, .bool false, .int .i64 0, .int .i64 0, .bool false, .int .i64 0, .int .i64 0, .bool false, .int .i64 0, .int .i64 0, .bool false, .int .i64 0, .int .i64 0, .bool false, .int .i64 0, .int .i64 0, .int .i64 0, .int .i64 0, .int .i64 0, .int .i64 0, .bool false, .int .i64 0, .int .i64 0, .bool false, .int .i64 0, .int .i64 0, .bool false, .int .i64 0, .int .i64 0, .bool false, .int .i64 0, .int .i64 0, .bool false, .int .i64 0, .int .i64 0, .bool false, .int .i64 0, .int .i64 0, .bool false, .int .i64 0, .int .i64 0, .int .i64 0, .int .i64 0, .int .i64 0, .int .i64 0, .bool false]) H := Axa Tryz.underlying130 Tryz.zeroValue130 (ns := [1, 325]) ⟨Tryz.sizeOf3, Tryz.sizeOf128, trivial⟩ [(0, .int kx1 x1)] (out := [.int kx1 x1, .int .i64 0, .int .i64 0, .bool false, .int .i64 0, .int .i64 0, .bool false, .int .i64 0, .int .i64 0, .bool false, .int .i64 0, .int .i64 0, .bool false, .int .i64 0, .int .i64 0, .bool false, .int .i64 0, .int .i64 0, .bool false, .int .i64 0, .int .i64 0, .int .i64 0, .int .i64 0, .int .i64 0, .int .i64 0, .bool false, .int .i64 0, .int .i64 0, .bool false, .int .i64 0, .int .i64 0, .bool false, .int .i64 0, .int .i64 0, .bool false, .int .i64 0, .int .i64 0, .bool false, .int .i64 0, .int .i64 0, .bool false, .int .i64 0, .int .i64 0, .bool false, .int .i64 0, .int .i64 0, .int .i64 0, .int .i64 0, .int .i64 0, .int .i64 0, .bool false, .int .i64 0, .int .i64 0, .bool false, .int .i64 0, .int .i64 0, .bool false, .int .i64 0, .int .i64 0, .bool false, .int .i64 0, .int .i64 0, .bool false, .int .i64 0, .int .i64 0, .bool false, .int .i64 0, .int .i64 0, .bool false, .int .i64 0, .int .i64 0, .int .i64 0, .int .i64 0, .int .i64 0, .int .i64 0, .bool false, .int .i64 0, .int .i64 0, .bool false, .int .i64 0, .int .i64 0, .bool false, .int .i64 0, .int .i64 0, .bool false, .int .i64 0, .int .i64 0, .bool false, .int .i64 0, .int .i64 0, .bool false, .int .i64 0, .int .i64 0, .bool false, .int .i64 0, .int .i64 0, .int .i64 0, .int .i64 0, .int .i64 0, .int .i64 0, .bool false, .int .i64 0, .int .i64 0, .bool false, .int .i64 0, .int .i64 0, .bool false, .int .i64 0, .int .i64 0, .bool false, .int .i64 0, .int .i64 0, .bool false, .int .i64 0, .int .i64 0, .bool false, .int .i64 0, .int .i64 0, .bool false, .int .i64 0, .int .i64 0, .int .i64 0, .int .i64 0, .int .i64 0, .int .i64 0, .bool false, .int .i64 0, .int .i64 0, .bool false, .int .i64 0, .int .i64 0, .bool false, .int .i64 0, .int .i64 0, .bool false, .int .i64 0, .int .i64 0, .bool false, .int .i64 0, .int .i64 0, .bool false, .int .i64 0, .int .i64 0, .bool false, .int .i64 0, .int .i64 0, .int .i64 0, .int .i64 0, .int .i64 0, .int .i64 0, .bool false, .int .i64 0, .int .i64 0, .bool false, .int .i64 0, .int .i64 0, .bool false, .int .i64 0, .int .i64 0, .bool false, .int .i64 0, .int .i64 0, .bool false, .int .i64 0, .int .i64 0, .bool false, .int .i64 0, .int .i64 0, .bool false, .int .i64 0, .int .i64 0, .int .i64 0, .int .i64 0, .int .i64 0, .int .i64 0, .bool false, .int .i64 0, .int .i64 0, .bool false, .int .i64 0, .int .i64 0, .bool false, .int .i64 0, .int .i64 0, .bool false, .int .i64 0, .int .i64 0, .bool false, .int .i64 0, .int .i64 0, .bool false, .int .i64 0, .int .i64 0, .bool false, .int .i64 0, .int .i64 0, .int .i64 0, .int .i64 0, .int .i64 0, .int .i64 0, .bool false, .int .i64 0, .int .i64 0, .bool false, .int .i64 0, .int .i64 0, .bool false, .int .i64 0, .int .i64 0, .bool false, .int .i64 0, .int .i64 0, .bool false, .int .i64 0, .int .i64 0, .bool false, .int .i64 0, .int .i64 0, .bool false, .int .i64 0, .int .i64 0, .int .i64 0, .int .i64 0, .int .i64 0, .int .i64 0, .bool false, .int .i64 0, .int .i64 0, .bool false, .int .i64 0, .int .i64 0, .bool false, .int .i64 0, .int .i64 0, .bool false, .int .i64 0, .int .i64 0, .bool false, .int .i64 0, .int .i64 0, .bool false, .int .i64 0, .int .i64 0, .bool false, .int .i64 0, .int .i64 0, .int .i64 0, .int .i64 0, .int .i64 0, .int .i64 0, .bool false, .int .i64 0, .int .i64 0, .bool false, .int .i64 0, .int .i64 0, .bool false, .int .i64 0, .int .i64 0, .bool false, .int .i64 0, .int .i64 0, .bool false, .int .i64 0, .int .i64 0, .bool false, .int .i64 0, .int .i64 0, .bool false, .int .i64 0, .int .i64 0, .int .i64 0, .int .i64 0, .int .i64 0, .int .i64 0, .bool false, .int .i64 0, .int .i64 0, .bool false, .int .i64 0, .int .i64 0, .bool false, .int .i64 0, .int .i64 0, .bool false, .int .i64 0, .int .i64 0, .bool false, .int .i64 0, .int .i64 0, .bool false, .int .i64 0, .int .i64 0, .bool false, .int .i64 0, .int .i64 0, .int .i64 0, .int .i64 0, .int .i64 0, .int .i64 0, .bool false, .int .i64 0, .int .i64 0, .bool false, .int .i64 0, .int .i64 0, .bool false, .int .i64 0, .int .i64 0, .bool false, .int .i64 0, .int .i64 0, .bool false, .int .i64 0, .int .i64 0, .bool false, .int .i64 0, .int .i64 0, .bool false, .int .i64 0, .int .i64 0, .int .i64 0, .int .i64 0, .int .i64 0, .int .i64 0, .bool false]) (by kernel_rfl) K E
theorem Czr (H : Hp)  (K : Value -> Hp -> Prop) (E : Value -> Hp -> Prop) : wpS Tryz.prog (Instr.build 194 #[]) H K E = K (.agg #[]) H := Axa Tryz.underlying194 Tryz.zeroValue194 (ns := []) trivial [] (out := []) (by kernel_rfl) K E
theorem Byp (H : Hp) (kx1 : IntKind) (x1 : Int) (K : Value -> Hp -> Prop) (E : Value -> Hp -> Prop) : wpS Tryz.prog (Instr.build 200 #[(0, .int kx1 x1)]) H K E = K (.agg #[.int kx1 x1]) H := Axa Tryz.underlying200 Tryz.zeroValue200 (ns := [1]) ⟨Tryz.sizeOf3, trivial⟩ [(0, .int kx1 x1)] (out := [.int kx1 x1]) (by kernel_rfl) K E
theorem Byq (H : Hp) (kx1 : IntKind) (x1 : Int) (K : Value -> Hp -> Prop) (E : Value -> Hp -> Prop) : wpS Tryz.prog (Instr.build 202 #[(0, .int kx1 x1)]) H K E = K (.agg #[.int kx1 x1]) H := Axa Tryz.underlying202 Tryz.zeroValue202 (ns := [1]) ⟨Tryz.sizeOf3, trivial⟩ [(0, .int kx1 x1)] (out := [.int kx1 x1]) (by kernel_rfl) K E
end Go.Proofs.YtkcomnkgdifboaaGreatDoor
end
section
namespace Go.Proofs.YtkcomnkgdifboaaGreatDoor
open Go Go.X
variable {H : Hp} (args : Array Value) (K : Next -> Hp -> Prop) (E : Value -> Hp -> Prop)
theorem callF9 : wpS Tryz.prog (callFunc 9 args) H K E = K (.enter 9 args) H := Aqi Tryz.func9 (by kernel_rfl) (by kernel_rfl) args K E
theorem callF10 : wpS Tryz.prog (callFunc 10 args) H K E = K (.enter 10 args) H := Aqi Tryz.func10 (by kernel_rfl) (by kernel_rfl) args K E
theorem callF11 : wpS Tryz.prog (callFunc 11 args) H K E = K (.enter 11 args) H := Aqi Tryz.func11 (by kernel_rfl) (by kernel_rfl) args K E
theorem Dza : wpS Tryz.prog (callFunc 12 args) H K E = K (.enter 12 args) H := Aqi Tryz.func12 (by kernel_rfl) (by kernel_rfl) args K E
theorem Dzb : wpS Tryz.prog (callFunc 13 args) H K E = K (.enter 13 args) H := Aqi Tryz.func13 (by kernel_rfl) (by kernel_rfl) args K E
theorem callF14 : wpS Tryz.prog (callFunc 14 args) H K E = K (.enter 14 args) H := Aqi Tryz.func14 (by kernel_rfl) (by kernel_rfl) args K E
theorem Bqt : wpS Tryz.prog (callFunc 15 args) H K E = K (.enter 15 args) H := Aqi Tryz.func15 (by kernel_rfl) (by kernel_rfl) args K E
theorem Dzc : wpS Tryz.prog (callFunc 16 args) H K E = K (.enter 16 args) H := Aqi Tryz.func16 (by kernel_rfl) (by kernel_rfl) args K E
theorem Dzd : wpS Tryz.prog (callFunc 17 args) H K E = K (.enter 17 args) H := Aqi Tryz.func17 (by kernel_rfl) (by kernel_rfl) args K E
theorem Ckr : wpS Tryz.prog (callFunc 19 args) H K E = K (.enter 19 args) H := Aqi Tryz.func19 (by kernel_rfl) (by kernel_rfl) args K E
theorem callF20 : wpS Tryz.prog (callFunc 20 args) H K E = K (.enter 20 args) H := Aqi Tryz.func20 (by kernel_rfl) (by kernel_rfl) args K E
theorem Dze : wpS Tryz.prog (callFunc 21 args) H K E = K (.enter 21 args) H := Aqi Tryz.func21 (by kernel_rfl) (by kernel_rfl) args K E
theorem Dzf : wpS Tryz.prog (callFunc 24 args) H K E = K (.enter 24 args) H := Aqi Tryz.func24 (by kernel_rfl) (by kernel_rfl) args K E
theorem Dzg : wpS Tryz.prog (callFunc 27 args) H K E = K (.enter 27 args) H := Aqi Tryz.func27 (by kernel_rfl) (by kernel_rfl) args K E
theorem Dzh : wpS Tryz.prog (callFunc 28 args) H K E = K (.enter 28 args) H := Aqi Tryz.func28 (by kernel_rfl) (by kernel_rfl) args K E
theorem Dzi : wpS Tryz.prog (callFunc 29 args) H K E = K (.enter 29 args) H := Aqi Tryz.func29 (by kernel_rfl) (by kernel_rfl) args K E
theorem Dzj : wpS Tryz.prog (callFunc 31 args) H K E = K (.enter 31 args) H := Aqi Tryz.func31 (by kernel_rfl) (by kernel_rfl) args K E
theorem Dzk : wpS Tryz.prog (callFunc 32 args) H K E = K (.enter 32 args) H := Aqi Tryz.func32 (by kernel_rfl) (by kernel_rfl) args K E
theorem Dzl : wpS Tryz.prog (callFunc 33 args) H K E = K (.enter 33 args) H := Aqi Tryz.func33 (by kernel_rfl) (by kernel_rfl) args K E
theorem Bys : wpS Tryz.prog (callFunc 34 args) H K E = K (.enter 34 args) H := Aqi Tryz.func34 (by kernel_rfl) (by kernel_rfl) args K E
theorem Dzm : wpS Tryz.prog (callFunc 35 args) H K E = K (.enter 35 args) H := Aqi Tryz.func35 (by kernel_rfl) (by kernel_rfl) args K E
theorem Dzn : wpS Tryz.prog (callFunc 36 args) H K E = K (.enter 36 args) H := Aqi Tryz.func36 (by kernel_rfl) (by kernel_rfl) args K E
theorem Dzo : wpS Tryz.prog (callFunc 37 args) H K E = K (.enter 37 args) H := Aqi Tryz.func37 (by kernel_rfl) (by kernel_rfl) args K E
theorem Dzp : wpS Tryz.prog (callFunc 38 args) H K E = K (.enter 38 args) H := Aqi Tryz.func38 (by kernel_rfl) (by kernel_rfl) args K E
theorem Bkt : wpS Tryz.prog (callFunc 39 args) H K E = K (.enter 39 args) H := Aqi Tryz.func39 (by kernel_rfl) (by kernel_rfl) args K E
theorem Ayg : wpS Tryz.prog (callFunc 40 args) H K E = K (.enter 40 args) H := Aqi Tryz.func40 (by kernel_rfl) (by kernel_rfl) args K E
theorem Byt : wpS Tryz.prog (callFunc 41 args) H K E = K (.enter 41 args) H := Aqi Tryz.func41 (by kernel_rfl) (by kernel_rfl) args K E
theorem Byu : wpS Tryz.prog (callFunc 42 args) H K E = K (.enter 42 args) H := Aqi Tryz.func42 (by kernel_rfl) (by kernel_rfl) args K E
theorem Cks : wpS Tryz.prog (callFunc 43 args) H K E = K (.enter 43 args) H := Aqi Tryz.func43 (by kernel_rfl) (by kernel_rfl) args K E
theorem Dzq : wpS Tryz.prog (callFunc 44 args) H K E = K (.enter 44 args) H := Aqi Tryz.func44 (by kernel_rfl) (by kernel_rfl) args K E
theorem Dzr : wpS Tryz.prog (callFunc 45 args) H K E = K (.enter 45 args) H := Aqi Tryz.func45 (by kernel_rfl) (by kernel_rfl) args K E
theorem Bza : wpS Tryz.prog (callFunc 46 args) H K E = K (.enter 46 args) H := Aqi Tryz.func46 (by kernel_rfl) (by kernel_rfl) args K E
theorem Bku : wpS Tryz.prog (callFunc 47 args) H K E = K (.enter 47 args) H := Aqi Tryz.func47 (by kernel_rfl) (by kernel_rfl) args K E
theorem Dzs : wpS Tryz.prog (callFunc 48 args) H K E = K (.enter 48 args) H := Aqi Tryz.func48 (by kernel_rfl) (by kernel_rfl) args K E
theorem Dzt : wpS Tryz.prog (callFunc 49 args) H K E = K (.enter 49 args) H := Aqi Tryz.func49 (by kernel_rfl) (by kernel_rfl) args K E
theorem Dzu : wpS Tryz.prog (callFunc 50 args) H K E = K (.enter 50 args) H := Aqi Tryz.func50 (by kernel_rfl) (by kernel_rfl) args K E
theorem Dzv : wpS Tryz.prog (callFunc 51 args) H K E = K (.enter 51 args) H := Aqi Tryz.func51 (by kernel_rfl) (by kernel_rfl) args K E
theorem Dzw : wpS Tryz.prog (callFunc 52 args) H K E = K (.enter 52 args) H := Aqi Tryz.func52 (by kernel_rfl) (by kernel_rfl) args K E
theorem Dzx : wpS Tryz.prog (callFunc 54 args) H K E = K (.enter 54 args) H := Aqi Tryz.func54 (by kernel_rfl) (by kernel_rfl) args K E
theorem Dzy : wpS Tryz.prog (callFunc 55 args) H K E = K (.enter 55 args) H := Aqi Tryz.func55 (by kernel_rfl) (by kernel_rfl) args K E
theorem Dzz : wpS Tryz.prog (callFunc 56 args) H K E = K (.enter 56 args) H := Aqi Tryz.func56 (by kernel_rfl) (by kernel_rfl) args K E
theorem Dz0 : wpS Tryz.prog (callFunc 57 args) H K E = K (.enter 57 args) H := Aqi Tryz.func57 (by kernel_rfl) (by kernel_rfl) args K E
theorem Cku : wpS Tryz.prog (callFunc 58 args) H K E = K (.enter 58 args) H := Aqi Tryz.func58 (by kernel_rfl) (by kernel_rfl) args K E
theorem Bzb : wpS Tryz.prog (callFunc 59 args) H K E = K (.enter 59 args) H := Aqi Tryz.func59 (by kernel_rfl) (by kernel_rfl) args K E
theorem Dz1 : wpS Tryz.prog (callFunc 61 args) H K E = K (.enter 61 args) H := Aqi Tryz.func61 (by kernel_rfl) (by kernel_rfl) args K E
theorem Byv : wpS Tryz.prog (callFunc 63 args) H K E = K (.enter 63 args) H := Aqi Tryz.func63 (by kernel_rfl) (by kernel_rfl) args K E
theorem Dz2 : wpS Tryz.prog (callFunc 64 args) H K E = K (.enter 64 args) H := Aqi Tryz.func64 (by kernel_rfl) (by kernel_rfl) args K E
theorem Bkv : wpS Tryz.prog (callFunc 65 args) H K E = K (.enter 65 args) H := Aqi Tryz.func65 (by kernel_rfl) (by kernel_rfl) args K E
theorem Dz3 : wpS Tryz.prog (callFunc 66 args) H K E = K (.enter 66 args) H := Aqi Tryz.func66 (by kernel_rfl) (by kernel_rfl) args K E
theorem Ckv : wpS Tryz.prog (callFunc 67 args) H K E = K (.enter 67 args) H := Aqi Tryz.func67 (by kernel_rfl) (by kernel_rfl) args K E
theorem Dz4 : wpS Tryz.prog (callFunc 68 args) H K E = K (.enter 68 args) H := Aqi Tryz.func68 (by kernel_rfl) (by kernel_rfl) args K E
theorem Dz5 : wpS Tryz.prog (callFunc 69 args) H K E = K (.enter 69 args) H := Aqi Tryz.func69 (by kernel_rfl) (by kernel_rfl) args K E
theorem Dz6 : wpS Tryz.prog (callFunc 70 args) H K E = K (.enter 70 args) H := Aqi Tryz.func70 (by kernel_rfl) (by kernel_rfl) args K E
theorem Dz7 : wpS Tryz.prog (callFunc 71 args) H K E = K (.enter 71 args) H := Aqi Tryz.func71 (by kernel_rfl) (by kernel_rfl) args K E
theorem Dz8 : wpS Tryz.prog (callFunc 72 args) H K E = K (.enter 72 args) H := Aqi Tryz.func72 (by kernel_rfl) (by kernel_rfl) args K E
theorem Dz9 : wpS Tryz.prog (callFunc 74 args) H K E = K (.enter 74 args) H := Aqi Tryz.func74 (by kernel_rfl) (by kernel_rfl) args K E
theorem Dja : wpS Tryz.prog (callFunc 76 args) H K E = K (.enter 76 args) H := Aqi Tryz.func76 (by kernel_rfl) (by kernel_rfl) args K E
theorem Djb : wpS Tryz.prog (callFunc 78 args) H K E = K (.enter 78 args) H := Aqi Tryz.func78 (by kernel_rfl) (by kernel_rfl) args K E
theorem Djc : wpS Tryz.prog (callFunc 79 args) H K E = K (.enter 79 args) H := Aqi Tryz.func79 (by kernel_rfl) (by kernel_rfl) args K E
theorem Ckw : wpS Tryz.prog (callFunc 98 args) H K E = K (.enter 98 args) H := Aqi Tryz.func98 (by kernel_rfl) (by kernel_rfl) args K E
theorem Ckx : wpS Tryz.prog (callFunc 99 args) H K E = K (.enter 99 args) H := Aqi Tryz.func99 (by kernel_rfl) (by kernel_rfl) args K E
theorem Cym : wpS Tryz.prog (callFunc 112 args) H K E = K (.enter 112 args) H := Aqi Tryz.func112 (by kernel_rfl) (by kernel_rfl) args K E
theorem Cxn : wpS Tryz.prog (callFunc 113 args) H K E = K (.enter 113 args) H := Aqi Tryz.func113 (by kernel_rfl) (by kernel_rfl) args K E
theorem Cyn : wpS Tryz.prog (callFunc 114 args) H K E = K (.enter 114 args) H := Aqi Tryz.func114 (by kernel_rfl) (by kernel_rfl) args K E
theorem Cyo : wpS Tryz.prog (callFunc 115 args) H K E = K (.enter 115 args) H := Aqi Tryz.func115 (by kernel_rfl) (by kernel_rfl) args K E
theorem Cyp : wpS Tryz.prog (callFunc 150 args) H K E = K (.enter 150 args) H := Aqi Tryz.func150 (by kernel_rfl) (by kernel_rfl) args K E
theorem Cyq : wpS Tryz.prog (callFunc 151 args) H K E = K (.enter 151 args) H := Aqi Tryz.func151 (by kernel_rfl) (by kernel_rfl) args K E
def xq := And.intro @Nat.zero_add (And.intro @Nat.add_zero (And.intro @Bool.true_or (And.intro @true_and (And.intro @eval_const (And.intro @eval_func (And.intro @Axb (And.intro @Aq3 (And.intro @Aqm (And.intro @Axl (And.intro @Aqe (And.intro @Dqs (And.intro @Cv0 (And.intro @Cjn (And.intro @Cjp (And.intro @Bjv (And.intro @Dxv (And.intro @Dx8 (And.intro @Dx2 (And.intro @Dx5 (And.intro @Dx4 (And.intro @Dxw (And.intro @Dkg (And.intro @Dx9 (And.intro @Czq (And.intro @Dx6 (And.intro @Dx7 (And.intro @Dxx (And.intro @Dx3 (And.intro @Dx1 (And.intro @Dx0 (And.intro @Dxz (And.intro @Dxy (And.intro @Djf (And.intro @Dvm (And.intro @Dvl (And.intro @w64 (And.intro @Aj9 (And.intro @act_get? (And.intro @Bool.false_eq_true (And.intro @Bool.true_eq_false (And.intro @Dq6 (And.intro @Bqz (And.intro @Dk6 (And.intro @Cq5 (And.intro @Cj6 (And.intro @Aj6 (And.intro @Cqk (And.intro @Cz3 (And.intro @Cz2 (And.intro @Ck5 (And.intro @Aq8 (And.intro @Cyc (And.intro @Bkx (And.intro @Bvl (And.intro @Axk (And.intro @Cwo (And.intro @Bzo (And.intro @Bool.and_true (And.intro @Bool.and_self (And.intro @Dqo (And.intro @Cvv (And.intro @Cjh (And.intro @Ckz (And.intro @Czx (And.intro @Byy (And.intro @Bky (And.intro @Ck0 (And.intro @Byx (And.intro @Bwa (And.intro @and_true (And.intro @Nat.le_refl (And.intro @Cvd (And.intro @Cy1 @Azt)))))))))))))))))))))))))))))))))))))))))))))))))))))))))))))))))))))))))
def xp := And.intro @Djj (And.intro @Ck8 (And.intro @Djk (And.intro @Dkv (And.intro @Dji (And.intro @Dqd (And.intro @Bwi (And.intro @Cy6 (And.intro @Bwj (And.intro @Cy7 (And.intro @Cz7 (And.intro @Dkx (And.intro @Dku (And.intro @Dv2 (And.intro @Cz5 (And.intro @Bxo (And.intro @Ayh (And.intro @Dqc (And.intro @Bwk (And.intro @Cy2 (And.intro @Bk4 (And.intro @Cva (And.intro @Bwl (And.intro @Bk6 (And.intro @Cz4 (And.intro @Cy3 (And.intro @Cy4 (And.intro @Cq6 (And.intro @Cq7 @Cz8))))))))))))))))))))))))))))
def qc := And.intro @List.size_toArray.{0} (And.intro @List.length_cons.{0} (And.intro @List.length_nil.{0} (And.intro @List.getElem?_toArray.{0} (And.intro @List.getElem?_cons_zero.{0} (And.intro @List.getElem?_cons_succ.{0} (And.intro @Option.isNone_none.{0} (And.intro @List.map_toArray.{0,0} (And.intro @List.map_cons.{0,0} (And.intro @List.map_nil.{0,0} (And.intro @Option.bind_some.{0,0} (And.intro @beq_iff_eq.{0} (And.intro @Option.some.injEq.{0} (And.intro @List.setIfInBounds_toArray.{0} (And.intro @List.set_cons_succ.{0} (And.intro @List.set_cons_zero.{0} (And.intro @List.extract_toArray.{0} (And.intro @List.extract_eq_take_drop.{0} (And.intro @List.take_succ_cons.{0} (And.intro @List.take_zero.{0} (And.intro @List.drop_succ_cons.{0} (And.intro @List.drop_zero.{0} (And.intro @List.take_nil.{0} (And.intro @List.drop_nil.{0} (And.intro @List.cons_append.{0} (And.intro @List.nil_append.{0} (And.intro @List.append_assoc.{0} (And.intro @List.append_nil.{0} (And.intro @List.all_cons.{0} (And.intro @List.all_nil.{0} (And.intro @List.toList_toArray.{0} (And.intro @Option.map_none.{0,0} @Option.map_some.{0,0})))))))))))))))))))))))))))))))
def qd := And.intro @List.length_cons.{0} @List.length_nil.{0}
end Go.Proofs.YtkcomnkgdifboaaGreatDoor
end
section
namespace Go.X
structure Hid (q : Prop) : Prop where
 out : q
theorem unH {q : Prop} (h : Hid q) : q := h.out
structure Dj9 (p : Prop) : Prop where
 out : p
structure Dj8 (p : Prop) : Prop where
 out : p
theorem inK {p : Prop} (h : p) : Dj9 p := ⟨h⟩
theorem unK {p : Prop} (h : Dj9 p) : p := h.out
theorem inC {p : Prop} (h : p) : Dj8 p := ⟨h⟩
theorem unC {p : Prop} (h : Dj8 p) : p := h.out
def Aqk (p : Prop) : Prop := p
theorem zA {Y p q : Prop} (y : Y) (g : q) (h : Hid Y -> Hid q -> p := by
 intro yy g
 repeat' (first
 | (refine Ax9 rfl ?_; intro Kz hKz; simp -implicitDefEqProofs (disch := first | omega | (simp only [qd] <;> omega)) only [xq, ↓xp, qc, Nat.reduceAdd, List.range, List.range.loop, fine, Nat.reduceEqDiff, ↓reduceIte, yielded, reduceCtorEq, Nat.reduceLT, Nat.reduceMul, Nat.reduceSub, one, Nat.reduceLeDiff, Aqf, yy.out, aq, ↓ap, qe0, qe1, qe2, *, -g, -yy, -hKz]; try (refine hKz _ _ ?_; clear hKz Kz))
 | (refine Ajs rfl ?_; intro Kz hKz; simp -implicitDefEqProofs (disch := first | omega | (simp only [qd] <;> omega)) only [xq, ↓xp, qc, Nat.reduceAdd, List.range, List.range.loop, fine, Nat.reduceEqDiff, ↓reduceIte, yielded, reduceCtorEq, Nat.reduceLT, Nat.reduceMul, Nat.reduceSub, one, Nat.reduceLeDiff, Aqf, yy.out, aq, ↓ap, qe0, qe1, qe2, *, -g, -yy, -hKz]; try (refine hKz _ _ ?_; clear hKz Kz; (try simp only [nq, ↓reduceIte, Nat.reduceEqDiff])))
 | (refine Az7 ?_; (try simp only [nq, ↓reduceIte, Nat.reduceEqDiff]))
 | (refine Ajd ?_; (try simp only [nq, ↓reduceIte, Nat.reduceEqDiff]))
 | (refine Aj3 ?_; (try simp only [nq, ↓reduceIte, Nat.reduceEqDiff]))
 | (refine Akf ?_; (try simp only [nq, ↓reduceIte, Nat.reduceEqDiff]))
 | (refine Ajr (by simp only [Axb, Axl, Nat.reduceEqDiff, Nat.reduceLT, ↓reduceIte, *, -g, -yy]; rfl) ?_ ?_ <;> (intro hcz; first | (exfalso; simp -implicitDefEqProofs (disch := omega) only [*, -g, -yy, bq, reduceCtorEq] at hcz; done) | (simp only [dq, qe3, qe4, qe5, qe6] at hcz) | skip))
 | (refine Ajl ?_)
 | (refine Azi ?_)
 | (refine Axs ?_))
 (try (revert Kz; refine unK ?_)); (repeat (revert hcz; refine unC ?_))
 exact Hid.out g) : Hid p := ⟨h ⟨y⟩ ⟨g⟩⟩
theorem zS {Y p q : Prop} (y : Y) (g : q) (h : Hid Y -> Hid q -> p := by
 intro yy g
 repeat' (first
 | (refine Ax9 rfl ?_; intro Kz hKz; simp -implicitDefEqProofs (disch := first | omega | (simp only [qd] <;> omega)) only [xq, ↓xp, qc, Nat.reduceAdd, List.range, List.range.loop, fine, Nat.reduceEqDiff, ↓reduceIte, yielded, reduceCtorEq, Nat.reduceLT, Nat.reduceMul, Nat.reduceSub, one, Nat.reduceLeDiff, Aqf, yy.out, aq, ↓ap, qe0, qe1, qe2, *, -g, -yy, -hKz]; try (refine hKz _ _ ?_; clear hKz Kz))
 | (refine Ajs rfl ?_; intro Kz hKz; simp -implicitDefEqProofs (disch := first | omega | (simp only [qd] <;> omega)) only [xq, ↓xp, qc, Nat.reduceAdd, List.range, List.range.loop, fine, Nat.reduceEqDiff, ↓reduceIte, yielded, reduceCtorEq, Nat.reduceLT, Nat.reduceMul, Nat.reduceSub, one, Nat.reduceLeDiff, Aqf, yy.out, aq, ↓ap, qe0, qe1, qe2, *, -g, -yy, -hKz]; try (refine hKz _ _ ?_; clear hKz Kz; (try simp only [nq, ↓reduceIte, Nat.reduceEqDiff])))
 | (refine Az7 ?_; (try simp only [nq, ↓reduceIte, Nat.reduceEqDiff]))
 | (refine Ajd ?_; (try simp only [nq, ↓reduceIte, Nat.reduceEqDiff]))
 | (refine Aj3 ?_; (try simp only [nq, ↓reduceIte, Nat.reduceEqDiff]))
 | (refine Akf ?_; (try simp only [nq, ↓reduceIte, Nat.reduceEqDiff]))
 | (refine Ajr (by simp only [Axb, Axl, Nat.reduceEqDiff, Nat.reduceLT, ↓reduceIte, *, -g, -yy]; rfl) ?_ ?_ <;> (intro hcz; first | (exfalso; simp -implicitDefEqProofs (disch := omega) only [*, -g, -yy, bq, reduceCtorEq] at hcz; done) | (simp only [dq, qe3, qe4, qe5, qe6] at hcz) | skip)))
 (try (revert Kz; refine unK ?_)); (repeat (revert hcz; refine unC ?_))
 exact Hid.out g) : Hid p := ⟨h ⟨y⟩ ⟨g⟩⟩
theorem zX {Y p q : Prop} (y : Y) (g : q) (h : Hid Y -> Hid q -> p := by
 intro yy g
 simp -implicitDefEqProofs (disch := first | omega | (simp only [qd] <;> omega)) only [xq, ↓xp, qc, Nat.reduceAdd, List.range, List.range.loop, fine, Nat.reduceEqDiff, ↓reduceIte, yielded, reduceCtorEq, Nat.reduceLT, Nat.reduceMul, Nat.reduceSub, one, Nat.reduceLeDiff, Aqf, yy.out, aq, ↓ap, qe0, qe1, qe2, *, -g, -yy, -hK]
 exact Hid.out g) : Hid p := ⟨h ⟨y⟩ ⟨g⟩⟩
theorem zAi {Y p q : Prop} (y : Y) (g : q) (h : Hid Y -> Hid q -> p := by
 intro yy g
 repeat' (first
 | (refine Ax9 rfl ?_; intro Kz hKz; simp -implicitDefEqProofs (disch := first | omega | (simp only [qd] <;> omega)) only [xq, ↓xp, qc, Nat.reduceAdd, List.range, List.range.loop, fine, Nat.reduceEqDiff, ↓reduceIte, yielded, reduceCtorEq, Nat.reduceLT, Nat.reduceMul, Nat.reduceSub, one, Nat.reduceLeDiff, Aqf, yy.out, ↓Ay9, aq, ↓ap, qe0, qe1, qe2, *, -g, -yy, -hKz]; try (refine hKz _ _ ?_; clear hKz Kz))
 | (refine Ajs rfl ?_; intro Kz hKz; simp -implicitDefEqProofs (disch := first | omega | (simp only [qd] <;> omega)) only [xq, ↓xp, qc, Nat.reduceAdd, List.range, List.range.loop, fine, Nat.reduceEqDiff, ↓reduceIte, yielded, reduceCtorEq, Nat.reduceLT, Nat.reduceMul, Nat.reduceSub, one, Nat.reduceLeDiff, Aqf, yy.out, ↓Ay9, aq, ↓ap, qe0, qe1, qe2, *, -g, -yy, -hKz]; try (refine hKz _ _ ?_; clear hKz Kz; (try simp only [nq, ↓reduceIte, Nat.reduceEqDiff])))
 | (refine Az7 ?_; (try simp only [nq, ↓reduceIte, Nat.reduceEqDiff]))
 | (refine Ajd ?_; (try simp only [nq, ↓reduceIte, Nat.reduceEqDiff]))
 | (refine Aj3 ?_; (try simp only [nq, ↓reduceIte, Nat.reduceEqDiff]))
 | (refine Akf ?_; (try simp only [nq, ↓reduceIte, Nat.reduceEqDiff]))
 | (refine Ajr (by simp only [Axb, Axl, Nat.reduceEqDiff, Nat.reduceLT, ↓reduceIte, *, -g, -yy]; rfl) ?_ ?_ <;> (intro hcz; first | (exfalso; simp -implicitDefEqProofs (disch := omega) only [*, -g, -yy, bq, reduceCtorEq] at hcz; done) | (simp only [dq, qe3, qe4, qe5, qe6] at hcz) | skip))
 | (refine Ajl ?_)
 | (refine Azi ?_)
 | (refine Axs ?_))
 (try (revert Kz; refine unK ?_)); (repeat (revert hcz; refine unC ?_))
 exact Hid.out g) : Hid p := ⟨h ⟨y⟩ ⟨g⟩⟩
theorem zXi {Y p q : Prop} (y : Y) (g : q) (h : Hid Y -> Hid q -> p := by
 intro yy g
 simp -implicitDefEqProofs (disch := first | omega | (simp only [qd] <;> omega)) only [xq, ↓xp, qc, Nat.reduceAdd, List.range, List.range.loop, fine, Nat.reduceEqDiff, ↓reduceIte, yielded, reduceCtorEq, Nat.reduceLT, Nat.reduceMul, Nat.reduceSub, one, Nat.reduceLeDiff, Aqf, yy.out, ↓Ay9, aq, ↓ap, qe0, qe1, qe2, *, -g, -yy, -hK]
 exact Hid.out g) : Hid p := ⟨h ⟨y⟩ ⟨g⟩⟩
theorem zQ {p q : Prop} (g : q) (h : Hid q -> p := by
 intro g
 simp only [nq, ↓reduceIte, Nat.reduceEqDiff]
 exact Hid.out g) : Hid p := ⟨h ⟨g⟩⟩
theorem z0 {Y p q : Prop} (y : Y) (g : q) (h : Hid Y -> Hid q -> p := by
 intro yy g
 simp -implicitDefEqProofs (disch := first | omega | (simp only [qd] <;> omega)) only [xq, ↓xp, qc, Nat.reduceAdd, List.range, List.range.loop, fine, Nat.reduceEqDiff, ↓reduceIte, yielded, reduceCtorEq, Nat.reduceLT, Nat.reduceMul, Nat.reduceSub, one, Nat.reduceLeDiff, Aqf, yy.out]
 exact Hid.out g) : Hid p := ⟨h ⟨y⟩ ⟨g⟩⟩
theorem z1 {Y p q : Prop} (y : Y) (g : q) (h : Hid Y -> Hid q -> p := by
 intro yy g
 (refine Aw3 ?_; intro K hK; simp -implicitDefEqProofs (disch := first | omega | (simp only [qd] <;> omega)) only [xq, ↓xp, qc, Nat.reduceAdd, List.range, List.range.loop, fine, Nat.reduceEqDiff, ↓reduceIte, yielded, reduceCtorEq, Nat.reduceLT, Nat.reduceMul, Nat.reduceSub, one, Nat.reduceLeDiff, Aqf, yy.out]; refine hK _ _ ?_; clear hK K)
 exact Hid.out g) : Hid p := ⟨h ⟨y⟩ ⟨g⟩⟩
theorem z2 {Y p q : Prop} (y : Y) (g : q) (h : Hid Y -> Hid q -> p := by
 intro yy g
 (refine Bqo ?_; intro K hK; simp -implicitDefEqProofs (disch := first | omega | (simp only [qd] <;> omega)) only [xq, ↓xp, qc, Nat.reduceAdd, List.range, List.range.loop, fine, Nat.reduceEqDiff, ↓reduceIte, yielded, reduceCtorEq, Nat.reduceLT, Nat.reduceMul, Nat.reduceSub, one, Nat.reduceLeDiff, Aqf, yy.out]; refine hK _ _ ?_; clear hK K)
 exact Hid.out g) : Hid p := ⟨h ⟨y⟩ ⟨g⟩⟩
theorem z3 {Y p q : Prop} (y : Y) (g : q) (h : Hid Y -> Hid q -> p := by
 intro yy g
 (apply Ako rfl rfl rfl; (focus (simp -implicitDefEqProofs (disch := first | omega | (simp only [qd] <;> omega)) only [xq, ↓xp, qc, Nat.reduceAdd, List.range, List.range.loop, fine, Nat.reduceEqDiff, ↓reduceIte, yielded, reduceCtorEq, Nat.reduceLT, Nat.reduceMul, Nat.reduceSub, one, Nat.reduceLeDiff, Aqf, yy.out, aq, ↓ap, qe0, qe1, qe2, *, -g, -yy, -hK, Aq8] <;> (first | exact rfl | exact ⟨rfl, rfl⟩ | exact ⟨rfl, trivial⟩))); simp -implicitDefEqProofs (disch := first | omega | (simp only [qd] <;> omega)) only [Aq3, Aqm])
 exact Hid.out g) : Hid p := ⟨h ⟨y⟩ ⟨g⟩⟩
theorem z3i {Y p q : Prop} (y : Y) (g : q) (h : Hid Y -> Hid q -> p := by
 intro yy g
 (apply Ako rfl rfl rfl; (focus (simp -implicitDefEqProofs (disch := first | omega | (simp only [qd] <;> omega)) only [xq, ↓xp, qc, Nat.reduceAdd, List.range, List.range.loop, fine, Nat.reduceEqDiff, ↓reduceIte, yielded, reduceCtorEq, Nat.reduceLT, Nat.reduceMul, Nat.reduceSub, one, Nat.reduceLeDiff, Aqf, yy.out, ↓Ay9, aq, ↓ap, qe0, qe1, qe2, *, -g, -yy, -hK, Aq8] <;> (first | exact rfl | exact ⟨rfl, rfl⟩ | exact ⟨rfl, trivial⟩))); simp -implicitDefEqProofs (disch := first | omega | (simp only [qd] <;> omega)) only [Aq3, Aqm])
 exact Hid.out g) : Hid p := ⟨h ⟨y⟩ ⟨g⟩⟩
theorem z7 {Y p q : Prop} (y : Y) (g : q) (h : Hid Y -> Hid q -> p := by
 intro yy g
 simp -implicitDefEqProofs (disch := first | omega | (simp only [qd] <;> omega)) only [xq, ↓xp, qc, Nat.reduceAdd, List.range, List.range.loop, fine, Nat.reduceEqDiff, ↓reduceIte, yielded, reduceCtorEq, Nat.reduceLT, Nat.reduceMul, Nat.reduceSub, one, Nat.reduceLeDiff, Aqf, yy.out, aq, ↓ap, qe0, qe1, qe2, *, -g, -yy]
 exact Hid.out g) : Hid p := ⟨h ⟨y⟩ ⟨g⟩⟩
theorem z8 {Y p q : Prop} (y : Y) (g : q) (h : Hid Y -> Hid q -> p := by
 intro yy g
 (refine Aw3 ?_; intro Kz hKz; simp -implicitDefEqProofs (disch := first | omega | (simp only [qd] <;> omega)) only [xq, ↓xp, qc, Nat.reduceAdd, List.range, List.range.loop, fine, Nat.reduceEqDiff, ↓reduceIte, yielded, reduceCtorEq, Nat.reduceLT, Nat.reduceMul, Nat.reduceSub, one, Nat.reduceLeDiff, Aqf, yy.out])
 (try (revert Kz; refine unK ?_)); (repeat (revert hcz; refine unC ?_))
 exact Hid.out g) : Hid p := ⟨h ⟨y⟩ ⟨g⟩⟩
theorem z9 {Y p q : Prop} (y : Y) (g : q) (h : Hid Y -> Hid q -> p := by
 intro yy g
 (refine Axp ?_; (try simp only [nq, ↓reduceIte, Nat.reduceEqDiff]); rw [Aq6, Ayq yy.out (by decide)]; simp only [Axl, Nat.reduceEqDiff, ↓reduceIte])
 exact Hid.out g) : Hid p := ⟨h ⟨y⟩ ⟨g⟩⟩
theorem zB {Y p q : Prop} (y : Y) (g : q) (h : Hid Y -> Hid q -> p := by
 intro yy g
 (refine Axp ?_; (try simp only [nq, ↓reduceIte, Nat.reduceEqDiff]); rw [Aq6, Cqo yy.out (by decide) (by decide)]; simp only [Axl, Nat.reduceEqDiff, ↓reduceIte])
 exact Hid.out g) : Hid p := ⟨h ⟨y⟩ ⟨g⟩⟩
theorem zC {Y p q : Prop} (y : Y) (g : q) (h : Hid Y -> Hid q -> p := by
 intro yy g
 (refine Axp ?_; (try simp only [nq, ↓reduceIte, Nat.reduceEqDiff]); rw [Aq6, Bvg yy.out (by decide) (by decide) (by decide)]; simp only [Axl, Nat.reduceEqDiff, ↓reduceIte])
 exact Hid.out g) : Hid p := ⟨h ⟨y⟩ ⟨g⟩⟩
theorem zD {Y p q : Prop} (y : Y) (g : q) (h : Hid Y -> Hid q -> p := by
 intro yy g
 ((try simp only [nq, ↓reduceIte, Nat.reduceEqDiff]); rw [Bv9, Awg yy.out])
 exact Hid.out g) : Hid p := ⟨h ⟨y⟩ ⟨g⟩⟩
theorem zI {Y p q : Prop} (y : Y) (g : q) (h : Hid Y -> Hid q -> p := by
 intro yy g
 (apply Bq1 rfl rfl rfl; (focus (intro HX; simp -implicitDefEqProofs (disch := first | omega | (simp only [qd] <;> omega)) only [xq, ↓xp, qc, Nat.reduceAdd, List.range, List.range.loop, fine, Nat.reduceEqDiff, ↓reduceIte, yielded, reduceCtorEq, Nat.reduceLT, Nat.reduceMul, Nat.reduceSub, one, Nat.reduceLeDiff, Aqf, yy.out, aq, ↓ap, qe0, qe1, qe2, *, -g, -yy, -hK, Aq8] <;> (first | exact rfl | exact ⟨rfl, rfl⟩ | exact ⟨rfl, trivial⟩))); simp -implicitDefEqProofs (disch := first | omega | (simp only [qd] <;> omega)) only [Aq3, Aqm])
 exact Hid.out g) : Hid p := ⟨h ⟨y⟩ ⟨g⟩⟩
theorem zJ {Y p q : Prop} (y : Y) (g : q) (h : Hid Y -> Hid q -> p := by
 intro yy g
 (apply Axd rfl rfl rfl ‹_›; (focus (intro HX hHX; simp -implicitDefEqProofs (disch := first | omega | (simp only [qd] <;> omega)) only [xq, ↓xp, qc, Nat.reduceAdd, List.range, List.range.loop, fine, Nat.reduceEqDiff, ↓reduceIte, yielded, reduceCtorEq, Nat.reduceLT, Nat.reduceMul, Nat.reduceSub, one, Nat.reduceLeDiff, Aqf, yy.out, aq, ↓ap, qe0, qe1, qe2, *, -g, -yy, -hK, Aq8] <;> (first | exact rfl | exact ⟨rfl, rfl⟩ | exact ⟨rfl, trivial⟩))); simp -implicitDefEqProofs (disch := first | omega | (simp only [qd] <;> omega)) only [Aq3, Aqm])
 exact Hid.out g) : Hid p := ⟨h ⟨y⟩ ⟨g⟩⟩
theorem zF {Y p q : Prop} (y : Y) (g : q) (h : Hid Y -> Hid q -> p := by
 intro yy g
 (apply Cjs hOz rfl rfl; (focus (intro HX; simp -implicitDefEqProofs (disch := first | omega | (simp only [qd] <;> omega)) only [xq, ↓xp, qc, Nat.reduceAdd, List.range, List.range.loop, fine, Nat.reduceEqDiff, ↓reduceIte, yielded, reduceCtorEq, Nat.reduceLT, Nat.reduceMul, Nat.reduceSub, one, Nat.reduceLeDiff, Aqf, yy.out, aq, ↓ap, qe0, qe1, qe2, *, -g, -yy, -hK, Aq8] <;> (first | exact rfl | exact ⟨rfl, rfl⟩ | exact ⟨rfl, trivial⟩))); simp -implicitDefEqProofs (disch := first | omega | (simp only [qd] <;> omega)) only [Aq3, Aqm])
 exact Hid.out g) : Hid p := ⟨h ⟨y⟩ ⟨g⟩⟩
theorem zG {Y p q : Prop} (y : Y) (g : q) (h : Hid Y -> Hid q -> p := by
 intro yy g
 (apply Cqm hOz rfl rfl rfl rfl (by simp -implicitDefEqProofs (disch := omega) only [act_get?, Axl, Nat.reduceEqDiff, ↓reduceIte, beq_self_eq_true, Bool.and_self, *, -g, -yy]); (focus (intro HX; simp -implicitDefEqProofs (disch := first | omega | (simp only [qd] <;> omega)) only [xq, ↓xp, qc, Nat.reduceAdd, List.range, List.range.loop, fine, Nat.reduceEqDiff, ↓reduceIte, yielded, reduceCtorEq, Nat.reduceLT, Nat.reduceMul, Nat.reduceSub, one, Nat.reduceLeDiff, Aqf, yy.out, aq, ↓ap, qe0, qe1, qe2, *, -g, -yy, -hK, Aq8] <;> (first | exact rfl | exact ⟨rfl, rfl⟩ | exact ⟨rfl, trivial⟩))); simp -implicitDefEqProofs (disch := first | omega | (simp only [qd] <;> omega)) only [Aq3, Aqm])
 exact Hid.out g) : Hid p := ⟨h ⟨y⟩ ⟨g⟩⟩
theorem zK {Y p q : Prop} (y : Y) (g : q) (h : Hid Y -> Hid q -> p := by
 intro yy g
 (apply Bj9 hOz rfl rfl ‹_›; (focus (intro HX hHX; simp -implicitDefEqProofs (disch := first | omega | (simp only [qd] <;> omega)) only [xq, ↓xp, qc, Nat.reduceAdd, List.range, List.range.loop, fine, Nat.reduceEqDiff, ↓reduceIte, yielded, reduceCtorEq, Nat.reduceLT, Nat.reduceMul, Nat.reduceSub, one, Nat.reduceLeDiff, Aqf, yy.out, aq, ↓ap, qe0, qe1, qe2, *, -g, -yy, -hK, Aq8] <;> (first | exact rfl | exact ⟨rfl, rfl⟩ | exact ⟨rfl, trivial⟩))); simp -implicitDefEqProofs (disch := first | omega | (simp only [qd] <;> omega)) only [Aq3, Aqm])
 exact Hid.out g) : Hid p := ⟨h ⟨y⟩ ⟨g⟩⟩
theorem zL {Y p q : Prop} (y : Y) (g : q) (h : Hid Y -> Hid q -> p := by
 intro yy g
 (apply Bj9 hOz rfl rfl (by rfl); (focus (intro HX hHX; subst hHX; simp -implicitDefEqProofs (disch := first | omega | (simp only [qd] <;> omega)) only [xq, ↓xp, qc, Nat.reduceAdd, List.range, List.range.loop, fine, Nat.reduceEqDiff, ↓reduceIte, yielded, reduceCtorEq, Nat.reduceLT, Nat.reduceMul, Nat.reduceSub, one, Nat.reduceLeDiff, Aqf, yy.out, aq, ↓ap, qe0, qe1, qe2, *, -g, -yy, -hK, Aq8] <;> (first | exact rfl | exact ⟨rfl, rfl⟩ | exact ⟨rfl, trivial⟩))); simp -implicitDefEqProofs (disch := first | omega | (simp only [qd] <;> omega)) only [Aq3, Aqm])
 exact Hid.out g) : Hid p := ⟨h ⟨y⟩ ⟨g⟩⟩
theorem zM {Y p q : Prop} (y : Y) (g : q) (h : Hid Y -> Hid q -> p := by
 intro yy g
 (refine Bql hOz rfl rfl ?_; simp -implicitDefEqProofs (disch := first | omega | (simp only [qd] <;> omega)) only [xq, ↓xp, qc, Nat.reduceAdd, List.range, List.range.loop, fine, Nat.reduceEqDiff, ↓reduceIte, yielded, reduceCtorEq, Nat.reduceLT, Nat.reduceMul, Nat.reduceSub, one, Nat.reduceLeDiff, Aqf, yy.out, aq, ↓ap, qe0, qe1, qe2, *, -g, -yy, -hK])
 exact Hid.out g) : Hid p := ⟨h ⟨y⟩ ⟨g⟩⟩
theorem zN {Y p q : Prop} (y : Y) (g : q) (h : Hid Y -> Hid q -> p := by
 intro yy g
 (refine Cjt hOz rfl rfl rfl rfl (by simp -implicitDefEqProofs (disch := omega) only [act_get?, Axl, Nat.reduceEqDiff, ↓reduceIte, beq_self_eq_true, Bool.and_self, *, -g, -yy]) ?_; simp -implicitDefEqProofs (disch := first | omega | (simp only [qd] <;> omega)) only [xq, ↓xp, qc, Nat.reduceAdd, List.range, List.range.loop, fine, Nat.reduceEqDiff, ↓reduceIte, yielded, reduceCtorEq, Nat.reduceLT, Nat.reduceMul, Nat.reduceSub, one, Nat.reduceLeDiff, Aqf, yy.out, aq, ↓ap, qe0, qe1, qe2, *, -g, -yy, -hK])
 exact Hid.out g) : Hid p := ⟨h ⟨y⟩ ⟨g⟩⟩
theorem zR {Y p q : Prop} (y : Y) (g : q) (h : Hid Y -> Hid q -> p := by
 intro yy g
 (first | (refine Dxo hOz rfl rfl ?_; simp -implicitDefEqProofs (disch := first | omega | (simp only [qd] <;> omega)) only [xq, ↓xp, qc, Nat.reduceAdd, List.range, List.range.loop, fine, Nat.reduceEqDiff, ↓reduceIte, yielded, reduceCtorEq, Nat.reduceLT, Nat.reduceMul, Nat.reduceSub, one, Nat.reduceLeDiff, Aqf, yy.out, aq, ↓ap, qe0, qe1, qe2, *, -g, -yy, -hK, exists_eq_left', beq_self_eq_true, Bool.not_true, Bool.not_false, Bool.false_eq_true, if_false, if_true]) | (refine Cyb hOz rfl rfl rfl rfl ?_ ?_; (focus (simp -implicitDefEqProofs (disch := omega) only [act_get?, Axl, Nat.reduceEqDiff, ↓reduceIte, beq_self_eq_true, Bool.and_self, Bool.not_true, Bool.not_false, Bool.true_and, Bool.false_and, Bool.and_true, Bool.and_false, Bool.or_true, Bool.true_or, Bool.or_false, Bool.false_or, decide_true, decide_false, if_true, Bool.false_eq_true, if_false, *, -g, -yy]; done)); simp -implicitDefEqProofs (disch := first | omega | (simp only [qd] <;> omega)) only [xq, ↓xp, qc, Nat.reduceAdd, List.range, List.range.loop, fine, Nat.reduceEqDiff, ↓reduceIte, yielded, reduceCtorEq, Nat.reduceLT, Nat.reduceMul, Nat.reduceSub, one, Nat.reduceLeDiff, Aqf, yy.out, aq, ↓ap, qe0, qe1, qe2, *, -g, -yy, -hK, exists_eq_left', beq_self_eq_true, Bool.not_true, Bool.not_false, Bool.false_eq_true, if_false, if_true]) | (refine Dxn hOz rfl rfl rfl (act_get? (by omega)) ?_ ?_; (focus ((simp -implicitDefEqProofs (disch := omega) only [Axl, Nat.reduceEqDiff, ↓reduceIte, beq_self_eq_true, Bool.and_self, Bool.not_true, Bool.not_false, Bool.true_and, Bool.false_and, Bool.and_true, Bool.and_false, Bool.or_true, Bool.true_or, Bool.or_false, Bool.false_or, decide_true, decide_false, if_true, Bool.false_eq_true, if_false, Bvw, *, -g, -yy] <;> rfl); done)); simp -implicitDefEqProofs (disch := first | omega | (simp only [qd] <;> omega)) only [Aq3, Aqm, Nat.reduceAdd]))
 exact Hid.out g) : Hid p := ⟨h ⟨y⟩ ⟨g⟩⟩
end Go.X
end
section
namespace Go.Proofs.YtkcomnkgdifboaaGreatDoor
open Go Go.X
def Bkk := And.intro @Dzr (And.intro (fun H => Bkz (H := H) Tryz.underlying3 Tryz.underlying65) (fun H => Bkz (H := H) Tryz.underlying65 Tryz.underlying3))
def Cw7 := @Bqt
def Cw8 := @Bqt
def Ayc := And.intro (fun H => Aqd (H := H) Tryz.underlying67 (i := 1) rfl (off := 1) rfl Tryz.sizeOf3) (And.intro (fun H => Aqg (H := H) Tryz.underlying3 rfl) (And.intro (fun H => Bkz (H := H) Tryz.underlying3 Tryz.underlying65) (And.intro (fun H => Aqd (H := H) Tryz.underlying67 (i := 0) rfl (off := 0) rfl Tryz.sizeOf22) (And.intro (fun H => Aqg (H := H) Tryz.underlying22 rfl) (And.intro (fun H => Aq7 (H := H) Tryz.underlying22) (And.intro (fun H => Aqu (H := H) Tryz.underlying22 Tryz.sizeOf3) (And.intro (fun H => Axh (H := H) Tryz.sizeOf3) (And.intro (fun H => Aqd (H := H) Tryz.underlying67 (i := 2) rfl (off := 2) rfl Tryz.sizeOf65) (And.intro (fun H => Aqg (H := H) Tryz.underlying65 rfl) (fun H => Axh (H := H) Tryz.sizeOf65))))))))))
def TinI (H : Hp) (b k : Nat) : Prop :=
 ∃ (sa : Option Addr) (sl sc : Nat) (g st : Int), H b = some (true, .cells #[.slice sa sl sc, .int .i64 g, .int .u64 st] 67 (0, 0)) /\ 0 <= g /\ g + k <= 4611686018427387904 /\
  ∀ i : Nat, i < sl -> ∃ sb so c e fr x, sa = some ⟨sb, so, none⟩ /\ H sb = some (false, .cells c e fr) /\ c[so + i]? = some (.int .i64 x)
theorem TinI.new {H : Hp} {b k b2 : Nat} {o : Obj} (h : TinI H b k) (hb : H b2 = none) : TinI (H.set b2 o) b k := by
 obtain ⟨sa, sl, sc, g, st, h1, h2, h3, h4⟩ := h
 refine ⟨sa, sl, sc, g, st, Hp.le_set hb _ _ h1, h2, h3, fun i hi => ?_⟩
 obtain ⟨sb, so, c, e, fr, x, ha, hs, hx⟩ := h4 i hi
 exact ⟨sb, so, c, e, fr, x, ha, Hp.le_set hb _ _ hs, hx⟩
theorem TinI.own {H : Hp} {b k b2 : Nat} {o o' : Obj} (h : TinI H b k) (hb : H b2 = some (true, o)) (hn : b ≠ b2) : TinI (H.set b2 o') b k := by
 obtain ⟨sa, sl, sc, g, st, h1, h2, h3, h4⟩ := h
 refine ⟨sa, sl, sc, g, st, by rw [Axw, if_neg hn]; exact h1, h2, h3, fun i hi => ?_⟩
 obtain ⟨sb, so, c, e, fr, x, ha, hs, hx⟩ := h4 i hi
 exact ⟨sb, so, c, e, fr, x, ha, by rw [Axw, if_neg (fun e => by subst e; rw [hb] at hs; cases hs)]; exact hs, hx⟩
theorem TinI.less {H : Hp} {b k k' : Nat} (h : TinI H b k) (hk : k' <= k) : TinI H b k' := by
 obtain ⟨sa, sl, sc, g, st, h1, h2, h3, h4⟩ := h
 exact ⟨sa, sl, sc, g, st, h1, h2, by omega, h4⟩
theorem Cww (n : Int) : 0 <= IntKind.u64.wrap n /\ IntKind.u64.wrap n < 18446744073709551616 := by
 unfold IntKind.wrap
 simp only [IntKind.bits, IntKind.signed, Bool.false_and, Bool.false_eq_true, if_false]
 omega
theorem shr9 (x : Int) (h : 0 <= x) (h' : x < 18446744073709551616) : 0 <= x.fdiv (2 ^ (min (9 : Int).toNat IntKind.u64.bits)) /\ x.fdiv (2 ^ (min (9 : Int).toNat IntKind.u64.bits)) < 36028797018963968 := by
 have e : (2 : Int) ^ (min (9 : Int).toNat IntKind.u64.bits) = 512 := rfl
 rw [e, Int.fdiv_eq_ediv_of_nonneg _ (by omega)]
 omega
theorem Bxu (f : (n : Nat) -> BitVec n -> BitVec n -> BitVec n) (x y : Int) : 0 <= bitv f .u64 x y /\ bitv f .u64 x y < 18446744073709551616 := Cww _
theorem Cvz (m : Md) (H : Hp) (b k : Nat) (hT : TinI H b (k + 1)) :
  FnX Tryz.prog m 45 #[.pointer (some ⟨b, 0, none⟩)] H fun e H' => ∃ v : Int, 0 <= v /\ v < 36028797018963968 /\ e = .returned (.int .u64 v) /\ ∃ o, H' = H.set b o /\ TinI H' b k := by
 obtain ⟨sa, sl, sc, g, st, hb, hg, hg', hs⟩ := hT
 refine Aqn Tryz.func45 rfl Tryz.ntmps45 (by simp) ?_
 (refine @unH _ ?_; refine z1 Ayc ?_)
 (refine Aw3 ?_; intro K hK; simp -implicitDefEqProofs (disch := first | omega | (simp only [qd] <;> omega)) only [xq, ↓xp, qc, Nat.reduceAdd, List.range, List.range.loop, fine, Nat.reduceEqDiff, ↓reduceIte, yielded, reduceCtorEq, Nat.reduceLT, Nat.reduceMul, Nat.reduceSub, one, Nat.reduceLeDiff, Aqf, Ayc, cell_of hb, exists_eq_left']; refine hK _ _ ?_; clear hK K)
 refine Avw (fun a' H' => ∃ e x, a' = act 76 e [] /\ H' = H /\ e 0 = .pointer (some ⟨b, 0, none⟩) /\ e 3 = .int .u64 x) ?_ ?_
 ·refine Czi 10 [(true, 0), (true, 1), (true, 2), (true, 3), (true, 4), (true, 5), (true, 6), (true, 7), (true, 8), (true, 9)] (by kernel_rfl) (by kernel_rfl) (by simp) (by kernel_rfl) ?_; intro K hK
  iterate 10 (apply Ako rfl rfl rfl; (focus (simp -implicitDefEqProofs (disch := first | omega | (simp only [qd] <;> omega)) only [xq, ↓xp, qc, Nat.reduceAdd, List.range, List.range.loop, fine, Nat.reduceEqDiff, ↓reduceIte, yielded, reduceCtorEq, Nat.reduceLT, Nat.reduceMul, Nat.reduceSub, one, Nat.reduceLeDiff, Aqf, Ayc, cell_of hb, exists_eq_left', and_true, true_and] <;> (first | exact rfl | exact ⟨rfl, rfl⟩))); simp -implicitDefEqProofs (disch := first | omega | (simp only [qd] <;> omega)) only [Aq3, Aqm])
  refine Ak3 (hK _ _ ?_); clear hK K
  refine Avv (by simp -implicitDefEqProofs (disch := first | omega | (simp only [qd] <;> omega)) only [Axb, Axl, Nat.reduceEqDiff, ↓reduceIte]; rfl) ?_
  by_cases hlt : g < sl
  ·simp only [hlt, decide_true, if_true]
   obtain ⟨sb, so, c, e, fr, x, rfl, hsb, hcx⟩ := hs g.toNat (by omega)
   have hcx' : c[so + g.toNat * 1]? = some (.int .i64 x) := by simpa using hcx
   refine Ake 15 [(true, 0), (true, 1), (true, 2), (true, 3), (true, 4), (true, 5), (true, 6), (true, 7), (true, 8), (true, 9), (true, 10), (true, 11), (true, 12), (true, 13), (true, 14)] (by kernel_rfl) (by kernel_rfl) (by simp) (by kernel_rfl) ?_; intro K hK
   iterate 15 (apply Ako rfl rfl rfl; (focus (simp -implicitDefEqProofs (disch := first | omega | (simp only [qd] <;> omega)) only [xq, ↓xp, qc, Nat.reduceAdd, List.range, List.range.loop, fine, Nat.reduceEqDiff, ↓reduceIte, yielded, reduceCtorEq, Nat.reduceLT, Nat.reduceMul, Nat.reduceSub, one, Nat.reduceLeDiff, Aqf, Ayc, cell_of hb, cell_of hsb, hcx', exists_eq_left', and_true, true_and] <;> (first | exact rfl | exact ⟨rfl, rfl⟩))); simp -implicitDefEqProofs (disch := first | omega | (simp only [qd] <;> omega)) only [Aq3, Aqm])
   refine Ak3 (hK _ _ ?_); clear hK K
   exact ⟨_, _, rfl, rfl, rfl, rfl⟩
  ·simp only [hlt, decide_false, Bool.false_eq_true, if_false]
   exact Az7 ⟨_, _, rfl, rfl, rfl, rfl⟩
 ·rintro a' H' ⟨e, x, rfl, rfl, h0, h3⟩
  (refine Aw3 ?_; intro K hK; simp -implicitDefEqProofs (disch := first | omega | (simp only [qd] <;> omega)) only [xq, ↓xp, qc, Nat.reduceAdd, List.range, List.range.loop, fine, Nat.reduceEqDiff, ↓reduceIte, yielded, reduceCtorEq, Nat.reduceLT, Nat.reduceMul, Nat.reduceSub, one, Nat.reduceLeDiff, Aqf, Ayc, h0, h3, cell_of hb, exists_eq_left', Ak7 hb, true_and]; refine hK _ _ ?_; clear hK K)
  (refine @unH _ ?_; refine z1 (And.intro Ayc (And.intro @h0 (And.intro @h3 (And.intro @exists_eq_left'.{1} @true_and)))) ?_)
  refine Czi 13 [(true, 0), (true, 1), (true, 2), (true, 3), (true, 4), (true, 5), (true, 6), (true, 7), (true, 8), (true, 9), (true, 10), (true, 11), (true, 12), (false, 13)] (by kernel_rfl) (by kernel_rfl) (by simp) (by kernel_rfl) ?_; intro K hK
  iterate 13 (apply Ako rfl rfl rfl; (focus (simp -implicitDefEqProofs (disch := first | omega | (simp only [qd] <;> omega)) only [xq, ↓xp, qc, Nat.reduceAdd, List.range, List.range.loop, fine, Nat.reduceEqDiff, ↓reduceIte, yielded, reduceCtorEq, Nat.reduceLT, Nat.reduceMul, Nat.reduceSub, one, Nat.reduceLeDiff, Aqf, Ayc, h0, h3, exists_eq_left', and_true, true_and] <;> (first | exact rfl | exact ⟨rfl, rfl⟩))); simp -implicitDefEqProofs (disch := first | omega | (simp only [qd] <;> omega)) only [Aq3, Aqm])
  refine Bzq ?_
  (refine @unH _ ?_; refine z0 (And.intro Ayc (And.intro @h0 (And.intro @h3 (And.intro @exists_eq_left'.{1} @true_and)))) ?_)
  refine hK _ _ ?_; clear hK K
  (refine @unH _ ?_; refine z1 (And.intro Ayc (And.intro @h0 (And.intro @h3 (And.intro @exists_eq_left'.{1} @true_and)))) ?_)
  (refine @unH _ ?_; refine z1 (And.intro Ayc (And.intro @h0 (And.intro @h3 (And.intro @exists_eq_left'.{1} @true_and)))) ?_)
  (refine @unH _ ?_; refine z9 Tryz.results45 ?_)
  refine ⟨_, (shr9 _ (Bxu _ _ _).1 (Bxu _ _ _).2).1, (shr9 _ (Bxu _ _ _).1 (Bxu _ _ _).2).2, rfl, _, rfl, ?_⟩
  refine ⟨sa, sl, sc, g + 1, _, by rw [Axw, if_pos rfl], by omega, by omega, fun i hi => ?_⟩
  obtain ⟨sb, so, c, e', fr, x', h1, h2, h4⟩ := hs i hi
  exact ⟨sb, so, c, e', fr, x', h1, by rw [Axw, if_neg (fun h => by subst h; rw [hb] at h2; cases h2)]; exact h2, h4⟩
theorem Awl (m : Md) (H : Hp) (b k : Nat) (n : Int) (hn : n < 36028797018963967) (hT : TinI H b (k + 1)) :
  FnX Tryz.prog m 15 #[.pointer (some ⟨b, 0, none⟩), .int .i64 n] H fun e H' => ∃ r : Int, 0 <= r /\ (r <= n ∨ r = 0) /\ e = .returned (.int .i64 r) /\ ∃ o, H' = H.set b o /\ TinI H' b k := by
 refine Aqn Tryz.func15 rfl Tryz.ntmps15 (by simp) ?_
 (refine @unH _ ?_; refine z1 Bkk ?_)
 (refine @unH _ ?_; refine z8 Bkk ?_; try (refine inK ?_; intro K hK))
 refine (Cvz m H b k hT).runs.mono ?_; rintro _ _ ⟨v, hv0, hv1, rfl, o, rfl, hT'⟩; simp -implicitDefEqProofs (disch := first | omega | (simp only [qd] <;> omega)) only [xq, ↓xp, qc, Nat.reduceAdd, List.range, List.range.loop, fine, Nat.reduceEqDiff, ↓reduceIte, yielded, reduceCtorEq, Nat.reduceLT, Nat.reduceMul, Nat.reduceSub, one, Nat.reduceLeDiff, Aqf, Bkk]
 refine hK _ _ ?_; clear hK K
 refine Avw (fun a' H' => ∃ e, 1 <= n /\ a' = act 16 e [] /\ H' = H.set b o /\ e 1 = .int .i64 n /\ e 5 = .int .u64 v) ?_ ?_
 ·(refine @unH _ ?_; refine z1 Bkk ?_)
  refine Avv (by simp -implicitDefEqProofs (disch := first | omega | (simp only [qd] <;> omega)) only [Axb, Axl, Nat.reduceEqDiff, ↓reduceIte]; rfl) ?_
  by_cases h : n < 1
  ·simp only [h, decide_true, if_true]
   (refine @unH _ ?_; refine z1 Bkk ?_)
   refine Axp ?_
   simp only [thn]
   rw [Aq6, Ayq Tryz.results15 (by decide)]
   exact ⟨0, by omega, .inr rfl, rfl, o, rfl, hT'⟩
  ·simp only [h, decide_false, Bool.false_eq_true, if_false]
   exact Az7 ⟨_, by omega, rfl, rfl, rfl, rfl⟩
 ·rintro a' H' ⟨e, h1, rfl, rfl, e1, e5⟩
  have hw : IntKind.u64.wrap n = n := IntWalk.u64_in n (by omega)
  have hw' : IntKind.u64.wrap (n + 1) = n + 1 := IntWalk.u64_in _ (by omega)
  have hm : v.tmod (n + 1) = v % (n + 1) := Int.tmod_eq_emod_of_nonneg hv0
  have hr0 := Int.emod_nonneg v (show n + 1 ≠ 0 by omega)
  have hr1 := Int.emod_lt_of_pos v (show 0 < n + 1 by omega)
  have hw2 : IntKind.i64.wrap (v % (n + 1)) = v % (n + 1) := IntWalk.i64_in _ (by omega)
  (refine @unH _ ?_; refine z1 (And.intro Bkk (And.intro @e1 (And.intro @e5 (And.intro @hw (And.intro @hw' (And.intro @hm @hw2)))))) ?_)
  (refine @unH _ ?_; refine z9 Tryz.results15 ?_)
  exact ⟨_, hr0, .inl (by omega), rfl, o, rfl, hT'⟩
theorem Cq8 (m : Md) (H : Hp) (b k : Nat) (lo hi : Int) (h0 : -1000000 <= lo) (h1 : lo <= 1000000) (h2 : -1000000 <= hi) (h3 : hi <= 1000000) (hT : TinI H b (k + 1)) :
  FnX Tryz.prog m 34 #[.pointer (some ⟨b, 0, none⟩), .int .i64 lo, .int .i64 hi] H fun e H' => ∃ r : Int, lo <= r /\ (r <= hi ∨ r = lo) /\ e = .returned (.int .i64 r) /\ ∃ o, H' = H.set b o /\ TinI H' b k := by
 refine Aqn Tryz.func34 rfl Tryz.ntmps34 (by simp) ?_
 (refine @unH _ ?_; refine z1 @Cw8 ?_)
 (refine @unH _ ?_; refine z8 @Cw8 ?_; try (refine inK ?_; intro K hK))
 refine (Awl m H b k (hi - lo) (by omega) hT).runs.mono ?_
 rintro _ _ ⟨r, hr0, hr1, rfl, o, rfl, hT'⟩
 have hr2 : r <= 2000000 := by omega
 (refine @unH _ ?_; refine z0 @Cw8 ?_)
 refine hK _ _ ?_; clear hK K
 (refine @unH _ ?_; refine z9 Tryz.results34 ?_)
 exact ⟨_, by omega, by omega, rfl, o, rfl, hT'⟩
theorem Cqn (m : Md) (H : Hp) (b k : Nat) (n : Int) (h0 : -1000000 <= n) (h1 : n <= 1000000) (hT : TinI H b (k + 1)) :
  FnX Tryz.prog m 21 #[.pointer (some ⟨b, 0, none⟩), .int .i64 n] H fun e H' => ∃ r : Bool, e = .returned (.bool r) /\ ∃ o, H' = H.set b o /\ TinI H' b k := by
 refine Aqn Tryz.func21 rfl Tryz.ntmps21 (by simp) ?_
 (refine @unH _ ?_; refine z1 @Cw7 ?_)
 (refine @unH _ ?_; refine z8 @Cw7 ?_; try (refine inK ?_; intro K hK))
 refine (Awl m H b k (n - 1) (by omega) hT).runs.mono ?_; rintro _ _ ⟨r, hr0, hr1, rfl, o, rfl, hT'⟩; simp -implicitDefEqProofs (disch := first | omega | (simp only [qd] <;> omega)) only [xq, ↓xp, qc, Nat.reduceAdd, List.range, List.range.loop, fine, Nat.reduceEqDiff, ↓reduceIte, yielded, reduceCtorEq, Nat.reduceLT, Nat.reduceMul, Nat.reduceSub, one, Nat.reduceLeDiff, Aqf, Cw7]
 refine hK _ _ ?_; clear hK K
 (refine @unH _ ?_; refine z9 Tryz.results21 ?_)
 exact ⟨_, rfl, o, rfl, hT'⟩
def Cw9 := And.intro (fun H => Aq7 (H := H) Tryz.underlying22) (And.intro @Bqt (And.intro (fun H => Aqu (H := H) Tryz.underlying22 Tryz.sizeOf3) (fun H => Aqg (H := H) Tryz.underlying3 rfl)))
def SlI (H : Hp) (v : Value) (xs : List Int) : Prop :=
 ∃ (a : Option Addr) (cap : Nat), v = .slice a xs.length cap /\ xs.length <= cap /\ ∀ (i : Nat) (x : Int), xs[i]? = some x -> ∃ (b o : Nat) (p : Bool) (c : Array Value) (fr : Nat × Nat), a = some ⟨b, o, none⟩ /\ H b = some (p, .cells c 3 fr) /\ c[o + i]? = some (.int .i64 x)
theorem SlI.le {H H' : Hp} {v : Value} {xs : List Int} (h : SlI H v xs) (hl : H.le H') : SlI H' v xs := by
 obtain ⟨a, cap, hv, hc, h⟩ := h
 refine ⟨a, cap, hv, hc, fun i x hi => ?_⟩
 obtain ⟨b, o, p, c, fr, ha, hb, hx⟩ := h i x hi
 exact ⟨b, o, p, c, fr, ha, hl _ _ hb, hx⟩
theorem SlI.nil (H : Hp) (a : Option Addr) (cap : Nat) : SlI H (.slice a 0 cap) [] := ⟨a, cap, rfl, Nat.zero_le _, fun i x hi => by simp at hi⟩
theorem SlI.cons {H : Hp} {v : Value} {xs : List Int} (h : SlI H v xs) (hx : xs ≠ []) : ∃ (b o cap : Nat) (p : Bool) (c : Array Value) (fr : Nat × Nat), v = .slice (some ⟨b, o, none⟩) xs.length cap /\ xs.length <= cap /\ H b = some (p, .cells c 3 fr) /\ ∀ (i : Nat) (x : Int), xs[i]? = some x -> c[o + i]? = some (.int .i64 x) := by
 obtain ⟨a, cap, hv, hc, h⟩ := h
 cases xs with
 | nil => exact absurd rfl hx
 | cons y ys =>
  obtain ⟨b, o, p, c, fr, rfl, hb, _⟩ := h 0 y rfl
  refine ⟨b, o, cap, p, c, fr, hv, hc, hb, fun i x hi => ?_⟩
  obtain ⟨b', o', p', c', fr', ha, hb', hx'⟩ := h i x hi
  simp only [Option.some.injEq, Addr.mk.injEq] at ha
  obtain ⟨rfl, rfl, _⟩ := ha
  rw [hb] at hb'
  simp only [Option.some.injEq, Prod.mk.injEq, Obj.cells.injEq] at hb'
  obtain ⟨_, rfl, _⟩ := hb'
  exact hx'
def ints (xs : List Int) : List Value := xs.map (Value.int .i64)
theorem Akb {xs : List Int} {i : Nat} {x : Int} (h : xs[i]? = some x) : (ints xs)[i]? = some (.int .i64 x) := by simp [ints, h]
theorem Cx4 (xs ys : List Int) : ints (xs ++ ys) = ints xs ++ ints ys := by simp [ints]
theorem Aqz (xs : List Int) : (ints xs).length = xs.length := by simp [ints]
theorem Bxy (xs : List Int) : ∀ u ∈ ints xs, one u = true := fun u hu => by
 simp only [ints, List.mem_map] at hu
 obtain ⟨x, _, rfl⟩ := hu
 rfl
theorem Bx6 {H₀ H : Hp} {v : Value} {n : Nat} {xs : List Int} (hrow : Akm H₀ H v 3 1 n (ints xs)) {Hx : Hp} (hx : H.le Hx) {g o m cap : Nat} {ys : List Int} (hm : ys.length = m)
  (hg : H₀ g = none -> H g = none) (hys : ∀ (j : Nat) (y : Int), ys[j]? = some y -> Hx.cell ⟨g, o + j, none⟩ = some (.int .i64 y)) (hn : n + m <= 1073741824)
  (ty : TypeId) (cb : Array Bool) (K : Next -> Hp -> Prop) (E : Value -> Hp -> Prop)
  (h : ∀ v' H' H'', Akm H₀ H' v' 3 1 (n + m) (ints (xs ++ ys)) -> H'.le H'' -> K (.value v') H'') :
  wpS Tryz.prog (builtin .append #[22, 22] ty cb #[v, .slice (some ⟨g, o, none⟩) m cap]) Hx K E := by
 refine Avb Tryz.underlying22 Tryz.sizeOf3 Tryz.zeroValue3 rfl Tryz.typeInfo3 (by decide) (by decide) hrow hx (news := ints ys) (by rw [Aqz, hm, Nat.mul_one]) hg (fun j u hj => ?_) (Bxy ys) hn ty cb K E (fun v' H' H'' h1 h2 => h v' H' H'' (by rw [Cx4]; exact h1) h2)
 simp only [ints, List.getElem?_map, Option.map_eq_some_iff] at hj
 obtain ⟨y, hy, rfl⟩ := hj
 exact hys j y hy
theorem By6 (m : Md) (H : Hp) (b k : Nat) (v : Value) (xs : List Int) (hv : SlI H v xs) (hne : xs ≠ []) (hl : xs.length <= 1000000) (hT : TinI H b (k + 1)) :
  FnX Tryz.prog m 37 #[.pointer (some ⟨b, 0, none⟩), v] H fun e H' => ∃ r : Int, r ∈ xs /\ e = .returned (.int .i64 r) /\ ∃ o, H' = H.set b o /\ TinI H' b k := by
 have hpos : 0 < xs.length := List.length_pos_iff.2 hne
 obtain ⟨sb, so, cap, p, c, fr, rfl, _, hsb, hc⟩ := hv.cons hne
 have hbn : sb ≠ b := fun e => by
  obtain ⟨_, _, _, _, _, hb, _⟩ := hT
  rw [e, hb] at hsb
  cases hsb
 refine Aqn Tryz.func37 rfl Tryz.ntmps37 (by simp) ?_
 (refine @unH _ ?_; refine z1 Cw9 ?_)
 (refine @unH _ ?_; refine z8 Cw9 ?_; try (refine inK ?_; intro K hK))
 refine (Awl m H b k ((xs.length : Int) - 1) (by omega) hT).runs.mono ?_
 rintro _ _ ⟨r, hr0, hr1, rfl, o, rfl, hT'⟩
 have hr2 : r < xs.length := by omega
 have hrn : r.toNat < xs.length := by omega
 have hx := hc r.toNat xs[r.toNat] (List.getElem?_eq_getElem hrn)
 have hx' : c[so + r.toNat * 1]? = some (.int .i64 xs[r.toNat]) := by simpa using hx
 have hsb' : (H.set b o) sb = some (p, .cells c 3 fr) := by rw [Axw, if_neg hbn]; exact hsb
 simp -implicitDefEqProofs (disch := first | omega | (simp only [qd] <;> omega)) only [xq, ↓xp, qc, Nat.reduceAdd, List.range, List.range.loop, fine, Nat.reduceEqDiff, ↓reduceIte, yielded, reduceCtorEq, Nat.reduceLT, Nat.reduceMul, Nat.reduceSub, one, Nat.reduceLeDiff, Aqf, Cw9, cell_of hsb', hx', exists_eq_left']
 refine hK _ _ ?_; clear hK K
 (refine @unH _ ?_; refine z9 Tryz.results37 ?_)
 exact ⟨_, List.getElem_mem hrn, rfl, o, rfl, hT'⟩
end Go.Proofs.YtkcomnkgdifboaaGreatDoor
end
