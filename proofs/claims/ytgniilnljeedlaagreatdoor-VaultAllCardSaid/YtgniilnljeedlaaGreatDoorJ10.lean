/- Texts Blds Fns Hid Tin Data. -/
import Derived.Test.YtgniilnljeedlaaGreatDoorJ09
import Derived.Test.YtgniilnljeedlaaGreatDoorProg
import Derived.IntWalk
set_option linter.defProp false
set_option linter.unusedSimpArgs false
set_option linter.unusedVariables false
set_option maxRecDepth 100000
set_option maxHeartbeats 2000000
section
namespace Go.Proofs.YtgniilnljeedlaaGreatDoor
open Go Go.X
theorem Bj6 (H : Hp) (x1 : Option Addr) (nx1 cx1 : Nat) (x2 : Option Addr) (nx2 cx2 : Nat) (K : Value -> Hp -> Prop) (E : Value -> Hp -> Prop) : wpS Tryz.prog (Instr.buildSlice 23 2 #[(0, .slice x1 nx1 cx1), (1, .slice x2 nx2 cx2)]) H K E = ∀ b, H b = none -> K (.slice (some ⟨b, 0, none⟩) 2 2) (H.set b (.cells #[.slice x1 nx1 cx1, .slice x2 nx2 cx2] 22 (0, 0))) := Ajp (K := K) (E := E) Tryz.underlying23 Tryz.sizeOf22 Tryz.zeroValue22 rfl 2 [(0, .slice x1 nx1 cx1), (1, .slice x2 nx2 cx2)] (by decide) (by decide) (c := #[.slice x1 nx1 cx1, .slice x2 nx2 cx2]) (by kernel_rfl)
theorem Bx9 (H : Hp) (x1 : Option Addr) (nx1 cx1 : Nat) (K : Value -> Hp -> Prop) (E : Value -> Hp -> Prop) : wpS Tryz.prog (Instr.buildSlice 23 1 #[(0, .slice x1 nx1 cx1)]) H K E = ∀ b, H b = none -> K (.slice (some ⟨b, 0, none⟩) 1 1) (H.set b (.cells #[.slice x1 nx1 cx1] 22 (0, 0))) := Ajp (K := K) (E := E) Tryz.underlying23 Tryz.sizeOf22 Tryz.zeroValue22 rfl 1 [(0, .slice x1 nx1 cx1)] (by decide) (by decide) (c := #[.slice x1 nx1 cx1]) (by kernel_rfl)
theorem Axp (H : Hp) (kx1 : IntKind) (x1 : Int) (K : Value -> Hp -> Prop) (E : Value -> Hp -> Prop) : wpS Tryz.prog (Instr.buildSlice 22 1 #[(0, .int kx1 x1)]) H K E = ∀ b, H b = none -> K (.slice (some ⟨b, 0, none⟩) 1 1) (H.set b (.cells #[.int kx1 x1] 3 (0, 0))) := Ajp (K := K) (E := E) Tryz.underlying22 Tryz.sizeOf3 Tryz.zeroValue3 rfl 1 [(0, .int kx1 x1)] (by decide) (by decide) (c := #[.int kx1 x1]) (by kernel_rfl)
theorem Bx6 (H : Hp) (kx1 : IntKind) (x1 : Int) (kx2 : IntKind) (x2 : Int) (K : Value -> Hp -> Prop) (E : Value -> Hp -> Prop) : wpS Tryz.prog (Instr.build 61 #[(0, .int kx1 x1), (1, .int kx2 x2)]) H K E = K (.agg #[.int kx1 x1, .int kx2 x2]) H := Axg Tryz.underlying61 Tryz.zeroValue61 (ns := [1, 1]) ⟨Tryz.sizeOf3, Tryz.sizeOf3, trivial⟩ [(0, .int kx1 x1), (1, .int kx2 x2)] (out := [.int kx1 x1, .int kx2 x2]) (by kernel_rfl) K E
theorem Ajg (H : Hp) (kx1 : IntKind) (x1 : Int) (kx2 : IntKind) (x2 : Int) (K : Value -> Hp -> Prop) (E : Value -> Hp -> Prop) : wpS Tryz.prog (Instr.buildSlice 22 2 #[(0, .int kx1 x1), (1, .int kx2 x2)]) H K E = ∀ b, H b = none -> K (.slice (some ⟨b, 0, none⟩) 2 2) (H.set b (.cells #[.int kx1 x1, .int kx2 x2] 3 (0, 0))) := Ajp (K := K) (E := E) Tryz.underlying22 Tryz.sizeOf3 Tryz.zeroValue3 rfl 2 [(0, .int kx1 x1), (1, .int kx2 x2)] (by decide) (by decide) (c := #[.int kx1 x1, .int kx2 x2]) (by kernel_rfl)
theorem Az0 (H : Hp) (kx1 : IntKind) (x1 : Int) (kx2 : IntKind) (x2 : Int) (kx3 : IntKind) (x3 : Int) (kx4 : IntKind) (x4 : Int) (K : Value -> Hp -> Prop) (E : Value -> Hp -> Prop) : wpS Tryz.prog (Instr.buildSlice 22 4 #[(0, .int kx1 x1), (1, .int kx2 x2), (2, .int kx3 x3), (3, .int kx4 x4)]) H K E = ∀ b, H b = none -> K (.slice (some ⟨b, 0, none⟩) 4 4) (H.set b (.cells #[.int kx1 x1, .int kx2 x2, .int kx3 x3, .int kx4 x4] 3 (0, 0))) := Ajp (K := K) (E := E) Tryz.underlying22 Tryz.sizeOf3 Tryz.zeroValue3 rfl 4 [(0, .int kx1 x1), (1, .int kx2 x2), (2, .int kx3 x3), (3, .int kx4 x4)] (by decide) (by decide) (c := #[.int kx1 x1, .int kx2 x2, .int kx3 x3, .int kx4 x4]) (by kernel_rfl)
theorem Bwf (H : Hp) (x1 : Option Addr) (nx1 cx1 : Nat) (kx2 : IntKind) (x2 : Int) (K : Value -> Hp -> Prop) (E : Value -> Hp -> Prop) : wpS Tryz.prog (Instr.build 76 #[(0, .slice x1 nx1 cx1), (2, .int kx2 x2)]) H K E = K (.agg #[.slice x1 nx1 cx1, .int .i64 0, .int kx2 x2]) H := Axg Tryz.underlying76 Tryz.zeroValue76 (ns := [1, 1, 1]) ⟨Tryz.sizeOf22, Tryz.sizeOf3, Tryz.sizeOf74, trivial⟩ [(0, .slice x1 nx1 cx1), (2, .int kx2 x2)] (out := [.slice x1 nx1 cx1, .int .i64 0, .int kx2 x2]) (by kernel_rfl) K E
theorem Awh (H : Hp) (kx1 : IntKind) (x1 : Int) (kx2 : IntKind) (x2 : Int) (x3 : Option Addr) (nx3 cx3 : Nat) (x4 : Option Addr) (nx4 cx4 : Nat) (K : Value -> Hp -> Prop) (E : Value -> Hp -> Prop) : wpS Tryz.prog (Instr.build 25 #[(0, .int kx1 x1), (1, .int kx2 x2), (2, .slice x3 nx3 cx3), (3, .slice x4 nx4 cx4)]) H K E = K (.agg #[.int kx1 x1, .int kx2 x2, .slice x3 nx3 cx3, .slice x4 nx4 cx4]) H := Axg Tryz.underlying25 Tryz.zeroValue25 (ns := [1, 1, 1, 1]) ⟨Tryz.sizeOf3, Tryz.sizeOf3, Tryz.sizeOf22, Tryz.sizeOf23, trivial⟩ [(0, .int kx1 x1), (1, .int kx2 x2), (2, .slice x3 nx3 cx3), (3, .slice x4 nx4 cx4)] (out := [.int kx1 x1, .int kx2 x2, .slice x3 nx3 cx3, .slice x4 nx4 cx4]) (by kernel_rfl) K E
theorem Bkc (H : Hp)  (K : Value -> Hp -> Prop) (E : Value -> Hp -> Prop) : wpS Tryz.prog (Instr.build 115 #[]) H K E = K (.agg #[]) H := Axg Tryz.underlying115 Tryz.zeroValue115 (ns := []) trivial [] (out := []) (by kernel_rfl) K E
theorem Awn (H : Hp) (kx1 : IntKind) (x1 : Int) (kx2 : IntKind) (x2 : Int) (kx3 : IntKind) (x3 : Int) (kx4 : IntKind) (x4 : Int) (kx5 : IntKind) (x5 : Int) (kx6 : IntKind) (x6 : Int) (K : Value -> Hp -> Prop) (E : Value -> Hp -> Prop) : wpS Tryz.prog (Instr.buildSlice 22 6 #[(0, .int kx1 x1), (1, .int kx2 x2), (2, .int kx3 x3), (3, .int kx4 x4), (4, .int kx5 x5), (5, .int kx6 x6)]) H K E = ∀ b, H b = none -> K (.slice (some ⟨b, 0, none⟩) 6 6) (H.set b (.cells #[.int kx1 x1, .int kx2 x2, .int kx3 x3, .int kx4 x4, .int kx5 x5, .int kx6 x6] 3 (0, 0))) := Ajp (K := K) (E := E) Tryz.underlying22 Tryz.sizeOf3 Tryz.zeroValue3 rfl 6 [(0, .int kx1 x1), (1, .int kx2 x2), (2, .int kx3 x3), (3, .int kx4 x4), (4, .int kx5 x5), (5, .int kx6 x6)] (by decide) (by decide) (c := #[.int kx1 x1, .int kx2 x2, .int kx3 x3, .int kx4 x4, .int kx5 x5, .int kx6 x6]) (by kernel_rfl)
theorem Bwe (H : Hp) (kx1 : IntKind) (x1 : Int) (kx2 : IntKind) (x2 : Int) (K : Value -> Hp -> Prop) (E : Value -> Hp -> Prop) : wpS Tryz.prog (Instr.build 25 #[(0, .int kx1 x1), (1, .int kx2 x2)]) H K E = K (.agg #[.int kx1 x1, .int kx2 x2, .slice none 0 0, .slice none 0 0]) H := Axg Tryz.underlying25 Tryz.zeroValue25 (ns := [1, 1, 1, 1]) ⟨Tryz.sizeOf3, Tryz.sizeOf3, Tryz.sizeOf22, Tryz.sizeOf23, trivial⟩ [(0, .int kx1 x1), (1, .int kx2 x2)] (out := [.int kx1 x1, .int kx2 x2, .slice none 0 0, .slice none 0 0]) (by kernel_rfl) K E
theorem Ckc (H : Hp)  (K : Value -> Hp -> Prop) (E : Value -> Hp -> Prop) : wpS Tryz.prog (Instr.build 61 #[]) H K E = K (.agg #[.int .i64 0, .int .i64 0]) H := Axg Tryz.underlying61 Tryz.zeroValue61 (ns := [1, 1]) ⟨Tryz.sizeOf3, Tryz.sizeOf3, trivial⟩ [] (out := [.int .i64 0, .int .i64 0]) (by kernel_rfl) K E
theorem Bq2 (H : Hp) (x1 : Option Addr) (nx1 cx1 : Nat) (x2 : Option Addr) (nx2 cx2 : Nat) (x3 : Option Addr) (nx3 cx3 : Nat) (x4 : Option Addr) (nx4 cx4 : Nat) (K : Value -> Hp -> Prop) (E : Value -> Hp -> Prop) : wpS Tryz.prog (Instr.buildSlice 23 4 #[(0, .slice x1 nx1 cx1), (1, .slice x2 nx2 cx2), (2, .slice x3 nx3 cx3), (3, .slice x4 nx4 cx4)]) H K E = ∀ b, H b = none -> K (.slice (some ⟨b, 0, none⟩) 4 4) (H.set b (.cells #[.slice x1 nx1 cx1, .slice x2 nx2 cx2, .slice x3 nx3 cx3, .slice x4 nx4 cx4] 22 (0, 0))) := Ajp (K := K) (E := E) Tryz.underlying23 Tryz.sizeOf22 Tryz.zeroValue22 rfl 4 [(0, .slice x1 nx1 cx1), (1, .slice x2 nx2 cx2), (2, .slice x3 nx3 cx3), (3, .slice x4 nx4 cx4)] (by decide) (by decide) (c := #[.slice x1 nx1 cx1, .slice x2 nx2 cx2, .slice x3 nx3 cx3, .slice x4 nx4 cx4]) (by kernel_rfl)
theorem Czp (H : Hp)  (K : Value -> Hp -> Prop) (E : Value -> Hp -> Prop) : wpS Tryz.prog (Instr.build 142 #[]) H K E = K (.agg #[]) H := Axg Tryz.underlying142 Tryz.zeroValue142 (ns := []) trivial [] (out := []) (by kernel_rfl) K E
theorem Czq (H : Hp)  (K : Value -> Hp -> Prop) (E : Value -> Hp -> Prop) : wpS Tryz.prog (Instr.build 143 #[]) H K E = K (.agg #[]) H := Axg Tryz.underlying143 Tryz.zeroValue143 (ns := []) trivial [] (out := []) (by kernel_rfl) K E
theorem Czr (H : Hp)  (K : Value -> Hp -> Prop) (E : Value -> Hp -> Prop) : wpS Tryz.prog (Instr.build 144 #[]) H K E = K (.agg #[]) H := Axg Tryz.underlying144 Tryz.zeroValue144 (ns := []) trivial [] (out := []) (by kernel_rfl) K E
theorem Czs (H : Hp)  (K : Value -> Hp -> Prop) (E : Value -> Hp -> Prop) : wpS Tryz.prog (Instr.build 154 #[]) H K E = K (.agg #[]) H := Axg Tryz.underlying154 Tryz.zeroValue154 (ns := []) trivial [] (out := []) (by kernel_rfl) K E
theorem By3 (H : Hp) (kx1 : IntKind) (x1 : Int) (K : Value -> Hp -> Prop) (E : Value -> Hp -> Prop) : wpS Tryz.prog (Instr.build 105 #[(1, .int kx1 x1)]) H K E = K (.agg #[.int .i64 0, .int kx1 x1]) H := Axg Tryz.underlying105 Tryz.zeroValue105 (ns := [1, 1]) ⟨Tryz.sizeOf3, Tryz.sizeOf92, trivial⟩ [(1, .int kx1 x1)] (out := [.int .i64 0, .int kx1 x1]) (by kernel_rfl) K E
theorem Bj4 (H : Hp) (kx1 : IntKind) (x1 : Int) (kx2 : IntKind) (x2 : Int) (x3 : Option Addr) (nx3 cx3 : Nat) (x4 : Option Addr) (nx4 cx4 : Nat) (x5 : Option Addr) (nx5 cx5 : Nat) (x6 : Option Nat) (K : Value -> Hp -> Prop) (E : Value -> Hp -> Prop) : wpS Tryz.prog (Instr.build 97 #[(0, .agg #[.int kx1 x1, .int kx2 x2, .slice x3 nx3 cx3, .slice x4 nx4 cx4]), (1, .slice x5 nx5 cx5), (2, .map x6)]) H K E = K (.agg #[.int kx1 x1, .int kx2 x2, .slice x3 nx3 cx3, .slice x4 nx4 cx4, .slice x5 nx5 cx5, .map x6]) H := Axg Tryz.underlying97 Tryz.zeroValue97 (ns := [4, 1, 1]) ⟨Tryz.sizeOf25, Tryz.sizeOf22, Tryz.sizeOf95, trivial⟩ [(0, .agg #[.int kx1 x1, .int kx2 x2, .slice x3 nx3 cx3, .slice x4 nx4 cx4]), (1, .slice x5 nx5 cx5), (2, .map x6)] (out := [.int kx1 x1, .int kx2 x2, .slice x3 nx3 cx3, .slice x4 nx4 cx4, .slice x5 nx5 cx5, .map x6]) (by kernel_rfl) K E
theorem Bzz (H : Hp) (x1 : Fn) (ax1 bx1 : Array Value) (K : Value -> Hp -> Prop) (E : Value -> Hp -> Prop) : wpS Tryz.prog (Instr.build 124 #[(0, .func x1 ax1 bx1)]) H K E = K (.agg #[.func x1 ax1 bx1]) H := Axg Tryz.underlying124 Tryz.zeroValue124 (ns := [1]) ⟨Tryz.sizeOf122, trivial⟩ [(0, .func x1 ax1 bx1)] (out := [.func x1 ax1 bx1]) (by kernel_rfl) K E
theorem Bz0 (H : Hp)  (K : Value -> Hp -> Prop) (E : Value -> Hp -> Prop) : wpS Tryz.prog (Instr.build 124 #[(0, .nilFunc)]) H K E = K (.agg #[.nilFunc]) H := Axg Tryz.underlying124 Tryz.zeroValue124 (ns := [1]) ⟨Tryz.sizeOf122, trivial⟩ [(0, .nilFunc)] (out := [.nilFunc]) (by kernel_rfl) K E
theorem Bky (H : Hp) (kx1 : IntKind) (x1 : Int) (kx2 : IntKind) (x2 : Int) (K : Value -> Hp -> Prop) (E : Value -> Hp -> Prop) : wpS Tryz.prog (Instr.build 136 #[(0, .int kx1 x1), (1, .int kx2 x2)]) H K E = K (.agg #[.int kx1 x1, .int kx2 x2]) H := Axg Tryz.underlying136 Tryz.zeroValue136 (ns := [1, 1]) ⟨Tryz.sizeOf35, Tryz.sizeOf3, trivial⟩ [(0, .int kx1 x1), (1, .int kx2 x2)] (out := [.int kx1 x1, .int kx2 x2]) (by kernel_rfl) K E
theorem Bkx (H : Hp) (kx1 : IntKind) (x1 : Int) (kx2 : IntKind) (x2 : Int) (K : Value -> Hp -> Prop) (E : Value -> Hp -> Prop) : wpS Tryz.prog (Instr.build 105 #[(0, .int kx1 x1), (1, .int kx2 x2)]) H K E = K (.agg #[.int kx1 x1, .int kx2 x2]) H := Axg Tryz.underlying105 Tryz.zeroValue105 (ns := [1, 1]) ⟨Tryz.sizeOf3, Tryz.sizeOf92, trivial⟩ [(0, .int kx1 x1), (1, .int kx2 x2)] (out := [.int kx1 x1, .int kx2 x2]) (by kernel_rfl) K E
end Go.Proofs.YtgniilnljeedlaaGreatDoor
end
section
namespace Go.Proofs.YtgniilnljeedlaaGreatDoor
open Go Go.X
variable {H : Hp} (args : Array Value) (K : Next -> Hp -> Prop) (E : Value -> Hp -> Prop)
theorem callF22 : wpS Tryz.prog (callFunc 22 args) H K E = K (.enter 22 args) H := Aqe Tryz.func22 (by kernel_rfl) (by kernel_rfl) args K E
theorem callF23 : wpS Tryz.prog (callFunc 23 args) H K E = K (.enter 23 args) H := Aqe Tryz.func23 (by kernel_rfl) (by kernel_rfl) args K E
theorem Ckf : wpS Tryz.prog (callFunc 27 args) H K E = K (.enter 27 args) H := Aqe Tryz.func27 (by kernel_rfl) (by kernel_rfl) args K E
theorem Dxj : wpS Tryz.prog (callFunc 28 args) H K E = K (.enter 28 args) H := Aqe Tryz.func28 (by kernel_rfl) (by kernel_rfl) args K E
theorem Dxk : wpS Tryz.prog (callFunc 30 args) H K E = K (.enter 30 args) H := Aqe Tryz.func30 (by kernel_rfl) (by kernel_rfl) args K E
theorem Dxl : wpS Tryz.prog (callFunc 31 args) H K E = K (.enter 31 args) H := Aqe Tryz.func31 (by kernel_rfl) (by kernel_rfl) args K E
theorem Bk3 : wpS Tryz.prog (callFunc 33 args) H K E = K (.enter 33 args) H := Aqe Tryz.func33 (by kernel_rfl) (by kernel_rfl) args K E
theorem Dxm : wpS Tryz.prog (callFunc 37 args) H K E = K (.enter 37 args) H := Aqe Tryz.func37 (by kernel_rfl) (by kernel_rfl) args K E
theorem Dxn : wpS Tryz.prog (callFunc 39 args) H K E = K (.enter 39 args) H := Aqe Tryz.func39 (by kernel_rfl) (by kernel_rfl) args K E
theorem Bxq : wpS Tryz.prog (callFunc 41 args) H K E = K (.enter 41 args) H := Aqe Tryz.func41 (by kernel_rfl) (by kernel_rfl) args K E
theorem Dxo : wpS Tryz.prog (callFunc 42 args) H K E = K (.enter 42 args) H := Aqe Tryz.func42 (by kernel_rfl) (by kernel_rfl) args K E
theorem Dxp : wpS Tryz.prog (callFunc 44 args) H K E = K (.enter 44 args) H := Aqe Tryz.func44 (by kernel_rfl) (by kernel_rfl) args K E
theorem callF46 : wpS Tryz.prog (callFunc 46 args) H K E = K (.enter 46 args) H := Aqe Tryz.func46 (by kernel_rfl) (by kernel_rfl) args K E
theorem callF47 : wpS Tryz.prog (callFunc 47 args) H K E = K (.enter 47 args) H := Aqe Tryz.func47 (by kernel_rfl) (by kernel_rfl) args K E
theorem callF49 : wpS Tryz.prog (callFunc 49 args) H K E = K (.enter 49 args) H := Aqe Tryz.func49 (by kernel_rfl) (by kernel_rfl) args K E
theorem Ckg : wpS Tryz.prog (callFunc 50 args) H K E = K (.enter 50 args) H := Aqe Tryz.func50 (by kernel_rfl) (by kernel_rfl) args K E
theorem Dxq : wpS Tryz.prog (callFunc 51 args) H K E = K (.enter 51 args) H := Aqe Tryz.func51 (by kernel_rfl) (by kernel_rfl) args K E
theorem Dxr : wpS Tryz.prog (callFunc 52 args) H K E = K (.enter 52 args) H := Aqe Tryz.func52 (by kernel_rfl) (by kernel_rfl) args K E
theorem Ckh : wpS Tryz.prog (callFunc 54 args) H K E = K (.enter 54 args) H := Aqe Tryz.func54 (by kernel_rfl) (by kernel_rfl) args K E
theorem Dxs : wpS Tryz.prog (callFunc 57 args) H K E = K (.enter 57 args) H := Aqe Tryz.func57 (by kernel_rfl) (by kernel_rfl) args K E
theorem Cki : wpS Tryz.prog (callFunc 61 args) H K E = K (.enter 61 args) H := Aqe Tryz.func61 (by kernel_rfl) (by kernel_rfl) args K E
theorem Dxt : wpS Tryz.prog (callFunc 67 args) H K E = K (.enter 67 args) H := Aqe Tryz.func67 (by kernel_rfl) (by kernel_rfl) args K E
theorem Dxu : wpS Tryz.prog (callFunc 68 args) H K E = K (.enter 68 args) H := Aqe Tryz.func68 (by kernel_rfl) (by kernel_rfl) args K E
theorem Dxv : wpS Tryz.prog (callFunc 69 args) H K E = K (.enter 69 args) H := Aqe Tryz.func69 (by kernel_rfl) (by kernel_rfl) args K E
theorem Dxw : wpS Tryz.prog (callFunc 70 args) H K E = K (.enter 70 args) H := Aqe Tryz.func70 (by kernel_rfl) (by kernel_rfl) args K E
theorem Bxr : wpS Tryz.prog (callFunc 72 args) H K E = K (.enter 72 args) H := Aqe Tryz.func72 (by kernel_rfl) (by kernel_rfl) args K E
theorem Ckj : wpS Tryz.prog (callFunc 73 args) H K E = K (.enter 73 args) H := Aqe Tryz.func73 (by kernel_rfl) (by kernel_rfl) args K E
theorem Bk4 : wpS Tryz.prog (callFunc 74 args) H K E = K (.enter 74 args) H := Aqe Tryz.func74 (by kernel_rfl) (by kernel_rfl) args K E
theorem Dxx : wpS Tryz.prog (callFunc 75 args) H K E = K (.enter 75 args) H := Aqe Tryz.func75 (by kernel_rfl) (by kernel_rfl) args K E
theorem Bk5 : wpS Tryz.prog (callFunc 79 args) H K E = K (.enter 79 args) H := Aqe Tryz.func79 (by kernel_rfl) (by kernel_rfl) args K E
theorem Ckk : wpS Tryz.prog (callFunc 80 args) H K E = K (.enter 80 args) H := Aqe Tryz.func80 (by kernel_rfl) (by kernel_rfl) args K E
theorem Ckl : wpS Tryz.prog (callFunc 82 args) H K E = K (.enter 82 args) H := Aqe Tryz.func82 (by kernel_rfl) (by kernel_rfl) args K E
theorem By5 : wpS Tryz.prog (callFunc 83 args) H K E = K (.enter 83 args) H := Aqe Tryz.func83 (by kernel_rfl) (by kernel_rfl) args K E
theorem By6 : wpS Tryz.prog (callFunc 86 args) H K E = K (.enter 86 args) H := Aqe Tryz.func86 (by kernel_rfl) (by kernel_rfl) args K E
theorem Bqa : wpS Tryz.prog (callFunc 87 args) H K E = K (.enter 87 args) H := Aqe Tryz.func87 (by kernel_rfl) (by kernel_rfl) args K E
theorem Bqb : wpS Tryz.prog (callFunc 88 args) H K E = K (.enter 88 args) H := Aqe Tryz.func88 (by kernel_rfl) (by kernel_rfl) args K E
theorem Dxy : wpS Tryz.prog (callFunc 90 args) H K E = K (.enter 90 args) H := Aqe Tryz.func90 (by kernel_rfl) (by kernel_rfl) args K E
theorem Bz1 : wpS Tryz.prog (callFunc 91 args) H K E = K (.enter 91 args) H := Aqe Tryz.func91 (by kernel_rfl) (by kernel_rfl) args K E
theorem Dxz : wpS Tryz.prog (callFunc 92 args) H K E = K (.enter 92 args) H := Aqe Tryz.func92 (by kernel_rfl) (by kernel_rfl) args K E
theorem Ckm : wpS Tryz.prog (callFunc 93 args) H K E = K (.enter 93 args) H := Aqe Tryz.func93 (by kernel_rfl) (by kernel_rfl) args K E
theorem Dx0 : wpS Tryz.prog (callFunc 94 args) H K E = K (.enter 94 args) H := Aqe Tryz.func94 (by kernel_rfl) (by kernel_rfl) args K E
theorem Dx1 : wpS Tryz.prog (callFunc 95 args) H K E = K (.enter 95 args) H := Aqe Tryz.func95 (by kernel_rfl) (by kernel_rfl) args K E
theorem callF96 : wpS Tryz.prog (callFunc 96 args) H K E = K (.enter 96 args) H := Aqe Tryz.func96 (by kernel_rfl) (by kernel_rfl) args K E
theorem By7 : wpS Tryz.prog (callFunc 97 args) H K E = K (.enter 97 args) H := Aqe Tryz.func97 (by kernel_rfl) (by kernel_rfl) args K E
theorem Ckn : wpS Tryz.prog (callFunc 98 args) H K E = K (.enter 98 args) H := Aqe Tryz.func98 (by kernel_rfl) (by kernel_rfl) args K E
theorem Cww : wpS Tryz.prog (callFunc 100 args) H K E = K (.enter 100 args) H := Aqe Tryz.func100 (by kernel_rfl) (by kernel_rfl) args K E
theorem Cwx : wpS Tryz.prog (callFunc 102 args) H K E = K (.enter 102 args) H := Aqe Tryz.func102 (by kernel_rfl) (by kernel_rfl) args K E
theorem Cwy : wpS Tryz.prog (callFunc 108 args) H K E = K (.enter 108 args) H := Aqe Tryz.func108 (by kernel_rfl) (by kernel_rfl) args K E
theorem Cwz : wpS Tryz.prog (callFunc 109 args) H K E = K (.enter 109 args) H := Aqe Tryz.func109 (by kernel_rfl) (by kernel_rfl) args K E
theorem Bzl : wpS Tryz.prog (callFunc 110 args) H K E = K (.enter 110 args) H := Aqe Tryz.func110 (by kernel_rfl) (by kernel_rfl) args K E
theorem Cw0 : wpS Tryz.prog (callFunc 111 args) H K E = K (.enter 111 args) H := Aqe Tryz.func111 (by kernel_rfl) (by kernel_rfl) args K E
theorem Bzm : wpS Tryz.prog (callFunc 112 args) H K E = K (.enter 112 args) H := Aqe Tryz.func112 (by kernel_rfl) (by kernel_rfl) args K E
theorem Bzn : wpS Tryz.prog (callFunc 113 args) H K E = K (.enter 113 args) H := Aqe Tryz.func113 (by kernel_rfl) (by kernel_rfl) args K E
theorem Bk0 : wpS Tryz.prog (callFunc 116 args) H K E = K (.enter 116 args) H := Aqe Tryz.func116 (by kernel_rfl) (by kernel_rfl) args K E
theorem Bzo : wpS Tryz.prog (callFunc 117 args) H K E = K (.enter 117 args) H := Aqe Tryz.func117 (by kernel_rfl) (by kernel_rfl) args K E
theorem Cw1 : wpS Tryz.prog (callFunc 118 args) H K E = K (.enter 118 args) H := Aqe Tryz.func118 (by kernel_rfl) (by kernel_rfl) args K E
theorem Cw2 : wpS Tryz.prog (callFunc 120 args) H K E = K (.enter 120 args) H := Aqe Tryz.func120 (by kernel_rfl) (by kernel_rfl) args K E
theorem Cw3 : wpS Tryz.prog (callFunc 121 args) H K E = K (.enter 121 args) H := Aqe Tryz.func121 (by kernel_rfl) (by kernel_rfl) args K E
theorem Bk1 : wpS Tryz.prog (callFunc 122 args) H K E = K (.enter 122 args) H := Aqe Tryz.func122 (by kernel_rfl) (by kernel_rfl) args K E
theorem Cw4 : wpS Tryz.prog (callFunc 124 args) H K E = K (.enter 124 args) H := Aqe Tryz.func124 (by kernel_rfl) (by kernel_rfl) args K E
theorem Cw5 : wpS Tryz.prog (callFunc 126 args) H K E = K (.enter 126 args) H := Aqe Tryz.func126 (by kernel_rfl) (by kernel_rfl) args K E
theorem Cw6 : wpS Tryz.prog (callFunc 127 args) H K E = K (.enter 127 args) H := Aqe Tryz.func127 (by kernel_rfl) (by kernel_rfl) args K E
theorem Cw7 : wpS Tryz.prog (callFunc 129 args) H K E = K (.enter 129 args) H := Aqe Tryz.func129 (by kernel_rfl) (by kernel_rfl) args K E
theorem Cw8 : wpS Tryz.prog (callFunc 130 args) H K E = K (.enter 130 args) H := Aqe Tryz.func130 (by kernel_rfl) (by kernel_rfl) args K E
theorem Cw9 : wpS Tryz.prog (callFunc 136 args) H K E = K (.enter 136 args) H := Aqe Tryz.func136 (by kernel_rfl) (by kernel_rfl) args K E
theorem Cya : wpS Tryz.prog (callFunc 137 args) H K E = K (.enter 137 args) H := Aqe Tryz.func137 (by kernel_rfl) (by kernel_rfl) args K E
theorem Cyb : wpS Tryz.prog (callFunc 153 args) H K E = K (.enter 153 args) H := Aqe Tryz.func153 (by kernel_rfl) (by kernel_rfl) args K E
theorem Cxg : wpS Tryz.prog (callFunc 154 args) H K E = K (.enter 154 args) H := Aqe Tryz.func154 (by kernel_rfl) (by kernel_rfl) args K E
theorem Cxh : wpS Tryz.prog (callFunc 186 args) H K E = K (.enter 186 args) H := Aqe Tryz.func186 (by kernel_rfl) (by kernel_rfl) args K E
theorem Cxi : wpS Tryz.prog (callFunc 188 args) H K E = K (.enter 188 args) H := Aqe Tryz.func188 (by kernel_rfl) (by kernel_rfl) args K E
theorem Cxj : wpS Tryz.prog (callFunc 189 args) H K E = K (.enter 189 args) H := Aqe Tryz.func189 (by kernel_rfl) (by kernel_rfl) args K E
theorem Cxk : wpS Tryz.prog (callFunc 190 args) H K E = K (.enter 190 args) H := Aqe Tryz.func190 (by kernel_rfl) (by kernel_rfl) args K E
def xq := And.intro @Nat.zero_add (And.intro @Nat.add_zero (And.intro @Bool.true_or (And.intro @true_and (And.intro @eval_const (And.intro @eval_func (And.intro @Aqm (And.intro @Aqn (And.intro @Aqc (And.intro @Aqr (And.intro @Aqi (And.intro @Cy2 (And.intro @Cvj (And.intro @Cjc (And.intro @Cjh (And.intro @Bxs (And.intro @Dq4 (And.intro @Dxh (And.intro @Dxb (And.intro @Dxe (And.intro @Dxd (And.intro @Dq5 (And.intro @Dz6 (And.intro @Dxi (And.intro @Czo (And.intro @Dxf (And.intro @Dxg (And.intro @Dq6 (And.intro @Dxc (And.intro @Dxa (And.intro @Dq9 (And.intro @Dq8 (And.intro @Dq7 (And.intro @Dx3 (And.intro @Dj5 (And.intro @Dj4 (And.intro @w64 (And.intro @Aku (And.intro @act_get? (And.intro @Bool.false_eq_true (And.intro @Bool.true_eq_false (And.intro @Dqg (And.intro @Dze (And.intro @Djr (And.intro @Cq1 (And.intro @Cjt (And.intro @Ax8 (And.intro @Cqs (And.intro @Czy (And.intro @Czx (And.intro @Cks (And.intro @Aq0 (And.intro @Azl (And.intro @Bk7 (And.intro @Bv0 (And.intro @Ajh (And.intro @Cv6 (And.intro @Avs (And.intro @Bool.and_true (And.intro @Bool.and_self (And.intro @Cyz (And.intro @Cve (And.intro @Cz6 (And.intro @Ckp (And.intro @Czv (And.intro @Cqa (And.intro @Bk8 (And.intro @Ckq (And.intro @By9 (And.intro @Cko (And.intro @and_true (And.intro @Nat.le_refl (And.intro @Ck3 (And.intro @Cyd @Cvp)))))))))))))))))))))))))))))))))))))))))))))))))))))))))))))))))))))))))
def xp := And.intro @Dx5 (And.intro @Ckx (And.intro @Dx6 (And.intro @Djl (And.intro @Dx4 (And.intro @Cyq (And.intro @Bwp (And.intro @Cyi (And.intro @Bwq (And.intro @Cyj (And.intro @Cz1 (And.intro @Djn (And.intro @Djk (And.intro @Dki (And.intro @Cz0 (And.intro @Bzh (And.intro @Bqd (And.intro @Cyp (And.intro @Bwr (And.intro @Cye (And.intro @Bvd (And.intro @Ck0 (And.intro @Bws (And.intro @Bve (And.intro @Czz (And.intro @Cyf (And.intro @Cyg (And.intro @Cq2 (And.intro @Ak3 @Cz2))))))))))))))))))))))))))))
def qc := And.intro @List.size_toArray.{0} (And.intro @List.length_cons.{0} (And.intro @List.length_nil.{0} (And.intro @List.getElem?_toArray.{0} (And.intro @List.getElem?_cons_zero.{0} (And.intro @List.getElem?_cons_succ.{0} (And.intro @Option.isNone_none.{0} (And.intro @List.map_toArray.{0,0} (And.intro @List.map_cons.{0,0} (And.intro @List.map_nil.{0,0} (And.intro @Option.bind_some.{0,0} (And.intro @beq_iff_eq.{0} (And.intro @Option.some.injEq.{0} (And.intro @List.setIfInBounds_toArray.{0} (And.intro @List.set_cons_succ.{0} (And.intro @List.set_cons_zero.{0} (And.intro @List.extract_toArray.{0} (And.intro @List.extract_eq_take_drop.{0} (And.intro @List.take_succ_cons.{0} (And.intro @List.take_zero.{0} (And.intro @List.drop_succ_cons.{0} (And.intro @List.drop_zero.{0} (And.intro @List.take_nil.{0} (And.intro @List.drop_nil.{0} (And.intro @List.cons_append.{0} (And.intro @List.nil_append.{0} (And.intro @List.append_assoc.{0} (And.intro @List.append_nil.{0} (And.intro @List.all_cons.{0} (And.intro @List.all_nil.{0} (And.intro @List.toList_toArray.{0} (And.intro @Option.map_none.{0,0} @Option.map_some.{0,0})))))))))))))))))))))))))))))))
def qd := And.intro @List.length_cons.{0} @List.length_nil.{0}
end Go.Proofs.YtgniilnljeedlaaGreatDoor
end
section
namespace Go.X
structure Hid (q : Prop) : Prop where
 out : q
theorem unH {q : Prop} (h : Hid q) : q := h.out
structure Dzw (p : Prop) : Prop where
 out : p
structure Dzv (p : Prop) : Prop where
 out : p
theorem inK {p : Prop} (h : p) : Dzw p := ⟨h⟩
theorem unK {p : Prop} (h : Dzw p) : p := h.out
theorem inC {p : Prop} (h : p) : Dzv p := ⟨h⟩
theorem unC {p : Prop} (h : Dzv p) : p := h.out
def Aqs (p : Prop) : Prop := p
theorem zA {Y p q : Prop} (y : Y) (g : q) (h : Hid Y -> Hid q -> p := by
 intro yy g
 repeat' (first
 | (refine Axn rfl ?_; intro Kz hKz; simp -implicitDefEqProofs (disch := first | omega | (simp only [qd] <;> omega)) only [xq, ↓xp, qc, Nat.reduceAdd, List.range, List.range.loop, fine, Nat.reduceEqDiff, ↓reduceIte, yielded, reduceCtorEq, Nat.reduceLT, Nat.reduceMul, Nat.reduceSub, one, Nat.reduceLeDiff, Aqa, yy.out, aq, ↓ap, qe0, qe1, qe2, *, -g, -yy, -hKz]; try (refine hKz _ _ ?_; clear hKz Kz))
 | (refine Axs rfl ?_; intro Kz hKz; simp -implicitDefEqProofs (disch := first | omega | (simp only [qd] <;> omega)) only [xq, ↓xp, qc, Nat.reduceAdd, List.range, List.range.loop, fine, Nat.reduceEqDiff, ↓reduceIte, yielded, reduceCtorEq, Nat.reduceLT, Nat.reduceMul, Nat.reduceSub, one, Nat.reduceLeDiff, Aqa, yy.out, aq, ↓ap, qe0, qe1, qe2, *, -g, -yy, -hKz]; try (refine hKz _ _ ?_; clear hKz Kz; (try simp only [nq, ↓reduceIte, Nat.reduceEqDiff])))
 | (refine Aqu ?_; (try simp only [nq, ↓reduceIte, Nat.reduceEqDiff]))
 | (refine Axr ?_; (try simp only [nq, ↓reduceIte, Nat.reduceEqDiff]))
 | (refine Axa ?_; (try simp only [nq, ↓reduceIte, Nat.reduceEqDiff]))
 | (refine Azb ?_; (try simp only [nq, ↓reduceIte, Nat.reduceEqDiff]))
 | (refine Axy (by simp only [Aqm, Aqr, Nat.reduceEqDiff, Nat.reduceLT, ↓reduceIte, *, -g, -yy]; rfl) ?_ ?_ <;> (intro hcz; first | (exfalso; simp -implicitDefEqProofs (disch := omega) only [*, -g, -yy, bq, reduceCtorEq] at hcz; done) | (simp only [dq, qe3, qe4, qe5, qe6] at hcz) | skip))
 | (refine Axq ?_)
 | (refine Aqo ?_)
 | (refine Aql ?_))
 (try (revert Kz; refine unK ?_)); (repeat (revert hcz; refine unC ?_))
 exact Hid.out g) : Hid p := ⟨h ⟨y⟩ ⟨g⟩⟩
theorem zS {Y p q : Prop} (y : Y) (g : q) (h : Hid Y -> Hid q -> p := by
 intro yy g
 repeat' (first
 | (refine Axn rfl ?_; intro Kz hKz; simp -implicitDefEqProofs (disch := first | omega | (simp only [qd] <;> omega)) only [xq, ↓xp, qc, Nat.reduceAdd, List.range, List.range.loop, fine, Nat.reduceEqDiff, ↓reduceIte, yielded, reduceCtorEq, Nat.reduceLT, Nat.reduceMul, Nat.reduceSub, one, Nat.reduceLeDiff, Aqa, yy.out, aq, ↓ap, qe0, qe1, qe2, *, -g, -yy, -hKz]; try (refine hKz _ _ ?_; clear hKz Kz))
 | (refine Axs rfl ?_; intro Kz hKz; simp -implicitDefEqProofs (disch := first | omega | (simp only [qd] <;> omega)) only [xq, ↓xp, qc, Nat.reduceAdd, List.range, List.range.loop, fine, Nat.reduceEqDiff, ↓reduceIte, yielded, reduceCtorEq, Nat.reduceLT, Nat.reduceMul, Nat.reduceSub, one, Nat.reduceLeDiff, Aqa, yy.out, aq, ↓ap, qe0, qe1, qe2, *, -g, -yy, -hKz]; try (refine hKz _ _ ?_; clear hKz Kz; (try simp only [nq, ↓reduceIte, Nat.reduceEqDiff])))
 | (refine Aqu ?_; (try simp only [nq, ↓reduceIte, Nat.reduceEqDiff]))
 | (refine Axr ?_; (try simp only [nq, ↓reduceIte, Nat.reduceEqDiff]))
 | (refine Axa ?_; (try simp only [nq, ↓reduceIte, Nat.reduceEqDiff]))
 | (refine Azb ?_; (try simp only [nq, ↓reduceIte, Nat.reduceEqDiff]))
 | (refine Axy (by simp only [Aqm, Aqr, Nat.reduceEqDiff, Nat.reduceLT, ↓reduceIte, *, -g, -yy]; rfl) ?_ ?_ <;> (intro hcz; first | (exfalso; simp -implicitDefEqProofs (disch := omega) only [*, -g, -yy, bq, reduceCtorEq] at hcz; done) | (simp only [dq, qe3, qe4, qe5, qe6] at hcz) | skip)))
 (try (revert Kz; refine unK ?_)); (repeat (revert hcz; refine unC ?_))
 exact Hid.out g) : Hid p := ⟨h ⟨y⟩ ⟨g⟩⟩
theorem zX {Y p q : Prop} (y : Y) (g : q) (h : Hid Y -> Hid q -> p := by
 intro yy g
 simp -implicitDefEqProofs (disch := first | omega | (simp only [qd] <;> omega)) only [xq, ↓xp, qc, Nat.reduceAdd, List.range, List.range.loop, fine, Nat.reduceEqDiff, ↓reduceIte, yielded, reduceCtorEq, Nat.reduceLT, Nat.reduceMul, Nat.reduceSub, one, Nat.reduceLeDiff, Aqa, yy.out, aq, ↓ap, qe0, qe1, qe2, *, -g, -yy, -hK]
 exact Hid.out g) : Hid p := ⟨h ⟨y⟩ ⟨g⟩⟩
theorem zAi {Y p q : Prop} (y : Y) (g : q) (h : Hid Y -> Hid q -> p := by
 intro yy g
 repeat' (first
 | (refine Axn rfl ?_; intro Kz hKz; simp -implicitDefEqProofs (disch := first | omega | (simp only [qd] <;> omega)) only [xq, ↓xp, qc, Nat.reduceAdd, List.range, List.range.loop, fine, Nat.reduceEqDiff, ↓reduceIte, yielded, reduceCtorEq, Nat.reduceLT, Nat.reduceMul, Nat.reduceSub, one, Nat.reduceLeDiff, Aqa, yy.out, ↓Axx, aq, ↓ap, qe0, qe1, qe2, *, -g, -yy, -hKz]; try (refine hKz _ _ ?_; clear hKz Kz))
 | (refine Axs rfl ?_; intro Kz hKz; simp -implicitDefEqProofs (disch := first | omega | (simp only [qd] <;> omega)) only [xq, ↓xp, qc, Nat.reduceAdd, List.range, List.range.loop, fine, Nat.reduceEqDiff, ↓reduceIte, yielded, reduceCtorEq, Nat.reduceLT, Nat.reduceMul, Nat.reduceSub, one, Nat.reduceLeDiff, Aqa, yy.out, ↓Axx, aq, ↓ap, qe0, qe1, qe2, *, -g, -yy, -hKz]; try (refine hKz _ _ ?_; clear hKz Kz; (try simp only [nq, ↓reduceIte, Nat.reduceEqDiff])))
 | (refine Aqu ?_; (try simp only [nq, ↓reduceIte, Nat.reduceEqDiff]))
 | (refine Axr ?_; (try simp only [nq, ↓reduceIte, Nat.reduceEqDiff]))
 | (refine Axa ?_; (try simp only [nq, ↓reduceIte, Nat.reduceEqDiff]))
 | (refine Azb ?_; (try simp only [nq, ↓reduceIte, Nat.reduceEqDiff]))
 | (refine Axy (by simp only [Aqm, Aqr, Nat.reduceEqDiff, Nat.reduceLT, ↓reduceIte, *, -g, -yy]; rfl) ?_ ?_ <;> (intro hcz; first | (exfalso; simp -implicitDefEqProofs (disch := omega) only [*, -g, -yy, bq, reduceCtorEq] at hcz; done) | (simp only [dq, qe3, qe4, qe5, qe6] at hcz) | skip))
 | (refine Axq ?_)
 | (refine Aqo ?_)
 | (refine Aql ?_))
 (try (revert Kz; refine unK ?_)); (repeat (revert hcz; refine unC ?_))
 exact Hid.out g) : Hid p := ⟨h ⟨y⟩ ⟨g⟩⟩
theorem zSi {Y p q : Prop} (y : Y) (g : q) (h : Hid Y -> Hid q -> p := by
 intro yy g
 repeat' (first
 | (refine Axn rfl ?_; intro Kz hKz; simp -implicitDefEqProofs (disch := first | omega | (simp only [qd] <;> omega)) only [xq, ↓xp, qc, Nat.reduceAdd, List.range, List.range.loop, fine, Nat.reduceEqDiff, ↓reduceIte, yielded, reduceCtorEq, Nat.reduceLT, Nat.reduceMul, Nat.reduceSub, one, Nat.reduceLeDiff, Aqa, yy.out, ↓Axx, aq, ↓ap, qe0, qe1, qe2, *, -g, -yy, -hKz]; try (refine hKz _ _ ?_; clear hKz Kz))
 | (refine Axs rfl ?_; intro Kz hKz; simp -implicitDefEqProofs (disch := first | omega | (simp only [qd] <;> omega)) only [xq, ↓xp, qc, Nat.reduceAdd, List.range, List.range.loop, fine, Nat.reduceEqDiff, ↓reduceIte, yielded, reduceCtorEq, Nat.reduceLT, Nat.reduceMul, Nat.reduceSub, one, Nat.reduceLeDiff, Aqa, yy.out, ↓Axx, aq, ↓ap, qe0, qe1, qe2, *, -g, -yy, -hKz]; try (refine hKz _ _ ?_; clear hKz Kz; (try simp only [nq, ↓reduceIte, Nat.reduceEqDiff])))
 | (refine Aqu ?_; (try simp only [nq, ↓reduceIte, Nat.reduceEqDiff]))
 | (refine Axr ?_; (try simp only [nq, ↓reduceIte, Nat.reduceEqDiff]))
 | (refine Axa ?_; (try simp only [nq, ↓reduceIte, Nat.reduceEqDiff]))
 | (refine Azb ?_; (try simp only [nq, ↓reduceIte, Nat.reduceEqDiff]))
 | (refine Axy (by simp only [Aqm, Aqr, Nat.reduceEqDiff, Nat.reduceLT, ↓reduceIte, *, -g, -yy]; rfl) ?_ ?_ <;> (intro hcz; first | (exfalso; simp -implicitDefEqProofs (disch := omega) only [*, -g, -yy, bq, reduceCtorEq] at hcz; done) | (simp only [dq, qe3, qe4, qe5, qe6] at hcz) | skip)))
 (try (revert Kz; refine unK ?_)); (repeat (revert hcz; refine unC ?_))
 exact Hid.out g) : Hid p := ⟨h ⟨y⟩ ⟨g⟩⟩
theorem zXi {Y p q : Prop} (y : Y) (g : q) (h : Hid Y -> Hid q -> p := by
 intro yy g
 simp -implicitDefEqProofs (disch := first | omega | (simp only [qd] <;> omega)) only [xq, ↓xp, qc, Nat.reduceAdd, List.range, List.range.loop, fine, Nat.reduceEqDiff, ↓reduceIte, yielded, reduceCtorEq, Nat.reduceLT, Nat.reduceMul, Nat.reduceSub, one, Nat.reduceLeDiff, Aqa, yy.out, ↓Axx, aq, ↓ap, qe0, qe1, qe2, *, -g, -yy, -hK]
 exact Hid.out g) : Hid p := ⟨h ⟨y⟩ ⟨g⟩⟩
theorem z0 {Y p q : Prop} (y : Y) (g : q) (h : Hid Y -> Hid q -> p := by
 intro yy g
 simp -implicitDefEqProofs (disch := first | omega | (simp only [qd] <;> omega)) only [xq, ↓xp, qc, Nat.reduceAdd, List.range, List.range.loop, fine, Nat.reduceEqDiff, ↓reduceIte, yielded, reduceCtorEq, Nat.reduceLT, Nat.reduceMul, Nat.reduceSub, one, Nat.reduceLeDiff, Aqa, yy.out]
 exact Hid.out g) : Hid p := ⟨h ⟨y⟩ ⟨g⟩⟩
theorem z1 {Y p q : Prop} (y : Y) (g : q) (h : Hid Y -> Hid q -> p := by
 intro yy g
 (refine Axh ?_; intro K hK; simp -implicitDefEqProofs (disch := first | omega | (simp only [qd] <;> omega)) only [xq, ↓xp, qc, Nat.reduceAdd, List.range, List.range.loop, fine, Nat.reduceEqDiff, ↓reduceIte, yielded, reduceCtorEq, Nat.reduceLT, Nat.reduceMul, Nat.reduceSub, one, Nat.reduceLeDiff, Aqa, yy.out]; refine hK _ _ ?_; clear hK K)
 exact Hid.out g) : Hid p := ⟨h ⟨y⟩ ⟨g⟩⟩
theorem z2 {Y p q : Prop} (y : Y) (g : q) (h : Hid Y -> Hid q -> p := by
 intro yy g
 (refine Ajd ?_; intro K hK; simp -implicitDefEqProofs (disch := first | omega | (simp only [qd] <;> omega)) only [xq, ↓xp, qc, Nat.reduceAdd, List.range, List.range.loop, fine, Nat.reduceEqDiff, ↓reduceIte, yielded, reduceCtorEq, Nat.reduceLT, Nat.reduceMul, Nat.reduceSub, one, Nat.reduceLeDiff, Aqa, yy.out]; refine hK _ _ ?_; clear hK K)
 exact Hid.out g) : Hid p := ⟨h ⟨y⟩ ⟨g⟩⟩
theorem z3 {Y p q : Prop} (y : Y) (g : q) (h : Hid Y -> Hid q -> p := by
 intro yy g
 (apply Axc rfl rfl rfl; (focus (simp -implicitDefEqProofs (disch := first | omega | (simp only [qd] <;> omega)) only [xq, ↓xp, qc, Nat.reduceAdd, List.range, List.range.loop, fine, Nat.reduceEqDiff, ↓reduceIte, yielded, reduceCtorEq, Nat.reduceLT, Nat.reduceMul, Nat.reduceSub, one, Nat.reduceLeDiff, Aqa, yy.out, aq, ↓ap, qe0, qe1, qe2, *, -g, -yy, -hK, Aq0] <;> (first | exact rfl | exact ⟨rfl, rfl⟩ | exact ⟨rfl, trivial⟩))); simp -implicitDefEqProofs (disch := first | omega | (simp only [qd] <;> omega)) only [Aqn, Aqc])
 exact Hid.out g) : Hid p := ⟨h ⟨y⟩ ⟨g⟩⟩
theorem z3i {Y p q : Prop} (y : Y) (g : q) (h : Hid Y -> Hid q -> p := by
 intro yy g
 (apply Axc rfl rfl rfl; (focus (simp -implicitDefEqProofs (disch := first | omega | (simp only [qd] <;> omega)) only [xq, ↓xp, qc, Nat.reduceAdd, List.range, List.range.loop, fine, Nat.reduceEqDiff, ↓reduceIte, yielded, reduceCtorEq, Nat.reduceLT, Nat.reduceMul, Nat.reduceSub, one, Nat.reduceLeDiff, Aqa, yy.out, ↓Axx, aq, ↓ap, qe0, qe1, qe2, *, -g, -yy, -hK, Aq0] <;> (first | exact rfl | exact ⟨rfl, rfl⟩ | exact ⟨rfl, trivial⟩))); simp -implicitDefEqProofs (disch := first | omega | (simp only [qd] <;> omega)) only [Aqn, Aqc])
 exact Hid.out g) : Hid p := ⟨h ⟨y⟩ ⟨g⟩⟩
theorem z5i {Y p q : Prop} (y : Y) (g : q) (h : Hid Y -> Hid q -> p := by
 intro yy g
 (apply Avt rfl rfl rfl ‹_›; (focus (intro HX hHX; simp -implicitDefEqProofs (disch := first | omega | (simp only [qd] <;> omega)) only [xq, ↓xp, qc, Nat.reduceAdd, List.range, List.range.loop, fine, Nat.reduceEqDiff, ↓reduceIte, yielded, reduceCtorEq, Nat.reduceLT, Nat.reduceMul, Nat.reduceSub, one, Nat.reduceLeDiff, Aqa, yy.out, ↓Axx, aq, ↓ap, qe0, qe1, qe2, *, -g, -yy, -hK, Aq0] <;> (first | exact rfl | exact ⟨rfl, rfl⟩ | exact ⟨rfl, trivial⟩))); simp -implicitDefEqProofs (disch := first | omega | (simp only [qd] <;> omega)) only [Aqn, Aqc])
 exact Hid.out g) : Hid p := ⟨h ⟨y⟩ ⟨g⟩⟩
theorem z6i {Y p q : Prop} (y : Y) (g : q) (h : Hid Y -> Hid q -> p := by
 intro yy g
 (apply Axc rfl (by simp -implicitDefEqProofs (disch := omega) only [Ak3, Avh, Bxl, List.getElem?_cons_succ, List.getElem?_cons_zero, Option.bind_some, act_get?, Aqr, Nat.reduceEqDiff, ↓reduceIte, beq_self_eq_true, *, -g, -yy]) rfl; (focus (simp -implicitDefEqProofs (disch := first | omega | (simp only [qd] <;> omega)) only [xq, ↓xp, qc, Nat.reduceAdd, List.range, List.range.loop, fine, Nat.reduceEqDiff, ↓reduceIte, yielded, reduceCtorEq, Nat.reduceLT, Nat.reduceMul, Nat.reduceSub, one, Nat.reduceLeDiff, Aqa, yy.out, ↓Axx, aq, ↓ap, qe0, qe1, qe2, *, -g, -yy, -hK, Aq0] <;> (first | exact rfl | exact ⟨rfl, rfl⟩ | exact ⟨rfl, trivial⟩))); simp -implicitDefEqProofs (disch := first | omega | (simp only [qd] <;> omega)) only [Aqn, Aqc])
 exact Hid.out g) : Hid p := ⟨h ⟨y⟩ ⟨g⟩⟩
theorem z7 {Y p q : Prop} (y : Y) (g : q) (h : Hid Y -> Hid q -> p := by
 intro yy g
 simp -implicitDefEqProofs (disch := first | omega | (simp only [qd] <;> omega)) only [xq, ↓xp, qc, Nat.reduceAdd, List.range, List.range.loop, fine, Nat.reduceEqDiff, ↓reduceIte, yielded, reduceCtorEq, Nat.reduceLT, Nat.reduceMul, Nat.reduceSub, one, Nat.reduceLeDiff, Aqa, yy.out, aq, ↓ap, qe0, qe1, qe2, *, -g, -yy]
 exact Hid.out g) : Hid p := ⟨h ⟨y⟩ ⟨g⟩⟩
theorem z8 {Y p q : Prop} (y : Y) (g : q) (h : Hid Y -> Hid q -> p := by
 intro yy g
 (refine Axh ?_; intro Kz hKz; simp -implicitDefEqProofs (disch := first | omega | (simp only [qd] <;> omega)) only [xq, ↓xp, qc, Nat.reduceAdd, List.range, List.range.loop, fine, Nat.reduceEqDiff, ↓reduceIte, yielded, reduceCtorEq, Nat.reduceLT, Nat.reduceMul, Nat.reduceSub, one, Nat.reduceLeDiff, Aqa, yy.out])
 (try (revert Kz; refine unK ?_)); (repeat (revert hcz; refine unC ?_))
 exact Hid.out g) : Hid p := ⟨h ⟨y⟩ ⟨g⟩⟩
theorem z9 {Y p q : Prop} (y : Y) (g : q) (h : Hid Y -> Hid q -> p := by
 intro yy g
 (refine Ax7 ?_; (try simp only [nq, ↓reduceIte, Nat.reduceEqDiff]); rw [Axw, Akz yy.out (by decide)]; simp only [Aqr, Nat.reduceEqDiff, ↓reduceIte])
 exact Hid.out g) : Hid p := ⟨h ⟨y⟩ ⟨g⟩⟩
theorem zB {Y p q : Prop} (y : Y) (g : q) (h : Hid Y -> Hid q -> p := by
 intro yy g
 (refine Ax7 ?_; (try simp only [nq, ↓reduceIte, Nat.reduceEqDiff]); rw [Axw, Akc yy.out (by decide) (by decide)]; simp only [Aqr, Nat.reduceEqDiff, ↓reduceIte])
 exact Hid.out g) : Hid p := ⟨h ⟨y⟩ ⟨g⟩⟩
theorem zC {Y p q : Prop} (y : Y) (g : q) (h : Hid Y -> Hid q -> p := by
 intro yy g
 (refine Ax7 ?_; (try simp only [nq, ↓reduceIte, Nat.reduceEqDiff]); rw [Axw, Bq9 yy.out (by decide) (by decide) (by decide)]; simp only [Aqr, Nat.reduceEqDiff, ↓reduceIte])
 exact Hid.out g) : Hid p := ⟨h ⟨y⟩ ⟨g⟩⟩
theorem zD {Y p q : Prop} (y : Y) (g : q) (h : Hid Y -> Hid q -> p := by
 intro yy g
 ((try simp only [nq, ↓reduceIte, Nat.reduceEqDiff]); rw [Bwh, Aw5 yy.out])
 exact Hid.out g) : Hid p := ⟨h ⟨y⟩ ⟨g⟩⟩
theorem zE {Y p q : Prop} (y : Y) (g : q) (h : Hid Y -> Hid q -> p := by
 intro yy g
 (refine Ajk ?_; simp -implicitDefEqProofs (disch := first | omega | (simp only [qd] <;> omega)) only [xq, ↓xp, qc, Nat.reduceAdd, List.range, List.range.loop, fine, Nat.reduceEqDiff, ↓reduceIte, yielded, reduceCtorEq, Nat.reduceLT, Nat.reduceMul, Nat.reduceSub, one, Nat.reduceLeDiff, Aqa, yy.out])
 exact Hid.out g) : Hid p := ⟨h ⟨y⟩ ⟨g⟩⟩
end Go.X
end
section
namespace Go.Proofs.YtgniilnljeedlaaGreatDoor
open Go Go.X
def Bkr := And.intro @Dxy (And.intro (fun H => Bk9 (H := H) Tryz.underlying3 Tryz.underlying74) (fun H => Bk9 (H := H) Tryz.underlying74 Tryz.underlying3))
def Ay1 := And.intro (fun H => Aqh (H := H) Tryz.underlying76 (i := 1) rfl (off := 1) rfl Tryz.sizeOf3) (And.intro (fun H => Aqd (H := H) Tryz.underlying3 rfl) (And.intro (fun H => Bk9 (H := H) Tryz.underlying3 Tryz.underlying74) (And.intro (fun H => Aqh (H := H) Tryz.underlying76 (i := 0) rfl (off := 0) rfl Tryz.sizeOf22) (And.intro (fun H => Aqd (H := H) Tryz.underlying22 rfl) (And.intro (fun H => Aq5 (H := H) Tryz.underlying22) (And.intro (fun H => Aqq (H := H) Tryz.underlying22 Tryz.sizeOf3) (And.intro (fun H => Axo (H := H) Tryz.sizeOf3) (And.intro (fun H => Aqh (H := H) Tryz.underlying76 (i := 2) rfl (off := 2) rfl Tryz.sizeOf74) (And.intro (fun H => Aqd (H := H) Tryz.underlying74 rfl) (fun H => Axo (H := H) Tryz.sizeOf74))))))))))
def Cwl := @Bxq
def Cq6 := @Bxq
def TinI (H : Hp) (b k : Nat) : Prop :=
 ∃ (sa : Option Addr) (sl sc : Nat) (g st : Int), H b = some (true, .cells #[.slice sa sl sc, .int .i64 g, .int .u64 st] 76 (0, 0)) /\ 0 <= g /\ g + k <= 4611686018427387904 /\
  ∀ i : Nat, i < sl -> ∃ sb so c e fr x, sa = some ⟨sb, so, none⟩ /\ H sb = some (false, .cells c e fr) /\ c[so + i]? = some (.int .i64 x)
theorem TinI.new {H : Hp} {b k b2 : Nat} {o : Obj} (h : TinI H b k) (hb : H b2 = none) : TinI (H.set b2 o) b k := by
 obtain ⟨sa, sl, sc, g, st, h1, h2, h3, h4⟩ := h
 refine ⟨sa, sl, sc, g, st, Hp.le_set hb _ _ h1, h2, h3, fun i hi => ?_⟩
 obtain ⟨sb, so, c, e, fr, x, ha, hs, hx⟩ := h4 i hi
 exact ⟨sb, so, c, e, fr, x, ha, Hp.le_set hb _ _ hs, hx⟩
theorem TinI.own {H : Hp} {b k b2 : Nat} {o o' : Obj} (h : TinI H b k) (hb : H b2 = some (true, o)) (hn : b ≠ b2) : TinI (H.set b2 o') b k := by
 obtain ⟨sa, sl, sc, g, st, h1, h2, h3, h4⟩ := h
 refine ⟨sa, sl, sc, g, st, by rw [Axm, if_neg hn]; exact h1, h2, h3, fun i hi => ?_⟩
 obtain ⟨sb, so, c, e, fr, x, ha, hs, hx⟩ := h4 i hi
 exact ⟨sb, so, c, e, fr, x, ha, by rw [Axm, if_neg (fun e => by subst e; rw [hb] at hs; cases hs)]; exact hs, hx⟩
theorem TinI.less {H : Hp} {b k k' : Nat} (h : TinI H b k) (hk : k' <= k) : TinI H b k' := by
 obtain ⟨sa, sl, sc, g, st, h1, h2, h3, h4⟩ := h
 exact ⟨sa, sl, sc, g, st, h1, h2, by omega, h4⟩
theorem Cv7 (n : Int) : 0 <= IntKind.u64.wrap n /\ IntKind.u64.wrap n < 18446744073709551616 := by
 unfold IntKind.wrap
 simp only [IntKind.bits, IntKind.signed, Bool.false_and, Bool.false_eq_true, if_false]
 omega
theorem shr9 (x : Int) (h : 0 <= x) (h' : x < 18446744073709551616) : 0 <= x.fdiv (2 ^ (min (9 : Int).toNat IntKind.u64.bits)) /\ x.fdiv (2 ^ (min (9 : Int).toNat IntKind.u64.bits)) < 36028797018963968 := by
 have e : (2 : Int) ^ (min (9 : Int).toNat IntKind.u64.bits) = 512 := rfl
 rw [e, Int.fdiv_eq_ediv_of_nonneg _ (by omega)]
 omega
theorem Bzk (f : (n : Nat) -> BitVec n -> BitVec n -> BitVec n) (x y : Int) : 0 <= bitv f .u64 x y /\ bitv f .u64 x y < 18446744073709551616 := Cv7 _
theorem Cvi (m : Md) (H : Hp) (b k : Nat) (hT : TinI H b (k + 1)) :
  FnX Tryz.prog m 90 #[.pointer (some ⟨b, 0, none⟩)] H fun e H' => ∃ v : Int, 0 <= v /\ v < 36028797018963968 /\ e = .returned (.int .u64 v) /\ ∃ o, H' = H.set b o /\ TinI H' b k := by
 obtain ⟨sa, sl, sc, g, st, hb, hg, hg', hs⟩ := hT
 refine Aqk Tryz.func90 rfl Tryz.ntmps90 (by simp) ?_
 (refine @unH _ ?_; refine z1 Ay1 ?_)
 (refine Axh ?_; intro K hK; simp -implicitDefEqProofs (disch := first | omega | (simp only [qd] <;> omega)) only [xq, ↓xp, qc, Nat.reduceAdd, List.range, List.range.loop, fine, Nat.reduceEqDiff, ↓reduceIte, yielded, reduceCtorEq, Nat.reduceLT, Nat.reduceMul, Nat.reduceSub, one, Nat.reduceLeDiff, Aqa, Ay1, cell_of hb, exists_eq_left']; refine hK _ _ ?_; clear hK K)
 refine Akf (fun a' H' => ∃ e x, a' = act 76 e [] /\ H' = H /\ e 0 = .pointer (some ⟨b, 0, none⟩) /\ e 3 = .int .u64 x) ?_ ?_
 ·refine Akj 10 [(true, 0), (true, 1), (true, 2), (true, 3), (true, 4), (true, 5), (true, 6), (true, 7), (true, 8), (true, 9)] (by kernel_rfl) (by kernel_rfl) (by simp) (by kernel_rfl) ?_; intro K hK
  iterate 10 (apply Axc rfl rfl rfl; (focus (simp -implicitDefEqProofs (disch := first | omega | (simp only [qd] <;> omega)) only [xq, ↓xp, qc, Nat.reduceAdd, List.range, List.range.loop, fine, Nat.reduceEqDiff, ↓reduceIte, yielded, reduceCtorEq, Nat.reduceLT, Nat.reduceMul, Nat.reduceSub, one, Nat.reduceLeDiff, Aqa, Ay1, cell_of hb, exists_eq_left', and_true, true_and] <;> (first | exact rfl | exact ⟨rfl, rfl⟩))); simp -implicitDefEqProofs (disch := first | omega | (simp only [qd] <;> omega)) only [Aqn, Aqc])
  refine Ax1 (hK _ _ ?_); clear hK K
  refine Aq9 (by simp -implicitDefEqProofs (disch := first | omega | (simp only [qd] <;> omega)) only [Aqm, Aqr, Nat.reduceEqDiff, ↓reduceIte]; rfl) ?_
  by_cases hlt : g < sl
  ·simp only [hlt, decide_true, if_true]
   obtain ⟨sb, so, c, e, fr, x, rfl, hsb, hcx⟩ := hs g.toNat (by omega)
   have hcx' : c[so + g.toNat * 1]? = some (.int .i64 x) := by simpa using hcx
   refine Az2 15 [(true, 0), (true, 1), (true, 2), (true, 3), (true, 4), (true, 5), (true, 6), (true, 7), (true, 8), (true, 9), (true, 10), (true, 11), (true, 12), (true, 13), (true, 14)] (by kernel_rfl) (by kernel_rfl) (by simp) (by kernel_rfl) ?_; intro K hK
   iterate 15 (apply Axc rfl rfl rfl; (focus (simp -implicitDefEqProofs (disch := first | omega | (simp only [qd] <;> omega)) only [xq, ↓xp, qc, Nat.reduceAdd, List.range, List.range.loop, fine, Nat.reduceEqDiff, ↓reduceIte, yielded, reduceCtorEq, Nat.reduceLT, Nat.reduceMul, Nat.reduceSub, one, Nat.reduceLeDiff, Aqa, Ay1, cell_of hb, cell_of hsb, hcx', exists_eq_left', and_true, true_and] <;> (first | exact rfl | exact ⟨rfl, rfl⟩))); simp -implicitDefEqProofs (disch := first | omega | (simp only [qd] <;> omega)) only [Aqn, Aqc])
   refine Ax1 (hK _ _ ?_); clear hK K
   exact ⟨_, _, rfl, rfl, rfl, rfl⟩
  ·simp only [hlt, decide_false, Bool.false_eq_true, if_false]
   exact Aqu ⟨_, _, rfl, rfl, rfl, rfl⟩
 ·rintro a' H' ⟨e, x, rfl, rfl, h0, h3⟩
  (refine Axh ?_; intro K hK; simp -implicitDefEqProofs (disch := first | omega | (simp only [qd] <;> omega)) only [xq, ↓xp, qc, Nat.reduceAdd, List.range, List.range.loop, fine, Nat.reduceEqDiff, ↓reduceIte, yielded, reduceCtorEq, Nat.reduceLT, Nat.reduceMul, Nat.reduceSub, one, Nat.reduceLeDiff, Aqa, Ay1, h0, h3, cell_of hb, exists_eq_left', Awd hb, true_and]; refine hK _ _ ?_; clear hK K)
  (refine @unH _ ?_; refine z1 (And.intro Ay1 (And.intro @h0 (And.intro @h3 (And.intro @exists_eq_left'.{1} @true_and)))) ?_)
  refine Akj 13 [(true, 0), (true, 1), (true, 2), (true, 3), (true, 4), (true, 5), (true, 6), (true, 7), (true, 8), (true, 9), (true, 10), (true, 11), (true, 12), (false, 13)] (by kernel_rfl) (by kernel_rfl) (by simp) (by kernel_rfl) ?_; intro K hK
  iterate 13 (apply Axc rfl rfl rfl; (focus (simp -implicitDefEqProofs (disch := first | omega | (simp only [qd] <;> omega)) only [xq, ↓xp, qc, Nat.reduceAdd, List.range, List.range.loop, fine, Nat.reduceEqDiff, ↓reduceIte, yielded, reduceCtorEq, Nat.reduceLT, Nat.reduceMul, Nat.reduceSub, one, Nat.reduceLeDiff, Aqa, Ay1, h0, h3, exists_eq_left', and_true, true_and] <;> (first | exact rfl | exact ⟨rfl, rfl⟩))); simp -implicitDefEqProofs (disch := first | omega | (simp only [qd] <;> omega)) only [Aqn, Aqc])
  refine Ajw ?_
  (refine @unH _ ?_; refine z0 (And.intro Ay1 (And.intro @h0 (And.intro @h3 (And.intro @exists_eq_left'.{1} @true_and)))) ?_)
  refine hK _ _ ?_; clear hK K
  (refine @unH _ ?_; refine z1 (And.intro Ay1 (And.intro @h0 (And.intro @h3 (And.intro @exists_eq_left'.{1} @true_and)))) ?_)
  (refine @unH _ ?_; refine z1 (And.intro Ay1 (And.intro @h0 (And.intro @h3 (And.intro @exists_eq_left'.{1} @true_and)))) ?_)
  (refine @unH _ ?_; refine z9 Tryz.results90 ?_)
  refine ⟨_, (shr9 _ (Bzk _ _ _).1 (Bzk _ _ _).2).1, (shr9 _ (Bzk _ _ _).1 (Bzk _ _ _).2).2, rfl, _, rfl, ?_⟩
  refine ⟨sa, sl, sc, g + 1, _, by rw [Axm, if_pos rfl], by omega, by omega, fun i hi => ?_⟩
  obtain ⟨sb, so, c, e', fr, x', h1, h2, h4⟩ := hs i hi
  exact ⟨sb, so, c, e', fr, x', h1, by rw [Axm, if_neg (fun h => by subst h; rw [hb] at h2; cases h2)]; exact h2, h4⟩
theorem Ayb (m : Md) (H : Hp) (b k : Nat) (n : Int) (hn : n < 36028797018963967) (hT : TinI H b (k + 1)) :
  FnX Tryz.prog m 41 #[.pointer (some ⟨b, 0, none⟩), .int .i64 n] H fun e H' => ∃ r : Int, 0 <= r /\ (r <= n ∨ r = 0) /\ e = .returned (.int .i64 r) /\ ∃ o, H' = H.set b o /\ TinI H' b k := by
 refine Aqk Tryz.func41 rfl Tryz.ntmps41 (by simp) ?_
 (refine @unH _ ?_; refine z1 Bkr ?_)
 (refine @unH _ ?_; refine z8 Bkr ?_; try (refine inK ?_; intro K hK))
 refine (Cvi m H b k hT).runs.mono ?_; rintro _ _ ⟨v, hv0, hv1, rfl, o, rfl, hT'⟩; simp -implicitDefEqProofs (disch := first | omega | (simp only [qd] <;> omega)) only [xq, ↓xp, qc, Nat.reduceAdd, List.range, List.range.loop, fine, Nat.reduceEqDiff, ↓reduceIte, yielded, reduceCtorEq, Nat.reduceLT, Nat.reduceMul, Nat.reduceSub, one, Nat.reduceLeDiff, Aqa, Bkr]
 refine hK _ _ ?_; clear hK K
 refine Akf (fun a' H' => ∃ e, 1 <= n /\ a' = act 16 e [] /\ H' = H.set b o /\ e 1 = .int .i64 n /\ e 5 = .int .u64 v) ?_ ?_
 ·(refine @unH _ ?_; refine z1 Bkr ?_)
  refine Aq9 (by simp -implicitDefEqProofs (disch := first | omega | (simp only [qd] <;> omega)) only [Aqm, Aqr, Nat.reduceEqDiff, ↓reduceIte]; rfl) ?_
  by_cases h : n < 1
  ·simp only [h, decide_true, if_true]
   (refine @unH _ ?_; refine z1 Bkr ?_)
   refine Ax7 ?_
   simp only [thn]
   rw [Axw, Akz Tryz.results41 (by decide)]
   exact ⟨0, by omega, .inr rfl, rfl, o, rfl, hT'⟩
  ·simp only [h, decide_false, Bool.false_eq_true, if_false]
   exact Aqu ⟨_, by omega, rfl, rfl, rfl, rfl⟩
 ·rintro a' H' ⟨e, h1, rfl, rfl, e1, e5⟩
  have hw : IntKind.u64.wrap n = n := IntWalk.u64_in n (by omega)
  have hw' : IntKind.u64.wrap (n + 1) = n + 1 := IntWalk.u64_in _ (by omega)
  have hm : v.tmod (n + 1) = v % (n + 1) := Int.tmod_eq_emod_of_nonneg hv0
  have hr0 := Int.emod_nonneg v (show n + 1 ≠ 0 by omega)
  have hr1 := Int.emod_lt_of_pos v (show 0 < n + 1 by omega)
  have hw2 : IntKind.i64.wrap (v % (n + 1)) = v % (n + 1) := IntWalk.i64_in _ (by omega)
  (refine @unH _ ?_; refine z1 (And.intro Bkr (And.intro @e1 (And.intro @e5 (And.intro @hw (And.intro @hw' (And.intro @hm @hw2)))))) ?_)
  (refine @unH _ ?_; refine z9 Tryz.results41 ?_)
  exact ⟨_, hr0, .inl (by omega), rfl, o, rfl, hT'⟩
theorem Cq3 (m : Md) (H : Hp) (b k : Nat) (lo hi : Int) (h0 : -1000000 <= lo) (h1 : lo <= 1000000) (h2 : -1000000 <= hi) (h3 : hi <= 1000000) (hT : TinI H b (k + 1)) :
  FnX Tryz.prog m 93 #[.pointer (some ⟨b, 0, none⟩), .int .i64 lo, .int .i64 hi] H fun e H' => ∃ r : Int, lo <= r /\ (r <= hi ∨ r = lo) /\ e = .returned (.int .i64 r) /\ ∃ o, H' = H.set b o /\ TinI H' b k := by
 refine Aqk Tryz.func93 rfl Tryz.ntmps93 (by simp) ?_
 (refine @unH _ ?_; refine z1 @Cwl ?_)
 (refine @unH _ ?_; refine z8 @Cwl ?_; try (refine inK ?_; intro K hK))
 refine (Ayb m H b k (hi - lo) (by omega) hT).runs.mono ?_
 rintro _ _ ⟨r, hr0, hr1, rfl, o, rfl, hT'⟩
 have hr2 : r <= 2000000 := by omega
 (refine @unH _ ?_; refine z0 @Cwl ?_)
 refine hK _ _ ?_; clear hK K
 (refine @unH _ ?_; refine z9 Tryz.results93 ?_)
 exact ⟨_, by omega, by omega, rfl, o, rfl, hT'⟩
theorem Cqu (m : Md) (H : Hp) (b k : Nat) (n : Int) (h0 : -1000000 <= n) (h1 : n <= 1000000) (hT : TinI H b (k + 1)) :
  FnX Tryz.prog m 121 #[.pointer (some ⟨b, 0, none⟩), .int .i64 n] H fun e H' => ∃ r : Bool, e = .returned (.bool r) /\ ∃ o, H' = H.set b o /\ TinI H' b k := by
 refine Aqk Tryz.func121 rfl Tryz.ntmps121 (by simp) ?_
 (refine @unH _ ?_; refine z1 @Cq6 ?_)
 (refine @unH _ ?_; refine z8 @Cq6 ?_; try (refine inK ?_; intro K hK))
 refine (Ayb m H b k (n - 1) (by omega) hT).runs.mono ?_; rintro _ _ ⟨r, hr0, hr1, rfl, o, rfl, hT'⟩; simp -implicitDefEqProofs (disch := first | omega | (simp only [qd] <;> omega)) only [xq, ↓xp, qc, Nat.reduceAdd, List.range, List.range.loop, fine, Nat.reduceEqDiff, ↓reduceIte, yielded, reduceCtorEq, Nat.reduceLT, Nat.reduceMul, Nat.reduceSub, one, Nat.reduceLeDiff, Aqa, Cq6]
 refine hK _ _ ?_; clear hK K
 (refine @unH _ ?_; refine z9 Tryz.results121 ?_)
 exact ⟨_, rfl, o, rfl, hT'⟩
def Cwk := And.intro (fun H => Aq5 (H := H) Tryz.underlying22) (And.intro @Bxq (And.intro (fun H => Aqq (H := H) Tryz.underlying22 Tryz.sizeOf3) (fun H => Aqd (H := H) Tryz.underlying3 rfl)))
def SlI (H : Hp) (v : Value) (xs : List Int) : Prop :=
 ∃ (a : Option Addr) (cap : Nat), v = .slice a xs.length cap /\ xs.length <= cap /\ ∀ (i : Nat) (x : Int), xs[i]? = some x -> ∃ (b o : Nat) (p : Bool) (c : Array Value) (fr : Nat × Nat), a = some ⟨b, o, none⟩ /\ H b = some (p, .cells c 3 fr) /\ c[o + i]? = some (.int .i64 x)
theorem SlI.le {H H' : Hp} {v : Value} {xs : List Int} (h : SlI H v xs) (hl : H.le H') : SlI H' v xs := by
 obtain ⟨a, cap, hv, hc, h⟩ := h
 refine ⟨a, cap, hv, hc, fun i x hi => ?_⟩
 obtain ⟨b, o, p, c, fr, ha, hb, hx⟩ := h i x hi
 exact ⟨b, o, p, c, fr, ha, hl _ _ hb, hx⟩
theorem SlI.set {H : Hp} {v : Value} {xs : List Int} (h : SlI H v xs) {b : Nat} {o : Obj} (hb : ∀ p c fr, H b ≠ some (p, .cells c 3 fr)) : SlI (H.set b o) v xs := by
 obtain ⟨a, cap, hv, hc, h⟩ := h
 refine ⟨a, cap, hv, hc, fun i x hi => ?_⟩
 obtain ⟨b', o', p, c, fr, ha, hb', hx⟩ := h i x hi
 refine ⟨b', o', p, c, fr, ha, ?_, hx⟩
 rw [Axm, if_neg (fun e => hb p c fr (by rw [<- e]; exact hb'))]
 exact hb'
theorem SlI.nil (H : Hp) (a : Option Addr) (cap : Nat) : SlI H (.slice a 0 cap) [] := ⟨a, cap, rfl, Nat.zero_le _, fun i x hi => by simp at hi⟩
theorem SlI.cons {H : Hp} {v : Value} {xs : List Int} (h : SlI H v xs) (hx : xs ≠ []) : ∃ (b o cap : Nat) (p : Bool) (c : Array Value) (fr : Nat × Nat), v = .slice (some ⟨b, o, none⟩) xs.length cap /\ xs.length <= cap /\ H b = some (p, .cells c 3 fr) /\ ∀ (i : Nat) (x : Int), xs[i]? = some x -> c[o + i]? = some (.int .i64 x) := by
 obtain ⟨a, cap, hv, hc, h⟩ := h
 cases xs with
 | nil => exact absurd rfl hx
 | cons y ys =>
  obtain ⟨b, o, p, c, fr, rfl, hb, _⟩ := h 0 y rfl
  refine ⟨b, o, cap, p, c, fr, hv, hc, hb, fun i x hi => ?_⟩
  obtain ⟨b', o', p', c', fr', ha, hb', hx'⟩ := h i x hi
  simp only [Option.some.injEq, Addr.mk.injEq] at ha
  obtain ⟨rfl, rfl, _⟩ := ha
  rw [hb] at hb'
  simp only [Option.some.injEq, Prod.mk.injEq, Obj.cells.injEq] at hb'
  obtain ⟨_, rfl, _⟩ := hb'
  exact hx'
def ints (xs : List Int) : List Value := xs.map (Value.int .i64)
theorem Ajv {xs : List Int} {i : Nat} {x : Int} (h : xs[i]? = some x) : (ints xs)[i]? = some (.int .i64 x) := by simp [ints, h]
theorem Cxv (xs ys : List Int) : ints (xs ++ ys) = ints xs ++ ints ys := by simp [ints]
theorem Aq7 (xs : List Int) : (ints xs).length = xs.length := by simp [ints]
theorem Bzr (xs : List Int) : ∀ u ∈ ints xs, one u = true := fun u hu => by
 simp only [ints, List.mem_map] at hu
 obtain ⟨x, _, rfl⟩ := hu
 rfl
theorem SlI.row {H₀ H : Hp} {v : Value} {n : Nat} {xs : List Int} (h : Aj3 H₀ H v 3 1 n (ints xs)) : SlI H v xs := by
 have hl := h.len
 rw [Aq7, Nat.mul_one] at hl
 rcases h with ⟨rfl, rfl, hx, _⟩ | ⟨b, c, cap, hb, rfl, rfl, _, _, hc, hget⟩
 ·have : xs = [] := by simpa [ints] using hx
  subst this
  exact SlI.nil _ _ _
 ·refine ⟨_, cap, by rw [hl], by omega, fun i x hi => ⟨b, 0, true, c, (0, 0), rfl, by simp [Axm], ?_⟩⟩
  rw [Nat.zero_add]
  exact hget i _ (Ajv hi)
theorem Ajo {H₀ H : Hp} {v : Value} {n : Nat} {xs : List Int} (hrow : Aj3 H₀ H v 3 1 n (ints xs)) {Hx : Hp} (hx : H.le Hx) {g o m cap : Nat} {ys : List Int} (hm : ys.length = m)
  (hg : H₀ g = none -> H g = none) (hys : ∀ (j : Nat) (y : Int), ys[j]? = some y -> Hx.cell ⟨g, o + j, none⟩ = some (.int .i64 y)) (hn : n + m <= 1073741824)
  (ty : TypeId) (cb : Array Bool) (K : Next -> Hp -> Prop) (E : Value -> Hp -> Prop)
  (h : ∀ v' H' H'', Aj3 H₀ H' v' 3 1 (n + m) (ints (xs ++ ys)) -> H'.le H'' -> K (.value v') H'') :
  wpS Tryz.prog (builtin .append #[22, 22] ty cb #[v, .slice (some ⟨g, o, none⟩) m cap]) Hx K E := by
 refine Avl Tryz.underlying22 Tryz.sizeOf3 Tryz.zeroValue3 rfl Tryz.typeInfo3 (by decide) (by decide) hrow hx (news := ints ys) (by rw [Aq7, hm, Nat.mul_one]) hg (fun j u hj => ?_) (Bzr ys) hn ty cb K E (fun v' H' H'' h1 h2 => h v' H' H'' (by rw [Cxv]; exact h1) h2)
 simp only [ints, List.getElem?_map, Option.map_eq_some_iff] at hj
 obtain ⟨y, hy, rfl⟩ := hj
 exact hys j y hy
theorem Cqi (m : Md) (H : Hp) (b k : Nat) (v : Value) (xs : List Int) (hv : SlI H v xs) (hne : xs ≠ []) (hl : xs.length <= 1000000) (hT : TinI H b (k + 1)) :
  FnX Tryz.prog m 61 #[.pointer (some ⟨b, 0, none⟩), v] H fun e H' => ∃ r : Int, r ∈ xs /\ e = .returned (.int .i64 r) /\ ∃ o, H' = H.set b o /\ TinI H' b k := by
 have hpos : 0 < xs.length := List.length_pos_iff.2 hne
 obtain ⟨sb, so, cap, p, c, fr, rfl, _, hsb, hc⟩ := hv.cons hne
 have hbn : sb ≠ b := fun e => by
  obtain ⟨_, _, _, _, _, hb, _⟩ := hT
  rw [e, hb] at hsb
  cases hsb
 refine Aqk Tryz.func61 rfl Tryz.ntmps61 (by simp) ?_
 (refine @unH _ ?_; refine z1 Cwk ?_)
 (refine @unH _ ?_; refine z8 Cwk ?_; try (refine inK ?_; intro K hK))
 refine (Ayb m H b k ((xs.length : Int) - 1) (by omega) hT).runs.mono ?_
 rintro _ _ ⟨r, hr0, hr1, rfl, o, rfl, hT'⟩
 have hr2 : r < xs.length := by omega
 have hrn : r.toNat < xs.length := by omega
 have hx := hc r.toNat xs[r.toNat] (List.getElem?_eq_getElem hrn)
 have hx' : c[so + r.toNat * 1]? = some (.int .i64 xs[r.toNat]) := by simpa using hx
 have hsb' : (H.set b o) sb = some (p, .cells c 3 fr) := by rw [Axm, if_neg hbn]; exact hsb
 simp -implicitDefEqProofs (disch := first | omega | (simp only [qd] <;> omega)) only [xq, ↓xp, qc, Nat.reduceAdd, List.range, List.range.loop, fine, Nat.reduceEqDiff, ↓reduceIte, yielded, reduceCtorEq, Nat.reduceLT, Nat.reduceMul, Nat.reduceSub, one, Nat.reduceLeDiff, Aqa, Cwk, cell_of hsb', hx', exists_eq_left']
 refine hK _ _ ?_; clear hK K
 (refine @unH _ ?_; refine z9 Tryz.results61 ?_)
 exact ⟨_, List.getElem_mem hrn, rfl, o, rfl, hT'⟩
end Go.Proofs.YtgniilnljeedlaaGreatDoor
end
