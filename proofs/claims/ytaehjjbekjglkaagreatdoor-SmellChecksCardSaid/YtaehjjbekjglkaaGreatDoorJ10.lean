/- Texts Blds Fns Hid Tin. -/
import Derived.Test.YtaehjjbekjglkaaGreatDoorJ09
import Derived.Test.YtaehjjbekjglkaaGreatDoorProg
import Derived.IntWalk
set_option linter.defProp false
set_option linter.unusedSimpArgs false
set_option linter.unusedVariables false
set_option maxRecDepth 100000
set_option maxHeartbeats 2000000
section
namespace Go.Proofs.YtaehjjbekjglkaaGreatDoor
open Go Go.X Go.Proofs.Tryz
theorem Avw (H:Hp) (kx1:IntKind) (x1:Int) (kx2:IntKind) (x2:Int) (kx3:IntKind) (x3:Int) (K:Value->Hp->Prop) (E:Value->Hp->Prop):wpS Tryz.prog (Instr.buildSlice 23 3 #[(0,.int kx1 x1),(1,.int kx2 x2),(2,.int kx3 x3)]) H K E=∀b,H b=none->K (.slice (some ⟨b,0,none⟩) 3 3) (H.set b (.cells #[.int kx1 x1,.int kx2 x2,.int kx3 x3] 3 (0,0))):=Avh (K:=K) (E:=E) underlying23 sizeOf3 zeroValue3 rfl 3 [(0,.int kx1 x1),(1,.int kx2 x2),(2,.int kx3 x3)] (by decide) (by decide) (c:=#[.int kx1 x1,.int kx2 x2,.int kx3 x3]) (by kernel_rfl)
theorem Bz8 (H:Hp) (kx1:IntKind) (x1:Int) (kx2:IntKind) (x2:Int) (x3:Bool) (K:Value->Hp->Prop) (E:Value->Hp->Prop):wpS Tryz.prog (Instr.build 32 #[(0,.int kx1 x1),(1,.int kx2 x2),(2,.bool x3)]) H K E=K (.agg #[.int kx1 x1,.int kx2 x2,.bool x3]) H:=Axb underlying32 zeroValue32 (ns:=[1,1,1]) ⟨sizeOf3,sizeOf3,sizeOf4,trivial⟩ [(0,.int kx1 x1),(1,.int kx2 x2),(2,.bool x3)] (out:=[.int kx1 x1,.int kx2 x2,.bool x3]) (by kernel_rfl) K E
theorem Azx (H:Hp) (kx1:IntKind) (x1:Int) (K:Value->Hp->Prop) (E:Value->Hp->Prop):wpS Tryz.prog (Instr.buildSlice 23 1 #[(0,.int kx1 x1)]) H K E=∀b,H b=none->K (.slice (some ⟨b,0,none⟩) 1 1) (H.set b (.cells #[.int kx1 x1] 3 (0,0))):=Avh (K:=K) (E:=E) underlying23 sizeOf3 zeroValue3 rfl 1 [(0,.int kx1 x1)] (by decide) (by decide) (c:=#[.int kx1 x1]) (by kernel_rfl)
theorem bld_69_0_2_0 (H:Hp) (x1:Option Addr) (nx1 cx1:Nat) (kx2:IntKind) (x2:Int) (K:Value->Hp->Prop) (E:Value->Hp->Prop):wpS Tryz.prog (Instr.build 69 #[(0,.slice x1 nx1 cx1),(2,.int kx2 x2)]) H K E=K (.agg #[.slice x1 nx1 cx1,.int .i64 0,.int kx2 x2]) H:=Axb underlying69 zeroValue69 (ns:=[1,1,1]) ⟨sizeOf23,sizeOf3,sizeOf67,trivial⟩ [(0,.slice x1 nx1 cx1),(2,.int kx2 x2)] (out:=[.slice x1 nx1 cx1,.int .i64 0,.int kx2 x2]) (by kernel_rfl) K E
theorem Bxc (H:Hp) (kx1:IntKind) (x1:Int) (x2:Option Addr) (nx2 cx2:Nat) (x3:Option Addr) (nx3 cx3:Nat) (x4:Option Addr) (nx4 cx4:Nat) (K:Value->Hp->Prop) (E:Value->Hp->Prop):wpS Tryz.prog (Instr.build 26 #[(0,.int kx1 x1),(1,.slice x2 nx2 cx2),(2,.slice x3 nx3 cx3),(3,.slice x4 nx4 cx4)]) H K E=K (.agg #[.int kx1 x1,.slice x2 nx2 cx2,.slice x3 nx3 cx3,.slice x4 nx4 cx4]) H:=Axb underlying26 zeroValue26 (ns:=[1,1,1,1]) ⟨sizeOf3,sizeOf22,sizeOf23,sizeOf24,trivial⟩ [(0,.int kx1 x1),(1,.slice x2 nx2 cx2),(2,.slice x3 nx3 cx3),(3,.slice x4 nx4 cx4)] (out:=[.int kx1 x1,.slice x2 nx2 cx2,.slice x3 nx3 cx3,.slice x4 nx4 cx4]) (by kernel_rfl) K E
theorem Bxy (H:Hp)  (K:Value->Hp->Prop) (E:Value->Hp->Prop):wpS Tryz.prog (Instr.build 28 #[]) H K E=K (.agg #[.int .i64 0,.int .i64 0]) H:=Axb underlying28 zeroValue28 (ns:=[1,1]) ⟨sizeOf3,sizeOf3,trivial⟩ [] (out:=[.int .i64 0,.int .i64 0]) (by kernel_rfl) K E
theorem Akw (H:Hp) (kx1:IntKind) (x1:Int) (kx2:IntKind) (x2:Int) (kx3:IntKind) (x3:Int) (kx4:IntKind) (x4:Int) (kx5:IntKind) (x5:Int) (kx6:IntKind) (x6:Int) (kx7:IntKind) (x7:Int) (K:Value->Hp->Prop) (E:Value->Hp->Prop):wpS Tryz.prog (Instr.build 83 #[(0,.int kx1 x1),(1,.agg #[.int kx2 x2,.int kx3 x3,.int kx4 x4,.int kx5 x5,.int kx6 x6,.int kx7 x7])]) H K E=K (.agg #[.int kx1 x1,.int kx2 x2,.int kx3 x3,.int kx4 x4,.int kx5 x5,.int kx6 x6,.int kx7 x7]) H:=Axb underlying83 zeroValue83 (ns:=[1,6]) ⟨sizeOf3,sizeOf77,trivial⟩ [(0,.int kx1 x1),(1,.agg #[.int kx2 x2,.int kx3 x3,.int kx4 x4,.int kx5 x5,.int kx6 x6,.int kx7 x7])] (out:=[.int kx1 x1,.int kx2 x2,.int kx3 x3,.int kx4 x4,.int kx5 x5,.int kx6 x6,.int kx7 x7]) (by kernel_rfl) K E
theorem Ajf (H:Hp) (kx1:IntKind) (x1:Int) (kx2:IntKind) (x2:Int) (K:Value->Hp->Prop) (E:Value->Hp->Prop):wpS Tryz.prog (Instr.build 28 #[(0,.int kx1 x1),(1,.int kx2 x2)]) H K E=K (.agg #[.int kx1 x1,.int kx2 x2]) H:=Axb underlying28 zeroValue28 (ns:=[1,1]) ⟨sizeOf3,sizeOf3,trivial⟩ [(0,.int kx1 x1),(1,.int kx2 x2)] (out:=[.int kx1 x1,.int kx2 x2]) (by kernel_rfl) K E
theorem Bw9 (H:Hp) (x1:Fn) (ax1 bx1:Array Value) (K:Value->Hp->Prop) (E:Value->Hp->Prop):wpS Tryz.prog (Instr.build 112 #[(0,.func x1 ax1 bx1)]) H K E=K (.agg #[.func x1 ax1 bx1]) H:=Axb underlying112 zeroValue112 (ns:=[1]) ⟨sizeOf105,trivial⟩ [(0,.func x1 ax1 bx1)] (out:=[.func x1 ax1 bx1]) (by kernel_rfl) K E
theorem Bya (H:Hp)  (K:Value->Hp->Prop) (E:Value->Hp->Prop):wpS Tryz.prog (Instr.build 112 #[(0,.nilFunc)]) H K E=K (.agg #[.nilFunc]) H:=Axb underlying112 zeroValue112 (ns:=[1]) ⟨sizeOf105,trivial⟩ [(0,.nilFunc)] (out:=[.nilFunc]) (by kernel_rfl) K E
theorem Bja (H:Hp) (kx1:IntKind) (x1:Int) (kx2:IntKind) (x2:Int) (K:Value->Hp->Prop) (E:Value->Hp->Prop):wpS Tryz.prog (Instr.buildSlice 23 2 #[(0,.int kx1 x1),(1,.int kx2 x2)]) H K E=∀b,H b=none->K (.slice (some ⟨b,0,none⟩) 2 2) (H.set b (.cells #[.int kx1 x1,.int kx2 x2] 3 (0,0))):=Avh (K:=K) (E:=E) underlying23 sizeOf3 zeroValue3 rfl 2 [(0,.int kx1 x1),(1,.int kx2 x2)] (by decide) (by decide) (c:=#[.int kx1 x1,.int kx2 x2]) (by kernel_rfl)
theorem Czf (H:Hp) (kx1:IntKind) (x1:Int) (K:Value->Hp->Prop) (E:Value->Hp->Prop):wpS Tryz.prog (Instr.build 26 #[(0,.int kx1 x1)]) H K E=K (.agg #[.int kx1 x1,.slice none 0 0,.slice none 0 0,.slice none 0 0]) H:=Axb underlying26 zeroValue26 (ns:=[1,1,1,1]) ⟨sizeOf3,sizeOf22,sizeOf23,sizeOf24,trivial⟩ [(0,.int kx1 x1)] (out:=[.int kx1 x1,.slice none 0 0,.slice none 0 0,.slice none 0 0]) (by kernel_rfl) K E
theorem Bvr (H:Hp) (kx1:IntKind) (x1:Int) (kx2:IntKind) (x2:Int) (K:Value->Hp->Prop) (E:Value->Hp->Prop):wpS Tryz.prog (Instr.build 32 #[(0,.int kx1 x1),(1,.int kx2 x2)]) H K E=K (.agg #[.int kx1 x1,.int kx2 x2,.bool false]) H:=Axb underlying32 zeroValue32 (ns:=[1,1,1]) ⟨sizeOf3,sizeOf3,sizeOf4,trivial⟩ [(0,.int kx1 x1),(1,.int kx2 x2)] (out:=[.int kx1 x1,.int kx2 x2,.bool false]) (by kernel_rfl) K E
theorem Bke (H:Hp) (kx1:IntKind) (x1:Int) (x2:Option Addr) (nx2 cx2:Nat) (x3:Option Addr) (nx3 cx3:Nat) (x4:Option Addr) (nx4 cx4:Nat) (x5:Option Nat) (K:Value->Hp->Prop) (E:Value->Hp->Prop):wpS Tryz.prog (Instr.build 140 #[(0,.agg #[.int kx1 x1,.slice x2 nx2 cx2,.slice x3 nx3 cx3,.slice x4 nx4 cx4]),(1,.map x5)]) H K E=K (.agg #[.int kx1 x1,.slice x2 nx2 cx2,.slice x3 nx3 cx3,.slice x4 nx4 cx4,.map x5]) H:=Axb underlying140 zeroValue140 (ns:=[4,1]) ⟨sizeOf26,sizeOf138,trivial⟩ [(0,.agg #[.int kx1 x1,.slice x2 nx2 cx2,.slice x3 nx3 cx3,.slice x4 nx4 cx4]),(1,.map x5)] (out:=[.int kx1 x1,.slice x2 nx2 cx2,.slice x3 nx3 cx3,.slice x4 nx4 cx4,.map x5]) (by kernel_rfl) K E
theorem Bkf (H:Hp) (kx1:IntKind) (x1:Int) (kx2:IntKind) (x2:Int) (K:Value->Hp->Prop) (E:Value->Hp->Prop):wpS Tryz.prog (Instr.build 143 #[(0,.int kx1 x1),(1,.int kx2 x2)]) H K E=K (.agg #[.int kx1 x1,.int kx2 x2]) H:=Axb underlying143 zeroValue143 (ns:=[1,1]) ⟨sizeOf41,sizeOf3,trivial⟩ [(0,.int kx1 x1),(1,.int kx2 x2)] (out:=[.int kx1 x1,.int kx2 x2]) (by kernel_rfl) K E
theorem Bv7 (H:Hp) (x1:Option Addr) (nx1 cx1:Nat) (K:Value->Hp->Prop) (E:Value->Hp->Prop):wpS Tryz.prog (Instr.buildSlice 95 1 #[(0,.slice x1 nx1 cx1)]) H K E=∀b,H b=none->K (.slice (some ⟨b,0,none⟩) 1 1) (H.set b (.cells #[.slice x1 nx1 cx1] 23 (0,0))):=Avh (K:=K) (E:=E) underlying95 sizeOf23 zeroValue23 rfl 1 [(0,.slice x1 nx1 cx1)] (by decide) (by decide) (c:=#[.slice x1 nx1 cx1]) (by kernel_rfl)
theorem Aw4 (H:Hp) (kx1:IntKind) (x1:Int) (kx2:IntKind) (x2:Int) (kx3:IntKind) (x3:Int) (kx4:IntKind) (x4:Int) (K:Value->Hp->Prop) (E:Value->Hp->Prop):wpS Tryz.prog (Instr.build 30 #[(0,.int kx1 x1),(1,.int kx2 x2),(2,.agg #[.int kx3 x3,.int kx4 x4])]) H K E=K (.agg #[.int kx1 x1,.int kx2 x2,.int kx3 x3,.int kx4 x4]) H:=Axb underlying30 zeroValue30 (ns:=[1,1,2]) ⟨sizeOf3,sizeOf3,sizeOf28,trivial⟩ [(0,.int kx1 x1),(1,.int kx2 x2),(2,.agg #[.int kx3 x3,.int kx4 x4])] (out:=[.int kx1 x1,.int kx2 x2,.int kx3 x3,.int kx4 x4]) (by kernel_rfl) K E
theorem Bxx (H:Hp) (kx1:IntKind) (x1:Int) (K:Value->Hp->Prop) (E:Value->Hp->Prop):wpS Tryz.prog (Instr.build 150 #[(0,.int kx1 x1)]) H K E=K (.agg #[.int kx1 x1,.int .i64 0,.int .i64 0,.bool false,.int .i64 0,.int .i64 0,.bool false,.int .i64 0,.int .i64 0,.bool false,.int .i64 0,.int .i64 0,.bool false,.int .i64 0,.int .i64 0,.bool false,.int .i64 0,.int .i64 0,.bool false,.int .i64 0,.int .i64 0,.int .i64 0,.int .i64 0,.int .i64 0,.int .i64 0,.bool false,.int .i64 0,.int .i64 0,.bool false,.int .i64 0,.int .i64 0,.bool false,.int .i64 0,.int .i64 0,.bool false,.int .i64 0,.int .i64 0,.bool false,.int .i64 0,.int .i64 0,.bool false,.int .i64 0,.int .i64 0,.bool false,.int .i64 0,.int .i64 0,.int .i64 0,.int .i64 0,.int .i64 0,.int .i64 0,.bool false,.int .i64 0,.int .i64 0,.bool false,.int .i64 0,.int .i64 0,.bool false,.int .i64 0,.int .i64 0,.bool false,.int .i64 0,.int .i64 0,.bool false,.int .i64 0,.int .i64 0,.bool false,.int .i64 0,.int .i64 0,.bool false,.int .i64 0,.int .i64 0,.int .i64 0,.int .i64 0,.int .i64 0,.int .i64 0,.bool false,.int .i64 0,.int .i64 0,.bool false,.int .i64 0,.int .i64 0,.bool false,.int .i64 0,.int .i64 0,.bool false,.int .i64 0,.int .i64 0,.bool false,.int .i64 0,.int .i64 0,.bool false,.int .i64 0,.int .i64 0,.bool false,.int .i64 0,.int .i64 0,.int .i64 0,.int .i64 0,.int .i64 0,.int .i64 0,.bool false,.int .i64 0,.int .i64 0,.bool false,.int .i64 0,.int .i64 0,.bool false,.int .i64 0,.int .i64 0,.bool false,.int .i64 0,.int .i64 0,.bool false,.int .i64 0,.int .i64 0,.bool false,.int .i64 0,.int .i64 0,.bool false,.int .i64 0,.int .i64 0,.int .i64 0,.int .i64 0,.int .i64 0,.int .i64 0,.bool false,.int .i64 0,.int .i64 0,.bool false,.int .i64 0,.int .i64 0,.bool false,.int .i64 0,.int .i64 0,.bool false,.int .i64 0,.int .i64 0,.bool false,.int .i64 0,.int .i64 0,.bool false,.int .i64 0,.int .i64 0,.bool false,.int .i64 0,.int .i64 0,.int .i64 0,.int .i64 0,.int .i64 0,.int .i64 0,.bool false,.int .i64 0,.int .i64 0,.bool false,.int .i64 0,.int .i64 0,.bool false,.int .i64 0,.int .i64 0,.bool false,.int .i64 0,.int .i64 0,.bool false,.int .i64 0,.int .i64 0,.bool false,.int .i64 0,.int .i64 0,.bool false,.int .i64 0,.int .i64 0,.int .i64 0,.int .i64 0,.int .i64 0,.int .i64 0,.bool false,.int .i64 0,.int .i64 0,.bool false,.int .i64 0,.int .i64 0,.bool false,.int .i64 0,.int .i64 0,.bool false,.int .i64 0,.int .i64 0,.bool false,.int .i64 0,.int .i64 0,.bool false,.int .i64 0,.int .i64 0,.bool false,.int .i64 0,.int .i64 0,.int .i64 0,.int .i64 0,.int .i64 0,.int .i64 0,.bool false,.int .i64 0,.int .i64 0,.bool false,.int .i64 0,.int .i64 0,.bool false,.int .i64 0,.int .i64 0,.bool false,.int .i64 0,.int .i64 0,.bool false,.int .i64 0,.int .i64 0,.bool false,.int .i64 0,.int .i64 0,.bool false,.int .i64 0,.int .i64 0,.int .i64 0,.int .i64 0,.int .i64 0,.int .i64 0,.bool false,.int .i64 0,.int .i64 0,.bool false,.int .i64 0,.int .i64 0,.bool false,.int .i64 0,.int .i64 0,.bool false,.int .i64 0,.int .i64 0,.bool false,.int .i64 0,.int .i64 0,.bool false,.int .i64 0,.int .i64 0,.bool false,.int .i64 0,.int .i64 0,.int .i64 0,.int .i64 0,.int .i64 0,.int .i64 0,.bool false,.int .i64 0,.int .i64 0,.bool false,.int .i64 0,.int .i64 0,.bool false,.int .i64 0,.int .i64 0,.bool false,.int .i64 0,.int .i64 0,.bool false,.int .i64 0,.int .i64 0,.bool false,.int .i64 0,.int .i64 0,.bool false,.int .i64 0,.int .i64 0,.int .i64 0,.int .i64 0,.int .i64 0,.int .i64 0,.bool false,.int .i64 0,.int .i64 0,.bool false,.int .i64 0,.int .i64 0,.bool false,.int .i64 0,.int .i64 0,.bool false,.int .i64 0,.int .i64 0,.bool false,.int .i64 0,.int .i64 0,.bool false,.int .i64 0,.int .i64 0,.bool false,.int .i64 0,.int .i64 0,.int .i64 0,.int .i64 0,.int .i64 0,.int .i64 0,.bool false,.int .i64 0,.int .i64 0,.bool false,.int .i64 0,.int .i64 0,.bool false,.int .i64 0,.int .i64 0,.bool false,.int .i64 0,.int .i64 0,.bool false,.int .i64 0,.int .i64 0,.bool false,.int .i64 0,.int .i64 0,.bool false,.int .i64 0,.int .i64 0,.int .i64 0,.int .i64 0,.int .i64 0,.int .i64 0,.bool false]) H:=Axb underlying150 zeroValue150 (ns:=[1,325]) ⟨sizeOf3,sizeOf148,trivial⟩ [(0,.int kx1 x1)] (out:=[.int kx1 x1,.int .i64 0,.int .i64 0,.bool false,.int .i64 0,.int .i64 0,.bool false,.int .i64 0,.int .i64 0,.bool false,.int .i64 0,.int .i64 0,.bool false,.int .i64 0,.int .i64 0,.bool false,.int .i64 0,.int .i64 0,.bool false,.int .i64 0,.int .i64 0,.int .i64 0,.int .i64 0,.int .i64 0,.int .i64 0,.bool false,.int .i64 0,.int .i64 0,.bool false,.int .i64 0,.int .i64 0,.bool false,.int .i64 0,.int .i64 0,.bool false,.int .i64 0,.int .i64 0,.bool false,.int .i64 0,.int .i64 0,.bool false,.int .i64 0,.int .i64 0,.bool false,.int .i64 0,.int .i64 0,.int .i64 0,.int .i64 0,.int .i64 0,.int .i64 0,.bool false,.int .i64 0,.int .i64 0,.bool false,.int .i64 0,.int .i64 0,.bool false,.int .i64 0,.int .i64 0,.bool false,.int .i64 0,.int .i64 0,.bool false,.int .i64 0,.int .i64 0,.bool false,.int .i64 0,.int .i64 0,.bool false,.int .i64 0,.int .i64 0,.int .i64 0,.int .i64 0,.int .i64 0,.int .i64 0,.bool false,.int .i64 0,.int .i64 0,.bool false,.int .i64 0,.int .i64 0,.bool false,.int .i64 0,.int .i64 0,.bool false,.int .i64 0,.int .i64 0,.bool false,.int .i64 0,.int .i64 0,.bool false,.int .i64 0,.int .i64 0,.bool false,.int .i64 0,.int .i64 0,.int .i64 0,.int .i64 0,.int .i64 0,.int .i64 0,.bool false,.int .i64 0,.int .i64 0,.bool false,.int .i64 0,.int .i64 0,.bool false,.int .i64 0,.int .i64 0,.bool false,.int .i64 0,.int .i64 0,.bool false,.int .i64 0,.int .i64 0,.bool false,.int .i64 0,.int .i64 0,.bool false,.int .i64 0,.int .i64 0,.int .i64 0,.int .i64 0,.int .i64 0,.int .i64 0,.bool false,.int .i64 0,.int .i64 0,.bool false,.int .i64 0,.int .i64 0,.bool false,.int .i64 0,.int .i64 0,.bool false,.int .i64 0,.int .i64 0,.bool false,.int .i64 0,.int .i64 0,.bool false,.int .i64 0,.int .i64 0,.bool false,.int .i64 0,.int .i64 0,.int .i64 0,.int .i64 0,.int .i64 0,.int .i64 0,.bool false,.int .i64 0,.int .i64 0,.bool false,.int .i64 0,.int .i64 0,.bool false,.int .i64 0,.int .i64 0,.bool false,.int .i64 0,.int .i64 0,.bool false,.int .i64 0,.int .i64 0,.bool false,.int .i64 0,.int .i64 0,.bool false,.int .i64 0,.int .i64 0,.int .i64 0,.int .i64 0,.int .i64 0,.int .i64 0,.bool false,.int .i64 0,.int .i64 0,.bool false,.int .i64 0,.int .i64 0,.bool false,.int .i64 0,.int .i64 0,.bool false,.int .i64 0,.int .i64 0,.bool false,.int .i64 0,.int .i64 0,.bool false,.int .i64 0,.int .i64 0,.bool false,.int .i64 0,.int .i64 0,.int .i64 0,.int .i64 0,.int .i64 0,.int .i64 0,.bool false,.int .i64 0,.int .i64 0,.bool false,.int .i64 0,.int .i64 0,.bool false,.int .i64 0,.int .i64 0,.bool false,.int .i64 0,.int .i64 0,.bool false,.int .i64 0,.int .i64 0,.bool false,.int .i64 0,.int .i64 0,.bool false,.int .i64 0,.int .i64 0,.int .i64 0,.int .i64 0,.int .i64 0,.int .i64 0,.bool false,.int .i64 0,.int .i64 0,.bool false,.int .i64 0,.int .i64 0,.bool false,.int .i64 0,.int .i64 0,.bool false,.int .i64 0,.int .i64 0,.bool false,.int .i64 0,.int .i64 0,.bool false,.int .i64 0,.int .i64 0,.bool false,.int .i64 0,.int .i64 0,.int .i64 0,.int .i64 0,.int .i64 0,.int .i64 0,.bool false,.int .i64 0,.int .i64 0,.bool false,.int .i64 0,.int .i64 0,.bool false,.int .i64 0,.int .i64 0,.bool false,.int .i64 0,.int .i64 0,.bool false,.int .i64 0,.int .i64 0,.bool false,.int .i64 0,.int .i64 0,.bool false,.int .i64 0,.int .i64 0,.int .i64 0,.int .i64 0,.int .i64 0,.int .i64 0,.bool false,.int .i64 0,.int .i64 0,.bool false,.int .i64 0,.int .i64 0,.bool false,.int .i64 0,.int .i64 0,.bool false,.int .i64 0,.int .i64 0,.bool false,.int .i64 0,.int .i64 0,.bool false,.int .i64 0,.int .i64 0,.bool false,.int .i64 0,.int .i64 0,.int .i64 0,.int .i64 0,.int .i64 0,.int .i64 0,.bool false,.int .i64 0,.int .i64 0,.bool false,.int .i64 0,.int .i64 0,.bool false,.int .i64 0,.int .i64 0,.bool false,.int .i64 0,.int .i64 0,.bool false,.int .i64 0,.int .i64 0,.bool false,.int .i64 0,.int .i64 0,.bool false,.int .i64 0,.int .i64 0,.int .i64 0,.int .i64 0,.int .i64 0,.int .i64 0,.bool false]) (by kernel_rfl) K E
theorem Cze (H:Hp)  (K:Value->Hp->Prop) (E:Value->Hp->Prop):wpS Tryz.prog (Instr.build 214 #[]) H K E=K (.agg #[]) H:=Axb underlying214 zeroValue214 (ns:=[]) trivial [] (out:=[]) (by kernel_rfl) K E
theorem Byb (H:Hp) (kx1:IntKind) (x1:Int) (K:Value->Hp->Prop) (E:Value->Hp->Prop):wpS Tryz.prog (Instr.build 220 #[(0,.int kx1 x1)]) H K E=K (.agg #[.int kx1 x1]) H:=Axb underlying220 zeroValue220 (ns:=[1]) ⟨sizeOf3,trivial⟩ [(0,.int kx1 x1)] (out:=[.int kx1 x1]) (by kernel_rfl) K E
theorem Byc (H:Hp) (kx1:IntKind) (x1:Int) (K:Value->Hp->Prop) (E:Value->Hp->Prop):wpS Tryz.prog (Instr.build 222 #[(0,.int kx1 x1)]) H K E=K (.agg #[.int kx1 x1]) H:=Axb underlying222 zeroValue222 (ns:=[1]) ⟨sizeOf3,trivial⟩ [(0,.int kx1 x1)] (out:=[.int kx1 x1]) (by kernel_rfl) K E
end Go.Proofs.YtaehjjbekjglkaaGreatDoor
end
section
namespace Go.Proofs.YtaehjjbekjglkaaGreatDoor
open Go Go.X Go.Proofs.Tryz
variable {H:Hp} (args:Array Value) (K:Next->Hp->Prop) (E:Value->Hp->Prop)
def callF9:=Aqe (H:=H) func9 (by kernel_rfl) (by kernel_rfl) args K E
def callF10:=Aqe (H:=H) func10 (by kernel_rfl) (by kernel_rfl) args K E
def callF11:=Aqe (H:=H) func11 (by kernel_rfl) (by kernel_rfl) args K E
def callF12:=Aqe (H:=H) func12 (by kernel_rfl) (by kernel_rfl) args K E
def callF13:=Aqe (H:=H) func13 (by kernel_rfl) (by kernel_rfl) args K E
def Bqh:=Aqe (H:=H) func14 (by kernel_rfl) (by kernel_rfl) args K E
def Dxx:=Aqe (H:=H) func15 (by kernel_rfl) (by kernel_rfl) args K E
def callF16:=Aqe (H:=H) func16 (by kernel_rfl) (by kernel_rfl) args K E
def Bkg:=Aqe (H:=H) func17 (by kernel_rfl) (by kernel_rfl) args K E
def callF18:=Aqe (H:=H) func18 (by kernel_rfl) (by kernel_rfl) args K E
def callF19:=Aqe (H:=H) func19 (by kernel_rfl) (by kernel_rfl) args K E
def Dxy:=Aqe (H:=H) func20 (by kernel_rfl) (by kernel_rfl) args K E
def Dxz:=Aqe (H:=H) func22 (by kernel_rfl) (by kernel_rfl) args K E
def Dx0:=Aqe (H:=H) func23 (by kernel_rfl) (by kernel_rfl) args K E
def Dx1:=Aqe (H:=H) func25 (by kernel_rfl) (by kernel_rfl) args K E
def Dx2:=Aqe (H:=H) func29 (by kernel_rfl) (by kernel_rfl) args K E
def Dx3:=Aqe (H:=H) func31 (by kernel_rfl) (by kernel_rfl) args K E
def Dx4:=Aqe (H:=H) func34 (by kernel_rfl) (by kernel_rfl) args K E
def Dx5:=Aqe (H:=H) func38 (by kernel_rfl) (by kernel_rfl) args K E
def Dx6:=Aqe (H:=H) func40 (by kernel_rfl) (by kernel_rfl) args K E
def Cka:=Aqe (H:=H) func44 (by kernel_rfl) (by kernel_rfl) args K E
def Dx7:=Aqe (H:=H) func45 (by kernel_rfl) (by kernel_rfl) args K E
def Dx8:=Aqe (H:=H) func46 (by kernel_rfl) (by kernel_rfl) args K E
def callF47:=Aqe (H:=H) func47 (by kernel_rfl) (by kernel_rfl) args K E
def callF48:=Aqe (H:=H) func48 (by kernel_rfl) (by kernel_rfl) args K E
def Dx9:=Aqe (H:=H) func49 (by kernel_rfl) (by kernel_rfl) args K E
def Dza:=Aqe (H:=H) func50 (by kernel_rfl) (by kernel_rfl) args K E
def Aya:=Aqe (H:=H) func51 (by kernel_rfl) (by kernel_rfl) args K E
def Byf:=Aqe (H:=H) func52 (by kernel_rfl) (by kernel_rfl) args K E
def Byg:=Aqe (H:=H) func53 (by kernel_rfl) (by kernel_rfl) args K E
def callF54:=Aqe (H:=H) func54 (by kernel_rfl) (by kernel_rfl) args K E
def callF55:=Aqe (H:=H) func55 (by kernel_rfl) (by kernel_rfl) args K E
def Dzb:=Aqe (H:=H) func56 (by kernel_rfl) (by kernel_rfl) args K E
def Dzc:=Aqe (H:=H) func57 (by kernel_rfl) (by kernel_rfl) args K E
def Dzd:=Aqe (H:=H) func58 (by kernel_rfl) (by kernel_rfl) args K E
def Dze:=Aqe (H:=H) func59 (by kernel_rfl) (by kernel_rfl) args K E
def Dzf:=Aqe (H:=H) func60 (by kernel_rfl) (by kernel_rfl) args K E
def callF61:=Aqe (H:=H) func61 (by kernel_rfl) (by kernel_rfl) args K E
def callF62:=Aqe (H:=H) func62 (by kernel_rfl) (by kernel_rfl) args K E
def callF63:=Aqe (H:=H) func63 (by kernel_rfl) (by kernel_rfl) args K E
def callF64:=Aqe (H:=H) func64 (by kernel_rfl) (by kernel_rfl) args K E
def Dzg:=Aqe (H:=H) func65 (by kernel_rfl) (by kernel_rfl) args K E
def Dzh:=Aqe (H:=H) func66 (by kernel_rfl) (by kernel_rfl) args K E
def Bx0:=Aqe (H:=H) func70 (by kernel_rfl) (by kernel_rfl) args K E
def Bkh:=Aqe (H:=H) func71 (by kernel_rfl) (by kernel_rfl) args K E
def Dzi:=Aqe (H:=H) func72 (by kernel_rfl) (by kernel_rfl) args K E
def Dzj:=Aqe (H:=H) func73 (by kernel_rfl) (by kernel_rfl) args K E
def Dzk:=Aqe (H:=H) func74 (by kernel_rfl) (by kernel_rfl) args K E
def Bx1:=Aqe (H:=H) func77 (by kernel_rfl) (by kernel_rfl) args K E
def Dzl:=Aqe (H:=H) func78 (by kernel_rfl) (by kernel_rfl) args K E
def Bki:=Aqe (H:=H) func79 (by kernel_rfl) (by kernel_rfl) args K E
def Ckb:=Aqe (H:=H) func80 (by kernel_rfl) (by kernel_rfl) args K E
def Dzm:=Aqe (H:=H) func81 (by kernel_rfl) (by kernel_rfl) args K E
def Ckc:=Aqe (H:=H) func83 (by kernel_rfl) (by kernel_rfl) args K E
def Dzn:=Aqe (H:=H) func85 (by kernel_rfl) (by kernel_rfl) args K E
def Byh:=Aqe (H:=H) func88 (by kernel_rfl) (by kernel_rfl) args K E
def Dzo:=Aqe (H:=H) func89 (by kernel_rfl) (by kernel_rfl) args K E
def Dzp:=Aqe (H:=H) func90 (by kernel_rfl) (by kernel_rfl) args K E
def Dzq:=Aqe (H:=H) func91 (by kernel_rfl) (by kernel_rfl) args K E
def Ckd:=Aqe (H:=H) func92 (by kernel_rfl) (by kernel_rfl) args K E
def Cke:=Aqe (H:=H) func93 (by kernel_rfl) (by kernel_rfl) args K E
def Dzr:=Aqe (H:=H) func94 (by kernel_rfl) (by kernel_rfl) args K E
def Dzs:=Aqe (H:=H) func95 (by kernel_rfl) (by kernel_rfl) args K E
def Dzt:=Aqe (H:=H) func96 (by kernel_rfl) (by kernel_rfl) args K E
def Dzu:=Aqe (H:=H) func97 (by kernel_rfl) (by kernel_rfl) args K E
def callF98:=Aqe (H:=H) func98 (by kernel_rfl) (by kernel_rfl) args K E
def Cw2:=Aqe (H:=H) func101 (by kernel_rfl) (by kernel_rfl) args K E
def Cw3:=Aqe (H:=H) func102 (by kernel_rfl) (by kernel_rfl) args K E
def Cw4:=Aqe (H:=H) func104 (by kernel_rfl) (by kernel_rfl) args K E
def Cw5:=Aqe (H:=H) func106 (by kernel_rfl) (by kernel_rfl) args K E
def Cw6:=Aqe (H:=H) func107 (by kernel_rfl) (by kernel_rfl) args K E
def callF112:=Aqe (H:=H) func112 (by kernel_rfl) (by kernel_rfl) args K E
def Cq9:=Aqe (H:=H) func126 (by kernel_rfl) (by kernel_rfl) args K E
def Cxa:=Aqe (H:=H) func127 (by kernel_rfl) (by kernel_rfl) args K E
def Cw7:=Aqe (H:=H) func140 (by kernel_rfl) (by kernel_rfl) args K E
def Cxb:=Aqe (H:=H) func141 (by kernel_rfl) (by kernel_rfl) args K E
def Cw8:=Aqe (H:=H) func142 (by kernel_rfl) (by kernel_rfl) args K E
def Cw9:=Aqe (H:=H) func143 (by kernel_rfl) (by kernel_rfl) args K E
def Cya:=Aqe (H:=H) func178 (by kernel_rfl) (by kernel_rfl) args K E
def Cyb:=Aqe (H:=H) func179 (by kernel_rfl) (by kernel_rfl) args K E
def xq:=aN @Nat.zero_add (aN @Nat.add_zero (aN @Bool.true_or (aN @true_and (aN @eval_const (aN @eval_func (aN @Aq7 (aN @Aq3 (aN @Aql (aN @Axf (aN @Aqf (aN @Dqf (aN @Cvf (aN @Cz8 (aN @Cja (aN @Bjl (aN @Dxh (aN @Dxu (aN @Dxo (aN @Dxr (aN @Dxq (aN @Dxi (aN @Dju (aN @Dxv (aN @Czd (aN @Dxs (aN @Dxt (aN @Dxj (aN @Dxp (aN @Dxn (aN @Dxm (aN @Dxl (aN @Dxk (aN @Dzx (aN @Dky (aN @Dkx (aN @w64 (aN @Aj2 (aN @act_get? (aN @Bool.false_eq_true (aN @Bool.true_eq_false (aN @Dqt (aN @Av7 (aN @Dkj (aN @Cqo (aN @Cjq (aN @Ajw (aN @By3 (aN @Czo (aN @Czn (aN @Ckm (aN @Axa (aN @Cwr (aN @Bkk (aN @Bk8 (aN @Axl (aN @Cv4 (aN @Bzh (aN @Bool.and_true (aN @Bool.and_self (aN @Dqb (aN @Cva (aN @Cz3 (aN @Ckg (aN @Czi (aN @Byk (aN @Bkl (aN @Ckh (aN @Byj (aN @Bvu (aN @and_true (aN @Nat.le_refl (aN @Ckv (aN @Cym @Azn)))))))))))))))))))))))))))))))))))))))))))))))))))))))))))))))))))))))))
def xp:=aN @Dz1 (aN @Ckp (aN @Dz2 (aN @Dj8 (aN @Dz0 (aN @Cyy (aN @Bv0 (aN @Cyr (aN @Bv1 (aN @Cys (aN @Czs (aN @Dka (aN @Dj7 (aN @Dvf (aN @Czq (aN @Bxe (aN @Ayb (aN @Cyx (aN @Bv2 (aN @Cyn (aN @Bkr (aN @Ckr (aN @Bv3 (aN @Bkt (aN @Czp (aN @Cyo (aN @Cyp (aN @Cqp (aN @Cqq @Czt))))))))))))))))))))))))))))
def qc:=aN @List.size_toArray.{0} (aN @List.length_cons.{0} (aN @List.length_nil.{0} (aN @List.getElem?_toArray.{0} (aN @List.getElem?_cons_zero.{0} (aN @List.getElem?_cons_succ.{0} (aN @Option.isNone_none.{0} (aN @List.map_toArray.{0,0} (aN @List.map_cons.{0,0} (aN @List.map_nil.{0,0} (aN @Option.bind_some.{0,0} (aN @beq_iff_eq.{0} (aN @Option.some.injEq.{0} (aN @List.setIfInBounds_toArray.{0} (aN @List.set_cons_succ.{0} (aN @List.set_cons_zero.{0} (aN @List.extract_toArray.{0} (aN @List.extract_eq_take_drop.{0} (aN @List.take_succ_cons.{0} (aN @List.take_zero.{0} (aN @List.drop_succ_cons.{0} (aN @List.drop_zero.{0} (aN @List.take_nil.{0} (aN @List.drop_nil.{0} (aN @List.cons_append.{0} (aN @List.nil_append.{0} (aN @List.append_assoc.{0} (aN @List.append_nil.{0} (aN @List.all_cons.{0} (aN @List.all_nil.{0} (aN @List.toList_toArray.{0} (aN @Option.map_none.{0,0} @Option.map_some.{0,0})))))))))))))))))))))))))))))))
def qd:=aN @List.length_cons.{0} @List.length_nil.{0}
end Go.Proofs.YtaehjjbekjglkaaGreatDoor
end
section
namespace Go.X
structure Hid (q:Prop):Prop where
 out:q
theorem unH {q:Prop} (h:Hid q):q:=h.out
theorem unT {G:Prop} (h:True->G):G:=h trivial
theorem unC {c G:Prop} (h:c->G):c->True->G:=fun a _=>h a
theorem unD {c d G:Prop} (h:c/\d->G):c->d->G:=fun a b=>h ⟨a,b⟩
theorem unU {X:Prop} (h:∀(_:Unit) (_:True),X):X:=h () trivial
def Aqk (p:Prop):Prop:=p
theorem zA {Y p q:Prop} (y:Y) (g:q) (h:Hid Y->Hid q->p:=by
 intro yy g
 repeat' (first
 | (refine Axz rfl ?_;intro Kz hKz;simp -implicitDefEqProofs (disch:=first | omega | (simp only [qd]<;>omega)) only [xq,↓xp,qc,Nat.reduceAdd,List.range,List.range.loop,fine,Nat.reduceEqDiff,↓reduceIte,yielded,reduceCtorEq,Nat.reduceLT,Nat.reduceMul,Nat.reduceSub,one,Nat.reduceLeDiff,Aqg,yy.out,aq,↓ap,qe0,qe1,qe2, *,-g,-yy,-hKz];try (refine hKz _ _ ?_;clear hKz Kz))
 | (refine Azq rfl ?_;intro Kz hKz;simp -implicitDefEqProofs (disch:=first | omega | (simp only [qd]<;>omega)) only [xq,↓xp,qc,Nat.reduceAdd,List.range,List.range.loop,fine,Nat.reduceEqDiff,↓reduceIte,yielded,reduceCtorEq,Nat.reduceLT,Nat.reduceMul,Nat.reduceSub,one,Nat.reduceLeDiff,Aqg,yy.out,aq,↓ap,qe0,qe1,qe2, *,-g,-yy,-hKz];try (refine hKz _ _ ?_;clear hKz Kz;(try simp only [nq,↓reduceIte,Nat.reduceEqDiff])))
 | (refine Aza ?_;(try simp only [nq,↓reduceIte,Nat.reduceEqDiff]))
 | (refine Azd ?_;(try simp only [nq,↓reduceIte,Nat.reduceEqDiff]))
 | (refine Az2 ?_;(try simp only [nq,↓reduceIte,Nat.reduceEqDiff]))
 | (refine Az9 ?_;(try simp only [nq,↓reduceIte,Nat.reduceEqDiff]))
 | (refine Azp (by simp only [Aq7,Axf,Nat.reduceEqDiff,Nat.reduceLT,↓reduceIte, *,-g,-yy];rfl) ?_ ?_<;>(intro hcz;first | (exfalso;simp -implicitDefEqProofs (disch:=omega) only [*,-g,-yy,bq,reduceCtorEq] at hcz;done) | (simp only [dq,qe3,qe4,qe5,qe6] at hcz) | skip))
 | (refine Azs ?_)
 | (refine Ax7 ?_)
 | (refine Axn ?_))
 refine unT ?_;(try (revert hcz;refine unC ?_));(repeat (revert hcz;refine unD ?_));first | revert Kz | refine unU ?_
 exact Hid.out g):Hid p:=⟨h ⟨y⟩ ⟨g⟩⟩
theorem zS {Y p q:Prop} (y:Y) (g:q) (h:Hid Y->Hid q->p:=by
 intro yy g
 repeat' (first
 | (refine Axz rfl ?_;intro Kz hKz;simp -implicitDefEqProofs (disch:=first | omega | (simp only [qd]<;>omega)) only [xq,↓xp,qc,Nat.reduceAdd,List.range,List.range.loop,fine,Nat.reduceEqDiff,↓reduceIte,yielded,reduceCtorEq,Nat.reduceLT,Nat.reduceMul,Nat.reduceSub,one,Nat.reduceLeDiff,Aqg,yy.out,aq,↓ap,qe0,qe1,qe2, *,-g,-yy,-hKz];try (refine hKz _ _ ?_;clear hKz Kz))
 | (refine Azq rfl ?_;intro Kz hKz;simp -implicitDefEqProofs (disch:=first | omega | (simp only [qd]<;>omega)) only [xq,↓xp,qc,Nat.reduceAdd,List.range,List.range.loop,fine,Nat.reduceEqDiff,↓reduceIte,yielded,reduceCtorEq,Nat.reduceLT,Nat.reduceMul,Nat.reduceSub,one,Nat.reduceLeDiff,Aqg,yy.out,aq,↓ap,qe0,qe1,qe2, *,-g,-yy,-hKz];try (refine hKz _ _ ?_;clear hKz Kz;(try simp only [nq,↓reduceIte,Nat.reduceEqDiff])))
 | (refine Aza ?_;(try simp only [nq,↓reduceIte,Nat.reduceEqDiff]))
 | (refine Azd ?_;(try simp only [nq,↓reduceIte,Nat.reduceEqDiff]))
 | (refine Az2 ?_;(try simp only [nq,↓reduceIte,Nat.reduceEqDiff]))
 | (refine Az9 ?_;(try simp only [nq,↓reduceIte,Nat.reduceEqDiff]))
 | (refine Azp (by simp only [Aq7,Axf,Nat.reduceEqDiff,Nat.reduceLT,↓reduceIte, *,-g,-yy];rfl) ?_ ?_<;>(intro hcz;first | (exfalso;simp -implicitDefEqProofs (disch:=omega) only [*,-g,-yy,bq,reduceCtorEq] at hcz;done) | (simp only [dq,qe3,qe4,qe5,qe6] at hcz) | skip)))
 refine unT ?_;(try (revert hcz;refine unC ?_));(repeat (revert hcz;refine unD ?_));first | revert Kz | refine unU ?_
 exact Hid.out g):Hid p:=⟨h ⟨y⟩ ⟨g⟩⟩
theorem zX {Y p q:Prop} (y:Y) (g:q) (h:Hid Y->Hid q->p:=by
 intro yy g
 simp -implicitDefEqProofs (disch:=first | omega | (simp only [qd]<;>omega)) only [xq,↓xp,qc,Nat.reduceAdd,List.range,List.range.loop,fine,Nat.reduceEqDiff,↓reduceIte,yielded,reduceCtorEq,Nat.reduceLT,Nat.reduceMul,Nat.reduceSub,one,Nat.reduceLeDiff,Aqg,yy.out,aq,↓ap,qe0,qe1,qe2, *,-g,-yy,-hK]
 exact Hid.out g):Hid p:=⟨h ⟨y⟩ ⟨g⟩⟩
theorem zU {Y p q:Prop} (y:Y) (g:q) (h:Hid Y->Hid q->p:=by
 intro yy g
 (try (simp -implicitDefEqProofs (disch:=first | omega | (simp only [qd]<;>omega)) only [xq,↓xp,qc,Nat.reduceAdd,List.range,List.range.loop,fine,Nat.reduceEqDiff,↓reduceIte,yielded,reduceCtorEq,Nat.reduceLT,Nat.reduceMul,Nat.reduceSub,one,Nat.reduceLeDiff,Aqg,yy.out,aq,↓ap,qe0,qe1,qe2, *,-g,-yy,-hK]));(try (refine hK _ _ ?_;try simp only [nq,↓reduceIte,Nat.reduceEqDiff]))
 repeat' (first
 | (refine Axz rfl ?_;intro Kz hKz;simp -implicitDefEqProofs (disch:=first | omega | (simp only [qd]<;>omega)) only [xq,↓xp,qc,Nat.reduceAdd,List.range,List.range.loop,fine,Nat.reduceEqDiff,↓reduceIte,yielded,reduceCtorEq,Nat.reduceLT,Nat.reduceMul,Nat.reduceSub,one,Nat.reduceLeDiff,Aqg,yy.out,aq,↓ap,qe0,qe1,qe2, *,-g,-yy,-hKz];try (refine hKz _ _ ?_;clear hKz Kz))
 | (refine Azq rfl ?_;intro Kz hKz;simp -implicitDefEqProofs (disch:=first | omega | (simp only [qd]<;>omega)) only [xq,↓xp,qc,Nat.reduceAdd,List.range,List.range.loop,fine,Nat.reduceEqDiff,↓reduceIte,yielded,reduceCtorEq,Nat.reduceLT,Nat.reduceMul,Nat.reduceSub,one,Nat.reduceLeDiff,Aqg,yy.out,aq,↓ap,qe0,qe1,qe2, *,-g,-yy,-hKz];try (refine hKz _ _ ?_;clear hKz Kz;(try simp only [nq,↓reduceIte,Nat.reduceEqDiff])))
 | (refine Aza ?_;(try simp only [nq,↓reduceIte,Nat.reduceEqDiff]))
 | (refine Azd ?_;(try simp only [nq,↓reduceIte,Nat.reduceEqDiff]))
 | (refine Az2 ?_;(try simp only [nq,↓reduceIte,Nat.reduceEqDiff]))
 | (refine Az9 ?_;(try simp only [nq,↓reduceIte,Nat.reduceEqDiff]))
 | (refine Azp (by simp only [Aq7,Axf,Nat.reduceEqDiff,Nat.reduceLT,↓reduceIte, *,-g,-yy];rfl) ?_ ?_<;>(intro hcz;first | (exfalso;simp -implicitDefEqProofs (disch:=omega) only [*,-g,-yy,bq,reduceCtorEq] at hcz;done) | (simp only [dq,qe3,qe4,qe5,qe6] at hcz) | skip))
 | (refine Azs ?_)
 | (refine Ax7 ?_)
 | (refine Axn ?_))
 refine unT ?_;(try (revert hcz;refine unC ?_));(repeat (revert hcz;refine unD ?_));first | revert Kz | refine unU ?_
 exact Hid.out g):Hid p:=⟨h ⟨y⟩ ⟨g⟩⟩
theorem zV {Y p q:Prop} (y:Y) (g:q) (h:Hid Y->Hid q->p:=by
 intro yy g
 (try (simp -implicitDefEqProofs (disch:=first | omega | (simp only [qd]<;>omega)) only [xq,↓xp,qc,Nat.reduceAdd,List.range,List.range.loop,fine,Nat.reduceEqDiff,↓reduceIte,yielded,reduceCtorEq,Nat.reduceLT,Nat.reduceMul,Nat.reduceSub,one,Nat.reduceLeDiff,Aqg,yy.out,aq,↓ap,qe0,qe1,qe2, *,-g,-yy,-hK]));(try (refine hK _ _ ?_;try simp only [nq,↓reduceIte,Nat.reduceEqDiff]))
 repeat' (first
 | (refine Axz rfl ?_;intro Kz hKz;simp -implicitDefEqProofs (disch:=first | omega | (simp only [qd]<;>omega)) only [xq,↓xp,qc,Nat.reduceAdd,List.range,List.range.loop,fine,Nat.reduceEqDiff,↓reduceIte,yielded,reduceCtorEq,Nat.reduceLT,Nat.reduceMul,Nat.reduceSub,one,Nat.reduceLeDiff,Aqg,yy.out,aq,↓ap,qe0,qe1,qe2, *,-g,-yy,-hKz];try (refine hKz _ _ ?_;clear hKz Kz))
 | (refine Azq rfl ?_;intro Kz hKz;simp -implicitDefEqProofs (disch:=first | omega | (simp only [qd]<;>omega)) only [xq,↓xp,qc,Nat.reduceAdd,List.range,List.range.loop,fine,Nat.reduceEqDiff,↓reduceIte,yielded,reduceCtorEq,Nat.reduceLT,Nat.reduceMul,Nat.reduceSub,one,Nat.reduceLeDiff,Aqg,yy.out,aq,↓ap,qe0,qe1,qe2, *,-g,-yy,-hKz];try (refine hKz _ _ ?_;clear hKz Kz;(try simp only [nq,↓reduceIte,Nat.reduceEqDiff])))
 | (refine Aza ?_;(try simp only [nq,↓reduceIte,Nat.reduceEqDiff]))
 | (refine Azd ?_;(try simp only [nq,↓reduceIte,Nat.reduceEqDiff]))
 | (refine Az2 ?_;(try simp only [nq,↓reduceIte,Nat.reduceEqDiff]))
 | (refine Az9 ?_;(try simp only [nq,↓reduceIte,Nat.reduceEqDiff]))
 | (refine Azp (by simp only [Aq7,Axf,Nat.reduceEqDiff,Nat.reduceLT,↓reduceIte, *,-g,-yy];rfl) ?_ ?_<;>(intro hcz;first | (exfalso;simp -implicitDefEqProofs (disch:=omega) only [*,-g,-yy,bq,reduceCtorEq] at hcz;done) | (simp only [dq,qe3,qe4,qe5,qe6] at hcz) | skip)))
 refine unT ?_;(try (revert hcz;refine unC ?_));(repeat (revert hcz;refine unD ?_));first | revert Kz | refine unU ?_
 exact Hid.out g):Hid p:=⟨h ⟨y⟩ ⟨g⟩⟩
theorem zAi {Y p q:Prop} (y:Y) (g:q) (h:Hid Y->Hid q->p:=by
 intro yy g
 repeat' (first
 | (refine Axz rfl ?_;intro Kz hKz;simp -implicitDefEqProofs (disch:=first | omega | (simp only [qd]<;>omega)) only [xq,↓xp,qc,Nat.reduceAdd,List.range,List.range.loop,fine,Nat.reduceEqDiff,↓reduceIte,yielded,reduceCtorEq,Nat.reduceLT,Nat.reduceMul,Nat.reduceSub,one,Nat.reduceLeDiff,Aqg,yy.out,↓Akh,aq,↓ap,qe0,qe1,qe2, *,-g,-yy,-hKz];try (refine hKz _ _ ?_;clear hKz Kz))
 | (refine Azq rfl ?_;intro Kz hKz;simp -implicitDefEqProofs (disch:=first | omega | (simp only [qd]<;>omega)) only [xq,↓xp,qc,Nat.reduceAdd,List.range,List.range.loop,fine,Nat.reduceEqDiff,↓reduceIte,yielded,reduceCtorEq,Nat.reduceLT,Nat.reduceMul,Nat.reduceSub,one,Nat.reduceLeDiff,Aqg,yy.out,↓Akh,aq,↓ap,qe0,qe1,qe2, *,-g,-yy,-hKz];try (refine hKz _ _ ?_;clear hKz Kz;(try simp only [nq,↓reduceIte,Nat.reduceEqDiff])))
 | (refine Aza ?_;(try simp only [nq,↓reduceIte,Nat.reduceEqDiff]))
 | (refine Azd ?_;(try simp only [nq,↓reduceIte,Nat.reduceEqDiff]))
 | (refine Az2 ?_;(try simp only [nq,↓reduceIte,Nat.reduceEqDiff]))
 | (refine Az9 ?_;(try simp only [nq,↓reduceIte,Nat.reduceEqDiff]))
 | (refine Azp (by simp only [Aq7,Axf,Nat.reduceEqDiff,Nat.reduceLT,↓reduceIte, *,-g,-yy];rfl) ?_ ?_<;>(intro hcz;first | (exfalso;simp -implicitDefEqProofs (disch:=omega) only [*,-g,-yy,bq,reduceCtorEq] at hcz;done) | (simp only [dq,qe3,qe4,qe5,qe6] at hcz) | skip))
 | (refine Azs ?_)
 | (refine Ax7 ?_)
 | (refine Axn ?_))
 refine unT ?_;(try (revert hcz;refine unC ?_));(repeat (revert hcz;refine unD ?_));first | revert Kz | refine unU ?_
 exact Hid.out g):Hid p:=⟨h ⟨y⟩ ⟨g⟩⟩
theorem zXi {Y p q:Prop} (y:Y) (g:q) (h:Hid Y->Hid q->p:=by
 intro yy g
 simp -implicitDefEqProofs (disch:=first | omega | (simp only [qd]<;>omega)) only [xq,↓xp,qc,Nat.reduceAdd,List.range,List.range.loop,fine,Nat.reduceEqDiff,↓reduceIte,yielded,reduceCtorEq,Nat.reduceLT,Nat.reduceMul,Nat.reduceSub,one,Nat.reduceLeDiff,Aqg,yy.out,↓Akh,aq,↓ap,qe0,qe1,qe2, *,-g,-yy,-hK]
 exact Hid.out g):Hid p:=⟨h ⟨y⟩ ⟨g⟩⟩
theorem zUi {Y p q:Prop} (y:Y) (g:q) (h:Hid Y->Hid q->p:=by
 intro yy g
 (try (simp -implicitDefEqProofs (disch:=first | omega | (simp only [qd]<;>omega)) only [xq,↓xp,qc,Nat.reduceAdd,List.range,List.range.loop,fine,Nat.reduceEqDiff,↓reduceIte,yielded,reduceCtorEq,Nat.reduceLT,Nat.reduceMul,Nat.reduceSub,one,Nat.reduceLeDiff,Aqg,yy.out,↓Akh,aq,↓ap,qe0,qe1,qe2, *,-g,-yy,-hK]));(try (refine hK _ _ ?_;try simp only [nq,↓reduceIte,Nat.reduceEqDiff]))
 repeat' (first
 | (refine Axz rfl ?_;intro Kz hKz;simp -implicitDefEqProofs (disch:=first | omega | (simp only [qd]<;>omega)) only [xq,↓xp,qc,Nat.reduceAdd,List.range,List.range.loop,fine,Nat.reduceEqDiff,↓reduceIte,yielded,reduceCtorEq,Nat.reduceLT,Nat.reduceMul,Nat.reduceSub,one,Nat.reduceLeDiff,Aqg,yy.out,↓Akh,aq,↓ap,qe0,qe1,qe2, *,-g,-yy,-hKz];try (refine hKz _ _ ?_;clear hKz Kz))
 | (refine Azq rfl ?_;intro Kz hKz;simp -implicitDefEqProofs (disch:=first | omega | (simp only [qd]<;>omega)) only [xq,↓xp,qc,Nat.reduceAdd,List.range,List.range.loop,fine,Nat.reduceEqDiff,↓reduceIte,yielded,reduceCtorEq,Nat.reduceLT,Nat.reduceMul,Nat.reduceSub,one,Nat.reduceLeDiff,Aqg,yy.out,↓Akh,aq,↓ap,qe0,qe1,qe2, *,-g,-yy,-hKz];try (refine hKz _ _ ?_;clear hKz Kz;(try simp only [nq,↓reduceIte,Nat.reduceEqDiff])))
 | (refine Aza ?_;(try simp only [nq,↓reduceIte,Nat.reduceEqDiff]))
 | (refine Azd ?_;(try simp only [nq,↓reduceIte,Nat.reduceEqDiff]))
 | (refine Az2 ?_;(try simp only [nq,↓reduceIte,Nat.reduceEqDiff]))
 | (refine Az9 ?_;(try simp only [nq,↓reduceIte,Nat.reduceEqDiff]))
 | (refine Azp (by simp only [Aq7,Axf,Nat.reduceEqDiff,Nat.reduceLT,↓reduceIte, *,-g,-yy];rfl) ?_ ?_<;>(intro hcz;first | (exfalso;simp -implicitDefEqProofs (disch:=omega) only [*,-g,-yy,bq,reduceCtorEq] at hcz;done) | (simp only [dq,qe3,qe4,qe5,qe6] at hcz) | skip))
 | (refine Azs ?_)
 | (refine Ax7 ?_)
 | (refine Axn ?_))
 refine unT ?_;(try (revert hcz;refine unC ?_));(repeat (revert hcz;refine unD ?_));first | revert Kz | refine unU ?_
 exact Hid.out g):Hid p:=⟨h ⟨y⟩ ⟨g⟩⟩
theorem zQ {p q:Prop} (g:q) (h:Hid q->p:=by
 intro g
 simp only [nq,↓reduceIte,Nat.reduceEqDiff]
 exact Hid.out g):Hid p:=⟨h ⟨g⟩⟩
theorem z0 {Y p q:Prop} (y:Y) (g:q) (h:Hid Y->Hid q->p:=by
 intro yy g
 simp -implicitDefEqProofs (disch:=first | omega | (simp only [qd]<;>omega)) only [xq,↓xp,qc,Nat.reduceAdd,List.range,List.range.loop,fine,Nat.reduceEqDiff,↓reduceIte,yielded,reduceCtorEq,Nat.reduceLT,Nat.reduceMul,Nat.reduceSub,one,Nat.reduceLeDiff,Aqg,yy.out]
 exact Hid.out g):Hid p:=⟨h ⟨y⟩ ⟨g⟩⟩
theorem z1 {Y p q:Prop} (y:Y) (g:q) (h:Hid Y->Hid q->p:=by
 intro yy g
 (refine Awx ?_;intro K hK;simp -implicitDefEqProofs (disch:=first | omega | (simp only [qd]<;>omega)) only [xq,↓xp,qc,Nat.reduceAdd,List.range,List.range.loop,fine,Nat.reduceEqDiff,↓reduceIte,yielded,reduceCtorEq,Nat.reduceLT,Nat.reduceMul,Nat.reduceSub,one,Nat.reduceLeDiff,Aqg,yy.out];refine hK _ _ ?_;clear hK K)
 exact Hid.out g):Hid p:=⟨h ⟨y⟩ ⟨g⟩⟩
theorem z2 {Y p q:Prop} (y:Y) (g:q) (h:Hid Y->Hid q->p:=by
 intro yy g
 (refine Bqc ?_;intro K hK;simp -implicitDefEqProofs (disch:=first | omega | (simp only [qd]<;>omega)) only [xq,↓xp,qc,Nat.reduceAdd,List.range,List.range.loop,fine,Nat.reduceEqDiff,↓reduceIte,yielded,reduceCtorEq,Nat.reduceLT,Nat.reduceMul,Nat.reduceSub,one,Nat.reduceLeDiff,Aqg,yy.out];refine hK _ _ ?_;clear hK K)
 exact Hid.out g):Hid p:=⟨h ⟨y⟩ ⟨g⟩⟩
theorem z3 {Y p q:Prop} (y:Y) (g:q) (h:Hid Y->Hid q->p:=by
 intro yy g
 (apply Akj rfl rfl rfl;(focus (simp -implicitDefEqProofs (disch:=first | omega | (simp only [qd]<;>omega)) only [xq,↓xp,qc,Nat.reduceAdd,List.range,List.range.loop,fine,Nat.reduceEqDiff,↓reduceIte,yielded,reduceCtorEq,Nat.reduceLT,Nat.reduceMul,Nat.reduceSub,one,Nat.reduceLeDiff,Aqg,yy.out,aq,↓ap,qe0,qe1,qe2, *,-g,-yy,-hK,Axa]<;>(first | exact rfl | exact ⟨rfl,rfl⟩ | exact ⟨rfl,trivial⟩)));simp -implicitDefEqProofs (disch:=first | omega | (simp only [qd]<;>omega)) only [Aq3,Aql])
 exact Hid.out g):Hid p:=⟨h ⟨y⟩ ⟨g⟩⟩
theorem z3i {Y p q:Prop} (y:Y) (g:q) (h:Hid Y->Hid q->p:=by
 intro yy g
 (apply Akj rfl rfl rfl;(focus (simp -implicitDefEqProofs (disch:=first | omega | (simp only [qd]<;>omega)) only [xq,↓xp,qc,Nat.reduceAdd,List.range,List.range.loop,fine,Nat.reduceEqDiff,↓reduceIte,yielded,reduceCtorEq,Nat.reduceLT,Nat.reduceMul,Nat.reduceSub,one,Nat.reduceLeDiff,Aqg,yy.out,↓Akh,aq,↓ap,qe0,qe1,qe2, *,-g,-yy,-hK,Axa]<;>(first | exact rfl | exact ⟨rfl,rfl⟩ | exact ⟨rfl,trivial⟩)));simp -implicitDefEqProofs (disch:=first | omega | (simp only [qd]<;>omega)) only [Aq3,Aql])
 exact Hid.out g):Hid p:=⟨h ⟨y⟩ ⟨g⟩⟩
theorem z7 {Y p q:Prop} (y:Y) (g:q) (h:Hid Y->Hid q->p:=by
 intro yy g
 simp -implicitDefEqProofs (disch:=first | omega | (simp only [qd]<;>omega)) only [xq,↓xp,qc,Nat.reduceAdd,List.range,List.range.loop,fine,Nat.reduceEqDiff,↓reduceIte,yielded,reduceCtorEq,Nat.reduceLT,Nat.reduceMul,Nat.reduceSub,one,Nat.reduceLeDiff,Aqg,yy.out,aq,↓ap,qe0,qe1,qe2, *,-g,-yy]
 exact Hid.out g):Hid p:=⟨h ⟨y⟩ ⟨g⟩⟩
theorem z8 {Y p q:Prop} (y:Y) (g:q) (h:Hid Y->Hid q->p:=by
 intro yy g
 (refine Awx ?_;intro Kz hKz;simp -implicitDefEqProofs (disch:=first | omega | (simp only [qd]<;>omega)) only [xq,↓xp,qc,Nat.reduceAdd,List.range,List.range.loop,fine,Nat.reduceEqDiff,↓reduceIte,yielded,reduceCtorEq,Nat.reduceLT,Nat.reduceMul,Nat.reduceSub,one,Nat.reduceLeDiff,Aqg,yy.out])
 refine unT ?_;(try (revert hcz;refine unC ?_));(repeat (revert hcz;refine unD ?_));first | revert Kz | refine unU ?_
 exact Hid.out g):Hid p:=⟨h ⟨y⟩ ⟨g⟩⟩
theorem z9 {Y p q:Prop} (y:Y) (g:q) (h:Hid Y->Hid q->p:=by
 intro yy g
 (refine Axr ?_;(try simp only [nq,↓reduceIte,Nat.reduceEqDiff]);rw [Aq8,Ayk yy.out (by decide)];simp only [Axf,Nat.reduceEqDiff,↓reduceIte])
 exact Hid.out g):Hid p:=⟨h ⟨y⟩ ⟨g⟩⟩
theorem zB {Y p q:Prop} (y:Y) (g:q) (h:Hid Y->Hid q->p:=by
 intro yy g
 (refine Axr ?_;(try simp only [nq,↓reduceIte,Nat.reduceEqDiff]);rw [Aq8,By7 yy.out (by decide) (by decide)];simp only [Axf,Nat.reduceEqDiff,↓reduceIte])
 exact Hid.out g):Hid p:=⟨h ⟨y⟩ ⟨g⟩⟩
theorem zC {Y p q:Prop} (y:Y) (g:q) (h:Hid Y->Hid q->p:=by
 intro yy g
 (refine Axr ?_;(try simp only [nq,↓reduceIte,Nat.reduceEqDiff]);rw [Aq8,Bk3 yy.out (by decide) (by decide) (by decide)];simp only [Axf,Nat.reduceEqDiff,↓reduceIte])
 exact Hid.out g):Hid p:=⟨h ⟨y⟩ ⟨g⟩⟩
theorem zD {Y p q:Prop} (y:Y) (g:q) (h:Hid Y->Hid q->p:=by
 intro yy g
 ((try simp only [nq,↓reduceIte,Nat.reduceEqDiff]);rw [Bvt,Awa yy.out])
 exact Hid.out g):Hid p:=⟨h ⟨y⟩ ⟨g⟩⟩
theorem zI {Y p q:Prop} (y:Y) (g:q) (h:Hid Y->Hid q->p:=by
 intro yy g
 (apply Bqn rfl rfl rfl;(focus (intro HX;simp -implicitDefEqProofs (disch:=first | omega | (simp only [qd]<;>omega)) only [xq,↓xp,qc,Nat.reduceAdd,List.range,List.range.loop,fine,Nat.reduceEqDiff,↓reduceIte,yielded,reduceCtorEq,Nat.reduceLT,Nat.reduceMul,Nat.reduceSub,one,Nat.reduceLeDiff,Aqg,yy.out,aq,↓ap,qe0,qe1,qe2, *,-g,-yy,-hK,Axa]<;>(first | exact rfl | exact ⟨rfl,rfl⟩ | exact ⟨rfl,trivial⟩)));simp -implicitDefEqProofs (disch:=first | omega | (simp only [qd]<;>omega)) only [Aq3,Aql])
 exact Hid.out g):Hid p:=⟨h ⟨y⟩ ⟨g⟩⟩
theorem zJ {Y p q:Prop} (y:Y) (g:q) (h:Hid Y->Hid q->p:=by
 intro yy g
 (apply Axd rfl rfl rfl ‹_›;(focus (intro HX hHX;simp -implicitDefEqProofs (disch:=first | omega | (simp only [qd]<;>omega)) only [xq,↓xp,qc,Nat.reduceAdd,List.range,List.range.loop,fine,Nat.reduceEqDiff,↓reduceIte,yielded,reduceCtorEq,Nat.reduceLT,Nat.reduceMul,Nat.reduceSub,one,Nat.reduceLeDiff,Aqg,yy.out,aq,↓ap,qe0,qe1,qe2, *,-g,-yy,-hK,Axa]<;>(first | exact rfl | exact ⟨rfl,rfl⟩ | exact ⟨rfl,trivial⟩)));simp -implicitDefEqProofs (disch:=first | omega | (simp only [qd]<;>omega)) only [Aq3,Aql])
 exact Hid.out g):Hid p:=⟨h ⟨y⟩ ⟨g⟩⟩
theorem zF {Y p q:Prop} (y:Y) (g:q) (h:Hid Y->Hid q->p:=by
 intro yy g
 (apply Cjd hOz rfl rfl;(focus (intro HX;simp -implicitDefEqProofs (disch:=first | omega | (simp only [qd]<;>omega)) only [xq,↓xp,qc,Nat.reduceAdd,List.range,List.range.loop,fine,Nat.reduceEqDiff,↓reduceIte,yielded,reduceCtorEq,Nat.reduceLT,Nat.reduceMul,Nat.reduceSub,one,Nat.reduceLeDiff,Aqg,yy.out,aq,↓ap,qe0,qe1,qe2, *,-g,-yy,-hK,Axa]<;>(first | exact rfl | exact ⟨rfl,rfl⟩ | exact ⟨rfl,trivial⟩)));simp -implicitDefEqProofs (disch:=first | omega | (simp only [qd]<;>omega)) only [Aq3,Aql])
 exact Hid.out g):Hid p:=⟨h ⟨y⟩ ⟨g⟩⟩
theorem zG {Y p q:Prop} (y:Y) (g:q) (h:Hid Y->Hid q->p:=by
 intro yy g
 (apply By5 hOz rfl rfl rfl rfl (by simp -implicitDefEqProofs (disch:=omega) only [act_get?,Axf,Nat.reduceEqDiff,↓reduceIte,beq_self_eq_true,Bool.and_self, *,-g,-yy]);(focus (intro HX;simp -implicitDefEqProofs (disch:=first | omega | (simp only [qd]<;>omega)) only [xq,↓xp,qc,Nat.reduceAdd,List.range,List.range.loop,fine,Nat.reduceEqDiff,↓reduceIte,yielded,reduceCtorEq,Nat.reduceLT,Nat.reduceMul,Nat.reduceSub,one,Nat.reduceLeDiff,Aqg,yy.out,aq,↓ap,qe0,qe1,qe2, *,-g,-yy,-hK,Axa]<;>(first | exact rfl | exact ⟨rfl,rfl⟩ | exact ⟨rfl,trivial⟩)));simp -implicitDefEqProofs (disch:=first | omega | (simp only [qd]<;>omega)) only [Aq3,Aql])
 exact Hid.out g):Hid p:=⟨h ⟨y⟩ ⟨g⟩⟩
theorem zK {Y p q:Prop} (y:Y) (g:q) (h:Hid Y->Hid q->p:=by
 intro yy g
 (apply Bjy hOz rfl rfl ‹_›;(focus (intro HX hHX;simp -implicitDefEqProofs (disch:=first | omega | (simp only [qd]<;>omega)) only [xq,↓xp,qc,Nat.reduceAdd,List.range,List.range.loop,fine,Nat.reduceEqDiff,↓reduceIte,yielded,reduceCtorEq,Nat.reduceLT,Nat.reduceMul,Nat.reduceSub,one,Nat.reduceLeDiff,Aqg,yy.out,aq,↓ap,qe0,qe1,qe2, *,-g,-yy,-hK,Axa]<;>(first | exact rfl | exact ⟨rfl,rfl⟩ | exact ⟨rfl,trivial⟩)));simp -implicitDefEqProofs (disch:=first | omega | (simp only [qd]<;>omega)) only [Aq3,Aql])
 exact Hid.out g):Hid p:=⟨h ⟨y⟩ ⟨g⟩⟩
theorem zL {Y p q:Prop} (y:Y) (g:q) (h:Hid Y->Hid q->p:=by
 intro yy g
 (apply Bjy hOz rfl rfl (by rfl);(focus (intro HX hHX;subst hHX;simp -implicitDefEqProofs (disch:=first | omega | (simp only [qd]<;>omega)) only [xq,↓xp,qc,Nat.reduceAdd,List.range,List.range.loop,fine,Nat.reduceEqDiff,↓reduceIte,yielded,reduceCtorEq,Nat.reduceLT,Nat.reduceMul,Nat.reduceSub,one,Nat.reduceLeDiff,Aqg,yy.out,aq,↓ap,qe0,qe1,qe2, *,-g,-yy,-hK,Axa]<;>(first | exact rfl | exact ⟨rfl,rfl⟩ | exact ⟨rfl,trivial⟩)));simp -implicitDefEqProofs (disch:=first | omega | (simp only [qd]<;>omega)) only [Aq3,Aql])
 exact Hid.out g):Hid p:=⟨h ⟨y⟩ ⟨g⟩⟩
theorem zM {Y p q:Prop} (y:Y) (g:q) (h:Hid Y->Hid q->p:=by
 intro yy g
 (refine Ay9 hOz rfl rfl ?_;simp -implicitDefEqProofs (disch:=first | omega | (simp only [qd]<;>omega)) only [xq,↓xp,qc,Nat.reduceAdd,List.range,List.range.loop,fine,Nat.reduceEqDiff,↓reduceIte,yielded,reduceCtorEq,Nat.reduceLT,Nat.reduceMul,Nat.reduceSub,one,Nat.reduceLeDiff,Aqg,yy.out,aq,↓ap,qe0,qe1,qe2, *,-g,-yy,-hK])
 exact Hid.out g):Hid p:=⟨h ⟨y⟩ ⟨g⟩⟩
theorem zN {Y p q:Prop} (y:Y) (g:q) (h:Hid Y->Hid q->p:=by
 intro yy g
 (refine Cje hOz rfl rfl rfl rfl (by simp -implicitDefEqProofs (disch:=omega) only [act_get?,Axf,Nat.reduceEqDiff,↓reduceIte,beq_self_eq_true,Bool.and_self, *,-g,-yy]) ?_;simp -implicitDefEqProofs (disch:=first | omega | (simp only [qd]<;>omega)) only [xq,↓xp,qc,Nat.reduceAdd,List.range,List.range.loop,fine,Nat.reduceEqDiff,↓reduceIte,yielded,reduceCtorEq,Nat.reduceLT,Nat.reduceMul,Nat.reduceSub,one,Nat.reduceLeDiff,Aqg,yy.out,aq,↓ap,qe0,qe1,qe2, *,-g,-yy,-hK])
 exact Hid.out g):Hid p:=⟨h ⟨y⟩ ⟨g⟩⟩
theorem zR {Y p q:Prop} (y:Y) (g:q) (h:Hid Y->Hid q->p:=by
 intro yy g
 (first | (refine Dxc hOz rfl rfl ?_;simp -implicitDefEqProofs (disch:=first | omega | (simp only [qd]<;>omega)) only [xq,↓xp,qc,Nat.reduceAdd,List.range,List.range.loop,fine,Nat.reduceEqDiff,↓reduceIte,yielded,reduceCtorEq,Nat.reduceLT,Nat.reduceMul,Nat.reduceSub,one,Nat.reduceLeDiff,Aqg,yy.out,aq,↓ap,qe0,qe1,qe2, *,-g,-yy,-hK,exists_eq_left',beq_self_eq_true,Bool.not_true,Bool.not_false,Bool.false_eq_true,if_false,if_true]) | (refine Cwq hOz rfl rfl rfl rfl ?_ ?_;(focus (simp -implicitDefEqProofs (disch:=omega) only [act_get?,Axf,Nat.reduceEqDiff,↓reduceIte,beq_self_eq_true,Bool.and_self,Bool.not_true,Bool.not_false,Bool.true_and,Bool.false_and,Bool.and_true,Bool.and_false,Bool.or_true,Bool.true_or,Bool.or_false,Bool.false_or,decide_true,decide_false,if_true,Bool.false_eq_true,if_false, *,-g,-yy];done));simp -implicitDefEqProofs (disch:=first | omega | (simp only [qd]<;>omega)) only [xq,↓xp,qc,Nat.reduceAdd,List.range,List.range.loop,fine,Nat.reduceEqDiff,↓reduceIte,yielded,reduceCtorEq,Nat.reduceLT,Nat.reduceMul,Nat.reduceSub,one,Nat.reduceLeDiff,Aqg,yy.out,aq,↓ap,qe0,qe1,qe2, *,-g,-yy,-hK,exists_eq_left',beq_self_eq_true,Bool.not_true,Bool.not_false,Bool.false_eq_true,if_false,if_true]) | (refine Dxb hOz rfl rfl rfl (act_get? (by omega)) ?_ ?_;(focus ((simp -implicitDefEqProofs (disch:=omega) only [Axf,Nat.reduceEqDiff,↓reduceIte,beq_self_eq_true,Bool.and_self,Bool.not_true,Bool.not_false,Bool.true_and,Bool.false_and,Bool.and_true,Bool.and_false,Bool.or_true,Bool.true_or,Bool.or_false,Bool.false_or,decide_true,decide_false,if_true,Bool.false_eq_true,if_false,Bvh, *,-g,-yy]<;>rfl);done));simp -implicitDefEqProofs (disch:=first | omega | (simp only [qd]<;>omega)) only [Aq3,Aql,Nat.reduceAdd]))
 exact Hid.out g):Hid p:=⟨h ⟨y⟩ ⟨g⟩⟩
end Go.X
namespace Go.Proofs.YtaehjjbekjglkaaGreatDoor
open Go Go.X Go.Proofs.Tryz
def Dvz:=fun H=>Ajh (H:=H) sizeOf4
def Dv0:=fun H=>Aq4 (H:=H) underlying108 sizeOf107
def Dv1:=fun H=>Aq4 (H:=H) underlying148 sizeOf110
def Dv2:=fun H=>Aq4 (H:=H) underlying77 sizeOf3
def Dv3:=fun H=>Aq4 (H:=H) underlying80 sizeOf3
def Dv4:=fun H=>Aq9 (H:=H) underlying22
def Dv5:=fun H=>Aq9 (H:=H) underlying23
def Dv6:=fun H=>Aq9 (H:=H) underlying24
def Dv7:=fun H=>Aq9 (H:=H) underlying95
def Dv8:=fun H=>Aqd (H:=H) underlying107 (i:=0) rfl (off:=0) rfl sizeOf3
def Dv9:=fun H=>Aqd (H:=H) underlying107 (i:=1) rfl (off:=1) rfl sizeOf3
def Dwa:=fun H=>Aqd (H:=H) underlying107 (i:=2) rfl (off:=2) rfl sizeOf4
def Dwb:=fun H=>Aqd (H:=H) underlying110 (i:=0) rfl (off:=0) rfl sizeOf108
def Dwc:=fun H=>Aqd (H:=H) underlying110 (i:=1) rfl (off:=18) rfl sizeOf77
def Dwd:=fun H=>Aqd (H:=H) underlying110 (i:=2) rfl (off:=24) rfl sizeOf4
def Dwe:=fun H=>Aqd (H:=H) underlying140 (i:=0) rfl (off:=0) rfl sizeOf26
def Dwf:=fun H=>Aqd (H:=H) underlying140 (i:=1) rfl (off:=4) rfl sizeOf138
def Dwg:=fun H=>Aqd (H:=H) underlying150 (i:=0) rfl (off:=0) rfl sizeOf3
def Dwh:=fun H=>Aqd (H:=H) underlying150 (i:=1) rfl (off:=1) rfl sizeOf148
def Dwi:=fun H=>Aqd (H:=H) underlying26 (i:=0) rfl (off:=0) rfl sizeOf3
def Dwj:=fun H=>Aqd (H:=H) underlying26 (i:=1) rfl (off:=1) rfl sizeOf22
def Dwk:=fun H=>Aqd (H:=H) underlying26 (i:=2) rfl (off:=2) rfl sizeOf23
def Dwl:=fun H=>Aqd (H:=H) underlying26 (i:=3) rfl (off:=3) rfl sizeOf24
def Dwm:=fun H=>Aqd (H:=H) underlying28 (i:=0) rfl (off:=0) rfl sizeOf3
def Dwn:=fun H=>Aqd (H:=H) underlying28 (i:=1) rfl (off:=1) rfl sizeOf3
def Dwo:=fun H=>Aqd (H:=H) underlying30 (i:=0) rfl (off:=0) rfl sizeOf3
def Dwp:=fun H=>Aqd (H:=H) underlying30 (i:=1) rfl (off:=1) rfl sizeOf3
def Dwq:=fun H=>Aqd (H:=H) underlying30 (i:=2) rfl (off:=2) rfl sizeOf28
def Dwr:=fun H=>Aqd (H:=H) underlying32 (i:=0) rfl (off:=0) rfl sizeOf3
def Dws:=fun H=>Aqd (H:=H) underlying32 (i:=1) rfl (off:=1) rfl sizeOf3
def Dwt:=fun H=>Aqd (H:=H) underlying32 (i:=2) rfl (off:=2) rfl sizeOf4
def Dwu:=fun H=>Aqd (H:=H) underlying83 (i:=0) rfl (off:=0) rfl sizeOf3
def Dwv:=fun H=>Aqd (H:=H) underlying83 (i:=1) rfl (off:=1) rfl sizeOf77
def Dww:=fun H=>Aqh (H:=H) underlying105 rfl
def Dwx:=fun H=>Aqh (H:=H) underlying138 rfl
def Dwy:=fun H=>Aqh (H:=H) underlying152 rfl
def Dwz:=fun H=>Aqh (H:=H) underlying22 rfl
def Dw0:=fun H=>Aqh (H:=H) underlying23 rfl
def Dw1:=fun H=>Aqh (H:=H) underlying24 rfl
def Dw2:=fun H=>Aqh (H:=H) underlying3 rfl
def Dw3:=fun H=>Aqh (H:=H) underlying4 rfl
def Dw4:=fun H=>Aqh (H:=H) underlying58 rfl
def Dw5:=fun H=>Aqh (H:=H) underlying78 rfl
def Dw6:=fun H=>Aqp (H:=H) underlying110 rfl sizeOf110
def Dw7:=fun H=>Aqp (H:=H) underlying150 rfl sizeOf150
def Dw8:=fun H=>Aqp (H:=H) underlying166 rfl sizeOf166
def Dw9:=fun H=>Aqp (H:=H) underlying26 rfl sizeOf26
def Dya:=fun H=>Aqp (H:=H) underlying28 rfl sizeOf28
def Dyb:=fun H=>Aqp (H:=H) underlying30 rfl sizeOf30
def Dyc:=fun H=>Aqp (H:=H) underlying32 rfl sizeOf32
def Dyd:=fun H=>Aqp (H:=H) underlying77 rfl sizeOf77
def Dye:=fun H=>Aqp (H:=H) underlying80 rfl sizeOf80
def Dyf:=fun H=>Aqp (H:=H) underlying83 rfl sizeOf83
def Dyg:=fun H=>Aqs (H:=H) sizeOf150
def Dyh:=fun H=>Aqs (H:=H) sizeOf26
def Dyi:=fun H=>Aqs (H:=H) sizeOf28
def Dyj:=fun H=>Aqs (H:=H) sizeOf30
def Dyk:=fun H=>Aqs (H:=H) sizeOf32
def Dyl:=fun H=>Aqs (H:=H) sizeOf77
def Dym:=fun H=>Aqs (H:=H) sizeOf80
def Dyn:=fun H=>Aqt (H:=H) underlying101 sizeOf150
def Dyo:=fun H=>Aqt (H:=H) underlying22 sizeOf30
def Dyp:=fun H=>Aqt (H:=H) underlying23 sizeOf3
def Dyq:=fun H=>Aqt (H:=H) underlying24 sizeOf32
def Dyr:=fun H=>Aqt (H:=H) underlying95 sizeOf23
def Dys:=fun H=>Aqu (H:=H) (P:=Tryz.prog) (h:=zeroValue107)
def Dyt:=fun H=>Aqu (H:=H) (P:=Tryz.prog) (h:=zeroValue150)
def Dyu:=fun H=>Aqu (H:=H) (P:=Tryz.prog) (h:=zeroValue152)
def Dyv:=fun H=>Aqu (H:=H) (P:=Tryz.prog) (h:=zeroValue161)
def Dyw:=fun H=>Aqu (H:=H) (P:=Tryz.prog) (h:=zeroValue26)
def Dyx:=fun H=>Aqu (H:=H) (P:=Tryz.prog) (h:=zeroValue28)
def Dyy:=fun H=>Aqu (H:=H) (P:=Tryz.prog) (h:=zeroValue3)
def Dyz:=fun H=>Aqu (H:=H) (P:=Tryz.prog) (h:=zeroValue30)
def Dy0:=fun H=>Aqu (H:=H) (P:=Tryz.prog) (h:=zeroValue32)
def Dy1:=fun H=>Aqu (H:=H) (P:=Tryz.prog) (h:=zeroValue77)
def Dy2:=fun H=>Aqu (H:=H) (P:=Tryz.prog) (h:=zeroValue78)
def Dy3:=fun H=>Aqu (H:=H) (P:=Tryz.prog) (h:=zeroValue80)
def Dy4:=fun H=>Avm (H:=H) underlying23 sizeOf3 zeroValue3 rfl typeInfo3 (by decide)
def Dy5:=fun H=>Axi (H:=H) sizeOf3
def Dy6:=fun H=>Azk (H:=H) sizeOf22
def Dy7:=fun H=>Azk (H:=H) sizeOf23
def Dy8:=fun H=>Azk (H:=H) sizeOf24
def Dy9:=fun H=>Bk6 (H:=H) underlying23 sizeOf3
def Eqa:=fun H=>Bk7 (H:=H) underlying23 sizeOf3
def Eqb:=fun H=>Bkm (H:=H) underlying3 underlying67
def Eqc:=fun H=>Bqq (H:=H) underlying23 sizeOf3
def Eqd:=fun H=>Bzv (H:=H) sizeOf78
def Eqe:=fun H=>Dqe (H:=H) underlying143 rfl
end Go.Proofs.YtaehjjbekjglkaaGreatDoor
end
section
namespace Go.Proofs.YtaehjjbekjglkaaGreatDoor
open Go Go.X Go.Proofs.Tryz
def Bj7:=aN @Dza (aN @Eqb (fun H=>Bkm (H:=H) underlying67 underlying3))
def Cwm:=@Bqh
def Aw6:=aN (fun H=>Aqd (H:=H) underlying69 (i:=1) rfl (off:=1) rfl sizeOf3) (aN @Dw2 (aN @Eqb (aN (fun H=>Aqd (H:=H) underlying69 (i:=0) rfl (off:=0) rfl sizeOf23) (aN @Dw0 (aN @Dv5 (aN @Dyp (aN @Dy5 (aN (fun H=>Aqd (H:=H) underlying69 (i:=2) rfl (off:=2) rfl sizeOf67) (aN (fun H=>Aqh (H:=H) underlying67 rfl) (fun H=>Axi (H:=H) sizeOf67))))))))))
def Cwo:=@Bqh
def TinI (H:Hp) (b k:Nat):Prop:=
 ∃(sa:Option Addr) (sl sc:Nat) (g st:Int),H b=some (true,.cells #[.slice sa sl sc,.int .i64 g,.int .u64 st] 69 (0,0))/\0<=g/\g+k<=4611686018427387904 /\
  ∀i:Nat,i<sl->∃sb so c e fr x,sa=some ⟨sb,so,none⟩/\H sb=some (false,.cells c e fr)/\c[so+i]?=some (.int .i64 x)
theorem TinI.new {H:Hp} {b k b2:Nat} {o:Obj} (h:TinI H b k) (hb:H b2=none):TinI (H.set b2 o) b k:=by
 obtain ⟨sa,sl,sc,g,st,h1,h2,h3,h4⟩:=h
 refine ⟨sa,sl,sc,g,st,Hp.le_set hb _ _ h1,h2,h3,fun i hi=>?_⟩
 obtain ⟨sb,so,c,e,fr,x,ha,hs,hx⟩:=h4 i hi
 exact ⟨sb,so,c,e,fr,x,ha,Hp.le_set hb _ _ hs,hx⟩
theorem TinI.own {H:Hp} {b k b2:Nat} {o o':Obj} (h:TinI H b k) (hb:H b2=some (true,o)) (hn:b≠b2):TinI (H.set b2 o') b k:=by
 obtain ⟨sa,sl,sc,g,st,h1,h2,h3,h4⟩:=h
 refine ⟨sa,sl,sc,g,st,by rw [Axp,if_neg hn];exact h1,h2,h3,fun i hi=>?_⟩
 obtain ⟨sb,so,c,e,fr,x,ha,hs,hx⟩:=h4 i hi
 exact ⟨sb,so,c,e,fr,x,ha,by rw [Axp,if_neg (fun e=>by subst e;rw [hb] at hs;cases hs)];exact hs,hx⟩
theorem TinI.less {H:Hp} {b k k':Nat} (h:TinI H b k) (hk:k'<=k):TinI H b k':=by
 obtain ⟨sa,sl,sc,g,st,h1,h2,h3,h4⟩:=h
 exact ⟨sa,sl,sc,g,st,h1,h2,by omega,h4⟩
theorem Cv9 (n:Int):0<=IntKind.u64.wrap n/\IntKind.u64.wrap n<18446744073709551616:=by
 unfold IntKind.wrap
 simp only [IntKind.bits,IntKind.signed,Bool.false_and,Bool.false_eq_true,if_false]
 omega
theorem shr9 (x:Int) (h:0<=x) (h':x<18446744073709551616):0<=x.fdiv (2 ^ (min (9:Int).toNat IntKind.u64.bits))/\x.fdiv (2 ^ (min (9:Int).toNat IntKind.u64.bits))<36028797018963968:=by
 have e:(2:Int) ^ (min (9:Int).toNat IntKind.u64.bits)=512:=rfl
 rw [e,Int.fdiv_eq_ediv_of_nonneg _ (by omega)]
 omega
theorem Bxj (f:(n:Nat)->BitVec n->BitVec n->BitVec n) (x y:Int):0<=bitv f .u64 x y/\bitv f .u64 x y<18446744073709551616:=Cv9 _
theorem Cve (m:Md) (H:Hp) (b k:Nat) (hT:TinI H b (k+1)) :
  FnX Tryz.prog m 50 #[.pointer (some ⟨b,0,none⟩)] H fun e H'=>∃v:Int,0<=v/\v<36028797018963968/\e=.returned (.int .u64 v)/\∃o,H'=H.set b o/\TinI H' b k:=by
 obtain ⟨sa,sl,sc,g,st,hb,hg,hg',hs⟩:=hT
 refine Aqn func50 rfl ntmps50 (by simp) ?_
 (refine @unH _ ?_;refine z1 Aw6 ?_)
 (refine Awx ?_;intro K hK;simp -implicitDefEqProofs (disch:=first | omega | (simp only [qd]<;>omega)) only [xq,↓xp,qc,Nat.reduceAdd,List.range,List.range.loop,fine,Nat.reduceEqDiff,↓reduceIte,yielded,reduceCtorEq,Nat.reduceLT,Nat.reduceMul,Nat.reduceSub,one,Nat.reduceLeDiff,Aqg,Aw6,cell_of hb,exists_eq_left'];refine hK _ _ ?_;clear hK K)
 refine Avt (fun a' H'=>∃e x,a'=act 76 e []/\H'=H/\e 0=.pointer (some ⟨b,0,none⟩)/\e 3=.int .u64 x) ?_ ?_
 ·refine Cx4 10 [(true,0),(true,1),(true,2),(true,3),(true,4),(true,5),(true,6),(true,7),(true,8),(true,9)] (by kernel_rfl) (by kernel_rfl) (by simp) (by kernel_rfl) ?_;intro K hK
  iterate 10 (apply Akj rfl rfl rfl;(focus (simp -implicitDefEqProofs (disch:=first | omega | (simp only [qd]<;>omega)) only [xq,↓xp,qc,Nat.reduceAdd,List.range,List.range.loop,fine,Nat.reduceEqDiff,↓reduceIte,yielded,reduceCtorEq,Nat.reduceLT,Nat.reduceMul,Nat.reduceSub,one,Nat.reduceLeDiff,Aqg,Aw6,cell_of hb,exists_eq_left',and_true,true_and]<;>(first | exact rfl | exact ⟨rfl,rfl⟩)));simp -implicitDefEqProofs (disch:=first | omega | (simp only [qd]<;>omega)) only [Aq3,Aql])
  refine Aky (hK _ _ ?_);clear hK K
  refine Avs (by simp -implicitDefEqProofs (disch:=first | omega | (simp only [qd]<;>omega)) only [Aq7,Axf,Nat.reduceEqDiff,↓reduceIte];rfl) ?_
  by_cases hlt:g<sl
  ·simp only [hlt,decide_true,if_true]
   obtain ⟨sb,so,c,e,fr,x,rfl,hsb,hcx⟩:=hs g.toNat (by omega)
   have hcx':c[so+g.toNat*1]?=some (.int .i64 x):=by simpa using hcx
   refine Aka 15 [(true,0),(true,1),(true,2),(true,3),(true,4),(true,5),(true,6),(true,7),(true,8),(true,9),(true,10),(true,11),(true,12),(true,13),(true,14)] (by kernel_rfl) (by kernel_rfl) (by simp) (by kernel_rfl) ?_;intro K hK
   iterate 15 (apply Akj rfl rfl rfl;(focus (simp -implicitDefEqProofs (disch:=first | omega | (simp only [qd]<;>omega)) only [xq,↓xp,qc,Nat.reduceAdd,List.range,List.range.loop,fine,Nat.reduceEqDiff,↓reduceIte,yielded,reduceCtorEq,Nat.reduceLT,Nat.reduceMul,Nat.reduceSub,one,Nat.reduceLeDiff,Aqg,Aw6,cell_of hb,cell_of hsb,hcx',exists_eq_left',and_true,true_and]<;>(first | exact rfl | exact ⟨rfl,rfl⟩)));simp -implicitDefEqProofs (disch:=first | omega | (simp only [qd]<;>omega)) only [Aq3,Aql])
   refine Aky (hK _ _ ?_);clear hK K
   exact ⟨_,_,rfl,rfl,rfl,rfl⟩
  ·simp only [hlt,decide_false,Bool.false_eq_true,if_false]
   exact Aza ⟨_,_,rfl,rfl,rfl,rfl⟩
 ·rintro a' H' ⟨e,x,rfl,rfl,h0,h3⟩
  (refine Awx ?_;intro K hK;simp -implicitDefEqProofs (disch:=first | omega | (simp only [qd]<;>omega)) only [xq,↓xp,qc,Nat.reduceAdd,List.range,List.range.loop,fine,Nat.reduceEqDiff,↓reduceIte,yielded,reduceCtorEq,Nat.reduceLT,Nat.reduceMul,Nat.reduceSub,one,Nat.reduceLeDiff,Aqg,Aw6,h0,h3,cell_of hb,exists_eq_left',Ak2 hb,true_and];refine hK _ _ ?_;clear hK K)
  (refine @unH _ ?_;refine z1 (aN Aw6 (aN @h0 (aN @h3 (aN @exists_eq_left'.{1} @true_and)))) ?_)
  refine Cx4 13 [(true,0),(true,1),(true,2),(true,3),(true,4),(true,5),(true,6),(true,7),(true,8),(true,9),(true,10),(true,11),(true,12),(false,13)] (by kernel_rfl) (by kernel_rfl) (by simp) (by kernel_rfl) ?_;intro K hK
  iterate 13 (apply Akj rfl rfl rfl;(focus (simp -implicitDefEqProofs (disch:=first | omega | (simp only [qd]<;>omega)) only [xq,↓xp,qc,Nat.reduceAdd,List.range,List.range.loop,fine,Nat.reduceEqDiff,↓reduceIte,yielded,reduceCtorEq,Nat.reduceLT,Nat.reduceMul,Nat.reduceSub,one,Nat.reduceLeDiff,Aqg,Aw6,h0,h3,exists_eq_left',and_true,true_and]<;>(first | exact rfl | exact ⟨rfl,rfl⟩)));simp -implicitDefEqProofs (disch:=first | omega | (simp only [qd]<;>omega)) only [Aq3,Aql])
  refine Bzj ?_
  (refine @unH _ ?_;refine z0 (aN Aw6 (aN @h0 (aN @h3 (aN @exists_eq_left'.{1} @true_and)))) ?_)
  refine hK _ _ ?_;clear hK K
  (refine @unH _ ?_;refine z1 (aN Aw6 (aN @h0 (aN @h3 (aN @exists_eq_left'.{1} @true_and)))) ?_)
  (refine @unH _ ?_;refine z1 (aN Aw6 (aN @h0 (aN @h3 (aN @exists_eq_left'.{1} @true_and)))) ?_)
  (refine @unH _ ?_;refine z9 results50 ?_)
  refine ⟨_,(shr9 _ (Bxj _ _ _).1 (Bxj _ _ _).2).1,(shr9 _ (Bxj _ _ _).1 (Bxj _ _ _).2).2,rfl,_,rfl,?_⟩
  refine ⟨sa,sl,sc,g+1,_,by rw [Axp,if_pos rfl],by omega,by omega,fun i hi=>?_⟩
  obtain ⟨sb,so,c,e',fr,x',h1,h2,h4⟩:=hs i hi
  exact ⟨sb,so,c,e',fr,x',h1,by rw [Axp,if_neg (fun h=>by subst h;rw [hb] at h2;cases h2)];exact h2,h4⟩
theorem Awf (m:Md) (H:Hp) (b k:Nat) (n:Int) (hn:n<36028797018963967) (hT:TinI H b (k+1)) :
  FnX Tryz.prog m 14 #[.pointer (some ⟨b,0,none⟩),.int .i64 n] H fun e H'=>∃r:Int,0<=r/\(r<=n∨r=0)/\e=.returned (.int .i64 r)/\∃o,H'=H.set b o/\TinI H' b k:=by
 refine Aqn func14 rfl ntmps14 (by simp) ?_
 (refine @unH _ ?_;refine z1 Bj7 ?_)
 (refine @unH _ ?_;refine z8 Bj7 ?_;(try clear hK K);intro K hK _)
 refine (Cve m H b k hT).runs.mono ?_;rintro _ _ ⟨v,hv0,hv1,rfl,o,rfl,hT'⟩;simp -implicitDefEqProofs (disch:=first | omega | (simp only [qd]<;>omega)) only [xq,↓xp,qc,Nat.reduceAdd,List.range,List.range.loop,fine,Nat.reduceEqDiff,↓reduceIte,yielded,reduceCtorEq,Nat.reduceLT,Nat.reduceMul,Nat.reduceSub,one,Nat.reduceLeDiff,Aqg,Bj7]
 refine hK _ _ ?_;clear hK K
 refine Avt (fun a' H'=>∃e,1<=n/\a'=act 16 e []/\H'=H.set b o/\e 1=.int .i64 n/\e 5=.int .u64 v) ?_ ?_
 ·(refine @unH _ ?_;refine z1 Bj7 ?_)
  refine Avs (by simp -implicitDefEqProofs (disch:=first | omega | (simp only [qd]<;>omega)) only [Aq7,Axf,Nat.reduceEqDiff,↓reduceIte];rfl) ?_
  by_cases h:n<1
  ·simp only [h,decide_true,if_true]
   (refine @unH _ ?_;refine z1 Bj7 ?_)
   refine Axr ?_
   simp only [thn]
   rw [Aq8,Ayk results14 (by decide)]
   exact ⟨0,by omega,.inr rfl,rfl,o,rfl,hT'⟩
  ·simp only [h,decide_false,Bool.false_eq_true,if_false]
   exact Aza ⟨_,by omega,rfl,rfl,rfl,rfl⟩
 ·rintro a' H' ⟨e,h1,rfl,rfl,e1,e5⟩
  have hw:IntKind.u64.wrap n=n:=IntWalk.u64_in n (by omega)
  have hw':IntKind.u64.wrap (n+1)=n+1:=IntWalk.u64_in _ (by omega)
  have hm:v.tmod (n+1)=v%(n+1):=Int.tmod_eq_emod_of_nonneg hv0
  have hr0:=Int.emod_nonneg v (show n+1≠0 by omega)
  have hr1:=Int.emod_lt_of_pos v (show 0<n+1 by omega)
  have hw2:IntKind.i64.wrap (v%(n+1))=v%(n+1):=IntWalk.i64_in _ (by omega)
  (refine @unH _ ?_;refine z1 (aN Bj7 (aN @e1 (aN @e5 (aN @hw (aN @hw' (aN @hm @hw2)))))) ?_)
  (refine @unH _ ?_;refine z9 results14 ?_)
  exact ⟨_,hr0,.inl (by omega),rfl,o,rfl,hT'⟩
theorem Cqr (m:Md) (H:Hp) (b k:Nat) (lo hi:Int) (h0 : -1000000<=lo) (h1:lo<=1000000) (h2 : -1000000<=hi) (h3:hi<=1000000) (hT:TinI H b (k+1)) :
  FnX Tryz.prog m 93 #[.pointer (some ⟨b,0,none⟩),.int .i64 lo,.int .i64 hi] H fun e H'=>∃r:Int,lo<=r/\(r<=hi∨r=lo)/\e=.returned (.int .i64 r)/\∃o,H'=H.set b o/\TinI H' b k:=by
 refine Aqn func93 rfl ntmps93 (by simp) ?_
 (refine @unH _ ?_;refine z1 @Cwo ?_)
 (refine @unH _ ?_;refine z8 @Cwo ?_;(try clear hK K);intro K hK _)
 refine (Awf m H b k (hi-lo) (by omega) hT).runs.mono ?_
 rintro _ _ ⟨r,hr0,hr1,rfl,o,rfl,hT'⟩
 have hr2:r<=2000000:=by omega
 (refine @unH _ ?_;refine z0 @Cwo ?_)
 refine hK _ _ ?_;clear hK K
 (refine @unH _ ?_;refine z9 results93 ?_)
 exact ⟨_,by omega,by omega,rfl,o,rfl,hT'⟩
theorem By6 (m:Md) (H:Hp) (b k:Nat) (n:Int) (h0 : -1000000<=n) (h1:n<=1000000) (hT:TinI H b (k+1)) :
  FnX Tryz.prog m 31 #[.pointer (some ⟨b,0,none⟩),.int .i64 n] H fun e H'=>∃r:Bool,e=.returned (.bool r)/\∃o,H'=H.set b o/\TinI H' b k:=by
 refine Aqn func31 rfl ntmps31 (by simp) ?_
 (refine @unH _ ?_;refine z1 @Cwm ?_)
 (refine @unH _ ?_;refine z8 @Cwm ?_;(try clear hK K);intro K hK _)
 refine (Awf m H b k (n-1) (by omega) hT).runs.mono ?_;rintro _ _ ⟨r,hr0,hr1,rfl,o,rfl,hT'⟩;simp -implicitDefEqProofs (disch:=first | omega | (simp only [qd]<;>omega)) only [xq,↓xp,qc,Nat.reduceAdd,List.range,List.range.loop,fine,Nat.reduceEqDiff,↓reduceIte,yielded,reduceCtorEq,Nat.reduceLT,Nat.reduceMul,Nat.reduceSub,one,Nat.reduceLeDiff,Aqg,Cwm]
 refine hK _ _ ?_;clear hK K
 (refine @unH _ ?_;refine z9 results31 ?_)
 exact ⟨_,rfl,o,rfl,hT'⟩
end Go.Proofs.YtaehjjbekjglkaaGreatDoor
end
