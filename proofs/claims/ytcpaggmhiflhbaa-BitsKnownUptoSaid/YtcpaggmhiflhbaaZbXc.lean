/- What a closed function comes to, in stages: printed by cw.py. -/
import Derived.Test.YtcpaggmhiflhbaaZbXb0
import Derived.Test.YtcpaggmhiflhbaaZbXb1
import Derived.Test.YtcpaggmhiflhbaaZbXb2
import Derived.Test.YtcpaggmhiflhbaaZbXb3
import Derived.Test.YtcpaggmhiflhbaaZbXb4
set_option maxRecDepth 100000
namespace Go.Zy
open Go Go.Sim Go.Proofs Go.RowKit
set_option maxHeartbeats 40000000
theorem walk_41 (b : Array Obj) : Sim.Cn Try.prog 41 #[] ⟨b, #[], 0⟩ (fun v _ => v = .bool true) := by
  refine w41_0 ?_
  refine sg (s0 b) (by kernel_rfl) (by kernel_rfl) ?_
  unfold vv0
  refine ty (x := #[.int .i64 0, .int .i64 3, .int .u32 0]) (by kernel_rfl) ?_
  refine ty (x := (0 : Int)) (by kernel_rfl) ?_
  refine ty (x := (3 : Int)) (by kernel_rfl) ?_
  refine ty (x := (0 : Int)) (by kernel_rfl) ?_
  refine sg (s1 b) (by kernel_rfl) (by kernel_rfl) ?_
  unfold vv1
  refine ty (x := #[.int .i64 1, .int .i64 2, .int .u32 0]) (by kernel_rfl) ?_
  refine ty (x := (1 : Int)) (by kernel_rfl) ?_
  refine ty (x := (2 : Int)) (by kernel_rfl) ?_
  refine ty (x := (0 : Int)) (by kernel_rfl) ?_
  refine sg (s2 b) (by kernel_rfl) (by kernel_rfl) ?_
  unfold vv2
  refine ty (x := #[.int .i64 4, .int .i64 0, .int .u32 0]) (by kernel_rfl) ?_
  refine ty (x := (4 : Int)) (by kernel_rfl) ?_
  refine ty (x := (0 : Int)) (by kernel_rfl) ?_
  refine ty (x := (0 : Int)) (by kernel_rfl) ?_
  refine sg (s3 b) (by kernel_rfl) (by kernel_rfl) ?_
  unfold vv3
  refine ty (x := #[.int .i64 0, .int .i64 11, .int .u32 0]) (by kernel_rfl) ?_
  refine ty (x := (0 : Int)) (by kernel_rfl) ?_
  refine ty (x := (11 : Int)) (by kernel_rfl) ?_
  refine ty (x := (0 : Int)) (by kernel_rfl) ?_
  refine sg (s4 b) (by kernel_rfl) (by kernel_rfl) ?_
  unfold vv4
  refine ty (x := #[.int .i64 0, .int .i64 2, .int .u32 0]) (by kernel_rfl) ?_
  refine ty (x := (0 : Int)) (by kernel_rfl) ?_
  refine ty (x := (2 : Int)) (by kernel_rfl) ?_
  refine ty (x := (0 : Int)) (by kernel_rfl) ?_
  refine sg (s5 b) (by kernel_rfl) (by kernel_rfl) ?_
  unfold vv5
  refine ty (x := #[.int .i64 4, .int .i64 0, .int .u32 0]) (by kernel_rfl) ?_
  refine ty (x := (4 : Int)) (by kernel_rfl) ?_
  refine ty (x := (0 : Int)) (by kernel_rfl) ?_
  refine ty (x := (0 : Int)) (by kernel_rfl) ?_
  refine sg (s6 b) (by kernel_rfl) (by kernel_rfl) ?_
  unfold vv6
  refine ty (x := ((some (⟨60, 0, some 0⟩ : Addr)), (13, 13))) (by kernel_rfl) ?_
  refine sg (s7 b) (by kernel_rfl) (by kernel_rfl) ?_
  unfold vv7
  refine ty (x := true) (by kernel_rfl) ?_
  refine sg (s8 b) (by kernel_rfl) (by kernel_rfl) ?_
  unfold vv8
  refine ty (x := #[.int .i64 1, .int .i64 3, .int .u32 0]) (by kernel_rfl) ?_
  refine ty (x := (1 : Int)) (by kernel_rfl) ?_
  refine ty (x := (3 : Int)) (by kernel_rfl) ?_
  refine ty (x := (0 : Int)) (by kernel_rfl) ?_
  refine sg (s9 b) (by kernel_rfl) (by kernel_rfl) ?_
  unfold vv9
  refine ty (x := #[.int .i64 0, .int .i64 8, .int .u32 0]) (by kernel_rfl) ?_
  refine ty (x := (0 : Int)) (by kernel_rfl) ?_
  refine ty (x := (8 : Int)) (by kernel_rfl) ?_
  refine ty (x := (0 : Int)) (by kernel_rfl) ?_
  refine sg (s10 b) (by kernel_rfl) (by kernel_rfl) ?_
  unfold vv10
  refine ty (x := #[.int .i64 0, .int .i64 0, .int .u32 0]) (by kernel_rfl) ?_
  refine ty (x := (0 : Int)) (by kernel_rfl) ?_
  refine ty (x := (0 : Int)) (by kernel_rfl) ?_
  refine ty (x := (0 : Int)) (by kernel_rfl) ?_
  refine sg (s11 b) (by kernel_rfl) (by kernel_rfl) ?_
  unfold vv11
  refine ty (x := #[.int .i64 0, .int .i64 1, .int .u32 0]) (by kernel_rfl) ?_
  refine ty (x := (0 : Int)) (by kernel_rfl) ?_
  refine ty (x := (1 : Int)) (by kernel_rfl) ?_
  refine ty (x := (0 : Int)) (by kernel_rfl) ?_
  refine sg (s12 b) (by kernel_rfl) (by kernel_rfl) ?_
  unfold vv12
  refine ty (x := #[.int .i64 0, .int .i64 33, .int .u32 0]) (by kernel_rfl) ?_
  refine ty (x := (0 : Int)) (by kernel_rfl) ?_
  refine ty (x := (33 : Int)) (by kernel_rfl) ?_
  refine ty (x := (0 : Int)) (by kernel_rfl) ?_
  refine sg (s13 b) (by kernel_rfl) (by kernel_rfl) ?_
  unfold vv13
  refine ty (x := #[.int .i64 1, .int .i64 32, .int .u32 0]) (by kernel_rfl) ?_
  refine ty (x := (1 : Int)) (by kernel_rfl) ?_
  refine ty (x := (32 : Int)) (by kernel_rfl) ?_
  refine ty (x := (0 : Int)) (by kernel_rfl) ?_
  refine sg (s14 b) (by kernel_rfl) (by kernel_rfl) ?_
  unfold vv14
  refine ty (x := #[.int .i64 1, .int .i64 0, .int .u32 0]) (by kernel_rfl) ?_
  refine ty (x := (1 : Int)) (by kernel_rfl) ?_
  refine ty (x := (0 : Int)) (by kernel_rfl) ?_
  refine ty (x := (0 : Int)) (by kernel_rfl) ?_
  refine sg (s15 b) (by kernel_rfl) (by kernel_rfl) ?_
  unfold vv15
  refine ty (x := ((some (⟨132, 0, some 0⟩ : Addr)), (15, 15))) (by kernel_rfl) ?_
  refine sg (s16 b) (by kernel_rfl) (by kernel_rfl) ?_
  unfold vv16
  refine ty (x := true) (by kernel_rfl) ?_
  refine sg (s17 b) (by kernel_rfl) (by kernel_rfl) ?_
  unfold vv17
  refine ty (x := #[.int .i64 2, .int .i64 0, .int .u32 0]) (by kernel_rfl) ?_
  refine ty (x := (2 : Int)) (by kernel_rfl) ?_
  refine ty (x := (0 : Int)) (by kernel_rfl) ?_
  refine ty (x := (0 : Int)) (by kernel_rfl) ?_
  refine sg (s18 b) (by kernel_rfl) (by kernel_rfl) ?_
  unfold vv18
  refine ty (x := ((some (⟨156, 0, some 0⟩ : Addr)), (3, 3))) (by kernel_rfl) ?_
  refine sg (s19 b) (by kernel_rfl) (by kernel_rfl) ?_
  unfold vv19
  refine ty (x := true) (by kernel_rfl) ?_
  refine cT (by kernel_rfl) ?_
  refine sg (s20 b) (by kernel_rfl) (by kernel_rfl) ?_
  unfold vv20
  refine ty (x := #[.int .i64 2, .int .i64 0, .int .u32 0]) (by kernel_rfl) ?_
  refine ty (x := (2 : Int)) (by kernel_rfl) ?_
  refine ty (x := (0 : Int)) (by kernel_rfl) ?_
  refine ty (x := (0 : Int)) (by kernel_rfl) ?_
  refine sg (s21 b) (by kernel_rfl) (by kernel_rfl) ?_
  unfold vv21
  refine ty (x := ((some (⟨180, 0, some 0⟩ : Addr)), (3, 3))) (by kernel_rfl) ?_
  refine sg (s22 b) (by kernel_rfl) (by kernel_rfl) ?_
  unfold vv22
  refine ty (x := true) (by kernel_rfl) ?_
  refine w41_1 ?_
  refine cT (by kernel_rfl) ?_
  refine sg (s23 b) (by kernel_rfl) (by kernel_rfl) ?_
  unfold vv23
  refine ty (x := #[.int .i64 2, .int .i64 0, .int .u32 0]) (by kernel_rfl) ?_
  refine ty (x := (2 : Int)) (by kernel_rfl) ?_
  refine ty (x := (0 : Int)) (by kernel_rfl) ?_
  refine ty (x := (0 : Int)) (by kernel_rfl) ?_
  refine sg (s24 b) (by kernel_rfl) (by kernel_rfl) ?_
  unfold vv24
  refine ty (x := ((some (⟨204, 0, some 0⟩ : Addr)), (3, 3))) (by kernel_rfl) ?_
  refine sg (s25 b) (by kernel_rfl) (by kernel_rfl) ?_
  unfold vv25
  refine ty (x := true) (by kernel_rfl) ?_
  refine w41_2 ?_
  refine cT (by kernel_rfl) ?_
  refine sg (s26 b) (by kernel_rfl) (by kernel_rfl) ?_
  unfold vv26
  refine ty (x := #[.int .i64 2, .int .i64 0, .int .u32 0]) (by kernel_rfl) ?_
  refine ty (x := (2 : Int)) (by kernel_rfl) ?_
  refine ty (x := (0 : Int)) (by kernel_rfl) ?_
  refine ty (x := (0 : Int)) (by kernel_rfl) ?_
  refine sg (s27 b) (by kernel_rfl) (by kernel_rfl) ?_
  unfold vv27
  refine ty (x := #[.int .i64 2, .int .i64 0, .int .u32 0]) (by kernel_rfl) ?_
  refine ty (x := (2 : Int)) (by kernel_rfl) ?_
  refine ty (x := (0 : Int)) (by kernel_rfl) ?_
  refine ty (x := (0 : Int)) (by kernel_rfl) ?_
  refine sg (s28 b) (by kernel_rfl) (by kernel_rfl) ?_
  unfold vv28
  refine ty (x := #[.int .i64 2, .int .i64 0, .int .u32 0]) (by kernel_rfl) ?_
  refine ty (x := (2 : Int)) (by kernel_rfl) ?_
  refine ty (x := (0 : Int)) (by kernel_rfl) ?_
  refine ty (x := (0 : Int)) (by kernel_rfl) ?_
  refine sg (s29 b) (by kernel_rfl) (by kernel_rfl) ?_
  unfold vv29
  refine ty (x := ((some (⟨244, 0, some 0⟩ : Addr)), (7, 7))) (by kernel_rfl) ?_
  refine sg (s30 b) (by kernel_rfl) (by kernel_rfl) ?_
  unfold vv30
  refine ty (x := true) (by kernel_rfl) ?_
  refine w41_3 ?_
  refine cT (by kernel_rfl) ?_
  refine sg (s31 b) (by kernel_rfl) (by kernel_rfl) ?_
  unfold vv31
  refine ty (x := #[.int .i64 2, .int .i64 0, .int .u32 0]) (by kernel_rfl) ?_
  refine ty (x := (2 : Int)) (by kernel_rfl) ?_
  refine ty (x := (0 : Int)) (by kernel_rfl) ?_
  refine ty (x := (0 : Int)) (by kernel_rfl) ?_
  refine sg (s32 b) (by kernel_rfl) (by kernel_rfl) ?_
  unfold vv32
  refine ty (x := ((some (⟨268, 0, some 0⟩ : Addr)), (3, 3))) (by kernel_rfl) ?_
  refine sg (s33 b) (by kernel_rfl) (by kernel_rfl) ?_
  unfold vv33
  refine ty (x := true) (by kernel_rfl) ?_
  refine w41_4 ?_
  refine sg (s34 b) (by kernel_rfl) (by kernel_rfl) ?_
  unfold vv34
  refine ty (x := #[.int .i64 3, .int .i64 0, .int .u32 0]) (by kernel_rfl) ?_
  refine ty (x := (3 : Int)) (by kernel_rfl) ?_
  refine ty (x := (0 : Int)) (by kernel_rfl) ?_
  refine ty (x := (0 : Int)) (by kernel_rfl) ?_
  refine sg (s35 b) (by kernel_rfl) (by kernel_rfl) ?_
  unfold vv35
  refine ty (x := ((some (⟨292, 0, some 0⟩ : Addr)), (3, 3))) (by kernel_rfl) ?_
  refine sg (s36 b) (by kernel_rfl) (by kernel_rfl) ?_
  unfold vv36
  refine ty (x := true) (by kernel_rfl) ?_
  refine cT (by kernel_rfl) ?_
  refine sg (s37 b) (by kernel_rfl) (by kernel_rfl) ?_
  unfold vv37
  refine ty (x := #[.int .i64 3, .int .i64 0, .int .u32 0]) (by kernel_rfl) ?_
  refine ty (x := (3 : Int)) (by kernel_rfl) ?_
  refine ty (x := (0 : Int)) (by kernel_rfl) ?_
  refine ty (x := (0 : Int)) (by kernel_rfl) ?_
  refine sg (s38 b) (by kernel_rfl) (by kernel_rfl) ?_
  unfold vv38
  refine ty (x := ((some (⟨316, 0, some 0⟩ : Addr)), (3, 3))) (by kernel_rfl) ?_
  refine sg (s39 b) (by kernel_rfl) (by kernel_rfl) ?_
  unfold vv39
  refine ty (x := true) (by kernel_rfl) ?_
  refine w41_5 ?_
  refine cT (by kernel_rfl) ?_
  refine sg (s40 b) (by kernel_rfl) (by kernel_rfl) ?_
  unfold vv40
  refine ty (x := #[.int .i64 3, .int .i64 0, .int .u32 0]) (by kernel_rfl) ?_
  refine ty (x := (3 : Int)) (by kernel_rfl) ?_
  refine ty (x := (0 : Int)) (by kernel_rfl) ?_
  refine ty (x := (0 : Int)) (by kernel_rfl) ?_
  refine sg (s41 b) (by kernel_rfl) (by kernel_rfl) ?_
  unfold vv41
  refine ty (x := ((some (⟨340, 0, some 0⟩ : Addr)), (3, 3))) (by kernel_rfl) ?_
  refine sg (s42 b) (by kernel_rfl) (by kernel_rfl) ?_
  unfold vv42
  refine ty (x := true) (by kernel_rfl) ?_
  refine w41_6 ?_
  refine cT (by kernel_rfl) ?_
  refine sg (s43 b) (by kernel_rfl) (by kernel_rfl) ?_
  unfold vv43
  refine ty (x := #[.int .i64 3, .int .i64 0, .int .u32 0]) (by kernel_rfl) ?_
  refine ty (x := (3 : Int)) (by kernel_rfl) ?_
  refine ty (x := (0 : Int)) (by kernel_rfl) ?_
  refine ty (x := (0 : Int)) (by kernel_rfl) ?_
  refine sg (s44 b) (by kernel_rfl) (by kernel_rfl) ?_
  unfold vv44
  refine ty (x := ((some (⟨364, 0, some 0⟩ : Addr)), (3, 3))) (by kernel_rfl) ?_
  refine sg (s45 b) (by kernel_rfl) (by kernel_rfl) ?_
  unfold vv45
  refine ty (x := true) (by kernel_rfl) ?_
  refine w41_7 ?_
  refine cT (by kernel_rfl) ?_
  refine sg (s46 b) (by kernel_rfl) (by kernel_rfl) ?_
  unfold vv46
  refine ty (x := #[.int .i64 3, .int .i64 0, .int .u32 0]) (by kernel_rfl) ?_
  refine ty (x := (3 : Int)) (by kernel_rfl) ?_
  refine ty (x := (0 : Int)) (by kernel_rfl) ?_
  refine ty (x := (0 : Int)) (by kernel_rfl) ?_
  refine sg (s47 b) (by kernel_rfl) (by kernel_rfl) ?_
  unfold vv47
  refine ty (x := ((some (⟨388, 0, some 0⟩ : Addr)), (3, 3))) (by kernel_rfl) ?_
  refine sg (s48 b) (by kernel_rfl) (by kernel_rfl) ?_
  unfold vv48
  refine ty (x := true) (by kernel_rfl) ?_
  refine w41_8 ?_
  refine cT (by kernel_rfl) ?_
  refine sg (s49 b) (by kernel_rfl) (by kernel_rfl) ?_
  unfold vv49
  refine ty (x := #[.int .i64 3, .int .i64 0, .int .u32 0]) (by kernel_rfl) ?_
  refine ty (x := (3 : Int)) (by kernel_rfl) ?_
  refine ty (x := (0 : Int)) (by kernel_rfl) ?_
  refine ty (x := (0 : Int)) (by kernel_rfl) ?_
  refine sg (s50 b) (by kernel_rfl) (by kernel_rfl) ?_
  unfold vv50
  refine ty (x := ((some (⟨412, 0, some 0⟩ : Addr)), (3, 3))) (by kernel_rfl) ?_
  refine sg (s51 b) (by kernel_rfl) (by kernel_rfl) ?_
  unfold vv51
  refine ty (x := true) (by kernel_rfl) ?_
  refine w41_9 ?_
  refine cT (by kernel_rfl) ?_
  refine sg (s52 b) (by kernel_rfl) (by kernel_rfl) ?_
  unfold vv52
  refine ty (x := #[.int .i64 3, .int .i64 0, .int .u32 0]) (by kernel_rfl) ?_
  refine ty (x := (3 : Int)) (by kernel_rfl) ?_
  refine ty (x := (0 : Int)) (by kernel_rfl) ?_
  refine ty (x := (0 : Int)) (by kernel_rfl) ?_
  refine sg (s53 b) (by kernel_rfl) (by kernel_rfl) ?_
  unfold vv53
  refine ty (x := ((some (⟨436, 0, some 0⟩ : Addr)), (3, 3))) (by kernel_rfl) ?_
  refine sg (s54 b) (by kernel_rfl) (by kernel_rfl) ?_
  unfold vv54
  refine ty (x := true) (by kernel_rfl) ?_
  refine w41_10 ?_
  refine cT (by kernel_rfl) ?_
  refine sg (s55 b) (by kernel_rfl) (by kernel_rfl) ?_
  unfold vv55
  refine ty (x := #[.int .i64 0, .int .i64 1, .int .u32 0]) (by kernel_rfl) ?_
  refine ty (x := (0 : Int)) (by kernel_rfl) ?_
  refine ty (x := (1 : Int)) (by kernel_rfl) ?_
  refine ty (x := (0 : Int)) (by kernel_rfl) ?_
  refine sg (s56 b) (by kernel_rfl) (by kernel_rfl) ?_
  unfold vv56
  refine ty (x := #[.int .i64 3, .int .i64 0, .int .u32 0]) (by kernel_rfl) ?_
  refine ty (x := (3 : Int)) (by kernel_rfl) ?_
  refine ty (x := (0 : Int)) (by kernel_rfl) ?_
  refine ty (x := (0 : Int)) (by kernel_rfl) ?_
  refine sg (s57 b) (by kernel_rfl) (by kernel_rfl) ?_
  unfold vv57
  refine ty (x := #[.int .i64 4, .int .i64 0, .int .u32 0]) (by kernel_rfl) ?_
  refine ty (x := (4 : Int)) (by kernel_rfl) ?_
  refine ty (x := (0 : Int)) (by kernel_rfl) ?_
  refine ty (x := (0 : Int)) (by kernel_rfl) ?_
  refine sg (s58 b) (by kernel_rfl) (by kernel_rfl) ?_
  unfold vv58
  refine ty (x := ((some (⟨476, 0, some 0⟩ : Addr)), (7, 7))) (by kernel_rfl) ?_
  refine sg (s59 b) (by kernel_rfl) (by kernel_rfl) ?_
  unfold vv59
  refine ty (x := true) (by kernel_rfl) ?_
  refine w41_11 ?_
  refine cT (by kernel_rfl) ?_
  refine w41_12 ?_
  refine cT (by kernel_rfl) ?_
  refine w41_13 ?_
  refine cT (by kernel_rfl) ?_
  rfl
end Go.Zy
