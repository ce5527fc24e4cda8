/- What a closed function comes to, in stages: printed by cw.py. -/
import Derived.Test.YtcpaggmhiflhbaaZbYb0
import Derived.Test.YtcpaggmhiflhbaaZbYb1
import Derived.Test.YtcpaggmhiflhbaaZbYb2
import Derived.Test.YtcpaggmhiflhbaaZbYb3
import Derived.Test.YtcpaggmhiflhbaaZbYb4
set_option maxRecDepth 100000
namespace Go.Zt
open Go Go.Sim Go.Proofs Go.RowKit
set_option maxHeartbeats 40000000
theorem walk_8 (b : Array Obj) : Sim.Cn Try.prog 8 #[] ⟨b, #[], 0⟩ (fun v _ => v = .bool true) := by
  refine w8_0 ?_
  refine sg (s0 b) (by kernel_rfl) (by kernel_rfl) ?_
  unfold vv0
  refine ty (x := (some (⟨0, 0, none⟩ : Addr))) (by kernel_rfl) ?_
  refine sg (s1 b) (by kernel_rfl) (by kernel_rfl) ?_
  unfold vv1
  refine ty (x := (2 : Int)) (by kernel_rfl) ?_
  refine sg (s2 b) (by kernel_rfl) (by kernel_rfl) ?_
  unfold vv2
  refine ty (x := (2 : Int)) (by kernel_rfl) ?_
  refine sg (s3 b) (by kernel_rfl) (by kernel_rfl) ?_
  unfold vv3
  refine ty (x := (2 : Int)) (by kernel_rfl) ?_
  refine sg (s4 b) (by kernel_rfl) (by kernel_rfl) ?_
  unfold vv4
  refine ty (x := (0 : Int)) (by kernel_rfl) ?_
  refine sg (s5 b) (by kernel_rfl) (by kernel_rfl) ?_
  unfold vv5
  refine ty (x := (2 : Int)) (by kernel_rfl) ?_
  refine sg (s6 b) (by kernel_rfl) (by kernel_rfl) ?_
  unfold vv6
  refine ty (x := (2 : Int)) (by kernel_rfl) ?_
  refine sg (s7 b) (by kernel_rfl) (by kernel_rfl) ?_
  unfold vv7
  refine ty (x := (2 : Int)) (by kernel_rfl) ?_
  refine sg (s8 b) (by kernel_rfl) (by kernel_rfl) ?_
  unfold vv8
  refine ty (x := (2 : Int)) (by kernel_rfl) ?_
  refine sg (s9 b) (by kernel_rfl) (by kernel_rfl) ?_
  unfold vv9
  refine ty (x := (2 : Int)) (by kernel_rfl) ?_
  refine sg (s10 b) (by kernel_rfl) (by kernel_rfl) ?_
  unfold vv10
  refine ty (x := (2 : Int)) (by kernel_rfl) ?_
  refine sg (s11 b) (by kernel_rfl) (by kernel_rfl) ?_
  unfold vv11
  refine ty (x := (2 : Int)) (by kernel_rfl) ?_
  refine sg (s12 b) (by kernel_rfl) (by kernel_rfl) ?_
  unfold vv12
  refine ty (x := (0 : Int)) (by kernel_rfl) ?_
  refine sg (s13 b) (by kernel_rfl) (by kernel_rfl) ?_
  unfold vv13
  refine ty (x := (2 : Int)) (by kernel_rfl) ?_
  refine sg (s14 b) (by kernel_rfl) (by kernel_rfl) ?_
  unfold vv14
  refine ty (x := (0 : Int)) (by kernel_rfl) ?_
  refine sg (s15 b) (by kernel_rfl) (by kernel_rfl) ?_
  unfold vv15
  refine ty (x := (0 : Int)) (by kernel_rfl) ?_
  refine sg (s16 b) (by kernel_rfl) (by kernel_rfl) ?_
  unfold vv16
  refine ty (x := (0 : Int)) (by kernel_rfl) ?_
  refine sg (s17 b) (by kernel_rfl) (by kernel_rfl) ?_
  unfold vv17
  refine ty (x := (0 : Int)) (by kernel_rfl) ?_
  refine sg (s18 b) (by kernel_rfl) (by kernel_rfl) ?_
  unfold vv18
  refine ty (x := (0 : Int)) (by kernel_rfl) ?_
  refine sg (s19 b) (by kernel_rfl) (by kernel_rfl) ?_
  unfold vv19
  refine ty (x := (0 : Int)) (by kernel_rfl) ?_
  refine sg (s20 b) (by kernel_rfl) (by kernel_rfl) ?_
  unfold vv20
  refine ty (x := (0 : Int)) (by kernel_rfl) ?_
  refine w8_1 ?_
  refine cT (by kernel_rfl) ?_
  refine ix (x := (⟨94, 0, none⟩ : Addr)) (by kernel_rfl) ?_
  refine on (x := (2 : Int)) (by kernel_rfl) ?_
  refine ix (x := (⟨96, 0, none⟩ : Addr)) (by kernel_rfl) ?_
  refine on (x := (2 : Int)) (by kernel_rfl) ?_
  refine cF (by kernel_rfl) ?_
  refine w8_1 ?_
  refine cT (by kernel_rfl) ?_
  refine ix (x := (⟨94, 1, none⟩ : Addr)) (by kernel_rfl) ?_
  refine on (x := (2 : Int)) (by kernel_rfl) ?_
  refine ix (x := (⟨96, 1, none⟩ : Addr)) (by kernel_rfl) ?_
  refine on (x := (2 : Int)) (by kernel_rfl) ?_
  refine cF (by kernel_rfl) ?_
  refine w8_1 ?_
  refine cT (by kernel_rfl) ?_
  refine ix (x := (⟨94, 2, none⟩ : Addr)) (by kernel_rfl) ?_
  refine on (x := (2 : Int)) (by kernel_rfl) ?_
  refine ix (x := (⟨96, 2, none⟩ : Addr)) (by kernel_rfl) ?_
  refine on (x := (2 : Int)) (by kernel_rfl) ?_
  refine cF (by kernel_rfl) ?_
  refine w8_1 ?_
  refine cT (by kernel_rfl) ?_
  refine ix (x := (⟨94, 3, none⟩ : Addr)) (by kernel_rfl) ?_
  refine on (x := (0 : Int)) (by kernel_rfl) ?_
  refine ix (x := (⟨96, 3, none⟩ : Addr)) (by kernel_rfl) ?_
  refine on (x := (0 : Int)) (by kernel_rfl) ?_
  refine cF (by kernel_rfl) ?_
  refine w8_1 ?_
  refine cT (by kernel_rfl) ?_
  refine ix (x := (⟨94, 4, none⟩ : Addr)) (by kernel_rfl) ?_
  refine on (x := (2 : Int)) (by kernel_rfl) ?_
  refine ix (x := (⟨96, 4, none⟩ : Addr)) (by kernel_rfl) ?_
  refine on (x := (2 : Int)) (by kernel_rfl) ?_
  refine cF (by kernel_rfl) ?_
  refine w8_1 ?_
  refine cT (by kernel_rfl) ?_
  refine ix (x := (⟨94, 5, none⟩ : Addr)) (by kernel_rfl) ?_
  refine on (x := (2 : Int)) (by kernel_rfl) ?_
  refine ix (x := (⟨96, 5, none⟩ : Addr)) (by kernel_rfl) ?_
  refine on (x := (2 : Int)) (by kernel_rfl) ?_
  refine cF (by kernel_rfl) ?_
  refine w8_1 ?_
  refine cT (by kernel_rfl) ?_
  refine ix (x := (⟨94, 6, none⟩ : Addr)) (by kernel_rfl) ?_
  refine on (x := (2 : Int)) (by kernel_rfl) ?_
  refine ix (x := (⟨96, 6, none⟩ : Addr)) (by kernel_rfl) ?_
  refine on (x := (2 : Int)) (by kernel_rfl) ?_
  refine cF (by kernel_rfl) ?_
  refine w8_1 ?_
  refine cT (by kernel_rfl) ?_
  refine ix (x := (⟨94, 7, none⟩ : Addr)) (by kernel_rfl) ?_
  refine on (x := (2 : Int)) (by kernel_rfl) ?_
  refine ix (x := (⟨96, 7, none⟩ : Addr)) (by kernel_rfl) ?_
  refine on (x := (2 : Int)) (by kernel_rfl) ?_
  refine cF (by kernel_rfl) ?_
  refine w8_1 ?_
  refine cT (by kernel_rfl) ?_
  refine ix (x := (⟨94, 8, none⟩ : Addr)) (by kernel_rfl) ?_
  refine on (x := (2 : Int)) (by kernel_rfl) ?_
  refine ix (x := (⟨96, 8, none⟩ : Addr)) (by kernel_rfl) ?_
  refine on (x := (2 : Int)) (by kernel_rfl) ?_
  refine cF (by kernel_rfl) ?_
  refine w8_1 ?_
  refine cT (by kernel_rfl) ?_
  refine ix (x := (⟨94, 9, none⟩ : Addr)) (by kernel_rfl) ?_
  refine on (x := (2 : Int)) (by kernel_rfl) ?_
  refine ix (x := (⟨96, 9, none⟩ : Addr)) (by kernel_rfl) ?_
  refine on (x := (2 : Int)) (by kernel_rfl) ?_
  refine cF (by kernel_rfl) ?_
  refine w8_1 ?_
  refine cT (by kernel_rfl) ?_
  refine ix (x := (⟨94, 10, none⟩ : Addr)) (by kernel_rfl) ?_
  refine on (x := (2 : Int)) (by kernel_rfl) ?_
  refine ix (x := (⟨96, 10, none⟩ : Addr)) (by kernel_rfl) ?_
  refine on (x := (2 : Int)) (by kernel_rfl) ?_
  refine cF (by kernel_rfl) ?_
  refine w8_1 ?_
  refine cT (by kernel_rfl) ?_
  refine ix (x := (⟨94, 11, none⟩ : Addr)) (by kernel_rfl) ?_
  refine on (x := (0 : Int)) (by kernel_rfl) ?_
  refine ix (x := (⟨96, 11, none⟩ : Addr)) (by kernel_rfl) ?_
  refine on (x := (0 : Int)) (by kernel_rfl) ?_
  refine cF (by kernel_rfl) ?_
  refine w8_1 ?_
  refine cT (by kernel_rfl) ?_
  refine ix (x := (⟨94, 12, none⟩ : Addr)) (by kernel_rfl) ?_
  refine on (x := (2 : Int)) (by kernel_rfl) ?_
  refine ix (x := (⟨96, 12, none⟩ : Addr)) (by kernel_rfl) ?_
  refine on (x := (2 : Int)) (by kernel_rfl) ?_
  refine cF (by kernel_rfl) ?_
  refine w8_1 ?_
  refine cT (by kernel_rfl) ?_
  refine ix (x := (⟨94, 13, none⟩ : Addr)) (by kernel_rfl) ?_
  refine on (x := (0 : Int)) (by kernel_rfl) ?_
  refine ix (x := (⟨96, 13, none⟩ : Addr)) (by kernel_rfl) ?_
  refine on (x := (0 : Int)) (by kernel_rfl) ?_
  refine cF (by kernel_rfl) ?_
  refine w8_1 ?_
  refine cT (by kernel_rfl) ?_
  refine ix (x := (⟨94, 14, none⟩ : Addr)) (by kernel_rfl) ?_
  refine on (x := (0 : Int)) (by kernel_rfl) ?_
  refine ix (x := (⟨96, 14, none⟩ : Addr)) (by kernel_rfl) ?_
  refine on (x := (0 : Int)) (by kernel_rfl) ?_
  refine cF (by kernel_rfl) ?_
  refine w8_1 ?_
  refine cT (by kernel_rfl) ?_
  refine ix (x := (⟨94, 15, none⟩ : Addr)) (by kernel_rfl) ?_
  refine on (x := (0 : Int)) (by kernel_rfl) ?_
  refine ix (x := (⟨96, 15, none⟩ : Addr)) (by kernel_rfl) ?_
  refine on (x := (0 : Int)) (by kernel_rfl) ?_
  refine cF (by kernel_rfl) ?_
  refine w8_1 ?_
  refine cT (by kernel_rfl) ?_
  refine ix (x := (⟨94, 16, none⟩ : Addr)) (by kernel_rfl) ?_
  refine on (x := (0 : Int)) (by kernel_rfl) ?_
  refine ix (x := (⟨96, 16, none⟩ : Addr)) (by kernel_rfl) ?_
  refine on (x := (0 : Int)) (by kernel_rfl) ?_
  refine cF (by kernel_rfl) ?_
  refine w8_1 ?_
  refine cT (by kernel_rfl) ?_
  refine ix (x := (⟨94, 17, none⟩ : Addr)) (by kernel_rfl) ?_
  refine on (x := (0 : Int)) (by kernel_rfl) ?_
  refine ix (x := (⟨96, 17, none⟩ : Addr)) (by kernel_rfl) ?_
  refine on (x := (0 : Int)) (by kernel_rfl) ?_
  refine cF (by kernel_rfl) ?_
  refine w8_1 ?_
  refine cT (by kernel_rfl) ?_
  refine ix (x := (⟨94, 18, none⟩ : Addr)) (by kernel_rfl) ?_
  refine on (x := (0 : Int)) (by kernel_rfl) ?_
  refine ix (x := (⟨96, 18, none⟩ : Addr)) (by kernel_rfl) ?_
  refine on (x := (0 : Int)) (by kernel_rfl) ?_
  refine cF (by kernel_rfl) ?_
  refine w8_1 ?_
  refine cT (by kernel_rfl) ?_
  refine ix (x := (⟨94, 19, none⟩ : Addr)) (by kernel_rfl) ?_
  refine on (x := (0 : Int)) (by kernel_rfl) ?_
  refine ix (x := (⟨96, 19, none⟩ : Addr)) (by kernel_rfl) ?_
  refine on (x := (0 : Int)) (by kernel_rfl) ?_
  refine cF (by kernel_rfl) ?_
  refine w8_1 ?_
  refine cF (by kernel_rfl) ?_
  refine sg (s21 b) (by kernel_rfl) (by kernel_rfl) ?_
  unfold vv21
  refine ty (x := ((some (⟨100, 0, some 0⟩ : Addr)), (23, 23))) (by kernel_rfl) ?_
  refine sg (s22 b) (by kernel_rfl) (by kernel_rfl) ?_
  unfold vv22
  refine ty (x := true) (by kernel_rfl) ?_
  refine sg (s23 b) (by kernel_rfl) (by kernel_rfl) ?_
  unfold vv23
  refine ty (x := (some (⟨110, 0, none⟩ : Addr))) (by kernel_rfl) ?_
  refine sg (s24 b) (by kernel_rfl) (by kernel_rfl) ?_
  unfold vv24
  refine ty (x := ((some (⟨114, 0, some 0⟩ : Addr)), (3, 3))) (by kernel_rfl) ?_
  refine sg (s25 b) (by kernel_rfl) (by kernel_rfl) ?_
  unfold vv25
  refine ty (x := true) (by kernel_rfl) ?_
  refine w8_2 ?_
  refine cT (by kernel_rfl) ?_
  refine sg (s26 b) (by kernel_rfl) (by kernel_rfl) ?_
  unfold vv26
  refine ty (x := #[.int .u32 0, .int .i64 1]) (by kernel_rfl) ?_
  refine ty (x := (0 : Int)) (by kernel_rfl) ?_
  refine ty (x := (1 : Int)) (by kernel_rfl) ?_
  refine sg (s27 b) (by kernel_rfl) (by kernel_rfl) ?_
  unfold vv27
  refine ty (x := #[.int .i32 0, .int .i64 1]) (by kernel_rfl) ?_
  refine ty (x := (0 : Int)) (by kernel_rfl) ?_
  refine ty (x := (1 : Int)) (by kernel_rfl) ?_
  refine sg (s28 b) (by kernel_rfl) (by kernel_rfl) ?_
  unfold vv28
  refine ty (x := #[.int .u32 0, .int .i64 1]) (by kernel_rfl) ?_
  refine ty (x := (0 : Int)) (by kernel_rfl) ?_
  refine ty (x := (1 : Int)) (by kernel_rfl) ?_
  refine sg (s29 b) (by kernel_rfl) (by kernel_rfl) ?_
  unfold vv29
  refine ty (x := #[.int .u32 0, .int .i64 1]) (by kernel_rfl) ?_
  refine ty (x := (0 : Int)) (by kernel_rfl) ?_
  refine ty (x := (1 : Int)) (by kernel_rfl) ?_
  refine cT (by kernel_rfl) ?_
  refine w8_3 ?_
  refine cT (by kernel_rfl) ?_
  refine w8_5 ?_
  refine cT (by kernel_rfl) ?_
  refine w8_8 ?_
  refine cT (by kernel_rfl) ?_
  refine w8_11 ?_
  refine cT (by kernel_rfl) ?_
  refine sg (s30 b) (by kernel_rfl) (by kernel_rfl) ?_
  unfold vv30
  refine ty (x := (1 : Int)) (by kernel_rfl) ?_
  refine w8_14 ?_
  refine cT (by kernel_rfl) ?_
  refine sg (s31 b) (by kernel_rfl) (by kernel_rfl) ?_
  unfold vv31
  refine ty (x := (0 : Int)) (by kernel_rfl) ?_
  refine w8_16 ?_
  refine cT (by kernel_rfl) ?_
  refine sg (s32 b) (by kernel_rfl) (by kernel_rfl) ?_
  unfold vv32
  refine ty (x := (none, (0, 0))) (by kernel_rfl) ?_
  refine w8_18 ?_
  refine w8_2 ?_
  refine cT (by kernel_rfl) ?_
  refine sg (s33 b) (by kernel_rfl) (by kernel_rfl) ?_
  unfold vv33
  refine ty (x := #[.int .u32 0, .int .i64 1]) (by kernel_rfl) ?_
  refine ty (x := (0 : Int)) (by kernel_rfl) ?_
  refine ty (x := (1 : Int)) (by kernel_rfl) ?_
  refine sg (s34 b) (by kernel_rfl) (by kernel_rfl) ?_
  unfold vv34
  refine ty (x := #[.int .i32 0, .int .i64 1]) (by kernel_rfl) ?_
  refine ty (x := (0 : Int)) (by kernel_rfl) ?_
  refine ty (x := (1 : Int)) (by kernel_rfl) ?_
  refine sg (s35 b) (by kernel_rfl) (by kernel_rfl) ?_
  unfold vv35
  refine ty (x := #[.int .u32 0, .int .i64 1]) (by kernel_rfl) ?_
  refine ty (x := (0 : Int)) (by kernel_rfl) ?_
  refine ty (x := (1 : Int)) (by kernel_rfl) ?_
  refine sg (s36 b) (by kernel_rfl) (by kernel_rfl) ?_
  unfold vv36
  refine ty (x := #[.int .u32 0, .int .i64 1]) (by kernel_rfl) ?_
  refine ty (x := (0 : Int)) (by kernel_rfl) ?_
  refine ty (x := (1 : Int)) (by kernel_rfl) ?_
  refine cT (by kernel_rfl) ?_
  refine w8_3 ?_
  refine cT (by kernel_rfl) ?_
  refine w8_5 ?_
  refine cT (by kernel_rfl) ?_
  refine w8_8 ?_
  refine cT (by kernel_rfl) ?_
  refine w8_11 ?_
  refine cT (by kernel_rfl) ?_
  refine sg (s37 b) (by kernel_rfl) (by kernel_rfl) ?_
  unfold vv37
  refine ty (x := (1 : Int)) (by kernel_rfl) ?_
  refine w8_14 ?_
  refine cT (by kernel_rfl) ?_
  refine sg (s38 b) (by kernel_rfl) (by kernel_rfl) ?_
  unfold vv38
  refine ty (x := (0 : Int)) (by kernel_rfl) ?_
  refine w8_16 ?_
  refine cT (by kernel_rfl) ?_
  refine sg (s39 b) (by kernel_rfl) (by kernel_rfl) ?_
  unfold vv39
  refine ty (x := (none, (0, 0))) (by kernel_rfl) ?_
  refine w8_18 ?_
  refine w8_2 ?_
  refine cF (by kernel_rfl) ?_
  refine w8_4 ?_
  refine cT (by kernel_rfl) ?_
  refine cT (by kernel_rfl) ?_
  refine sg (s40 b) (by kernel_rfl) (by kernel_rfl) ?_
  unfold vv40
  refine ty (x := (1 : Int)) (by kernel_rfl) ?_
  refine w8_6 ?_
  refine cT (by kernel_rfl) ?_
  refine sg (s41 b) (by kernel_rfl) (by kernel_rfl) ?_
  unfold vv41
  refine ty (x := (1 : Int)) (by kernel_rfl) ?_
  refine w8_9 ?_
  refine cT (by kernel_rfl) ?_
  refine sg (s42 b) (by kernel_rfl) (by kernel_rfl) ?_
  unfold vv42
  refine ty (x := (1 : Int)) (by kernel_rfl) ?_
  refine w8_12 ?_
  refine cT (by kernel_rfl) ?_
  refine sg (s43 b) (by kernel_rfl) (by kernel_rfl) ?_
  unfold vv43
  refine ty (x := (1 : Int)) (by kernel_rfl) ?_
  refine w8_15 ?_
  refine cT (by kernel_rfl) ?_
  refine sg (s44 b) (by kernel_rfl) (by kernel_rfl) ?_
  unfold vv44
  refine ty (x := (1 : Int)) (by kernel_rfl) ?_
  refine w8_17 ?_
  refine cT (by kernel_rfl) ?_
  refine sg (s45 b) (by kernel_rfl) (by kernel_rfl) ?_
  unfold vv45
  refine ty (x := (none, (0, 0))) (by kernel_rfl) ?_
  refine w8_19 ?_
  refine w8_4 ?_
  refine cT (by kernel_rfl) ?_
  refine cT (by kernel_rfl) ?_
  refine sg (s46 b) (by kernel_rfl) (by kernel_rfl) ?_
  unfold vv46
  refine ty (x := (1 : Int)) (by kernel_rfl) ?_
  refine w8_6 ?_
  refine cT (by kernel_rfl) ?_
  refine sg (s47 b) (by kernel_rfl) (by kernel_rfl) ?_
  unfold vv47
  refine ty (x := (1 : Int)) (by kernel_rfl) ?_
  refine w8_9 ?_
  refine cT (by kernel_rfl) ?_
  refine sg (s48 b) (by kernel_rfl) (by kernel_rfl) ?_
  unfold vv48
  refine ty (x := (1 : Int)) (by kernel_rfl) ?_
  refine w8_12 ?_
  refine cT (by kernel_rfl) ?_
  refine sg (s49 b) (by kernel_rfl) (by kernel_rfl) ?_
  unfold vv49
  refine ty (x := (1 : Int)) (by kernel_rfl) ?_
  refine w8_15 ?_
  refine cT (by kernel_rfl) ?_
  refine sg (s50 b) (by kernel_rfl) (by kernel_rfl) ?_
  unfold vv50
  refine ty (x := (1 : Int)) (by kernel_rfl) ?_
  refine w8_17 ?_
  refine cT (by kernel_rfl) ?_
  refine sg (s51 b) (by kernel_rfl) (by kernel_rfl) ?_
  unfold vv51
  refine ty (x := (none, (0, 0))) (by kernel_rfl) ?_
  refine w8_19 ?_
  refine w8_4 ?_
  refine cF (by kernel_rfl) ?_
  refine sg (s52 b) (by kernel_rfl) (by kernel_rfl) ?_
  unfold vv52
  refine ty (x := true) (by kernel_rfl) ?_
  refine cT (by kernel_rfl) ?_
  refine sg (s53 b) (by kernel_rfl) (by kernel_rfl) ?_
  unfold vv53
  refine ty (x := true) (by kernel_rfl) ?_
  refine w8_7 ?_
  refine cT (by kernel_rfl) ?_
  refine w8_10 ?_
  refine cT (by kernel_rfl) ?_
  refine w8_13 ?_
  refine cT (by kernel_rfl) ?_
  rfl
end Go.Zt
