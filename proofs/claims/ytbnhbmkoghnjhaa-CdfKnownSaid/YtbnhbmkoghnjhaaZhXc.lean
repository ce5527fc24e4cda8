/- What a closed function comes to, in stages: printed by cw.py. -/
import Derived.Test.YtbnhbmkoghnjhaaZhXb0
import Derived.Test.YtbnhbmkoghnjhaaZhXb1
import Derived.Test.YtbnhbmkoghnjhaaZhXb2
import Derived.Test.YtbnhbmkoghnjhaaZhXb3
import Derived.Test.YtbnhbmkoghnjhaaZhXb4
import Derived.Test.YtbnhbmkoghnjhaaZhXb5
set_option maxRecDepth 100000
namespace Go.Zt
open Go Go.Sim Go.Proofs Go.RowKit
set_option maxHeartbeats 40000000
theorem walk_9 (b : Array Obj) : Sim.Cn Try.prog 9 #[] ⟨b, #[], 0⟩ (fun v _ => v = .bool true) := by
  refine w9_0 ?_
  refine sg (s0 b) (by kernel_rfl) (by kernel_rfl) ?_
  unfold vv0
  refine ty (x := #[.agg #[.slice (some ⟨2, 0, none⟩) 3 3, .int .i64 0], .int .i64 0]) (by kernel_rfl) ?_
  refine ty (x := #[.slice (some ⟨2, 0, none⟩) 3 3, .int .i64 0]) (by kernel_rfl) ?_
  refine ty (x := ((some (⟨2, 0, none⟩ : Addr)), (3, 3))) (by kernel_rfl) ?_
  refine ty (x := (0 : Int)) (by kernel_rfl) ?_
  refine ty (x := (0 : Int)) (by kernel_rfl) ?_
  refine st (M' := ⟨b, #[k0, k1, k0, k0], 0⟩) rfl (by kernel_rfl) ?_
  refine sg (s1 b) (by kernel_rfl) (by kernel_rfl) ?_
  unfold vv1
  refine ty (x := #[.agg #[.slice (some ⟨10, 0, none⟩) 4 4, .int .i64 0], .int .i64 0]) (by kernel_rfl) ?_
  refine ty (x := #[.slice (some ⟨10, 0, none⟩) 4 4, .int .i64 0]) (by kernel_rfl) ?_
  refine ty (x := ((some (⟨10, 0, none⟩ : Addr)), (4, 4))) (by kernel_rfl) ?_
  refine ty (x := (0 : Int)) (by kernel_rfl) ?_
  refine ty (x := (0 : Int)) (by kernel_rfl) ?_
  refine st (M' := ⟨b, #[k0, k1, k0, k0, k2, k3, k2, k2], 0⟩) rfl (by kernel_rfl) ?_
  refine sg (s2 b) (by kernel_rfl) (by kernel_rfl) ?_
  unfold vv2
  refine ty (x := #[.agg #[.slice none 0 0, .int .i64 0], .int .i64 2]) (by kernel_rfl) ?_
  refine ty (x := #[.slice none 0 0, .int .i64 0]) (by kernel_rfl) ?_
  refine ty (x := (none, (0, 0))) (by kernel_rfl) ?_
  refine ty (x := (0 : Int)) (by kernel_rfl) ?_
  refine ty (x := (2 : Int)) (by kernel_rfl) ?_
  refine st (M' := ⟨b, #[k0, k1, k0, k0, k2, k3, k2, k2, k4, k4], 0⟩) rfl (by kernel_rfl) ?_
  refine sg (s3 b) (by kernel_rfl) (by kernel_rfl) ?_
  unfold vv3
  refine ty (x := #[.agg #[.slice none 0 0, .int .i64 0], .int .i64 2]) (by kernel_rfl) ?_
  refine ty (x := #[.slice none 0 0, .int .i64 0]) (by kernel_rfl) ?_
  refine ty (x := (none, (0, 0))) (by kernel_rfl) ?_
  refine ty (x := (0 : Int)) (by kernel_rfl) ?_
  refine ty (x := (2 : Int)) (by kernel_rfl) ?_
  refine st (M' := ⟨b, #[k0, k1, k0, k0, k2, k3, k2, k2, k4, k4, k4, k4], 0⟩) rfl (by kernel_rfl) ?_
  refine sg (s4 b) (by kernel_rfl) (by kernel_rfl) ?_
  unfold vv4
  refine ty (x := #[.agg #[.slice (some ⟨26, 0, none⟩) 16 16, .int .i64 0], .int .i64 0]) (by kernel_rfl) ?_
  refine ty (x := #[.slice (some ⟨26, 0, none⟩) 16 16, .int .i64 0]) (by kernel_rfl) ?_
  refine ty (x := ((some (⟨26, 0, none⟩ : Addr)), (16, 16))) (by kernel_rfl) ?_
  refine ty (x := (0 : Int)) (by kernel_rfl) ?_
  refine ty (x := (0 : Int)) (by kernel_rfl) ?_
  refine st (M' := ⟨b, #[k0, k1, k0, k0, k2, k3, k2, k2, k4, k4, k4, k4, k5, k6, k5, k5], 0⟩) rfl (by kernel_rfl) ?_
  refine cT (by kernel_rfl) ?_
  refine w9_1 ?_
  refine cT (by kernel_rfl) ?_
  refine w9_2 ?_
  refine cT (by kernel_rfl) ?_
  refine w9_3 ?_
  refine cT (by kernel_rfl) ?_
  refine w9_4 ?_
  refine cT (by kernel_rfl) ?_
  refine ad (x := (⟨6, 0, none⟩ : Addr)) (by kernel_rfl) ?_
  refine on (x := ((some (⟨2, 0, none⟩ : Addr)), (3, 3))) (by kernel_rfl) ?_
  refine on (x := (0 : Int)) (by kernel_rfl) ?_
  refine sg (s5 b) (by kernel_rfl) (by kernel_rfl) ?_
  unfold vv5
  refine ty (x := true) (by kernel_rfl) ?_
  refine w9_5 ?_
  refine cT (by kernel_rfl) ?_
  refine ad (x := (⟨14, 0, none⟩ : Addr)) (by kernel_rfl) ?_
  refine on (x := ((some (⟨10, 0, none⟩ : Addr)), (4, 4))) (by kernel_rfl) ?_
  refine on (x := (0 : Int)) (by kernel_rfl) ?_
  refine sg (s6 b) (by kernel_rfl) (by kernel_rfl) ?_
  unfold vv6
  refine ty (x := true) (by kernel_rfl) ?_
  refine w9_6 ?_
  refine cT (by kernel_rfl) ?_
  refine ad (x := (⟨30, 0, none⟩ : Addr)) (by kernel_rfl) ?_
  refine on (x := ((some (⟨26, 0, none⟩ : Addr)), (16, 16))) (by kernel_rfl) ?_
  refine w9_7 ?_
  refine cT (by kernel_rfl) ?_
  refine ad (x := (⟨30, 0, none⟩ : Addr)) (by kernel_rfl) ?_
  refine on (x := ((some (⟨26, 0, none⟩ : Addr)), (16, 16))) (by kernel_rfl) ?_
  refine ix (x := (⟨26, 14, none⟩ : Addr)) (by kernel_rfl) ?_
  refine on (x := (32767 : Int)) (by kernel_rfl) ?_
  refine w9_8 ?_
  refine me (x := (.slice (some ⟨50, 0, none⟩) 17 17, ⟨b, #[k0, k1, k0, k0, k2, k3, k2, k2, k4, k4, k4, k4, k5, k6, k5, k5, k1, k0, k3, k2, k7, k8, k9, k10, k10, k11], 0⟩)) (by kernel_rfl) ?_
  refine ty (x := ((some (⟨50, 0, none⟩ : Addr)), (17, 17))) (by kernel_rfl) ?_
  refine w9_9 ?_
  refine cT (by kernel_rfl) ?_
  refine ix (x := (⟨54, 0, none⟩ : Addr)) (by kernel_rfl) ?_
  refine on (x := (none, (0, 0))) (by kernel_rfl) ?_
  refine on (x := (0 : Int)) (by kernel_rfl) ?_
  refine sg (s7 b) (by kernel_rfl) (by kernel_rfl) ?_
  unfold vv7
  refine ty (x := #[.int .u32 0, .int .u32 0, .int .i64 2]) (by kernel_rfl) ?_
  refine ty (x := (0 : Int)) (by kernel_rfl) ?_
  refine ty (x := (0 : Int)) (by kernel_rfl) ?_
  refine ty (x := (2 : Int)) (by kernel_rfl) ?_
  refine ix (x := (⟨54, 0, none⟩ : Addr)) (by kernel_rfl) ?_
  refine on (x := (none, (0, 0))) (by kernel_rfl) ?_
  refine on (x := (0 : Int)) (by kernel_rfl) ?_
  refine sg (s8 b) (by kernel_rfl) (by kernel_rfl) ?_
  unfold vv8
  refine ty (x := #[.agg #[.slice none 0 0, .int .i64 0], .int .i64 2]) (by kernel_rfl) ?_
  refine ty (x := #[.slice none 0 0, .int .i64 0]) (by kernel_rfl) ?_
  refine ty (x := (none, (0, 0))) (by kernel_rfl) ?_
  refine ty (x := (0 : Int)) (by kernel_rfl) ?_
  refine ty (x := (2 : Int)) (by kernel_rfl) ?_
  refine st (M' := ⟨b, #[k0, k1, k0, k0, k2, k3, k2, k2, k4, k4, k4, k4, k5, k6, k5, k5, k1, k0, k3, k2, k7, k8, k9, k10, k10, k11, k12, k13, k4, k4, k4, k4, k4, k4, k4, k4], 0⟩) rfl (by kernel_rfl) ?_
  refine ix (x := (⟨54, 0, none⟩ : Addr)) (by kernel_rfl) ?_
  refine on (x := (none, (0, 0))) (by kernel_rfl) ?_
  refine on (x := (0 : Int)) (by kernel_rfl) ?_
  refine sg (s9 b) (by kernel_rfl) (by kernel_rfl) ?_
  unfold vv9
  refine ty (x := #[.agg #[.slice none 0 0, .int .i64 0], .int .i64 2]) (by kernel_rfl) ?_
  refine ty (x := #[.slice none 0 0, .int .i64 0]) (by kernel_rfl) ?_
  refine ty (x := (none, (0, 0))) (by kernel_rfl) ?_
  refine ty (x := (0 : Int)) (by kernel_rfl) ?_
  refine ty (x := (2 : Int)) (by kernel_rfl) ?_
  refine st (M' := ⟨b, #[k0, k1, k0, k0, k2, k3, k2, k2, k4, k4, k4, k4, k5, k6, k5, k5, k1, k0, k3, k2, k7, k8, k9, k10, k10, k11, k12, k13, k4, k4, k4, k4, k4, k4, k4, k4, k4, k4, k4, k4, k4], 0⟩) rfl (by kernel_rfl) ?_
  refine ix (x := (⟨54, 0, none⟩ : Addr)) (by kernel_rfl) ?_
  refine on (x := (none, (0, 0))) (by kernel_rfl) ?_
  refine on (x := (0 : Int)) (by kernel_rfl) ?_
  refine sg (s10 b) (by kernel_rfl) (by kernel_rfl) ?_
  unfold vv10
  refine ty (x := #[.int .i64 0, .int .i64 2]) (by kernel_rfl) ?_
  refine ty (x := (0 : Int)) (by kernel_rfl) ?_
  refine ty (x := (2 : Int)) (by kernel_rfl) ?_
  refine ix (x := (⟨54, 0, none⟩ : Addr)) (by kernel_rfl) ?_
  refine on (x := (none, (0, 0))) (by kernel_rfl) ?_
  refine on (x := (0 : Int)) (by kernel_rfl) ?_
  refine sg (s11 b) (by kernel_rfl) (by kernel_rfl) ?_
  unfold vv11
  refine ty (x := (2 : Int)) (by kernel_rfl) ?_
  refine cF (by kernel_rfl) ?_
  refine w9_10 ?_
  refine cF (by kernel_rfl) ?_
  refine w9_12 ?_
  refine cF (by kernel_rfl) ?_
  refine w9_14 ?_
  refine cF (by kernel_rfl) ?_
  refine w9_16 ?_
  refine cF (by kernel_rfl) ?_
  refine w9_9 ?_
  refine cT (by kernel_rfl) ?_
  refine ix (x := (⟨54, 2, none⟩ : Addr)) (by kernel_rfl) ?_
  refine on (x := ((some (⟨40, 0, none⟩ : Addr)), (1, 1))) (by kernel_rfl) ?_
  refine on (x := (0 : Int)) (by kernel_rfl) ?_
  refine sg (s12 b) (by kernel_rfl) (by kernel_rfl) ?_
  unfold vv12
  refine ty (x := #[.int .u32 0, .int .u32 0, .int .i64 2]) (by kernel_rfl) ?_
  refine ty (x := (0 : Int)) (by kernel_rfl) ?_
  refine ty (x := (0 : Int)) (by kernel_rfl) ?_
  refine ty (x := (2 : Int)) (by kernel_rfl) ?_
  refine ix (x := (⟨54, 2, none⟩ : Addr)) (by kernel_rfl) ?_
  refine on (x := ((some (⟨40, 0, none⟩ : Addr)), (1, 1))) (by kernel_rfl) ?_
  refine on (x := (0 : Int)) (by kernel_rfl) ?_
  refine sg (s13 b) (by kernel_rfl) (by kernel_rfl) ?_
  unfold vv13
  refine ty (x := #[.agg #[.slice none 0 0, .int .i64 0], .int .i64 2]) (by kernel_rfl) ?_
  refine ty (x := #[.slice none 0 0, .int .i64 0]) (by kernel_rfl) ?_
  refine ty (x := (none, (0, 0))) (by kernel_rfl) ?_
  refine ty (x := (0 : Int)) (by kernel_rfl) ?_
  refine ty (x := (2 : Int)) (by kernel_rfl) ?_
  refine st (M' := ⟨b, #[k0, k1, k0, k0, k2, k3, k2, k2, k4, k4, k4, k4, k5, k6, k5, k5, k1, k0, k3, k2, k7, k8, k9, k10, k10, k11, k12, k13, k4, k4, k4, k4, k4, k4, k4, k4, k4, k4, k4, k4, k4, k4, k4, k4, k14, k14, k14, k14, k4, k14, k14, k4], 0⟩) rfl (by kernel_rfl) ?_
  refine ix (x := (⟨54, 2, none⟩ : Addr)) (by kernel_rfl) ?_
  refine on (x := ((some (⟨40, 0, none⟩ : Addr)), (1, 1))) (by kernel_rfl) ?_
  refine on (x := (0 : Int)) (by kernel_rfl) ?_
  refine sg (s14 b) (by kernel_rfl) (by kernel_rfl) ?_
  unfold vv14
  refine ty (x := #[.agg #[.slice none 0 0, .int .i64 0], .int .i64 2]) (by kernel_rfl) ?_
  refine ty (x := #[.slice none 0 0, .int .i64 0]) (by kernel_rfl) ?_
  refine ty (x := (none, (0, 0))) (by kernel_rfl) ?_
  refine ty (x := (0 : Int)) (by kernel_rfl) ?_
  refine ty (x := (2 : Int)) (by kernel_rfl) ?_
  refine st (M' := ⟨b, #[k0, k1, k0, k0, k2, k3, k2, k2, k4, k4, k4, k4, k5, k6, k5, k5, k1, k0, k3, k2, k7, k8, k9, k10, k10, k11, k12, k13, k4, k4, k4, k4, k4, k4, k4, k4, k4, k4, k4, k4, k4, k4, k4, k4, k14, k14, k14, k14, k4, k14, k14, k4, k14, k4, k14, k14, k4], 0⟩) rfl (by kernel_rfl) ?_
  refine ix (x := (⟨54, 2, none⟩ : Addr)) (by kernel_rfl) ?_
  refine on (x := ((some (⟨40, 0, none⟩ : Addr)), (1, 1))) (by kernel_rfl) ?_
  refine on (x := (0 : Int)) (by kernel_rfl) ?_
  refine sg (s15 b) (by kernel_rfl) (by kernel_rfl) ?_
  unfold vv15
  refine ty (x := #[.int .i64 0, .int .i64 2]) (by kernel_rfl) ?_
  refine ty (x := (0 : Int)) (by kernel_rfl) ?_
  refine ty (x := (2 : Int)) (by kernel_rfl) ?_
  refine ix (x := (⟨54, 2, none⟩ : Addr)) (by kernel_rfl) ?_
  refine on (x := ((some (⟨40, 0, none⟩ : Addr)), (1, 1))) (by kernel_rfl) ?_
  refine on (x := (0 : Int)) (by kernel_rfl) ?_
  refine sg (s16 b) (by kernel_rfl) (by kernel_rfl) ?_
  unfold vv16
  refine ty (x := (2 : Int)) (by kernel_rfl) ?_
  refine cF (by kernel_rfl) ?_
  refine w9_10 ?_
  refine cF (by kernel_rfl) ?_
  refine w9_12 ?_
  refine cF (by kernel_rfl) ?_
  refine w9_14 ?_
  refine cF (by kernel_rfl) ?_
  refine w9_16 ?_
  refine cF (by kernel_rfl) ?_
  refine w9_9 ?_
  refine cT (by kernel_rfl) ?_
  refine ix (x := (⟨54, 4, none⟩ : Addr)) (by kernel_rfl) ?_
  refine on (x := ((some (⟨42, 0, none⟩ : Addr)), (3, 3))) (by kernel_rfl) ?_
  refine on (x := (0 : Int)) (by kernel_rfl) ?_
  refine sg (s17 b) (by kernel_rfl) (by kernel_rfl) ?_
  unfold vv17
  refine ty (x := #[.int .u32 0, .int .u32 0, .int .i64 2]) (by kernel_rfl) ?_
  refine ty (x := (0 : Int)) (by kernel_rfl) ?_
  refine ty (x := (0 : Int)) (by kernel_rfl) ?_
  refine ty (x := (2 : Int)) (by kernel_rfl) ?_
  refine ix (x := (⟨54, 4, none⟩ : Addr)) (by kernel_rfl) ?_
  refine on (x := ((some (⟨42, 0, none⟩ : Addr)), (3, 3))) (by kernel_rfl) ?_
  refine on (x := (0 : Int)) (by kernel_rfl) ?_
  refine sg (s18 b) (by kernel_rfl) (by kernel_rfl) ?_
  unfold vv18
  refine ty (x := #[.agg #[.slice none 0 0, .int .i64 0], .int .i64 2]) (by kernel_rfl) ?_
  refine ty (x := #[.slice none 0 0, .int .i64 0]) (by kernel_rfl) ?_
  refine ty (x := (none, (0, 0))) (by kernel_rfl) ?_
  refine ty (x := (0 : Int)) (by kernel_rfl) ?_
  refine ty (x := (2 : Int)) (by kernel_rfl) ?_
  refine st (M' := ⟨b, #[k0, k1, k0, k0, k2, k3, k2, k2, k4, k4, k4, k4, k5, k6, k5, k5, k1, k0, k3, k2, k7, k8, k9, k10, k10, k11, k12, k13, k4, k4, k4, k4, k4, k4, k4, k4, k4, k4, k4, k4, k4, k4, k4, k4, k14, k14, k14, k14, k4, k14, k14, k4, k14, k4, k14, k14, k4, k14, k14, k14, k15, k15, k15, k15, k4, k15, k15, k4], 0⟩) rfl (by kernel_rfl) ?_
  refine ix (x := (⟨54, 4, none⟩ : Addr)) (by kernel_rfl) ?_
  refine on (x := ((some (⟨42, 0, none⟩ : Addr)), (3, 3))) (by kernel_rfl) ?_
  refine on (x := (0 : Int)) (by kernel_rfl) ?_
  refine sg (s19 b) (by kernel_rfl) (by kernel_rfl) ?_
  unfold vv19
  refine ty (x := #[.agg #[.slice none 0 0, .int .i64 0], .int .i64 2]) (by kernel_rfl) ?_
  refine ty (x := #[.slice none 0 0, .int .i64 0]) (by kernel_rfl) ?_
  refine ty (x := (none, (0, 0))) (by kernel_rfl) ?_
  refine ty (x := (0 : Int)) (by kernel_rfl) ?_
  refine ty (x := (2 : Int)) (by kernel_rfl) ?_
  refine st (M' := ⟨b, #[k0, k1, k0, k0, k2, k3, k2, k2, k4, k4, k4, k4, k5, k6, k5, k5, k1, k0, k3, k2, k7, k8, k9, k10, k10, k11, k12, k13, k4, k4, k4, k4, k4, k4, k4, k4, k4, k4, k4, k4, k4, k4, k4, k4, k14, k14, k14, k14, k4, k14, k14, k4, k14, k4, k14, k14, k4, k14, k14, k14, k15, k15, k15, k15, k4, k15, k15, k4, k15, k4, k15, k15, k4], 0⟩) rfl (by kernel_rfl) ?_
  refine ix (x := (⟨54, 4, none⟩ : Addr)) (by kernel_rfl) ?_
  refine on (x := ((some (⟨42, 0, none⟩ : Addr)), (3, 3))) (by kernel_rfl) ?_
  refine on (x := (0 : Int)) (by kernel_rfl) ?_
  refine sg (s20 b) (by kernel_rfl) (by kernel_rfl) ?_
  unfold vv20
  refine ty (x := #[.int .i64 0, .int .i64 2]) (by kernel_rfl) ?_
  refine ty (x := (0 : Int)) (by kernel_rfl) ?_
  refine ty (x := (2 : Int)) (by kernel_rfl) ?_
  refine ix (x := (⟨54, 4, none⟩ : Addr)) (by kernel_rfl) ?_
  refine on (x := ((some (⟨42, 0, none⟩ : Addr)), (3, 3))) (by kernel_rfl) ?_
  refine on (x := (0 : Int)) (by kernel_rfl) ?_
  refine sg (s21 b) (by kernel_rfl) (by kernel_rfl) ?_
  unfold vv21
  refine ty (x := (2 : Int)) (by kernel_rfl) ?_
  refine cF (by kernel_rfl) ?_
  refine w9_10 ?_
  refine cF (by kernel_rfl) ?_
  refine w9_12 ?_
  refine cF (by kernel_rfl) ?_
  refine w9_14 ?_
  refine cF (by kernel_rfl) ?_
  refine w9_16 ?_
  refine cF (by kernel_rfl) ?_
  refine w9_9 ?_
  refine cT (by kernel_rfl) ?_
  refine ix (x := (⟨54, 6, none⟩ : Addr)) (by kernel_rfl) ?_
  refine on (x := ((some (⟨44, 0, none⟩ : Addr)), (2, 2))) (by kernel_rfl) ?_
  refine on (x := (0 : Int)) (by kernel_rfl) ?_
  refine sg (s22 b) (by kernel_rfl) (by kernel_rfl) ?_
  unfold vv22
  refine ty (x := #[.int .u32 0, .int .u32 0, .int .i64 2]) (by kernel_rfl) ?_
  refine ty (x := (0 : Int)) (by kernel_rfl) ?_
  refine ty (x := (0 : Int)) (by kernel_rfl) ?_
  refine ty (x := (2 : Int)) (by kernel_rfl) ?_
  refine ix (x := (⟨54, 6, none⟩ : Addr)) (by kernel_rfl) ?_
  refine on (x := ((some (⟨44, 0, none⟩ : Addr)), (2, 2))) (by kernel_rfl) ?_
  refine on (x := (0 : Int)) (by kernel_rfl) ?_
  refine sg (s23 b) (by kernel_rfl) (by kernel_rfl) ?_
  unfold vv23
  refine ty (x := #[.agg #[.slice none 0 0, .int .i64 0], .int .i64 2]) (by kernel_rfl) ?_
  refine ty (x := #[.slice none 0 0, .int .i64 0]) (by kernel_rfl) ?_
  refine ty (x := (none, (0, 0))) (by kernel_rfl) ?_
  refine ty (x := (0 : Int)) (by kernel_rfl) ?_
  refine ty (x := (2 : Int)) (by kernel_rfl) ?_
  refine st (M' := ⟨b, #[k0, k1, k0, k0, k2, k3, k2, k2, k4, k4, k4, k4, k5, k6, k5, k5, k1, k0, k3, k2, k7, k8, k9, k10, k10, k11, k12, k13, k4, k4, k4, k4, k4, k4, k4, k4, k4, k4, k4, k4, k4, k4, k4, k4, k14, k14, k14, k14, k4, k14, k14, k4, k14, k4, k14, k14, k4, k14, k14, k14, k15, k15, k15, k15, k4, k15, k15, k4, k15, k4, k15, k15, k4, k15, k15, k15, k16, k16, k16, k16, k4, k16, k16, k4], 0⟩) rfl (by kernel_rfl) ?_
  refine ix (x := (⟨54, 6, none⟩ : Addr)) (by kernel_rfl) ?_
  refine on (x := ((some (⟨44, 0, none⟩ : Addr)), (2, 2))) (by kernel_rfl) ?_
  refine on (x := (0 : Int)) (by kernel_rfl) ?_
  refine sg (s24 b) (by kernel_rfl) (by kernel_rfl) ?_
  unfold vv24
  refine ty (x := #[.agg #[.slice none 0 0, .int .i64 0], .int .i64 2]) (by kernel_rfl) ?_
  refine ty (x := #[.slice none 0 0, .int .i64 0]) (by kernel_rfl) ?_
  refine ty (x := (none, (0, 0))) (by kernel_rfl) ?_
  refine ty (x := (0 : Int)) (by kernel_rfl) ?_
  refine ty (x := (2 : Int)) (by kernel_rfl) ?_
  refine st (M' := ⟨b, #[k0, k1, k0, k0, k2, k3, k2, k2, k4, k4, k4, k4, k5, k6, k5, k5, k1, k0, k3, k2, k7, k8, k9, k10, k10, k11, k12, k13, k4, k4, k4, k4, k4, k4, k4, k4, k4, k4, k4, k4, k4, k4, k4, k4, k14, k14, k14, k14, k4, k14, k14, k4, k14, k4, k14, k14, k4, k14, k14, k14, k15, k15, k15, k15, k4, k15, k15, k4, k15, k4, k15, k15, k4, k15, k15, k15, k16, k16, k16, k16, k4, k16, k16, k4, k16, k4, k16, k16, k4], 0⟩) rfl (by kernel_rfl) ?_
  refine ix (x := (⟨54, 6, none⟩ : Addr)) (by kernel_rfl) ?_
  refine on (x := ((some (⟨44, 0, none⟩ : Addr)), (2, 2))) (by kernel_rfl) ?_
  refine on (x := (0 : Int)) (by kernel_rfl) ?_
  refine sg (s25 b) (by kernel_rfl) (by kernel_rfl) ?_
  unfold vv25
  refine ty (x := #[.int .i64 0, .int .i64 2]) (by kernel_rfl) ?_
  refine ty (x := (0 : Int)) (by kernel_rfl) ?_
  refine ty (x := (2 : Int)) (by kernel_rfl) ?_
  refine ix (x := (⟨54, 6, none⟩ : Addr)) (by kernel_rfl) ?_
  refine on (x := ((some (⟨44, 0, none⟩ : Addr)), (2, 2))) (by kernel_rfl) ?_
  refine on (x := (0 : Int)) (by kernel_rfl) ?_
  refine sg (s26 b) (by kernel_rfl) (by kernel_rfl) ?_
  unfold vv26
  refine ty (x := (2 : Int)) (by kernel_rfl) ?_
  refine cF (by kernel_rfl) ?_
  refine w9_10 ?_
  refine cF (by kernel_rfl) ?_
  refine w9_12 ?_
  refine cF (by kernel_rfl) ?_
  refine w9_14 ?_
  refine cF (by kernel_rfl) ?_
  refine w9_16 ?_
  refine cF (by kernel_rfl) ?_
  refine w9_9 ?_
  refine cT (by kernel_rfl) ?_
  refine ix (x := (⟨54, 8, none⟩ : Addr)) (by kernel_rfl) ?_
  refine on (x := ((some (⟨46, 0, none⟩ : Addr)), (2, 2))) (by kernel_rfl) ?_
  refine on (x := (-1 : Int)) (by kernel_rfl) ?_
  refine sg (s27 b) (by kernel_rfl) (by kernel_rfl) ?_
  unfold vv27
  refine ty (x := #[.int .u32 0, .int .u32 0, .int .i64 2]) (by kernel_rfl) ?_
  refine ty (x := (0 : Int)) (by kernel_rfl) ?_
  refine ty (x := (0 : Int)) (by kernel_rfl) ?_
  refine ty (x := (2 : Int)) (by kernel_rfl) ?_
  refine ix (x := (⟨54, 8, none⟩ : Addr)) (by kernel_rfl) ?_
  refine on (x := ((some (⟨46, 0, none⟩ : Addr)), (2, 2))) (by kernel_rfl) ?_
  refine on (x := (-1 : Int)) (by kernel_rfl) ?_
  refine sg (s28 b) (by kernel_rfl) (by kernel_rfl) ?_
  unfold vv28
  refine ty (x := #[.agg #[.slice none 0 0, .int .i64 0], .int .i64 2]) (by kernel_rfl) ?_
  refine ty (x := #[.slice none 0 0, .int .i64 0]) (by kernel_rfl) ?_
  refine ty (x := (none, (0, 0))) (by kernel_rfl) ?_
  refine ty (x := (0 : Int)) (by kernel_rfl) ?_
  refine ty (x := (2 : Int)) (by kernel_rfl) ?_
  refine st (M' := ⟨b, #[k0, k1, k0, k0, k2, k3, k2, k2, k4, k4, k4, k4, k5, k6, k5, k5, k1, k0, k3, k2, k7, k8, k9, k10, k10, k11, k12, k13, k4, k4, k4, k4, k4, k4, k4, k4, k4, k4, k4, k4, k4, k4, k4, k4, k14, k14, k14, k14, k4, k14, k14, k4, k14, k4, k14, k14, k4, k14, k14, k14, k15, k15, k15, k15, k4, k15, k15, k4, k15, k4, k15, k15, k4, k15, k15, k15, k16, k16, k16, k16, k4, k16, k16, k4, k16, k4, k16, k16, k4, k16, k16, k16, k17, k17, k17, k17, k4, k17, k17, k4], 0⟩) rfl (by kernel_rfl) ?_
  refine ix (x := (⟨54, 8, none⟩ : Addr)) (by kernel_rfl) ?_
  refine on (x := ((some (⟨46, 0, none⟩ : Addr)), (2, 2))) (by kernel_rfl) ?_
  refine on (x := (-1 : Int)) (by kernel_rfl) ?_
  refine sg (s29 b) (by kernel_rfl) (by kernel_rfl) ?_
  unfold vv29
  refine ty (x := #[.agg #[.slice none 0 0, .int .i64 0], .int .i64 2]) (by kernel_rfl) ?_
  refine ty (x := #[.slice none 0 0, .int .i64 0]) (by kernel_rfl) ?_
  refine ty (x := (none, (0, 0))) (by kernel_rfl) ?_
  refine ty (x := (0 : Int)) (by kernel_rfl) ?_
  refine ty (x := (2 : Int)) (by kernel_rfl) ?_
  refine st (M' := ⟨b, #[k0, k1, k0, k0, k2, k3, k2, k2, k4, k4, k4, k4, k5, k6, k5, k5, k1, k0, k3, k2, k7, k8, k9, k10, k10, k11, k12, k13, k4, k4, k4, k4, k4, k4, k4, k4, k4, k4, k4, k4, k4, k4, k4, k4, k14, k14, k14, k14, k4, k14, k14, k4, k14, k4, k14, k14, k4, k14, k14, k14, k15, k15, k15, k15, k4, k15, k15, k4, k15, k4, k15, k15, k4, k15, k15, k15, k16, k16, k16, k16, k4, k16, k16, k4, k16, k4, k16, k16, k4, k16, k16, k16, k17, k17, k17, k17, k4, k17, k17, k4, k17, k4, k17, k17, k4], 0⟩) rfl (by kernel_rfl) ?_
  refine ix (x := (⟨54, 8, none⟩ : Addr)) (by kernel_rfl) ?_
  refine on (x := ((some (⟨46, 0, none⟩ : Addr)), (2, 2))) (by kernel_rfl) ?_
  refine on (x := (-1 : Int)) (by kernel_rfl) ?_
  refine sg (s30 b) (by kernel_rfl) (by kernel_rfl) ?_
  unfold vv30
  refine ty (x := #[.int .i64 0, .int .i64 2]) (by kernel_rfl) ?_
  refine ty (x := (0 : Int)) (by kernel_rfl) ?_
  refine ty (x := (2 : Int)) (by kernel_rfl) ?_
  refine ix (x := (⟨54, 8, none⟩ : Addr)) (by kernel_rfl) ?_
  refine on (x := ((some (⟨46, 0, none⟩ : Addr)), (2, 2))) (by kernel_rfl) ?_
  refine on (x := (-1 : Int)) (by kernel_rfl) ?_
  refine sg (s31 b) (by kernel_rfl) (by kernel_rfl) ?_
  unfold vv31
  refine ty (x := (2 : Int)) (by kernel_rfl) ?_
  refine cF (by kernel_rfl) ?_
  refine w9_10 ?_
  refine cF (by kernel_rfl) ?_
  refine w9_12 ?_
  refine cF (by kernel_rfl) ?_
  refine w9_14 ?_
  refine cF (by kernel_rfl) ?_
  refine w9_16 ?_
  refine cF (by kernel_rfl) ?_
  refine w9_9 ?_
  refine cT (by kernel_rfl) ?_
  refine ix (x := (⟨54, 10, none⟩ : Addr)) (by kernel_rfl) ?_
  refine on (x := ((some (⟨48, 0, none⟩ : Addr)), (2, 2))) (by kernel_rfl) ?_
  refine on (x := (33 : Int)) (by kernel_rfl) ?_
  refine sg (s32 b) (by kernel_rfl) (by kernel_rfl) ?_
  unfold vv32
  refine ty (x := #[.int .u32 0, .int .u32 0, .int .i64 2]) (by kernel_rfl) ?_
  refine ty (x := (0 : Int)) (by kernel_rfl) ?_
  refine ty (x := (0 : Int)) (by kernel_rfl) ?_
  refine ty (x := (2 : Int)) (by kernel_rfl) ?_
  refine ix (x := (⟨54, 10, none⟩ : Addr)) (by kernel_rfl) ?_
  refine on (x := ((some (⟨48, 0, none⟩ : Addr)), (2, 2))) (by kernel_rfl) ?_
  refine on (x := (33 : Int)) (by kernel_rfl) ?_
  refine sg (s33 b) (by kernel_rfl) (by kernel_rfl) ?_
  unfold vv33
  refine ty (x := #[.agg #[.slice none 0 0, .int .i64 0], .int .i64 2]) (by kernel_rfl) ?_
  refine ty (x := #[.slice none 0 0, .int .i64 0]) (by kernel_rfl) ?_
  refine ty (x := (none, (0, 0))) (by kernel_rfl) ?_
  refine ty (x := (0 : Int)) (by kernel_rfl) ?_
  refine ty (x := (2 : Int)) (by kernel_rfl) ?_
  refine st (M' := ⟨b, #[k0, k1, k0, k0, k2, k3, k2, k2, k4, k4, k4, k4, k5, k6, k5, k5, k1, k0, k3, k2, k7, k8, k9, k10, k10, k11, k12, k13, k4, k4, k4, k4, k4, k4, k4, k4, k4, k4, k4, k4, k4, k4, k4, k4, k14, k14, k14, k14, k4, k14, k14, k4, k14, k4, k14, k14, k4, k14, k14, k14, k15, k15, k15, k15, k4, k15, k15, k4, k15, k4, k15, k15, k4, k15, k15, k15, k16, k16, k16, k16, k4, k16, k16, k4, k16, k4, k16, k16, k4, k16, k16, k16, k17, k17, k17, k17, k4, k17, k17, k4, k17, k4, k17, k17, k4, k17, k17, k17, k18, k18, k18, k18, k4, k18, k18, k4], 0⟩) rfl (by kernel_rfl) ?_
  refine ix (x := (⟨54, 10, none⟩ : Addr)) (by kernel_rfl) ?_
  refine on (x := ((some (⟨48, 0, none⟩ : Addr)), (2, 2))) (by kernel_rfl) ?_
  refine on (x := (33 : Int)) (by kernel_rfl) ?_
  refine sg (s34 b) (by kernel_rfl) (by kernel_rfl) ?_
  unfold vv34
  refine ty (x := #[.agg #[.slice none 0 0, .int .i64 0], .int .i64 2]) (by kernel_rfl) ?_
  refine ty (x := #[.slice none 0 0, .int .i64 0]) (by kernel_rfl) ?_
  refine ty (x := (none, (0, 0))) (by kernel_rfl) ?_
  refine ty (x := (0 : Int)) (by kernel_rfl) ?_
  refine ty (x := (2 : Int)) (by kernel_rfl) ?_
  refine st (M' := ⟨b, #[k0, k1, k0, k0, k2, k3, k2, k2, k4, k4, k4, k4, k5, k6, k5, k5, k1, k0, k3, k2, k7, k8, k9, k10, k10, k11, k12, k13, k4, k4, k4, k4, k4, k4, k4, k4, k4, k4, k4, k4, k4, k4, k4, k4, k14, k14, k14, k14, k4, k14, k14, k4, k14, k4, k14, k14, k4, k14, k14, k14, k15, k15, k15, k15, k4, k15, k15, k4, k15, k4, k15, k15, k4, k15, k15, k15, k16, k16, k16, k16, k4, k16, k16, k4, k16, k4, k16, k16, k4, k16, k16, k16, k17, k17, k17, k17, k4, k17, k17, k4, k17, k4, k17, k17, k4, k17, k17, k17, k18, k18, k18, k18, k4, k18, k18, k4, k18, k4, k18, k18, k4], 0⟩) rfl (by kernel_rfl) ?_
  refine ix (x := (⟨54, 10, none⟩ : Addr)) (by kernel_rfl) ?_
  refine on (x := ((some (⟨48, 0, none⟩ : Addr)), (2, 2))) (by kernel_rfl) ?_
  refine on (x := (33 : Int)) (by kernel_rfl) ?_
  refine sg (s35 b) (by kernel_rfl) (by kernel_rfl) ?_
  unfold vv35
  refine ty (x := #[.int .i64 0, .int .i64 2]) (by kernel_rfl) ?_
  refine ty (x := (0 : Int)) (by kernel_rfl) ?_
  refine ty (x := (2 : Int)) (by kernel_rfl) ?_
  refine ix (x := (⟨54, 10, none⟩ : Addr)) (by kernel_rfl) ?_
  refine on (x := ((some (⟨48, 0, none⟩ : Addr)), (2, 2))) (by kernel_rfl) ?_
  refine on (x := (33 : Int)) (by kernel_rfl) ?_
  refine sg (s36 b) (by kernel_rfl) (by kernel_rfl) ?_
  unfold vv36
  refine ty (x := (2 : Int)) (by kernel_rfl) ?_
  refine cF (by kernel_rfl) ?_
  refine w9_10 ?_
  refine cF (by kernel_rfl) ?_
  refine w9_12 ?_
  refine cF (by kernel_rfl) ?_
  refine w9_14 ?_
  refine cF (by kernel_rfl) ?_
  refine w9_16 ?_
  refine cF (by kernel_rfl) ?_
  refine w9_9 ?_
  refine cT (by kernel_rfl) ?_
  refine ix (x := (⟨54, 12, none⟩ : Addr)) (by kernel_rfl) ?_
  refine on (x := ((some (⟨50, 0, none⟩ : Addr)), (17, 17))) (by kernel_rfl) ?_
  refine on (x := (0 : Int)) (by kernel_rfl) ?_
  refine sg (s37 b) (by kernel_rfl) (by kernel_rfl) ?_
  unfold vv37
  refine ty (x := #[.int .u32 0, .int .u32 0, .int .i64 2]) (by kernel_rfl) ?_
  refine ty (x := (0 : Int)) (by kernel_rfl) ?_
  refine ty (x := (0 : Int)) (by kernel_rfl) ?_
  refine ty (x := (2 : Int)) (by kernel_rfl) ?_
  refine ix (x := (⟨54, 12, none⟩ : Addr)) (by kernel_rfl) ?_
  refine on (x := ((some (⟨50, 0, none⟩ : Addr)), (17, 17))) (by kernel_rfl) ?_
  refine on (x := (0 : Int)) (by kernel_rfl) ?_
  refine sg (s38 b) (by kernel_rfl) (by kernel_rfl) ?_
  unfold vv38
  refine ty (x := #[.agg #[.slice none 0 0, .int .i64 0], .int .i64 2]) (by kernel_rfl) ?_
  refine ty (x := #[.slice none 0 0, .int .i64 0]) (by kernel_rfl) ?_
  refine ty (x := (none, (0, 0))) (by kernel_rfl) ?_
  refine ty (x := (0 : Int)) (by kernel_rfl) ?_
  refine ty (x := (2 : Int)) (by kernel_rfl) ?_
  refine st (M' := ⟨b, #[k0, k1, k0, k0, k2, k3, k2, k2, k4, k4, k4, k4, k5, k6, k5, k5, k1, k0, k3, k2, k7, k8, k9, k10, k10, k11, k12, k13, k4, k4, k4, k4, k4, k4, k4, k4, k4, k4, k4, k4, k4, k4, k4, k4, k14, k14, k14, k14, k4, k14, k14, k4, k14, k4, k14, k14, k4, k14, k14, k14, k15, k15, k15, k15, k4, k15, k15, k4, k15, k4, k15, k15, k4, k15, k15, k15, k16, k16, k16, k16, k4, k16, k16, k4, k16, k4, k16, k16, k4, k16, k16, k16, k17, k17, k17, k17, k4, k17, k17, k4, k17, k4, k17, k17, k4, k17, k17, k17, k18, k18, k18, k18, k4, k18, k18, k4, k18, k4, k18, k18, k4, k18, k18, k18, k19, k19, k19, k19, k4, k19, k19, k4], 0⟩) rfl (by kernel_rfl) ?_
  refine ix (x := (⟨54, 12, none⟩ : Addr)) (by kernel_rfl) ?_
  refine on (x := ((some (⟨50, 0, none⟩ : Addr)), (17, 17))) (by kernel_rfl) ?_
  refine on (x := (0 : Int)) (by kernel_rfl) ?_
  refine sg (s39 b) (by kernel_rfl) (by kernel_rfl) ?_
  unfold vv39
  refine ty (x := #[.agg #[.slice none 0 0, .int .i64 0], .int .i64 2]) (by kernel_rfl) ?_
  refine ty (x := #[.slice none 0 0, .int .i64 0]) (by kernel_rfl) ?_
  refine ty (x := (none, (0, 0))) (by kernel_rfl) ?_
  refine ty (x := (0 : Int)) (by kernel_rfl) ?_
  refine ty (x := (2 : Int)) (by kernel_rfl) ?_
  refine st (M' := ⟨b, #[k0, k1, k0, k0, k2, k3, k2, k2, k4, k4, k4, k4, k5, k6, k5, k5, k1, k0, k3, k2, k7, k8, k9, k10, k10, k11, k12, k13, k4, k4, k4, k4, k4, k4, k4, k4, k4, k4, k4, k4, k4, k4, k4, k4, k14, k14, k14, k14, k4, k14, k14, k4, k14, k4, k14, k14, k4, k14, k14, k14, k15, k15, k15, k15, k4, k15, k15, k4, k15, k4, k15, k15, k4, k15, k15, k15, k16, k16, k16, k16, k4, k16, k16, k4, k16, k4, k16, k16, k4, k16, k16, k16, k17, k17, k17, k17, k4, k17, k17, k4, k17, k4, k17, k17, k4, k17, k17, k17, k18, k18, k18, k18, k4, k18, k18, k4, k18, k4, k18, k18, k4, k18, k18, k18, k19, k19, k19, k19, k4, k19, k19, k4, k19, k4, k19, k19, k4], 0⟩) rfl (by kernel_rfl) ?_
  refine ix (x := (⟨54, 12, none⟩ : Addr)) (by kernel_rfl) ?_
  refine on (x := ((some (⟨50, 0, none⟩ : Addr)), (17, 17))) (by kernel_rfl) ?_
  refine on (x := (0 : Int)) (by kernel_rfl) ?_
  refine sg (s40 b) (by kernel_rfl) (by kernel_rfl) ?_
  unfold vv40
  refine ty (x := #[.int .i64 0, .int .i64 2]) (by kernel_rfl) ?_
  refine ty (x := (0 : Int)) (by kernel_rfl) ?_
  refine ty (x := (2 : Int)) (by kernel_rfl) ?_
  refine ix (x := (⟨54, 12, none⟩ : Addr)) (by kernel_rfl) ?_
  refine on (x := ((some (⟨50, 0, none⟩ : Addr)), (17, 17))) (by kernel_rfl) ?_
  refine on (x := (0 : Int)) (by kernel_rfl) ?_
  refine sg (s41 b) (by kernel_rfl) (by kernel_rfl) ?_
  unfold vv41
  refine ty (x := (2 : Int)) (by kernel_rfl) ?_
  refine cF (by kernel_rfl) ?_
  refine w9_10 ?_
  refine cF (by kernel_rfl) ?_
  refine w9_12 ?_
  refine cF (by kernel_rfl) ?_
  refine w9_14 ?_
  refine cF (by kernel_rfl) ?_
  refine w9_16 ?_
  refine cF (by kernel_rfl) ?_
  refine w9_9 ?_
  refine cT (by kernel_rfl) ?_
  refine ix (x := (⟨54, 14, none⟩ : Addr)) (by kernel_rfl) ?_
  refine on (x := ((some (⟨52, 0, none⟩ : Addr)), (2, 2))) (by kernel_rfl) ?_
  refine on (x := (0 : Int)) (by kernel_rfl) ?_
  refine sg (s42 b) (by kernel_rfl) (by kernel_rfl) ?_
  unfold vv42
  refine ty (x := #[.int .u32 0, .int .u32 0, .int .i64 2]) (by kernel_rfl) ?_
  refine ty (x := (0 : Int)) (by kernel_rfl) ?_
  refine ty (x := (0 : Int)) (by kernel_rfl) ?_
  refine ty (x := (2 : Int)) (by kernel_rfl) ?_
  refine ix (x := (⟨54, 14, none⟩ : Addr)) (by kernel_rfl) ?_
  refine on (x := ((some (⟨52, 0, none⟩ : Addr)), (2, 2))) (by kernel_rfl) ?_
  refine on (x := (0 : Int)) (by kernel_rfl) ?_
  refine sg (s43 b) (by kernel_rfl) (by kernel_rfl) ?_
  unfold vv43
  refine ty (x := #[.agg #[.slice none 0 0, .int .i64 0], .int .i64 2]) (by kernel_rfl) ?_
  refine ty (x := #[.slice none 0 0, .int .i64 0]) (by kernel_rfl) ?_
  refine ty (x := (none, (0, 0))) (by kernel_rfl) ?_
  refine ty (x := (0 : Int)) (by kernel_rfl) ?_
  refine ty (x := (2 : Int)) (by kernel_rfl) ?_
  refine st (M' := ⟨b, #[k0, k1, k0, k0, k2, k3, k2, k2, k4, k4, k4, k4, k5, k6, k5, k5, k1, k0, k3, k2, k7, k8, k9, k10, k10, k11, k12, k13, k4, k4, k4, k4, k4, k4, k4, k4, k4, k4, k4, k4, k4, k4, k4, k4, k14, k14, k14, k14, k4, k14, k14, k4, k14, k4, k14, k14, k4, k14, k14, k14, k15, k15, k15, k15, k4, k15, k15, k4, k15, k4, k15, k15, k4, k15, k15, k15, k16, k16, k16, k16, k4, k16, k16, k4, k16, k4, k16, k16, k4, k16, k16, k16, k17, k17, k17, k17, k4, k17, k17, k4, k17, k4, k17, k17, k4, k17, k17, k17, k18, k18, k18, k18, k4, k18, k18, k4, k18, k4, k18, k18, k4, k18, k18, k18, k19, k19, k19, k19, k4, k19, k19, k4, k19, k4, k19, k19, k4, k19, k19, k19, k20, k20, k20, k20, k4, k20, k20, k4], 0⟩) rfl (by kernel_rfl) ?_
  refine ix (x := (⟨54, 14, none⟩ : Addr)) (by kernel_rfl) ?_
  refine on (x := ((some (⟨52, 0, none⟩ : Addr)), (2, 2))) (by kernel_rfl) ?_
  refine on (x := (0 : Int)) (by kernel_rfl) ?_
  refine sg (s44 b) (by kernel_rfl) (by kernel_rfl) ?_
  unfold vv44
  refine ty (x := #[.agg #[.slice none 0 0, .int .i64 0], .int .i64 2]) (by kernel_rfl) ?_
  refine ty (x := #[.slice none 0 0, .int .i64 0]) (by kernel_rfl) ?_
  refine ty (x := (none, (0, 0))) (by kernel_rfl) ?_
  refine ty (x := (0 : Int)) (by kernel_rfl) ?_
  refine ty (x := (2 : Int)) (by kernel_rfl) ?_
  refine st (M' := ⟨b, #[k0, k1, k0, k0, k2, k3, k2, k2, k4, k4, k4, k4, k5, k6, k5, k5, k1, k0, k3, k2, k7, k8, k9, k10, k10, k11, k12, k13, k4, k4, k4, k4, k4, k4, k4, k4, k4, k4, k4, k4, k4, k4, k4, k4, k14, k14, k14, k14, k4, k14, k14, k4, k14, k4, k14, k14, k4, k14, k14, k14, k15, k15, k15, k15, k4, k15, k15, k4, k15, k4, k15, k15, k4, k15, k15, k15, k16, k16, k16, k16, k4, k16, k16, k4, k16, k4, k16, k16, k4, k16, k16, k16, k17, k17, k17, k17, k4, k17, k17, k4, k17, k4, k17, k17, k4, k17, k17, k17, k18, k18, k18, k18, k4, k18, k18, k4, k18, k4, k18, k18, k4, k18, k18, k18, k19, k19, k19, k19, k4, k19, k19, k4, k19, k4, k19, k19, k4, k19, k19, k19, k20, k20, k20, k20, k4, k20, k20, k4, k20, k4, k20, k20, k4], 0⟩) rfl (by kernel_rfl) ?_
  refine ix (x := (⟨54, 14, none⟩ : Addr)) (by kernel_rfl) ?_
  refine on (x := ((some (⟨52, 0, none⟩ : Addr)), (2, 2))) (by kernel_rfl) ?_
  refine on (x := (0 : Int)) (by kernel_rfl) ?_
  refine sg (s45 b) (by kernel_rfl) (by kernel_rfl) ?_
  unfold vv45
  refine ty (x := #[.int .i64 0, .int .i64 2]) (by kernel_rfl) ?_
  refine ty (x := (0 : Int)) (by kernel_rfl) ?_
  refine ty (x := (2 : Int)) (by kernel_rfl) ?_
  refine ix (x := (⟨54, 14, none⟩ : Addr)) (by kernel_rfl) ?_
  refine on (x := ((some (⟨52, 0, none⟩ : Addr)), (2, 2))) (by kernel_rfl) ?_
  refine on (x := (0 : Int)) (by kernel_rfl) ?_
  refine sg (s46 b) (by kernel_rfl) (by kernel_rfl) ?_
  unfold vv46
  refine ty (x := (2 : Int)) (by kernel_rfl) ?_
  refine cF (by kernel_rfl) ?_
  refine w9_10 ?_
  refine cF (by kernel_rfl) ?_
  refine w9_12 ?_
  refine cF (by kernel_rfl) ?_
  refine w9_14 ?_
  refine cF (by kernel_rfl) ?_
  refine w9_16 ?_
  refine cF (by kernel_rfl) ?_
  refine w9_9 ?_
  refine cF (by kernel_rfl) ?_
  refine st (M' := ⟨b, #[k0, k1, k0, k0, k2, k3, k2, k2, k4, k4, k4, k4, k5, k6, k5, k5, k1, k0, k3, k2, k7, k8, k9, k10, k10, k11, k12, k13, k4, k4, k4, k4, k4, k4, k4, k4, k4, k4, k4, k4, k4, k4, k4, k4, k14, k14, k14, k14, k4, k14, k14, k4, k14, k4, k14, k14, k4, k14, k14, k14, k15, k15, k15, k15, k4, k15, k15, k4, k15, k4, k15, k15, k4, k15, k15, k15, k16, k16, k16, k16, k4, k16, k16, k4, k16, k4, k16, k16, k4, k16, k16, k16, k17, k17, k17, k17, k4, k17, k17, k4, k17, k4, k17, k17, k4, k17, k17, k17, k18, k18, k18, k18, k4, k18, k18, k4, k18, k4, k18, k18, k4, k18, k18, k18, k19, k19, k19, k19, k4, k19, k19, k4, k19, k4, k19, k19, k4, k19, k19, k19, k20, k20, k20, k20, k4, k20, k20, k4, k20, k4, k20, k20, k4, k20, k20, k20, k21, k22], 0⟩) rfl (by kernel_rfl) ?_
  refine on (x := ((some (⟨312, 0, none⟩ : Addr)), (2, 2))) (by kernel_rfl) ?_
  refine on (x := (0 : Int)) (by kernel_rfl) ?_
  refine sg (s47 b) (by kernel_rfl) (by kernel_rfl) ?_
  unfold vv47
  refine ty (x := #[.int .u32 0, .int .u32 4, .int .i64 0]) (by kernel_rfl) ?_
  refine ty (x := (0 : Int)) (by kernel_rfl) ?_
  refine ty (x := (4 : Int)) (by kernel_rfl) ?_
  refine ty (x := (0 : Int)) (by kernel_rfl) ?_
  refine on (x := ((some (⟨312, 0, none⟩ : Addr)), (2, 2))) (by kernel_rfl) ?_
  refine on (x := (0 : Int)) (by kernel_rfl) ?_
  refine sg (s48 b) (by kernel_rfl) (by kernel_rfl) ?_
  unfold vv48
  refine ty (x := #[.int .u32 4, .int .u32 32768, .int .i64 0]) (by kernel_rfl) ?_
  refine ty (x := (4 : Int)) (by kernel_rfl) ?_
  refine ty (x := (32768 : Int)) (by kernel_rfl) ?_
  refine ty (x := (0 : Int)) (by kernel_rfl) ?_
  refine cT (by kernel_rfl) ?_
  refine w9_11 ?_
  refine cT (by kernel_rfl) ?_
  refine w9_13 ?_
  refine cT (by kernel_rfl) ?_
  refine w9_15 ?_
  refine cT (by kernel_rfl) ?_
  refine w9_17 ?_
  refine cT (by kernel_rfl) ?_
  refine w9_18 ?_
  refine sg (s49 b) (by kernel_rfl) (by kernel_rfl) ?_
  unfold vv49
  refine ty (x := #[.agg #[.slice (some ⟨338, 0, none⟩) 2 2, .int .i64 0], .int .i64 0]) (by kernel_rfl) ?_
  refine ty (x := #[.slice (some ⟨338, 0, none⟩) 2 2, .int .i64 0]) (by kernel_rfl) ?_
  refine ty (x := ((some (⟨338, 0, none⟩ : Addr)), (2, 2))) (by kernel_rfl) ?_
  refine ty (x := (0 : Int)) (by kernel_rfl) ?_
  refine ty (x := (0 : Int)) (by kernel_rfl) ?_
  refine st (M' := ⟨b, #[k0, k1, k0, k0, k2, k3, k2, k2, k4, k4, k4, k4, k5, k6, k5, k5, k1, k0, k3, k2, k7, k8, k9, k10, k10, k11, k12, k13, k4, k4, k4, k4, k4, k4, k4, k4, k4, k4, k4, k4, k4, k4, k4, k4, k14, k14, k14, k14, k4, k14, k14, k4, k14, k4, k14, k14, k4, k14, k14, k14, k15, k15, k15, k15, k4, k15, k15, k4, k15, k4, k15, k15, k4, k15, k15, k15, k16, k16, k16, k16, k4, k16, k16, k4, k16, k4, k16, k16, k4, k16, k16, k16, k17, k17, k17, k17, k4, k17, k17, k4, k17, k4, k17, k17, k4, k17, k17, k17, k18, k18, k18, k18, k4, k18, k18, k4, k18, k4, k18, k18, k4, k18, k18, k18, k19, k19, k19, k19, k4, k19, k19, k4, k19, k4, k19, k19, k4, k19, k19, k19, k20, k20, k20, k20, k4, k20, k20, k4, k20, k4, k20, k20, k4, k20, k20, k20, k21, k22, k22, k22, k22, k22, k22, k22, k22, k22, k22, k22, k23, k24, k23, k23], 0⟩) rfl (by kernel_rfl) ?_
  refine on (x := ((some (⟨338, 0, none⟩ : Addr)), (2, 2))) (by kernel_rfl) ?_
  refine on (x := (0 : Int)) (by kernel_rfl) ?_
  refine sg (s50 b) (by kernel_rfl) (by kernel_rfl) ?_
  unfold vv50
  refine ty (x := #[.int .u32 0, .int .u32 0, .int .i64 2]) (by kernel_rfl) ?_
  refine ty (x := (0 : Int)) (by kernel_rfl) ?_
  refine ty (x := (0 : Int)) (by kernel_rfl) ?_
  refine ty (x := (2 : Int)) (by kernel_rfl) ?_
  refine on (x := ((some (⟨338, 0, none⟩ : Addr)), (2, 2))) (by kernel_rfl) ?_
  refine on (x := (0 : Int)) (by kernel_rfl) ?_
  refine sg (s51 b) (by kernel_rfl) (by kernel_rfl) ?_
  unfold vv51
  refine ty (x := #[.int .u32 0, .int .u32 0, .int .i64 2]) (by kernel_rfl) ?_
  refine ty (x := (0 : Int)) (by kernel_rfl) ?_
  refine ty (x := (0 : Int)) (by kernel_rfl) ?_
  refine ty (x := (2 : Int)) (by kernel_rfl) ?_
  refine on (x := ((some (⟨338, 0, none⟩ : Addr)), (2, 2))) (by kernel_rfl) ?_
  refine on (x := (0 : Int)) (by kernel_rfl) ?_
  refine sg (s52 b) (by kernel_rfl) (by kernel_rfl) ?_
  unfold vv52
  refine ty (x := #[.int .i64 0, .int .i64 2]) (by kernel_rfl) ?_
  refine ty (x := (0 : Int)) (by kernel_rfl) ?_
  refine ty (x := (2 : Int)) (by kernel_rfl) ?_
  refine on (x := ((some (⟨338, 0, none⟩ : Addr)), (2, 2))) (by kernel_rfl) ?_
  refine on (x := (0 : Int)) (by kernel_rfl) ?_
  refine sg (s53 b) (by kernel_rfl) (by kernel_rfl) ?_
  unfold vv53
  refine ty (x := #[.agg #[.slice none 0 0, .int .i64 0], .int .i64 2]) (by kernel_rfl) ?_
  refine ty (x := #[.slice none 0 0, .int .i64 0]) (by kernel_rfl) ?_
  refine ty (x := (none, (0, 0))) (by kernel_rfl) ?_
  refine ty (x := (0 : Int)) (by kernel_rfl) ?_
  refine ty (x := (2 : Int)) (by kernel_rfl) ?_
  refine st (M' := ⟨b, #[k0, k1, k0, k0, k2, k3, k2, k2, k4, k4, k4, k4, k5, k6, k5, k5, k1, k0, k3, k2, k7, k8, k9, k10, k10, k11, k12, k13, k4, k4, k4, k4, k4, k4, k4, k4, k4, k4, k4, k4, k4, k4, k4, k4, k14, k14, k14, k14, k4, k14, k14, k4, k14, k4, k14, k14, k4, k14, k14, k14, k15, k15, k15, k15, k4, k15, k15, k4, k15, k4, k15, k15, k4, k15, k15, k15, k16, k16, k16, k16, k4, k16, k16, k4, k16, k4, k16, k16, k4, k16, k16, k16, k17, k17, k17, k17, k4, k17, k17, k4, k17, k4, k17, k17, k4, k17, k17, k17, k18, k18, k18, k18, k4, k18, k18, k4, k18, k4, k18, k18, k4, k18, k18, k18, k19, k19, k19, k19, k4, k19, k19, k4, k19, k4, k19, k19, k4, k19, k19, k19, k20, k20, k20, k20, k4, k20, k20, k4, k20, k4, k20, k20, k4, k20, k20, k20, k21, k22, k22, k22, k22, k22, k22, k22, k22, k22, k22, k22, k23, k24, k23, k23, k23, k23, k23, k23, k23, k23, k23, k23, k23, k4, k23, k23, k4], 0⟩) rfl (by kernel_rfl) ?_
  refine on (x := ((some (⟨338, 0, none⟩ : Addr)), (2, 2))) (by kernel_rfl) ?_
  refine on (x := (0 : Int)) (by kernel_rfl) ?_
  refine sg (s54 b) (by kernel_rfl) (by kernel_rfl) ?_
  unfold vv54
  refine ty (x := #[.int .i64 0, .int .i64 0]) (by kernel_rfl) ?_
  refine ty (x := (0 : Int)) (by kernel_rfl) ?_
  refine ty (x := (0 : Int)) (by kernel_rfl) ?_
  refine sg (s55 b) (by kernel_rfl) (by kernel_rfl) ?_
  unfold vv55
  refine ty (x := #[.agg #[.slice none 0 0, .int .i64 0], .int .i64 2]) (by kernel_rfl) ?_
  refine ty (x := #[.slice none 0 0, .int .i64 0]) (by kernel_rfl) ?_
  refine ty (x := (none, (0, 0))) (by kernel_rfl) ?_
  refine ty (x := (0 : Int)) (by kernel_rfl) ?_
  refine ty (x := (2 : Int)) (by kernel_rfl) ?_
  refine st (M' := ⟨b, #[k0, k1, k0, k0, k2, k3, k2, k2, k4, k4, k4, k4, k5, k6, k5, k5, k1, k0, k3, k2, k7, k8, k9, k10, k10, k11, k12, k13, k4, k4, k4, k4, k4, k4, k4, k4, k4, k4, k4, k4, k4, k4, k4, k4, k14, k14, k14, k14, k4, k14, k14, k4, k14, k4, k14, k14, k4, k14, k14, k14, k15, k15, k15, k15, k4, k15, k15, k4, k15, k4, k15, k15, k4, k15, k15, k15, k16, k16, k16, k16, k4, k16, k16, k4, k16, k4, k16, k16, k4, k16, k16, k16, k17, k17, k17, k17, k4, k17, k17, k4, k17, k4, k17, k17, k4, k17, k17, k17, k18, k18, k18, k18, k4, k18, k18, k4, k18, k4, k18, k18, k4, k18, k18, k18, k19, k19, k19, k19, k4, k19, k19, k4, k19, k4, k19, k19, k4, k19, k19, k19, k20, k20, k20, k20, k4, k20, k20, k4, k20, k4, k20, k20, k4, k20, k20, k20, k21, k22, k22, k22, k22, k22, k22, k22, k22, k22, k22, k22, k23, k24, k23, k23, k23, k23, k23, k23, k23, k23, k23, k23, k23, k4, k23, k23, k4, k23, k23, k23, k4, k4], 0⟩) rfl (by kernel_rfl) ?_
  refine on (x := ((some (⟨338, 0, none⟩ : Addr)), (2, 2))) (by kernel_rfl) ?_
  refine on (x := (0 : Int)) (by kernel_rfl) ?_
  refine ad (x := (⟨6, 0, none⟩ : Addr)) (by kernel_rfl) ?_
  refine on (x := ((some (⟨2, 0, none⟩ : Addr)), (3, 3))) (by kernel_rfl) ?_
  refine on (x := (0 : Int)) (by kernel_rfl) ?_
  refine sg (s56 b) (by kernel_rfl) (by kernel_rfl) ?_
  unfold vv56
  refine ty (x := #[.agg #[.slice none 0 0, .int .i64 0], .int .i64 2]) (by kernel_rfl) ?_
  refine ty (x := #[.slice none 0 0, .int .i64 0]) (by kernel_rfl) ?_
  refine ty (x := (none, (0, 0))) (by kernel_rfl) ?_
  refine ty (x := (0 : Int)) (by kernel_rfl) ?_
  refine ty (x := (2 : Int)) (by kernel_rfl) ?_
  refine st (M' := ⟨b, #[k0, k1, k0, k0, k2, k3, k2, k2, k4, k4, k4, k4, k5, k6, k5, k5, k1, k0, k3, k2, k7, k8, k9, k10, k10, k11, k12, k13, k4, k4, k4, k4, k4, k4, k4, k4, k4, k4, k4, k4, k4, k4, k4, k4, k14, k14, k14, k14, k4, k14, k14, k4, k14, k4, k14, k14, k4, k14, k14, k14, k15, k15, k15, k15, k4, k15, k15, k4, k15, k4, k15, k15, k4, k15, k15, k15, k16, k16, k16, k16, k4, k16, k16, k4, k16, k4, k16, k16, k4, k16, k16, k16, k17, k17, k17, k17, k4, k17, k17, k4, k17, k4, k17, k17, k4, k17, k17, k17, k18, k18, k18, k18, k4, k18, k18, k4, k18, k4, k18, k18, k4, k18, k18, k18, k19, k19, k19, k19, k4, k19, k19, k4, k19, k4, k19, k19, k4, k19, k19, k19, k20, k20, k20, k20, k4, k20, k20, k4, k20, k4, k20, k20, k4, k20, k20, k20, k21, k22, k22, k22, k22, k22, k22, k22, k22, k22, k22, k22, k23, k24, k23, k23, k23, k23, k23, k23, k23, k23, k23, k23, k23, k4, k23, k23, k4, k23, k23, k23, k4, k4, k25, k4, k23, k23, k0, k0, k4], 0⟩) rfl (by kernel_rfl) ?_
  refine cT (by kernel_rfl) ?_
  refine w9_19 ?_
  refine cT (by kernel_rfl) ?_
  refine w9_20 ?_
  refine cT (by kernel_rfl) ?_
  refine w9_21 ?_
  refine cT (by kernel_rfl) ?_
  refine w9_22 ?_
  refine cT (by kernel_rfl) ?_
  refine w9_23 ?_
  refine cT (by kernel_rfl) ?_
  refine w9_24 ?_
  refine cT (by kernel_rfl) ?_
  refine w9_25 ?_
  refine ad (x := (⟨342, 0, none⟩ : Addr)) (by kernel_rfl) ?_
  refine on (x := ((some (⟨338, 0, none⟩ : Addr)), (2, 2))) (by kernel_rfl) ?_
  refine on (x := (0 : Int)) (by kernel_rfl) ?_
  refine sg (s57 b) (by kernel_rfl) (by kernel_rfl) ?_
  unfold vv57
  refine ty (x := #[.agg #[.slice (some ⟨408, 0, some 0⟩) 2 2, .int .i64 1], .int .i64 0]) (by kernel_rfl) ?_
  refine ty (x := #[.slice (some ⟨408, 0, some 0⟩) 2 2, .int .i64 1]) (by kernel_rfl) ?_
  refine ty (x := ((some (⟨408, 0, some 0⟩ : Addr)), (2, 2))) (by kernel_rfl) ?_
  refine ty (x := (1 : Int)) (by kernel_rfl) ?_
  refine ty (x := (0 : Int)) (by kernel_rfl) ?_
  refine st (M' := ⟨b, #[k0, k1, k0, k0, k2, k3, k2, k2, k4, k4, k4, k4, k5, k6, k5, k5, k1, k0, k3, k2, k7, k8, k9, k10, k10, k11, k12, k13, k4, k4, k4, k4, k4, k4, k4, k4, k4, k4, k4, k4, k4, k4, k4, k4, k14, k14, k14, k14, k4, k14, k14, k4, k14, k4, k14, k14, k4, k14, k14, k14, k15, k15, k15, k15, k4, k15, k15, k4, k15, k4, k15, k15, k4, k15, k15, k15, k16, k16, k16, k16, k4, k16, k16, k4, k16, k4, k16, k16, k4, k16, k16, k16, k17, k17, k17, k17, k4, k17, k17, k4, k17, k4, k17, k17, k4, k17, k17, k17, k18, k18, k18, k18, k4, k18, k18, k4, k18, k4, k18, k18, k4, k18, k18, k18, k19, k19, k19, k19, k4, k19, k19, k4, k19, k4, k19, k19, k4, k19, k19, k19, k20, k20, k20, k20, k4, k20, k20, k4, k20, k4, k20, k20, k4, k20, k20, k20, k21, k22, k22, k22, k22, k22, k22, k22, k22, k22, k22, k22, k23, k24, k23, k23, k23, k23, k23, k23, k23, k23, k23, k23, k23, k4, k23, k23, k4, k23, k23, k23, k4, k4, k25, k4, k23, k23, k0, k0, k4, k23, k26, k23, k23, k23, k26, k27, k28, k26], 0⟩) rfl (by kernel_rfl) ?_
  refine ad (x := (⟨342, 0, none⟩ : Addr)) (by kernel_rfl) ?_
  refine on (x := ((some (⟨338, 0, none⟩ : Addr)), (2, 2))) (by kernel_rfl) ?_
  refine sg (s58 b) (by kernel_rfl) (by kernel_rfl) ?_
  unfold vv58
  refine ty (x := #[.agg #[.slice (some ⟨426, 0, some 0⟩) 2 2, .int .i64 17], .int .i64 0]) (by kernel_rfl) ?_
  refine ty (x := #[.slice (some ⟨426, 0, some 0⟩) 2 2, .int .i64 17]) (by kernel_rfl) ?_
  refine ty (x := ((some (⟨426, 0, some 0⟩ : Addr)), (2, 2))) (by kernel_rfl) ?_
  refine ty (x := (17 : Int)) (by kernel_rfl) ?_
  refine ty (x := (0 : Int)) (by kernel_rfl) ?_
  refine st (M' := ⟨b, #[k0, k1, k0, k0, k2, k3, k2, k2, k4, k4, k4, k4, k5, k6, k5, k5, k1, k0, k3, k2, k7, k8, k9, k10, k10, k11, k12, k13, k4, k4, k4, k4, k4, k4, k4, k4, k4, k4, k4, k4, k4, k4, k4, k4, k14, k14, k14, k14, k4, k14, k14, k4, k14, k4, k14, k14, k4, k14, k14, k14, k15, k15, k15, k15, k4, k15, k15, k4, k15, k4, k15, k15, k4, k15, k15, k15, k16, k16, k16, k16, k4, k16, k16, k4, k16, k4, k16, k16, k4, k16, k16, k16, k17, k17, k17, k17, k4, k17, k17, k4, k17, k4, k17, k17, k4, k17, k17, k17, k18, k18, k18, k18, k4, k18, k18, k4, k18, k4, k18, k18, k4, k18, k18, k18, k19, k19, k19, k19, k4, k19, k19, k4, k19, k4, k19, k19, k4, k19, k19, k19, k20, k20, k20, k20, k4, k20, k20, k4, k20, k4, k20, k20, k4, k20, k20, k20, k21, k22, k22, k22, k22, k22, k22, k22, k22, k22, k22, k22, k23, k24, k23, k23, k23, k23, k23, k23, k23, k23, k23, k23, k23, k4, k23, k23, k4, k23, k23, k23, k4, k4, k25, k4, k23, k23, k0, k0, k4, k23, k26, k23, k23, k23, k26, k27, k28, k26, k29, k30, k29, k29, k29, k30, k27, k31, k30], 0⟩) rfl (by kernel_rfl) ?_
  refine ad (x := (⟨342, 0, none⟩ : Addr)) (by kernel_rfl) ?_
  refine on (x := ((some (⟨338, 0, none⟩ : Addr)), (2, 2))) (by kernel_rfl) ?_
  refine sg (s59 b) (by kernel_rfl) (by kernel_rfl) ?_
  unfold vv59
  refine ty (x := #[.agg #[.slice (some ⟨444, 0, some 0⟩) 2 2, .int .i64 16], .int .i64 0]) (by kernel_rfl) ?_
  refine ty (x := #[.slice (some ⟨444, 0, some 0⟩) 2 2, .int .i64 16]) (by kernel_rfl) ?_
  refine ty (x := ((some (⟨444, 0, some 0⟩ : Addr)), (2, 2))) (by kernel_rfl) ?_
  refine ty (x := (16 : Int)) (by kernel_rfl) ?_
  refine ty (x := (0 : Int)) (by kernel_rfl) ?_
  refine st (M' := ⟨b, #[k0, k1, k0, k0, k2, k3, k2, k2, k4, k4, k4, k4, k5, k6, k5, k5, k1, k0, k3, k2, k7, k8, k9, k10, k10, k11, k12, k13, k4, k4, k4, k4, k4, k4, k4, k4, k4, k4, k4, k4, k4, k4, k4, k4, k14, k14, k14, k14, k4, k14, k14, k4, k14, k4, k14, k14, k4, k14, k14, k14, k15, k15, k15, k15, k4, k15, k15, k4, k15, k4, k15, k15, k4, k15, k15, k15, k16, k16, k16, k16, k4, k16, k16, k4, k16, k4, k16, k16, k4, k16, k16, k16, k17, k17, k17, k17, k4, k17, k17, k4, k17, k4, k17, k17, k4, k17, k17, k17, k18, k18, k18, k18, k4, k18, k18, k4, k18, k4, k18, k18, k4, k18, k18, k18, k19, k19, k19, k19, k4, k19, k19, k4, k19, k4, k19, k19, k4, k19, k19, k19, k20, k20, k20, k20, k4, k20, k20, k4, k20, k4, k20, k20, k4, k20, k20, k20, k21, k22, k22, k22, k22, k22, k22, k22, k22, k22, k22, k22, k23, k24, k23, k23, k23, k23, k23, k23, k23, k23, k23, k23, k23, k4, k23, k23, k4, k23, k23, k23, k4, k4, k25, k4, k23, k23, k0, k0, k4, k23, k26, k23, k23, k23, k26, k27, k28, k26, k29, k30, k29, k29, k29, k30, k27, k31, k30, k32, k33, k32, k32, k32, k33, k27, k34, k33], 0⟩) rfl (by kernel_rfl) ?_
  refine ad (x := (⟨342, 0, none⟩ : Addr)) (by kernel_rfl) ?_
  refine on (x := ((some (⟨338, 0, none⟩ : Addr)), (2, 2))) (by kernel_rfl) ?_
  refine sg (s60 b) (by kernel_rfl) (by kernel_rfl) ?_
  unfold vv60
  refine ty (x := #[.agg #[.slice (some ⟨462, 0, some 0⟩) 2 2, .int .i64 32], .int .i64 0]) (by kernel_rfl) ?_
  refine ty (x := #[.slice (some ⟨462, 0, some 0⟩) 2 2, .int .i64 32]) (by kernel_rfl) ?_
  refine ty (x := ((some (⟨462, 0, some 0⟩ : Addr)), (2, 2))) (by kernel_rfl) ?_
  refine ty (x := (32 : Int)) (by kernel_rfl) ?_
  refine ty (x := (0 : Int)) (by kernel_rfl) ?_
  refine st (M' := ⟨b, #[k0, k1, k0, k0, k2, k3, k2, k2, k4, k4, k4, k4, k5, k6, k5, k5, k1, k0, k3, k2, k7, k8, k9, k10, k10, k11, k12, k13, k4, k4, k4, k4, k4, k4, k4, k4, k4, k4, k4, k4, k4, k4, k4, k4, k14, k14, k14, k14, k4, k14, k14, k4, k14, k4, k14, k14, k4, k14, k14, k14, k15, k15, k15, k15, k4, k15, k15, k4, k15, k4, k15, k15, k4, k15, k15, k15, k16, k16, k16, k16, k4, k16, k16, k4, k16, k4, k16, k16, k4, k16, k16, k16, k17, k17, k17, k17, k4, k17, k17, k4, k17, k4, k17, k17, k4, k17, k17, k17, k18, k18, k18, k18, k4, k18, k18, k4, k18, k4, k18, k18, k4, k18, k18, k18, k19, k19, k19, k19, k4, k19, k19, k4, k19, k4, k19, k19, k4, k19, k19, k19, k20, k20, k20, k20, k4, k20, k20, k4, k20, k4, k20, k20, k4, k20, k20, k20, k21, k22, k22, k22, k22, k22, k22, k22, k22, k22, k22, k22, k23, k24, k23, k23, k23, k23, k23, k23, k23, k23, k23, k23, k23, k4, k23, k23, k4, k23, k23, k23, k4, k4, k25, k4, k23, k23, k0, k0, k4, k23, k26, k23, k23, k23, k26, k27, k28, k26, k29, k30, k29, k29, k29, k30, k27, k31, k30, k32, k33, k32, k32, k32, k33, k27, k34, k33, k35, k36, k35, k35, k35, k36, k27, k37, k36], 0⟩) rfl (by kernel_rfl) ?_
  refine ad (x := (⟨342, 0, none⟩ : Addr)) (by kernel_rfl) ?_
  refine on (x := ((some (⟨338, 0, none⟩ : Addr)), (2, 2))) (by kernel_rfl) ?_
  refine sg (s61 b) (by kernel_rfl) (by kernel_rfl) ?_
  unfold vv61
  refine ty (x := #[.agg #[.slice (some ⟨480, 0, some 0⟩) 2 2, .int .i64 32], .int .i64 0]) (by kernel_rfl) ?_
  refine ty (x := #[.slice (some ⟨480, 0, some 0⟩) 2 2, .int .i64 32]) (by kernel_rfl) ?_
  refine ty (x := ((some (⟨480, 0, some 0⟩ : Addr)), (2, 2))) (by kernel_rfl) ?_
  refine ty (x := (32 : Int)) (by kernel_rfl) ?_
  refine ty (x := (0 : Int)) (by kernel_rfl) ?_
  refine st (M' := ⟨b, #[k0, k1, k0, k0, k2, k3, k2, k2, k4, k4, k4, k4, k5, k6, k5, k5, k1, k0, k3, k2, k7, k8, k9, k10, k10, k11, k12, k13, k4, k4, k4, k4, k4, k4, k4, k4, k4, k4, k4, k4, k4, k4, k4, k4, k14, k14, k14, k14, k4, k14, k14, k4, k14, k4, k14, k14, k4, k14, k14, k14, k15, k15, k15, k15, k4, k15, k15, k4, k15, k4, k15, k15, k4, k15, k15, k15, k16, k16, k16, k16, k4, k16, k16, k4, k16, k4, k16, k16, k4, k16, k16, k16, k17, k17, k17, k17, k4, k17, k17, k4, k17, k4, k17, k17, k4, k17, k17, k17, k18, k18, k18, k18, k4, k18, k18, k4, k18, k4, k18, k18, k4, k18, k18, k18, k19, k19, k19, k19, k4, k19, k19, k4, k19, k4, k19, k19, k4, k19, k19, k19, k20, k20, k20, k20, k4, k20, k20, k4, k20, k4, k20, k20, k4, k20, k20, k20, k21, k22, k22, k22, k22, k22, k22, k22, k22, k22, k22, k22, k23, k24, k23, k23, k23, k23, k23, k23, k23, k23, k23, k23, k23, k4, k23, k23, k4, k23, k23, k23, k4, k4, k25, k4, k23, k23, k0, k0, k4, k23, k26, k23, k23, k23, k26, k27, k28, k26, k29, k30, k29, k29, k29, k30, k27, k31, k30, k32, k33, k32, k32, k32, k33, k27, k34, k33, k35, k36, k35, k35, k35, k36, k27, k37, k36, k38, k39, k38, k38, k38, k39, k27, k31, k39], 0⟩) rfl (by kernel_rfl) ?_
  refine on (x := ((some (⟨408, 0, some 0⟩ : Addr)), (2, 2))) (by kernel_rfl) ?_
  refine on (x := (1 : Int)) (by kernel_rfl) ?_
  refine sg (s62 b) (by kernel_rfl) (by kernel_rfl) ?_
  unfold vv62
  refine ty (x := true) (by kernel_rfl) ?_
  refine cT (by kernel_rfl) ?_
  refine on (x := ((some (⟨426, 0, some 0⟩ : Addr)), (2, 2))) (by kernel_rfl) ?_
  refine on (x := (17 : Int)) (by kernel_rfl) ?_
  refine sg (s63 b) (by kernel_rfl) (by kernel_rfl) ?_
  unfold vv63
  refine ty (x := true) (by kernel_rfl) ?_
  refine w9_26 ?_
  refine cT (by kernel_rfl) ?_
  refine ad (x := (⟨446, 0, none⟩ : Addr)) (by kernel_rfl) ?_
  refine on (x := ((some (⟨444, 0, some 0⟩ : Addr)), (2, 2))) (by kernel_rfl) ?_
  refine on (x := (16 : Int)) (by kernel_rfl) ?_
  refine sg (s64 b) (by kernel_rfl) (by kernel_rfl) ?_
  unfold vv64
  refine ty (x := true) (by kernel_rfl) ?_
  refine w9_27 ?_
  refine cT (by kernel_rfl) ?_
  refine ad (x := (⟨464, 0, none⟩ : Addr)) (by kernel_rfl) ?_
  refine on (x := ((some (⟨462, 0, some 0⟩ : Addr)), (2, 2))) (by kernel_rfl) ?_
  refine on (x := (32 : Int)) (by kernel_rfl) ?_
  refine sg (s65 b) (by kernel_rfl) (by kernel_rfl) ?_
  unfold vv65
  refine ty (x := true) (by kernel_rfl) ?_
  refine w9_28 ?_
  refine cT (by kernel_rfl) ?_
  refine ad (x := (⟨482, 0, none⟩ : Addr)) (by kernel_rfl) ?_
  refine on (x := ((some (⟨480, 0, some 0⟩ : Addr)), (2, 2))) (by kernel_rfl) ?_
  refine on (x := (32 : Int)) (by kernel_rfl) ?_
  refine sg (s66 b) (by kernel_rfl) (by kernel_rfl) ?_
  unfold vv66
  refine ty (x := true) (by kernel_rfl) ?_
  refine w9_29 ?_
  refine sg (s67 b) (by kernel_rfl) (by kernel_rfl) ?_
  unfold vv67
  refine ty (x := true) (by kernel_rfl) ?_
  refine cT (by kernel_rfl) ?_
  refine w9_30 ?_
  refine cT (by kernel_rfl) ?_
  refine w9_31 ?_
  refine cT (by kernel_rfl) ?_
  refine w9_32 ?_
  refine cT (by kernel_rfl) ?_
  rfl
end Go.Zt
