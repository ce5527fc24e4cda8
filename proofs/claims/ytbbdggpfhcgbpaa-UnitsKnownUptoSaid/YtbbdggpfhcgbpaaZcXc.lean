/- What a closed function comes to, in stages: printed by cw.py. -/
import Derived.Test.YtbbdggpfhcgbpaaZcXb0
import Derived.Test.YtbbdggpfhcgbpaaZcXb1
import Derived.Test.YtbbdggpfhcgbpaaZcXb2
import Derived.Test.YtbbdggpfhcgbpaaZcXb3
import Derived.Test.YtbbdggpfhcgbpaaZcXd
set_option maxRecDepth 100000
namespace Go.Zt
open Go Go.Sim Go.Proofs Go.RowKit
set_option maxHeartbeats 40000000
theorem walk_9 (b : Array Obj) : Sim.Cn Try.prog 9 #[] ⟨b, #[], 0⟩ (fun v _ => v = .bool true) := by
  refine w9_0 ?_
  refine sg (s0 b) (by kernel_rfl) (by kernel_rfl) ?_
  unfold vv0
  refine ty (x := #[.int .i64 0, .int .i64 0, .int .i64 0]) (by kernel_rfl) ?_
  refine ty (x := (0 : Int)) (by kernel_rfl) ?_
  refine ty (x := (0 : Int)) (by kernel_rfl) ?_
  refine ty (x := (0 : Int)) (by kernel_rfl) ?_
  refine pu (x := (.bool true)) (by kernel_rfl) ?_
  refine ty (x := true) (by kernel_rfl) ?_
  refine cT (by kernel_rfl) ?_
  refine sg (s1 b) (by kernel_rfl) (by kernel_rfl) ?_
  unfold vv1
  refine ty (x := #[.int .i64 1, .int .i64 2, .int .i64 3]) (by kernel_rfl) ?_
  refine ty (x := (1 : Int)) (by kernel_rfl) ?_
  refine ty (x := (2 : Int)) (by kernel_rfl) ?_
  refine ty (x := (3 : Int)) (by kernel_rfl) ?_
  refine pu (x := (.bool true)) (by kernel_rfl) ?_
  refine ty (x := true) (by kernel_rfl) ?_
  refine w9_1 ?_
  refine cT (by kernel_rfl) ?_
  refine sg (s2 b) (by kernel_rfl) (by kernel_rfl) ?_
  unfold vv2
  refine ty (x := #[.int .i64 1, .int .i64 2, .int .i64 4]) (by kernel_rfl) ?_
  refine ty (x := (1 : Int)) (by kernel_rfl) ?_
  refine ty (x := (2 : Int)) (by kernel_rfl) ?_
  refine ty (x := (4 : Int)) (by kernel_rfl) ?_
  refine pu (x := (.bool true)) (by kernel_rfl) ?_
  refine ty (x := true) (by kernel_rfl) ?_
  refine w9_2 ?_
  refine cT (by kernel_rfl) ?_
  refine sg (s3 b) (by kernel_rfl) (by kernel_rfl) ?_
  unfold vv3
  refine ty (x := #[.int .i64 0, .int .i64 0, .int .i64 3]) (by kernel_rfl) ?_
  refine ty (x := (0 : Int)) (by kernel_rfl) ?_
  refine ty (x := (0 : Int)) (by kernel_rfl) ?_
  refine ty (x := (3 : Int)) (by kernel_rfl) ?_
  refine pu (x := (.bool true)) (by kernel_rfl) ?_
  refine ty (x := true) (by kernel_rfl) ?_
  refine w9_3 ?_
  refine cT (by kernel_rfl) ?_
  refine sg (s4 b) (by kernel_rfl) (by kernel_rfl) ?_
  unfold vv4
  refine ty (x := #[.int .i64 0, .int .i64 0, .int .i64 4]) (by kernel_rfl) ?_
  refine ty (x := (0 : Int)) (by kernel_rfl) ?_
  refine ty (x := (0 : Int)) (by kernel_rfl) ?_
  refine ty (x := (4 : Int)) (by kernel_rfl) ?_
  refine pu (x := (.bool true)) (by kernel_rfl) ?_
  refine ty (x := true) (by kernel_rfl) ?_
  refine w9_4 ?_
  refine cT (by kernel_rfl) ?_
  refine sg (s5 b) (by kernel_rfl) (by kernel_rfl) ?_
  unfold vv5
  refine ty (x := #[.int .i64 0, .int .i64 0, .int .i64 4]) (by kernel_rfl) ?_
  refine ty (x := (0 : Int)) (by kernel_rfl) ?_
  refine ty (x := (0 : Int)) (by kernel_rfl) ?_
  refine ty (x := (4 : Int)) (by kernel_rfl) ?_
  refine pu (x := (.bool true)) (by kernel_rfl) ?_
  refine ty (x := true) (by kernel_rfl) ?_
  refine w9_5 ?_
  refine cT (by kernel_rfl) ?_
  refine sg (s6 b) (by kernel_rfl) (by kernel_rfl) ?_
  unfold vv6
  refine ty (x := #[.int .i64 0, .int .i64 0, .int .i64 4]) (by kernel_rfl) ?_
  refine ty (x := (0 : Int)) (by kernel_rfl) ?_
  refine ty (x := (0 : Int)) (by kernel_rfl) ?_
  refine ty (x := (4 : Int)) (by kernel_rfl) ?_
  refine pu (x := (.bool true)) (by kernel_rfl) ?_
  refine ty (x := true) (by kernel_rfl) ?_
  refine w9_6 ?_
  refine cT (by kernel_rfl) ?_
  refine sg (s7 b) (by kernel_rfl) (by kernel_rfl) ?_
  unfold vv7
  refine ty (x := #[.int .i64 0, .int .i64 0, .int .i64 5]) (by kernel_rfl) ?_
  refine ty (x := (0 : Int)) (by kernel_rfl) ?_
  refine ty (x := (0 : Int)) (by kernel_rfl) ?_
  refine ty (x := (5 : Int)) (by kernel_rfl) ?_
  refine pu (x := (.bool true)) (by kernel_rfl) ?_
  refine ty (x := true) (by kernel_rfl) ?_
  refine w9_7 ?_
  refine cT (by kernel_rfl) ?_
  refine sg (s8 b) (by kernel_rfl) (by kernel_rfl) ?_
  unfold vv8
  refine ty (x := #[.int .i64 0, .int .i64 0, .int .i64 3]) (by kernel_rfl) ?_
  refine ty (x := (0 : Int)) (by kernel_rfl) ?_
  refine ty (x := (0 : Int)) (by kernel_rfl) ?_
  refine ty (x := (3 : Int)) (by kernel_rfl) ?_
  refine pu (x := (.bool true)) (by kernel_rfl) ?_
  refine ty (x := true) (by kernel_rfl) ?_
  refine w9_8 ?_
  refine cT (by kernel_rfl) ?_
  refine sg (s9 b) (by kernel_rfl) (by kernel_rfl) ?_
  unfold vv9
  refine ty (x := #[.int .i64 0, .int .i64 0, .int .i64 4]) (by kernel_rfl) ?_
  refine ty (x := (0 : Int)) (by kernel_rfl) ?_
  refine ty (x := (0 : Int)) (by kernel_rfl) ?_
  refine ty (x := (4 : Int)) (by kernel_rfl) ?_
  refine pu (x := (.bool true)) (by kernel_rfl) ?_
  refine ty (x := true) (by kernel_rfl) ?_
  refine w9_9 ?_
  refine cT (by kernel_rfl) ?_
  refine sg (s10 b) (by kernel_rfl) (by kernel_rfl) ?_
  unfold vv10
  refine ty (x := #[.int .i64 0, .int .i64 0, .int .i64 3]) (by kernel_rfl) ?_
  refine ty (x := (0 : Int)) (by kernel_rfl) ?_
  refine ty (x := (0 : Int)) (by kernel_rfl) ?_
  refine ty (x := (3 : Int)) (by kernel_rfl) ?_
  refine pu (x := (.bool true)) (by kernel_rfl) ?_
  refine ty (x := true) (by kernel_rfl) ?_
  refine w9_10 ?_
  refine cT (by kernel_rfl) ?_
  refine sg (s11 b) (by kernel_rfl) (by kernel_rfl) ?_
  unfold vv11
  refine ty (x := #[.int .i64 3, .int .i64 7, .int .i64 0]) (by kernel_rfl) ?_
  refine ty (x := (3 : Int)) (by kernel_rfl) ?_
  refine ty (x := (7 : Int)) (by kernel_rfl) ?_
  refine ty (x := (0 : Int)) (by kernel_rfl) ?_
  refine pu (x := (.bool true)) (by kernel_rfl) ?_
  refine ty (x := true) (by kernel_rfl) ?_
  refine w9_11 ?_
  refine me (x := (.slice (some ⟨208, 0, none⟩) 200 200, ⟨b, #[k0, k1, k2, k3, k4, k5, k6, k4, k3, k3, k3, k7, k4, k8, k9, k7, k10, k11, k12, k4, k13, k14, k4, k12, k12, k12, k7, k7, k15, k16, k7, k4, k17, k7, k18, k19, k7, k7, k20, k19, k7, k7, k21, k19, k7, k4, k22, k23, k7, k24, k25, k7, k4, k26, k27, k7, k28, k16, k7, k4, k29, k30, k7, k31, k19, k7, k4, k32, k33, k7, k34, k16, k7, k4, k35, k36, k7, k37, k38, k39, k4, k40, k41, k4, k42, k39, k39, .dead, k43, k4, k44, k45, k4, k43, k43, .dead, k46, k4, k47, k48, k4, k46, k46, k49, k50], 0⟩)) (by kernel_rfl) ?_
  refine ty (x := ((some (⟨208, 0, none⟩ : Addr)), (200, 200))) (by kernel_rfl) ?_
  refine w18_0 ?_
  refine w18_1 ?_
  refine cT (by kernel_rfl) ?_
  refine ix (x := (⟨210, 0, none⟩ : Addr)) (by kernel_rfl) ?_
  refine on (x := (2 : Int)) (by kernel_rfl) ?_
  refine on (x := (none, (0, 0))) (by kernel_rfl) ?_
  refine st (M' := ⟨b, #[k0, k1, k2, k3, k4, k5, k6, k4, k3, k3, k3, k7, k4, k8, k9, k7, k10, k11, k12, k4, k13, k14, k4, k12, k12, k12, k7, k7, k15, k16, k7, k4, k17, k7, k18, k19, k7, k7, k20, k19, k7, k7, k21, k19, k7, k4, k22, k23, k7, k24, k25, k7, k4, k26, k27, k7, k28, k16, k7, k4, k29, k30, k7, k31, k19, k7, k4, k32, k33, k7, k34, k16, k7, k4, k35, k36, k7, k37, k38, k39, k4, k40, k41, k4, k42, k39, k39, .dead, k43, k4, k44, k45, k4, k43, k43, .dead, k46, k4, k47, k48, k4, k46, k46, k49, k50, k51, k52], 0⟩) rfl (by kernel_rfl) ?_
  refine on (x := (2 : Int)) (by kernel_rfl) ?_
  refine sg (s12 b) (by kernel_rfl) (by kernel_rfl) ?_
  unfold vv12
  refine ty (x := true) (by kernel_rfl) ?_
  refine cF (by kernel_rfl) ?_
  refine on (x := (none, (0, 0))) (by kernel_rfl) ?_
  refine cF (by kernel_rfl) ?_
  refine sg (s13 b) (by kernel_rfl) (by kernel_rfl) ?_
  unfold vv13
  refine ty (x := (some (⟨214, 0, none⟩ : Addr))) (by kernel_rfl) ?_
  refine on (x := (2 : Int)) (by kernel_rfl) ?_
  refine sg (s14 b) (by kernel_rfl) (by kernel_rfl) ?_
  unfold vv14
  refine ty (x := (0 : Int)) (by kernel_rfl) ?_
  refine on (x := (none, (0, 0))) (by kernel_rfl) ?_
  refine sg (s15 b) (by kernel_rfl) (by kernel_rfl) ?_
  unfold vv15
  refine ty (x := (0 : Int)) (by kernel_rfl) ?_
  refine cF (by kernel_rfl) ?_
  refine on (x := (none, (0, 0))) (by kernel_rfl) ?_
  refine sg (s16 b) (by kernel_rfl) (by kernel_rfl) ?_
  unfold vv16
  refine ty (x := ((some (⟨226, 0, some 0⟩ : Addr)), (2, 2))) (by kernel_rfl) ?_
  refine cF (by kernel_rfl) ?_
  refine me (x := (.slice (some ⟨228, 0, some 0⟩) 2 2, ⟨b, #[k0, k1, k2, k3, k4, k5, k6, k4, k3, k3, k3, k7, k4, k8, k9, k7, k10, k11, k12, k4, k13, k14, k4, k12, k12, k12, k7, k7, k15, k16, k7, k4, k17, k7, k18, k19, k7, k7, k20, k19, k7, k7, k21, k19, k7, k4, k22, k23, k7, k24, k25, k7, k4, k26, k27, k7, k28, k16, k7, k4, k29, k30, k7, k31, k19, k7, k4, k32, k33, k7, k34, k16, k7, k4, k35, k36, k7, k37, k38, k39, k4, k40, k41, k4, k42, k39, k39, .dead, k43, k4, k44, k45, k4, k43, k43, .dead, k46, k4, k47, k48, k4, k46, k46, k49, k50, k51, k52, k55, k47, .dead, k47, k56, k4, k56, k56], 0⟩)) (by kernel_rfl) ?_
  refine ty (x := ((some (⟨228, 0, some 0⟩ : Addr)), (2, 2))) (by kernel_rfl) ?_
  refine me (x := (.slice (some ⟨228, 0, some 0⟩) 2 2, ⟨b, #[k0, k1, k2, k3, k4, k5, k6, k4, k3, k3, k3, k7, k4, k8, k9, k7, k10, k11, k12, k4, k13, k14, k4, k12, k12, k12, k7, k7, k15, k16, k7, k4, k17, k7, k18, k19, k7, k7, k20, k19, k7, k7, k21, k19, k7, k4, k22, k23, k7, k24, k25, k7, k4, k26, k27, k7, k28, k16, k7, k4, k29, k30, k7, k31, k19, k7, k4, k32, k33, k7, k34, k16, k7, k4, k35, k36, k7, k37, k38, k39, k4, k40, k41, k4, k42, k39, k39, .dead, k43, k4, k44, k45, k4, k43, k43, .dead, k46, k4, k47, k48, k4, k46, k46, k49, k50, k51, k52, k55, k47, .dead, k47, k56, k4, k56, k56], 0⟩)) (by kernel_rfl) ?_
  refine ty (x := ((some (⟨228, 0, some 0⟩ : Addr)), (2, 2))) (by kernel_rfl) ?_
  refine w18_1 ?_
  refine cT (by kernel_rfl) ?_
  refine ix (x := (⟨210, 2, none⟩ : Addr)) (by kernel_rfl) ?_
  refine on (x := (1 : Int)) (by kernel_rfl) ?_
  refine on (x := ((some (⟨208, 0, none⟩ : Addr)), (200, 200))) (by kernel_rfl) ?_
  refine st (M' := ⟨b, #[k0, k1, k2, k3, k4, k5, k6, k4, k3, k3, k3, k7, k4, k8, k9, k7, k10, k11, k12, k4, k13, k14, k4, k12, k12, k12, k7, k7, k15, k16, k7, k4, k17, k7, k18, k19, k7, k7, k20, k19, k7, k7, k21, k19, k7, k4, k22, k23, k7, k24, k25, k7, k4, k26, k27, k7, k28, k16, k7, k4, k29, k30, k7, k31, k19, k7, k4, k32, k33, k7, k34, k16, k7, k4, k35, k36, k7, k37, k38, k39, k4, k40, k41, k4, k42, k39, k39, .dead, k43, k4, k44, k45, k4, k43, k43, .dead, k46, k4, k47, k48, k4, k46, k46, k49, k50, k51, k52, k55, k47, .dead, k47, k56, k4, k56, k56, k57], 0⟩) rfl (by kernel_rfl) ?_
  refine on (x := (1 : Int)) (by kernel_rfl) ?_
  refine sg (s17 b) (by kernel_rfl) (by kernel_rfl) ?_
  unfold vv17
  refine ty (x := true) (by kernel_rfl) ?_
  refine cF (by kernel_rfl) ?_
  refine on (x := ((some (⟨208, 0, none⟩ : Addr)), (200, 200))) (by kernel_rfl) ?_
  refine cF (by kernel_rfl) ?_
  refine sg (s18 b) (by kernel_rfl) (by kernel_rfl) ?_
  unfold vv18
  refine ty (x := (some (⟨232, 0, none⟩ : Addr))) (by kernel_rfl) ?_
  refine on (x := (1 : Int)) (by kernel_rfl) ?_
  refine sg (s19 b) (by kernel_rfl) (by kernel_rfl) ?_
  unfold vv19
  refine ty (x := (0 : Int)) (by kernel_rfl) ?_
  refine on (x := ((some (⟨208, 0, none⟩ : Addr)), (200, 200))) (by kernel_rfl) ?_
  refine sg (s20 b) (by kernel_rfl) (by kernel_rfl) ?_
  unfold vv20
  refine ty (x := (0 : Int)) (by kernel_rfl) ?_
  refine cF (by kernel_rfl) ?_
  refine on (x := ((some (⟨208, 0, none⟩ : Addr)), (200, 200))) (by kernel_rfl) ?_
  refine sg (s21 b) (by kernel_rfl) (by kernel_rfl) ?_
  unfold vv21
  refine ty (x := ((some (⟨248, 0, some 0⟩ : Addr)), (3, 3))) (by kernel_rfl) ?_
  refine cF (by kernel_rfl) ?_
  refine me (x := (.slice (some ⟨250, 0, some 0⟩) 5 5, ⟨b, #[k0, k1, k2, k3, k4, k5, k6, k4, k3, k3, k3, k7, k4, k8, k9, k7, k10, k11, k12, k4, k13, k14, k4, k12, k12, k12, k7, k7, k15, k16, k7, k4, k17, k7, k18, k19, k7, k7, k20, k19, k7, k7, k21, k19, k7, k4, k22, k23, k7, k24, k25, k7, k4, k26, k27, k7, k28, k16, k7, k4, k29, k30, k7, k31, k19, k7, k4, k32, k33, k7, k34, k16, k7, k4, k35, k36, k7, k37, k38, k39, k4, k40, k41, k4, k42, k39, k39, .dead, k43, k4, k44, k45, k4, k43, k43, .dead, k46, k4, k47, k48, k4, k46, k46, k49, k50, k51, k52, k55, k47, .dead, k47, k56, k4, k56, .dead, k57, k60, k47, .dead, k47, .dead, k47, k61, k4, k61, k62], 0⟩)) (by kernel_rfl) ?_
  refine ty (x := ((some (⟨250, 0, some 0⟩ : Addr)), (5, 5))) (by kernel_rfl) ?_
  refine me (x := (.slice (some ⟨252, 0, some 0⟩) 205 205, ⟨b, #[k0, k1, k2, k3, k4, k5, k6, k4, k3, k3, k3, k7, k4, k8, k9, k7, k10, k11, k12, k4, k13, k14, k4, k12, k12, k12, k7, k7, k15, k16, k7, k4, k17, k7, k18, k19, k7, k7, k20, k19, k7, k7, k21, k19, k7, k4, k22, k23, k7, k24, k25, k7, k4, k26, k27, k7, k28, k16, k7, k4, k29, k30, k7, k31, k19, k7, k4, k32, k33, k7, k34, k16, k7, k4, k35, k36, k7, k37, k38, k39, k4, k40, k41, k4, k42, k39, k39, .dead, k43, k4, k44, k45, k4, k43, k43, .dead, k46, k4, k47, k48, k4, k46, k46, k49, k50, k51, k52, k55, k47, .dead, k47, k56, k4, k56, .dead, k57, k60, k47, .dead, k47, .dead, k47, k61, k4, k61, .dead, k63], 0⟩)) (by kernel_rfl) ?_
  refine ty (x := ((some (⟨252, 0, some 0⟩ : Addr)), (205, 205))) (by kernel_rfl) ?_
  refine w18_1 ?_
  refine cF (by kernel_rfl) ?_
  refine ty (x := #[.slice (some ⟨252, 0, some 0⟩) 205 205, .int .i64 0]) (by kernel_rfl) ?_
  refine ty (x := ((some (⟨252, 0, some 0⟩ : Addr)), (205, 205))) (by kernel_rfl) ?_
  refine ty (x := (0 : Int)) (by kernel_rfl) ?_
  refine w18_0 ?_
  refine w18_1 ?_
  refine cT (by kernel_rfl) ?_
  refine ix (x := (⟨254, 0, none⟩ : Addr)) (by kernel_rfl) ?_
  refine on (x := (0 : Int)) (by kernel_rfl) ?_
  refine on (x := (none, (0, 0))) (by kernel_rfl) ?_
  refine st (M' := ⟨b, #[k0, k1, k2, k3, k4, k5, k6, k4, k3, k3, k3, k7, k4, k8, k9, k7, k10, k11, k12, k4, k13, k14, k4, k12, k12, k12, k7, k7, k15, k16, k7, k4, k17, k7, k18, k19, k7, k7, k20, k19, k7, k7, k21, k19, k7, k4, k22, k23, k7, k24, k25, k7, k4, k26, k27, k7, k28, k16, k7, k4, k29, k30, k7, k31, k19, k7, k4, k32, k33, k7, k34, k16, k7, k4, k35, k36, k7, k37, k38, k39, k4, k40, k41, k4, k42, k39, k39, .dead, k43, k4, k44, k45, k4, k43, k43, .dead, k46, k4, k47, k48, k4, k46, k46, k49, k50, k51, k52, k55, k47, .dead, k47, k56, k4, k56, .dead, k57, k60, k47, .dead, k47, .dead, k47, k61, k4, k61, .dead, k63, k7, k7], 0⟩) rfl (by kernel_rfl) ?_
  refine on (x := (0 : Int)) (by kernel_rfl) ?_
  refine sg (s22 b) (by kernel_rfl) (by kernel_rfl) ?_
  unfold vv22
  refine ty (x := false) (by kernel_rfl) ?_
  refine cT (by kernel_rfl) ?_
  refine ty (x := #[.slice none 0 0, .int .i64 2]) (by kernel_rfl) ?_
  refine ty (x := (none, (0, 0))) (by kernel_rfl) ?_
  refine ty (x := (2 : Int)) (by kernel_rfl) ?_
  refine w18_0 ?_
  refine w18_1 ?_
  refine cT (by kernel_rfl) ?_
  refine ix (x := (⟨258, 0, none⟩ : Addr)) (by kernel_rfl) ?_
  refine on (x := (1 : Int)) (by kernel_rfl) ?_
  refine on (x := (none, (0, 0))) (by kernel_rfl) ?_
  refine st (M' := ⟨b, #[k0, k1, k2, k3, k4, k5, k6, k4, k3, k3, k3, k7, k4, k8, k9, k7, k10, k11, k12, k4, k13, k14, k4, k12, k12, k12, k7, k7, k15, k16, k7, k4, k17, k7, k18, k19, k7, k7, k20, k19, k7, k7, k21, k19, k7, k4, k22, k23, k7, k24, k25, k7, k4, k26, k27, k7, k28, k16, k7, k4, k29, k30, k7, k31, k19, k7, k4, k32, k33, k7, k34, k16, k7, k4, k35, k36, k7, k37, k38, k39, k4, k40, k41, k4, k42, k39, k39, .dead, k43, k4, k44, k45, k4, k43, k43, .dead, k46, k4, k47, k48, k4, k46, k46, k49, k50, k51, k52, k55, k47, .dead, k47, k56, k4, k56, .dead, k57, k60, k47, .dead, k47, .dead, k47, k61, k4, k61, .dead, k63, k7, k7, k64, k65], 0⟩) rfl (by kernel_rfl) ?_
  refine on (x := (1 : Int)) (by kernel_rfl) ?_
  refine sg (s23 b) (by kernel_rfl) (by kernel_rfl) ?_
  unfold vv23
  refine ty (x := true) (by kernel_rfl) ?_
  refine cF (by kernel_rfl) ?_
  refine on (x := (none, (0, 0))) (by kernel_rfl) ?_
  refine cF (by kernel_rfl) ?_
  refine sg (s24 b) (by kernel_rfl) (by kernel_rfl) ?_
  unfold vv24
  refine ty (x := (some (⟨262, 0, none⟩ : Addr))) (by kernel_rfl) ?_
  refine on (x := (1 : Int)) (by kernel_rfl) ?_
  refine sg (s25 b) (by kernel_rfl) (by kernel_rfl) ?_
  unfold vv25
  refine ty (x := (0 : Int)) (by kernel_rfl) ?_
  refine on (x := (none, (0, 0))) (by kernel_rfl) ?_
  refine sg (s26 b) (by kernel_rfl) (by kernel_rfl) ?_
  unfold vv26
  refine ty (x := (0 : Int)) (by kernel_rfl) ?_
  refine cF (by kernel_rfl) ?_
  refine on (x := (none, (0, 0))) (by kernel_rfl) ?_
  refine sg (s27 b) (by kernel_rfl) (by kernel_rfl) ?_
  unfold vv27
  refine ty (x := ((some (⟨274, 0, some 0⟩ : Addr)), (2, 2))) (by kernel_rfl) ?_
  refine cF (by kernel_rfl) ?_
  refine me (x := (.slice (some ⟨276, 0, some 0⟩) 2 2, ⟨b, #[k0, k1, k2, k3, k4, k5, k6, k4, k3, k3, k3, k7, k4, k8, k9, k7, k10, k11, k12, k4, k13, k14, k4, k12, k12, k12, k7, k7, k15, k16, k7, k4, k17, k7, k18, k19, k7, k7, k20, k19, k7, k7, k21, k19, k7, k4, k22, k23, k7, k24, k25, k7, k4, k26, k27, k7, k28, k16, k7, k4, k29, k30, k7, k31, k19, k7, k4, k32, k33, k7, k34, k16, k7, k4, k35, k36, k7, k37, k38, k39, k4, k40, k41, k4, k42, k39, k39, .dead, k43, k4, k44, k45, k4, k43, k43, .dead, k46, k4, k47, k48, k4, k46, k46, k49, k50, k51, k52, k55, k47, .dead, k47, k56, k4, k56, .dead, k57, k60, k47, .dead, k47, .dead, k47, k61, k4, k61, .dead, k63, k7, k7, k64, k65, k67, k47, .dead, k47, k68, k4, k68, k68], 0⟩)) (by kernel_rfl) ?_
  refine ty (x := ((some (⟨276, 0, some 0⟩ : Addr)), (2, 2))) (by kernel_rfl) ?_
  refine me (x := (.slice (some ⟨276, 0, some 0⟩) 2 2, ⟨b, #[k0, k1, k2, k3, k4, k5, k6, k4, k3, k3, k3, k7, k4, k8, k9, k7, k10, k11, k12, k4, k13, k14, k4, k12, k12, k12, k7, k7, k15, k16, k7, k4, k17, k7, k18, k19, k7, k7, k20, k19, k7, k7, k21, k19, k7, k4, k22, k23, k7, k24, k25, k7, k4, k26, k27, k7, k28, k16, k7, k4, k29, k30, k7, k31, k19, k7, k4, k32, k33, k7, k34, k16, k7, k4, k35, k36, k7, k37, k38, k39, k4, k40, k41, k4, k42, k39, k39, .dead, k43, k4, k44, k45, k4, k43, k43, .dead, k46, k4, k47, k48, k4, k46, k46, k49, k50, k51, k52, k55, k47, .dead, k47, k56, k4, k56, .dead, k57, k60, k47, .dead, k47, .dead, k47, k61, k4, k61, .dead, k63, k7, k7, k64, k65, k67, k47, .dead, k47, k68, k4, k68, k68], 0⟩)) (by kernel_rfl) ?_
  refine ty (x := ((some (⟨276, 0, some 0⟩ : Addr)), (2, 2))) (by kernel_rfl) ?_
  refine w18_1 ?_
  refine cT (by kernel_rfl) ?_
  refine ix (x := (⟨258, 2, none⟩ : Addr)) (by kernel_rfl) ?_
  refine on (x := (4 : Int)) (by kernel_rfl) ?_
  refine on (x := (none, (0, 0))) (by kernel_rfl) ?_
  refine st (M' := ⟨b, #[k0, k1, k2, k3, k4, k5, k6, k4, k3, k3, k3, k7, k4, k8, k9, k7, k10, k11, k12, k4, k13, k14, k4, k12, k12, k12, k7, k7, k15, k16, k7, k4, k17, k7, k18, k19, k7, k7, k20, k19, k7, k7, k21, k19, k7, k4, k22, k23, k7, k24, k25, k7, k4, k26, k27, k7, k28, k16, k7, k4, k29, k30, k7, k31, k19, k7, k4, k32, k33, k7, k34, k16, k7, k4, k35, k36, k7, k37, k38, k39, k4, k40, k41, k4, k42, k39, k39, .dead, k43, k4, k44, k45, k4, k43, k43, .dead, k46, k4, k47, k48, k4, k46, k46, k49, k50, k51, k52, k55, k47, .dead, k47, k56, k4, k56, .dead, k57, k60, k47, .dead, k47, .dead, k47, k61, k4, k61, .dead, k63, k7, k7, k64, k65, k67, k47, .dead, k47, k68, k4, k68, k68, k69], 0⟩) rfl (by kernel_rfl) ?_
  refine on (x := (4 : Int)) (by kernel_rfl) ?_
  refine sg (s28 b) (by kernel_rfl) (by kernel_rfl) ?_
  unfold vv28
  refine ty (x := false) (by kernel_rfl) ?_
  refine cT (by kernel_rfl) ?_
  refine ty (x := #[.slice none 0 0, .int .i64 2]) (by kernel_rfl) ?_
  refine ty (x := (none, (0, 0))) (by kernel_rfl) ?_
  refine ty (x := (2 : Int)) (by kernel_rfl) ?_
  refine w18_0 ?_
  refine w18_1 ?_
  refine cF (by kernel_rfl) ?_
  refine ty (x := #[.slice none 0 0, .int .i64 0]) (by kernel_rfl) ?_
  refine ty (x := (none, (0, 0))) (by kernel_rfl) ?_
  refine ty (x := (0 : Int)) (by kernel_rfl) ?_
  refine me (x := (.slice (some ⟨280, 0, none⟩) 16777217 16777217, ⟨b, #[k0, k1, k2, k3, k4, k5, k6, k4, k3, k3, k3, k7, k4, k8, k9, k7, k10, k11, k12, k4, k13, k14, k4, k12, k12, k12, k7, k7, k15, k16, k7, k4, k17, k7, k18, k19, k7, k7, k20, k19, k7, k7, k21, k19, k7, k4, k22, k23, k7, k24, k25, k7, k4, k26, k27, k7, k28, k16, k7, k4, k29, k30, k7, k31, k19, k7, k4, k32, k33, k7, k34, k16, k7, k4, k35, k36, k7, k37, k38, k39, k4, k40, k41, k4, k42, k39, k39, .dead, k43, k4, k44, k45, k4, k43, k43, .dead, k46, k4, k47, k48, k4, k46, k46, k49, k50, k51, k52, k55, k47, .dead, k47, k56, k4, k56, .dead, k57, k60, k47, .dead, k47, .dead, k47, k61, k4, k61, .dead, k63, k7, k7, k64, k65, k67, k47, .dead, k47, k68, k4, k68, k68, k69, kB0], 0⟩)) (by kernel_rfl) ?_
  refine ty (x := ((some (⟨280, 0, none⟩ : Addr)), (16777217, 16777217))) (by kernel_rfl) ?_
  refine w18_0 ?_
  refine w18_1 ?_
  refine cT (by kernel_rfl) ?_
  refine ix (x := (⟨282, 0, none⟩ : Addr)) (by kernel_rfl) ?_
  refine on (x := (3 : Int)) (by kernel_rfl) ?_
  refine on (x := ((some (⟨280, 0, none⟩ : Addr)), (16777217, 16777217))) (by kernel_rfl) ?_
  refine st (M' := ⟨b, #[k0, k1, k2, k3, k4, k5, k6, k4, k3, k3, k3, k7, k4, k8, k9, k7, k10, k11, k12, k4, k13, k14, k4, k12, k12, k12, k7, k7, k15, k16, k7, k4, k17, k7, k18, k19, k7, k7, k20, k19, k7, k7, k21, k19, k7, k4, k22, k23, k7, k24, k25, k7, k4, k26, k27, k7, k28, k16, k7, k4, k29, k30, k7, k31, k19, k7, k4, k32, k33, k7, k34, k16, k7, k4, k35, k36, k7, k37, k38, k39, k4, k40, k41, k4, k42, k39, k39, .dead, k43, k4, k44, k45, k4, k43, k43, .dead, k46, k4, k47, k48, k4, k46, k46, k49, k50, k51, k52, k55, k47, .dead, k47, k56, k4, k56, .dead, k57, k60, k47, .dead, k47, .dead, k47, k61, k4, k61, .dead, k63, k7, k7, k64, k65, k67, k47, .dead, k47, k68, k4, k68, k68, k69, kB0, k70, k70], 0⟩) rfl (by kernel_rfl) ?_
  refine on (x := (3 : Int)) (by kernel_rfl) ?_
  refine sg (s29 b) (by kernel_rfl) (by kernel_rfl) ?_
  unfold vv29
  refine ty (x := true) (by kernel_rfl) ?_
  refine cF (by kernel_rfl) ?_
  refine on (x := ((some (⟨280, 0, none⟩ : Addr)), (16777217, 16777217))) (by kernel_rfl) ?_
  refine cT (by kernel_rfl) ?_
  refine ty (x := #[.slice none 0 0, .int .i64 5]) (by kernel_rfl) ?_
  refine ty (x := (none, (0, 0))) (by kernel_rfl) ?_
  refine ty (x := (5 : Int)) (by kernel_rfl) ?_
  refine w18_0 ?_
  refine w18_1 ?_
  refine cT (by kernel_rfl) ?_
  refine ix (x := (⟨286, 0, none⟩ : Addr)) (by kernel_rfl) ?_
  refine on (x := (3 : Int)) (by kernel_rfl) ?_
  refine on (x := ((some (⟨280, 0, none⟩ : Addr)), (16777217, 16777217))) (by kernel_rfl) ?_
  refine st (M' := ⟨b, #[k0, k1, k2, k3, k4, k5, k6, k4, k3, k3, k3, k7, k4, k8, k9, k7, k10, k11, k12, k4, k13, k14, k4, k12, k12, k12, k7, k7, k15, k16, k7, k4, k17, k7, k18, k19, k7, k7, k20, k19, k7, k7, k21, k19, k7, k4, k22, k23, k7, k24, k25, k7, k4, k26, k27, k7, k28, k16, k7, k4, k29, k30, k7, k31, k19, k7, k4, k32, k33, k7, k34, k16, k7, k4, k35, k36, k7, k37, k38, k39, k4, k40, k41, k4, k42, k39, k39, .dead, k43, k4, k44, k45, k4, k43, k43, .dead, k46, k4, k47, k48, k4, k46, k46, k49, k50, k51, k52, k55, k47, .dead, k47, k56, k4, k56, .dead, k57, k60, k47, .dead, k47, .dead, k47, k61, k4, k61, .dead, k63, k7, k7, k64, k65, k67, k47, .dead, k47, k68, k4, k68, k68, k69, kB0, k70, k70, k71, k70], 0⟩) rfl (by kernel_rfl) ?_
  refine on (x := (3 : Int)) (by kernel_rfl) ?_
  refine sg (s30 b) (by kernel_rfl) (by kernel_rfl) ?_
  unfold vv30
  refine ty (x := true) (by kernel_rfl) ?_
  refine cF (by kernel_rfl) ?_
  refine on (x := ((some (⟨280, 0, none⟩ : Addr)), (16777217, 16777217))) (by kernel_rfl) ?_
  refine cT (by kernel_rfl) ?_
  refine ty (x := #[.slice none 0 0, .int .i64 5]) (by kernel_rfl) ?_
  refine ty (x := (none, (0, 0))) (by kernel_rfl) ?_
  refine ty (x := (5 : Int)) (by kernel_rfl) ?_
  refine pu (x := (.slice (some ⟨280, 0, none⟩) 16777216 16777217)) (by kernel_rfl) ?_
  refine ty (x := ((some (⟨280, 0, none⟩ : Addr)), (16777216, 16777217))) (by kernel_rfl) ?_
  refine w18_0 ?_
  refine w18_1 ?_
  refine cT (by kernel_rfl) ?_
  refine ix (x := (⟨290, 0, none⟩ : Addr)) (by kernel_rfl) ?_
  refine on (x := (3 : Int)) (by kernel_rfl) ?_
  refine on (x := ((some (⟨280, 0, none⟩ : Addr)), (16777216, 16777217))) (by kernel_rfl) ?_
  refine st (M' := ⟨b, #[k0, k1, k2, k3, k4, k5, k6, k4, k3, k3, k3, k7, k4, k8, k9, k7, k10, k11, k12, k4, k13, k14, k4, k12, k12, k12, k7, k7, k15, k16, k7, k4, k17, k7, k18, k19, k7, k7, k20, k19, k7, k7, k21, k19, k7, k4, k22, k23, k7, k24, k25, k7, k4, k26, k27, k7, k28, k16, k7, k4, k29, k30, k7, k31, k19, k7, k4, k32, k33, k7, k34, k16, k7, k4, k35, k36, k7, k37, k38, k39, k4, k40, k41, k4, k42, k39, k39, .dead, k43, k4, k44, k45, k4, k43, k43, .dead, k46, k4, k47, k48, k4, k46, k46, k49, k50, k51, k52, k55, k47, .dead, k47, k56, k4, k56, .dead, k57, k60, k47, .dead, k47, .dead, k47, k61, k4, k61, .dead, k63, k7, k7, k64, k65, k67, k47, .dead, k47, k68, k4, k68, k68, k69, kB0, k70, k70, k71, k70, k72, k72], 0⟩) rfl (by kernel_rfl) ?_
  refine on (x := (3 : Int)) (by kernel_rfl) ?_
  refine sg (s31 b) (by kernel_rfl) (by kernel_rfl) ?_
  unfold vv31
  refine ty (x := true) (by kernel_rfl) ?_
  refine cF (by kernel_rfl) ?_
  refine on (x := ((some (⟨280, 0, none⟩ : Addr)), (16777216, 16777217))) (by kernel_rfl) ?_
  refine cF (by kernel_rfl) ?_
  refine sg (s32 b) (by kernel_rfl) (by kernel_rfl) ?_
  unfold vv32
  refine ty (x := (some (⟨294, 0, none⟩ : Addr))) (by kernel_rfl) ?_
  refine on (x := (3 : Int)) (by kernel_rfl) ?_
  refine sg (s33 b) (by kernel_rfl) (by kernel_rfl) ?_
  unfold vv33
  refine ty (x := (0 : Int)) (by kernel_rfl) ?_
  refine on (x := ((some (⟨280, 0, none⟩ : Addr)), (16777216, 16777217))) (by kernel_rfl) ?_
  refine sg (s34 b) (by kernel_rfl) (by kernel_rfl) ?_
  unfold vv34
  refine ty (x := (0 : Int)) (by kernel_rfl) ?_
  refine cF (by kernel_rfl) ?_
  refine on (x := ((some (⟨280, 0, none⟩ : Addr)), (16777216, 16777217))) (by kernel_rfl) ?_
  refine sg (s35 b) (by kernel_rfl) (by kernel_rfl) ?_
  unfold vv35
  generalize e0 : nn35 b = N0
  generalize e1 : nn34 b = N1
  generalize e2 : nn30 b = N2
  refine ty (x := ((some (⟨318, 0, some 0⟩ : Addr)), (5, 5))) (by kernel_rfl) ?_
  refine cF (by kernel_rfl) ?_
  generalize e3 : mB b = N3
  refine me (x := (.slice (some ⟨320, 0, some 0⟩) 5 5, N3)) (by rw [← e0, ← e1, ← e3]; kernel_rfl) ?_
  refine ty (x := ((some (⟨320, 0, some 0⟩ : Addr)), (5, 5))) (by kernel_rfl) ?_
  refine me (x := (.slice (some ⟨322, 0, some 0⟩) 16777221 16777221, nB b)) (by rw [← e3]; exact bigApp1 b) ?_
  refine ty (x := ((some (⟨322, 0, some 0⟩ : Addr)), (16777221, 16777221))) (by kernel_rfl) ?_
  refine w18_1 ?_
  refine cF (by kernel_rfl) ?_
  refine ty (x := #[.slice (some ⟨322, 0, some 0⟩) 16777221 16777221, .int .i64 0]) (by kernel_rfl) ?_
  refine ty (x := ((some (⟨322, 0, some 0⟩ : Addr)), (16777221, 16777221))) (by kernel_rfl) ?_
  refine ty (x := (0 : Int)) (by kernel_rfl) ?_
  refine cT (by kernel_rfl) ?_
  refine w9_12 ?_
  refine cT (by kernel_rfl) ?_
  refine pu (x := (.slice (some ⟨252, 0, some 0⟩) 5 205)) (by kernel_rfl) ?_
  refine ty (x := ((some (⟨252, 0, some 0⟩ : Addr)), (5, 205))) (by kernel_rfl) ?_
  refine sg (s36 b) (by kernel_rfl) (by kernel_rfl) ?_
  unfold vv36
  refine ty (x := true) (by kernel_rfl) ?_
  refine w9_13 ?_
  refine cT (by kernel_rfl) ?_
  refine w9_14 ?_
  refine cT (by kernel_rfl) ?_
  refine w9_15 ?_
  refine cT (by kernel_rfl) ?_
  refine w9_16 ?_
  refine cT (by kernel_rfl) ?_
  refine w9_17 ?_
  refine cT (by kernel_rfl) ?_
  refine w9_18 ?_
  refine cT (by kernel_rfl) ?_
  refine w9_19 ?_
  refine cT (by kernel_rfl) ?_
  refine w9_20 ?_
  refine cT (by kernel_rfl) ?_
  refine w9_21 ?_
  refine sg (s37 b) (by kernel_rfl) (by kernel_rfl) ?_
  unfold vv37
  refine ty (x := ((some (⟨398, 0, some 0⟩ : Addr)), (3, 3))) (by kernel_rfl) ?_
  refine sg (s38 b) (by kernel_rfl) (by kernel_rfl) ?_
  unfold vv38
  refine ty (x := true) (by kernel_rfl) ?_
  refine cT (by kernel_rfl) ?_
  refine sg (s39 b) (by kernel_rfl) (by kernel_rfl) ?_
  unfold vv39
  refine ty (x := (none, (0, 0))) (by kernel_rfl) ?_
  refine w9_22 ?_
  refine cT (by kernel_rfl) ?_
  refine sg (s40 b) (by kernel_rfl) (by kernel_rfl) ?_
  unfold vv40
  refine ty (x := ((some (⟨410, 0, none⟩ : Addr)), (1, 1))) (by kernel_rfl) ?_
  refine sg (s41 b) (by kernel_rfl) (by kernel_rfl) ?_
  unfold vv41
  refine ty (x := true) (by kernel_rfl) ?_
  refine w9_23 ?_
  refine cT (by kernel_rfl) ?_
  refine sg (s42 b) (by kernel_rfl) (by kernel_rfl) ?_
  unfold vv42
  refine ty (x := ((some (⟨432, 0, none⟩ : Addr)), (1, 1))) (by kernel_rfl) ?_
  refine sg (s43 b) (by kernel_rfl) (by kernel_rfl) ?_
  unfold vv43
  refine ty (x := true) (by kernel_rfl) ?_
  refine w9_24 ?_
  refine cT (by kernel_rfl) ?_
  refine sg (s44 b) (by kernel_rfl) (by kernel_rfl) ?_
  unfold vv44
  refine ty (x := ((some (⟨454, 0, none⟩ : Addr)), (1, 1))) (by kernel_rfl) ?_
  refine sg (s45 b) (by kernel_rfl) (by kernel_rfl) ?_
  unfold vv45
  refine ty (x := true) (by kernel_rfl) ?_
  refine w9_25 ?_
  refine sg (s46 b) (by kernel_rfl) (by kernel_rfl) ?_
  unfold vv46
  refine ty (x := #[.slice none 0 0, .int .i64 4]) (by kernel_rfl) ?_
  refine ty (x := (none, (0, 0))) (by kernel_rfl) ?_
  refine ty (x := (4 : Int)) (by kernel_rfl) ?_
  refine sg (s47 b) (by kernel_rfl) (by kernel_rfl) ?_
  unfold vv47
  refine ty (x := true) (by kernel_rfl) ?_
  refine cT (by kernel_rfl) ?_
  refine w9_26 ?_
  refine cT (by kernel_rfl) ?_
  refine w9_27 ?_
  refine cT (by kernel_rfl) ?_
  refine w9_28 ?_
  refine cT (by kernel_rfl) ?_
  rfl
end Go.Zt
