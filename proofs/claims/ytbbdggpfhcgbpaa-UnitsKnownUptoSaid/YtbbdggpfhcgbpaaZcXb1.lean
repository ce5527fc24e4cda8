/- What a closed function comes to, in stages: printed by cw.py. -/
import Derived.Test.YtbbdggpfhcgbpaaZcXa
set_option maxRecDepth 100000
namespace Go.Zt
open Go Go.Sim Go.Proofs Go.RowKit
theorem s12 (b : Array Obj) (k : Nat) : zcall Try.prog (k + 3000) 29 aa12 (mm12 b) = some (vv12, nn12 b) := by kernel_rfl
theorem s13 (b : Array Obj) (k : Nat) : zcall Try.prog (k + 3000) 30 aa13 (mm13 b) = some (vv13, nn13 b) := by kernel_rfl
theorem s14 (b : Array Obj) (k : Nat) : zcall Try.prog (k + 3000) 31 aa14 (mm14 b) = some (vv14, nn14 b) := by kernel_rfl
theorem s15 (b : Array Obj) (k : Nat) : zcall Try.prog (k + 3000) 32 aa15 (mm15 b) = some (vv15, nn15 b) := by kernel_rfl
theorem s16 (b : Array Obj) (k : Nat) : zcall Try.prog (k + 3000) 33 aa16 (mm16 b) = some (vv16, nn16 b) := by kernel_rfl
theorem s17 (b : Array Obj) (k : Nat) : zcall Try.prog (k + 3000) 29 aa17 (mm17 b) = some (vv17, nn17 b) := by kernel_rfl
theorem s18 (b : Array Obj) (k : Nat) : zcall Try.prog (k + 3000) 30 aa18 (mm18 b) = some (vv18, nn18 b) := by kernel_rfl
theorem s19 (b : Array Obj) (k : Nat) : zcall Try.prog (k + 3000) 31 aa19 (mm19 b) = some (vv19, nn19 b) := by kernel_rfl
theorem s20 (b : Array Obj) (k : Nat) : zcall Try.prog (k + 3000) 32 aa20 (mm20 b) = some (vv20, nn20 b) := by kernel_rfl
theorem s21 (b : Array Obj) (k : Nat) : zcall Try.prog (k + 3000) 33 aa21 (mm21 b) = some (vv21, nn21 b) := by kernel_rfl
theorem s22 (b : Array Obj) (k : Nat) : zcall Try.prog (k + 3000) 29 aa22 (mm22 b) = some (vv22, nn22 b) := by kernel_rfl
theorem s23 (b : Array Obj) (k : Nat) : zcall Try.prog (k + 3000) 29 aa23 (mm23 b) = some (vv23, nn23 b) := by kernel_rfl
end Go.Zt
