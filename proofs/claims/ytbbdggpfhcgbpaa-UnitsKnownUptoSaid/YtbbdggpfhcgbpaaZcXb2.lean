/- What a closed function comes to, in stages: printed by cw.py. -/
import Derived.Test.YtbbdggpfhcgbpaaZcXa
set_option maxRecDepth 100000
namespace Go.Zt
open Go Go.Sim Go.Proofs Go.RowKit
theorem s24 (b : Array Obj) (k : Nat) : zcall Try.prog (k + 3000) 30 aa24 (mm24 b) = some (vv24, nn24 b) := by kernel_rfl
theorem s25 (b : Array Obj) (k : Nat) : zcall Try.prog (k + 3000) 31 aa25 (mm25 b) = some (vv25, nn25 b) := by kernel_rfl
theorem s26 (b : Array Obj) (k : Nat) : zcall Try.prog (k + 3000) 32 aa26 (mm26 b) = some (vv26, nn26 b) := by kernel_rfl
theorem s27 (b : Array Obj) (k : Nat) : zcall Try.prog (k + 3000) 33 aa27 (mm27 b) = some (vv27, nn27 b) := by kernel_rfl
theorem s28 (b : Array Obj) (k : Nat) : zcall Try.prog (k + 3000) 29 aa28 (mm28 b) = some (vv28, nn28 b) := by kernel_rfl
theorem s29 (b : Array Obj) (k : Nat) : zcall Try.prog (k + 3000) 29 aa29 (mm29 b) = some (vv29, nn29 b) := by kernel_rfl
theorem s30 (b : Array Obj) (k : Nat) : zcall Try.prog (k + 3000) 29 aa30 (mm30 b) = some (vv30, nn30 b) := by kernel_rfl
theorem s31 (b : Array Obj) (k : Nat) : zcall Try.prog (k + 3000) 29 aa31 (mm31 b) = some (vv31, nn31 b) := by kernel_rfl
theorem s32 (b : Array Obj) (k : Nat) : zcall Try.prog (k + 3000) 30 aa32 (mm32 b) = some (vv32, nn32 b) := by kernel_rfl
theorem s33 (b : Array Obj) (k : Nat) : zcall Try.prog (k + 3000) 31 aa33 (mm33 b) = some (vv33, nn33 b) := by kernel_rfl
theorem s34 (b : Array Obj) (k : Nat) : zcall Try.prog (k + 3000) 32 aa34 (mm34 b) = some (vv34, nn34 b) := by kernel_rfl
theorem s35 (b : Array Obj) (k : Nat) : zcall Try.prog (k + 3000) 33 aa35 (mm35 b) = some (vv35, nn35 b) := by kernel_rfl
end Go.Zt
