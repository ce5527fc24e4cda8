/- What a closed function comes to, in stages: printed by cw.py. -/
import Derived.Test.YtbbdggpfhcgbpaaZcXa
set_option maxRecDepth 100000
namespace Go.Zt
open Go Go.Sim Go.Proofs Go.RowKit
theorem s0 (b : Array Obj) (k : Nat) : zcall Try.prog (k + 3000) 24 aa0 (mm0 b) = some (vv0, nn0 b) := by kernel_rfl
theorem s1 (b : Array Obj) (k : Nat) : zcall Try.prog (k + 3000) 24 aa1 (mm1 b) = some (vv1, nn1 b) := by kernel_rfl
theorem s2 (b : Array Obj) (k : Nat) : zcall Try.prog (k + 3000) 24 aa2 (mm2 b) = some (vv2, nn2 b) := by kernel_rfl
theorem s3 (b : Array Obj) (k : Nat) : zcall Try.prog (k + 3000) 24 aa3 (mm3 b) = some (vv3, nn3 b) := by kernel_rfl
theorem s4 (b : Array Obj) (k : Nat) : zcall Try.prog (k + 3000) 24 aa4 (mm4 b) = some (vv4, nn4 b) := by kernel_rfl
theorem s5 (b : Array Obj) (k : Nat) : zcall Try.prog (k + 3000) 24 aa5 (mm5 b) = some (vv5, nn5 b) := by kernel_rfl
theorem s6 (b : Array Obj) (k : Nat) : zcall Try.prog (k + 3000) 24 aa6 (mm6 b) = some (vv6, nn6 b) := by kernel_rfl
theorem s7 (b : Array Obj) (k : Nat) : zcall Try.prog (k + 3000) 24 aa7 (mm7 b) = some (vv7, nn7 b) := by kernel_rfl
theorem s8 (b : Array Obj) (k : Nat) : zcall Try.prog (k + 3000) 24 aa8 (mm8 b) = some (vv8, nn8 b) := by kernel_rfl
theorem s9 (b : Array Obj) (k : Nat) : zcall Try.prog (k + 3000) 24 aa9 (mm9 b) = some (vv9, nn9 b) := by kernel_rfl
theorem s10 (b : Array Obj) (k : Nat) : zcall Try.prog (k + 3000) 24 aa10 (mm10 b) = some (vv10, nn10 b) := by kernel_rfl
theorem s11 (b : Array Obj) (k : Nat) : zcall Try.prog (k + 3000) 24 aa11 (mm11 b) = some (vv11, nn11 b) := by kernel_rfl
end Go.Zt
