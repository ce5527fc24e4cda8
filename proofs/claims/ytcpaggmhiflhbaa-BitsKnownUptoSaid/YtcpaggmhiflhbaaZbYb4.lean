/- What a closed function comes to, in stages: printed by cw.py. -/
import Derived.Test.YtcpaggmhiflhbaaZbYa
set_option maxRecDepth 100000
namespace Go.Zt
open Go Go.Sim Go.Proofs Go.RowKit
theorem s48 (b : Array Obj) (k : Nat) : zcall Try.prog (k + 3000) 34 aa48 (mm48 b) = some (vv48, nn48 b) := by kernel_rfl
theorem s49 (b : Array Obj) (k : Nat) : zcall Try.prog (k + 3000) 35 aa49 (mm49 b) = some (vv49, nn49 b) := by kernel_rfl
theorem s50 (b : Array Obj) (k : Nat) : zcall Try.prog (k + 3000) 36 aa50 (mm50 b) = some (vv50, nn50 b) := by kernel_rfl
theorem s51 (b : Array Obj) (k : Nat) : zcall Try.prog (k + 3000) 18 aa51 (mm51 b) = some (vv51, nn51 b) := by kernel_rfl
theorem s52 (b : Array Obj) (k : Nat) : zcall Try.prog (k + 3000) 21 aa52 (mm52 b) = some (vv52, nn52 b) := by kernel_rfl
theorem s53 (b : Array Obj) (k : Nat) : zcall Try.prog (k + 3000) 41 aa53 (mm53 b) = some (vv53, nn53 b) := by kernel_rfl
end Go.Zt
