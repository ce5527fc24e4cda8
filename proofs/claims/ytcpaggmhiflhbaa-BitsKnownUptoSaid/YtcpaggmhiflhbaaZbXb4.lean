/- What a closed function comes to, in stages: printed by cw.py. -/
import Derived.Test.YtcpaggmhiflhbaaZbXa
set_option maxRecDepth 100000
namespace Go.Zy
open Go Go.Sim Go.Proofs Go.RowKit
theorem s48 (b : Array Obj) (k : Nat) : zcall Try.prog (k + 3000) 59 aa48 (mm48 b) = some (vv48, nn48 b) := by kernel_rfl
theorem s49 (b : Array Obj) (k : Nat) : zcall Try.prog (k + 3000) 61 aa49 (mm49 b) = some (vv49, nn49 b) := by kernel_rfl
theorem s50 (b : Array Obj) (k : Nat) : zcall Try.prog (k + 3000) 60 aa50 (mm50 b) = some (vv50, nn50 b) := by kernel_rfl
theorem s51 (b : Array Obj) (k : Nat) : zcall Try.prog (k + 3000) 59 aa51 (mm51 b) = some (vv51, nn51 b) := by kernel_rfl
theorem s52 (b : Array Obj) (k : Nat) : zcall Try.prog (k + 3000) 61 aa52 (mm52 b) = some (vv52, nn52 b) := by kernel_rfl
theorem s53 (b : Array Obj) (k : Nat) : zcall Try.prog (k + 3000) 60 aa53 (mm53 b) = some (vv53, nn53 b) := by kernel_rfl
theorem s54 (b : Array Obj) (k : Nat) : zcall Try.prog (k + 3000) 59 aa54 (mm54 b) = some (vv54, nn54 b) := by kernel_rfl
theorem s55 (b : Array Obj) (k : Nat) : zcall Try.prog (k + 3000) 61 aa55 (mm55 b) = some (vv55, nn55 b) := by kernel_rfl
theorem s56 (b : Array Obj) (k : Nat) : zcall Try.prog (k + 3000) 61 aa56 (mm56 b) = some (vv56, nn56 b) := by kernel_rfl
theorem s57 (b : Array Obj) (k : Nat) : zcall Try.prog (k + 3000) 61 aa57 (mm57 b) = some (vv57, nn57 b) := by kernel_rfl
theorem s58 (b : Array Obj) (k : Nat) : zcall Try.prog (k + 3000) 60 aa58 (mm58 b) = some (vv58, nn58 b) := by kernel_rfl
theorem s59 (b : Array Obj) (k : Nat) : zcall Try.prog (k + 3000) 59 aa59 (mm59 b) = some (vv59, nn59 b) := by kernel_rfl
end Go.Zy
