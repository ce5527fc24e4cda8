/- What a closed function comes to, in stages: printed by cw.py. -/
import Derived.Test.YtbnhbmkoghnjhaaZhXa
set_option maxRecDepth 100000
namespace Go.Zt
open Go Go.Sim Go.Proofs Go.RowKit
theorem s60 (b : Array Obj) (k : Nat) : zcall Try.prog (k + 3000) 11 aa60 (mm60 b) = some (vv60, nn60 b) := by kernel_rfl
theorem s61 (b : Array Obj) (k : Nat) : zcall Try.prog (k + 3000) 11 aa61 (mm61 b) = some (vv61, nn61 b) := by kernel_rfl
theorem s62 (b : Array Obj) (k : Nat) : zcall Try.prog (k + 3000) 24 aa62 (mm62 b) = some (vv62, nn62 b) := by kernel_rfl
theorem s63 (b : Array Obj) (k : Nat) : zcall Try.prog (k + 3000) 24 aa63 (mm63 b) = some (vv63, nn63 b) := by kernel_rfl
theorem s64 (b : Array Obj) (k : Nat) : zcall Try.prog (k + 3000) 24 aa64 (mm64 b) = some (vv64, nn64 b) := by kernel_rfl
theorem s65 (b : Array Obj) (k : Nat) : zcall Try.prog (k + 3000) 24 aa65 (mm65 b) = some (vv65, nn65 b) := by kernel_rfl
theorem s66 (b : Array Obj) (k : Nat) : zcall Try.prog (k + 3000) 24 aa66 (mm66 b) = some (vv66, nn66 b) := by kernel_rfl
theorem s67 (b : Array Obj) (k : Nat) : zcall Try.prog (k + 3000) 16 aa67 (mm67 b) = some (vv67, nn67 b) := by kernel_rfl
end Go.Zt
