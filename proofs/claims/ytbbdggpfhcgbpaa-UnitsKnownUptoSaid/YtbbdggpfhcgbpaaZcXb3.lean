/- What a closed function comes to, in stages: printed by cw.py. -/
import Derived.Test.YtbbdggpfhcgbpaaZcXa
set_option maxRecDepth 100000
namespace Go.Zt
open Go Go.Sim Go.Proofs Go.RowKit
theorem s36 (b : Array Obj) (k : Nat) : zcall Try.prog (k + 3000) 15 aa36 (mm36 b) = some (vv36, nn36 b) := by kernel_rfl
theorem s37 (b : Array Obj) (k : Nat) : zcall Try.prog (k + 3000) 26 aa37 (mm37 b) = some (vv37, nn37 b) := by kernel_rfl
theorem s38 (b : Array Obj) (k : Nat) : zcall Try.prog (k + 3000) 25 aa38 (mm38 b) = some (vv38, nn38 b) := by kernel_rfl
theorem s39 (b : Array Obj) (k : Nat) : zcall Try.prog (k + 3000) 26 aa39 (mm39 b) = some (vv39, nn39 b) := by kernel_rfl
theorem s40 (b : Array Obj) (k : Nat) : zcall Try.prog (k + 3000) 26 aa40 (mm40 b) = some (vv40, nn40 b) := by kernel_rfl
theorem s41 (b : Array Obj) (k : Nat) : zcall Try.prog (k + 3000) 25 aa41 (mm41 b) = some (vv41, nn41 b) := by kernel_rfl
theorem s42 (b : Array Obj) (k : Nat) : zcall Try.prog (k + 3000) 26 aa42 (mm42 b) = some (vv42, nn42 b) := by kernel_rfl
theorem s43 (b : Array Obj) (k : Nat) : zcall Try.prog (k + 3000) 25 aa43 (mm43 b) = some (vv43, nn43 b) := by kernel_rfl
theorem s44 (b : Array Obj) (k : Nat) : zcall Try.prog (k + 3000) 26 aa44 (mm44 b) = some (vv44, nn44 b) := by kernel_rfl
theorem s45 (b : Array Obj) (k : Nat) : zcall Try.prog (k + 3000) 25 aa45 (mm45 b) = some (vv45, nn45 b) := by kernel_rfl
theorem s46 (b : Array Obj) (k : Nat) : zcall Try.prog (k + 3000) 20 aa46 (mm46 b) = some (vv46, nn46 b) := by kernel_rfl
theorem s47 (b : Array Obj) (k : Nat) : zcall Try.prog (k + 3000) 16 aa47 (mm47 b) = some (vv47, nn47 b) := by kernel_rfl
end Go.Zt
