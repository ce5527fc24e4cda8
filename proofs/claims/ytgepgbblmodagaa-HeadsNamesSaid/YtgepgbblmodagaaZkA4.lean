/- Layer 20: the stages of awake's run. -/
import Derived.Test.YtgepgbblmodagaaZkA2
set_option maxRecDepth 100000
namespace Go.Zy
open Go Go.Sim Go.Proofs Go.RowKit
theorem s7 (b:Array Obj) (k:Nat):zcall Try.prog (k+3000) 35 aa7 (mm7 b)=some (vv7,nn7 b):=by kernel_rfl
end Go.Zy
