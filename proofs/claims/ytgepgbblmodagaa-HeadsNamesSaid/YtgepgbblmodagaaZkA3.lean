/- Layer 20: the stages of awake's run. -/
import Derived.Test.YtgepgbblmodagaaZkA2
set_option maxRecDepth 100000
namespace Go.Zy
open Go Go.Sim Go.Proofs Go.RowKit
theorem s4 (b:Array Obj) (k:Nat):zcall Try.prog (k+3000) 24 aa4 (mm4 b)=some (vv4,nn4 b):=by kernel_rfl
end Go.Zy
