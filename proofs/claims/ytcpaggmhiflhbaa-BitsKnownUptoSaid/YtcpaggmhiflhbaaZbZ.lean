/- Layer 1: BitsKnown: the closed statement, walked in stages. -/
import Derived.Test.YtcpaggmhiflhbaaZbYc
namespace Go.Zt
open Go Go.Sim Go.Proofs Go.RowKit
theorem law8 {W : World} : Sim.Cn Try.prog 8 #[] (mem0 W) (fun v _ => v = .bool true) := walk_8 W.heap
end Go.Zt
