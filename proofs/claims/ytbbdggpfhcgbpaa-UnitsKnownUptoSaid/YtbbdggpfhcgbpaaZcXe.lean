/- Layer 19: UnitsKnown: the closed statement, walked in stages. -/
import Derived.Test.YtbbdggpfhcgbpaaZcXc
namespace Go.Zt
open Go Go.Sim Go.Proofs Go.RowKit
theorem law9 {W : World} : Sim.Cn Try.prog 9 #[] (mem0 W) (fun v _ => v = .bool true) := walk_9 W.heap
end Go.Zt
