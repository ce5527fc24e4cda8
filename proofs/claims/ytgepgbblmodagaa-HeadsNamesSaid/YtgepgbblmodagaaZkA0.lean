/- Layer 20: with nothing known ahead (for the walk of 'awake' alone). -/
import Derived.Test.YtgepgbblmodagaaProg
import Derived.Test.YtgepgbblmodagaaZqT
set_option maxRecDepth 100000
namespace Go.Zy
open Go Go.Sim Go.Proofs Go.RowKit
theorem named:Named Try.prog:=named_of (by kernel_rfl)
theorem mixed:Try.prog.follows .mixedOrders=true:=by kernel_rfl
instance:Orc Try.prog:=⟨[]⟩
end Go.Zy
