/- Layer 8: nothing is known ahead. -/
import Derived.Test.YtpfhalehdgcbeaaProg
import Derived.Test.YtpfhalehdgcbeaaZsT
set_option maxRecDepth 100000
namespace Go.Zt
open Go Go.Sim Go.Proofs Go.RowKit

theorem named : Named Try.prog := named_of (by kernel_rfl)
theorem mixed : Try.prog.follows .mixedOrders = true := by kernel_rfl
instance : Orc Try.prog := ⟨[]⟩
theorem known : Known Try.prog (Orc.tab Try.prog) := by
  intro f v h
  have h' : (none : Option Value) = some v := h
  cases h'
end Go.Zt

