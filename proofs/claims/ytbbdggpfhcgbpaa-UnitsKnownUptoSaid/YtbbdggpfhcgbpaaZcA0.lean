/- Layer 19: what is known ahead, for UnitsKnown (over Zq): the machine has run 'works' to its end. -/
import Derived.Test.YtbbdggpfhcgbpaaProg
import Derived.Test.YtbbdggpfhcgbpaaZqT
set_option maxRecDepth 100000
namespace Go.Zt
open Go Go.Sim Go.Proofs Go.RowKit

theorem named : Named Try.prog := named_of (by kernel_rfl)
theorem mixed : Try.prog.follows .mixedOrders = true := by kernel_rfl
instance : Orc Try.prog := ⟨[(16, .bool true)]⟩
theorem known : Known Try.prog (Orc.tab Try.prog) := by
  intro f v h
  have h' : (match f == 16 with | true => some (Value.bool true) | false => none) = some v := h
  cases hf : f == 16 with
  | true =>
    rw [hf] at h'
    obtain rfl := Option.some.inj h'
    obtain rfl := eq_of_beq hf
    exact ⟨rfl, fun w => known_of named mixed (n := 3000) rfl (fun b => by kernel_rfl) w⟩
  | false => rw [hf] at h'; cases h'
end Go.Zt
