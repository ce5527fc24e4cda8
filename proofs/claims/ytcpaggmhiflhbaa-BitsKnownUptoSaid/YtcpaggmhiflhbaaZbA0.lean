/- Layer 1: what is known ahead, for 'texts': the machine has run 'works' to its end. -/
import Derived.Test.YtcpaggmhiflhbaaProg
import Derived.Test.YtcpaggmhiflhbaaZqT
set_option maxRecDepth 100000
namespace Go.Zy
open Go Go.Sim Go.Proofs Go.RowKit

theorem named : Named Try.prog := named_of (by kernel_rfl)
theorem mixed : Try.prog.follows .mixedOrders = true := by kernel_rfl
instance : Orc Try.prog := ⟨[(21, .bool true)]⟩
theorem known : Known Try.prog (Orc.tab Try.prog) := by
  intro f v h
  have h' : (match f == 21 with | true => some (Value.bool true) | false => none) = some v := h
  cases hf : f == 21 with
  | true =>
    rw [hf] at h'
    obtain rfl := Option.some.inj h'
    obtain rfl := eq_of_beq hf
    exact ⟨rfl, fun w => known_of named mixed (n := 3000) rfl (fun b => by kernel_rfl) w⟩
  | false => rw [hf] at h'; cases h'
end Go.Zy
