/- Layer 1: what is known ahead, for 'BitsKnown': 'works' and 'texts' (by its walk in stages). -/
import Derived.Test.YtcpaggmhiflhbaaZbXc
set_option maxRecDepth 100000
namespace Go.Zt
open Go Go.Sim Go.Proofs Go.RowKit

theorem named : Named Try.prog := Go.Zy.named
theorem mixed : Try.prog.follows .mixedOrders = true := Go.Zy.mixed
theorem known41 (w : World) : Calls Try.prog 41 #[] w fun e w' => e = .returned (.bool true) ∧ Below w.heap.size w w' :=
  calls_true named mixed Go.Zy.known (args0 := #[]) (Go.Zy.walk_41 w.heap) vrs_nil
theorem known21 (w : World) : Calls Try.prog 21 #[] w fun e w' => e = .returned (.bool true) ∧ Below w.heap.size w w' :=
  (Go.Zy.known 21 (.bool true) rfl).2 w
instance : Orc Try.prog := ⟨[(21, .bool true), (41, .bool true)]⟩
theorem known : Known Try.prog (Orc.tab Try.prog) := by
  intro f v h
  have h' : (match f == 21 with | true => some (Value.bool true) | false => (match f == 41 with | true => some (Value.bool true) | false => none)) = some v := h
  cases hf : f == 21 with
  | true =>
    rw [hf] at h'
    obtain rfl := Option.some.inj h'
    obtain rfl := eq_of_beq hf
    exact ⟨rfl, fun w => known21 w⟩
  | false =>
    rw [hf] at h'
    cases hg : f == 41 with
    | true =>
      rw [hg] at h'
      obtain rfl := Option.some.inj h'
      obtain rfl := eq_of_beq hg
      exact ⟨rfl, fun w => known41 w⟩
    | false => rw [hg] at h'; cases h'
end Go.Zt
