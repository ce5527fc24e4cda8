/- Layer 7: the reference's transform back; BasisTurns. -/
import Derived.Test.YtpfhalehdgcbeaaZgU
set_option linter.unusedSimpArgs false
set_option linter.unusedVariables false
namespace Go.Zt
open Go Go.Sim Go.Proofs Go.RowKit

section
variable {M0 : Mem} {A X : Option Addr} {n c cm : Nat} {x : List Int} {kind : Nat} {As : List (Option Addr)}
end
theorem own_len {S : Nat → Prop} {M : Mem} {e : TypeId} {A : Option Addr} {c : Nat} {L : List Value} (h : Own S M e A c L) : L.length ≤ c := by
  rcases h with ⟨_, rfl, rfl⟩ | ⟨_, _, _, _, _, _, _, _, h, _⟩
  · exact Nat.le_refl _
  · exact h
section
variable {M : Mem} {A : Option Addr} {n c : Nat} {x : List Int} {kind : Int}
end
end Go.Zt

