/- Layer 7: the reference's transforms, both ways. -/
import Derived.Test.YtpfhalehdgcbeaaZgT
import Derived.Test.YtpfhalehdgcbeaaZgM
set_option linter.unusedSimpArgs false
set_option linter.unusedVariables false
namespace Go.Zt
open Go Go.Sim Go.Proofs Go.RowKit

/-- The weights, as told: none for the fourth kind. -/
def WtR (M : Mem) (kind n : Nat) (A : Option Addr) (lm : Nat) : Prop :=
  (kind = 3 ∧ lm = 0) ∨ (kind < 3 ∧ lm = n ∧ ∃ As, Row M A (Sls n As) ∧ As.length = n ∧ Mat M n (wS kind n) As)
theorem WtR.keep {M N : Mem} {kind n : Nat} {A : Option Addr} {lm : Nat} (h : WtR M kind n A lm) (k : Keep M N) : WtR N kind n A lm := by
  rcases h with h | ⟨h1, h2, As, h3, h4, h5⟩
  · exact .inl h
  · exact .inr ⟨h1, h2, As, h3.keep k, h4, h5.keep k⟩
theorem lenB_kind {kind : Int} {n : Nat} (h : lenB kind n = true) : 0 ≤ kind ∧ kind ≤ 3 := by
  unfold lenB at h
  repeat' split at h
  all_goals first | (cases h; done) | omega
section
variable {M0 : Mem} {A X : Option Addr} {n c cm : Nat} {x : List Int} {kind : Nat} {As : List (Option Addr)}
/-- What a transform of the reference tells. -/
abbrev Told (M0 : Mem) (L : List Int) : Value → Mem → Prop := fun v N => ∃ B d, v = .slice B L.length d ∧ Keep M0 N ∧ Own (fun j => M0.nb.size ≤ j) N 3 B d (Ints L)
end
end Go.Zt

