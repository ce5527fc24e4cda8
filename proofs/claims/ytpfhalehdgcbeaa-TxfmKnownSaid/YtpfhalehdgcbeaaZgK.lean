/- Layer 7: BasisBounded. -/
import Derived.Test.YtpfhalehdgcbeaaZgI
set_option linter.unusedSimpArgs false
set_option linter.unusedVariables false
namespace Go.Zt
open Go Go.Sim Go.Proofs Go.RowKit

section
variable {M0 : Mem} {A : Option Addr} {n0 c0 : Nat} {y0 : List Int}
end
end Go.Zt

