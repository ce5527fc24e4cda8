/- Layer 7: the program's and the reference's cosines. -/
import Derived.Test.YtpfhalehdgcbeaaZgIa
set_option linter.unusedSimpArgs false
set_option linter.unusedVariables false
set_option maxRecDepth 100000
namespace Go.Zt
open Go Go.Sim Go.Proofs Go.RowKit

end Go.Zt

