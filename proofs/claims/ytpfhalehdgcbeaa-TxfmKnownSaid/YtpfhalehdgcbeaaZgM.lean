/- Layer 7: BasisAdds. -/
import Derived.Test.YtpfhalehdgcbeaaZgK
set_option linter.unusedSimpArgs false
set_option linter.unusedVariables false
namespace Go.Zt
open Go Go.Sim Go.Proofs Go.RowKit

theorem gx_map {f : Nat → Int} {n i : Nat} (h : i < n) : gx ((List.range n).map f) i = f i := by
  unfold gx; rw [List.getD_eq_getElem?_getD, List.getElem?_map, List.getElem?_range h]; rfl
section
variable {M0 : Mem} {A B : Option Addr} {n0 c0 n1 c1 : Nat} {y0 y1 : List Int} {t : Int}
end
end Go.Zt

