/- Layer 7: BasisAdds. -/
import Derived.Test.YtpfhalehdgcbeaaZgK
set_option linter.unusedSimpArgs false
set_option linter.unusedVariables false
namespace Go.Zt
open Go Go.Sim Go.Proofs Go.RowKit

theorem gx_map {f : Nat → Int} {n i : Nat} (h : i < n) : gx ((List.range n).map f) i = f i := by
  unfold gx; rw [List.getD_eq_getElem?_getD, List.getElem?_map, List.getElem?_range h]; rfl
theorem dot_congr {f g : Nat → Int} : ∀ {n : Nat}, (∀ i, i < n → f i = g i) → dot f n = dot g n
  | 0, _ => rfl
  | n + 1, h => by simp only [dot]; rw [dot_congr fun i hi => h i (by omega), h n (by omega)]
section
variable {M0 : Mem} {A B : Option Addr} {n0 c0 n1 c1 : Nat} {y0 y1 : List Int} {t : Int}
end
theorem wf_i64 {x : Int} (h : (Lit.int .i64 x).wf = true) : -9223372036854775808 ≤ x ∧ x ≤ 9223372036854775807 := by
  simp [Lit.wf, IntKind.min, IntKind.max, IntKind.signed, IntKind.bits] at h
  omega
end Go.Zt

