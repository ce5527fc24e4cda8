/- Layer 1: bits of bytes, bytes of bits; the document's readers, made and at their end. -/
import Derived.Test.YtgepgbblmodagaaZkG
set_option linter.unusedSimpArgs false
set_option linter.unusedVariables false
namespace Go.Zt
open Go Go.Sim Go.Proofs Go.RowKit

abbrev Bin (l : List Nat) : Prop := ∀ x ∈ l, x < 2
abbrev bitL (l : List Nat) (i : Nat) : Nat := l.getD i 0
def gbyte (l : List Nat) (q : Nat) : Nat := numb (bitL l) (8 * q) 8
/-- The bytes of bits, the last one filled with noughts. -/
def pack (l : List Nat) : List Nat := (List.range ((l.length + 7) / 8)).map (gbyte l)
theorem bitL_lt {l : List Nat} (h : Bin l) (i : Nat) : bitL l i < 2 := by
  unfold bitL
  by_cases hi : i < l.length
  · simp only [List.getD_eq_getElem?_getD, List.getElem?_eq_getElem hi, Option.getD_some]; exact h _ (List.getElem_mem _)
  · simp [List.getD_eq_getElem?_getD, List.getElem?_eq_none (show l.length ≤ i by omega)]
theorem gbyte_lt {l : List Nat} (h : Bin l) (q : Nat) : gbyte l q < 256 := numb_lt (bitL_lt h) (8 * q) 8
theorem pack_len (l : List Nat) : (pack l).length = (l.length + 7) / 8 := by simp [pack]
theorem numb_ext {f g : Nat → Nat} {a a' : Nat} : ∀ {n : Nat}, (∀ i, i < n → f (a + i) = g (a' + i)) → numb f a n = numb g a' n
  | 0, _ => rfl
  | n + 1, h => by
    rw [numb, numb, numb_ext (n := n) fun i hi => h i (by omega), h n (by omega)]
end Go.Zt

