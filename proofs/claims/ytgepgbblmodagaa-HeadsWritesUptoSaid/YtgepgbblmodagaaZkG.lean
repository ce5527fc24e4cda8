/- Layer 1: the document's readers. -/
import Derived.Test.YtgepgbblmodagaaZkF
import Derived.Test.YtgepgbblmodagaaZkC
set_option linter.unusedSimpArgs false
set_option linter.unusedVariables false
namespace Go.Zt
open Go Go.Sim Go.Proofs Go.RowKit
abbrev N64 (l : List Nat) : List Value := l.map fun x => Value.int .i64 (x : Nat)
theorem el3 : ElemS Try.prog 81 3 1 8 (.int .i64 0) := ⟨by kernel_rfl, by kernel_rfl, rfl, by decide, by decide⟩
def bitsOf (b : List Nat) : List Nat := (List.range (8 * b.length)).map (bitOf b)
theorem bitsOf_at (b : List Nat) {i : Nat} (h : i < 8 * b.length) : (bitsOf b)[i]? = some (bitOf b i) := by simp [bitsOf, h]
structure RefR (S : Nat → Prop) (M : Mem) (j : Nat) (b : List Nat) (p : Nat) : Prop where
  out : ¬ S j
  len : b.length ≤ 4294967296
  pos : p ≤ 8 * b.length
  ex : ∃ A c, M.nb[j]? = some (.cells #[.slice A (8 * b.length) c, .int .i64 (p : Nat)] 104) ∧ Row M A (N64 (bitsOf b)) ∧ 8 * b.length ≤ c ∧ (A = none → c = 0) ∧ ∀ a, A = some a → a.block % 2 = 1 ∨ S (a.block / 2)
theorem RefR.chg {S T : Nat → Prop} {M M' : Mem} {j : Nat} {b : List Nat} {p : Nat} (h : RefR S M j b p) (k : Chg T M M') (hj : ¬ T j) (hS : ∀ i, S i → ¬ T i) : RefR S M' j b p := by
  obtain ⟨A, c, h1, h2, h3, h0, h4⟩ := h.ex
  exact ⟨h.out, h.len, h.pos, A, c, at_chg h1 k hj, h2.chg k fun a ha => (h4 a ha).imp id (hS _), h3, h0, h4⟩
theorem RefR.keep {S : Nat → Prop} {M M' : Mem} {j : Nat} {b : List Nat} {p : Nat} (h : RefR S M j b p) (k : Keep M M') : RefR S M' j b p := h.chg k (fun x => x) fun _ _ x => x
theorem RefR.set {S : Nat → Prop} {M : Mem} {j : Nat} {b : List Nat} {p : Nat} (h : RefR S M j b p) (hf : M.floor ≤ j) {p' : Nat} (hp : p' ≤ 8 * b.length) {z : Int} (hz : z = (p' : Int)) :
    ∃ M', M.put (2 * j) 1 (.int .i64 z) = some M' ∧ Chg (· = j) M M' ∧ M'.nb.size = M.nb.size ∧ RefR S M' j b p' := by
  subst hz
  obtain ⟨A, c, h1, h2, h3, h0, h4⟩ := h.ex
  have hC : Chg (· = j) M (M.upd j (.cells (#[.slice A (8 * b.length) c, .int .i64 (p : Nat)].setIfInBounds 1 (.int .i64 (p' : Nat))) 104)) := upd_chg rfl
  exact ⟨_, put_of h1 hf (by simp) rfl, hC, upd_size _, h.out, h.len, hp, A, c, upd_at (lt_of_at h1), h2.chg hC fun a ha => (h4 a ha).imp id fun hs e => h.out (e ▸ hs), h3, h0, h4⟩
def RfR (S : Nat → Prop) (M : Mem) (j : Nat) (b : List Nat) (u : Value) (p' : Nat) : Value → Mem → Prop := fun v N => v = u ∧ Chg (· = j) M N ∧ N.nb.size = M.nb.size ∧ RefR S N j b p'
section
variable {S : Nat → Prop} {M : Mem} {j : Nat} {b : List Nat} {p : Nat}
theorem RfR.same (h : RefR S M j b p) {u : Value} : RfR S M j b u p u M := ⟨rfl, .refl _, rfl, h⟩
theorem RefR.bit (h : RefR S M j b p) {i : Nat} {z : Int} (hz : z = (i : Int)) (hi : i < 8 * b.length) :
    ∃ A c, M.slAt (2 * j) 0 = some (A, 8 * b.length, c) ∧ ∃ a, idxA A (8 * b.length) 1 z = some a ∧ M.intAt .i64 a.block a.off = some ((bitOf b i : Nat) : Int) := by
  obtain ⟨A, c, h1, h2, h3, h0, h4⟩ := h.ex
  obtain ⟨a, i1, i2⟩ := h2.int1 (n := 8 * b.length) (i := i) (z := z) (k := .i64) (x := (bitOf b i : Nat)) hz hi (by rw [List.getElem?_map, bitsOf_at b hi]; rfl)
  exact ⟨A, c, sl_of h1 rfl, a, i1, i2⟩
theorem RefR.at (h : RefR S M j b p) : M.intAt .i64 (2 * j) 1 = some ((p : Nat) : Int) := by
  obtain ⟨A, c, h1, h2, h3, h0, h4⟩ := h.ex
  exact int_of h1 rfl
theorem numb_zero {f : Nat → Nat} {a : Nat} : ∀ {n : Nat}, numb f a n = 0 ↔ ∀ i, i < n → f (a + i) = 0
  | 0 => by simp [numb]
  | n + 1 => by
    have ih := numb_zero (f := f) (a := a) (n := n)
    rw [numb]
    constructor
    · intro h i hi
      by_cases hin : i = n
      · rw [hin]; omega
      · exact ih.1 (by omega) i (by omega)
    · intro h
      have h1 := ih.2 fun i hi => h i (by omega)
      have h2 := h n (by omega)
      omega
end
end Go.Zt
