/- Layer 8: the bounds (plain). -/
import Derived.Test.YtpfhalehdgcbeaaZge
set_option linter.unusedSimpArgs false
set_option linter.unusedVariables false
namespace Go.Zt
open Go Go.Sim Go.Proofs Go.RowKit

/-- The weights' absolute values, summed over the first index. -/
def vA (f : Nat → Int) : Nat → Nat
  | 0 => 0
  | m + 1 => vA f m + (f m).natAbs
theorem abs_mul {B : Nat} {x w : Int} (hx : -(B : Int) ≤ x ∧ x ≤ B) : -((B * w.natAbs : Nat) : Int) ≤ x * w ∧ x * w ≤ ((B * w.natAbs : Nat) : Int) :=
  mulb (A := B) (B := w.natAbs) hx (by omega)
theorem dot_abs {x w : Nat → Int} {B : Nat} : ∀ {n : Nat}, (∀ i, i < n → -(B : Int) ≤ x i ∧ x i ≤ B) → -((B * vA w n : Nat) : Int) ≤ dot (fun i => x i * w i) n ∧ dot (fun i => x i * w i) n ≤ ((B * vA w n : Nat) : Int)
  | 0, _ => by simp [dot, vA]
  | n + 1, h => by
    have h1 := dot_abs (x := x) (w := w) (B := B) (n := n) fun i hi => h i (by omega)
    have h2 := abs_mul (w := w n) (h n (by omega))
    simp only [dot, vA, Nat.mul_add]
    generalize x n * w n = p at h2 ⊢
    omega
section
variable {n s : Nat} {typ : Int} {x : List Int}
theorem kinds_lt (hz : Szt n typ) (h9 : typ ≠ 9) (ht : 0 ≤ typ ∧ typ < 9) : (kindsS typ).1.toNat < 3 ∧ (kindsS typ).2.toNat < 3 := by
  unfold kindsS; rw [if_neg h9]
  obtain ⟨k, rfl⟩ := Int.eq_ofNat_of_zero_le ht.1
  have h3 : ((k : Nat) : Int).tmod 3 = ((k % 3 : Nat) : Int) := tmodN k 3
  have h4 : ((k : Nat) : Int).tdiv 3 = ((k / 3 : Nat) : Int) := tdivN k 3
  dsimp only
  rw [h3, h4, i64w (by omega)]
  omega
end
theorem ask_all {n : Nat} (hn : n = 4 ∨ n = 8 ∨ n = 16 ∨ n = 32 ∨ n = 64) {typ : Int} (ht : typ ∈ typesS n) {x : List Int} {side : Nat} {b : Int} (hs : side ≤ 64) (hl : x.length = side * side) (hb : inB b x = true) : askS n typ x side b = 0 := by
  have := Nat.mul_le_mul hs hs
  unfold askS
  have h1 : (typesS n).length ≠ 0 := by intro h; rw [List.length_eq_zero_iff.1 h] at ht; cases ht
  rw [if_neg h1, show (typesS n).contains typ = true by simpa using ht, if_neg (by decide), if_neg, if_pos hb]
  rw [← Int.natCast_mul, i64w (by omega), hl]; simp
theorem typ_b {n : Nat} (hn : n = 4 ∨ n = 8 ∨ n = 16 ∨ n = 32 ∨ n = 64) {typ : Int} (ht : typ ∈ typesS n) : 0 ≤ typ ∧ typ ≤ 9 := by
  have key : ∀ n ∈ [4, 8, 16, 32, 64], ∀ t ∈ typesS ((n : Nat) : Int), 0 ≤ t ∧ t ≤ 9 := by decide +kernel
  exact key n (by simp; omega) typ ht
end Go.Zt

