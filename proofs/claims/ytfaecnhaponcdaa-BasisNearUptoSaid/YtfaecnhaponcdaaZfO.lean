/- Layer 7: the weights are all but at right angles to each other (checked by the kernel). -/
import Derived.Test.YtfaecnhaponcdaaZfM
namespace Go.Zt
def gw (kind n j i : Nat) : Int := dot (fun k => wS kind n k j * wS kind n k i) n
def eW (kind n i : Nat) : Nat → Nat
  | 0 => 0
  | m + 1 => eW kind n i m + (gw kind n m i - if m = i then (n / 2 * 16777216 : Nat) else 0).natAbs
def vW (kind n i : Nat) : Nat → Nat
  | 0 => 0
  | m + 1 => vW kind n i m + (wS kind n m i).natAbs
def okW (kind n i : Nat) : Bool := decide (1023 * eW kind n i n + 2048 * vW kind n i n + 8388608 < 16777216 * (n * n / 2 + 1))
theorem ok0_4 : ∀ i : Fin 4, okW 0 4 i = true := by decide +kernel
theorem ok0_8 : ∀ i : Fin 8, okW 0 8 i = true := by decide +kernel
theorem ok0_16 : ∀ i : Fin 16, okW 0 16 i = true := by decide +kernel
theorem ok0_32 : ∀ i : Fin 32, okW 0 32 i = true := by decide +kernel
theorem ok0_64 : ∀ i : Fin 64, okW 0 64 i = true := by decide +kernel
theorem ok1_4 : ∀ i : Fin 4, okW 1 4 i = true := by decide +kernel
theorem ok1_8 : ∀ i : Fin 8, okW 1 8 i = true := by decide +kernel
theorem ok1_16 : ∀ i : Fin 16, okW 1 16 i = true := by decide +kernel
theorem ok2_4 : ∀ i : Fin 4, okW 2 4 i = true := by decide +kernel
theorem ok2_8 : ∀ i : Fin 8, okW 2 8 i = true := by decide +kernel
theorem ok2_16 : ∀ i : Fin 16, okW 2 16 i = true := by decide +kernel
theorem ok2_32 : ∀ i : Fin 32, okW 2 32 i = true := by decide +kernel
theorem okW_all {k n : Nat} (hk : k < 3) (hl : lenB (k : Nat) n = true) {i : Nat} (hi : i < n) : okW k n i = true := by
  have h64 := lenB_le hl
  unfold lenB at hl
  obtain rfl | rfl | rfl : k = 0 ∨ k = 1 ∨ k = 2 := by omega
  · rcases of_decide_eq_true (show decide (n = 4 ∨ n = 8 ∨ n = 16 ∨ n = 32 ∨ n = 64) = true from hl) with rfl | rfl | rfl | rfl | rfl
    · exact ok0_4 ⟨i, hi⟩
    · exact ok0_8 ⟨i, hi⟩
    · exact ok0_16 ⟨i, hi⟩
    · exact ok0_32 ⟨i, hi⟩
    · exact ok0_64 ⟨i, hi⟩
  · rcases of_decide_eq_true (show decide (n = 4 ∨ n = 8 ∨ n = 16) = true from hl) with rfl | rfl | rfl
    · exact ok1_4 ⟨i, hi⟩
    · exact ok1_8 ⟨i, hi⟩
    · exact ok1_16 ⟨i, hi⟩
  · rcases of_decide_eq_true (show decide (n = 4 ∨ n = 8 ∨ n = 16 ∨ n = 32) = true from hl) with rfl | rfl | rfl | rfl
    · exact ok2_4 ⟨i, hi⟩
    · exact ok2_8 ⟨i, hi⟩
    · exact ok2_16 ⟨i, hi⟩
    · exact ok2_32 ⟨i, hi⟩
end Go.Zt
