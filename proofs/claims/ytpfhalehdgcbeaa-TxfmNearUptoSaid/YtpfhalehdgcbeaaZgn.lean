/- Layer 8: what is rounded stays near (plain). -/
import Derived.Test.YtpfhalehdgcbeaaZgl
set_option linter.unusedSimpArgs false
set_option linter.unusedVariables false
namespace Go.Zt
open Go Go.Sim Go.Proofs Go.RowKit

def gw (kind n j i : Nat) : Int := dot (fun k => wS kind n k j * wS kind n k i) n
def eW (kind n i : Nat) : Nat → Nat
  | 0 => 0
  | m + 1 => eW kind n i m + (gw kind n m i - if m = i then (n / 2 * 16777216 : Nat) else 0).natAbs
def sN (n : Nat) : Nat := if n = 4 then 4 else if n = 8 then 2 else 1
def mN (n : Nat) : Nat := if n = 4 then 8 else if n = 8 then 4 else 2
def hN (n : Nat) : Nat := if n = 4 then 760 else if n = 8 then 1480 else 2886
def okN (n kind i : Nat) : Bool :=
  let e := eW kind n i n
  let v := vA (fun k => wS kind n k i) n
  let r := vA (fun j => wS kind n i j) n
  decide (sN n * (hN n * e + 2048 * v) + 8388608 + 16777216 * 2 ≤ 16777216 * 2 ^ bitsN n * 64) &&
  decide (mN n * (255 * e + 2048 * v) + 4096 * (64 * v) + 8388608 ≤ 16777216 * (128 * n - 16)) &&
  decide ((255 * r + 2048) / 4096 + 1 ≤ hN n) && decide (((hN n * r + 2048) / 4096 + 1) * sN n ≤ 32767)
theorem okN_4 : ∀ kind ∈ [0, 1, 2], ∀ i ∈ List.range 4, okN 4 kind i = true := by decide +kernel
theorem okN_8 : ∀ kind ∈ [0, 1, 2], ∀ i ∈ List.range 8, okN 8 kind i = true := by decide +kernel
theorem okN_16 : ∀ kind ∈ [0, 1, 2], ∀ i ∈ List.range 16, okN 16 kind i = true := by decide +kernel
theorem okN_all {n kind i : Nat} (hn : n = 4 ∨ n = 8 ∨ n = 16) (hk : kind < 3) (hi : i < n) :
    sN n * (hN n * eW kind n i n + 2048 * vA (fun k => wS kind n k i) n) + 8388608 + 16777216 * 2 ≤ 16777216 * 2 ^ bitsN n * 64 ∧
    mN n * (255 * eW kind n i n + 2048 * vA (fun k => wS kind n k i) n) + 4096 * (64 * vA (fun k => wS kind n k i) n) + 8388608 ≤ 16777216 * (128 * n - 16) ∧
    (255 * vA (fun j => wS kind n i j) n + 2048) / 4096 + 1 ≤ hN n ∧ ((hN n * vA (fun j => wS kind n i j) n + 2048) / 4096 + 1) * sN n ≤ 32767 := by
  have mem : kind ∈ [0, 1, 2] := by simp; omega
  have h : okN n kind i = true := by
    rcases hn with rfl | rfl | rfl
    · exact okN_4 kind mem i (List.mem_range.2 hi)
    · exact okN_8 kind mem i (List.mem_range.2 hi)
    · exact okN_16 kind mem i (List.mem_range.2 hi)
  unfold okN at h
  simp only [Bool.and_eq_true, decide_eq_true_eq] at h
  exact ⟨h.1.1.1, h.1.1.2, h.1.2, h.2⟩
theorem dot_mulr {f : Nat → Int} {c : Int} : ∀ {n : Nat}, dot (fun i => f i * c) n = dot f n * c
  | 0 => by simp [dot]
  | n + 1 => by simp only [dot]; rw [dot_mulr, Int.add_mul]
theorem dot_mull {f : Nat → Int} {c : Int} : ∀ {n : Nat}, dot (fun i => c * f i) n = c * dot f n
  | 0 => by simp [dot]
  | n + 1 => by simp only [dot]; rw [dot_mull, Int.mul_add]
theorem dot_swap {f : Nat → Nat → Int} {n : Nat} : ∀ {m : Nat}, dot (fun k => dot (fun j => f k j) n) m = dot (fun j => dot (fun k => f k j) m) n
  | 0 => by
    simp only [dot]
    induction n with
    | zero => rfl
    | succ n ih => simp only [dot]; omega
  | m + 1 => by
    simp only [dot]
    rw [dot_swap]
    exact (dot_add (f := fun j => dot (fun k => f k j) m) (g := fun j => f m j)).symm
theorem dot_at {f : Nat → Int} {c : Int} {i : Nat} : ∀ {n : Nat}, dot (fun j => f j * if j = i then c else 0) n = if i < n then f i * c else 0
  | 0 => by simp [dot]
  | n + 1 => by
    simp only [dot]
    rw [dot_at]
    by_cases h : n = i
    · subst h; rw [if_neg (by omega), if_pos rfl, if_pos (by omega)]; omega
    · by_cases h2 : i < n
      · rw [if_pos h2, if_neg h, if_pos (by omega)]; omega
      · rw [if_neg h2, if_neg h, if_neg (by omega)]; omega
/-- A line goes forth and comes back: what is off, before the last division. -/
theorem core {k n : Nat} {x : Nat → Int} {B : Nat} (hx : ∀ j, j < n → -(B : Int) ≤ x j ∧ x j ≤ B) {i : Nat} (hi : i < n) :
    ∃ D R : Int, 4096 * dot (fun q => rnd (dot (fun j => x j * wS k n q j) n) * wS k n q i) n = D + x i * ((n / 2 * 16777216 : Nat) : Int) + R ∧ D.natAbs ≤ B * eW k n i n ∧ R.natAbs ≤ 2048 * vA (fun q => wS k n q i) n := by
  have e2 : ∀ q, 4096 * rnd (dot (fun j => x j * wS k n q j) n) = dot (fun j => x j * wS k n q j) n + (2048 - (dot (fun j => x j * wS k n q j) n + 2048) % 4096) := by
    intro q
    unfold rnd
    omega
  have hr : ∀ q, -((2048 : Nat) : Int) ≤ 2048 - (dot (fun j => x j * wS k n q j) n + 2048) % 4096 ∧ 2048 - (dot (fun j => x j * wS k n q j) n + 2048) % 4096 ≤ (2048 : Nat) := by
    intro q; omega
  generalize hre : (fun q => 2048 - (dot (fun j => x j * wS k n q j) n + 2048) % 4096) = r
  have e2' : ∀ q, 4096 * rnd (dot (fun j => x j * wS k n q j) n) = dot (fun j => x j * wS k n q j) n + r q := fun q => by rw [e2 q, ← hre]
  have hr' : ∀ q, -((2048 : Nat) : Int) ≤ r q ∧ r q ≤ (2048 : Nat) := fun q => by rw [← hre]; exact hr q
  have e3 : 4096 * dot (fun q => rnd (dot (fun j => x j * wS k n q j) n) * wS k n q i) n = dot (fun j => x j * gw k n j i) n + dot (fun q => r q * wS k n q i) n := by
    rw [← dot_mull]
    have a1 : dot (fun q => 4096 * (rnd (dot (fun j => x j * wS k n q j) n) * wS k n q i)) n = dot (fun q => (dot (fun j => x j * wS k n q j) n) * wS k n q i + r q * wS k n q i) n := dot_congr fun q _ => by rw [← Int.mul_assoc, e2', Int.add_mul]
    rw [a1, dot_add]
    congr 1
    have a2 : dot (fun q => (dot (fun j => x j * wS k n q j) n) * wS k n q i) n = dot (fun q => dot (fun j => x j * (wS k n q j * wS k n q i)) n) n := dot_congr fun q _ => by
      rw [← dot_mulr]; exact dot_congr fun j _ => by rw [Int.mul_assoc]
    rw [a2, dot_swap]
    exact dot_congr fun j _ => by rw [dot_mull]; rfl
  have e4 : dot (fun j => x j * gw k n j i) n = dot (fun j => x j * (gw k n j i - if j = i then ((n / 2 * 16777216 : Nat) : Int) else 0)) n + x i * ((n / 2 * 16777216 : Nat) : Int) := by
    have : x i * ((n / 2 * 16777216 : Nat) : Int) = dot (fun j => x j * if j = i then ((n / 2 * 16777216 : Nat) : Int) else 0) n := by rw [dot_at, if_pos hi]
    rw [this, ← dot_add]
    exact dot_congr fun j _ => by rw [← Int.mul_add]; congr 1; omega
  have b1 : ∀ m, m ≤ n → (dot (fun j => x j * (gw k n j i - if j = i then ((n / 2 * 16777216 : Nat) : Int) else 0)) m).natAbs ≤ B * eW k n i m := by
    intro m
    induction m with
    | zero => intro _; simp [dot, eW]
    | succ m ih =>
      intro hm
      simp only [dot, eW]
      rw [show (((if m = i then n / 2 * 16777216 else 0 : Nat)) : Int) = if m = i then ((n / 2 * 16777216 : Nat) : Int) else 0 by split <;> rfl]
      have h1 := hx m (by omega)
      have h2 : (x m * (gw k n m i - if m = i then ((n / 2 * 16777216 : Nat) : Int) else 0)).natAbs ≤ B * (gw k n m i - if m = i then ((n / 2 * 16777216 : Nat) : Int) else 0).natAbs := by
        rw [Int.natAbs_mul]; exact Nat.mul_le_mul_right _ (by omega)
      rw [Nat.mul_add]
      exact Nat.le_trans (Int.natAbs_add_le _ _) (Nat.add_le_add (ih (by omega)) h2)
  have b2 := dot_abs (x := r) (w := fun q => wS k n q i) (B := 2048) (n := n) fun q _ => hr' q
  refine ⟨_, _, e3.trans (by rw [e4]), b1 n (Nat.le_refl _), ?_⟩
  omega
section
variable {n k : Nat}
def fwdF (k n : Nat) (x : Nat → Int) (q : Nat) : Int := rnd (dot (fun j => x j * wS k n q j) n)
def invF (k n : Nat) (x : Nat → Int) (i : Nat) : Int := rnd (dot (fun q => x q * wS k n q i) n)
theorem fwdF_b (hn : n = 4 ∨ n = 8 ∨ n = 16) (hk : k < 3) {x : Nat → Int} {B : Nat} (hx : ∀ j, j < n → -(B : Int) ≤ x j ∧ x j ≤ B) {q : Nat} (hq : q < n) :
    -((((B * vA (fun j => wS k n q j) n + 2048) / 4096 + 1 : Nat)) : Int) ≤ fwdF k n x q ∧ fwdF k n x q ≤ (((B * vA (fun j => wS k n q j) n + 2048) / 4096 + 1 : Nat) : Int) := by
  have := dot_abs (w := fun j => wS k n q j) hx
  unfold fwdF rnd
  generalize dot (fun j => x j * wS k n q j) n = d at *
  generalize B * vA (fun j => wS k n q j) n = v at *
  omega
theorem step1 (hn : n = 4 ∨ n = 8 ∨ n = 16) (hk : k < 3) {h : Nat → Int} (hh : ∀ j, j < n → -(hN n : Int) ≤ h j ∧ h j ≤ hN n) :
    (∀ q, q < n → -32767 ≤ (sN n : Int) * fwdF k n h q ∧ (sN n : Int) * fwdF k n h q ≤ 32767) ∧
    ∀ i, i < n → -64 ≤ roundS (bitsN n) (invF k n (fun q => (sN n : Int) * fwdF k n h q) i) - mN n * h i ∧ roundS (bitsN n) (invF k n (fun q => (sN n : Int) * fwdF k n h q) i) - mN n * h i ≤ 64 := by
  constructor
  · intro q hq
    have h1 := fwdF_b hn hk hh hq
    have h2 := (okN_all hn hk hq).2.2.2
    generalize (hN n * vA (fun j => wS k n q j) n + 2048) / 4096 + 1 = v at *
    generalize fwdF k n h q = f at *
    rcases hn with rfl | rfl | rfl
    · show -32767 ≤ ((4 : Nat) : Int) * f ∧ ((4 : Nat) : Int) * f ≤ 32767
      have h2 : v * 4 ≤ 32767 := h2
      omega
    · show -32767 ≤ ((2 : Nat) : Int) * f ∧ ((2 : Nat) : Int) * f ≤ 32767
      have h2 : v * 2 ≤ 32767 := h2
      omega
    · show -32767 ≤ ((1 : Nat) : Int) * f ∧ ((1 : Nat) : Int) * f ≤ 32767
      have h2 : v * 1 ≤ 32767 := h2
      omega
  · intro i hi
    obtain ⟨D, R, c1, c2, c3⟩ := core (k := k) hh hi
    have ok := (okN_all hn hk hi).1
    have e : dot (fun q => (sN n : Int) * fwdF k n h q * wS k n q i) n = sN n * dot (fun q => rnd (dot (fun j => h j * wS k n q j) n) * wS k n q i) n := by
      rw [← dot_mull]; exact dot_congr fun q _ => by rw [Int.mul_assoc]; rfl
    unfold invF rnd
    rw [e]
    generalize dot (fun q => rnd (dot (fun j => h j * wS k n q j) n) * wS k n q i) n = S at *
    generalize eW k n i n = E at *
    generalize vA (fun q => wS k n q i) n = V at *
    generalize h i = x at *
    unfold roundS
    rcases hn with rfl | rfl | rfl
    · have ok : 4 * (760 * E + 2048 * V) + 8388608 + 16777216 * 2 ≤ 16777216 * 1 * 64 := ok
      have c2 : D.natAbs ≤ 760 * E := c2
      have c1 : 4096 * S = D + x * ((33554432 : Nat) : Int) + R := c1
      rw [if_pos (show bitsN 4 = 0 from rfl)]
      show -64 ≤ (((4 : Nat) : Int) * S + 2048) / 4096 - ((8 : Nat) : Int) * x ∧ (((4 : Nat) : Int) * S + 2048) / 4096 - ((8 : Nat) : Int) * x ≤ 64
      omega
    · have ok : 2 * (1480 * E + 2048 * V) + 8388608 + 16777216 * 2 ≤ 16777216 * 2 * 64 := ok
      have c2 : D.natAbs ≤ 1480 * E := c2
      have c1 : 4096 * S = D + x * ((67108864 : Nat) : Int) + R := c1
      rw [if_neg (show ¬ bitsN 8 = 0 by decide)]
      show -64 ≤ ((((2 : Nat) : Int) * S + 2048) / 4096 + 1) / 2 - ((4 : Nat) : Int) * x ∧ ((((2 : Nat) : Int) * S + 2048) / 4096 + 1) / 2 - ((4 : Nat) : Int) * x ≤ 64
      omega
    · have ok : 1 * (2886 * E + 2048 * V) + 8388608 + 16777216 * 2 ≤ 16777216 * 4 * 64 := ok
      have c2 : D.natAbs ≤ 2886 * E := c2
      have c1 : 4096 * S = D + x * ((134217728 : Nat) : Int) + R := c1
      rw [if_neg (show ¬ bitsN 16 = 0 by decide)]
      show -64 ≤ ((((1 : Nat) : Int) * S + 2048) / 4096 + 2) / 4 - ((2 : Nat) : Int) * x ∧ ((((1 : Nat) : Int) * S + 2048) / 4096 + 2) / 4 - ((2 : Nat) : Int) * x ≤ 64
      omega
theorem step2 (hn : n = 4 ∨ n = 8 ∨ n = 16) (hk : k < 3) {x z : Nat → Int} (hx : ∀ j, j < n → -((255 : Nat) : Int) ≤ x j ∧ x j ≤ (255 : Nat))
    (hz : ∀ j, j < n → -((64 : Nat) : Int) ≤ z j - mN n * fwdF k n x j ∧ z j - mN n * fwdF k n x j ≤ (64 : Nat)) {i : Nat} (hi : i < n) :
    -((8 * n : Nat) : Int) ≤ roundS 4 (invF k n z i) - x i ∧ roundS 4 (invF k n z i) - x i ≤ ((8 * n : Nat) : Int) := by
  obtain ⟨D, R, c1, c2, c3⟩ := core (k := k) hx hi
  have ok := (okN_all hn hk hi).2.1
  have ht := dot_abs (w := fun q => wS k n q i) hz
  have e : dot (fun q => z q * wS k n q i) n = mN n * dot (fun q => rnd (dot (fun j => x j * wS k n q j) n) * wS k n q i) n + dot (fun q => (z q - mN n * fwdF k n x q) * wS k n q i) n := by
    rw [← dot_mull, ← dot_add]
    refine dot_congr fun q _ => ?_
    rw [← Int.mul_assoc, ← Int.add_mul]
    congr 1
    show z q = mN n * fwdF k n x q + _
    omega
  unfold invF
  rw [e]
  generalize dot (fun q => rnd (dot (fun j => x j * wS k n q j) n) * wS k n q i) n = S at *
  generalize dot (fun q => (z q - mN n * fwdF k n x q) * wS k n q i) n = T at *
  generalize eW k n i n = E at *
  generalize vA (fun q => wS k n q i) n = V at *
  generalize x i = x at *
  unfold roundS rnd
  rw [if_neg (show ¬ 4 = 0 by decide), show (2 : Int) ^ (4 - 1) = 8 by decide, show (2 : Int) ^ 4 = 16 by decide]
  rcases hn with rfl | rfl | rfl
  · have ok : 8 * (255 * E + 2048 * V) + 4096 * (64 * V) + 8388608 ≤ 16777216 * 496 := ok
    have c1 : 4096 * S = D + x * ((33554432 : Nat) : Int) + R := c1
    show -((32 : Nat) : Int) ≤ ((((8 : Nat) : Int) * S + T + 2048) / 4096 + 8) / 16 - x ∧ ((((8 : Nat) : Int) * S + T + 2048) / 4096 + 8) / 16 - x ≤ ((32 : Nat) : Int)
    omega
  · have ok : 4 * (255 * E + 2048 * V) + 4096 * (64 * V) + 8388608 ≤ 16777216 * 1008 := ok
    have c1 : 4096 * S = D + x * ((67108864 : Nat) : Int) + R := c1
    show -((64 : Nat) : Int) ≤ ((((4 : Nat) : Int) * S + T + 2048) / 4096 + 8) / 16 - x ∧ ((((4 : Nat) : Int) * S + T + 2048) / 4096 + 8) / 16 - x ≤ ((64 : Nat) : Int)
    omega
  · have ok : 2 * (255 * E + 2048 * V) + 4096 * (64 * V) + 8388608 ≤ 16777216 * 2032 := ok
    have c1 : 4096 * S = D + x * ((134217728 : Nat) : Int) + R := c1
    show -((128 : Nat) : Int) ≤ ((((2 : Nat) : Int) * S + T + 2048) / 4096 + 8) / 16 - x ∧ ((((2 : Nat) : Int) * S + T + 2048) / 4096 + 8) / 16 - x ≤ ((128 : Nat) : Int)
    omega
end
end Go.Zt

