/- What ScanEnds comes to. -/
import Derived.Test.YtfhlpnpghaombaaZtD
import Derived.Test.YtfhlpnpghaombaaZtE
set_option linter.unusedSimpArgs false
set_option linter.unusedVariables false
namespace Go.Zt
open Go Go.Sim Go.Proofs Go.RowKit

theorem rem_pos (x : Int) (n : Nat) : binV Try.prog .rem 3 3 (.int .i64 x) (.int .i64 (Int.ofNat (n + 1))) = some (.int .i64 (x.tmod (Int.ofNat (n + 1)))) := by kernel_rfl
theorem rem_of {x y : Int} (h : 0 < y) {C : Int → Prop} (hC : C (x.tmod y)) : ∃ v, binV Try.prog .rem 3 3 (.int .i64 x) (.int .i64 y) = some v ∧ ∃ z, asI .i64 v = some z ∧ C z := by
  obtain ⟨n, rfl⟩ : ∃ n : Nat, y = Int.ofNat (n + 1) := ⟨(y - 1).toNat, by simp only [Int.ofNat_eq_natCast]; omega⟩
  exact ⟨_, rem_pos x n, _, rfl, hC⟩
/-- A number brought into a range. -/
def bring (x n : Int) : Int := if n ≤ 0 then 0 else if x.tmod n < 0 then x.tmod n + n else x.tmod n
theorem bring_lt (x n : Int) (h : 0 < n) : 0 ≤ bring x n ∧ bring x n < n := by
  have h1 := Int.lt_tmod_of_pos x h
  have h2 := Int.tmod_lt_of_pos x h
  unfold bring
  rw [if_neg (by omega)]
  by_cases h3 : x.tmod n < 0
  · rw [if_pos h3]; omega
  · rw [if_neg h3]; omega
theorem c15 (x n : Int) (hn : n ≤ 4611686018427387904) (M : Mem) : Cn Try.prog 15 #[.int .i64 x, .int .i64 n] M fun v N => v = .int .i64 (bring x n) ∧ N = M := by
  refine w15_0 ⟨fun h => ?_, fun h => ?_⟩
  · exact ⟨by simp [bring, h], rfl⟩
  · have h1 := Int.lt_tmod_of_pos x (by omega : 0 < n)
    refine rem_of (by omega) ⟨fun h2 => ?_, fun h2 => ?_⟩
    · rw [wr _ (by omega)]
      exact ⟨by simp [bring, h, h2], rfl⟩
    · exact ⟨by simp [bring, h, h2], rfl⟩

/-- The first number of a class. -/
def first (c : Nat) : Nat := if c = 0 then 1 else 2 ^ (c - 1) + 1
theorem cls_all : (List.range 1024).all (fun i => decide (let a : Int := (i : Int) + 1; let k := (cls a).1.toNat; let x := (cls a).2.2.1.toNat
    cls a = ((k : Int), ((k - 1 : Nat) : Int), (x : Int), 0) ∧ k ≤ 10 ∧ x < 2 ^ (k - 1) ∧ a = ((first k + x : Nat) : Int))) = true := by kernel_rfl
theorem cls_of (a : Int) (h : 1 ≤ a ∧ a ≤ 1024) : ∃ k x : Nat, cls a = ((k : Int), ((k - 1 : Nat) : Int), (x : Int), 0) ∧ k ≤ 10 ∧ x < 2 ^ (k - 1) ∧ a = ((first k + x : Nat) : Int) := by
  have := of_decide_eq_true (List.all_eq_true.1 cls_all (a - 1).toNat (by simp; omega))
  rw [show (((a - 1).toNat : Nat) : Int) + 1 = a by omega] at this
  exact ⟨_, _, this⟩
theorem first_mono {c d x : Nat} (h : c < d) (hx : x < 2 ^ (c - 1)) : first c + x < first d := by
  have h1 : first d = 2 ^ (d - 1) + 1 := by rw [first, if_neg (by omega)]
  have h2 : 2 ^ c ≤ 2 ^ (d - 1) := Nat.pow_le_pow_right (by omega) (by omega)
  rw [h1]
  by_cases hc : c = 0
  · subst hc
    simp [first] at hx ⊢
    have := Nat.two_pow_pos (d - 1); omega
  · have h3 : 2 ^ c = 2 ^ (c - 1) + 2 ^ (c - 1) := by
      obtain ⟨e, rfl⟩ : ∃ e, c = e + 1 := ⟨c - 1, by omega⟩
      rw [Nat.pow_succ]; simp; omega
    rw [first, if_neg hc]; omega

theorem c5 (a0 b0 : Int) (M : Mem) (hf : M.floor ≤ M.nb.size) : Cn Try.prog 5 #[.int .i64 a0, .int .i64 b0] M fun v N => v = .bool true := by
  refine w5_0 (Cn.mono (c14 M hf) ?_)
  rintro v N ⟨rfl, hK⟩
  refine ⟨_, rfl, fun h => (by cases h), fun _ => Cn.mono (c15 a0 1024 (by omega) N) ?_⟩
  rintro v N ⟨rfl, rfl⟩
  refine ⟨_, rfl, Cn.mono (c15 b0 1024 (by omega) N) ?_⟩
  rintro v N ⟨rfl, rfl⟩
  have ha : 1 ≤ 1 + bring a0 1024 ∧ 1 + bring a0 1024 ≤ 1024 := by have := bring_lt a0 1024 (by omega); omega
  have hb : 1 ≤ 1 + bring b0 1024 ∧ 1 + bring b0 1024 ≤ 1024 := by have := bring_lt b0 1024 (by omega); omega
  refine ⟨_, rfl, ?_⟩
  rw [wr (1 + bring a0 1024) (by omega), wr (1 + bring b0 1024) (by omega)]
  generalize 1 + bring a0 1024 = a at *
  generalize 1 + bring b0 1024 = b at *
  obtain ⟨k, x, e1, hk, hx, hax⟩ := cls_of a ha
  obtain ⟨l, y, e2, hl, hy, hby⟩ := cls_of b hb
  have v1 : clsV a = .tuple #[.int .i64 k, .int .i64 ((k - 1 : Nat) : Int), .int .i64 x, .int .i64 0] := by rw [clsV, e1]
  have v2 : clsV b = .tuple #[.int .i64 l, .int .i64 ((l - 1 : Nat) : Int), .int .i64 y, .int .i64 0] := by rw [clsV, e2]
  have px : (2 : Int) ^ (k - 1) = ((2 ^ (k - 1) : Nat) : Int) := by norm_cast
  have pl := pow_le (k - 1) (by omega)
  have mono1 := @first_mono k l x
  have mono2 := @first_mono l k y
  refine Cn.mono (c12 a N) ?_
  rintro v N ⟨rfl, rfl⟩
  rw [v1]
  refine ⟨_, rfl, _, rfl, _, rfl, _, rfl, _, rfl, Cn.mono (c12 b N) ?_⟩
  rintro v N ⟨rfl, rfl⟩
  rw [v2]
  have fin : A5_1 a b k ((k - 1 : Nat) : Int) x l ((l - 1 : Nat) : Int) y false N (fun v N => v = .bool true) := by
    have mk : (if 0 > IntKind.i64.wrap ((k : Int) - 1) then 0 else IntKind.i64.wrap ((k : Int) - 1)) = ((k - 1 : Nat) : Int) := by
      rw [wr _ (by omega)]; split <;> omega
    have ml : (if 0 > IntKind.i64.wrap ((l : Int) - 1) then 0 else IntKind.i64.wrap ((l : Int) - 1)) = ((l - 1 : Nat) : Int) := by
      rw [wr _ (by omega)]; split <;> omega
    have rest : (k : Int) = l → (.bool ((IntKind.i64.wrap ((y : Int) - x)) == (IntKind.i64.wrap (b - a))) : Value) = .bool true := by
      intro h
      have : k = l := by omega
      subst this
      rw [wr _ (by omega), wr _ (by omega)]
      congr 1
      have : (y : Int) - x = b - a := by omega
      rw [this]; simp
    refine w5_1 ⟨fun h => (by cases h), fun _ => ⟨fun h => ?_, fun h => ?_⟩⟩
    · rw [wr ((k : Int) - 1) (by omega), show (k : Int) - 1 = ((k - 1 : Nat) : Int) by omega]
      refine shlAt (by omega) ?_
      have ef : first k = 2 ^ (k - 1) + 1 := by rw [first, if_neg (by omega)]
      rw [wr (2 ^ (k - 1) + 1) (by omega), wr _ (by omega)]
      refine ⟨fun _ => ⟨fun _ => ⟨fun _ => ⟨fun _ => rfl, rest⟩, fun h => absurd ml.symm h⟩, fun h => ?_⟩, fun h => absurd (by omega) h⟩
      exact absurd (by split <;> omega) h
    · have k0 : k = 0 := by omega
      subst k0
      have ef : first 0 = 1 := rfl
      rw [wr (1 + (x : Int)) (by omega)]
      exact ⟨fun _ => ⟨fun _ => ⟨fun _ => ⟨fun _ => rfl, rest⟩, fun h => absurd ml.symm h⟩, fun h => absurd mk.symm h⟩, fun h => absurd (by omega) h⟩
  refine ⟨_, rfl, _, rfl, _, rfl, _, rfl, _, rfl, fun h => absurd rfl h, fun _ => ⟨fun h => absurd rfl h, fun _ => ⟨fun h => by omega, fun _ => ⟨fun h => by omega, fun _ => ⟨fun h => by omega, fun _ => shlAt (by omega) ⟨fun h => by omega, fun _ => ⟨fun h => ⟨fun h2 => ?_, fun _ => ⟨fun h3 => ⟨fun h4 => ?_, fun _ => fin⟩, fun _ => fin⟩⟩, fun h => ⟨fun h3 => ⟨fun h4 => ?_, fun _ => fin⟩, fun _ => fin⟩⟩⟩⟩⟩⟩⟩⟩
  · have := mono2 (by omega) hy; omega
  · have hkl : k = l := by omega
    subst hkl
    have : ((x : Int) == y) = false := by simp; omega
    rw [this]; exact fin
  · have hkl : k = l := by omega
    subst hkl
    have : ((x : Int) == y) = false := by simp; omega
    rw [this]; exact fin
end Go.Zt
