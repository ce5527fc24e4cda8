/- What the functions of layer 10 that give a class come to. -/
import Derived.Test.YtfhlpnpghaombaaZtB
set_option linter.unusedSimpArgs false
set_option linter.unusedVariables false
namespace Go.Zt
open Go Go.Sim Go.Proofs Go.RowKit

/-- How many bits a small number has. -/
def blen (x : Nat) : Nat := if x = 0 then 0 else Nat.log2 x + 1
theorem blen_256' : (List.range 1024).all (fun x => decide (256 ≤ x → blen x = blen (x / 256) + 8)) = true := by kernel_rfl
theorem blen_256 (x : Nat) (h : 256 ≤ x) (h2 : x < 1024) : blen x = blen (x / 256) + 8 :=
  of_decide_eq_true (List.all_eq_true.1 blen_256' x (by simpa using h2)) h
theorem blen_pow (k x : Nat) (h1 : 2 ^ k ≤ x) (h2 : x < 2 ^ (k + 1)) : blen x = k + 1 := by
  have h0 : x ≠ 0 := by have := Nat.two_pow_pos k; omega
  have a := (Nat.le_log2 h0).2 h1
  have b := (Nat.log2_lt h0).2 h2
  rw [blen, if_neg h0]; omega
theorem table : (List.range 256).all (fun x => decide ((strV Try.prog 9 (.string str0) (.int .u8 x)).bind (asI .u8) = some (blen x : Int))) = true := by kernel_rfl
theorem tableAt {x : Nat} (h : x < 256) {C : Int → Prop} (hC : C (blen x)) : ∃ v, strV Try.prog 9 (.string str0) (.int .u8 x) = some v ∧ ∃ y, asI .u8 v = some y ∧ C y := by
  have := of_decide_eq_true (List.all_eq_true.1 table x (by simpa using h))
  obtain ⟨v, h1, h2⟩ := Option.bind_eq_some_iff.1 this
  exact ⟨v, h1, _, h2, hC⟩
theorem wr8 (x : Int) (h : 0 ≤ x ∧ x ≤ 255) : IntKind.u8.wrap x = x := by rw [IntKind.wrap_u8]; omega
theorem blen_le (x : Nat) (h : x < 1024) : blen x ≤ 10 := by
  unfold blen
  by_cases h0 : x = 0
  · rw [if_pos h0]; omega
  · have := (Nat.log2_lt (k := 10) h0).2 (by simpa using h)
    rw [if_neg h0]; omega
theorem c28 (x : Nat) (h : x < 1024) (M : Mem) : Cn Try.prog 28 #[.int .u64 x] M fun v N => v = .int .i64 (blen x) ∧ N = M := by
  refine w28_0 ⟨fun h1 => by omega, fun _ => ⟨fun h1 => by omega, fun _ => ⟨fun h1 => ?_, fun h1 => ?_⟩⟩⟩
  · have e : (x : Int).fdiv (2 ^ 8) = ((x / 256 : Nat) : Int) := by
      rw [Int.fdiv_eq_ediv_of_nonneg _ (by decide)]; simp
    rw [e, wr8 _ (by omega)]
    refine tableAt (by omega) ⟨?_, rfl⟩
    have := blen_le (x / 256) (by omega)
    rw [wr (0 + 8) (by omega), wr (blen (x / 256) : Int) (by omega), wr _ (by omega), blen_256 x (by omega) h]
    congr 1; omega
  · rw [wr8 _ (by omega)]
    refine tableAt (by omega) ⟨?_, rfl⟩
    have := blen_le x h
    rw [wr (blen x : Int) (by omega), wr _ (by omega)]
    congr 1; omega
theorem c23 (x : Nat) (h : x < 1024) (M : Mem) : Cn Try.prog 23 #[.int .u64 x] M fun v N => v = .int .i64 (blen x) ∧ N = M := by
  refine w23_0 (Cn.mono (c28 x h M) ?_)
  rintro v N ⟨rfl, rfl⟩
  exact ⟨_, rfl, rfl, rfl⟩

/-- How an end is coded. -/
def cls (x : Int) : Int × Int × Int × Int :=
  if x < 1 ∨ x > 1024 then (0, 0, 0, 2) else if x = 1 then (0, 0, 0, 0)
  else ((blen (x - 1).toNat : Int), (blen (x - 1).toNat : Int) - 1, x - 2 ^ (blen (x - 1).toNat - 1) - 1, 0)
def clsV (x : Int) : Value := .tuple #[.int .i64 (cls x).1, .int .i64 (cls x).2.1, .int .i64 (cls x).2.2.1, .int .i64 (cls x).2.2.2]
theorem shl1 : (List.range 10).all (fun j => decide ((binV Try.prog .shl 3 3 (.int .i64 1) (.int .i64 j)).bind (asI .i64) = some ((2 : Int) ^ j))) = true := by kernel_rfl
theorem shlAt {j : Nat} (h : j < 10) {C : Int → Prop} (hC : C (2 ^ j)) : ∃ v, binV Try.prog .shl 3 3 (.int .i64 1) (.int .i64 j) = some v ∧ ∃ y, asI .i64 v = some y ∧ C y := by
  have := of_decide_eq_true (List.all_eq_true.1 shl1 j (by simpa using h))
  obtain ⟨v, h1, h2⟩ := Option.bind_eq_some_iff.1 this
  exact ⟨v, h1, _, h2, hC⟩
theorem wru (x : Int) (h : 0 ≤ x ∧ x ≤ 18446744073709551615) : IntKind.u64.wrap x = x := by simp only [IntKind.wrap, IntKind.bits, IntKind.signed, Bool.false_and, Bool.false_eq_true, if_false]; omega
theorem pow_le (k : Nat) (h : k ≤ 10) : (1 : Int) ≤ 2 ^ k ∧ (2 : Int) ^ k ≤ 1024 := by
  match k, h with
  | 0, _ | 1, _ | 2, _ | 3, _ | 4, _ | 5, _ | 6, _ | 7, _ | 8, _ | 9, _ | 10, _ => decide
theorem blen_pos (x : Nat) (h : 1 ≤ x) (h2 : x < 1024) : 1 ≤ blen x ∧ blen x ≤ 10 :=
  ⟨by rw [blen, if_neg (by omega)]; omega, blen_le x h2⟩
theorem c12 (x : Int) (M : Mem) : Cn Try.prog 12 #[.int .i64 x] M fun v N => v = clsV x ∧ N = M := by
  have key : ∀ b : Bool, (b = true ↔ (x < 1 ∨ x > 1024)) → A12_1 x b M fun v N => v = clsV x ∧ N = M := by
    intro b hb
    refine w12_1 ⟨fun h => ?_, fun h => ⟨fun h1 => ?_, fun h1 => ?_⟩⟩
    · have := hb.1 h
      exact ⟨by simp only [clsV, cls, if_pos this], rfl⟩
    · subst h1; exact ⟨by simp [clsV, cls], rfl⟩
    · have h2 : ¬ (x < 1 ∨ x > 1024) := fun hh => by rw [hb.2 hh] at h; cases h
      obtain ⟨n, hn⟩ : ∃ n : Nat, x - 1 = n := ⟨(x - 1).toNat, by omega⟩
      rw [wr (x - 1) (by omega), hn, wru _ (by omega)]
      refine Cn.mono (c23 n (by omega) M) ?_
      rintro v N ⟨rfl, rfl⟩
      have hp := blen_pos n (by omega) (by omega)
      have hpow := pow_le (blen n - 1) (by omega)
      refine ⟨_, rfl, ?_⟩
      rw [wr ((blen n : Int) - 1) (by omega), show (blen n : Int) - 1 = ((blen n - 1 : Nat) : Int) by omega]
      refine shlAt (by omega) ⟨?_, rfl⟩
      rw [wr (x - 2 ^ (blen n - 1)) (by omega), wr _ (by omega)]
      simp only [clsV, cls, if_neg h2, if_neg h1, hn, Int.toNat_natCast]
      rw [show (blen n : Int) - 1 = ((blen n - 1 : Nat) : Int) by omega]
  refine w12_0 ⟨fun h => key true (by simp [h]), fun h => key _ (by simp; omega)⟩
theorem c13_loop (x : Int) (M : Mem) (hx : 1 < x ∧ x ≤ 1024) {Q : Value → Mem → Prop} (hQ : Q (clsV x) M) : ∀ (d k : Nat), k + d = 9 → 2 ^ k < x → A13_2 x ((k + 1 : Nat) : Int) (2 ^ k + 1) M Q
  | d, k, hk, hl => by
    have hp := pow_le k (by omega)
    have hp2 := pow_le (k + 1) (by omega)
    have e2 : (2 : Int) ^ (k + 1) = 2 * 2 ^ k := by rw [Int.pow_succ]; omega
    refine w13_2 ⟨fun h => ?_, fun h => ?_⟩
    · rw [wr (2 ^ k + 1 - 1) (by omega), wr _ (by omega)] at h
      rw [wr (2 ^ k + 1 - 1) (by omega), wr (2 * (2 ^ k + 1 - 1)) (by omega), wr _ (by omega), wr _ (by omega)]
      match d with
      | 0 =>
        have : k = 9 := by omega
        subst this; omega
      | d + 1 =>
        have := c13_loop x M hx hQ d (k + 1) (by omega) (by omega)
        rw [e2] at this
        rw [show (((k + 1 : Nat) : Int) + 1) = ((k + 1 + 1 : Nat) : Int) by omega, show (2 : Int) * (2 ^ k + 1 - 1) + 1 = 2 * 2 ^ k + 1 by omega]
        exact this
    · rw [wr (2 ^ k + 1 - 1) (by omega), wr _ (by omega)] at h
      rw [wr _ (by omega), wr _ (by omega)]
      obtain ⟨n, hn⟩ : ∃ n : Nat, x - 1 = n := ⟨(x - 1).toNat, by omega⟩
      have hb : blen n = k + 1 := by
        have q : ((2 ^ k : Nat) : Int) = 2 ^ k := by norm_cast
        have q2 : ((2 ^ (k + 1) : Nat) : Int) = 2 ^ (k + 1) := by norm_cast
        exact blen_pow k n (by omega) (by omega)
      have e : clsV x = .tuple #[.int .i64 ((k + 1 : Nat) : Int), .int .i64 (((k + 1 : Nat) : Int) - 1), .int .i64 (x - (2 ^ k + 1)), .int .i64 0] := by
        simp only [clsV, cls]
        rw [if_neg (by omega), if_neg (by omega)]
        simp only [hn, Int.toNat_natCast, hb, Nat.add_sub_cancel]
        rw [show x - (2 ^ k + 1) = x - 2 ^ k - 1 by omega]
      rw [← e]; exact hQ
theorem c13 (x : Int) (M : Mem) : Cn Try.prog 13 #[.int .i64 x] M fun v N => v = clsV x ∧ N = M := by
  have key : ∀ b : Bool, (b = true ↔ (x < 1 ∨ x > 1024)) → A13_1 x b M fun v N => v = clsV x ∧ N = M := by
    intro b hb
    refine w13_1 ⟨fun h => ?_, fun h => ⟨fun h1 => ?_, fun h1 => ?_⟩⟩
    · have := hb.1 h
      exact ⟨by simp only [clsV, cls, if_pos this], rfl⟩
    · subst h1; exact ⟨by simp [clsV, cls], rfl⟩
    · have h2 : ¬ (x < 1 ∨ x > 1024) := fun hh => by rw [hb.2 hh] at h; cases h
      exact c13_loop x M (by omega) ⟨rfl, rfl⟩ 9 0 (by omega) (by omega)
  refine w13_0 ⟨fun h => key true (by simp [h]), fun h => key _ (by simp; omega)⟩
end Go.Zt
