/- Layer 1: the program's writers' calls; the document's writers. -/
import Derived.Test.YtgepgbblmodagaaZkI
set_option linter.unusedSimpArgs false
set_option linter.unusedVariables false
set_option maxRecDepth 20000
namespace Go.Zt
open Go Go.Sim Go.Proofs Go.RowKit

/-! ### How many bits a number has -/
def blen (n : Nat) : Nat := if n = 0 then 0 else Nat.log2 n + 1
theorem blen_le {n k : Nat} : blen n ≤ k ↔ n < 2 ^ k := by
  unfold blen
  by_cases h : n = 0
  · subst h; simp [Nat.two_pow_pos]
  · rw [if_neg h, Nat.succ_le_iff, Nat.log2_lt h]
theorem blen_shift {n k : Nat} (h : 2 ^ k ≤ n) : blen n = k + blen (n / 2 ^ k) := by
  apply Nat.le_antisymm
  · rw [blen_le, Nat.pow_add, Nat.mul_comm]
    have h1 : n / 2 ^ k < 2 ^ blen (n / 2 ^ k) := blen_le.1 (Nat.le_refl _)
    exact (Nat.div_lt_iff_lt_mul (Nat.two_pow_pos k)).1 h1
  · have h0 : 1 ≤ n / 2 ^ k := (Nat.le_div_iff_mul_le (Nat.two_pow_pos k)).2 (by omega)
    have h1 : n < 2 ^ blen n := blen_le.1 (Nat.le_refl _)
    have hk : k ≤ blen n := by
      rcases Nat.lt_or_ge (blen n) k with h2 | h2
      · have : 2 ^ blen n ≤ 2 ^ k := Nat.pow_le_pow_right (by decide) (by omega)
        omega
      · exact h2
    have h2 : blen (n / 2 ^ k) ≤ blen n - k := by
      rw [blen_le]
      have e : 2 ^ blen n = 2 ^ (blen n - k) * 2 ^ k := by rw [← Nat.pow_add]; congr 1; omega
      rw [e] at h1
      exact (Nat.div_lt_iff_lt_mul (Nat.two_pow_pos k)).2 h1
    omega
noncomputable def okTab (x : Nat) : Bool := match strV Try.prog 9 (.string str0) (.int .u8 (x : Int)) with | some (.int .u8 y) => y == (blen x : Nat) | _ => false
theorem tab_all : (List.range 256).all okTab = true := by kernel_rfl
theorem tab {x : Nat} {z : Int} (hz : z = (x : Int)) (h : x < 256) : strV Try.prog 9 (.string str0) (.int .u8 z) = some (.int .u8 (blen x : Nat)) := by
  subst hz
  have := List.all_eq_true.1 tab_all x (List.mem_range.2 h)
  unfold okTab at this
  split at this
  · rename_i y hy; rw [hy, eq_of_beq this]
  · cases this
theorem blen8 {x : Nat} (h : x < 256) : blen x ≤ 8 := blen_le.2 (by simpa using h)
theorem c47 {M : Mem} {x : Nat} {z : Int} (hz : z = (x : Int)) (h : x < 4294967296) : Cn Try.prog 47 #[.int .u32 z] M fun v N => v = .int .i64 (blen x : Nat) ∧ N = M := by
  subst hz
  have f16 : ((x : Int)).fdiv (2 ^ 16) = ((x / 65536 : Nat) : Int) := fdivN x 65536
  have f8 : ((x : Int)).fdiv (2 ^ 8) = ((x / 256 : Nat) : Int) := fdivN x 256
  have f24 : (((x / 65536 : Nat) : Int)).fdiv (2 ^ 8) = ((x / 65536 / 256 : Nat) : Int) := fdivN (x / 65536) 256
  refine w47_0 ?_
  rw [f16, f8, f24]
  refine ⟨fun h1 => ⟨fun h2 => ?_, fun h2 => ?_⟩, fun h1 => ⟨fun h2 => ?_, fun h2 => ?_⟩⟩
  · have hb := blen8 (x := x / 65536 / 256) (by omega)
    refine ⟨_, tab (x := x / 65536 / 256) (u8w (by omega)) (by omega), _, rfl, ?_, rfl⟩
    rw [i64w (x := ((blen (x / 65536 / 256) : Nat) : Int)) (by omega), i64w (x := 16 + 8) (by decide), i64w (by omega), blen_shift (n := x) (k := 16) (by omega), blen_shift (n := x / 2 ^ 16) (k := 8) (by simp; omega)]
    simp only [Nat.reducePow]; congr 1 <;> omega
  · have hb := blen8 (x := x / 65536) (by omega)
    refine ⟨_, tab (x := x / 65536) (u8w (by omega)) (by omega), _, rfl, ?_, rfl⟩
    rw [i64w (x := ((blen (x / 65536) : Nat) : Int)) (by omega), i64w (by omega), blen_shift (n := x) (k := 16) (by omega)]
    simp only [Nat.reducePow]; congr 1 <;> omega
  · have hb := blen8 (x := x / 256) (by omega)
    refine ⟨_, tab (x := x / 256) (u8w (by omega)) (by omega), _, rfl, ?_, rfl⟩
    rw [i64w (x := ((blen (x / 256) : Nat) : Int)) (by omega), i64w (x := 0 + 8) (by decide), i64w (by omega), blen_shift (n := x) (k := 8) (by omega)]
    simp only [Nat.reducePow]; congr 1 <;> omega
  · have hb := blen8 (x := x) (by omega)
    refine ⟨_, tab (x := x) (u8w (by omega)) (by omega), _, rfl, ?_, rfl⟩
    rw [i64w (x := ((blen x : Nat) : Int)) (by omega), i64w (by omega)]
    congr 1; omega
/-! ### What a writer's calls do: the error, the bits -/
def wFixed (w : List Nat) (v : Nat) (n : Int) : Nat × List Nat :=
  if n < 0 ∨ n > 32 ∨ v ≥ 2 ^ n.toNat then (2, w) else (0, w ++ bitsN v n.toNat)
section
variable {S : Nat → Prop} {j : Nat} {M : Mem} {w : List Nat}
def WrR (S : Nat → Prop) (M : Mem) (j : Nat) (r : Nat × List Nat) : Value → Mem → Prop := fun u N => u = .int .i64 (r.1 : Nat) ∧ Chg (fun i => S i ∨ i = j) M N ∧ Wr S N j r.2
theorem c22 (hf : Fl S M j) (h : Wr S M j w) {v : Nat} {y : Int} (hy : y = (v : Int)) (hv : v < 4294967296) (n : Int) (hl : w.length ≤ 80000000000) :
    Cn Try.prog 22 #[PtrB j, .int .u32 y, .int .i64 n] M (WrR S M j (wFixed w v n)) := by
  subst hy
  have bad : wFixed w v n = (2, w) → A22_1 (some ⟨2 * j, 0, none⟩) v n true M (WrR S M j (wFixed w v n)) := fun e => by
    rw [e]; exact w22_1 ⟨fun _ => ⟨rfl, .refl _, h⟩, fun h => (by cases h)⟩
  refine w22_0 (Cn.eq h.there ⟨_, rfl, fun h => absurd h (by simp), fun _ => ⟨fun h1 => bad (by unfold wFixed; rw [if_pos (by omega)]), fun h1 => ⟨fun h2 => bad (by unfold wFixed; rw [if_pos (by omega)]), fun h2 => Cn.eq (c47 rfl hv) ⟨_, rfl, ?_⟩⟩⟩⟩)
  have hb := blen_le (n := v) (k := n.toNat)
  by_cases hc : ((blen v : Nat) : Int) > n
  · rw [decide_eq_true hc]
    exact bad (by unfold wFixed; rw [if_pos (.inr (.inr (by
      rcases Nat.lt_or_ge v (2 ^ n.toNat) with h3 | h3
      · have := hb.2 h3; omega
      · exact h3)))])
  · rw [decide_eq_false hc]
    have hlt : v < 2 ^ n.toNat := hb.1 (by omega)
    have e : wFixed w v n = (0, w ++ bitsN v n.toNat) := by unfold wFixed; rw [if_neg (by omega)]
    refine w22_1 ⟨fun h => (by cases h), fun _ => Cn.mono (c48 hf h (v := v) (n := n.toNat) (u64w (by omega)) (by omega) (by omega) (by omega) (by omega)) ?_⟩
    rintro u N ⟨_, hC, hW⟩
    rw [e]; exact ⟨rfl, hC, hW⟩
theorem c19 {M : Mem} : Cn Try.prog 19 #[] M fun v N => v = PtrB M.nb.size ∧ Keep M N ∧ N.nb.size = M.nb.size + 1 ∧ Wr (fun _ => False) N M.nb.size [] :=
  w19_0 ⟨rfl, .new _ _, Mem.new_size _ _, ⟨fun h => h, fun x h => (by cases h), by decide, none, 0, Mem.new_at _ _, .inl ⟨rfl, rfl, rfl⟩, Nat.le_refl _⟩⟩
theorem c28 (h : Wr S M j w) (hf : M.floor ≤ M.nb.size) : Cn Try.prog 28 #[PtrB j] M fun v N => ∃ A' c', v = .slice A' (pack w).length c' ∧ Keep M N ∧ Own (fun i => M.nb.size ≤ i) N 5 A' c' (U8 (pack w)) ∧ (pack w).length ≤ c' := by
  obtain ⟨A, c, g1, g2, g3⟩ := h.ex
  have hl := h.len
  refine w28_0 (Cn.eq h.there ⟨_, rfl, fun h => absurd h (by simp), fun _ => ⟨_, rfl, _, sl_of g1 rfl, Cn.mono (c61' hf g2.row (n := (w.length + 7) / 8) (pack_len w) (by omega)) ?_⟩⟩)
  rintro v N ⟨A', c', rfl, hK, hO, hc⟩
  exact ⟨_, rfl, A', c', by rw [pack_len], hK, hO, by rw [pack_len]; exact hc⟩
end
end Go.Zt

