/- Layer 1: the program's writers' calls; the document's writers. -/
import Derived.Test.YtgepgbblmodagaaZkI
set_option linter.unusedSimpArgs false
set_option linter.unusedVariables false
set_option maxRecDepth 20000
namespace Go.Zt
open Go Go.Sim Go.Proofs Go.RowKit
def blen (n : Nat) : Nat := if n = 0 then 0 else Nat.log2 n + 1
theorem blen_le {n k : Nat} : blen n ≤ k ↔ n < 2 ^ k := by
  unfold blen
  by_cases h : n = 0
  · subst h; simp [Nat.two_pow_pos]
  · rw [if_neg h, Nat.succ_le_iff, Nat.log2_lt h]
theorem blen_shift {n k : Nat} (h : 2 ^ k ≤ n) : blen n = k + blen (n / 2 ^ k) := by
  apply Nat.le_antisymm
  · rw [blen_le, Nat.pow_add, Nat.mul_comm]
    have h1 : n / 2 ^ k < 2 ^ blen (n / 2 ^ k) := blen_le.1 (Nat.le_refl _)
    exact (Nat.div_lt_iff_lt_mul (Nat.two_pow_pos k)).1 h1
  · have h0 : 1 ≤ n / 2 ^ k := (Nat.le_div_iff_mul_le (Nat.two_pow_pos k)).2 (by omega)
    have h1 : n < 2 ^ blen n := blen_le.1 (Nat.le_refl _)
    have hk : k ≤ blen n := by
      rcases Nat.lt_or_ge (blen n) k with h2 | h2
      · have : 2 ^ blen n ≤ 2 ^ k := Nat.pow_le_pow_right (by decide) (by omega)
        omega
      · exact h2
    have h2 : blen (n / 2 ^ k) ≤ blen n - k := by
      rw [blen_le]
      have e : 2 ^ blen n = 2 ^ (blen n - k) * 2 ^ k := by rw [← Nat.pow_add]; congr 1; omega
      rw [e] at h1
      exact (Nat.div_lt_iff_lt_mul (Nat.two_pow_pos k)).2 h1
    omega
noncomputable def okTab (x : Nat) : Bool := match strV Try.prog 9 (.string str0) (.int .u8 (x : Int)) with | some (.int .u8 y) => y == (blen x : Nat) | _ => false
theorem tab_all : (List.range 256).all okTab = true := by kernel_rfl
theorem tab {x : Nat} {z : Int} (hz : z = (x : Int)) (h : x < 256) : strV Try.prog 9 (.string str0) (.int .u8 z) = some (.int .u8 (blen x : Nat)) := by
  subst hz
  have := List.all_eq_true.1 tab_all x (List.mem_range.2 h)
  unfold okTab at this
  split at this
  · rename_i y hy; rw [hy, eq_of_beq this]
  · cases this
theorem blen8 {x : Nat} (h : x < 256) : blen x ≤ 8 := blen_le.2 (by simpa using h)
theorem c47 {M : Mem} {x : Nat} {z : Int} (hz : z = (x : Int)) (h : x < 4294967296) : Cn Try.prog 47 #[.int .u32 z] M fun v N => v = .int .i64 (blen x : Nat) ∧ N = M := by
  subst hz
  have f16 : ((x : Int)).fdiv (2 ^ 16) = ((x / 65536 : Nat) : Int) := fdivN x 65536
  have f8 : ((x : Int)).fdiv (2 ^ 8) = ((x / 256 : Nat) : Int) := fdivN x 256
  have f24 : (((x / 65536 : Nat) : Int)).fdiv (2 ^ 8) = ((x / 65536 / 256 : Nat) : Int) := fdivN (x / 65536) 256
  refine w47_0 ?_
  rw [f16, f8, f24]
  refine ⟨fun h1 => ⟨fun h2 => ?_, fun h2 => ?_⟩, fun h1 => ⟨fun h2 => ?_, fun h2 => ?_⟩⟩
  · have hb := blen8 (x := x / 65536 / 256) (by omega)
    refine ⟨_, tab (x := x / 65536 / 256) (u8w (by omega)) (by omega), _, rfl, ?_, rfl⟩
    rw [i64w (x := ((blen (x / 65536 / 256) : Nat) : Int)) (by omega), i64w (x := 16 + 8) (by decide), i64w (by omega), blen_shift (n := x) (k := 16) (by omega), blen_shift (n := x / 2 ^ 16) (k := 8) (by simp; omega)]
    simp only [Nat.reducePow]; congr 1 <;> omega
  · have hb := blen8 (x := x / 65536) (by omega)
    refine ⟨_, tab (x := x / 65536) (u8w (by omega)) (by omega), _, rfl, ?_, rfl⟩
    rw [i64w (x := ((blen (x / 65536) : Nat) : Int)) (by omega), i64w (by omega), blen_shift (n := x) (k := 16) (by omega)]
    simp only [Nat.reducePow]; congr 1 <;> omega
  · have hb := blen8 (x := x / 256) (by omega)
    refine ⟨_, tab (x := x / 256) (u8w (by omega)) (by omega), _, rfl, ?_, rfl⟩
    rw [i64w (x := ((blen (x / 256) : Nat) : Int)) (by omega), i64w (x := 0 + 8) (by decide), i64w (by omega), blen_shift (n := x) (k := 8) (by omega)]
    simp only [Nat.reducePow]; congr 1 <;> omega
  · have hb := blen8 (x := x) (by omega)
    refine ⟨_, tab (x := x) (u8w (by omega)) (by omega), _, rfl, ?_, rfl⟩
    rw [i64w (x := ((blen x : Nat) : Int)) (by omega), i64w (by omega)]
    congr 1; omega
theorem c72 {M : Mem} {x : Nat} {z : Int} (hz : z = (x : Int)) (h : x < 4294967296) : Cn Try.prog 72 #[.int .u64 z] M fun v N => v = .int .i64 (blen x : Nat) ∧ N = M := by
  subst hz
  have f16 : ((x : Int)).fdiv (2 ^ 16) = ((x / 65536 : Nat) : Int) := fdivN x 65536
  have f8 : ((x : Int)).fdiv (2 ^ 8) = ((x / 256 : Nat) : Int) := fdivN x 256
  have f24 : (((x / 65536 : Nat) : Int)).fdiv (2 ^ 8) = ((x / 65536 / 256 : Nat) : Int) := fdivN (x / 65536) 256
  refine w72_0 ⟨fun h0 => absurd h0 (by omega), fun _ => ?_⟩
  rw [f16, f8, f24]
  refine ⟨fun h1 => ⟨fun h2 => ?_, fun h2 => ?_⟩, fun h1 => ⟨fun h2 => ?_, fun h2 => ?_⟩⟩
  · have hb := blen8 (x := x / 65536 / 256) (by omega)
    refine ⟨_, tab (x := x / 65536 / 256) (u8w (by omega)) (by omega), _, rfl, ?_, rfl⟩
    rw [i64w (x := ((blen (x / 65536 / 256) : Nat) : Int)) (by omega), i64w (x := 0 + 16) (by decide), i64w (x := 0 + 16 + 8) (by decide), i64w (by omega), blen_shift (n := x) (k := 16) (by omega), blen_shift (n := x / 2 ^ 16) (k := 8) (by simp; omega)]
    simp only [Nat.reducePow]; congr 1 <;> omega
  · have hb := blen8 (x := x / 65536) (by omega)
    refine ⟨_, tab (x := x / 65536) (u8w (by omega)) (by omega), _, rfl, ?_, rfl⟩
    rw [i64w (x := ((blen (x / 65536) : Nat) : Int)) (by omega), i64w (x := 0 + 16) (by decide), i64w (by omega), blen_shift (n := x) (k := 16) (by omega)]
    simp only [Nat.reducePow]; congr 1 <;> omega
  · have hb := blen8 (x := x / 256) (by omega)
    refine ⟨_, tab (x := x / 256) (u8w (by omega)) (by omega), _, rfl, ?_, rfl⟩
    rw [i64w (x := ((blen (x / 256) : Nat) : Int)) (by omega), i64w (x := 0 + 8) (by decide), i64w (by omega), blen_shift (n := x) (k := 8) (by omega)]
    simp only [Nat.reducePow]; congr 1 <;> omega
  · have hb := blen8 (x := x) (by omega)
    refine ⟨_, tab (x := x) (u8w (by omega)) (by omega), _, rfl, ?_, rfl⟩
    rw [i64w (x := ((blen x : Nat) : Int)) (by omega), i64w (by omega)]
    congr 1; omega
def wFixed (w : List Nat) (v : Nat) (n : Int) : Nat × List Nat :=
  if n < 0 ∨ n > 32 ∨ v ≥ 2 ^ n.toNat then (2, w) else (0, w ++ bitsN v n.toNat)
def wSigned (w : List Nat) (v n : Int) : Nat × List Nat :=
  if n < 1 ∨ n > 31 ∨ v.natAbs ≥ 2 ^ n.toNat then (2, w) else (0, w ++ (if v < 0 then 1 else 0) :: bitsN v.natAbs n.toNat)
theorem bitsN_mod (v : Nat) : ∀ {n k : Nat}, n ≤ k → bitsN (v % 2 ^ k) n = bitsN v n
  | 0, _, _ => rfl
  | n + 1, k, h => by
    rw [bitsN, bitsN, bitsN_mod v (by omega)]
    congr 1
    rw [show k = n + (k - n - 1 + 1) by omega, Nat.pow_add, Nat.mod_mul_right_div_self, Nat.pow_succ, Nat.mul_comm, Nat.mod_mul_right_mod]
section
variable {S : Nat → Prop} {j : Nat} {M : Mem} {w : List Nat}
def WrR (S : Nat → Prop) (M : Mem) (j : Nat) (r : Nat × List Nat) : Value → Mem → Prop := fun u N => u = .int .i64 (r.1 : Nat) ∧ Chg (fun i => S i ∨ i = j) M N ∧ Wr S N j r.2
theorem c22 (hf : Fl S M j) (h : Wr S M j w) {v : Nat} {y : Int} (hy : y = (v : Int)) (hv : v < 4294967296) (n : Int) (hl : w.length ≤ 80000000000) :
    Cn Try.prog 22 #[PtrB j, .int .u32 y, .int .i64 n] M (WrR S M j (wFixed w v n)) := by
  subst hy
  have bad : wFixed w v n = (2, w) → A22_1 (some ⟨2 * j, 0, none⟩) v n true M (WrR S M j (wFixed w v n)) := fun e => by
    rw [e]; exact w22_1 ⟨fun _ => ⟨rfl, .refl _, h⟩, fun h => (by cases h)⟩
  refine w22_0 (Cn.eq h.there ⟨_, rfl, fun h => absurd h (by simp), fun _ => ⟨fun h1 => bad (by unfold wFixed; rw [if_pos (by omega)]), fun h1 => ⟨fun h2 => bad (by unfold wFixed; rw [if_pos (by omega)]), fun h2 => Cn.eq (c47 rfl hv) ⟨_, rfl, ?_⟩⟩⟩⟩)
  have hb := blen_le (n := v) (k := n.toNat)
  by_cases hc : ((blen v : Nat) : Int) > n
  · rw [decide_eq_true hc]
    exact bad (by unfold wFixed; rw [if_pos (.inr (.inr (by
      rcases Nat.lt_or_ge v (2 ^ n.toNat) with h3 | h3
      · have := hb.2 h3; omega
      · exact h3)))])
  · rw [decide_eq_false hc]
    have hlt : v < 2 ^ n.toNat := hb.1 (by omega)
    have e : wFixed w v n = (0, w ++ bitsN v n.toNat) := by unfold wFixed; rw [if_neg (by omega)]
    refine w22_1 ⟨fun h => (by cases h), fun _ => Cn.mono (c48 hf h (v := v) (n := n.toNat) (u64w (by omega)) (by omega) (by omega) (by omega) (by omega)) ?_⟩
    rintro u N ⟨_, hC, hW⟩
    rw [e]; exact ⟨rfl, hC, hW⟩
theorem c43 (hf : Fl S M j) (h : Wr S M j w) {v : Int} (hv : -2147483648 ≤ v ∧ v ≤ 2147483647) (n : Int) (hl : w.length ≤ 80000000000) :
    Cn Try.prog 43 #[PtrB j, .int .i32 v, .int .i64 n] M (WrR S M j (wSigned w v n)) := by
  have key : ∀ (s : Nat) (y : Int), y = (v.natAbs : Nat) → s = (if v < 0 then 1 else 0) → ∀ b : Bool, (b = true ↔ (n < 1 ∨ n > 31 ∨ v.natAbs ≥ 2 ^ n.toNat)) → A43_1 (some ⟨2 * j, 0, none⟩) n y s b M (WrR S M j (wSigned w v n)) := by
    intro s y hy hs b hb
    subst hy
    refine w43_1 ⟨fun h1 => ?_, fun h1 => ?_⟩
    · have e : wSigned w v n = (2, w) := by unfold wSigned; rw [if_pos (hb.1 h1)]
      rw [e]; exact ⟨rfl, .refl _, h⟩
    · have hno : ¬ (n < 1 ∨ n > 31 ∨ v.natAbs ≥ 2 ^ n.toNat) := fun hh => by rw [hb.2 hh] at h1; cases h1
      have e : wSigned w v n = (0, w ++ (if v < 0 then 1 else 0) :: bitsN v.natAbs n.toNat) := by unfold wSigned; rw [if_neg hno]
      have hs1 : s < 2 := by rw [hs]; split <;> decide
      have hp := Nat.two_pow_pos n.toNat
      have hp31 := pow31 (n := n.toNat) (by omega)
      have hsn : s * 2 ^ n.toNat ≤ 2147483648 := by
        have : s = 0 ∨ s = 1 := by omega
        rcases this with h | h <;> rw [h] <;> omega
      refine ⟨_, shl_nat (k := .u64) (x := s) (q := n.toNat) rfl (by omega) (show _ < 2 ^ 64 by omega) (show n.toNat ≤ 64 by omega), _, rfl, ?_⟩
      rw [or_nat (k := .u64) rfl (show _ < 2 ^ 64 by omega) (show v.natAbs < 2 ^ 64 by omega), or_add (k := n.toNat) ⟨s, Nat.mul_comm _ _⟩ (by omega)]
      refine Cn.mono (c48 hf h (v := s * 2 ^ n.toNat + v.natAbs) (n := n.toNat + 1) rfl (by rw [i64w (by omega)]; omega) (by omega) (by omega) (by omega)) ?_
      rintro u N ⟨_, hC, hW⟩
      rw [e]
      refine ⟨rfl, hC, ?_⟩
      have e2 : bitsN (s * 2 ^ n.toNat + v.natAbs) (n.toNat + 1) = (if v < 0 then 1 else 0) :: bitsN v.natAbs n.toNat := by
        rw [bitsN]
        congr 1
        · rw [Nat.mul_comm, Nat.mul_add_div hp, Nat.div_eq_of_lt (by omega), Nat.add_zero, Nat.mod_eq_of_lt hs1, hs]
        · rw [← bitsN_mod (s * 2 ^ n.toNat + v.natAbs) (Nat.le_refl n.toNat), Nat.mul_comm, Nat.mul_add_mod, Nat.mod_eq_of_lt (by omega)]
      rw [e2] at hW; exact hW
  have hb := blen_le (n := v.natAbs) (k := n.toNat)
  have hdec : ¬ n < 1 → ¬ n > 31 → (decide (((blen v.natAbs : Nat) : Int) > n) = true ↔ (n < 1 ∨ n > 31 ∨ v.natAbs ≥ 2 ^ n.toNat)) := by
    intro h1 h2
    rw [decide_eq_true_eq]
    constructor
    · intro h3
      rcases Nat.lt_or_ge v.natAbs (2 ^ n.toNat) with h4 | h4
      · have := hb.2 h4; omega
      · exact .inr (.inr h4)
    · rintro (h3 | h3 | h3)
      · omega
      · omega
      · rcases Nat.lt_or_ge n.toNat (blen v.natAbs) with h4 | h4
        · omega
        · have := hb.1 h4; omega
  have hvi : IntKind.i64.wrap v = v := i64w (by omega)
  refine w43_0 (Cn.eq h.there ⟨_, rfl, fun h => absurd h (by simp), fun _ => ⟨fun h0 => ?_, fun h0 => ?_⟩⟩)
  · rw [hvi, i64w (x := 0 - v) (by omega)]
    have ey : IntKind.u64.wrap (0 - v) = ((v.natAbs : Nat) : Int) := by rw [u64w (by omega)]; omega
    rw [ey]
    have es : (1 : Nat) = if v < 0 then 1 else 0 := by rw [if_pos h0]
    refine ⟨fun h1 => key 1 _ rfl es true (by simp; omega), fun h1 => ⟨fun h2 => key 1 _ rfl es true (by simp; omega), fun h2 => Cn.eq (c72 (x := v.natAbs) rfl (by omega)) ⟨_, rfl, key 1 _ rfl es _ (hdec h1 h2)⟩⟩⟩
  · have ey : IntKind.u64.wrap v = ((v.natAbs : Nat) : Int) := by rw [u64w (by omega)]; omega
    rw [ey]
    have es : (0 : Nat) = if v < 0 then 1 else 0 := by rw [if_neg h0]
    refine ⟨fun h1 => key 0 _ rfl es true (by simp; omega), fun h1 => ⟨fun h2 => key 0 _ rfl es true (by simp; omega), fun h2 => Cn.eq (c72 (x := v.natAbs) rfl (by omega)) ⟨_, rfl, key 0 _ rfl es _ (hdec h1 h2)⟩⟩⟩
theorem c19 {M : Mem} : Cn Try.prog 19 #[] M fun v N => v = PtrB M.nb.size ∧ Keep M N ∧ N.nb.size = M.nb.size + 1 ∧ Wr (fun _ => False) N M.nb.size [] :=
  w19_0 ⟨rfl, .new _ _, Mem.new_size _ _, ⟨fun h => h, fun x h => (by cases h), by decide, none, 0, Mem.new_at _ _, .inl ⟨rfl, rfl, rfl⟩, Nat.le_refl _⟩⟩
theorem c28 (h : Wr S M j w) (hf : M.floor ≤ M.nb.size) : Cn Try.prog 28 #[PtrB j] M fun v N => ∃ A' c', v = .slice A' (pack w).length c' ∧ Keep M N ∧ Own (fun i => M.nb.size ≤ i) N 5 A' c' (U8 (pack w)) ∧ (pack w).length ≤ c' := by
  obtain ⟨A, c, g1, g2, g3⟩ := h.ex
  have hl := h.len
  refine w28_0 (Cn.eq h.there ⟨_, rfl, fun h => absurd h (by simp), fun _ => ⟨_, rfl, _, sl_of g1 rfl, Cn.mono (c61' hf g2.row (n := (w.length + 7) / 8) (pack_len w) (by omega)) ?_⟩⟩)
  rintro v N ⟨A', c', rfl, hK, hO, hc⟩
  exact ⟨_, rfl, A', c', by rw [pack_len], hK, hO, by rw [pack_len]; exact hc⟩
end
end Go.Zt
