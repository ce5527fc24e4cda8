/- Layer 8: Inverse of the program. -/
import Derived.Test.YtpfhalehdgcbeaaZgY
import Derived.Test.YtpfhalehdgcbeaaZgDc
set_option linter.unusedSimpArgs false
set_option linter.unusedVariables false
namespace Go.Zt
open Go Go.Sim Go.Proofs Go.RowKit

/-! ### A map of numbers -/
def esOf (l : List (Int × Value)) : List MapEntry := l.zipIdx.map fun p => { key := .int .i64 p.1.1, val := p.1.2, born := p.2 }
theorem esOf_push (l : List (Int × Value)) (k : Int) (x : Value) : (esOf l).toArray.push { key := .int .i64 k, val := x, born := l.length } = (esOf (l ++ [(k, x)])).toArray := by
  simp [esOf, List.zipIdx_append]
theorem esOf_keys (l : List (Int × Value)) : IntKeys .i64 (esOf l) := by
  intro e he
  obtain ⟨p, _, rfl⟩ := List.mem_map.1 he
  rfl
theorem mput {P : Program} {t kt e : TypeId} (hu : P.underlying t = some (.map kt e)) (hk : P.underlying kt = some (.int .i64)) {M : Mem} {j : Nat} {l : List (Int × Value)} {k : Int} {x : Value}
    (hb : M.nb[j]? = some (.map (esOf l).toArray l.length)) (hf : M.floor ≤ j) (hx : closed x = true) (hn : findI k (esOf l) 0 = none) :
    ∃ N, mapPutV P t (.map (some (2 * j))) (.int .i64 k) x M = some (undef, N) ∧ Chg (· = j) M N ∧ N.nb[j]? = some (.map (esOf (l ++ [(k, x)])).toArray (l ++ [(k, x)]).length) := by
  have h := mapPut_int hu hk hb hf hx (by simpa using esOf_keys l) (by simpa using hn)
  refine ⟨_, h, upd_chg rfl, ?_⟩
  rw [upd_at (lt_of_at hb), esOf_push, List.length_append]; rfl
/-! ### What is asked may be -/
theorem ask_0 {n typ : Int} {x : List Int} {s b : Int} (h : askS n typ x s b = 0) : (n = 4 ∨ n = 8 ∨ n = 16 ∨ n = 32 ∨ n = 64) ∧ typ ∈ typesS n ∧ (x.length : Int) = IntKind.i64.wrap (s * s) ∧ inB b x = true := by
  unfold askS at h
  split at h
  · cases h
  rename_i h0
  split at h
  · cases h
  rename_i h1
  split at h
  · cases h
  rename_i h2
  split at h
  case isFalse => cases h
  rename_i h3
  refine ⟨?_, by simpa [List.contains_iff_mem] using h1, by simpa using h2, h3⟩
  apply Decidable.byContradiction
  intro hh
  apply h0
  unfold typesS
  rw [if_neg (by omega), if_neg (by omega), if_neg (by omega), if_neg (by omega)]; rfl
theorem ks4 : ∀ typ ∈ upto 10, lenB (kindsS typ).1 4 = true ∧ lenB (kindsS typ).2 4 = true ∧ (typ = 9 → kindsS typ = (3, 3)) := by decide +kernel
theorem ks8 : ∀ typ ∈ upto 9, lenB (kindsS typ).1 8 = true ∧ lenB (kindsS typ).2 8 = true ∧ typ ≠ 9 := by decide +kernel
theorem ks16 : ∀ typ ∈ upto 9, lenB (kindsS typ).1 16 = true ∧ lenB (kindsS typ).2 16 = true ∧ typ ≠ 9 := by decide +kernel
theorem ks32 : ∀ typ ∈ ([0, 8] : List Int), lenB (kindsS typ).1 32 = true ∧ lenB (kindsS typ).2 32 = true ∧ typ ≠ 9 := by decide +kernel
theorem ks64 : ∀ typ ∈ ([0] : List Int), lenB (kindsS typ).1 64 = true ∧ lenB (kindsS typ).2 64 = true ∧ typ ≠ 9 := by decide +kernel
/-- A size and a kind that go together. -/
structure Szt (n : Nat) (typ : Int) : Prop where
  sz : n = 4 ∨ n = 8 ∨ n = 16 ∨ n = 32 ∨ n = 64
  k1 : lenB (kindsS typ).1 n = true
  k2 : lenB (kindsS typ).2 n = true
  wht : typ = 9 → n = 4 ∧ kindsS typ = (3, 3)
theorem szt_of {n typ : Int} (hn : n = 4 ∨ n = 8 ∨ n = 16 ∨ n = 32 ∨ n = 64) (h : typ ∈ typesS n) : Szt n.toNat typ ∧ n = (n.toNat : Nat) := by
  rcases hn with rfl | rfl | rfl | rfl | rfl
  · have := ks4 typ h; exact ⟨⟨.inl rfl, this.1, this.2.1, fun h => ⟨rfl, this.2.2 h⟩⟩, rfl⟩
  · have := ks8 typ h; exact ⟨⟨.inr (.inl rfl), this.1, this.2.1, fun h => absurd h this.2.2⟩, rfl⟩
  · have := ks16 typ h; exact ⟨⟨.inr (.inr (.inl rfl)), this.1, this.2.1, fun h => absurd h this.2.2⟩, rfl⟩
  · have := ks32 typ h; exact ⟨⟨.inr (.inr (.inr (.inl rfl))), this.1, this.2.1, fun h => absurd h this.2.2⟩, rfl⟩
  · have := ks64 typ h; exact ⟨⟨.inr (.inr (.inr (.inr rfl))), this.1, this.2.1, fun h => absurd h this.2.2⟩, rfl⟩
/-! ### Bounds of the transforms -/
theorem near_iff' {v : Int} : near v = true ↔ -1048576 ≤ v ∧ v ≤ 1048576 := by unfold near; exact decide_eq_true_iff
theorem far_map {n : Nat} (h64 : n ≤ 64) {f : Nat → Nat → Int} (h : ∀ j i, -((1048576 * 16384 : Nat) : Int) ≤ f j i ∧ f j i ≤ ((1048576 * 16384 : Nat) : Int)) : ∀ v ∈ (List.range n).map fun j => rnd (dot (f j) n), Far v := by
  intro v hv
  obtain ⟨j, _, rfl⟩ := List.mem_map.1 hv
  have h1 := dot_b (m := n) fun i _ => h j i
  have h2 : n * (1048576 * 16384) ≤ 1099511627776 := by omega
  unfold rnd Far
  generalize n * (1048576 * 16384) = q at h1 h2
  omega
theorem may_within {kind : Int} {x : List Int} (h : mayB kind x = true) : lenB kind x.length = true ∧ x.all near = true := by
  unfold mayB at h; rw [Bool.and_eq_true] at h; exact h
theorem inv_far {kind : Int} {x : List Int} (h : mayB kind x = true) : invQ kind x = (invS kind.toNat x, 0) ∧ (invS kind.toNat x).length = x.length ∧ ∀ v ∈ invS kind.toNat x, Far v := by
  obtain ⟨hl, hx⟩ := may_within h
  have h64 := lenB_le hl
  have hk := lenB_kind hl
  refine ⟨by unfold invQ; rw [h]; rfl, ?_⟩
  unfold invS
  split
  · rename_i h3
    have h4 : x.length = 4 := by
      have : kind = 3 := by omega
      subst this
      have := hl; unfold lenB at this; simpa using this
    refine ⟨by rw [h4]; rfl, ?_⟩
    have a0 := gx_near hx 0
    have a1 := gx_near hx 1
    have a2 := gx_near hx 2
    have a3 := gx_near hx 3
    generalize gx x 0 = a at *
    generalize gx x 1 = b at *
    generalize gx x 2 = c at *
    generalize gx x 3 = d at *
    rw [back_e rfl]
    have h2 : 2 * ((a + b - (c - d)) / 2) ≤ a + b - (c - d) ∧ a + b - (c - d) ≤ 2 * ((a + b - (c - d)) / 2) + 1 := by omega
    generalize (a + b - (c - d)) / 2 = e at h2 ⊢
    intro v hv
    simp only [List.mem_cons, List.not_mem_nil, or_false] at hv
    unfold Far
    rcases hv with rfl | rfl | rfl | rfl <;> omega
  · exact ⟨by simp, far_map h64.2 fun j i => mulb (A := 1048576) (gx_near hx i) (wS_b ..)⟩
theorem fwd_far {kind : Int} {x : List Int} (h : mayB kind x = true) : fwdQ kind x = (fwdS kind.toNat x, 0) ∧ (fwdS kind.toNat x).length = x.length ∧ ∀ v ∈ fwdS kind.toNat x, Far v := by
  obtain ⟨hl, hx⟩ := may_within h
  have h64 := lenB_le hl
  have hk := lenB_kind hl
  refine ⟨by unfold fwdQ; rw [h]; rfl, ?_⟩
  unfold fwdS
  split
  · rename_i h3
    have h4 : x.length = 4 := by
      have : kind = 3 := by omega
      subst this
      have := hl; unfold lenB at this; simpa using this
    refine ⟨by rw [h4]; rfl, ?_⟩
    have a0 := gx_near hx 0
    have a1 := gx_near hx 1
    have a2 := gx_near hx 2
    have a3 := gx_near hx 3
    generalize gx x 0 = a at *
    generalize gx x 1 = b at *
    generalize gx x 2 = c at *
    generalize gx x 3 = d at *
    rw [forth_e rfl]
    have h2 : 2 * ((a + b - (d - c)) / 2) ≤ a + b - (d - c) ∧ a + b - (d - c) ≤ 2 * ((a + b - (d - c)) / 2) + 1 := by omega
    generalize (a + b - (d - c)) / 2 = e at h2 ⊢
    intro v hv
    simp only [List.mem_cons, List.not_mem_nil, or_false] at hv
    unfold Far
    rcases hv with rfl | rfl | rfl | rfl <;> omega
  · exact ⟨by simp, far_map h64.2 fun j i => mulb (A := 1048576) (gx_near hx i) (wS_b ..)⟩
/-- A line of near numbers may be turned. -/
theorem may_line {b : Bool} {n k : Nat} {G : Nat → Nat → Int} {kind : Int} (hl : lenB kind n = true) (h : ∀ i, i < n → -1048576 ≤ lnG b G k i ∧ lnG b G k i ≤ 1048576) : mayB kind (lineL b n G k) = true := by
  unfold mayB
  rw [lineL_len, hl, Bool.true_and, List.all_eq_true]
  intro v hv
  obtain ⟨i, hi, rfl⟩ := List.mem_map.1 hv
  exact near_iff'.2 (h i (List.mem_range.1 hi))
end Go.Zt

