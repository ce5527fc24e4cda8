/- Layer 8: Inverse of the document, walked. -/
import Derived.Test.YtpfhalehdgcbeaaZge
import Derived.Test.YtpfhalehdgcbeaaZgDe
set_option linter.unusedSimpArgs false
set_option linter.unusedVariables false
namespace Go.Zt
open Go Go.Sim Go.Proofs Go.RowKit

theorem ixw {n r c : Nat} (hr : r < n) (hc : c < n) (hn : n ≤ 64) : IntKind.i64.wrap (IntKind.i64.wrap ((r : Int) * (n : Nat)) + (c : Nat)) = ((r * n + c : Nat) : Int) := by
  have h1 : r * n ≤ 64 * 64 := Nat.mul_le_mul (by omega) hn
  rw [← Int.natCast_mul, i64w (x := ((r * n : Nat) : Int)) (by omega), i64w (by omega)]
  omega
theorem c43 {M0 : Mem} (hf : M0.floor ≤ M0.nb.size) {A : Option Addr} {n k l c : Nat} {G : Nat → Nat → Int} (hA : Row M0 A (Ints (gridL n G))) (hl : l = n * n) (hk : k < n) (hn : n ≤ 64) :
    Cn Try.prog 43 #[.slice A l c, .int .i64 (n : Nat), .int .i64 (k : Nat)] M0 (Told M0 (lineL false n G k)) := by
  subst hl
  have loop : ∀ (m i : Nat) (B : Option Addr) (d : Nat) {M : Mem}, i + m = n → Keep M0 M → Own (fun j => M0.nb.size ≤ j) M 3 B d (Ints ((List.range i).map (lnG false G k))) → A43_1 A (n * n) c (n : Nat) (k : Nat) B i d (i : Nat) M (Told M0 (lineL false n G k)) := by
    intro m
    induction m with
    | zero =>
      intro i B d M hi K hO
      obtain rfl : n = i := by omega
      exact w43_1 ⟨fun h => by omega, fun _ => ⟨B, d, by rw [lineL_len], K, hO⟩⟩
    | succ m ih =>
      intro i B d M hi K hO
      obtain ⟨a, i1, i2⟩ := (hA.keep K).int1 (n := n * n) (i := i * n + k) (z := ((i * n + k : Nat) : Int)) (k := .i64) (x := G i k) rfl (ix_lt (by omega) hk) (by rw [List.getElem?_map, gridL_at (by omega) hk]; rfl)
      obtain ⟨B', d', N, g1, g2, g3, g4⟩ := app1 el22 hf K hO (n := i) (by simp) (v := .int .i64 (G i k)) rfl (by omega)
      refine w43_1 ⟨fun _ => ?_, fun h => by omega⟩
      rw [ixw (by omega) hk hn]
      refine ⟨_, i1, _, i2, _, g1, _, rfl, ?_⟩
      rw [i64w (by omega), show ((i : Int) + 1) = ((i + 1 : Nat) : Int) by omega]
      refine ih (i + 1) B' d' (by omega) g2 ?_
      rw [List.range_succ, List.map_append]
      rw [Ints, List.map_append]; exact g3
  exact w43_0 (loop n 0 none 0 (Nat.zero_add _) (.refl _) Own.empty)
/-- The state of a block that is being made: its grid. -/
structure Og8 (M0 : Mem) (jo : Nat) (O : Option Addr) (n : Nat) (M : Mem) (G : Nat → Nat → Int) : Prop where
  keep : Keep M0 M
  own : Own (· = jo) M 3 O (n * n) (Ints (gridL n G))
  lt : jo < M.nb.size
theorem Og8.next {M0 : Mem} {jo : Nat} {O : Option Addr} {n : Nat} {M N : Mem} {G : Nat → Nat → Int} (h : Og8 M0 jo O n M G) (K : Keep M N) : Og8 M0 jo O n N G :=
  ⟨h.keep.trans K, h.own.chg K fun _ _ _ h => h, Nat.lt_of_lt_of_le h.lt K.size⟩
theorem Og8.put {M0 : Mem} {jo : Nat} {O : Option Addr} {n : Nat} {M : Mem} {G : Nat → Nat → Int} (hf : M0.floor ≤ M0.nb.size) (hj : M0.nb.size ≤ jo) (h : Og8 M0 jo O n M G) {r c : Nat} (hr : r < n) (hc : c < n) (v : Int) :
    ∃ a, idxA O (n * n) 1 ((r * n + c : Nat) : Int) = some a ∧ ∃ M', M.put a.block a.off (.int .i64 v) = some M' ∧ Chg (· = jo) M M' ∧ Og8 M0 jo O n M' (setG G r c v) := by
  obtain ⟨q, p1, M', p2, p3, p4, p5⟩ := h.own.put1 (fun j hj' => by rw [h.keep.floor, hj']; exact Nat.le_trans hf hj) (n := n * n) (i := r * n + c) (z := ((r * n + c : Nat) : Int)) (v := .int .i64 v) rfl (ix_lt hr hc) (by rw [List.length_map, gridL_len]; exact ix_lt hr hc) rfl
  refine ⟨q, p1, M', p2, p3, Keep.step h.keep p3 fun j hj' => by rw [hj']; exact hj, ?_, by rw [p4]; exact h.lt⟩
  rw [Ints, ← gridL_set hr hc, List.map_set]; exact p5
section
variable {M0 : Mem} {X O A1 A2 : Option Addr} {lx cx l1 c1 l2 c2 n s jo k1 k2 : Nat} {typ : Int} {x : List Int} {Q : Value → Mem → Prop}
end
end Go.Zt

