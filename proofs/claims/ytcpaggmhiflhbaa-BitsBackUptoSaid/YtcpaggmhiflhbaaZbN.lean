/- Layer 1: BitsReads, of what is seen of its arguments. -/
import Derived.Test.YtcpaggmhiflhbaaZbM
import Derived.Test.YtcpaggmhiflhbaaZsT
set_option linter.unusedSimpArgs false
set_option linter.unusedVariables false
namespace Go.Zt
open Go Go.Sim Go.Proofs Go.RowKit

theorem wf_u8 {x : Int} (h : (Lit.int .u8 x).wf = true) : 0 ≤ x ∧ x < 256 := by
  simp [Lit.wf, IntKind.min, IntKind.max, IntKind.signed, IntKind.bits] at h
  omega
theorem wf_u32 {x : Int} (h : (Lit.int .u32 x).wf = true) : 0 ≤ x ∧ x < 4294967296 := by
  simp [Lit.wf, IntKind.min, IntKind.max, IntKind.signed, IntKind.bits] at h
  omega
theorem wf_i64 {x : Int} (h : (Lit.int .i64 x).wf = true) : -9223372036854775808 ≤ x ∧ x ≤ 9223372036854775807 := by
  simp [Lit.wf, IntKind.min, IntKind.max, IntKind.signed, IntKind.bits] at h
  omega
theorem sees_bytes {M : Mem} {B k : Nat} {r : List Value} (h : Sees Try.prog M B (k + 2) 37 r) : ∃ A n c, ∃ b : List Nat, r = [.slice A n c] ∧ n = b.length ∧ n ≤ c ∧ n ≤ B ∧ Old A ∧ Row M A (U8 b) ∧ Byt b := by
  obtain ⟨A, n, c, l, rfl, h1, h2, h3, h4, h5, h6, h7⟩ := sees_slice (f := fun x : Nat => [Value.int .u8 (x : Int)]) (good := fun x => x < 256) (e := 5) (by kernel_rfl) h fun r hr => by
    obtain ⟨x, rfl, hw⟩ := sees_int (q := .u8) (by kernel_rfl) hr
    have := wf_u8 hw
    exact ⟨x.toNat, by congr 2; omega, by omega⟩
  rw [flatMap_one fun x : Nat => Value.int .u8 (x : Int)] at h6
  exact ⟨A, n, c, l, rfl, h1, h2, h3, h5, h6, h7⟩
theorem sees_do {M : Mem} {B k : Nat} {r : List Value} (h : Sees Try.prog M B (k + 2) 29 r) : ∃ d : DoV, r = d.cells ∧ d.wf := by
  obtain ⟨h1, h2⟩ := sees_struct (l := [(0, 3), (1, 3), (2, 27)]) (n := 3) (by kernel_rfl) (by kernel_rfl) h
  match r, h1 with
  | [a, b, c], _ =>
    have c3 : Try.prog.cellsOf 3 = 1 := by kernel_rfl
    have c27 : Try.prog.cellsOf 27 = 1 := by kernel_rfl
    have s0 := h2 (0, 3) (by simp)
    have s1 := h2 (1, 3) (by simp)
    have s2 := h2 (2, 27) (by simp)
    rw [c3] at s0 s1
    rw [c27] at s2
    obtain ⟨x, e0, w0⟩ := sees_int (q := .i64) (by kernel_rfl) s0
    obtain ⟨y, e1, w1⟩ := sees_int (q := .i64) (by kernel_rfl) s1
    obtain ⟨z, e2, w2⟩ := sees_int (q := .u32) (by kernel_rfl) s2
    simp at e0 e1 e2
    subst e0 e1 e2
    have := wf_u32 w2
    exact ⟨⟨x, y, z.toNat⟩, by simp [DoV.cells]; omega, wf_i64 w0, by show z.toNat < _; omega⟩
theorem sees_dos {M : Mem} {B k : Nat} {r : List Value} (h : Sees Try.prog M B (k + 3) 22 r) : ∃ A n c, ∃ l : List DoV, r = [.slice A n c] ∧ n = l.length ∧ n ≤ c ∧ n ≤ B ∧ Old A ∧ Row M A (Ds l) ∧ ∀ x ∈ l, x.wf := by
  obtain ⟨A, n, c, l, rfl, h1, h2, h3, h4, h5, h6, h7⟩ := sees_slice (f := DoV.cells) (good := DoV.wf) (e := 29) (by kernel_rfl) h fun r hr => sees_do hr
  exact ⟨A, n, c, l, rfl, h1, h2, h3, h5, h6, h7⟩
theorem law6 {W : World} {u0 u1 : Value} (s0 : Sees Try.prog (mem0 W) 1048576 8 37 [u0]) (s1 : Sees Try.prog (mem0 W) 1048576 8 22 [u1]) : Cn Try.prog 6 #[u0, u1] (mem0 W) fun v _ => v = .bool true := by
  obtain ⟨A, n, c, b, e, h1, h2, h3, h4, h5, h6⟩ := sees_bytes s0
  obtain ⟨B, m, d, l, e', g1, g2, g3, g4, g5, g6⟩ := sees_dos s1
  simp at e e'
  subst e e'
  exact c6 (Nat.le_refl _) h5 h4 h1 (by omega) h6 g5 g4 g1 (by omega) g6
end Go.Zt
