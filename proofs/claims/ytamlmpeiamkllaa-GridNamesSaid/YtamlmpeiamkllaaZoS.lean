/- Layer 17: what is seen of blocks. Printed by genS.py. -/
import Derived.Test.YtamlmpeiamkllaaZpO
import Derived.Test.YtamlmpeiamkllaaZrT
set_option linter.unusedSimpArgs false
set_option linter.unusedVariables false
set_option maxRecDepth 100000
namespace Go.Zt
open Go Go.Sim Go.Proofs Go.RowKit

theorem wf_r {x : Int} (h : (Lit.int .i64 x).wf = true) : i64R x := by
  simp [Lit.wf, IntKind.min, IntKind.max, IntKind.signed, IntKind.bits] at h
  unfold i64R
  omega
theorem sees_blk {M : Mem} {B k : Nat} {cs : List Value} (h : Sees Try.prog M B (k + 4) 27 cs) : ∃ b : Bk, cs = b.cs.toList ∧ i64R b.x ∧ i64R b.y ∧ i64R b.w ∧ i64R b.h := by
  obtain ⟨h1, h2⟩ := sees_struct (l := [(0, 3), (1, 3), (2, 3), (3, 3), (4, 4), (5, 4), (6, 3), (7, 3), (8, 3), (9, 3), (10, 3), (11, 3), (12, 3), (13, 4), (14, 22), (16, 3), (17, 25), (21, 3), (22, 4)]) (n := 23) (by kernel_rfl) (by kernel_rfl) h
  match cs, h1 with
  | [u0, u1, u2, u3, u4, u5, u6, u7, u8, u9, u10, u11, u12, u13, u14, u15, u16, u17, u18, u19, u20, u21, u22], _ =>
    have c3 : Try.prog.cellsOf 3 = 1 := by kernel_rfl
    have c4 : Try.prog.cellsOf 4 = 1 := by kernel_rfl
    have c22 : Try.prog.cellsOf 22 = 2 := by kernel_rfl
    have c24 : Try.prog.cellsOf 24 = 2 := by kernel_rfl
    have c25 : Try.prog.cellsOf 25 = 4 := by kernel_rfl
    obtain ⟨n_x, e0, f0⟩ := sees_int (q := .i64) (by kernel_rfl) (h2 (0, 3) (by simp))
    replace e0 : u0 = .int .i64 n_x := by simp [c3] at e0; exact e0
    obtain ⟨n_y, e1, f1⟩ := sees_int (q := .i64) (by kernel_rfl) (h2 (1, 3) (by simp))
    replace e1 : u1 = .int .i64 n_y := by simp [c3] at e1; exact e1
    obtain ⟨n_w, e2, f2⟩ := sees_int (q := .i64) (by kernel_rfl) (h2 (2, 3) (by simp))
    replace e2 : u2 = .int .i64 n_w := by simp [c3] at e2; exact e2
    obtain ⟨n_h, e3, f3⟩ := sees_int (q := .i64) (by kernel_rfl) (h2 (3, 3) (by simp))
    replace e3 : u3 = .int .i64 n_h := by simp [c3] at e3; exact e3
    obtain ⟨n_sk, e4⟩ := sees_bool (by kernel_rfl) (h2 (4, 4) (by simp))
    replace e4 : u4 = .bool n_sk := by simp [c4] at e4; exact e4
    obtain ⟨n_it, e5⟩ := sees_bool (by kernel_rfl) (h2 (5, 4) (by simp))
    replace e5 : u5 = .bool n_it := by simp [c4] at e5; exact e5
    obtain ⟨n_q6, e6, f6⟩ := sees_int (q := .i64) (by kernel_rfl) (h2 (6, 3) (by simp))
    replace e6 : u6 = .int .i64 n_q6 := by simp [c3] at e6; exact e6
    obtain ⟨n_q7, e7, f7⟩ := sees_int (q := .i64) (by kernel_rfl) (h2 (7, 3) (by simp))
    replace e7 : u7 = .int .i64 n_q7 := by simp [c3] at e7; exact e7
    obtain ⟨n_q8, e8, f8⟩ := sees_int (q := .i64) (by kernel_rfl) (h2 (8, 3) (by simp))
    replace e8 : u8 = .int .i64 n_q8 := by simp [c3] at e8; exact e8
    obtain ⟨n_q9, e9, f9⟩ := sees_int (q := .i64) (by kernel_rfl) (h2 (9, 3) (by simp))
    replace e9 : u9 = .int .i64 n_q9 := by simp [c3] at e9; exact e9
    obtain ⟨n_q10, e10, f10⟩ := sees_int (q := .i64) (by kernel_rfl) (h2 (10, 3) (by simp))
    replace e10 : u10 = .int .i64 n_q10 := by simp [c3] at e10; exact e10
    obtain ⟨n_q11, e11, f11⟩ := sees_int (q := .i64) (by kernel_rfl) (h2 (11, 3) (by simp))
    replace e11 : u11 = .int .i64 n_q11 := by simp [c3] at e11; exact e11
    obtain ⟨n_q12, e12, f12⟩ := sees_int (q := .i64) (by kernel_rfl) (h2 (12, 3) (by simp))
    replace e12 : u12 = .int .i64 n_q12 := by simp [c3] at e12; exact e12
    obtain ⟨n_cp, e13⟩ := sees_bool (by kernel_rfl) (h2 (13, 4) (by simp))
    replace e13 : u13 = .bool n_cp := by simp [c4] at e13; exact e13
    have q := (sees_array (m := 2) (e := 3) (n := 2) (by kernel_rfl) c22 (h2 (14, 22) (by simp))).2
    simp only [c22, c3] at q
    obtain ⟨n_r0, e14, f14⟩ := sees_int (q := .i64) (by kernel_rfl) (q 0 (by decide))
    replace e14 : u14 = .int .i64 n_r0 := by simp [c3] at e14; exact e14
    obtain ⟨n_r1, e15, f15⟩ := sees_int (q := .i64) (by kernel_rfl) (q 1 (by decide))
    replace e15 : u15 = .int .i64 n_r1 := by simp [c3] at e15; exact e15
    obtain ⟨n_q16, e16, f16⟩ := sees_int (q := .i64) (by kernel_rfl) (h2 (16, 3) (by simp))
    replace e16 : u16 = .int .i64 n_q16 := by simp [c3] at e16; exact e16
    have qq := (sees_array (m := 2) (e := 24) (n := 4) (by kernel_rfl) c25 (h2 (17, 25) (by simp))).2
    simp only [c25, c24] at qq
    have s0 := (sees_struct (l := [(0, 3), (1, 3)]) (n := 2) (by kernel_rfl) c24 (qq 0 (by decide))).2
    obtain ⟨n_v0, e17, f17⟩ := sees_int (q := .i64) (by kernel_rfl) (s0 (0, 3) (by simp))
    replace e17 : u17 = .int .i64 n_v0 := by simp [c3] at e17; exact e17
    obtain ⟨n_v1, e18, f18⟩ := sees_int (q := .i64) (by kernel_rfl) (s0 (1, 3) (by simp))
    replace e18 : u18 = .int .i64 n_v1 := by simp [c3] at e18; exact e18
    have s1 := (sees_struct (l := [(0, 3), (1, 3)]) (n := 2) (by kernel_rfl) c24 (qq 1 (by decide))).2
    obtain ⟨n_v2, e19, f19⟩ := sees_int (q := .i64) (by kernel_rfl) (s1 (0, 3) (by simp))
    replace e19 : u19 = .int .i64 n_v2 := by simp [c3] at e19; exact e19
    obtain ⟨n_v3, e20, f20⟩ := sees_int (q := .i64) (by kernel_rfl) (s1 (1, 3) (by simp))
    replace e20 : u20 = .int .i64 n_v3 := by simp [c3] at e20; exact e20
    obtain ⟨n_q21, e21, f21⟩ := sees_int (q := .i64) (by kernel_rfl) (h2 (21, 3) (by simp))
    replace e21 : u21 = .int .i64 n_q21 := by simp [c3] at e21; exact e21
    obtain ⟨n_ob, e22⟩ := sees_bool (by kernel_rfl) (h2 (22, 4) (by simp))
    replace e22 : u22 = .bool n_ob := by simp [c4] at e22; exact e22
    subst e0 e1 e2 e3 e4 e5 e6 e7 e8 e9 e10 e11 e12 e13 e14 e15 e16 e17 e18 e19 e20 e21 e22
    exact ⟨⟨n_x, n_y, n_w, n_h, n_sk, n_it, n_q6, n_q7, n_q8, n_q9, n_q10, n_q11, n_q12, n_cp, n_r0, n_r1, n_q16, n_v0, n_v1, n_v2, n_v3, n_q21, n_ob⟩, rfl, wf_r f0, wf_r f1, wf_r f2, wf_r f3⟩
end Go.Zt
