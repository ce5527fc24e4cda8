/- Layer 20: HeadsWrites: what is seen of a head; Copy; the law. -/
import Derived.Test.YtgepgbblmodagaaZmA
import Derived.Test.YtgepgbblmodagaaZlG
import Derived.Test.YtgepgbblmodagaaZlQ
set_option linter.unusedSimpArgs false
set_option linter.unusedVariables false
set_option maxRecDepth 100000
namespace Go.Zt
open Go Go.Sim Go.Proofs Go.RowKit
theorem sees_sgs {M : Mem} {B k : Nat} {r : List Value} (h : Sees Try.prog M B (k + 3) 38 r) : ∃ A n c, ∃ X : List Sg, r = [.slice A n c] ∧ n = X.length ∧ n ≤ c ∧ n ≤ B ∧ (A = none → c = 0) ∧ Old A ∧ Row M A (Sgs X) ∧ ∀ x ∈ X, True :=
  sees_slice (f := Sg.cells) (good := fun _ => True) (e := 96) (by kernel_rfl) h fun r hr => by
    obtain ⟨h1, h2⟩ := sees_struct (l := [(0, 3), (1, 3), (2, 3), (3, 3)]) (n := 4) (by kernel_rfl) (by kernel_rfl) hr
    match r, h1 with
    | [a, b, c, d], _ =>
      have c3 : Try.prog.cellsOf 3 = 1 := by kernel_rfl
      obtain ⟨x, e1, _⟩ := sees_int (q := .i64) (by kernel_rfl) (h2 (0, 3) (by simp))
      obtain ⟨y, e2, _⟩ := sees_int (q := .i64) (by kernel_rfl) (h2 (1, 3) (by simp))
      obtain ⟨z, e3, _⟩ := sees_int (q := .i64) (by kernel_rfl) (h2 (2, 3) (by simp))
      obtain ⟨w, e4, _⟩ := sees_int (q := .i64) (by kernel_rfl) (h2 (3, 3) (by simp))
      simp [c3] at e1 e2 e3 e4
      exact ⟨⟨x, y, z, w⟩, by rw [e1, e2, e3, e4], trivial⟩
theorem sees_head {M : Mem} {B k : Nat} {cs : List Value} (h : Sees Try.prog M B (k + 4) 41 cs) : ∃ (g : Hd) (X : List Sg), cs = g.cs.toList ∧ g.n = X.length ∧ g.n ≤ g.c ∧ g.n ≤ B ∧ Old g.A ∧ Row M g.A (Sgs X) ∧ (g.A = none → g.c = 0) := by
  obtain ⟨h1, h2⟩ := sees_struct (l := [(0, 4), (1, 3), (2, 4), (3, 4), (4, 3), (5, 35), (8, 3), (9, 3), (10, 36), (15, 3), (16, 3), (17, 4), (18, 37), (22, 3), (23, 4), (24, 3), (25, 3), (26, 38), (27, 39)]) (n := 30) (by kernel_rfl) (by kernel_rfl) h
  match cs, h1 with
  | [v0, v1, v2, v3, v4, v5, v6, v7, v8, v9, v10, v11, v12, v13, v14, v15, v16, v17, v18, v19, v20, v21, v22, v23, v24, v25, v26, v27, v28, v29], _ =>
    have c3 : Try.prog.cellsOf 3 = 1 := by kernel_rfl
    have c4 : Try.prog.cellsOf 4 = 1 := by kernel_rfl
    have c38 : Try.prog.cellsOf 38 = 1 := by kernel_rfl
    have c35 : Try.prog.cellsOf 35 = 3 := by kernel_rfl
    have c36 : Try.prog.cellsOf 36 = 5 := by kernel_rfl
    have c37 : Try.prog.cellsOf 37 = 4 := by kernel_rfl
    have c39 : Try.prog.cellsOf 39 = 3 := by kernel_rfl
    obtain ⟨ex, e0⟩ := sees_bool (by kernel_rfl) (h2 (0, 4) (by simp))
    replace e0 : v0 = .bool ex := by simp [c4] at e0; exact e0
    obtain ⟨sl, e1, _⟩ := sees_int (q := .i64) (by kernel_rfl) (h2 (1, 3) (by simp))
    replace e1 : v1 = .int .i64 sl := by simp [c3] at e1; exact e1
    obtain ⟨sh, e2⟩ := sees_bool (by kernel_rfl) (h2 (2, 4) (by simp))
    replace e2 : v2 = .bool sh := by simp [c4] at e2; exact e2
    obtain ⟨ke, e3⟩ := sees_bool (by kernel_rfl) (h2 (3, 4) (by simp))
    replace e3 : v3 = .bool ke := by simp [c4] at e3; exact e3
    obtain ⟨rf, e4, _⟩ := sees_int (q := .i64) (by kernel_rfl) (h2 (4, 3) (by simp))
    replace e4 : v4 = .int .i64 rf := by simp [c3] at e4; exact e4
    have q5 := (sees_array (m := 3) (e := 3) (n := 3) (by kernel_rfl) c35 (h2 (5, 35) (by simp))).2
    simp only [c35, c3] at q5
    obtain ⟨r0, e5, _⟩ := sees_int (q := .i64) (by kernel_rfl) (q5 0 (by decide))
    replace e5 : v5 = .int .i64 r0 := by simp at e5; exact e5
    obtain ⟨r1, e6, _⟩ := sees_int (q := .i64) (by kernel_rfl) (q5 1 (by decide))
    replace e6 : v6 = .int .i64 r1 := by simp at e6; exact e6
    obtain ⟨r2, e7, _⟩ := sees_int (q := .i64) (by kernel_rfl) (q5 2 (by decide))
    replace e7 : v7 = .int .i64 r2 := by simp at e7; exact e7
    obtain ⟨pr, e8, _⟩ := sees_int (q := .i64) (by kernel_rfl) (h2 (8, 3) (by simp))
    replace e8 : v8 = .int .i64 pr := by simp [c3] at e8; exact e8
    obtain ⟨ba, e9, _⟩ := sees_int (q := .i64) (by kernel_rfl) (h2 (9, 3) (by simp))
    replace e9 : v9 = .int .i64 ba := by simp [c3] at e9; exact e9
    have q10 := (sees_array (m := 5) (e := 3) (n := 5) (by kernel_rfl) c36 (h2 (10, 36) (by simp))).2
    simp only [c36, c3] at q10
    obtain ⟨d0, e10, _⟩ := sees_int (q := .i64) (by kernel_rfl) (q10 0 (by decide))
    replace e10 : v10 = .int .i64 d0 := by simp at e10; exact e10
    obtain ⟨d1, e11, _⟩ := sees_int (q := .i64) (by kernel_rfl) (q10 1 (by decide))
    replace e11 : v11 = .int .i64 d1 := by simp at e11; exact e11
    obtain ⟨d2, e12, _⟩ := sees_int (q := .i64) (by kernel_rfl) (q10 2 (by decide))
    replace e12 : v12 = .int .i64 d2 := by simp at e12; exact e12
    obtain ⟨d3, e13, _⟩ := sees_int (q := .i64) (by kernel_rfl) (q10 3 (by decide))
    replace e13 : v13 = .int .i64 d3 := by simp at e13; exact e13
    obtain ⟨d4, e14, _⟩ := sees_int (q := .i64) (by kernel_rfl) (q10 4 (by decide))
    replace e14 : v14 = .int .i64 d4 := by simp at e14; exact e14
    obtain ⟨co, e15, _⟩ := sees_int (q := .i64) (by kernel_rfl) (h2 (15, 3) (by simp))
    replace e15 : v15 = .int .i64 co := by simp [c3] at e15; exact e15
    obtain ⟨ro, e16, _⟩ := sees_int (q := .i64) (by kernel_rfl) (h2 (16, 3) (by simp))
    replace e16 : v16 = .int .i64 ro := by simp [c3] at e16; exact e16
    obtain ⟨na, e17⟩ := sees_bool (by kernel_rfl) (h2 (17, 4) (by simp))
    replace e17 : v17 = .bool na := by simp [c4] at e17; exact e17
    have q18 := (sees_array (m := 4) (e := 3) (n := 4) (by kernel_rfl) c37 (h2 (18, 37) (by simp))).2
    simp only [c37, c3] at q18
    obtain ⟨l0, e18, _⟩ := sees_int (q := .i64) (by kernel_rfl) (q18 0 (by decide))
    replace e18 : v18 = .int .i64 l0 := by simp at e18; exact e18
    obtain ⟨l1, e19, _⟩ := sees_int (q := .i64) (by kernel_rfl) (q18 1 (by decide))
    replace e19 : v19 = .int .i64 l1 := by simp at e19; exact e19
    obtain ⟨l2, e20, _⟩ := sees_int (q := .i64) (by kernel_rfl) (q18 2 (by decide))
    replace e20 : v20 = .int .i64 l2 := by simp at e20; exact e20
    obtain ⟨l3, e21, _⟩ := sees_int (q := .i64) (by kernel_rfl) (q18 3 (by decide))
    replace e21 : v21 = .int .i64 l3 := by simp at e21; exact e21
    obtain ⟨sp, e22, _⟩ := sees_int (q := .i64) (by kernel_rfl) (h2 (22, 3) (by simp))
    replace e22 : v22 = .int .i64 sp := by simp [c3] at e22; exact e22
    obtain ⟨cd, e23⟩ := sees_bool (by kernel_rfl) (h2 (23, 4) (by simp))
    replace e23 : v23 = .bool cd := by simp [c4] at e23; exact e23
    obtain ⟨da, e24, _⟩ := sees_int (q := .i64) (by kernel_rfl) (h2 (24, 3) (by simp))
    replace e24 : v24 = .int .i64 da := by simp [c3] at e24; exact e24
    obtain ⟨cb, e25, _⟩ := sees_int (q := .i64) (by kernel_rfl) (h2 (25, 3) (by simp))
    replace e25 : v25 = .int .i64 cb := by simp [c3] at e25; exact e25
    obtain ⟨A, n, c, X, e26, g1, g2, g3, g4, g5, g6, _⟩ := sees_sgs (h2 (26, 38) (by simp))
    replace e26 : v26 = .slice A n c := by simp [c38] at e26; exact e26
    have q27 := (sees_array (m := 3) (e := 4) (n := 3) (by kernel_rfl) c39 (h2 (27, 39) (by simp))).2
    simp only [c39, c4] at q27
    obtain ⟨x0, e27⟩ := sees_bool (by kernel_rfl) (q27 0 (by decide))
    replace e27 : v27 = .bool x0 := by simp at e27; exact e27
    obtain ⟨x1, e28⟩ := sees_bool (by kernel_rfl) (q27 1 (by decide))
    replace e28 : v28 = .bool x1 := by simp at e28; exact e28
    obtain ⟨x2, e29⟩ := sees_bool (by kernel_rfl) (q27 2 (by decide))
    replace e29 : v29 = .bool x2 := by simp at e29; exact e29
    subst e0 e1 e2 e3 e4 e5 e6 e7 e8 e9 e10 e11 e12 e13 e14 e15 e16 e17 e18 e19 e20 e21 e22 e23 e24 e25 e26 e27 e28 e29
    exact ⟨⟨ex, sl, sh, ke, rf, r0, r1, r2, pr, ba, d0, d1, d2, d3, d4, co, ro, na, l0, l1, l2, l3, sp, cd, da, cb, A, n, c, x0, x1, x2⟩, X, rfl, g1, g2, g3, g5, g6, g4⟩
theorem elem38 : ElemS Try.prog 38 96 4 32 (.agg #[.int .i64 0, .int .i64 0, .int .i64 0, .int .i64 0]) := ⟨by kernel_rfl, by kernel_rfl, by kernel_rfl, by kernel_rfl, by decide⟩
theorem Sgs_one (X : List Sg) : (Sgs X).all oneCell = true := by
  induction X with
  | nil => rfl
  | cons x X ih => simp only [Sgs, List.flatMap_cons, List.all_append, Bool.and_eq_true] at ih ⊢; exact ⟨rfl, ih⟩
section
variable {U V : Nat → Prop} {M N M0 : Mem} {jp jq : Nat} {l l' : List Nat} {h : Hd} {X : List Sg} {w e : Int}
theorem c18 (hf : M.floor ≤ M.nb.size) (hn : h.n = X.length) (hb : h.n ≤ 1048576) (hR : Row M h.A (Sgs X)) :
    Cn Try.prog 18 #[.agg h.cs] M fun v N => ∃ A' c', v = .agg ({ h with A := A', c := c' } : Hd).cs ∧ Keep M N ∧ Row N A' (Sgs X) ∧ ∀ a, A' = some a → a.block % 2 = 0 ∧ M.nb.size ≤ a.block / 2 ∧ a.block / 2 < N.nb.size := by
  have a := Mem.new_at M (.cells h.cs 41)
  have K1 : Keep M (M.new (.cells h.cs 41)) := .new _ _
  refine w18_0 ?_
  generalize M.new (.cells h.cs 41) = M1 at a K1 ⊢
  generalize hz : (#[.bool false, .int .i64 0, .bool false, .bool false, .int .i64 0, .int .i64 0, .int .i64 0, .int .i64 0, .int .i64 0, .int .i64 0, .int .i64 0, .int .i64 0, .int .i64 0, .int .i64 0, .int .i64 0, .int .i64 0, .int .i64 0, .bool false, .int .i64 0, .int .i64 0, .int .i64 0, .int .i64 0, .int .i64 0, .bool false, .int .i64 0, .int .i64 0, .slice none 0 0, .bool false, .bool false, .bool false] : Array Value) = zz
  have zs : zz.size = 30 := by rw [← hz]; rfl
  have b := Mem.new_at M1 (.cells zz 41)
  have K2 : Keep M1 (M1.new (.cells zz 41)) := .new _ _
  have a2 := at_keep a K2
  have z1 := K1.size
  have s1 := Mem.new_size M1 (.cells zz 41)
  generalize M1.new (.cells zz 41) = M2 at b K2 a2 s1 ⊢
  have T2 := K1.trans K2
  have f2 : M2.floor ≤ M2.nb.size := fb hf T2
  refine ldA a2 rfl (stN (cs := h.cs) f2 rfl (by rw [zs]; rfl) rfl fun M3 K3 n3 c3 => ?_)
  have T3 := T2.trans K3
  have lt1 := lt_of_at a2
  have z2 := K2.size
  obtain ⟨M4, p4, C4, n4, c4⟩ := put1 26 (.slice none 0 0) c3 (by rw [T3.floor]; have := T2.size; omega) (by show 26 < 30; decide) rfl
  refine pt p4 ?_
  have T2s := T2.size
  have K4 : Keep M M4 := Keep.step T3 C4 fun i hi => by rw [hi]; exact T2s
  have b4 := at_chg (at_keep b K3) C4 (by omega)
  have a4 := at_chg (at_keep a2 K3) C4 (by omega)
  refine on (sl_of (A := none) (l := 0) (c := 0) c4 rfl) (on (sl_of a4 rfl) ?_)
  have K4s := K4.size
  obtain ⟨A', c', M5, p5, C5, O5, hc5⟩ := append_own elem38 (S := fun j => M4.nb.size ≤ j) (M := M4) (A := none) (c := 0) (n := 0) (L := []) (.inl ⟨rfl, rfl, by decide⟩) rfl (hR.keep K4) (k := h.n) (cx := h.c) (by rw [Sgs_len, hn]; omega) (Sgs_one X) (fun j hj => by rw [K4.floor]; omega) (Nat.le_refl _) (by omega)
  rw [Nat.zero_add] at p5
  refine me p5 (ty rfl ?_)
  have K5 : Keep M M5 := Keep.step K4 C5 fun i hi => by omega
  have c5 := at_chg c4 C5 (by omega)
  have b5 := at_chg b4 C5 (by omega)
  obtain ⟨M6, p6, C6, n6, c6⟩ := put1 26 (.slice A' h.n c') c5 (by rw [K5.floor]; omega) (by show 26 < 30; decide) rfl
  refine pt p6 ?_
  have K6 : Keep M M6 := Keep.step K5 C6 fun i hi => by omega
  have b6 := at_chg b5 C6 (by omega)
  have e6 : ((h.cs.setIfInBounds 26 (.slice none 0 0)).setIfInBounds 26 (.slice A' h.n c')) = ({ h with A := A', c := c' } : Hd).cs := rfl
  rw [e6] at c6
  have O6 : Own (fun j => M4.nb.size ≤ j) M6 96 A' (c' * 4) (Sgs X) := O5.chg C6 fun j hj hs => by omega
  refine ldA c6 rfl (stA b6 (by rw [K6.floor]; omega) rfl (by rw [zs]; rfl) rfl fun M7 C7 n7 c7 => ldA c7 rfl ?_)
  have K7 : Keep M M7 := Keep.step K6 C7 fun i hi => by omega
  have z56 := C5.size
  have O7 : Own (fun j => M4.nb.size ≤ j) M7 96 A' (c' * 4) (Sgs X) := O6.chg C7 fun j hj hs => by omega
  refine ⟨A', c', rfl, K7, O7.row, fun x hx => ?_⟩
  rcases O7 with ⟨g1, _⟩ | ⟨j, cs, sp, g1, g2, g3, g4, _⟩
  · rw [g1] at hx; cases hx
  · rw [g1] at hx
    obtain rfl := Option.some.inj hx
    have := lt_of_at g4
    show 2 * j % 2 = 0 ∧ M.nb.size ≤ 2 * j / 2 ∧ 2 * j / 2 < M7.nb.size
    have : M4.nb.size ≤ j := g3
    omega
end
end Go.Zt
