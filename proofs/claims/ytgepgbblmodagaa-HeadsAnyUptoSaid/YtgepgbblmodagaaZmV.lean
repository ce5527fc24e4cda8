/- Layer 20: HeadsAny: a header that is read without a fault: its bits stood there, and it may be. Plain. -/
import Derived.Test.YtgepgbblmodagaaZlD
import Derived.Test.YtgepgbblmodagaaZlA
import Derived.Test.YtgepgbblmodagaaProg
import Derived.Test.YtgepgbblmodagaaZkA
import Derived.Test.YtgepgbblmodagaaZqT
set_option linter.unusedSimpArgs false
set_option linter.unusedVariables false
set_option maxRecDepth 100000
namespace Go.Zt
open Go Go.Sim Go.Proofs Go.RowKit

theorem Dd.ok {a c : Cd} (h : Dd a c) (h0 : c.2.1 = 0) : a.2.1 = 0 := by
  refine Classical.byContradiction fun q => ?_
  rw [(h q).2] at h0
  exact q h0
section
variable {b : List Nat} {p : Nat} {c c0 : Cd} {X : List Sg} {w e : Int}
theorem sg_b {y : Sg} {p : Nat} {f : Nat} (hp : p ≤ 8 * b.length) (h0 : (sg1 (.r b p) f y).2.1 = 0) : f = 0 ∧ ∃ q x, sg1 (.r b p) f y = (.r b q, 0, x) ∧ x.may = true ∧ Bt b p q (sBits x) := by
  unfold sg1 at h0 ⊢
  dsimp only at h0 ⊢
  have z3 : (numD (numD (numD (.r b p) f y.a 4 0).1 (numD (.r b p) f y.a 4 0).2.1 y.b 2 0).1 (numD (numD (.r b p) f y.a 4 0).1 (numD (.r b p) f y.a 4 0).2.1 y.b 2 0).2.1 y.c 4 0).2.1 = 0 := by
    refine Classical.byContradiction fun q => ?_
    rw [numD_d q] at h0; exact q h0
  have z2 : (numD (numD (.r b p) f y.a 4 0).1 (numD (.r b p) f y.a 4 0).2.1 y.b 2 0).2.1 = 0 := by
    refine Classical.byContradiction fun q => ?_
    rw [numD_d q] at z3; exact q z3
  have z1 : (numD (.r b p) f y.a 4 0).2.1 = 0 := by
    refine Classical.byContradiction fun q => ?_
    rw [numD_d q] at z2; exact q z2
  obtain ⟨he, q1, a, e1, a0, a1, B1⟩ := numD_b (v := y.a) (f := 0) (n := 4) (by decide) hp z1
  have e1' : numD (.r b p) f y.a 4 0 = (.r b q1, 0, a) := by rw [Int.add_zero] at e1; exact e1
  rw [e1'] at z2 z3 h0 ⊢
  obtain ⟨_, q2, b', e2, b0, b1, B2⟩ := numD_b (v := y.b) (f := 0) (n := 2) (by decide) B1.le z2
  have e2' : numD (.r b q1) 0 y.b 2 0 = (.r b q2, 0, b') := by rw [Int.add_zero] at e2; exact e2
  dsimp only at z3 h0 ⊢
  rw [e2'] at z3 h0 ⊢
  obtain ⟨_, q3, c', e3, c0, c1, B3⟩ := numD_b (v := y.c) (f := 0) (n := 4) (by decide) B2.le z3
  have e3' : numD (.r b q2) 0 y.c 4 0 = (.r b q3, 0, c') := by rw [Int.add_zero] at e3; exact e3
  dsimp only at h0 ⊢
  rw [e3'] at h0 ⊢
  obtain ⟨_, q4, d', e4, d0, d1, B4⟩ := numD_b (v := y.d) (f := 0) (n := 2) (by decide) B3.le h0
  have e4' : numD (.r b q3) 0 y.d 2 0 = (.r b q4, 0, d') := by rw [Int.add_zero] at e4; exact e4
  dsimp only
  rw [e4']
  have a1 : a < 16 := a1
  have b1 : b' < 4 := b1
  have c1 : c' < 16 := c1
  have d1 : d' < 4 := d1
  refine ⟨he, q4, ⟨a, b', c', d'⟩, rfl, decide_eq_true (by dsimp only; omega), ?_⟩
  unfold sBits
  exact ((B1.app B2).app B3).app B4
theorem sgs_b : ∀ (Y : List Sg) {p f : Nat}, p ≤ 8 * b.length → (sgsD (.r b p) f Y).2.1 = 0 → f = 0 ∧ ∃ q X, sgsD (.r b p) f Y = (.r b q, 0, X) ∧ X.all Sg.may = true ∧ X.length = Y.length ∧ Bt b p q (X.flatMap sBits)
  | [], p, f, hp, h0 => ⟨h0, p, [], by rw [show f = 0 from h0]; rfl, rfl, rfl, .nil hp⟩
  | y :: Y, p, f, hp, h0 => by
    simp only [sgsD] at h0 ⊢
    have z1 : (sg1 (.r b p) f y).2.1 = 0 := by
      refine Classical.byContradiction fun q => ?_
      rw [sgsD_d q] at h0; exact q h0
    obtain ⟨he, q1, x, e1, m1, B1⟩ := sg_b hp z1
    rw [e1] at h0 ⊢
    obtain ⟨_, q2, X, e2, m2, l2, B2⟩ := sgs_b Y B1.le h0
    dsimp only
    rw [e2]
    refine ⟨he, q2, x :: X, rfl, by simp [m1, m2], by simp [l2], ?_⟩
    rw [List.flatMap_cons]
    exact B1.app B2
theorem filt_b (hc : c0.1 = .r b p) (hp : p ≤ 8 * b.length) (hz : c0.2.2.da = 0 ∧ c0.2.2.cb = 0) (ht : FiltT c0 [] c X) (h0 : c.2.1 = 0) : ∃ q l0 l1 l2 l3 sp cd da cb A n m x0 x1 x2, c.1 = .r b q ∧ c.2.2 = ({ c0.2.2 with l0 := l0, l1 := l1, l2 := l2, l3 := l3, sp := sp, cd := cd, da := da, cb := cb, A := A, n := n, c := m, x0 := x0, x1 := x1, x2 := x2 } : Hd) ∧
    ((0 ≤ sp ∧ sp ≤ 7) ∧ (if cd then (3 ≤ da ∧ da ≤ 6) ∧ (0 ≤ cb ∧ cb ≤ 3) ∧ X.length = 2 ^ cb.toNat else da = 0 ∧ cb = 0 ∧ X.length = 0) ∧ (0 ≤ l0 ∧ l0 ≤ 63) ∧ (0 ≤ l1 ∧ l1 ≤ 63) ∧ (0 ≤ l2 ∧ l2 ≤ 63) ∧ (0 ≤ l3 ∧ l3 ≤ 63)) ∧ X.all Sg.may = true ∧
    Bt b p q (bI l0 6 ++ bI l1 6 ++ bI l2 6 ++ bI l3 6 ++ bI sp 3 ++ [yes cd] ++ (if cd then bI (da - 3) 2 ++ bI cb 2 ++ X.flatMap sBits else []) ++ [yes x0] ++ [yes x1] ++ [yes x2]) := by
  obtain ⟨c1, h1, c2, h2, c3, h3, c4, h4, c5, h5, c6, h6, c7, h7, c8, h8, c9, h9, h10⟩ := ht
  have z9 := (dFl h10).ok h0
  have z8 := (dFl h9).ok z9
  have z7 := (dFl h8).ok z8
  have z6 : c6.2.1 = 0 := by
    refine Dd.ok (c := c7) ?_ z7
    split at h7
    · exact StrT_d h7
    · rw [h7.1]; exact .rfl'
  have z5 := (dFl h6).ok z6
  have z4 := (dN h5).ok z5
  have z3 := (dN h4).ok z4
  have z2 := (dN h3).ok z3
  have z1 := (dN h2).ok z2
  obtain ⟨_, q1, y1, e1, a1, b1, B1⟩ := nB0 (n := 6) (by decide) h1 hc hp z1
  have E1 : c1.2.2 = ({ c0.2.2 with l0 := y1 } : Hd) := by rw [e1]
  have d1 : c1.1 = .r b q1 := by rw [e1]
  obtain ⟨_, q2, y2, e2, a2, b2, B2⟩ := nB0 (n := 6) (by decide) h2 d1 B1.le z2
  have E2 : c2.2.2 = ({ c0.2.2 with l0 := y1, l1 := y2 } : Hd) := by rw [e2]; show ({ c1.2.2 with l1 := y2 } : Hd) = _; rw [E1]
  have d2 : c2.1 = .r b q2 := by rw [e2]
  obtain ⟨_, q3, y3, e3, a3, b3, B3⟩ := nB0 (n := 6) (by decide) h3 d2 B2.le z3
  have E3 : c3.2.2 = ({ c0.2.2 with l0 := y1, l1 := y2, l2 := y3 } : Hd) := by rw [e3]; show ({ c2.2.2 with l2 := y3 } : Hd) = _; rw [E2]
  have d3 : c3.1 = .r b q3 := by rw [e3]
  obtain ⟨_, q4, y4, e4, a4, b4, B4⟩ := nB0 (n := 6) (by decide) h4 d3 B3.le z4
  have E4 : c4.2.2 = ({ c0.2.2 with l0 := y1, l1 := y2, l2 := y3, l3 := y4 } : Hd) := by rw [e4]; show ({ c3.2.2 with l3 := y4 } : Hd) = _; rw [E3]
  have d4 : c4.1 = .r b q4 := by rw [e4]
  obtain ⟨_, q5, y5, e5, a5, b5, B5⟩ := nB0 (n := 3) (by decide) h5 d4 B4.le z5
  have E5 : c5.2.2 = ({ c0.2.2 with l0 := y1, l1 := y2, l2 := y3, l3 := y4, sp := y5 } : Hd) := by rw [e5]; show ({ c4.2.2 with sp := y5 } : Hd) = _; rw [E4]
  have d5 : c5.1 = .r b q5 := by rw [e5]
  obtain ⟨_, q6, y6, e6, B6⟩ := fB h6 d5 B5.le z6
  have E6 : c6.2.2 = ({ c0.2.2 with l0 := y1, l1 := y2, l2 := y3, l3 := y4, sp := y5, cd := y6 } : Hd) := by rw [e6]; show ({ c5.2.2 with cd := y6 } : Hd) = _; rw [E5]
  have d6 : c6.1 = .r b q6 := by rw [e6]
  have k6 : c6.2.2.cd = y6 := by rw [E6]
  have S7 : ∃ q7 da cb A n m, c7.1 = .r b q7 ∧ c7.2.2 = ({ c0.2.2 with l0 := y1, l1 := y2, l2 := y3, l3 := y4, sp := y5, cd := y6, da := da, cb := cb, A := A, n := n, c := m } : Hd) ∧ (if y6 then (3 ≤ da ∧ da ≤ 6) ∧ (0 ≤ cb ∧ cb ≤ 3) ∧ X.length = 2 ^ cb.toNat else da = 0 ∧ cb = 0 ∧ X.length = 0) ∧ X.all Sg.may = true ∧ Bt b q6 q7 (if y6 then bI (da - 3) 2 ++ bI cb 2 ++ X.flatMap sBits else []) := by
    cases hy : y6 with
    | true =>
      rw [if_pos ⟨by rw [k6, hy], z6⟩] at h7
      obtain ⟨g1, k1, g2, k2, g3, Y, k3, k4, k5⟩ := h7
      have u3 : (sgsD g3.1 g3.2.1 Y).2.1 = 0 := by rw [k4] at z7; exact z7
      have u2 : g2.2.1 = 0 := by
        refine Classical.byContradiction fun q => ?_
        have q3 : g3 = g2 := by
          split at k3
          · exact k3.1
          · rw [if_neg q] at k3; exact k3.1
        rw [q3, sgsD_d q] at u3
        exact q u3
      have u1 := (dN k2).ok u2
      obtain ⟨_, qa, ya, ea, aa, ba, Ba⟩ := nB (n := 2) (by decide) k1 d6 B6.le u1
      have da : g1.1 = .r b qa := by rw [ea]
      obtain ⟨_, qb, yb, eb, ab, bb, Bb⟩ := nB0 (n := 2) (by decide) k2 da Ba.le u2
      have db : g2.1 = .r b qb := by rw [eb]
      rw [db] at k3
      dsimp only at k3
      rw [if_pos u2] at k3
      obtain ⟨⟨A, m, k3⟩, kY⟩ := k3
      rw [k3] at k4 k5 u3
      dsimp only at k4 k5 u3
      obtain ⟨_, qc, X2, ec, mc, lc, Bc⟩ := sgs_b Y Bb.le u3
      rw [ec] at k4 k5
      have ba : ya < 4 := ba
      have bb : yb < 4 := bb
      have hcb : g2.2.2.cb = yb := by rw [eb]
      have hX : X = X2 := k5
      subst hX
      refine ⟨qc, ya + 3, yb, A, 2 ^ g2.2.2.cb.toNat, m, by rw [k4], ?_, ?_, mc, ?_⟩
      · rw [k4]
        show ({ g2.2.2 with A := A, n := 2 ^ g2.2.2.cb.toNat, c := m } : Hd) = _
        have w1 : g1.2.2 = ({ c6.2.2 with da := ya + 3 } : Hd) := by rw [ea]
        have w2 : g2.2.2 = ({ g1.2.2 with cb := yb } : Hd) := by rw [eb]
        rw [w2, w1, E6, hy]
      · refine ⟨by omega, by omega, ?_⟩
        rw [lc, kY, List.length_replicate, hcb]
      · rw [show ya + 3 - 3 = ya by omega]
        exact (Ba.app Bb).app Bc
    | false =>
      rw [if_neg (fun q => by rw [k6, hy] at q; cases q.1)] at h7
      refine ⟨q6, 0, 0, c6.2.2.A, c6.2.2.n, c6.2.2.c, by rw [h7.1, d6], ?_, ⟨rfl, rfl, by rw [h7.2]; rfl⟩, by rw [h7.2]; rfl, .nil B6.le⟩
      rw [h7.1, E6, hy]
      obtain ⟨t1, t2⟩ := hz
      generalize c0.2.2 = g at t1 t2 ⊢
      cases g
      simp only at t1 t2
      subst t1 t2
      rfl
  obtain ⟨q7, da, cb, A, n, m, d7, E7, R7, m7, B7⟩ := S7
  obtain ⟨_, q8, y8, e8, B8⟩ := fB h8 d7 B7.le z8
  have E8 : c8.2.2 = ({ c0.2.2 with l0 := y1, l1 := y2, l2 := y3, l3 := y4, sp := y5, cd := y6, da := da, cb := cb, A := A, n := n, c := m, x0 := y8 } : Hd) := by rw [e8]; show ({ c7.2.2 with x0 := y8 } : Hd) = _; rw [E7]
  have d8 : c8.1 = .r b q8 := by rw [e8]
  obtain ⟨_, q9, y9, e9, B9⟩ := fB h9 d8 B8.le z9
  have E9 : c9.2.2 = ({ c0.2.2 with l0 := y1, l1 := y2, l2 := y3, l3 := y4, sp := y5, cd := y6, da := da, cb := cb, A := A, n := n, c := m, x0 := y8, x1 := y9 } : Hd) := by rw [e9]; show ({ c8.2.2 with x1 := y9 } : Hd) = _; rw [E8]
  have d9 : c9.1 = .r b q9 := by rw [e9]
  obtain ⟨_, q10, y10, e10, B10⟩ := fB h10 d9 B9.le h0
  have E10 : c.2.2 = ({ c0.2.2 with l0 := y1, l1 := y2, l2 := y3, l3 := y4, sp := y5, cd := y6, da := da, cb := cb, A := A, n := n, c := m, x0 := y8, x1 := y9, x2 := y10 } : Hd) := by rw [e10]; show ({ c9.2.2 with x2 := y10 } : Hd) = _; rw [E9]
  have b1 : y1 < 64 := b1
  have b2 : y2 < 64 := b2
  have b3 : y3 < 64 := b3
  have b4 : y4 < 64 := b4
  have b5 : y5 < 8 := b5
  refine ⟨q10, y1, y2, y3, y4, y5, y6, da, cb, A, n, m, y8, y9, y10, by rw [e10], E10, ⟨by omega, R7, by omega, by omega, by omega, by omega⟩, m7, ?_⟩
  exact ((((((((B1.app B2).app B3).app B4).app B5).app B6).app B7).app B8).app B9).app B10
end
end Go.Zt


/- Layer 20: HeadsAny: a whole header that is read without a fault. Plain. -/
set_option linter.unusedSimpArgs false
set_option linter.unusedVariables false
set_option maxRecDepth 100000
namespace Go.Zt
open Go Go.Sim Go.Proofs Go.RowKit

section
variable {b : List Nat} {p : Nat} {c c0 : Cd} {X : List Sg} {w e : Int}
theorem tail_b (hc : c0.1 = .r b p) (hp : p ≤ 8 * b.length) (hz : c0.2.2 = ({ c0.2.2 with d0 := 0, d1 := 0, d2 := 0, d3 := 0, d4 := 0, co := 0, ro := 0, na := false, l0 := 0, l1 := 0, l2 := 0, l3 := 0, sp := 0, cd := false, da := 0, cb := 0, x0 := false, x1 := false, x2 := false } : Hd)) (ht : TailT w e c0 [] c X) (h0 : c.2.1 = 0) : ∃ q d0 d1 d2 d3 d4 co ro na l0 l1 l2 l3 sp cd da cb A n m x0 x1 x2, c.1 = .r b q ∧ c.2.2 = ({ c0.2.2 with d0 := d0, d1 := d1, d2 := d2, d3 := d3, d4 := d4, co := co, ro := ro, na := na, l0 := l0, l1 := l1, l2 := l2, l3 := l3, sp := sp, cd := cd, da := da, cb := cb, A := A, n := n, c := m, x0 := x0, x1 := x1, x2 := x2 } : Hd) ∧
    ((-31 ≤ d0 ∧ d0 ≤ 31) ∧ (-31 ≤ d1 ∧ d1 ≤ 31) ∧ (-31 ≤ d2 ∧ d2 ≤ 31) ∧ (-31 ≤ d3 ∧ d3 ≤ 31) ∧ (-31 ≤ d4 ∧ d4 ≤ 31)) ∧ logM co w = true ∧ logM ro e = true ∧ c.2.2.mayF X = true ∧ Bt b p q (tBits c.2.2 X) := by
  obtain ⟨c1, h1, c2, h2, c3, h3, c4, h4, c5, h5, c6, h6, c7, h7, c8, h8, h9⟩ := ht
  have z8 : c8.2.1 = 0 := by
    refine Dd.ok (c := c) ?_ h0
    split at h9
    · rw [h9.1]; exact .rfl'
    · exact FiltT_d h9
  have z7 := (dFl h8).ok z8
  have z6 := (dLg h7).ok z7
  have z5 := (dLg h6).ok z6
  have z4 := (dDl h5).ok z5
  have z3 := (dDl h4).ok z4
  have z2 := (dDl h3).ok z3
  have z1 := (dDl h2).ok z2
  obtain ⟨_, q1, y1, e1, r1, B1⟩ := dB' (by rw [hz]) h1 hc hp z1
  have E1 : c1.2.2 = ({ c0.2.2 with d0 := y1 } : Hd) := by rw [e1]
  have k1 : c1.1 = .r b q1 := by rw [e1]
  obtain ⟨_, q2, y2, e2, r2, B2⟩ := dB' (by rw [E1, hz]) h2 k1 B1.le z2
  have E2 : c2.2.2 = ({ c0.2.2 with d0 := y1, d1 := y2 } : Hd) := by rw [e2]; show ({ c1.2.2 with d1 := y2 } : Hd) = _; rw [E1]
  have k2 : c2.1 = .r b q2 := by rw [e2]
  obtain ⟨_, q3, y3, e3, r3, B3⟩ := dB' (by rw [E2, hz]) h3 k2 B2.le z3
  have E3 : c3.2.2 = ({ c0.2.2 with d0 := y1, d1 := y2, d2 := y3 } : Hd) := by rw [e3]; show ({ c2.2.2 with d2 := y3 } : Hd) = _; rw [E2]
  have k3 : c3.1 = .r b q3 := by rw [e3]
  obtain ⟨_, q4, y4, e4, r4, B4⟩ := dB' (by rw [E3, hz]) h4 k3 B3.le z4
  have E4 : c4.2.2 = ({ c0.2.2 with d0 := y1, d1 := y2, d2 := y3, d3 := y4 } : Hd) := by rw [e4]; show ({ c3.2.2 with d3 := y4 } : Hd) = _; rw [E3]
  have k4 : c4.1 = .r b q4 := by rw [e4]
  obtain ⟨_, q5, y5, e5, r5, B5⟩ := dB' (by rw [E4, hz]) h5 k4 B4.le z5
  have E5 : c5.2.2 = ({ c0.2.2 with d0 := y1, d1 := y2, d2 := y3, d3 := y4, d4 := y5 } : Hd) := by rw [e5]; show ({ c4.2.2 with d4 := y5 } : Hd) = _; rw [E4]
  have k5 : c5.1 = .r b q5 := by rw [e5]
  obtain ⟨_, q6, y6, e6, r6, B6⟩ := lB h6 k5 B5.le z6
  have E6 : c6.2.2 = ({ c0.2.2 with d0 := y1, d1 := y2, d2 := y3, d3 := y4, d4 := y5, co := y6 } : Hd) := by rw [e6]; show ({ c5.2.2 with co := y6 } : Hd) = _; rw [E5]
  have k6 : c6.1 = .r b q6 := by rw [e6]
  obtain ⟨_, q7, y7, e7, r7, B7⟩ := lB h7 k6 B6.le z7
  have E7 : c7.2.2 = ({ c0.2.2 with d0 := y1, d1 := y2, d2 := y3, d3 := y4, d4 := y5, co := y6, ro := y7 } : Hd) := by rw [e7]; show ({ c6.2.2 with ro := y7 } : Hd) = _; rw [E6]
  have k7 : c7.1 = .r b q7 := by rw [e7]
  obtain ⟨_, q8, y8, e8, B8⟩ := fB h8 k7 B7.le z8
  have E8 : c8.2.2 = ({ c0.2.2 with d0 := y1, d1 := y2, d2 := y3, d3 := y4, d4 := y5, co := y6, ro := y7, na := y8 } : Hd) := by rw [e8]; show ({ c7.2.2 with na := y8 } : Hd) = _; rw [E7]
  have k8 : c8.1 = .r b q8 := by rw [e8]
  have BB := ((((((B1.app B2).app B3).app B4).app B5).app B6).app B7).app B8
  have Z8 : c8.2.2 = ({ c0.2.2 with d0 := y1, d1 := y2, d2 := y3, d3 := y4, d4 := y5, co := y6, ro := y7, na := y8, l0 := 0, l1 := 0, l2 := 0, l3 := 0, sp := 0, cd := false, da := 0, cb := 0, x0 := false, x1 := false, x2 := false } : Hd) := by
    rw [E8]
    generalize c0.2.2 = g at hz ⊢
    rw [hz]
  cases hl : c8.2.2.less with
  | true =>
    rw [if_pos hl] at h9
    obtain ⟨rfl, rfl⟩ := h9
    refine ⟨q8, y1, y2, y3, y4, y5, y6, y7, y8, 0, 0, 0, 0, 0, false, 0, 0, c.2.2.A, c.2.2.n, c.2.2.c, false, false, false, k8, ?_, ⟨r1, r2, r3, r4, r5⟩, r6, r7, ?_, ?_⟩
    · refine Z8.trans ?_
      rw [Z8]
    · unfold Hd.mayF
      rw [if_pos hl]
      refine decide_eq_true ?_
      rw [Z8]
      exact ⟨⟨rfl, rfl, rfl, rfl⟩, rfl, rfl, rfl, rfl, rfl, rfl, rfl, rfl⟩
    · unfold tBits
      rw [if_pos hl, List.append_nil, E8]
      exact BB
  | false =>
    rw [if_neg (by rw [hl]; decide)] at h9
    obtain ⟨q, l0, l1, l2, l3, sp, cd, da, cb, A, n, m, x0, x1, x2, f1, f2, f3, f4, f5⟩ := filt_b k8 B8.le ⟨by rw [Z8], by rw [Z8]⟩ h9 h0
    have hlc : c.2.2.less = false := by
      have : c.2.2.less = c8.2.2.less := by rw [f2]; rfl
      rw [this, hl]
    refine ⟨q, y1, y2, y3, y4, y5, y6, y7, y8, l0, l1, l2, l3, sp, cd, da, cb, A, n, m, x0, x1, x2, f1, by rw [f2, E8], ⟨r1, r2, r3, r4, r5⟩, r6, r7, ?_, ?_⟩
    · unfold Hd.mayF
      rw [if_neg (by rw [hlc]; decide), f2, Bool.and_eq_true, decide_eq_true_eq]
      exact ⟨f3, f4⟩
    · unfold tBits
      rw [if_neg (by rw [hlc]; decide), f2]
      unfold fBits
      rw [E8]
      exact BB.app f5
theorem ref_b (hc : c0.1 = .r b p) (hp : p ≤ 8 * b.length) (hr : c0.2.2.r0 = 0 ∧ c0.2.2.r1 = 0 ∧ c0.2.2.r2 = 0) (ht : RefT c0 c) (h0 : c.2.1 = 0) : ∃ q r0 r1 r2 pr, c.1 = .r b q ∧ c.2.2 = ({ c0.2.2 with r0 := r0, r1 := r1, r2 := r2, pr := pr } : Hd) ∧
    (-1 ≤ pr ∧ pr ≤ 7) ∧ (c0.2.2.ke = true → (r0 = 0 ∧ r1 = 0 ∧ r2 = 0) ∧ pr = -1) ∧ ((0 ≤ r0 ∧ r0 ≤ 7) ∧ (0 ≤ r1 ∧ r1 ≤ 7) ∧ (0 ≤ r2 ∧ r2 ≤ 7)) ∧ Bt b p q (rBits c.2.2) := by
  obtain ⟨c1, t, k1, k2⟩ := ht
  have z1 : c1.2.1 = 0 := by
    refine Dd.ok (c := c) ?_ h0
    split at k2
    · exact dN k2
    · rw [k2]; exact fun _ => ⟨rfl, rfl⟩
  by_cases hk : c0.2.2.ke = true
  · rw [if_pos hk] at k1
    obtain ⟨rfl, rfl⟩ := k1
    rw [if_neg (by decide)] at k2
    refine ⟨p, 0, 0, 0, -1, by rw [k2]; exact hc, ?_, by decide, fun _ => by decide, by decide, ?_⟩
    · rw [k2]
      obtain ⟨t1, t2, t3⟩ := hr
      show ({ c1.2.2 with pr := -1 } : Hd) = _
      generalize c1.2.2 = g at t1 t2 t3 ⊢
      cases g
      simp only at t1 t2 t3
      subst t1 t2 t3
      rfl
    · unfold rBits
      rw [k2, if_pos (show c1.2.2.ke = true from hk)]
      exact .nil hp
  · rw [if_neg hk] at k1
    obtain ⟨c2, h2, c3, h3, c4, h4, h5, h6⟩ := k1
    have d5 : Dd c4 c1 := fun he => by rw [h5]; exact flagD_d he
    have z4 := d5.ok z1
    have z3 := (dN h4).ok z4
    have z2 := (dN h3).ok z3
    obtain ⟨_, q2, y2, e2, a2, b2, B2⟩ := nB0 (n := 3) (by decide) h2 hc hp z2
    have E2 : c2.2.2 = ({ c0.2.2 with r0 := y2 } : Hd) := by rw [e2]
    obtain ⟨_, q3, y3, e3, a3, b3, B3⟩ := nB0 (n := 3) (by decide) h3 (show c2.1 = .r b q2 by rw [e2]) B2.le z3
    have E3 : c3.2.2 = ({ c0.2.2 with r0 := y2, r1 := y3 } : Hd) := by rw [e3]; show ({ c2.2.2 with r1 := y3 } : Hd) = _; rw [E2]
    obtain ⟨_, q4, y4, e4, a4, b4, B4⟩ := nB0 (n := 3) (by decide) h4 (show c3.1 = .r b q3 by rw [e3]) B3.le z4
    have E4 : c4.2.2 = ({ c0.2.2 with r0 := y2, r1 := y3, r2 := y4 } : Hd) := by rw [e4]; show ({ c3.2.2 with r2 := y4 } : Hd) = _; rw [E3]
    have k4 : c4.1 = .r b q4 := by rw [e4]
    have zf : (flagD (.r b q4) c4.2.1 (decide (c0.2.2.pr ≥ 0))).2.1 = 0 := by rw [h5] at z1; rw [k4] at z1; exact z1
    obtain ⟨_, q5, x, e5, B5⟩ := flagD_b B4.le zf
    rw [k4, e5] at h5 h6
    have b2 : y2 < 8 := b2
    have b3 : y3 < 8 := b3
    have b4 : y4 < 8 := b4
    have BB := ((B2.app B3).app B4).app B5
    have hx : t = x := h6
    cases x with
    | true =>
      rw [if_pos hx] at k2
      obtain ⟨_, q6, y6, e6, a6, b6, B6⟩ := nB0 (n := 3) (by decide) k2 (show c1.1 = .r b q5 by rw [h5]) B5.le h0
      have b6 : y6 < 8 := b6
      have E6 : c.2.2 = ({ c0.2.2 with r0 := y2, r1 := y3, r2 := y4, pr := y6 } : Hd) := by rw [e6]; show ({ c1.2.2 with pr := y6 } : Hd) = _; rw [h5]; show ({ c4.2.2 with pr := y6 } : Hd) = _; rw [E4]
      refine ⟨q6, y2, y3, y4, y6, by rw [e6], E6, by omega, fun h => absurd h hk, by omega, ?_⟩
      unfold rBits
      rw [E6, if_neg hk]
      have g1 : y6 ≥ 0 := a6
      show Bt b p q6 (bI y2 3 ++ bI y3 3 ++ bI y4 3 ++ [yes (decide (y6 ≥ 0))] ++ (if y6 ≥ 0 then bI y6 3 else []))
      rw [if_pos g1, decide_eq_true g1]
      exact BB.app B6
    | false =>
      rw [if_neg (by rw [hx]; decide)] at k2
      have E6 : c.2.2 = ({ c0.2.2 with r0 := y2, r1 := y3, r2 := y4, pr := -1 } : Hd) := by rw [k2]; show ({ c1.2.2 with pr := -1 } : Hd) = _; rw [h5]; show ({ c4.2.2 with pr := -1 } : Hd) = _; rw [E4]
      refine ⟨q5, y2, y3, y4, -1, by rw [k2]; show c1.1 = _; rw [h5], E6, by decide, fun h => absurd h hk, by omega, ?_⟩
      unfold rBits
      rw [E6, if_neg hk]
      show Bt b p q5 (bI y2 3 ++ bI y3 3 ++ bI y4 3 ++ [yes (decide ((-1 : Int) ≥ 0))] ++ (if (-1 : Int) ≥ 0 then bI (-1) 3 else []))
      rw [if_neg (by decide), List.append_nil]
      exact BB
end
end Go.Zt


/- Layer 20: HeadsAny: a whole header that is read without a fault: it may be, and its bits stood there. Plain. -/
set_option linter.unusedSimpArgs false
set_option linter.unusedVariables false
set_option maxRecDepth 100000
namespace Go.Zt
open Go Go.Sim Go.Proofs Go.RowKit

section
variable {b : List Nat} {p : Nat} {c c0 : Cd} {X : List Sg} {w e : Int}
theorem head_b (hm : mayS w e = true) (hp : p ≤ 8 * b.length) (ht : HeadT w e (.r b p, 0, zP) [] c X) (h0 : c.2.1 = 0) : ∃ q, c.1 = .r b q ∧ c.2.2.may X w e = true ∧ Bt b p q (hBits c.2.2 X) := by
  obtain ⟨c1, h1, ht⟩ := ht
  have z1 : c1.2.1 = 0 := by
    refine Dd.ok (c := c) ?_ h0
    split at ht
    · exact dN ht.1
    · obtain ⟨c2, h2, c3, h3, c4, h4, c5, h5, c6, h6, h7⟩ := ht
      exact (dFl h2).trans ((dFl h3).trans ((dN h4).trans ((RefT_d h5).trans ((dN h6).trans (TailT_d h7)))))
  obtain ⟨_, q1, y1, e1, B1⟩ := fB h1 (show (Dv.r b p, 0, zP).1 = .r b p from rfl) hp z1
  have E1 : c1.2.2 = ({ zP with ex := y1 } : Hd) := by rw [e1]
  have k1 : c1.1 = .r b q1 := by rw [e1]
  cases hy : y1 with
  | true =>
    rw [if_pos (by rw [E1, hy])] at ht
    obtain ⟨_, q2, y2, e2, a2, b2, B2⟩ := nB0 (n := 3) (by decide) ht.1 k1 B1.le h0
    have b2 : y2 < 8 := b2
    have E2 : c.2.2 = ({ zP with ex := true, sl := y2 } : Hd) := by rw [e2]; show ({ c1.2.2 with sl := y2 } : Hd) = _; rw [E1, hy]
    refine ⟨q2, by rw [e2], ?_, ?_⟩
    · rw [E2, ht.2]
      unfold Hd.may
      rw [hm]
      have : decide (0 ≤ y2 ∧ y2 ≤ 7) = true := decide_eq_true ⟨a2, by omega⟩
      simp only [Bool.true_and, if_true]
      rw [this]
      rfl
    · unfold hBits
      rw [E2]
      rw [hy] at B1
      exact B1.app B2
  | false =>
    rw [if_neg (by rw [E1, hy]; decide)] at ht
    obtain ⟨c2, h2, c3, h3, c4, h4, c5, h5, c6, h6, h7⟩ := ht
    have z6 := (TailT_d h7).ok h0
    have z5 := (dN h6).ok z6
    have z4 := (RefT_d h5).ok z5
    have z3 := (dN h4).ok z4
    have z2 := (dFl h3).ok z3
    obtain ⟨_, q2, y2, e2, B2⟩ := fB h2 k1 B1.le z2
    have E2 : c2.2.2 = ({ zP with ex := false, sh := y2 } : Hd) := by rw [e2]; show ({ c1.2.2 with sh := y2 } : Hd) = _; rw [E1, hy]
    obtain ⟨_, q3, y3, e3, B3⟩ := fB h3 (show c2.1 = .r b q2 by rw [e2]) B2.le z3
    have E3 : c3.2.2 = ({ zP with ex := false, sh := y2, ke := y3 } : Hd) := by rw [e3]; show ({ c2.2.2 with ke := y3 } : Hd) = _; rw [E2]
    obtain ⟨_, q4, y4, e4, a4, b4, B4⟩ := nB0 (n := 8) (by decide) h4 (show c3.1 = .r b q3 by rw [e3]) B3.le z4
    have E4 : c4.2.2 = ({ zP with ex := false, sh := y2, ke := y3, rf := y4 } : Hd) := by rw [e4]; show ({ c3.2.2 with rf := y4 } : Hd) = _; rw [E3]
    have b4 : y4 < 256 := b4
    obtain ⟨q5, r0, r1, r2, pr, k5, E5, g1, g2, g3, B5⟩ := ref_b (show c4.1 = .r b q4 by rw [e4]) B4.le (by rw [E4]; exact ⟨rfl, rfl, rfl⟩) h5 z5
    obtain ⟨_, q6, y6, e6, a6, b6, B6⟩ := nB0 (n := 8) (by decide) h6 k5 B5.le z6
    have b6 : y6 < 256 := b6
    have b4' : y4 ≤ 255 := by omega
    have b6' : y6 ≤ 255 := by omega
    have E5' : c5.2.2 = ({ zP with ex := false, sh := y2, ke := y3, rf := y4, r0 := r0, r1 := r1, r2 := r2, pr := pr } : Hd) := by rw [E5, E4]
    have E6 : c6.2.2 = ({ zP with ex := false, sh := y2, ke := y3, rf := y4, r0 := r0, r1 := r1, r2 := r2, pr := pr, ba := y6 } : Hd) := by rw [e6]; show ({ c5.2.2 with ba := y6 } : Hd) = _; rw [E5']
    obtain ⟨q7, d0, d1, d2, d3, d4, co, ro, na, l0, l1, l2, l3, sp, cd, da, cb, A, n, m, x0, x1, x2, f1, f2, f3, f4, f5, f6, B7⟩ := tail_b (show c6.1 = .r b q6 by rw [e6]) B6.le (by rw [E6]) h7 h0
    have hk : c4.2.2.ke = y3 := by rw [E4]
    rw [E6] at f2
    have hex : c.2.2.ex = false := by rw [f2]
    refine ⟨q7, f1, ?_, ?_⟩
    · refine (may_iff hex hm).2 ?_
      refine ⟨?_, ?_, ?_, ?_, ?_, ?_, f6⟩
      · rw [f2]; exact ⟨rfl, ⟨a4, b4'⟩, g1, ⟨a6, b6'⟩⟩
      · rw [f2]; intro hh; exact g2 (by rw [hk]; exact hh)
      · rw [f2]; exact g3
      · rw [f2]; exact f3
      · rw [f2]; exact f4
      · rw [f2]; exact f5
    · have hr : rBits c5.2.2 = rBits c.2.2 := by rw [E5', f2]; rfl
      unfold hBits
      rw [if_neg (by rw [hex]; decide)]
      rw [hr] at B5
      rw [hy] at B1
      have e0 : [yes c.2.2.ex] = [yes false] := by rw [hex]
      have e1 : [yes c.2.2.sh] = [yes y2] := by rw [f2]
      have e2 : [yes c.2.2.ke] = [yes y3] := by rw [f2]
      have e3 : bI c.2.2.rf 8 = bI y4 8 := by rw [f2]
      have e4 : bI c.2.2.ba 8 = bI y6 8 := by rw [f2]
      rw [e0, e1, e2, e3, e4]
      exact B1.app (((((B2.app B3).app B4).app B5).app B6).app B7)
end
end Go.Zt


/- Layer 20: HeadsAny: which faults a reading may have. Plain. -/
set_option linter.unusedSimpArgs false
set_option linter.unusedVariables false
set_option maxRecDepth 100000
namespace Go.Zt
open Go Go.Sim Go.Proofs Go.RowKit

/-- A reader of b with one of the faults that there are. -/
def Er (b : List Nat) (c : Cd) : Prop := (∃ p, c.1 = .r b p) ∧ (c.2.1 = 0 ∨ c.2.1 = 3 ∨ c.2.1 = 4 ∨ c.2.1 = 5)
section
variable {b : List Nat} {w e : Int} {c c0 c1 : Cd} {X X0 : List Sg}
theorem numD_er {p e : Nat} {v f : Int} {n : Nat} (hn : n ≤ 32) (he : e = 0 ∨ e = 3 ∨ e = 4 ∨ e = 5) : (∃ q, (numD (.r b p) e v n f).1 = .r b q) ∧ ((numD (.r b p) e v n f).2.1 = 0 ∨ (numD (.r b p) e v n f).2.1 = 3 ∨ (numD (.r b p) e v n f).2.1 = 4 ∨ (numD (.r b p) e v n f).2.1 = 5) := by
  unfold numD
  by_cases h : e ≠ 0
  · rw [if_pos h]; exact ⟨⟨p, rfl⟩, he⟩
  · rw [if_neg h]
    refine ⟨⟨_, rfl⟩, ?_⟩
    have key : (rFixed b p n).2.1 = 0 ∨ (rFixed b p n).2.1 = 3 := by
      unfold rFixed
      rw [if_neg (by omega)]
      split
      · exact .inr rfl
      · exact .inl rfl
    rcases key with h | h
    · exact .inl h
    · exact .inr (.inl h)
theorem flagD_er {p e : Nat} {v : Bool} (he : e = 0 ∨ e = 3 ∨ e = 4 ∨ e = 5) : (∃ q, (flagD (.r b p) e v).1 = .r b q) ∧ ((flagD (.r b p) e v).2.1 = 0 ∨ (flagD (.r b p) e v).2.1 = 3 ∨ (flagD (.r b p) e v).2.1 = 4 ∨ (flagD (.r b p) e v).2.1 = 5) := numD_er (n := 1) (by decide) he
theorem Er.n {v f : Int} {n : Nat} {s : Int → Hd} (R : Er b c0) (hn : n ≤ 32) (h : c = nF c0 v s n f) : Er b c := by
  obtain ⟨⟨p, hd⟩, he⟩ := R
  obtain ⟨a1, a2⟩ := numD_er (b := b) (p := p) (v := v) (f := f) hn he
  subst h
  unfold Er nF
  rw [hd]
  exact ⟨a1, a2⟩
theorem Er.f {v : Bool} {s : Bool → Hd} (R : Er b c0) (h : c = fF c0 v s) : Er b c := by
  obtain ⟨⟨p, hd⟩, he⟩ := R
  obtain ⟨a1, a2⟩ := flagD_er (b := b) (p := p) (v := v) he
  subst h
  unfold Er fF
  rw [hd]
  exact ⟨a1, a2⟩
theorem Er.d {v : Int} {s : Int → Hd} (R : Er b c0) (h : c = dF' c0 v s) : Er b c := by
  obtain ⟨⟨p, hd⟩, he⟩ := R
  obtain ⟨⟨q, a1⟩, a2⟩ := flagD_er (b := b) (p := p) (v := v != 0) he
  subst h
  unfold Er dF' deltaD
  rw [hd]
  split
  · exact ⟨⟨q, a1⟩, a2⟩
  · rw [a1]
    refine ⟨⟨_, rfl⟩, ?_⟩
    dsimp only
    split
    · exact .inr (.inr (.inl rfl))
    · have key : (rSigned b q 5).2.1 = 0 ∨ (rSigned b q 5).2.1 = 3 ∨ (rSigned b q 5).2.1 = 4 := by
        unfold rSigned
        rw [if_neg (by decide)]
        split
        · exact .inr (.inl rfl)
        · split
          · split
            · exact .inr (.inr rfl)
            · exact .inl rfl
          · exact .inl rfl
      rcases key with h | h | h
      · exact .inl h
      · exact .inr (.inl h)
      · exact .inr (.inr (.inl h))
theorem Er.l {v z : Int} {s : Int → Hd} (R : Er b c0) (h : c = gF c0 v s z) : Er b c := by
  obtain ⟨⟨p, hd⟩, he⟩ := R
  obtain ⟨⟨q, a1⟩, a2⟩ := numD_er (b := b) (p := p) (v := v) (f := 0) (n := 2) (by decide) he
  have a1' : (numD (.r b p) c0.2.1 v 2 0).1 = .r b q := a1
  subst h
  unfold Er gF logD
  rw [hd]
  split
  · exact ⟨⟨q, a1'⟩, .inr (.inr (.inr rfl))⟩
  · exact ⟨⟨q, a1'⟩, a2⟩
theorem sg_er {p e : Nat} (he : e = 0 ∨ e = 3 ∨ e = 4 ∨ e = 5) (x : Sg) : (∃ q, (sg1 (.r b p) e x).1 = .r b q) ∧ ((sg1 (.r b p) e x).2.1 = 0 ∨ (sg1 (.r b p) e x).2.1 = 3 ∨ (sg1 (.r b p) e x).2.1 = 4 ∨ (sg1 (.r b p) e x).2.1 = 5) := by
  unfold sg1
  dsimp only
  obtain ⟨⟨q1, a1⟩, b1⟩ := numD_er (b := b) (p := p) (v := x.a) (f := 0) (n := 4) (by decide) he
  have a1' : (numD (.r b p) e x.a 4 0).1 = .r b q1 := a1
  rw [a1']
  obtain ⟨⟨q2, a2⟩, b2⟩ := numD_er (b := b) (p := q1) (v := x.b) (f := 0) (n := 2) (by decide) b1
  have a2' : (numD (.r b q1) (numD (.r b p) e x.a 4 0).2.1 x.b 2 0).1 = .r b q2 := a2
  rw [a2']
  obtain ⟨⟨q3, a3⟩, b3⟩ := numD_er (b := b) (p := q2) (v := x.c) (f := 0) (n := 4) (by decide) b2
  have a3' : (numD (.r b q2) (numD (.r b q1) (numD (.r b p) e x.a 4 0).2.1 x.b 2 0).2.1 x.c 4 0).1 = .r b q3 := a3
  rw [a3']
  exact numD_er (b := b) (p := q3) (v := x.d) (f := 0) (n := 2) (by decide) b3
theorem sgs_er : ∀ (X : List Sg) {p e : Nat}, (e = 0 ∨ e = 3 ∨ e = 4 ∨ e = 5) → (∃ q, (sgsD (.r b p) e X).1 = .r b q) ∧ ((sgsD (.r b p) e X).2.1 = 0 ∨ (sgsD (.r b p) e X).2.1 = 3 ∨ (sgsD (.r b p) e X).2.1 = 4 ∨ (sgsD (.r b p) e X).2.1 = 5)
  | [], p, e, he => ⟨⟨p, rfl⟩, he⟩
  | x :: X, p, e, he => by
    simp only [sgsD]
    obtain ⟨⟨q, a1⟩, a2⟩ := sg_er (b := b) (p := p) he x
    rw [a1]
    exact sgs_er X a2
theorem StrT_er (h : StrT c0 X0 c X) (R : Er b c0) : Er b c := by
  obtain ⟨c1, h1, c2, h2, c3, X3, h3, h4, _⟩ := h
  have R2 := (R.n (n := 2) (by decide) h1).n (n := 2) (by decide) h2
  have R3 : Er b c3 := by
    split at h3
    · rw [h3.1]; exact R2
    · rename_i b' p' hd
      split at h3
      · obtain ⟨⟨A, m, hc⟩, _⟩ := h3
        rw [hc]
        exact ⟨by obtain ⟨⟨q, hq⟩, _⟩ := R2; exact ⟨q, by rw [← hq, hd]⟩, R2.2⟩
      · rw [h3.1]; exact R2
  obtain ⟨⟨p, hd⟩, he⟩ := R3
  rw [h4, hd]
  exact sgs_er X3 he
theorem FiltT_er (h : FiltT c0 X0 c X) (R : Er b c0) : Er b c := by
  obtain ⟨c1, h1, c2, h2, c3, h3, c4, h4, c5, h5, c6, h6, c7, h7, c8, h8, c9, h9, h10⟩ := h
  have R6 := (((((R.n (n := 6) (by decide) h1).n (n := 6) (by decide) h2).n (n := 6) (by decide) h3).n (n := 6) (by decide) h4).n (n := 3) (by decide) h5).f h6
  have R7 : Er b c7 := by
    split at h7
    · exact StrT_er h7 R6
    · rw [h7.1]; exact R6
  exact ((R7.f h8).f h9).f h10
theorem TailT_er (h : TailT w e c0 X0 c X) (R : Er b c0) : Er b c := by
  obtain ⟨c1, h1, c2, h2, c3, h3, c4, h4, c5, h5, c6, h6, c7, h7, c8, h8, h9⟩ := h
  have R8 := (((((((R.d h1).d h2).d h3).d h4).d h5).l h6).l h7).f h8
  split at h9
  · rw [h9.1]; exact R8
  · exact FiltT_er h9 R8
theorem RefT_er (h : RefT c0 c) (R : Er b c0) : Er b c := by
  obtain ⟨c1, t, h1, h2⟩ := h
  have R1 : Er b c1 := by
    split at h1
    · rw [h1.1]; exact R
    · obtain ⟨c2, k2, c3, k3, c4, k4, k5, _⟩ := h1
      obtain ⟨⟨p, hd⟩, he⟩ := ((R.n (n := 3) (by decide) k2).n (n := 3) (by decide) k3).n (n := 3) (by decide) k4
      rw [k5, hd]
      exact flagD_er he
  split at h2
  · exact R1.n (n := 3) (by decide) h2
  · rw [h2]; exact R1
theorem HeadT_er {p : Nat} (h : HeadT w e (.r b p, 0, zP) X0 c X) : Er b c := by
  have R : Er b (.r b p, 0, zP) := ⟨⟨p, rfl⟩, .inl rfl⟩
  obtain ⟨c1, h1, h⟩ := h
  have R1 := R.f h1
  split at h
  · exact R1.n (n := 3) (by decide) h.1
  · obtain ⟨c2, h2, c3, h3, c4, h4, c5, h5, c6, h6, h7⟩ := h
    exact TailT_er h7 ((RefT_er h5 (((R1.f h2).f h3).n (n := 8) (by decide) h4)).n (n := 8) (by decide) h6)
end
end Go.Zt


/- Layer 20: HeadsAny: a reading of a prefix: alike, or it runs out. Plain. -/
set_option linter.unusedSimpArgs false
set_option linter.unusedVariables false
set_option maxRecDepth 100000
namespace Go.Zt
open Go Go.Sim Go.Proofs Go.RowKit

/-- b' stands at the start of b. -/
def Pre (b' b : List Nat) : Prop := b'.length ≤ b.length ∧ ∀ i, i < 8 * b'.length → bitOf b' i = bitOf b i
/-- Where the whole is read without a fault, the prefix is read alike, or runs out. -/
def Pf (b' b : List Nat) (c' c : Cd) : Prop := c.2.1 = 0 → c'.2.1 = 3 ∨ (c'.2.1 = 0 ∧ (∃ p, c'.1 = .r b' p ∧ c.1 = .r b p) ∧ wo c'.2.2 = wo c.2.2)
theorem numb_congr {f g : Nat → Nat} {a : Nat} : ∀ {n : Nat}, (∀ i, a ≤ i → i < a + n → f i = g i) → numb f a n = numb g a n
  | 0, _ => rfl
  | n + 1, h => by rw [numb, numb, numb_congr (n := n) fun i h1 h2 => h i h1 (by omega), h (a + n) (by omega) (by omega)]
section
variable {b b' : List Nat} {w e : Int} {c c' c0 c0' : Cd} {X X' : List Sg} (P : Pre b' b)
include P
theorem fixed_pf {p n : Nat} (hn : n ≤ 32) (h0 : (rFixed b p n).2.1 = 0) : (rFixed b' p n).2.1 = 3 ∨ rFixed b' p n = rFixed b p n := by
  have hq : ∀ b : List Nat, rFixed b p n = if ((n : Nat) : Int) > ((8 * b.length : Nat) : Int) - p then (0, 3, p) else (numb (bitOf b) p n, 0, p + n) := by
    intro b
    unfold rFixed
    rw [if_neg (by omega), Int.toNat_natCast]
  rw [hq b', hq b]
  by_cases hl : ((n : Nat) : Int) > ((8 * b'.length : Nat) : Int) - p
  · rw [if_pos hl]; exact .inl rfl
  · right
    have := P.1
    rw [if_neg hl, if_neg (by omega), numb_congr (f := bitOf b') (g := bitOf b) fun i h1 h2 => P.2 i (by omega)]
theorem numD_pf {p n : Nat} {v v' f : Int} (hn : n ≤ 32) (h0 : (numD (.r b p) 0 v n f).2.1 = 0) : (numD (.r b' p) 0 v' n f).2.1 = 3 ∨ ((numD (.r b' p) 0 v' n f).2.1 = 0 ∧ (∃ q, (numD (.r b' p) 0 v' n f).1 = .r b' q ∧ (numD (.r b p) 0 v n f).1 = .r b q) ∧ (numD (.r b' p) 0 v' n f).2.2 = (numD (.r b p) 0 v n f).2.2) := by
  have h0' : (rFixed b p n).2.1 = 0 := h0
  rcases fixed_pf P hn h0' with h | h
  · exact .inl h
  · right
    unfold numD
    rw [if_neg (show ¬ (0 : Nat) ≠ 0 by decide), if_neg (show ¬ (0 : Nat) ≠ 0 by decide)]
    dsimp only
    rw [h, h0']
    exact ⟨rfl, ⟨_, rfl, rfl⟩, rfl⟩
theorem Pf.n {v v' f : Int} {n : Nat} {s s' : Int → Hd} (R : Pf b' b c0' c0) (hn : n ≤ 32) (h' : c' = nF c0' v' s' n f) (h : c = nF c0 v s n f) (hs : wo c0'.2.2 = wo c0.2.2 → ∀ x, wo (s' x) = wo (s x)) : Pf b' b c' c := by
  intro h0
  rcases R ((dN h).ok h0) with r | ⟨r1, ⟨p, r2, r3⟩, r4⟩
  · exact .inl (by rw [(dN h' (by omega)).2]; exact r)
  · have z := (dN h).ok h0
    subst h h'
    have h0' : (numD c0.1 c0.2.1 v n f).2.1 = 0 := h0
    rw [r3, z] at h0'
    unfold nF
    rw [r2, r3, r1, z]
    rcases numD_pf P (v := v) (v' := v') hn h0' with t | ⟨t1, t2, t3⟩
    · exact .inl t
    · exact .inr ⟨t1, t2, by dsimp only; rw [t3]; exact hs r4 _⟩
theorem flagD_pf {p : Nat} {v v' : Bool} (h0 : (flagD (.r b p) 0 v).2.1 = 0) : (flagD (.r b' p) 0 v').2.1 = 3 ∨ ((flagD (.r b' p) 0 v').2.1 = 0 ∧ (∃ q, (flagD (.r b' p) 0 v').1 = .r b' q ∧ (flagD (.r b p) 0 v).1 = .r b q) ∧ (flagD (.r b' p) 0 v').2.2 = (flagD (.r b p) 0 v).2.2) := by
  rcases numD_pf P (v := if v then 1 else 0) (v' := if v' then 1 else 0) (f := 0) (n := 1) (p := p) (by decide) h0 with t | ⟨t1, t2, t3⟩
  · exact .inl t
  · exact .inr ⟨t1, t2, congrArg (· == (1 : Int)) t3⟩
theorem Pf.f {v v' : Bool} {s s' : Bool → Hd} (R : Pf b' b c0' c0) (h' : c' = fF c0' v' s') (h : c = fF c0 v s) (hs : wo c0'.2.2 = wo c0.2.2 → ∀ x, wo (s' x) = wo (s x)) : Pf b' b c' c := by
  intro h0
  rcases R ((dFl h).ok h0) with r | ⟨r1, ⟨p, r2, r3⟩, r4⟩
  · exact .inl (by rw [(dFl h' (by omega)).2]; exact r)
  · have z := (dFl h).ok h0
    subst h h'
    have h0' : (flagD c0.1 c0.2.1 v).2.1 = 0 := h0
    rw [r3, z] at h0'
    unfold fF
    rw [r2, r3, r1, z]
    rcases flagD_pf P (v := v) (v' := v') h0' with t | ⟨t1, t2, t3⟩
    · exact .inl t
    · exact .inr ⟨t1, t2, by dsimp only; rw [t3]; exact hs r4 _⟩
theorem Pf.l {v v' z : Int} {s s' : Int → Hd} (R : Pf b' b c0' c0) (h' : c' = gF c0' v' s' z) (h : c = gF c0 v s z) (hs : wo c0'.2.2 = wo c0.2.2 → ∀ x, wo (s' x) = wo (s x)) : Pf b' b c' c := by
  intro h0
  rcases R ((dLg h).ok h0) with r | ⟨r1, ⟨p, r2, r3⟩, r4⟩
  · exact .inl (by rw [(dLg h' (by omega)).2]; exact r)
  · have zz := (dLg h).ok h0
    subst h h'
    have h0' : (logD c0.1 c0.2.1 v z).2.1 = 0 := h0
    rw [r3, zz] at h0'
    have hn : (numD (.r b p) 0 v 2 0).2.1 = 0 ∧ ¬ ((numD (.r b p) 0 v 2 0).2.1 = 0 ∧ logM (numD (.r b p) 0 v 2 0).2.2 z = false) := by
      unfold logD at h0'
      split at h0'
      · cases h0'
      · rename_i hq; exact ⟨h0', hq⟩
    unfold gF logD
    rw [r2, r3, r1, zz, if_neg hn.2]
    rcases numD_pf P (v := v) (v' := v') (f := 0) (n := 2) (p := p) (by decide) hn.1 with t | ⟨t1, t2, t3⟩
    · have t' : (numD (.r b' p) 0 v' 2 0).2.1 = 3 := t
      rw [if_neg (fun q => by rw [t'] at q; cases q.1)]
      exact .inl t
    · have t1' : (numD (.r b' p) 0 v' 2 0).2.1 = 0 := t1
      have t3' : (numD (.r b' p) 0 v' 2 0).2.2 = (numD (.r b p) 0 v 2 0).2.2 := t3
      rw [if_neg (fun q => hn.2 ⟨hn.1, by rw [← t3']; exact q.2⟩)]
      exact .inr ⟨t1, t2, by dsimp only; rw [t3']; exact hs r4 _⟩
end
end Go.Zt


/- Layer 20: HeadsAny: a reading of a prefix: deltas, strengths, filters. Plain. -/
set_option linter.unusedSimpArgs false
set_option linter.unusedVariables false
set_option maxRecDepth 100000
namespace Go.Zt
open Go Go.Sim Go.Proofs Go.RowKit

section
variable {b b' : List Nat} {w e : Int} {c c' c0 c0' : Cd} {X X' : List Sg} (P : Pre b' b)
include P
theorem signed_pf {p : Nat} (h0 : (rSigned b p 5).2.1 = 0) : (rSigned b' p 5).2.1 = 3 ∨ rSigned b' p 5 = rSigned b p 5 := by
  have hq : ∀ b : List Nat, rSigned b p 5 = if (5 : Int) + 1 > ((8 * b.length : Nat) : Int) - p then (0, 3, p) else if bitOf b p = 1 then (if numb (bitOf b) (p + 1) 5 = 0 then (0, 4, p) else (-((numb (bitOf b) (p + 1) 5 : Nat) : Int), 0, p + (5 + 1))) else (((numb (bitOf b) (p + 1) 5 : Nat) : Int), 0, p + (5 + 1)) := by
    intro b
    unfold rSigned
    rw [if_neg (by decide)]
    rfl
  rw [hq b', hq b]
  by_cases hl : (5 : Int) + 1 > ((8 * b'.length : Nat) : Int) - p
  · rw [if_pos hl]; exact .inl rfl
  · right
    have := P.1
    have hl2 : ¬ (5 : Int) + 1 > ((8 * b.length : Nat) : Int) - p := by omega
    rw [if_neg hl, if_neg hl2, numb_congr (f := bitOf b') (g := bitOf b) fun i h1 h2 => P.2 i (by omega), P.2 p (by omega)]
theorem Pf.d {v v' : Int} {s s' : Int → Hd} (R : Pf b' b c0' c0) (hv : v = 0) (hv' : v' = 0) (h' : c' = dF' c0' v' s') (h : c = dF' c0 v s) (hs : wo c0'.2.2 = wo c0.2.2 → ∀ x, wo (s' x) = wo (s x)) : Pf b' b c' c := by
  intro h0
  rcases R ((dDl h).ok h0) with r | ⟨r1, ⟨p, r2, r3⟩, r4⟩
  · exact .inl (by rw [(dDl h' (by omega)).2]; exact r)
  · have zz := (dDl h).ok h0
    subst hv hv' h h'
    have h0' : (deltaD c0.1 c0.2.1 0).2.1 = 0 := h0
    rw [r3, zz] at h0'
    have hf : (flagD (.r b p) 0 ((0 : Int) != 0)).2.1 = 0 := by
      refine Classical.byContradiction fun q => ?_
      unfold deltaD at h0'
      rw [if_pos (.inr q)] at h0'
      exact q h0'
    unfold dF'
    rw [r2, r3, r1, zz]
    rcases flagD_pf P (v := (0 : Int) != 0) (v' := (0 : Int) != 0) hf with t | ⟨t1, ⟨q, t2, t4⟩, t3⟩
    · left
      show (deltaD (.r b' p) 0 0).2.1 = 3
      unfold deltaD
      rw [if_pos (.inr (by rw [t]; decide))]
      exact t
    · unfold deltaD at h0' ⊢
      rw [t3, t1, t2]
      rw [hf, t4] at h0' ⊢
      cases hx : (flagD (.r b p) 0 ((0 : Int) != 0)).2.2 with
      | false =>
        rw [if_pos (.inl rfl), if_pos (.inl rfl)]
        exact .inr ⟨rfl, ⟨q, rfl, rfl⟩, hs r4 _⟩
      | true =>
        rw [hx] at h0'
        simp only [Bool.true_eq_false, ne_eq, not_true_eq_false, or_self, if_false] at h0' ⊢
        have hn : (rSigned b q 5).2.1 = 0 ∧ ¬ ((rSigned b q 5).2.1 = 0 ∧ (rSigned b q 5).1 = 0) := by
          split at h0'
          · cases h0'
          · rename_i hq; exact ⟨h0', hq⟩
        rcases signed_pf P hn.1 with t | t
        · left
          rw [if_neg (fun q => by rw [t] at q; cases q.1)]
          exact t
        · right
          rw [t, if_neg hn.2]
          exact ⟨hn.1, ⟨_, rfl, rfl⟩, hs r4 _⟩
theorem sg_pf {p : Nat} (x x' : Sg) (h0 : (sg1 (.r b p) 0 x).2.1 = 0) : (sg1 (.r b' p) 0 x').2.1 = 3 ∨ ((sg1 (.r b' p) 0 x').2.1 = 0 ∧ (∃ q, (sg1 (.r b' p) 0 x').1 = .r b' q ∧ (sg1 (.r b p) 0 x).1 = .r b q) ∧ (sg1 (.r b' p) 0 x').2.2 = (sg1 (.r b p) 0 x).2.2) := by
  have dd : ∀ {d : Dv} {f : Nat} {v n g : Int}, (numD d f v n g).2.1 = 0 → f = 0 := fun {d f v n g} h => by
    refine Classical.byContradiction fun q => ?_
    rw [numD_d q] at h; exact q h
  have d3 : ∀ {d : Dv} {f : Nat} {v n g : Int}, f = 3 → (numD d f v n g).2.1 = 3 := fun {d f v n g} h => by rw [numD_d (by omega)]; exact h
  unfold sg1 at h0 ⊢
  dsimp only at h0 ⊢
  have z3 := dd h0
  have z2 := dd z3
  have z1 := dd z2
  rcases numD_pf P (v := x.a) (v' := x'.a) (f := 0) (n := 4) (p := p) (by decide) z1 with t | ⟨t1, ⟨q1, u1, w1⟩, y1⟩
  · exact .inl (d3 (d3 (d3 t)))
  have t1' : (numD (.r b' p) 0 x'.a 4 0).2.1 = 0 := t1
  have u1' : (numD (.r b' p) 0 x'.a 4 0).1 = .r b' q1 := u1
  have w1' : (numD (.r b p) 0 x.a 4 0).1 = .r b q1 := w1
  have y1' : (numD (.r b' p) 0 x'.a 4 0).2.2 = (numD (.r b p) 0 x.a 4 0).2.2 := y1
  rw [w1', z1] at z2 z3 h0 ⊢
  rw [u1', t1', y1']
  rcases numD_pf P (v := x.b) (v' := x'.b) (f := 0) (n := 2) (p := q1) (by decide) z2 with t | ⟨t2, ⟨q2, u2, w2⟩, y2⟩
  · exact .inl (d3 (d3 t))
  have t2' : (numD (.r b' q1) 0 x'.b 2 0).2.1 = 0 := t2
  have u2' : (numD (.r b' q1) 0 x'.b 2 0).1 = .r b' q2 := u2
  have w2' : (numD (.r b q1) 0 x.b 2 0).1 = .r b q2 := w2
  have y2' : (numD (.r b' q1) 0 x'.b 2 0).2.2 = (numD (.r b q1) 0 x.b 2 0).2.2 := y2
  rw [w2', z2] at z3 h0 ⊢
  rw [u2', t2', y2']
  rcases numD_pf P (v := x.c) (v' := x'.c) (f := 0) (n := 4) (p := q2) (by decide) z3 with t | ⟨t3, ⟨q3, u3, w3⟩, y3⟩
  · exact .inl (d3 t)
  have t3' : (numD (.r b' q2) 0 x'.c 4 0).2.1 = 0 := t3
  have u3' : (numD (.r b' q2) 0 x'.c 4 0).1 = .r b' q3 := u3
  have w3' : (numD (.r b q2) 0 x.c 4 0).1 = .r b q3 := w3
  have y3' : (numD (.r b' q2) 0 x'.c 4 0).2.2 = (numD (.r b q2) 0 x.c 4 0).2.2 := y3
  rw [w3', z3] at h0 ⊢
  rw [u3', t3', y3']
  rcases numD_pf P (v := x.d) (v' := x'.d) (f := 0) (n := 2) (p := q3) (by decide) h0 with t | ⟨t4, u4, y4⟩
  · exact .inl t
  have y4' : (numD (.r b' q3) 0 x'.d 2 0).2.2 = (numD (.r b q3) 0 x.d 2 0).2.2 := y4
  exact .inr ⟨t4, u4, by rw [y4']⟩
theorem sgs_pf : ∀ (Y Y' : List Sg) {p : Nat}, Y'.length = Y.length → (sgsD (.r b p) 0 Y).2.1 = 0 → (sgsD (.r b' p) 0 Y').2.1 = 3 ∨ ((sgsD (.r b' p) 0 Y').2.1 = 0 ∧ (∃ q, (sgsD (.r b' p) 0 Y').1 = .r b' q ∧ (sgsD (.r b p) 0 Y).1 = .r b q) ∧ (sgsD (.r b' p) 0 Y').2.2 = (sgsD (.r b p) 0 Y).2.2)
  | [], [], p, _, _ => .inr ⟨rfl, ⟨p, rfl, rfl⟩, rfl⟩
  | [], y :: Y, p, h, _ => by simp at h
  | y :: Y, [], p, h, _ => by simp at h
  | x :: Y, x' :: Y', p, hl, h0 => by
    simp only [sgsD] at h0 ⊢
    have z1 : (sg1 (.r b p) 0 x).2.1 = 0 := by
      refine Classical.byContradiction fun q => ?_
      rw [sgsD_d q] at h0; exact q h0
    rcases sg_pf P x x' z1 with t | ⟨t1, ⟨q, t2, t3⟩, t4⟩
    · left; rw [t, sgsD_d (by decide)]
    · rw [t3, z1] at h0 ⊢
      rw [t1, t2, t4]
      rcases sgs_pf Y Y' (by simpa using hl) h0 with u | ⟨u1, u2, u3⟩
      · exact .inl u
      · exact .inr ⟨u1, u2, by rw [u3]⟩
end
end Go.Zt


/- Layer 20: HeadsAny: a reading of a prefix: a whole header. Plain. -/
set_option linter.unusedSimpArgs false
set_option linter.unusedVariables false
set_option maxRecDepth 100000
namespace Go.Zt
open Go Go.Sim Go.Proofs Go.RowKit

section
variable {b b' : List Nat} {w e : Int} {c c' c0 c0' : Cd} {X X' : List Sg} (P : Pre b' b)
/-- A fault of the prefix stays. -/
theorem Pf.stay (h : c'.2.1 = 3) (k : Dd c' c0') : c0'.2.1 = 3 := by rw [(k (by omega)).2]; exact h
include P
theorem str_pf (R : Pf b' b c0' c0) (h' : StrT c0' [] c' X') (h : StrT c0 [] c X) : Pf b' b c' c ∧ (c.2.1 = 0 → c'.2.1 = 0 → X' = X) := by
  have hd := StrT_d h
  have hd' := StrT_d h'
  obtain ⟨c1, h1, c2, h2, c3, X3, h3, h4, h5⟩ := h
  obtain ⟨c1', h1', c2', h2', c3', X3', h3', h4', h5'⟩ := h'
  have R1 := R.n P (n := 2) (by decide) h1' h1 fun h x => congrArg (fun h : Hd => { h with da := x }) h
  have R2 := R1.n P (n := 2) (by decide) h2' h2 fun h x => congrArg (fun h : Hd => { h with cb := x }) h
  have key : c.2.1 = 0 → c'.2.1 = 3 ∨ (c'.2.1 = 0 ∧ (∃ p, c'.1 = .r b' p ∧ c.1 = .r b p) ∧ wo c'.2.2 = wo c.2.2 ∧ X' = X) := by
    intro h0
    have z3 : c3.2.1 = 0 := by
      refine Classical.byContradiction fun q => ?_
      rw [h4, sgsD_d q] at h0; exact q h0
    have z2 : c2.2.1 = 0 := by
      refine Classical.byContradiction fun q => ?_
      have : c3 = c2 := by
        split at h3
        · exact h3.1
        · rw [if_neg q] at h3; exact h3.1
      rw [this] at z3; exact q z3
    rcases R2 z2 with t | ⟨t1, ⟨p, t2, t3⟩, t4⟩
    · left
      have : c3' = c2' := by
        split at h3'
        · exact h3'.1
        · rw [if_neg (by omega)] at h3'; exact h3'.1
      rw [h4', this, sgsD_d (by omega)]
      exact t
    · have cb : c2'.2.2.cb = c2.2.2.cb := by have := congrArg Hd.cb t4; exact this
      rw [t3] at h3
      rw [t2] at h3'
      dsimp only at h3 h3'
      rw [if_pos z2] at h3
      rw [if_pos t1] at h3'
      obtain ⟨⟨A, m, k3⟩, kY⟩ := h3
      obtain ⟨⟨A', m', k3'⟩, kY'⟩ := h3'
      rw [k3] at h4 h5
      rw [k3'] at h4' h5'
      dsimp only at h4 h5 h4' h5'
      rw [z2] at h4 h5
      rw [t1] at h4' h5'
      have hz : (sgsD (.r b p) 0 X3).2.1 = 0 := by rw [h4] at h0; exact h0
      rcases sgs_pf P X3 X3' (by rw [kY, kY', List.length_replicate, List.length_replicate, cb]) hz with u | ⟨u1, u2, u3⟩
      · exact .inl (by rw [h4']; exact u)
      · refine .inr ⟨by rw [h4']; exact u1, by rw [h4', h4]; exact u2, ?_, by rw [h5, h5', u3]⟩
        rw [h4, h4']
        exact congrArg (fun h : Hd => { h with A := none, n := 0, c := 0 }) t4
  refine ⟨fun h0 => (key h0).imp id fun q => ⟨q.1, q.2.1, q.2.2.1⟩, fun h0 h1 => ?_⟩
  rcases key h0 with q | q
  · omega
  · exact q.2.2.2
theorem filt_pf (R : Pf b' b c0' c0) (h' : FiltT c0' [] c' X') (h : FiltT c0 [] c X) : Pf b' b c' c ∧ (c.2.1 = 0 → c'.2.1 = 0 → X' = X) := by
  obtain ⟨c1, h1, c2, h2, c3, h3, c4, h4, c5, h5, c6, h6, c7, h7, c8, h8, c9, h9, h10⟩ := h
  obtain ⟨r1, k1, r2, k2, r3, k3, r4, k4, r5, k5, r6, k6, r7, k7, r8, k8, r9, k9, k10⟩ := h'
  have R1 := R.n P (n := 6) (by decide) k1 h1 fun h x => congrArg (fun h : Hd => { h with l0 := x }) h
  have R2 := R1.n P (n := 6) (by decide) k2 h2 fun h x => congrArg (fun h : Hd => { h with l1 := x }) h
  have R3 := R2.n P (n := 6) (by decide) k3 h3 fun h x => congrArg (fun h : Hd => { h with l2 := x }) h
  have R4 := R3.n P (n := 6) (by decide) k4 h4 fun h x => congrArg (fun h : Hd => { h with l3 := x }) h
  have R5 := R4.n P (n := 3) (by decide) k5 h5 fun h x => congrArg (fun h : Hd => { h with sp := x }) h
  have R6 := R5.f P k6 h6 fun h x => congrArg (fun h : Hd => { h with cd := x }) h
  have D7 : Dd c6 c7 := by
    split at h7
    · exact StrT_d h7
    · rw [h7.1]; exact .rfl'
  have D7' : Dd r6 r7 := by
    split at k7
    · exact StrT_d k7
    · rw [k7.1]; exact .rfl'
  have R7 : Pf b' b r7 c7 ∧ (c7.2.1 = 0 → r7.2.1 = 0 → X' = X) := by
    by_cases hc : c6.2.2.cd = true ∧ c6.2.1 = 0
    · rw [if_pos hc] at h7
      rcases R6 hc.2 with t | ⟨t1, t2, t3⟩
      · exact ⟨fun _ => .inl (Pf.stay t D7'), fun _ h1 => by have := Pf.stay t D7'; omega⟩
      · have cd : r6.2.2.cd = c6.2.2.cd := by have := congrArg Hd.cd t3; exact this
        rw [if_pos ⟨by rw [cd]; exact hc.1, t1⟩] at k7
        exact str_pf P R6 k7 h7
    · rw [if_neg hc] at h7
      by_cases z : c6.2.1 = 0
      · rcases R6 z with t | ⟨t1, t2, t3⟩
        · exact ⟨fun _ => .inl (Pf.stay t D7'), fun _ h1 => by have := Pf.stay t D7'; omega⟩
        · have cd : r6.2.2.cd = c6.2.2.cd := by have := congrArg Hd.cd t3; exact this
          rw [if_neg (fun q => hc ⟨by rw [← cd]; exact q.1, z⟩)] at k7
          rw [h7.1, k7.1, h7.2, k7.2]
          exact ⟨R6, fun _ _ => rfl⟩
      · exact ⟨fun h0 => absurd (D7.ok h0) z, fun h0 _ => absurd (D7.ok h0) z⟩
  have R8 := R7.1.f P k8 h8 fun h x => congrArg (fun h : Hd => { h with x0 := x }) h
  have R9 := R8.f P k9 h9 fun h x => congrArg (fun h : Hd => { h with x1 := x }) h
  have R10 := R9.f P k10 h10 fun h x => congrArg (fun h : Hd => { h with x2 := x }) h
  exact ⟨R10, fun h0 h1 => R7.2 (((dFl h8).trans ((dFl h9).trans (dFl h10))).ok h0) (((dFl k8).trans ((dFl k9).trans (dFl k10))).ok h1)⟩
end
end Go.Zt


/- Layer 20: HeadsReads: a whole header. Plain. -/
set_option linter.unusedSimpArgs false
set_option linter.unusedVariables false
set_option maxRecDepth 100000
namespace Go.Zt
open Go Go.Sim Go.Proofs Go.RowKit

section
variable {b : List Nat} {w e : Int} {p : Nat} {c c0 c1 : Cd} {r r0 r1 : RS} {X X' X0 : List Sg}
abbrev Hd.dz (h : Hd) : Prop := h.d0 = 0 ∧ h.d1 = 0 ∧ h.d2 = 0 ∧ h.d3 = 0 ∧ h.d4 = 0
theorem RefT.dz (h : RefT c0 c) (hd : c0.2.2.dz) : c.2.2.dz := by
  obtain ⟨c1, t, h1, h2⟩ := h
  have q1 : c1.2.2.dz := by
    split at h1
    · rw [h1.1]; exact hd
    · obtain ⟨c2, k2, c3, k3, c4, k4, k5, _⟩ := h1
      rw [k5, k4, k3, k2]; exact hd
  split at h2
  · rw [h2]; exact q1
  · rw [h2]; exact q1
end
end Go.Zt


/- Layer 20: HeadsAny: a reading of a prefix: a whole header. Plain. -/
set_option linter.unusedSimpArgs false
set_option linter.unusedVariables false
set_option maxRecDepth 100000
namespace Go.Zt
open Go Go.Sim Go.Proofs Go.RowKit

section
variable {b b' : List Nat} {w e : Int} {p : Nat} {c c' c0 c0' : Cd} {X X' : List Sg} (P : Pre b' b)
include P
theorem tail_pf (R : Pf b' b c0' c0) (z' : c0'.2.2.dz) (z : c0.2.2.dz) (h' : TailT w e c0' [] c' X') (h : TailT w e c0 [] c X) : Pf b' b c' c ∧ (c.2.1 = 0 → c'.2.1 = 0 → X' = X) := by
  obtain ⟨c1, h1, c2, h2, c3, h3, c4, h4, c5, h5, c6, h6, c7, h7, c8, h8, h9⟩ := h
  obtain ⟨r1, k1, r2, k2, r3, k3, r4, k4, r5, k5, r6, k6, r7, k7, r8, k8, k9⟩ := h'
  have R1 := R.d P z.1 z'.1 k1 h1 fun h x => congrArg (fun h : Hd => { h with d0 := x }) h
  have a1 : c1.2.2.d1 = 0 ∧ c1.2.2.d2 = 0 ∧ c1.2.2.d3 = 0 ∧ c1.2.2.d4 = 0 := by rw [h1]; exact z.2
  have b1 : r1.2.2.d1 = 0 ∧ r1.2.2.d2 = 0 ∧ r1.2.2.d3 = 0 ∧ r1.2.2.d4 = 0 := by rw [k1]; exact z'.2
  have R2 := R1.d P a1.1 b1.1 k2 h2 fun h x => congrArg (fun h : Hd => { h with d1 := x }) h
  have a2 : c2.2.2.d2 = 0 ∧ c2.2.2.d3 = 0 ∧ c2.2.2.d4 = 0 := by rw [h2]; exact a1.2
  have b2 : r2.2.2.d2 = 0 ∧ r2.2.2.d3 = 0 ∧ r2.2.2.d4 = 0 := by rw [k2]; exact b1.2
  have R3 := R2.d P a2.1 b2.1 k3 h3 fun h x => congrArg (fun h : Hd => { h with d2 := x }) h
  have a3 : c3.2.2.d3 = 0 ∧ c3.2.2.d4 = 0 := by rw [h3]; exact a2.2
  have b3 : r3.2.2.d3 = 0 ∧ r3.2.2.d4 = 0 := by rw [k3]; exact b2.2
  have R4 := R3.d P a3.1 b3.1 k4 h4 fun h x => congrArg (fun h : Hd => { h with d3 := x }) h
  have a4 : c4.2.2.d4 = 0 := by rw [h4]; exact a3.2
  have b4 : r4.2.2.d4 = 0 := by rw [k4]; exact b3.2
  have R5 := R4.d P a4 b4 k5 h5 fun h x => congrArg (fun h : Hd => { h with d4 := x }) h
  have R6 := R5.l P k6 h6 fun h x => congrArg (fun h : Hd => { h with co := x }) h
  have R7 := R6.l P k7 h7 fun h x => congrArg (fun h : Hd => { h with ro := x }) h
  have R8 := R7.f P k8 h8 fun h x => congrArg (fun h : Hd => { h with na := x }) h
  have D8 : Dd c8 c := by
    split at h9
    · rw [h9.1]; exact .rfl'
    · exact FiltT_d h9
  have D8' : Dd r8 c' := by
    split at k9
    · rw [k9.1]; exact .rfl'
    · exact FiltT_d k9
  by_cases zz : c8.2.1 = 0
  · rcases R8 zz with t | ⟨t1, t2, t3⟩
    · exact ⟨fun _ => .inl (Pf.stay t D8'), fun _ h1 => by have := Pf.stay t D8'; omega⟩
    · have hl : r8.2.2.less = c8.2.2.less := by have := congrArg Hd.less t3; exact this
      by_cases hc : c8.2.2.less = true
      · rw [if_pos hc] at h9
        rw [if_pos (by rw [hl]; exact hc)] at k9
        rw [h9.1, k9.1, h9.2, k9.2]
        exact ⟨R8, fun _ _ => rfl⟩
      · rw [if_neg hc] at h9
        rw [if_neg (by rw [hl]; exact hc)] at k9
        exact filt_pf P R8 k9 h9
  · exact ⟨fun h0 => absurd (D8.ok h0) zz, fun h0 _ => absurd (D8.ok h0) zz⟩
end
end Go.Zt


/- Layer 20: HeadsAny: a reading of a prefix: a whole header. Plain. -/
set_option linter.unusedSimpArgs false
set_option linter.unusedVariables false
set_option maxRecDepth 100000
namespace Go.Zt
open Go Go.Sim Go.Proofs Go.RowKit

section
variable {b b' : List Nat} {w e : Int} {p : Nat} {c c' c0 c0' : Cd} {X X' : List Sg} (P : Pre b' b)
include P
theorem ref_pf (R : Pf b' b c0' c0) (h' : RefT c0' c') (h : RefT c0 c) : Pf b' b c' c := by
  have D := RefT_d h
  have D' := RefT_d h'
  intro h0
  have z0 := D.ok h0
  rcases R z0 with t | ⟨t1, t2, t3⟩
  · exact .inl (Pf.stay t D')
  · have hk : c0'.2.2.ke = c0.2.2.ke := by have := congrArg Hd.ke t3; exact this
    obtain ⟨c1, t, h1, h2⟩ := h
    obtain ⟨r1, t', k1, k2⟩ := h'
    have key : Pf b' b r1 c1 ∧ (c1.2.1 = 0 → r1.2.1 = 0 → t' = t) := by
      by_cases hc : c0.2.2.ke = true
      · rw [if_pos hc] at h1
        rw [if_pos (by rw [hk]; exact hc)] at k1
        rw [h1.1, k1.1, h1.2, k1.2]
        exact ⟨R, fun _ _ => rfl⟩
      · rw [if_neg hc] at h1
        rw [if_neg (by rw [hk]; exact hc)] at k1
        obtain ⟨c2, h2, c3, h3, c4, h4, h5, h6⟩ := h1
        obtain ⟨r2, k2, r3, k3, r4, k4, k5, k6⟩ := k1
        have R2 := R.n P (n := 3) (by decide) k2 h2 fun h x => congrArg (fun h : Hd => { h with r0 := x }) h
        have R3 := R2.n P (n := 3) (by decide) k3 h3 fun h x => congrArg (fun h : Hd => { h with r1 := x }) h
        have R4 := R3.n P (n := 3) (by decide) k4 h4 fun h x => congrArg (fun h : Hd => { h with r2 := x }) h
        have all : c1.2.1 = 0 → r1.2.1 = 3 ∨ (r1.2.1 = 0 ∧ (∃ p, r1.1 = .r b' p ∧ c1.1 = .r b p) ∧ wo r1.2.2 = wo c1.2.2 ∧ t' = t) := by
          intro z1
          have z4 : c4.2.1 = 0 := by
            refine Classical.byContradiction fun q => ?_
            have := (flagD_d (d := c4.1) (v := decide (c0.2.2.pr ≥ 0)) q).2
            rw [h5] at z1
            exact q (this.symm.trans z1)
          rcases R4 z4 with u | ⟨u1, ⟨p, u2, u3⟩, u4⟩
          · left
            rw [k5]
            show (flagD r4.1 r4.2.1 _).2.1 = 3
            rw [(flagD_d (d := r4.1) (v := decide (c0'.2.2.pr ≥ 0)) (by omega)).2]
            exact u
          · have hz : (flagD (.r b p) 0 (decide (c0.2.2.pr ≥ 0))).2.1 = 0 := by rw [h5, u3, z4] at z1; exact z1
            rw [h5, k5, h6, k6, u2, u3, u1, z4]
            rcases flagD_pf P (v := decide (c0.2.2.pr ≥ 0)) (v' := decide (c0'.2.2.pr ≥ 0)) hz with v | ⟨v1, v2, v3⟩
            · exact .inl v
            · exact .inr ⟨v1, v2, u4, v3⟩
        refine ⟨fun z => (all z).imp id fun q => ⟨q.1, q.2.1, q.2.2.1⟩, fun z z' => ?_⟩
        rcases all z with q | q
        · omega
        · exact q.2.2.2
    have D1 : Dd c1 c := by
      split at h2
      · exact dN h2
      · rw [h2]; exact fun _ => ⟨rfl, rfl⟩
    have D1' : Dd r1 c' := by
      split at k2
      · exact dN k2
      · rw [k2]; exact fun _ => ⟨rfl, rfl⟩
    have z1 := D1.ok h0
    rcases key.1 z1 with u | ⟨u1, u2, u3⟩
    · exact .inl (Pf.stay u D1')
    · have ht := key.2 z1 u1
      by_cases hc : t = true
      · rw [if_pos hc] at h2
        rw [if_pos (by rw [ht]; exact hc)] at k2
        exact key.1.n P (n := 3) (by decide) k2 h2 (fun h x => congrArg (fun h : Hd => { h with pr := x }) h) h0
      · rw [if_neg hc] at h2
        rw [if_neg (by rw [ht]; exact hc)] at k2
        rw [h2, k2]
        exact .inr ⟨u1, u2, congrArg (fun h : Hd => { h with pr := -1 }) u3⟩
theorem head_pf (h' : HeadT w e (.r b' p, 0, zP) [] c' X') (h : HeadT w e (.r b p, 0, zP) [] c X) : Pf b' b c' c := by
  have R0 : Pf b' b (.r b' p, 0, zP) (.r b p, 0, zP) := fun _ => .inr ⟨rfl, ⟨p, rfl, rfl⟩, rfl⟩
  obtain ⟨c1, h1, h⟩ := h
  obtain ⟨r1, k1, k⟩ := h'
  have R1 := R0.f P k1 h1 fun h x => congrArg (fun h : Hd => { h with ex := x }) h
  have D1 : Dd c1 c := by
    split at h
    · exact dN h.1
    · obtain ⟨c2, h2, c3, h3, c4, h4, c5, h5, c6, h6, h7⟩ := h
      exact (dFl h2).trans ((dFl h3).trans ((dN h4).trans ((RefT_d h5).trans ((dN h6).trans (TailT_d h7)))))
  have D1' : Dd r1 c' := by
    split at k
    · exact dN k.1
    · obtain ⟨c2, h2, c3, h3, c4, h4, c5, h5, c6, h6, h7⟩ := k
      exact (dFl h2).trans ((dFl h3).trans ((dN h4).trans ((RefT_d h5).trans ((dN h6).trans (TailT_d h7)))))
  intro h0
  have z1 := D1.ok h0
  rcases R1 z1 with t | ⟨t1, t2, t3⟩
  · exact .inl (Pf.stay t D1')
  · have hx : r1.2.2.ex = c1.2.2.ex := by have := congrArg Hd.ex t3; exact this
    by_cases hc : c1.2.2.ex = true
    · rw [if_pos hc] at h
      rw [if_pos (by rw [hx]; exact hc)] at k
      exact R1.n P (n := 3) (by decide) k.1 h.1 (fun h x => congrArg (fun h : Hd => { h with sl := x }) h) h0
    · rw [if_neg hc] at h
      rw [if_neg (by rw [hx]; exact hc)] at k
      obtain ⟨c2, h2, c3, h3, c4, h4, c5, h5, c6, h6, h7⟩ := h
      obtain ⟨r2, k2, r3, k3, r4, k4, r5, k5, r6, k6, k7⟩ := k
      have R2 := R1.f P k2 h2 fun h x => congrArg (fun h : Hd => { h with sh := x }) h
      have R3 := R2.f P k3 h3 fun h x => congrArg (fun h : Hd => { h with ke := x }) h
      have R4 := R3.n P (n := 8) (by decide) k4 h4 fun h x => congrArg (fun h : Hd => { h with rf := x }) h
      have R5 := ref_pf P R4 k5 h5
      have R6 := R5.n P (n := 8) (by decide) k6 h6 fun h x => congrArg (fun h : Hd => { h with ba := x }) h
      have d4 : c4.2.2.dz := by rw [h4, h3, h2, h1]; exact ⟨rfl, rfl, rfl, rfl, rfl⟩
      have d4' : r4.2.2.dz := by rw [k4, k3, k2, k1]; exact ⟨rfl, rfl, rfl, rfl, rfl⟩
      have d6 : c6.2.2.dz := by rw [h6]; exact h5.dz d4
      have d6' : r6.2.2.dz := by rw [k6]; exact k5.dz d4'
      exact (tail_pf P R6 d6' d6 k7 h7).1 h0
end
end Go.Zt


/- The functions' walks: for each function and each loop a rule of what it comes to. Printed by zw2.py. -/
set_option linter.unusedVariables false
set_option maxRecDepth 100000
namespace Go.Zt
open Go Go.Sim Go.Proofs

def tyZlJ0 : List Sc := [.bool, .int .i64, .bool, .bool, .int .i64, .int .i64, .int .i64, .int .i64, .int .i64, .int .i64, .int .i64, .int .i64, .int .i64, .int .i64, .int .i64, .int .i64, .int .i64, .bool, .int .i64, .int .i64, .int .i64, .int .i64, .int .i64, .bool, .int .i64, .int .i64, .sl, .bool, .bool, .bool]
/-! ### zoetrope/zoetropelaw20.HeadsAny: function 7 -/
def K7 : List (List It × List Nat) := [([.code [1,1,1,1,1,1,1,1,0,1], .code [1,1,1,1,1,1,1,1,1]], [0, 3, 8, 9, 68]), ([.code [1,1,1,1,1,1,1,1,1,1,0,1,0,0], .lp [1,1,1,1,1,1,1,1,1,1,0,1,0,0], .blk 0, .code [1,1,1,1,1,1,1,1,1,1,1]], [0, 3, 8, 10, 11, 12]), ([.code [1,1,1,1,1,1,1,1,1,1,0,1,0,0,1,0,0,1,1,1], .blk 1, .code [1,1,1,1,1,1,1,1,1,1,0,1,0,0,1,1], .lp [1,1,1,1,1,1,1,1,1,1,0,1,0,0], .blk 0, .code [1,1,1,1,1,1,1,1,1,1,1]], [0, 3, 8, 10, 11, 12, 99]), ([.code [1,1,1,1,1,1,1,1,1,1,1,0,1], .code [1,1,1,1,1,1,1,1,1,1,1,1]], [0, 3, 8, 109])]
def Z7 : List (List Nat × List Nat) := []
theorem b7 : Try.prog.funcs[7]? = some Try.f7 ∧ (Orc.tab Try.prog).lookup 7 = none ∧ Try.f7.body = some (codeOf Try.f7) := ⟨by kernel_rfl, by kernel_rfl, by kernel_rfl⟩
def A7_1 (Ax0 : Option Addr) (lx0 cx0 : Nat) (x3 : Option Addr) (x8 : Int) (x9 : Option Addr) (x68 : Bool) (M : Mem) (Q : Value → Mem → Prop) : Prop := LvP Try.prog Try.f7 [(0, .slice Ax0 lx0 cx0), (3, .pointer x3), (8, .int .i64 x8), (9, .pointer x9), (68, .bool x68)] [.code [1,1,1,1,1,1,1,1,0,1], .code [1,1,1,1,1,1,1,1,1]] M Q
def A7_2 (Ax0 : Option Addr) (lx0 cx0 : Nat) (x3 : Option Addr) (x8 : Int) (x10 x11 : Option Addr) (x12 : Int) (M : Mem) (Q : Value → Mem → Prop) : Prop := LvP Try.prog Try.f7 [(0, .slice Ax0 lx0 cx0), (3, .pointer x3), (8, .int .i64 x8), (10, .pointer x10), (11, .pointer x11), (12, .int .i64 x12)] [.code [1,1,1,1,1,1,1,1,1,1,0,1,0,0], .lp [1,1,1,1,1,1,1,1,1,1,0,1,0,0], .blk 0, .code [1,1,1,1,1,1,1,1,1,1,1]] M Q
def A7_3 (Ax0 : Option Addr) (lx0 cx0 : Nat) (x3 : Option Addr) (x8 : Int) (x10 x11 : Option Addr) (x12 : Int) (x99 : Bool) (M : Mem) (Q : Value → Mem → Prop) : Prop := LvP Try.prog Try.f7 [(0, .slice Ax0 lx0 cx0), (3, .pointer x3), (8, .int .i64 x8), (10, .pointer x10), (11, .pointer x11), (12, .int .i64 x12), (99, .bool x99)] [.code [1,1,1,1,1,1,1,1,1,1,0,1,0,0,1,0,0,1,1,1], .blk 1, .code [1,1,1,1,1,1,1,1,1,1,0,1,0,0,1,1], .lp [1,1,1,1,1,1,1,1,1,1,0,1,0,0], .blk 0, .code [1,1,1,1,1,1,1,1,1,1,1]] M Q
def A7_4 (Ax0 : Option Addr) (lx0 cx0 : Nat) (x3 : Option Addr) (x8 : Int) (x109 : Bool) (M : Mem) (Q : Value → Mem → Prop) : Prop := LvP Try.prog Try.f7 [(0, .slice Ax0 lx0 cx0), (3, .pointer x3), (8, .int .i64 x8), (109, .bool x109)] [.code [1,1,1,1,1,1,1,1,1,1,1,0,1], .code [1,1,1,1,1,1,1,1,1,1,1,1]] M Q
theorem w7_0 {Ax0 : Option Addr} {lx0 cx0 : Nat} {x1_0 x1_1 : Int} {M : Mem} {Q : Value → Mem → Prop} (H :
    Cn Try.prog 17 #[] (M.new (.cells #[.int .i64 x1_0, .int .i64 x1_1] 23)) fun v1' N1' =>
     tyS (asB v1') fun b2' =>
     cnd (!b2') (
      Q (.bool false) N1') (
      onS (N1'.intAt .i64 (2 * M.nb.size) 0) fun x3' =>
      onS (N1'.intAt .i64 (2 * M.nb.size) (0 + 1)) fun x4' =>
      Cn Try.prog 14 #[.agg #[.int .i64 x3', .int .i64 x4']] N1' fun v5' N5' =>
       tyS (asI .i64 v5') fun x6' =>
       cnd (x6' != 0) (
        Q (.bool true) N5') (
        Cn Try.prog 31 #[.slice Ax0 lx0 cx0] N5' fun v7' N7' =>
         tyS (asP v7') fun p8' =>
         onS (N7'.intAt .i64 (2 * M.nb.size) 0) fun x9' =>
         onS (N7'.intAt .i64 (2 * M.nb.size) (0 + 1)) fun x10' =>
         Cn Try.prog 35 #[.pointer p8', .agg #[.int .i64 x9', .int .i64 x10']] N7' fun v11' N11' =>
          tyS (asU 2 v11') fun cs12' =>
          tyS (asA 30 (cs12'.getD 0 undef)) fun cs13' =>
          asCellsP tyZlJ0 0 cs13' fun vs14' =>
          tyS (asI .i64 (cs12'.getD 1 undef)) fun x15' =>
          tyS (asA 30 (.agg vs14'.toArray)) fun cs16' =>
          asCellsP tyZlJ0 0 cs16' fun vs17' =>
          stP (some 30) vs17'.toArray (N11'.new (.cells #[.bool false, .int .i64 0, .bool false, .bool false, .int .i64 0, .int .i64 0, .int .i64 0, .int .i64 0, .int .i64 0, .int .i64 0, .int .i64 0, .int .i64 0, .int .i64 0, .int .i64 0, .int .i64 0, .int .i64 0, .int .i64 0, .bool false, .int .i64 0, .int .i64 0, .int .i64 0, .int .i64 0, .int .i64 0, .bool false, .int .i64 0, .int .i64 0, .slice none 0 0, .bool false, .bool false, .bool false] 41)) (2 * N11'.nb.size) 0 fun M18' =>
          cnd (x15' != 0) (
           ldP tyZlJ0 M18' (2 * N11'.nb.size) 0 fun vs19' =>
           Cn Try.prog 39 #[.agg vs19'.toArray, .agg #[.bool false, .int .i64 0, .bool false, .bool false, .int .i64 0, .int .i64 0, .int .i64 0, .int .i64 0, .int .i64 0, .int .i64 0, .int .i64 0, .int .i64 0, .int .i64 0, .int .i64 0, .int .i64 0, .int .i64 0, .int .i64 0, .bool false, .int .i64 0, .int .i64 0, .int .i64 0, .int .i64 0, .int .i64 0, .bool false, .int .i64 0, .int .i64 0, .slice none 0 0, .bool false, .bool false, .bool false]] M18' fun v20' N20' =>
            tyS (asB v20') fun b21' =>
            cnd b21' (
             cnd (x15' == 3) (
              Q (.bool true) N20') (
              cnd (x15' == 4) (
               Q (.bool true) N20') (
               Q (.bool (x15' == 5)) N20'))) (
             Q (.bool false) N20')) (
           Cn Try.prog 37 #[.pointer p8'] M18' fun v22' N22' =>
            tyS (asI .i64 v22') fun x23' =>
            Cn Try.prog 19 #[] N22' fun v24' N24' =>
             tyS (asP v24') fun p25' =>
             ldP tyZlJ0 N24' (2 * N11'.nb.size) 0 fun vs26' =>
             onS (N24'.intAt .i64 (2 * M.nb.size) 0) fun x27' =>
             onS (N24'.intAt .i64 (2 * M.nb.size) (0 + 1)) fun x28' =>
             Cn Try.prog 26 #[.agg vs26'.toArray, .agg #[.int .i64 x27', .int .i64 x28']] N24' fun v29' N29' =>
              tyS (asI .i64 v29') fun x30' =>
              cnd (x30' != 0) (
               A7_1 Ax0 lx0 cx0 (some ⟨2 * M.nb.size, 0, none⟩) (IntKind.i64.wrap ((IntKind.i64.wrap (8 * ((lx0 : Int)))) - x23')) p25' true N29' Q) (
               ldP tyZlJ0 N29' (2 * N11'.nb.size) 0 fun vs31' =>
               onS (N29'.intAt .i64 (2 * M.nb.size) 0) fun x32' =>
               onS (N29'.intAt .i64 (2 * M.nb.size) (0 + 1)) fun x33' =>
               Cn Try.prog 24 #[.pointer p25', .agg vs31'.toArray, .agg #[.int .i64 x32', .int .i64 x33']] N29' fun v34' N34' =>
                tyS (asI .i64 v34') fun x35' =>
                A7_1 Ax0 lx0 cx0 (some ⟨2 * M.nb.size, 0, none⟩) (IntKind.i64.wrap ((IntKind.i64.wrap (8 * ((lx0 : Int)))) - x23')) p25' (x35' != 0) N34' Q))))) :
    Cn Try.prog 7 #[.slice Ax0 lx0 cx0, .agg #[.int .i64 x1_0, .int .i64 x1_1]] M Q :=
  Cn.mk (cuts := K7) (sp := Z7) 900 b7 rfl rfl H fun G => by kernel_rfl

theorem w7_1 {Ax0 : Option Addr} {lx0 cx0 : Nat} {x3 : Option Addr} {x8 : Int} {x9 : Option Addr} {x68 : Bool} {M : Mem} {Q : Value → Mem → Prop} (H :
    cnd x68 (
     Q (.bool false) M) (
     Cn Try.prog 28 #[.pointer x9] M fun v36' N36' =>
      tyS (asS v36') fun s37' =>
      Cn Try.prog 31 #[.slice s37'.1 (s37'.2.1) (s37'.2.2)] N36' fun v38' N38' =>
       tyS (asP v38') fun p39' =>
       Cn Try.prog 31 #[.slice Ax0 lx0 cx0] N38' fun v40' N40' =>
        tyS (asP v40') fun p41' =>
        A7_2 Ax0 lx0 cx0 x3 x8 p39' p41' 0 N40' Q)) :
    A7_1 Ax0 lx0 cx0 x3 x8 x9 x68 M Q :=
  LvP.mk (cuts := K7) (sp := Z7) 900 H fun G => by kernel_rfl

theorem w7_2 {Ax0 : Option Addr} {lx0 cx0 : Nat} {x3 : Option Addr} {x8 : Int} {x10 x11 : Option Addr} {x12 : Int} {M : Mem} {Q : Value → Mem → Prop} (H :
    cnd (decide (x12 < x8)) (
     Cn Try.prog 33 #[.pointer x10, .int .i64 1] M fun v42' N42' =>
      tyS (asU 2 v42') fun cs43' =>
      tyS (asI .u32 (cs43'.getD 0 undef)) fun x44' =>
      tyS (asI .i64 (cs43'.getD 1 undef)) fun x45' =>
      Cn Try.prog 33 #[.pointer x11, .int .i64 1] N42' fun v46' N46' =>
       tyS (asU 2 v46') fun cs47' =>
       tyS (asI .u32 (cs47'.getD 0 undef)) fun x48' =>
       tyS (asI .i64 (cs47'.getD 1 undef)) fun x49' =>
       cnd (x45' != 0) (
        A7_3 Ax0 lx0 cx0 x3 x8 x10 x11 x12 true N46' Q) (
        cnd (x49' != 0) (
         A7_3 Ax0 lx0 cx0 x3 x8 x10 x11 x12 true N46' Q) (
         A7_3 Ax0 lx0 cx0 x3 x8 x10 x11 x12 (x44' != x48') N46' Q))) (
     Cn Try.prog 37 #[.pointer x10] M fun v50' N50' =>
      tyS (asI .i64 v50') fun x51' =>
      cnd (decide (x51' > 7)) (
       A7_4 Ax0 lx0 cx0 x3 x8 true N50' Q) (
       A7_4 Ax0 lx0 cx0 x3 x8 (decide (x8 > (IntKind.i64.wrap (8 * ((lx0 : Int)))))) N50' Q))) :
    A7_2 Ax0 lx0 cx0 x3 x8 x10 x11 x12 M Q :=
  LvP.mk (cuts := K7) (sp := Z7) 900 H fun G => by kernel_rfl

theorem w7_3 {Ax0 : Option Addr} {lx0 cx0 : Nat} {x3 : Option Addr} {x8 : Int} {x10 x11 : Option Addr} {x12 : Int} {x99 : Bool} {M : Mem} {Q : Value → Mem → Prop} (H :
    cnd x99 (
     Q (.bool false) M) (
     A7_2 Ax0 lx0 cx0 x3 x8 x10 x11 (IntKind.i64.wrap (x12 + 1)) M Q)) :
    A7_3 Ax0 lx0 cx0 x3 x8 x10 x11 x12 x99 M Q :=
  LvP.mk (cuts := K7) (sp := Z7) 900 H fun G => by kernel_rfl

theorem w7_4 {Ax0 : Option Addr} {lx0 cx0 : Nat} {x3 : Option Addr} {x8 : Int} {x109 : Bool} {M : Mem} {Q : Value → Mem → Prop} (H :
    cnd x109 (
     Q (.bool false) M) (
     puS (sliceP Try.prog 24 (.slice Ax0 lx0 cx0) none (some (.int .i64 (IntKind.i64.wrap ((IntKind.i64.wrap (x8 - 1)).tdiv 8)))) none) fun v52' =>
     tyS (asS v52') fun s53' =>
     adS x3 fun a54' =>
     onS ((M.res 1).intAt .i64 a54'.block a54'.off) fun x55' =>
     onS ((M.res 1).intAt .i64 a54'.block (a54'.off + 1)) fun x56' =>
     Cn Try.prog 31 #[.slice s53'.1 (s53'.2.1) (s53'.2.2)] { (M.res 1) with floor := (M.res 1).nb.size } fun v57' N57' =>
      tyS (asP v57') fun p58' =>
      Cn Try.prog 35 #[.pointer p58', .agg #[.int .i64 x55', .int .i64 x56']] { N57' with floor := (M.res 1).floor } fun v59' N59' =>
       tyS (asU 2 v59') fun cs60' =>
       tyS (asA 30 (cs60'.getD 0 undef)) fun cs61' =>
       asCellsP tyZlJ0 0 cs61' fun vs62' =>
       tyS (asI .i64 (cs60'.getD 1 undef)) fun x63' =>
       tyS (asA 30 (.agg vs62'.toArray)) fun cs64' =>
       asCellsP tyZlJ0 0 cs64' fun vs65' =>
       stP (some 30) vs65'.toArray (N59'.upd (M.nb.size + 0) (.cells #[.bool false, .int .i64 0, .bool false, .bool false, .int .i64 0, .int .i64 0, .int .i64 0, .int .i64 0, .int .i64 0, .int .i64 0, .int .i64 0, .int .i64 0, .int .i64 0, .int .i64 0, .int .i64 0, .int .i64 0, .int .i64 0, .bool false, .int .i64 0, .int .i64 0, .int .i64 0, .int .i64 0, .int .i64 0, .bool false, .int .i64 0, .int .i64 0, .slice none 0 0, .bool false, .bool false, .bool false] 41)) (2 * (M.nb.size + 0)) 0 fun M66' =>
       adS x3 fun a67' =>
       onS ((M66'.res 2).intAt .i64 a67'.block a67'.off) fun x68' =>
       onS ((M66'.res 2).intAt .i64 a67'.block (a67'.off + 1)) fun x69' =>
       Cn Try.prog 9 #[.slice Ax0 lx0 cx0] { (M66'.res 2) with floor := (M66'.res 2).nb.size } fun v70' N70' =>
        tyS (asS v70') fun s71' =>
        cnd (decide (Option.map (fun a : Addr => a.block) s71'.1 = Option.map (fun a : Addr => a.block) x3)) (
         False) (
         meS (appendP Try.prog #[24, 24] (.slice s71'.1 (s71'.2.1) (s71'.2.2)) (.slice (some ⟨2 * (M66'.nb.size + 0), 0, none⟩) 1 1) ({ N70' with floor := (M66'.res 2).floor }.upd (M66'.nb.size + 0) (.cells #[.int .u8 255] 5))) fun r72' =>
         tyS (asS r72'.1) fun s73' =>
         Cn Try.prog 31 #[.slice s73'.1 (s73'.2.1) (s73'.2.2)] { r72'.2 with floor := r72'.2.nb.size } fun v74' N74' =>
          tyS (asP v74') fun p75' =>
          Cn Try.prog 35 #[.pointer p75', .agg #[.int .i64 x68', .int .i64 x69']] { N74' with floor := r72'.2.floor } fun v76' N76' =>
           tyS (asU 2 v76') fun cs77' =>
           tyS (asA 30 (cs77'.getD 0 undef)) fun cs78' =>
           asCellsP tyZlJ0 0 cs78' fun vs79' =>
           tyS (asI .i64 (cs77'.getD 1 undef)) fun x80' =>
           tyS (asA 30 (.agg vs79'.toArray)) fun cs81' =>
           asCellsP tyZlJ0 0 cs81' fun vs82' =>
           stP (some 30) vs82'.toArray (N76'.upd (M66'.nb.size + 1) (.cells #[.bool false, .int .i64 0, .bool false, .bool false, .int .i64 0, .int .i64 0, .int .i64 0, .int .i64 0, .int .i64 0, .int .i64 0, .int .i64 0, .int .i64 0, .int .i64 0, .int .i64 0, .int .i64 0, .int .i64 0, .int .i64 0, .bool false, .int .i64 0, .int .i64 0, .int .i64 0, .int .i64 0, .int .i64 0, .bool false, .int .i64 0, .int .i64 0, .slice none 0 0, .bool false, .bool false, .bool false] 41)) (2 * (M66'.nb.size + 1)) 0 fun M83' =>
           cnd (x63' == 3) (
            Q (.bool (x80' == 0)) M83') (
            Q (.bool false) M83')))) :
    A7_4 Ax0 lx0 cx0 x3 x8 x109 M Q :=
  LvP.mk (cuts := K7) (sp := Z7) 900 H fun G => by kernel_rfl


end Go.Zt


/- Layer 20: HeadsAny: the walk: the bits are compared. -/
set_option linter.unusedSimpArgs false
set_option linter.unusedVariables false
set_option maxRecDepth 100000
namespace Go.Zt
open Go Go.Sim Go.Proofs Go.RowKit

section
variable {U1 U2 : Nat → Prop} {M0 : Mem} {j1 j2 q : Nat} {b1 b2 : List Nat} {Ah x3 : Option Addr} {nh ch : Nat} {Q : Value → Mem → Prop}
theorem e7_2 (h1 : q ≤ 8 * b1.length) (h2 : q ≤ 8 * b2.length) (h7 : 8 * b1.length ≤ q + 7) (hn : b2.length = nh) (hb : nh ≤ 1048576) (hbit : ∀ i, i < q → bitOf b1 i = bitOf b2 i) (n12 : j1 ≠ j2) (d1 : ¬ U1 j2) (d2 : ¬ U2 j1) (f1 : M0.floor ≤ j1) (f2 : M0.floor ≤ j2)
    (K : ∀ N, Chg (fun i => i = j1 ∨ i = j2) M0 N → A7_4 Ah nh ch x3 (q : Int) false N Q) : ∀ (k i : Nat) {M : Mem}, i + k = q → Chg (fun i => i = j1 ∨ i = j2) M0 M → Rdr U1 M j1 b1 i → Rdr U2 M j2 b2 i →
    A7_2 Ah nh ch x3 (q : Int) (some ⟨2 * j1, 0, none⟩) (some ⟨2 * j2, 0, none⟩) (i : Int) M Q
  | 0, i, M, hi, C, D1, D2 => by
    have hq : i = q := by omega
    subst hq
    refine w7_2 (cF (decide_eq_false (by omega)) (Cn.eq (c37 D1) (ty rfl (cF (decide_eq_false (by omega)) ?_))))
    rw [i64w (by omega), decide_eq_false (by omega)]
    exact K M C
  | k + 1, i, M, hi, C, D1, D2 => by
    refine w7_2 (cT (decide_eq_true (by omega)) (Cn.mono (c33 D1 (by rw [C.floor]; exact f1) 1) ?_))
    have r : ∀ b : List Nat, q ≤ 8 * b.length → rFixed b i 1 = (bitOf b i, 0, i + 1) := by
      intro b hb
      unfold rFixed
      rw [if_neg (by decide), if_neg (by omega)]
      simp [numb]
    rw [r b1 h1]
    rintro _ N ⟨rfl, C1, z1, E1⟩
    have E2 := D2.chg C1 (fun h => n12 h.symm) fun i hi h => d2 (h ▸ hi)
    refine ty rfl (ty rfl (ty rfl (Cn.mono (c33 E2 (by rw [C1.floor, C.floor]; exact f2) 1) ?_)))
    rw [r b2 h2]
    rintro _ N2 ⟨rfl, C2, z2, F2⟩
    have F1 := E1.chg C2 n12 fun i hi h => d1 (h ▸ hi)
    refine ty rfl (ty rfl (ty rfl (cF rfl (cF rfl (w7_3 (cF ?_ ?_))))))
    · rw [hbit i (by omega)]; simp
    · rw [i64w (by omega)]
      exact e7_2 h1 h2 h7 hn hb hbit n12 d1 d2 f1 f2 K k (i + 1) (by omega) ((C.trans (C1.mono fun i _ h => .inl h)).trans (C2.mono fun i _ h => .inr h)) F1 F2
end
end Go.Zt


/- Layer 20: HeadsReads: the document's Read, from the start. -/
set_option linter.unusedSimpArgs false
set_option linter.unusedVariables false
set_option maxRecDepth 100000
namespace Go.Zt
open Go Go.Sim Go.Proofs Go.RowKit

section
variable {S : Nat → Prop} {M N M0 : Mem} {jr jq jh ja jb jx js jw lo p : Nat} {b : List Nat} {r : RS} {w e : Int} {T : RS → List Sg → Prop}
end
end Go.Zt


/- The functions' walks: for each function and each loop a rule of what it comes to. Printed by zw2.py. -/
set_option linter.unusedVariables false
set_option maxRecDepth 100000
namespace Go.Zt
open Go Go.Sim Go.Proofs

/-! ### zoetrope/zoetropelaw20.HeadsReads: function 5 -/
def K5 : List (List It × List Nat) := [([.rg [1,1,1,1,1,1,1,1,1,0] 9, .code [1,1,1,1,1,1,1,1,1,1]], [7, 8, 48]), ([.rg [1,1,1,1,1,1,1,1,1,0] 16, .code [1,1,1,1,1,1,1,1,1,1]], [55])]
end Go.Zt


/- Layer 20: HeadsReads: the law. -/
set_option linter.unusedSimpArgs false
set_option linter.unusedVariables false
set_option maxRecDepth 100000
namespace Go.Zt
open Go Go.Sim Go.Proofs Go.RowKit

section
variable {U S : Nat → Prop} {M N M0 : Mem} {jd jq p : Nat} {b : List Nat} {w e : Int} {h g : Hd} {X Y : List Sg}
end
end Go.Zt


/- Layer 20: HeadsAny: the walk: the bytes cut, and a byte more. -/
set_option linter.unusedSimpArgs false
set_option linter.unusedVariables false
set_option maxRecDepth 100000
namespace Go.Zt
open Go Go.Sim Go.Proofs Go.RowKit

theorem Rdr.fl {U : Nat → Prop} {M : Mem} {j p f : Nat} {b : List Nat} (D : Rdr U M j b p) : Rdr U { M with floor := f } j b p := ⟨D.out, D.byt, D.len, D.pos, D.ex⟩
theorem Row.fl {M : Mem} {A : Option Addr} {L : List Value} {f : Nat} (h : Row M A L) : Row { M with floor := f } A L := h
theorem keep_res (M : Mem) (k : Nat) : Keep M (M.res k) := ⟨(res_same M k).1, (res_same M k).2, by rw [res_size]; omega, fun j hj _ => by rw [res_at, if_pos hj]⟩
theorem keep_fl {M N : Mem} {f : Nat} (K : Keep { M with floor := f } N) : Keep M { N with floor := M.floor } := ⟨K.base, rfl, K.size, K.same⟩
theorem Row.one {N : Mem} {j : Nat} {v : Value} {t : TypeId} (a : N.nb[j]? = some (.cells #[v] t)) : Row N (some ⟨2 * j, 0, none⟩) [v] := by
  intro i hi
  have h0 : i = 0 := by simp at hi; omega
  subst h0
  exact ⟨_, rfl, by rw [cell_of a]; rfl⟩
section
variable {M : Mem} {w e : Int} {Ah : Option Addr} {nh ch js q : Nat} {b : List Nat}
theorem u8_take (b : List Nat) (n : Nat) : (U8 b).take n = U8 (b.take n) := by simp [U8, List.map_take]
/-- A reader of bytes, and a header read from it. -/
theorem rd2 {A : Option Addr} {n c : Nat} {P : Value → Mem → Prop} (hf : M.floor ≤ M.nb.size) (hm : mayS w e = true) (hR : Row M A (U8 b)) (hn : n = b.length) (hl : b.length ≤ 4294967296) (hB : Byt b)
    (K : ∀ (h : Hd) (k : Cd) (X : List Sg) (N : Mem), HeadT w e (.r b 0, 0, zP) [] k X → Keep M N → P (.tuple #[.agg h.cs, .int .i64 (k.2.1 : Nat)]) N) :
    Cn Try.prog 31 #[.slice A n c] { M with floor := M.nb.size } fun v N => tyS (asP v) fun p => Cn Try.prog 35 #[.pointer p, .agg #[.int .i64 w, .int .i64 e]] { N with floor := M.floor } P := by
  refine Cn.mono (c31 (M := { M with floor := M.nb.size }) (Nat.le_refl _) (Row.fl hR) hn.symm (by omega) hB) ?_
  rintro _ M2 ⟨j, rfl, K2, d1, d2, D⟩
  have z2 : M.nb.size ≤ M2.nb.size := K2.size
  have d1' : M.nb.size ≤ j := d1
  refine ty rfl (Cn.mono (c35 (M := { M2 with floor := M.floor }) (Rdr.fl D) (show M.floor ≤ j by omega) (show M.floor ≤ M2.nb.size by omega) (fun i hi => by
    have h1 : M.nb.size ≤ i := hi.1
    show M.floor ≤ i
    omega) (fun i hi => by
    have h1 : i < j := hi.2
    show i < M2.nb.size
    omega)) ?_)
  rw [if_pos hm]
  rintro v N ⟨U', k, X, hT, sub, C, dv, ub, res⟩
  have KN : Keep M N := Keep.step (keep_fl K2) C fun i hi => by
    rcases hi with h | h | h
    · exact h.1
    · omega
    · have h' : M2.nb.size ≤ i := h
      omega
  rcases res with ⟨h0, rfl⟩ | ⟨h0, rfl, _⟩
  · exact K zP k X N hT KN
  · have := K k.2.2 k X N hT KN
    rw [h0] at this
    exact this
theorem HeadT_pre {b' : List Nat} {c : Cd} {X : List Sg} (hm : mayS w e = true) (hT : HeadT w e (.r b 0, 0, zP) [] c X) (h0 : c.2.1 = 0) (hq : c.1 = .r b q) (P : Pre b' b) (hl : 8 * b'.length < q) {c' : Cd} {X' : List Sg} (hT' : HeadT w e (.r b' 0, 0, zP) [] c' X') : c'.2.1 = 3 := by
  rcases head_pf P hT' hT h0 with h | ⟨h1, ⟨p, h2, h3⟩, h4⟩
  · exact h
  · obtain ⟨q', g1, g2, g3⟩ := head_b hm (Nat.zero_le _) hT' h1
    rw [hq] at h3
    rw [g1] at h2
    injection h3 with _ e3
    injection h2 with _ e2
    have := g3.le
    omega
set_option maxHeartbeats 2000000 in
theorem e7_4 (hf : M.floor ≤ M.nb.size) (hm : mayS w e = true) (hR : Row M Ah (U8 b)) (hn : nh = b.length) (hc : nh ≤ ch) (hz : Ah = none → ch = 0) (hB : Byt b) (hb : nh ≤ 1048576) (s : M.nb[js]? = some (.cells #[.int .i64 w, .int .i64 e] 23)) (hq : 1 ≤ q ∧ q ≤ 8 * nh)
    (hS : ∀ b', Pre b' b → 8 * b'.length < q → ∀ c X, HeadT w e (.r b' 0, 0, zP) [] c X → c.2.1 = 3) (hL : ∀ c X, HeadT w e (.r (b ++ [255]) 0, 0, zP) [] c X → c.2.1 = 0) :
    A7_4 Ah nh ch (some ⟨2 * js, 0, none⟩) (q : Int) false M fun v _ => v = .bool true := by
  have K1 := keep_res M 1
  have z1 := res_size M 1
  have ls := lt_of_at s
  have hi : IntKind.i64.wrap ((IntKind.i64.wrap ((q : Int) - 1)).tdiv 8) = (((q - 1) / 8 : Nat) : Int) := by
    rw [i64w (x := (q : Int) - 1) (by omega), show (q : Int) - 1 = ((q - 1 : Nat) : Int) by omega, show (8 : Int) = ((8 : Nat) : Int) from rfl, tdivN, i64w (by omega)]
  have hk : (q - 1) / 8 ≤ nh := by omega
  obtain ⟨A1, p1, R1, _, _⟩ := slice_row el5 hR (n := nh) (c := ch) (l := 0) (h := (q - 1) / 8) (by simp [hn]) hc hz (lo := none) (hi := some (.int .i64 (((q - 1) / 8 : Nat) : Int))) rfl (by show (if (0 : Int) ≤ (((q - 1) / 8 : Nat) : Int) ∧ (((q - 1) / 8 : Nat) : Int) ≤ ch then some (((q - 1) / 8 : Nat) : Int).toNat else none) = _; rw [if_pos (by omega), Int.toNat_natCast]) (Nat.zero_le _) hk
  rw [← hi] at p1
  have R1' : Row M A1 (U8 (b.take ((q - 1) / 8))) := by
    have := R1
    simpa [← u8_take] using this
  have lt : (b.take ((q - 1) / 8)).length = (q - 1) / 8 := by rw [List.length_take]; omega
  have pre : Pre (b.take ((q - 1) / 8)) b := by
    refine ⟨by omega, fun i hi => ?_⟩
    rw [lt] at hi
    unfold bitOf
    have : (b.take ((q - 1) / 8)).getD (i / 8) 0 = b.getD (i / 8) 0 := by
      rw [List.getD_eq_getElem?_getD, List.getD_eq_getElem?_getD, List.getElem?_take_of_lt (by omega)]
    rw [this]
  refine w7_4 (cF rfl (pu p1 (ty rfl ?_)))
  generalize M.res 1 = R at K1 z1 ⊢
  have fR : R.floor ≤ R.nb.size := by rw [K1.floor]; omega
  refine ad rfl (on (int_of (i := 0) (at_keep s K1) rfl) (on (int_of (i := 0 + 1) (at_keep s K1) rfl) (rd2 (M := R) (b := b.take ((q - 1) / 8)) fR hm (R1'.keep K1) (by rw [lt]; exact Nat.sub_zero _) (by omega) (fun x hx => hB x (List.mem_of_mem_take hx)) ?_)))
  intro h k X N hT KN
  have k3 : k.2.1 = 3 := hS _ pre (by rw [lt]; omega) k X hT
  have zN := KN.size
  have hlt : M.nb.size + 0 < N.nb.size := by omega
  refine ty rfl (ty rfl (ac0 rfl (ty rfl (ty rfl (ac0 rfl ?_)))))
  have u1 := upd_at (M := N) (b := .cells zP.cs 41) hlt
  have C1 := upd_chg (M := N) (S := (· = M.nb.size + 0)) (b := .cells zP.cs 41) (j := M.nb.size + 0) rfl
  have y1 := upd_size (M := N) (j := M.nb.size + 0) (.cells zP.cs 41)
  show stP (some 30) h.cs (N.upd (M.nb.size + 0) (.cells zP.cs 41)) (2 * (M.nb.size + 0)) 0 _
  generalize N.upd (M.nb.size + 0) (.cells zP.cs 41) = T at u1 C1 y1 ⊢
  refine stA (cs := h.cs) u1 (by rw [C1.floor, KN.floor, K1.floor]; omega) rfl rfl rfl fun M6 C6 z6 b6 => ?_
  have T6 : Keep M M6 := Keep.step (K1.trans KN) (C1.trans C6) fun i hi => by omega
  have s6 := at_keep s T6
  have KR := keep_res M6 2
  have zR := res_size M6 2
  generalize M6.res 2 = R2 at KR zR ⊢
  have T6R := T6.trans KR
  have zT := T6.size
  have fR2 : R2.floor ≤ M.nb.size := by rw [T6R.floor]; exact hf
  refine ad rfl (on (int_of (i := 0) (at_keep s6 KR) rfl) (on (int_of (i := 0 + 1) (at_keep s6 KR) rfl) (Cn.mono (c9 (M := { R2 with floor := R2.nb.size }) (Nat.le_refl _) (Row.fl (hR.keep T6R)) hn (by omega)) ?_)))
  rintro _ M7 ⟨A7, c7, rfl, K7, O7, h7⟩
  have K7' := keep_fl K7
  have O7' : Own (fun j => R2.nb.size ≤ j) { M7 with floor := R2.floor } 5 A7 (c7 * 1) (U8 b) := by rw [Nat.mul_one]; exact O7
  refine ty rfl (cF (decide_eq_false ?_) ?_)
  · intro he
    rcases A7 with _ | a
    · cases he
    · have h1 := O7'.in_ a rfl
      have h2 : a.block = 2 * js := by simpa using he
      have h3 : R2.nb.size ≤ a.block / 2 := h1.2
      omega
  generalize ({ M7 with floor := R2.floor } : Mem) = V at K7' O7' ⊢
  have zV := K7'.size
  have u2 := upd_at (M := V) (b := .cells #[.int .u8 255] 5) (j := M6.nb.size + 0) (by omega)
  have C2 := upd_chg (M := V) (S := (· = M6.nb.size + 0)) (b := .cells #[.int .u8 255] 5) (j := M6.nb.size + 0) rfl
  have y2 := upd_size (M := V) (j := M6.nb.size + 0) (.cells #[.int .u8 255] 5)
  generalize V.upd (M6.nb.size + 0) (.cells #[.int .u8 255] 5) = V2 at u2 C2 y2 ⊢
  have T2 : Keep M V2 := Keep.step (T6R.trans K7') C2 fun i hi => by omega
  obtain ⟨A8, c8, M8, p8, C8, O8, h8⟩ := append_own el5 (S := fun j => R2.nb.size ≤ j) (O7'.chg C2 fun i hi hs h => by omega) (n := nh) (c := c7) (by simp [hn]) (Row.one u2) (k := 1) (cx := 1) rfl rfl (fun j hj => by rw [T2.floor]; omega) (by show R2.nb.size ≤ V2.nb.size; omega) (by omega)
  have T8 : Keep M M8 := Keep.step T2 C8 fun i hi => by have h : R2.nb.size ≤ i := hi; omega
  have R8 : Row M8 A8 (U8 (b ++ [255])) := by
    have := O8.row
    rw [show U8 (b ++ [255]) = U8 b ++ [.int .u8 255] by simp [U8]]
    exact this
  have z8 := C8.size
  have s8 := at_keep s T8
  refine me p8 (ty rfl (rd2 (M := M8) (b := b ++ [255]) (by rw [T8.floor]; omega) hm R8 (by rw [List.length_append, hn]; rfl) (by rw [List.length_append, ← hn]; show nh + 1 ≤ _; omega) (fun x hx => ?_) ?_))
  · rcases List.mem_append.1 hx with h | h
    · exact hB x h
    · rw [List.mem_singleton.1 h]; decide
  intro h' k' X' N' hT' KN'
  have k0 : k'.2.1 = 0 := hL k' X' hT'
  have zN' := KN'.size
  have hlt' : M6.nb.size + 1 < N'.nb.size := by omega
  refine ty rfl (ty rfl (ac0 rfl (ty rfl (ty rfl (ac0 rfl ?_)))))
  have u3 := upd_at (M := N') (b := .cells zP.cs 41) hlt'
  have C3 := upd_chg (M := N') (S := (· = M6.nb.size + 1)) (b := .cells zP.cs 41) (j := M6.nb.size + 1) rfl
  show stP (some 30) h'.cs (N'.upd (M6.nb.size + 1) (.cells zP.cs 41)) (2 * (M6.nb.size + 1)) 0 _
  generalize N'.upd (M6.nb.size + 1) (.cells zP.cs 41) = T' at u3 C3 ⊢
  refine stA (cs := h'.cs) u3 (by rw [C3.floor, KN'.floor, T8.floor]; omega) rfl rfl rfl fun M9 C9 z9 b9 => ?_
  rw [k3, k0]
  exact cT rfl rfl
end
end Go.Zt

