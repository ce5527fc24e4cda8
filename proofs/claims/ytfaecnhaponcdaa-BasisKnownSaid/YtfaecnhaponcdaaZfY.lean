/- Layer 7: BasisKnown. -/
import Derived.Test.YtfaecnhaponcdaaZfIa
import Derived.Test.YtfaecnhaponcdaaZfRa
import Derived.Test.YtfaecnhaponcdaaZfDg
set_option linter.unusedSimpArgs false
set_option linter.unusedVariables false
namespace Go.Zt
open Go Go.Sim Go.Proofs Go.RowKit

def cosOk (x : Int) : Bool := cosT x == cosT (x + 256) && cosT x == cosT (-x) && cosT x == - cosT (128 - x) && decide ((cosT x * cosT x + cosT (64 - x) * cosT (64 - x) - 16777216).natAbs ≤ 6000)
theorem cos_all : ∀ i : Fin 1200, cosOk ((i.val : Int) - 600) = true := by decide +kernel
theorem cos_ok {x : Int} (h : -600 ≤ x ∧ x < 600) : cosT x = cosT (x + 256) ∧ cosT x = cosT (-x) ∧ cosT x = - cosT (128 - x) ∧ (cosT x * cosT x + cosT (64 - x) * cosT (64 - x) - 16777216).natAbs ≤ 6000 := by
  have h1 := cos_all ⟨(x + 600).toNat, by omega⟩
  have e : (((x + 600).toNat : Nat) : Int) - 600 = x := by omega
  dsimp only at h1
  rw [e] at h1
  unfold cosOk at h1
  simp only [Bool.and_eq_true, beq_iff_eq, decide_eq_true_eq] at h1
  exact ⟨h1.1.1.1, h1.1.1.2, h1.1.2, h1.2⟩
theorem madeN {M1 : Mem} {n : Nat} (hn : n ≤ 1024) : ∃ A' M2, makeP Try.prog 22 (.int .i64 (n : Nat)) (.int .i64 (n : Nat)) M1 = some (.slice A' n n, M2) ∧ Keep M1 M2 ∧ Own (fun j => M1.nb.size ≤ j) M2 3 A' n (Ints (List.replicate n 0)) := by
  obtain ⟨A', M2, g1, g2, g3, g4⟩ := make_own em22 (S := fun j => M1.nb.size ≤ j) (M := M1) (k := .i64) (k' := .i64) (l := (n : Nat)) (c := (n : Nat)) (by omega) (Int.le_refl _) (by omega) (Nat.le_refl _)
  refine ⟨A', M2, g1, Keep.step (.refl _) g2 fun j hj => hj, ?_⟩
  rw [Ints, List.map_replicate]; exact g4
def codeB (kind : Int) (n : Nat) : Nat := if lenB kind n then 0 else 2
theorem may_zeros {kind : Int} {n : Nat} : mayB kind (List.replicate n 0) = lenB kind n := by
  unfold mayB
  rw [List.length_replicate]
  have : (List.replicate n (0 : Int)).all near = true := by
    rw [List.all_eq_true]; intro v hv
    rw [List.eq_of_mem_replicate hv]; decide
  rw [this, Bool.and_true]
theorem code_f {kind : Int} {n : Nat} : (fwdQ kind (List.replicate n 0)).2 = codeB kind n := by
  unfold fwdQ codeB; rw [may_zeros]; cases lenB kind n <;> rfl
theorem code_i {kind : Int} {n : Nat} : (invQ kind (List.replicate n 0)).2 = codeB kind n := by
  unfold invQ codeB; rw [may_zeros]; cases lenB kind n <;> rfl
abbrev Tr9 : Value → Mem → Prop := fun v _ => v = .bool true
section
variable {M0 : Mem}
theorem c9_29 {M : Mem} {kind : Int} {n : Nat} {b : Bool} (hb : b = lenB kind n) (hE : A9_20 true true kind (IntKind.i64.wrap ((n : Nat) + 1)) M Tr9) :
    A9_29 true true kind (n : Nat) (codeB kind n : Nat) (codeB kind n : Nat) b M Tr9 := by
  subst hb
  unfold codeB
  cases h : lenB kind n with
  | true => exact w9_29 ⟨fun h => (by cases h), fun _ => ⟨fun h => absurd rfl h, fun _ => ⟨fun h => (by cases h), fun _ => w9_30 ⟨fun h => (by cases h), fun _ => hE⟩⟩⟩⟩
  | false => exact w9_29 ⟨fun h => (by cases h), fun _ => ⟨fun h => absurd rfl h, fun _ => ⟨fun _ => w9_30 ⟨fun h => (by cases h), fun _ => hE⟩, fun h => (by cases h)⟩⟩⟩
theorem c9_28 {M : Mem} {kind : Int} {n : Nat} {b : Bool} (hb : b = decide (n = 4 ∨ n = 8 ∨ n = 16 ∨ n = 32 ∨ n = 64)) (hE : A9_20 true true kind (IntKind.i64.wrap ((n : Nat) + 1)) M Tr9) :
    A9_28 true true kind (n : Nat) (codeB kind n : Nat) (codeB kind n : Nat) b M Tr9 := by
  have key : ∀ {c : Bool}, (c = true ↔ lenB kind n = true) → A9_29 true true kind (n : Nat) (codeB kind n : Nat) (codeB kind n : Nat) c M Tr9 := fun h => c9_29 (Bool.eq_iff_iff.2 h) hE
  subst hb
  have hl : lenB kind n = true ↔ (n = 4 ∨ n = 8 ∨ n = 16 ∨ n = 32 ∨ n = 64) ∧ (kind = 0 ∨ (kind = 1 ∧ n < 32) ∨ (kind = 2 ∧ n < 64) ∨ (kind = 3 ∧ n = 4)) := by
    unfold lenB
    repeat' split
    all_goals simp only [decide_eq_true_eq, Bool.false_eq_true, false_iff]
    all_goals omega
  refine w9_28 ⟨fun h => ?_, fun h => key ?_⟩
  · have h := of_decide_eq_true h
    repeat' (refine And.intro (fun _ => ?_) (fun _ => ?_))
    all_goals (refine key ?_; rw [hl]; simp only [beq_iff_eq, Bool.false_eq_true, false_iff, true_iff]; omega)
  · have h := of_decide_eq_false h
    rw [hl]; simp only [Bool.false_eq_true, false_iff]; omega
theorem c9_sub {M : Mem} {kind : Int} {n : Nat} (hE : A9_20 true true kind (IntKind.i64.wrap ((n : Nat) + 1)) M Tr9) {b : Bool} (hb : b = decide (n = 4 ∨ n = 8)) : A9_22 true true kind (n : Nat) (codeB kind n : Nat) (codeB kind n : Nat) b M Tr9 := by
  have t28 : ∀ {b : Bool}, b = decide (n = 4 ∨ n = 8 ∨ n = 16 ∨ n = 32 ∨ n = 64) → A9_28 true true kind (n : Nat) (codeB kind n : Nat) (codeB kind n : Nat) b M Tr9 := fun h => c9_28 h hE
  have t26 : ∀ {b : Bool}, b = decide (n = 4 ∨ n = 8 ∨ n = 16 ∨ n = 32) → A9_26 true true kind (n : Nat) (codeB kind n : Nat) (codeB kind n : Nat) b M Tr9 := by
    intro b hb
    refine w9_26 ⟨fun h => t28 ?_, fun h => t28 ?_⟩
    · subst hb; have h := of_decide_eq_true h; rw [Bool.eq_iff_iff]; simp; omega
    · subst hb; have h := of_decide_eq_false h; rw [Bool.eq_iff_iff]; simp; omega
  have t24 : ∀ {b : Bool}, b = decide (n = 4 ∨ n = 8 ∨ n = 16) → A9_24 true true kind (n : Nat) (codeB kind n : Nat) (codeB kind n : Nat) b M Tr9 := by
    intro b hb
    refine w9_24 ⟨fun h => t26 ?_, fun h => t26 ?_⟩
    · subst hb; have h := of_decide_eq_true h; rw [Bool.eq_iff_iff]; simp; omega
    · subst hb; have h := of_decide_eq_false h; rw [Bool.eq_iff_iff]; simp; omega
  refine w9_22 ⟨fun h => t24 ?_, fun h => t24 ?_⟩
  · subst hb; have h := of_decide_eq_true h; rw [Bool.eq_iff_iff]; simp; omega
  · subst hb; have h := of_decide_eq_false h; rw [Bool.eq_iff_iff]; simp; omega
theorem c9_n (hf : M0.floor ≤ M0.nb.size) {kind : Int} (hE : ∀ M, Keep M0 M → A9_19 true true (IntKind.i64.wrap (kind + 1)) M Tr9) : ∀ (m n : Nat) {M : Mem}, n + m = 70 → Keep M0 M → A9_20 true true kind (n : Nat) M Tr9 := by
  intro m
  induction m with
  | zero =>
    intro n M hn K
    exact w9_20 ⟨fun h => by omega, fun _ => hE M K⟩
  | succ m ih =>
    intro n M hn K
    obtain ⟨A, M1, g1, g2, g3⟩ := madeN (M1 := M) (n := n) (by omega)
    have K1 := K.trans g2
    refine w9_20 ⟨fun _ => ⟨_, g1, _, rfl, Cn.mono (c14 (kind := kind) (n := n) (x := List.replicate n 0) (fb hf K1) g3.row (by simp) (by omega)) ?_⟩, fun h => by omega⟩
    rintro _ N ⟨I, ci, rfl, K2, _, _⟩
    have K02 := K1.trans K2
    obtain ⟨B, M2, q1, q2, q3⟩ := madeN (M1 := N) (n := n) (by omega)
    have K03 := K02.trans q2
    refine ⟨_, rfl, _, rfl, _, rfl, _, q1, _, rfl, Cn.mono (c13 (kind := kind) (n := n) (x := List.replicate n 0) (fb hf K03) q3.row (by simp) (by omega)) ?_⟩
    rintro _ N3 ⟨J, cj, rfl, K4, _, _⟩
    rw [code_f, code_i]
    have K04 := K03.trans K4
    have hE2 : A9_20 true true kind (IntKind.i64.wrap ((n : Nat) + 1)) N3 Tr9 := by
      rw [i64w (by omega), show ((n : Int) + 1) = ((n + 1 : Nat) : Int) by omega]
      exact ih (n + 1) (by omega) K04
    refine ⟨_, rfl, _, rfl, _, rfl, fun h => c9_sub hE2 ?_, fun h => c9_sub hE2 ?_⟩
    · rw [Bool.eq_iff_iff]; simp; omega
    · rw [Bool.eq_iff_iff]; simp; omega
theorem c9_kinds (hf : M0.floor ≤ M0.nb.size) : ∀ (m : Nat) (z : Int) {M : Mem}, z + m = 6 → -1 ≤ z → Keep M0 M → A9_19 true true z M Tr9 := by
  intro m
  induction m with
  | zero =>
    intro z M hz h0 K
    refine w9_19 ⟨fun h => by omega, fun _ => ?_⟩
    obtain ⟨P0, e0, E0, F0⟩ := fr M [1048577, 0, 0, 0] (cs := #[.int .i64 1048577, .int .i64 0, .int .i64 0, .int .i64 0]) rfl
    rw [e0]
    have KP0 := K.trans E0
    refine Cn.mono (c14 (n := 4) (kind := 3) (x := [1048577, 0, 0, 0]) (fb hf KP0) F0 rfl (by decide)) ?_
    rw [show invQ 3 [1048577, 0, 0, 0] = ([], 2) by decide +kernel]
    rintro _ N0 ⟨A0, c0, rfl, KQ0, O0, _⟩
    have KN0 := KP0.trans KQ0
    refine ⟨_, rfl, _, rfl, _, rfl, ?_⟩
    obtain ⟨P1, e1, E1, F1⟩ := fr N0 [0, 0, 0, -1048577] (cs := #[.int .i64 0, .int .i64 0, .int .i64 0, .int .i64 (-1048577)]) rfl
    rw [e1]
    have KP1 := KN0.trans E1
    refine Cn.mono (c13 (n := 4) (kind := 0) (x := [0, 0, 0, -1048577]) (fb hf KP1) F1 rfl (by decide)) ?_
    rw [show fwdQ 0 [0, 0, 0, -1048577] = ([], 2) by decide +kernel]
    rintro _ N1 ⟨A1, c1, rfl, KQ1, O1, _⟩
    have KN1 := KP1.trans KQ1
    refine ⟨_, rfl, _, rfl, _, rfl, ?_⟩
    obtain ⟨P2, e2, E2, F2⟩ := fr N1 [1048576, -1048576, 0, 0] (cs := #[.int .i64 1048576, .int .i64 (-1048576), .int .i64 0, .int .i64 0]) rfl
    rw [e2]
    have KP2 := KN1.trans E2
    refine Cn.mono (c13 (n := 4) (kind := 2) (x := [1048576, -1048576, 0, 0]) (fb hf KP2) F2 rfl (by decide)) ?_
    rw [show fwdQ 2 [1048576, -1048576, 0, 0] = ([1483008, -1483008, 0, 0], 0) by decide +kernel]
    rintro _ N2 ⟨A2, c2, rfl, KQ2, O2, _⟩
    have KN2 := KP2.trans KQ2
    refine ⟨_, rfl, _, rfl, _, rfl, ?_⟩
    refine Cn.mono (c11 (fb hf KN2)) ?_
    rintro _ N3 ⟨rfl, _⟩
    exact ⟨_, rfl, fun _ => w9_21 ⟨fun _ => w9_23 ⟨fun _ => w9_25 ⟨fun _ => w9_27 ⟨fun _ => rfl, fun h => (by cases h)⟩, fun h => (by cases h)⟩, fun h => (by cases h)⟩, fun h => (by cases h)⟩, fun h => (by cases h)⟩
  | succ m ih =>
    intro z M hz h0 K
    refine w9_19 ⟨fun _ => c9_n (M0 := M0) hf (fun M K => ?_) 70 0 rfl K, fun h => by omega⟩
    rw [i64w (by omega)]
    exact ih (z + 1) (by omega) (by omega) K
theorem c9_four (hf : M0.floor ≤ M0.nb.size) {M : Mem} (K : Keep M0 M) {Q : Value → Mem → Prop}
    (hE : ∀ {N}, Keep M0 N → A9_18 true true N Q) : A9_10 true 600 M Q := by
  refine w9_10 ⟨fun h => by omega, fun _ => ?_⟩
  obtain ⟨P0, e0, E0, F0⟩ := fr M [4096, 0, 0, 0] (cs := #[.int .i64 4096, .int .i64 0, .int .i64 0, .int .i64 0]) rfl
  rw [e0]
  have KP0 := K.trans E0
  refine Cn.mono (c14 (n := 4) (kind := 0) (x := [4096, 0, 0, 0]) (fb hf KP0) F0 rfl (by decide)) ?_
  rw [show invQ 0 [4096, 0, 0, 0] = ([2896, 2896, 2896, 2896], 0) by decide +kernel]
  rintro _ N0 ⟨A0, c0, rfl, KQ0, O0, _⟩
  have KN0 := KP0.trans KQ0
  refine ⟨_, rfl, _, rfl, _, rfl, ?_⟩
  obtain ⟨P1, e1, E1, F1⟩ := fr N0 [100, 100, 100, 100] (cs := #[.int .i64 100, .int .i64 100, .int .i64 100, .int .i64 100]) rfl
  rw [e1]
  have KP1 := KN0.trans E1
  refine Cn.mono (c13 (n := 4) (kind := 0) (x := [100, 100, 100, 100]) (fb hf KP1) F1 rfl (by decide)) ?_
  rw [show fwdQ 0 [100, 100, 100, 100] = ([283, 0, 0, 0], 0) by decide +kernel]
  rintro _ N1 ⟨A1, c1, rfl, KQ1, O1, _⟩
  have KN1 := KP1.trans KQ1
  refine ⟨_, rfl, _, rfl, _, rfl, ?_⟩
  obtain ⟨P2, e2, E2, F2⟩ := fr N1 [4096, 1, -1, 0] (cs := #[.int .i64 4096, .int .i64 1, .int .i64 (-1), .int .i64 0]) rfl
  rw [e2]
  have KP2 := KN1.trans E2
  refine Cn.mono (c14 (n := 4) (kind := 2) (x := [4096, 1, -1, 0]) (fb hf KP2) F2 rfl (by decide)) ?_
  rw [show invQ 2 [4096, 1, -1, 0] = ([5793, 1, -1, 0], 0) by decide +kernel]
  rintro _ N2 ⟨A2, c2, rfl, KQ2, O2, _⟩
  have KN2 := KP2.trans KQ2
  refine ⟨_, rfl, _, rfl, _, rfl, ?_⟩
  obtain ⟨P3, e3, E3, F3⟩ := fr N2 [5, 1, -1, 0] (cs := #[.int .i64 5, .int .i64 1, .int .i64 (-1), .int .i64 0]) rfl
  rw [e3]
  have KP3 := KN2.trans E3
  refine Cn.mono (c14 (n := 4) (kind := 3) (x := [5, 1, -1, 0]) (fb hf KP3) F3 rfl (by decide)) ?_
  rw [show invQ 3 [5, 1, -1, 0] = ([3, 3, 2, 1], 0) by decide +kernel]
  rintro _ N3 ⟨A3, c3, rfl, KQ3, O3, _⟩
  have KN3 := KP3.trans KQ3
  refine ⟨_, rfl, _, rfl, _, rfl, ?_⟩
  have R0 := (((((O0.row.keep E1).keep KQ1).keep E2).keep KQ2).keep E3).keep KQ3
  have R1 := (((O1.row.keep E2).keep KQ2).keep E3).keep KQ3
  have R2 := (O2.row.keep E3).keep KQ3
  have R3 := O3.row
  refine ⟨fun _ => w9_12 ⟨fun _ => w9_13 ⟨fun _ => w9_14 ⟨fun _ => ?_, fun h => (by cases h)⟩, fun h => (by cases h)⟩, fun h => (by cases h)⟩, fun h => absurd rfl h⟩
  obtain ⟨S0, s0, T0, U0⟩ := fr N3 [2896, 2896, 2896, 2896] (cs := #[.int .i64 2896, .int .i64 2896, .int .i64 2896, .int .i64 2896]) rfl
  rw [s0]
  refine Cn.eq (c15 (n := 4) (m := 4) (R0.keep T0) U0 rfl rfl (by decide)) ⟨_, rfl, w9_15 ⟨fun _ => ?_, fun h => (by cases h)⟩⟩
  obtain ⟨S1, s1, T1, U1⟩ := fr S0 [283, 0, 0, 0] (cs := #[.int .i64 283, .int .i64 0, .int .i64 0, .int .i64 0]) rfl
  rw [s1]
  refine Cn.eq (c15 (n := 4) (m := 4) ((R1.keep T0).keep T1) U1 rfl rfl (by decide)) ⟨_, rfl, w9_16 ⟨fun _ => ?_, fun h => (by cases h)⟩⟩
  obtain ⟨S2, s2, T2, U2⟩ := fr S1 [5793, 1, -1, 0] (cs := #[.int .i64 5793, .int .i64 1, .int .i64 (-1), .int .i64 0]) rfl
  rw [s2]
  refine Cn.eq (c15 (n := 4) (m := 4) (((R2.keep T0).keep T1).keep T2) U2 rfl rfl (by decide)) ⟨_, rfl, w9_17 ⟨fun _ => ?_, fun h => (by cases h)⟩⟩
  obtain ⟨S3, s3, T3, U3⟩ := fr S2 [3, 3, 2, 1] (cs := #[.int .i64 3, .int .i64 3, .int .i64 2, .int .i64 1]) rfl
  rw [s3]
  exact Cn.eq (c15 (n := 4) (m := 4) ((((R3.keep T0).keep T1).keep T2).keep T3) U3 rfl rfl (by decide)) ⟨_, rfl, hE ((((KN3.trans T0).trans T1).trans T2).trans T3)⟩
theorem c9_cos (hf : M0.floor ≤ M0.nb.size) {Q : Value → Mem → Prop} (hE : ∀ {N}, Keep M0 N → A9_10 true 600 N Q) : ∀ (m : Nat) (z : Int) {M : Mem}, z + m = 600 → -600 ≤ z → Keep M0 M → A9_10 true z M Q := by
  intro m
  induction m with
  | zero =>
    intro z M hz h0 K
    obtain rfl : z = 600 := by omega
    exact hE K
  | succ m ih =>
    intro z M hz h0 K
    obtain ⟨q1, q2, q3, q4⟩ := cos_ok (x := z) (by omega)
    have b1 := cosT_b z
    have b2 := cosT_b (64 - z)
    have b3 := cosT_b (128 - z)
    refine w9_10 ⟨fun _ => Cn.mono (c21 (fb hf K)) ?_, fun h => by omega⟩
    rintro _ N1 ⟨rfl, K1⟩
    have J1 := K.trans K1
    refine ⟨_, rfl, ?_⟩
    rw [i64w (x := z + 256) (by omega)]
    refine Cn.mono (c21 (fb hf J1)) ?_
    rintro _ N2 ⟨rfl, K2⟩
    have J2 := J1.trans K2
    refine ⟨_, rfl, fun h => absurd q1 h, fun _ => Cn.mono (c21 (fb hf J2)) ?_⟩
    rintro _ N3 ⟨rfl, K3⟩
    have J3 := J2.trans K3
    refine ⟨_, rfl, ?_⟩
    rw [i64w (x := 0 - z) (by omega), Int.zero_sub]
    refine Cn.mono (c21 (fb hf J3)) ?_
    rintro _ N4 ⟨rfl, K4⟩
    have J4 := J3.trans K4
    refine ⟨_, rfl, fun h => absurd q2 h, fun _ => Cn.mono (c21 (fb hf J4)) ?_⟩
    rintro _ N5 ⟨rfl, K5⟩
    have J5 := J4.trans K5
    refine ⟨_, rfl, ?_⟩
    rw [i64w (x := 128 - z) (by omega)]
    refine Cn.mono (c21 (fb hf J5)) ?_
    rintro _ N6 ⟨rfl, K6⟩
    have J6 := J5.trans K6
    refine ⟨_, rfl, ?_⟩
    rw [i64w (x := 0 - cosT (128 - z)) (by omega), Int.zero_sub, show (cosT z != - cosT (128 - z)) = false by rw [← q3]; simp]
    refine w9_11 ⟨fun h => (by cases h), fun _ => Cn.mono (c21 (fb hf J6)) ?_⟩
    rintro _ N7 ⟨rfl, K7⟩
    have J7 := J6.trans K7
    refine ⟨_, rfl, Cn.mono (c21 (fb hf J7)) ?_⟩
    rintro _ N8 ⟨rfl, K8⟩
    have J8 := J7.trans K8
    refine ⟨_, rfl, ?_⟩
    rw [i64w (x := 64 - z) (by omega)]
    refine Cn.mono (c21 (fb hf J8)) ?_
    rintro _ N9 ⟨rfl, K9⟩
    have J9 := J8.trans K9
    refine ⟨_, rfl, Cn.mono (c21 (fb hf J9)) ?_⟩
    rintro _ Na ⟨rfl, Ka⟩
    have Ja := J9.trans Ka
    have m1 := mulb (x := cosT z) (w := cosT z) (A := 4096) (B := 4096) b1 b1
    have m2 := mulb (x := cosT (64 - z)) (w := cosT (64 - z)) (A := 4096) (B := 4096) b2 b2
    refine ⟨_, rfl, ?_⟩
    generalize cosT z * cosT z = p at m1 q4 ⊢
    generalize cosT (64 - z) * cosT (64 - z) = q at m2 q4 ⊢
    rw [i64w (x := p) (by omega), i64w (x := q) (by omega), i64w (x := p + q) (by omega), i64w (x := p + q - 16777216) (by omega)]
    refine Cn.eq (c17 (by omega)) ⟨_, rfl, fun h => by omega, fun _ => ?_⟩
    rw [i64w (by omega)]
    exact ih (z + 1) (by omega) (by omega) Ja
theorem c9 (hf : M0.floor ≤ M0.nb.size) : Cn Try.prog 9 #[] M0 Tr9 := by
  refine w9_0 (Cn.mono (c21 hf) ?_)
  rintro _ N0 ⟨rfl, K0⟩
  refine ⟨_, rfl, fun _ => Cn.mono (c21 (fb hf K0)) ?_, fun h => absurd (by decide +kernel) h⟩
  rintro _ N1 ⟨rfl, L1⟩
  have K1 := K0.trans L1
  refine ⟨_, rfl, ?_⟩
  rw [show (cosT 32 == 2896) = true by decide +kernel]
  refine w9_1 ⟨fun _ => Cn.mono (c21 (fb hf K1)) ?_, fun h => (by cases h)⟩
  rintro _ N2 ⟨rfl, L2⟩
  have K2 := K1.trans L2
  refine ⟨_, rfl, ?_⟩
  rw [show (cosT 64 == 0) = true by decide +kernel]
  refine w9_2 ⟨fun _ => Cn.mono (c21 (fb hf K2)) ?_, fun h => (by cases h)⟩
  rintro _ N3 ⟨rfl, L3⟩
  have K3 := K2.trans L3
  refine ⟨_, rfl, ?_⟩
  rw [show (cosT 96 == (-2896)) = true by decide +kernel]
  refine w9_3 ⟨fun _ => Cn.mono (c21 (fb hf K3)) ?_, fun h => (by cases h)⟩
  rintro _ N4 ⟨rfl, L4⟩
  have K4 := K3.trans L4
  refine ⟨_, rfl, ?_⟩
  rw [show (cosT 128 == (-4096)) = true by decide +kernel]
  refine w9_4 ⟨fun _ => Cn.mono (c21 (fb hf K4)) ?_, fun h => (by cases h)⟩
  rintro _ N5 ⟨rfl, L5⟩
  have K5 := K4.trans L5
  refine ⟨_, rfl, ?_⟩
  rw [show (cosT 192 == 0) = true by decide +kernel]
  refine w9_5 ⟨fun _ => Cn.mono (c21 (fb hf K5)) ?_, fun h => (by cases h)⟩
  rintro _ N6 ⟨rfl, L6⟩
  have K6 := K5.trans L6
  refine ⟨_, rfl, ?_⟩
  rw [show (cosT (-32) == 2896) = true by decide +kernel]
  refine w9_6 ⟨fun _ => Cn.mono (c21 (fb hf K6)) ?_, fun h => (by cases h)⟩
  rintro _ N7 ⟨rfl, L7⟩
  have K7 := K6.trans L7
  refine ⟨_, rfl, ?_⟩
  rw [show (cosT 1000 == 3406) = true by decide +kernel]
  refine w9_7 ⟨fun _ => Cn.mono (c21 (fb hf K7)) ?_, fun h => (by cases h)⟩
  rintro _ N8 ⟨rfl, L8⟩
  have K8 := K7.trans L8
  refine ⟨_, rfl, ?_⟩
  rw [show (cosT 1 == 4095) = true by decide +kernel]
  refine w9_8 ⟨fun _ => Cn.mono (c21 (fb hf K8)) ?_, fun h => (by cases h)⟩
  rintro _ N9 ⟨rfl, L9⟩
  have K9 := K8.trans L9
  refine ⟨_, rfl, ?_⟩
  rw [show (cosT 63 == 101) = true by decide +kernel]
  refine w9_9 (c9_cos hf (fun K => c9_four hf K fun K => w9_18 (c9_kinds hf 7 (-1) (by decide) (by decide) K)) 1200 (-600) (by decide) (by decide) K9)
end
theorem law9 {W : World} : Cn Try.prog 9 #[] (mem0 W) fun v _ => v = .bool true := c9 (M0 := mem0 W) (Nat.zero_le _)
end Go.Zt
