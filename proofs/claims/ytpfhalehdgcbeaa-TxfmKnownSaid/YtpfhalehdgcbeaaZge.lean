/- Layer 8: the law's helpers: first f21, block f18, turned f14, CopyInts f11; works f15. -/
import Derived.Test.YtpfhalehdgcbeaaZgd
import Derived.Test.YtpfhalehdgcbeaaZgI
import Derived.Test.YtpfhalehdgcbeaaZgDf
set_option linter.unusedSimpArgs false
set_option linter.unusedVariables false
namespace Go.Zt
open Go Go.Sim Go.Proofs Go.RowKit

def firstL (n : Nat) (v w : Int) : List Int := (List.range n).map fun i => if i = 0 then v else w
theorem firstL_len (n : Nat) (v w : Int) : (firstL n v w).length = n := by unfold firstL; simp
section
variable {M0 : Mem} {A : Option Addr} {n0 c0 : Nat} {y : List Int}
theorem c21 (hf : M0.floor ≤ M0.nb.size) {n : Nat} (h1 : 1 ≤ n) (h8 : n ≤ 8192) {v w : Int} : Cn Try.prog 21 #[.int .i64 (n : Nat), .int .i64 v, .int .i64 w] M0 (Told M0 (firstL n v w)) := by
  obtain ⟨A, M1, g1, g2, g3⟩ := madeG (M1 := M0) h8
  refine w21_0 ⟨_, g1, _, rfl, ?_⟩
  rw [zeros, ← twoF_0 (f := fun _ => w)] at g3
  have loop : ∀ (m i : Nat) {M : Mem}, i + m = n → Keep M0 M → Own (fun j => M0.nb.size ≤ j) M 3 A n (Ints (twoF (fun _ => w) (fun _ => 0) n i)) → A21_1 (n : Nat) v w A n n (i : Nat) M (Told M0 (firstL n v w)) := by
    intro m
    induction m with
    | zero =>
      intro i M hi K hO
      obtain rfl : n = i := by omega
      rw [twoF_n] at hO
      obtain ⟨q, p1, M', p2, p3, p4, p5⟩ := hO.put1 (fun j hj => by rw [K.floor]; exact Nat.le_trans hf hj) (n := n) (i := 0) (z := 0) (v := .int .i64 v) rfl (by omega) (by simp; omega) rfl
      refine w21_1 ⟨fun h => by omega, fun _ => ⟨_, p1, M', p2, A, n, by rw [firstL_len], Keep.step K p3 fun j hj => hj, ?_⟩⟩
      have e : (Ints ((List.range n).map fun _ => w)).set 0 (.int .i64 v) = Ints (firstL n v w) := by
        refine List.ext_getElem? fun i => ?_
        unfold firstL
        by_cases hi : i < n
        · rw [List.getElem?_set]
          by_cases h0 : 0 = i
          · subst h0; simp [hi]
          · simp [h0, hi]; omega
        · rw [List.getElem?_eq_none (by simp; omega), List.getElem?_eq_none (by simp; omega)]
      rw [e] at p5; exact p5
    | succ m ih =>
      intro i M hi K hO
      obtain ⟨q, p1, M', p2, p3, p4, p5⟩ := hO.put1 (fun j hj => by rw [K.floor]; exact Nat.le_trans hf hj) (n := n) (i := i) (z := (i : Nat)) (v := .int .i64 w) rfl (by omega) (by rw [List.length_map, twoF_len]; omega) rfl
      have e := twoF_set (f := fun _ => w) (g := fun _ => 0) (n := n) (i := i)
      rw [e] at p5
      refine w21_1 ⟨fun _ => ⟨_, p1, M', p2, ?_⟩, fun h => by omega⟩
      rw [i64w (x := (i : Int) + 1) (by omega), show ((i : Int) + 1) = ((i + 1 : Nat) : Int) by omega]
      exact ih (i + 1) (by omega) (Keep.step K p3 fun j hj => hj) p5
  exact loop n 0 (Nat.zero_add _) g2 g3
end
/-! ### works -/
theorem wk1 : fwdB 4 0 (firstL 16 10 10) = (firstL 16 316 0, 0) := by decide +kernel
theorem wk2 : invB 4 0 (firstL 16 320 0) = (firstL 16 10 10, 0) := by decide +kernel
theorem wk3 : invB 4 9 (firstL 16 4 0) = (firstL 16 1 1, 0) := by decide +kernel
theorem wk4 : fwdB 4 9 (firstL 16 3 3) = (firstL 16 12 0, 0) := by decide +kernel
theorem c15 {M : Mem} (hf : M.floor ≤ M.nb.size) : Cn Try.prog 15 #[] M fun v N => v = .bool true ∧ Keep M N := by
  refine w15_0 (Cn.mono (c21 (n := 16) (v := 10) (w := 10) hf (by decide) (by decide)) ?_)
  rintro _ N1 ⟨A1, d1, rfl, K1, O1⟩
  refine ⟨_, rfl, Cn.mono (c16 (sz := 4) (typ := 0) (x := firstL 16 10 10) (fb hf K1) O1.row rfl (by decide)) ?_⟩
  rw [wk1]
  rintro _ N2 ⟨A2, d2, rfl, K2, O2, _⟩
  have K02 := K1.trans K2
  refine ⟨_, rfl, _, rfl, _, rfl, Cn.mono (c21 (n := 16) (v := 320) (w := 0) (fb hf K02) (by decide) (by decide)) ?_⟩
  rintro _ N3 ⟨A3, d3, rfl, K3, O3⟩
  have K03 := K02.trans K3
  refine ⟨_, rfl, Cn.mono (c12 (sz := 4) (typ := 0) (x := firstL 16 320 0) (fb hf K03) O3.row rfl (by decide)) ?_⟩
  rw [wk2]
  rintro _ N4 ⟨A4, d4, rfl, K4, O4, _⟩
  have K04 := K03.trans K4
  refine ⟨_, rfl, _, rfl, _, rfl, Cn.mono (c21 (n := 16) (v := 4) (w := 0) (fb hf K04) (by decide) (by decide)) ?_⟩
  rintro _ N5 ⟨A5, d5, rfl, K5, O5⟩
  have K05 := K04.trans K5
  refine ⟨_, rfl, Cn.mono (c12 (sz := 4) (typ := 9) (x := firstL 16 4 0) (fb hf K05) O5.row rfl (by decide)) ?_⟩
  rw [wk3]
  rintro _ N6 ⟨A6, d6, rfl, K6, O6, _⟩
  have K06 := K05.trans K6
  refine ⟨_, rfl, _, rfl, _, rfl, Cn.mono (c21 (n := 16) (v := 3) (w := 3) (fb hf K06) (by decide) (by decide)) ?_⟩
  rintro _ N7 ⟨A7, d7, rfl, K7, O7⟩
  have K07 := K06.trans K7
  refine ⟨_, rfl, Cn.mono (c16 (sz := 4) (typ := 9) (x := firstL 16 3 3) (fb hf K07) O7.row rfl (by decide)) ?_⟩
  rw [wk4]
  rintro _ N8 ⟨A8, d8, rfl, K8, O8, _⟩
  have K08 := K07.trans K8
  have R1 := ((((((O2.row.keep K3).keep K4).keep K5).keep K6).keep K7).keep K8)
  have R2 := ((((O4.row.keep K5).keep K6).keep K7).keep K8)
  have R3 := ((O6.row.keep K7).keep K8)
  refine ⟨_, rfl, _, rfl, _, rfl, fun _ => w15_1 ⟨fun _ => w15_2 ⟨fun _ => w15_3 ⟨fun _ => ?_, fun h => (by cases h)⟩, fun h => (by cases h)⟩, fun h => (by cases h)⟩, fun h => absurd rfl h⟩
  refine Cn.mono (c21 (n := 16) (v := 316) (w := 0) (fb hf K08) (by decide) (by decide)) ?_
  rintro _ P1 ⟨B1, e1, rfl, E1, F1⟩
  refine ⟨_, rfl, Cn.eq (c19 (R1.keep E1) F1.row rfl rfl (by dsimp only; rw [firstL_len]; decide)) ⟨_, rfl, w15_4 ⟨fun _ => ?_, fun h => (by simp at h)⟩⟩⟩
  have K1' := K08.trans E1
  refine Cn.mono (c21 (n := 16) (v := 10) (w := 10) (fb hf K1') (by decide) (by decide)) ?_
  rintro _ P2 ⟨B2, e2, rfl, E2, F2⟩
  refine ⟨_, rfl, Cn.eq (c19 ((R2.keep E1).keep E2) F2.row rfl rfl (by dsimp only; rw [firstL_len]; decide)) ⟨_, rfl, w15_5 ⟨fun _ => ?_, fun h => (by simp at h)⟩⟩⟩
  have K2' := K1'.trans E2
  refine Cn.mono (c21 (n := 16) (v := 1) (w := 1) (fb hf K2') (by decide) (by decide)) ?_
  rintro _ P3 ⟨B3, e3, rfl, E3, F3⟩
  refine ⟨_, rfl, Cn.eq (c19 (((R3.keep E1).keep E2).keep E3) F3.row rfl rfl (by dsimp only; rw [firstL_len]; decide)) ⟨_, rfl, w15_6 ⟨fun _ => ?_, fun h => (by simp at h)⟩⟩⟩
  have K3' := K2'.trans E3
  refine Cn.mono (c21 (n := 16) (v := 12) (w := 0) (fb hf K3') (by decide) (by decide)) ?_
  rintro _ P4 ⟨B4, e4, rfl, E4, F4⟩
  exact ⟨_, rfl, Cn.eq (c19 ((((O8.row.keep E1).keep E2).keep E3).keep E4) F4.row rfl rfl (by dsimp only; rw [firstL_len]; decide)) ⟨_, rfl, by simp, K3'.trans E4⟩⟩
end Go.Zt

