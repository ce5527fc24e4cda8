/- Layer 8: TxfmTypes. -/
import Derived.Test.YtpfhalehdgcbeaaZge
import Derived.Test.YtpfhalehdgcbeaaZgDj
set_option linter.unusedSimpArgs false
set_option linter.unusedVariables false
namespace Go.Zt
open Go Go.Sim Go.Proofs Go.RowKit

theorem twoF_gx (f : Nat → Int) (a : List Int) : twoF f (gx a) a.length 0 = a := by
  rw [twoF_0]
  refine List.ext_getElem? fun i => ?_
  by_cases hi : i < a.length
  · rw [List.getElem?_map, List.getElem?_range hi, List.getElem?_eq_getElem hi]; simp [gx, hi]
  · rw [List.getElem?_eq_none (by simp; omega), List.getElem?_eq_none (by omega)]
theorem c9_3 {S : Nat → Prop} {M0 : Mem} {x0 x3 n : Int} {A B : Option Addr} {ca cb : Nat} {a : List Int} (hf : M0.floor ≤ M0.nb.size) (hfl : ∀ j, S j → M0.floor ≤ j) (hB : Own (fun j => ¬ S j) M0 3 B cb (Ints (typesS n))) (ha : a.length ≤ 1048576) {Q : Value → Mem → Prop}
    (hE : ∀ M, M.floor ≤ M.nb.size → A9_1 x0 (IntKind.i64.wrap (x3 + 1)) M Q) :
    ∀ (k i : Nat) {M : Mem}, i + k = a.length → Chg S M0 M → Own S M 3 A ca (Ints (twoF (fun _ => 99) (gx a) a.length i)) → A9_3 x0 x3 n A a.length ca B (typesS n).length cb (i : Nat) M Q := by
  have ht := typesS_le n
  intro k
  induction k with
  | zero =>
    intro i M hi K hO
    have hfM : M.floor ≤ M.nb.size := by rw [K.floor]; exact Nat.le_trans hf K.size
    refine w9_3 ⟨fun h => by omega, fun _ => Cn.mono c26 ?_⟩
    rintro _ N ⟨C, d, rfl, K2, O2⟩
    refine ⟨_, rfl, Cn.eq (c19 ((hB.chg K fun j _ h1 h2 => h1 h2).row.keep K2) O2.row rfl rfl (by omega)) ⟨_, rfl, fun h => (by simp at h), fun _ => hE N (fb hfM K2)⟩⟩
  | succ k ih =>
    intro i M hi K hO
    obtain ⟨q, p1, M', p2, p3, p4, p5⟩ := hO.put1 (fun j hj => by rw [K.floor]; exact hfl j hj) (n := a.length) (i := i) (z := (i : Nat)) (v := .int .i64 99) rfl (by omega) (by rw [List.length_map, twoF_len]; omega) rfl
    have e := twoF_set (f := fun _ => 99) (g := gx a) (n := a.length) (i := i)
    rw [e] at p5
    refine w9_3 ⟨fun _ => ⟨_, p1, M', p2, ?_⟩, fun h => by omega⟩
    rw [i64w (x := (i : Int) + 1) (by omega), show ((i : Int) + 1) = ((i + 1 : Nat) : Int) by omega]
    exact ih (i + 1) (by omega) (K.trans p3) p5
theorem c9_1 {x0 : Int} : ∀ (m : Nat) (x3 : Int) {M : Mem}, x3 + m = 70 → -2 ≤ x3 → M.floor ≤ M.nb.size → A9_1 x0 x3 M fun v _ => v = .bool true := by
  intro m
  induction m with
  | zero =>
    intro x3 M h h2 hf
    refine w9_1 ⟨fun hh => by omega, fun _ => Cn.mono (c15 hf) ?_⟩
    rintro _ N ⟨rfl, _⟩
    exact ⟨_, rfl, rfl⟩
  | succ m ih =>
    intro x3 M h h2 hf
    have nx : ∀ M : Mem, M.floor ≤ M.nb.size → A9_1 x0 (IntKind.i64.wrap (x3 + 1)) M fun v _ => v = .bool true := by
      intro M hM
      rw [i64w (by omega)]
      exact ih (x3 + 1) (by omega) (by omega) hM
    refine w9_1 ⟨fun _ => ⟨fun _ => ?_, fun _ => ?_⟩, fun hh => by omega⟩
    all_goals
      refine Cn.mono (c23 hf) ?_
      rintro _ N1 ⟨A, ca, rfl, K1, O1⟩
      have hf1 := fb hf K1
      refine ⟨_, rfl, Cn.mono (c23 hf1) ?_⟩
      rintro _ N2 ⟨B, cb, rfl, K2, O2⟩
      have hf2 := fb hf1 K2
      refine ⟨_, rfl, Cn.mono (c24 hf2) ?_⟩
      rintro _ N3 ⟨rfl, K3⟩
      have hf3 := fb hf2 K3
      refine ⟨_, rfl, _, rfl, _, rfl, Cn.mono c25 ?_⟩
      rintro _ N4 ⟨rfl, K4⟩
      have hf4 := fb hf3 K4
      refine ⟨_, rfl, _, rfl, _, rfl, Cn.mono c26 ?_⟩
      rintro _ N5 ⟨C, cc, rfl, K5, O5⟩
      have hf5 := fb hf4 K5
      have K25 := (K2.trans K3).trans (K4.trans K5)
      have K35 := K3.trans (K4.trans K5)
      have fl1 := K1.floor
      have fl2 := K25.floor
      refine ⟨_, rfl, Cn.eq (c19 (O1.row.keep K25) O5.row rfl rfl (Nat.le_trans (typesS_le _) (by decide))) ⟨_, rfl, fun h => (by simp at h), fun _ => ⟨fun h => absurd rfl h, fun _ => w9_2 ⟨fun h => (by simp at h), fun _ => ?_⟩⟩⟩⟩
      refine c9_3 (S := fun j => M.nb.size ≤ j ∧ j < N1.nb.size) hf5 (fun j hj => by rw [fl2, fl1]; exact Nat.le_trans hf hj.1) ((O2.chg K35 fun _ _ _ h => h).mono fun j _ hj => by omega) (Nat.le_trans (typesS_le _) (by decide)) nx _ 0 (Nat.zero_add _) (.refl _) ?_
      rw [twoF_gx]
      exact ((O1.mono (T := fun j => M.nb.size ≤ j ∧ j < N1.nb.size) fun j hlt hj => ⟨hj, hlt⟩).chg K25 fun _ _ _ h => h)
theorem c9 {x0 : Int} {M : Mem} (hf : M.floor ≤ M.nb.size) : Cn Try.prog 9 #[.int .i64 x0] M fun v _ => v = .bool true :=
  w9_0 (c9_1 72 (-2) (by omega) (by omega) hf)
theorem law9 {W : World} {B : Nat} {u0 : Value} (s0 : Sees Try.prog (mem0 W) B 8 3 [u0]) : Cn Try.prog 9 #[u0] (mem0 W) fun v _ => v = .bool true := by
  obtain ⟨z, hz, _⟩ := sees_int (q := .i64) (by kernel_rfl) s0
  obtain rfl : u0 = _ := by simpa using hz
  exact c9 (Nat.zero_le _)
end Go.Zt

