/- What ScanContexts comes to. -/
import Derived.Test.YtfhlpnpghaombaaZtL
import Derived.Test.YtfhlpnpghaombaaZtM
set_option linter.unusedSimpArgs false
set_option linter.unusedVariables false
namespace Go.Zt
open Go Go.Sim Go.Proofs Go.RowKit

theorem c16 {l : List Int} {A : Option Addr} {c : Nat} (M : Mem) (hA : Row M A (I64 l)) (hl : l.length ≤ 1048576) :
    Cn Try.prog 16 #[.slice A l.length c] M fun v N => ∃ B d, v = .slice B l.length d ∧ Keep M N ∧ Owns M.nb.size N 3 B d (I64 l) := by
  obtain ⟨B, d, N, h1, h2, h3⟩ := append_nil (k := l.length) (c := c) elem hA (by simp) (S := fun j => M.nb.size ≤ j) (Nat.le_refl _) (by omega)
  exact w16_0 ⟨_, h1, _, rfl, B, d, rfl, Keep.step (.refl _) h2 fun j h => h, h3⟩

theorem c6_loop {l : List Int} {A B : Option Addr} {c d : Nat} {size at_ : Int} (hl : l.length ≤ 1048576) {M0 : Mem} (hA : Row M0 A (I64 l)) (hB : Row M0 B (I64 l)) (hf : M0.floor ≤ M0.nb.size) {Q : Value → Mem → Prop} (hQ : ∀ N, Keep M0 N → Q (.bool true) N) :
    ∀ (k : Nat) (i : Int) {M : Mem}, i + k = 16 → -1 ≤ i → Keep M0 M → A6_1 A l.length c size at_ B l.length d i M Q
  | 0, i, M, hi, h0, hK => by
    have hfM : M.floor ≤ M.nb.size := by rw [hK.floor]; exact Nat.le_trans hf hK.size
    refine w6_1 ⟨fun h => by omega, fun _ => Cn.mono (c11 (hB.keep hK) (hA.keep hK) rfl rfl (by show l.length ≤ _; omega)) ?_⟩
    rintro v N ⟨rfl, rfl⟩
    refine ⟨_, rfl, fun _ => Cn.mono (c14 N hfM) ?_, fun h => by simp at h⟩
    rintro v N2 ⟨rfl, hK2⟩
    exact ⟨_, rfl, hQ _ (hK.trans hK2)⟩
  | k + 1, i, M, hi, h0, hK => by
    have hfM : M.floor ≤ M.nb.size := by rw [hK.floor]; exact Nat.le_trans hf hK.size
    have next : ∀ M', Keep M0 M' → A6_4 A l.length c size at_ B l.length d i false M' Q := by
      intro M' hK'
      refine w6_4 ⟨fun h => (by cases h), fun _ => ?_⟩
      rw [wr _ (by omega)]
      exact c6_loop hl hA hB hf hQ k (i + 1) (by omega) (by omega) hK'
    have fin : ∀ (x y z : Int) (M' : Mem), Keep M0 M' → A6_2 A l.length c size at_ B l.length d i x y x y false M' Q := by
      intro x y z M' hK'
      refine w6_2 ⟨fun h => (by cases h), fun _ => ?_⟩
      have e1 : (x != x) = false := by simp
      have e2 : (y != y) = false := by simp
      rw [e1]
      refine w6_3 ⟨fun h => (by cases h), fun _ => ?_⟩
      rw [e2]; exact next M' hK'
    have step : ∀ to : Int, Cn Try.prog 17 #[.slice B l.length d, .int .i64 size, .int .i64 to] M fun v3 N3 => ∃ cs4, asU 2 v3 = some cs4 ∧ ∃ x5, asI .i64 (cs4.getD 0 undef) = some x5 ∧ ∃ x6, asI .i64 (cs4.getD 1 undef) = some x6 ∧
        Cn Try.prog 18 #[.slice A l.length c, .int .i64 size, .int .i64 to] N3 fun v7 N7 => ∃ cs8, asU 2 v7 = some cs8 ∧ ∃ x9, asI .i64 (cs8.getD 0 undef) = some x9 ∧ ∃ x10, asI .i64 (cs8.getD 1 undef) = some x10 ∧
        Cn Try.prog 19 #[.slice B l.length d, .int .i64 size, .int .i64 to] N7 fun v11 N11 => ∃ cs12, asU 2 v11 = some cs12 ∧ ∃ x13, asI .i64 (cs12.getD 0 undef) = some x13 ∧ ∃ x14, asI .i64 (cs12.getD 1 undef) = some x14 ∧
        Cn Try.prog 20 #[.slice A l.length c, .int .i64 size, .int .i64 to] N11 fun v15 N15 => ∃ cs16, asU 2 v15 = some cs16 ∧ ∃ x17, asI .i64 (cs16.getD 0 undef) = some x17 ∧ ∃ x18, asI .i64 (cs16.getD 1 undef) = some x18 ∧
          ((x5 ≠ x9 → A6_2 A l.length c size at_ B l.length d i x13 x14 x17 x18 true N15 Q) ∧
           (x5 = x9 → A6_2 A l.length c size at_ B l.length d i x13 x14 x17 x18 (x6 != x10) N15 Q)) := by
      intro to
      refine Cn.mono (c17 M (hB.keep hK) (by omega) hfM) ?_
      rintro v N ⟨rfl, hK1⟩
      have hKN := hK.trans hK1
      refine ⟨_, rfl, _, rfl, _, rfl, Cn.mono (c18 (hA.keep hKN) (by omega)) ?_⟩
      rintro v N' ⟨rfl, rfl⟩
      refine ⟨_, rfl, _, rfl, _, rfl, Cn.mono (c19 N' (hB.keep hKN) (by omega) (by rw [hKN.floor]; exact Nat.le_trans hf hKN.size)) ?_⟩
      rintro v N2 ⟨rfl, hK2⟩
      have hKN2 := hKN.trans hK2
      refine ⟨_, rfl, _, rfl, _, rfl, Cn.mono (c20 (hA.keep hKN2) (by omega)) ?_⟩
      rintro v N3 ⟨rfl, rfl⟩
      refine ⟨_, rfl, _, rfl, _, rfl, fun h => absurd rfl h, fun _ => ?_⟩
      have e : ((ctx l size to 3 4).2 != (ctx l size to 3 4).2) = false := by simp
      rw [e]
      exact fin _ _ 0 _ hKN2
    exact w6_1 ⟨fun _ => ⟨fun _ => step i, fun _ => step at_⟩, fun h => by omega⟩
theorem c6 {l : List Int} {A : Option Addr} {c : Nat} (size at_ : Int) (hl : l.length ≤ 1048576) (M : Mem) (hA : Row M A (I64 l)) (hf : M.floor ≤ M.nb.size) :
    Cn Try.prog 6 #[.slice A l.length c, .int .i64 size, .int .i64 at_] M fun v N => v = .bool true ∧ Keep M N := by
  refine w6_0 (Cn.mono (c16 M hA hl) ?_)
  rintro v N ⟨B, d, rfl, hK, hO⟩
  exact ⟨_, rfl, c6_loop hl (hA.keep hK) hO.row (by rw [hK.floor]; exact Nat.le_trans hf hK.size) (fun N' h => ⟨rfl, hK.trans h⟩) 17 (-1) (by omega) (by omega) (.refl _)⟩
end Go.Zt
