/- Layer 7: the law's helpers; works. -/
import Derived.Test.YtpfhalehdgcbeaaZgH
set_option linter.unusedSimpArgs false
set_option linter.unusedVariables false
namespace Go.Zt
open Go Go.Sim Go.Proofs Go.RowKit

theorem c19_loop {M : Mem} {A B : Option Addr} {l l' : List Int} (hA : Row M A (Ints l)) (hB : Row M B (Ints l')) {n m c d : Nat} (hn : n = l.length) (hm : m = l'.length) (hl : l.length = l'.length) (hb : n ≤ 4611686018427387904) {Q : Value → Mem → Prop} :
    ∀ (k i : Nat), i + k = n → Q (.bool (decide (l.drop i = l'.drop i))) M → A19_1 A n c B m d i M Q
  | 0, i, hi, hQ => by
    refine w19_1 ⟨fun h => by omega, fun _ => ?_⟩
    have e : decide (l.drop i = l'.drop i) = true := by
      rw [List.drop_of_length_le (by omega), List.drop_of_length_le (by omega)]; simp
    rw [e] at hQ; exact hQ
  | k + 1, i, hi, hQ => by
    have h1 : i < l.length := by omega
    have h2 : i < l'.length := by omega
    obtain ⟨a, i1, i2⟩ := hA.int1 (n := n) (i := i) (z := i) (k := .i64) (x := l[i]) rfl (by omega) (by simp [h1])
    obtain ⟨b, j1, j2⟩ := hB.int1 (n := m) (i := i) (z := i) (k := .i64) (x := l'[i]) rfl (by omega) (by simp [h2])
    rw [List.drop_eq_getElem_cons h1, List.drop_eq_getElem_cons h2] at hQ
    refine w19_1 ⟨fun _ => ⟨_, i1, _, i2, _, j1, _, j2, fun h => ?_, fun h => ?_⟩, fun h => by omega⟩
    · rw [decide_eq_false (fun hh => h (List.cons.inj hh).1)] at hQ; exact hQ
    · rw [i64w (by omega), show ((i : Int) + 1) = ((i + 1 : Nat) : Int) by omega]
      refine c19_loop hA hB hn hm hl hb k (i + 1) (by omega) ?_
      have : decide (l[i] :: l.drop (i + 1) = l'[i] :: l'.drop (i + 1)) = decide (l.drop (i + 1) = l'.drop (i + 1)) := by
        rw [decide_eq_decide, h]; exact ⟨fun h => (List.cons.inj h).2, fun h => by rw [h]⟩
      rw [this] at hQ; exact hQ
theorem c19 {M : Mem} {A B : Option Addr} {l l' : List Int} (hA : Row M A (Ints l)) (hB : Row M B (Ints l')) {n m c d : Nat} (hn : n = l.length) (hm : m = l'.length) (hb : n ≤ 4611686018427387904) :
    Cn Try.prog 19 #[.slice A n c, .slice B m d] M fun v N => v = .bool (decide (l = l')) ∧ N = M := by
  refine w19_0 ⟨fun h => ⟨?_, rfl⟩, fun h => ?_⟩
  · have : l ≠ l' := fun e => h (by rw [hn, hm, e])
    simp [this]
  · exact c19_loop hA hB hn hm (by omega) hb n 0 (Nat.zero_add _) ⟨by simp, rfl⟩
section
variable {M0 : Mem} {A : Option Addr} {n0 c0 : Nat} {y : List Int}
/-- A row brought to a bound. -/
def Within (m : Nat) (x : List Int) : Prop := ∀ v ∈ x, -(m : Int) ≤ v ∧ v ≤ m
end
theorem mayB_of {kind : Int} {x : List Int} {m : Nat} (hl : lenB kind x.length = true) (hm : m ≤ 1048576) (hx : Within m x) : mayB kind x = true := by
  unfold mayB
  rw [hl, Bool.true_and, List.all_eq_true]
  intro v hv
  have := hx v hv
  exact decide_eq_true (by omega)
theorem fresh_row {M : Mem} (L : List Int) : Row (M.new (.cells (Ints L).toArray 3)) (some ⟨2 * M.nb.size, 0, none⟩) (Ints L) := Row.new M 3 (Ints L)
theorem fb {M N : Mem} (hf : M.floor ≤ M.nb.size) (K : Keep M N) : N.floor ≤ N.nb.size := by rw [K.floor]; exact Nat.le_trans hf K.size
theorem fr (M : Mem) (L : List Int) {cs : Array Value} (h : (Ints L).toArray = cs) : ∃ N, M.new (.cells cs 3) = N ∧ Keep M N ∧ Row N (some ⟨2 * M.nb.size, 0, none⟩) (Ints L) := by
  subst h; exact ⟨_, rfl, .new _ _, fresh_row L⟩
end Go.Zt

