/- Layer 1: calls of readers and writers by their kinds; rows compared and copied. -/
import Derived.Test.YtgepgbblmodagaaZkK
import Derived.Test.YtgepgbblmodagaaZkD
set_option linter.unusedSimpArgs false
set_option linter.unusedVariables false
namespace Go.Zt
open Go Go.Sim Go.Proofs Go.RowKit
theorem c21 {x n : Int} {M : Mem} (hx : -9223372036854775808 ≤ x ∧ x ≤ 9223372036854775807) (hn : n ≤ 9223372036854775807) : Cn Try.prog 21 #[.int .i64 x, .int .i64 n] M fun v N => v = .int .i64 (brg x n) ∧ N = M := by
  refine w21_0 ⟨fun h => ⟨by unfold brg; rw [if_pos h], rfl⟩, fun h => ⟨_, binV_rem (by omega), _, rfl, ?_⟩⟩
  obtain ⟨h1, h2⟩ := brg_tmod (x := x) h
  have h3 : brg x n < n ∧ 0 ≤ brg x n := by
    unfold brg; rw [if_neg h]
    exact ⟨Int.emod_lt_of_pos x (by omega), Int.emod_nonneg x (by omega)⟩
  refine ⟨fun h0 => ⟨by rw [h1 h0, i64w (by omega)], rfl⟩, fun h0 => ⟨by rw [h2 h0], rfl⟩⟩
theorem c16_loop {M : Mem} {A B : Option Addr} {l l' : List Nat} (hA : Row M A (U8 l)) (hB : Row M B (U8 l')) {n m c d : Nat} (hn : n = l.length) (hm : m = l'.length) (hl : l.length = l'.length) (hb : n ≤ 4611686018427387904) {Q : Value → Mem → Prop} :
    ∀ (k i : Nat), i + k = n → Q (.bool (decide (l.drop i = l'.drop i))) M → A16_1 A n c B m d i M Q
  | 0, i, hi, hQ => by
    refine w16_1 ⟨fun h => by omega, fun _ => ?_⟩
    have e : decide (l.drop i = l'.drop i) = true := by
      rw [List.drop_of_length_le (by omega), List.drop_of_length_le (by omega)]; simp
    rw [e] at hQ; exact hQ
  | k + 1, i, hi, hQ => by
    have h1 : i < l.length := by omega
    have h2 : i < l'.length := by omega
    obtain ⟨a, i1, i2⟩ := hA.int1 (n := n) (i := i) (z := i) (k := .u8) (x := (l[i] : Nat)) rfl (by omega) (by simp [h1])
    obtain ⟨a', i3, i4⟩ := hB.int1 (n := m) (i := i) (z := i) (k := .u8) (x := (l'[i] : Nat)) rfl (by omega) (by simp [h2])
    refine w16_1 ⟨fun _ => ⟨_, i1, _, i2, _, i3, _, i4, fun hne => ?_, fun he => ?_⟩, fun h => by omega⟩
    · have e : decide (l.drop i = l'.drop i) = false := decide_eq_false fun e => hne (by
        have := congrArg (fun x => x[0]?) e
        simp [h1, h2] at this
        rw [this])
      rw [e] at hQ; exact hQ
    · rw [i64w (by omega), show ((i : Int) + 1) = ((i + 1 : Nat) : Int) by omega]
      refine c16_loop hA hB hn hm hl hb k (i + 1) (by omega) ?_
      have e : (l.drop i = l'.drop i) = (l.drop (i + 1) = l'.drop (i + 1)) := by
        rw [List.drop_eq_getElem_cons h1, List.drop_eq_getElem_cons h2, show l[i] = l'[i] by omega]; exact propext ⟨fun x => (List.cons.inj x).2, fun x => by rw [x]⟩
      simpa only [e] using hQ
theorem c16 {M : Mem} {A B : Option Addr} {l l' : List Nat} (hA : Row M A (U8 l)) (hB : Row M B (U8 l')) {n m c d : Nat} (hn : n = l.length) (hm : m = l'.length) (hb : n ≤ 4611686018427387904) :
    Cn Try.prog 16 #[.slice A n c, .slice B m d] M fun v N => v = .bool (decide (l = l')) ∧ N = M := by
  refine w16_0 ⟨fun h => ⟨?_, rfl⟩, fun h => ?_⟩
  · have : l ≠ l' := fun e => h (by rw [hn, hm, e])
    simp [this]
  · exact c16_loop hA hB hn hm (by omega) hb n 0 (by omega) ⟨rfl, rfl⟩
theorem c9 {M : Mem} (hf : M.floor ≤ M.nb.size) {A : Option Addr} {n c : Nat} {b : List Nat} (hR : Row M A (U8 b)) (hn : n = b.length) (hb : n ≤ 4294967296) :
    Cn Try.prog 9 #[.slice A n c] M fun v N => ∃ A' c', v = .slice A' n c' ∧ Keep M N ∧ Own (fun j => M.nb.size ≤ j) N 5 A' c' (U8 b) ∧ n ≤ c' := by
  obtain ⟨A', c', M', g1, g2, g3, g4⟩ := append_own el5 (Own.empty (S := fun j => M.nb.size ≤ j) (M := M) (e := 5)) (n := 0) (c := 0) (k := n) (by simp) hR (by simp [hn]) (u8_one b) (fun j hj => Nat.le_trans hf hj) (Nat.le_refl _) (by omega)
  rw [Nat.zero_add] at g1 g4
  exact w9_0 ⟨_, g1, _, rfl, A', c', rfl, Keep.step (.refl _) g2 fun j hj => hj, by simpa using g3, g4⟩
structure DoV where
  k : Int
  n : Int
  v : Nat
abbrev DoV.cells (d : DoV) : List Value := [.int .i64 d.k, .int .i64 d.n, .int .u32 (d.v : Nat)]
abbrev Ds (l : List DoV) : List Value := l.flatMap DoV.cells
def DoV.wf (d : DoV) : Prop := (-9223372036854775808 ≤ d.k ∧ d.k ≤ 9223372036854775807) ∧ d.v < 4294967296
theorem Ds.at {M : Mem} {A : Option Addr} {l : List DoV} (hR : Row M A (Ds l)) {n i : Nat} {z : Int} (hz : z = (i : Int)) (hn : i < n) (hi : i < l.length) :
    ∃ a, idxA A n 3 z = some a ∧ M.intAt .i64 a.block a.off = some l[i].k ∧ M.intAt .i64 a.block (a.off + 1) = some l[i].n ∧ M.intAt .u32 a.block (a.off + 2) = some ((l[i].v : Nat) : Int) := by
  obtain ⟨a, h1, h2⟩ := Row.flat (f := DoV.cells) (s := 3) (fun _ => rfl) hR (by decide) hz hn hi
  exact ⟨a, h1, cell_int (h2 0 (by decide)), cell_int (h2 1 (by decide)), cell_int (h2 2 (by decide))⟩
abbrev DoV.arg (d : DoV) : Value := .agg #[.int .i64 d.k, .int .i64 d.n, .int .u32 (d.v : Nat)]
def toU (x : Int) : Nat := (x % 4294967296).toNat
theorem toU_wrap (x : Int) : IntKind.u32.wrap x = ((toU x : Nat) : Int) := by unfold toU; rw [IntKind.wrap_u32]; omega
abbrev DoB (M : Mem) (d : DoV) : Mem := M.new (.cells #[.int .i64 d.k, .int .i64 d.n, .int .u32 (d.v : Nat)] 29)
theorem DoB.chg {S : Nat → Prop} (M : Mem) (d : DoV) : Chg S M (DoB M d) := .new _ _
section
variable {S : Nat → Prop} {M : Mem} {j : Nat} {b : List Nat} {p : Nat}
end
end Go.Zt
