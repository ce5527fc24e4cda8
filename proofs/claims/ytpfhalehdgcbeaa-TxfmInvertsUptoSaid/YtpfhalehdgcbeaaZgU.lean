/- Layer 7: the reference's transforms, both ways. -/
import Derived.Test.YtpfhalehdgcbeaaZgT
import Derived.Test.YtpfhalehdgcbeaaZgM
set_option linter.unusedSimpArgs false
set_option linter.unusedVariables false
namespace Go.Zt
open Go Go.Sim Go.Proofs Go.RowKit

/-- The weights, as told: none for the fourth kind. -/
def WtR (M : Mem) (kind n : Nat) (A : Option Addr) (lm : Nat) : Prop :=
  (kind = 3 ∧ lm = 0) ∨ (kind < 3 ∧ lm = n ∧ ∃ As, Row M A (Sls n As) ∧ As.length = n ∧ Mat M n (wS kind n) As)
theorem WtR.keep {M N : Mem} {kind n : Nat} {A : Option Addr} {lm : Nat} (h : WtR M kind n A lm) (k : Keep M N) : WtR N kind n A lm := by
  rcases h with h | ⟨h1, h2, As, h3, h4, h5⟩
  · exact .inl h
  · exact .inr ⟨h1, h2, As, h3.keep k, h4, h5.keep k⟩
theorem lenB_kind {kind : Int} {n : Nat} (h : lenB kind n = true) : 0 ≤ kind ∧ kind ≤ 3 := by
  unfold lenB at h
  repeat' split at h
  all_goals first | (cases h; done) | omega
theorem c39 {M : Mem} (hf : M.floor ≤ M.nb.size) {kind n : Nat} (hl : lenB (kind : Nat) n = true) :
    Cn Try.prog 39 #[.int .i64 (kind : Nat), .int .i64 (n : Nat)] M fun v N => ∃ A lm c, v = .slice A lm c ∧ Keep M N ∧ WtR N kind n A lm := by
  have hk := lenB_kind hl
  refine w39_0 ⟨fun h => ⟨none, 0, 0, rfl, .refl _, .inl ⟨by omega, rfl⟩⟩, fun h => Cn.mono (c55 hf (by omega) hl) ?_⟩
  rintro _ N ⟨A, c, As, rfl, K, h1, h2, h3⟩
  exact ⟨_, rfl, A, n, c, rfl, K, .inr ⟨by omega, rfl, As, h1, h2, h3⟩⟩
section
variable {M0 : Mem} {A X : Option Addr} {n c cm : Nat} {x : List Int} {kind : Nat} {As : List (Option Addr)}
/-- A weight is read. -/
theorem wt_at {M : Mem} (hR : Row M A (Sls n As)) (hl : As.length = n) (hM : Mat M n (wS kind n) As) {k i : Nat} (hk : k < n) (hi : i < n) :
    ∃ a, idxA A n 1 (k : Nat) = some a ∧ ∃ s, M.slAt a.block a.off = some s ∧ ∃ b, idxA s.1 s.2.1 1 (i : Nat) = some b ∧ M.intAt .i64 b.block b.off = some (wS kind n k i) := by
  obtain ⟨a, h1, h2⟩ := hR.elt1 (n := n) (i := k) (z := k) rfl hk (by rw [List.length_map, hl]; exact hk)
  have e : (Sls n As)[k]? = some (.slice As[k] n n) := by rw [List.getElem?_map, List.getElem?_eq_getElem (by omega)]; rfl
  obtain ⟨b, h3, h4⟩ := (hM k (by omega)).row.int1 (n := n) (i := i) (z := i) (k := .i64) (x := wS kind n k i) rfl hi (by rw [List.getElem?_map, List.getElem?_map, List.getElem?_range hi]; rfl)
  exact ⟨a, h1, _, cell_sl (h2.trans e), b, h3, h4⟩
theorem mul_bd (hx : x.all near = true) {j k i : Nat} : -((1048576 * 16384 : Nat) : Int) ≤ gx x j * wS kind n k i ∧ gx x j * wS kind n k i ≤ ((1048576 * 16384 : Nat) : Int) :=
  mulb (A := 1048576) (gx_near hx j) (wS_b ..)
theorem dot_bd (h64 : n ≤ 64) {f : Nat → Int} {m : Nat} (hm : m ≤ n) (h : ∀ i, i < m → -((1048576 * 16384 : Nat) : Int) ≤ f i ∧ f i ≤ ((1048576 * 16384 : Nat) : Int)) : -1099511627776 ≤ dot f m ∧ dot f m ≤ 1099511627776 := by
  have h1 := dot_b h
  have h2 : m * (1048576 * 16384) ≤ 1099511627776 := by omega
  generalize m * (1048576 * 16384) = q at h1 h2
  omega
theorem fdiv12 {v : Int} : v.fdiv (2 ^ 12) = v / 4096 := by
  rw [Int.fdiv_eq_ediv_of_nonneg v (by decide : (0 : Int) ≤ 2 ^ 12)]; rfl
theorem fdiv1 {v : Int} : v.fdiv (2 ^ 1) = v / 2 := by
  rw [Int.fdiv_eq_ediv_of_nonneg v (by decide : (0 : Int) ≤ 2 ^ 1)]; rfl
/-- What a transform of the reference tells. -/
abbrev Told (M0 : Mem) (L : List Int) : Value → Mem → Prop := fun v N => ∃ B d, v = .slice B L.length d ∧ Keep M0 N ∧ Own (fun j => M0.nb.size ≤ j) N 3 B d (Ints L)
end
end Go.Zt

