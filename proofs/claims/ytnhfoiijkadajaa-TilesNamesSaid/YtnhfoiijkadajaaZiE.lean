/- Layer 1: numbers of bits; the program's readers. -/
import Derived.Test.YtnhfoiijkadajaaZiB
import Derived.Test.YtnhfoiijkadajaaZsT
set_option linter.unusedSimpArgs false
set_option linter.unusedVariables false
namespace Go.Zu
open Go Go.Sim Go.Proofs Go.RowKit
abbrev U8 (l : List Nat) : List Value := l.map fun x => Value.int .u8 (x : Nat)
abbrev Byt (l : List Nat) : Prop := ∀ x ∈ l, x < 256
theorem el5 : ElemS Try.prog 46 5 1 1 (.int .u8 0) := ⟨by kernel_rfl, by kernel_rfl, rfl, by decide, by decide⟩
def bitOf (b : List Nat) (i : Nat) : Nat := b.getD (i / 8) 0 / 2 ^ (7 - i % 8) % 2
theorem bitOf_lt (b : List Nat) (i : Nat) : bitOf b i < 2 := Nat.mod_lt _ (by decide)
def numb (f : Nat → Nat) (a : Nat) : Nat → Nat
  | 0 => 0
  | n + 1 => 2 * numb f a n + f (a + n)
theorem numb_lt {f : Nat → Nat} (hf : ∀ i, f i < 2) (a : Nat) : ∀ n, numb f a n < 2 ^ n
  | 0 => by simp [numb]
  | n + 1 => by
    have := numb_lt hf a n
    have := hf (a + n)
    simp only [numb, Nat.pow_succ]; omega
def lebL : List Nat → Nat → Nat → Nat × Nat × Nat
  | [], _, _ => (0, 3, 0)
  | c :: r, i, v => if i = 4 ∧ c > 15 ∨ i > 0 ∧ c = 0 then (0, 4, 0) else if c < 128 then (v + c % 128 * 128 ^ i, 0, i + 1) else lebL r (i + 1) (v + c % 128 * 128 ^ i)
def rLeb (b : List Nat) (p : Nat) : Nat × Nat × Nat :=
  if p % 8 ≠ 0 then (0, 2, p) else let r := lebL (b.drop (p / 8)) 0 0; (r.1, r.2.1, p + 8 * r.2.2)
abbrev PtrB (j : Nat) : Value := .pointer (some ⟨2 * j, 0, none⟩)
structure Rdr (S : Nat → Prop) (M : Mem) (j : Nat) (b : List Nat) (p : Nat) : Prop where
  out : ¬ S j
  byt : Byt b
  len : b.length ≤ 4294967296
  pos : p ≤ 8 * b.length
  ex : ∃ A c, M.nb[j]? = some (.cells #[.slice A b.length c, .int .i64 (p : Nat), .bool true] 89) ∧ Row M A (U8 b) ∧ b.length ≤ c ∧ (A = none → c = 0) ∧ ∀ a, A = some a → a.block % 2 = 1 ∨ S (a.block / 2)
theorem Rdr.chg {S T : Nat → Prop} {M M' : Mem} {j : Nat} {b : List Nat} {p : Nat} (h : Rdr S M j b p) (k : Chg T M M') (hj : ¬ T j) (hS : ∀ i, S i → ¬ T i) : Rdr S M' j b p := by
  obtain ⟨A, c, h1, h2, h3, h0, h4⟩ := h.ex
  exact ⟨h.out, h.byt, h.len, h.pos, A, c, at_chg h1 k hj, h2.chg k fun a ha => (h4 a ha).imp id (hS _), h3, h0, h4⟩
theorem Rdr.keep {S : Nat → Prop} {M M' : Mem} {j : Nat} {b : List Nat} {p : Nat} (h : Rdr S M j b p) (k : Keep M M') : Rdr S M' j b p := h.chg k (fun x => x) fun _ _ x => x
theorem Rdr.set {S : Nat → Prop} {M : Mem} {j : Nat} {b : List Nat} {p : Nat} (h : Rdr S M j b p) (hf : M.floor ≤ j) {p' : Nat} (hp : p' ≤ 8 * b.length) {z : Int} (hz : z = (p' : Int)) :
    ∃ M', M.put (2 * j) 1 (.int .i64 z) = some M' ∧ Chg (· = j) M M' ∧ M'.nb.size = M.nb.size ∧ Rdr S M' j b p' := by
  subst hz
  obtain ⟨A, c, h1, h2, h3, h0, h4⟩ := h.ex
  have hC : Chg (· = j) M (M.upd j (.cells (#[.slice A b.length c, .int .i64 (p : Nat), .bool true].setIfInBounds 1 (.int .i64 (p' : Nat))) 89)) := upd_chg rfl
  exact ⟨_, put_of h1 hf (by simp) rfl, hC, upd_size _, h.out, h.byt, h.len, hp, A, c, upd_at (lt_of_at h1), h2.chg hC fun a ha => (h4 a ha).imp id fun hs e => h.out (e ▸ hs), h3, h0, h4⟩
section
variable {S : Nat → Prop} {M : Mem} {j : Nat} {b : List Nat} {p : Nat}
theorem c55 (h : Rdr S M j b p) : Cn Try.prog 55 #[PtrB j] M fun v N => v = .bool true ∧ N = M := by
  obtain ⟨A, c, h1, h2, h3, h0, h4⟩ := h.ex
  exact w55_0 ⟨fun _ => ⟨_, rfl, _, bool_of h1 rfl, rfl, rfl⟩, fun h => absurd h (by simp)⟩
def RdR (S : Nat → Prop) (M : Mem) (j : Nat) (b : List Nat) (u : Value) (p' : Nat) : Value → Mem → Prop := fun v N => v = u ∧ Chg (· = j) M N ∧ N.nb.size = M.nb.size ∧ Rdr S N j b p'
theorem RdR.same (h : Rdr S M j b p) {u : Value} : RdR S M j b u p u M := ⟨rfl, .refl _, rfl, h⟩
end
end Go.Zu
