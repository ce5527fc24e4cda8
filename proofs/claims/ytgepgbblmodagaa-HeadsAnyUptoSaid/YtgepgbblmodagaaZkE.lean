/- Layer 1: numbers of bits; the program's readers. -/
import Derived.Test.YtgepgbblmodagaaZkB
import Derived.Test.YtgepgbblmodagaaZqT
import Derived.Test.YtgepgbblmodagaaProg
import Derived.Test.YtgepgbblmodagaaZkA
set_option linter.unusedSimpArgs false
set_option linter.unusedVariables false
namespace Go.Zt
open Go Go.Sim Go.Proofs Go.RowKit

abbrev U8 (l : List Nat) : List Value := l.map fun x => Value.int .u8 (x : Nat)
abbrev Byt (l : List Nat) : Prop := ∀ x ∈ l, x < 256
theorem el5 : ElemS Try.prog 24 5 1 1 (.int .u8 0) := ⟨by kernel_rfl, by kernel_rfl, rfl, by decide, by decide⟩

/-! ### Bits and numbers -/
def bitOf (b : List Nat) (i : Nat) : Nat := b.getD (i / 8) 0 / 2 ^ (7 - i % 8) % 2
theorem bitOf_lt (b : List Nat) (i : Nat) : bitOf b i < 2 := Nat.mod_lt _ (by decide)
/-- The number of n bits from a place on. -/
def numb (f : Nat → Nat) (a : Nat) : Nat → Nat
  | 0 => 0
  | n + 1 => 2 * numb f a n + f (a + n)
theorem numb_lt {f : Nat → Nat} (hf : ∀ i, f i < 2) (a : Nat) : ∀ n, numb f a n < 2 ^ n
  | 0 => by simp [numb]
  | n + 1 => by
    have := numb_lt hf a n
    have := hf (a + n)
    simp only [numb, Nat.pow_succ]; omega
theorem numb_cons (f : Nat → Nat) (a : Nat) : ∀ n, numb f a (n + 1) = f a * 2 ^ n + numb f (a + 1) n
  | 0 => by simp [numb]
  | n + 1 => by
    rw [numb, numb_cons f a n, numb, Nat.pow_succ, show a + 1 + n = a + (n + 1) by omega]
    have e : f a * (2 ^ n * 2) = 2 * (f a * 2 ^ n) := by rw [← Nat.mul_assoc, Nat.mul_comm _ 2]
    rw [e]; omega
theorem pow32 {n : Nat} (h : n ≤ 32) : 2 ^ n ≤ 4294967296 := Nat.pow_le_pow_right (n := 2) (by decide) h
theorem pow31 {n : Nat} (h : n ≤ 31) : 2 ^ n ≤ 2147483648 := Nat.pow_le_pow_right (n := 2) (by decide) h

def rFixed (b : List Nat) (p : Nat) (n : Int) : Nat × Nat × Nat :=
  if n < 0 ∨ n > 32 then (0, 2, p) else if n > ((8 * b.length : Nat) : Int) - p then (0, 3, p) else (numb (bitOf b) p n.toNat, 0, p + n.toNat)
def rSigned (b : List Nat) (p : Nat) (n : Int) : Int × Nat × Nat :=
  if n < 1 ∨ n > 31 then (0, 2, p) else if n + 1 > ((8 * b.length : Nat) : Int) - p then (0, 3, p)
  else if bitOf b p = 1 then
    if numb (bitOf b) (p + 1) n.toNat = 0 then (0, 4, p) else (-((numb (bitOf b) (p + 1) n.toNat : Nat) : Int), 0, p + (n.toNat + 1))
  else (numb (bitOf b) (p + 1) n.toNat, 0, p + (n.toNat + 1))
def rAlign (b : List Nat) (p : Nat) : Nat × Nat :=
  let n := (8 - p % 8) % 8
  if numb (bitOf b) p n ≠ 0 then (4, p) else (0, p + n)

/-! ### The program's readers -/
abbrev PtrB (j : Nat) : Value := .pointer (some ⟨2 * j, 0, none⟩)
structure Rdr (S : Nat → Prop) (M : Mem) (j : Nat) (b : List Nat) (p : Nat) : Prop where
  out : ¬ S j
  byt : Byt b
  len : b.length ≤ 4294967296
  pos : p ≤ 8 * b.length
  ex : ∃ A c, M.nb[j]? = some (.cells #[.slice A b.length c, .int .i64 (p : Nat), .bool true] 101) ∧ Row M A (U8 b) ∧ b.length ≤ c ∧ (A = none → c = 0) ∧ ∀ a, A = some a → a.block % 2 = 1 ∨ S (a.block / 2)
theorem Rdr.chg {S T : Nat → Prop} {M M' : Mem} {j : Nat} {b : List Nat} {p : Nat} (h : Rdr S M j b p) (k : Chg T M M') (hj : ¬ T j) (hS : ∀ i, S i → ¬ T i) : Rdr S M' j b p := by
  obtain ⟨A, c, h1, h2, h3, h0, h4⟩ := h.ex
  exact ⟨h.out, h.byt, h.len, h.pos, A, c, at_chg h1 k hj, h2.chg k fun a ha => (h4 a ha).imp id (hS _), h3, h0, h4⟩
theorem Rdr.keep {S : Nat → Prop} {M M' : Mem} {j : Nat} {b : List Nat} {p : Nat} (h : Rdr S M j b p) (k : Keep M M') : Rdr S M' j b p := h.chg k (fun x => x) fun _ _ x => x
theorem Rdr.set {S : Nat → Prop} {M : Mem} {j : Nat} {b : List Nat} {p : Nat} (h : Rdr S M j b p) (hf : M.floor ≤ j) {p' : Nat} (hp : p' ≤ 8 * b.length) {z : Int} (hz : z = (p' : Int)) :
    ∃ M', M.put (2 * j) 1 (.int .i64 z) = some M' ∧ Chg (· = j) M M' ∧ M'.nb.size = M.nb.size ∧ Rdr S M' j b p' := by
  subst hz
  obtain ⟨A, c, h1, h2, h3, h0, h4⟩ := h.ex
  have hC : Chg (· = j) M (M.upd j (.cells (#[.slice A b.length c, .int .i64 (p : Nat), .bool true].setIfInBounds 1 (.int .i64 (p' : Nat))) 101)) := upd_chg rfl
  exact ⟨_, put_of h1 hf (by simp) rfl, hC, upd_size _, h.out, h.byt, h.len, hp, A, c, upd_at (lt_of_at h1), h2.chg hC fun a ha => (h4 a ha).imp id fun hs e => h.out (e ▸ hs), h3, h0, h4⟩

section
variable {S : Nat → Prop} {M : Mem} {j : Nat} {b : List Nat} {p : Nat}
theorem c80 (h : Rdr S M j b p) {i : Nat} {z : Int} (hz : z = (i : Int)) (hi : i < 8 * b.length) : Cn Try.prog 80 #[PtrB j, .int .i64 z] M fun v N => v = .int .u32 (bitOf b i : Nat) ∧ N = M := by
  subst hz
  obtain ⟨A, c, h1, h2, h3, h0, h4⟩ := h.ex
  have hl := h.len
  have hb : i / 8 < b.length := by omega
  have hx : b[i / 8] < 256 := h.byt _ (List.getElem_mem _)
  obtain ⟨a, i1, i2⟩ := h2.int1 (n := b.length) (i := i / 8) (z := IntKind.i64.wrap ((i : Int).tdiv 8)) (k := .u8) (x := (b[i / 8] : Nat)) (by rw [show ((i : Int).tdiv 8) = ((i / 8 : Nat) : Int) from tdivN i 8, i64w (by omega)]) hb (by simp [hb])
  refine w80_0 ⟨_, rfl, _, sl_of h1 rfl, _, i1, _, i2, _, shr_nat (q := 7 - i % 8) (by rw [show ((i : Int).tmod 8) = ((i % 8 : Nat) : Int) from tmodN i 8, i64w (by omega)]; omega) (by show 7 - i % 8 ≤ 8; omega), _, rfl, ?_, rfl⟩
  have hq : b[i / 8] / 2 ^ (7 - i % 8) < 256 := Nat.lt_of_le_of_lt (Nat.div_le_self _ _) hx
  have e2 : bitOf b i = b[i / 8] / 2 ^ (7 - i % 8) % 2 := by simp [bitOf, hb]
  rw [e2]
  generalize b[i / 8] / 2 ^ (7 - i % 8) = w at hq
  have e0 : IntKind.u32.wrap ((w : Nat) : Int) = (w : Nat) := u32w (by omega)
  rw [e0, and_mask (k := .u32) rfl (m := 1) (c := 1) rfl (by decide) (show _ < 2 ^ 32 by omega)]
theorem c66_loop (h : Rdr S M j b p) {a n : Nat} (hn : n ≤ 32) (ha : a + n ≤ 8 * b.length) {Q : Value → Mem → Prop} (hQ : Q (.int .u32 (numb (bitOf b) a n : Nat)) M) :
    ∀ (k i : Nat), i + k = n → A66_1 (some ⟨2 * j, 0, none⟩) a (numb (bitOf b) a i : Nat) n i M Q
  | 0, i, hi => by
    refine w66_1 ⟨fun h => by omega, fun _ => ?_⟩
    obtain rfl : i = n := by omega
    exact hQ
  | k + 1, i, hi => by
    have hl := h.len
    refine w66_1 ⟨fun _ => Cn.eq (c80 h (i := a + i) (by rw [i64w (by omega)]; omega) (by omega)) ?_, fun h => by omega⟩
    refine ⟨_, rfl, ?_⟩
    have h1 := numb_lt (bitOf_lt b) a i
    have h2 := bitOf_lt b (a + i)
    have h3 : 2 ^ i ≤ 2147483648 := pow31 (by omega)
    have e1 : IntKind.u32.wrap (((numb (bitOf b) a i : Nat) : Int) * 2 ^ 1) = ((numb (bitOf b) a i * 2 : Nat) : Int) := by rw [u32w (by omega)]; omega
    have e2 : numb (bitOf b) a i * 2 ||| bitOf b (a + i) = numb (bitOf b) a (i + 1) := by
      rw [or_add (k := 1) ⟨numb (bitOf b) a i, by omega⟩ (by omega)]; simp only [numb]; omega
    rw [e1, or_nat (k := .u32) rfl (show _ < 2 ^ 32 by omega) (show _ < 2 ^ 32 by omega), e2, i64w (by omega), show ((i : Int) + 1) = ((i + 1 : Nat) : Int) by omega]
    exact c66_loop h hn ha hQ k (i + 1) (by omega)
theorem c66 (h : Rdr S M j b p) {a n : Nat} {z y : Int} (hz : z = (a : Int)) (hy : y = (n : Int)) (hn : n ≤ 32) (ha : a + n ≤ 8 * b.length) :
    Cn Try.prog 66 #[PtrB j, .int .i64 z, .int .i64 y] M fun v N => v = .int .u32 (numb (bitOf b) a n : Nat) ∧ N = M := by
  subst hz hy
  exact w66_0 (c66_loop h hn ha ⟨rfl, rfl⟩ n 0 (by omega))
theorem c64 (h : Rdr S M j b p) : Cn Try.prog 64 #[PtrB j] M fun v N => v = .bool true ∧ N = M := by
  obtain ⟨A, c, h1, h2, h3, h0, h4⟩ := h.ex
  exact w64_0 ⟨fun _ => ⟨_, rfl, _, bool_of h1 rfl, rfl, rfl⟩, fun h => absurd h (by simp)⟩
theorem c65 (h : Rdr S M j b p) : Cn Try.prog 65 #[PtrB j] M fun v N => v = .int .i64 ((8 * b.length - p : Nat) : Int) ∧ N = M := by
  obtain ⟨A, c, h1, h2, h3, h0, h4⟩ := h.ex
  have hl := h.len
  have hp := h.pos
  refine w65_0 ⟨_, rfl, _, sl_of h1 rfl, _, rfl, _, int_of h1 rfl, ?_, rfl⟩
  show Value.int .i64 (IntKind.i64.wrap (IntKind.i64.wrap (8 * (b.length : Int)) - (p : Int))) = _
  rw [i64w (x := 8 * (b.length : Int)) (by omega), i64w (by omega)]
  congr 1; omega
theorem c37 (h : Rdr S M j b p) : Cn Try.prog 37 #[PtrB j] M fun v N => v = .int .i64 ((8 * b.length - p : Nat) : Int) ∧ N = M := by
  refine w37_0 (Cn.eq (c64 h) ?_)
  refine ⟨_, rfl, fun h => absurd h (by simp), fun _ => Cn.eq (c65 h) ?_⟩
  exact ⟨_, rfl, rfl, rfl⟩
/-- What a reader's call leaves. -/
def RdR (S : Nat → Prop) (M : Mem) (j : Nat) (b : List Nat) (u : Value) (p' : Nat) : Value → Mem → Prop := fun v N => v = u ∧ Chg (· = j) M N ∧ N.nb.size = M.nb.size ∧ Rdr S N j b p'
theorem RdR.same (h : Rdr S M j b p) {u : Value} : RdR S M j b u p u M := ⟨rfl, .refl _, rfl, h⟩
theorem c33 (h : Rdr S M j b p) (hf : M.floor ≤ j) (n : Int) :
    Cn Try.prog 33 #[PtrB j, .int .i64 n] M (RdR S M j b (.tuple #[.int .u32 ((rFixed b p n).1 : Nat), .int .i64 ((rFixed b p n).2.1 : Nat)]) (rFixed b p n).2.2) := by
  have hp := h.pos
  have hl := h.len
  refine w33_0 (Cn.eq (c64 h) ?_)
  refine ⟨_, rfl, fun h => absurd h (by simp), fun _ => ?_⟩
  by_cases h0 : n < 0 ∨ n > 32
  · have e : rFixed b p n = (0, 2, p) := by unfold rFixed; rw [if_pos h0]
    rw [e]
    have key : A33_1 (some ⟨2 * j, 0, none⟩) n true M (RdR S M j b (.tuple #[.int .u32 ((0 : Nat) : Int), .int .i64 ((2 : Nat) : Int)]) p) := w33_1 ⟨fun _ => .same h, fun h => (by cases h)⟩
    refine ⟨fun _ => key, fun h1 => ?_⟩
    rw [decide_eq_true (show n > 32 by omega)]; exact key
  · refine ⟨fun h => by omega, fun _ => ?_⟩
    rw [decide_eq_false (show ¬ n > 32 by omega)]
    refine w33_1 ⟨fun h => (by cases h), fun _ => Cn.eq (c65 h) ?_⟩
    refine ⟨_, rfl, fun h1 => ?_, fun h1 => ?_⟩
    · have e : rFixed b p n = (0, 3, p) := by unfold rFixed; rw [if_neg h0, if_pos (by omega)]
      rw [e]; exact .same h
    · have e : rFixed b p n = (numb (bitOf b) p n.toNat, 0, p + n.toNat) := by unfold rFixed; rw [if_neg h0, if_neg (by omega)]
      rw [e]
      obtain ⟨A, c, g1, g2, g3, _, g4⟩ := h.ex
      refine ⟨_, rfl, _, int_of g1 rfl, Cn.eq (c66 h (a := p) (n := n.toNat) rfl (by omega) (by omega) (by omega)) ?_⟩
      obtain ⟨M', m1, m2, m3, m4⟩ := h.set hf (p' := p + n.toNat) (z := IntKind.i64.wrap ((p : Int) + n)) (by omega) (by rw [i64w (by omega)]; omega)
      exact ⟨_, rfl, _, rfl, _, int_of g1 rfl, _, rfl, _, m1, rfl, m2, m3, m4⟩
theorem c82 (h : Rdr S M j b p) (hf : M.floor ≤ j) (n : Int) :
    Cn Try.prog 82 #[PtrB j, .int .i64 n] M (RdR S M j b (.tuple #[.int .i32 (rSigned b p n).1, .int .i64 ((rSigned b p n).2.1 : Nat)]) (rSigned b p n).2.2) := by
  have hp := h.pos
  have hl := h.len
  refine w82_0 (Cn.eq (c64 h) ?_)
  refine ⟨_, rfl, fun h => absurd h (by simp), fun _ => ?_⟩
  by_cases h0 : n < 1 ∨ n > 31
  · have e : rSigned b p n = (0, 2, p) := by unfold rSigned; rw [if_pos h0]
    rw [e]
    have key : A82_1 (some ⟨2 * j, 0, none⟩) n true M (RdR S M j b (.tuple #[.int .i32 0, .int .i64 ((2 : Nat) : Int)]) p) := w82_1 ⟨fun _ => .same h, fun h => (by cases h)⟩
    refine ⟨fun _ => key, fun h1 => ?_⟩
    rw [decide_eq_true (show n > 31 by omega)]; exact key
  · refine ⟨fun h => by omega, fun _ => ?_⟩
    rw [decide_eq_false (show ¬ n > 31 by omega)]
    refine w82_1 ⟨fun h => (by cases h), fun _ => Cn.eq (c65 h) ?_⟩
    have e1 : IntKind.i64.wrap (n + 1) = n + 1 := i64w (by omega)
    rw [e1]
    refine ⟨_, rfl, fun h1 => ?_, fun h1 => ?_⟩
    · have e : rSigned b p n = (0, 3, p) := by unfold rSigned; rw [if_neg h0, if_pos (by omega)]
      rw [e]; exact .same h
    · have hlt := numb_lt (bitOf_lt b) (p + 1) n.toNat
      have h31 := pow31 (n := n.toNat) (by omega)
      obtain ⟨A, c, g1, g2, g3, _, g4⟩ := h.ex
      refine ⟨_, rfl, _, int_of g1 rfl, Cn.eq (c66 h (a := p + 1) (n := n.toNat) (by rw [i64w (by omega)]; omega) (by omega) (by omega) (by omega)) ?_⟩
      refine ⟨_, rfl, _, rfl, _, int_of g1 rfl, Cn.eq (c80 h (i := p) rfl (by omega)) ?_⟩
      have e2 : IntKind.i32.wrap ((numb (bitOf b) (p + 1) n.toNat : Nat) : Int) = (numb (bitOf b) (p + 1) n.toNat : Nat) := i32w (by omega)
      rw [e2]
      obtain ⟨M', m1, m2, m3, m4⟩ := h.set hf (p' := p + (n.toNat + 1)) (z := IntKind.i64.wrap ((p : Int) + (n + 1))) (by omega) (by rw [i64w (by omega)]; omega)
      refine ⟨_, rfl, fun h2 => ⟨fun h3 => ?_, fun h3 => ⟨_, rfl, _, int_of g1 rfl, _, rfl, _, m1, ?_⟩⟩, fun h2 => ⟨_, rfl, _, int_of g1 rfl, _, rfl, _, m1, ?_⟩⟩
      · have e : rSigned b p n = (0, 4, p) := by unfold rSigned; rw [if_neg h0, if_neg (by omega), if_pos (by omega), if_pos (by omega)]
        rw [e]; exact .same h
      · have e : rSigned b p n = (-((numb (bitOf b) (p + 1) n.toNat : Nat) : Int), 0, p + (n.toNat + 1)) := by unfold rSigned; rw [if_neg h0, if_neg (by omega), if_pos (by omega), if_neg (by omega)]
        rw [e, show (0 : Int) - ((numb (bitOf b) (p + 1) n.toNat : Nat) : Int) = -((numb (bitOf b) (p + 1) n.toNat : Nat) : Int) by omega, i32w (by omega)]
        exact ⟨rfl, m2, m3, m4⟩
      · have e : rSigned b p n = (((numb (bitOf b) (p + 1) n.toNat : Nat) : Int), 0, p + (n.toNat + 1)) := by unfold rSigned; rw [if_neg h0, if_neg (by omega), if_neg (by omega)]
        rw [e]
        exact ⟨rfl, m2, m3, m4⟩
end
end Go.Zt


/- Layer 1: the program's readers, further. -/
set_option linter.unusedSimpArgs false
set_option linter.unusedVariables false
namespace Go.Zt
open Go Go.Sim Go.Proofs Go.RowKit

section
variable {S : Nat → Prop} {M : Mem} {j : Nat} {b : List Nat} {p : Nat}
theorem c40 (h : Rdr S M j b p) (hf : M.floor ≤ j) : Cn Try.prog 40 #[PtrB j] M (RdR S M j b (.int .i64 ((rAlign b p).1 : Nat)) (rAlign b p).2) := by
  obtain ⟨A, c, g1, g2, g3, g0, g4⟩ := h.ex
  have hp := h.pos
  have hl := h.len
  have e1 : IntKind.i64.wrap (((BitVec.ofInt (IntKind.bits .i64) (IntKind.i64.wrap (0 - (p : Int))) &&& BitVec.ofInt (IntKind.bits .i64) 7).toNat : Nat) : Int) = (((8 - p % 8) % 8 : Nat) : Int) := by
    rw [i64w (x := 0 - (p : Int)) (by omega), and7_i64]; omega
  refine w40_0 (Cn.eq (c64 h) ⟨_, rfl, fun h => absurd h (by simp), fun _ => ⟨_, rfl, _, int_of g1 rfl, _, rfl, _, int_of g1 rfl, ?_⟩⟩)
  rw [e1]
  refine Cn.eq (c66 h (a := p) (n := (8 - p % 8) % 8) rfl rfl (by omega) (by omega)) ⟨_, rfl, fun h1 => ?_, fun h1 => ?_⟩
  · have e : rAlign b p = (4, p) := by unfold rAlign; simp only; rw [if_pos (by omega)]
    rw [e]; exact .same h
  · have e : rAlign b p = (0, p + (8 - p % 8) % 8) := by unfold rAlign; simp only; rw [if_neg (by omega)]
    rw [e]
    obtain ⟨M', m1, m2, m3, m4⟩ := h.set hf (p' := p + (8 - p % 8) % 8) (z := IntKind.i64.wrap ((p : Int) + (((8 - p % 8) % 8 : Nat) : Int))) (by omega) (by rw [i64w (by omega)]; omega)
    exact ⟨_, rfl, _, int_of g1 rfl, _, rfl, _, m1, rfl, m2, m3, m4⟩
end

/-! ### Copies -/
theorem u8_one (b : List Nat) : (U8 b).all oneCell = true := by rw [List.all_eq_true]; intro v hv; obtain ⟨x, _, rfl⟩ := List.mem_map.1 hv; rfl
theorem c61' {M : Mem} (hf : M.floor ≤ M.nb.size) {A : Option Addr} {n c : Nat} {b : List Nat} (hR : Row M A (U8 b)) (hn : b.length = n) (hb : n ≤ 100000000000) :
    Cn Try.prog 61 #[.slice A n c] M fun v N => ∃ A' c', v = .slice A' n c' ∧ Keep M N ∧ Own (fun j => M.nb.size ≤ j) N 5 A' c' (U8 b) ∧ n ≤ c' := by
  refine w61_0 ⟨fun h => ?_, fun h => ?_⟩
  · have hA : A = none := by cases A with | none => rfl | some a => simp at h
    subst hA
    have hb0 : b = [] := by have := hR.none_nil; simpa using this
    subst hb0
    subst hn
    exact ⟨none, 0, rfl, .refl _, .inl ⟨rfl, rfl, rfl⟩, Nat.le_refl _⟩
  · obtain ⟨A', c', M', g1, g2, g3, g4⟩ := clone_own el5 hR (n := n) (c := c) (by simpa using hn) (u8_one b) hf (by omega)
    exact ⟨_, g1, _, rfl, A', c', rfl, g2, by simpa using g3, g4⟩
theorem c61 {M : Mem} (hf : M.floor ≤ M.nb.size) {A : Option Addr} {n c : Nat} {b : List Nat} (hR : Row M A (U8 b)) (hn : b.length = n) (hb : n ≤ 4294967296) :
    Cn Try.prog 61 #[.slice A n c] M fun v N => ∃ A' c', v = .slice A' n c' ∧ Keep M N ∧ Own (fun j => M.nb.size ≤ j) N 5 A' c' (U8 b) ∧ n ≤ c' := c61' hf hR hn (by omega)
theorem c31 {M : Mem} (hf : M.floor ≤ M.nb.size) {A : Option Addr} {n c : Nat} {b : List Nat} (hR : Row M A (U8 b)) (hn : b.length = n) (hb : n ≤ 4294967296) (hB : Byt b) :
    Cn Try.prog 31 #[.slice A n c] M fun v N => ∃ j, v = PtrB j ∧ Keep M N ∧ M.nb.size ≤ j ∧ j < N.nb.size ∧ Rdr (fun i => M.nb.size ≤ i ∧ i < j) N j b 0 := by
  refine w31_0 (Cn.mono (c61 hf hR hn hb) ?_)
  rintro v N ⟨A', c', rfl, hK, hO, hc⟩
  have hN : Chg (fun j => M.nb.size ≤ j) N (N.new (.cells #[.slice A' n c', .int .i64 0, .bool true] 101)) := .new _ _
  refine ⟨_, rfl, N.nb.size, rfl, Keep.step hK hN fun j hj => hj, hK.size, by rw [Mem.new_size]; omega, ⟨fun h => by omega, hB, by omega, Nat.zero_le _, A', c', ?_, ?_, by omega, hO.none_zero, fun a ha => ?_⟩⟩
  · rw [hn]; exact Mem.new_at _ _
  · exact hO.row.keep (.new _ _)
  · have h1 := hO.in_ a ha
    have h2 : a.block / 2 < N.nb.size := by
      rcases hO with ⟨h, _⟩ | ⟨j, cs, sp, h, _, _, h4, _⟩
      · rw [h] at ha; cases ha
      · rw [h] at ha; obtain rfl := Option.some.inj ha
        show 2 * j / 2 < _
        have := lt_of_at h4; omega
    exact .inr ⟨h1.2, h2⟩
end Go.Zt


/- The functions' walks: for each function and each loop a rule of what it comes to. Printed by zw.py. -/
set_option linter.unusedVariables false
set_option maxRecDepth 100000
namespace Go.Zt
open Go Go.Sim Go.Proofs

variable {g0 g1 g2 g3 g4 g5 g6 g7 g8 g9 g10 g11 g12 g13 g14 g15 g16 g17 g18 g19 g20 g21 g22 g23 g24 g25 g26 g27 g28 g29 g30 g31 g32 g33 g34 g35 g36 g37 g38 g39 g40 g41 g42 g43 g44 g45 g46 g47 g48 g49 g50 g51 g52 g53 : Value}
end Go.Zt


/- Layer 1: the document's readers. -/
set_option linter.unusedSimpArgs false
set_option linter.unusedVariables false
namespace Go.Zt
open Go Go.Sim Go.Proofs Go.RowKit

abbrev N64 (l : List Nat) : List Value := l.map fun x => Value.int .i64 (x : Nat)
def bitsOf (b : List Nat) : List Nat := (List.range (8 * b.length)).map (bitOf b)
structure RefR (S : Nat → Prop) (M : Mem) (j : Nat) (b : List Nat) (p : Nat) : Prop where
  out : ¬ S j
  len : b.length ≤ 4294967296
  pos : p ≤ 8 * b.length
  ex : ∃ A c, M.nb[j]? = some (.cells #[.slice A (8 * b.length) c, .int .i64 (p : Nat)] 104) ∧ Row M A (N64 (bitsOf b)) ∧ 8 * b.length ≤ c ∧ (A = none → c = 0) ∧ ∀ a, A = some a → a.block % 2 = 1 ∨ S (a.block / 2)
section
variable {S : Nat → Prop} {M : Mem} {j : Nat} {b : List Nat} {p : Nat}
theorem numb_zero {f : Nat → Nat} {a : Nat} : ∀ {n : Nat}, numb f a n = 0 ↔ ∀ i, i < n → f (a + i) = 0
  | 0 => by simp [numb]
  | n + 1 => by
    have ih := numb_zero (f := f) (a := a) (n := n)
    rw [numb]
    constructor
    · intro h i hi
      by_cases hin : i = n
      · rw [hin]; omega
      · exact ih.1 (by omega) i (by omega)
    · intro h
      have h1 := ih.2 fun i hi => h i (by omega)
      have h2 := h n (by omega)
      omega
end
end Go.Zt


/- Layer 1: bits of bytes, bytes of bits; the document's readers, made and at their end. -/
set_option linter.unusedSimpArgs false
set_option linter.unusedVariables false
namespace Go.Zt
open Go Go.Sim Go.Proofs Go.RowKit

abbrev Bin (l : List Nat) : Prop := ∀ x ∈ l, x < 2
abbrev bitL (l : List Nat) (i : Nat) : Nat := l.getD i 0
def gbyte (l : List Nat) (q : Nat) : Nat := numb (bitL l) (8 * q) 8
/-- The bytes of bits, the last one filled with noughts. -/
def pack (l : List Nat) : List Nat := (List.range ((l.length + 7) / 8)).map (gbyte l)
theorem bitL_lt {l : List Nat} (h : Bin l) (i : Nat) : bitL l i < 2 := by
  unfold bitL
  by_cases hi : i < l.length
  · simp only [List.getD_eq_getElem?_getD, List.getElem?_eq_getElem hi, Option.getD_some]; exact h _ (List.getElem_mem _)
  · simp [List.getD_eq_getElem?_getD, List.getElem?_eq_none (show l.length ≤ i by omega)]
theorem gbyte_lt {l : List Nat} (h : Bin l) (q : Nat) : gbyte l q < 256 := numb_lt (bitL_lt h) (8 * q) 8
theorem pack_len (l : List Nat) : (pack l).length = (l.length + 7) / 8 := by simp [pack]
theorem numb_ext {f g : Nat → Nat} {a a' : Nat} : ∀ {n : Nat}, (∀ i, i < n → f (a + i) = g (a' + i)) → numb f a n = numb g a' n
  | 0, _ => rfl
  | n + 1, h => by
    rw [numb, numb, numb_ext (n := n) fun i hi => h i (by omega), h n (by omega)]
end Go.Zt


/- Layer 1: the program's writers. -/
set_option linter.unusedSimpArgs false
set_option linter.unusedVariables false
set_option maxRecDepth 20000
namespace Go.Zt
open Go Go.Sim Go.Proofs Go.RowKit

/-! ### One bit more -/
theorem numb_upd {f g : Nat → Nat} {a r : Nat} : ∀ {n : Nat}, r < n → (∀ i, i < n → i ≠ r → g (a + i) = f (a + i)) → f (a + r) = 0 → numb g a n = numb f a n + g (a + r) * 2 ^ (n - 1 - r)
  | 0, h, _, _ => by omega
  | n + 1, h, hg, hf => by
    by_cases hr : r = n
    · subst hr
      rw [numb, numb, hf, numb_ext (f := g) (g := f) (a := a) (a' := a) (n := r) fun i hi => hg i (by omega) (by omega), show r + 1 - 1 - r = 0 by omega]
      omega
    · have ih := numb_upd (f := f) (g := g) (a := a) (r := r) (n := n) (by omega) (fun i hi hne => hg i (by omega) hne) hf
      rw [numb, numb, ih, hg n (by omega) (fun h => hr h.symm), show n + 1 - 1 - r = (n - 1 - r) + 1 by omega, Nat.pow_succ]
      have : g (a + r) * (2 ^ (n - 1 - r) * 2) = 2 * (g (a + r) * 2 ^ (n - 1 - r)) := by rw [← Nat.mul_assoc, Nat.mul_comm _ 2]
      rw [this]; omega
theorem numb_pad {f : Nat → Nat} {a r : Nat} : ∀ {s : Nat}, (∀ i, i < s → f (a + r + i) = 0) → numb f a (r + s) = 2 ^ s * numb f a r
  | 0, _ => by simp
  | s + 1, h => by
    have h1 := h s (by omega)
    rw [← Nat.add_assoc, numb, numb_pad (s := s) fun i hi => h i (by omega), show a + (r + s) = a + r + s by omega, h1, Nat.pow_succ]
    rw [Nat.mul_comm (2 ^ s) 2, Nat.mul_assoc]; rfl
theorem bitL_snoc (w : List Nat) (x i : Nat) : bitL (w ++ [x]) i = if i = w.length then x else bitL w i := by
  unfold bitL
  simp only [List.getD_eq_getElem?_getD]
  by_cases h : i = w.length
  · subst h; simp
  · rw [if_neg h]
    by_cases h2 : i < w.length
    · rw [List.getElem?_append_left h2]
    · rw [List.getElem?_eq_none (by simp; omega), List.getElem?_eq_none (by omega)]
theorem bitL_out {w : List Nat} {i : Nat} (h : w.length ≤ i) : bitL w i = 0 := by
  unfold bitL; simp [List.getD_eq_getElem?_getD, List.getElem?_eq_none h]
theorem gbyte_old (w : List Nat) (x : Nat) {q : Nat} (h : q ≠ w.length / 8) : gbyte (w ++ [x]) q = gbyte w q := by
  unfold gbyte
  refine numb_ext fun k hk => ?_
  rw [bitL_snoc, if_neg (by omega)]
theorem gbyte_new (w : List Nat) (x : Nat) : gbyte (w ++ [x]) (w.length / 8) = gbyte w (w.length / 8) + x * 2 ^ (7 - w.length % 8) := by
  unfold gbyte
  have := numb_upd (f := bitL w) (g := bitL (w ++ [x])) (a := 8 * (w.length / 8)) (r := w.length % 8) (n := 8) (by omega) (fun i hi hne => by rw [bitL_snoc, if_neg (by omega)]) (bitL_out (by omega))
  rw [this, bitL_snoc, if_pos (by omega)]
theorem gbyte_dvd (w : List Nat) : 2 ^ (8 - w.length % 8) ∣ gbyte w (w.length / 8) := by
  unfold gbyte
  have := numb_pad (f := bitL w) (a := 8 * (w.length / 8)) (r := w.length % 8) (s := 8 - w.length % 8) fun i hi => bitL_out (by omega)
  rw [show w.length % 8 + (8 - w.length % 8) = 8 by omega] at this
  rw [this]; exact ⟨_, rfl⟩
theorem pack_snoc0 {w : List Nat} {x : Nat} (h : w.length % 8 = 0) : pack (w ++ [x]) = pack w ++ [x * 128] := by
  have hz : gbyte w (w.length / 8) = 0 := by
    unfold gbyte
    exact numb_zero.2 fun i hi => bitL_out (by omega)
  unfold pack
  rw [List.length_append, List.length_singleton, show (w.length + 1 + 7) / 8 = w.length / 8 + 1 by omega, show (w.length + 7) / 8 = w.length / 8 by omega, List.range_succ, List.map_append, List.map_singleton, gbyte_new, hz, h, Nat.zero_add]
  congr 1
  exact List.map_congr_left fun q hq => gbyte_old w x (by have := List.mem_range.1 hq; omega)
theorem pack_snoc {w : List Nat} {x : Nat} (h : w.length % 8 ≠ 0) : pack (w ++ [x]) = (pack w).set (w.length / 8) (gbyte w (w.length / 8) + x * 2 ^ (7 - w.length % 8)) := by
  apply List.ext_getElem?
  intro i
  rw [List.getElem?_set]
  unfold pack
  rw [List.length_append, List.length_singleton, show (w.length + 1 + 7) / 8 = (w.length + 7) / 8 by omega, List.length_map, List.length_range, List.getElem?_map, List.getElem?_map]
  by_cases hi : i < (w.length + 7) / 8
  · rw [List.getElem?_range hi]
    by_cases he : w.length / 8 = i
    · subst he; rw [if_pos rfl, if_pos hi, Option.map_some, gbyte_new]
    · rw [if_neg he, Option.map_some, Option.map_some, gbyte_old w x (fun e => he e.symm)]
  · rw [List.getElem?_eq_none (l := List.range ((w.length + 7) / 8)) (by simp; omega), if_neg (by omega)]
    rfl
theorem pack_last {w : List Nat} (h : w.length % 8 ≠ 0) : (pack w)[w.length / 8]? = some (gbyte w (w.length / 8)) := by
  unfold pack
  rw [List.getElem?_map, List.getElem?_range (by omega)]; rfl
/-- The n lower bits of a number, the greatest one first. -/
def bitsN (v : Nat) : Nat → List Nat
  | 0 => []
  | n + 1 => v / 2 ^ n % 2 :: bitsN v n
theorem bitsN_len (v : Nat) : ∀ n, (bitsN v n).length = n
  | 0 => rfl
  | n + 1 => by simp [bitsN, bitsN_len v n]
theorem bin_append {a b : List Nat} (ha : Bin a) (hb : Bin b) : Bin (a ++ b) := fun x h => (List.mem_append.1 h).elim (ha x) (hb x)

/-! ### The program's writers -/
/-- A set of blocks that may be written, beside an object's: all new ones are of it. -/
structure Fl (S : Nat → Prop) (M : Mem) (j : Nat) : Prop where
  fl : ∀ i, S i ∨ i = j → M.floor ≤ i
  nw : ∀ i, M.nb.size ≤ i → S i
theorem Fl.chg {S T : Nat → Prop} {M M' : Mem} {j : Nat} (h : Fl S M j) (k : Chg T M M') : Fl S M' j := ⟨fun i hi => by rw [k.floor]; exact h.fl i hi, fun i hi => h.nw i (Nat.le_trans k.size hi)⟩
structure Wr (S : Nat → Prop) (M : Mem) (j : Nat) (w : List Nat) : Prop where
  out : ¬ S j
  bin : Bin w
  len : w.length ≤ 100000000000
  ex : ∃ A c, M.nb[j]? = some (.cells #[.slice A ((w.length + 7) / 8) c, .int .i64 (((8 - w.length % 8) % 8 : Nat) : Int), .bool true] 73) ∧ Own S M 5 A c (U8 (pack w)) ∧ (w.length + 7) / 8 ≤ c
theorem Wr.chg {S : Nat → Prop} {T : Nat → Prop} {M M' : Mem} {j : Nat} {w : List Nat} (h : Wr S M j w) (k : Chg T M M') (hT : ∀ i, i < M.nb.size → S i ∨ i = j → ¬ T i) : Wr S M' j w := by
  obtain ⟨A, c, h1, h2, h3⟩ := h.ex
  exact ⟨h.out, h.bin, h.len, A, c, at_chg h1 k (hT j (lt_of_at h1) (.inr rfl)), h2.chg k fun i hi hs => hT i hi (.inl hs), h3⟩
theorem Wr.there {S : Nat → Prop} {M : Mem} {j : Nat} {w : List Nat} (h : Wr S M j w) : Cn Try.prog 46 #[PtrB j] M fun v N => v = .bool true ∧ N = M := by
  obtain ⟨A, c, h1, h2, h3⟩ := h.ex
  exact w46_0 ⟨fun _ => ⟨_, rfl, _, bool_of h1 rfl, rfl, rfl⟩, fun h => absurd h (by simp)⟩
theorem shl_u8 {x q : Nat} {z : Int} (hz : z = (q : Int)) (h : x * 2 ^ q < 256) (hq : q ≤ 8) : binV Try.prog .shl 5 3 (.int .u8 (x : Int)) (.int .i64 z) = some (.int .u8 ((x * 2 ^ q : Nat) : Int)) := shl_nat (k := .u8) rfl hz h hq
theorem c48_loop {S : Nat → Prop} {j : Nat} {M0 : Mem} (hf0 : Fl S M0 j) {v : Nat} (hv : v < 18446744073709551616) {Q : Value → Mem → Prop} {wEnd : List Nat} (hQ : ∀ N, Chg (fun i => S i ∨ i = j) M0 N → Wr S N j wEnd → Q (.tuple #[]) N) :
    ∀ (n : Nat) (w : List Nat) {M : Mem}, n ≤ 64 → Chg (fun i => S i ∨ i = j) M0 M → Wr S M j w → w.length + n ≤ 90000000000 → w ++ bitsN v n = wEnd → A48_1 (some ⟨2 * j, 0, none⟩) v ((n : Int) - 1) M Q
  | 0, w, M, hn, K, h, hl, he => by
    refine w48_1 ⟨fun h => absurd h (by omega), fun _ => hQ M K (by rw [← he, bitsN, List.append_nil]; exact h)⟩
  | n + 1, w, M, hn, K, h, hl, he => by
    obtain ⟨A, c, g1, g2, g3⟩ := h.ex
    have hjl := lt_of_at g1
    have hf := hf0.chg K
    have hfj : M.floor ≤ j := hf.fl j (.inr rfl)
    have en : (((n + 1 : Nat) : Int) - 1) = (n : Int) := by omega
    rw [en]
    -- the bit
    have hx : v / 2 ^ n % 2 < 2 := Nat.mod_lt _ (by decide)
    have e1 : IntKind.u8.wrap (IntKind.u64.wrap (((BitVec.ofInt (IntKind.bits .u64) ((v / 2 ^ n : Nat) : Int) &&& BitVec.ofInt (IntKind.bits .u64) 1).toNat : Nat) : Int)) = ((v / 2 ^ n % 2 : Nat) : Int) := by
      have hd : v / 2 ^ n < 2 ^ 64 := Nat.lt_of_le_of_lt (Nat.div_le_self _ _) hv
      rw [and_mask (k := .u64) rfl (m := 1) (c := 1) rfl (by decide) hd]
      generalize v / 2 ^ n = y
      exact u8w (by omega)
    have e0 : binV Try.prog .shr 86 3 (.int .u64 (v : Int)) (.int .i64 (n : Int)) = some (.int .u64 ((v / 2 ^ n : Nat) : Int)) := shr_nat (k := .u64) rfl (show n ≤ 64 by omega)
    generalize hxe : v / 2 ^ n % 2 = x at hx e1
    have hw' : Bin (w ++ [x]) := bin_append h.bin fun y hy => by simp at hy; omega
    have next : ∀ M', Chg (fun i => S i ∨ i = j) M M' → Wr S M' j (w ++ [x]) → A48_1 (some ⟨2 * j, 0, none⟩) v ((n : Int) - 1) M' Q := fun M' hC hW =>
      c48_loop hf0 hv hQ n (w ++ [x]) (by omega) (K.trans hC) hW (by simp; omega) (by rw [← he, bitsN, hxe]; simp)
    refine w48_1 ⟨fun _ => ⟨_, rfl, _, int_of g1 rfl, fun h0 => ?_, fun h0 => ?_⟩, fun h => absurd (show (n : Int) ≥ 0 by omega) h⟩
    · -- a byte more
      have hw0 : w.length % 8 = 0 := by omega
      have hwb : (w.length + 7) / 8 = w.length / 8 := by omega
      obtain ⟨A', c', M1, p1, p2, p3, p4⟩ := app1S el5 g2 (n := (w.length + 7) / 8) (by simp [pack_len]) (v := .int .u8 0) (fun i hi => hf.fl i (.inl hi)) (hf.nw _ (Nat.le_refl _)) (hf.nw _ (Nat.le_succ _)) rfl (by omega)
      have q1 := at_chg g1 p2 h.out
      have hf1 : M1.floor ≤ j := by rw [p2.floor]; exact hfj
      have hj1 := lt_of_at q1
      have P1 := put_of (i := 0) (v := .slice A' ((w.length + 7) / 8 + 1) c') q1 hf1 (by simp) rfl
      have q2 := upd_at (M := M1) (b := .cells ((#[.slice A ((w.length + 7) / 8) c, .int .i64 (((8 - w.length % 8) % 8 : Nat) : Int), .bool true] : Array Value).setIfInBounds 0 (.slice A' ((w.length + 7) / 8 + 1) c')) 73) hj1
      have P2 := put_of (i := 1) (v := .int .i64 8) q2 hf1 (by simp) rfl
      have q3 := upd_at (M := M1.upd j (.cells ((#[.slice A ((w.length + 7) / 8) c, .int .i64 (((8 - w.length % 8) % 8 : Nat) : Int), .bool true] : Array Value).setIfInBounds 0 (.slice A' ((w.length + 7) / 8 + 1) c')) 73))
        (b := .cells (((#[.slice A ((w.length + 7) / 8) c, .int .i64 (((8 - w.length % 8) % 8 : Nat) : Int), .bool true] : Array Value).setIfInBounds 0 (.slice A' ((w.length + 7) / 8 + 1) c')).setIfInBounds 1 (.int .i64 8)) 73) (by rw [upd_size]; exact hj1)
      have P3 := put_of (i := 1) (v := .int .i64 (IntKind.i64.wrap (8 - 1))) q3 hf1 (by simp) rfl
      generalize hM2 : M1.upd j (.cells ((#[.slice A ((w.length + 7) / 8) c, .int .i64 (((8 - w.length % 8) % 8 : Nat) : Int), .bool true] : Array Value).setIfInBounds 0 (.slice A' ((w.length + 7) / 8 + 1) c')) 73) = M2 at P1 P2 q2 q3 P3
      generalize hM3 : M2.upd j (.cells (((#[.slice A ((w.length + 7) / 8) c, .int .i64 (((8 - w.length % 8) % 8 : Nat) : Int), .bool true] : Array Value).setIfInBounds 0 (.slice A' ((w.length + 7) / 8 + 1) c')).setIfInBounds 1 (.int .i64 8)) 73) = M3 at P2 q3 P3
      have C12 : Chg (· = j) M1 M2 := by rw [← hM2]; exact upd_chg rfl
      have C23 : Chg (· = j) M2 M3 := by rw [← hM3]; exact upd_chg rfl
      have hj3 := lt_of_at q3
      have q4 := upd_at (M := M3) (b := .cells ((((#[.slice A ((w.length + 7) / 8) c, .int .i64 (((8 - w.length % 8) % 8 : Nat) : Int), .bool true] : Array Value).setIfInBounds 0 (.slice A' ((w.length + 7) / 8 + 1) c')).setIfInBounds 1 (.int .i64 8)).setIfInBounds 1 (.int .i64 (IntKind.i64.wrap (8 - 1)))) 73) hj3
      have C34 : Chg (· = j) M3 (M3.upd j (.cells ((((#[.slice A ((w.length + 7) / 8) c, .int .i64 (((8 - w.length % 8) % 8 : Nat) : Int), .bool true] : Array Value).setIfInBounds 0 (.slice A' ((w.length + 7) / 8 + 1) c')).setIfInBounds 1 (.int .i64 8)).setIfInBounds 1 (.int .i64 (IntKind.i64.wrap (8 - 1)))) 73)) := upd_chg rfl
      generalize hM4 : M3.upd j (.cells ((((#[.slice A ((w.length + 7) / 8) c, .int .i64 (((8 - w.length % 8) % 8 : Nat) : Int), .bool true] : Array Value).setIfInBounds 0 (.slice A' ((w.length + 7) / 8 + 1) c')).setIfInBounds 1 (.int .i64 8)).setIfInBounds 1 (.int .i64 (IntKind.i64.wrap (8 - 1)))) 73) = M4 at P3 q4 C34
      have C14 : Chg (· = j) M1 M4 := (C12.trans C23).trans C34
      have O4 := p3.chg C14 fun i _ hs he => h.out (he ▸ hs)
      have hf4 : ∀ i, S i → M4.floor ≤ i := fun i hi => by rw [C14.floor, p2.floor]; exact hf.fl i (.inl hi)
      have hlast : (U8 (pack w) ++ [Value.int .u8 0])[w.length / 8]? = some (.int .u8 0) := by
        rw [List.getElem?_append_right (by simp [pack_len, hwb])]; simp [pack_len, hwb]
      obtain ⟨a, i1, i2⟩ := O4.row.int1 (n := (w.length + 7) / 8 + 1) (i := w.length / 8) (z := IntKind.i64.wrap ((((w.length + 7) / 8 + 1 : Nat) : Int) - 1)) (by have := h.len; rw [i64w (by omega)]; omega) (by omega) hlast
      obtain ⟨a2, i3, M5, P5, C45, hs5, O5⟩ := O4.put1 hf4 (n := (w.length + 7) / 8 + 1) (i := w.length / 8) (z := IntKind.i64.wrap ((((w.length + 7) / 8 + 1 : Nat) : Int) - 1)) (v := .int .u8 (x * 128 : Nat)) (by have := h.len; rw [i64w (by omega)]; omega) (by omega) (by simp [pack_len]; omega) rfl
      have e7 : IntKind.i64.wrap (8 - 1) = ((7 : Nat) : Int) := by decide
      have e8 : IntKind.u8.wrap (((BitVec.ofInt (IntKind.bits .u8) 0 ||| BitVec.ofInt (IntKind.bits .u8) ((x * 2 ^ 7 : Nat) : Int)).toNat : Nat) : Int) = ((x * 128 : Nat) : Int) := by
        have := or_nat (k := .u8) rfl (x := 0) (y := x * 2 ^ 7) (by decide) (show x * 2 ^ 7 < 2 ^ 8 by omega)
        rw [Nat.zero_or] at this; exact this
      refine ⟨_, rfl, _, sl_of g1 rfl, _, p1, _, rfl, _, rfl, _, P1, _, rfl, _, P2, _, rfl, _, int_of q3 rfl, _, rfl, _, P3, _, rfl, _, sl_of q4 rfl, _, rfl, _, sl_of q4 rfl, _, i1, _, i2, _, e0, _, rfl, _, rfl, _, int_of q4 rfl, ?_⟩
      rw [e1]
      refine ⟨_, shl_u8 (q := 7) e7 (by omega) (by decide), _, rfl, _, i3, ?_⟩
      rw [e8, i64w (by omega)]
      refine ⟨_, P5, next M5 (((p2.mono fun i _ hi => .inl hi).trans (C14.mono fun i _ hi => .inr hi)).trans (C45.mono fun i _ hi => .inl hi)) ⟨h.out, hw', by simp; omega, A', c', ?_, ?_, by simp; omega⟩⟩
      · have := at_chg q4 C45 h.out
        rw [this]
        congr 2
        simp only [List.length_append, List.length_singleton]
        rw [show (w.length + 1 + 7) / 8 = (w.length + 7) / 8 + 1 by omega, show (8 - (w.length + 1) % 8) % 8 = 7 by omega]
        rfl
      · have e9 : U8 (pack (w ++ [x])) = (U8 (pack w) ++ [Value.int .u8 0]).set (w.length / 8) (.int .u8 (x * 128 : Nat)) := by
          rw [pack_snoc0 hw0, List.set_append_right _ _ (by simp [pack_len, hwb])]; simp [pack_len, hwb]
        rw [e9]; exact O5
    · -- in the last byte
      have hw0 : w.length % 8 ≠ 0 := by omega
      have hwb : (w.length + 7) / 8 = w.length / 8 + 1 := by omega
      have P3 := put_of (i := 1) (v := .int .i64 (IntKind.i64.wrap ((((8 - w.length % 8) % 8 : Nat) : Int) - 1))) g1 hfj (by simp) rfl
      have q4 := upd_at (M := M) (b := .cells ((#[.slice A ((w.length + 7) / 8) c, .int .i64 (((8 - w.length % 8) % 8 : Nat) : Int), .bool true] : Array Value).setIfInBounds 1 (.int .i64 (IntKind.i64.wrap ((((8 - w.length % 8) % 8 : Nat) : Int) - 1)))) 73) hjl
      have C14 : Chg (· = j) M (M.upd j (.cells ((#[.slice A ((w.length + 7) / 8) c, .int .i64 (((8 - w.length % 8) % 8 : Nat) : Int), .bool true] : Array Value).setIfInBounds 1 (.int .i64 (IntKind.i64.wrap ((((8 - w.length % 8) % 8 : Nat) : Int) - 1)))) 73)) := upd_chg rfl
      generalize hM4 : M.upd j (.cells ((#[.slice A ((w.length + 7) / 8) c, .int .i64 (((8 - w.length % 8) % 8 : Nat) : Int), .bool true] : Array Value).setIfInBounds 1 (.int .i64 (IntKind.i64.wrap ((((8 - w.length % 8) % 8 : Nat) : Int) - 1)))) 73) = M4 at P3 q4 C14
      have O4 := g2.chg C14 fun i _ hs he => h.out (he ▸ hs)
      have hf4 : ∀ i, S i → M4.floor ≤ i := fun i hi => by rw [C14.floor]; exact hf.fl i (.inl hi)
      have hlast : (U8 (pack w))[w.length / 8]? = some (.int .u8 (gbyte w (w.length / 8) : Nat)) := by
        rw [List.getElem?_map, pack_last hw0]; rfl
      have hyl := gbyte_lt h.bin (w.length / 8)
      have hyd := gbyte_dvd w
      have hp7 : 2 ^ (8 - w.length % 8) = 2 * 2 ^ (7 - w.length % 8) := by rw [show 8 - w.length % 8 = (7 - w.length % 8) + 1 by omega, Nat.pow_succ, Nat.mul_comm]
      have hp8 : 2 ^ (7 - w.length % 8) ≤ 64 := Nat.pow_le_pow_right (n := 2) (by decide) (show 7 - w.length % 8 ≤ 6 by omega)
      have hxp : x * 2 ^ (7 - w.length % 8) < 2 ^ (8 - w.length % 8) ∧ x * 2 ^ (7 - w.length % 8) < 256 := by
        have : x = 0 ∨ x = 1 := by omega
        have hpos := Nat.two_pow_pos (7 - w.length % 8)
        rcases this with rfl | rfl <;> omega
      have hsum : gbyte w (w.length / 8) ||| x * 2 ^ (7 - w.length % 8) = gbyte w (w.length / 8) + x * 2 ^ (7 - w.length % 8) := or_add hyd hxp.1
      obtain ⟨a, i1, i2⟩ := O4.row.int1 (n := (w.length + 7) / 8) (i := w.length / 8) (z := IntKind.i64.wrap ((((w.length + 7) / 8 : Nat) : Int) - 1)) (by have := h.len; rw [i64w (by omega)]; omega) (by omega) hlast
      obtain ⟨a2, i3, M5, P5, C45, hs5, O5⟩ := O4.put1 hf4 (n := (w.length + 7) / 8) (i := w.length / 8) (z := IntKind.i64.wrap ((((w.length + 7) / 8 : Nat) : Int) - 1)) (v := .int .u8 (gbyte w (w.length / 8) + x * 2 ^ (7 - w.length % 8) : Nat)) (by have := h.len; rw [i64w (by omega)]; omega) (by omega) (by simp [pack_len]; omega) rfl
      have e7 : IntKind.i64.wrap ((((8 - w.length % 8) % 8 : Nat) : Int) - 1) = ((7 - w.length % 8 : Nat) : Int) := by rw [i64w (by omega)]; omega
      have e8 : IntKind.u8.wrap (((BitVec.ofInt (IntKind.bits .u8) ((gbyte w (w.length / 8) : Nat) : Int) ||| BitVec.ofInt (IntKind.bits .u8) ((x * 2 ^ (7 - w.length % 8) : Nat) : Int)).toNat : Nat) : Int) = ((gbyte w (w.length / 8) + x * 2 ^ (7 - w.length % 8) : Nat) : Int) := by
        rw [or_nat (k := .u8) rfl (show _ < 2 ^ 8 by omega) (show _ < 2 ^ 8 by have := hxp.2; omega), hsum]
      refine ⟨_, rfl, _, int_of g1 rfl, _, rfl, _, P3, _, rfl, _, sl_of q4 rfl, _, rfl, _, sl_of q4 rfl, _, i1, _, i2, _, e0, _, rfl, _, rfl, _, int_of q4 rfl, ?_⟩
      rw [e1]
      refine ⟨_, shl_u8 (q := 7 - w.length % 8) e7 hxp.2 (by omega), _, rfl, _, i3, ?_⟩
      rw [e8, i64w (by omega)]
      refine ⟨_, P5, next M5 ((C14.mono fun i _ hi => .inr hi).trans (C45.mono fun i _ hi => .inl hi)) ⟨h.out, hw', by simp; omega, A, c, ?_, ?_, by simp; omega⟩⟩
      · have := at_chg q4 C45 h.out
        rw [this]
        congr 2
        simp only [List.length_append, List.length_singleton]
        rw [show (w.length + 1 + 7) / 8 = (w.length + 7) / 8 by omega, show (8 - (w.length + 1) % 8) % 8 = 7 - w.length % 8 by omega, e7]
        rfl
      · have e9 : U8 (pack (w ++ [x])) = (U8 (pack w)).set (w.length / 8) (.int .u8 (gbyte w (w.length / 8) + x * 2 ^ (7 - w.length % 8) : Nat)) := by
          rw [pack_snoc hw0]; exact (List.map_set ..)
        rw [e9]; exact O5
theorem c48 {S : Nat → Prop} {j : Nat} {M : Mem} {w : List Nat} (hf : Fl S M j) (h : Wr S M j w) {v n : Nat} {y z : Int} (hy : y = (v : Int)) (hz : z = (n : Int)) (hv : v < 18446744073709551616) (hn : n ≤ 64) (hl : w.length + n ≤ 90000000000) :
    Cn Try.prog 48 #[PtrB j, .int .u64 y, .int .i64 z] M fun u N => u = .tuple #[] ∧ Chg (fun i => S i ∨ i = j) M N ∧ Wr S N j (w ++ bitsN v n) := by
  subst hy hz
  refine w48_0 ?_
  rw [i64w (by omega)]
  exact c48_loop hf hv (fun N hC hW => ⟨rfl, hC, hW⟩) n w hn (.refl _) h hl rfl
end Go.Zt


/- Layer 1: the program's writers' calls; the document's writers. -/
set_option linter.unusedSimpArgs false
set_option linter.unusedVariables false
set_option maxRecDepth 20000
namespace Go.Zt
open Go Go.Sim Go.Proofs Go.RowKit

/-! ### How many bits a number has -/
def blen (n : Nat) : Nat := if n = 0 then 0 else Nat.log2 n + 1
theorem blen_le {n k : Nat} : blen n ≤ k ↔ n < 2 ^ k := by
  unfold blen
  by_cases h : n = 0
  · subst h; simp [Nat.two_pow_pos]
  · rw [if_neg h, Nat.succ_le_iff, Nat.log2_lt h]
theorem blen_shift {n k : Nat} (h : 2 ^ k ≤ n) : blen n = k + blen (n / 2 ^ k) := by
  apply Nat.le_antisymm
  · rw [blen_le, Nat.pow_add, Nat.mul_comm]
    have h1 : n / 2 ^ k < 2 ^ blen (n / 2 ^ k) := blen_le.1 (Nat.le_refl _)
    exact (Nat.div_lt_iff_lt_mul (Nat.two_pow_pos k)).1 h1
  · have h0 : 1 ≤ n / 2 ^ k := (Nat.le_div_iff_mul_le (Nat.two_pow_pos k)).2 (by omega)
    have h1 : n < 2 ^ blen n := blen_le.1 (Nat.le_refl _)
    have hk : k ≤ blen n := by
      rcases Nat.lt_or_ge (blen n) k with h2 | h2
      · have : 2 ^ blen n ≤ 2 ^ k := Nat.pow_le_pow_right (by decide) (by omega)
        omega
      · exact h2
    have h2 : blen (n / 2 ^ k) ≤ blen n - k := by
      rw [blen_le]
      have e : 2 ^ blen n = 2 ^ (blen n - k) * 2 ^ k := by rw [← Nat.pow_add]; congr 1; omega
      rw [e] at h1
      exact (Nat.div_lt_iff_lt_mul (Nat.two_pow_pos k)).2 h1
    omega
noncomputable def okTab (x : Nat) : Bool := match strV Try.prog 9 (.string str0) (.int .u8 (x : Int)) with | some (.int .u8 y) => y == (blen x : Nat) | _ => false
theorem tab_all : (List.range 256).all okTab = true := by kernel_rfl
theorem tab {x : Nat} {z : Int} (hz : z = (x : Int)) (h : x < 256) : strV Try.prog 9 (.string str0) (.int .u8 z) = some (.int .u8 (blen x : Nat)) := by
  subst hz
  have := List.all_eq_true.1 tab_all x (List.mem_range.2 h)
  unfold okTab at this
  split at this
  · rename_i y hy; rw [hy, eq_of_beq this]
  · cases this
theorem blen8 {x : Nat} (h : x < 256) : blen x ≤ 8 := blen_le.2 (by simpa using h)
theorem c47 {M : Mem} {x : Nat} {z : Int} (hz : z = (x : Int)) (h : x < 4294967296) : Cn Try.prog 47 #[.int .u32 z] M fun v N => v = .int .i64 (blen x : Nat) ∧ N = M := by
  subst hz
  have f16 : ((x : Int)).fdiv (2 ^ 16) = ((x / 65536 : Nat) : Int) := fdivN x 65536
  have f8 : ((x : Int)).fdiv (2 ^ 8) = ((x / 256 : Nat) : Int) := fdivN x 256
  have f24 : (((x / 65536 : Nat) : Int)).fdiv (2 ^ 8) = ((x / 65536 / 256 : Nat) : Int) := fdivN (x / 65536) 256
  refine w47_0 ?_
  rw [f16, f8, f24]
  refine ⟨fun h1 => ⟨fun h2 => ?_, fun h2 => ?_⟩, fun h1 => ⟨fun h2 => ?_, fun h2 => ?_⟩⟩
  · have hb := blen8 (x := x / 65536 / 256) (by omega)
    refine ⟨_, tab (x := x / 65536 / 256) (u8w (by omega)) (by omega), _, rfl, ?_, rfl⟩
    rw [i64w (x := ((blen (x / 65536 / 256) : Nat) : Int)) (by omega), i64w (x := 16 + 8) (by decide), i64w (by omega), blen_shift (n := x) (k := 16) (by omega), blen_shift (n := x / 2 ^ 16) (k := 8) (by simp; omega)]
    simp only [Nat.reducePow]; congr 1 <;> omega
  · have hb := blen8 (x := x / 65536) (by omega)
    refine ⟨_, tab (x := x / 65536) (u8w (by omega)) (by omega), _, rfl, ?_, rfl⟩
    rw [i64w (x := ((blen (x / 65536) : Nat) : Int)) (by omega), i64w (by omega), blen_shift (n := x) (k := 16) (by omega)]
    simp only [Nat.reducePow]; congr 1 <;> omega
  · have hb := blen8 (x := x / 256) (by omega)
    refine ⟨_, tab (x := x / 256) (u8w (by omega)) (by omega), _, rfl, ?_, rfl⟩
    rw [i64w (x := ((blen (x / 256) : Nat) : Int)) (by omega), i64w (x := 0 + 8) (by decide), i64w (by omega), blen_shift (n := x) (k := 8) (by omega)]
    simp only [Nat.reducePow]; congr 1 <;> omega
  · have hb := blen8 (x := x) (by omega)
    refine ⟨_, tab (x := x) (u8w (by omega)) (by omega), _, rfl, ?_, rfl⟩
    rw [i64w (x := ((blen x : Nat) : Int)) (by omega), i64w (by omega)]
    congr 1; omega
theorem c72 {M : Mem} {x : Nat} {z : Int} (hz : z = (x : Int)) (h : x < 4294967296) : Cn Try.prog 72 #[.int .u64 z] M fun v N => v = .int .i64 (blen x : Nat) ∧ N = M := by
  subst hz
  have f16 : ((x : Int)).fdiv (2 ^ 16) = ((x / 65536 : Nat) : Int) := fdivN x 65536
  have f8 : ((x : Int)).fdiv (2 ^ 8) = ((x / 256 : Nat) : Int) := fdivN x 256
  have f24 : (((x / 65536 : Nat) : Int)).fdiv (2 ^ 8) = ((x / 65536 / 256 : Nat) : Int) := fdivN (x / 65536) 256
  refine w72_0 ⟨fun h0 => absurd h0 (by omega), fun _ => ?_⟩
  rw [f16, f8, f24]
  refine ⟨fun h1 => ⟨fun h2 => ?_, fun h2 => ?_⟩, fun h1 => ⟨fun h2 => ?_, fun h2 => ?_⟩⟩
  · have hb := blen8 (x := x / 65536 / 256) (by omega)
    refine ⟨_, tab (x := x / 65536 / 256) (u8w (by omega)) (by omega), _, rfl, ?_, rfl⟩
    rw [i64w (x := ((blen (x / 65536 / 256) : Nat) : Int)) (by omega), i64w (x := 0 + 16) (by decide), i64w (x := 0 + 16 + 8) (by decide), i64w (by omega), blen_shift (n := x) (k := 16) (by omega), blen_shift (n := x / 2 ^ 16) (k := 8) (by simp; omega)]
    simp only [Nat.reducePow]; congr 1 <;> omega
  · have hb := blen8 (x := x / 65536) (by omega)
    refine ⟨_, tab (x := x / 65536) (u8w (by omega)) (by omega), _, rfl, ?_, rfl⟩
    rw [i64w (x := ((blen (x / 65536) : Nat) : Int)) (by omega), i64w (x := 0 + 16) (by decide), i64w (by omega), blen_shift (n := x) (k := 16) (by omega)]
    simp only [Nat.reducePow]; congr 1 <;> omega
  · have hb := blen8 (x := x / 256) (by omega)
    refine ⟨_, tab (x := x / 256) (u8w (by omega)) (by omega), _, rfl, ?_, rfl⟩
    rw [i64w (x := ((blen (x / 256) : Nat) : Int)) (by omega), i64w (x := 0 + 8) (by decide), i64w (by omega), blen_shift (n := x) (k := 8) (by omega)]
    simp only [Nat.reducePow]; congr 1 <;> omega
  · have hb := blen8 (x := x) (by omega)
    refine ⟨_, tab (x := x) (u8w (by omega)) (by omega), _, rfl, ?_, rfl⟩
    rw [i64w (x := ((blen x : Nat) : Int)) (by omega), i64w (by omega)]
    congr 1; omega

/-! ### What a writer's calls do: the error, the bits -/
def wFixed (w : List Nat) (v : Nat) (n : Int) : Nat × List Nat :=
  if n < 0 ∨ n > 32 ∨ v ≥ 2 ^ n.toNat then (2, w) else (0, w ++ bitsN v n.toNat)
def wSigned (w : List Nat) (v n : Int) : Nat × List Nat :=
  if n < 1 ∨ n > 31 ∨ v.natAbs ≥ 2 ^ n.toNat then (2, w) else (0, w ++ (if v < 0 then 1 else 0) :: bitsN v.natAbs n.toNat)
theorem bitsN_mod (v : Nat) : ∀ {n k : Nat}, n ≤ k → bitsN (v % 2 ^ k) n = bitsN v n
  | 0, _, _ => rfl
  | n + 1, k, h => by
    rw [bitsN, bitsN, bitsN_mod v (by omega)]
    congr 1
    rw [show k = n + (k - n - 1 + 1) by omega, Nat.pow_add, Nat.mod_mul_right_div_self, Nat.pow_succ, Nat.mul_comm, Nat.mod_mul_right_mod]
section
variable {S : Nat → Prop} {j : Nat} {M : Mem} {w : List Nat}
def WrR (S : Nat → Prop) (M : Mem) (j : Nat) (r : Nat × List Nat) : Value → Mem → Prop := fun u N => u = .int .i64 (r.1 : Nat) ∧ Chg (fun i => S i ∨ i = j) M N ∧ Wr S N j r.2
theorem c22 (hf : Fl S M j) (h : Wr S M j w) {v : Nat} {y : Int} (hy : y = (v : Int)) (hv : v < 4294967296) (n : Int) (hl : w.length ≤ 80000000000) :
    Cn Try.prog 22 #[PtrB j, .int .u32 y, .int .i64 n] M (WrR S M j (wFixed w v n)) := by
  subst hy
  have bad : wFixed w v n = (2, w) → A22_1 (some ⟨2 * j, 0, none⟩) v n true M (WrR S M j (wFixed w v n)) := fun e => by
    rw [e]; exact w22_1 ⟨fun _ => ⟨rfl, .refl _, h⟩, fun h => (by cases h)⟩
  refine w22_0 (Cn.eq h.there ⟨_, rfl, fun h => absurd h (by simp), fun _ => ⟨fun h1 => bad (by unfold wFixed; rw [if_pos (by omega)]), fun h1 => ⟨fun h2 => bad (by unfold wFixed; rw [if_pos (by omega)]), fun h2 => Cn.eq (c47 rfl hv) ⟨_, rfl, ?_⟩⟩⟩⟩)
  have hb := blen_le (n := v) (k := n.toNat)
  by_cases hc : ((blen v : Nat) : Int) > n
  · rw [decide_eq_true hc]
    exact bad (by unfold wFixed; rw [if_pos (.inr (.inr (by
      rcases Nat.lt_or_ge v (2 ^ n.toNat) with h3 | h3
      · have := hb.2 h3; omega
      · exact h3)))])
  · rw [decide_eq_false hc]
    have hlt : v < 2 ^ n.toNat := hb.1 (by omega)
    have e : wFixed w v n = (0, w ++ bitsN v n.toNat) := by unfold wFixed; rw [if_neg (by omega)]
    refine w22_1 ⟨fun h => (by cases h), fun _ => Cn.mono (c48 hf h (v := v) (n := n.toNat) (u64w (by omega)) (by omega) (by omega) (by omega) (by omega)) ?_⟩
    rintro u N ⟨_, hC, hW⟩
    rw [e]; exact ⟨rfl, hC, hW⟩
theorem c43 (hf : Fl S M j) (h : Wr S M j w) {v : Int} (hv : -2147483648 ≤ v ∧ v ≤ 2147483647) (n : Int) (hl : w.length ≤ 80000000000) :
    Cn Try.prog 43 #[PtrB j, .int .i32 v, .int .i64 n] M (WrR S M j (wSigned w v n)) := by
  have key : ∀ (s : Nat) (y : Int), y = (v.natAbs : Nat) → s = (if v < 0 then 1 else 0) → ∀ b : Bool, (b = true ↔ (n < 1 ∨ n > 31 ∨ v.natAbs ≥ 2 ^ n.toNat)) → A43_1 (some ⟨2 * j, 0, none⟩) n y s b M (WrR S M j (wSigned w v n)) := by
    intro s y hy hs b hb
    subst hy
    refine w43_1 ⟨fun h1 => ?_, fun h1 => ?_⟩
    · have e : wSigned w v n = (2, w) := by unfold wSigned; rw [if_pos (hb.1 h1)]
      rw [e]; exact ⟨rfl, .refl _, h⟩
    · have hno : ¬ (n < 1 ∨ n > 31 ∨ v.natAbs ≥ 2 ^ n.toNat) := fun hh => by rw [hb.2 hh] at h1; cases h1
      have e : wSigned w v n = (0, w ++ (if v < 0 then 1 else 0) :: bitsN v.natAbs n.toNat) := by unfold wSigned; rw [if_neg hno]
      have hs1 : s < 2 := by rw [hs]; split <;> decide
      have hp := Nat.two_pow_pos n.toNat
      have hp31 := pow31 (n := n.toNat) (by omega)
      have hsn : s * 2 ^ n.toNat ≤ 2147483648 := by
        have : s = 0 ∨ s = 1 := by omega
        rcases this with h | h <;> rw [h] <;> omega
      refine ⟨_, shl_nat (k := .u64) (x := s) (q := n.toNat) rfl (by omega) (show _ < 2 ^ 64 by omega) (show n.toNat ≤ 64 by omega), _, rfl, ?_⟩
      rw [or_nat (k := .u64) rfl (show _ < 2 ^ 64 by omega) (show v.natAbs < 2 ^ 64 by omega), or_add (k := n.toNat) ⟨s, Nat.mul_comm _ _⟩ (by omega)]
      refine Cn.mono (c48 hf h (v := s * 2 ^ n.toNat + v.natAbs) (n := n.toNat + 1) rfl (by rw [i64w (by omega)]; omega) (by omega) (by omega) (by omega)) ?_
      rintro u N ⟨_, hC, hW⟩
      rw [e]
      refine ⟨rfl, hC, ?_⟩
      have e2 : bitsN (s * 2 ^ n.toNat + v.natAbs) (n.toNat + 1) = (if v < 0 then 1 else 0) :: bitsN v.natAbs n.toNat := by
        rw [bitsN]
        congr 1
        · rw [Nat.mul_comm, Nat.mul_add_div hp, Nat.div_eq_of_lt (by omega), Nat.add_zero, Nat.mod_eq_of_lt hs1, hs]
        · rw [← bitsN_mod (s * 2 ^ n.toNat + v.natAbs) (Nat.le_refl n.toNat), Nat.mul_comm, Nat.mul_add_mod, Nat.mod_eq_of_lt (by omega)]
      rw [e2] at hW; exact hW
  have hb := blen_le (n := v.natAbs) (k := n.toNat)
  have hdec : ¬ n < 1 → ¬ n > 31 → (decide (((blen v.natAbs : Nat) : Int) > n) = true ↔ (n < 1 ∨ n > 31 ∨ v.natAbs ≥ 2 ^ n.toNat)) := by
    intro h1 h2
    rw [decide_eq_true_eq]
    constructor
    · intro h3
      rcases Nat.lt_or_ge v.natAbs (2 ^ n.toNat) with h4 | h4
      · have := hb.2 h4; omega
      · exact .inr (.inr h4)
    · rintro (h3 | h3 | h3)
      · omega
      · omega
      · rcases Nat.lt_or_ge n.toNat (blen v.natAbs) with h4 | h4
        · omega
        · have := hb.1 h4; omega
  have hvi : IntKind.i64.wrap v = v := i64w (by omega)
  refine w43_0 (Cn.eq h.there ⟨_, rfl, fun h => absurd h (by simp), fun _ => ⟨fun h0 => ?_, fun h0 => ?_⟩⟩)
  · rw [hvi, i64w (x := 0 - v) (by omega)]
    have ey : IntKind.u64.wrap (0 - v) = ((v.natAbs : Nat) : Int) := by rw [u64w (by omega)]; omega
    rw [ey]
    have es : (1 : Nat) = if v < 0 then 1 else 0 := by rw [if_pos h0]
    refine ⟨fun h1 => key 1 _ rfl es true (by simp; omega), fun h1 => ⟨fun h2 => key 1 _ rfl es true (by simp; omega), fun h2 => Cn.eq (c72 (x := v.natAbs) rfl (by omega)) ⟨_, rfl, key 1 _ rfl es _ (hdec h1 h2)⟩⟩⟩
  · have ey : IntKind.u64.wrap v = ((v.natAbs : Nat) : Int) := by rw [u64w (by omega)]; omega
    rw [ey]
    have es : (0 : Nat) = if v < 0 then 1 else 0 := by rw [if_neg h0]
    refine ⟨fun h1 => key 0 _ rfl es true (by simp; omega), fun h1 => ⟨fun h2 => key 0 _ rfl es true (by simp; omega), fun h2 => Cn.eq (c72 (x := v.natAbs) rfl (by omega)) ⟨_, rfl, key 0 _ rfl es _ (hdec h1 h2)⟩⟩⟩
theorem c19 {M : Mem} : Cn Try.prog 19 #[] M fun v N => v = PtrB M.nb.size ∧ Keep M N ∧ N.nb.size = M.nb.size + 1 ∧ Wr (fun _ => False) N M.nb.size [] :=
  w19_0 ⟨rfl, .new _ _, Mem.new_size _ _, ⟨fun h => h, fun x h => (by cases h), by decide, none, 0, Mem.new_at _ _, .inl ⟨rfl, rfl, rfl⟩, Nat.le_refl _⟩⟩
theorem c28 (h : Wr S M j w) (hf : M.floor ≤ M.nb.size) : Cn Try.prog 28 #[PtrB j] M fun v N => ∃ A' c', v = .slice A' (pack w).length c' ∧ Keep M N ∧ Own (fun i => M.nb.size ≤ i) N 5 A' c' (U8 (pack w)) ∧ (pack w).length ≤ c' := by
  obtain ⟨A, c, g1, g2, g3⟩ := h.ex
  have hl := h.len
  refine w28_0 (Cn.eq h.there ⟨_, rfl, fun h => absurd h (by simp), fun _ => ⟨_, rfl, _, sl_of g1 rfl, Cn.mono (c61' hf g2.row (n := (w.length + 7) / 8) (pack_len w) (by omega)) ?_⟩⟩)
  rintro v N ⟨A', c', rfl, hK, hO, hc⟩
  exact ⟨_, rfl, A', c', by rw [pack_len], hK, hO, by rw [pack_len]; exact hc⟩
end
end Go.Zt


/- Layer 1: the document's writers. -/
set_option linter.unusedSimpArgs false
set_option linter.unusedVariables false
namespace Go.Zt
open Go Go.Sim Go.Proofs Go.RowKit

structure Wf (S : Nat → Prop) (M : Mem) (j : Nat) (w : List Nat) : Prop where
  out : ¬ S j
  bin : Bin w
  len : w.length ≤ 100000000000
  ex : ∃ A c, M.nb[j]? = some (.cells #[.slice A w.length c] 83) ∧ Own S M 3 A c (N64 w) ∧ w.length ≤ c
section
variable {S : Nat → Prop} {j : Nat} {M : Mem} {w : List Nat}
end
end Go.Zt


/- The functions' walks: for each function and each loop a rule of what it comes to. Printed by zw.py. -/
set_option linter.unusedVariables false
set_option maxRecDepth 100000
namespace Go.Zt
open Go Go.Sim Go.Proofs

variable {g0 g1 g2 g3 g4 g5 g6 g7 g8 g9 g10 g11 g12 g13 g14 g15 g16 g17 g18 g19 g20 g21 g22 g23 g24 g25 : Value}
/-! ### zoetrope/zoetroperef00.CopyBytes: function 9 -/
noncomputable abbrev P9 (p : List Nat) : Code := subC (codeOf Try.f9) p
noncomputable abbrev O9 (p : List Nat) : Array Oper := opsOf (subC (codeOf Try.f9) p)
theorem b9 : Try.prog.funcs[9]? = some Try.f9 ∧ (Orc.tab Try.prog).lookup 9 = none := ⟨by kernel_rfl, by kernel_rfl⟩
theorem d9 : Try.f9.body = some (P9 []) := by kernel_rfl
theorem t9 {Ax0 : Option Addr} {lx0 cx0 : Nat} : #[.slice Ax0 lx0 cx0] ++ Array.replicate (Try.f9.ntmps - (#[.slice Ax0 lx0 cx0] : Array Value).size) undef = #[.slice Ax0 lx0 cx0,undef,undef,undef,undef,undef,undef,undef] := by kernel_rfl
theorem k9_0 : P9 [] = .seq (P9 [0]) (P9 [1]) := by kernel_rfl
theorem k9_1 : P9 [0] = .region 0 (O9 [0]) false := by kernel_rfl
theorem r9_0 {M : Mem} {call : CallM} {K : Array Value → Mem → R} :
    opsK Try.prog (fun _ => call) (O9 [0]) (O9 [0]).toList 0 #[g0,g1,g2,g3,g4,g5,g6,g7] M K = K #[g0,g1,.slice none 0 0,g3,g4,g5,g6,g7] M := by kernel_rfl
theorem k9_2 : P9 [1] = .seq (P9 [1,0]) (P9 [1,1]) := by kernel_rfl
theorem k9_3 : P9 [1,0] = .region 1 (O9 [1,0]) false := by kernel_rfl
theorem r9_1 {M : Mem} {call : CallM} {K : Array Value → Mem → R} :
    opsK Try.prog (fun _ => call) (O9 [1,0]) (O9 [1,0]).toList 0 #[g0,g1,g2,g3,g4,g5,g6,g7] M K = K #[g0,g1,g2,.slice none 0 0,g4,g5,g6,g7] M := by kernel_rfl
theorem k9_4 : P9 [1,1] = .seq (P9 [1,1,0]) (P9 [1,1,1]) := by kernel_rfl
theorem k9_5 : P9 [1,1,0] = .region 2 (O9 [1,1,0]) false := by kernel_rfl
theorem r9_2 {Ax0 : Option Addr} {lx0 cx0 : Nat} {Ax3 : Option Addr} {lx3 cx3 : Nat} {M : Mem} {call : CallM} {K : Array Value → Mem → R} :
    opsK Try.prog (fun _ => call) (O9 [1,1,0]) (O9 [1,1,0]).toList 0 #[.slice Ax0 lx0 cx0,g1,g2,.slice Ax3 lx3 cx3,g4,g5,g6,g7] M K = (appendP Try.prog #[24, 24] (.slice Ax3 lx3 cx3) (.slice Ax0 lx0 cx0) M).bind fun r_1 => (asS r_1.1).bind fun s_2 => K #[.slice Ax0 lx0 cx0,g1,g2,.slice s_2.1 (s_2.2.1) (s_2.2.2),.slice Ax3 lx3 cx3,.slice Ax0 lx0 cx0,.slice s_2.1 (s_2.2.1) (s_2.2.2),g7] r_1.2 := by kernel_rfl
theorem k9_6 : P9 [1,1,1] = .seq (P9 [1,1,1,0]) (P9 [1,1,1,1]) := by kernel_rfl
theorem k9_7 : P9 [1,1,1,0] = .region 3 (O9 [1,1,1,0]) false := by kernel_rfl
theorem r9_3 {Ax3 : Option Addr} {lx3 cx3 : Nat} {M : Mem} {call : CallM} {K : Array Value → Mem → R} :
    opsK Try.prog (fun _ => call) (O9 [1,1,1,0]) (O9 [1,1,1,0]).toList 0 #[g0,g1,g2,.slice Ax3 lx3 cx3,g4,g5,g6,g7] M K = K #[g0,g1,.slice Ax3 lx3 cx3,.slice Ax3 lx3 cx3,g4,g5,g6,.slice Ax3 lx3 cx3] M := by kernel_rfl
theorem k9_8 : P9 [1,1,1,1] = .ret := by kernel_rfl
theorem e9 {M : Mem} : finish Try.prog Try.f9 #[g0,g1,g2,g3,g4,g5,g6,g7] M = some (g2, M) := by kernel_rfl
theorem w9_0 {Ax0 : Option Addr} {lx0 cx0 : Nat} {M : Mem} {Q : Value → Mem → Prop} (H :
    ∃ r1', appendP Try.prog #[24, 24] (.slice none 0 0) (.slice Ax0 lx0 cx0) M = some r1' ∧
    ∃ s2', asS r1'.1 = some s2' ∧
    Q (.slice s2'.1 (s2'.2.1) (s2'.2.2)) r1'.2) :
    Cn Try.prog 9 #[.slice Ax0 lx0 cx0] M Q := by
  refine Cn.of b9 d9 t9 ?_
  refine Rn.seq k9_0 (Rn.region k9_1 (fun call K => r9_0) (Rch.leaf (Rn.seq k9_2 (Rn.region k9_3 (fun call K => r9_1) (Rch.leaf (Rn.seq k9_4 (Rn.region k9_5 (fun call K => r9_2) (Rch.ex H fun r1' H => Rch.ex H fun s2' H => Rch.leaf (Rn.seq k9_6 ?_)))))))))
  refine Rn.region k9_7 (fun call K => r9_3) (Rch.leaf ?_)
  exact Rn.ret k9_8 e9 H


end Go.Zt


/- Layer 1: calls of readers and writers by their kinds; rows compared and copied. -/
set_option linter.unusedSimpArgs false
set_option linter.unusedVariables false
namespace Go.Zt
open Go Go.Sim Go.Proofs Go.RowKit

theorem c9 {M : Mem} (hf : M.floor ≤ M.nb.size) {A : Option Addr} {n c : Nat} {b : List Nat} (hR : Row M A (U8 b)) (hn : n = b.length) (hb : n ≤ 4294967296) :
    Cn Try.prog 9 #[.slice A n c] M fun v N => ∃ A' c', v = .slice A' n c' ∧ Keep M N ∧ Own (fun j => M.nb.size ≤ j) N 5 A' c' (U8 b) ∧ n ≤ c' := by
  obtain ⟨A', c', M', g1, g2, g3, g4⟩ := append_own el5 (Own.empty (S := fun j => M.nb.size ≤ j) (M := M) (e := 5)) (n := 0) (c := 0) (k := n) (by simp) hR (by simp [hn]) (u8_one b) (fun j hj => Nat.le_trans hf hj) (Nat.le_refl _) (by omega)
  rw [Nat.zero_add] at g1 g4
  exact w9_0 ⟨_, g1, _, rfl, A', c', rfl, Keep.step (.refl _) g2 fun j hj => hj, by simpa using g3, g4⟩

/-! ### Calls by their kinds -/
structure DoV where
  k : Int
  n : Int
  v : Nat
/-- A signed number as one of 32 bits. -/
def toU (x : Int) : Nat := (x % 4294967296).toNat
theorem toU_wrap (x : Int) : IntKind.u32.wrap x = ((toU x : Nat) : Int) := by unfold toU; rw [IntKind.wrap_u32]; omega
section
variable {S : Nat → Prop} {M : Mem} {j : Nat} {b : List Nat} {p : Nat}
end
end Go.Zt

