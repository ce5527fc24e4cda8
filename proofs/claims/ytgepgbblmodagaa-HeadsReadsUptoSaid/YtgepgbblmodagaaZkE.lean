/- Layer 1: numbers of bits; the program's readers. -/
import Derived.Test.YtgepgbblmodagaaZkB
import Derived.Test.YtgepgbblmodagaaZqT
import Derived.Test.YtgepgbblmodagaaProg
import Derived.Test.YtgepgbblmodagaaZkA
set_option linter.unusedSimpArgs false
set_option linter.unusedVariables false
namespace Go.Zt
open Go Go.Sim Go.Proofs Go.RowKit

abbrev U8 (l : List Nat) : List Value := l.map fun x => Value.int .u8 (x : Nat)
abbrev Byt (l : List Nat) : Prop := ∀ x ∈ l, x < 256
theorem el5 : ElemS Try.prog 24 5 1 1 (.int .u8 0) := ⟨by kernel_rfl, by kernel_rfl, rfl, by decide, by decide⟩

/-! ### Bits and numbers -/
def bitOf (b : List Nat) (i : Nat) : Nat := b.getD (i / 8) 0 / 2 ^ (7 - i % 8) % 2
theorem bitOf_lt (b : List Nat) (i : Nat) : bitOf b i < 2 := Nat.mod_lt _ (by decide)
/-- The number of n bits from a place on. -/
def numb (f : Nat → Nat) (a : Nat) : Nat → Nat
  | 0 => 0
  | n + 1 => 2 * numb f a n + f (a + n)
theorem numb_lt {f : Nat → Nat} (hf : ∀ i, f i < 2) (a : Nat) : ∀ n, numb f a n < 2 ^ n
  | 0 => by simp [numb]
  | n + 1 => by
    have := numb_lt hf a n
    have := hf (a + n)
    simp only [numb, Nat.pow_succ]; omega
theorem pow32 {n : Nat} (h : n ≤ 32) : 2 ^ n ≤ 4294967296 := Nat.pow_le_pow_right (n := 2) (by decide) h
theorem pow31 {n : Nat} (h : n ≤ 31) : 2 ^ n ≤ 2147483648 := Nat.pow_le_pow_right (n := 2) (by decide) h

def rFixed (b : List Nat) (p : Nat) (n : Int) : Nat × Nat × Nat :=
  if n < 0 ∨ n > 32 then (0, 2, p) else if n > ((8 * b.length : Nat) : Int) - p then (0, 3, p) else (numb (bitOf b) p n.toNat, 0, p + n.toNat)
def rSigned (b : List Nat) (p : Nat) (n : Int) : Int × Nat × Nat :=
  if n < 1 ∨ n > 31 then (0, 2, p) else if n + 1 > ((8 * b.length : Nat) : Int) - p then (0, 3, p)
  else if bitOf b p = 1 then
    if numb (bitOf b) (p + 1) n.toNat = 0 then (0, 4, p) else (-((numb (bitOf b) (p + 1) n.toNat : Nat) : Int), 0, p + (n.toNat + 1))
  else (numb (bitOf b) (p + 1) n.toNat, 0, p + (n.toNat + 1))
def rAlign (b : List Nat) (p : Nat) : Nat × Nat :=
  let n := (8 - p % 8) % 8
  if numb (bitOf b) p n ≠ 0 then (4, p) else (0, p + n)

/-! ### The program's readers -/
abbrev PtrB (j : Nat) : Value := .pointer (some ⟨2 * j, 0, none⟩)
structure Rdr (S : Nat → Prop) (M : Mem) (j : Nat) (b : List Nat) (p : Nat) : Prop where
  out : ¬ S j
  byt : Byt b
  len : b.length ≤ 4294967296
  pos : p ≤ 8 * b.length
  ex : ∃ A c, M.nb[j]? = some (.cells #[.slice A b.length c, .int .i64 (p : Nat), .bool true] 101) ∧ Row M A (U8 b) ∧ b.length ≤ c ∧ (A = none → c = 0) ∧ ∀ a, A = some a → a.block % 2 = 1 ∨ S (a.block / 2)
theorem Rdr.chg {S T : Nat → Prop} {M M' : Mem} {j : Nat} {b : List Nat} {p : Nat} (h : Rdr S M j b p) (k : Chg T M M') (hj : ¬ T j) (hS : ∀ i, S i → ¬ T i) : Rdr S M' j b p := by
  obtain ⟨A, c, h1, h2, h3, h0, h4⟩ := h.ex
  exact ⟨h.out, h.byt, h.len, h.pos, A, c, at_chg h1 k hj, h2.chg k fun a ha => (h4 a ha).imp id (hS _), h3, h0, h4⟩
theorem Rdr.keep {S : Nat → Prop} {M M' : Mem} {j : Nat} {b : List Nat} {p : Nat} (h : Rdr S M j b p) (k : Keep M M') : Rdr S M' j b p := h.chg k (fun x => x) fun _ _ x => x
theorem Rdr.set {S : Nat → Prop} {M : Mem} {j : Nat} {b : List Nat} {p : Nat} (h : Rdr S M j b p) (hf : M.floor ≤ j) {p' : Nat} (hp : p' ≤ 8 * b.length) {z : Int} (hz : z = (p' : Int)) :
    ∃ M', M.put (2 * j) 1 (.int .i64 z) = some M' ∧ Chg (· = j) M M' ∧ M'.nb.size = M.nb.size ∧ Rdr S M' j b p' := by
  subst hz
  obtain ⟨A, c, h1, h2, h3, h0, h4⟩ := h.ex
  have hC : Chg (· = j) M (M.upd j (.cells (#[.slice A b.length c, .int .i64 (p : Nat), .bool true].setIfInBounds 1 (.int .i64 (p' : Nat))) 101)) := upd_chg rfl
  exact ⟨_, put_of h1 hf (by simp) rfl, hC, upd_size _, h.out, h.byt, h.len, hp, A, c, upd_at (lt_of_at h1), h2.chg hC fun a ha => (h4 a ha).imp id fun hs e => h.out (e ▸ hs), h3, h0, h4⟩

section
variable {S : Nat → Prop} {M : Mem} {j : Nat} {b : List Nat} {p : Nat}
theorem c80 (h : Rdr S M j b p) {i : Nat} {z : Int} (hz : z = (i : Int)) (hi : i < 8 * b.length) : Cn Try.prog 80 #[PtrB j, .int .i64 z] M fun v N => v = .int .u32 (bitOf b i : Nat) ∧ N = M := by
  subst hz
  obtain ⟨A, c, h1, h2, h3, h0, h4⟩ := h.ex
  have hl := h.len
  have hb : i / 8 < b.length := by omega
  have hx : b[i / 8] < 256 := h.byt _ (List.getElem_mem _)
  obtain ⟨a, i1, i2⟩ := h2.int1 (n := b.length) (i := i / 8) (z := IntKind.i64.wrap ((i : Int).tdiv 8)) (k := .u8) (x := (b[i / 8] : Nat)) (by rw [show ((i : Int).tdiv 8) = ((i / 8 : Nat) : Int) from tdivN i 8, i64w (by omega)]) hb (by simp [hb])
  refine w80_0 ⟨_, rfl, _, sl_of h1 rfl, _, i1, _, i2, _, shr_nat (q := 7 - i % 8) (by rw [show ((i : Int).tmod 8) = ((i % 8 : Nat) : Int) from tmodN i 8, i64w (by omega)]; omega) (by show 7 - i % 8 ≤ 8; omega), _, rfl, ?_, rfl⟩
  have hq : b[i / 8] / 2 ^ (7 - i % 8) < 256 := Nat.lt_of_le_of_lt (Nat.div_le_self _ _) hx
  have e2 : bitOf b i = b[i / 8] / 2 ^ (7 - i % 8) % 2 := by simp [bitOf, hb]
  rw [e2]
  generalize b[i / 8] / 2 ^ (7 - i % 8) = w at hq
  have e0 : IntKind.u32.wrap ((w : Nat) : Int) = (w : Nat) := u32w (by omega)
  rw [e0, and_mask (k := .u32) rfl (m := 1) (c := 1) rfl (by decide) (show _ < 2 ^ 32 by omega)]
theorem c66_loop (h : Rdr S M j b p) {a n : Nat} (hn : n ≤ 32) (ha : a + n ≤ 8 * b.length) {Q : Value → Mem → Prop} (hQ : Q (.int .u32 (numb (bitOf b) a n : Nat)) M) :
    ∀ (k i : Nat), i + k = n → A66_1 (some ⟨2 * j, 0, none⟩) a (numb (bitOf b) a i : Nat) n i M Q
  | 0, i, hi => by
    refine w66_1 ⟨fun h => by omega, fun _ => ?_⟩
    obtain rfl : i = n := by omega
    exact hQ
  | k + 1, i, hi => by
    have hl := h.len
    refine w66_1 ⟨fun _ => Cn.eq (c80 h (i := a + i) (by rw [i64w (by omega)]; omega) (by omega)) ?_, fun h => by omega⟩
    refine ⟨_, rfl, ?_⟩
    have h1 := numb_lt (bitOf_lt b) a i
    have h2 := bitOf_lt b (a + i)
    have h3 : 2 ^ i ≤ 2147483648 := pow31 (by omega)
    have e1 : IntKind.u32.wrap (((numb (bitOf b) a i : Nat) : Int) * 2 ^ 1) = ((numb (bitOf b) a i * 2 : Nat) : Int) := by rw [u32w (by omega)]; omega
    have e2 : numb (bitOf b) a i * 2 ||| bitOf b (a + i) = numb (bitOf b) a (i + 1) := by
      rw [or_add (k := 1) ⟨numb (bitOf b) a i, by omega⟩ (by omega)]; simp only [numb]; omega
    rw [e1, or_nat (k := .u32) rfl (show _ < 2 ^ 32 by omega) (show _ < 2 ^ 32 by omega), e2, i64w (by omega), show ((i : Int) + 1) = ((i + 1 : Nat) : Int) by omega]
    exact c66_loop h hn ha hQ k (i + 1) (by omega)
theorem c66 (h : Rdr S M j b p) {a n : Nat} {z y : Int} (hz : z = (a : Int)) (hy : y = (n : Int)) (hn : n ≤ 32) (ha : a + n ≤ 8 * b.length) :
    Cn Try.prog 66 #[PtrB j, .int .i64 z, .int .i64 y] M fun v N => v = .int .u32 (numb (bitOf b) a n : Nat) ∧ N = M := by
  subst hz hy
  exact w66_0 (c66_loop h hn ha ⟨rfl, rfl⟩ n 0 (by omega))
theorem c64 (h : Rdr S M j b p) : Cn Try.prog 64 #[PtrB j] M fun v N => v = .bool true ∧ N = M := by
  obtain ⟨A, c, h1, h2, h3, h0, h4⟩ := h.ex
  exact w64_0 ⟨fun _ => ⟨_, rfl, _, bool_of h1 rfl, rfl, rfl⟩, fun h => absurd h (by simp)⟩
theorem c65 (h : Rdr S M j b p) : Cn Try.prog 65 #[PtrB j] M fun v N => v = .int .i64 ((8 * b.length - p : Nat) : Int) ∧ N = M := by
  obtain ⟨A, c, h1, h2, h3, h0, h4⟩ := h.ex
  have hl := h.len
  have hp := h.pos
  refine w65_0 ⟨_, rfl, _, sl_of h1 rfl, _, rfl, _, int_of h1 rfl, ?_, rfl⟩
  show Value.int .i64 (IntKind.i64.wrap (IntKind.i64.wrap (8 * (b.length : Int)) - (p : Int))) = _
  rw [i64w (x := 8 * (b.length : Int)) (by omega), i64w (by omega)]
  congr 1; omega
theorem c37 (h : Rdr S M j b p) : Cn Try.prog 37 #[PtrB j] M fun v N => v = .int .i64 ((8 * b.length - p : Nat) : Int) ∧ N = M := by
  refine w37_0 (Cn.eq (c64 h) ?_)
  refine ⟨_, rfl, fun h => absurd h (by simp), fun _ => Cn.eq (c65 h) ?_⟩
  exact ⟨_, rfl, rfl, rfl⟩
/-- What a reader's call leaves. -/
def RdR (S : Nat → Prop) (M : Mem) (j : Nat) (b : List Nat) (u : Value) (p' : Nat) : Value → Mem → Prop := fun v N => v = u ∧ Chg (· = j) M N ∧ N.nb.size = M.nb.size ∧ Rdr S N j b p'
theorem RdR.same (h : Rdr S M j b p) {u : Value} : RdR S M j b u p u M := ⟨rfl, .refl _, rfl, h⟩
theorem c33 (h : Rdr S M j b p) (hf : M.floor ≤ j) (n : Int) :
    Cn Try.prog 33 #[PtrB j, .int .i64 n] M (RdR S M j b (.tuple #[.int .u32 ((rFixed b p n).1 : Nat), .int .i64 ((rFixed b p n).2.1 : Nat)]) (rFixed b p n).2.2) := by
  have hp := h.pos
  have hl := h.len
  refine w33_0 (Cn.eq (c64 h) ?_)
  refine ⟨_, rfl, fun h => absurd h (by simp), fun _ => ?_⟩
  by_cases h0 : n < 0 ∨ n > 32
  · have e : rFixed b p n = (0, 2, p) := by unfold rFixed; rw [if_pos h0]
    rw [e]
    have key : A33_1 (some ⟨2 * j, 0, none⟩) n true M (RdR S M j b (.tuple #[.int .u32 ((0 : Nat) : Int), .int .i64 ((2 : Nat) : Int)]) p) := w33_1 ⟨fun _ => .same h, fun h => (by cases h)⟩
    refine ⟨fun _ => key, fun h1 => ?_⟩
    rw [decide_eq_true (show n > 32 by omega)]; exact key
  · refine ⟨fun h => by omega, fun _ => ?_⟩
    rw [decide_eq_false (show ¬ n > 32 by omega)]
    refine w33_1 ⟨fun h => (by cases h), fun _ => Cn.eq (c65 h) ?_⟩
    refine ⟨_, rfl, fun h1 => ?_, fun h1 => ?_⟩
    · have e : rFixed b p n = (0, 3, p) := by unfold rFixed; rw [if_neg h0, if_pos (by omega)]
      rw [e]; exact .same h
    · have e : rFixed b p n = (numb (bitOf b) p n.toNat, 0, p + n.toNat) := by unfold rFixed; rw [if_neg h0, if_neg (by omega)]
      rw [e]
      obtain ⟨A, c, g1, g2, g3, _, g4⟩ := h.ex
      refine ⟨_, rfl, _, int_of g1 rfl, Cn.eq (c66 h (a := p) (n := n.toNat) rfl (by omega) (by omega) (by omega)) ?_⟩
      obtain ⟨M', m1, m2, m3, m4⟩ := h.set hf (p' := p + n.toNat) (z := IntKind.i64.wrap ((p : Int) + n)) (by omega) (by rw [i64w (by omega)]; omega)
      exact ⟨_, rfl, _, rfl, _, int_of g1 rfl, _, rfl, _, m1, rfl, m2, m3, m4⟩
theorem c82 (h : Rdr S M j b p) (hf : M.floor ≤ j) (n : Int) :
    Cn Try.prog 82 #[PtrB j, .int .i64 n] M (RdR S M j b (.tuple #[.int .i32 (rSigned b p n).1, .int .i64 ((rSigned b p n).2.1 : Nat)]) (rSigned b p n).2.2) := by
  have hp := h.pos
  have hl := h.len
  refine w82_0 (Cn.eq (c64 h) ?_)
  refine ⟨_, rfl, fun h => absurd h (by simp), fun _ => ?_⟩
  by_cases h0 : n < 1 ∨ n > 31
  · have e : rSigned b p n = (0, 2, p) := by unfold rSigned; rw [if_pos h0]
    rw [e]
    have key : A82_1 (some ⟨2 * j, 0, none⟩) n true M (RdR S M j b (.tuple #[.int .i32 0, .int .i64 ((2 : Nat) : Int)]) p) := w82_1 ⟨fun _ => .same h, fun h => (by cases h)⟩
    refine ⟨fun _ => key, fun h1 => ?_⟩
    rw [decide_eq_true (show n > 31 by omega)]; exact key
  · refine ⟨fun h => by omega, fun _ => ?_⟩
    rw [decide_eq_false (show ¬ n > 31 by omega)]
    refine w82_1 ⟨fun h => (by cases h), fun _ => Cn.eq (c65 h) ?_⟩
    have e1 : IntKind.i64.wrap (n + 1) = n + 1 := i64w (by omega)
    rw [e1]
    refine ⟨_, rfl, fun h1 => ?_, fun h1 => ?_⟩
    · have e : rSigned b p n = (0, 3, p) := by unfold rSigned; rw [if_neg h0, if_pos (by omega)]
      rw [e]; exact .same h
    · have hlt := numb_lt (bitOf_lt b) (p + 1) n.toNat
      have h31 := pow31 (n := n.toNat) (by omega)
      obtain ⟨A, c, g1, g2, g3, _, g4⟩ := h.ex
      refine ⟨_, rfl, _, int_of g1 rfl, Cn.eq (c66 h (a := p + 1) (n := n.toNat) (by rw [i64w (by omega)]; omega) (by omega) (by omega) (by omega)) ?_⟩
      refine ⟨_, rfl, _, rfl, _, int_of g1 rfl, Cn.eq (c80 h (i := p) rfl (by omega)) ?_⟩
      have e2 : IntKind.i32.wrap ((numb (bitOf b) (p + 1) n.toNat : Nat) : Int) = (numb (bitOf b) (p + 1) n.toNat : Nat) := i32w (by omega)
      rw [e2]
      obtain ⟨M', m1, m2, m3, m4⟩ := h.set hf (p' := p + (n.toNat + 1)) (z := IntKind.i64.wrap ((p : Int) + (n + 1))) (by omega) (by rw [i64w (by omega)]; omega)
      refine ⟨_, rfl, fun h2 => ⟨fun h3 => ?_, fun h3 => ⟨_, rfl, _, int_of g1 rfl, _, rfl, _, m1, ?_⟩⟩, fun h2 => ⟨_, rfl, _, int_of g1 rfl, _, rfl, _, m1, ?_⟩⟩
      · have e : rSigned b p n = (0, 4, p) := by unfold rSigned; rw [if_neg h0, if_neg (by omega), if_pos (by omega), if_pos (by omega)]
        rw [e]; exact .same h
      · have e : rSigned b p n = (-((numb (bitOf b) (p + 1) n.toNat : Nat) : Int), 0, p + (n.toNat + 1)) := by unfold rSigned; rw [if_neg h0, if_neg (by omega), if_pos (by omega), if_neg (by omega)]
        rw [e, show (0 : Int) - ((numb (bitOf b) (p + 1) n.toNat : Nat) : Int) = -((numb (bitOf b) (p + 1) n.toNat : Nat) : Int) by omega, i32w (by omega)]
        exact ⟨rfl, m2, m3, m4⟩
      · have e : rSigned b p n = (((numb (bitOf b) (p + 1) n.toNat : Nat) : Int), 0, p + (n.toNat + 1)) := by unfold rSigned; rw [if_neg h0, if_neg (by omega), if_neg (by omega)]
        rw [e]
        exact ⟨rfl, m2, m3, m4⟩
end
end Go.Zt


/- Layer 1: the program's readers, further. -/
set_option linter.unusedSimpArgs false
set_option linter.unusedVariables false
namespace Go.Zt
open Go Go.Sim Go.Proofs Go.RowKit

section
variable {S : Nat → Prop} {M : Mem} {j : Nat} {b : List Nat} {p : Nat}
theorem c40 (h : Rdr S M j b p) (hf : M.floor ≤ j) : Cn Try.prog 40 #[PtrB j] M (RdR S M j b (.int .i64 ((rAlign b p).1 : Nat)) (rAlign b p).2) := by
  obtain ⟨A, c, g1, g2, g3, g0, g4⟩ := h.ex
  have hp := h.pos
  have hl := h.len
  have e1 : IntKind.i64.wrap (((BitVec.ofInt (IntKind.bits .i64) (IntKind.i64.wrap (0 - (p : Int))) &&& BitVec.ofInt (IntKind.bits .i64) 7).toNat : Nat) : Int) = (((8 - p % 8) % 8 : Nat) : Int) := by
    rw [i64w (x := 0 - (p : Int)) (by omega), and7_i64]; omega
  refine w40_0 (Cn.eq (c64 h) ⟨_, rfl, fun h => absurd h (by simp), fun _ => ⟨_, rfl, _, int_of g1 rfl, _, rfl, _, int_of g1 rfl, ?_⟩⟩)
  rw [e1]
  refine Cn.eq (c66 h (a := p) (n := (8 - p % 8) % 8) rfl rfl (by omega) (by omega)) ⟨_, rfl, fun h1 => ?_, fun h1 => ?_⟩
  · have e : rAlign b p = (4, p) := by unfold rAlign; simp only; rw [if_pos (by omega)]
    rw [e]; exact .same h
  · have e : rAlign b p = (0, p + (8 - p % 8) % 8) := by unfold rAlign; simp only; rw [if_neg (by omega)]
    rw [e]
    obtain ⟨M', m1, m2, m3, m4⟩ := h.set hf (p' := p + (8 - p % 8) % 8) (z := IntKind.i64.wrap ((p : Int) + (((8 - p % 8) % 8 : Nat) : Int))) (by omega) (by rw [i64w (by omega)]; omega)
    exact ⟨_, rfl, _, int_of g1 rfl, _, rfl, _, m1, rfl, m2, m3, m4⟩
end

/-! ### Copies -/
theorem u8_one (b : List Nat) : (U8 b).all oneCell = true := by rw [List.all_eq_true]; intro v hv; obtain ⟨x, _, rfl⟩ := List.mem_map.1 hv; rfl
theorem c61' {M : Mem} (hf : M.floor ≤ M.nb.size) {A : Option Addr} {n c : Nat} {b : List Nat} (hR : Row M A (U8 b)) (hn : b.length = n) (hb : n ≤ 100000000000) :
    Cn Try.prog 61 #[.slice A n c] M fun v N => ∃ A' c', v = .slice A' n c' ∧ Keep M N ∧ Own (fun j => M.nb.size ≤ j) N 5 A' c' (U8 b) ∧ n ≤ c' := by
  refine w61_0 ⟨fun h => ?_, fun h => ?_⟩
  · have hA : A = none := by cases A with | none => rfl | some a => simp at h
    subst hA
    have hb0 : b = [] := by have := hR.none_nil; simpa using this
    subst hb0
    subst hn
    exact ⟨none, 0, rfl, .refl _, .inl ⟨rfl, rfl, rfl⟩, Nat.le_refl _⟩
  · obtain ⟨A', c', M', g1, g2, g3, g4⟩ := clone_own el5 hR (n := n) (c := c) (by simpa using hn) (u8_one b) hf (by omega)
    exact ⟨_, g1, _, rfl, A', c', rfl, g2, by simpa using g3, g4⟩
theorem c61 {M : Mem} (hf : M.floor ≤ M.nb.size) {A : Option Addr} {n c : Nat} {b : List Nat} (hR : Row M A (U8 b)) (hn : b.length = n) (hb : n ≤ 4294967296) :
    Cn Try.prog 61 #[.slice A n c] M fun v N => ∃ A' c', v = .slice A' n c' ∧ Keep M N ∧ Own (fun j => M.nb.size ≤ j) N 5 A' c' (U8 b) ∧ n ≤ c' := c61' hf hR hn (by omega)
theorem c31 {M : Mem} (hf : M.floor ≤ M.nb.size) {A : Option Addr} {n c : Nat} {b : List Nat} (hR : Row M A (U8 b)) (hn : b.length = n) (hb : n ≤ 4294967296) (hB : Byt b) :
    Cn Try.prog 31 #[.slice A n c] M fun v N => ∃ j, v = PtrB j ∧ Keep M N ∧ M.nb.size ≤ j ∧ j < N.nb.size ∧ Rdr (fun i => M.nb.size ≤ i ∧ i < j) N j b 0 := by
  refine w31_0 (Cn.mono (c61 hf hR hn hb) ?_)
  rintro v N ⟨A', c', rfl, hK, hO, hc⟩
  have hN : Chg (fun j => M.nb.size ≤ j) N (N.new (.cells #[.slice A' n c', .int .i64 0, .bool true] 101)) := .new _ _
  refine ⟨_, rfl, N.nb.size, rfl, Keep.step hK hN fun j hj => hj, hK.size, by rw [Mem.new_size]; omega, ⟨fun h => by omega, hB, by omega, Nat.zero_le _, A', c', ?_, ?_, by omega, hO.none_zero, fun a ha => ?_⟩⟩
  · rw [hn]; exact Mem.new_at _ _
  · exact hO.row.keep (.new _ _)
  · have h1 := hO.in_ a ha
    have h2 : a.block / 2 < N.nb.size := by
      rcases hO with ⟨h, _⟩ | ⟨j, cs, sp, h, _, _, h4, _⟩
      · rw [h] at ha; cases ha
      · rw [h] at ha; obtain rfl := Option.some.inj ha
        show 2 * j / 2 < _
        have := lt_of_at h4; omega
    exact .inr ⟨h1.2, h2⟩
end Go.Zt


/- The functions' walks: for each function and each loop a rule of what it comes to. Printed by zw.py. -/
set_option linter.unusedVariables false
set_option maxRecDepth 100000
namespace Go.Zt
open Go Go.Sim Go.Proofs

variable {g0 g1 g2 g3 g4 g5 g6 g7 g8 g9 gA gB gC gD gE gF gG gH gI gJ gK gL gM gN gO gP gQ gR gS gT gU gV gW gX gY gZ hA hB hC hD hE hF hG hH hI hJ hK hL hM hN hO hP hQ hR : Value}
/-! ### zoetrope/zoetroperef01.spread: function 63 -/
noncomputable abbrev P63 (p : List Nat) : Code := subC (codeOf Try.f63) p
noncomputable abbrev O63 (p : List Nat) : Array Oper := opsOf (subC (codeOf Try.f63) p)
theorem b63 : Try.prog.funcs[63]? = some Try.f63 ∧ (Orc.tab Try.prog).lookup 63 = none := ⟨by kernel_rfl, by kernel_rfl⟩
theorem d63 : Try.f63.body = some (P63 []) := by kernel_rfl
theorem t63 {Ax0 : Option Addr} {lx0 cx0 : Nat} : #[.slice Ax0 lx0 cx0] ++ Array.replicate (Try.f63.ntmps - (#[.slice Ax0 lx0 cx0] : Array Value).size) undef = #[.slice Ax0 lx0 cx0,undef,undef,undef,undef,undef,undef,undef,undef,undef,undef,undef,undef,undef,undef,undef,undef,undef,undef,undef,undef,undef,undef,undef,undef,undef,undef,undef,undef,undef,undef,undef] := by kernel_rfl
theorem k63_0 : P63 [] = .seq (P63 [0]) (P63 [1]) := by kernel_rfl
theorem k63_1 : P63 [0] = .region 0 (O63 [0]) false := by kernel_rfl
theorem r63_0 {M : Mem} {call : CallM} {K : Array Value → Mem → R} :
    opsK Try.prog (fun _ => call) (O63 [0]) (O63 [0]).toList 0 #[g0,g1,g2,g3,g4,g5,g6,g7,g8,g9,gA,gB,gC,gD,gE,gF,gG,gH,gI,gJ,gK,gL,gM,gN,gO,gP,gQ,gR,gS,gT,gU,gV] M K = K #[g0,g1,.slice none 0 0,g3,g4,g5,g6,g7,g8,g9,gA,gB,gC,gD,gE,gF,gG,gH,gI,gJ,gK,gL,gM,gN,gO,gP,gQ,gR,gS,gT,gU,gV] M := by kernel_rfl
theorem k63_2 : P63 [1] = .seq (P63 [1,0]) (P63 [1,1]) := by kernel_rfl
theorem k63_3 : P63 [1,0] = .region 1 (O63 [1,0]) false := by kernel_rfl
theorem r63_1 {Ax0 : Option Addr} {lx0 cx0 : Nat} {M : Mem} {call : CallM} {K : Array Value → Mem → R} :
    opsK Try.prog (fun _ => call) (O63 [1,0]) (O63 [1,0]).toList 0 #[.slice Ax0 lx0 cx0,g1,g2,g3,g4,g5,g6,g7,g8,g9,gA,gB,gC,gD,gE,gF,gG,gH,gI,gJ,gK,gL,gM,gN,gO,gP,gQ,gR,gS,gT,gU,gV] M K = (makeP Try.prog 81 (.int .i64 0) (.int .i64 (IntKind.i64.wrap (8 * ((lx0 : Int))))) M).bind fun r_1 => (asS r_1.1).bind fun s_2 => K #[.slice Ax0 lx0 cx0,g1,g2,.slice s_2.1 (s_2.2.1) (s_2.2.2),g4,g5,.slice Ax0 lx0 cx0,.int .i64 ((lx0 : Int)),.int .i64 (IntKind.i64.wrap (8 * ((lx0 : Int)))),.slice s_2.1 (s_2.2.1) (s_2.2.2),gA,gB,gC,gD,gE,gF,gG,gH,gI,gJ,gK,gL,gM,gN,gO,gP,gQ,gR,gS,gT,gU,gV] r_1.2 := by kernel_rfl
theorem k63_4 : P63 [1,1] = .seq (P63 [1,1,0]) (P63 [1,1,1]) := by kernel_rfl
theorem k63_5 : P63 [1,1,0] = .seq (P63 [1,1,0,0]) (P63 [1,1,0,1]) := by kernel_rfl
theorem k63_6 : P63 [1,1,0,0] = .region 2 (O63 [1,1,0,0]) false := by kernel_rfl
theorem r63_2 {M : Mem} {call : CallM} {K : Array Value → Mem → R} :
    opsK Try.prog (fun _ => call) (O63 [1,1,0,0]) (O63 [1,1,0,0]).toList 0 #[g0,g1,g2,g3,g4,g5,g6,g7,g8,g9,gA,gB,gC,gD,gE,gF,gG,gH,gI,gJ,gK,gL,gM,gN,gO,gP,gQ,gR,gS,gT,gU,gV] M K = K #[g0,g1,g2,g3,.int .i64 0,g5,g6,g7,g8,g9,gA,gB,gC,gD,gE,gF,gG,gH,gI,gJ,gK,gL,gM,gN,gO,gP,gQ,gR,gS,gT,gU,gV] M := by kernel_rfl
theorem k63_7 : P63 [1,1,0,1] = .block 0 (P63 [1,1,0,1,0]) := by kernel_rfl
theorem k63_8 : P63 [1,1,0,1,0] = .loop (P63 [1,1,0,1,0,0]) := by kernel_rfl
theorem k63_9 : P63 [1,1,0,1,0,0] = .seq (P63 [1,1,0,1,0,0,0]) (P63 [1,1,0,1,0,0,1]) := by kernel_rfl
theorem k63_10 : P63 [1,1,0,1,0,0,0] = .seq (P63 [1,1,0,1,0,0,0,0]) (P63 [1,1,0,1,0,0,0,1]) := by kernel_rfl
theorem k63_11 : P63 [1,1,0,1,0,0,0,0] = .region 3 (O63 [1,1,0,1,0,0,0,0]) false := by kernel_rfl
theorem r63_3 {Ax0 : Option Addr} {lx0 cx0 : Nat} {x4 : Int} {M : Mem} {call : CallM} {K : Array Value → Mem → R} :
    opsK Try.prog (fun _ => call) (O63 [1,1,0,1,0,0,0,0]) (O63 [1,1,0,1,0,0,0,0]).toList 0 #[.slice Ax0 lx0 cx0,g1,g2,g3,.int .i64 x4,g5,g6,g7,g8,g9,gA,gB,gC,gD,gE,gF,gG,gH,gI,gJ,gK,gL,gM,gN,gO,gP,gQ,gR,gS,gT,gU,gV] M K = K #[.slice Ax0 lx0 cx0,g1,g2,g3,.int .i64 x4,g5,g6,g7,g8,g9,.int .i64 x4,.slice Ax0 lx0 cx0,.int .i64 ((lx0 : Int)),.bool (decide (x4 < ((lx0 : Int)))),gE,gF,gG,gH,gI,gJ,gK,gL,gM,gN,gO,gP,gQ,gR,gS,gT,gU,gV] M := by kernel_rfl
theorem c63_12 : P63 [1,1,0,1,0,0,0,1] = .cond (.tmp 13) (P63 [1,1,0,1,0,0,0,1,0]) (P63 [1,1,0,1,0,0,0,1,1]) := by kernel_rfl
theorem k63_13 : P63 [1,1,0,1,0,0,0,1,0] = .skip := by kernel_rfl
theorem k63_14 : P63 [1,1,0,1,0,0,1] = .seq (P63 [1,1,0,1,0,0,1,0]) (P63 [1,1,0,1,0,0,1,1]) := by kernel_rfl
theorem k63_15 : P63 [1,1,0,1,0,0,1,0] = .block 1 (P63 [1,1,0,1,0,0,1,0,0]) := by kernel_rfl
theorem k63_16 : P63 [1,1,0,1,0,0,1,0,0] = .seq (P63 [1,1,0,1,0,0,1,0,0,0]) (P63 [1,1,0,1,0,0,1,0,0,1]) := by kernel_rfl
theorem k63_17 : P63 [1,1,0,1,0,0,1,0,0,0] = .region 5 (O63 [1,1,0,1,0,0,1,0,0,0]) false := by kernel_rfl
theorem r63_5 {M : Mem} {call : CallM} {K : Array Value → Mem → R} :
    opsK Try.prog (fun _ => call) (O63 [1,1,0,1,0,0,1,0,0,0]) (O63 [1,1,0,1,0,0,1,0,0,0]).toList 0 #[g0,g1,g2,g3,g4,g5,g6,g7,g8,g9,gA,gB,gC,gD,gE,gF,gG,gH,gI,gJ,gK,gL,gM,gN,gO,gP,gQ,gR,gS,gT,gU,gV] M K = K #[g0,g1,g2,g3,g4,.int .i64 7,g6,g7,g8,g9,gA,gB,gC,gD,gE,gF,gG,gH,gI,gJ,gK,gL,gM,gN,gO,gP,gQ,gR,gS,gT,gU,gV] M := by kernel_rfl
theorem k63_18 : P63 [1,1,0,1,0,0,1,0,0,1] = .block 2 (P63 [1,1,0,1,0,0,1,0,0,1,0]) := by kernel_rfl
theorem k63_19 : P63 [1,1,0,1,0,0,1,0,0,1,0] = .loop (P63 [1,1,0,1,0,0,1,0,0,1,0,0]) := by kernel_rfl
theorem k63_20 : P63 [1,1,0,1,0,0,0,1,1] = .exit 0 := by kernel_rfl
theorem k63_21 : P63 [1,1,1] = .seq (P63 [1,1,1,0]) (P63 [1,1,1,1]) := by kernel_rfl
theorem k63_22 : P63 [1,1,1,0] = .region 9 (O63 [1,1,1,0]) false := by kernel_rfl
theorem r63_9 {Ax3 : Option Addr} {lx3 cx3 : Nat} {M : Mem} {call : CallM} {K : Array Value → Mem → R} :
    opsK Try.prog (fun _ => call) (O63 [1,1,1,0]) (O63 [1,1,1,0]).toList 0 #[g0,g1,g2,.slice Ax3 lx3 cx3,g4,g5,g6,g7,g8,g9,gA,gB,gC,gD,gE,gF,gG,gH,gI,gJ,gK,gL,gM,gN,gO,gP,gQ,gR,gS,gT,gU,gV] M K = K #[g0,g1,.slice Ax3 lx3 cx3,.slice Ax3 lx3 cx3,g4,g5,g6,g7,g8,g9,gA,gB,gC,gD,gE,gF,gG,gH,gI,gJ,gK,gL,gM,gN,gO,gP,gQ,gR,gS,gT,gU,.slice Ax3 lx3 cx3] M := by kernel_rfl
theorem k63_23 : P63 [1,1,1,1] = .ret := by kernel_rfl
theorem e63 {M : Mem} : finish Try.prog Try.f63 #[g0,g1,g2,g3,g4,g5,g6,g7,g8,g9,gA,gB,gC,gD,gE,gF,gG,gH,gI,gJ,gK,gL,gM,gN,gO,gP,gQ,gR,gS,gT,gU,gV] M = some (g2, M) := by kernel_rfl
theorem k63_25 : P63 [1,1,0,1,0,0,1,0,0,1,0,0] = .seq (P63 [1,1,0,1,0,0,1,0,0,1,0,0,0]) (P63 [1,1,0,1,0,0,1,0,0,1,0,0,1]) := by kernel_rfl
theorem k63_26 : P63 [1,1,0,1,0,0,1,0,0,1,0,0,0] = .seq (P63 [1,1,0,1,0,0,1,0,0,1,0,0,0,0]) (P63 [1,1,0,1,0,0,1,0,0,1,0,0,0,1]) := by kernel_rfl
theorem k63_27 : P63 [1,1,0,1,0,0,1,0,0,1,0,0,0,0] = .region 6 (O63 [1,1,0,1,0,0,1,0,0,1,0,0,0,0]) false := by kernel_rfl
theorem r63_6 {x5 : Int} {M : Mem} {call : CallM} {K : Array Value → Mem → R} :
    opsK Try.prog (fun _ => call) (O63 [1,1,0,1,0,0,1,0,0,1,0,0,0,0]) (O63 [1,1,0,1,0,0,1,0,0,1,0,0,0,0]).toList 0 #[g0,g1,g2,g3,g4,.int .i64 x5,g6,g7,g8,g9,gA,gB,gC,gD,gE,gF,gG,gH,gI,gJ,gK,gL,gM,gN,gO,gP,gQ,gR,gS,gT,gU,gV] M K = K #[g0,g1,g2,g3,g4,.int .i64 x5,g6,g7,g8,g9,gA,gB,gC,gD,gE,gF,.int .i64 x5,.bool (decide (x5 ≥ 0)),gI,gJ,gK,gL,gM,gN,gO,gP,gQ,gR,gS,gT,gU,gV] M := by kernel_rfl
theorem c63_28 : P63 [1,1,0,1,0,0,1,0,0,1,0,0,0,1] = .cond (.tmp 17) (P63 [1,1,0,1,0,0,1,0,0,1,0,0,0,1,0]) (P63 [1,1,0,1,0,0,1,0,0,1,0,0,0,1,1]) := by kernel_rfl
theorem k63_29 : P63 [1,1,0,1,0,0,1,0,0,1,0,0,0,1,0] = .skip := by kernel_rfl
theorem k63_30 : P63 [1,1,0,1,0,0,1,0,0,1,0,0,1] = .seq (P63 [1,1,0,1,0,0,1,0,0,1,0,0,1,0]) (P63 [1,1,0,1,0,0,1,0,0,1,0,0,1,1]) := by kernel_rfl
theorem k63_31 : P63 [1,1,0,1,0,0,1,0,0,1,0,0,1,0] = .block 3 (P63 [1,1,0,1,0,0,1,0,0,1,0,0,1,0,0]) := by kernel_rfl
theorem k63_32 : P63 [1,1,0,1,0,0,1,0,0,1,0,0,1,0,0] = .region 8 (O63 [1,1,0,1,0,0,1,0,0,1,0,0,1,0,0]) false := by kernel_rfl
theorem r63_8 {Ax0 : Option Addr} {lx0 cx0 : Nat} {Ax3 : Option Addr} {lx3 cx3 : Nat} {x4 x5 : Int} {M : Mem} {call : CallM} {K : Array Value → Mem → R} :
    opsK Try.prog (fun _ => call) (O63 [1,1,0,1,0,0,1,0,0,1,0,0,1,0,0]) (O63 [1,1,0,1,0,0,1,0,0,1,0,0,1,0,0]).toList 0 #[.slice Ax0 lx0 cx0,g1,g2,.slice Ax3 lx3 cx3,.int .i64 x4,.int .i64 x5,g6,g7,g8,g9,gA,gB,gC,gD,gE,gF,gG,gH,gI,gJ,gK,gL,gM,gN,gO,gP,gQ,gR,gS,gT,gU,gV] M K = (idxA Ax0 lx0 1 x4).bind fun a_1 => (M.intAt .u8 a_1.block a_1.off).bind fun x_2 => (binV Try.prog .shr 5 3 (.int .u8 x_2) (.int .i64 x5)).bind fun v_3 => (asI .u8 v_3).bind fun x_4 => (appendP Try.prog #[81, 81] (.slice Ax3 lx3 cx3) (.slice (some ⟨2 * M.nb.size, 0, none⟩) 1 1) (M.new (.cells #[.int .i64 ((IntKind.i64.wrap (x_4)).tmod 2)] 3))).bind fun r_5 => (asS r_5.1).bind fun s_6 => K #[.slice Ax0 lx0 cx0,g1,g2,.slice s_6.1 (s_6.2.1) (s_6.2.2),.int .i64 x4,.int .i64 x5,g6,g7,g8,g9,gA,gB,gC,gD,gE,gF,gG,gH,gI,gJ,.slice Ax3 lx3 cx3,.slice Ax0 lx0 cx0,.int .i64 x4,.pointer (some a_1),.int .u8 x_2,.int .i64 x5,.int .u8 x_4,.int .i64 (IntKind.i64.wrap (x_4)),.int .i64 ((IntKind.i64.wrap (x_4)).tmod 2),.slice (some ⟨2 * M.nb.size, 0, none⟩) 1 1,.slice s_6.1 (s_6.2.1) (s_6.2.2),gV] r_5.2 := by kernel_rfl
theorem k63_33 : P63 [1,1,0,1,0,0,1,0,0,1,0,0,1,1] = .region 7 (O63 [1,1,0,1,0,0,1,0,0,1,0,0,1,1]) false := by kernel_rfl
theorem r63_7 {x5 : Int} {M : Mem} {call : CallM} {K : Array Value → Mem → R} :
    opsK Try.prog (fun _ => call) (O63 [1,1,0,1,0,0,1,0,0,1,0,0,1,1]) (O63 [1,1,0,1,0,0,1,0,0,1,0,0,1,1]).toList 0 #[g0,g1,g2,g3,g4,.int .i64 x5,g6,g7,g8,g9,gA,gB,gC,gD,gE,gF,gG,gH,gI,gJ,gK,gL,gM,gN,gO,gP,gQ,gR,gS,gT,gU,gV] M K = K #[g0,g1,g2,g3,g4,.int .i64 (IntKind.i64.wrap (x5 - 1)),g6,g7,g8,g9,gA,gB,gC,gD,gE,gF,gG,gH,.int .i64 x5,.int .i64 (IntKind.i64.wrap (x5 - 1)),gK,gL,gM,gN,gO,gP,gQ,gR,gS,gT,gU,gV] M := by kernel_rfl
theorem k63_34 : P63 [1,1,0,1,0,0,1,0,0,1,0,0,0,1,1] = .exit 2 := by kernel_rfl
theorem k63_35 : P63 [1,1,0,1,0,0,1,1] = .region 4 (O63 [1,1,0,1,0,0,1,1]) false := by kernel_rfl
theorem r63_4 {x4 : Int} {M : Mem} {call : CallM} {K : Array Value → Mem → R} :
    opsK Try.prog (fun _ => call) (O63 [1,1,0,1,0,0,1,1]) (O63 [1,1,0,1,0,0,1,1]).toList 0 #[g0,g1,g2,g3,.int .i64 x4,g5,g6,g7,g8,g9,gA,gB,gC,gD,gE,gF,gG,gH,gI,gJ,gK,gL,gM,gN,gO,gP,gQ,gR,gS,gT,gU,gV] M K = K #[g0,g1,g2,g3,.int .i64 (IntKind.i64.wrap (x4 + 1)),g5,g6,g7,g8,g9,gA,gB,gC,gD,.int .i64 x4,.int .i64 (IntKind.i64.wrap (x4 + 1)),gG,gH,gI,gJ,gK,gL,gM,gN,gO,gP,gQ,gR,gS,gT,gU,gV] M := by kernel_rfl
noncomputable def S63_1 : List Item := [.code (P63 [1,1,0,1,0,0]), .inLoop (P63 [1,1,0,1,0,0]), .inBlock 0, .code (P63 [1,1,1])]
def A63_1 (Ax0 : Option Addr) (lx0 cx0 : Nat) (Ax3 : Option Addr) (lx3 cx3 : Nat) (x4 : Int) (M : Mem) (Q : Value → Mem → Prop) : Prop := ∀ (g1 g2 g5 g6 g7 g8 g9 gA gB gC gD gE gF gG gH gI gJ gK gL gM gN gO gP gQ gR gS gT gU gV : Value), Rn Try.prog Try.f63 S63_1 #[.slice Ax0 lx0 cx0, g1, g2, .slice Ax3 lx3 cx3, .int .i64 x4, g5, g6, g7, g8, g9, gA, gB, gC, gD, gE, gF, gG, gH, gI, gJ, gK, gL, gM, gN, gO, gP, gQ, gR, gS, gT, gU, gV] M Q
noncomputable def S63_2 : List Item := [.code (P63 [1,1,0,1,0,0,1,0,0,1,0,0]), .inLoop (P63 [1,1,0,1,0,0,1,0,0,1,0,0]), .inBlock 2, .inBlock 1, .code (P63 [1,1,0,1,0,0,1,1]), .inLoop (P63 [1,1,0,1,0,0]), .inBlock 0, .code (P63 [1,1,1])]
def A63_2 (Ax0 : Option Addr) (lx0 cx0 : Nat) (Ax3 : Option Addr) (lx3 cx3 : Nat) (x4 x5 : Int) (M : Mem) (Q : Value → Mem → Prop) : Prop := ∀ (g1 g2 g6 g7 g8 g9 gA gB gC gD gE gF gG gH gI gJ gK gL gM gN gO gP gQ gR gS gT gU gV : Value), Rn Try.prog Try.f63 S63_2 #[.slice Ax0 lx0 cx0, g1, g2, .slice Ax3 lx3 cx3, .int .i64 x4, .int .i64 x5, g6, g7, g8, g9, gA, gB, gC, gD, gE, gF, gG, gH, gI, gJ, gK, gL, gM, gN, gO, gP, gQ, gR, gS, gT, gU, gV] M Q
theorem w63_0 {Ax0 : Option Addr} {lx0 cx0 : Nat} {M : Mem} {Q : Value → Mem → Prop} (H :
    ∃ r1', makeP Try.prog 81 (.int .i64 0) (.int .i64 (IntKind.i64.wrap (8 * ((lx0 : Int))))) M = some r1' ∧
    ∃ s2', asS r1'.1 = some s2' ∧
    A63_1 Ax0 lx0 cx0 s2'.1 s2'.2.1 s2'.2.2 0 r1'.2 Q) :
    Cn Try.prog 63 #[.slice Ax0 lx0 cx0] M Q := by
  refine Cn.of b63 d63 t63 ?_
  refine Rn.seq k63_0 (Rn.region k63_1 (fun call K => r63_0) (Rch.leaf (Rn.seq k63_2 (Rn.region k63_3 (fun call K => r63_1) (Rch.ex H fun r1' H => Rch.ex H fun s2' H => Rch.leaf (Rn.seq k63_4 (Rn.seq k63_5 (Rn.region k63_6 (fun call K => r63_2) (Rch.leaf ?_)))))))))
  refine Rn.block k63_7 (Rn.loop k63_8 ?_)
  exact H _ _ _ _ _ _ _ _ _ _ _ _ _ _ _ _ _ _ _ _ _ _ _ _ _ _ _ _ _

theorem w63_1 {Ax0 : Option Addr} {lx0 cx0 : Nat} {Ax3 : Option Addr} {lx3 cx3 : Nat} {x4 : Int} {M : Mem} {Q : Value → Mem → Prop} (H :
    ((x4 < ((lx0 : Int)) →
     A63_2 Ax0 lx0 cx0 Ax3 lx3 cx3 x4 7 M Q) ∧
     (¬ (x4 < ((lx0 : Int))) →
     Q (.slice Ax3 lx3 cx3) M))) :
    A63_1 Ax0 lx0 cx0 Ax3 lx3 cx3 x4 M Q := by
  intro g1 g2 g5 g6 g7 g8 g9 gA gB gC gD gE gF gG gH gI gJ gK gL gM gN gO gP gQ gR gS gT gU gV
  refine Rn.seq k63_9 (Rn.seq k63_10 (Rn.region k63_11 (fun call K => r63_3) (Rch.leaf ?_)))
  refine Rn.cnd (v := decide (x4 < ((lx0 : Int)))) ⟨c63_12, rfl, by kernel_rfl⟩ (fun h => ?_) (fun h => ?_)
  · replace H := H.1 (of_decide_eq_true h)
    refine Rn.skip k63_13 (Rn.seq k63_14 (Rn.block k63_15 (Rn.seq k63_16 (Rn.region k63_17 (fun call K => r63_5) (Rch.leaf (Rn.block k63_18 (Rn.loop k63_19 ?_)))))))
    exact H _ _ _ _ _ _ _ _ _ _ _ _ _ _ _ _ _ _ _ _ _ _ _ _ _ _ _ _
  · replace H := H.2 (of_decide_eq_false h)
    refine Rn.exit k63_20 rfl (Rn.seq k63_21 (Rn.region k63_22 (fun call K => r63_9) (Rch.leaf ?_)))
    exact Rn.ret k63_23 e63 H

theorem w63_2 {Ax0 : Option Addr} {lx0 cx0 : Nat} {Ax3 : Option Addr} {lx3 cx3 : Nat} {x4 x5 : Int} {M : Mem} {Q : Value → Mem → Prop} (H :
    ((x5 ≥ 0 →
     ∃ a3', idxA Ax0 lx0 1 x4 = some a3' ∧
     ∃ x4', M.intAt .u8 a3'.block a3'.off = some x4' ∧
     ∃ v5', binV Try.prog .shr 5 3 (.int .u8 x4') (.int .i64 x5) = some v5' ∧
     ∃ x6', asI .u8 v5' = some x6' ∧
     ∃ r7', appendP Try.prog #[81, 81] (.slice Ax3 lx3 cx3) (.slice (some ⟨2 * M.nb.size, 0, none⟩) 1 1) (M.new (.cells #[.int .i64 ((IntKind.i64.wrap (x6')).tmod 2)] 3)) = some r7' ∧
     ∃ s8', asS r7'.1 = some s8' ∧
     A63_2 Ax0 lx0 cx0 s8'.1 s8'.2.1 s8'.2.2 x4 (IntKind.i64.wrap (x5 - 1)) r7'.2 Q) ∧
     (¬ (x5 ≥ 0) →
     A63_1 Ax0 lx0 cx0 Ax3 lx3 cx3 (IntKind.i64.wrap (x4 + 1)) M Q))) :
    A63_2 Ax0 lx0 cx0 Ax3 lx3 cx3 x4 x5 M Q := by
  intro g1 g2 g6 g7 g8 g9 gA gB gC gD gE gF gG gH gI gJ gK gL gM gN gO gP gQ gR gS gT gU gV
  refine Rn.seq k63_25 (Rn.seq k63_26 (Rn.region k63_27 (fun call K => r63_6) (Rch.leaf ?_)))
  refine Rn.cnd (v := decide (x5 ≥ 0)) ⟨c63_28, rfl, by kernel_rfl⟩ (fun h => ?_) (fun h => ?_)
  · replace H := H.1 (of_decide_eq_true h)
    refine Rn.skip k63_29 (Rn.seq k63_30 (Rn.block k63_31 (Rn.region k63_32 (fun call K => r63_8) (Rch.ex H fun a3' H => Rch.ex H fun x4' H => Rch.ex H fun v5' H => Rch.ex H fun x6' H => Rch.ex H fun r7' H => Rch.ex H fun s8' H => Rch.leaf (Rn.blk ?_)))))
    refine Rn.region k63_33 (fun call K => r63_7) (Rch.leaf (Rn.lp ?_))
    exact H _ _ _ _ _ _ _ _ _ _ _ _ _ _ _ _ _ _ _ _ _ _ _ _ _ _ _ _
  · replace H := H.2 (of_decide_eq_false h)
    refine Rn.exit k63_34 rfl (Rn.blk (Rn.region k63_35 (fun call K => r63_4) (Rch.leaf (Rn.lp ?_))))
    exact H _ _ _ _ _ _ _ _ _ _ _ _ _ _ _ _ _ _ _ _ _ _ _ _ _ _ _ _ _


/-! ### (*zoetrope/zoetroperef01.Reader).number: function 67 -/
noncomputable abbrev P67 (p : List Nat) : Code := subC (codeOf Try.f67) p
noncomputable abbrev O67 (p : List Nat) : Array Oper := opsOf (subC (codeOf Try.f67) p)
theorem b67 : Try.prog.funcs[67]? = some Try.f67 ∧ (Orc.tab Try.prog).lookup 67 = none := ⟨by kernel_rfl, by kernel_rfl⟩
theorem d67 : Try.f67.body = some (P67 []) := by kernel_rfl
theorem t67 {x0 : Option Addr} {x1 x2 : Int} : #[.pointer x0,.int .i64 x1,.int .i64 x2] ++ Array.replicate (Try.f67.ntmps - (#[.pointer x0,.int .i64 x1,.int .i64 x2] : Array Value).size) undef = #[.pointer x0,.int .i64 x1,.int .i64 x2,undef,undef,undef,undef,undef,undef,undef,undef,undef,undef,undef,undef,undef,undef,undef,undef,undef,undef,undef,undef,undef,undef,undef,undef,undef] := by kernel_rfl
theorem k67_0 : P67 [] = .seq (P67 [0]) (P67 [1]) := by kernel_rfl
theorem k67_1 : P67 [0] = .region 0 (O67 [0]) false := by kernel_rfl
theorem r67_0 {M : Mem} {call : CallM} {K : Array Value → Mem → R} :
    opsK Try.prog (fun _ => call) (O67 [0]) (O67 [0]).toList 0 #[g0,g1,g2,g3,g4,g5,g6,g7,g8,g9,gA,gB,gC,gD,gE,gF,gG,gH,gI,gJ,gK,gL,gM,gN,gO,gP,gQ,gR] M K = K #[g0,g1,g2,g3,g4,g5,.int .u64 0,g7,g8,g9,gA,gB,gC,gD,gE,gF,gG,gH,gI,gJ,gK,gL,gM,gN,gO,gP,gQ,gR] M := by kernel_rfl
theorem k67_2 : P67 [1] = .seq (P67 [1,0]) (P67 [1,1]) := by kernel_rfl
theorem k67_3 : P67 [1,0] = .region 1 (O67 [1,0]) false := by kernel_rfl
theorem r67_1 {M : Mem} {call : CallM} {K : Array Value → Mem → R} :
    opsK Try.prog (fun _ => call) (O67 [1,0]) (O67 [1,0]).toList 0 #[g0,g1,g2,g3,g4,g5,g6,g7,g8,g9,gA,gB,gC,gD,gE,gF,gG,gH,gI,gJ,gK,gL,gM,gN,gO,gP,gQ,gR] M K = K #[g0,g1,g2,g3,g4,g5,g6,.int .u64 0,g8,g9,gA,gB,gC,gD,gE,gF,gG,gH,gI,gJ,gK,gL,gM,gN,gO,gP,gQ,gR] M := by kernel_rfl
theorem k67_4 : P67 [1,1] = .seq (P67 [1,1,0]) (P67 [1,1,1]) := by kernel_rfl
theorem k67_5 : P67 [1,1,0] = .seq (P67 [1,1,0,0]) (P67 [1,1,0,1]) := by kernel_rfl
theorem k67_6 : P67 [1,1,0,0] = .region 2 (O67 [1,1,0,0]) false := by kernel_rfl
theorem r67_2 {M : Mem} {call : CallM} {K : Array Value → Mem → R} :
    opsK Try.prog (fun _ => call) (O67 [1,1,0,0]) (O67 [1,1,0,0]).toList 0 #[g0,g1,g2,g3,g4,g5,g6,g7,g8,g9,gA,gB,gC,gD,gE,gF,gG,gH,gI,gJ,gK,gL,gM,gN,gO,gP,gQ,gR] M K = K #[g0,g1,g2,g3,g4,g5,g6,g7,.int .i64 0,g9,gA,gB,gC,gD,gE,gF,gG,gH,gI,gJ,gK,gL,gM,gN,gO,gP,gQ,gR] M := by kernel_rfl
theorem k67_7 : P67 [1,1,0,1] = .block 0 (P67 [1,1,0,1,0]) := by kernel_rfl
theorem k67_8 : P67 [1,1,0,1,0] = .loop (P67 [1,1,0,1,0,0]) := by kernel_rfl
theorem k67_9 : P67 [1,1,0,1,0,0] = .seq (P67 [1,1,0,1,0,0,0]) (P67 [1,1,0,1,0,0,1]) := by kernel_rfl
theorem k67_10 : P67 [1,1,0,1,0,0,0] = .seq (P67 [1,1,0,1,0,0,0,0]) (P67 [1,1,0,1,0,0,0,1]) := by kernel_rfl
theorem k67_11 : P67 [1,1,0,1,0,0,0,0] = .region 3 (O67 [1,1,0,1,0,0,0,0]) false := by kernel_rfl
theorem r67_3 {x2 x8 : Int} {M : Mem} {call : CallM} {K : Array Value → Mem → R} :
    opsK Try.prog (fun _ => call) (O67 [1,1,0,1,0,0,0,0]) (O67 [1,1,0,1,0,0,0,0]).toList 0 #[g0,g1,.int .i64 x2,g3,g4,g5,g6,g7,.int .i64 x8,g9,gA,gB,gC,gD,gE,gF,gG,gH,gI,gJ,gK,gL,gM,gN,gO,gP,gQ,gR] M K = K #[g0,g1,.int .i64 x2,g3,g4,g5,g6,g7,.int .i64 x8,.int .i64 x8,.int .i64 x2,.bool (decide (x8 < x2)),gC,gD,gE,gF,gG,gH,gI,gJ,gK,gL,gM,gN,gO,gP,gQ,gR] M := by kernel_rfl
theorem c67_12 : P67 [1,1,0,1,0,0,0,1] = .cond (.tmp 11) (P67 [1,1,0,1,0,0,0,1,0]) (P67 [1,1,0,1,0,0,0,1,1]) := by kernel_rfl
theorem k67_13 : P67 [1,1,0,1,0,0,0,1,0] = .skip := by kernel_rfl
theorem k67_14 : P67 [1,1,0,1,0,0,1] = .seq (P67 [1,1,0,1,0,0,1,0]) (P67 [1,1,0,1,0,0,1,1]) := by kernel_rfl
theorem k67_15 : P67 [1,1,0,1,0,0,1,0] = .block 1 (P67 [1,1,0,1,0,0,1,0,0]) := by kernel_rfl
theorem k67_16 : P67 [1,1,0,1,0,0,1,0,0] = .region 5 (O67 [1,1,0,1,0,0,1,0,0]) false := by kernel_rfl
theorem r67_5 {x0 : Option Addr} {x1 x7 x8 : Int} {M : Mem} {call : CallM} {K : Array Value → Mem → R} :
    opsK Try.prog (fun _ => call) (O67 [1,1,0,1,0,0,1,0,0]) (O67 [1,1,0,1,0,0,1,0,0]).toList 0 #[.pointer x0,.int .i64 x1,g2,g3,g4,g5,g6,.int .u64 x7,.int .i64 x8,g9,gA,gB,gC,gD,gE,gF,gG,gH,gI,gJ,gK,gL,gM,gN,gO,gP,gQ,gR] M K = (x0).bind fun a_1 => (M.slAt a_1.block a_1.off).bind fun s_2 => (idxA s_2.1 (s_2.2.1) 1 (IntKind.i64.wrap (x1 + x8))).bind fun a_3 => (M.intAt .i64 a_3.block a_3.off).bind fun x_4 => K #[.pointer x0,.int .i64 x1,g2,g3,g4,g5,g6,.int .u64 (IntKind.u64.wrap ((IntKind.u64.wrap (x7 * 2)) + (IntKind.u64.wrap (x_4)))),.int .i64 x8,g9,gA,gB,gC,gD,.int .u64 x7,.int .u64 (IntKind.u64.wrap (x7 * 2)),.pointer x0,.pointer (some a_1),.pointer (some ⟨a_1.block, a_1.off, none⟩),.slice s_2.1 (s_2.2.1) (s_2.2.2),.int .i64 x1,.int .i64 x8,.int .i64 (IntKind.i64.wrap (x1 + x8)),.pointer (some a_3),.int .i64 x_4,.int .u64 (IntKind.u64.wrap (x_4)),.int .u64 (IntKind.u64.wrap ((IntKind.u64.wrap (x7 * 2)) + (IntKind.u64.wrap (x_4)))),gR] M := by kernel_rfl
theorem k67_17 : P67 [1,1,0,1,0,0,1,1] = .region 4 (O67 [1,1,0,1,0,0,1,1]) false := by kernel_rfl
theorem r67_4 {x8 : Int} {M : Mem} {call : CallM} {K : Array Value → Mem → R} :
    opsK Try.prog (fun _ => call) (O67 [1,1,0,1,0,0,1,1]) (O67 [1,1,0,1,0,0,1,1]).toList 0 #[g0,g1,g2,g3,g4,g5,g6,g7,.int .i64 x8,g9,gA,gB,gC,gD,gE,gF,gG,gH,gI,gJ,gK,gL,gM,gN,gO,gP,gQ,gR] M K = K #[g0,g1,g2,g3,g4,g5,g6,g7,.int .i64 (IntKind.i64.wrap (x8 + 1)),g9,gA,gB,.int .i64 x8,.int .i64 (IntKind.i64.wrap (x8 + 1)),gE,gF,gG,gH,gI,gJ,gK,gL,gM,gN,gO,gP,gQ,gR] M := by kernel_rfl
theorem k67_18 : P67 [1,1,0,1,0,0,0,1,1] = .exit 0 := by kernel_rfl
theorem k67_19 : P67 [1,1,1] = .seq (P67 [1,1,1,0]) (P67 [1,1,1,1]) := by kernel_rfl
theorem k67_20 : P67 [1,1,1,0] = .region 6 (O67 [1,1,1,0]) false := by kernel_rfl
theorem r67_6 {x7 : Int} {M : Mem} {call : CallM} {K : Array Value → Mem → R} :
    opsK Try.prog (fun _ => call) (O67 [1,1,1,0]) (O67 [1,1,1,0]).toList 0 #[g0,g1,g2,g3,g4,g5,g6,.int .u64 x7,g8,g9,gA,gB,gC,gD,gE,gF,gG,gH,gI,gJ,gK,gL,gM,gN,gO,gP,gQ,gR] M K = K #[g0,g1,g2,g3,g4,g5,.int .u64 x7,.int .u64 x7,g8,g9,gA,gB,gC,gD,gE,gF,gG,gH,gI,gJ,gK,gL,gM,gN,gO,gP,gQ,.int .u64 x7] M := by kernel_rfl
theorem k67_21 : P67 [1,1,1,1] = .ret := by kernel_rfl
theorem e67 {M : Mem} : finish Try.prog Try.f67 #[g0,g1,g2,g3,g4,g5,g6,g7,g8,g9,gA,gB,gC,gD,gE,gF,gG,gH,gI,gJ,gK,gL,gM,gN,gO,gP,gQ,gR] M = some (g6, M) := by kernel_rfl
noncomputable def S67_1 : List Item := [.code (P67 [1,1,0,1,0,0]), .inLoop (P67 [1,1,0,1,0,0]), .inBlock 0, .code (P67 [1,1,1])]
def A67_1 (x0 : Option Addr) (x1 x2 x7 x8 : Int) (M : Mem) (Q : Value → Mem → Prop) : Prop := ∀ (g3 g4 g5 g6 g9 gA gB gC gD gE gF gG gH gI gJ gK gL gM gN gO gP gQ gR : Value), Rn Try.prog Try.f67 S67_1 #[.pointer x0, .int .i64 x1, .int .i64 x2, g3, g4, g5, g6, .int .u64 x7, .int .i64 x8, g9, gA, gB, gC, gD, gE, gF, gG, gH, gI, gJ, gK, gL, gM, gN, gO, gP, gQ, gR] M Q
theorem w67_0 {x0 : Option Addr} {x1 x2 : Int} {M : Mem} {Q : Value → Mem → Prop} (H :
    A67_1 x0 x1 x2 0 0 M Q) :
    Cn Try.prog 67 #[.pointer x0, .int .i64 x1, .int .i64 x2] M Q := by
  refine Cn.of b67 d67 t67 ?_
  refine Rn.seq k67_0 (Rn.region k67_1 (fun call K => r67_0) (Rch.leaf (Rn.seq k67_2 (Rn.region k67_3 (fun call K => r67_1) (Rch.leaf (Rn.seq k67_4 (Rn.seq k67_5 (Rn.region k67_6 (fun call K => r67_2) (Rch.leaf (Rn.block k67_7 (Rn.loop k67_8 ?_)))))))))))
  exact H _ _ _ _ _ _ _ _ _ _ _ _ _ _ _ _ _ _ _ _ _ _ _

theorem w67_1 {x0 : Option Addr} {x1 x2 x7 x8 : Int} {M : Mem} {Q : Value → Mem → Prop} (H :
    ((x8 < x2 →
     ∃ a1', x0 = some a1' ∧
     ∃ s2', M.slAt a1'.block a1'.off = some s2' ∧
     ∃ a3', idxA s2'.1 (s2'.2.1) 1 (IntKind.i64.wrap (x1 + x8)) = some a3' ∧
     ∃ x4', M.intAt .i64 a3'.block a3'.off = some x4' ∧
     A67_1 x0 x1 x2 (IntKind.u64.wrap ((IntKind.u64.wrap (x7 * 2)) + (IntKind.u64.wrap (x4')))) (IntKind.i64.wrap (x8 + 1)) M Q) ∧
     (¬ (x8 < x2) →
     Q (.int .u64 x7) M))) :
    A67_1 x0 x1 x2 x7 x8 M Q := by
  intro g3 g4 g5 g6 g9 gA gB gC gD gE gF gG gH gI gJ gK gL gM gN gO gP gQ gR
  refine Rn.seq k67_9 (Rn.seq k67_10 (Rn.region k67_11 (fun call K => r67_3) (Rch.leaf ?_)))
  refine Rn.cnd (v := decide (x8 < x2)) ⟨c67_12, rfl, by kernel_rfl⟩ (fun h => ?_) (fun h => ?_)
  · replace H := H.1 (of_decide_eq_true h)
    refine Rn.skip k67_13 (Rn.seq k67_14 (Rn.block k67_15 (Rn.region k67_16 (fun call K => r67_5) (Rch.ex H fun a1' H => Rch.ex H fun s2' H => Rch.ex H fun a3' H => Rch.ex H fun x4' H => Rch.leaf (Rn.blk (Rn.region k67_17 (fun call K => r67_4) (Rch.leaf ?_)))))))
    refine Rn.lp ?_
    exact H _ _ _ _ _ _ _ _ _ _ _ _ _ _ _ _ _ _ _ _ _ _ _
  · replace H := H.2 (of_decide_eq_false h)
    refine Rn.exit k67_18 rfl (Rn.seq k67_19 (Rn.region k67_20 (fun call K => r67_6) (Rch.leaf ?_)))
    exact Rn.ret k67_21 e67 H


/-! ### (*zoetrope/zoetroperef01.Reader).Left: function 38 -/
noncomputable abbrev P38 (p : List Nat) : Code := subC (codeOf Try.f38) p
noncomputable abbrev O38 (p : List Nat) : Array Oper := opsOf (subC (codeOf Try.f38) p)
theorem b38 : Try.prog.funcs[38]? = some Try.f38 ∧ (Orc.tab Try.prog).lookup 38 = none := ⟨by kernel_rfl, by kernel_rfl⟩
theorem d38 : Try.f38.body = some (P38 []) := by kernel_rfl
theorem t38 {x0 : Option Addr} : #[.pointer x0] ++ Array.replicate (Try.f38.ntmps - (#[.pointer x0] : Array Value).size) undef = #[.pointer x0,undef,undef,undef,undef,undef,undef,undef,undef,undef,undef,undef,undef] := by kernel_rfl
theorem k38_0 : P38 [] = .seq (P38 [0]) (P38 [1]) := by kernel_rfl
theorem k38_1 : P38 [0] = .region 0 (O38 [0]) false := by kernel_rfl
theorem r38_0 {M : Mem} {call : CallM} {K : Array Value → Mem → R} :
    opsK Try.prog (fun _ => call) (O38 [0]) (O38 [0]).toList 0 #[g0,g1,g2,g3,g4,g5,g6,g7,g8,g9,gA,gB,gC] M K = K #[g0,g1,.int .i64 0,g3,g4,g5,g6,g7,g8,g9,gA,gB,gC] M := by kernel_rfl
theorem k38_2 : P38 [1] = .seq (P38 [1,0]) (P38 [1,1]) := by kernel_rfl
theorem k38_3 : P38 [1,0] = .region 1 (O38 [1,0]) true ∧ drawOk (O38 [1,0]) = true := ⟨by kernel_rfl, by kernel_rfl⟩
theorem r38_1 {x0 : Option Addr} {M : Mem} {call : CallM} {K : Array Value → Mem → R} :
    opsI Try.prog (callAt call (O38 [1,0])) (O38 [1,0]) (ordOf (O38 [1,0])) [] #[.pointer x0,g1,g2,g3,g4,g5,g6,g7,g8,g9,gA,gB,gC] M K = (x0).bind fun a_1 => (M.slAt a_1.block a_1.off).bind fun s_2 => (x0).bind fun a_3 => (M.intAt .i64 a_3.block (a_3.off + 1)).bind fun x_4 => K #[.pointer x0,g1,.int .i64 (IntKind.i64.wrap (((s_2.2.1 : Int)) - x_4)),.pointer x0,.pointer (some a_1),.pointer (some ⟨a_1.block, a_1.off, none⟩),.slice s_2.1 (s_2.2.1) (s_2.2.2),.int .i64 ((s_2.2.1 : Int)),.pointer x0,.pointer (some a_3),.pointer (some ⟨a_3.block, a_3.off + 1, none⟩),.int .i64 x_4,.int .i64 (IntKind.i64.wrap (((s_2.2.1 : Int)) - x_4))] M := by kernel_rfl
theorem k38_4 : P38 [1,1] = .ret := by kernel_rfl
theorem e38 {M : Mem} : finish Try.prog Try.f38 #[g0,g1,g2,g3,g4,g5,g6,g7,g8,g9,gA,gB,gC] M = some (g2, M) := by kernel_rfl
theorem w38_0 {x0 : Option Addr} {M : Mem} {Q : Value → Mem → Prop} (H :
    ∃ a1', x0 = some a1' ∧
    ∃ s2', M.slAt a1'.block a1'.off = some s2' ∧
    ∃ a3', x0 = some a3' ∧
    ∃ x4', M.intAt .i64 a3'.block (a3'.off + 1) = some x4' ∧
    Q (.int .i64 (IntKind.i64.wrap (((s2'.2.1 : Int)) - x4'))) M) :
    Cn Try.prog 38 #[.pointer x0] M Q := by
  refine Cn.of b38 d38 t38 ?_
  refine Rn.seq k38_0 (Rn.region k38_1 (fun call K => r38_0) (Rch.leaf (Rn.seq k38_2 (Rn.regionD k38_3 (fun call K => r38_1) (Rch.ex H fun a1' H => Rch.ex H fun s2' H => Rch.ex H fun a3' H => Rch.ex H fun x4' H => Rch.leaf ?_)))))
  exact Rn.ret k38_4 e38 H


/-! ### (*zoetrope/zoetroperef01.Reader).Fixed: function 34 -/
noncomputable abbrev P34 (p : List Nat) : Code := subC (codeOf Try.f34) p
noncomputable abbrev O34 (p : List Nat) : Array Oper := opsOf (subC (codeOf Try.f34) p)
theorem b34 : Try.prog.funcs[34]? = some Try.f34 ∧ (Orc.tab Try.prog).lookup 34 = none := ⟨by kernel_rfl, by kernel_rfl⟩
theorem d34 : Try.f34.body = some (P34 []) := by kernel_rfl
theorem t34 {x0 : Option Addr} {x1 : Int} : #[.pointer x0,.int .i64 x1] ++ Array.replicate (Try.f34.ntmps - (#[.pointer x0,.int .i64 x1] : Array Value).size) undef = #[.pointer x0,.int .i64 x1,undef,undef,undef,undef,undef,undef,undef,undef,undef,undef,undef,undef,undef,undef,undef,undef,undef,undef,undef,undef,undef,undef,undef,undef,undef,undef,undef,undef,undef,undef,undef,undef,undef] := by kernel_rfl
theorem k34_0 : P34 [] = .seq (P34 [0]) (P34 [1]) := by kernel_rfl
theorem k34_1 : P34 [0] = .region 0 (O34 [0]) false := by kernel_rfl
theorem r34_0 {M : Mem} {call : CallM} {K : Array Value → Mem → R} :
    opsK Try.prog (fun _ => call) (O34 [0]) (O34 [0]).toList 0 #[g0,g1,g2,g3,g4,g5,g6,g7,g8,g9,gA,gB,gC,gD,gE,gF,gG,gH,gI,gJ,gK,gL,gM,gN,gO,gP,gQ,gR,gS,gT,gU,gV,gW,gX,gY] M K = K #[g0,g1,g2,g3,.int .u32 0,.int .i64 0,g6,g7,g8,g9,gA,gB,gC,gD,gE,gF,gG,gH,gI,gJ,gK,gL,gM,gN,gO,gP,gQ,gR,gS,gT,gU,gV,gW,gX,gY] M := by kernel_rfl
theorem k34_2 : P34 [1] = .seq (P34 [1,0]) (P34 [1,1]) := by kernel_rfl
theorem k34_3 : P34 [1,0] = .seq (P34 [1,0,0]) (P34 [1,0,1]) := by kernel_rfl
theorem k34_4 : P34 [1,0,0] = .region 1 (O34 [1,0,0]) false := by kernel_rfl
theorem r34_1 {x1 : Int} {M : Mem} {call : CallM} {K : Array Value → Mem → R} :
    opsK Try.prog (fun _ => call) (O34 [1,0,0]) (O34 [1,0,0]).toList 0 #[g0,.int .i64 x1,g2,g3,g4,g5,g6,g7,g8,g9,gA,gB,gC,gD,gE,gF,gG,gH,gI,gJ,gK,gL,gM,gN,gO,gP,gQ,gR,gS,gT,gU,gV,gW,gX,gY] M K = withK (fun w9 w10 w11 w12 M => K #[g0,.int .i64 x1,g2,g3,g4,g5,g6,.int .i64 x1,.bool (decide (x1 < 0)),w9,w10,w11,w12,gD,gE,gF,gG,gH,gI,gJ,gK,gL,gM,gN,gO,gP,gQ,gR,gS,gT,gU,gV,gW,gX,gY] M) fun k => cond (decide (x1 < 0)) (k (.bool true) undef undef (.bool true) M) (k (.bool false) (.int .i64 x1) (.bool (decide (x1 > 32))) (.bool (decide (x1 > 32))) M) := by kernel_rfl
theorem c34_5 : P34 [1,0,1] = .cond (.tmp 12) (P34 [1,0,1,0]) (P34 [1,0,1,1]) := by kernel_rfl
theorem k34_6 : P34 [1,0,1,0] = .seq (P34 [1,0,1,0,0]) (P34 [1,0,1,0,1]) := by kernel_rfl
theorem k34_7 : P34 [1,0,1,0,0] = .region 2 (O34 [1,0,1,0,0]) false := by kernel_rfl
theorem r34_2 {M : Mem} {call : CallM} {K : Array Value → Mem → R} :
    opsK Try.prog (fun _ => call) (O34 [1,0,1,0,0]) (O34 [1,0,1,0,0]).toList 0 #[g0,g1,g2,g3,g4,g5,g6,g7,g8,g9,gA,gB,gC,gD,gE,gF,gG,gH,gI,gJ,gK,gL,gM,gN,gO,gP,gQ,gR,gS,gT,gU,gV,gW,gX,gY] M K = K #[g0,g1,g2,g3,.int .u32 0,.int .i64 2,g6,g7,g8,g9,gA,gB,gC,gD,gE,gF,gG,gH,gI,gJ,gK,gL,gM,gN,gO,gP,gQ,gR,gS,gT,gU,gV,gW,gX,gY] M := by kernel_rfl
theorem k34_8 : P34 [1,0,1,0,1] = .ret := by kernel_rfl
theorem e34 {M : Mem} : finish Try.prog Try.f34 #[g0,g1,g2,g3,g4,g5,g6,g7,g8,g9,gA,gB,gC,gD,gE,gF,gG,gH,gI,gJ,gK,gL,gM,gN,gO,gP,gQ,gR,gS,gT,gU,gV,gW,gX,gY] M = some (.tuple #[g4, g5], M) := by kernel_rfl
theorem k34_10 : P34 [1,0,1,1] = .skip := by kernel_rfl
theorem k34_11 : P34 [1,1] = .seq (P34 [1,1,0]) (P34 [1,1,1]) := by kernel_rfl
theorem k34_12 : P34 [1,1,0] = .seq (P34 [1,1,0,0]) (P34 [1,1,0,1]) := by kernel_rfl
theorem k34_13 : P34 [1,1,0,0] = .region 3 (O34 [1,1,0,0]) false := by kernel_rfl
theorem r34_3 {x0 : Option Addr} {x1 : Int} {M : Mem} {call : CallM} {K : Array Value → Mem → R} :
    opsK Try.prog (fun _ => call) (O34 [1,1,0,0]) (O34 [1,1,0,0]).toList 0 #[.pointer x0,.int .i64 x1,g2,g3,g4,g5,g6,g7,g8,g9,gA,gB,gC,gD,gE,gF,gG,gH,gI,gJ,gK,gL,gM,gN,gO,gP,gQ,gR,gS,gT,gU,gV,gW,gX,gY] M K = (call 38 #[.pointer x0] M).bind fun r_1 => (asI .i64 r_1.1).bind fun x_2 => K #[.pointer x0,.int .i64 x1,g2,g3,g4,g5,g6,g7,g8,g9,gA,gB,gC,.int .i64 x1,.pointer x0,.int .i64 x_2,.bool (decide (x1 > x_2)),gH,gI,gJ,gK,gL,gM,gN,gO,gP,gQ,gR,gS,gT,gU,gV,gW,gX,gY] r_1.2 := by kernel_rfl
theorem c34_14 : P34 [1,1,0,1] = .cond (.tmp 16) (P34 [1,1,0,1,0]) (P34 [1,1,0,1,1]) := by kernel_rfl
theorem k34_15 : P34 [1,1,0,1,0] = .seq (P34 [1,1,0,1,0,0]) (P34 [1,1,0,1,0,1]) := by kernel_rfl
theorem k34_16 : P34 [1,1,0,1,0,0] = .region 4 (O34 [1,1,0,1,0,0]) false := by kernel_rfl
theorem r34_4 {M : Mem} {call : CallM} {K : Array Value → Mem → R} :
    opsK Try.prog (fun _ => call) (O34 [1,1,0,1,0,0]) (O34 [1,1,0,1,0,0]).toList 0 #[g0,g1,g2,g3,g4,g5,g6,g7,g8,g9,gA,gB,gC,gD,gE,gF,gG,gH,gI,gJ,gK,gL,gM,gN,gO,gP,gQ,gR,gS,gT,gU,gV,gW,gX,gY] M K = K #[g0,g1,g2,g3,.int .u32 0,.int .i64 3,g6,g7,g8,g9,gA,gB,gC,gD,gE,gF,gG,gH,gI,gJ,gK,gL,gM,gN,gO,gP,gQ,gR,gS,gT,gU,gV,gW,gX,gY] M := by kernel_rfl
theorem k34_17 : P34 [1,1,0,1,0,1] = .ret := by kernel_rfl
theorem k34_18 : P34 [1,1,0,1,1] = .skip := by kernel_rfl
theorem k34_19 : P34 [1,1,1] = .seq (P34 [1,1,1,0]) (P34 [1,1,1,1]) := by kernel_rfl
theorem k34_20 : P34 [1,1,1,0] = .region 5 (O34 [1,1,1,0]) false := by kernel_rfl
theorem r34_5 {x0 : Option Addr} {x1 : Int} {M : Mem} {call : CallM} {K : Array Value → Mem → R} :
    opsK Try.prog (fun _ => call) (O34 [1,1,1,0]) (O34 [1,1,1,0]).toList 0 #[.pointer x0,.int .i64 x1,g2,g3,g4,g5,g6,g7,g8,g9,gA,gB,gC,gD,gE,gF,gG,gH,gI,gJ,gK,gL,gM,gN,gO,gP,gQ,gR,gS,gT,gU,gV,gW,gX,gY] M K = (x0).bind fun a_1 => (M.intAt .i64 a_1.block (a_1.off + 1)).bind fun x_2 => (call 67 #[.pointer x0, .int .i64 x_2, .int .i64 x1] M).bind fun r_3 => (asI .u64 r_3.1).bind fun x_4 => K #[.pointer x0,.int .i64 x1,g2,g3,g4,g5,.int .u64 x_4,g7,g8,g9,gA,gB,gC,gD,gE,gF,gG,.pointer x0,.pointer x0,.pointer (some a_1),.pointer (some ⟨a_1.block, a_1.off + 1, none⟩),.int .i64 x_2,.int .i64 x1,.int .u64 x_4,gO,gP,gQ,gR,gS,gT,gU,gV,gW,gX,gY] r_3.2 := by kernel_rfl
theorem k34_21 : P34 [1,1,1,1] = .seq (P34 [1,1,1,1,0]) (P34 [1,1,1,1,1]) := by kernel_rfl
theorem k34_22 : P34 [1,1,1,1,0] = .region 6 (O34 [1,1,1,1,0]) false := by kernel_rfl
theorem r34_6 {x0 : Option Addr} {x1 : Int} {M : Mem} {call : CallM} {K : Array Value → Mem → R} :
    opsK Try.prog (fun _ => call) (O34 [1,1,1,1,0]) (O34 [1,1,1,1,0]).toList 0 #[.pointer x0,.int .i64 x1,g2,g3,g4,g5,g6,g7,g8,g9,gA,gB,gC,gD,gE,gF,gG,gH,gI,gJ,gK,gL,gM,gN,gO,gP,gQ,gR,gS,gT,gU,gV,gW,gX,gY] M K = (x0).bind fun a_1 => (M.intAt .i64 a_1.block (a_1.off + 1)).bind fun x_2 => (x0).bind fun a_3 => (M.put a_3.block (a_3.off + 1) (.int .i64 (IntKind.i64.wrap (x_2 + x1)))).bind fun M_4 => K #[.pointer x0,.int .i64 x1,g2,g3,g4,g5,g6,g7,g8,g9,gA,gB,gC,gD,gE,gF,gG,gH,gI,gJ,gK,gL,gM,gN,.pointer x0,.pointer x0,.pointer (some a_1),.pointer (some ⟨a_1.block, a_1.off + 1, none⟩),.int .i64 x_2,.int .i64 x1,.int .i64 (IntKind.i64.wrap (x_2 + x1)),.pointer (some a_3),.pointer (some ⟨a_3.block, a_3.off + 1, none⟩),gX,gY] M_4 := by kernel_rfl
theorem k34_23 : P34 [1,1,1,1,1] = .seq (P34 [1,1,1,1,1,0]) (P34 [1,1,1,1,1,1]) := by kernel_rfl
theorem k34_24 : P34 [1,1,1,1,1,0] = .region 7 (O34 [1,1,1,1,1,0]) false := by kernel_rfl
theorem r34_7 {x6 : Int} {M : Mem} {call : CallM} {K : Array Value → Mem → R} :
    opsK Try.prog (fun _ => call) (O34 [1,1,1,1,1,0]) (O34 [1,1,1,1,1,0]).toList 0 #[g0,g1,g2,g3,g4,g5,.int .u64 x6,g7,g8,g9,gA,gB,gC,gD,gE,gF,gG,gH,gI,gJ,gK,gL,gM,gN,gO,gP,gQ,gR,gS,gT,gU,gV,gW,gX,gY] M K = K #[g0,g1,g2,g3,.int .u32 (IntKind.u32.wrap (x6)),.int .i64 0,.int .u64 x6,g7,g8,g9,gA,gB,gC,gD,gE,gF,gG,gH,gI,gJ,gK,gL,gM,gN,gO,gP,gQ,gR,gS,gT,gU,gV,gW,.int .u64 x6,.int .u32 (IntKind.u32.wrap (x6))] M := by kernel_rfl
theorem k34_25 : P34 [1,1,1,1,1,1] = .ret := by kernel_rfl
noncomputable def S34_1 : List Item := [.code (P34 [1,0,1]), .code (P34 [1,1])]
def A34_1 (x0 : Option Addr) (x1 : Int) (x12 : Bool) (M : Mem) (Q : Value → Mem → Prop) : Prop := ∀ (g2 g3 g4 g5 g6 g7 g8 g9 gA gB gD gE gF gG gH gI gJ gK gL gM gN gO gP gQ gR gS gT gU gV gW gX gY : Value), Rn Try.prog Try.f34 S34_1 #[.pointer x0, .int .i64 x1, g2, g3, g4, g5, g6, g7, g8, g9, gA, gB, .bool x12, gD, gE, gF, gG, gH, gI, gJ, gK, gL, gM, gN, gO, gP, gQ, gR, gS, gT, gU, gV, gW, gX, gY] M Q
theorem w34_0 {x0 : Option Addr} {x1 : Int} {M : Mem} {Q : Value → Mem → Prop} (H :
    ((x1 < 0 →
     A34_1 x0 x1 true M Q) ∧
     (¬ (x1 < 0) →
     A34_1 x0 x1 (decide (x1 > 32)) M Q))) :
    Cn Try.prog 34 #[.pointer x0, .int .i64 x1] M Q := by
  refine Cn.of b34 d34 t34 ?_
  refine Rn.seq k34_0 (Rn.region k34_1 (fun call K => r34_0) (Rch.leaf (Rn.seq k34_2 (Rn.seq k34_3 (Rn.region k34_4 (fun call K => r34_1) ?_)))))
  refine Rch.cB (fun h => ?_) (fun h => ?_)
  · replace H := H.1 (of_decide_eq_true h)
    refine Rch.leaf ?_
    exact H _ _ _ _ _ _ _ _ _ _ _ _ _ _ _ _ _ _ _ _ _ _ _ _ _ _ _ _ _ _ _ _
  · replace H := H.2 (of_decide_eq_false h)
    refine Rch.leaf ?_
    exact H _ _ _ _ _ _ _ _ _ _ _ _ _ _ _ _ _ _ _ _ _ _ _ _ _ _ _ _ _ _ _ _

theorem w34_1 {x0 : Option Addr} {x1 : Int} {x12 : Bool} {M : Mem} {Q : Value → Mem → Prop} (H :
    ((x12 = true →
     Q (.tuple #[.int .u32 0, .int .i64 2]) M) ∧
     (x12 = false →
     Cn Try.prog 38 #[.pointer x0] M fun v1' N1' =>
      ∃ x2', asI .i64 v1' = some x2' ∧
      ((x1 > x2' →
       Q (.tuple #[.int .u32 0, .int .i64 3]) N1') ∧
       (¬ (x1 > x2') →
       ∃ a3', x0 = some a3' ∧
       ∃ x4', N1'.intAt .i64 a3'.block (a3'.off + 1) = some x4' ∧
       Cn Try.prog 67 #[.pointer x0, .int .i64 x4', .int .i64 x1] N1' fun v5' N5' =>
        ∃ x6', asI .u64 v5' = some x6' ∧
        ∃ a7', x0 = some a7' ∧
        ∃ x8', N5'.intAt .i64 a7'.block (a7'.off + 1) = some x8' ∧
        ∃ a9', x0 = some a9' ∧
        ∃ M10', N5'.put a9'.block (a9'.off + 1) (.int .i64 (IntKind.i64.wrap (x8' + x1))) = some M10' ∧
        Q (.tuple #[.int .u32 (IntKind.u32.wrap (x6')), .int .i64 0]) M10'))))) :
    A34_1 x0 x1 x12 M Q := by
  intro g2 g3 g4 g5 g6 g7 g8 g9 gA gB gD gE gF gG gH gI gJ gK gL gM gN gO gP gQ gR gS gT gU gV gW gX gY
  refine Rn.cnd (v := x12) ⟨c34_5, rfl, by kernel_rfl⟩ (fun h => ?_) (fun h => ?_)
  · replace H := H.1 (h)
    refine Rn.seq k34_6 (Rn.region k34_7 (fun call K => r34_2) (Rch.leaf ?_))
    exact Rn.ret k34_8 e34 H
  · replace H := H.2 (h)
    refine Rn.skip k34_10 (Rn.seq k34_11 (Rn.seq k34_12 (Rn.region k34_13 (fun call K => r34_3) (Rch.call H fun v1' N1' H => Rch.ex H fun x2' H => Rch.leaf ?_))))
    refine Rn.cnd (v := decide (x1 > x2')) ⟨c34_14, rfl, by kernel_rfl⟩ (fun h => ?_) (fun h => ?_)
    · replace H := H.1 (of_decide_eq_true h)
      refine Rn.seq k34_15 (Rn.region k34_16 (fun call K => r34_4) (Rch.leaf ?_))
      exact Rn.ret k34_17 e34 H
    · replace H := H.2 (of_decide_eq_false h)
      refine Rn.skip k34_18 (Rn.seq k34_19 (Rn.region k34_20 (fun call K => r34_5) (Rch.ex H fun a3' H => Rch.ex H fun x4' H => Rch.call H fun v5' N5' H => Rch.ex H fun x6' H => Rch.leaf (Rn.seq k34_21 (Rn.region k34_22 (fun call K => r34_6) (Rch.ex H fun a7' H => Rch.ex H fun x8' H => ?_))))))
      refine Rch.ex H fun a9' H => Rch.ex H fun M10' H => Rch.leaf (Rn.seq k34_23 (Rn.region k34_24 (fun call K => r34_7) (Rch.leaf ?_)))
      exact Rn.ret k34_25 e34 H


/-! ### (*zoetrope/zoetroperef01.Reader).Signed: function 81 -/
noncomputable abbrev P81 (p : List Nat) : Code := subC (codeOf Try.f81) p
noncomputable abbrev O81 (p : List Nat) : Array Oper := opsOf (subC (codeOf Try.f81) p)
theorem b81 : Try.prog.funcs[81]? = some Try.f81 ∧ (Orc.tab Try.prog).lookup 81 = none := ⟨by kernel_rfl, by kernel_rfl⟩
theorem d81 : Try.f81.body = some (P81 []) := by kernel_rfl
theorem t81 {x0 : Option Addr} {x1 : Int} : #[.pointer x0,.int .i64 x1] ++ Array.replicate (Try.f81.ntmps - (#[.pointer x0,.int .i64 x1] : Array Value).size) undef = #[.pointer x0,.int .i64 x1,undef,undef,undef,undef,undef,undef,undef,undef,undef,undef,undef,undef,undef,undef,undef,undef,undef,undef,undef,undef,undef,undef,undef,undef,undef,undef,undef,undef,undef,undef,undef,undef,undef,undef,undef,undef,undef,undef,undef,undef,undef,undef,undef,undef,undef,undef,undef,undef,undef,undef,undef,undef] := by kernel_rfl
theorem k81_0 : P81 [] = .seq (P81 [0]) (P81 [1]) := by kernel_rfl
theorem k81_1 : P81 [0] = .region 0 (O81 [0]) false := by kernel_rfl
theorem r81_0 {M : Mem} {call : CallM} {K : Array Value → Mem → R} :
    opsK Try.prog (fun _ => call) (O81 [0]) (O81 [0]).toList 0 #[g0,g1,g2,g3,g4,g5,g6,g7,g8,g9,gA,gB,gC,gD,gE,gF,gG,gH,gI,gJ,gK,gL,gM,gN,gO,gP,gQ,gR,gS,gT,gU,gV,gW,gX,gY,gZ,hA,hB,hC,hD,hE,hF,hG,hH,hI,hJ,hK,hL,hM,hN,hO,hP,hQ,hR] M K = K #[g0,g1,g2,g3,.int .i32 0,.int .i64 0,g6,g7,g8,g9,gA,gB,gC,gD,gE,gF,gG,gH,gI,gJ,gK,gL,gM,gN,gO,gP,gQ,gR,gS,gT,gU,gV,gW,gX,gY,gZ,hA,hB,hC,hD,hE,hF,hG,hH,hI,hJ,hK,hL,hM,hN,hO,hP,hQ,hR] M := by kernel_rfl
theorem k81_2 : P81 [1] = .seq (P81 [1,0]) (P81 [1,1]) := by kernel_rfl
theorem k81_3 : P81 [1,0] = .seq (P81 [1,0,0]) (P81 [1,0,1]) := by kernel_rfl
theorem k81_4 : P81 [1,0,0] = .region 1 (O81 [1,0,0]) false := by kernel_rfl
theorem r81_1 {x1 : Int} {M : Mem} {call : CallM} {K : Array Value → Mem → R} :
    opsK Try.prog (fun _ => call) (O81 [1,0,0]) (O81 [1,0,0]).toList 0 #[g0,.int .i64 x1,g2,g3,g4,g5,g6,g7,g8,g9,gA,gB,gC,gD,gE,gF,gG,gH,gI,gJ,gK,gL,gM,gN,gO,gP,gQ,gR,gS,gT,gU,gV,gW,gX,gY,gZ,hA,hB,hC,hD,hE,hF,hG,hH,hI,hJ,hK,hL,hM,hN,hO,hP,hQ,hR] M K = withK (fun w9 w10 w11 w12 M => K #[g0,.int .i64 x1,g2,g3,g4,g5,g6,.int .i64 x1,.bool (decide (x1 < 1)),w9,w10,w11,w12,gD,gE,gF,gG,gH,gI,gJ,gK,gL,gM,gN,gO,gP,gQ,gR,gS,gT,gU,gV,gW,gX,gY,gZ,hA,hB,hC,hD,hE,hF,hG,hH,hI,hJ,hK,hL,hM,hN,hO,hP,hQ,hR] M) fun k => cond (decide (x1 < 1)) (k (.bool true) undef undef (.bool true) M) (k (.bool false) (.int .i64 x1) (.bool (decide (x1 > 31))) (.bool (decide (x1 > 31))) M) := by kernel_rfl
theorem c81_5 : P81 [1,0,1] = .cond (.tmp 12) (P81 [1,0,1,0]) (P81 [1,0,1,1]) := by kernel_rfl
theorem k81_6 : P81 [1,0,1,0] = .seq (P81 [1,0,1,0,0]) (P81 [1,0,1,0,1]) := by kernel_rfl
theorem k81_7 : P81 [1,0,1,0,0] = .region 2 (O81 [1,0,1,0,0]) false := by kernel_rfl
theorem r81_2 {M : Mem} {call : CallM} {K : Array Value → Mem → R} :
    opsK Try.prog (fun _ => call) (O81 [1,0,1,0,0]) (O81 [1,0,1,0,0]).toList 0 #[g0,g1,g2,g3,g4,g5,g6,g7,g8,g9,gA,gB,gC,gD,gE,gF,gG,gH,gI,gJ,gK,gL,gM,gN,gO,gP,gQ,gR,gS,gT,gU,gV,gW,gX,gY,gZ,hA,hB,hC,hD,hE,hF,hG,hH,hI,hJ,hK,hL,hM,hN,hO,hP,hQ,hR] M K = K #[g0,g1,g2,g3,.int .i32 0,.int .i64 2,g6,g7,g8,g9,gA,gB,gC,gD,gE,gF,gG,gH,gI,gJ,gK,gL,gM,gN,gO,gP,gQ,gR,gS,gT,gU,gV,gW,gX,gY,gZ,hA,hB,hC,hD,hE,hF,hG,hH,hI,hJ,hK,hL,hM,hN,hO,hP,hQ,hR] M := by kernel_rfl
theorem k81_8 : P81 [1,0,1,0,1] = .ret := by kernel_rfl
theorem e81 {M : Mem} : finish Try.prog Try.f81 #[g0,g1,g2,g3,g4,g5,g6,g7,g8,g9,gA,gB,gC,gD,gE,gF,gG,gH,gI,gJ,gK,gL,gM,gN,gO,gP,gQ,gR,gS,gT,gU,gV,gW,gX,gY,gZ,hA,hB,hC,hD,hE,hF,hG,hH,hI,hJ,hK,hL,hM,hN,hO,hP,hQ,hR] M = some (.tuple #[g4, g5], M) := by kernel_rfl
theorem k81_10 : P81 [1,0,1,1] = .skip := by kernel_rfl
theorem k81_11 : P81 [1,1] = .seq (P81 [1,1,0]) (P81 [1,1,1]) := by kernel_rfl
theorem k81_12 : P81 [1,1,0] = .seq (P81 [1,1,0,0]) (P81 [1,1,0,1]) := by kernel_rfl
theorem k81_13 : P81 [1,1,0,0] = .region 3 (O81 [1,1,0,0]) false := by kernel_rfl
theorem r81_3 {x0 : Option Addr} {x1 : Int} {M : Mem} {call : CallM} {K : Array Value → Mem → R} :
    opsK Try.prog (fun _ => call) (O81 [1,1,0,0]) (O81 [1,1,0,0]).toList 0 #[.pointer x0,.int .i64 x1,g2,g3,g4,g5,g6,g7,g8,g9,gA,gB,gC,gD,gE,gF,gG,gH,gI,gJ,gK,gL,gM,gN,gO,gP,gQ,gR,gS,gT,gU,gV,gW,gX,gY,gZ,hA,hB,hC,hD,hE,hF,hG,hH,hI,hJ,hK,hL,hM,hN,hO,hP,hQ,hR] M K = (call 38 #[.pointer x0] M).bind fun r_1 => (asI .i64 r_1.1).bind fun x_2 => K #[.pointer x0,.int .i64 x1,g2,g3,g4,g5,g6,g7,g8,g9,gA,gB,gC,.int .i64 x1,.int .i64 (IntKind.i64.wrap (x1 + 1)),.pointer x0,.int .i64 x_2,.bool (decide ((IntKind.i64.wrap (x1 + 1)) > x_2)),gI,gJ,gK,gL,gM,gN,gO,gP,gQ,gR,gS,gT,gU,gV,gW,gX,gY,gZ,hA,hB,hC,hD,hE,hF,hG,hH,hI,hJ,hK,hL,hM,hN,hO,hP,hQ,hR] r_1.2 := by kernel_rfl
theorem c81_14 : P81 [1,1,0,1] = .cond (.tmp 17) (P81 [1,1,0,1,0]) (P81 [1,1,0,1,1]) := by kernel_rfl
theorem k81_15 : P81 [1,1,0,1,0] = .seq (P81 [1,1,0,1,0,0]) (P81 [1,1,0,1,0,1]) := by kernel_rfl
theorem k81_16 : P81 [1,1,0,1,0,0] = .region 4 (O81 [1,1,0,1,0,0]) false := by kernel_rfl
theorem r81_4 {M : Mem} {call : CallM} {K : Array Value → Mem → R} :
    opsK Try.prog (fun _ => call) (O81 [1,1,0,1,0,0]) (O81 [1,1,0,1,0,0]).toList 0 #[g0,g1,g2,g3,g4,g5,g6,g7,g8,g9,gA,gB,gC,gD,gE,gF,gG,gH,gI,gJ,gK,gL,gM,gN,gO,gP,gQ,gR,gS,gT,gU,gV,gW,gX,gY,gZ,hA,hB,hC,hD,hE,hF,hG,hH,hI,hJ,hK,hL,hM,hN,hO,hP,hQ,hR] M K = K #[g0,g1,g2,g3,.int .i32 0,.int .i64 3,g6,g7,g8,g9,gA,gB,gC,gD,gE,gF,gG,gH,gI,gJ,gK,gL,gM,gN,gO,gP,gQ,gR,gS,gT,gU,gV,gW,gX,gY,gZ,hA,hB,hC,hD,hE,hF,hG,hH,hI,hJ,hK,hL,hM,hN,hO,hP,hQ,hR] M := by kernel_rfl
theorem k81_17 : P81 [1,1,0,1,0,1] = .ret := by kernel_rfl
theorem k81_18 : P81 [1,1,0,1,1] = .skip := by kernel_rfl
theorem k81_19 : P81 [1,1,1] = .seq (P81 [1,1,1,0]) (P81 [1,1,1,1]) := by kernel_rfl
theorem k81_20 : P81 [1,1,1,0] = .region 5 (O81 [1,1,1,0]) false := by kernel_rfl
theorem r81_5 {x0 : Option Addr} {x1 : Int} {M : Mem} {call : CallM} {K : Array Value → Mem → R} :
    opsK Try.prog (fun _ => call) (O81 [1,1,1,0]) (O81 [1,1,1,0]).toList 0 #[.pointer x0,.int .i64 x1,g2,g3,g4,g5,g6,g7,g8,g9,gA,gB,gC,gD,gE,gF,gG,gH,gI,gJ,gK,gL,gM,gN,gO,gP,gQ,gR,gS,gT,gU,gV,gW,gX,gY,gZ,hA,hB,hC,hD,hE,hF,hG,hH,hI,hJ,hK,hL,hM,hN,hO,hP,hQ,hR] M K = (x0).bind fun a_1 => (M.intAt .i64 a_1.block (a_1.off + 1)).bind fun x_2 => (call 67 #[.pointer x0, .int .i64 (IntKind.i64.wrap (x_2 + 1)), .int .i64 x1] M).bind fun r_3 => (asI .u64 r_3.1).bind fun x_4 => K #[.pointer x0,.int .i64 x1,g2,g3,g4,g5,.int .i64 (IntKind.i64.wrap (x_4)),g7,g8,g9,gA,gB,gC,gD,gE,gF,gG,gH,.pointer x0,.pointer x0,.pointer (some a_1),.pointer (some ⟨a_1.block, a_1.off + 1, none⟩),.int .i64 x_2,.int .i64 (IntKind.i64.wrap (x_2 + 1)),.int .i64 x1,.int .u64 x_4,.int .i64 (IntKind.i64.wrap (x_4)),gR,gS,gT,gU,gV,gW,gX,gY,gZ,hA,hB,hC,hD,hE,hF,hG,hH,hI,hJ,hK,hL,hM,hN,hO,hP,hQ,hR] r_3.2 := by kernel_rfl
theorem k81_21 : P81 [1,1,1,1] = .seq (P81 [1,1,1,1,0]) (P81 [1,1,1,1,1]) := by kernel_rfl
theorem k81_22 : P81 [1,1,1,1,0] = .seq (P81 [1,1,1,1,0,0]) (P81 [1,1,1,1,0,1]) := by kernel_rfl
theorem k81_23 : P81 [1,1,1,1,0,0] = .region 6 (O81 [1,1,1,1,0,0]) true ∧ drawOk (O81 [1,1,1,1,0,0]) = true := ⟨by kernel_rfl, by kernel_rfl⟩
theorem r81_6 {x0 : Option Addr} {M : Mem} {call : CallM} {K : Array Value → Mem → R} :
    opsI Try.prog (callAt call (O81 [1,1,1,1,0,0])) (O81 [1,1,1,1,0,0]) (ordOf (O81 [1,1,1,1,0,0])) [] #[.pointer x0,g1,g2,g3,g4,g5,g6,g7,g8,g9,gA,gB,gC,gD,gE,gF,gG,gH,gI,gJ,gK,gL,gM,gN,gO,gP,gQ,gR,gS,gT,gU,gV,gW,gX,gY,gZ,hA,hB,hC,hD,hE,hF,hG,hH,hI,hJ,hK,hL,hM,hN,hO,hP,hQ,hR] M K = (x0).bind fun a_1 => (M.slAt a_1.block a_1.off).bind fun s_2 => (x0).bind fun a_3 => (M.intAt .i64 a_3.block (a_3.off + 1)).bind fun x_4 => (idxA s_2.1 (s_2.2.1) 1 x_4).bind fun a_5 => (M.intAt .i64 a_5.block a_5.off).bind fun x_6 => K #[.pointer x0,g1,g2,g3,g4,g5,g6,g7,g8,g9,gA,gB,gC,gD,gE,gF,gG,gH,gI,gJ,gK,gL,gM,gN,gO,gP,gQ,.pointer x0,.pointer (some a_1),.pointer (some ⟨a_1.block, a_1.off, none⟩),.slice s_2.1 (s_2.2.1) (s_2.2.2),.pointer x0,.pointer (some a_3),.pointer (some ⟨a_3.block, a_3.off + 1, none⟩),.int .i64 x_4,.pointer (some a_5),.int .i64 x_6,.bool (x_6 == 1),hC,hD,hE,hF,hG,hH,hI,hJ,hK,hL,hM,hN,hO,hP,hQ,hR] M := by kernel_rfl
theorem c81_24 : P81 [1,1,1,1,0,1] = .cond (.tmp 37) (P81 [1,1,1,1,0,1,0]) (P81 [1,1,1,1,0,1,1]) := by kernel_rfl
theorem k81_25 : P81 [1,1,1,1,0,1,0] = .seq (P81 [1,1,1,1,0,1,0,0]) (P81 [1,1,1,1,0,1,0,1]) := by kernel_rfl
theorem k81_26 : P81 [1,1,1,1,0,1,0,0] = .seq (P81 [1,1,1,1,0,1,0,0,0]) (P81 [1,1,1,1,0,1,0,0,1]) := by kernel_rfl
theorem k81_27 : P81 [1,1,1,1,0,1,0,0,0] = .region 7 (O81 [1,1,1,1,0,1,0,0,0]) false := by kernel_rfl
theorem r81_7 {x6 : Int} {M : Mem} {call : CallM} {K : Array Value → Mem → R} :
    opsK Try.prog (fun _ => call) (O81 [1,1,1,1,0,1,0,0,0]) (O81 [1,1,1,1,0,1,0,0,0]).toList 0 #[g0,g1,g2,g3,g4,g5,.int .i64 x6,g7,g8,g9,gA,gB,gC,gD,gE,gF,gG,gH,gI,gJ,gK,gL,gM,gN,gO,gP,gQ,gR,gS,gT,gU,gV,gW,gX,gY,gZ,hA,hB,hC,hD,hE,hF,hG,hH,hI,hJ,hK,hL,hM,hN,hO,hP,hQ,hR] M K = K #[g0,g1,g2,g3,g4,g5,.int .i64 x6,g7,g8,g9,gA,gB,gC,gD,gE,gF,gG,gH,gI,gJ,gK,gL,gM,gN,gO,gP,gQ,gR,gS,gT,gU,gV,gW,gX,gY,gZ,hA,hB,.int .i64 x6,.bool (x6 == 0),hE,hF,hG,hH,hI,hJ,hK,hL,hM,hN,hO,hP,hQ,hR] M := by kernel_rfl
theorem c81_28 : P81 [1,1,1,1,0,1,0,0,1] = .cond (.tmp 39) (P81 [1,1,1,1,0,1,0,0,1,0]) (P81 [1,1,1,1,0,1,0,0,1,1]) := by kernel_rfl
theorem k81_29 : P81 [1,1,1,1,0,1,0,0,1,0] = .seq (P81 [1,1,1,1,0,1,0,0,1,0,0]) (P81 [1,1,1,1,0,1,0,0,1,0,1]) := by kernel_rfl
theorem k81_30 : P81 [1,1,1,1,0,1,0,0,1,0,0] = .region 8 (O81 [1,1,1,1,0,1,0,0,1,0,0]) false := by kernel_rfl
theorem r81_8 {M : Mem} {call : CallM} {K : Array Value → Mem → R} :
    opsK Try.prog (fun _ => call) (O81 [1,1,1,1,0,1,0,0,1,0,0]) (O81 [1,1,1,1,0,1,0,0,1,0,0]).toList 0 #[g0,g1,g2,g3,g4,g5,g6,g7,g8,g9,gA,gB,gC,gD,gE,gF,gG,gH,gI,gJ,gK,gL,gM,gN,gO,gP,gQ,gR,gS,gT,gU,gV,gW,gX,gY,gZ,hA,hB,hC,hD,hE,hF,hG,hH,hI,hJ,hK,hL,hM,hN,hO,hP,hQ,hR] M K = K #[g0,g1,g2,g3,.int .i32 0,.int .i64 4,g6,g7,g8,g9,gA,gB,gC,gD,gE,gF,gG,gH,gI,gJ,gK,gL,gM,gN,gO,gP,gQ,gR,gS,gT,gU,gV,gW,gX,gY,gZ,hA,hB,hC,hD,hE,hF,hG,hH,hI,hJ,hK,hL,hM,hN,hO,hP,hQ,hR] M := by kernel_rfl
theorem k81_31 : P81 [1,1,1,1,0,1,0,0,1,0,1] = .ret := by kernel_rfl
theorem k81_32 : P81 [1,1,1,1,0,1,0,0,1,1] = .skip := by kernel_rfl
theorem k81_33 : P81 [1,1,1,1,0,1,0,1] = .region 9 (O81 [1,1,1,1,0,1,0,1]) false := by kernel_rfl
theorem r81_9 {x6 : Int} {M : Mem} {call : CallM} {K : Array Value → Mem → R} :
    opsK Try.prog (fun _ => call) (O81 [1,1,1,1,0,1,0,1]) (O81 [1,1,1,1,0,1,0,1]).toList 0 #[g0,g1,g2,g3,g4,g5,.int .i64 x6,g7,g8,g9,gA,gB,gC,gD,gE,gF,gG,gH,gI,gJ,gK,gL,gM,gN,gO,gP,gQ,gR,gS,gT,gU,gV,gW,gX,gY,gZ,hA,hB,hC,hD,hE,hF,hG,hH,hI,hJ,hK,hL,hM,hN,hO,hP,hQ,hR] M K = K #[g0,g1,g2,g3,g4,g5,.int .i64 (IntKind.i64.wrap (0 - x6)),g7,g8,g9,gA,gB,gC,gD,gE,gF,gG,gH,gI,gJ,gK,gL,gM,gN,gO,gP,gQ,gR,gS,gT,gU,gV,gW,gX,gY,gZ,hA,hB,hC,hD,.int .i64 x6,.int .i64 (IntKind.i64.wrap (0 - x6)),hG,hH,hI,hJ,hK,hL,hM,hN,hO,hP,hQ,hR] M := by kernel_rfl
theorem k81_34 : P81 [1,1,1,1,1] = .seq (P81 [1,1,1,1,1,0]) (P81 [1,1,1,1,1,1]) := by kernel_rfl
theorem k81_35 : P81 [1,1,1,1,1,0] = .region 10 (O81 [1,1,1,1,1,0]) false := by kernel_rfl
theorem r81_10 {x0 : Option Addr} {x1 : Int} {M : Mem} {call : CallM} {K : Array Value → Mem → R} :
    opsK Try.prog (fun _ => call) (O81 [1,1,1,1,1,0]) (O81 [1,1,1,1,1,0]).toList 0 #[.pointer x0,.int .i64 x1,g2,g3,g4,g5,g6,g7,g8,g9,gA,gB,gC,gD,gE,gF,gG,gH,gI,gJ,gK,gL,gM,gN,gO,gP,gQ,gR,gS,gT,gU,gV,gW,gX,gY,gZ,hA,hB,hC,hD,hE,hF,hG,hH,hI,hJ,hK,hL,hM,hN,hO,hP,hQ,hR] M K = (x0).bind fun a_1 => (M.intAt .i64 a_1.block (a_1.off + 1)).bind fun x_2 => (x0).bind fun a_3 => (M.put a_3.block (a_3.off + 1) (.int .i64 (IntKind.i64.wrap ((IntKind.i64.wrap (x_2 + x1)) + 1)))).bind fun M_4 => K #[.pointer x0,.int .i64 x1,g2,g3,g4,g5,g6,g7,g8,g9,gA,gB,gC,gD,gE,gF,gG,gH,gI,gJ,gK,gL,gM,gN,gO,gP,gQ,gR,gS,gT,gU,gV,gW,gX,gY,gZ,hA,hB,hC,hD,hE,hF,.pointer x0,.pointer x0,.pointer (some a_1),.pointer (some ⟨a_1.block, a_1.off + 1, none⟩),.int .i64 x_2,.int .i64 x1,.int .i64 (IntKind.i64.wrap (x_2 + x1)),.int .i64 (IntKind.i64.wrap ((IntKind.i64.wrap (x_2 + x1)) + 1)),.pointer (some a_3),.pointer (some ⟨a_3.block, a_3.off + 1, none⟩),hQ,hR] M_4 := by kernel_rfl
theorem k81_36 : P81 [1,1,1,1,1,1] = .seq (P81 [1,1,1,1,1,1,0]) (P81 [1,1,1,1,1,1,1]) := by kernel_rfl
theorem k81_37 : P81 [1,1,1,1,1,1,0] = .region 11 (O81 [1,1,1,1,1,1,0]) false := by kernel_rfl
theorem r81_11 {x6 : Int} {M : Mem} {call : CallM} {K : Array Value → Mem → R} :
    opsK Try.prog (fun _ => call) (O81 [1,1,1,1,1,1,0]) (O81 [1,1,1,1,1,1,0]).toList 0 #[g0,g1,g2,g3,g4,g5,.int .i64 x6,g7,g8,g9,gA,gB,gC,gD,gE,gF,gG,gH,gI,gJ,gK,gL,gM,gN,gO,gP,gQ,gR,gS,gT,gU,gV,gW,gX,gY,gZ,hA,hB,hC,hD,hE,hF,hG,hH,hI,hJ,hK,hL,hM,hN,hO,hP,hQ,hR] M K = K #[g0,g1,g2,g3,.int .i32 (IntKind.i32.wrap (x6)),.int .i64 0,.int .i64 x6,g7,g8,g9,gA,gB,gC,gD,gE,gF,gG,gH,gI,gJ,gK,gL,gM,gN,gO,gP,gQ,gR,gS,gT,gU,gV,gW,gX,gY,gZ,hA,hB,hC,hD,hE,hF,hG,hH,hI,hJ,hK,hL,hM,hN,hO,hP,.int .i64 x6,.int .i32 (IntKind.i32.wrap (x6))] M := by kernel_rfl
theorem k81_38 : P81 [1,1,1,1,1,1,1] = .ret := by kernel_rfl
theorem k81_39 : P81 [1,1,1,1,0,1,1] = .skip := by kernel_rfl
noncomputable def S81_1 : List Item := [.code (P81 [1,0,1]), .code (P81 [1,1])]
def A81_1 (x0 : Option Addr) (x1 : Int) (x12 : Bool) (M : Mem) (Q : Value → Mem → Prop) : Prop := ∀ (g2 g3 g4 g5 g6 g7 g8 g9 gA gB gD gE gF gG gH gI gJ gK gL gM gN gO gP gQ gR gS gT gU gV gW gX gY gZ hA hB hC hD hE hF hG hH hI hJ hK hL hM hN hO hP hQ hR : Value), Rn Try.prog Try.f81 S81_1 #[.pointer x0, .int .i64 x1, g2, g3, g4, g5, g6, g7, g8, g9, gA, gB, .bool x12, gD, gE, gF, gG, gH, gI, gJ, gK, gL, gM, gN, gO, gP, gQ, gR, gS, gT, gU, gV, gW, gX, gY, gZ, hA, hB, hC, hD, hE, hF, hG, hH, hI, hJ, hK, hL, hM, hN, hO, hP, hQ, hR] M Q
theorem w81_0 {x0 : Option Addr} {x1 : Int} {M : Mem} {Q : Value → Mem → Prop} (H :
    ((x1 < 1 →
     A81_1 x0 x1 true M Q) ∧
     (¬ (x1 < 1) →
     A81_1 x0 x1 (decide (x1 > 31)) M Q))) :
    Cn Try.prog 81 #[.pointer x0, .int .i64 x1] M Q := by
  refine Cn.of b81 d81 t81 ?_
  refine Rn.seq k81_0 (Rn.region k81_1 (fun call K => r81_0) (Rch.leaf (Rn.seq k81_2 (Rn.seq k81_3 (Rn.region k81_4 (fun call K => r81_1) ?_)))))
  refine Rch.cB (fun h => ?_) (fun h => ?_)
  · replace H := H.1 (of_decide_eq_true h)
    refine Rch.leaf ?_
    exact H _ _ _ _ _ _ _ _ _ _ _ _ _ _ _ _ _ _ _ _ _ _ _ _ _ _ _ _ _ _ _ _ _ _ _ _ _ _ _ _ _ _ _ _ _ _ _ _ _ _ _
  · replace H := H.2 (of_decide_eq_false h)
    refine Rch.leaf ?_
    exact H _ _ _ _ _ _ _ _ _ _ _ _ _ _ _ _ _ _ _ _ _ _ _ _ _ _ _ _ _ _ _ _ _ _ _ _ _ _ _ _ _ _ _ _ _ _ _ _ _ _ _

theorem w81_1 {x0 : Option Addr} {x1 : Int} {x12 : Bool} {M : Mem} {Q : Value → Mem → Prop} (H :
    ((x12 = true →
     Q (.tuple #[.int .i32 0, .int .i64 2]) M) ∧
     (x12 = false →
     Cn Try.prog 38 #[.pointer x0] M fun v1' N1' =>
      ∃ x2', asI .i64 v1' = some x2' ∧
      (((IntKind.i64.wrap (x1 + 1)) > x2' →
       Q (.tuple #[.int .i32 0, .int .i64 3]) N1') ∧
       (¬ ((IntKind.i64.wrap (x1 + 1)) > x2') →
       ∃ a3', x0 = some a3' ∧
       ∃ x4', N1'.intAt .i64 a3'.block (a3'.off + 1) = some x4' ∧
       Cn Try.prog 67 #[.pointer x0, .int .i64 (IntKind.i64.wrap (x4' + 1)), .int .i64 x1] N1' fun v5' N5' =>
        ∃ x6', asI .u64 v5' = some x6' ∧
        ∃ a7', x0 = some a7' ∧
        ∃ s8', N5'.slAt a7'.block a7'.off = some s8' ∧
        ∃ a9', x0 = some a9' ∧
        ∃ x10', N5'.intAt .i64 a9'.block (a9'.off + 1) = some x10' ∧
        ∃ a11', idxA s8'.1 (s8'.2.1) 1 x10' = some a11' ∧
        ∃ x12', N5'.intAt .i64 a11'.block a11'.off = some x12' ∧
        ((x12' = 1 →
         (((IntKind.i64.wrap (x6')) = 0 →
          Q (.tuple #[.int .i32 0, .int .i64 4]) N5') ∧
          ((IntKind.i64.wrap (x6')) ≠ 0 →
          ∃ a13', x0 = some a13' ∧
          ∃ x14', N5'.intAt .i64 a13'.block (a13'.off + 1) = some x14' ∧
          ∃ a15', x0 = some a15' ∧
          ∃ M16', N5'.put a15'.block (a15'.off + 1) (.int .i64 (IntKind.i64.wrap ((IntKind.i64.wrap (x14' + x1)) + 1))) = some M16' ∧
          Q (.tuple #[.int .i32 (IntKind.i32.wrap ((IntKind.i64.wrap (0 - (IntKind.i64.wrap (x6')))))), .int .i64 0]) M16'))) ∧
         (x12' ≠ 1 →
         ∃ a17', x0 = some a17' ∧
         ∃ x18', N5'.intAt .i64 a17'.block (a17'.off + 1) = some x18' ∧
         ∃ a19', x0 = some a19' ∧
         ∃ M20', N5'.put a19'.block (a19'.off + 1) (.int .i64 (IntKind.i64.wrap ((IntKind.i64.wrap (x18' + x1)) + 1))) = some M20' ∧
         Q (.tuple #[.int .i32 (IntKind.i32.wrap ((IntKind.i64.wrap (x6')))), .int .i64 0]) M20'))))))) :
    A81_1 x0 x1 x12 M Q := by
  intro g2 g3 g4 g5 g6 g7 g8 g9 gA gB gD gE gF gG gH gI gJ gK gL gM gN gO gP gQ gR gS gT gU gV gW gX gY gZ hA hB hC hD hE hF hG hH hI hJ hK hL hM hN hO hP hQ hR
  refine Rn.cnd (v := x12) ⟨c81_5, rfl, by kernel_rfl⟩ (fun h => ?_) (fun h => ?_)
  · replace H := H.1 (h)
    refine Rn.seq k81_6 (Rn.region k81_7 (fun call K => r81_2) (Rch.leaf ?_))
    exact Rn.ret k81_8 e81 H
  · replace H := H.2 (h)
    refine Rn.skip k81_10 (Rn.seq k81_11 (Rn.seq k81_12 (Rn.region k81_13 (fun call K => r81_3) (Rch.call H fun v1' N1' H => Rch.ex H fun x2' H => Rch.leaf ?_))))
    refine Rn.cnd (v := decide ((IntKind.i64.wrap (x1 + 1)) > x2')) ⟨c81_14, rfl, by kernel_rfl⟩ (fun h => ?_) (fun h => ?_)
    · replace H := H.1 (of_decide_eq_true h)
      refine Rn.seq k81_15 (Rn.region k81_16 (fun call K => r81_4) (Rch.leaf ?_))
      exact Rn.ret k81_17 e81 H
    · replace H := H.2 (of_decide_eq_false h)
      refine Rn.skip k81_18 (Rn.seq k81_19 (Rn.region k81_20 (fun call K => r81_5) (Rch.ex H fun a3' H => Rch.ex H fun x4' H => Rch.call H fun v5' N5' H => Rch.ex H fun x6' H => Rch.leaf (Rn.seq k81_21 (Rn.seq k81_22 (Rn.regionD k81_23 (fun call K => r81_6) (Rch.ex H fun a7' H => ?_)))))))
      refine Rch.ex H fun s8' H => Rch.ex H fun a9' H => Rch.ex H fun x10' H => Rch.ex H fun a11' H => Rch.ex H fun x12' H => Rch.leaf ?_
      refine Rn.cnd (v := x12' == 1) ⟨c81_24, rfl, by kernel_rfl⟩ (fun h => ?_) (fun h => ?_)
      · replace H := H.1 (eq_of_beq h)
        refine Rn.seq k81_25 (Rn.seq k81_26 (Rn.region k81_27 (fun call K => r81_7) (Rch.leaf ?_)))
        refine Rn.cnd (v := (IntKind.i64.wrap (x6')) == 0) ⟨c81_28, rfl, by kernel_rfl⟩ (fun h => ?_) (fun h => ?_)
        · replace H := H.1 (eq_of_beq h)
          refine Rn.seq k81_29 (Rn.region k81_30 (fun call K => r81_8) (Rch.leaf ?_))
          exact Rn.ret k81_31 e81 H
        · replace H := H.2 (ne_of_beq_false h)
          refine Rn.skip k81_32 (Rn.region k81_33 (fun call K => r81_9) (Rch.leaf (Rn.seq k81_34 (Rn.region k81_35 (fun call K => r81_10) (Rch.ex H fun a13' H => Rch.ex H fun x14' H => Rch.ex H fun a15' H => Rch.ex H fun M16' H => Rch.leaf (Rn.seq k81_36 (Rn.region k81_37 (fun call K => r81_11) ?_)))))))
          refine Rch.leaf ?_
          exact Rn.ret k81_38 e81 H
      · replace H := H.2 (ne_of_beq_false h)
        refine Rn.skip k81_39 (Rn.seq k81_34 (Rn.region k81_35 (fun call K => r81_10) (Rch.ex H fun a17' H => Rch.ex H fun x18' H => Rch.ex H fun a19' H => Rch.ex H fun M20' H => Rch.leaf (Rn.seq k81_36 (Rn.region k81_37 (fun call K => r81_11) (Rch.leaf ?_))))))
        exact Rn.ret k81_38 e81 H


/-! ### zoetrope/zoetroperef01.New: function 32 -/
noncomputable abbrev P32 (p : List Nat) : Code := subC (codeOf Try.f32) p
noncomputable abbrev O32 (p : List Nat) : Array Oper := opsOf (subC (codeOf Try.f32) p)
theorem b32 : Try.prog.funcs[32]? = some Try.f32 ∧ (Orc.tab Try.prog).lookup 32 = none := ⟨by kernel_rfl, by kernel_rfl⟩
theorem d32 : Try.f32.body = some (P32 []) := by kernel_rfl
theorem t32 {Ax0 : Option Addr} {lx0 cx0 : Nat} : #[.slice Ax0 lx0 cx0] ++ Array.replicate (Try.f32.ntmps - (#[.slice Ax0 lx0 cx0] : Array Value).size) undef = #[.slice Ax0 lx0 cx0,undef,undef,undef,undef,undef,undef] := by kernel_rfl
theorem k32_0 : P32 [] = .seq (P32 [0]) (P32 [1]) := by kernel_rfl
theorem k32_1 : P32 [0] = .region 0 (O32 [0]) false := by kernel_rfl
theorem r32_0 {M : Mem} {call : CallM} {K : Array Value → Mem → R} :
    opsK Try.prog (fun _ => call) (O32 [0]) (O32 [0]).toList 0 #[g0,g1,g2,g3,g4,g5,g6] M K = K #[g0,g1,.pointer none,g3,g4,g5,g6] M := by kernel_rfl
theorem k32_2 : P32 [1] = .seq (P32 [1,0]) (P32 [1,1]) := by kernel_rfl
theorem k32_3 : P32 [1,0] = .region 1 (O32 [1,0]) false := by kernel_rfl
theorem r32_1 {Ax0 : Option Addr} {lx0 cx0 : Nat} {M : Mem} {call : CallM} {K : Array Value → Mem → R} :
    opsK Try.prog (fun _ => call) (O32 [1,0]) (O32 [1,0]).toList 0 #[.slice Ax0 lx0 cx0,g1,g2,g3,g4,g5,g6] M K = (call 63 #[.slice Ax0 lx0 cx0] M).bind fun r_1 => (asS r_1.1).bind fun s_2 => K #[.slice Ax0 lx0 cx0,g1,.pointer (some ⟨2 * r_1.2.nb.size, 0, none⟩),.slice Ax0 lx0 cx0,.slice s_2.1 (s_2.2.1) (s_2.2.2),.agg #[.slice s_2.1 (s_2.2.1) (s_2.2.2), .int .i64 0],.pointer (some ⟨2 * r_1.2.nb.size, 0, none⟩)] (r_1.2.new (.cells #[.slice s_2.1 (s_2.2.1) (s_2.2.2), .int .i64 0] 104)) := by kernel_rfl
theorem k32_4 : P32 [1,1] = .ret := by kernel_rfl
theorem e32 {M : Mem} : finish Try.prog Try.f32 #[g0,g1,g2,g3,g4,g5,g6] M = some (g2, M) := by kernel_rfl
theorem w32_0 {Ax0 : Option Addr} {lx0 cx0 : Nat} {M : Mem} {Q : Value → Mem → Prop} (H :
    Cn Try.prog 63 #[.slice Ax0 lx0 cx0] M fun v1' N1' =>
     ∃ s2', asS v1' = some s2' ∧
     Q (.pointer (some ⟨2 * N1'.nb.size, 0, none⟩)) (N1'.new (.cells #[.slice s2'.1 (s2'.2.1) (s2'.2.2), .int .i64 0] 104))) :
    Cn Try.prog 32 #[.slice Ax0 lx0 cx0] M Q := by
  refine Cn.of b32 d32 t32 ?_
  refine Rn.seq k32_0 (Rn.region k32_1 (fun call K => r32_0) (Rch.leaf (Rn.seq k32_2 (Rn.region k32_3 (fun call K => r32_1) (Rch.call H fun v1' N1' H => Rch.ex H fun s2' H => Rch.leaf ?_)))))
  exact Rn.ret k32_4 e32 H


end Go.Zt


/- Layer 1: the document's readers. -/
set_option linter.unusedSimpArgs false
set_option linter.unusedVariables false
namespace Go.Zt
open Go Go.Sim Go.Proofs Go.RowKit

abbrev N64 (l : List Nat) : List Value := l.map fun x => Value.int .i64 (x : Nat)
theorem el3 : ElemS Try.prog 81 3 1 8 (.int .i64 0) := ⟨by kernel_rfl, by kernel_rfl, rfl, by decide, by decide⟩
theorem el3' : Elem Try.prog 81 3 8 (.int .i64 0) := ⟨by kernel_rfl, by kernel_rfl, rfl, by decide, by decide⟩
def bitsOf (b : List Nat) : List Nat := (List.range (8 * b.length)).map (bitOf b)
theorem bitsOf_at (b : List Nat) {i : Nat} (h : i < 8 * b.length) : (bitsOf b)[i]? = some (bitOf b i) := by simp [bitsOf, h]

structure RefR (S : Nat → Prop) (M : Mem) (j : Nat) (b : List Nat) (p : Nat) : Prop where
  out : ¬ S j
  len : b.length ≤ 4294967296
  pos : p ≤ 8 * b.length
  ex : ∃ A c, M.nb[j]? = some (.cells #[.slice A (8 * b.length) c, .int .i64 (p : Nat)] 104) ∧ Row M A (N64 (bitsOf b)) ∧ 8 * b.length ≤ c ∧ (A = none → c = 0) ∧ ∀ a, A = some a → a.block % 2 = 1 ∨ S (a.block / 2)
theorem RefR.chg {S T : Nat → Prop} {M M' : Mem} {j : Nat} {b : List Nat} {p : Nat} (h : RefR S M j b p) (k : Chg T M M') (hj : ¬ T j) (hS : ∀ i, S i → ¬ T i) : RefR S M' j b p := by
  obtain ⟨A, c, h1, h2, h3, h0, h4⟩ := h.ex
  exact ⟨h.out, h.len, h.pos, A, c, at_chg h1 k hj, h2.chg k fun a ha => (h4 a ha).imp id (hS _), h3, h0, h4⟩
theorem RefR.keep {S : Nat → Prop} {M M' : Mem} {j : Nat} {b : List Nat} {p : Nat} (h : RefR S M j b p) (k : Keep M M') : RefR S M' j b p := h.chg k (fun x => x) fun _ _ x => x
theorem RefR.set {S : Nat → Prop} {M : Mem} {j : Nat} {b : List Nat} {p : Nat} (h : RefR S M j b p) (hf : M.floor ≤ j) {p' : Nat} (hp : p' ≤ 8 * b.length) {z : Int} (hz : z = (p' : Int)) :
    ∃ M', M.put (2 * j) 1 (.int .i64 z) = some M' ∧ Chg (· = j) M M' ∧ M'.nb.size = M.nb.size ∧ RefR S M' j b p' := by
  subst hz
  obtain ⟨A, c, h1, h2, h3, h0, h4⟩ := h.ex
  have hC : Chg (· = j) M (M.upd j (.cells (#[.slice A (8 * b.length) c, .int .i64 (p : Nat)].setIfInBounds 1 (.int .i64 (p' : Nat))) 104)) := upd_chg rfl
  exact ⟨_, put_of h1 hf (by simp) rfl, hC, upd_size _, h.out, h.len, hp, A, c, upd_at (lt_of_at h1), h2.chg hC fun a ha => (h4 a ha).imp id fun hs e => h.out (e ▸ hs), h3, h0, h4⟩
/-- What a document's reader's call leaves. -/
def RfR (S : Nat → Prop) (M : Mem) (j : Nat) (b : List Nat) (u : Value) (p' : Nat) : Value → Mem → Prop := fun v N => v = u ∧ Chg (· = j) M N ∧ N.nb.size = M.nb.size ∧ RefR S N j b p'

section
variable {S : Nat → Prop} {M : Mem} {j : Nat} {b : List Nat} {p : Nat}
theorem RfR.same (h : RefR S M j b p) {u : Value} : RfR S M j b u p u M := ⟨rfl, .refl _, rfl, h⟩
theorem c38 (h : RefR S M j b p) : Cn Try.prog 38 #[PtrB j] M fun v N => v = .int .i64 ((8 * b.length - p : Nat) : Int) ∧ N = M := by
  obtain ⟨A, c, h1, h2, h3, h0, h4⟩ := h.ex
  have hl := h.len
  have hp := h.pos
  refine w38_0 ⟨_, rfl, _, sl_of h1 rfl, _, rfl, _, int_of h1 rfl, ?_, rfl⟩
  show Value.int .i64 (IntKind.i64.wrap (((8 * b.length : Nat) : Int) - (p : Int))) = _
  rw [i64w (by omega)]
  congr 1; omega
/-- A bit of the document's reader. -/
theorem RefR.bit (h : RefR S M j b p) {i : Nat} {z : Int} (hz : z = (i : Int)) (hi : i < 8 * b.length) :
    ∃ A c, M.slAt (2 * j) 0 = some (A, 8 * b.length, c) ∧ ∃ a, idxA A (8 * b.length) 1 z = some a ∧ M.intAt .i64 a.block a.off = some ((bitOf b i : Nat) : Int) := by
  obtain ⟨A, c, h1, h2, h3, h0, h4⟩ := h.ex
  obtain ⟨a, i1, i2⟩ := h2.int1 (n := 8 * b.length) (i := i) (z := z) (k := .i64) (x := (bitOf b i : Nat)) hz hi (by rw [List.getElem?_map, bitsOf_at b hi]; rfl)
  exact ⟨A, c, sl_of h1 rfl, a, i1, i2⟩
theorem RefR.at (h : RefR S M j b p) : M.intAt .i64 (2 * j) 1 = some ((p : Nat) : Int) := by
  obtain ⟨A, c, h1, h2, h3, h0, h4⟩ := h.ex
  exact int_of h1 rfl
theorem pow33 {n : Nat} (h : n ≤ 33) : 2 ^ n ≤ 8589934592 := Nat.pow_le_pow_right (n := 2) (by decide) h
theorem c67_loop (h : RefR S M j b p) {a n : Nat} (hn : n ≤ 33) (ha : a + n ≤ 8 * b.length) {Q : Value → Mem → Prop} (hQ : Q (.int .u64 (numb (bitOf b) a n : Nat)) M) :
    ∀ (k i : Nat), i + k = n → A67_1 (some ⟨2 * j, 0, none⟩) a n (numb (bitOf b) a i : Nat) i M Q
  | 0, i, hi => by
    refine w67_1 ⟨fun h => by omega, fun _ => ?_⟩
    obtain rfl : i = n := by omega
    exact hQ
  | k + 1, i, hi => by
    have hl := h.len
    obtain ⟨A, c, s1, x, i1, i2⟩ := h.bit (i := a + i) (z := IntKind.i64.wrap ((a : Int) + i)) (by rw [i64w (by omega)]; omega) (by omega)
    refine w67_1 ⟨fun _ => ⟨_, rfl, _, s1, _, i1, _, i2, ?_⟩, fun h => by omega⟩
    have h1 := numb_lt (bitOf_lt b) a i
    have h2 := bitOf_lt b (a + i)
    have h3 := pow33 (n := i) (by omega)
    rw [u64w (x := ((numb (bitOf b) a i : Nat) : Int) * 2) (by omega), u64w (x := ((bitOf b (a + i) : Nat) : Int)) (by omega), u64w (by omega), i64w (by omega), show ((i : Int) + 1) = ((i + 1 : Nat) : Int) by omega,
      show ((numb (bitOf b) a i : Nat) : Int) * 2 + ((bitOf b (a + i) : Nat) : Int) = ((numb (bitOf b) a (i + 1) : Nat) : Int) by simp only [numb]; omega]
    exact c67_loop h hn ha hQ k (i + 1) (by omega)
theorem c67 (h : RefR S M j b p) {a n : Nat} {z y : Int} (hz : z = (a : Int)) (hy : y = (n : Int)) (hn : n ≤ 33) (ha : a + n ≤ 8 * b.length) :
    Cn Try.prog 67 #[PtrB j, .int .i64 z, .int .i64 y] M fun v N => v = .int .u64 (numb (bitOf b) a n : Nat) ∧ N = M := by
  subst hz hy
  exact w67_0 (c67_loop h hn ha ⟨rfl, rfl⟩ n 0 (by omega))
theorem c34 (h : RefR S M j b p) (hf : M.floor ≤ j) (n : Int) :
    Cn Try.prog 34 #[PtrB j, .int .i64 n] M (RfR S M j b (.tuple #[.int .u32 ((rFixed b p n).1 : Nat), .int .i64 ((rFixed b p n).2.1 : Nat)]) (rFixed b p n).2.2) := by
  have hp := h.pos
  have hl := h.len
  by_cases h0 : n < 0 ∨ n > 32
  · have e : rFixed b p n = (0, 2, p) := by unfold rFixed; rw [if_pos h0]
    rw [e]
    have key : A34_1 (some ⟨2 * j, 0, none⟩) n true M (RfR S M j b (.tuple #[.int .u32 ((0 : Nat) : Int), .int .i64 ((2 : Nat) : Int)]) p) := w34_1 ⟨fun _ => .same h, fun h => (by cases h)⟩
    refine w34_0 ⟨fun _ => key, fun h1 => ?_⟩
    rw [decide_eq_true (show n > 32 by omega)]; exact key
  · refine w34_0 ⟨fun h => by omega, fun _ => ?_⟩
    rw [decide_eq_false (show ¬ n > 32 by omega)]
    refine w34_1 ⟨fun h => (by cases h), fun _ => Cn.eq (c38 h) ⟨_, rfl, fun h1 => ?_, fun h1 => ?_⟩⟩
    · have e : rFixed b p n = (0, 3, p) := by unfold rFixed; rw [if_neg h0, if_pos (by omega)]
      rw [e]; exact .same h
    · have e : rFixed b p n = (numb (bitOf b) p n.toNat, 0, p + n.toNat) := by unfold rFixed; rw [if_neg h0, if_neg (by omega)]
      rw [e]
      obtain ⟨M', m1, m2, m3, m4⟩ := h.set hf (p' := p + n.toNat) (z := IntKind.i64.wrap ((p : Int) + n)) (by omega) (by rw [i64w (by omega)]; omega)
      refine ⟨_, rfl, _, h.at, Cn.eq (c67 h (a := p) (n := n.toNat) rfl (by omega) (by omega) (by omega)) ⟨_, rfl, _, rfl, _, h.at, _, rfl, _, m1, ?_, m2, m3, m4⟩⟩
      have hlt := numb_lt (bitOf_lt b) p n.toNat
      have h32 := pow32 (n := n.toNat) (by omega)
      rw [u32w (by omega)]; rfl
theorem c81 (h : RefR S M j b p) (hf : M.floor ≤ j) (n : Int) :
    Cn Try.prog 81 #[PtrB j, .int .i64 n] M (RfR S M j b (.tuple #[.int .i32 (rSigned b p n).1, .int .i64 ((rSigned b p n).2.1 : Nat)]) (rSigned b p n).2.2) := by
  have hp := h.pos
  have hl := h.len
  by_cases h0 : n < 1 ∨ n > 31
  · have e : rSigned b p n = (0, 2, p) := by unfold rSigned; rw [if_pos h0]
    rw [e]
    have key : A81_1 (some ⟨2 * j, 0, none⟩) n true M (RfR S M j b (.tuple #[.int .i32 0, .int .i64 ((2 : Nat) : Int)]) p) := w81_1 ⟨fun _ => .same h, fun h => (by cases h)⟩
    refine w81_0 ⟨fun _ => key, fun h1 => ?_⟩
    rw [decide_eq_true (show n > 31 by omega)]; exact key
  · refine w81_0 ⟨fun h => by omega, fun _ => ?_⟩
    rw [decide_eq_false (show ¬ n > 31 by omega)]
    have e1 : IntKind.i64.wrap (n + 1) = n + 1 := i64w (by omega)
    refine w81_1 ⟨fun h => (by cases h), fun _ => Cn.eq (c38 h) ⟨_, rfl, fun h1 => ?_, fun h1 => ?_⟩⟩
    · rw [e1] at h1
      have e : rSigned b p n = (0, 3, p) := by unfold rSigned; rw [if_neg h0, if_pos (by omega)]
      rw [e]; exact .same h
    · rw [e1] at h1
      have hlt := numb_lt (bitOf_lt b) (p + 1) n.toNat
      have h31 := pow31 (n := n.toNat) (by omega)
      refine ⟨_, rfl, _, h.at, Cn.eq (c67 h (a := p + 1) (n := n.toNat) (by rw [i64w (by omega)]; omega) (by omega) (by omega) (by omega)) ⟨_, rfl, ?_⟩⟩
      have e2 : IntKind.i64.wrap ((numb (bitOf b) (p + 1) n.toNat : Nat) : Int) = (numb (bitOf b) (p + 1) n.toNat : Nat) := i64w (by omega)
      rw [e2]
      obtain ⟨A, c, s1, x, i1, i2⟩ := h.bit (i := p) rfl (by omega)
      obtain ⟨M', m1, m2, m3, m4⟩ := h.set hf (p' := p + (n.toNat + 1)) (z := IntKind.i64.wrap (IntKind.i64.wrap ((p : Int) + n) + 1)) (by omega) (by rw [i64w (x := (p : Int) + n) (by omega), i64w (by omega)]; omega)
      refine ⟨_, rfl, _, s1, _, rfl, _, h.at, _, i1, _, i2, fun h2 => ⟨fun h3 => ?_, fun h3 => ⟨_, rfl, _, h.at, _, rfl, _, m1, ?_⟩⟩, fun h2 => ⟨_, rfl, _, h.at, _, rfl, _, m1, ?_⟩⟩
      · have e : rSigned b p n = (0, 4, p) := by unfold rSigned; rw [if_neg h0, if_neg (by omega), if_pos (by omega), if_pos (by omega)]
        rw [e]; exact .same h
      · have e : rSigned b p n = (-((numb (bitOf b) (p + 1) n.toNat : Nat) : Int), 0, p + (n.toNat + 1)) := by unfold rSigned; rw [if_neg h0, if_neg (by omega), if_pos (by omega), if_neg (by omega)]
        rw [e, show (0 : Int) - ((numb (bitOf b) (p + 1) n.toNat : Nat) : Int) = -((numb (bitOf b) (p + 1) n.toNat : Nat) : Int) by omega, i64w (x := -((numb (bitOf b) (p + 1) n.toNat : Nat) : Int)) (by omega), i32w (by omega)]
        exact ⟨rfl, m2, m3, m4⟩
      · have e : rSigned b p n = (((numb (bitOf b) (p + 1) n.toNat : Nat) : Int), 0, p + (n.toNat + 1)) := by unfold rSigned; rw [if_neg h0, if_neg (by omega), if_neg (by omega)]
        rw [e, i32w (by omega)]
        exact ⟨rfl, m2, m3, m4⟩
theorem numb_zero {f : Nat → Nat} {a : Nat} : ∀ {n : Nat}, numb f a n = 0 ↔ ∀ i, i < n → f (a + i) = 0
  | 0 => by simp [numb]
  | n + 1 => by
    have ih := numb_zero (f := f) (a := a) (n := n)
    rw [numb]
    constructor
    · intro h i hi
      by_cases hin : i = n
      · rw [hin]; omega
      · exact ih.1 (by omega) i (by omega)
    · intro h
      have h1 := ih.2 fun i hi => h i (by omega)
      have h2 := h n (by omega)
      omega
end
end Go.Zt

