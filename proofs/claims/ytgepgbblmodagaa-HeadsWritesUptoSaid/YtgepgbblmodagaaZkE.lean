/- Layer 1: numbers of bits; the program's readers. -/
import Derived.Test.YtgepgbblmodagaaZkB
import Derived.Test.YtgepgbblmodagaaZqT
set_option linter.unusedSimpArgs false
set_option linter.unusedVariables false
namespace Go.Zt
open Go Go.Sim Go.Proofs Go.RowKit
abbrev U8 (l : List Nat) : List Value := l.map fun x => Value.int .u8 (x : Nat)
abbrev Byt (l : List Nat) : Prop := ∀ x ∈ l, x < 256
theorem el5 : ElemS Try.prog 24 5 1 1 (.int .u8 0) := ⟨by kernel_rfl, by kernel_rfl, rfl, by decide, by decide⟩
def bitOf (b : List Nat) (i : Nat) : Nat := b.getD (i / 8) 0 / 2 ^ (7 - i % 8) % 2
theorem bitOf_lt (b : List Nat) (i : Nat) : bitOf b i < 2 := Nat.mod_lt _ (by decide)
def numb (f : Nat → Nat) (a : Nat) : Nat → Nat
  | 0 => 0
  | n + 1 => 2 * numb f a n + f (a + n)
theorem numb_lt {f : Nat → Nat} (hf : ∀ i, f i < 2) (a : Nat) : ∀ n, numb f a n < 2 ^ n
  | 0 => by simp [numb]
  | n + 1 => by
    have := numb_lt hf a n
    have := hf (a + n)
    simp only [numb, Nat.pow_succ]; omega
theorem pow32 {n : Nat} (h : n ≤ 32) : 2 ^ n ≤ 4294967296 := Nat.pow_le_pow_right (n := 2) (by decide) h
theorem pow31 {n : Nat} (h : n ≤ 31) : 2 ^ n ≤ 2147483648 := Nat.pow_le_pow_right (n := 2) (by decide) h
def rFixed (b : List Nat) (p : Nat) (n : Int) : Nat × Nat × Nat :=
  if n < 0 ∨ n > 32 then (0, 2, p) else if n > ((8 * b.length : Nat) : Int) - p then (0, 3, p) else (numb (bitOf b) p n.toNat, 0, p + n.toNat)
def rSigned (b : List Nat) (p : Nat) (n : Int) : Int × Nat × Nat :=
  if n < 1 ∨ n > 31 then (0, 2, p) else if n + 1 > ((8 * b.length : Nat) : Int) - p then (0, 3, p)
  else if bitOf b p = 1 then
    if numb (bitOf b) (p + 1) n.toNat = 0 then (0, 4, p) else (-((numb (bitOf b) (p + 1) n.toNat : Nat) : Int), 0, p + (n.toNat + 1))
  else (numb (bitOf b) (p + 1) n.toNat, 0, p + (n.toNat + 1))
def rAlign (b : List Nat) (p : Nat) : Nat × Nat :=
  let n := (8 - p % 8) % 8
  if numb (bitOf b) p n ≠ 0 then (4, p) else (0, p + n)
abbrev PtrB (j : Nat) : Value := .pointer (some ⟨2 * j, 0, none⟩)
structure Rdr (S : Nat → Prop) (M : Mem) (j : Nat) (b : List Nat) (p : Nat) : Prop where
  out : ¬ S j
  byt : Byt b
  len : b.length ≤ 4294967296
  pos : p ≤ 8 * b.length
  ex : ∃ A c, M.nb[j]? = some (.cells #[.slice A b.length c, .int .i64 (p : Nat), .bool true] 101) ∧ Row M A (U8 b) ∧ b.length ≤ c ∧ (A = none → c = 0) ∧ ∀ a, A = some a → a.block % 2 = 1 ∨ S (a.block / 2)
theorem Rdr.chg {S T : Nat → Prop} {M M' : Mem} {j : Nat} {b : List Nat} {p : Nat} (h : Rdr S M j b p) (k : Chg T M M') (hj : ¬ T j) (hS : ∀ i, S i → ¬ T i) : Rdr S M' j b p := by
  obtain ⟨A, c, h1, h2, h3, h0, h4⟩ := h.ex
  exact ⟨h.out, h.byt, h.len, h.pos, A, c, at_chg h1 k hj, h2.chg k fun a ha => (h4 a ha).imp id (hS _), h3, h0, h4⟩
theorem Rdr.keep {S : Nat → Prop} {M M' : Mem} {j : Nat} {b : List Nat} {p : Nat} (h : Rdr S M j b p) (k : Keep M M') : Rdr S M' j b p := h.chg k (fun x => x) fun _ _ x => x
theorem Rdr.set {S : Nat → Prop} {M : Mem} {j : Nat} {b : List Nat} {p : Nat} (h : Rdr S M j b p) (hf : M.floor ≤ j) {p' : Nat} (hp : p' ≤ 8 * b.length) {z : Int} (hz : z = (p' : Int)) :
    ∃ M', M.put (2 * j) 1 (.int .i64 z) = some M' ∧ Chg (· = j) M M' ∧ M'.nb.size = M.nb.size ∧ Rdr S M' j b p' := by
  subst hz
  obtain ⟨A, c, h1, h2, h3, h0, h4⟩ := h.ex
  have hC : Chg (· = j) M (M.upd j (.cells (#[.slice A b.length c, .int .i64 (p : Nat), .bool true].setIfInBounds 1 (.int .i64 (p' : Nat))) 101)) := upd_chg rfl
  exact ⟨_, put_of h1 hf (by simp) rfl, hC, upd_size _, h.out, h.byt, h.len, hp, A, c, upd_at (lt_of_at h1), h2.chg hC fun a ha => (h4 a ha).imp id fun hs e => h.out (e ▸ hs), h3, h0, h4⟩
section
variable {S : Nat → Prop} {M : Mem} {j : Nat} {b : List Nat} {p : Nat}
theorem c80 (h : Rdr S M j b p) {i : Nat} {z : Int} (hz : z = (i : Int)) (hi : i < 8 * b.length) : Cn Try.prog 80 #[PtrB j, .int .i64 z] M fun v N => v = .int .u32 (bitOf b i : Nat) ∧ N = M := by
  subst hz
  obtain ⟨A, c, h1, h2, h3, h0, h4⟩ := h.ex
  have hl := h.len
  have hb : i / 8 < b.length := by omega
  have hx : b[i / 8] < 256 := h.byt _ (List.getElem_mem _)
  obtain ⟨a, i1, i2⟩ := h2.int1 (n := b.length) (i := i / 8) (z := IntKind.i64.wrap ((i : Int).tdiv 8)) (k := .u8) (x := (b[i / 8] : Nat)) (by rw [show ((i : Int).tdiv 8) = ((i / 8 : Nat) : Int) from tdivN i 8, i64w (by omega)]) hb (by simp [hb])
  refine w80_0 ⟨_, rfl, _, sl_of h1 rfl, _, i1, _, i2, _, shr_nat (q := 7 - i % 8) (by rw [show ((i : Int).tmod 8) = ((i % 8 : Nat) : Int) from tmodN i 8, i64w (by omega)]; omega) (by show 7 - i % 8 ≤ 8; omega), _, rfl, ?_, rfl⟩
  have hq : b[i / 8] / 2 ^ (7 - i % 8) < 256 := Nat.lt_of_le_of_lt (Nat.div_le_self _ _) hx
  have e2 : bitOf b i = b[i / 8] / 2 ^ (7 - i % 8) % 2 := by simp [bitOf, hb]
  rw [e2]
  generalize b[i / 8] / 2 ^ (7 - i % 8) = w at hq
  have e0 : IntKind.u32.wrap ((w : Nat) : Int) = (w : Nat) := u32w (by omega)
  rw [e0, and_mask (k := .u32) rfl (m := 1) (c := 1) rfl (by decide) (show _ < 2 ^ 32 by omega)]
theorem c66_loop (h : Rdr S M j b p) {a n : Nat} (hn : n ≤ 32) (ha : a + n ≤ 8 * b.length) {Q : Value → Mem → Prop} (hQ : Q (.int .u32 (numb (bitOf b) a n : Nat)) M) :
    ∀ (k i : Nat), i + k = n → A66_1 (some ⟨2 * j, 0, none⟩) a (numb (bitOf b) a i : Nat) n i M Q
  | 0, i, hi => by
    refine w66_1 ⟨fun h => by omega, fun _ => ?_⟩
    obtain rfl : i = n := by omega
    exact hQ
  | k + 1, i, hi => by
    have hl := h.len
    refine w66_1 ⟨fun _ => Cn.eq (c80 h (i := a + i) (by rw [i64w (by omega)]; omega) (by omega)) ?_, fun h => by omega⟩
    refine ⟨_, rfl, ?_⟩
    have h1 := numb_lt (bitOf_lt b) a i
    have h2 := bitOf_lt b (a + i)
    have h3 : 2 ^ i ≤ 2147483648 := pow31 (by omega)
    have e1 : IntKind.u32.wrap (((numb (bitOf b) a i : Nat) : Int) * 2 ^ 1) = ((numb (bitOf b) a i * 2 : Nat) : Int) := by rw [u32w (by omega)]; omega
    have e2 : numb (bitOf b) a i * 2 ||| bitOf b (a + i) = numb (bitOf b) a (i + 1) := by
      rw [or_add (k := 1) ⟨numb (bitOf b) a i, by omega⟩ (by omega)]; simp only [numb]; omega
    rw [e1, or_nat (k := .u32) rfl (show _ < 2 ^ 32 by omega) (show _ < 2 ^ 32 by omega), e2, i64w (by omega), show ((i : Int) + 1) = ((i + 1 : Nat) : Int) by omega]
    exact c66_loop h hn ha hQ k (i + 1) (by omega)
theorem c66 (h : Rdr S M j b p) {a n : Nat} {z y : Int} (hz : z = (a : Int)) (hy : y = (n : Int)) (hn : n ≤ 32) (ha : a + n ≤ 8 * b.length) :
    Cn Try.prog 66 #[PtrB j, .int .i64 z, .int .i64 y] M fun v N => v = .int .u32 (numb (bitOf b) a n : Nat) ∧ N = M := by
  subst hz hy
  exact w66_0 (c66_loop h hn ha ⟨rfl, rfl⟩ n 0 (by omega))
theorem c64 (h : Rdr S M j b p) : Cn Try.prog 64 #[PtrB j] M fun v N => v = .bool true ∧ N = M := by
  obtain ⟨A, c, h1, h2, h3, h0, h4⟩ := h.ex
  exact w64_0 ⟨fun _ => ⟨_, rfl, _, bool_of h1 rfl, rfl, rfl⟩, fun h => absurd h (by simp)⟩
theorem c65 (h : Rdr S M j b p) : Cn Try.prog 65 #[PtrB j] M fun v N => v = .int .i64 ((8 * b.length - p : Nat) : Int) ∧ N = M := by
  obtain ⟨A, c, h1, h2, h3, h0, h4⟩ := h.ex
  have hl := h.len
  have hp := h.pos
  refine w65_0 ⟨_, rfl, _, sl_of h1 rfl, _, rfl, _, int_of h1 rfl, ?_, rfl⟩
  show Value.int .i64 (IntKind.i64.wrap (IntKind.i64.wrap (8 * (b.length : Int)) - (p : Int))) = _
  rw [i64w (x := 8 * (b.length : Int)) (by omega), i64w (by omega)]
  congr 1; omega
theorem c37 (h : Rdr S M j b p) : Cn Try.prog 37 #[PtrB j] M fun v N => v = .int .i64 ((8 * b.length - p : Nat) : Int) ∧ N = M := by
  refine w37_0 (Cn.eq (c64 h) ?_)
  refine ⟨_, rfl, fun h => absurd h (by simp), fun _ => Cn.eq (c65 h) ?_⟩
  exact ⟨_, rfl, rfl, rfl⟩
def RdR (S : Nat → Prop) (M : Mem) (j : Nat) (b : List Nat) (u : Value) (p' : Nat) : Value → Mem → Prop := fun v N => v = u ∧ Chg (· = j) M N ∧ N.nb.size = M.nb.size ∧ Rdr S N j b p'
theorem RdR.same (h : Rdr S M j b p) {u : Value} : RdR S M j b u p u M := ⟨rfl, .refl _, rfl, h⟩
theorem c33 (h : Rdr S M j b p) (hf : M.floor ≤ j) (n : Int) :
    Cn Try.prog 33 #[PtrB j, .int .i64 n] M (RdR S M j b (.tuple #[.int .u32 ((rFixed b p n).1 : Nat), .int .i64 ((rFixed b p n).2.1 : Nat)]) (rFixed b p n).2.2) := by
  have hp := h.pos
  have hl := h.len
  refine w33_0 (Cn.eq (c64 h) ?_)
  refine ⟨_, rfl, fun h => absurd h (by simp), fun _ => ?_⟩
  by_cases h0 : n < 0 ∨ n > 32
  · have e : rFixed b p n = (0, 2, p) := by unfold rFixed; rw [if_pos h0]
    rw [e]
    have key : A33_1 (some ⟨2 * j, 0, none⟩) n true M (RdR S M j b (.tuple #[.int .u32 ((0 : Nat) : Int), .int .i64 ((2 : Nat) : Int)]) p) := w33_1 ⟨fun _ => .same h, fun h => (by cases h)⟩
    refine ⟨fun _ => key, fun h1 => ?_⟩
    rw [decide_eq_true (show n > 32 by omega)]; exact key
  · refine ⟨fun h => by omega, fun _ => ?_⟩
    rw [decide_eq_false (show ¬ n > 32 by omega)]
    refine w33_1 ⟨fun h => (by cases h), fun _ => Cn.eq (c65 h) ?_⟩
    refine ⟨_, rfl, fun h1 => ?_, fun h1 => ?_⟩
    · have e : rFixed b p n = (0, 3, p) := by unfold rFixed; rw [if_neg h0, if_pos (by omega)]
      rw [e]; exact .same h
    · have e : rFixed b p n = (numb (bitOf b) p n.toNat, 0, p + n.toNat) := by unfold rFixed; rw [if_neg h0, if_neg (by omega)]
      rw [e]
      obtain ⟨A, c, g1, g2, g3, _, g4⟩ := h.ex
      refine ⟨_, rfl, _, int_of g1 rfl, Cn.eq (c66 h (a := p) (n := n.toNat) rfl (by omega) (by omega) (by omega)) ?_⟩
      obtain ⟨M', m1, m2, m3, m4⟩ := h.set hf (p' := p + n.toNat) (z := IntKind.i64.wrap ((p : Int) + n)) (by omega) (by rw [i64w (by omega)]; omega)
      exact ⟨_, rfl, _, rfl, _, int_of g1 rfl, _, rfl, _, m1, rfl, m2, m3, m4⟩
theorem c82 (h : Rdr S M j b p) (hf : M.floor ≤ j) (n : Int) :
    Cn Try.prog 82 #[PtrB j, .int .i64 n] M (RdR S M j b (.tuple #[.int .i32 (rSigned b p n).1, .int .i64 ((rSigned b p n).2.1 : Nat)]) (rSigned b p n).2.2) := by
  have hp := h.pos
  have hl := h.len
  refine w82_0 (Cn.eq (c64 h) ?_)
  refine ⟨_, rfl, fun h => absurd h (by simp), fun _ => ?_⟩
  by_cases h0 : n < 1 ∨ n > 31
  · have e : rSigned b p n = (0, 2, p) := by unfold rSigned; rw [if_pos h0]
    rw [e]
    have key : A82_1 (some ⟨2 * j, 0, none⟩) n true M (RdR S M j b (.tuple #[.int .i32 0, .int .i64 ((2 : Nat) : Int)]) p) := w82_1 ⟨fun _ => .same h, fun h => (by cases h)⟩
    refine ⟨fun _ => key, fun h1 => ?_⟩
    rw [decide_eq_true (show n > 31 by omega)]; exact key
  · refine ⟨fun h => by omega, fun _ => ?_⟩
    rw [decide_eq_false (show ¬ n > 31 by omega)]
    refine w82_1 ⟨fun h => (by cases h), fun _ => Cn.eq (c65 h) ?_⟩
    have e1 : IntKind.i64.wrap (n + 1) = n + 1 := i64w (by omega)
    rw [e1]
    refine ⟨_, rfl, fun h1 => ?_, fun h1 => ?_⟩
    · have e : rSigned b p n = (0, 3, p) := by unfold rSigned; rw [if_neg h0, if_pos (by omega)]
      rw [e]; exact .same h
    · have hlt := numb_lt (bitOf_lt b) (p + 1) n.toNat
      have h31 := pow31 (n := n.toNat) (by omega)
      obtain ⟨A, c, g1, g2, g3, _, g4⟩ := h.ex
      refine ⟨_, rfl, _, int_of g1 rfl, Cn.eq (c66 h (a := p + 1) (n := n.toNat) (by rw [i64w (by omega)]; omega) (by omega) (by omega) (by omega)) ?_⟩
      refine ⟨_, rfl, _, rfl, _, int_of g1 rfl, Cn.eq (c80 h (i := p) rfl (by omega)) ?_⟩
      have e2 : IntKind.i32.wrap ((numb (bitOf b) (p + 1) n.toNat : Nat) : Int) = (numb (bitOf b) (p + 1) n.toNat : Nat) := i32w (by omega)
      rw [e2]
      obtain ⟨M', m1, m2, m3, m4⟩ := h.set hf (p' := p + (n.toNat + 1)) (z := IntKind.i64.wrap ((p : Int) + (n + 1))) (by omega) (by rw [i64w (by omega)]; omega)
      refine ⟨_, rfl, fun h2 => ⟨fun h3 => ?_, fun h3 => ⟨_, rfl, _, int_of g1 rfl, _, rfl, _, m1, ?_⟩⟩, fun h2 => ⟨_, rfl, _, int_of g1 rfl, _, rfl, _, m1, ?_⟩⟩
      · have e : rSigned b p n = (0, 4, p) := by unfold rSigned; rw [if_neg h0, if_neg (by omega), if_pos (by omega), if_pos (by omega)]
        rw [e]; exact .same h
      · have e : rSigned b p n = (-((numb (bitOf b) (p + 1) n.toNat : Nat) : Int), 0, p + (n.toNat + 1)) := by unfold rSigned; rw [if_neg h0, if_neg (by omega), if_pos (by omega), if_neg (by omega)]
        rw [e, show (0 : Int) - ((numb (bitOf b) (p + 1) n.toNat : Nat) : Int) = -((numb (bitOf b) (p + 1) n.toNat : Nat) : Int) by omega, i32w (by omega)]
        exact ⟨rfl, m2, m3, m4⟩
      · have e : rSigned b p n = (((numb (bitOf b) (p + 1) n.toNat : Nat) : Int), 0, p + (n.toNat + 1)) := by unfold rSigned; rw [if_neg h0, if_neg (by omega), if_neg (by omega)]
        rw [e]
        exact ⟨rfl, m2, m3, m4⟩
end
end Go.Zt
