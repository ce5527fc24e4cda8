/- Layer 1: the document's readers. -/
import Derived.Test.YtnhfoiijkadajaaZiF
import Derived.Test.YtnhfoiijkadajaaZiC
set_option linter.unusedSimpArgs false
set_option linter.unusedVariables false
namespace Go.Zu
open Go Go.Sim Go.Proofs Go.RowKit
abbrev N64 (l : List Nat) : List Value := l.map fun x => Value.int .i64 (x : Nat)
theorem el3 : ElemS Try.prog 22 3 1 8 (.int .i64 0) := ⟨by kernel_rfl, by kernel_rfl, rfl, by decide, by decide⟩
theorem el3' : Elem Try.prog 22 3 8 (.int .i64 0) := ⟨by kernel_rfl, by kernel_rfl, rfl, by decide, by decide⟩
def bitsOf (b : List Nat) : List Nat := (List.range (8 * b.length)).map (bitOf b)
theorem bitsOf_len (b : List Nat) : (bitsOf b).length = 8 * b.length := by simp [bitsOf]
theorem bitsOf_at (b : List Nat) {i : Nat} (h : i < 8 * b.length) : (bitsOf b)[i]? = some (bitOf b i) := by simp [bitsOf, h]
structure RefR (S : Nat → Prop) (M : Mem) (j : Nat) (b : List Nat) (p : Nat) : Prop where
  out : ¬ S j
  len : b.length ≤ 4294967296
  pos : p ≤ 8 * b.length
  ex : ∃ A c, M.nb[j]? = some (.cells #[.slice A (8 * b.length) c, .int .i64 (p : Nat)] 92) ∧ Row M A (N64 (bitsOf b)) ∧ 8 * b.length ≤ c ∧ (A = none → c = 0) ∧ ∀ a, A = some a → a.block % 2 = 1 ∨ S (a.block / 2)
theorem RefR.chg {S T : Nat → Prop} {M M' : Mem} {j : Nat} {b : List Nat} {p : Nat} (h : RefR S M j b p) (k : Chg T M M') (hj : ¬ T j) (hS : ∀ i, S i → ¬ T i) : RefR S M' j b p := by
  obtain ⟨A, c, h1, h2, h3, h0, h4⟩ := h.ex
  exact ⟨h.out, h.len, h.pos, A, c, at_chg h1 k hj, h2.chg k fun a ha => (h4 a ha).imp id (hS _), h3, h0, h4⟩
theorem RefR.keep {S : Nat → Prop} {M M' : Mem} {j : Nat} {b : List Nat} {p : Nat} (h : RefR S M j b p) (k : Keep M M') : RefR S M' j b p := h.chg k (fun x => x) fun _ _ x => x
theorem RefR.set {S : Nat → Prop} {M : Mem} {j : Nat} {b : List Nat} {p : Nat} (h : RefR S M j b p) (hf : M.floor ≤ j) {p' : Nat} (hp : p' ≤ 8 * b.length) {z : Int} (hz : z = (p' : Int)) :
    ∃ M', M.put (2 * j) 1 (.int .i64 z) = some M' ∧ Chg (· = j) M M' ∧ M'.nb.size = M.nb.size ∧ RefR S M' j b p' := by
  subst hz
  obtain ⟨A, c, h1, h2, h3, h0, h4⟩ := h.ex
  have hC : Chg (· = j) M (M.upd j (.cells (#[.slice A (8 * b.length) c, .int .i64 (p : Nat)].setIfInBounds 1 (.int .i64 (p' : Nat))) 92)) := upd_chg rfl
  exact ⟨_, put_of h1 hf (by simp) rfl, hC, upd_size _, h.out, h.len, hp, A, c, upd_at (lt_of_at h1), h2.chg hC fun a ha => (h4 a ha).imp id fun hs e => h.out (e ▸ hs), h3, h0, h4⟩
def RfR (S : Nat → Prop) (M : Mem) (j : Nat) (b : List Nat) (u : Value) (p' : Nat) : Value → Mem → Prop := fun v N => v = u ∧ Chg (· = j) M N ∧ N.nb.size = M.nb.size ∧ RefR S N j b p'
section
variable {S : Nat → Prop} {M : Mem} {j : Nat} {b : List Nat} {p : Nat}
theorem RfR.same (h : RefR S M j b p) {u : Value} : RfR S M j b u p u M := ⟨rfl, .refl _, rfl, h⟩
theorem RefR.bit (h : RefR S M j b p) {i : Nat} {z : Int} (hz : z = (i : Int)) (hi : i < 8 * b.length) :
    ∃ A c, M.slAt (2 * j) 0 = some (A, 8 * b.length, c) ∧ ∃ a, idxA A (8 * b.length) 1 z = some a ∧ M.intAt .i64 a.block a.off = some ((bitOf b i : Nat) : Int) := by
  obtain ⟨A, c, h1, h2, h3, h0, h4⟩ := h.ex
  obtain ⟨a, i1, i2⟩ := h2.int1 (n := 8 * b.length) (i := i) (z := z) (k := .i64) (x := (bitOf b i : Nat)) hz hi (by rw [List.getElem?_map, bitsOf_at b hi]; rfl)
  exact ⟨A, c, sl_of h1 rfl, a, i1, i2⟩
theorem RefR.at (h : RefR S M j b p) : M.intAt .i64 (2 * j) 1 = some ((p : Nat) : Int) := by
  obtain ⟨A, c, h1, h2, h3, h0, h4⟩ := h.ex
  exact int_of h1 rfl
theorem pow33 {n : Nat} (h : n ≤ 33) : 2 ^ n ≤ 8589934592 := Nat.pow_le_pow_right (n := 2) (by decide) h
theorem c57_loop (h : RefR S M j b p) {a n : Nat} (hn : n ≤ 33) (ha : a + n ≤ 8 * b.length) {Q : Value → Mem → Prop} (hQ : Q (.int .u64 (numb (bitOf b) a n : Nat)) M) :
    ∀ (k i : Nat), i + k = n → A57_1 (some ⟨2 * j, 0, none⟩) a n (numb (bitOf b) a i : Nat) i M Q
  | 0, i, hi => by
    refine w57_1 ⟨fun h => by omega, fun _ => ?_⟩
    obtain rfl : i = n := by omega
    exact hQ
  | k + 1, i, hi => by
    have hl := h.len
    obtain ⟨A, c, s1, x, i1, i2⟩ := h.bit (i := a + i) (z := IntKind.i64.wrap ((a : Int) + i)) (by rw [i64w (by omega)]; omega) (by omega)
    refine w57_1 ⟨fun _ => ⟨_, rfl, _, s1, _, i1, _, i2, ?_⟩, fun h => by omega⟩
    have h1 := numb_lt (bitOf_lt b) a i
    have h2 := bitOf_lt b (a + i)
    have h3 := pow33 (n := i) (by omega)
    rw [u64w (x := ((numb (bitOf b) a i : Nat) : Int) * 2) (by omega), u64w (x := ((bitOf b (a + i) : Nat) : Int)) (by omega), u64w (by omega), i64w (by omega), show ((i : Int) + 1) = ((i + 1 : Nat) : Int) by omega,
      show ((numb (bitOf b) a i : Nat) : Int) * 2 + ((bitOf b (a + i) : Nat) : Int) = ((numb (bitOf b) a (i + 1) : Nat) : Int) by simp only [numb]; omega]
    exact c57_loop h hn ha hQ k (i + 1) (by omega)
theorem c57 (h : RefR S M j b p) {a n : Nat} {z y : Int} (hz : z = (a : Int)) (hy : y = (n : Int)) (hn : n ≤ 33) (ha : a + n ≤ 8 * b.length) :
    Cn Try.prog 57 #[PtrB j, .int .i64 z, .int .i64 y] M fun v N => v = .int .u64 (numb (bitOf b) a n : Nat) ∧ N = M := by
  subst hz hy
  exact w57_0 (c57_loop h hn ha ⟨rfl, rfl⟩ n 0 (by omega))
theorem numb8 {b : List Nat} (hB : Byt b) {q : Nat} (hq : q < b.length) : numb (bitOf b) (8 * q) 8 = b[q] := by
  have hx : b[q] < 256 := hB _ (List.getElem_mem _)
  have e : ∀ i, i < 8 → bitOf b (8 * q + i) = b[q] / 2 ^ (7 - i) % 2 := by
    intro i hi
    unfold bitOf
    rw [show (8 * q + i) / 8 = q by omega, show (8 * q + i) % 8 = i by omega]
    simp [hq]
  have e0 := e 0 (by decide)
  rw [Nat.add_zero] at e0
  simp only [numb, e0, e 1 (by decide), e 2 (by decide), e 3 (by decide), e 4 (by decide), e 5 (by decide), e 6 (by decide), e 7 (by decide), Nat.add_zero]
  simp only [Nat.sub_zero, Nat.reduceSub, Nat.reducePow]
  omega
theorem c48_loop (h : RefR S M j b p) (hB : Byt b) (hf : M.floor ≤ j) (h8 : p % 8 = 0) {r0 : Nat × Nat × Nat} :
    ∀ (l : List Nat) (i v : Nat), b.drop (p / 8 + i) = l → i ≤ 4 → v < 128 ^ i → r0 = lebL l i v →
    A48_1 (some ⟨2 * j, 0, none⟩) v ((128 ^ i : Nat) : Int) i M (RfR S M j b (.tuple #[.int .u32 (r0.1 : Nat), .int .i64 (r0.2.1 : Nat)]) (p + 8 * r0.2.2))
  | [], i, v, hl, hi, hv, hr => by
    have hlen : b.length ≤ p / 8 + i := List.drop_eq_nil_iff.1 hl
    have hbl := h.len
    have hp := h.pos
    obtain ⟨A, c, g1, g2, g3, g0, g4⟩ := h.ex
    refine w48_1 ⟨fun _ => ⟨_, rfl, _, h.at, _, rfl, _, sl_of g1 rfl, fun _ => ?_, fun h1 => ?_⟩, fun h => by omega⟩
    · rw [hr, lebL]; exact .same h
    · exfalso; apply h1
      rw [i64w (x := 8 * (i : Int)) (by omega), i64w (x := (p : Int) + 8 * (i : Int)) (by omega), i64w (by omega)]
      show ((8 * b.length : Nat) : Int) < _
      omega
  | x :: l, i, v, hl, hi, hv, hr => by
    have hlen : p / 8 + i < b.length := by
      have : (b.drop (p / 8 + i)).length = (x :: l).length := by rw [hl]
      simp at this; omega
    have hbl := h.len
    have hp := h.pos
    have hx0 : b[p / 8 + i]? = some x := by
      have : (b.drop (p / 8 + i))[0]? = some x := by rw [hl]; rfl
      simpa using this
    have hx1 : b[p / 8 + i] = x := by rw [List.getElem?_eq_getElem hlen] at hx0; exact Option.some.inj hx0
    have hl' : b.drop (p / 8 + (i + 1)) = l := by
      rw [← Nat.add_assoc, ← List.drop_drop, hl]; rfl
    have hx : x < 256 := hB _ (List.mem_of_getElem? hx0)
    obtain ⟨A, c, g1, g2, g3, g0, g4⟩ := h.ex
    have ea : IntKind.i64.wrap ((p : Int) + IntKind.i64.wrap (8 * (i : Int))) = ((8 * (p / 8 + i) : Nat) : Int) := by
      rw [i64w (x := 8 * (i : Int)) (by omega), i64w (by omega)]; omega
    refine w48_1 ⟨fun _ => ⟨_, rfl, _, h.at, _, rfl, _, sl_of g1 rfl, ?_⟩, fun h => by omega⟩
    rw [ea]
    refine ⟨fun h1 => ?_, fun _ => Cn.eq (c57 h (a := 8 * (p / 8 + i)) (n := 8) rfl rfl (by decide) (by omega)) ⟨_, rfl, ?_⟩⟩
    · exfalso
      rw [i64w (by omega)] at h1
      have h1' : ((8 * b.length : Nat) : Int) < ((8 * (p / 8 + i) : Nat) : Int) + 8 := h1
      omega
    rw [numb8 hB hlen, hx1]
    have key : ∀ bb : Bool, (bb = true ↔ (i = 4 ∧ x > 15 ∨ i > 0 ∧ x = 0)) → A48_2 (some ⟨2 * j, 0, none⟩) v ((128 ^ i : Nat) : Int) i ((8 * (p / 8 + i) : Nat) : Int) x bb M (RfR S M j b (.tuple #[.int .u32 (r0.1 : Nat), .int .i64 (r0.2.1 : Nat)]) (p + 8 * r0.2.2)) := by
      intro bb hbb
      refine w48_2 ⟨fun hb => ?_, fun hb => ?_⟩
      · rw [hr, lebL, if_pos (hbb.1 hb)]; exact .same h
      · have hno : ¬ (i = 4 ∧ x > 15 ∨ i > 0 ∧ x = 0) := fun hh => by rw [hbb.2 hh] at hb; cases hb
        have hw : x % 128 * 128 ^ i < 4294967296 ∧ v + x % 128 * 128 ^ i < 128 ^ (i + 1) ∧ v + x % 128 * 128 ^ i < 4294967296 ∧ 128 ^ i * 128 < 18446744073709551616 := by
          have : i = 0 ∨ i = 1 ∨ i = 2 ∨ i = 3 ∨ i = 4 := by omega
          rcases this with rfl | rfl | rfl | rfl | rfl <;> simp only [Nat.pow_zero, Nat.reducePow, Nat.reduceAdd] at hv ⊢ <;> omega
        have e1 : ((x : Int).tmod 128) * ((128 ^ i : Nat) : Int) = ((x % 128 * 128 ^ i : Nat) : Int) := by
          rw [show ((x : Int).tmod 128) = ((x % 128 : Nat) : Int) from tmodN x 128]; push_cast; rfl
        have e4 : IntKind.u64.wrap ((v : Int) + IntKind.u64.wrap (((x : Int).tmod 128) * ((128 ^ i : Nat) : Int))) = ((v + x % 128 * 128 ^ i : Nat) : Int) := by
          rw [e1, u64w (x := ((x % 128 * 128 ^ i : Nat) : Int)) (by have := hw.1; omega), u64w (by have := hw.2.2.1; omega)]; omega
        rw [e4]
        refine ⟨fun h1 => ?_, fun h1 => ?_⟩
        · obtain ⟨M', m1, m2, m3, m4⟩ := h.set hf (p' := p + 8 * (i + 1)) (z := IntKind.i64.wrap (((8 * (p / 8 + i) : Nat) : Int) + 8)) (by omega) (by rw [i64w (by omega)]; omega)
          refine ⟨_, rfl, _, m1, w48_3 ?_⟩
          rw [hr, lebL, if_neg hno, if_pos (by omega), u32w (by have := hw.2.2.1; omega)]
          exact ⟨rfl, m2, m3, m4⟩
        · rw [i64w (by omega), show ((i : Int) + 1) = ((i + 1 : Nat) : Int) by omega]
          have e5 : IntKind.u64.wrap (((128 ^ i : Nat) : Int) * 128) = ((128 ^ (i + 1) : Nat) : Int) := by
            rw [Nat.pow_succ, u64w (by have := hw.2.2.2; omega)]; push_cast; rfl
          rw [e5]
          rw [lebL, if_neg hno, if_neg (by omega)] at hr
          exact c48_loop h hB hf h8 l (i + 1) _ hl' (by omega) hw.2.1 hr
    refine ⟨fun h4 => ⟨fun h15 => key true (by simp; omega), fun h15 => ⟨fun h0 => key _ (by simp; omega), fun h0 => by omega⟩⟩, fun h4 => ⟨fun h0 => key _ (by simp; omega), fun h0 => key false (by simp; omega)⟩⟩
theorem c48 (h : RefR S M j b p) (hB : Byt b) (hf : M.floor ≤ j) : Cn Try.prog 48 #[PtrB j] M (RfR S M j b (.tuple #[.int .u32 ((rLeb b p).1 : Nat), .int .i64 ((rLeb b p).2.1 : Nat)]) (rLeb b p).2.2) := by
  refine w48_0 ⟨_, rfl, _, h.at, fun h8 => ?_, fun h8 => ?_⟩
  · rw [show ((p : Int).tmod 8) = ((p % 8 : Nat) : Int) from tmodN p 8] at h8
    have e : rLeb b p = (0, 2, p) := by unfold rLeb; rw [if_pos (by omega)]
    rw [e]; exact .same h
  · rw [show ((p : Int).tmod 8) = ((p % 8 : Nat) : Int) from tmodN p 8] at h8
    have e : rLeb b p = ((lebL (b.drop (p / 8)) 0 0).1, (lebL (b.drop (p / 8)) 0 0).2.1, p + 8 * (lebL (b.drop (p / 8)) 0 0).2.2) := by unfold rLeb; rw [if_neg (by omega)]
    rw [e]
    exact c48_loop h hB hf (by omega) (b.drop (p / 8)) 0 0 (by simp) (by decide) (by decide) rfl
theorem numb_zero {f : Nat → Nat} {a : Nat} : ∀ {n : Nat}, numb f a n = 0 ↔ ∀ i, i < n → f (a + i) = 0
  | 0 => by simp [numb]
  | n + 1 => by
    have ih := numb_zero (f := f) (a := a) (n := n)
    rw [numb]
    constructor
    · intro h i hi
      by_cases hin : i = n
      · rw [hin]; omega
      · exact ih.1 (by omega) i (by omega)
    · intro h
      have h1 := ih.2 fun i hi => h i (by omega)
      have h2 := h n (by omega)
      omega
end
end Go.Zu
