/- Layer 1: bits of bytes, bytes of bits; the document's readers, made and at their end. -/
import Derived.Test.YtgepgbblmodagaaZkG
set_option linter.unusedSimpArgs false
set_option linter.unusedVariables false
namespace Go.Zt
open Go Go.Sim Go.Proofs Go.RowKit
abbrev Bin (l : List Nat) : Prop := ∀ x ∈ l, x < 2
abbrev bitL (l : List Nat) (i : Nat) : Nat := l.getD i 0
def gbyte (l : List Nat) (q : Nat) : Nat := numb (bitL l) (8 * q) 8
def pack (l : List Nat) : List Nat := (List.range ((l.length + 7) / 8)).map (gbyte l)
theorem bitL_lt {l : List Nat} (h : Bin l) (i : Nat) : bitL l i < 2 := by
  unfold bitL
  by_cases hi : i < l.length
  · simp only [List.getD_eq_getElem?_getD, List.getElem?_eq_getElem hi, Option.getD_some]; exact h _ (List.getElem_mem _)
  · simp [List.getD_eq_getElem?_getD, List.getElem?_eq_none (show l.length ≤ i by omega)]
theorem gbyte_lt {l : List Nat} (h : Bin l) (q : Nat) : gbyte l q < 256 := numb_lt (bitL_lt h) (8 * q) 8
theorem pack_len (l : List Nat) : (pack l).length = (l.length + 7) / 8 := by simp [pack]
theorem numb_ext {f g : Nat → Nat} {a a' : Nat} : ∀ {n : Nat}, (∀ i, i < n → f (a + i) = g (a' + i)) → numb f a n = numb g a' n
  | 0, _ => rfl
  | n + 1, h => by
    rw [numb, numb, numb_ext (n := n) fun i hi => h i (by omega), h n (by omega)]
theorem c62_inner {M0 M : Mem} {A : Option Addr} {l : List Nat} (hf : M0.floor ≤ M0.nb.size) (hR : Row M0 A (N64 l)) (hb : Bin l) (hl : l.length ≤ 1000000000000) {n c : Nat} (hn : n = l.length) (K : Keep M0 M) {B : Option Addr} {cB q : Nat} (hq : 8 * q ≤ l.length)
    (hO : Own (fun j => M0.nb.size ≤ j) M 5 B cB (U8 ((List.range q).map (gbyte l)))) {Q : Value → Mem → Prop}
    (hQ : ∀ B' c' M', Keep M0 M' → Own (fun j => M0.nb.size ≤ j) M' 5 B' c' (U8 ((List.range (q + 1)).map (gbyte l))) → A62_1 A n c B' (q + 1) c' ((8 * (q + 1) : Nat) : Int) M' Q) :
    ∀ (r k : Nat), k + r = 8 → A62_2 A n c B q cB ((8 * q : Nat) : Int) (numb (bitL l) (8 * q) k : Nat) k M Q
  | 0, k, hk => by
    obtain rfl : k = 8 := by omega
    have hlt := gbyte_lt hb q
    have e : IntKind.u8.wrap ((numb (bitL l) (8 * q) 8 : Nat) : Int) = ((gbyte l q : Nat) : Int) := u8w (by unfold gbyte at hlt; omega)
    obtain ⟨B', c', M', g1, g2, g3, g4⟩ := app1 el5 hf K hO (n := q) (by simp) (v := .int .u8 (gbyte l q : Nat)) rfl (by omega)
    refine w62_2 ⟨fun h => absurd h (by omega), fun _ => ?_⟩
    rw [e, i64w (by omega), show (((8 * q : Nat) : Int) + 8) = ((8 * (q + 1) : Nat) : Int) by omega]
    refine ⟨_, g1, _, rfl, hQ B' c' M' g2 ?_⟩
    have e2 : U8 ((List.range (q + 1)).map (gbyte l)) = U8 ((List.range q).map (gbyte l)) ++ [.int .u8 (gbyte l q : Nat)] := by rw [List.range_succ]; simp
    rw [e2]; exact g3
  | r + 1, k, hk => by
    have hlt := numb_lt (bitL_lt hb) (8 * q) k
    have h7 : 2 ^ k ≤ 128 := by have : k ≤ 7 := by omega
                                exact Nat.pow_le_pow_right (n := 2) (by decide) this
    have next : ∀ x : Nat, x = bitL l (8 * q + k) → ∀ y : Int, y = ((numb (bitL l) (8 * q) k : Nat) : Int) * 2 + x → A62_3 A n c B q cB ((8 * q : Nat) : Int) y k M Q := by
      intro x hx y hy
      refine w62_3 ?_
      rw [i64w (by omega), show ((k : Int) + 1) = ((k + 1 : Nat) : Int) by omega, hy, show ((numb (bitL l) (8 * q) k : Nat) : Int) * 2 + (x : Int) = ((numb (bitL l) (8 * q) (k + 1) : Nat) : Int) by rw [numb, hx]; omega]
      exact c62_inner hf hR hb hl hn K hq hO hQ r (k + 1) (by omega)
    refine w62_2 ⟨fun _ => ?_, fun h => absurd (show ((k : Nat) : Int) < 8 by omega) h⟩
    have ei : IntKind.i64.wrap (((8 * q : Nat) : Int) + k) = ((8 * q + k : Nat) : Int) := by rw [i64w (by omega)]; omega
    rw [ei, i64w (x := ((numb (bitL l) (8 * q) k : Nat) : Int) * 2) (by omega)]
    refine ⟨fun h1 => ?_, fun h1 => ?_⟩
    · have hi : 8 * q + k < l.length := by omega
      have hx : l[8 * q + k] < 2 := hb _ (List.getElem_mem _)
      obtain ⟨a, i1, i2⟩ := (hR.keep K).int1 (n := n) (i := 8 * q + k) (z := ((8 * q + k : Nat) : Int)) (k := .i64) (x := (l[8 * q + k] : Nat)) rfl (by omega) (by simp [hi])
      refine ⟨_, i1, _, i2, next l[8 * q + k] (by simp [bitL, hi]) _ (i64w (by omega))⟩
    · exact next 0 (by simp [bitL, List.getElem?_eq_none (show l.length ≤ 8 * q + k by omega)]) _ (by omega)
theorem c62_outer {M0 : Mem} {A : Option Addr} {l : List Nat} (hf : M0.floor ≤ M0.nb.size) (hR : Row M0 A (N64 l)) (hb : Bin l) (hl : l.length ≤ 1000000000000) {n c : Nat} (hn : n = l.length) {Q : Value → Mem → Prop}
    (hQ : ∀ B' c' M', Keep M0 M' → Own (fun j => M0.nb.size ≤ j) M' 5 B' c' (U8 (pack l)) → Q (.slice B' (pack l).length c') M') :
    ∀ (r q : Nat) {M : Mem} {B : Option Addr} {cB : Nat}, q + r = (l.length + 7) / 8 → Keep M0 M → Own (fun j => M0.nb.size ≤ j) M 5 B cB (U8 ((List.range q).map (gbyte l))) → A62_1 A n c B q cB ((8 * q : Nat) : Int) M Q
  | 0, q, M, B, cB, hq, K, hO => by
    refine w62_1 ⟨fun h => by omega, fun _ => ?_⟩
    have e : (List.range q).map (gbyte l) = pack l := by unfold pack; rw [← hq, Nat.add_zero]
    rw [e] at hO
    have := hQ B cB M K hO
    rw [pack_len, ← hq, Nat.add_zero] at this
    exact this
  | r + 1, q, M, B, cB, hq, K, hO => by
    refine w62_1 ⟨fun _ => ?_, fun h => absurd (show ((8 * q : Nat) : Int) < n by omega) h⟩
    exact c62_inner hf hR hb hl hn K (by omega) hO (fun B' c' M' hK hO' => c62_outer hf hR hb hl hn hQ r (q + 1) (by omega) hK hO') 8 0 rfl
theorem c62 {M : Mem} {A : Option Addr} {l : List Nat} (hf : M.floor ≤ M.nb.size) (hR : Row M A (N64 l)) (hb : Bin l) (hl : l.length ≤ 1000000000000) {n c : Nat} (hn : n = l.length) :
    Cn Try.prog 62 #[.slice A n c] M fun v N => ∃ A' c', v = .slice A' (pack l).length c' ∧ Keep M N ∧ Own (fun j => M.nb.size ≤ j) N 5 A' c' (U8 (pack l)) :=
  w62_0 (c62_outer hf hR hb hl hn (fun B' c' M' hK hO => ⟨B', c', rfl, hK, hO⟩) _ 0 (Nat.zero_add _) (.refl _) (.inl ⟨rfl, rfl, rfl⟩))
end Go.Zt
