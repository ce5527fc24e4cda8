/- Layer 1: bits of bytes, bytes of bits; the document's readers, made and at their end. -/
import Derived.Test.YtnhfoiijkadajaaZiG
set_option linter.unusedSimpArgs false
set_option linter.unusedVariables false
namespace Go.Zu
open Go Go.Sim Go.Proofs Go.RowKit
abbrev Bin (l : List Nat) : Prop := ∀ x ∈ l, x < 2
abbrev bitL (l : List Nat) (i : Nat) : Nat := l.getD i 0
def gbyte (l : List Nat) (q : Nat) : Nat := numb (bitL l) (8 * q) 8
def pack (l : List Nat) : List Nat := (List.range ((l.length + 7) / 8)).map (gbyte l)
theorem bitL_lt {l : List Nat} (h : Bin l) (i : Nat) : bitL l i < 2 := by
  unfold bitL
  by_cases hi : i < l.length
  · simp only [List.getD_eq_getElem?_getD, List.getElem?_eq_getElem hi, Option.getD_some]; exact h _ (List.getElem_mem _)
  · simp [List.getD_eq_getElem?_getD, List.getElem?_eq_none (show l.length ≤ i by omega)]
theorem gbyte_lt {l : List Nat} (h : Bin l) (q : Nat) : gbyte l q < 256 := numb_lt (bitL_lt h) (8 * q) 8
theorem pack_len (l : List Nat) : (pack l).length = (l.length + 7) / 8 := by simp [pack]
theorem bitsOf_bin (b : List Nat) : Bin (bitsOf b) := by
  intro x hx
  obtain ⟨q, _, rfl⟩ := List.mem_map.1 hx
  exact bitOf_lt b q
theorem numb_ext {f g : Nat → Nat} {a a' : Nat} : ∀ {n : Nat}, (∀ i, i < n → f (a + i) = g (a' + i)) → numb f a n = numb g a' n
  | 0, _ => rfl
  | n + 1, h => by
    rw [numb, numb, numb_ext (n := n) fun i hi => h i (by omega), h n (by omega)]
theorem pack_drop {b : List Nat} (hB : Byt b) {q : Nat} (hq : q ≤ b.length) : pack ((bitsOf b).drop (8 * q)) = b.drop q := by
  have hlen : ((bitsOf b).drop (8 * q)).length = 8 * (b.length - q) := by rw [List.length_drop, bitsOf_len]; omega
  apply List.ext_getElem?
  intro i
  unfold pack
  rw [hlen, show (8 * (b.length - q) + 7) / 8 = b.length - q by omega, List.getElem?_map, List.getElem?_drop]
  by_cases hi : i < b.length - q
  · rw [List.getElem?_range hi, Option.map_some, List.getElem?_eq_getElem (show q + i < b.length by omega)]
    congr 1
    rw [← numb8 hB (show q + i < b.length by omega)]
    unfold gbyte
    refine numb_ext fun k hk => ?_
    simp only [bitL, List.getD_eq_getElem?_getD, List.getElem?_drop]
    rw [show 8 * q + (8 * i + k) = 8 * (q + i) + k by omega, bitsOf_at b (by omega)]; rfl
  · rw [List.getElem?_eq_none (by simp; omega), List.getElem?_eq_none (by omega)]; rfl
theorem c54_inner {M0 M : Mem} {A : Option Addr} {l : List Nat} (hf : M0.floor ≤ M0.nb.size) (hR : Row M0 A (N64 l)) (hb : Bin l) (hl : l.length ≤ 1000000000000) {n c : Nat} (hn : n = l.length) (K : Keep M0 M) {B : Option Addr} {cB q : Nat} (hq : 8 * q ≤ l.length)
    (hO : Own (fun j => M0.nb.size ≤ j) M 5 B cB (U8 ((List.range q).map (gbyte l)))) {Q : Value → Mem → Prop}
    (hQ : ∀ B' c' M', Keep M0 M' → Own (fun j => M0.nb.size ≤ j) M' 5 B' c' (U8 ((List.range (q + 1)).map (gbyte l))) → A54_1 A n c B' (q + 1) c' ((8 * (q + 1) : Nat) : Int) M' Q) :
    ∀ (r k : Nat), k + r = 8 → A54_2 A n c B q cB ((8 * q : Nat) : Int) (numb (bitL l) (8 * q) k : Nat) k M Q
  | 0, k, hk => by
    obtain rfl : k = 8 := by omega
    have hlt := gbyte_lt hb q
    have e : IntKind.u8.wrap ((numb (bitL l) (8 * q) 8 : Nat) : Int) = ((gbyte l q : Nat) : Int) := u8w (by unfold gbyte at hlt; omega)
    obtain ⟨B', c', M', g1, g2, g3, g4⟩ := app1 el5 hf K hO (n := q) (by simp) (v := .int .u8 (gbyte l q : Nat)) rfl (by omega)
    refine w54_2 ⟨fun h => absurd h (by omega), fun _ => ?_⟩
    rw [e, i64w (by omega), show (((8 * q : Nat) : Int) + 8) = ((8 * (q + 1) : Nat) : Int) by omega]
    refine ⟨_, g1, _, rfl, hQ B' c' M' g2 ?_⟩
    have e2 : U8 ((List.range (q + 1)).map (gbyte l)) = U8 ((List.range q).map (gbyte l)) ++ [.int .u8 (gbyte l q : Nat)] := by rw [List.range_succ]; simp
    rw [e2]; exact g3
  | r + 1, k, hk => by
    have hlt := numb_lt (bitL_lt hb) (8 * q) k
    have h7 : 2 ^ k ≤ 128 := by have : k ≤ 7 := by omega
                                exact Nat.pow_le_pow_right (n := 2) (by decide) this
    have next : ∀ x : Nat, x = bitL l (8 * q + k) → ∀ y : Int, y = ((numb (bitL l) (8 * q) k : Nat) : Int) * 2 + x → A54_3 A n c B q cB ((8 * q : Nat) : Int) y k M Q := by
      intro x hx y hy
      refine w54_3 ?_
      rw [i64w (by omega), show ((k : Int) + 1) = ((k + 1 : Nat) : Int) by omega, hy, show ((numb (bitL l) (8 * q) k : Nat) : Int) * 2 + (x : Int) = ((numb (bitL l) (8 * q) (k + 1) : Nat) : Int) by rw [numb, hx]; omega]
      exact c54_inner hf hR hb hl hn K hq hO hQ r (k + 1) (by omega)
    refine w54_2 ⟨fun _ => ?_, fun h => absurd (show ((k : Nat) : Int) < 8 by omega) h⟩
    have ei : IntKind.i64.wrap (((8 * q : Nat) : Int) + k) = ((8 * q + k : Nat) : Int) := by rw [i64w (by omega)]; omega
    rw [ei, i64w (x := ((numb (bitL l) (8 * q) k : Nat) : Int) * 2) (by omega)]
    refine ⟨fun h1 => ?_, fun h1 => ?_⟩
    · have hi : 8 * q + k < l.length := by omega
      have hx : l[8 * q + k] < 2 := hb _ (List.getElem_mem _)
      obtain ⟨a, i1, i2⟩ := (hR.keep K).int1 (n := n) (i := 8 * q + k) (z := ((8 * q + k : Nat) : Int)) (k := .i64) (x := (l[8 * q + k] : Nat)) rfl (by omega) (by simp [hi])
      refine ⟨_, i1, _, i2, next l[8 * q + k] (by simp [bitL, hi]) _ (i64w (by omega))⟩
    · exact next 0 (by simp [bitL, List.getElem?_eq_none (show l.length ≤ 8 * q + k by omega)]) _ (by omega)
theorem c54_outer {M0 : Mem} {A : Option Addr} {l : List Nat} (hf : M0.floor ≤ M0.nb.size) (hR : Row M0 A (N64 l)) (hb : Bin l) (hl : l.length ≤ 1000000000000) {n c : Nat} (hn : n = l.length) {Q : Value → Mem → Prop}
    (hQ : ∀ B' c' M', Keep M0 M' → Own (fun j => M0.nb.size ≤ j) M' 5 B' c' (U8 (pack l)) → Q (.slice B' (pack l).length c') M') :
    ∀ (r q : Nat) {M : Mem} {B : Option Addr} {cB : Nat}, q + r = (l.length + 7) / 8 → Keep M0 M → Own (fun j => M0.nb.size ≤ j) M 5 B cB (U8 ((List.range q).map (gbyte l))) → A54_1 A n c B q cB ((8 * q : Nat) : Int) M Q
  | 0, q, M, B, cB, hq, K, hO => by
    refine w54_1 ⟨fun h => by omega, fun _ => ?_⟩
    have e : (List.range q).map (gbyte l) = pack l := by unfold pack; rw [← hq, Nat.add_zero]
    rw [e] at hO
    have := hQ B cB M K hO
    rw [pack_len, ← hq, Nat.add_zero] at this
    exact this
  | r + 1, q, M, B, cB, hq, K, hO => by
    refine w54_1 ⟨fun _ => ?_, fun h => absurd (show ((8 * q : Nat) : Int) < n by omega) h⟩
    exact c54_inner hf hR hb hl hn K (by omega) hO (fun B' c' M' hK hO' => c54_outer hf hR hb hl hn hQ r (q + 1) (by omega) hK hO') 8 0 rfl
theorem c54 {M : Mem} {A : Option Addr} {l : List Nat} (hf : M.floor ≤ M.nb.size) (hR : Row M A (N64 l)) (hb : Bin l) (hl : l.length ≤ 1000000000000) {n c : Nat} (hn : n = l.length) :
    Cn Try.prog 54 #[.slice A n c] M fun v N => ∃ A' c', v = .slice A' (pack l).length c' ∧ Keep M N ∧ Own (fun j => M.nb.size ≤ j) N 5 A' c' (U8 (pack l)) :=
  w54_0 (c54_outer hf hR hb hl hn (fun B' c' M' hK hO => ⟨B', c', rfl, hK, hO⟩) _ 0 (Nat.zero_add _) (.refl _) (.inl ⟨rfl, rfl, rfl⟩))
theorem c56_inner {M0 : Mem} {A : Option Addr} {b : List Nat} (hf : M0.floor ≤ M0.nb.size) (hR : Row M0 A (U8 b)) (hB : Byt b) (hl : b.length ≤ 4294967296) {n c : Nat} (hn : n = b.length) {i : Nat} (hi : i < b.length) {Q : Value → Mem → Prop}
    (hQ : ∀ B' c' M', Keep M0 M' → Own (fun j => M0.nb.size ≤ j) M' 3 B' c' (N64 ((List.range (8 * (i + 1))).map (bitOf b))) → 8 * (i + 1) ≤ c' → A56_1 A n c B' (8 * (i + 1)) c' ((i + 1 : Nat) : Int) M' Q) :
    ∀ (r k : Nat) {M : Mem} {B : Option Addr} {cB : Nat}, k + r = 8 → Keep M0 M → Own (fun j => M0.nb.size ≤ j) M 3 B cB (N64 ((List.range (8 * i + k)).map (bitOf b))) → 8 * i + k ≤ cB → A56_2 A n c B (8 * i + k) cB i (7 - (k : Int)) M Q
  | 0, k, M, B, cB, hk, K, hO, hc => by
    obtain rfl : k = 8 := by omega
    refine w56_2 ⟨fun h => absurd h (by omega), fun _ => ?_⟩
    rw [i64w (by omega), show ((i : Int) + 1) = ((i + 1 : Nat) : Int) by omega]
    exact hQ B cB M K hO hc
  | r + 1, k, M, B, cB, hk, K, hO, hc => by
    have hx : b[i] < 256 := hB _ (List.getElem_mem _)
    obtain ⟨a, i1, i2⟩ := (hR.keep K).int1 (n := n) (i := i) (z := (i : Int)) (k := .u8) (x := (b[i] : Nat)) rfl (by omega) (by simp [hi])
    have eb : bitOf b (8 * i + k) = b[i] / 2 ^ (7 - k) % 2 := by
      unfold bitOf; rw [show (8 * i + k) / 8 = i by omega, show (8 * i + k) % 8 = k by omega]; simp [hi]
    have hd : b[i] / 2 ^ (7 - k) < 256 := Nat.lt_of_le_of_lt (Nat.div_le_self _ _) hx
    have e : (IntKind.i64.wrap ((b[i] / 2 ^ (7 - k) : Nat) : Int)).tmod 2 = ((bitOf b (8 * i + k) : Nat) : Int) := by
      rw [eb]
      generalize b[i] / 2 ^ (7 - k) = y at hd
      rw [i64w (by omega)]; exact tmodN y 2
    obtain ⟨B', c', M', g1, g2, g3, g4⟩ := app1 el3 hf K hO (n := 8 * i + k) (by simp) (v := .int .i64 (bitOf b (8 * i + k) : Nat)) rfl (by omega)
    refine w56_2 ⟨fun _ => ⟨_, i1, _, i2, _, shr_nat (k := .u8) (q := 7 - k) (by omega) (show 7 - k ≤ 8 by omega), _, rfl, ?_⟩, fun h => absurd (show (7 - (k : Int)) ≥ 0 by omega) h⟩
    rw [e, i64w (x := 7 - (k : Int) - 1) (by omega), show (7 - (k : Int) - 1) = 7 - ((k + 1 : Nat) : Int) by omega]
    refine ⟨_, g1, _, rfl, c56_inner hf hR hB hl hn hi hQ r (k + 1) (by omega) g2 ?_ g4⟩
    have e2 : N64 ((List.range (8 * i + (k + 1))).map (bitOf b)) = N64 ((List.range (8 * i + k)).map (bitOf b)) ++ [.int .i64 (bitOf b (8 * i + k) : Nat)] := by rw [← Nat.add_assoc, List.range_succ]; simp
    rw [e2]; exact g3
theorem c56_outer {M0 : Mem} {A : Option Addr} {b : List Nat} (hf : M0.floor ≤ M0.nb.size) (hR : Row M0 A (U8 b)) (hB : Byt b) (hl : b.length ≤ 4294967296) {n c : Nat} (hn : n = b.length) {Q : Value → Mem → Prop}
    (hQ : ∀ B' c' M', Keep M0 M' → Own (fun j => M0.nb.size ≤ j) M' 3 B' c' (N64 (bitsOf b)) → 8 * b.length ≤ c' → Q (.slice B' (8 * b.length) c') M') :
    ∀ (r i : Nat) {M : Mem} {B : Option Addr} {cB : Nat}, i + r = b.length → Keep M0 M → Own (fun j => M0.nb.size ≤ j) M 3 B cB (N64 ((List.range (8 * i)).map (bitOf b))) → 8 * i ≤ cB → A56_1 A n c B (8 * i) cB i M Q
  | 0, i, M, B, cB, hi, K, hO, hc => by
    obtain rfl : i = b.length := by omega
    refine w56_1 ⟨fun h => by omega, fun _ => hQ B cB M K hO hc⟩
  | r + 1, i, M, B, cB, hi, K, hO, hc => by
    refine w56_1 ⟨fun _ => ?_, fun h => absurd (show (i : Int) < n by omega) h⟩
    exact c56_inner hf hR hB hl hn (by omega) (fun B' c' M' hK hO' hc' => c56_outer hf hR hB hl hn hQ r (i + 1) (by omega) hK hO' hc') 8 0 rfl K hO hc
theorem c56 {M : Mem} {A : Option Addr} {b : List Nat} (hf : M.floor ≤ M.nb.size) (hR : Row M A (U8 b)) (hB : Byt b) (hl : b.length ≤ 4294967296) {n c : Nat} (hn : n = b.length) :
    Cn Try.prog 56 #[.slice A n c] M fun v N => ∃ A' c', v = .slice A' (8 * b.length) c' ∧ Keep M N ∧ Own (fun j => M.nb.size ≤ j) N 3 A' c' (N64 (bitsOf b)) ∧ 8 * b.length ≤ c' := by
  obtain ⟨B, M', g1, g2, g3, g4⟩ := make_own el3' (S := fun j => M.nb.size ≤ j) (M := M) (k := .i64) (k' := .i64) (l := 0) (c := IntKind.i64.wrap (8 * (n : Int))) (Int.le_refl _) (by rw [i64w (by omega)]; omega) (by rw [i64w (by omega)]; omega) (Nat.le_refl _)
  refine w56_0 ⟨_, g1, _, rfl, ?_⟩
  exact c56_outer hf hR hB hl hn (fun B' c' M' hK hO hc => ⟨B', c', rfl, hK, hO, hc⟩) _ 0 (Nat.zero_add _) (Keep.step (.refl _) g2 fun j hj => hj) g4 (by omega)
theorem c47 {M : Mem} (hf : M.floor ≤ M.nb.size) {A : Option Addr} {n c : Nat} {b : List Nat} (hR : Row M A (U8 b)) (hn : n = b.length) (hb : b.length ≤ 4294967296) (hB : Byt b) :
    Cn Try.prog 47 #[.slice A n c] M fun v N => ∃ j, v = PtrB j ∧ Keep M N ∧ M.nb.size ≤ j ∧ j < N.nb.size ∧ RefR (fun i => M.nb.size ≤ i ∧ i < j) N j b 0 := by
  refine w47_0 (Cn.mono (c56 hf hR hB hb hn) ?_)
  rintro v N ⟨A', c', rfl, hK, hO, hc⟩
  have hN : Chg (fun j => M.nb.size ≤ j) N (N.new (.cells #[.slice A' (8 * b.length) c', .int .i64 0] 92)) := .new _ _
  refine ⟨_, rfl, N.nb.size, rfl, Keep.step hK hN fun j hj => hj, hK.size, by rw [Mem.new_size]; omega, ⟨fun h => by omega, hb, Nat.zero_le _, A', c', Mem.new_at _ _, hO.row.keep (.new _ _), hc, hO.none_zero, fun a ha => ?_⟩⟩
  have h1 := hO.in_ a ha
  have h2 : a.block / 2 < N.nb.size := by
    rcases hO with ⟨h, _⟩ | ⟨j, cs, sp, h, _, _, h4, _⟩
    · rw [h] at ha; cases ha
    · rw [h] at ha; obtain rfl := Option.some.inj ha
      show 2 * j / 2 < _
      have := lt_of_at h4; omega
  exact .inr ⟨h1.2, h2⟩
theorem c49 {S : Nat → Prop} {M : Mem} {j : Nat} {b : List Nat} {p : Nat} (h : RefR S M j b p) (hB : Byt b) (hf : M.floor ≤ M.nb.size) :
    Cn Try.prog 49 #[PtrB j] M fun v N => ∃ A' c', v = .slice A' (b.drop ((p + 7) / 8)).length c' ∧ Keep M N ∧ Own (fun j => M.nb.size ≤ j) N 5 A' c' (U8 (b.drop ((p + 7) / 8))) := by
  obtain ⟨A, c, g1, g2, g3, g0, g4⟩ := h.ex
  have hp := h.pos
  have hl := h.len
  obtain ⟨A', s1, s2, s3, s4⟩ := slice_row el3 g2 (n := 8 * b.length) (c := c) (l := 8 * ((p + 7) / 8)) (h := 8 * b.length) (by simp [bitsOf_len]) g3 g0 (lo := some (.int .i64 (IntKind.i64.wrap (IntKind.i64.wrap ((IntKind.i64.wrap ((p : Int) + 7)).tdiv 8) * 8)))) (hi := none)
    (bound_lo (by rw [i64w (x := (p : Int) + 7) (by omega), show (((p : Int) + 7).tdiv 8) = (((p + 7) / 8 : Nat) : Int) from tdivN (p + 7) 8, i64w (x := (((p + 7) / 8 : Nat) : Int)) (by omega), i64w (by omega)]; omega) (by omega)) rfl (by omega) (Nat.le_refl _)
  refine w49_0 ⟨_, rfl, _, sl_of g1 rfl, _, rfl, _, h.at, _, s1, _, rfl, ?_⟩
  have hR : Row M A' (N64 ((bitsOf b).drop (8 * ((p + 7) / 8)))) := by
    have e2 : ((N64 (bitsOf b)).drop (8 * ((p + 7) / 8) * 1)).take ((8 * b.length - 8 * ((p + 7) / 8)) * 1) = N64 ((bitsOf b).drop (8 * ((p + 7) / 8))) := by
      rw [Nat.mul_one, Nat.mul_one, List.take_of_length_le (by simp [bitsOf_len])]; exact (List.map_drop ..).symm
    rw [e2] at s2; exact s2
  have hbin : Bin ((bitsOf b).drop (8 * ((p + 7) / 8))) := fun x hx => bitsOf_bin b x (List.mem_of_mem_drop hx)
  refine Cn.mono (c54 hf hR hbin (by rw [List.length_drop, bitsOf_len]; omega) (n := 8 * b.length - 8 * ((p + 7) / 8)) (by rw [List.length_drop, bitsOf_len])) ?_
  rintro v N ⟨A2, c2, rfl, hK, hO⟩
  rw [pack_drop hB (by omega)] at hO ⊢
  exact ⟨_, rfl, A2, c2, rfl, hK, hO⟩
end Go.Zu
