/- What the functions of layer 10 that give an order come to. -/
import Derived.Test.YtfhlpnpghaombaaZtA
import Derived.Test.YtfhlpnpghaombaaZsO
set_option linter.unusedSimpArgs false
set_option linter.unusedVariables false
namespace Go.Zt
open Go Go.Sim Go.Proofs Go.RowKit

theorem wr (x : Int) (h : -9223372036854775808 ≤ x ∧ x ≤ 9223372036854775807) : IntKind.i64.wrap x = x := by rw [IntKind.wrap_i64]; omega
abbrev I64 (l : List Int) : List Value := l.map (Value.int .i64)
theorem elem : Elem Try.prog 22 3 8 (.int .i64 0) := ⟨by kernel_rfl, by kernel_rfl, rfl, by decide, by decide⟩

/-- The side of a size. -/
def side (x : Int) : Int := if x = 4 ∨ x = 8 ∨ x = 16 ∨ x = 32 then x else if x = 64 then 32 else 0
theorem side_cases (x : Int) : side x = 0 ∨ side x = 4 ∨ side x = 8 ∨ side x = 16 ∨ side x = 32 := by
  unfold side
  by_cases h : x = 4 ∨ x = 8 ∨ x = 16 ∨ x = 32
  · rw [if_pos h]; omega
  · rw [if_neg h]; by_cases h2 : x = 64 <;> simp [h2]
theorem c21 (x : Int) (M : Mem) : Cn Try.prog 21 #[.int .i64 x] M fun v N => v = .int .i64 (side x) ∧ N = M := by
  refine w21_0 ?_
  by_cases h4 : x = 4
  · subst h4; simp [side]
  by_cases h8 : x = 8
  · subst h8; simp [side]
  by_cases h16 : x = 16
  · subst h16; simp [side]
  by_cases h32 : x = 32
  · subst h32; simp [side]
  by_cases h64 : x = 64
  · subst h64; simp [side]; decide
  simp [side, h4, h8, h16, h32, h64]
theorem c22 (x : Int) (M : Mem) : Cn Try.prog 22 #[.int .i64 x] M fun v N => v = .int .i64 (side x) ∧ N = M := by
  refine w22_0 ?_
  by_cases h4 : x = 4
  · subst h4; simp [side]
  by_cases h8 : x = 8
  · subst h8; simp [side]
  by_cases h16 : x = 16
  · subst h16; simp [side]
  by_cases h32 : x = 32
  · subst h32; simp [side]
  by_cases h64 : x = 64
  · subst h64; simp [side]
  simp [side, h4, h8, h16, h32, h64]

/-! ### Two rows of numbers compared -/
theorem c11_loop {M : Mem} {A B : Option Addr} {l l' : List Int} (hA : Row M A (I64 l)) (hB : Row M B (I64 l')) {n m c d : Nat} (hn : n = l.length) (hm : m = l'.length) (hl : l.length = l'.length) (hb : n ≤ 4611686018427387904) {Q : Value → Mem → Prop} :
    ∀ (k i : Nat), i + k = n → Q (.bool (decide (l.drop i = l'.drop i))) M → A11_1 A n c B m d i M Q
  | 0, i, hi, hQ => by
    refine w11_1 ⟨fun h => by omega, fun _ => ?_⟩
    have e : decide (l.drop i = l'.drop i) = true := by
      rw [List.drop_of_length_le (by omega), List.drop_of_length_le (by omega)]; simp
    rw [e] at hQ; exact hQ
  | k + 1, i, hi, hQ => by
    have h1 : i < l.length := by omega
    have h2 : i < l'.length := by omega
    refine w11_1 ⟨fun _ => ?_, fun h => by omega⟩
    refine Row.rd elem hA (x := l[i]) (by simpa using hn) (by omega) (by omega) (by simp [h1]) ?_
    refine Row.rd elem hB (x := l'[i]) (by simpa using hm) (by omega) (by omega) (by simp [h2]) ⟨fun hne => ?_, fun he => ?_⟩
    · have e : decide (l.drop i = l'.drop i) = false := decide_eq_false fun e => hne (by
        have := congrArg (fun x => x[0]?) e
        simpa [h1, h2] using this)
      rw [e] at hQ; exact hQ
    · rw [wr _ (by omega), show ((i : Int) + 1) = ((i + 1 : Nat) : Int) by omega]
      refine c11_loop hA hB hn hm hl hb k (i + 1) (by omega) ?_
      have e : (l.drop i = l'.drop i) = (l.drop (i + 1) = l'.drop (i + 1)) := by
        rw [List.drop_eq_getElem_cons h1, List.drop_eq_getElem_cons h2, he]; exact propext ⟨fun x => (List.cons.inj x).2, fun x => by rw [x]⟩
      simpa only [e] using hQ
theorem c11 {M : Mem} {A B : Option Addr} {l l' : List Int} (hA : Row M A (I64 l)) (hB : Row M B (I64 l')) {n m c d : Nat} (hn : n = l.length) (hm : m = l'.length) (hb : n ≤ 4611686018427387904) :
    Cn Try.prog 11 #[.slice A n c, .slice B m d] M fun v N => v = .bool (decide (l = l')) ∧ N = M := by
  refine w11_0 ⟨fun h => ⟨?_, rfl⟩, fun h => ?_⟩
  · have : l ≠ l' := fun e => h (by rw [hn, hm, e])
    simp [this]
  · exact c11_loop hA hB hn hm (by omega) hb n 0 (by omega) ⟨rfl, rfl⟩

/-! ### The order -/
def inner (n s : Nat) : Nat → Nat → List Int
  | _, 0 => []
  | r, k + 1 => (if r ≤ s ∧ s < r + n then [((r * n + (s - r) : Nat) : Int)] else []) ++ inner n s (r + 1) k
def outer (n : Nat) : Nat → Nat → List Int
  | _, 0 => []
  | s, k + 1 => inner n s 0 n ++ outer n (s + 1) k
/-- The order of a side. -/
def ord (n : Nat) : List Int := outer n 0 (2 * n - 1)
theorem inner_len (n s : Nat) : ∀ k r, (inner n s r k).length ≤ k
  | 0, _ => by simp [inner]
  | k + 1, r => by
    have := inner_len n s k (r + 1)
    simp only [inner, List.length_append]
    split <;> simp <;> omega

/-- Rows made from block m on. -/
abbrev Owns (m : Nat) := Own fun j => m ≤ j
abbrev Chgs (m : Nat) := Chg fun j => m ≤ j

theorem app1 {m : Nat} {M : Mem} {A : Option Addr} {n c : Nat} {l : List Int} {x : Int} {C : Value × Mem → Prop} (hO : Owns m M 3 A c (I64 l)) (hn : n = l.length) (hf : M.floor ≤ m) (hm : m ≤ M.nb.size) (hb : l.length ≤ 1000000000)
    (h : ∀ A' c' M', Chgs m M M' → Owns m M' 3 A' c' (I64 (l ++ [x])) → C (.slice A' (n + 1) c', M')) :
    ∃ r, appendP Try.prog #[22, 22] (.slice A n c) (.slice (some ⟨2 * M.nb.size, 0, none⟩) 1 1) (M.new (.cells #[.int .i64 x] 3)) = some r ∧ C r := by
  obtain ⟨A', c', M', h1, h2, h3⟩ := append1 (v := .int .i64 x) elem hO (by simpa using hn) (M0 := M) (fun j hj => Nat.le_trans hf hj) (by omega) rfl (by omega)
  exact ⟨_, h1, h _ _ _ h2 (by simpa using h3)⟩

theorem c10_inner {n m s : Nat} (hn : n ≤ 32) (hs : s ≤ 1000) {Q : Value → Mem → Prop} : ∀ (k r : Nat) {M : Mem} {A : Option Addr} {c : Nat} {l : List Int}, r + k = n → Owns m M 3 A c (I64 l) → M.floor ≤ m → m ≤ M.nb.size → l.length + k ≤ 100000 →
    (∀ A' c' M', Chgs m M M' → Owns m M' 3 A' c' (I64 (l ++ inner n s r k)) → A10_1 n A' (l ++ inner n s r k).length c' ((s + 1 : Nat) : Int) M' Q) → A10_2 n A l.length c s r M Q
  | 0, r, M, A, c, l, hr, hO, hf, hm, hl, h => by
    refine w10_2 ⟨fun h => by omega, fun _ => ?_⟩
    rw [wr _ (by omega)]
    have := h A c M (.refl _) (by simpa [inner] using hO)
    simpa [inner] using this
  | k + 1, r, M, A, c, l, hr, hO, hf, hm, hl, h => by
    refine w10_2 ⟨fun _ => ?_, fun h => by omega⟩
    rw [wr _ (by omega)]
    have next : ∀ {M' : Mem} {A' : Option Addr} {c' : Nat} (l' : List Int), (l' = if r ≤ s ∧ s < r + n then [((r * n + (s - r) : Nat) : Int)] else []) → Chgs m M M' → Owns m M' 3 A' c' (I64 (l ++ l')) → A10_4 n A' (l ++ l').length c' s r M' Q := by
      intro M' A' c' l' hl' hC hO'
      refine w10_4 ?_
      rw [wr _ (by omega), show ((r : Int) + 1) = ((r + 1 : Nat) : Int) by omega]
      have hlen : l'.length ≤ 1 := by rw [hl']; split <;> simp
      refine c10_inner hn hs k (r + 1) (by omega) hO' (by rw [hC.floor]; exact hf) (Nat.le_trans hm hC.size) (by simp; omega) fun A2 c2 M2 hC2 hO2 => ?_
      have e : l ++ l' ++ inner n s (r + 1) k = l ++ inner n s r (k + 1) := by rw [inner, ← hl', List.append_assoc]
      rw [e] at hO2 ⊢
      exact h A2 c2 M2 (hC.trans hC2) hO2
    refine ⟨fun h1 => ?_, fun h1 => ?_⟩
    · refine w10_3 ⟨fun h2 => ?_, fun h2 => ?_⟩
      · have h2 := of_decide_eq_true h2
        have hb : (r : Int) * n ≤ 32 * 32 := by
          have : r * n ≤ 32 * 32 := Nat.mul_le_mul (by omega) hn
          exact_mod_cast this
        have hb0 : (0 : Int) ≤ (r : Int) * n := Int.mul_nonneg (by omega) (by omega)
        rw [wr ((r : Int) * n) (by omega), wr _ (by omega)]
        refine app1 hO rfl hf hm (by omega) fun A' c' M' hC hO' => ⟨_, rfl, ?_⟩
        have e : ((r : Int) * n + (s - r)) = ((r * n + (s - r) : Nat) : Int) := by
          rw [Int.natCast_add, Int.natCast_mul, Int.natCast_sub (by omega)]
        have := next [(r : Int) * n + (s - r)] (by rw [if_pos ⟨by omega, by omega⟩, e]) hC hO'
        simpa using this
      · have h2 := of_decide_eq_false h2
        have := next [] (by rw [if_neg (by omega)]) (.refl M) (by simpa using hO)
        simpa using this
    · refine w10_3 ⟨fun h2 => (by cases h2), fun _ => ?_⟩
      have := next [] (by rw [if_neg (by omega)]) (.refl M) (by simpa using hO)
      simpa using this

theorem c10_outer {n m : Nat} (hn0 : 1 ≤ n) (hn : n ≤ 32) {Q : Value → Mem → Prop} : ∀ (k s : Nat) {M : Mem} {A : Option Addr} {c : Nat} {l : List Int}, s + k = 2 * n - 1 → Owns m M 3 A c (I64 l) → M.floor ≤ m → m ≤ M.nb.size → l.length + k * 32 ≤ 100000 →
    (∀ A' c' M', Chgs m M M' → Owns m M' 3 A' c' (I64 (l ++ outer n s k)) → Q (.tuple #[.slice A' (l ++ outer n s k).length c', .int .i64 0]) M') → A10_1 n A l.length c s M Q
  | 0, s, M, A, c, l, hs, hO, hf, hm, hl, h => by
    refine w10_1 ⟨fun h => ?_, fun _ => ?_⟩
    · rw [wr (2 * (n : Int)) (by omega), wr _ (by omega)] at h; omega
    · have := h A c M (.refl _) (by simpa [outer] using hO)
      simpa [outer] using this
  | k + 1, s, M, A, c, l, hs, hO, hf, hm, hl, h => by
    refine w10_1 ⟨fun _ => ?_, fun h => ?_⟩
    · refine c10_inner (m := m) (s := s) hn (by omega) n 0 (by omega) hO hf hm (by omega) fun A' c' M' hC hO' => ?_
      have hlen := inner_len n s n 0
      refine c10_outer hn0 hn k (s + 1) (by omega) hO' (by rw [hC.floor]; exact hf) (Nat.le_trans hm hC.size) (by simp only [List.length_append]; omega) fun A2 c2 M2 hC2 hO2 => ?_
      have e : l ++ inner n s 0 n ++ outer n (s + 1) k = l ++ outer n s (k + 1) := by rw [outer, List.append_assoc]
      rw [e] at hO2 ⊢
      exact h A2 c2 M2 (hC.trans hC2) hO2
    · rw [wr (2 * (n : Int)) (by omega), wr _ (by omega)] at h; omega

/-- What an order comes to: the numbers, and what is wrong with the size. -/
def ordL (x : Int) : List Int := ord (side x).toNat
def ordE (x : Int) : Int := if side x = 0 then 2 else 0
def Gives (M : Mem) (x : Int) (v : Value) (M' : Mem) : Prop := ∃ A c, v = .tuple #[.slice A (ordL x).length c, .int .i64 (ordE x)] ∧ Keep M M' ∧ Owns M.nb.size M' 3 A c (I64 (ordL x))

theorem c10 (x : Int) (M : Mem) (hf : M.floor ≤ M.nb.size) : Cn Try.prog 10 #[.int .i64 x] M fun v M' => Gives M x v M' := by
  refine w10_0 (Cn.mono (c22 x M) ?_)
  rintro v N ⟨rfl, rfl⟩
  refine ⟨_, rfl, fun h0 => ?_, fun h0 => ?_⟩
  · have e : ordL x = [] := by simp [ordL, h0, ord, outer]
    refine ⟨none, 0, by rw [e]; simp [ordE, h0], .refl _, .inl ⟨rfl, by rw [e]; rfl, rfl⟩⟩
  · have hc := side_cases x
    obtain ⟨n, hn⟩ : ∃ n : Nat, side x = n := ⟨(side x).toNat, by omega⟩
    rw [hn] at h0 hc ⊢
    refine c10_outer (m := N.nb.size) (l := []) (by omega) (by omega) (2 * n - 1) 0 (by omega) (.inl ⟨rfl, rfl, rfl⟩) hf (Nat.le_refl _) (by simp; omega) fun A' c' M' hC hO => ?_
    have e : ordL x = ord n := by simp [ordL, hn]
    refine ⟨A', c', ?_, Keep.step (.refl _) hC fun j hj => hj, ?_⟩
    · rw [e]; simp [ordE, hn, ord]; omega
    · rw [e]; simpa [ord] using hO

theorem inner_none (n s : Nat) : ∀ k r, s < r → inner n s r k = []
  | 0, _, _ => rfl
  | k + 1, r, h => by rw [inner, if_neg (by omega), inner_none n s k (r + 1) (by omega)]; rfl
theorem inner_skip (n s : Nat) : ∀ d k r, r + d + n ≤ s + 1 → inner n s r (d + k) = inner n s (r + d) k
  | 0, k, r, _ => by simp
  | d + 1, k, r, h => by
    rw [show d + 1 + k = (d + k) + 1 by omega, inner, if_neg (by omega), inner_skip n s d k (r + 1) (by omega), show r + 1 + d = r + (d + 1) by omega]; rfl

theorem c9_inner {n m s : Nat} (hn : n ≤ 32) (hs : s + 1 < 2 * n) {Q : Value → Mem → Prop} : ∀ (k r : Nat) {M : Mem} {A : Option Addr} {c : Nat} {l : List Int}, r + k = n → s < r + n → Owns m M 3 A c (I64 l) → M.floor ≤ m → m ≤ M.nb.size → l.length + k ≤ 100000 →
    (∀ A' c' M', Chgs m M M' → Owns m M' 3 A' c' (I64 (l ++ inner n s r k)) → A9_1 n A' (l ++ inner n s r k).length c' ((s + 1 : Nat) : Int) M' Q) → A9_2 n A l.length c s r M Q
  | 0, r, M, A, c, l, hr, hsr, hO, hf, hm, hl, h => by
    have hQ := h A c M (.refl _) (by simpa [inner] using hO)
    simp only [inner, List.append_nil] at hQ
    refine w9_2 ⟨fun _ => ?_, fun h => absurd (by omega) h⟩
    refine w9_3 ⟨fun h2 => ?_, fun _ => ⟨fun _ => ?_, fun h => absurd (by omega) h⟩⟩
    · rw [wr (2 * (n : Int)) (by omega), wr _ (by omega)] at h2
      have := eq_of_beq h2; omega
    · refine w9_4 ⟨fun _ => ?_, fun h => (by cases h)⟩
      rw [wr _ (by omega)]; exact hQ
  | k + 1, r, M, A, c, l, hr, hsr, hO, hf, hm, hl, h => by
    refine w9_2 ⟨fun h => by omega, fun _ => ?_⟩
    refine w9_3 ⟨fun h => (by cases h), fun _ => ⟨fun h => by omega, fun _ => ?_⟩⟩
    rw [wr _ (by omega)]
    refine w9_4 ⟨fun h2 => ?_, fun h2 => ?_⟩
    · have h2 := of_decide_eq_true h2
      have e := inner_none n s (k + 1) r (by omega)
      have hQ := h A c M (.refl _) (by rw [e, List.append_nil]; exact hO)
      rw [e, List.append_nil] at hQ
      rw [wr _ (by omega)]; exact hQ
    · have h2 := of_decide_eq_false h2
      have hb : (r : Int) * n ≤ 32 * 32 := by
        have : r * n ≤ 32 * 32 := Nat.mul_le_mul (by omega) hn
        exact_mod_cast this
      have hb0 : (0 : Int) ≤ (r : Int) * n := Int.mul_nonneg (by omega) (by omega)
      rw [wr ((r : Int) * n) (by omega), wr _ (by omega), wr _ (by omega), show ((r : Int) + 1) = ((r + 1 : Nat) : Int) by omega]
      refine app1 hO rfl hf hm (by omega) fun A' c' M' hC hO' => ⟨_, rfl, ?_⟩
      have e : ((r : Int) * n + (s - r)) = ((r * n + (s - r) : Nat) : Int) := by
        rw [Int.natCast_add, Int.natCast_mul, Int.natCast_sub (by omega)]
      rw [e] at hO'
      have hlen : l.length + 1 = (l ++ [((r * n + (s - r) : Nat) : Int)]).length := by simp
      show A9_2 n A' (l.length + 1) c' s ((r + 1 : Nat) : Int) M' Q
      rw [hlen]
      refine c9_inner hn hs k (r + 1) (by omega) (by omega) hO' (by rw [hC.floor]; exact hf) (Nat.le_trans hm hC.size) (by simp only [List.length_append, List.length_cons, List.length_nil]; omega) fun A2 c2 M2 hC2 hO2 => ?_
      have e2 : l ++ [((r * n + (s - r) : Nat) : Int)] ++ inner n s (r + 1) k = l ++ inner n s r (k + 1) := by rw [inner, if_pos (by omega), List.append_assoc]
      rw [e2] at hO2 ⊢
      exact h A2 c2 M2 (hC.trans hC2) hO2

theorem c9_outer {n m : Nat} (hn0 : 1 ≤ n) (hn : n ≤ 32) {Q : Value → Mem → Prop} : ∀ (k s : Nat) {M : Mem} {A : Option Addr} {c : Nat} {l : List Int}, s + k = 2 * n - 1 → Owns m M 3 A c (I64 l) → M.floor ≤ m → m ≤ M.nb.size → l.length + k * 32 ≤ 100000 →
    (∀ A' c' M', Chgs m M M' → Owns m M' 3 A' c' (I64 (l ++ outer n s k)) → Q (.tuple #[.slice A' (l ++ outer n s k).length c', .int .i64 0]) M') → A9_1 n A l.length c s M Q
  | 0, s, M, A, c, l, hs, hO, hf, hm, hl, h => by
    refine w9_1 ?_
    rw [wr ((s : Int) - n) (by omega), wr _ (by omega), if_pos (by omega), show ((s : Int) - n + 1) = (n : Int) by omega]
    refine w9_2 ⟨fun _ => ?_, fun h => absurd rfl h⟩
    refine w9_3 ⟨fun _ => ?_, fun h2 => ?_⟩
    · have := h A c M (.refl _) (by simpa [outer] using hO)
      simpa [outer] using this
    · rw [wr (2 * (n : Int)) (by omega), wr _ (by omega)] at h2
      have := ne_of_beq_false h2; omega
  | k + 1, s, M, A, c, l, hs, hO, hf, hm, hl, h => by
    refine w9_1 ?_
    rw [wr ((s : Int) - n) (by omega), wr _ (by omega)]
    obtain ⟨r0, hr0, hr1⟩ : ∃ r0 : Nat, (if (s : Int) - n + 1 > 0 then (s : Int) - n + 1 else 0) = (r0 : Int) ∧ (r0 + n = s + 1 ∨ r0 = 0 ∧ s + 1 ≤ n) := by
      by_cases h : (s : Int) - n + 1 > 0
      · exact ⟨s + 1 - n, by rw [if_pos h]; omega, by omega⟩
      · exact ⟨0, by rw [if_neg h]; rfl, by omega⟩
    rw [hr0]
    have e1 : inner n s 0 n = inner n s r0 (n - r0) := by
      rcases hr1 with h1 | ⟨rfl, h1⟩
      · have := inner_skip n s r0 (n - r0) 0 (by omega)
        rw [show r0 + (n - r0) = n by omega, Nat.zero_add] at this; exact this
      · rfl
    refine c9_inner (m := m) (s := s) hn (by omega) (n - r0) r0 (by omega) (by omega) hO hf hm (by omega) fun A' c' M' hC hO' => ?_
    have hlen := inner_len n s (n - r0) r0
    refine c9_outer hn0 hn k (s + 1) (by omega) hO' (by rw [hC.floor]; exact hf) (Nat.le_trans hm hC.size) (by simp only [List.length_append]; omega) fun A2 c2 M2 hC2 hO2 => ?_
    have e : l ++ inner n s r0 (n - r0) ++ outer n (s + 1) k = l ++ outer n s (k + 1) := by rw [outer, e1, List.append_assoc]
    rw [e] at hO2 ⊢
    exact h A2 c2 M2 (hC.trans hC2) hO2

theorem c9 (x : Int) (M : Mem) (hf : M.floor ≤ M.nb.size) : Cn Try.prog 9 #[.int .i64 x] M fun v M' => Gives M x v M' := by
  refine w9_0 (Cn.mono (c21 x M) ?_)
  rintro v N ⟨rfl, rfl⟩
  refine ⟨_, rfl, fun h0 => ?_, fun h0 => ?_⟩
  · have e : ordL x = [] := by simp [ordL, h0, ord, outer]
    refine ⟨none, 0, by rw [e]; simp [ordE, h0], .refl _, .inl ⟨rfl, by rw [e]; rfl, rfl⟩⟩
  · have hc := side_cases x
    obtain ⟨n, hn⟩ : ∃ n : Nat, side x = n := ⟨(side x).toNat, by omega⟩
    rw [hn] at h0 hc ⊢
    have hb : (n : Int) * n ≤ 32 * 32 := by
      have : n * n ≤ 32 * 32 := Nat.mul_le_mul (by omega) (by omega)
      exact_mod_cast this
    have hb0 : (0 : Int) ≤ (n : Int) * n := Int.mul_nonneg (by omega) (by omega)
    rw [wr _ (by omega)]
    obtain ⟨A, M1, p1, p2, p3, p4⟩ := make_own (k := .i64) (k' := .i64) (l := 0) (c := (n : Int) * n) elem (S := fun j => N.nb.size ≤ j) (M := N) (by omega) (by omega) (by omega) (Nat.le_refl _)
    refine ⟨_, p1, _, rfl, ?_⟩
    refine c9_outer (m := N.nb.size) (l := []) (by omega) (by omega) (2 * n - 1) 0 (by omega) p4 (by rw [p2.floor]; exact hf) p2.size (by simp; omega) fun A' c' M' hC hO => ?_
    have e : ordL x = ord n := by simp [ordL, hn]
    refine ⟨A', c', ?_, Keep.step (.refl _) (p2.trans hC) fun j hj => hj, ?_⟩
    · rw [e]; simp [ordE, hn, ord]; omega
    · rw [e]; simpa [ord] using hO
end Go.Zt
