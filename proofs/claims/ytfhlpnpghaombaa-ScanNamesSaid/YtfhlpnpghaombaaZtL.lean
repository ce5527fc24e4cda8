/- What the contexts of layer 10 come to. -/
import Derived.Test.YtfhlpnpghaombaaZtI
import Derived.Test.YtfhlpnpghaombaaZtK
set_option linter.unusedSimpArgs false
set_option linter.unusedVariables false
namespace Go.Zt
open Go Go.Sim Go.Proofs Go.RowKit

/-- A level without its sign, at most so much. -/
def lv (v most : Int) : Int := if v > most ∨ v < -most then most else if v < 0 then -v else v
theorem lv_le {v most : Int} (h : 0 ≤ most) : 0 ≤ lv v most ∧ lv v most ≤ most := by
  unfold lv
  by_cases h1 : v > most ∨ v < -most
  · rw [if_pos h1]; omega
  · rw [if_neg h1]; by_cases h2 : v < 0
    · rw [if_pos h2]; omega
    · rw [if_neg h2]; omega
/-- The level at a row and a column; 0 outside. -/
def some_ (l : List Int) (n r c : Nat) (most : Int) : Int := if r ≥ n ∨ c ≥ n then 0 else lv (l.getD (r * n + c) 0) most
theorem some_le {l : List Int} {n r c : Nat} {most : Int} (h : 0 ≤ most) : 0 ≤ some_ l n r c most ∧ some_ l n r c most ≤ most := by
  unfold some_
  split
  · omega
  · exact lv_le h
/-- Are the arguments such as the chapter asks? -/
def asked (l : List Int) (size at_ : Int) : Prop := 0 < side size ∧ (l.length : Int) = side size * side size ∧ 0 ≤ at_ ∧ at_ < side size * side size
instance (l : List Int) (size at_ : Int) : Decidable (asked l size at_) := by unfold asked; infer_instance
def sums (l : List Int) (n at_ : Nat) (most : Int) : List (Nat × Nat) → Int
  | [] => 0
  | d :: r => some_ l n (at_ / n + d.1) (at_ % n + d.2) most + sums l n at_ most r
theorem sums_le (l : List Int) (n at_ : Nat) {most : Int} (h : 0 ≤ most) : ∀ ds : List (Nat × Nat), 0 ≤ sums l n at_ most ds ∧ sums l n at_ most ds ≤ ds.length * most
  | [] => by simp [sums]
  | d :: r => by
    have h1 := sums_le l n at_ h r
    have h2 := @some_le l n (at_ / n + d.1) (at_ % n + d.2) most h
    have h3 : ((r.length + 1 : Nat) : Int) * most = r.length * most + most := by rw [Int.natCast_add, Int.add_mul]; simp
    simp only [sums, List.length_cons, h3]; omega
def around (most : Int) : List (Nat × Nat) := if most = 3 then [(0, 1), (1, 0), (1, 1), (0, 2), (2, 0)] else [(0, 1), (1, 0), (1, 1)]
def ctx (l : List Int) (size at_ most all : Int) : Int × Int :=
  if asked l size at_ then (min all ((sums l (side size).toNat at_.toNat most (around most) + 1) / 2), 0) else (0, 2)
def ctxV (l : List Int) (size at_ most all : Int) : Value := .tuple #[.int .i64 (ctx l size at_ most all).1, .int .i64 (ctx l size at_ most all).2]

/-! ### The document's -/
theorem c26 {M : Mem} {A : Option Addr} {l : List Int} (hA : Row M A (I64 l)) {c : Nat} {n r k : Nat} {most : Int} (hn : n ≤ 32) (hr : r ≤ 100) (hk : k ≤ 100) (hm : 0 ≤ most ∧ most ≤ 100) (hl : l.length = n * n) :
    Cn Try.prog 26 #[.slice A l.length c, .int .i64 n, .int .i64 r, .int .i64 k, .int .i64 most] M fun v N => v = .int .i64 (some_ l n r k most) ∧ N = M := by
  have key : ∀ b : Bool, (b = true ↔ (r ≥ n ∨ k ≥ n)) → A26_1 A l.length c n r k most b M fun v N => v = .int .i64 (some_ l n r k most) ∧ N = M := by
    intro b hb
    refine w26_1 ⟨fun h => ?_, fun h => ?_⟩
    · have := hb.1 h
      exact ⟨by rw [some_, if_pos this], rfl⟩
    · have h2 : ¬ (r ≥ n ∨ k ≥ n) := fun hh => by rw [hb.2 hh] at h; cases h
      have hb1 : r * n ≤ 32 * 32 := Nat.mul_le_mul (by omega) hn
      have hlt : r * n + k < n * n := by
        have h1 : (r + 1) * n ≤ n * n := Nat.mul_le_mul_right n (by omega)
        rw [Nat.add_mul] at h1; omega
      have e1 : (r : Int) * n = ((r * n : Nat) : Int) := by norm_cast
      rw [e1, wr ((r * n : Nat) : Int) (by omega), wr _ (by omega), show (((r * n : Nat) : Int) + k) = ((r * n + k : Nat) : Int) by omega]
      have hx : l[r * n + k]? = some (l.getD (r * n + k) 0) := by
        rw [List.getD, List.getElem?_eq_getElem (by omega)]; rfl
      refine Row.rd elem hA (x := l.getD (r * n + k) 0) (by simp) (by omega) (by omega) (by simp only [Int.toNat_natCast, List.getElem?_map, hx]; rfl) ?_
      have e : some_ l n r k most = lv (l.getD (r * n + k) 0) most := by rw [some_, if_neg h2]
      rw [e]
      generalize l.getD (r * n + k) 0 = x
      rw [wr (0 - most) (by omega)]
      have k2 : ∀ b : Bool, (b = true ↔ (x > most ∨ x < -most)) → A26_2 most x b M fun v N => v = .int .i64 (lv x most) ∧ N = M := by
        intro b hb
        refine w26_2 ⟨fun h => ⟨by rw [lv, if_pos (hb.1 h)], rfl⟩, fun h => ?_⟩
        have h3 : ¬ (x > most ∨ x < -most) := fun hh => by rw [hb.2 hh] at h; cases h
        refine ⟨fun h4 => ⟨?_, rfl⟩, fun h4 => ⟨by rw [lv, if_neg h3, if_neg h4], rfl⟩⟩
        rw [lv, if_neg h3, if_pos h4, wr _ (by omega)]
        congr 1; omega
      refine ⟨fun h => k2 true (by simp [h]), fun h => k2 _ (by simp; omega)⟩
  refine w26_0 ⟨fun h => key true (by simp; omega), fun h => key _ (by simp; omega)⟩
theorem c25 {M : Mem} {A : Option Addr} {l : List Int} {c : Nat} {size at_ : Int} (hl : l.length ≤ 4611686018427387904) :
    Cn Try.prog 25 #[.slice A l.length c, .int .i64 size, .int .i64 at_] M fun v N => v = .bool (decide (asked l size at_)) ∧ N = M := by
  refine w25_0 (Cn.mono (c22 size M) ?_)
  rintro v N ⟨rfl, rfl⟩
  refine ⟨_, rfl, ?_⟩
  have hs := side_cases size
  have hsq : side size * side size ≤ 1024 ∧ 0 ≤ side size * side size := by rcases hs with h | h | h | h | h <;> rw [h] <;> decide
  rw [wr (side size * side size) (by omega)]
  have key : ∀ b : Bool, (b = true ↔ (0 < side size ∧ (l.length : Int) = side size * side size)) → A25_1 at_ (side size) b N fun v N' => v = .bool (decide (asked l size at_)) ∧ N' = N := by
    intro b hb
    refine w25_1 ⟨fun h => ?_, fun h => ?_⟩
    · have h1 := hb.1 h
      refine w25_2 ⟨fun h2 => ⟨?_, rfl⟩, fun h2 => ⟨?_, rfl⟩⟩
      · have h2 := of_decide_eq_true h2
        rw [wr (side size * side size) (by omega)]
        congr 1
        simp only [asked, h1.1, h1.2, true_and, decide_eq_decide]
        omega
      · have h2 := of_decide_eq_false h2
        congr 1
        symm; apply decide_eq_false
        intro h3; exact h2 h3.2.2.1
    · refine w25_2 ⟨fun h2 => (by cases h2), fun _ => ⟨?_, rfl⟩⟩
      congr 1
      symm; apply decide_eq_false
      intro h3
      rw [hb.2 ⟨h3.1, h3.2.1⟩] at h; cases h
  refine ⟨fun h => key _ (by simp; omega), fun h => key false (by simp; omega)⟩

theorem asked_nat {l : List Int} {size at_ : Int} (h : asked l size at_) : ∃ n a : Nat, side size = n ∧ at_ = a ∧ (n = 4 ∨ n = 8 ∨ n = 16 ∨ n = 32) ∧ l.length = n * n ∧ a < n * n := by
  obtain ⟨h1, h2, h3, h4⟩ := h
  have hs := side_cases size
  refine ⟨(side size).toNat, at_.toNat, by omega, by omega, by omega, ?_, ?_⟩
  · have : side size = ((side size).toNat : Int) := by omega
    rw [this] at h2; exact_mod_cast h2
  · have : side size = ((side size).toNat : Int) := by omega
    rw [this] at h4
    have h5 : at_ = (at_.toNat : Int) := by omega
    rw [h5] at h4; exact_mod_cast h4
theorem half {a : Int} (h : 0 ≤ a ∧ a ≤ 100000) : IntKind.i64.wrap ((IntKind.i64.wrap (a + 1)).tdiv 2) = (a + 1) / 2 := by
  rw [wr (a + 1) (by omega), Int.tdiv_eq_ediv_of_nonneg (by omega), wr _ (by omega)]
theorem c18 {M : Mem} {A : Option Addr} {l : List Int} (hA : Row M A (I64 l)) {c : Nat} {size at_ : Int} (hl : l.length ≤ 4611686018427387904) :
    Cn Try.prog 18 #[.slice A l.length c, .int .i64 size, .int .i64 at_] M fun v N => v = ctxV l size at_ 3 4 ∧ N = M := by
  refine w18_0 (Cn.mono (c25 hl) ?_)
  rintro v N ⟨rfl, rfl⟩
  refine ⟨_, rfl, fun h => ?_, fun h => ?_⟩
  · have h1 : ¬ asked l size at_ := by simpa using h
    exact ⟨by rw [ctxV, ctx, if_neg h1], rfl⟩
  · have h1 : asked l size at_ := by simpa using h
    obtain ⟨n, a, hs, ha, hn, hlen, hlt⟩ := asked_nat h1
    refine Cn.mono (c22 size N) ?_
    rintro v N' ⟨rfl, rfl⟩
    rw [hs, ha]
    have hdm := Nat.div_add_mod a n
    have hr : a / n < n := Nat.div_lt_of_lt_mul hlt
    have hc : a % n < n := Nat.mod_lt a (by omega)
    have h0 : (0 : Int) ≤ ((a / n : Nat) : Int) := Int.natCast_nonneg _
    have h00 : (0 : Int) ≤ ((a % n : Nat) : Int) := Int.natCast_nonneg _
    refine ⟨_, rfl, quo_of (by omega) (by have : n * n ≤ 32 * 32 := Nat.mul_le_mul (by omega) (by omega)
                                          omega) (remN_of (by omega) ?_)⟩
    generalize hR : a / n = r at *
    generalize hC : a % n = k at *
    rw [wr ((k : Int) + 1) (by omega), wr ((k : Int) + 2) (by omega), wr ((r : Int) + 1) (by omega), wr ((r : Int) + 2) (by omega)]
    have b := fun r k => @some_le l n r k 3 (by omega)
    have b1 := b r (k + 1)
    have b2 := b (r + 1) k
    have b3 := b (r + 1) (k + 1)
    have b4 := b r (k + 2)
    have b5 := b (r + 2) k
    refine Cn.mono (c26 hA (r := r) (k := k + 1) (most := 3) (by omega) (by omega) (by omega) (by omega) hlen) ?_
    rintro v N2 ⟨rfl, rfl⟩
    refine ⟨_, rfl, Cn.mono (c26 hA (r := r + 1) (k := k) (most := 3) (by omega) (by omega) (by omega) (by omega) hlen) ?_⟩
    rintro v N2 ⟨rfl, rfl⟩
    refine ⟨_, rfl, Cn.mono (c26 hA (r := r + 1) (k := k + 1) (most := 3) (by omega) (by omega) (by omega) (by omega) hlen) ?_⟩
    rintro v N2 ⟨rfl, rfl⟩
    refine ⟨_, rfl, Cn.mono (c26 hA (r := r) (k := k + 2) (most := 3) (by omega) (by omega) (by omega) (by omega) hlen) ?_⟩
    rintro v N2 ⟨rfl, rfl⟩
    refine ⟨_, rfl, Cn.mono (c26 hA (r := r + 2) (k := k) (most := 3) (by omega) (by omega) (by omega) (by omega) hlen) ?_⟩
    rintro v N2 ⟨rfl, rfl⟩
    refine ⟨_, rfl, ?_, rfl⟩
    have e : ctxV l size a 3 4 = .tuple #[.int .i64 (min 4 ((some_ l n r (k + 1) 3 + some_ l n (r + 1) k 3 + some_ l n (r + 1) (k + 1) 3 + some_ l n r (k + 2) 3 + some_ l n (r + 2) k 3 + 1) / 2)), .int .i64 0] := by
      rw [ctxV, ctx, if_pos (by rw [← ha]; exact h1)]
      simp only [hs, Int.toNat_natCast, around, if_true, sums, hR, hC, Nat.add_zero]
      congr 5; omega
    rw [e]
    rw [wr (some_ l n r (k + 1) 3 + some_ l n (r + 1) k 3) (by omega), wr (some_ l n r (k + 1) 3 + some_ l n (r + 1) k 3 + some_ l n (r + 1) (k + 1) 3) (by omega),
      wr (some_ l n r (k + 1) 3 + some_ l n (r + 1) k 3 + some_ l n (r + 1) (k + 1) 3 + some_ l n r (k + 2) 3) (by omega),
      wr (some_ l n r (k + 1) 3 + some_ l n (r + 1) k 3 + some_ l n (r + 1) (k + 1) 3 + some_ l n r (k + 2) 3 + some_ l n (r + 2) k 3) (by omega), half (by omega)]
    congr 4; omega
theorem c20 {M : Mem} {A : Option Addr} {l : List Int} (hA : Row M A (I64 l)) {c : Nat} {size at_ : Int} (hl : l.length ≤ 4611686018427387904) :
    Cn Try.prog 20 #[.slice A l.length c, .int .i64 size, .int .i64 at_] M fun v N => v = ctxV l size at_ 15 6 ∧ N = M := by
  refine w20_0 (Cn.mono (c25 hl) ?_)
  rintro v N ⟨rfl, rfl⟩
  refine ⟨_, rfl, fun h => ?_, fun h => ?_⟩
  · have h1 : ¬ asked l size at_ := by simpa using h
    exact ⟨by rw [ctxV, ctx, if_neg h1], rfl⟩
  · have h1 : asked l size at_ := by simpa using h
    obtain ⟨n, a, hs, ha, hn, hlen, hlt⟩ := asked_nat h1
    refine Cn.mono (c22 size N) ?_
    rintro v N' ⟨rfl, rfl⟩
    rw [hs, ha]
    have hdm := Nat.div_add_mod a n
    have hr : a / n < n := Nat.div_lt_of_lt_mul hlt
    have hc : a % n < n := Nat.mod_lt a (by omega)
    have h0 : (0 : Int) ≤ ((a / n : Nat) : Int) := Int.natCast_nonneg _
    have h00 : (0 : Int) ≤ ((a % n : Nat) : Int) := Int.natCast_nonneg _
    refine ⟨_, rfl, quo_of (by omega) (by have : n * n ≤ 32 * 32 := Nat.mul_le_mul (by omega) (by omega)
                                          omega) (remN_of (by omega) ?_)⟩
    generalize hR : a / n = r at *
    generalize hC : a % n = k at *
    rw [wr ((k : Int) + 1) (by omega), wr ((r : Int) + 1) (by omega)]
    have b := fun r k => @some_le l n r k 15 (by omega)
    have b1 := b r (k + 1)
    have b2 := b (r + 1) k
    have b3 := b (r + 1) (k + 1)
    refine Cn.mono (c26 hA (r := r) (k := k + 1) (most := 15) (by omega) (by omega) (by omega) (by omega) hlen) ?_
    rintro v N2 ⟨rfl, rfl⟩
    refine ⟨_, rfl, Cn.mono (c26 hA (r := r + 1) (k := k) (most := 15) (by omega) (by omega) (by omega) (by omega) hlen) ?_⟩
    rintro v N2 ⟨rfl, rfl⟩
    refine ⟨_, rfl, Cn.mono (c26 hA (r := r + 1) (k := k + 1) (most := 15) (by omega) (by omega) (by omega) (by omega) hlen) ?_⟩
    rintro v N2 ⟨rfl, rfl⟩
    refine ⟨_, rfl, ?_, rfl⟩
    have e : ctxV l size a 15 6 = .tuple #[.int .i64 (min 6 ((some_ l n r (k + 1) 15 + some_ l n (r + 1) k 15 + some_ l n (r + 1) (k + 1) 15 + 1) / 2)), .int .i64 0] := by
      rw [ctxV, ctx, if_pos (by rw [← ha]; exact h1)]
      simp only [hs, Int.toNat_natCast, around, show ¬ ((15 : Int) = 3) by decide, if_false, sums, hR, hC, Nat.add_zero]
      congr 5; omega
    rw [e]
    rw [wr (some_ l n r (k + 1) 15 + some_ l n (r + 1) k 15) (by omega), wr (some_ l n r (k + 1) 15 + some_ l n (r + 1) k 15 + some_ l n (r + 1) (k + 1) 15) (by omega), half (by omega)]
    congr 4; omega

/-! ### The program's -/
def flat (ds : List (Nat × Nat)) : List Int := ds.flatMap fun d => [(d.1 : Int), (d.2 : Int)]
theorem flat_len : ∀ ds, (flat ds).length = 2 * ds.length
  | [] => rfl
  | d :: r => by
    have := flat_len r
    simp only [flat, List.flatMap_cons, List.length_append, List.length_cons, List.length_nil] at this ⊢; omega
theorem flat_at : ∀ (ds : List (Nat × Nat)) (i : Nat) (h : i < ds.length), (flat ds)[2 * i]? = some (ds[i].1 : Int) ∧ (flat ds)[2 * i + 1]? = some (ds[i].2 : Int)
  | [], i, h => by simp at h
  | d :: r, 0, h => by simp [flat]
  | d :: r, i + 1, h => by
    have := flat_at r i (by simpa using h)
    simpa [flat, Nat.mul_add] using this
theorem size43 : sizeP Try.prog 43 = some 2 := by kernel_rfl
theorem slice44 : Try.prog.underlying 44 = some (.slice 43) := by kernel_rfl
theorem index2 {a : Addr} {n c : Nat} {i : Int} (h0 : 0 ≤ i) (hn : i < n) :
    indexAddrP Try.prog 44 (.slice (some a) n c) (.int .i64 i) = some (.pointer (some ⟨a.block, a.off + i.toNat * 2, none⟩)) := by
  simp only [indexAddrP, slice44, size43, Option.bind_some]
  rw [if_pos ⟨h0, hn⟩]
theorem field0 (b : Nat) : fieldAddrP Try.prog 43 (.pointer (some ⟨b, 0, none⟩)) 0 = some (.pointer (some ⟨b, 0, none⟩)) := by kernel_rfl
theorem field1 (b : Nat) : fieldAddrP Try.prog 43 (.pointer (some ⟨b, 0, none⟩)) 1 = some (.pointer (some ⟨b, 1, none⟩)) := by kernel_rfl
/-- A pair is copied. -/
theorem pair_of {M : Mem} (hf : M.floor ≤ M.nb.size) (x y : Int) : ∃ M8, (M.new (.cells #[.int .i64 0, .int .i64 0] 43)).put (2 * M.nb.size) 0 (.int .i64 x) = some M8 ∧
    ∃ M9, M8.put (2 * M.nb.size) 1 (.int .i64 y) = some M9 ∧ Keep M M9 ∧ M9.intAt .i64 (2 * M.nb.size) 0 = some x ∧ M9.intAt .i64 (2 * M.nb.size) 1 = some y := by
  obtain ⟨M8, a1, a2, a3, a4⟩ := put_chg (S := fun j => M.nb.size ≤ j) (M := M.new (.cells #[.int .i64 0, .int .i64 0] 43)) (o := 0) (v := .int .i64 x) (Nat.le_refl _) hf (Mem.new_at _ _) (by decide) rfl
  obtain ⟨M9, b1, b2, b3, b4⟩ := put_chg (S := fun j => M.nb.size ≤ j) (M := M8) (o := 1) (v := .int .i64 y) (Nat.le_refl M.nb.size) (by rw [a2.floor]; exact hf) a4 (by simp) rfl
  refine ⟨M8, a1, M9, b1, Keep.step (.refl _) (((Chg.new M _).trans a2).trans b2) fun j h => h, ?_, ?_⟩
  · simp only [Mem.intAt, cell_new, b4]; simp [asI]
  · simp only [Mem.intAt, cell_new, b4]; simp [asI]
theorem clip {x each : Int} (h : 0 ≤ each ∧ each ≤ 100) : (x ≥ 0 → (if each < x then each else x) = lv x each) ∧ (¬ x ≥ 0 → IntKind.i64.wrap (0 - (if IntKind.i64.wrap (0 - each) > x then IntKind.i64.wrap (0 - each) else x)) = lv x each) := by
  rw [wr (0 - each) (by omega)]
  unfold lv
  refine ⟨fun h1 => ?_, fun h1 => ?_⟩
  · by_cases h2 : each < x
    · rw [if_pos h2, if_pos (by omega)]
    · rw [if_neg h2, if_neg (by omega), if_neg (by omega)]
  · by_cases h2 : 0 - each > x
    · rw [if_pos h2, if_pos (by omega), wr _ (by omega)]; omega
    · rw [if_neg h2, if_neg (by omega), if_pos (by omega), wr _ (by omega)]; omega
theorem c24_loop {l : List Int} {A B : Option Addr} {c m d n at_ : Nat} {each all : Int} {ds : List (Nat × Nat)} (hn : n = 4 ∨ n = 8 ∨ n = 16 ∨ n = 32) (hl : l.length = n * n) (ha : at_ < n * n) (he : 0 ≤ each ∧ each ≤ 100) (hm : m = ds.length) (hm2 : m ≤ 100)
    (hd : ∀ p ∈ ds, p.1 ≤ 10 ∧ p.2 ≤ 10) (M0 : Mem) (hA : Row M0 A (I64 l)) (hB : Row M0 B (I64 (flat ds))) {Q : Value → Mem → Prop}
    (hQ : ∀ M, Keep M0 M → ∀ s : Int, s = sums l n at_ each ds → Q (.tuple #[.int .i64 (min all ((s + 1) / 2)), .int .i64 0]) M) :
    ∀ (k i : Nat) (s : Int) {M : Mem}, i + k = m → Keep M0 M → M.floor ≤ M.nb.size → 0 ≤ s → s ≤ i * each → s + sums l n at_ each (ds.drop i) = sums l n at_ each ds → A24_4 A l.length c at_ each all n s B m d m i M Q
  | 0, i, s, M, hi, hK, hf, hs0, hs1, hs => by
    have h1 : (i : Int) * each ≤ 100 * 100 := Int.mul_le_mul (by omega) (by omega) (by omega) (by omega)
    refine w24_4 ⟨fun h => by omega, fun _ => ?_⟩
    have e : sums l n at_ each (ds.drop i) = 0 := by rw [List.drop_of_length_le (by omega)]; rfl
    have := hQ M hK s (by omega)
    rw [half (by omega)]
    have e2 : (if all < (s + 1) / 2 then all else (s + 1) / 2) = min all ((s + 1) / 2) := by omega
    rw [e2]; exact this
  | k + 1, i, s, M, hi, hK, hf, hs0, hs1, hs => by
    have hi2 : i < ds.length := by omega
    have h1 : (i : Int) * each ≤ 100 * 100 := Int.mul_le_mul (by omega) (by omega) (by omega) (by omega)
    have hnn : n * n ≤ 32 * 32 := Nat.mul_le_mul (by omega) (by omega)
    obtain ⟨g1, g2⟩ := flat_at ds i hi2
    have hp := hd ds[i] (List.getElem_mem hi2)
    rw [List.drop_eq_getElem_cons hi2, sums] at hs
    generalize ds[i] = p at *
    obtain ⟨q, hq⟩ : ∃ q, B = some q := by
      obtain ⟨q, hq, _⟩ := hB 0 (by rw [List.length_map, flat_len]; omega)
      exact ⟨q, hq⟩
    subst hq
    have rdB : ∀ (o : Nat) (x : Int), (flat ds)[o]? = some x → M.intAt .i64 q.block (q.off + o) = some x := by
      intro o x hx
      obtain ⟨hlt, hx⟩ := List.getElem?_eq_some_iff.1 hx
      obtain ⟨b, hb, hc⟩ := (hB.keep hK) o (by simpa using hlt)
      obtain rfl := Option.some.inj hb
      rw [Mem.intAt, hc]
      simp [asI, hx]
    have hr : at_ / n < n := Nat.div_lt_of_lt_mul ha
    have hc : at_ % n < n := Nat.mod_lt at_ (by omega)
    have h0 : (0 : Int) ≤ ((at_ / n : Nat) : Int) := Int.natCast_nonneg _
    have h00 : (0 : Int) ≤ ((at_ % n : Nat) : Int) := Int.natCast_nonneg _
    obtain ⟨M8, p1, M9, p2, p3, p4, p5⟩ := pair_of hf (p.1 : Int) (p.2 : Int)
    have hK9 := hK.trans p3
    have hf9 : M9.floor ≤ M9.nb.size := by rw [p3.floor]; exact Nat.le_trans hf p3.size
    refine w24_4 ⟨fun _ => ⟨_, index2 (by omega) (by omega), _, rfl, _, rfl, (p.1 : Int), ?_, (p.2 : Int), ?_, M8, p1, M9, p2, quo_of (by omega) (by omega) ⟨_, field0 _, _, rfl, _, rfl, _, p4, remN_of (by omega) ⟨_, field1 _, _, rfl, _, rfl, _, p5, ?_⟩⟩⟩, fun h => by omega⟩
    · rw [show q.off + (i : Int).toNat * 2 = q.off + 2 * i by simp; omega]; exact rdB _ _ g1
    · rw [show q.off + (i : Int).toNat * 2 + 1 = q.off + (2 * i + 1) by simp; omega]; exact rdB _ _ g2
    have hv := @some_le l n (at_ / n + p.1) (at_ % n + p.2) each he.1
    generalize at_ / n = r at *
    generalize at_ % n = k' at *
    rw [wr ((r : Int) + p.1) (by omega), wr ((k' : Int) + p.2) (by omega), show ((r : Int) + p.1) = ((r + p.1 : Nat) : Int) by omega, show ((k' : Int) + p.2) = ((k' + p.2 : Nat) : Int) by omega]
    have next : ∀ s2 : Int, s2 = s + some_ l n (r + p.1) (k' + p.2) each → A24_6 A l.length c at_ each all n s2 (some q) m d m i M9 Q := by
      intro s2 h2
      refine w24_6 ?_
      rw [wr _ (by omega), show ((i : Int) + 1) = ((i + 1 : Nat) : Int) by omega]
      have e : ((i + 1 : Nat) : Int) * each = i * each + each := by rw [Int.natCast_add, Int.add_mul]; simp
      exact c24_loop hn hl ha he hm hm2 hd M0 hA hB hQ k (i + 1) s2 (by omega) hK9 hf9 (by omega) (by omega) (by omega)
    have key : ∀ b : Bool, (b = true ↔ (r + p.1 ≥ n ∨ k' + p.2 ≥ n)) → A24_5 A l.length c at_ each all n s ((r + p.1 : Nat) : Int) ((k' + p.2 : Nat) : Int) (some q) m d m i b M9 Q := by
      intro b hb
      refine w24_5 ⟨fun h => next s ?_, fun h => ?_⟩
      · rw [some_, if_pos (hb.1 h)]; omega
      · have h2 : ¬ (r + p.1 ≥ n ∨ k' + p.2 ≥ n) := fun hh => by rw [hb.2 hh] at h; cases h
        have e : some_ l n (r + p.1) (k' + p.2) each = lv (l.getD ((r + p.1) * n + (k' + p.2)) 0) each := by rw [some_, if_neg h2]
        rw [e] at next hv
        generalize r + p.1 = r2 at *
        generalize k' + p.2 = k2 at *
        have hb1 : r2 * n ≤ 32 * 32 := Nat.mul_le_mul (by omega) (by omega)
        have hlt : r2 * n + k2 < n * n := by
          have h1 : (r2 + 1) * n ≤ n * n := Nat.mul_le_mul_right n (by omega)
          rw [Nat.add_mul] at h1; omega
        have e1 : (r2 : Int) * n = ((r2 * n : Nat) : Int) := by norm_cast
        rw [e1, wr ((r2 * n : Nat) : Int) (by omega), wr _ (by omega), show (((r2 * n : Nat) : Int) + k2) = ((r2 * n + k2 : Nat) : Int) by omega]
        have hx : l[r2 * n + k2]? = some (l.getD (r2 * n + k2) 0) := by
          rw [List.getD, List.getElem?_eq_getElem (by omega)]; rfl
        refine Row.rd elem (hA.keep hK9) (x := l.getD (r2 * n + k2) 0) (by simp) (by omega) (by omega) (by simp only [Int.toNat_natCast, List.getElem?_map, hx]; rfl) ?_
        generalize l.getD (r2 * n + k2) 0 = x at *
        obtain ⟨q1, q2⟩ := @clip x each he
        refine ⟨fun h3 => ?_, fun h3 => ?_⟩
        · rw [q1 h3, wr _ (by omega)]; exact next _ rfl
        · rw [q2 h3, wr _ (by omega)]; exact next _ rfl
    refine ⟨fun h => key true (by simp; omega), fun h => key _ (by simp; omega)⟩
theorem c24 {l : List Int} {A B : Option Addr} {c m d : Nat} {size at_ each all : Int} {ds : List (Nat × Nat)} (he : 0 ≤ each ∧ each ≤ 100) (hm : m = ds.length) (hm2 : m ≤ 100) (hds : ds = around each)
    (hd : ∀ p ∈ ds, p.1 ≤ 10 ∧ p.2 ≤ 10) (M : Mem) (hA : Row M A (I64 l)) (hB : Row M B (I64 (flat ds))) (hl : l.length ≤ 4611686018427387904) (hf : M.floor ≤ M.nb.size) :
    Cn Try.prog 24 #[.slice A l.length c, .int .i64 size, .int .i64 at_, .int .i64 each, .int .i64 all, .slice B m d] M fun v N => v = ctxV l size at_ each all ∧ Keep M N := by
  refine w24_0 (Cn.mono (c21 size M) ?_)
  rintro v N ⟨rfl, rfl⟩
  have hs := side_cases size
  have hsq : side size * side size ≤ 1024 ∧ 0 ≤ side size * side size := by rcases hs with h | h | h | h | h <;> rw [h] <;> decide
  have no : ¬ asked l size at_ → (Value.tuple #[.int .i64 0, .int .i64 2]) = ctxV l size at_ each all := fun h => by rw [ctxV, ctx, if_neg h]
  have s3 : ∀ b : Bool, (b = true ↔ ¬ asked l size at_) → A24_3 A l.length c at_ each all B m d (side size) b N fun v N' => v = ctxV l size at_ each all ∧ Keep N N' := by
    intro b hb
    refine w24_3 ⟨fun h => ⟨no (hb.1 h), .refl _⟩, fun h => ?_⟩
    have h1 : asked l size at_ := Decidable.byContradiction fun hh => by rw [hb.2 hh] at h; cases h
    obtain ⟨n, a, e1, e2, hn, hlen, hlt⟩ := asked_nat h1
    rw [e1, e2]
    refine c24_loop hn hlen hlt he hm hm2 hd N hA hB (fun M' hK s hS => ⟨?_, hK⟩) m 0 0 (by omega) (.refl _) hf (by omega) (by omega) (by simp)
    rw [ctxV, ctx, if_pos (by rw [← e2]; exact h1)]
    simp only [e1, Int.toNat_natCast, ← hds, hS]
  have s2 : ∀ b : Bool, (b = true → ¬ asked l size at_) → (b = false → (0 < side size ∧ (l.length : Int) = side size * side size ∧ 0 ≤ at_)) → A24_3 A l.length c at_ each all B m d (side size) true N (fun v N' => v = ctxV l size at_ each all ∧ Keep N N') ∨ b = false → A24_2 A l.length c at_ each all B m d (side size) b N fun v N' => v = ctxV l size at_ each all ∧ Keep N N' := by
    intro b h1 h2 _
    refine w24_2 ⟨fun h => s3 true (by simp [h1 h]), fun h => s3 _ ?_⟩
    obtain ⟨q1, q2, q3⟩ := h2 h
    simp only [decide_eq_true_eq, asked, q1, q3, true_and]
    omega
  have s1 : ∀ b : Bool, (b = true → ¬ asked l size at_) → (b = false → (0 < side size ∧ (l.length : Int) = side size * side size)) → A24_1 A l.length c at_ each all B m d (side size) b N fun v N' => v = ctxV l size at_ each all ∧ Keep N N' := by
    intro b h1 h2
    refine w24_1 ⟨fun h => s2 true (fun _ => h1 h) (fun h => by cases h) (.inl (s3 true (by simp [h1 h]))), fun h => ?_⟩
    obtain ⟨q1, q2⟩ := h2 h
    by_cases h4 : at_ < 0
    · have na : ¬ asked l size at_ := fun h => by have := h.2.2.1; omega
      rw [decide_eq_true h4]
      exact s2 true (fun _ => na) (fun h => by cases h) (.inl (s3 true (by simp [na])))
    · rw [decide_eq_false h4]
      exact s2 false (fun h => by cases h) (fun _ => ⟨q1, q2, by omega⟩) (.inr rfl)
  refine ⟨_, rfl, fun h => s1 true (fun _ hh => by have := hh.1; omega) (fun h => by cases h), fun h => ?_⟩
  rw [wr (side size * side size) (by omega)]
  by_cases h4 : (l.length : Int) = side size * side size
  · have e : ((l.length : Int) != side size * side size) = false := by simp [h4]
    rw [e]
    exact s1 false (fun h => by cases h) (fun _ => ⟨by omega, h4⟩)
  · have e : ((l.length : Int) != side size * side size) = true := by simp [h4]
    rw [e]
    exact s1 true (fun _ hh => h4 hh.2.1) (fun h => by cases h)
theorem c17 {l : List Int} {A : Option Addr} {c : Nat} {size at_ : Int} (M : Mem) (hA : Row M A (I64 l)) (hl : l.length ≤ 4611686018427387904) (hf : M.floor ≤ M.nb.size) :
    Cn Try.prog 17 #[.slice A l.length c, .int .i64 size, .int .i64 at_] M fun v N => v = ctxV l size at_ 3 4 ∧ Keep M N := by
  have hK : Keep M (M.new (.cells (I64 (flat (around 3))).toArray 43)) := .new _ _
  refine w17_0 (Cn.mono (c24 (ds := around 3) (each := 3) (all := 4) (by omega) rfl (by decide) rfl (by decide) _ (hA.keep hK) (Row.new M 43 (I64 (flat (around 3)))) hl (show M.floor ≤ _ from Nat.le_trans hf hK.size)) ?_)
  rintro v N ⟨rfl, hK2⟩
  exact ⟨_, rfl, _, rfl, _, rfl, rfl, hK.trans hK2⟩
theorem c19 {l : List Int} {A : Option Addr} {c : Nat} {size at_ : Int} (M : Mem) (hA : Row M A (I64 l)) (hl : l.length ≤ 4611686018427387904) (hf : M.floor ≤ M.nb.size) :
    Cn Try.prog 19 #[.slice A l.length c, .int .i64 size, .int .i64 at_] M fun v N => v = ctxV l size at_ 15 6 ∧ Keep M N := by
  have hK : Keep M (M.new (.cells (I64 (flat (around 15))).toArray 43)) := .new _ _
  refine w19_0 (Cn.mono (c24 (ds := around 15) (each := 15) (all := 6) (by omega) rfl (by decide) rfl (by decide) _ (hA.keep hK) (Row.new M 43 (I64 (flat (around 15)))) hl (show M.floor ≤ _ from Nat.le_trans hf hK.size)) ?_)
  rintro v N ⟨rfl, hK2⟩
  exact ⟨_, rfl, _, rfl, _, rfl, rfl, hK.trans hK2⟩
end Go.Zt
