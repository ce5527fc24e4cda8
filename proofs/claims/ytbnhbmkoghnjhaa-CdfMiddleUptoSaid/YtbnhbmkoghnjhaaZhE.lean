/- Layer 3: tables; which may be; where a value's part ends. -/
import Derived.Test.YtbnhbmkoghnjhaaZhB
import Derived.Test.YtbnhbmkoghnjhaaZqT
set_option linter.unusedSimpArgs false
set_option linter.unusedVariables false
set_option maxRecDepth 100000
namespace Go.Zt
open Go Go.Sim Go.Proofs Go.RowKit

abbrev uL (l : List Nat) : List Value := l.map fun x => .int .u16 ((x : Nat) : Int)
def gn (l : List Nat) (i : Nat) : Nat := l.getD i 0
theorem el16 : ElemS Try.prog 22 47 1 2 (.int .u16 0) := ⟨by kernel_rfl, by kernel_rfl, rfl, by decide, by decide⟩
theorem em16 : Elem Try.prog 22 47 2 (.int .u16 0) := ⟨by kernel_rfl, by kernel_rfl, rfl, by decide, by decide⟩
theorem gn_get {l : List Nat} {i : Nat} (h : i < l.length) : l[i]? = some (gn l i) := by
  unfold gn; rw [List.getD_eq_getElem?_getD, List.getElem?_eq_getElem h]; rfl
theorem gn_at {l : List Nat} {i : Nat} (h : i < l.length) : (uL l)[i]? = some (.int .u16 ((gn l i : Nat) : Int)) := by
  rw [List.getElem?_map, gn_get h]; rfl
theorem gn_mem {l : List Nat} {i : Nat} (h : i < l.length) : gn l i ∈ l := List.mem_of_getElem? (gn_get h)
theorem gn_ge {l : List Nat} {i : Nat} (h : l.length ≤ i) : gn l i = 0 := by
  unfold gn; rw [List.getD_eq_getElem?_getD, List.getElem?_eq_none h]; rfl
theorem gn_b {l : List Nat} {B : Nat} (h : ∀ x ∈ l, x ≤ B) (i : Nat) : gn l i ≤ B := by
  rcases Nat.lt_or_ge i l.length with hi | hi
  · exact h _ (gn_mem hi)
  · rw [gn_ge hi]; exact Nat.zero_le _
theorem _root_.Go.Sim.Row.u16 {M : Mem} {A : Option Addr} {l : List Nat} (hR : Row M A (uL l)) {n i : Nat} {z : Int} (hn : n = l.length) (hz : z = (i : Int)) (hi : i < l.length) :
    ∃ a, idxA A n 1 z = some a ∧ M.intAt .u16 a.block a.off = some ((gn l i : Nat) : Int) := hR.int1 hz (by omega) (gn_at hi)
theorem fb {M N : Mem} (hf : M.floor ≤ M.nb.size) (K : Keep M N) : N.floor ≤ N.nb.size := by rw [K.floor]; exact Nat.le_trans hf K.size
/-- The two cells of a table's variable. -/
abbrev tcells (A : Option Addr) (n c : Nat) (k : Int) : Blk := .cells #[.slice A n c, .int .i64 k] 24
theorem put2 {M : Mem} {j : Nat} {x y : Value} {t : TypeId} {A : Option Addr} {n c : Nat} {k : Int} (h : M.nb[j]? = some (.cells #[x, y] t)) (hf : M.floor ≤ j) :
    ∃ M1, M.put (2 * j) 0 (.slice A n c) = some M1 ∧ ∃ M2, M1.put (2 * j) 1 (.int .i64 k) = some M2 ∧ Chg (· = j) M M2 ∧ M2.nb.size = M.nb.size ∧ M2.nb[j]? = some (.cells #[.slice A n c, .int .i64 k] t) := by
  have hj := lt_of_at h
  have p1 := put_of (i := 0) (v := .slice A n c) h hf (by simp) rfl
  have u1 := upd_at (M := M) (b := .cells ((#[x, y] : Array Value).setIfInBounds 0 (.slice A n c)) t) hj
  have p2 := put_of (i := 1) (v := .int .i64 k) u1 hf (by simp) rfl
  refine ⟨_, p1, _, p2, (upd_chg (S := (· = j)) rfl).trans (upd_chg (S := (· = j)) rfl), by rw [upd_size, upd_size], ?_⟩
  exact upd_at (by rw [upd_size]; exact hj)
/-! ### Small functions -/
theorem c36 {x : Int} {M : Mem} : Cn Try.prog 36 #[.int .i64 x] M fun v N => v = .bool (decide (2 ≤ x ∧ x ≤ 16)) ∧ N = M := by
  refine w36_0 ⟨fun h => ⟨?_, rfl⟩, fun h => ⟨?_, rfl⟩⟩
  · congr 1; by_cases h2 : x ≤ 16
    · rw [decide_eq_true h2, decide_eq_true ⟨by omega, h2⟩]
    · rw [decide_eq_false h2, decide_eq_false (by omega)]
  · rw [decide_eq_false (by omega)]
theorem c44 {x : Int} {M : Mem} : Cn Try.prog 44 #[.int .u16 x] M fun v N => v = .bool false ∧ N = M := w44_0 ⟨by simp, rfl⟩
theorem c41 {x y : Int} {M : Mem} : Cn Try.prog 41 #[.int .u16 x, .int .u16 y] M fun v N => v = .bool (decide (x < y)) ∧ N = M :=
  w41_0 (Cn.eq c44 ⟨_, rfl, fun h => (by cases h), fun _ => ⟨rfl, rfl⟩⟩)
/-- Sorted, up to a place. -/
def Srt (l : List Nat) (i : Nat) : Prop := ∀ k, i ≤ k → k + 1 < l.length → gn l k ≤ gn l (k + 1)
def srtB (l : List Nat) : Bool := (List.range (l.length - 1)).all fun k => decide (gn l k ≤ gn l (k + 1))
theorem srtB_iff {l : List Nat} : srtB l = true ↔ Srt l 0 := by
  unfold srtB Srt
  rw [List.all_eq_true]
  constructor
  · intro h k _ hk; exact of_decide_eq_true (h k (List.mem_range.2 (by omega)))
  · intro h k hk; exact decide_eq_true (h k (Nat.zero_le _) (by have := List.mem_range.1 hk; omega))
theorem srtB_bad {l : List Nat} {k : Nat} (hk : k + 1 < l.length) (h : gn l (k + 1) < gn l k) : srtB l = false := by
  rw [← Bool.not_eq_true, srtB_iff]; intro hs; have := hs k (Nat.zero_le _) hk; omega
section
variable {M : Mem} {A : Option Addr} {n c : Nat} {l : List Nat} {k : Int}
theorem c37 (hR : Row M A (uL l)) (hn : n = l.length) (hb : n ≤ 1099511627776) : Cn Try.prog 37 #[.slice A n c] M fun v N => v = .bool (srtB l) ∧ N = M := by
  have loop : ∀ (i : Nat), i + 1 ≤ n → Srt l i → A37_1 A n c (i : Nat) M fun v N => v = .bool (srtB l) ∧ N = M := by
    intro i
    induction i with
    | zero =>
      intro _ hs
      exact w37_1 ⟨fun h => by omega, fun _ => ⟨by rw [srtB_iff.2 hs], rfl⟩⟩
    | succ i ih =>
      intro hi hs
      obtain ⟨a, a1, a2⟩ := hR.u16 (n := n) (i := i + 1) (z := ((i + 1 : Nat) : Int)) hn rfl (by omega)
      obtain ⟨b, b1, b2⟩ := hR.u16 (n := n) (i := i) (z := ((i : Nat) : Int)) hn rfl (by omega)
      have hw : IntKind.i64.wrap (((i + 1 : Nat) : Int) - 1) = (i : Nat) := by rw [i64w (by omega)]; omega
      refine w37_1 ⟨fun _ => ⟨_, a1, _, a2, ?_⟩, fun h => by omega⟩
      rw [hw]
      refine ⟨_, b1, _, b2, Cn.eq c41 ⟨_, rfl, fun h => ?_, fun h => ?_⟩⟩
      · have := of_decide_eq_true h
        exact ⟨by rw [srtB_bad (k := i) (by omega) (by omega)], rfl⟩
      · have := of_decide_eq_false h
        refine ih (by omega) fun q hq hq2 => ?_
        by_cases e : q = i
        · subst e; omega
        · exact hs q (by omega) hq2
  refine w37_0 ?_
  rw [i64w (by omega)]
  rcases Nat.eq_zero_or_pos n with h0 | h0
  · subst h0
    refine w37_1 ⟨fun h => by omega, fun _ => ⟨?_, rfl⟩⟩
    rw [srtB_iff.2 fun q _ hq => by omega]
  · rw [show ((n : Int) - 1) = ((n - 1 : Nat) : Int) by omega]
    exact loop (n - 1) (by omega) fun q hq hq2 => by omega
/-! ### Which tables may be -/
def checkS (l : List Nat) (k : Int) : Nat := if 2 ≤ l.length ∧ l.length ≤ 16 ∧ 0 ≤ k ∧ k ≤ 32 ∧ gn l (l.length - 1) = 32768 ∧ srtB l = true then 0 else 2
structure Okt (l : List Nat) (k : Int) : Prop where
  lo : 2 ≤ l.length
  hi : l.length ≤ 16
  k0 : 0 ≤ k
  k1 : k ≤ 32
  last : gn l (l.length - 1) = 32768
  srt : Srt l 0
theorem check_0 : checkS l k = 0 ↔ Okt l k := by
  unfold checkS
  constructor
  · intro h
    split at h
    · rename_i hh; exact ⟨hh.1, hh.2.1, hh.2.2.1, hh.2.2.2.1, hh.2.2.2.2.1, srtB_iff.1 hh.2.2.2.2.2⟩
    · cases h
  · intro h; rw [if_pos ⟨h.lo, h.hi, h.k0, h.k1, h.last, srtB_iff.2 h.srt⟩]
theorem check_2 (h : ¬ Okt l k) : checkS l k = 2 := by
  unfold checkS; rw [if_neg]; intro hh; exact h ⟨hh.1, hh.2.1, hh.2.2.1, hh.2.2.2.1, hh.2.2.2.2.1, srtB_iff.1 hh.2.2.2.2.2⟩
theorem Okt.mono (h : Okt l k) : ∀ (d i : Nat), i + d < l.length → gn l i ≤ gn l (i + d)
  | 0, i, _ => Nat.le_refl _
  | d + 1, i, hi => Nat.le_trans (h.mono d i (by omega)) (h.srt (i + d) (Nat.zero_le _) (by omega))
theorem Okt.le (h : Okt l k) (i : Nat) : gn l i ≤ 32768 := by
  rcases Nat.lt_or_ge i l.length with hi | hi
  · have := h.mono (l.length - 1 - i) i (by omega)
    rw [show i + (l.length - 1 - i) = l.length - 1 by omega, h.last] at this; exact this
  · rw [gn_ge hi]; omega
theorem c19 (hR : Row M A (uL l)) (hn : n = l.length) (hb : n ≤ 1099511627776) : Cn Try.prog 19 #[.agg #[.slice A n c, .int .i64 k]] M fun v N => v = .int .i64 (checkS l k : Nat) ∧ Keep M N := by
  have a0 := Mem.new_at M (tcells A n c k)
  have K0 : Keep M (M.new (tcells A n c k)) := .new _ _
  refine w19_0 ?_
  generalize M.new (tcells A n c k) = N at a0 K0 ⊢
  have hR := hR.keep K0
  have bad : ¬ Okt l k → (Value.int .i64 2 = .int .i64 (checkS l k : Nat) ∧ Keep M N) := fun h => ⟨by rw [check_2 h]; rfl, K0⟩
  refine ⟨_, sl_of a0 rfl, Cn.eq c36 ⟨_, rfl, fun h => ?_, fun h => ?_⟩⟩
  · have h1 : ¬ (2 ≤ (n : Int) ∧ (n : Int) ≤ 16) := by
      intro hh; rw [decide_eq_true hh] at h; cases h
    exact ⟨fun _ => bad fun h => h1 ⟨by have := h.lo; omega, by have := h.hi; omega⟩, fun h2 => by rw [h2] at h; cases h⟩
  · have h1 : 2 ≤ (n : Int) ∧ (n : Int) ≤ 16 := by simpa using h
    have rest : 0 ≤ k → k ≤ 32 → ∀ {f : Nat → Prop}, True → (∃ s, N.slAt (2 * M.nb.size) 0 = some s ∧ Cn Try.prog 37 #[.slice s.1 s.2.1 s.2.2] N fun v5 N5 => ∃ b6, asB v5 = some b6 ∧
        (((!b6) = true → (((!b6) = true → (Value.int .i64 2 = .int .i64 (checkS l k : Nat) ∧ Keep M N5)) ∧ ((!b6) = false → (Value.int .i64 0 = .int .i64 (checkS l k : Nat) ∧ Keep M N5)))) ∧
         ((!b6) = false → ∃ s7, N5.slAt (2 * M.nb.size) 0 = some s7 ∧ ∃ s8, N5.slAt (2 * M.nb.size) 0 = some s8 ∧ ∃ a9, idxA s7.1 s7.2.1 1 (IntKind.i64.wrap ((s8.2.1 : Int) - 1)) = some a9 ∧ ∃ x10, N5.intAt .u16 a9.block a9.off = some x10 ∧
          ((x10 ≠ 32768 → (Value.int .i64 2 = .int .i64 (checkS l k : Nat) ∧ Keep M N5)) ∧ (x10 = 32768 → (Value.int .i64 0 = .int .i64 (checkS l k : Nat) ∧ Keep M N5)))))) := by
      intro k0 k1 f _
      refine ⟨_, sl_of a0 rfl, Cn.eq (c37 hR hn hb) ⟨_, rfl, fun hs => ⟨fun _ => bad fun h => ?_, fun h2 => ?_⟩, fun hs => ?_⟩⟩
      · rw [srtB_iff.2 h.srt] at hs; cases hs
      · rw [hs] at h2; cases h2
      · obtain ⟨a, a1, a2⟩ := hR.u16 (n := n) (i := n - 1) (z := ((n - 1 : Nat) : Int)) hn rfl (by omega)
        refine ⟨_, sl_of a0 rfl, _, sl_of a0 rfl, ?_⟩
        dsimp only
        rw [i64w (by omega), show ((n : Int) - 1) = ((n - 1 : Nat) : Int) by omega]
        refine ⟨_, a1, _, a2, fun h => bad fun ho => ?_, fun h => ⟨?_, K0⟩⟩
        · have := ho.last; rw [hn] at h; omega
        · rw [check_0.2 ⟨by omega, by omega, k0, k1, by rw [hn] at h; omega, srtB_iff.1 (by simpa using hs)⟩]; rfl
    refine ⟨_, int_of a0 rfl, fun hk => ⟨fun _ => bad fun h => by have := h.k0; omega, fun h => by omega⟩, fun hk => ⟨_, int_of a0 rfl, fun h2 => bad fun h => by have := h.k1; omega, fun h2 => rest (f := fun _ => True) (by omega) (by omega) trivial⟩⟩
theorem c29 (hR : Row M A (uL l)) (hn : n = l.length) (hb : n ≤ 1099511627776) : Cn Try.prog 29 #[.agg #[.slice A n c, .int .i64 k]] M fun v N => v = .int .i64 (checkS l k : Nat) ∧ Keep M N := by
  have a0 := Mem.new_at M (tcells A n c k)
  have K0 : Keep M (M.new (tcells A n c k)) := .new _ _
  refine w29_0 ?_
  generalize M.new (tcells A n c k) = N at a0 K0 ⊢
  have hR := hR.keep K0
  have bad : ¬ Okt l k → (Value.int .i64 2 = .int .i64 (checkS l k : Nat) ∧ Keep M N) := fun h => ⟨by rw [check_2 h]; rfl, K0⟩
  have loop : (2 ≤ n ∧ n ≤ 16 ∧ 0 ≤ k ∧ k ≤ 32 ∧ gn l (n - 1) = 32768) → ∀ (m i : Nat), i + m = n → 1 ≤ i → (∀ q, q + 1 < i → gn l q ≤ gn l (q + 1)) → A29_5 (some ⟨2 * M.nb.size, 0, none⟩) (n : Nat) (i : Nat) N fun v N => v = .int .i64 (checkS l k : Nat) ∧ Keep M N := by
    intro hh m
    induction m with
    | zero =>
      intro i hi _ hs
      refine w29_5 ⟨fun h => by omega, fun _ => ⟨?_, K0⟩⟩
      rw [check_0.2 ⟨by omega, by omega, hh.2.2.1, hh.2.2.2.1, by rw [← hn]; exact hh.2.2.2.2, fun q _ hq => hs q (by omega)⟩]; rfl
    | succ m ih =>
      intro i hi h1 hs
      obtain ⟨a, a1, a2⟩ := hR.u16 (n := n) (i := i) (z := ((i : Nat) : Int)) hn rfl (by omega)
      obtain ⟨b, b1, b2⟩ := hR.u16 (n := n) (i := i - 1) (z := ((i - 1 : Nat) : Int)) hn rfl (by omega)
      refine w29_5 ⟨fun _ => ⟨_, rfl, _, sl_of a0 rfl, _, a1, _, a2, _, rfl, _, sl_of a0 rfl, ?_⟩, fun h => by omega⟩
      rw [i64w (by omega), show ((i : Int) - 1) = ((i - 1 : Nat) : Int) by omega]
      refine ⟨_, b1, _, b2, fun h => bad fun ho => ?_, fun h => ?_⟩
      · have := ho.srt (i - 1) (Nat.zero_le _) (by omega)
        rw [show i - 1 + 1 = i by omega] at this; omega
      · rw [i64w (by omega), show ((i : Int) + 1) = ((i + 1 : Nat) : Int) by omega]
        refine ih (i + 1) (by omega) (by omega) fun q hq => ?_
        by_cases e : q = i - 1
        · subst e; rw [show i - 1 + 1 = i by omega]; omega
        · exact hs q (by omega)
  have s5 : ∀ b : Bool, b = decide (¬ (2 ≤ n ∧ n ≤ 16 ∧ 0 ≤ k ∧ k ≤ 32 ∧ gn l (n - 1) = 32768)) → A29_4 (some ⟨2 * M.nb.size, 0, none⟩) (n : Nat) b N fun v N => v = .int .i64 (checkS l k : Nat) ∧ Keep M N := by
    intro b hb
    refine w29_4 ⟨fun h => bad fun ho => ?_, fun h => ?_⟩
    · rw [h] at hb
      exact of_decide_eq_true hb.symm ⟨by have := ho.lo; omega, by have := ho.hi; omega, ho.k0, ho.k1, by rw [hn]; exact ho.last⟩
    · rw [h] at hb
      have := of_decide_eq_false hb.symm
      have hh : 2 ≤ n ∧ n ≤ 16 ∧ 0 ≤ k ∧ k ≤ 32 ∧ gn l (n - 1) = 32768 := Decidable.not_not.1 this
      exact loop hh (n - 1) 1 (by omega) (Nat.le_refl _) fun q hq => by omega
  have s4 : ∀ b : Bool, b = decide (¬ (2 ≤ n ∧ n ≤ 16 ∧ 0 ≤ k ∧ k ≤ 32)) → A29_3 (some ⟨2 * M.nb.size, 0, none⟩) (n : Nat) b N fun v N => v = .int .i64 (checkS l k : Nat) ∧ Keep M N := by
    intro b hb
    refine w29_3 ⟨fun h => s5 _ ?_, fun h => ?_⟩
    · rw [h] at hb
      have := of_decide_eq_true hb.symm
      symm; exact decide_eq_true fun hh => this ⟨hh.1, hh.2.1, hh.2.2.1, hh.2.2.2.1⟩
    · rw [h] at hb
      have hh : 2 ≤ n ∧ n ≤ 16 ∧ 0 ≤ k ∧ k ≤ 32 := Decidable.not_not.1 (of_decide_eq_false hb.symm)
      obtain ⟨a, a1, a2⟩ := hR.u16 (n := n) (i := n - 1) (z := ((n - 1 : Nat) : Int)) hn rfl (by omega)
      refine ⟨_, rfl, _, sl_of a0 rfl, ?_⟩
      rw [i64w (by omega), show ((n : Int) - 1) = ((n - 1 : Nat) : Int) by omega]
      refine ⟨_, a1, _, a2, s5 _ ?_⟩
      rw [Bool.eq_iff_iff]; simp; omega
  have s3 : ∀ b : Bool, b = decide (¬ (2 ≤ n ∧ n ≤ 16 ∧ 0 ≤ k)) → A29_2 (some ⟨2 * M.nb.size, 0, none⟩) (n : Nat) b N fun v N => v = .int .i64 (checkS l k : Nat) ∧ Keep M N := by
    intro b hb
    refine w29_2 ⟨fun h => s4 _ ?_, fun h => ⟨_, rfl, _, int_of a0 rfl, s4 _ ?_⟩⟩
    · rw [h] at hb
      have := of_decide_eq_true hb.symm
      symm; exact decide_eq_true fun hh => this ⟨hh.1, hh.2.1, hh.2.2.1⟩
    · rw [h] at hb
      have hh : 2 ≤ n ∧ n ≤ 16 ∧ 0 ≤ k := Decidable.not_not.1 (of_decide_eq_false hb.symm)
      rw [Bool.eq_iff_iff]; simp; omega
  have s2 : ∀ b : Bool, b = decide (¬ (2 ≤ n ∧ n ≤ 16)) → A29_1 (some ⟨2 * M.nb.size, 0, none⟩) (n : Nat) b N fun v N => v = .int .i64 (checkS l k : Nat) ∧ Keep M N := by
    intro b hb
    refine w29_1 ⟨fun h => s3 _ ?_, fun h => ⟨_, rfl, _, int_of a0 rfl, s3 _ ?_⟩⟩
    · rw [h] at hb
      have := of_decide_eq_true hb.symm
      symm; exact decide_eq_true fun hh => this ⟨hh.1, hh.2.1⟩
    · rw [h] at hb
      have hh : 2 ≤ n ∧ n ≤ 16 := Decidable.not_not.1 (of_decide_eq_false hb.symm)
      rw [Bool.eq_iff_iff]; simp; omega
  refine ⟨_, sl_of a0 rfl, fun h => s2 _ ?_, fun h => s2 _ ?_⟩
  · have h : (n : Int) < 2 := h
    rw [Bool.eq_iff_iff]; simp; omega
  · have h : ¬ (n : Int) < 2 := h
    rw [Bool.eq_iff_iff]; simp; omega
theorem c32 (hf : M.floor ≤ M.nb.size) (hR : Row M A (uL l)) (hn : n = l.length) (hb : n ≤ 1099511627776) {s : Int} : Cn Try.prog 32 #[.agg #[.slice A n c, .int .i64 k], .int .i64 s] M fun v N => v = .bool (decide (checkS l k = 0 ∧ 0 ≤ s ∧ s < l.length)) ∧ Keep M N := by
  have a0 := Mem.new_at M (tcells A n c k)
  have K0 : Keep M (M.new (tcells A n c k)) := .new _ _
  refine w32_0 ?_
  generalize M.new (tcells A n c k) = N at a0 K0 ⊢
  refine ⟨_, sl_of a0 rfl, _, int_of a0 rfl, Cn.mono (c19 (hR.keep K0) hn hb) ?_⟩
  rintro _ R ⟨rfl, KR⟩
  have a1 := at_keep a0 KR
  refine ⟨_, rfl, fun h => ⟨fun h2 => ⟨_, sl_of a1 rfl, ?_, K0.trans KR⟩, fun h2 => ⟨?_, K0.trans KR⟩⟩, fun h => ⟨?_, K0.trans KR⟩⟩
  · congr 1; rw [Bool.eq_iff_iff]; simp only [decide_eq_true_eq]; omega
  · congr 1; symm; exact decide_eq_false (by omega)
  · congr 1; symm; exact decide_eq_false (by omega)
/-! ### Parts -/
def endS (l : List Nat) (s : Int) : Nat := if s < 0 then 0 else gn l s.toNat * (32768 - 4 * l.length) / 32768 + 4 * (s.toNat + 1)
theorem Okt.end_le (h : Okt l k) {s : Int} (hs : s < l.length) : endS l s ≤ 32768 := by
  unfold endS
  split
  · omega
  · have h1 := h.le s.toNat
    have h2 : gn l s.toNat * (32768 - 4 * l.length) ≤ 32768 * (32768 - 4 * l.length) := Nat.mul_le_mul_right _ h1
    have h3 := Nat.div_le_div_right (c := 32768) h2
    rw [Nat.mul_comm 32768, Nat.mul_div_cancel _ (by decide)] at h3
    have := h.hi; omega
theorem Okt.end_last (h : Okt l k) : endS l ((l.length : Int) - 1) = 32768 := by
  have h1 := h.lo; have h2 := h.hi
  unfold endS
  rw [if_neg (by omega), show ((l.length : Int) - 1).toNat = l.length - 1 by omega, h.last, Nat.mul_comm, Nat.mul_div_cancel _ (by decide)]; omega
theorem c38 (ho : Okt l k) (hR : Row M A (uL l)) (hn : n = l.length) {s : Int} (hs0 : -1 ≤ s) (hs : s < l.length) : Cn Try.prog 38 #[.agg #[.slice A n c, .int .i64 k], .int .i64 s] M fun v N => v = .int .u32 (endS l s : Nat) ∧ Keep M N := by
  have a0 := Mem.new_at M (tcells A n c k)
  have K0 : Keep M (M.new (tcells A n c k)) := .new _ _
  refine w38_0 ?_
  generalize M.new (tcells A n c k) = N at a0 K0 ⊢
  have hR := hR.keep K0
  refine ⟨fun h => ⟨by unfold endS; rw [if_pos h]; rfl, K0⟩, fun h => ?_⟩
  obtain ⟨a, a1, a2⟩ := hR.u16 (n := n) (i := s.toNat) (z := s) hn (by omega) (by omega)
  refine ⟨_, sl_of a0 rfl, _, a1, _, a2, _, sl_of a0 rfl, ?_, K0⟩
  congr 1
  have h1 := ho.le s.toNat
  have h2 := ho.hi
  have h3 : gn l s.toNat * (32768 - 4 * l.length) ≤ 32768 * 32768 := Nat.mul_le_mul h1 (by omega)
  have e1 : IntKind.u32.wrap (IntKind.i64.wrap (32768 - IntKind.i64.wrap (4 * ((n : Nat) : Int)))) = ((32768 - 4 * l.length : Nat) : Int) := by
    rw [i64w (x := 4 * ((n : Nat) : Int)) (by omega), i64w (by omega), u32w (by omega)]; omega
  dsimp only
  rw [e1, u32w (x := ((gn l s.toNat : Nat) : Int)) (by omega), ← Int.natCast_mul]
  generalize hp : gn l s.toNat * (32768 - 4 * l.length) = p at h3 ⊢
  rw [u32w (x := ((p : Nat) : Int)) (by omega), show (2 : Int) ^ 15 = ((32768 : Nat) : Int) from rfl, fdivN]
  rw [i64w (x := s + 1) (by omega), i64w (x := 4 * (s + 1)) (by omega), u32w (x := 4 * (s + 1)) (by omega)]
  have h4 := Nat.div_le_div_right (c := 32768) h3
  rw [u32w (by omega)]
  unfold endS
  rw [if_neg h, hp]; omega
theorem c39 (ho : Okt l k) (hR : Row M A (uL l)) (hn : n = l.length) {s : Int} (hs0 : -1 ≤ s) (hs : s < l.length) : Cn Try.prog 39 #[.agg #[.slice A n c, .int .i64 k], .int .i64 s] M fun v N => v = .int .i64 (endS l s : Nat) ∧ Keep M N := by
  have a0 := Mem.new_at M (tcells A n c k)
  have K0 : Keep M (M.new (tcells A n c k)) := .new _ _
  refine w39_0 ?_
  generalize M.new (tcells A n c k) = N at a0 K0 ⊢
  have hR := hR.keep K0
  refine ⟨fun h => ⟨by unfold endS; rw [if_pos h]; rfl, K0⟩, fun h => ?_⟩
  obtain ⟨a, a1, a2⟩ := hR.u16 (n := n) (i := s.toNat) (z := s) hn (by omega) (by omega)
  refine ⟨_, sl_of a0 rfl, _, a1, _, a2, _, sl_of a0 rfl, ?_, K0⟩
  congr 1
  have h1 := ho.le s.toNat
  have h2 := ho.hi
  have h3 : gn l s.toNat * (32768 - 4 * l.length) ≤ 32768 * 32768 := Nat.mul_le_mul h1 (by omega)
  have e1 : IntKind.i64.wrap (32768 - IntKind.i64.wrap (4 * ((n : Nat) : Int))) = ((32768 - 4 * l.length : Nat) : Int) := by
    rw [i64w (x := 4 * ((n : Nat) : Int)) (by omega), i64w (by omega)]; omega
  dsimp only
  rw [e1, i64w (x := ((gn l s.toNat : Nat) : Int)) (by omega), ← Int.natCast_mul]
  generalize hp : gn l s.toNat * (32768 - 4 * l.length) = p at h3 ⊢
  rw [i64w (x := ((p : Nat) : Int)) (by omega), show (32768 : Int) = ((32768 : Nat) : Int) from rfl, tdivN]
  rw [i64w (x := s + 1) (by omega), i64w (x := 4 * (s + 1)) (by omega)]
  have h4 := Nat.div_le_div_right (c := 32768) h3
  rw [i64w (x := ((p / 32768 : Nat) : Int)) (by omega), i64w (by omega)]
  unfold endS
  rw [if_neg h, hp]; omega
end
end Go.Zt
