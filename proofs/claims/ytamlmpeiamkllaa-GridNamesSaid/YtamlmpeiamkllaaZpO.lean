/- Layer 17: small functions of the program: span, none, in, sideMay, placeOf, New. -/
import Derived.Test.YtamlmpeiamkllaaZpB
import Derived.Test.YtamlmpeiamkllaaZrT
set_option linter.unusedSimpArgs false
set_option linter.unusedVariables false
set_option maxRecDepth 100000
namespace Go.Zt
open Go Go.Sim Go.Proofs Go.RowKit

theorem cA {b c : Bool} (F : Bool → Prop) (h : F (b && c)) : cnd b (F c) (F false) := by cases b <;> exact h
theorem cO {b c : Bool} (F : Bool → Prop) (h : F (b || c)) : cnd b (F true) (F c) := by cases b <;> exact h
theorem fb {M N : Mem} (hf : M.floor ≤ M.nb.size) (K : Keep M N) : N.floor ≤ N.nb.size := by rw [K.floor]; exact Nat.le_trans hf K.size
/-- A block. -/
structure Bk where
  x : Int
  y : Int
  w : Int
  h : Int
  sk : Bool
  it : Bool
  q6 : Int
  q7 : Int
  q8 : Int
  q9 : Int
  q10 : Int
  q11 : Int
  q12 : Int
  cp : Bool
  r0 : Int
  r1 : Int
  q16 : Int
  v0 : Int
  v1 : Int
  v2 : Int
  v3 : Int
  q21 : Int
  ob : Bool
  deriving DecidableEq
abbrev Bk.cs (b : Bk) : Array Value := #[.int .i64 b.x, .int .i64 b.y, .int .i64 b.w, .int .i64 b.h, .bool b.sk, .bool b.it, .int .i64 b.q6, .int .i64 b.q7, .int .i64 b.q8, .int .i64 b.q9, .int .i64 b.q10, .int .i64 b.q11, .int .i64 b.q12, .bool b.cp, .int .i64 b.r0, .int .i64 b.r1, .int .i64 b.q16, .int .i64 b.v0, .int .i64 b.v1, .int .i64 b.v2, .int .i64 b.v3, .int .i64 b.q21, .bool b.ob]
abbrev zB : Bk := ⟨0, 0, 0, 0, false, false, 0, 0, 0, 0, 0, 0, 0, false, 0, 0, 0, 0, 0, 0, 0, 0, false⟩
abbrev Bks (L : List Bk) : List Value := L.flatMap fun b => b.cs.toList
/-- A tile. -/
structure Tl where
  x : Int
  y : Int
  w : Int
  h : Int
  deriving DecidableEq
def spanB (a n : Int) : Bool := decide (0 ≤ a ∧ a ≤ 192 ∧ a % 64 = 0 ∧ 8 ≤ n ∧ n ≤ 256 ∧ n % 8 = 0 ∧ a + n ≤ 256)
def Tl.may (t : Tl) : Bool := spanB t.x t.w && spanB t.y t.h
def Tl.in (t : Tl) (x y : Int) : Bool := decide (t.x ≤ x ∧ x < t.x + t.w ∧ t.y ≤ y ∧ y < t.y + t.h)
def i64R (x : Int) : Prop := -9223372036854775808 ≤ x ∧ x ≤ 9223372036854775807
abbrev PtrB (j : Nat) : Value := .pointer (some ⟨2 * j, 0, none⟩)
theorem tmod_eq {a : Int} (n : Nat) (hn : 0 < n) : a.tmod (n : Int) = 0 ↔ a % (n : Int) = 0 :=
  ⟨fun h => Int.emod_eq_zero_of_dvd (Int.dvd_of_tmod_eq_zero h), fun h => Int.tmod_eq_zero_of_dvd (Int.dvd_of_emod_eq_zero h)⟩
section
variable {M : Mem} {Q : Value → Mem → Prop} {a n x y : Int}
theorem c23 (ha : i64R a) (hn : i64R n) : Cn Try.prog 23 #[.int .i64 a, .int .i64 n] M fun v N => v = .bool (spanB a n) ∧ N = M := by
  refine w23_0 (cA (fun z => A23_1 a n z M _) (w23_1 (cA (fun z => A23_2 a n z M _) (w23_2 (cA (fun z => A23_3 a n z M _) (w23_3 (cA (fun z => A23_4 a n z M _) (w23_4 (cA (fun z => A23_5 a n z M _) (w23_5 (cA (fun z => (fun v N => v = Value.bool (spanB a n) ∧ N = M) (.bool z) M) ⟨?_, rfl⟩)))))))))))
  congr 1
  unfold spanB
  rw [Bool.eq_iff_iff]
  simp only [Bool.and_eq_true, decide_eq_true_eq, beq_iff_eq]
  have h1 := tmod_eq (a := a) 64 (by decide)
  have h2 := tmod_eq (a := n) 8 (by decide)
  have h1' : a.tmod 64 = 0 ↔ a % 64 = 0 := h1
  have h2' : n.tmod 8 = 0 ↔ n % 8 = 0 := h2
  rw [h1', h2']
  constructor
  · rintro ⟨⟨⟨⟨⟨⟨q1, q2⟩, q3⟩, q4⟩, q5⟩, q6⟩, q7⟩
    rw [i64w (by omega)] at q7
    omega
  · rintro ⟨q1, q2, q3, q4, q5, q6, q7⟩
    rw [i64w (by omega)]
    omega
/-- The program's grid. -/
def GrAt (M : Mem) (j : Nat) (t : Tl) (A : Option Addr) (n c jm : Nat) : Prop := M.nb[j]? = some (.cells #[.bool true, .int .i64 t.x, .int .i64 t.y, .int .i64 t.w, .int .i64 t.h, .slice A n c, .map (some (2 * jm))] 63)
variable {j jm n c : Nat} {t : Tl} {A : Option Addr}
theorem c24 (g : GrAt M j t A n c jm) : Cn Try.prog 24 #[PtrB j] M fun v N => v = .bool false ∧ N = M :=
  w24_0 (cF rfl (ad rfl (on (bool_of (i := 0) g rfl) ⟨rfl, rfl⟩)))
theorem c26 (g : GrAt M j t A n c jm) (ht : t.may = true) (hx : i64R x) (hy : i64R y) : Cn Try.prog 26 #[PtrB j, .int .i64 x, .int .i64 y] M fun v N => v = .bool (t.in x y) ∧ N = M := by
  refine w26_0 (ad rfl (on (int_of (i := 0 + 1) g rfl) ?_))
  have key : cnd (decide (x ≥ t.x)) (A26_1 (some ⟨2 * j, 0, none⟩) y (decide ((IntKind.i64.wrap (x - t.x)) < t.w)) M fun v N => v = .bool (t.in x y) ∧ N = M) (A26_1 (some ⟨2 * j, 0, none⟩) y false M fun v N => v = .bool (t.in x y) ∧ N = M) := by
    refine cA (fun z => A26_1 (some ⟨2 * j, 0, none⟩) y z M _) (w26_1 ?_)
    have k2 : cnd (decide (x ≥ t.x) && decide ((IntKind.i64.wrap (x - t.x)) < t.w)) (A26_2 (some ⟨2 * j, 0, none⟩) y (decide (y ≥ t.y)) M fun v N => v = .bool (t.in x y) ∧ N = M) (A26_2 (some ⟨2 * j, 0, none⟩) y false M fun v N => v = .bool (t.in x y) ∧ N = M) := by
      refine cA (fun z => A26_2 (some ⟨2 * j, 0, none⟩) y z M _) (w26_2 ?_)
      have k3 : cnd (decide (x ≥ t.x) && decide ((IntKind.i64.wrap (x - t.x)) < t.w) && decide (y ≥ t.y)) ((fun v N => v = Value.bool (t.in x y) ∧ N = M) (.bool (decide ((IntKind.i64.wrap (y - t.y)) < t.h))) M) ((fun v N => v = Value.bool (t.in x y) ∧ N = M) (.bool false) M) := by
        refine cA (fun z => (fun v N => v = Value.bool (t.in x y) ∧ N = M) (.bool z) M) ⟨?_, rfl⟩
        congr 1
        unfold Tl.may spanB at ht
        simp only [Bool.and_eq_true, decide_eq_true_eq] at ht
        unfold Tl.in
        unfold i64R at hx hy
        rw [Bool.eq_iff_iff]
        simp only [Bool.and_eq_true, decide_eq_true_eq]
        constructor
        · rintro ⟨⟨⟨q1, q2⟩, q3⟩, q4⟩
          rw [i64w (by omega)] at q2 q4
          omega
        · rintro ⟨q1, q2, q3, q4⟩
          rw [i64w (by omega), i64w (by omega)]
          omega
      cases hb : decide (x ≥ t.x) && decide ((IntKind.i64.wrap (x - t.x)) < t.w) && decide (y ≥ t.y) with
      | true => rw [hb] at k3; exact cT rfl (ad rfl (on (int_of (i := 0 + 2) g rfl) (ad rfl (on (int_of (i := 0 + 4) g rfl) k3))))
      | false => rw [hb] at k3; exact cF rfl k3
    cases hb : decide (x ≥ t.x) && decide ((IntKind.i64.wrap (x - t.x)) < t.w) with
    | true => rw [hb] at k2; exact cT rfl (ad rfl (on (int_of (i := 0 + 2) g rfl) k2))
    | false => rw [hb] at k2; exact cF rfl k2
  cases hb : decide (x ≥ t.x) with
  | true => rw [hb] at key; exact cT rfl (ad rfl (on (int_of (i := 0 + 1) g rfl) (ad rfl (on (int_of (i := 0 + 3) g rfl) key))))
  | false => rw [hb] at key; exact cF rfl key
theorem c27 (hf : M.floor ≤ M.nb.size) (hx : 0 ≤ x ∧ i64R x) (hy : 0 ≤ y ∧ i64R y) : Cn Try.prog 27 #[.int .i64 x, .int .i64 y] M fun v N => v = plV (x / 8) (y / 8) ∧ Keep M N := by
  unfold i64R at hx hy
  have e : ∀ z : Int, 0 ≤ z ∧ -9223372036854775808 ≤ z ∧ z ≤ 9223372036854775807 → IntKind.i64.wrap (z.tdiv 8) = z / 8 := fun z hz => by
    rw [Int.tdiv_eq_ediv_of_nonneg hz.1, i64w (by omega)]
  refine w27_0 ?_
  rw [e x hx, e y hy]
  exact stN (cs := #[.int .i64 (x / 8), .int .i64 (y / 8)]) hf rfl rfl rfl fun M1 K1 z1 b1 => on (int_of (i := 0) b1 rfl) (on (int_of (i := 0 + 1) b1 rfl) ⟨rfl, K1⟩)
def sideB (n : Int) : Bool := decide (n = 8 ∨ n = 16 ∨ n = 32 ∨ n = 64)
theorem c25 (hf : M.floor ≤ M.nb.size) {m : Int} : Cn Try.prog 25 #[.int .i64 m] M fun v N => v = .bool (sideB m) ∧ Keep M N := by
  refine w25_0 ?_
  have a := Mem.new_at M (.cells #[.int .i64 8, .int .i64 16, .int .i64 32, .int .i64 64] 3)
  have K : Keep M (M.new (.cells #[.int .i64 8, .int .i64 16, .int .i64 32, .int .i64 64] 3)) := .new _ _
  generalize M.new (.cells #[.int .i64 8, .int .i64 16, .int .i64 32, .int .i64 64] 3) = N at a K ⊢
  have fin : ∀ i : Int, (decide (i ≥ 0) = sideB m) → Cn Try.prog 41 #[.slice (some ⟨2 * M.nb.size, 0, none⟩) 4 4, .int .i64 m] N (fun v1' N1' => tyS (asB v1') fun b2' => (fun v N => v = Value.bool (sideB m) ∧ Keep M N) (.bool b2') N1') ∨ True := fun _ _ => .inr trivial
  have ix0 : ∀ k : Nat, k < 4 → idxA (some ⟨2 * M.nb.size, 0, none⟩) 4 1 (k : Int) = some ⟨2 * M.nb.size, k, none⟩ := fun k hk => by
    unfold idxA
    rw [if_pos (by omega)]
    simp
  have go : ∀ k : Nat, k < 4 → ∀ v : Int, (#[Value.int .i64 8, .int .i64 16, .int .i64 32, .int .i64 64][k]? = some (.int .i64 v)) → ∀ {Q : Value → Mem → Prop}, (m = v → Q (.int .i64 (k : Int)) N) → (m ≠ v → A44_1 (some ⟨2 * M.nb.size, 0, none⟩) 4 4 m ((4 : Nat) : Int) (IntKind.i64.wrap ((k : Int) + 1)) N Q) → A44_1 (some ⟨2 * M.nb.size, 0, none⟩) 4 4 m ((4 : Nat) : Int) (k : Int) N Q := by
    intro k hk v hv Q h1 h2
    exact w44_1 (cT (decide_eq_true (by omega)) (ix (ix0 k hk) (on (int_of (i := k) a hv) (ce h1 h2))))
  refine w41_0 (w44_0 (go 0 (by decide) 8 rfl (fun h => ?_) fun h1 => go 1 (by decide) 16 rfl (fun h => ?_) fun h2 => go 2 (by decide) 32 rfl (fun h => ?_) fun h3 => go 3 (by decide) 64 rfl (fun h => ?_) fun h4 => w44_1 (cF rfl ?_)))
  all_goals refine ty rfl (ty rfl ⟨?_, K⟩); congr 1; unfold sideB
  · subst h; rfl
  · subst h; rfl
  · subst h; rfl
  · subst h; rfl
  · symm; rw [decide_eq_false (by omega)]; rfl
theorem c8 (hf : M.floor ≤ M.nb.size) (hr : i64R t.x ∧ i64R t.y ∧ i64R t.w ∧ i64R t.h) : Cn Try.prog 8 #[.agg #[.int .i64 t.x, .int .i64 t.y, .int .i64 t.w, .int .i64 t.h]] M fun v N => Keep M N ∧ if t.may = true then ∃ j jm, M.nb.size ≤ jm ∧ jm < j ∧ j < N.nb.size ∧ v = .tuple #[PtrB j, .int .i64 0] ∧ GrAt N j t none 0 0 jm ∧ N.nb[jm]? = some (.map #[] 0) else v = .tuple #[.pointer none, .int .i64 2] := by
  have s := Mem.new_at M (.cells #[.int .i64 t.x, .int .i64 t.y, .int .i64 t.w, .int .i64 t.h] 35)
  have K1 : Keep M (M.new (.cells #[.int .i64 t.x, .int .i64 t.y, .int .i64 t.w, .int .i64 t.h] 35)) := .new _ _
  have z1 := Mem.new_size M (.cells #[.int .i64 t.x, .int .i64 t.y, .int .i64 t.w, .int .i64 t.h] 35)
  refine w8_0 ?_
  generalize M.new (.cells #[.int .i64 t.x, .int .i64 t.y, .int .i64 t.w, .int .i64 t.h] 35) = N at s K1 z1 ⊢
  refine on (int_of (i := 0) s rfl) (on (int_of (i := 0 + 2) s rfl) (Cn.eq (c23 hr.1 hr.2.2.1) (ty rfl ?_)))
  have no : t.may = false → A8_1 (some ⟨2 * M.nb.size, 0, none⟩) true N fun v N => Keep M N ∧ if t.may = true then ∃ j jm, M.nb.size ≤ jm ∧ jm < j ∧ j < N.nb.size ∧ v = .tuple #[PtrB j, .int .i64 0] ∧ GrAt N j t none 0 0 jm ∧ N.nb[jm]? = some (.map #[] 0) else v = .tuple #[.pointer none, .int .i64 2] := fun h => w8_1 (cT rfl ⟨K1, by rw [h]; rfl⟩)
  cases h1 : spanB t.x t.w with
  | false => exact cT rfl (no (by unfold Tl.may; rw [h1]; rfl))
  | true =>
    refine cF rfl (on (int_of (i := 0 + 1) s rfl) (on (int_of (i := 0 + 3) s rfl) (Cn.eq (c23 hr.2.1 hr.2.2.2) (ty rfl ?_))))
    cases h2 : spanB t.y t.h with
    | false => exact no (by unfold Tl.may; rw [h1, h2]; rfl)
    | true =>
      have hm : t.may = true := by unfold Tl.may; rw [h1, h2]; rfl
      refine w8_1 (cF rfl (ad rfl (on (int_of (i := 0) s rfl) (on (int_of (i := 0 + 1) s rfl) (on (int_of (i := 0 + 2) s rfl) (on (int_of (i := 0 + 3) s rfl) ?_))))))
      have m1 := Mem.new_at N (.map #[] 0)
      have K2 : Keep N (N.new (.map #[] 0)) := .new _ _
      have z2 := Mem.new_size N (.map #[] 0)
      generalize N.new (.map #[] 0) = N2 at m1 K2 z2 ⊢
      have K3 : Keep N2 (N2.new (.cells #[.bool true, .int .i64 t.x, .int .i64 t.y, .int .i64 t.w, .int .i64 t.h, .slice none 0 0, .map (some (2 * N.nb.size))] 63)) := .new _ _
      refine ⟨(K1.trans K2).trans K3, ?_⟩
      rw [if_pos hm]
      exact ⟨N2.nb.size, N.nb.size, by omega, by omega, by rw [Mem.new_size]; omega, rfl, Mem.new_at _ _, at_keep m1 K3⟩
end
end Go.Zt
