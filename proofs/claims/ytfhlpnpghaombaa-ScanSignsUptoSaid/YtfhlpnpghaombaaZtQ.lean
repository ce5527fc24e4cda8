/- What ScanSigns comes to. -/
import Derived.Test.YtfhlpnpghaombaaZtN
import Derived.Test.YtfhlpnpghaombaaZtO
import Derived.Test.YtfhlpnpghaombaaZsQ
set_option linter.unusedSimpArgs false
set_option linter.unusedVariables false
namespace Go.Zt
open Go Go.Sim Go.Proofs Go.RowKit

theorem lv_neg {x most : Int} (h : 0 ≤ most) : lv (-x) most = lv x most := by
  unfold lv
  by_cases h1 : x > most
  · rw [if_pos (by omega), if_pos (by omega)]
  · by_cases h2 : x < -most
    · rw [if_pos (by omega), if_pos (by omega)]
    · have a : ¬ (-x > most ∨ -x < -most) := by omega
      have b : ¬ (x > most ∨ x < -most) := by omega
      rw [if_neg a, if_neg b]
      by_cases h3 : x < 0
      · have c : ¬ (-x < 0) := by omega
        rw [if_neg c, if_pos h3]
      · rw [if_neg h3]
        by_cases h4 : -x < 0
        · rw [if_pos h4]; omega
        · rw [if_neg h4]; omega
/-- Behind a place the one list is the other one with its signs turned. -/
def Turned (n a : Nat) (la lb : List Int) : Prop := ∀ j, j < n * n → a / n + a % n < j / n + j % n → lb[j]? = (la[j]?).map (fun x => -x)
theorem sums_turned {n a : Nat} {la lb : List Int} {most : Int} (hn : 0 < n) (hm : 0 ≤ most) (ha : la.length = n * n) (hb : lb.length = n * n) (h : Turned n a la lb) : ∀ ds : List (Nat × Nat), (∀ p ∈ ds, 0 < p.1 + p.2) → sums lb n a most ds = sums la n a most ds
  | [], _ => rfl
  | d :: r, hd => by
    have h1 := sums_turned hn hm ha hb h r fun p hp => hd p (List.mem_cons_of_mem _ hp)
    have h2 := hd d (List.mem_cons_self ..)
    simp only [sums, h1]
    congr 1
    unfold some_
    by_cases h3 : a / n + d.1 ≥ n ∨ a % n + d.2 ≥ n
    · rw [if_pos h3, if_pos h3]
    · rw [if_neg h3, if_neg h3]
      generalize hr : a / n + d.1 = r2 at *
      generalize hk : a % n + d.2 = k2 at *
      have hlt : r2 * n + k2 < n * n := by
        have h1 : (r2 + 1) * n ≤ n * n := Nat.mul_le_mul_right n (by omega)
        rw [Nat.add_mul] at h1; omega
      have e1 : (r2 * n + k2) / n = r2 := by
        rw [Nat.mul_comm, Nat.mul_add_div hn, Nat.div_eq_of_lt (by omega)]; rfl
      have e2 : (r2 * n + k2) % n = k2 := by
        rw [Nat.mul_comm, Nat.mul_add_mod, Nat.mod_eq_of_lt (by omega)]
      have h4 := h _ hlt (by rw [e1, e2]; omega)
      have h5 : la[r2 * n + k2]? = some (la.getD (r2 * n + k2) 0) := by rw [List.getD, List.getElem?_eq_getElem (by omega)]; rfl
      rw [h5] at h4
      have h6 : lb.getD (r2 * n + k2) 0 = -(la.getD (r2 * n + k2) 0) := by rw [List.getD, h4]; rfl
      rw [h6, lv_neg hm]
theorem ctx_turned {n a : Nat} {la lb : List Int} {size most all : Int} (hs : side size = n) (hn : 0 < n) (hm : 0 ≤ most) (ha : la.length = n * n) (hb : lb.length = n * n) (hlt : a < n * n) (h : Turned n a la lb) :
    ctx la size a most all = (min all ((sums la n a most (around most) + 1) / 2), 0) ∧ ctx lb size a most all = ctx la size a most all := by
  have q : ∀ l : List Int, l.length = n * n → asked l size a := fun l hl => ⟨by omega, by rw [hs, hl]; norm_cast, by omega, by rw [hs]; exact_mod_cast hlt⟩
  have e : sums lb n a most (around most) = sums la n a most (around most) := sums_turned hn hm ha hb h _ (by unfold around; split <;> decide)
  unfold ctx
  rw [if_pos (q la ha), if_pos (q lb hb), hs]
  simp only [Int.toNat_natCast, e]
  exact ⟨trivial, trivial⟩

/-- The two lists while they are made: i places are done. -/
structure Made (n a i : Nat) (la lb : List Int) : Prop where
  la_ : la.length = n * n
  lb_ : lb.length = n * n
  small : ∀ j, j < n * n → ∃ x, la[j]? = some x ∧ -20 ≤ x ∧ x ≤ 20
  turned : ∀ j, j < i → a / n + a % n < j / n + j % n → lb[j]? = (la[j]?).map (fun x => -x)
theorem made_step {n a i : Nat} {la lb : List Int} {x : Int} {lb' : List Int} (h : Made n a i la lb) (hi : i < n * n) (hx : -20 ≤ x ∧ x ≤ 20) (hl : lb'.length = n * n) (ho : ∀ j, j ≠ i → lb'[j]? = lb[j]?) (ht : a / n + a % n < i / n + i % n → lb'[i]? = some (-x)) :
    Made n a (i + 1) (la.set i x) lb' := by
  refine ⟨by simpa using h.la_, hl, fun j hj => ?_, fun j hj hc => ?_⟩
  · by_cases e : i = j
    · subst e
      exact ⟨x, by rw [List.getElem?_set_self (by rw [h.la_]; exact hi)], hx⟩
    · rw [List.getElem?_set_ne e]; exact h.small j hj
  · by_cases e : i = j
    · subst e
      rw [List.getElem?_set_self (by rw [h.la_]; exact hi)]
      exact ht hc
    · rw [List.getElem?_set_ne e, ho j (Ne.symm e)]
      exact h.turned j (by omega) hc

theorem c7_loop {l : List Int} {A B C : Option Addr} {c d e n a : Nat} {size : Int} (hs : side size = n) (hn : n = 4 ∨ n = 8 ∨ n = 16 ∨ n = 32) (ha : a < n * n) (hl : l.length ≤ 1048576) {M0 : Mem} (hL : Row M0 A (I64 l)) (hOld : Old A) {m1 m2 : Nat} (hm : m1 ≤ m2) (hf : M0.floor ≤ m1) (hsz : m2 ≤ M0.nb.size) :
    ∀ (k i : Nat) {M : Mem} {la lb : List Int}, i + k = n * n → Chg (fun j => m1 ≤ j) M0 M → Own (fun j => m1 ≤ j ∧ j < m2) M 3 B d (I64 la) → Own (fun j => m2 ≤ j) M 3 C e (I64 lb) → Made n a i la lb → A7_1 A l.length c a size n B (n * n) d C (n * n) e i M fun v _ => v = .bool true
  | 0, i, M, la, lb, hi, hC, hB, hCC, hM => by
    have hn0 : 0 < n := by omega
    have hnn : n * n ≤ 32 * 32 := Nat.mul_le_mul (by omega) (by omega)
    have hT : Turned n a la lb := fun j hj => hM.turned j (by omega)
    have lA := hM.la_
    have lB := hM.lb_
    have hfM : M.floor ≤ M.nb.size := by have := hC.size; rw [hC.floor]; omega
    obtain ⟨e1, e2⟩ := ctx_turned (most := 3) (all := 4) hs hn0 (by omega) lA lB ha hT
    obtain ⟨e3, e4⟩ := ctx_turned (most := 15) (all := 6) hs hn0 (by omega) lA lB ha hT
    have b1 := sums_le la n a (most := 3) (by omega) (around 3)
    have b2 := sums_le la n a (most := 15) (by omega) (around 15)
    refine w7_1 ⟨fun h => by omega, fun _ => ?_⟩
    have g1 := c17 (size := size) (at_ := a) (c := d) M hB.row (by omega) hfM
    rw [lA] at g1
    refine Cn.mono g1 ?_
    rintro v N1 ⟨rfl, k1⟩
    have f1 : N1.floor ≤ N1.nb.size := by rw [k1.floor]; exact Nat.le_trans hfM k1.size
    have g2 := c17 (size := size) (at_ := a) (c := e) N1 (hCC.row.keep k1) (by omega) f1
    rw [lB] at g2
    refine ⟨_, rfl, _, rfl, _, rfl, Cn.mono g2 ?_⟩
    rintro v N2 ⟨rfl, k2⟩
    have k12 := k1.trans k2
    have f2 : N2.floor ≤ N2.nb.size := by rw [k12.floor]; exact Nat.le_trans hfM k12.size
    have g3 := c19 (size := size) (at_ := a) (c := d) N2 (hB.row.keep k12) (by omega) f2
    rw [lA] at g3
    refine ⟨_, rfl, _, rfl, _, rfl, Cn.mono g3 ?_⟩
    rintro v N3 ⟨rfl, k3⟩
    have k13 := k12.trans k3
    have f3 : N3.floor ≤ N3.nb.size := by rw [k13.floor]; exact Nat.le_trans hfM k13.size
    have g4 := c19 (size := size) (at_ := a) (c := e) N3 (hCC.row.keep k13) (by omega) f3
    rw [lB] at g4
    refine ⟨_, rfl, _, rfl, _, rfl, Cn.mono g4 ?_⟩
    rintro v N4 ⟨rfl, k4⟩
    refine ⟨_, rfl, _, rfl, _, rfl, fun _ => ?_, fun h => ?_⟩
    · rw [e4, beq_self_eq_true, e2, e1, e3]
      refine w7_3 ⟨fun _ => w7_4 ⟨fun _ => w7_5 ⟨fun _ => w7_6 ⟨fun _ => w7_7 ⟨fun _ => w7_8 ⟨fun _ => w7_9 ⟨fun _ => w7_10 ⟨fun _ => ?_, fun h => ?_⟩, fun h => ?_⟩, fun h => ?_⟩, fun h => (by simp at h)⟩, fun h => (by simp at h)⟩, fun h => (by simp at h)⟩, fun h => (by simp at h)⟩, fun h => (by cases h)⟩
      · congr 1; apply decide_eq_true; show min 6 _ ≤ (6 : Int); omega
      · exact absurd (of_decide_eq_false h) (by show ¬ ¬ (min 6 _ ≥ (0 : Int)); omega)
      · exact absurd (of_decide_eq_false h) (by show ¬ ¬ (min 4 _ ≤ (4 : Int)); omega)
      · exact absurd (of_decide_eq_false h) (by show ¬ ¬ (min 4 _ ≥ (0 : Int)); omega)
    · exact absurd (by rw [e2]) h
  | k + 1, i, M, la, lb, hi, hC, hB, hCC, hM => by
    have hn0 : 0 < n := by omega
    have hnn : n * n ≤ 32 * 32 := Nat.mul_le_mul (by omega) (by omega)
    have hi2 : i < n * n := by omega
    have lA := hM.la_
    have lB := hM.lb_
    have h0 : ∀ j : Nat, (0 : Int) ≤ ((j / n : Nat) : Int) ∧ (0 : Int) ≤ ((j % n : Nat) : Int) ∧ j / n ≤ j ∧ j % n ≤ j := fun j => ⟨Int.natCast_nonneg _, Int.natCast_nonneg _, Nat.div_le_self _ _, Nat.mod_le _ _⟩
    have hfl : ∀ {M' : Mem}, Chg (fun j => m1 ≤ j) M0 M' → ∀ j, m1 ≤ j → M'.floor ≤ j := fun hC j hj => by rw [hC.floor]; omega
    -- the second half of a round
    have round : ∀ (x : Int) {M1 : Mem} {la1 : List Int}, -20 ≤ x ∧ x ≤ 20 → la1 = la.set i x → Chg (fun j => m1 ≤ j) M0 M1 → Own (fun j => m1 ≤ j ∧ j < m2) M1 3 B d (I64 la1) → Own (fun j => m2 ≤ j) M1 3 C e (I64 lb) →
        ∃ v, indexAddrP Try.prog 22 (.slice B (n * n) d) (.int .i64 i) = some v ∧ ∃ p, asP v = some p ∧ ∃ q, p = some q ∧ ∃ x26, M1.intAt .i64 q.block q.off = some x26 ∧
        ∃ v, indexAddrP Try.prog 22 (.slice C (n * n) e) (.int .i64 i) = some v ∧ ∃ p, asP v = some p ∧ ∃ q, p = some q ∧ ∃ M30, M1.put q.block q.off (.int .i64 (IntKind.i64.wrap (0 - x26))) = some M30 ∧
        ∃ v, binV Try.prog .quo 3 3 (.int .i64 i) (.int .i64 n) = some v ∧ ∃ x32, asI .i64 v = some x32 ∧ ∃ v, binV Try.prog .rem 3 3 (.int .i64 i) (.int .i64 n) = some v ∧ ∃ x34, asI .i64 v = some x34 ∧
        ∃ v, binV Try.prog .quo 3 3 (.int .i64 a) (.int .i64 n) = some v ∧ ∃ x36, asI .i64 v = some x36 ∧ ∃ v, binV Try.prog .rem 3 3 (.int .i64 a) (.int .i64 n) = some v ∧ ∃ x38, asI .i64 v = some x38 ∧
        (((IntKind.i64.wrap (x32 + x34)) ≤ (IntKind.i64.wrap (x36 + x38)) →
          ∃ v, indexAddrP Try.prog 22 (.slice B (n * n) d) (.int .i64 i) = some v ∧ ∃ p, asP v = some p ∧ ∃ q, p = some q ∧ ∃ x42, M30.intAt .i64 q.block q.off = some x42 ∧
          ∃ v, indexAddrP Try.prog 22 (.slice C (n * n) e) (.int .i64 i) = some v ∧ ∃ p, asP v = some p ∧ ∃ q, p = some q ∧ ∃ M46, M30.put q.block q.off (.int .i64 (IntKind.i64.wrap ((IntKind.i64.wrap (x42 * 3)) + i))) = some M46 ∧
          A7_2 A l.length c a size n B (n * n) d C (n * n) e i M46 fun v _ => v = .bool true) ∧
         (¬ ((IntKind.i64.wrap (x32 + x34)) ≤ (IntKind.i64.wrap (x36 + x38))) → A7_2 A l.length c a size n B (n * n) d C (n * n) e i M30 fun v _ => v = .bool true)) := by
      intro x M1 la1 hx hla hC1 hB1 hCC1
      have l1 : la1.length = n * n := by rw [hla]; simpa using lA
      have gx : la1[i]? = some x := by rw [hla, List.getElem?_set_self (by omega)]
      refine Row.rd elem hB1.row (x := x) (by simp [l1]) (by omega) (by omega) (by simp [gx]) ?_
      rw [wr (0 - x) (by omega)]
      refine Own.wr elem hCC1 (fun j hj => hfl hC1 j (by omega)) (by simp [lB]) (by omega) (by omega) rfl fun M30 hC30 _ hCC30 => ?_
      have hC30' := hC1.trans (hC30.mono fun j _ h => by show m1 ≤ j; omega)
      have hB30 := hB1.chg hC30 fun j _ h h2 => by omega
      have ha' := h0 a
      have hi' := h0 i
      have fin : ∀ {M2 : Mem} {lb2 : List Int}, Chg (fun j => m1 ≤ j) M0 M2 → Own (fun j => m1 ≤ j ∧ j < m2) M2 3 B d (I64 la1) → Own (fun j => m2 ≤ j) M2 3 C e (I64 lb2) → Made n a (i + 1) la1 lb2 → A7_2 A l.length c a size n B (n * n) d C (n * n) e i M2 fun v _ => v = .bool true := by
        intro M2 lb2 q1 q2 q3 q4
        refine w7_2 ?_
        rw [wr _ (by omega), show ((i : Int) + 1) = ((i + 1 : Nat) : Int) by omega]
        exact c7_loop hs hn ha hl hL hOld hm hf hsz k (i + 1) (by omega) q1 q2 q3 q4
      refine quo_of hn0 (by omega) (remN_of hn0 (quo_of hn0 (by omega) (remN_of hn0 ⟨fun h => ?_, fun h => ?_⟩)))
      · rw [wr _ (by omega), wr _ (by omega)] at h
        refine Row.rd elem hB30.row (x := x) (by simp [l1]) (by omega) (by omega) (by simp [gx]) ?_
        rw [wr (x * 3) (by omega), wr _ (by omega)]
        refine Own.wr elem hCC30 (fun j hj => hfl hC30' j (by omega)) (by simp [lB]) (by omega) (by omega) rfl fun M46 hC46 _ hCC46 => ?_
        refine fin (lb2 := (lb.set i (0 - x)).set i (x * 3 + i)) (hC30'.trans (hC46.mono fun j _ h => by show m1 ≤ j; omega)) (hB30.chg hC46 fun j _ h h2 => by omega) (by simpa using hCC46) ?_
        rw [hla]
        refine made_step hM hi2 hx (by simpa using lB) (fun j hj => by rw [List.getElem?_set_ne (Ne.symm hj), List.getElem?_set_ne (Ne.symm hj)]) (fun hh => by omega)
      · rw [wr _ (by omega), wr _ (by omega)] at h
        refine fin (lb2 := lb.set i (0 - x)) hC30' hB30 (by simpa using hCC30) ?_
        rw [hla]
        refine made_step hM hi2 hx (by simpa using lB) (fun j hj => by rw [List.getElem?_set_ne (Ne.symm hj)]) (fun hh => ?_)
        rw [List.getElem?_set_self (by omega)]
        congr 1; omega
    refine w7_1 ⟨fun _ => ⟨fun hlt => ?_, fun hge => ?_⟩, fun h => by omega⟩
    · have hx : l[i]? = some (l.getD i 0) := by rw [List.getD, List.getElem?_eq_getElem (by omega)]; rfl
      refine Row.rd elem (hL.old hOld hC) (x := l.getD i 0) (by simp) (by omega) (by omega) (by simp only [Int.toNat_natCast, List.getElem?_map, hx]; rfl) (Cn.mono (c15 _ 41 (by omega) M) ?_)
      rintro v N ⟨rfl, rfl⟩
      have hb := bring_lt (l.getD i 0) 41 (by omega)
      refine ⟨_, rfl, ?_⟩
      rw [wr (bring (l.getD i 0) 41 - 20) (by omega)]
      refine Own.wr elem hB (fun j hj => hfl hC j hj.1) (by simp [lA]) (by omega) (by omega) rfl fun M1 hC1 _ hB1 => ?_
      exact round (bring (l.getD i 0) 41 - 20) (la1 := la.set i (bring (l.getD i 0) 41 - 20)) (by omega) rfl (hC.trans (hC1.mono fun j _ h => h.1)) (by simpa using hB1) (hCC.chg hC1 fun j _ h h2 => by omega)
    · obtain ⟨x, q1, q2, q3⟩ := hM.small i hi2
      refine round x (la1 := la) ⟨q2, q3⟩ ?_ hC hB hCC
      obtain ⟨q4, q5⟩ := List.getElem?_eq_some_iff.1 q1
      rw [← q5, List.set_getElem_self]

theorem c7 {l : List Int} {A : Option Addr} {c : Nat} (x y : Int) (hl : l.length ≤ 1048576) (M : Mem) (hA : Row M A (I64 l)) (hOld : Old A) (hf : M.floor ≤ M.nb.size) :
    Cn Try.prog 7 #[.int .i64 x, .slice A l.length c, .int .i64 y] M fun v _ => v = .bool true := by
  refine w7_0 (Cn.mono (c14 M hf) ?_)
  rintro v N ⟨rfl, hK⟩
  have hfN : N.floor ≤ N.nb.size := by rw [hK.floor]; exact Nat.le_trans hf hK.size
  refine ⟨_, rfl, fun h => (by cases h), fun _ => Cn.mono (c15 x 5 (by omega) N) ?_⟩
  rintro v N' ⟨rfl, rfl⟩
  refine ⟨_, rfl, size_of (bring_lt x 5 (by omega)) fun s hs => ?_⟩
  obtain ⟨n, hn, hn4⟩ : ∃ n : Nat, side s = n ∧ (n = 4 ∨ n = 8 ∨ n = 16 ∨ n = 32) := by
    rcases hs with rfl | rfl | rfl | rfl | rfl
    · exact ⟨4, rfl, by omega⟩
    · exact ⟨8, rfl, by omega⟩
    · exact ⟨16, rfl, by omega⟩
    · exact ⟨32, rfl, by omega⟩
    · exact ⟨32, rfl, by omega⟩
  have hmin : (if 32 < s then 32 else s) = (n : Int) := by
    rw [← hn]
    rcases hs with rfl | rfl | rfl | rfl | rfl <;> rfl
  have hnn : n * n ≤ 32 * 32 := Nat.mul_le_mul (by omega) (by omega)
  have hn1 : 1 ≤ n * n := Nat.mul_pos (by omega) (by omega)
  have enn : (n : Int) * n = ((n * n : Nat) : Int) := by norm_cast
  rw [hmin, enn, wr ((n * n : Nat) : Int) (by omega)]
  refine Cn.mono (c15 y ((n * n : Nat) : Int) (by omega) N') ?_
  rintro v N2 ⟨rfl, rfl⟩
  have hb := bring_lt y ((n * n : Nat) : Int) (by omega)
  obtain ⟨a, ha⟩ : ∃ a : Nat, bring y ((n * n : Nat) : Int) = a := ⟨(bring y ((n * n : Nat) : Int)).toNat, by omega⟩
  obtain ⟨B, M1, q1, q2, q3, q4⟩ := make_own (k := .i64) (k' := .i64) (l := ((n * n : Nat) : Int)) (c := ((n * n : Nat) : Int)) elem (S := fun j => N2.nb.size ≤ j) (M := N2) (by omega) (by omega) (by omega) (Nat.le_refl _)
  obtain ⟨C, M2, p1, p2, p3, p4⟩ := make_own (k := .i64) (k' := .i64) (l := ((n * n : Nat) : Int)) (c := ((n * n : Nat) : Int)) elem (S := fun j => M1.nb.size ≤ j) (M := M1) (by omega) (by omega) (by omega) (Nat.le_refl _)
  rw [Int.toNat_natCast] at q1 q4 p1 p4
  refine ⟨_, rfl, _, q1, _, rfl, _, p1, _, rfl, ?_⟩
  rw [ha]
  have zero : I64 (List.replicate (n * n) 0) = List.replicate (n * n) (.int .i64 0) := List.map_replicate
  have hKM : Keep M M2 := Keep.step (Keep.step hK q2 fun j h => Nat.le_trans hK.size h) p2 fun j h => Nat.le_trans hK.size (Nat.le_trans q2.size h)
  refine c7_loop (m1 := N2.nb.size) (m2 := M1.nb.size) hn hn4 (by omega) hl (M0 := M2) (hA.keep hKM) hOld q2.size (by rw [p2.floor, q2.floor]; exact hfN) p2.size (n * n) 0 (by omega) (.refl _) (la := List.replicate (n * n) 0) (lb := List.replicate (n * n) 0) ?_ (by rw [zero]; exact p4) ?_
  · rw [zero]
    have a1 : Own (fun j => N2.nb.size ≤ j ∧ j < M1.nb.size) M1 3 B (n * n) (List.replicate (n * n) (.int .i64 0)) := q4.mono fun j hj h => ⟨h, hj⟩
    exact a1.chg p2 fun j _ h h2 => by omega
  · exact ⟨by simp, by simp, fun j hj => ⟨0, by simp [hj], by omega, by omega⟩, fun j hj => by omega⟩
end Go.Zt
