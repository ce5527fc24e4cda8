/- Layer 3: Bounds, Find, Same, has, share; how fast a table learns. -/
import Derived.Test.YtbnhbmkoghnjhaaZhE
import Derived.Test.YtbnhbmkoghnjhaaZhC
set_option linter.unusedSimpArgs false
set_option linter.unusedVariables false
set_option maxRecDepth 100000
namespace Go.Zt
open Go Go.Sim Go.Proofs Go.RowKit

section
variable {M : Mem} {A : Option Addr} {n c : Nat} {l : List Nat} {k : Int}
def boundsS (l : List Nat) (k s : Int) : Nat × Nat × Nat := if checkS l k = 0 ∧ 0 ≤ s ∧ s < l.length then (endS l (s - 1), endS l s, 0) else (0, 0, 2)
abbrev bndV (q : Nat × Nat × Nat) : Value := .tuple #[.int .u32 (q.1 : Nat), .int .u32 (q.2.1 : Nat), .int .i64 (q.2.2 : Nat)]
theorem c20 (hf : M.floor ≤ M.nb.size) (hR : Row M A (uL l)) (hn : n = l.length) (hb : n ≤ 1099511627776) {s : Int} : Cn Try.prog 20 #[.agg #[.slice A n c, .int .i64 k], .int .i64 s] M fun v N => v = bndV (boundsS l k s) ∧ Keep M N := by
  have a0 := Mem.new_at M (tcells A n c k)
  have K0 : Keep M (M.new (tcells A n c k)) := .new _ _
  refine w20_0 ?_
  generalize M.new (tcells A n c k) = N at a0 K0 ⊢
  refine ⟨_, sl_of a0 rfl, _, int_of a0 rfl, Cn.mono (c32 (fb hf K0) (hR.keep K0) hn hb) ?_⟩
  rintro _ R ⟨rfl, KR⟩
  have a1 := at_keep a0 KR
  have K1 := K0.trans KR
  refine ⟨_, rfl, fun h => ⟨?_, K1⟩, fun h => ?_⟩
  · have : ¬ (checkS l k = 0 ∧ 0 ≤ s ∧ s < l.length) := by
      intro hh; rw [decide_eq_true hh] at h; cases h
    unfold boundsS; rw [if_neg this]; rfl
  · have hh : checkS l k = 0 ∧ 0 ≤ s ∧ s < l.length := by simpa using h
    have ho := check_0.1 hh.1
    have hR2 := hR.keep K1
    refine ⟨_, sl_of a1 rfl, _, int_of a1 rfl, _, sl_of a1 rfl, _, int_of a1 rfl, ?_⟩
    rw [i64w (by have := ho.hi; omega)]
    refine Cn.mono (c38 (M := { R with floor := R.nb.size }) ho hR2 hn (by omega) (by omega)) ?_
    rintro _ R2 ⟨rfl, K2⟩
    have K2' : Keep R { R2 with floor := R.floor } := K2.unfl
    refine ⟨_, rfl, Cn.mono (c38 ho (hR2.keep K2') hn (by omega) hh.2.2) ?_⟩
    rintro _ R3 ⟨rfl, K3⟩
    refine ⟨_, rfl, ?_, (K1.trans K2').trans K3⟩
    unfold boundsS; rw [if_pos hh]; rfl
theorem c30 (hf : M.floor ≤ M.nb.size) (hR : Row M A (uL l)) (hn : n = l.length) (hb : n ≤ 1099511627776) {s : Int} : Cn Try.prog 30 #[.agg #[.slice A n c, .int .i64 k], .int .i64 s] M fun v N => v = bndV (boundsS l k s) ∧ Keep M N := by
  have a0 := Mem.new_at M (tcells A n c k)
  have K0 : Keep M (M.new (tcells A n c k)) := .new _ _
  refine w30_0 ?_
  generalize M.new (tcells A n c k) = N at a0 K0 ⊢
  refine ⟨_, sl_of a0 rfl, _, int_of a0 rfl, Cn.mono (c29 (hR.keep K0) hn hb) ?_⟩
  rintro _ R ⟨rfl, KR⟩
  have a1 := at_keep a0 KR
  have K1 := K0.trans KR
  have key : ∀ b : Bool, b = decide (¬ (checkS l k = 0 ∧ 0 ≤ s ∧ s < l.length)) → A30_1 s (some ⟨2 * M.nb.size, 0, none⟩) b R fun v N => v = bndV (boundsS l k s) ∧ Keep M N := by
    intro b hb2
    refine w30_1 ⟨fun h => ⟨?_, K1⟩, fun h => ?_⟩
    · rw [h] at hb2
      unfold boundsS; rw [if_neg (of_decide_eq_true hb2.symm)]; rfl
    · rw [h] at hb2
      have hh : checkS l k = 0 ∧ 0 ≤ s ∧ s < l.length := Decidable.not_not.1 (of_decide_eq_false hb2.symm)
      have ho := check_0.1 hh.1
      have hR2 := hR.keep K1
      refine ⟨_, rfl, _, sl_of a1 rfl, _, int_of a1 rfl, _, rfl, _, sl_of a1 rfl, _, int_of a1 rfl, ?_⟩
      rw [i64w (by have := ho.hi; omega)]
      refine Cn.mono (c39 (M := { R with floor := R.nb.size }) ho hR2 hn (by omega) (by omega)) ?_
      rintro _ R2 ⟨rfl, K2⟩
      have K2' : Keep R { R2 with floor := R.floor } := K2.unfl
      refine ⟨_, rfl, Cn.mono (c39 ho (hR2.keep K2') hn (by omega) hh.2.2) ?_⟩
      rintro _ R3 ⟨rfl, K3⟩
      refine ⟨_, rfl, ?_, (K1.trans K2').trans K3⟩
      have e1 := ho.end_le (s := s) hh.2.2
      have e2 := ho.end_le (s := s - 1) (by omega)
      unfold boundsS; rw [if_pos hh, u32w (by omega), u32w (by omega)]; rfl
  refine ⟨_, rfl, fun h => key _ ?_, fun h => ⟨fun h2 => key _ ?_, fun h2 => ⟨_, sl_of a1 rfl, key _ ?_⟩⟩⟩
  · rw [Bool.eq_iff_iff]; simp; omega
  · rw [Bool.eq_iff_iff]; simp; omega
  · rw [Bool.eq_iff_iff]; simp; omega
/-- The value that has a place. -/
structure Fnd (l : List Nat) (at_ : Nat) (i : Nat) : Prop where
  lt : i < l.length
  up : at_ < endS l i
  lo : ∀ j, j < i → endS l (j : Nat) ≤ at_
theorem Fnd.uniq {x i j : Nat} (h : Fnd l x i) (h2 : Fnd l x j) : i = j := by
  rcases Nat.lt_trichotomy i j with hh | hh | hh
  · have := h2.lo i hh; have := h.up; omega
  · exact hh
  · have := h.lo j hh; have := h2.up; omega
def FndR (M0 : Mem) (l : List Nat) (k : Int) (x : Nat) : Value → Mem → Prop := fun v N => Keep M0 N ∧ ((checkS l k = 0 ∧ x < 32768 ∧ ∃ i, Fnd l x i ∧ v = .tuple #[.int .i64 (i : Nat), .int .i64 0]) ∨ (¬ (checkS l k = 0 ∧ x < 32768) ∧ v = .tuple #[.int .i64 0, .int .i64 2]))
theorem c21 (hf : M.floor ≤ M.nb.size) (hR : Row M A (uL l)) (hn : n = l.length) (hb : n ≤ 1099511627776) {x : Nat} : Cn Try.prog 21 #[.agg #[.slice A n c, .int .i64 k], .int .u32 (x : Nat)] M (FndR M l k x) := by
  have a0 := Mem.new_at M (tcells A n c k)
  have K0 : Keep M (M.new (tcells A n c k)) := .new _ _
  refine w21_0 ?_
  generalize M.new (tcells A n c k) = N at a0 K0 ⊢
  refine ⟨_, sl_of a0 rfl, _, int_of a0 rfl, Cn.mono (c19 (hR.keep K0) hn hb) ?_⟩
  rintro _ R ⟨rfl, KR⟩
  have a1 := at_keep a0 KR
  have K1 := K0.trans KR
  have key : ∀ b : Bool, b = decide (¬ (checkS l k = 0 ∧ x < 32768)) → A21_1 (x : Nat) (some ⟨2 * M.nb.size, 0, none⟩) b R (FndR M l k x) := by
    intro b hb2
    refine w21_1 ⟨fun h => ⟨K1, .inr ⟨?_, rfl⟩⟩, fun h => ?_⟩
    · rw [h] at hb2; exact of_decide_eq_true hb2.symm
    · rw [h] at hb2
      have hh : checkS l k = 0 ∧ x < 32768 := Decidable.not_not.1 (of_decide_eq_false hb2.symm)
      have ho := check_0.1 hh.1
      have loop : ∀ (m i : Nat) {N : Mem}, i + m + 1 = n → Keep M N → N.nb[M.nb.size]? = some (tcells A n c k) → (∀ j, j < i → endS l (j : Nat) ≤ x) → A21_2 (x : Nat) (some ⟨2 * M.nb.size, 0, none⟩) (i : Nat) N (FndR M l k x) := by
        intro m
        induction m with
        | zero =>
          intro i N hi K ha hs
          refine w21_2 ⟨_, rfl, _, sl_of ha rfl, _, int_of ha rfl, Cn.mono (c38 ho (hR.keep K) hn (s := (i : Nat)) (by omega) (by omega)) ?_⟩
          rintro _ N2 ⟨rfl, K2⟩
          have he := ho.end_last
          rw [show ((l.length : Int) - 1) = (i : Nat) by omega] at he
          refine ⟨_, rfl, fun h => ?_, fun h => ⟨K.trans K2, .inl ⟨hh.1, hh.2, i, ⟨by omega, by omega, hs⟩, rfl⟩⟩⟩
          rw [he] at h; omega
        | succ m ih =>
          intro i N hi K ha hs
          refine w21_2 ⟨_, rfl, _, sl_of ha rfl, _, int_of ha rfl, Cn.mono (c38 ho (hR.keep K) hn (s := (i : Nat)) (by omega) (by omega)) ?_⟩
          rintro _ N2 ⟨rfl, K2⟩
          refine ⟨_, rfl, fun h => ?_, fun h => ⟨K.trans K2, .inl ⟨hh.1, hh.2, i, ⟨by omega, by omega, hs⟩, rfl⟩⟩⟩
          rw [i64w (by have := ho.hi; omega), show ((i : Int) + 1) = ((i + 1 : Nat) : Int) by omega]
          refine ih (i + 1) (by omega) (K.trans K2) (at_keep ha K2) fun j hj => ?_
          by_cases e : j = i
          · subst e; omega
          · exact hs j (by omega)
      exact loop (n - 1) 0 (by have := ho.lo; omega) K1 a1 fun j hj => by omega
  refine ⟨_, rfl, fun h => key _ ?_, fun h => key _ ?_⟩
  · rw [Bool.eq_iff_iff]; simp; omega
  · rw [Bool.eq_iff_iff]; simp; omega
theorem c31 (hf : M.floor ≤ M.nb.size) (hR : Row M A (uL l)) (hn : n = l.length) (hb : n ≤ 1099511627776) {x : Nat} (hx : x ≤ 4294967295) : Cn Try.prog 31 #[.agg #[.slice A n c, .int .i64 k], .int .u32 (x : Nat)] M (FndR M l k x) := by
  have a0 := Mem.new_at M (tcells A n c k)
  have K0 : Keep M (M.new (tcells A n c k)) := .new _ _
  refine w31_0 ?_
  generalize M.new (tcells A n c k) = N at a0 K0 ⊢
  refine ⟨_, sl_of a0 rfl, _, int_of a0 rfl, Cn.mono (c29 (hR.keep K0) hn hb) ?_⟩
  rintro _ R ⟨rfl, KR⟩
  have a1 := at_keep a0 KR
  have K1 := K0.trans KR
  have key : ∀ b : Bool, b = decide (¬ (checkS l k = 0 ∧ x < 32768)) → A31_1 (x : Nat) (some ⟨2 * M.nb.size, 0, none⟩) b R (FndR M l k x) := by
    intro b hb2
    refine w31_1 ⟨fun h => ⟨K1, .inr ⟨?_, rfl⟩⟩, fun h => ?_⟩
    · rw [h] at hb2; exact of_decide_eq_true hb2.symm
    · rw [h] at hb2
      have hh : checkS l k = 0 ∧ x < 32768 := Decidable.not_not.1 (of_decide_eq_false hb2.symm)
      have ho := check_0.1 hh.1
      have loop : ∀ (m i : Nat) {N : Mem}, i + m + 1 = n → Keep M N → N.nb[M.nb.size]? = some (tcells A n c k) → (∀ j, j < i → endS l (j : Nat) ≤ x) → A31_2 (x : Nat) (some ⟨2 * M.nb.size, 0, none⟩) (i : Nat) N (FndR M l k x) := by
        intro m
        induction m with
        | zero =>
          intro i N hi K ha hs
          refine w31_2 ⟨_, rfl, _, sl_of ha rfl, _, int_of ha rfl, Cn.mono (c39 ho (hR.keep K) hn (s := (i : Nat)) (by omega) (by omega)) ?_⟩
          rintro _ N2 ⟨rfl, K2⟩
          have he := ho.end_last
          rw [show ((l.length : Int) - 1) = (i : Nat) by omega] at he
          refine ⟨_, rfl, fun h => ?_, fun h => ?_⟩
          · rw [he, i64w (by omega)] at h; omega
          · rw [i64w (by omega)] at h
            exact ⟨K.trans K2, .inl ⟨hh.1, hh.2, i, ⟨by omega, by omega, hs⟩, rfl⟩⟩
        | succ m ih =>
          intro i N hi K ha hs
          refine w31_2 ⟨_, rfl, _, sl_of ha rfl, _, int_of ha rfl, Cn.mono (c39 ho (hR.keep K) hn (s := (i : Nat)) (by omega) (by omega)) ?_⟩
          rintro _ N2 ⟨rfl, K2⟩
          refine ⟨_, rfl, fun h => ?_, fun h => ?_⟩
          · rw [i64w (by omega)] at h
            rw [i64w (by have := ho.hi; omega), show ((i : Int) + 1) = ((i + 1 : Nat) : Int) by omega]
            refine ih (i + 1) (by omega) (K.trans K2) (at_keep ha K2) fun j hj => ?_
            by_cases e : j = i
            · subst e; omega
            · exact hs j (by omega)
          · rw [i64w (by omega)] at h
            exact ⟨K.trans K2, .inl ⟨hh.1, hh.2, i, ⟨by omega, by omega, hs⟩, rfl⟩⟩
      exact loop (n - 1) 0 (by have := ho.lo; omega) K1 a1 fun j hj => by omega
  refine ⟨_, rfl, fun h => key _ ?_, fun h => key _ ?_⟩
  · rw [Bool.eq_iff_iff]; simp; omega
  · rw [Bool.eq_iff_iff]; simp; omega
end
/-! ### Tables that are alike -/
theorem ext_gn {l r : List Nat} (h : l.length = r.length) (he : ∀ i, i < l.length → gn l i = gn r i) : l = r := by
  refine List.ext_getElem? fun i => ?_
  rcases Nat.lt_or_ge i l.length with hi | hi
  · rw [gn_get hi, gn_get (by omega), he i hi]
  · rw [List.getElem?_eq_none hi, List.getElem?_eq_none (by omega)]
section
variable {M : Mem} {A B : Option Addr} {n c m d : Nat} {l r : List Nat} {k q : Int}
theorem c13 (hR : Row M A (uL l)) (hn : n = l.length) (hb : n ≤ 1099511627776) (hS : Row M B (uL r)) (hm : m = r.length) : Cn Try.prog 13 #[.agg #[.slice A n c, .int .i64 k], .agg #[.slice B m d, .int .i64 q]] M fun v N => v = .bool (decide (l = r ∧ k = q)) ∧ Keep M N := by
  have a0 := Mem.new_at M (tcells A n c k)
  have K0 : Keep M (M.new (tcells A n c k)) := .new _ _
  have s0 := Mem.new_size M (tcells A n c k)
  refine w13_0 ?_
  generalize M.new (tcells A n c k) = N0 at a0 K0 s0 ⊢
  have b0 := Mem.new_at N0 (tcells B m d q)
  have K1 : Keep N0 (N0.new (tcells B m d q)) := .new _ _
  generalize N0.new (tcells B m d q) = N at b0 K1 ⊢
  have a0 := at_keep a0 K1
  have K := K0.trans K1
  have hR := hR.keep K
  have hS := hS.keep K
  have bad : ¬ (l = r ∧ k = q) → (Value.bool false = .bool (decide (l = r ∧ k = q)) ∧ Keep M N) := fun h => ⟨by rw [decide_eq_false h], K⟩
  have loop : n = m → k = q → ∀ (t i : Nat), i + t = n → (∀ j, j < i → gn l j = gn r j) → A13_2 (some ⟨2 * M.nb.size, 0, none⟩) (some ⟨2 * N0.nb.size, 0, none⟩) (i : Nat) N fun v N => v = .bool (decide (l = r ∧ k = q)) ∧ Keep M N := by
    intro hnm hkq t
    induction t with
    | zero =>
      intro i hi hs
      refine w13_2 ⟨_, rfl, _, sl_of a0 rfl, fun h => ?_, fun _ => ⟨?_, K⟩⟩
      · have h : (i : Int) < (n : Nat) := h
        omega
      · rw [decide_eq_true ⟨ext_gn (by omega) fun j hj => hs j (by omega), hkq⟩]
    | succ t ih =>
      intro i hi hs
      obtain ⟨a, a1, a2⟩ := hR.u16 (n := n) (i := i) (z := ((i : Nat) : Int)) hn rfl (by omega)
      obtain ⟨b, b1, b2⟩ := hS.u16 (n := m) (i := i) (z := ((i : Nat) : Int)) hm rfl (by omega)
      refine w13_2 ⟨_, rfl, _, sl_of a0 rfl, fun _ => ⟨_, rfl, _, sl_of a0 rfl, _, a1, _, a2, _, rfl, _, sl_of b0 rfl, _, b1, _, b2, fun h => bad fun hh => ?_, fun h => ?_⟩, fun h => ?_⟩
      · rw [hh.1] at h; exact h rfl
      · rw [i64w (by omega), show ((i : Int) + 1) = ((i + 1 : Nat) : Int) by omega]
        refine ih (i + 1) (by omega) fun j hj => ?_
        by_cases e : j = i
        · subst e; omega
        · exact hs j (by omega)
      · have h : ¬ (i : Int) < (n : Nat) := h
        omega
  have key : ∀ b : Bool, b = decide (¬ (n = m ∧ k = q)) → A13_1 (some ⟨2 * M.nb.size, 0, none⟩) (some ⟨2 * N0.nb.size, 0, none⟩) b N fun v N => v = .bool (decide (l = r ∧ k = q)) ∧ Keep M N := by
    intro b hb2
    refine w13_1 ⟨fun h => bad fun hh => ?_, fun h => ?_⟩
    · rw [h] at hb2
      exact of_decide_eq_true hb2.symm ⟨by rw [hn, hm, hh.1], hh.2⟩
    · rw [h] at hb2
      have hh : n = m ∧ k = q := Decidable.not_not.1 (of_decide_eq_false hb2.symm)
      exact loop hh.1 hh.2 n 0 (Nat.zero_add _) fun j hj => by omega
  refine ⟨_, sl_of a0 rfl, _, sl_of b0 rfl, fun h => key _ ?_, fun h => ⟨_, int_of a0 rfl, _, int_of b0 rfl, key _ ?_⟩⟩
  · have h : ((n : Nat) : Int) ≠ (m : Nat) := h
    rw [Bool.eq_iff_iff]; simp; omega
  · have h : ((n : Nat) : Int) = (m : Nat) := h
    rw [Bool.eq_iff_iff]; simp; omega
theorem c24 (hR : Row M A (uL l)) (hn : n = l.length) (hb : m ≤ 1099511627776) (hS : Row M B (uL r)) (hm : m = r.length) : Cn Try.prog 24 #[.agg #[.slice A n c, .int .i64 k], .int .i64 q, .slice B m d] M fun v N => v = .bool (decide (l = r ∧ k = q)) ∧ Keep M N := by
  have a0 := Mem.new_at M (tcells A n c k)
  have K : Keep M (M.new (tcells A n c k)) := .new _ _
  refine w24_0 ?_
  generalize M.new (tcells A n c k) = N at a0 K ⊢
  have hR := hR.keep K
  have hS := hS.keep K
  have bad : ¬ (l = r ∧ k = q) → (Value.bool false = .bool (decide (l = r ∧ k = q)) ∧ Keep M N) := fun h => ⟨by rw [decide_eq_false h], K⟩
  have loop : n = m → k = q → ∀ (t i : Nat), i + t = m → (∀ j, j < i → gn l j = gn r j) → A24_2 B m d (some ⟨2 * M.nb.size, 0, none⟩) (i : Nat) N fun v N => v = .bool (decide (l = r ∧ k = q)) ∧ Keep M N := by
    intro hnm hkq t
    induction t with
    | zero =>
      intro i hi hs
      refine w24_2 ⟨fun h => by omega, fun _ => ⟨?_, K⟩⟩
      rw [decide_eq_true ⟨ext_gn (by omega) fun j hj => hs j (by omega), hkq⟩]
    | succ t ih =>
      intro i hi hs
      obtain ⟨a, a1, a2⟩ := hR.u16 (n := n) (i := i) (z := ((i : Nat) : Int)) hn rfl (by omega)
      obtain ⟨b, b1, b2⟩ := hS.u16 (n := m) (i := i) (z := ((i : Nat) : Int)) hm rfl (by omega)
      refine w24_2 ⟨fun _ => ⟨_, rfl, _, sl_of a0 rfl, _, a1, _, a2, _, b1, _, b2, fun h => bad fun hh => ?_, fun h => ?_⟩, fun h => by omega⟩
      · rw [hh.1] at h; exact h rfl
      · rw [i64w (by omega), show ((i : Int) + 1) = ((i + 1 : Nat) : Int) by omega]
        refine ih (i + 1) (by omega) fun j hj => ?_
        by_cases e : j = i
        · subst e; omega
        · exact hs j (by omega)
  have key : ∀ b : Bool, b = decide (¬ (n = m ∧ k = q)) → A24_1 B m d (some ⟨2 * M.nb.size, 0, none⟩) b N fun v N => v = .bool (decide (l = r ∧ k = q)) ∧ Keep M N := by
    intro b hb2
    refine w24_1 ⟨fun h => bad fun hh => ?_, fun h => ?_⟩
    · rw [h] at hb2
      exact of_decide_eq_true hb2.symm ⟨by rw [hn, hm, hh.1], hh.2⟩
    · rw [h] at hb2
      have hh : n = m ∧ k = q := Decidable.not_not.1 (of_decide_eq_false hb2.symm)
      exact loop hh.1 hh.2 m 0 (Nat.zero_add _) fun j hj => by omega
  refine ⟨_, sl_of a0 rfl, fun h => key _ ?_, fun h => ⟨_, int_of a0 rfl, key _ ?_⟩⟩
  · have h : ((n : Nat) : Int) ≠ (m : Nat) := h
    rw [Bool.eq_iff_iff]; simp; omega
  · have h : ((n : Nat) : Int) = (m : Nat) := h
    rw [Bool.eq_iff_iff]; simp; omega
def shareS (l : List Nat) (s : Nat) : Int := if s = 0 then gn l 0 else (gn l s : Int) - gn l (s - 1)
theorem c23 (hR : Row M A (uL l)) (hn : n = l.length) (hb : n ≤ 1099511627776) (hl : ∀ x ∈ l, x ≤ 65535) {s : Nat} (hs : s < n) : Cn Try.prog 23 #[.agg #[.slice A n c, .int .i64 k], .int .i64 (s : Nat)] M fun v N => v = .int .i64 (shareS l s) ∧ Keep M N := by
  have a0 := Mem.new_at M (tcells A n c k)
  have K : Keep M (M.new (tcells A n c k)) := .new _ _
  refine w23_0 ?_
  generalize M.new (tcells A n c k) = N at a0 K ⊢
  have hR := hR.keep K
  refine ⟨fun h => ?_, fun h => ?_⟩
  · obtain ⟨a, a1, a2⟩ := hR.u16 (n := n) (i := 0) (z := 0) hn rfl (by omega)
    have := gn_b hl 0
    refine ⟨_, sl_of a0 rfl, _, a1, _, a2, ?_, K⟩
    unfold shareS; rw [if_pos (by omega), i64w (by omega)]
  · obtain ⟨a, a1, a2⟩ := hR.u16 (n := n) (i := s) (z := ((s : Nat) : Int)) hn rfl (by omega)
    obtain ⟨b, b1, b2⟩ := hR.u16 (n := n) (i := s - 1) (z := ((s - 1 : Nat) : Int)) hn rfl (by omega)
    have h1 := gn_b hl s
    have h2 := gn_b hl (s - 1)
    refine ⟨_, sl_of a0 rfl, _, a1, _, a2, _, sl_of a0 rfl, ?_⟩
    rw [i64w (x := (s : Int) - 1) (by omega), show ((s : Int) - 1) = ((s - 1 : Nat) : Int) by omega]
    refine ⟨_, b1, _, b2, ?_, K⟩
    unfold shareS; rw [if_neg (by omega), i64w (x := ((gn l s : Nat) : Int)) (by omega), i64w (x := ((gn l (s - 1) : Nat) : Int)) (by omega), i64w (by omega)]
end
/-! ### How fast a table learns -/
def fast (n : Nat) : Nat := if n < 4 then 1 else 2
def rateS (n : Nat) (k : Int) : Nat := 3 + fast n + (if 15 < k then 1 else 0) + (if 31 < k then 1 else 0)
theorem len_at {n : Nat} (h : 2 ≤ n ∧ n ≤ 16) : ∃ x : Nat, strV Try.prog 9 (.string str0) (.int .u8 ((n : Nat) : Int)) = some (.int .u8 (x : Nat)) ∧ 2 ≤ x ∧ x ≤ 5 ∧ (if 2 < x - 1 then 2 else x - 1) = fast n := by
  obtain ⟨h1, h2⟩ := h
  have : n = 2 ∨ n = 3 ∨ n = 4 ∨ n = 5 ∨ n = 6 ∨ n = 7 ∨ n = 8 ∨ n = 9 ∨ n = 10 ∨ n = 11 ∨ n = 12 ∨ n = 13 ∨ n = 14 ∨ n = 15 ∨ n = 16 := by omega
  rcases this with rfl | rfl | rfl | rfl | rfl | rfl | rfl | rfl | rfl | rfl | rfl | rfl | rfl | rfl | rfl
  · exact ⟨2, by kernel_rfl, by decide, by decide, rfl⟩
  · exact ⟨2, by kernel_rfl, by decide, by decide, rfl⟩
  · exact ⟨3, by kernel_rfl, by decide, by decide, rfl⟩
  · exact ⟨3, by kernel_rfl, by decide, by decide, rfl⟩
  · exact ⟨3, by kernel_rfl, by decide, by decide, rfl⟩
  · exact ⟨3, by kernel_rfl, by decide, by decide, rfl⟩
  · exact ⟨4, by kernel_rfl, by decide, by decide, rfl⟩
  · exact ⟨4, by kernel_rfl, by decide, by decide, rfl⟩
  · exact ⟨4, by kernel_rfl, by decide, by decide, rfl⟩
  · exact ⟨4, by kernel_rfl, by decide, by decide, rfl⟩
  · exact ⟨4, by kernel_rfl, by decide, by decide, rfl⟩
  · exact ⟨4, by kernel_rfl, by decide, by decide, rfl⟩
  · exact ⟨4, by kernel_rfl, by decide, by decide, rfl⟩
  · exact ⟨4, by kernel_rfl, by decide, by decide, rfl⟩
  · exact ⟨5, by kernel_rfl, by decide, by decide, rfl⟩
theorem c40 {n : Nat} (h : 2 ≤ n ∧ n ≤ 16) {M : Mem} : Cn Try.prog 40 #[.int .u64 (n : Nat)] M fun v N => (∃ x : Nat, v = .int .i64 (x : Nat) ∧ 2 ≤ x ∧ x ≤ 5 ∧ (if 2 < x - 1 then 2 else x - 1) = fast n) ∧ N = M := by
  obtain ⟨x, hx, h1, h2, h3⟩ := len_at h
  refine w40_0 (w43_0 ⟨fun hh => by omega, fun _ => ⟨fun hh => by omega, fun _ => ⟨fun hh => by omega, fun _ => ?_⟩⟩⟩)
  rw [u8w (by omega)]
  refine ⟨_, hx, _, rfl, _, rfl, ⟨x, ?_, h1, h2, h3⟩, rfl⟩
  rw [i64w (x := ((x : Nat) : Int)) (by omega), i64w (by omega)]; simp
theorem c35_1 {M : Mem} : ∀ (n : Nat) (c : Nat), 1 ≤ n → c + n ≤ 1048576 → A35_1 (n : Nat) (c : Nat) M fun v N => v = .int .i64 ((c + Nat.log2 n : Nat) : Int) ∧ N = M := by
  intro n
  induction n using Nat.strongRecOn with
  | _ n ih =>
    intro c h1 h2
    refine w35_1 ⟨fun h => ?_, fun h => ⟨?_, rfl⟩⟩
    · rw [show (2 : Int) = ((2 : Nat) : Int) from rfl, tdivN, i64w (by omega), i64w (by omega), show ((c : Int) + 1) = ((c + 1 : Nat) : Int) by omega]
      have := ih (n / 2) (by omega) (c + 1) (by omega) (by omega)
      have e : c + 1 + Nat.log2 (n / 2) = c + Nat.log2 n := by
        rw [Nat.log2_def n, if_pos (by omega)]; omega
      rw [e] at this; exact this
    · rw [show n = 1 by omega]; simp [Nat.log2_def]
theorem log_fast {n : Nat} (h : 2 ≤ n ∧ n ≤ 16) : (if 2 < Nat.log2 n then 2 else Nat.log2 n) = fast n := by
  have : ∀ i : Fin 17, 2 ≤ i.val → (if 2 < Nat.log2 i.val then 2 else Nat.log2 i.val) = fast i.val := by decide +kernel
  exact this ⟨n, by omega⟩ h.1
theorem c35 {M : Mem} {n : Nat} (h : 2 ≤ n ∧ n ≤ 16) : Cn Try.prog 35 #[.int .i64 (n : Nat)] M fun v N => v = .int .i64 ((Nat.log2 n : Nat) : Int) ∧ N = M := by
  refine w35_0 ?_
  have := c35_1 (M := M) n 0 (by omega) (by omega)
  rw [Nat.zero_add] at this; exact this
section
variable {M : Mem} {A : Option Addr} {n c : Nat} {k : Int}
theorem c33 (h : 2 ≤ n ∧ n ≤ 16) : Cn Try.prog 33 #[.agg #[.slice A n c, .int .i64 k]] M fun v N => v = .int .i64 ((rateS n k : Nat) : Int) ∧ Keep M N := by
  have a0 := Mem.new_at M (tcells A n c k)
  have K : Keep M (M.new (tcells A n c k)) := .new _ _
  refine w33_0 ?_
  generalize M.new (tcells A n c k) = N at a0 K ⊢
  refine ⟨_, sl_of a0 rfl, ?_⟩
  dsimp only
  rw [u64w (by omega)]
  refine Cn.mono (c40 h) ?_
  rintro _ _ ⟨⟨x, rfl, h1, h2, h3⟩, rfl⟩
  have e : (if (2 : Int) < IntKind.i64.wrap (((x : Nat) : Int) - 1) then 2 else IntKind.i64.wrap (((x : Nat) : Int) - 1)) = ((fast n : Nat) : Int) := by
    rw [← h3, i64w (by omega)]
    by_cases hh : 2 < x - 1
    · rw [if_pos hh, if_pos (by omega)]; rfl
    · rw [if_neg hh, if_neg (by omega)]; omega
  have hf : fast n ≤ 2 := by unfold fast; split <;> omega
  refine ⟨_, rfl, _, int_of a0 rfl, fun hk => ⟨_, int_of a0 rfl, fun hk2 => ⟨?_, K⟩, fun hk2 => ⟨?_, K⟩⟩, fun hk => ⟨_, int_of a0 rfl, fun hk2 => ⟨?_, K⟩, fun hk2 => ⟨?_, K⟩⟩⟩
  · rw [e, i64w (x := 3 + _) (by omega), i64w (x := 3 + _ + 1) (by omega), i64w (by omega)]
    unfold rateS; rw [if_pos (by omega), if_pos (by omega)]; congr 1
  · rw [e, i64w (x := 3 + _) (by omega), i64w (by omega)]
    unfold rateS; rw [if_pos (by omega), if_neg (by omega)]; congr 1
  · omega
  · rw [e, i64w (x := 3 + _) (by omega)]
    unfold rateS; rw [if_neg (by omega), if_neg (by omega)]; congr 1
end
end Go.Zt
