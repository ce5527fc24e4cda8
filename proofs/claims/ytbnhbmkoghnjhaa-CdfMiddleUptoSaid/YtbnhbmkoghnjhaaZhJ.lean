/- Layer 3: copied, kept, told; answers that are put into variables. -/
import Derived.Test.YtbnhbmkoghnjhaaZhI
set_option linter.unusedSimpArgs false
set_option linter.unusedVariables false
set_option maxRecDepth 100000
namespace Go.Zt
open Go Go.Sim Go.Proofs Go.RowKit

/-- Rows that are cut: all that lies there lies there still. -/
theorem slice_full {P : Program} {t e : TypeId} {s b : Nat} {z : Value} (hE : ElemS P t e s b z) {S : Nat → Prop} {M : Mem} {A : Option Addr} {L : List Value} {n c h : Nat} (hO : Own S M e A (c * s) L) {hi : Option Value} (hh : bound hi c n = some h) (hs : hi.isSome = true) (h0 : L ≠ []) :
    ∃ A', sliceP P t (.slice A n c) none hi none = some (.slice A' h c) ∧ Own S M e A' (c * s) L := by
  have e2 : ∀ y d, bound none y d = some d := fun _ _ => rfl
  rcases hO with ⟨rfl, rfl, hc0⟩ | ⟨j, cs, sp, rfl, g2, g3, g4, g5, g6, g7⟩
  · exact absurd rfl h0
  · have out : ∀ sp', (sp' = none ∨ sp' = some 0) → Own S M e (some ⟨2 * j, 0, sp'⟩) (c * s) L := fun sp' hsp => .inr ⟨j, cs, sp', rfl, hsp, g3, g4, g5, g6, g7⟩
    have e0 : sliceP P t (.slice (some ⟨2 * j, 0, sp⟩) n c) none hi none = cut s ⟨2 * j, 0, sp⟩ n false 0 h c := by
      simp only [sliceP, hE.slice, e2, Option.bind_some, Option.isSome_none, Bool.and_false, Bool.false_eq_true, if_false, hh, hE.size]
    rw [e0]
    unfold cut
    rw [if_neg (show ¬ (2 * j) % 2 = 1 by omega)]
    rcases g2 with rfl | rfl
    · rw [if_pos rfl]
      by_cases hc : c = 0
      · subst hc
        exact ⟨_, by simp, out none (.inl rfl)⟩
      · rw [if_neg hc]
        exact ⟨_, by simp, out none (.inl rfl)⟩
    · rw [if_neg (by simp)]
      simp only [Bool.false_eq_true, if_false]
      exact ⟨_, by simp, out (some 0) (.inr rfl)⟩
/-- An answered table is put into a variable. -/
theorem TbR.var {M N X : Mem} {v : Value} {q : List Nat × Int × Nat} {j : Nat} {D : Int → Mem → Prop} (h : TbR M q v N) (hf : N.floor ≤ j) (hX : Chg (· = j) N X) (hXj : X.nb[j]? = some (tcells none 0 0 0)) (hd : ∀ p, p < N.nb.size → M.nb.size ≤ p → p ≠ j)
    (k : ∀ A c M2, Keep M N → Chg (· = j) N M2 → M2.nb.size = X.nb.size → M2.nb[j]? = some (tcells A q.1.length c q.2.1) → Own (fun p => M.nb.size ≤ p ∧ p ≠ j ∧ p < N.nb.size) M2 47 A c (uL q.1) → q.1.length ≤ c → D (q.2.2 : Nat) M2) :
    ∃ cs, asU 2 v = some cs ∧ ∃ cs', asA 2 (cs.getD 0 undef) = some cs' ∧ ∃ s, asS (cs'.getD 0 undef) = some s ∧ ∃ x, asI .i64 (cs'.getD 1 undef) = some x ∧ ∃ e, asI .i64 (cs.getD 1 undef) = some e ∧
      ∃ M1, X.put (2 * j) 0 (.slice s.1 s.2.1 s.2.2) = some M1 ∧ ∃ M2, M1.put (2 * j) 1 (.int .i64 x) = some M2 ∧ D e M2 := by
  obtain ⟨A, c, rfl, K, hO, hc⟩ := h
  obtain ⟨M1, p1, M2, p2, C, hs, u⟩ := put2 (A := A) (n := q.1.length) (c := c) (k := q.2.1) hXj (by rw [hX.floor]; exact hf)
  exact ⟨_, rfl, _, rfl, _, rfl, _, rfl, _, rfl, M1, p1, M2, p2, k A c M2 K (hX.trans C) hs u ((hO.mono fun p hp h => ⟨h, hd p hp h, hp⟩).chg (hX.trans C) fun p _ h1 h2 => h1.2.1 h2) hc⟩
theorem newC (M : Mem) (b : Blk) : Chg (· = M.nb.size) M (M.new b) := .new _ _
abbrev room : List Nat := [7777, 7777, 7777]
section
variable {M : Mem} {A : Option Addr} {n c : Nat} {l : List Nat} {k : Int}
/-- A copy of a table, with marked room behind it. -/
def CpR (M0 : Mem) (l : List Nat) (k : Int) : Value → Mem → Prop := fun v N => ∃ A c, v = .agg #[.slice A l.length c, .int .i64 k] ∧ Keep M0 N ∧ Own (fun j => M0.nb.size ≤ j) N 47 A c (uL (l ++ room)) ∧ l.length + 3 ≤ c
theorem c10 (hf : M.floor ≤ M.nb.size) (hR : Row M A (uL l)) (hn : n = l.length) (hb : n ≤ 1099511627776) : Cn Try.prog 10 #[.agg #[.slice A n c, .int .i64 k]] M (CpR M l k) := by
  have a0 := newI (M := M) A n c k
  have K0 : Keep M (M.new (tcells A n c k)) := .new _ _
  have sz0 := Mem.new_size M (tcells A n c k)
  refine w10_0 ?_
  generalize M.new (tcells A n c k) = N0 at a0 K0 sz0 ⊢
  have b0 := newI (M := N0) none 0 0 0
  have K1 : Keep N0 (N0.new (tcells none 0 0 0)) := .new _ _
  have sz1 := Mem.new_size N0 (tcells none 0 0 0)
  generalize N0.new (tcells none 0 0 0) = N at b0 K1 sz1 ⊢
  have a0 := at_keep a0 K1
  have KN := K0.trans K1
  have hT : ∀ q, N.nb.size ≤ q → M.nb.size ≤ q ∧ q ≠ M.nb.size ∧ q ≠ N0.nb.size := fun q hq => by omega
  obtain ⟨B, d, R, g1, g2, g3, g4⟩ := append_own el16 (S := fun q => M.nb.size ≤ q ∧ q ≠ M.nb.size ∧ q ≠ N0.nb.size) (M := N) (A := none) (c := 0) (n := 0) (k := n) (cx := c) (L := []) (by exact Own.empty) (by simp) (hR.keep KN) (by rw [List.length_map, hn, Nat.mul_one]) (uL_one l) (fun q hq => by rw [KN.floor]; omega) (hT _ (Nat.le_refl _)) (by omega)
  rw [Nat.mul_one, List.nil_append] at g3
  have K2 : Keep M R := Keep.step KN g2 fun q hq => hq.1
  refine ⟨_, sl_of a0 rfl, _, g1, _, rfl, ?_⟩
  dsimp only
  have loop : ∀ (t i : Nat) (B : Option Addr) (d : Nat) (r : List Nat) {R : Mem}, i + t = 3 → r.length + t = 3 → l.length + r.length ≤ d → r ++ List.replicate t 7777 = room → Keep M R → R.nb[M.nb.size]? = some (tcells A n c k) → R.nb[N0.nb.size]? = some (tcells none 0 0 0) → Own (fun q => M.nb.size ≤ q ∧ q ≠ M.nb.size ∧ q ≠ N0.nb.size) R 47 B d (uL (l ++ r)) →
      A10_1 (some ⟨2 * M.nb.size, 0, none⟩) (some ⟨2 * N0.nb.size, 0, none⟩) B (n + r.length) d (i : Nat) R (CpR M l k) := by
    intro t
    induction t with
    | zero =>
      intro i B d r R hi hr hd hrm K ha hb2 hO
      have hr2 : r = room := by simpa using hrm
      subst hr2
      obtain ⟨B', q1, q2⟩ := slice_full el16 (n := n + 3) (c := d) (h := n) (hi := some (.int .i64 ((n : Nat) : Int))) (by rw [Nat.mul_one]; exact hO) (bound_lo rfl (by simp at hd; omega)) rfl (by simp)
      rw [Nat.mul_one] at q2
      obtain ⟨M1, p1, M2, p2, C, hs, u⟩ := put2 (A := B') (n := n) (c := d) (k := k) hb2 (by rw [K.floor]; omega)
      refine w10_1 ⟨fun h => by omega, fun _ => ⟨_, rfl, _, sl_of ha rfl, _, q1, _, rfl, _, rfl, _, int_of ha rfl, _, rfl, _, p1, _, p2, _, rfl, _, sl_of u rfl, _, int_of u rfl, B', d, by rw [hn], Keep.step K C fun p hp => by rw [hp]; omega, ?_, by simp at hd; omega⟩⟩
      exact (q2.chg C fun p _ h1 h2 => h1.2.2 h2).mono fun p _ h => h.1
    | succ t ih =>
      intro i B d r R hi hr hd hrm K ha hb2 hO
      have hRs := lt_of_at ha
      have hRs2 := lt_of_at hb2
      obtain ⟨A', c', M', g1, g2, g3, g4⟩ := app1S el16 (S := fun q => M.nb.size ≤ q ∧ q ≠ M.nb.size ∧ q ≠ N0.nb.size) (n := n + r.length) (v := .int .u16 ((7777 : Nat) : Int)) hO (by simp [hn]) (fun q hq => by rw [K.floor]; omega) (by omega) (by omega) rfl (by omega)
      refine w10_1 ⟨fun _ => ⟨_, g1, _, rfl, ?_⟩, fun h => by omega⟩
      dsimp only
      rw [i64w (by omega), show ((i : Int) + 1) = ((i + 1 : Nat) : Int) by omega]
      have := ih (i + 1) A' c' (r ++ [7777]) (by omega) (by simp; omega) (by simp; omega) (by rw [← hrm, List.append_assoc]; rfl) (Keep.step K g2 fun q hq => hq.1) (at_chg ha g2 (by omega)) (at_chg hb2 g2 (by omega)) (by
        rw [← List.append_assoc, uL, List.map_append]; exact g3)
      rw [List.length_append] at this
      exact this
  have := loop 3 0 B d [] (Nat.zero_add _) rfl (by simp; omega) rfl K2 (at_chg a0 g2 (by omega)) (at_chg b0 g2 (by omega)) (by rw [List.append_nil]; exact g3)
  rw [Nat.zero_add]
  exact this
theorem gn_room {l : List Nat} {i : Nat} (h : i < 3) : gn (l ++ room) (l.length + i) = 7777 := by
  unfold gn
  rw [List.getD_eq_getElem?_getD, List.getElem?_append_right (by omega), show l.length + i - l.length = i by omega]
  match i, h with
  | 0, _ => rfl
  | 1, _ => rfl
  | 2, _ => rfl
theorem row_pre {M : Mem} {A : Option Addr} {l r : List Nat} (h : Row M A (uL (l ++ r))) : Row M A (uL l) := by
  intro i hi
  have hi' : i < l.length := by simpa using hi
  obtain ⟨a, ha, hc⟩ := h i (by simp; omega)
  refine ⟨a, ha, hc.trans ?_⟩
  rw [← List.getElem?_eq_getElem, ← List.getElem?_eq_getElem, uL, List.map_append, List.getElem?_append_left hi]
theorem c14 {S : Nat → Prop} {B : Option Addr} {m d : Nat} (hO : Own S M 47 A c (uL (l ++ room))) (hn : n = l.length) (hb : n ≤ 1099511627776) (hc : n + 3 ≤ c) (hB : Row M B (uL l)) (hm : m = l.length) : Cn Try.prog 14 #[.agg #[.slice A n c, .int .i64 k], .agg #[.slice B m d, .int .i64 k]] M fun v N => v = .bool true ∧ Keep M N := by
  have a0 := newI (M := M) A n c k
  have K0 : Keep M (M.new (tcells A n c k)) := .new _ _
  have sz0 := Mem.new_size M (tcells A n c k)
  refine w14_0 ?_
  generalize M.new (tcells A n c k) = N0 at a0 K0 sz0 ⊢
  have b0 := newI (M := N0) B m d k
  have K1 : Keep N0 (N0.new (tcells B m d k)) := .new _ _
  generalize N0.new (tcells B m d k) = N at b0 K1 ⊢
  have a0 := at_keep a0 K1
  have K := K0.trans K1
  have hO2 := hO.chg K fun _ _ _ h => h
  obtain ⟨A', q1, q2⟩ := slice_full el16 (n := n) (c := c) (h := m + 3) (hi := some (.int .i64 ((m + 3 : Nat) : Int))) (by rw [Nat.mul_one]; exact hO2) (bound_lo rfl (by omega)) rfl (by simp)
  refine ⟨_, sl_of a0 rfl, _, sl_of b0 rfl, ?_⟩
  dsimp only
  rw [i64w (by omega), show ((m : Int) + 3) = ((m + 3 : Nat) : Int) by omega]
  refine ⟨_, q1, _, rfl, _, sl_of a0 rfl, _, int_of a0 rfl, _, sl_of b0 rfl, _, int_of b0 rfl, Cn.mono (c13 (row_pre hO2.row) hn hb (hB.keep K) hm) ?_⟩
  rintro _ R ⟨rfl, KR⟩
  have b1 := at_keep b0 KR
  have hrow := (q2.chg KR fun _ _ _ h => h).row
  have rd : ∀ {i : Nat} {z : Int}, i < 3 → z = ((m + i : Nat) : Int) → ∃ a, idxA A' (m + 3) 1 z = some a ∧ R.intAt .u16 a.block a.off = some ((7777 : Nat) : Int) := by
    intro i z hi hz
    obtain ⟨a, h1, h2⟩ := hrow.int1 (n := m + 3) (i := m + i) (z := z) (x := ((7777 : Nat) : Int)) (k := .u16) hz (by omega) (by
      rw [gn_at (by simp; omega), hm, gn_room hi])
    exact ⟨a, h1, h2⟩
  have tr : ((((7777 : Nat) : Int)) == 7777) = true := by decide
  obtain ⟨a1, x1, y1⟩ := rd (i := 0) (z := ((m : Nat) : Int)) (by omega) (by omega)
  obtain ⟨a2, x2, y2⟩ := rd (i := 1) (z := IntKind.i64.wrap (((m : Nat) : Int) + 1)) (by omega) (by rw [i64w (by omega)]; omega)
  obtain ⟨a3, x3, y3⟩ := rd (i := 2) (z := IntKind.i64.wrap (((m : Nat) : Int) + 2)) (by omega) (by rw [i64w (by omega)]; omega)
  refine ⟨_, rfl, fun _ => ⟨_, sl_of b1 rfl, _, x1, _, y1, ?_⟩, fun h => ?_⟩
  · rw [tr]
    refine w14_1 ⟨fun _ => ⟨_, rfl, _, sl_of b1 rfl, _, x2, _, y2, ?_⟩, fun h => by cases h⟩
    rw [tr]
    refine w14_2 ⟨fun _ => ⟨_, rfl, _, sl_of b1 rfl, _, x3, _, y3, ?_, K.trans KR⟩, fun h => by cases h⟩
    rw [tr]
  · rw [decide_eq_true ⟨rfl, rfl⟩] at h; cases h
theorem c15 {S : Nat → Prop} {B : Option Addr} {m d : Nat} {r : List Nat} {q e f : Int} (hO : Own S M 47 A c (uL l)) (hS : ∀ j, S j → M.floor ≤ j) (hf : M.floor ≤ M.nb.size) (hn : n = l.length) (hb : n ≤ 1048576) (hB : Row M B (uL r)) (hm : m = r.length) :
    Cn Try.prog 15 #[.agg #[.slice A n c, .int .i64 k], .int .i64 e, .agg #[.slice B m d, .int .i64 q], .int .i64 f] M fun v N => v = .bool (decide (e = f ∧ l = r ∧ k = q)) ∧ Chg S M N := by
  have a0 := newI (M := M) A n c k
  have K0 : Keep M (M.new (tcells A n c k)) := .new _ _
  have sz0 := Mem.new_size M (tcells A n c k)
  refine w15_0 ?_
  generalize M.new (tcells A n c k) = N0 at a0 K0 sz0 ⊢
  have b0 := newI (M := N0) B m d q
  have K1 : Keep N0 (N0.new (tcells B m d q)) := .new _ _
  have sz1 := Mem.new_size N0 (tcells B m d q)
  generalize N0.new (tcells B m d q) = N at b0 K1 sz1 ⊢
  have a0 := at_keep a0 K1
  have K := K0.trans K1
  have app : ∀ (v : Bool) (t i : Nat) (A : Option Addr) (n c : Nat) (l : List Nat) {R : Mem}, i + t = 4 → n = l.length → n ≤ 1048576 + i → Chg (fun p => S p ∨ M.nb.size ≤ p) M R → Own (fun p => S p ∨ M.nb.size ≤ p) R 47 A c (uL l) → A15_3 v A n c (i : Nat) R fun w N => w = .bool v ∧ Chg S M N := by
    intro v t
    induction t with
    | zero =>
      intro i A n c l R hi hn hb C hO
      exact w15_3 ⟨fun h => by omega, fun _ => ⟨rfl, C.mono fun p hp h => h.resolve_right (by omega)⟩⟩
    | succ t ih =>
      intro i A n c l R hi hn hb C hO
      have hs := C.size
      obtain ⟨A', c', M', g1, g2, g3, g4⟩ := app1S el16 (S := fun p => S p ∨ M.nb.size ≤ p) (n := n) (v := .int .u16 ((2 : Nat) : Int)) hO (by simp [hn]) (fun p hp => by rw [C.floor]; exact hp.elim (hS p) (fun h => by omega)) (.inr hs) (.inr (by omega)) rfl (by omega)
      refine w15_3 ⟨fun _ => ⟨_, g1, _, rfl, ?_⟩, fun h => by omega⟩
      rw [i64w (by omega), show ((i : Int) + 1) = ((i + 1 : Nat) : Int) by omega]
      exact ih (i + 1) A' (n + 1) c' (l ++ [2]) (by omega) (by simp [hn]) (by omega) (C.trans g2) (by rw [uL, List.map_append]; exact g3)
  have fill : ∀ (v : Bool) (t i : Nat) (l : List Nat) {R : Mem}, i + t = n → n = l.length → Chg (fun p => S p ∨ M.nb.size ≤ p) M R → Own S R 47 A c (uL l) → A15_2 v A n c (i : Nat) R fun w N => w = .bool v ∧ Chg S M N := by
    intro v t
    induction t with
    | zero =>
      intro i l R hi hn C hO
      refine w15_2 ⟨fun h => by omega, fun _ => ?_⟩
      exact app v 4 0 A n c l (Nat.zero_add _) hn (by omega) C (hO.mono fun p _ h => .inl h)
    | succ t ih =>
      intro i l R hi hn C hO
      obtain ⟨a, b1, M', b2, b3, b4, b5⟩ := hO.put1 (fun p hp => by rw [C.floor]; exact hS p hp) (n := n) (i := i) (z := ((i : Nat) : Int)) (v := .int .u16 ((1 : Nat) : Int)) rfl (by omega) (by rw [List.length_map]; omega) rfl
      refine w15_2 ⟨fun _ => ⟨_, b1, _, b2, ?_⟩, fun h => by omega⟩
      rw [i64w (by omega), show ((i : Int) + 1) = ((i + 1 : Nat) : Int) by omega]
      rw [uL_set] at b5
      exact ih (i + 1) (l.set i 1) (by omega) (by simp [hn]) (C.trans (b3.mono fun p _ h => .inl h)) b5
  have key : ∀ (v : Bool) {R : Mem}, Keep M R → R.nb[M.nb.size]? = some (tcells A n c k) → A15_1 (some ⟨2 * M.nb.size, 0, none⟩) v R fun w N => w = .bool v ∧ Chg S M N := by
    intro v R KR ha
    exact w15_1 ⟨_, rfl, _, sl_of ha rfl, fill v n 0 l (Nat.zero_add _) hn (KR.mono fun _ _ h => h.elim) (hO.chg KR fun _ _ _ h => h)⟩
  refine ⟨fun h => ⟨_, sl_of a0 rfl, _, int_of a0 rfl, _, sl_of b0 rfl, _, int_of b0 rfl, Cn.mono (c13 (n := n) ((hO.row).keep K) hn (by omega) (hB.keep K) hm) ?_⟩, fun h => ?_⟩
  · rintro _ R ⟨rfl, KR⟩
    refine ⟨_, rfl, ?_⟩
    have e2 : decide (e = f ∧ l = r ∧ k = q) = decide (l = r ∧ k = q) := by
      rw [Bool.eq_iff_iff]; simp [h]
    rw [e2]
    exact key _ (K.trans KR) (at_keep a0 KR)
  · rw [decide_eq_false (fun hh => h hh.1)]
    exact key false K a0
/-- 'works' is known. -/
theorem c16 {M : Mem} : Cn Try.prog 16 #[] M fun v N => v = .bool true ∧ N = M := Cn.known (v := .bool true) rfl ⟨rfl, rfl⟩
end
end Go.Zt
