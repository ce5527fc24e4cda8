/- Layer 21: squares; what TilesLays comes to. -/
import Derived.Test.YtnhfoiijkadajaaZeD
import Derived.Test.YtnhfoiijkadajaaZeBa
set_option linter.unusedSimpArgs false
set_option linter.unusedVariables false
namespace Go.Zt
open Go Go.Sim Go.Proofs Go.RowKit
def supB (x y w h : Int) : Bool := decide (1 ≤ w ∧ w ≤ 256 ∧ 1 ≤ h ∧ h ≤ 256 ∧ 0 ≤ x ∧ x ≤ 256 ∧ 0 ≤ y ∧ y ≤ 256)
def supI (x y j i : Nat) : Rc := (((x + 64 * i : Nat) : Int), ((y + 64 * j : Nat) : Int), 64, 64)
def supR (x y k j : Nat) : List Rc := (List.range k).map (supI x y j)
def supS (x y w k : Nat) : List Rc := (List.range k).flatMap (supR x y (sqN w))
def supL (x y w h : Int) : List Rc := if supB x y w h then supS x.toNat y.toNat w.toNat (sqN h.toNat) else []
theorem supS_len (x y w k : Nat) : (supS x y w k).length = k * sqN w := by
  unfold supS
  induction k with
  | zero => simp
  | succ k ih => rw [range_flat_succ, List.length_append, ih, supR, List.length_map, List.length_range, Nat.add_mul, Nat.one_mul]
theorem supL_len (x y w h : Int) : (supL x y w h).length ≤ 16 := by
  unfold supL
  split
  · rename_i hb
    have hb := of_decide_eq_true hb
    rw [supS_len]
    exact Nat.le_trans (Nat.mul_le_mul (sqN_b (by omega)) (sqN_b (by omega))) (by decide)
  · simp
def SuR (M0 : Mem) (l : List Rc) : Value → Mem → Prop := fun v N => ∃ A cap, v = .slice A l.length cap ∧ Keep M0 N ∧ Own (fun j => M0.nb.size ≤ j) N 35 A (cap * 4) (Rcs l)
section
variable {M0 : Mem}
structure Box (M : Mem) (p : Addr) (x y w h : Nat) : Prop where
  x : M.intAt .i64 p.block p.off = some (x : Int)
  y : M.intAt .i64 p.block (p.off + 1) = some (y : Int)
  w : M.intAt .i64 p.block (p.off + 2) = some (w : Int)
  h : M.intAt .i64 p.block (p.off + 3) = some (h : Int)
theorem c19_in (hf : M0.floor ≤ M0.nb.size) {x y w h : Nat} (hx : x ≤ 256) (hy : y ≤ 256) (hw : w ≤ 256) (hh : h ≤ 256) {p : Addr} (hB : ∀ {N}, Keep M0 N → Box N p x y w h) {j : Nat} (hj : j ≤ 4) {l : List Rc} (hl : l.length ≤ 16) {Q : Value → Mem → Prop}
    (hE : ∀ A' c' N, Keep M0 N → Own (fun j => M0.nb.size ≤ j) N 35 A' (c' * 4) (Rcs (l ++ supR x y (sqN w) j)) → A19_4 (some p) A' (l ++ supR x y (sqN w) j).length c' ((y + 64 * (j + 1) : Nat) : Int) N Q) :
    ∀ (k i : Nat) (A' : Option Addr) (c' : Nat) {M : Mem}, i + k = sqN w → Keep M0 M → Own (fun j => M0.nb.size ≤ j) M 35 A' (c' * 4) (Rcs (l ++ supR x y i j)) →
      A19_5 (some p) A' (l ++ supR x y i j).length c' ((y + 64 * j : Nat) : Int) ((x + 64 * i : Nat) : Int) M Q
  | 0, i, A', c', M, hi, K, hO => by
    obtain rfl : i = sqN w := by omega
    have b := hB K
    have e1 : IntKind.i64.wrap ((x : Int) + (w : Nat)) = ((x + w : Nat) : Int) := by rw [i64w (by omega)]; omega
    refine w19_5 ⟨_, rfl, _, b.x, _, rfl, _, b.w, fun hlt => ?_, fun _ => ?_⟩
    · rw [e1] at hlt; unfold sqN at hlt; omega
    · rw [i64w (by omega), show ((y + 64 * j : Nat) : Int) + 64 = ((y + 64 * (j + 1) : Nat) : Int) by omega]
      exact hE A' c' M K hO
  | k + 1, i, A', c', M, hi, K, hO => by
    have b := hB K
    have hs := sqN_b hw
    have hll : (supR x y i j).length = i := by simp [supR]
    have e1 : IntKind.i64.wrap ((x : Int) + (w : Nat)) = ((x + w : Nat) : Int) := by rw [i64w (by omega)]; omega
    obtain ⟨A2, c2, N, g1, g2, g3, g4⟩ := appR hf K hO rfl (by rw [List.length_append, hll]; omega) (supI x y j i)
    refine w19_5 ⟨_, rfl, _, b.x, _, rfl, _, b.w, fun _ => ⟨_, g1, _, rfl, ?_⟩, fun hge => ?_⟩
    · rw [i64w (by omega), show ((x + 64 * i : Nat) : Int) + 64 = ((x + 64 * (i + 1) : Nat) : Int) by omega]
      have es : supR x y (i + 1) j = supR x y i j ++ [supI x y j i] := range_map_succ _ _
      have := c19_in hf hx hy hw hh hB hj hl hE k (i + 1) A2 c2 (M := N) (by omega) g2 (by rw [es, ← List.append_assoc]; exact g3)
      rw [es, ← List.append_assoc, List.length_append] at this
      exact this
    · rw [e1] at hge
      have : i < sqN w := by omega
      unfold sqN at this; omega
theorem c19_out (hf : M0.floor ≤ M0.nb.size) {x y w h : Nat} (hx : x ≤ 256) (hy : y ≤ 256) (hw : w ≤ 256) (hh : h ≤ 256) {p : Addr} (hB : ∀ {N}, Keep M0 N → Box N p x y w h) {Q : Value → Mem → Prop}
    (hQ : ∀ A' c' N, Keep M0 N → Own (fun j => M0.nb.size ≤ j) N 35 A' (c' * 4) (Rcs (supS x y w (sqN h))) → Q (.slice A' (supS x y w (sqN h)).length c') N) :
    ∀ (k j : Nat) (A' : Option Addr) (c' : Nat) {M : Mem}, j + k = sqN h → Keep M0 M → Own (fun j => M0.nb.size ≤ j) M 35 A' (c' * 4) (Rcs (supS x y w j)) → A19_4 (some p) A' (supS x y w j).length c' ((y + 64 * j : Nat) : Int) M Q
  | 0, j, A', c', M, hj, K, hO => by
    obtain rfl : j = sqN h := by omega
    have b := hB K
    have e1 : IntKind.i64.wrap ((y : Int) + (h : Nat)) = ((y + h : Nat) : Int) := by rw [i64w (by omega)]; omega
    refine w19_4 ⟨_, rfl, _, b.y, _, rfl, _, b.h, fun hlt => ?_, fun _ => hQ _ _ _ K hO⟩
    rw [e1] at hlt; unfold sqN at hlt; omega
  | k + 1, j, A', c', M, hj, K, hO => by
    have b := hB K
    have hs := sqN_b hw
    have hs2 := sqN_b hh
    have e1 : IntKind.i64.wrap ((y : Int) + (h : Nat)) = ((y + h : Nat) : Int) := by rw [i64w (by omega)]; omega
    have hl : (supS x y w j).length ≤ 16 := by rw [supS_len]; exact Nat.le_trans (Nat.mul_le_mul (show j ≤ 4 by omega) hs) (by decide)
    have e0 : supS x y w j ++ supR x y 0 j = supS x y w j := by simp [supR]
    have es : supS x y w (j + 1) = supS x y w j ++ supR x y (sqN w) j := range_flat_succ _ _
    refine w19_4 ⟨_, rfl, _, b.y, _, rfl, _, b.h, fun _ => ⟨_, rfl, _, b.x, ?_⟩, fun hge => ?_⟩
    · have := c19_in hf hx hy hw hh hB (j := j) (by omega) hl (Q := Q) (fun A2 c2 N K2 O2 => by
        rw [← es] at O2 ⊢
        exact c19_out hf hx hy hw hh hB hQ k (j + 1) A2 c2 (by omega) K2 O2) (sqN w) 0 A' c' (M := M) (Nat.zero_add _) K (by rw [e0]; exact hO)
      rw [e0] at this
      exact this
    · rw [e1] at hge
      have : j < sqN h := by omega
      unfold sqN at this; omega
theorem c19 (hf : M0.floor ≤ M0.nb.size) {x y w h : Int} : Cn Try.prog 19 #[.agg #[.int .i64 x, .int .i64 y, .int .i64 w, .int .i64 h]] M0 (SuR M0 (supL x y w h)) := by
  have a0 := Mem.new_at M0 (.cells #[.int .i64 x, .int .i64 y, .int .i64 w, .int .i64 h] 35)
  have K0 : Keep M0 (M0.new (.cells #[.int .i64 x, .int .i64 y, .int .i64 w, .int .i64 h] 35)) := .new _ _
  refine w19_0 ?_
  generalize M0.new (.cells #[.int .i64 x, .int .i64 y, .int .i64 w, .int .i64 h] 35) = M1 at a0 K0
  have t3 : supB x y w h = false → A19_3 (some ⟨2 * M0.nb.size, 0, none⟩) true M1 (SuR M0 (supL x y w h)) := fun hb => w19_3 ⟨fun _ => by
    unfold supL; rw [hb]; exact ⟨none, 0, rfl, K0, Own.empty⟩, fun h => (by cases h)⟩
  have t2 : supB x y w h = false → A19_2 (some ⟨2 * M0.nb.size, 0, none⟩) true M1 (SuR M0 (supL x y w h)) := fun hb => w19_2 ⟨fun _ => t3 hb, fun h => (by cases h)⟩
  have t1 : supB x y w h = false → A19_1 (some ⟨2 * M0.nb.size, 0, none⟩) true M1 (SuR M0 (supL x y w h)) := fun hb => w19_1 ⟨fun _ => t2 hb, fun h => (by cases h)⟩
  have no : ∀ {p : Prop}, ¬ (1 ≤ w ∧ w ≤ 256 ∧ 1 ≤ h ∧ h ≤ 256 ∧ 0 ≤ x ∧ x ≤ 256 ∧ 0 ≤ y ∧ y ≤ 256) → supB x y w h = false := fun h => decide_eq_false h
  refine ⟨_, int_of a0 rfl, Cn.eq c35 ⟨_, rfl, fun h1 => t1 (no (p := True) fun hh => of_decide_eq_false (nb h1) ⟨by omega, by omega⟩), fun h1 => ⟨_, int_of a0 rfl, Cn.eq c35 ⟨_, rfl, w19_1 ⟨fun h2 => t2 (no (p := True) fun hh => of_decide_eq_false (nb h2) ⟨by omega, by omega⟩), fun h2 =>
    ⟨_, rfl, _, int_of a0 rfl, Cn.eq c35 ⟨_, rfl, w19_2 ⟨fun h3 => t3 (no (p := True) fun hh => of_decide_eq_false (nb h3) ⟨by omega, by omega⟩), fun h3 => ⟨_, rfl, _, int_of a0 rfl, Cn.eq c35 ⟨_, rfl, w19_3 ⟨fun h4 => ?_, fun h4 => ?_⟩⟩⟩⟩⟩⟩⟩⟩⟩⟩⟩
  · unfold supL
    rw [no (p := True) fun hh => of_decide_eq_false (nb h4) ⟨by omega, by omega⟩]
    exact ⟨none, 0, rfl, K0, Own.empty⟩
  have h1 := of_decide_eq_true (nb' h1)
  have h2 := of_decide_eq_true (nb' h2)
  have h3 := of_decide_eq_true (nb' h3)
  have h4 := of_decide_eq_true (nb' h4)
  have hb : supB x y w h = true := decide_eq_true ⟨by omega, by omega, by omega, by omega, by omega, by omega, by omega, by omega⟩
  unfold supL
  rw [hb]
  obtain ⟨x, rfl⟩ : ∃ n' : Nat, x = n' := ⟨x.toNat, by omega⟩
  obtain ⟨y, rfl⟩ : ∃ n' : Nat, y = n' := ⟨y.toNat, by omega⟩
  obtain ⟨w, rfl⟩ : ∃ n' : Nat, w = n' := ⟨w.toNat, by omega⟩
  obtain ⟨h, rfl⟩ : ∃ n' : Nat, h = n' := ⟨h.toNat, by omega⟩
  refine ⟨_, rfl, _, int_of a0 rfl, ?_⟩
  exact c19_out (M0 := M1) (p := ⟨2 * M0.nb.size, 0, none⟩) (by rw [K0.floor]; exact Nat.le_trans hf K0.size) (by omega) (by omega) (by omega) (by omega) (fun K => ⟨int_of (at_keep a0 K) rfl, int_of (at_keep a0 K) rfl, int_of (at_keep a0 K) rfl, int_of (at_keep a0 K) rfl⟩)
    (fun A' cap N K hO => ⟨A', cap, rfl, K0.trans K, hO.mono fun i _ hi => Nat.le_trans K0.size hi⟩) (sqN h) 0 none 0 (M := M1) (Nat.zero_add _) (.refl _) Own.empty
theorem c20_in (hf : M0.floor ≤ M0.nb.size) {x y w h : Nat} (hx : x ≤ 256) (hy : y ≤ 256) (hw : w ≤ 256) (hh : h ≤ 256) {p : Addr} (hB : ∀ {N}, Keep M0 N → Box N p x y w h) {j : Nat} (hj : j ≤ 4) {l : List Rc} (hl : l.length ≤ 16) {Q : Value → Mem → Prop}
    (hE : ∀ A' c' N, Keep M0 N → Own (fun j => M0.nb.size ≤ j) N 35 A' (c' * 4) (Rcs (l ++ supR x y (sqN w) j)) → A20_8 (some p) A' (l ++ supR x y (sqN w) j).length c' ((64 * (j + 1) : Nat) : Int) N Q) :
    ∀ (k i : Nat) (A' : Option Addr) (c' : Nat) {M : Mem}, i + k = sqN w → Keep M0 M → Own (fun j => M0.nb.size ≤ j) M 35 A' (c' * 4) (Rcs (l ++ supR x y i j)) →
      A20_9 (some p) A' (l ++ supR x y i j).length c' ((64 * j : Nat) : Int) ((64 * i : Nat) : Int) M Q
  | 0, i, A', c', M, hi, K, hO => by
    obtain rfl : i = sqN w := by omega
    have b := hB K
    refine w20_9 ⟨_, rfl, _, b.w, fun hlt => ?_, fun _ => ?_⟩
    · unfold sqN at hlt; omega
    · rw [i64w (by omega), show ((64 * j : Nat) : Int) + 64 = ((64 * (j + 1) : Nat) : Int) by omega]
      exact hE A' c' M K hO
  | k + 1, i, A', c', M, hi, K, hO => by
    have b := hB K
    have hs := sqN_b hw
    have hll : (supR x y i j).length = i := by simp [supR]
    obtain ⟨A2, c2, N, g1, g2, g3, g4⟩ := appR hf K hO rfl (by rw [List.length_append, hll]; omega) (supI x y j i)
    have e1 : IntKind.i64.wrap ((x : Int) + ((64 * i : Nat) : Int)) = ((x + 64 * i : Nat) : Int) := by rw [i64w (by omega)]; omega
    have e2 : IntKind.i64.wrap ((y : Int) + ((64 * j : Nat) : Int)) = ((y + 64 * j : Nat) : Int) := by rw [i64w (by omega)]; omega
    refine w20_9 ⟨_, rfl, _, b.w, fun _ => ⟨_, rfl, _, b.x, _, rfl, _, b.y, ?_⟩, fun hge => ?_⟩
    · rw [e1, e2]
      refine ⟨_, g1, _, rfl, ?_⟩
      rw [i64w (by omega), show ((64 * i : Nat) : Int) + 64 = ((64 * (i + 1) : Nat) : Int) by omega]
      have es : supR x y (i + 1) j = supR x y i j ++ [supI x y j i] := range_map_succ _ _
      have := c20_in hf hx hy hw hh hB hj hl hE k (i + 1) A2 c2 (M := N) (by omega) g2 (by rw [es, ← List.append_assoc]; exact g3)
      rw [es, ← List.append_assoc, List.length_append] at this
      exact this
    · have : i < sqN w := by omega
      unfold sqN at this; omega
theorem c20_out (hf : M0.floor ≤ M0.nb.size) {x y w h : Nat} (hx : x ≤ 256) (hy : y ≤ 256) (hw : w ≤ 256) (hh : h ≤ 256) {p : Addr} (hB : ∀ {N}, Keep M0 N → Box N p x y w h) {Q : Value → Mem → Prop}
    (hQ : ∀ A' c' N, Keep M0 N → Own (fun j => M0.nb.size ≤ j) N 35 A' (c' * 4) (Rcs (supS x y w (sqN h))) → Q (.slice A' (supS x y w (sqN h)).length c') N) :
    ∀ (k j : Nat) (A' : Option Addr) (c' : Nat) {M : Mem}, j + k = sqN h → Keep M0 M → Own (fun j => M0.nb.size ≤ j) M 35 A' (c' * 4) (Rcs (supS x y w j)) → A20_8 (some p) A' (supS x y w j).length c' ((64 * j : Nat) : Int) M Q
  | 0, j, A', c', M, hj, K, hO => by
    obtain rfl : j = sqN h := by omega
    have b := hB K
    refine w20_8 ⟨_, rfl, _, b.h, fun hlt => ?_, fun _ => hQ _ _ _ K hO⟩
    unfold sqN at hlt; omega
  | k + 1, j, A', c', M, hj, K, hO => by
    have b := hB K
    have hs := sqN_b hw
    have hs2 := sqN_b hh
    have hl : (supS x y w j).length ≤ 16 := by rw [supS_len]; exact Nat.le_trans (Nat.mul_le_mul (show j ≤ 4 by omega) hs) (by decide)
    have e0 : supS x y w j ++ supR x y 0 j = supS x y w j := by simp [supR]
    have es : supS x y w (j + 1) = supS x y w j ++ supR x y (sqN w) j := range_flat_succ _ _
    refine w20_8 ⟨_, rfl, _, b.h, fun _ => ?_, fun hge => ?_⟩
    · have := c20_in hf hx hy hw hh hB (j := j) (by omega) hl (Q := Q) (fun A2 c2 N K2 O2 => by
        rw [← es] at O2 ⊢
        exact c20_out hf hx hy hw hh hB hQ k (j + 1) A2 c2 (by omega) K2 O2) (sqN w) 0 A' c' (M := M) (Nat.zero_add _) K (by rw [e0]; exact hO)
      rw [e0] at this
      exact this
    · have : j < sqN h := by omega
      unfold sqN at this; omega
theorem c20 (hf : M0.floor ≤ M0.nb.size) {x y w h : Int} : Cn Try.prog 20 #[.agg #[.int .i64 x, .int .i64 y, .int .i64 w, .int .i64 h]] M0 (SuR M0 (supL x y w h)) := by
  have a0 := Mem.new_at M0 (.cells #[.int .i64 x, .int .i64 y, .int .i64 w, .int .i64 h] 35)
  have K0 : Keep M0 (M0.new (.cells #[.int .i64 x, .int .i64 y, .int .i64 w, .int .i64 h] 35)) := .new _ _
  refine w20_0 ?_
  generalize M0.new (.cells #[.int .i64 x, .int .i64 y, .int .i64 w, .int .i64 h] 35) = M1 at a0 K0
  have rx : M1.intAt .i64 (2 * M0.nb.size) 0 = some x := int_of a0 rfl
  have ry : M1.intAt .i64 (2 * M0.nb.size) (0 + 1) = some y := int_of a0 rfl
  have rw' : M1.intAt .i64 (2 * M0.nb.size) (0 + 2) = some w := int_of a0 rfl
  have rh : M1.intAt .i64 (2 * M0.nb.size) (0 + 3) = some h := int_of a0 rfl
  have t7 : supB x y w h = false → A20_7 (some ⟨2 * M0.nb.size, 0, none⟩) true M1 (SuR M0 (supL x y w h)) := fun hb => w20_7 ⟨fun _ => by
    unfold supL; rw [hb]; exact ⟨none, 0, rfl, K0, Own.empty⟩, fun h => (by cases h)⟩
  have t6 : supB x y w h = false → A20_6 (some ⟨2 * M0.nb.size, 0, none⟩) true M1 (SuR M0 (supL x y w h)) := fun hb => w20_6 ⟨fun _ => t7 hb, fun h => (by cases h)⟩
  have t5 : supB x y w h = false → A20_5 (some ⟨2 * M0.nb.size, 0, none⟩) true M1 (SuR M0 (supL x y w h)) := fun hb => w20_5 ⟨fun _ => t6 hb, fun h => (by cases h)⟩
  have t4 : supB x y w h = false → A20_4 (some ⟨2 * M0.nb.size, 0, none⟩) true M1 (SuR M0 (supL x y w h)) := fun hb => w20_4 ⟨fun _ => t5 hb, fun h => (by cases h)⟩
  have t3 : supB x y w h = false → A20_3 (some ⟨2 * M0.nb.size, 0, none⟩) true M1 (SuR M0 (supL x y w h)) := fun hb => w20_3 ⟨fun _ => t4 hb, fun h => (by cases h)⟩
  have t2 : supB x y w h = false → A20_2 (some ⟨2 * M0.nb.size, 0, none⟩) true M1 (SuR M0 (supL x y w h)) := fun hb => w20_2 ⟨fun _ => t3 hb, fun h => (by cases h)⟩
  have t1 : supB x y w h = false → A20_1 (some ⟨2 * M0.nb.size, 0, none⟩) true M1 (SuR M0 (supL x y w h)) := fun hb => w20_1 ⟨fun _ => t2 hb, fun h => (by cases h)⟩
  have no : ∀ {p : Prop}, ¬ (1 ≤ w ∧ w ≤ 256 ∧ 1 ≤ h ∧ h ≤ 256 ∧ 0 ≤ x ∧ x ≤ 256 ∧ 0 ≤ y ∧ y ≤ 256) → supB x y w h = false := fun h => decide_eq_false h
  refine ⟨_, rw', fun h1 => t1 (no (p := True) fun hh => by omega), fun h1 => ⟨_, rw', ?_⟩⟩
  refine w20_1 ⟨fun h2 => t2 (no (p := True) fun hh => by have := of_decide_eq_true h2; omega), fun h2 => ⟨_, rfl, _, rh, ?_⟩⟩
  refine w20_2 ⟨fun h3 => t3 (no (p := True) fun hh => by have := of_decide_eq_true h3; omega), fun h3 => ⟨_, rfl, _, rh, ?_⟩⟩
  refine w20_3 ⟨fun h4 => t4 (no (p := True) fun hh => by have := of_decide_eq_true h4; omega), fun h4 => ⟨_, rfl, _, rx, ?_⟩⟩
  refine w20_4 ⟨fun h5 => t5 (no (p := True) fun hh => by have := of_decide_eq_true h5; omega), fun h5 => ⟨_, rfl, _, rx, ?_⟩⟩
  refine w20_5 ⟨fun h6 => t6 (no (p := True) fun hh => by have := of_decide_eq_true h6; omega), fun h6 => ⟨_, rfl, _, ry, ?_⟩⟩
  refine w20_6 ⟨fun h7 => t7 (no (p := True) fun hh => by have := of_decide_eq_true h7; omega), fun h7 => ⟨_, rfl, _, ry, ?_⟩⟩
  refine w20_7 ⟨fun h8 => ?_, fun h8 => ?_⟩
  · unfold supL
    rw [no (p := True) fun hh => by have := of_decide_eq_true h8; omega]
    exact ⟨none, 0, rfl, K0, Own.empty⟩
  have h2 := of_decide_eq_false h2
  have h3 := of_decide_eq_false h3
  have h4 := of_decide_eq_false h4
  have h5 := of_decide_eq_false h5
  have h6 := of_decide_eq_false h6
  have h7 := of_decide_eq_false h7
  have h8 := of_decide_eq_false h8
  have hb : supB x y w h = true := decide_eq_true ⟨by omega, by omega, by omega, by omega, by omega, by omega, by omega, by omega⟩
  unfold supL
  rw [hb]
  obtain ⟨x, rfl⟩ : ∃ n' : Nat, x = n' := ⟨x.toNat, by omega⟩
  obtain ⟨y, rfl⟩ : ∃ n' : Nat, y = n' := ⟨y.toNat, by omega⟩
  obtain ⟨w, rfl⟩ : ∃ n' : Nat, w = n' := ⟨w.toNat, by omega⟩
  obtain ⟨h, rfl⟩ : ∃ n' : Nat, h = n' := ⟨h.toNat, by omega⟩
  exact c20_out (M0 := M1) (p := ⟨2 * M0.nb.size, 0, none⟩) (by rw [K0.floor]; exact Nat.le_trans hf K0.size) (by omega) (by omega) (by omega) (by omega) (fun K => ⟨int_of (at_keep a0 K) rfl, int_of (at_keep a0 K) rfl, int_of (at_keep a0 K) rfl, int_of (at_keep a0 K) rfl⟩)
    (fun A' cap N K hO => ⟨A', cap, rfl, K0.trans K, hO.mono fun i _ hi => Nat.le_trans K0.size hi⟩) (sqN h) 0 none 0 (M := M1) (Nat.zero_add _) (.refl _) Own.empty
theorem eqRc (r q : Rc) : ∃ b : Bool, binV Try.prog .neq 35 35 (.agg #[.int .i64 r.1, .int .i64 r.2.1, .int .i64 r.2.2.1, .int .i64 r.2.2.2]) (.agg #[.int .i64 q.1, .int .i64 q.2.1, .int .i64 q.2.2.1, .int .i64 q.2.2.2]) = some (.bool !b) ∧
    binV Try.prog .eql 35 35 (.agg #[.int .i64 r.1, .int .i64 r.2.1, .int .i64 r.2.2.1, .int .i64 r.2.2.2]) (.agg #[.int .i64 q.1, .int .i64 q.2.1, .int .i64 q.2.2.1, .int .i64 q.2.2.2]) = some (.bool b) ∧ (b = true ↔ r = q) := by
  obtain ⟨b, h1, h2, h3⟩ := binV_eqA (P := Try.prog) (k := 3) (t := 35) (tb := 35) (xs := Rc.cells r) (ys := Rc.cells q) (by decide) (by kernel_rfl) (by kernel_rfl) (by kernel_rfl) (by kernel_rfl) (by kernel_rfl) rfl rfl
  refine ⟨b, h2, h1, h3.trans ?_⟩
  obtain ⟨a1, a2, a3, a4⟩ := r
  obtain ⟨b1, b2, b3, b4⟩ := q
  simp
theorem Rcs_at {M : Mem} {A : Option Addr} {l : List Rc} (h : Row M A (Rcs l)) {n i : Nat} {z : Int} (hz : z = (i : Int)) (hn : i < n) (hi : i < l.length) :
    ∃ a, idxA A n 4 z = some a ∧ M.intAt .i64 a.block a.off = some l[i].1 ∧ M.intAt .i64 a.block (a.off + 1) = some l[i].2.1 ∧ M.intAt .i64 a.block (a.off + 2) = some l[i].2.2.1 ∧ M.intAt .i64 a.block (a.off + 3) = some l[i].2.2.2 := by
  obtain ⟨a, h1, h2⟩ := Row.flat (f := Rc.cells) (s := 4) (fun _ => rfl) h (by decide) hz hn hi
  exact ⟨a, h1, cell_int (h2 0 (by decide)), cell_int (h2 1 (by decide)), cell_int (h2 2 (by decide)), cell_int (h2 3 (by decide))⟩
theorem c18_loop {M : Mem} {A B : Option Addr} {l l' : List Rc} (hA : Row M A (Rcs l)) (hB : Row M B (Rcs l')) {n m c d : Nat} (hn : n = l.length) (hm : m = l'.length) (hl : l.length = l'.length) (hb : n ≤ 4611686018427387904) {Q : Value → Mem → Prop} :
    ∀ (k i : Nat), i + k = n → Q (.bool (decide (l.drop i = l'.drop i))) M → A18_1 A n c B m d i M Q
  | 0, i, hi, hQ => by
    refine w18_1 ⟨fun h => by omega, fun _ => ?_⟩
    have e : decide (l.drop i = l'.drop i) = true := by
      rw [List.drop_of_length_le (by omega), List.drop_of_length_le (by omega)]; simp
    rw [e] at hQ; exact hQ
  | k + 1, i, hi, hQ => by
    have h1 : i < l.length := by omega
    have h2 : i < l'.length := by omega
    obtain ⟨a, i1, i2, i3, i4, i5⟩ := Rcs_at hA (n := n) (z := i) rfl (by omega) h1
    obtain ⟨b, j1, j2, j3, j4, j5⟩ := Rcs_at hB (n := m) (z := i) rfl (by omega) h2
    obtain ⟨e, e1, _, e2⟩ := eqRc l[i] l'[i]
    rw [List.drop_eq_getElem_cons h1, List.drop_eq_getElem_cons h2] at hQ
    refine w18_1 ⟨fun _ => ⟨_, i1, _, i2, _, i3, _, i4, _, i5, _, j1, _, j2, _, j3, _, j4, _, j5, _, e1, _, rfl, fun h => ?_, fun h => ?_⟩, fun h => by omega⟩
    · have hne : l[i] ≠ l'[i] := fun he => by rw [e2.2 he] at h; cases h
      rw [decide_eq_false (fun hh => hne (List.cons.inj hh).1)] at hQ; exact hQ
    · have he := e2.1 (nb' h)
      rw [i64w (by omega), show ((i : Int) + 1) = ((i + 1 : Nat) : Int) by omega]
      refine c18_loop hA hB hn hm hl hb k (i + 1) (by omega) ?_
      have : decide (l[i] :: l.drop (i + 1) = l'[i] :: l'.drop (i + 1)) = decide (l.drop (i + 1) = l'.drop (i + 1)) := by
        rw [decide_eq_decide, he]; exact ⟨fun h => (List.cons.inj h).2, fun h => by rw [h]⟩
      rw [this] at hQ; exact hQ
theorem c18 {M : Mem} {A B : Option Addr} {l l' : List Rc} (hA : Row M A (Rcs l)) (hB : Row M B (Rcs l')) {n m c d : Nat} (hn : n = l.length) (hm : m = l'.length) (hb : n ≤ 4611686018427387904) :
    Cn Try.prog 18 #[.slice A n c, .slice B m d] M fun v N => v = .bool (decide (l = l')) ∧ N = M := by
  refine w18_0 ⟨fun h => ⟨?_, rfl⟩, fun h => ?_⟩
  · have : l ≠ l' := fun e => h (by rw [hn, hm, e])
    simp [this]
  · exact c18_loop hA hB hn hm (by omega) hb n 0 (Nat.zero_add _) ⟨by simp, rfl⟩
def layL (w h c r : Int) : List Rc × Nat := if sideB w c && sideB h r then (layS w.toNat h.toNat c.toNat r.toNat (2 ^ r.toNat), 0) else ([], 2)
theorem layL_len (w h c r : Int) : (layL w h c r).1.length ≤ 16 := by
  unfold layL
  split
  · rename_i hb
    rw [Bool.and_eq_true] at hb
    have h1 := of_decide_eq_true hb.1
    have h2 := of_decide_eq_true hb.2
    rw [layS_len]
    exact Nat.le_trans (Nat.mul_le_mul (pow2c (c := r.toNat) (by omega)).2 (pow2c (c := c.toNat) (by omega)).2) (by decide)
  · simp
def LyL (M0 : Mem) (q : List Rc × Nat) : Value → Mem → Prop := fun v N => ∃ A cap, v = .tuple #[.slice A q.1.length cap, .int .i64 (q.2 : Nat)] ∧ Keep M0 N ∧ Own (fun j => M0.nb.size ≤ j) N 35 A (cap * 4) (Rcs q.1)
theorem LyR.of {w h c r : Int} {v : Value} {N : Mem} (hh : LyR M0 w h c r v N) : LyL M0 (layL w h c r) v N := by
  unfold layL
  rcases hh with ⟨h1, rfl, K⟩ | ⟨w', h', c', r', rfl, rfl, rfl, rfl, _, _, _, _, _, _, _, _, hb, A, cap, rfl, K, hO, _⟩
  · rw [h1]; exact ⟨none, 0, rfl, K, Own.empty⟩
  · rw [hb]; exact ⟨A, cap, rfl, K, hO⟩
theorem c5_loop {B0 : Mem} (KB : Keep B0 M0) {A B : Option Addr} {l : List Rc} {n m c d : Nat} (hn : n = l.length) (hm : m = l.length) (hl : l.length ≤ 16) (hf : M0.floor ≤ M0.nb.size) (hA : ∀ {N}, Keep M0 N → Row N A (Rcs l)) (hB : ∀ {N}, Keep M0 N → Row N B (Rcs l)) :
    ∀ (k i : Nat) {M : Mem}, i + k = l.length → Keep M0 M → A5_2 A n c B m d (i : Nat) M fun v N => v = .bool true ∧ Keep B0 N
  | 0, i, M, hi, K => w5_2 ⟨fun h => by omega, fun _ => Cn.known (by rfl) ⟨_, rfl, rfl, KB.trans K⟩⟩
  | k + 1, i, M, hi, K => by
    have h1 : i < l.length := by omega
    obtain ⟨a, i1, i2, i3, i4, i5⟩ := Rcs_at (hA K) (n := n) (z := i) rfl (by omega) h1
    obtain ⟨b, j1, j2, j3, j4, j5⟩ := Rcs_at (hB K) (n := m) (z := i) rfl (by omega) h1
    refine w5_2 ⟨fun _ => ⟨_, i1, _, i2, _, i3, _, i4, _, i5, _, j1, _, j2, _, j3, _, j4, _, j5, Cn.mono (c19 (M0 := { M with floor := M.nb.size }) (Nat.le_refl _)) ?_⟩, fun h => by omega⟩
    have hfM : M.floor ≤ M.nb.size := by rw [K.floor]; exact Nat.le_trans hf K.size
    have hs := supL_len l[i].1 l[i].2.1 l[i].2.2.1 l[i].2.2.2
    generalize hsp : supL l[i].1 l[i].2.1 l[i].2.2.1 l[i].2.2.2 = sp at hs
    rintro v N ⟨A1, c1, rfl, K1f, O1⟩
    have K1 : Keep M { N with floor := M.floor } := K1f.unfl
    have O1' : Own (fun j => M.nb.size ≤ j) { N with floor := M.floor } 35 A1 (c1 * 4) (Rcs sp) := O1
    have hf1 : M.floor ≤ N.nb.size := Nat.le_trans hfM K1.size
    refine ⟨_, rfl, Cn.mono (c20 (M0 := { N with floor := M.floor }) hf1) ?_⟩
    rw [show supL l[i].1 l[i].2.1 l[i].2.2.1 l[i].2.2.2 = sp from hsp]
    rintro v N2 ⟨A2, c2, rfl, K2, O2⟩
    refine ⟨_, rfl, Cn.eq (c18 (n := sp.length) (m := sp.length) (O1'.row.keep K2) O2.row rfl rfl (by omega)) ⟨_, rfl, fun h => ?_, fun _ => ?_⟩⟩
    · simp at h
    rw [i64w (by omega), show ((i : Int) + 1) = ((i + 1 : Nat) : Int) by omega]
    exact c5_loop KB hn hm hl hf hA hB k (i + 1) (by omega) ((K.trans K1).trans K2)
theorem c5 (hf : M0.floor ≤ M0.nb.size) {w h c r x y u z : Int} : Cn Try.prog 5 #[.agg #[.int .i64 w, .int .i64 h], .agg #[.int .i64 c, .int .i64 r], .agg #[.int .i64 x, .int .i64 y, .int .i64 u, .int .i64 z]] M0 fun v N => v = .bool true ∧ Keep M0 N := by
  refine w5_0 ?_
  generalize hM1 : M0.new (.cells #[.int .i64 w, .int .i64 h] 32) = M1
  have a1 : M1.nb[M0.nb.size]? = some (.cells #[.int .i64 w, .int .i64 h] 32) := by rw [← hM1]; exact Mem.new_at _ _
  have K1 : Keep M0 M1 := by rw [← hM1]; exact .new _ _
  generalize hM2 : M1.new (.cells #[.int .i64 c, .int .i64 r] 33) = M2
  have a2 : M2.nb[M1.nb.size]? = some (.cells #[.int .i64 c, .int .i64 r] 33) := by rw [← hM2]; exact Mem.new_at _ _
  have K2 : Keep M1 M2 := by rw [← hM2]; exact .new _ _
  have a3 := Mem.new_at M2 (.cells #[.int .i64 x, .int .i64 y, .int .i64 u, .int .i64 z] 35)
  have K3 : Keep M2 (M2.new (.cells #[.int .i64 x, .int .i64 y, .int .i64 u, .int .i64 z] 35)) := .new _ _
  generalize M2.new (.cells #[.int .i64 x, .int .i64 y, .int .i64 u, .int .i64 z] 35) = M3 at a3 K3
  have b1 := at_keep (at_keep a1 K2) K3
  have b2 := at_keep a2 K3
  have K03 := (K1.trans K2).trans K3
  have hf3 : M3.floor ≤ M3.nb.size := by rw [K03.floor]; exact Nat.le_trans hf K03.size
  refine ⟨_, int_of b1 rfl, _, int_of b1 rfl, _, rfl, _, int_of b2 rfl, _, rfl, _, int_of b2 rfl, Cn.mono (c16 hf3) ?_⟩
  intro v N hh
  obtain ⟨A, ca, rfl, K4, O4⟩ := LyR.of hh
  have hf4 : N.floor ≤ N.nb.size := by rw [K4.floor]; exact Nat.le_trans hf3 K4.size
  have b1 := at_keep b1 K4
  have b2 := at_keep b2 K4
  refine ⟨_, rfl, _, rfl, _, rfl, _, int_of b1 rfl, _, int_of b1 rfl, _, rfl, _, int_of b2 rfl, _, rfl, _, int_of b2 rfl, Cn.mono (c17 hf4) ?_⟩
  intro v N2 hh
  obtain ⟨B, cb, rfl, K5, O5⟩ := LyR.of hh
  have hl := layL_len w h c r
  generalize layL w h c r = q at O4 O5 hl ⊢
  have K45 := K4.trans K5
  have hf5 : N2.floor ≤ N2.nb.size := by rw [K5.floor]; exact Nat.le_trans hf4 K5.size
  have d3 := at_keep a3 K45
  refine ⟨_, rfl, _, rfl, _, rfl, fun h => absurd rfl h, fun _ => Cn.eq (c18 (n := q.1.length) (m := q.1.length) (O4.row.keep K5) O5.row rfl rfl (by omega)) ⟨_, rfl, fun h => ?_, fun _ => ?_⟩⟩
  · simp at h
  refine ⟨_, int_of d3 rfl, _, int_of d3 rfl, _, int_of d3 rfl, _, int_of d3 rfl, _, int_of d3 rfl, _, int_of d3 rfl, _, int_of d3 rfl, _, int_of d3 rfl, Cn.mono (c19 (M0 := { N2 with floor := N2.nb.size }) (Nat.le_refl _)) ?_⟩
  have hs := supL_len x y u z
  generalize hsp : supL x y u z = sp at hs
  rintro v N3 ⟨A1, c1, rfl, K6f, O6⟩
  have K6 : Keep N2 { N3 with floor := N2.floor } := K6f.unfl
  have O6' : Own (fun j => N2.nb.size ≤ j) { N3 with floor := N2.floor } 35 A1 (c1 * 4) (Rcs sp) := O6
  refine ⟨_, rfl, Cn.mono (c20 (M0 := { N3 with floor := N2.floor }) (Nat.le_trans hf5 K6.size)) ?_⟩
  rw [hsp]
  rintro v N4 ⟨A2, c2, rfl, K7, O7⟩
  refine ⟨_, rfl, Cn.eq (c18 (n := sp.length) (m := sp.length) (O6'.row.keep K7) O7.row rfl rfl (by omega)) ⟨_, rfl, w5_1 ⟨fun h => ?_, fun _ => ?_⟩⟩⟩
  · simp at h
  have K67 := K6.trans K7
  exact c5_loop (K03.trans (K45.trans K67)) (n := q.1.length) (m := q.1.length) (M0 := N4) rfl rfl hl (by rw [K67.floor]; exact Nat.le_trans hf5 K67.size) (fun K => ((O4.row.keep K5).keep K67).keep K) (fun K => (O5.row.keep K67).keep K) _ 0 (Nat.zero_add _) (.refl _)
end
end Go.Zt
