/- Layer 21: squares; what TilesLays comes to. -/
import Derived.Test.YtnhfoiijkadajaaZeD
import Derived.Test.YtnhfoiijkadajaaZeBa
set_option linter.unusedSimpArgs false
set_option linter.unusedVariables false
namespace Go.Zt
open Go Go.Sim Go.Proofs Go.RowKit

def supB (x y w h : Int) : Bool := decide (1 ≤ w ∧ w ≤ 256 ∧ 1 ≤ h ∧ h ≤ 256 ∧ 0 ≤ x ∧ x ≤ 256 ∧ 0 ≤ y ∧ y ≤ 256)
def supI (x y j i : Nat) : Rc := (((x + 64 * i : Nat) : Int), ((y + 64 * j : Nat) : Int), 64, 64)
def supR (x y k j : Nat) : List Rc := (List.range k).map (supI x y j)
def supS (x y w k : Nat) : List Rc := (List.range k).flatMap (supR x y (sqN w))
def supL (x y w h : Int) : List Rc := if supB x y w h then supS x.toNat y.toNat w.toNat (sqN h.toNat) else []
theorem supS_len (x y w k : Nat) : (supS x y w k).length = k * sqN w := by
  unfold supS
  induction k with
  | zero => simp
  | succ k ih => rw [range_flat_succ, List.length_append, ih, supR, List.length_map, List.length_range, Nat.add_mul, Nat.one_mul]
theorem supL_len (x y w h : Int) : (supL x y w h).length ≤ 16 := by
  unfold supL
  split
  · rename_i hb
    have hb := of_decide_eq_true hb
    rw [supS_len]
    exact Nat.le_trans (Nat.mul_le_mul (sqN_b (by omega)) (sqN_b (by omega))) (by decide)
  · simp
/-- What a call of Supers comes to. -/
def SuR (M0 : Mem) (l : List Rc) : Value → Mem → Prop := fun v N => ∃ A cap, v = .slice A l.length cap ∧ Keep M0 N ∧ Own (fun j => M0.nb.size ≤ j) N 35 A (cap * 4) (Rcs l)
section
variable {M0 : Mem}
structure Box (M : Mem) (p : Addr) (x y w h : Nat) : Prop where
  x : M.intAt .i64 p.block p.off = some (x : Int)
  y : M.intAt .i64 p.block (p.off + 1) = some (y : Int)
  w : M.intAt .i64 p.block (p.off + 2) = some (w : Int)
  h : M.intAt .i64 p.block (p.off + 3) = some (h : Int)
theorem c19_in (hf : M0.floor ≤ M0.nb.size) {x y w h : Nat} (hx : x ≤ 256) (hy : y ≤ 256) (hw : w ≤ 256) (hh : h ≤ 256) {p : Addr} (hB : ∀ {N}, Keep M0 N → Box N p x y w h) {j : Nat} (hj : j ≤ 4) {l : List Rc} (hl : l.length ≤ 16) {Q : Value → Mem → Prop}
    (hE : ∀ A' c' N, Keep M0 N → Own (fun j => M0.nb.size ≤ j) N 35 A' (c' * 4) (Rcs (l ++ supR x y (sqN w) j)) → A19_4 (some p) A' (l ++ supR x y (sqN w) j).length c' ((y + 64 * (j + 1) : Nat) : Int) N Q) :
    ∀ (k i : Nat) (A' : Option Addr) (c' : Nat) {M : Mem}, i + k = sqN w → Keep M0 M → Own (fun j => M0.nb.size ≤ j) M 35 A' (c' * 4) (Rcs (l ++ supR x y i j)) →
      A19_5 (some p) A' (l ++ supR x y i j).length c' ((y + 64 * j : Nat) : Int) ((x + 64 * i : Nat) : Int) M Q
  | 0, i, A', c', M, hi, K, hO => by
    obtain rfl : i = sqN w := by omega
    have b := hB K
    have e1 : IntKind.i64.wrap ((x : Int) + (w : Nat)) = ((x + w : Nat) : Int) := by rw [i64w (by omega)]; omega
    refine w19_5 ⟨_, rfl, _, b.x, _, rfl, _, b.w, fun hlt => ?_, fun _ => ?_⟩
    · rw [e1] at hlt; unfold sqN at hlt; omega
    · rw [i64w (by omega), show ((y + 64 * j : Nat) : Int) + 64 = ((y + 64 * (j + 1) : Nat) : Int) by omega]
      exact hE A' c' M K hO
  | k + 1, i, A', c', M, hi, K, hO => by
    have b := hB K
    have hs := sqN_b hw
    have hll : (supR x y i j).length = i := by simp [supR]
    have e1 : IntKind.i64.wrap ((x : Int) + (w : Nat)) = ((x + w : Nat) : Int) := by rw [i64w (by omega)]; omega
    obtain ⟨A2, c2, N, g1, g2, g3, g4⟩ := appR hf K hO rfl (by rw [List.length_append, hll]; omega) (supI x y j i)
    refine w19_5 ⟨_, rfl, _, b.x, _, rfl, _, b.w, fun _ => ⟨_, g1, _, rfl, ?_⟩, fun hge => ?_⟩
    · rw [i64w (by omega), show ((x + 64 * i : Nat) : Int) + 64 = ((x + 64 * (i + 1) : Nat) : Int) by omega]
      have es : supR x y (i + 1) j = supR x y i j ++ [supI x y j i] := range_map_succ _ _
      have := c19_in hf hx hy hw hh hB hj hl hE k (i + 1) A2 c2 (M := N) (by omega) g2 (by rw [es, ← List.append_assoc]; exact g3)
      rw [es, ← List.append_assoc, List.length_append] at this
      exact this
    · rw [e1] at hge
      have : i < sqN w := by omega
      unfold sqN at this; omega
theorem c19_out (hf : M0.floor ≤ M0.nb.size) {x y w h : Nat} (hx : x ≤ 256) (hy : y ≤ 256) (hw : w ≤ 256) (hh : h ≤ 256) {p : Addr} (hB : ∀ {N}, Keep M0 N → Box N p x y w h) {Q : Value → Mem → Prop}
    (hQ : ∀ A' c' N, Keep M0 N → Own (fun j => M0.nb.size ≤ j) N 35 A' (c' * 4) (Rcs (supS x y w (sqN h))) → Q (.slice A' (supS x y w (sqN h)).length c') N) :
    ∀ (k j : Nat) (A' : Option Addr) (c' : Nat) {M : Mem}, j + k = sqN h → Keep M0 M → Own (fun j => M0.nb.size ≤ j) M 35 A' (c' * 4) (Rcs (supS x y w j)) → A19_4 (some p) A' (supS x y w j).length c' ((y + 64 * j : Nat) : Int) M Q
  | 0, j, A', c', M, hj, K, hO => by
    obtain rfl : j = sqN h := by omega
    have b := hB K
    have e1 : IntKind.i64.wrap ((y : Int) + (h : Nat)) = ((y + h : Nat) : Int) := by rw [i64w (by omega)]; omega
    refine w19_4 ⟨_, rfl, _, b.y, _, rfl, _, b.h, fun hlt => ?_, fun _ => hQ _ _ _ K hO⟩
    rw [e1] at hlt; unfold sqN at hlt; omega
  | k + 1, j, A', c', M, hj, K, hO => by
    have b := hB K
    have hs := sqN_b hw
    have hs2 := sqN_b hh
    have e1 : IntKind.i64.wrap ((y : Int) + (h : Nat)) = ((y + h : Nat) : Int) := by rw [i64w (by omega)]; omega
    have hl : (supS x y w j).length ≤ 16 := by rw [supS_len]; exact Nat.le_trans (Nat.mul_le_mul (show j ≤ 4 by omega) hs) (by decide)
    have e0 : supS x y w j ++ supR x y 0 j = supS x y w j := by simp [supR]
    have es : supS x y w (j + 1) = supS x y w j ++ supR x y (sqN w) j := range_flat_succ _ _
    refine w19_4 ⟨_, rfl, _, b.y, _, rfl, _, b.h, fun _ => ⟨_, rfl, _, b.x, ?_⟩, fun hge => ?_⟩
    · have := c19_in hf hx hy hw hh hB (j := j) (by omega) hl (Q := Q) (fun A2 c2 N K2 O2 => by
        rw [← es] at O2 ⊢
        exact c19_out hf hx hy hw hh hB hQ k (j + 1) A2 c2 (by omega) K2 O2) (sqN w) 0 A' c' (M := M) (Nat.zero_add _) K (by rw [e0]; exact hO)
      rw [e0] at this
      exact this
    · rw [e1] at hge
      have : j < sqN h := by omega
      unfold sqN at this; omega
theorem c19 (hf : M0.floor ≤ M0.nb.size) {x y w h : Int} : Cn Try.prog 19 #[.agg #[.int .i64 x, .int .i64 y, .int .i64 w, .int .i64 h]] M0 (SuR M0 (supL x y w h)) := by
  have a0 := Mem.new_at M0 (.cells #[.int .i64 x, .int .i64 y, .int .i64 w, .int .i64 h] 35)
  have K0 : Keep M0 (M0.new (.cells #[.int .i64 x, .int .i64 y, .int .i64 w, .int .i64 h] 35)) := .new _ _
  refine w19_0 ?_
  generalize M0.new (.cells #[.int .i64 x, .int .i64 y, .int .i64 w, .int .i64 h] 35) = M1 at a0 K0
  have t3 : supB x y w h = false → A19_3 (some ⟨2 * M0.nb.size, 0, none⟩) true M1 (SuR M0 (supL x y w h)) := fun hb => w19_3 ⟨fun _ => by
    unfold supL; rw [hb]; exact ⟨none, 0, rfl, K0, Own.empty⟩, fun h => (by cases h)⟩
  have t2 : supB x y w h = false → A19_2 (some ⟨2 * M0.nb.size, 0, none⟩) true M1 (SuR M0 (supL x y w h)) := fun hb => w19_2 ⟨fun _ => t3 hb, fun h => (by cases h)⟩
  have t1 : supB x y w h = false → A19_1 (some ⟨2 * M0.nb.size, 0, none⟩) true M1 (SuR M0 (supL x y w h)) := fun hb => w19_1 ⟨fun _ => t2 hb, fun h => (by cases h)⟩
  have no : ∀ {p : Prop}, ¬ (1 ≤ w ∧ w ≤ 256 ∧ 1 ≤ h ∧ h ≤ 256 ∧ 0 ≤ x ∧ x ≤ 256 ∧ 0 ≤ y ∧ y ≤ 256) → supB x y w h = false := fun h => decide_eq_false h
  refine ⟨_, int_of a0 rfl, Cn.eq c35 ⟨_, rfl, fun h1 => t1 (no (p := True) fun hh => of_decide_eq_false (nb h1) ⟨by omega, by omega⟩), fun h1 => ⟨_, int_of a0 rfl, Cn.eq c35 ⟨_, rfl, w19_1 ⟨fun h2 => t2 (no (p := True) fun hh => of_decide_eq_false (nb h2) ⟨by omega, by omega⟩), fun h2 =>
    ⟨_, rfl, _, int_of a0 rfl, Cn.eq c35 ⟨_, rfl, w19_2 ⟨fun h3 => t3 (no (p := True) fun hh => of_decide_eq_false (nb h3) ⟨by omega, by omega⟩), fun h3 => ⟨_, rfl, _, int_of a0 rfl, Cn.eq c35 ⟨_, rfl, w19_3 ⟨fun h4 => ?_, fun h4 => ?_⟩⟩⟩⟩⟩⟩⟩⟩⟩⟩⟩
  · unfold supL
    rw [no (p := True) fun hh => of_decide_eq_false (nb h4) ⟨by omega, by omega⟩]
    exact ⟨none, 0, rfl, K0, Own.empty⟩
  have h1 := of_decide_eq_true (nb' h1)
  have h2 := of_decide_eq_true (nb' h2)
  have h3 := of_decide_eq_true (nb' h3)
  have h4 := of_decide_eq_true (nb' h4)
  have hb : supB x y w h = true := decide_eq_true ⟨by omega, by omega, by omega, by omega, by omega, by omega, by omega, by omega⟩
  unfold supL
  rw [hb]
  obtain ⟨x, rfl⟩ : ∃ n' : Nat, x = n' := ⟨x.toNat, by omega⟩
  obtain ⟨y, rfl⟩ : ∃ n' : Nat, y = n' := ⟨y.toNat, by omega⟩
  obtain ⟨w, rfl⟩ : ∃ n' : Nat, w = n' := ⟨w.toNat, by omega⟩
  obtain ⟨h, rfl⟩ : ∃ n' : Nat, h = n' := ⟨h.toNat, by omega⟩
  refine ⟨_, rfl, _, int_of a0 rfl, ?_⟩
  exact c19_out (M0 := M1) (p := ⟨2 * M0.nb.size, 0, none⟩) (by rw [K0.floor]; exact Nat.le_trans hf K0.size) (by omega) (by omega) (by omega) (by omega) (fun K => ⟨int_of (at_keep a0 K) rfl, int_of (at_keep a0 K) rfl, int_of (at_keep a0 K) rfl, int_of (at_keep a0 K) rfl⟩)
    (fun A' cap N K hO => ⟨A', cap, rfl, K0.trans K, hO.mono fun i _ hi => Nat.le_trans K0.size hi⟩) (sqN h) 0 none 0 (M := M1) (Nat.zero_add _) (.refl _) Own.empty
theorem Rcs_at {M : Mem} {A : Option Addr} {l : List Rc} (h : Row M A (Rcs l)) {n i : Nat} {z : Int} (hz : z = (i : Int)) (hn : i < n) (hi : i < l.length) :
    ∃ a, idxA A n 4 z = some a ∧ M.intAt .i64 a.block a.off = some l[i].1 ∧ M.intAt .i64 a.block (a.off + 1) = some l[i].2.1 ∧ M.intAt .i64 a.block (a.off + 2) = some l[i].2.2.1 ∧ M.intAt .i64 a.block (a.off + 3) = some l[i].2.2.2 := by
  obtain ⟨a, h1, h2⟩ := Row.flat (f := Rc.cells) (s := 4) (fun _ => rfl) h (by decide) hz hn hi
  exact ⟨a, h1, cell_int (h2 0 (by decide)), cell_int (h2 1 (by decide)), cell_int (h2 2 (by decide)), cell_int (h2 3 (by decide))⟩
def layL (w h c r : Int) : List Rc × Nat := if sideB w c && sideB h r then (layS w.toNat h.toNat c.toNat r.toNat (2 ^ r.toNat), 0) else ([], 2)
def LyL (M0 : Mem) (q : List Rc × Nat) : Value → Mem → Prop := fun v N => ∃ A cap, v = .tuple #[.slice A q.1.length cap, .int .i64 (q.2 : Nat)] ∧ Keep M0 N ∧ Own (fun j => M0.nb.size ≤ j) N 35 A (cap * 4) (Rcs q.1)
theorem LyR.of {w h c r : Int} {v : Value} {N : Mem} (hh : LyR M0 w h c r v N) : LyL M0 (layL w h c r) v N := by
  unfold layL
  rcases hh with ⟨h1, rfl, K⟩ | ⟨w', h', c', r', rfl, rfl, rfl, rfl, _, _, _, _, _, _, _, _, hb, A, cap, rfl, K, hO, _⟩
  · rw [h1]; exact ⟨none, 0, rfl, K, Own.empty⟩
  · rw [hb]; exact ⟨A, cap, rfl, K, hO⟩
end
end Go.Zt

