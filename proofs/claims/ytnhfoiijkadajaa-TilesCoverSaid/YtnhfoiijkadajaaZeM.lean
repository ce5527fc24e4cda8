/- Layer 21: TilesCover. -/
import Derived.Test.YtnhfoiijkadajaaZeL
set_option linter.unusedSimpArgs false
set_option linter.unusedVariables false
namespace Go.Zt
open Go Go.Sim Go.Proofs Go.RowKit

theorem set2s {M : Mem} {j : Nat} {a b : Value} {e : TypeId} (h : M.nb[j]? = some (.cells #[a, b] e)) (hf : M.floor ≤ j) (x y : Int) :
    ∃ M1, M.put (2 * j) 0 (.int .i64 x) = some M1 ∧ ∃ M2, M1.put (2 * j) 1 (.int .i64 y) = some M2 ∧ Chg (· = j) M M2 ∧ M2.nb[j]? = some (.cells #[.int .i64 x, .int .i64 y] e) := by
  have p1 := put_of (i := 0) (v := .int .i64 x) h hf (by simp) rfl
  have C1 := upd_chg (M := M) (S := (· = j)) (b := .cells ((#[a, b] : Array Value).setIfInBounds 0 (.int .i64 x)) e) (j := j) rfl
  have u1 := upd_at (M := M) (b := .cells ((#[a, b] : Array Value).setIfInBounds 0 (.int .i64 x)) e) (lt_of_at h)
  generalize M.upd j _ = M1 at p1 C1 u1
  have p2 := put_of (i := 1) (v := .int .i64 y) u1 (by rw [C1.floor]; exact hf) (by simp) rfl
  have C2 := C1.trans (upd_chg (M := M1) (S := (· = j)) (b := .cells (((#[a, b] : Array Value).setIfInBounds 0 (.int .i64 x)).setIfInBounds 1 (.int .i64 y)) e) (j := j) rfl)
  have u2 := upd_at (M := M1) (b := .cells (((#[a, b] : Array Value).setIfInBounds 0 (.int .i64 x)).setIfInBounds 1 (.int .i64 y)) e) (lt_of_at u1)
  generalize M1.upd j _ = M2 at p2 C2 u2
  exact ⟨M1, p1, M2, p2, C2, u2⟩
theorem known14 {M : Mem} : Cn Try.prog 14 #[] M fun v N => v = .bool true ∧ N = M := Cn.known (by rfl) ⟨rfl, rfl⟩
theorem brgN (v : Int) (n : Nat) (h : 0 < n) : ∃ k : Nat, k < n ∧ brg v (n : Nat) = (k : Nat) := by
  have h1 : 0 ≤ brg v (n : Nat) ∧ brg v (n : Nat) < (n : Nat) := by
    unfold brg; rw [if_neg (by omega)]
    exact ⟨Int.emod_nonneg _ (by omega), Int.emod_lt_of_pos _ (by omega)⟩
  exact ⟨(brg v (n : Nat)).toNat, by omega, by omega⟩
theorem side_iff {n c : Nat} (hn : 16 ≤ n ∧ n ≤ 256) (h2 : n % 2 = 0) (hc : c ≤ 2) : sideB (n : Nat) (c : Nat) = decide (2 ^ c ≤ sqN n) := by
  unfold sideB
  rw [decide_eq_decide]
  simp only [Int.toNat_natCast]
  constructor
  · rintro ⟨_, _, _, _, _, h⟩; exact h
  · intro h; exact ⟨by omega, by omega, by omega, by omega, by omega, h⟩
theorem c6 {M : Mem} (hf : M.floor ≤ M.nb.size) {x0 x1 x2 x3 : Int} : Cn Try.prog 6 #[.int .i64 x0, .int .i64 x1, .agg #[.int .i64 x2, .int .i64 x3]] M Tr6 := by
  have a1 := Mem.new_at M (.cells #[.int .i64 x2, .int .i64 x3] 33)
  have K1 : Keep M (M.new (.cells #[.int .i64 x2, .int .i64 x3] 33)) := .new _ _
  have s1 := Mem.new_size M (.cells #[.int .i64 x2, .int .i64 x3] 33)
  refine w6_0 ?_
  generalize M.new (.cells #[.int .i64 x2, .int .i64 x3] 33) = M1 at a1 K1 s1 ⊢
  have hf1 := fb hf K1
  obtain ⟨a, ha, ea⟩ := brgN x0 121 (by decide)
  obtain ⟨b, hb, eb⟩ := brgN x1 121 (by decide)
  refine Cn.eq known14 ⟨_, rfl, fun h => (by cases h), fun _ => Cn.eq (c15 (by decide)) ⟨_, rfl, Cn.eq (c15 (by decide)) ⟨_, rfl, ?_⟩⟩⟩
  rw [show brg x0 121 = (a : Nat) from ea, show brg x1 121 = (b : Nat) from eb]
  have wa : IntKind.i64.wrap (16 + IntKind.i64.wrap (2 * ((a : Nat) : Int))) = ((16 + 2 * a : Nat) : Int) := by
    rw [i64w (x := 2 * ((a : Nat) : Int)) (by omega), i64w (by omega)]; omega
  have wb : IntKind.i64.wrap (16 + IntKind.i64.wrap (2 * ((b : Nat) : Int))) = ((16 + 2 * b : Nat) : Int) := by
    rw [i64w (x := 2 * ((b : Nat) : Int)) (by omega), i64w (by omega)]; omega
  rw [wa, wb]
  have n0 := Mem.new_at M1 (.cells #[.int .i64 0, .int .i64 0] 32)
  have s0 := Mem.new_size M1 (.cells #[.int .i64 0, .int .i64 0] 32)
  have K0 : Keep M1 (M1.new (.cells #[.int .i64 0, .int .i64 0] 32)) := .new _ _
  obtain ⟨P1, p1, P2, p2, C2, u2⟩ := set2s n0 hf1 ((16 + 2 * a : Nat) : Int) ((16 + 2 * b : Nat) : Int)
  have K2 : Keep M1 P2 := Keep.step K0 C2 fun j hj => by omega
  have hf2 := fb hf1 K2
  have a2 := at_keep a1 K2
  have hW : 16 ≤ 16 + 2 * a ∧ 16 + 2 * a ≤ 256 ∧ (16 + 2 * a) % 2 = 0 := by omega
  have hH : 16 ≤ 16 + 2 * b ∧ 16 + 2 * b ≤ 256 ∧ (16 + 2 * b) % 2 = 0 := by omega
  generalize 16 + 2 * a = W at *
  generalize 16 + 2 * b = H at *
  obtain ⟨c, hc, ec⟩ := brgN x2 3 (by decide)
  obtain ⟨r, hr, er⟩ := brgN x3 3 (by decide)
  have ix0 : idxA (some ⟨2 * M.nb.size, 0, none⟩) 2 1 0 = some ⟨2 * M.nb.size, 0, none⟩ := rfl
  have ix1 : idxA (some ⟨2 * M.nb.size, 0, none⟩) 2 1 1 = some ⟨2 * M.nb.size, 1, none⟩ := rfl
  refine ⟨P1, p1, P2, p2, _, int_of (i := 0) u2 rfl, _, int_of (i := 0 + 1) u2 rfl, _, ix0, _, int_of (i := 0) a2 rfl, _, ix1, _, int_of (i := 1) a2 rfl, ?_⟩
  refine Cn.eq (c15 (by decide)) ⟨_, rfl, Cn.eq (c15 (by decide)) ⟨_, rfl, ?_⟩⟩
  rw [show brg x2 3 = (c : Nat) from ec, show brg x3 3 = (r : Nat) from er]
  show Cn Try.prog 16 _ P2 _
  refine Cn.mono (c16 hf2) ?_
  rintro v N hh
  have sW := side_iff (c := c) ⟨hW.1, hW.2.1⟩ hW.2.2 (by omega)
  have sH := side_iff (c := r) ⟨hH.1, hH.2.1⟩ hH.2.2 (by omega)
  rcases hh with ⟨hbad, rfl, K3⟩ | ⟨w', h', c', r', e1, e2, e3, e4, g1, g2, g3, g4, g5, g6, g7, g8, _, A, cap, rfl, K3, O3, hcap⟩
  · have u3 := at_keep u2 K3
    refine ⟨_, rfl, _, rfl, _, rfl, fun _ => ⟨_, int_of (i := 0) u3 rfl, _, int_of (i := 0 + 1) u3 rfl, Cn.mono (c16 (fb hf2 K3)) ?_⟩, fun h => absurd h (by decide)⟩
    rintro v N2 hh2
    have ok : (sideB (W : Nat) 0 && sideB (H : Nat) 0) = true := by
      have e1 := side_iff (c := 0) ⟨hW.1, hW.2.1⟩ hW.2.2 (by omega)
      have e2 := side_iff (c := 0) ⟨hH.1, hH.2.1⟩ hH.2.2 (by omega)
      have e1 : sideB (W : Nat) 0 = true := e1.trans (decide_eq_true (by unfold sqN; omega))
      have e2 : sideB (H : Nat) 0 = true := e2.trans (decide_eq_true (by unfold sqN; omega))
      rw [e1, e2]; rfl
    rcases hh2 with ⟨hbad2, _⟩ | ⟨_, _, _, _, _, _, _, _, _, _, _, _, _, _, _, _, _, A2, cap2, rfl, K4, _, _⟩
    · rw [ok] at hbad2; cases hbad2
    · have u4 := at_keep u3 K4
      refine ⟨_, rfl, _, rfl, _, rfl, fun _ => ⟨fun _ => ⟨_, int_of (i := 0) u4 rfl, fun _ => rfl, fun h => ⟨_, int_of (i := 0 + 1) u4 rfl, ?_⟩⟩, fun h => absurd rfl h⟩, fun h => absurd rfl h⟩
      show Value.bool _ = .bool true
      congr 1
      refine decide_eq_true ?_
      rw [sW, sH] at hbad
      have hp : 2 ^ c ≤ 4 ∧ 2 ^ r ≤ 4 := by
        have h1 := pow2c (c := c) (by omega)
        have h2 := pow2c (c := r) (by omega)
        exact ⟨h1.2, h2.2⟩
      rcases Bool.and_eq_false_iff.1 hbad with h1 | h1
      · have := of_decide_eq_false h1
        unfold sqN at this; omega
      · have := of_decide_eq_false h1
        unfold sqN at this; omega
  · have u3 := at_keep u2 K3
    have hw : w' = W := by omega
    have hh : h' = H := by omega
    subst hw hh
    have g9 := lay_good ⟨g1, g2⟩ ⟨g3, g4⟩ g5 g6 g7 g8
    have g10 := fun (yy xx : Nat) (hy : yy < 32) (hx : xx < 32) => lay_cover ⟨g1, g2⟩ ⟨g3, g4⟩ g5 g6 g7 g8 hy hx
    have gl : (layS w' h' c' r' (2 ^ r')).length ≤ 16 := by
      rw [layS_len]
      have h1 := pow2c g5
      have h2 := pow2c g6
      exact Nat.mul_le_mul h2.2 h1.2
    generalize layS w' h' c' r' (2 ^ r') = L at *
    refine ⟨_, rfl, _, rfl, _, rfl, fun h => absurd rfl h, fun _ => ?_⟩
    have hf3 := fb hf2 K3
    exact c6_1 (M0 := N) (jo := N.nb.size) hf3 u3 (by omega) (by omega) (Nat.le_refl _) O3.row gl g9 (fun yy xx hy hx => g10 yy xx hy hx) L.length 0 (Nat.zero_add _) ⟨.new _ _, Gd.zero N⟩
theorem law6 {W : World} {u0 u1 : Value} {cs : List Value} {B0 B1 B2 : Nat} (s0 : Sees Try.prog (mem0 W) B0 8 3 [u0]) (s1 : Sees Try.prog (mem0 W) B1 8 3 [u1]) (s2 : Sees Try.prog (mem0 W) B2 8 33 cs) : Cn Try.prog 6 #[u0, u1, .agg cs.toArray] (mem0 W) fun v _ => v = .bool true := by
  obtain ⟨x0, e0, _⟩ := sees_int (q := .i64) (by kernel_rfl) s0
  obtain ⟨x1, e1, _⟩ := sees_int (q := .i64) (by kernel_rfl) s1
  obtain rfl : u0 = _ := by simpa using e0
  obtain rfl : u1 = _ := by simpa using e1
  obtain ⟨l1, f1⟩ := sees_array (m := 2) (e := 3) (n := 2) (by kernel_rfl) (by kernel_rfl) s2
  have c3 : Try.prog.cellsOf 3 = 1 := by kernel_rfl
  rw [c3] at f1
  have i3 : ∀ {B k : Nat} {r : List Value}, Sees Try.prog (mem0 W) B (k + 1) 3 r → ∃ x, r = [.int .i64 x] := fun h => by
    obtain ⟨x, e, _⟩ := sees_int (q := .i64) (by kernel_rfl) h
    exact ⟨x, e⟩
  match cs, l1 with
  | [a, b], _ =>
    obtain ⟨x2, h2⟩ := i3 (f1 0 (by decide))
    obtain ⟨x3, h3⟩ := i3 (f1 1 (by decide))
    simp at h2 h3
    rw [h2, h3]
    exact c6 (Nat.zero_le _)
end Go.Zt

