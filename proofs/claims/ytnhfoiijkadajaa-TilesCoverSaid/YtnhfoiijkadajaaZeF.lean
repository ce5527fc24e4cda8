/- Layer 21: helpers of the turns: CopyInts c10, EqInts c13, Bring c15, Clone c29, orderMay c28, Delete c30; three lists. -/
import Derived.Test.YtnhfoiijkadajaaZeC
import Derived.Test.YtnhfoiijkadajaaZeBc
import Derived.Test.YtnhfoiijkadajaaZsT
set_option linter.unusedSimpArgs false
set_option linter.unusedVariables false
namespace Go.Zt
open Go Go.Sim Go.Proofs Go.RowKit

theorem fb {M N : Mem} (hf : M.floor ≤ M.nb.size) (K : Keep M N) : N.floor ≤ N.nb.size := by rw [K.floor]; exact Nat.le_trans hf K.size
def gx (x : List Int) (i : Nat) : Int := x.getD i 0
theorem gx_at {x : List Int} {i : Nat} (h : i < x.length) : (Ints x)[i]? = some (.int .i64 (gx x i)) := by
  rw [List.getElem?_map, List.getElem?_eq_getElem h]; simp [gx, h]
def sumN (f : Nat → Int) : Nat → Int
  | 0 => 0
  | m + 1 => sumN f m + f m
theorem c13_loop {M : Mem} {A B : Option Addr} {l l' : List Int} (hA : Row M A (Ints l)) (hB : Row M B (Ints l')) {n m c d : Nat} (hn : n = l.length) (hm : m = l'.length) (hl : l.length = l'.length) (hb : n ≤ 4611686018427387904) {Q : Value → Mem → Prop} :
    ∀ (k i : Nat), i + k = n → Q (.bool (decide (l.drop i = l'.drop i))) M → A13_1 A n c B m d i M Q
  | 0, i, hi, hQ => by
    refine w13_1 ⟨fun h => by omega, fun _ => ?_⟩
    have e : decide (l.drop i = l'.drop i) = true := by
      rw [List.drop_of_length_le (by omega), List.drop_of_length_le (by omega)]; simp
    rw [e] at hQ; exact hQ
  | k + 1, i, hi, hQ => by
    have h1 : i < l.length := by omega
    have h2 : i < l'.length := by omega
    obtain ⟨a, i1, i2⟩ := hA.int1 (n := n) (i := i) (z := i) (k := .i64) (x := l[i]) rfl (by omega) (by simp [h1])
    obtain ⟨b, j1, j2⟩ := hB.int1 (n := m) (i := i) (z := i) (k := .i64) (x := l'[i]) rfl (by omega) (by simp [h2])
    rw [List.drop_eq_getElem_cons h1, List.drop_eq_getElem_cons h2] at hQ
    refine w13_1 ⟨fun _ => ⟨_, i1, _, i2, _, j1, _, j2, fun h => ?_, fun h => ?_⟩, fun h => by omega⟩
    · rw [decide_eq_false (fun hh => h (List.cons.inj hh).1)] at hQ; exact hQ
    · rw [i64w (by omega), show ((i : Int) + 1) = ((i + 1 : Nat) : Int) by omega]
      refine c13_loop hA hB hn hm hl hb k (i + 1) (by omega) ?_
      have : decide (l[i] :: l.drop (i + 1) = l'[i] :: l'.drop (i + 1)) = decide (l.drop (i + 1) = l'.drop (i + 1)) := by
        rw [decide_eq_decide, h]; exact ⟨fun h => (List.cons.inj h).2, fun h => by rw [h]⟩
      rw [this] at hQ; exact hQ
theorem c13 {M : Mem} {A B : Option Addr} {l l' : List Int} (hA : Row M A (Ints l)) (hB : Row M B (Ints l')) {n m c d : Nat} (hn : n = l.length) (hm : m = l'.length) (hb : n ≤ 4611686018427387904) :
    Cn Try.prog 13 #[.slice A n c, .slice B m d] M fun v N => v = .bool (decide (l = l')) ∧ N = M := by
  refine w13_0 ⟨fun h => ⟨?_, rfl⟩, fun h => ?_⟩
  · have : l ≠ l' := fun e => h (by rw [hn, hm, e])
    simp [this]
  · exact c13_loop hA hB hn hm (by omega) hb n 0 (Nat.zero_add _) ⟨by simp, rfl⟩
theorem c15 {x n : Int} {M : Mem} (hn : n ≤ 9223372036854775807) : Cn Try.prog 15 #[.int .i64 x, .int .i64 n] M fun v N => v = .int .i64 (brg x n) ∧ N = M := by
  refine w15_0 ⟨fun h => ⟨by unfold brg; rw [if_pos h], rfl⟩, fun h => ⟨_, binV_rem (by omega), _, rfl, ?_⟩⟩
  obtain ⟨h1, h2⟩ := brg_tmod (x := x) h
  have h3 : brg x n < n ∧ 0 ≤ brg x n := by
    unfold brg; rw [if_neg h]
    exact ⟨Int.emod_lt_of_pos _ (by omega), Int.emod_nonneg _ (by omega)⟩
  refine ⟨fun h4 => ⟨?_, rfl⟩, fun h4 => ⟨by rw [h2 h4], rfl⟩⟩
  have := h1 h4
  rw [i64w (by omega), this]
/-! ### Who may -/
def oneN (l : List Int) (c : Int) (i : Nat) : Int := if c < gx l i then c else gx l i
def ordE (l : List Int) (w : Int) : Nat :=
  if 256 < l.length then 7 else if l.all (fun v => decide (0 ≤ v)) = false then 2 else if 65536 < sumN (gx l) l.length then 7 else if 1 ≤ w ∧ w ≤ 64 then 0 else 2
theorem sum_one {l : List Int} {c : Int} (hc : 65536 < c) : ∀ n, (∀ i, i < n → 0 ≤ gx l i) → 0 ≤ sumN (oneN l c) n ∧ sumN (oneN l c) n ≤ sumN (gx l) n ∧ sumN (oneN l c) n ≤ (n : Int) * c ∧ (sumN (gx l) n ≤ 65536 → sumN (oneN l c) n = sumN (gx l) n) ∧ (65536 < sumN (gx l) n → 65536 < sumN (oneN l c) n)
  | 0, _ => by simp [sumN]
  | n + 1, h => by
    obtain ⟨h1, h2, h3, h4, h5⟩ := sum_one (l := l) hc n fun i hi => h i (by omega)
    have h0 := h n (by omega)
    have e3 : ((n + 1 : Nat) : Int) * c = (n : Int) * c + c := by rw [Int.natCast_add, Int.add_mul]; simp
    rw [e3]
    generalize (n : Int) * c = p at h3 ⊢
    simp only [sumN]
    have e : oneN l c n = if c < gx l n then c else gx l n := rfl
    by_cases hh : c < gx l n
    · rw [if_pos hh] at e; rw [e]
      refine ⟨by omega, by omega, by omega, fun h => by omega, fun h => by omega⟩
    · rw [if_neg hh] at e; rw [e]
      refine ⟨by omega, by omega, by omega, fun h => by omega, fun h => by omega⟩
theorem neg_all {l : List Int} {i : Nat} (hi : i < l.length) (h : gx l i < 0) : l.all (fun v => decide (0 ≤ v)) = false := by
  rw [List.all_eq_false]
  refine ⟨l[i], List.getElem_mem hi, ?_⟩
  have e : gx l i = l[i] := by simp [gx, hi]
  rw [e] at h; simp; omega
theorem pos_all {l : List Int} (h : ∀ i, i < l.length → 0 ≤ gx l i) : l.all (fun v => decide (0 ≤ v)) = true := by
  rw [List.all_eq_true]
  intro v hv
  obtain ⟨i, hi, rfl⟩ := List.getElem_of_mem hv
  have := h i hi
  have e : gx l i = l[i] := by simp [gx, hi]
  rw [e] at this; exact decide_eq_true this
section
variable {M : Mem} {A : Option Addr} {n c : Nat} {l : List Int} {w : Int}
theorem c28_loop (hA : Row M A (Ints l)) (hn : n = l.length) (hb : n ≤ 256) {Q : Value → Mem → Prop} (hQ : Q (.tuple #[.int .i64 (if ordE l w = 0 then sumN (gx l) n else 0), .int .i64 (ordE l w : Nat)]) M) :
    ∀ (m i : Nat), i + m = n → (∀ k, k < i → 0 ≤ gx l k) → A28_1 w (sumN (oneN l 65537) i) A n c (n : Nat) (i : Nat) M Q := by
  intro m
  induction m with
  | zero =>
    intro i hi hp
    obtain rfl : n = i := by omega
    obtain ⟨h1, h2, h3, h4, h5⟩ := sum_one (l := l) (c := 65537) (by decide) n hp
    have ha := pos_all (l := l) fun i h => hp i (by omega)
    have eo : ordE l w = if 65536 < sumN (gx l) n then 7 else if 1 ≤ w ∧ w ≤ 64 then 0 else 2 := by
      unfold ordE; rw [if_neg (by omega), if_neg (by rw [ha]; decide), ← hn]
    refine w28_1 ⟨fun h => by omega, fun _ => ⟨fun h7 => ?_, fun h7 => Cn.eq c35 ⟨_, rfl, fun hb => ?_, fun hb => ?_⟩⟩⟩
    · rw [if_pos (by omega)] at eo
      rw [eo] at hQ; exact hQ
    · rw [if_neg (by omega), if_neg (of_decide_eq_false (nb hb))] at eo
      rw [eo] at hQ; exact hQ
    · rw [if_neg (by omega), if_pos (of_decide_eq_true (nb' hb))] at eo
      rw [eo] at hQ
      rw [h4 (by omega)]; exact hQ
  | succ m ih =>
    intro i hi hp
    obtain ⟨a, i1, i2⟩ := hA.int1 (n := n) (i := i) (z := i) (k := .i64) (x := gx l i) rfl (by omega) (gx_at (by omega))
    obtain ⟨h1, h2, h3, h4, h5⟩ := sum_one (l := l) (c := 65537) (by decide) i hp
    refine w28_1 ⟨fun _ => ⟨_, i1, _, i2, fun hneg => ?_, fun hneg => ?_⟩, fun h => by omega⟩
    · have eo : ordE l w = 2 := by
        unfold ordE; rw [if_neg (by omega), if_pos (neg_all (by omega) hneg)]
      rw [eo] at hQ; exact hQ
    · have e1 : sumN (oneN l 65537) i + (if 65537 < gx l i then 65537 else gx l i) = sumN (oneN l 65537) (i + 1) := rfl
      obtain ⟨k1, _, k3, _⟩ := sum_one (l := l) (c := 65537) (by decide) (i + 1) (fun k hk => by
        rcases Nat.lt_or_ge k i with h | h
        · exact hp k h
        · obtain rfl : k = i := by omega
          omega)
      rw [e1, i64w (by omega), i64w (by omega), show ((i : Int) + 1) = ((i + 1 : Nat) : Int) by omega]
      refine ih (i + 1) (by omega) fun k hk => ?_
      rcases Nat.lt_or_ge k i with h | h
      · exact hp k h
      · obtain rfl : k = i := by omega
        omega
theorem c28 (hA : Row M A (Ints l)) (hn : n = l.length) : Cn Try.prog 28 #[.slice A n c, .int .i64 w] M fun v N => v = .tuple #[.int .i64 (if ordE l w = 0 then sumN (gx l) n else 0), .int .i64 (ordE l w : Nat)] ∧ N = M := by
  refine w28_0 ⟨fun h => ?_, fun h => c28_loop hA hn (by omega) ⟨rfl, rfl⟩ n 0 (Nat.zero_add _) fun k hk => by omega⟩
  have eo : ordE l w = 7 := by unfold ordE; rw [if_pos (by omega)]
  rw [eo]; exact ⟨rfl, rfl⟩
def NewR (M : Mem) (L : List Int) : Value → Mem → Prop := fun v N => ∃ A c, v = .slice A L.length c ∧ Keep M N ∧ Own (fun j => M.nb.size ≤ j) N 3 A c (Ints L)
theorem c10 (hf : M.floor ≤ M.nb.size) (hA : Row M A (Ints l)) (hn : n = l.length) (hb : n ≤ 1048576) : Cn Try.prog 10 #[.slice A n c] M (NewR M l) := by
  obtain ⟨B, d, N, g1, g2, g3, g4⟩ := append_own el22 (S := fun j => M.nb.size ≤ j) (M := M) (A := none) (c := 0) (n := 0) (k := n) (cx := c) (L := []) Own.empty rfl hA (by rw [List.length_map, hn, Nat.mul_one]) (by simp [List.all_eq_true, oneCell]) (fun j hj => Nat.le_trans hf hj) (Nat.le_refl _) (by omega)
  refine w10_0 ⟨_, g1, _, rfl, B, d, ?_, Keep.step (.refl _) g2 fun j hj => hj, by simpa using g3⟩
  simp [hn]
theorem c29 (hf : M.floor ≤ M.nb.size) (hA : Row M A (Ints l)) (hn : n = l.length) (hb : n ≤ 1048576) : Cn Try.prog 29 #[.slice A n c] M (NewR M l) := by
  refine w29_0 ⟨fun h => ?_, fun h => ?_⟩
  · cases A with
    | none =>
      have h0 : l = [] := List.map_eq_nil_iff.1 hA.none_nil
      subst h0
      exact ⟨none, 0, rfl, .refl _, Own.empty⟩
    | some a => cases h
  · obtain ⟨B, d, N, g1, g2, g3, g4⟩ := clone_own el22 (n := n) (c := c) hA (by rw [List.length_map, hn, Nat.mul_one]) (by simp [List.all_eq_true, oneCell]) hf (by omega)
    rw [Nat.mul_one] at g3
    subst hn
    exact ⟨_, g1, _, rfl, B, d, rfl, g2, g3⟩
end
/-! ### Delete -/
theorem append_fit {S : Nat → Prop} {M : Mem} {A X : Option Addr} {n c k cx : Nat} {L L' : List Value} (hO : Own S M 3 A c L) (hn : L.length = n) (hX : Row M X L') (hk : L'.length = k) (hone : L'.all oneCell = true) (hS : ∀ j, S j → M.floor ≤ j) (hc : n + k ≤ c) :
    ∃ M', appendP Try.prog #[22, 22] (.slice A n c) (.slice X k cx) M = some (.slice A (n + k) c, M') ∧ Chg S M M' ∧ Own S M' 3 A c (L ++ L') := by
  obtain ⟨i, h1, h2, h4, h5⟩ := el22.info
  have hsl := el22.slice
  obtain ⟨hp0, hp1, hp2⟩ := el22.pos
  have hsrc : M.src X (k * 1) = some L' := by rw [Nat.mul_one, ← hk]; exact hX.src
  unfold appendP
  simp only [Array.getElem?_eq_getElem, List.size_toArray, List.length_cons, List.length_nil, Nat.zero_add, Nat.reduceLT, Nat.reduceAdd, List.getElem_toArray, List.getElem_cons_zero, List.getElem_cons_succ, Option.bind_some, hsl, h1, h2, el22.cells, h4, h5]
  rw [if_pos ⟨trivial, trivial, trivial, hp2⟩, hsrc]
  simp only [Option.bind_some]
  rw [if_pos hc]
  rcases hO with ⟨rfl, rfl, hc0⟩ | ⟨j, cs, sp, rfl, g2, g3, g4, g5, g6, g7⟩
  · subst hc0
    have hL : L' = [] := List.length_eq_zero_iff.1 (by omega)
    subst hL
    have hk0 : k = 0 := by omega
    subst hk0
    exact ⟨M, by simp, .refl _, .inl ⟨rfl, rfl, rfl⟩⟩
  · obtain ⟨M', cs', p1, p2, p3, p4, p5, p6⟩ := putN_own (S := S) (e := 3) L' (o := 0 + n * 1) g3 (hS j g3) g4 (by omega) hone
    refine ⟨M', by simp only [p1, Option.map_some], p2, .inr ⟨j, cs', sp, rfl, g2, g3, p4, ?_, by simp; omega, by rw [p5]; exact g7⟩⟩
    have e1 : (L ++ L').length = 0 + n * 1 + L'.length := by simp [hn]
    rw [e1, p6, Nat.zero_add, Nat.mul_one, ← hn, g5]
theorem zr1 : (zeroRow (Value.int .i64 0).cells (1 * (Value.int .i64 0).cells.size)).toList = [.int .i64 0] := by kernel_rfl
theorem c30 {S : Nat → Prop} {M : Mem} {A : Option Addr} {n c p : Nat} {u : List Int} (hO : Own S M 3 A c (Ints u)) (hn : n = u.length) (hp : p < n) (hb : n ≤ 65536) (hS : ∀ j, S j → M.floor ≤ j) :
    Cn Try.prog 30 #[.slice A n c, .int .i64 (p : Nat), .int .i64 ((p + 1 : Nat) : Int)] M fun v N => ∃ A', v = .slice A' (u.eraseIdx p).length c ∧ Chg S M N ∧ Own S N 3 A' c (Ints (u.eraseIdx p)) := by
  have hcap : n ≤ c := by have := hO.cap; simpa [hn] using this
  have hlen : (u.eraseIdx p).length = n - 1 := by rw [List.length_eraseIdx, if_pos (by omega), hn]
  have b0 : ∀ (x y d : Nat), x ≤ y → bound (some (.int .i64 (x : Nat))) y d = some x := fun x y d h => by
    simp only [bound]; rw [if_pos (by omega)]; simp
  -- the check
  have s1 : ∃ X a b, sliceP Try.prog 22 (.slice A n c) (some (.int .i64 (p : Nat))) (some (.int .i64 ((p + 1 : Nat) : Int))) (some (.int .i64 (n : Nat))) = some (.slice X a b) := by
    rcases hO with ⟨rfl, h0, _⟩ | ⟨j, cs, sp, rfl, g2, _⟩
    · have := congrArg List.length h0; simp at this; omega
    · simp only [sliceP, el22.slice, b0 _ _ _ hcap, Option.bind_some, Option.isNone_some, Bool.false_and, Bool.false_eq_true, if_false, b0 (p + 1) n n (by omega), b0 p (p + 1) 0 (by omega), el22.size]
      unfold cut
      rw [if_neg (show ¬ (2 * j) % 2 = 1 by omega)]
      rcases g2 with rfl | rfl
      · rw [if_pos rfl]; exact ⟨_, _, _, rfl⟩
      · rw [if_neg (by simp)]; simp only [Option.isSome_some, if_true]; exact ⟨_, _, _, rfl⟩
  obtain ⟨X, xa, xb, s1⟩ := s1
  obtain ⟨A1, s2, O1⟩ := slice_own el22 (s := 1) (n := n) (c := c) (h := p) (hi := some (.int .i64 (p : Nat))) (by rw [Nat.mul_one]; exact hO) hcap (b0 p c n (by omega)) (by omega) rfl
  obtain ⟨Y, s3, R3, _⟩ := slice_row el22 (n := n) (c := c) (l := p + 1) (h := n) (lo := some (.int .i64 ((p + 1 : Nat) : Int))) (hi := none) hO.row (by simp [hn]) hcap hO.none_zero (b0 (p + 1) n 0 (by omega)) rfl (by omega) (Nat.le_refl _)
  simp only [Nat.mul_one] at O1 R3
  have R3' : Row M Y (Ints (u.drop (p + 1))) := by
    rw [Ints, List.map_drop]
    rw [List.take_of_length_le (by simp [hn])] at R3
    exact R3
  obtain ⟨M1, a1, C1, O2⟩ := append_fit (cx := c - (p + 1)) O1 (n := p) (by simp; omega) R3' (k := n - (p + 1)) (by simp; omega) (by rw [List.all_eq_true]; intro v hv; obtain ⟨x, _, rfl⟩ := List.mem_map.1 hv; rfl) hS (by omega)
  have eL : List.take p (Ints u) ++ Ints (u.drop (p + 1)) = Ints (u.eraseIdx p) := by
    rw [List.eraseIdx_eq_take_drop_succ, Ints, Ints, Ints, List.map_append, List.map_take]
  rw [eL] at O2
  have e1 : p + (n - (p + 1)) = n - 1 := by omega
  rw [e1] at a1
  -- the last one is cleared
  rcases O2 with ⟨_, _, h0⟩ | ⟨j, cs, sp, rfl, g2, g3, g4, g5, g6, g7⟩
  · omega
  have hls : n - 1 < cs.size := by omega
  have zp : zeroP Try.prog 3 = some (.int .i64 0) := by kernel_rfl
  have cl : ∃ s9 : Option Addr, ∃ M2 cs2, sliceP Try.prog 22 (.slice (some ⟨2 * j, 0, sp⟩) (n - 1) c) (some (.int .i64 ((n - 1 : Nat) : Int))) (some (.int .i64 (n : Nat))) none = some (.slice s9 1 (c - (n - 1))) ∧
      clearP Try.prog #[22] (.slice s9 1 (c - (n - 1))) M1 = some M2 ∧ Chg S M1 M2 ∧ M2.nb[j]? = some (.cells cs2 3) ∧ cs2.size = cs.size ∧ cs2.toList.take (n - 1) = cs.toList.take (n - 1) := by
    obtain ⟨M2, cs2, p1, p2, p3, p4, p5, p6⟩ := putN_own (S := S) (e := 3) [.int .i64 0] (o := 0 + (n - 1) * 1) g3 (by rw [C1.floor]; exact hS j g3) g4 (by simp; omega) rfl
    have q6 : cs2.toList.take (n - 1) = cs.toList.take (n - 1) := by
      have := congrArg (List.take (n - 1)) p6
      rw [List.take_take, Nat.min_eq_left (by simp), Nat.zero_add, Nat.mul_one, List.take_append_of_le_length (by simp; omega), List.take_take, Nat.min_self] at this
      exact this
    have cp : ∀ sp', clearP Try.prog #[22] (.slice (some ⟨2 * j, 0 + (n - 1) * 1, sp'⟩) 1 (c - (n - 1))) M1 = some M2 := by
      intro sp'
      simp only [clearP, Array.getElem?_eq_getElem, List.size_toArray, List.length_cons, List.length_nil, Nat.zero_add, Nat.reduceLT, List.getElem_toArray, List.getElem_cons_zero, Option.bind_some, el22.slice, zp]
      rw [if_neg (by decide), zr1, ← Nat.zero_add ((n - 1) * 1)]
      exact p1
    have e3 : n - (n - 1) = 1 := by omega
    simp only [sliceP, el22.slice, show bound none c c = some c from rfl, Option.bind_some, Option.isSome_none, Bool.and_false, Bool.false_eq_true, if_false, b0 n c (n - 1) hcap, b0 (n - 1) n 0 (by omega), el22.size]
    unfold cut
    rw [if_neg (show ¬ (2 * j) % 2 = 1 by omega)]
    rcases g2 with rfl | rfl
    · rw [if_pos rfl, if_neg (by omega), e3]
      exact ⟨_, M2, cs2, rfl, cp _, p2, p4, p5, q6⟩
    · rw [if_neg (by simp)]
      simp only [Bool.false_eq_true, if_false]
      rw [e3]
      exact ⟨_, M2, cs2, rfl, cp _, p2, p4, p5, q6⟩
  obtain ⟨s9, M2, cs2, t1, t2, t3, t4, t5, t6⟩ := cl
  refine w30_0 ⟨_, s1, _, rfl, fun h => by omega, fun _ => ⟨_, s2, _, rfl, _, s3, _, rfl, _, a1, _, rfl, _, t1, _, rfl, (.tuple #[], M2), by show (clearP Try.prog #[22] (.slice s9 1 (c - (n - 1))) M1).map _ = _; rw [t2]; rfl, some ⟨2 * j, 0, sp⟩, ?_, C1.trans t3, .inr ⟨j, cs2, sp, rfl, g2, g3, t4, ?_, g6, by rw [t5]; exact g7⟩⟩⟩
  · rw [hlen]
  · have : (Ints (u.eraseIdx p)).length = n - 1 := by rw [List.length_map, hlen]
    rw [this] at g5 ⊢
    rw [t6]; exact g5
/-! ### Three lists -/
structure Od (M0 : Mem) (M : Mem) (A1 : Option Addr) (c1 : Nat) (L1 : List Int) (A2 : Option Addr) (c2 : Nat) (L2 : List Int) (A3 : Option Addr) (c3 : Nat) (L3 : List Int) : Prop where
  keep : Keep M0 M
  ex : ∃ S1 S2 S3 : Nat → Prop, (∀ j, S1 j ∨ S2 j ∨ S3 j → M0.nb.size ≤ j ∧ j < M.nb.size) ∧ (∀ j, S1 j → ¬ S2 j) ∧ (∀ j, S1 j → ¬ S3 j) ∧ (∀ j, S2 j → ¬ S3 j) ∧ Own S1 M 3 A1 c1 (Ints L1) ∧ Own S2 M 3 A2 c2 (Ints L2) ∧ Own S3 M 3 A3 c3 (Ints L3)
section
variable {M0 M : Mem} {A1 A2 A3 : Option Addr} {c1 c2 c3 : Nat} {L1 L2 L3 : List Int}
theorem Od.r1 (h : Od M0 M A1 c1 L1 A2 c2 L2 A3 c3 L3) : Row M A1 (Ints L1) := by
  obtain ⟨K, S1, S2, S3, e, d1, d2, d3, o1, o2, o3⟩ := h
  exact o1.row
/-- The first one is changed in its own place. -/
theorem Od.change (hf : M0.floor ≤ M0.nb.size) (h : Od M0 M A1 c1 L1 A2 c2 L2 A3 c3 L3) {P : Mem → Option Addr → Nat → List Int → Prop}
    (step : ∀ S : Nat → Prop, (∀ j, S j → M.floor ≤ j) → (∀ j, M.nb.size ≤ j → S j) → Own S M 3 A1 c1 (Ints L1) → ∃ M' A' c' L', P M' A' c' L' ∧ Chg S M M' ∧ Own S M' 3 A' c' (Ints L')) :
    ∃ M' A' c' L', P M' A' c' L' ∧ Od M0 M' A' c' L' A2 c2 L2 A3 c3 L3 := by
  obtain ⟨K, S1, S2, S3, e, d1, d2, d3, o1, o2, o3⟩ := h
  obtain ⟨M', A', c', L', hP, C, hO⟩ := step (fun j => S1 j ∨ M.nb.size ≤ j) (fun j hj => by
    rw [K.floor]
    rcases hj with h | h
    · exact Nat.le_trans hf (e j (.inl h)).1
    · exact Nat.le_trans hf (Nat.le_trans K.size h)) (fun j hj => .inr hj) (o1.mono fun j _ h => .inl h)
  have hs := C.size
  refine ⟨M', A', c', L', hP, Keep.step K C fun j hj => ?_, fun j => (S1 j ∨ M.nb.size ≤ j) ∧ j < M'.nb.size, S2, S3, fun j hj => ?_, fun j h1 h2 => ?_, fun j h1 h2 => ?_, d3, hO.mono fun j hl h => ⟨h, hl⟩, o2.chg C fun j hl h1 h2 => ?_, o3.chg C fun j hl h1 h2 => ?_⟩
  · rcases hj with h | h
    · exact (e j (.inl h)).1
    · exact Nat.le_trans K.size h
  · rcases hj with ⟨h | h, hl⟩ | h | h
    · exact ⟨(e j (.inl h)).1, hl⟩
    · exact ⟨Nat.le_trans K.size h, hl⟩
    · have := e j (.inr (.inl h)); exact ⟨this.1, by omega⟩
    · have := e j (.inr (.inr h)); exact ⟨this.1, by omega⟩
  · rcases h1.1 with h | h
    · exact d1 j h h2
    · have := e j (.inr (.inl h2)); omega
  · rcases h1.1 with h | h
    · exact d2 j h h2
    · have := e j (.inr (.inr h2)); omega
  · rcases h2 with h | h
    · exact d1 j h h1
    · omega
  · rcases h2 with h | h
    · exact d2 j h h1
    · omega
theorem Od.put (hf : M0.floor ≤ M0.nb.size) (h : Od M0 M A1 c1 L1 A2 c2 L2 A3 c3 L3) {n i : Nat} (hn : n = L1.length) (hi : i < n) (v : Int) :
    ∃ a, idxA A1 n 1 (i : Nat) = some a ∧ ∃ M', M.put a.block a.off (.int .i64 v) = some M' ∧ Od M0 M' A1 c1 (L1.set i v) A2 c2 L2 A3 c3 L3 := by
  obtain ⟨M', A', c', L', ⟨a, h1, h3, rfl, rfl, rfl⟩, h2⟩ := h.change hf (P := fun M' A' c' L' => ∃ a, idxA A1 n 1 (i : Nat) = some a ∧ M.put a.block a.off (.int .i64 v) = some M' ∧ A' = A1 ∧ c' = c1 ∧ L' = L1.set i v) fun S s1 s2 hO => by
    obtain ⟨q, p1, M', p2, p3, p4, p5⟩ := hO.put1 s1 (n := n) (i := i) (z := (i : Nat)) (v := .int .i64 v) rfl hi (by rw [List.length_map]; omega) rfl
    exact ⟨M', A1, c1, _, ⟨q, p1, p2, rfl, rfl, rfl⟩, p3, by rw [Ints, List.map_set]; exact p5⟩
  exact ⟨a, h1, M', h3, h2⟩
end
end Go.Zt

