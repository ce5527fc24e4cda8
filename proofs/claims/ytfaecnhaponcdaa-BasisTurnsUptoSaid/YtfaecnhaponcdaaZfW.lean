/- Layer 7: BasisTurns. -/
import Derived.Test.YtfaecnhaponcdaaZfV
set_option linter.unusedSimpArgs false
set_option linter.unusedVariables false
namespace Go.Zt
open Go Go.Sim Go.Proofs Go.RowKit

/-- Cut within its capacity, a row of one's own keeps all its elements. -/
theorem slice_re {P : Program} {t e : TypeId} {s b : Nat} {z : Value} (hE : ElemS P t e s b z) {S : Nat → Prop} {M : Mem} {A : Option Addr} {L : List Value} {n c h : Nat} (hO : Own S M e A (c * s) L) (hL : L ≠ [])
    {hi : Option Value} (hh : bound hi c n = some h) (hs : hi.isSome = true) :
    ∃ A', sliceP P t (.slice A n c) none hi none = some (.slice A' h c) ∧ Own S M e A' (c * s) L := by
  have e2 : ∀ y d, bound none y d = some d := fun _ _ => rfl
  rcases hO with ⟨_, h, _⟩ | ⟨j, cs, sp, rfl, g2, g3, g4, g5, g6, g7⟩
  · exact absurd h hL
  · have out : ∀ sp', (sp' = none ∨ sp' = some 0) → Own S M e (some ⟨2 * j, 0, sp'⟩) (c * s) L := fun sp' hsp => .inr ⟨j, cs, sp', rfl, hsp, g3, g4, g5, g6, g7⟩
    have e0 : sliceP P t (.slice (some ⟨2 * j, 0, sp⟩) n c) none hi none = cut s ⟨2 * j, 0, sp⟩ n false 0 h c := by
      simp only [sliceP, hE.slice, e2, Option.bind_some, Option.isSome_none, Bool.and_false, Bool.false_eq_true, if_false, hh, hE.size]
    rw [e0]
    unfold cut
    rw [if_neg (show ¬ (2 * j) % 2 = 1 by omega)]
    rcases g2 with rfl | rfl
    · rw [if_pos rfl]
      by_cases hcl : c = 0
      · rw [if_pos hcl]; exact ⟨_, rfl, out none (.inl rfl)⟩
      · rw [if_neg hcl]
        refine ⟨_, rfl, ?_⟩
        have := out none (.inl rfl)
        simpa using this
    · rw [if_neg (by simp)]
      simp only [Bool.false_eq_true, if_false]
      refine ⟨_, rfl, ?_⟩
      have := out (some 0) (.inr rfl)
      simpa using this
theorem Row.pre {M : Mem} {A : Option Addr} {L R : List Value} (h : Row M A (L ++ R)) : Row M A L := fun i hi => by
  obtain ⟨a, h1, h2⟩ := h i (by simp; omega)
  exact ⟨a, h1, by rw [h2, List.getElem_append_left hi]⟩
theorem c23 {M0 : Mem} (hf : M0.floor ≤ M0.nb.size) {A : Option Addr} {n c : Nat} {x : List Int} (hA : Row M0 A (Ints x)) (hn : n = x.length) (hb : n ≤ 1048576) :
    Cn Try.prog 23 #[.slice A n c] M0 fun v N => ∃ B d, v = .slice B n d ∧ Keep M0 N ∧ Own (fun j => M0.nb.size ≤ j) N 3 B d (Ints x) := by
  obtain ⟨B, d, N, g1, g2, g3, g4⟩ := append_own el22 (S := fun j => M0.nb.size ≤ j) (M := M0) (A := none) (c := 0) (n := 0) (L := []) (k := n) (cx := c) (by rw [Nat.zero_mul]; exact Own.empty) rfl hA (by rw [List.length_map, hn, Nat.mul_one]) (by simp [List.all_eq_true, oneCell]) (fun j hj => Nat.le_trans hf hj) (Nat.le_refl _) (by omega)
  rw [Nat.zero_add] at g1
  refine w23_0 ⟨_, g1, _, rfl, B, d, rfl, Keep.step (.refl _) g2 fun j hj => hj, ?_⟩
  rw [Nat.mul_one] at g3; simpa using g3
theorem eqAt {M : Mem} {A B : Option Addr} {l : List Int} (hA : Row M A (Ints l)) (hB : Row M B (Ints l)) {n m c d : Nat} (hn : n = l.length) (hm : m = l.length) (hb : n ≤ 4611686018427387904) :
    Cn Try.prog 15 #[.slice A n c, .slice B m d] M fun v N => v = .bool true ∧ N = M := by
  have := c15 (c := c) (d := d) hA hB hn hm hb
  simpa using this
section
variable {M0 : Mem} {A : Option Addr} {n0 c0 : Nat} {x : List Int}
/-- What one kind's law answers. -/
abbrev One (M0 : Mem) : Value → Mem → Prop := fun v N => v = .bool true ∧ Keep M0 N
theorem c10_tail (hf : M0.floor ≤ M0.nb.size) (hA : Row M0 A (Ints x)) (hn : n0 = x.length) (hb : n0 ≤ 1048576) {Y B : Option Addr} {cy cb li : Nat} {b0 : Nat} (h0 : M0.nb.size ≤ b0)
    {M M' : Mem} {Z : List Int} (hY : Own (fun j => M0.nb.size ≤ j ∧ j < b0) M' 3 Y cy (Ints (x ++ [77, 78]))) (KC : Chg (fun j => b0 ≤ j) M' M) (hbM : b0 ≤ M'.nb.size) (K : Keep M0 M) (hB : Own (fun j => b0 ≤ j) M 3 B cb (Ints Z)) (hZ : li = Z.length) (hZb : li ≤ 64) (hcy : n0 + 2 ≤ cy) :
    ∃ r31', appendP Try.prog #[22, 22] (.slice B li cb) (.slice (some ⟨2 * M.nb.size, 0, none⟩) 1 1) (M.new (.cells #[.int .i64 5] 3)) = some r31' ∧
     ∃ s32', asS r31'.1 = some s32' ∧
     Cn Try.prog 15 #[.slice Y n0 cy, .slice A n0 c0] r31'.2 fun v33' N33' =>
      ∃ b34', asB v33' = some b34' ∧
      ((b34' = true →
       ∃ v35', sliceP Try.prog 22 (.slice Y n0 cy) none (some (.int .i64 (IntKind.i64.wrap (((n0 : Int)) + 2)))) none = some v35' ∧
       ∃ s36', asS v35' = some s36' ∧
       ∃ v37', sliceP Try.prog 22 (.slice s36'.1 (s36'.2.1) (s36'.2.2)) (some (.int .i64 ((n0 : Int)))) none none = some v37' ∧
       ∃ s38', asS v37' = some s38' ∧
       Cn Try.prog 15 #[.slice s38'.1 (s38'.2.1) (s38'.2.2), .slice (some ⟨2 * N33'.nb.size, 0, none⟩) 2 2] (N33'.new (.cells #[.int .i64 77, .int .i64 78] 3)) fun v39' N39' =>
        ∃ b40', asB v39' = some b40' ∧
        One M0 (.bool b40') N39') ∧
       (b34' = false →
       One M0 (.bool false) N33')) := by
  have hS : ∀ j, b0 ≤ j → M.floor ≤ j := fun j hj => by rw [K.floor]; exact Nat.le_trans hf (Nat.le_trans h0 hj)
  have hsz := KC.size
  obtain ⟨B', cb', N, g1, g2, g3, g4⟩ := app1S el22 hB (n := li) (v := .int .i64 5) (by rw [hZ, List.length_map]) hS (by omega) (by omega) rfl (by omega)
  have CN := KC.trans g2
  have hYN : Own (fun j => M0.nb.size ≤ j ∧ j < b0) N 3 Y cy (Ints (x ++ [77, 78])) := hY.chg CN fun j _ h1 h2 => by omega
  have KN : Keep M0 N := Keep.step K g2 fun j hj => Nat.le_trans h0 hj
  have hrow := hYN.row
  have hpre : Row N Y (Ints x) := Row.pre (R := Ints [77, 78]) (by have := hrow; rw [Ints, List.map_append] at this; exact this)
  refine ⟨_, g1, _, rfl, Cn.eq (eqAt hpre (hA.keep KN) hn hn (by omega)) ⟨_, rfl, fun _ => ?_, fun h => (by cases h)⟩⟩
  rw [i64w (by omega), show ((n0 : Int) + 2) = ((n0 + 2 : Nat) : Int) by omega]
  obtain ⟨Y', q1, q2⟩ := slice_re el22 (n := n0) (c := cy) (h := n0 + 2) (hi := some (.int .i64 ((n0 + 2 : Nat) : Int))) (by rw [Nat.mul_one]; exact hYN) (by simp) (bound_lo rfl hcy) rfl
  rw [Nat.mul_one] at q2
  obtain ⟨Y2, q3, q4, _⟩ := slice_row el22 (n := n0 + 2) (c := cy) (l := n0) (h := n0 + 2) (lo := some (.int .i64 (n0 : Int))) (hi := none) q2.row (by simp [hn]) hcy (fun h => by
    rcases q2 with ⟨_, h, _⟩ | ⟨_, _, _, rfl, _⟩
    · simp at h
    · cases h) (bound_lo rfl (by omega)) rfl (by omega) (Nat.le_refl _)
  refine ⟨_, q1, _, rfl, _, q3, _, rfl, ?_⟩
  have e : ((Ints (x ++ [77, 78])).drop (n0 * 1)).take ((n0 + 2 - n0) * 1) = Ints [77, 78] := by
    have hd : n0 * 1 = (Ints x).length := by rw [Nat.mul_one, List.length_map, hn]
    rw [Ints, List.map_append, hd, List.drop_left, Nat.mul_one, show n0 + 2 - n0 = 2 by omega]; rfl
  rw [e] at q4
  obtain ⟨P1, e1, E1, F1⟩ := fr N [77, 78] (cs := #[.int .i64 77, .int .i64 78]) rfl
  rw [e1]
  show Cn Try.prog 15 #[.slice Y2 (n0 + 2 - n0) (cy - n0), .slice (some ⟨2 * N.nb.size, 0, none⟩) 2 2] P1 _
  exact Cn.eq (eqAt (n := n0 + 2 - n0) (m := 2) (q4.keep E1) F1 (by simp) rfl (by omega)) ⟨_, rfl, rfl, KN.trans E1⟩
theorem set_len1 {L : List Int} {i : Nat} {v : Int} : (Ints L).set i (.int .i64 v) = Ints (L.set i v) := by rw [Ints, Ints, List.map_set]
theorem c10_loop (hf : M0.floor ≤ M0.nb.size) (hA : Row M0 A (Ints x)) (hn : n0 = x.length) (hb : n0 ≤ 1048576) {Y B C : Option Addr} {cy cb cc li lc : Nat} {b0 b1 : Nat} (h0 : M0.nb.size ≤ b0) (h01 : b0 ≤ b1)
    {M' : Mem} (hY : Own (fun j => M0.nb.size ≤ j ∧ j < b0) M' 3 Y cy (Ints (x ++ [77, 78]))) (hbM : b0 ≤ M'.nb.size) (hli : li ≤ 64) (hlc : lc ≤ 64) (hcy : n0 + 2 ≤ cy) :
    ∀ (m i : Nat) (Z V : List Int) {M : Mem}, i + m = li → li = Z.length → lc = V.length → Chg (fun j => b0 ≤ j) M' M → Keep M0 M → Own (fun j => b0 ≤ j ∧ j < b1) M 3 B cb (Ints Z) → Own (fun j => b1 ≤ j) M 3 C cc (Ints V) →
      A10_4 A n0 c0 Y n0 cy B li cb C lc cc (i : Nat) M (One M0) := by
  intro m
  induction m with
  | zero =>
    intro i Z V M hi hZ hV KC K hB hC
    refine w10_4 ⟨fun h => by omega, fun _ => w10_5 ⟨fun h => (by cases h), fun _ => ?_⟩⟩
    exact c10_tail hf hA hn hb h0 hY KC hbM K (hB.mono fun j _ h => h.1) hZ hli hcy
  | succ m ih =>
    intro i Z V M hi hZ hV KC K hB hC
    refine w10_4 ⟨fun _ => ?_, fun h => by omega⟩
    by_cases hic : i < lc
    · rw [decide_eq_true (by omega)]
      have fl : ∀ j, b0 ≤ j → M.floor ≤ j := fun j hj => by rw [K.floor]; exact Nat.le_trans hf (Nat.le_trans h0 hj)
      obtain ⟨a, p1, M1, p2, p3, p4, p5⟩ := hB.put1 (fun j hj => fl j hj.1) (n := li) (i := i) (z := (i : Nat)) (v := .int .i64 (-1)) rfl (by omega) (by rw [List.length_map, ← hZ]; omega) rfl
      have hC1 : Own (fun j => b1 ≤ j) M1 3 C cc (Ints V) := hC.chg p3 fun j _ h1 h2 => by omega
      obtain ⟨b, q1, M2, q2, q3, q4, q5⟩ := hC1.put1 (fun j hj => by rw [p3.floor]; exact fl j (Nat.le_trans h01 hj)) (n := lc) (i := i) (z := (i : Nat)) (v := .int .i64 (-1)) rfl (by omega) (by rw [List.length_map, ← hV]; omega) rfl
      have hB2 : Own (fun j => b0 ≤ j ∧ j < b1) M2 3 B cb (Ints (Z.set i (-1))) := by
        rw [set_len1] at p5
        exact p5.chg q3 fun j _ h1 h2 => by omega
      rw [set_len1] at q5
      have C2 : Chg (fun j => b0 ≤ j) M M2 := (p3.mono fun j _ h => h.1).trans (q3.mono fun j _ h => Nat.le_trans h01 h)
      refine w10_5 ⟨fun _ => ⟨a, p1, M1, p2, b, q1, M2, q2, ?_⟩, fun h => (by cases h)⟩
      rw [i64w (by omega), show ((i : Int) + 1) = ((i + 1 : Nat) : Int) by omega]
      exact ih (i + 1) _ _ (by omega) (by rw [List.length_set]; exact hZ) (by rw [List.length_set]; exact hV) (KC.trans C2) (Keep.step K C2 fun j hj => Nat.le_trans h0 hj) hB2 q5
    · rw [decide_eq_false (by omega)]
      exact w10_5 ⟨fun h => (by cases h), fun _ => c10_tail hf hA hn hb h0 hY KC hbM K (hB.mono fun j _ h => h.1) hZ hli hcy⟩
theorem q_len {kind : Int} : (fwdQ kind x).1.length ≤ 64 ∧ (invQ kind x).1.length ≤ 64 := by
  unfold fwdQ invQ
  cases h : mayB kind x with
  | false => exact ⟨Nat.zero_le _, Nat.zero_le _⟩
  | true =>
    unfold mayB at h
    rw [Bool.and_eq_true] at h
    have := lenB_le h.1
    unfold fwdS invS
    constructor
    · rw [if_pos rfl]; split
      · show 4 ≤ 64; omega
      · simp; omega
    · rw [if_pos rfl]; split
      · show 4 ≤ 64; omega
      · simp; omega
theorem c10 (hf : M0.floor ≤ M0.nb.size) (hA : Row M0 A (Ints x)) (hn : n0 = x.length) (hb : n0 ≤ 1048576) {kind : Int} :
    Cn Try.prog 10 #[.int .i64 kind, .slice A n0 c0] M0 (One M0) := by
  have hq := q_len (x := x) (kind := kind)
  refine w10_0 (Cn.mono (c23 hf hA hn hb) ?_)
  rintro _ N1 ⟨B1, d1, rfl, K1, O1⟩
  obtain ⟨P1, e1, E1, F1⟩ := fr N1 [77, 78] (cs := #[.int .i64 77, .int .i64 78]) rfl
  have OP := O1.chg E1 fun _ _ _ h => h
  have KP := K1.trans E1
  obtain ⟨B2, d2, N2, g1, g2, g3, g4⟩ := append_own el22 (S := fun j => M0.nb.size ≤ j) (M := P1) (A := B1) (c := d1) (n := n0) (k := 2) (cx := 2) (by rw [Nat.mul_one]; exact OP) (by simp [hn]) F1 rfl (by simp [oneCell]) (fun j hj => by rw [KP.floor]; exact Nat.le_trans hf hj) KP.size (by omega)
  rw [Nat.mul_one] at g3
  have KN2 : Keep M0 N2 := Keep.step KP g2 fun j hj => hj
  rw [show Ints x ++ Ints [77, 78] = Ints (x ++ [77, 78]) by rw [Ints, Ints, Ints, List.map_append]] at g3
  obtain ⟨Y, q1, q2⟩ := slice_re el22 (n := n0 + 2) (c := d2) (h := n0) (hi := some (.int .i64 ((n0 : Nat) : Int))) (by rw [Nat.mul_one]; exact g3) (by simp) (bound_lo rfl (by omega)) rfl
  rw [Nat.mul_one] at q2
  have hY : Own (fun j => M0.nb.size ≤ j ∧ j < N2.nb.size) N2 3 Y d2 (Ints (x ++ [77, 78])) := q2.mono fun j hj h => ⟨h, hj⟩
  rw [e1]
  refine ⟨_, rfl, _, g1, _, rfl, _, q1, _, rfl, ?_⟩
  have hYx : Row N2 Y (Ints x) := Row.pre (R := Ints [77, 78]) (by have := q2.row; rw [Ints, List.map_append] at this; exact this)
  dsimp only
  refine Cn.mono (c14 (kind := kind) (fb hf KN2) hYx hn hb) ?_
  rintro _ N3 ⟨I, ci, rfl, K3, O3, _⟩
  have K03 := KN2.trans K3
  refine ⟨_, rfl, _, rfl, _, rfl, Cn.mono (c24 (kind := kind) (fb hf K03) (hA.keep K03) hn hb) ?_⟩
  rintro _ N4 ⟨I', ci', rfl, K4, O4, _⟩
  have K04 := K03.trans K4
  have K24 := K3.trans K4
  refine ⟨_, rfl, _, rfl, _, rfl, Cn.mono (c13 (kind := kind) (fb hf K04) (hYx.keep K24) hn hb) ?_⟩
  rintro _ N5 ⟨J, cj, rfl, K5, O5, _⟩
  have K05 := K04.trans K5
  refine ⟨_, rfl, _, rfl, _, rfl, Cn.mono (c25 (kind := kind) (fb hf K05) (hA.keep K05) hn hb) ?_⟩
  rintro _ N6 ⟨J', cj', rfl, K6, O6, _⟩
  have K06 := K05.trans K6
  have K46 := K5.trans K6
  have K36 := K4.trans K46
  have K26 := K3.trans K36
  have RI := O3.row.keep K36
  have RI' := O4.row.keep K46
  have RJ := O5.row.keep K6
  refine ⟨_, rfl, _, rfl, _, rfl, ?_⟩
  dsimp only
  refine Cn.eq (eqAt RI RI' rfl rfl (by omega)) ⟨_, rfl, fun h => (by cases h), fun _ => ?_⟩
  rw [show (((invQ kind x).2 : Int) != ((invQ kind x).2 : Nat)) = false by simp]
  refine w10_1 ⟨fun h => (by cases h), fun _ => Cn.eq (eqAt RJ O6.row rfl rfl (by omega)) ⟨_, rfl, w10_2 ⟨fun h => (by cases h), fun _ => ?_⟩⟩⟩
  rw [show (((fwdQ kind x).2 : Int) != ((fwdQ kind x).2 : Nat)) = false by simp]
  refine w10_3 ⟨fun h => (by cases h), fun _ => ?_⟩
  have hI : Own (fun j => N2.nb.size ≤ j ∧ j < N4.nb.size) N6 3 I ci (Ints (invQ kind x).1) :=
    (O3.mono (T := fun j => N2.nb.size ≤ j ∧ j < N4.nb.size) fun j hj h => ⟨h, Nat.lt_of_lt_of_le hj K4.size⟩).chg K36 fun _ _ _ h => h
  have hJ : Own (fun j => N4.nb.size ≤ j) N6 3 J cj (Ints (fwdQ kind x).1) := O5.chg K6 fun _ _ _ h => h
  exact c10_loop hf hA hn hb KN2.size K24.size hY (Nat.le_refl _) hq.2 hq.1 g4 _ 0 _ _ (Nat.zero_add _) rfl rfl (K26.mono fun _ _ h => h.elim) K06 hI hJ
theorem c3_loop (hf : M0.floor ≤ M0.nb.size) (hA : Row M0 A (Ints x)) (hn : n0 = x.length) (hb : n0 ≤ 1048576) {kind : Int} : ∀ (m : Nat) (z : Int) {M : Mem}, z + m = 5 → -1 ≤ z → Keep M0 M → A3_1 kind A n0 c0 z M fun v _ => v = .bool true := by
  intro m
  induction m with
  | zero =>
    intro z M hz h0 K
    refine w3_1 ⟨fun h => by omega, fun _ => Cn.mono (c10 (fb hf K) (hA.keep K) hn hb) ?_⟩
    rintro _ N ⟨rfl, K1⟩
    refine ⟨_, rfl, fun _ => Cn.mono (c11 (fb hf (K.trans K1))) ?_, fun h => (by cases h)⟩
    rintro _ N2 ⟨rfl, K2⟩
    exact ⟨_, rfl, rfl⟩
  | succ m ih =>
    intro z M hz h0 K
    refine w3_1 ⟨fun _ => Cn.mono (c10 (fb hf K) (hA.keep K) hn hb) ?_, fun h => by omega⟩
    rintro _ N ⟨rfl, K1⟩
    refine ⟨_, rfl, fun h => (by cases h), fun _ => ?_⟩
    rw [i64w (by omega)]
    exact ih (z + 1) (by omega) (by omega) (K.trans K1)
end
theorem law3 {W : World} {u0 u1 : Value} (s0 : Sees Try.prog (mem0 W) 1048576 8 3 [u0]) (s1 : Sees Try.prog (mem0 W) 1048576 8 22 [u1]) : Cn Try.prog 3 #[u0, u1] (mem0 W) fun v _ => v = .bool true := by
  obtain ⟨k, e, _⟩ := sees_int (q := .i64) (by kernel_rfl) s0
  obtain rfl : u0 = _ := by simpa using e
  obtain ⟨A, n, c, l, e, h1, h2, h3, h4, _⟩ := sees_ints (e := 3) (by kernel_rfl) (by kernel_rfl) s1
  obtain rfl : u1 = _ := by simpa using e
  exact w3_0 (c3_loop (M0 := mem0 W) (Nat.zero_le _) h4 h1 h3 6 (-1) (by decide) (by decide) (.refl _))
end Go.Zt
