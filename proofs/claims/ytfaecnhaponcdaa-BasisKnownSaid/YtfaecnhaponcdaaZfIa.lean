/- Layer 7: the law's helpers; works. -/
import Derived.Test.YtfaecnhaponcdaaZfH
import Derived.Test.YtfaecnhaponcdaaZfDi
set_option linter.unusedSimpArgs false
set_option linter.unusedVariables false
namespace Go.Zt
open Go Go.Sim Go.Proofs Go.RowKit

theorem c15_loop {M : Mem} {A B : Option Addr} {l l' : List Int} (hA : Row M A (Ints l)) (hB : Row M B (Ints l')) {n m c d : Nat} (hn : n = l.length) (hm : m = l'.length) (hl : l.length = l'.length) (hb : n ≤ 4611686018427387904) {Q : Value → Mem → Prop} :
    ∀ (k i : Nat), i + k = n → Q (.bool (decide (l.drop i = l'.drop i))) M → A15_1 A n c B m d i M Q
  | 0, i, hi, hQ => by
    refine w15_1 ⟨fun h => by omega, fun _ => ?_⟩
    have e : decide (l.drop i = l'.drop i) = true := by
      rw [List.drop_of_length_le (by omega), List.drop_of_length_le (by omega)]; simp
    rw [e] at hQ; exact hQ
  | k + 1, i, hi, hQ => by
    have h1 : i < l.length := by omega
    have h2 : i < l'.length := by omega
    obtain ⟨a, i1, i2⟩ := hA.int1 (n := n) (i := i) (z := i) (k := .i64) (x := l[i]) rfl (by omega) (by simp [h1])
    obtain ⟨b, j1, j2⟩ := hB.int1 (n := m) (i := i) (z := i) (k := .i64) (x := l'[i]) rfl (by omega) (by simp [h2])
    rw [List.drop_eq_getElem_cons h1, List.drop_eq_getElem_cons h2] at hQ
    refine w15_1 ⟨fun _ => ⟨_, i1, _, i2, _, j1, _, j2, fun h => ?_, fun h => ?_⟩, fun h => by omega⟩
    · rw [decide_eq_false (fun hh => h (List.cons.inj hh).1)] at hQ; exact hQ
    · rw [i64w (by omega), show ((i : Int) + 1) = ((i + 1 : Nat) : Int) by omega]
      refine c15_loop hA hB hn hm hl hb k (i + 1) (by omega) ?_
      have : decide (l[i] :: l.drop (i + 1) = l'[i] :: l'.drop (i + 1)) = decide (l.drop (i + 1) = l'.drop (i + 1)) := by
        rw [decide_eq_decide, h]; exact ⟨fun h => (List.cons.inj h).2, fun h => by rw [h]⟩
      rw [this] at hQ; exact hQ
theorem c15 {M : Mem} {A B : Option Addr} {l l' : List Int} (hA : Row M A (Ints l)) (hB : Row M B (Ints l')) {n m c d : Nat} (hn : n = l.length) (hm : m = l'.length) (hb : n ≤ 4611686018427387904) :
    Cn Try.prog 15 #[.slice A n c, .slice B m d] M fun v N => v = .bool (decide (l = l')) ∧ N = M := by
  refine w15_0 ⟨fun h => ⟨?_, rfl⟩, fun h => ?_⟩
  · have : l ≠ l' := fun e => h (by rw [hn, hm, e])
    simp [this]
  · exact c15_loop hA hB hn hm (by omega) hb n 0 (Nat.zero_add _) ⟨by simp, rfl⟩
theorem wrap_i64_rng (x : Int) : -9223372036854775808 ≤ IntKind.i64.wrap x ∧ IntKind.i64.wrap x ≤ 9223372036854775807 := by
  rw [IntKind.wrap_i64]; omega
theorem c18 {x n : Int} {M : Mem} (hx : -9223372036854775808 ≤ x ∧ x ≤ 9223372036854775807) (hn : n ≤ 9223372036854775807) : Cn Try.prog 18 #[.int .i64 x, .int .i64 n] M fun v N => v = .int .i64 (brg x n) ∧ N = M := by
  refine w18_0 ⟨fun h => ⟨by unfold brg; rw [if_pos h], rfl⟩, fun h => ⟨_, binV_rem (by omega), _, rfl, ?_⟩⟩
  obtain ⟨h1, h2⟩ := brg_tmod (x := x) h
  have h3 : brg x n < n ∧ 0 ≤ brg x n := by
    unfold brg; rw [if_neg h]
    exact ⟨Int.emod_lt_of_pos _ (by omega), Int.emod_nonneg _ (by omega)⟩
  refine ⟨fun h4 => ⟨?_, rfl⟩, fun h4 => ⟨by rw [h2 h4], rfl⟩⟩
  have := h1 h4
  rw [i64w (by omega), this]
theorem c17 {x : Int} (hx : -9223372036854775807 ≤ x ∧ x ≤ 9223372036854775807) {M : Mem} : Cn Try.prog 17 #[.int .i64 x] M fun v N => v = .int .i64 (x.natAbs : Nat) ∧ N = M :=
  w17_0 ⟨fun h => ⟨by rw [i64w (by omega)]; congr 1; omega, rfl⟩, fun h => ⟨by congr 1; omega, rfl⟩⟩
section
variable {M0 : Mem} {A : Option Addr} {n0 c0 : Nat} {y : List Int}
/-- A row brought to a bound. -/
def Within (m : Nat) (x : List Int) : Prop := ∀ v ∈ x, -(m : Int) ≤ v ∧ v ≤ m
theorem c12_loop (hf : M0.floor ≤ M0.nb.size) (hA : Row M0 A (Ints y)) (hn : n0 = y.length) (hb : n0 ≤ 1048576) {n m : Nat} (hn2 : n ≤ 1024) (hm : m ≤ 1048576) :
    ∀ (k i : Nat) (x : List Int) (Ao : Option Addr) (co : Nat) {M : Mem}, i + k = n → x.length = i → Within m x → Keep M0 M → Own (fun j => M0.nb.size ≤ j) M 3 Ao co (Ints x) →
      A12_1 A n0 c0 (n : Nat) (m : Nat) Ao i co (i : Nat) M fun v N => ∃ A' c' x, v = .slice A' n c' ∧ x.length = n ∧ Within m x ∧ Keep M0 N ∧ Own (fun j => M0.nb.size ≤ j) N 3 A' c' (Ints x)
  | 0, i, x, Ao, co, M, hi, hx, hw, K, hO => by
    obtain rfl : n = i := by omega
    exact w12_1 ⟨fun h => by omega, fun _ => ⟨Ao, co, x, rfl, hx, hw, K, hO⟩⟩
  | k + 1, i, x, Ao, co, M, hi, hx, hw, K, hO => by
    have e2 : IntKind.i64.wrap (IntKind.i64.wrap (2 * (m : Int)) + 1) = ((2 * m + 1 : Nat) : Int) := by rw [i64w (x := 2 * (m : Int)) (by omega), i64w (by omega)]; omega
    have go : ∀ v : Int, -9223372036854775808 ≤ v ∧ v ≤ 9223372036854775807 → Cn Try.prog 18 #[.int .i64 v, .int .i64 (IntKind.i64.wrap (IntKind.i64.wrap (2 * (m : Int)) + 1))] M fun v11' N11' =>
       ∃ x12', asI .i64 v11' = some x12' ∧
       ∃ r13', appendP Try.prog #[22, 22] (.slice Ao i co) (.slice (some ⟨2 * N11'.nb.size, 0, none⟩) 1 1) (N11'.new (.cells #[.int .i64 (IntKind.i64.wrap (x12' - (m : Int)))] 3)) = some r13' ∧
       ∃ s14', asS r13'.1 = some s14' ∧
       A12_1 A n0 c0 (n : Nat) (m : Nat) s14'.1 s14'.2.1 s14'.2.2 (IntKind.i64.wrap ((i : Int) + 1)) r13'.2 fun v N => ∃ A' c' x, v = .slice A' n c' ∧ x.length = n ∧ Within m x ∧ Keep M0 N ∧ Own (fun j => M0.nb.size ≤ j) N 3 A' c' (Ints x) := by
      intro v hv
      rw [e2]
      refine Cn.eq (c18 hv (by omega)) ⟨_, rfl, ?_⟩
      have hbr : 0 ≤ brg v ((2 * m + 1 : Nat) : Int) ∧ brg v ((2 * m + 1 : Nat) : Int) < ((2 * m + 1 : Nat) : Int) := by
        unfold brg; rw [if_neg (by omega)]
        exact ⟨Int.emod_nonneg _ (by omega), Int.emod_lt_of_pos _ (by omega)⟩
      generalize brg v ((2 * m + 1 : Nat) : Int) = b at hbr
      rw [i64w (x := b - (m : Int)) (by omega)]
      obtain ⟨A', c', N, g1, g2, g3, g4⟩ := app1 el22 hf K hO (n := i) (by rw [List.length_map, hx]) (v := .int .i64 (b - m)) rfl (by omega)
      refine ⟨_, g1, _, rfl, ?_⟩
      rw [i64w (by omega), show ((i : Int) + 1) = ((i + 1 : Nat) : Int) by omega]
      refine c12_loop hf hA hn hb hn2 hm k (i + 1) (x ++ [b - m]) A' c' (M := N) (by omega) (by simp [hx]) (fun v hv => ?_) g2 (by rw [Ints, List.map_append]; exact g3)
      rcases List.mem_append.1 hv with h | h
      · exact hw v h
      · rw [List.mem_singleton.1 h]; omega
    refine w12_1 ⟨fun _ => ⟨fun hpos => ?_, fun _ => go _ (wrap_i64_rng _)⟩, fun h => by omega⟩
    have hp : 0 < n0 := by omega
    have hmod : i % n0 < n0 := Nat.mod_lt _ hp
    refine ⟨_, binV_rem (by omega), _, rfl, ?_⟩
    rw [tmodN]
    obtain ⟨a, i1, i2⟩ := (hA.keep K).int1 (n := n0) (i := i % n0) (z := ((i % n0 : Nat) : Int)) (k := .i64) (x := gx y (i % n0)) rfl hmod (gx_at (by omega))
    exact ⟨_, i1, _, i2, _, binV_quo (by omega), _, rfl, go _ (wrap_i64_rng _)⟩
theorem c12 (hf : M0.floor ≤ M0.nb.size) (hA : Row M0 A (Ints y)) (hn : n0 = y.length) (hb : n0 ≤ 1048576) {n m : Nat} (hn2 : n ≤ 1024) (hm : m ≤ 1048576) :
    Cn Try.prog 12 #[.slice A n0 c0, .int .i64 (n : Nat), .int .i64 (m : Nat)] M0 fun v N => ∃ A' c' x, v = .slice A' n c' ∧ x.length = n ∧ Within m x ∧ Keep M0 N ∧ Own (fun j => M0.nb.size ≤ j) N 3 A' c' (Ints x) :=
  w12_0 (c12_loop hf hA hn hb hn2 hm n 0 [] none 0 (Nat.zero_add _) rfl (fun v h => by cases h) (.refl _) Own.empty)
end
theorem mayB_of {kind : Int} {x : List Int} {m : Nat} (hl : lenB kind x.length = true) (hm : m ≤ 1048576) (hx : Within m x) : mayB kind x = true := by
  unfold mayB
  rw [hl, Bool.true_and, List.all_eq_true]
  intro v hv
  have := hx v hv
  exact decide_eq_true (by omega)
theorem fresh_row {M : Mem} (L : List Int) : Row (M.new (.cells (Ints L).toArray 3)) (some ⟨2 * M.nb.size, 0, none⟩) (Ints L) := Row.new M 3 (Ints L)
theorem fb {M N : Mem} (hf : M.floor ≤ M.nb.size) (K : Keep M N) : N.floor ≤ N.nb.size := by rw [K.floor]; exact Nat.le_trans hf K.size
theorem fr (M : Mem) (L : List Int) {cs : Array Value} (h : (Ints L).toArray = cs) : ∃ N, M.new (.cells cs 3) = N ∧ Keep M N ∧ Row N (some ⟨2 * M.nb.size, 0, none⟩) (Ints L) := by
  subst h; exact ⟨_, rfl, .new _ _, fresh_row L⟩
theorem c11 {M : Mem} (hf : M.floor ≤ M.nb.size) : Cn Try.prog 11 #[] M fun v N => v = .bool true ∧ Keep M N := by
  refine w11_0 ?_
  have s1 := fresh_row (M := M) [0, 4096, 0, 0]
  have K0 : Keep M (M.new (.cells (Ints [0, 4096, 0, 0]).toArray 3)) := .new _ _
  refine Cn.mono (c14 (kind := 0) (x := [0, 4096, 0, 0]) (fb hf K0) s1 rfl (by decide)) ?_
  rw [show invQ 0 [0, 4096, 0, 0] = ([3784, 1567, -1567, -3784], 0) by decide +kernel]
  rintro v N ⟨A1, c1, rfl, K1, O1, _⟩
  have K01 := K0.trans K1
  have s2 := fresh_row (M := N) [4096, 0, 0, 0]
  have K2 : Keep N (N.new (.cells (Ints [4096, 0, 0, 0]).toArray 3)) := .new _ _
  refine ⟨_, rfl, _, rfl, _, rfl, Cn.mono (c14 (kind := 1) (x := [4096, 0, 0, 0]) (fb hf (K01.trans K2)) s2 rfl (by decide)) ?_⟩
  rw [show invQ 1 [4096, 0, 0, 0] = ([799, 2276, 3406, 4017], 0) by decide +kernel]
  rintro v N2 ⟨A2, c2, rfl, K3, O2, _⟩
  have K02 := (K01.trans K2).trans K3
  have s3 := fresh_row (M := N2) [1, 2, 3, 4]
  have K4 : Keep N2 (N2.new (.cells (Ints [1, 2, 3, 4]).toArray 3)) := .new _ _
  refine ⟨_, rfl, _, rfl, _, rfl, Cn.mono (c13 (kind := 3) (x := [1, 2, 3, 4]) (fb hf (K02.trans K4)) s3 rfl (by decide)) ?_⟩
  rw [show fwdQ 3 [1, 2, 3, 4] = ([5, -2, 0, -1], 0) by decide +kernel]
  rintro v N3 ⟨A3, c3, rfl, K5, O3, _⟩
  have K03 := (K02.trans K4).trans K5
  have s4 := fresh_row (M := N3) [5, 5, 5, 5, 5, 5, 5, 5]
  have K6 : Keep N3 (N3.new (.cells (Ints [5, 5, 5, 5, 5, 5, 5, 5]).toArray 3)) := .new _ _
  refine ⟨_, rfl, _, rfl, _, rfl, Cn.mono (c13 (kind := 2) (x := [5, 5, 5, 5, 5, 5, 5, 5]) (fb hf (K03.trans K6)) s4 rfl (by decide)) ?_⟩
  rw [show fwdQ 2 [5, 5, 5, 5, 5, 5, 5, 5] = ([10, 10, 10, 10, 10, 10, 10, 10], 0) by decide +kernel]
  rintro v N4 ⟨A4, c4, rfl, K7, O4, _⟩
  have K04 := (K03.trans K6).trans K7
  have R1 := ((((((O1.row.keep K2).keep K3).keep K4).keep K5).keep K6).keep K7)
  have R2 := ((((O2.row.keep K4).keep K5).keep K6).keep K7)
  have R3 := ((O3.row.keep K6).keep K7)
  refine ⟨_, rfl, _, rfl, _, rfl, fun _ => w11_1 ⟨fun _ => w11_2 ⟨fun _ => w11_3 ⟨fun _ => ?_, fun h => (by cases h)⟩, fun h => (by cases h)⟩, fun h => (by cases h)⟩, fun h => absurd rfl h⟩
  obtain ⟨P1, e1, E1, F1⟩ := fr N4 [3784, 1567, -1567, -3784] (cs := #[.int .i64 3784, .int .i64 1567, .int .i64 (-1567), .int .i64 (-3784)]) rfl
  rw [e1]
  refine Cn.eq (c15 (n := 4) (m := 4) (R1.keep E1) F1 rfl rfl (by decide)) ⟨_, rfl, w11_4 ⟨fun _ => ?_, fun h => (by cases h)⟩⟩
  obtain ⟨P2, e2, E2, F2⟩ := fr P1 [799, 2276, 3406, 4017] (cs := #[.int .i64 799, .int .i64 2276, .int .i64 3406, .int .i64 4017]) rfl
  rw [e2]
  refine Cn.eq (c15 (n := 4) (m := 4) ((R2.keep E1).keep E2) F2 rfl rfl (by decide)) ⟨_, rfl, w11_5 ⟨fun _ => ?_, fun h => (by cases h)⟩⟩
  obtain ⟨P3, e3, E3, F3⟩ := fr P2 [5, -2, 0, -1] (cs := #[.int .i64 5, .int .i64 (-2), .int .i64 0, .int .i64 (-1)]) rfl
  rw [e3]
  refine Cn.eq (c15 (n := 4) (m := 4) (((R3.keep E1).keep E2).keep E3) F3 rfl rfl (by decide)) ⟨_, rfl, w11_6 ⟨fun _ => ?_, fun h => (by cases h)⟩⟩
  obtain ⟨P4, e4, E4, F4⟩ := fr P3 [10, 10, 10, 10, 10, 10, 10, 10] (cs := #[.int .i64 10, .int .i64 10, .int .i64 10, .int .i64 10, .int .i64 10, .int .i64 10, .int .i64 10, .int .i64 10]) rfl
  rw [e4]
  refine Cn.eq (c15 (n := 8) (m := 8) ((((O4.row.keep E1).keep E2).keep E3).keep E4) F4 rfl rfl (by decide)) ⟨_, rfl, rfl, (((K04.trans E1).trans E2).trans E3).trans E4⟩
theorem sees_ints {P : Program} {M : Mem} {B k : Nat} {t e : TypeId} (hu : P.underlying t = some (.slice e)) (he : P.underlying e = some (.int .i64)) {r : List Value} (h : Sees P M B (k + 2) t r) :
    ∃ A n c, ∃ l : List Int, r = [.slice A n c] ∧ n = l.length ∧ n ≤ c ∧ n ≤ B ∧ Row M A (Ints l) ∧ ∀ x ∈ l, (Lit.int IntKind.i64 x).wf = true := by
  obtain ⟨A, n, c, l, rfl, h1, h2, h3, h4, h5, h6, h7⟩ := sees_slice (f := fun x : Int => [Value.int .i64 x]) (good := fun x => (Lit.int IntKind.i64 x).wf = true) (e := e) hu h fun r hr => by
    obtain ⟨x, e, hx⟩ := sees_int (q := .i64) he hr
    exact ⟨x, e, hx⟩
  exact ⟨A, n, c, l, rfl, h1, h2, h3, by rw [Ints, List.map_eq_flatMap]; exact h6, h7⟩
end Go.Zt
