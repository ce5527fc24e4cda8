/- Layer 7: the reference's transform back; BasisTurns. -/
import Derived.Test.YtpfhalehdgcbeaaZgU
set_option linter.unusedSimpArgs false
set_option linter.unusedVariables false
namespace Go.Zt
open Go Go.Sim Go.Proofs Go.RowKit

section
variable {M0 : Mem} {A X : Option Addr} {n c cm : Nat} {x : List Int} {kind : Nat} {As : List (Option Addr)}
/-- A sum over the first rows. -/
def dK (kind n : Nat) (x : List Int) (k i : Nat) : Int := dot (fun k => gx x k * wS kind n k i) k
theorem dK_b (hx : x.all near = true) (h64 : n ≤ 64) {k i : Nat} (hk : k ≤ n) : -1099511627776 ≤ dK kind n x k i ∧ dK kind n x k i ≤ 1099511627776 := dot_bd h64 hk fun j _ => mul_bd hx
theorem dK_succ {k i : Nat} : dK kind n x (k + 1) i = dK kind n x k i + gx x k * wS kind n k i := rfl
theorem c41_in (hf : M0.floor ≤ M0.nb.size) (hX : Row M0 X (Ints x)) (hxl : x.length = n) (hx : x.all near = true) (h64 : n ≤ 64) (hR : Row M0 A (Sls n As)) (hl : As.length = n) (hM : Mat M0 n (wS kind n) As)
    {B : Option Addr} {k : Nat} (hk : k < n) {Q : Value → Mem → Prop}
    (hE : ∀ M, Keep M0 M → Own (fun j => M0.nb.size ≤ j) M 3 B n (Ints ((List.range n).map (dK kind n x (k + 1)))) → A41_1 A n cm X n c (n : Nat) B n n ((k + 1 : Nat) : Int) M Q) :
    ∀ (m i : Nat) {M : Mem}, i + m = n → Keep M0 M → Own (fun j => M0.nb.size ≤ j) M 3 B n (Ints (twoF (dK kind n x (k + 1)) (dK kind n x k) n i)) → A41_3 A n cm X n c (n : Nat) B n n (k : Nat) (i : Nat) M Q := by
  intro m
  induction m with
  | zero =>
    intro i M hi K hO
    obtain rfl : n = i := by omega
    rw [twoF_n] at hO
    refine w41_3 ⟨fun h => by omega, fun _ => w41_2 ?_⟩
    rw [i64w (by omega), show ((k : Int) + 1) = ((k + 1 : Nat) : Int) by omega]
    exact hE M K hO
  | succ m ih =>
    intro i M hi K hO
    obtain ⟨o, o1, o2⟩ := hO.row.int1 (n := n) (i := i) (z := i) (k := .i64) (x := dK kind n x k i) rfl (by omega) (twoF_at (by omega))
    obtain ⟨b, j1, j2⟩ := (hX.keep K).int1 (n := n) (i := k) (z := k) (k := .i64) (x := gx x k) rfl (by omega) (gx_at (by omega))
    obtain ⟨a, h1, s, h2, d, h3, h4⟩ := wt_at (hR.keep K) hl (hM.keep K) hk (i := i) (by omega)
    obtain ⟨q, p1, M', p2, p3, p4, p5⟩ := hO.put1 (fun j hj => by rw [K.floor]; exact Nat.le_trans hf hj) (n := n) (i := i) (z := (i : Nat)) (v := .int .i64 (dK kind n x (k + 1) i)) rfl (by omega) (by rw [List.length_map, twoF_len]; omega) rfl
    rw [twoF_set] at p5
    have b1 := mul_bd (n := n) (kind := kind) hx (j := k) (k := k) (i := i)
    have b2 := dK_b (kind := kind) hx h64 (k := k) (i := i) (by omega)
    have b3 := dK_b (kind := kind) hx h64 (k := k + 1) (i := i) (by omega)
    have e : IntKind.i64.wrap (dK kind n x k i + IntKind.i64.wrap (gx x k * wS kind n k i)) = dK kind n x (k + 1) i := by
      rw [dK_succ] at b3 ⊢
      generalize gx x k * wS kind n k i = p at b1 b3 ⊢
      rw [i64w (x := p) (by omega), i64w (by omega)]
    refine w41_3 ⟨fun _ => ⟨_, o1, _, o2, _, j1, _, j2, a, h1, s, h2, d, h3, _, h4, _, p1, M', by rw [e]; exact p2, ?_⟩, fun h => by omega⟩
    rw [i64w (x := (i : Int) + 1) (by omega), show ((i : Int) + 1) = ((i + 1 : Nat) : Int) by omega]
    exact ih (i + 1) (by omega) (Keep.step K p3 fun j hj => hj) p5
theorem c41_end (hf : M0.floor ≤ M0.nb.size) (hxl : x.length = n) (hx : x.all near = true) (h64 : n ≤ 64) {B : Option Addr} {Q : Value → Mem → Prop}
    (hQ : ∀ M, Keep M0 M → Own (fun j => M0.nb.size ≤ j) M 3 B n (Ints ((List.range n).map (invK kind x))) → Q (.slice B n n) M) :
    ∀ (m i : Nat) {M : Mem}, i + m = n → Keep M0 M → Own (fun j => M0.nb.size ≤ j) M 3 B n (Ints (twoF (invK kind x) (dK kind n x n) n i)) → A41_4 (n : Nat) B n n (i : Nat) M Q := by
  intro m
  induction m with
  | zero =>
    intro i M hi K hO
    obtain rfl : n = i := by omega
    rw [twoF_n] at hO
    exact w41_4 ⟨fun h => by omega, fun _ => hQ M K hO⟩
  | succ m ih =>
    intro i M hi K hO
    obtain ⟨o, o1, o2⟩ := hO.row.int1 (n := n) (i := i) (z := i) (k := .i64) (x := dK kind n x n i) rfl (by omega) (twoF_at (by omega))
    obtain ⟨q, p1, M', p2, p3, p4, p5⟩ := hO.put1 (fun j hj => by rw [K.floor]; exact Nat.le_trans hf hj) (n := n) (i := i) (z := (i : Nat)) (v := .int .i64 (invK kind x i)) rfl (by omega) (by rw [List.length_map, twoF_len]; omega) rfl
    rw [twoF_set] at p5
    have b2 := dK_b (kind := kind) hx h64 (k := n) (i := i) (Nat.le_refl _)
    have e : (IntKind.i64.wrap (dK kind n x n i + 2048)).fdiv (2 ^ 12) = invK kind x i := by
      rw [i64w (by omega), fdiv12]; unfold invK rnd dK; rw [hxl]
    refine w41_4 ⟨fun _ => ⟨_, o1, _, o2, _, p1, M', by rw [e]; exact p2, ?_⟩, fun h => by omega⟩
    rw [i64w (x := (i : Int) + 1) (by omega), show ((i : Int) + 1) = ((i + 1 : Nat) : Int) by omega]
    exact ih (i + 1) (by omega) (Keep.step K p3 fun j hj => hj) p5
theorem c41 (hf : M0.floor ≤ M0.nb.size) {lm : Nat} (hW : WtR M0 kind n A lm) (hX : Row M0 X (Ints x)) (hxl : x.length = n) (hl : lenB (kind : Nat) n = true) (hx : x.all near = true) :
    Cn Try.prog 41 #[.slice A lm cm, .slice X n c] M0 (Told M0 (invS kind x)) := by
  have h64 := lenB_le hl
  rcases hW with ⟨rfl, rfl⟩ | ⟨hk3, rfl, As, hR, hAl, hM⟩
  · have h4 : n = 4 := by unfold lenB at hl; simpa using hl
    subst h4
    refine w41_0 ⟨fun _ => ?_, fun h => absurd rfl h⟩
    have rd : ∀ i : Nat, i < 4 → ∃ a, idxA X 4 1 (i : Nat) = some a ∧ M0.intAt .i64 a.block a.off = some (gx x i) := fun i hi => hX.int1 rfl hi (gx_at (by omega))
    obtain ⟨a0, p0, q0⟩ := rd 0 (by decide)
    obtain ⟨a1, p1, q1⟩ := rd 1 (by decide)
    obtain ⟨a2, p2, q2⟩ := rd 2 (by decide)
    obtain ⟨a3, p3, q3⟩ := rd 3 (by decide)
    refine ⟨a0, p0, _, q0, a1, p1, _, q1, a2, p2, _, q2, a3, p3, _, q3, ?_⟩
    have n0 := gx_near hx 0
    have n1 := gx_near hx 1
    have n2 := gx_near hx 2
    have n3 := gx_near hx 3
    have e : invS 3 x = backS (gx x 0) (gx x 1) (gx x 2) (gx x 3) := rfl
    rw [e]
    generalize gx x 0 = a at *
    generalize gx x 1 = b at *
    generalize gx x 2 = c' at *
    generalize gx x 3 = d at *
    rw [i64w (x := a + b) (by omega), i64w (x := c' - d) (by omega), i64w (x := a + b - (c' - d)) (by omega), fdiv1, back_e rfl]
    have h2 : 2 * ((a + b - (c' - d)) / 2) ≤ a + b - (c' - d) ∧ a + b - (c' - d) ≤ 2 * ((a + b - (c' - d)) / 2) + 1 := by omega
    generalize (a + b - (c' - d)) / 2 = e at h2 ⊢
    rw [i64w (x := e - d) (by omega), i64w (x := e - b) (by omega), i64w (x := a + b - (e - d)) (by omega), i64w (x := c' - d + (e - b)) (by omega)]
    exact ⟨_, _, rfl, .new _ _, Own.fresh (L := Ints [a + b - (e - d), e - d, e - b, c' - d + (e - b)]) (Nat.le_refl _)⟩
  · refine w41_0 ⟨fun h => by omega, fun _ => ?_⟩
    obtain ⟨B, M1, g1, g2, g3⟩ := made (M1 := M0) (n := lm) h64.2
    refine ⟨_, g1, _, rfl, ?_⟩
    rw [zeros] at g3
    have es : invS kind x = (List.range lm).map (invK kind x) := by unfold invS; rw [if_neg (by omega), hxl]
    have loop : ∀ (m k : Nat) {M : Mem}, k + m = lm → Keep M0 M → Own (fun j => M0.nb.size ≤ j) M 3 B lm (Ints ((List.range lm).map (dK kind lm x k))) → A41_1 A lm cm X lm c (lm : Nat) B lm lm (k : Nat) M (Told M0 (invS kind x)) := by
      intro m
      induction m with
      | zero =>
        intro k M hk K hO
        obtain rfl : lm = k := by omega
        rw [← twoF_0 (f := invK kind x)] at hO
        refine w41_1 ⟨fun h => by omega, fun _ => c41_end hf hxl hx h64.2 (fun M K hO => ⟨B, lm, ?_, K, by rw [es]; exact hO⟩) lm 0 (Nat.zero_add _) K hO⟩
        rw [es]; simp
      | succ m ih =>
        intro k M hk K hO
        obtain ⟨b, j1, j2⟩ := (hX.keep K).int1 (n := lm) (i := k) (z := k) (k := .i64) (x := gx x k) rfl (by omega) (gx_at (by omega))
        refine w41_1 ⟨fun _ => ⟨_, j1, _, j2, fun h => w41_2 ?_, fun _ => ?_⟩, fun h => by omega⟩
        · rw [i64w (by omega), show ((k : Int) + 1) = ((k + 1 : Nat) : Int) by omega]
          refine ih (k + 1) (by omega) K ?_
          have e : dK kind lm x (k + 1) = dK kind lm x k := by funext i; rw [dK_succ, h, Int.zero_mul, Int.add_zero]
          rw [e]; exact hO
        · rw [← twoF_0 (f := dK kind lm x (k + 1))] at hO
          exact c41_in hf hX hxl hx h64.2 hR hAl hM (by omega) (fun M K hO => ih (k + 1) (by omega) K hO) lm 0 (Nat.zero_add _) K hO
    exact loop lm 0 (Nat.zero_add _) g2 g3
end
theorem own_len {S : Nat → Prop} {M : Mem} {e : TypeId} {A : Option Addr} {c : Nat} {L : List Value} (h : Own S M e A c L) : L.length ≤ c := by
  rcases h with ⟨_, rfl, rfl⟩ | ⟨_, _, _, _, _, _, _, _, h, _⟩
  · exact Nat.le_refl _
  · exact h
section
variable {M : Mem} {A : Option Addr} {n c : Nat} {x : List Int} {kind : Int}
end
end Go.Zt

