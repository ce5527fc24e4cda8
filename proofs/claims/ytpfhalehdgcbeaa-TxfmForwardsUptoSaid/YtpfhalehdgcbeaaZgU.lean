/- Layer 7: the reference's transforms, both ways. -/
import Derived.Test.YtpfhalehdgcbeaaZgT
import Derived.Test.YtpfhalehdgcbeaaZgM
set_option linter.unusedSimpArgs false
set_option linter.unusedVariables false
namespace Go.Zt
open Go Go.Sim Go.Proofs Go.RowKit

/-- The weights, as told: none for the fourth kind. -/
def WtR (M : Mem) (kind n : Nat) (A : Option Addr) (lm : Nat) : Prop :=
  (kind = 3 ∧ lm = 0) ∨ (kind < 3 ∧ lm = n ∧ ∃ As, Row M A (Sls n As) ∧ As.length = n ∧ Mat M n (wS kind n) As)
theorem WtR.keep {M N : Mem} {kind n : Nat} {A : Option Addr} {lm : Nat} (h : WtR M kind n A lm) (k : Keep M N) : WtR N kind n A lm := by
  rcases h with h | ⟨h1, h2, As, h3, h4, h5⟩
  · exact .inl h
  · exact .inr ⟨h1, h2, As, h3.keep k, h4, h5.keep k⟩
theorem lenB_kind {kind : Int} {n : Nat} (h : lenB kind n = true) : 0 ≤ kind ∧ kind ≤ 3 := by
  unfold lenB at h
  repeat' split at h
  all_goals first | (cases h; done) | omega
theorem c39 {M : Mem} (hf : M.floor ≤ M.nb.size) {kind n : Nat} (hl : lenB (kind : Nat) n = true) :
    Cn Try.prog 39 #[.int .i64 (kind : Nat), .int .i64 (n : Nat)] M fun v N => ∃ A lm c, v = .slice A lm c ∧ Keep M N ∧ WtR N kind n A lm := by
  have hk := lenB_kind hl
  refine w39_0 ⟨fun h => ⟨none, 0, 0, rfl, .refl _, .inl ⟨by omega, rfl⟩⟩, fun h => Cn.mono (c55 hf (by omega) hl) ?_⟩
  rintro _ N ⟨A, c, As, rfl, K, h1, h2, h3⟩
  exact ⟨_, rfl, A, n, c, rfl, K, .inr ⟨by omega, rfl, As, h1, h2, h3⟩⟩
section
variable {M0 : Mem} {A X : Option Addr} {n c cm : Nat} {x : List Int} {kind : Nat} {As : List (Option Addr)}
/-- A weight is read. -/
theorem wt_at {M : Mem} (hR : Row M A (Sls n As)) (hl : As.length = n) (hM : Mat M n (wS kind n) As) {k i : Nat} (hk : k < n) (hi : i < n) :
    ∃ a, idxA A n 1 (k : Nat) = some a ∧ ∃ s, M.slAt a.block a.off = some s ∧ ∃ b, idxA s.1 s.2.1 1 (i : Nat) = some b ∧ M.intAt .i64 b.block b.off = some (wS kind n k i) := by
  obtain ⟨a, h1, h2⟩ := hR.elt1 (n := n) (i := k) (z := k) rfl hk (by rw [List.length_map, hl]; exact hk)
  have e : (Sls n As)[k]? = some (.slice As[k] n n) := by rw [List.getElem?_map, List.getElem?_eq_getElem (by omega)]; rfl
  obtain ⟨b, h3, h4⟩ := (hM k (by omega)).row.int1 (n := n) (i := i) (z := i) (k := .i64) (x := wS kind n k i) rfl hi (by rw [List.getElem?_map, List.getElem?_map, List.getElem?_range hi]; rfl)
  exact ⟨a, h1, _, cell_sl (h2.trans e), b, h3, h4⟩
theorem mul_bd (hx : x.all near = true) {j k i : Nat} : -((1048576 * 16384 : Nat) : Int) ≤ gx x j * wS kind n k i ∧ gx x j * wS kind n k i ≤ ((1048576 * 16384 : Nat) : Int) :=
  mulb (A := 1048576) (gx_near hx j) (wS_b ..)
theorem dot_bd (h64 : n ≤ 64) {f : Nat → Int} {m : Nat} (hm : m ≤ n) (h : ∀ i, i < m → -((1048576 * 16384 : Nat) : Int) ≤ f i ∧ f i ≤ ((1048576 * 16384 : Nat) : Int)) : -1099511627776 ≤ dot f m ∧ dot f m ≤ 1099511627776 := by
  have h1 := dot_b h
  have h2 : m * (1048576 * 16384) ≤ 1099511627776 := by omega
  generalize m * (1048576 * 16384) = q at h1 h2
  omega
theorem fdiv12 {v : Int} : v.fdiv (2 ^ 12) = v / 4096 := by
  rw [Int.fdiv_eq_ediv_of_nonneg v (by decide : (0 : Int) ≤ 2 ^ 12)]; rfl
theorem fdiv1 {v : Int} : v.fdiv (2 ^ 1) = v / 2 := by
  rw [Int.fdiv_eq_ediv_of_nonneg v (by decide : (0 : Int) ≤ 2 ^ 1)]; rfl
/-- What a transform of the reference tells. -/
abbrev Told (M0 : Mem) (L : List Int) : Value → Mem → Prop := fun v N => ∃ B d, v = .slice B L.length d ∧ Keep M0 N ∧ Own (fun j => M0.nb.size ≤ j) N 3 B d (Ints L)
theorem c47_in (hX : Row M0 X (Ints x)) (hxl : x.length = n) (hx : x.all near = true) (h64 : n ≤ 64) (hR : Row M0 A (Sls n As)) (hl : As.length = n) (hM : Mat M0 n (wS kind n) As)
    {B : Option Addr} {k : Nat} (hk : k < n) {M : Mem} (K : Keep M0 M) {Q : Value → Mem → Prop}
    (hE : ∃ a, idxA B n 1 (k : Nat) = some a ∧ ∃ M', M.put a.block a.off (.int .i64 (fwdK kind x k)) = some M' ∧ A47_1 A n cm X n c (n : Nat) B n n ((k + 1 : Nat) : Int) M' Q) :
    ∀ (m j : Nat), j + m = n → A47_2 A n cm X n c (n : Nat) B n n (k : Nat) (2048 + dot (fun j => gx x j * wS kind n k j) j) (j : Nat) M Q := by
  intro m
  induction m with
  | zero =>
    intro j hj
    obtain rfl : n = j := by omega
    obtain ⟨a, h1, M', h2, h3⟩ := hE
    refine w47_2 ⟨fun h => by omega, fun _ => ⟨a, h1, M', ?_, ?_⟩⟩
    · rw [fdiv12]
      have e : (2048 + dot (fun j => gx x j * wS kind n k j) n) / 4096 = fwdK kind x k := by unfold fwdK rnd; rw [hxl, Int.add_comm]
      rw [e]; exact h2
    · rw [i64w (by omega), show ((k : Int) + 1) = ((k + 1 : Nat) : Int) by omega]; exact h3
  | succ m ih =>
    intro j hj
    obtain ⟨b, j1, j2⟩ := (hX.keep K).int1 (n := n) (i := j) (z := j) (k := .i64) (x := gx x j) rfl (by omega) (gx_at (by omega))
    obtain ⟨a, h1, s, h2, d, h3, h4⟩ := wt_at (hR.keep K) hl (hM.keep K) hk (i := j) (by omega)
    refine w47_2 ⟨fun _ => ⟨_, j1, _, j2, a, h1, s, h2, d, h3, _, h4, ?_⟩, fun h => by omega⟩
    have b1 := mul_bd (n := n) (kind := kind) hx (j := j) (k := k) (i := j)
    have b2 := dot_bd (n := n) h64 (m := j) (by omega) (f := fun j => gx x j * wS kind n k j) fun i _ => mul_bd hx
    have b3 := dot_bd (n := n) h64 (m := j + 1) (by omega) (f := fun j => gx x j * wS kind n k j) fun i _ => mul_bd hx
    have e : IntKind.i64.wrap (2048 + dot (fun j => gx x j * wS kind n k j) j + IntKind.i64.wrap (gx x j * wS kind n k j)) = 2048 + dot (fun j => gx x j * wS kind n k j) (j + 1) := by
      simp only [dot] at b3 ⊢
      generalize gx x j * wS kind n k j = p at b1 b3 ⊢
      rw [i64w (x := p) (by omega), i64w (by omega)]; omega
    rw [e, i64w (x := (j : Int) + 1) (by omega), show ((j : Int) + 1) = ((j + 1 : Nat) : Int) by omega]
    exact ih (j + 1) (by omega)
theorem c47 (hf : M0.floor ≤ M0.nb.size) {lm : Nat} (hW : WtR M0 kind n A lm) (hX : Row M0 X (Ints x)) (hxl : x.length = n) (hl : lenB (kind : Nat) n = true) (hx : x.all near = true) :
    Cn Try.prog 47 #[.slice A lm cm, .slice X n c] M0 (Told M0 (fwdS kind x)) := by
  have h64 := lenB_le hl
  rcases hW with ⟨rfl, rfl⟩ | ⟨hk3, rfl, As, hR, hAl, hM⟩
  · have h4 : n = 4 := by unfold lenB at hl; simpa using hl
    subst h4
    refine w47_0 ⟨fun _ => ?_, fun h => absurd rfl h⟩
    have rd : ∀ i : Nat, i < 4 → ∃ a, idxA X 4 1 (i : Nat) = some a ∧ M0.intAt .i64 a.block a.off = some (gx x i) := fun i hi => hX.int1 rfl hi (gx_at (by omega))
    obtain ⟨a0, p0, q0⟩ := rd 0 (by decide)
    obtain ⟨a1, p1, q1⟩ := rd 1 (by decide)
    obtain ⟨a2, p2, q2⟩ := rd 2 (by decide)
    obtain ⟨a3, p3, q3⟩ := rd 3 (by decide)
    refine ⟨a0, p0, _, q0, a1, p1, _, q1, a2, p2, _, q2, a3, p3, _, q3, ?_⟩
    have n0 := gx_near hx 0
    have n1 := gx_near hx 1
    have n2 := gx_near hx 2
    have n3 := gx_near hx 3
    have e : fwdS 3 x = forthS (gx x 0) (gx x 1) (gx x 2) (gx x 3) := rfl
    rw [e]
    generalize gx x 0 = a at *
    generalize gx x 1 = b at *
    generalize gx x 2 = c' at *
    generalize gx x 3 = d at *
    rw [i64w (x := a + b) (by omega), i64w (x := d - c') (by omega), i64w (x := a + b - (d - c')) (by omega), fdiv1, forth_e rfl]
    have h2 : 2 * ((a + b - (d - c')) / 2) ≤ a + b - (d - c') ∧ a + b - (d - c') ≤ 2 * ((a + b - (d - c')) / 2) + 1 := by omega
    generalize (a + b - (d - c')) / 2 = e at h2 ⊢
    rw [i64w (x := e - c') (by omega), i64w (x := e - b) (by omega), i64w (x := a + b - (e - c')) (by omega), i64w (x := d - c' + (e - b)) (by omega)]
    exact ⟨_, _, rfl, .new _ _, Own.fresh (L := Ints [a + b - (e - c'), e - c', d - c' + (e - b), e - b]) (Nat.le_refl _)⟩
  · refine w47_0 ⟨fun h => by omega, fun _ => ?_⟩
    obtain ⟨B, M1, g1, g2, g3⟩ := made (M1 := M0) (n := lm) h64.2
    refine ⟨_, g1, _, rfl, ?_⟩
    rw [zeros, ← twoF_0 (f := fwdK kind x)] at g3
    have es : fwdS kind x = (List.range lm).map (fwdK kind x) := by unfold fwdS; rw [if_neg (by omega), hxl]
    have loop : ∀ (m k : Nat) {M : Mem}, k + m = lm → Keep M0 M → Own (fun j => M0.nb.size ≤ j) M 3 B lm (Ints (twoF (fwdK kind x) (fun _ => 0) lm k)) → A47_1 A lm cm X lm c (lm : Nat) B lm lm (k : Nat) M (Told M0 (fwdS kind x)) := by
      intro m
      induction m with
      | zero =>
        intro k M hk K hO
        obtain rfl : lm = k := by omega
        rw [twoF_n, ← es] at hO
        refine w47_1 ⟨fun h => by omega, fun _ => ⟨B, lm, ?_, K, hO⟩⟩
        rw [es]; simp
      | succ m ih =>
        intro k M hk K hO
        refine w47_1 ⟨fun _ => c47_in hX hxl hx h64.2 hR hAl hM (by omega) K ?_ lm 0 (Nat.zero_add _), fun h => by omega⟩
        obtain ⟨a, p1, M', p2, p3, p4, p5⟩ := hO.put1 (fun j hj => by rw [K.floor]; exact Nat.le_trans hf hj) (n := lm) (i := k) (z := (k : Nat)) (v := .int .i64 (fwdK kind x k)) rfl (by omega) (by rw [List.length_map, twoF_len]; omega) rfl
        rw [twoF_set] at p5
        exact ⟨a, p1, M', p2, ih (k + 1) (by omega) (Keep.step K p3 fun j hj => hj) p5⟩
    exact loop lm 0 (Nat.zero_add _) g2 g3
end
end Go.Zt

