/- Layer 7: BasisBounded. -/
import Derived.Test.YtfaecnhaponcdaaZfI
import Derived.Test.YtfaecnhaponcdaaZfDe
set_option linter.unusedSimpArgs false
set_option linter.unusedVariables false
namespace Go.Zt
open Go Go.Sim Go.Proofs Go.RowKit

/-- The lengths that a kind is asked at. -/
def lensN (k : Nat) : List Nat := if k = 0 then [4, 8, 16, 32, 64] else if k = 1 then [4, 8, 16] else [4, 8, 16, 32]
def lensI (k : Nat) : List Int := (lensN k).map fun (n : Nat) => (n : Int)
theorem lensI_len (k : Nat) : (lensI k).length = (lensN k).length := by simp [lensI]
theorem lens_b (k : Nat) : 3 ≤ (lensN k).length ∧ (lensN k).length ≤ 5 := by
  unfold lensN; split
  · decide
  split <;> decide
theorem lens_ok {k j n : Nat} (h : k < 3 ∨ k = 3 ∧ j = 0) (hj : (lensN k)[j]? = some n) : lenB (k : Nat) n = true := by
  rcases Nat.lt_or_ge j 5 with h5 | h5
  · have e : (∀ k : Fin 4, ∀ j : Fin 5, (k.val < 3 ∨ k.val = 3 ∧ j.val = 0) → ((lensN k.val)[j.val]?.all fun n => lenB (k.val : Nat) n) = true) := by decide
    have := e ⟨k, by omega⟩ ⟨j, h5⟩ h
    dsimp only at this
    rw [hj] at this; exact this
  · have := lens_b k
    rw [List.getElem?_eq_none (by omega)] at hj; cases hj
theorem c16 {k : Nat} {M : Mem} (hf : M.floor ≤ M.nb.size) : Cn Try.prog 16 #[.int .i64 (k : Nat)] M fun v N => ∃ A, v = .slice A (lensN k).length (lensN k).length ∧ Keep M N ∧ Row N A (Ints (lensI k)) := by
  have go : ∀ {L : List Nat} {cs : Array Value}, lensN k = L → (Ints (L.map fun (n : Nat) => (n : Int))).toArray = cs → ∃ A, (Value.slice (some ⟨2 * M.nb.size, 0, none⟩) L.length L.length) = .slice A (lensN k).length (lensN k).length ∧ Keep M (M.new (.cells cs 3)) ∧ Row (M.new (.cells cs 3)) A (Ints (lensI k)) := by
    intro L cs h hcs
    subst hcs
    refine ⟨_, by rw [h], .new _ _, ?_⟩
    unfold lensI; rw [h]; exact fresh_row _
  refine w16_0 ⟨fun h => ?_, fun h => ⟨fun h2 => ?_, fun h2 => ?_⟩⟩
  · exact go (L := [4, 8, 16, 32, 64]) (by unfold lensN; rw [if_pos (by omega)]) rfl
  · exact go (L := [4, 8, 16]) (by unfold lensN; rw [if_neg (by omega), if_pos (by omega)]) rfl
  · exact go (L := [4, 8, 16, 32]) (by unfold lensN; rw [if_neg (by omega), if_neg (by omega)]) rfl
theorem gx_within {m : Nat} {x : List Int} (h : Within m x) (i : Nat) : -(m : Int) ≤ gx x i ∧ gx x i ≤ m := by
  unfold gx
  rcases Nat.lt_or_ge i x.length with hi | hi
  · rw [List.getD_eq_getElem?_getD, List.getElem?_eq_getElem hi]; exact h _ (List.getElem_mem hi)
  · rw [List.getD_eq_getElem?_getD, List.getElem?_eq_none hi]
    show -(m : Int) ≤ 0 ∧ (0 : Int) ≤ m
    omega
theorem rnd_b {f : Nat → Int} {n : Nat} (hn : n ≤ 64) (h : ∀ i, i < n → -((32768 * 16384 : Nat) : Int) ≤ f i ∧ f i ≤ ((32768 * 16384 : Nat) : Int)) : -(8388608 : Int) ≤ rnd (dot f n) ∧ rnd (dot f n) ≤ 8388608 := by
  have h1 := dot_b h
  have h2 : n * (32768 * 16384) ≤ 34359738368 := by omega
  unfold rnd
  generalize n * (32768 * 16384) = q at h1 h2
  omega
def Inn (y : List Int) : Prop := ∀ v ∈ y, -(8388608 : Int) ≤ v ∧ v ≤ 8388608
theorem inn_map {n : Nat} {f : Nat → Int} (h : ∀ i, i < n → -(8388608 : Int) ≤ f i ∧ f i ≤ 8388608) : Inn ((List.range n).map f) := by
  intro v hv
  obtain ⟨i, hi, rfl⟩ := List.mem_map.1 hv
  exact h i (List.mem_range.1 hi)
theorem inn4 {a b c d : Int} (h1 : -(8388608 : Int) ≤ a ∧ a ≤ 8388608) (h2 : -(8388608 : Int) ≤ b ∧ b ≤ 8388608) (h3 : -(8388608 : Int) ≤ c ∧ c ≤ 8388608) (h4 : -(8388608 : Int) ≤ d ∧ d ≤ 8388608) : Inn [a, b, c, d] := by
  intro v hv
  simp only [List.mem_cons, List.not_mem_nil, or_false] at hv
  rcases hv with rfl | rfl | rfl | rfl
  · exact h1
  · exact h2
  · exact h3
  · exact h4
theorem bounded {k : Nat} {x : List Int} (hl : lenB (k : Nat) x.length = true) (hx : Within 32768 x) :
    (∃ y, fwdQ (k : Nat) x = (y, 0) ∧ y.length = x.length ∧ Inn y) ∧ (∃ y, invQ (k : Nat) x = (y, 0) ∧ y.length = x.length ∧ Inn y) := by
  have hm := mayB_of hl (by decide) hx
  have h64 := lenB_le hl
  unfold fwdQ invQ
  rw [hm, Int.toNat_natCast]
  refine ⟨⟨_, rfl, ?_⟩, ⟨_, rfl, ?_⟩⟩
  · unfold fwdS
    split
    · rename_i h3
      subst h3
      have h4 : x.length = 4 := by have := hl; unfold lenB at this; simpa using this
      have a0 := gx_within hx 0
      have a1 := gx_within hx 1
      have a2 := gx_within hx 2
      have a3 := gx_within hx 3
      refine ⟨by rw [h4]; rfl, ?_⟩
      generalize gx x 0 = a at *
      generalize gx x 1 = b at *
      generalize gx x 2 = c at *
      generalize gx x 3 = d at *
      rw [forth_e rfl]
      have h2 : 2 * ((a + b - (d - c)) / 2) ≤ a + b - (d - c) ∧ a + b - (d - c) ≤ 2 * ((a + b - (d - c)) / 2) + 1 := by omega
      generalize (a + b - (d - c)) / 2 = e at h2 ⊢
      exact inn4 (by omega) (by omega) (by omega) (by omega)
    · exact ⟨by simp, inn_map fun j _ => rnd_b h64.2 fun i _ => mulb (gx_within hx i) (wS_b ..)⟩
  · unfold invS
    split
    · rename_i h3
      subst h3
      have h4 : x.length = 4 := by have := hl; unfold lenB at this; simpa using this
      have a0 := gx_within hx 0
      have a1 := gx_within hx 1
      have a2 := gx_within hx 2
      have a3 := gx_within hx 3
      refine ⟨by rw [h4]; rfl, ?_⟩
      generalize gx x 0 = a at *
      generalize gx x 1 = b at *
      generalize gx x 2 = c at *
      generalize gx x 3 = d at *
      rw [back_e rfl]
      have h2 : 2 * ((a + b - (c - d)) / 2) ≤ a + b - (c - d) ∧ a + b - (c - d) ≤ 2 * ((a + b - (c - d)) / 2) + 1 := by omega
      generalize (a + b - (c - d)) / 2 = e at h2 ⊢
      exact inn4 (by omega) (by omega) (by omega) (by omega)
    · exact ⟨by simp, inn_map fun j _ => rnd_b h64.2 fun i _ => mulb (gx_within hx i) (wS_b ..)⟩
section
variable {M0 : Mem} {A : Option Addr} {n0 c0 : Nat} {y0 : List Int}
/-- What the law answers. -/
abbrev Tr : Value → Mem → Prop := fun v _ => v = .bool true
theorem c7_in {M : Mem} {B C D : Option Addr} {k j n cc cd lB cB : Nat} {y z : List Int} (hB : Row M B (Ints (lensI k))) (hlB : lB = (lensN k).length) (hj : (lensN k)[j]? = some n) (hjl : j < (lensN k).length) (hC : Row M C (Ints y)) (hD : Row M D (Ints z)) (hy : y.length = n) (hz : z.length = n) (iy : Inn y) (iz : Inn z) (hn : n ≤ 64)
    (hE : A7_2 A n0 c0 (k : Nat) B lB cB ((j + 1 : Nat) : Int) M Tr) :
    ∀ (m i : Nat), i + m = n → A7_7 A n0 c0 (k : Nat) B lB cB (j : Nat) C n cc D n cd (i : Nat) M Tr := by
  have hb := lens_b k
  have lj : (Ints (lensI k))[j]? = some (.int .i64 (n : Nat)) := by rw [List.getElem?_map, lensI, List.getElem?_map, hj]; rfl
  intro m
  induction m with
  | zero =>
    intro i hi
    obtain ⟨a, i1, i2⟩ := hB.int1 (n := lB) (i := j) (z := j) (k := .i64) (x := (n : Nat)) rfl (by omega) lj
    refine w7_7 ⟨_, i1, _, i2, fun h => by omega, fun _ => ?_⟩
    rw [i64w (by omega), show ((j : Int) + 1) = ((j + 1 : Nat) : Int) by omega]
    exact hE
  | succ m ih =>
    intro i hi
    obtain ⟨a, i1, i2⟩ := hB.int1 (n := lB) (i := j) (z := j) (k := .i64) (x := (n : Nat)) rfl (by omega) lj
    have h1 : i < y.length := by omega
    have h2 : i < z.length := by omega
    obtain ⟨b, j1, j2⟩ := hC.int1 (n := n) (i := i) (z := i) (k := .i64) (x := y[i]) rfl (by omega) (by simp [h1])
    obtain ⟨c, k1, k2⟩ := hD.int1 (n := n) (i := i) (z := i) (k := .i64) (x := z[i]) rfl (by omega) (by simp [h2])
    have by' := iy _ (List.getElem_mem h1)
    have bz := iz _ (List.getElem_mem h2)
    refine w7_7 ⟨_, i1, _, i2, fun _ => ⟨_, j1, _, j2, Cn.eq (c17 (by omega)) ⟨_, rfl, fun h => by omega, fun _ => ⟨_, k1, _, k2, Cn.eq (c17 (by omega)) ⟨_, rfl, ?_⟩⟩⟩⟩, fun h => by omega⟩
    rw [decide_eq_false (by omega)]
    refine w7_8 ⟨fun h => (by cases h), fun _ => ?_⟩
    rw [i64w (by omega), show ((i : Int) + 1) = ((i + 1 : Nat) : Int) by omega]
    exact ih (i + 1) (by omega)
theorem c7_mid (hf : M0.floor ≤ M0.nb.size) (hA : Row M0 A (Ints y0)) (hn : n0 = y0.length) (hb0 : n0 ≤ 1048576) {k lB cB : Nat} {B : Option Addr} (hk : k < 4) (hlB : lB = (lensN k).length)
    (hE : ∀ M, Keep M0 M → A7_1 A n0 c0 ((k + 1 : Nat) : Int) M Tr) :
    ∀ (m j : Nat) {M : Mem}, j + m = (lensN k).length → Keep M0 M → Row M B (Ints (lensI k)) → A7_2 A n0 c0 (k : Nat) B lB cB (j : Nat) M Tr := by
  have hb := lens_b k
  intro m
  induction m with
  | zero =>
    intro j M hj K hB
    refine w7_2 ⟨fun h => by omega, fun _ => w7_3 ⟨fun h => (by cases h), fun _ => ?_⟩⟩
    rw [i64w (by omega), show ((k : Int) + 1) = ((k + 1 : Nat) : Int) by omega]
    exact hE M K
  | succ m ih =>
    intro j M hj K hB
    have hjl : j < (lensN k).length := by omega
    have hjn : (lensN k)[j]? = some (lensN k)[j] := by simp [hjl]
    have lj : (Ints (lensI k))[j]? = some (.int .i64 ((lensN k)[j] : Nat)) := by rw [List.getElem?_map, lensI, List.getElem?_map, hjn]; rfl
    generalize (lensN k)[j] = n at hjn lj
    have go : (k < 3 ∨ k = 3 ∧ j = 0) → A7_3 A n0 c0 (k : Nat) B lB cB (j : Nat) true M Tr := by
      intro hgo
      have hl := lens_ok hgo hjn
      have h64 := lenB_le hl
      have hfM := fb hf K
      obtain ⟨a, i1, i2⟩ := hB.int1 (n := lB) (i := j) (z := j) (k := .i64) (x := (n : Nat)) rfl (by omega) lj
      refine w7_3 ⟨fun _ => ⟨_, i1, _, i2, Cn.mono (c12 (n := n) (m := 32768) hfM (hA.keep K) hn hb0 (by omega) (by decide)) ?_⟩, fun h => (by cases h)⟩
      rintro _ N2 ⟨A2, c2, x, rfl, hxl, hx, K2, O2⟩
      subst hxl
      obtain ⟨⟨y, e1, y1, y2⟩, ⟨z, e2, z1, z2⟩⟩ := bounded hl hx
      refine ⟨_, rfl, Cn.mono (c14 (n := x.length) (kind := (k : Nat)) (x := x) (fb hfM K2) O2.row rfl (by omega)) ?_⟩
      rw [e2]
      rintro _ N3 ⟨A3, c3, rfl, K3, O3, _⟩
      have K23 := K2.trans K3
      refine ⟨_, rfl, _, rfl, _, rfl, Cn.mono (c13 (n := x.length) (kind := (k : Nat)) (x := x) (fb hfM K23) (O2.row.keep K3) rfl (by omega)) ?_⟩
      rw [e1]
      rintro _ N4 ⟨A4, c4, rfl, K4, O4, _⟩
      have K24 := K23.trans K4
      have hB4 := hB.keep K24
      have j1 := hB4.int1 (n := lB) (i := j) (z := j) (k := .i64) (x := (x.length : Nat)) rfl (by omega) lj
      obtain ⟨a1, j1, j2⟩ := j1
      show ∃ cs14', asU 2 (.tuple #[.slice A4 y.length c4, .int .i64 0]) = some cs14' ∧ _
      refine ⟨_, rfl, _, rfl, _, rfl, fun h => absurd rfl h, fun _ => w7_4 ⟨fun h => (by cases h), fun _ => ⟨_, j1, _, j2, ?_⟩⟩⟩
      have q1 : ((z.length : Int) != ((x.length : Nat) : Int)) = false := by rw [z1]; simp
      have q2 : ((y.length : Int) != ((x.length : Nat) : Int)) = false := by rw [y1]; simp
      show A7_5 A n0 c0 (k : Nat) B lB cB (j : Nat) A3 z.length c3 A4 y.length c4 ((z.length : Int) != ((x.length : Nat) : Int)) N4 Tr
      rw [q1]
      refine w7_5 ⟨fun h => (by cases h), fun _ => ⟨_, j1, _, j2, ?_⟩⟩
      rw [q2]
      refine w7_6 ⟨fun h => (by cases h), fun _ => ?_⟩
      rw [z1, y1]
      exact c7_in hB4 hlB hjn hjl (O3.row.keep K4) O4.row z1 y1 z2 y2 h64.2 (ih (j + 1) (by omega) (K.trans K24) hB4) x.length 0 (Nat.zero_add _)
    refine w7_2 ⟨fun _ => ⟨fun h => go (by omega), fun h => ?_⟩, fun h => by omega⟩
    rcases Nat.eq_zero_or_pos j with rfl | h0
    · exact go (by omega)
    · rw [show (((j : Nat) : Int) == 0) = false by simp; omega]
      refine w7_3 ⟨fun h => (by cases h), fun _ => ?_⟩
      rw [i64w (by omega), show ((k : Int) + 1) = ((k + 1 : Nat) : Int) by omega]
      exact hE M K
theorem c7_out (hf : M0.floor ≤ M0.nb.size) (hA : Row M0 A (Ints y0)) (hn : n0 = y0.length) (hb0 : n0 ≤ 1048576) :
    ∀ (m k : Nat) {M : Mem}, k + m = 4 → Keep M0 M → A7_1 A n0 c0 (k : Nat) M Tr := by
  intro m
  induction m with
  | zero =>
    intro k M hk K
    exact w7_1 ⟨fun h => by omega, fun _ => rfl⟩
  | succ m ih =>
    intro k M hk K
    refine w7_1 ⟨fun _ => Cn.mono (c16 (fb hf K)) ?_, fun h => by omega⟩
    rintro _ N ⟨B, rfl, K1, hB⟩
    exact ⟨_, rfl, c7_mid hf hA hn hb0 (by omega) rfl (fun M K => ih (k + 1) (by omega) K) _ 0 (Nat.zero_add _) (K.trans K1) hB⟩
end
theorem law7 {W : World} {u0 : Value} (s0 : Sees Try.prog (mem0 W) 1048576 8 22 [u0]) : Cn Try.prog 7 #[u0] (mem0 W) fun v _ => v = .bool true := by
  obtain ⟨A, n, c, l, e, h1, h2, h3, h4, _⟩ := sees_ints (e := 3) (by kernel_rfl) (by kernel_rfl) s0
  obtain rfl : u0 = _ := by simpa using e
  refine w7_0 (Cn.mono (c11 (Nat.zero_le _)) ?_)
  rintro _ N1 ⟨rfl, K1⟩
  exact ⟨_, rfl, fun h => (by cases h), fun _ => c7_out (M0 := mem0 W) (Nat.zero_le _) h4 h1 h3 4 0 rfl K1⟩
end Go.Zt
