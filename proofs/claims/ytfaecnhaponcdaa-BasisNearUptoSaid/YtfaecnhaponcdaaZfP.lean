/- Layer 7: BasisNear. -/
import Derived.Test.YtfaecnhaponcdaaZfO
import Derived.Test.YtfaecnhaponcdaaZfDc
set_option linter.unusedSimpArgs false
set_option linter.unusedVariables false
namespace Go.Zt
open Go Go.Sim Go.Proofs Go.RowKit

theorem dot_mulr {f : Nat → Int} {c : Int} : ∀ {n : Nat}, dot (fun i => f i * c) n = dot f n * c
  | 0 => by simp [dot]
  | n + 1 => by simp only [dot]; rw [dot_mulr, Int.add_mul]
theorem dot_mull {f : Nat → Int} {c : Int} : ∀ {n : Nat}, dot (fun i => c * f i) n = c * dot f n
  | 0 => by simp [dot]
  | n + 1 => by simp only [dot]; rw [dot_mull, Int.mul_add]
theorem dot_swap {f : Nat → Nat → Int} {n : Nat} : ∀ {m : Nat}, dot (fun k => dot (fun j => f k j) n) m = dot (fun j => dot (fun k => f k j) m) n
  | 0 => by
    simp only [dot]
    induction n with
    | zero => rfl
    | succ n ih => simp only [dot]; omega
  | m + 1 => by
    simp only [dot]
    rw [dot_swap]
    exact (dot_add (f := fun j => dot (fun k => f k j) m) (g := fun j => f m j)).symm
theorem dot_one {f : Nat → Int} {c : Int} {i : Nat} : ∀ {n : Nat}, dot (fun j => f j * if j = i then c else 0) n = if i < n then f i * c else 0
  | 0 => by simp [dot]
  | n + 1 => by
    simp only [dot]
    rw [dot_one]
    by_cases h : n = i
    · subst h; rw [if_neg (by omega), if_pos rfl, if_pos (by omega)]; omega
    · by_cases h2 : i < n
      · rw [if_pos h2, if_neg h, if_pos (by omega)]; omega
      · rw [if_neg h2, if_neg h, if_neg (by omega)]; omega
theorem near_main {k : Nat} (hk : k < 3) {x : List Int} (hl : lenB (k : Nat) x.length = true) (hx : Within 1023 x) {i : Nat} (hi : i < x.length) :
    -((x.length * x.length / 2 : Nat) : Int) ≤ invK k ((List.range x.length).map (fwdK k x)) i - gx x i * (x.length / 2 : Nat) ∧ invK k ((List.range x.length).map (fwdK k x)) i - gx x i * (x.length / 2 : Nat) ≤ ((x.length * x.length / 2 : Nat) : Int) := by
  have hok := of_decide_eq_true (okW_all hk hl hi)
  generalize hn : x.length = n at *
  -- the sums
  have e1 : invK k ((List.range n).map (fwdK k x)) i = rnd (dot (fun q => fwdK k x q * wS k n q i) n) := by
    unfold invK
    rw [List.length_map, List.length_range]
    exact congrArg rnd (dot_congr fun q hq => by rw [gx_map hq])
  rw [e1]
  have e2 : ∀ q, 4096 * fwdK k x q = dot (fun j => gx x j * wS k n q j) n + (2048 - (dot (fun j => gx x j * wS k n q j) n + 2048) % 4096) := by
    intro q
    unfold fwdK rnd
    rw [hn]
    omega
  have hr : ∀ q, -((2048 : Nat) : Int) ≤ 2048 - (dot (fun j => gx x j * wS k n q j) n + 2048) % 4096 ∧ 2048 - (dot (fun j => gx x j * wS k n q j) n + 2048) % 4096 ≤ (2048 : Nat) := by
    intro q; omega
  generalize hre : (fun q => 2048 - (dot (fun j => gx x j * wS k n q j) n + 2048) % 4096) = r
  have e2' : ∀ q, 4096 * fwdK k x q = dot (fun j => gx x j * wS k n q j) n + r q := fun q => by rw [e2 q, ← hre]
  have hr' : ∀ q, -((2048 : Nat) : Int) ≤ r q ∧ r q ≤ (2048 : Nat) := fun q => by rw [← hre]; exact hr q
  have e3 : 4096 * dot (fun q => fwdK k x q * wS k n q i) n = dot (fun j => gx x j * gw k n j i) n + dot (fun q => r q * wS k n q i) n := by
    rw [← dot_mull]
    have a1 : dot (fun q => 4096 * (fwdK k x q * wS k n q i)) n = dot (fun q => (dot (fun j => gx x j * wS k n q j) n) * wS k n q i + r q * wS k n q i) n := dot_congr fun q _ => by rw [← Int.mul_assoc, e2', Int.add_mul]
    rw [a1, dot_add]
    congr 1
    have a2 : dot (fun q => (dot (fun j => gx x j * wS k n q j) n) * wS k n q i) n = dot (fun q => dot (fun j => gx x j * (wS k n q j * wS k n q i)) n) n := dot_congr fun q _ => by
      rw [← dot_mulr]; exact dot_congr fun j _ => by rw [Int.mul_assoc]
    rw [a2, dot_swap]
    exact dot_congr fun j _ => by rw [dot_mull]; rfl
  have e4 : dot (fun j => gx x j * gw k n j i) n = dot (fun j => gx x j * (gw k n j i - if j = i then ((n / 2 * 16777216 : Nat) : Int) else 0)) n + gx x i * (n / 2 * 16777216 : Nat) := by
    have : gx x i * (n / 2 * 16777216 : Nat) = dot (fun j => gx x j * if j = i then ((n / 2 * 16777216 : Nat) : Int) else 0) n := by rw [dot_one, if_pos hi]
    rw [this, ← dot_add]
    exact dot_congr fun j _ => by rw [← Int.mul_add]; congr 1; omega
  have b1 : ∀ m, (dot (fun j => gx x j * (gw k n j i - if j = i then ((n / 2 * 16777216 : Nat) : Int) else 0)) m).natAbs ≤ 1023 * eW k n i m := by
    intro m
    induction m with
    | zero => simp [dot, eW]
    | succ m ih =>
      simp only [dot, eW]
      rw [show (((if m = i then n / 2 * 16777216 else 0 : Nat)) : Int) = if m = i then ((n / 2 * 16777216 : Nat) : Int) else 0 by split <;> rfl]
      have h1 := gx_within hx m
      have h2 : (gx x m * (gw k n m i - if m = i then ((n / 2 * 16777216 : Nat) : Int) else 0)).natAbs ≤ 1023 * (gw k n m i - if m = i then ((n / 2 * 16777216 : Nat) : Int) else 0).natAbs := by
        rw [Int.natAbs_mul]; exact Nat.mul_le_mul_right _ (by omega)
      rw [Nat.mul_add]
      exact Nat.le_trans (Int.natAbs_add_le _ _) (Nat.add_le_add ih h2)
  have b2 : ∀ m, (dot (fun q => r q * wS k n q i) m).natAbs ≤ 2048 * vW k n i m := by
    intro m
    induction m with
    | zero => simp [dot, vW]
    | succ m ih =>
      simp only [dot, vW]
      have h1 := hr' m
      have h2 : (r m * wS k n m i).natAbs ≤ 2048 * (wS k n m i).natAbs := by
        rw [Int.natAbs_mul]; exact Nat.mul_le_mul_right _ (by omega)
      rw [Nat.mul_add]
      exact Nat.le_trans (Int.natAbs_add_le _ _) (Nat.add_le_add ih h2)
  have b1 := b1 n
  have b2 := b2 n
  rw [e4] at e3
  generalize dot (fun j => gx x j * (gw k n j i - if j = i then ((n / 2 * 16777216 : Nat) : Int) else 0)) n = D at b1 e3
  generalize dot (fun q => r q * wS k n q i) n = R at b2 e3
  generalize dot (fun q => fwdK k x q * wS k n q i) n = S at e3 ⊢
  rw [show gx x i * (n / 2 * 16777216 : Nat) = gx x i * (n / 2 : Nat) * 16777216 by rw [Int.natCast_mul, Int.mul_assoc]; rfl] at e3
  generalize gx x i * (n / 2 : Nat) = Y at e3 ⊢
  unfold rnd
  generalize n * n / 2 = T at hok ⊢
  omega
theorem lens_even {k n : Nat} (hl : lenB (k : Nat) n = true) : n % 2 = 0 := by
  unfold lenB at hl
  repeat' split at hl
  all_goals first | (cases hl; done) | (have h := of_decide_eq_true hl; omega)
theorem half_of {x : Int} {n : Nat} (h : n % 2 = 0) : (x * (n : Nat)).tdiv 2 = x * (n / 2 : Nat) := by
  have : x * (n : Nat) = 2 * (x * (n / 2 : Nat)) := by
    rw [← Int.mul_assoc, Int.mul_comm 2, Int.mul_assoc]
    congr 1; omega
  rw [this]; exact Int.mul_tdiv_cancel_left _ (by decide)
section
variable {M0 : Mem} {A : Option Addr} {n0 c0 : Nat} {y0 : List Int}
theorem c5_in {M : Mem} {B C D : Option Addr} {k j n cc cd lB cB : Nat} {x z : List Int} (hC : Row M C (Ints x)) (hD : Row M D (Ints z)) (hxl : x.length = n) (hz : z.length = n) (hx : Within 1023 x)
    (hz2 : ∀ i, i < n → -((n * n / 2 : Nat) : Int) ≤ gx z i - gx x i * (n / 2 : Nat) ∧ gx z i - gx x i * (n / 2 : Nat) ≤ ((n * n / 2 : Nat) : Int)) (hn : n ≤ 64) (he : n % 2 = 0)
    (hE : A5_2 A n0 c0 (k : Nat) B lB cB (IntKind.i64.wrap ((j : Nat) + 1)) M Tr) :
    ∀ (m i : Nat), i + m = n → A5_6 A n0 c0 (k : Nat) B lB cB (j : Nat) (n : Nat) C n cc D n cd (i : Nat) M Tr := by
  intro m
  induction m with
  | zero =>
    intro i hi
    exact w5_6 ⟨fun h => by omega, fun _ => hE⟩
  | succ m ih =>
    intro i hi
    obtain ⟨b, j1, j2⟩ := hC.int1 (n := n) (i := i) (z := i) (k := .i64) (x := gx x i) rfl (by omega) (gx_at (by omega))
    obtain ⟨c, k1, k2⟩ := hD.int1 (n := n) (i := i) (z := i) (k := .i64) (x := gx z i) rfl (by omega) (gx_at (by omega))
    have h1 := gx_within hx i
    have h2 := mulb (x := gx x i) (w := (n : Nat)) (A := 1023) (B := 64) h1 (by omega)
    have h2' := mulb (x := gx x i) (w := (n / 2 : Nat)) (A := 1023) (B := 64) h1 (by omega)
    have h3 : n * n ≤ 64 * 64 := Nat.mul_le_mul hn hn
    have h4 := hz2 i (by omega)
    have e1 : IntKind.i64.wrap (IntKind.i64.wrap (gx x i * (n : Nat))|>.tdiv 2) = gx x i * (n / 2 : Nat) := by
      rw [i64w (x := gx x i * (n : Nat)) (by omega), half_of he, i64w (by omega)]
    have e2 : IntKind.i64.wrap (IntKind.i64.wrap ((n : Int) * (n : Nat))|>.tdiv 2) = (n * n / 2 : Nat) := by
      rw [← Int.natCast_mul, i64w (x := ((n * n : Nat) : Int)) (by omega), Int.tdiv_eq_ediv_of_nonneg (by omega), i64w (by omega)]
      omega
    refine w5_6 ⟨fun _ => ⟨_, k1, _, k2, _, j1, _, j2, ?_⟩, fun h => by omega⟩
    rw [e1, e2]
    generalize gx x i * (n / 2 : Nat) = Y at h2' h4 ⊢
    have h5 : n * n / 2 ≤ 2048 := by omega
    generalize n * n / 2 = T at h4 h5 ⊢
    rw [i64w (x := gx z i - Y) (by omega)]
    refine Cn.eq (c17 (by omega)) ⟨_, rfl, fun h => by omega, fun _ => ?_⟩
    rw [i64w (by omega), show ((i : Int) + 1) = ((i + 1 : Nat) : Int) by omega]
    exact ih (i + 1) (by omega)
theorem c5_mid (hf : M0.floor ≤ M0.nb.size) (hA : Row M0 A (Ints y0)) (hn : n0 = y0.length) (hb0 : n0 ≤ 1048576) {k lB cB : Nat} {B : Option Addr} (hk : k < 3) (hlB : lB = (lensN k).length)
    (hE : ∀ M, Keep M0 M → A5_1 A n0 c0 ((k + 1 : Nat) : Int) M Tr) :
    ∀ (m j : Nat) {M : Mem}, j + m = (lensN k).length → Keep M0 M → Row M B (Ints (lensI k)) → A5_2 A n0 c0 (k : Nat) B lB cB (j : Nat) M Tr := by
  have hb := lens_b k
  intro m
  induction m with
  | zero =>
    intro j M hj K hB
    refine w5_2 ⟨fun h => by omega, fun _ => ?_⟩
    rw [i64w (by omega), show ((k : Int) + 1) = ((k + 1 : Nat) : Int) by omega]
    exact hE M K
  | succ m ih =>
    intro j M hj K hB
    have hjl : j < (lensN k).length := by omega
    have hjn : (lensN k)[j]? = some (lensN k)[j] := by simp [hjl]
    have lj : (Ints (lensI k))[j]? = some (.int .i64 ((lensN k)[j] : Nat)) := by rw [List.getElem?_map, lensI, List.getElem?_map, hjn]; rfl
    generalize (lensN k)[j] = n at hjn lj
    have hl := lens_ok (Or.inl hk) hjn
    have h64 := lenB_le hl
    have hfM := fb hf K
    obtain ⟨a, i1, i2⟩ := hB.int1 (n := lB) (i := j) (z := j) (k := .i64) (x := (n : Nat)) rfl (by omega) lj
    refine w5_2 ⟨fun _ => ⟨_, i1, _, i2, Cn.mono (c12 (n := n) (m := 1023) hfM (hA.keep K) hn hb0 (by omega) (by decide)) ?_⟩, fun h => by omega⟩
    rintro _ N2 ⟨A2, c2, x, rfl, hxl, hx, K2, O2⟩
    subst hxl
    have hm := mayB_of hl (by decide) hx
    have ef : fwdQ (k : Nat) x = ((List.range x.length).map (fwdK k x), 0) := by
      unfold fwdQ; rw [hm, if_pos rfl, Int.toNat_natCast]; unfold fwdS; rw [if_neg (by omega)]
    have hy : Within 1048576 ((List.range x.length).map (fwdK k x)) := by
      intro v hv
      obtain ⟨i, _, rfl⟩ := List.mem_map.1 hv
      have h1 := dot_b (m := x.length) (B := 1023 * 16384) (f := fun j => gx x j * wS k x.length i j) fun j _ => mulb (gx_within hx j) (wS_b ..)
      unfold fwdK rnd
      have h2 : x.length * (1023 * 16384) ≤ 1072693248 := by omega
      generalize x.length * (1023 * 16384) = q at h1 h2
      omega
    have hy2 := mayB_of (kind := (k : Nat)) (x := (List.range x.length).map (fwdK k x)) (by simpa using hl) (by decide) hy
    have ei : invQ (k : Nat) ((List.range x.length).map (fwdK k x)) = ((List.range x.length).map (invK k ((List.range x.length).map (fwdK k x))), 0) := by
      unfold invQ; rw [hy2, if_pos rfl, Int.toNat_natCast]; unfold invS; rw [if_neg (by omega)]; simp
    have hmain := fun i hi => near_main hk hl hx (i := i) hi
    generalize hY : (List.range x.length).map (fwdK k x) = Y at *
    have hYl : Y.length = x.length := by rw [← hY]; simp
    have hz : ∀ i, i < x.length → -((x.length * x.length / 2 : Nat) : Int) ≤ gx ((List.range x.length).map (invK k Y)) i - gx x i * (x.length / 2 : Nat) ∧ gx ((List.range x.length).map (invK k Y)) i - gx x i * (x.length / 2 : Nat) ≤ ((x.length * x.length / 2 : Nat) : Int) := fun i hi => by
      rw [gx_map hi]; exact hmain i hi
    have hzl : ((List.range x.length).map (invK k Y)).length = x.length := by simp
    generalize (List.range x.length).map (invK k Y) = Z at *
    refine ⟨_, rfl, Cn.mono (c13 (n := x.length) (kind := (k : Nat)) (x := x) (fb hfM K2) O2.row rfl (by omega)) ?_⟩
    rw [ef]
    rintro _ N3 ⟨A3, c3, rfl, K3, O3, _⟩
    have K23 := K2.trans K3
    refine ⟨_, rfl, _, rfl, _, rfl, ?_⟩
    dsimp only
    rw [hYl]
    refine Cn.mono (c14 (n := x.length) (kind := (k : Nat)) (x := Y) (fb hfM K23) O3.row hYl.symm (by omega)) ?_
    rw [ei]
    rintro _ N4 ⟨A4, c4, rfl, K4, O4, _⟩
    have K24 := K23.trans K4
    have hB4 := hB.keep K24
    refine ⟨_, rfl, _, rfl, _, rfl, fun h => absurd rfl h, fun _ => w5_3 ⟨fun h => (by cases h), fun _ => ?_⟩⟩
    dsimp only
    rw [hzl, show ((x.length : Int) != ((x.length : Nat) : Int)) = false by simp]
    refine w5_4 ⟨fun h => (by cases h), fun _ => ?_⟩
    rw [show ((x.length : Int) != ((x.length : Nat) : Int)) = false by simp]
    refine w5_5 ⟨fun h => (by cases h), fun _ => ?_⟩
    refine c5_in ((O2.row.keep K3).keep K4) O4.row rfl hzl hx hz h64.2 (lens_even hl) ?_ x.length 0 (Nat.zero_add _)
    rw [i64w (by omega), show ((j : Int) + 1) = ((j + 1 : Nat) : Int) by omega]
    exact ih (j + 1) (by omega) (K.trans K24) hB4
theorem c5_out (hf : M0.floor ≤ M0.nb.size) (hA : Row M0 A (Ints y0)) (hn : n0 = y0.length) (hb0 : n0 ≤ 1048576) :
    ∀ (m k : Nat) {M : Mem}, k + m = 3 → Keep M0 M → A5_1 A n0 c0 (k : Nat) M Tr := by
  intro m
  induction m with
  | zero =>
    intro k M hk K
    exact w5_1 ⟨fun h => by omega, fun _ => rfl⟩
  | succ m ih =>
    intro k M hk K
    refine w5_1 ⟨fun _ => Cn.mono (c16 (fb hf K)) ?_, fun h => by omega⟩
    rintro _ N ⟨B, rfl, K1, hB⟩
    exact ⟨_, rfl, c5_mid hf hA hn hb0 (by omega) rfl (fun M K => ih (k + 1) (by omega) K) _ 0 (Nat.zero_add _) (K.trans K1) hB⟩
end
theorem law5 {W : World} {u0 : Value} (s0 : Sees Try.prog (mem0 W) 1048576 8 22 [u0]) : Cn Try.prog 5 #[u0] (mem0 W) fun v _ => v = .bool true := by
  obtain ⟨A, n, c, l, e, h1, h2, h3, h4, _⟩ := sees_ints (e := 3) (by kernel_rfl) (by kernel_rfl) s0
  obtain rfl : u0 = _ := by simpa using e
  refine w5_0 (Cn.mono (c11 (Nat.zero_le _)) ?_)
  rintro _ N1 ⟨rfl, K1⟩
  exact ⟨_, rfl, fun h => (by cases h), fun _ => c5_out (M0 := mem0 W) (Nat.zero_le _) h4 h1 h3 3 0 rfl K1⟩
end Go.Zt
