/- Layer 8: TxfmFlat. -/
import Derived.Test.YtpfhalehdgcbeaaZge
import Derived.Test.YtpfhalehdgcbeaaZgDh
set_option linter.unusedSimpArgs false
set_option linter.unusedVariables false
namespace Go.Zt
open Go Go.Sim Go.Proofs Go.RowKit

theorem dot_mulc {v : Int} {f : Nat → Int} : ∀ {n : Nat}, dot (fun i => v * f i) n = v * dot f n
  | 0 => by simp [dot]
  | n + 1 => by simp only [dot]; rw [dot_mulc, Int.mul_add]
theorem dot_one {f : Nat → Int} : ∀ {n : Nat}, 0 < n → (∀ k, 0 < k → k < n → f k = 0) → dot f n = f 0
  | 1, _, _ => by simp [dot]
  | n + 2, _, h => by
    have := dot_one (f := f) (n := n + 1) (by omega) fun k h1 h2 => h k h1 (by omega)
    simp only [dot] at this ⊢
    rw [this, h (n + 1) (by omega) (by omega), Int.add_zero]
def sizesL : List Nat := [4, 8, 16, 32, 64]
theorem w0 : ∀ n ∈ sizesL, ∀ k ∈ List.range n, dot (wS 0 n k) n = if k = 0 then (n : Int) * 2896 else 0 := by decide +kernel
theorem w00 : ∀ n ∈ sizesL, ∀ i ∈ List.range n, wS 0 n 0 i = 2896 := by decide +kernel
theorem fwd_const {n : Nat} (hn : n ∈ sizesL) {x : List Int} (hl : x.length = n) {v : Int} (hx : ∀ i, i < n → gx x i = v) {k : Nat} (hk : k < n) : gx (fwdS 0 x) k = if k = 0 then rnd (v * ((n : Int) * 2896)) else 0 := by
  unfold fwdS
  rw [if_neg (by decide), gx_map (by omega)]
  unfold fwdK
  rw [hl, dot_congr (g := fun i => v * wS 0 n k i) (fun i hi => by rw [hx i hi]), dot_mulc, w0 n hn k (List.mem_range.2 hk)]
  split
  · rfl
  · rw [Int.mul_zero]; rfl
theorem inv_first {n : Nat} (hn : n ∈ sizesL) {x : List Int} (hl : x.length = n) {v : Int} (hx : ∀ i, i < n → gx x i = if i = 0 then v else 0) {k : Nat} (hk : k < n) : gx (invS 0 x) k = rnd (v * 2896) := by
  unfold invS
  rw [if_neg (by decide), gx_map (by omega)]
  unfold invK
  rw [hl, dot_one (by omega) fun i h1 h2 => by rw [hx i h2, if_neg (by omega), Int.zero_mul], hx 0 (by omega), if_pos rfl, w00 n hn k (List.mem_range.2 hk)]
def flatD (n : Nat) (v : Int) : Int := scS n 0 (rnd (rnd (v * ((n : Int) * 2896)) * ((n : Int) * 2896)))
def flatF (n : Nat) (v : Int) : Int := rdS 4 0 (rnd (fI n 0 (rnd (clipS (flatD n v) * 2896)) * 2896))
theorem flat_all : ∀ n ∈ sizesL, ∀ t ∈ List.range 511, flatF n ((t : Nat) - 255) = (t : Nat) - 255 ∧ -1048576 ≤ flatD n ((t : Nat) - 255) ∧ flatD n ((t : Nat) - 255) ≤ 1048576 := by decide +kernel
theorem sc0 : ∀ n ∈ sizesL, scS n 0 0 = 0 ∧ fI n 0 0 = 0 := by decide +kernel
theorem ask8 : ∀ n ∈ sizesL, (typesS n).length ≠ 0 ∧ (typesS n).contains 0 = true ∧ (min32 n).toNat ≤ n ∧ 0 < (min32 n).toNat ∧ (min32 n).toNat ≤ 32 ∧ min32 n = ((min32 n).toNat : Nat) ∧ 0 < n ∧ n ≤ 64 := by decide +kernel
theorem first_grid {n : Nat} (h0 : 0 < n) {v w : Int} : gridL n (fun r c => if r = 0 ∧ c = 0 then v else w) = firstL (n * n) v w := by
  unfold gridL firstL
  refine List.map_congr_left fun t ht => ?_
  dsimp only
  by_cases h : t = 0
  · subst h; rw [if_pos ⟨Nat.zero_div _, Nat.zero_mod _⟩, if_pos rfl]
  · rw [if_neg, if_neg h]
    rintro ⟨h1, h2⟩
    have := Nat.div_add_mod t n
    rw [h1, h2] at this; omega
theorem gx_first {n : Nat} {v w : Int} {i : Nat} (h : i < n) : gx (firstL n v w) i = if i = 0 then v else w := gx_map h
theorem inB_first {b : Int} {n : Nat} {v w : Int} (hv : -b ≤ v ∧ v ≤ b) (hw : -b ≤ w ∧ w ≤ b) : inB b (firstL n v w) = true := by
  unfold inB firstL
  rw [List.all_eq_true]
  intro z hz
  obtain ⟨i, _, rfl⟩ := List.mem_map.1 hz
  refine decide_eq_true ?_
  split <;> assumption
theorem ask_of {n : Nat} (hn : n ∈ sizesL) {x : List Int} {side : Nat} {b : Int} (hs : side ≤ 64) (hl : x.length = side * side) (hb : inB b x = true) : askS n 0 x side b = 0 := by
  obtain ⟨a1, a2, _⟩ := ask8 n hn
  have := Nat.mul_le_mul hs hs
  unfold askS
  rw [if_neg a1, a2, if_neg (by decide), if_neg, if_pos hb]
  rw [← Int.natCast_mul, i64w (by omega), hl]; simp
theorem flat {n : Nat} (hn : n ∈ sizesL) {v : Int} (hv : -255 ≤ v ∧ v ≤ 255) :
    fwdB n 0 (firstL (n * n) v v) = (firstL ((min32 n).toNat * (min32 n).toNat) (flatD n v) 0, 0) ∧ invB n 0 (firstL ((min32 n).toNat * (min32 n).toNat) (flatD n v) 0) = (firstL (n * n) v v, 0) := by
  obtain ⟨a1, a2, hs1, hs2, hs3, hs4, hn0, hn64⟩ := ask8 n hn
  obtain ⟨f1, f2, f3⟩ := flat_all n hn (v + 255).toNat (List.mem_range.2 (by omega))
  rw [show (((v + 255).toNat : Nat) : Int) - 255 = v by omega] at f1 f2 f3
  obtain ⟨z1, z2⟩ := sc0 n hn
  have tn : (n : Int).toNat = n := Int.toNat_natCast n
  have kk : (kindsS 0).1.toNat = 0 ∧ (kindsS 0).2.toNat = 0 := by decide
  generalize hs : (min32 n).toNat = s at *
  constructor
  · unfold fwdB
    rw [ask_of hn hn64 (firstL_len _ _ _) (inB_first (by omega) (by omega)), if_pos rfl, tn, hs, subL_grid]
    congr 1
    rw [← first_grid hs2]
    refine grid_congr fun r c hr hc => ?_
    have h1 : ∀ r c, r < n → c < n → fwH1 n 0 (firstL (n * n) v v) r c = if r = 0 then rnd (v * ((n : Int) * 2896)) else 0 := by
      intro r c hr hc
      have e : fwH1 n 0 (firstL (n * n) v v) r c = if c < n ∨ (c = n ∧ r < 0) then rdS 0 0 (gx (fwY1 n 0 (firstL (n * n) v v) c) r) else fwG0 n (firstL (n * n) v v) r c := rfl
      rw [e, if_pos (.inl hc), rdS_0]
      unfold fwY1
      rw [kk.2]
      refine fwd_const hn lineL_len (fun i hi => ?_) hr
      rw [gx_line' hi]
      show gx (firstL (n * n) v v) (i * n + c) = v
      rw [gx_first (ix_lt hi hc)]; split <;> rfl
    have e : fwH2 n s 0 (firstL (n * n) v v) r c = if r < s ∨ (r = s ∧ c < 0) then scS n 0 (gx (fwY2 n 0 (firstL (n * n) v v) r) c) else fwH1 n 0 (firstL (n * n) v v) r c := rfl
    rw [e, if_pos (.inl hr)]
    unfold fwY2
    rw [kk.1, fwd_const (v := if r = 0 then rnd (v * ((n : Int) * 2896)) else 0) hn lineL_len (fun i hi => by rw [gx_line' hi]; exact h1 r i (by omega) hi) (show c < n by omega)]
    by_cases h0 : r = 0 ∧ c = 0
    · rw [if_pos h0, if_pos h0.2, if_pos h0.1]; rfl
    · rw [if_neg h0]
      by_cases hc0 : c = 0
      · rw [if_pos hc0, if_neg (show ¬ r = 0 by omega), Int.zero_mul]; exact z1
      · rw [if_neg hc0]; exact z1
  · unfold invB
    rw [hs4, ask_of hn (by omega) (firstL_len _ _ _) (inB_first ⟨f2, f3⟩ (by omega)), if_pos rfl, tn, Int.toNat_natCast]
    congr 1
    rw [← first_grid hn0]
    refine grid_congr fun r c hr hc => ?_
    generalize hx : firstL (s * s) (flatD n v) 0 = x
    have g0 : ∀ r c, inG0 s x (s * s) r c = if r = 0 ∧ c = 0 then clipS (flatD n v) else 0 := by
      intro r c
      unfold inG0
      by_cases h : r < s ∧ c < s ∧ r * s + c < s * s
      · rw [if_pos h, ← hx, gx_first h.2.2]
        by_cases h0 : r = 0 ∧ c = 0
        · rw [if_pos h0, if_pos (by rw [h0.1, h0.2]; omega)]
        · rw [if_neg h0, if_neg]
          · decide
          · intro h5
            have : r * s = 0 := by omega
            rcases Nat.mul_eq_zero.1 this with h6 | h6 <;> omega
      · rw [if_neg h, if_neg]
        rintro ⟨rfl, rfl⟩
        exact h ⟨hs2, hs2, by rw [Nat.zero_mul]; exact Nat.mul_pos hs2 hs2⟩
    have y1 : ∀ r c, r < n → c < n → gx (invY1 n s 0 x r) c = rnd ((if r = 0 then clipS (flatD n v) else 0) * 2896) := by
      intro r c hr hc
      unfold invY1
      rw [kk.1]
      refine inv_first hn lineL_len (fun i hi => ?_) hc
      rw [gx_line' hi]
      show inG0 s x (s * s) r i = _
      rw [g0]
      by_cases h1 : r = 0 <;> by_cases h2 : i = 0 <;> simp [h1, h2]
    have h1 : ∀ r c, r < n → c < n → invH1 n s 0 x r c = if r = 0 then fI n 0 (rnd (clipS (flatD n v) * 2896)) else 0 := by
      intro r c hr hc
      have e : invH1 n s 0 x r c = if r < s ∨ (r = s ∧ c < 0) then fI n 0 (gx (invY1 n s 0 x r) c) else inG0 s x (s * s) r c := rfl
      rw [e, y1 r c hr hc]
      by_cases h : r < s
      · rw [if_pos (.inl h)]
        by_cases h0 : r = 0
        · rw [if_pos h0, if_pos h0]
        · rw [if_neg h0, if_neg h0]; exact z2
      · rw [if_neg (by omega), g0, if_neg (by omega), if_neg (by omega)]
    have e : invH2 n s 0 x r c = if c < n ∨ (c = n ∧ r < 0) then rdS 4 0 (gx (invY2 n s 0 x c) r) else invH1 n s 0 x r c := rfl
    rw [e, if_pos (.inl hc)]
    unfold invY2
    rw [kk.2, inv_first (v := fI n 0 (rnd (clipS (flatD n v) * 2896))) hn lineL_len (fun i hi => by rw [gx_line' hi]; exact h1 i c hi hc) hr]
    split <;> exact f1
/-! ### The walk -/
theorem c6_3 {M : Mem} {v : Int} {A C : Option Addr} {N d lx cx : Nat} {D : Int} (hA : Row M A (Ints (firstL N D 0))) (hN : N ≤ 8192) {x17 x18 : Int} {Q : Value → Mem → Prop} (hE : A6_1 v C lx cx x17 (IntKind.i64.wrap (x18 + 1)) M Q) :
    ∀ (m i : Nat), i + m = N → 1 ≤ i → A6_3 v A N d (i : Nat) C lx cx x17 x18 M Q := by
  intro m
  induction m with
  | zero => intro i hi h1; exact w6_3 ⟨fun h => by omega, fun _ => hE⟩
  | succ m ih =>
    intro i hi h1
    obtain ⟨a, i1, i2⟩ := hA.int1 (n := N) (i := i) (z := (i : Nat)) (k := .i64) (x := 0) rfl (by omega) (by
      have : gx (firstL N D 0) i = 0 := by rw [gx_first (n := N) (by omega), if_neg (by omega)]
      have h := gx_at (x := firstL N D 0) (i := i) (by rw [firstL_len]; omega)
      rw [this] at h; exact h)
    refine w6_3 ⟨fun _ => ⟨_, i1, _, i2, fun h => absurd rfl h, fun _ => ?_⟩, fun h => by omega⟩
    rw [i64w (by omega), show ((i : Int) + 1) = ((i + 1 : Nat) : Int) by omega]
    exact ih (i + 1) (by omega) (by omega)
theorem sizes_at {i : Nat} (h : i < 5) : ∃ n ∈ sizesL, sizesL[i]? = some n ∧ (Ints [4, 8, 16, 32, 64])[i]? = some (.int .i64 (n : Nat)) := by
  match i, h with
  | 0, _ => exact ⟨4, by decide, rfl, rfl⟩
  | 1, _ => exact ⟨8, by decide, rfl, rfl⟩
  | 2, _ => exact ⟨16, by decide, rfl, rfl⟩
  | 3, _ => exact ⟨32, by decide, rfl, rfl⟩
  | 4, _ => exact ⟨64, by decide, rfl, rfl⟩
theorem c6_1 {M0 : Mem} (hf : M0.floor ≤ M0.nb.size) {v : Int} (hv : -255 ≤ v ∧ v ≤ 255) {C : Option Addr} (hC : Row M0 C (Ints [4, 8, 16, 32, 64])) :
    ∀ (m i : Nat) {M : Mem}, i + m = 5 → Keep M0 M → A6_1 v C 5 5 5 (i : Nat) M fun v _ => v = .bool true := by
  intro m
  induction m with
  | zero => intro i M hi K; exact w6_1 ⟨fun h => by omega, fun _ => rfl⟩
  | succ m ih =>
    intro i M hi K
    obtain ⟨n, hn, _, h2⟩ := sizes_at (i := i) (by omega)
    obtain ⟨a, i1, i2⟩ := (hC.keep K).int1 (n := 5) (i := i) (z := (i : Nat)) (k := .i64) (x := (n : Nat)) rfl (by omega) h2
    obtain ⟨_, _, hs1, hs2, hs3, hs4, hn0, hn64⟩ := ask8 n hn
    obtain ⟨e1, e2⟩ := flat hn hv
    have hnn : n * n ≤ 64 * 64 := Nat.mul_le_mul hn64 hn64
    have hpos : 0 < n * n := Nat.mul_pos hn0 hn0
    have w1 : IntKind.i64.wrap ((n : Int) * (n : Nat)) = ((n * n : Nat) : Int) := by rw [← Int.natCast_mul, i64w (by omega)]
    refine w6_1 ⟨fun _ => ⟨_, i1, _, i2, ?_⟩, fun h => by omega⟩
    rw [w1]
    refine Cn.mono (c21 (n := n * n) (v := v) (w := v) (fb hf K) (by omega) (by omega)) ?_
    rintro _ N1 ⟨A1, d1, rfl, K1, O1⟩
    have K01 := K.trans K1
    refine ⟨_, rfl, Cn.mono (c16 (sz := (n : Nat)) (typ := 0) (x := firstL (n * n) v v) (fb hf K01) O1.row rfl (by rw [firstL_len]; omega)) ?_⟩
    rw [e1]
    generalize hs : (min32 n).toNat = s at *
    have hss : s * s ≤ 32 * 32 := Nat.mul_le_mul hs3 hs3
    rintro _ N2 ⟨A2, d2, rfl, K2, O2, _⟩
    have K02 := K01.trans K2
    refine ⟨_, rfl, _, rfl, _, rfl, Cn.mono (c12 (sz := (n : Nat)) (typ := 0) (x := firstL (s * s) (flatD n v) 0) (fb hf K02) O2.row rfl (by rw [firstL_len]; omega)) ?_⟩
    rw [e2]
    rintro _ N3 ⟨A3, d3, rfl, K3, O3, _⟩
    have K03 := K02.trans K3
    refine ⟨_, rfl, _, rfl, _, rfl, fun h => absurd rfl h, fun _ => ⟨fun h => absurd rfl h, fun _ => ?_⟩⟩
    refine Cn.eq (c19 (l := firstL (n * n) v v) (l' := firstL (n * n) v v) O3.row ((O1.row.keep K2).keep K3) rfl rfl (by dsimp only; rw [firstL_len]; omega)) ⟨_, rfl, w6_2 ⟨fun h => (by simp at h), fun _ => ?_⟩⟩
    dsimp only
    rw [firstL_len]
    refine c6_3 (N := s * s) (O2.row.keep K3) (by omega) ?_ (s * s - 1) 1 ?_ (Nat.le_refl _)
    · rw [i64w (by omega), show ((i : Int) + 1) = ((i + 1 : Nat) : Int) by omega]
      exact ih (i + 1) (by omega) K03
    · have := Nat.mul_pos hs2 hs2; omega
theorem law6 {W : World} {B : Nat} {u0 : Value} (s0 : Sees Try.prog (mem0 W) B 8 3 [u0]) : Cn Try.prog 6 #[u0] (mem0 W) fun v _ => v = .bool true := by
  obtain ⟨z, e, hz⟩ := sees_int (q := .i64) (by kernel_rfl) s0
  obtain rfl : u0 = _ := by simpa using e
  have hf : (mem0 W).floor ≤ (mem0 W).nb.size := Nat.zero_le _
  refine w6_0 (Cn.mono (c15 hf) ?_)
  rintro _ N1 ⟨rfl, K1⟩
  refine ⟨_, rfl, fun h => (by cases h), fun _ => Cn.eq (c20 (wf_i64 hz) (by decide)) ⟨_, rfl, ?_⟩⟩
  have hb : 0 ≤ brg z 511 ∧ brg z 511 < 511 := by
    unfold brg; rw [if_neg (by decide)]
    exact ⟨Int.emod_nonneg _ (by decide), Int.emod_lt_of_pos _ (by decide)⟩
  generalize brg z 511 = b at hb ⊢
  rw [i64w (by omega)]
  obtain ⟨P, e1, E1, F1⟩ := fr N1 [4, 8, 16, 32, 64] (cs := #[.int .i64 4, .int .i64 8, .int .i64 16, .int .i64 32, .int .i64 64]) rfl
  rw [e1]
  exact c6_1 (fb hf (K1.trans E1)) (by omega) F1 5 0 (by decide) (.refl _)
end Go.Zt

