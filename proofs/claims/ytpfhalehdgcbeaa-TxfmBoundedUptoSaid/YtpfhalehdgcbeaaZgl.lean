/- Layer 8: the bounds (plain). -/
import Derived.Test.YtpfhalehdgcbeaaZge
set_option linter.unusedSimpArgs false
set_option linter.unusedVariables false
namespace Go.Zt
open Go Go.Sim Go.Proofs Go.RowKit

/-- The weights' absolute values, summed over the first index. -/
def vA (f : Nat → Int) : Nat → Nat
  | 0 => 0
  | m + 1 => vA f m + (f m).natAbs
theorem abs_mul {B : Nat} {x w : Int} (hx : -(B : Int) ≤ x ∧ x ≤ B) : -((B * w.natAbs : Nat) : Int) ≤ x * w ∧ x * w ≤ ((B * w.natAbs : Nat) : Int) :=
  mulb (A := B) (B := w.natAbs) hx (by omega)
theorem dot_abs {x w : Nat → Int} {B : Nat} : ∀ {n : Nat}, (∀ i, i < n → -(B : Int) ≤ x i ∧ x i ≤ B) → -((B * vA w n : Nat) : Int) ≤ dot (fun i => x i * w i) n ∧ dot (fun i => x i * w i) n ≤ ((B * vA w n : Nat) : Int)
  | 0, _ => by simp [dot, vA]
  | n + 1, h => by
    have h1 := dot_abs (x := x) (w := w) (B := B) (n := n) fun i hi => h i (by omega)
    have h2 := abs_mul (w := w n) (h n (by omega))
    simp only [dot, vA, Nat.mul_add]
    generalize x n * w n = p at h2 ⊢
    omega
theorem lens_in {kind n : Nat} (h : lenB (kind : Nat) n = true) (hk : kind < 3) : n ∈ [4, 8, 16, 32, 64] ∧ kind ∈ [0, 1, 2] := by
  unfold lenB at h
  obtain rfl | rfl | rfl : kind = 0 ∨ kind = 1 ∨ kind = 2 := by omega
  · have := of_decide_eq_true (show decide (n = 4 ∨ n = 8 ∨ n = 16 ∨ n = 32 ∨ n = 64) = true from h)
    exact ⟨by simp; omega, by decide⟩
  · have := of_decide_eq_true (show decide (n = 4 ∨ n = 8 ∨ n = 16) = true from h)
    exact ⟨by simp; omega, by decide⟩
  · have := of_decide_eq_true (show decide (n = 4 ∨ n = 8 ∨ n = 16 ∨ n = 32) = true from h)
    exact ⟨by simp; omega, by decide⟩
theorem colB : ∀ n ∈ [4, 8, 16, 32, 64], ∀ kind ∈ [0, 1, 2], lenB ((kind : Nat) : Int) n = true → ∀ i ∈ List.range n, vA (fun k => wS kind n k i) n ≤ 262000 := by decide +kernel
theorem back2 {l : List Int} {B : Nat} (hl : l.length = 4) (h : ∀ i, -(B : Int) ≤ gx l i ∧ gx l i ≤ B) (i : Nat) : -((2 * B : Nat) : Int) ≤ gx (invS 3 l) i ∧ gx (invS 3 l) i ≤ (2 * B : Nat) := by
  have a0 := h 0
  have a1 := h 1
  have a2 := h 2
  have a3 := h 3
  show -((2 * B : Nat) : Int) ≤ gx (backS (gx l 0) (gx l 1) (gx l 2) (gx l 3)) i ∧ gx (backS (gx l 0) (gx l 1) (gx l 2) (gx l 3)) i ≤ (2 * B : Nat)
  generalize gx l 0 = a at *
  generalize gx l 1 = b at *
  generalize gx l 2 = c at *
  generalize gx l 3 = d at *
  rw [back_e rfl]
  have h2 : 2 * ((a + b - (c - d)) / 2) ≤ a + b - (c - d) ∧ a + b - (c - d) ≤ 2 * ((a + b - (c - d)) / 2) + 1 := by omega
  generalize (a + b - (c - d)) / 2 = e at h2 ⊢
  match i with
  | 0 => show -((2 * B : Nat) : Int) ≤ a + b - (e - d) ∧ a + b - (e - d) ≤ (2 * B : Nat); omega
  | 1 => show -((2 * B : Nat) : Int) ≤ e - d ∧ e - d ≤ (2 * B : Nat); omega
  | 2 => show -((2 * B : Nat) : Int) ≤ e - b ∧ e - b ≤ (2 * B : Nat); omega
  | 3 => show -((2 * B : Nat) : Int) ≤ c - d + (e - b) ∧ c - d + (e - b) ≤ (2 * B : Nat); omega
  | i + 4 => show -((2 * B : Nat) : Int) ≤ (0 : Int) ∧ (0 : Int) ≤ (2 * B : Nat); omega
theorem inv_b {kind : Nat} {x : List Int} (hl : lenB (kind : Nat) x.length = true) (hk : kind < 3) (h : ∀ i, i < x.length → -(32768 : Int) ≤ gx x i ∧ gx x i ≤ 32768) (i : Nat) : -2096128 ≤ gx (invS kind x) i ∧ gx (invS kind x) i ≤ 2096128 := by
  obtain ⟨h1, h2⟩ := lens_in hl hk
  unfold invS
  rw [if_neg (by omega)]
  by_cases hi : i < x.length
  · rw [gx_map hi]
    have hc := colB _ h1 _ h2 hl i (List.mem_range.2 hi)
    have hd := dot_abs (x := gx x) (w := fun k => wS kind x.length k i) (B := 32768) h
    unfold invK rnd
    generalize dot (fun k => gx x k * wS kind x.length k i) x.length = d at *
    generalize vA (fun k => wS kind x.length k i) x.length = v at *
    omega
  · unfold gx; rw [List.getD_eq_getElem?_getD, List.getElem?_eq_none (by simp; omega)]; decide
section
variable {n s : Nat} {typ : Int} {x : List Int}
theorem fI_b (r : Int) (h9 : typ ≠ 9) : -32768 ≤ fI n typ r ∧ fI n typ r ≤ 32767 := by
  unfold fI; rw [if_neg h9]; exact clipS_b _
theorem invH1_b (h9 : typ ≠ 9) (r c : Nat) : -32768 ≤ invH1 n s typ x r c ∧ invH1 n s typ x r c ≤ 32767 := by
  have e : invH1 n s typ x r c = if r < s ∨ (r = s ∧ c < 0) then fI n typ (gx (invY1 n s typ x r) c) else inG0 s x (s * s) r c := rfl
  rw [e]; split
  · exact fI_b _ h9
  · exact inG0_b
theorem kinds_lt (hz : Szt n typ) (h9 : typ ≠ 9) (ht : 0 ≤ typ ∧ typ < 9) : (kindsS typ).1.toNat < 3 ∧ (kindsS typ).2.toNat < 3 := by
  unfold kindsS; rw [if_neg h9]
  obtain ⟨k, rfl⟩ := Int.eq_ofNat_of_zero_le ht.1
  have h3 : ((k : Nat) : Int).tmod 3 = ((k % 3 : Nat) : Int) := tmodN k 3
  have h4 : ((k : Nat) : Int).tdiv 3 = ((k / 3 : Nat) : Int) := tdivN k 3
  dsimp only
  rw [h3, h4, i64w (by omega)]
  omega
theorem gx_line_b {b : Bool} {k : Nat} {G : Nat → Nat → Int} {P : Int → Prop} (h : ∀ r c, P (G r c)) (h0 : P 0) (i : Nat) : P (gx (lineL b n G k) i) := by
  rcases gx_line (b := b) (n := n) (k := k) (i := i) (G := G) with e | e
  · rw [e]; unfold lnG; split <;> exact h _ _
  · rw [e]; exact h0
theorem invH2_b (hz : Szt n typ) (ht : 0 ≤ typ ∧ typ ≤ 9) (hs : s ≤ n) {r c : Nat} (hr : r < n) (hc : c < n) : -131072 ≤ invH2 n s typ x r c ∧ invH2 n s typ x r c ≤ 131072 := by
  have e : invH2 n s typ x r c = if c < n ∨ (c = n ∧ r < 0) then rdS 4 typ (gx (invY2 n s typ x c) r) else invH1 n s typ x r c := rfl
  rw [e, if_pos (.inl hc)]
  by_cases h9 : typ = 9
  · obtain ⟨h4, hk⟩ := hz.wht h9
    unfold rdS; rw [if_pos h9]
    have h1 : ∀ r c, -((65536 : Nat) : Int) ≤ invH1 n s typ x r c ∧ invH1 n s typ x r c ≤ (65536 : Nat) := by
      intro r c
      have e : invH1 n s typ x r c = if r < s ∨ (r = s ∧ c < 0) then fI n typ (gx (invY1 n s typ x r) c) else inG0 s x (s * s) r c := rfl
      rw [e]; split
      · unfold fI rdS; rw [if_pos h9, if_pos h9]
        unfold invY1; rw [hk]
        have := back2 (l := lineL true n (inG0 s x (s * s)) r) (B := 32768) (by rw [lineL_len]; exact h4) (gx_line_b (P := fun v => -((32768 : Nat) : Int) ≤ v ∧ v ≤ (32768 : Nat)) (fun r c => by have := inG0_b (s := s) (x := x) (t := s * s) (r := r) (c := c); omega) (by omega)) c
        show -((65536 : Nat) : Int) ≤ gx (invS 3 _) c ∧ gx (invS 3 _) c ≤ (65536 : Nat)
        omega
      · have := inG0_b (s := s) (x := x) (t := s * s) (r := r) (c := c); omega
    unfold invY2; rw [hk]
    have := back2 (l := lineL false n (invH1 n s typ x) c) (B := 65536) (by rw [lineL_len]; exact h4) (gx_line_b (P := fun v => -((65536 : Nat) : Int) ≤ v ∧ v ≤ (65536 : Nat)) h1 (by omega)) r
    show -131072 ≤ gx (invS 3 _) r ∧ gx (invS 3 _) r ≤ 131072
    omega
  · have hk := lenB_kind hz.k2
    have hk3 := (kinds_lt hz h9 (by omega)).2
    have := inv_b (kind := (kindsS typ).2.toNat) (x := lineL false n (invH1 n s typ x) c) (by rw [lineL_len, Int.toNat_of_nonneg hk.1]; exact hz.k2) hk3 (fun i _ => gx_line_b (P := fun v => -(32768 : Int) ≤ v ∧ v ≤ 32768) (fun r c => by have := invH1_b (n := n) (s := s) (x := x) h9 r c; omega) (by omega) i) r
    have e2 : gx (invY2 n s typ x c) r = gx (invS (kindsS typ).2.toNat (lineL false n (invH1 n s typ x) c)) r := rfl
    rw [e2]
    generalize gx (invS (kindsS typ).2.toNat (lineL false n (invH1 n s typ x) c)) r = v at *
    unfold rdS roundS; rw [if_neg h9, if_neg (by decide)]
    have e4 : (2 : Int) ^ (4 - 1) = 8 ∧ (2 : Int) ^ 4 = 16 := ⟨by decide, by decide⟩
    rw [e4.1, e4.2]
    omega
theorem invH2_same {x' : List Int} (h : inG0 s x (s * s) = inG0 s x' (s * s)) : invH2 n s typ x = invH2 n s typ x' := by
  unfold invH2 invY2 invH1 invY1
  rw [h]
theorem inv_zero {kind : Nat} {x : List Int} (h : ∀ i, gx x i = 0) (i : Nat) : gx (invS kind x) i = 0 := by
  unfold invS
  split
  · rw [h 0, h 1, h 2, h 3]
    match i with
    | 0 => rfl
    | 1 => rfl
    | 2 => rfl
    | 3 => rfl
    | i + 4 => rfl
  · by_cases hi : i < x.length
    · rw [gx_map hi]
      unfold invK
      rw [dot_congr (g := fun _ => 0) (fun k _ => by rw [h k, Int.zero_mul])]
      have : ∀ n, dot (fun _ => 0) n = 0 := by intro n; induction n with
        | zero => rfl
        | succ n ih => simp [dot, ih]
      rw [this]; rfl
    · unfold gx; rw [List.getD_eq_getElem?_getD, List.getElem?_eq_none (by simp; omega)]; rfl
theorem rd_zero {b : Nat} (hb : b ≤ 8) : rdS b typ 0 = 0 := by
  unfold rdS roundS
  split
  · rfl
  · split
    · rfl
    · match b, hb with
      | 0, _ => contradiction
      | 1, _ => decide
      | 2, _ => decide
      | 3, _ => decide
      | 4, _ => decide
      | 5, _ => decide
      | 6, _ => decide
      | 7, _ => decide
      | 8, _ => decide
theorem invH2_zero (h : ∀ r c, inG0 s x (s * s) r c = 0) (r c : Nat) : invH2 n s typ x r c = 0 := by
  have h1 : ∀ r c, invH1 n s typ x r c = 0 := by
    intro r c
    have e : invH1 n s typ x r c = if r < s ∨ (r = s ∧ c < 0) then fI n typ (gx (invY1 n s typ x r) c) else inG0 s x (s * s) r c := rfl
    rw [e]; split
    · unfold invY1
      rw [inv_zero (gx_line_b (P := fun v => v = 0) h rfl)]
      unfold fI
      rw [rd_zero (bitsN_le n)]
      split
      · rfl
      · rfl
    · exact h r c
  have e : invH2 n s typ x r c = if c < n ∨ (c = n ∧ r < 0) then rdS 4 typ (gx (invY2 n s typ x c) r) else invH1 n s typ x r c := rfl
  rw [e]; split
  · unfold invY2
    rw [inv_zero (gx_line_b (P := fun v => v = 0) h1 rfl)]
    exact rd_zero (by decide)
  · exact h1 r c
end
theorem ask_all {n : Nat} (hn : n = 4 ∨ n = 8 ∨ n = 16 ∨ n = 32 ∨ n = 64) {typ : Int} (ht : typ ∈ typesS n) {x : List Int} {side : Nat} {b : Int} (hs : side ≤ 64) (hl : x.length = side * side) (hb : inB b x = true) : askS n typ x side b = 0 := by
  have := Nat.mul_le_mul hs hs
  unfold askS
  have h1 : (typesS n).length ≠ 0 := by intro h; rw [List.length_eq_zero_iff.1 h] at ht; cases ht
  rw [if_neg h1, show (typesS n).contains typ = true by simpa using ht, if_neg (by decide), if_neg, if_pos hb]
  rw [← Int.natCast_mul, i64w (by omega), hl]; simp
theorem typ_b {n : Nat} (hn : n = 4 ∨ n = 8 ∨ n = 16 ∨ n = 32 ∨ n = 64) {typ : Int} (ht : typ ∈ typesS n) : 0 ≤ typ ∧ typ ≤ 9 := by
  have key : ∀ n ∈ [4, 8, 16, 32, 64], ∀ t ∈ typesS ((n : Nat) : Int), 0 ≤ t ∧ t ≤ 9 := by decide +kernel
  exact key n (by simp; omega) typ ht
def sideN (n : Nat) : Nat := (min32 n).toNat
theorem side_n {n : Nat} (hn : n = 4 ∨ n = 8 ∨ n = 16 ∨ n = 32 ∨ n = 64) : min32 n = (sideN n : Nat) ∧ sideN n ≤ n ∧ 4 ≤ sideN n ∧ sideN n ≤ 32 ∧ (sideS n).1 = (sideN n : Nat) ∧ (sideS n).2 = 0 := by
  rcases hn with rfl | rfl | rfl | rfl | rfl <;> decide
/-- What the law of the bounds says of one kind. -/
theorem bounded8 {n : Nat} (hn : n = 4 ∨ n = 8 ∨ n = 16 ∨ n = 32 ∨ n = 64) {typ : Int} (ht : typ ∈ typesS n) {x z : List Int} (hx : x.length = sideN n * sideN n) (hxb : inB 1048576 x = true) (hz : z.length = n * n) (hzb : inB 255 z = true) :
    (∃ a, invB n typ x = (a, 0) ∧ invB n typ (x.map clipS) = (a, 0) ∧ a.length = n * n ∧ ∀ v ∈ a, -131072 ≤ v ∧ v ≤ 131072) ∧
    invB n typ (List.replicate (sideN n * sideN n) 0) = (List.replicate (n * n) 0, 0) ∧
    ∃ d, fwdB n typ z = (d, 0) ∧ d.length = sideN n * sideN n ∧ ∀ v ∈ d, -32768 ≤ v ∧ v ≤ 32767 := by
  obtain ⟨s1, s2, s3, s4, _, _⟩ := side_n hn
  have hN : (n : Int) = 4 ∨ (n : Int) = 8 ∨ (n : Int) = 16 ∨ (n : Int) = 32 ∨ (n : Int) = 64 := by omega
  obtain ⟨hz', _⟩ := szt_of hN ht
  rw [Int.toNat_natCast] at hz'
  have tb := typ_b hn ht
  have n64 : n ≤ 64 := by omega
  generalize sideN n = s at *
  have tn : (n : Int).toNat = n := Int.toNat_natCast n
  refine ⟨⟨gridL n (invH2 n s typ x), ?_, ?_, gridL_len _ _, ?_⟩, ?_, ⟨subL s (fwH2 n s typ z) s, ?_, subL_len _ _ _, ?_⟩⟩
  · unfold invB; rw [s1, ask_all hn ht (by omega) hx hxb, if_pos rfl, tn, Int.toNat_natCast]
  · have hb : inB 1048576 (x.map clipS) = true := by
      unfold inB; rw [List.all_eq_true]; intro v hv
      obtain ⟨w, _, rfl⟩ := List.mem_map.1 hv
      have := clipS_b w
      exact decide_eq_true (by omega)
    unfold invB; rw [s1, ask_all hn ht (by omega) (by rw [List.length_map]; exact hx) hb, if_pos rfl, tn, Int.toNat_natCast]
    rw [invH2_same (x' := x)]
    funext r c
    unfold inG0
    split
    · rename_i h
      have e : gx (x.map clipS) (r * s + c) = clipS (gx x (r * s + c)) := by
        unfold gx
        rw [List.getD_eq_getElem?_getD, List.getD_eq_getElem?_getD, List.getElem?_map, List.getElem?_eq_getElem (show r * s + c < x.length by omega)]; rfl
      rw [e]
      exact clipS_in (clipS_b _)
    · rfl
  · intro v hv
    obtain ⟨t, ht, rfl⟩ := List.mem_map.1 hv
    have ht := List.mem_range.1 ht
    exact invH2_b hz' tb s2 (Nat.div_lt_of_lt_mul ht) (Nat.mod_lt _ (by omega))
  · have hb : inB 1048576 (List.replicate (s * s) 0) = true := by
      unfold inB; rw [List.all_eq_true]; intro v hv
      rw [(List.mem_replicate.1 hv).2]; decide
    unfold invB; rw [s1, ask_all hn ht (by omega) (by simp) hb, if_pos rfl, tn, Int.toNat_natCast]
    rw [grid_congr (H := fun _ _ => 0) fun r c _ _ => invH2_zero (fun r c => ?_) r c, grid_zero]
    unfold inG0
    split
    · have e : gx (List.replicate (s * s) (0 : Int)) (r * s + c) = 0 := by
        unfold gx; rw [List.getD_eq_getElem?_getD, List.getElem?_replicate]; split <;> rfl
      rw [e]; rfl
    · rfl
  · unfold fwdB; rw [ask_all hn ht n64 hz hzb, if_pos rfl, tn, s1, Int.toNat_natCast]
  · intro v hv
    rw [subL_grid] at hv
    obtain ⟨t, ht2, rfl⟩ := List.mem_map.1 hv
    have ht2 := List.mem_range.1 ht2
    have hr : t / s < s := Nat.div_lt_of_lt_mul ht2
    have hc : t % s < s := Nat.mod_lt _ (by omega)
    generalize t / s = r at hr
    generalize t % s = c at hc
    have e : fwH2 n s typ z r c = if r < s ∨ (r = s ∧ c < 0) then scS n typ (gx (fwY2 n typ z r) c) else fwH1 n typ z r c := rfl
    rw [e, if_pos (.inl hr)]
    by_cases h9 : typ = 9
    · obtain ⟨h4, hk⟩ := hz'.wht h9
      unfold scS; rw [if_pos h9]
      have hb := fw_b hzb
      have h1 : ∀ r c, r < n → c < n → -((510 : Nat) : Int) * 3 ≤ fwH1 n typ z r c ∧ fwH1 n typ z r c ≤ (510 : Nat) * 3 := by
        intro r c hr hc
        have e : fwH1 n typ z r c = if c < n ∨ (c = n ∧ r < 0) then rdS 0 typ (gx (fwY1 n typ z c) r) else fwG0 n z r c := rfl
        rw [e, if_pos (.inl hc), rdS_0]
        unfold fwY1; rw [hk]
        have := f4_b (l := lineL false n (fwG0 n z) c) (B := 255) (by rw [lineL_len]; exact h4) (gx_line_b (P := fun v => -((255 : Nat) : Int) ≤ v ∧ v ≤ (255 : Nat)) (fun r c => hb _) (by omega)) r
        show _ ≤ gx (fwdS 3 _) r ∧ gx (fwdS 3 _) r ≤ _
        omega
      unfold fwY2; rw [hk]
      have := f4_b (l := lineL true n (fwH1 n typ z) r) (B := 1530) (by rw [lineL_len]; exact h4) (fun i => ?_) c
      · show _ ≤ gx (fwdS 3 _) c ∧ gx (fwdS 3 _) c ≤ _
        omega
      · by_cases hi : i < n
        · rw [gx_line' hi]; have := h1 r i (by omega) hi; show -((1530 : Nat) : Int) ≤ fwH1 n typ z r i ∧ fwH1 n typ z r i ≤ (1530 : Nat); omega
        · unfold gx; rw [List.getD_eq_getElem?_getD, List.getElem?_eq_none (by rw [lineL_len]; omega)]; simp
    · unfold scS; rw [if_neg h9]; exact clipS_b _
end Go.Zt

