/- Layer 8: TxfmLossless. -/
import Derived.Test.YtpfhalehdgcbeaaZge
import Derived.Test.YtpfhalehdgcbeaaZgDh
set_option linter.unusedSimpArgs false
set_option linter.unusedVariables false
namespace Go.Zt
open Go Go.Sim Go.Proofs Go.RowKit

theorem bf4 {l : List Int} (h : l.length = 4) : invS 3 (fwdS 3 l) = l := by
  have := wht_back (a := gx l 0) (b := gx l 1) (c := gx l 2) (d := gx l 3)
  rw [← four h] at this; exact this
theorem f4_len {l : List Int} : (fwdS 3 l).length = 4 := rfl
theorem f4_b {l : List Int} {B : Nat} (hl : l.length = 4) (h : ∀ i, -(B : Int) ≤ gx l i ∧ gx l i ≤ B) (i : Nat) : -((5 * B : Nat) : Int) ≤ gx (fwdS 3 l) i ∧ gx (fwdS 3 l) i ≤ (5 * B : Nat) := by
  have a0 := h 0
  have a1 := h 1
  have a2 := h 2
  have a3 := h 3
  show -((5 * B : Nat) : Int) ≤ gx (forthS (gx l 0) (gx l 1) (gx l 2) (gx l 3)) i ∧ gx (forthS (gx l 0) (gx l 1) (gx l 2) (gx l 3)) i ≤ (5 * B : Nat)
  generalize gx l 0 = a at *
  generalize gx l 1 = b at *
  generalize gx l 2 = c at *
  generalize gx l 3 = d at *
  rw [forth_e rfl]
  have h2 : 2 * ((a + b - (d - c)) / 2) ≤ a + b - (d - c) ∧ a + b - (d - c) ≤ 2 * ((a + b - (d - c)) / 2) + 1 := by omega
  generalize (a + b - (d - c)) / 2 = e at h2 ⊢
  match i with
  | 0 => show -((5 * B : Nat) : Int) ≤ a + b - (e - c) ∧ a + b - (e - c) ≤ (5 * B : Nat); omega
  | 1 => show -((5 * B : Nat) : Int) ≤ e - c ∧ e - c ≤ (5 * B : Nat); omega
  | 2 => show -((5 * B : Nat) : Int) ≤ d - c + (e - b) ∧ d - c + (e - b) ≤ (5 * B : Nat); omega
  | 3 => show -((5 * B : Nat) : Int) ≤ e - b ∧ e - b ≤ (5 * B : Nat); omega
  | i + 4 => show -((5 * B : Nat) : Int) ≤ (0 : Int) ∧ (0 : Int) ≤ (5 * B : Nat); omega
theorem line_of {b : Bool} {n : Nat} {G : Nat → Nat → Int} {k : Nat} {L : List Int} (hL : L.length = n) (h : ∀ i, i < n → lnG b G k i = gx L i) : lineL b n G k = L := by
  refine List.ext_getElem? fun i => ?_
  unfold lineL
  by_cases hi : i < n
  · rw [List.getElem?_map, List.getElem?_range hi, List.getElem?_eq_getElem (show i < L.length by omega)]
    show some (lnG b G k i) = _
    rw [h i hi]; unfold gx
    rw [List.getD_eq_getElem?_getD, List.getElem?_eq_getElem (show i < L.length by omega)]; rfl
  · rw [List.getElem?_eq_none (by simp; omega), List.getElem?_eq_none (by omega)]
theorem gx_line' {b : Bool} {n k i : Nat} {G : Nat → Nat → Int} (h : i < n) : gx (lineL b n G k) i = lnG b G k i := gx_map h
theorem clipS_in {v : Int} (h : -32768 ≤ v ∧ v ≤ 32767) : clipS v = v := by unfold clipS; split <;> (try split) <;> omega
theorem subL_grid (n : Nat) (G : Nat → Nat → Int) : subL n G n = gridL n G := by
  have key : ∀ k, k ≤ n → subL n G k = (gridL n G).take (k * n) := by
    intro k
    induction k with
    | zero => intro _; simp [subL]
    | succ k ih =>
      intro hk
      unfold subL at *
      rw [range_flat_succ, ih (by omega)]
      have hkn : k * n + n ≤ n * n := by
        have : (k + 1) * n ≤ n * n := Nat.mul_le_mul_right _ hk
        rw [Nat.add_mul, Nat.one_mul] at this; exact this
      rw [Nat.add_mul, Nat.one_mul, List.take_add]
      congr 1
      refine List.ext_getElem? fun i => ?_
      by_cases hi : i < n
      · rw [List.getElem?_take, if_pos hi, List.getElem?_drop, gridL_at (by omega) hi, List.getElem?_map, List.getElem?_range hi]; rfl
      · rw [List.getElem?_eq_none (by simp; omega), List.getElem?_eq_none (by simp; omega)]
  rw [key n (Nat.le_refl _), List.take_of_length_le (by rw [gridL_len]; omega)]
theorem gx_grid {n r c : Nat} {G : Nat → Nat → Int} (hr : r < n) (hc : c < n) : gx (gridL n G) (r * n + c) = G r c := by
  unfold gx; rw [List.getD_eq_getElem?_getD, gridL_at hr hc]; rfl
theorem grid_congr {n : Nat} {G H : Nat → Nat → Int} (h : ∀ r c, r < n → c < n → G r c = H r c) : gridL n G = gridL n H := by
  unfold gridL
  refine List.map_congr_left fun t ht => ?_
  have ht := List.mem_range.1 ht
  have hn : 0 < n := by
    rcases Nat.eq_zero_or_pos n with rfl | h
    · omega
    · exact h
  exact h _ _ (Nat.div_lt_of_lt_mul ht) (Nat.mod_lt _ hn)
/-- Nothing is lost. -/
theorem lossless {x : List Int} (hl : x.length = 16) (hx : inB 255 x = true) : ∃ a, fwdB 4 9 x = (a, 0) ∧ a.length = 16 ∧ invB 4 9 a = (x, 0) := by
  have k3 : (kindsS 9).1 = 3 ∧ (kindsS 9).2 = 3 := ⟨rfl, rfl⟩
  have h16 : IntKind.i64.wrap (4 * 4) = 16 := by rw [i64w (by omega)]; rfl
  have ask : ∀ {b : Int} {z : List Int}, z.length = 16 → inB b z = true → askS 4 9 z 4 b = 0 := by
    intro b z hz hb
    unfold askS
    rw [if_neg (by decide), show (typesS 4).contains 9 = true by decide, if_neg (by decide), if_neg (by rw [hz, h16]; decide), if_pos hb]
  have m32 : min32 4 = 4 := rfl
  have t4 : (4 : Int).toNat = 4 := rfl
  have hb := fw_b hx
  -- the columns
  have c0 : ∀ c, c < 4 → ∀ i, gx (lineL false 4 (fwG0 4 x) c) i = if i < 4 then gx x (i * 4 + c) else 0 := by
    intro c hc i
    split
    · rename_i h; rw [gx_line' h]; rfl
    · unfold gx; rw [List.getD_eq_getElem?_getD, List.getElem?_eq_none (by rw [lineL_len]; omega)]; rfl
  have cb : ∀ c, c < 4 → ∀ i, -((255 : Nat) : Int) ≤ gx (lineL false 4 (fwG0 4 x) c) i ∧ gx (lineL false 4 (fwG0 4 x) c) i ≤ (255 : Nat) := by
    intro c hc i
    rw [c0 c hc i]; split
    · exact hb _
    · omega
  have h1 : ∀ r c, r < 4 → c < 4 → fwH1 4 9 x r c = gx (fwdS 3 (lineL false 4 (fwG0 4 x) c)) r := by
    intro r c hr hc
    have e : fwH1 4 9 x r c = if c < 4 ∨ (c = 4 ∧ r < 0) then rdS 0 9 (gx (fwY1 4 9 x c) r) else fwG0 4 x r c := rfl
    rw [e, if_pos (.inl hc), rdS_0]; rfl
  have h1b : ∀ r c, r < 4 → c < 4 → -((1275 : Nat) : Int) ≤ fwH1 4 9 x r c ∧ fwH1 4 9 x r c ≤ (1275 : Nat) := by
    intro r c hr hc; rw [h1 r c hr hc]; exact f4_b lineL_len (cb c hc) r
  have rb : ∀ r, r < 4 → ∀ i, -((1275 : Nat) : Int) ≤ gx (lineL true 4 (fwH1 4 9 x) r) i ∧ gx (lineL true 4 (fwH1 4 9 x) r) i ≤ (1275 : Nat) := by
    intro r hr i
    by_cases hi : i < 4
    · rw [gx_line' hi]; exact h1b r i hr hi
    · unfold gx; rw [List.getD_eq_getElem?_getD, List.getElem?_eq_none (by rw [lineL_len]; omega)]; simp
  have h2 : ∀ r c, r < 4 → c < 4 → fwH2 4 4 9 x r c = gx (fwdS 3 (lineL true 4 (fwH1 4 9 x) r)) c := by
    intro r c hr hc
    have e : fwH2 4 4 9 x r c = if r < 4 ∨ (r = 4 ∧ c < 0) then scS 4 9 (gx (fwY2 4 9 x r) c) else fwH1 4 9 x r c := rfl
    rw [e, if_pos (.inl hr)]; unfold scS; rw [if_pos rfl]; rfl
  have h2b : ∀ r c, r < 4 → c < 4 → -((6375 : Nat) : Int) ≤ fwH2 4 4 9 x r c ∧ fwH2 4 4 9 x r c ≤ (6375 : Nat) := by
    intro r c hr hc; rw [h2 r c hr hc]; exact f4_b lineL_len (rb r hr) c
  have ef : fwdB 4 9 x = (gridL 4 (fwH2 4 4 9 x), 0) := by
    unfold fwdB
    rw [ask hl hx, if_pos rfl, m32, t4, subL_grid]
  refine ⟨_, ef, gridL_len 4 _, ?_⟩
  generalize ha : gridL 4 (fwH2 4 4 9 x) = a
  have hal : a.length = 16 := by rw [← ha]; exact gridL_len 4 _
  have hain : inB 1048576 a = true := by
    rw [← ha]
    unfold inB gridL
    rw [List.all_eq_true]
    intro v hv
    obtain ⟨t, ht, rfl⟩ := List.mem_map.1 hv
    have ht := List.mem_range.1 ht
    have := h2b (t / 4) (t % 4) (by omega) (by omega)
    exact decide_eq_true (by omega)
  have g0 : ∀ r c, r < 4 → c < 4 → inG0 4 a (4 * 4) r c = fwH2 4 4 9 x r c := by
    intro r c hr hc
    unfold inG0
    rw [if_pos ⟨hr, hc, by omega⟩, ← ha, gx_grid hr hc]
    have := h2b r c hr hc
    exact clipS_in (by omega)
  have y1 : ∀ r, r < 4 → invY1 4 4 9 a r = lineL true 4 (fwH1 4 9 x) r := by
    intro r hr
    unfold invY1
    rw [show (kindsS 9).1.toNat = 3 from rfl, line_of (L := fwdS 3 (lineL true 4 (fwH1 4 9 x) r)) f4_len fun i hi => ?_]
    · exact bf4 lineL_len
    · show inG0 4 a (4 * 4) r i = _
      rw [g0 r i hr hi, h2 r i hr hi]
  have i1 : ∀ r c, r < 4 → c < 4 → invH1 4 4 9 a r c = fwH1 4 9 x r c := by
    intro r c hr hc
    have e : invH1 4 4 9 a r c = if r < 4 ∨ (r = 4 ∧ c < 0) then fI 4 9 (gx (invY1 4 4 9 a r) c) else inG0 4 a (4 * 4) r c := rfl
    rw [e, if_pos (.inl hr), y1 r hr, gx_line' hc]
    unfold fI rdS; rw [if_pos rfl, if_pos rfl]; rfl
  have y2 : ∀ c, c < 4 → invY2 4 4 9 a c = lineL false 4 (fwG0 4 x) c := by
    intro c hc
    unfold invY2
    rw [show (kindsS 9).2.toNat = 3 from rfl, line_of (L := fwdS 3 (lineL false 4 (fwG0 4 x) c)) f4_len fun i hi => ?_]
    · exact bf4 lineL_len
    · show invH1 4 4 9 a i c = _
      rw [i1 i c hi hc, h1 i c hi hc]
  unfold invB
  rw [m32, ask hal hain, if_pos rfl, t4, grid_congr (H := fwG0 4 x) fun r c hr hc => ?_, fwG0_grid (by omega)]
  have e : invH2 4 4 9 a r c = if c < 4 ∨ (c = 4 ∧ r < 0) then rdS 4 9 (gx (invY2 4 4 9 a c) r) else invH1 4 4 9 a r c := rfl
  rw [e, if_pos (.inl hc), y2 c hc, gx_line' hr]
  unfold rdS; rw [if_pos rfl]; rfl
theorem c5 {M : Mem} (hf : M.floor ≤ M.nb.size) {A : Option Addr} {n c : Nat} {y : List Int} (hA : Row M A (Ints y)) (hn : n = y.length) (hb : n ≤ 1048576) : Cn Try.prog 5 #[.slice A n c] M fun v _ => v = .bool true := by
  refine w5_0 (Cn.mono (c15 hf) ?_)
  rintro _ N1 ⟨rfl, K1⟩
  refine ⟨_, rfl, fun h => (by cases h), fun _ => Cn.mono (c18 (n := 4) (m := 255) (fb hf K1) (hA.keep K1) hn hb (by decide) (by decide)) ?_⟩
  rintro _ N2 ⟨A2, d2, rfl, K2, O2⟩
  have hl := blkL_len 4 255 y
  have hx := blkL_in 4 255 y
  generalize blkL 4 255 y = x at *
  obtain ⟨a, e1, e2, e3⟩ := lossless hl hx
  have K02 := K1.trans K2
  refine ⟨_, rfl, Cn.mono (c16 (sz := 4) (typ := 9) (x := x) (fb hf K02) O2.row rfl (by omega)) ?_⟩
  rw [e1]
  rintro _ N3 ⟨A3, d3, rfl, K3, O3, _⟩
  have K03 := K02.trans K3
  refine ⟨_, rfl, _, rfl, _, rfl, Cn.mono (c12 (sz := 4) (typ := 9) (x := a) (fb hf K03) O3.row rfl (by omega)) ?_⟩
  rw [e3]
  rintro _ N4 ⟨A4, d4, rfl, K4, O4, _⟩
  refine ⟨_, rfl, _, rfl, _, rfl, fun _ => ⟨fun _ => ?_, fun h => absurd rfl h⟩, fun h => absurd rfl h⟩
  exact Cn.eq (c19 O4.row ((O2.row.keep K3).keep K4) rfl rfl (by dsimp only; omega)) ⟨_, rfl, by simp⟩
theorem law5 {W : World} {u0 : Value} (s0 : Sees Try.prog (mem0 W) 1048576 8 22 [u0]) : Cn Try.prog 5 #[u0] (mem0 W) fun v _ => v = .bool true := by
  obtain ⟨A, n, c, l, e, h1, h2, h3, h4, _⟩ := sees_ints (e := 3) (by kernel_rfl) (by kernel_rfl) s0
  obtain rfl : u0 = _ := by simpa using e
  exact c5 (Nat.zero_le _) h4 h1 h3
end Go.Zt

