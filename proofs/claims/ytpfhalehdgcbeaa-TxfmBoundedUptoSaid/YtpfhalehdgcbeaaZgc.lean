/- Layer 8: Forward of the program. -/
import Derived.Test.YtpfhalehdgcbeaaZgb
set_option linter.unusedSimpArgs false
set_option linter.unusedVariables false
namespace Go.Zt
open Go Go.Sim Go.Proofs Go.RowKit

def fwG0 (n : Nat) (x : List Int) : Nat → Nat → Int := fun r c => gx x (r * n + c)
theorem fwG0_grid {n : Nat} {x : List Int} (h : x.length = n * n) : gridL n (fwG0 n x) = x := by
  refine List.ext_getElem? fun t => ?_
  by_cases ht : t < n * n
  · have h3 : t / n * n + t % n = t := by have := Nat.div_add_mod t n; rw [Nat.mul_comm] at this; exact this
    unfold gridL
    rw [List.getElem?_map, List.getElem?_range ht]
    show some (gx x (t / n * n + t % n)) = _
    rw [h3]; unfold gx
    rw [List.getD_eq_getElem?_getD, List.getElem?_eq_getElem (show t < x.length by omega)]; rfl
  · rw [List.getElem?_eq_none (by rw [gridL_len]; omega), List.getElem?_eq_none (by omega)]
def fwY1 (n : Nat) (typ : Int) (x : List Int) (k : Nat) : List Int := fwdS (kindsS typ).2.toNat (lineL false n (fwG0 n x) k)
def fwH1 (n : Nat) (typ : Int) (x : List Int) : Nat → Nat → Int := updG false (fun k i => rdS 0 typ (gx (fwY1 n typ x k) i)) n 0 (fwG0 n x)
def fwY2 (n : Nat) (typ : Int) (x : List Int) (k : Nat) : List Int := fwdS (kindsS typ).1.toNat (lineL true n (fwH1 n typ x) k)
def fwH2 (n s : Nat) (typ : Int) (x : List Int) : Nat → Nat → Int := updG true (fun k i => scS n typ (gx (fwY2 n typ x k) i)) s 0 (fwH1 n typ x)
def subL (s : Nat) (G : Nat → Nat → Int) (k : Nat) : List Int := (List.range k).flatMap fun r => (List.range s).map (G r)
theorem subL_len (s : Nat) (G : Nat → Nat → Int) : ∀ k, (subL s G k).length = k * s
  | 0 => by simp [subL]
  | k + 1 => by
    have := subL_len s G k
    unfold subL at *
    rw [range_flat_succ, List.length_append, this, List.length_map, List.length_range, Nat.add_mul, Nat.one_mul]
def fwdB (n typ : Int) (x : List Int) : List Int × Nat := if askS n typ x n 255 = 0 then (subL (min32 n).toNat (fwH2 n.toNat (min32 n).toNat typ x) (min32 n).toNat, 0) else ([], askS n typ x n 255)
theorem rdS_0 {typ v : Int} : rdS 0 typ v = v := by unfold rdS roundS; split <;> simp
theorem gx_of {x : List Int} {P : Int → Prop} (h : ∀ v ∈ x, P v) (h0 : P 0) (i : Nat) : P (gx x i) := by
  unfold gx
  rcases Nat.lt_or_ge i x.length with hi | hi
  · rw [List.getD_eq_getElem?_getD, List.getElem?_eq_getElem hi]; exact h _ (List.getElem_mem hi)
  · rw [List.getD_eq_getElem?_getD, List.getElem?_eq_none hi]; exact h0
theorem fwd_small {kind : Nat} {x : List Int} (hl : lenB (kind : Nat) x.length = true) (h : ∀ i, -((255 : Nat) : Int) ≤ gx x i ∧ gx x i ≤ (255 : Nat)) (i : Nat) : -1048576 ≤ gx (fwdS kind x) i ∧ gx (fwdS kind x) i ≤ 1048576 := by
  have h64 := lenB_le hl
  refine gx_of (P := fun v => -1048576 ≤ v ∧ v ≤ 1048576) ?_ (by omega) i
  unfold fwdS
  split
  · have a0 := h 0
    have a1 := h 1
    have a2 := h 2
    have a3 := h 3
    generalize gx x 0 = a at *
    generalize gx x 1 = b at *
    generalize gx x 2 = c at *
    generalize gx x 3 = d at *
    rw [forth_e rfl]
    have h2 : 2 * ((a + b - (d - c)) / 2) ≤ a + b - (d - c) ∧ a + b - (d - c) ≤ 2 * ((a + b - (d - c)) / 2) + 1 := by omega
    generalize (a + b - (d - c)) / 2 = e at h2 ⊢
    intro v hv
    simp only [List.mem_cons, List.not_mem_nil, or_false] at hv
    rcases hv with rfl | rfl | rfl | rfl <;> omega
  · intro v hv
    obtain ⟨j, _, rfl⟩ := List.mem_map.1 hv
    have h1 := dot_b (m := x.length) (B := 255 * 16384) (f := fun i => gx x i * wS kind x.length j i) fun i _ => mulb (h i) (wS_b ..)
    unfold fwdK rnd
    have h2 : x.length * (255 * 16384) ≤ 267386880 := by omega
    generalize x.length * (255 * 16384) = q at h1 h2
    omega
section
variable {n s : Nat} {typ : Int} {x : List Int}
theorem fw_b (hx : inB 255 x = true) (i : Nat) : -((255 : Nat) : Int) ≤ gx x i ∧ gx x i ≤ (255 : Nat) :=
  gx_of (P := fun v => -((255 : Nat) : Int) ≤ v ∧ v ≤ (255 : Nat)) (fun v hv => by
    have := of_decide_eq_true (List.all_eq_true.1 hx v hv); omega) (by omega) i
theorem may_f1 (hz : Szt n typ) (hx : inB 255 x = true) (k : Nat) : mayB (kindsS typ).2 (lineL false n (fwG0 n x) k) = true :=
  may_line hz.k2 fun i _ => by
    show -1048576 ≤ gx x (i * n + k) ∧ gx x (i * n + k) ≤ 1048576
    have := fw_b hx (i * n + k); omega
theorem fwH1_near (hz : Szt n typ) (hx : inB 255 x = true) (r c : Nat) : -1048576 ≤ fwH1 n typ x r c ∧ fwH1 n typ x r c ≤ 1048576 := by
  have e : fwH1 n typ x r c = if c < n ∨ (c = n ∧ r < 0) then rdS 0 typ (gx (fwY1 n typ x c) r) else gx x (r * n + c) := rfl
  rw [e, rdS_0]
  split
  · unfold fwY1
    have hk := lenB_kind hz.k2
    refine fwd_small (by rw [lineL_len, Int.toNat_of_nonneg hk.1]; exact hz.k2) (fun i => ?_) r
    refine gx_of (P := fun v => -((255 : Nat) : Int) ≤ v ∧ v ≤ (255 : Nat)) (fun v hv => ?_) (by omega) i
    obtain ⟨j, _, rfl⟩ := List.mem_map.1 hv
    exact fw_b hx (j * n + c)
  · have := fw_b hx (r * n + c); omega
theorem may_f2 (hz : Szt n typ) (hx : inB 255 x = true) (k : Nat) : mayB (kindsS typ).1 (lineL true n (fwH1 n typ x) k) = true :=
  may_line hz.k1 fun i _ => fwH1_near hz hx k i
end
theorem c44 {M : Mem} (hf : M.floor ≤ M.nb.size) {A : Option Addr} {n c : Nat} {x : List Int} (hA : Row M A (Ints x)) (hn : n = x.length) (hb : n ≤ 1048576) (h0 : x ≠ []) : Cn Try.prog 44 #[.slice A n c] M (NewR M x) := by
  refine w44_0 ⟨fun h => ?_, fun h => ?_⟩
  · cases A with
    | none => exact absurd (List.map_eq_nil_iff.1 hA.none_nil) h0
    | some a => cases h
  · obtain ⟨B, d, N, g1, g2, g3, g4⟩ := clone_own el22 (n := n) (c := c) hA (by rw [List.length_map, hn, Nat.mul_one]) (by simp [List.all_eq_true, oneCell]) hf (by omega)
    rw [Nat.mul_one] at g3
    subst hn
    exact ⟨_, g1, _, rfl, B, d, rfl, g2, g3⟩
section
variable {M0 : Mem} {X A : Option Addr} {lx cx cap n s jc jt jb : Nat} {typ : Int} {x : List Int} {G : Nat → Nat → Int}
theorem row_cut (hs : s ≤ n) {r : Nat} (hr : r < n) : ((Ints (gridL n G)).drop (r * n * 1)).take ((r * n + s - r * n) * 1) = Ints ((List.range s).map (G r)) := by
  rw [Nat.mul_one, Nat.mul_one, show r * n + s - r * n = s by omega]
  refine List.ext_getElem? fun i => ?_
  by_cases hi : i < s
  · rw [List.getElem?_take, if_pos hi, List.getElem?_drop, List.getElem?_map, gridL_at hr (by omega), List.getElem?_map, List.getElem?_map, List.getElem?_range hi]; rfl
  · rw [List.getElem?_take, if_neg hi, List.getElem?_eq_none (by simp; omega)]
theorem c16_out (hf : M0.floor ≤ M0.nb.size) (hc : M0.nb.size ≤ jc) (hs : s ≤ n) (hn : n ≤ 64) (hcap : n * n ≤ cap) : ∀ (m r : Nat) (B : Option Addr) (cb : Nat) {M : Mem}, r + m = s → Keep M0 M → M.nb[jb]? = some (.cells #[.int .i64 (n : Nat), .slice A (n * n) cap] 43) → jb ≠ jc →
    Own (fun j => j = jc ∨ j = jb) M 3 A cap (Ints (gridL n G)) → Own (fun j => M0.nb.size ≤ j ∧ j ≠ jc ∧ j ≠ jb) M 3 B cb (Ints (subL s G r)) → jc < M.nb.size → jb < M.nb.size →
    A16_1 (n : Nat) (s : Nat) (some ⟨2 * jb, 0, none⟩) B (r * s) cb (s : Nat) (r : Nat) M (TfR M0 (subL s G s, 0)) := by
  have hnn : n * n ≤ 64 * 64 := Nat.mul_le_mul hn hn
  intro m
  induction m with
  | zero =>
    intro r B cb M hr K hst hne hO hB hjc hjb
    obtain rfl : s = r := by omega
    refine w16_1 ⟨fun h => by omega, fun _ => ⟨B, cb, by rw [show ((subL s G s, 0) : List Int × Nat).1 = subL s G s from rfl, subL_len]; rfl, K, hB.mono fun j _ h => h.1, by have := own_len hB; simpa using this⟩⟩
  | succ m ih =>
    intro r B cb M hr K hst hne hO hB hjc hjb
    have hrn : r * n + n ≤ n * n := by
      have : (r + 1) * n ≤ n * n := Nat.mul_le_mul_right _ (by omega)
      rw [Nat.add_mul, Nat.one_mul] at this; exact this
    have w1 : IntKind.i64.wrap ((r : Int) * (n : Nat)) = ((r * n : Nat) : Int) := by rw [← Int.natCast_mul, i64w (by omega)]
    have w2 : IntKind.i64.wrap (((r * n : Nat) : Int) + (s : Nat)) = ((r * n + s : Nat) : Int) := by rw [i64w (by omega)]; omega
    obtain ⟨Y, q1, q2, _⟩ := slice_row el22 (n := n * n) (c := cap) (l := r * n) (h := r * n + s) (lo := some (.int .i64 ((r * n : Nat) : Int))) (hi := some (.int .i64 ((r * n + s : Nat) : Int))) hO.row (by rw [List.length_map, gridL_len, Nat.mul_one]) hcap hO.none_zero (bound_lo rfl (by omega)) (bound_lo rfl (by omega)) (by omega) (by omega)
    rw [row_cut hs (by omega)] at q2
    refine w16_1 ⟨fun _ => ⟨_, rfl, _, sl_of hst rfl, ?_⟩, fun h => by omega⟩
    rw [w1, w2]
    refine ⟨_, q1, _, rfl, ?_⟩
    obtain ⟨B', cb', N, g1, g2, g3, g4⟩ := append_own el22 (S := fun j => M0.nb.size ≤ j ∧ j ≠ jc ∧ j ≠ jb) (M := M) (A := B) (c := cb) (n := r * s) (k := s) (cx := cap - r * n) (by rw [Nat.mul_one]; exact hB) (by rw [List.length_map, subL_len, Nat.mul_one]) q2 (by simp) (by simp [List.all_eq_true, oneCell]) (fun j hj => by rw [K.floor]; exact Nat.le_trans hf hj.1) ⟨K.size, by omega, by omega⟩ (by
      have h1 : r * s ≤ 64 * 64 := Nat.mul_le_mul (by omega) (by omega)
      omega)
    rw [Nat.mul_one] at g3
    rw [show r * n + s - r * n = s by omega]
    refine ⟨_, g1, _, rfl, ?_⟩
    rw [i64w (by omega), show ((r : Int) + 1) = ((r + 1 : Nat) : Int) by omega]
    dsimp only
    rw [show r * s + s = (r + 1) * s by rw [Nat.add_mul, Nat.one_mul]]
    refine ih (r + 1) B' cb' (by omega) (Keep.step K g2 fun j hj => hj.1) (at_chg hst g2 (by omega)) hne (hO.chg g2 fun j _ h1 h2 => by omega) ?_ (Nat.lt_of_lt_of_le hjc g2.size) (Nat.lt_of_lt_of_le hjb g2.size)
    rw [show Ints (subL s G (r + 1)) = Ints (subL s G r) ++ Ints ((List.range s).map (G r)) by
      rw [Ints, Ints, Ints, ← List.map_append]; congr 1; exact range_flat_succ ..]
    exact g3
end
end Go.Zt

