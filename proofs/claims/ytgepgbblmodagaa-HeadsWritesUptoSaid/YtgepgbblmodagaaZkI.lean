/- Layer 1: the program's writers. -/
import Derived.Test.YtgepgbblmodagaaZkH
set_option linter.unusedSimpArgs false
set_option linter.unusedVariables false
set_option maxRecDepth 20000
namespace Go.Zt
open Go Go.Sim Go.Proofs Go.RowKit
theorem numb_upd {f g : Nat → Nat} {a r : Nat} : ∀ {n : Nat}, r < n → (∀ i, i < n → i ≠ r → g (a + i) = f (a + i)) → f (a + r) = 0 → numb g a n = numb f a n + g (a + r) * 2 ^ (n - 1 - r)
  | 0, h, _, _ => by omega
  | n + 1, h, hg, hf => by
    by_cases hr : r = n
    · subst hr
      rw [numb, numb, hf, numb_ext (f := g) (g := f) (a := a) (a' := a) (n := r) fun i hi => hg i (by omega) (by omega), show r + 1 - 1 - r = 0 by omega]
      omega
    · have ih := numb_upd (f := f) (g := g) (a := a) (r := r) (n := n) (by omega) (fun i hi hne => hg i (by omega) hne) hf
      rw [numb, numb, ih, hg n (by omega) (fun h => hr h.symm), show n + 1 - 1 - r = (n - 1 - r) + 1 by omega, Nat.pow_succ]
      have : g (a + r) * (2 ^ (n - 1 - r) * 2) = 2 * (g (a + r) * 2 ^ (n - 1 - r)) := by rw [← Nat.mul_assoc, Nat.mul_comm _ 2]
      rw [this]; omega
theorem numb_pad {f : Nat → Nat} {a r : Nat} : ∀ {s : Nat}, (∀ i, i < s → f (a + r + i) = 0) → numb f a (r + s) = 2 ^ s * numb f a r
  | 0, _ => by simp
  | s + 1, h => by
    have h1 := h s (by omega)
    rw [← Nat.add_assoc, numb, numb_pad (s := s) fun i hi => h i (by omega), show a + (r + s) = a + r + s by omega, h1, Nat.pow_succ]
    rw [Nat.mul_comm (2 ^ s) 2, Nat.mul_assoc]; rfl
theorem bitL_snoc (w : List Nat) (x i : Nat) : bitL (w ++ [x]) i = if i = w.length then x else bitL w i := by
  unfold bitL
  simp only [List.getD_eq_getElem?_getD]
  by_cases h : i = w.length
  · subst h; simp
  · rw [if_neg h]
    by_cases h2 : i < w.length
    · rw [List.getElem?_append_left h2]
    · rw [List.getElem?_eq_none (by simp; omega), List.getElem?_eq_none (by omega)]
theorem bitL_out {w : List Nat} {i : Nat} (h : w.length ≤ i) : bitL w i = 0 := by
  unfold bitL; simp [List.getD_eq_getElem?_getD, List.getElem?_eq_none h]
theorem gbyte_old (w : List Nat) (x : Nat) {q : Nat} (h : q ≠ w.length / 8) : gbyte (w ++ [x]) q = gbyte w q := by
  unfold gbyte
  refine numb_ext fun k hk => ?_
  rw [bitL_snoc, if_neg (by omega)]
theorem gbyte_new (w : List Nat) (x : Nat) : gbyte (w ++ [x]) (w.length / 8) = gbyte w (w.length / 8) + x * 2 ^ (7 - w.length % 8) := by
  unfold gbyte
  have := numb_upd (f := bitL w) (g := bitL (w ++ [x])) (a := 8 * (w.length / 8)) (r := w.length % 8) (n := 8) (by omega) (fun i hi hne => by rw [bitL_snoc, if_neg (by omega)]) (bitL_out (by omega))
  rw [this, bitL_snoc, if_pos (by omega)]
theorem gbyte_dvd (w : List Nat) : 2 ^ (8 - w.length % 8) ∣ gbyte w (w.length / 8) := by
  unfold gbyte
  have := numb_pad (f := bitL w) (a := 8 * (w.length / 8)) (r := w.length % 8) (s := 8 - w.length % 8) fun i hi => bitL_out (by omega)
  rw [show w.length % 8 + (8 - w.length % 8) = 8 by omega] at this
  rw [this]; exact ⟨_, rfl⟩
theorem pack_snoc0 {w : List Nat} {x : Nat} (h : w.length % 8 = 0) : pack (w ++ [x]) = pack w ++ [x * 128] := by
  have hz : gbyte w (w.length / 8) = 0 := by
    unfold gbyte
    exact numb_zero.2 fun i hi => bitL_out (by omega)
  unfold pack
  rw [List.length_append, List.length_singleton, show (w.length + 1 + 7) / 8 = w.length / 8 + 1 by omega, show (w.length + 7) / 8 = w.length / 8 by omega, List.range_succ, List.map_append, List.map_singleton, gbyte_new, hz, h, Nat.zero_add]
  congr 1
  exact List.map_congr_left fun q hq => gbyte_old w x (by have := List.mem_range.1 hq; omega)
theorem pack_snoc {w : List Nat} {x : Nat} (h : w.length % 8 ≠ 0) : pack (w ++ [x]) = (pack w).set (w.length / 8) (gbyte w (w.length / 8) + x * 2 ^ (7 - w.length % 8)) := by
  apply List.ext_getElem?
  intro i
  rw [List.getElem?_set]
  unfold pack
  rw [List.length_append, List.length_singleton, show (w.length + 1 + 7) / 8 = (w.length + 7) / 8 by omega, List.length_map, List.length_range, List.getElem?_map, List.getElem?_map]
  by_cases hi : i < (w.length + 7) / 8
  · rw [List.getElem?_range hi]
    by_cases he : w.length / 8 = i
    · subst he; rw [if_pos rfl, if_pos hi, Option.map_some, gbyte_new]
    · rw [if_neg he, Option.map_some, Option.map_some, gbyte_old w x (fun e => he e.symm)]
  · rw [List.getElem?_eq_none (l := List.range ((w.length + 7) / 8)) (by simp; omega), if_neg (by omega)]
    rfl
theorem pack_last {w : List Nat} (h : w.length % 8 ≠ 0) : (pack w)[w.length / 8]? = some (gbyte w (w.length / 8)) := by
  unfold pack
  rw [List.getElem?_map, List.getElem?_range (by omega)]; rfl
def bitsN (v : Nat) : Nat → List Nat
  | 0 => []
  | n + 1 => v / 2 ^ n % 2 :: bitsN v n
theorem bitsN_len (v : Nat) : ∀ n, (bitsN v n).length = n
  | 0 => rfl
  | n + 1 => by simp [bitsN, bitsN_len v n]
theorem bin_append {a b : List Nat} (ha : Bin a) (hb : Bin b) : Bin (a ++ b) := fun x h => (List.mem_append.1 h).elim (ha x) (hb x)
structure Fl (S : Nat → Prop) (M : Mem) (j : Nat) : Prop where
  fl : ∀ i, S i ∨ i = j → M.floor ≤ i
  nw : ∀ i, M.nb.size ≤ i → S i
theorem Fl.chg {S T : Nat → Prop} {M M' : Mem} {j : Nat} (h : Fl S M j) (k : Chg T M M') : Fl S M' j := ⟨fun i hi => by rw [k.floor]; exact h.fl i hi, fun i hi => h.nw i (Nat.le_trans k.size hi)⟩
structure Wr (S : Nat → Prop) (M : Mem) (j : Nat) (w : List Nat) : Prop where
  out : ¬ S j
  bin : Bin w
  len : w.length ≤ 100000000000
  ex : ∃ A c, M.nb[j]? = some (.cells #[.slice A ((w.length + 7) / 8) c, .int .i64 (((8 - w.length % 8) % 8 : Nat) : Int), .bool true] 73) ∧ Own S M 5 A c (U8 (pack w)) ∧ (w.length + 7) / 8 ≤ c
theorem Wr.chg {S : Nat → Prop} {T : Nat → Prop} {M M' : Mem} {j : Nat} {w : List Nat} (h : Wr S M j w) (k : Chg T M M') (hT : ∀ i, i < M.nb.size → S i ∨ i = j → ¬ T i) : Wr S M' j w := by
  obtain ⟨A, c, h1, h2, h3⟩ := h.ex
  exact ⟨h.out, h.bin, h.len, A, c, at_chg h1 k (hT j (lt_of_at h1) (.inr rfl)), h2.chg k fun i hi hs => hT i hi (.inl hs), h3⟩
theorem Wr.keep {S : Nat → Prop} {M M' : Mem} {j : Nat} {w : List Nat} (h : Wr S M j w) (k : Keep M M') : Wr S M' j w := h.chg k fun _ _ _ x => x
theorem Wr.there {S : Nat → Prop} {M : Mem} {j : Nat} {w : List Nat} (h : Wr S M j w) : Cn Try.prog 46 #[PtrB j] M fun v N => v = .bool true ∧ N = M := by
  obtain ⟨A, c, h1, h2, h3⟩ := h.ex
  exact w46_0 ⟨fun _ => ⟨_, rfl, _, bool_of h1 rfl, rfl, rfl⟩, fun h => absurd h (by simp)⟩
theorem shl_u8 {x q : Nat} {z : Int} (hz : z = (q : Int)) (h : x * 2 ^ q < 256) (hq : q ≤ 8) : binV Try.prog .shl 5 3 (.int .u8 (x : Int)) (.int .i64 z) = some (.int .u8 ((x * 2 ^ q : Nat) : Int)) := shl_nat (k := .u8) rfl hz h hq
theorem c48_loop {S : Nat → Prop} {j : Nat} {M0 : Mem} (hf0 : Fl S M0 j) {v : Nat} (hv : v < 18446744073709551616) {Q : Value → Mem → Prop} {wEnd : List Nat} (hQ : ∀ N, Chg (fun i => S i ∨ i = j) M0 N → Wr S N j wEnd → Q (.tuple #[]) N) :
    ∀ (n : Nat) (w : List Nat) {M : Mem}, n ≤ 64 → Chg (fun i => S i ∨ i = j) M0 M → Wr S M j w → w.length + n ≤ 90000000000 → w ++ bitsN v n = wEnd → A48_1 (some ⟨2 * j, 0, none⟩) v ((n : Int) - 1) M Q
  | 0, w, M, hn, K, h, hl, he => by
    refine w48_1 ⟨fun h => absurd h (by omega), fun _ => hQ M K (by rw [← he, bitsN, List.append_nil]; exact h)⟩
  | n + 1, w, M, hn, K, h, hl, he => by
    obtain ⟨A, c, g1, g2, g3⟩ := h.ex
    have hjl := lt_of_at g1
    have hf := hf0.chg K
    have hfj : M.floor ≤ j := hf.fl j (.inr rfl)
    have en : (((n + 1 : Nat) : Int) - 1) = (n : Int) := by omega
    rw [en]
    have hx : v / 2 ^ n % 2 < 2 := Nat.mod_lt _ (by decide)
    have e1 : IntKind.u8.wrap (IntKind.u64.wrap (((BitVec.ofInt (IntKind.bits .u64) ((v / 2 ^ n : Nat) : Int) &&& BitVec.ofInt (IntKind.bits .u64) 1).toNat : Nat) : Int)) = ((v / 2 ^ n % 2 : Nat) : Int) := by
      have hd : v / 2 ^ n < 2 ^ 64 := Nat.lt_of_le_of_lt (Nat.div_le_self _ _) hv
      rw [and_mask (k := .u64) rfl (m := 1) (c := 1) rfl (by decide) hd]
      generalize v / 2 ^ n = y
      exact u8w (by omega)
    have e0 : binV Try.prog .shr 86 3 (.int .u64 (v : Int)) (.int .i64 (n : Int)) = some (.int .u64 ((v / 2 ^ n : Nat) : Int)) := shr_nat (k := .u64) rfl (show n ≤ 64 by omega)
    generalize hxe : v / 2 ^ n % 2 = x at hx e1
    have hw' : Bin (w ++ [x]) := bin_append h.bin fun y hy => by simp at hy; omega
    have next : ∀ M', Chg (fun i => S i ∨ i = j) M M' → Wr S M' j (w ++ [x]) → A48_1 (some ⟨2 * j, 0, none⟩) v ((n : Int) - 1) M' Q := fun M' hC hW =>
      c48_loop hf0 hv hQ n (w ++ [x]) (by omega) (K.trans hC) hW (by simp; omega) (by rw [← he, bitsN, hxe]; simp)
    refine w48_1 ⟨fun _ => ⟨_, rfl, _, int_of g1 rfl, fun h0 => ?_, fun h0 => ?_⟩, fun h => absurd (show (n : Int) ≥ 0 by omega) h⟩
    · -- a byte more
      have hw0 : w.length % 8 = 0 := by omega
      have hwb : (w.length + 7) / 8 = w.length / 8 := by omega
      obtain ⟨A', c', M1, p1, p2, p3, p4⟩ := app1S el5 g2 (n := (w.length + 7) / 8) (by simp [pack_len]) (v := .int .u8 0) (fun i hi => hf.fl i (.inl hi)) (hf.nw _ (Nat.le_refl _)) (hf.nw _ (Nat.le_succ _)) rfl (by omega)
      have q1 := at_chg g1 p2 h.out
      have hf1 : M1.floor ≤ j := by rw [p2.floor]; exact hfj
      have hj1 := lt_of_at q1
      have P1 := put_of (i := 0) (v := .slice A' ((w.length + 7) / 8 + 1) c') q1 hf1 (by simp) rfl
      have q2 := upd_at (M := M1) (b := .cells ((#[.slice A ((w.length + 7) / 8) c, .int .i64 (((8 - w.length % 8) % 8 : Nat) : Int), .bool true] : Array Value).setIfInBounds 0 (.slice A' ((w.length + 7) / 8 + 1) c')) 73) hj1
      have P2 := put_of (i := 1) (v := .int .i64 8) q2 hf1 (by simp) rfl
      have q3 := upd_at (M := M1.upd j (.cells ((#[.slice A ((w.length + 7) / 8) c, .int .i64 (((8 - w.length % 8) % 8 : Nat) : Int), .bool true] : Array Value).setIfInBounds 0 (.slice A' ((w.length + 7) / 8 + 1) c')) 73))
        (b := .cells (((#[.slice A ((w.length + 7) / 8) c, .int .i64 (((8 - w.length % 8) % 8 : Nat) : Int), .bool true] : Array Value).setIfInBounds 0 (.slice A' ((w.length + 7) / 8 + 1) c')).setIfInBounds 1 (.int .i64 8)) 73) (by rw [upd_size]; exact hj1)
      have P3 := put_of (i := 1) (v := .int .i64 (IntKind.i64.wrap (8 - 1))) q3 hf1 (by simp) rfl
      generalize hM2 : M1.upd j (.cells ((#[.slice A ((w.length + 7) / 8) c, .int .i64 (((8 - w.length % 8) % 8 : Nat) : Int), .bool true] : Array Value).setIfInBounds 0 (.slice A' ((w.length + 7) / 8 + 1) c')) 73) = M2 at P1 P2 q2 q3 P3
      generalize hM3 : M2.upd j (.cells (((#[.slice A ((w.length + 7) / 8) c, .int .i64 (((8 - w.length % 8) % 8 : Nat) : Int), .bool true] : Array Value).setIfInBounds 0 (.slice A' ((w.length + 7) / 8 + 1) c')).setIfInBounds 1 (.int .i64 8)) 73) = M3 at P2 q3 P3
      have C12 : Chg (· = j) M1 M2 := by rw [← hM2]; exact upd_chg rfl
      have C23 : Chg (· = j) M2 M3 := by rw [← hM3]; exact upd_chg rfl
      have hj3 := lt_of_at q3
      have q4 := upd_at (M := M3) (b := .cells ((((#[.slice A ((w.length + 7) / 8) c, .int .i64 (((8 - w.length % 8) % 8 : Nat) : Int), .bool true] : Array Value).setIfInBounds 0 (.slice A' ((w.length + 7) / 8 + 1) c')).setIfInBounds 1 (.int .i64 8)).setIfInBounds 1 (.int .i64 (IntKind.i64.wrap (8 - 1)))) 73) hj3
      have C34 : Chg (· = j) M3 (M3.upd j (.cells ((((#[.slice A ((w.length + 7) / 8) c, .int .i64 (((8 - w.length % 8) % 8 : Nat) : Int), .bool true] : Array Value).setIfInBounds 0 (.slice A' ((w.length + 7) / 8 + 1) c')).setIfInBounds 1 (.int .i64 8)).setIfInBounds 1 (.int .i64 (IntKind.i64.wrap (8 - 1)))) 73)) := upd_chg rfl
      generalize hM4 : M3.upd j (.cells ((((#[.slice A ((w.length + 7) / 8) c, .int .i64 (((8 - w.length % 8) % 8 : Nat) : Int), .bool true] : Array Value).setIfInBounds 0 (.slice A' ((w.length + 7) / 8 + 1) c')).setIfInBounds 1 (.int .i64 8)).setIfInBounds 1 (.int .i64 (IntKind.i64.wrap (8 - 1)))) 73) = M4 at P3 q4 C34
      have C14 : Chg (· = j) M1 M4 := (C12.trans C23).trans C34
      have O4 := p3.chg C14 fun i _ hs he => h.out (he ▸ hs)
      have hf4 : ∀ i, S i → M4.floor ≤ i := fun i hi => by rw [C14.floor, p2.floor]; exact hf.fl i (.inl hi)
      have hlast : (U8 (pack w) ++ [Value.int .u8 0])[w.length / 8]? = some (.int .u8 0) := by
        rw [List.getElem?_append_right (by simp [pack_len, hwb])]; simp [pack_len, hwb]
      obtain ⟨a, i1, i2⟩ := O4.row.int1 (n := (w.length + 7) / 8 + 1) (i := w.length / 8) (z := IntKind.i64.wrap ((((w.length + 7) / 8 + 1 : Nat) : Int) - 1)) (by have := h.len; rw [i64w (by omega)]; omega) (by omega) hlast
      obtain ⟨a2, i3, M5, P5, C45, hs5, O5⟩ := O4.put1 hf4 (n := (w.length + 7) / 8 + 1) (i := w.length / 8) (z := IntKind.i64.wrap ((((w.length + 7) / 8 + 1 : Nat) : Int) - 1)) (v := .int .u8 (x * 128 : Nat)) (by have := h.len; rw [i64w (by omega)]; omega) (by omega) (by simp [pack_len]; omega) rfl
      have e7 : IntKind.i64.wrap (8 - 1) = ((7 : Nat) : Int) := by decide
      have e8 : IntKind.u8.wrap (((BitVec.ofInt (IntKind.bits .u8) 0 ||| BitVec.ofInt (IntKind.bits .u8) ((x * 2 ^ 7 : Nat) : Int)).toNat : Nat) : Int) = ((x * 128 : Nat) : Int) := by
        have := or_nat (k := .u8) rfl (x := 0) (y := x * 2 ^ 7) (by decide) (show x * 2 ^ 7 < 2 ^ 8 by omega)
        rw [Nat.zero_or] at this; exact this
      refine ⟨_, rfl, _, sl_of g1 rfl, _, p1, _, rfl, _, rfl, _, P1, _, rfl, _, P2, _, rfl, _, int_of q3 rfl, _, rfl, _, P3, _, rfl, _, sl_of q4 rfl, _, rfl, _, sl_of q4 rfl, _, i1, _, i2, _, e0, _, rfl, _, rfl, _, int_of q4 rfl, ?_⟩
      rw [e1]
      refine ⟨_, shl_u8 (q := 7) e7 (by omega) (by decide), _, rfl, _, i3, ?_⟩
      rw [e8, i64w (by omega)]
      refine ⟨_, P5, next M5 (((p2.mono fun i _ hi => .inl hi).trans (C14.mono fun i _ hi => .inr hi)).trans (C45.mono fun i _ hi => .inl hi)) ⟨h.out, hw', by simp; omega, A', c', ?_, ?_, by simp; omega⟩⟩
      · have := at_chg q4 C45 h.out
        rw [this]
        congr 2
        simp only [List.length_append, List.length_singleton]
        rw [show (w.length + 1 + 7) / 8 = (w.length + 7) / 8 + 1 by omega, show (8 - (w.length + 1) % 8) % 8 = 7 by omega]
        rfl
      · have e9 : U8 (pack (w ++ [x])) = (U8 (pack w) ++ [Value.int .u8 0]).set (w.length / 8) (.int .u8 (x * 128 : Nat)) := by
          rw [pack_snoc0 hw0, List.set_append_right _ _ (by simp [pack_len, hwb])]; simp [pack_len, hwb]
        rw [e9]; exact O5
    · -- in the last byte
      have hw0 : w.length % 8 ≠ 0 := by omega
      have hwb : (w.length + 7) / 8 = w.length / 8 + 1 := by omega
      have P3 := put_of (i := 1) (v := .int .i64 (IntKind.i64.wrap ((((8 - w.length % 8) % 8 : Nat) : Int) - 1))) g1 hfj (by simp) rfl
      have q4 := upd_at (M := M) (b := .cells ((#[.slice A ((w.length + 7) / 8) c, .int .i64 (((8 - w.length % 8) % 8 : Nat) : Int), .bool true] : Array Value).setIfInBounds 1 (.int .i64 (IntKind.i64.wrap ((((8 - w.length % 8) % 8 : Nat) : Int) - 1)))) 73) hjl
      have C14 : Chg (· = j) M (M.upd j (.cells ((#[.slice A ((w.length + 7) / 8) c, .int .i64 (((8 - w.length % 8) % 8 : Nat) : Int), .bool true] : Array Value).setIfInBounds 1 (.int .i64 (IntKind.i64.wrap ((((8 - w.length % 8) % 8 : Nat) : Int) - 1)))) 73)) := upd_chg rfl
      generalize hM4 : M.upd j (.cells ((#[.slice A ((w.length + 7) / 8) c, .int .i64 (((8 - w.length % 8) % 8 : Nat) : Int), .bool true] : Array Value).setIfInBounds 1 (.int .i64 (IntKind.i64.wrap ((((8 - w.length % 8) % 8 : Nat) : Int) - 1)))) 73) = M4 at P3 q4 C14
      have O4 := g2.chg C14 fun i _ hs he => h.out (he ▸ hs)
      have hf4 : ∀ i, S i → M4.floor ≤ i := fun i hi => by rw [C14.floor]; exact hf.fl i (.inl hi)
      have hlast : (U8 (pack w))[w.length / 8]? = some (.int .u8 (gbyte w (w.length / 8) : Nat)) := by
        rw [List.getElem?_map, pack_last hw0]; rfl
      have hyl := gbyte_lt h.bin (w.length / 8)
      have hyd := gbyte_dvd w
      have hp7 : 2 ^ (8 - w.length % 8) = 2 * 2 ^ (7 - w.length % 8) := by rw [show 8 - w.length % 8 = (7 - w.length % 8) + 1 by omega, Nat.pow_succ, Nat.mul_comm]
      have hp8 : 2 ^ (7 - w.length % 8) ≤ 64 := Nat.pow_le_pow_right (n := 2) (by decide) (show 7 - w.length % 8 ≤ 6 by omega)
      have hxp : x * 2 ^ (7 - w.length % 8) < 2 ^ (8 - w.length % 8) ∧ x * 2 ^ (7 - w.length % 8) < 256 := by
        have : x = 0 ∨ x = 1 := by omega
        have hpos := Nat.two_pow_pos (7 - w.length % 8)
        rcases this with rfl | rfl <;> omega
      have hsum : gbyte w (w.length / 8) ||| x * 2 ^ (7 - w.length % 8) = gbyte w (w.length / 8) + x * 2 ^ (7 - w.length % 8) := or_add hyd hxp.1
      obtain ⟨a, i1, i2⟩ := O4.row.int1 (n := (w.length + 7) / 8) (i := w.length / 8) (z := IntKind.i64.wrap ((((w.length + 7) / 8 : Nat) : Int) - 1)) (by have := h.len; rw [i64w (by omega)]; omega) (by omega) hlast
      obtain ⟨a2, i3, M5, P5, C45, hs5, O5⟩ := O4.put1 hf4 (n := (w.length + 7) / 8) (i := w.length / 8) (z := IntKind.i64.wrap ((((w.length + 7) / 8 : Nat) : Int) - 1)) (v := .int .u8 (gbyte w (w.length / 8) + x * 2 ^ (7 - w.length % 8) : Nat)) (by have := h.len; rw [i64w (by omega)]; omega) (by omega) (by simp [pack_len]; omega) rfl
      have e7 : IntKind.i64.wrap ((((8 - w.length % 8) % 8 : Nat) : Int) - 1) = ((7 - w.length % 8 : Nat) : Int) := by rw [i64w (by omega)]; omega
      have e8 : IntKind.u8.wrap (((BitVec.ofInt (IntKind.bits .u8) ((gbyte w (w.length / 8) : Nat) : Int) ||| BitVec.ofInt (IntKind.bits .u8) ((x * 2 ^ (7 - w.length % 8) : Nat) : Int)).toNat : Nat) : Int) = ((gbyte w (w.length / 8) + x * 2 ^ (7 - w.length % 8) : Nat) : Int) := by
        rw [or_nat (k := .u8) rfl (show _ < 2 ^ 8 by omega) (show _ < 2 ^ 8 by have := hxp.2; omega), hsum]
      refine ⟨_, rfl, _, int_of g1 rfl, _, rfl, _, P3, _, rfl, _, sl_of q4 rfl, _, rfl, _, sl_of q4 rfl, _, i1, _, i2, _, e0, _, rfl, _, rfl, _, int_of q4 rfl, ?_⟩
      rw [e1]
      refine ⟨_, shl_u8 (q := 7 - w.length % 8) e7 hxp.2 (by omega), _, rfl, _, i3, ?_⟩
      rw [e8, i64w (by omega)]
      refine ⟨_, P5, next M5 ((C14.mono fun i _ hi => .inr hi).trans (C45.mono fun i _ hi => .inl hi)) ⟨h.out, hw', by simp; omega, A, c, ?_, ?_, by simp; omega⟩⟩
      · have := at_chg q4 C45 h.out
        rw [this]
        congr 2
        simp only [List.length_append, List.length_singleton]
        rw [show (w.length + 1 + 7) / 8 = (w.length + 7) / 8 by omega, show (8 - (w.length + 1) % 8) % 8 = 7 - w.length % 8 by omega, e7]
        rfl
      · have e9 : U8 (pack (w ++ [x])) = (U8 (pack w)).set (w.length / 8) (.int .u8 (gbyte w (w.length / 8) + x * 2 ^ (7 - w.length % 8) : Nat)) := by
          rw [pack_snoc hw0]; exact (List.map_set ..)
        rw [e9]; exact O5
theorem c48 {S : Nat → Prop} {j : Nat} {M : Mem} {w : List Nat} (hf : Fl S M j) (h : Wr S M j w) {v n : Nat} {y z : Int} (hy : y = (v : Int)) (hz : z = (n : Int)) (hv : v < 18446744073709551616) (hn : n ≤ 64) (hl : w.length + n ≤ 90000000000) :
    Cn Try.prog 48 #[PtrB j, .int .u64 y, .int .i64 z] M fun u N => u = .tuple #[] ∧ Chg (fun i => S i ∨ i = j) M N ∧ Wr S N j (w ++ bitsN v n) := by
  subst hy hz
  refine w48_0 ?_
  rw [i64w (by omega)]
  exact c48_loop hf hv (fun N hC hW => ⟨rfl, hC, hW⟩) n w hn (.refl _) h hl rfl
end Go.Zt
