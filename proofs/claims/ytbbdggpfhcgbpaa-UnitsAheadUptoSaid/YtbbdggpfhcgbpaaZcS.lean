/- Layer 19: lists copied. -/
import Derived.Test.YtbbdggpfhcgbpaaZcQ
set_option linter.unusedSimpArgs false
set_option linter.unusedVariables false
namespace Go.Zt
open Go Go.Sim Go.Proofs Go.RowKit

theorem ObR.chg {M N : Mem} {A : Option Addr} {l : List Ob} (h : ObR M A l) (K : Keep M N) : ObR N A l := ⟨h.1.keep K, fun o ho => (h.2 o ho).keep K⟩
theorem c17_loop {M0 : Mem} (hf : M0.floor ≤ M0.nb.size) {A : Option Addr} {n c : Nat} {l : List Ob} (hA : ObR M0 A l) (hn : n = l.length) (hb : n ≤ 4294967296) (hbb : ∀ o ∈ l, o.b.length ≤ 4294967296) :
    ∀ (k i : Nat) (l' : List Ob) (A' : Option Addr) (c' : Nat) {M : Mem}, i + k = l.length → Keep M0 M → Ol M0.nb.size M A' c' l' → l'.map Ob.pc = (l.take i).map Ob.pc →
      A17_1 A n c A' l'.length c' i M fun v N => ∃ A2 c2 l2, v = .slice A2 l2.length c2 ∧ l2.map Ob.pc = l.map Ob.pc ∧ Keep M0 N ∧ Ol M0.nb.size N A2 c2 l2
  | 0, i, l', A', c', M, hi, K, hO, he => by
    rw [List.take_of_length_le (by omega)] at he
    exact w17_1 ⟨fun h => by omega, fun _ => ⟨A', c', l', rfl, he, K, hO⟩⟩
  | k + 1, i, l', A', c', M, hi, K, hO, he => by
    have hil : i < l.length := by omega
    obtain ⟨a, i1, i2, i3⟩ := (hA.chg K).at (n := n) (z := i) rfl (by omega) hil
    have hRb := (hA.chg K).2 _ (List.getElem_mem hil)
    refine w17_1 ⟨fun _ => ⟨_, i1, _, i2, _, i1, _, i3, Cn.mono (c10 (M := { M with floor := M.nb.size }) (n := l[i].b.length) (Nat.le_refl _) hRb rfl (hbb _ (List.getElem_mem hil))) ?_⟩, fun h => by omega⟩
    rintro v N ⟨A2, c2, rfl, K1f, hOb, hc2⟩
    have K1 : Keep M { N with floor := M.floor } := chg_fl K1f
    have hOb' : Own (fun i => M.nb.size ≤ i) { N with floor := M.floor } 5 A2 c2 (U8 l[i].b) := hOb
    have hll : l'.length = i := by
      have := congrArg List.length he
      simp at this; omega
    obtain ⟨A3, c3, N3, q1, q2, q3⟩ := hO.push K1 (by rw [K.floor]; exact hf) K.size (o := ⟨l[i].k, l[i].b, A2, c2⟩) hOb' (by omega)
    refine ⟨_, rfl, _, q1, _, rfl, ?_⟩
    rw [i64w (by omega), show ((i : Int) + 1) = ((i + 1 : Nat) : Int) by omega]
    have hr := c17_loop hf hA hn hb hbb (c := c) k (i + 1) (l' ++ [⟨l[i].k, l[i].b, A2, c2⟩]) A3 c3 (M := N3) (by omega) (Keep.step K q2 fun i hi => hi) q3 (by
      rw [List.map_append, he, List.take_succ_eq_append_getElem hil, List.map_append]; rfl)
    simpa using hr
theorem c17 {M0 : Mem} (hf : M0.floor ≤ M0.nb.size) {A : Option Addr} {n c : Nat} {l : List Ob} (hA : ObR M0 A l) (hn : n = l.length) (hb : n ≤ 4294967296) (hbb : ∀ o ∈ l, o.b.length ≤ 4294967296) :
    Cn Try.prog 17 #[.slice A n c] M0 fun v N => ∃ A2 c2 l2, v = .slice A2 l2.length c2 ∧ l2.map Ob.pc = l.map Ob.pc ∧ Keep M0 N ∧ Ol M0.nb.size N A2 c2 l2 :=
  w17_0 (c17_loop hf hA hn hb hbb _ 0 [] none 0 (Nat.zero_add _) (.refl _) Ol.nil rfl)

/-! ### Join -/
theorem bitL_left {a w : List Nat} {i : Nat} (h : i < a.length) : bitL (a ++ w) i = bitL a i := by
  simp only [bitL, List.getD_eq_getElem?_getD, List.getElem?_append_left h]
theorem bitL_right {a w : List Nat} {i : Nat} : bitL (a ++ w) (a.length + i) = bitL w i := by
  simp only [bitL, List.getD_eq_getElem?_getD, List.getElem?_append_right (Nat.le_add_right ..), Nat.add_sub_cancel_left]
theorem bitsN_at : ∀ (n v i : Nat), i < n → bitL (bitsN v n) i = v / 2 ^ (n - 1 - i) % 2
  | 0, v, i, h => by omega
  | n + 1, v, 0, h => by simp [bitsN, bitL]
  | n + 1, v, i + 1, h => by
    have := bitsN_at n v i (by omega)
    simp only [bitL, List.getD_eq_getElem?_getD] at this ⊢
    rw [bitsN, List.getElem?_cons_succ, this, show n + 1 - 1 - (i + 1) = n - 1 - i by omega]
theorem numb_bitsN (v : Nat) : ∀ n k, k ≤ n → numb (bitL (bitsN v n)) 0 k = v % 2 ^ n / 2 ^ (n - k)
  | n, 0, h => by rw [numb, Nat.sub_zero, Nat.div_eq_of_lt (Nat.mod_lt _ (Nat.two_pow_pos n))]
  | n, k + 1, h => by
    rw [numb, numb_bitsN v n k (by omega), Nat.zero_add, bitsN_at n v k (by omega), show n - 1 - k = n - (k + 1) by omega]
    have e1 : n - k = (n - (k + 1)) + 1 := by omega
    have e2 : v / 2 ^ (n - (k + 1)) % 2 = v % 2 ^ n / 2 ^ (n - (k + 1)) % 2 := by
      rw [show n = (n - (k + 1)) + (k + 1) by omega, Nat.pow_add, show n - (k + 1) + (k + 1) - (k + 1) = n - (k + 1) by omega, Nat.mod_mul_right_div_self, Nat.pow_succ, Nat.mul_comm (2 ^ k) 2, Nat.mod_mul_right_mod]
    rw [e2, e1, Nat.pow_succ, ← Nat.div_div_eq_div_mul]
    generalize v % 2 ^ n / 2 ^ (n - (k + 1)) = y
    omega
theorem pack_cons {x : Nat} (hx : x < 256) (w : List Nat) : pack (bitsN x 8 ++ w) = x :: pack w := by
  have hl : (bitsN x 8).length = 8 := bitsN_len x 8
  unfold pack
  rw [List.length_append, hl, show (8 + w.length + 7) / 8 = (w.length + 7) / 8 + 1 by omega, List.range_succ_eq_map, List.map_cons, List.map_map]
  congr 1
  · have h1 : gbyte (bitsN x 8 ++ w) 0 = numb (bitL (bitsN x 8)) 0 8 := by
      unfold gbyte
      exact numb_ext fun i hi => by rw [Nat.mul_zero, Nat.zero_add, bitL_left (by omega)]
    rw [h1, numb_bitsN x 8 8 (Nat.le_refl _)]
    omega
end Go.Zt
