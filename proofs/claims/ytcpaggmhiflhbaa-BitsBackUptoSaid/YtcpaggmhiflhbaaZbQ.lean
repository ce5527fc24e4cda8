/- Layer 1: reading and writing undo each other (plain). -/
import Derived.Test.YtcpaggmhiflhbaaZbP
set_option linter.unusedSimpArgs false
set_option linter.unusedVariables false
namespace Go.Zt
open Go Go.Sim Go.Proofs Go.RowKit

/-- The bits from a place on. -/
def seg (f : Nat → Nat) (p n : Nat) : List Nat := (List.range n).map fun i => f (p + i)
theorem seg_len (f : Nat → Nat) (p n : Nat) : (seg f p n).length = n := by simp [seg]
theorem seg_cons (f : Nat → Nat) (p n : Nat) : seg f p (n + 1) = f p :: seg f (p + 1) n := by
  unfold seg
  rw [List.range_succ_eq_map, List.map_cons, List.map_map]
  congr 1
  refine List.map_congr_left fun i _ => ?_
  simp only [Function.comp]; congr 1; omega
theorem seg_app (f : Nat → Nat) (p : Nat) (n : Nat) : ∀ m, seg f p (m + n) = seg f p m ++ seg f (p + m) n
  | m => by
    unfold seg
    rw [List.range_add, List.map_append, List.map_map]
    congr 1
    refine List.map_congr_left fun i _ => ?_
    simp only [Function.comp]; congr 1; omega
theorem seg_at {f : Nat → Nat} {p n i : Nat} (h : i < n) : (seg f p n)[i]? = some (f (p + i)) := by simp [seg, h]
theorem segN {f : Nat → Nat} (hf : ∀ i, f i < 2) : ∀ (n p : Nat), bitsN (numb f p n) n = seg f p n
  | 0, p => rfl
  | n + 1, p => by
    have h := numb_lt hf (p + 1) n
    rw [bitsN, seg_cons, numb_cons]
    have e1 : (f p * 2 ^ n + numb f (p + 1) n) / 2 ^ n % 2 = f p := by
      rw [Nat.add_comm, Nat.add_mul_div_right _ _ (Nat.two_pow_pos n), Nat.div_eq_of_lt h, Nat.zero_add, Nat.mod_eq_of_lt (hf p)]
    have e2 : bitsN (f p * 2 ^ n + numb f (p + 1) n) n = bitsN (numb f (p + 1) n) n := by
      rw [← bitsN_mod _ (Nat.le_refl n), Nat.add_comm, Nat.add_mul_mod_self_right, Nat.mod_eq_of_lt h]
    rw [e1, e2, segN hf n (p + 1)]
theorem bitsN_inj : ∀ (n : Nat) {a b : Nat}, a < 2 ^ n → b < 2 ^ n → bitsN a n = bitsN b n → a = b
  | 0, a, b, ha, hb, _ => by simp at ha hb; omega
  | n + 1, a, b, ha, hb, h => by
    rw [bitsN, bitsN] at h
    obtain ⟨h1, h2⟩ := List.cons.inj h
    rw [← bitsN_mod a (Nat.le_refl n), ← bitsN_mod b (Nat.le_refl n)] at h2
    have hp := Nat.two_pow_pos n
    have := bitsN_inj n (Nat.mod_lt _ hp) (Nat.mod_lt _ hp) h2
    have hpow : 2 ^ (n + 1) = 2 * 2 ^ n := by rw [Nat.pow_succ]; omega
    have ha2 : a / 2 ^ n < 2 := Nat.div_lt_of_lt_mul (by omega)
    have hb2 : b / 2 ^ n < 2 := Nat.div_lt_of_lt_mul (by omega)
    rw [Nat.mod_eq_of_lt ha2, Nat.mod_eq_of_lt hb2] at h1
    rw [← Nat.div_add_mod a (2 ^ n), ← Nat.div_add_mod b (2 ^ n), h1, this]
theorem numb_seg {f : Nat → Nat} (hf : ∀ i, f i < 2) {p n v : Nat} (hv : v < 2 ^ n) (h : seg f p n = bitsN v n) : numb f p n = v :=
  bitsN_inj n (numb_lt hf p n) hv (by rw [segN hf, h])
theorem seg_zero {f : Nat → Nat} {p n : Nat} (h : numb f p n = 0) : seg f p n = List.replicate n 0 := by
  rw [numb_zero] at h
  refine List.ext_getElem? fun i => ?_
  by_cases hi : i < n
  · rw [seg_at hi, h i hi, List.getElem?_replicate, if_pos hi]
  · rw [List.getElem?_eq_none (by rw [seg_len]; omega), List.getElem?_eq_none (by simp; omega)]

/-! ### What is read is written again as it stood -/
theorem uvZ_ge {f : Nat → Nat} {p left : Nat} : ∀ (n k : Nat), k ≤ uvZ f p left n k ∧ uvZ f p left n k ≤ k + n
  | 0, k => by simp [uvZ]
  | n + 1, k => by
    unfold uvZ
    split
    · have := uvZ_ge (f := f) (p := p) (left := left) n (k + 1); omega
    · omega
theorem uvZ_zero {f : Nat → Nat} {p left : Nat} : ∀ (n k i : Nat), k ≤ i → i < uvZ f p left n k → f (p + i) = 0
  | 0, k, i, h1, h2 => by simp [uvZ] at h2; omega
  | n + 1, k, i, h1, h2 => by
    unfold uvZ at h2
    split at h2
    · rename_i h
      rcases Nat.lt_or_ge k i with hk | hk
      · exact uvZ_zero n (k + 1) i hk h2
      · rw [show i = k by omega]; exact h.2
    · omega
theorem uvZ_end {f : Nat → Nat} {p left : Nat} : ∀ (n k : Nat), uvZ f p left n k < left → uvZ f p left n k < k + n → f (p + uvZ f p left n k) ≠ 0
  | 0, k, h1, h2 => by simp [uvZ] at h2
  | n + 1, k, h1, h2 => by
    unfold uvZ at h1 h2 ⊢
    split
    · rename_i h
      rw [if_pos h] at h1 h2
      exact uvZ_end n (k + 1) h1 (by omega)
    · rename_i h
      rw [if_neg h] at h1 h2
      intro h0; exact h ⟨h1, h0⟩
theorem blen_of {v k : Nat} (h1 : 2 ^ k ≤ v) (h2 : v < 2 ^ (k + 1)) : blen v = k + 1 := by
  have := blen_le.2 h2
  have : ¬ blen v ≤ k := fun h => by have := blen_le.1 h; omega
  omega
theorem toIU {x : Int} (h : -2147483648 < x ∧ x < 2147483648) : toI (toU x) = x := by
  unfold toI toU
  split <;> omega
theorem toUI {v : Nat} (h : v < 4294967296) : toU (toI v) = v := by
  unfold toI toU
  split <;> omega
theorem toU_lt (x : Int) : toU x < 4294967296 := by unfold toU; omega
theorem pow_le32 {n : Nat} (h : n ≤ 32) : 2 ^ n ≤ 4294967296 := by
  have : 2 ^ n ≤ 2 ^ 32 := Nat.pow_le_pow_right (by decide) h
  simpa using this
theorem pow_le31 {n : Nat} (h : n ≤ 31) : 2 ^ n ≤ 2147483648 := by
  have : 2 ^ n ≤ 2 ^ 31 := Nat.pow_le_pow_right (by decide) h
  simpa using this

section
variable {b : List Nat} {p : Nat} {w : List Nat}
abbrev Again (b : List Nat) (p p' : Nat) (w : List Nat) (r : Nat × List Nat) : Prop := p ≤ p' ∧ r = (0, w ++ seg (bitOf b) p (p' - p))
theorem once_fixed {n : Int} (h : (rFixed b p n).2.1 = 0) : Again b p (rFixed b p n).2.2 w (wFixed w (rFixed b p n).1 n) ∧ (rFixed b p n).1 < 4294967296 := by
  unfold rFixed at h ⊢
  split
  · rename_i h1; rw [if_pos h1] at h; exact absurd h (by simp)
  rename_i h1
  split
  · rename_i h2; rw [if_neg h1, if_pos h2] at h; exact absurd h (by simp)
  rename_i h2
  have hlt := numb_lt (bitOf_lt b) p n.toNat
  have h32 := pow_le32 (n := n.toNat) (by omega)
  refine ⟨⟨Nat.le_add_right .., ?_⟩, by show numb (bitOf b) p n.toNat < _; omega⟩
  unfold wFixed
  dsimp only
  rw [if_neg (by omega), segN (bitOf_lt b), show p + n.toNat - p = n.toNat by omega]
theorem once_signed {n : Int} (h : (rSigned b p n).2.1 = 0) : Again b p (rSigned b p n).2.2 w (wSigned w (toI (toU (rSigned b p n).1)) n) := by
  unfold rSigned at h ⊢
  split
  · rename_i h1; rw [if_pos h1] at h; exact absurd h (by simp)
  rename_i h1
  rw [if_neg h1] at h
  split
  · rename_i h2; rw [if_pos h2] at h; exact absurd h (by simp)
  rename_i h2
  rw [if_neg h2] at h
  have hlt := numb_lt (bitOf_lt b) (p + 1) n.toNat
  have h31 := pow_le31 (n := n.toNat) (by omega)
  have hs := segN (bitOf_lt b) n.toNat (p + 1)
  have hb := bitOf_lt b p
  have key : ∀ x : Int, (if x < 0 then 1 else 0) = bitOf b p → x.natAbs = numb (bitOf b) (p + 1) n.toNat → Again b p (p + (n.toNat + 1)) w (wSigned w (toI (toU x)) n) := by
    intro x hx hn
    refine ⟨Nat.le_add_right .., ?_⟩
    rw [toIU (by omega)]
    unfold wSigned
    rw [if_neg (by omega), hx, hn, hs, show p + (n.toNat + 1) - p = n.toNat + 1 by omega, seg_cons]
  split
  · rename_i h3
    rw [if_pos h3] at h
    split
    · rename_i h4; rw [if_pos h4] at h; exact absurd h (by simp)
    · rename_i h4
      exact key _ (by rw [if_pos (by omega)]; omega) (by omega)
  · rename_i h3
    exact key _ (by rw [if_neg (by omega)]; omega) (by omega)
theorem once_uvlc (h : (rUvlc b p).2.1 = 0) : Again b p (rUvlc b p).2.2 w (wUvlc w (rUvlc b p).1) ∧ (rUvlc b p).1 < 4294967295 := by
  unfold rUvlc at h ⊢
  dsimp only at h ⊢
  have hk := uvZ_ge (f := bitOf b) (p := p) (left := 8 * b.length - p) 32 0
  have hz := uvZ_zero (f := bitOf b) (p := p) (left := 8 * b.length - p) 32 0
  have he := uvZ_end (f := bitOf b) (p := p) (left := 8 * b.length - p) 32 0
  generalize uvZ (bitOf b) p (8 * b.length - p) 32 0 = k at h hk hz he ⊢
  split
  · rename_i h1; rw [if_pos h1] at h; exact absurd h (by simp)
  rename_i h1
  rw [if_neg h1] at h
  split
  · rename_i h2; rw [if_pos h2] at h; exact absurd h (by simp)
  rename_i h2
  have hb := bitOf_lt b (p + k)
  have h1' : bitOf b (p + k) = 1 := by have := he (by omega) (by omega); omega
  have hc := numb_cons (bitOf b) (p + k) k
  have hlt := numb_lt (bitOf_lt b) (p + k + 1) k
  rw [h1', Nat.one_mul] at hc
  have h32 := pow_le32 (n := k + 1) (by omega)
  have hpow : 2 ^ (k + 1) = 2 * 2 ^ k := by rw [Nat.pow_succ]; omega
  have hp := Nat.two_pow_pos k
  have e1 : numb (bitOf b) (p + k) (k + 1) - 1 + 1 = numb (bitOf b) (p + k) (k + 1) := by omega
  refine ⟨⟨Nat.le_add_right .., ?_⟩, by show numb (bitOf b) (p + k) (k + 1) - 1 < _; omega⟩
  unfold wUvlc
  dsimp only
  have e2 : blen (numb (bitOf b) (p + k) (k + 1)) = k + 1 := blen_of (by omega) (by omega)
  rw [if_neg (by omega), e1, e2, show 2 * (k + 1) - 1 = k + (k + 1) by omega, bitsN_split, segN (bitOf_lt b), Nat.div_eq_of_lt (by omega), bitsN_zero,
    show p + (2 * k + 1) - p = k + (k + 1) by omega, seg_app (bitOf b) p (k + 1) k, seg_zero (f := bitOf b) (p := p) (n := k) (numb_zero.2 fun i hi => hz i (Nat.zero_le _) hi)]
theorem lebL_ok : ∀ (r : List Nat) (i acc y cnt : Nat), lebL r i acc = (y, 0, cnt) → i ≤ 4 → (∀ c ∈ r, c < 256) →
    ∃ x m, cnt = i + m ∧ y = acc + x * 128 ^ i ∧ m ≤ r.length ∧ lebB (5 - i) x = (r.take m).flatMap (bitsN · 8) ∧ (i > 0 → x > 0) ∧ x < 16 * 128 ^ (4 - i)
  | [], i, acc, y, cnt, h, _, _ => by simp [lebL] at h
  | c :: r, i, acc, y, cnt, h, hi, hr => by
    have hc := hr c (List.mem_cons_self ..)
    unfold lebL at h
    split at h
    · simp at h
    rename_i h1
    split at h
    · rename_i h2
      simp at h
      obtain ⟨h3, h4⟩ := h
      refine ⟨c, 1, h4.symm, by rw [← h3, Nat.mod_eq_of_lt h2], by simp, ?_, fun h0 => by omega, ?_⟩
      · rw [show 5 - i = (4 - i) + 1 by omega, lebB, if_neg (by omega)]; simp
      · rcases Nat.lt_or_ge i 4 with h5 | h5
        · have : 128 ^ (4 - i) ≥ 128 ^ 1 := Nat.pow_le_pow_right (by decide) (by omega)
          omega
        · rw [show 4 - i = 0 by omega]; omega
    · rename_i h2
      have hi4 : i < 4 := by omega
      obtain ⟨x, m, e1, e2, e3, e4, e5, e6⟩ := lebL_ok r (i + 1) _ y cnt h (by omega) fun c hc => hr c (List.mem_cons_of_mem _ hc)
      have hx := e5 (Nat.succ_pos _)
      refine ⟨c % 128 + 128 * x, m + 1, by omega, ?_, by simp; omega, ?_, fun _ => by omega, ?_⟩
      · rw [e2, Nat.pow_succ, Nat.add_mul, Nat.mul_comm 128 x, Nat.mul_assoc x, Nat.mul_comm 128 (128 ^ i), Nat.add_assoc]
      · rw [show 5 - i = (5 - (i + 1)) + 1 by omega, lebB, if_pos (by omega), show 128 + (c % 128 + 128 * x) % 128 = c by omega, show (c % 128 + 128 * x) / 128 = x by omega, e4]
        simp
      · rw [show 4 - i = (4 - (i + 1)) + 1 by omega, Nat.pow_succ]
        generalize 128 ^ (4 - (i + 1)) = g at e6
        omega
theorem bytes_seg {b : List Nat} (hB : Byt b) : ∀ (m q : Nat), q + m ≤ b.length → ((b.drop q).take m).flatMap (bitsN · 8) = seg (bitOf b) (8 * q) (8 * m)
  | 0, q, _ => by simp [seg]
  | m + 1, q, h => by
    rw [List.drop_eq_getElem_cons (show q < b.length by omega), List.take_succ_cons, List.flatMap_cons, bytes_seg hB m (q + 1) (by omega), show 8 * (m + 1) = 8 + 8 * m by omega, seg_app,
      show 8 * (q + 1) = 8 * q + 8 by omega, ← segN (bitOf_lt b) 8 (8 * q), numb8 hB (by omega)]
theorem once_leb (hB : Byt b) (hp : p ≤ 8 * b.length) (hw : w.length = p) (h : (rLeb b p).2.1 = 0) : Again b p (rLeb b p).2.2 w (wLeb w (rLeb b p).1) ∧ (rLeb b p).1 < 4294967296 := by
  unfold rLeb at h ⊢
  split
  · rename_i h1; rw [if_pos h1] at h; exact absurd h (by simp)
  rename_i h1
  rw [if_neg h1] at h
  dsimp only at h ⊢
  obtain ⟨x, m, e1, e2, e3, e4, e5, e6⟩ := lebL_ok (b.drop (p / 8)) 0 0 (lebL (b.drop (p / 8)) 0 0).1 (lebL (b.drop (p / 8)) 0 0).2.2 (by
    conv => lhs; rw [show lebL (b.drop (p / 8)) 0 0 = ((lebL (b.drop (p / 8)) 0 0).1, (lebL (b.drop (p / 8)) 0 0).2.1, (lebL (b.drop (p / 8)) 0 0).2.2) from rfl, h]) (by decide) fun c hc => hB c (List.mem_of_mem_drop hc)
  rw [e1, e2]
  rw [List.length_drop] at e3
  rw [bytes_seg hB m (p / 8) (by omega)] at e4
  simp at e6
  refine ⟨⟨Nat.le_add_right .., ?_⟩, by omega⟩
  unfold wLeb
  rw [if_neg (by omega), Nat.zero_add, Nat.pow_zero, Nat.mul_one, e4, show 8 * (p / 8) = p by omega, Nat.zero_add, Nat.add_sub_cancel_left]
theorem once_align (hw : w.length = p) (h : (rAlign b p).1 = 0) : Again b p (rAlign b p).2 w (0, pad8 w) := by
  unfold rAlign at h ⊢
  dsimp only at h ⊢
  split
  · rename_i h1; rw [if_pos h1] at h; exact absurd h (by simp)
  rename_i h1
  refine ⟨Nat.le_add_right .., ?_⟩
  unfold pad8
  rw [hw, Nat.add_sub_cancel_left, seg_zero (by omega)]
theorem once (hB : Byt b) (hp : p ≤ 8 * b.length) (hw : w.length = p) {d : DoV} (hd : d.wf) (h : (rdD b p d).2.1 = 0) : Again b p (rdD b p d).2.2 w (wrD w ⟨d.k, d.n, (rdD b p d).1⟩) ∧ (rdD b p d).1 < 4294967296 := by
  unfold rdD at h ⊢
  unfold wrD
  dsimp only at h ⊢
  split
  · rename_i h0; rw [if_pos h0] at h; exact once_fixed h
  rename_i h0
  rw [if_neg h0] at h
  split
  · rename_i h0; rw [if_pos h0] at h; exact ⟨once_signed h, toU_lt _⟩
  rename_i h0
  rw [if_neg h0] at h
  split
  · rename_i h0; rw [if_pos h0] at h
    have := once_uvlc (w := w) h
    exact ⟨this.1, by omega⟩
  rename_i h0
  rw [if_neg h0] at h
  split
  · rename_i h0; rw [if_pos h0] at h; exact once_leb hB hp hw h
  · rename_i h0; rw [if_neg h0] at h
    exact ⟨once_align hw h, show 0 < 4294967296 by decide⟩
end
end Go.Zt
