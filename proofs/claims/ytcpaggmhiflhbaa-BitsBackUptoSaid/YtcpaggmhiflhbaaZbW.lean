/- Layer 1: what is written is read back (plain). -/
import Derived.Test.YtcpaggmhiflhbaaZbQ
set_option linter.unusedSimpArgs false
set_option linter.unusedVariables false
namespace Go.Zt
open Go Go.Sim Go.Proofs Go.RowKit

theorem uvZ_eq {f : Nat → Nat} {p left K : Nat} (he : f (p + K) ≠ 0) (hl : K < left) : ∀ (n k : Nat), (∀ i, k ≤ i → i < K → f (p + i) = 0) → k ≤ K → K ≤ k + n → uvZ f p left n k = K
  | 0, k, hz, h1, h2 => by simp [uvZ]; omega
  | n + 1, k, hz, h1, h2 => by
    unfold uvZ
    rcases Nat.lt_or_ge k K with h | h
    · rw [if_pos ⟨by omega, hz k (Nat.le_refl _) h⟩]
      exact uvZ_eq he hl n (k + 1) (fun i hi => hz i (by omega)) h (by omega)
    · obtain rfl : k = K := by omega
      rw [if_neg fun hh => he hh.2]
theorem leb_back : ∀ (k i x acc m : Nat) (r : List Nat), i + k = 4 → x < 16 * 128 ^ k → (i > 0 → x > 0) → (∀ c ∈ r, c < 256) → m ≤ r.length → 8 * m = (lebB (k + 1) x).length → (r.take m).flatMap (bitsN · 8) = lebB (k + 1) x →
    lebL r i acc = (acc + x * 128 ^ i, 0, i + m)
  | k, i, x, acc, m, r, hk, hx, h0, hr, hm, hl, hs => by
    unfold lebB at hl hs
    split at hs
    · rename_i h1
      rw [if_pos h1, List.length_append, bitsN_len] at hl
      match m, r with
      | 0, _ => omega
      | m + 1, [] => simp at hm
      | m + 1, c :: r =>
        have hc := hr c (List.mem_cons_self ..)
        match k with
        | 0 => omega
        | k + 1 =>
          rw [List.take_succ_cons, List.flatMap_cons] at hs
          obtain ⟨e1, e2⟩ := List.append_inj hs (by rw [bitsN_len, bitsN_len])
          have ec := bitsN_inj 8 (by omega) (by omega) e1
          have ih := leb_back k (i + 1) (x / 128) (acc + c % 128 * 128 ^ i) m r (by omega) (Nat.div_lt_of_lt_mul (by rw [Nat.pow_succ] at hx; omega)) (fun _ => by omega) (fun c hc => hr c (List.mem_cons_of_mem _ hc)) (by simpa using hm) (by omega) e2
          unfold lebL
          rw [if_neg (by omega), if_neg (by omega), ih]
          have e3 : acc + c % 128 * 128 ^ i + x / 128 * 128 ^ (i + 1) = acc + x * 128 ^ i := by
            rw [Nat.pow_succ, Nat.add_assoc, show x / 128 * (128 ^ i * 128) = (128 * (x / 128)) * 128 ^ i by rw [Nat.mul_comm 128 (x / 128), Nat.mul_assoc, Nat.mul_comm 128 (128 ^ i)], ← Nat.add_mul, show c % 128 + 128 * (x / 128) = x by omega]
          rw [e3, show i + 1 + m = i + (m + 1) by omega]
    · rename_i h1
      rw [if_neg h1, bitsN_len] at hl
      obtain rfl : m = 1 := by omega
      match r with
      | [] => simp at hm
      | c :: r =>
        have hc := hr c (List.mem_cons_self ..)
        simp at hs
        have ec := bitsN_inj 8 (by omega) (by omega) hs
        have h4 : i = 4 → c ≤ 15 := fun h => by
          rw [show k = 0 by omega] at hx; omega
        unfold lebL
        rw [if_neg (by omega), if_pos (by omega), ec, Nat.mod_eq_of_lt (by omega)]
theorem wrD_ok {w : List Nat} {d : DoV} (h : (wrD w d).1 = 0) : ∃ s, wrD w d = (0, w ++ s) := by
  unfold wrD at h ⊢
  split
  · rename_i h0
    rw [if_pos h0] at h
    unfold wFixed at h ⊢
    split
    · rename_i h1; rw [if_pos h1] at h; exact absurd h (by simp)
    · exact ⟨_, rfl⟩
  rename_i h0
  rw [if_neg h0] at h
  split
  · rename_i h0
    rw [if_pos h0] at h
    unfold wSigned at h ⊢
    split
    · rename_i h1; rw [if_pos h1] at h; exact absurd h (by simp)
    · exact ⟨_, rfl⟩
  rename_i h0
  rw [if_neg h0] at h
  split
  · rename_i h0
    rw [if_pos h0] at h
    unfold wUvlc at h ⊢
    split
    · rename_i h1; rw [if_pos h1] at h; exact absurd h (by simp)
    · exact ⟨_, rfl⟩
  rename_i h0
  rw [if_neg h0] at h
  split
  · rename_i h0
    rw [if_pos h0] at h
    unfold wLeb at h ⊢
    split
    · rename_i h1; rw [if_pos h1] at h; exact absurd h (by simp)
    · exact ⟨_, rfl⟩
  · exact ⟨_, rfl⟩
section
variable {b w s : List Nat}
theorem back_fixed {v : Nat} {n : Int} (h : wFixed w v n = (0, w ++ s)) (hl : w.length + s.length ≤ 8 * b.length) (hs : seg (bitOf b) w.length s.length = s) : rFixed b w.length n = (v, 0, w.length + s.length) := by
  unfold wFixed at h
  split at h
  · simp at h
  rename_i h1
  simp at h
  rw [← h, bitsN_len] at hs hl ⊢
  unfold rFixed
  rw [if_neg (by omega), if_neg (by omega), numb_seg (bitOf_lt b) (by omega) hs]
theorem back_signed {v : Nat} {n : Int} (hv : v < 4294967296) (h : wSigned w (toI v) n = (0, w ++ s)) (hl : w.length + s.length ≤ 8 * b.length) (hs : seg (bitOf b) w.length s.length = s) : ∃ x, rSigned b w.length n = (x, 0, w.length + s.length) ∧ toU x = v := by
  unfold wSigned at h
  split at h
  · simp at h
  rename_i h1
  simp at h
  rw [← h, List.length_cons, bitsN_len] at hs hl ⊢
  rw [seg_cons] at hs
  obtain ⟨e1, e2⟩ := List.cons.inj hs
  have e3 := numb_seg (bitOf_lt b) (v := (toI v).natAbs) (by omega) e2
  have hu := toUI hv
  unfold rSigned
  rw [if_neg (by omega), if_neg (by omega), e3, e1]
  by_cases hx : toI v < 0
  · rw [if_pos hx, if_pos rfl, if_neg (by omega)]
    exact ⟨_, rfl, by rw [show -(((toI v).natAbs : Nat) : Int) = toI v by omega]; exact hu⟩
  · rw [if_neg hx, if_neg (by decide)]
    exact ⟨_, rfl, by rw [show (((toI v).natAbs : Nat) : Int) = toI v by omega]; exact hu⟩
theorem back_uvlc {v : Nat} (hv : v < 4294967296) (h : wUvlc w v = (0, w ++ s)) (hl : w.length + s.length ≤ 8 * b.length) (hs : seg (bitOf b) w.length s.length = s) : rUvlc b w.length = (v, 0, w.length + s.length) := by
  unfold wUvlc at h
  split at h
  · simp at h
  rename_i h1
  simp at h
  have hL1 : ¬ blen (v + 1) ≤ 0 := fun h => by have := blen_le.1 h; simp at this
  have hL2 : blen (v + 1) ≤ 32 := blen_le.2 (by omega)
  have hL3 := blen_le.1 (Nat.le_refl (blen (v + 1)))
  have hL4 : ¬ v + 1 < 2 ^ (blen (v + 1) - 1) := fun h => by have := blen_le.2 h; omega
  generalize blen (v + 1) = L at h hL1 hL2 hL3 hL4
  obtain ⟨k, rfl⟩ : ∃ k, L = k + 1 := ⟨L - 1, by omega⟩
  rw [show 2 * (k + 1) - 1 = k + (k + 1) by omega] at h
  rw [← h, bitsN_len] at hs hl ⊢
  rw [seg_app (bitOf b) w.length (k + 1) k, bitsN_split, Nat.div_eq_of_lt hL3, bitsN_zero] at hs
  obtain ⟨e1, e2⟩ := List.append_inj hs (by rw [seg_len, List.length_replicate])
  have e3 := numb_seg (bitOf_lt b) hL3 e2
  rw [seg_cons, bitsN] at e2
  obtain ⟨e4, _⟩ := List.cons.inj e2
  have e5 : (v + 1) / 2 ^ k % 2 = 1 := by
    have hp := Nat.two_pow_pos k
    have : (v + 1) / 2 ^ k = 1 := by
      rw [Nat.div_eq_iff hp]; rw [Nat.pow_succ] at hL3; simp at hL4; omega
    rw [this]
  rw [e5] at e4
  have hz : ∀ i, 0 ≤ i → i < k → bitOf b (w.length + i) = 0 := fun i _ hi => by
    have := congrArg (fun l => l[i]?) e1
    simp only [seg_at hi, List.getElem?_replicate, if_pos hi] at this
    exact Option.some.inj this
  unfold rUvlc
  dsimp only
  rw [uvZ_eq (K := k) (by omega) (by omega) 32 0 hz (Nat.zero_le _) (by omega), if_neg (by omega), if_neg (by omega), e3, Nat.add_sub_cancel, show 2 * k + 1 = k + (k + 1) by omega]
theorem lebB_mod : ∀ k v, (lebB k v).length % 8 = 0
  | 0, _ => rfl
  | k + 1, v => by
    have := lebB_mod k (v / 128)
    unfold lebB
    split
    · rw [List.length_append, bitsN_len]; omega
    · rw [bitsN_len]
theorem back_leb {v : Nat} (hB : Byt b) (hv : v < 4294967296) (h : wLeb w v = (0, w ++ s)) (hl : w.length + s.length ≤ 8 * b.length) (hs : seg (bitOf b) w.length s.length = s) : rLeb b w.length = (v, 0, w.length + s.length) := by
  unfold wLeb at h
  split at h
  · simp at h
  rename_i h1
  simp at h
  have h8 := lebB_mod 5 v
  rw [← h] at hs hl ⊢
  generalize hm : (lebB 5 v).length = L at h8 hs hl ⊢
  obtain ⟨m, rfl⟩ : ∃ m, L = 8 * m := ⟨L / 8, by omega⟩
  unfold rLeb
  rw [if_neg (by omega)]
  dsimp only
  have e := bytes_seg hB m (w.length / 8) (by omega)
  rw [show 8 * (w.length / 8) = w.length by omega, hs] at e
  rw [leb_back 4 0 v 0 m (b.drop (w.length / 8)) rfl (by omega) (by omega) (fun c hc => hB c (List.mem_of_mem_drop hc)) (by rw [List.length_drop]; omega) hm.symm e]
  simp
theorem back_align (h : (0, pad8 w) = ((0 : Nat), w ++ s)) (hs : seg (bitOf b) w.length s.length = s) : rAlign b w.length = (0, w.length + s.length) := by
  unfold pad8 at h
  simp at h
  rw [← h, List.length_replicate] at hs ⊢
  unfold rAlign
  dsimp only
  rw [if_neg]
  rw [Decidable.not_not, numb_zero]
  intro i hi
  have := congrArg (fun l => l[i]?) hs
  simp only [seg_at hi, List.getElem?_replicate, if_pos hi] at this
  exact Option.some.inj this
theorem back (hB : Byt b) {d : DoV} (hd : d.wf) (h : wrD w d = (0, w ++ s)) (hl : w.length + s.length ≤ 8 * b.length) (hs : seg (bitOf b) w.length s.length = s) :
    ∃ x, rdD b w.length d = (x, 0, w.length + s.length) ∧ (brg d.k 5 < 4 → x = d.v) := by
  unfold wrD at h
  unfold rdD
  split
  · rename_i h0; rw [if_pos h0] at h; exact ⟨_, back_fixed h hl hs, fun _ => rfl⟩
  rename_i h0
  rw [if_neg h0] at h
  split
  · rename_i h0; rw [if_pos h0] at h
    obtain ⟨x, e1, e2⟩ := back_signed hd.2 h hl hs
    rw [e1]; exact ⟨_, rfl, fun _ => e2⟩
  rename_i h1
  rw [if_neg h1] at h
  split
  · rename_i h0; rw [if_pos h0] at h; exact ⟨_, back_uvlc hd.2 h hl hs, fun _ => rfl⟩
  rename_i h2
  rw [if_neg h2] at h
  split
  · rename_i h0; rw [if_pos h0] at h; exact ⟨_, back_leb hB hd.2 h hl hs, fun _ => rfl⟩
  · rename_i h3; rw [if_neg h3] at h
    rw [back_align h hs]
    refine ⟨_, rfl, fun h4 => ?_⟩
    unfold brg at h0 h1 h2 h3 h4
    rw [if_neg (by decide)] at h0 h1 h2 h3 h4
    omega
theorem bitOf_pack (hw : Bin w) {i : Nat} (h : i < w.length) : bitOf (pack w) i = bitL w i := by
  have hq : i / 8 < (pack w).length := by rw [pack_len]; omega
  have e1 := numb8 (pack_byt hw) hq
  have e2 : (pack w)[i / 8] = gbyte w (i / 8) := by simp [pack]
  rw [e2] at e1
  have e3 := segN (bitOf_lt (pack w)) 8 (8 * (i / 8))
  rw [e1] at e3
  have e4 := segN (bitL_lt hw) 8 (8 * (i / 8))
  have e5 := congrArg (fun l => l[i % 8]?) (e3.symm.trans e4)
  simp only [seg_at (show i % 8 < 8 by omega)] at e5
  have e6 := Option.some.inj e5
  rw [show 8 * (i / 8) + i % 8 = i by omega] at e6
  exact e6
theorem seg_pack {r : List Nat} (hw : Bin (w ++ s ++ r)) : seg (bitOf (pack (w ++ s ++ r))) w.length s.length = s := by
  refine List.ext_getElem? fun i => ?_
  by_cases hi : i < s.length
  · rw [seg_at hi, bitOf_pack hw (by simp; omega)]
    simp only [bitL, List.getD_eq_getElem?_getD]
    rw [List.append_assoc, List.getElem?_append_right (by omega), List.getElem?_append_left (by omega)]
    simp [hi]
  · rw [List.getElem?_eq_none (by rw [seg_len]; omega), List.getElem?_eq_none (by omega)]
/-- What has been written one after another. -/
def Okd : List Nat → List DoV → List Nat → Prop
  | w, [], w' => w = w'
  | w, d :: r, w' => d.wf ∧ (wrD w d).1 = 0 ∧ Okd (wrD w d).2 r w'
theorem Okd.snoc {d : DoV} (hd : d.wf) : ∀ {l : List DoV} {w w' : List Nat}, Okd w l w' → (wrD w' d).1 = 0 → Okd w (l ++ [d]) (wrD w' d).2
  | [], w, w', h, h0 => by
    have h : w = w' := h
    subst h; exact ⟨hd, h0, rfl⟩
  | e :: r, w, w', h, h0 => ⟨h.1, h.2.1, Okd.snoc hd h.2.2 h0⟩
theorem Okd.pre : ∀ {l : List DoV} {w w' : List Nat}, Okd w l w' → ∃ r, w' = w ++ r
  | [], w, w', h => ⟨[], by simp; exact h.symm⟩
  | d :: l, w, w', h => by
    obtain ⟨s, hs⟩ := wrD_ok h.2.1
    have h3 := h.2.2
    rw [hs] at h3
    obtain ⟨r, hr⟩ := h3.pre
    exact ⟨s ++ r, by rw [hr, List.append_assoc]⟩
/-- The next read of what has been written. -/
theorem Okd.read {d : DoV} {l : List DoV} {w w' : List Nat} (hw : Bin w') (h : Okd w (d :: l) w') :
    ∃ x, rdD (pack w') w.length d = (x, 0, (wrD w d).2.length) ∧ (brg d.k 5 < 4 → x = d.v) ∧ Okd (wrD w d).2 l w' := by
  obtain ⟨hd, h1, h2⟩ := h
  obtain ⟨s, hs⟩ := wrD_ok h1
  rw [hs] at h2 ⊢
  obtain ⟨r, rfl⟩ := h2.pre
  obtain ⟨x, e1, e2⟩ := back (pack_byt hw) hd hs (by rw [pack_len]; simp; omega) (seg_pack hw)
  exact ⟨x, by rw [e1]; simp, e2, h2⟩
theorem align_end {w : List Nat} (hw : Bin w) : rAlign (pack w) w.length = (0, 8 * (pack w).length) := by
  unfold rAlign
  dsimp only
  rw [pack_len]
  rw [if_neg, show w.length + (8 - w.length % 8) % 8 = 8 * ((w.length + 7) / 8) by omega]
  rw [Decidable.not_not, numb_zero]
  intro i hi
  have hb : Bin (pad8 w) := pad8_bin hw
  have := bitOf_pack hb (i := w.length + i) (by rw [pad8_len]; omega)
  rw [pack_pad] at this
  rw [this]
  unfold pad8
  simp only [bitL, List.getD_eq_getElem?_getD]
  rw [List.getElem?_append_right (by omega), List.getElem?_replicate]
  split <;> rfl
end
end Go.Zt
