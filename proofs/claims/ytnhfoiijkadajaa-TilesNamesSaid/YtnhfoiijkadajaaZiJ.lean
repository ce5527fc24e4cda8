/- Layer 1: the program's writers' calls; the document's writers. -/
import Derived.Test.YtnhfoiijkadajaaZiI
set_option linter.unusedSimpArgs false
set_option linter.unusedVariables false
namespace Go.Zu
open Go Go.Sim Go.Proofs Go.RowKit
def lebB : Nat → Nat → List Nat
  | 0, _ => []
  | k + 1, v => if v ≥ 128 then bitsN (128 + v % 128) 8 ++ lebB k (v / 128) else bitsN v 8
def wLeb (w : List Nat) (v : Nat) : Nat × List Nat :=
  if w.length % 8 ≠ 0 then (2, w) else (0, w ++ lebB 5 v)
section
variable {S : Nat → Prop} {j : Nat} {M : Mem} {w : List Nat}
def WrR (S : Nat → Prop) (M : Mem) (j : Nat) (r : Nat × List Nat) : Value → Mem → Prop := fun u N => u = .int .i64 (r.1 : Nat) ∧ Chg (fun i => S i ∨ i = j) M N ∧ Wr S N j r.2
theorem c37_loop {M0 : Mem} (hf : Fl S M0 j) {r : Nat × List Nat} (hr : r.1 = 0) : ∀ (k v : Nat) {M : Mem} {w : List Nat}, v < 128 ^ k → v < 4294967296 → Chg (fun i => S i ∨ i = j) M0 M → Wr S M j w → w.length + 8 * k ≤ 85000000000 → w ++ lebB k v = r.2 → 1 ≤ k →
    A37_1 (some ⟨2 * j, 0, none⟩) v M (WrR S M0 j r)
  | 0, v, M, w, hv, hv2, K, h, hl, he, hk => by omega
  | k + 1, v, M, w, hv, hv2, K, h, hl, he, hk => by
    have hf' := hf.chg K
    refine w37_1 ⟨fun h1 => ?_, fun h1 => ?_⟩
    · have e1 : IntKind.u32.wrap (((BitVec.ofInt (IntKind.bits .u32) (IntKind.u32.wrap (((BitVec.ofInt (IntKind.bits .u32) (v : Int) &&& BitVec.ofInt (IntKind.bits .u32) 127).toNat : Nat) : Int)) ||| BitVec.ofInt (IntKind.bits .u32) 128).toNat : Nat) : Int) = ((128 + v % 128 : Nat) : Int) := by
        rw [and_mask (k := .u32) rfl (m := 7) (c := 127) rfl (by decide) (show v < 2 ^ 32 by omega)]
        have := or_nat (k := .u32) rfl (x := v % 2 ^ 7) (y := 128) (show _ < 2 ^ 32 by omega) (by decide)
        rw [Nat.or_comm, or_add (k := 7) ⟨1, rfl⟩ (by omega)] at this
        exact this
      rw [e1, show ((v : Int).fdiv (2 ^ 7)) = ((v / 128 : Nat) : Int) from fdivN v 128]
      refine Cn.mono (c52 hf' h (v := 128 + v % 128) (n := 8) (u64w (by omega)) rfl (by omega) (by omega) (by omega)) ?_
      rintro u N ⟨_, hC, hW⟩
      have hk1 : 1 ≤ k := by
        cases k with
        | zero => simp at hv; omega
        | succ k => omega
      refine c37_loop hf hr k (v / 128) (by rw [Nat.pow_succ] at hv; exact (Nat.div_lt_iff_lt_mul (by decide)).2 hv) (by omega) (K.trans hC) hW (by simp [bitsN_len]; omega) ?_ hk1
      rw [← he, lebB, if_pos (by omega), List.append_assoc]
    · refine Cn.mono (c52 hf' h (v := v) (n := 8) (u64w (by omega)) rfl (by omega) (by omega) (by omega)) ?_
      rintro u N ⟨_, hC, hW⟩
      refine ⟨by rw [hr]; rfl, K.trans hC, ?_⟩
      rw [← he, lebB, if_neg (by omega)]; exact hW
theorem c37 (hf : Fl S M j) (h : Wr S M j w) {v : Nat} {y : Int} (hy : y = (v : Int)) (hv : v < 4294967296) (hl : w.length ≤ 80000000000) :
    Cn Try.prog 37 #[PtrB j, .int .u32 y] M (WrR S M j (wLeb w v)) := by
  subst hy
  obtain ⟨A, c, g1, g2, g3⟩ := h.ex
  refine w37_0 (Cn.eq h.there ⟨_, rfl, fun h => absurd h (by simp), fun _ => ⟨_, rfl, _, int_of g1 rfl, fun h0 => ?_, fun h0 => ?_⟩⟩)
  · have e : wLeb w v = (2, w) := by unfold wLeb; rw [if_pos (by omega)]
    rw [e]; exact ⟨rfl, .refl _, h⟩
  · have e : wLeb w v = (0, w ++ lebB 5 v) := by unfold wLeb; rw [if_neg (by omega)]
    rw [e]
    exact c37_loop hf rfl 5 v (by simp only [Nat.reducePow]; omega) hv (.refl _) h (by omega) rfl (by decide)
theorem c36 {M : Mem} : Cn Try.prog 36 #[] M fun v N => v = PtrB M.nb.size ∧ Keep M N ∧ N.nb.size = M.nb.size + 1 ∧ Wr (fun _ => False) N M.nb.size [] :=
  w36_0 ⟨rfl, .new _ _, Mem.new_size _ _, ⟨fun h => h, fun x h => (by cases h), by decide, none, 0, Mem.new_at _ _, .inl ⟨rfl, rfl, rfl⟩, Nat.le_refl _⟩⟩
theorem c38 (h : Wr S M j w) (hf : M.floor ≤ M.nb.size) : Cn Try.prog 38 #[PtrB j] M fun v N => ∃ A' c', v = .slice A' (pack w).length c' ∧ Keep M N ∧ Own (fun i => M.nb.size ≤ i) N 5 A' c' (U8 (pack w)) ∧ (pack w).length ≤ c' := by
  obtain ⟨A, c, g1, g2, g3⟩ := h.ex
  have hl := h.len
  refine w38_0 (Cn.eq h.there ⟨_, rfl, fun h => absurd h (by simp), fun _ => ⟨_, rfl, _, sl_of g1 rfl, Cn.mono (c46' hf g2.row (n := (w.length + 7) / 8) (pack_len w) (by omega)) ?_⟩⟩)
  rintro v N ⟨A', c', rfl, hK, hO, hc⟩
  exact ⟨_, rfl, A', c', by rw [pack_len], hK, hO, by rw [pack_len]; exact hc⟩
end
end Go.Zu
