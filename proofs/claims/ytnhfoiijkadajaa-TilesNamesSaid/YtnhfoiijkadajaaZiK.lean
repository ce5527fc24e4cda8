/- Layer 1: the document's writers. -/
import Derived.Test.YtnhfoiijkadajaaZiJ
set_option linter.unusedSimpArgs false
set_option linter.unusedVariables false
namespace Go.Zu
open Go Go.Sim Go.Proofs Go.RowKit
structure Wf (S : Nat → Prop) (M : Mem) (j : Nat) (w : List Nat) : Prop where
  out : ¬ S j
  bin : Bin w
  len : w.length ≤ 100000000000
  ex : ∃ A c, M.nb[j]? = some (.cells #[.slice A w.length c] 86) ∧ Own S M 3 A c (N64 w) ∧ w.length ≤ c
theorem Wf.chg {S : Nat → Prop} {T : Nat → Prop} {M M' : Mem} {j : Nat} {w : List Nat} (h : Wf S M j w) (k : Chg T M M') (hT : ∀ i, i < M.nb.size → S i ∨ i = j → ¬ T i) : Wf S M' j w := by
  obtain ⟨A, c, h1, h2, h3⟩ := h.ex
  exact ⟨h.out, h.bin, h.len, A, c, at_chg h1 k (hT j (lt_of_at h1) (.inr rfl)), h2.chg k fun i hi hs => hT i hi (.inl hs), h3⟩
theorem Wf.keep {S : Nat → Prop} {M M' : Mem} {j : Nat} {w : List Nat} (h : Wf S M j w) (k : Keep M M') : Wf S M' j w := h.chg k fun _ _ _ x => x
theorem Wf.push {S : Nat → Prop} {j : Nat} {M : Mem} {w : List Nat} (hf : Fl S M j) (h : Wf S M j w) {x : Nat} (hx : x < 2) (hl : w.length ≤ 95000000000) :
    ∃ A c, M.slAt (2 * j) 0 = some (A, w.length, c) ∧ ∃ A' c' M1, appendP Try.prog #[22, 22] (.slice A w.length c) (.slice (some ⟨2 * M.nb.size, 0, none⟩) 1 1) (M.new (.cells #[.int .i64 (x : Nat)] 3)) = some (.slice A' (w.length + 1) c', M1) ∧
      ∃ M2, M1.put (2 * j) 0 (.slice A' (w.length + 1) c') = some M2 ∧ Chg (fun i => S i ∨ i = j) M M2 ∧ Wf S M2 j (w ++ [x]) := by
  obtain ⟨A, c, g1, g2, g3⟩ := h.ex
  have hjl := lt_of_at g1
  have hfj : M.floor ≤ j := hf.fl j (.inr rfl)
  obtain ⟨A', c', M1, p1, p2, p3, p4⟩ := app1S el3 g2 (n := w.length) (by simp) (v := .int .i64 (x : Nat)) (fun i hi => hf.fl i (.inl hi)) (hf.nw _ (Nat.le_refl _)) (hf.nw _ (Nat.le_succ _)) rfl (by omega)
  have q1 := at_chg g1 p2 h.out
  have hf1 : M1.floor ≤ j := by rw [p2.floor]; exact hfj
  have P1 := put_of (i := 0) (v := .slice A' (w.length + 1) c') q1 hf1 (by simp) rfl
  have C1 : Chg (· = j) M1 (M1.upd j (.cells ((#[.slice A w.length c] : Array Value).setIfInBounds 0 (.slice A' (w.length + 1) c')) 86)) := upd_chg rfl
  refine ⟨A, c, sl_of g1 rfl, A', c', M1, p1, _, P1, (p2.mono fun i _ hi => .inl hi).trans (C1.mono fun i _ hi => .inr hi), h.out, bin_append h.bin (fun y hy => by simp at hy; omega), by simp; omega, A', c', ?_, ?_, by simpa using p4⟩
  · rw [upd_at (lt_of_at q1)]; simp
  · have e : N64 (w ++ [x]) = N64 w ++ [Value.int .i64 (x : Nat)] := by simp
    rw [e]; exact p3.chg C1 fun i _ hs he => h.out (he ▸ hs)
theorem c53_loop {S : Nat → Prop} {j : Nat} {M0 : Mem} (hf0 : Fl S M0 j) {v : Nat} (hv : v < 4611686018427387904) {Q : Value → Mem → Prop} {wEnd : List Nat} (hQ : ∀ N, Chg (fun i => S i ∨ i = j) M0 N → Wf S N j wEnd → Q (.tuple #[]) N) :
    ∀ (n : Nat) (w : List Nat) {M : Mem}, n ≤ 64 → Chg (fun i => S i ∨ i = j) M0 M → Wf S M j w → w.length + n ≤ 90000000000 → w ++ bitsN v n = wEnd → A53_1 (some ⟨2 * j, 0, none⟩) v ((n : Int) - 1) M Q
  | 0, w, M, hn, K, h, hl, he => by
    refine w53_1 ⟨fun h => absurd h (by omega), fun _ => hQ M K (by rw [← he, bitsN, List.append_nil]; exact h)⟩
  | n + 1, w, M, hn, K, h, hl, he => by
    have hf := hf0.chg K
    have en : (((n + 1 : Nat) : Int) - 1) = (n : Int) := by omega
    rw [en]
    have hx : v / 2 ^ n % 2 < 2 := Nat.mod_lt _ (by decide)
    have e0 : binV Try.prog .shr 80 3 (.int .u64 (v : Int)) (.int .i64 (n : Int)) = some (.int .u64 ((v / 2 ^ n : Nat) : Int)) := shr_nat (k := .u64) rfl (show n ≤ 64 by omega)
    have e1 : (IntKind.i64.wrap ((v / 2 ^ n : Nat) : Int)).tmod 2 = ((v / 2 ^ n % 2 : Nat) : Int) := by
      have hd : v / 2 ^ n < 4611686018427387904 := Nat.lt_of_le_of_lt (Nat.div_le_self _ _) hv
      generalize v / 2 ^ n = y at hd
      rw [i64w (by omega)]; exact tmodN y 2
    obtain ⟨A, c, s1, A', c', M1, p1, M2, p2, hC, hW⟩ := h.push hf hx (by omega)
    refine w53_1 ⟨fun _ => ⟨_, rfl, _, s1, _, e0, _, rfl, ?_⟩, fun h => absurd (show (n : Int) ≥ 0 by omega) h⟩
    rw [e1, i64w (by omega)]
    exact ⟨_, p1, _, rfl, _, rfl, _, p2, c53_loop hf0 hv hQ n (w ++ [v / 2 ^ n % 2]) (by omega) (K.trans hC) hW (by simp; omega) (by rw [← he, bitsN]; simp)⟩
section
variable {S : Nat → Prop} {j : Nat} {M : Mem} {w : List Nat}
theorem c53 (hf : Fl S M j) (h : Wf S M j w) {v n : Nat} {y z : Int} (hy : y = (v : Int)) (hz : z = (n : Int)) (hv : v < 4611686018427387904) (hn : n ≤ 64) (hl : w.length + n ≤ 90000000000) :
    Cn Try.prog 53 #[PtrB j, .int .u64 y, .int .i64 z] M fun u N => u = .tuple #[] ∧ Chg (fun i => S i ∨ i = j) M N ∧ Wf S N j (w ++ bitsN v n) := by
  subst hy hz
  refine w53_0 ?_
  rw [i64w (by omega)]
  exact c53_loop hf hv (fun N hC hW => ⟨rfl, hC, hW⟩) n w hn (.refl _) h hl rfl
def WfR (S : Nat → Prop) (M : Mem) (j : Nat) (r : Nat × List Nat) : Value → Mem → Prop := fun u N => u = .int .i64 (r.1 : Nat) ∧ Chg (fun i => S i ∨ i = j) M N ∧ Wf S N j r.2
theorem c40_loop {M0 : Mem} (hf : Fl S M0 j) {r : Nat × List Nat} (hr : r.1 = 0) : ∀ (k v : Nat) {M : Mem} {w : List Nat}, v < 128 ^ k → v < 4294967296 → Chg (fun i => S i ∨ i = j) M0 M → Wf S M j w → w.length + 8 * k ≤ 85000000000 → w ++ lebB k v = r.2 → 1 ≤ k →
    A40_1 (some ⟨2 * j, 0, none⟩) v M (WfR S M0 j r)
  | 0, v, M, w, hv, hv2, K, h, hl, he, hk => by omega
  | k + 1, v, M, w, hv, hv2, K, h, hl, he, hk => by
    have hf' := hf.chg K
    refine w40_1 ⟨fun h1 => ?_, fun h1 => ?_⟩
    · have e1 : IntKind.u32.wrap (128 + (v : Int).tmod 128) = ((128 + v % 128 : Nat) : Int) := by
        rw [show ((v : Int).tmod 128) = ((v % 128 : Nat) : Int) from tmodN v 128, u32w (by omega)]; omega
      rw [e1, show ((v : Int).tdiv 128) = ((v / 128 : Nat) : Int) from tdivN v 128]
      refine Cn.mono (c53 hf' h (v := 128 + v % 128) (n := 8) (u64w (by omega)) rfl (by omega) (by omega) (by omega)) ?_
      rintro u N ⟨_, hC, hW⟩
      have hk1 : 1 ≤ k := by
        cases k with
        | zero => simp at hv; omega
        | succ k => omega
      rw [u32w (by omega)]
      refine c40_loop hf hr k (v / 128) (by rw [Nat.pow_succ] at hv; exact (Nat.div_lt_iff_lt_mul (by decide)).2 hv) (by omega) (K.trans hC) hW (by simp [bitsN_len]; omega) ?_ hk1
      rw [← he, lebB, if_pos (by omega), List.append_assoc]
    · refine Cn.mono (c53 hf' h (v := v) (n := 8) (u64w (by omega)) rfl (by omega) (by omega) (by omega)) ?_
      rintro u N ⟨_, hC, hW⟩
      refine ⟨by rw [hr]; rfl, K.trans hC, ?_⟩
      rw [← he, lebB, if_neg (by omega)]; exact hW
theorem c40 (hf : Fl S M j) (h : Wf S M j w) {v : Nat} {y : Int} (hy : y = (v : Int)) (hv : v < 4294967296) (hl : w.length ≤ 80000000000) :
    Cn Try.prog 40 #[PtrB j, .int .u32 y] M (WfR S M j (wLeb w v)) := by
  subst hy
  obtain ⟨A, c, g1, g2, g3⟩ := h.ex
  refine w40_0 ⟨_, rfl, _, sl_of g1 rfl, fun h0 => ?_, fun h0 => ?_⟩
  · have h0' : ¬ ((w.length % 8 : Nat) : Int) = 0 := h0
    have e : wLeb w v = (2, w) := by unfold wLeb; rw [if_pos (by omega)]
    rw [e]; exact ⟨rfl, .refl _, h⟩
  · have h0' : ((w.length % 8 : Nat) : Int) = 0 := h0
    have e : wLeb w v = (0, w ++ lebB 5 v) := by unfold wLeb; rw [if_neg (by omega)]
    rw [e]
    exact c40_loop hf rfl 5 v (by simp only [Nat.reducePow]; omega) hv (.refl _) h (by omega) rfl (by decide)
theorem c39 {M : Mem} : Cn Try.prog 39 #[] M fun v N => v = PtrB M.nb.size ∧ Keep M N ∧ N.nb.size = M.nb.size + 1 ∧ Wf (fun _ => False) N M.nb.size [] :=
  w39_0 ⟨rfl, .new _ _, Mem.new_size _ _, ⟨fun h => h, fun x h => (by cases h), by decide, none, 0, Mem.new_at _ _, .inl ⟨rfl, rfl, rfl⟩, Nat.le_refl _⟩⟩
theorem c41 (h : Wf S M j w) (hf : M.floor ≤ M.nb.size) : Cn Try.prog 41 #[PtrB j] M fun v N => ∃ A' c', v = .slice A' (pack w).length c' ∧ Keep M N ∧ Own (fun i => M.nb.size ≤ i) N 5 A' c' (U8 (pack w)) := by
  obtain ⟨A, c, g1, g2, g3⟩ := h.ex
  have hl := h.len
  refine w41_0 ⟨_, rfl, _, sl_of g1 rfl, Cn.mono (c54 hf g2.row h.bin (by omega) rfl) ?_⟩
  rintro v N ⟨A', c', rfl, hK, hO⟩
  exact ⟨_, rfl, A', c', rfl, hK, hO⟩
end
end Go.Zu
