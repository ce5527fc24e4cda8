/- Layer 1: the document's writers. -/
import Derived.Test.YtgepgbblmodagaaZkJ
set_option linter.unusedSimpArgs false
set_option linter.unusedVariables false
namespace Go.Zt
open Go Go.Sim Go.Proofs Go.RowKit
structure Wf (S : Nat → Prop) (M : Mem) (j : Nat) (w : List Nat) : Prop where
  out : ¬ S j
  bin : Bin w
  len : w.length ≤ 100000000000
  ex : ∃ A c, M.nb[j]? = some (.cells #[.slice A w.length c] 83) ∧ Own S M 3 A c (N64 w) ∧ w.length ≤ c
theorem Wf.chg {S : Nat → Prop} {T : Nat → Prop} {M M' : Mem} {j : Nat} {w : List Nat} (h : Wf S M j w) (k : Chg T M M') (hT : ∀ i, i < M.nb.size → S i ∨ i = j → ¬ T i) : Wf S M' j w := by
  obtain ⟨A, c, h1, h2, h3⟩ := h.ex
  exact ⟨h.out, h.bin, h.len, A, c, at_chg h1 k (hT j (lt_of_at h1) (.inr rfl)), h2.chg k fun i hi hs => hT i hi (.inl hs), h3⟩
theorem Wf.keep {S : Nat → Prop} {M M' : Mem} {j : Nat} {w : List Nat} (h : Wf S M j w) (k : Keep M M') : Wf S M' j w := h.chg k fun _ _ _ x => x
theorem Wf.push {S : Nat → Prop} {j : Nat} {M : Mem} {w : List Nat} (hf : Fl S M j) (h : Wf S M j w) {x : Nat} (hx : x < 2) (hl : w.length ≤ 95000000000) :
    ∃ A c, M.slAt (2 * j) 0 = some (A, w.length, c) ∧ ∃ A' c' M1, appendP Try.prog #[81, 81] (.slice A w.length c) (.slice (some ⟨2 * M.nb.size, 0, none⟩) 1 1) (M.new (.cells #[.int .i64 (x : Nat)] 3)) = some (.slice A' (w.length + 1) c', M1) ∧
      ∃ M2, M1.put (2 * j) 0 (.slice A' (w.length + 1) c') = some M2 ∧ Chg (fun i => S i ∨ i = j) M M2 ∧ Wf S M2 j (w ++ [x]) := by
  obtain ⟨A, c, g1, g2, g3⟩ := h.ex
  have hjl := lt_of_at g1
  have hfj : M.floor ≤ j := hf.fl j (.inr rfl)
  obtain ⟨A', c', M1, p1, p2, p3, p4⟩ := app1S el3 g2 (n := w.length) (by simp) (v := .int .i64 (x : Nat)) (fun i hi => hf.fl i (.inl hi)) (hf.nw _ (Nat.le_refl _)) (hf.nw _ (Nat.le_succ _)) rfl (by omega)
  have q1 := at_chg g1 p2 h.out
  have hf1 : M1.floor ≤ j := by rw [p2.floor]; exact hfj
  have P1 := put_of (i := 0) (v := .slice A' (w.length + 1) c') q1 hf1 (by simp) rfl
  have C1 : Chg (· = j) M1 (M1.upd j (.cells ((#[.slice A w.length c] : Array Value).setIfInBounds 0 (.slice A' (w.length + 1) c')) 83)) := upd_chg rfl
  refine ⟨A, c, sl_of g1 rfl, A', c', M1, p1, _, P1, (p2.mono fun i _ hi => .inl hi).trans (C1.mono fun i _ hi => .inr hi), h.out, bin_append h.bin (fun y hy => by simp at hy; omega), by simp; omega, A', c', ?_, ?_, by simpa using p4⟩
  · rw [upd_at (lt_of_at q1)]; simp
  · have e : N64 (w ++ [x]) = N64 w ++ [Value.int .i64 (x : Nat)] := by simp
    rw [e]; exact p3.chg C1 fun i _ hs he => h.out (he ▸ hs)
theorem c49_loop {S : Nat → Prop} {j : Nat} {M0 : Mem} (hf0 : Fl S M0 j) {v : Nat} (hv : v < 4611686018427387904) {Q : Value → Mem → Prop} {wEnd : List Nat} (hQ : ∀ N, Chg (fun i => S i ∨ i = j) M0 N → Wf S N j wEnd → Q (.tuple #[]) N) :
    ∀ (n : Nat) (w : List Nat) {M : Mem}, n ≤ 64 → Chg (fun i => S i ∨ i = j) M0 M → Wf S M j w → w.length + n ≤ 90000000000 → w ++ bitsN v n = wEnd → A49_1 (some ⟨2 * j, 0, none⟩) v ((n : Int) - 1) M Q
  | 0, w, M, hn, K, h, hl, he => by
    refine w49_1 ⟨fun h => absurd h (by omega), fun _ => hQ M K (by rw [← he, bitsN, List.append_nil]; exact h)⟩
  | n + 1, w, M, hn, K, h, hl, he => by
    have hf := hf0.chg K
    have en : (((n + 1 : Nat) : Int) - 1) = (n : Int) := by omega
    rw [en]
    have hx : v / 2 ^ n % 2 < 2 := Nat.mod_lt _ (by decide)
    have e0 : binV Try.prog .shr 86 3 (.int .u64 (v : Int)) (.int .i64 (n : Int)) = some (.int .u64 ((v / 2 ^ n : Nat) : Int)) := shr_nat (k := .u64) rfl (show n ≤ 64 by omega)
    have e1 : (IntKind.i64.wrap ((v / 2 ^ n : Nat) : Int)).tmod 2 = ((v / 2 ^ n % 2 : Nat) : Int) := by
      have hd : v / 2 ^ n < 4611686018427387904 := Nat.lt_of_le_of_lt (Nat.div_le_self _ _) hv
      generalize v / 2 ^ n = y at hd
      rw [i64w (by omega)]; exact tmodN y 2
    obtain ⟨A, c, s1, A', c', M1, p1, M2, p2, hC, hW⟩ := h.push hf hx (by omega)
    refine w49_1 ⟨fun _ => ⟨_, rfl, _, s1, _, e0, _, rfl, ?_⟩, fun h => absurd (show (n : Int) ≥ 0 by omega) h⟩
    rw [e1, i64w (by omega)]
    exact ⟨_, p1, _, rfl, _, rfl, _, p2, c49_loop hf0 hv hQ n (w ++ [v / 2 ^ n % 2]) (by omega) (K.trans hC) hW (by simp; omega) (by rw [← he, bitsN]; simp)⟩
section
variable {S : Nat → Prop} {j : Nat} {M : Mem} {w : List Nat}
theorem c49 (hf : Fl S M j) (h : Wf S M j w) {v n : Nat} {y z : Int} (hy : y = (v : Int)) (hz : z = (n : Int)) (hv : v < 4611686018427387904) (hn : n ≤ 64) (hl : w.length + n ≤ 90000000000) :
    Cn Try.prog 49 #[PtrB j, .int .u64 y, .int .i64 z] M fun u N => u = .tuple #[] ∧ Chg (fun i => S i ∨ i = j) M N ∧ Wf S N j (w ++ bitsN v n) := by
  subst hy hz
  refine w49_0 ?_
  rw [i64w (by omega)]
  exact c49_loop hf hv (fun N hC hW => ⟨rfl, hC, hW⟩) n w hn (.refl _) h hl rfl
def WfR (S : Nat → Prop) (M : Mem) (j : Nat) (r : Nat × List Nat) : Value → Mem → Prop := fun u N => u = .int .i64 (r.1 : Nat) ∧ Chg (fun i => S i ∨ i = j) M N ∧ Wf S N j r.2
theorem c23 (hf : Fl S M j) (h : Wf S M j w) {v : Nat} {y : Int} (hy : y = (v : Int)) (hv : v < 4294967296) (n : Int) (hl : w.length ≤ 80000000000) :
    Cn Try.prog 23 #[PtrB j, .int .u32 y, .int .i64 n] M (WfR S M j (wFixed w v n)) := by
  subst hy
  have bad : wFixed w v n = (2, w) → A23_1 (some ⟨2 * j, 0, none⟩) v n true M (WfR S M j (wFixed w v n)) := fun e => by
    rw [e]; exact w23_1 ⟨fun _ => ⟨rfl, .refl _, h⟩, fun h => (by cases h)⟩
  refine w23_0 ⟨fun h1 => bad (by unfold wFixed; rw [if_pos (by omega)]), fun h1 => ⟨fun h2 => bad (by unfold wFixed; rw [if_pos (by omega)]), fun h2 => ?_⟩⟩
  have hp := Nat.two_pow_pos n.toNat
  have hp32 := pow32 (n := n.toNat) (by omega)
  refine ⟨_, shl_nat (k := .u64) (x := 1) (q := n.toNat) rfl (by omega) (show 1 * 2 ^ n.toNat < 2 ^ 64 by omega) (show n.toNat ≤ 64 by omega), _, rfl, ?_⟩
  rw [Nat.one_mul, u64w (by omega)]
  by_cases hc : v ≥ 2 ^ n.toNat
  · rw [decide_eq_true (by omega)]
    exact bad (by unfold wFixed; rw [if_pos (.inr (.inr hc))])
  · rw [decide_eq_false (by omega)]
    have e : wFixed w v n = (0, w ++ bitsN v n.toNat) := by unfold wFixed; rw [if_neg (by omega)]
    refine w23_1 ⟨fun h => (by cases h), fun _ => Cn.mono (c49 hf h (v := v) (n := n.toNat) (u64w (by omega)) (by omega) (by omega) (by omega) (by omega)) ?_⟩
    rintro u N ⟨_, hC, hW⟩
    rw [e]; exact ⟨rfl, hC, hW⟩
theorem c53 (hf : Fl S M j) (h : Wf S M j w) {v : Int} (hv : -2147483648 ≤ v ∧ v ≤ 2147483647) (n : Int) (hl : w.length ≤ 80000000000) :
    Cn Try.prog 53 #[PtrB j, .int .i32 v, .int .i64 n] M (WfR S M j (wSigned w v n)) := by
  have key : ∀ (y : Int), y = (v.natAbs : Nat) → ∀ b : Bool, (b = true ↔ (n < 1 ∨ n > 31 ∨ v.natAbs ≥ 2 ^ n.toNat)) → A53_1 (some ⟨2 * j, 0, none⟩) v n y b M (WfR S M j (wSigned w v n)) := by
    intro y hy b hb
    subst hy
    refine w53_1 ⟨fun h1 => ?_, fun h1 => ?_⟩
    · have e : wSigned w v n = (2, w) := by unfold wSigned; rw [if_pos (hb.1 h1)]
      rw [e]; exact ⟨rfl, .refl _, h⟩
    · have hno : ¬ (n < 1 ∨ n > 31 ∨ v.natAbs ≥ 2 ^ n.toNat) := fun hh => by rw [hb.2 hh] at h1; cases h1
      have e : wSigned w v n = (0, w ++ (if v < 0 then 1 else 0) :: bitsN v.natAbs n.toNat) := by unfold wSigned; rw [if_neg hno]
      have go : ∀ s : Nat, s < 2 → s = (if v < 0 then 1 else 0) → Cn Try.prog 49 #[PtrB j, .int .u64 (s : Nat), .int .i64 1] M fun v6 N6 => Cn Try.prog 49 #[PtrB j, .int .u64 (IntKind.u64.wrap ((v.natAbs : Nat) : Int)), .int .i64 n] N6 fun v7 N7 => WfR S M j (wSigned w v n) (.int .i64 0) N7 := by
        intro s hs he
        refine Cn.mono (c49 hf h (v := s) (n := 1) rfl rfl (by omega) (by omega) (by omega)) ?_
        rintro u N ⟨_, hC, hW⟩
        refine Cn.mono (c49 (hf.chg hC) hW (v := v.natAbs) (n := n.toNat) (u64w (by omega)) (by omega) (by omega) (by omega) (by simp [bitsN_len]; omega)) ?_
        rintro u2 N2 ⟨_, hC2, hW2⟩
        rw [e]
        refine ⟨rfl, hC.trans hC2, ?_⟩
        have e2 : w ++ bitsN s 1 ++ bitsN v.natAbs n.toNat = w ++ (if v < 0 then 1 else 0) :: bitsN v.natAbs n.toNat := by
          simp only [bitsN, Nat.pow_zero, Nat.div_one, Nat.mod_eq_of_lt hs, ← he]; simp
        rw [e2] at hW2; exact hW2
      refine ⟨fun h2 => go 1 (by decide) (by rw [if_pos h2]), fun h2 => go 0 (by decide) (by rw [if_neg h2])⟩
  have hvi : IntKind.i64.wrap v = v := i64w (by omega)
  have hvn : IntKind.i64.wrap (0 - v) = 0 - v := i64w (by omega)
  have shl : ¬ n < 1 → ¬ n > 31 → binV Try.prog .shl 2 3 (.int .i64 1) (.int .i64 n) = some (.int .i64 ((2 ^ n.toNat : Nat) : Int)) ∧ 2 ^ n.toNat ≤ 2147483648 := by
    intro h1 h2
    have hp31 := pow31 (n := n.toNat) (by omega)
    refine ⟨?_, hp31⟩
    have := binV_shl (P := Try.prog) (t := 2) (tb := 3) (k := .i64) (k2 := .i64) (x := 1) (q := n.toNat)
    rw [show ((n.toNat : Nat) : Int) = n by omega, Nat.min_eq_left (show n.toNat ≤ IntKind.bits .i64 by show n.toNat ≤ 64; omega), Int.one_mul] at this
    rw [this]
    have e : (2 : Int) ^ n.toNat = ((2 ^ n.toNat : Nat) : Int) := by push_cast; rfl
    rw [e]
    generalize 2 ^ n.toNat = q at hp31
    have e3 : IntKind.i64.wrap ((q : Nat) : Int) = ((q : Nat) : Int) := i64w (by omega)
    rw [e3]
  refine w53_0 ?_
  rw [hvi, hvn]
  refine ⟨fun h0 => ?_, fun h0 => ?_⟩
  · have ey : (0 - v) = ((v.natAbs : Nat) : Int) := by omega
    rw [ey]
    refine ⟨fun h1 => key _ rfl true (by simp; omega), fun h1 => ⟨fun h2 => key _ rfl true (by simp; omega), fun h2 => ?_⟩⟩
    obtain ⟨s1, s2⟩ := shl h1 h2
    exact ⟨_, s1, _, rfl, key _ rfl _ (by rw [decide_eq_true_eq]; omega)⟩
  · have ey : v = ((v.natAbs : Nat) : Int) := by omega
    have key' : ∀ b : Bool, (b = true ↔ (n < 1 ∨ n > 31 ∨ v.natAbs ≥ 2 ^ n.toNat)) → A53_1 (some ⟨2 * j, 0, none⟩) v n v b M (WfR S M j (wSigned w v n)) := fun b hb => key v ey b hb
    refine ⟨fun h1 => key' true (by simp; omega), fun h1 => ⟨fun h2 => key' true (by simp; omega), fun h2 => ?_⟩⟩
    obtain ⟨s1, s2⟩ := shl h1 h2
    exact ⟨_, s1, _, rfl, key' _ (by rw [decide_eq_true_eq]; omega)⟩
theorem c20 {M : Mem} : Cn Try.prog 20 #[] M fun v N => v = PtrB M.nb.size ∧ Keep M N ∧ N.nb.size = M.nb.size + 1 ∧ Wf (fun _ => False) N M.nb.size [] :=
  w20_0 ⟨rfl, .new _ _, Mem.new_size _ _, ⟨fun h => h, fun x h => (by cases h), by decide, none, 0, Mem.new_at _ _, .inl ⟨rfl, rfl, rfl⟩, Nat.le_refl _⟩⟩
theorem c29 (h : Wf S M j w) (hf : M.floor ≤ M.nb.size) : Cn Try.prog 29 #[PtrB j] M fun v N => ∃ A' c', v = .slice A' (pack w).length c' ∧ Keep M N ∧ Own (fun i => M.nb.size ≤ i) N 5 A' c' (U8 (pack w)) := by
  obtain ⟨A, c, g1, g2, g3⟩ := h.ex
  have hl := h.len
  refine w29_0 ⟨_, rfl, _, sl_of g1 rfl, Cn.mono (c62 hf g2.row h.bin (by omega) rfl) ?_⟩
  rintro v N ⟨A', c', rfl, hK, hO⟩
  exact ⟨_, rfl, A', c', rfl, hK, hO⟩
end
end Go.Zt
