/- Layer 21: tiles of the program and of the document, squares. -/
import Derived.Test.YtnhfoiijkadajaaZeC
set_option linter.unusedSimpArgs false
set_option linter.unusedVariables false
namespace Go.Zt
open Go Go.Sim Go.Proofs Go.RowKit
section
variable {M0 : Mem}
theorem c16 (hf : M0.floor ≤ M0.nb.size) {w h c r : Int} : Cn Try.prog 16 #[.agg #[.int .i64 w, .int .i64 h], .int .i64 c, .int .i64 r] M0 (LyR M0 w h c r) := by
  have a0 := Mem.new_at M0 (.cells #[.int .i64 w, .int .i64 h] 32)
  have K0 : Keep M0 (M0.new (.cells #[.int .i64 w, .int .i64 h] 32)) := .new _ _
  have bad : ∀ {A B : Option Addr} {la lb ca cb : Nat} {N : Mem}, (sideB w c && sideB h r) = false → Keep M0 N → A16_1 A la ca B lb cb true N (LyR M0 w h c r) := fun hb K => w16_1 ⟨fun _ => .inl ⟨hb, rfl, K⟩, fun h => (by cases h)⟩
  refine w16_0 ⟨_, int_of a0 rfl, Cn.mono (c31 (by rw [K0.floor]; exact Nat.le_trans hf K0.size)) ?_⟩
  rintro v N (⟨h1, rfl, rfl⟩ | ⟨w', c', rfl, rfl, h1, h2, h3, h4, h5, A, ca, rfl, K1, O1⟩)
  · refine ⟨_, rfl, _, rfl, _, rfl, _, int_of a0 rfl, Cn.mono (c31 (by rw [K0.floor]; exact Nat.le_trans hf K0.size)) ?_⟩
    have hbad : (sideB w c && sideB h r) = false := by rw [h1]; rfl
    rintro v N (⟨h2, rfl, rfl⟩ | ⟨w', c', rfl, rfl, _, _, _, _, h5, A, ca, rfl, K2, O2⟩)
    · exact ⟨_, rfl, _, rfl, _, rfl, fun _ => bad hbad K0, fun h => (by cases h)⟩
    · exact ⟨_, rfl, _, rfl, _, rfl, fun _ => bad hbad (K0.trans K2), fun h => (by cases h)⟩
  have a1 := at_keep a0 K1
  have hf1 : N.floor ≤ N.nb.size := by rw [K1.floor, K0.floor]; exact Nat.le_trans hf (Nat.le_trans K0.size K1.size)
  refine ⟨_, rfl, _, rfl, _, rfl, _, int_of a1 rfl, Cn.mono (c31 hf1) ?_⟩
  rintro v N2 (⟨g1, rfl, rfl⟩ | ⟨h', r', rfl, rfl, g1, g2, g3, g4, g5, B, cb, rfl, K2, O2⟩)
  · exact ⟨_, rfl, _, rfl, _, rfl, fun h => (by cases h), fun _ => bad (by rw [g1, Bool.and_false]) (K0.trans K1)⟩
  refine ⟨_, rfl, _, rfl, _, rfl, fun h => (by cases h), fun _ => w16_1 ⟨fun h => (by cases h), fun _ => ?_⟩⟩
  have hq := pow2c g3
  have er : IntKind.i64.wrap (((2 ^ r' + 1 : Nat) : Int) - 1) = ((2 ^ r' : Nat) : Int) := by rw [i64w (by omega)]; omega
  show A16_2 A (2 ^ c' + 1) ca B (2 ^ r' + 1) cb none 0 0 (IntKind.i64.wrap (((2 ^ r' + 1 : Nat) : Int) - 1)) 0 N2 _
  rw [er]
  have hf2 : N2.floor ≤ N2.nb.size := by rw [K2.floor]; exact Nat.le_trans hf1 K2.size
  have K02 := (K0.trans K1).trans K2
  exact c16_out (M0 := N2) hf2 h2 g2 h3 g3 (fun K => (O1.row.keep K2).keep K) (fun K => O2.row.keep K) (fun A' cap N K hO => .inr ⟨w', h', c', r', rfl, rfl, rfl, rfl, h1, h2, g1, g2, h3, g3, h4, g4, by rw [h5, g5]; rfl, A', cap, rfl, K02.trans K, hO.mono fun i _ hi => Nat.le_trans K02.size hi, by
    have := hO.cap
    rw [Rcs_len] at this; omega⟩) (2 ^ r') 0 none 0 (M := N2) (Nat.zero_add _) (.refl _) Own.empty
theorem edge_mid {n c i : Nat} (hn : 16 ≤ n ∧ n ≤ 256) (hc : c ≤ 2) (hi : i < 2 ^ c) (hs : 2 ^ c ≤ sqN n) : i * sqN n / 2 ^ c * 64 = edgeN n c i := by
  unfold edgeN
  rw [Nat.min_eq_left]
  have hd : i * sqN n / 2 ^ c ≤ sqN n - 1 := by
    have hp := pow2c hc
    rw [Nat.div_le_iff_le_mul_add_pred (by omega)]
    have h1 : i * sqN n ≤ (2 ^ c - 1) * sqN n := Nat.mul_le_mul_right _ (by omega)
    rw [Nat.sub_mul, Nat.one_mul] at h1
    rw [Nat.mul_sub, Nat.mul_one]
    omega
  unfold sqN codN at *
  generalize i * ((n + 63) / 64) / 2 ^ c = d at hd ⊢
  omega
theorem c17_in (hf : M0.floor ≤ M0.nb.size) {w h c r : Nat} (hw : 16 ≤ w ∧ w ≤ 256) (hh : 16 ≤ h ∧ h ≤ 256) (hc : c ≤ 2) (hr : r ≤ 2) (hcs : 2 ^ c ≤ sqN w) (hrs : 2 ^ r ≤ sqN h) {p : Addr} {j : Nat} (hj : j < 2 ^ r) {l : List Rc} (hl : l.length ≤ 16) {Q : Value → Mem → Prop}
    (hA : ∀ {N}, Keep M0 N → N.intAt .i64 p.block p.off = some (w : Int)) (hB : ∀ {N}, Keep M0 N → N.intAt .i64 p.block (p.off + 1) = some (h : Int))
    (hE : ∀ A' c' N, Keep M0 N → Own (fun j => M0.nb.size ≤ j) N 35 A' (c' * 4) (Rcs (l ++ layR w h c r (2 ^ c) j)) → A17_8 (c : Nat) (r : Nat) (some p) A' (l ++ layR w h c r (2 ^ c) j).length c' ((j + 1 : Nat) : Int) N Q) :
    ∀ (k i : Nat) (A' : Option Addr) (c' : Nat) {M : Mem}, i + k = 2 ^ c → Keep M0 M → Own (fun j => M0.nb.size ≤ j) M 35 A' (c' * 4) (Rcs (l ++ layR w h c r i j)) →
      A17_9 (c : Nat) (r : Nat) (some p) A' (l ++ layR w h c r i j).length c' (j : Nat) (i : Nat) M Q := by
  have hp := pow2c hc
  have hq := pow2c hr
  have e2 : (1 : Int) * 2 ^ c = ((2 ^ c : Nat) : Int) := by simp
  have e3 : (1 : Int) * 2 ^ r = ((2 ^ r : Nat) : Int) := by simp
  have sc : binV Try.prog .shl 3 3 (.int .i64 1) (.int .i64 (c : Nat)) = some (.int .i64 (2 ^ c : Nat)) := by rw [shl_i64 rfl (by rw [e2]; omega) (by omega), e2]
  have sr : binV Try.prog .shl 3 3 (.int .i64 1) (.int .i64 (r : Nat)) = some (.int .i64 (2 ^ r : Nat)) := by rw [shl_i64 rfl (by rw [e3]; omega) (by omega), e3]
  intro k
  induction k with
  | zero =>
    intro i A' c' M hi K hO
    obtain rfl : i = 2 ^ c := by omega
    refine w17_9 ⟨_, sc, _, rfl, fun h => by omega, fun _ => ?_⟩
    rw [i64w (by omega), show ((j : Int) + 1) = ((j + 1 : Nat) : Int) by omega]
    exact hE A' c' M K hO
  | succ k ih =>
    intro i A' c' M hi K hO
    have hll : (layR w h c r i j).length = i := by simp [layR]
    have hsw := sqN_b hw.2
    have hsh := sqN_b hh.2
    have quo : ∀ {a s q : Nat}, a ≤ 4 → s ≤ 4 → q ≤ 2 → binV Try.prog .quo 3 3 (.int .i64 (IntKind.i64.wrap ((a : Int) * (s : Nat)))) (.int .i64 (2 ^ q : Nat)) = some (.int .i64 (a * s / 2 ^ q : Nat)) := by
      intro a s q ha hs hq
      have h2 := pow2c hq
      have hm : a * s ≤ 16 := Nat.le_trans (Nat.mul_le_mul ha hs) (by decide)
      have hd : a * s / 2 ^ q ≤ 16 := Nat.le_trans (Nat.div_le_self ..) hm
      rw [← Int.natCast_mul, i64w (by omega), binV_quo (by omega), tdivN]
      generalize a * s / 2 ^ q = d at hd ⊢
      rw [i64w (by omega)]
    have ei : IntKind.i64.wrap ((i : Int) + 1) = ((i + 1 : Nat) : Int) := by rw [i64w (by omega)]; omega
    have ej : IntKind.i64.wrap ((j : Int) + 1) = ((j + 1 : Nat) : Int) := by rw [i64w (by omega)]; omega
    have m1 := edge_mid hw hc (show i < 2 ^ c by omega) hcs
    have m2 := edge_mid hh hr hj hrs
    have b1 := edge_le (c := c) (i := i) hw.2
    have b2 := edge_le (c := c) (i := i + 1) hw.2
    have b3 := edge_le (c := r) (i := j) hh.2
    have b4 := edge_le (c := r) (i := j + 1) hh.2
    have k2 : edgeN w c (i + 1) = min ((i + 1) * sqN w / 2 ^ c * 64) (codN w) := rfl
    have k4 : edgeN h r (j + 1) = min ((j + 1) * sqN h / 2 ^ r * 64) (codN h) := rfl
    have d2 : (i + 1) * sqN w / 2 ^ c ≤ 16 := Nat.le_trans (Nat.div_le_self ..) (Nat.le_trans (Nat.mul_le_mul (show i + 1 ≤ 4 by omega) hsw) (by decide))
    have d4 : (j + 1) * sqN h / 2 ^ r ≤ 16 := Nat.le_trans (Nat.div_le_self ..) (Nat.le_trans (Nat.mul_le_mul (show j + 1 ≤ 4 by omega) hsh) (by decide))
    obtain ⟨A2, c2, N, g1, g2, g3, g4⟩ := appR hf K hO rfl (by rw [List.length_append, hll]; omega) (layI w h c j r i)
    refine w17_9 ⟨_, sc, _, rfl, fun _ => ⟨_, rfl, _, hA K, _, sc, _, rfl, Cn.eq (c33 hw.2) ⟨_, rfl, _, quo (show i ≤ 4 by omega) hsw hc, _, rfl, _, rfl, _, hB K, _, sr, _, rfl, Cn.eq (c33 hh.2) ⟨_, rfl, _, quo (show j ≤ 4 by omega) hsh hr, _, rfl,
      _, rfl, _, hA K, _, sc, _, rfl, _, rfl, _, hA K, Cn.eq (c33 hw.2) ⟨_, rfl, _, by rw [ei]; exact quo (show i + 1 ≤ 4 by omega) hsw hc, _, rfl, Cn.eq (c34 hw.2) ⟨_, rfl, _, rfl, _, hB K, _, sr, _, rfl, _, rfl, _, hB K,
      Cn.eq (c33 hh.2) ⟨_, rfl, _, by rw [ej]; exact quo (show j + 1 ≤ 4 by omega) hsh hr, _, rfl, Cn.eq (c34 hh.2) ⟨_, rfl, ?_⟩⟩⟩⟩⟩⟩⟩, fun h => by omega⟩
    have f1 : IntKind.i64.wrap (((i * sqN w / 2 ^ c : Nat) : Int) * 64) = ((edgeN w c i : Nat) : Int) := by
      rw [← m1]; rw [← m1] at b1
      generalize i * sqN w / 2 ^ c = d at b1 ⊢
      rw [i64w (by omega)]; omega
    have f2 : IntKind.i64.wrap (((j * sqN h / 2 ^ r : Nat) : Int) * 64) = ((edgeN h r j : Nat) : Int) := by
      rw [← m2]; rw [← m2] at b3
      generalize j * sqN h / 2 ^ r = d at b3 ⊢
      rw [i64w (by omega)]; omega
    have f3 : (if ((codN w : Nat) : Int) < IntKind.i64.wrap ((((i + 1) * sqN w / 2 ^ c : Nat) : Int) * 64) then ((codN w : Nat) : Int) else IntKind.i64.wrap ((((i + 1) * sqN w / 2 ^ c : Nat) : Int) * 64)) = ((edgeN w c (i + 1) : Nat) : Int) := by
      rw [k2]
      generalize (i + 1) * sqN w / 2 ^ c = d at d2 ⊢
      rw [i64w (by omega)]; split <;> omega
    have f4 : (if ((codN h : Nat) : Int) < IntKind.i64.wrap ((((j + 1) * sqN h / 2 ^ r : Nat) : Int) * 64) then ((codN h : Nat) : Int) else IntKind.i64.wrap ((((j + 1) * sqN h / 2 ^ r : Nat) : Int) * 64)) = ((edgeN h r (j + 1) : Nat) : Int) := by
      rw [k4]
      generalize (j + 1) * sqN h / 2 ^ r = d at d4 ⊢
      rw [i64w (by omega)]; split <;> omega
    rw [f1, f2, f3, f4, i64w (x := ((edgeN w c (i + 1) : Nat) : Int) - ((edgeN w c i : Nat) : Int)) (by omega), i64w (x := ((edgeN h r (j + 1) : Nat) : Int) - ((edgeN h r j : Nat) : Int)) (by omega)]
    refine ⟨_, g1, _, rfl, ?_⟩
    rw [ei]
    have es : layR w h c r (i + 1) j = layR w h c r i j ++ [layI w h c j r i] := range_map_succ _ _
    have := ih (i + 1) A2 c2 (M := N) (by omega) g2 (by rw [es, ← List.append_assoc]; exact g3)
    rw [es, ← List.append_assoc, List.length_append] at this
    exact this
theorem c17_out (hf : M0.floor ≤ M0.nb.size) {w h c r : Nat} (hw : 16 ≤ w ∧ w ≤ 256) (hh : 16 ≤ h ∧ h ≤ 256) (hc : c ≤ 2) (hr : r ≤ 2) (hcs : 2 ^ c ≤ sqN w) (hrs : 2 ^ r ≤ sqN h) {p : Addr} {Q : Value → Mem → Prop}
    (hA : ∀ {N}, Keep M0 N → N.intAt .i64 p.block p.off = some (w : Int)) (hB : ∀ {N}, Keep M0 N → N.intAt .i64 p.block (p.off + 1) = some (h : Int))
    (hQ : ∀ A' c' N, Keep M0 N → Own (fun j => M0.nb.size ≤ j) N 35 A' (c' * 4) (Rcs (layS w h c r (2 ^ r))) → Q (.tuple #[.slice A' (layS w h c r (2 ^ r)).length c', .int .i64 0]) N) :
    ∀ (k j : Nat) (A' : Option Addr) (c' : Nat) {M : Mem}, j + k = 2 ^ r → Keep M0 M → Own (fun j => M0.nb.size ≤ j) M 35 A' (c' * 4) (Rcs (layS w h c r j)) →
      A17_8 (c : Nat) (r : Nat) (some p) A' (layS w h c r j).length c' (j : Nat) M Q
  | 0, j, A', c', M, hj, K, hO => by
    obtain rfl : j = 2 ^ r := by omega
    have hq := pow2c hr
    have e3 : (1 : Int) * 2 ^ r = ((2 ^ r : Nat) : Int) := by simp
    exact w17_8 ⟨_, by rw [shl_i64 rfl (by rw [e3]; omega) (by omega), e3], _, rfl, fun h => by omega, fun _ => hQ _ _ _ K hO⟩
  | k + 1, j, A', c', M, hj, K, hO => by
    have hp := pow2c hc
    have hq := pow2c hr
    have e3 : (1 : Int) * 2 ^ r = ((2 ^ r : Nat) : Int) := by simp
    have hl : (layS w h c r j).length ≤ 16 := by
      rw [layS_len]; exact Nat.le_trans (Nat.mul_le_mul (show j ≤ 4 by omega) hp.2) (by decide)
    refine w17_8 ⟨_, by rw [shl_i64 rfl (by rw [e3]; omega) (by omega), e3], _, rfl, fun _ => ?_, fun h => by omega⟩
    have e0 : layS w h c r j ++ layR w h c r 0 j = layS w h c r j := by simp [layR]
    have es : layS w h c r (j + 1) = layS w h c r j ++ layR w h c r (2 ^ c) j := range_flat_succ _ _
    have := c17_in hf hw hh hc hr hcs hrs (p := p) (j := j) (by omega) hl hA hB (Q := Q) (fun A2 c2 N K2 O2 => by
      rw [← es] at O2 ⊢
      exact c17_out hf hw hh hc hr hcs hrs hA hB hQ k (j + 1) A2 c2 (by omega) K2 O2) (2 ^ c) 0 A' c' (M := M) (Nat.zero_add _) K (by rw [e0]; exact hO)
    rw [e0] at this
    exact this
theorem c17 (hf : M0.floor ≤ M0.nb.size) {w h c r : Int} : Cn Try.prog 17 #[.agg #[.int .i64 w, .int .i64 h], .int .i64 c, .int .i64 r] M0 (LyR M0 w h c r) := by
  have a0 := Mem.new_at M0 (.cells #[.int .i64 w, .int .i64 h] 32)
  have K0 : Keep M0 (M0.new (.cells #[.int .i64 w, .int .i64 h] 32)) := .new _ _
  generalize hM1 : M0.new (.cells #[.int .i64 w, .int .i64 h] 32) = M1 at a0 K0
  have rw0 : ∀ {N}, Keep M1 N → N.intAt .i64 (2 * M0.nb.size) 0 = some w := fun K => int_of (at_keep a0 K) rfl
  have rh0 : ∀ {N}, Keep M1 N → N.intAt .i64 (2 * M0.nb.size) (0 + 1) = some h := fun K => int_of (at_keep a0 K) rfl
  have t7 : (sideB w c && sideB h r) = false → A17_7 c r (some ⟨2 * M0.nb.size, 0, none⟩) true M1 (LyR M0 w h c r) := fun h => w17_7 ⟨fun _ => .inl ⟨h, rfl, K0⟩, fun h => (by cases h)⟩
  have t6 : (sideB w c && sideB h r) = false → A17_6 c r (some ⟨2 * M0.nb.size, 0, none⟩) true M1 (LyR M0 w h c r) := fun h => w17_6 ⟨fun _ => t7 h, fun h => (by cases h)⟩
  have t5 : (sideB w c && sideB h r) = false → A17_5 c r (some ⟨2 * M0.nb.size, 0, none⟩) true M1 (LyR M0 w h c r) := fun h => w17_5 ⟨fun _ => t6 h, fun h => (by cases h)⟩
  have t4 : (sideB w c && sideB h r) = false → A17_4 c r (some ⟨2 * M0.nb.size, 0, none⟩) true M1 (LyR M0 w h c r) := fun h => w17_4 ⟨fun _ => t5 h, fun h => (by cases h)⟩
  have t3 : (sideB w c && sideB h r) = false → A17_3 c r (some ⟨2 * M0.nb.size, 0, none⟩) true M1 (LyR M0 w h c r) := fun h => w17_3 ⟨fun _ => t4 h, fun h => (by cases h)⟩
  have t2 : (sideB w c && sideB h r) = false → A17_2 c r (some ⟨2 * M0.nb.size, 0, none⟩) true M1 (LyR M0 w h c r) := fun h => w17_2 ⟨fun _ => t3 h, fun h => (by cases h)⟩
  have t1 : (sideB w c && sideB h r) = false → A17_1 c r (some ⟨2 * M0.nb.size, 0, none⟩) true M1 (LyR M0 w h c r) := fun h => w17_1 ⟨fun _ => t2 h, fun h => (by cases h)⟩
  have nw : ∀ {p : Prop}, ¬ (16 ≤ w ∧ w ≤ 256 ∧ w % 2 = 0 ∧ 0 ≤ c ∧ c ≤ 2 ∧ 2 ^ c.toNat ≤ sqN w.toNat) → (sideB w c && sideB h r) = false := fun h => by
    rw [show sideB w c = false from decide_eq_false h]; rfl
  have nh : ∀ {p : Prop}, ¬ (16 ≤ h ∧ h ≤ 256 ∧ h % 2 = 0 ∧ 0 ≤ r ∧ r ≤ 2 ∧ 2 ^ r.toNat ≤ sqN h.toNat) → (sideB w c && sideB h r) = false := fun h' => by
    rw [show sideB h r = false from decide_eq_false h', Bool.and_false]
  refine w17_0 ?_
  rw [hM1]
  refine ⟨_, rw0 (.refl _), Cn.eq c32 ⟨_, rfl, fun h1 => t1 (nw (p := True) fun hh => of_decide_eq_false (nb h1) ⟨hh.1, hh.2.1, hh.2.2.1⟩), fun h1 => ⟨_, rh0 (.refl _), Cn.eq c32 ⟨_, rfl, w17_1 ⟨fun h2 => t2 (nh (p := True) fun hh => of_decide_eq_false (nb h2) ⟨hh.1, hh.2.1, hh.2.2.1⟩), fun h2 => ?_⟩⟩⟩⟩⟩
  have h1 := of_decide_eq_true (nb' h1)
  have h2 := of_decide_eq_true (nb' h2)
  refine w17_2 ⟨fun h3 => t3 (nw (p := True) fun hh => by have := of_decide_eq_true h3; omega), fun h3 => w17_3 ⟨fun h4 => t4 (nw (p := True) fun hh => by have := of_decide_eq_true h4; omega), fun h4 => w17_4 ⟨fun h5 => t5 (nh (p := True) fun hh => by have := of_decide_eq_true h5; omega), fun h5 => w17_5 ⟨fun h6 => t6 (nh (p := True) fun hh => by have := of_decide_eq_true h6; omega), fun h6 => ?_⟩⟩⟩⟩
  have h3 := of_decide_eq_false h3
  have h4 := of_decide_eq_false h4
  have h5 := of_decide_eq_false h5
  have h6 := of_decide_eq_false h6
  obtain ⟨w, rfl⟩ : ∃ n' : Nat, w = n' := ⟨w.toNat, by omega⟩
  obtain ⟨h, rfl⟩ : ∃ n' : Nat, h = n' := ⟨h.toNat, by omega⟩
  obtain ⟨c, rfl⟩ : ∃ n' : Nat, c = n' := ⟨c.toNat, by omega⟩
  obtain ⟨r, rfl⟩ : ∃ n' : Nat, r = n' := ⟨r.toNat, by omega⟩
  have hp := pow2c (c := c) (by omega)
  have hq := pow2c (c := r) (by omega)
  have e2 : (1 : Int) * 2 ^ c = ((2 ^ c : Nat) : Int) := by simp
  have e3 : (1 : Int) * 2 ^ r = ((2 ^ r : Nat) : Int) := by simp
  refine ⟨_, by rw [shl_i64 rfl (by rw [e2]; omega) (by omega), e2], _, rfl, _, rfl, _, rw0 (.refl _), Cn.eq (c33 (by omega)) ⟨_, rfl, w17_6 ⟨fun h7 => t7 (nw (p := True) fun hh => ?_), fun h7 => ⟨_, by rw [shl_i64 rfl (by rw [e3]; omega) (by omega), e3], _, rfl, _, rfl, _, rh0 (.refl _), Cn.eq (c33 (by omega)) ⟨_, rfl, w17_7 ⟨fun h8 => .inl ⟨nh (p := True) fun hh => ?_, rfl, K0⟩, fun h8 => ?_⟩⟩⟩⟩⟩⟩
  · have h7 := of_decide_eq_true h7
    have := hh.2.2.2.2.2
    simp only [Int.toNat_natCast] at this
    omega
  · have h8 := of_decide_eq_true h8
    have := hh.2.2.2.2.2
    simp only [Int.toNat_natCast] at this
    omega
  have h7 := of_decide_eq_false h7
  have h8 := of_decide_eq_false h8
  have hs1 : 2 ^ c ≤ sqN w := by omega
  have hs2 : 2 ^ r ≤ sqN h := by omega
  refine c17_out (M0 := M1) (p := ⟨2 * M0.nb.size, 0, none⟩) (by rw [K0.floor]; exact Nat.le_trans hf K0.size) (by omega) (by omega) (by omega) (by omega) hs1 hs2 rw0 rh0 (fun A' cap N K hO => .inr ⟨w, h, c, r, rfl, rfl, rfl, rfl, by omega, by omega, by omega, by omega, by omega, by omega, hs1, hs2, ?_, A', cap, rfl, K0.trans K, hO.mono fun i _ hi => Nat.le_trans K0.size hi, by
    have := hO.cap
    rw [Rcs_len] at this; omega⟩) (2 ^ r) 0 none 0 (M := M1) (Nat.zero_add _) (.refl _) Own.empty
  have f1 : sideB w c = true := decide_eq_true ⟨by omega, by omega, by omega, by omega, by omega, by simpa using hs1⟩
  have f2 : sideB h r = true := decide_eq_true ⟨by omega, by omega, by omega, by omega, by omega, by simpa using hs2⟩
  rw [f1, f2]; rfl
end
end Go.Zt
