/- Layer 20: reading a sequence header: c13 (and c12). -/
import Derived.Test.YtgepgbblmodagaaZkM
set_option linter.unusedSimpArgs false
set_option linter.unusedVariables false
namespace Go.Zt
open Go Go.Sim Go.Proofs Go.RowKit
def rdS (b : List Nat) : Nat × Nat × Nat :=
  if b.length < 2 then (0, 0, 3)
  else if 16 + 2 * ((b.getD 0 0 * 256 + b.getD 1 0) / 512) > 256 ∨ 16 + 2 * ((b.getD 0 0 * 256 + b.getD 1 0) / 4 % 128) > 256 then (0, 0, 5)
  else if (b.getD 0 0 * 256 + b.getD 1 0) % 4 ≠ 0 ∨ b.length > 2 then (0, 0, 4)
  else (16 + 2 * ((b.getD 0 0 * 256 + b.getD 1 0) / 512), 16 + 2 * ((b.getD 0 0 * 256 + b.getD 1 0) / 4 % 128), 0)
def RqR (M : Mem) (r : Nat × Nat × Nat) : Value → Mem → Prop := fun v N => v = .tuple #[.agg #[.int .i64 (r.1 : Nat), .int .i64 (r.2.1 : Nat)], .int .i64 (r.2.2 : Nat)] ∧ Keep M N
theorem fin2 {M0 M : Mem} {j : Nat} {a b : Value} {e : TypeId} (K : Keep M0 M) (h : M.nb[j]? = some (.cells #[a, b] e)) (hj : M0.nb.size ≤ j) (hf : M.floor ≤ j) (x y : Int) :
    ∃ M1, M.put (2 * j) 0 (.int .i64 x) = some M1 ∧ ∃ M2, M1.put (2 * j) 1 (.int .i64 y) = some M2 ∧ M2.intAt .i64 (2 * j) 0 = some x ∧ M2.intAt .i64 (2 * j) 1 = some y ∧ Keep M0 M2 := by
  obtain ⟨M1, p1, M2, p2, C, u⟩ := set2s h hf x y
  exact ⟨M1, p1, M2, p2, int_of (i := 0) u rfl, int_of (i := 1) u rfl, Keep.step K C fun i hi => by omega⟩
theorem e13_2 {M0 M : Mem} {j i : Nat} {W H : Nat} (K : Keep M0 M) (hj : M.nb[j]? = some (.cells #[.int .i64 0, .int .i64 0] 23)) (hi : M.nb[i]? = some (.cells #[.int .i64 (W : Int), .int .i64 (H : Int)] 23)) (h0 : M0.nb.size ≤ j) (hf : M.floor ≤ j) (b : Bool) :
    A13_2 (some ⟨2 * j, 0, none⟩) (some ⟨2 * i, 0, none⟩) b M (RqR M0 (if b then (0, 0, 4) else (W, H, 0))) := by
  refine w13_2 ⟨fun hb => ?_, fun hb => ?_⟩
  · obtain ⟨M1, p1, M2, p2, i1, i2, K2⟩ := fin2 K hj h0 hf 0 0
    subst hb
    exact ⟨_, rfl, M1, p1, M2, p2, _, rfl, 0, i1, 0, i2, rfl, K2⟩
  · obtain ⟨M1, p1, M2, p2, i1, i2, K2⟩ := fin2 K hj h0 hf (W : Int) (H : Int)
    subst hb
    exact ⟨_, rfl, _, int_of (i := 0) hi rfl, _, int_of (i := 0 + 1) hi rfl, _, rfl, M1, p1, M2, p2, _, rfl, _, i1, _, i2, rfl, K2⟩
theorem e13_1 {M0 M : Mem} {j i : Nat} {W H : Nat} {A : Option Addr} {l c n : Nat} (K : Keep M0 M) (hj : M.nb[j]? = some (.cells #[.int .i64 0, .int .i64 0] 23)) (hi : M.nb[i]? = some (.cells #[.int .i64 (W : Int), .int .i64 (H : Int)] 23)) (h0 : M0.nb.size ≤ j) (hf : M.floor ≤ j) {x : Int} (hx : x = (n : Int)) (b : Bool) :
    A13_1 A l c (some ⟨2 * j, 0, none⟩) x (some ⟨2 * i, 0, none⟩) b M (RqR M0 (if b then (0, 0, 5) else if n % 4 ≠ 0 ∨ l > 2 then (0, 0, 4) else (W, H, 0))) := by
  subst hx
  have tm : ((n : Nat) : Int).tmod 4 = ((n % 4 : Nat) : Int) := by rw [Int.tmod_eq_emod_of_nonneg (by omega)]; omega
  refine w13_1 ⟨fun hb => ?_, fun hb => ⟨fun h4 => ?_, fun h4 => ?_⟩⟩
  · obtain ⟨M1, p1, M2, p2, i1, i2, K2⟩ := fin2 K hj h0 hf 0 0
    subst hb
    exact ⟨_, rfl, M1, p1, M2, p2, _, rfl, 0, i1, 0, i2, rfl, K2⟩
  · subst hb
    rw [tm] at h4
    have e : (if false = true then ((0, 0, 5) : Nat × Nat × Nat) else if n % 4 ≠ 0 ∨ l > 2 then (0, 0, 4) else (W, H, 0)) = (0, 0, 4) := by rw [if_neg (by decide), if_pos (.inl (by omega))]
    rw [e]; exact e13_2 K hj hi h0 hf true
  · subst hb
    rw [tm] at h4
    have e : (if false = true then ((0, 0, 5) : Nat × Nat × Nat) else if n % 4 ≠ 0 ∨ l > 2 then (0, 0, 4) else (W, H, 0)) = (if decide ((l : Int) > 2) = true then (0, 0, 4) else (W, H, 0)) := by
      rw [if_neg (by decide)]
      by_cases hl : l > 2
      · rw [if_pos (.inr hl), if_pos (by rw [decide_eq_true_eq]; omega)]
      · rw [if_neg (by omega), if_neg (by rw [decide_eq_true_eq]; omega)]
    rw [e]; exact e13_2 K hj hi h0 hf _
theorem put1 {M : Mem} {j : Nat} {cs : Array Value} {e : TypeId} (i : Nat) (v : Value) (h : M.nb[j]? = some (.cells cs e)) (hf : M.floor ≤ j) (hi : i < cs.size) (hv : oneCell v = true) :
    ∃ M1, M.put (2 * j) i v = some M1 ∧ Chg (· = j) M M1 ∧ M1.nb.size = M.nb.size ∧ M1.nb[j]? = some (.cells (cs.setIfInBounds i v) e) :=
  ⟨_, put_of h hf hi hv, upd_chg rfl, upd_size _, upd_at (lt_of_at h)⟩
def seqW (b : List Nat) : Nat := b.getD 0 0 * 256 + b.getD 1 0
theorem seqb {b : List Nat} (hB : Byt b) (i : Nat) : b.getD i 0 < 256 := by
  by_cases h : i < b.length
  · have := hB b[i] (List.getElem_mem _); simpa [List.getD_eq_getElem?_getD, h] using this
  · simp [List.getD_eq_getElem?_getD, h]
theorem c13 {M : Mem} {A : Option Addr} {l c : Nat} {b : List Nat} (hf : M.floor ≤ M.nb.size) (hR : Row M A (U8 b)) (hl : l = b.length) (hB : Byt b) : Cn Try.prog 13 #[.slice A l c] M (RqR M (rdS b)) := by
  have a := Mem.new_at M (.cells #[.int .i64 0, .int .i64 0] 23)
  have K : Keep M (M.new (.cells #[.int .i64 0, .int .i64 0] 23)) := .new _ _
  have sz := Mem.new_size M (.cells #[.int .i64 0, .int .i64 0] 23)
  refine w13_0 ?_
  generalize M.new (.cells #[.int .i64 0, .int .i64 0] 23) = N at a K sz ⊢
  have fN : N.floor ≤ M.nb.size := by rw [K.floor]; exact hf
  refine ⟨fun h => ?_, fun h => ?_⟩
  · obtain ⟨M1, p1, M2, p2, i1, i2, K2⟩ := fin2 K a (Nat.le_refl _) fN 0 0
    have e : rdS b = (0, 0, 3) := by unfold rdS; rw [if_pos (by omega)]
    rw [e]
    exact ⟨M1, p1, M2, p2, 0, i1, 0, i2, rfl, K2⟩
  · have l2 : ¬ b.length < 2 := by omega
    have R := hR.keep K
    have b0 := seqb hB 0
    have b1 := seqb hB 1
    obtain ⟨a0, e0, r0⟩ := R.int1 (n := l) (i := 0) (z := 0) (k := .u8) (x := (b.getD 0 0 : Nat)) rfl (by omega) (by simp [U8, List.getD_eq_getElem?_getD, show 0 < b.length by omega])
    obtain ⟨a1, e1, r1⟩ := R.int1 (n := l) (i := 1) (z := 1) (k := .u8) (x := (b.getD 1 0 : Nat)) rfl (by omega) (by simp [U8, List.getD_eq_getElem?_getD, show 1 < b.length by omega])
    refine ⟨_, e0, _, r0, _, e1, _, r1, ?_⟩
    have e : rdS b = if decide (16 + 2 * (seqW b / 512) > 256 ∨ 16 + 2 * (seqW b / 4 % 128) > 256) = true then (0, 0, 5) else if seqW b % 4 ≠ 0 ∨ l > 2 then (0, 0, 4) else (16 + 2 * (seqW b / 512), 16 + 2 * (seqW b / 4 % 128), 0) := by
      unfold rdS; rw [if_neg l2, hl]; simp only [decide_eq_true_eq]; rfl
    rw [e]
    have hn : seqW b = b.getD 0 0 * 256 + b.getD 1 0 := rfl
    have nb : seqW b < 65536 := by rw [hn]; omega
    have g0 : IntKind.i64.wrap ((IntKind.i64.wrap ((IntKind.i64.wrap ((b.getD 0 0 : Nat) : Int)) * 256)) + (IntKind.i64.wrap ((b.getD 1 0 : Nat) : Int))) = ((seqW b : Nat) : Int) := by
      rw [i64w (x := ((b.getD 0 0 : Nat) : Int)) (by omega), i64w (x := ((b.getD 1 0 : Nat) : Int)) (by omega), i64w (x := ((b.getD 0 0 : Nat) : Int) * 256) (by omega), i64w (by omega), hn]; omega
    rw [g0]
    generalize seqW b = n at *
    have t1 : ((n : Nat) : Int).tdiv 512 = ((n / 512 : Nat) : Int) := tdivN n 512
    have t2 : ((n : Nat) : Int).tdiv 4 = ((n / 4 : Nat) : Int) := tdivN n 4
    have t3 : ((n / 4 : Nat) : Int).tmod 128 = ((n / 4 % 128 : Nat) : Int) := tmodN (n / 4) 128
    have g1 : IntKind.i64.wrap (16 + (IntKind.i64.wrap (2 * (IntKind.i64.wrap (((n : Nat) : Int).tdiv 512))))) = ((16 + 2 * (n / 512) : Nat) : Int) := by
      rw [t1, i64w (x := ((n / 512 : Nat) : Int)) (by omega), i64w (x := 2 * ((n / 512 : Nat) : Int)) (by omega), i64w (by omega)]; omega
    have g2 : IntKind.i64.wrap (16 + (IntKind.i64.wrap (2 * ((IntKind.i64.wrap (((n : Nat) : Int).tdiv 4)).tmod 128)))) = ((16 + 2 * (n / 4 % 128) : Nat) : Int) := by
      rw [t2, i64w (x := ((n / 4 : Nat) : Int)) (by omega), t3, i64w (x := 2 * ((n / 4 % 128 : Nat) : Int)) (by omega), i64w (by omega)]; omega
    rw [g1, g2]
    have a2 := Mem.new_at N (.cells #[.int .i64 0, .int .i64 0] 23)
    have K2 : Keep N (N.new (.cells #[.int .i64 0, .int .i64 0] 23)) := .new _ _
    generalize N.new (.cells #[.int .i64 0, .int .i64 0] 23) = N2 at a2 K2 ⊢
    obtain ⟨M1, p1, M2, p2, C, u⟩ := set2s a2 (by rw [K2.floor]; omega) ((16 + 2 * (n / 512) : Nat) : Int) ((16 + 2 * (n / 4 % 128) : Nat) : Int)
    have KK : Keep M M2 := Keep.step (K.trans K2) C fun i hi => by omega
    have aj := at_chg (at_keep a K2) C (by omega)
    have fj : M2.floor ≤ M.nb.size := by rw [KK.floor]; exact hf
    refine ⟨M1, p1, M2, p2, _, int_of (i := 0) u rfl, fun h5 => ?_, fun h5 => ⟨_, int_of (i := 0 + 1) u rfl, ?_⟩⟩
    · have := e13_1 (A := A) (l := l) (c := c) (n := n) KK aj u (Nat.le_refl _) fj rfl true
      rw [decide_eq_true (by omega)]; exact this
    · have := e13_1 (A := A) (l := l) (c := c) (n := n) KK aj u (Nat.le_refl _) fj rfl (decide (((16 + 2 * (n / 4 % 128) : Nat) : Int) > 256))
      have ed : decide (16 + 2 * (n / 512) > 256 ∨ 16 + 2 * (n / 4 % 128) > 256) = decide (((16 + 2 * (n / 4 % 128) : Nat) : Int) > 256) := by rw [decide_eq_decide]; omega
      rw [ed]; exact this
theorem bits7 {b : List Nat} (hB : Byt b) : numb (bitOf b) 0 7 = seqW b / 512 ∧ numb (bitOf b) 7 7 = seqW b / 4 % 128 ∧ numb (bitOf b) 14 2 = seqW b % 4 := by
  have b0 := seqb hB 0
  have b1 := seqb hB 1
  unfold seqW
  simp only [numb, bitOf, Nat.reduceAdd, Nat.reduceDiv, Nat.reduceMod, Nat.reduceSub, Nat.reducePow]
  refine ⟨?_, ?_, ?_⟩ <;> omega
theorem e12_3 {M0 M : Mem} {j i : Nat} {W H : Nat} (K : Keep M0 M) (hj : M.nb[j]? = some (.cells #[.int .i64 0, .int .i64 0] 23)) (hi : M.nb[i]? = some (.cells #[.int .i64 (W : Int), .int .i64 (H : Int)] 23)) (h0 : M0.nb.size ≤ j) (hf : M.floor ≤ j) (b : Bool) :
    A12_3 (some ⟨2 * j, 0, none⟩) (some ⟨2 * i, 0, none⟩) b M (RqR M0 (if b then (0, 0, 4) else (W, H, 0))) := by
  refine w12_3 ⟨fun hb => ?_, fun hb => ?_⟩
  · obtain ⟨M1, p1, M2, p2, i1, i2, K2⟩ := fin2 K hj h0 hf 0 0
    subst hb
    exact ⟨_, rfl, M1, p1, M2, p2, _, rfl, 0, i1, 0, i2, rfl, K2⟩
  · obtain ⟨M1, p1, M2, p2, i1, i2, K2⟩ := fin2 K hj h0 hf (W : Int) (H : Int)
    subst hb
    exact ⟨_, rfl, _, int_of (i := 0) hi rfl, _, int_of (i := 0 + 1) hi rfl, _, rfl, M1, p1, M2, p2, _, rfl, _, i1, _, i2, rfl, K2⟩
theorem e12_2 {S : Nat → Prop} {M0 M : Mem} {j i r : Nat} {W H : Nat} {b : List Nat} (K : Keep M0 M) (hj : M.nb[j]? = some (.cells #[.int .i64 0, .int .i64 0] 23)) (hi : M.nb[i]? = some (.cells #[.int .i64 (W : Int), .int .i64 (H : Int)] 23)) (h0 : M0.nb.size ≤ j) (hf : M.floor ≤ j)
    (hr : Rdr S M r b 14) (hr0 : M0.nb.size ≤ r) (hrf : M.floor ≤ r) (hjr : j ≠ r) (hir : i ≠ r) (hB : Byt b) (h2 : 2 ≤ b.length) (g : Bool) :
    A12_2 (some ⟨2 * j, 0, none⟩) (some ⟨2 * r, 0, none⟩) (some ⟨2 * i, 0, none⟩) g M (RqR M0 (if g then (0, 0, 5) else if seqW b % 4 ≠ 0 ∨ b.length > 2 then (0, 0, 4) else (W, H, 0))) := by
  refine w12_2 ⟨fun hb => ?_, fun hb => ?_⟩
  · obtain ⟨M1, p1, M2, p2, i1, i2, K2⟩ := fin2 K hj h0 hf 0 0
    subst hb
    exact ⟨_, rfl, M1, p1, M2, p2, _, rfl, 0, i1, 0, i2, rfl, K2⟩
  · subst hb
    rw [if_neg (by decide)]
    have hl := hr.len
    refine Cn.mono (c40 hr hrf) ?_
    rintro _ N ⟨rfl, C, sz, hr2⟩
    have e : rAlign b 14 = if seqW b % 4 ≠ 0 then (4, 14) else (0, 16) := by
      unfold rAlign
      simp only [Nat.reduceMod, Nat.reduceSub, (bits7 hB).2.2, Nat.reduceAdd]
    rw [e] at hr2 ⊢
    have KK := Keep.step K C fun i hi => by omega
    have hj2 := at_chg hj C hjr
    have hi2 := at_chg hi C hir
    have f2 : N.floor ≤ j := by rw [C.floor]; exact hf
    refine ⟨_, rfl, fun h => ?_, fun h => ?_⟩
    · by_cases h4 : seqW b % 4 ≠ 0
      · rw [if_pos (.inl h4)]; exact e12_3 KK hj2 hi2 h0 f2 true
      · rw [if_neg h4] at h; exact absurd rfl h
    · by_cases h4 : seqW b % 4 ≠ 0
      · rw [if_pos h4] at h; cases h
      · rw [if_neg h4] at hr2
        refine Cn.eq (c37 hr2) ⟨_, rfl, ?_⟩
        have e2 : (if seqW b % 4 ≠ 0 ∨ b.length > 2 then ((0, 0, 4) : Nat × Nat × Nat) else (W, H, 0)) = if decide (((8 * b.length - 16 : Nat) : Int) > 0) = true then (0, 0, 4) else (W, H, 0) := by
          by_cases hl2 : b.length > 2
          · rw [if_pos (.inr hl2), if_pos (by rw [decide_eq_true_eq]; omega)]
          · rw [if_neg (by omega), if_neg (by rw [decide_eq_true_eq]; omega)]
        rw [e2]
        exact e12_3 KK hj2 hi2 h0 f2 _
theorem c12 {M : Mem} {A : Option Addr} {l c : Nat} {b : List Nat} (hf : M.floor ≤ M.nb.size) (hR : Row M A (U8 b)) (hl : l = b.length) (hB : Byt b) (hb : b.length ≤ 4294967296) : Cn Try.prog 12 #[.slice A l c] M (RqR M (rdS b)) := by
  have a := Mem.new_at M (.cells #[.int .i64 0, .int .i64 0] 23)
  have K : Keep M (M.new (.cells #[.int .i64 0, .int .i64 0] 23)) := .new _ _
  have sz := Mem.new_size M (.cells #[.int .i64 0, .int .i64 0] 23)
  refine w12_0 ?_
  generalize M.new (.cells #[.int .i64 0, .int .i64 0] 23) = N at a K sz ⊢
  have fN : N.floor ≤ M.nb.size := by rw [K.floor]; exact hf
  refine Cn.mono (c31 (by omega) (hR.keep K) hl.symm (by omega) hB) ?_
  rintro _ N1 ⟨r, rfl, K1, hr0, hr1, hr⟩
  have a1 := at_keep a K1
  have ns := Mem.new_at N1 (.cells #[.int .i64 0, .int .i64 0] 78)
  have K2 : Keep N1 (N1.new (.cells #[.int .i64 0, .int .i64 0] 78)) := .new _ _
  have sz1 := K1.size
  refine ⟨_, rfl, ?_⟩
  generalize N1.new (.cells #[.int .i64 0, .int .i64 0] 78) = N2 at ns K2 ⊢
  have a2 := at_keep a1 K2
  have hr2 := hr.keep K2
  have KK := (K.trans K1).trans K2
  have f2 : N2.floor ≤ M.nb.size := by rw [KK.floor]; exact hf
  refine Cn.eq (c37 hr2) ⟨_, rfl, fun h => ?_, fun h => ?_⟩
  · obtain ⟨M1, p1, M2, p2, i1, i2, K2⟩ := fin2 KK a2 (Nat.le_refl _) f2 0 0
    have e : rdS b = (0, 0, 3) := by unfold rdS; rw [if_pos (by omega)]
    rw [e]
    exact ⟨M1, p1, M2, p2, 0, i1, 0, i2, rfl, K2⟩
  · have l2 : 2 ≤ b.length := by omega
    obtain ⟨q1, q2, q3⟩ := bits7 hB
    have b0 := seqb hB 0
    have b1 := seqb hB 1
    have nW : seqW b < 65536 := by unfold seqW; omega
    have f1 : rFixed b 0 7 = (seqW b / 512, 0, 7) := by
      unfold rFixed; rw [if_neg (by omega), if_neg (by omega), ← q1]; rfl
    have f7 : rFixed b 7 7 = (seqW b / 4 % 128, 0, 14) := by
      unfold rFixed; rw [if_neg (by omega), if_neg (by omega), ← q2]; rfl
    have wr : ∀ x : Nat, x < 128 → IntKind.i64.wrap (16 + (IntKind.i64.wrap (2 * (IntKind.i64.wrap ((x : Nat) : Int))))) = ((16 + 2 * x : Nat) : Int) := fun x hx => by
      rw [i64w (x := ((x : Nat) : Int)) (by omega), i64w (x := 2 * ((x : Nat) : Int)) (by omega), i64w (by omega)]; omega
    refine w12_1 ⟨fun _ => Cn.mono (c33 hr2 (by omega) 7) ?_, fun h => absurd (by decide) h⟩
    rw [f1]
    rintro _ N3 ⟨rfl, C3, s3, hr3⟩
    have ns3 := at_chg ns C3 (by omega)
    have a3 := at_chg a2 C3 (by omega)
    have K3 := Keep.step KK C3 fun i hi => by omega
    obtain ⟨N4, p4, C4, s4, ns4⟩ := put1 0 (.int .i64 ((16 + 2 * (seqW b / 512) : Nat) : Int)) ns3 (by rw [K3.floor]; omega) (by decide) rfl
    have a4 := at_chg a3 C4 (by omega)
    have K4 := Keep.step K3 C4 fun i hi => by omega
    have hr4 := hr3.chg C4 (by omega) fun i hi => by omega
    refine ⟨_, rfl, _, rfl, _, rfl, fun h => absurd rfl h, fun _ => ⟨⟨2 * N1.nb.size, 0, none⟩, by kernel_rfl, N4, by rw [wr _ (by omega)]; exact p4, ?_⟩⟩
    refine w12_1 ⟨fun _ => Cn.mono (c33 hr4 (by rw [K4.floor]; omega) 7) ?_, fun h => absurd (by decide) h⟩
    rw [f7]
    rintro _ N5 ⟨rfl, C5, s5, hr5⟩
    have ns5 := at_chg ns4 C5 (by omega)
    have a5 := at_chg a4 C5 (by omega)
    have K5 := Keep.step K4 C5 fun i hi => by omega
    obtain ⟨N6, p6, C6, s6, ns6⟩ := put1 1 (.int .i64 ((16 + 2 * (seqW b / 4 % 128) : Nat) : Int)) ns5 (by rw [K5.floor]; omega) (by simp) rfl
    have a6 := at_chg a5 C6 (by omega)
    have K6 := Keep.step K5 C6 fun i hi => by omega
    have hr6 := hr5.chg C6 (by omega) fun i hi => by omega
    refine ⟨_, rfl, _, rfl, _, rfl, fun h => absurd rfl h, fun _ => ⟨⟨2 * N1.nb.size, 1, none⟩, by kernel_rfl, N6, by rw [wr _ (by omega)]; exact p6, ?_⟩⟩
    refine w12_1 ⟨fun h => absurd h (by decide), fun _ => ⟨⟨2 * N1.nb.size, 0, none⟩, by kernel_rfl, _, int_of (i := 0) ns6 rfl, ⟨2 * N1.nb.size, 1, none⟩, by kernel_rfl, _, int_of (i := 1) ns6 rfl, ?_⟩⟩
    have a7 := Mem.new_at N6 (.cells #[.int .i64 0, .int .i64 0] 23)
    have K7 : Keep N6 (N6.new (.cells #[.int .i64 0, .int .i64 0] 23)) := .new _ _
    generalize N6.new (.cells #[.int .i64 0, .int .i64 0] 23) = N7 at a7 K7 ⊢
    have s26 := K2.size
    have s45 := C4.size
    have s67 := C6.size
    have s35 := C3.size
    have s55 := C5.size
    have fl : N7.floor ≤ M.nb.size := by rw [K7.floor, K6.floor]; exact hf
    obtain ⟨M1, p1, M2, p2, C, u⟩ := set2s a7 (by omega) ((16 + 2 * (seqW b / 512) : Nat) : Int) ((16 + 2 * (seqW b / 4 % 128) : Nat) : Int)
    have KK7 : Keep M M2 := Keep.step (K6.trans K7) C fun i hi => by omega
    have aj := at_chg (at_keep a6 K7) C (by omega)
    have hr7 := (hr6.keep K7).chg C (by omega) fun i hi => by omega
    have fj : M2.floor ≤ M.nb.size := by rw [KK7.floor]; exact hf
    have e : rdS b = if decide (16 + 2 * (seqW b / 512) > 256 ∨ 16 + 2 * (seqW b / 4 % 128) > 256) = true then (0, 0, 5) else if seqW b % 4 ≠ 0 ∨ b.length > 2 then (0, 0, 4) else (16 + 2 * (seqW b / 512), 16 + 2 * (seqW b / 4 % 128), 0) := by
      unfold rdS; rw [if_neg (by omega)]; simp only [decide_eq_true_eq]; rfl
    rw [e]
    refine ⟨M1, p1, M2, p2, _, int_of (i := 0) u rfl, fun h5 => ?_, fun h5 => ⟨_, int_of (i := 0 + 1) u rfl, ?_⟩⟩
    · have := e12_2 KK7 aj u (Nat.le_refl _) fj hr7 (by omega) (by omega) (by omega) (by omega) hB l2 true
      rw [decide_eq_true (by omega)]; exact this
    · have := e12_2 KK7 aj u (Nat.le_refl _) fj hr7 (by omega) (by omega) (by omega) (by omega) hB l2 (decide (((16 + 2 * (seqW b / 4 % 128) : Nat) : Int) > 256))
      have ed : decide (16 + 2 * (seqW b / 512) > 256 ∨ 16 + 2 * (seqW b / 4 % 128) > 256) = decide (((16 + 2 * (seqW b / 4 % 128) : Nat) : Int) > 256) := by rw [decide_eq_decide]; omega
      rw [ed]; exact this
end Go.Zt
