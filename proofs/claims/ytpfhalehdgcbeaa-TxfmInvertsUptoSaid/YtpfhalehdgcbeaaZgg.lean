/- Layer 8: Inverse of the document, walked. -/
import Derived.Test.YtpfhalehdgcbeaaZge
import Derived.Test.YtpfhalehdgcbeaaZgDe
set_option linter.unusedSimpArgs false
set_option linter.unusedVariables false
namespace Go.Zt
open Go Go.Sim Go.Proofs Go.RowKit

theorem ixw {n r c : Nat} (hr : r < n) (hc : c < n) (hn : n ≤ 64) : IntKind.i64.wrap (IntKind.i64.wrap ((r : Int) * (n : Nat)) + (c : Nat)) = ((r * n + c : Nat) : Int) := by
  have h1 : r * n ≤ 64 * 64 := Nat.mul_le_mul (by omega) hn
  rw [← Int.natCast_mul, i64w (x := ((r * n : Nat) : Int)) (by omega), i64w (by omega)]
  omega
theorem setG_set {G : Nat → Nat → Int} {r c : Nat} {v w : Int} : setG (setG G r c v) r c w = setG G r c w := by
  funext a b; unfold setG; split <;> rfl
theorem asks_side {n typ : Int} {x : List Int} {b : Int} : askS n typ x (sideS n).1 b = askS n typ x (min32 n) b := by
  unfold askS sideS
  by_cases h : (typesS n).length = 0
  · rw [if_pos h, if_pos h]
  · rw [if_neg h, if_neg h, if_neg h]
theorem c43 {M0 : Mem} (hf : M0.floor ≤ M0.nb.size) {A : Option Addr} {n k l c : Nat} {G : Nat → Nat → Int} (hA : Row M0 A (Ints (gridL n G))) (hl : l = n * n) (hk : k < n) (hn : n ≤ 64) :
    Cn Try.prog 43 #[.slice A l c, .int .i64 (n : Nat), .int .i64 (k : Nat)] M0 (Told M0 (lineL false n G k)) := by
  subst hl
  have loop : ∀ (m i : Nat) (B : Option Addr) (d : Nat) {M : Mem}, i + m = n → Keep M0 M → Own (fun j => M0.nb.size ≤ j) M 3 B d (Ints ((List.range i).map (lnG false G k))) → A43_1 A (n * n) c (n : Nat) (k : Nat) B i d (i : Nat) M (Told M0 (lineL false n G k)) := by
    intro m
    induction m with
    | zero =>
      intro i B d M hi K hO
      obtain rfl : n = i := by omega
      exact w43_1 ⟨fun h => by omega, fun _ => ⟨B, d, by rw [lineL_len], K, hO⟩⟩
    | succ m ih =>
      intro i B d M hi K hO
      obtain ⟨a, i1, i2⟩ := (hA.keep K).int1 (n := n * n) (i := i * n + k) (z := ((i * n + k : Nat) : Int)) (k := .i64) (x := G i k) rfl (ix_lt (by omega) hk) (by rw [List.getElem?_map, gridL_at (by omega) hk]; rfl)
      obtain ⟨B', d', N, g1, g2, g3, g4⟩ := app1 el22 hf K hO (n := i) (by simp) (v := .int .i64 (G i k)) rfl (by omega)
      refine w43_1 ⟨fun _ => ?_, fun h => by omega⟩
      rw [ixw (by omega) hk hn]
      refine ⟨_, i1, _, i2, _, g1, _, rfl, ?_⟩
      rw [i64w (by omega), show ((i : Int) + 1) = ((i + 1 : Nat) : Int) by omega]
      refine ih (i + 1) B' d' (by omega) g2 ?_
      rw [List.range_succ, List.map_append]
      rw [Ints, List.map_append]; exact g3
  exact w43_0 (loop n 0 none 0 (Nat.zero_add _) (.refl _) Own.empty)
/-- The state of a block that is being made: its grid. -/
structure Og8 (M0 : Mem) (jo : Nat) (O : Option Addr) (n : Nat) (M : Mem) (G : Nat → Nat → Int) : Prop where
  keep : Keep M0 M
  own : Own (· = jo) M 3 O (n * n) (Ints (gridL n G))
  lt : jo < M.nb.size
theorem Og8.next {M0 : Mem} {jo : Nat} {O : Option Addr} {n : Nat} {M N : Mem} {G : Nat → Nat → Int} (h : Og8 M0 jo O n M G) (K : Keep M N) : Og8 M0 jo O n N G :=
  ⟨h.keep.trans K, h.own.chg K fun _ _ _ h => h, Nat.lt_of_lt_of_le h.lt K.size⟩
theorem Og8.put {M0 : Mem} {jo : Nat} {O : Option Addr} {n : Nat} {M : Mem} {G : Nat → Nat → Int} (hf : M0.floor ≤ M0.nb.size) (hj : M0.nb.size ≤ jo) (h : Og8 M0 jo O n M G) {r c : Nat} (hr : r < n) (hc : c < n) (v : Int) :
    ∃ a, idxA O (n * n) 1 ((r * n + c : Nat) : Int) = some a ∧ ∃ M', M.put a.block a.off (.int .i64 v) = some M' ∧ Chg (· = jo) M M' ∧ Og8 M0 jo O n M' (setG G r c v) := by
  obtain ⟨q, p1, M', p2, p3, p4, p5⟩ := h.own.put1 (fun j hj' => by rw [h.keep.floor, hj']; exact Nat.le_trans hf hj) (n := n * n) (i := r * n + c) (z := ((r * n + c : Nat) : Int)) (v := .int .i64 v) rfl (ix_lt hr hc) (by rw [List.length_map, gridL_len]; exact ix_lt hr hc) rfl
  refine ⟨q, p1, M', p2, p3, Keep.step h.keep p3 fun j hj' => by rw [hj']; exact hj, ?_, by rw [p4]; exact h.lt⟩
  rw [Ints, ← gridL_set hr hc, List.map_set]; exact p5
section
variable {M0 : Mem} {X O A1 A2 : Option Addr} {lx cx l1 c1 l2 c2 n s jo k1 k2 : Nat} {typ : Int} {x : List Int} {Q : Value → Mem → Prop}
abbrev fI1 (n s : Nat) (typ : Int) (x : List Int) : Nat → Nat → Int := fun k i => fI n typ (gx (invY1 n s typ x k) i)
abbrev fI2 (n s : Nat) (typ : Int) (x : List Int) : Nat → Nat → Int := fun k i => rdS 4 typ (gx (invY2 n s typ x k) i)
/-- A column is turned and rounded. -/
theorem c13_6 (hf : M0.floor ≤ M0.nb.size) (hj : M0.nb.size ≤ jo) (hn : n ≤ 64) {k : Nat} (hk : k < n) {Y : List Int} (hy : Y.length = n) (hfar : ∀ v ∈ Y, Far v) (hY : Y = invY2 n s typ x k) {B : Option Addr} {d : Nat} {G : Nat → Nat → Int} {b0 : Nat} (hb0 : jo < b0)
    (hE : ∀ M, Og8 M0 jo O n M (updG false (fI2 n s typ x) (k + 1) 0 G) → A13_4 (n : Nat) typ A2 l2 c2 O (n * n) (n * n) ((k + 1 : Nat) : Int) M Q) :
    ∀ (m i : Nat) {M : Mem}, i + m = n → Og8 M0 jo O n M (updG false (fI2 n s typ x) k i G) → Own (fun j => b0 ≤ j) M 3 B d (Ints Y) → A13_6 (n : Nat) typ A2 l2 c2 O (n * n) (n * n) (k : Nat) B n d (i : Nat) M Q := by
  intro m
  induction m with
  | zero =>
    intro i M hi h hB
    obtain rfl : n = i := by omega
    refine w13_6 ⟨fun h => by omega, fun _ => ?_⟩
    rw [i64w (by omega), show ((k : Int) + 1) = ((k + 1 : Nat) : Int) by omega]
    exact hE M ⟨h.keep, by rw [← updG_next]; exact h.own, h.lt⟩
  | succ m ih =>
    intro i M hi h hB
    have hi' : i < n := by omega
    obtain ⟨a, i1, i2⟩ := hB.row.int1 (n := n) (i := i) (z := i) (k := .i64) (x := gx Y i) rfl hi' (gx_at (by omega))
    have fv : Far (gx Y i) := gx_of (P := Far) hfar (by unfold Far; omega) i
    obtain ⟨q, p1, M', p2, p3, h'⟩ := h.put hf hj hi' hk (gx Y i)
    have hB' : Own (fun j => b0 ≤ j) M' 3 B d (Ints Y) := hB.chg p3 fun j _ h1 h2 => by omega
    have wr : IntKind.i64.wrap (IntKind.i64.wrap ((i : Int) * (n : Nat)) + (k : Nat)) = ((i * n + k : Nat) : Int) := ixw hi' hk hn
    have fin : ∀ {N : Mem} {v : Int}, v = fI2 n s typ x k i → Own (fun j => b0 ≤ j) N 3 B d (Ints Y) → Og8 M0 jo O n N (setG (updG false (fI2 n s typ x) k i G) i k v) → A13_8 (n : Nat) typ A2 l2 c2 O (n * n) (n * n) (k : Nat) B n d (i : Nat) N Q := by
      intro N v hv hB hN
      subst hv
      refine w13_8 ?_
      rw [i64w (by omega), show ((i : Int) + 1) = ((i + 1 : Nat) : Int) by omega]
      refine ih (i + 1) (by omega) ?_ hB
      rw [← updG_set]; exact hN
    refine w13_6 ⟨fun _ => ?_, fun h => by omega⟩
    rw [wr]
    refine ⟨_, i1, _, i2, _, p1, M', p2, fun ht => ?_, fun ht => ?_⟩
    · obtain ⟨a', i3, i4⟩ := hB'.row.int1 (n := n) (i := i) (z := i) (k := .i64) (x := gx Y i) rfl hi' (gx_at (by omega))
      refine ⟨_, i3, _, i4, Cn.eq (c42 (b := 4) (by decide) fv) ⟨_, rfl, ?_⟩⟩
      obtain ⟨q2, p6, M2, p7, p8, h2⟩ := h'.put hf hj hi' hk (roundS 4 (gx Y i))
      refine ⟨_, p6, M2, p7, fin (v := roundS 4 (gx Y i)) ?_ (hB'.chg p8 fun j _ h1 h2 => by omega) ?_⟩
      · show _ = rdS 4 typ _; unfold rdS; rw [if_neg ht, hY]
      · rw [setG_set] at h2; exact h2
    · refine fin (v := gx Y i) ?_ hB' h'
      show _ = rdS 4 typ _; unfold rdS; rw [if_pos ht, hY]
theorem c13_4 (hf : M0.floor ≤ M0.nb.size) (hj : M0.nb.size ≤ jo) (hz : Szt n typ) (hk2 : (kindsS typ).2 = (k2 : Nat)) (hW : WtR M0 k2 n A2 l2)
    (hQ : ∀ M, Og8 M0 jo O n M (invH2 n s typ x) → Q (.tuple #[.slice O (n * n) (n * n), .int .i64 0]) M) :
    ∀ (m k : Nat) {M : Mem}, k + m = n → Og8 M0 jo O n M (updG false (fI2 n s typ x) k 0 (invH1 n s typ x)) → A13_4 (n : Nat) typ A2 l2 c2 O (n * n) (n * n) (k : Nat) M Q := by
  have hn : n ≤ 64 := by have := hz.sz; omega
  intro m
  induction m with
  | zero =>
    intro k M hk h
    obtain rfl : n = k := by omega
    exact w13_4 ⟨fun h => by omega, fun _ => hQ M h⟩
  | succ m ih =>
    intro k M hk h
    have hk' : k < n := by omega
    refine w13_4 ⟨fun _ => Cn.mono (c43 (fb hf h.keep) h.own.row rfl hk' hn) ?_, fun h => by omega⟩
    rintro _ N ⟨B, d, rfl, K, hB⟩
    have hN := h.next K
    have eL : lineL false n (updG false (fI2 n s typ x) k 0 (invH1 n s typ x)) k = lineL false n (invH1 n s typ x) k := by
      unfold lineL; refine List.map_congr_left fun i hi => ?_
      exact updG_line
    rw [eL] at hB ⊢
    have may := may_y2 (x := x) (s := s) hz k
    obtain ⟨m1, m2⟩ := may_within may
    have hv := inv_far may
    rw [lineL_len, hk2] at m1
    refine ⟨_, rfl, ?_⟩
    dsimp only
    rw [lineL_len]
    refine Cn.mono (c41 (kind := k2) (n := n) (fb hf hN.keep) (hW.keep hN.keep) hB.row lineL_len m1 m2) ?_
    rintro _ N2 ⟨C, e, rfl, K2, hC⟩
    have hN2 := hN.next K2
    have ey : invS k2 (lineL false n (invH1 n s typ x) k) = invY2 n s typ x k := by unfold invY2; rw [hk2]; rfl
    rw [hk2] at hv
    have hlen : (invS k2 (lineL false n (invH1 n s typ x) k)).length = n := hv.2.1.trans lineL_len
    refine ⟨_, rfl, ?_⟩
    dsimp only
    rw [hlen]
    exact c13_6 (s := s) (x := x) hf hj hn hk' hlen hv.2.2 ey hN.lt (fun M h => ih (k + 1) (by omega) h) n 0 (Nat.zero_add _) hN2 hC
/-- A row is turned, rounded and clipped. -/
theorem c13_5 (hf : M0.floor ≤ M0.nb.size) (hj : M0.nb.size ≤ jo) (hn : n ≤ 64) {k : Nat} (hk : k < n) {Y : List Int} (hy : Y.length = n) (hfar : ∀ v ∈ Y, Far v) (hY : Y = invY1 n s typ x k) {B : Option Addr} {d : Nat} {G : Nat → Nat → Int} {b0 : Nat} (hb0 : jo < b0)
    (hE : ∀ M, Og8 M0 jo O n M (updG true (fI1 n s typ x) (k + 1) 0 G) → A13_2 (n : Nat) typ X lx cx (s : Nat) (bitsN n : Nat) A1 l1 c1 A2 l2 c2 O (n * n) (n * n) ((k + 1 : Nat) : Int) M Q) :
    ∀ (m i : Nat) {M : Mem}, i + m = n → Og8 M0 jo O n M (updG true (fI1 n s typ x) k i G) → Own (fun j => b0 ≤ j) M 3 B d (Ints Y) → A13_5 (n : Nat) typ X lx cx (s : Nat) (bitsN n : Nat) A1 l1 c1 A2 l2 c2 O (n * n) (n * n) (k : Nat) B n d (i : Nat) M Q := by
  intro m
  induction m with
  | zero =>
    intro i M hi h hB
    obtain rfl : n = i := by omega
    refine w13_5 ⟨fun h => by omega, fun _ => ?_⟩
    rw [i64w (by omega), show ((k : Int) + 1) = ((k + 1 : Nat) : Int) by omega]
    exact hE M ⟨h.keep, by rw [← updG_next]; exact h.own, h.lt⟩
  | succ m ih =>
    intro i M hi h hB
    have hi' : i < n := by omega
    obtain ⟨a, i1, i2⟩ := hB.row.int1 (n := n) (i := i) (z := i) (k := .i64) (x := gx Y i) rfl hi' (gx_at (by omega))
    have fv : Far (gx Y i) := gx_of (P := Far) hfar (by unfold Far; omega) i
    obtain ⟨q, p1, M', p2, p3, h'⟩ := h.put hf hj hk hi' (gx Y i)
    have hB' : Own (fun j => b0 ≤ j) M' 3 B d (Ints Y) := hB.chg p3 fun j _ h1 h2 => by omega
    have wr : IntKind.i64.wrap (IntKind.i64.wrap ((k : Int) * (n : Nat)) + (i : Nat)) = ((k * n + i : Nat) : Int) := ixw hk hi' hn
    have fin : ∀ {N : Mem} {v : Int}, v = fI1 n s typ x k i → Own (fun j => b0 ≤ j) N 3 B d (Ints Y) → Og8 M0 jo O n N (setG (updG true (fI1 n s typ x) k i G) k i v) → A13_7 (n : Nat) typ X lx cx (s : Nat) (bitsN n : Nat) A1 l1 c1 A2 l2 c2 O (n * n) (n * n) (k : Nat) B n d (i : Nat) N Q := by
      intro N v hv hB hN
      subst hv
      refine w13_7 ?_
      rw [i64w (by omega), show ((i : Int) + 1) = ((i + 1 : Nat) : Int) by omega]
      refine ih (i + 1) (by omega) ?_ hB
      rw [← updG_set]; exact hN
    refine w13_5 ⟨fun _ => ?_, fun h => by omega⟩
    rw [wr]
    refine ⟨_, i1, _, i2, _, p1, M', p2, fun ht => ?_, fun ht => ?_⟩
    · obtain ⟨a', i3, i4⟩ := hB'.row.int1 (n := n) (i := i) (z := i) (k := .i64) (x := gx Y i) rfl hi' (gx_at (by omega))
      refine ⟨_, i3, _, i4, Cn.eq (c42 (b := bitsN n) (bitsN_le n) fv) ⟨_, rfl, Cn.eq c40 ⟨_, rfl, ?_⟩⟩⟩
      obtain ⟨q2, p6, M2, p7, p8, h2⟩ := h'.put hf hj hk hi' (clipS (roundS (bitsN n) (gx Y i)))
      refine ⟨_, p6, M2, p7, fin (v := clipS (roundS (bitsN n) (gx Y i))) ?_ (hB'.chg p8 fun j _ h1 h2 => by omega) ?_⟩
      · show _ = fI n typ _; unfold fI rdS; rw [if_neg ht, if_neg ht, hY]
      · rw [setG_set] at h2; exact h2
    · refine fin (v := gx Y i) ?_ hB' h'
      show _ = fI n typ _; unfold fI rdS; rw [if_pos ht, if_pos ht, hY]
theorem c13_3 (hf : M0.floor ≤ M0.nb.size) (hj : M0.nb.size ≤ jo) (hz : Szt n typ) (hs : s ≤ n) (hX : Row M0 X (Ints x)) (hlx : lx = x.length) (hss : lx = s * s) (hk1 : (kindsS typ).1 = (k1 : Nat)) (hW : WtR M0 k1 n A1 l1) {k : Nat} (hk : k < s) {B : Option Addr} {d : Nat} {G : Nat → Nat → Int} {b0 : Nat} (hb0 : jo < b0)
    (hE : ∀ M, Og8 M0 jo O n M (updG true (fI1 n s typ x) (k + 1) 0 G) → A13_2 (n : Nat) typ X lx cx (s : Nat) (bitsN n : Nat) A1 l1 c1 A2 l2 c2 O (n * n) (n * n) ((k + 1 : Nat) : Int) M Q) :
    ∀ (m i : Nat) {M : Mem}, i + m = s → Og8 M0 jo O n M (updG true (fI1 n s typ x) k 0 G) → Own (fun j => b0 ≤ j) M 3 B d (Ints (twoF (fun c => clipS (gx x (k * s + c))) (fun _ => 0) n i)) → A13_3 (n : Nat) typ X lx cx (s : Nat) (bitsN n : Nat) A1 l1 c1 A2 l2 c2 O (n * n) (n * n) (k : Nat) B n d (i : Nat) M Q := by
  have hn : n ≤ 64 := by have := hz.sz; omega
  intro m
  induction m with
  | zero =>
    intro i M hi h hB
    obtain rfl : s = i := by omega
    have eL : twoF (fun c => clipS (gx x (k * s + c))) (fun _ => 0) n s = lineL true n (inG0 s x (s * s)) k := by
      unfold twoF lineL
      refine List.map_congr_left fun c hc => ?_
      show _ = inG0 s x (s * s) k c
      unfold inG0
      by_cases h : c < s
      · rw [if_pos h, if_pos ⟨hk, h, ix_lt hk h⟩]
      · rw [if_neg h, if_neg (by omega)]
    rw [eL] at hB
    have may := may_y1 (x := x) (s := s) hz k
    obtain ⟨m1, m2⟩ := may_within may
    have hv := inv_far may
    rw [lineL_len, hk1] at m1
    rw [hk1] at hv
    refine w13_3 ⟨fun h => by omega, fun _ => Cn.mono (c41 (kind := k1) (n := n) (fb hf h.keep) (hW.keep h.keep) hB.row lineL_len m1 m2) ?_⟩
    rintro _ N2 ⟨C, e, rfl, K2, hC⟩
    have hN2 := h.next K2
    have ey : invS k1 (lineL true n (inG0 s x (s * s)) k) = invY1 n s typ x k := by unfold invY1; rw [hk1]; rfl
    have hlen : (invS k1 (lineL true n (inG0 s x (s * s)) k)).length = n := hv.2.1.trans lineL_len
    refine ⟨_, rfl, ?_⟩
    dsimp only
    rw [hlen]
    exact c13_5 (s := s) (x := x) hf hj hn (by omega) hlen hv.2.2 ey h.lt hE n 0 (Nat.zero_add _) hN2 hC
  | succ m ih =>
    intro i M hi h hB
    have hi' : i < n := by omega
    have hks : k * s + i < s * s := ix_lt hk (by omega)
    have hss2 : s * s ≤ 64 * 64 := Nat.mul_le_mul (by omega) (by omega)
    obtain ⟨a, i1, i2⟩ := (hX.keep h.keep).int1 (n := lx) (i := k * s + i) (z := ((k * s + i : Nat) : Int)) (k := .i64) (x := gx x (k * s + i)) rfl (by omega) (gx_at (by omega))
    have jS : ∀ j, b0 ≤ j → M.floor ≤ j := fun j hj' => by
      have := h.keep.floor; omega
    obtain ⟨q, p1, M', p2, p3, p4, p5⟩ := hB.put1 jS (n := n) (i := i) (z := (i : Nat)) (v := .int .i64 (clipS (gx x (k * s + i)))) rfl hi' (by rw [List.length_map, twoF_len]; exact hi') rfl
    have e := twoF_set (f := fun c => clipS (gx x (k * s + c))) (g := fun _ => 0) (n := n) (i := i)
    rw [e] at p5
    refine w13_3 ⟨fun _ => ?_, fun h => by omega⟩
    have wr : IntKind.i64.wrap (IntKind.i64.wrap ((k : Int) * (s : Nat)) + (i : Nat)) = ((k * s + i : Nat) : Int) := ixw hk (by omega) (by omega)
    rw [wr]
    refine ⟨_, i1, _, i2, Cn.eq c40 ⟨_, rfl, _, p1, M', p2, ?_⟩⟩
    rw [i64w (by omega), show ((i : Int) + 1) = ((i + 1 : Nat) : Int) by omega]
    exact ih (i + 1) (by omega) ⟨Keep.step h.keep p3 fun j hj' => by omega, h.own.chg p3 fun j _ h1 h2 => by omega, by rw [p4]; exact h.lt⟩ p5
theorem c13_2 (hf : M0.floor ≤ M0.nb.size) (hj : M0.nb.size ≤ jo) (hz : Szt n typ) (hs : s ≤ n) (hX : Row M0 X (Ints x)) (hlx : lx = x.length) (hss : lx = s * s) (hk1 : (kindsS typ).1 = (k1 : Nat)) (hW : WtR M0 k1 n A1 l1) (hk2 : (kindsS typ).2 = (k2 : Nat)) (hW2 : WtR M0 k2 n A2 l2)
    (hQ : ∀ M, Og8 M0 jo O n M (invH2 n s typ x) → Q (.tuple #[.slice O (n * n) (n * n), .int .i64 0]) M) :
    ∀ (m k : Nat) {M : Mem}, k + m = s → Og8 M0 jo O n M (updG true (fI1 n s typ x) k 0 fun _ _ => 0) → A13_2 (n : Nat) typ X lx cx (s : Nat) (bitsN n : Nat) A1 l1 c1 A2 l2 c2 O (n * n) (n * n) (k : Nat) M Q := by
  have hn : n ≤ 64 := by have := hz.sz; omega
  intro m
  induction m with
  | zero =>
    intro k M hk h
    obtain rfl : s = k := by omega
    refine w13_2 ⟨fun h => by omega, fun _ => ?_⟩
    have e : updG true (fI1 n s typ x) s 0 (fun _ _ => 0) = invH1 n s typ x := by
      unfold invH1
      funext r c
      show (if r < s ∨ (r = s ∧ c < 0) then fI1 n s typ x r c else (0 : Int)) = if r < s ∨ (r = s ∧ c < 0) then fI1 n s typ x r c else inG0 s x (s * s) r c
      by_cases hh : r < s ∨ (r = s ∧ c < 0)
      · rw [if_pos hh, if_pos hh]
      · rw [if_neg hh, if_neg hh]
        unfold inG0
        rw [if_neg]
        rintro ⟨h1, _⟩
        exact hh (.inl h1)
    rw [e] at h
    have := c13_4 (A2 := A2) (l2 := l2) (c2 := c2) (Q := Q) (x := x) (s := s) hf hj hz hk2 hW2 hQ n 0 (Nat.zero_add _) (M := M) (by rw [updG_0]; exact h)
    exact this
  | succ m ih =>
    intro k M hk h
    obtain ⟨B, M1, g1, g2, g3⟩ := madeG (M1 := M) (k := n) (by omega)
    rw [zeros, ← twoF_0 (f := fun c => clipS (gx x (k * s + c)))] at g3
    refine w13_2 ⟨fun _ => ⟨_, g1, _, rfl, ?_⟩, fun h => by omega⟩
    exact c13_3 (s := s) (x := x) hf hj hz hs hX hlx hss hk1 hW (by omega) h.lt (fun M h => ih (k + 1) (by omega) h) s 0 (Nat.zero_add _) (h.next g2) g3
theorem c13 (hf : M0.floor ≤ M0.nb.size) (hX : Row M0 X (Ints x)) (hlx : lx = x.length) (hb0 : lx ≤ 1048576) {sz : Int} :
    Cn Try.prog 13 #[.int .i64 sz, .int .i64 typ, .slice X lx cx] M0 (TfR M0 (invB sz typ x)) := by
  refine w13_0 (Cn.mono c25 ?_)
  rintro _ M1 ⟨rfl, K1⟩
  refine ⟨_, rfl, _, rfl, _, rfl, Cn.mono (c37 (hX.keep K1) hlx hb0 (by decide)) ?_⟩
  rintro _ M2 ⟨rfl, K2⟩
  have K02 := K1.trans K2
  unfold invB
  rw [asks_side]
  refine ⟨_, rfl, fun h => ?_, fun h => ?_⟩
  · rw [if_neg (by omega)]
    exact ⟨none, 0, rfl, K02, Own.empty, Nat.le_refl _⟩
  have h0 : askS sz typ x (min32 sz) 1048576 = 0 := by omega
  rw [if_pos h0]
  obtain ⟨hsz, htyp, hlen, hin⟩ := ask_0 h0
  obtain ⟨hz, en⟩ := szt_of hsz htyp
  have hsd : (sideS sz).1 = min32 sz := by
    unfold sideS; rw [if_neg]
    intro h; unfold askS at h0; rw [if_pos h] at h0; omega
  have hms : min32 sz = ((min32 sz).toNat : Nat) := by unfold min32; split <;> omega
  have hms2 : (min32 sz).toNat ≤ sz.toNat ∧ 0 < (min32 sz).toNat ∧ (min32 sz).toNat ≤ 32 := by unfold min32; split <;> omega
  rw [hsd]
  generalize hn : sz.toNat = n at *
  generalize hs : (min32 sz).toNat = s at *
  rw [hms] at hlen ⊢
  subst en
  have hn64 : n ≤ 64 := by have := hz.sz; omega
  have hnn : n * n ≤ 64 * 64 := Nat.mul_le_mul hn64 hn64
  have hss2 : s * s ≤ 32 * 32 := Nat.mul_le_mul (by omega) (by omega)
  have hxl : lx = s * s := by
    rw [← Int.natCast_mul, i64w (by omega)] at hlen; omega
  have hk1 := lenB_kind hz.k1
  have hk2 := lenB_kind hz.k2
  have ek1 : (kindsS typ).1 = ((kindsS typ).1.toNat : Nat) := by omega
  have ek2 : (kindsS typ).2 = ((kindsS typ).2.toNat : Nat) := by omega
  have main : ∀ {M : Mem}, Keep M0 M → A13_1 (n : Nat) typ X lx cx (s : Nat) (kindsS typ).1 (kindsS typ).2 (bitsN n : Nat) M (TfR M0 (gridL n (invH2 n s typ x), 0)) := by
    intro M K
    refine w13_1 ?_
    have z1 := hz.k1
    have z2 := hz.k2
    rw [ek1] at z1 ⊢
    rw [ek2] at z2 ⊢
    refine Cn.mono (c39 (fb hf K) z1) ?_
    rintro _ N1 ⟨A1, l1, c1, rfl, L1, W1⟩
    refine ⟨_, rfl, Cn.mono (c39 (fb hf (K.trans L1)) z2) ?_⟩
    rintro _ N2 ⟨A2, l2, c2, rfl, L2, W2⟩
    have K2 := (K.trans L1).trans L2
    obtain ⟨O, M3, g1, g2, g3⟩ := madeG (M1 := N2) (k := n * n) (by omega)
    have w1 : IntKind.i64.wrap ((n : Int) * (n : Nat)) = ((n * n : Nat) : Int) := by rw [← Int.natCast_mul, i64w (by omega)]
    refine ⟨_, rfl, ?_⟩
    rw [w1]
    refine ⟨_, g1, _, rfl, ?_⟩
    have hpos : 0 < n * n := Nat.mul_pos (by have := hz.sz; omega) (by have := hz.sz; omega)
    obtain ⟨jo, j1, j2, j3⟩ := own_one g3 (by intro h; have := congrArg List.length h; simp at this; omega)
    have e0 : Ints (List.replicate (n * n) 0) = Ints (gridL n (updG true (fI1 n s typ x) 0 0 fun _ _ => 0)) := by rw [updG_0, grid_zero]
    rw [e0] at j3
    refine c13_2 (M0 := N2) (jo := jo) (fb hf K2) j1 hz hms2.1 (hX.keep K2) hlx hxl ek1 (W1.keep L2) ek2 W2 (fun M h => ⟨O, n * n, ?_, K2.trans h.keep, h.own.mono fun j _ hj => by rw [hj]; exact Nat.le_trans K2.size j1, Nat.le_of_eq (gridL_len _ _)⟩) s 0 (Nat.zero_add _) ⟨g2, j3, j2⟩
    rw [gridL_len]; rfl
  refine Cn.eq c38 ⟨_, rfl, _, rfl, _, rfl, fun e8 => ?_, fun n8 => ⟨fun e16 => ⟨fun _ => ?_, fun h => absurd e16 h⟩, fun n16 => ⟨fun e32 => ⟨fun _ => ?_, fun h => absurd e32 h⟩, fun n32 => ⟨fun e64 => ?_, fun n64 => ?_⟩⟩⟩⟩
  · have := main K02; rw [show bitsN n = 1 by unfold bitsN; rw [if_neg (by omega), if_pos (by omega)]] at this; exact this
  · have := main K02; rw [show bitsN n = 2 by unfold bitsN; rw [if_neg (by omega), if_neg (by omega)]] at this; exact this
  · have := main K02; rw [show bitsN n = 2 by unfold bitsN; rw [if_neg (by omega), if_neg (by omega)]] at this; exact this
  · have := main K02; rw [show bitsN n = 2 by unfold bitsN; rw [if_neg (by omega), if_neg (by omega)]] at this; exact this
  · have := main K02; rw [show bitsN n = 0 by have := hz.sz; unfold bitsN; rw [if_pos (by omega)]] at this; exact this
end
end Go.Zt

