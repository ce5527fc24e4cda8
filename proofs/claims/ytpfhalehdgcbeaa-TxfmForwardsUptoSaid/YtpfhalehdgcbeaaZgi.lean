/- Layer 8: Forward of the document, walked; TxfmForwards. -/
import Derived.Test.YtpfhalehdgcbeaaZgh
set_option linter.unusedSimpArgs false
set_option linter.unusedVariables false
namespace Go.Zt
open Go Go.Sim Go.Proofs Go.RowKit

section
variable {M0 : Mem} {X O A1 A2 : Option Addr} {lx cx l1 c1 l2 c2 n s jo k1 k2 : Nat} {typ : Int} {x : List Int} {Q : Value → Mem → Prop}
abbrev fF1 (n : Nat) (typ : Int) (x : List Int) : Nat → Nat → Int := fun k i => rdS 0 typ (gx (fwY1 n typ x k) i)
abbrev fF2 (n : Nat) (typ : Int) (x : List Int) : Nat → Nat → Int := fun k i => scS n typ (gx (fwY2 n typ x k) i)
theorem c17_2 (hf : M0.floor ≤ M0.nb.size) (hj : M0.nb.size ≤ jo) (hn : n ≤ 64) {k : Nat} (hk : k < n) {Y : List Int} (hy : Y.length = n) (hY : Y = fwY1 n typ x k) {B : Option Addr} {d : Nat} {G : Nat → Nat → Int} {b0 : Nat} (hb0 : jo < b0) {s9 : Int}
    (hE : ∀ M, Og8 M0 jo O n M (updG false (fF1 n typ x) (k + 1) 0 G) → A17_1 (n : Nat) typ X lx cx s9 A1 l1 c1 A2 l2 c2 O (n * n) (n * n) ((k + 1 : Nat) : Int) M Q) :
    ∀ (m i : Nat) {M : Mem}, i + m = n → Og8 M0 jo O n M (updG false (fF1 n typ x) k i G) → Own (fun j => b0 ≤ j) M 3 B d (Ints Y) → A17_2 (n : Nat) typ X lx cx s9 A1 l1 c1 A2 l2 c2 O (n * n) (n * n) (k : Nat) B n d (i : Nat) M Q := by
  intro m
  induction m with
  | zero =>
    intro i M hi h hB
    obtain rfl : n = i := by omega
    refine w17_2 ⟨fun h => by omega, fun _ => ?_⟩
    rw [i64w (by omega), show ((k : Int) + 1) = ((k + 1 : Nat) : Int) by omega]
    exact hE M ⟨h.keep, by rw [← updG_next]; exact h.own, h.lt⟩
  | succ m ih =>
    intro i M hi h hB
    have hi' : i < n := by omega
    obtain ⟨a, i1, i2⟩ := hB.row.int1 (n := n) (i := i) (z := i) (k := .i64) (x := gx Y i) rfl hi' (gx_at (by omega))
    obtain ⟨q, p1, M', p2, p3, h'⟩ := h.put hf hj hi' hk (gx Y i)
    have hB' : Own (fun j => b0 ≤ j) M' 3 B d (Ints Y) := hB.chg p3 fun j _ h1 h2 => by omega
    refine w17_2 ⟨fun _ => ?_, fun h => by omega⟩
    rw [ixw hi' hk hn]
    refine ⟨_, i1, _, i2, _, p1, M', p2, ?_⟩
    rw [i64w (by omega), show ((i : Int) + 1) = ((i + 1 : Nat) : Int) by omega]
    refine ih (i + 1) (by omega) ?_ hB'
    rw [← updG_set]
    have e : fF1 n typ x k i = gx Y i := by show rdS 0 typ _ = _; rw [rdS_0, hY]
    rw [e]; exact h'
/-- What stands while the rows are cut. -/
structure Of8 (M0 : Mem) (jo : Nat) (O : Option Addr) (n : Nat) (S : Nat → Prop) (B : Option Addr) (d : Nat) (M : Mem) (G : Nat → Nat → Int) (L : List Int) : Prop where
  og : Og8 M0 jo O n M G
  out : Own S M 3 B d (Ints L)
  sub : ∀ j, S j → M0.nb.size ≤ j ∧ j ≠ jo
  new : ∀ j, M.nb.size ≤ j → S j
theorem Of8.next {S : Nat → Prop} {B : Option Addr} {d : Nat} {M N : Mem} {G : Nat → Nat → Int} {L : List Int} (h : Of8 M0 jo O n S B d M G L) (K : Keep M N) : Of8 M0 jo O n S B d N G L :=
  ⟨h.og.next K, h.out.chg K fun _ _ _ h => h, h.sub, fun j hj => h.new j (Nat.le_trans K.size hj)⟩
theorem Of8.app {S : Nat → Prop} {B : Option Addr} {d l : Nat} {M : Mem} {G : Nat → Nat → Int} {L : List Int} (hf : M0.floor ≤ M0.nb.size) (h : Of8 M0 jo O n S B d M G L) (hl : l = L.length) (hb : l ≤ 1048576) (v : Int) :
    ∃ B' d' M', appendP Try.prog #[22, 22] (.slice B l d) (.slice (some ⟨2 * M.nb.size, 0, none⟩) 1 1) (M.new (.cells #[.int .i64 v] 3)) = some (.slice B' (l + 1) d', M') ∧ Chg S M M' ∧ Of8 M0 jo O n S B' d' M' G (L ++ [v]) := by
  have := h.og.lt
  obtain ⟨B', d', M', g1, g2, g3, g4⟩ := app1S el22 h.out (n := l) (by rw [List.length_map]; exact hl) (fun j hj' => by rw [h.og.keep.floor]; exact Nat.le_trans hf (h.sub j hj').1) (h.new _ (Nat.le_refl _)) (h.new _ (Nat.le_succ _)) (v := .int .i64 v) rfl (by omega)
  refine ⟨B', d', M', g1, g2, ⟨Keep.step h.og.keep g2 fun j hj' => (h.sub j hj').1, h.og.own.chg g2 fun j _ h1 h2 => (h.sub j h2).2 h1, Nat.lt_of_lt_of_le h.og.lt g2.size⟩, ?_, h.sub, fun j hj => h.new j (Nat.le_trans g2.size hj)⟩
  rw [Ints, List.map_append]; exact g3
theorem c17_4 (hf : M0.floor ≤ M0.nb.size) (hn : n ≤ 64) (hs : s ≤ n) {k : Nat} (hk : k < s) {Y : List Int} (hy : Y.length = n) (hfar : ∀ v ∈ Y, Far v) (hY : Y = fwY2 n typ x k) {C : Option Addr} {e : Nat} {G : Nat → Nat → Int} {S T : Nat → Prop} (hST : ∀ j, T j → ¬ S j) {L : List Int} (hL : L.length = k * s)
    (hE : ∀ M B d, Of8 M0 jo O n S B d M G (L ++ (List.range s).map (fF2 n typ x k)) → A17_3 (n : Nat) typ (s : Nat) A1 l1 c1 O (n * n) (n * n) B ((k + 1) * s) d ((k + 1 : Nat) : Int) M Q) :
    ∀ (m i : Nat) (B : Option Addr) (d : Nat) {M : Mem}, i + m = s → Of8 M0 jo O n S B d M G (L ++ (List.range i).map (fF2 n typ x k)) → Own T M 3 C e (Ints Y) → A17_4 (n : Nat) typ (s : Nat) A1 l1 c1 O (n * n) (n * n) B (k * s + i) d (k : Nat) C n e (i : Nat) M Q := by
  have hks : k * s ≤ 64 * 64 := Nat.mul_le_mul (by omega) (by omega)
  intro m
  induction m with
  | zero =>
    intro i B d M hi h hC
    obtain rfl : s = i := by omega
    refine w17_4 ⟨fun h => by omega, fun _ => ?_⟩
    rw [i64w (by omega), show ((k : Int) + 1) = ((k + 1 : Nat) : Int) by omega]
    have := hE M B d h
    rw [Nat.add_mul, Nat.one_mul] at this
    exact this
  | succ m ih =>
    intro i B d M hi h hC
    obtain ⟨a, i1, i2⟩ := hC.row.int1 (n := n) (i := i) (z := i) (k := .i64) (x := gx Y i) rfl (by omega) (gx_at (by omega))
    have fv : Far (gx Y i) := gx_of (P := Far) hfar (by unfold Far; omega) i
    obtain ⟨B', d', M', p1, p2, h'⟩ := h.app hf (l := k * s + i) (by simp [hL]) (by omega) (fF2 n typ x k i)
    have hC' : Own T M' 3 C e (Ints Y) := hC.chg p2 fun j _ h1 h2 => hST j h1 h2
    have nx : A17_5 (n : Nat) typ (s : Nat) A1 l1 c1 O (n * n) (n * n) B' (k * s + i + 1) d' (k : Nat) C n e (i : Nat) M' Q := by
      refine w17_5 ?_
      rw [i64w (by omega), show ((i : Int) + 1) = ((i + 1 : Nat) : Int) by omega]
      refine ih (i + 1) B' d' (by omega) ?_ hC'
      rw [List.range_succ, List.map_append, ← List.append_assoc]; exact h'
    refine w17_4 ⟨fun _ => ⟨fun ht => ?_, fun ht => ?_⟩, fun h => by omega⟩
    · have ev : fF2 n typ x k i = gx Y i := by show scS n typ _ = _; unfold scS; rw [if_pos ht, hY]
      rw [ev] at p1
      exact ⟨_, i1, _, i2, _, p1, _, rfl, nx⟩
    · have ev : fF2 n typ x k i = scS n 0 (gx Y i) := by show scS n typ _ = _; rw [scS_not9 ht, hY]
      rw [ev] at p1
      exact ⟨_, i1, _, i2, Cn.eq (c48 fv) ⟨_, rfl, _, p1, _, rfl, nx⟩⟩
theorem subL_succ (s : Nat) (G : Nat → Nat → Int) (k : Nat) : subL s G (k + 1) = subL s G k ++ (List.range s).map (G k) := by
  unfold subL; exact range_flat_succ ..
theorem c17_3 (hf : M0.floor ≤ M0.nb.size) (hj : M0.nb.size ≤ jo) (hz : Szt n typ) (hs : s ≤ n) (hx : inB 255 x = true) (hk1 : (kindsS typ).1 = (k1 : Nat)) (hW : WtR M0 k1 n A1 l1)
    (hQ : ∀ M B d, Keep M0 M → Own (fun j => M0.nb.size ≤ j) M 3 B d (Ints (subL s (fwH2 n s typ x) s)) → Q (.tuple #[.slice B (s * s) d, .int .i64 0]) M) :
    ∀ (m k : Nat) (B : Option Addr) (d : Nat) {M : Mem}, k + m = s → Of8 M0 jo O n (fun j => M0.nb.size ≤ j ∧ j ≠ jo) B d M (fwH1 n typ x) (subL s (fwH2 n s typ x) k) → A17_3 (n : Nat) typ (s : Nat) A1 l1 c1 O (n * n) (n * n) B (k * s) d (k : Nat) M Q := by
  have hn : n ≤ 64 := by have := hz.sz; omega
  have hnn : n * n ≤ 64 * 64 := Nat.mul_le_mul hn hn
  intro m
  induction m with
  | zero =>
    intro k B d M hk h
    obtain rfl : s = k := by omega
    exact w17_3 ⟨fun h => by omega, fun _ => hQ M B d h.og.keep (h.out.mono fun j _ hj => hj.1)⟩
  | succ m ih =>
    intro k B d M hk h
    have hrn : k * n + n ≤ n * n := by
      have : (k + 1) * n ≤ n * n := Nat.mul_le_mul_right _ (by omega)
      rw [Nat.add_mul, Nat.one_mul] at this; exact this
    have w1 : IntKind.i64.wrap ((k : Int) * (n : Nat)) = ((k * n : Nat) : Int) := by rw [← Int.natCast_mul, i64w (by omega)]
    have w2 : IntKind.i64.wrap (((k * n : Nat) : Int) + (n : Nat)) = ((k * n + n : Nat) : Int) := by rw [i64w (by omega)]; omega
    obtain ⟨Y, q1, q2, _⟩ := slice_row el22 (n := n * n) (c := n * n) (l := k * n) (h := k * n + n) (lo := some (.int .i64 ((k * n : Nat) : Int))) (hi := some (.int .i64 ((k * n + n : Nat) : Int))) h.og.own.row (by rw [List.length_map, gridL_len, Nat.mul_one]) (Nat.le_refl _) h.og.own.none_zero (bound_lo rfl (by omega)) (bound_lo rfl (by omega)) (by omega) (by omega)
    rw [row_cut (Nat.le_refl n) (by omega)] at q2
    have eL : (List.range n).map (fwH1 n typ x k) = lineL true n (fwH1 n typ x) k := rfl
    rw [eL] at q2
    have may := may_f2 hz hx k
    obtain ⟨m1, m2⟩ := may_within may
    have hv := fwd_far may
    rw [lineL_len, hk1] at m1
    rw [hk1] at hv
    have hlen : (fwdS k1 (lineL true n (fwH1 n typ x) k)).length = n := hv.2.1.trans lineL_len
    have ey : fwdS k1 (lineL true n (fwH1 n typ x) k) = fwY2 n typ x k := by unfold fwY2; rw [hk1]; rfl
    refine w17_3 ⟨fun _ => ?_, fun h => by omega⟩
    rw [w1, w2]
    refine ⟨_, q1, _, rfl, ?_⟩
    dsimp only
    rw [show k * n + n - k * n = n by omega]
    refine Cn.mono (c47 (kind := k1) (n := n) (fb hf h.og.keep) (hW.keep h.og.keep) q2 lineL_len m1 m2) ?_
    rintro _ N ⟨C, e, rfl, K, hC⟩
    refine ⟨_, rfl, ?_⟩
    dsimp only
    rw [hlen]
    have hlt := h.og.lt
    have hsz := h.og.keep.size
    have hKs := K.size
    have h' : Of8 M0 jo O n (fun j => M0.nb.size ≤ j ∧ j ≠ jo ∧ ¬ (M.nb.size ≤ j ∧ j < N.nb.size)) B d N (fwH1 n typ x) (subL s (fwH2 n s typ x) k) :=
      ⟨h.og.next K, (h.out.mono (T := fun j => M0.nb.size ≤ j ∧ j ≠ jo ∧ ¬ (M.nb.size ≤ j ∧ j < N.nb.size)) fun j hl hj => ⟨hj.1, hj.2, by omega⟩).chg K fun _ _ _ h => h, fun j hj => ⟨hj.1, hj.2.1⟩, fun j hj => ⟨by omega, by omega, by omega⟩⟩
    have := c17_4 (s := s) (x := x) (typ := typ) (A1 := A1) (l1 := l1) (c1 := c1) (Q := Q) (C := C) (e := e) (T := fun j => M.nb.size ≤ j ∧ j < N.nb.size) hf hn hs (k := k) (by omega) hlen hv.2.2 ey (fun j h1 (h2 : M0.nb.size ≤ j ∧ j ≠ jo ∧ ¬ (M.nb.size ≤ j ∧ j < N.nb.size)) => h2.2.2 h1) (subL_len _ _ _) (fun M' B' d' hh => ?_) s 0 B d (Nat.zero_add _) (M := N) (by simpa using h') (hC.mono fun j hl hj => ⟨hj, hl⟩)
    · exact this
    · refine ih (k + 1) B' d' (by omega) ⟨hh.og, ?_, fun j hj => hj, fun j hj => ⟨by have := hh.og.keep.size; omega, by have := hh.og.lt; omega⟩⟩
      rw [subL_succ]
      have e2 : (List.range s).map (fwH2 n s typ x k) = (List.range s).map (fF2 n typ x k) := by
        refine List.map_congr_left fun c hc => ?_
        show (if k < s ∨ (k = s ∧ c < 0) then fF2 n typ x k c else fwH1 n typ x k c) = _
        rw [if_pos (.inl (by omega))]
      rw [e2]
      exact hh.out.mono fun j _ hj => ⟨hj.1, hj.2.1⟩
theorem c17_1 (hf : M0.floor ≤ M0.nb.size) (hj : M0.nb.size ≤ jo) (hz : Szt n typ) (hx : inB 255 x = true) (hxl : x.length = n * n) (hX : Row M0 X (Ints x)) (hlx : lx = n * n) (hk2 : (kindsS typ).2 = (k2 : Nat)) (hW2 : WtR M0 k2 n A2 l2)
    (hQ : ∀ M, Og8 M0 jo O n M (fwH1 n typ x) → A17_3 (n : Nat) typ (s : Nat) A1 l1 c1 O (n * n) (n * n) none 0 0 0 M Q) :
    ∀ (m k : Nat) {M : Mem}, k + m = n → Og8 M0 jo O n M (updG false (fF1 n typ x) k 0 fun _ _ => 0) → A17_1 (n : Nat) typ X lx cx (s : Nat) A1 l1 c1 A2 l2 c2 O (n * n) (n * n) (k : Nat) M Q := by
  have hn : n ≤ 64 := by have := hz.sz; omega
  intro m
  induction m with
  | zero =>
    intro k M hk h
    obtain rfl : n = k := by omega
    refine w17_1 ⟨fun h => by omega, fun _ => hQ M ⟨h.keep, ?_, h.lt⟩⟩
    have e : gridL n (fwH1 n typ x) = gridL n (updG false (fF1 n typ x) n 0 fun _ _ => 0) := grid_congr fun r c hr hc => by
      show (if c < n ∨ (c = n ∧ r < 0) then fF1 n typ x c r else fwG0 n x r c) = (if c < n ∨ (c = n ∧ r < 0) then fF1 n typ x c r else 0)
      rw [if_pos (.inl hc), if_pos (.inl hc)]
    rw [e]; exact h.own
  | succ m ih =>
    intro k M hk h
    have hk' : k < n := by omega
    have hX' : Row M X (Ints (gridL n (fwG0 n x))) := by rw [fwG0_grid hxl]; exact hX.keep h.keep
    refine w17_1 ⟨fun _ => Cn.mono (c43 (fb hf h.keep) hX' hlx hk' hn) ?_, fun h => by omega⟩
    rintro _ N ⟨B, d, rfl, K, hB⟩
    have hN := h.next K
    have may := may_f1 hz hx k
    obtain ⟨m1, m2⟩ := may_within may
    have hv := fwd_far may
    rw [lineL_len, hk2] at m1
    rw [hk2] at hv
    refine ⟨_, rfl, ?_⟩
    dsimp only
    rw [lineL_len]
    refine Cn.mono (c47 (kind := k2) (n := n) (fb hf hN.keep) (hW2.keep hN.keep) hB.row lineL_len m1 m2) ?_
    rintro _ N2 ⟨C, e, rfl, K2, hC⟩
    have hlen : (fwdS k2 (lineL false n (fwG0 n x) k)).length = n := hv.2.1.trans lineL_len
    have ey : fwdS k2 (lineL false n (fwG0 n x) k) = fwY1 n typ x k := by unfold fwY1; rw [hk2]; rfl
    refine ⟨_, rfl, ?_⟩
    dsimp only
    rw [hlen]
    exact c17_2 (x := x) hf hj hn hk' hlen ey hN.lt (fun M h => ih (k + 1) (by omega) h) n 0 (Nat.zero_add _) (hN.next K2) hC
theorem c17 (hf : M0.floor ≤ M0.nb.size) (hX : Row M0 X (Ints x)) (hlx : lx = x.length) (hb0 : lx ≤ 1048576) {sz : Int} :
    Cn Try.prog 17 #[.int .i64 sz, .int .i64 typ, .slice X lx cx] M0 (TfR M0 (fwdB sz typ x)) := by
  refine w17_0 (Cn.mono (c37 hX hlx hb0 (by decide)) ?_)
  rintro _ M1 ⟨rfl, K1⟩
  unfold fwdB
  refine ⟨_, rfl, fun h => ?_, fun h => ?_⟩
  · rw [if_neg (by omega)]
    exact ⟨none, 0, rfl, K1, Own.empty, Nat.le_refl _⟩
  have h0 : askS sz typ x sz 255 = 0 := by omega
  rw [if_pos h0]
  obtain ⟨hsz, htyp, hlen, hin⟩ := ask_0 h0
  obtain ⟨hz, en⟩ := szt_of hsz htyp
  have hsd : (sideS sz).1 = min32 sz := by
    unfold sideS; rw [if_neg]
    intro h; unfold askS at h0; rw [if_pos h] at h0; omega
  have hms : min32 sz = ((min32 sz).toNat : Nat) := by unfold min32; split <;> omega
  have hms2 : (min32 sz).toNat ≤ sz.toNat ∧ 0 < (min32 sz).toNat ∧ (min32 sz).toNat ≤ 32 := by unfold min32; split <;> omega
  refine Cn.mono c25 ?_
  rintro _ M2 ⟨rfl, K2⟩
  have K02 := K1.trans K2
  rw [hsd]
  refine ⟨_, rfl, _, rfl, _, rfl, Cn.eq c38 ⟨_, rfl, _, rfl, _, rfl, ?_⟩⟩
  generalize hn : sz.toNat = n at *
  generalize hs : (min32 sz).toNat = s at *
  rw [hms]
  subst en
  have hn64 : n ≤ 64 := by have := hz.sz; omega
  have hnn : n * n ≤ 64 * 64 := Nat.mul_le_mul hn64 hn64
  have w1 : IntKind.i64.wrap ((n : Int) * (n : Nat)) = ((n * n : Nat) : Int) := by rw [← Int.natCast_mul, i64w (by omega)]
  have hxl : x.length = n * n := by rw [w1] at hlen; omega
  have hk1 := lenB_kind hz.k1
  have hk2 := lenB_kind hz.k2
  have ek1 : (kindsS typ).1 = ((kindsS typ).1.toNat : Nat) := by omega
  have ek2 : (kindsS typ).2 = ((kindsS typ).2.toNat : Nat) := by omega
  have z1 := hz.k1
  have z2 := hz.k2
  rw [ek1] at z1 ⊢
  rw [ek2] at z2 ⊢
  refine Cn.mono (c39 (fb hf K02) z1) ?_
  rintro _ N1 ⟨A1, l1, c1, rfl, L1, W1⟩
  refine ⟨_, rfl, Cn.mono (c39 (fb hf (K02.trans L1)) z2) ?_⟩
  rintro _ N2 ⟨A2, l2, c2, rfl, L2, W2⟩
  have K3 := (K02.trans L1).trans L2
  obtain ⟨O, M3, g1, g2, g3⟩ := madeG (M1 := N2) (k := n * n) (by omega)
  refine ⟨_, rfl, ?_⟩
  rw [w1]
  refine ⟨_, g1, _, rfl, ?_⟩
  have hpos : 0 < n * n := Nat.mul_pos (by have := hz.sz; omega) (by have := hz.sz; omega)
  obtain ⟨jo, j1, j2, j3⟩ := own_one g3 (by intro h; have := congrArg List.length h; simp at this; omega)
  have e0 : Ints (List.replicate (n * n) 0) = Ints (gridL n (updG false (fF1 n typ x) 0 0 fun _ _ => 0)) := by rw [updG_0, grid_zero]
  rw [e0] at j3
  refine c17_1 (M0 := N2) (jo := jo) (x := x) (fb hf K3) j1 hz hin hxl (hX.keep K3) (by omega) ek2 W2 (fun M h => ?_) n 0 (Nat.zero_add _) ⟨g2, j3, j2⟩
  have := c17_3 (M0 := N2) (jo := jo) (s := s) (x := x) (O := O) (A1 := A1) (l1 := l1) (c1 := c1) (Q := TfR M0 (subL s (fwH2 n s typ x) s, 0)) (fb hf K3) j1 hz hms2.1 hin ek1 (W1.keep L2) (fun M B d KM hO => ⟨B, d, ?_, K3.trans KM, hO.mono fun j _ hj => Nat.le_trans K3.size hj, by have := own_len hO; simpa using this⟩) s 0 none 0 (M := M) (Nat.zero_add _) ⟨h, Own.empty, fun j hj => hj, fun j hj => ⟨by have := h.keep.size; omega, by have := h.lt; omega⟩⟩
  · rw [Nat.zero_mul] at this; exact this
  · dsimp only; rw [subL_len]; rfl
end
theorem c4 {M : Mem} (hf : M.floor ≤ M.nb.size) {A : Option Addr} {n c : Nat} {x : List Int} (h4 : Row M A (Ints x)) (h1 : n = x.length) (h3 : n ≤ 1048576) {sz typ : Int} : Cn Try.prog 4 #[.int .i64 sz, .int .i64 typ, .slice A n c] M fun v _ => v = .bool true := by
  refine w4_0 (Cn.mono (c11 hf h4 h1 h3) ?_)
  rintro _ N1 ⟨X, cx, rfl, K1, O1⟩
  refine ⟨_, rfl, Cn.mono (c16 (sz := sz) (typ := typ) (x := x) (fb hf K1) O1.row rfl (by omega)) ?_⟩
  have hl := len_fwd sz typ x
  intro v2 N2 h2'
  have t13 := fun (M : Mem) (hf : M.floor ≤ M.nb.size) (hX : Row M A (Ints x)) => c17 (cx := c) (sz := sz) (typ := typ) hf hX h1 h3
  generalize fwdB sz typ x = q at hl h2' t13
  obtain ⟨a, e⟩ := q
  obtain ⟨A2, c2, rfl, K2, O2, _⟩ := h2'
  have K02 := K1.trans K2
  refine ⟨_, rfl, _, rfl, _, rfl, Cn.mono (t13 _ (fb hf K02) (h4.keep K02)) ?_⟩
  rintro _ N3 ⟨A3, c3, rfl, K3, O3, _⟩
  have ct := c14n (e := e) (f := e) (a := a) (b := a) (x := x) (A := A2) (ca := c2) (na := a.length) (B := A3) (cb := c3) (nb' := a.length) (X := X) (Y := A) (cx := cx) (cy := c) (nx := x.length) hf K1 (K2.trans K3) O1 h4 (O2.chg K3 fun _ _ _ h => h) O3.row rfl rfl rfl ⟨rfl, rfl⟩ hl (by omega)
  subst h1
  refine ⟨_, rfl, _, rfl, _, rfl, Cn.mono ct ?_⟩
  rintro _ N4 ⟨rfl, K4⟩
  refine ⟨_, rfl, fun _ => Cn.mono (c15 (fb hf K4)) ?_, fun h => (by cases h)⟩
  rintro _ N5 ⟨rfl, _⟩
  exact ⟨_, rfl, rfl⟩
theorem law4 {W : World} {u0 u1 u2 : Value} (s0 : Sees Try.prog (mem0 W) 1048576 8 3 [u0]) (s1 : Sees Try.prog (mem0 W) 1048576 8 3 [u1]) (s2 : Sees Try.prog (mem0 W) 1048576 8 22 [u2]) : Cn Try.prog 4 #[u0, u1, u2] (mem0 W) fun v _ => v = .bool true := by
  obtain ⟨sz, e0, _⟩ := sees_int (q := .i64) (by kernel_rfl) s0
  obtain ⟨typ, e1, _⟩ := sees_int (q := .i64) (by kernel_rfl) s1
  obtain ⟨A, n, c, x, e, h1, h2, h3, h4, _⟩ := sees_ints (e := 3) (by kernel_rfl) (by kernel_rfl) s2
  obtain rfl : u0 = _ := by simpa using e0
  obtain rfl : u1 = _ := by simpa using e1
  obtain rfl : u2 = _ := by simpa using e
  exact c4 (Nat.zero_le _) h4 h1 h3
end Go.Zt

