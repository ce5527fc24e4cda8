/- Layer 19: one piece, read by the document. -/
import Derived.Test.YtbbdggpfhcgbpaaZcM
set_option linter.unusedSimpArgs false
set_option linter.unusedVariables false
namespace Go.Zt
open Go Go.Sim Go.Proofs Go.RowKit

theorem chg_fl {S : Nat → Prop} {M N : Mem} {f : Nat} (h : Chg S { M with floor := f } N) : Chg S M { N with floor := M.floor } := ⟨h.base, rfl, h.size, h.same⟩
section
variable {M0 : Mem} {A : Option Addr} {n c p : Nat} {b : List Nat}
theorem c28_in (hf : M0.floor ≤ M0.nb.size) {x : Nat} {r : List Nat} (hA : Row M0 A (U8 b)) (hd : b.drop p = x :: r) (hn : n = b.length) (hb : n ≤ 4398046511104) (hc : n ≤ c) (hA0 : A = none → c = 0) (hB : Byt b) {M : Mem} (K : Keep M0 M) {k0 : Int} (a0 : M.nb[M0.nb.size]? = some (ObB k0 none 0 0)) {fl : Bool}
    (hfl : fl = true ↔ (x ≠ 16 ∧ x ≠ 32 ∧ x ≠ 48)) :
    A28_1 A n c p (some ⟨2 * M0.nb.size, 0, none⟩) fl M (PcR M0 (x :: r) p) := by
  have out : ∀ {N : Mem} {A' : Option Addr} {n' c' : Nat} {k : Int}, Keep M0 N → N.nb[M0.nb.size]? = some (ObB k A' n' c') → ∀ {e : Nat} {z : Int}, z = (e : Int) → e ≠ 0 → pcS (x :: r) = (0, [], 0, e) →
      ∃ N1, N.put (2 * M0.nb.size) 0 (.int .i64 0) = some N1 ∧ ∃ N2, N1.put (2 * M0.nb.size) 1 (.slice none 0 0) = some N2 ∧ N2.intAt .i64 (2 * M0.nb.size) 0 = some 0 ∧ N2.slAt (2 * M0.nb.size) 1 = some (none, 0, 0) ∧
        PcR M0 (x :: r) p (.tuple #[.agg #[.int .i64 0, .slice none 0 0], .int .i64 0, .int .i64 z]) N2 := by
    intro N A' n' c' k hK ha e z hz he hp
    obtain ⟨N1, p1, N2, p2, C, a2⟩ := set2 ha (by rw [hK.floor]; exact hf) 0 none 0 0
    exact ⟨N1, p1, N2, p2, int_of a2 rfl, sl_of a2 rfl, PcR.bad hp he (Keep.step hK C fun i hi => by omega) hz⟩
  refine w28_1 ⟨fun h => ?_, fun h => ?_⟩
  · obtain ⟨N1, p1, N2, p2, g1, g2, hQ⟩ := out K a0 (e := 4) (z := 4) rfl (by decide) (by rw [pcS_cons, if_pos (hfl.1 h)])
    exact ⟨_, rfl, _, p1, _, p2, _, rfl, _, g1, _, g2, hQ⟩
  have hx : ¬ (x ≠ 16 ∧ x ≠ 32 ∧ x ≠ 48) := fun hh => by rw [hfl.2 hh] at h; cases h
  have hpl : p < b.length := by
    rcases Nat.lt_or_ge p b.length with h | h
    · exact h
    · rw [List.drop_of_length_le h] at hd; cases hd
  have hd1 : b.drop (p + 1) = r := by
    rw [show p + 1 = p + 1 from rfl, ← List.drop_drop, hd]; rfl
  have hxp : b[p]? = some x := by
    have := congrArg (fun l => l[0]?) hd
    simpa using this
  have hl : r.length + (p + 1) = n := by rw [← hd1, List.length_drop]; omega
  have hRow := hA.keep K
  have e1z : IntKind.i64.wrap ((p : Int) + 1) = ((p + 1 : Nat) : Int) := by rw [i64w (by omega)]; omega
  have e6z : IntKind.i64.wrap ((p : Int) + 6) = ((p + 6 : Nat) : Int) := by rw [i64w (by omega)]; omega
  have hh6 : (if (n : Int) < ((p + 6 : Nat) : Int) then (n : Int) else ((p + 6 : Nat) : Int)) = ((min n (p + 6) : Nat) : Int) := by split <;> omega
  rw [e1z, e6z, hh6]
  obtain ⟨A1, s1, s2, s3, s4⟩ := slice_row el5 hRow (n := n) (c := c) (l := p + 1) (h := min n (p + 6)) (by simp [hn]) hc hA0 (lo := some (.int .i64 ((p + 1 : Nat) : Int))) (hi := some (.int .i64 (min n (p + 6) : Nat)))
    (bound_lo rfl (show p + 1 ≤ min n (p + 6) by omega)) (bound_lo rfl (show min n (p + 6) ≤ c by omega)) (by omega) (by omega)
  have e1 : ((U8 b).drop ((p + 1) * 1)).take ((min n (p + 6) - (p + 1)) * 1) = U8 (r.take 5) := by
    rw [Nat.mul_one, Nat.mul_one, ← List.map_drop, hd1, ← List.map_take]
    congr 1
    rcases Nat.lt_or_ge r.length 5 with h5 | h5
    · rw [List.take_of_length_le (by omega), List.take_of_length_le (by omega)]
    · rw [show min n (p + 6) - (p + 1) = 5 by omega]
  rw [e1] at s2
  have h5len : (r.take 5).length = min n (p + 6) - (p + 1) := by rw [List.length_take]; omega
  have hBr : Byt r := fun y hy => hB y (by rw [← hd1] at hy; exact List.mem_of_mem_drop hy)
  refine ⟨_, s1, _, rfl, Cn.mono (c42 (n := min n (p + 6) - (p + 1)) (by rw [K.floor]; exact Nat.le_trans hf K.size) s2 h5len.symm (by omega) fun y hy => hBr y (List.mem_of_mem_take hy)) ?_⟩
  rintro v N ⟨j1, rfl, K1, hj, hj', hR⟩
  have K1' := K.trans K1
  refine ⟨_, rfl, Cn.mono (c43 hR (fun y hy => hBr y (List.mem_of_mem_take hy)) (by rw [K1'.floor]; exact Nat.le_trans hf (Nat.le_trans K.size hj))) ?_⟩
  rintro v2 N2 ⟨rfl, C2, hsz, hR2⟩
  have hpos := hR2.pos
  rw [rLeb0] at hR2 hpos ⊢
  have hlt := lt_of_at a0
  have K2 : Keep M0 N2 := Keep.step K1' C2 fun i hi => by have := K.size; omega
  have a2 : N2.nb[M0.nb.size]? = some (ObB k0 none 0 0) := at_chg (at_keep a0 K1) C2 (by omega)
  have hp := pcS_cons x r
  rw [if_neg hx] at hp
  generalize lebL (r.take 5) 0 0 = q at hR2 hpos hp ⊢
  obtain ⟨q1, q2, q3⟩ := q
  dsimp only at hR2 hpos hp ⊢
  refine ⟨_, rfl, _, rfl, _, rfl, fun hne => ?_, fun h0 => ?_⟩
  · have hne' : q2 ≠ 0 := fun e => hne (by show ((q2 : Nat) : Int) = 0; omega)
    obtain ⟨N3, p1, N4, p2, g1, g2, hQ⟩ := out K2 a2 (e := q2) (z := (q2 : Nat)) rfl hne' (by rw [hp, if_pos hne'])
    exact ⟨_, rfl, _, p1, _, p2, _, rfl, _, g1, _, g2, hQ⟩
  have h0' : q2 = 0 := by have h0 : ((q2 : Nat) : Int) = 0 := h0; omega
  rw [if_neg (by omega)] at hp
  refine ⟨fun hgt => ?_, fun hle => ?_⟩
  · have hgt : ((q1 : Nat) : Int) > 16777216 := hgt
    obtain ⟨N3, p1, N4, p2, g1, g2, hQ⟩ := out K2 a2 (e := 5) (z := 5) rfl (by decide) (by rw [hp, if_pos (by omega)])
    exact ⟨_, rfl, _, p1, _, p2, _, rfl, _, g1, _, g2, hQ⟩
  have hle : ¬ ((q1 : Nat) : Int) > 16777216 := hle
  rw [if_neg (by omega)] at hp
  have hRow2 := hA.keep K2
  have ed : IntKind.i64.wrap (IntKind.i64.wrap (((p + 1 : Nat) : Int) + ((min n (p + 6) - (p + 1) : Nat) : Int)) - IntKind.i64.wrap (((8 * (r.take 5).length - 8 * q3 : Nat) : Int).tdiv 8)) = ((p + 1 + q3 : Nat) : Int) := by
    rw [i64w (x := ((p + 1 : Nat) : Int) + ((min n (p + 6) - (p + 1) : Nat) : Int)) (by omega), show ((8 : Int)) = ((8 : Nat) : Int) from rfl, tdivN, i64w (x := (((8 * (r.take 5).length - 8 * q3) / 8 : Nat) : Int)) (by omega), i64w (by omega)]
    omega
  have ez : IntKind.i64.wrap ((q1 : Nat) : Int) = ((q1 : Nat) : Int) := i64w (by omega)
  have en : IntKind.i64.wrap ((n : Int) - ((p + 1 + q3 : Nat) : Int)) = ((n - (p + 1 + q3) : Nat) : Int) := by rw [i64w (by omega)]; omega
  have hlen2 : (r.drop q3).length = n - (p + 1 + q3) := by rw [List.length_drop]; omega
  refine Cn.eq (c44 hR2) ⟨_, rfl, ?_⟩
  rw [ed, ez, en]
  refine ⟨fun hgt => ?_, fun hle2 => ?_⟩
  · obtain ⟨N3, p1, N4, p2, g1, g2, hQ⟩ := out K2 a2 (e := 3) (z := 3) rfl (by decide) (by rw [hp, if_pos (by omega)])
    exact ⟨_, rfl, _, p1, _, p2, _, rfl, _, g1, _, g2, hQ⟩
  rw [if_neg (by omega)] at hp
  have ee : IntKind.i64.wrap (((p + 1 + q3 : Nat) : Int) + ((q1 : Nat) : Int)) = ((p + 1 + q3 + q1 : Nat) : Int) := by rw [i64w (by omega)]; omega
  rw [ee]
  obtain ⟨a, i1, i2⟩ := hRow2.int1 (n := n) (i := p) (z := p) (k := .u8) (x := (x : Nat)) rfl (by omega) (by rw [List.getElem?_map, hxp]; rfl)
  obtain ⟨A2, t1, t2, t3, t4⟩ := slice_row el5 hRow2 (n := n) (c := c) (l := p + 1 + q3) (h := p + 1 + q3 + q1) (by simp [hn]) hc hA0 (lo := some (.int .i64 ((p + 1 + q3 : Nat) : Int))) (hi := some (.int .i64 ((p + 1 + q3 + q1 : Nat) : Int))) (bound_lo rfl (by omega)) (bound_lo rfl (by omega)) (by omega) (by omega)
  have e3 : ((U8 b).drop ((p + 1 + q3) * 1)).take ((p + 1 + q3 + q1 - (p + 1 + q3)) * 1) = U8 ((r.drop q3).take q1) := by
    rw [Nat.mul_one, Nat.mul_one, ← List.map_drop, ← List.map_take, show p + 1 + q3 + q1 - (p + 1 + q3) = q1 by omega, ← hd1, List.drop_drop]
  rw [e3] at t2
  have hlen3 : ((r.drop q3).take q1).length = q1 := by rw [List.length_take]; omega
  refine ⟨_, i1, _, i2, _, t1, _, rfl, ?_⟩
  refine Cn.mono (c10 (M := { N2 with floor := N2.nb.size }) (n := p + 1 + q3 + q1 - (p + 1 + q3)) (Nat.le_refl _) t2 (by omega) (by omega)) ?_
  rintro v3 N3 ⟨A4, c4, rfl, K3f, hO, hc4⟩
  have K3 : Keep N2 { N3 with floor := N2.floor } := chg_fl K3f
  have K3' := K2.trans K3
  have a3 := at_keep a2 K3
  have hO3 : Own (fun i => N2.nb.size ≤ i) { N3 with floor := N2.floor } 5 A4 c4 (U8 ((r.drop q3).take q1)) := hO
  have ew : IntKind.i64.wrap (IntKind.u8.wrap ((x : Int).tdiv 16)) = ((x / 16 : Nat) : Int) := by
    have hx8 : x < 256 := hB x (List.mem_of_getElem? hxp)
    rw [show ((16 : Int)) = ((16 : Nat) : Int) from rfl, tdivN, u8w (by omega), i64w (by omega)]
  obtain ⟨N5, p5, N6, p6, C6, a6⟩ := set2 a3 (by rw [K3'.floor]; exact hf) ((x / 16 : Nat) : Int) A4 (p + 1 + q3 + q1 - (p + 1 + q3)) c4
  refine ⟨_, rfl, _, rfl, ?_⟩
  rw [ew]
  refine ⟨_, p5, _, p6, _, rfl, _, int_of a6 rfl, _, sl_of a6 rfl, ?_⟩
  unfold PcR
  rw [hp]
  refine ⟨A4, c4, p + 1 + q3 + q1, ?_, by simp; omega, Keep.step K3' C6 fun i hi => by omega, ?_⟩
  · simp only [hlen3, show p + 1 + q3 + q1 - (p + 1 + q3) = q1 by omega]; rfl
  · exact (hO3.chg C6 fun i hi hs => by have := lt_of_at a2; omega).mono fun i _ hi => Nat.le_trans K2.size hi
theorem c28 {M : Mem} (hf : M.floor ≤ M.nb.size) (hA : Row M A (U8 b)) (hn : n = b.length) (hb : n ≤ 4398046511104) (hc : n ≤ c) (hA0 : A = none → c = 0) (hB : Byt b) (hp : p ≤ 4398046511104) :
    Cn Try.prog 28 #[.slice A n c, .int .i64 (p : Nat)] M (PcR M (b.drop p) p) := by
  have K : Keep M (M.new (ObB 0 none 0 0)) := .new _ _
  have a0 := Mem.new_at M (ObB 0 none 0 0)
  rcases Nat.lt_or_ge p b.length with hlt | hge
  · obtain ⟨a, i1, i2⟩ := (hA.keep K).int1 (n := n) (i := p) (z := p) (k := .u8) (x := (b[p] : Nat)) rfl (by omega) (by simp [hlt])
    have hx : b[p] < 256 := hB _ (List.getElem_mem _)
    have hd := List.drop_eq_getElem_cons hlt
    have fin : ∀ fl : Bool, (fl = true ↔ (b[p] ≠ 16 ∧ b[p] ≠ 32 ∧ b[p] ≠ 48)) → A28_1 A n c p (some ⟨2 * M.nb.size, 0, none⟩) fl (M.new (ObB 0 none 0 0)) (PcR M (b.drop p) p) := fun fl h => by
      have := c28_in hf hA hd hn hb hc hA0 hB K a0 h
      rw [hd]; exact this
    refine w28_0 ⟨fun h => by omega, fun _ => ⟨_, i1, _, i2, fun h16 => ⟨_, i1, _, i2, fun h32 => ⟨_, i1, _, i2, fin _ ?_⟩, fun h32 => fin _ ?_⟩, fun h16 => fin _ ?_⟩⟩
    · simp; omega
    · simp; omega
    · simp; omega
  · obtain ⟨N1, p1, N2, p2, C, a2⟩ := set2 a0 hf 0 none 0 0
    have e : pcS (b.drop p) = (0, [], 0, 3) := by rw [List.drop_of_length_le hge]; rfl
    exact w28_0 ⟨fun _ => ⟨_, p1, _, p2, _, int_of a2 rfl, _, sl_of a2 rfl, PcR.bad (e := 3) e (by decide) (Keep.step K C fun i hi => by omega) rfl⟩, fun h => absurd (show (p : Int) ≥ n by omega) h⟩
end
end Go.Zt
