/- Layer 17: law4, GridOnce: the loop over blocks, the telling at the end. -/
import Derived.Test.YtamlmpeiamkllaaZoC
set_option linter.unusedSimpArgs false
set_option linter.unusedVariables false
set_option maxRecDepth 100000
namespace Go.Zt
open Go Go.Sim Go.Proofs Go.RowKit

theorem shl8 : ∀ n : Nat, n < 4 → IntKind.i64.wrap (8 * 2 ^ min n IntKind.i64.bits) = 8 * ((2 ^ n : Nat) : Int)
  | 0, _ => by kernel_rfl
  | 1, _ => by kernel_rfl
  | 2, _ => by kernel_rfl
  | 3, _ => by kernel_rfl
theorem side_pow : ∀ n : Nat, n < 4 → side8 (2 ^ n)
  | 0, _ => .inl rfl
  | 1, _ => .inr (.inl rfl)
  | 2, _ => .inr (.inr (.inl rfl))
  | 3, _ => .inr (.inr (.inr rfl))
theorem tl_same {M : Mem} {j : Nat} {t : Tl} (a : M.nb[j]? = some (.cells (tlc t) 35)) : sameB M M (2 * j) = true :=
  sameB_at a a (by simp only [eqVs, eqV_int, eqV_bool, eqV_sl, eqV_map, Bool.and_true])
section
variable {M : Mem} {Ax A8 : Option Addr} {lx cx1 c8 jt jg jm jo : Nat} {t : Tl} {tw th : Nat} {o : Nat → Nat} {L l : List Bk}
def W2 (jt jo : Nat) : Nat → Prop := fun i => i = jt ∨ i = jo
abbrev QT : Value → Mem → Prop := fun v _ => v = .bool true
/-- What is told of a cell. -/
theorem e4_6 (T : Tb t tw th) (hL : L.length ≤ 100) {yi : Nat} (hy : yi < th) :
    ∀ (q xi : Nat) {M : Mem}, xi + q = tw → St (W2 jt jo) M jg jm t L L A8 c8 Ax l → M.nb[jt]? = some (.cells (tlc t) 35) → M.nb[jo]? = some (.cells (oc o) 46) → Ow t L o →
      (∀ N, Keep M N → A4_4 (PO jt) (PO jg) (PO jo) A8 L.length c8 ((yi + 1 : Nat) : Int) N QT) →
      A4_6 (PO jt) (PO jg) (PO jo) A8 L.length c8 (yi : Int) (xi : Int) M QT
  | 0, xi, M, hq, S, tl, oa, O, next => by
    have hb := T.b
    refine w4_6 (ad rfl (on (int_of (i := 0 + 2) tl rfl) ?_))
    rw [td8 tw T.w (by omega)]
    refine cF (decide_eq_false (by omega)) ?_
    rw [i64w (x := (yi : Int) + 1) (by omega)]
    exact next M (.refl _)
  | q + 1, xi, M, hq, S, tl, oa, O, next => by
    have hb := T.b
    obtain ⟨V, U, G, PO', h1, h2⟩ := S.ex
    refine w4_6 (ad rfl (on (int_of (i := 0 + 2) tl rfl) ?_))
    rw [td8 tw T.w (by omega)]
    refine cT (decide_eq_true (by omega)) (ad rfl (on (int_of (i := 0) tl rfl) (ad rfl (on (int_of (i := 0 + 1) tl rfl) ?_))))
    have eu : ((xi : Int) + (yi : Int)).tmod 8 = ((xi : Int) + (yi : Int)) % 8 := Int.tmod_eq_emod_of_nonneg (by omega)
    have ev : ((yi : Nat) : Int).tmod 8 = (yi : Int) % 8 := Int.tmod_eq_emod_of_nonneg (by omega)
    rw [i64w (x := (xi : Int) + (yi : Int)) (by omega), eu, ev, i64w (x := 8 * (xi : Int)) (by omega), i64w (x := 8 * (yi : Int)) (by omega), i64w (x := t.x + 8 * (xi : Int)) (by omega), i64w (x := t.y + 8 * (yi : Int)) (by omega), i64w (x := t.x + 8 * (xi : Int) + ((xi : Int) + (yi : Int)) % 8) (by omega), i64w (x := t.y + 8 * (yi : Int) + (yi : Int) % 8) (by omega)]
    have ic := at_cell (L := L) (t := t) (y := yi) (x := xi) (u := ((xi : Int) + (yi : Int)) % 8) (v := (yi : Int) % 8) T.may G.ok (by omega) (by omega)
    have ho := O yi xi (by omega) (by omega)
    refine Cn.mono (c14 S.hf G (by unfold i64R; omega) (by unfold i64R; omega)) ?_
    rintro _ N ⟨rfl, K⟩
    have f1 := fb S.hf K
    have SN := S.chg K fun i q => q.elim
    have fin : ∀ {N' : Mem}, Keep M N' → A4_8 (PO jt) (PO jg) (PO jo) A8 L.length c8 (yi : Int) (xi : Int) false N' QT := by
      intro N' K'
      refine w4_8 (cF rfl ?_)
      rw [i64w (x := (xi : Int) + 1) (by omega)]
      exact e4_6 T hL hy q (xi + 1) (by omega) (S.chg K' fun i q => q.elim) (at_keep tl K') (at_keep oa K') O fun N2 K2 => next N2 (K'.trans K2)
    unfold own at ho
    rw [← ic] at ho
    cases hi : idxS (t.x + 8 * (xi : Int) + ((xi : Int) + (yi : Int)) % 8) (t.y + 8 * (yi : Int) + (yi : Int) % 8) L with
    | none =>
      rw [hi] at ho
      rw [idx_none hi]
      refine ty rfl (ty rfl (ac0 rfl (ty rfl (ty rfl (ac0 rfl (stN (cs := zB.cs) f1 rfl rfl rfl fun M2 K2 z2 b2 => ?_))))))
      have T2 := K.trans K2
      refine ix (ix16 (i := yi) rfl (by omega)) (ix (ix16 (i := xi) rfl (by omega)) (on (int_of (i := 0 + yi * 16 + xi * 1) (at_keep oa T2) (oc_at (by omega))) ?_))
      rw [show 0 + yi * 16 + xi * 1 = 16 * yi + xi by omega, ho]
      exact cF rfl (cF rfl (fin T2))
    | some m =>
      rw [hi] at ho
      obtain ⟨hm, hat⟩ := idx_some hi
      rw [hat]
      refine ty rfl (ty rfl (ac0 rfl (ty rfl (ty rfl (ac0 rfl (stN (cs := L[m].cs) f1 rfl rfl rfl fun M2 K2 z2 b2 => ?_))))))
      have T2 := K.trans K2
      have oa2 := at_keep oa T2
      have hv : (oc o)[0 + yi * 16 + xi * 1]? = some (.int .i64 ((m + 1 : Nat) : Int)) := by
        rw [oc_at (by omega), show 0 + yi * 16 + xi * 1 = 16 * yi + xi by omega, ho]
      refine ix (ix16 (i := yi) rfl (by omega)) (ix (ix16 (i := xi) rfl (by omega)) (on (int_of (i := 0 + yi * 16 + xi * 1) oa2 hv) ?_))
      rw [decide_eq_true (show ((m + 1 : Nat) : Int) > 0 by omega)]
      refine cF rfl (cT rfl (ldA b2 rfl (ix (ix16 (i := yi) rfl (by omega)) (ix (ix16 (i := xi) rfl (by omega)) (on (int_of (i := 0 + yi * 16 + xi * 1) oa2 hv) ?_)))))
      rw [i64w (x := ((m + 1 : Nat) : Int) - 1) (by omega)]
      refine ixldR (PO'.row.keep T2) (i := m) (by omega) hm (List.getElem?_eq_getElem hm) rfl (pu (ne27 _) (ty rfl (fin T2)))
/-- What is told of all cells. -/
theorem e4_4 (T : Tb t tw th) (hL : L.length ≤ 100) :
    ∀ (q yi : Nat) {M : Mem}, yi + q = th → St (W2 jt jo) M jg jm t L L A8 c8 Ax l → M.nb[jt]? = some (.cells (tlc t) 35) → M.nb[jo]? = some (.cells (oc o) 46) → Ow t L o →
      A4_4 (PO jt) (PO jg) (PO jo) A8 L.length c8 (yi : Int) M QT
  | q + 1, yi, M, hq, S, tl, oa, O => by
    have hb := T.b
    refine w4_4 (ad rfl (on (int_of (i := 0 + 3) tl rfl) ?_))
    rw [td8 th T.h (by omega)]
    exact cT (decide_eq_true (by omega)) (e4_6 T hL (by omega) tw 0 (by omega) S tl oa O fun N K => e4_4 T hL q (yi + 1) (by omega) (S.chg K fun i q => q.elim) (at_keep tl K) (at_keep oa K) O)
  | 0, yi, M, hq, S, tl, oa, O => by
    have hb := T.b
    have hw := T.w
    have hh := T.h
    obtain ⟨V, U, G, PO', h1, h2⟩ := S.ex
    refine w4_4 (ad rfl (on (int_of (i := 0 + 3) tl rfl) ?_))
    rw [td8 th T.h (by omega)]
    refine cF (decide_eq_false (by omega)) (ad rfl (on (int_of (i := 0) tl rfl) (ad rfl (on (int_of (i := 0 + 2) tl rfl) (ad rfl (on (int_of (i := 0 + 1) tl rfl) ?_))))))
    rw [i64w (x := t.x + t.w) (by omega)]
    refine Cn.mono (c14 S.hf G (by unfold i64R; omega) (by unfold i64R; omega)) ?_
    rintro _ N ⟨rfl, K⟩
    rw [atS_in G.ok (show t.in (t.x + t.w) t.y = false by unfold Tl.in; exact decide_eq_false (by omega))]
    refine ty rfl (ty rfl (ac0 rfl (ty rfl (ty rfl (ac0 rfl (stN (cs := zB.cs) (fb S.hf K) rfl rfl rfl fun M2 K2 z2 b2 => cT rfl ?_))))))
    have T2 := K.trans K2
    refine Cn.mono (c15 (fb S.hf T2) (G.keep T2)) ?_
    rintro _ N3 ⟨A', c', rfl, _⟩
    refine ty rfl ?_
    show Value.bool _ = Value.bool true
    simp
set_option maxHeartbeats 1000000 in
/-- All blocks. -/
theorem e4_1 (T : Tb t tw th) (hlx : lx = l.length) (ne : jo ≠ jt) :
    ∀ (q i : Nat) {M : Mem} {L : List Bk} {A8 : Option Addr} {c8 : Nat} {o : Nat → Nat}, i + q = min l.length 60 → L.length ≤ i → St (W2 jt jo) M jg jm t L L A8 c8 Ax l → M.nb[jt]? = some (.cells (tlc t) 35) → M.nb[jo]? = some (.cells (oc o) 46) → Ow t L o →
      A4_1 Ax lx cx1 (PO jt) (PO jg) (PO jo) A8 L.length c8 (i : Int) M QT
  | 0, i, M, L, A8, c8, o, hq, hL, S, tl, oa, O => by
    refine w4_1 (cA (fun z => A4_2 Ax lx cx1 (PO jt) (PO jg) (PO jo) A8 L.length c8 (i : Int) z M QT) ?_)
    rw [show (decide ((i : Int) < (lx : Int)) && decide ((i : Int) < 60)) = false by
      rw [Bool.and_eq_false_iff, decide_eq_false_iff_not, decide_eq_false_iff_not]; omega]
    exact w4_2 (cF rfl (e4_4 T (by omega) th 0 (by omega) S tl oa O))
  | q + 1, i, M, L, A8, c8, o, hq, hL, S, tl, oa, O => by
    have hT := T.b
    refine w4_1 (cA (fun z => A4_2 Ax lx cx1 (PO jt) (PO jg) (PO jo) A8 L.length c8 (i : Int) z M QT) ?_)
    rw [show (decide ((i : Int) < (lx : Int)) && decide ((i : Int) < 60)) = true by
      rw [Bool.and_eq_true, decide_eq_true_eq, decide_eq_true_eq]; omega]
    have hi : i < l.length := by omega
    have lt := lt_of_at tl
    have lo := lt_of_at oa
    obtain ⟨bx0, bx1⟩ := bring_lt l[i].x (show (0 : Int) < 18 by decide)
    obtain ⟨by0, by1⟩ := bring_lt l[i].y (show (0 : Int) < 18 by decide)
    obtain ⟨bw0, bw1⟩ := bring_lt l[i].w (show (0 : Int) < 4 by decide)
    obtain ⟨bh0, bh1⟩ := bring_lt l[i].h (show (0 : Int) < 4 by decide)
    obtain ⟨px, ex⟩ := Int.eq_ofNat_of_zero_le bx0
    obtain ⟨py, ey⟩ := Int.eq_ofNat_of_zero_le by0
    obtain ⟨pw, ew⟩ := Int.eq_ofNat_of_zero_le bw0
    obtain ⟨ph, eh⟩ := Int.eq_ofNat_of_zero_le bh0
    have hpw : 2 ^ pw ≤ 8 := by rcases side_pow pw (by omega) with h | h | h | h <;> omega
    have hph : 2 ^ ph ≤ 8 := by rcases side_pow ph (by omega) with h | h | h | h <;> omega
    refine w4_2 (cT rfl (ixldR S.row (i := i) rfl (by omega) (List.getElem?_eq_getElem hi) rfl (stN (cs := l[i].cs) S.hf rfl rfl rfl fun M1 K1 z1 b1 => ?_)))
    have f1 := fb S.hf K1
    have fj : M1.floor ≤ M.nb.size := by rw [K1.floor]; exact S.hf
    have tl1 := at_keep tl K1
    have oa1 := at_keep oa K1
    refine ad rfl (on (int_of (i := 0) tl1 rfl) (on (int_of (i := 0) b1 rfl) (cT (decide_eq_true f1) (Cn.eq (c13 (by decide) (by decide)) (cT (tl_same tl1) (ty rfl ?_))))))
    rw [ex, i64w (x := 8 * (px : Int)) (by omega), i64w (x := t.x + 8 * (px : Int)) (by omega)]
    obtain ⟨M2, p2, C2, z2, b2⟩ := put1 0 (.int .i64 (t.x + 8 * (px : Int))) b1 fj (show 0 < 23 by decide) rfl
    have tl2 := at_chg tl1 C2 (by omega)
    have fj2 : M2.floor ≤ M.nb.size := by rw [C2.floor]; exact fj
    refine pt p2 (ad rfl (on (int_of (i := 0 + 1) tl2 rfl) (on (int_of (x := l[i].y) (i := 0 + 1) b2 rfl) (cT (decide_eq_true (by omega)) (Cn.eq (c13 (by decide) (by decide)) (cT (tl_same tl2) (ty rfl ?_)))))))
    rw [ey, i64w (x := 8 * (py : Int)) (by omega), i64w (x := t.y + 8 * (py : Int)) (by omega)]
    obtain ⟨M3, p3, C3, z3, b3⟩ := put1 (0 + 1) (.int .i64 (t.y + 8 * (py : Int))) b2 fj2 (show 1 < 23 by decide) rfl
    have fj3 : M3.floor ≤ M.nb.size := by rw [C3.floor]; exact fj2
    refine pt p3 (on (int_of (x := l[i].w) (i := 0 + 2) b3 rfl) (Cn.eq (c13 (by decide) (by decide)) (ty rfl ?_)))
    rw [ew]
    refine pu binV_shl (ty rfl ?_)
    rw [shl8 pw (by omega)]
    obtain ⟨M4, p4, C4, z4, b4⟩ := put1 (0 + 2) (.int .i64 (8 * ((2 ^ pw : Nat) : Int))) b3 fj3 (show 2 < 23 by decide) rfl
    have fj4 : M4.floor ≤ M.nb.size := by rw [C4.floor]; exact fj3
    refine pt p4 (on (int_of (x := l[i].h) (i := 0 + 3) b4 rfl) (Cn.eq (c13 (by decide) (by decide)) (ty rfl ?_)))
    rw [eh]
    refine pu binV_shl (ty rfl ?_)
    rw [shl8 ph (by omega)]
    obtain ⟨M5, p5, C5, z5, b5⟩ := put1 (0 + 3) (.int .i64 (8 * ((2 ^ ph : Nat) : Int))) b4 fj4 (show 3 < 23 by decide) rfl
    refine pt p5 ?_
    let b : Bk := { l[i] with x := t.x + 8 * (px : Int), y := t.y + 8 * (py : Int), w := 8 * ((2 ^ pw : Nat) : Int), h := 8 * ((2 ^ ph : Nat) : Int) }
    have b5 : M5.nb[M.nb.size]? = some (.cells b.cs 27) := b5
    have K5 : Keep M M5 := Keep.step K1 (((C2.trans C3).trans C4).trans C5) fun i hi => by omega
    have tl5 := at_keep tl K5
    have oa5 := at_keep oa K5
    have hB : Bx t b px py (2 ^ pw) (2 ^ ph) := ⟨rfl, rfl, rfl, rfl, by omega⟩
    have S5 : St (W3 jt jo M.nb.size) M5 jg jm t L L A8 c8 Ax l := (S.grow K5).less fun k hk => by
      rcases hk with rfl | rfl | rfl
      · exact .inl (.inl rfl)
      · exact .inl (.inr rfl)
      · exact .inr ⟨Nat.le_refl _, lt_of_at b5⟩
    have key : A4_3 Ax lx cx1 (PO jt) (PO jg) (PO jo) A8 L.length c8 (i : Int) (PO M.nb.size) (fits t b) M5 QT := by
      refine w4_3 (e4_5 hB b5 tl5 oa5 (2 ^ ph) 0 (by omega) (fun hf => by have := (fits_iff T hB).1 hf; omega) fun z => ?_)
      exact e4_7 T hB (side_pow pw (by omega)) (side_pow ph (by omega)) (by omega) hL S5 ⟨by omega, ne⟩ b5 tl5 oa5 O fun N L' A' c' o' hL' S' tl' oa' O' =>
        e4_1 T hlx ne q (i + 1) (by omega) hL' (S'.less fun k hk => by rcases hk with rfl | rfl; exact .inl rfl; exact .inr (.inl rfl)) tl' oa' O'
    refine on (int_of (x := b.x) (i := 0) b5 rfl) (on (int_of (x := b.w) (i := 0 + 2) b5 rfl) (ad rfl (on (int_of (i := 0) tl5 rfl) (ad rfl (on (int_of (i := 0 + 2) tl5 rfl) ?_)))))
    have tw' := T.w
    have th' := T.h
    have vx : b.x = t.x + 8 * (px : Int) := rfl
    have vy : b.y = t.y + 8 * (py : Int) := rfl
    have vw : b.w = 8 * ((2 ^ pw : Nat) : Int) := rfl
    have vh : b.h = 8 * ((2 ^ ph : Nat) : Int) := rfl
    have nw : 0 ≤ ((2 ^ pw : Nat) : Int) := Int.natCast_nonneg _
    have nh : 0 ≤ ((2 ^ ph : Nat) : Int) := Int.natCast_nonneg _
    rw [i64w (x := b.x + b.w) (by omega), i64w (x := t.x + t.w) (by omega)]
    refine cA3 (fun z => A4_3 Ax lx cx1 (PO jt) (PO jg) (PO jo) A8 L.length c8 (i : Int) (PO M.nb.size) z M5 QT) (decide (b.y + b.h ≤ t.y + t.h)) key fun k => ?_
    refine on (int_of (x := b.y) (i := 0 + 1) b5 rfl) (on (int_of (x := b.h) (i := 0 + 3) b5 rfl) (ad rfl (on (int_of (i := 0 + 1) tl5 rfl) (ad rfl (on (int_of (i := 0 + 3) tl5 rfl) ?_)))))
    rw [i64w (x := b.y + b.h) (by omega), i64w (x := t.y + t.h) (by omega)]
    exact k
end
end Go.Zt
