/- Layer 17: the document's neighbours: two, Skip, Inter. Printed by genI.py. -/
import Derived.Test.YtamlmpeiamkllaaZoF
import Derived.Test.YtamlmpeiamkllaaZpH
set_option linter.unusedSimpArgs false
set_option linter.unusedVariables false
set_option maxRecDepth 100000
namespace Go.Zt
open Go Go.Sim Go.Proofs Go.RowKit

def cn (f : Bk → Bool) : List Bk → Nat
  | [] => 0
  | b :: X => (if f b then 1 else 0) + cn f X
def nbr (L : List Bk) (t : Tl) (x y : Int) : List Bk := if cntOk t x y then (atS (x - 1) y L).toList ++ (atS x (y - 1) L).toList else []
theorem cn_nbr {f : Bk → Bool} {L : List Bk} {t : Tl} {x y : Int} : cntV f L t x y = .tuple #[.int .i64 (cn f (nbr L t x y) : Nat), .int .i64 (if cntOk t x y then 0 else 2)] := by
  unfold cntV nbr cntS
  cases cntOk t x y with
  | false => rfl
  | true =>
    cases atS (x - 1) y L with
    | none =>
      cases atS x (y - 1) L with
      | none => rfl
      | some b => simp [one, cn]
    | some a =>
      cases atS x (y - 1) L with
      | none => simp [one, cn]
      | some b => simp [one, cn]
theorem nbr_len {L : List Bk} {t : Tl} {x y : Int} : (nbr L t x y).length ≤ 2 := by
  unfold nbr
  split
  · cases atS (x - 1) y L <;> cases atS x (y - 1) L <;> simp
  · simp
def TwoP (M : Mem) (L : List Bk) (t : Tl) (x y : Int) : Value → Mem → Prop := fun v N => ∃ A' c', v = .tuple #[.slice A' (nbr L t x y).length c', .int .i64 (if cntOk t x y then 0 else 2)] ∧ Keep M N ∧ Row N A' (Bks (nbr L t x y))
section
variable {V : Nat → Prop} {M : Mem} {j : Nat} {t : Tl} {L : List Bk} {x y : Int}
set_option maxHeartbeats 2000000 in
theorem c43 (hf : M.floor ≤ M.nb.size) (G : Rf V M j t L) : Cn Try.prog 43 #[PtrB j, .int .i64 x, .int .i64 y] M (TwoP M L t x y) := by
  have hm := G.may
  unfold Tl.may spanB at hm
  simp only [Bool.and_eq_true, decide_eq_true_eq] at hm
  obtain ⟨A, c, g1, _⟩ := G.ex
  have bad : cntOk t x y = false → A43_1 (some ⟨2 * j, 0, none⟩) x y true M (TwoP M L t x y) := fun h => w43_1 (cT rfl ⟨none, 0, by unfold nbr; rw [h]; rfl, .refl _, by unfold nbr; rw [h]; exact .nil⟩)
  have t8 : ∀ z : Int, z.tmod 8 = 0 ↔ z % 8 = 0 := fun z => tmod_eq (a := z) 8 (by decide)
  refine w43_0 (cne (fun h => bad (by unfold cntOk; rw [decide_eq_false (fun q => h ((t8 x).2 q.1))]; rfl)) fun h1 => cne (fun h => bad (by unfold cntOk; rw [decide_eq_false (fun q => h ((t8 y).2 q.2))]; rfl)) fun h2 => Cn.eq (c35 g1 G.may) (ty rfl ?_))
  cases hin : t.in x y with
  | false => exact bad (by unfold cntOk; rw [hin, Bool.and_false])
  | true =>
    have hok : cntOk t x y = true := by unfold cntOk; rw [hin, decide_eq_true ⟨(t8 x).1 h1, (t8 y).1 h2⟩]; rfl
    have hin' := of_decide_eq_true hin
    have fin : ∀ (X : List Bk) (A' : Option Addr) (c' : Nat) (N : Mem), X = (atS (x - 1) y L).toList ++ (atS x (y - 1) L).toList → Keep M N → Row N A' (Bks X) → TwoP M L t x y (.tuple #[.slice A' X.length c', .int .i64 0]) N := by
      intro X A' c' N hX K R
      have e : nbr L t x y = X := by unfold nbr; rw [if_pos hok, hX]
      unfold TwoP
      rw [e, if_pos hok]
      exact ⟨A', c', rfl, K, R⟩
    refine w43_1 (cF rfl ?_)
    rw [i64w (x := x - 1) (by omega), i64w (x := y - 1) (by omega)]
    refine Cn.mono (c36 hf G) ?_
    rintro _ N1 ⟨rfl, K1⟩
    cases ha : atS (x - 1) y L with
    | none =>
      refine ty rfl (ty rfl (ac0 rfl (ty rfl (ty rfl (ac0 rfl (stN (cs := zB.cs) (fb hf K1) rfl rfl rfl fun M3 K3 z3 b3 => cF rfl ?_))))))
      have T3 := K1.trans K3
      refine Cn.mono (c36 (fb hf T3) (G.keep T3)) ?_
      rintro _ N5 ⟨rfl, K5⟩
      have T5 := T3.trans K5
      cases hb : atS x (y - 1) L with
      | none =>
        refine ty rfl (ty rfl (ac0 rfl (ty rfl (ty rfl (ac0 rfl (stN (cs := zB.cs) (fb hf T5) rfl rfl rfl fun M6 K6 z6 b6 => cF rfl ?_))))))
        have T6 := T5.trans K6
        exact fin [] none 0 M6 (by rw [ha, hb]; rfl) T6 .nil
      | some b =>
        refine ty rfl (ty rfl (ac0 rfl (ty rfl (ty rfl (ac0 rfl (stN (cs := b.cs) (fb hf T5) rfl rfl rfl fun M6 K6 z6 b6 => cT rfl ?_))))))
        have T6 := T5.trans K6
        obtain ⟨A', c', M7, p7, K7, O7, _⟩ := appE elem43 hf T6 (A := none) (n := 0) (c := 0) (L := []) (vs := b.cs.toList) (.inl ⟨rfl, rfl, rfl⟩) rfl rfl rfl (by omega)
        exact on23 (bkAt b6) (me p7 (ty rfl (fin [b] A' c' M7 (by rw [ha, hb]; rfl) K7 (by have := O7.row; simpa [Bks] using this))))
    | some a =>
      refine ty rfl (ty rfl (ac0 rfl (ty rfl (ty rfl (ac0 rfl (stN (cs := a.cs) (fb hf K1) rfl rfl rfl fun M3 K3 z3 b3 => cT rfl ?_))))))
      have T3 := K1.trans K3
      obtain ⟨A', c', M4, p4, K4, O4, _⟩ := appE elem43 hf T3 (A := none) (n := 0) (c := 0) (L := []) (vs := a.cs.toList) (.inl ⟨rfl, rfl, rfl⟩) rfl rfl rfl (by omega)
      refine on23 (bkAt b3) (me p4 (ty rfl ?_))
      refine Cn.mono (c36 (fb hf K4) (G.keep K4)) ?_
      rintro _ N5 ⟨rfl, K5⟩
      have T5 := K4.trans K5
      cases hb : atS x (y - 1) L with
      | none =>
        refine ty rfl (ty rfl (ac0 rfl (ty rfl (ty rfl (ac0 rfl (stN (cs := zB.cs) (fb hf T5) rfl rfl rfl fun M6 K6 z6 b6 => cF rfl ?_))))))
        have T6 := T5.trans K6
        exact fin [a] A' c' M6 (by rw [ha, hb]; rfl) T6 (by have := (O4.row.keep K5).keep K6; simpa [Bks] using this)
      | some b =>
        refine ty rfl (ty rfl (ac0 rfl (ty rfl (ty rfl (ac0 rfl (stN (cs := b.cs) (fb hf T5) rfl rfl rfl fun M6 K6 z6 b6 => cT rfl ?_))))))
        have T6 := T5.trans K6
        obtain ⟨A2, c2, M7, p7, K7, O7, _⟩ := appE elem43 hf T6 (A := A') (n := 1) (c := c') (L := [] ++ a.cs.toList) (vs := b.cs.toList) ((O4.chg K5 fun _ _ _ h => h).chg K6 fun _ _ _ h => h) rfl rfl rfl (by omega)
        exact on23 (bkAt b6) (me p7 (ty rfl (fin [a, b] A2 c2 M7 (by rw [ha, hb]; rfl) K7 (by have := O7.row; simpa [Bks] using this))))
theorem c38 (hf : M.floor ≤ M.nb.size) (G : Rf V M j t L) : Cn Try.prog 38 #[PtrB j, .int .i64 x, .int .i64 y] M fun v N => v = cntV Bk.sk L t x y ∧ Keep M N := by
  refine w38_0 (Cn.mono (c43 hf G) ?_)
  rintro _ N ⟨A, c, rfl, K, R⟩
  refine ty rfl (ty rfl (ty rfl ?_))
  rw [cn_nbr]
  have hl := nbr_len (L := L) (t := t) (x := x) (y := y)
  generalize nbr L t x y = X at R hl ⊢
  generalize (if cntOk t x y = true then (0 : Int) else 2) = e
  have loop : ∀ (q i k : Nat), i + q = X.length → k ≤ i → A38_1 A X.length c e (k : Int) (i : Int) N fun v N => v = .tuple #[.int .i64 ((k + cn Bk.sk (X.drop i) : Nat) : Int), .int .i64 e] ∧ Keep M N := by
    intro q
    induction q with
    | zero =>
      intro i k hi hk
      refine w38_1 (cF (decide_eq_false (by omega)) ⟨?_, K⟩)
      rw [List.drop_of_length_le (by omega)]
      rfl
    | succ q ih =>
      intro i k hi hk
      have h : i < X.length := by omega
      obtain ⟨a, e1, e2⟩ := Row.elt R (s := 23) (n := X.length) (i := i) (z := (i : Int)) rfl h (by decide) (by rw [Bks_len]; omega)
      have eb : N.boolAt a.block (a.off + 4) = some (Bk.sk X[i]) := by
        have h1 : i * 23 + 4 < (Bks X).length := by rw [Bks_len]; omega
        have := e2 4 (by decide)
        have h2 := Bks_at h
        have h3 : (Bks X)[i * 23 + 4]? = X[i].cs.toList[4]? := by rw [← h2, List.getElem?_take_of_lt (by decide), List.getElem?_drop]
        have h4 : (Bks X)[i * 23 + 4]? = some (.bool (Bk.sk X[i])) := h3
        unfold Mem.boolAt
        rw [this, h4]
        rfl
      rw [List.drop_eq_getElem_cons h]
      refine w38_1 (cT (decide_eq_true (by omega)) (ix e1 (on eb ?_)))
      cases hb : Bk.sk X[i] with
      | true =>
        refine cT rfl (w38_2 ?_)
        rw [i64w (x := (k : Int) + 1) (by omega), i64w (x := (i : Int) + 1) (by omega)]
        have := ih (i + 1) (k + 1) (by omega) (by omega)
        have e : k + cn Bk.sk (X[i] :: X.drop (i + 1)) = k + 1 + cn Bk.sk (X.drop (i + 1)) := by simp only [cn, hb, if_true]; omega
        rw [e]
        exact this
      | false =>
        refine cF rfl (w38_2 ?_)
        rw [i64w (x := (i : Int) + 1) (by omega)]
        have := ih (i + 1) k (by omega) (by omega)
        have e : k + cn Bk.sk (X[i] :: X.drop (i + 1)) = k + cn Bk.sk (X.drop (i + 1)) := by simp [cn, hb]
        rw [e]
        exact this
  have := loop X.length 0 0 (by omega) (by omega)
  rw [Nat.zero_add] at this
  exact this
theorem c39 (hf : M.floor ≤ M.nb.size) (G : Rf V M j t L) : Cn Try.prog 39 #[PtrB j, .int .i64 x, .int .i64 y] M fun v N => v = cntV Bk.it L t x y ∧ Keep M N := by
  refine w39_0 (Cn.mono (c43 hf G) ?_)
  rintro _ N ⟨A, c, rfl, K, R⟩
  refine ty rfl (ty rfl (ty rfl ?_))
  rw [cn_nbr]
  have hl := nbr_len (L := L) (t := t) (x := x) (y := y)
  generalize nbr L t x y = X at R hl ⊢
  generalize (if cntOk t x y = true then (0 : Int) else 2) = e
  have loop : ∀ (q i k : Nat), i + q = X.length → k ≤ i → A39_1 A X.length c e (k : Int) (i : Int) N fun v N => v = .tuple #[.int .i64 ((k + cn Bk.it (X.drop i) : Nat) : Int), .int .i64 e] ∧ Keep M N := by
    intro q
    induction q with
    | zero =>
      intro i k hi hk
      refine w39_1 (cF (decide_eq_false (by omega)) ⟨?_, K⟩)
      rw [List.drop_of_length_le (by omega)]
      rfl
    | succ q ih =>
      intro i k hi hk
      have h : i < X.length := by omega
      obtain ⟨a, e1, e2⟩ := Row.elt R (s := 23) (n := X.length) (i := i) (z := (i : Int)) rfl h (by decide) (by rw [Bks_len]; omega)
      have eb : N.boolAt a.block (a.off + 5) = some (Bk.it X[i]) := by
        have h1 : i * 23 + 5 < (Bks X).length := by rw [Bks_len]; omega
        have := e2 5 (by decide)
        have h2 := Bks_at h
        have h3 : (Bks X)[i * 23 + 5]? = X[i].cs.toList[5]? := by rw [← h2, List.getElem?_take_of_lt (by decide), List.getElem?_drop]
        have h4 : (Bks X)[i * 23 + 5]? = some (.bool (Bk.it X[i])) := h3
        unfold Mem.boolAt
        rw [this, h4]
        rfl
      rw [List.drop_eq_getElem_cons h]
      refine w39_1 (cT (decide_eq_true (by omega)) (ix e1 (on eb ?_)))
      cases hb : Bk.it X[i] with
      | true =>
        refine cT rfl (w39_2 ?_)
        rw [i64w (x := (k : Int) + 1) (by omega), i64w (x := (i : Int) + 1) (by omega)]
        have := ih (i + 1) (k + 1) (by omega) (by omega)
        have e : k + cn Bk.it (X[i] :: X.drop (i + 1)) = k + 1 + cn Bk.it (X.drop (i + 1)) := by simp only [cn, hb, if_true]; omega
        rw [e]
        exact this
      | false =>
        refine cF rfl (w39_2 ?_)
        rw [i64w (x := (i : Int) + 1) (by omega)]
        have := ih (i + 1) k (by omega) (by omega)
        have e : k + cn Bk.it (X[i] :: X.drop (i + 1)) = k + cn Bk.it (X.drop (i + 1)) := by simp [cn, hb]
        rw [e]
        exact this
  have := loop X.length 0 0 (by omega) (by omega)
  rw [Nat.zero_add] at this
  exact this
end
end Go.Zt
