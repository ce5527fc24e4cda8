/- Layer 17: Part, of the program and of the document. Printed by genH.py. -/
import Derived.Test.YtamlmpeiamkllaaZoG
import Derived.Test.YtamlmpeiamkllaaZpD
set_option linter.unusedSimpArgs false
set_option linter.unusedVariables false
set_option maxRecDepth 100000
namespace Go.Zt
open Go Go.Sim Go.Proofs Go.RowKit

def pA (f : Bk → Int) (o : Option Bk) (s : Int) (n : Nat) : Nat := match o with | some b => if f b < s then n else 0 | none => 0
def partN (L : List Bk) (x y s : Int) : Nat := pA Bk.w (atS x (y - 1) L) s 1 + pA Bk.h (atS (x - 1) y L) s 2
def partOk (t : Tl) (x y s : Int) : Bool := decide ((s = 64 ∨ s = 32 ∨ s = 16) ∧ x % s = 0 ∧ y % s = 0) && t.in x y
def partV (L : List Bk) (t : Tl) (x y s : Int) : Value := if partOk t x y s then .tuple #[.int .i64 (partN L x y s : Nat), .int .i64 0] else .tuple #[.int .i64 0, .int .i64 2]
section
variable {V : Nat → Prop} {M : Mem} {j jm : Nat} {t : Tl} {L : List Bk} {x y s : Int}
set_option maxHeartbeats 1000000 in
theorem c21 (hf : M.floor ≤ M.nb.size) (G : Gr V M j jm t L) (hx : i64R x) (hy : i64R y) : Cn Try.prog 21 #[PtrB j, .int .i64 x, .int .i64 y, .int .i64 s] M fun v N => v = partV L t x y s ∧ Keep M N := by
  have hm := G.may
  unfold Tl.may spanB at hm
  simp only [Bool.and_eq_true, decide_eq_true_eq] at hm
  obtain ⟨A, c, es, q, g1, _⟩ := G.ex
  have b5 : partOk t x y s = false → A21_5 (some ⟨2 * j, 0, none⟩) x y s true M (fun v N => v = partV L t x y s ∧ Keep M N) := fun h => w21_5 (cT rfl ⟨by unfold partV; rw [h]; rfl, .refl _⟩)
  have b4 : partOk t x y s = false → A21_4 (some ⟨2 * j, 0, none⟩) x y s true M (fun v N => v = partV L t x y s ∧ Keep M N) := fun h => w21_4 (cT rfl (b5 h))
  have b3 : partOk t x y s = false → A21_3 (some ⟨2 * j, 0, none⟩) x y s true M (fun v N => v = partV L t x y s ∧ Keep M N) := fun h => w21_3 (cT rfl (b4 h))
  have k7 : ∀ (n m : Nat) (z : Bool) (N : Mem), Keep M N → n ≤ 1 → partOk t x y s = true → pA Bk.w (atS x (y - 1) L) s 1 = n → pA Bk.h (atS (x - 1) y L) s 2 = (if z then 2 else 0) → A21_7 (n : Int) z N (fun v N => v = partV L t x y s ∧ Keep M N) := by
    intro n m z N K hn hok h1 h2
    refine w21_7 ?_
    have e : partV L t x y s = .tuple #[.int .i64 ((n + (if z then 2 else 0) : Nat) : Int), .int .i64 0] := by unfold partV partN; rw [hok, h1, h2]; rfl
    cases z with
    | true =>
      refine cT rfl ⟨?_, K⟩
      rw [e, i64w (x := (n : Int) + 2) (by omega)]
      rfl
    | false =>
      refine cF rfl ⟨?_, K⟩
      rw [e]
      rfl
  have k6 : ∀ (z : Bool) (N : Mem), Keep M N → partOk t x y s = true → t.in x y = true → pA Bk.w (atS x (y - 1) L) s 1 = (if z then 1 else 0) → A21_6 (some ⟨2 * j, 0, none⟩) x y s 0 z N (fun v N => v = partV L t x y s ∧ Keep M N) := by
    intro z N K hok hin h1
    have hin' := of_decide_eq_true hin
    have rx : i64R (x - 1) := by unfold i64R; omega
    cases z with
    | true =>
      refine w21_6 (cT rfl ?_)
      rw [i64w (x := (0 : Int) + 1) (by omega)]
      rw [i64w (x := x - 1) (by omega)]
      refine Cn.mono (c14 (fb hf K) (G.keep K) rx hy) ?_
      rintro _ N1 ⟨rfl, K1⟩
      have T1 := K.trans K1
      cases hat : atS (x - 1) y L with
      | none =>
        refine ty rfl (ty rfl (ac0 rfl (ty rfl (ty rfl (ac0 rfl (stN (cs := zB.cs) (fb hf T1) rfl rfl rfl fun M3 K3 z3 b3 => cF rfl (k7 1 0 false M3 (T1.trans K3) (by decide) hok h1 (by rw [hat]; rfl))))))))
      | some b =>
        refine ty rfl (ty rfl (ac0 rfl (ty rfl (ty rfl (ac0 rfl (stN (cs := b.cs) (fb hf T1) rfl rfl rfl fun M3 K3 z3 b3 => cT rfl (on (int_of (i := 0 + 3) b3 rfl) (k7 1 0 _ M3 (T1.trans K3) (by decide) hok h1 ?_))))))))
        rw [hat]
        show (if b.h < s then 2 else 0) = _
        by_cases hc : b.h < s
        · rw [if_pos hc, decide_eq_true hc]; rfl
        · rw [if_neg hc, decide_eq_false hc]; rfl
    | false =>
      refine w21_6 (cF rfl ?_)
      rw [i64w (x := x - 1) (by omega)]
      refine Cn.mono (c14 (fb hf K) (G.keep K) rx hy) ?_
      rintro _ N1 ⟨rfl, K1⟩
      have T1 := K.trans K1
      cases hat : atS (x - 1) y L with
      | none =>
        refine ty rfl (ty rfl (ac0 rfl (ty rfl (ty rfl (ac0 rfl (stN (cs := zB.cs) (fb hf T1) rfl rfl rfl fun M3 K3 z3 b3 => cF rfl (k7 0 0 false M3 (T1.trans K3) (by decide) hok h1 (by rw [hat]; rfl))))))))
      | some b =>
        refine ty rfl (ty rfl (ac0 rfl (ty rfl (ty rfl (ac0 rfl (stN (cs := b.cs) (fb hf T1) rfl rfl rfl fun M3 K3 z3 b3 => cT rfl (on (int_of (i := 0 + 3) b3 rfl) (k7 0 0 _ M3 (T1.trans K3) (by decide) hok h1 ?_))))))))
        rw [hat]
        show (if b.h < s then 2 else 0) = _
        by_cases hc : b.h < s
        · rw [if_pos hc, decide_eq_true hc]; rfl
        · rw [if_neg hc, decide_eq_false hc]; rfl
  have k5 : partOk t x y s = true → t.in x y = true → A21_5 (some ⟨2 * j, 0, none⟩) x y s false M (fun v N => v = partV L t x y s ∧ Keep M N) := by
    intro hok hin
    have hin' := of_decide_eq_true hin
    have ry : i64R (y - 1) := by unfold i64R; omega
    refine w21_5 (cF rfl ?_)
    rw [i64w (x := y - 1) (by omega)]
    refine Cn.mono (c14 hf G hx ry) ?_
    rintro _ N1 ⟨rfl, K1⟩
    cases hat : atS x (y - 1) L with
    | none =>
      refine ty rfl (ty rfl (ac0 rfl (ty rfl (ty rfl (ac0 rfl (stN (cs := zB.cs) (fb hf K1) rfl rfl rfl fun M3 K3 z3 b3 => cF rfl (k6 false M3 (K1.trans K3) hok hin (by rw [hat]; rfl))))))))
    | some b =>
      refine ty rfl (ty rfl (ac0 rfl (ty rfl (ty rfl (ac0 rfl (stN (cs := b.cs) (fb hf K1) rfl rfl rfl fun M3 K3 z3 b3 => cT rfl (on (int_of (i := 0 + 2) b3 rfl) (k6 _ M3 (K1.trans K3) hok hin ?_))))))))
      rw [hat]
      show (if b.w < s then 1 else 0) = _
      by_cases hc : b.w < s
      · rw [if_pos hc, decide_eq_true hc]; rfl
      · rw [if_neg hc, decide_eq_false hc]; rfl
  have k2 : ∀ z : Bool, (z = true ↔ ¬ (s = 64 ∨ s = 32 ∨ s = 16)) → A21_2 (some ⟨2 * j, 0, none⟩) x y s z M (fun v N => v = partV L t x y s ∧ Keep M N) := by
    intro z hz
    cases z with
    | true => exact w21_2 (cT rfl (b3 (by unfold partOk; rw [decide_eq_false (fun q => hz.1 rfl q.1)]; rfl)))
    | false =>
      have hs : s = 64 ∨ s = 32 ∨ s = 16 := Classical.byContradiction fun h => absurd (hz.2 h) (by simp)
      have hs' : ((s.toNat : Nat) : Int) = s := by omega
      have tx : ∀ u : Int, u.tmod s = 0 ↔ u % s = 0 := fun u => by rw [← hs']; exact tmod_eq _ (by omega)
      refine w21_2 (cF rfl (pu (binV_rem (by omega)) (ty rfl ?_)))
      by_cases h1 : x % s = 0
      · rw [show (x.tmod s != 0) = false by rw [(tx x).2 h1]; rfl]
        refine w21_3 (cF rfl (pu (binV_rem (by omega)) (ty rfl ?_)))
        by_cases h2 : y % s = 0
        · rw [show (y.tmod s != 0) = false by rw [(tx y).2 h2]; rfl]
          refine w21_4 (cF rfl (Cn.eq (c26 g1 G.may hx hy) (ty rfl ?_)))
          cases hin : t.in x y with
          | false => exact b5 (by unfold partOk; rw [hin, Bool.and_false])
          | true => exact k5 (by unfold partOk; rw [hin, decide_eq_true ⟨hs, h1, h2⟩]; rfl) hin
        · rw [show (y.tmod s != 0) = true from bne_iff_ne.2 fun h => h2 ((tx y).1 h)]
          exact b4 (by unfold partOk; rw [decide_eq_false (fun q => h2 q.2.2)]; rfl)
      · rw [show (x.tmod s != 0) = true from bne_iff_ne.2 fun h => h1 ((tx x).1 h)]
        exact b3 (by unfold partOk; rw [decide_eq_false (fun q => h1 q.2.1)]; rfl)
  refine w21_0 (Cn.eq (c24 g1) (ty rfl (cF rfl (cA (fun z => A21_1 (some ⟨2 * j, 0, none⟩) x y s z M _) (w21_1 (cA (fun z => A21_2 (some ⟨2 * j, 0, none⟩) x y s z M _) (k2 _ ?_)))))))
  simp only [Bool.and_eq_true, bne_iff_ne, ne_eq]
  omega
set_option maxHeartbeats 1000000 in
theorem c37 (hf : M.floor ≤ M.nb.size) (G : Rf V M j t L) (hx : i64R x) (hy : i64R y) : Cn Try.prog 37 #[PtrB j, .int .i64 x, .int .i64 y, .int .i64 s] M fun v N => v = partV L t x y s ∧ Keep M N := by
  have hm := G.may
  unfold Tl.may spanB at hm
  simp only [Bool.and_eq_true, decide_eq_true_eq] at hm
  obtain ⟨A, c, g1, _⟩ := G.ex
  have b5 : partOk t x y s = false → A37_5 (some ⟨2 * j, 0, none⟩) x y s true M (fun v N => v = partV L t x y s ∧ Keep M N) := fun h => w37_5 (cT rfl ⟨by unfold partV; rw [h]; rfl, .refl _⟩)
  have b4 : partOk t x y s = false → A37_4 (some ⟨2 * j, 0, none⟩) x y s true M (fun v N => v = partV L t x y s ∧ Keep M N) := fun h => w37_4 (cT rfl (b5 h))
  have b3 : partOk t x y s = false → A37_3 (some ⟨2 * j, 0, none⟩) x y s true M (fun v N => v = partV L t x y s ∧ Keep M N) := fun h => w37_3 (cT rfl (b4 h))
  have k7 : ∀ (n m : Nat) (z : Bool) (N : Mem), Keep M N → n ≤ 1 → partOk t x y s = true → pA Bk.w (atS x (y - 1) L) s 1 = n → pA Bk.h (atS (x - 1) y L) s 2 = (if z then 2 else 0) → A37_7 (n : Int) z N (fun v N => v = partV L t x y s ∧ Keep M N) := by
    intro n m z N K hn hok h1 h2
    refine w37_7 ?_
    have e : partV L t x y s = .tuple #[.int .i64 ((n + (if z then 2 else 0) : Nat) : Int), .int .i64 0] := by unfold partV partN; rw [hok, h1, h2]; rfl
    cases z with
    | true =>
      refine cT rfl ⟨?_, K⟩
      rw [e, i64w (x := (n : Int) + 2) (by omega)]
      rfl
    | false =>
      refine cF rfl ⟨?_, K⟩
      rw [e]
      rfl
  have k6 : ∀ (z : Bool) (N : Mem), Keep M N → partOk t x y s = true → t.in x y = true → pA Bk.w (atS x (y - 1) L) s 1 = (if z then 1 else 0) → A37_6 (some ⟨2 * j, 0, none⟩) x y s 0 z N (fun v N => v = partV L t x y s ∧ Keep M N) := by
    intro z N K hok hin h1
    have hin' := of_decide_eq_true hin
    have rx : i64R (x - 1) := by unfold i64R; omega
    cases z with
    | true =>
      refine w37_6 (cT rfl ?_)
      rw [i64w (x := (0 : Int) + 1) (by omega)]
      rw [i64w (x := x - 1) (by omega)]
      refine Cn.mono (c36 (fb hf K) (G.keep K)) ?_
      rintro _ N1 ⟨rfl, K1⟩
      have T1 := K.trans K1
      cases hat : atS (x - 1) y L with
      | none =>
        refine ty rfl (ty rfl (ac0 rfl (ty rfl (ty rfl (ac0 rfl (stN (cs := zB.cs) (fb hf T1) rfl rfl rfl fun M3 K3 z3 b3 => cF rfl (k7 1 0 false M3 (T1.trans K3) (by decide) hok h1 (by rw [hat]; rfl))))))))
      | some b =>
        refine ty rfl (ty rfl (ac0 rfl (ty rfl (ty rfl (ac0 rfl (stN (cs := b.cs) (fb hf T1) rfl rfl rfl fun M3 K3 z3 b3 => cT rfl (on (int_of (i := 0 + 3) b3 rfl) (k7 1 0 _ M3 (T1.trans K3) (by decide) hok h1 ?_))))))))
        rw [hat]
        show (if b.h < s then 2 else 0) = _
        by_cases hc : b.h < s
        · rw [if_pos hc, decide_eq_true hc]; rfl
        · rw [if_neg hc, decide_eq_false hc]; rfl
    | false =>
      refine w37_6 (cF rfl ?_)
      rw [i64w (x := x - 1) (by omega)]
      refine Cn.mono (c36 (fb hf K) (G.keep K)) ?_
      rintro _ N1 ⟨rfl, K1⟩
      have T1 := K.trans K1
      cases hat : atS (x - 1) y L with
      | none =>
        refine ty rfl (ty rfl (ac0 rfl (ty rfl (ty rfl (ac0 rfl (stN (cs := zB.cs) (fb hf T1) rfl rfl rfl fun M3 K3 z3 b3 => cF rfl (k7 0 0 false M3 (T1.trans K3) (by decide) hok h1 (by rw [hat]; rfl))))))))
      | some b =>
        refine ty rfl (ty rfl (ac0 rfl (ty rfl (ty rfl (ac0 rfl (stN (cs := b.cs) (fb hf T1) rfl rfl rfl fun M3 K3 z3 b3 => cT rfl (on (int_of (i := 0 + 3) b3 rfl) (k7 0 0 _ M3 (T1.trans K3) (by decide) hok h1 ?_))))))))
        rw [hat]
        show (if b.h < s then 2 else 0) = _
        by_cases hc : b.h < s
        · rw [if_pos hc, decide_eq_true hc]; rfl
        · rw [if_neg hc, decide_eq_false hc]; rfl
  have k5 : partOk t x y s = true → t.in x y = true → A37_5 (some ⟨2 * j, 0, none⟩) x y s false M (fun v N => v = partV L t x y s ∧ Keep M N) := by
    intro hok hin
    have hin' := of_decide_eq_true hin
    have ry : i64R (y - 1) := by unfold i64R; omega
    refine w37_5 (cF rfl ?_)
    rw [i64w (x := y - 1) (by omega)]
    refine Cn.mono (c36 hf G) ?_
    rintro _ N1 ⟨rfl, K1⟩
    cases hat : atS x (y - 1) L with
    | none =>
      refine ty rfl (ty rfl (ac0 rfl (ty rfl (ty rfl (ac0 rfl (stN (cs := zB.cs) (fb hf K1) rfl rfl rfl fun M3 K3 z3 b3 => cF rfl (k6 false M3 (K1.trans K3) hok hin (by rw [hat]; rfl))))))))
    | some b =>
      refine ty rfl (ty rfl (ac0 rfl (ty rfl (ty rfl (ac0 rfl (stN (cs := b.cs) (fb hf K1) rfl rfl rfl fun M3 K3 z3 b3 => cT rfl (on (int_of (i := 0 + 2) b3 rfl) (k6 _ M3 (K1.trans K3) hok hin ?_))))))))
      rw [hat]
      show (if b.w < s then 1 else 0) = _
      by_cases hc : b.w < s
      · rw [if_pos hc, decide_eq_true hc]; rfl
      · rw [if_neg hc, decide_eq_false hc]; rfl
  have k2 : ∀ z : Bool, (z = true ↔ ¬ (s = 64 ∨ s = 32 ∨ s = 16)) → A37_2 (some ⟨2 * j, 0, none⟩) x y s z M (fun v N => v = partV L t x y s ∧ Keep M N) := by
    intro z hz
    cases z with
    | true => exact w37_2 (cT rfl (b3 (by unfold partOk; rw [decide_eq_false (fun q => hz.1 rfl q.1)]; rfl)))
    | false =>
      have hs : s = 64 ∨ s = 32 ∨ s = 16 := Classical.byContradiction fun h => absurd (hz.2 h) (by simp)
      have hs' : ((s.toNat : Nat) : Int) = s := by omega
      have tx : ∀ u : Int, u.tmod s = 0 ↔ u % s = 0 := fun u => by rw [← hs']; exact tmod_eq _ (by omega)
      refine w37_2 (cF rfl (pu (binV_rem (by omega)) (ty rfl ?_)))
      by_cases h1 : x % s = 0
      · rw [show (x.tmod s != 0) = false by rw [(tx x).2 h1]; rfl]
        refine w37_3 (cF rfl (pu (binV_rem (by omega)) (ty rfl ?_)))
        by_cases h2 : y % s = 0
        · rw [show (y.tmod s != 0) = false by rw [(tx y).2 h2]; rfl]
          refine w37_4 (cF rfl (Cn.eq (c35 g1 G.may) (ty rfl ?_)))
          cases hin : t.in x y with
          | false => exact b5 (by unfold partOk; rw [hin, Bool.and_false])
          | true => exact k5 (by unfold partOk; rw [hin, decide_eq_true ⟨hs, h1, h2⟩]; rfl) hin
        · rw [show (y.tmod s != 0) = true from bne_iff_ne.2 fun h => h2 ((tx y).1 h)]
          exact b4 (by unfold partOk; rw [decide_eq_false (fun q => h2 q.2.2)]; rfl)
      · rw [show (x.tmod s != 0) = true from bne_iff_ne.2 fun h => h1 ((tx x).1 h)]
        exact b3 (by unfold partOk; rw [decide_eq_false (fun q => h1 q.2.1)]; rfl)
  refine w37_0 (cA (fun z => A37_1 (some ⟨2 * j, 0, none⟩) x y s z M _) (w37_1 (cA (fun z => A37_2 (some ⟨2 * j, 0, none⟩) x y s z M _) (k2 _ ?_))))
  simp only [Bool.and_eq_true, bne_iff_ne, ne_eq]
  omega
end
end Go.Zt
