/- Layer 17: Skip, Inter. -/
import Derived.Test.YtamlmpeiamkllaaZpT
set_option linter.unusedSimpArgs false
set_option linter.unusedVariables false
set_option maxRecDepth 100000
namespace Go.Zt
open Go Go.Sim Go.Proofs Go.RowKit

def one (f : Bk → Bool) (o : Option Bk) : Nat := if (o.map f).getD false then 1 else 0
def cntS (f : Bk → Bool) (L : List Bk) (x y : Int) : Nat := one f (atS (x - 1) y L) + one f (atS x (y - 1) L)
def cntOk (t : Tl) (x y : Int) : Bool := decide (x % 8 = 0 ∧ y % 8 = 0) && t.in x y
def cntV (f : Bk → Bool) (L : List Bk) (t : Tl) (x y : Int) : Value := if cntOk t x y then .tuple #[.int .i64 (cntS f L x y : Nat), .int .i64 0] else .tuple #[.int .i64 0, .int .i64 2]
theorem one_le (f : Bk → Bool) (o : Option Bk) : one f o ≤ 1 := by unfold one; split <;> omega
theorem c31 {M : Mem} {b : Bk} (hf : M.floor ≤ M.nb.size) : Cn Try.prog 31 #[.agg b.cs] M fun v N => v = .bool b.sk ∧ Keep M N :=
  w31_0 (on (bool_of (i := 0 + 4) (Mem.new_at M (.cells b.cs 27)) rfl) ⟨rfl, .new _ _⟩)
theorem c32 {M : Mem} {b : Bk} (hf : M.floor ≤ M.nb.size) : Cn Try.prog 32 #[.agg b.cs] M fun v N => v = .bool b.it ∧ Keep M N :=
  w32_0 (on (bool_of (i := 0 + 5) (Mem.new_at M (.cells b.cs 27)) rfl) ⟨rfl, .new _ _⟩)
section
variable {V : Nat → Prop} {M : Mem} {j jm : Nat} {t : Tl} {L : List Bk} {x y : Int} {f : Bk → Bool} {k : Nat} {p0 p1 p2 p3 : Int}
/-- What is asked of the function that is handed on. -/
def AskF (f : Bk → Bool) (k : Nat) : Prop := (∀ (b : Bk) (M : Mem), M.floor ≤ M.nb.size → Cn Try.prog k #[.agg b.cs] M fun v N => v = .bool (f b) ∧ Keep M N) ∧ ∀ b : Bk, callVal Try.prog (.func (.func k) #[] #[]) #[.agg b.cs] = some (k, #[.agg b.cs])
theorem e30_2 {Q : Value → Mem → Prop} {i n : Nat} {px py : Int} (hF : AskF f k) (hi : i < 2) (hn : n ≤ i) (hs : strV Try.prog 87 (.agg #[.int .i64 p0, .int .i64 p1, .int .i64 p2, .int .i64 p3]) (.int .i64 (i : Int)) = some (.agg #[.int .i64 px, .int .i64 py]))
    (hf : M.floor ≤ M.nb.size) (G : Gr V M j jm t L) (rx : i64R px) (ry : i64R py)
    (next : ∀ N, Keep M N → A30_2 (some ⟨2 * j, 0, none⟩) (.func (.func k) #[] #[]) ((n + one f (atS px py L) : Nat) : Int) p0 p1 p2 p3 ((i + 1 : Nat) : Int) N Q) :
    A30_2 (some ⟨2 * j, 0, none⟩) (.func (.func k) #[] #[]) (n : Int) p0 p1 p2 p3 (i : Int) M Q := by
  refine w30_2 (cT (decide_eq_true (by omega)) (pu hs (ty rfl (ty rfl (ty rfl (stN (cs := #[.int .i64 px, .int .i64 py]) hf rfl rfl rfl fun M1 K1 z1 b1 => ?_))))))
  refine ix (x := ⟨2 * M.nb.size, 0, none⟩) (by kernel_rfl) (on (int_of (i := 0) b1 rfl) (ix (x := ⟨2 * M.nb.size, 1, none⟩) (by kernel_rfl) (on (int_of (i := 1) b1 rfl) (Cn.mono (c14 (fb hf K1) (G.keep K1) rx ry) ?_))))
  rintro _ N1 ⟨rfl, K2⟩
  have T2 := K1.trans K2
  have fin : ∀ (b : Bool) {N : Mem}, Keep M N → one f (atS px py L) = (if b then 1 else 0) → A30_3 (some ⟨2 * j, 0, none⟩) (.func (.func k) #[] #[]) (n : Int) p0 p1 p2 p3 (i : Int) b N Q := by
    intro b N K h
    have hx := next N K
    rw [h] at hx
    refine w30_3 ?_
    cases b with
    | true =>
      refine cT rfl (w30_4 ?_)
      rw [i64w (x := (n : Int) + 1) (by omega), i64w (by omega)]
      exact hx
    | false =>
      refine cF rfl (w30_4 ?_)
      rw [i64w (by omega)]
      exact hx
  cases hat : atS px py L with
  | none =>
    refine ty rfl (ty rfl (ac0 rfl (ty rfl (ty rfl (ac0 rfl (stN (cs := zB.cs) (fb hf T2) rfl rfl rfl fun M3 K3 z3 b3 => cF rfl (fin false (T2.trans K3) (by rw [hat]; rfl))))))))
  | some b =>
    refine ty rfl (ty rfl (ac0 rfl (ty rfl (ty rfl (ac0 rfl (stN (cs := b.cs) (fb hf T2) rfl rfl rfl fun M3 K3 z3 b3 => cT rfl (ldA b3 rfl (ca (hF.2 b) (Cn.mono (hF.1 b M3 (fb hf (T2.trans K3))) ?_)))))))))
    rintro _ N4 ⟨rfl, K4⟩
    refine ty rfl (fin (f b) ((T2.trans K3).trans K4) ?_)
    rw [hat]
    rfl
theorem c30 (hF : AskF f k) (hf : M.floor ≤ M.nb.size) (G : Gr V M j jm t L) (hx : i64R x) (hy : i64R y) : Cn Try.prog 30 #[PtrB j, .int .i64 x, .int .i64 y, .func (.func k) #[] #[]] M fun v N => v = cntV f L t x y ∧ Keep M N := by
  obtain ⟨A, c, es, q, g1, _⟩ := G.ex
  have hm := G.may
  unfold Tl.may spanB at hm
  simp only [Bool.and_eq_true, decide_eq_true_eq] at hm
  have t8 : ∀ z : Int, z.tmod 8 = 0 ↔ z % 8 = 0 := fun z => tmod_eq (a := z) 8 (by decide)
  have bad : cntOk t x y = false → A30_1 (some ⟨2 * j, 0, none⟩) x y (.func (.func k) #[] #[]) true M fun v N => v = cntV f L t x y ∧ Keep M N := fun h => w30_1 (cT rfl ⟨by unfold cntV; rw [h]; rfl, .refl _⟩)
  refine w30_0 (Cn.eq (c24 g1) (ty rfl (cF rfl (cne (fun h => bad ?_) fun h1 => cne (fun h => bad ?_) fun h2 => Cn.eq (c26 g1 G.may hx hy) (ty rfl ?_)))))
  · unfold cntOk; rw [decide_eq_false (fun q => h ((t8 x).2 q.1))]; rfl
  · unfold cntOk; rw [decide_eq_false (fun q => h ((t8 y).2 q.2))]; rfl
  · cases hin : t.in x y with
    | false => exact bad (by unfold cntOk; rw [hin, Bool.and_false])
    | true =>
      have hok : cntOk t x y = true := by unfold cntOk; rw [hin, decide_eq_true ⟨(t8 x).1 h1, (t8 y).1 h2⟩]; rfl
      have hin' := of_decide_eq_true hin
      refine w30_1 (cF rfl ?_)
      rw [i64w (x := x - 1) (by omega), i64w (x := y - 1) (by omega)]
      refine e30_2 (i := 0) (n := 0) hF (by decide) (by decide) rfl hf G (by unfold i64R; omega) hy fun N1 K1 => ?_
      refine e30_2 (i := 1) hF (by decide) (by have := one_le f (atS (x - 1) y L); omega) rfl (fb hf K1) (G.keep K1) hx (by unfold i64R; omega) fun N2 K2 => ?_
      refine w30_2 (cF rfl ⟨?_, K1.trans K2⟩)
      unfold cntV cntS
      rw [hok, Nat.zero_add]
      rfl
theorem c11 (hf : M.floor ≤ M.nb.size) (G : Gr V M j jm t L) (hx : i64R x) (hy : i64R y) : Cn Try.prog 11 #[PtrB j, .int .i64 x, .int .i64 y] M fun v N => v = cntV Bk.sk L t x y ∧ Keep M N := by
  refine w11_0 (Cn.mono (c30 ⟨fun b M hf => c31 hf, fun b => rfl⟩ hf G hx hy) ?_)
  rintro _ N ⟨rfl, K⟩
  unfold cntV
  split
  · exact ty rfl (ty rfl (ty rfl ⟨rfl, K⟩))
  · exact ty rfl (ty rfl (ty rfl ⟨rfl, K⟩))
theorem c12 (hf : M.floor ≤ M.nb.size) (G : Gr V M j jm t L) (hx : i64R x) (hy : i64R y) : Cn Try.prog 12 #[PtrB j, .int .i64 x, .int .i64 y] M fun v N => v = cntV Bk.it L t x y ∧ Keep M N := by
  refine w12_0 (Cn.mono (c30 ⟨fun b M hf => c32 hf, fun b => rfl⟩ hf G hx hy) ?_)
  rintro _ N ⟨rfl, K⟩
  unfold cntV
  split
  · exact ty rfl (ty rfl (ty rfl ⟨rfl, K⟩))
  · exact ty rfl (ty rfl (ty rfl ⟨rfl, K⟩))
end
end Go.Zt
