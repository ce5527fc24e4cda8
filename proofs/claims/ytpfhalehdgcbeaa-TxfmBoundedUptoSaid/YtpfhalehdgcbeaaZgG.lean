/- Layer 7: what is asked; the transforms of the program. -/
import Derived.Test.YtpfhalehdgcbeaaZgF
import Derived.Test.YtpfhalehdgcbeaaZgC
set_option linter.unusedSimpArgs false
set_option linter.unusedVariables false
namespace Go.Zt
open Go Go.Sim Go.Proofs Go.RowKit

abbrev Ints (l : List Int) : List Value := l.map fun x => .int .i64 x
theorem el22 : ElemS Try.prog 22 3 1 8 (.int .i64 0) := ⟨by kernel_rfl, by kernel_rfl, rfl, by decide, by decide⟩
theorem nb {b : Bool} (h : (!b) = true) : b = false := by cases b <;> simp_all
theorem nb' {b : Bool} (h : (!b) = false) : b = true := by cases b <;> simp_all
theorem mulb {x w : Int} {A B : Nat} (hx : -(A : Int) ≤ x ∧ x ≤ A) (hw : -(B : Int) ≤ w ∧ w ≤ B) : -((A * B : Nat) : Int) ≤ x * w ∧ x * w ≤ ((A * B : Nat) : Int) := by
  have h1 : (x * w).natAbs ≤ A * B := by
    rw [Int.natAbs_mul]; exact Nat.mul_le_mul (by omega) (by omega)
  omega
/-- A sum. -/
def dot (f : Nat → Int) : Nat → Int
  | 0 => 0
  | m + 1 => dot f m + f m
theorem dot_b {f : Nat → Int} {B : Nat} : ∀ {m : Nat}, (∀ i, i < m → -(B : Int) ≤ f i ∧ f i ≤ B) → -((m * B : Nat) : Int) ≤ dot f m ∧ dot f m ≤ ((m * B : Nat) : Int)
  | 0, _ => by simp [dot]
  | m + 1, h => by
    have h1 := dot_b (m := m) fun i hi => h i (by omega)
    have h2 := h m (by omega)
    rw [Nat.add_mul, Nat.one_mul]
    simp only [dot]
    generalize m * B = q at h1 ⊢
    omega
def rnd (v : Int) : Int := (v + 2048) / 4096
def gx (x : List Int) (i : Nat) : Int := x.getD i 0
def fwdK (kind : Nat) (x : List Int) (k : Nat) : Int := rnd (dot (fun i => gx x i * wS kind x.length k i) x.length)
def invK (kind : Nat) (x : List Int) (i : Nat) : Int := rnd (dot (fun k => gx x k * wS kind x.length k i) x.length)
def forthS (a b c d : Int) : List Int :=
  let a1 := a + b; let d1 := d - c; let e := (a1 - d1) / 2
  [a1 - (e - c), e - c, d1 + (e - b), e - b]
def backS (a c d b : Int) : List Int :=
  let a1 := a + c; let d1 := d - b; let e := (a1 - d1) / 2
  [a1 - (e - b), e - b, e - c, d1 + (e - c)]
def fwdS (kind : Nat) (x : List Int) : List Int := if kind = 3 then forthS (gx x 0) (gx x 1) (gx x 2) (gx x 3) else (List.range x.length).map (fwdK kind x)
def invS (kind : Nat) (x : List Int) : List Int := if kind = 3 then backS (gx x 0) (gx x 1) (gx x 2) (gx x 3) else (List.range x.length).map (invK kind x)
def lenB (kind : Int) (n : Nat) : Bool :=
  if kind = 0 then decide (n = 4 ∨ n = 8 ∨ n = 16 ∨ n = 32 ∨ n = 64) else if kind = 1 then decide (n = 4 ∨ n = 8 ∨ n = 16) else if kind = 2 then decide (n = 4 ∨ n = 8 ∨ n = 16 ∨ n = 32) else if kind = 3 then decide (n = 4) else false
def near (v : Int) : Bool := decide (-1048576 ≤ v ∧ v ≤ 1048576)
def mayB (kind : Int) (x : List Int) : Bool := lenB kind x.length && x.all near
def fwdQ (kind : Int) (x : List Int) : List Int × Nat := if mayB kind x then (fwdS kind.toNat x, 0) else ([], 2)
def invQ (kind : Int) (x : List Int) : List Int × Nat := if mayB kind x then (invS kind.toNat x, 0) else ([], 2)
theorem gx_near {x : List Int} (h : x.all near = true) (i : Nat) : -(1048576 : Int) ≤ gx x i ∧ gx x i ≤ 1048576 := by
  unfold gx
  rcases Nat.lt_or_ge i x.length with hi | hi
  · have := of_decide_eq_true (List.all_eq_true.1 h _ (List.getElem_mem hi))
    rw [List.getD_eq_getElem?_getD, List.getElem?_eq_getElem hi]; exact this
  · rw [List.getD_eq_getElem?_getD, List.getElem?_eq_none hi]; decide
theorem lenB_le {kind : Int} {n : Nat} (h : lenB kind n = true) : 4 ≤ n ∧ n ≤ 64 := by
  unfold lenB at h
  repeat' split at h
  all_goals first | (cases h; done) | (have h := of_decide_eq_true h; omega)

/-! ### What is asked -/
theorem pw : ∀ n : Fin 65, 4 ≤ n.val → (IntKind.i64.wrap (((BitVec.ofInt (IntKind.bits .i64) ((n.val : Nat) : Int) &&& BitVec.ofInt (IntKind.bits .i64) (IntKind.i64.wrap (((n.val : Nat) : Int) - 1))).toNat : Nat) : Int) != 0) = !(decide (n.val = 4 ∨ n.val = 8 ∨ n.val = 16 ∨ n.val = 32 ∨ n.val = 64)) := by decide +kernel
theorem c65 {v : Int} {M : Mem} : Cn Try.prog 65 #[.int .i64 v] M fun r N => r = .bool (!near v) ∧ N = M := by
  unfold near
  refine w65_0 ⟨fun h => ⟨?_, rfl⟩, fun h => ⟨?_, rfl⟩⟩
  · rw [decide_eq_false (by omega)]; rfl
  · congr 1
    rw [Bool.eq_iff_iff]
    simp only [decide_eq_true_eq, Bool.not_eq_true', decide_eq_false_iff_not]; omega
theorem c73_loop {M : Mem} {A : Option Addr} {n c : Nat} {x : List Int} (hA : Row M A (Ints x)) (hn : n = x.length) (hb : n ≤ 1048576) {Q : Value → Mem → Prop} (hQ : ∀ z : Int, decide (0 ≤ z) = !x.all near → Q (.int .i64 z) M) :
    ∀ (k i : Nat), i + k = n → (x.take i).all near = true → A73_1 A n c (.func (.func 65) #[] #[]) (n : Nat) (i : Nat) M Q
  | 0, i, hi, hp => by
    refine w73_1 ⟨fun h => by omega, fun _ => hQ _ ?_⟩
    rw [List.take_of_length_le (by omega)] at hp
    rw [hp]; rfl
  | k + 1, i, hi, hp => by
    have h1 : i < x.length := by omega
    obtain ⟨a, i1, i2⟩ := hA.int1 (n := n) (i := i) (z := i) (k := .i64) (x := x[i]) rfl (by omega) (by simp [h1])
    refine w73_1 ⟨fun _ => ⟨_, i1, _, i2, (65, #[.int .i64 x[i]]), by kernel_rfl, Cn.eq c65 ⟨_, rfl, fun h => ?_, fun h => ?_⟩⟩, fun h => by omega⟩
    · refine hQ _ ?_
      have hx : x.all near = false := by
        rw [← Bool.not_eq_true, List.all_eq_true]
        intro hh
        have := hh _ (List.getElem_mem h1)
        rw [this] at h; cases h
      rw [hx]; exact decide_eq_true (by omega)
    · rw [i64w (by omega), show ((i : Int) + 1) = ((i + 1 : Nat) : Int) by omega]
      refine c73_loop hA hn hb hQ k (i + 1) (by omega) ?_
      rw [List.take_succ_eq_append_getElem h1, List.all_append, hp]
      simp [nb' h]
theorem c66 {M : Mem} {A : Option Addr} {n c : Nat} {x : List Int} (hA : Row M A (Ints x)) (hn : n = x.length) (hb : n ≤ 1048576) :
    Cn Try.prog 66 #[.slice A n c, .func (.func 65) #[] #[]] M fun v N => v = .bool (!x.all near) ∧ N = M := by
  refine w66_0 (w73_0 (c73_loop hA hn hb (fun z hz => ⟨_, rfl, ?_, rfl⟩) n 0 (Nat.zero_add _) rfl))
  rw [← hz]
def AsR (M0 : Mem) (kind : Int) (x : List Int) : Value → Mem → Prop := fun v N =>
  ∃ most wv, v = .tuple #[.agg #[.int .i64 (most : Nat), wv], .bool (mayB kind x)] ∧ oneCell wv = true ∧ Keep M0 N ∧ KdR (M0.nb.size + 1) kind (max x.length 1) most N wv
theorem c52 {M : Mem} (hf : M.floor ≤ M.nb.size) {A : Option Addr} {n c : Nat} {x : List Int} {kind : Int} (hA : Row M A (Ints x)) (hn : n = x.length) (hb' : n ≤ 1048576) :
    Cn Try.prog 52 #[.int .i64 kind, .slice A n c] M (AsR M kind x) := by
  refine w52_0 ?_
  have a0 := Mem.new_at M (.cells #[.int .i64 0, .nilFunc] 54)
  have K0 : Keep M (M.new (.cells #[.int .i64 0, .nilFunc] 54)) := .new _ _
  have hs0 : (M.new (.cells #[.int .i64 0, .nilFunc] 54)).nb.size = M.nb.size + 1 := Mem.new_size _ _
  generalize M.new (.cells #[.int .i64 0, .nilFunc] 54) = M1 at a0 K0 hs0 ⊢
  have em : (if (1 : Int) > (n : Int) then (1 : Int) else (n : Int)) = ((max x.length 1 : Nat) : Int) := by split <;> omega
  rw [em]
  refine Cn.mono (c64 (by rw [K0.floor]; exact Nat.le_trans hf K0.size) (by omega) (by omega)) ?_
  rw [hs0]
  rintro v N ⟨most, wv, rfl, h1, K1, hK⟩
  have K01 := K0.trans K1
  have hfN : N.floor ≤ N.nb.size := by rw [K01.floor]; exact Nat.le_trans hf K01.size
  have b0 := at_keep a0 K1
  have z0 := Mem.new_at N (.cells #[.int .i64 0, .nilFunc] 54)
  obtain ⟨R1, p1, R2, p2, C2, a2⟩ := set2c z0 hfN (x := .int .i64 (most : Nat)) (y := wv) rfl h1
  have KR : Keep N R2 := Keep.step (Chg.new (S := fun _ => False) N _) C2 fun i hi => by omega
  have b0 := at_keep b0 KR
  have hfR : R2.floor ≤ M.nb.size := by rw [KR.floor, K01.floor]; exact hf
  have hne : N.nb.size ≠ M.nb.size := by have := lt_of_at a0; have := K1.size; omega
  have K02 := K01.trans KR
  have hKR := hK.kp (Kp.of KR)
  have fin : ∃ S1, R2.put (2 * M.nb.size) 0 (.int .i64 (most : Nat)) = some S1 ∧ ∃ S2, S1.put (2 * M.nb.size) (0 + 1) wv = some S2 ∧ S2.intAt .i64 (2 * M.nb.size) 0 = some ((most : Nat) : Int) ∧ S2.cell (2 * M.nb.size) (0 + 1) = some wv ∧ Keep M S2 ∧ KdR (M.nb.size + 1) kind (max x.length 1) most S2 wv := by
    obtain ⟨S1, q1, S2, q2, C3, a3⟩ := set2c b0 hfR (x := .int .i64 (most : Nat)) (y := wv) rfl h1
    exact ⟨S1, q1, S2, q2, int_of a3 rfl, cell_of a3, Keep.step K02 C3 fun i hi => by omega, hKR.kp fun j b hj hb => at_chg hb C3 (by omega)⟩
  obtain ⟨S1, q1, S2, q2, r1, r2, KS, hKS⟩ := fin
  have bad : mayB kind x = false → A52_1 A n c (some ⟨2 * M.nb.size, 0, none⟩) (some ⟨2 * N.nb.size, 0, none⟩) true R2 (AsR M kind x) := fun hb =>
    w52_1 ⟨fun _ => ⟨_, rfl, _, int_of a2 rfl, _, cell_of a2, _, rfl, _, q1, _, q2, _, rfl, _, r1, _, r2, most, wv, by rw [hb], h1, KS, hKS⟩, fun h => (by cases h)⟩
  have good : lenB kind x.length = true → A52_1 A n c (some ⟨2 * M.nb.size, 0, none⟩) (some ⟨2 * N.nb.size, 0, none⟩) false R2 (AsR M kind x) := fun hb => by
    refine w52_1 ⟨fun h => (by cases h), fun _ => ⟨_, rfl, _, int_of a2 rfl, _, cell_of a2, Cn.eq (c66 (M := { R2 with floor := R2.nb.size }) (show Row R2 A (Ints x) from hA.keep K02) hn hb') ⟨_, rfl, _, rfl, _, q1, _, q2, _, rfl, _, r1, _, r2, most, wv, ?_, h1, KS, hKS⟩⟩⟩
    unfold mayB
    rw [hb, Bool.true_and, Bool.not_not]
  have hlen : lenB kind x.length = (decide (4 ≤ n ∧ n ≤ most) && decide (n = 4 ∨ n = 8 ∨ n = 16 ∨ n = 32 ∨ n = 64)) := by
    unfold lenB
    rw [← hn]
    rcases hK with ⟨rfl, rfl, _⟩ | ⟨rfl, rfl, _⟩ | ⟨rfl, rfl, _⟩ | ⟨rfl, rfl, _⟩ | ⟨g0, g1, g2, g3, rfl, _⟩
    · rw [if_pos rfl, Bool.eq_iff_iff]; simp only [Bool.and_eq_true, decide_eq_true_eq]; omega
    · rw [if_neg (by decide), if_pos rfl, Bool.eq_iff_iff]; simp only [Bool.and_eq_true, decide_eq_true_eq]; omega
    · rw [if_neg (by decide), if_neg (by decide), if_pos rfl, Bool.eq_iff_iff]; simp only [Bool.and_eq_true, decide_eq_true_eq]; omega
    · rw [if_neg (by decide), if_neg (by decide), if_neg (by decide), if_pos rfl, Bool.eq_iff_iff]; simp only [Bool.and_eq_true, decide_eq_true_eq]; omega
    · rw [if_neg g0, if_neg g1, if_neg g2, if_neg g3, Bool.eq_iff_iff]; simp only [Bool.and_eq_true, decide_eq_true_eq, Bool.false_eq_true, false_iff]; omega
  have hm64 : most ≤ 64 := by
    rcases hK with ⟨_, rfl, _⟩ | ⟨_, rfl, _⟩ | ⟨_, rfl, _⟩ | ⟨_, rfl, _⟩ | ⟨_, _, _, _, rfl, _⟩ <;> decide
  have no : lenB kind x.length = false → mayB kind x = false := fun h => by unfold mayB; rw [h]; rfl
  refine ⟨_, rfl, _, rfl, _, p1, _, p2, fun h4 => bad (no ?_), fun h4 => ⟨_, int_of a2 rfl, fun hgt => bad (no ?_), fun hle => ?_⟩⟩
  · rw [hlen, decide_eq_false (by omega)]; rfl
  · rw [hlen, decide_eq_false (by omega)]; rfl
  have hp := pw ⟨n, by omega⟩ (by show 4 ≤ n; omega)
  dsimp only at hp
  rw [hp]
  have hl2 : lenB kind x.length = decide (n = 4 ∨ n = 8 ∨ n = 16 ∨ n = 32 ∨ n = 64) := by rw [hlen, decide_eq_true (by omega)]; rfl
  rw [← hl2]
  cases hb : lenB kind x.length with
  | false => exact bad (no hb)
  | true => exact good hb
end Go.Zt

