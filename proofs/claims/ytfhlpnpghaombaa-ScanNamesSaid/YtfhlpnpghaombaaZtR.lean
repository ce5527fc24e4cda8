/- What ScanNames comes to. -/
import Derived.Test.YtfhlpnpghaombaaZtN
import Derived.Test.YtfhlpnpghaombaaZtP
set_option linter.unusedSimpArgs false
set_option linter.unusedVariables false
namespace Go.Zt
open Go Go.Sim Go.Proofs Go.RowKit

theorem size3 : sizeP Try.prog 3 = some 1 := by kernel_rfl
/-- The first cells of a row, as a slice. -/
theorem slice_to {M : Mem} {A : Option Addr} {L : List Value} {n c h : Nat} (hR : Row M A L) (hn : n = L.length) (hh : h ≤ n) (hc : n ≤ c) (h0 : 0 < n) :
    ∃ A', sliceP Try.prog 22 (.slice A n c) none (some (.int .i64 h)) none = some (.slice A' h c) ∧ Row M A' (L.take h) := by
  obtain ⟨a, rfl, _⟩ := hR 0 (by omega)
  have key : ∀ a' : Addr, a'.block = a.block → a'.off = a.off → Row M (some a') (L.take h) := by
    intro a' e1 e2 i hi
    obtain ⟨b, hb, hc⟩ := hR i (by rw [List.length_take] at hi; omega)
    obtain rfl := Option.some.inj hb
    exact ⟨a', rfl, by rw [e1, e2, hc]; simp⟩
  have e : sliceP Try.prog 22 (.slice (some a) n c) none (some (.int .i64 h)) none = cut 1 a n false 0 h c := by
    have e1 : bound (some (.int .i64 (h : Int))) c n = some h := by
      unfold bound
      simp only
      rw [if_pos ⟨by omega, by omega⟩]; simp
    have e2 : ∀ y d, bound none y d = some d := fun _ _ => rfl
    simp only [sliceP, elem.slice, e2, Option.bind_some, Option.isNone_some, Option.isSome_none, Bool.false_and, Bool.false_eq_true, if_false, e1, size3]
  rw [e]
  unfold cut
  by_cases ho : a.block % 2 = 1
  · rw [if_pos ho, if_pos hh]
    refine ⟨_, rfl, key _ ?_ ?_⟩ <;> split <;> simp
  · rw [if_neg ho]
    by_cases hs : a.spot = none
    · rw [if_pos hs]
      refine ⟨_, rfl, key _ ?_ ?_⟩ <;> split <;> simp
    · rw [if_neg hs]
      simp only [Bool.false_eq_true, if_false]
      exact ⟨_, rfl, key _ (by simp) (by simp)⟩

def nl : List Int := [0, 5, 0, 0, -2, 1, 0, 0, 0, 0, 0, 0, 0, 0, 0, 0]
def nm : List Int := [0, -9223372036854775808, 0, 0, -2, 1, 0, 0, 0, 0, 0, 0, 0, 0, 0, 0]
def sizesL : List Int := [-1, 0, 3, 4, 5, 8, 16, 32, 64, 128, 4611686018427387904]
def endsL : List Int := [0, 1, 2, 3, 4, 5, 8, 9, 512, 513, 1024, 1025]

theorem c8_ends {B : Option Addr} {d : Nat} {M0 : Mem} (hB : Row M0 B (I64 endsL)) (hf : M0.floor ≤ M0.nb.size) :
    ∀ (k i : Nat) {M : Mem}, i + k = 12 → Keep M0 M → A8_10 B 12 d i M fun v _ => v = .bool true
  | 0, i, M, hi, hK => by
    refine w8_10 ⟨fun h => by omega, fun _ => Cn.mono (c14 M (by rw [hK.floor]; exact Nat.le_trans hf hK.size)) ?_⟩
    rintro v N ⟨rfl, _⟩
    exact ⟨_, rfl, rfl⟩
  | k + 1, i, M, hi, hK => by
    have hx : endsL[i]? = some (endsL.getD i 0) := by
      have : i < endsL.length := by show i < 12; omega
      rw [List.getD, List.getElem?_eq_getElem this]; rfl
    refine w8_10 ⟨fun _ => ?_, fun h => by omega⟩
    refine Row.rd elem (hB.keep hK) (x := endsL.getD i 0) rfl (by omega) (by omega) (by simp only [Int.toNat_natCast, List.getElem?_map, hx]; rfl) (Cn.mono (c3 4 _ M (by rw [hK.floor]; exact Nat.le_trans hf hK.size)) ?_)
    rintro v N ⟨rfl, hK2⟩
    refine ⟨_, rfl, fun h => (by cases h), fun _ => ?_⟩
    rw [wr _ (by omega), show ((i : Int) + 1) = ((i + 1 : Nat) : Int) by omega]
    exact c8_ends hB hf k (i + 1) (by omega) (hK.trans hK2)
theorem c8_sizes {A B : Option Addr} {d : Nat} {M0 : Mem} (hA : Row M0 A (I64 nm)) (hB : Row M0 B (I64 sizesL)) (hf : M0.floor ≤ M0.nb.size) :
    ∀ (k i : Nat) {M : Mem}, i + k = 11 → Keep M0 M → A8_8 A 16 16 B 11 d i M fun v _ => v = .bool true
  | 0, i, M, hi, hK => by
    have hK2 : Keep M (M.new (.cells (I64 endsL).toArray 3)) := .new _ _
    refine w8_8 ⟨fun h => by omega, fun _ => ?_⟩
    exact c8_ends (M0 := M.new (.cells (I64 endsL).toArray 3)) (Row.new M 3 (I64 endsL)) (show M.floor ≤ _ from Nat.le_trans (by rw [hK.floor]; exact Nat.le_trans hf hK.size) hK2.size) 12 0 (by omega) (.refl _)
  | k + 1, i, M, hi, hK => by
    have hx : sizesL[i]? = some (sizesL.getD i 0) := by
      have : i < sizesL.length := by show i < 11; omega
      rw [List.getD, List.getElem?_eq_getElem this]; rfl
    have rd : ∀ {M' : Mem} {C : Int → Prop}, Keep M0 M' → C (sizesL.getD i 0) → ∃ v, indexAddrP Try.prog 22 (.slice B 11 d) (.int .i64 (i : Int)) = some v ∧ ∃ p, asP v = some p ∧ ∃ a, p = some a ∧ ∃ x, M'.intAt .i64 a.block a.off = some x ∧ C x :=
      fun h hC => Row.rd elem (hB.keep h) (x := sizesL.getD i 0) rfl (by omega) (by omega) (by simp only [Int.toNat_natCast, List.getElem?_map, hx]; rfl) hC
    have fl : ∀ {M' : Mem}, Keep M0 M' → M'.floor ≤ M'.nb.size := fun h => by rw [h.floor]; exact Nat.le_trans hf h.size
    refine w8_8 ⟨fun _ => rd hK (rd hK (Cn.mono (c3 _ _ M (fl hK)) ?_)), fun h => by omega⟩
    rintro v N ⟨rfl, k1⟩
    have h1 := hK.trans k1
    refine ⟨_, rfl, fun h => (by cases h), fun _ => rd h1 (Cn.mono (c6 (l := nm) (A := A) (c := 16) _ 16 (by decide) N (hA.keep h1) (fl h1)) ?_)⟩
    rintro v N2 ⟨rfl, k2⟩
    have h2 := h1.trans k2
    obtain ⟨A', e1, e2⟩ := slice_to (n := 16) (c := 16) (h := 15) (hA.keep h2) rfl (by omega) (by omega) (by omega)
    refine ⟨_, rfl, fun h => (by cases h), fun _ => ⟨_, e1, _, rfl, rd h2 (Cn.mono (c6 (l := nm.take 15) (A := A') (c := 16) _ 0 (by decide) N2 e2 (fl h2)) ?_)⟩⟩
    rintro v N3 ⟨rfl, k3⟩
    refine ⟨_, rfl, w8_9 ⟨fun h => (by cases h), fun _ => ?_⟩⟩
    rw [wr _ (by omega), show ((i : Int) + 1) = ((i + 1 : Nat) : Int) by omega]
    exact c8_sizes hA hB hf k (i + 1) (by omega) (h2.trans k3)
theorem v1 : ctxV nl 4 0 3 4 = .tuple #[.int .i64 3, .int .i64 0] := by kernel_rfl
theorem v2 : ctxV nl 4 0 15 6 = .tuple #[.int .i64 4, .int .i64 0] := by kernel_rfl
theorem v3 : ctxV nl 4 1 3 4 = .tuple #[.int .i64 1, .int .i64 0] := by kernel_rfl
theorem v4 : ctxV nl 4 15 3 4 = .tuple #[.int .i64 0, .int .i64 0] := by kernel_rfl
theorem c8 (M : Mem) (hf : M.floor ≤ M.nb.size) : Cn Try.prog 8 #[] M fun v _ => v = .bool true := by
  obtain ⟨A, M1, q1, q2, q3, q4⟩ := make_own (k := .i64) (k' := .i64) (l := 16) (c := 16) elem (S := fun j => M.nb.size ≤ j) (M := M) (by omega) (by omega) (by omega) (Nat.le_refl _)
  have fl : ∀ {M' : Mem}, Chg (fun j => M.nb.size ≤ j) M M' → ∀ j, M.nb.size ≤ j → M'.floor ≤ j := fun h j hj => by rw [h.floor]; omega
  have fz : ∀ {M' : Mem}, Chg (fun j => M.nb.size ≤ j) M M' → M'.floor ≤ M'.nb.size := fun h => by rw [h.floor]; exact Nat.le_trans hf h.size
  refine w8_0 ⟨_, q1, _, rfl, ?_⟩
  refine Own.wr elem q4 (fl q2) rfl (by omega) (by show (1 : Int) < (16 : Nat); omega) rfl fun M2 p2 _ o2 => ?_
  have k2 := q2.trans p2
  refine Own.wr elem o2 (fl k2) rfl (by omega) (by show (4 : Int) < (16 : Nat); omega) rfl fun M3 p3 _ o3 => ?_
  have k3 := k2.trans p3
  refine Own.wr elem o3 (fl k3) rfl (by omega) (by show (5 : Int) < (16 : Nat); omega) rfl fun M4 p4 _ o4 => ?_
  have k4 := k3.trans p4
  have o5 : Own (fun j => M.nb.size ≤ j) M4 3 A 16 (I64 nl) := o4
  refine Cn.mono (c17 (l := nl) (A := A) (c := 16) (size := 4) (at_ := 0) M4 o5.row (by decide) (fz k4)) ?_
  rintro v N1 ⟨rfl, j1⟩
  rw [v1]
  refine ⟨_, rfl, _, rfl, _, rfl, Cn.mono (c19 (l := nl) (A := A) (c := 16) (size := 4) (at_ := 0) N1 (o5.row.keep j1) (by decide) (by rw [j1.floor]; exact Nat.le_trans (fz k4) j1.size)) ?_⟩
  rintro v N2 ⟨rfl, j2⟩
  have j12 := j1.trans j2
  rw [v2]
  refine ⟨_, rfl, _, rfl, _, rfl, Cn.mono (c17 (l := nl) (A := A) (c := 16) (size := 4) (at_ := 1) N2 (o5.row.keep j12) (by decide) (by rw [j12.floor]; exact Nat.le_trans (fz k4) j12.size)) ?_⟩
  rintro v N3 ⟨rfl, j3⟩
  have j13 := j12.trans j3
  rw [v3]
  refine ⟨_, rfl, _, rfl, _, rfl, Cn.mono (c17 (l := nl) (A := A) (c := 16) (size := 4) (at_ := 15) N3 (o5.row.keep j13) (by decide) (by rw [j13.floor]; exact Nat.le_trans (fz k4) j13.size)) ?_⟩
  rintro v N4 ⟨rfl, j4⟩
  have j14 := j13.trans j4
  rw [v4]
  have o6 : Own (fun j => M.nb.size ≤ j) N4 3 A 16 (I64 nl) := o5.chg j14 fun _ _ _ h => h
  have k5 : Chg (fun j => M.nb.size ≤ j) M N4 := k4.trans (j14.mono fun _ _ h => h.elim)
  refine ⟨_, rfl, _, rfl, _, rfl, fun h => absurd rfl h, fun _ => ?_⟩
  refine w8_1 ⟨fun h => (by cases h), fun _ => w8_2 ⟨fun h => (by cases h), fun _ => w8_3 ⟨fun h => (by cases h), fun _ => w8_4 ⟨fun h => (by cases h), fun _ => w8_5 ⟨fun h => (by cases h), fun _ => w8_6 ⟨fun h => (by cases h), fun _ => w8_7 ⟨fun h => (by cases h), fun _ => ?_⟩⟩⟩⟩⟩⟩⟩
  refine Own.wr elem o6 (fl k5) rfl (by omega) (by show (1 : Int) < (16 : Nat); omega) rfl fun M6 p6 _ o7 => ?_
  have k6 := k5.trans p6
  have o8 : Own (fun j => M.nb.size ≤ j) M6 3 A 16 (I64 nm) := o7
  have kn : Keep M6 (M6.new (.cells (I64 sizesL).toArray 3)) := .new _ _
  exact c8_sizes (M0 := M6.new (.cells (I64 sizesL).toArray 3)) (o8.row.keep kn) (Row.new M6 3 (I64 sizesL)) (show M6.floor ≤ _ from Nat.le_trans (fz k6) kn.size) 11 0 (by omega) (.refl _)
end Go.Zt
