/- Layer 17: vectors: vec, Contains, Vecs. -/
import Derived.Test.YtamlmpeiamkllaaZpQ
import Derived.Test.YtamlmpeiamkllaaZpE
set_option linter.unusedSimpArgs false
set_option linter.unusedVariables false
set_option maxRecDepth 100000
namespace Go.Zt
open Go Go.Sim Go.Proofs Go.RowKit

/-! ### Plain -/
def vecB (b : Bk) (r : Int) : Option (Int × Int) := if b.it = false then none else if b.r0 = r then some (b.v0, b.v1) else if b.cp = true ∧ b.r1 = r then some (b.v2, b.v3) else none
def vstep (r : Int) (out : List (Int × Int)) (o : Option Bk) : List (Int × Int) :=
  match vecB (o.getD zB) r with
  | some v => if out.length < 2 ∧ v ∉ out then out ++ [v] else out
  | none => out
def vplaces (x y w : Int) : List (Int × Int) := [(x - 1, y), (x, y - 1), (x + w, y - 1), (x - 1, y - 1)]
def vecsS (L : List Bk) (x y w r : Int) : List (Int × Int) := (vplaces x y w).foldl (fun out p => vstep r out (atS p.1 p.2 L)) []
def vecsOk (t : Tl) (x y w r : Int) : Bool := decide (x % 8 = 0 ∧ y % 8 = 0) && t.in x y && decide (8 ≤ w ∧ w ≤ 64 ∧ w % 8 = 0 ∧ 0 ≤ r ∧ r ≤ 2)
def outC : List (Int × Int) → Array Value
  | [] => #[.int .i64 0, .int .i64 0, .int .i64 0, .int .i64 0]
  | [a] => #[.int .i64 a.1, .int .i64 a.2, .int .i64 0, .int .i64 0]
  | a :: b :: _ => #[.int .i64 a.1, .int .i64 a.2, .int .i64 b.1, .int .i64 b.2]
theorem vstep_len {r : Int} {out : List (Int × Int)} {o : Option Bk} (h : out.length ≤ 2) : (vstep r out o).length ≤ 2 := by
  unfold vstep
  split
  · split
    · rename_i hc; simp; omega
    · exact h
  · exact h
theorem eq24 (a b c d : Int) : binV Try.prog .eql 24 24 (.agg #[.int .i64 a, .int .i64 b]) (.agg #[.int .i64 c, .int .i64 d]) = some (.bool (decide ((a, b) = (c, d)))) := by
  obtain ⟨z, h1, _, h3⟩ := binV_eqA (P := Try.prog) (k := 3) (t := 24) (tb := 24) (xs := [.int .i64 a, .int .i64 b]) (ys := [.int .i64 c, .int .i64 d]) (by decide) (by kernel_rfl) (by kernel_rfl) (by kernel_rfl) (by kernel_rfl) (by kernel_rfl) rfl rfl
  have : z = decide ((a, b) = (c, d)) := by
    rw [Bool.eq_iff_iff, h3, decide_eq_true_eq]
    simp
  rw [h1, this]
section
variable {M : Mem} {A : Option Addr} {l : List (Int × Int)} {n c : Nat} {u v : Int}
theorem c29 (hf : M.floor ≤ M.nb.size) (R : Row M A (Pls l)) (hn : n = l.length) (hb : n ≤ 1000) : Cn Try.prog 29 #[.slice A n c, .agg #[.int .i64 u, .int .i64 v]] M fun x N => x = .bool (decide ((u, v) ∈ l)) ∧ Keep M N := by
  have a := Mem.new_at M (.cells #[.int .i64 u, .int .i64 v] 24)
  have K1 : Keep M (M.new (.cells #[.int .i64 u, .int .i64 v] 24)) := .new _ _
  refine w29_0 ?_
  generalize M.new (.cells #[.int .i64 u, .int .i64 v] 24) = M1 at a K1 ⊢
  refine on (int_of (i := 0) a rfl) (on (int_of (i := 0 + 1) a rfl) (w42_0 ?_))
  have a2 := Mem.new_at M1 (.cells #[.int .i64 u, .int .i64 v] 24)
  have K2 : Keep M1 (M1.new (.cells #[.int .i64 u, .int .i64 v] 24)) := .new _ _
  generalize M1.new (.cells #[.int .i64 u, .int .i64 v] 24) = M2 at a2 K2 ⊢
  have R2 := (R.keep K1).keep K2
  have T2 := K1.trans K2
  have loop : ∀ (q i : Nat), i + q = n → (∀ p ∈ l.take i, p ≠ (u, v)) → A42_1 A n c (some ⟨2 * M1.nb.size, 0, none⟩) (n : Int) (i : Int) M2 fun v3' N3' => tyS (asI .i64 v3') fun x4' => (fun x N => x = Value.bool (decide ((u, v) ∈ l)) ∧ Keep M N) (.bool (decide (x4' ≥ 0))) N3' := by
    intro q
    induction q with
    | zero =>
      intro i hi hno
      refine w42_1 (cF (decide_eq_false (by omega)) (ty rfl ⟨?_, T2⟩))
      rw [List.take_of_length_le (by omega)] at hno
      rw [decide_eq_false (show ¬ ((u, v) ∈ l) from fun h => hno _ h rfl)]
      rfl
    | succ q ih =>
      intro i hi hno
      have hlt : i < l.length := by omega
      obtain ⟨a', e1, e2, e3⟩ := Pls.at R2 (n := n) (i := i) (z := (i : Int)) rfl (by omega) hlt
      refine w42_1 (cT (decide_eq_true (by omega)) (ad rfl (on (int_of (i := 0) a2 rfl) (on (int_of (i := 0 + 1) a2 rfl) (ix e1 (on e2 (on e3 (pu (eq24 _ _ _ _) (ty rfl (cd (fun h => ty rfl ⟨?_, T2⟩) fun h => ?_))))))))))
      · have hm : (u, v) ∈ l := by rw [h]; exact List.getElem_mem hlt
        rw [decide_eq_true hm, decide_eq_true (by omega)]
      · rw [i64w (by omega)]
        refine ih (i + 1) (by omega) fun p hp => ?_
        rw [List.take_succ_eq_append_getElem hlt] at hp
        rcases List.mem_append.1 hp with hp | hp
        · exact hno p hp
        · rw [List.mem_singleton.1 hp]; exact fun e => h e.symm
  exact loop n 0 (by omega) fun p hp => by simp at hp
end
def vecV : Option (Int × Int) → Value
  | none => .tuple #[.agg #[.int .i64 0, .int .i64 0], .bool false]
  | some v => .tuple #[.agg #[.int .i64 v.1, .int .i64 v.2], .bool true]
theorem c28 {M : Mem} {b : Bk} {r : Int} (hf : M.floor ≤ M.nb.size) : Cn Try.prog 28 #[.agg b.cs, .int .i64 r] M fun x N => x = vecV (vecB b r) ∧ Keep M N := by
  have a := Mem.new_at M (.cells b.cs 27)
  have K1 : Keep M (M.new (.cells b.cs 27)) := .new _ _
  have z1 := Mem.new_size M (.cells b.cs 27)
  refine w28_0 ?_
  generalize M.new (.cells b.cs 27) = M1 at a K1 z1 ⊢
  have a2 := Mem.new_at M1 (.cells #[.int .i64 0, .int .i64 0] 24)
  have K2 : Keep M1 (M1.new (.cells #[.int .i64 0, .int .i64 0] 24)) := .new _ _
  have ab := at_keep a K2
  generalize M1.new (.cells #[.int .i64 0, .int .i64 0] 24) = M2 at a2 K2 ab ⊢
  have T2 := K1.trans K2
  have fl : M2.floor ≤ M1.nb.size := by rw [T2.floor]; omega
  have no : vecB b r = none → A28_1 (some ⟨2 * M1.nb.size, 0, none⟩) M2 fun x N => x = vecV (vecB b r) ∧ Keep M N := fun h =>
    w28_1 (ad rfl (stA (cs := #[.int .i64 0, .int .i64 0]) a2 fl rfl rfl rfl fun N C z u => ad rfl (on (int_of (i := 0) u rfl) (on (int_of (i := 0 + 1) u rfl) ⟨by rw [h]; rfl, Keep.step T2 C fun i hi => by omega⟩))))
  refine on (bool_of (i := 0 + 5) ab rfl) (cnn (fun hi => no (by unfold vecB; rw [if_pos hi])) fun hi => ?_)
  have hi' : ¬ b.it = false := by rw [hi]; decide
  refine ix (x := ⟨2 * M.nb.size, 14, none⟩) (by kernel_rfl) (on (int_of (i := 14) ab rfl) (ce (fun h0 => ?_) fun h0 => ?_))
  · refine ix (x := ⟨2 * M.nb.size, 17, none⟩) (by kernel_rfl) (on (int_of (i := 17) ab rfl) (on (int_of (i := 17 + 1) ab rfl) (stA (cs := #[.int .i64 b.v0, .int .i64 b.v1]) a2 fl rfl rfl rfl fun N C z u => on (int_of (i := 0) u rfl) (on (int_of (i := 0 + 1) u rfl) ⟨?_, Keep.step T2 C fun i hi => by omega⟩))))
    unfold vecB; rw [if_neg hi', if_pos h0]; rfl
  · refine on (bool_of (i := 0 + 13) ab rfl) (cn (fun hc => ?_) fun hc => w28_2 (cF rfl (no (by unfold vecB; rw [if_neg hi', if_neg h0, if_neg (fun q => by rw [hc] at q; cases q.1)]))))
    refine ix (x := ⟨2 * M.nb.size, 15, none⟩) (by kernel_rfl) (on (int_of (i := 15) ab rfl) (w28_2 (ce (fun h1 => ?_) fun h1 => no (by unfold vecB; rw [if_neg hi', if_neg h0, if_neg (fun q => h1 q.2)]))))
    refine ad rfl (ix (x := ⟨2 * M.nb.size, 19, none⟩) (by kernel_rfl) (on (int_of (i := 19) ab rfl) (on (int_of (i := 19 + 1) ab rfl) (ad rfl (stA (cs := #[.int .i64 b.v2, .int .i64 b.v3]) a2 fl rfl rfl rfl fun N C z u => ad rfl (on (int_of (i := 0) u rfl) (on (int_of (i := 0 + 1) u rfl) ⟨?_, Keep.step T2 C fun i hi => by omega⟩)))))))
    unfold vecB; rw [if_neg hi', if_neg h0, if_pos ⟨hc, h1⟩]; rfl
theorem slArr {jo n : Nat} (hn : n ≤ 2) : sliceP Try.prog 25 (.pointer (some ⟨2 * jo, 0, none⟩)) none (some (.int .i64 (n : Int))) none = some (.slice (some ⟨2 * jo, 0, none⟩) n 2) := by
  have h1 : Try.prog.underlying 25 = some (.array 2 24) := by kernel_rfl
  have h2 : sizeP Try.prog 24 = some 2 := by kernel_rfl
  have e1 : bound none 2 2 = some 2 := rfl
  have e2 : bound (some (.int .i64 (n : Int))) 2 2 = some n := by
    show (if (0 : Int) ≤ (n : Int) ∧ (n : Int) ≤ ((2 : Nat) : Int) then some (n : Int).toNat else none) = some n
    rw [if_pos (by omega), Int.toNat_natCast]
  have e3 : bound none n 0 = some 0 := rfl
  unfold sliceP
  simp only [h1, e1, e2, e3, h2, Option.bind_some, Option.isNone_some, Bool.false_and, Bool.false_eq_true, if_false]
  rw [if_neg (by rintro (h | h)
                 · omega
                 · exact h rfl), if_neg (by decide)]
  simp
theorem row_at' {M : Mem} {j : Nat} {cs : Array Value} {t : TypeId} (a : M.nb[j]? = some (.cells cs t)) : Row M (some ⟨2 * j, 0, none⟩) cs.toList := by
  intro i hi
  refine ⟨_, rfl, ?_⟩
  rw [cell_of a, Nat.zero_add]
  have : i < cs.size := by simpa using hi
  simp [this]
theorem out_row {M : Mem} {jo : Nat} {out : List (Int × Int)} (a : M.nb[jo]? = some (.cells (outC out) 25)) (h : out.length ≤ 2) : Row M (some ⟨2 * jo, 0, none⟩) (Pls out) := by
  have r := row_at' a
  intro i hi
  have hl := Pls_len out
  match out, h with
  | [], _ => simp at hi
  | [p], _ =>
    obtain ⟨a', e1, e2⟩ := r i (by simp at hi; simp [outC]; omega)
    refine ⟨a', e1, ?_⟩
    rw [e2]
    have : i = 0 ∨ i = 1 := by simp at hi; omega
    rcases this with rfl | rfl <;> rfl
  | [p, q], _ =>
    obtain ⟨a', e1, e2⟩ := r i (by simp at hi; simp [outC]; omega)
    refine ⟨a', e1, ?_⟩
    rw [e2]
    have : i = 0 ∨ i = 1 ∨ i = 2 ∨ i = 3 := by simp at hi; omega
    rcases this with rfl | rfl | rfl | rfl <;> rfl
end Go.Zt
