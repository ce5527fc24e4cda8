/- The functions' walks: for each function and each loop a rule of what it comes to. Printed by zw2.py. -/
import Derived.Test.YtgepgbblmodagaaProg
import Derived.Test.YtgepgbblmodagaaZkA
import Derived.Test.YtgepgbblmodagaaZqT
import Derived.Test.YtgepgbblmodagaaZlT
import Derived.Test.YtgepgbblmodagaaZlA
set_option linter.unusedVariables false
set_option maxRecDepth 100000
namespace Go.Zt
open Go Go.Sim Go.Proofs

def tyZlD0 : List Sc := [.bool, .int .i64, .bool, .bool, .int .i64, .int .i64, .int .i64, .int .i64, .int .i64, .int .i64, .int .i64, .int .i64, .int .i64, .int .i64, .int .i64, .int .i64, .int .i64, .bool, .int .i64, .int .i64, .int .i64, .int .i64, .int .i64, .bool, .int .i64, .int .i64, .sl, .bool, .bool, .bool]
/-! ### zoetrope/heads.Write: function 24 -/
def K24 : List (List It × List Nat) := []
def Z24 : List (List Nat × List Nat) := []
theorem b24 : Try.prog.funcs[24]? = some Try.f24 ∧ (Orc.tab Try.prog).lookup 24 = none ∧ Try.f24.body = some (codeOf Try.f24) := ⟨by kernel_rfl, by kernel_rfl, by kernel_rfl⟩
theorem w24_0 {x0 : Option Addr} {x1 : Array Value} {x2_0 x2_1 : Int} {M : Mem} {Q : Value → Mem → Prop} (H :
    Cn Try.prog 22 #[.pointer x0, .int .u32 0, .int .i64 0] ((M.new (.cells x1 41)).new (.cells #[.int .i64 x2_0, .int .i64 x2_1] 23)) fun v1' N1' =>
     tyS (asI .i64 v1') fun x2' =>
     cnd (x2' != 0) (
      Q (.int .i64 (x2')) N1') (
      ldP tyZlD0 N1' (2 * M.nb.size) 0 fun vs3' =>
      onS (N1'.intAt .i64 (2 * (M.new (.cells x1 41)).nb.size) 0) fun x4' =>
      onS (N1'.intAt .i64 (2 * (M.new (.cells x1 41)).nb.size) (0 + 1)) fun x5' =>
      Cn Try.prog 26 #[.agg vs3'.toArray, .agg #[.int .i64 x4', .int .i64 x5']] N1' fun v6' N6' =>
       tyS (asI .i64 v6') fun x7' =>
       cnd (x7' != 0) (
        Q (.int .i64 (x7')) N6') (
        onS ((N6'.new (.cells #[.pointer x0, .pointer none, .int .i64 0] 89)).intAt .i64 (2 * (M.new (.cells x1 41)).nb.size) 0) fun x8' =>
        onS ((N6'.new (.cells #[.pointer x0, .pointer none, .int .i64 0] 89)).intAt .i64 (2 * (M.new (.cells x1 41)).nb.size) (0 + 1)) fun x9' =>
        Cn Try.prog 50 #[.pointer (some ⟨2 * N6'.nb.size, 0, none⟩), .pointer (some ⟨2 * M.nb.size, 0, none⟩), .agg #[.int .i64 x8', .int .i64 x9']] (N6'.new (.cells #[.pointer x0, .pointer none, .int .i64 0] 89)) fun v10' N10' =>
         onS (N10'.intAt .i64 (2 * N6'.nb.size) (0 + 2)) fun x11' =>
         Q (.int .i64 (x11')) N10'))) :
    Cn Try.prog 24 #[.pointer x0, .agg x1, .agg #[.int .i64 x2_0, .int .i64 x2_1]] M Q :=
  Cn.mk (cuts := K24) (sp := Z24) 900 b24 rfl rfl H fun G => by kernel_rfl


/-! ### zoetrope/heads.Read: function 35 -/
def K35 : List (List It × List Nat) := []
def Z35 : List (List Nat × List Nat) := []
theorem b35 : Try.prog.funcs[35]? = some Try.f35 ∧ (Orc.tab Try.prog).lookup 35 = none ∧ Try.f35.body = some (codeOf Try.f35) := ⟨by kernel_rfl, by kernel_rfl, by kernel_rfl⟩
theorem w35_0 {x0 : Option Addr} {x1_0 x1_1 : Int} {M : Mem} {Q : Value → Mem → Prop} (H :
    Cn Try.prog 33 #[.pointer x0, .int .i64 0] ((M.new (.cells #[.int .i64 x1_0, .int .i64 x1_1] 23)).new (.cells #[.bool false, .int .i64 0, .bool false, .bool false, .int .i64 0, .int .i64 0, .int .i64 0, .int .i64 0, .int .i64 0, .int .i64 0, .int .i64 0, .int .i64 0, .int .i64 0, .int .i64 0, .int .i64 0, .int .i64 0, .int .i64 0, .bool false, .int .i64 0, .int .i64 0, .int .i64 0, .int .i64 0, .int .i64 0, .bool false, .int .i64 0, .int .i64 0, .slice none 0 0, .bool false, .bool false, .bool false] 41)) fun v1' N1' =>
     tyS (asU 2 v1') fun cs2' =>
     tyS (asI .u32 (cs2'.getD 0 undef)) fun x3' =>
     tyS (asI .i64 (cs2'.getD 1 undef)) fun x4' =>
     cnd (x4' != 0) (
      stP (some 30) #[.bool false, .int .i64 0, .bool false, .bool false, .int .i64 0, .int .i64 0, .int .i64 0, .int .i64 0, .int .i64 0, .int .i64 0, .int .i64 0, .int .i64 0, .int .i64 0, .int .i64 0, .int .i64 0, .int .i64 0, .int .i64 0, .bool false, .int .i64 0, .int .i64 0, .int .i64 0, .int .i64 0, .int .i64 0, .bool false, .int .i64 0, .int .i64 0, .slice none 0 0, .bool false, .bool false, .bool false] N1' (2 * (M.new (.cells #[.int .i64 x1_0, .int .i64 x1_1] 23)).nb.size) 0 fun M5' =>
      ldP tyZlD0 M5' (2 * (M.new (.cells #[.int .i64 x1_0, .int .i64 x1_1] 23)).nb.size) 0 fun vs6' =>
      Q (.tuple #[.agg vs6'.toArray, .int .i64 (x4')]) M5') (
      onS (N1'.intAt .i64 (2 * M.nb.size) 0) fun x7' =>
      onS (N1'.intAt .i64 (2 * M.nb.size) (0 + 1)) fun x8' =>
      Cn Try.prog 14 #[.agg #[.int .i64 x7', .int .i64 x8']] N1' fun v9' N9' =>
       tyS (asI .i64 v9') fun x10' =>
       cnd (x10' != 0) (
        stP (some 30) #[.bool false, .int .i64 0, .bool false, .bool false, .int .i64 0, .int .i64 0, .int .i64 0, .int .i64 0, .int .i64 0, .int .i64 0, .int .i64 0, .int .i64 0, .int .i64 0, .int .i64 0, .int .i64 0, .int .i64 0, .int .i64 0, .bool false, .int .i64 0, .int .i64 0, .int .i64 0, .int .i64 0, .int .i64 0, .bool false, .int .i64 0, .int .i64 0, .slice none 0 0, .bool false, .bool false, .bool false] N9' (2 * (M.new (.cells #[.int .i64 x1_0, .int .i64 x1_1] 23)).nb.size) 0 fun M11' =>
        ldP tyZlD0 M11' (2 * (M.new (.cells #[.int .i64 x1_0, .int .i64 x1_1] 23)).nb.size) 0 fun vs12' =>
        Q (.tuple #[.agg vs12'.toArray, .int .i64 (x10')]) M11') (
        onS (((N9'.new (.cells #[.bool false, .int .i64 0, .bool false, .bool false, .int .i64 0, .int .i64 0, .int .i64 0, .int .i64 0, .int .i64 0, .int .i64 0, .int .i64 0, .int .i64 0, .int .i64 0, .int .i64 0, .int .i64 0, .int .i64 0, .int .i64 0, .bool false, .int .i64 0, .int .i64 0, .int .i64 0, .int .i64 0, .int .i64 0, .bool false, .int .i64 0, .int .i64 0, .slice none 0 0, .bool false, .bool false, .bool false] 41)).new (.cells #[.pointer none, .pointer x0, .int .i64 0] 89)).intAt .i64 (2 * M.nb.size) 0) fun x13' =>
        onS (((N9'.new (.cells #[.bool false, .int .i64 0, .bool false, .bool false, .int .i64 0, .int .i64 0, .int .i64 0, .int .i64 0, .int .i64 0, .int .i64 0, .int .i64 0, .int .i64 0, .int .i64 0, .int .i64 0, .int .i64 0, .int .i64 0, .int .i64 0, .bool false, .int .i64 0, .int .i64 0, .int .i64 0, .int .i64 0, .int .i64 0, .bool false, .int .i64 0, .int .i64 0, .slice none 0 0, .bool false, .bool false, .bool false] 41)).new (.cells #[.pointer none, .pointer x0, .int .i64 0] 89)).intAt .i64 (2 * M.nb.size) (0 + 1)) fun x14' =>
        Cn Try.prog 50 #[.pointer (some ⟨2 * (N9'.new (.cells #[.bool false, .int .i64 0, .bool false, .bool false, .int .i64 0, .int .i64 0, .int .i64 0, .int .i64 0, .int .i64 0, .int .i64 0, .int .i64 0, .int .i64 0, .int .i64 0, .int .i64 0, .int .i64 0, .int .i64 0, .int .i64 0, .bool false, .int .i64 0, .int .i64 0, .int .i64 0, .int .i64 0, .int .i64 0, .bool false, .int .i64 0, .int .i64 0, .slice none 0 0, .bool false, .bool false, .bool false] 41)).nb.size, 0, none⟩), .pointer (some ⟨2 * N9'.nb.size, 0, none⟩), .agg #[.int .i64 x13', .int .i64 x14']] ((N9'.new (.cells #[.bool false, .int .i64 0, .bool false, .bool false, .int .i64 0, .int .i64 0, .int .i64 0, .int .i64 0, .int .i64 0, .int .i64 0, .int .i64 0, .int .i64 0, .int .i64 0, .int .i64 0, .int .i64 0, .int .i64 0, .int .i64 0, .bool false, .int .i64 0, .int .i64 0, .int .i64 0, .int .i64 0, .int .i64 0, .bool false, .int .i64 0, .int .i64 0, .slice none 0 0, .bool false, .bool false, .bool false] 41)).new (.cells #[.pointer none, .pointer x0, .int .i64 0] 89)) fun v15' N15' =>
         onS (N15'.intAt .i64 (2 * (N9'.new (.cells #[.bool false, .int .i64 0, .bool false, .bool false, .int .i64 0, .int .i64 0, .int .i64 0, .int .i64 0, .int .i64 0, .int .i64 0, .int .i64 0, .int .i64 0, .int .i64 0, .int .i64 0, .int .i64 0, .int .i64 0, .int .i64 0, .bool false, .int .i64 0, .int .i64 0, .int .i64 0, .int .i64 0, .int .i64 0, .bool false, .int .i64 0, .int .i64 0, .slice none 0 0, .bool false, .bool false, .bool false] 41)).nb.size) (0 + 2)) fun x16' =>
         cnd (x16' != 0) (
          onS (N15'.intAt .i64 (2 * (N9'.new (.cells #[.bool false, .int .i64 0, .bool false, .bool false, .int .i64 0, .int .i64 0, .int .i64 0, .int .i64 0, .int .i64 0, .int .i64 0, .int .i64 0, .int .i64 0, .int .i64 0, .int .i64 0, .int .i64 0, .int .i64 0, .int .i64 0, .bool false, .int .i64 0, .int .i64 0, .int .i64 0, .int .i64 0, .int .i64 0, .bool false, .int .i64 0, .int .i64 0, .slice none 0 0, .bool false, .bool false, .bool false] 41)).nb.size) (0 + 2)) fun x17' =>
          cnd (decide (Option.map (fun a : Addr => a.block) (some ⟨2 * (M.new (.cells #[.int .i64 x1_0, .int .i64 x1_1] 23)).nb.size, 0, none⟩) = some (2 * (N9'.new (.cells #[.bool false, .int .i64 0, .bool false, .bool false, .int .i64 0, .int .i64 0, .int .i64 0, .int .i64 0, .int .i64 0, .int .i64 0, .int .i64 0, .int .i64 0, .int .i64 0, .int .i64 0, .int .i64 0, .int .i64 0, .int .i64 0, .bool false, .int .i64 0, .int .i64 0, .int .i64 0, .int .i64 0, .int .i64 0, .bool false, .int .i64 0, .int .i64 0, .slice none 0 0, .bool false, .bool false, .bool false] 41)).nb.size))) (
           False) (
           stP (some 30) #[.bool false, .int .i64 0, .bool false, .bool false, .int .i64 0, .int .i64 0, .int .i64 0, .int .i64 0, .int .i64 0, .int .i64 0, .int .i64 0, .int .i64 0, .int .i64 0, .int .i64 0, .int .i64 0, .int .i64 0, .int .i64 0, .bool false, .int .i64 0, .int .i64 0, .int .i64 0, .int .i64 0, .int .i64 0, .bool false, .int .i64 0, .int .i64 0, .slice none 0 0, .bool false, .bool false, .bool false] N15' (2 * (M.new (.cells #[.int .i64 x1_0, .int .i64 x1_1] 23)).nb.size) 0 fun M18' =>
           ldP tyZlD0 M18' (2 * (M.new (.cells #[.int .i64 x1_0, .int .i64 x1_1] 23)).nb.size) 0 fun vs19' =>
           Q (.tuple #[.agg vs19'.toArray, .int .i64 (x17')]) M18')) (
          ldP tyZlD0 N15' (2 * N9'.nb.size) 0 fun vs20' =>
          stP (some 30) vs20'.toArray N15' (2 * (M.new (.cells #[.int .i64 x1_0, .int .i64 x1_1] 23)).nb.size) 0 fun M21' =>
          ldP tyZlD0 M21' (2 * (M.new (.cells #[.int .i64 x1_0, .int .i64 x1_1] 23)).nb.size) 0 fun vs22' =>
          Q (.tuple #[.agg vs22'.toArray, .int .i64 0]) M21')))) :
    Cn Try.prog 35 #[.pointer x0, .agg #[.int .i64 x1_0, .int .i64 x1_1]] M Q :=
  Cn.mk (cuts := K35) (sp := Z35) 900 b35 rfl rfl H fun G => by kernel_rfl


end Go.Zt


/- The functions' walks: for each function and each loop a rule of what it comes to. Printed by zw2.py. -/
set_option linter.unusedVariables false
set_option maxRecDepth 100000
namespace Go.Zt
open Go Go.Sim Go.Proofs

end Go.Zt


/- Layer 20: Write: the program's and the document's. -/
set_option linter.unusedSimpArgs false
set_option linter.unusedVariables false
set_option maxRecDepth 100000
namespace Go.Zt
open Go Go.Sim Go.Proofs Go.RowKit

/-- A writer of the program's, and what it has of its own. -/
structure Ws (U : Nat → Prop) (M : Mem) (j : Nat) (l : List Nat) : Prop where
  dev : Wr (fun i => U i ∨ M.nb.size ≤ i) M j l
  fl : ∀ i, U i ∨ i = j → M.floor ≤ i
  fs : M.floor ≤ M.nb.size
  ub : ∀ i, U i → i < M.nb.size
/-- A writer of the document's. -/
structure Wt (U : Nat → Prop) (M : Mem) (j : Nat) (l : List Nat) : Prop where
  dev : Wf (fun i => U i ∨ M.nb.size ≤ i) M j l
  fl : ∀ i, U i ∨ i = j → M.floor ≤ i
  fs : M.floor ≤ M.nb.size
  ub : ∀ i, U i → i < M.nb.size
section
variable {U : Nat → Prop} {M N : Mem} {j k : Nat} {l l' : List Nat}
theorem Ws.lt (h : Ws U M j l) : j < M.nb.size := by obtain ⟨A, c, g1, _⟩ := h.dev.ex; exact lt_of_at g1
theorem Ws.out (h : Ws U M j l) : ¬ U j := fun hu => h.dev.out (.inl hu)
theorem Ws.chg {T : Nat → Prop} (h : Ws U M j l) (k : Chg T M N) (hT : ∀ i, i < M.nb.size → U i ∨ i = j → ¬ T i) : Ws U N j l := by
  have z := k.size
  have hl := h.lt
  refine ⟨((h.dev.shrink (T := U) (fun i hi hs => hs.resolve_right (by omega)) h.out).chg k fun i hi hs => hT i hi hs).shrink (fun i _ hs => .inl hs) fun hs => hs.elim h.out fun q => by omega, fun i hi => by rw [k.floor]; exact h.fl i hi, by rw [k.floor]; exact Nat.le_trans h.fs z, fun i hi => Nat.lt_of_lt_of_le (h.ub i hi) z⟩
theorem Ws.keep (h : Ws U M j l) (k : Keep M N) : Ws U N j l := h.chg k fun _ _ _ x => x
theorem Ws.flw (h : Ws U M j l) : Fl (fun i => U i ∨ M.nb.size ≤ i) M j :=
  ⟨fun i hi => by
    rcases hi with (hi | hi) | hi
    · exact h.fl i (.inl hi)
    · exact Nat.le_trans h.fs hi
    · exact h.fl i (.inr hi), fun i hi => .inr hi⟩
theorem Ws.of (h : Ws U M j l) (C : Chg (fun i => (U i ∨ M.nb.size ≤ i) ∨ i = j) M N) (W : Wr (fun i => U i ∨ M.nb.size ≤ i) N j l') : ∃ U', Ext (· = j) U M U' N ∧ Ws U' N j l' := by
  have z := C.size
  have hl := h.lt
  refine ⟨fun i => U i ∨ (M.nb.size ≤ i ∧ i < N.nb.size), ⟨fun i hi => hi.imp id fun q => q.1, C.mono fun i hi hs => hs.imp (fun q => q.resolve_right (by omega)) id⟩, W.shrink (fun i hi hs => .inl (hs.imp id fun q => ⟨q, hi⟩)) ?_, ?_, by rw [C.floor]; exact Nat.le_trans h.fs z, ?_⟩
  · rintro ((hu | hu) | hu)
    · exact h.out hu
    · omega
    · omega
  · intro i hi
    rw [C.floor]
    rcases hi with (hi | hi) | hi
    · exact h.fl i (.inl hi)
    · exact Nat.le_trans h.fs hi.1
    · exact h.fl i (.inr hi)
  · rintro i (hi | hi)
    · have := h.ub i hi; omega
    · exact hi.2
/-- A row that stands apart of a writer. -/
def FarW (U : Nat → Prop) (j : Nat) (M : Mem) (A : Option Addr) : Prop := ∀ a, A = some a → a.block % 2 = 1 ∨ (a.block / 2 < M.nb.size ∧ ¬ U (a.block / 2) ∧ a.block / 2 ≠ j)
theorem FarW.ext {A : Option Addr} {U' : Nat → Prop} (hF : FarW U j M A) (E : Ext (· = j) U M U' N) : FarW U' j N A := fun a ha =>
  (hF a ha).imp id fun ⟨q1, q2, q3⟩ => ⟨Nat.lt_of_lt_of_le q1 E.chg.size, fun hu => (E.sub _ hu).elim q2 fun q => by omega, q3⟩
theorem FarW.row {A : Option Addr} {U' : Nat → Prop} {L : List Value} (hF : FarW U j M A) (hR : Row M A L) (E : Ext (· = j) U M U' N) : Row N A L :=
  hR.chg E.chg fun a ha => (hF a ha).imp id fun ⟨q1, q2, q3⟩ => fun hs => hs.elim q2 q3
theorem FarW.keep {A : Option Addr} (hF : FarW U j M A) (K : Keep M N) : FarW U j N A := fun a ha => (hF a ha).imp id fun ⟨q1, q2, q3⟩ => ⟨Nat.lt_of_lt_of_le q1 K.size, q2, q3⟩
end
section
variable {U : Nat → Prop} {M N : Mem} {jd : Nat} {l : List Nat} {h : Hd} {X : List Sg} {w e : Int}
theorem may_len (hm : h.may X w e = true) : X.length ≤ 8 := by
  have mS : mayS w e = true := by unfold Hd.may at hm; simp only [Bool.and_eq_true] at hm; exact hm.1.1.1
  have mF : h.mayF X = true := by
    cases hx : h.ex with
    | true =>
      unfold Hd.may at hm
      simp only [hx, if_true, Bool.and_eq_true] at hm
      exact (of_decide_eq_true hm.1.1.2.2).2.2.2.2.2.2.2.2.2
    | false => exact ((may_iff hx mS).1 hm).2.2.2.2.2.2
  unfold Hd.mayF at mF
  split at mF
  · have := of_decide_eq_true mF; omega
  · simp only [Bool.and_eq_true, decide_eq_true_eq] at mF
    have hc := mF.1.2.1
    split at hc
    · rw [hc.2.2]; exact Nat.pow_le_pow_right (n := 2) (by decide) (show h.cb.toNat ≤ 3 by omega)
    · omega
/-- What is written of a header. -/
def wB (h : Hd) (X : List Sg) (w e : Int) : List Nat := if h.may X w e then hBits h X else []
set_option maxHeartbeats 1000000 in
theorem c24 (hW : Ws U M jd l) (hl : l.length ≤ 70000000000) (hn : h.n = X.length) (hb : h.n ≤ 1048576) (hR : Row M h.A (Sgs X)) (hF : FarW U jd M h.A) :
    Cn Try.prog 24 #[PtrB jd, .agg h.cs, .agg #[.int .i64 w, .int .i64 e]] M fun u N => u = .int .i64 (er (h.may X w e) : Nat) ∧ ∃ U', Ext (· = jd) U M U' N ∧ Ws U' N jd (l ++ wB h X w e) := by
  have ld := hW.lt
  have a := Mem.new_at M (.cells h.cs 41)
  have K1 : Keep M (M.new (.cells h.cs 41)) := .new _ _
  have z1 := Mem.new_size M (.cells h.cs 41)
  refine w24_0 ?_
  generalize M.new (.cells h.cs 41) = M1 at a K1 z1 ⊢
  have s := Mem.new_at M1 (.cells #[.int .i64 w, .int .i64 e] 23)
  have K2 : Keep M1 (M1.new (.cells #[.int .i64 w, .int .i64 e] 23)) := .new _ _
  have a2 := at_keep a K2
  generalize M1.new (.cells #[.int .i64 w, .int .i64 e] 23) = M2 at s K2 a2 ⊢
  have KK := K1.trans K2
  have W2 := hW.keep KK
  refine Cn.mono (c22 W2.flw W2.dev (v := 0) (y := 0) rfl (by decide) 0 (by omega)) ?_
  have e0 : wFixed l 0 0 = (0, l) := by unfold wFixed; rw [if_neg (by decide)]; simp [bitsN]
  rw [e0]
  rintro _ N1 ⟨rfl, C, W⟩
  obtain ⟨U3, E3, W3⟩ := W2.of C W
  have ub : ∀ i, M.nb.size ≤ i → ¬ U i := fun i hi hu => by have := hW.ub i hu; omega
  have a3 := E3.at a2 (ub _ (Nat.le_refl _)) (by omega)
  have s3 := E3.at s (ub _ (by omega)) (by omega)
  have hR3 := (hF.keep KK).row (hR.keep KK) E3
  have hF3 := (hF.keep KK).ext E3
  refine ty rfl (cF rfl (ldA a3.1 rfl (on (int_of s3.1 rfl) (on (int_of s3.1 rfl) (Cn.mono (c26 W3.fs hn hb hR3) ?_)))))
  rintro _ N6 ⟨rfl, K6⟩
  have E6 : Ext (· = jd) U M U3 N6 := ((Ext.of (P := (· = jd)) (U := U) KK fun i _ h => h.elim).trans E3).trans (Ext.of K6 fun i _ h => h.elim)
  have W6 := W3.keep K6
  have z3 := E3.chg.size
  have z6 := K6.size
  have z2 := K2.size
  refine ty rfl (cne (fun hm => ⟨rfl, U3, E6, ?_⟩) fun hm => ?_)
  · have : wB h X w e = [] := by
      unfold wB
      cases hmm : h.may X w e
      · rfl
      · rw [hmm] at hm; exact absurd rfl hm
    rw [this, List.append_nil]; exact W6
  have hm : h.may X w e = true := by
    cases hmm : h.may X w e
    · rw [hmm] at hm; cases hm
    · rfl
  have mS : mayS w e = true := by unfold Hd.may at hm; simp only [Bool.and_eq_true] at hm; exact hm.1.1.1
  have sz := mayS_of mS
  have a6 := at_keep a3.1 K6
  have s6 := at_keep s3.1 K6
  have cc := Mem.new_at N6 (.cells #[PtrB jd, .pointer none, .int .i64 0] 89)
  have K7 : Keep N6 (N6.new (.cells #[PtrB jd, .pointer none, .int .i64 0] 89)) := .new _ _
  generalize N6.new (.cells #[PtrB jd, .pointer none, .int .i64 0] 89) = N7 at cc K7 ⊢
  have W7 := W6.keep K7
  have a7 := at_keep a6 K7
  have s7 := at_keep s6 K7
  have n3 : ¬ U3 N6.nb.size := fun hu => by have := W6.ub _ hu; omega
  have hR7 := (hR3.keep K6).keep K7
  have hF7 := (hF3.keep K6).keep K7
  have z7 := K7.size
  have fl6 : N7.floor = M.floor := by rw [K7.floor, K6.floor, E3.chg.floor, KK.floor]
  have H : Hm U3 N7 N6.nb.size jd M.nb.size (.w l, 0, h) (90 + 90) :=
    ⟨⟨W7.dev, fun i hi => by
      rcases hi with hi | hi | hi
      · exact W7.fl i (.inl hi)
      · exact W7.fl i (.inr hi)
      · have := W6.fs; rw [K7.floor]; omega, W7.fs, cc, n3, by omega, by simp only [Dv.len]; omega, W7.ub⟩, a7, a3.2, by omega, by omega, by rw [fl6]; exact hW.fs⟩
  have hX : Xm U3 N7 N6.nb.size jd M.nb.size (.w l, 0, h) X := ⟨hn, hR7, fun a ha => (hF a ha).elim .inl fun ⟨q1, q2, q3⟩ => (hF7 a ha).imp id fun ⟨p1, p2, p3⟩ => ⟨p1, p2, by omega, p3, by omega⟩⟩
  refine on (int_of s7 rfl) (on (int_of s7 rfl) (Cn.mono (c50 (k := 90) (by omega) (by omega) H hX (may_len hm) fun b p hc => by cases hc) ?_))
  rintro _ N10 ⟨_, U', c', X', hT, E, HH, _, _⟩
  obtain ⟨rfl, rfl⟩ := HeadT_w hm hT
  have hw : wB h X' w e = hBits h X' := by unfold wB; rw [hm]; rfl
  have er0 : (er (h.may X' w e) : Nat) = 0 := by rw [hm]; rfl
  refine on (int_of HH.st.cod rfl) ⟨by rw [er0], U', E6.step K7 E fun i hi => ?_, HH.st.dev |> fun q => ?_⟩
  · rcases hi with hi | hi | hi
    · exact .inr (by omega)
    · exact .inl hi
    · exact .inr (by omega)
  · rw [hw]
    exact ⟨q, fun i hi => HH.st.fl i (hi.imp id .inl), HH.st.fs, HH.st.ub⟩
end
end Go.Zt


/- Layer 20: the document's Write. -/
set_option linter.unusedSimpArgs false
set_option linter.unusedVariables false
set_option maxRecDepth 100000
namespace Go.Zt
open Go Go.Sim Go.Proofs Go.RowKit

section
variable {U U0 : Nat → Prop} {M N M0 : Mem} {jd jh k : Nat} {l : List Nat} {h : Hd} {X : List Sg} {w e : Int}
section
variable (a : M0.nb[jh]? = some (.cells h.cs 41)) (nh : ¬ U0 jh ∧ jh ≠ jd)
include a nh
end
end
end Go.Zt


/- The functions' walks: for each function and each loop a rule of what it comes to. Printed by zw2.py. -/
set_option linter.unusedVariables false
set_option maxRecDepth 100000
namespace Go.Zt
open Go Go.Sim Go.Proofs

/-! ### zoetrope/zoetropelaw20.HeadsWrites: function 4 -/
def K4 : List (List It × List Nat) := [([.rg [1,1,1,1,1,1,1,1,1,1,0] 13, .code [1,1,1,1,1,1,1,1,1,1,1]], [3, 7, 8, 9, 47]), ([.rg [1,1,1,1,1,1,1,1,1,1,0] 20, .code [1,1,1,1,1,1,1,1,1,1,1]], [3, 7, 54]), ([.rg [1,1,1,1,1,1,1,1,1,1,0] 25, .code [1,1,1,1,1,1,1,1,1,1,1]], [59])]
end Go.Zt


/- Layer 20: HeadsWrites: what is seen of a head; Copy; the law. -/
set_option linter.unusedSimpArgs false
set_option linter.unusedVariables false
set_option maxRecDepth 100000
namespace Go.Zt
open Go Go.Sim Go.Proofs Go.RowKit

section
variable {U V : Nat → Prop} {M N M0 : Mem} {jp jq : Nat} {l l' : List Nat} {h : Hd} {X : List Sg} {w e : Int}
end
end Go.Zt


/- Layer 20: HeadsReads: the program's Read. -/
set_option linter.unusedSimpArgs false
set_option linter.unusedVariables false
set_option maxRecDepth 100000
namespace Go.Zt
open Go Go.Sim Go.Proofs Go.RowKit

abbrev zP : Hd := ⟨false, 0, false, false, 0, 0, 0, 0, 0, 0, 0, 0, 0, 0, 0, 0, 0, false, 0, 0, 0, 0, 0, false, 0, 0, none, 0, 0, false, false, false⟩
/-- What Read tells. -/
def TolP (U : Nat → Prop) (jq lo : Nat) (M0 : Mem) (T : Cd → List Sg → Prop) : Value → Mem → Prop := fun v N =>
  ∃ U' c X, T c X ∧ (∀ i, U' i → U i ∨ lo ≤ i) ∧ Chg (fun i => U i ∨ i = jq ∨ lo ≤ i) M0 N ∧ DvM U' N jq c.1 ∧ (∀ i, U' i → i < N.nb.size) ∧ ((c.2.1 ≠ 0 ∧ v = .tuple #[.agg zP.cs, .int .i64 (c.2.1 : Nat)]) ∨ (c.2.1 = 0 ∧ v = .tuple #[.agg c.2.2.cs, .int .i64 0] ∧ c.2.2.n = X.length ∧ Row N c.2.2.A (Sgs X) ∧ ∀ a, c.2.2.A = some a → a.block % 2 = 1 ∨ lo ≤ a.block / 2))
section
variable {U : Nat → Prop} {M N M0 : Mem} {jq p : Nat} {b : List Nat} {w e : Int}
theorem DvM.chg1 {d : Dv} {j : Nat} {T : Nat → Prop} (h : DvM U M j d) (hr : ∃ b p, d = .r b p) (k : Chg T M N) (hj : ¬ T j) (hS : ∀ i, U i → ¬ T i) : DvM U N j d := by
  obtain ⟨b, p, rfl⟩ := hr
  exact Rdr.chg h k hj hS
theorem sg1_isW (d : Dv) (e : Nat) (x : Sg) : (sg1 d e x).1.isW = d.isW := by
  unfold sg1
  dsimp only
  rw [numD_isW, numD_isW, numD_isW, numD_isW]
theorem sgsD_isW : ∀ (X : List Sg) (d : Dv) (e : Nat), (sgsD d e X).1.isW = d.isW
  | [], _, _ => rfl
  | x :: X, d, e => by simp only [sgsD]; rw [sgsD_isW X, sg1_isW]
theorem StrT_isW {c0 c : Cd} {X0 X : List Sg} (h : StrT c0 X0 c X) : c.1.isW = c0.1.isW := by
  obtain ⟨c1, h1, c2, h2, c3, X3, h3, h4, _⟩ := h
  have q1 : c1.1.isW = c0.1.isW := by rw [h1]; exact numD_isW ..
  have q2 : c2.1.isW = c1.1.isW := by rw [h2]; exact numD_isW ..
  have q3 : c3.1.isW = c2.1.isW := by
    split at h3
    · rw [h3.1]
    · split at h3
      · obtain ⟨⟨A, m, hc⟩, _⟩ := h3; rw [hc]
      · rw [h3.1]
  have q4 : c.1.isW = c3.1.isW := by rw [h4]; exact sgsD_isW ..
  rw [q4, q3, q2, q1]
theorem FiltT_isW {c0 c : Cd} {X0 X : List Sg} (h : FiltT c0 X0 c X) : c.1.isW = c0.1.isW := by
  obtain ⟨c1, h1, c2, h2, c3, h3, c4, h4, c5, h5, c6, h6, c7, h7, c8, h8, c9, h9, h10⟩ := h
  have q1 : c1.1.isW = c0.1.isW := by rw [h1]; exact numD_isW ..
  have q2 : c2.1.isW = c1.1.isW := by rw [h2]; exact numD_isW ..
  have q3 : c3.1.isW = c2.1.isW := by rw [h3]; exact numD_isW ..
  have q4 : c4.1.isW = c3.1.isW := by rw [h4]; exact numD_isW ..
  have q5 : c5.1.isW = c4.1.isW := by rw [h5]; exact numD_isW ..
  have q6 : c6.1.isW = c5.1.isW := by rw [h6]; exact flagD_isW ..
  have q7 : c7.1.isW = c6.1.isW := by
    split at h7
    · exact StrT_isW h7
    · rw [h7.1]
  have q8 : c8.1.isW = c7.1.isW := by rw [h8]; exact flagD_isW ..
  have q9 : c9.1.isW = c8.1.isW := by rw [h9]; exact flagD_isW ..
  have q10 : c.1.isW = c9.1.isW := by rw [h10]; exact flagD_isW ..
  rw [q10, q9, q8, q7, q6, q5, q4, q3, q2, q1]
theorem TailT_isW {c0 c : Cd} {X0 X : List Sg} (h : TailT w e c0 X0 c X) : c.1.isW = c0.1.isW := by
  obtain ⟨c1, h1, c2, h2, c3, h3, c4, h4, c5, h5, c6, h6, c7, h7, c8, h8, h9⟩ := h
  have q1 : c1.1.isW = c0.1.isW := by rw [h1]; exact deltaD_isW ..
  have q2 : c2.1.isW = c1.1.isW := by rw [h2]; exact deltaD_isW ..
  have q3 : c3.1.isW = c2.1.isW := by rw [h3]; exact deltaD_isW ..
  have q4 : c4.1.isW = c3.1.isW := by rw [h4]; exact deltaD_isW ..
  have q5 : c5.1.isW = c4.1.isW := by rw [h5]; exact deltaD_isW ..
  have q6 : c6.1.isW = c5.1.isW := by rw [h6]; exact logD_isW ..
  have q7 : c7.1.isW = c6.1.isW := by rw [h7]; exact logD_isW ..
  have q8 : c8.1.isW = c7.1.isW := by rw [h8]; exact flagD_isW ..
  have q9 : c.1.isW = c8.1.isW := by
    split at h9
    · rw [h9.1]
    · exact FiltT_isW h9
  rw [q9, q8, q7, q6, q5, q4, q3, q2, q1]
theorem HeadT_isW {c0 c : Cd} {X0 X : List Sg} (h : HeadT w e c0 X0 c X) : c.1.isW = c0.1.isW := by
  obtain ⟨c1, h1, h⟩ := h
  have q1 : c1.1.isW = c0.1.isW := by rw [h1]; exact flagD_isW ..
  split at h
  · rw [h.1, ← q1]; exact numD_isW ..
  · obtain ⟨c2, h2, c3, h3, c4, h4, c5, h5, c6, h6, h7⟩ := h
    have q2 : c2.1.isW = c1.1.isW := by rw [h2]; exact flagD_isW ..
    have q3 : c3.1.isW = c2.1.isW := by rw [h3]; exact flagD_isW ..
    have q4 : c4.1.isW = c3.1.isW := by rw [h4]; exact numD_isW ..
    have q5 := h5.keepA.2.2
    have q6 : c6.1.isW = c5.1.isW := by rw [h6]; exact numD_isW ..
    rw [TailT_isW h7, q6, q5, q4, q3, q2, q1]
set_option maxHeartbeats 1000000 in
theorem c35 (D : Rdr U M jq b p) (fq : M.floor ≤ jq) (fs : M.floor ≤ M.nb.size) (fu : ∀ i, U i → M.floor ≤ i) (ub : ∀ i, U i → i < M.nb.size) :
    Cn Try.prog 35 #[PtrB jq, .agg #[.int .i64 w, .int .i64 e]] M (if mayS w e = true then TolP U jq M.nb.size M (HeadT w e (.r b p, 0, zP) []) else fun v N => v = .tuple #[.agg zP.cs, .int .i64 2] ∧ Chg (fun i => i = jq ∨ M.nb.size ≤ i) M N ∧ Rdr U N jq b p) := by
  have lq : jq < M.nb.size := by obtain ⟨A, c, g, _⟩ := D.ex; exact lt_of_at g
  have a := Mem.new_at M (.cells #[.int .i64 w, .int .i64 e] 23)
  have K1 : Keep M (M.new (.cells #[.int .i64 w, .int .i64 e] 23)) := .new _ _
  have s1 := Mem.new_size M (.cells #[.int .i64 w, .int .i64 e] 23)
  refine w35_0 ?_
  generalize M.new (.cells #[.int .i64 w, .int .i64 e] 23) = M1 at a K1 s1 ⊢
  have bz := Mem.new_at M1 (.cells zP.cs 41)
  have K2 : Keep M1 (M1.new (.cells zP.cs 41)) := .new _ _
  have s2 := Mem.new_size M1 (.cells zP.cs 41)
  have a2 := at_keep a K2
  show Cn Try.prog 33 _ (M1.new (.cells zP.cs 41)) _
  generalize M1.new (.cells zP.cs 41) = M2 at bz K2 s2 a2 ⊢
  have T2 := K1.trans K2
  have e0 : rFixed b p 0 = (0, 0, p) := by
    unfold rFixed
    have := D.pos
    rw [if_neg (by decide), if_neg (by omega)]
    rfl
  refine Cn.mono (c33 (D.keep T2) (by rw [T2.floor]; exact fq) 0) ?_
  rw [e0]
  rintro _ M3 ⟨rfl, C3, z3, D3⟩
  have a3 := at_chg a2 C3 (by omega)
  have b3 := at_chg bz C3 (by omega)
  have T3 : Chg (· = jq) M M3 := (T2.mono fun i _ h => h.elim).trans C3
  refine ty rfl (ty rfl (ty rfl (cF rfl (on (int_of (i := 0) a3 rfl) (on (int_of (i := 0 + 1) a3 rfl) (Cn.mono c14 ?_))))))
  rintro _ M4 ⟨rfl, K4⟩
  have T4 : Chg (· = jq) M M4 := T3.trans (K4.mono fun i _ h => h.elim)
  have a4 := at_keep a3 K4
  have b4 := at_keep b3 K4
  have D4 := D3.keep K4
  have f4 : M4.floor ≤ M.nb.size := by rw [T4.floor]; exact fs
  have z4 := K4.size
  have nU : ∀ i, M.nb.size ≤ i → ¬ U i := fun i hi h => by have := ub _ h; omega
  refine ty rfl (cne (fun hm => ?_) fun hm => ?_)
  · have hm' : mayS w e = false := by
      unfold chkS at hm
      cases h : mayS w e
      · rfl
      · rw [h] at hm; exact absurd rfl hm
    have e2 : chkS w e = 2 := by unfold chkS; rw [hm']; rfl
    rw [hm', e2]
    exact stA (cs := zP.cs) b4 (by omega) rfl rfl rfl fun M5 C5 z5 u5 => ldA u5 rfl ⟨rfl, (T4.mono fun i _ h => .inl h).trans (C5.mono fun i _ h => by omega), D4.chg C5 (by omega) fun i hi h => nU _ (by omega) hi⟩
  · have hm' : mayS w e = true := by
      unfold chkS at hm
      cases h : mayS w e
      · rw [h] at hm; cases hm
      · rfl
    rw [if_pos hm']
    have hmm := of_decide_eq_true hm'
    have hw : 16 ≤ w ∧ w ≤ 256 := ⟨hmm.1, hmm.2.1⟩
    have he : 16 ≤ e ∧ e ≤ 256 := ⟨hmm.2.2.1, hmm.2.2.2.1⟩
    have hA := Mem.new_at M4 (.cells zP.cs 41)
    have K5 : Keep M4 (M4.new (.cells zP.cs 41)) := .new _ _
    have s5 := Mem.new_size M4 (.cells zP.cs 41)
    show onS (((M4.new (.cells zP.cs 41)).new (.cells #[.pointer none, PtrB jq, .int .i64 0] 89)).intAt .i64 (2 * M.nb.size) 0) _
    generalize M4.new (.cells zP.cs 41) = M5 at hA K5 s5 ⊢
    have cA := Mem.new_at M5 (.cells #[.pointer none, PtrB jq, .int .i64 0] 89)
    have K6 : Keep M5 (M5.new (.cells #[.pointer none, PtrB jq, .int .i64 0] 89)) := .new _ _
    have s6 := Mem.new_size M5 (.cells #[.pointer none, PtrB jq, .int .i64 0] 89)
    generalize M5.new (.cells #[.pointer none, PtrB jq, .int .i64 0] 89) = M6 at cA K6 s6 ⊢
    have K46 := K5.trans K6
    have T6 : Chg (· = jq) M M6 := T4.trans (K46.mono fun i _ h => h.elim)
    have a6 := at_keep a4 K46
    have b6 := at_keep b4 K46
    have h6 := at_keep hA K6
    have f6 : M6.floor ≤ M.nb.size := by rw [T6.floor]; exact fs
    have H : Hm U M6 M5.nb.size jq M4.nb.size (.r b p, 0, zP) (0 + 90) := ⟨⟨D4.keep K46, fun i hi => by
      rcases hi with hi | hi | hi
      · rw [T6.floor]; exact fu i hi
      · rw [hi, T6.floor]; exact fq
      · omega, by omega, cA, nU _ (by omega), by omega, (by show 0 + 40 * (0 + 90) ≤ 80000000000; decide), fun i hi => by have := ub i hi; omega⟩, h6, nU _ (by omega), by omega, by omega, by omega⟩
    have HX : Xm U M6 M5.nb.size jq M4.nb.size (.r b p, 0, zP) [] := ⟨rfl, fun i hi => by simp [Sgs] at hi, fun a ha => by cases ha⟩
    refine on (int_of a6 rfl) (on (int_of a6 rfl) (Cn.mono (c50 (k := 0) hw he H HX (by simp) fun _ _ _ => rfl) ?_))
    rintro _ N ⟨_, U', c', X', hT, E, H', HX', hAA⟩
    have isr := isW_r (HeadT_isW hT)
    have bN := (E.at b6 (nU _ (by omega)) (by omega)).1
    have zN := E.chg.size
    have CE : Chg (fun i => U i ∨ i = jq ∨ M.nb.size ≤ i) M N := (T6.mono fun i _ h => .inr (.inl h)).trans (E.chg.mono fun i _ h => by rcases h with h | h | h | h <;> first | exact .inl h | omega)
    have far : ∀ a, c'.2.2.A = some a → M6.nb.size ≤ a.block / 2 := fun a ha => (hAA a ha).elim (fun q => by cases q) id
    have nU' : ¬ U' M1.nb.size := fun h => by
      rcases E.sub _ h with h | h
      · exact nU _ (by omega) h
      · omega
    have sub : ∀ i, U' i → U i ∨ M.nb.size ≤ i := fun i hi => (E.sub i hi).imp id fun h => by omega
    refine on (int_of (i := 0 + 2) H'.st.cod rfl) (cne (fun hn => on (int_of (i := 0 + 2) H'.st.cod rfl) (cF (decide_eq_false ?_) ?_)) fun hn => ?_)
    · intro hh
      have : (2 * M1.nb.size : Nat) = 2 * M5.nb.size := Option.some.inj hh
      omega
    · exact stA (cs := zP.cs) bN (by rw [CE.floor]; omega) rfl rfl rfl fun N1 C1 z1 u1 => ldA u1 rfl ⟨U', c', X', hT, sub, CE.trans (C1.mono fun i _ h => by omega), H'.st.dev.chg1 isr C1 (by omega) fun i hi h => nU' (h ▸ hi), fun i hi => by rw [z1]; exact H'.st.ub i hi, .inl ⟨by omega, rfl⟩⟩
    · exact ldA H'.hd rfl (stA (cs := c'.2.2.cs) bN (by rw [CE.floor]; omega) rfl rfl rfl fun N1 C1 z1 u1 => ldA u1 rfl ⟨U', c', X', hT, sub, CE.trans (C1.mono fun i _ h => by omega), H'.st.dev.chg1 isr C1 (by omega) fun i hi h => nU' (h ▸ hi), fun i hi => by rw [z1]; exact H'.st.ub i hi, .inr ⟨by omega, rfl, HX'.n, HX'.row.chg C1 fun a ha => .inr fun h => by have := far a ha; omega, fun a ha => .inr (by have := far a ha; omega)⟩⟩)
end
end Go.Zt


/- The functions' walks: for each function and each loop a rule of what it comes to. Printed by zw2.py. -/
set_option linter.unusedVariables false
set_option maxRecDepth 100000
namespace Go.Zt
open Go Go.Sim Go.Proofs

end Go.Zt


/- Layer 20: HeadsReads: the document's reader of headers. -/
set_option linter.unusedSimpArgs false
set_option linter.unusedVariables false
set_option maxRecDepth 100000
namespace Go.Zt
open Go Go.Sim Go.Proofs Go.RowKit

/-- Where the document's reader stands, its fault, and the header. -/
abbrev RS := Nat × Nat × Hd
structure Rm (S : Nat → Prop) (M : Mem) (jr jq jh : Nat) (b : List Nat) (r : RS) : Prop where
  rd : RefR S M jq b r.1
  cod : M.nb[jr]? = some (.cells #[PtrB jq, .int .i64 (r.2.1 : Nat)] 109)
  hd : M.nb[jh]? = some (.cells r.2.2.cs 41)
  n1 : jr ≠ jq
  n2 : jh ≠ jq
  n3 : jh ≠ jr
  s1 : ¬ S jr
  s2 : ¬ S jh
  fr : M.floor ≤ jr
  fq : M.floor ≤ jq
  fh : M.floor ≤ jh
  fs : M.floor ≤ M.nb.size
  su : ∀ i, S i → i < jq
section
variable {S : Nat → Prop} {M N M0 : Mem} {jr jq jh lo : Nat} {b : List Nat} {r : RS}
variable {Q : Mem → Prop}
end
end Go.Zt


/- Layer 20: HeadsReads: the document's filters and Read. -/
set_option linter.unusedSimpArgs false
set_option linter.unusedVariables false
set_option maxRecDepth 100000
namespace Go.Zt
open Go Go.Sim Go.Proofs Go.RowKit

section
variable {S : Nat → Prop} {M N M0 : Mem} {jr jq jh ja jb js lo : Nat} {b : List Nat} {r : RS}
end
end Go.Zt


/- Layer 20: HeadsReads: the document's filters, done. -/
set_option linter.unusedSimpArgs false
set_option linter.unusedVariables false
set_option maxRecDepth 100000
namespace Go.Zt
open Go Go.Sim Go.Proofs Go.RowKit

section
variable {S : Nat → Prop} {M N M0 : Mem} {jr jq jh ja jb js lo : Nat} {b : List Nat} {r : RS}
end
end Go.Zt


/- Layer 20: HeadsReads: the document's Read. -/
set_option linter.unusedSimpArgs false
set_option linter.unusedVariables false
set_option maxRecDepth 100000
namespace Go.Zt
open Go Go.Sim Go.Proofs Go.RowKit

section
variable {S : Nat → Prop} {M N M0 : Mem} {jr jq jh ja jb jx js jw lo : Nat} {b : List Nat} {r : RS} {w e : Int} {T : RS → List Sg → Prop}
end
end Go.Zt


/- Layer 20: HeadsReads: the program's reading and the document's are the same. Plain. -/
set_option linter.unusedSimpArgs false
set_option linter.unusedVariables false
set_option maxRecDepth 100000
namespace Go.Zt
open Go Go.Sim Go.Proofs Go.RowKit

def wo (h : Hd) : Hd := { h with A := none, n := 0, c := 0 }
structure Rel (π : Hd → Hd) (b : List Nat) (c : Cd) (r : RS) : Prop where
  d : c.1 = .r b r.1
  e : c.2.1 = r.2.1
  h : r.2.1 = 0 → π c.2.2 = π r.2.2
section
variable {π : Hd → Hd} {b : List Nat} {c c' : Cd} {r r' : RS}
end
end Go.Zt


/- Layer 20: HeadsReads: the program's reading of a header and the document's are the same. Plain. -/
set_option linter.unusedSimpArgs false
set_option linter.unusedVariables false
set_option maxRecDepth 100000
namespace Go.Zt
open Go Go.Sim Go.Proofs Go.RowKit

/-- With a fault nothing more is read. -/
def Dd (c c' : Cd) : Prop := c.2.1 ≠ 0 → c'.1 = c.1 ∧ c'.2.1 = c.2.1
theorem Dd.trans {a b c : Cd} (h : Dd a b) (k : Dd b c) : Dd a c := fun he => by
  obtain ⟨h1, h2⟩ := h he
  obtain ⟨k1, k2⟩ := k (by rw [h2]; exact he)
  exact ⟨k1.trans h1, k2.trans h2⟩
theorem Dd.rfl' {a : Cd} : Dd a a := fun _ => ⟨rfl, rfl⟩
section
variable {b : List Nat} {w e : Int} {c c0 c1 : Cd} {r r0 r1 : RS} {X X' X0 : List Sg}
theorem numD_d {d : Dv} {e : Nat} {v n f : Int} (h : e ≠ 0) : numD d e v n f = (d, e, v) := by unfold numD; rw [if_pos h]
theorem flagD_d {d : Dv} {e : Nat} {v : Bool} (h : e ≠ 0) : (flagD d e v).1 = d ∧ (flagD d e v).2.1 = e := by unfold flagD; rw [numD_d h]; exact ⟨rfl, rfl⟩
theorem dN {v n f : Int} {s : Int → Hd} (h : c = nF c0 v s n f) : Dd c0 c := fun he => by rw [h]; unfold nF; rw [numD_d he]; exact ⟨rfl, rfl⟩
theorem dFl {v : Bool} {s : Bool → Hd} (h : c = fF c0 v s) : Dd c0 c := fun he => by rw [h]; exact flagD_d he
theorem dDl {v : Int} {s : Int → Hd} (h : c = dF' c0 v s) : Dd c0 c := fun he => by
  rw [h]
  unfold dF' deltaD
  rw [if_pos (.inr (by rw [(flagD_d he).2]; exact he))]
  exact flagD_d he
theorem dLg {v z : Int} {s : Int → Hd} (h : c = gF c0 v s z) : Dd c0 c := fun he => by
  rw [h]
  unfold gF logD
  rw [numD_d he, if_neg (fun q => he q.1)]
  exact ⟨rfl, rfl⟩
theorem sgsD_d {d : Dv} {e : Nat} (h : e ≠ 0) : ∀ X : List Sg, sgsD d e X = (d, e, X)
  | [] => rfl
  | x :: X => by
    have : sg1 d e x = (d, e, x) := by unfold sg1; simp only [numD_d h]
    simp only [sgsD, this, sgsD_d h X]
theorem StrT_d (h : StrT c0 X0 c X) : Dd c0 c := by
  obtain ⟨c1, h1, c2, h2, c3, X3, h3, h4, _⟩ := h
  refine (dN h1).trans ((dN h2).trans fun he => ?_)
  have q : c3 = c2 := by
    split at h3
    · exact h3.1
    · rw [if_neg he] at h3; exact h3.1
  rw [h4, q, sgsD_d he]
  exact ⟨rfl, rfl⟩
theorem FiltT_d (h : FiltT c0 X0 c X) : Dd c0 c := by
  obtain ⟨c1, h1, c2, h2, c3, h3, c4, h4, c5, h5, c6, h6, c7, h7, c8, h8, c9, h9, h10⟩ := h
  have q7 : Dd c6 c7 := by
    split at h7
    · exact StrT_d h7
    · rw [h7.1]; exact .rfl'
  exact (dN h1).trans ((dN h2).trans ((dN h3).trans ((dN h4).trans ((dN h5).trans ((dFl h6).trans (q7.trans ((dFl h8).trans ((dFl h9).trans (dFl h10)))))))))
theorem TailT_d (h : TailT w e c0 X0 c X) : Dd c0 c := by
  obtain ⟨c1, h1, c2, h2, c3, h3, c4, h4, c5, h5, c6, h6, c7, h7, c8, h8, h9⟩ := h
  have q9 : Dd c8 c := by
    split at h9
    · rw [h9.1]; exact .rfl'
    · exact FiltT_d h9
  exact (dDl h1).trans ((dDl h2).trans ((dDl h3).trans ((dDl h4).trans ((dDl h5).trans ((dLg h6).trans ((dLg h7).trans ((dFl h8).trans q9)))))))
theorem RefT_d (h : RefT c0 c) : Dd c0 c := by
  obtain ⟨c1, t, h1, h2⟩ := h
  have q1 : Dd c0 c1 := by
    split at h1
    · rw [h1.1]; exact .rfl'
    · obtain ⟨c2, k2, c3, k3, c4, k4, k5, _⟩ := h1
      refine (dN k2).trans ((dN k3).trans ((dN k4).trans fun he => ?_))
      rw [k5]
      exact flagD_d he
  have q2 : Dd c1 c := by
    split at h2
    · exact dN h2
    · rw [h2]; exact fun _ => ⟨rfl, rfl⟩
  exact q1.trans q2
end
end Go.Zt


/- Layer 20: a header's bits, where they stand, are read. Plain. -/
set_option linter.unusedSimpArgs false
set_option linter.unusedVariables false
set_option maxRecDepth 100000
namespace Go.Zt
open Go Go.Sim Go.Proofs Go.RowKit

/-! ### Bits (layer 1's) -/
def seg (f : Nat → Nat) (p n : Nat) : List Nat := (List.range n).map fun i => f (p + i)
theorem seg_len (f : Nat → Nat) (p n : Nat) : (seg f p n).length = n := by simp [seg]
theorem seg_cons (f : Nat → Nat) (p n : Nat) : seg f p (n + 1) = f p :: seg f (p + 1) n := by
  unfold seg
  rw [List.range_succ_eq_map, List.map_cons, List.map_map]
  congr 1
  refine List.map_congr_left fun i _ => ?_
  simp only [Function.comp]; congr 1; omega
theorem seg_app (f : Nat → Nat) (p : Nat) (n : Nat) : ∀ m, seg f p (m + n) = seg f p m ++ seg f (p + m) n
  | m => by
    unfold seg
    rw [List.range_add, List.map_append, List.map_map]
    congr 1
    refine List.map_congr_left fun i _ => ?_
    simp only [Function.comp]; congr 1; omega
theorem segN {f : Nat → Nat} (hf : ∀ i, f i < 2) : ∀ (n p : Nat), bitsN (numb f p n) n = seg f p n
  | 0, p => rfl
  | n + 1, p => by
    have h := numb_lt hf (p + 1) n
    rw [bitsN, seg_cons, numb_cons]
    have e1 : (f p * 2 ^ n + numb f (p + 1) n) / 2 ^ n % 2 = f p := by
      rw [Nat.add_comm, Nat.add_mul_div_right _ _ (Nat.two_pow_pos n), Nat.div_eq_of_lt h, Nat.zero_add, Nat.mod_eq_of_lt (hf p)]
    have e2 : bitsN (f p * 2 ^ n + numb f (p + 1) n) n = bitsN (numb f (p + 1) n) n := by
      rw [← bitsN_mod _ (Nat.le_refl n), Nat.add_comm, Nat.add_mul_mod_self_right, Nat.mod_eq_of_lt h]
    rw [e1, e2, segN hf n (p + 1)]
theorem bitsN_inj : ∀ (n : Nat) {a b : Nat}, a < 2 ^ n → b < 2 ^ n → bitsN a n = bitsN b n → a = b
  | 0, a, b, ha, hb, _ => by simp at ha hb; omega
  | n + 1, a, b, ha, hb, h => by
    rw [bitsN, bitsN] at h
    obtain ⟨h1, h2⟩ := List.cons.inj h
    rw [← bitsN_mod a (Nat.le_refl n), ← bitsN_mod b (Nat.le_refl n)] at h2
    have hp := Nat.two_pow_pos n
    have := bitsN_inj n (Nat.mod_lt _ hp) (Nat.mod_lt _ hp) h2
    have hpow : 2 ^ (n + 1) = 2 * 2 ^ n := by rw [Nat.pow_succ]; omega
    have ha2 : a / 2 ^ n < 2 := Nat.div_lt_of_lt_mul (by omega)
    have hb2 : b / 2 ^ n < 2 := Nat.div_lt_of_lt_mul (by omega)
    rw [Nat.mod_eq_of_lt ha2, Nat.mod_eq_of_lt hb2] at h1
    rw [← Nat.div_add_mod a (2 ^ n), ← Nat.div_add_mod b (2 ^ n), h1, this]
theorem numb_seg {f : Nat → Nat} (hf : ∀ i, f i < 2) {p n v : Nat} (hv : v < 2 ^ n) (h : seg f p n = bitsN v n) : numb f p n = v :=
  bitsN_inj n (numb_lt hf p n) hv (by rw [segN hf, h])
/-- These bits stand at p, and behind them all ends at z. -/
structure At (b : List Nat) (z p : Nat) (l : List Nat) : Prop where
  seg : seg (bitOf b) p l.length = l
  len : p + l.length = z
  le : z ≤ 8 * b.length
section
variable {b : List Nat} {z p : Nat} {l : List Nat} {h g : Hd} {c : Cd} {X : List Sg} {w e : Int}
theorem bit2 (i : Nat) : bitOf b i < 2 := Nat.mod_lt _ (by decide)
theorem At.split {l1 l2 : List Nat} (H : At b z p (l1 ++ l2)) : Go.Zt.seg (bitOf b) p l1.length = l1 ∧ p + l1.length + l2.length = z ∧ z ≤ 8 * b.length ∧ At b z (p + l1.length) l2 := by
  obtain ⟨h1, h2, h3⟩ := H
  rw [List.length_append] at h1 h2
  rw [seg_app] at h1
  obtain ⟨q1, q2⟩ := List.append_inj h1 (seg_len ..)
  exact ⟨q1, by omega, h3, q2, by omega, h3⟩
theorem At.fixed {n v : Nat} (H : At b z p (bitsN v n ++ l)) (hv : v < 2 ^ n) (hn : n ≤ 32) : rFixed b p n = (v, 0, p + n) ∧ At b z (p + n) l := by
  obtain ⟨q1, q2, q3, q4⟩ := H.split
  rw [bitsN_len] at q1 q2 q4
  refine ⟨?_, q4⟩
  unfold rFixed
  rw [if_neg (by omega), if_neg (by omega), Int.toNat_natCast, numb_seg bit2 hv q1]
theorem nA {v f x : Int} {n : Nat} {s : Int → Hd} (H : At b z p (bI x n ++ l)) (hn : n ≤ 32) (h0 : 0 ≤ x) (h1 : x < ((2 ^ n : Nat) : Int)) (e : c = nF (.r b p, 0, g) v s n f) : ∃ q, c = (.r b q, 0, s (x + f)) ∧ At b z q l := by
  obtain ⟨q1, q2⟩ := At.fixed (v := x.toNat) H (by omega) hn
  refine ⟨p + n, ?_, q2⟩
  rw [e]
  unfold nF numD
  rw [if_neg (show ¬ (0 : Nat) ≠ 0 by decide)]
  simp only [q1, if_true]
  rw [show ((x.toNat : Nat) : Int) = x by omega]
theorem nA0 {v x : Int} {n : Nat} {s : Int → Hd} (H : At b z p (bI x n ++ l)) (hn : n ≤ 32) (h0 : 0 ≤ x) (h1 : x < ((2 ^ n : Nat) : Int)) (e : c = nF (.r b p, 0, g) v s n 0) : ∃ q, c = (.r b q, 0, s x) ∧ At b z q l := by
  obtain ⟨q, h1, h2⟩ := nA H hn h0 h1 e
  exact ⟨q, by rw [h1, Int.add_zero], h2⟩
theorem flag_a {x v : Bool} (H : At b z p ([yes x] ++ l)) : flagD (.r b p) 0 v = (.r b (p + 1), 0, x) ∧ At b z (p + 1) l := by
  have e1 : [yes x] = bitsN (yes x) 1 := by cases x <;> rfl
  rw [e1] at H
  obtain ⟨q1, q2⟩ := At.fixed (v := yes x) (n := 1) H (by cases x <;> decide) (by decide)
  refine ⟨?_, q2⟩
  have q1' : rFixed b p 1 = (yes x, 0, p + 1) := q1
  unfold flagD numD
  rw [if_neg (by decide)]
  simp only [q1', if_true]
  cases x <;> rfl
theorem fA {v x : Bool} {s : Bool → Hd} (H : At b z p ([yes x] ++ l)) (e : c = fF (.r b p, 0, g) v s) : ∃ q, c = (.r b q, 0, s x) ∧ At b z q l := by
  obtain ⟨q1, q2⟩ := flag_a (v := v) H
  exact ⟨p + 1, by rw [e]; unfold fF; simp only [q1], q2⟩
theorem delta_a {x v : Int} (H : At b z p (dBits x ++ l)) (hx : -31 ≤ x ∧ x ≤ 31) (hv : v = 0) : ∃ q, deltaD (.r b p) 0 v = (.r b q, 0, x) ∧ At b z q l := by
  unfold dBits at H
  by_cases h0 : x = 0
  · subst h0 hv
    obtain ⟨q1, q2⟩ := flag_a (x := false) (v := (0 : Int) != 0) (l := l) (by simpa [yes] using H)
    exact ⟨p + 1, by unfold deltaD; rw [q1]; rfl, q2⟩
  · have hb : (x != 0) = true := by simpa using h0
    rw [hb] at H
    simp only [if_true] at H
    obtain ⟨q1, q2⟩ := flag_a (x := true) (v := v != 0) (l := yes (decide (x < 0)) :: bitsN x.natAbs 5 ++ l) (by simpa using H)
    have q2' : At b z (p + 1) ([yes (decide (x < 0))] ++ (bitsN x.natAbs 5 ++ l)) := by simpa using q2
    obtain ⟨a1, a2, a3, a4⟩ := q2'.split
    obtain ⟨b1, b2, b3, b4⟩ := a4.split
    have l1 : ([yes (decide (x < 0))] : List Nat).length = 1 := rfl
    rw [l1] at a1 a2 a4 b1 b4 b2
    rw [bitsN_len] at b1 b2 b4
    have hn : numb (bitOf b) (p + 1 + 1) 5 = x.natAbs := numb_seg bit2 (show x.natAbs < 32 by omega) b1
    have hs : bitOf b (p + 1) = yes (decide (x < 0)) := by
      have : Go.Zt.seg (bitOf b) (p + 1) 1 = [bitOf b (p + 1)] := rfl
      rw [this] at a1
      exact List.head_eq_of_cons_eq a1
    refine ⟨p + 1 + 1 + 5, ?_, b4⟩
    have hr : rSigned b (p + 1) 5 = (x, 0, p + 1 + 1 + 5) := by
      unfold rSigned
      rw [if_neg (by decide), if_neg (by omega), show (5 : Int).toNat = 5 from rfl, hn, hs]
      by_cases hneg : x < 0
      · rw [if_pos (by simp [hneg, yes]), if_neg (by omega)]
        congr 1
        omega
      · rw [if_neg (by simp [hneg, yes])]
        congr 1
        omega
    unfold deltaD
    rw [q1]
    simp only [hr, Bool.true_eq_false, ne_eq, not_true_eq_false, or_self, if_false]
    rw [if_neg (fun q => h0 q.2)]
theorem dA {x v : Int} {s : Int → Hd} (H : At b z p (dBits x ++ l)) (hx : -31 ≤ x ∧ x ≤ 31) (hv : v = 0) (e : c = dF' (.r b p, 0, g) v s) : ∃ q, c = (.r b q, 0, s x) ∧ At b z q l := by
  obtain ⟨q, q1, q2⟩ := delta_a (v := v) H hx hv
  exact ⟨q, by rw [e]; unfold dF'; simp only [q1], q2⟩
theorem lA {x v k : Int} {s : Int → Hd} (H : At b z p (bI x 2 ++ l)) (hx : logM x k = true) (e : c = gF (.r b p, 0, g) v s k) : ∃ q, c = (.r b q, 0, s x) ∧ At b z q l := by
  have h2 := of_decide_eq_true hx
  obtain ⟨q1, q2⟩ := At.fixed (v := x.toNat) (n := 2) H (by show x.toNat < 4; omega) (by decide)
  refine ⟨p + 2, ?_, q2⟩
  have q1' : rFixed b p 2 = (x.toNat, 0, p + 2) := q1
  have e2 : numD (.r b p) 0 v 2 0 = (.r b (p + 2), 0, x) := by
    unfold numD
    rw [if_neg (by decide)]
    simp only [q1', if_true]
    rw [show ((x.toNat : Nat) : Int) + 0 = x by omega]
  rw [e]
  unfold gF logD
  rw [e2, if_neg (fun q => by rw [hx] at q; cases q.2)]
theorem sg_a {x y : Sg} (H : At b z p (sBits x ++ l)) (hx : x.may = true) : ∃ q, sg1 (.r b p) 0 y = (.r b q, 0, x) ∧ At b z q l := by
  have m := of_decide_eq_true hx
  unfold sBits at H
  simp only [List.append_assoc] at H
  have step : ∀ {p : Nat} {l : List Nat} {v u : Int} {n : Nat}, At b z p (bI u n ++ l) → n ≤ 32 → 0 ≤ u → u < ((2 ^ n : Nat) : Int) → numD (.r b p) 0 v n 0 = (.r b (p + n), 0, u) ∧ At b z (p + n) l := by
    intro p l v u n H hn h0 h1
    obtain ⟨q1, q2⟩ := At.fixed (v := u.toNat) H (by omega) hn
    refine ⟨?_, q2⟩
    unfold numD
    rw [if_neg (by decide)]
    simp only [q1, if_true]
    rw [show ((u.toNat : Nat) : Int) + 0 = u by omega]
  obtain ⟨a1, H1⟩ := step (v := y.a) H (by decide) (by omega) (by show x.a < 16; omega)
  obtain ⟨a2, H2⟩ := step (v := y.b) H1 (by decide) (by omega) (by show x.b < 4; omega)
  obtain ⟨a3, H3⟩ := step (v := y.c) H2 (by decide) (by omega) (by show x.c < 16; omega)
  obtain ⟨a4, H4⟩ := step (v := y.d) H3 (by decide) (by omega) (by show x.d < 4; omega)
  have a1' : numD (.r b p) 0 y.a 4 0 = _ := a1
  have a2' : numD (.r b (p + 4)) 0 y.b 2 0 = _ := a2
  have a3' : numD (.r b (p + 4 + 2)) 0 y.c 4 0 = _ := a3
  have a4' : numD (.r b (p + 4 + 2 + 4)) 0 y.d 2 0 = _ := a4
  refine ⟨p + 4 + 2 + 4 + 2, ?_, H4⟩
  unfold sg1
  simp only [a1', a2', a3', a4']
theorem sgs_a : ∀ (X Y : List Sg) {p : Nat} {l : List Nat}, At b z p (X.flatMap sBits ++ l) → X.all Sg.may = true → Y.length = X.length → ∃ q, sgsD (.r b p) 0 Y = (.r b q, 0, X) ∧ At b z q l
  | [], [], p, l, H, _, _ => ⟨p, rfl, by simpa using H⟩
  | [], y :: Y, p, l, H, _, hl => by simp at hl
  | x :: X, [], p, l, H, _, hl => by simp at hl
  | x :: X, y :: Y, p, l, H, hX, hl => by
    simp only [List.all_cons, Bool.and_eq_true] at hX
    simp only [List.flatMap_cons, List.append_assoc] at H
    obtain ⟨q, a1, H1⟩ := sg_a (y := y) H hX.1
    obtain ⟨q2, a2, H2⟩ := sgs_a X Y H1 hX.2 (by simpa using hl)
    refine ⟨q2, ?_, H2⟩
    simp only [sgsD, a1, a2]

theorem u_cd (e1 : h.da = 0) (e2 : h.cb = 0) : wo ({ h with da := 0, cb := 0, x0 := false, x1 := false, x2 := false } : Hd) = wo ({ h with x0 := false, x1 := false, x2 := false } : Hd) := by
  cases h
  simp only at e1 e2
  subst e1 e2
  rfl
theorem filt_a (H : At b z p (fBits h X ++ l)) (hm : h.mayF X = true) (hl : h.less = false) (hg : wo g = wo ({ h with l0 := 0, l1 := 0, l2 := 0, l3 := 0, sp := 0, cd := false, da := 0, cb := 0, x0 := false, x1 := false, x2 := false } : Hd)) {X' : List Sg} (ht : FiltT (.r b p, 0, g) [] c X') : ∃ q, c.1 = .r b q ∧ c.2.1 = 0 ∧ wo c.2.2 = wo h ∧ X' = X ∧ At b z q l := by
  unfold Hd.mayF at hm
  rw [hl] at hm
  simp only [Bool.false_eq_true, if_false, Bool.and_eq_true, decide_eq_true_eq] at hm
  obtain ⟨⟨ms, mc, m0, m1, m2, m3⟩, mX⟩ := hm
  obtain ⟨c1, h1, c2, h2, c3, h3, c4, h4, c5, h5, c6, h6, c7, h7, c8, h8, c9, h9, h10⟩ := ht
  unfold fBits at H
  simp only [List.append_assoc] at H
  have G0 := hg
  obtain ⟨q1, e1, H1⟩ := nA0 H (n := 6) (by decide) m0.1 (by show h.l0 < 64; omega) h1
  have G1 : wo c1.2.2 = wo ({ h with l1 := 0, l2 := 0, l3 := 0, sp := 0, cd := false, da := 0, cb := 0, x0 := false, x1 := false, x2 := false } : Hd) := by rw [e1]; exact congrArg (fun x : Hd => { x with l0 := h.l0 }) G0
  obtain ⟨c1a, c1b, g1⟩ := c1
  obtain ⟨rfl, rfl⟩ : c1a = .r b q1 ∧ c1b = 0 := ⟨congrArg Prod.fst e1, congrArg (fun y : Cd => y.2.1) e1⟩
  clear e1 h1
  replace G1 : wo g1 = wo ({ h with l1 := 0, l2 := 0, l3 := 0, sp := 0, cd := false, da := 0, cb := 0, x0 := false, x1 := false, x2 := false } : Hd) := G1
  obtain ⟨q2, e2, H2⟩ := nA0 H1 (n := 6) (by decide) m1.1 (by show h.l1 < 64; omega) h2
  have G2 : wo c2.2.2 = wo ({ h with l2 := 0, l3 := 0, sp := 0, cd := false, da := 0, cb := 0, x0 := false, x1 := false, x2 := false } : Hd) := by rw [e2]; exact congrArg (fun x : Hd => { x with l1 := h.l1 }) G1
  obtain ⟨c2a, c2b, g2⟩ := c2
  obtain ⟨rfl, rfl⟩ : c2a = .r b q2 ∧ c2b = 0 := ⟨congrArg Prod.fst e2, congrArg (fun y : Cd => y.2.1) e2⟩
  clear e2 h2
  replace G2 : wo g2 = wo ({ h with l2 := 0, l3 := 0, sp := 0, cd := false, da := 0, cb := 0, x0 := false, x1 := false, x2 := false } : Hd) := G2
  obtain ⟨q3, e3, H3⟩ := nA0 H2 (n := 6) (by decide) m2.1 (by show h.l2 < 64; omega) h3
  have G3 : wo c3.2.2 = wo ({ h with l3 := 0, sp := 0, cd := false, da := 0, cb := 0, x0 := false, x1 := false, x2 := false } : Hd) := by rw [e3]; exact congrArg (fun x : Hd => { x with l2 := h.l2 }) G2
  obtain ⟨c3a, c3b, g3⟩ := c3
  obtain ⟨rfl, rfl⟩ : c3a = .r b q3 ∧ c3b = 0 := ⟨congrArg Prod.fst e3, congrArg (fun y : Cd => y.2.1) e3⟩
  clear e3 h3
  replace G3 : wo g3 = wo ({ h with l3 := 0, sp := 0, cd := false, da := 0, cb := 0, x0 := false, x1 := false, x2 := false } : Hd) := G3
  obtain ⟨q4, e4, H4⟩ := nA0 H3 (n := 6) (by decide) m3.1 (by show h.l3 < 64; omega) h4
  have G4 : wo c4.2.2 = wo ({ h with sp := 0, cd := false, da := 0, cb := 0, x0 := false, x1 := false, x2 := false } : Hd) := by rw [e4]; exact congrArg (fun x : Hd => { x with l3 := h.l3 }) G3
  obtain ⟨c4a, c4b, g4⟩ := c4
  obtain ⟨rfl, rfl⟩ : c4a = .r b q4 ∧ c4b = 0 := ⟨congrArg Prod.fst e4, congrArg (fun y : Cd => y.2.1) e4⟩
  clear e4 h4
  replace G4 : wo g4 = wo ({ h with sp := 0, cd := false, da := 0, cb := 0, x0 := false, x1 := false, x2 := false } : Hd) := G4
  obtain ⟨q5, e5, H5⟩ := nA0 H4 (n := 3) (by decide) ms.1 (by show h.sp < 8; omega) h5
  have G5 : wo c5.2.2 = wo ({ h with cd := false, da := 0, cb := 0, x0 := false, x1 := false, x2 := false } : Hd) := by rw [e5]; exact congrArg (fun x : Hd => { x with sp := h.sp }) G4
  obtain ⟨c5a, c5b, g5⟩ := c5
  obtain ⟨rfl, rfl⟩ : c5a = .r b q5 ∧ c5b = 0 := ⟨congrArg Prod.fst e5, congrArg (fun y : Cd => y.2.1) e5⟩
  clear e5 h5
  replace G5 : wo g5 = wo ({ h with cd := false, da := 0, cb := 0, x0 := false, x1 := false, x2 := false } : Hd) := G5
  obtain ⟨q6, e6, H6⟩ := fA H5  h6
  have G6 : wo c6.2.2 = wo ({ h with da := 0, cb := 0, x0 := false, x1 := false, x2 := false } : Hd) := by rw [e6]; exact congrArg (fun x : Hd => { x with cd := h.cd }) G5
  obtain ⟨c6a, c6b, g6⟩ := c6
  obtain ⟨rfl, rfl⟩ : c6a = .r b q6 ∧ c6b = 0 := ⟨congrArg Prod.fst e6, congrArg (fun y : Cd => y.2.1) e6⟩
  clear e6 h6
  replace G6 : wo g6 = wo ({ h with da := 0, cb := 0, x0 := false, x1 := false, x2 := false } : Hd) := G6
  have hcd : g6.cd = h.cd := by have := congrArg Hd.cd G6; exact this
  have S7 : ∃ q7 g7, c7 = (.r b q7, 0, g7) ∧ wo g7 = wo ({ h with x0 := false, x1 := false, x2 := false } : Hd) ∧ X' = X ∧ At b z q7 ([yes h.x0] ++ ([yes h.x1] ++ ([yes h.x2] ++ l))) := by
    by_cases hc : h.cd = true
    · rw [if_pos ⟨by show g6.cd = true; rw [hcd, hc], rfl⟩] at h7
      rw [if_pos hc] at mc H6
      simp only [List.append_assoc] at H6
      obtain ⟨a1, k1, a2, k2, a3, Y, k3, k4, k5⟩ := h7
      obtain ⟨qa, ea, Ha⟩ := nA H6 (n := 2) (by decide) (by omega) (by show h.da - 3 < 4; omega) k1
      have Ga : wo a1.2.2 = wo ({ h with cb := 0, x0 := false, x1 := false, x2 := false } : Hd) := by rw [ea, show h.da - 3 + 3 = h.da by omega]; exact congrArg (fun x : Hd => { x with da := h.da }) G6
      obtain ⟨a1a, a1b, ga⟩ := a1
      obtain ⟨rfl, rfl⟩ : a1a = .r b qa ∧ a1b = 0 := ⟨congrArg Prod.fst ea, congrArg (fun y : Cd => y.2.1) ea⟩
      clear ea k1
      obtain ⟨qb, eb, Hb⟩ := nA0 Ha (n := 2) (by decide) mc.2.1.1 (by show h.cb < 4; omega) k2
      have Gb : wo a2.2.2 = wo ({ h with x0 := false, x1 := false, x2 := false } : Hd) := by rw [eb]; exact congrArg (fun x : Hd => { x with cb := h.cb }) Ga
      obtain ⟨a2a, a2b, gb⟩ := a2
      obtain ⟨rfl, rfl⟩ : a2a = .r b qb ∧ a2b = 0 := ⟨congrArg Prod.fst eb, congrArg (fun y : Cd => y.2.1) eb⟩
      clear eb k2
      have hcb : gb.cb = h.cb := by have := congrArg Hd.cb Gb; exact this
      dsimp only at k3
      rw [if_pos rfl] at k3
      obtain ⟨⟨A, m, k3⟩, kY⟩ := k3
      rw [k3] at k4 k5
      dsimp only at k4 k5
      obtain ⟨qc, ec, Hc⟩ := sgs_a X Y Hb mX (by rw [kY, List.length_replicate, hcb]; exact mc.2.2.symm)
      rw [ec] at k4 k5
      exact ⟨qc, _, k4, Gb, k5, Hc⟩
    · rw [if_neg (fun q => hc (by rw [← hcd]; exact q.1))] at h7
      rw [if_neg hc] at mc H6
      simp only [List.nil_append] at H6
      refine ⟨q6, g6, h7.1, ?_, ?_, H6⟩
      · rw [G6]
        exact u_cd mc.1 mc.2.1
      · rw [h7.2]; exact (List.length_eq_zero_iff.1 mc.2.2).symm
  obtain ⟨q7, g7, rfl, G7, rfl, H7⟩ := S7
  replace G7 : wo g7 = wo ({ h with x0 := false, x1 := false, x2 := false } : Hd) := G7
  obtain ⟨q8, e8, H8⟩ := fA H7  h8
  have G8 : wo c8.2.2 = wo ({ h with x1 := false, x2 := false } : Hd) := by rw [e8]; exact congrArg (fun x : Hd => { x with x0 := h.x0 }) G7
  obtain ⟨c8a, c8b, g8⟩ := c8
  obtain ⟨rfl, rfl⟩ : c8a = .r b q8 ∧ c8b = 0 := ⟨congrArg Prod.fst e8, congrArg (fun y : Cd => y.2.1) e8⟩
  clear e8 h8
  replace G8 : wo g8 = wo ({ h with x1 := false, x2 := false } : Hd) := G8
  obtain ⟨q9, e9, H9⟩ := fA H8  h9
  have G9 : wo c9.2.2 = wo ({ h with x2 := false } : Hd) := by rw [e9]; exact congrArg (fun x : Hd => { x with x1 := h.x1 }) G8
  obtain ⟨c9a, c9b, g9⟩ := c9
  obtain ⟨rfl, rfl⟩ : c9a = .r b q9 ∧ c9b = 0 := ⟨congrArg Prod.fst e9, congrArg (fun y : Cd => y.2.1) e9⟩
  clear e9 h9
  replace G9 : wo g9 = wo ({ h with x2 := false } : Hd) := G9
  obtain ⟨q10, e10, H10⟩ := fA H9 h10
  refine ⟨q10, by rw [e10], by rw [e10], ?_, rfl, H10⟩
  rw [e10]; exact congrArg (fun x : Hd => { x with x2 := h.x2 }) G9
end
end Go.Zt


/- Layer 20: a whole header's bits, where they stand, are read. Plain. -/
set_option linter.unusedSimpArgs false
set_option linter.unusedVariables false
set_option maxRecDepth 100000
namespace Go.Zt
open Go Go.Sim Go.Proofs Go.RowKit

section
variable {b : List Nat} {z p : Nat} {l : List Nat} {h g : Hd} {c : Cd} {X : List Sg} {w e : Int}
theorem u_less (hm : h.mayF X = true) (hl : h.less = true) : wo ({ h with l0 := 0, l1 := 0, l2 := 0, l3 := 0, sp := 0, cd := false, da := 0, cb := 0, x0 := false, x1 := false, x2 := false } : Hd) = wo h ∧ X = [] := by
  unfold Hd.mayF at hm
  rw [if_pos hl] at hm
  obtain ⟨⟨e1, e2, e3, e4⟩, e5, e6, e7, e8, e9, e10, e11, e12⟩ := of_decide_eq_true hm
  refine ⟨?_, List.length_eq_zero_iff.1 e9⟩
  clear hm hl
  cases h
  simp only at e1 e2 e3 e4 e5 e6 e7 e8 e10 e11 e12
  subst e1 e2 e3 e4 e5 e6 e7 e8 e10 e11 e12
  rfl
theorem tail_a (H : At b z p (tBits h X ++ l)) (md : (-31 ≤ h.d0 ∧ h.d0 ≤ 31) ∧ (-31 ≤ h.d1 ∧ h.d1 ≤ 31) ∧ (-31 ≤ h.d2 ∧ h.d2 ≤ 31) ∧ (-31 ≤ h.d3 ∧ h.d3 ≤ 31) ∧ (-31 ≤ h.d4 ∧ h.d4 ≤ 31)) (mco : logM h.co w = true) (mro : logM h.ro e = true) (mf : h.mayF X = true) (hg : wo g = wo ({ h with d0 := 0, d1 := 0, d2 := 0, d3 := 0, d4 := 0, co := 0, ro := 0, na := false, l0 := 0, l1 := 0, l2 := 0, l3 := 0, sp := 0, cd := false, da := 0, cb := 0, x0 := false, x1 := false, x2 := false } : Hd)) {X' : List Sg} (ht : TailT w e (.r b p, 0, g) [] c X') : ∃ q, c.1 = .r b q ∧ c.2.1 = 0 ∧ wo c.2.2 = wo h ∧ X' = X ∧ At b z q l := by
  obtain ⟨c1, h1, c2, h2, c3, h3, c4, h4, c5, h5, c6, h6, c7, h7, c8, h8, h9⟩ := ht
  unfold tBits at H
  simp only [List.append_assoc] at H
  have G0 := hg
  obtain ⟨q1, e1, H1⟩ := dA H md.1 (by have := congrArg Hd.d0 G0; exact this) h1
  have G1 : wo c1.2.2 = wo ({ h with d1 := 0, d2 := 0, d3 := 0, d4 := 0, co := 0, ro := 0, na := false, l0 := 0, l1 := 0, l2 := 0, l3 := 0, sp := 0, cd := false, da := 0, cb := 0, x0 := false, x1 := false, x2 := false } : Hd) := by rw [e1]; exact congrArg (fun x : Hd => { x with d0 := h.d0 }) G0
  obtain ⟨c1a, c1b, g1⟩ := c1
  obtain ⟨rfl, rfl⟩ : c1a = .r b q1 ∧ c1b = 0 := ⟨congrArg Prod.fst e1, congrArg (fun y : Cd => y.2.1) e1⟩
  clear e1 h1
  replace G1 : wo g1 = wo ({ h with d1 := 0, d2 := 0, d3 := 0, d4 := 0, co := 0, ro := 0, na := false, l0 := 0, l1 := 0, l2 := 0, l3 := 0, sp := 0, cd := false, da := 0, cb := 0, x0 := false, x1 := false, x2 := false } : Hd) := G1
  obtain ⟨q2, e2, H2⟩ := dA H1 md.2.1 (by have := congrArg Hd.d1 G1; exact this) h2
  have G2 : wo c2.2.2 = wo ({ h with d2 := 0, d3 := 0, d4 := 0, co := 0, ro := 0, na := false, l0 := 0, l1 := 0, l2 := 0, l3 := 0, sp := 0, cd := false, da := 0, cb := 0, x0 := false, x1 := false, x2 := false } : Hd) := by rw [e2]; exact congrArg (fun x : Hd => { x with d1 := h.d1 }) G1
  obtain ⟨c2a, c2b, g2⟩ := c2
  obtain ⟨rfl, rfl⟩ : c2a = .r b q2 ∧ c2b = 0 := ⟨congrArg Prod.fst e2, congrArg (fun y : Cd => y.2.1) e2⟩
  clear e2 h2
  replace G2 : wo g2 = wo ({ h with d2 := 0, d3 := 0, d4 := 0, co := 0, ro := 0, na := false, l0 := 0, l1 := 0, l2 := 0, l3 := 0, sp := 0, cd := false, da := 0, cb := 0, x0 := false, x1 := false, x2 := false } : Hd) := G2
  obtain ⟨q3, e3, H3⟩ := dA H2 md.2.2.1 (by have := congrArg Hd.d2 G2; exact this) h3
  have G3 : wo c3.2.2 = wo ({ h with d3 := 0, d4 := 0, co := 0, ro := 0, na := false, l0 := 0, l1 := 0, l2 := 0, l3 := 0, sp := 0, cd := false, da := 0, cb := 0, x0 := false, x1 := false, x2 := false } : Hd) := by rw [e3]; exact congrArg (fun x : Hd => { x with d2 := h.d2 }) G2
  obtain ⟨c3a, c3b, g3⟩ := c3
  obtain ⟨rfl, rfl⟩ : c3a = .r b q3 ∧ c3b = 0 := ⟨congrArg Prod.fst e3, congrArg (fun y : Cd => y.2.1) e3⟩
  clear e3 h3
  replace G3 : wo g3 = wo ({ h with d3 := 0, d4 := 0, co := 0, ro := 0, na := false, l0 := 0, l1 := 0, l2 := 0, l3 := 0, sp := 0, cd := false, da := 0, cb := 0, x0 := false, x1 := false, x2 := false } : Hd) := G3
  obtain ⟨q4, e4, H4⟩ := dA H3 md.2.2.2.1 (by have := congrArg Hd.d3 G3; exact this) h4
  have G4 : wo c4.2.2 = wo ({ h with d4 := 0, co := 0, ro := 0, na := false, l0 := 0, l1 := 0, l2 := 0, l3 := 0, sp := 0, cd := false, da := 0, cb := 0, x0 := false, x1 := false, x2 := false } : Hd) := by rw [e4]; exact congrArg (fun x : Hd => { x with d3 := h.d3 }) G3
  obtain ⟨c4a, c4b, g4⟩ := c4
  obtain ⟨rfl, rfl⟩ : c4a = .r b q4 ∧ c4b = 0 := ⟨congrArg Prod.fst e4, congrArg (fun y : Cd => y.2.1) e4⟩
  clear e4 h4
  replace G4 : wo g4 = wo ({ h with d4 := 0, co := 0, ro := 0, na := false, l0 := 0, l1 := 0, l2 := 0, l3 := 0, sp := 0, cd := false, da := 0, cb := 0, x0 := false, x1 := false, x2 := false } : Hd) := G4
  obtain ⟨q5, e5, H5⟩ := dA H4 md.2.2.2.2 (by have := congrArg Hd.d4 G4; exact this) h5
  have G5 : wo c5.2.2 = wo ({ h with co := 0, ro := 0, na := false, l0 := 0, l1 := 0, l2 := 0, l3 := 0, sp := 0, cd := false, da := 0, cb := 0, x0 := false, x1 := false, x2 := false } : Hd) := by rw [e5]; exact congrArg (fun x : Hd => { x with d4 := h.d4 }) G4
  obtain ⟨c5a, c5b, g5⟩ := c5
  obtain ⟨rfl, rfl⟩ : c5a = .r b q5 ∧ c5b = 0 := ⟨congrArg Prod.fst e5, congrArg (fun y : Cd => y.2.1) e5⟩
  clear e5 h5
  replace G5 : wo g5 = wo ({ h with co := 0, ro := 0, na := false, l0 := 0, l1 := 0, l2 := 0, l3 := 0, sp := 0, cd := false, da := 0, cb := 0, x0 := false, x1 := false, x2 := false } : Hd) := G5
  obtain ⟨q6, e6, H6⟩ := lA H5 mco h6
  have G6 : wo c6.2.2 = wo ({ h with ro := 0, na := false, l0 := 0, l1 := 0, l2 := 0, l3 := 0, sp := 0, cd := false, da := 0, cb := 0, x0 := false, x1 := false, x2 := false } : Hd) := by rw [e6]; exact congrArg (fun x : Hd => { x with co := h.co }) G5
  obtain ⟨c6a, c6b, g6⟩ := c6
  obtain ⟨rfl, rfl⟩ : c6a = .r b q6 ∧ c6b = 0 := ⟨congrArg Prod.fst e6, congrArg (fun y : Cd => y.2.1) e6⟩
  clear e6 h6
  replace G6 : wo g6 = wo ({ h with ro := 0, na := false, l0 := 0, l1 := 0, l2 := 0, l3 := 0, sp := 0, cd := false, da := 0, cb := 0, x0 := false, x1 := false, x2 := false } : Hd) := G6
  obtain ⟨q7, e7, H7⟩ := lA H6 mro h7
  have G7 : wo c7.2.2 = wo ({ h with na := false, l0 := 0, l1 := 0, l2 := 0, l3 := 0, sp := 0, cd := false, da := 0, cb := 0, x0 := false, x1 := false, x2 := false } : Hd) := by rw [e7]; exact congrArg (fun x : Hd => { x with ro := h.ro }) G6
  obtain ⟨c7a, c7b, g7⟩ := c7
  obtain ⟨rfl, rfl⟩ : c7a = .r b q7 ∧ c7b = 0 := ⟨congrArg Prod.fst e7, congrArg (fun y : Cd => y.2.1) e7⟩
  clear e7 h7
  replace G7 : wo g7 = wo ({ h with na := false, l0 := 0, l1 := 0, l2 := 0, l3 := 0, sp := 0, cd := false, da := 0, cb := 0, x0 := false, x1 := false, x2 := false } : Hd) := G7
  obtain ⟨q8, e8, H8⟩ := fA H7  h8
  have G8 : wo c8.2.2 = wo ({ h with l0 := 0, l1 := 0, l2 := 0, l3 := 0, sp := 0, cd := false, da := 0, cb := 0, x0 := false, x1 := false, x2 := false } : Hd) := by rw [e8]; exact congrArg (fun x : Hd => { x with na := h.na }) G7
  obtain ⟨c8a, c8b, g8⟩ := c8
  obtain ⟨rfl, rfl⟩ : c8a = .r b q8 ∧ c8b = 0 := ⟨congrArg Prod.fst e8, congrArg (fun y : Cd => y.2.1) e8⟩
  clear e8 h8
  replace G8 : wo g8 = wo ({ h with l0 := 0, l1 := 0, l2 := 0, l3 := 0, sp := 0, cd := false, da := 0, cb := 0, x0 := false, x1 := false, x2 := false } : Hd) := G8
  have hl : g8.less = h.less := by have := congrArg Hd.less G8; exact this
  cases hc : h.less with
  | true =>
    rw [if_pos (by show g8.less = true; rw [hl, hc])] at h9
    rw [if_pos hc] at H8
    obtain ⟨u1, u2⟩ := u_less mf hc
    exact ⟨q8, by rw [h9.1], by rw [h9.1], by rw [h9.1]; exact G8.trans u1, by rw [h9.2, u2], by simpa using H8⟩
  | false =>
    rw [if_neg (by show ¬ g8.less = true; rw [hl, hc]; decide)] at h9
    rw [if_neg (by rw [hc]; decide)] at H8
    exact filt_a H8 mf hc G8 h9
theorem u_ref (e1 : (h.r0 = 0 ∧ h.r1 = 0 ∧ h.r2 = 0) ∧ h.pr = -1) : wo ({ h with r0 := 0, r1 := 0, r2 := 0, pr := -1, ba := 0, d0 := 0, d1 := 0, d2 := 0, d3 := 0, d4 := 0, co := 0, ro := 0, na := false, l0 := 0, l1 := 0, l2 := 0, l3 := 0, sp := 0, cd := false, da := 0, cb := 0, x0 := false, x1 := false, x2 := false } : Hd) = wo ({ h with ba := 0, d0 := 0, d1 := 0, d2 := 0, d3 := 0, d4 := 0, co := 0, ro := 0, na := false, l0 := 0, l1 := 0, l2 := 0, l3 := 0, sp := 0, cd := false, da := 0, cb := 0, x0 := false, x1 := false, x2 := false } : Hd) := by
  obtain ⟨⟨a1, a2, a3⟩, a4⟩ := e1
  cases h
  simp only at a1 a2 a3 a4
  subst a1 a2 a3 a4
  rfl
theorem u_pr (e1 : h.pr = -1) : wo ({ h with pr := -1, ba := 0, d0 := 0, d1 := 0, d2 := 0, d3 := 0, d4 := 0, co := 0, ro := 0, na := false, l0 := 0, l1 := 0, l2 := 0, l3 := 0, sp := 0, cd := false, da := 0, cb := 0, x0 := false, x1 := false, x2 := false } : Hd) = wo ({ h with ba := 0, d0 := 0, d1 := 0, d2 := 0, d3 := 0, d4 := 0, co := 0, ro := 0, na := false, l0 := 0, l1 := 0, l2 := 0, l3 := 0, sp := 0, cd := false, da := 0, cb := 0, x0 := false, x1 := false, x2 := false } : Hd) := by
  cases h
  simp only at e1
  subst e1
  rfl
theorem ref_a (H : At b z p (rBits h ++ l)) (pr : -1 ≤ h.pr ∧ h.pr ≤ 7) (mk : h.ke = true → (h.r0 = 0 ∧ h.r1 = 0 ∧ h.r2 = 0) ∧ h.pr = -1) (mr : (0 ≤ h.r0 ∧ h.r0 ≤ 7) ∧ (0 ≤ h.r1 ∧ h.r1 ≤ 7) ∧ (0 ≤ h.r2 ∧ h.r2 ≤ 7)) (hg : wo g = wo ({ h with r0 := 0, r1 := 0, r2 := 0, pr := 0, ba := 0, d0 := 0, d1 := 0, d2 := 0, d3 := 0, d4 := 0, co := 0, ro := 0, na := false, l0 := 0, l1 := 0, l2 := 0, l3 := 0, sp := 0, cd := false, da := 0, cb := 0, x0 := false, x1 := false, x2 := false } : Hd)) (ht : RefT (.r b p, 0, g) c) : ∃ q g', c = (.r b q, 0, g') ∧ wo g' = wo ({ h with ba := 0, d0 := 0, d1 := 0, d2 := 0, d3 := 0, d4 := 0, co := 0, ro := 0, na := false, l0 := 0, l1 := 0, l2 := 0, l3 := 0, sp := 0, cd := false, da := 0, cb := 0, x0 := false, x1 := false, x2 := false } : Hd) ∧ At b z q l := by
  obtain ⟨c1, t, k1, k2⟩ := ht
  unfold rBits at H
  have hk : g.ke = h.ke := by have := congrArg Hd.ke hg; exact this
  have G0 := hg
  by_cases hc : h.ke = true
  · rw [if_pos (by show g.ke = true; rw [hk, hc])] at k1
    rw [if_pos hc] at H
    obtain ⟨k1, rfl⟩ := k1
    subst k1
    rw [if_neg (by decide)] at k2
    refine ⟨p, _, k2, ?_, by simpa using H⟩
    exact (congrArg (fun x : Hd => { x with pr := -1 }) G0).trans (u_ref (mk hc))
  · rw [if_neg (by show ¬ g.ke = true; rw [hk]; exact hc)] at k1
    rw [if_neg hc] at H
    simp only [List.append_assoc] at H
    obtain ⟨c1', h1, c2, h2, c3, h3, h4, h5⟩ := k1
    obtain ⟨q1, e1, H1⟩ := nA0 H (n := 3) (by decide) mr.1.1 (by show h.r0 < 8; omega) h1
    have G1 : wo c1'.2.2 = wo ({ h with r1 := 0, r2 := 0, pr := 0, ba := 0, d0 := 0, d1 := 0, d2 := 0, d3 := 0, d4 := 0, co := 0, ro := 0, na := false, l0 := 0, l1 := 0, l2 := 0, l3 := 0, sp := 0, cd := false, da := 0, cb := 0, x0 := false, x1 := false, x2 := false } : Hd) := by rw [e1]; exact congrArg (fun x : Hd => { x with r0 := h.r0 }) G0
    obtain ⟨ca1, cb1, g1⟩ := c1'
    obtain ⟨rfl, rfl⟩ : ca1 = .r b q1 ∧ cb1 = 0 := ⟨congrArg Prod.fst e1, congrArg (fun y : Cd => y.2.1) e1⟩
    clear e1 h1
    replace G1 : wo g1 = wo ({ h with r1 := 0, r2 := 0, pr := 0, ba := 0, d0 := 0, d1 := 0, d2 := 0, d3 := 0, d4 := 0, co := 0, ro := 0, na := false, l0 := 0, l1 := 0, l2 := 0, l3 := 0, sp := 0, cd := false, da := 0, cb := 0, x0 := false, x1 := false, x2 := false } : Hd) := G1
    obtain ⟨q2, e2, H2⟩ := nA0 H1 (n := 3) (by decide) mr.2.1.1 (by show h.r1 < 8; omega) h2
    have G2 : wo c2.2.2 = wo ({ h with r2 := 0, pr := 0, ba := 0, d0 := 0, d1 := 0, d2 := 0, d3 := 0, d4 := 0, co := 0, ro := 0, na := false, l0 := 0, l1 := 0, l2 := 0, l3 := 0, sp := 0, cd := false, da := 0, cb := 0, x0 := false, x1 := false, x2 := false } : Hd) := by rw [e2]; exact congrArg (fun x : Hd => { x with r1 := h.r1 }) G1
    obtain ⟨ca2, cb2, g2⟩ := c2
    obtain ⟨rfl, rfl⟩ : ca2 = .r b q2 ∧ cb2 = 0 := ⟨congrArg Prod.fst e2, congrArg (fun y : Cd => y.2.1) e2⟩
    clear e2 h2
    replace G2 : wo g2 = wo ({ h with r2 := 0, pr := 0, ba := 0, d0 := 0, d1 := 0, d2 := 0, d3 := 0, d4 := 0, co := 0, ro := 0, na := false, l0 := 0, l1 := 0, l2 := 0, l3 := 0, sp := 0, cd := false, da := 0, cb := 0, x0 := false, x1 := false, x2 := false } : Hd) := G2
    obtain ⟨q3, e3, H3⟩ := nA0 H2 (n := 3) (by decide) mr.2.2.1 (by show h.r2 < 8; omega) h3
    have G3 : wo c3.2.2 = wo ({ h with pr := 0, ba := 0, d0 := 0, d1 := 0, d2 := 0, d3 := 0, d4 := 0, co := 0, ro := 0, na := false, l0 := 0, l1 := 0, l2 := 0, l3 := 0, sp := 0, cd := false, da := 0, cb := 0, x0 := false, x1 := false, x2 := false } : Hd) := by rw [e3]; exact congrArg (fun x : Hd => { x with r2 := h.r2 }) G2
    obtain ⟨ca3, cb3, g3⟩ := c3
    obtain ⟨rfl, rfl⟩ : ca3 = .r b q3 ∧ cb3 = 0 := ⟨congrArg Prod.fst e3, congrArg (fun y : Cd => y.2.1) e3⟩
    clear e3 h3
    replace G3 : wo g3 = wo ({ h with pr := 0, ba := 0, d0 := 0, d1 := 0, d2 := 0, d3 := 0, d4 := 0, co := 0, ro := 0, na := false, l0 := 0, l1 := 0, l2 := 0, l3 := 0, sp := 0, cd := false, da := 0, cb := 0, x0 := false, x1 := false, x2 := false } : Hd) := G3
    obtain ⟨f1, f2⟩ := flag_a (v := decide (g.pr ≥ 0)) H3
    simp only [f1] at h4 h5
    subst h4 h5
    by_cases hp : h.pr ≥ 0
    · rw [if_pos (decide_eq_true hp)] at k2
      rw [if_pos hp] at f2
      obtain ⟨q4, e4, H4⟩ := nA0 f2 (n := 3) (by decide) hp (by show h.pr < 8; omega) k2
      exact ⟨q4, _, e4, congrArg (fun x : Hd => { x with pr := h.pr }) G3, H4⟩
    · have hp' : h.pr = -1 := by omega
      rw [if_neg (by simpa using hp)] at k2
      rw [if_neg hp, List.nil_append] at f2
      exact ⟨q3 + 1, _, k2, (congrArg (fun x : Hd => { x with pr := -1 }) G3).trans (u_pr (h := h) hp'), f2⟩
theorem u_ex (hx : h.ex = true) (hm : h.mt X = true) : wo ({ h with sh := false, ke := false, rf := 0, r0 := 0, r1 := 0, r2 := 0, pr := 0, ba := 0, d0 := 0, d1 := 0, d2 := 0, d3 := 0, d4 := 0, co := 0, ro := 0, na := false, l0 := 0, l1 := 0, l2 := 0, l3 := 0, sp := 0, cd := false, da := 0, cb := 0, x0 := false, x1 := false, x2 := false } : Hd) = wo h ∧ X = [] := by
  obtain ⟨a1, a2, a3, ⟨a4, a5, a6⟩, a7, a8, a9, a10, a11, a12⟩ := of_decide_eq_true hm
  obtain ⟨b1, b2⟩ := u_less a12 a8
  obtain ⟨d0, d1, d2, d3, d4, d5⟩ := of_decide_eq_true a8
  refine ⟨?_, b2⟩
  rw [← b1]
  clear b1 a12 a8 hm
  cases h
  simp only at *
  subst a1 a2 a3 a4 a5 a6 a7 a9 a10 a11 d0 d1 d2 d3 d4 d5
  rfl
theorem u_sl (e1 : h.sl = 0) : wo ({ h with sl := 0, sh := false, ke := false, rf := 0, r0 := 0, r1 := 0, r2 := 0, pr := 0, ba := 0, d0 := 0, d1 := 0, d2 := 0, d3 := 0, d4 := 0, co := 0, ro := 0, na := false, l0 := 0, l1 := 0, l2 := 0, l3 := 0, sp := 0, cd := false, da := 0, cb := 0, x0 := false, x1 := false, x2 := false } : Hd) = wo ({ h with sh := false, ke := false, rf := 0, r0 := 0, r1 := 0, r2 := 0, pr := 0, ba := 0, d0 := 0, d1 := 0, d2 := 0, d3 := 0, d4 := 0, co := 0, ro := 0, na := false, l0 := 0, l1 := 0, l2 := 0, l3 := 0, sp := 0, cd := false, da := 0, cb := 0, x0 := false, x1 := false, x2 := false } : Hd) := by
  cases h
  simp only at e1
  subst e1
  rfl
/-- A header whose bits stand there is read. -/
theorem head_a (H : At b z p (hBits h X ++ l)) (hm : h.may X w e = true) {X' : List Sg} (ht : HeadT w e (.r b p, 0, zP) [] c X') : ∃ q, c.1 = .r b q ∧ c.2.1 = 0 ∧ wo c.2.2 = wo h ∧ X' = X ∧ At b z q l := by
  have mS : mayS w e = true := by unfold Hd.may at hm; simp only [Bool.and_eq_true] at hm; exact hm.1.1.1
  obtain ⟨c1, h1, ht⟩ := ht
  unfold hBits at H
  simp only [List.append_assoc] at H
  have G0 : wo zP = wo ({ h with ex := false, sl := 0, sh := false, ke := false, rf := 0, r0 := 0, r1 := 0, r2 := 0, pr := 0, ba := 0, d0 := 0, d1 := 0, d2 := 0, d3 := 0, d4 := 0, co := 0, ro := 0, na := false, l0 := 0, l1 := 0, l2 := 0, l3 := 0, sp := 0, cd := false, da := 0, cb := 0, x0 := false, x1 := false, x2 := false } : Hd) := rfl
  obtain ⟨q1, e1, H1⟩ := fA H  h1
  have G1 : wo c1.2.2 = wo ({ h with sl := 0, sh := false, ke := false, rf := 0, r0 := 0, r1 := 0, r2 := 0, pr := 0, ba := 0, d0 := 0, d1 := 0, d2 := 0, d3 := 0, d4 := 0, co := 0, ro := 0, na := false, l0 := 0, l1 := 0, l2 := 0, l3 := 0, sp := 0, cd := false, da := 0, cb := 0, x0 := false, x1 := false, x2 := false } : Hd) := by rw [e1]; exact congrArg (fun x : Hd => { x with ex := h.ex }) G0
  obtain ⟨c1a, c1b, g1⟩ := c1
  obtain ⟨rfl, rfl⟩ : c1a = .r b q1 ∧ c1b = 0 := ⟨congrArg Prod.fst e1, congrArg (fun y : Cd => y.2.1) e1⟩
  clear e1 h1
  replace G1 : wo g1 = wo ({ h with sl := 0, sh := false, ke := false, rf := 0, r0 := 0, r1 := 0, r2 := 0, pr := 0, ba := 0, d0 := 0, d1 := 0, d2 := 0, d3 := 0, d4 := 0, co := 0, ro := 0, na := false, l0 := 0, l1 := 0, l2 := 0, l3 := 0, sp := 0, cd := false, da := 0, cb := 0, x0 := false, x1 := false, x2 := false } : Hd) := G1
  have hx : g1.ex = h.ex := by have := congrArg Hd.ex G1; exact this
  cases hc : h.ex with
  | true =>
    rw [if_pos (by show g1.ex = true; rw [hx, hc])] at ht
    rw [if_pos hc] at H1
    unfold Hd.may at hm
    simp only [hc, if_true, Bool.and_eq_true, decide_eq_true_eq] at hm
    have sl := hm.1.1.2
    obtain ⟨q2, e2, H2⟩ := nA0 H1 (n := 3) (by decide) sl.1.1 (by show h.sl < 8; omega) ht.1
    obtain ⟨u1, u2⟩ := u_ex hc sl.2
    exact ⟨q2, by rw [e2], by rw [e2], by rw [e2]; exact (congrArg (fun x : Hd => { x with sl := h.sl }) G1).trans u1, by rw [ht.2, u2], H2⟩
  | false =>
    rw [if_neg (by show ¬ g1.ex = true; rw [hx, hc]; decide)] at ht
    rw [if_neg (by rw [hc]; decide)] at H1
    simp only [List.append_assoc] at H1
    obtain ⟨⟨sl, rf, pr, ba⟩, mk, mr, md, mco, mro, mf⟩ := (may_iff hc mS).1 hm
    obtain ⟨c2, h2, c3, h3, c4, h4, c5, h5, c6, h6, ht⟩ := ht
    replace G1 := G1.trans (u_sl sl)
    obtain ⟨q2, e2, H2⟩ := fA H1  h2
    have G2 : wo c2.2.2 = wo ({ h with ke := false, rf := 0, r0 := 0, r1 := 0, r2 := 0, pr := 0, ba := 0, d0 := 0, d1 := 0, d2 := 0, d3 := 0, d4 := 0, co := 0, ro := 0, na := false, l0 := 0, l1 := 0, l2 := 0, l3 := 0, sp := 0, cd := false, da := 0, cb := 0, x0 := false, x1 := false, x2 := false } : Hd) := by rw [e2]; exact congrArg (fun x : Hd => { x with sh := h.sh }) G1
    obtain ⟨c2a, c2b, g2⟩ := c2
    obtain ⟨rfl, rfl⟩ : c2a = .r b q2 ∧ c2b = 0 := ⟨congrArg Prod.fst e2, congrArg (fun y : Cd => y.2.1) e2⟩
    clear e2 h2
    replace G2 : wo g2 = wo ({ h with ke := false, rf := 0, r0 := 0, r1 := 0, r2 := 0, pr := 0, ba := 0, d0 := 0, d1 := 0, d2 := 0, d3 := 0, d4 := 0, co := 0, ro := 0, na := false, l0 := 0, l1 := 0, l2 := 0, l3 := 0, sp := 0, cd := false, da := 0, cb := 0, x0 := false, x1 := false, x2 := false } : Hd) := G2
    obtain ⟨q3, e3, H3⟩ := fA H2  h3
    have G3 : wo c3.2.2 = wo ({ h with rf := 0, r0 := 0, r1 := 0, r2 := 0, pr := 0, ba := 0, d0 := 0, d1 := 0, d2 := 0, d3 := 0, d4 := 0, co := 0, ro := 0, na := false, l0 := 0, l1 := 0, l2 := 0, l3 := 0, sp := 0, cd := false, da := 0, cb := 0, x0 := false, x1 := false, x2 := false } : Hd) := by rw [e3]; exact congrArg (fun x : Hd => { x with ke := h.ke }) G2
    obtain ⟨c3a, c3b, g3⟩ := c3
    obtain ⟨rfl, rfl⟩ : c3a = .r b q3 ∧ c3b = 0 := ⟨congrArg Prod.fst e3, congrArg (fun y : Cd => y.2.1) e3⟩
    clear e3 h3
    replace G3 : wo g3 = wo ({ h with rf := 0, r0 := 0, r1 := 0, r2 := 0, pr := 0, ba := 0, d0 := 0, d1 := 0, d2 := 0, d3 := 0, d4 := 0, co := 0, ro := 0, na := false, l0 := 0, l1 := 0, l2 := 0, l3 := 0, sp := 0, cd := false, da := 0, cb := 0, x0 := false, x1 := false, x2 := false } : Hd) := G3
    obtain ⟨q4, e4, H4⟩ := nA0 H3 (n := 8) (by decide) rf.1 (by show h.rf < 256; omega) h4
    have G4 : wo c4.2.2 = wo ({ h with r0 := 0, r1 := 0, r2 := 0, pr := 0, ba := 0, d0 := 0, d1 := 0, d2 := 0, d3 := 0, d4 := 0, co := 0, ro := 0, na := false, l0 := 0, l1 := 0, l2 := 0, l3 := 0, sp := 0, cd := false, da := 0, cb := 0, x0 := false, x1 := false, x2 := false } : Hd) := by rw [e4]; exact congrArg (fun x : Hd => { x with rf := h.rf }) G3
    obtain ⟨c4a, c4b, g4⟩ := c4
    obtain ⟨rfl, rfl⟩ : c4a = .r b q4 ∧ c4b = 0 := ⟨congrArg Prod.fst e4, congrArg (fun y : Cd => y.2.1) e4⟩
    clear e4 h4
    replace G4 : wo g4 = wo ({ h with r0 := 0, r1 := 0, r2 := 0, pr := 0, ba := 0, d0 := 0, d1 := 0, d2 := 0, d3 := 0, d4 := 0, co := 0, ro := 0, na := false, l0 := 0, l1 := 0, l2 := 0, l3 := 0, sp := 0, cd := false, da := 0, cb := 0, x0 := false, x1 := false, x2 := false } : Hd) := G4
    obtain ⟨q5, g5, rfl, G5, H5⟩ := ref_a H4 pr mk mr G4 h5
    obtain ⟨q6, e6, H6⟩ := nA0 H5 (n := 8) (by decide) ba.1 (by show h.ba < 256; omega) h6
    have G6 : wo c6.2.2 = wo ({ h with d0 := 0, d1 := 0, d2 := 0, d3 := 0, d4 := 0, co := 0, ro := 0, na := false, l0 := 0, l1 := 0, l2 := 0, l3 := 0, sp := 0, cd := false, da := 0, cb := 0, x0 := false, x1 := false, x2 := false } : Hd) := by rw [e6]; exact congrArg (fun x : Hd => { x with ba := h.ba }) G5
    obtain ⟨c6a, c6b, g6⟩ := c6
    obtain ⟨rfl, rfl⟩ : c6a = .r b q6 ∧ c6b = 0 := ⟨congrArg Prod.fst e6, congrArg (fun y : Cd => y.2.1) e6⟩
    clear e6 h6
    replace G6 : wo g6 = wo ({ h with d0 := 0, d1 := 0, d2 := 0, d3 := 0, d4 := 0, co := 0, ro := 0, na := false, l0 := 0, l1 := 0, l2 := 0, l3 := 0, sp := 0, cd := false, da := 0, cb := 0, x0 := false, x1 := false, x2 := false } : Hd) := G6
    exact tail_a H6 md mco mro mf G6 ht
end
end Go.Zt


/- Layer 20: HeadsAny: what is read without a fault: the bits that stood there, and the numbers' ranges. Plain. -/
set_option linter.unusedSimpArgs false
set_option linter.unusedVariables false
set_option maxRecDepth 100000
namespace Go.Zt
open Go Go.Sim Go.Proofs Go.RowKit

/-- From p to q these bits stand. -/
structure Bt (b : List Nat) (p q : Nat) (l : List Nat) : Prop where
  seg : Go.Zt.seg (bitOf b) p l.length = l
  len : p + l.length = q
  le : q ≤ 8 * b.length
section
variable {b : List Nat} {p q o : Nat} {l l' : List Nat} {h g : Hd} {c c0 : Cd} {X : List Sg} {w e : Int}
theorem Bt.nil (h : p ≤ 8 * b.length) : Bt b p p [] := ⟨rfl, rfl, h⟩
theorem Bt.app (h : Bt b p q l) (k : Bt b q o l') : Bt b p o (l ++ l') := by
  obtain ⟨h1, h2, h3⟩ := h
  obtain ⟨k1, k2, k3⟩ := k
  refine ⟨?_, by rw [List.length_append]; omega, k3⟩
  rw [List.length_append, seg_app, h1, h2, k1]
/-- A number read without a fault. -/
theorem fixed_b {n : Nat} (hn : n ≤ 32) (hp : p ≤ 8 * b.length) (h0 : (rFixed b p n).2.1 = 0) : (rFixed b p n).2.2 = p + n ∧ (rFixed b p n).1 < 2 ^ n ∧ Bt b p (p + n) (bitsN (rFixed b p n).1 n) := by
  unfold rFixed at h0 ⊢
  rw [if_neg (by omega)] at h0 ⊢
  by_cases hl : ((n : Nat) : Int) > ((8 * b.length : Nat) : Int) - p
  · rw [if_pos hl] at h0; cases h0
  · rw [if_neg hl, Int.toNat_natCast]
    refine ⟨rfl, numb_lt bit2 p n, ?_, by rw [bitsN_len], by omega⟩
    rw [bitsN_len]
    exact (segN bit2 n p).symm
theorem numD_b {v f : Int} {n : Nat} {p e : Nat} (hn : n ≤ 32) (hp : p ≤ 8 * b.length) (h0 : (numD (.r b p) e v n f).2.1 = 0) : e = 0 ∧ ∃ q x, numD (.r b p) e v n f = (.r b q, 0, x + f) ∧ 0 ≤ x ∧ x < ((2 ^ n : Nat) : Int) ∧ Bt b p q (bI x n) := by
  have he : e = 0 := by
    refine Classical.byContradiction fun q => ?_
    rw [numD_d q] at h0
    exact q h0
  subst he
  have hr : (rFixed b p n).2.1 = 0 := h0
  obtain ⟨a1, a2, a3⟩ := fixed_b hn hp hr
  refine ⟨rfl, p + n, ((rFixed b p n).1 : Nat), ?_, by omega, by omega, by unfold bI; rw [Int.toNat_natCast]; exact a3⟩
  unfold numD
  rw [if_neg (show ¬ (0 : Nat) ≠ 0 by decide)]
  simp only [hr, if_true, a1]
theorem flagD_b {v : Bool} {p e : Nat} (hp : p ≤ 8 * b.length) (h0 : (flagD (.r b p) e v).2.1 = 0) : e = 0 ∧ ∃ q x, flagD (.r b p) e v = (.r b q, 0, x) ∧ Bt b p q [yes x] := by
  obtain ⟨he, q, x, a1, a2, a3, a4⟩ := numD_b (v := if v then 1 else 0) (f := 0) (n := 1) (by decide) hp h0
  have a1' : numD (.r b p) e (if v then 1 else 0) 1 0 = _ := a1
  have a3' : x < 2 := a3
  refine ⟨he, q, x == 1, ?_, ?_⟩
  · unfold flagD; rw [a1']; simp
  · have : [yes (x == 1)] = bI x 1 := by
      rcases (show x = 0 ∨ x = 1 by omega) with rfl | rfl <;> rfl
    rw [this]; exact a4
theorem nB {v f : Int} {n : Nat} {s : Int → Hd} (hn : n ≤ 32) (h : c = nF c0 v s n f) (hd : c0.1 = .r b p) (hp : p ≤ 8 * b.length) (h0 : c.2.1 = 0) : c0.2.1 = 0 ∧ ∃ q x, c = (.r b q, 0, s (x + f)) ∧ 0 ≤ x ∧ x < ((2 ^ n : Nat) : Int) ∧ Bt b p q (bI x n) := by
  subst h
  have h0' : (numD c0.1 c0.2.1 v n f).2.1 = 0 := h0
  rw [hd] at h0'
  obtain ⟨he, q, x, a1, a2⟩ := numD_b hn hp h0'
  refine ⟨he, q, x, ?_, a2⟩
  unfold nF
  rw [hd, a1]
theorem nB0 {v : Int} {n : Nat} {s : Int → Hd} (hn : n ≤ 32) (h : c = nF c0 v s n 0) (hd : c0.1 = .r b p) (hp : p ≤ 8 * b.length) (h0 : c.2.1 = 0) : c0.2.1 = 0 ∧ ∃ q x, c = (.r b q, 0, s x) ∧ 0 ≤ x ∧ x < ((2 ^ n : Nat) : Int) ∧ Bt b p q (bI x n) := by
  obtain ⟨he, q, x, a1, a2⟩ := nB hn h hd hp h0
  exact ⟨he, q, x, by rw [a1, Int.add_zero], a2⟩
theorem fB {v : Bool} {s : Bool → Hd} (h : c = fF c0 v s) (hd : c0.1 = .r b p) (hp : p ≤ 8 * b.length) (h0 : c.2.1 = 0) : c0.2.1 = 0 ∧ ∃ q x, c = (.r b q, 0, s x) ∧ Bt b p q [yes x] := by
  subst h
  have h0' : (flagD c0.1 c0.2.1 v).2.1 = 0 := h0
  rw [hd] at h0'
  obtain ⟨he, q, x, a1, a2⟩ := flagD_b hp h0'
  refine ⟨he, q, x, ?_, a2⟩
  unfold fF
  rw [hd, a1]
theorem lB {v z : Int} {s : Int → Hd} (h : c = gF c0 v s z) (hd : c0.1 = .r b p) (hp : p ≤ 8 * b.length) (h0 : c.2.1 = 0) : c0.2.1 = 0 ∧ ∃ q x, c = (.r b q, 0, s x) ∧ logM x z = true ∧ Bt b p q (bI x 2) := by
  subst h
  have h0' : (logD c0.1 c0.2.1 v z).2.1 = 0 := h0
  rw [hd] at h0'
  have hn : (numD (.r b p) c0.2.1 v 2 0).2.1 = 0 ∧ logM (numD (.r b p) c0.2.1 v 2 0).2.2 z = true := by
    unfold logD at h0'
    split at h0'
    · cases h0'
    · rename_i hq
      refine ⟨h0', ?_⟩
      cases hl : logM (numD (.r b p) c0.2.1 v 2 0).2.2 z
      · exact absurd ⟨h0', hl⟩ hq
      · rfl
  obtain ⟨he, q, x, a1, a2, a3, a4⟩ := numD_b (v := v) (f := 0) (n := 2) (by decide) hp hn.1
  have a1' : numD (.r b p) c0.2.1 v 2 0 = (.r b q, 0, x) := by rw [Int.add_zero] at a1; exact a1
  rw [a1'] at hn
  refine ⟨he, q, x, ?_, hn.2, a4⟩
  unfold gF logD
  rw [hd, a1', if_neg (fun q => by rw [hn.2] at q; cases q.2)]
theorem dB' {v : Int} {s : Int → Hd} (hv : v = 0) (h : c = dF' c0 v s) (hd : c0.1 = .r b p) (hp : p ≤ 8 * b.length) (h0 : c.2.1 = 0) : c0.2.1 = 0 ∧ ∃ q x, c = (.r b q, 0, s x) ∧ (-31 ≤ x ∧ x ≤ 31) ∧ Bt b p q (dBits x) := by
  subst h hv
  have h0' : (deltaD c0.1 c0.2.1 0).2.1 = 0 := h0
  rw [hd] at h0'
  have hf : (flagD (.r b p) c0.2.1 ((0 : Int) != 0)).2.1 = 0 := by
    refine Classical.byContradiction fun q => ?_
    unfold deltaD at h0'
    rw [if_pos (.inr q)] at h0'
    exact q h0'
  obtain ⟨he, q, x, a1, a2⟩ := flagD_b hp hf
  have hq : q ≤ 8 * b.length := a2.le
  unfold deltaD at h0'
  rw [a1] at h0'
  unfold dF' deltaD
  rw [hd, a1]
  cases x with
  | false =>
    refine ⟨he, q, 0, ?_, by decide, a2⟩
    rfl
  | true =>
    simp only [Bool.true_eq_false, ne_eq, not_true_eq_false, or_self, if_false] at h0' ⊢
    by_cases hz : (rSigned b q 5).2.1 = 0 ∧ (rSigned b q 5).1 = 0
    · rw [if_pos hz] at h0'; cases h0'
    · rw [if_neg hz] at h0' ⊢
      have nz : (rSigned b q 5).1 ≠ 0 := fun h => hz ⟨h0', h⟩
      have key : (rSigned b q 5).2.2 = q + 6 ∧ (-31 ≤ (rSigned b q 5).1 ∧ (rSigned b q 5).1 ≤ 31) ∧ Bt b q (q + 6) (yes (decide ((rSigned b q 5).1 < 0)) :: bitsN (rSigned b q 5).1.natAbs 5) := by
        have hlt := numb_lt (f := bitOf b) bit2 (q + 1) 5
        have hseg := segN (f := bitOf b) bit2 5 (q + 1)
        have b2 := bit2 (b := b) q
        unfold rSigned at h0' nz ⊢
        rw [if_neg (by decide)] at h0' nz ⊢
        simp only [show (5 : Int).toNat = 5 from rfl] at h0' nz ⊢
        by_cases hl : (5 : Int) + 1 > ((8 * b.length : Nat) : Int) - q
        · rw [if_pos hl] at h0'; cases h0'
        · rw [if_neg hl] at h0' nz ⊢
          by_cases hb : bitOf b q = 1
          · rw [if_pos hb] at h0' nz ⊢
            by_cases hn : numb (bitOf b) (q + 1) 5 = 0
            · rw [if_pos hn] at h0'; cases h0'
            · rw [if_neg hn] at h0' nz ⊢
              refine ⟨rfl, by dsimp only; omega, ?_⟩
              dsimp only
              rw [decide_eq_true (by omega), Int.natAbs_neg, Int.natAbs_natCast, hseg]
              refine ⟨?_, by simp [seg_len], by omega⟩
              simp only [List.length_cons, seg_len]
              rw [seg_cons, hb]; rfl
          · rw [if_neg hb] at h0' nz ⊢
            have hb0 : bitOf b q = 0 := by omega
            refine ⟨rfl, by dsimp only; omega, ?_⟩
            dsimp only
            rw [decide_eq_false (by omega), Int.natAbs_natCast, hseg]
            refine ⟨?_, by simp [seg_len], by omega⟩
            simp only [List.length_cons, seg_len]
            rw [seg_cons, hb0]; rfl
      refine ⟨he, q + 6, (rSigned b q 5).1, ?_, key.2.1, ?_⟩
      · rw [key.1, h0']
      · have : dBits (rSigned b q 5).1 = [yes true] ++ (yes (decide ((rSigned b q 5).1 < 0)) :: bitsN (rSigned b q 5).1.natAbs 5) := by
          have hb : ((rSigned b q 5).1 != 0) = true := by simpa using nz
          unfold dBits
          rw [hb]; rfl
        rw [this]
        exact a2.app key.2.2
end
end Go.Zt

