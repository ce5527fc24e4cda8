/- The functions' walks: for each function and each loop a rule of what it comes to. Printed by zw2.py. -/
import Derived.Test.YtgepgbblmodagaaProg
import Derived.Test.YtgepgbblmodagaaZkA
import Derived.Test.YtgepgbblmodagaaZqT
import Derived.Test.YtgepgbblmodagaaZlS
import Derived.Test.YtgepgbblmodagaaZlA
set_option linter.unusedVariables false
set_option maxRecDepth 100000
namespace Go.Zt
open Go Go.Sim Go.Proofs

def tyZlD0 : List Sc := [.bool, .int .i64, .bool, .bool, .int .i64, .int .i64, .int .i64, .int .i64, .int .i64, .int .i64, .int .i64, .int .i64, .int .i64, .int .i64, .int .i64, .int .i64, .int .i64, .bool, .int .i64, .int .i64, .int .i64, .int .i64, .int .i64, .bool, .int .i64, .int .i64, .sl, .bool, .bool, .bool]
/-! ### zoetrope/heads.Read: function 35 -/
def K35 : List (List It × List Nat) := []
def Z35 : List (List Nat × List Nat) := []
theorem b35 : Try.prog.funcs[35]? = some Try.f35 ∧ (Orc.tab Try.prog).lookup 35 = none ∧ Try.f35.body = some (codeOf Try.f35) := ⟨by kernel_rfl, by kernel_rfl, by kernel_rfl⟩
theorem w35_0 {x0 : Option Addr} {x1_0 x1_1 : Int} {M : Mem} {Q : Value → Mem → Prop} (H :
    Cn Try.prog 33 #[.pointer x0, .int .i64 0] ((M.new (.cells #[.int .i64 x1_0, .int .i64 x1_1] 23)).new (.cells #[.bool false, .int .i64 0, .bool false, .bool false, .int .i64 0, .int .i64 0, .int .i64 0, .int .i64 0, .int .i64 0, .int .i64 0, .int .i64 0, .int .i64 0, .int .i64 0, .int .i64 0, .int .i64 0, .int .i64 0, .int .i64 0, .bool false, .int .i64 0, .int .i64 0, .int .i64 0, .int .i64 0, .int .i64 0, .bool false, .int .i64 0, .int .i64 0, .slice none 0 0, .bool false, .bool false, .bool false] 41)) fun v1' N1' =>
     tyS (asU 2 v1') fun cs2' =>
     tyS (asI .u32 (cs2'.getD 0 undef)) fun x3' =>
     tyS (asI .i64 (cs2'.getD 1 undef)) fun x4' =>
     cnd (x4' != 0) (
      stP (some 30) #[.bool false, .int .i64 0, .bool false, .bool false, .int .i64 0, .int .i64 0, .int .i64 0, .int .i64 0, .int .i64 0, .int .i64 0, .int .i64 0, .int .i64 0, .int .i64 0, .int .i64 0, .int .i64 0, .int .i64 0, .int .i64 0, .bool false, .int .i64 0, .int .i64 0, .int .i64 0, .int .i64 0, .int .i64 0, .bool false, .int .i64 0, .int .i64 0, .slice none 0 0, .bool false, .bool false, .bool false] N1' (2 * (M.new (.cells #[.int .i64 x1_0, .int .i64 x1_1] 23)).nb.size) 0 fun M5' =>
      ldP tyZlD0 M5' (2 * (M.new (.cells #[.int .i64 x1_0, .int .i64 x1_1] 23)).nb.size) 0 fun vs6' =>
      Q (.tuple #[.agg vs6'.toArray, .int .i64 (x4')]) M5') (
      onS (N1'.intAt .i64 (2 * M.nb.size) 0) fun x7' =>
      onS (N1'.intAt .i64 (2 * M.nb.size) (0 + 1)) fun x8' =>
      Cn Try.prog 14 #[.agg #[.int .i64 x7', .int .i64 x8']] N1' fun v9' N9' =>
       tyS (asI .i64 v9') fun x10' =>
       cnd (x10' != 0) (
        stP (some 30) #[.bool false, .int .i64 0, .bool false, .bool false, .int .i64 0, .int .i64 0, .int .i64 0, .int .i64 0, .int .i64 0, .int .i64 0, .int .i64 0, .int .i64 0, .int .i64 0, .int .i64 0, .int .i64 0, .int .i64 0, .int .i64 0, .bool false, .int .i64 0, .int .i64 0, .int .i64 0, .int .i64 0, .int .i64 0, .bool false, .int .i64 0, .int .i64 0, .slice none 0 0, .bool false, .bool false, .bool false] N9' (2 * (M.new (.cells #[.int .i64 x1_0, .int .i64 x1_1] 23)).nb.size) 0 fun M11' =>
        ldP tyZlD0 M11' (2 * (M.new (.cells #[.int .i64 x1_0, .int .i64 x1_1] 23)).nb.size) 0 fun vs12' =>
        Q (.tuple #[.agg vs12'.toArray, .int .i64 (x10')]) M11') (
        onS (((N9'.new (.cells #[.bool false, .int .i64 0, .bool false, .bool false, .int .i64 0, .int .i64 0, .int .i64 0, .int .i64 0, .int .i64 0, .int .i64 0, .int .i64 0, .int .i64 0, .int .i64 0, .int .i64 0, .int .i64 0, .int .i64 0, .int .i64 0, .bool false, .int .i64 0, .int .i64 0, .int .i64 0, .int .i64 0, .int .i64 0, .bool false, .int .i64 0, .int .i64 0, .slice none 0 0, .bool false, .bool false, .bool false] 41)).new (.cells #[.pointer none, .pointer x0, .int .i64 0] 89)).intAt .i64 (2 * M.nb.size) 0) fun x13' =>
        onS (((N9'.new (.cells #[.bool false, .int .i64 0, .bool false, .bool false, .int .i64 0, .int .i64 0, .int .i64 0, .int .i64 0, .int .i64 0, .int .i64 0, .int .i64 0, .int .i64 0, .int .i64 0, .int .i64 0, .int .i64 0, .int .i64 0, .int .i64 0, .bool false, .int .i64 0, .int .i64 0, .int .i64 0, .int .i64 0, .int .i64 0, .bool false, .int .i64 0, .int .i64 0, .slice none 0 0, .bool false, .bool false, .bool false] 41)).new (.cells #[.pointer none, .pointer x0, .int .i64 0] 89)).intAt .i64 (2 * M.nb.size) (0 + 1)) fun x14' =>
        Cn Try.prog 50 #[.pointer (some ⟨2 * (N9'.new (.cells #[.bool false, .int .i64 0, .bool false, .bool false, .int .i64 0, .int .i64 0, .int .i64 0, .int .i64 0, .int .i64 0, .int .i64 0, .int .i64 0, .int .i64 0, .int .i64 0, .int .i64 0, .int .i64 0, .int .i64 0, .int .i64 0, .bool false, .int .i64 0, .int .i64 0, .int .i64 0, .int .i64 0, .int .i64 0, .bool false, .int .i64 0, .int .i64 0, .slice none 0 0, .bool false, .bool false, .bool false] 41)).nb.size, 0, none⟩), .pointer (some ⟨2 * N9'.nb.size, 0, none⟩), .agg #[.int .i64 x13', .int .i64 x14']] ((N9'.new (.cells #[.bool false, .int .i64 0, .bool false, .bool false, .int .i64 0, .int .i64 0, .int .i64 0, .int .i64 0, .int .i64 0, .int .i64 0, .int .i64 0, .int .i64 0, .int .i64 0, .int .i64 0, .int .i64 0, .int .i64 0, .int .i64 0, .bool false, .int .i64 0, .int .i64 0, .int .i64 0, .int .i64 0, .int .i64 0, .bool false, .int .i64 0, .int .i64 0, .slice none 0 0, .bool false, .bool false, .bool false] 41)).new (.cells #[.pointer none, .pointer x0, .int .i64 0] 89)) fun v15' N15' =>
         onS (N15'.intAt .i64 (2 * (N9'.new (.cells #[.bool false, .int .i64 0, .bool false, .bool false, .int .i64 0, .int .i64 0, .int .i64 0, .int .i64 0, .int .i64 0, .int .i64 0, .int .i64 0, .int .i64 0, .int .i64 0, .int .i64 0, .int .i64 0, .int .i64 0, .int .i64 0, .bool false, .int .i64 0, .int .i64 0, .int .i64 0, .int .i64 0, .int .i64 0, .bool false, .int .i64 0, .int .i64 0, .slice none 0 0, .bool false, .bool false, .bool false] 41)).nb.size) (0 + 2)) fun x16' =>
         cnd (x16' != 0) (
          onS (N15'.intAt .i64 (2 * (N9'.new (.cells #[.bool false, .int .i64 0, .bool false, .bool false, .int .i64 0, .int .i64 0, .int .i64 0, .int .i64 0, .int .i64 0, .int .i64 0, .int .i64 0, .int .i64 0, .int .i64 0, .int .i64 0, .int .i64 0, .int .i64 0, .int .i64 0, .bool false, .int .i64 0, .int .i64 0, .int .i64 0, .int .i64 0, .int .i64 0, .bool false, .int .i64 0, .int .i64 0, .slice none 0 0, .bool false, .bool false, .bool false] 41)).nb.size) (0 + 2)) fun x17' =>
          cnd (decide (Option.map (fun a : Addr => a.block) (some ⟨2 * (M.new (.cells #[.int .i64 x1_0, .int .i64 x1_1] 23)).nb.size, 0, none⟩) = some (2 * (N9'.new (.cells #[.bool false, .int .i64 0, .bool false, .bool false, .int .i64 0, .int .i64 0, .int .i64 0, .int .i64 0, .int .i64 0, .int .i64 0, .int .i64 0, .int .i64 0, .int .i64 0, .int .i64 0, .int .i64 0, .int .i64 0, .int .i64 0, .bool false, .int .i64 0, .int .i64 0, .int .i64 0, .int .i64 0, .int .i64 0, .bool false, .int .i64 0, .int .i64 0, .slice none 0 0, .bool false, .bool false, .bool false] 41)).nb.size))) (
           False) (
           stP (some 30) #[.bool false, .int .i64 0, .bool false, .bool false, .int .i64 0, .int .i64 0, .int .i64 0, .int .i64 0, .int .i64 0, .int .i64 0, .int .i64 0, .int .i64 0, .int .i64 0, .int .i64 0, .int .i64 0, .int .i64 0, .int .i64 0, .bool false, .int .i64 0, .int .i64 0, .int .i64 0, .int .i64 0, .int .i64 0, .bool false, .int .i64 0, .int .i64 0, .slice none 0 0, .bool false, .bool false, .bool false] N15' (2 * (M.new (.cells #[.int .i64 x1_0, .int .i64 x1_1] 23)).nb.size) 0 fun M18' =>
           ldP tyZlD0 M18' (2 * (M.new (.cells #[.int .i64 x1_0, .int .i64 x1_1] 23)).nb.size) 0 fun vs19' =>
           Q (.tuple #[.agg vs19'.toArray, .int .i64 (x17')]) M18')) (
          ldP tyZlD0 N15' (2 * N9'.nb.size) 0 fun vs20' =>
          stP (some 30) vs20'.toArray N15' (2 * (M.new (.cells #[.int .i64 x1_0, .int .i64 x1_1] 23)).nb.size) 0 fun M21' =>
          ldP tyZlD0 M21' (2 * (M.new (.cells #[.int .i64 x1_0, .int .i64 x1_1] 23)).nb.size) 0 fun vs22' =>
          Q (.tuple #[.agg vs22'.toArray, .int .i64 0]) M21')))) :
    Cn Try.prog 35 #[.pointer x0, .agg #[.int .i64 x1_0, .int .i64 x1_1]] M Q :=
  Cn.mk (cuts := K35) (sp := Z35) 900 b35 rfl rfl H fun G => by kernel_rfl


end Go.Zt


/- The functions' walks: for each function and each loop a rule of what it comes to. Printed by zw2.py. -/
set_option linter.unusedVariables false
set_option maxRecDepth 100000
namespace Go.Zt
open Go Go.Sim Go.Proofs

end Go.Zt


/- Layer 20: Write: the program's and the document's. -/
set_option linter.unusedSimpArgs false
set_option linter.unusedVariables false
set_option maxRecDepth 100000
namespace Go.Zt
open Go Go.Sim Go.Proofs Go.RowKit

/-- A writer of the program's, and what it has of its own. -/
structure Ws (U : Nat → Prop) (M : Mem) (j : Nat) (l : List Nat) : Prop where
  dev : Wr (fun i => U i ∨ M.nb.size ≤ i) M j l
  fl : ∀ i, U i ∨ i = j → M.floor ≤ i
  fs : M.floor ≤ M.nb.size
  ub : ∀ i, U i → i < M.nb.size
/-- A writer of the document's. -/
structure Wt (U : Nat → Prop) (M : Mem) (j : Nat) (l : List Nat) : Prop where
  dev : Wf (fun i => U i ∨ M.nb.size ≤ i) M j l
  fl : ∀ i, U i ∨ i = j → M.floor ≤ i
  fs : M.floor ≤ M.nb.size
  ub : ∀ i, U i → i < M.nb.size
theorem Wf.shrink {S T : Nat → Prop} {M : Mem} {j : Nat} {l : List Nat} (h : Wf S M j l) (hS : ∀ i, i < M.nb.size → S i → T i) (hj : ¬ T j) : Wf T M j l := by
  obtain ⟨A, c, g1, g2, g3⟩ := h.ex
  exact ⟨hj, h.bin, h.len, A, c, g1, g2.mono hS, g3⟩
section
variable {U : Nat → Prop} {M N : Mem} {j k : Nat} {l l' : List Nat}
theorem Ws.lt (h : Ws U M j l) : j < M.nb.size := by obtain ⟨A, c, g1, _⟩ := h.dev.ex; exact lt_of_at g1
theorem Wt.lt (h : Wt U M j l) : j < M.nb.size := by obtain ⟨A, c, g1, _⟩ := h.dev.ex; exact lt_of_at g1
theorem Ws.out (h : Ws U M j l) : ¬ U j := fun hu => h.dev.out (.inl hu)
theorem Wt.out (h : Wt U M j l) : ¬ U j := fun hu => h.dev.out (.inl hu)
theorem Ws.chg {T : Nat → Prop} (h : Ws U M j l) (k : Chg T M N) (hT : ∀ i, i < M.nb.size → U i ∨ i = j → ¬ T i) : Ws U N j l := by
  have z := k.size
  have hl := h.lt
  refine ⟨((h.dev.shrink (T := U) (fun i hi hs => hs.resolve_right (by omega)) h.out).chg k fun i hi hs => hT i hi hs).shrink (fun i _ hs => .inl hs) fun hs => hs.elim h.out fun q => by omega, fun i hi => by rw [k.floor]; exact h.fl i hi, by rw [k.floor]; exact Nat.le_trans h.fs z, fun i hi => Nat.lt_of_lt_of_le (h.ub i hi) z⟩
theorem Wt.chg {T : Nat → Prop} (h : Wt U M j l) (k : Chg T M N) (hT : ∀ i, i < M.nb.size → U i ∨ i = j → ¬ T i) : Wt U N j l := by
  have z := k.size
  have hl := h.lt
  refine ⟨((h.dev.shrink (T := U) (fun i hi hs => hs.resolve_right (by omega)) h.out).chg k fun i hi hs => hT i hi hs).shrink (fun i _ hs => .inl hs) fun hs => hs.elim h.out fun q => by omega, fun i hi => by rw [k.floor]; exact h.fl i hi, by rw [k.floor]; exact Nat.le_trans h.fs z, fun i hi => Nat.lt_of_lt_of_le (h.ub i hi) z⟩
theorem Ws.keep (h : Ws U M j l) (k : Keep M N) : Ws U N j l := h.chg k fun _ _ _ x => x
theorem Wt.keep (h : Wt U M j l) (k : Keep M N) : Wt U N j l := h.chg k fun _ _ _ x => x
theorem Ws.flw (h : Ws U M j l) : Fl (fun i => U i ∨ M.nb.size ≤ i) M j :=
  ⟨fun i hi => by
    rcases hi with (hi | hi) | hi
    · exact h.fl i (.inl hi)
    · exact Nat.le_trans h.fs hi
    · exact h.fl i (.inr hi), fun i hi => .inr hi⟩
theorem Wt.flw (h : Wt U M j l) : Fl (fun i => U i ∨ M.nb.size ≤ i) M j :=
  ⟨fun i hi => by
    rcases hi with (hi | hi) | hi
    · exact h.fl i (.inl hi)
    · exact Nat.le_trans h.fs hi
    · exact h.fl i (.inr hi), fun i hi => .inr hi⟩
theorem Ws.of (h : Ws U M j l) (C : Chg (fun i => (U i ∨ M.nb.size ≤ i) ∨ i = j) M N) (W : Wr (fun i => U i ∨ M.nb.size ≤ i) N j l') : ∃ U', Ext (· = j) U M U' N ∧ Ws U' N j l' := by
  have z := C.size
  have hl := h.lt
  refine ⟨fun i => U i ∨ (M.nb.size ≤ i ∧ i < N.nb.size), ⟨fun i hi => hi.imp id fun q => q.1, C.mono fun i hi hs => hs.imp (fun q => q.resolve_right (by omega)) id⟩, W.shrink (fun i hi hs => .inl (hs.imp id fun q => ⟨q, hi⟩)) ?_, ?_, by rw [C.floor]; exact Nat.le_trans h.fs z, ?_⟩
  · rintro ((hu | hu) | hu)
    · exact h.out hu
    · omega
    · omega
  · intro i hi
    rw [C.floor]
    rcases hi with (hi | hi) | hi
    · exact h.fl i (.inl hi)
    · exact Nat.le_trans h.fs hi.1
    · exact h.fl i (.inr hi)
  · rintro i (hi | hi)
    · have := h.ub i hi; omega
    · exact hi.2
theorem Wt.of (h : Wt U M j l) (C : Chg (fun i => (U i ∨ M.nb.size ≤ i) ∨ i = j) M N) (W : Wf (fun i => U i ∨ M.nb.size ≤ i) N j l') : ∃ U', Ext (· = j) U M U' N ∧ Wt U' N j l' := by
  have z := C.size
  have hl := h.lt
  refine ⟨fun i => U i ∨ (M.nb.size ≤ i ∧ i < N.nb.size), ⟨fun i hi => hi.imp id fun q => q.1, C.mono fun i hi hs => hs.imp (fun q => q.resolve_right (by omega)) id⟩, W.shrink (fun i hi hs => .inl (hs.imp id fun q => ⟨q, hi⟩)) ?_, ?_, by rw [C.floor]; exact Nat.le_trans h.fs z, ?_⟩
  · rintro ((hu | hu) | hu)
    · exact h.out hu
    · omega
    · omega
  · intro i hi
    rw [C.floor]
    rcases hi with (hi | hi) | hi
    · exact h.fl i (.inl hi)
    · exact Nat.le_trans h.fs hi.1
    · exact h.fl i (.inr hi)
  · rintro i (hi | hi)
    · have := h.ub i hi; omega
    · exact hi.2
/-- A row that stands apart of a writer. -/
def FarW (U : Nat → Prop) (j : Nat) (M : Mem) (A : Option Addr) : Prop := ∀ a, A = some a → a.block % 2 = 1 ∨ (a.block / 2 < M.nb.size ∧ ¬ U (a.block / 2) ∧ a.block / 2 ≠ j)
theorem FarW.ext {A : Option Addr} {U' : Nat → Prop} (hF : FarW U j M A) (E : Ext (· = j) U M U' N) : FarW U' j N A := fun a ha =>
  (hF a ha).imp id fun ⟨q1, q2, q3⟩ => ⟨Nat.lt_of_lt_of_le q1 E.chg.size, fun hu => (E.sub _ hu).elim q2 fun q => by omega, q3⟩
theorem FarW.row {A : Option Addr} {U' : Nat → Prop} {L : List Value} (hF : FarW U j M A) (hR : Row M A L) (E : Ext (· = j) U M U' N) : Row N A L :=
  hR.chg E.chg fun a ha => (hF a ha).imp id fun ⟨q1, q2, q3⟩ => fun hs => hs.elim q2 q3
theorem FarW.keep {A : Option Addr} (hF : FarW U j M A) (K : Keep M N) : FarW U j N A := fun a ha => (hF a ha).imp id fun ⟨q1, q2, q3⟩ => ⟨Nat.lt_of_lt_of_le q1 K.size, q2, q3⟩
end
section
variable {U : Nat → Prop} {M N : Mem} {jd : Nat} {l : List Nat} {h : Hd} {X : List Sg} {w e : Int}
set_option maxHeartbeats 1000000 in
end
end Go.Zt


/- Layer 20: the document's Write. -/
set_option linter.unusedSimpArgs false
set_option linter.unusedVariables false
set_option maxRecDepth 100000
namespace Go.Zt
open Go Go.Sim Go.Proofs Go.RowKit

section
variable {U U0 : Nat → Prop} {M N M0 : Mem} {jd jh k : Nat} {l : List Nat} {h : Hd} {X : List Sg} {w e : Int}
section
variable (a : M0.nb[jh]? = some (.cells h.cs 41)) (nh : ¬ U0 jh ∧ jh ≠ jd)
include a nh
end
set_option maxHeartbeats 1000000 in
end
end Go.Zt


/- The functions' walks: for each function and each loop a rule of what it comes to. Printed by zw2.py. -/
set_option linter.unusedVariables false
set_option maxRecDepth 100000
namespace Go.Zt
open Go Go.Sim Go.Proofs

/-! ### zoetrope/zoetropelaw20.HeadsWrites: function 4 -/
def K4 : List (List It × List Nat) := [([.rg [1,1,1,1,1,1,1,1,1,1,0] 13, .code [1,1,1,1,1,1,1,1,1,1,1]], [3, 7, 8, 9, 47]), ([.rg [1,1,1,1,1,1,1,1,1,1,0] 20, .code [1,1,1,1,1,1,1,1,1,1,1]], [3, 7, 54]), ([.rg [1,1,1,1,1,1,1,1,1,1,0] 25, .code [1,1,1,1,1,1,1,1,1,1,1]], [59])]
/-! ### zoetrope/zoetroperef20.Copy: function 18 -/
def K18 : List (List It × List Nat) := []
end Go.Zt


/- Layer 20: HeadsWrites: what is seen of a head; Copy; the law. -/
set_option linter.unusedSimpArgs false
set_option linter.unusedVariables false
set_option maxRecDepth 100000
namespace Go.Zt
open Go Go.Sim Go.Proofs Go.RowKit

theorem elem38 : ElemS Try.prog 38 96 4 32 (.agg #[.int .i64 0, .int .i64 0, .int .i64 0, .int .i64 0]) := ⟨by kernel_rfl, by kernel_rfl, by kernel_rfl, by kernel_rfl, by decide⟩
section
variable {U V : Nat → Prop} {M N M0 : Mem} {jp jq : Nat} {l l' : List Nat} {h : Hd} {X : List Sg} {w e : Int}
end
end Go.Zt


/- Layer 20: HeadsReads: the program's Read. -/
set_option linter.unusedSimpArgs false
set_option linter.unusedVariables false
set_option maxRecDepth 100000
namespace Go.Zt
open Go Go.Sim Go.Proofs Go.RowKit

abbrev zP : Hd := ⟨false, 0, false, false, 0, 0, 0, 0, 0, 0, 0, 0, 0, 0, 0, 0, 0, false, 0, 0, 0, 0, 0, false, 0, 0, none, 0, 0, false, false, false⟩
/-- What Read tells. -/
def TolP (U : Nat → Prop) (jq lo : Nat) (M0 : Mem) (T : Cd → List Sg → Prop) : Value → Mem → Prop := fun v N =>
  ∃ U' c X, T c X ∧ (∀ i, U' i → U i ∨ lo ≤ i) ∧ Chg (fun i => U i ∨ i = jq ∨ lo ≤ i) M0 N ∧ DvM U' N jq c.1 ∧ (∀ i, U' i → i < N.nb.size) ∧ ((c.2.1 ≠ 0 ∧ v = .tuple #[.agg zP.cs, .int .i64 (c.2.1 : Nat)]) ∨ (c.2.1 = 0 ∧ v = .tuple #[.agg c.2.2.cs, .int .i64 0] ∧ c.2.2.n = X.length ∧ Row N c.2.2.A (Sgs X) ∧ ∀ a, c.2.2.A = some a → a.block % 2 = 1 ∨ lo ≤ a.block / 2))
section
variable {U : Nat → Prop} {M N M0 : Mem} {jq p : Nat} {b : List Nat} {w e : Int}
theorem DvM.chg1 {d : Dv} {j : Nat} {T : Nat → Prop} (h : DvM U M j d) (hr : ∃ b p, d = .r b p) (k : Chg T M N) (hj : ¬ T j) (hS : ∀ i, U i → ¬ T i) : DvM U N j d := by
  obtain ⟨b, p, rfl⟩ := hr
  exact Rdr.chg h k hj hS
theorem sg1_isW (d : Dv) (e : Nat) (x : Sg) : (sg1 d e x).1.isW = d.isW := by
  unfold sg1
  dsimp only
  rw [numD_isW, numD_isW, numD_isW, numD_isW]
theorem sgsD_isW : ∀ (X : List Sg) (d : Dv) (e : Nat), (sgsD d e X).1.isW = d.isW
  | [], _, _ => rfl
  | x :: X, d, e => by simp only [sgsD]; rw [sgsD_isW X, sg1_isW]
theorem StrT_isW {c0 c : Cd} {X0 X : List Sg} (h : StrT c0 X0 c X) : c.1.isW = c0.1.isW := by
  obtain ⟨c1, h1, c2, h2, c3, X3, h3, h4, _⟩ := h
  have q1 : c1.1.isW = c0.1.isW := by rw [h1]; exact numD_isW ..
  have q2 : c2.1.isW = c1.1.isW := by rw [h2]; exact numD_isW ..
  have q3 : c3.1.isW = c2.1.isW := by
    split at h3
    · rw [h3.1]
    · split at h3
      · obtain ⟨⟨A, m, hc⟩, _⟩ := h3; rw [hc]
      · rw [h3.1]
  have q4 : c.1.isW = c3.1.isW := by rw [h4]; exact sgsD_isW ..
  rw [q4, q3, q2, q1]
theorem FiltT_isW {c0 c : Cd} {X0 X : List Sg} (h : FiltT c0 X0 c X) : c.1.isW = c0.1.isW := by
  obtain ⟨c1, h1, c2, h2, c3, h3, c4, h4, c5, h5, c6, h6, c7, h7, c8, h8, c9, h9, h10⟩ := h
  have q1 : c1.1.isW = c0.1.isW := by rw [h1]; exact numD_isW ..
  have q2 : c2.1.isW = c1.1.isW := by rw [h2]; exact numD_isW ..
  have q3 : c3.1.isW = c2.1.isW := by rw [h3]; exact numD_isW ..
  have q4 : c4.1.isW = c3.1.isW := by rw [h4]; exact numD_isW ..
  have q5 : c5.1.isW = c4.1.isW := by rw [h5]; exact numD_isW ..
  have q6 : c6.1.isW = c5.1.isW := by rw [h6]; exact flagD_isW ..
  have q7 : c7.1.isW = c6.1.isW := by
    split at h7
    · exact StrT_isW h7
    · rw [h7.1]
  have q8 : c8.1.isW = c7.1.isW := by rw [h8]; exact flagD_isW ..
  have q9 : c9.1.isW = c8.1.isW := by rw [h9]; exact flagD_isW ..
  have q10 : c.1.isW = c9.1.isW := by rw [h10]; exact flagD_isW ..
  rw [q10, q9, q8, q7, q6, q5, q4, q3, q2, q1]
theorem TailT_isW {c0 c : Cd} {X0 X : List Sg} (h : TailT w e c0 X0 c X) : c.1.isW = c0.1.isW := by
  obtain ⟨c1, h1, c2, h2, c3, h3, c4, h4, c5, h5, c6, h6, c7, h7, c8, h8, h9⟩ := h
  have q1 : c1.1.isW = c0.1.isW := by rw [h1]; exact deltaD_isW ..
  have q2 : c2.1.isW = c1.1.isW := by rw [h2]; exact deltaD_isW ..
  have q3 : c3.1.isW = c2.1.isW := by rw [h3]; exact deltaD_isW ..
  have q4 : c4.1.isW = c3.1.isW := by rw [h4]; exact deltaD_isW ..
  have q5 : c5.1.isW = c4.1.isW := by rw [h5]; exact deltaD_isW ..
  have q6 : c6.1.isW = c5.1.isW := by rw [h6]; exact logD_isW ..
  have q7 : c7.1.isW = c6.1.isW := by rw [h7]; exact logD_isW ..
  have q8 : c8.1.isW = c7.1.isW := by rw [h8]; exact flagD_isW ..
  have q9 : c.1.isW = c8.1.isW := by
    split at h9
    · rw [h9.1]
    · exact FiltT_isW h9
  rw [q9, q8, q7, q6, q5, q4, q3, q2, q1]
theorem HeadT_isW {c0 c : Cd} {X0 X : List Sg} (h : HeadT w e c0 X0 c X) : c.1.isW = c0.1.isW := by
  obtain ⟨c1, h1, h⟩ := h
  have q1 : c1.1.isW = c0.1.isW := by rw [h1]; exact flagD_isW ..
  split at h
  · rw [h.1, ← q1]; exact numD_isW ..
  · obtain ⟨c2, h2, c3, h3, c4, h4, c5, h5, c6, h6, h7⟩ := h
    have q2 : c2.1.isW = c1.1.isW := by rw [h2]; exact flagD_isW ..
    have q3 : c3.1.isW = c2.1.isW := by rw [h3]; exact flagD_isW ..
    have q4 : c4.1.isW = c3.1.isW := by rw [h4]; exact numD_isW ..
    have q5 := h5.keepA.2.2
    have q6 : c6.1.isW = c5.1.isW := by rw [h6]; exact numD_isW ..
    rw [TailT_isW h7, q6, q5, q4, q3, q2, q1]
set_option maxHeartbeats 1000000 in
theorem c35 (D : Rdr U M jq b p) (fq : M.floor ≤ jq) (fs : M.floor ≤ M.nb.size) (fu : ∀ i, U i → M.floor ≤ i) (ub : ∀ i, U i → i < M.nb.size) :
    Cn Try.prog 35 #[PtrB jq, .agg #[.int .i64 w, .int .i64 e]] M (if mayS w e = true then TolP U jq M.nb.size M (HeadT w e (.r b p, 0, zP) []) else fun v N => v = .tuple #[.agg zP.cs, .int .i64 2] ∧ Chg (fun i => i = jq ∨ M.nb.size ≤ i) M N ∧ Rdr U N jq b p) := by
  have lq : jq < M.nb.size := by obtain ⟨A, c, g, _⟩ := D.ex; exact lt_of_at g
  have a := Mem.new_at M (.cells #[.int .i64 w, .int .i64 e] 23)
  have K1 : Keep M (M.new (.cells #[.int .i64 w, .int .i64 e] 23)) := .new _ _
  have s1 := Mem.new_size M (.cells #[.int .i64 w, .int .i64 e] 23)
  refine w35_0 ?_
  generalize M.new (.cells #[.int .i64 w, .int .i64 e] 23) = M1 at a K1 s1 ⊢
  have bz := Mem.new_at M1 (.cells zP.cs 41)
  have K2 : Keep M1 (M1.new (.cells zP.cs 41)) := .new _ _
  have s2 := Mem.new_size M1 (.cells zP.cs 41)
  have a2 := at_keep a K2
  show Cn Try.prog 33 _ (M1.new (.cells zP.cs 41)) _
  generalize M1.new (.cells zP.cs 41) = M2 at bz K2 s2 a2 ⊢
  have T2 := K1.trans K2
  have e0 : rFixed b p 0 = (0, 0, p) := by
    unfold rFixed
    have := D.pos
    rw [if_neg (by decide), if_neg (by omega)]
    rfl
  refine Cn.mono (c33 (D.keep T2) (by rw [T2.floor]; exact fq) 0) ?_
  rw [e0]
  rintro _ M3 ⟨rfl, C3, z3, D3⟩
  have a3 := at_chg a2 C3 (by omega)
  have b3 := at_chg bz C3 (by omega)
  have T3 : Chg (· = jq) M M3 := (T2.mono fun i _ h => h.elim).trans C3
  refine ty rfl (ty rfl (ty rfl (cF rfl (on (int_of (i := 0) a3 rfl) (on (int_of (i := 0 + 1) a3 rfl) (Cn.mono c14 ?_))))))
  rintro _ M4 ⟨rfl, K4⟩
  have T4 : Chg (· = jq) M M4 := T3.trans (K4.mono fun i _ h => h.elim)
  have a4 := at_keep a3 K4
  have b4 := at_keep b3 K4
  have D4 := D3.keep K4
  have f4 : M4.floor ≤ M.nb.size := by rw [T4.floor]; exact fs
  have z4 := K4.size
  have nU : ∀ i, M.nb.size ≤ i → ¬ U i := fun i hi h => by have := ub _ h; omega
  refine ty rfl (cne (fun hm => ?_) fun hm => ?_)
  · have hm' : mayS w e = false := by
      unfold chkS at hm
      cases h : mayS w e
      · rfl
      · rw [h] at hm; exact absurd rfl hm
    have e2 : chkS w e = 2 := by unfold chkS; rw [hm']; rfl
    rw [hm', e2]
    exact stA (cs := zP.cs) b4 (by omega) rfl rfl rfl fun M5 C5 z5 u5 => ldA u5 rfl ⟨rfl, (T4.mono fun i _ h => .inl h).trans (C5.mono fun i _ h => by omega), D4.chg C5 (by omega) fun i hi h => nU _ (by omega) hi⟩
  · have hm' : mayS w e = true := by
      unfold chkS at hm
      cases h : mayS w e
      · rw [h] at hm; cases hm
      · rfl
    rw [if_pos hm']
    have hmm := of_decide_eq_true hm'
    have hw : 16 ≤ w ∧ w ≤ 256 := ⟨hmm.1, hmm.2.1⟩
    have he : 16 ≤ e ∧ e ≤ 256 := ⟨hmm.2.2.1, hmm.2.2.2.1⟩
    have hA := Mem.new_at M4 (.cells zP.cs 41)
    have K5 : Keep M4 (M4.new (.cells zP.cs 41)) := .new _ _
    have s5 := Mem.new_size M4 (.cells zP.cs 41)
    show onS (((M4.new (.cells zP.cs 41)).new (.cells #[.pointer none, PtrB jq, .int .i64 0] 89)).intAt .i64 (2 * M.nb.size) 0) _
    generalize M4.new (.cells zP.cs 41) = M5 at hA K5 s5 ⊢
    have cA := Mem.new_at M5 (.cells #[.pointer none, PtrB jq, .int .i64 0] 89)
    have K6 : Keep M5 (M5.new (.cells #[.pointer none, PtrB jq, .int .i64 0] 89)) := .new _ _
    have s6 := Mem.new_size M5 (.cells #[.pointer none, PtrB jq, .int .i64 0] 89)
    generalize M5.new (.cells #[.pointer none, PtrB jq, .int .i64 0] 89) = M6 at cA K6 s6 ⊢
    have K46 := K5.trans K6
    have T6 : Chg (· = jq) M M6 := T4.trans (K46.mono fun i _ h => h.elim)
    have a6 := at_keep a4 K46
    have b6 := at_keep b4 K46
    have h6 := at_keep hA K6
    have f6 : M6.floor ≤ M.nb.size := by rw [T6.floor]; exact fs
    have H : Hm U M6 M5.nb.size jq M4.nb.size (.r b p, 0, zP) (0 + 90) := ⟨⟨D4.keep K46, fun i hi => by
      rcases hi with hi | hi | hi
      · rw [T6.floor]; exact fu i hi
      · rw [hi, T6.floor]; exact fq
      · omega, by omega, cA, nU _ (by omega), by omega, (by show 0 + 40 * (0 + 90) ≤ 80000000000; decide), fun i hi => by have := ub i hi; omega⟩, h6, nU _ (by omega), by omega, by omega, by omega⟩
    have HX : Xm U M6 M5.nb.size jq M4.nb.size (.r b p, 0, zP) [] := ⟨rfl, fun i hi => by simp [Sgs] at hi, fun a ha => by cases ha⟩
    refine on (int_of a6 rfl) (on (int_of a6 rfl) (Cn.mono (c50 (k := 0) hw he H HX (by simp) fun _ _ _ => rfl) ?_))
    rintro _ N ⟨_, U', c', X', hT, E, H', HX', hAA⟩
    have isr := isW_r (HeadT_isW hT)
    have bN := (E.at b6 (nU _ (by omega)) (by omega)).1
    have zN := E.chg.size
    have CE : Chg (fun i => U i ∨ i = jq ∨ M.nb.size ≤ i) M N := (T6.mono fun i _ h => .inr (.inl h)).trans (E.chg.mono fun i _ h => by rcases h with h | h | h | h <;> first | exact .inl h | omega)
    have far : ∀ a, c'.2.2.A = some a → M6.nb.size ≤ a.block / 2 := fun a ha => (hAA a ha).elim (fun q => by cases q) id
    have nU' : ¬ U' M1.nb.size := fun h => by
      rcases E.sub _ h with h | h
      · exact nU _ (by omega) h
      · omega
    have sub : ∀ i, U' i → U i ∨ M.nb.size ≤ i := fun i hi => (E.sub i hi).imp id fun h => by omega
    refine on (int_of (i := 0 + 2) H'.st.cod rfl) (cne (fun hn => on (int_of (i := 0 + 2) H'.st.cod rfl) (cF (decide_eq_false ?_) ?_)) fun hn => ?_)
    · intro hh
      have : (2 * M1.nb.size : Nat) = 2 * M5.nb.size := Option.some.inj hh
      omega
    · exact stA (cs := zP.cs) bN (by rw [CE.floor]; omega) rfl rfl rfl fun N1 C1 z1 u1 => ldA u1 rfl ⟨U', c', X', hT, sub, CE.trans (C1.mono fun i _ h => by omega), H'.st.dev.chg1 isr C1 (by omega) fun i hi h => nU' (h ▸ hi), fun i hi => by rw [z1]; exact H'.st.ub i hi, .inl ⟨by omega, rfl⟩⟩
    · exact ldA H'.hd rfl (stA (cs := c'.2.2.cs) bN (by rw [CE.floor]; omega) rfl rfl rfl fun N1 C1 z1 u1 => ldA u1 rfl ⟨U', c', X', hT, sub, CE.trans (C1.mono fun i _ h => by omega), H'.st.dev.chg1 isr C1 (by omega) fun i hi h => nU' (h ▸ hi), fun i hi => by rw [z1]; exact H'.st.ub i hi, .inr ⟨by omega, rfl, HX'.n, HX'.row.chg C1 fun a ha => .inr fun h => by have := far a ha; omega, fun a ha => .inr (by have := far a ha; omega)⟩⟩)
end
end Go.Zt


/- The functions' walks: for each function and each loop a rule of what it comes to. Printed by zw2.py. -/
set_option linter.unusedVariables false
set_option maxRecDepth 100000
namespace Go.Zt
open Go Go.Sim Go.Proofs

def tyZlF0 : List Sc := [.bool, .int .i64, .bool, .bool, .int .i64, .int .i64, .int .i64, .int .i64, .int .i64, .int .i64, .int .i64, .int .i64, .int .i64, .int .i64, .int .i64, .int .i64, .int .i64, .bool, .int .i64, .int .i64, .int .i64, .int .i64, .int .i64, .bool, .int .i64, .int .i64, .sl, .bool, .bool, .bool]
/-! ### zoetrope/zoetroperef20.Read: function 36 -/
def K36 : List (List It × List Nat) := [([.code [1,1,1,1,1,1,1,1,1,1,0,1,0,0,1,0,0], .lp [1,1,1,1,1,1,1,1,1,1,0,1,0,0,1,0,0], .blk 0, .code [1,1,1,1,1,1,1,1,1,1,0,1,0,1], .code [1,1,1,1,1,1,1,1,1,1,1]], [3, 4, 6, 7, 8]), ([.code [1,1,1,1,1,1,1,1,1,1,1,1,0,1,0,0], .lp [1,1,1,1,1,1,1,1,1,1,1,1,0,1,0,0], .blk 2, .code [1,1,1,1,1,1,1,1,1,1,1,1,1]], [3, 4, 6, 7, 9])]
def Z36 : List (List Nat × List Nat) := []
theorem b36 : Try.prog.funcs[36]? = some Try.f36 ∧ (Orc.tab Try.prog).lookup 36 = none ∧ Try.f36.body = some (codeOf Try.f36) := ⟨by kernel_rfl, by kernel_rfl, by kernel_rfl⟩
def A36_1 (x3 x4 x6 x7 : Option Addr) (x8 : Int) (M : Mem) (Q : Value → Mem → Prop) : Prop := LvP Try.prog Try.f36 [(3, .pointer x3), (4, .pointer x4), (6, .pointer x6), (7, .pointer x7), (8, .int .i64 x8)] [.code [1,1,1,1,1,1,1,1,1,1,0,1,0,0,1,0,0], .lp [1,1,1,1,1,1,1,1,1,1,0,1,0,0,1,0,0], .blk 0, .code [1,1,1,1,1,1,1,1,1,1,0,1,0,1], .code [1,1,1,1,1,1,1,1,1,1,1]] M Q
def A36_2 (x3 x4 x6 x7 : Option Addr) (x9 : Int) (M : Mem) (Q : Value → Mem → Prop) : Prop := LvP Try.prog Try.f36 [(3, .pointer x3), (4, .pointer x4), (6, .pointer x6), (7, .pointer x7), (9, .int .i64 x9)] [.code [1,1,1,1,1,1,1,1,1,1,1,1,0,1,0,0], .lp [1,1,1,1,1,1,1,1,1,1,1,1,0,1,0,0], .blk 2, .code [1,1,1,1,1,1,1,1,1,1,1,1,1]] M Q
theorem w36_0 {x0 : Option Addr} {x1_0 x1_1 : Int} {M : Mem} {Q : Value → Mem → Prop} (H :
    onS (((M.new (.cells #[.int .i64 x1_0, .int .i64 x1_1] 23)).new (.cells #[.bool false, .int .i64 0, .bool false, .bool false, .int .i64 0, .int .i64 0, .int .i64 0, .int .i64 0, .int .i64 0, .int .i64 0, .int .i64 0, .int .i64 0, .int .i64 0, .int .i64 0, .int .i64 0, .int .i64 0, .int .i64 0, .bool false, .int .i64 0, .int .i64 0, .int .i64 0, .int .i64 0, .int .i64 0, .bool false, .int .i64 0, .int .i64 0, .slice none 0 0, .bool false, .bool false, .bool false] 41)).intAt .i64 (2 * M.nb.size) 0) fun x1' =>
    onS (((M.new (.cells #[.int .i64 x1_0, .int .i64 x1_1] 23)).new (.cells #[.bool false, .int .i64 0, .bool false, .bool false, .int .i64 0, .int .i64 0, .int .i64 0, .int .i64 0, .int .i64 0, .int .i64 0, .int .i64 0, .int .i64 0, .int .i64 0, .int .i64 0, .int .i64 0, .int .i64 0, .int .i64 0, .bool false, .int .i64 0, .int .i64 0, .int .i64 0, .int .i64 0, .int .i64 0, .bool false, .int .i64 0, .int .i64 0, .slice none 0 0, .bool false, .bool false, .bool false] 41)).intAt .i64 (2 * M.nb.size) (0 + 1)) fun x2' =>
    Cn Try.prog 15 #[.agg #[.int .i64 x1', .int .i64 x2']] ((M.new (.cells #[.int .i64 x1_0, .int .i64 x1_1] 23)).new (.cells #[.bool false, .int .i64 0, .bool false, .bool false, .int .i64 0, .int .i64 0, .int .i64 0, .int .i64 0, .int .i64 0, .int .i64 0, .int .i64 0, .int .i64 0, .int .i64 0, .int .i64 0, .int .i64 0, .int .i64 0, .int .i64 0, .bool false, .int .i64 0, .int .i64 0, .int .i64 0, .int .i64 0, .int .i64 0, .bool false, .int .i64 0, .int .i64 0, .slice none 0 0, .bool false, .bool false, .bool false] 41)) fun v3' N3' =>
     tyS (asI .i64 v3') fun x4' =>
     cnd (x4' != 0) (
      stP (some 30) #[.bool false, .int .i64 0, .bool false, .bool false, .int .i64 0, .int .i64 0, .int .i64 0, .int .i64 0, .int .i64 0, .int .i64 0, .int .i64 0, .int .i64 0, .int .i64 0, .int .i64 0, .int .i64 0, .int .i64 0, .int .i64 0, .bool false, .int .i64 0, .int .i64 0, .int .i64 0, .int .i64 0, .int .i64 0, .bool false, .int .i64 0, .int .i64 0, .slice none 0 0, .bool false, .bool false, .bool false] N3' (2 * (M.new (.cells #[.int .i64 x1_0, .int .i64 x1_1] 23)).nb.size) 0 fun M5' =>
      ldP tyZlF0 M5' (2 * (M.new (.cells #[.int .i64 x1_0, .int .i64 x1_1] 23)).nb.size) 0 fun vs6' =>
      Q (.tuple #[.agg vs6'.toArray, .int .i64 2]) M5') (
      Cn Try.prog 68 #[.pointer (some ⟨2 * N3'.nb.size, 0, none⟩), .int .i64 1] ((N3'.new (.cells #[.pointer x0, .int .i64 0] 109)).new (.cells #[.bool false, .int .i64 0, .bool false, .bool false, .int .i64 0, .int .i64 0, .int .i64 0, .int .i64 0, .int .i64 0, .int .i64 0, .int .i64 0, .int .i64 0, .int .i64 0, .int .i64 0, .int .i64 0, .int .i64 0, .int .i64 0, .bool false, .int .i64 0, .int .i64 0, .int .i64 0, .int .i64 0, .int .i64 0, .bool false, .int .i64 0, .int .i64 0, .slice none 0 0, .bool false, .bool false, .bool false] 41)) fun v7' N7' =>
       tyS (asI .i64 v7') fun x8' =>
       ptS (N7'.put (2 * (N3'.new (.cells #[.pointer x0, .int .i64 0] 109)).nb.size) 0 (.bool (x8' == 1))) fun M9' =>
       onS (M9'.boolAt (2 * (N3'.new (.cells #[.pointer x0, .int .i64 0] 109)).nb.size) 0) fun b10' =>
       cnd b10' (
        Cn Try.prog 68 #[.pointer (some ⟨2 * N3'.nb.size, 0, none⟩), .int .i64 3] M9' fun v11' N11' =>
         tyS (asI .i64 v11') fun x12' =>
         ptS (N11'.put (2 * (N3'.new (.cells #[.pointer x0, .int .i64 0] 109)).nb.size) (0 + 1) (.int .i64 x12')) fun M13' =>
         onS (M13'.intAt .i64 (2 * N3'.nb.size) (0 + 1)) fun x14' =>
         cnd (x14' != 0) (
          onS (M13'.intAt .i64 (2 * N3'.nb.size) (0 + 1)) fun x15' =>
          cnd (decide (Option.map (fun a : Addr => a.block) (some ⟨2 * (M.new (.cells #[.int .i64 x1_0, .int .i64 x1_1] 23)).nb.size, 0, none⟩) = some (2 * N3'.nb.size))) (
           False) (
           stP (some 30) #[.bool false, .int .i64 0, .bool false, .bool false, .int .i64 0, .int .i64 0, .int .i64 0, .int .i64 0, .int .i64 0, .int .i64 0, .int .i64 0, .int .i64 0, .int .i64 0, .int .i64 0, .int .i64 0, .int .i64 0, .int .i64 0, .bool false, .int .i64 0, .int .i64 0, .int .i64 0, .int .i64 0, .int .i64 0, .bool false, .int .i64 0, .int .i64 0, .slice none 0 0, .bool false, .bool false, .bool false] M13' (2 * (M.new (.cells #[.int .i64 x1_0, .int .i64 x1_1] 23)).nb.size) 0 fun M16' =>
           ldP tyZlF0 M16' (2 * (M.new (.cells #[.int .i64 x1_0, .int .i64 x1_1] 23)).nb.size) 0 fun vs17' =>
           Q (.tuple #[.agg vs17'.toArray, .int .i64 (x15')]) M16')) (
          ldP tyZlF0 M13' (2 * (N3'.new (.cells #[.pointer x0, .int .i64 0] 109)).nb.size) 0 fun vs18' =>
          stP (some 30) vs18'.toArray M13' (2 * (M.new (.cells #[.int .i64 x1_0, .int .i64 x1_1] 23)).nb.size) 0 fun M19' =>
          ldP tyZlF0 M19' (2 * (M.new (.cells #[.int .i64 x1_0, .int .i64 x1_1] 23)).nb.size) 0 fun vs20' =>
          Q (.tuple #[.agg vs20'.toArray, .int .i64 0]) M19')) (
        Cn Try.prog 68 #[.pointer (some ⟨2 * N3'.nb.size, 0, none⟩), .int .i64 1] M9' fun v21' N21' =>
         tyS (asI .i64 v21') fun x22' =>
         ptS (N21'.put (2 * (N3'.new (.cells #[.pointer x0, .int .i64 0] 109)).nb.size) (0 + 2) (.bool (x22' == 1))) fun M23' =>
         Cn Try.prog 68 #[.pointer (some ⟨2 * N3'.nb.size, 0, none⟩), .int .i64 1] M23' fun v24' N24' =>
          tyS (asI .i64 v24') fun x25' =>
          ptS (N24'.put (2 * (N3'.new (.cells #[.pointer x0, .int .i64 0] 109)).nb.size) (0 + 3) (.bool (x25' == 1))) fun M26' =>
          Cn Try.prog 68 #[.pointer (some ⟨2 * N3'.nb.size, 0, none⟩), .int .i64 8] M26' fun v27' N27' =>
           tyS (asI .i64 v27') fun x28' =>
           ptS (N27'.put (2 * (N3'.new (.cells #[.pointer x0, .int .i64 0] 109)).nb.size) (0 + 4) (.int .i64 x28')) fun M29' =>
           ptS (M29'.put (2 * (N3'.new (.cells #[.pointer x0, .int .i64 0] 109)).nb.size) (0 + 8) (.int .i64 (-1))) fun M30' =>
           onS (M30'.boolAt (2 * (N3'.new (.cells #[.pointer x0, .int .i64 0] 109)).nb.size) (0 + 3)) fun b31' =>
           cnd (!b31') (
            A36_1 (some ⟨2 * M.nb.size, 0, none⟩) (some ⟨2 * (M.new (.cells #[.int .i64 x1_0, .int .i64 x1_1] 23)).nb.size, 0, none⟩) (some ⟨2 * N3'.nb.size, 0, none⟩) (some ⟨2 * (N3'.new (.cells #[.pointer x0, .int .i64 0] 109)).nb.size, 0, none⟩) 0 M30' Q) (
            Cn Try.prog 68 #[.pointer (some ⟨2 * N3'.nb.size, 0, none⟩), .int .i64 8] M30' fun v32' N32' =>
             tyS (asI .i64 v32') fun x33' =>
             ptS (N32'.put (2 * (N3'.new (.cells #[.pointer x0, .int .i64 0] 109)).nb.size) (0 + 9) (.int .i64 x33')) fun M34' =>
             A36_2 (some ⟨2 * M.nb.size, 0, none⟩) (some ⟨2 * (M.new (.cells #[.int .i64 x1_0, .int .i64 x1_1] 23)).nb.size, 0, none⟩) (some ⟨2 * N3'.nb.size, 0, none⟩) (some ⟨2 * (N3'.new (.cells #[.pointer x0, .int .i64 0] 109)).nb.size, 0, none⟩) 0 M34' Q)))) :
    Cn Try.prog 36 #[.pointer x0, .agg #[.int .i64 x1_0, .int .i64 x1_1]] M Q :=
  Cn.mk (cuts := K36) (sp := Z36) 900 b36 rfl rfl H fun G => by kernel_rfl

theorem w36_1 {x3 x4 x6 x7 : Option Addr} {x8 : Int} {M : Mem} {Q : Value → Mem → Prop} (H :
    cnd (decide (x8 < 3)) (
     Cn Try.prog 68 #[.pointer x6, .int .i64 3] M fun v35' N35' =>
      tyS (asI .i64 v35') fun x36' =>
      adS x7 fun a37' =>
      ixS (idxA (some ⟨a37'.block, a37'.off + 5, none⟩) 3 1 x8) fun a38' =>
      ptS (N35'.put a38'.block a38'.off (.int .i64 x36')) fun M39' =>
      A36_1 x3 x4 x6 x7 (IntKind.i64.wrap (x8 + 1)) M39' Q) (
     Cn Try.prog 68 #[.pointer x6, .int .i64 1] M fun v40' N40' =>
      tyS (asI .i64 v40') fun x41' =>
      cnd (x41' == 1) (
       Cn Try.prog 68 #[.pointer x6, .int .i64 3] N40' fun v42' N42' =>
        tyS (asI .i64 v42') fun x43' =>
        adS x7 fun a44' =>
        ptS (N42'.put a44'.block (a44'.off + 8) (.int .i64 x43')) fun M45' =>
        Cn Try.prog 68 #[.pointer x6, .int .i64 8] M45' fun v46' N46' =>
         tyS (asI .i64 v46') fun x47' =>
         adS x7 fun a48' =>
         ptS (N46'.put a48'.block (a48'.off + 9) (.int .i64 x47')) fun M49' =>
         A36_2 x3 x4 x6 x7 0 M49' Q) (
       Cn Try.prog 68 #[.pointer x6, .int .i64 8] N40' fun v50' N50' =>
        tyS (asI .i64 v50') fun x51' =>
        adS x7 fun a52' =>
        ptS (N50'.put a52'.block (a52'.off + 9) (.int .i64 x51')) fun M53' =>
        A36_2 x3 x4 x6 x7 0 M53' Q))) :
    A36_1 x3 x4 x6 x7 x8 M Q :=
  LvP.mk (cuts := K36) (sp := Z36) 900 H fun G => by kernel_rfl

theorem w36_2 {x3 x4 x6 x7 : Option Addr} {x9 : Int} {M : Mem} {Q : Value → Mem → Prop} (H :
    cnd (decide (x9 < 5)) (
     Cn Try.prog 69 #[.pointer x6] M fun v54' N54' =>
      tyS (asI .i64 v54') fun x55' =>
      adS x7 fun a56' =>
      ixS (idxA (some ⟨a56'.block, a56'.off + 10, none⟩) 5 1 x9) fun a57' =>
      ptS (N54'.put a57'.block a57'.off (.int .i64 x55')) fun M58' =>
      A36_2 x3 x4 x6 x7 (IntKind.i64.wrap (x9 + 1)) M58' Q) (
     adS x3 fun a59' =>
     onS (M.intAt .i64 a59'.block a59'.off) fun x60' =>
     Cn Try.prog 70 #[.pointer x6, .int .i64 x60'] M fun v61' N61' =>
      tyS (asI .i64 v61') fun x62' =>
      adS x7 fun a63' =>
      ptS (N61'.put a63'.block (a63'.off + 15) (.int .i64 x62')) fun M64' =>
      adS x3 fun a65' =>
      onS (M64'.intAt .i64 a65'.block (a65'.off + 1)) fun x66' =>
      Cn Try.prog 70 #[.pointer x6, .int .i64 x66'] M64' fun v67' N67' =>
       tyS (asI .i64 v67') fun x68' =>
       adS x7 fun a69' =>
       ptS (N67'.put a69'.block (a69'.off + 16) (.int .i64 x68')) fun M70' =>
       Cn Try.prog 68 #[.pointer x6, .int .i64 1] M70' fun v71' N71' =>
        tyS (asI .i64 v71') fun x72' =>
        adS x7 fun a73' =>
        ptS (N71'.put a73'.block (a73'.off + 17) (.bool (x72' == 1))) fun M74' =>
        adS x7 fun a75' =>
        ldP tyZlF0 M74' a75'.block a75'.off fun vs76' =>
        Cn Try.prog 54 #[.agg vs76'.toArray] M74' fun v77' N77' =>
         tyS (asB v77') fun b78' =>
         cnd (!b78') (
          adS x7 fun a79' =>
          ldP tyZlF0 N77' a79'.block a79'.off fun vs80' =>
          Cn Try.prog 71 #[.pointer x6, .agg vs80'.toArray] N77' fun v81' N81' =>
           tyS (asA 30 v81') fun cs82' =>
           asCellsP tyZlF0 0 cs82' fun vs83' =>
           adS x7 fun a84' =>
           stP (some 30) vs83'.toArray N81' a84'.block a84'.off fun M85' =>
           adS x6 fun a86' =>
           onS (M85'.intAt .i64 a86'.block (a86'.off + 1)) fun x87' =>
           cnd (x87' != 0) (
            adS x6 fun a88' =>
            onS (M85'.intAt .i64 a88'.block (a88'.off + 1)) fun x89' =>
            cnd (decide (Option.map (fun a : Addr => a.block) x4 = some a88'.block)) (
             False) (
             adS x4 fun a90' =>
             stP (some 30) #[.bool false, .int .i64 0, .bool false, .bool false, .int .i64 0, .int .i64 0, .int .i64 0, .int .i64 0, .int .i64 0, .int .i64 0, .int .i64 0, .int .i64 0, .int .i64 0, .int .i64 0, .int .i64 0, .int .i64 0, .int .i64 0, .bool false, .int .i64 0, .int .i64 0, .int .i64 0, .int .i64 0, .int .i64 0, .bool false, .int .i64 0, .int .i64 0, .slice none 0 0, .bool false, .bool false, .bool false] M85' a90'.block a90'.off fun M91' =>
             adS x4 fun a92' =>
             ldP tyZlF0 M91' a92'.block a92'.off fun vs93' =>
             Q (.tuple #[.agg vs93'.toArray, .int .i64 (x89')]) M91')) (
            adS x7 fun a94' =>
            ldP tyZlF0 M85' a94'.block a94'.off fun vs95' =>
            adS x4 fun a96' =>
            stP (some 30) vs95'.toArray M85' a96'.block a96'.off fun M97' =>
            adS x4 fun a98' =>
            ldP tyZlF0 M97' a98'.block a98'.off fun vs99' =>
            Q (.tuple #[.agg vs99'.toArray, .int .i64 0]) M97')) (
          adS x6 fun a100' =>
          onS (N77'.intAt .i64 a100'.block (a100'.off + 1)) fun x101' =>
          cnd (x101' != 0) (
           adS x6 fun a102' =>
           onS (N77'.intAt .i64 a102'.block (a102'.off + 1)) fun x103' =>
           cnd (decide (Option.map (fun a : Addr => a.block) x4 = some a102'.block)) (
            False) (
            adS x4 fun a104' =>
            stP (some 30) #[.bool false, .int .i64 0, .bool false, .bool false, .int .i64 0, .int .i64 0, .int .i64 0, .int .i64 0, .int .i64 0, .int .i64 0, .int .i64 0, .int .i64 0, .int .i64 0, .int .i64 0, .int .i64 0, .int .i64 0, .int .i64 0, .bool false, .int .i64 0, .int .i64 0, .int .i64 0, .int .i64 0, .int .i64 0, .bool false, .int .i64 0, .int .i64 0, .slice none 0 0, .bool false, .bool false, .bool false] N77' a104'.block a104'.off fun M105' =>
            adS x4 fun a106' =>
            ldP tyZlF0 M105' a106'.block a106'.off fun vs107' =>
            Q (.tuple #[.agg vs107'.toArray, .int .i64 (x103')]) M105')) (
           adS x7 fun a108' =>
           ldP tyZlF0 N77' a108'.block a108'.off fun vs109' =>
           adS x4 fun a110' =>
           stP (some 30) vs109'.toArray N77' a110'.block a110'.off fun M111' =>
           adS x4 fun a112' =>
           ldP tyZlF0 M111' a112'.block a112'.off fun vs113' =>
           Q (.tuple #[.agg vs113'.toArray, .int .i64 0]) M111')))) :
    A36_2 x3 x4 x6 x7 x9 M Q :=
  LvP.mk (cuts := K36) (sp := Z36) 900 H fun G => by kernel_rfl


/-! ### (*zoetrope/zoetroperef20.reader).get: function 68 -/
def K68 : List (List It × List Nat) := []
def Z68 : List (List Nat × List Nat) := []
theorem b68 : Try.prog.funcs[68]? = some Try.f68 ∧ (Orc.tab Try.prog).lookup 68 = none ∧ Try.f68.body = some (codeOf Try.f68) := ⟨by kernel_rfl, by kernel_rfl, by kernel_rfl⟩
theorem w68_0 {x0 : Option Addr} {x1 : Int} {M : Mem} {Q : Value → Mem → Prop} (H :
    adS x0 fun a1' =>
    onS (M.intAt .i64 a1'.block (a1'.off + 1)) fun x2' =>
    cnd (x2' != 0) (
     Q (.int .i64 0) M) (
     adS x0 fun a3' =>
     onS (M.ptrAt a3'.block a3'.off) fun p4' =>
     Cn Try.prog 34 #[.pointer p4', .int .i64 x1] M fun v5' N5' =>
      tyS (asU 2 v5') fun cs6' =>
      tyS (asI .u32 (cs6'.getD 0 undef)) fun x7' =>
      tyS (asI .i64 (cs6'.getD 1 undef)) fun x8' =>
      adS x0 fun a9' =>
      ptS (N5'.put a9'.block (a9'.off + 1) (.int .i64 x8')) fun M10' =>
      Q (.int .i64 (IntKind.i64.wrap (x7'))) M10')) :
    Cn Try.prog 68 #[.pointer x0, .int .i64 x1] M Q :=
  Cn.mk (cuts := K68) (sp := Z68) 900 b68 rfl rfl H fun G => by kernel_rfl


/-! ### (*zoetrope/zoetroperef20.reader).delta: function 69 -/
def K69 : List (List It × List Nat) := [([.code [1,0,1], .code [1,1]], [0, 14]), ([.code [1,1,1,1,0,1], .code [1,1,1,1,1]], [0, 3, 32])]
def Z69 : List (List Nat × List Nat) := []
theorem b69 : Try.prog.funcs[69]? = some Try.f69 ∧ (Orc.tab Try.prog).lookup 69 = none ∧ Try.f69.body = some (codeOf Try.f69) := ⟨by kernel_rfl, by kernel_rfl, by kernel_rfl⟩
def A69_1 (x0 : Option Addr) (x14 : Bool) (M : Mem) (Q : Value → Mem → Prop) : Prop := LvP Try.prog Try.f69 [(0, .pointer x0), (14, .bool x14)] [.code [1,0,1], .code [1,1]] M Q
def A69_2 (x0 : Option Addr) (x3 : Int) (x32 : Bool) (M : Mem) (Q : Value → Mem → Prop) : Prop := LvP Try.prog Try.f69 [(0, .pointer x0), (3, .int .i32 x3), (32, .bool x32)] [.code [1,1,1,1,0,1], .code [1,1,1,1,1]] M Q
theorem w69_0 {x0 : Option Addr} {M : Mem} {Q : Value → Mem → Prop} (H :
    Cn Try.prog 68 #[.pointer x0, .int .i64 1] M fun v1' N1' =>
     tyS (asI .i64 v1') fun x2' =>
     cnd (x2' == 0) (
      A69_1 x0 true N1' Q) (
      adS x0 fun a3' =>
      onS (N1'.intAt .i64 a3'.block (a3'.off + 1)) fun x4' =>
      A69_1 x0 (x4' != 0) N1' Q)) :
    Cn Try.prog 69 #[.pointer x0] M Q :=
  Cn.mk (cuts := K69) (sp := Z69) 900 b69 rfl rfl H fun G => by kernel_rfl

theorem w69_1 {x0 : Option Addr} {x14 : Bool} {M : Mem} {Q : Value → Mem → Prop} (H :
    cnd x14 (
     Q (.int .i64 0) M) (
     adS x0 fun a5' =>
     onS (M.ptrAt a5'.block a5'.off) fun p6' =>
     Cn Try.prog 81 #[.pointer p6', .int .i64 5] M fun v7' N7' =>
      tyS (asU 2 v7') fun cs8' =>
      tyS (asI .i32 (cs8'.getD 0 undef)) fun x9' =>
      tyS (asI .i64 (cs8'.getD 1 undef)) fun x10' =>
      adS x0 fun a11' =>
      ptS (N7'.put a11'.block (a11'.off + 1) (.int .i64 x10')) fun M12' =>
      cnd (x10' == 0) (
       A69_2 x0 x9' (x9' == 0) M12' Q) (
       A69_2 x0 x9' false M12' Q))) :
    A69_1 x0 x14 M Q :=
  LvP.mk (cuts := K69) (sp := Z69) 900 H fun G => by kernel_rfl

theorem w69_2 {x0 : Option Addr} {x3 : Int} {x32 : Bool} {M : Mem} {Q : Value → Mem → Prop} (H :
    cnd x32 (
     adS x0 fun a13' =>
     ptS (M.put a13'.block (a13'.off + 1) (.int .i64 4)) fun M14' =>
     Q (.int .i64 (IntKind.i64.wrap (x3))) M14') (
     Q (.int .i64 (IntKind.i64.wrap (x3))) M)) :
    A69_2 x0 x3 x32 M Q :=
  LvP.mk (cuts := K69) (sp := Z69) 900 H fun G => by kernel_rfl


/-! ### (*zoetrope/zoetroperef20.reader).log: function 70 -/
def K70 : List (List It × List Nat) := [([.code [1,1,0,1], .code [1,1,1]], [0, 5, 23])]
def Z70 : List (List Nat × List Nat) := []
theorem b70 : Try.prog.funcs[70]? = some Try.f70 ∧ (Orc.tab Try.prog).lookup 70 = none ∧ Try.f70.body = some (codeOf Try.f70) := ⟨by kernel_rfl, by kernel_rfl, by kernel_rfl⟩
def A70_1 (x0 : Option Addr) (x5 : Int) (x23 : Bool) (M : Mem) (Q : Value → Mem → Prop) : Prop := LvP Try.prog Try.f70 [(0, .pointer x0), (5, .int .i64 x5), (23, .bool x23)] [.code [1,1,0,1], .code [1,1,1]] M Q
theorem w70_0 {x0 : Option Addr} {x1 : Int} {M : Mem} {Q : Value → Mem → Prop} (H :
    Cn Try.prog 68 #[.pointer x0, .int .i64 2] M fun v1' N1' =>
     tyS (asI .i64 v1') fun x2' =>
     adS x0 fun a3' =>
     onS (N1'.intAt .i64 a3'.block (a3'.off + 1)) fun x4' =>
     cnd (x4' == 0) (
      puS (binV Try.prog .shl 3 3 (.int .i64 1) (.int .i64 x2')) fun v5' =>
      tyS (asI .i64 v5') fun x6' =>
      Cn Try.prog 59 #[.int .i64 x1] N1' fun v7' N7' =>
       tyS (asI .i64 v7') fun x8' =>
       cnd (decide (x6' > x8')) (
        A70_1 x0 x2' true N7' Q) (
        A70_1 x0 x2' (decide (x2' > 2)) N7' Q)) (
      A70_1 x0 x2' (decide (x2' > 2)) N1' Q)) :
    Cn Try.prog 70 #[.pointer x0, .int .i64 x1] M Q :=
  Cn.mk (cuts := K70) (sp := Z70) 900 b70 rfl rfl H fun G => by kernel_rfl

theorem w70_1 {x0 : Option Addr} {x5 : Int} {x23 : Bool} {M : Mem} {Q : Value → Mem → Prop} (H :
    cnd x23 (
     adS x0 fun a9' =>
     ptS (M.put a9'.block (a9'.off + 1) (.int .i64 5)) fun M10' =>
     Q (.int .i64 x5) M10') (
     Q (.int .i64 x5) M)) :
    A70_1 x0 x5 x23 M Q :=
  LvP.mk (cuts := K70) (sp := Z70) 900 H fun G => by kernel_rfl


/-! ### (*zoetrope/zoetroperef20.reader).filters: function 71 -/
def K71 : List (List It × List Nat) := [([.code [1,0,1,0,0], .lp [1,0,1,0,0], .blk 0, .code [1,1]], [0, 3, 4, 5]), ([.code [1,1,1,1,0,1,0,1,1,1,0,0], .lp [1,1,1,1,0,1,0,1,1,1,0,0], .blk 2, .code [1,1,1,1,1]], [0, 3, 4, 6]), ([.code [1,1,1,1,1,0,1,0,0], .lp [1,1,1,1,1,0,1,0,0], .blk 4, .code [1,1,1,1,1,1]], [0, 3, 4, 8])]
def Z71 : List (List Nat × List Nat) := []
theorem b71 : Try.prog.funcs[71]? = some Try.f71 ∧ (Orc.tab Try.prog).lookup 71 = none ∧ Try.f71.body = some (codeOf Try.f71) := ⟨by kernel_rfl, by kernel_rfl, by kernel_rfl⟩
def A71_1 (x0 x3 x4 : Option Addr) (x5 : Int) (M : Mem) (Q : Value → Mem → Prop) : Prop := LvP Try.prog Try.f71 [(0, .pointer x0), (3, .pointer x3), (4, .pointer x4), (5, .int .i64 x5)] [.code [1,0,1,0,0], .lp [1,0,1,0,0], .blk 0, .code [1,1]] M Q
def A71_2 (x0 x3 x4 : Option Addr) (x6 : Int) (M : Mem) (Q : Value → Mem → Prop) : Prop := LvP Try.prog Try.f71 [(0, .pointer x0), (3, .pointer x3), (4, .pointer x4), (6, .int .i64 x6)] [.code [1,1,1,1,0,1,0,1,1,1,0,0], .lp [1,1,1,1,0,1,0,1,1,1,0,0], .blk 2, .code [1,1,1,1,1]] M Q
def A71_3 (x0 x3 x4 : Option Addr) (x8 : Int) (M : Mem) (Q : Value → Mem → Prop) : Prop := LvP Try.prog Try.f71 [(0, .pointer x0), (3, .pointer x3), (4, .pointer x4), (8, .int .i64 x8)] [.code [1,1,1,1,1,0,1,0,0], .lp [1,1,1,1,1,0,1,0,0], .blk 4, .code [1,1,1,1,1,1]] M Q
theorem w71_0 {x0 : Option Addr} {x1 : Array Value} {M : Mem} {Q : Value → Mem → Prop} (H :
    A71_1 x0 (some ⟨2 * M.nb.size, 0, none⟩) (some ⟨2 * (M.new (.cells x1 41)).nb.size, 0, none⟩) 0 ((M.new (.cells x1 41)).new (.cells #[.bool false, .int .i64 0, .bool false, .bool false, .int .i64 0, .int .i64 0, .int .i64 0, .int .i64 0, .int .i64 0, .int .i64 0, .int .i64 0, .int .i64 0, .int .i64 0, .int .i64 0, .int .i64 0, .int .i64 0, .int .i64 0, .bool false, .int .i64 0, .int .i64 0, .int .i64 0, .int .i64 0, .int .i64 0, .bool false, .int .i64 0, .int .i64 0, .slice none 0 0, .bool false, .bool false, .bool false] 41)) Q) :
    Cn Try.prog 71 #[.pointer x0, .agg x1] M Q :=
  Cn.mk (cuts := K71) (sp := Z71) 900 b71 rfl rfl H fun G => by kernel_rfl

theorem w71_1 {x0 x3 x4 : Option Addr} {x5 : Int} {M : Mem} {Q : Value → Mem → Prop} (H :
    cnd (decide (x5 < 4)) (
     Cn Try.prog 68 #[.pointer x0, .int .i64 6] M fun v1' N1' =>
      tyS (asI .i64 v1') fun x2' =>
      adS x3 fun a3' =>
      ixS (idxA (some ⟨a3'.block, a3'.off + 18, none⟩) 4 1 x5) fun a4' =>
      ptS (N1'.put a4'.block a4'.off (.int .i64 x2')) fun M5' =>
      A71_1 x0 x3 x4 (IntKind.i64.wrap (x5 + 1)) M5' Q) (
     Cn Try.prog 68 #[.pointer x0, .int .i64 3] M fun v6' N6' =>
      tyS (asI .i64 v6') fun x7' =>
      adS x3 fun a8' =>
      ptS (N6'.put a8'.block (a8'.off + 22) (.int .i64 x7')) fun M9' =>
      Cn Try.prog 68 #[.pointer x0, .int .i64 1] M9' fun v10' N10' =>
       tyS (asI .i64 v10') fun x11' =>
       adS x3 fun a12' =>
       ptS (N10'.put a12'.block (a12'.off + 23) (.bool (x11' == 1))) fun M13' =>
       adS x3 fun a14' =>
       onS (M13'.boolAt a14'.block (a14'.off + 23)) fun b15' =>
       cnd b15' (
        Cn Try.prog 68 #[.pointer x0, .int .i64 2] M13' fun v16' N16' =>
         tyS (asI .i64 v16') fun x17' =>
         adS x3 fun a18' =>
         ptS (N16'.put a18'.block (a18'.off + 24) (.int .i64 (IntKind.i64.wrap (3 + x17')))) fun M19' =>
         Cn Try.prog 68 #[.pointer x0, .int .i64 2] M19' fun v20' N20' =>
          tyS (asI .i64 v20') fun x21' =>
          adS x3 fun a22' =>
          ptS (N20'.put a22'.block (a22'.off + 25) (.int .i64 x21')) fun M23' =>
          A71_2 x0 x3 x4 0 M23' Q) (
        A71_3 x0 x3 x4 0 M13' Q))) :
    A71_1 x0 x3 x4 x5 M Q :=
  LvP.mk (cuts := K71) (sp := Z71) 900 H fun G => by kernel_rfl

theorem w71_2 {x0 x3 x4 : Option Addr} {x6 : Int} {M : Mem} {Q : Value → Mem → Prop} (H :
    adS x3 fun a24' =>
    onS (M.intAt .i64 a24'.block (a24'.off + 25)) fun x25' =>
    puS (binV Try.prog .shl 3 3 (.int .i64 1) (.int .i64 x25')) fun v26' =>
    tyS (asI .i64 v26') fun x27' =>
    cnd (decide (x6 < x27')) (
     Cn Try.prog 68 #[.pointer x0, .int .i64 4] (M.new (.cells #[.int .i64 0, .int .i64 0, .int .i64 0, .int .i64 0] 96)) fun v28' N28' =>
      tyS (asI .i64 v28') fun x29' =>
      ptS (N28'.put (2 * M.nb.size) 0 (.int .i64 x29')) fun M30' =>
      Cn Try.prog 68 #[.pointer x0, .int .i64 2] M30' fun v31' N31' =>
       tyS (asI .i64 v31') fun x32' =>
       ptS (N31'.put (2 * M.nb.size) (0 + 1) (.int .i64 x32')) fun M33' =>
       Cn Try.prog 68 #[.pointer x0, .int .i64 4] M33' fun v34' N34' =>
        tyS (asI .i64 v34') fun x35' =>
        ptS (N34'.put (2 * M.nb.size) (0 + 2) (.int .i64 x35')) fun M36' =>
        Cn Try.prog 68 #[.pointer x0, .int .i64 2] M36' fun v37' N37' =>
         tyS (asI .i64 v37') fun x38' =>
         ptS (N37'.put (2 * M.nb.size) (0 + 3) (.int .i64 x38')) fun M39' =>
         adS x3 fun a40' =>
         onS (M39'.slAt a40'.block (a40'.off + 26)) fun s41' =>
         onS (M39'.intAt .i64 (2 * M.nb.size) 0) fun x42' =>
         onS (M39'.intAt .i64 (2 * M.nb.size) (0 + 1)) fun x43' =>
         onS (M39'.intAt .i64 (2 * M.nb.size) (0 + 2)) fun x44' =>
         onS (M39'.intAt .i64 (2 * M.nb.size) (0 + 3)) fun x45' =>
         meS (appendP Try.prog #[38, 38] (.slice s41'.1 (s41'.2.1) (s41'.2.2)) (.slice (some ⟨2 * M39'.nb.size, 0, none⟩) 1 1) (M39'.new (.cells #[.int .i64 x42', .int .i64 x43', .int .i64 x44', .int .i64 x45'] 96))) fun r46' =>
         tyS (asS r46'.1) fun s47' =>
         adS x3 fun a48' =>
         ptS (r46'.2.put a48'.block (a48'.off + 26) (.slice s47'.1 (s47'.2.1) (s47'.2.2))) fun M49' =>
         A71_2 x0 x3 x4 (IntKind.i64.wrap (x6 + 1)) M49' Q) (
     A71_3 x0 x3 x4 0 M Q)) :
    A71_2 x0 x3 x4 x6 M Q :=
  LvP.mk (cuts := K71) (sp := Z71) 900 H fun G => by kernel_rfl

theorem w71_3 {x0 x3 x4 : Option Addr} {x8 : Int} {M : Mem} {Q : Value → Mem → Prop} (H :
    cnd (decide (x8 < 3)) (
     Cn Try.prog 68 #[.pointer x0, .int .i64 1] M fun v50' N50' =>
      tyS (asI .i64 v50') fun x51' =>
      adS x3 fun a52' =>
      ixS (idxA (some ⟨a52'.block, a52'.off + 27, none⟩) 3 1 x8) fun a53' =>
      ptS (N50'.put a53'.block a53'.off (.bool (x51' == 1))) fun M54' =>
      A71_3 x0 x3 x4 (IntKind.i64.wrap (x8 + 1)) M54' Q) (
     adS x3 fun a55' =>
     ldP tyZlF0 M a55'.block a55'.off fun vs56' =>
     adS x4 fun a57' =>
     stP (some 30) vs56'.toArray M a57'.block a57'.off fun M58' =>
     adS x4 fun a59' =>
     ldP tyZlF0 M58' a59'.block a59'.off fun vs60' =>
     Q (.agg vs60'.toArray) M58')) :
    A71_3 x0 x3 x4 x8 M Q :=
  LvP.mk (cuts := K71) (sp := Z71) 900 H fun G => by kernel_rfl


end Go.Zt


/- Layer 20: HeadsReads: the document's reader of headers. -/
set_option linter.unusedSimpArgs false
set_option linter.unusedVariables false
set_option maxRecDepth 100000
namespace Go.Zt
open Go Go.Sim Go.Proofs Go.RowKit

abbrev zH : Hd := ⟨false, 0, false, false, 0, 0, 0, 0, 0, 0, 0, 0, 0, 0, 0, 0, 0, false, 0, 0, 0, 0, 0, false, 0, 0, none, 0, 0, false, false, false⟩
/-- Where the document's reader stands, its fault, and the header. -/
abbrev RS := Nat × Nat × Hd
def getR (b : List Nat) (p e : Nat) (n : Int) : Nat × Nat × Nat := if e ≠ 0 then (p, e, 0) else ((rFixed b p n).2.2, (rFixed b p n).2.1, (rFixed b p n).1)
def gI (b : List Nat) (r : RS) (n f : Int) (s : Int → Hd) : RS := ((getR b r.1 r.2.1 n).1, (getR b r.1 r.2.1 n).2.1, s ((getR b r.1 r.2.1 n).2.2 + f))
def gB (b : List Nat) (r : RS) (s : Bool → Hd) : RS := ((getR b r.1 r.2.1 1).1, (getR b r.1 r.2.1 1).2.1, s ((getR b r.1 r.2.1 1).2.2 == 1))
def delR (b : List Nat) (p e : Nat) : Nat × Nat × Int :=
  let g := getR b p e 1
  if g.2.2 = 0 ∨ g.2.1 ≠ 0 then (g.1, g.2.1, 0) else
  ((rSigned b g.1 5).2.2, if (rSigned b g.1 5).2.1 = 0 ∧ (rSigned b g.1 5).1 = 0 then 4 else (rSigned b g.1 5).2.1, (rSigned b g.1 5).1)
def logR (b : List Nat) (p e : Nat) (s : Int) : Nat × Nat × Int :=
  let g := getR b p e 2
  if g.2.1 = 0 ∧ logM g.2.2 s = false ∨ (2 : Int) < g.2.2 then (g.1, 5, g.2.2) else (g.1, g.2.1, g.2.2)
structure Rm (S : Nat → Prop) (M : Mem) (jr jq jh : Nat) (b : List Nat) (r : RS) : Prop where
  rd : RefR S M jq b r.1
  cod : M.nb[jr]? = some (.cells #[PtrB jq, .int .i64 (r.2.1 : Nat)] 109)
  hd : M.nb[jh]? = some (.cells r.2.2.cs 41)
  n1 : jr ≠ jq
  n2 : jh ≠ jq
  n3 : jh ≠ jr
  s1 : ¬ S jr
  s2 : ¬ S jh
  fr : M.floor ≤ jr
  fq : M.floor ≤ jq
  fh : M.floor ≤ jh
  fs : M.floor ≤ M.nb.size
  su : ∀ i, S i → i < jq
abbrev Ch (jr jq jh lo : Nat) : Mem → Mem → Prop := Chg (fun i => (i = jr ∨ i = jq ∨ i = jh) ∨ lo ≤ i)
section
variable {S : Nat → Prop} {M N M0 : Mem} {jr jq jh lo : Nat} {b : List Nat} {r : RS}
theorem getR_pow {p e : Nat} {n : Int} : (getR b p e n).2.2 < 2 ^ n.toNat := by
  have h1 : 0 < 2 ^ n.toNat := Nat.pow_pos (by decide)
  unfold getR rFixed
  split
  · exact h1
  · split
    · exact h1
    · split
      · exact h1
      · exact numb_lt (f := bitOf b) (fun i => Nat.mod_lt _ (by decide)) p n.toNat
theorem getR_lt {p e : Nat} {n : Int} (h0 : 0 ≤ n) (h1 : n ≤ 8) : (getR b p e n).2.2 < 256 := by
  unfold getR rFixed
  split
  · show 0 < 256; decide
  · split
    · show 0 < 256; decide
    · split
      · show 0 < 256; decide
      · have := numb_lt (f := bitOf b) (fun i => Nat.mod_lt _ (by decide)) p n.toNat
        have : 2 ^ n.toNat ≤ 2 ^ 8 := Nat.pow_le_pow_right (by decide) (by omega)
        show numb (bitOf b) p n.toNat < 256
        omega
theorem Rm.chg {T : Nat → Prop} (R : Rm S M jr jq jh b r) (k : Chg T M N) (h1 : ¬ T jr) (h2 : ¬ T jq) (h3 : ¬ T jh) (hS : ∀ i, S i → ¬ T i) : Rm S N jr jq jh b r :=
  ⟨R.rd.chg k h2 hS, at_chg R.cod k h1, at_chg R.hd k h3, R.n1, R.n2, R.n3, R.s1, R.s2, by rw [k.floor]; exact R.fr, by rw [k.floor]; exact R.fq, by rw [k.floor]; exact R.fh, by rw [k.floor]; exact Nat.le_trans R.fs k.size, R.su⟩
theorem Rm.keep (R : Rm S M jr jq jh b r) (k : Keep M N) : Rm S N jr jq jh b r := R.chg k (fun h => h) (fun h => h) (fun h => h) fun _ _ h => h
/-- The fault is set. -/
theorem Rm.err (R : Rm S M jr jq jh b r) (e : Nat) : ∃ N, M.put (2 * jr) 1 (.int .i64 (e : Nat)) = some N ∧ Chg (· = jr) M N ∧ N.nb.size = M.nb.size ∧ Rm S N jr jq jh b (r.1, e, r.2.2) := by
  obtain ⟨N, p, C, s, u⟩ := put1 1 (.int .i64 (e : Nat)) R.cod R.fr (by simp) rfl
  exact ⟨N, p, C, s, R.rd.chg C (fun h => R.n1 h.symm) fun i hi h => R.s1 (h ▸ hi), u, at_chg R.hd C R.n3, R.n1, R.n2, R.n3, R.s1, R.s2, by rw [C.floor]; exact R.fr, by rw [C.floor]; exact R.fq, by rw [C.floor]; exact R.fh, by rw [C.floor, s]; exact R.fs, R.su⟩
/-- A cell of the header is set. -/
theorem Rm.set (R : Rm S M jr jq jh b r) {o : Nat} {v : Value} (ho : o < 30) (h1 : oneCell v = true) {h' : Hd} (hs : h'.cs = r.2.2.cs.setIfInBounds o v) :
    ∃ N, M.put (2 * jh) o v = some N ∧ Chg (· = jh) M N ∧ N.nb.size = M.nb.size ∧ Rm S N jr jq jh b (r.1, r.2.1, h') := by
  obtain ⟨N, p, C, s, u⟩ := put1 o v R.hd R.fh (by exact ho) h1
  exact ⟨N, p, C, s, R.rd.chg C (fun h => R.n2 h.symm) fun i hi h => R.s2 (h ▸ hi), at_chg R.cod C fun h => R.n3 h.symm, by rw [u, hs], R.n1, R.n2, R.n3, R.s1, R.s2, by rw [C.floor]; exact R.fr, by rw [C.floor]; exact R.fq, by rw [C.floor]; exact R.fh, by rw [C.floor, s]; exact R.fs, R.su⟩
theorem c68 (R : Rm S M jr jq jh b r) {n : Int} (h0 : 0 ≤ n) (h1 : n ≤ 8) : Cn Try.prog 68 #[PtrB jr, .int .i64 n] M fun v N => v = .int .i64 ((getR b r.1 r.2.1 n).2.2 : Nat) ∧ Chg (fun i => i = jr ∨ i = jq) M N ∧ N.nb.size = M.nb.size ∧ Rm S N jr jq jh b ((getR b r.1 r.2.1 n).1, (getR b r.1 r.2.1 n).2.1, r.2.2) := by
  refine w68_0 (ad rfl (on (int_of (i := 1) R.cod rfl) (cne (fun he => ?_) fun he => ?_)))
  · have e0 : r.2.1 ≠ 0 := by omega
    have : getR b r.1 r.2.1 n = (r.1, r.2.1, 0) := by unfold getR; rw [if_pos e0]
    rw [this]
    exact ⟨rfl, .refl _, rfl, R⟩
  · have e0 : r.2.1 = 0 := by omega
    have hlt := getR_lt (b := b) (p := r.1) (e := r.2.1) h0 h1
    have eg : getR b r.1 r.2.1 n = ((rFixed b r.1 n).2.2, (rFixed b r.1 n).2.1, (rFixed b r.1 n).1) := by unfold getR; rw [if_neg (by omega)]
    rw [eg] at hlt ⊢
    refine ad rfl (on (ptr_of R.cod rfl) (Cn.mono (c34 R.rd R.fq n) ?_))
    rintro _ N1 ⟨rfl, C1, z1, D1⟩
    have R1 : Rm S N1 jr jq jh b ((rFixed b r.1 n).2.2, r.2.1, r.2.2) := ⟨D1, at_chg R.cod C1 R.n1, at_chg R.hd C1 R.n2, R.n1, R.n2, R.n3, R.s1, R.s2, by rw [C1.floor]; exact R.fr, by rw [C1.floor]; exact R.fq, by rw [C1.floor]; exact R.fh, by rw [C1.floor, z1]; exact R.fs, R.su⟩
    obtain ⟨N2, p2, C2, z2, R2⟩ := R1.err (rFixed b r.1 n).2.1
    refine ty rfl (ty rfl (ty rfl (ad rfl (pt p2 ⟨?_, (C1.mono fun i _ h => .inr h).trans (C2.mono fun i _ h => .inl h), by rw [z2, z1], R2⟩))))
    rw [i64w (by simp only at hlt; omega)]
variable {Q : Mem → Prop}
theorem iK {P : Int → Mem → Prop} (E : Ch jr jq jh lo M0 M) (R : Rm S M jr jq jh b r) {n : Int} (h0 : 0 ≤ n) (h1 : n ≤ 8) {o : Nat} (s : Int → Hd) (f : Int) (g : Int → Int) (hg : ∀ x, 0 ≤ x → x < 256 → g x = x + f) (ho : o < 30) (hs : ∀ x, (s x).cs = r.2.2.cs.setIfInBounds o (.int .i64 x))
    (hP : ∀ x N, ptS (N.put (2 * jh) o (.int .i64 (g x))) Q → P x N) (K : ∀ N r', r' = gI b r n f s → Ch jr jq jh lo M0 N → Rm S N jr jq jh b r' → Q N) : Cn Try.prog 68 #[PtrB jr, .int .i64 n] M fun v N => tyS (asI .i64 v) fun x => P x N := by
  refine Cn.mono (c68 R h0 h1) ?_
  have hlt := getR_lt (b := b) (p := r.1) (e := r.2.1) h0 h1
  rintro _ N1 ⟨rfl, C1, z1, R1⟩
  obtain ⟨N2, p2, C2, z2, R2⟩ := R1.set (o := o) (v := .int .i64 (((getR b r.1 r.2.1 n).2.2 : Nat) + f)) ho rfl (hs _)
  refine ty rfl (hP _ _ (pt (by rw [hg _ (by omega) (by omega)]; exact p2) (K N2 _ rfl ((E.trans (C1.mono fun i _ h => .inl (h.imp id .inl))).trans (C2.mono fun i _ h => .inl (.inr (.inr h)))) R2)))
theorem bK {P : Int → Mem → Prop} (E : Ch jr jq jh lo M0 M) (R : Rm S M jr jq jh b r) {o : Nat} (s : Bool → Hd) (ho : o < 30) (hs : ∀ x, (s x).cs = r.2.2.cs.setIfInBounds o (.bool x))
    (hP : ∀ x N, ptS (N.put (2 * jh) o (.bool (x == 1))) Q → P x N) (K : ∀ N r', r' = gB b r s → Ch jr jq jh lo M0 N → Rm S N jr jq jh b r' → Q N) : Cn Try.prog 68 #[PtrB jr, .int .i64 1] M fun v N => tyS (asI .i64 v) fun x => P x N := by
  refine Cn.mono (c68 R (by decide) (by decide)) ?_
  rintro _ N1 ⟨rfl, C1, z1, R1⟩
  obtain ⟨N2, p2, C2, z2, R2⟩ := R1.set (o := o) (v := .bool ((((getR b r.1 r.2.1 1).2.2 : Nat) : Int) == 1)) ho rfl (hs _)
  refine ty rfl (hP _ _ (pt p2 (K N2 _ ?_ ((E.trans (C1.mono fun i _ h => .inl (h.imp id .inl))).trans (C2.mono fun i _ h => .inl (.inr (.inr h)))) R2)))
  unfold gB
  congr 3
  rw [Bool.eq_iff_iff]
  simp only [beq_iff_eq]
  omega
theorem c69 (R : Rm S M jr jq jh b r) : Cn Try.prog 69 #[PtrB jr] M fun v N => v = .int .i64 (delR b r.1 r.2.1).2.2 ∧ Chg (fun i => i = jr ∨ i = jq) M N ∧ N.nb.size = M.nb.size ∧ Rm S N jr jq jh b ((delR b r.1 r.2.1).1, (delR b r.1 r.2.1).2.1, r.2.2) := by
  refine w69_0 (Cn.mono (c68 R (by decide) (by decide)) ?_)
  rintro _ N1 ⟨rfl, C1, z1, R1⟩
  generalize hg : getR b r.1 r.2.1 1 = g at R1 ⊢
  have ed : g.2.2 = 0 ∨ g.2.1 ≠ 0 → delR b r.1 r.2.1 = (g.1, g.2.1, 0) := fun h => by unfold delR; simp only [hg]; rw [if_pos h]
  have e0 : A69_1 (some ⟨2 * jr, 0, none⟩) true N1 (fun v N => v = .int .i64 0 ∧ Chg (fun i => i = jr ∨ i = jq) M N ∧ N.nb.size = M.nb.size ∧ Rm S N jr jq jh b (g.1, g.2.1, r.2.2)) := w69_1 (cT rfl ⟨rfl, C1, z1, R1⟩)
  refine ty rfl (cn (fun h => ?_) fun h => ad rfl (on (int_of R1.cod rfl) ?_))
  · rw [ed (.inl (by simpa using h))]; exact e0
  · by_cases he : g.2.1 = 0
    · have hb : ((((g.2.1 : Nat) : Int) != 0) = false) := by rw [he]; rfl
      have ed2 : delR b r.1 r.2.1 = ((rSigned b g.1 5).2.2, if (rSigned b g.1 5).2.1 = 0 ∧ (rSigned b g.1 5).1 = 0 then 4 else (rSigned b g.1 5).2.1, (rSigned b g.1 5).1) := by
        unfold delR; simp only [hg]
        rw [if_neg]
        rintro (h2 | h2)
        · rw [h2] at h; cases h
        · exact h2 he
      show A69_1 _ (((g.2.1 : Nat) : Int) != 0) N1 _
      rw [hb, ed2]
      refine w69_1 (cF rfl (ad rfl (on (ptr_of R1.cod rfl) (Cn.mono (c81 R1.rd R1.fq 5) ?_))))
      rintro _ N2 ⟨rfl, C2, z2, D2⟩
      have R2 : Rm S N2 jr jq jh b ((rSigned b g.1 5).2.2, g.2.1, r.2.2) := ⟨D2, at_chg R1.cod C2 R.n1, at_chg R1.hd C2 R.n2, R.n1, R.n2, R.n3, R.s1, R.s2, by rw [C2.floor]; exact R1.fr, by rw [C2.floor]; exact R1.fq, by rw [C2.floor]; exact R1.fh, by rw [C2.floor, z2]; exact R1.fs, R.su⟩
      obtain ⟨N3, p3, C3, z3, R3⟩ := R2.err (rSigned b g.1 5).2.1
      have C13 := (C1.trans (C2.mono fun i _ h => .inr h)).trans (C3.mono fun i _ h => .inl h)
      have z13 : N3.nb.size = M.nb.size := by rw [z3, z2, z1]
      have sb : -4294967296 ≤ (rSigned b g.1 5).1 ∧ (rSigned b g.1 5).1 ≤ 4294967296 := by
        have := numb_lt (f := bitOf b) (fun i => Nat.mod_lt _ (by decide)) (g.1 + 1) 5
        unfold rSigned
        simp only [show (5 : Int).toNat = 5 from rfl]
        repeat' split
        all_goals (refine ⟨?_, ?_⟩ <;> dsimp only <;> omega)
      refine ty rfl (ty rfl (ty rfl (ad rfl (pt p3 (cn (fun h1 => ?_) fun h1 => ?_)))))
      · have h1' : (rSigned b g.1 5).2.1 = 0 := by simpa using h1
        refine w69_2 (cn (fun h2 => ?_) fun h2 => ?_)
        · have h2' : (rSigned b g.1 5).1 = 0 := by simpa using h2
          obtain ⟨N4, p4, C4, z4, R4⟩ := R3.err 4
          refine ad rfl (pt p4 ⟨?_, C13.trans (C4.mono fun i _ h => .inl h), by rw [z4, z13], ?_⟩)
          · rw [i64w (x := (rSigned b g.1 5).1) (by omega)]
          · rw [if_pos ⟨h1', h2'⟩]; exact R4
        · refine ⟨by rw [i64w (x := (rSigned b g.1 5).1) (by omega)], C13, z13, ?_⟩
          rw [if_neg (fun hh => by rw [hh.2] at h2; cases h2)]; exact R3
      · refine w69_2 (cF rfl ⟨by rw [i64w (x := (rSigned b g.1 5).1) (by omega)], C13, z13, ?_⟩)
        rw [if_neg (fun hh => by rw [hh.1] at h1; cases h1)]; exact R3
    · have hb : ((((g.2.1 : Nat) : Int) != 0) = true) := by simpa using he
      show A69_1 _ (((g.2.1 : Nat) : Int) != 0) N1 _
      rw [hb, ed (.inr he)]; exact e0
theorem c70 (R : Rm S M jr jq jh b r) {s : Int} (hs : 16 ≤ s ∧ s ≤ 256) : Cn Try.prog 70 #[PtrB jr, .int .i64 s] M fun v N => v = .int .i64 (logR b r.1 r.2.1 s).2.2 ∧ Chg (fun i => i = jr ∨ i = jq) M N ∧ N.nb.size = M.nb.size ∧ Rm S N jr jq jh b ((logR b r.1 r.2.1 s).1, (logR b r.1 r.2.1 s).2.1, r.2.2) := by
  refine w70_0 (Cn.mono (c68 R (by decide) (by decide)) ?_)
  have hl : (getR b r.1 r.2.1 2).2.2 < 4 := getR_pow (n := 2)
  rintro _ N1 ⟨rfl, C1, z1, R1⟩
  unfold logR
  generalize getR b r.1 r.2.1 2 = g at R1 hl ⊢
  dsimp only at R1 hl ⊢
  have key : ∀ t : Bool, (t = true ↔ (g.2.1 = 0 ∧ logM g.2.2 s = false ∨ (2 : Int) < g.2.2)) → A70_1 (some ⟨2 * jr, 0, none⟩) ((g.2.2 : Nat) : Int) t N1 (fun v N => v = .int .i64 (if g.2.1 = 0 ∧ logM g.2.2 s = false ∨ (2 : Int) < g.2.2 then ((g.1, 5, ((g.2.2 : Nat) : Int)) : Nat × Nat × Int) else (g.1, g.2.1, g.2.2)).2.2 ∧ Chg (fun i => i = jr ∨ i = jq) M N ∧ N.nb.size = M.nb.size ∧ Rm S N jr jq jh b ((if g.2.1 = 0 ∧ logM g.2.2 s = false ∨ (2 : Int) < g.2.2 then ((g.1, 5, ((g.2.2 : Nat) : Int)) : Nat × Nat × Int) else (g.1, g.2.1, g.2.2)).1, (if g.2.1 = 0 ∧ logM g.2.2 s = false ∨ (2 : Int) < g.2.2 then ((g.1, 5, ((g.2.2 : Nat) : Int)) : Nat × Nat × Int) else (g.1, g.2.1, g.2.2)).2.1, r.2.2)) := by
    intro t ht
    cases t with
    | true =>
      obtain ⟨N2, p2, C2, z2, R2⟩ := R1.err 5
      rw [if_pos (ht.1 rfl)]
      exact w70_1 (cT rfl (ad rfl (pt p2 ⟨rfl, C1.trans (C2.mono fun i _ h => .inl h), by rw [z2, z1], R2⟩)))
    | false =>
      rw [if_neg (fun h => by have := ht.2 h; cases this)]
      exact w70_1 (cF rfl ⟨rfl, C1, z1, R1⟩)
  have pw : (1 : Int) * 2 ^ g.2.2 ≤ 8 := by
    have : (2 : Int) ^ g.2.2 ≤ 2 ^ 3 := by exact_mod_cast Nat.pow_le_pow_right (n := 2) (by decide) (show g.2.2 ≤ 3 by omega)
    omega
  have pw0 : (0 : Int) ≤ 1 * 2 ^ g.2.2 := by have : (0 : Int) ≤ 2 ^ g.2.2 := Int.pow_nonneg (by decide); omega
  have lm : logM g.2.2 s = false ↔ (2 < (g.2.2 : Int) ∨ (1 : Int) * 2 ^ g.2.2 > (s + 63) / 64) := by
    unfold logM
    rw [decide_eq_false_iff_not, Int.toNat_natCast, Int.one_mul]
    omega
  refine ty rfl (ad rfl (on (int_of R1.cod rfl) (cn (fun h => ?_) fun h => ?_)))
  · have h0 : g.2.1 = 0 := by simpa using h
    refine pu (shl_i64 rfl (by omega) (by omega)) (ty rfl (Cn.eq (c59 hs) (ty rfl (cd (fun hgt => key true ?_) fun hle => key _ ?_))))
    · exact ⟨fun _ => .inl ⟨h0, lm.2 (.inr hgt)⟩, fun _ => rfl⟩
    · rw [decide_eq_true_iff]
      refine ⟨fun hh => .inr hh, fun hh => ?_⟩
      rcases hh with ⟨_, hh⟩ | hh
      · rcases lm.1 hh with hh | hh
        · exact hh
        · exact absurd hh hle
      · exact hh
  · have h0 : g.2.1 ≠ 0 := fun hh => by rw [hh] at h; cases h
    refine key _ ?_
    rw [decide_eq_true_iff]
    exact ⟨fun hh => .inr hh, fun hh => hh.elim (fun q => absurd q.1 h0) id⟩
def gD (b : List Nat) (r : RS) (s : Int → Hd) : RS := ((delR b r.1 r.2.1).1, (delR b r.1 r.2.1).2.1, s (delR b r.1 r.2.1).2.2)
def gL (b : List Nat) (r : RS) (s : Int → Hd) (z : Int) : RS := ((logR b r.1 r.2.1 z).1, (logR b r.1 r.2.1 z).2.1, s (logR b r.1 r.2.1 z).2.2)
theorem dK' {P : Int → Mem → Prop} (E : Ch jr jq jh lo M0 M) (R : Rm S M jr jq jh b r) {o : Nat} (s : Int → Hd) (ho : o < 30) (hs : ∀ x, (s x).cs = r.2.2.cs.setIfInBounds o (.int .i64 x))
    (hP : ∀ x N, ptS (N.put (2 * jh) o (.int .i64 x)) Q → P x N) (K : ∀ N r', r' = gD b r s → Ch jr jq jh lo M0 N → Rm S N jr jq jh b r' → Q N) : Cn Try.prog 69 #[PtrB jr] M fun v N => tyS (asI .i64 v) fun x => P x N := by
  refine Cn.mono (c69 R) ?_
  rintro _ N1 ⟨rfl, C1, z1, R1⟩
  obtain ⟨N2, p2, C2, z2, R2⟩ := R1.set (o := o) (v := .int .i64 (delR b r.1 r.2.1).2.2) ho rfl (hs _)
  exact ty rfl (hP _ _ (pt p2 (K N2 _ rfl ((E.trans (C1.mono fun i _ h => .inl (h.imp id .inl))).trans (C2.mono fun i _ h => .inl (.inr (.inr h)))) R2)))
theorem lK {P : Int → Mem → Prop} (E : Ch jr jq jh lo M0 M) (R : Rm S M jr jq jh b r) {z : Int} (hz : 16 ≤ z ∧ z ≤ 256) {o : Nat} (s : Int → Hd) (ho : o < 30) (hs : ∀ x, (s x).cs = r.2.2.cs.setIfInBounds o (.int .i64 x))
    (hP : ∀ x N, ptS (N.put (2 * jh) o (.int .i64 x)) Q → P x N) (K : ∀ N r', r' = gL b r s z → Ch jr jq jh lo M0 N → Rm S N jr jq jh b r' → Q N) : Cn Try.prog 70 #[PtrB jr, .int .i64 z] M fun v N => tyS (asI .i64 v) fun x => P x N := by
  refine Cn.mono (c70 R hz) ?_
  rintro _ N1 ⟨rfl, C1, z1, R1⟩
  obtain ⟨N2, p2, C2, z2, R2⟩ := R1.set (o := o) (v := .int .i64 (logR b r.1 r.2.1 z).2.2) ho rfl (hs _)
  exact ty rfl (hP _ _ (pt p2 (K N2 _ rfl ((E.trans (C1.mono fun i _ h => .inl (h.imp id .inl))).trans (C2.mono fun i _ h => .inl (.inr (.inr h)))) R2)))
end
end Go.Zt


/- Layer 20: HeadsReads: the document's filters and Read. -/
set_option linter.unusedSimpArgs false
set_option linter.unusedVariables false
set_option maxRecDepth 100000
namespace Go.Zt
open Go Go.Sim Go.Proofs Go.RowKit

def sg1R (b : List Nat) (p e : Nat) : Nat × Nat × Sg :=
  let g1 := getR b p e 4
  let g2 := getR b g1.1 g1.2.1 2
  let g3 := getR b g2.1 g2.2.1 4
  let g4 := getR b g3.1 g3.2.1 2
  (g4.1, g4.2.1, ⟨(g1.2.2 : Nat), (g2.2.2 : Nat), (g3.2.2 : Nat), (g4.2.2 : Nat)⟩)
def sgsR (b : List Nat) : Nat → Nat → Nat → Nat × Nat × List Sg
  | 0, p, e => (p, e, [])
  | n + 1, p, e => ((sgsR b n (sg1R b p e).1 (sg1R b p e).2.1).1, (sgsR b n (sg1R b p e).1 (sg1R b p e).2.1).2.1, (sg1R b p e).2.2 :: (sgsR b n (sg1R b p e).1 (sg1R b p e).2.1).2.2)
theorem sgsR_len (b : List Nat) : ∀ n p e, (sgsR b n p e).2.2.length = n
  | 0, _, _ => rfl
  | n + 1, p, e => by simp only [sgsR, List.length_cons, sgsR_len b n]
def StrR (b : List Nat) (r0 r : RS) (X : List Sg) : Prop :=
  ∃ r1, r1 = gI b r0 2 3 (fun x => { r0.2.2 with da := x }) ∧ ∃ r2, r2 = gI b r1 2 0 (fun x => { r1.2.2 with cb := x }) ∧
  (∃ A c, r = ((sgsR b (2 ^ r2.2.2.cb.toNat) r2.1 r2.2.1).1, (sgsR b (2 ^ r2.2.2.cb.toNat) r2.1 r2.2.1).2.1, { r2.2.2 with A := A, n := 2 ^ r2.2.2.cb.toNat, c := c })) ∧ X = (sgsR b (2 ^ r2.2.2.cb.toNat) r2.1 r2.2.1).2.2
def FiltR (b : List Nat) (r0 r : RS) (X : List Sg) : Prop :=
  ∃ r1, r1 = gI b r0 6 0 (fun x => { r0.2.2 with l0 := x }) ∧ ∃ r2, r2 = gI b r1 6 0 (fun x => { r1.2.2 with l1 := x }) ∧
  ∃ r3, r3 = gI b r2 6 0 (fun x => { r2.2.2 with l2 := x }) ∧ ∃ r4, r4 = gI b r3 6 0 (fun x => { r3.2.2 with l3 := x }) ∧
  ∃ r5, r5 = gI b r4 3 0 (fun x => { r4.2.2 with sp := x }) ∧ ∃ r6, r6 = gB b r5 (fun x => { r5.2.2 with cd := x }) ∧
  ∃ r7, (if r6.2.2.cd = true then StrR b r6 r7 X else r7 = r6 ∧ X = []) ∧
  ∃ r8, r8 = gB b r7 (fun x => { r7.2.2 with x0 := x }) ∧ ∃ r9, r9 = gB b r8 (fun x => { r8.2.2 with x1 := x }) ∧ r = gB b r9 (fun x => { r9.2.2 with x2 := x })
section
variable {S : Nat → Prop} {M N M0 : Mem} {jr jq jh ja jb js lo : Nat} {b : List Nat} {r : RS}
theorem iK0 {Q : Mem → Prop} {P : Int → Mem → Prop} (E : Ch jr jq jh lo M0 M) (R : Rm S M jr jq jh b r) {n : Int} (h0 : 0 ≤ n) (h1 : n ≤ 8) {o : Nat} (s : Int → Hd) (ho : o < 30) (hs : ∀ x, (s x).cs = r.2.2.cs.setIfInBounds o (.int .i64 x))
    (hP : ∀ x N, ptS (N.put (2 * jh) o (.int .i64 x)) Q → P x N) (K : ∀ N r', r' = gI b r n 0 s → Ch jr jq jh lo M0 N → Rm S N jr jq jh b r' → Q N) : Cn Try.prog 68 #[PtrB jr, .int .i64 n] M fun v N => tyS (asI .i64 v) fun x => P x N :=
  iK E R h0 h1 s 0 (fun x => x) (fun x _ _ => (Int.add_zero x).symm) ho hs hP K
/-- A number of a strength. -/
theorem sK {Q : Mem → Prop} {P : Int → Mem → Prop} {cs : Array Value} (R : Rm S M jr jq jh b r) (hj : M.nb[js]? = some (.cells cs 96)) (d : js ≠ jr ∧ js ≠ jq ∧ js ≠ jh ∧ ¬ S js) (hf : M.floor ≤ js) {n : Int} (h0 : 0 ≤ n) (h1 : n ≤ 8) {o : Nat} (ho : o < cs.size)
    (hP : ∀ x N, ptS (N.put (2 * js) o (.int .i64 x)) Q → P x N) (K : ∀ N, Chg (fun i => i = jr ∨ i = jq ∨ i = js) M N → N.nb.size = M.nb.size → Rm S N jr jq jh b ((getR b r.1 r.2.1 n).1, (getR b r.1 r.2.1 n).2.1, r.2.2) → N.nb[js]? = some (.cells (cs.setIfInBounds o (.int .i64 ((getR b r.1 r.2.1 n).2.2 : Nat))) 96) → Q N) :
    Cn Try.prog 68 #[PtrB jr, .int .i64 n] M fun v N => tyS (asI .i64 v) fun x => P x N := by
  refine Cn.mono (c68 R h0 h1) ?_
  rintro _ N1 ⟨rfl, C1, z1, R1⟩
  have j1 := at_chg hj C1 fun h => h.elim d.1 d.2.1
  obtain ⟨N2, p2, C2, z2, u2⟩ := put1 o (.int .i64 ((getR b r.1 r.2.1 n).2.2 : Nat)) j1 (by rw [C1.floor]; exact hf) ho rfl
  exact ty rfl (hP _ _ (pt p2 (K N2 ((C1.mono fun i _ h => h.imp id .inl).trans (C2.mono fun i _ h => .inr (.inr h))) (by rw [z2, z1]) (R1.chg C2 (fun h => d.1 h.symm) (fun h => d.2.1 h.symm) (fun h => d.2.2.1 h.symm) fun i hi h => d.2.2.2 (h ▸ hi)) u2)))
theorem e71_3 {Q : Value → Mem → Prop} {zz : Array Value} (zs : zz.size = 30) (nb : jb ≠ jr ∧ jb ≠ jq ∧ jb ≠ ja) (sb : ¬ S jb) (hb : M.nb[jb]? = some (.cells zz 41)) (fb0 : M.floor ≤ jb) (R : Rm S M jr jq ja b r)
    (K : ∀ N r8 r9 r', r8 = gB b r (fun x => { r.2.2 with x0 := x }) → r9 = gB b r8 (fun x => { r8.2.2 with x1 := x }) → r' = gB b r9 (fun x => { r9.2.2 with x2 := x }) → Chg (fun i => ((i = jr ∨ i = jq ∨ i = ja) ∨ M.nb.size ≤ i) ∨ i = jb) M N → RefR S N jq b r'.1 → N.nb[jr]? = some (.cells #[PtrB jq, .int .i64 (r'.2.1 : Nat)] 109) → Q (.agg r'.2.2.cs) N) :
    A71_3 (some ⟨2 * jr, 0, none⟩) (some ⟨2 * ja, 0, none⟩) (some ⟨2 * jb, 0, none⟩) 0 M Q := by
  have lb := lt_of_at hb
  refine w71_3 (cT (by decide) (bK (lo := M.nb.size) (.refl M) R (o := 27) (fun x => { r.2.2 with x0 := x }) (by decide) (fun _ => rfl) (fun _ _ h => ad rfl (ix (x := ⟨2 * ja, 27, none⟩) (by kernel_rfl) h)) fun N1 r8 h8 E1 R1 => ?_))
  refine w71_3 (cT (by decide) (bK E1 R1 (o := 28) (fun x => { r8.2.2 with x1 := x }) (by decide) (fun _ => rfl) (fun _ _ h => ad rfl (ix (x := ⟨2 * ja, 28, none⟩) (by kernel_rfl) h)) fun N2 r9 h9 E2 R2 => ?_))
  refine w71_3 (cT (by decide) (bK E2 R2 (o := 29) (fun x => { r9.2.2 with x2 := x }) (by decide) (fun _ => rfl) (fun _ _ h => ad rfl (ix (x := ⟨2 * ja, 29, none⟩) (by kernel_rfl) h)) fun N3 r' h' E3 R3 => ?_))
  have b3 := at_chg hb E3 fun h => by omega
  refine w71_3 (cF (by decide) (ad rfl (ldA R3.hd rfl (ad rfl (stA b3 (by rw [E3.floor]; exact fb0) rfl (by rw [zs]; rfl) rfl fun N4 C4 n4 b4 => ad rfl (ldA b4 rfl ?_))))))
  exact K N4 r8 r9 r' h8 h9 h' ((E3.mono fun i _ h => .inl h).trans (C4.mono fun i _ h => .inr h)) (R3.rd.chg C4 (fun h => nb.2.1 h.symm) fun i hi h => sb (h ▸ hi)) (at_chg R3.cod C4 fun h => nb.1 h.symm)
theorem e71_2 {Q : Value → Mem → Prop} : ∀ (q i : Nat) {M : Mem} {r : RS} {X : List Sg}, i + q = 2 ^ r.2.2.cb.toNat → (0 ≤ r.2.2.cb ∧ r.2.2.cb < 4) → r.2.2.n = X.length → X.length + q ≤ 16 → Own (fun j => lo ≤ j) M 96 r.2.2.A (r.2.2.c * 4) (Sgs X) → Ch jr jq ja lo M0 M → Rm S M jr jq ja b r → lo ≤ M.nb.size → (jr < lo ∧ jq < lo ∧ ja < lo) → M.floor ≤ lo →
    (∀ N A c, Ch jr jq ja lo M0 N → Rm S N jr jq ja b ((sgsR b q r.1 r.2.1).1, (sgsR b q r.1 r.2.1).2.1, { r.2.2 with A := A, n := X.length + q, c := c }) → Own (fun j => lo ≤ j) N 96 A (c * 4) (Sgs (X ++ (sgsR b q r.1 r.2.1).2.2)) → lo ≤ N.nb.size → A71_3 (some ⟨2 * jr, 0, none⟩) (some ⟨2 * ja, 0, none⟩) (some ⟨2 * jb, 0, none⟩) 0 N Q) →
    A71_2 (some ⟨2 * jr, 0, none⟩) (some ⟨2 * ja, 0, none⟩) (some ⟨2 * jb, 0, none⟩) (i : Int) M Q
  | q, i, M, r, X, hi, hc, hn, hX, hO, E, R, hs, hl, hf, K => by
    have pw : (1 : Int) * 2 ^ r.2.2.cb.toNat = ((2 ^ r.2.2.cb.toNat : Nat) : Int) := by rw [Int.one_mul]; norm_cast
    have pb : 2 ^ r.2.2.cb.toNat ≤ 2 ^ 3 := Nat.pow_le_pow_right (by decide) (by omega)
    refine w71_2 (ad rfl (on (int_of R.hd rfl) (pu (shl_i64 (q := r.2.2.cb.toNat) (by omega) (by rw [pw]; omega) (by omega)) (ty rfl ?_))))
    rw [pw]
    match q, hi, hX, K with
    | 0, hi, hX, K =>
      refine cF (by simp; omega) ?_
      have e : ({ r.2.2 with A := r.2.2.A, n := X.length + 0, c := r.2.2.c } : Hd) = r.2.2 := by rw [Nat.add_zero, ← hn]
      exact K M r.2.2.A r.2.2.c E (by rw [e]; exact R) (by simpa [sgsR] using hO) hs
    | q + 1, hi, hX, K =>
      have a := Mem.new_at M (.cells #[.int .i64 0, .int .i64 0, .int .i64 0, .int .i64 0] 96)
      have K0 : Keep M (M.new (.cells #[.int .i64 0, .int .i64 0, .int .i64 0, .int .i64 0] 96)) := .new _ _
      have s0 := Mem.new_size M (.cells #[.int .i64 0, .int .i64 0, .int .i64 0, .int .i64 0] 96)
      refine cT (by simp; omega) ?_
      generalize M.new (.cells #[.int .i64 0, .int .i64 0, .int .i64 0, .int .i64 0] 96) = M1 at a K0 s0 ⊢
      have R1 := R.keep K0
      have nS : ¬ S M.nb.size := fun h => by have := R.su _ h; omega
      have d : M.nb.size ≠ jr ∧ M.nb.size ≠ jq ∧ M.nb.size ≠ ja ∧ ¬ S M.nb.size := ⟨by omega, by omega, by omega, nS⟩
      have O1 : Own (fun j => lo ≤ j ∧ j < M.nb.size) M1 96 r.2.2.A (r.2.2.c * 4) (Sgs X) := (hO.mono (T := fun j => lo ≤ j ∧ j < M.nb.size) fun j hj h => ⟨h, hj⟩).chg K0 fun _ _ _ h => h
      have f1 : M1.floor ≤ M.nb.size := by rw [K0.floor]; exact R.fs
      refine sK R1 a d f1 (by decide) (by decide) (by decide) (fun _ _ h => h) fun N1 C1 z1 R2 a1 => ?_
      refine sK R2 a1 d (by rw [C1.floor]; exact f1) (by decide) (by decide) (by show 1 < 4; decide) (fun _ _ h => h) fun N2 C2 z2 R3 a2 => ?_
      refine sK R3 a2 d (by rw [C2.floor, C1.floor]; exact f1) (by decide) (by decide) (by show 2 < 4; decide) (fun _ _ h => h) fun N3 C3 z3 R4 a3 => ?_
      refine sK R4 a3 d (by rw [C3.floor, C2.floor, C1.floor]; exact f1) (by decide) (by decide) (by show 3 < 4; decide) (fun _ _ h => h) fun N4 C4 z4 R5 a4 => ?_
      have C14 := ((C1.trans C2).trans C3).trans C4
      have z14 : N4.nb.size = M.nb.size + 1 := by rw [z4, z3, z2, z1, s0]
      have O4 : Own (fun j => lo ≤ j ∧ j < M.nb.size) N4 96 r.2.2.A (r.2.2.c * 4) (Sgs X) := O1.chg C14 fun j _ hj h => by omega
      refine ad rfl (on (sl_of R5.hd rfl) (on (int_of (i := 0) a4 rfl) (on (int_of (i := 0 + 1) a4 rfl) (on (int_of (i := 0 + 2) a4 rfl) (on (int_of (i := 0 + 3) a4 rfl) ?_)))))
      have E4 : Ch jr jq ja lo M0 N4 := (E.trans (K0.mono fun i _ h => h.elim)).trans (C14.mono fun i _ h => h.elim (fun h => .inl (.inl h)) fun h => h.elim (fun h => .inl (.inr (.inl h))) fun h => .inr (by omega))
      have R5' : Rm S N4 jr jq ja b ((sg1R b r.1 r.2.1).1, (sg1R b r.1 r.2.1).2.1, r.2.2) := R5
      generalize hsx : (sg1R b r.1 r.2.1).2.2 = x
      have e0 : ((getR b r.1 r.2.1 4).2.2 : Int) = x.a := by rw [← hsx]; rfl
      have e1 : ((getR b (getR b r.1 r.2.1 4).1 (getR b r.1 r.2.1 4).2.1 2).2.2 : Int) = x.b := by rw [← hsx]; rfl
      have e2 : ((getR b (getR b (getR b r.1 r.2.1 4).1 (getR b r.1 r.2.1 4).2.1 2).1 (getR b (getR b r.1 r.2.1 4).1 (getR b r.1 r.2.1 4).2.1 2).2.1 4).2.2 : Int) = x.c := by rw [← hsx]; rfl
      dsimp only
      rw [e0, e1, e2]
      rw [show ((getR b (getR b (getR b (getR b r.1 r.2.1 4).1 (getR b r.1 r.2.1 4).2.1 2).1 (getR b (getR b r.1 r.2.1 4).1 (getR b r.1 r.2.1 4).2.1 2).2.1 4).1 (getR b (getR b (getR b r.1 r.2.1 4).1 (getR b r.1 r.2.1 4).2.1 2).1 (getR b (getR b r.1 r.2.1 4).1 (getR b r.1 r.2.1 4).2.1 2).2.1 4).2.1 2).2.2 : Int) = x.d by rw [← hsx]; rfl]
      have K5 : Keep N4 (N4.new (.cells #[.int .i64 x.a, .int .i64 x.b, .int .i64 x.c, .int .i64 x.d] 96)) := .new _ _
      have O5 : Own (fun j => lo ≤ j) (N4.new (.cells #[.int .i64 x.a, .int .i64 x.b, .int .i64 x.c, .int .i64 x.d] 96)) 96 r.2.2.A (r.2.2.c * 4) (Sgs X) := (O4.mono fun _ _ h => h.1).chg K5 fun _ _ _ h => h
      have n5 := Mem.new_size N4 (.cells #[.int .i64 x.a, .int .i64 x.b, .int .i64 x.c, .int .i64 x.d] 96)
      have r5 := Row.new N4 96 x.cells
      have fl : N4.floor ≤ lo := by rw [C14.floor, K0.floor]; exact hf
      obtain ⟨A', c', M6, p6, C6, O6, hc6⟩ := append_own elem38 O5 (n := X.length) (by rw [Sgs_len]; omega) r5 (k := 1) (cx := 1) rfl rfl (fun j hj => by show N4.floor ≤ j; omega) (by rw [n5]; omega) (by omega)
      rw [← hn] at p6
      refine me p6 (ty rfl (ad rfl ?_))
      have R6 := (R5'.keep K5).chg C6 (by omega) (by omega) (by omega) fun i hi h => by have := R.su i hi; omega
      obtain ⟨M7, p7, C7, z7, R7⟩ := R6.set (o := 26) (v := .slice A' (r.2.2.n + 1) c') (by decide) rfl (h' := { r.2.2 with A := A', n := r.2.2.n + 1, c := c' }) rfl
      refine pt p7 ?_
      have O7 : Own (fun j => lo ≤ j) M7 96 A' (c' * 4) (Sgs X ++ x.cells) := O6.chg C7 fun j _ hj h => by omega
      have sE : Sgs X ++ x.cells = Sgs (X ++ [x]) := by simp [Sgs, List.flatMap_append]
      rw [sE] at O7
      have E7 : Ch jr jq ja lo M0 M7 := ((E4.trans (K5.mono fun i _ h => h.elim)).trans (C6.mono fun i _ h => .inr h)).trans (C7.mono fun i _ h => .inl (.inr (.inr h)))
      have z6 := C6.size
      rw [i64w (by omega)]
      refine e71_2 q (i + 1) (X := X ++ [x]) (r := ((sg1R b r.1 r.2.1).1, (sg1R b r.1 r.2.1).2.1, { r.2.2 with A := A', n := r.2.2.n + 1, c := c' })) (by dsimp only; omega) hc (by dsimp only; rw [List.length_append, hn]; rfl) (by simp; omega) O7 E7 R7 (by omega) hl (by rw [C7.floor, C6.floor]; exact fl) ?_
      intro N A c EE RR OO ss
      refine K N A c EE ?_ ?_ ss
      · have : X.length + (q + 1) = (X ++ [x]).length + q := by simp; omega
        rw [this]; exact RR
      · have : X ++ (sgsR b (q + 1) r.1 r.2.1).2.2 = (X ++ [x]) ++ (sgsR b q (sg1R b r.1 r.2.1).1 (sg1R b r.1 r.2.1).2.1).2.2 := by
          simp only [sgsR, hsx, List.append_assoc, List.singleton_append]
        rw [this]; exact OO
end
end Go.Zt

