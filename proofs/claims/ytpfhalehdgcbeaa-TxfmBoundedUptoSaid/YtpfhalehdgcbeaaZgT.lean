/- Layer 7: the reference's transforms. -/
import Derived.Test.YtpfhalehdgcbeaaZgK
import Derived.Test.YtpfhalehdgcbeaaZgD
import Derived.Test.YtpfhalehdgcbeaaZgRa
set_option linter.unusedSimpArgs false
set_option linter.unusedVariables false
namespace Go.Zt
open Go Go.Sim Go.Proofs Go.RowKit

/-! ### Matrices -/
def At3 (M : Mem) (A : Option Addr) (L : List Value) : Prop := ∃ j cs sp, A = some ⟨2 * j, 0, sp⟩ ∧ M.nb[j]? = some (.cells cs 3) ∧ cs.toList.take L.length = L
theorem At3.of {S : Nat → Prop} {M : Mem} {A : Option Addr} {c : Nat} {L : List Value} (h : Own S M 3 A c L) (hL : L ≠ []) : At3 M A L := by
  rcases h with ⟨_, h, _⟩ | ⟨j, cs, sp, h1, _, _, h4, h5, _⟩
  · exact absurd h hL
  · exact ⟨j, cs, sp, h1, h4, h5⟩
theorem At3.chg {S : Nat → Prop} {M N : Mem} {A : Option Addr} {L : List Value} (h : At3 M A L) (k : Chg S M N) (hS : ∀ j, S j → ¬ ∃ cs, M.nb[j]? = some (.cells cs 3)) : At3 N A L := by
  obtain ⟨j, cs, sp, h1, h2, h3⟩ := h
  exact ⟨j, cs, sp, h1, at_chg h2 k fun hs => hS j hs ⟨cs, h2⟩, h3⟩
theorem At3.keep {M N : Mem} {A : Option Addr} {L : List Value} (h : At3 M A L) (k : Keep M N) : At3 N A L := h.chg k fun _ h => h.elim
theorem At3.row {M : Mem} {A : Option Addr} {L : List Value} (h : At3 M A L) : Row M A L := by
  obtain ⟨j, cs, sp, rfl, h2, h3⟩ := h
  intro i hi
  refine ⟨_, rfl, ?_⟩
  show M.cell (2 * j) (0 + i) = _
  rw [cell_of h2, Nat.zero_add, ← Array.getElem?_toList]
  have : (cs.toList.take L.length)[i]? = some L[i] := by rw [h3]; exact List.getElem?_eq_getElem hi
  rw [List.getElem?_take] at this
  rw [if_pos hi] at this; exact this
abbrev Sls (n : Nat) (As : List (Option Addr)) : List Value := As.map fun a => .slice a n n
/-- The first K rows of a matrix. -/
def Mat (M : Mem) (n : Nat) (w : Nat → Nat → Int) (As : List (Option Addr)) : Prop := ∀ k (h : k < As.length), At3 M As[k] (Ints ((List.range n).map (w k)))
theorem Mat.keep {M N : Mem} {n : Nat} {w : Nat → Nat → Int} {As : List (Option Addr)} (h : Mat M n w As) (k : Keep M N) : Mat N n w As := fun i hi => (h i hi).keep k
def twoF (f g : Nat → Int) (n i : Nat) : List Int := (List.range n).map fun j => if j < i then f j else g j
theorem twoF_len {f g : Nat → Int} {n i : Nat} : (twoF f g n i).length = n := by simp [twoF]
theorem twoF_set {f g : Nat → Int} {n i : Nat} : (Ints (twoF f g n i)).set i (.int .i64 (f i)) = Ints (twoF f g n (i + 1)) := by
  refine List.ext_getElem? fun j => ?_
  rw [List.getElem?_set]
  by_cases h : j < n
  · rw [List.getElem?_map, List.getElem?_map, twoF, twoF, List.getElem?_map, List.getElem?_map, List.getElem?_range h]
    by_cases h2 : i = j
    · subst h2
      rw [if_pos rfl, if_pos (by simpa using h)]
      show some (Value.int .i64 (f i)) = some (Value.int .i64 (if i < i + 1 then f i else g i))
      rw [if_pos (by omega)]
    · rw [if_neg h2]
      show some (Value.int .i64 (if j < i then f j else g j)) = some (Value.int .i64 (if j < i + 1 then f j else g j))
      by_cases h3 : j < i
      · rw [if_pos h3, if_pos (by omega)]
      · rw [if_neg h3, if_neg (by omega)]
  · rw [List.getElem?_eq_none (l := Ints (twoF f g n (i + 1))) (by simp [twoF]; omega)]
    split
    · rw [if_neg (by simp [twoF]; omega)]
    · rw [List.getElem?_eq_none (by simp [twoF]; omega)]
theorem twoF_0 {f g : Nat → Int} {n : Nat} : twoF f g n 0 = (List.range n).map g := by simp [twoF]
theorem twoF_n {f g : Nat → Int} {n : Nat} : twoF f g n n = (List.range n).map f := by
  unfold twoF; exact List.map_congr_left fun j hj => by rw [if_pos (List.mem_range.1 hj)]
theorem zeros {n : Nat} : List.replicate n (0 : Int) = (List.range n).map fun _ => 0 := by
  refine List.ext_getElem? fun j => ?_
  by_cases h : j < n
  · rw [List.getElem?_map, List.getElem?_range h, List.getElem?_replicate, if_pos h]; rfl
  · rw [List.getElem?_eq_none (by simpa using h), List.getElem?_eq_none (by simpa using h)]
end Go.Zt

