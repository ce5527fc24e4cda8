/- The abstract machine 'Sim': the relation between its values and memory and the model's. -/
import Derived.Test.YtbbdggpfhcgbpaaZsA
import Derived.Laws.Cells
import Derived.Laws.Entries
import Derived.ChangeKeysEq
import Derived.Laws.CopyRow
set_option linter.unusedSimpArgs false
set_option linter.unusedVariables false
namespace Go.Sim
open Go

/-- Where a new block of the abstract memory lies: the model's block, the first cell, how many elements more its capacity has. -/
structure Loc where
  B : Nat
  s : Nat
  e : Nat

inductive VR (n : Nat) (m : Nat → Loc) : Value → Value → Prop where
  | bool (b : Bool) : VR n m (.bool b) (.bool b)
  | int (k : IntKind) (x : Int) : VR n m (.int k x) (.int k x)
  | string (s : ByteArray) : VR n m (.string s) (.string s)
  | ptrNil : VR n m (.pointer none) (.pointer none)
  | ptrNew (j o : Nat) (h : j < n) : VR n m (.pointer (some ⟨2 * j, o, none⟩)) (.pointer (some ⟨(m j).B, o + (m j).s, none⟩))
  | ptrOld (b o : Nat) : VR n m (.pointer (some ⟨2 * b + 1, o, none⟩)) (.pointer (some ⟨b, o, none⟩))
  | slNil : VR n m (.slice none 0 0) (.slice none 0 0)
  | slNew (j o l c : Nat) (h : j < n) (hl : l ≤ c) : VR n m (.slice (some ⟨2 * j, o, none⟩) l c) (.slice (some ⟨(m j).B, o + (m j).s, none⟩) l c)
  | slOld (b o l c : Nat) (hl : l ≤ c) : VR n m (.slice (some ⟨2 * b + 1, o, none⟩) l c) (.slice (some ⟨b, o, none⟩) l c)
  | slOldE (b o c : Nat) (a : Addr) : VR n m (.slice (some ⟨2 * b + 1, o, none⟩) 0 c) (.slice (some a) 0 c)
  | slLoose (j o l c : Nat) (h : j < n) (hl : l ≤ c) : VR n m (.slice (some ⟨2 * j, o, some 0⟩) l c) (.slice (some ⟨(m j).B, o + (m j).s, none⟩) l (c + (m j).e))
  | slE (j o : Nat) (sp : Option Nat) (a : Addr) (h : j < n) : VR n m (.slice (some ⟨2 * j, o, sp⟩) 0 0) (.slice (some a) 0 0)
  | mapNil : VR n m (.map none) (.map none)
  | nilFunc : VR n m .nilFunc .nilFunc
  | nilIface : VR n m .nilIface .nilIface
  | func (f : FuncId) (xs xs' ys ys' : Array Value) (hx : xs.size = xs'.size) (hX : ∀ i (h1 : i < xs.size) (h2 : i < xs'.size), VR n m xs[i] xs'[i])
      (hy : ys.size = ys'.size) (hY : ∀ i (h1 : i < ys.size) (h2 : i < ys'.size), VR n m ys[i] ys'[i]) : VR n m (.func (.func f) xs ys) (.func (.func f) xs' ys')
  | agg (xs xs' : Array Value) (hx : xs.size = xs'.size) (hX : ∀ i (h1 : i < xs.size) (h2 : i < xs'.size), VR n m xs[i] xs'[i]) : VR n m (.agg xs) (.agg xs')
  | tuple (xs xs' : Array Value) (hx : xs.size = xs'.size) (hX : ∀ i (h1 : i < xs.size) (h2 : i < xs'.size), VR n m xs[i] xs'[i]) : VR n m (.tuple xs) (.tuple xs')

def VRs (n : Nat) (m : Nat → Loc) (xs ys : Array Value) : Prop := xs.size = ys.size ∧ ∀ i (h1 : i < xs.size) (h2 : i < ys.size), VR n m xs[i] ys[i]
def VRl (n : Nat) (m : Nat → Loc) (xs ys : List Value) : Prop := xs.length = ys.length ∧ ∀ i (h1 : i < xs.length) (h2 : i < ys.length), VR n m xs[i] ys[i]

theorem VR.mono {n n' : Nat} {m m' : Nat → Loc} {u v : Value} (h : VR n m u v) (hn : n ≤ n') (hm : ∀ j, j < n → m' j = m j) : VR n' m' u v := by
  induction h with
  | bool b => exact .bool b
  | int k x => exact .int k x
  | string s => exact .string s
  | ptrNil => exact .ptrNil
  | ptrNew j o h => rw [← hm j h]; exact .ptrNew j o (by omega)
  | ptrOld b o => exact .ptrOld b o
  | slNil => exact .slNil
  | slNew j o l c h hl => rw [← hm j h]; exact .slNew j o l c (by omega) hl
  | slOld b o l c hl => exact .slOld b o l c hl
  | slOldE b o c a => exact .slOldE b o c a
  | slLoose j o l c h hl => rw [← hm j h]; exact .slLoose j o l c (by omega) hl
  | slE j o sp a h => exact .slE j o sp a (by omega)
  | mapNil => exact .mapNil
  | nilFunc => exact .nilFunc
  | nilIface => exact .nilIface
  | func f xs xs' ys ys' hx _ hy _ ihX ihY => exact .func f xs xs' ys ys' hx ihX hy ihY
  | agg xs xs' hx _ ih => exact .agg xs xs' hx ih
  | tuple xs xs' hx _ ih => exact .tuple xs xs' hx ih

theorem VRs.mono {n n' : Nat} {m m' : Nat → Loc} {u v : Array Value} (h : VRs n m u v) (hn : n ≤ n') (hm : ∀ j, j < n → m' j = m j) : VRs n' m' u v :=
  ⟨h.1, fun i h1 h2 => (h.2 i h1 h2).mono hn hm⟩
theorem VRl.mono {n n' : Nat} {m m' : Nat → Loc} {u v : List Value} (h : VRl n m u v) (hn : n ≤ n') (hm : ∀ j, j < n → m' j = m j) : VRl n' m' u v :=
  ⟨h.1, fun i h1 h2 => (h.2 i h1 h2).mono hn hm⟩

theorem ext_of_closed {k : Nat} {n : Nat} {m : Nat → Loc} {xs xs' : Array Value} (ih : ∀ u v, closedN k u = true → VR n m u v → u = v)
    (hc : xs.toList.all (closedN k) = true) (hx : xs.size = xs'.size) (hX : ∀ i (h1 : i < xs.size) (h2 : i < xs'.size), VR n m xs[i] xs'[i]) : xs = xs' := by
  apply Array.ext hx
  intro i h1 h2
  exact ih _ _ (List.all_eq_true.1 hc _ (by simp)) (hX i h1 h2)

theorem VR.eq_of_closedN {n : Nat} {m : Nat → Loc} : ∀ (k : Nat) (u v : Value), closedN k u = true → VR n m u v → u = v
  | 0, _, _, hc, _ => by simp [closedN] at hc
  | k + 1, u, v, hc, h => by
    have ih := VR.eq_of_closedN (n := n) (m := m) k
    cases h <;> first | rfl | (simp [closedN] at hc; done) | skip
    case func f xs xs' ys ys' hx hX hy hY =>
      simp only [closedN, Bool.and_eq_true] at hc
      rw [ext_of_closed ih hc.1 hx hX, ext_of_closed ih hc.2 hy hY]
    case agg xs xs' hx hX => simp only [closedN] at hc; rw [ext_of_closed ih hc hx hX]
    case tuple xs xs' hx hX => simp only [closedN] at hc; rw [ext_of_closed ih hc hx hX]

theorem VR.refl_of_closedN {n : Nat} {m : Nat → Loc} : ∀ (k : Nat) (u : Value), closedN k u = true → VR n m u u
  | 0, _, hc => by simp [closedN] at hc
  | k + 1, u, hc => by
    have ih := VR.refl_of_closedN (n := n) (m := m) k
    unfold closedN at hc
    split at hc
    · exact .bool _
    · exact .int _ _
    · exact .string _
    · exact .ptrNil
    · exact .slNil
    · exact .mapNil
    · exact .nilFunc
    · exact .nilIface
    · exact .agg _ _ rfl fun i h1 _ => ih _ (List.all_eq_true.1 hc _ (by simp))
    · exact .tuple _ _ rfl fun i h1 _ => ih _ (List.all_eq_true.1 hc _ (by simp))
    · simp only [Bool.and_eq_true] at hc
      exact .func _ _ _ _ _ rfl (fun i h1 _ => ih _ (List.all_eq_true.1 hc.1 _ (by simp))) rfl (fun i h1 _ => ih _ (List.all_eq_true.1 hc.2 _ (by simp)))
    · simp at hc

theorem closed_of_plainN : ∀ (k : Nat) (u : Value), plainN k u = true → closedN k u = true
  | 0, _, h => by simp [plainN] at h
  | k + 1, u, h => by
    unfold plainN at h
    unfold closedN
    split at h
    · rfl
    · rfl
    · rfl
    · exact List.all_eq_true.2 fun v hv => closed_of_plainN k v (List.all_eq_true.1 h v hv)
    · exact List.all_eq_true.2 fun v hv => closed_of_plainN k v (List.all_eq_true.1 h v hv)
    · cases h
theorem closed_of_plain {u : Value} (h : plain u = true) : closed u = true := closed_of_plainN 4 u h
theorem VR.eq_of_closed {n : Nat} {m : Nat → Loc} {u v : Value} (hc : closed u = true) (h : VR n m u v) : u = v := VR.eq_of_closedN 4 u v hc h
theorem VR.refl_of_closed {n : Nat} {m : Nat → Loc} {u : Value} (hc : closed u = true) : VR n m u u := VR.refl_of_closedN 4 u hc
theorem VR.undef {n : Nat} {m : Nat → Loc} : VR n m undef undef := VR.refl_of_closed rfl

theorem nw_run (P : Program) {α : Type} : ∀ (s : Sem α) (a : α), nw P s = some a → ∀ w, s.run P w = .ok a w
  | .pure a, b, h, w => by simp only [nw, Option.some.injEq] at h; subst h; rfl
  | .program k, b, h, w => by simp only [nw] at h; exact nw_run P (k P) b h w
  | .mark _ k, b, h, w => by simp only [nw] at h; exact nw_run P k b h w
  | .load .., _, h, _ | .store .., _, h, _ | .new .., _, h, _ | .shape .., _, h, _ | .freeze .., _, h, _ | .frozen .., _, h, _ | .getObj .., _, h, _
  | .setObj .., _, h, _ | .choose .., _, h, _ | .sys .., _, h, _ | .halt _, _, h, _ => by simp [nw] at h

theorem VR.cells {n : Nat} {m : Nat → Loc} {u v : Value} (h : VR n m u v) : VRs n m u.cells v.cells := by
  cases h <;> first
    | (rename_i hx hX; exact ⟨hx, hX⟩)
    | (refine ⟨rfl, fun i h1 h2 => ?_⟩
       have h0 : i = 0 := by simp [Value.cells] at h1; omega
       subst h0
       first | exact .bool _ | exact .int _ _ | exact .string _ | exact .ptrNil | exact .ptrNew _ _ ‹_› | exact .ptrOld _ _ | exact .slNil | exact .slNew _ _ _ _ ‹_› ‹_› | exact .slOld _ _ _ _ ‹_›
             | exact .slOldE _ _ _ _ | exact .slLoose _ _ _ _ ‹_› ‹_› | exact .slE _ _ _ _ ‹_› | exact .mapNil | exact .nilFunc | exact .nilIface | exact .tuple _ _ ‹_› ‹_› | exact .func _ _ _ _ _ ‹_› ‹_› ‹_› ‹_›)

theorem VR.oneCell {n : Nat} {m : Nat → Loc} {u v : Value} (h : VR n m u v) (h1 : oneCell u = true) : v.oneCell' = true := by
  cases h <;> first | rfl | (simp [Sim.oneCell] at h1)

theorem VRs.empty {n : Nat} {m : Nat → Loc} : VRs n m #[] #[] := ⟨rfl, fun i h => by simp at h⟩
theorem VRs.push {n : Nat} {m : Nat → Loc} {xs ys : Array Value} {u v : Value} (h : VRs n m xs ys) (hv : VR n m u v) : VRs n m (xs.push u) (ys.push v) := by
  refine ⟨by simp [h.1], fun i h1 h2 => ?_⟩
  simp only [Array.getElem_push]
  have := h.1
  by_cases hi : i < xs.size
  · simp only [hi, dif_pos (show i < ys.size by omega), dif_pos]; exact h.2 i hi (by omega)
  · simp only [hi, dif_neg (show ¬ i < ys.size by omega), dif_neg, not_false_eq_true]; exact hv
theorem VRs.set {n : Nat} {m : Nat → Loc} {xs ys : Array Value} {u v : Value} (h : VRs n m xs ys) (i : Nat) (hv : VR n m u v) : VRs n m (xs.setIfInBounds i u) (ys.setIfInBounds i v) := by
  refine ⟨by simp [h.1], fun j h1 h2 => ?_⟩
  simp only [Array.size_setIfInBounds] at h1 h2
  rw [Array.getElem_setIfInBounds h1, Array.getElem_setIfInBounds h2]
  by_cases hij : i = j
  · simp only [hij, if_true]; exact hv
  · simp only [hij, if_false]; exact h.2 j h1 h2
theorem VRs.getD {n : Nat} {m : Nat → Loc} {xs ys : Array Value} (h : VRs n m xs ys) (i : Nat) : VR n m (xs.getD i undef) (ys.getD i undef) := by
  by_cases hi : i < xs.size
  · have h2 : i < ys.size := by have := h.1; omega
    simp only [Array.getD_eq_getD_getElem?, Array.getElem?_eq_getElem hi, Array.getElem?_eq_getElem h2, Option.getD_some]; exact h.2 i hi h2
  · have h2 : ¬ i < ys.size := by have := h.1; omega
    simp only [Array.getD_eq_getD_getElem?, Array.getElem?_eq_none (Nat.le_of_not_lt hi), Array.getElem?_eq_none (Nat.le_of_not_lt h2), Option.getD_none]; exact VR.undef
theorem VRs.get? {n : Nat} {m : Nat → Loc} {xs ys : Array Value} (h : VRs n m xs ys) {i : Nat} {u : Value} (hu : xs[i]? = some u) : ∃ v, ys[i]? = some v ∧ VR n m u v := by
  obtain ⟨hi, rfl⟩ := Array.getElem?_eq_some_iff.1 hu
  have h2 : i < ys.size := by have := h.1; omega
  exact ⟨ys[i], Array.getElem?_eq_getElem h2, h.2 i hi h2⟩
theorem VRs.append {n : Nat} {m : Nat → Loc} {xs ys xs' ys' : Array Value} (h : VRs n m xs ys) (h' : VRs n m xs' ys') : VRs n m (xs ++ xs') (ys ++ ys') := by
  have e := h.1; have e' := h'.1
  refine ⟨by simp [e, e'], fun i h1 h2 => ?_⟩
  by_cases hi : i < xs.size
  · rw [Array.getElem_append_left hi, Array.getElem_append_left (by omega)]; exact h.2 i hi (by omega)
  · simp only [Array.size_append] at h1 h2
    rw [Array.getElem_append_right (by omega), Array.getElem_append_right (by omega)]
    simp only [e]
    exact h'.2 _ (by omega) (by omega)
theorem VRs.map {n : Nat} {m : Nat → Loc} {α : Type} {f g : α → Value} {xs : Array α} (h : ∀ x ∈ xs, VR n m (f x) (g x)) : VRs n m (xs.map f) (xs.map g) :=
  ⟨by simp, fun i h1 h2 => by simp only [Array.getElem_map]; exact h _ (Array.getElem_mem _)⟩
theorem VRs.extract {n : Nat} {m : Nat → Loc} {xs ys : Array Value} (h : VRs n m xs ys) (i j : Nat) : VRs n m (xs.extract i j) (ys.extract i j) := by
  have e := h.1
  refine ⟨by simp [e], fun k h1 h2 => ?_⟩
  simp only [Array.size_extract] at h1 h2
  simp only [Array.getElem_extract]
  exact h.2 _ (by omega) (by omega)
theorem VRs.toList {n : Nat} {m : Nat → Loc} {xs ys : Array Value} (h : VRs n m xs ys) : VRl n m xs.toList ys.toList :=
  ⟨by simpa using h.1, fun i h1 h2 => by simp only [Array.getElem_toList]; exact h.2 i (by simpa using h1) (by simpa using h2)⟩
theorem VRl.toArray {n : Nat} {m : Nat → Loc} {xs ys : List Value} (h : VRl n m xs ys) : VRs n m xs.toArray ys.toArray :=
  ⟨by simpa using h.1, fun i h1 h2 => by simp only [List.getElem_toArray]; exact h.2 i (by simpa using h1) (by simpa using h2)⟩
theorem VRl.nil {n : Nat} {m : Nat → Loc} : VRl n m [] [] := ⟨rfl, fun i h => by simp at h⟩
theorem VRl.cons {n : Nat} {m : Nat → Loc} {u v : Value} {xs ys : List Value} (hv : VR n m u v) (h : VRl n m xs ys) : VRl n m (u :: xs) (v :: ys) :=
  ⟨by simp [h.1], fun i h1 h2 => by
    cases i with
    | zero => exact hv
    | succ i => exact h.2 i (by simpa using h1) (by simpa using h2)⟩
theorem VRl.append {n : Nat} {m : Nat → Loc} {xs ys xs' ys' : List Value} (h : VRl n m xs ys) (h' : VRl n m xs' ys') : VRl n m (xs ++ xs') (ys ++ ys') := by
  have := (VRs.append h.toArray h'.toArray).toList
  simpa using this
theorem VRl.tail {n : Nat} {m : Nat → Loc} {u : Value} {xs ys : List Value} (h : VRl n m (u :: xs) ys) : ∃ v ys', ys = v :: ys' ∧ VR n m u v ∧ VRl n m xs ys' := by
  cases ys with
  | nil => simp [VRl] at h
  | cons v ys =>
    refine ⟨v, ys, rfl, h.2 0 (by simp) (by simp), by simpa using h.1, fun i h1 h2 => h.2 (i + 1) (by simpa using h1) (by simpa using h2)⟩

/-! ### Memory -/
/-- The cell (blk, off) of the abstract memory lies there in the model's. -/
inductive AR (n : Nat) (m : Nat → Loc) : Nat → Nat → Addr → Prop where
  | old (b o : Nat) : AR n m (2 * b + 1) o ⟨b, o, none⟩
  | new (j o : Nat) (h : j < n) : AR n m (2 * j) o ⟨(m j).B, o + (m j).s, none⟩
theorem AR.add {n : Nat} {m : Nat → Loc} {blk o : Nat} {a : Addr} (h : AR n m blk o a) (k : Nat) : AR n m blk (o + k) (a.add k) := by
  cases h with
  | old b => rw [show (⟨b, o, none⟩ : Addr).add k = ⟨b, o + k, none⟩ by unfold Addr.add; split <;> simp_all]; exact .old _ _
  | new j _ h =>
    rw [show (⟨(m j).B, o + (m j).s, none⟩ : Addr).add k = ⟨(m j).B, o + k + (m j).s, none⟩ by unfold Addr.add; split <;> simp_all <;> omega]
    exact .new _ _ h
theorem AR.ptr {n : Nat} {m : Nat → Loc} {blk o : Nat} {a : Addr} (h : AR n m blk o a) : VR n m (.pointer (some ⟨blk, o, none⟩)) (.pointer (some a)) := by
  cases h with
  | old => exact .ptrOld _ _
  | new j _ h => exact .ptrNew _ _ h
theorem ptr_inv {n : Nat} {m : Nat → Loc} {a : Addr} {v : Value} (h : VR n m (.pointer (some a)) v) : ∃ b, v = .pointer (some b) ∧ AR n m a.block a.off b ∧ a.spot = none := by
  cases h with
  | ptrNew j o h => exact ⟨_, rfl, .new _ _ h, rfl⟩
  | ptrOld b o => exact ⟨_, rfl, .old _ _, rfl⟩

/-- What is said of one new block. -/
def BR (P : Program) (n N : Nat) (m : Nat → Loc) (w : World) (l : Loc) : Blk → Prop
  | .cells c t => N ≤ l.B ∧ ∃ C, w.heap[l.B]? = some (.cells C t (0, 0)) ∧ l.s + c.size + l.e * P.cellsOf t ≤ C.size ∧ ∀ i (h1 : i < c.size) (h2 : l.s + i < C.size), VR n m c[i] C[l.s + i]
  | .map .. => False
  | .dead => True
def Blk.live : Blk → Bool
  | .dead => false
  | _ => true

structure HR (P : Program) (M : Mem) (m : Nat → Loc) (w : World) : Prop where
  size : M.base.size ≤ w.heap.size
  base : ∀ b, b < M.base.size → w.heap[b]? = M.base[b]?
  blk : ∀ j b, M.nb[j]? = some b → BR P M.nb.size M.base.size m w (m j) b
  inj : ∀ i j a b, M.nb[i]? = some a → M.nb[j]? = some b → a.live = true → b.live = true → i ≠ j → (m i).B ≠ (m j).B

theorem embV_VR {n : Nat} {m : Nat → Loc} {v u : Value} (h : embV v = some u) : VR n m u v := by
  unfold embV at h
  split at h <;> first | (obtain rfl := Option.some.inj h; first | exact .bool _ | exact .int _ _ | exact .string _ | exact .ptrNil | exact .slNil | exact .nilFunc | exact .nilIface) | skip
  · rename_i a
    split at h
    · rename_i hs
      obtain rfl := Option.some.inj h
      obtain ⟨b, o, sp⟩ := a
      simp at hs; subst hs
      exact .ptrOld b o
    · cases h
  · rename_i a l c
    split at h
    · obtain rfl := Option.some.inj h
      rename_i hl; subst hl
      exact .slOldE 0 0 c a
    · split at h
      · rename_i hs
        obtain rfl := Option.some.inj h
        obtain ⟨b, o, sp⟩ := a
        simp at hs
        obtain ⟨hs, hl⟩ := hs
        subst hs
        exact .slOld b o l c hl
      · cases h
  · cases h

theorem HR.cell {P : Program} {M : Mem} {m : Nat → Loc} {w : World} (h : HR P M m w) {blk o : Nat} {a : Addr} (ha : AR M.nb.size m blk o a) {u : Value} (hu : M.cell blk o = some u) :
    ∃ v, w.cell? a = some v ∧ VR M.nb.size m u v := by
  cases ha with
  | old b =>
    have e1 : (2 * b + 1) % 2 = 1 := by omega
    have e2 : (2 * b + 1) / 2 = b := by omega
    simp only [Mem.cell, e1, e2, if_true] at hu
    split at hu
    · rename_i c t fz hb
      have hlt : b < M.base.size := by
        rcases Nat.lt_or_ge b M.base.size with h' | h'
        · exact h'
        · rw [Array.getElem?_eq_none h'] at hb; cases hb
      obtain ⟨v, hv, hemb⟩ := Option.bind_eq_some_iff.1 hu
      exact ⟨v, by simp [World.cell?, h.base b hlt, hb, hv], embV_VR hemb⟩
    · cases hu
  | new j _ hj =>
    have e1 : ¬ (2 * j) % 2 = 1 := by omega
    have e2 : (2 * j) / 2 = j := by omega
    simp only [Mem.cell, e1, e2, if_false] at hu
    split at hu
    · rename_i c t hb
      obtain ⟨_, C, hC, hs, hV⟩ := h.blk j _ hb
      obtain ⟨hi, rfl⟩ := Array.getElem?_eq_some_iff.1 hu
      have h2 : (m j).s + o < C.size := by omega
      refine ⟨C[(m j).s + o], ?_, hV o hi h2⟩
      simp only [World.cell?, hC]
      rw [show o + (m j).s = (m j).s + o by omega]
      simp [h2]
    · cases hu

theorem HR.cellsN {P : Program} {M : Mem} {m : Nat → Loc} {w : World} (h : HR P M m w) : ∀ (k : Nat) {blk o : Nat} {a : Addr} (_ : AR M.nb.size m blk o a) {l : List Value} (_ : M.cellsN blk o k = some l),
    l.length = k ∧ ∃ L, VRl M.nb.size m l L ∧ ∀ j v, L[j]? = some v → w.cell? (a.add j) = some v
  | 0, _, _, _, _, l, hl => by
    simp only [Mem.cellsN, Option.some.injEq] at hl
    subst hl
    exact ⟨rfl, [], VRl.nil, by simp⟩
  | k + 1, blk, o, a, ha, l, hl => by
    simp only [Mem.cellsN] at hl
    obtain ⟨u, hu, hl⟩ := Option.bind_eq_some_iff.1 hl
    obtain ⟨r, hr, hl⟩ := Option.bind_eq_some_iff.1 hl
    obtain rfl := Option.some.inj hl
    obtain ⟨v, hv, hvr⟩ := h.cell ha hu
    obtain ⟨hlen, L, hL, hcs⟩ := HR.cellsN h k (ha.add 1) hr
    refine ⟨by simp [hlen], v :: L, VRl.cons hvr hL, fun j x hx => ?_⟩
    cases j with
    | zero =>
      simp at hx; subst hx
      rw [show a.add 0 = a by simp [Addr.add]]; exact hv
    | succ j =>
      have h1 := hcs j x (by simpa using hx)
      rw [← h1]
      congr 1
      cases ha <;> (unfold Addr.add; split <;> split <;> split <;> simp_all <;> omega)

theorem run_cellsN {P : Program} {M : Mem} {m : Nat → Loc} {w : World} (h : HR P M m w) {k blk o : Nat} {a : Addr} (ha : AR M.nb.size m blk o a) {l : List Value} (hl : M.cellsN blk o k = some l) :
    ∃ L, VRl M.nb.size m l L ∧ (loadCells a k).run P w = .ok L.toArray w ∧ L.length = k := by
  obtain ⟨hlen, L, hL, hcs⟩ := h.cellsN k ha hl
  have e : L.length = k := by rw [← hL.1, hlen]
  exact ⟨L, hL, by rw [← e]; exact run_loadCells_list w a L hcs, e⟩

end Go.Sim
