/- The abstract machine 'Sim': rows of cells in its memory: how they are read, written and grown. -/
import Derived.Test.YtbbdggpfhcgbpaaZsN
set_option linter.unusedSimpArgs false
set_option linter.unusedVariables false
namespace Go.Sim
open Go Go.RowKit

/-- Only blocks of S have changed; new ones may be there. -/
structure Chg (S : Nat → Prop) (M M' : Mem) : Prop where
  base : M'.base = M.base
  floor : M'.floor = M.floor
  size : M.nb.size ≤ M'.nb.size
  same : ∀ j, j < M.nb.size → ¬ S j → M'.nb[j]? = M.nb[j]?
abbrev Keep (M M' : Mem) : Prop := Chg (fun _ => False) M M'

theorem Chg.refl {S : Nat → Prop} (M : Mem) : Chg S M M := ⟨rfl, rfl, Nat.le_refl _, fun _ _ _ => rfl⟩
theorem Chg.trans {S : Nat → Prop} {M1 M2 M3 : Mem} (h : Chg S M1 M2) (k : Chg S M2 M3) : Chg S M1 M3 :=
  ⟨k.base.trans h.base, k.floor.trans h.floor, Nat.le_trans h.size k.size, fun j hj hs => (k.same j (Nat.lt_of_lt_of_le hj h.size) hs).trans (h.same j hj hs)⟩
theorem Chg.mono {S T : Nat → Prop} {M M' : Mem} (h : Chg S M M') (hS : ∀ j, j < M.nb.size → S j → T j) : Chg T M M' :=
  ⟨h.base, h.floor, h.size, fun j hj ht => h.same j hj fun hs => ht (hS j hj hs)⟩
/-- What is not new for the first memory is as it was. -/
theorem Keep.step {S : Nat → Prop} {M0 M M' : Mem} (h : Keep M0 M) (k : Chg S M M') (hS : ∀ j, S j → M0.nb.size ≤ j) : Keep M0 M' :=
  ⟨k.base.trans h.base, k.floor.trans h.floor, Nat.le_trans h.size k.size, fun j hj _ => (k.same j (Nat.lt_of_lt_of_le hj h.size) fun hs => by have := hS j hs; omega).trans (h.same j hj fun x => x)⟩
theorem Chg.new {S : Nat → Prop} (M : Mem) (b : Blk) : Chg S M (M.new b) :=
  ⟨rfl, rfl, by simp [Mem.new], fun j hj _ => by simp [Mem.new, Array.getElem?_push, Nat.ne_of_lt hj]⟩
theorem Mem.new_size (M : Mem) (b : Blk) : (M.new b).nb.size = M.nb.size + 1 := by simp [Mem.new]
theorem Mem.new_at (M : Mem) (b : Blk) : (M.new b).nb[M.nb.size]? = some b := by simp [Mem.new]
theorem Mem.kill_chg {S : Nat → Prop} {M : Mem} {j : Nat} (hf : M.floor ≤ j) (hS : S j) : ∃ M', M.kill j = some M' ∧ Chg S M M' ∧ M'.nb.size = M.nb.size := by
  refine ⟨{ M with nb := M.nb.setIfInBounds j .dead }, ?_, ⟨rfl, rfl, by simp, fun i hi hs => ?_⟩, by simp⟩
  · simp only [Mem.kill]; rw [if_neg (by omega)]
  · have : j ≠ i := fun e => hs (e ▸ hS)
    simp [Array.getElem?_setIfInBounds, this]

/-- The cells of a row that can be read. -/
def Row (M : Mem) (A : Option Addr) (L : List Value) : Prop := ∀ i (h : i < L.length), ∃ a, A = some a ∧ M.cell a.block (a.off + i) = some L[i]

theorem Row.cellsN {M : Mem} {a : Addr} : ∀ {L : List Value} {o : Nat}, (∀ i (h : i < L.length), M.cell a.block (o + i) = some L[i]) → M.cellsN a.block o L.length = some L
  | [], o, _ => rfl
  | v :: L, o, h => by
    have h0 := h 0 (by simp)
    simp only [Nat.add_zero, List.getElem_cons_zero] at h0
    have h1 := Row.cellsN (M := M) (a := a) (L := L) (o := o + 1) fun i hi => by
      have := h (i + 1) (by simp; omega)
      rw [show o + 1 + i = o + (i + 1) by omega]; simpa using this
    simp only [List.length_cons, Mem.cellsN, h0, Option.bind_some, h1]
theorem Row.src {M : Mem} {A : Option Addr} {L : List Value} (h : Row M A L) : M.src A L.length = some L := by
  cases A with
  | none =>
    cases L with
    | nil => rfl
    | cons v L => obtain ⟨a, ha, _⟩ := h 0 (by simp); cases ha
  | some a =>
    refine Row.cellsN fun i hi => ?_
    obtain ⟨b, hb, hc⟩ := h i hi
    obtain rfl := Option.some.inj hb
    exact hc

/-- A row of new memory: its block is of S, it holds c cells at least, the first ones are L. -/
def Own (S : Nat → Prop) (M : Mem) (e : TypeId) (A : Option Addr) (c : Nat) (L : List Value) : Prop :=
  (A = none ∧ L = [] ∧ c = 0) ∨ ∃ j cs sp, A = some ⟨2 * j, 0, sp⟩ ∧ (sp = none ∨ sp = some 0) ∧ S j ∧ M.nb[j]? = some (.cells cs e) ∧ cs.toList.take L.length = L ∧ L.length ≤ c ∧ c ≤ cs.size

theorem Own.mono {S T : Nat → Prop} {M : Mem} {e : TypeId} {A : Option Addr} {c : Nat} {L : List Value} (h : Own S M e A c L) (hS : ∀ j, j < M.nb.size → S j → T j) : Own T M e A c L := by
  rcases h with h | ⟨j, cs, sp, h1, h2, h3, h4, h5⟩
  · exact .inl h
  · exact .inr ⟨j, cs, sp, h1, h2, hS j (by have := (Array.getElem?_eq_some_iff.1 h4).1; exact this) h3, h4, h5⟩
theorem Own.chg {S T : Nat → Prop} {M M' : Mem} {e : TypeId} {A : Option Addr} {c : Nat} {L : List Value} (h : Own S M e A c L) (k : Chg T M M') (hd : ∀ j, j < M.nb.size → S j → ¬ T j) : Own S M' e A c L := by
  rcases h with h | ⟨j, cs, sp, h1, h2, h3, h4, h5⟩
  · exact .inl h
  · have hj := (Array.getElem?_eq_some_iff.1 h4).1
    exact .inr ⟨j, cs, sp, h1, h2, h3, by rw [k.same j hj (hd j hj h3)]; exact h4, h5⟩
theorem cell_new {M : Mem} {j o : Nat} : M.cell (2 * j) o = match M.nb[j]? with | some (.cells c _) => c[o]? | _ => none := by
  unfold Mem.cell
  rw [if_neg (by omega), show 2 * j / 2 = j by omega]
  cases M.nb[j]? with
  | none => rfl
  | some b => cases b <;> rfl
theorem Own.row {S : Nat → Prop} {M : Mem} {e : TypeId} {A : Option Addr} {c : Nat} {L : List Value} (h : Own S M e A c L) : Row M A L := by
  intro i hi
  rcases h with ⟨_, rfl, _⟩ | ⟨j, cs, sp, h1, h2, h3, h4, h5, h6⟩
  · simp at hi
  · refine ⟨_, h1, ?_⟩
    simp only [cell_new, h4, Nat.zero_add]
    have e : L[i] = (cs.toList.take L.length)[i]'(by rw [h5]; exact hi) := by congr 1; exact h5.symm
    rw [e, List.getElem_take]
    have : i < cs.size := by omega
    simp [this]
theorem Own.cap {S : Nat → Prop} {M : Mem} {e : TypeId} {A : Option Addr} {c : Nat} {L : List Value} (h : Own S M e A c L) : L.length ≤ c := by
  rcases h with ⟨_, rfl, _⟩ | ⟨j, cs, sp, h1, h2, h3, h4, h5, h6, h7⟩
  · simp
  · exact h6

/-- A slice type of elements of one cell. -/
structure Elem (P : Program) (t e : TypeId) (b : Nat) (z : Value) : Prop where
  slice : P.underlying t = some (.slice e)
  look : ((P.info? e).map fun i => (i.zero, i.size, i.bytes)) = some (some z, 1, b)
  cells : z.cells = #[z]
  closed : closed z = true
  pos : 0 < b ∧ b ≤ 16
theorem Elem.info {P : Program} {t e : TypeId} {b : Nat} {z : Value} (h : Elem P t e b z) : ∃ i, P.info? e = some i ∧ i.zero = some z ∧ i.size = 1 ∧ i.bytes = b := by
  obtain ⟨i, h1, h2⟩ := Option.map_eq_some_iff.1 h.look
  simp only [Prod.mk.injEq] at h2
  exact ⟨i, h1, h2⟩
theorem Elem.size {P : Program} {t e : TypeId} {b : Nat} {z : Value} (h : Elem P t e b z) : sizeP P e = some 1 := by
  obtain ⟨i, h1, h2, h4, h5⟩ := h.info
  simp only [sizeP, h1, Option.map_some, h4]

theorem take_append_set {L : List Value} {cs : List Value} {v : Value} (h : cs.take L.length = L) (hl : L.length < cs.length) : (cs.set L.length v).take (L.length + 1) = L ++ [v] := by
  refine List.ext_getElem? fun i => ?_
  simp only [List.getElem?_take, List.getElem?_append]
  have hi : ∀ i, i < L.length → cs[i]? = L[i]? := fun i hi => by
    have h2 : (cs.take L.length)[i]? = L[i]? := by rw [h]
    rw [List.getElem?_take, if_pos hi] at h2; exact h2
  by_cases h1 : i < L.length
  · rw [if_pos (by omega), if_pos h1, List.getElem?_set_ne (by omega), hi i h1]
  · by_cases h2 : i = L.length
    · subst h2; rw [if_pos (by omega), if_neg (by omega), List.getElem?_set_self hl]; simp
    · rw [if_neg (by omega), if_neg h1]; simp; omega

/-- The memory behind a put. -/
theorem put_chg {S : Nat → Prop} {M : Mem} {j o : Nat} {v : Value} {cs : Array Value} {e : TypeId} (hS : S j) (hf : M.floor ≤ j) (hc : M.nb[j]? = some (.cells cs e)) (ho : o < cs.size) (hv : oneCell v = true) :
    ∃ M', M.put (2 * j) o v = some M' ∧ Chg S M M' ∧ M'.nb.size = M.nb.size ∧ M'.nb[j]? = some (.cells (cs.setIfInBounds o v) e) := by
  have hj := (Array.getElem?_eq_some_iff.1 hc).1
  refine ⟨{ M with nb := M.nb.setIfInBounds j (.cells (cs.setIfInBounds o v) e) }, ?_, ⟨rfl, rfl, by simp, fun i hi hs => ?_⟩, by simp, ?_⟩
  · unfold Mem.put
    rw [if_neg (by omega), show 2 * j / 2 = j by omega, if_neg (by omega), if_pos hv, hc]
    simp only [ho, if_true]
  · have : j ≠ i := fun x => hs (x ▸ hS)
    simp [Array.getElem?_setIfInBounds, this]
  · simp [Array.getElem?_setIfInBounds, hj]

/-- One cell is appended. -/
theorem append1 {P : Program} {t e : TypeId} {b : Nat} {z : Value} (hE : Elem P t e b z) {S : Nat → Prop} {M0 M : Mem} {A : Option Addr} {n c : Nat} {L : List Value} {v : Value}
    (hO : Own S M e A c L) (hn : n = L.length) (hS : ∀ j, S j → M.floor ≤ j) (hS2 : S (M.nb.size + 1)) (hv : oneCell v = true) (hb : (n + 1) * b ≤ 140737488355328) :
    ∃ A' c' M', appendP P #[t, t] (.slice A n c) (.slice (some ⟨2 * M.nb.size, 0, none⟩) 1 1) (M.new (.cells #[v] e)) = some (.slice A' (n + 1) c', M') ∧ Chg S M M' ∧ Own S M' e A' c' (L ++ [v]) := by
  obtain ⟨i, h1, h2, h4, h5⟩ := hE.info
  have h3 : z.cells.size = 1 := by rw [hE.cells]; rfl
  have hsl := hE.slice
  have hN : Chg S M (M.new (.cells #[v] e)) := .new _ _
  have hO' : Own S (M.new (.cells #[v] e)) e A c L := hO.chg (T := fun _ => False) (.new _ _) fun _ _ _ h => h
  have hsrc : (M.new (.cells #[v] e)).src (some ⟨2 * M.nb.size, 0, none⟩) (1 * 1) = some [v] := by
    refine Row.src (L := [v]) fun i hi => ⟨_, rfl, ?_⟩
    simp at hi; subst hi
    simp only [cell_new, Mem.new_at]; simp
  have hlen := hO.cap
  unfold appendP
  simp only [Array.getElem?_eq_getElem, List.size_toArray, List.length_cons, List.length_nil, Nat.zero_add, Nat.reduceLT, Nat.reduceAdd, List.getElem_toArray, List.getElem_cons_zero, List.getElem_cons_succ, Option.bind_some, hsl, h1, h2, h3, h4, h5]
  have hp1 := hE.pos.1
  have hp2 := hE.pos.2
  rw [if_pos (by refine ⟨?_, ?_, ?_, ?_⟩ <;> first | trivial | omega), hsrc]
  simp only [Option.bind_some]
  by_cases hc : n + 1 ≤ c
  · rw [if_pos hc]
    rcases hO' with ⟨_, _, hc0⟩ | ⟨j, cs, sp, g1, g2, g3, g4, g5, g6, g7⟩
    · omega
    · subst g1
      obtain ⟨M', p1, p2, p3, p4⟩ := put_chg (S := S) (M := M.new (.cells #[v] e)) (o := 0 + n * 1) g3 (hS j g3) g4 (by omega) hv
      refine ⟨some ⟨2 * j, 0, sp⟩, c, M', by simp only [Mem.putN, p1, Option.bind_some, Option.map_some], hN.trans p2, .inr ⟨j, _, sp, rfl, g2, g3, p4, ?_, ?_, ?_⟩⟩
      · have := take_append_set (v := v) g5 (by simpa using (by omega : L.length < cs.size))
        simpa [hn] using this
      · simp; omega
      · simpa using g7
  · rw [if_neg hc, if_pos (by simpa using hb)]
    have hsrc2 : (M.new (.cells #[v] e)).src A (n * 1) = some L := by
      have := hO'.row.src; rw [hn, Nat.mul_one]; exact this
    rw [hsrc2]; simp only [Option.bind_some]
    have key : ∃ M', (M.new (.cells #[v] e)).leave A e (c * 1) [v] = some M' ∧ Chg S (M.new (.cells #[v] e)) M' ∧ M'.nb.size = M.nb.size + 1 := by
      rcases hO' with ⟨rfl, _, hc0⟩ | ⟨j, cs, sp, rfl, g2, g3, g4, g5, g6, g7⟩
      · exact ⟨_, rfl, .refl _, Mem.new_size _ _⟩
      · unfold Mem.leave
        by_cases hs : sp = none
        · simp only [hs, or_true, if_true]; exact ⟨_, rfl, .refl _, Mem.new_size _ _⟩
        · simp only [hs, or_false]
          rw [if_neg (by omega), show 2 * j / 2 = j by omega, g4]
          simp only [Nat.zero_add, Nat.mul_one, g7, List.all_cons, hv, List.all_nil, Bool.and_self, and_self, if_true]
          obtain ⟨M', k1, k2, k3⟩ := Mem.kill_chg (S := S) (M := M.new (.cells #[v] e)) (hS j g3) g3
          exact ⟨M', k1, k2, k3.trans (Mem.new_size _ _)⟩
    obtain ⟨M', k1, k2, k3⟩ := key
    rw [k1]; simp only [Option.bind_some]
    refine ⟨_, _, _, rfl, (hN.trans k2).trans (.new _ _), .inr ⟨M.nb.size + 1, (L ++ [v]).toArray, some 0, by rw [Mem.new_size], .inr rfl, hS2, ?_, ?_, ?_, ?_⟩⟩
    · rw [← k3]; exact Mem.new_at _ _
    · rw [List.take_length]
    · simp; omega
    · simp; omega

/-- A slice's cell's address. -/
theorem index_of {P : Program} {t e : TypeId} {b : Nat} {z : Value} (hE : Elem P t e b z) {a : Addr} {n c : Nat} {k : IntKind} {i : Int} (h0 : 0 ≤ i) (hn : i < n) :
    indexAddrP P t (.slice (some a) n c) (.int k i) = some (.pointer (some ⟨a.block, a.off + i.toNat, none⟩)) := by
  simp only [indexAddrP, hE.slice, hE.size, Option.bind_some, Nat.mul_one]
  rw [if_pos ⟨h0, hn⟩]
/-- A cell of a row is read. -/
theorem Row.rd {P : Program} {t e : TypeId} {b : Nat} {z : Value} (hE : Elem P t e b z) {M : Mem} {A : Option Addr} {L : List Value} (hR : Row M A L) {n c : Nat} {k kk : IntKind} {i x : Int} {C : Int → Prop}
    (hn : n = L.length) (h0 : 0 ≤ i) (hi : i < n) (hx : L[i.toNat]? = some (.int kk x)) (h : C x) :
    ∃ v, indexAddrP P t (.slice A n c) (.int k i) = some v ∧ ∃ p, asP v = some p ∧ ∃ a, p = some a ∧ ∃ x, M.intAt kk a.block a.off = some x ∧ C x := by
  obtain ⟨hlt, hx⟩ := List.getElem?_eq_some_iff.1 hx
  obtain ⟨a, rfl, ha⟩ := hR i.toNat hlt
  refine ⟨_, index_of hE h0 hi, _, rfl, _, rfl, x, ?_, h⟩
  simp only [Mem.intAt, ha, Option.bind_some, hx, asI, if_true]
/-- A cell of a new row is written. -/
theorem Own.wr {P : Program} {t e : TypeId} {b : Nat} {z : Value} (hE : Elem P t e b z) {S : Nat → Prop} {M : Mem} {A : Option Addr} {L : List Value} {n c : Nat} {k : IntKind} {i : Int} {v : Value} {C : Mem → Prop}
    (hO : Own S M e A c L) (hS : ∀ j, S j → M.floor ≤ j) (hn : n = L.length) (h0 : 0 ≤ i) (hi : i < n) (hv : oneCell v = true) (h : ∀ M', Chg S M M' → M'.nb.size = M.nb.size → Own S M' e A c (L.set i.toNat v) → C M') :
    ∃ u, indexAddrP P t (.slice A n c) (.int k i) = some u ∧ ∃ p, asP u = some p ∧ ∃ a, p = some a ∧ ∃ M', M.put a.block a.off v = some M' ∧ C M' := by
  rcases hO with ⟨rfl, rfl, rfl⟩ | ⟨j, cs, sp, rfl, g2, g3, g4, g5, g6, g7⟩
  · simp at hn; omega
  · obtain ⟨M', p1, p2, p3, p4⟩ := put_chg (S := S) (o := 0 + i.toNat) g3 (hS j g3) g4 (by omega) hv
    refine ⟨_, index_of hE h0 hi, _, rfl, _, rfl, M', p1, h M' p2 p3 (.inr ⟨j, _, sp, rfl, g2, g3, p4, ?_, ?_, ?_⟩)⟩
    · rw [Nat.zero_add, Array.toList_setIfInBounds, List.length_set, List.take_set, g5]
    · simpa using g6
    · simpa using g7
theorem zeroRow_one (z : Value) (k : Nat) : zeroRow #[z] k = (List.replicate k z).toArray := by
  unfold zeroRow
  congr 1
  refine List.ext_getElem? fun i => ?_
  simp only [List.getElem?_map, List.getElem?_replicate, List.getElem?_range, List.size_toArray, List.length_cons, List.length_nil]
  by_cases h : i < k
  · simp [h, Nat.mod_one]
  · simp [h]
/-- A row is copied behind nothing. -/
theorem append_nil {P : Program} {t e : TypeId} {b : Nat} {z : Value} (hE : Elem P t e b z) {S : Nat → Prop} {M : Mem} {X : Option Addr} {k c : Nat} {L : List Value}
    (hX : Row M X L) (hk : k = L.length) (hS : S M.nb.size) (hb : k * b ≤ 140737488355328) :
    ∃ A' c' M', appendP P #[t, t] (.slice none 0 0) (.slice X k c) M = some (.slice A' k c', M') ∧ Chg S M M' ∧ Own S M' e A' c' L := by
  obtain ⟨i, h1, h2, h4, h5⟩ := hE.info
  have h3 : z.cells.size = 1 := by rw [hE.cells]; rfl
  have hsl := hE.slice
  have hp1 := hE.pos.1
  have hp2 := hE.pos.2
  have hsrc : M.src X (k * 1) = some L := by rw [hk, Nat.mul_one]; exact hX.src
  unfold appendP
  simp only [Array.getElem?_eq_getElem, List.size_toArray, List.length_cons, List.length_nil, Nat.zero_add, Nat.reduceLT, Nat.reduceAdd, List.getElem_toArray, List.getElem_cons_zero, List.getElem_cons_succ, Option.bind_some, hsl, h1, h2, h3, h4, h5]
  rw [if_pos (by refine ⟨?_, ?_, ?_, ?_⟩ <;> first | trivial | omega), hsrc]
  simp only [Option.bind_some]
  by_cases hc : k ≤ 0
  · have h0 : k = 0 := by omega
    subst h0
    rw [if_pos hc]
    have hL : L = [] := List.length_eq_zero_iff.1 hk.symm
    exact ⟨none, 0, M, by simp, .refl _, .inl ⟨rfl, hL, rfl⟩⟩
  · rw [if_neg hc, if_pos (by simpa using hb)]
    have e0 : M.src none (0 * 1) = some [] := rfl
    rw [e0]
    simp only [Option.bind_some, Mem.leave]
    refine ⟨_, _, _, rfl, .new _ _, .inr ⟨M.nb.size, L.toArray, some 0, rfl, .inr rfl, hS, ?_, ?_, ?_, ?_⟩⟩
    · simpa using Mem.new_at M _
    · simp
    · omega
    · simp; omega
theorem Row.new (M : Mem) (e : TypeId) (L : List Value) : Row (M.new (.cells L.toArray e)) (some ⟨2 * M.nb.size, 0, none⟩) L := by
  intro i hi
  refine ⟨_, rfl, ?_⟩
  simp only [cell_new, Mem.new_at, Nat.zero_add]
  simp [hi]
/-- A row that lies in old memory or in blocks that have not changed. -/
theorem Row.chg {S : Nat → Prop} {M M' : Mem} {A : Option Addr} {L : List Value} (h : Row M A L) (k : Chg S M M') (hS : ∀ a, A = some a → a.block % 2 = 1 ∨ ¬ S (a.block / 2)) : Row M' A L := by
  intro i hi
  obtain ⟨a, ha, hc⟩ := h i hi
  refine ⟨a, ha, ?_⟩
  unfold Mem.cell at hc ⊢
  by_cases ho : a.block % 2 = 1
  · rw [if_pos ho] at hc ⊢; rw [k.base]; exact hc
  · rw [if_neg ho] at hc ⊢
    have hn := (hS a ha).resolve_left ho
    have hlt : a.block / 2 < M.nb.size := by
      by_cases hl : a.block / 2 < M.nb.size
      · exact hl
      · rw [Array.getElem?_eq_none (by omega)] at hc; cases hc
    rw [k.same _ hlt hn]; exact hc
theorem Row.keep {M M' : Mem} {A : Option Addr} {L : List Value} (h : Row M A L) (k : Keep M M') : Row M' A L := h.chg k fun _ _ => .inr fun x => x
/-- A row of zeros is made. -/
theorem make_own {P : Program} {t e : TypeId} {b : Nat} {z : Value} (hE : Elem P t e b z) {S : Nat → Prop} {M : Mem} {k k' : IntKind} {l c : Int} (h0 : 0 ≤ l) (hl : l ≤ c) (hc : c * b ≤ 281474976710656) (hS : S M.nb.size) :
    ∃ A M', makeP P t (.int k l) (.int k' c) M = some (.slice A l.toNat c.toNat, M') ∧ Chg S M M' ∧ M'.nb.size = M.nb.size + 1 ∧ Own S M' e A c.toNat (List.replicate l.toNat z) := by
  obtain ⟨i, h1, h2, h4, h5⟩ := hE.info
  have hp := hE.pos
  refine ⟨_, _, ?_, .new _ (.cells (List.replicate c.toNat z).toArray e), Mem.new_size _ _, .inr ⟨M.nb.size, _, none, rfl, .inl rfl, hS, Mem.new_at _ _, ?_, ?_, ?_⟩⟩
  · simp only [makeP, hE.slice, h1, h2, h4, h5, Option.bind_some, hE.cells, hE.closed, zeroRow_one, Nat.mul_one]
    rw [if_pos (by refine ⟨trivial, ?_, ?_, ?_, h0, hl, hc⟩ <;> first | trivial | rfl | omega)]
  · simp only [List.length_replicate]
    rw [List.take_replicate, Nat.min_eq_left (by omega)]
  · simp; omega
  · simp
end Go.Sim
