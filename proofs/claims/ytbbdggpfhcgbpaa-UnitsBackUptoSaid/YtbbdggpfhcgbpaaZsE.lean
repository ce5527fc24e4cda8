/- The abstract machine 'Sim': new blocks, stores. -/
import Derived.Test.YtbbdggpfhcgbpaaZsD
set_option linter.unusedSimpArgs false
set_option linter.unusedVariables false
namespace Go.Sim
open Go Go.RowKit

section
variable {P : Program} {m : Nat → Loc}

structure Ext (M M' : Mem) (m m' : Nat → Loc) : Prop where
  base : M'.base = M.base
  floor : M'.floor = M.floor
  size : M.nb.size ≤ M'.nb.size
  loc : ∀ j, j < M.nb.size → m' j = m j
theorem Ext.refl (M : Mem) (m : Nat → Loc) : Ext M M m m := ⟨rfl, rfl, Nat.le_refl _, fun _ _ => rfl⟩
theorem Ext.trans {M1 M2 M3 : Mem} {m1 m2 m3 : Nat → Loc} (h : Ext M1 M2 m1 m2) (k : Ext M2 M3 m2 m3) : Ext M1 M3 m1 m3 :=
  ⟨k.base.trans h.base, k.floor.trans h.floor, Nat.le_trans h.size k.size, fun j hj => (k.loc j (Nat.lt_of_lt_of_le hj h.size)).trans (h.loc j hj)⟩
theorem VR.ext {M M' : Mem} {m m' : Nat → Loc} {u v : Value} (h : VR M.nb.size m u v) (e : Ext M M' m m') : VR M'.nb.size m' u v := h.mono e.size e.loc
theorem VRs.ext {M M' : Mem} {m m' : Nat → Loc} {u v : Array Value} (h : VRs M.nb.size m u v) (e : Ext M M' m m') : VRs M'.nb.size m' u v := h.mono e.size e.loc
theorem VRl.ext {M M' : Mem} {m m' : Nat → Loc} {u v : List Value} (h : VRl M.nb.size m u v) (e : Ext M M' m m') : VRl M'.nb.size m' u v := h.mono e.size e.loc

theorem BR.lt {n N : Nat} {w : World} {l : Loc} {b : Blk} (h : BR P n N m w l b) (hl : b.live = true) : l.B < w.heap.size := by
  cases b with
  | cells c t =>
    obtain ⟨_, C, hC, _⟩ := h
    rcases Nat.lt_or_ge l.B w.heap.size with h' | h'
    · exact h'
    · rw [Array.getElem?_eq_none h'] at hC; cases hC
  | map es c => exact h.elim
  | dead => cases hl
theorem BR.mono {n n' N : Nat} {m m' : Nat → Loc} {w w' : World} {l : Loc} {b : Blk} (h : BR P n N m w l b) (hn : n ≤ n') (hm : ∀ j, j < n → m' j = m j)
    (hw : b.live = true → w'.heap[l.B]? = w.heap[l.B]?) : BR P n' N m' w' l b := by
  cases b with
  | cells c t =>
    obtain ⟨h1, C, hC, hs, hV⟩ := h
    exact ⟨h1, C, by rw [hw rfl]; exact hC, hs, fun i a b => (hV i a b).mono hn hm⟩
  | map es c => exact h.elim
  | dead => trivial

def upd (m : Nat → Loc) (k : Nat) (l : Loc) : Nat → Loc := fun j => if j = k then l else m j

theorem HR.below {M : Mem} {w w' : World} (h : HR P M m w) (hb : Below w.heap.size w w') : HR P M m w' where
  size := Nat.le_trans h.size hb.size
  base := fun b hlt => (hb.block b (Nat.lt_of_lt_of_le hlt h.size)).trans (h.base b hlt)
  blk := fun j b hj => (h.blk j b hj).mono (Nat.le_refl _) (fun _ _ => rfl) (fun hl => hb.block _ ((h.blk j b hj).lt hl))
  inj := h.inj
theorem HR.drew {M : Mem} {w : World} (h : HR P M m w) (n : Nat) : HR P M m { w with drawn := n } := ⟨h.size, h.base, fun j b hj => (h.blk j b hj).mono (Nat.le_refl _) (fun _ _ => rfl) (fun _ => rfl), h.inj⟩

/-- A new block; 'e' elements more lie behind. -/
theorem HR.new {M : Mem} {w : World} (h : HR P M m w) {c C : Array Value} {t : TypeId} {e : Nat} (hs : c.size + e * P.cellsOf t ≤ C.size)
    (hV : ∀ i (h1 : i < c.size) (h2 : i < C.size), VR M.nb.size m c[i] C[i]) :
    HR P (M.new (.cells c t)) (upd m M.nb.size ⟨w.heap.size, 0, e⟩) (w.alloc (.cells C t)) ∧ Ext M (M.new (.cells c t)) m (upd m M.nb.size ⟨w.heap.size, 0, e⟩) ∧ Below M.base.size w (w.alloc (.cells C t)) := by
  have hm : ∀ j, j < M.nb.size → upd m M.nb.size ⟨w.heap.size, 0, e⟩ j = m j := fun j hj => by simp [upd, Nat.ne_of_lt hj]
  have hB : Below w.heap.size w (w.alloc (.cells C t)) := (Below.refl _ _).alloc (Nat.le_refl _) _
  refine ⟨⟨?_, ?_, ?_, ?_⟩, ⟨rfl, rfl, by simp [Mem.new], hm⟩, hB.mono h.size⟩
  · exact Nat.le_trans h.size hB.size
  · intro b hb; exact (hB.block b (Nat.lt_of_lt_of_le hb h.size)).trans (h.base b hb)
  · intro j b hj
    simp only [Mem.new, Array.getElem?_push] at hj
    simp only [Mem.new, Array.size_push]
    split at hj
    · rename_i hjn
      obtain rfl := Option.some.inj hj
      subst hjn
      simp only [upd, if_true]
      refine ⟨h.size, C, ?_, by simpa using hs, fun i h1 h2 => ?_⟩
      · show (w.heap.push _)[w.heap.size]? = _; simp
      · have := (hV i h1 (by simpa using h2)).mono (n' := M.nb.size + 1) (Nat.le_succ _) hm
        simpa using this
    · have hlt : j < M.nb.size := by
        rcases Nat.lt_or_ge j M.nb.size with h' | h'
        · exact h'
        · rw [Array.getElem?_eq_none h'] at hj; cases hj
      rw [hm j hlt]
      exact (h.blk j b hj).mono (Nat.le_succ _) hm (fun hl => hB.block _ ((h.blk j b hj).lt hl))
  · intro i j a b hi hj ha hb hij
    simp only [Mem.new, Array.getElem?_push] at hi hj
    split at hi
    · rename_i hin
      split at hj
      · omega
      · rename_i hjn
        have hlt : j < M.nb.size := by
          rcases Nat.lt_or_ge j M.nb.size with h' | h'
          · exact h'
          · rw [Array.getElem?_eq_none h'] at hj; cases hj
        rw [hm j hlt, hin]
        simp only [upd, if_true]
        have := (h.blk j b hj).lt hb
        omega
    · rename_i hin
      have hlt : i < M.nb.size := by
        rcases Nat.lt_or_ge i M.nb.size with h' | h'
        · exact h'
        · rw [Array.getElem?_eq_none h'] at hi; cases hi
      split at hj
      · rename_i hjn
        rw [hm i hlt, hjn]
        simp only [upd, if_true]
        have := (h.blk i a hi).lt ha
        omega
      · have hlt' : j < M.nb.size := by
          rcases Nat.lt_or_ge j M.nb.size with h' | h'
          · exact h'
          · rw [Array.getElem?_eq_none h'] at hj; cases hj
        rw [hm i hlt, hm j hlt']
        exact h.inj i j a b hi hj ha hb hij

theorem VR.newPtr {M : Mem} {w : World} {b : Blk} {e : Nat} : VR (M.new b).nb.size (upd m M.nb.size ⟨w.heap.size, 0, e⟩) (.pointer (some ⟨2 * M.nb.size, 0, none⟩)) (.pointer (some ⟨w.heap.size, 0, none⟩)) := by
  have := VR.ptrNew (n := (M.new b).nb.size) (m := upd m M.nb.size ⟨w.heap.size, 0, e⟩) M.nb.size 0 (by simp [Mem.new])
  simpa [upd] using this
theorem VR.newSl {M : Mem} {w : World} {b : Blk} {e l c : Nat} (h : l ≤ c) : VR (M.new b).nb.size (upd m M.nb.size ⟨w.heap.size, 0, e⟩) (.slice (some ⟨2 * M.nb.size, 0, none⟩) l c) (.slice (some ⟨w.heap.size, 0, none⟩) l c) := by
  have := VR.slNew (n := (M.new b).nb.size) (m := upd m M.nb.size ⟨w.heap.size, 0, e⟩) M.nb.size 0 l c (by simp [Mem.new]) h
  simpa [upd] using this

theorem setCell_at {w : World} {B o : Nat} {C : Array Value} {t : TypeId} {f : Nat × Nat} (h : w.heap[B]? = some (.cells C t f)) (v : Value) :
    (w.setCell ⟨B, o, none⟩ v).heap[B]? = some (.cells (C.setIfInBounds o v) t f) := by
  simp [World.setCell, Array.getElem?_modify, h]

theorem Mem.put_same {M M' : Mem} {blk off : Nat} {u : Value} (h : M.put blk off u = some M') : M'.base = M.base ∧ M'.floor = M.floor ∧ M'.nb.size = M.nb.size := by
  unfold Mem.put at h
  split at h
  · cases h
  · split at h
    · cases h
    · split at h
      · split at h
        · split at h
          · obtain rfl := Option.some.inj h; simp
          · cases h
        · cases h
      · cases h
theorem Mem.putN_same : ∀ {l : List Value} {M M' : Mem} {blk off : Nat}, M.putN blk off l = some M' → M'.base = M.base ∧ M'.floor = M.floor ∧ M'.nb.size = M.nb.size
  | [], M, M', _, _, h => by simp only [Mem.putN, Option.some.injEq] at h; subst h; exact ⟨rfl, rfl, rfl⟩
  | u :: l, M, M', blk, off, h => by
    simp only [Mem.putN] at h
    obtain ⟨M1, h1, h⟩ := Option.bind_eq_some_iff.1 h
    have a := Mem.put_same h1
    have b := Mem.putN_same h
    exact ⟨b.1.trans a.1, b.2.1.trans a.2.1, b.2.2.trans a.2.2⟩

theorem HR.put {M M' : Mem} {w : World} (h : HR P M m w) {blk off : Nat} {a : Addr} (ha : AR M.nb.size m blk off a) {u v : Value} (hv : VR M.nb.size m u v) (hp : M.put blk off u = some M') :
    (store a v).run P w = .ok () (w.setCell a v) ∧ HR P M' m (w.setCell a v) ∧ Below M.base.size w (w.setCell a v) := by
  unfold Mem.put at hp
  split at hp
  · cases hp
  rename_i hodd
  split at hp
  · cases hp
  split at hp
  · rename_i hone
    cases ha with
    | old b => exact absurd (show (2 * b + 1) % 2 = 1 by omega) hodd
    | new j _ hj =>
      simp only [show 2 * j / 2 = j by omega] at hp
      split at hp
      · rename_i c t hb
        split at hp
        · rename_i hoff
          obtain rfl := Option.some.inj hp
          obtain ⟨hN, C, hC, hs, hV⟩ := h.blk j _ hb
          have hlt : off + (m j).s < C.size := by omega
          have hset := setCell_at (o := off + (m j).s) hC v
          have hother : ∀ k, k ≠ (m j).B → (w.setCell ⟨(m j).B, off + (m j).s, none⟩ v).heap[k]? = w.heap[k]? := fun k hk => Below.heap_setCell w _ v k hk
          have hsize : (w.setCell ⟨(m j).B, off + (m j).s, none⟩ v).heap.size = w.heap.size := by simp [World.setCell]
          refine ⟨?_, ⟨?_, ?_, ?_, ?_⟩, ?_⟩
          · rw [run_store P w _ v _ (hv.oneCell hone)]
            simp [World.cell?, World.frozen?, hC, hlt]
          · rw [hsize]; exact h.size
          · intro b hb'
            rw [hother b (by simp only at hb'; omega)]; exact h.base b hb'
          · intro i b hi
            simp only [Array.size_setIfInBounds] at hi ⊢
            rw [Array.getElem?_setIfInBounds] at hi
            split at hi
            · rename_i hij
              subst hij
              obtain rfl := Option.some.inj hi
              refine ⟨hN, _, hset, by simpa using hs, fun k h1 h2 => ?_⟩
              simp only [Array.size_setIfInBounds] at h1 h2
              rw [Array.getElem_setIfInBounds h1, Array.getElem_setIfInBounds h2]
              by_cases hk : off = k
              · subst hk; simp [Nat.add_comm, hv]
              · have hk' : ¬ off + (m j).s = (m j).s + k := by omega
                simp only [hk, hk', if_false]; exact hV k h1 h2
            · rename_i hij
              refine (h.blk i b hi).mono (Nat.le_refl _) (fun _ _ => rfl) (fun hl => hother _ ?_)
              exact fun e => h.inj i j b _ hi hb hl rfl (fun e' => hij e'.symm) e
          · intro i k a b hi hk ha hb' hik
            simp only at hi hk
            have live : ∀ {i : Nat} {a : Blk}, (M.nb.setIfInBounds j (.cells (c.setIfInBounds off u) t))[i]? = some a → a.live = true → ∃ a', M.nb[i]? = some a' ∧ a'.live = true := by
              intro i a hi ha
              rw [Array.getElem?_setIfInBounds] at hi
              split at hi
              · rename_i hij; subst hij; exact ⟨_, hb, rfl⟩
              · exact ⟨a, hi, ha⟩
            obtain ⟨a', h1, h2⟩ := live hi ha
            obtain ⟨b', h3, h4⟩ := live hk hb'
            exact h.inj i k a' b' h1 h3 h2 h4 hik
          · exact ⟨rfl, rfl, rfl, by rw [hsize]; exact Nat.le_refl _, fun k hk => hother k (by omega)⟩
        · cases hp
      · cases hp
  · cases hp

theorem HR.putN : ∀ {l : List Value} {M M' : Mem} {w : World} (_ : HR P M m w) {blk off : Nat} {a : Addr} (_ : AR M.nb.size m blk off a) {L : List Value} (_ : VRl M.nb.size m l L) (i : Nat) (_ : M.putN blk (off + i) l = some M'),
    ∃ w', (storeCells a L i).run P w = .ok () w' ∧ HR P M' m w' ∧ Below M.base.size w w'
  | [], M, M', w, h, blk, off, a, ha, L, hL, i, hp => by
    simp only [Mem.putN, Option.some.injEq] at hp
    subst hp
    have : L = [] := by have := hL.1; exact List.length_eq_zero_iff.1 (by simpa using this.symm)
    subst this
    exact ⟨w, rfl, h, Below.refl _ _⟩
  | u :: l, M, M', w, h, blk, off, a, ha, L, hL, i, hp => by
    obtain ⟨v, L', rfl, hv, hL'⟩ := hL.tail
    simp only [Mem.putN] at hp
    obtain ⟨M1, h1, hp⟩ := Option.bind_eq_some_iff.1 hp
    obtain ⟨hr, hH, hB⟩ := h.put (ha.add i) hv h1
    obtain ⟨e1, e2, e3⟩ := Mem.put_same h1
    obtain ⟨w', hr', hH', hB'⟩ := HR.putN (l := l) hH (by rw [e3]; exact ha) (by rw [e3]; exact hL') (i + 1) (by rw [show off + (i + 1) = off + i + 1 by omega]; exact hp)
    refine ⟨w', ?_, hH', hB.trans (by rw [← e1]; exact hB')⟩
    simp only [storeCells, Sem.run_bind, hr, Result.andThen, hr']

theorem HR.kill {M M' : Mem} {w : World} (h : HR P M m w) {j : Nat} (hk : M.kill j = some M') : HR P M' m w ∧ Ext M M' m m := by
  unfold Mem.kill at hk
  split at hk
  · cases hk
  · obtain rfl := Option.some.inj hk
    refine ⟨⟨h.size, h.base, ?_, ?_⟩, ⟨rfl, rfl, by simp, fun _ _ => rfl⟩⟩
    · intro i b hi
      simp only [Array.size_setIfInBounds]
      rw [Array.getElem?_setIfInBounds] at hi
      split at hi
      · split at hi
        · obtain rfl := Option.some.inj hi; trivial
        · cases hi
      · exact h.blk i b hi
    · intro i k a b hi hk ha hb hik
      rw [Array.getElem?_setIfInBounds] at hi hk
      split at hi
      · split at hi
        · obtain rfl := Option.some.inj hi; cases ha
        · cases hi
      · split at hk
        · split at hk
          · obtain rfl := Option.some.inj hk; cases hb
          · cases hk
        · exact h.inj i k a b hi hk ha hb hik
end
end Go.Sim
