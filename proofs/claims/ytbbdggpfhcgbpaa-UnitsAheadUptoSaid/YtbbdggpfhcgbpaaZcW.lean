/- Layer 19: lists of lists of pieces. -/
import Derived.Test.YtbbdggpfhcgbpaaZcU
set_option linter.unusedSimpArgs false
set_option linter.unusedVariables false
namespace Go.Zt
open Go Go.Sim Go.Proofs Go.RowKit

structure Gr where
  l : List Ob
  A : Option Addr
  c : Nat
abbrev Gr.cell (g : Gr) : Value := .slice g.A g.l.length g.c
abbrev Grs (gs : List Gr) : List Value := gs.map Gr.cell
def Gr.pcs (g : Gr) : List (Int × List Nat) := g.l.map Ob.pc
theorem el37 : ElemS Try.prog 37 24 1 24 (.slice none 0 0) := ⟨by kernel_rfl, by kernel_rfl, rfl, by decide, by decide⟩
/-- A list of lists that can be read. -/
def OgR (M : Mem) (A : Option Addr) (gs : List Gr) : Prop := Row M A (Grs gs) ∧ ∀ g ∈ gs, ObR M g.A g.l
theorem OgR.at {M : Mem} {A : Option Addr} {gs : List Gr} (h : OgR M A gs) {n i : Nat} {z : Int} (hz : z = (i : Int)) (hn : i < n) (hi : i < gs.length) :
    ∃ a, idxA A n 1 z = some a ∧ M.slAt a.block a.off = some (gs[i].A, gs[i].l.length, gs[i].c) := by
  obtain ⟨a, h1, h2⟩ := h.1.elt1 (n := n) (i := i) (z := z) hz hn (by simpa using hi)
  refine ⟨a, h1, ?_⟩
  simp only [Mem.slAt, h2]
  simp [hi]; rfl
/-- The blocks of the row (D), of the last list's row (L), of all else (E). -/
structure Og1 (D E L : Nat → Prop) (b0 : Nat) (M : Mem) (A : Option Addr) (c : Nat) (init : List Gr) (last : Gr) : Prop where
  d : ∀ i, D i → b0 ≤ i ∧ i < M.nb.size ∧ ¬ E i ∧ ¬ L i
  e : ∀ i, E i → b0 ≤ i ∧ i < M.nb.size ∧ ¬ L i
  l : ∀ i, L i → b0 ≤ i ∧ i < M.nb.size
  out : Own D M 24 A c (Grs (init ++ [last]))
  rows : ∀ g ∈ init, Own E M 44 g.A (g.c * 2) (Obs g.l)
  lst : Own L M 44 last.A (last.c * 2) (Obs last.l)
  bods : ∀ g ∈ init ++ [last], ∀ o ∈ g.l, Own E M 5 o.A o.c (U8 o.b)
def Og (b0 : Nat) (M : Mem) (A : Option Addr) (c : Nat) (gs : List Gr) : Prop :=
  (gs = [] ∧ A = none ∧ c = 0) ∨ ∃ init last, gs = init ++ [last] ∧ ∃ D E L, Og1 D E L b0 M A c init last
theorem Og.rd {b0 : Nat} {M : Mem} {A : Option Addr} {c : Nat} {gs : List Gr} (h : Og b0 M A c gs) : OgR M A gs := by
  rcases h with ⟨rfl, rfl, rfl⟩ | ⟨init, last, rfl, D, E, L, h⟩
  · exact ⟨(Own.empty (S := fun _ => False) (e := 24)).row, fun g hg => (by cases hg)⟩
  · refine ⟨h.out.row, fun g hg => ⟨?_, fun o ho => (h.bods g hg o ho).row⟩⟩
    rcases List.mem_append.1 hg with hg | hg
    · exact (h.rows g hg).row
    · obtain rfl := List.mem_singleton.1 hg
      exact h.lst.row
theorem Og.chg {b0 : Nat} {M N : Mem} {A : Option Addr} {c : Nat} {gs : List Gr} (h : Og b0 M A c gs) {T : Nat → Prop} (K : Chg T M N) (hT : ∀ i, b0 ≤ i → i < M.nb.size → ¬ T i) : Og b0 N A c gs := by
  rcases h with h | ⟨init, last, rfl, D, E, L, h⟩
  · exact .inl h
  · have hs := K.size
    refine .inr ⟨init, last, rfl, D, E, L, ⟨fun i hi => ?_, fun i hi => ?_, fun i hi => ?_, h.out.chg K fun i hi hs => hT i (h.d i hs).1 hi, fun g hg => (h.rows g hg).chg K fun i hi hs => hT i (h.e i hs).1 hi, h.lst.chg K fun i hi hs => hT i (h.l i hs).1 hi, fun g hg o ho => (h.bods g hg o ho).chg K fun i hi hs => hT i (h.e i hs).1 hi⟩⟩
    · have := h.d i hi; exact ⟨this.1, by omega, this.2.2⟩
    · have := h.e i hi; exact ⟨this.1, by omega, this.2.2⟩
    · have := h.l i hi; exact ⟨this.1, by omega⟩
theorem Grs_one (gs : List Gr) : (Grs gs).all oneCell = true := by rw [List.all_eq_true]; intro v hv; obtain ⟨x, _, rfl⟩ := List.mem_map.1 hv; rfl
/-- A new list, empty, is appended. -/
theorem Og.unit {b0 : Nat} {M : Mem} {A : Option Addr} {c : Nat} {gs : List Gr} (h : Og b0 M A c gs) (hf : M.floor ≤ b0) (hb0 : b0 ≤ M.nb.size) (hl : gs.length ≤ 4294967296) :
    ∃ A' c' N, appendP Try.prog #[37, 37] (.slice A gs.length c) (.slice (some ⟨2 * M.nb.size, 0, none⟩) 1 1) (M.new (.cells #[.slice none 0 0] 24)) = some (.slice A' (gs.length + 1) c', N) ∧ Chg (fun i => b0 ≤ i) M N ∧ Og b0 N A' c' (gs ++ [⟨[], none, 0⟩]) := by
  have main : ∀ (D E L : Nat → Prop), (∀ i, D i → b0 ≤ i ∧ i < M.nb.size ∧ ¬ E i ∧ ¬ L i) → (∀ i, E i → b0 ≤ i ∧ i < M.nb.size ∧ ¬ L i) → (∀ i, L i → b0 ≤ i ∧ i < M.nb.size) → Own D M 24 A c (Grs gs) →
      (∀ g ∈ gs, Own (fun i => E i ∨ L i) M 44 g.A (g.c * 2) (Obs g.l)) → (∀ g ∈ gs, ∀ o ∈ g.l, Own E M 5 o.A o.c (U8 o.b)) →
      ∃ A' c' N, appendP Try.prog #[37, 37] (.slice A gs.length c) (.slice (some ⟨2 * M.nb.size, 0, none⟩) 1 1) (M.new (.cells #[.slice none 0 0] 24)) = some (.slice A' (gs.length + 1) c', N) ∧ Chg (fun i => b0 ≤ i) M N ∧ Og b0 N A' c' (gs ++ [⟨[], none, 0⟩]) := by
    intro D E L hD hE hL hO hR hB
    obtain ⟨A', c', N, g1, g2, g3, g4⟩ := app1S el37 (S := fun i => D i ∨ M.nb.size ≤ i) (hO.mono fun i _ hi => .inl hi) (n := gs.length) (by simp) (v := .slice none 0 0) (fun i hi => by
      rcases hi with hi | hi
      · have := hD i hi; omega
      · omega) (.inr (Nat.le_refl _)) (.inr (Nat.le_succ _)) rfl (by omega)
    have hs := g2.size
    refine ⟨A', c', N, g1, g2.mono fun i _ hi => ?_, .inr ⟨gs, ⟨[], none, 0⟩, rfl, fun i => (D i ∨ M.nb.size ≤ i) ∧ i < N.nb.size, fun i => E i ∨ L i, fun _ => False, ⟨fun i hi => ⟨?_, hi.2, ?_, fun x => x⟩, fun i hi => ⟨?_, ?_, fun x => x⟩, fun i hi => hi.elim, ?_, fun g hg => (hR g hg).chg g2 fun i hi hs ht => ?_, Own.empty, fun g hg o ho => ?_⟩⟩⟩
    · rcases hi with hi | hi
      · exact (hD i hi).1
      · omega
    · rcases hi.1 with h | h
      · exact (hD i h).1
      · omega
    · rintro (hh | hh)
      · rcases hi.1 with h | h
        · exact (hD i h).2.2.1 hh
        · have := hE i hh; omega
      · rcases hi.1 with h | h
        · exact (hD i h).2.2.2 hh
        · have := hL i hh; omega
    · rcases hi with h | h
      · exact (hE i h).1
      · exact (hL i h).1
    · rcases hi with h | h
      · have := hE i h; omega
      · have := hL i h; omega
    · have e : Grs (gs ++ [⟨[], none, 0⟩]) = Grs gs ++ [.slice none 0 0] := by simp
      rw [e]
      exact g3.mono fun i hi hs => ⟨hs, hi⟩
    · rcases ht with ht | ht
      · have := hD i ht
        exact hs.elim this.2.2.1 this.2.2.2
      · omega
    · rcases List.mem_append.1 hg with hg | hg
      · refine ((hB g hg o ho).chg g2 fun i hi hs ht => ?_).mono fun i _ hs => .inl hs
        rcases ht with ht | ht
        · exact (hD i ht).2.2.1 hs
        · omega
      · obtain rfl := List.mem_singleton.1 hg
        cases ho
  rcases h with ⟨rfl, rfl, rfl⟩ | ⟨init, last, rfl, D, E, L, h⟩
  · exact main (fun _ => False) (fun _ => False) (fun _ => False) (fun i h => h.elim) (fun i h => h.elim) (fun i h => h.elim) Own.empty (fun g hg => (by cases hg)) (fun g hg => (by cases hg))
  · refine main D E L h.d h.e h.l h.out (fun g hg => ?_) h.bods
    rcases List.mem_append.1 hg with hg | hg
    · exact (h.rows g hg).mono fun i _ hi => .inl hi
    · obtain rfl := List.mem_singleton.1 hg
      exact h.lst.mono fun i _ hi => .inr hi
/-- A piece is appended to the last list. -/
theorem Og.piece {b0 : Nat} {M0 : Mem} {A : Option Addr} {c : Nat} {init : List Gr} {last : Gr} (h : Og b0 M0 A c (init ++ [last])) (hf : M0.floor ≤ b0) (hb0 : b0 ≤ M0.nb.size) (hl : last.l.length ≤ 4294967296) :
    ∃ a, idxA A (init.length + 1) 1 (init.length : Nat) = some a ∧ M0.slAt a.block a.off = some (last.A, last.l.length, last.c) ∧ ∀ {M : Mem}, Keep M0 M → ∀ {o : Ob}, Own (fun i => M0.nb.size ≤ i) M 5 o.A o.c (U8 o.b) →
      ∃ A' c' N, appendP Try.prog #[24, 24] (.slice last.A last.l.length last.c) (.slice (some ⟨2 * M.nb.size, 0, none⟩) 1 1) (M.new (.cells #[.int .i64 o.k, .slice o.A o.b.length o.c] 44)) = some (.slice A' (last.l.length + 1) c', N) ∧
        ∃ N2, N.put a.block a.off (.slice A' (last.l.length + 1) c') = some N2 ∧ Chg (fun i => b0 ≤ i) M0 N2 ∧ Og b0 N2 A c (init ++ [⟨last.l ++ [o], A', c'⟩]) := by
  obtain ⟨a, i1, i2⟩ := h.rd.at (n := init.length + 1) (i := init.length) (z := (init.length : Nat)) rfl (by omega) (by simp)
  refine ⟨a, i1, by simpa using i2, ?_⟩
  intro M K o ho
  rcases h with ⟨h, _⟩ | ⟨init', last', he, D, E, L, h⟩
  · simp at h
  obtain ⟨rfl, hee⟩ := List.append_inj' he rfl
  obtain rfl : last = last' := by injection hee
  have hK := K.size
  have hN0 : Chg (fun _ => False) M (M.new (.cells #[.int .i64 o.k, .slice o.A o.b.length o.c] 44)) := .new _ _
  have hO : Own (fun i => L i ∨ M.nb.size ≤ i) (M.new (.cells #[.int .i64 o.k, .slice o.A o.b.length o.c] 44)) 44 last.A (last.c * 2) (Obs last.l) :=
    (((h.lst.chg K fun _ _ _ x => x).mono fun i _ hi => .inl hi)).chg hN0 fun _ _ _ x => x
  have hS : ∀ i, L i ∨ M.nb.size ≤ i → M.floor ≤ i := by
    intro i hi
    rw [K.floor]
    rcases hi with hi | hi
    · have := h.l i hi; omega
    · omega
  obtain ⟨A', c', N, g1, g2, g3, g4⟩ := append_own el24 hO (n := last.l.length) (Obs_len last.l) (Row.new M 44 (Obs [o])) (k := 1) (cx := 1) (by simp) (Obs_one [o]) hS (.inr (by rw [Mem.new_size]; omega)) (by omega)
  have hC : Chg (fun i => L i ∨ M.nb.size ≤ i) M N := (Chg.new M _).trans g2
  have hsz := hC.size
  have hout : Own D N 24 A c (Grs (init ++ [last])) := (h.out.chg K fun _ _ _ x => x).chg hC fun i hi hs ht => by
    have := h.d i hs
    rcases ht with ht | ht
    · exact this.2.2.2 ht
    · omega
  obtain ⟨a', j1, N2, j2, C2, hs2, O2⟩ := hout.put1 (fun i hi => by rw [hC.floor, K.floor]; have := h.d i hi; omega) (n := init.length + 1) (i := init.length) (z := (init.length : Nat)) (v := .slice A' (last.l.length + 1) c') rfl (by omega) (by simp) rfl
  rw [i1] at j1
  obtain rfl := Option.some.inj j1
  refine ⟨A', c', N, g1, N2, j2, ?_, .inr ⟨init, _, rfl, D, fun i => E i ∨ (M0.nb.size ≤ i ∧ i < M.nb.size), fun i => (L i ∨ M.nb.size ≤ i) ∧ i < N.nb.size, ⟨fun i hi => ?_, fun i hi => ?_, fun i hi => ?_, ?_, fun g hg => ?_, ?_, fun g hg q hq => ?_⟩⟩⟩
  · refine (K.mono fun i _ x => x.elim).trans ((hC.mono fun i _ hi => ?_).trans (C2.mono fun i _ hi => (h.d i hi).1))
    rcases hi with hi | hi
    · exact (h.l i hi).1
    · omega
  · have := h.d i hi
    refine ⟨this.1, by omega, fun hh => hh.elim this.2.2.1 (by omega), fun hh => hh.1.elim this.2.2.2 (by omega)⟩
  · rcases hi with hi | hi
    · have := h.e i hi
      exact ⟨this.1, by omega, fun hh => hh.1.elim this.2.2 (by omega)⟩
    · exact ⟨by omega, by omega, fun hh => hh.1.elim (fun hh => by have := h.l i hh; omega) (by omega)⟩
  · rcases hi.1 with h1 | h1
    · have := h.l i h1; exact ⟨this.1, by omega⟩
    · exact ⟨by omega, by omega⟩
  · have e : Grs (init ++ [⟨last.l ++ [o], A', c'⟩]) = (Grs (init ++ [last])).set init.length (.slice A' (last.l.length + 1) c') := by
      simp [List.set_append_right]
    rw [e]; exact O2
  · refine (((h.rows g hg).chg K fun _ _ _ x => x).chg hC fun i hi hs ht => ?_).chg C2 (fun i hi hs ht => (h.d i ht).2.2.1 hs) |>.mono fun i _ hs => .inl hs
    have := h.e i hs
    rcases ht with ht | ht
    · exact this.2.2 ht
    · omega
  · have e : Obs (last.l ++ [o]) = Obs last.l ++ Obs [o] := List.flatMap_append
    show Own _ _ _ _ _ (Obs (last.l ++ [o]))
    rw [e]
    refine (g3.mono fun i hi hs => (⟨hs, hi⟩ : (L i ∨ M.nb.size ≤ i) ∧ i < N.nb.size)).chg C2 fun i hi hs ht => ?_
    have := h.d i ht
    exact hs.1.elim this.2.2.2 (by omega)
  · have old : ∀ g ∈ init ++ [last], ∀ q ∈ g.l, Own (fun i => E i ∨ (M0.nb.size ≤ i ∧ i < M.nb.size)) N2 5 q.A q.c (U8 q.b) := fun g hg q hq => by
      refine (((h.bods g hg q hq).chg K fun _ _ _ x => x).chg hC fun i hi hs ht => ?_).chg C2 (fun i hi hs ht => (h.d i ht).2.2.1 hs) |>.mono fun i _ hs => .inl hs
      have := h.e i hs
      rcases ht with ht | ht
      · exact this.2.2 ht
      · omega
    rcases List.mem_append.1 hg with hg | hg
    · exact old g (List.mem_append_left _ hg) q hq
    · obtain rfl := List.mem_singleton.1 hg
      rcases List.mem_append.1 hq with hq | hq
      · exact old last (by simp) q hq
      · obtain rfl := List.mem_singleton.1 hq
        have ho' : Own (fun i => M0.nb.size ≤ i ∧ i < M.nb.size) M 5 q.A q.c (U8 q.b) := ho.mono fun i hi hs => ⟨hs, hi⟩
        refine (ho'.chg hC fun i hi hs ht => ?_).chg C2 (fun i hi hs ht => by have := h.d i ht; omega) |>.mono fun i _ hs => .inr hs
        rcases ht with ht | ht
        · have := h.l i ht; omega
        · omega
end Go.Zt
