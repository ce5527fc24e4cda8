/- Layer 19: Units of the document. -/
import Derived.Test.YtbbdggpfhcgbpaaZcX
set_option linter.unusedSimpArgs false
set_option linter.unusedVariables false
namespace Go.Zt
open Go Go.Sim Go.Proofs Go.RowKit

section
variable {M0 : Mem} {A : Option Addr} {n c : Nat} {l : List Ob}
theorem c21_loop (hf : M0.floor ≤ M0.nb.size) (hA : ObR M0 A l) (hn : n = l.length) (hb : n ≤ 2097152) (hbb : ∀ o ∈ l, o.b.length ≤ 4294967296) :
    ∀ (k i : Nat) (gs : List Gr) (Ao : Option Addr) (co : Nat) {M : Mem}, i + k = l.length → Keep M0 M → Og M0.nb.size M Ao co gs → gs.length ≤ i → (∀ g ∈ gs, g.l.length ≤ i) → (gs = [] ↔ i = 0) →
      A21_1 A n c Ao gs.length co i M (UnR M0 (unitsS (gs.map Gr.pcs) ((l.drop i).map Ob.pc)))
  | 0, i, gs, Ao, co, M, hi, K, hO, hg, hgl, hz => by
    rw [List.drop_of_length_le (by omega)]
    exact w21_1 ⟨fun h => by omega, fun _ => ⟨Ao, co, gs, rfl, rfl, K, hO⟩⟩
  | k + 1, i, gs, Ao, co, M, hi, K, hO, hg, hgl, hz => by
    have hil : i < l.length := by omega
    rw [List.drop_eq_getElem_cons hil, List.map_cons]
    have rd : ∀ {N : Mem}, Keep M0 N → ∃ a, idxA A n 2 (i : Nat) = some a ∧ N.intAt .i64 a.block a.off = some l[i].k ∧ N.slAt a.block (a.off + 1) = some (l[i].A, l[i].b.length, l[i].c) := fun hK => (hA.chg hK).at (n := n) (z := i) rfl (by omega) hil
    obtain ⟨a, i1, i2, i3⟩ := rd K
    have next : ∀ {N : Mem} (gs' : List Gr) (A' : Option Addr) (c' : Nat), Keep M0 N → Og M0.nb.size N A' c' gs' → gs'.length ≤ i + 1 → (∀ g ∈ gs', g.l.length ≤ i + 1) → gs' ≠ [] →
        A21_3 A n c A' gs'.length c' i N (UnR M0 (unitsS (gs'.map Gr.pcs) ((l.drop (i + 1)).map Ob.pc))) := by
      intro N gs' A' c' hK hO' h1 h2 h3
      refine w21_3 ?_
      rw [i64w (by omega), show ((i : Int) + 1) = ((i + 1 : Nat) : Int) by omega]
      exact c21_loop hf hA hn hb hbb k (i + 1) gs' A' c' (by omega) hK hO' h1 h2 ⟨fun h => absurd h h3, fun h => by omega⟩
    have bad : unitsS (gs.map Gr.pcs) (l[i].pc :: (l.drop (i + 1)).map Ob.pc) = ([], 4) → A21_2 A n c Ao gs.length co i (l[i].k == 2) true M (UnR M0 (unitsS (gs.map Gr.pcs) (l[i].pc :: (l.drop (i + 1)).map Ob.pc))) := fun h =>
      w21_2 ⟨fun _ => UnR.bad h K, fun h => (by cases h)⟩
    have unit : 1 ≤ l[i].k ∧ l[i].k ≤ 3 → l[i].k = 2 → A21_2 A n c Ao gs.length co i (l[i].k == 2) (decide (((l[i].b.length : Nat) : Int) > 0)) M (UnR M0 (unitsS (gs.map Gr.pcs) (l[i].pc :: (l.drop (i + 1)).map Ob.pc))) := by
      intro hk' h2
      have e1 : unitsS (gs.map Gr.pcs) (l[i].pc :: (l.drop (i + 1)).map Ob.pc) = if l[i].b.length > 0 then ([], 4) else unitsS (gs.map Gr.pcs ++ [[]]) ((l.drop (i + 1)).map Ob.pc) := by
        rw [unitsS, if_neg (by simpa [Ob.pc] using hk'), if_pos (by exact h2)]; rfl
      by_cases hlen : l[i].b.length > 0
      · rw [show decide (((l[i].b.length : Nat) : Int) > 0) = true from decide_eq_true (by omega)]
        exact bad (by rw [e1, if_pos hlen])
      · rw [show decide (((l[i].b.length : Nat) : Int) > 0) = false from decide_eq_false (by omega), e1, if_neg hlen]
        obtain ⟨A', c', N, q1, q2, q3⟩ := hO.unit (by rw [K.floor]; exact hf) K.size (by omega)
        refine w21_2 ⟨fun h => (by cases h), fun _ => ⟨fun _ => ⟨_, q1, _, rfl, ?_⟩, fun h => absurd h (by rw [h2]; decide)⟩⟩
        have := next (gs ++ [⟨[], none, 0⟩]) A' c' (Keep.step K q2 fun i hi => hi) q3 (by simp; omega) (fun g hgm => by
          rcases List.mem_append.1 hgm with h | h
          · have := hgl g h; omega
          · obtain rfl := List.mem_singleton.1 h; exact Nat.zero_le _) (by simp)
        rw [List.length_append, List.map_append] at this
        exact this
    have piece : 1 ≤ l[i].k ∧ l[i].k ≤ 3 → l[i].k ≠ 2 → i ≠ 0 → A21_2 A n c Ao gs.length co i (l[i].k == 2) false M (UnR M0 (unitsS (gs.map Gr.pcs) (l[i].pc :: (l.drop (i + 1)).map Ob.pc))) := by
      intro hk' h2 h0
      have e1 : unitsS (gs.map Gr.pcs) (l[i].pc :: (l.drop (i + 1)).map Ob.pc) = if gs.length = 0 then ([], 4) else unitsS (pushL (gs.map Gr.pcs) l[i].pc) ((l.drop (i + 1)).map Ob.pc) := by
        rw [unitsS, if_neg (by simpa [Ob.pc] using hk'), if_neg (by exact h2), List.length_map]
      rw [e1]
      rcases List.eq_nil_or_concat gs with hgs | ⟨init, last, hgs⟩
      · exact absurd (hz.1 hgs) h0
      · rw [List.concat_eq_append] at hgs
        subst hgs
        rw [if_neg (by simp)]
        have hll : (init ++ [last]).length = init.length + 1 := by simp
        obtain ⟨b, j1, j2, j3⟩ := Og.piece (last := last) (init := init) hO (by rw [K.floor]; exact hf) K.size (by have := hgl last (by simp); omega)
        have ez : IntKind.i64.wrap ((((init ++ [last]).length : Nat) : Int) - 1) = (init.length : Nat) := by rw [hll, i64w (by omega)]; omega
        refine w21_2 ⟨fun h => (by cases h), fun _ => ⟨fun h => absurd (eq_of_beq h) h2, fun _ => ?_⟩⟩
        rw [ez, hll]
        refine ⟨_, j1, _, j2, _, i1, _, i2, _, i1, _, i3, Cn.mono (c10 (M := { M with floor := M.nb.size }) (n := l[i].b.length) (Nat.le_refl _) ((hA.chg K).2 _ (List.getElem_mem hil)) rfl (hbb _ (List.getElem_mem hil))) ?_⟩
        rintro v N ⟨A2, c2, rfl, K3f, hOb, _⟩
        have K3 : Keep M { N with floor := M.floor } := chg_fl K3f
        obtain ⟨A', c', N1, q1, N2, q2, q3, q4⟩ := j3 K3 (o := ⟨l[i].k, l[i].b, A2, c2⟩) hOb
        refine ⟨_, rfl, _, q1, _, rfl, _, j1, _, q2, ?_⟩
        have := next (init ++ [⟨last.l ++ [⟨l[i].k, l[i].b, A2, c2⟩], A', c'⟩]) Ao co (Keep.step K q3 fun i hi => hi) q4 (by simp at hg ⊢; omega) (fun g hgm => by
          rcases List.mem_append.1 hgm with h | h
          · have := hgl g (List.mem_append_left _ h); omega
          · obtain rfl := List.mem_singleton.1 h
            have := hgl last (by simp)
            simp; omega) (by simp)
        have e2 : (init ++ [⟨last.l ++ [⟨l[i].k, l[i].b, A2, c2⟩], A', c'⟩] : List Gr).map Gr.pcs = pushL ((init ++ [last]).map Gr.pcs) l[i].pc := by
          unfold pushL
          simp [Gr.pcs, Ob.pc]
        rw [e2] at this
        simpa using this
    refine w21_1 ⟨fun _ => ⟨_, i1, _, i2, _, i1, _, i2, Cn.eq c34 ⟨_, rfl, fun hk => bad ?_, fun hk => ⟨fun h0 => ⟨fun hu => bad ?_, fun hu => ⟨fun h2 => ⟨_, i1, _, i3, unit (by simpa using hk) h2⟩, fun h2 => absurd h2 (by simpa using hu)⟩⟩, fun h0 => ⟨fun h2 => ⟨_, i1, _, i3, unit (by simpa using hk) h2⟩, fun h2 => piece (by simpa using hk) h2 (by omega)⟩⟩⟩⟩, fun h => by omega⟩
    · rw [unitsS, if_pos (by show ¬ (1 ≤ l[i].k ∧ l[i].k ≤ 3); simp at hk; omega)]
    · have hk' : 1 ≤ l[i].k ∧ l[i].k ≤ 3 := by simpa using hk
      have h2 : l[i].k ≠ 2 := by simpa using hu
      rw [unitsS, if_neg (by simpa [Ob.pc] using hk'), if_neg (by exact h2), if_pos (by rw [hz.2 (by omega)]; rfl)]
theorem c21 (hf : M0.floor ≤ M0.nb.size) (hA : ObR M0 A l) (hn : n = l.length) (hb : n ≤ 2097152) (hbb : ∀ o ∈ l, o.b.length ≤ 4294967296) :
    Cn Try.prog 21 #[.slice A n c] M0 (UnR M0 (unitsS [] (l.map Ob.pc))) :=
  w21_0 (c21_loop hf hA hn hb hbb _ 0 [] none 0 (Nat.zero_add _) (.refl _) (.inl ⟨rfl, rfl, rfl⟩) (Nat.le_refl _) (fun g h => (by cases h)) ⟨fun _ => rfl, fun _ => rfl⟩)
end
end Go.Zt
