/- Layer 19: Units of the program and of the document. -/
import Derived.Test.YtbbdggpfhcgbpaaZcW
set_option linter.unusedSimpArgs false
set_option linter.unusedVariables false
namespace Go.Zt
open Go Go.Sim Go.Proofs Go.RowKit

def pushL (acc : List (List (Int × List Nat))) (x : Int × List Nat) : List (List (Int × List Nat)) := acc.dropLast ++ [acc.getLastD [] ++ [x]]
def unitsS : List (List (Int × List Nat)) → List (Int × List Nat) → List (List (Int × List Nat)) × Nat
  | acc, [] => (acc, 0)
  | acc, x :: r => if ¬ (1 ≤ x.1 ∧ x.1 ≤ 3) then ([], 4) else if x.1 = 2 then (if x.2.length > 0 then ([], 4) else unitsS (acc ++ [[]]) r)
    else if acc.length = 0 then ([], 4) else unitsS (pushL acc x) r
def UnR (M0 : Mem) (s : List (List (Int × List Nat)) × Nat) : Value → Mem → Prop := fun v N =>
  ∃ A c gs, v = .tuple #[.slice A gs.length c, .int .i64 (s.2 : Nat)] ∧ gs.map Gr.pcs = s.1 ∧ Keep M0 N ∧ Og M0.nb.size N A c gs
theorem UnR.bad {M0 N : Mem} {s : List (List (Int × List Nat)) × Nat} (hs : s = ([], 4)) (K : Keep M0 N) : UnR M0 s (.tuple #[.slice none 0 0, .int .i64 4]) N := by
  rw [hs]; exact ⟨none, 0, [], rfl, rfl, K, .inl ⟨rfl, rfl, rfl⟩⟩
section
variable {M0 : Mem} {A : Option Addr} {n c : Nat} {l : List Ob}
theorem c20_loop (hf : M0.floor ≤ M0.nb.size) (hA : ObR M0 A l) (hn : n = l.length) (hb : n ≤ 2097152) (hbb : ∀ o ∈ l, o.b.length ≤ 4294967296) :
    ∀ (k i : Nat) (gs : List Gr) (Ao : Option Addr) (co : Nat) {M : Mem}, i + k = l.length → Keep M0 M → Og M0.nb.size M Ao co gs → gs.length ≤ i → (∀ g ∈ gs, g.l.length ≤ i) →
      A20_1 Ao gs.length co A n c n i M (UnR M0 (unitsS (gs.map Gr.pcs) ((l.drop i).map Ob.pc)))
  | 0, i, gs, Ao, co, M, hi, K, hO, hg, hgl => by
    rw [List.drop_of_length_le (by omega)]
    exact w20_1 ⟨fun h => by omega, fun _ => ⟨Ao, co, gs, rfl, rfl, K, hO⟩⟩
  | k + 1, i, gs, Ao, co, M, hi, K, hO, hg, hgl => by
    have hil : i < l.length := by omega
    rw [List.drop_eq_getElem_cons hil, List.map_cons]
    obtain ⟨a, i1, i2, i3⟩ := (hA.chg K).at (n := n) (z := i) rfl (by omega) hil
    have hfM : M.floor ≤ M.nb.size := by rw [K.floor]; exact Nat.le_trans hf K.size
    obtain ⟨M1, p1, M2, p2, K2, a2⟩ := fill2 (M := M) (k := l[i].k) (k0 := 0) (A0 := none) (A := l[i].A) (n0 := 0) (c0 := 0) (n := l[i].b.length) (c := l[i].c) hfM
    have KM2 := K.trans K2
    have hO2 := hO.chg K2 fun _ _ _ x => x
    have hlt2 := lt_of_at a2
    have next : ∀ {N : Mem} (gs' : List Gr) (A' : Option Addr) (c' : Nat), Keep M0 N → Og M0.nb.size N A' c' gs' → gs'.length ≤ i + 1 → (∀ g ∈ gs', g.l.length ≤ i + 1) →
        A20_3 A' gs'.length c' A n c n i N (UnR M0 (unitsS (gs'.map Gr.pcs) ((l.drop (i + 1)).map Ob.pc))) := by
      intro N gs' A' c' hK hO' h1 h2
      refine w20_3 (w20_4 ?_)
      rw [i64w (by omega), show ((i : Int) + 1) = ((i + 1 : Nat) : Int) by omega]
      exact c20_loop hf hA hn hb hbb k (i + 1) gs' A' c' (by omega) hK hO' h1 h2
    refine w20_1 ⟨fun _ => ⟨_, i1, _, i2, _, i3, _, p1, _, p2, _, int_of a2 rfl, Cn.eq c29 ⟨_, rfl, fun hk => ?_, fun hk => ⟨_, int_of a2 rfl, fun h2 => ⟨_, sl_of a2 rfl, ?_⟩, fun h2 => ?_⟩⟩⟩, fun h => by omega⟩
    · refine UnR.bad ?_ KM2
      rw [unitsS, if_pos (by show ¬ (1 ≤ l[i].k ∧ l[i].k ≤ 3); simp at hk; omega)]
    · have hk' : 1 ≤ l[i].k ∧ l[i].k ≤ 3 := by simpa using hk
      have e1 : unitsS (gs.map Gr.pcs) (l[i].pc :: (l.drop (i + 1)).map Ob.pc) = if l[i].b.length > 0 then ([], 4) else unitsS (gs.map Gr.pcs ++ [[]]) ((l.drop (i + 1)).map Ob.pc) := by
        rw [unitsS, if_neg (by simpa [Ob.pc] using hk'), if_pos (by exact h2)]; rfl
      rw [e1]
      by_cases hlen : l[i].b.length > 0
      · rw [if_pos hlen]
        exact w20_2 ⟨fun _ => UnR.bad rfl KM2, fun h => absurd h (by rw [show decide (((l[i].b.length : Nat) : Int) > 0) = true from decide_eq_true (by omega)]; simp)⟩
      · rw [if_neg hlen]
        obtain ⟨A', c', N, q1, q2, q3⟩ := hO2.unit (by rw [KM2.floor]; exact hf) KM2.size (by omega)
        refine w20_2 ⟨fun h => absurd (of_decide_eq_true h) (show ¬ ((l[i].b.length : Nat) : Int) > 0 by omega), fun _ => ⟨_, rfl, _, int_of a2 rfl, fun _ => ⟨_, q1, _, rfl, ?_⟩, fun h => absurd h2 h⟩⟩
        have := next (gs ++ [⟨[], none, 0⟩]) A' c' (Keep.step KM2 q2 fun i hi => hi) q3 (by simp; omega) (fun g hgm => by
          rcases List.mem_append.1 hgm with h | h
          · have := hgl g h; omega
          · obtain rfl := List.mem_singleton.1 h; exact Nat.zero_le _)
        rw [List.length_append, List.map_append] at this
        exact this
    · have hk' : 1 ≤ l[i].k ∧ l[i].k ≤ 3 := by simpa using hk
      have h2' : l[i].k ≠ 2 := h2
      have e1 : unitsS (gs.map Gr.pcs) (l[i].pc :: (l.drop (i + 1)).map Ob.pc) = if gs.length = 0 then ([], 4) else unitsS (pushL (gs.map Gr.pcs) l[i].pc) ((l.drop (i + 1)).map Ob.pc) := by
        rw [unitsS, if_neg (by simpa [Ob.pc] using hk'), if_neg (by exact h2'), List.length_map]
      rw [e1]
      rcases List.eq_nil_or_concat gs with rfl | ⟨init, last, hgs⟩
      · exact w20_2 ⟨fun h => (by cases h), fun _ => ⟨_, rfl, _, int_of a2 rfl, fun h => absurd h h2', fun _ => ⟨fun _ => UnR.bad rfl KM2, fun h => absurd rfl h⟩⟩⟩
      · rw [List.concat_eq_append] at hgs
        subst hgs
        rw [if_neg (by simp)]
        have hll : (init ++ [last]).length = init.length + 1 := by simp
        obtain ⟨b, j1, j2, j3⟩ := Og.piece (last := last) (init := init) hO2 (by rw [KM2.floor]; exact hf) KM2.size (by have := hgl last (by simp); omega)
        have ez : IntKind.i64.wrap ((((init ++ [last]).length : Nat) : Int) - 1) = (init.length : Nat) := by rw [hll, i64w (by omega)]; omega
        refine w20_2 ⟨fun h => (by cases h), fun _ => ⟨_, rfl, _, int_of a2 rfl, fun h => absurd h h2', fun _ => ⟨fun h => absurd h (by rw [hll]; omega), fun _ => ?_⟩⟩⟩
        rw [ez, hll]
        refine ⟨_, j1, _, j2, _, rfl, _, int_of a2 rfl, _, rfl, _, sl_of a2 rfl, Cn.mono (c38 (M := { M2 with floor := M2.nb.size }) (n := l[i].b.length) (Nat.le_refl _) ((hA.chg KM2).2 _ (List.getElem_mem hil)) rfl (hbb _ (List.getElem_mem hil))) ?_⟩
        rintro v N ⟨A2, c2, rfl, K3f, hOb, _⟩
        have K3 : Keep M2 { N with floor := M2.floor } := chg_fl K3f
        obtain ⟨A', c', N1, q1, N2, q2, q3, q4⟩ := j3 K3 (o := ⟨l[i].k, l[i].b, A2, c2⟩) hOb
        refine ⟨_, rfl, _, q1, _, rfl, _, q2, ?_⟩
        have := next (init ++ [⟨last.l ++ [⟨l[i].k, l[i].b, A2, c2⟩], A', c'⟩]) Ao co (Keep.step KM2 q3 fun i hi => hi) q4 (by simp at hg ⊢; omega) (fun g hgm => by
          rcases List.mem_append.1 hgm with h | h
          · have := hgl g (List.mem_append_left _ h); omega
          · obtain rfl := List.mem_singleton.1 h
            have := hgl last (by simp)
            simp; omega)
        have e2 : (init ++ [⟨last.l ++ [⟨l[i].k, l[i].b, A2, c2⟩], A', c'⟩] : List Gr).map Gr.pcs = pushL ((init ++ [last]).map Gr.pcs) l[i].pc := by
          unfold pushL
          simp [Gr.pcs, Ob.pc]
        rw [e2] at this
        simpa using this
theorem c20 (hf : M0.floor ≤ M0.nb.size) (hA : ObR M0 A l) (hn : n = l.length) (hb : n ≤ 2097152) (hbb : ∀ o ∈ l, o.b.length ≤ 4294967296) :
    Cn Try.prog 20 #[.slice A n c] M0 (UnR M0 (unitsS [] (l.map Ob.pc))) :=
  w20_0 (c20_loop hf hA hn hb hbb _ 0 [] none 0 (Nat.zero_add _) (.refl _) (.inl ⟨rfl, rfl, rfl⟩) (Nat.le_refl _) fun g h => (by cases h))
end
end Go.Zt
