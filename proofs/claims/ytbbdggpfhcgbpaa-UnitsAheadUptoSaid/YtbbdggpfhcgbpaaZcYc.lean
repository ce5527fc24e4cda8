/- Layer 19: what UnitsAll comes to. -/
import Derived.Test.YtbbdggpfhcgbpaaZcYb
import Derived.Test.YtbbdggpfhcgbpaaZcDh
set_option linter.unusedSimpArgs false
set_option linter.unusedVariables false
namespace Go.Zt
open Go Go.Sim Go.Proofs Go.RowKit

/-- All pieces of groups, each group with its beginning. -/
def flatU (gs : List (List (Int × List Nat))) : List (Int × List Nat) := gs.flatMap fun g => (2, []) :: g
theorem flatU_push {acc : List (List (Int × List Nat))} {x : Int × List Nat} (h : acc.length ≠ 0) : flatU (pushL acc x) = flatU acc ++ [x] := by
  rcases List.eq_nil_or_concat acc with rfl | ⟨i, l, rfl⟩
  · exact absurd rfl h
  · rw [List.concat_eq_append]
    simp [flatU, pushL]
theorem unitsS_flat : ∀ (l : List (Int × List Nat)) (acc : List (List (Int × List Nat))), (unitsS acc l).2 = 0 → (∀ g ∈ acc, ∀ y ∈ g, y.1 ≠ 2) → flatU (unitsS acc l).1 = flatU acc ++ l ∧ ∀ g ∈ (unitsS acc l).1, ∀ y ∈ g, y.1 ≠ 2
  | [], acc, _, hk => ⟨by simp [unitsS], by simpa [unitsS] using hk⟩
  | x :: r, acc, h, hk => by
    rw [unitsS] at h ⊢
    split
    · rename_i h1; rw [if_pos h1] at h; exact absurd h (by simp)
    rename_i h1; rw [if_neg h1] at h
    split
    · rename_i h2; rw [if_pos h2] at h
      split
      · rename_i h3; rw [if_pos h3] at h; exact absurd h (by simp)
      · rename_i h3; rw [if_neg h3] at h
        obtain ⟨a, b⟩ := unitsS_flat r (acc ++ [[]]) h (fun g hg y hy => by
          rcases List.mem_append.1 hg with h' | h'
          · exact hk g h' y hy
          · obtain rfl := List.mem_singleton.1 h'; cases hy)
        refine ⟨?_, b⟩
        rw [a]
        have hx : x = (2, []) := by
          obtain ⟨x1, x2⟩ := x
          simp at h2 h3
          rw [h2, h3]
        simp [flatU, hx]
    · rename_i h2; rw [if_neg h2] at h
      split
      · rename_i h3; rw [if_pos h3] at h; exact absurd h (by simp)
      · rename_i h3; rw [if_neg h3] at h
        obtain ⟨a, b⟩ := unitsS_flat r (pushL acc x) h (fun g hg y hy => by
          rcases pushL_mem g hg y hy with rfl | ⟨g', h4, h5⟩
          · exact h2
          · exact hk g' h4 y h5)
        exact ⟨by rw [a, flatU_push h3]; simp, b⟩
theorem unitsS_e : ∀ (l : List (Int × List Nat)) (acc : List (List (Int × List Nat))), (unitsS acc l).2 ≠ 0 → unitsS acc l = ([], 4)
  | [], acc, h => by simp [unitsS] at h
  | x :: r, acc, h => by
    rw [unitsS] at h ⊢
    split
    · rfl
    rename_i h1; rw [if_neg h1] at h
    split
    · rename_i h2; rw [if_pos h2] at h
      split
      · rfl
      · rename_i h3; rw [if_neg h3] at h
        exact unitsS_e r _ h
    · rename_i h2; rw [if_neg h2] at h
      split
      · rfl
      · rename_i h3; rw [if_neg h3] at h
        exact unitsS_e r _ h
section
variable {A A3 : Option Addr} {n c c3 : Nat} {l : List Ob}
theorem c8_in {gs : List Gr} {M : Mem} (hG : OgR M A3 gs) {i : Nat} (hi : i < gs.length) (h2 : ∀ o ∈ gs[i].l, o.k ≠ 2) (hb : gs[i].l.length ≤ 4611686018427387904) {A5 : Option Addr} {n5 c5 : Nat} {Q : Value → Mem → Prop}
    (hE : ∃ r, appendP Try.prog #[24, 24] (.slice A5 n5 c5) (.slice gs[i].A gs[i].l.length gs[i].c) M = some r ∧ ∃ s, asS r.1 = some s ∧ A8_1 A n c A3 gs.length c3 s.1 s.2.1 s.2.2 (IntKind.i64.wrap ((i : Int) + 1)) r.2 Q) :
    ∀ (k q : Nat), q + k = gs[i].l.length → A8_2 A n c A3 gs.length c3 A5 n5 c5 i q M Q
  | 0, q, hq => by
    obtain ⟨a, i1, i2⟩ := hG.at (n := gs.length) (z := i) rfl hi hi
    obtain ⟨r, r1, s, s1, hA⟩ := hE
    exact w8_2 ⟨_, i1, _, i2, fun h => by (have h : (q : Int) < (gs[i].l.length : Nat) := h); omega, fun _ => ⟨_, i1, _, i2, r, r1, s, s1, hA⟩⟩
  | k + 1, q, hq => by
    obtain ⟨a, i1, i2⟩ := hG.at (n := gs.length) (z := i) rfl hi hi
    have hql : q < gs[i].l.length := by omega
    obtain ⟨b, j1, j2, j3⟩ := (hG.2 _ (List.getElem_mem hi)).at (n := gs[i].l.length) (z := q) rfl hql hql
    refine w8_2 ⟨_, i1, _, i2, fun _ => ⟨_, i1, _, i2, _, j1, _, j2, fun h => absurd h (h2 _ (List.getElem_mem hql)), fun _ => ?_⟩, fun h => absurd (show (q : Int) < (gs[i].l.length : Nat) by omega) h⟩
    rw [i64w (x := (q : Int) + 1) (by omega), show ((q : Int) + 1) = ((q + 1 : Nat) : Int) by omega]
    exact c8_in hG hi h2 hb hE k (q + 1) (by omega)
theorem c8_loop {M3 : Mem} (hf : M3.floor ≤ M3.nb.size) {gs : List Gr} (hG : OgR M3 A3 gs) (hgl : gs.length ≤ 1048576) (h2 : ∀ g ∈ gs, ∀ o ∈ g.l, o.k ≠ 2) (hb : ∀ g ∈ gs, g.l.length ≤ 1048576) (hbb : ∀ g ∈ gs, ∀ o ∈ g.l, o.b.length ≤ 4611686018427387904)
    (hL : ∀ {N : Mem}, Keep M3 N → ObR N A l) (hn : n = l.length) (hfin : flatU (gs.map Gr.pcs) = l.map Ob.pc) :
    ∀ (k i : Nat) (lst : List Ob) (A5 : Option Addr) (c5 : Nat) {M : Mem}, i + k = gs.length → Keep M3 M → Own (fun i => M3.nb.size ≤ i) M 44 A5 (c5 * 2) (Obs lst) → (∀ o ∈ lst, Row M3 o.A (U8 o.b) ∧ o.b.length ≤ 4611686018427387904) → lst.map Ob.pc = flatU ((gs.take i).map Gr.pcs) → lst.length ≤ i * 1048577 →
      A8_1 A n c A3 gs.length c3 A5 lst.length c5 i M fun v _ => v = .bool true
  | 0, i, lst, A5, c5, M, hi, K, hO, hB, he, hlen => by
    rw [List.take_of_length_le (by omega), hfin] at he
    refine w8_1 ⟨fun h => by omega, fun _ => Cn.eq (c13 ⟨hO.row, fun o ho => (hB o ho).1.keep K⟩ (hL K) rfl hn (show lst.length ≤ _ by omega) fun o ho => (hB o ho).2) ⟨_, rfl, ?_⟩⟩
    rw [decide_eq_true he]
  | k + 1, i, lst, A5, c5, M, hi, K, hO, hB, he, hlen => by
    have hil : i < gs.length := by omega
    have hgi := List.getElem_mem hil
    have hS : ∀ j, M3.nb.size ≤ j → M.floor ≤ j := fun j hj => by rw [K.floor]; exact Nat.le_trans hf hj
    have hbi := hb _ hgi
    have hO' : Own (fun i => M3.nb.size ≤ i) (M.new (.cells #[.int .i64 2, .slice none 0 0] 44)) 44 A5 (c5 * 2) (Obs lst) := hO.chg (T := fun _ => False) (.new _ _) fun _ _ _ x => x
    obtain ⟨A6, c6, N, g1, g2, g3, g4⟩ := append_own el24 hO' (n := lst.length) (Obs_len lst) (Row.new M 44 (Obs [⟨2, [], none, 0⟩])) (k := 1) (cx := 1) (by simp) (Obs_one [⟨2, [], none, 0⟩]) hS (by rw [Mem.new_size]; exact Nat.le_succ_of_le K.size) (by omega)
    have KN : Keep M3 N := Keep.step K ((Chg.new M _).trans g2) fun i hi => hi
    have hGN : OgR N A3 gs := ⟨hG.1.keep KN, fun g hg => (hG.2 g hg).chg KN⟩
    have e1 : Obs lst ++ Obs [⟨2, [], none, 0⟩] = Obs (lst ++ [⟨2, [], none, 0⟩]) := List.flatMap_append.symm
    rw [e1] at g3
    obtain ⟨A7, c7, N2, q1, q2, q3, q4⟩ := append_own el24 g3 (n := lst.length + 1) (by rw [Obs_len]; simp) (hGN.2 _ hgi).1 (k := gs[i].l.length) (cx := gs[i].c) (Obs_len _) (Obs_one _) (fun j hj => by rw [KN.floor]; exact Nat.le_trans hf hj) KN.size (by omega)
    have KN2 : Keep M3 N2 := Keep.step KN q2 fun i hi => hi
    have e2 : Obs (lst ++ [⟨2, [], none, 0⟩]) ++ Obs gs[i].l = Obs (lst ++ [⟨2, [], none, 0⟩] ++ gs[i].l) := List.flatMap_append.symm
    rw [e2] at q3
    refine w8_1 ⟨fun _ => ⟨_, g1, _, rfl, c8_in hGN hil (h2 _ hgi) (by omega) ⟨_, q1, _, rfl, ?_⟩ _ 0 (Nat.zero_add _)⟩, fun h => by omega⟩
    rw [i64w (by omega), show ((i : Int) + 1) = ((i + 1 : Nat) : Int) by omega]
    have hr := c8_loop hf hG hgl h2 hb hbb hL hn hfin k (i + 1) (lst ++ [⟨2, [], none, 0⟩] ++ gs[i].l) A7 c7 (M := N2) (by omega) KN2 q3 (fun o ho => by
      rcases List.mem_append.1 ho with ho | ho
      · rcases List.mem_append.1 ho with ho | ho
        · exact hB o ho
        · obtain rfl := List.mem_singleton.1 ho
          exact ⟨(Own.empty (S := fun _ => False) (e := 5)).row, Nat.zero_le _⟩
      · exact ⟨(hG.2 _ hgi).2 o ho, hbb _ hgi o ho⟩) (by
      have e3 : (gs.take (i + 1)).map Gr.pcs = (gs.take i).map Gr.pcs ++ [gs[i].pcs] := by rw [List.take_succ_eq_append_getElem hil, List.map_append]; rfl
      rw [e3]
      unfold flatU at he ⊢
      rw [List.flatMap_append, ← he]
      simp [Ob.pc, Gr.pcs]) (by simp; omega)
    rw [List.length_append, List.length_append] at hr
    exact hr
end
theorem c8 {A : Option Addr} {n c : Nat} {l : List Ob} {M : Mem} (hf : M.floor ≤ M.nb.size) (hA : Row M A (Obs l)) (hAo : Old A) (hn : n = l.length) (hb : n ≤ 1048576) (hg : ∀ o ∈ l, ObG M 1048576 o) :
    Cn Try.prog 8 #[.slice A n c] M fun v _ => v = .bool true := by
  have hbb : ∀ o ∈ l, o.b.length ≤ 4294967296 := fun o ho => Nat.le_trans (hg o ho).len (by decide)
  refine w8_0 (Cn.known (by rfl) ⟨_, rfl, fun h => (by cases h), fun _ => Cn.mono (c20 hf ⟨hA, fun o ho => (hg o ho).row⟩ hn (by omega) hbb) ?_⟩)
  rintro v N ⟨A3, c3, gs, rfl, he, K, hO⟩
  refine ⟨_, rfl, _, rfl, _, rfl, fun hne => ?_, fun h0 => ?_⟩
  · have hne' : (unitsS [] (l.map Ob.pc)).2 ≠ 0 := fun e => hne (by show (((unitsS [] (l.map Ob.pc)).2 : Nat) : Int) = 0; omega)
    have hu := unitsS_e _ _ hne'
    rw [hu] at he
    have hgs : gs = [] := by simpa using he
    subst hgs
    rw [hu]
    exact ⟨fun _ => rfl, fun h => absurd rfl h⟩
  · have h0' : (unitsS [] (l.map Ob.pc)).2 = 0 := by have h0 : (((unitsS [] (l.map Ob.pc)).2 : Nat) : Int) = 0 := h0; omega
    obtain ⟨f1, f2⟩ := unitsS_flat (l.map Ob.pc) [] h0' (fun g h => (by cases h))
    obtain ⟨u1, u2⟩ := unitsS_len (l.map Ob.pc) [] 0 (fun g h => (by cases h))
    rw [← he] at f1 f2 u1 u2
    rw [List.length_map, List.length_map] at u1
    have hpm : ∀ g ∈ gs, g.pcs ∈ gs.map Gr.pcs := fun g hgm => List.mem_map_of_mem hgm
    refine c8_loop (M3 := N) (by rw [K.floor]; exact Nat.le_trans hf K.size) hO.rd (by simp at u1; omega) (fun g hgm o ho => f2 g.pcs (hpm g hgm) o.pc (List.mem_map_of_mem ho)) (fun g hgm => ?_) (fun g hgm o ho => ?_) (fun hK => obr_old hA hAo hg (K.trans hK)) hn (by simpa [flatU] using f1) _ 0 [] none 0 (Nat.zero_add _) (.refl _) Own.empty (fun o ho => (by cases ho)) rfl (Nat.le_refl _)
    · have := u2 g.pcs (hpm g hgm)
      unfold Gr.pcs at this
      rw [List.length_map, List.length_map] at this; omega
    · rcases unitsS_mem (l.map Ob.pc) [] g.pcs (by rw [← he]; exact hpm g hgm) o.pc (List.mem_map_of_mem ho) with h | ⟨_, h, _⟩
      · obtain ⟨o', h2, h3⟩ := List.mem_map.1 h
        have : o'.b = o.b := congrArg Prod.snd h3
        rw [← this]; exact Nat.le_trans (hbb o' h2) (by decide)
      · cases h
theorem law8 {W : World} {u0 : Value} (s0 : Sees Try.prog (mem0 W) 1048576 8 24 [u0]) : Cn Try.prog 8 #[u0] (mem0 W) fun v _ => v = .bool true := by
  obtain ⟨A, n, c, l, e, h1, h2, h3, h4, h5, h6, h7⟩ := sees_obs s0
  simp at e
  subst e
  exact c8 (Nat.le_refl _) h5 h4 h1 h3 h7
end Go.Zt
