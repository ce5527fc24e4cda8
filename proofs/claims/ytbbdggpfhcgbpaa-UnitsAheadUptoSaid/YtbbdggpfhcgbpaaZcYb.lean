/- Layer 19: what UnitsGroups comes to. -/
import Derived.Test.YtbbdggpfhcgbpaaZcYa
import Derived.Test.YtbbdggpfhcgbpaaZcDe
set_option linter.unusedSimpArgs false
set_option linter.unusedVariables false
namespace Go.Zt
open Go Go.Sim Go.Proofs Go.RowKit

theorem pushL_mem {acc : List (List (Int × List Nat))} {x : Int × List Nat} : ∀ g ∈ pushL acc x, ∀ y ∈ g, y = x ∨ ∃ g' ∈ acc, y ∈ g' := by
  intro g hg y hy
  unfold pushL at hg
  rcases List.mem_append.1 hg with h | h
  · exact .inr ⟨g, List.dropLast_subset _ h, hy⟩
  · obtain rfl := List.mem_singleton.1 h
    rcases List.mem_append.1 hy with h | h
    · rcases List.eq_nil_or_concat acc with rfl | ⟨i, l, rfl⟩
      · simp at h
      · rw [List.concat_eq_append] at h ⊢
        simp at h
        exact .inr ⟨l, by simp, h⟩
    · exact .inl (List.mem_singleton.1 h)
theorem unitsS_mem : ∀ (l : List (Int × List Nat)) (acc : List (List (Int × List Nat))), ∀ g ∈ (unitsS acc l).1, ∀ y ∈ g, y ∈ l ∨ ∃ g' ∈ acc, y ∈ g'
  | [], acc, g, hg, y, hy => .inr ⟨g, by simpa [unitsS] using hg, hy⟩
  | x :: r, acc, g, hg, y, hy => by
    rw [unitsS] at hg
    split at hg
    · simp at hg
    split at hg
    · split at hg
      · simp at hg
      · rcases unitsS_mem r _ g hg y hy with h | ⟨g', h1, h2⟩
        · exact .inl (List.mem_cons_of_mem _ h)
        · rcases List.mem_append.1 h1 with h | h
          · exact .inr ⟨g', h, h2⟩
          · obtain rfl := List.mem_singleton.1 h; cases h2
    split at hg
    · simp at hg
    · rcases unitsS_mem r _ g hg y hy with h | ⟨g', h1, h2⟩
      · exact .inl (List.mem_cons_of_mem _ h)
      · rcases pushL_mem g' h1 y h2 with rfl | h
        · exact .inl (List.mem_cons_self ..)
        · exact .inr h
theorem pushL_len (acc : List (List (Int × List Nat))) (x : Int × List Nat) : (pushL acc x).length ≤ acc.length + 1 := by unfold pushL; simp
theorem unitsS_len : ∀ (l : List (Int × List Nat)) (acc : List (List (Int × List Nat))) (k : Nat), (∀ g ∈ acc, g.length ≤ k) → (unitsS acc l).1.length ≤ acc.length + l.length ∧ ∀ g ∈ (unitsS acc l).1, g.length ≤ k + l.length
  | [], acc, k, h => ⟨by simp [unitsS], fun g hg => by have := h g (by simpa [unitsS] using hg); omega⟩
  | x :: r, acc, k, h => by
    rw [unitsS]
    split
    · exact ⟨Nat.zero_le _, fun g hg => (by cases hg)⟩
    split
    · split
      · exact ⟨Nat.zero_le _, fun g hg => (by cases hg)⟩
      · obtain ⟨h1, h2⟩ := unitsS_len r (acc ++ [[]]) k (fun g hg => by
          rcases List.mem_append.1 hg with h' | h'
          · exact h g h'
          · obtain rfl := List.mem_singleton.1 h'; exact Nat.zero_le _)
        refine ⟨by simp at h1 ⊢; omega, fun g hg => by have := h2 g hg; simp; omega⟩
    split
    · exact ⟨Nat.zero_le _, fun g hg => (by cases hg)⟩
    · obtain ⟨h1, h2⟩ := unitsS_len r (pushL acc x) (k + 1) (fun g hg => by
        unfold pushL at hg
        rcases List.mem_append.1 hg with h' | h'
        · have := h g (List.dropLast_subset _ h'); omega
        · obtain rfl := List.mem_singleton.1 h'
          rcases List.eq_nil_or_concat acc with rfl | ⟨i, l, rfl⟩
          · simp
          · rw [List.concat_eq_append] at h ⊢
            have := h l (by simp)
            simp; omega)
      have := pushL_len acc x
      refine ⟨by simp; omega, fun g hg => by have := h2 g hg; simp; omega⟩
/-- The lists' shapes, and the row. -/
def Gsh (S D : Nat → Prop) (B : Nat) (A : Option Addr) (c : Nat) (gs : List Gr) (M : Mem) : Prop := Own D M 24 A c (Grs gs) ∧ ∀ g ∈ gs, Sh S B M g.A g.l.length g.c
theorem Gsh.stays {S D : Nat → Prop} {B : Nat} {A : Option Addr} {c : Nat} {gs : List Gr} : Stays (Gsh S D B A c gs) :=
  ⟨fun h ht hp => ⟨own_other h.1 hp ht (by decide), fun g hg => (h.2 g hg).byte ht hp⟩, fun h ht he hp => ⟨own_other h.1 hp ht (by decide), fun g hg => (h.2 g hg).kind ht he hp⟩⟩
theorem Og.sh {b0 : Nat} {M : Mem} {A : Option Addr} {c : Nat} {gs : List Gr} (h : Og b0 M A c gs) {B : Nat} (hB : ∀ g ∈ gs, ∀ o ∈ g.l, o.b.length ≤ B) : ∃ D, Gsh (fun i => b0 ≤ i) D B A c gs M := by
  rcases h with ⟨rfl, rfl, rfl⟩ | ⟨init, last, rfl, D, E, L, h⟩
  · exact ⟨fun _ => False, Own.empty, fun g hg => (by cases hg)⟩
  · refine ⟨D, h.out, fun g hg => ⟨g.l, rfl, ⟨?_, fun o ho => .of ((h.bods g hg o ho).mono fun i _ hi => (h.e i hi).1)⟩, hB g hg⟩⟩
    rcases List.mem_append.1 hg with hg | hg
    · exact (h.rows g hg).mono fun i _ hi => (h.e i hi).1
    · obtain rfl := List.mem_singleton.1 hg
      exact h.lst.mono fun i _ hi => (h.l i hi).1
section
variable {A A1 A2 A3 : Option Addr} {n n1 c c1 c2 c3 : Nat}
theorem c5_spoil {x8 : Bool} {gs : List Gr} {b0 : Nat} {D : Nat → Prop} {M0 : Mem} (hf : M0.floor ≤ b0) (hb : ∀ g ∈ gs, g.l.length ≤ 4611686018427387904) (hgl : gs.length ≤ 4611686018427387904) {Q : Value → Mem → Prop}
    (hE : ∀ M' z, Chg (fun i => b0 ≤ i) M0 M' → z = (gs.length : Int) → A5_4 A n c A1 n1 c1 A2 gs.length c2 x8 z M' Q) :
    ∀ (k i : Nat) {M : Mem}, i + k = gs.length → Chg (fun i => b0 ≤ i) M0 M → Gsh (fun i => b0 ≤ i) D 4611686018427387904 A2 c2 gs M → A5_4 A n c A1 n1 c1 A2 gs.length c2 x8 i M Q
  | 0, i, M, hi, hC, h => hE M _ hC (by omega)
  | k + 1, i, M, hi, hC, h => by
    have hil : i < gs.length := by omega
    obtain ⟨a, i1, i2⟩ := h.1.row.elt1 (n := gs.length) (i := i) (z := (i : Nat)) rfl hil (by simpa using hil)
    have i3 : M.slAt a.block a.off = some (gs[i].A, gs[i].l.length, gs[i].c) := by
      simp only [Mem.slAt, i2]
      simp [hil]; rfl
    obtain ⟨l, hl, hO, hB⟩ := h.2 _ (List.getElem_mem hil)
    have hcn : Cn Try.prog 14 #[.slice gs[i].A gs[i].l.length gs[i].c] M fun v N => Chg (fun i => b0 ≤ i) M N ∧ Gsh (fun i => b0 ≤ i) D 4611686018427387904 A2 c2 gs N := by
      exact c14g Gsh.stays h (fun i hi => by rw [hC.floor]; exact Nat.le_trans hf hi) hl.symm (hb _ (List.getElem_mem hil)) hB hO
    refine w5_4 ⟨fun _ => ⟨_, i1, _, i3, Cn.mono hcn ?_⟩, fun h => by omega⟩
    rintro v N ⟨hC2, hG⟩
    rw [i64w (by omega), show ((i : Int) + 1) = ((i + 1 : Nat) : Int) by omega]
    exact c5_spoil hf hb hgl hE k (i + 1) (by omega) (hC.trans hC2) hG
theorem c5_cmp {gs gs' : List Gr} {M : Mem} (hG : OgR M A2 gs) (hG' : OgR M A3 gs') (he : gs.map Gr.pcs = gs'.map Gr.pcs) (hgl : gs.length ≤ 4611686018427387904) (hb : ∀ g ∈ gs, g.l.length ≤ 4611686018427387904) (hbb : ∀ g ∈ gs, ∀ o ∈ g.l, o.b.length ≤ 4611686018427387904) {Q : Value → Mem → Prop}
    (hE : A5_4 A n c A1 n1 c1 A2 gs.length c2 true 0 M Q) : ∀ (k i : Nat), i + k = gs.length → A5_2 A n c A1 n1 c1 A2 gs.length c2 A3 gs'.length c3 true i M Q
  | 0, i, hi => w5_2 ⟨fun h => by omega, fun _ => w5_3 ⟨fun h => (by cases h), fun _ => hE⟩⟩
  | k + 1, i, hi => by
    have hil : i < gs.length := by omega
    have hll : gs.length = gs'.length := by have := congrArg List.length he; simpa using this
    have hil' : i < gs'.length := by omega
    have hpc : gs[i].pcs = gs'[i].pcs := by
      have := congrArg (fun l => l[i]?) he
      simp [hil, hil'] at this
      exact this
    obtain ⟨a, i1, i2⟩ := hG.at (n := gs.length) (z := i) rfl hil hil
    obtain ⟨a', j1, j2⟩ := hG'.at (n := gs'.length) (z := i) rfl hil' hil'
    refine w5_2 ⟨fun _ => w5_3 ⟨fun _ => ⟨_, i1, _, i2, _, j1, _, j2, Cn.eq (c13 (hG.2 _ (List.getElem_mem hil)) (hG'.2 _ (List.getElem_mem hil')) rfl rfl (hb _ (List.getElem_mem hil)) (hbb _ (List.getElem_mem hil))) ⟨_, rfl, ?_⟩⟩, fun h => (by cases h)⟩, fun h => by omega⟩
    rw [decide_eq_true (show gs[i].l.map Ob.pc = gs'[i].l.map Ob.pc from hpc), i64w (by omega), show ((i : Int) + 1) = ((i + 1 : Nat) : Int) by omega]
    exact c5_cmp hG hG' he hgl hb hbb hE k (i + 1) (by omega)
end
theorem c5 {A : Option Addr} {n c : Nat} {l : List Ob} {M : Mem} (hf : M.floor ≤ M.nb.size) (hA : Row M A (Obs l)) (hAo : Old A) (hn : n = l.length) (hb : n ≤ 1048576) (hg : ∀ o ∈ l, ObG M 1048576 o) :
    Cn Try.prog 5 #[.slice A n c] M fun v _ => v = .bool true := by
  have hbb : ∀ o ∈ l, o.b.length ≤ 4294967296 := fun o ho => Nat.le_trans (hg o ho).len (by decide)
  refine w5_0 (Cn.mono (c17 hf ⟨hA, fun o ho => (hg o ho).row⟩ hn (by omega) hbb) ?_)
  rintro v N ⟨A2, c2, l2, rfl, hp, K1, O2⟩
  have hl2 : l2.length = n := by
    have := congrArg List.length hp
    simp at this; omega
  have hbb2 : ∀ o ∈ l2, o.b.length ≤ 4294967296 := fun o ho => by
    have h1 : o.pc ∈ l2.map Ob.pc := List.mem_map_of_mem ho
    rw [hp] at h1
    obtain ⟨o', h2, h3⟩ := List.mem_map.1 h1
    have : o'.b = o.b := congrArg Prod.snd h3
    rw [← this]; exact hbb o' h2
  have hf1 : N.floor ≤ N.nb.size := by rw [K1.floor]; exact Nat.le_trans hf K1.size
  refine ⟨_, rfl, Cn.mono (c20 hf1 O2.rd rfl (show l2.length ≤ _ by omega) hbb2) ?_⟩
  rw [hp]
  rintro v2 N2 ⟨A3, c3, gs, rfl, he, K2, O3⟩
  have hf2 : N2.floor ≤ N2.nb.size := by rw [K2.floor]; exact Nat.le_trans hf1 K2.size
  refine ⟨_, rfl, _, rfl, _, rfl, Cn.mono (c21 hf2 (obr_old hA hAo hg (K1.trans K2)) hn (by omega) hbb) ?_⟩
  rintro v3 N3 ⟨A4, c4, gs', rfl, he', K3, O4⟩
  have O3' := O3.chg K3 fun _ _ _ x => x
  have hee : gs.map Gr.pcs = gs'.map Gr.pcs := by rw [he, he']
  have hll : gs.length = gs'.length := by have := congrArg List.length hee; simpa using this
  obtain ⟨u1, u2⟩ := unitsS_len (l.map Ob.pc) [] 0 (fun g h => (by cases h))
  rw [← he, List.length_map, List.length_map] at u1
  have hgl : gs.length ≤ 4611686018427387904 := by simp at u1; omega
  have hgb : ∀ g ∈ gs, g.l.length ≤ 4611686018427387904 := fun g hgm => by
    have := u2 g.pcs (by rw [← he]; exact List.mem_map_of_mem hgm)
    unfold Gr.pcs at this
    rw [List.length_map, List.length_map] at this; omega
  have hgbb : ∀ g ∈ gs, ∀ o ∈ g.l, o.b.length ≤ 4611686018427387904 := fun g hgm o ho => by
    rcases unitsS_mem (l.map Ob.pc) [] g.pcs (by rw [← he]; exact List.mem_map_of_mem hgm) o.pc (List.mem_map_of_mem ho) with h | ⟨_, h, _⟩
    · obtain ⟨o', h2, h3⟩ := List.mem_map.1 h
      have : o'.b = o.b := congrArg Prod.snd h3
      rw [← this]; exact Nat.le_trans (hbb o' h2) (by decide)
    · cases h
  obtain ⟨D, hsh⟩ := O3'.sh hgbb
  refine ⟨_, rfl, _, rfl, _, rfl, fun _ => ?_, fun h => absurd (show ((gs.length : Nat) : Int) = (gs'.length : Nat) by omega) h⟩
  rw [show ((((unitsS [] (l.map Ob.pc)).2 : Nat) : Int) == (((unitsS [] (l.map Ob.pc)).2 : Nat) : Int)) = true by simp]
  refine w5_1 (c5_cmp O3'.rd O4.rd hee hgl hgb hgbb ?_ _ 0 (Nat.zero_add _))
  refine c5_spoil (b0 := N.nb.size) (by rw [K3.floor, K2.floor]; exact hf1) hgb hgl (fun M' z hC hz => ?_) _ 0 (Nat.zero_add _) (.refl _) hsh
  have hR2 : ObR M' A2 l2 := (O2.chg ((K2.mono fun _ _ x => x.elim).trans ((K3.mono fun _ _ x => x.elim).trans hC)) fun i _ hi => by omega).rd
  refine w5_4 ⟨fun h => by omega, fun _ => ⟨fun _ => ?_, fun h => (by cases h)⟩⟩
  refine Cn.eq (c13 hR2 (obr_old hA hAo hg (((K1.mono fun _ _ x => x.elim).trans ((K2.mono fun _ _ x => x.elim).trans (K3.mono fun _ _ x => x.elim))).trans hC)) rfl hn (show l2.length ≤ _ by omega) fun o ho => Nat.le_trans (hbb2 o ho) (by decide)) ⟨_, rfl, fun _ => Cn.known (by rfl) ⟨_, rfl, rfl⟩, fun h => absurd h (by simp [hp])⟩
theorem law5 {W : World} {u0 : Value} (s0 : Sees Try.prog (mem0 W) 1048576 8 24 [u0]) : Cn Try.prog 5 #[u0] (mem0 W) fun v _ => v = .bool true := by
  obtain ⟨A, n, c, l, e, h1, h2, h3, h4, h5, h6, h7⟩ := sees_obs s0
  simp at e
  subst e
  exact c5 (Nat.le_refl _) h5 h4 h1 h3 h7
end Go.Zt
