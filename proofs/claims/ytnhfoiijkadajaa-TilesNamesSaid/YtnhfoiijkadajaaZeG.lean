/- Layer 21: the turns (plain). -/
import Derived.Test.YtnhfoiijkadajaaZeF
set_option linter.unusedSimpArgs false
set_option linter.unusedVariables false
namespace Go.Zt
open Go Go.Sim Go.Proofs Go.RowKit
def U (l : List Int) (nx : Nat) : List Nat := (List.range nx).filter fun i => decide (0 < gx l i)
theorem U_succ (l : List Int) (i : Nat) : U l (i + 1) = if 0 < gx l i then U l i ++ [i] else U l i := by
  unfold U
  rw [List.range_succ, List.filter_append]
  by_cases h : 0 < gx l i
  · rw [if_pos h]; simp [h]
  · rw [if_neg h]; simp [h]
theorem U_mem {l : List Int} {nx t : Nat} : t ∈ U l nx ↔ t < nx ∧ 0 < gx l t := by
  unfold U; rw [List.mem_filter, List.mem_range]; simp
def fillN (w : Nat) (l : List Int) : Nat → Nat → Nat
  | 0, nx => nx
  | m + 1, nx => if (U l nx).length < w then fillN w l m (nx + 1) else nx
theorem fill_facts {w : Nat} {l : List Int} : ∀ (m nx : Nat), (U l nx).length ≤ w → nx ≤ fillN w l m nx ∧ fillN w l m nx ≤ nx + m ∧ (U l (fillN w l m nx)).length ≤ w ∧ (w ≤ (U l (fillN w l m nx)).length ∨ fillN w l m nx = nx + m)
  | 0, nx, h => ⟨Nat.le_refl _, Nat.le_refl _, h, .inr rfl⟩
  | m + 1, nx, h => by
    unfold fillN
    split
    · rename_i h2
      have h3 : (U l (nx + 1)).length ≤ w := by
        rw [U_succ]; split
        · simp; omega
        · exact h
      obtain ⟨a, b, c, d⟩ := fill_facts (w := w) (l := l) m (nx + 1) h3
      exact ⟨by omega, by omega, c, d.imp id fun e => by omega⟩
    · rename_i h2
      exact ⟨Nat.le_refl _, by omega, h, .inl (by omega)⟩
def pickT (picks : List Int) (k n : Nat) : Nat := if k < picks.length then (brg (gx picks k) (n : Nat)).toNat else 0
def decT (l : List Int) (t : Nat) : List Int := l.set t (gx l t - 1)
def runP (w : Nat) (picks : List Int) : Nat → List Int → Nat → Nat → List Int
  | 0, _, _, _ => []
  | m + 1, l, k, nx =>
    ((U l (fillN w l (l.length - nx) nx)).getD (pickT picks k (U l (fillN w l (l.length - nx) nx)).length) 0 : Nat) ::
      runP w picks m (decT l ((U l (fillN w l (l.length - nx) nx)).getD (pickT picks k (U l (fillN w l (l.length - nx) nx)).length) 0)) (k + 1) (fillN w l (l.length - nx) nx)
theorem runP_len (w : Nat) (picks : List Int) : ∀ m l k nx, (runP w picks m l k nx).length = m
  | 0, _, _, _ => rfl
  | m + 1, l, k, nx => by unfold runP; rw [List.length_cons, runP_len]
def ordS (l : List Int) (w : Int) (picks : List Int) : List Int × Nat := if ordE l w = 0 then (runP w.toNat picks (sumN (gx l) l.length).toNat l 0 0, 0) else ([], ordE l w)
theorem pick_lt {picks : List Int} {k n : Nat} (hn : 0 < n) : pickT picks k n < n := by
  unfold pickT
  split
  · have h3 : brg (gx picks k) (n : Nat) < (n : Nat) ∧ 0 ≤ brg (gx picks k) (n : Nat) := by
      unfold brg; rw [if_neg (by omega)]
      exact ⟨Int.emod_lt_of_pos _ (by omega), Int.emod_nonneg _ (by omega)⟩
    omega
  · exact hn
theorem gx_set {l : List Int} {t i : Nat} {v : Int} (ht : t < l.length) : gx (l.set t v) i = if i = t then v else gx l i := by
  unfold gx
  rw [List.getD_eq_getElem?_getD, List.getD_eq_getElem?_getD, List.getElem?_set]
  by_cases h : t = i
  · subst h; simp [ht]
  · rw [if_neg h, if_neg (by omega)]
theorem dec_at {l : List Int} {t i : Nat} (ht : t < l.length) : gx (decT l t) i = if i = t then gx l t - 1 else gx l i := gx_set ht
theorem dec_len (l : List Int) (t : Nat) : (decT l t).length = l.length := by unfold decT; simp
theorem sum_dec {l : List Int} {t : Nat} (ht : t < l.length) : ∀ n, sumN (gx (decT l t)) n = sumN (gx l) n - if t < n then 1 else 0
  | 0 => by simp [sumN]
  | n + 1 => by
    simp only [sumN]
    rw [sum_dec ht n, dec_at ht]
    by_cases h1 : n = t
    · subst h1; rw [if_pos rfl, if_neg (by omega), if_pos (by omega)]; omega
    · rw [if_neg h1]
      by_cases h2 : t < n
      · rw [if_pos h2, if_pos (by omega)]; omega
      · rw [if_neg h2, if_neg (by omega)]; omega
theorem sum_nn {f : Nat → Int} : ∀ {n : Nat}, (∀ i, i < n → 0 ≤ f i) → 0 ≤ sumN f n ∧ ∀ i, i < n → f i ≤ sumN f n
  | 0, _ => ⟨Int.le_refl _, fun i h => by omega⟩
  | n + 1, h => by
    obtain ⟨h1, h2⟩ := sum_nn (f := f) (n := n) fun i hi => h i (by omega)
    have h0 := h n (by omega)
    refine ⟨by simp only [sumN]; omega, fun i hi => ?_⟩
    simp only [sumN]
    rcases Nat.lt_or_ge i n with hh | hh
    · have := h2 i hh; omega
    · obtain rfl : i = n := by omega
      omega
theorem sum_0 {f : Nat → Int} : ∀ {n : Nat}, (∀ i, i < n → f i = 0) → sumN f n = 0
  | 0, _ => rfl
  | n + 1, h => by simp only [sumN]; rw [sum_0 fun i hi => h i (by omega), h n (by omega)]; rfl
theorem U_nodup (l : List Int) (nx : Nat) : (U l nx).Nodup := List.nodup_range.filter _
theorem filter_erase : ∀ {u : List Nat} {p : Nat} (hu : u.Nodup) (hp : p < u.length), u.filter (fun i => decide (i ≠ u[p])) = u.eraseIdx p
  | a :: u, 0, hu, _ => by
    have h := (List.nodup_cons.1 hu).1
    rw [List.eraseIdx_cons_zero, List.filter_cons]
    simp only [List.getElem_cons_zero, ne_eq, not_true_eq_false, decide_false, Bool.false_eq_true, if_false]
    rw [List.filter_eq_self]
    intro b hb
    refine decide_eq_true ?_
    rintro rfl
    exact h hb
  | a :: u, p + 1, hu, hp => by
    have h := List.nodup_cons.1 hu
    have hp' : p < u.length := by simpa using hp
    rw [List.eraseIdx_cons_succ, List.filter_cons, ← filter_erase h.2 hp']
    simp only [List.getElem_cons_succ]
    have hne : a ≠ u[p] := fun e => h.1 (e ▸ List.getElem_mem hp')
    rw [if_pos (decide_eq_true hne)]
theorem U_dec {l : List Int} {nx p : Nat} (hp : p < (U l nx).length) (hnx : nx ≤ l.length) :
    U (decT l (U l nx)[p]) nx = if 0 < gx l (U l nx)[p] - 1 then U l nx else (U l nx).eraseIdx p := by
  have hm := U_mem.1 (List.getElem_mem hp)
  generalize ht : (U l nx)[p] = t at *
  have htl : t < l.length := by omega
  by_cases h : 0 < gx l t - 1
  · rw [if_pos h]
    unfold U
    refine List.filter_congr fun i _ => ?_
    rw [dec_at htl]
    by_cases hi : i = t
    · rw [if_pos hi]; subst hi
      rw [decide_eq_true h, decide_eq_true hm.2]
    · rw [if_neg hi]
  · rw [if_neg h]
    have e1 := filter_erase (U_nodup l nx) hp
    rw [ht] at e1
    rw [← e1]
    unfold U
    rw [List.filter_filter]
    refine List.filter_congr fun i _ => ?_
    rw [dec_at htl]
    by_cases hi : i = t
    · subst hi; rw [if_pos rfl, decide_eq_false h]; simp
    · rw [if_neg hi]; simp [hi]
structure Ts (w : Nat) (l : List Int) (m nx : Nat) : Prop where
  nn : ∀ i, 0 ≤ gx l i
  sum : sumN (gx l) l.length = (m : Nat)
  u : (U l nx).length ≤ w
  le : nx ≤ l.length
section
variable {w m nx : Nat} {l : List Int}
def nxT (w : Nat) (l : List Int) (nx : Nat) : Nat := fillN w l (l.length - nx) nx
theorem Ts.fill (h : Ts w l m nx) : nx ≤ nxT w l nx ∧ nxT w l nx ≤ l.length ∧ (U l (nxT w l nx)).length ≤ w ∧ (w ≤ (U l (nxT w l nx)).length ∨ nxT w l nx = l.length) := by
  obtain ⟨a, b, c, d⟩ := fill_facts (w := w) (l := l) (l.length - nx) nx h.u
  have := h.le
  exact ⟨a, by unfold nxT; omega, c, d.imp id fun e => by unfold nxT; omega⟩
theorem Ts.none (h : Ts w l m nx) (hw : 0 < w) : (U l (nxT w l nx)).length = 0 ↔ m = 0 := by
  obtain ⟨a, b, c, d⟩ := h.fill
  constructor
  · intro h0
    have e : nxT w l nx = l.length := by rcases d with d | d <;> omega
    rw [e] at h0
    have z : ∀ i, i < l.length → gx l i = 0 := by
      intro i hi
      have := h.nn i
      by_cases hp : 0 < gx l i
      · have hm : i ∈ U l l.length := U_mem.2 ⟨hi, hp⟩
        rw [List.length_eq_zero_iff.1 h0] at hm; cases hm
      · omega
    have := h.sum
    rw [sum_0 z] at this; omega
  · rintro rfl
    have hs := h.sum
    rcases hu : U l (nxT w l nx) with _ | ⟨t, r⟩
    · rfl
    · have hm : t ∈ U l (nxT w l nx) := by rw [hu]; simp
      have hm := U_mem.1 hm
      have := (sum_nn (f := gx l) (n := l.length) fun i _ => h.nn i).2 t (by omega)
      omega
theorem Ts.next (h : Ts w l (m + 1) nx) {p : Nat} (hp : p < (U l (nxT w l nx)).length) : Ts w (decT l (U l (nxT w l nx))[p]) m (nxT w l nx) := by
  obtain ⟨a, b, c, d⟩ := h.fill
  have hm := U_mem.1 (List.getElem_mem hp)
  have ud := U_dec hp b
  generalize (U l (nxT w l nx))[p] = t at *
  have htl : t < l.length := by omega
  refine ⟨fun i => ?_, ?_, ?_, by rw [dec_len]; exact b⟩
  · rw [dec_at htl]; split
    · omega
    · exact h.nn i
  · rw [dec_len, sum_dec htl, if_pos htl, h.sum]; omega
  · rw [ud]; split
    · exact c
    · rw [List.length_eraseIdx, if_pos hp]; omega
theorem Ts.le_sum (h : Ts w l m nx) (i : Nat) : gx l i ≤ (m : Nat) := by
  by_cases hi : i < l.length
  · rw [← h.sum]; exact (sum_nn (f := gx l) (n := l.length) fun i _ => h.nn i).2 i hi
  · unfold gx; rw [List.getD_eq_getElem?_getD, List.getElem?_eq_none (by omega)]; exact Int.natCast_nonneg m
theorem U_take (h : Ts w l m nx) : (U l l.length).take w = U l (nxT w l nx) := by
  obtain ⟨a, b, c, d⟩ := h.fill
  have e : ∃ r, U l l.length = U l (nxT w l nx) ++ r := by
    refine ⟨((List.range (l.length - nxT w l nx)).map (nxT w l nx + ·)).filter fun i => decide (0 < gx l i), ?_⟩
    unfold U
    rw [← List.filter_append, ← List.range_add]
    congr 2; omega
  obtain ⟨r, e⟩ := e
  rcases d with d | d
  · rw [e, List.take_append_of_le_length d, List.take_of_length_le c]
  · rw [d] at c ⊢; exact List.take_of_length_le c
end
theorem runP_succ (w : Nat) (picks : List Int) (m : Nat) (l : List Int) (k nx : Nat) : runP w picks (m + 1) l k nx =
    (((U l (nxT w l nx)).getD (pickT picks k (U l (nxT w l nx)).length) 0 : Nat) : Int) :: runP w picks m (decT l ((U l (nxT w l nx)).getD (pickT picks k (U l (nxT w l nx)).length) 0)) (k + 1) (nxT w l nx) := rfl
end Go.Zt
