/- Layer 17: the document's grid: Put. -/
import Derived.Test.YtamlmpeiamkllaaZoF
import Derived.Test.YtamlmpeiamkllaaZpG
set_option linter.unusedSimpArgs false
set_option linter.unusedVariables false
set_option maxRecDepth 100000
namespace Go.Zt
open Go Go.Sim Go.Proofs Go.RowKit

def RutP (V : Nat → Prop) (M : Mem) (j : Nat) (t : Tl) (L : List Bk) (b : Bk) : Value → Mem → Prop := fun v N =>
  v = .int .i64 ((putS t L b).1 : Nat) ∧ ∃ V', (∀ i, V' i → V i ∨ (M.nb.size ≤ i ∧ i < N.nb.size)) ∧ Chg (fun i => V i ∨ i = j) M N ∧ Rf V' N j t (putS t L b).2
section
variable {V : Nat → Prop} {M N : Mem} {j jb : Nat} {t : Tl} {L : List Bk} {b : Bk}
theorem RutP.no (G : Rf V M j t L) (K : Keep M N) (hS : putS t L b = (2, L)) : RutP V M j t L b (.int .i64 2) N := by
  unfold RutP
  rw [hS]
  exact ⟨rfl, V, fun i h => .inl h, K.mono fun _ _ h => h.elim, G.keep K⟩
set_option maxHeartbeats 1000000 in
theorem e17_6 (hf : M.floor ≤ M.nb.size) (fl : ∀ i, V i ∨ i = j → M.floor ≤ i ∧ i < M.nb.size) (hL : L.length < 1000) (G0 : Rf V M j t L) (hb : b.ok t = true) (hjb : M.nb.size ≤ jb) :
    ∀ (q i : Nat) {M1 : Mem}, i + q = L.length → Keep M M1 → M1.nb[jb]? = some (.cells b.cs 27) → ((L.take i).all fun a => !a.ovl b) = true →
      A17_6 (some ⟨2 * j, 0, none⟩) (some ⟨2 * jb, 0, none⟩) (i : Int) M1 (RutP V M j t L b)
  | 0, i, M1, hq, K, ab, hall => by
    obtain ⟨A, c, g1, g2, g3⟩ := (G0.keep K).ex
    have lj := lt_of_at g1
    have zK := K.size
    rw [List.take_of_length_le (by omega)] at hall
    refine w17_6 (ad rfl (on (sl_of (i := 0 + 4) g1 rfl) (cF (decide_eq_false (show ¬ ((i : Int) < (L.length : Int)) by omega)) (ad rfl (on (sl_of (i := 0 + 4) g1 rfl) (ad rfl (on23 (bkAt ab) ?_)))))))
    have X := Row.new M1 27 b.cs.toList
    have K2 : Keep M1 (M1.new (.cells b.cs.toList.toArray 27)) := .new _ _
    have z2 := Mem.new_size M1 (.cells b.cs.toList.toArray 27)
    have lb : b.cs.toList.length = 1 * 23 := rfl
    have fM1 : M1.floor = M.floor := K.floor
    obtain ⟨A', c', M2, p, C2, O2, h2⟩ := append_own elem43 (S := fun i => V i ∨ M1.nb.size ≤ i) ((g2.chg K2 fun _ _ _ h => h).mono fun i _ h => .inl h) (n := L.length) (by rw [Bks_len, Nat.mul_comm]) X (k := 1) (cx := 1) lb rfl (fun i hi => by
      rw [K2.floor, fM1]
      rcases hi with h | h
      · exact (fl i (.inl h)).1
      · omega) (.inr (by rw [z2]; omega)) (by omega)
    refine me p (ty rfl (ad rfl ?_))
    have C12 : Chg (fun i => V i ∨ M1.nb.size ≤ i) M1 M2 := (K2.mono fun _ _ h => h.elim).trans C2
    have z12 := C12.size
    have g1' := at_chg g1 C12 fun h => h.elim G0.out fun h => by omega
    obtain ⟨M3, p3, C3, z3, a3⟩ := put1 (0 + 4) (.slice A' (L.length + 1) c') g1' (by rw [C12.floor, fM1]; exact (fl j (.inr rfl)).1) (show 4 < 5 by decide) rfl
    refine pt p3 ?_
    have hS : putS t L b = (0, L ++ [b]) := by unfold putS; rw [hb, hall]; rfl
    have CC : Chg (fun i => V i ∨ i = j) M M3 := by
      refine ((K.mono fun _ _ h => h.elim).trans ⟨C12.base, C12.floor, C12.size, fun i hi hn => C12.same i hi fun h => ?_⟩).trans (C3.mono fun i _ h => .inr h)
      rcases h with h | h
      · exact hn (.inl h)
      · omega
    unfold RutP
    rw [hS]
    have ll : (L ++ [b]).length = L.length + 1 := by simp
    refine ⟨rfl, fun i => V i ∨ (M1.nb.size ≤ i ∧ i < M2.nb.size), fun i hi => hi.imp id fun q => by omega, CC, G0.may, fun h => h.elim G0.out fun q => by omega, fun a ha => ?_, by rw [ll]; omega, A', c', ?_, ?_, by rw [ll]; exact h2⟩
    · rcases List.mem_append.1 ha with h | h
      · exact G0.ok a h
      · rw [List.mem_singleton.1 h]; exact hb
    · rw [ll]; exact a3
    · have e : Bks (L ++ [b]) = Bks L ++ b.cs.toList := by simp [Bks, List.flatMap_append]
      rw [e]
      exact (O2.mono fun i hi h => h.imp id fun q => ⟨q, hi⟩).chg C3 fun i _ hv h => by
        subst h
        rcases hv with hv | hv
        · exact G0.out hv
        · omega
  | q + 1, i, M1, hq, K, ab, hall => by
    obtain ⟨A, c, g1, g2, g3⟩ := (G0.keep K).ex
    have hm := G0.may
    unfold Tl.may spanB at hm
    simp only [Bool.and_eq_true, decide_eq_true_eq] at hm
    have hi : i < L.length := by omega
    have f1 := fb hf K
    have ha := Bk.ok_iff.1 (G0.ok _ (List.getElem_mem hi))
    have hb' := Bk.ok_iff.1 hb
    refine w17_6 (ad rfl (on (sl_of (i := 0 + 4) g1 rfl) (cT (decide_eq_true (show (i : Int) < (L.length : Int) by omega)) (ad rfl (on (sl_of (i := 0 + 4) g1 rfl) (ixldF g2.row rfl hi (List.getElem?_eq_getElem hi) rfl (stN (cs := L[i].cs) f1 rfl rfl rfl fun M2 K2 z2 a2 => ?_)))))))
    have b2 := at_keep ab K2
    have T2 := K.trans K2
    have e : ((((decide (L[i].x < IntKind.i64.wrap (b.x + b.w))) && decide (b.x < IntKind.i64.wrap (L[i].x + L[i].w))) && decide (L[i].y < IntKind.i64.wrap (b.y + b.h))) && decide (b.y < IntKind.i64.wrap (L[i].y + L[i].h))) = L[i].ovl b := by
      rw [i64w (x := L[i].x + L[i].w) (by omega), i64w (x := L[i].y + L[i].h) (by omega), i64w (x := b.x + b.w) (by omega), i64w (x := b.y + b.h) (by omega)]
      unfold Bk.ovl
      rw [Bool.eq_iff_iff]
      simp only [Bool.and_eq_true, decide_eq_true_eq]
      omega
    have k9 : ∀ z : Bool, z = L[i].ovl b → A17_9 (some ⟨2 * j, 0, none⟩) (some ⟨2 * jb, 0, none⟩) (i : Int) z M2 (RutP V M j t L b) := by
      intro z hz
      cases z with
      | true =>
        refine w17_9 (cT rfl (RutP.no G0 T2 ?_))
        have : (L.all fun a => !a.ovl b) = false := by
          rw [List.all_eq_false]
          exact ⟨L[i], List.getElem_mem hi, by rw [← hz]; simp⟩
        unfold putS
        rw [this, Bool.and_false]
        rfl
      | false =>
        refine w17_9 (cF rfl ?_)
        rw [i64w (x := (i : Int) + 1) (by omega)]
        refine e17_6 hf fl hL G0 hb hjb q (i + 1) (by omega) T2 b2 ?_
        rw [List.take_succ_eq_append_getElem hi, List.all_append, hall]
        simp [← hz]
    refine on (int_of (i := 0) a2 rfl) (ad rfl (on (int_of (i := 0) b2 rfl) (ad rfl (on (int_of (i := 0 + 2) b2 rfl) ?_))))
    refine cA4 (fun z => A17_7 (some ⟨2 * j, 0, none⟩) (some ⟨2 * jb, 0, none⟩) (i : Int) (some ⟨2 * M1.nb.size, 0, none⟩) z M2 _) (decide (b.x < IntKind.i64.wrap (L[i].x + L[i].w))) (w17_7 ?_) fun h => ad rfl (on (int_of (i := 0) b2 rfl) (on (int_of (i := 0) a2 rfl) (on (int_of (i := 0 + 2) a2 rfl) h)))
    refine cA4 (fun z => A17_8 (some ⟨2 * j, 0, none⟩) (some ⟨2 * jb, 0, none⟩) (i : Int) (some ⟨2 * M1.nb.size, 0, none⟩) z M2 _) (decide (L[i].y < IntKind.i64.wrap (b.y + b.h))) (w17_8 ?_) fun h => ad rfl (on (int_of (i := 0 + 1) a2 rfl) (ad rfl (on (int_of (i := 0 + 1) b2 rfl) (ad rfl (on (int_of (i := 0 + 3) b2 rfl) h)))))
    exact cA4 (fun z => A17_9 (some ⟨2 * j, 0, none⟩) (some ⟨2 * jb, 0, none⟩) (i : Int) z M2 _) (decide (b.y < IntKind.i64.wrap (L[i].y + L[i].h))) (k9 _ e) fun h => ad rfl (on (int_of (i := 0 + 1) b2 rfl) (ad rfl (on (int_of (i := 0 + 1) a2 rfl) (ad rfl (on (int_of (i := 0 + 3) a2 rfl) h)))))
set_option maxHeartbeats 1000000 in
theorem c17 (hf : M.floor ≤ M.nb.size) (fl : ∀ i, V i ∨ i = j → M.floor ≤ i ∧ i < M.nb.size) (hL : L.length < 1000) (G : Rf V M j t L) (hr : i64R b.x ∧ i64R b.y ∧ i64R b.w ∧ i64R b.h) :
    Cn Try.prog 17 #[PtrB j, .agg b.cs] M (RutP V M j t L b) := by
  have a := Mem.new_at M (.cells b.cs 27)
  have K1 : Keep M (M.new (.cells b.cs 27)) := .new _ _
  have z1 := Mem.new_size M (.cells b.cs 27)
  refine w17_0 ?_
  generalize M.new (.cells b.cs 27) = M1 at a K1 z1 ⊢
  have f1 := fb hf K1
  have hm := G.may
  unfold Tl.may spanB at hm
  simp only [Bool.and_eq_true, decide_eq_true_eq] at hm
  obtain ⟨A, c, g1, g2, g3⟩ := (G.keep K1).ex
  have no_ : b.ok t = false → putS t L b = (2, L) := fun h => by unfold putS; rw [h]; rfl
  have b5 : b.ok t = false → A17_5 (some ⟨2 * j, 0, none⟩) (some ⟨2 * M.nb.size, 0, none⟩) true M1 (RutP V M j t L b) := fun h => w17_5 (cT rfl (RutP.no G K1 (no_ h)))
  have b4 : b.ok t = false → A17_4 (some ⟨2 * j, 0, none⟩) (some ⟨2 * M.nb.size, 0, none⟩) true M1 (RutP V M j t L b) := fun h => w17_4 (cT rfl (b5 h))
  have b3 : b.ok t = false → A17_3 (some ⟨2 * j, 0, none⟩) (some ⟨2 * M.nb.size, 0, none⟩) true M1 (RutP V M j t L b) := fun h => w17_3 (cT rfl (b4 h))
  have b2 : b.ok t = false → A17_2 (some ⟨2 * j, 0, none⟩) (some ⟨2 * M.nb.size, 0, none⟩) true M1 (RutP V M j t L b) := fun h => w17_2 (cT rfl (b3 h))
  have b1 : b.ok t = false → A17_1 (some ⟨2 * j, 0, none⟩) (some ⟨2 * M.nb.size, 0, none⟩) true M1 (RutP V M j t L b) := fun h => w17_1 (cT rfl (b2 h))
  have nok : (¬ (b.x % 8 = 0 ∧ b.y % 8 = 0) ∨ sideB b.w = false ∨ sideB b.h = false ∨ t.in b.x b.y = false ∨ t.in (b.x + b.w - 1) (b.y + b.h - 1) = false) → b.ok t = false := by
    intro h
    unfold Bk.ok
    rcases h with h | h | h | h | h
    · rw [decide_eq_false h]; rfl
    · rw [h]; simp
    · rw [h]; simp
    · rw [h]; simp
    · rw [h]; simp
  have t8 : ∀ z : Int, z.tmod 8 = 0 ↔ z % 8 = 0 := fun z => tmod_eq (a := z) 8 (by decide)
  refine on (int_of (i := 0) a rfl) (cne (fun h => b1 (nok (.inl fun q => h ((t8 _).2 q.1)))) fun hx => on (int_of (i := 0 + 1) a rfl) ?_)
  have hx8 := (t8 _).1 hx
  by_cases hy : b.y % 8 = 0
  · rw [show ((b.y.tmod 8) != 0) = false by rw [(t8 _).2 hy]; rfl]
    refine w17_1 (cF rfl (ad rfl (on (int_of (i := 0 + 2) a rfl) (Cn.eq c34 (ty rfl ?_)))))
    cases hw : sideB b.w with
    | false => exact b2 (nok (.inr (.inl hw)))
    | true =>
      refine w17_2 (cF rfl (ad rfl (on (int_of (i := 0 + 3) a rfl) (Cn.eq c34 (ty rfl ?_)))))
      cases hh : sideB b.h with
      | false => exact b3 (nok (.inr (.inr (.inl hh))))
      | true =>
        refine w17_3 (cF rfl (ad rfl (on (int_of (i := 0) a rfl) (ad rfl (on (int_of (i := 0 + 1) a rfl) (Cn.eq (c35 g1 G.may) (ty rfl ?_)))))))
        cases hi : t.in b.x b.y with
        | false => exact b4 (nok (.inr (.inr (.inr (.inl hi)))))
        | true =>
          have hi' := of_decide_eq_true hi
          have hw' := of_decide_eq_true hw
          have hh' := of_decide_eq_true hh
          have e1 : IntKind.i64.wrap (IntKind.i64.wrap (b.x + b.w) - 1) = b.x + b.w - 1 := by rw [i64w (x := b.x + b.w) (by omega), i64w (by omega)]
          have e2 : IntKind.i64.wrap (IntKind.i64.wrap (b.y + b.h) - 1) = b.y + b.h - 1 := by rw [i64w (x := b.y + b.h) (by omega), i64w (by omega)]
          refine w17_4 (cF rfl (ad rfl (on (int_of (i := 0) a rfl) (ad rfl (on (int_of (i := 0 + 2) a rfl) (ad rfl (on (int_of (i := 0 + 1) a rfl) (ad rfl (on (int_of (i := 0 + 3) a rfl) ?_)))))))))
          rw [e1, e2]
          refine Cn.eq (c35 g1 G.may) (ty rfl ?_)
          cases hi2 : t.in (b.x + b.w - 1) (b.y + b.h - 1) with
          | false => exact b5 (nok (.inr (.inr (.inr (.inr hi2)))))
          | true =>
            have hb : b.ok t = true := by unfold Bk.ok; rw [decide_eq_true ⟨hx8, hy⟩, hw, hh, hi, hi2]; rfl
            exact w17_5 (cF rfl (e17_6 hf fl hL G hb (Nat.le_refl _) L.length 0 (by omega) K1 a rfl))
  · rw [show ((b.y.tmod 8) != 0) = true from bne_iff_ne.2 fun h => hy ((t8 b.y).1 h)]
    exact b1 (nok (.inl fun q => hy q.2))
end
end Go.Zt
