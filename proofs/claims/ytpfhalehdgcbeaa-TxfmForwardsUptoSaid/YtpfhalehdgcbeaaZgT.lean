/- Layer 7: the reference's transforms. -/
import Derived.Test.YtpfhalehdgcbeaaZgK
import Derived.Test.YtpfhalehdgcbeaaZgD
import Derived.Test.YtpfhalehdgcbeaaZgRa
set_option linter.unusedSimpArgs false
set_option linter.unusedVariables false
namespace Go.Zt
open Go Go.Sim Go.Proofs Go.RowKit

theorem c67 {M : Mem} (hf : M.floor ≤ M.nb.size) {kind n k i : Nat} (hk3 : kind < 3) (hl : lenB (kind : Nat) n = true) (hk : k < n) (hi : i < n) :
    Cn Try.prog 67 #[.int .i64 (kind : Nat), .int .i64 (n : Nat), .int .i64 (k : Nat), .int .i64 (i : Nat)] M fun v N => v = .int .i64 (wS kind n k i) ∧ Keep M N := by
  have h64 := lenB_le hl
  have e2i : IntKind.i64.wrap (IntKind.i64.wrap (2 * (i : Int)) + 1) = ((2 * i + 1 : Nat) : Int) := by rw [i64w (x := 2 * (i : Int)) (by omega), i64w (by omega)]; omega
  have e2k : IntKind.i64.wrap (IntKind.i64.wrap (2 * (k : Int)) + 1) = ((2 * k + 1 : Nat) : Int) := by rw [i64w (x := 2 * (k : Int)) (by omega), i64w (by omega)]; omega
  refine w67_0 ⟨fun h => ?_, fun h => ⟨fun h0 => ?_, fun h0 => ?_⟩⟩
  · rw [e2i, e2k]
    have hb1 : (2 * i + 1) * (2 * k + 1) ≤ 129 * 129 := Nat.mul_le_mul (by omega) (by omega)
    have e3 : IntKind.i64.wrap (IntKind.i64.wrap (((2 * i + 1 : Nat) : Int) * ((2 * k + 1 : Nat) : Int)) * 32) = (((2 * i + 1) * (2 * k + 1) * 32 : Nat) : Int) := by
      rw [← Int.natCast_mul]
      generalize (2 * i + 1) * (2 * k + 1) = q at hb1
      rw [i64w (x := (q : Int)) (by omega), i64w (by omega)]; omega
    rw [e3]
    refine ⟨_, binV_quo (by omega), _, rfl, ?_⟩
    rw [tdivN]
    have hb2 : (2 * i + 1) * (2 * k + 1) * 32 / n ≤ 129 * 129 * 32 := Nat.le_trans (Nat.div_le_self _ _) (Nat.mul_le_mul_right _ hb1)
    have hw : wS kind n k i = cosT (64 - (((2 * i + 1) * (2 * k + 1) * 32 / n : Nat) : Int)) := by
      unfold wS; rw [if_neg (by omega), if_pos (by omega)]
    rw [hw]
    generalize (2 * i + 1) * (2 * k + 1) * 32 / n = q at hb2 ⊢
    rw [i64w (x := (q : Int)) (by omega), i64w (by omega)]
    refine Cn.mono (c74 hf) ?_
    rintro _ N ⟨rfl, K⟩
    exact ⟨_, rfl, rfl, K⟩
  · refine w67_1 ⟨fun hz => Cn.mono (c74 hf) ?_, fun hz => ⟨fun _ => ?_, fun h => absurd h0 h⟩⟩
    · rintro _ N ⟨rfl, K⟩
      refine ⟨_, rfl, ?_, K⟩
      have : k = 0 := by simpa using hz
      unfold wS; rw [if_pos (by omega), if_pos this]
    · have hk0 : k ≠ 0 := by simpa using hz
      rw [e2i]
      have hb1 : (2 * i + 1) * k ≤ 129 * 129 := Nat.mul_le_mul (by omega) (by omega)
      have e3 : IntKind.i64.wrap (IntKind.i64.wrap (((2 * i + 1 : Nat) : Int) * (k : Int)) * 64) = (((2 * i + 1) * k * 64 : Nat) : Int) := by
        rw [← Int.natCast_mul]
        generalize (2 * i + 1) * k = q at hb1
        rw [i64w (x := (q : Int)) (by omega), i64w (by omega)]; omega
      rw [e3]
      refine ⟨_, binV_quo (by omega), _, rfl, ?_⟩
      rw [tdivN]
      have hb2 : (2 * i + 1) * k * 64 / n ≤ 129 * 129 * 64 := Nat.le_trans (Nat.div_le_self _ _) (Nat.mul_le_mul_right _ hb1)
      have hw : wS kind n k i = cosT (((2 * i + 1) * k * 64 / n : Nat) : Int) := by
        unfold wS; rw [if_pos (by omega), if_neg hk0]
      rw [hw]
      generalize (2 * i + 1) * k * 64 / n = q at hb2 ⊢
      rw [i64w (x := (q : Int)) (by omega)]
      refine Cn.mono (c74 hf) ?_
      rintro _ N ⟨rfl, K⟩
      exact ⟨_, rfl, rfl, K⟩
  · have hw : wS kind n k i = if k = i then idW n else 0 := by unfold wS; rw [if_neg (by omega), if_neg (by omega)]
    rw [hw]
    have h2 : kind = 2 := by omega
    subst h2
    have hn : n = 4 ∨ n = 8 ∨ n = 16 ∨ n = 32 := of_decide_eq_true (show decide (n = 4 ∨ n = 8 ∨ n = 16 ∨ n = 32) = true from hl)
    refine w67_1 ⟨fun hz => (by cases hz), fun _ => ⟨fun h => absurd h h0, fun _ => ⟨fun h => ⟨?_, .refl _⟩, fun h => ?_⟩⟩⟩
    · rw [if_neg (by omega)]
    · rw [if_pos (by omega)]
      unfold idW
      refine ⟨fun h => ⟨?_, .refl _⟩, fun h4 => ⟨fun h => ⟨?_, .refl _⟩, fun h8 => ⟨fun h => ⟨?_, .refl _⟩, fun h16 => ⟨?_, .refl _⟩⟩⟩⟩
      · rw [if_pos (by omega)]
      · rw [if_neg (by omega), if_pos (by omega)]
      · rw [if_neg (by omega), if_neg (by omega), if_pos (by omega)]
      · rw [if_neg (by omega), if_neg (by omega), if_neg (by omega), if_pos (by omega)]
/-! ### Matrices -/
def At3 (M : Mem) (A : Option Addr) (L : List Value) : Prop := ∃ j cs sp, A = some ⟨2 * j, 0, sp⟩ ∧ M.nb[j]? = some (.cells cs 3) ∧ cs.toList.take L.length = L
theorem At3.of {S : Nat → Prop} {M : Mem} {A : Option Addr} {c : Nat} {L : List Value} (h : Own S M 3 A c L) (hL : L ≠ []) : At3 M A L := by
  rcases h with ⟨_, h, _⟩ | ⟨j, cs, sp, h1, _, _, h4, h5, _⟩
  · exact absurd h hL
  · exact ⟨j, cs, sp, h1, h4, h5⟩
theorem At3.chg {S : Nat → Prop} {M N : Mem} {A : Option Addr} {L : List Value} (h : At3 M A L) (k : Chg S M N) (hS : ∀ j, S j → ¬ ∃ cs, M.nb[j]? = some (.cells cs 3)) : At3 N A L := by
  obtain ⟨j, cs, sp, h1, h2, h3⟩ := h
  exact ⟨j, cs, sp, h1, at_chg h2 k fun hs => hS j hs ⟨cs, h2⟩, h3⟩
theorem At3.keep {M N : Mem} {A : Option Addr} {L : List Value} (h : At3 M A L) (k : Keep M N) : At3 N A L := h.chg k fun _ h => h.elim
theorem At3.row {M : Mem} {A : Option Addr} {L : List Value} (h : At3 M A L) : Row M A L := by
  obtain ⟨j, cs, sp, rfl, h2, h3⟩ := h
  intro i hi
  refine ⟨_, rfl, ?_⟩
  show M.cell (2 * j) (0 + i) = _
  rw [cell_of h2, Nat.zero_add, ← Array.getElem?_toList]
  have : (cs.toList.take L.length)[i]? = some L[i] := by rw [h3]; exact List.getElem?_eq_getElem hi
  rw [List.getElem?_take] at this
  rw [if_pos hi] at this; exact this
theorem own_not3 {S : Nat → Prop} {M : Mem} {e : TypeId} {A : Option Addr} {c : Nat} {L : List Value} (h : Own S M e A c L) (he : e ≠ 3) : Own (fun j => S j ∧ ¬ ∃ cs, M.nb[j]? = some (.cells cs 3)) M e A c L := by
  rcases h with h | ⟨j, cs, sp, h1, h2, h3, h4, h5⟩
  · exact .inl h
  · refine .inr ⟨j, cs, sp, h1, h2, ⟨h3, ?_⟩, h4, h5⟩
    rintro ⟨cs', h⟩
    rw [h4] at h
    injection h with h; injection h with _ h
    exact he h
abbrev Sls (n : Nat) (As : List (Option Addr)) : List Value := As.map fun a => .slice a n n
/-- The first K rows of a matrix. -/
def Mat (M : Mem) (n : Nat) (w : Nat → Nat → Int) (As : List (Option Addr)) : Prop := ∀ k (h : k < As.length), At3 M As[k] (Ints ((List.range n).map (w k)))
theorem Mat.keep {M N : Mem} {n : Nat} {w : Nat → Nat → Int} {As : List (Option Addr)} (h : Mat M n w As) (k : Keep M N) : Mat N n w As := fun i hi => (h i hi).keep k
theorem el50 : ElemS Try.prog 50 22 1 24 (.slice none 0 0) := ⟨by kernel_rfl, by kernel_rfl, rfl, by decide, by decide⟩
def twoF (f g : Nat → Int) (n i : Nat) : List Int := (List.range n).map fun j => if j < i then f j else g j
theorem twoF_len {f g : Nat → Int} {n i : Nat} : (twoF f g n i).length = n := by simp [twoF]
theorem twoF_set {f g : Nat → Int} {n i : Nat} : (Ints (twoF f g n i)).set i (.int .i64 (f i)) = Ints (twoF f g n (i + 1)) := by
  refine List.ext_getElem? fun j => ?_
  rw [List.getElem?_set]
  by_cases h : j < n
  · rw [List.getElem?_map, List.getElem?_map, twoF, twoF, List.getElem?_map, List.getElem?_map, List.getElem?_range h]
    by_cases h2 : i = j
    · subst h2
      rw [if_pos rfl, if_pos (by simpa using h)]
      show some (Value.int .i64 (f i)) = some (Value.int .i64 (if i < i + 1 then f i else g i))
      rw [if_pos (by omega)]
    · rw [if_neg h2]
      show some (Value.int .i64 (if j < i then f j else g j)) = some (Value.int .i64 (if j < i + 1 then f j else g j))
      by_cases h3 : j < i
      · rw [if_pos h3, if_pos (by omega)]
      · rw [if_neg h3, if_neg (by omega)]
  · rw [List.getElem?_eq_none (l := Ints (twoF f g n (i + 1))) (by simp [twoF]; omega)]
    split
    · rw [if_neg (by simp [twoF]; omega)]
    · rw [List.getElem?_eq_none (by simp [twoF]; omega)]
theorem twoF_0 {f g : Nat → Int} {n : Nat} : twoF f g n 0 = (List.range n).map g := by simp [twoF]
theorem twoF_n {f g : Nat → Int} {n : Nat} : twoF f g n n = (List.range n).map f := by
  unfold twoF; exact List.map_congr_left fun j hj => by rw [if_pos (List.mem_range.1 hj)]
theorem zeros {n : Nat} : List.replicate n (0 : Int) = (List.range n).map fun _ => 0 := by
  refine List.ext_getElem? fun j => ?_
  by_cases h : j < n
  · rw [List.getElem?_map, List.getElem?_range h, List.getElem?_replicate, if_pos h]; rfl
  · rw [List.getElem?_eq_none (by simpa using h), List.getElem?_eq_none (by simpa using h)]
theorem c55 {M0 : Mem} (hf : M0.floor ≤ M0.nb.size) {kind n : Nat} (hk3 : kind < 3) (hl : lenB (kind : Nat) n = true) :
    Cn Try.prog 55 #[.int .i64 (kind : Nat), .int .i64 (n : Nat)] M0 fun v N => ∃ A c As, v = .slice A n c ∧ Keep M0 N ∧ Row N A (Sls n As) ∧ As.length = n ∧ Mat N n (wS kind n) As := by
  have h64 := lenB_le hl
  have inner : ∀ {Ao : Option Addr} {lo co : Nat} {k : Nat} {M : Mem} {Ar : Option Addr} {Q : Value → Mem → Prop}, k < n → Keep M0 M →
      (∀ N, Keep M N → Own (fun j => M.nb.size ≤ j) N 3 Ar n (Ints ((List.range n).map (wS kind n k))) → ∃ r7', appendP Try.prog #[50, 50] (.slice Ao lo co) (.slice (some ⟨2 * N.nb.size, 0, none⟩) 1 1) (N.new (.cells #[.slice Ar n n] 22)) = some r7' ∧
        ∃ s8', asS r7'.1 = some s8' ∧ A55_1 (kind : Nat) (n : Nat) s8'.1 s8'.2.1 s8'.2.2 (IntKind.i64.wrap ((k : Nat) + 1)) r7'.2 Q) →
      ∀ (m i : Nat) {N : Mem}, i + m = n → Keep M N → Own (fun j => M.nb.size ≤ j) N 3 Ar n (Ints (twoF (wS kind n k) (fun _ => 0) n i)) → A55_2 (kind : Nat) (n : Nat) Ao lo co (k : Nat) Ar n n (i : Nat) N Q := by
    intro Ao lo co k M Ar Q hk K hE m
    have hfM := fb hf K
    induction m with
    | zero =>
      intro i N hi KN hO
      obtain rfl : n = i := by omega
      rw [twoF_n] at hO
      exact w55_2 ⟨fun h => by omega, fun _ => hE N KN hO⟩
    | succ m ih =>
      intro i N hi KN hO
      refine w55_2 ⟨fun _ => Cn.mono (c67 (fb hfM KN) hk3 hl hk (by omega)) ?_, fun h => by omega⟩
      rintro _ R ⟨rfl, KR⟩
      have KR2 := KN.trans KR
      have hO2 := hO.chg KR fun _ _ _ h => h
      obtain ⟨a, p1, M', p2, p3, p4, p5⟩ := hO2.put1 (fun j hj => by rw [KR2.floor]; exact Nat.le_trans hfM hj) (n := n) (i := i) (z := (i : Nat)) (v := .int .i64 (wS kind n k i)) rfl (by omega) (by rw [List.length_map, twoF_len]; omega) rfl
      rw [twoF_set] at p5
      refine ⟨_, rfl, _, p1, _, p2, ?_⟩
      rw [i64w (by omega), show ((i : Int) + 1) = ((i + 1 : Nat) : Int) by omega]
      exact ih (i + 1) (by omega) (Keep.step KR2 p3 fun j hj => hj) p5
  have outer : ∀ (m k : Nat) (As : List (Option Addr)) (Ao : Option Addr) (co : Nat) {M : Mem}, k + m = n → As.length = k → Keep M0 M → Own (fun j => M0.nb.size ≤ j) M 22 Ao co (Sls n As) → Mat M n (wS kind n) As →
      A55_1 (kind : Nat) (n : Nat) Ao k co (k : Nat) M fun v N => ∃ A c As, v = .slice A n c ∧ Keep M0 N ∧ Row N A (Sls n As) ∧ As.length = n ∧ Mat N n (wS kind n) As := by
    intro m
    induction m with
    | zero =>
      intro k As Ao co M hk hl K hO hM
      obtain rfl : n = k := by omega
      exact w55_1 ⟨fun h => by omega, fun _ => ⟨_, _, As, rfl, K, hO.row, hl, hM⟩⟩
    | succ m ih =>
      intro k As Ao co M hk hAs K hO hM
      obtain ⟨Ar, M1, g1, g2, g3⟩ := made (M1 := M) (n := n) h64.2
      refine w55_1 ⟨fun _ => ⟨_, g1, _, rfl, ?_⟩, fun h => by omega⟩
      rw [zeros, ← twoF_0 (f := wS kind n k)] at g3
      refine inner (by omega) K (fun N KN hR => ?_) n 0 (Nat.zero_add _) g2 g3
      have K2 := K.trans KN
      have hO2 : Own (fun j => M0.nb.size ≤ j) N 22 Ao co (Sls n As) := hO.chg KN fun _ _ _ h => h
      have hO3 := own_not3 hO2 (by decide)
      have hne : Ints ((List.range n).map (wS kind n k)) ≠ [] := by
        intro h; have := congrArg List.length h; simp at this; omega
      have hrow := At3.of hR hne
      obtain ⟨A', c', M3, q1, q2, q3, q4⟩ := app1S el50 hO3 (n := k) (v := .slice Ar n n) (by rw [List.length_map, hAs]) (fun j hj => by rw [K2.floor]; exact Nat.le_trans hf hj.1)
        ⟨K2.size, by rintro ⟨cs, h⟩; have := lt_of_at h; omega⟩ ⟨Nat.le_succ_of_le K2.size, by rintro ⟨cs, h⟩; have := lt_of_at h; omega⟩ rfl (by omega)
      refine ⟨_, q1, _, rfl, ?_⟩
      rw [i64w (by omega), show ((k : Int) + 1) = ((k + 1 : Nat) : Int) by omega]
      refine ih (k + 1) (As ++ [Ar]) A' c' (by omega) (by simp [hAs]) (Keep.step K2 q2 fun j hj => hj.1) ?_ ?_
      · rw [Sls, List.map_append]; exact q3.mono fun j _ h => h.1
      · intro i hi
        have hi' : i < As.length + 1 := by simpa using hi
        by_cases h : i < As.length
        · rw [List.getElem_append_left h]
          exact ((hM i h).keep KN).chg q2 fun j hj => hj.2
        · have : i = As.length := by omega
          subst this
          rw [List.getElem_append_right (Nat.le_refl _)]
          simp only [Nat.sub_self, List.getElem_cons_zero]
          rw [hAs]
          exact hrow.chg q2 fun j hj => hj.2
  exact w55_0 (outer n 0 [] none 0 (Nat.zero_add _) rfl (.refl _) Own.empty fun k h => by cases h)
end Go.Zt

