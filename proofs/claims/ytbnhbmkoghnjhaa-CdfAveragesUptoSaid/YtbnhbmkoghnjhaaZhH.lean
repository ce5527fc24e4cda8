/- Layer 3: Adapt. -/
import Derived.Test.YtbnhbmkoghnjhaaZhG
set_option linter.unusedSimpArgs false
set_option linter.unusedVariables false
set_option maxRecDepth 100000
namespace Go.Zt
open Go Go.Sim Go.Proofs Go.RowKit

theorem own_one {S : Nat → Prop} {M : Mem} {e : TypeId} {A : Option Addr} {c : Nat} {L : List Value} (h : Own S M e A c L) (hL : L ≠ []) : ∃ j, S j ∧ j < M.nb.size ∧ Own (· = j) M e A c L := by
  rcases h with ⟨_, h, _⟩ | ⟨j, cs, sp, h1, h2, h3, h4, h5⟩
  · exact absurd h hL
  · exact ⟨j, h3, lt_of_at h4, .inr ⟨j, cs, sp, h1, h2, rfl, h4, h5⟩⟩
theorem own_addr {j : Nat} {M : Mem} {e : TypeId} {A : Option Addr} {c : Nat} {L : List Value} (h : Own (· = j) M e A c L) (hL : L ≠ []) : ∃ sp, A = some ⟨2 * j, 0, sp⟩ := by
  rcases h with ⟨_, h, _⟩ | ⟨i, cs, sp, h1, h2, h3, h4, h5⟩
  · exact absurd h hL
  · subst h3; exact ⟨sp, h1⟩
theorem row_alias {M : Mem} {j : Nat} {sp sp' : Option Nat} {L : List Value} (h : Row M (some ⟨2 * j, 0, sp⟩) L) : Row M (some ⟨2 * j, 0, sp'⟩) L := by
  intro i hi
  obtain ⟨a, ha, hc⟩ := h i hi
  obtain rfl := Option.some.inj ha
  exact ⟨_, rfl, hc⟩
theorem own_len {S : Nat → Prop} {M : Mem} {e : TypeId} {A : Option Addr} {c : Nat} {L : List Value} (h : Own S M e A c L) : L.length ≤ c := by
  rcases h with ⟨_, h, _⟩ | ⟨j, cs, sp, h1, h2, h3, h4, h5, h6, h7⟩
  · subst h; exact Nat.zero_le _
  · exact h6
def adV (l : List Nat) (r : Nat) (s : Int) (q : Nat) : Nat := if (q : Int) < s then gn l q - gn l q / 2 ^ r else gn l q + (32768 - gn l q) / 2 ^ r
def adL (l : List Nat) (r : Nat) (s : Int) : List Nat := (List.range l.length).map fun q => if q + 1 = l.length then gn l q else adV l r s q
def upK (k : Int) : Int := if 32 < k + 1 then 32 else k + 1
def adaptS (l : List Nat) (k s : Int) : List Nat × Int × Nat := if checkS l k = 0 ∧ 0 ≤ s ∧ s < l.length then (adL l (rateS l.length k) s, upK k, 0) else ([], 0, 2)
theorem adV_b {l : List Nat} {k : Int} (ho : Okt l k) {r : Nat} {s : Int} (q : Nat) : adV l r s q ≤ 32768 := by
  have h1 := ho.le q
  unfold adV
  split
  · exact Nat.le_trans (Nat.sub_le _ _) h1
  · have h2 : (32768 - gn l q) / 2 ^ r ≤ 32768 - gn l q := Nat.div_le_self ..
    generalize (32768 - gn l q) / 2 ^ r = z at h2
    omega
theorem rateS_b {n : Nat} {k : Int} : 3 ≤ rateS n k ∧ rateS n k ≤ 7 := by unfold rateS fast; split <;> split <;> split <;> omega
section
variable {M : Mem} {A : Option Addr} {n c : Nat} {l : List Nat} {k : Int}
theorem c11 (hf : M.floor ≤ M.nb.size) (hR : Row M A (uL l)) (hn : n = l.length) (hb : n ≤ 1099511627776) {s : Int} : Cn Try.prog 11 #[.agg #[.slice A n c, .int .i64 k], .int .i64 s] M (TbR M (adaptS l k s)) := by
  have a0 := newI (M := M) A n c k
  have K0 : Keep M (M.new (tcells A n c k)) := .new _ _
  have sz0 := Mem.new_size M (tcells A n c k)
  refine w11_0 ?_
  generalize M.new (tcells A n c k) = N0 at a0 K0 sz0 ⊢
  have b0 := newI (M := N0) none 0 0 0
  have K1 : Keep N0 (N0.new (tcells none 0 0 0)) := .new _ _
  generalize N0.new (tcells none 0 0 0) = N at b0 K1 ⊢
  have a0 := at_keep a0 K1
  have KN := K0.trans K1
  refine ⟨_, sl_of a0 rfl, _, int_of a0 rfl, Cn.mono (c32 (fb hf KN) (hR.keep KN) hn hb) ?_⟩
  rintro _ R ⟨rfl, KR⟩
  have K2 := KN.trans KR
  have a1 := at_keep a0 KR
  have b1 := at_keep b0 KR
  refine ⟨_, rfl, fun h => ?_, fun h => ?_⟩
  · have : ¬ (checkS l k = 0 ∧ 0 ≤ s ∧ s < l.length) := by
      intro hh; rw [decide_eq_true hh] at h; cases h
    unfold adaptS; rw [if_neg this]
    exact packE hf K2 b1 (by omega)
  have hh : checkS l k = 0 ∧ 0 ≤ s ∧ s < l.length := by simpa using h
  have ho := check_0.1 hh.1
  have hlo := ho.lo
  have hhi := ho.hi
  unfold adaptS; rw [if_pos hh]
  refine ⟨_, sl_of a1 rfl, _, int_of a1 rfl, Cn.mono (c33 (n := n) (k := k) (by omega)) ?_⟩
  rintro _ R2 ⟨rfl, KR2⟩
  have K3 := K2.trans KR2
  have a2 := at_keep a1 KR2
  have b2 := at_keep b1 KR2
  have hr := rateS_b (n := n) (k := k)
  rw [← hn]
  generalize rateS n k = r at hr ⊢
  have KS := keep_res R2 1
  have sS := res_size R2 1
  generalize R2.res 1 = S at KS sS ⊢
  have K4 := K3.trans KS
  have a3 := at_keep a2 KS
  refine ⟨_, rfl, _, sl_of a3 rfl, _, int_of a3 rfl, Cn.mono (c34 (M := { S with floor := S.nb.size }) (Nat.le_refl _) (show Row { S with floor := S.nb.size } A (uL l) from fun i hi => hR.keep K4 i hi) hn hb) ?_⟩
  rintro _ N15 ⟨B, d, rfl, K15, O15, hd⟩
  have K15' : Keep S { N15 with floor := S.floor } := K15.unfl
  have O15' : Own (fun j => S.nb.size ≤ j) { N15 with floor := S.floor } 47 B d (uL l) := O15
  generalize { N15 with floor := S.floor } = T at K15' O15'
  have K5 := K4.trans K15'
  have hK3 := K3.size
  have hK15 := K15'.size
  have hjT : R2.nb.size + 0 < T.nb.size := by omega
  have C6 := upd_chg (M := T) (S := (· = R2.nb.size + 0)) (b := tcells none 0 0 0) (j := R2.nb.size + 0) rfl
  have u6 := upd_at (M := T) (b := tcells none 0 0 0) hjT
  have s6 := upd_size (M := T) (j := R2.nb.size + 0) (tcells none 0 0 0)
  have K6 : Keep M (T.upd (R2.nb.size + 0) (tcells none 0 0 0)) := Keep.step K5 C6 fun p hp => by rw [hp]; omega
  have a6 := at_chg (at_keep a3 K15') C6 (by have := lt_of_at a2; omega)
  have b6 := at_chg (at_keep (at_keep b2 KS) K15') C6 (by have := lt_of_at b2; omega)
  have O6 := O15'.chg C6 fun p _ h1 h2 => by omega
  generalize T.upd (R2.nb.size + 0) (tcells none 0 0 0) = U at C6 u6 s6 K6 a6 b6 O6 ⊢
  obtain ⟨M1, p1, M2, p2, C7, s7, u7⟩ := put2 (A := B) (n := l.length) (c := d) (k := if 32 < IntKind.i64.wrap (k + 1) then 32 else IntKind.i64.wrap (k + 1)) u6 (by rw [K6.floor]; omega)
  have K7 : Keep M M2 := Keep.step K6 C7 fun p hp => by rw [hp]; omega
  have a7 := at_chg a6 C7 (by have := lt_of_at a2; omega)
  have b7 := at_chg b6 C7 (by have := lt_of_at b2; omega)
  have O7 := O6.chg C7 fun p _ h1 h2 => by omega
  obtain ⟨jj, j1, j2, O7⟩ := own_one O7 (by intro h; have := congrArg List.length h; simp at this; subst this; simp at hlo)
  obtain ⟨B', q1, q2⟩ := slice_own el16 (n := n) (c := d) (h := n - 1) (hi := some (.int .i64 ((n - 1 : Nat) : Int))) (by rw [Nat.mul_one]; exact O7) (by omega) (bound_lo rfl (by omega)) (by omega) rfl
  rw [Nat.mul_one] at q2
  obtain ⟨sp, hsp⟩ := own_addr O7 (by intro h; have := congrArg List.length h; simp at this; subst this; simp at hlo)
  obtain ⟨sp', hsp'⟩ := own_addr q2 (by intro h; have := congrArg List.length h; rw [List.length_take, List.length_map] at this; simp only [List.length_nil] at this; omega)
  refine ⟨_, rfl, _, p1, _, p2, _, sl_of u7 rfl, _, sl_of a7 rfl, ?_⟩
  dsimp only
  rw [i64w (x := (n : Int) - 1) (by omega), show ((n : Int) - 1) = ((n - 1 : Nat) : Int) by omega, ← hn]
  refine ⟨_, q1, _, rfl, ?_⟩
  have hk : (if 32 < IntKind.i64.wrap (k + 1) then 32 else IntKind.i64.wrap (k + 1)) = upK k := by
    have := ho.k0; have := ho.k1
    rw [i64w (by omega)]; rfl
  rw [hk] at u7
  have e0 : l = mixL (adV l r s) (gn l) n 0 := by rw [mixL_0, hn, map_gn]
  have hsep : jj ≠ N0.nb.size ∧ jj ≠ R2.nb.size + 0 ∧ M.nb.size ≤ jj ∧ N0.nb.size ≠ R2.nb.size + 0 ∧ N0.nb.size ≥ M.nb.size := by
    have := lt_of_at b2; have := lt_of_at b0; omega
  have loop : ∀ (t i : Nat) {N : Mem}, i + t + 1 = n → Keep M N → N.nb[N0.nb.size]? = some (tcells none 0 0 0) → N.nb[R2.nb.size + 0]? = some (tcells B n d (upK k)) → Own (· = jj) N 47 B d (uL (mixL (adV l r s) (gn l) n i)) →
      A11_1 s (some ⟨2 * N0.nb.size, 0, none⟩) (r : Nat) (some ⟨2 * (R2.nb.size + 0), 0, none⟩) B' (n - 1) d ((n - 1 : Nat) : Int) (i : Nat) N (TbR M (adL l r s, upK k, 0)) := by
    intro t
    induction t with
    | zero =>
      intro i N hi K h2 h4 hO
      refine w11_1 ⟨fun h => by omega, fun _ => packT hf K h2 h4 (by omega) ?_ (by rw [hn]; simp [adL]) rfl rfl (by omega)⟩
      have e : mixL (adV l r s) (gn l) n i = adL l r s := by
        unfold mixL adL
        rw [← hn]
        refine List.map_congr_left fun q hq => ?_
        have := List.mem_range.1 hq
        by_cases h : q < i
        · rw [if_pos h, if_neg (by omega)]
        · rw [if_neg h, if_pos (by omega)]
      rw [e] at hO
      exact hO.mono fun p _ hp => by rw [hp]; exact ⟨hsep.2.2.1, hsep.1⟩
    | succ t ih =>
      intro i N hi K h2 h4 hO
      have hg : gn (mixL (adV l r s) (gn l) n i) i = gn l i := by rw [gn_mix (by omega), if_neg (by omega)]
      have hle := ho.le i
      have hRB := hO.row
      have hRB' : Row N B' (uL (mixL (adV l r s) (gn l) n i)) := by rw [hsp] at hRB; rw [hsp']; exact row_alias hRB
      obtain ⟨a, x1, x2⟩ := hRB'.int1 (n := n - 1) (i := i) (z := ((i : Nat) : Int)) rfl (by omega) (gn_at (by rw [mixL_len]; omega))
      obtain ⟨b, y1, y2⟩ := hRB.u16 (n := n) (i := i) (z := ((i : Nat) : Int)) (by rw [mixL_len]) rfl (by rw [mixL_len]; omega)
      rw [hg] at x2 y2
      have next : ∀ {v : Int}, v = ((adV l r s i : Nat) : Int) → ∃ a31, idxA B n 1 ((i : Nat) : Int) = some a31 ∧ ∃ M32, N.put a31.block a31.off (.int .u16 v) = some M32 ∧ A11_2 s (some ⟨2 * N0.nb.size, 0, none⟩) (r : Nat) (some ⟨2 * (R2.nb.size + 0), 0, none⟩) B' (n - 1) d ((n - 1 : Nat) : Int) (i : Nat) M32 (TbR M (adL l r s, upK k, 0)) := by
        intro v hv
        subst hv
        obtain ⟨a, b1, M', b2, b3, b4, b5⟩ := hO.put1 (fun p hp => by rw [K.floor, hp]; omega) (n := n) (i := i) (z := ((i : Nat) : Int)) (v := .int .u16 ((adV l r s i : Nat) : Int)) rfl (by omega) (by rw [List.length_map, mixL_len]; omega) rfl
        refine ⟨_, b1, _, b2, w11_2 ?_⟩
        rw [i64w (by omega), show ((i : Int) + 1) = ((i + 1 : Nat) : Int) by omega]
        rw [uL_set, mixL_set] at b5
        exact ih (i + 1) (by omega) (Keep.step K b3 fun p hp => by omega) (at_chg h2 b3 (by omega)) (at_chg h4 b3 (by omega)) b5
      refine w11_1 ⟨fun _ => ⟨_, x1, _, x2, fun hs => ⟨_, rfl, _, sl_of h4 rfl, _, y1, _, y2, _, shr_nat (q := r) rfl (show r ≤ 16 by omega), _, rfl, ?_⟩, fun hs => ⟨_, rfl, _, sl_of h4 rfl, _, y1, _, y2, ?_⟩⟩, fun h => by omega⟩
      · refine next ?_
        have h2 : gn l i / 2 ^ r ≤ gn l i := Nat.div_le_self ..
        unfold adV; rw [if_pos hs]
        generalize gn l i / 2 ^ r = z at h2 ⊢
        rw [u16w (by omega)]; omega
      · rw [u16w (by omega), show (32768 : Int) - ((gn l i : Nat) : Int) = ((32768 - gn l i : Nat) : Int) by omega]
        refine ⟨_, shr_nat (q := r) rfl (show r ≤ 16 by omega), _, rfl, next ?_⟩
        have h2 : (32768 - gn l i) / 2 ^ r ≤ 32768 - gn l i := Nat.div_le_self ..
        unfold adV; rw [if_neg hs]
        generalize (32768 - gn l i) / 2 ^ r = z at h2 ⊢
        rw [u16w (by omega)]; omega
  refine loop (n - 1) 0 (by omega) K7 b7 (by rw [hn]; exact u7) ?_
  rw [← e0]; exact O7
theorem c12 (hf : M.floor ≤ M.nb.size) (hR : Row M A (uL l)) (hn : n = l.length) (hb : n ≤ 1099511627776) {s : Int} : Cn Try.prog 12 #[.agg #[.slice A n c, .int .i64 k], .int .i64 s] M (TbR M (adaptS l k s)) := by
  have a0 := newI (M := M) A n c k
  have K0 : Keep M (M.new (tcells A n c k)) := .new _ _
  have sz0 := Mem.new_size M (tcells A n c k)
  refine w12_0 ?_
  generalize M.new (tcells A n c k) = N0 at a0 K0 sz0 ⊢
  have b0 := newI (M := N0) none 0 0 0
  have K1 : Keep N0 (N0.new (tcells none 0 0 0)) := .new _ _
  generalize N0.new (tcells none 0 0 0) = N at b0 K1 ⊢
  have a0 := at_keep a0 K1
  have KN := K0.trans K1
  refine ⟨_, sl_of a0 rfl, _, int_of a0 rfl, Cn.mono (c29 (hR.keep KN) hn hb) ?_⟩
  rintro _ R ⟨rfl, KR⟩
  have K2 := KN.trans KR
  have a1 := at_keep a0 KR
  have b1 := at_keep b0 KR
  have key : ∀ b : Bool, b = decide (¬ (checkS l k = 0 ∧ 0 ≤ s ∧ s < l.length)) → A12_1 s (some ⟨2 * M.nb.size, 0, none⟩) (some ⟨2 * N0.nb.size, 0, none⟩) b R (TbR M (adaptS l k s)) := by
    intro b hb2
    refine w12_1 ⟨fun h => ?_, fun h => ?_⟩
    · rw [h] at hb2
      unfold adaptS; rw [if_neg (of_decide_eq_true hb2.symm)]
      obtain ⟨M1, p1, M2, p2, s, e1, x, e2, hh⟩ := packE hf K2 b1 (by omega)
      exact ⟨_, rfl, _, p1, _, p2, _, rfl, _, e1, _, e2, hh⟩
    rw [h] at hb2
    have hh : checkS l k = 0 ∧ 0 ≤ s ∧ s < l.length := Decidable.not_not.1 (of_decide_eq_false hb2.symm)
    have ho := check_0.1 hh.1
    have hlo := ho.lo
    have hhi := ho.hi
    unfold adaptS; rw [if_pos hh]
    have hr := rateS_b (n := l.length) (k := k)
    have hRR := hR.keep K2
    have hf3 : fast n ≤ 2 := by unfold fast; split <;> omega
    -- the loop that appends
    have step3 : ∀ {R : Mem} (r : Nat), 3 ≤ r → r ≤ 7 → Keep M R → R.nb[M.nb.size]? = some (tcells A n c k) → R.nb[N0.nb.size]? = some (tcells none 0 0 0) → ∀ {j : Nat}, N0.nb.size < j → ∀ (t i : Nat) (B : Option Addr) (d : Nat) {R : Mem}, i + t = n → i ≤ d → Keep M R → R.nb[M.nb.size]? = some (tcells A n c k) → R.nb[N0.nb.size]? = some (tcells none 0 0 0) → R.nb[j]? = some (tcells B i d (upK k)) →
        Own (fun p => N0.nb.size < p ∧ p ≠ j) R 47 B d (uL ((List.range i).map fun q => if q + 1 = l.length then gn l q else adV l r s q)) →
        A12_3 s (some ⟨2 * M.nb.size, 0, none⟩) (some ⟨2 * N0.nb.size, 0, none⟩) (n : Nat) ((2 ^ r : Nat) : Int) (some ⟨2 * j, 0, none⟩) (i : Nat) R (TbR M (adL l r s, upK k, 0)) := by
      intro _ r r3 r7 _ _ _ j hj t
      have hp : 8 ≤ 2 ^ r ∧ 2 ^ r ≤ 128 := by
        have : ∀ q : Fin 8, 3 ≤ q.val → 8 ≤ 2 ^ q.val ∧ 2 ^ q.val ≤ 128 := by decide
        exact this ⟨r, by omega⟩ r3
      induction t with
      | zero =>
        intro i B d R hi hd K h1 h2 h4 hO
        obtain rfl : n = i := by omega
        refine w12_3 ⟨fun h => by omega, fun _ => packT hf K h2 h4 (by omega) ?_ (by rw [hn]; simp [adL]) rfl rfl hd⟩
        have e : (List.range n).map (fun q => if q + 1 = l.length then gn l q else adV l r s q) = adL l r s := by rw [hn]; rfl
        rw [e] at hO
        exact hO.mono fun p _ h => by omega
      | succ t ih =>
        intro i B d R hi hd K h1 h2 h4 hO
        have hle := ho.le i
        obtain ⟨a, x1, x2⟩ := (hR.keep K).u16 (n := n) (i := i) (z := ((i : Nat) : Int)) hn rfl (by omega)
        have hR4 := lt_of_at h4
        have next : ∀ {v : Int}, v = (((if i + 1 = l.length then gn l i else adV l r s i : Nat)) : Int) → ∃ r43, appendP Try.prog #[22, 22] (.slice B i d) (.slice (some ⟨2 * R.nb.size, 0, none⟩) 1 1) (R.new (.cells #[.int .u16 v] 47)) = some r43 ∧ ∃ s44, asS r43.1 = some s44 ∧ ∃ a45, some (⟨2 * j, 0, none⟩ : Addr) = some a45 ∧ ∃ M46, r43.2.put a45.block a45.off (.slice s44.1 s44.2.1 s44.2.2) = some M46 ∧
            A12_3 s (some ⟨2 * M.nb.size, 0, none⟩) (some ⟨2 * N0.nb.size, 0, none⟩) (n : Nat) ((2 ^ r : Nat) : Int) (some ⟨2 * j, 0, none⟩) (IntKind.i64.wrap ((i : Int) + 1)) M46 (TbR M (adL l r s, upK k, 0)) := by
          intro v hv
          subst hv
          obtain ⟨A', c', M', g1, M2, g2, g3, g4, g5, g6, g7⟩ := appT (S := fun _ => True) hf K (j := j) (v := if i + 1 = l.length then gn l i else adV l r s i) (fun _ _ _ _ => trivial) h4 (by omega) (T := fun p => N0.nb.size < p ∧ p ≠ j) (fun q hq => by omega) (fun q hq => by omega) hO (by simp) (by omega)
          refine ⟨_, g1, _, rfl, _, rfl, _, g2, ?_⟩
          rw [i64w (by omega), show ((i : Int) + 1) = ((i + 1 : Nat) : Int) by omega]
          refine ih (i + 1) A' c' (by omega) g7 g3 (at_chg h1 g4 (by omega)) (at_chg h2 g4 (by omega)) g5 ?_
          rw [range_map_succ]; exact g6
        have four : ∀ b : Bool, b = decide (i + 1 ≠ l.length ∧ ¬ (i : Int) < s) → A12_4 s (some ⟨2 * M.nb.size, 0, none⟩) (some ⟨2 * N0.nb.size, 0, none⟩) (n : Nat) ((2 ^ r : Nat) : Int) (some ⟨2 * j, 0, none⟩) (i : Nat) ((gn l i : Nat) : Int) b R (TbR M (adL l r s, upK k, 0)) := by
          intro b hb3
          refine w12_4 ⟨fun h => ?_, fun h => ⟨fun h2 => ?_, fun h2 => ?_⟩⟩
          · rw [h] at hb3
            obtain ⟨g1, g2⟩ := of_decide_eq_true hb3.symm
            have h2 : (32768 - gn l i) / 2 ^ r ≤ 32768 - gn l i := Nat.div_le_self ..
            rw [i64w (x := 32768 - ((gn l i : Nat) : Int)) (by omega), show (32768 : Int) - ((gn l i : Nat) : Int) = ((32768 - gn l i : Nat) : Int) by omega]
            refine ⟨_, binV_quo (by omega), _, rfl, _, rfl, _, sl_of h4 rfl, next ?_⟩
            rw [tdivN, if_neg g1]
            unfold adV; rw [if_neg g2]
            generalize (32768 - gn l i) / 2 ^ r = z at h2 ⊢
            rw [i64w (x := ((z : Nat) : Int)) (by omega), i64w (by omega), u16w (by omega)]; omega
          · rw [i64w (by omega)] at h2
            rw [h] at hb3
            have g1 : i + 1 ≠ l.length := by omega
            have g2 : (i : Int) < s := Decidable.not_not.1 fun hn => of_decide_eq_false hb3.symm ⟨g1, hn⟩
            have h5 : gn l i / 2 ^ r ≤ gn l i := Nat.div_le_self ..
            refine ⟨_, binV_quo (by omega), _, rfl, _, rfl, _, sl_of h4 rfl, next ?_⟩
            rw [tdivN, if_neg g1]
            unfold adV; rw [if_pos g2]
            generalize gn l i / 2 ^ r = z at h5 ⊢
            rw [i64w (x := ((z : Nat) : Int)) (by omega), i64w (by omega), u16w (by omega)]; omega
          · rw [i64w (by omega)] at h2
            refine ⟨_, rfl, _, sl_of h4 rfl, next ?_⟩
            rw [if_pos (by omega), u16w (by omega)]
        refine w12_3 ⟨fun _ => ⟨_, rfl, _, sl_of h1 rfl, _, x1, _, x2, fun h => ?_, fun h => ?_⟩, fun h => by omega⟩
        · rw [i64w (by omega)] at h
          rw [i64w (x := ((gn l i : Nat) : Int)) (by omega)]
          refine four _ ?_
          rw [Bool.eq_iff_iff]; simp; omega
        · rw [i64w (by omega)] at h
          rw [i64w (x := ((gn l i : Nat) : Int)) (by omega)]
          refine four _ ?_
          rw [Bool.eq_iff_iff]; simp; omega
    -- the loop that counts the bits
    have step2 : ∀ (r : Nat), 3 ≤ r → r ≤ 7 → ∀ (t i : Nat), i + t = r → A12_2 s (some ⟨2 * M.nb.size, 0, none⟩) (some ⟨2 * N0.nb.size, 0, none⟩) (n : Nat) (r : Nat) ((2 ^ i : Nat) : Int) (i : Nat) R (TbR M (adL l r s, upK k, 0)) := by
      intro r r3 r7 t
      induction t with
      | zero =>
        intro i hi
        obtain rfl : i = r := by omega
        have d0 := Mem.new_at R (tcells none 0 0 0)
        have Kd : Keep R (R.new (tcells none 0 0 0)) := .new _ _
        obtain ⟨M1, p1, M2, p2, C7, s7, u7⟩ := put2 (A := none) (n := 0) (c := 0) (k := if 32 < IntKind.i64.wrap (k + 1) then 32 else IntKind.i64.wrap (k + 1)) d0 (by rw [(K2.trans Kd).floor]; have := K2.size; omega)
        have hk : (if 32 < IntKind.i64.wrap (k + 1) then 32 else IntKind.i64.wrap (k + 1)) = upK k := by
          have := ho.k0; have := ho.k1
          rw [i64w (by omega)]; rfl
        rw [hk] at u7
        have hN0 := lt_of_at b1
        have hM := lt_of_at a1
        have K7 : Keep M M2 := Keep.step (K2.trans Kd) C7 fun p hp => by rw [hp]; exact K2.size
        refine w12_2 ⟨fun h => by omega, fun _ => ⟨_, rfl, _, int_of a1 rfl, _, p1, _, p2, ?_⟩⟩
        exact step3 (R := R) i r3 r7 K2 a1 b1 hN0 n 0 none 0 (Nat.zero_add _) (Nat.le_refl _) K7 (at_chg (at_keep a1 Kd) C7 (by omega)) (at_chg (at_keep b1 Kd) C7 (by omega)) u7 Own.empty
      | succ t ih =>
        intro i hi
        have hp : 2 ^ i ≤ 128 := by
          have : ∀ q : Fin 8, 2 ^ q.val ≤ 128 := by decide
          exact this ⟨i, by omega⟩
        refine w12_2 ⟨fun _ => ?_, fun h => by omega⟩
        rw [i64w (x := (i : Int) + 1) (by omega), show ((i : Int) + 1) = ((i + 1 : Nat) : Int) by omega]
        have e : IntKind.i64.wrap (((2 ^ i : Nat) : Int) * 2) = ((2 ^ (i + 1) : Nat) : Int) := by
          rw [Nat.pow_succ]
          generalize 2 ^ i = z at hp ⊢
          rw [i64w (by omega)]; omega
        rw [e]
        exact ih (i + 1) (by omega)
    have hlog := log_fast (n := n) (by omega)
    have e : (if (2 : Int) < ((Nat.log2 n : Nat) : Int) then 2 else ((Nat.log2 n : Nat) : Int)) = ((fast n : Nat) : Int) := by
      rw [← hlog]
      by_cases h : 2 < Nat.log2 n
      · rw [if_pos h, if_pos (by omega)]; rfl
      · rw [if_neg h, if_neg (by omega)]
    refine ⟨_, rfl, _, sl_of a1 rfl, Cn.eq (c35 (n := n) (by omega)) ⟨_, rfl, _, rfl, _, int_of a1 rfl, fun hk => ⟨_, rfl, _, int_of a1 rfl, fun hk2 => ?_, fun hk2 => ?_⟩, fun hk => ⟨_, rfl, _, int_of a1 rfl, fun hk2 => by omega, fun hk2 => ?_⟩⟩⟩
    · rw [e, i64w (x := 3 + _) (by omega), i64w (x := 3 + _ + 1) (by omega), i64w (by omega)]
      have er : rateS l.length k = 3 + fast n + 1 + 1 := by unfold rateS; rw [if_pos (by omega), if_pos (by omega), hn]
      rw [er]
      exact step2 (3 + fast n + 1 + 1) (by omega) (by omega) _ 0 (Nat.zero_add _)
    · rw [e, i64w (x := 3 + _) (by omega), i64w (by omega)]
      have er : rateS l.length k = 3 + fast n + 1 := by unfold rateS; rw [if_pos (by omega), if_neg (by omega), hn]
      rw [er]
      exact step2 (3 + fast n + 1) (by omega) (by omega) _ 0 (Nat.zero_add _)
    · rw [e, i64w (x := 3 + _) (by omega)]
      have er : rateS l.length k = 3 + fast n := by unfold rateS; rw [if_neg (by omega), if_neg (by omega), hn]; rfl
      rw [er]
      exact step2 (3 + fast n) (by omega) (by omega) _ 0 (Nat.zero_add _)
  refine ⟨_, rfl, fun h => key _ ?_, fun h => ⟨fun h2 => key _ ?_, fun h2 => ⟨_, sl_of a1 rfl, key _ ?_⟩⟩⟩
  · rw [Bool.eq_iff_iff]; simp; omega
  · rw [Bool.eq_iff_iff]; simp; omega
  · rw [Bool.eq_iff_iff]; simp; omega
end
end Go.Zt
