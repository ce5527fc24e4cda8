/- Layer 20: the program's Check of a frame header. -/
import Derived.Test.YtgepgbblmodagaaZlM
set_option linter.unusedSimpArgs false
set_option linter.unusedVariables false
set_option maxRecDepth 100000
namespace Go.Zt
open Go Go.Sim Go.Proofs Go.RowKit
section
variable {h : Hd} {X : List Sg} {M0 M : Mem} {j : Nat}
theorem e58_10 {A : Option Addr} {n c : Nat} (hf : M0.floor ≤ M0.nb.size) (hn : n = X.length) (hb : n ≤ 1048576) {r : Bool} : ∀ (k i : Nat) {M : Mem}, i + k = n → Keep M0 M → Row M A (Sgs X) → (r = (X.drop i).all Sg.may) → A58_10 A n c (n : Int) (i : Int) M (BK M0 r)
  | 0, i, M, hi, K, hR, hr => w58_10 (cd (fun h => by omega) fun _ => ⟨by rw [hr, List.drop_of_length_le (by omega)]; rfl, K⟩)
  | k + 1, i, M, hi, K, hR, hr => by
    have hlt : i < X.length := by omega
    obtain ⟨a, g0, g1, g2, g3, g4⟩ := Sgs.elt hR (n := n) (i := i) (z := (i : Int)) rfl (by omega) hlt
    refine w58_10 (cT (decide_eq_true (by omega)) (ix g0 (on g1 (on g2 (on g3 (on g4 (stN (fb hf K) rfl rfl rfl fun M' K' _ a' => on (int_of a' rfl) (on (int_of a' rfl) (on (int_of a' rfl) (on (int_of a' rfl) (Cn.mono c79 ?_)))))))))))
    rintro _ N ⟨rfl, K2⟩
    rw [List.drop_eq_getElem_cons hlt, List.all_cons] at hr
    refine ty rfl (cnn (fun h => ⟨by rw [hr, h]; rfl, (K.trans K').trans K2⟩) fun h => ?_)
    rw [h, Bool.true_and] at hr
    rw [i64w (by omega)]
    exact e58_10 hf hn hb k (i + 1) (by omega) ((K.trans K').trans K2) ((hR.keep K').keep K2) hr
theorem e58_8 (hf : M0.floor ≤ M0.nb.size) (hn : h.n = X.length) (hb : h.n ≤ 1048576) (K : Keep M0 M) (hR : Row M h.A (Sgs X)) (a : M.nb[j]? = some (.cells h.cs 41))
    (hm : h.mayF X = (decide ((0 ≤ h.l0 ∧ h.l0 ≤ 63) ∧ (0 ≤ h.l1 ∧ h.l1 ≤ 63) ∧ (0 ≤ h.l2 ∧ h.l2 ≤ 63) ∧ (0 ≤ h.l3 ∧ h.l3 ≤ 63)) && X.all Sg.may)) : A58_8 (some ⟨2 * j, 0, none⟩) h.l0 h.l1 h.l2 h.l3 0 M (BK M0 (h.mayF X)) := by
  have bad : ¬ ((0 ≤ h.l0 ∧ h.l0 ≤ 63) ∧ (0 ≤ h.l1 ∧ h.l1 ≤ 63) ∧ (0 ≤ h.l2 ∧ h.l2 ≤ 63) ∧ (0 ≤ h.l3 ∧ h.l3 ≤ 63)) → BK M0 (h.mayF X) (.bool false) M := fun hb => ⟨by rw [hm, decide_eq_false hb]; rfl, K⟩
  refine w58_8 (cT (by decide) (pu (x := .int .i64 h.l0) (by kernel_rfl) (ty rfl (Cn.eq c55 (ty rfl (cnn (fun h0 => bad (by have := dF h0; omega)) fun h0 => ?_))))))
  refine w58_8 (cT (by decide) (pu (x := .int .i64 h.l1) (by kernel_rfl) (ty rfl (Cn.eq c55 (ty rfl (cnn (fun h1 => bad (by have := dF h1; omega)) fun h1 => ?_))))))
  refine w58_8 (cT (by decide) (pu (x := .int .i64 h.l2) (by kernel_rfl) (ty rfl (Cn.eq c55 (ty rfl (cnn (fun h2 => bad (by have := dF h2; omega)) fun h2 => ?_))))))
  refine w58_8 (cT (by decide) (pu (x := .int .i64 h.l3) (by kernel_rfl) (ty rfl (Cn.eq c55 (ty rfl (cnn (fun h3 => bad (by have := dF h3; omega)) fun h3 => ?_))))))
  refine w58_8 (cF (by decide) (ad rfl (on (sl_of a rfl) ?_)))
  have := dT h0; have := dT h1; have := dT h2; have := dT h3
  rw [decide_eq_true (by omega), Bool.true_and] at hm
  exact e58_10 hf hn hb h.n 0 (by omega) K hR (by rw [hm]; rfl)
def Hd.many (h : Hd) : Nat := if h.cd then 2 ^ (h.cb % 4).toNat else 0
theorem e58_2 (hf : M0.floor ≤ M0.nb.size) (hn : h.n = X.length) (hb : h.n ≤ 1048576) (K : Keep M0 M) (hR : Row M h.A (Sgs X)) (a : M.nb[j]? = some (.cells h.cs 41)) (hl : h.less = false) (b : Bool)
    (h1 : b = true → ¬ ((0 ≤ h.sp ∧ h.sp ≤ 7) ∧ X.length = h.many)) (h0 : b = false → (0 ≤ h.sp ∧ h.sp ≤ 7) ∧ X.length = h.many) : A58_2 (some ⟨2 * j, 0, none⟩) b M (BK M0 (h.mayF X)) := by
  have sp : h.mayF X = (decide ((0 ≤ h.sp ∧ h.sp ≤ 7) ∧ (if h.cd then (3 ≤ h.da ∧ h.da ≤ 6) ∧ (0 ≤ h.cb ∧ h.cb ≤ 3) ∧ X.length = 2 ^ h.cb.toNat else h.da = 0 ∧ h.cb = 0 ∧ X.length = 0) ∧
    (0 ≤ h.l0 ∧ h.l0 ≤ 63) ∧ (0 ≤ h.l1 ∧ h.l1 ≤ 63) ∧ (0 ≤ h.l2 ∧ h.l2 ≤ 63) ∧ (0 ≤ h.l3 ∧ h.l3 ≤ 63)) && X.all Sg.may) := by unfold Hd.mayF; rw [hl]; rfl
  have bad : ∀ {p : Prop}, p → (p → ¬ ((0 ≤ h.sp ∧ h.sp ≤ 7) ∧ (if h.cd then (3 ≤ h.da ∧ h.da ≤ 6) ∧ (0 ≤ h.cb ∧ h.cb ≤ 3) ∧ X.length = 2 ^ h.cb.toNat else h.da = 0 ∧ h.cb = 0 ∧ X.length = 0))) → BK M0 (h.mayF X) (.bool false) M := fun hp hb =>
    ⟨by rw [sp, decide_eq_false fun hh => hb hp ⟨hh.1, hh.2.1⟩]; rfl, K⟩
  have e6 : ∀ b : Bool, (b = true → ¬ (h.cd = false → h.da = 0 ∧ h.cb = 0)) → (b = false → (0 ≤ h.sp ∧ h.sp ≤ 7) ∧ X.length = h.many ∧ (h.cd = true → (3 ≤ h.da ∧ h.da ≤ 6) ∧ (0 ≤ h.cb ∧ h.cb ≤ 3)) ∧ (h.cd = false → h.da = 0 ∧ h.cb = 0)) → A58_6 (some ⟨2 * j, 0, none⟩) b M (BK M0 (h.mayF X)) := by
    intro b g1 g0
    refine w58_6 (cn (fun hb => bad (g1 hb) fun hh ⟨_, h2⟩ => hh fun hc => ?_) fun hb => ad rfl (on (int_of a rfl) (on (int_of a rfl) (on (int_of a rfl) (on (int_of a rfl) (e58_8 hf hn ‹_› K hR a ?_))))))
    · rw [hc, if_neg (by decide)] at h2; exact ⟨h2.1, h2.2.1⟩
    · obtain ⟨q1, q2, q3, q4⟩ := g0 hb
      rw [sp]
      congr 1
      rw [decide_eq_decide]
      refine ⟨fun hh => hh.2.2, fun hh => ⟨q1, ?_, hh⟩⟩
      cases hc : h.cd with
      | true =>
        rw [if_pos rfl]
        have := q3 hc
        refine ⟨this.1, this.2, ?_⟩
        rw [q2]; unfold Hd.many; rw [hc, if_pos rfl, Int.emod_eq_of_lt this.2.1 (by omega)]
      | false =>
        rw [if_neg (by decide)]
        have := q4 hc
        refine ⟨this.1, this.2, ?_⟩
        rw [q2]; unfold Hd.many; rw [hc]; rfl
  have e4 : ∀ b : Bool, (b = true → ¬ (h.cd = true → (3 ≤ h.da ∧ h.da ≤ 6) ∧ (0 ≤ h.cb ∧ h.cb ≤ 3))) → (b = false → (0 ≤ h.sp ∧ h.sp ≤ 7) ∧ X.length = h.many ∧ (h.cd = true → (3 ≤ h.da ∧ h.da ≤ 6) ∧ (0 ≤ h.cb ∧ h.cb ≤ 3))) → A58_4 (some ⟨2 * j, 0, none⟩) b M (BK M0 (h.mayF X)) := by
    intro b g1 g0
    refine w58_4 (cn (fun hb => bad (g1 hb) fun hh ⟨_, h2⟩ => hh fun hc => ?_) fun hb => ad rfl (on (bool_of a rfl) (cnn (fun hc => ad rfl (on (int_of a rfl) (cne (fun hd => e6 _ (fun _ hh => hd (hh hc).1) fun h => (by cases h)) fun hd => ad rfl (on (int_of a rfl) (e6 _ (fun hx hh => ne_of_bneT hx (hh hc).2) fun hx => ?_))))) fun hc => e6 _ (fun h => (by cases h)) fun _ => ?_)))
    · rw [hc, if_pos rfl] at h2; exact ⟨h2.1, h2.2.1⟩
    · obtain ⟨q1, q2, q3⟩ := g0 hb
      exact ⟨q1, q2, q3, fun _ => ⟨hd, eq_of_bneF hx⟩⟩
    · obtain ⟨q1, q2, q3⟩ := g0 hb
      exact ⟨q1, q2, q3, fun hc' => by rw [hc] at hc'; cases hc'⟩
  refine w58_2 (cn (fun hb => bad (h1 hb) fun hh ⟨g1, g2⟩ => hh ⟨g1, ?_⟩) fun hb => ad rfl (on (bool_of a rfl) (cn (fun hc => ad rfl (on (int_of a rfl) (Cn.eq c55 (ty rfl (cnn (fun hd => e4 _ (fun _ hh => dF hd (hh hc).1) fun h => (by cases h)) fun hd => ad rfl (on (int_of a rfl) (Cn.eq c55 (ty rfl (e4 _ (fun hx hh => ?_) fun hx => ?_))))))))) fun hc => e4 _ (fun h => (by cases h)) fun _ => ?_)))
  · cases hc : h.cd with
    | true =>
      rw [hc, if_pos rfl] at g2
      rw [g2.2.2]; unfold Hd.many; rw [hc, if_pos rfl, Int.emod_eq_of_lt g2.2.1.1 (by omega)]
    | false =>
      rw [hc, if_neg (by decide)] at g2
      rw [g2.2.2]; unfold Hd.many; rw [hc]; rfl
  · have hx' := dF (nb hx); exact hx' (hh hc).2
  · obtain ⟨q1, q2⟩ := h0 hb
    exact ⟨q1, q2, fun _ => ⟨dT hd, dT (nb' hx)⟩⟩
  · obtain ⟨q1, q2⟩ := h0 hb
    exact ⟨q1, q2, fun hc' => by rw [hc] at hc'; cases hc'⟩
theorem e58_1 (hn : h.n = X.length) (K : Keep M0 M) (a : M.nb[j]? = some (.cells h.cs 41)) (hl : h.less = true) (b : Bool)
    (hb : b = decide ((h.l0 = 0 ∧ h.l1 = 0 ∧ h.l2 = 0 ∧ h.l3 = 0) ∧ h.sp = 0)) : A58_1 (some ⟨2 * j, 0, none⟩) b M (BK M0 (h.mayF X)) := by
  have sp : h.mayF X = decide ((h.l0 = 0 ∧ h.l1 = 0 ∧ h.l2 = 0 ∧ h.l3 = 0) ∧ h.sp = 0 ∧ h.cd = false ∧ h.da = 0 ∧ h.cb = 0 ∧ X.length = 0 ∧ (h.x0 = false ∧ h.x1 = false ∧ h.x2 = false)) := by unfold Hd.mayF; rw [hl]; rfl
  have e9 : ∀ b : Bool, (b = decide (((h.l0 = 0 ∧ h.l1 = 0 ∧ h.l2 = 0 ∧ h.l3 = 0) ∧ h.sp = 0) ∧ h.cd = false ∧ h.da = 0 ∧ h.cb = 0 ∧ X.length = 0)) → A58_9 (some ⟨2 * j, 0, none⟩) b M (BK M0 (h.mayF X)) := by
    rintro b rfl
    refine w58_9 (cd (fun hh => ad rfl (on (bool_of a rfl) (on (bool_of a rfl) (on (bool_of a rfl) (pu (eq39 ..).1 (ty rfl ⟨?_, K⟩)))))) fun hh => ⟨?_, K⟩)
    · rw [sp]; congr 1; rw [decide_eq_decide]; exact ⟨fun g => ⟨hh.1.1, hh.1.2, hh.2.1, hh.2.2.1, hh.2.2.2.1, hh.2.2.2.2, g⟩, fun g => g.2.2.2.2.2.2⟩
    · rw [sp]; exact bF fun g => hh ⟨⟨g.1, g.2.1⟩, g.2.2.1, g.2.2.2.1, g.2.2.2.2.1, g.2.2.2.2.2.1⟩
  have e7 : ∀ b : Bool, (b = decide (((h.l0 = 0 ∧ h.l1 = 0 ∧ h.l2 = 0 ∧ h.l3 = 0) ∧ h.sp = 0) ∧ h.cd = false ∧ h.da = 0 ∧ h.cb = 0)) → A58_7 (some ⟨2 * j, 0, none⟩) b M (BK M0 (h.mayF X)) := by
    rintro b rfl
    refine w58_7 (cd (fun hh => ad rfl (on (sl_of a rfl) (e9 _ ?_))) fun hh => e9 _ ?_)
    · rw [Bool.eq_iff_iff, beq_iff_eq, decide_eq_true_eq, hn]
      show ((X.length : Nat) : Int) = 0 ↔ _
      exact ⟨fun g => ⟨hh.1, hh.2.1, hh.2.2.1, hh.2.2.2, by omega⟩, fun g => by have := g.2.2.2.2; omega⟩
    · rw [eq_comm]; exact decide_eq_false fun g => hh ⟨g.1, g.2.1, g.2.2.1, g.2.2.2.1⟩
  have e5 : ∀ b : Bool, (b = decide (((h.l0 = 0 ∧ h.l1 = 0 ∧ h.l2 = 0 ∧ h.l3 = 0) ∧ h.sp = 0) ∧ h.cd = false ∧ h.da = 0)) → A58_5 (some ⟨2 * j, 0, none⟩) b M (BK M0 (h.mayF X)) := by
    rintro b rfl
    refine w58_5 (cd (fun hh => ad rfl (on (int_of a rfl) (e7 _ ?_))) fun hh => e7 _ ?_)
    · rw [Bool.eq_iff_iff, beq_iff_eq, decide_eq_true_eq]
      exact ⟨fun g => ⟨hh.1, hh.2.1, hh.2.2, g⟩, fun g => g.2.2.2⟩
    · rw [eq_comm]; exact decide_eq_false fun g => hh ⟨g.1, g.2.1, g.2.2.1⟩
  have e3 : ∀ b : Bool, (b = decide (((h.l0 = 0 ∧ h.l1 = 0 ∧ h.l2 = 0 ∧ h.l3 = 0) ∧ h.sp = 0) ∧ h.cd = false)) → A58_3 (some ⟨2 * j, 0, none⟩) b M (BK M0 (h.mayF X)) := by
    rintro b rfl
    refine w58_3 (cd (fun hh => ad rfl (on (int_of a rfl) (e5 _ ?_))) fun hh => e5 _ ?_)
    · rw [Bool.eq_iff_iff, beq_iff_eq, decide_eq_true_eq]
      exact ⟨fun g => ⟨hh.1, hh.2, g⟩, fun g => g.2.2⟩
    · rw [eq_comm]; exact decide_eq_false fun g => hh ⟨g.1, g.2.1⟩
  subst hb
  refine w58_1 (cd (fun hh => ad rfl (on (bool_of a rfl) (e3 _ ?_))) fun hh => e3 _ ?_)
  · cases h.cd
    · rw [eq_comm]; exact decide_eq_true ⟨hh, rfl⟩
    · rw [eq_comm]; exact decide_eq_false fun g => by cases g.2
  · rw [eq_comm]; exact decide_eq_false fun g => hh g.1
theorem c58 (hf : M.floor ≤ M.nb.size) (hn : h.n = X.length) (hb : h.n ≤ 1048576) (hR : Row M h.A (Sgs X)) : Cn Try.prog 58 #[.agg h.cs] M (BK M (h.mayF X)) := by
  have a := Mem.new_at M (.cells h.cs 41)
  have K : Keep M (M.new (.cells h.cs 41)) := .new _ _
  refine w58_0 ?_
  generalize M.new (.cells h.cs 41) = N at a K ⊢
  have two : ∀ {N2 : Mem}, Keep N N2 → h.less = true → BK M (h.mayF X) = BK M (h.mayF X) := fun _ _ => rfl
  refine on (bool_of a rfl) (cn (fun hc => on (int_of a rfl) ?_) fun hc => ?_)
  · have mq : h.many = 2 ^ (h.cb % 4).toNat := by unfold Hd.many; rw [hc]; rfl
    have q3 : (h.cb % 4).toNat ≤ 3 := by omega
    have ew : IntKind.u64.wrap h.cb = (((h.cb % 18446744073709551616).toNat : Nat) : Int) := by rw [IntKind.wrap_u64]; omega
    have em := and_mask (k := .u64) rfl (x := (h.cb % 18446744073709551616).toNat) (m := 2) (c := 3) rfl (by decide) (show _ < 18446744073709551616 by omega)
    have e4 : (((h.cb % 18446744073709551616).toNat % 2 ^ 2 : Nat) : Int) = (((h.cb % 4).toNat : Nat) : Int) := by omega
    rw [ew, em, e4]
    have hp : (2 : Int) ^ (h.cb % 4).toNat = ((2 ^ (h.cb % 4).toNat : Nat) : Int) := by push_cast; rfl
    have hp8 : 2 ^ (h.cb % 4).toNat ≤ 8 := Nat.pow_le_pow_right (n := 2) (by decide) q3
    refine pu (shl_i64 (q := (h.cb % 4).toNat) rfl (by rw [hp]; omega) (by omega)) (ty rfl (ldA a rfl (Cn.mono c77 ?_)))
    rintro _ N2 ⟨rfl, K2⟩
    have a2 := at_keep a K2
    have KK := K.trans K2
    refine ty rfl (cn (fun hl => ?_) fun hl => ?_)
    · refine on (int_of a2 rfl) (on (int_of a2 rfl) (on (int_of a2 rfl) (on (int_of a2 rfl) (pu (eq37 ..).1 (ty rfl (cd (fun hh => on (int_of a2 rfl) (e58_1 hn KK a2 hl _ ?_)) fun hh => e58_1 hn KK a2 hl _ ?_))))))
      · rw [Bool.eq_iff_iff, beq_iff_eq, decide_eq_true_eq]; exact ⟨fun g => ⟨hh, g⟩, fun g => g.2⟩
      · rw [eq_comm]; exact decide_eq_false fun g => hh g.1
    · refine on (int_of a2 rfl) (Cn.eq c55 (ty rfl (cnn (fun hs => e58_2 hf hn hb KK (hR.keep KK) a2 hl _ (fun _ g => dF hs g.1) fun h => (by cases h)) fun hs => on (sl_of a2 rfl) (e58_2 hf hn hb KK (hR.keep KK) a2 hl _ (fun hx g => ?_) fun hx => ⟨dT hs, ?_⟩))))
      · have := ne_of_bneT hx
        rw [hp, hn, g.2, mq, Int.one_mul] at this; exact this rfl
      · have : ((h.n : Nat) : Int) = 1 * 2 ^ (h.cb % 4).toNat := eq_of_bneF hx
        rw [hp, hn, Int.one_mul] at this
        rw [mq]; omega
  · have mq : h.many = 0 := by unfold Hd.many; rw [hc]; rfl
    refine ldA a rfl (Cn.mono c77 ?_)
    rintro _ N2 ⟨rfl, K2⟩
    have a2 := at_keep a K2
    have KK := K.trans K2
    refine ty rfl (cn (fun hl => ?_) fun hl => ?_)
    · refine on (int_of a2 rfl) (on (int_of a2 rfl) (on (int_of a2 rfl) (on (int_of a2 rfl) (pu (eq37 ..).1 (ty rfl (cd (fun hh => on (int_of a2 rfl) (e58_1 hn KK a2 hl _ ?_)) fun hh => e58_1 hn KK a2 hl _ ?_))))))
      · rw [Bool.eq_iff_iff, beq_iff_eq, decide_eq_true_eq]; exact ⟨fun g => ⟨hh, g⟩, fun g => g.2⟩
      · rw [eq_comm]; exact decide_eq_false fun g => hh g.1
    · refine on (int_of a2 rfl) (Cn.eq c55 (ty rfl (cnn (fun hs => e58_2 hf hn hb KK (hR.keep KK) a2 hl _ (fun _ g => dF hs g.1) fun h => (by cases h)) fun hs => on (sl_of a2 rfl) (e58_2 hf hn hb KK (hR.keep KK) a2 hl _ (fun hx g => ?_) fun hx => ⟨dT hs, ?_⟩))))
      · have := ne_of_bneT hx
        rw [hn, g.2, mq] at this; exact this rfl
      · have : ((h.n : Nat) : Int) = 0 := eq_of_bneF hx
        rw [hn] at this
        rw [mq]; omega
theorem c56 (hf : M.floor ≤ M.nb.size) (hn : h.n = X.length) (hb : h.n ≤ 1048576) (hR : Row M h.A (Sgs X)) : Cn Try.prog 56 #[.agg h.cs] M (BK M (h.mt X)) := by
  have a := Mem.new_at M (.cells h.cs 41)
  have K : Keep M (M.new (.cells h.cs 41)) := .new _ _
  refine w56_0 ?_
  generalize M.new (.cells h.cs 41) = N at a K ⊢
  have sp : h.mt X = decide (h.sh = false ∧ h.ke = false ∧ h.rf = 0 ∧ (h.r0 = 0 ∧ h.r1 = 0 ∧ h.r2 = 0) ∧ h.pr = 0 ∧ h.less = true ∧ h.co = 0 ∧ h.ro = 0 ∧ h.na = false ∧ h.mayF X = true) := rfl
  generalize M.nb.size = j at a
  have e8 : ∀ {N : Mem} (b : Bool), Keep M N → N.nb[j]? = some (.cells h.cs 41) → (b = decide (h.sh = false ∧ h.ke = false ∧ h.rf = 0 ∧ (h.r0 = 0 ∧ h.r1 = 0 ∧ h.r2 = 0) ∧ h.pr = 0 ∧ h.less = true ∧ h.co = 0 ∧ h.ro = 0 ∧ h.na = false)) → A56_8 (some ⟨2 * j, 0, none⟩) b N (BK M (h.mt X)) := by
    rintro N b K a rfl
    refine w56_8 (cd (fun hh => ad rfl (ldA a rfl (Cn.mono (c58 (fb hf K) hn hb (hR.keep K)) ?_))) fun hh => ⟨?_, K⟩)
    · rintro _ N2 ⟨rfl, K2⟩
      refine ty rfl ⟨?_, K.trans K2⟩
      rw [sp]; congr 1
      rw [Bool.eq_iff_iff, decide_eq_true_eq]
      exact ⟨fun g => ⟨hh.1, hh.2.1, hh.2.2.1, hh.2.2.2.1, hh.2.2.2.2.1, hh.2.2.2.2.2.1, hh.2.2.2.2.2.2.1, hh.2.2.2.2.2.2.2.1, hh.2.2.2.2.2.2.2.2, g⟩, fun g => g.2.2.2.2.2.2.2.2.2⟩
    · rw [sp]; exact bF fun g => hh ⟨g.1, g.2.1, g.2.2.1, g.2.2.2.1, g.2.2.2.2.1, g.2.2.2.2.2.1, g.2.2.2.2.2.2.1, g.2.2.2.2.2.2.2.1, g.2.2.2.2.2.2.2.2.1⟩
  have fin : ∀ {b b' : Bool} {p : Prop} [Decidable p], b = true → (p ↔ b' = true) → b' = decide p := fun _ h => by rw [Bool.eq_iff_iff, decide_eq_true_eq]; exact h.symm
  have e7 : ∀ {N : Mem} (b : Bool), Keep M N → N.nb[j]? = some (.cells h.cs 41) → (b = decide (h.sh = false ∧ h.ke = false ∧ h.rf = 0 ∧ (h.r0 = 0 ∧ h.r1 = 0 ∧ h.r2 = 0) ∧ h.pr = 0 ∧ h.less = true ∧ h.co = 0 ∧ h.ro = 0)) → A56_7 (some ⟨2 * j, 0, none⟩) b N (BK M (h.mt X)) := by
    rintro N b K a rfl
    exact w56_7 (cd (fun hh => ad rfl (on (bool_of a rfl) (e8 _ K a (by simp only [hh, true_and]; cases h.na <;> rfl)))) fun hh => e8 _ K a (by rw [eq_comm]; exact decide_eq_false fun g => hh ⟨g.1, g.2.1, g.2.2.1, g.2.2.2.1, g.2.2.2.2.1, g.2.2.2.2.2.1, g.2.2.2.2.2.2.1, g.2.2.2.2.2.2.2.1⟩))
  have e6 : ∀ {N : Mem} (b : Bool), Keep M N → N.nb[j]? = some (.cells h.cs 41) → (b = decide (h.sh = false ∧ h.ke = false ∧ h.rf = 0 ∧ (h.r0 = 0 ∧ h.r1 = 0 ∧ h.r2 = 0) ∧ h.pr = 0 ∧ h.less = true ∧ h.co = 0)) → A56_6 (some ⟨2 * j, 0, none⟩) b N (BK M (h.mt X)) := by
    rintro N b K a rfl
    exact w56_6 (cd (fun hh => ad rfl (on (int_of a rfl) (e7 _ K a (by simp only [hh, true_and]; rfl)))) fun hh => e7 _ K a (by rw [eq_comm]; exact decide_eq_false fun g => hh ⟨g.1, g.2.1, g.2.2.1, g.2.2.2.1, g.2.2.2.2.1, g.2.2.2.2.2.1, g.2.2.2.2.2.2.1⟩))
  have e5 : ∀ {N : Mem} (b : Bool), Keep M N → N.nb[j]? = some (.cells h.cs 41) → (b = decide (h.sh = false ∧ h.ke = false ∧ h.rf = 0 ∧ (h.r0 = 0 ∧ h.r1 = 0 ∧ h.r2 = 0) ∧ h.pr = 0 ∧ h.less = true)) → A56_5 (some ⟨2 * j, 0, none⟩) b N (BK M (h.mt X)) := by
    rintro N b K a rfl
    exact w56_5 (cd (fun hh => ad rfl (on (int_of a rfl) (e6 _ K a (by simp only [hh, true_and]; rfl)))) fun hh => e6 _ K a (by rw [eq_comm]; exact decide_eq_false fun g => hh ⟨g.1, g.2.1, g.2.2.1, g.2.2.2.1, g.2.2.2.2.1, g.2.2.2.2.2.1⟩))
  have e4 : ∀ {N : Mem} (b : Bool), Keep M N → N.nb[j]? = some (.cells h.cs 41) → (b = decide (h.sh = false ∧ h.ke = false ∧ h.rf = 0 ∧ (h.r0 = 0 ∧ h.r1 = 0 ∧ h.r2 = 0) ∧ h.pr = 0)) → A56_4 (some ⟨2 * j, 0, none⟩) b N (BK M (h.mt X)) := by
    rintro N b K a rfl
    refine w56_4 (cd (fun hh => ad rfl (ldA a rfl (Cn.mono c77 ?_))) fun hh => e5 _ K a (by rw [eq_comm]; exact decide_eq_false fun g => hh ⟨g.1, g.2.1, g.2.2.1, g.2.2.2.1, g.2.2.2.2.1⟩))
    rintro _ N2 ⟨rfl, K2⟩
    exact ty rfl (e5 _ (K.trans K2) (at_keep a K2) (by simp only [hh, true_and]; cases h.less <;> rfl))
  have e3 : ∀ {N : Mem} (b : Bool), Keep M N → N.nb[j]? = some (.cells h.cs 41) → (b = decide (h.sh = false ∧ h.ke = false ∧ h.rf = 0 ∧ (h.r0 = 0 ∧ h.r1 = 0 ∧ h.r2 = 0))) → A56_3 (some ⟨2 * j, 0, none⟩) b N (BK M (h.mt X)) := by
    rintro N b K a rfl
    exact w56_3 (cd (fun hh => ad rfl (on (int_of a rfl) (e4 _ K a (by simp only [hh, true_and]; rfl)))) fun hh => e4 _ K a (by rw [eq_comm]; exact decide_eq_false fun g => hh ⟨g.1, g.2.1, g.2.2.1, g.2.2.2.1⟩))
  have e2 : ∀ {N : Mem} (b : Bool), Keep M N → N.nb[j]? = some (.cells h.cs 41) → (b = decide (h.sh = false ∧ h.ke = false ∧ h.rf = 0)) → A56_2 (some ⟨2 * j, 0, none⟩) b N (BK M (h.mt X)) := by
    rintro N b K a rfl
    exact w56_2 (cd (fun hh => ad rfl (on (int_of a rfl) (on (int_of a rfl) (on (int_of a rfl) (pu (eq35 ..).1 (ty rfl (e3 _ K a (by simp only [hh, true_and])))))))) fun hh => e3 _ K a (by rw [eq_comm]; exact decide_eq_false fun g => hh ⟨g.1, g.2.1, g.2.2.1⟩))
  have e1 : ∀ {N : Mem} (b : Bool), Keep M N → N.nb[j]? = some (.cells h.cs 41) → (b = decide (h.sh = false ∧ h.ke = false)) → A56_1 (some ⟨2 * j, 0, none⟩) b N (BK M (h.mt X)) := by
    rintro N b K a rfl
    exact w56_1 (cd (fun hh => ad rfl (on (int_of a rfl) (e2 _ K a (by simp only [hh, true_and]; rfl)))) fun hh => e2 _ K a (by rw [eq_comm]; exact decide_eq_false fun g => hh ⟨g.1, g.2.1⟩))
  exact on (bool_of a rfl) (cnn (fun hh => on (bool_of a rfl) (e1 _ K a (by simp only [hh, true_and]; cases h.ke <;> rfl))) fun hh => e1 _ K a (by rw [hh]; rfl))
end
end Go.Zt
