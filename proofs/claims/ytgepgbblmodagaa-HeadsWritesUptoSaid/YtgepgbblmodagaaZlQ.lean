/- Layer 20: the document's checks, second part: filters, Check. -/
import Derived.Test.YtgepgbblmodagaaZlP
set_option linter.unusedSimpArgs false
set_option linter.unusedVariables false
set_option maxRecDepth 100000
namespace Go.Zt
open Go Go.Sim Go.Proofs Go.RowKit
section
variable {h : Hd} {X : List Sg} {M0 M : Mem} {j i : Nat}
theorem e60_6 (hf : M0.floor ≤ M0.nb.size) (hn : h.n = X.length) (hb : h.n ≤ 1048576) {r : Bool} : ∀ (k q : Nat) {M : Mem}, q + k = h.n → Keep M0 M → M.nb[j]? = some (.cells h.cs 41) → Row M h.A (Sgs X) → (r = (X.drop q).all Sg.may) → A60_6 (some ⟨2 * j, 0, none⟩) (q : Int) M (BK M0 r)
  | 0, q, M, hq, K, a, hR, hr => w60_6 (ad rfl (on (sl_of a rfl) (cd (fun h' => by have : (q : Int) < (h.n : Int) := h'; omega) fun _ => ⟨by rw [hr, List.drop_of_length_le (by omega)]; rfl, K⟩)))
  | k + 1, q, M, hq, K, a, hR, hr => by
    have hlt : q < X.length := by omega
    obtain ⟨p, g0, g1, g2, g3, g4⟩ := Sgs.elt hR (n := h.n) (i := q) (z := (q : Int)) rfl (by omega) hlt
    rw [List.drop_eq_getElem_cons hlt, List.all_cons] at hr
    refine w60_6 (ad rfl (on (sl_of a rfl) (cT (decide_eq_true (show (q : Int) < (h.n : Int) by omega)) (ad rfl (on (sl_of a rfl) (ix g0 (on g1 (on g2 (on g3 (on g4 (stN (fb hf K) rfl rfl rfl fun M' K' _ a' => ?_)))))))))))
    have K2 := K.trans K'
    have a2 := at_keep a K'
    have hR2 := hR.keep K'
    generalize X[q] = x at *
    have e11 : ∀ b, (b = true → x.may = false) → (b = false → x.may = true) → A60_11 (some ⟨2 * j, 0, none⟩) (q : Int) b M' (BK M0 r) := fun b h1 h0 =>
      w60_11 (cn (fun hb' => ⟨by rw [hr, h1 hb']; rfl, K2⟩) fun hb' => by
        rw [i64w (by omega)]
        exact e60_6 hf hn hb k (q + 1) (by omega) K2 a2 hR2 (by rw [hr, h0 hb']; rfl))
    have mF : (¬ ((0 ≤ x.a ∧ x.a ≤ 15) ∧ (0 ≤ x.c ∧ x.c ≤ 15) ∧ (0 ≤ x.b ∧ x.b ≤ 3) ∧ (0 ≤ x.d ∧ x.d ≤ 3))) → x.may = false := fun g => decide_eq_false g
    have mT : ((0 ≤ x.a ∧ x.a ≤ 15) ∧ (0 ≤ x.c ∧ x.c ≤ 15) ∧ (0 ≤ x.b ∧ x.b ≤ 3) ∧ (0 ≤ x.d ∧ x.d ≤ 3)) → x.may = true := fun g => decide_eq_true g
    have e10 : ∀ b, (b = true → x.may = false) → (b = false → (0 ≤ x.a ∧ x.a ≤ 15) ∧ (0 ≤ x.c ∧ x.c ≤ 15) ∧ (0 ≤ x.b ∧ x.b ≤ 3)) → A60_10 (some ⟨2 * j, 0, none⟩) (q : Int) (some ⟨2 * M.nb.size, 0, none⟩) b M' (BK M0 r) := fun b h1 h0 =>
      w60_10 (cn (fun hb' => e11 _ (fun _ => h1 hb') fun h => (by cases h)) fun hb' => ad rfl (on (int_of a' rfl) (Cn.eq c45 (ty rfl (e11 _ (fun hx => mF fun g => dF (nb hx) g.2.2.2) fun hx => mT ⟨(h0 hb').1, (h0 hb').2.1, (h0 hb').2.2, dT (nb' hx)⟩)))))
    have e8 : ∀ b, (b = true → x.may = false) → (b = false → (0 ≤ x.a ∧ x.a ≤ 15) ∧ (0 ≤ x.c ∧ x.c ≤ 15)) → A60_8 (some ⟨2 * j, 0, none⟩) (q : Int) (some ⟨2 * M.nb.size, 0, none⟩) b M' (BK M0 r) := fun b h1 h0 =>
      w60_8 (cn (fun hb' => e10 _ (fun _ => h1 hb') fun h => (by cases h)) fun hb' => ad rfl (on (int_of a' rfl) (Cn.eq c45 (ty rfl (e10 _ (fun hx => mF fun g => dF (nb hx) g.2.2.1) fun hx => ⟨(h0 hb').1, (h0 hb').2, dT (nb' hx)⟩)))))
    exact on (int_of a' rfl) (Cn.eq c45 (ty rfl (cnn (fun hx => e8 _ (fun _ => mF fun g => dF hx g.1) fun h => (by cases h)) fun hx => on (int_of a' rfl) (Cn.eq c45 (ty rfl (e8 _ (fun hy => mF fun g => dF (nb hy) g.2.1) fun hy => ⟨dT hx, dT (nb' hy)⟩))))))
theorem e60_2 (hf : M0.floor ≤ M0.nb.size) (hn : h.n = X.length) (hb : h.n ≤ 1048576) (K : Keep M0 M) (a : M.nb[j]? = some (.cells h.cs 41)) (hR : Row M h.A (Sgs X)) (hl : h.less = false) : A60_2 (some ⟨2 * j, 0, none⟩) 0 M (BK M0 (h.mayF X)) := by
  have sp : h.mayF X = (decide ((0 ≤ h.sp ∧ h.sp ≤ 7) ∧ (if h.cd then (3 ≤ h.da ∧ h.da ≤ 6) ∧ (0 ≤ h.cb ∧ h.cb ≤ 3) ∧ X.length = 2 ^ h.cb.toNat else h.da = 0 ∧ h.cb = 0 ∧ X.length = 0) ∧
    (0 ≤ h.l0 ∧ h.l0 ≤ 63) ∧ (0 ≤ h.l1 ∧ h.l1 ≤ 63) ∧ (0 ≤ h.l2 ∧ h.l2 ≤ 63) ∧ (0 ≤ h.l3 ∧ h.l3 ≤ 63)) && X.all Sg.may) := by unfold Hd.mayF; rw [hl]; rfl
  have bad : (¬ ((0 ≤ h.sp ∧ h.sp ≤ 7) ∧ (if h.cd then (3 ≤ h.da ∧ h.da ≤ 6) ∧ (0 ≤ h.cb ∧ h.cb ≤ 3) ∧ X.length = 2 ^ h.cb.toNat else h.da = 0 ∧ h.cb = 0 ∧ X.length = 0) ∧
    (0 ≤ h.l0 ∧ h.l0 ≤ 63) ∧ (0 ≤ h.l1 ∧ h.l1 ≤ 63) ∧ (0 ≤ h.l2 ∧ h.l2 ≤ 63) ∧ (0 ≤ h.l3 ∧ h.l3 ≤ 63))) → BK M0 (h.mayF X) (.bool false) M := fun hb => ⟨by rw [sp, decide_eq_false hb]; rfl, K⟩
  refine w60_2 (cT (by decide) (ad rfl (ix (x := ⟨2 * j, 18, none⟩) (by kernel_rfl) (on (int_of (i := 18) a rfl) (Cn.eq c45 (ty rfl (cnn (fun h0 => bad (by have := dF h0; omega)) fun h0 => ?_)))))))
  refine w60_2 (cT (by decide) (ad rfl (ix (x := ⟨2 * j, 19, none⟩) (by kernel_rfl) (on (int_of (i := 19) a rfl) (Cn.eq c45 (ty rfl (cnn (fun h1 => bad (by have := dF h1; omega)) fun h1 => ?_)))))))
  refine w60_2 (cT (by decide) (ad rfl (ix (x := ⟨2 * j, 20, none⟩) (by kernel_rfl) (on (int_of (i := 20) a rfl) (Cn.eq c45 (ty rfl (cnn (fun h2 => bad (by have := dF h2; omega)) fun h2 => ?_)))))))
  refine w60_2 (cT (by decide) (ad rfl (ix (x := ⟨2 * j, 21, none⟩) (by kernel_rfl) (on (int_of (i := 21) a rfl) (Cn.eq c45 (ty rfl (cnn (fun h3 => bad (by have := dF h3; omega)) fun h3 => ?_)))))))
  have g0 := dT h0; have g1 := dT h1; have g2 := dT h2; have g3 := dT h3
  refine w60_2 (cF (by decide) (ad rfl (on (int_of a rfl) (Cn.eq c45 (ty rfl (cnn (fun h4 => bad (by have := dF h4; omega)) fun h4 => ad rfl (on (bool_of a rfl) ?_)))))))
  have g4 := dT h4
  have e4 : ∀ b, (b = true → ¬ (if h.cd then (3 ≤ h.da ∧ h.da ≤ 6) ∧ (0 ≤ h.cb ∧ h.cb ≤ 3) ∧ X.length = 2 ^ h.cb.toNat else h.da = 0 ∧ h.cb = 0 ∧ X.length = 0)) → (b = false → (if h.cd then (3 ≤ h.da ∧ h.da ≤ 6) ∧ (0 ≤ h.cb ∧ h.cb ≤ 3) ∧ X.length = 2 ^ h.cb.toNat else h.da = 0 ∧ h.cb = 0 ∧ X.length = 0)) → A60_4 (some ⟨2 * j, 0, none⟩) b M (BK M0 (h.mayF X)) := fun b h1 h0 =>
    w60_4 (cn (fun hb' => bad fun g => h1 hb' g.2.1) fun hb' => e60_6 hf hn hb h.n 0 (by omega) K a hR (by rw [sp, decide_eq_true ⟨g4, h0 hb', g0, g1, g2, g3⟩]; rfl))
  refine cnn (fun hc => ?_) fun hc => ?_
  · simp only [hc, Bool.false_eq_true, if_false] at sp bad
    refine ad rfl (on (int_of a rfl) (ce (fun hd => ad rfl (on (int_of a rfl) (ce (fun he => ad rfl (on (sl_of a rfl) ⟨?_, K⟩)) fun he => bad fun g => he g.2.1.2.1))) fun hd => bad fun g => hd g.2.1.1))
    rw [sp]
    congr 1
    show (((h.n : Nat) : Int) == 0) = _
    rw [hn]
    by_cases hX : X.length = 0
    · have : X = [] := List.length_eq_zero_iff.1 hX
      subst this
      rw [decide_eq_true ⟨g4, ⟨hd, he, rfl⟩, g0, g1, g2, g3⟩]; rfl
    · rw [decide_eq_false fun g => hX g.2.1.2.2, Bool.false_and, beq_eq_false_iff_ne]; omega
  · simp only [hc, if_true] at e4
    refine ad rfl (on (int_of a rfl) (Cn.eq c45 (ty rfl (cnn (fun hd => e4 _ (fun _ g => dF hd g.1) fun h => (by cases h)) fun hd => ad rfl (on (int_of a rfl) (Cn.eq c45 (ty rfl (cnn (fun he => e4 _ (fun _ g => dF he g.2.1) fun h => (by cases h)) fun he => ad rfl (on (sl_of a rfl) (ad rfl (on (int_of a rfl) ?_)))))))))))
    have he' := dT he
    obtain ⟨p1, p2⟩ := pow2 (n := h.cb) he'
    have hp : (2 : Int) ^ h.cb.toNat = ((2 ^ h.cb.toNat : Nat) : Int) := by push_cast; rfl
    refine pu (shl_i64 (q := h.cb.toNat) (by omega) (by omega) (by omega)) (ty rfl (e4 _ (fun hx g => ?_) fun hx => ⟨dT hd, he', ?_⟩))
    · have : ((h.n : Nat) : Int) ≠ 1 * 2 ^ h.cb.toNat := ne_of_bneT hx
      rw [hp, hn] at this; have := g.2.2; omega
    · have : ((h.n : Nat) : Int) = 1 * 2 ^ h.cb.toNat := eq_of_bneF hx
      rw [hp, hn] at this; omega
theorem e60_1 (hn : h.n = X.length) (K : Keep M0 M) (a : M.nb[j]? = some (.cells h.cs 41)) (hl : h.less = true) (b : Bool)
    (hb : b = decide ((h.l0 = 0 ∧ h.l1 = 0 ∧ h.l2 = 0 ∧ h.l3 = 0) ∧ h.sp = 0)) : A60_1 (some ⟨2 * j, 0, none⟩) b M (BK M0 (h.mayF X)) := by
  have sp : h.mayF X = decide ((h.l0 = 0 ∧ h.l1 = 0 ∧ h.l2 = 0 ∧ h.l3 = 0) ∧ h.sp = 0 ∧ h.cd = false ∧ h.da = 0 ∧ h.cb = 0 ∧ X.length = 0 ∧ (h.x0 = false ∧ h.x1 = false ∧ h.x2 = false)) := by unfold Hd.mayF; rw [hl]; rfl
  have e9 : ∀ b : Bool, (b = decide (((h.l0 = 0 ∧ h.l1 = 0 ∧ h.l2 = 0 ∧ h.l3 = 0) ∧ h.sp = 0) ∧ h.cd = false ∧ h.da = 0 ∧ h.cb = 0 ∧ X.length = 0)) → A60_9 (some ⟨2 * j, 0, none⟩) b M (BK M0 (h.mayF X)) := by
    rintro b rfl
    refine w60_9 (cd (fun hh => ad rfl (on (bool_of a rfl) (on (bool_of a rfl) (on (bool_of a rfl) (pu (eq39 ..).1 (ty rfl ⟨?_, K⟩)))))) fun hh => ⟨?_, K⟩)
    · rw [sp]; congr 1; rw [decide_eq_decide]; exact ⟨fun g => ⟨hh.1.1, hh.1.2, hh.2.1, hh.2.2.1, hh.2.2.2.1, hh.2.2.2.2, g⟩, fun g => g.2.2.2.2.2.2⟩
    · rw [sp]; exact bF fun g => hh ⟨⟨g.1, g.2.1⟩, g.2.2.1, g.2.2.2.1, g.2.2.2.2.1, g.2.2.2.2.2.1⟩
  have e7 : ∀ b : Bool, (b = decide (((h.l0 = 0 ∧ h.l1 = 0 ∧ h.l2 = 0 ∧ h.l3 = 0) ∧ h.sp = 0) ∧ h.cd = false ∧ h.da = 0 ∧ h.cb = 0)) → A60_7 (some ⟨2 * j, 0, none⟩) b M (BK M0 (h.mayF X)) := by
    rintro b rfl
    refine w60_7 (cd (fun hh => ad rfl (on (sl_of a rfl) (e9 _ ?_))) fun hh => e9 _ ?_)
    · rw [Bool.eq_iff_iff, beq_iff_eq, decide_eq_true_eq, hn]
      show ((X.length : Nat) : Int) = 0 ↔ _
      exact ⟨fun g => ⟨hh.1, hh.2.1, hh.2.2.1, hh.2.2.2, by omega⟩, fun g => by have := g.2.2.2.2; omega⟩
    · rw [eq_comm]; exact decide_eq_false fun g => hh ⟨g.1, g.2.1, g.2.2.1, g.2.2.2.1⟩
  have e5 : ∀ b : Bool, (b = decide (((h.l0 = 0 ∧ h.l1 = 0 ∧ h.l2 = 0 ∧ h.l3 = 0) ∧ h.sp = 0) ∧ h.cd = false ∧ h.da = 0)) → A60_5 (some ⟨2 * j, 0, none⟩) b M (BK M0 (h.mayF X)) := by
    rintro b rfl
    refine w60_5 (cd (fun hh => ad rfl (on (int_of a rfl) (e7 _ ?_))) fun hh => e7 _ ?_)
    · rw [Bool.eq_iff_iff, beq_iff_eq, decide_eq_true_eq]
      exact ⟨fun g => ⟨hh.1, hh.2.1, hh.2.2, g⟩, fun g => g.2.2.2⟩
    · rw [eq_comm]; exact decide_eq_false fun g => hh ⟨g.1, g.2.1, g.2.2.1⟩
  have e3 : ∀ b : Bool, (b = decide (((h.l0 = 0 ∧ h.l1 = 0 ∧ h.l2 = 0 ∧ h.l3 = 0) ∧ h.sp = 0) ∧ h.cd = false)) → A60_3 (some ⟨2 * j, 0, none⟩) b M (BK M0 (h.mayF X)) := by
    rintro b rfl
    refine w60_3 (cd (fun hh => ad rfl (on (int_of a rfl) (e5 _ ?_))) fun hh => e5 _ ?_)
    · rw [Bool.eq_iff_iff, beq_iff_eq, decide_eq_true_eq]
      exact ⟨fun g => ⟨hh.1, hh.2, g⟩, fun g => g.2.2⟩
    · rw [eq_comm]; exact decide_eq_false fun g => hh ⟨g.1, g.2.1⟩
  subst hb
  refine w60_1 (cd (fun hh => ad rfl (on (bool_of a rfl) (e3 _ ?_))) fun hh => e3 _ ?_)
  · cases h.cd
    · rw [eq_comm]; exact decide_eq_true ⟨hh, rfl⟩
    · rw [eq_comm]; exact decide_eq_false fun g => by cases g.2
  · rw [eq_comm]; exact decide_eq_false fun g => hh g.1
theorem c60 (hf : M.floor ≤ M.nb.size) (hn : h.n = X.length) (hb : h.n ≤ 1048576) (hR : Row M h.A (Sgs X)) : Cn Try.prog 60 #[.agg h.cs] M (BK M (h.mayF X)) := by
  have a := Mem.new_at M (.cells h.cs 41)
  have K : Keep M (M.new (.cells h.cs 41)) := .new _ _
  refine w60_0 ?_
  generalize M.new (.cells h.cs 41) = N at a K ⊢
  refine ldA a rfl (Cn.mono c54 ?_)
  rintro _ N2 ⟨rfl, K2⟩
  have a2 := at_keep a K2
  have KK := K.trans K2
  refine ty rfl (cn (fun hl => ?_) fun hl => e60_2 hf hn hb KK a2 (hR.keep KK) hl)
  refine on (int_of a2 rfl) (on (int_of a2 rfl) (on (int_of a2 rfl) (on (int_of a2 rfl) (pu (eq37 ..).1 (ty rfl (cd (fun hh => on (int_of a2 rfl) (e60_1 hn KK a2 hl _ ?_)) fun hh => e60_1 hn KK a2 hl _ ?_))))))
  · rw [Bool.eq_iff_iff, beq_iff_eq, decide_eq_true_eq]; exact ⟨fun g => ⟨hh, g⟩, fun g => g.2⟩
  · rw [eq_comm]; exact decide_eq_false fun g => hh g.1
def Hd.only (s : Int) : Hd := ⟨true, s, false, false, 0, 0, 0, 0, 0, 0, 0, 0, 0, 0, 0, 0, 0, false, 0, 0, 0, 0, 0, false, 0, 0, none, 0, 0, false, false, false⟩
theorem same_only (hx : h.ex = true) (hn : h.n = X.length) : h.same X (.only h.sl) [] = h.mt X := by
  unfold Hd.same Hd.mt sm1 sm2 sm3 sm4 sm5 sm6 sm7 sm8 sm9 sm10 sm11 sm12 sm13 sm14 sm15 sm16 sm17 Hd.only
  rw [Bool.eq_iff_iff]
  simp only [Bool.and_eq_true, beq_iff_eq, decide_eq_true_eq, hx, hn]
  have hX : X = [] ↔ X.length = 0 := List.length_eq_zero_iff.symm
  rw [hX]
  constructor
  · rintro ⟨_, _, a1, a2, a3, a4, a5, a6, a7, a8, a9, a10, ⟨a11, a12, a13, a14, a15, a16, a17, a18⟩⟩
    have hl : h.less = true := decide_eq_true ⟨a6, a7⟩
    refine ⟨a1, a2, a3, a4, a5, hl, a8, a9, a10, ?_⟩
    unfold Hd.mayF; rw [hl]; simp only [if_true, decide_eq_true_eq]
    exact ⟨a11, a12, a13, a14, a15, a18, a16⟩
  · rintro ⟨a1, a2, a3, a4, a5, hl, a8, a9, a10, hm⟩
    unfold Hd.mayF at hm; rw [hl] at hm; simp only [if_true, decide_eq_true_eq] at hm
    have := of_decide_eq_true hl
    exact ⟨trivial, trivial, a1, a2, a3, a4, a5, this.1, this.2, a8, a9, a10, hm.1, hm.2.1, hm.2.2.1, hm.2.2.2.1, hm.2.2.2.2.1, hm.2.2.2.2.2.2, by omega, hm.2.2.2.2.2.1⟩
end
end Go.Zt
