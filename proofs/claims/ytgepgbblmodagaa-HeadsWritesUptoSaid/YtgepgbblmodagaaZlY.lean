/- Layer 20: the bits of a header; what a writer that is handed a header that may be writes. -/
import Derived.Test.YtgepgbblmodagaaZlX
set_option linter.unusedSimpArgs false
set_option linter.unusedVariables false
set_option maxRecDepth 100000
namespace Go.Zt
open Go Go.Sim Go.Proofs Go.RowKit
def yes (b : Bool) : Nat := if b then 1 else 0
def bI (v : Int) (n : Nat) : List Nat := bitsN v.toNat n
def dBits (v : Int) : List Nat := yes (v != 0) :: (if v != 0 then yes (decide (v < 0)) :: bitsN v.natAbs 5 else [])
def sBits (x : Sg) : List Nat := bI x.a 4 ++ bI x.b 2 ++ bI x.c 4 ++ bI x.d 2
def rBits (h : Hd) : List Nat := if h.ke then [] else bI h.r0 3 ++ bI h.r1 3 ++ bI h.r2 3 ++ [yes (decide (h.pr ≥ 0))] ++ (if h.pr ≥ 0 then bI h.pr 3 else [])
def fBits (h : Hd) (X : List Sg) : List Nat := bI h.l0 6 ++ bI h.l1 6 ++ bI h.l2 6 ++ bI h.l3 6 ++ bI h.sp 3 ++ [yes h.cd] ++ (if h.cd then bI (h.da - 3) 2 ++ bI h.cb 2 ++ X.flatMap sBits else []) ++ [yes h.x0] ++ [yes h.x1] ++ [yes h.x2]
def tBits (h : Hd) (X : List Sg) : List Nat := dBits h.d0 ++ dBits h.d1 ++ dBits h.d2 ++ dBits h.d3 ++ dBits h.d4 ++ bI h.co 2 ++ bI h.ro 2 ++ [yes h.na] ++ (if h.less then [] else fBits h X)
def hBits (h : Hd) (X : List Sg) : List Nat := [yes h.ex] ++ (if h.ex then bI h.sl 3 else [yes h.sh] ++ [yes h.ke] ++ bI h.rf 8 ++ rBits h ++ bI h.ba 8 ++ tBits h X)
theorem numD_w {l : List Nat} {v f : Int} {n : Nat} (hn : n ≤ 32) (h0 : 0 ≤ v - f) (h1 : v - f < ((2 ^ n : Nat) : Int)) : numD (.w l) 0 v n f = (.w (l ++ bI (v - f) n), 0, v) := by
  have hp : 2 ^ n ≤ 4294967296 := pow32 hn
  have e1 : IntKind.i64.wrap (v - f) = v - f := i64w (by omega)
  have e2 : toU (v - f) = (v - f).toNat := by unfold toU; omega
  have e3 : wFixed l (v - f).toNat n = (0, l ++ bitsN (v - f).toNat n) := by unfold wFixed; rw [if_neg (by rw [Int.toNat_natCast]; omega)]; rfl
  unfold numD
  rw [if_neg (by decide)]
  simp only [e1, e2, e3, bI]
theorem flagD_w {l : List Nat} {b : Bool} : flagD (.w l) 0 b = (.w (l ++ [yes b]), 0, b) := by
  cases b
  · have := numD_w (l := l) (v := 0) (f := 0) (n := 1) (by decide) (by decide) (by decide)
    unfold flagD; simp only [Bool.false_eq_true, if_false]
    rw [show ((1 : Nat) : Int) = 1 from rfl] at this
    rw [this]; rfl
  · have := numD_w (l := l) (v := 1) (f := 0) (n := 1) (by decide) (by decide) (by decide)
    unfold flagD; simp only [if_true]
    rw [show ((1 : Nat) : Int) = 1 from rfl] at this
    rw [this]; rfl
theorem deltaD_w {l : List Nat} {v : Int} (hv : -31 ≤ v ∧ v ≤ 31) : deltaD (.w l) 0 v = (.w (l ++ dBits v), 0, v) := by
  unfold deltaD
  rw [flagD_w]
  by_cases h0 : v = 0
  · subst h0; rfl
  · have hb : (v != 0) = true := by simpa using h0
    have e1 : IntKind.i32.wrap v = v := i32w (by omega)
    have e2 : ∀ l, wSigned l v 5 = (0, l ++ (if v < 0 then 1 else 0) :: bitsN v.natAbs 5) := fun l => by
      unfold wSigned
      rw [if_neg (by rw [show (5 : Int).toNat = 5 from rfl]; omega)]; rfl
    rw [hb]
    simp only [Bool.true_eq_false, ne_eq, not_true_eq_false, or_self, if_false, e1, e2]
    unfold dBits
    rw [hb]
    by_cases hn : v < 0
    · simp [hn, yes]
    · simp [hn, yes]
theorem logD_w {l : List Nat} {v s : Int} (hv : logM v s = true) : logD (.w l) 0 v s = (.w (l ++ bI v 2), 0, v) := by
  have h2 := of_decide_eq_true hv
  have := numD_w (l := l) (v := v) (f := 0) (n := 2) (by decide) (by omega) (by show v - 0 < 4; omega)
  rw [show ((2 : Nat) : Int) = 2 from rfl, Int.sub_zero] at this
  unfold logD
  rw [this]
  simp only [hv]
  rfl
section
variable {l : List Nat} {h : Hd} {X : List Sg}
theorem nFw {v f : Int} {n : Nat} {s : Int → Hd} (hn : n ≤ 32) (h0 : 0 ≤ v - f) (h1 : v - f < ((2 ^ n : Nat) : Int)) (hs : s v = h) : nF (.w l, 0, h) v s n f = (.w (l ++ bI (v - f) n), 0, h) := by
  unfold nF; simp only [numD_w hn h0 h1, hs]
theorem nFw0 {v : Int} {n : Nat} {s : Int → Hd} (hn : n ≤ 32) (h0 : 0 ≤ v) (h1 : v < ((2 ^ n : Nat) : Int)) (hs : s v = h) : nF (.w l, 0, h) v s n 0 = (.w (l ++ bI v n), 0, h) := by
  have := nFw (l := l) (h := h) (v := v) (f := 0) (n := n) (s := s) hn (by omega) (by omega) hs
  rw [Int.sub_zero] at this; exact this
theorem fFw {v : Bool} {s : Bool → Hd} (hs : s v = h) : fF (.w l, 0, h) v s = (.w (l ++ [yes v]), 0, h) := by
  unfold fF; simp only [flagD_w, hs]
theorem dFw {v : Int} {s : Int → Hd} (hv : -31 ≤ v ∧ v ≤ 31) (hs : s v = h) : dF' (.w l, 0, h) v s = (.w (l ++ dBits v), 0, h) := by
  unfold dF'; simp only [deltaD_w hv, hs]
theorem gFw {v z : Int} {s : Int → Hd} (hv : logM v z = true) (hs : s v = h) : gF (.w l, 0, h) v s z = (.w (l ++ bI v 2), 0, h) := by
  unfold gF; simp only [logD_w hv, hs]
theorem numD_w0 {v : Int} {n : Nat} (hn : n ≤ 32) (h0 : 0 ≤ v) (h1 : v < ((2 ^ n : Nat) : Int)) : numD (.w l) 0 v n 0 = (.w (l ++ bI v n), 0, v) := by
  have := numD_w (l := l) (v := v) (f := 0) (n := n) hn (by omega) (by omega)
  rw [Int.sub_zero] at this; exact this
theorem sg1_w {x : Sg} (hx : x.may = true) : sg1 (.w l) 0 x = (.w (l ++ sBits x), 0, x) := by
  have := of_decide_eq_true hx
  unfold sg1
  have a1 : numD (.w l) 0 x.a 4 0 = _ := numD_w0 (l := l) (v := x.a) (n := 4) (by decide) (by omega) (by show x.a < 16; omega)
  simp only [a1]
  have a2 : ∀ l, numD (.w l) 0 x.b 2 0 = _ := fun l => numD_w0 (l := l) (v := x.b) (n := 2) (by decide) (by omega) (by show x.b < 4; omega)
  simp only [a2]
  have a3 : ∀ l, numD (.w l) 0 x.c 4 0 = _ := fun l => numD_w0 (l := l) (v := x.c) (n := 4) (by decide) (by omega) (by show x.c < 16; omega)
  simp only [a3]
  have a4 : ∀ l, numD (.w l) 0 x.d 2 0 = _ := fun l => numD_w0 (l := l) (v := x.d) (n := 2) (by decide) (by omega) (by show x.d < 4; omega)
  simp only [a4]
  unfold sBits
  simp only [List.append_assoc]
theorem sgsD_wb : ∀ (X : List Sg) (l : List Nat), X.all Sg.may = true → sgsD (.w l) 0 X = (.w (l ++ X.flatMap sBits), 0, X)
  | [], l, _ => by simp [sgsD]
  | x :: X, l, hX => by
    simp only [List.all_cons, Bool.and_eq_true] at hX
    simp only [sgsD, sg1_w hX.1, sgsD_wb X _ hX.2, List.flatMap_cons, List.append_assoc]
theorem FiltT_w {c : Cd} {X' : List Sg} (hm : h.mayF X = true) (hl : h.less = false) (ht : FiltT (.w l, 0, h) X c X') : c = (.w (l ++ fBits h X), 0, h) ∧ X' = X := by
  unfold Hd.mayF at hm
  rw [hl] at hm
  simp only [Bool.false_eq_true, if_false, Bool.and_eq_true, decide_eq_true_eq] at hm
  obtain ⟨⟨ms, mc, m0, m1, m2, m3⟩, mX⟩ := hm
  obtain ⟨c1, h1, c2, h2, c3, h3, c4, h4, c5, h5, c6, h6, c7, h7, c8, h8, c9, h9, h10⟩ := ht
  have g1 := h1.trans (nFw0 (n := 6) (by decide) m0.1 (by show h.l0 < 64; omega) rfl); clear h1; subst g1
  have g2 := h2.trans (nFw0 (n := 6) (by decide) m1.1 (by show h.l1 < 64; omega) rfl); clear h2; subst g2
  have g3 := h3.trans (nFw0 (n := 6) (by decide) m2.1 (by show h.l2 < 64; omega) rfl); clear h3; subst g3
  have g4 := h4.trans (nFw0 (n := 6) (by decide) m3.1 (by show h.l3 < 64; omega) rfl); clear h4; subst g4
  have g5 := h5.trans (nFw0 (n := 3) (by decide) ms.1 (by show h.sp < 8; omega) rfl); clear h5; subst g5
  have g6 := h6.trans (fFw rfl); clear h6; subst g6
  have g7 : c7 = (.w (l ++ bI h.l0 6 ++ bI h.l1 6 ++ bI h.l2 6 ++ bI h.l3 6 ++ bI h.sp 3 ++ [yes h.cd] ++ (if h.cd then bI (h.da - 3) 2 ++ bI h.cb 2 ++ X.flatMap sBits else [])), 0, h) ∧ X' = X := by
    split at h7
    · rename_i hq
      have hc : h.cd = true := hq.1
      rw [if_pos hc]
      rw [if_pos hc] at mc
      obtain ⟨a1, k1, a2, k2, a3, Y, k3, k4, k5⟩ := h7
      have q1 := k1.trans (nFw (n := 2) (f := 3) (by decide) (show 0 ≤ h.da - 3 by omega) (by show h.da - 3 < 4; omega) rfl); clear k1; subst q1
      have q2 := k2.trans (nFw0 (n := 2) (by decide) mc.2.1.1 (by show h.cb < 4; omega) rfl); clear k2; subst q2
      obtain ⟨k3, rfl⟩ := k3
      subst k3
      simp only [sgsD_wb Y _ mX] at k4 k5
      rw [k4, k5]
      simp only [List.append_assoc, and_self]
    · rename_i hq
      have hc : h.cd = false := by
        cases hc : h.cd
        · rfl
        · exact absurd ⟨hc, rfl⟩ hq
      rw [h7.1, h7.2]; simp [hc]
  obtain ⟨g7, rfl⟩ := g7
  subst g7
  have g8 := h8.trans (fFw rfl); clear h8; subst g8
  have g9 := h9.trans (fFw rfl); clear h9; subst g9
  have g10 := h10.trans (fFw rfl)
  refine ⟨?_, rfl⟩
  rw [g10]; unfold fBits
  simp only [List.append_assoc]
theorem HeadT_w {c : Cd} {X' : List Sg} {w e : Int} (hm : h.may X w e = true) (ht : HeadT w e (.w l, 0, h) X c X') : c = (.w (l ++ hBits h X), 0, h) ∧ X' = X := by
  obtain ⟨c1, h1, ht⟩ := ht
  have g1 := h1.trans (fFw rfl); clear h1; subst g1
  have mS : mayS w e = true := by unfold Hd.may at hm; simp only [Bool.and_eq_true] at hm; exact hm.1.1.1
  split at ht
  · rename_i hx
    have hx : h.ex = true := hx
    unfold Hd.may at hm
    simp only [hx, if_true, Bool.and_eq_true, decide_eq_true_eq] at hm
    have sl := hm.1.1.2.1
    have g2 := ht.1.trans (nFw0 (n := 3) (by decide) sl.1 (by show h.sl < 8; omega) rfl)
    refine ⟨?_, ht.2⟩
    rw [g2]; unfold hBits; simp [hx, List.append_assoc]
  · rename_i hx
    have hx : h.ex = false := by simpa using hx
    obtain ⟨⟨sl, rf, pr, ba⟩, mk, mr, md, mco, mro, mf⟩ := (may_iff hx mS).1 hm
    obtain ⟨c2, h2, c3, h3, c4, h4, c5, h5, c6, h6, ht⟩ := ht
    have g2 := h2.trans (fFw rfl); clear h2; subst g2
    have g3 := h3.trans (fFw rfl); clear h3; subst g3
    have g4 := h4.trans (nFw0 (n := 8) (by decide) rf.1 (by show h.rf < 256; omega) rfl); clear h4; subst g4
    have g5 : c5 = (.w (l ++ [yes h.ex] ++ [yes h.sh] ++ [yes h.ke] ++ bI h.rf 8 ++ rBits h), 0, h) := by
      obtain ⟨a1, t, k1, k2⟩ := h5
      unfold rBits
      split at k1
      · rename_i hk
        have hk : h.ke = true := hk
        obtain ⟨k1, rfl⟩ := k1
        subst k1
        simp only [Bool.false_eq_true, if_false] at k2
        have hp := (mk hk).2
        rw [k2, if_pos hk, List.append_nil]
        have : ({ h with pr := -1 } : Hd) = h := by rw [← hp]
        rw [this]
      · rename_i hk
        have hk : ¬ h.ke = true := hk
        rw [if_neg hk]
        obtain ⟨b1, q1, b2, q2, b3, q3, q4, q5⟩ := k1
        have p1 := q1.trans (nFw0 (n := 3) (by decide) mr.1.1 (by show h.r0 < 8; omega) rfl); clear q1; subst p1
        have p2 := q2.trans (nFw0 (n := 3) (by decide) mr.2.1.1 (by show h.r1 < 8; omega) rfl); clear q2; subst p2
        have p3 := q3.trans (nFw0 (n := 3) (by decide) mr.2.2.1 (by show h.r2 < 8; omega) rfl); clear q3; subst p3
        simp only [flagD_w] at q4 q5
        subst q4 q5
        by_cases hp : h.pr ≥ 0
        · rw [if_pos (decide_eq_true hp)] at k2
          have p4 := k2.trans (nFw0 (n := 3) (by decide) hp (by show h.pr < 8; omega) rfl)
          rw [p4, if_pos hp]; simp only [List.append_assoc]
        · rw [if_neg (by simpa using hp)] at k2
          have hp' : h.pr = -1 := by omega
          rw [k2, if_neg hp, List.append_nil]
          have : ({ h with pr := -1 } : Hd) = h := by rw [← hp']
          rw [this]; simp only [List.append_assoc]
    subst g5
    have g6 := h6.trans (nFw0 (n := 8) (by decide) ba.1 (by show h.ba < 256; omega) rfl); clear h6; subst g6
    obtain ⟨a1, k1, a2, k2, a3, k3, a4, k4, a5, k5, a6, k6, a7, k7, a8, k8, k9⟩ := ht
    have p1 := k1.trans (dFw md.1 rfl); clear k1; subst p1
    have p2 := k2.trans (dFw md.2.1 rfl); clear k2; subst p2
    have p3 := k3.trans (dFw md.2.2.1 rfl); clear k3; subst p3
    have p4 := k4.trans (dFw md.2.2.2.1 rfl); clear k4; subst p4
    have p5 := k5.trans (dFw md.2.2.2.2 rfl); clear k5; subst p5
    have p6 := k6.trans (gFw mco rfl); clear k6; subst p6
    have p7 := k7.trans (gFw mro rfl); clear k7; subst p7
    have p8 := k8.trans (fFw rfl); clear k8; subst p8
    split at k9
    · rename_i hl
      have hl : h.less = true := hl
      refine ⟨?_, k9.2⟩
      rw [k9.1]; unfold hBits tBits; simp [hx, hl, List.append_assoc]
    · rename_i hl
      have hl : h.less = false := by simpa using hl
      obtain ⟨r1, r2⟩ := FiltT_w mf hl k9
      refine ⟨?_, r2⟩
      rw [r1]; unfold hBits tBits; simp [hx, hl, List.append_assoc]
end
end Go.Zt
