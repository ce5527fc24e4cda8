/- Layer 20: a header's bits, where they stand, are read. Plain. -/
import Derived.Test.YtgepgbblmodagaaZlI
import Derived.Test.YtgepgbblmodagaaZlW
import Derived.Test.YtgepgbblmodagaaZlN
set_option linter.unusedSimpArgs false
set_option linter.unusedVariables false
set_option maxRecDepth 100000
namespace Go.Zt
open Go Go.Sim Go.Proofs Go.RowKit

/-! ### Bits (layer 1's) -/
def seg (f : Nat → Nat) (p n : Nat) : List Nat := (List.range n).map fun i => f (p + i)
theorem seg_len (f : Nat → Nat) (p n : Nat) : (seg f p n).length = n := by simp [seg]
theorem seg_cons (f : Nat → Nat) (p n : Nat) : seg f p (n + 1) = f p :: seg f (p + 1) n := by
  unfold seg
  rw [List.range_succ_eq_map, List.map_cons, List.map_map]
  congr 1
  refine List.map_congr_left fun i _ => ?_
  simp only [Function.comp]; congr 1; omega
theorem seg_app (f : Nat → Nat) (p : Nat) (n : Nat) : ∀ m, seg f p (m + n) = seg f p m ++ seg f (p + m) n
  | m => by
    unfold seg
    rw [List.range_add, List.map_append, List.map_map]
    congr 1
    refine List.map_congr_left fun i _ => ?_
    simp only [Function.comp]; congr 1; omega
theorem segN {f : Nat → Nat} (hf : ∀ i, f i < 2) : ∀ (n p : Nat), bitsN (numb f p n) n = seg f p n
  | 0, p => rfl
  | n + 1, p => by
    have h := numb_lt hf (p + 1) n
    rw [bitsN, seg_cons, numb_cons]
    have e1 : (f p * 2 ^ n + numb f (p + 1) n) / 2 ^ n % 2 = f p := by
      rw [Nat.add_comm, Nat.add_mul_div_right _ _ (Nat.two_pow_pos n), Nat.div_eq_of_lt h, Nat.zero_add, Nat.mod_eq_of_lt (hf p)]
    have e2 : bitsN (f p * 2 ^ n + numb f (p + 1) n) n = bitsN (numb f (p + 1) n) n := by
      rw [← bitsN_mod _ (Nat.le_refl n), Nat.add_comm, Nat.add_mul_mod_self_right, Nat.mod_eq_of_lt h]
    rw [e1, e2, segN hf n (p + 1)]
theorem bitsN_inj : ∀ (n : Nat) {a b : Nat}, a < 2 ^ n → b < 2 ^ n → bitsN a n = bitsN b n → a = b
  | 0, a, b, ha, hb, _ => by simp at ha hb; omega
  | n + 1, a, b, ha, hb, h => by
    rw [bitsN, bitsN] at h
    obtain ⟨h1, h2⟩ := List.cons.inj h
    rw [← bitsN_mod a (Nat.le_refl n), ← bitsN_mod b (Nat.le_refl n)] at h2
    have hp := Nat.two_pow_pos n
    have := bitsN_inj n (Nat.mod_lt _ hp) (Nat.mod_lt _ hp) h2
    have hpow : 2 ^ (n + 1) = 2 * 2 ^ n := by rw [Nat.pow_succ]; omega
    have ha2 : a / 2 ^ n < 2 := Nat.div_lt_of_lt_mul (by omega)
    have hb2 : b / 2 ^ n < 2 := Nat.div_lt_of_lt_mul (by omega)
    rw [Nat.mod_eq_of_lt ha2, Nat.mod_eq_of_lt hb2] at h1
    rw [← Nat.div_add_mod a (2 ^ n), ← Nat.div_add_mod b (2 ^ n), h1, this]
theorem numb_seg {f : Nat → Nat} (hf : ∀ i, f i < 2) {p n v : Nat} (hv : v < 2 ^ n) (h : seg f p n = bitsN v n) : numb f p n = v :=
  bitsN_inj n (numb_lt hf p n) hv (by rw [segN hf, h])
/-- These bits stand at p, and behind them all ends at z. -/
structure At (b : List Nat) (z p : Nat) (l : List Nat) : Prop where
  seg : seg (bitOf b) p l.length = l
  len : p + l.length = z
  le : z ≤ 8 * b.length
section
variable {b : List Nat} {z p : Nat} {l : List Nat} {h g : Hd} {c : Cd} {X : List Sg} {w e : Int}
theorem bit2 (i : Nat) : bitOf b i < 2 := Nat.mod_lt _ (by decide)
theorem At.split {l1 l2 : List Nat} (H : At b z p (l1 ++ l2)) : Go.Zt.seg (bitOf b) p l1.length = l1 ∧ p + l1.length + l2.length = z ∧ z ≤ 8 * b.length ∧ At b z (p + l1.length) l2 := by
  obtain ⟨h1, h2, h3⟩ := H
  rw [List.length_append] at h1 h2
  rw [seg_app] at h1
  obtain ⟨q1, q2⟩ := List.append_inj h1 (seg_len ..)
  exact ⟨q1, by omega, h3, q2, by omega, h3⟩
theorem At.fixed {n v : Nat} (H : At b z p (bitsN v n ++ l)) (hv : v < 2 ^ n) (hn : n ≤ 32) : rFixed b p n = (v, 0, p + n) ∧ At b z (p + n) l := by
  obtain ⟨q1, q2, q3, q4⟩ := H.split
  rw [bitsN_len] at q1 q2 q4
  refine ⟨?_, q4⟩
  unfold rFixed
  rw [if_neg (by omega), if_neg (by omega), Int.toNat_natCast, numb_seg bit2 hv q1]
theorem nA {v f x : Int} {n : Nat} {s : Int → Hd} (H : At b z p (bI x n ++ l)) (hn : n ≤ 32) (h0 : 0 ≤ x) (h1 : x < ((2 ^ n : Nat) : Int)) (e : c = nF (.r b p, 0, g) v s n f) : ∃ q, c = (.r b q, 0, s (x + f)) ∧ At b z q l := by
  obtain ⟨q1, q2⟩ := At.fixed (v := x.toNat) H (by omega) hn
  refine ⟨p + n, ?_, q2⟩
  rw [e]
  unfold nF numD
  rw [if_neg (show ¬ (0 : Nat) ≠ 0 by decide)]
  simp only [q1, if_true]
  rw [show ((x.toNat : Nat) : Int) = x by omega]
theorem nA0 {v x : Int} {n : Nat} {s : Int → Hd} (H : At b z p (bI x n ++ l)) (hn : n ≤ 32) (h0 : 0 ≤ x) (h1 : x < ((2 ^ n : Nat) : Int)) (e : c = nF (.r b p, 0, g) v s n 0) : ∃ q, c = (.r b q, 0, s x) ∧ At b z q l := by
  obtain ⟨q, h1, h2⟩ := nA H hn h0 h1 e
  exact ⟨q, by rw [h1, Int.add_zero], h2⟩
theorem flag_a {x v : Bool} (H : At b z p ([yes x] ++ l)) : flagD (.r b p) 0 v = (.r b (p + 1), 0, x) ∧ At b z (p + 1) l := by
  have e1 : [yes x] = bitsN (yes x) 1 := by cases x <;> rfl
  rw [e1] at H
  obtain ⟨q1, q2⟩ := At.fixed (v := yes x) (n := 1) H (by cases x <;> decide) (by decide)
  refine ⟨?_, q2⟩
  have q1' : rFixed b p 1 = (yes x, 0, p + 1) := q1
  unfold flagD numD
  rw [if_neg (by decide)]
  simp only [q1', if_true]
  cases x <;> rfl
theorem fA {v x : Bool} {s : Bool → Hd} (H : At b z p ([yes x] ++ l)) (e : c = fF (.r b p, 0, g) v s) : ∃ q, c = (.r b q, 0, s x) ∧ At b z q l := by
  obtain ⟨q1, q2⟩ := flag_a (v := v) H
  exact ⟨p + 1, by rw [e]; unfold fF; simp only [q1], q2⟩
theorem delta_a {x v : Int} (H : At b z p (dBits x ++ l)) (hx : -31 ≤ x ∧ x ≤ 31) (hv : v = 0) : ∃ q, deltaD (.r b p) 0 v = (.r b q, 0, x) ∧ At b z q l := by
  unfold dBits at H
  by_cases h0 : x = 0
  · subst h0 hv
    obtain ⟨q1, q2⟩ := flag_a (x := false) (v := (0 : Int) != 0) (l := l) (by simpa [yes] using H)
    exact ⟨p + 1, by unfold deltaD; rw [q1]; rfl, q2⟩
  · have hb : (x != 0) = true := by simpa using h0
    rw [hb] at H
    simp only [if_true] at H
    obtain ⟨q1, q2⟩ := flag_a (x := true) (v := v != 0) (l := yes (decide (x < 0)) :: bitsN x.natAbs 5 ++ l) (by simpa using H)
    have q2' : At b z (p + 1) ([yes (decide (x < 0))] ++ (bitsN x.natAbs 5 ++ l)) := by simpa using q2
    obtain ⟨a1, a2, a3, a4⟩ := q2'.split
    obtain ⟨b1, b2, b3, b4⟩ := a4.split
    have l1 : ([yes (decide (x < 0))] : List Nat).length = 1 := rfl
    rw [l1] at a1 a2 a4 b1 b4 b2
    rw [bitsN_len] at b1 b2 b4
    have hn : numb (bitOf b) (p + 1 + 1) 5 = x.natAbs := numb_seg bit2 (show x.natAbs < 32 by omega) b1
    have hs : bitOf b (p + 1) = yes (decide (x < 0)) := by
      have : Go.Zt.seg (bitOf b) (p + 1) 1 = [bitOf b (p + 1)] := rfl
      rw [this] at a1
      exact List.head_eq_of_cons_eq a1
    refine ⟨p + 1 + 1 + 5, ?_, b4⟩
    have hr : rSigned b (p + 1) 5 = (x, 0, p + 1 + 1 + 5) := by
      unfold rSigned
      rw [if_neg (by decide), if_neg (by omega), show (5 : Int).toNat = 5 from rfl, hn, hs]
      by_cases hneg : x < 0
      · rw [if_pos (by simp [hneg, yes]), if_neg (by omega)]
        congr 1
        omega
      · rw [if_neg (by simp [hneg, yes])]
        congr 1
        omega
    unfold deltaD
    rw [q1]
    simp only [hr, Bool.true_eq_false, ne_eq, not_true_eq_false, or_self, if_false]
    rw [if_neg (fun q => h0 q.2)]
theorem dA {x v : Int} {s : Int → Hd} (H : At b z p (dBits x ++ l)) (hx : -31 ≤ x ∧ x ≤ 31) (hv : v = 0) (e : c = dF' (.r b p, 0, g) v s) : ∃ q, c = (.r b q, 0, s x) ∧ At b z q l := by
  obtain ⟨q, q1, q2⟩ := delta_a (v := v) H hx hv
  exact ⟨q, by rw [e]; unfold dF'; simp only [q1], q2⟩
theorem lA {x v k : Int} {s : Int → Hd} (H : At b z p (bI x 2 ++ l)) (hx : logM x k = true) (e : c = gF (.r b p, 0, g) v s k) : ∃ q, c = (.r b q, 0, s x) ∧ At b z q l := by
  have h2 := of_decide_eq_true hx
  obtain ⟨q1, q2⟩ := At.fixed (v := x.toNat) (n := 2) H (by show x.toNat < 4; omega) (by decide)
  refine ⟨p + 2, ?_, q2⟩
  have q1' : rFixed b p 2 = (x.toNat, 0, p + 2) := q1
  have e2 : numD (.r b p) 0 v 2 0 = (.r b (p + 2), 0, x) := by
    unfold numD
    rw [if_neg (by decide)]
    simp only [q1', if_true]
    rw [show ((x.toNat : Nat) : Int) + 0 = x by omega]
  rw [e]
  unfold gF logD
  rw [e2, if_neg (fun q => by rw [hx] at q; cases q.2)]
theorem sg_a {x y : Sg} (H : At b z p (sBits x ++ l)) (hx : x.may = true) : ∃ q, sg1 (.r b p) 0 y = (.r b q, 0, x) ∧ At b z q l := by
  have m := of_decide_eq_true hx
  unfold sBits at H
  simp only [List.append_assoc] at H
  have step : ∀ {p : Nat} {l : List Nat} {v u : Int} {n : Nat}, At b z p (bI u n ++ l) → n ≤ 32 → 0 ≤ u → u < ((2 ^ n : Nat) : Int) → numD (.r b p) 0 v n 0 = (.r b (p + n), 0, u) ∧ At b z (p + n) l := by
    intro p l v u n H hn h0 h1
    obtain ⟨q1, q2⟩ := At.fixed (v := u.toNat) H (by omega) hn
    refine ⟨?_, q2⟩
    unfold numD
    rw [if_neg (by decide)]
    simp only [q1, if_true]
    rw [show ((u.toNat : Nat) : Int) + 0 = u by omega]
  obtain ⟨a1, H1⟩ := step (v := y.a) H (by decide) (by omega) (by show x.a < 16; omega)
  obtain ⟨a2, H2⟩ := step (v := y.b) H1 (by decide) (by omega) (by show x.b < 4; omega)
  obtain ⟨a3, H3⟩ := step (v := y.c) H2 (by decide) (by omega) (by show x.c < 16; omega)
  obtain ⟨a4, H4⟩ := step (v := y.d) H3 (by decide) (by omega) (by show x.d < 4; omega)
  have a1' : numD (.r b p) 0 y.a 4 0 = _ := a1
  have a2' : numD (.r b (p + 4)) 0 y.b 2 0 = _ := a2
  have a3' : numD (.r b (p + 4 + 2)) 0 y.c 4 0 = _ := a3
  have a4' : numD (.r b (p + 4 + 2 + 4)) 0 y.d 2 0 = _ := a4
  refine ⟨p + 4 + 2 + 4 + 2, ?_, H4⟩
  unfold sg1
  simp only [a1', a2', a3', a4']
theorem sgs_a : ∀ (X Y : List Sg) {p : Nat} {l : List Nat}, At b z p (X.flatMap sBits ++ l) → X.all Sg.may = true → Y.length = X.length → ∃ q, sgsD (.r b p) 0 Y = (.r b q, 0, X) ∧ At b z q l
  | [], [], p, l, H, _, _ => ⟨p, rfl, by simpa using H⟩
  | [], y :: Y, p, l, H, _, hl => by simp at hl
  | x :: X, [], p, l, H, _, hl => by simp at hl
  | x :: X, y :: Y, p, l, H, hX, hl => by
    simp only [List.all_cons, Bool.and_eq_true] at hX
    simp only [List.flatMap_cons, List.append_assoc] at H
    obtain ⟨q, a1, H1⟩ := sg_a (y := y) H hX.1
    obtain ⟨q2, a2, H2⟩ := sgs_a X Y H1 hX.2 (by simpa using hl)
    refine ⟨q2, ?_, H2⟩
    simp only [sgsD, a1, a2]

theorem u_cd (e1 : h.da = 0) (e2 : h.cb = 0) : wo ({ h with da := 0, cb := 0, x0 := false, x1 := false, x2 := false } : Hd) = wo ({ h with x0 := false, x1 := false, x2 := false } : Hd) := by
  cases h
  simp only at e1 e2
  subst e1 e2
  rfl
theorem filt_a (H : At b z p (fBits h X ++ l)) (hm : h.mayF X = true) (hl : h.less = false) (hg : wo g = wo ({ h with l0 := 0, l1 := 0, l2 := 0, l3 := 0, sp := 0, cd := false, da := 0, cb := 0, x0 := false, x1 := false, x2 := false } : Hd)) {X' : List Sg} (ht : FiltT (.r b p, 0, g) [] c X') : ∃ q, c.1 = .r b q ∧ c.2.1 = 0 ∧ wo c.2.2 = wo h ∧ X' = X ∧ At b z q l := by
  unfold Hd.mayF at hm
  rw [hl] at hm
  simp only [Bool.false_eq_true, if_false, Bool.and_eq_true, decide_eq_true_eq] at hm
  obtain ⟨⟨ms, mc, m0, m1, m2, m3⟩, mX⟩ := hm
  obtain ⟨c1, h1, c2, h2, c3, h3, c4, h4, c5, h5, c6, h6, c7, h7, c8, h8, c9, h9, h10⟩ := ht
  unfold fBits at H
  simp only [List.append_assoc] at H
  have G0 := hg
  obtain ⟨q1, e1, H1⟩ := nA0 H (n := 6) (by decide) m0.1 (by show h.l0 < 64; omega) h1
  have G1 : wo c1.2.2 = wo ({ h with l1 := 0, l2 := 0, l3 := 0, sp := 0, cd := false, da := 0, cb := 0, x0 := false, x1 := false, x2 := false } : Hd) := by rw [e1]; exact congrArg (fun x : Hd => { x with l0 := h.l0 }) G0
  obtain ⟨c1a, c1b, g1⟩ := c1
  obtain ⟨rfl, rfl⟩ : c1a = .r b q1 ∧ c1b = 0 := ⟨congrArg Prod.fst e1, congrArg (fun y : Cd => y.2.1) e1⟩
  clear e1 h1
  replace G1 : wo g1 = wo ({ h with l1 := 0, l2 := 0, l3 := 0, sp := 0, cd := false, da := 0, cb := 0, x0 := false, x1 := false, x2 := false } : Hd) := G1
  obtain ⟨q2, e2, H2⟩ := nA0 H1 (n := 6) (by decide) m1.1 (by show h.l1 < 64; omega) h2
  have G2 : wo c2.2.2 = wo ({ h with l2 := 0, l3 := 0, sp := 0, cd := false, da := 0, cb := 0, x0 := false, x1 := false, x2 := false } : Hd) := by rw [e2]; exact congrArg (fun x : Hd => { x with l1 := h.l1 }) G1
  obtain ⟨c2a, c2b, g2⟩ := c2
  obtain ⟨rfl, rfl⟩ : c2a = .r b q2 ∧ c2b = 0 := ⟨congrArg Prod.fst e2, congrArg (fun y : Cd => y.2.1) e2⟩
  clear e2 h2
  replace G2 : wo g2 = wo ({ h with l2 := 0, l3 := 0, sp := 0, cd := false, da := 0, cb := 0, x0 := false, x1 := false, x2 := false } : Hd) := G2
  obtain ⟨q3, e3, H3⟩ := nA0 H2 (n := 6) (by decide) m2.1 (by show h.l2 < 64; omega) h3
  have G3 : wo c3.2.2 = wo ({ h with l3 := 0, sp := 0, cd := false, da := 0, cb := 0, x0 := false, x1 := false, x2 := false } : Hd) := by rw [e3]; exact congrArg (fun x : Hd => { x with l2 := h.l2 }) G2
  obtain ⟨c3a, c3b, g3⟩ := c3
  obtain ⟨rfl, rfl⟩ : c3a = .r b q3 ∧ c3b = 0 := ⟨congrArg Prod.fst e3, congrArg (fun y : Cd => y.2.1) e3⟩
  clear e3 h3
  replace G3 : wo g3 = wo ({ h with l3 := 0, sp := 0, cd := false, da := 0, cb := 0, x0 := false, x1 := false, x2 := false } : Hd) := G3
  obtain ⟨q4, e4, H4⟩ := nA0 H3 (n := 6) (by decide) m3.1 (by show h.l3 < 64; omega) h4
  have G4 : wo c4.2.2 = wo ({ h with sp := 0, cd := false, da := 0, cb := 0, x0 := false, x1 := false, x2 := false } : Hd) := by rw [e4]; exact congrArg (fun x : Hd => { x with l3 := h.l3 }) G3
  obtain ⟨c4a, c4b, g4⟩ := c4
  obtain ⟨rfl, rfl⟩ : c4a = .r b q4 ∧ c4b = 0 := ⟨congrArg Prod.fst e4, congrArg (fun y : Cd => y.2.1) e4⟩
  clear e4 h4
  replace G4 : wo g4 = wo ({ h with sp := 0, cd := false, da := 0, cb := 0, x0 := false, x1 := false, x2 := false } : Hd) := G4
  obtain ⟨q5, e5, H5⟩ := nA0 H4 (n := 3) (by decide) ms.1 (by show h.sp < 8; omega) h5
  have G5 : wo c5.2.2 = wo ({ h with cd := false, da := 0, cb := 0, x0 := false, x1 := false, x2 := false } : Hd) := by rw [e5]; exact congrArg (fun x : Hd => { x with sp := h.sp }) G4
  obtain ⟨c5a, c5b, g5⟩ := c5
  obtain ⟨rfl, rfl⟩ : c5a = .r b q5 ∧ c5b = 0 := ⟨congrArg Prod.fst e5, congrArg (fun y : Cd => y.2.1) e5⟩
  clear e5 h5
  replace G5 : wo g5 = wo ({ h with cd := false, da := 0, cb := 0, x0 := false, x1 := false, x2 := false } : Hd) := G5
  obtain ⟨q6, e6, H6⟩ := fA H5  h6
  have G6 : wo c6.2.2 = wo ({ h with da := 0, cb := 0, x0 := false, x1 := false, x2 := false } : Hd) := by rw [e6]; exact congrArg (fun x : Hd => { x with cd := h.cd }) G5
  obtain ⟨c6a, c6b, g6⟩ := c6
  obtain ⟨rfl, rfl⟩ : c6a = .r b q6 ∧ c6b = 0 := ⟨congrArg Prod.fst e6, congrArg (fun y : Cd => y.2.1) e6⟩
  clear e6 h6
  replace G6 : wo g6 = wo ({ h with da := 0, cb := 0, x0 := false, x1 := false, x2 := false } : Hd) := G6
  have hcd : g6.cd = h.cd := by have := congrArg Hd.cd G6; exact this
  have S7 : ∃ q7 g7, c7 = (.r b q7, 0, g7) ∧ wo g7 = wo ({ h with x0 := false, x1 := false, x2 := false } : Hd) ∧ X' = X ∧ At b z q7 ([yes h.x0] ++ ([yes h.x1] ++ ([yes h.x2] ++ l))) := by
    by_cases hc : h.cd = true
    · rw [if_pos ⟨by show g6.cd = true; rw [hcd, hc], rfl⟩] at h7
      rw [if_pos hc] at mc H6
      simp only [List.append_assoc] at H6
      obtain ⟨a1, k1, a2, k2, a3, Y, k3, k4, k5⟩ := h7
      obtain ⟨qa, ea, Ha⟩ := nA H6 (n := 2) (by decide) (by omega) (by show h.da - 3 < 4; omega) k1
      have Ga : wo a1.2.2 = wo ({ h with cb := 0, x0 := false, x1 := false, x2 := false } : Hd) := by rw [ea, show h.da - 3 + 3 = h.da by omega]; exact congrArg (fun x : Hd => { x with da := h.da }) G6
      obtain ⟨a1a, a1b, ga⟩ := a1
      obtain ⟨rfl, rfl⟩ : a1a = .r b qa ∧ a1b = 0 := ⟨congrArg Prod.fst ea, congrArg (fun y : Cd => y.2.1) ea⟩
      clear ea k1
      obtain ⟨qb, eb, Hb⟩ := nA0 Ha (n := 2) (by decide) mc.2.1.1 (by show h.cb < 4; omega) k2
      have Gb : wo a2.2.2 = wo ({ h with x0 := false, x1 := false, x2 := false } : Hd) := by rw [eb]; exact congrArg (fun x : Hd => { x with cb := h.cb }) Ga
      obtain ⟨a2a, a2b, gb⟩ := a2
      obtain ⟨rfl, rfl⟩ : a2a = .r b qb ∧ a2b = 0 := ⟨congrArg Prod.fst eb, congrArg (fun y : Cd => y.2.1) eb⟩
      clear eb k2
      have hcb : gb.cb = h.cb := by have := congrArg Hd.cb Gb; exact this
      dsimp only at k3
      rw [if_pos rfl] at k3
      obtain ⟨⟨A, m, k3⟩, kY⟩ := k3
      rw [k3] at k4 k5
      dsimp only at k4 k5
      obtain ⟨qc, ec, Hc⟩ := sgs_a X Y Hb mX (by rw [kY, List.length_replicate, hcb]; exact mc.2.2.symm)
      rw [ec] at k4 k5
      exact ⟨qc, _, k4, Gb, k5, Hc⟩
    · rw [if_neg (fun q => hc (by rw [← hcd]; exact q.1))] at h7
      rw [if_neg hc] at mc H6
      simp only [List.nil_append] at H6
      refine ⟨q6, g6, h7.1, ?_, ?_, H6⟩
      · rw [G6]
        exact u_cd mc.1 mc.2.1
      · rw [h7.2]; exact (List.length_eq_zero_iff.1 mc.2.2).symm
  obtain ⟨q7, g7, rfl, G7, rfl, H7⟩ := S7
  replace G7 : wo g7 = wo ({ h with x0 := false, x1 := false, x2 := false } : Hd) := G7
  obtain ⟨q8, e8, H8⟩ := fA H7  h8
  have G8 : wo c8.2.2 = wo ({ h with x1 := false, x2 := false } : Hd) := by rw [e8]; exact congrArg (fun x : Hd => { x with x0 := h.x0 }) G7
  obtain ⟨c8a, c8b, g8⟩ := c8
  obtain ⟨rfl, rfl⟩ : c8a = .r b q8 ∧ c8b = 0 := ⟨congrArg Prod.fst e8, congrArg (fun y : Cd => y.2.1) e8⟩
  clear e8 h8
  replace G8 : wo g8 = wo ({ h with x1 := false, x2 := false } : Hd) := G8
  obtain ⟨q9, e9, H9⟩ := fA H8  h9
  have G9 : wo c9.2.2 = wo ({ h with x2 := false } : Hd) := by rw [e9]; exact congrArg (fun x : Hd => { x with x1 := h.x1 }) G8
  obtain ⟨c9a, c9b, g9⟩ := c9
  obtain ⟨rfl, rfl⟩ : c9a = .r b q9 ∧ c9b = 0 := ⟨congrArg Prod.fst e9, congrArg (fun y : Cd => y.2.1) e9⟩
  clear e9 h9
  replace G9 : wo g9 = wo ({ h with x2 := false } : Hd) := G9
  obtain ⟨q10, e10, H10⟩ := fA H9 h10
  refine ⟨q10, by rw [e10], by rw [e10], ?_, rfl, H10⟩
  rw [e10]; exact congrArg (fun x : Hd => { x with x2 := h.x2 }) G9
end
end Go.Zt


/- Layer 20: a whole header's bits, where they stand, are read. Plain. -/
set_option linter.unusedSimpArgs false
set_option linter.unusedVariables false
set_option maxRecDepth 100000
namespace Go.Zt
open Go Go.Sim Go.Proofs Go.RowKit

section
variable {b : List Nat} {z p : Nat} {l : List Nat} {h g : Hd} {c : Cd} {X : List Sg} {w e : Int}
theorem u_less (hm : h.mayF X = true) (hl : h.less = true) : wo ({ h with l0 := 0, l1 := 0, l2 := 0, l3 := 0, sp := 0, cd := false, da := 0, cb := 0, x0 := false, x1 := false, x2 := false } : Hd) = wo h ∧ X = [] := by
  unfold Hd.mayF at hm
  rw [if_pos hl] at hm
  obtain ⟨⟨e1, e2, e3, e4⟩, e5, e6, e7, e8, e9, e10, e11, e12⟩ := of_decide_eq_true hm
  refine ⟨?_, List.length_eq_zero_iff.1 e9⟩
  clear hm hl
  cases h
  simp only at e1 e2 e3 e4 e5 e6 e7 e8 e10 e11 e12
  subst e1 e2 e3 e4 e5 e6 e7 e8 e10 e11 e12
  rfl
theorem tail_a (H : At b z p (tBits h X ++ l)) (md : (-31 ≤ h.d0 ∧ h.d0 ≤ 31) ∧ (-31 ≤ h.d1 ∧ h.d1 ≤ 31) ∧ (-31 ≤ h.d2 ∧ h.d2 ≤ 31) ∧ (-31 ≤ h.d3 ∧ h.d3 ≤ 31) ∧ (-31 ≤ h.d4 ∧ h.d4 ≤ 31)) (mco : logM h.co w = true) (mro : logM h.ro e = true) (mf : h.mayF X = true) (hg : wo g = wo ({ h with d0 := 0, d1 := 0, d2 := 0, d3 := 0, d4 := 0, co := 0, ro := 0, na := false, l0 := 0, l1 := 0, l2 := 0, l3 := 0, sp := 0, cd := false, da := 0, cb := 0, x0 := false, x1 := false, x2 := false } : Hd)) {X' : List Sg} (ht : TailT w e (.r b p, 0, g) [] c X') : ∃ q, c.1 = .r b q ∧ c.2.1 = 0 ∧ wo c.2.2 = wo h ∧ X' = X ∧ At b z q l := by
  obtain ⟨c1, h1, c2, h2, c3, h3, c4, h4, c5, h5, c6, h6, c7, h7, c8, h8, h9⟩ := ht
  unfold tBits at H
  simp only [List.append_assoc] at H
  have G0 := hg
  obtain ⟨q1, e1, H1⟩ := dA H md.1 (by have := congrArg Hd.d0 G0; exact this) h1
  have G1 : wo c1.2.2 = wo ({ h with d1 := 0, d2 := 0, d3 := 0, d4 := 0, co := 0, ro := 0, na := false, l0 := 0, l1 := 0, l2 := 0, l3 := 0, sp := 0, cd := false, da := 0, cb := 0, x0 := false, x1 := false, x2 := false } : Hd) := by rw [e1]; exact congrArg (fun x : Hd => { x with d0 := h.d0 }) G0
  obtain ⟨c1a, c1b, g1⟩ := c1
  obtain ⟨rfl, rfl⟩ : c1a = .r b q1 ∧ c1b = 0 := ⟨congrArg Prod.fst e1, congrArg (fun y : Cd => y.2.1) e1⟩
  clear e1 h1
  replace G1 : wo g1 = wo ({ h with d1 := 0, d2 := 0, d3 := 0, d4 := 0, co := 0, ro := 0, na := false, l0 := 0, l1 := 0, l2 := 0, l3 := 0, sp := 0, cd := false, da := 0, cb := 0, x0 := false, x1 := false, x2 := false } : Hd) := G1
  obtain ⟨q2, e2, H2⟩ := dA H1 md.2.1 (by have := congrArg Hd.d1 G1; exact this) h2
  have G2 : wo c2.2.2 = wo ({ h with d2 := 0, d3 := 0, d4 := 0, co := 0, ro := 0, na := false, l0 := 0, l1 := 0, l2 := 0, l3 := 0, sp := 0, cd := false, da := 0, cb := 0, x0 := false, x1 := false, x2 := false } : Hd) := by rw [e2]; exact congrArg (fun x : Hd => { x with d1 := h.d1 }) G1
  obtain ⟨c2a, c2b, g2⟩ := c2
  obtain ⟨rfl, rfl⟩ : c2a = .r b q2 ∧ c2b = 0 := ⟨congrArg Prod.fst e2, congrArg (fun y : Cd => y.2.1) e2⟩
  clear e2 h2
  replace G2 : wo g2 = wo ({ h with d2 := 0, d3 := 0, d4 := 0, co := 0, ro := 0, na := false, l0 := 0, l1 := 0, l2 := 0, l3 := 0, sp := 0, cd := false, da := 0, cb := 0, x0 := false, x1 := false, x2 := false } : Hd) := G2
  obtain ⟨q3, e3, H3⟩ := dA H2 md.2.2.1 (by have := congrArg Hd.d2 G2; exact this) h3
  have G3 : wo c3.2.2 = wo ({ h with d3 := 0, d4 := 0, co := 0, ro := 0, na := false, l0 := 0, l1 := 0, l2 := 0, l3 := 0, sp := 0, cd := false, da := 0, cb := 0, x0 := false, x1 := false, x2 := false } : Hd) := by rw [e3]; exact congrArg (fun x : Hd => { x with d2 := h.d2 }) G2
  obtain ⟨c3a, c3b, g3⟩ := c3
  obtain ⟨rfl, rfl⟩ : c3a = .r b q3 ∧ c3b = 0 := ⟨congrArg Prod.fst e3, congrArg (fun y : Cd => y.2.1) e3⟩
  clear e3 h3
  replace G3 : wo g3 = wo ({ h with d3 := 0, d4 := 0, co := 0, ro := 0, na := false, l0 := 0, l1 := 0, l2 := 0, l3 := 0, sp := 0, cd := false, da := 0, cb := 0, x0 := false, x1 := false, x2 := false } : Hd) := G3
  obtain ⟨q4, e4, H4⟩ := dA H3 md.2.2.2.1 (by have := congrArg Hd.d3 G3; exact this) h4
  have G4 : wo c4.2.2 = wo ({ h with d4 := 0, co := 0, ro := 0, na := false, l0 := 0, l1 := 0, l2 := 0, l3 := 0, sp := 0, cd := false, da := 0, cb := 0, x0 := false, x1 := false, x2 := false } : Hd) := by rw [e4]; exact congrArg (fun x : Hd => { x with d3 := h.d3 }) G3
  obtain ⟨c4a, c4b, g4⟩ := c4
  obtain ⟨rfl, rfl⟩ : c4a = .r b q4 ∧ c4b = 0 := ⟨congrArg Prod.fst e4, congrArg (fun y : Cd => y.2.1) e4⟩
  clear e4 h4
  replace G4 : wo g4 = wo ({ h with d4 := 0, co := 0, ro := 0, na := false, l0 := 0, l1 := 0, l2 := 0, l3 := 0, sp := 0, cd := false, da := 0, cb := 0, x0 := false, x1 := false, x2 := false } : Hd) := G4
  obtain ⟨q5, e5, H5⟩ := dA H4 md.2.2.2.2 (by have := congrArg Hd.d4 G4; exact this) h5
  have G5 : wo c5.2.2 = wo ({ h with co := 0, ro := 0, na := false, l0 := 0, l1 := 0, l2 := 0, l3 := 0, sp := 0, cd := false, da := 0, cb := 0, x0 := false, x1 := false, x2 := false } : Hd) := by rw [e5]; exact congrArg (fun x : Hd => { x with d4 := h.d4 }) G4
  obtain ⟨c5a, c5b, g5⟩ := c5
  obtain ⟨rfl, rfl⟩ : c5a = .r b q5 ∧ c5b = 0 := ⟨congrArg Prod.fst e5, congrArg (fun y : Cd => y.2.1) e5⟩
  clear e5 h5
  replace G5 : wo g5 = wo ({ h with co := 0, ro := 0, na := false, l0 := 0, l1 := 0, l2 := 0, l3 := 0, sp := 0, cd := false, da := 0, cb := 0, x0 := false, x1 := false, x2 := false } : Hd) := G5
  obtain ⟨q6, e6, H6⟩ := lA H5 mco h6
  have G6 : wo c6.2.2 = wo ({ h with ro := 0, na := false, l0 := 0, l1 := 0, l2 := 0, l3 := 0, sp := 0, cd := false, da := 0, cb := 0, x0 := false, x1 := false, x2 := false } : Hd) := by rw [e6]; exact congrArg (fun x : Hd => { x with co := h.co }) G5
  obtain ⟨c6a, c6b, g6⟩ := c6
  obtain ⟨rfl, rfl⟩ : c6a = .r b q6 ∧ c6b = 0 := ⟨congrArg Prod.fst e6, congrArg (fun y : Cd => y.2.1) e6⟩
  clear e6 h6
  replace G6 : wo g6 = wo ({ h with ro := 0, na := false, l0 := 0, l1 := 0, l2 := 0, l3 := 0, sp := 0, cd := false, da := 0, cb := 0, x0 := false, x1 := false, x2 := false } : Hd) := G6
  obtain ⟨q7, e7, H7⟩ := lA H6 mro h7
  have G7 : wo c7.2.2 = wo ({ h with na := false, l0 := 0, l1 := 0, l2 := 0, l3 := 0, sp := 0, cd := false, da := 0, cb := 0, x0 := false, x1 := false, x2 := false } : Hd) := by rw [e7]; exact congrArg (fun x : Hd => { x with ro := h.ro }) G6
  obtain ⟨c7a, c7b, g7⟩ := c7
  obtain ⟨rfl, rfl⟩ : c7a = .r b q7 ∧ c7b = 0 := ⟨congrArg Prod.fst e7, congrArg (fun y : Cd => y.2.1) e7⟩
  clear e7 h7
  replace G7 : wo g7 = wo ({ h with na := false, l0 := 0, l1 := 0, l2 := 0, l3 := 0, sp := 0, cd := false, da := 0, cb := 0, x0 := false, x1 := false, x2 := false } : Hd) := G7
  obtain ⟨q8, e8, H8⟩ := fA H7  h8
  have G8 : wo c8.2.2 = wo ({ h with l0 := 0, l1 := 0, l2 := 0, l3 := 0, sp := 0, cd := false, da := 0, cb := 0, x0 := false, x1 := false, x2 := false } : Hd) := by rw [e8]; exact congrArg (fun x : Hd => { x with na := h.na }) G7
  obtain ⟨c8a, c8b, g8⟩ := c8
  obtain ⟨rfl, rfl⟩ : c8a = .r b q8 ∧ c8b = 0 := ⟨congrArg Prod.fst e8, congrArg (fun y : Cd => y.2.1) e8⟩
  clear e8 h8
  replace G8 : wo g8 = wo ({ h with l0 := 0, l1 := 0, l2 := 0, l3 := 0, sp := 0, cd := false, da := 0, cb := 0, x0 := false, x1 := false, x2 := false } : Hd) := G8
  have hl : g8.less = h.less := by have := congrArg Hd.less G8; exact this
  cases hc : h.less with
  | true =>
    rw [if_pos (by show g8.less = true; rw [hl, hc])] at h9
    rw [if_pos hc] at H8
    obtain ⟨u1, u2⟩ := u_less mf hc
    exact ⟨q8, by rw [h9.1], by rw [h9.1], by rw [h9.1]; exact G8.trans u1, by rw [h9.2, u2], by simpa using H8⟩
  | false =>
    rw [if_neg (by show ¬ g8.less = true; rw [hl, hc]; decide)] at h9
    rw [if_neg (by rw [hc]; decide)] at H8
    exact filt_a H8 mf hc G8 h9
theorem u_ref (e1 : (h.r0 = 0 ∧ h.r1 = 0 ∧ h.r2 = 0) ∧ h.pr = -1) : wo ({ h with r0 := 0, r1 := 0, r2 := 0, pr := -1, ba := 0, d0 := 0, d1 := 0, d2 := 0, d3 := 0, d4 := 0, co := 0, ro := 0, na := false, l0 := 0, l1 := 0, l2 := 0, l3 := 0, sp := 0, cd := false, da := 0, cb := 0, x0 := false, x1 := false, x2 := false } : Hd) = wo ({ h with ba := 0, d0 := 0, d1 := 0, d2 := 0, d3 := 0, d4 := 0, co := 0, ro := 0, na := false, l0 := 0, l1 := 0, l2 := 0, l3 := 0, sp := 0, cd := false, da := 0, cb := 0, x0 := false, x1 := false, x2 := false } : Hd) := by
  obtain ⟨⟨a1, a2, a3⟩, a4⟩ := e1
  cases h
  simp only at a1 a2 a3 a4
  subst a1 a2 a3 a4
  rfl
theorem u_pr (e1 : h.pr = -1) : wo ({ h with pr := -1, ba := 0, d0 := 0, d1 := 0, d2 := 0, d3 := 0, d4 := 0, co := 0, ro := 0, na := false, l0 := 0, l1 := 0, l2 := 0, l3 := 0, sp := 0, cd := false, da := 0, cb := 0, x0 := false, x1 := false, x2 := false } : Hd) = wo ({ h with ba := 0, d0 := 0, d1 := 0, d2 := 0, d3 := 0, d4 := 0, co := 0, ro := 0, na := false, l0 := 0, l1 := 0, l2 := 0, l3 := 0, sp := 0, cd := false, da := 0, cb := 0, x0 := false, x1 := false, x2 := false } : Hd) := by
  cases h
  simp only at e1
  subst e1
  rfl
theorem ref_a (H : At b z p (rBits h ++ l)) (pr : -1 ≤ h.pr ∧ h.pr ≤ 7) (mk : h.ke = true → (h.r0 = 0 ∧ h.r1 = 0 ∧ h.r2 = 0) ∧ h.pr = -1) (mr : (0 ≤ h.r0 ∧ h.r0 ≤ 7) ∧ (0 ≤ h.r1 ∧ h.r1 ≤ 7) ∧ (0 ≤ h.r2 ∧ h.r2 ≤ 7)) (hg : wo g = wo ({ h with r0 := 0, r1 := 0, r2 := 0, pr := 0, ba := 0, d0 := 0, d1 := 0, d2 := 0, d3 := 0, d4 := 0, co := 0, ro := 0, na := false, l0 := 0, l1 := 0, l2 := 0, l3 := 0, sp := 0, cd := false, da := 0, cb := 0, x0 := false, x1 := false, x2 := false } : Hd)) (ht : RefT (.r b p, 0, g) c) : ∃ q g', c = (.r b q, 0, g') ∧ wo g' = wo ({ h with ba := 0, d0 := 0, d1 := 0, d2 := 0, d3 := 0, d4 := 0, co := 0, ro := 0, na := false, l0 := 0, l1 := 0, l2 := 0, l3 := 0, sp := 0, cd := false, da := 0, cb := 0, x0 := false, x1 := false, x2 := false } : Hd) ∧ At b z q l := by
  obtain ⟨c1, t, k1, k2⟩ := ht
  unfold rBits at H
  have hk : g.ke = h.ke := by have := congrArg Hd.ke hg; exact this
  have G0 := hg
  by_cases hc : h.ke = true
  · rw [if_pos (by show g.ke = true; rw [hk, hc])] at k1
    rw [if_pos hc] at H
    obtain ⟨k1, rfl⟩ := k1
    subst k1
    rw [if_neg (by decide)] at k2
    refine ⟨p, _, k2, ?_, by simpa using H⟩
    exact (congrArg (fun x : Hd => { x with pr := -1 }) G0).trans (u_ref (mk hc))
  · rw [if_neg (by show ¬ g.ke = true; rw [hk]; exact hc)] at k1
    rw [if_neg hc] at H
    simp only [List.append_assoc] at H
    obtain ⟨c1', h1, c2, h2, c3, h3, h4, h5⟩ := k1
    obtain ⟨q1, e1, H1⟩ := nA0 H (n := 3) (by decide) mr.1.1 (by show h.r0 < 8; omega) h1
    have G1 : wo c1'.2.2 = wo ({ h with r1 := 0, r2 := 0, pr := 0, ba := 0, d0 := 0, d1 := 0, d2 := 0, d3 := 0, d4 := 0, co := 0, ro := 0, na := false, l0 := 0, l1 := 0, l2 := 0, l3 := 0, sp := 0, cd := false, da := 0, cb := 0, x0 := false, x1 := false, x2 := false } : Hd) := by rw [e1]; exact congrArg (fun x : Hd => { x with r0 := h.r0 }) G0
    obtain ⟨ca1, cb1, g1⟩ := c1'
    obtain ⟨rfl, rfl⟩ : ca1 = .r b q1 ∧ cb1 = 0 := ⟨congrArg Prod.fst e1, congrArg (fun y : Cd => y.2.1) e1⟩
    clear e1 h1
    replace G1 : wo g1 = wo ({ h with r1 := 0, r2 := 0, pr := 0, ba := 0, d0 := 0, d1 := 0, d2 := 0, d3 := 0, d4 := 0, co := 0, ro := 0, na := false, l0 := 0, l1 := 0, l2 := 0, l3 := 0, sp := 0, cd := false, da := 0, cb := 0, x0 := false, x1 := false, x2 := false } : Hd) := G1
    obtain ⟨q2, e2, H2⟩ := nA0 H1 (n := 3) (by decide) mr.2.1.1 (by show h.r1 < 8; omega) h2
    have G2 : wo c2.2.2 = wo ({ h with r2 := 0, pr := 0, ba := 0, d0 := 0, d1 := 0, d2 := 0, d3 := 0, d4 := 0, co := 0, ro := 0, na := false, l0 := 0, l1 := 0, l2 := 0, l3 := 0, sp := 0, cd := false, da := 0, cb := 0, x0 := false, x1 := false, x2 := false } : Hd) := by rw [e2]; exact congrArg (fun x : Hd => { x with r1 := h.r1 }) G1
    obtain ⟨ca2, cb2, g2⟩ := c2
    obtain ⟨rfl, rfl⟩ : ca2 = .r b q2 ∧ cb2 = 0 := ⟨congrArg Prod.fst e2, congrArg (fun y : Cd => y.2.1) e2⟩
    clear e2 h2
    replace G2 : wo g2 = wo ({ h with r2 := 0, pr := 0, ba := 0, d0 := 0, d1 := 0, d2 := 0, d3 := 0, d4 := 0, co := 0, ro := 0, na := false, l0 := 0, l1 := 0, l2 := 0, l3 := 0, sp := 0, cd := false, da := 0, cb := 0, x0 := false, x1 := false, x2 := false } : Hd) := G2
    obtain ⟨q3, e3, H3⟩ := nA0 H2 (n := 3) (by decide) mr.2.2.1 (by show h.r2 < 8; omega) h3
    have G3 : wo c3.2.2 = wo ({ h with pr := 0, ba := 0, d0 := 0, d1 := 0, d2 := 0, d3 := 0, d4 := 0, co := 0, ro := 0, na := false, l0 := 0, l1 := 0, l2 := 0, l3 := 0, sp := 0, cd := false, da := 0, cb := 0, x0 := false, x1 := false, x2 := false } : Hd) := by rw [e3]; exact congrArg (fun x : Hd => { x with r2 := h.r2 }) G2
    obtain ⟨ca3, cb3, g3⟩ := c3
    obtain ⟨rfl, rfl⟩ : ca3 = .r b q3 ∧ cb3 = 0 := ⟨congrArg Prod.fst e3, congrArg (fun y : Cd => y.2.1) e3⟩
    clear e3 h3
    replace G3 : wo g3 = wo ({ h with pr := 0, ba := 0, d0 := 0, d1 := 0, d2 := 0, d3 := 0, d4 := 0, co := 0, ro := 0, na := false, l0 := 0, l1 := 0, l2 := 0, l3 := 0, sp := 0, cd := false, da := 0, cb := 0, x0 := false, x1 := false, x2 := false } : Hd) := G3
    obtain ⟨f1, f2⟩ := flag_a (v := decide (g.pr ≥ 0)) H3
    simp only [f1] at h4 h5
    subst h4 h5
    by_cases hp : h.pr ≥ 0
    · rw [if_pos (decide_eq_true hp)] at k2
      rw [if_pos hp] at f2
      obtain ⟨q4, e4, H4⟩ := nA0 f2 (n := 3) (by decide) hp (by show h.pr < 8; omega) k2
      exact ⟨q4, _, e4, congrArg (fun x : Hd => { x with pr := h.pr }) G3, H4⟩
    · have hp' : h.pr = -1 := by omega
      rw [if_neg (by simpa using hp)] at k2
      rw [if_neg hp, List.nil_append] at f2
      exact ⟨q3 + 1, _, k2, (congrArg (fun x : Hd => { x with pr := -1 }) G3).trans (u_pr (h := h) hp'), f2⟩
theorem u_ex (hx : h.ex = true) (hm : h.mt X = true) : wo ({ h with sh := false, ke := false, rf := 0, r0 := 0, r1 := 0, r2 := 0, pr := 0, ba := 0, d0 := 0, d1 := 0, d2 := 0, d3 := 0, d4 := 0, co := 0, ro := 0, na := false, l0 := 0, l1 := 0, l2 := 0, l3 := 0, sp := 0, cd := false, da := 0, cb := 0, x0 := false, x1 := false, x2 := false } : Hd) = wo h ∧ X = [] := by
  obtain ⟨a1, a2, a3, ⟨a4, a5, a6⟩, a7, a8, a9, a10, a11, a12⟩ := of_decide_eq_true hm
  obtain ⟨b1, b2⟩ := u_less a12 a8
  obtain ⟨d0, d1, d2, d3, d4, d5⟩ := of_decide_eq_true a8
  refine ⟨?_, b2⟩
  rw [← b1]
  clear b1 a12 a8 hm
  cases h
  simp only at *
  subst a1 a2 a3 a4 a5 a6 a7 a9 a10 a11 d0 d1 d2 d3 d4 d5
  rfl
theorem u_sl (e1 : h.sl = 0) : wo ({ h with sl := 0, sh := false, ke := false, rf := 0, r0 := 0, r1 := 0, r2 := 0, pr := 0, ba := 0, d0 := 0, d1 := 0, d2 := 0, d3 := 0, d4 := 0, co := 0, ro := 0, na := false, l0 := 0, l1 := 0, l2 := 0, l3 := 0, sp := 0, cd := false, da := 0, cb := 0, x0 := false, x1 := false, x2 := false } : Hd) = wo ({ h with sh := false, ke := false, rf := 0, r0 := 0, r1 := 0, r2 := 0, pr := 0, ba := 0, d0 := 0, d1 := 0, d2 := 0, d3 := 0, d4 := 0, co := 0, ro := 0, na := false, l0 := 0, l1 := 0, l2 := 0, l3 := 0, sp := 0, cd := false, da := 0, cb := 0, x0 := false, x1 := false, x2 := false } : Hd) := by
  cases h
  simp only at e1
  subst e1
  rfl
/-- A header whose bits stand there is read. -/
theorem head_a (H : At b z p (hBits h X ++ l)) (hm : h.may X w e = true) {X' : List Sg} (ht : HeadT w e (.r b p, 0, zP) [] c X') : ∃ q, c.1 = .r b q ∧ c.2.1 = 0 ∧ wo c.2.2 = wo h ∧ X' = X ∧ At b z q l := by
  have mS : mayS w e = true := by unfold Hd.may at hm; simp only [Bool.and_eq_true] at hm; exact hm.1.1.1
  obtain ⟨c1, h1, ht⟩ := ht
  unfold hBits at H
  simp only [List.append_assoc] at H
  have G0 : wo zP = wo ({ h with ex := false, sl := 0, sh := false, ke := false, rf := 0, r0 := 0, r1 := 0, r2 := 0, pr := 0, ba := 0, d0 := 0, d1 := 0, d2 := 0, d3 := 0, d4 := 0, co := 0, ro := 0, na := false, l0 := 0, l1 := 0, l2 := 0, l3 := 0, sp := 0, cd := false, da := 0, cb := 0, x0 := false, x1 := false, x2 := false } : Hd) := rfl
  obtain ⟨q1, e1, H1⟩ := fA H  h1
  have G1 : wo c1.2.2 = wo ({ h with sl := 0, sh := false, ke := false, rf := 0, r0 := 0, r1 := 0, r2 := 0, pr := 0, ba := 0, d0 := 0, d1 := 0, d2 := 0, d3 := 0, d4 := 0, co := 0, ro := 0, na := false, l0 := 0, l1 := 0, l2 := 0, l3 := 0, sp := 0, cd := false, da := 0, cb := 0, x0 := false, x1 := false, x2 := false } : Hd) := by rw [e1]; exact congrArg (fun x : Hd => { x with ex := h.ex }) G0
  obtain ⟨c1a, c1b, g1⟩ := c1
  obtain ⟨rfl, rfl⟩ : c1a = .r b q1 ∧ c1b = 0 := ⟨congrArg Prod.fst e1, congrArg (fun y : Cd => y.2.1) e1⟩
  clear e1 h1
  replace G1 : wo g1 = wo ({ h with sl := 0, sh := false, ke := false, rf := 0, r0 := 0, r1 := 0, r2 := 0, pr := 0, ba := 0, d0 := 0, d1 := 0, d2 := 0, d3 := 0, d4 := 0, co := 0, ro := 0, na := false, l0 := 0, l1 := 0, l2 := 0, l3 := 0, sp := 0, cd := false, da := 0, cb := 0, x0 := false, x1 := false, x2 := false } : Hd) := G1
  have hx : g1.ex = h.ex := by have := congrArg Hd.ex G1; exact this
  cases hc : h.ex with
  | true =>
    rw [if_pos (by show g1.ex = true; rw [hx, hc])] at ht
    rw [if_pos hc] at H1
    unfold Hd.may at hm
    simp only [hc, if_true, Bool.and_eq_true, decide_eq_true_eq] at hm
    have sl := hm.1.1.2
    obtain ⟨q2, e2, H2⟩ := nA0 H1 (n := 3) (by decide) sl.1.1 (by show h.sl < 8; omega) ht.1
    obtain ⟨u1, u2⟩ := u_ex hc sl.2
    exact ⟨q2, by rw [e2], by rw [e2], by rw [e2]; exact (congrArg (fun x : Hd => { x with sl := h.sl }) G1).trans u1, by rw [ht.2, u2], H2⟩
  | false =>
    rw [if_neg (by show ¬ g1.ex = true; rw [hx, hc]; decide)] at ht
    rw [if_neg (by rw [hc]; decide)] at H1
    simp only [List.append_assoc] at H1
    obtain ⟨⟨sl, rf, pr, ba⟩, mk, mr, md, mco, mro, mf⟩ := (may_iff hc mS).1 hm
    obtain ⟨c2, h2, c3, h3, c4, h4, c5, h5, c6, h6, ht⟩ := ht
    replace G1 := G1.trans (u_sl sl)
    obtain ⟨q2, e2, H2⟩ := fA H1  h2
    have G2 : wo c2.2.2 = wo ({ h with ke := false, rf := 0, r0 := 0, r1 := 0, r2 := 0, pr := 0, ba := 0, d0 := 0, d1 := 0, d2 := 0, d3 := 0, d4 := 0, co := 0, ro := 0, na := false, l0 := 0, l1 := 0, l2 := 0, l3 := 0, sp := 0, cd := false, da := 0, cb := 0, x0 := false, x1 := false, x2 := false } : Hd) := by rw [e2]; exact congrArg (fun x : Hd => { x with sh := h.sh }) G1
    obtain ⟨c2a, c2b, g2⟩ := c2
    obtain ⟨rfl, rfl⟩ : c2a = .r b q2 ∧ c2b = 0 := ⟨congrArg Prod.fst e2, congrArg (fun y : Cd => y.2.1) e2⟩
    clear e2 h2
    replace G2 : wo g2 = wo ({ h with ke := false, rf := 0, r0 := 0, r1 := 0, r2 := 0, pr := 0, ba := 0, d0 := 0, d1 := 0, d2 := 0, d3 := 0, d4 := 0, co := 0, ro := 0, na := false, l0 := 0, l1 := 0, l2 := 0, l3 := 0, sp := 0, cd := false, da := 0, cb := 0, x0 := false, x1 := false, x2 := false } : Hd) := G2
    obtain ⟨q3, e3, H3⟩ := fA H2  h3
    have G3 : wo c3.2.2 = wo ({ h with rf := 0, r0 := 0, r1 := 0, r2 := 0, pr := 0, ba := 0, d0 := 0, d1 := 0, d2 := 0, d3 := 0, d4 := 0, co := 0, ro := 0, na := false, l0 := 0, l1 := 0, l2 := 0, l3 := 0, sp := 0, cd := false, da := 0, cb := 0, x0 := false, x1 := false, x2 := false } : Hd) := by rw [e3]; exact congrArg (fun x : Hd => { x with ke := h.ke }) G2
    obtain ⟨c3a, c3b, g3⟩ := c3
    obtain ⟨rfl, rfl⟩ : c3a = .r b q3 ∧ c3b = 0 := ⟨congrArg Prod.fst e3, congrArg (fun y : Cd => y.2.1) e3⟩
    clear e3 h3
    replace G3 : wo g3 = wo ({ h with rf := 0, r0 := 0, r1 := 0, r2 := 0, pr := 0, ba := 0, d0 := 0, d1 := 0, d2 := 0, d3 := 0, d4 := 0, co := 0, ro := 0, na := false, l0 := 0, l1 := 0, l2 := 0, l3 := 0, sp := 0, cd := false, da := 0, cb := 0, x0 := false, x1 := false, x2 := false } : Hd) := G3
    obtain ⟨q4, e4, H4⟩ := nA0 H3 (n := 8) (by decide) rf.1 (by show h.rf < 256; omega) h4
    have G4 : wo c4.2.2 = wo ({ h with r0 := 0, r1 := 0, r2 := 0, pr := 0, ba := 0, d0 := 0, d1 := 0, d2 := 0, d3 := 0, d4 := 0, co := 0, ro := 0, na := false, l0 := 0, l1 := 0, l2 := 0, l3 := 0, sp := 0, cd := false, da := 0, cb := 0, x0 := false, x1 := false, x2 := false } : Hd) := by rw [e4]; exact congrArg (fun x : Hd => { x with rf := h.rf }) G3
    obtain ⟨c4a, c4b, g4⟩ := c4
    obtain ⟨rfl, rfl⟩ : c4a = .r b q4 ∧ c4b = 0 := ⟨congrArg Prod.fst e4, congrArg (fun y : Cd => y.2.1) e4⟩
    clear e4 h4
    replace G4 : wo g4 = wo ({ h with r0 := 0, r1 := 0, r2 := 0, pr := 0, ba := 0, d0 := 0, d1 := 0, d2 := 0, d3 := 0, d4 := 0, co := 0, ro := 0, na := false, l0 := 0, l1 := 0, l2 := 0, l3 := 0, sp := 0, cd := false, da := 0, cb := 0, x0 := false, x1 := false, x2 := false } : Hd) := G4
    obtain ⟨q5, g5, rfl, G5, H5⟩ := ref_a H4 pr mk mr G4 h5
    obtain ⟨q6, e6, H6⟩ := nA0 H5 (n := 8) (by decide) ba.1 (by show h.ba < 256; omega) h6
    have G6 : wo c6.2.2 = wo ({ h with d0 := 0, d1 := 0, d2 := 0, d3 := 0, d4 := 0, co := 0, ro := 0, na := false, l0 := 0, l1 := 0, l2 := 0, l3 := 0, sp := 0, cd := false, da := 0, cb := 0, x0 := false, x1 := false, x2 := false } : Hd) := by rw [e6]; exact congrArg (fun x : Hd => { x with ba := h.ba }) G5
    obtain ⟨c6a, c6b, g6⟩ := c6
    obtain ⟨rfl, rfl⟩ : c6a = .r b q6 ∧ c6b = 0 := ⟨congrArg Prod.fst e6, congrArg (fun y : Cd => y.2.1) e6⟩
    clear e6 h6
    replace G6 : wo g6 = wo ({ h with d0 := 0, d1 := 0, d2 := 0, d3 := 0, d4 := 0, co := 0, ro := 0, na := false, l0 := 0, l1 := 0, l2 := 0, l3 := 0, sp := 0, cd := false, da := 0, cb := 0, x0 := false, x1 := false, x2 := false } : Hd) := G6
    exact tail_a H6 md mco mro mf G6 ht
end
end Go.Zt


/- Layer 20: helps for HeadsBack: thirty cells read, heads seen, packed bits. -/
set_option linter.unusedSimpArgs false
set_option linter.unusedVariables false
set_option maxRecDepth 100000
namespace Go.Zt
open Go Go.Sim Go.Proofs Go.RowKit

/-- A header stands in thirty cells. -/
def HdAt (M : Mem) (blk off : Nat) (h : Hd) : Prop := ∀ o, o < 30 → M.cell blk (off + o) = h.cs[o]?
theorem on30 {M : Mem} {blk off : Nat} {h : Hd} {P : Bool → Int → Bool → Bool → Int → Int → Int → Int → Int → Int → Int → Int → Int → Int → Int → Int → Int → Bool → Int → Int → Int → Int → Int → Bool → Int → Int → (Option Addr × Nat × Nat) → Bool → Bool → Bool → Prop} (hc : HdAt M blk off h) (k : P h.ex h.sl h.sh h.ke h.rf h.r0 h.r1 h.r2 h.pr h.ba h.d0 h.d1 h.d2 h.d3 h.d4 h.co h.ro h.na h.l0 h.l1 h.l2 h.l3 h.sp h.cd h.da h.cb (h.A, h.n, h.c) h.x0 h.x1 h.x2) : onS (M.boolAt blk off) fun y0 => onS (M.intAt .i64 blk (off + 1)) fun y1 => onS (M.boolAt blk (off + 2)) fun y2 => onS (M.boolAt blk (off + 3)) fun y3 => onS (M.intAt .i64 blk (off + 4)) fun y4 => onS (M.intAt .i64 blk (off + 5)) fun y5 => onS (M.intAt .i64 blk (off + 6)) fun y6 => onS (M.intAt .i64 blk (off + 7)) fun y7 => onS (M.intAt .i64 blk (off + 8)) fun y8 => onS (M.intAt .i64 blk (off + 9)) fun y9 => onS (M.intAt .i64 blk (off + 10)) fun y10 => onS (M.intAt .i64 blk (off + 11)) fun y11 => onS (M.intAt .i64 blk (off + 12)) fun y12 => onS (M.intAt .i64 blk (off + 13)) fun y13 => onS (M.intAt .i64 blk (off + 14)) fun y14 => onS (M.intAt .i64 blk (off + 15)) fun y15 => onS (M.intAt .i64 blk (off + 16)) fun y16 => onS (M.boolAt blk (off + 17)) fun y17 => onS (M.intAt .i64 blk (off + 18)) fun y18 => onS (M.intAt .i64 blk (off + 19)) fun y19 => onS (M.intAt .i64 blk (off + 20)) fun y20 => onS (M.intAt .i64 blk (off + 21)) fun y21 => onS (M.intAt .i64 blk (off + 22)) fun y22 => onS (M.boolAt blk (off + 23)) fun y23 => onS (M.intAt .i64 blk (off + 24)) fun y24 => onS (M.intAt .i64 blk (off + 25)) fun y25 => onS (M.slAt blk (off + 26)) fun y26 => onS (M.boolAt blk (off + 27)) fun y27 => onS (M.boolAt blk (off + 28)) fun y28 => onS (M.boolAt blk (off + 29)) fun y29 => P y0 y1 y2 y3 y4 y5 y6 y7 y8 y9 y10 y11 y12 y13 y14 y15 y16 y17 y18 y19 y20 y21 y22 y23 y24 y25 y26 y27 y28 y29 :=
  on (cell_bool (hc 0 (by decide))) (on (cell_int (hc 1 (by decide))) (on (cell_bool (hc 2 (by decide))) (on (cell_bool (hc 3 (by decide))) (on (cell_int (hc 4 (by decide))) (on (cell_int (hc 5 (by decide))) (on (cell_int (hc 6 (by decide))) (on (cell_int (hc 7 (by decide))) (on (cell_int (hc 8 (by decide))) (on (cell_int (hc 9 (by decide))) (on (cell_int (hc 10 (by decide))) (on (cell_int (hc 11 (by decide))) (on (cell_int (hc 12 (by decide))) (on (cell_int (hc 13 (by decide))) (on (cell_int (hc 14 (by decide))) (on (cell_int (hc 15 (by decide))) (on (cell_int (hc 16 (by decide))) (on (cell_bool (hc 17 (by decide))) (on (cell_int (hc 18 (by decide))) (on (cell_int (hc 19 (by decide))) (on (cell_int (hc 20 (by decide))) (on (cell_int (hc 21 (by decide))) (on (cell_int (hc 22 (by decide))) (on (cell_bool (hc 23 (by decide))) (on (cell_int (hc 24 (by decide))) (on (cell_int (hc 25 (by decide))) (on (cell_sl (hc 26 (by decide))) (on (cell_bool (hc 27 (by decide))) (on (cell_bool (hc 28 (by decide))) (on (cell_bool (hc 29 (by decide))) (k))))))))))))))))))))))))))))))
theorem hdAt {M : Mem} {j : Nat} {h : Hd} {t : TypeId} (a : M.nb[j]? = some (.cells h.cs t)) : HdAt M (2 * j) 0 h := fun o ho => by
  rw [cell_of a, Nat.zero_add]
/-- Headers in a row. -/
abbrev Hds (L : List (Hd × List Sg)) : List Value := L.flatMap fun x => x.1.cs.toList
theorem Hds_len (L : List (Hd × List Sg)) : (Hds L).length = 30 * L.length := by
  induction L with
  | nil => rfl
  | cons x L ih => simp only [Hds, List.flatMap_cons, List.length_append, List.length_cons] at ih ⊢; rw [ih]; show 30 + _ = _; omega
theorem Hds_at {L : List (Hd × List Sg)} {i : Nat} (hi : i < L.length) : ∀ o, o < 30 → (Hds L)[i * 30 + o]? = L[i].1.cs[o]? := by
  induction L generalizing i with
  | nil => simp at hi
  | cons x L ih =>
    intro o ho
    have lx : x.1.cs.toList.length = 30 := rfl
    cases i with
    | zero => simp only [Hds, List.flatMap_cons, Nat.zero_mul, Nat.zero_add]; rw [List.getElem?_append_left (by rw [lx]; exact ho)]; simp
    | succ i =>
      simp only [Hds, List.flatMap_cons]
      rw [List.getElem?_append_right (by rw [lx]; omega), show (i + 1) * 30 + o - x.1.cs.toList.length = i * 30 + o by rw [lx]; omega]
      exact ih (by simpa using hi) o ho
theorem Hds.elt {M : Mem} {A : Option Addr} {L : List (Hd × List Sg)} (hR : Row M A (Hds L)) {n i : Nat} {z : Int} (hz : z = (i : Int)) (hn : i < n) (hi : i < L.length) : ∃ a, idxA A n 30 z = some a ∧ HdAt M a.block a.off L[i].1 := by
  have hl := Hds_len L
  obtain ⟨a, h1, h2⟩ := hR.elt (s := 30) hz hn (by decide) (by omega)
  exact ⟨a, h1, fun o ho => by rw [h2 o ho]; exact Hds_at hi o ho⟩
/-- What is good about a header that is seen. -/
def Gd (M : Mem) (B : Nat) (x : Hd × List Sg) : Prop := x.1.n = x.2.length ∧ x.1.n ≤ x.1.c ∧ x.1.n ≤ B ∧ Old x.1.A ∧ Row M x.1.A (Sgs x.2) ∧ (x.1.A = none → x.1.c = 0)
theorem sees_heads {M : Mem} {B k : Nat} {r : List Value} (h : Sees Try.prog M B (k + 5) 67 r) : ∃ A n c, ∃ L : List (Hd × List Sg), r = [.slice A n c] ∧ n = L.length ∧ n ≤ c ∧ n ≤ B ∧ (A = none → c = 0) ∧ Old A ∧ Row M A (Hds L) ∧ ∀ x ∈ L, Gd M B x :=
  sees_slice (f := fun x : Hd × List Sg => x.1.cs.toList) (good := Gd M B) (e := 41) (by kernel_rfl) h fun r hr => by
    obtain ⟨g, X, h1, h2, h3, h4, h5, h6, h7⟩ := sees_head hr
    exact ⟨(g, X), h1, h2, h3, h4, h5, h6, h7⟩
theorem elem67 : ElemS Try.prog 67 41 30 232 (.agg zP.cs) := ⟨by kernel_rfl, by kernel_rfl, by kernel_rfl, by kernel_rfl, by decide⟩
/-! ### Bits in bytes -/
theorem numb_bit {f : Nat → Nat} (hf : ∀ i, f i < 2) (a r : Nat) (hr : r < 8) : numb f a 8 / 2 ^ (7 - r) % 2 = f (a + r) := by
  have h := segN hf 8 a
  have e1 : seg f a 8 = [f a, f (a + 1), f (a + 2), f (a + 3), f (a + 4), f (a + 5), f (a + 6), f (a + 7)] := rfl
  rw [e1] at h
  simp only [bitsN, List.cons.injEq, and_true] at h
  obtain ⟨h0, h1, h2, h3, h4, h5, h6, h7⟩ := h
  match r, hr with
  | 0, _ => exact h0
  | 1, _ => exact h1
  | 2, _ => exact h2
  | 3, _ => exact h3
  | 4, _ => exact h4
  | 5, _ => exact h5
  | 6, _ => exact h6
  | 7, _ => exact h7
theorem bit_pack {l : List Nat} (hl : Bin l) {i : Nat} (hi : i < 8 * (pack l).length) : bitOf (pack l) i = bitL l i := by
  have hp := pack_len l
  have hq : i / 8 < (pack l).length := by omega
  have hg : (pack l).getD (i / 8) 0 = gbyte l (i / 8) := by
    rw [List.getD_eq_getElem?_getD, List.getElem?_eq_getElem hq]
    simp [pack]
  unfold bitOf
  rw [hg]
  unfold gbyte
  rw [numb_bit (bitL_lt hl) (8 * (i / 8)) (i % 8) (Nat.mod_lt _ (by decide))]
  congr 1
  omega
theorem At.pack {l : List Nat} (hl : Bin l) : At (pack l) l.length 0 l := by
  have hp := pack_len l
  refine ⟨?_, by omega, by omega⟩
  refine List.ext_getElem (seg_len ..) fun i h1 h2 => ?_
  have h3 : i < l.length := h2
  simp only [Go.Zt.seg, List.getElem_map, List.getElem_range, Nat.zero_add]
  rw [bit_pack hl (by omega)]
  simp [bitL, h3]
theorem numb_nil {f : Nat → Nat} {a : Nat} : ∀ {n : Nat}, (∀ i, a ≤ i → i < a + n → f i = 0) → numb f a n = 0
  | 0, _ => rfl
  | n + 1, h => by rw [numb, numb_nil (n := n) fun i h1 h2 => h i h1 (by omega), h (a + n) (by omega) (by omega)]
theorem align_pack {l : List Nat} (hl : Bin l) : rAlign (pack l) l.length = (0, 8 * (pack l).length) := by
  have hp := pack_len l
  unfold rAlign
  simp only
  rw [if_neg]
  · congr 1; omega
  · intro h
    refine h (numb_nil fun i h1 h2 => ?_)
    rw [bit_pack hl (by omega)]
    exact bitL_out h1
theorem rdS_sqb {w e : Int} (hm : mayS w e = true) : rdS (sqb w e) = (w.toNat, e.toNat, 0) := by
  obtain ⟨h1, h2, h3, h4, h5, h6⟩ := of_decide_eq_true hm
  unfold sqb
  rw [if_pos hm]
  obtain ⟨u, hu⟩ : ∃ u : Nat, w = 16 + 2 * (u : Int) := ⟨((w - 16) / 2).toNat, by omega⟩
  obtain ⟨v, hv⟩ : ∃ v : Nat, e = 16 + 2 * (v : Int) := ⟨((e - 16) / 2).toNat, by omega⟩
  have hn : seqN w e = 512 * u + 4 * v := by
    unfold seqN
    rw [hu, hv]
    omega
  have key : seqN w e / 256 * 256 + seqN w e % 256 = 512 * u + 4 * v := by rw [hn]; omega
  unfold rdS
  simp only [List.length_cons, List.length_nil, List.getD_cons_zero, List.getD_cons_succ, key]
  rw [if_neg (by decide), if_neg (by omega), if_neg (by omega)]
  congr 1
  · omega
  · congr 1; omega
end Go.Zt


/- Layer 20: HeadsBack: what was written is read again. -/
set_option linter.unusedSimpArgs false
set_option linter.unusedVariables false
set_option maxRecDepth 100000
namespace Go.Zt
open Go Go.Sim Go.Proofs Go.RowKit

theorem wo_eq {h g : Hd} (hw : wo h = wo g) (hn : h.n = g.n) : g = { h with A := g.A, c := g.c } := by
  cases h
  cases g
  simp only [wo, Hd.mk.injEq] at hw
  simp only at hn
  simp [hw, hn]
abbrev hB (x : Hd × List Sg) : List Nat := hBits x.1 x.2
section
variable {U V : Nat → Prop} {M N M0 : Mem} {jd js jw : Nat} {b : List Nat} {w e : Int} {Ks Hs : List (Hd × List Sg)} {Ax : Option Addr} {cx z p : Nat} {l : List Nat}
theorem e6_5 (hm : mayS w e = true) (hal : rAlign b z = (0, 8 * b.length)) (hbl : b.length ≤ 4294967296) (good : ∀ x ∈ Ks, Gd M0 1048576 x ∧ x.1.may x.2 w e = true) (hK : Ks.length ≤ 1048576) :
    ∀ (q i : Nat) {U : Nat → Prop} {M : Mem} {p : Nat}, i + q = Ks.length → At b z p ((Ks.drop i).flatMap hB ++ [1]) → Rdr U M jd b p → M.floor ≤ jd → M.floor ≤ M.nb.size → (∀ i, U i → M.floor ≤ i ∧ i < M.nb.size) → jd < M.nb.size →
      M.nb[js]? = some (.cells #[.int .i64 w, .int .i64 e] 23) → ¬ U js ∧ js ≠ jd → Row M Ax (Hds Ks) → (∀ a, Ax = some a → ¬ U (a.block / 2) ∧ a.block / 2 ≠ jd ∧ a.block / 2 < M.nb.size) → (∀ x ∈ Ks, Row M x.1.A (Sgs x.2)) →
      A6_5 (some ⟨2 * js, 0, none⟩) Ax Ks.length cx (some ⟨2 * jd, 0, none⟩) (i : Int) M fun v _ => v = .bool true
  | 0, i, U, M, p, hi, hA, D, fd, fs, fu, ld, s, ns, hR, hF, hX => by
    rw [List.drop_of_length_le (by omega)] at hA
    simp only [List.flatMap_nil, List.nil_append] at hA
    have hA' : At b z p (bitsN 1 1 ++ []) := hA
    obtain ⟨r1, r2⟩ := hA'.fixed (by decide) (by decide)
    have r1' : rFixed b p 1 = (1, 0, p + 1) := r1
    have hz : p + 1 = z := by have := hA.len; simpa using this
    refine w6_5 (cF (decide_eq_false (by show ¬ (i : Int) < (Ks.length : Int); omega)) (Cn.mono (c33 D fd 1) ?_))
    rw [r1']
    rintro _ N ⟨rfl, C, zN, D1⟩
    refine ty rfl (ty rfl (ty rfl (cT rfl (w6_7 (cT rfl (Cn.mono (c40 D1 (by rw [C.floor]; exact fd)) ?_))))))
    have hz' : (1, 0, p + 1).2.2 = z := hz
    rw [show ((1, 0, p + 1) : Nat × Nat × Nat).2.2 = z from hz, hal]
    rintro _ N2 ⟨rfl, C2, zN2, D2⟩
    refine ty rfl (w6_8 (cT rfl (Cn.eq (c37 D2) (ty rfl ?_))))
    simp
  | q + 1, i, U, M, p, hi, hA, D, fd, fs, fu, ld, s, ns, hR, hF, hX => by
    have hlt : i < Ks.length := by omega
    rw [List.drop_eq_getElem_cons hlt, List.flatMap_cons, List.append_assoc] at hA
    have gx := good Ks[i] (List.getElem_mem hlt)
    refine w6_5 (cT (decide_eq_true (by show (i : Int) < (Ks.length : Int); omega)) (ad rfl (on (int_of s rfl) (on (int_of s rfl) (Cn.mono (c35 D fd fs (fun i hi => (fu i hi).1) fun i hi => (fu i hi).2) ?_)))))
    rw [if_pos hm]
    rintro _ N ⟨U', c, X, hT, sub, C, dv, ub, res⟩
    obtain ⟨p', c1, c2, c3, c4, hA'⟩ := head_a hA gx.2 hT
    rcases res with ⟨h0, _⟩ | ⟨_, rfl, hn, hRX, hAX⟩
    · exact absurd c2 h0
    subst c4
    rw [c1] at dv
    have D' : Rdr U' N jd b p' := dv
    have CC : Chg (fun i => U i ∨ i = jd) M N := C.mono fun i hi h => by rcases h with h | h | h <;> first | exact .inl h | exact .inr h | omega
    have sN := at_chg s CC fun h => h.elim ns.1 ns.2
    have RN := hR.chg CC fun a ha => .inr fun h => h.elim (hF a ha).1 (hF a ha).2.1
    have XN : ∀ x ∈ Ks, Row N x.1.A (Sgs x.2) := fun x hx => (hX x hx).old (good x hx).1.2.2.2.1 CC
    have zN := CC.size
    refine ty rfl (ty rfl ?_)
    refine ty rfl (ty rfl (ty rfl (ty rfl (ty rfl (ty rfl (ty rfl (ty rfl (ty rfl (ty rfl (ty rfl (ty rfl (ty rfl (ty rfl (ty rfl (ty rfl (ty rfl (ty rfl (ty rfl (ty rfl (ty rfl (ty rfl (ty rfl (ty rfl (ty rfl (ty rfl (ty rfl (ty rfl (ty rfl (ty rfl (?_))))))))))))))))))))))))))))))
    refine ty rfl (stN (cs := c.2.2.cs) (by rw [CC.floor]; omega) rfl rfl rfl fun N2 K2 z2 b2 => cF rfl (on30 (hdAt b2) ?_))
    obtain ⟨a, g1, g2⟩ := Hds.elt (RN.keep K2) (n := Ks.length) (i := i) (z := (i : Int)) rfl hlt hlt
    refine ix g1 (on30 g2 ?_)
    have hx : Ks[i].1 = { c.2.2 with A := Ks[i].1.A, c := Ks[i].1.c } := wo_eq c3 (by rw [hn, gx.1.1])
    have hR' := (XN Ks[i] (List.getElem_mem hlt)).keep K2
    generalize Ks[i].1.A = A', Ks[i].1.c = cc at hx hR'
    rw [hx]
    refine Cn.mono (c39 (A' := A') (c' := cc) hn (by rw [hn]; have := gx.1.1; have := gx.1.2.2.1; omega) (hRX.keep K2) hR') ?_
    rintro _ N3 ⟨rfl, K3⟩
    have K23 := K2.trans K3
    refine ty rfl (w6_6 (cF rfl ?_))
    rw [i64w (by omega)]
    exact e6_5 hm hal hbl good hK q (i + 1) (by omega) hA' (D'.keep K23) (by rw [K23.floor, CC.floor]; exact fd) (by rw [K23.floor, CC.floor]; have := K23.size; omega) (fun i hi => by
      have h1 := ub i hi
      have h2 := K23.size
      rw [K23.floor, CC.floor]
      rcases sub i hi with h | h
      · exact ⟨(fu i h).1, by omega⟩
      · omega) (by have := K23.size; omega) (at_keep sN K23) ⟨fun h => (sub js h).elim ns.1 fun q => by have := lt_of_at s; omega, ns.2⟩ (RN.keep K23) (fun a ha => ⟨fun h => (sub _ h).elim (hF a ha).1 fun q => by have := (hF a ha).2.2; omega, (hF a ha).2.1, by have := (hF a ha).2.2; have := K23.size; omega⟩) fun x hx => (XN x hx).keep K23
end
end Go.Zt


/- Layer 20: HeadsBack: the writing loop and the law. -/
set_option linter.unusedSimpArgs false
set_option linter.unusedVariables false
set_option maxRecDepth 100000
namespace Go.Zt
open Go Go.Sim Go.Proofs Go.RowKit

theorem bI_len (v : Int) (n : Nat) : (bI v n).length = n := bitsN_len _ _
theorem dBits_len (v : Int) : (dBits v).length ≤ 7 := by
  unfold dBits
  split <;> simp [bitsN_len]
theorem sBits_len (X : List Sg) : (X.flatMap sBits).length = 12 * X.length := by
  induction X with
  | nil => rfl
  | cons x X ih => simp only [List.flatMap_cons, List.length_append, ih, List.length_cons]; simp [sBits, bI_len]; omega
theorem hBits_len (h : Hd) (X : List Sg) : (hBits h X).length ≤ 200 + 12 * X.length := by
  have d0 := dBits_len h.d0
  have d1 := dBits_len h.d1
  have d2 := dBits_len h.d2
  have d3 := dBits_len h.d3
  have d4 := dBits_len h.d4
  have f : (fBits h X).length ≤ 50 + 12 * X.length := by
    unfold fBits
    simp only [List.length_append, bI_len, List.length_cons, List.length_nil]
    split
    · simp only [List.length_append, bI_len, sBits_len]; omega
    · simp only [List.length_nil]; omega
  have r : (rBits h).length ≤ 20 := by
    unfold rBits
    split
    · simp
    · simp only [List.length_append, bI_len, List.length_cons, List.length_nil]
      split <;> simp [bI_len]
  have t : (tBits h X).length ≤ 100 + 12 * X.length := by
    unfold tBits
    simp only [List.length_append, bI_len, List.length_cons, List.length_nil]
    split
    · simp only [List.length_nil]; omega
    · omega
  unfold hBits
  simp only [List.length_append, List.length_cons, List.length_nil]
  split
  · simp [bI_len]; omega
  · simp only [List.length_append, List.length_cons, List.length_nil, bI_len]; omega
section
variable {U V : Nat → Prop} {M N M0 : Mem} {jd js jw : Nat} {b : List Nat} {w e : Int} {Ks Hs : List (Hd × List Sg)} {Ah Ax : Option Addr} {nh ch cx z p : Nat} {l : List Nat}
/-- Writing is done; all is read again. -/
theorem end6 (hm : mayS w e = true) (W : Ws U M jw (Ks.flatMap hB)) (hl : (Ks.flatMap hB).length ≤ 10000) (O : Own V M 41 Ax (cx * 30) (Hds Ks)) (dV : ∀ i, V i → ¬ U i ∧ i ≠ jw ∧ i < M.nb.size) (s : M.nb[js]? = some (.cells #[.int .i64 w, .int .i64 e] 23)) (ns : ¬ U js ∧ js ≠ jw)
    (good : ∀ x ∈ Ks, Gd M0 1048576 x ∧ x.1.may x.2 w e = true) (hX : ∀ x ∈ Ks, Row M x.1.A (Sgs x.2)) (hK : Ks.length ≤ 8) (i : Int) :
    A6_3 Ah nh ch (some ⟨2 * js, 0, none⟩) (some ⟨2 * jw, 0, none⟩) Ax Ks.length cx i false M fun v _ => v = .bool true := by
  refine w6_3 (cF rfl (Cn.mono (c22 W.flw W.dev (v := 1) (y := 1) rfl (by decide) 1 (by omega)) ?_))
  have e1 : wFixed (Ks.flatMap hB) 1 1 = (0, Ks.flatMap hB ++ [1]) := by
    unfold wFixed; rw [if_neg (by decide)]; rfl
  rw [e1]
  rintro _ M1 ⟨rfl, C1, D1⟩
  obtain ⟨U1, E1, W1⟩ := W.of C1 D1
  have s1 := E1.at s ns.1 ns.2
  have lw := W.lt
  have O1 : Own V M1 41 Ax (cx * 30) (Hds Ks) := O.chg E1.chg fun i hi hv hh => hh.elim (dV i hv).1 (dV i hv).2.1
  refine ty rfl (Cn.mono (c28 W1.dev W1.fs) ?_)
  rintro _ M2 ⟨A2, c2, rfl, K2, O2, _⟩
  have bl := W1.dev.len
  have pl := pack_len (Ks.flatMap hB ++ [1])
  have hbin := W1.dev.bin
  have hByt : Byt (pack (Ks.flatMap hB ++ [1])) := fun x hx => by
    unfold pack at hx
    obtain ⟨q, _, rfl⟩ := List.mem_map.1 hx
    exact gbyte_lt hbin q
  have l1 : (Ks.flatMap hB ++ [1]).length ≤ 10001 := by simp; simpa using hl
  have pl2 : (pack (Ks.flatMap hB ++ [1])).length ≤ 4294967296 := by rw [pack_len]; omega
  refine ty rfl (Cn.mono (c31 (fb W1.fs K2) O2.row rfl pl2 hByt) ?_)
  rintro _ M3 ⟨jd, rfl, K3, d1, d2, D⟩
  have K13 := K2.trans K3
  have z1 := E1.chg.size
  have z2 := K2.size
  have f3 : M3.floor ≤ M1.nb.size := by rw [K13.floor]; exact W1.fs
  have O3 := O1.chg K13 fun _ _ _ h => h
  have hal := align_pack hbin
  refine ty rfl (e6_5 (M0 := M0) (b := pack (Ks.flatMap hB ++ [1])) (z := (Ks.flatMap hB ++ [1]).length) (p := 0) hm hal pl2 good (by omega) Ks.length 0 (by omega) (by simpa using At.pack hbin) D (by omega) (by omega) (fun i hi => by omega) d2 (at_keep s1.1 K13) ⟨fun h => by have := lt_of_at s; omega, by have := lt_of_at s; omega⟩ O3.row (fun a ha => ?_) fun x hx => (hX x hx).old (good x hx).1.2.2.2.1 (E1.chg.trans (K13.mono fun i _ h => h.elim)))
  have h1 := O3.in_ a ha
  have h2 := (dV _ h1.2).2.2
  omega
theorem e6_2 (hm : mayS w e = true) (hH : ∀ x ∈ Hs, Gd M0 1048576 x) (hO : Old Ah) (hn : Hs.length ≤ 1048576) :
    ∀ (q i : Nat) {U V : Nat → Prop} {M : Mem} {Ks : List (Hd × List Sg)} {Ax : Option Addr} {cx : Nat}, i + q = Hs.length → Ks.length ≤ i → i ≤ 8 → Ws U M jw (Ks.flatMap hB) → (Ks.flatMap hB).length ≤ 1000 * i → Own V M 41 Ax (cx * 30) (Hds Ks) → (∀ i, V i → ¬ U i ∧ i ≠ jw ∧ i < M.nb.size ∧ M.floor ≤ i) →
      M.nb[js]? = some (.cells #[.int .i64 w, .int .i64 e] 23) → ¬ U js ∧ js ≠ jw ∧ ¬ V js → Row M Ah (Hds Hs) → (∀ x ∈ Hs, Row M x.1.A (Sgs x.2)) → (∀ x ∈ Ks, Gd M0 1048576 x ∧ x.1.may x.2 w e = true) → (∀ x ∈ Ks, Row M x.1.A (Sgs x.2)) →
      A6_2 Ah Hs.length ch (some ⟨2 * js, 0, none⟩) (some ⟨2 * jw, 0, none⟩) Ax Ks.length cx (i : Int) M fun v _ => v = .bool true
  | 0, i, U, V, M, Ks, Ax, cx, hi, hk, h8, W, hl, O, dV, s, ns, hR, hX, good, hY => by
    refine w6_2 (cF (decide_eq_false (by show ¬ (i : Int) < (Hs.length : Int); omega)) ?_)
    exact end6 hm W (by omega) O (fun i hi => ⟨(dV i hi).1, (dV i hi).2.1, (dV i hi).2.2.1⟩) s ⟨ns.1, ns.2.1⟩ good hY (by omega) _
  | q + 1, i, U, V, M, Ks, Ax, cx, hi, hk, h8, W, hl, O, dV, s, ns, hR, hX, good, hY => by
    have hlt : i < Hs.length := by omega
    refine w6_2 (cT (decide_eq_true (by show (i : Int) < (Hs.length : Int); omega)) ?_)
    by_cases h7 : i < 8
    · rw [decide_eq_true (show (i : Int) < 8 by omega)]
      have gx := hH Hs[i] (List.getElem_mem hlt)
      obtain ⟨a, g1, g2⟩ := Hds.elt hR (n := Hs.length) (i := i) (z := (i : Int)) rfl hlt hlt
      refine w6_3 (cT rfl (ix g1 (on30 g2 (ad rfl (on (int_of s rfl) (on (int_of s rfl) (Cn.mono (c24 (h := Hs[i].1) (X := Hs[i].2) W (by omega) gx.1 gx.2.2.1 (hX _ (List.getElem_mem hlt)) (fun a ha => .inl (gx.2.2.2.1 a ha))) ?_)))))))
      rintro _ N ⟨rfl, U1, E1, W1⟩
      have sN := E1.at s ns.1 ns.2.1
      have RN := hR.old hO E1.chg
      have XN : ∀ x ∈ Hs, Row N x.1.A (Sgs x.2) := fun x hx => (hX x hx).old (hH x hx).2.2.2.1 E1.chg
      have YN : ∀ x ∈ Ks, Row N x.1.A (Sgs x.2) := fun x hx => (hY x hx).old (good x hx).1.2.2.2.1 E1.chg
      have ON : Own V N 41 Ax (cx * 30) (Hds Ks) := O.chg E1.chg fun i hi hv hh => hh.elim (dV i hv).1 (dV i hv).2.1
      have zN := E1.chg.size
      obtain ⟨a', g1', g2'⟩ := Hds.elt RN (n := Hs.length) (i := i) (z := (i : Int)) rfl hlt hlt
      refine ty rfl (ix g1' (on30 g2' (ad rfl (on (int_of sN.1 rfl) (on (int_of sN.1 rfl) (Cn.mono (c26 (h := Hs[i].1) (X := Hs[i].2) W1.fs gx.1 gx.2.2.1 (XN _ (List.getElem_mem hlt))) ?_))))))
      rintro _ N2 ⟨rfl, K2⟩
      have W2 := W1.keep K2
      have z2 := K2.size
      refine ty rfl (cF (by simp) ?_)
      have dV2 : ∀ i, V i → ¬ U1 i ∧ i ≠ jw ∧ i < N2.nb.size ∧ N2.floor ≤ i := fun i hi => by
        obtain ⟨v1, v2, v3, v4⟩ := dV i hi
        refine ⟨fun h => (E1.sub i h).elim v1 fun q => by omega, v2, by omega, ?_⟩
        rw [K2.floor, E1.chg.floor]; exact v4
      have s2 := at_keep sN.1 K2
      have R2 := RN.keep K2
      have X2 : ∀ x ∈ Hs, Row N2 x.1.A (Sgs x.2) := fun x hx => (XN x hx).keep K2
      have Y2 : ∀ x ∈ Ks, Row N2 x.1.A (Sgs x.2) := fun x hx => (YN x hx).keep K2
      have O2 := ON.chg K2 fun _ _ _ h => h
      cases hmy : Hs[i].1.may Hs[i].2 w e with
      | false =>
        have ew : wB Hs[i].1 Hs[i].2 w e = [] := by unfold wB; rw [hmy]; rfl
        rw [ew, List.append_nil] at W2
        refine cF rfl (w6_4 ?_)
        rw [i64w (by omega)]
        exact e6_2 hm hH hO hn q (i + 1) (by omega) (by omega) (by omega) W2 (by omega) O2 dV2 s2 ⟨sN.2, ns.2.1, ns.2.2⟩ R2 X2 good Y2
      | true =>
        have ew : wB Hs[i].1 Hs[i].2 w e = hBits Hs[i].1 Hs[i].2 := by unfold wB; rw [hmy]; rfl
        rw [ew] at W2
        obtain ⟨a3, g3, g4⟩ := Hds.elt R2 (n := Hs.length) (i := i) (z := (i : Int)) rfl hlt hlt
        refine cT rfl (ix g3 (on30 g4 ?_))
        have lx := may_len hmy
        have hb2 := hBits_len Hs[i].1 Hs[i].2
        generalize hgx : Hs[i] = x at gx hmy ew W2 lx hb2 g4 ⊢
        have K3 : Keep N2 (N2.new (.cells x.1.cs.toList.toArray 41)) := .new _ _
        have n3 := Mem.new_size N2 (.cells x.1.cs.toList.toArray 41)
        have O3 := O2.chg K3 fun _ _ _ h => h
        have r3 := Row.new N2 41 x.1.cs.toList
        obtain ⟨A4, c4, M4, p4, C4, O4, hc4⟩ := append_own elem67 (S := fun j => V j ∨ N2.nb.size ≤ j) (O3.mono fun _ _ h => .inl h) (n := Ks.length) (by rw [Hds_len]; omega) r3 (k := 1) (cx := 1) rfl rfl (fun j hj => by
          rw [K3.floor]
          have := W2.fs
          rcases hj with h | h
          · exact (dV2 j h).2.2.2
          · omega) (by rw [n3]; exact .inr (by omega)) (by omega)
        refine me p4 (ty rfl (w6_4 ?_))
        rw [i64w (by omega)]
        have C24 : Chg (fun j => V j ∨ N2.nb.size ≤ j) N2 M4 := (K3.mono fun _ _ h => h.elim).trans C4
        have z4 := C24.size
        have lw := W2.lt
        have ls := lt_of_at s2
        have kl : (Ks ++ [x]).length = Ks.length + 1 := by simp
        have W4 : Ws U1 M4 jw ((Ks ++ [x]).flatMap hB) := by
          rw [List.flatMap_append, List.flatMap_cons, List.flatMap_nil, List.append_nil]
          exact W2.chg C24 fun i hi hu hh => by
            rcases hh with hh | hh
            · rcases hu with hu | hu
              · exact (dV2 i hh).1 hu
              · exact (dV2 i hh).2.1 hu
            · omega
        have O4' : Own (fun j => V j ∨ (N2.nb.size ≤ j ∧ j < M4.nb.size)) M4 41 A4 (c4 * 30) (Hds (Ks ++ [x])) := by
          have : Hds (Ks ++ [x]) = Hds Ks ++ x.1.cs.toList := by simp [Hds, List.flatMap_append]
          rw [this]
          exact O4.mono fun j hj h => h.imp id fun q => ⟨q, hj⟩
        have mem : x ∈ Hs := by rw [← hgx]; exact List.getElem_mem hlt
        have := e6_2 hm hH hO hn q (i + 1) (Ks := Ks ++ [x]) (by omega) (by omega) (by omega) W4 (by rw [List.flatMap_append, List.length_append]; simp only [List.flatMap_cons, List.flatMap_nil, List.append_nil]; have : (hB x).length = (hBits x.1 x.2).length := rfl; omega) O4' (fun j hj => by
          rcases hj with h | h
          · obtain ⟨v1, v2, v3, v4⟩ := dV2 j h
            exact ⟨v1, v2, by omega, by rw [C24.floor]; exact v4⟩
          · exact ⟨fun hu => by have := W2.ub j hu; omega, by omega, h.2, by rw [C24.floor]; have := W2.fs; omega⟩) (at_chg s2 C24 fun h => h.elim ns.2.2 fun q => by omega) ⟨sN.2, ns.2.1, fun h => h.elim ns.2.2 fun q => by omega⟩ (R2.old hO C24) (fun y hy => (X2 y hy).old (hH y hy).2.2.2.1 C24) (fun y hy => by
          rcases List.mem_append.1 hy with h | h
          · exact good y h
          · rw [List.mem_singleton.1 h]; exact ⟨gx, hmy⟩) (fun y hy => by
          rcases List.mem_append.1 hy with h | h
          · exact (Y2 y h).old (good y h).1.2.2.2.1 C24
          · rw [List.mem_singleton.1 h]; exact (X2 x mem).old gx.2.2.2.1 C24)
        rw [kl] at this
        exact this
    · rw [decide_eq_false (show ¬ (i : Int) < 8 by omega)]
      exact end6 hm W (by omega) O (fun i hi => ⟨(dV i hi).1, (dV i hi).2.1, (dV i hi).2.2.1⟩) s ⟨ns.1, ns.2.1⟩ good hY (by omega) _
end
end Go.Zt


/- Layer 20: HeadsBack: the law. -/
set_option linter.unusedSimpArgs false
set_option linter.unusedVariables false
set_option maxRecDepth 100000
namespace Go.Zt
open Go Go.Sim Go.Proofs Go.RowKit

theorem neq23 (a b : Int) : binV Try.prog .neq 23 23 (.agg #[.int .i64 a, .int .i64 b]) (.agg #[.int .i64 a, .int .i64 b]) = some (.bool false) := by
  obtain ⟨z, h1, h2, h3⟩ := binV_eqA (P := Try.prog) (k := 3) (t := 23) (tb := 23) (xs := [.int .i64 a, .int .i64 b]) (ys := [.int .i64 a, .int .i64 b]) (by decide) (by kernel_rfl) (by kernel_rfl) (by kernel_rfl) (by kernel_rfl) (by kernel_rfl) rfl rfl
  rw [h3.2 rfl] at h2
  exact h2
section
variable {M : Mem} {w e : Int} {Ah : Option Addr} {nh ch : Nat} {Hs : List (Hd × List Sg)}
theorem c6 (hf : M.floor ≤ M.nb.size) (hR : Row M Ah (Hds Hs)) (hn : nh = Hs.length) (hb : nh ≤ 1048576) (hO : Old Ah) (hH : ∀ x ∈ Hs, Gd M 1048576 x) :
    Cn Try.prog 6 #[.slice Ah nh ch, .agg #[.int .i64 w, .int .i64 e]] M fun v _ => v = .bool true := by
  subst hn
  have s := Mem.new_at M (.cells #[.int .i64 w, .int .i64 e] 23)
  have K1 : Keep M (M.new (.cells #[.int .i64 w, .int .i64 e] 23)) := .new _ _
  have s1 := Mem.new_size M (.cells #[.int .i64 w, .int .i64 e] 23)
  refine w6_0 (Cn.known (by rfl) (ty rfl (cF rfl ?_)))
  generalize M.new (.cells #[.int .i64 w, .int .i64 e] 23) = M1 at s K1 s1 ⊢
  refine on (int_of (i := 0) s rfl) (on (int_of (i := 0 + 1) s rfl) (Cn.mono c14 ?_))
  rintro _ M2 ⟨rfl, K2⟩
  have T2 := K1.trans K2
  have a2 := at_keep s K2
  refine ty rfl (cne (fun hm => on (int_of (i := 0) a2 rfl) (on (int_of (i := 0 + 1) a2 rfl) (Cn.mono (c10 (fb hf T2)) ?_))) fun hm => on (int_of (i := 0) a2 rfl) (on (int_of (i := 0 + 1) a2 rfl) (Cn.mono (c10 (fb hf T2)) ?_)))
  · have e2 : chkS w e = 2 := by
      unfold chkS at hm ⊢
      split
      · rename_i h; rw [if_pos h] at hm; exact absurd rfl hm
      · rfl
    rintro _ M3 ⟨K3, A3, c3, rfl, R3⟩
    refine ty rfl (ty rfl (ty rfl ?_))
    rw [e2]; rfl
  · have hm' : mayS w e = true := by
      unfold chkS at hm
      cases h : mayS w e
      · rw [h] at hm; cases hm
      · rfl
    have e2 : chkS w e = 0 := by unfold chkS; rw [hm']; rfl
    have hmm := of_decide_eq_true hm'
    rintro _ M3 ⟨K3, A3, c3, rfl, R3⟩
    have T3 := T2.trans K3
    have hBy : Byt (sqb w e) := fun x hx => by
      unfold sqb at hx
      rw [if_pos hm'] at hx
      have hq : seqN w e < 65536 := by unfold seqN; omega
      rcases List.mem_cons.1 hx with h | h
      · omega
      · rw [List.mem_singleton.1 h]; omega
    have lq : (sqb w e).length ≤ 2 := by unfold sqb; split <;> simp
    refine ty rfl (ty rfl (ty rfl (Cn.mono (c12 (fb hf T3) R3 rfl hBy (by omega)) ?_)))
    rw [rdS_sqb hm', e2]
    rintro _ M4 ⟨rfl, K4⟩
    have T4 := T3.trans K4
    have a4 := at_keep (at_keep a2 K3) K4
    have ew : ((w.toNat : Nat) : Int) = w := by omega
    have ee : ((e.toNat : Nat) : Int) = e := by omega
    refine ty rfl (ty rfl (ty rfl (ty rfl (ty rfl (stN (cs := #[.int .i64 (w.toNat : Nat), .int .i64 (e.toNat : Nat)]) (fb hf T4) rfl rfl rfl fun M5 K5 z5 b5 => cF rfl (cF rfl ?_))))))
    have T5 := T4.trans K5
    have a5 := at_keep a4 K5
    rw [ew, ee] at b5
    refine on (int_of (i := 0) b5 rfl) (on (int_of (i := 0 + 1) b5 rfl) (on (int_of (i := 0) a5 rfl) (on (int_of (i := 0 + 1) a5 rfl) (pu (neq23 w e) (ty rfl (w6_1 (cF rfl (Cn.mono c19 ?_))))))))
    rintro _ M6 ⟨rfl, K6, z6, W6⟩
    have T6 := T5.trans K6
    have f6 := fb hf T6
    have lM := lt_of_at a5
    have z5' := T5.size
    have W : Ws (fun _ => False) M6 M5.nb.size (([] : List (Hd × List Sg)).flatMap hB) := ⟨W6.shrink (fun i _ h => h.elim) fun hu => hu.elim id fun q => by omega, fun i hi => hi.elim False.elim fun q => by rw [T6.floor]; omega, f6, fun i hi => hi.elim⟩
    refine ty rfl (e6_2 (M0 := M) (Ks := []) (U := fun _ => False) (V := fun _ => False) hm' hH hO hb Hs.length 0 (by omega) (by simp) (by omega) W (by simp) (.inl ⟨rfl, rfl, by decide⟩) (fun i hi => hi.elim) (at_keep a5 K6) ⟨id, by omega, id⟩ (hR.keep T6) (fun x hx => ((hH x hx).2.2.2.2.1).keep T6) (fun x hx => by cases hx) fun x hx => by cases hx)
end
theorem law6 {W : World} {u : Value} {cs : List Value} (s0 : Sees Try.prog (mem0 W) 1048576 8 67 [u]) (s1 : Sees Try.prog (mem0 W) 1048576 8 23 cs) : Cn Try.prog 6 #[u, .agg cs.toArray] (mem0 W) fun v _ => v = .bool true := by
  obtain ⟨A, n, c, L, e, h1, h2, h3, h4, h5, h6, h7⟩ := sees_heads s0
  simp at e
  subst e
  obtain ⟨w, e, rfl, _, _⟩ := sees_seq s1
  exact c6 (Nat.le_refl _) h6 h1 h3 h5 h7
end Go.Zt

