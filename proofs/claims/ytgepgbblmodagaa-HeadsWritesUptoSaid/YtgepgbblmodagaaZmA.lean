/- Layer 20: the document's Write. -/
import Derived.Test.YtgepgbblmodagaaZlZ
set_option linter.unusedSimpArgs false
set_option linter.unusedVariables false
set_option maxRecDepth 100000
namespace Go.Zt
open Go Go.Sim Go.Proofs Go.RowKit
section
variable {U U0 : Nat → Prop} {M N M0 : Mem} {jd jh k : Nat} {l : List Nat} {h : Hd} {X : List Sg} {w e : Int}
theorem pK {Q : Mem → Prop} (E : Ext (· = jd) U0 M0 U M) (W : Wt U M jd l) (hl : l.length + 40 * (k + 1) ≤ 80000000000) {v z : Int} (n : Nat) (hz : z = (n : Int)) (hn : n ≤ 32) (h0 : 0 ≤ v) (h1 : v < ((2 ^ n : Nat) : Int))
    (K : ∀ U' N, Ext (· = jd) U0 M0 U' N → Wt U' N jd (l ++ bI v n) → (l ++ bI v n).length + 40 * k ≤ 80000000000 → Q N) : Cn Try.prog 51 #[PtrB jd, .int .i64 v, .int .i64 z] M fun _ N => Q N := by
  subst hz
  have hp : 2 ^ n ≤ 4294967296 := pow32 hn
  have ev : IntKind.u32.wrap v = ((v.toNat : Nat) : Int) := by rw [u32w (by omega)]; omega
  have e3 : wFixed l v.toNat n = (0, l ++ bI v n) := by unfold wFixed; rw [if_neg (by rw [Int.toNat_natCast]; omega)]; rfl
  refine w51_0 (Cn.mono (c23 W.flw W.dev ev (by omega) n (by omega)) ?_)
  rw [e3]
  rintro _ N ⟨rfl, C, W'⟩
  obtain ⟨U', E', W''⟩ := W.of C W'
  exact ty rfl (K U' N (E.trans E') W'' (by simp [bI, bitsN_len]; omega))
theorem yK {Q : Mem → Prop} (E : Ext (· = jd) U0 M0 U M) (W : Wt U M jd l) (hl : l.length + 40 * (k + 1) ≤ 80000000000) {b : Bool}
    (K : ∀ U' N, Ext (· = jd) U0 M0 U' N → Wt U' N jd (l ++ [yes b]) → (l ++ [yes b]).length + 40 * k ≤ 80000000000 → Q N) :
    Cn Try.prog 52 #[.bool b] M fun v N7 => tyS (asI .i64 v) fun x => Cn Try.prog 51 #[PtrB jd, .int .i64 x, .int .i64 1] N7 fun _ N => Q N := by
  refine w52_0 (cn (fun hb => ty rfl ?_) fun hb => ty rfl ?_)
  · subst hb; exact pK E W hl (v := 1) 1 rfl (by decide) (by decide) (by decide) K
  · subst hb; exact pK E W hl (v := 0) 1 rfl (by decide) (by decide) (by decide) K
theorem zK {Q : Mem → Prop} (E : Ext (· = jd) U0 M0 U M) (W : Wt U M jd l) (hl : l.length + 40 * (k + 1) ≤ 80000000000) {v : Int} (hv : -31 ≤ v ∧ v ≤ 31)
    (K : ∀ U' N, Ext (· = jd) U0 M0 U' N → Wt U' N jd (l ++ yes (decide (v < 0)) :: bitsN v.natAbs 5) → (l ++ yes (decide (v < 0)) :: bitsN v.natAbs 5).length + 40 * k ≤ 80000000000 → Q N) :
    Cn Try.prog 53 #[PtrB jd, .int .i32 (IntKind.i32.wrap v), .int .i64 5] M fun v N => tyS (asI .i64 v) fun _ => Q N := by
  rw [i32w (by omega)]
  have e2 : wSigned l v 5 = (0, l ++ yes (decide (v < 0)) :: bitsN v.natAbs 5) := by
    unfold wSigned
    rw [if_neg (by rw [show (5 : Int).toNat = 5 from rfl]; omega)]
    by_cases hn : v < 0 <;> simp [hn, yes]
  refine Cn.mono (c53 W.flw W.dev (v := v) (by omega) 5 (by omega)) ?_
  rw [e2]
  rintro _ N ⟨rfl, C, W'⟩
  obtain ⟨U', E', W''⟩ := W.of C W'
  exact ty rfl (K U' N (E.trans E') W'' (by simp [bitsN_len]; omega))
def Wo (U0 : Nat → Prop) (M0 : Mem) (jd : Nat) (l : List Nat) : Value → Mem → Prop := fun u N => u = .int .i64 0 ∧ ∃ U', Ext (· = jd) U0 M0 U' N ∧ Wt U' N jd l
section
variable (a : M0.nb[jh]? = some (.cells h.cs 41)) (nh : ¬ U0 jh ∧ jh ≠ jd)
include a nh
theorem e25_6 (E : Ext (· = jd) U0 M0 U M) (W : Wt U M jd l) (hl : l.length + 40 * 3 ≤ 80000000000) : A25_6 (some ⟨2 * jd, 0, none⟩) (some ⟨2 * jh, 0, none⟩) 0 M (Wo U0 M0 jd (l ++ [yes h.x0] ++ [yes h.x1] ++ [yes h.x2])) := by
  refine w25_6 (cT (by decide) (ad rfl (ix (x := ⟨2 * jh, 27, none⟩) (by kernel_rfl) (on (bool_of (i := 27) (E.at a nh.1 nh.2).1 rfl) (yK (k := 2) E W hl fun U1 N1 E1 W1 l1 => ?_)))))
  refine w25_6 (cT (by decide) (ad rfl (ix (x := ⟨2 * jh, 28, none⟩) (by kernel_rfl) (on (bool_of (i := 28) (E1.at a nh.1 nh.2).1 rfl) (yK (k := 1) E1 W1 l1 fun U2 N2 E2 W2 l2 => ?_)))))
  refine w25_6 (cT (by decide) (ad rfl (ix (x := ⟨2 * jh, 29, none⟩) (by kernel_rfl) (on (bool_of (i := 29) (E2.at a nh.1 nh.2).1 rfl) (yK (k := 0) E2 W2 l2 fun U3 N3 E3 W3 l3 => ?_)))))
  exact w25_6 (cF (by decide) ⟨rfl, U3, E3, W3⟩)
theorem e25_5 (hn : h.n = X.length) (hb : h.n ≤ 8) (hR : Row M0 h.A (Sgs X)) (hF : FarW U0 jd M0 h.A) (hX : X.all Sg.may = true) : ∀ (q i : Nat) {U : Nat → Prop} {M : Mem} {l : List Nat}, i + q = h.n → Ext (· = jd) U0 M0 U M → Wt U M jd l → l.length + 40 * (4 * q + 3) ≤ 80000000000 →
    A25_5 (some ⟨2 * jd, 0, none⟩) (some ⟨2 * jh, 0, none⟩) (i : Int) M (Wo U0 M0 jd (l ++ (X.drop i).flatMap sBits ++ [yes h.x0] ++ [yes h.x1] ++ [yes h.x2]))
  | 0, i, U, M, l, hi, E, W, hl => by
    have := e25_6 a nh E W hl
    rw [List.drop_of_length_le (by omega)]
    simp only [List.flatMap_nil, List.append_nil]
    exact w25_5 (ad rfl (on (sl_of (E.at a nh.1 nh.2).1 rfl) (cF (decide_eq_false (by show ¬ (i : Int) < (h.n : Int); omega)) this)))
  | q + 1, i, U, M, l, hi, E, W, hl => by
    have hlt : i < X.length := by omega
    obtain ⟨p, g0, _⟩ := Sgs.elt hR (n := h.n) (i := i) (z := (i : Int)) rfl (by omega) hlt
    have cells : ∀ {U1 : Nat → Prop} {M1 : Mem}, Ext (· = jd) U0 M0 U1 M1 → M1.intAt .i64 p.block p.off = some X[i].a ∧ M1.intAt .i64 p.block (p.off + 1) = some X[i].b ∧ M1.intAt .i64 p.block (p.off + 2) = some X[i].c ∧ M1.intAt .i64 p.block (p.off + 3) = some X[i].d := by
      intro U1 M1 E
      obtain ⟨p', g0', g⟩ := Sgs.elt (hF.row hR E) (n := h.n) (i := i) (z := (i : Int)) rfl (by omega) hlt
      rw [g0] at g0'
      obtain rfl := Option.some.inj g0'
      exact g
    have hm := of_decide_eq_true (List.all_eq_true.1 hX X[i] (List.getElem_mem hlt))
    rw [List.drop_eq_getElem_cons hlt]
    refine w25_5 (ad rfl (on (sl_of (E.at a nh.1 nh.2).1 rfl) (cT (decide_eq_true (by show (i : Int) < (h.n : Int); omega)) (ad rfl (on (sl_of (E.at a nh.1 nh.2).1 rfl) (ix g0 (on (cells E).1 (pK (k := 4 * q + 6) E W (by omega) 4 rfl (by decide) (by omega) (by show X[i].a < 16; omega) fun U1 N1 E1 W1 l1 => ?_))))))))
    refine ad rfl (on (sl_of (E1.at a nh.1 nh.2).1 rfl) (ix g0 (on (cells E1).2.1 (pK (k := 4 * q + 5) E1 W1 l1 2 rfl (by decide) (by omega) (by show X[i].b < 4; omega) fun U2 N2 E2 W2 l2 => ?_))))
    refine ad rfl (on (sl_of (E2.at a nh.1 nh.2).1 rfl) (ix g0 (on (cells E2).2.2.1 (pK (k := 4 * q + 4) E2 W2 l2 4 rfl (by decide) (by omega) (by show X[i].c < 16; omega) fun U3 N3 E3 W3 l3 => ?_))))
    refine ad rfl (on (sl_of (E3.at a nh.1 nh.2).1 rfl) (ix g0 (on (cells E3).2.2.2 (pK (k := 4 * q + 3) E3 W3 l3 2 rfl (by decide) (by omega) (by show X[i].d < 4; omega) fun U4 N4 E4 W4 l4 => ?_))))
    rw [i64w (by omega)]
    have := e25_5 hn hb hR hF hX q (i + 1) (by omega) E4 W4 l4
    simp only [List.flatMap_cons, sBits, List.append_assoc] at this ⊢
    exact this
theorem e25_4 (hn : h.n = X.length) (hR : Row M0 h.A (Sgs X)) (hF : FarW U0 jd M0 h.A) (hm : h.mayF X = true) (hless : h.less = false) (hb : h.n ≤ 8) (E : Ext (· = jd) U0 M0 U M) (W : Wt U M jd l) (hl : l.length + 40 * 50 ≤ 80000000000) :
    A25_4 (some ⟨2 * jd, 0, none⟩) (some ⟨2 * jh, 0, none⟩) 0 M (Wo U0 M0 jd (l ++ fBits h X)) := by
  unfold Hd.mayF at hm
  rw [hless] at hm
  simp only [Bool.false_eq_true, if_false, Bool.and_eq_true, decide_eq_true_eq] at hm
  obtain ⟨⟨ms, mc, m0, m1, m2, m3⟩, mX⟩ := hm
  refine w25_4 (cT (by decide) (ad rfl (ix (x := ⟨2 * jh, 18, none⟩) (by kernel_rfl) (on (int_of (i := 18) (E.at a nh.1 nh.2).1 rfl) (pK (k := 49) E W (by omega) 6 rfl (by decide) m0.1 (by show h.l0 < 64; omega) fun U1 N1 E1 W1 l1 => ?_)))))
  refine w25_4 (cT (by decide) (ad rfl (ix (x := ⟨2 * jh, 19, none⟩) (by kernel_rfl) (on (int_of (i := 19) (E1.at a nh.1 nh.2).1 rfl) (pK (k := 48) E1 W1 l1 6 rfl (by decide) m1.1 (by show h.l1 < 64; omega) fun U2 N2 E2 W2 l2 => ?_)))))
  refine w25_4 (cT (by decide) (ad rfl (ix (x := ⟨2 * jh, 20, none⟩) (by kernel_rfl) (on (int_of (i := 20) (E2.at a nh.1 nh.2).1 rfl) (pK (k := 47) E2 W2 l2 6 rfl (by decide) m2.1 (by show h.l2 < 64; omega) fun U3 N3 E3 W3 l3 => ?_)))))
  refine w25_4 (cT (by decide) (ad rfl (ix (x := ⟨2 * jh, 21, none⟩) (by kernel_rfl) (on (int_of (i := 21) (E3.at a nh.1 nh.2).1 rfl) (pK (k := 46) E3 W3 l3 6 rfl (by decide) m3.1 (by show h.l3 < 64; omega) fun U4 N4 E4 W4 l4 => ?_)))))
  refine w25_4 (cF (by decide) (ad rfl (on (int_of (E4.at a nh.1 nh.2).1 rfl) (pK (k := 45) E4 W4 l4 3 rfl (by decide) ms.1 (by show h.sp < 8; omega) fun U5 N5 E5 W5 l5 => ad rfl (on (bool_of (E5.at a nh.1 nh.2).1 rfl) (yK (k := 44) E5 W5 l5 fun U6 N6 E6 W6 l6 => ad rfl (on (bool_of (E6.at a nh.1 nh.2).1 rfl) (cn (fun hc => ?_) fun hc => ?_))))))))
  · rw [if_pos hc] at mc
    refine ad rfl (on (int_of (E6.at a nh.1 nh.2).1 rfl) ?_)
    rw [i64w (x := h.da - 3) (by omega)]
    refine pK (k := 43) E6 W6 l6 2 rfl (by decide) (by omega) (by show h.da - 3 < 4; omega) fun U7 N7 E7 W7 l7 => ad rfl (on (int_of (E7.at a nh.1 nh.2).1 rfl) (pK (k := 42) E7 W7 l7 2 rfl (by decide) mc.2.1.1 (by show h.cb < 4; omega) fun U8 N8 E8 W8 l8 => ?_))
    have := e25_5 a nh hn hb hR hF mX h.n 0 (by omega) E8 W8 (by omega)
    unfold fBits
    simp only [hc, if_true, List.drop_zero, List.append_assoc] at this ⊢
    exact this
  · have := e25_6 a nh E6 W6 (by omega)
    unfold fBits
    simp only [hc, Bool.false_eq_true, if_false, List.append_nil, List.append_assoc] at this ⊢
    exact this
theorem s25_2 {Q : Value → Mem → Prop} (E : Ext (· = jd) U0 M0 U M) (W : Wt U M jd l) (hl : l.length + 40 * (k + 2) ≤ 80000000000) {i v : Int} {o : Nat} (hi : i < 5) (hix : idxA (some ⟨2 * jh, 0 + 10, none⟩) 5 1 i = some ⟨2 * jh, o, none⟩) (ho : h.cs[o]? = some (.int .i64 v)) (hv : -31 ≤ v ∧ v ≤ 31)
    (K : ∀ U' N, Ext (· = jd) U0 M0 U' N → Wt U' N jd (l ++ dBits v) → (l ++ dBits v).length + 40 * k ≤ 80000000000 → A25_2 (some ⟨2 * jd, 0, none⟩) (some ⟨2 * jh, 0, none⟩) (IntKind.i64.wrap (i + 1)) N Q) :
    A25_2 (some ⟨2 * jd, 0, none⟩) (some ⟨2 * jh, 0, none⟩) i M Q := by
  refine w25_2 (cT (decide_eq_true hi) (ad rfl (ix hix (on (int_of (E.at a nh.1 nh.2).1 ho) (yK (k := k + 1) E W hl fun U1 N1 E1 W1 l1 => ad rfl (ix hix (on (int_of (E1.at a nh.1 nh.2).1 ho) (cn (fun h0 => ad rfl (ix hix (on (int_of (E1.at a nh.1 nh.2).1 ho) (zK (k := k) E1 W1 l1 hv fun U2 N2 E2 W2 l2 => w25_3 ?_)))) fun h0 => w25_3 ?_))))))))
  · have e1 : l ++ dBits v = l ++ [yes (v != 0)] ++ yes (decide (v < 0)) :: bitsN v.natAbs 5 := by unfold dBits; rw [h0]; simp
    exact K U2 N2 E2 (by rw [e1]; exact W2) (by rw [e1]; exact l2)
  · have e1 : l ++ dBits v = l ++ [yes (v != 0)] := by unfold dBits; rw [h0]; simp
    exact K U1 N1 E1 (by rw [e1]; exact W1) (by rw [e1]; omega)
theorem e25_2 (hn : h.n = X.length) (hR : Row M0 h.A (Sgs X)) (hF : FarW U0 jd M0 h.A) (hb : h.n ≤ 8) (hm : h.mayF X = true) (hco : logM h.co w = true) (hro : logM h.ro e = true) (md : (-31 ≤ h.d0 ∧ h.d0 ≤ 31) ∧ (-31 ≤ h.d1 ∧ h.d1 ≤ 31) ∧ (-31 ≤ h.d2 ∧ h.d2 ≤ 31) ∧ (-31 ≤ h.d3 ∧ h.d3 ≤ 31) ∧ (-31 ≤ h.d4 ∧ h.d4 ≤ 31))
    (E : Ext (· = jd) U0 M0 U M) (W : Wt U M jd l) (hl : l.length + 40 * 70 ≤ 80000000000) : A25_2 (some ⟨2 * jd, 0, none⟩) (some ⟨2 * jh, 0, none⟩) 0 M (Wo U0 M0 jd (l ++ tBits h X)) := by
  have c2 := of_decide_eq_true hco
  have r2 := of_decide_eq_true hro
  refine s25_2 a nh (k := 68) E W hl (by decide) (o := 10) (by kernel_rfl) rfl md.1 fun U1 N1 E1 W1 l1 => ?_
  refine s25_2 a nh (k := 66) E1 W1 l1 (by decide) (o := 11) (by kernel_rfl) rfl md.2.1 fun U2 N2 E2 W2 l2 => ?_
  refine s25_2 a nh (k := 64) E2 W2 l2 (by decide) (o := 12) (by kernel_rfl) rfl md.2.2.1 fun U3 N3 E3 W3 l3 => ?_
  refine s25_2 a nh (k := 62) E3 W3 l3 (by decide) (o := 13) (by kernel_rfl) rfl md.2.2.2.1 fun U4 N4 E4 W4 l4 => ?_
  refine s25_2 a nh (k := 60) E4 W4 l4 (by decide) (o := 14) (by kernel_rfl) rfl md.2.2.2.2 fun U5 N5 E5 W5 l5 => ?_
  refine w25_2 (cF (by decide) (ad rfl (on (int_of (E5.at a nh.1 nh.2).1 rfl) (pK (k := 59) E5 W5 l5 2 rfl (by decide) c2.1 (by show h.co < 4; omega) fun U6 N6 E6 W6 l6 => ad rfl (on (int_of (E6.at a nh.1 nh.2).1 rfl) (pK (k := 58) E6 W6 l6 2 rfl (by decide) r2.1 (by show h.ro < 4; omega) fun U7 N7 E7 W7 l7 => ad rfl (on (bool_of (E7.at a nh.1 nh.2).1 rfl) (yK (k := 57) E7 W7 l7 fun U8 N8 E8 W8 l8 => ad rfl (ldA (E8.at a nh.1 nh.2).1 rfl (Cn.mono c54 ?_)))))))))) 
  rintro _ N9 ⟨rfl, K9⟩
  have E9 : Ext (· = jd) U0 M0 U8 N9 := E8.trans (Ext.of K9 fun i _ h => h.elim)
  have W9 := W8.keep K9
  refine ty rfl (cn (fun hless => ⟨rfl, U8, E9, ?_⟩) fun hless => ?_)
  · unfold tBits
    simp only [hless, if_true, List.append_nil, List.append_assoc] at W9 ⊢
    exact W9
  · have := e25_4 a nh hn hR hF hm hless hb E9 W9 (by omega)
    unfold tBits
    simp only [hless, Bool.false_eq_true, if_false, List.append_assoc] at this ⊢
    exact this
end
set_option maxHeartbeats 1000000 in
theorem c25 (hW : Wt U M jd l) (hl : l.length ≤ 70000000000) (hn : h.n = X.length) (hb : h.n ≤ 1048576) (hR : Row M h.A (Sgs X)) (hF : FarW U jd M h.A) :
    Cn Try.prog 25 #[PtrB jd, .agg h.cs, .agg #[.int .i64 w, .int .i64 e]] M fun u N => u = .int .i64 (er (h.may X w e) : Nat) ∧ ∃ U', Ext (· = jd) U M U' N ∧ Wt U' N jd (l ++ wB h X w e) := by
  have ld := hW.lt
  have a := Mem.new_at M (.cells h.cs 41)
  have K1 : Keep M (M.new (.cells h.cs 41)) := .new _ _
  refine w25_0 ?_
  generalize M.new (.cells h.cs 41) = M1 at a K1 ⊢
  have s := Mem.new_at M1 (.cells #[.int .i64 w, .int .i64 e] 23)
  have K2 : Keep M1 (M1.new (.cells #[.int .i64 w, .int .i64 e] 23)) := .new _ _
  have a2 := at_keep a K2
  generalize M1.new (.cells #[.int .i64 w, .int .i64 e] 23) = M2 at s K2 a2 ⊢
  have KK := K1.trans K2
  refine ldA a2 rfl (on (int_of s rfl) (on (int_of s rfl) (Cn.mono (c27 (hW.keep KK).fs hn hb (hR.keep KK)) ?_)))
  rintro _ Nz ⟨rfl, K4⟩
  have K04 := KK.trans K4
  have W4 := hW.keep K04
  have E0 : Ext (· = jd) U M U Nz := Ext.of K04 fun i _ h => h.elim
  have a4 := at_keep a2 K4
  have nh : ¬ U M.nb.size ∧ M.nb.size ≠ jd := ⟨fun hu => by have := hW.ub _ hu; omega, by omega⟩
  refine ty rfl (cne (fun hm => ⟨rfl, U, E0, ?_⟩) fun hm => ?_)
  · have : wB h X w e = [] := by
      unfold wB
      cases hmm : h.may X w e
      · rfl
      · rw [hmm] at hm; exact absurd rfl hm
    rw [this, List.append_nil]; exact W4
  have hm : h.may X w e = true := by
    cases hmm : h.may X w e
    · rw [hmm] at hm; cases hm
    · rfl
  have mS : mayS w e = true := by unfold Hd.may at hm; simp only [Bool.and_eq_true] at hm; exact hm.1.1.1
  have h8 : h.n ≤ 8 := by rw [hn]; exact may_len hm
  have er0 : (er (h.may X w e) : Nat) = 0 := by rw [hm]; rfl
  have hw : wB h X w e = hBits h X := by unfold wB; rw [hm]; rfl
  rw [er0, hw]
  have hR4 := hR.keep K04
  have hF4 := hF.keep K04
  have back : ∀ {u : Value} {N : Mem}, Wo U Nz jd (l ++ hBits h X) u N → u = .int .i64 ((0 : Nat) : Int) ∧ ∃ U', Ext (· = jd) U M U' N ∧ Wt U' N jd (l ++ hBits h X) := fun ⟨hu, U', E, W⟩ => ⟨hu, U', E0.trans E, W⟩
  generalize hjh : M.nb.size = jh at a4 nh
  refine on (bool_of a4 rfl) (yK (k := 90) .refl W4 (by omega) fun U1 N1 E1 W1 l1 => on (bool_of (E1.at a4 nh.1 nh.2).1 rfl) (cn (fun hx => ?_) fun hx => ?_))
  · unfold Hd.may at hm
    simp only [hx, if_true, Bool.and_eq_true, decide_eq_true_eq] at hm
    have sl := hm.1.1.2.1
    refine on (int_of (E1.at a4 nh.1 nh.2).1 rfl) (pK (k := 89) E1 W1 l1 3 rfl (by decide) sl.1 (by show h.sl < 8; omega) fun U2 N2 E2 W2 l2 => back ⟨rfl, U2, E2, ?_⟩)
    unfold hBits
    simp only [hx, if_true, List.append_assoc] at W2 ⊢
    exact W2
  · obtain ⟨⟨sl, rf, pr, ba⟩, mk, mr, md, mco, mro, mf⟩ := (may_iff hx mS).1 hm
    refine on (bool_of (E1.at a4 nh.1 nh.2).1 rfl) (yK (k := 89) E1 W1 l1 fun U2 N2 E2 W2 l2 => on (bool_of (E2.at a4 nh.1 nh.2).1 rfl) (yK (k := 88) E2 W2 l2 fun U3 N3 E3 W3 l3 => on (int_of (E3.at a4 nh.1 nh.2).1 rfl) (pK (k := 87) E3 W3 l3 8 rfl (by decide) rf.1 (by show h.rf < 256; omega) fun U4 N4 E4 W4 l4 => on (bool_of (E4.at a4 nh.1 nh.2).1 rfl) ?_)))
    have rest : ∀ {U5 : Nat → Prop} {N5 : Mem} {l5 : List Nat}, Ext (· = jd) U Nz U5 N5 → Wt U5 N5 jd l5 → l5.length + 40 * 75 ≤ 80000000000 → l5 ++ bI h.ba 8 ++ tBits h X = l ++ hBits h X →
        Cn Try.prog 51 #[PtrB jd, .int .i64 h.ba, .int .i64 8] N5 fun _ N => A25_2 (some ⟨2 * jd, 0, none⟩) (some ⟨2 * jh, 0, none⟩) 0 N fun u N => u = .int .i64 ((0 : Nat) : Int) ∧ ∃ U', Ext (· = jd) U M U' N ∧ Wt U' N jd (l ++ hBits h X) := by
      intro U5 N5 l5 E5 W5 q5 hl5
      refine pK (k := 74) E5 W5 q5 8 rfl (by decide) ba.1 (by show h.ba < 256; omega) fun U6 N6 E6 W6 l6 => ?_
      have := e25_2 a4 nh hn hR4 hF4 h8 mf mco mro md E6 W6 (by omega)
      rw [hl5] at this
      exact LvP.mono this fun u N g => back g
    refine cnn (fun hk => ?_) fun hk => ?_
    · refine w25_1 (cT (by decide) (ad rfl (ix (x := ⟨2 * jh, 5, none⟩) (by kernel_rfl) (on (int_of (i := 5) (E4.at a4 nh.1 nh.2).1 rfl) (pK (k := 86) E4 W4 l4 3 rfl (by decide) mr.1.1 (by show h.r0 < 8; omega) fun Ua Na Ea Wa la => ?_)))))
      refine w25_1 (cT (by decide) (ad rfl (ix (x := ⟨2 * jh, 6, none⟩) (by kernel_rfl) (on (int_of (i := 6) (Ea.at a4 nh.1 nh.2).1 rfl) (pK (k := 85) Ea Wa la 3 rfl (by decide) mr.2.1.1 (by show h.r1 < 8; omega) fun Ub Nb Eb Wb lb => ?_)))))
      refine w25_1 (cT (by decide) (ad rfl (ix (x := ⟨2 * jh, 7, none⟩) (by kernel_rfl) (on (int_of (i := 7) (Eb.at a4 nh.1 nh.2).1 rfl) (pK (k := 84) Eb Wb lb 3 rfl (by decide) mr.2.2.1 (by show h.r2 < 8; omega) fun Uc Nc Ec Wc lc => ?_)))))
      refine w25_1 (cF (by decide) (ad rfl (on (int_of (Ec.at a4 nh.1 nh.2).1 rfl) (yK (k := 83) Ec Wc lc fun Ud Nd Ed Wd ld => ad rfl (on (int_of (Ed.at a4 nh.1 nh.2).1 rfl) (cd (fun hp => ad rfl (on (int_of (Ed.at a4 nh.1 nh.2).1 rfl) (pK (k := 82) Ed Wd ld 3 rfl (by decide) hp (by show h.pr < 8; omega) fun Ue Ne Ee We le => ad rfl (on (int_of (Ee.at a4 nh.1 nh.2).1 rfl) (rest Ee We (by omega) ?_))))) fun hp => ad rfl (on (int_of (Ed.at a4 nh.1 nh.2).1 rfl) (rest Ed Wd (by omega) ?_))))))))
      · unfold hBits rBits; simp [hx, hk, hp, List.append_assoc]
      · unfold hBits rBits; simp [hx, hk, hp, List.append_assoc]
    · refine on (int_of (E4.at a4 nh.1 nh.2).1 rfl) (rest E4 W4 (by omega) ?_)
      unfold hBits rBits; simp [hx, hk, List.append_assoc]
end
end Go.Zt
