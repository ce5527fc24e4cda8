/- Layer 20: the program's coding of a header. -/
import Derived.Test.YtgepgbblmodagaaZlW
set_option linter.unusedSimpArgs false
set_option linter.unusedVariables false
set_option maxRecDepth 100000
namespace Go.Zt
open Go Go.Sim Go.Proofs Go.RowKit
theorem Ext.step {P P' U U1 U2 : Nat → Prop} {M N1 N1' N2 : Mem} (h : Ext P U M U1 N1) (K : Keep N1 N1') (k : Ext P' U1 N1' U2 N2) (hP : ∀ i, P' i → P i ∨ M.nb.size ≤ i) : Ext P U M U2 N2 := by
  have z1 := h.chg.size
  have z2 := K.size
  refine ⟨fun i hi => (k.sub i hi).elim (h.sub i) fun q => .inr (by omega), ⟨(k.chg.base.trans K.base).trans h.chg.base, (k.chg.floor.trans K.floor).trans h.chg.floor, by have := k.chg.size; omega, fun j hj hs => ?_⟩⟩
  refine ((k.chg.same j (by omega) fun hh => ?_).trans (K.same j (by omega) fun x => x)).trans (h.chg.same j hj hs)
  rcases hh with hh | hh
  · rcases h.sub j hh with q | q
    · exact hs (.inl q)
    · omega
  · rcases hP j hh with q | q
    · exact hs (.inr q)
    · omega
theorem LvP.mono {P : Program} [Orc P] {fn : Func} {L : Tm} {stk : List It} {M : Mem} {Q Q' : Value → Mem → Prop} (h : LvP P fn L stk M Q) (hQ : ∀ v M, Q v M → Q' v M) : LvP P fn L stk M Q' := fun T hs hL => by
  have g := h T hs hL
  unfold RunI at g ⊢
  split at g <;> exact Reach.mono g hQ
def Dv.isW : Dv → Bool
  | .w _ => true
  | .r _ _ => false
theorem numD_isW (d : Dv) (e : Nat) (v n f : Int) : (numD d e v n f).1.isW = d.isW := by
  unfold numD; split
  · rfl
  · cases d <;> rfl
theorem flagD_isW (d : Dv) (e : Nat) (v : Bool) : (flagD d e v).1.isW = d.isW := numD_isW ..
theorem deltaD_isW (d : Dv) (e : Nat) (v : Int) : (deltaD d e v).1.isW = d.isW := by
  rw [← flagD_isW d e (v != 0)]
  unfold deltaD; split
  · rfl
  · cases (flagD d e (v != 0)).1 <;> rfl
theorem logD_isW (d : Dv) (e : Nat) (v s : Int) : (logD d e v s).1.isW = d.isW := by
  rw [← numD_isW d e v 2 0]
  unfold logD; split <;> rfl
theorem isW_r {d : Dv} (h : d.isW = false) : ∃ b p, d = .r b p := by
  cases d with
  | w l => cases h
  | r b p => exact ⟨b, p, rfl⟩
def TailT (w e : Int) (c0 : Cd) (X0 : List Sg) (c : Cd) (X : List Sg) : Prop :=
  ∃ c1, c1 = dF' c0 c0.2.2.d0 (fun x => { c0.2.2 with d0 := x }) ∧ ∃ c2, c2 = dF' c1 c1.2.2.d1 (fun x => { c1.2.2 with d1 := x }) ∧ ∃ c3, c3 = dF' c2 c2.2.2.d2 (fun x => { c2.2.2 with d2 := x }) ∧
  ∃ c4, c4 = dF' c3 c3.2.2.d3 (fun x => { c3.2.2 with d3 := x }) ∧ ∃ c5, c5 = dF' c4 c4.2.2.d4 (fun x => { c4.2.2 with d4 := x }) ∧
  ∃ c6, c6 = gF c5 c5.2.2.co (fun x => { c5.2.2 with co := x }) w ∧ ∃ c7, c7 = gF c6 c6.2.2.ro (fun x => { c6.2.2 with ro := x }) e ∧ ∃ c8, c8 = fF c7 c7.2.2.na (fun x => { c7.2.2 with na := x }) ∧
  if c8.2.2.less = true then c = c8 ∧ X = X0 else FiltT c8 X0 c X
def RefT (c0 c : Cd) : Prop :=
  ∃ c1 t, (if c0.2.2.ke = true then c1 = c0 ∧ t = false else
    ∃ c2, c2 = nF c0 c0.2.2.r0 (fun x => { c0.2.2 with r0 := x }) 3 0 ∧ ∃ c3, c3 = nF c2 c2.2.2.r1 (fun x => { c2.2.2 with r1 := x }) 3 0 ∧ ∃ c4, c4 = nF c3 c3.2.2.r2 (fun x => { c3.2.2 with r2 := x }) 3 0 ∧
    c1 = ((flagD c4.1 c4.2.1 (decide (c0.2.2.pr ≥ 0))).1, (flagD c4.1 c4.2.1 (decide (c0.2.2.pr ≥ 0))).2.1, c4.2.2) ∧ t = (flagD c4.1 c4.2.1 (decide (c0.2.2.pr ≥ 0))).2.2) ∧
  if t = true then c = nF c1 c1.2.2.pr (fun x => { c1.2.2 with pr := x }) 3 0 else c = (c1.1, c1.2.1, { c1.2.2 with pr := -1 })
def HeadT (w e : Int) (c0 : Cd) (X0 : List Sg) (c : Cd) (X : List Sg) : Prop :=
  ∃ c1, c1 = fF c0 c0.2.2.ex (fun x => { c0.2.2 with ex := x }) ∧
  if c1.2.2.ex = true then c = nF c1 c1.2.2.sl (fun x => { c1.2.2 with sl := x }) 3 0 ∧ X = X0 else
  ∃ c2, c2 = fF c1 c1.2.2.sh (fun x => { c1.2.2 with sh := x }) ∧ ∃ c3, c3 = fF c2 c2.2.2.ke (fun x => { c2.2.2 with ke := x }) ∧ ∃ c4, c4 = nF c3 c3.2.2.rf (fun x => { c3.2.2 with rf := x }) 8 0 ∧
  ∃ c5, RefT c4 c5 ∧ ∃ c6, c6 = nF c5 c5.2.2.ba (fun x => { c5.2.2 with ba := x }) 8 0 ∧ TailT w e c6 X0 c X
section
variable {U : Nat → Prop} {M N : Mem} {jc jd jh k i : Nat} {c : Cd} {X : List Sg}
theorem Hm.keep (H : Hm U M jc jd jh c k) (K : Keep M N) : Hm U N jc jd jh c k := ⟨H.st.keep K, at_keep H.hd K, H.nu, H.n1, H.n2, by rw [K.floor]; exact H.fl⟩
theorem Hm.mono {k' : Nat} (H : Hm U M jc jd jh c k) (h : k' ≤ k) : Hm U M jc jd jh c k' := ⟨H.st.mono h, H.hd, H.nu, H.n1, H.n2, H.fl⟩
theorem Hm.put (H : Hm U M jc jd jh c k) {o : Nat} {v : Value} (ho : o < 30) (h1 : oneCell v = true) {h' : Hd} (hs : h'.cs = c.2.2.cs.setIfInBounds o v) :
    ∃ N, M.put (2 * jh) o v = some N ∧ Ext (Pj jc jd jh) U M U N ∧ Hm U N jc jd jh (c.1, c.2.1, h') k := by
  obtain ⟨N, p, C, s, a⟩ := put1 o v H.hd H.fl ho h1
  refine ⟨N, p, Ext.of C fun i _ hi => .inr (.inr (.inr hi)), H.st.chg C fun i _ hu hh => ?_, by rw [a, hs], H.nu, H.n1, H.n2, by rw [C.floor]; exact H.fl⟩
  subst hh
  rcases hu with hu | hu | hu
  · exact H.nu hu
  · exact H.n1 hu
  · exact H.n2 hu
def Out (U : Nat → Prop) (M : Mem) (jc jd jh k : Nat) (A0 : Option Addr) (T : Cd → List Sg → Prop) : Value → Mem → Prop := fun u N =>
  u = .tuple #[] ∧ ∃ U' c' X', T c' X' ∧ Ext (Pj jc jd jh) U M U' N ∧ Hm U' N jc jd jh c' k ∧ Xm U' N jc jd jh c' X' ∧ ∀ a, c'.2.2.A = some a → A0 = some a ∨ M.nb.size ≤ a.block / 2
set_option maxHeartbeats 1000000 in
theorem e50_1 {U0 : Nat → Prop} {M0 : Mem} {w e : Int} {A0 : Option Addr} (hw : 16 ≤ w ∧ w ≤ 256) (he : 16 ≤ e ∧ e ≤ 256) (E : Ext (Pj jc jd jh) U0 M0 U M) (H : Hm U M jc jd jh c (k + 70)) (hX : Xm U M jc jd jh c X) (hb : X.length ≤ 8)
    (hr : ∀ b p, c.1 = .r b p → X = []) (s : M0.nb[i]? = some (.cells #[.int .i64 w, .int .i64 e] 23)) (ns : ¬ U0 i ∧ ¬ Pj jc jd jh i) (hA : c.2.2.A = A0) :
    A50_1 (some ⟨2 * jc, 0, none⟩) (some ⟨2 * jh, 0, none⟩) (some ⟨2 * i, 0, none⟩) 0 M (Out U0 M0 jc jd jh k A0 (TailT w e c X)) := by
  refine w50_1 (cT (by decide) (ad rfl (ix (x := ⟨2 * jh, 10, none⟩) (by kernel_rfl) (dK (k := k + 68) .refl H rfl (fun x => { c.2.2 with d0 := x }) (fun _ => rfl) fun U1 N1 c1 h1 E1 H1 => ?_))))
  refine w50_1 (cT (by decide) (ad rfl (ix (x := ⟨2 * jh, 11, none⟩) (by kernel_rfl) (dK (k := k + 66) E1 H1 rfl (fun x => { c1.2.2 with d1 := x }) (fun _ => rfl) fun U2 N2 c2 h2 E2 H2 => ?_))))
  refine w50_1 (cT (by decide) (ad rfl (ix (x := ⟨2 * jh, 12, none⟩) (by kernel_rfl) (dK (k := k + 64) E2 H2 rfl (fun x => { c2.2.2 with d2 := x }) (fun _ => rfl) fun U3 N3 c3 h3 E3 H3 => ?_))))
  refine w50_1 (cT (by decide) (ad rfl (ix (x := ⟨2 * jh, 13, none⟩) (by kernel_rfl) (dK (k := k + 62) E3 H3 rfl (fun x => { c3.2.2 with d3 := x }) (fun _ => rfl) fun U4 N4 c4 h4 E4 H4 => ?_))))
  refine w50_1 (cT (by decide) (ad rfl (ix (x := ⟨2 * jh, 14, none⟩) (by kernel_rfl) (dK (k := k + 60) E4 H4 rfl (fun x => { c4.2.2 with d4 := x }) (fun _ => rfl) fun U5 N5 c5 h5 E5 H5 => ?_))))
  have s5 := (E.trans E5).at s ns.1 ns.2
  refine w50_1 (cF (by decide) (ad rfl (ad rfl (on (int_of s5.1 rfl) (gK (k := k + 59) E5 H5 hw rfl (fun x => { c5.2.2 with co := x }) (fun _ => rfl) fun U6 N6 c6 h6 E6 H6 => ?_)))))
  have s6 := (E.trans E6).at s ns.1 ns.2
  refine ad rfl (ad rfl (on (int_of s6.1 rfl) (gK (k := k + 58) E6 H6 he rfl (fun x => { c6.2.2 with ro := x }) (fun _ => rfl) fun U7 N7 c7 h7 E7 H7 => ad rfl (fK (k := k + 57) E7 H7 rfl (fun x => { c7.2.2 with na := x }) (fun _ => rfl) fun U8 N8 c8 h8 E8 H8 => ad rfl (ldA H8.hd rfl (Cn.mono c77 ?_))))))
  rintro _ N9 ⟨rfl, K9⟩
  have q1 : c1.2.2.n = c.2.2.n ∧ c1.2.2.A = c.2.2.A := by rw [h1]; exact ⟨rfl, rfl⟩
  have q2 : c2.2.2.n = c1.2.2.n ∧ c2.2.2.A = c1.2.2.A := by rw [h2]; exact ⟨rfl, rfl⟩
  have q3 : c3.2.2.n = c2.2.2.n ∧ c3.2.2.A = c2.2.2.A := by rw [h3]; exact ⟨rfl, rfl⟩
  have q4 : c4.2.2.n = c3.2.2.n ∧ c4.2.2.A = c3.2.2.A := by rw [h4]; exact ⟨rfl, rfl⟩
  have q5 : c5.2.2.n = c4.2.2.n ∧ c5.2.2.A = c4.2.2.A := by rw [h5]; exact ⟨rfl, rfl⟩
  have q6 : c6.2.2.n = c5.2.2.n ∧ c6.2.2.A = c5.2.2.A := by rw [h6]; exact ⟨rfl, rfl⟩
  have q7 : c7.2.2.n = c6.2.2.n ∧ c7.2.2.A = c6.2.2.A := by rw [h7]; exact ⟨rfl, rfl⟩
  have q8 : c8.2.2.n = c7.2.2.n ∧ c8.2.2.A = c7.2.2.A := by rw [h8]; exact ⟨rfl, rfl⟩
  have n8 : c8.2.2.n = c.2.2.n := by rw [q8.1, q7.1, q6.1, q5.1, q4.1, q3.1, q2.1, q1.1]
  have A8 : c8.2.2.A = c.2.2.A := by rw [q8.2, q7.2, q6.2, q5.2, q4.2, q3.2, q2.2, q1.2]
  clear q1 q2 q3 q4 q5 q6 q7 q8
  have E9 : Ext (Pj jc jd jh) U M U8 N9 := E8.trans (Ext.of K9 fun i _ h => h.elim)
  have X9 := hX.ext (c' := c8) E9 n8 A8
  have H9 := H8.keep K9
  have EE := E.trans E9
  refine ty rfl (cnn (fun hl => ?_) fun hl => ⟨rfl, U8, c8, X, ⟨c1, h1, c2, h2, c3, h3, c4, h4, c5, h5, c6, h6, c7, h7, c8, h8, ?_⟩, EE, H9.mono (by omega), X9, fun a ha => .inl (by rw [← hA, ← A8]; exact ha)⟩)
  · refine Cn.mono (c78 (k := k) (H9.mono (by omega)) X9 hb ?_) ?_
    · intro b p hc
      have w8 : c8.1.isW = c7.1.isW := by rw [h8]; exact flagD_isW ..
      have w7 : c7.1.isW = c6.1.isW := by rw [h7]; exact logD_isW ..
      have w6 : c6.1.isW = c5.1.isW := by rw [h6]; exact logD_isW ..
      have w5 : c5.1.isW = c4.1.isW := by rw [h5]; exact deltaD_isW ..
      have w4 : c4.1.isW = c3.1.isW := by rw [h4]; exact deltaD_isW ..
      have w3 : c3.1.isW = c2.1.isW := by rw [h3]; exact deltaD_isW ..
      have w2 : c2.1.isW = c1.1.isW := by rw [h2]; exact deltaD_isW ..
      have w1 : c1.1.isW = c.1.isW := by rw [h1]; exact deltaD_isW ..
      rw [w7, w6, w5, w4, w3, w2, w1, hc] at w8
      obtain ⟨b0, p0, hl0⟩ := isW_r w8.symm
      exact hr _ _ hl0
    · rintro _ N ⟨_, U', c', X', hT, E', H', hX', hN⟩
      refine ⟨rfl, U', c', X', ⟨c1, h1, c2, h2, c3, h3, c4, h4, c5, h5, c6, h6, c7, h7, c8, h8, ?_⟩, EE.trans E', H', hX', fun a ha => ?_⟩
      · rw [if_neg (by rw [hl]; decide)]; exact hT
      · refine (hN a ha).imp (fun q => by rw [← hA, ← A8]; exact q) fun q => ?_
        have := EE.chg.size; omega
  · rw [if_pos hl]; exact ⟨rfl, rfl⟩
theorem RefT.keepA {c c' : Cd} (h : RefT c c') : c'.2.2.n = c.2.2.n ∧ c'.2.2.A = c.2.2.A ∧ c'.1.isW = c.1.isW := by
  obtain ⟨c1, t, h1, h2⟩ := h
  have g1 : c1.2.2.n = c.2.2.n ∧ c1.2.2.A = c.2.2.A ∧ c1.1.isW = c.1.isW := by
    split at h1
    · rw [h1.1]; exact ⟨rfl, rfl, rfl⟩
    · obtain ⟨c2, k2, c3, k3, c4, k4, k5, _⟩ := h1
      have q2 : c2.2.2.n = c.2.2.n ∧ c2.2.2.A = c.2.2.A ∧ c2.1.isW = c.1.isW := by rw [k2]; exact ⟨rfl, rfl, numD_isW ..⟩
      have q3 : c3.2.2.n = c2.2.2.n ∧ c3.2.2.A = c2.2.2.A ∧ c3.1.isW = c2.1.isW := by rw [k3]; exact ⟨rfl, rfl, numD_isW ..⟩
      have q4 : c4.2.2.n = c3.2.2.n ∧ c4.2.2.A = c3.2.2.A ∧ c4.1.isW = c3.1.isW := by rw [k4]; exact ⟨rfl, rfl, numD_isW ..⟩
      have q5 : c1.2.2.n = c4.2.2.n ∧ c1.2.2.A = c4.2.2.A ∧ c1.1.isW = c4.1.isW := by rw [k5]; exact ⟨rfl, rfl, flagD_isW ..⟩
      exact ⟨by rw [q5.1, q4.1, q3.1, q2.1], by rw [q5.2.1, q4.2.1, q3.2.1, q2.2.1], by rw [q5.2.2, q4.2.2, q3.2.2, q2.2.2]⟩
  have g2 : c'.2.2.n = c1.2.2.n ∧ c'.2.2.A = c1.2.2.A ∧ c'.1.isW = c1.1.isW := by
    split at h2
    · rw [h2]; exact ⟨rfl, rfl, numD_isW ..⟩
    · rw [h2]; exact ⟨rfl, rfl, rfl⟩
  exact ⟨by rw [g2.1, g1.1], by rw [g2.2.1, g1.2.1], by rw [g2.2.2, g1.2.2]⟩
set_option maxHeartbeats 1000000 in
theorem c50 {w e : Int} (hw : 16 ≤ w ∧ w ≤ 256) (he : 16 ≤ e ∧ e ≤ 256) (H : Hm U M jc jd jh c (k + 90)) (hX : Xm U M jc jd jh c X) (hb : X.length ≤ 8) (hr : ∀ b p, c.1 = .r b p → X = []) :
    Cn Try.prog 50 #[PtrB jc, PtrB jh, .agg #[.int .i64 w, .int .i64 e]] M (Out U M jc jd jh k c.2.2.A (HeadT w e c X)) := by
  have ljd := H.st.dev.lt
  have ljc := lt_of_at H.st.cod
  have ljh := lt_of_at H.hd
  have s := Mem.new_at M (.cells #[.int .i64 w, .int .i64 e] 23)
  have KM : Keep M (M.new (.cells #[.int .i64 w, .int .i64 e] 23)) := .new _ _
  refine w50_0 (ad rfl ?_)
  generalize M.new (.cells #[.int .i64 w, .int .i64 e] 23) = M1 at s KM ⊢
  have ns : ¬ U M.nb.size ∧ ¬ Pj jc jd jh M.nb.size := ⟨fun hu => by have := H.st.ub _ hu; omega, fun hh => by omega⟩
  have back : ∀ {T : Cd → List Sg → Prop} {u : Value} {N : Mem}, Out U M1 jc jd jh k c.2.2.A T u N → Out U M jc jd jh k c.2.2.A T u N := by
    rintro T u N ⟨hu, U', c', X', hT, E, H, hX, hA⟩
    exact ⟨hu, U', c', X', hT, (Ext.of KM fun i _ h => h.elim).trans E, H, hX, fun a ha => (hA a ha).imp id fun q => Nat.le_trans KM.size q⟩
  have H0 := H.keep KM
  have X0 : Xm U M1 jc jd jh c X := hX.ext (Ext.of KM fun i _ h => h.elim) rfl rfl
  refine fK (k := k + 89) .refl H0 (o := 0) rfl (fun x => { c.2.2 with ex := x }) (fun _ => rfl) fun U1 N1 c1 h1 E1 H1 => ad rfl (on (bool_of H1.hd rfl) ?_)
  have q1 : c1.2.2.n = c.2.2.n ∧ c1.2.2.A = c.2.2.A ∧ c1.1.isW = c.1.isW := by rw [h1]; exact ⟨rfl, rfl, flagD_isW ..⟩
  refine cn (fun hx => ad rfl (nK (k := k + 88) E1 H1 rfl (by decide) (by decide) (fun x => { c1.2.2 with sl := x }) (fun _ => rfl) fun U2 N2 c2 h2 E2 H2 => back ⟨rfl, U2, c2, X, ⟨c1, h1, ?_⟩, E2, H2.mono (by omega), ?_, ?_⟩)) fun hx => ?_
  · rw [if_pos hx]; exact ⟨h2, rfl⟩
  · have q2 : c2.2.2.n = c1.2.2.n ∧ c2.2.2.A = c1.2.2.A := by rw [h2]; exact ⟨rfl, rfl⟩
    exact X0.ext E2 (by rw [q2.1, q1.1]) (by rw [q2.2, q1.2.1])
  · have q2 : c2.2.2.A = c1.2.2.A := by rw [h2]; rfl
    intro a ha; exact .inl (by rw [← q1.2.1, ← q2]; exact ha)
  refine ad rfl (fK (k := k + 88) E1 H1 rfl (fun x => { c1.2.2 with sh := x }) (fun _ => rfl) fun U2 N2 c2 h2 E2 H2 => ad rfl (fK (k := k + 87) E2 H2 rfl (fun x => { c2.2.2 with ke := x }) (fun _ => rfl) fun U3 N3 c3 h3 E3 H3 => ad rfl (nK (k := k + 86) E3 H3 rfl (by decide) (by decide) (fun x => { c3.2.2 with rf := x }) (fun _ => rfl) fun U4 N4 c4 h4 E4 H4 => ad rfl (on (int_of H4.hd rfl) ?_))))
  have q2 : c2.2.2.n = c1.2.2.n ∧ c2.2.2.A = c1.2.2.A ∧ c2.1.isW = c1.1.isW := by rw [h2]; exact ⟨rfl, rfl, flagD_isW ..⟩
  have q3 : c3.2.2.n = c2.2.2.n ∧ c3.2.2.A = c2.2.2.A ∧ c3.1.isW = c2.1.isW := by rw [h3]; exact ⟨rfl, rfl, flagD_isW ..⟩
  have q4 : c4.2.2.n = c3.2.2.n ∧ c4.2.2.A = c3.2.2.A ∧ c4.1.isW = c3.1.isW := by rw [h4]; exact ⟨rfl, rfl, numD_isW ..⟩
  have Q4 : c4.2.2.n = c.2.2.n ∧ c4.2.2.A = c.2.2.A ∧ c4.1.isW = c.1.isW := ⟨by rw [q4.1, q3.1, q2.1, q1.1], by rw [q4.2.1, q3.2.1, q2.2.1, q1.2.1], by rw [q4.2.2, q3.2.2, q2.2.2, q1.2.2]⟩
  clear q1 q2 q3 q4
  have rest : ∀ {U5 : Nat → Prop} {N5 : Mem} {c5 : Cd}, RefT c4 c5 → Ext (Pj jc jd jh) U M1 U5 N5 → Hm U5 N5 jc jd jh c5 (k + 71) →
      Cn Try.prog 74 #[PtrB jc, .pointer (some ⟨2 * jh, 0 + 9, none⟩), .int .i64 8, .int .i64 0] N5 fun _ N => A50_1 (some ⟨2 * jc, 0, none⟩) (some ⟨2 * jh, 0, none⟩) (some ⟨2 * M.nb.size, 0, none⟩) 0 N (Out U M jc jd jh k c.2.2.A (HeadT w e c X)) := by
    intro U5 N5 c5 hT E5 H5
    refine nK (k := k + 70) E5 H5 rfl (by decide) (by decide) (fun x => { c5.2.2 with ba := x }) (fun _ => rfl) fun U6 N6 c6 h6 E6 H6 => ?_
    have r5 := hT.keepA
    have q6 : c6.2.2.n = c5.2.2.n ∧ c6.2.2.A = c5.2.2.A ∧ c6.1.isW = c5.1.isW := by rw [h6]; exact ⟨rfl, rfl, numD_isW ..⟩
    have Q6 : c6.2.2.n = c.2.2.n ∧ c6.2.2.A = c.2.2.A ∧ c6.1.isW = c.1.isW := ⟨by rw [q6.1, r5.1, Q4.1], by rw [q6.2.1, r5.2.1, Q4.2.1], by rw [q6.2.2, r5.2.2, Q4.2.2]⟩
    have g := e50_1 (k := k) (c := c6) (X := X) hw he E6 H6 (X0.ext E6 Q6.1 Q6.2.1) hb (fun b p hc => by
      have h6w := Q6.2.2
      rw [hc] at h6w
      obtain ⟨b0, p0, hl0⟩ := isW_r h6w.symm
      exact hr _ _ hl0) s ns Q6.2.1
    exact LvP.mono g fun u N ⟨hu, U', c', X', hT', EE, HH, XX, AA⟩ => back ⟨hu, U', c', X', ⟨c1, h1, by rw [if_neg (by rw [hx]; decide)]; exact ⟨c2, h2, c3, h3, c4, h4, c5, hT, c6, h6, hT'⟩⟩, EE, HH, XX, AA⟩
  have l4 := H4.st.fs
  have q4d := H4.st.dev.lt
  have q4c := lt_of_at H4.st.cod
  have q4h := lt_of_at H4.hd
  have z4 := E4.chg.size
  have qb := Mem.new_at N4 (.cells #[.bool false] 4)
  have Kb : Keep N4 (N4.new (.cells #[.bool false] 4)) := .new _ _
  generalize N4.new (.cells #[.bool false] 4) = Nb at qb Kb ⊢
  obtain ⟨M15, p15, C15, s15, u15⟩ := put1 0 (.bool (decide (c4.2.2.pr ≥ 0))) qb (by rw [Kb.floor]; exact l4) (by decide) rfl
  have K15 : Keep N4 M15 := Keep.step Kb C15 fun i hi => by omega
  have H15 := H4.keep K15
  have nU : ¬ U4 N4.nb.size := fun hu => by have := H4.st.ub _ hu; omega
  refine pt p15 (ad rfl (on (bool_of H15.hd rfl) (cn (fun hk => ?_) fun hk => ?_)))
  · obtain ⟨M18, p18, C18, s18, u18⟩ := put1 0 (.bool false) u15 (by rw [K15.floor]; exact l4) (by simp) rfl
    have K18 : Keep N4 M18 := Keep.step K15 C18 fun i hi => by omega
    have H18 := H4.keep K18
    obtain ⟨M25, p25, E25, H25⟩ := H18.put (o := 8) (v := .int .i64 (-1)) (h' := { c4.2.2 with pr := -1 }) (by decide) rfl rfl
    refine pt p18 (on (bool_of u18 rfl) (cF rfl (ad rfl (pt p25 (ad rfl (rest ⟨c4, false, ?_, ?_⟩ (E4.step K18 E25 fun i hi => .inl hi) (H25.mono (by omega))))))))
    · rw [if_pos hk]; exact ⟨rfl, rfl⟩
    · rw [if_neg (by decide)]
  · refine w50_2 (cT (by decide) (ad rfl (ix (x := ⟨2 * jh, 5, none⟩) (by kernel_rfl) (nK (k := k + 85) .refl H15 rfl (by decide) (by decide) (fun x => { c4.2.2 with r0 := x }) (fun _ => rfl) fun Ua Na ca ha Ea Ha => ?_))))
    refine w50_2 (cT (by decide) (ad rfl (ix (x := ⟨2 * jh, 6, none⟩) (by kernel_rfl) (nK (k := k + 84) Ea Ha rfl (by decide) (by decide) (fun x => { ca.2.2 with r1 := x }) (fun _ => rfl) fun Uc Nc cc hc Ec Hc => ?_))))
    refine w50_2 (cT (by decide) (ad rfl (ix (x := ⟨2 * jh, 7, none⟩) (by kernel_rfl) (nK (k := k + 83) Ec Hc rfl (by decide) (by decide) (fun x => { cc.2.2 with r2 := x }) (fun _ => rfl) fun Ud Nd cd hd Ed Hd' => ?_))))
    have uD := Ed.at u15 nU fun hh => by omega
    refine w50_2 (cF (by decide) (Cn.mono (c73 (k := k + 82) Hd'.st uD.1 (by rw [Ed.chg.floor, K15.floor]; exact l4) (by omega) (by omega) uD.2 (b := decide (c4.2.2.pr ≥ 0)) rfl) ?_))
    rintro _ Ne ⟨_, Ue, Ee, Se, ue, nue⟩
    have he' := Ee.at Hd'.hd Hd'.nu fun hh => by have := Hd'.n1; have := Hd'.n2; omega
    have He : Hm Ue Ne jc jd jh ((flagD cd.1 cd.2.1 (decide (c4.2.2.pr ≥ 0))).1, (flagD cd.1 cd.2.1 (decide (c4.2.2.pr ≥ 0))).2.1, cd.2.2) (k + 82) := ⟨Se, he'.1, he'.2, Hd'.n1, Hd'.n2, by rw [Ee.chg.floor]; exact Hd'.fl⟩
    have EE : Ext (Pj jc jd jh) U M1 Ue Ne := (E4.step K15 Ed fun i hi => .inl hi).step (.refl _) Ee fun i hi => by
      rcases hi with hi | hi | hi
      · exact .inl (.inl hi)
      · exact .inl (.inr (.inl hi))
      · exact .inr (by omega)
    refine ad rfl (on (bool_of ue rfl) (cn (fun ht => ad rfl (nK (k := k + 81) EE He rfl (by decide) (by decide) (fun x => { cd.2.2 with pr := x }) (fun _ => rfl) fun Uf Nf cf hf Ef Hf => ad rfl (rest ⟨((flagD cd.1 cd.2.1 (decide (c4.2.2.pr ≥ 0))).1, (flagD cd.1 cd.2.1 (decide (c4.2.2.pr ≥ 0))).2.1, cd.2.2), true, ?_, ?_⟩ Ef (Hf.mono (by omega))))) fun ht => ?_))
    · rw [if_neg (by rw [hk]; decide)]; exact ⟨ca, ha, cc, hc, cd, hd, rfl, ht.symm⟩
    · rw [if_pos rfl]; exact hf
    · obtain ⟨M25, p25, E25, H25⟩ := He.put (o := 8) (v := .int .i64 (-1)) (h' := { cd.2.2 with pr := -1 }) (by decide) rfl rfl
      refine ad rfl (pt p25 (ad rfl (rest ⟨((flagD cd.1 cd.2.1 (decide (c4.2.2.pr ≥ 0))).1, (flagD cd.1 cd.2.1 (decide (c4.2.2.pr ≥ 0))).2.1, cd.2.2), false, ?_, ?_⟩ (EE.trans E25) (H25.mono (by omega)))))
      · rw [if_neg (by rw [hk]; decide)]; exact ⟨ca, ha, cc, hc, cd, hd, rfl, ht.symm⟩
      · rw [if_neg (by decide)]
end
end Go.Zt
