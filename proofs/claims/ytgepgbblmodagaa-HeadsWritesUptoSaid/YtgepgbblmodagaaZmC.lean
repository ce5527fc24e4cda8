/- Layer 20: HeadsWrites: the law. -/
import Derived.Test.YtgepgbblmodagaaZmB
set_option linter.unusedSimpArgs false
set_option linter.unusedVariables false
set_option maxRecDepth 100000
namespace Go.Zt
open Go Go.Sim Go.Proofs Go.RowKit
section
variable {U V U' V' : Nat → Prop} {M N M0 : Mem} {jp jq k : Nat} {l l' l2 : List Nat} {h : Hd} {X : List Sg} {w e : Int}
structure Two (U V : Nat → Prop) (M : Mem) (jp jq : Nat) (l l' : List Nat) : Prop where
  p : Ws U M jp l
  q : Wt V M jq l'
  d1 : ∀ i, U i → ¬ V i
  d2 : ¬ U jq
  d3 : ¬ V jp
  d4 : jp ≠ jq
theorem Two.stepP (h : Two U V M jp jq l l') (E : Ext (· = jp) U M U' N) (W : Ws U' N jp l2) : Two U' V N jp jq l2 l' := by
  have hq := h.q.lt
  refine ⟨W, h.q.chg E.chg fun i hi hs ht => ?_, fun i hi hv => ?_, fun hu => ?_, h.d3, h.d4⟩
  · rcases hs with hs | hs <;> rcases ht with ht | ht
    · exact h.d1 i ht hs
    · exact h.d3 (ht ▸ hs)
    · exact h.d2 (hs ▸ ht)
    · exact h.d4 (ht.symm.trans hs)
  · rcases E.sub i hi with hu | hu
    · exact h.d1 i hu hv
    · have := h.q.ub i hv; omega
  · rcases E.sub _ hu with hu | hu
    · exact h.d2 hu
    · omega
theorem Two.stepQ (h : Two U V M jp jq l l') (E : Ext (· = jq) V M V' N) (W : Wt V' N jq l2) : Two U V' N jp jq l l2 := by
  have hp := h.p.lt
  refine ⟨h.p.chg E.chg fun i hi hs ht => ?_, W, fun i hi hv => ?_, h.d2, fun hu => ?_, h.d4⟩
  · rcases hs with hs | hs <;> rcases ht with ht | ht
    · exact h.d1 i hs ht
    · exact h.d2 (ht ▸ hs)
    · exact h.d3 (hs ▸ ht)
    · exact h.d4 (hs.symm.trans ht)
  · rcases E.sub i hv with hu | hu
    · exact h.d1 i hi hu
    · have := h.p.ub i hi; omega
  · rcases E.sub _ hu with hu | hu
    · exact h.d3 hu
    · omega
theorem Two.keep (h : Two U V M jp jq l l') (K : Keep M N) : Two U V N jp jq l l' := ⟨h.p.keep K, h.q.keep K, h.d1, h.d2, h.d3, h.d4⟩
theorem FarW.big {A : Option Addr} (h : FarW U jp M A) (hs : M.nb.size ≤ N.nb.size) : FarW U jp N A := fun a ha => (h a ha).imp id fun ⟨q1, q2, q3⟩ => ⟨Nat.lt_of_lt_of_le q1 hs, q2, q3⟩
theorem FarW.old {A : Option Addr} (h : Old A) : FarW U jp M A := fun a ha => .inl (h a ha)
theorem same_refl (h : Hd) (X : List Sg) (A : Option Addr) (c : Nat) : ({ h with A := A, c := c } : Hd).same X h X = true := by
  simp [Hd.same, sm1, sm2, sm3, sm4, sm5, sm6, sm7, sm8, sm9, sm10, sm11, sm12, sm13, sm14, sm15, sm16, sm17]
theorem wF_len (v : Nat) (n : Int) : (wFixed [] v n).2.length ≤ 32 := by
  unfold wFixed
  split
  · simp
  · rename_i hh; simp [bitsN_len]; omega
set_option maxHeartbeats 1000000 in
theorem c4 {x : Int} (hx : -9223372036854775808 ≤ x ∧ x ≤ 9223372036854775807) (hf : M.floor ≤ M.nb.size) (hn : h.n = X.length) (hb : h.n ≤ 1048576) (hO : Old h.A) (hR : Row M h.A (Sgs X)) :
    Cn Try.prog 4 #[.agg h.cs, .agg #[.int .i64 w, .int .i64 e], .int .i64 x] M fun v _ => v = .bool true := by
  have a := Mem.new_at M (.cells h.cs 41)
  have K1 : Keep M (M.new (.cells h.cs 41)) := .new _ _
  refine w4_0 ?_
  have s1 := Mem.new_size M (.cells h.cs 41)
  generalize M.new (.cells h.cs 41) = M1 at a K1 s1 ⊢
  have s := Mem.new_at M1 (.cells #[.int .i64 w, .int .i64 e] 23)
  have K2 : Keep M1 (M1.new (.cells #[.int .i64 w, .int .i64 e] 23)) := .new _ _
  have a2 := at_keep a K2
  have s2 := Mem.new_size M1 (.cells #[.int .i64 w, .int .i64 e] 23)
  generalize M1.new (.cells #[.int .i64 w, .int .i64 e] 23) = M2 at s K2 a2 s2 ⊢
  have T2 := K1.trans K2
  refine ldA a2 rfl (Cn.mono (c18 (fb hf T2) hn hb (hR.keep T2)) ?_)
  rintro _ M3 ⟨A', c', rfl, K3, R3, B3⟩
  have T3 := T2.trans K3
  generalize hg : ({ h with A := A', c := c' } : Hd) = g
  have gn : g.n = X.length := by rw [← hg]; exact hn
  have gb : g.n ≤ 1048576 := by rw [← hg]; exact hb
  have gA : g.A = A' := by rw [← hg]
  have gs : g.same X h X = true := by rw [← hg]; exact same_refl ..
  have gm : g.may X w e = h.may X w e := by rw [← hg]; rfl
  have gw : wB g X w e = wB h X w e := by rw [← hg]; rfl
  rw [← gA] at R3 B3
  clear hg gA
  refine ty rfl (ac0 rfl (stN (cs := g.cs) (fb hf T3) rfl rfl rfl fun M4 K4 n4 b4 => ?_))
  have T4 := T3.trans K4
  have a4 := at_keep (at_keep a2 K3) K4
  have s4 := at_keep (at_keep s K3) K4
  refine Cn.mono c19 ?_
  rintro _ M5 ⟨rfl, K5, n5, W5⟩
  refine ty rfl (Cn.mono c20 ?_)
  rintro _ M6 ⟨rfl, K6, n6, W6⟩
  have T6 := (T4.trans K5).trans K6
  have z2 := T2.size
  have z3 := K3.size
  have f6 := fb hf T6
  have T2f := T6.floor
  have W : Two (fun _ => False) (fun _ => False) M6 M4.nb.size M5.nb.size [] [] := by
    refine ⟨⟨(W5.keep K6).shrink (fun i _ h => h.elim) fun hu => hu.elim id fun q => by omega, fun i hi => hi.elim False.elim fun q => by omega, f6, fun i hi => hi.elim⟩, ⟨W6.shrink (fun i _ h => h.elim) fun hu => hu.elim id fun q => by omega, fun i hi => hi.elim False.elim fun q => by omega, f6, fun i hi => hi.elim⟩, fun i hi => hi.elim, id, id, by omega⟩
  have b6 := at_keep (at_keep b4 K5) K6
  have a6 := at_keep (at_keep a4 K5) K6
  have s6 := at_keep (at_keep s4 K5) K6
  have R6 := ((R3.keep K4).keep K5).keep K6
  have l0 := lt_of_at a
  have l1 := lt_of_at s
  have F6 : FarW (fun _ => False) M4.nb.size M6 g.A ∧ FarW (fun _ => False) M5.nb.size M6 g.A := ⟨fun y hy => .inr ⟨by have := B3 y hy; omega, id, by have := B3 y hy; omega⟩, fun y hy => .inr ⟨by have := B3 y hy; omega, id, by have := B3 y hy; omega⟩⟩
  have d0 : M.nb.size ≠ M4.nb.size ∧ M.nb.size ≠ M5.nb.size := by omega
  have d1 : M1.nb.size ≠ M4.nb.size ∧ M1.nb.size ≠ M5.nb.size := by omega
  have d2 : M3.nb.size ≠ M4.nb.size ∧ M3.nb.size ≠ M5.nb.size := by omega
  generalize hjg : M3.nb.size = jg at b6 d2 ⊢
  generalize hjh : M.nb.size = jh at a6 d0 ⊢
  generalize hjs : M1.nb.size = js at s6 d1 ⊢
  generalize hjp : M4.nb.size = jp at W F6 d0 d1 d2 ⊢
  generalize hjq : M5.nb.size = jq at W F6 d0 d1 d2 ⊢
  refine ty rfl (cF rfl (Cn.eq (c21 hx (by decide)) (ty rfl ?_)))
  generalize brg x 9 = t
  have wl := wF_len 0 t
  generalize hwf : wFixed [] 0 t = wf at wl
  refine Cn.mono (c22 W.p.flw W.p.dev (v := 0) rfl (by decide) t (by simp)) ?_
  rw [hwf]
  rintro _ M7 ⟨rfl, C7, D7⟩
  obtain ⟨U7, E7, P7⟩ := W.p.of C7 D7
  have W7 := W.stepP E7 P7
  have b7 := E7.at b6 id d2.1
  have a7 := E7.at a6 id d0.1
  have s7 := E7.at s6 id d1.1
  have F7 := F6.1.ext E7
  have R7 := F6.1.row R6 E7
  have G7 : FarW (fun _ => False) jq M7 g.A := F6.2.big E7.chg.size
  refine ty rfl (Cn.mono (c23 W7.q.flw W7.q.dev (v := 0) rfl (by decide) t (by simp)) ?_)
  rw [hwf]
  rintro _ M8 ⟨rfl, C8, D8⟩
  obtain ⟨V8, E8, Q8⟩ := W7.q.of C8 D8
  have W8 := W7.stepQ E8 Q8
  have b8 := E8.at b7.1 id d2.2
  have a8 := E8.at a7.1 id d0.2
  have s8 := E8.at s7.1 id d1.2
  have F8 : FarW U7 jp M8 g.A := F7.big E8.chg.size
  have G8 := G7.ext E8
  have R8 := G7.row R7 E8
  have H8 := ((hR.keep T6).old hO E7.chg).old hO E8.chg
  refine ty rfl (ldA b8.1 rfl (on (int_of s8.1 rfl) (on (int_of s8.1 rfl) (Cn.mono (c24 W8.p (by omega) gn gb R8 F8) ?_))))
  rw [gm, gw]
  rintro _ M9 ⟨rfl, U9, E9, P9⟩
  have W9 := W8.stepP E9 P9
  have b9 := E9.at b8.1 b7.2 d2.1
  have a9 := E9.at a8.1 a7.2 d0.1
  have s9 := E9.at s8.1 s7.2 d1.1
  have R9 := F8.row R8 E9
  have H9 := H8.old hO E9.chg
  have G9 : FarW V8 jq M9 g.A := G8.big E9.chg.size
  refine ty rfl (ldA a9.1 rfl (on (int_of s9.1 rfl) (on (int_of s9.1 rfl) (Cn.mono (c25 W9.q (by omega) hn hb H9 (FarW.old hO)) ?_))))
  rintro _ M10 ⟨rfl, V10, E10, Q10⟩
  have W10 := W9.stepQ E10 Q10
  have b10 := E10.at b9.1 b8.2 d2.2
  have a10 := E10.at a9.1 a8.2 d0.2
  have s10 := E10.at s9.1 s8.2 d1.2
  have R10 := G9.row R9 E10
  have H10 := H9.old hO E10.chg
  refine ty rfl (ldA b10.1 rfl (on (int_of s10.1 rfl) (on (int_of s10.1 rfl) (ldA a10.1 rfl (on (int_of s10.1 rfl) (on (int_of s10.1 rfl) (Cn.mono (c26 (M := { M10 with floor := M10.nb.size }) (Nat.le_refl _) gn gb R10) ?_)))))))
  rw [gm]
  rintro _ M11 ⟨rfl, K11⟩
  have K11' : Keep M10 { M11 with floor := M10.floor } := K11.unfl
  refine ty rfl ?_
  generalize { M11 with floor := M10.floor } = M12 at K11' ⊢
  have f12 : M12.floor ≤ M12.nb.size := fb W10.p.fs K11'
  refine Cn.mono (c27 f12 hn hb (H10.keep K11')) ?_
  rintro _ M13 ⟨rfl, K13⟩
  have K1013 := K11'.trans K13
  have W13 := W10.keep K1013
  have b13 := at_keep b10.1 K1013
  have a13 := at_keep a10.1 K1013
  have R13 := R10.keep K1013
  have H13 := H10.keep K1013
  refine ty rfl ?_
  simp only [BEq.rfl]
  refine cT rfl (w4_1 (cT rfl (Cn.mono (c28 W13.p.dev W13.p.fs) ?_)))
  rintro _ M14 ⟨A14, c14, rfl, K14, O14, _⟩
  refine ty rfl (Cn.mono (c29 (W13.keep K14).q.dev (W13.keep K14).q.fs) ?_)
  rintro _ M15 ⟨A15, c15, rfl, K15, O15⟩
  have T15 := K14.trans K15
  have pl : (pack (wf.2 ++ wB h X w e)).length ≤ 4611686018427387904 := by have := W13.p.dev.len; rw [pack_len]; omega
  refine ty rfl (Cn.eq (c16 (O14.row.keep K15) O15.row rfl rfl pl) (ty rfl ?_))
  rw [decide_eq_true rfl]
  refine w4_2 (cT rfl (ad rfl (ldA (at_keep b13 T15) rfl (ad rfl (ldA (at_keep a13 T15) rfl (Cn.mono (c30 (W13.keep T15).p.fs gn hn gb (R13.keep T15) (H13.keep T15)) ?_))))))
  rw [gs]
  rintro _ M16 ⟨rfl, K16⟩
  exact ty rfl (w4_3 (cT rfl (Cn.known (by rfl) (ty rfl rfl))))
end
theorem law4 {W : World} {cs ss : List Value} {u : Value} (s0 : Sees Try.prog (mem0 W) 1048576 8 41 cs) (s1 : Sees Try.prog (mem0 W) 1048576 8 23 ss) (s2 : Sees Try.prog (mem0 W) 1048576 8 3 [u]) : Cn Try.prog 4 #[.agg cs.toArray, .agg ss.toArray, u] (mem0 W) fun v _ => v = .bool true := by
  obtain ⟨h, X, rfl, h1, _, h3, h4, h5, _⟩ := sees_head s0
  obtain ⟨w, e, rfl, _, _⟩ := sees_seq s1
  obtain ⟨x, hx, wf⟩ := sees_int (q := .i64) (by kernel_rfl) s2
  simp at hx
  subst hx
  exact c4 (wf_i64 wf) (Nat.le_refl _) h1 h3 h4 h5
end Go.Zt
