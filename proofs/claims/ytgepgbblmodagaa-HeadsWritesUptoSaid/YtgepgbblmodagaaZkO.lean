/- Layer 20: HeadsSeqs: which sequence headers may be, their bytes, and what bytes say. -/
import Derived.Test.YtgepgbblmodagaaZkN
import Derived.Test.YtgepgbblmodagaaZkDb
import Derived.Test.YtgepgbblmodagaaZqT
set_option linter.unusedSimpArgs false
set_option linter.unusedVariables false
set_option maxRecDepth 100000
namespace Go.Zt
open Go Go.Sim Go.Proofs Go.RowKit
theorem eq23 (a b c d : Int) : ∃ z : Bool, binV Try.prog .eql 23 23 (.agg #[.int .i64 a, .int .i64 b]) (.agg #[.int .i64 c, .int .i64 d]) = some (.bool z) ∧ (z = true ↔ (a = c ∧ b = d)) := by
  obtain ⟨z, h1, _, h3⟩ := binV_eqA (P := Try.prog) (k := 3) (t := 23) (tb := 23) (xs := [.int .i64 a, .int .i64 b]) (ys := [.int .i64 c, .int .i64 d]) (by decide) (by kernel_rfl) (by kernel_rfl) (by kernel_rfl) (by kernel_rfl) (by kernel_rfl) rfl rfl
  refine ⟨z, h1, h3.trans ⟨fun h => ?_, fun h => by rw [h.1, h.2]⟩⟩
  simp at h; exact h
theorem newS {M0 M : Mem} (K : Keep M0 M) (x y : Int) (hf : M0.floor ≤ M0.nb.size) : ∃ M1, (M.new (.cells #[.int .i64 0, .int .i64 0] 23)).put (2 * M.nb.size) 0 (.int .i64 x) = some M1 ∧ ∃ M2, M1.put (2 * M.nb.size) 1 (.int .i64 y) = some M2 ∧ Keep M M2 ∧ M2.nb[M.nb.size]? = some (.cells #[.int .i64 x, .int .i64 y] 23) := by
  have a := Mem.new_at M (.cells #[.int .i64 0, .int .i64 0] 23)
  have K1 : Keep M (M.new (.cells #[.int .i64 0, .int .i64 0] 23)) := .new _ _
  obtain ⟨M1, p1, M2, p2, C, u⟩ := set2s a (by rw [K1.floor, K.floor]; exact Nat.le_trans hf K.size) x y
  exact ⟨M1, p1, M2, p2, Keep.step K1 C fun i hi => by omega, u⟩
theorem c3 {M : Mem} {w h : Int} {A : Option Addr} {n c : Nat} {b : List Nat} (hf : M.floor ≤ M.nb.size) (hR : Row M A (U8 b)) (hn : n = b.length) (hb : b.length ≤ 4294967296) (hB : Byt b) :
    Cn Try.prog 3 #[.agg #[.int .i64 w, .int .i64 h], .slice A n c] M fun v N => v = .bool true ∧ Keep M N := by
  have a := Mem.new_at M (.cells #[.int .i64 w, .int .i64 h] 23)
  have K : Keep M (M.new (.cells #[.int .i64 w, .int .i64 h] 23)) := .new _ _
  refine w3_0 ?_
  generalize M.new (.cells #[.int .i64 w, .int .i64 h] 23) = N at a K ⊢
  refine Cn.mono (c9 (fb hf K) (hR.keep K) hn (by omega)) ?_
  rintro _ N1 ⟨A1, c1, rfl, K1, O1, _⟩
  have a1 := at_keep a K1
  have T1 := K.trans K1
  refine ⟨_, rfl, _, int_of (i := 0) a1 rfl, _, int_of (i := 0 + 1) a1 rfl, Cn.mono (c10 (fb hf T1)) ?_⟩
  rintro _ N5 ⟨K5, A5, d5, rfl, R5⟩
  have a5 := at_keep a1 K5
  have T5 := T1.trans K5
  refine ⟨_, rfl, _, rfl, _, rfl, _, int_of (i := 0) a5 rfl, _, int_of (i := 0 + 1) a5 rfl, Cn.mono c11 ?_⟩
  rintro _ N11 ⟨K11, A11, d11, rfl, R11⟩
  have T11 := T5.trans K11
  have R1 := ((O1.row.keep K5).keep K11)
  refine ⟨_, rfl, _, rfl, _, rfl, Cn.mono (c12 (fb hf T11) R1 hn hB hb) ?_⟩
  rintro _ N15 ⟨rfl, K15⟩
  have T15 := T11.trans K15
  obtain ⟨M21, p21, M22, p22, K22, u22⟩ := newS T15 ((rdS b).1 : Int) ((rdS b).2.1 : Int) hf
  have T22 := T15.trans K22
  refine ⟨_, rfl, _, rfl, _, rfl, _, rfl, _, rfl, M21, p21, M22, p22, Cn.mono (c13 (fb hf T22) (hR.keep T22) hn hB) ?_⟩
  rintro _ N23 ⟨rfl, K23⟩
  have T23 := T22.trans K23
  obtain ⟨M29, p29, M30, p30, K30, u30⟩ := newS T23 ((rdS b).1 : Int) ((rdS b).2.1 : Int) hf
  have T30 := T23.trans K30
  have K5to30 := (((K11.trans K15).trans K22).trans K23).trans K30
  have a30 := at_keep a5 K5to30
  refine ⟨_, rfl, _, rfl, _, rfl, _, rfl, _, rfl, M29, p29, M30, p30, _, int_of (i := 0) a30 rfl, _, int_of (i := 0 + 1) a30 rfl, _, int_of (i := 0) a30 rfl, _, int_of (i := 0 + 1) a30 rfl, Cn.mono (c14 (M := { M30 with floor := M30.nb.size })) ?_⟩
  rintro _ N35 ⟨rfl, K35⟩
  have K35' : Keep M30 { N35 with floor := M30.floor } := K35.unfl
  refine ⟨_, rfl, ?_⟩
  generalize { N35 with floor := M30.floor } = N36 at K35' ⊢
  refine Cn.mono c15 ?_
  rintro _ N37 ⟨rfl, K37⟩
  have Kf := (K30.trans K35').trans K37
  have Kg := (K23.trans K30).trans (K35'.trans K37)
  have T37 := (T30.trans K35').trans K37
  have Kh := ((K15.trans K22).trans Kg)
  have KK5 := K11.trans Kh
  refine ⟨_, rfl, fun _ => ?_, fun hne => absurd rfl hne⟩
  rw [show (((chkS w h : Nat) : Int) == ((chkS w h : Nat) : Int)) = true by simp]
  have v22 := at_keep (at_keep u22 K23) Kf
  have v30 := at_keep (at_keep u30 K35') K37
  obtain ⟨z, z1, z2⟩ := eq23 ((rdS b).1 : Int) ((rdS b).2.1 : Int) ((rdS b).1 : Int) ((rdS b).2.1 : Int)
  have hs : (sqb w h).length ≤ 2 := by unfold sqb; split <;> simp
  refine w3_1 ⟨fun _ => Cn.eq (c16 (R5.keep KK5) (R11.keep Kh) rfl rfl (show (sqb w h).length ≤ 4611686018427387904 by omega)) ⟨_, rfl, ?_⟩, fun h => (by cases h)⟩
  rw [decide_eq_true rfl]
  refine w3_2 ⟨fun _ => ⟨_, rfl, _, int_of (i := 0) v22 rfl, _, int_of (i := 0 + 1) v22 rfl, _, rfl, _, int_of (i := 0) v30 rfl, _, int_of (i := 0 + 1) v30 rfl, _, z1, z, rfl, ?_⟩, fun h => (by cases h)⟩
  rw [z2.2 ⟨rfl, rfl⟩]
  refine w3_3 ⟨fun _ => ?_, fun h => (by cases h)⟩
  rw [show ((((rdS b).2.2 : Nat) : Int) == (((rdS b).2.2 : Nat) : Int)) = true by simp]
  refine w3_4 ⟨fun _ => Cn.eq (c16 (R1.keep Kh) (hR.keep T37) hn hn (show n ≤ 4611686018427387904 by omega)) ⟨_, rfl, ?_⟩, fun h => (by cases h)⟩
  rw [decide_eq_true rfl]
  exact w3_5 ⟨fun _ => Cn.known (by rfl) ⟨_, rfl, rfl, T37⟩, fun h => (by cases h)⟩
theorem wf_i64 {x : Int} (h : (Lit.int .i64 x).wf = true) : -9223372036854775808 ≤ x ∧ x ≤ 9223372036854775807 := by
  simp [Lit.wf, IntKind.min, IntKind.max, IntKind.signed, IntKind.bits] at h
  omega
theorem sees_seq {M : Mem} {B k : Nat} {r : List Value} (h : Sees Try.prog M B (k + 2) 23 r) : ∃ x y, r = [.int .i64 x, .int .i64 y] ∧ (-9223372036854775808 ≤ x ∧ x ≤ 9223372036854775807) ∧ (-9223372036854775808 ≤ y ∧ y ≤ 9223372036854775807) := by
  obtain ⟨h1, h2⟩ := sees_struct (l := [(0, 3), (1, 3)]) (n := 2) (by kernel_rfl) (by kernel_rfl) h
  match r, h1 with
  | [a, b], _ =>
    obtain ⟨x, e1, x1⟩ := sees_int (q := .i64) (by kernel_rfl) (h2 (0, 3) (by simp))
    obtain ⟨y, e2, y1⟩ := sees_int (q := .i64) (by kernel_rfl) (h2 (1, 3) (by simp))
    have hc : Try.prog.cellsOf 3 = 1 := by kernel_rfl
    rw [hc] at e1 e2
    simp at e1 e2
    exact ⟨x, y, by rw [e1, e2], wf_i64 x1, wf_i64 y1⟩
end Go.Zt
