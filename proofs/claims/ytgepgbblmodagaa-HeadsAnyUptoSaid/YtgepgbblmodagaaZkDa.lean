/- The functions' walks: for each function and each loop a rule of what it comes to. Printed by zw.py. -/
import Derived.Test.YtgepgbblmodagaaProg
import Derived.Test.YtgepgbblmodagaaZkA
set_option linter.unusedVariables false
set_option maxRecDepth 100000
namespace Go.Zt
open Go Go.Sim Go.Proofs

variable {g0 g1 g2 g3 g4 g5 g6 g7 g8 g9 g10 g11 g12 g13 g14 g15 g16 g17 g18 g19 g20 g21 g22 g23 g24 g25 g26 g27 g28 g29 g30 g31 g32 g33 g34 g35 g36 g37 g38 g39 g40 g41 g42 g43 g44 g45 g46 g47 g48 g49 g50 g51 g52 g53 g54 g55 g56 g57 g58 g59 g60 : Value}
/-! ### zoetrope/heads.within: function 55 -/
noncomputable abbrev P55 (p : List Nat) : Code := subC (codeOf Try.f55) p
noncomputable abbrev O55 (p : List Nat) : Array Oper := opsOf (subC (codeOf Try.f55) p)
theorem b55 : Try.prog.funcs[55]? = some Try.f55 ∧ (Orc.tab Try.prog).lookup 55 = none := ⟨by kernel_rfl, by kernel_rfl⟩
theorem d55 : Try.f55.body = some (P55 []) := by kernel_rfl
theorem t55 {x0 x1 x2 : Int} : #[.int .i64 x0,.int .i64 x1,.int .i64 x2] ++ Array.replicate (Try.f55.ntmps - (#[.int .i64 x0,.int .i64 x1,.int .i64 x2] : Array Value).size) undef = #[.int .i64 x0,.int .i64 x1,.int .i64 x2,undef,undef,undef,undef,undef,undef,undef,undef,undef,undef,undef,undef] := by kernel_rfl
theorem k55_0 : P55 [] = .seq (P55 [0]) (P55 [1]) := by kernel_rfl
theorem k55_1 : P55 [0] = .region 0 (O55 [0]) false := by kernel_rfl
theorem r55_0 {M : Mem} {call : CallM} {K : Array Value → Mem → R} :
    opsK Try.prog (fun _ => call) (O55 [0]) (O55 [0]).toList 0 #[g0,g1,g2,g3,g4,g5,g6,g7,g8,g9,g10,g11,g12,g13,g14] M K = K #[g0,g1,g2,g3,g4,g5,.bool false,g7,g8,g9,g10,g11,g12,g13,g14] M := by kernel_rfl
theorem k55_2 : P55 [1] = .seq (P55 [1,0]) (P55 [1,1]) := by kernel_rfl
theorem k55_3 : P55 [1,0] = .region 1 (O55 [1,0]) false := by kernel_rfl
theorem r55_1 {x0 x1 x2 : Int} {M : Mem} {call : CallM} {K : Array Value → Mem → R} :
    opsK Try.prog (fun _ => call) (O55 [1,0]) (O55 [1,0]).toList 0 #[.int .i64 x0,.int .i64 x1,.int .i64 x2,g3,g4,g5,g6,g7,g8,g9,g10,g11,g12,g13,g14] M K = withK (fun w6 w10 w11 w12 w13 w14 M => K #[.int .i64 x0,.int .i64 x1,.int .i64 x2,g3,g4,g5,w6,.int .i64 x0,.int .i64 x1,.bool (decide (x0 ≥ x1)),w10,w11,w12,w13,w14] M) fun k => cond (decide (x0 ≥ x1)) (k (.bool (decide (x0 ≤ x2))) (.bool true) (.int .i64 x0) (.int .i64 x2) (.bool (decide (x0 ≤ x2))) (.bool (decide (x0 ≤ x2))) M) (k (.bool false) (.bool false) undef undef undef (.bool false) M) := by kernel_rfl
theorem k55_4 : P55 [1,1] = .ret := by kernel_rfl
theorem e55 {M : Mem} : finish Try.prog Try.f55 #[g0,g1,g2,g3,g4,g5,g6,g7,g8,g9,g10,g11,g12,g13,g14] M = some (g6, M) := by kernel_rfl
theorem w55_0 {x0 x1 x2 : Int} {M : Mem} {Q : Value → Mem → Prop} (H :
    ((x0 ≥ x1 →
     Q (.bool (decide (x0 ≤ x2))) M) ∧
     (¬ (x0 ≥ x1) →
     Q (.bool false) M))) :
    Cn Try.prog 55 #[.int .i64 x0, .int .i64 x1, .int .i64 x2] M Q := by
  refine Cn.of b55 d55 t55 ?_
  refine Rn.seq k55_0 (Rn.region k55_1 (fun call K => r55_0) (Rch.leaf (Rn.seq k55_2 (Rn.region k55_3 (fun call K => r55_1) ?_))))
  refine Rch.cB (fun h => ?_) (fun h => ?_)
  · replace H := H.1 (of_decide_eq_true h)
    refine Rch.leaf ?_
    exact Rn.ret k55_4 e55 H
  · replace H := H.2 (of_decide_eq_false h)
    refine Rch.leaf ?_
    exact Rn.ret k55_4 e55 H


/-! ### zoetrope/heads.sideMay: function 44 -/
noncomputable abbrev P44 (p : List Nat) : Code := subC (codeOf Try.f44) p
noncomputable abbrev O44 (p : List Nat) : Array Oper := opsOf (subC (codeOf Try.f44) p)
theorem b44 : Try.prog.funcs[44]? = some Try.f44 ∧ (Orc.tab Try.prog).lookup 44 = none := ⟨by kernel_rfl, by kernel_rfl⟩
theorem d44 : Try.f44.body = some (P44 []) := by kernel_rfl
theorem t44 {x0 : Int} : #[.int .i64 x0] ++ Array.replicate (Try.f44.ntmps - (#[.int .i64 x0] : Array Value).size) undef = #[.int .i64 x0,undef,undef,undef,undef,undef,undef,undef,undef,undef] := by kernel_rfl
theorem k44_0 : P44 [] = .seq (P44 [0]) (P44 [1]) := by kernel_rfl
theorem k44_1 : P44 [0] = .region 0 (O44 [0]) false := by kernel_rfl
theorem r44_0 {M : Mem} {call : CallM} {K : Array Value → Mem → R} :
    opsK Try.prog (fun _ => call) (O44 [0]) (O44 [0]).toList 0 #[g0,g1,g2,g3,g4,g5,g6,g7,g8,g9] M K = K #[g0,g1,.bool false,g3,g4,g5,g6,g7,g8,g9] M := by kernel_rfl
theorem k44_2 : P44 [1] = .seq (P44 [1,0]) (P44 [1,1]) := by kernel_rfl
theorem k44_3 : P44 [1,0] = .region 1 (O44 [1,0]) false := by kernel_rfl
theorem r44_1 {x0 : Int} {M : Mem} {call : CallM} {K : Array Value → Mem → R} :
    opsK Try.prog (fun _ => call) (O44 [1,0]) (O44 [1,0]).toList 0 #[.int .i64 x0,g1,g2,g3,g4,g5,g6,g7,g8,g9] M K = withK (fun w2 w4 w5 w6 w7 w8 w9 M => K #[.int .i64 x0,g1,w2,.int .i64 x0,w4,w5,w6,w7,w8,w9] M) fun k => (call 55 #[.int .i64 x0, .int .i64 16, .int .i64 256] M).bind fun r_1 => (asB r_1.1).bind fun b_2 => cond b_2 (k (.bool ((x0.tmod 2) == 0)) (.bool b_2) (.bool true) (.int .i64 x0) (.int .i64 (x0.tmod 2)) (.bool ((x0.tmod 2) == 0)) (.bool ((x0.tmod 2) == 0)) r_1.2) (k (.bool false) (.bool b_2) (.bool false) undef undef undef (.bool false) r_1.2) := by kernel_rfl
theorem k44_4 : P44 [1,1] = .ret := by kernel_rfl
theorem e44 {M : Mem} : finish Try.prog Try.f44 #[g0,g1,g2,g3,g4,g5,g6,g7,g8,g9] M = some (g2, M) := by kernel_rfl
theorem w44_0 {x0 : Int} {M : Mem} {Q : Value → Mem → Prop} (H :
    Cn Try.prog 55 #[.int .i64 x0, .int .i64 16, .int .i64 256] M fun v1' N1' =>
     ∃ b2', asB v1' = some b2' ∧
     ((b2' = true →
      Q (.bool ((x0.tmod 2) == 0)) N1') ∧
      (b2' = false →
      Q (.bool false) N1'))) :
    Cn Try.prog 44 #[.int .i64 x0] M Q := by
  refine Cn.of b44 d44 t44 ?_
  refine Rn.seq k44_0 (Rn.region k44_1 (fun call K => r44_0) (Rch.leaf (Rn.seq k44_2 (Rn.region k44_3 (fun call K => r44_1) (Rch.call H fun v1' N1' H => Rch.ex H fun b2' H => ?_)))))
  refine Rch.cB (fun h => ?_) (fun h => ?_)
  · replace H := H.1 (h)
    refine Rch.leaf ?_
    exact Rn.ret k44_4 e44 H
  · replace H := H.2 (h)
    refine Rch.leaf ?_
    exact Rn.ret k44_4 e44 H


/-! ### zoetrope/heads.CheckSeq: function 14 -/
noncomputable abbrev P14 (p : List Nat) : Code := subC (codeOf Try.f14) p
noncomputable abbrev O14 (p : List Nat) : Array Oper := opsOf (subC (codeOf Try.f14) p)
theorem b14 : Try.prog.funcs[14]? = some Try.f14 ∧ (Orc.tab Try.prog).lookup 14 = none := ⟨by kernel_rfl, by kernel_rfl⟩
theorem d14 : Try.f14.body = some (P14 []) := by kernel_rfl
theorem t14 {x0_0 x0_1 : Int} : #[.agg #[.int .i64 x0_0, .int .i64 x0_1]] ++ Array.replicate (Try.f14.ntmps - (#[.agg #[.int .i64 x0_0, .int .i64 x0_1]] : Array Value).size) undef = #[.agg #[.int .i64 x0_0, .int .i64 x0_1],undef,undef,undef,undef,undef,undef,undef,undef,undef,undef,undef,undef] := by kernel_rfl
theorem k14_0 : P14 [] = .seq (P14 [0]) (P14 [1]) := by kernel_rfl
theorem k14_1 : P14 [0] = .region 0 (O14 [0]) false := by kernel_rfl
theorem r14_0 {x0_0 x0_1 : Int} {M : Mem} {call : CallM} {K : Array Value → Mem → R} :
    opsK Try.prog (fun _ => call) (O14 [0]) (O14 [0]).toList 0 #[.agg #[.int .i64 x0_0, .int .i64 x0_1],g1,g2,g3,g4,g5,g6,g7,g8,g9,g10,g11,g12] M K = K #[.agg #[.int .i64 x0_0, .int .i64 x0_1],.pointer (some ⟨2 * M.nb.size, 0, none⟩),.int .i64 0,g3,g4,g5,g6,g7,g8,g9,g10,g11,g12] (M.new (.cells #[.int .i64 x0_0, .int .i64 x0_1] 23)) := by kernel_rfl
theorem k14_2 : P14 [1] = .seq (P14 [1,0]) (P14 [1,1]) := by kernel_rfl
theorem k14_3 : P14 [1,0] = .seq (P14 [1,0,0]) (P14 [1,0,1]) := by kernel_rfl
theorem k14_4 : P14 [1,0,0] = .region 1 (O14 [1,0,0]) false := by kernel_rfl
theorem r14_1 {x1 : Option Addr} {M : Mem} {call : CallM} {K : Array Value → Mem → R} :
    opsK Try.prog (fun _ => call) (O14 [1,0,0]) (O14 [1,0,0]).toList 0 #[g0,.pointer x1,g2,g3,g4,g5,g6,g7,g8,g9,g10,g11,g12] M K = withK (fun w3 w4 w5 w6 w7 w8 w9 w10 w11 w12 M => K #[g0,.pointer x1,g2,w3,w4,w5,w6,w7,w8,w9,w10,w11,w12] M) fun k => (x1).bind fun a_1 => (M.intAt .i64 a_1.block a_1.off).bind fun x_2 => (call 44 #[.int .i64 x_2] M).bind fun r_3 => (asB r_3.1).bind fun b_4 => cond (!b_4) (k (.pointer (some ⟨a_1.block, a_1.off, none⟩)) (.int .i64 x_2) (.bool b_4) (.bool (!b_4)) (.bool true) undef undef undef undef (.bool true) r_3.2) ((x1).bind fun a_5 => (r_3.2.intAt .i64 a_5.block (a_5.off + 1)).bind fun x_6 => (call 44 #[.int .i64 x_6] r_3.2).bind fun r_7 => (asB r_7.1).bind fun b_8 => k (.pointer (some ⟨a_1.block, a_1.off, none⟩)) (.int .i64 x_2) (.bool b_4) (.bool (!b_4)) (.bool false) (.pointer (some ⟨a_5.block, a_5.off + 1, none⟩)) (.int .i64 x_6) (.bool b_8) (.bool (!b_8)) (.bool (!b_8)) r_7.2) := by kernel_rfl
theorem c14_5 : P14 [1,0,1] = .cond (.tmp 12) (P14 [1,0,1,0]) (P14 [1,0,1,1]) := by kernel_rfl
theorem k14_6 : P14 [1,0,1,0] = .seq (P14 [1,0,1,0,0]) (P14 [1,0,1,0,1]) := by kernel_rfl
theorem k14_7 : P14 [1,0,1,0,0] = .region 2 (O14 [1,0,1,0,0]) false := by kernel_rfl
theorem r14_2 {M : Mem} {call : CallM} {K : Array Value → Mem → R} :
    opsK Try.prog (fun _ => call) (O14 [1,0,1,0,0]) (O14 [1,0,1,0,0]).toList 0 #[g0,g1,g2,g3,g4,g5,g6,g7,g8,g9,g10,g11,g12] M K = K #[g0,g1,.int .i64 2,g3,g4,g5,g6,g7,g8,g9,g10,g11,g12] M := by kernel_rfl
theorem k14_8 : P14 [1,0,1,0,1] = .ret := by kernel_rfl
theorem e14 {M : Mem} : finish Try.prog Try.f14 #[g0,g1,g2,g3,g4,g5,g6,g7,g8,g9,g10,g11,g12] M = some (g2, M) := by kernel_rfl
theorem k14_10 : P14 [1,0,1,1] = .skip := by kernel_rfl
theorem k14_11 : P14 [1,1] = .seq (P14 [1,1,0]) (P14 [1,1,1]) := by kernel_rfl
theorem k14_12 : P14 [1,1,0] = .region 3 (O14 [1,1,0]) false := by kernel_rfl
theorem r14_3 {M : Mem} {call : CallM} {K : Array Value → Mem → R} :
    opsK Try.prog (fun _ => call) (O14 [1,1,0]) (O14 [1,1,0]).toList 0 #[g0,g1,g2,g3,g4,g5,g6,g7,g8,g9,g10,g11,g12] M K = K #[g0,g1,.int .i64 0,g3,g4,g5,g6,g7,g8,g9,g10,g11,g12] M := by kernel_rfl
theorem k14_13 : P14 [1,1,1] = .ret := by kernel_rfl
noncomputable def S14_1 : List Item := [.code (P14 [1,0,1]), .code (P14 [1,1])]
def A14_1 (x12 : Bool) (M : Mem) (Q : Value → Mem → Prop) : Prop := ∀ (g0 g1 g2 g3 g4 g5 g6 g7 g8 g9 g10 g11 : Value), Rn Try.prog Try.f14 S14_1 #[g0, g1, g2, g3, g4, g5, g6, g7, g8, g9, g10, g11, .bool x12] M Q
theorem w14_0 {x0_0 x0_1 : Int} {M : Mem} {Q : Value → Mem → Prop} (H :
    ∃ x1', (M.new (.cells #[.int .i64 x0_0, .int .i64 x0_1] 23)).intAt .i64 (2 * M.nb.size) 0 = some x1' ∧
    Cn Try.prog 44 #[.int .i64 x1'] (M.new (.cells #[.int .i64 x0_0, .int .i64 x0_1] 23)) fun v2' N2' =>
     ∃ b3', asB v2' = some b3' ∧
     (((!b3') = true →
      A14_1 true N2' Q) ∧
      ((!b3') = false →
      ∃ x4', N2'.intAt .i64 (2 * M.nb.size) (0 + 1) = some x4' ∧
      Cn Try.prog 44 #[.int .i64 x4'] N2' fun v5' N5' =>
       ∃ b6', asB v5' = some b6' ∧
       A14_1 (!b6') N5' Q))) :
    Cn Try.prog 14 #[.agg #[.int .i64 x0_0, .int .i64 x0_1]] M Q := by
  refine Cn.of b14 d14 t14 ?_
  refine Rn.seq k14_0 (Rn.region k14_1 (fun call K => r14_0) (Rch.leaf (Rn.seq k14_2 (Rn.seq k14_3 (Rn.region k14_4 (fun call K => r14_1) (Rch.bind (x := ⟨2 * M.nb.size, 0, none⟩) rfl (Rch.ex H fun x1' H => Rch.call H fun v2' N2' H => Rch.ex H fun b3' H => ?_)))))))
  refine Rch.cB (fun h => ?_) (fun h => ?_)
  · replace H := H.1 (h)
    refine Rch.leaf ?_
    exact H _ _ _ _ _ _ _ _ _ _ _ _
  · replace H := H.2 (h)
    refine Rch.bind (x := ⟨2 * M.nb.size, 0, none⟩) rfl (Rch.ex H fun x4' H => Rch.call H fun v5' N5' H => Rch.ex H fun b6' H => Rch.leaf ?_)
    exact H _ _ _ _ _ _ _ _ _ _ _ _

theorem w14_1 {x12 : Bool} {M : Mem} {Q : Value → Mem → Prop} (H :
    ((x12 = true →
     Q (.int .i64 2) M) ∧
     (x12 = false →
     Q (.int .i64 0) M))) :
    A14_1 x12 M Q := by
  intro g0 g1 g2 g3 g4 g5 g6 g7 g8 g9 g10 g11
  refine Rn.cnd (v := x12) ⟨c14_5, rfl, by kernel_rfl⟩ (fun h => ?_) (fun h => ?_)
  · replace H := H.1 (h)
    refine Rn.seq k14_6 (Rn.region k14_7 (fun call K => r14_2) (Rch.leaf ?_))
    exact Rn.ret k14_8 e14 H
  · replace H := H.2 (h)
    refine Rn.skip k14_10 (Rn.seq k14_11 (Rn.region k14_12 (fun call K => r14_3) (Rch.leaf ?_)))
    exact Rn.ret k14_13 e14 H


/-! ### zoetrope/zoetroperef20.within: function 45 -/
noncomputable abbrev P45 (p : List Nat) : Code := subC (codeOf Try.f45) p
noncomputable abbrev O45 (p : List Nat) : Array Oper := opsOf (subC (codeOf Try.f45) p)
theorem b45 : Try.prog.funcs[45]? = some Try.f45 ∧ (Orc.tab Try.prog).lookup 45 = none := ⟨by kernel_rfl, by kernel_rfl⟩
theorem d45 : Try.f45.body = some (P45 []) := by kernel_rfl
theorem t45 {x0 x1 x2 : Int} : #[.int .i64 x0,.int .i64 x1,.int .i64 x2] ++ Array.replicate (Try.f45.ntmps - (#[.int .i64 x0,.int .i64 x1,.int .i64 x2] : Array Value).size) undef = #[.int .i64 x0,.int .i64 x1,.int .i64 x2,undef,undef,undef,undef,undef,undef,undef,undef,undef,undef,undef,undef] := by kernel_rfl
theorem k45_0 : P45 [] = .seq (P45 [0]) (P45 [1]) := by kernel_rfl
theorem k45_1 : P45 [0] = .region 0 (O45 [0]) false := by kernel_rfl
theorem r45_0 {M : Mem} {call : CallM} {K : Array Value → Mem → R} :
    opsK Try.prog (fun _ => call) (O45 [0]) (O45 [0]).toList 0 #[g0,g1,g2,g3,g4,g5,g6,g7,g8,g9,g10,g11,g12,g13,g14] M K = K #[g0,g1,g2,g3,g4,g5,.bool false,g7,g8,g9,g10,g11,g12,g13,g14] M := by kernel_rfl
theorem k45_2 : P45 [1] = .seq (P45 [1,0]) (P45 [1,1]) := by kernel_rfl
theorem k45_3 : P45 [1,0] = .region 1 (O45 [1,0]) false := by kernel_rfl
theorem r45_1 {x0 x1 x2 : Int} {M : Mem} {call : CallM} {K : Array Value → Mem → R} :
    opsK Try.prog (fun _ => call) (O45 [1,0]) (O45 [1,0]).toList 0 #[.int .i64 x0,.int .i64 x1,.int .i64 x2,g3,g4,g5,g6,g7,g8,g9,g10,g11,g12,g13,g14] M K = withK (fun w6 w10 w11 w12 w13 w14 M => K #[.int .i64 x0,.int .i64 x1,.int .i64 x2,g3,g4,g5,w6,.int .i64 x0,.int .i64 x1,.bool (decide (x0 ≥ x1)),w10,w11,w12,w13,w14] M) fun k => cond (decide (x0 ≥ x1)) (k (.bool (decide (x0 ≤ x2))) (.bool true) (.int .i64 x0) (.int .i64 x2) (.bool (decide (x0 ≤ x2))) (.bool (decide (x0 ≤ x2))) M) (k (.bool false) (.bool false) undef undef undef (.bool false) M) := by kernel_rfl
theorem k45_4 : P45 [1,1] = .ret := by kernel_rfl
theorem e45 {M : Mem} : finish Try.prog Try.f45 #[g0,g1,g2,g3,g4,g5,g6,g7,g8,g9,g10,g11,g12,g13,g14] M = some (g6, M) := by kernel_rfl
theorem w45_0 {x0 x1 x2 : Int} {M : Mem} {Q : Value → Mem → Prop} (H :
    ((x0 ≥ x1 →
     Q (.bool (decide (x0 ≤ x2))) M) ∧
     (¬ (x0 ≥ x1) →
     Q (.bool false) M))) :
    Cn Try.prog 45 #[.int .i64 x0, .int .i64 x1, .int .i64 x2] M Q := by
  refine Cn.of b45 d45 t45 ?_
  refine Rn.seq k45_0 (Rn.region k45_1 (fun call K => r45_0) (Rch.leaf (Rn.seq k45_2 (Rn.region k45_3 (fun call K => r45_1) ?_))))
  refine Rch.cB (fun h => ?_) (fun h => ?_)
  · replace H := H.1 (of_decide_eq_true h)
    refine Rch.leaf ?_
    exact Rn.ret k45_4 e45 H
  · replace H := H.2 (of_decide_eq_false h)
    refine Rch.leaf ?_
    exact Rn.ret k45_4 e45 H


/-! ### zoetrope/zoetroperef20.CheckSeq: function 15 -/
noncomputable abbrev P15 (p : List Nat) : Code := subC (codeOf Try.f15) p
noncomputable abbrev O15 (p : List Nat) : Array Oper := opsOf (subC (codeOf Try.f15) p)
theorem b15 : Try.prog.funcs[15]? = some Try.f15 ∧ (Orc.tab Try.prog).lookup 15 = none := ⟨by kernel_rfl, by kernel_rfl⟩
theorem d15 : Try.f15.body = some (P15 []) := by kernel_rfl
theorem t15 {x0_0 x0_1 : Int} : #[.agg #[.int .i64 x0_0, .int .i64 x0_1]] ++ Array.replicate (Try.f15.ntmps - (#[.agg #[.int .i64 x0_0, .int .i64 x0_1]] : Array Value).size) undef = #[.agg #[.int .i64 x0_0, .int .i64 x0_1],undef,undef,undef,undef,undef,undef,undef,undef,undef,undef,undef,undef,undef,undef,undef,undef,undef,undef,undef,undef,undef,undef,undef,undef] := by kernel_rfl
theorem k15_0 : P15 [] = .seq (P15 [0]) (P15 [1]) := by kernel_rfl
theorem k15_1 : P15 [0] = .region 0 (O15 [0]) false := by kernel_rfl
theorem r15_0 {x0_0 x0_1 : Int} {M : Mem} {call : CallM} {K : Array Value → Mem → R} :
    opsK Try.prog (fun _ => call) (O15 [0]) (O15 [0]).toList 0 #[.agg #[.int .i64 x0_0, .int .i64 x0_1],g1,g2,g3,g4,g5,g6,g7,g8,g9,g10,g11,g12,g13,g14,g15,g16,g17,g18,g19,g20,g21,g22,g23,g24] M K = K #[.agg #[.int .i64 x0_0, .int .i64 x0_1],.pointer (some ⟨2 * M.nb.size, 0, none⟩),.int .i64 0,g3,g4,g5,g6,g7,g8,g9,g10,g11,g12,g13,g14,g15,g16,g17,g18,g19,g20,g21,g22,g23,g24] (M.new (.cells #[.int .i64 x0_0, .int .i64 x0_1] 23)) := by kernel_rfl
theorem k15_2 : P15 [1] = .seq (P15 [1,0]) (P15 [1,1]) := by kernel_rfl
theorem k15_3 : P15 [1,0] = .seq (P15 [1,0,0]) (P15 [1,0,1]) := by kernel_rfl
theorem k15_5 : P15 [1,0,0] = .region 1 (O15 [1,0,0]) false ∧ (!false || drawOk (O15 [1,0,0])) = true := ⟨by kernel_rfl, by kernel_rfl⟩
theorem r15_1p0 {x1 : Option Addr} {M : Mem} {call : CallM} {K : Array Value → Mem → R} :
    segK Try.prog false call (O15 [1,0,0]) 0 11 #[g0,.pointer x1,g2,g3,g4,g5,g6,g7,g8,g9,g10,g11,g12,g13,g14,g15,g16,g17,g18,g19,g20,g21,g22,g23,g24] M K = withK (fun w3 w4 w5 w6 w7 w8 w9 w10 w11 w12 w13 M => K #[g0,.pointer x1,g2,w3,w4,w5,w6,w7,w8,w9,w10,w11,w12,w13,g14,g15,g16,g17,g18,g19,g20,g21,g22,g23,g24] M) fun k => (x1).bind fun a_1 => (M.intAt .i64 a_1.block a_1.off).bind fun x_2 => (call 45 #[.int .i64 x_2, .int .i64 16, .int .i64 256] M).bind fun r_3 => (asB r_3.1).bind fun b_4 => cond (!b_4) (k (.pointer (some ⟨a_1.block, a_1.off, none⟩)) (.int .i64 x_2) (.bool b_4) (.bool (!b_4)) (.bool true) undef undef undef undef (.bool true) (.bool true) r_3.2) ((x1).bind fun a_5 => (r_3.2.intAt .i64 a_5.block (a_5.off + 1)).bind fun x_6 => (call 45 #[.int .i64 x_6, .int .i64 16, .int .i64 256] r_3.2).bind fun r_7 => (asB r_7.1).bind fun b_8 => k (.pointer (some ⟨a_1.block, a_1.off, none⟩)) (.int .i64 x_2) (.bool b_4) (.bool (!b_4)) (.bool false) (.pointer (some ⟨a_5.block, a_5.off + 1, none⟩)) (.int .i64 x_6) (.bool b_8) (.bool (!b_8)) (.bool (!b_8)) (.bool (!b_8)) r_7.2) := by kernel_rfl
theorem r15_1p11 {x1 : Option Addr} {x13 : Bool} {M : Mem} {call : CallM} {K : Array Value → Mem → R} :
    segK Try.prog false call (O15 [1,0,0]) 11 6 #[g0,.pointer x1,g2,g3,g4,g5,g6,g7,g8,g9,g10,g11,g12,.bool x13,g14,g15,g16,g17,g18,g19,g20,g21,g22,g23,g24] M K = withK (fun w13 w14 w15 w16 w17 w18 w19 M => K #[g0,.pointer x1,g2,g3,g4,g5,g6,g7,g8,g9,g10,g11,g12,w13,w14,w15,w16,w17,w18,w19,g20,g21,g22,g23,g24] M) fun k => cond x13 (k (.bool true) undef undef undef undef (.bool true) (.bool true) M) ((x1).bind fun a_1 => (M.intAt .i64 a_1.block a_1.off).bind fun x_2 => k (.bool false) (.pointer (some ⟨a_1.block, a_1.off, none⟩)) (.int .i64 x_2) (.int .i64 (x_2.tmod 2)) (.bool ((x_2.tmod 2) != 0)) (.bool ((x_2.tmod 2) != 0)) (.bool ((x_2.tmod 2) != 0)) M) := by kernel_rfl
theorem r15_1p17 {x1 : Option Addr} {x19 : Bool} {M : Mem} {call : CallM} {K : Array Value → Mem → R} :
    segK Try.prog false call (O15 [1,0,0]) 17 5 #[g0,.pointer x1,g2,g3,g4,g5,g6,g7,g8,g9,g10,g11,g12,g13,g14,g15,g16,g17,g18,.bool x19,g20,g21,g22,g23,g24] M K = withK (fun w19 w20 w21 w22 w23 w24 M => K #[g0,.pointer x1,g2,g3,g4,g5,g6,g7,g8,g9,g10,g11,g12,g13,g14,g15,g16,g17,g18,w19,w20,w21,w22,w23,w24] M) fun k => cond x19 (k (.bool true) undef undef undef undef (.bool true) M) ((x1).bind fun a_1 => (M.intAt .i64 a_1.block (a_1.off + 1)).bind fun x_2 => k (.bool false) (.pointer (some ⟨a_1.block, a_1.off + 1, none⟩)) (.int .i64 x_2) (.int .i64 (x_2.tmod 2)) (.bool ((x_2.tmod 2) != 0)) (.bool ((x_2.tmod 2) != 0)) M) := by kernel_rfl
theorem c15_6 : P15 [1,0,1] = .cond (.tmp 24) (P15 [1,0,1,0]) (P15 [1,0,1,1]) := by kernel_rfl
theorem k15_7 : P15 [1,0,1,0] = .seq (P15 [1,0,1,0,0]) (P15 [1,0,1,0,1]) := by kernel_rfl
theorem k15_8 : P15 [1,0,1,0,0] = .region 2 (O15 [1,0,1,0,0]) false := by kernel_rfl
theorem r15_2 {M : Mem} {call : CallM} {K : Array Value → Mem → R} :
    opsK Try.prog (fun _ => call) (O15 [1,0,1,0,0]) (O15 [1,0,1,0,0]).toList 0 #[g0,g1,g2,g3,g4,g5,g6,g7,g8,g9,g10,g11,g12,g13,g14,g15,g16,g17,g18,g19,g20,g21,g22,g23,g24] M K = K #[g0,g1,.int .i64 2,g3,g4,g5,g6,g7,g8,g9,g10,g11,g12,g13,g14,g15,g16,g17,g18,g19,g20,g21,g22,g23,g24] M := by kernel_rfl
theorem k15_9 : P15 [1,0,1,0,1] = .ret := by kernel_rfl
theorem e15 {M : Mem} : finish Try.prog Try.f15 #[g0,g1,g2,g3,g4,g5,g6,g7,g8,g9,g10,g11,g12,g13,g14,g15,g16,g17,g18,g19,g20,g21,g22,g23,g24] M = some (g2, M) := by kernel_rfl
theorem k15_11 : P15 [1,0,1,1] = .skip := by kernel_rfl
theorem k15_12 : P15 [1,1] = .seq (P15 [1,1,0]) (P15 [1,1,1]) := by kernel_rfl
theorem k15_13 : P15 [1,1,0] = .region 3 (O15 [1,1,0]) false := by kernel_rfl
theorem r15_3 {M : Mem} {call : CallM} {K : Array Value → Mem → R} :
    opsK Try.prog (fun _ => call) (O15 [1,1,0]) (O15 [1,1,0]).toList 0 #[g0,g1,g2,g3,g4,g5,g6,g7,g8,g9,g10,g11,g12,g13,g14,g15,g16,g17,g18,g19,g20,g21,g22,g23,g24] M K = K #[g0,g1,.int .i64 0,g3,g4,g5,g6,g7,g8,g9,g10,g11,g12,g13,g14,g15,g16,g17,g18,g19,g20,g21,g22,g23,g24] M := by kernel_rfl
theorem k15_14 : P15 [1,1,1] = .ret := by kernel_rfl
noncomputable def S15_1 : List Item := [.code (P15 [1,0,1]), .code (P15 [1,1])]
def A15_1 (x1 : Option Addr) (x13 : Bool) (M : Mem) (Q : Value → Mem → Prop) : Prop := ∀ (g0 g2 g3 g4 g5 g6 g7 g8 g9 g10 g11 g12 g14 g15 g16 g17 g18 g19 g20 g21 g22 g23 g24 : Value), Rg Try.prog Try.f15 (O15 [1,0,0]) false 11 S15_1 #[g0, .pointer x1, g2, g3, g4, g5, g6, g7, g8, g9, g10, g11, g12, .bool x13, g14, g15, g16, g17, g18, g19, g20, g21, g22, g23, g24] M Q
noncomputable def S15_2 : List Item := [.code (P15 [1,0,1]), .code (P15 [1,1])]
def A15_2 (x1 : Option Addr) (x19 : Bool) (M : Mem) (Q : Value → Mem → Prop) : Prop := ∀ (g0 g2 g3 g4 g5 g6 g7 g8 g9 g10 g11 g12 g13 g14 g15 g16 g17 g18 g20 g21 g22 g23 g24 : Value), Rg Try.prog Try.f15 (O15 [1,0,0]) false 17 S15_2 #[g0, .pointer x1, g2, g3, g4, g5, g6, g7, g8, g9, g10, g11, g12, g13, g14, g15, g16, g17, g18, .bool x19, g20, g21, g22, g23, g24] M Q
noncomputable def S15_3 : List Item := [.code (P15 [1,0,1]), .code (P15 [1,1])]
def A15_3 (x24 : Bool) (M : Mem) (Q : Value → Mem → Prop) : Prop := ∀ (g0 g1 g2 g3 g4 g5 g6 g7 g8 g9 g10 g11 g12 g13 g14 g15 g16 g17 g18 g19 g20 g21 g22 g23 : Value), Rn Try.prog Try.f15 S15_3 #[g0, g1, g2, g3, g4, g5, g6, g7, g8, g9, g10, g11, g12, g13, g14, g15, g16, g17, g18, g19, g20, g21, g22, g23, .bool x24] M Q
theorem w15_0 {x0_0 x0_1 : Int} {M : Mem} {Q : Value → Mem → Prop} (H :
    ∃ x1', (M.new (.cells #[.int .i64 x0_0, .int .i64 x0_1] 23)).intAt .i64 (2 * M.nb.size) 0 = some x1' ∧
    Cn Try.prog 45 #[.int .i64 x1', .int .i64 16, .int .i64 256] (M.new (.cells #[.int .i64 x0_0, .int .i64 x0_1] 23)) fun v2' N2' =>
     ∃ b3', asB v2' = some b3' ∧
     (((!b3') = true →
      A15_1 (some ⟨2 * M.nb.size, 0, none⟩) true N2' Q) ∧
      ((!b3') = false →
      ∃ x4', N2'.intAt .i64 (2 * M.nb.size) (0 + 1) = some x4' ∧
      Cn Try.prog 45 #[.int .i64 x4', .int .i64 16, .int .i64 256] N2' fun v5' N5' =>
       ∃ b6', asB v5' = some b6' ∧
       A15_1 (some ⟨2 * M.nb.size, 0, none⟩) (!b6') N5' Q))) :
    Cn Try.prog 15 #[.agg #[.int .i64 x0_0, .int .i64 x0_1]] M Q := by
  refine Cn.of b15 d15 t15 ?_
  refine Rn.seq k15_0 (Rn.region k15_1 (fun call K => r15_0) (Rch.leaf (Rn.seq k15_2 (Rn.seq k15_3 (Rn.regionC k15_5 (Rg.step (d := 11) (j := 11) (fun call K => r15_1p0) rfl rfl (Rch.bind (x := ⟨2 * M.nb.size, 0, none⟩) rfl (Rch.ex H fun x1' H => Rch.call H fun v2' N2' H => Rch.ex H fun b3' H => ?_))))))))
  refine Rch.cB (fun h => ?_) (fun h => ?_)
  · replace H := H.1 (h)
    refine Rch.rest ?_
    exact H _ _ _ _ _ _ _ _ _ _ _ _ _ _ _ _ _ _ _ _ _ _ _
  · replace H := H.2 (h)
    refine Rch.bind (x := ⟨2 * M.nb.size, 0, none⟩) rfl (Rch.ex H fun x4' H => Rch.call H fun v5' N5' H => Rch.ex H fun b6' H => Rch.rest ?_)
    exact H _ _ _ _ _ _ _ _ _ _ _ _ _ _ _ _ _ _ _ _ _ _ _

theorem w15_1 {x1 : Option Addr} {x13 : Bool} {M : Mem} {Q : Value → Mem → Prop} (H :
    ((x13 = true →
     A15_2 x1 true M Q) ∧
     (x13 = false →
     ∃ a7', x1 = some a7' ∧
     ∃ x8', M.intAt .i64 a7'.block a7'.off = some x8' ∧
     A15_2 x1 ((x8'.tmod 2) != 0) M Q))) :
    A15_1 x1 x13 M Q := by
  intro g0 g2 g3 g4 g5 g6 g7 g8 g9 g10 g11 g12 g14 g15 g16 g17 g18 g19 g20 g21 g22 g23 g24
  refine Rg.step (d := 6) (j := 17) (fun call K => r15_1p11) rfl rfl ?_
  refine Rch.cB (fun h => ?_) (fun h => ?_)
  · replace H := H.1 (h)
    refine Rch.rest ?_
    exact H _ _ _ _ _ _ _ _ _ _ _ _ _ _ _ _ _ _ _ _ _ _ _
  · replace H := H.2 (h)
    refine Rch.ex H fun a7' H => Rch.ex H fun x8' H => Rch.rest ?_
    exact H _ _ _ _ _ _ _ _ _ _ _ _ _ _ _ _ _ _ _ _ _ _ _

theorem w15_2 {x1 : Option Addr} {x19 : Bool} {M : Mem} {Q : Value → Mem → Prop} (H :
    ((x19 = true →
     A15_3 true M Q) ∧
     (x19 = false →
     ∃ a9', x1 = some a9' ∧
     ∃ x10', M.intAt .i64 a9'.block (a9'.off + 1) = some x10' ∧
     A15_3 ((x10'.tmod 2) != 0) M Q))) :
    A15_2 x1 x19 M Q := by
  intro g0 g2 g3 g4 g5 g6 g7 g8 g9 g10 g11 g12 g13 g14 g15 g16 g17 g18 g20 g21 g22 g23 g24
  refine Rg.step (d := 5) (j := 22) (fun call K => r15_1p17) rfl rfl ?_
  refine Rch.cB (fun h => ?_) (fun h => ?_)
  · replace H := H.1 (h)
    refine Rch.rest (Rg.done rfl ?_)
    exact H _ _ _ _ _ _ _ _ _ _ _ _ _ _ _ _ _ _ _ _ _ _ _ _
  · replace H := H.2 (h)
    refine Rch.ex H fun a9' H => Rch.ex H fun x10' H => Rch.rest (Rg.done rfl ?_)
    exact H _ _ _ _ _ _ _ _ _ _ _ _ _ _ _ _ _ _ _ _ _ _ _ _

theorem w15_3 {x24 : Bool} {M : Mem} {Q : Value → Mem → Prop} (H :
    ((x24 = true →
     Q (.int .i64 2) M) ∧
     (x24 = false →
     Q (.int .i64 0) M))) :
    A15_3 x24 M Q := by
  intro g0 g1 g2 g3 g4 g5 g6 g7 g8 g9 g10 g11 g12 g13 g14 g15 g16 g17 g18 g19 g20 g21 g22 g23
  refine Rn.cnd (v := x24) ⟨c15_6, rfl, by kernel_rfl⟩ (fun h => ?_) (fun h => ?_)
  · replace H := H.1 (h)
    refine Rn.seq k15_7 (Rn.region k15_8 (fun call K => r15_2) (Rch.leaf ?_))
    exact Rn.ret k15_9 e15 H
  · replace H := H.2 (h)
    refine Rn.skip k15_11 (Rn.seq k15_12 (Rn.region k15_13 (fun call K => r15_3) (Rch.leaf ?_)))
    exact Rn.ret k15_14 e15 H


/-! ### zoetrope/heads.SeqBytes: function 10 -/
noncomputable abbrev P10 (p : List Nat) : Code := subC (codeOf Try.f10) p
noncomputable abbrev O10 (p : List Nat) : Array Oper := opsOf (subC (codeOf Try.f10) p)
theorem b10 : Try.prog.funcs[10]? = some Try.f10 ∧ (Orc.tab Try.prog).lookup 10 = none := ⟨by kernel_rfl, by kernel_rfl⟩
theorem d10 : Try.f10.body = some (P10 []) := by kernel_rfl
theorem t10 {x0_0 x0_1 : Int} : #[.agg #[.int .i64 x0_0, .int .i64 x0_1]] ++ Array.replicate (Try.f10.ntmps - (#[.agg #[.int .i64 x0_0, .int .i64 x0_1]] : Array Value).size) undef = #[.agg #[.int .i64 x0_0, .int .i64 x0_1],undef,undef,undef,undef,undef,undef,undef,undef,undef,undef,undef,undef,undef,undef,undef,undef,undef,undef,undef,undef,undef,undef,undef,undef,undef,undef,undef,undef,undef,undef,undef,undef,undef,undef] := by kernel_rfl
theorem k10_0 : P10 [] = .seq (P10 [0]) (P10 [1]) := by kernel_rfl
theorem k10_1 : P10 [0] = .region 0 (O10 [0]) false := by kernel_rfl
theorem r10_0 {x0_0 x0_1 : Int} {M : Mem} {call : CallM} {K : Array Value → Mem → R} :
    opsK Try.prog (fun _ => call) (O10 [0]) (O10 [0]).toList 0 #[.agg #[.int .i64 x0_0, .int .i64 x0_1],g1,g2,g3,g4,g5,g6,g7,g8,g9,g10,g11,g12,g13,g14,g15,g16,g17,g18,g19,g20,g21,g22,g23,g24,g25,g26,g27,g28,g29,g30,g31,g32,g33,g34] M K = K #[.agg #[.int .i64 x0_0, .int .i64 x0_1],.pointer (some ⟨2 * M.nb.size, 0, none⟩),.slice none 0 0,.int .i64 0,g4,g5,g6,g7,g8,g9,g10,g11,g12,g13,g14,g15,g16,g17,g18,g19,g20,g21,g22,g23,g24,g25,g26,g27,g28,g29,g30,g31,g32,g33,g34] (M.new (.cells #[.int .i64 x0_0, .int .i64 x0_1] 23)) := by kernel_rfl
theorem k10_2 : P10 [1] = .seq (P10 [1,0]) (P10 [1,1]) := by kernel_rfl
theorem k10_3 : P10 [1,0] = .seq (P10 [1,0,0]) (P10 [1,0,1]) := by kernel_rfl
theorem k10_4 : P10 [1,0,0] = .region 1 (O10 [1,0,0]) false := by kernel_rfl
theorem r10_1 {x1 : Option Addr} {M : Mem} {call : CallM} {K : Array Value → Mem → R} :
    opsK Try.prog (fun _ => call) (O10 [1,0,0]) (O10 [1,0,0]).toList 0 #[g0,.pointer x1,g2,g3,g4,g5,g6,g7,g8,g9,g10,g11,g12,g13,g14,g15,g16,g17,g18,g19,g20,g21,g22,g23,g24,g25,g26,g27,g28,g29,g30,g31,g32,g33,g34] M K = (x1).bind fun a_1 => (M.intAt .i64 a_1.block a_1.off).bind fun x_2 => (M.intAt .i64 a_1.block (a_1.off + 1)).bind fun x_3 => (call 14 #[.agg #[.int .i64 x_2, .int .i64 x_3]] M).bind fun r_4 => (asI .i64 r_4.1).bind fun x_5 => K #[g0,.pointer x1,g2,g3,.int .i64 x_5,g5,g6,g7,g8,.agg #[.int .i64 x_2, .int .i64 x_3],.int .i64 x_5,g11,g12,g13,g14,g15,g16,g17,g18,g19,g20,g21,g22,g23,g24,g25,g26,g27,g28,g29,g30,g31,g32,g33,g34] r_4.2 := by kernel_rfl
theorem k10_5 : P10 [1,0,1] = .seq (P10 [1,0,1,0]) (P10 [1,0,1,1]) := by kernel_rfl
theorem k10_6 : P10 [1,0,1,0] = .region 2 (O10 [1,0,1,0]) false := by kernel_rfl
theorem r10_2 {x4 : Int} {M : Mem} {call : CallM} {K : Array Value → Mem → R} :
    opsK Try.prog (fun _ => call) (O10 [1,0,1,0]) (O10 [1,0,1,0]).toList 0 #[g0,g1,g2,g3,.int .i64 x4,g5,g6,g7,g8,g9,g10,g11,g12,g13,g14,g15,g16,g17,g18,g19,g20,g21,g22,g23,g24,g25,g26,g27,g28,g29,g30,g31,g32,g33,g34] M K = K #[g0,g1,g2,g3,.int .i64 x4,g5,g6,g7,g8,g9,g10,.int .i64 x4,.bool (x4 != 0),g13,g14,g15,g16,g17,g18,g19,g20,g21,g22,g23,g24,g25,g26,g27,g28,g29,g30,g31,g32,g33,g34] M := by kernel_rfl
theorem c10_7 : P10 [1,0,1,1] = .cond (.tmp 12) (P10 [1,0,1,1,0]) (P10 [1,0,1,1,1]) := by kernel_rfl
theorem k10_8 : P10 [1,0,1,1,0] = .seq (P10 [1,0,1,1,0,0]) (P10 [1,0,1,1,0,1]) := by kernel_rfl
theorem k10_9 : P10 [1,0,1,1,0,0] = .region 3 (O10 [1,0,1,1,0,0]) false := by kernel_rfl
theorem r10_3 {x4 : Int} {M : Mem} {call : CallM} {K : Array Value → Mem → R} :
    opsK Try.prog (fun _ => call) (O10 [1,0,1,1,0,0]) (O10 [1,0,1,1,0,0]).toList 0 #[g0,g1,g2,g3,.int .i64 x4,g5,g6,g7,g8,g9,g10,g11,g12,g13,g14,g15,g16,g17,g18,g19,g20,g21,g22,g23,g24,g25,g26,g27,g28,g29,g30,g31,g32,g33,g34] M K = K #[g0,g1,.slice none 0 0,.int .i64 x4,.int .i64 x4,g5,g6,g7,g8,g9,g10,g11,g12,.int .i64 x4,g14,g15,g16,g17,g18,g19,g20,g21,g22,g23,g24,g25,g26,g27,g28,g29,g30,g31,g32,g33,g34] M := by kernel_rfl
theorem k10_10 : P10 [1,0,1,1,0,1] = .ret := by kernel_rfl
theorem e10 {M : Mem} : finish Try.prog Try.f10 #[g0,g1,g2,g3,g4,g5,g6,g7,g8,g9,g10,g11,g12,g13,g14,g15,g16,g17,g18,g19,g20,g21,g22,g23,g24,g25,g26,g27,g28,g29,g30,g31,g32,g33,g34] M = some (.tuple #[g2, g3], M) := by kernel_rfl
theorem k10_12 : P10 [1,0,1,1,1] = .skip := by kernel_rfl
theorem k10_13 : P10 [1,1] = .seq (P10 [1,1,0]) (P10 [1,1,1]) := by kernel_rfl
theorem k10_14 : P10 [1,1,0] = .region 4 (O10 [1,1,0]) false := by kernel_rfl
theorem r10_4 {M : Mem} {call : CallM} {K : Array Value → Mem → R} :
    opsK Try.prog (fun _ => call) (O10 [1,1,0]) (O10 [1,1,0]).toList 0 #[g0,g1,g2,g3,g4,g5,g6,g7,g8,g9,g10,g11,g12,g13,g14,g15,g16,g17,g18,g19,g20,g21,g22,g23,g24,g25,g26,g27,g28,g29,g30,g31,g32,g33,g34] M K = (call 19 #[] M).bind fun r_1 => (asP r_1.1).bind fun p_2 => K #[g0,g1,g2,g3,g4,.pointer p_2,g6,g7,g8,g9,g10,g11,g12,g13,.pointer p_2,g15,g16,g17,g18,g19,g20,g21,g22,g23,g24,g25,g26,g27,g28,g29,g30,g31,g32,g33,g34] r_1.2 := by kernel_rfl
theorem k10_15 : P10 [1,1,1] = .seq (P10 [1,1,1,0]) (P10 [1,1,1,1]) := by kernel_rfl
theorem k10_16 : P10 [1,1,1,0] = .seq (P10 [1,1,1,0,0]) (P10 [1,1,1,0,1]) := by kernel_rfl
theorem k10_17 : P10 [1,1,1,0,0] = .region 5 (O10 [1,1,1,0,0]) false := by kernel_rfl
theorem r10_5 {x1 : Option Addr} {M : Mem} {call : CallM} {K : Array Value → Mem → R} :
    opsK Try.prog (fun _ => call) (O10 [1,1,1,0,0]) (O10 [1,1,1,0,0]).toList 0 #[g0,.pointer x1,g2,g3,g4,g5,g6,g7,g8,g9,g10,g11,g12,g13,g14,g15,g16,g17,g18,g19,g20,g21,g22,g23,g24,g25,g26,g27,g28,g29,g30,g31,g32,g33,g34] M K = (x1).bind fun a_1 => (M.intAt .i64 a_1.block a_1.off).bind fun x_2 => (x1).bind fun a_3 => (M.intAt .i64 a_3.block (a_3.off + 1)).bind fun x_4 => K #[g0,.pointer x1,g2,g3,g4,g5,g6,g7,g8,g9,g10,g11,g12,g13,g14,.pointer (some ⟨a_1.block, a_1.off, none⟩),.int .i64 x_2,.pointer (some ⟨a_3.block, a_3.off + 1, none⟩),.int .i64 x_4,.agg #[.int .i64 x_2, .int .i64 x_4],.int .i64 0,g21,g22,g23,g24,g25,g26,g27,g28,g29,g30,g31,g32,g33,g34] M := by kernel_rfl
theorem k10_18 : P10 [1,1,1,0,1] = .block 0 (P10 [1,1,1,0,1,0]) := by kernel_rfl
theorem k10_19 : P10 [1,1,1,0,1,0] = .loop (P10 [1,1,1,0,1,0,0]) := by kernel_rfl
theorem k10_20 : P10 [1,1,1,0,1,0,0] = .seq (P10 [1,1,1,0,1,0,0,0]) (P10 [1,1,1,0,1,0,0,1]) := by kernel_rfl
theorem k10_21 : P10 [1,1,1,0,1,0,0,0] = .region 6 (O10 [1,1,1,0,1,0,0,0]) false := by kernel_rfl
theorem r10_6 {x20 : Int} {M : Mem} {call : CallM} {K : Array Value → Mem → R} :
    opsK Try.prog (fun _ => call) (O10 [1,1,1,0,1,0,0,0]) (O10 [1,1,1,0,1,0,0,0]).toList 0 #[g0,g1,g2,g3,g4,g5,g6,g7,g8,g9,g10,g11,g12,g13,g14,g15,g16,g17,g18,g19,.int .i64 x20,g21,g22,g23,g24,g25,g26,g27,g28,g29,g30,g31,g32,g33,g34] M K = K #[g0,g1,g2,g3,g4,g5,g6,g7,g8,g9,g10,g11,g12,g13,g14,g15,g16,g17,g18,g19,.int .i64 x20,.bool (decide (x20 < 2)),g22,g23,g24,g25,g26,g27,g28,g29,g30,g31,g32,g33,g34] M := by kernel_rfl
theorem k10_22 : P10 [1,1,1,0,1,0,0,1] = .seq (P10 [1,1,1,0,1,0,0,1,0]) (P10 [1,1,1,0,1,0,0,1,1]) := by kernel_rfl
theorem c10_23 : P10 [1,1,1,0,1,0,0,1,0] = .cond (.tmp 21) (P10 [1,1,1,0,1,0,0,1,0,0]) (P10 [1,1,1,0,1,0,0,1,0,1]) := by kernel_rfl
theorem k10_24 : P10 [1,1,1,0,1,0,0,1,0,0] = .skip := by kernel_rfl
theorem k10_25 : P10 [1,1,1,0,1,0,0,1,1] = .seq (P10 [1,1,1,0,1,0,0,1,1,0]) (P10 [1,1,1,0,1,0,0,1,1,1]) := by kernel_rfl
theorem k10_26 : P10 [1,1,1,0,1,0,0,1,1,0] = .block 1 (P10 [1,1,1,0,1,0,0,1,1,0,0]) := by kernel_rfl
theorem k10_27 : P10 [1,1,1,0,1,0,0,1,1,0,0] = .seq (P10 [1,1,1,0,1,0,0,1,1,0,0,0]) (P10 [1,1,1,0,1,0,0,1,1,0,0,1]) := by kernel_rfl
theorem k10_28 : P10 [1,1,1,0,1,0,0,1,1,0,0,0] = .region 7 (O10 [1,1,1,0,1,0,0,1,1,0,0,0]) false := by kernel_rfl
theorem r10_7 {x19_0 x19_1 x20 : Int} {M : Mem} {call : CallM} {K : Array Value → Mem → R} :
    opsK Try.prog (fun _ => call) (O10 [1,1,1,0,1,0,0,1,1,0,0,0]) (O10 [1,1,1,0,1,0,0,1,1,0,0,0]).toList 0 #[g0,g1,g2,g3,g4,g5,g6,g7,g8,g9,g10,g11,g12,g13,g14,g15,g16,g17,g18,.agg #[.int .i64 x19_0, .int .i64 x19_1],.int .i64 x20,g21,g22,g23,g24,g25,g26,g27,g28,g29,g30,g31,g32,g33,g34] M K = (strV Try.prog 78 (.agg #[.int .i64 x19_0, .int .i64 x19_1]) (.int .i64 x20)).bind fun v_1 => (asI .i64 v_1).bind fun x_2 => K #[g0,g1,g2,g3,g4,g5,g6,.int .i64 x_2,g8,g9,g10,g11,g12,g13,g14,g15,g16,g17,g18,.agg #[.int .i64 x19_0, .int .i64 x19_1],.int .i64 x20,g21,.int .i64 x_2,g23,g24,g25,g26,g27,g28,g29,g30,g31,g32,g33,g34] M := by kernel_rfl
theorem k10_29 : P10 [1,1,1,0,1,0,0,1,1,0,0,1] = .seq (P10 [1,1,1,0,1,0,0,1,1,0,0,1,0]) (P10 [1,1,1,0,1,0,0,1,1,0,0,1,1]) := by kernel_rfl
theorem k10_30 : P10 [1,1,1,0,1,0,0,1,1,0,0,1,0] = .region 8 (O10 [1,1,1,0,1,0,0,1,1,0,0,1,0]) false := by kernel_rfl
theorem r10_8 {x5 : Option Addr} {x7 : Int} {M : Mem} {call : CallM} {K : Array Value → Mem → R} :
    opsK Try.prog (fun _ => call) (O10 [1,1,1,0,1,0,0,1,1,0,0,1,0]) (O10 [1,1,1,0,1,0,0,1,1,0,0,1,0]).toList 0 #[g0,g1,g2,g3,g4,.pointer x5,g6,.int .i64 x7,g8,g9,g10,g11,g12,g13,g14,g15,g16,g17,g18,g19,g20,g21,g22,g23,g24,g25,g26,g27,g28,g29,g30,g31,g32,g33,g34] M K = (call 22 #[.pointer x5, .int .u32 (IntKind.u32.wrap ((IntKind.u32.wrap (IntKind.i64.wrap (x7 - 16))).tdiv 2)), .int .i64 7] M).bind fun r_1 => (asI .i64 r_1.1).bind fun x_2 => K #[g0,g1,g2,g3,g4,.pointer x5,g6,.int .i64 x7,.int .i64 x_2,g9,g10,g11,g12,g13,g14,g15,g16,g17,g18,g19,g20,g21,g22,.pointer x5,.int .i64 x7,.int .i64 (IntKind.i64.wrap (x7 - 16)),.int .u32 (IntKind.u32.wrap (IntKind.i64.wrap (x7 - 16))),.int .u32 (IntKind.u32.wrap ((IntKind.u32.wrap (IntKind.i64.wrap (x7 - 16))).tdiv 2)),.int .i64 x_2,g29,g30,g31,g32,g33,g34] r_1.2 := by kernel_rfl
theorem k10_31 : P10 [1,1,1,0,1,0,0,1,1,0,0,1,1] = .seq (P10 [1,1,1,0,1,0,0,1,1,0,0,1,1,0]) (P10 [1,1,1,0,1,0,0,1,1,0,0,1,1,1]) := by kernel_rfl
theorem k10_32 : P10 [1,1,1,0,1,0,0,1,1,0,0,1,1,0] = .region 9 (O10 [1,1,1,0,1,0,0,1,1,0,0,1,1,0]) false := by kernel_rfl
theorem r10_9 {x8 : Int} {M : Mem} {call : CallM} {K : Array Value → Mem → R} :
    opsK Try.prog (fun _ => call) (O10 [1,1,1,0,1,0,0,1,1,0,0,1,1,0]) (O10 [1,1,1,0,1,0,0,1,1,0,0,1,1,0]).toList 0 #[g0,g1,g2,g3,g4,g5,g6,g7,.int .i64 x8,g9,g10,g11,g12,g13,g14,g15,g16,g17,g18,g19,g20,g21,g22,g23,g24,g25,g26,g27,g28,g29,g30,g31,g32,g33,g34] M K = K #[g0,g1,g2,g3,g4,g5,g6,g7,.int .i64 x8,g9,g10,g11,g12,g13,g14,g15,g16,g17,g18,g19,g20,g21,g22,g23,g24,g25,g26,g27,g28,.int .i64 x8,.bool (x8 != 0),g31,g32,g33,g34] M := by kernel_rfl
theorem c10_33 : P10 [1,1,1,0,1,0,0,1,1,0,0,1,1,1] = .cond (.tmp 30) (P10 [1,1,1,0,1,0,0,1,1,0,0,1,1,1,0]) (P10 [1,1,1,0,1,0,0,1,1,0,0,1,1,1,1]) := by kernel_rfl
theorem k10_34 : P10 [1,1,1,0,1,0,0,1,1,0,0,1,1,1,0] = .seq (P10 [1,1,1,0,1,0,0,1,1,0,0,1,1,1,0,0]) (P10 [1,1,1,0,1,0,0,1,1,0,0,1,1,1,0,1]) := by kernel_rfl
theorem k10_35 : P10 [1,1,1,0,1,0,0,1,1,0,0,1,1,1,0,0] = .region 10 (O10 [1,1,1,0,1,0,0,1,1,0,0,1,1,1,0,0]) false := by kernel_rfl
theorem r10_10 {x8 : Int} {M : Mem} {call : CallM} {K : Array Value → Mem → R} :
    opsK Try.prog (fun _ => call) (O10 [1,1,1,0,1,0,0,1,1,0,0,1,1,1,0,0]) (O10 [1,1,1,0,1,0,0,1,1,0,0,1,1,1,0,0]).toList 0 #[g0,g1,g2,g3,g4,g5,g6,g7,.int .i64 x8,g9,g10,g11,g12,g13,g14,g15,g16,g17,g18,g19,g20,g21,g22,g23,g24,g25,g26,g27,g28,g29,g30,g31,g32,g33,g34] M K = K #[g0,g1,.slice none 0 0,.int .i64 x8,g4,g5,g6,g7,.int .i64 x8,g9,g10,g11,g12,g13,g14,g15,g16,g17,g18,g19,g20,g21,g22,g23,g24,g25,g26,g27,g28,g29,g30,.int .i64 x8,g32,g33,g34] M := by kernel_rfl
theorem k10_36 : P10 [1,1,1,0,1,0,0,1,1,0,0,1,1,1,0,1] = .ret := by kernel_rfl
theorem k10_37 : P10 [1,1,1,0,1,0,0,1,1,0,0,1,1,1,1] = .skip := by kernel_rfl
theorem k10_38 : P10 [1,1,1,0,1,0,0,1,1,1] = .region 11 (O10 [1,1,1,0,1,0,0,1,1,1]) false := by kernel_rfl
theorem r10_11 {x20 : Int} {M : Mem} {call : CallM} {K : Array Value → Mem → R} :
    opsK Try.prog (fun _ => call) (O10 [1,1,1,0,1,0,0,1,1,1]) (O10 [1,1,1,0,1,0,0,1,1,1]).toList 0 #[g0,g1,g2,g3,g4,g5,g6,g7,g8,g9,g10,g11,g12,g13,g14,g15,g16,g17,g18,g19,.int .i64 x20,g21,g22,g23,g24,g25,g26,g27,g28,g29,g30,g31,g32,g33,g34] M K = K #[g0,g1,g2,g3,g4,g5,g6,g7,g8,g9,g10,g11,g12,g13,g14,g15,g16,g17,g18,g19,.int .i64 (IntKind.i64.wrap (x20 + 1)),g21,g22,g23,g24,g25,g26,g27,g28,g29,g30,g31,.int .i64 (IntKind.i64.wrap (x20 + 1)),g33,g34] M := by kernel_rfl
theorem k10_39 : P10 [1,1,1,0,1,0,0,1,0,1] = .exit 0 := by kernel_rfl
theorem k10_40 : P10 [1,1,1,1] = .seq (P10 [1,1,1,1,0]) (P10 [1,1,1,1,1]) := by kernel_rfl
theorem k10_41 : P10 [1,1,1,1,0] = .region 12 (O10 [1,1,1,1,0]) false := by kernel_rfl
theorem r10_12 {x5 : Option Addr} {M : Mem} {call : CallM} {K : Array Value → Mem → R} :
    opsK Try.prog (fun _ => call) (O10 [1,1,1,1,0]) (O10 [1,1,1,1,0]).toList 0 #[g0,g1,g2,g3,g4,.pointer x5,g6,g7,g8,g9,g10,g11,g12,g13,g14,g15,g16,g17,g18,g19,g20,g21,g22,g23,g24,g25,g26,g27,g28,g29,g30,g31,g32,g33,g34] M K = (call 28 #[.pointer x5] M).bind fun r_1 => (asS r_1.1).bind fun s_2 => K #[g0,g1,.slice s_2.1 (s_2.2.1) (s_2.2.2),.int .i64 0,g4,.pointer x5,g6,g7,g8,g9,g10,g11,g12,g13,g14,g15,g16,g17,g18,g19,g20,g21,g22,g23,g24,g25,g26,g27,g28,g29,g30,g31,g32,.pointer x5,.slice s_2.1 (s_2.2.1) (s_2.2.2)] r_1.2 := by kernel_rfl
theorem k10_42 : P10 [1,1,1,1,1] = .ret := by kernel_rfl
noncomputable def S10_1 : List Item := [.code (P10 [1,1,1,0,1,0,0]), .inLoop (P10 [1,1,1,0,1,0,0]), .inBlock 0, .code (P10 [1,1,1,1])]
def A10_1 (x5 : Option Addr) (x19_0 x19_1 x20 : Int) (M : Mem) (Q : Value → Mem → Prop) : Prop := ∀ (g0 g1 g2 g3 g4 g6 g7 g8 g9 g10 g11 g12 g13 g14 g15 g16 g17 g18 g21 g22 g23 g24 g25 g26 g27 g28 g29 g30 g31 g32 g33 g34 : Value), Rn Try.prog Try.f10 S10_1 #[g0, g1, g2, g3, g4, .pointer x5, g6, g7, g8, g9, g10, g11, g12, g13, g14, g15, g16, g17, g18, .agg #[.int .i64 x19_0, .int .i64 x19_1], .int .i64 x20, g21, g22, g23, g24, g25, g26, g27, g28, g29, g30, g31, g32, g33, g34] M Q
theorem w10_0 {x0_0 x0_1 : Int} {M : Mem} {Q : Value → Mem → Prop} (H :
    ∃ x1', (M.new (.cells #[.int .i64 x0_0, .int .i64 x0_1] 23)).intAt .i64 (2 * M.nb.size) 0 = some x1' ∧
    ∃ x2', (M.new (.cells #[.int .i64 x0_0, .int .i64 x0_1] 23)).intAt .i64 (2 * M.nb.size) (0 + 1) = some x2' ∧
    Cn Try.prog 14 #[.agg #[.int .i64 x1', .int .i64 x2']] (M.new (.cells #[.int .i64 x0_0, .int .i64 x0_1] 23)) fun v3' N3' =>
     ∃ x4', asI .i64 v3' = some x4' ∧
     ((x4' ≠ 0 →
      Q (.tuple #[.slice none 0 0, .int .i64 (x4')]) N3') ∧
      (x4' = 0 →
      Cn Try.prog 19 #[] N3' fun v5' N5' =>
       ∃ p6', asP v5' = some p6' ∧
       ∃ x7', N5'.intAt .i64 (2 * M.nb.size) 0 = some x7' ∧
       ∃ x8', N5'.intAt .i64 (2 * M.nb.size) (0 + 1) = some x8' ∧
       A10_1 p6' x7' x8' 0 N5' Q))) :
    Cn Try.prog 10 #[.agg #[.int .i64 x0_0, .int .i64 x0_1]] M Q := by
  refine Cn.of b10 d10 t10 ?_
  refine Rn.seq k10_0 (Rn.region k10_1 (fun call K => r10_0) (Rch.leaf (Rn.seq k10_2 (Rn.seq k10_3 (Rn.region k10_4 (fun call K => r10_1) (Rch.bind (x := ⟨2 * M.nb.size, 0, none⟩) rfl (Rch.ex H fun x1' H => Rch.ex H fun x2' H => Rch.call H fun v3' N3' H => Rch.ex H fun x4' H => Rch.leaf ?_)))))))
  refine Rn.seq k10_5 (Rn.region k10_6 (fun call K => r10_2) (Rch.leaf ?_))
  refine Rn.cnd (v := x4' != 0) ⟨c10_7, rfl, by kernel_rfl⟩ (fun h => ?_) (fun h => ?_)
  · replace H := H.1 (ne_of_bneT h)
    refine Rn.seq k10_8 (Rn.region k10_9 (fun call K => r10_3) (Rch.leaf ?_))
    exact Rn.ret k10_10 e10 H
  · replace H := H.2 (eq_of_bneF h)
    refine Rn.skip k10_12 (Rn.seq k10_13 (Rn.region k10_14 (fun call K => r10_4) (Rch.call H fun v5' N5' H => Rch.ex H fun p6' H => Rch.leaf (Rn.seq k10_15 (Rn.seq k10_16 (Rn.region k10_17 (fun call K => r10_5) (Rch.bind (x := ⟨2 * M.nb.size, 0, none⟩) rfl (Rch.ex H fun x7' H => Rch.bind (x := ⟨2 * M.nb.size, 0, none⟩) rfl ?_))))))))
    refine Rch.ex H fun x8' H => Rch.leaf (Rn.block k10_18 (Rn.loop k10_19 ?_))
    exact H _ _ _ _ _ _ _ _ _ _ _ _ _ _ _ _ _ _ _ _ _ _ _ _ _ _ _ _ _ _ _ _

theorem w10_1 {x5 : Option Addr} {x19_0 x19_1 x20 : Int} {M : Mem} {Q : Value → Mem → Prop} (H :
    ((x20 < 2 →
     ∃ v9', strV Try.prog 78 (.agg #[.int .i64 x19_0, .int .i64 x19_1]) (.int .i64 x20) = some v9' ∧
     ∃ x10', asI .i64 v9' = some x10' ∧
     Cn Try.prog 22 #[.pointer x5, .int .u32 (IntKind.u32.wrap ((IntKind.u32.wrap (IntKind.i64.wrap (x10' - 16))).tdiv 2)), .int .i64 7] M fun v11' N11' =>
      ∃ x12', asI .i64 v11' = some x12' ∧
      ((x12' ≠ 0 →
       Q (.tuple #[.slice none 0 0, .int .i64 (x12')]) N11') ∧
       (x12' = 0 →
       A10_1 x5 x19_0 x19_1 (IntKind.i64.wrap (x20 + 1)) N11' Q))) ∧
     (¬ (x20 < 2) →
     Cn Try.prog 28 #[.pointer x5] M fun v13' N13' =>
      ∃ s14', asS v13' = some s14' ∧
      Q (.tuple #[.slice s14'.1 (s14'.2.1) (s14'.2.2), .int .i64 0]) N13'))) :
    A10_1 x5 x19_0 x19_1 x20 M Q := by
  intro g0 g1 g2 g3 g4 g6 g7 g8 g9 g10 g11 g12 g13 g14 g15 g16 g17 g18 g21 g22 g23 g24 g25 g26 g27 g28 g29 g30 g31 g32 g33 g34
  refine Rn.seq k10_20 (Rn.region k10_21 (fun call K => r10_6) (Rch.leaf (Rn.seq k10_22 ?_)))
  refine Rn.cnd (v := decide (x20 < 2)) ⟨c10_23, rfl, by kernel_rfl⟩ (fun h => ?_) (fun h => ?_)
  · replace H := H.1 (of_decide_eq_true h)
    refine Rn.skip k10_24 (Rn.seq k10_25 (Rn.block k10_26 (Rn.seq k10_27 (Rn.region k10_28 (fun call K => r10_7) (Rch.ex H fun v9' H => Rch.ex H fun x10' H => Rch.leaf (Rn.seq k10_29 (Rn.region k10_30 (fun call K => r10_8) (Rch.call H fun v11' N11' H => Rch.ex H fun x12' H => ?_))))))))
    refine Rch.leaf (Rn.seq k10_31 (Rn.region k10_32 (fun call K => r10_9) (Rch.leaf ?_)))
    refine Rn.cnd (v := x12' != 0) ⟨c10_33, rfl, by kernel_rfl⟩ (fun h => ?_) (fun h => ?_)
    · replace H := H.1 (ne_of_bneT h)
      refine Rn.seq k10_34 (Rn.region k10_35 (fun call K => r10_10) (Rch.leaf ?_))
      exact Rn.ret k10_36 e10 H
    · replace H := H.2 (eq_of_bneF h)
      refine Rn.skip k10_37 (Rn.blk (Rn.region k10_38 (fun call K => r10_11) (Rch.leaf (Rn.lp ?_))))
      exact H _ _ _ _ _ _ _ _ _ _ _ _ _ _ _ _ _ _ _ _ _ _ _ _ _ _ _ _ _ _ _ _
  · replace H := H.2 (of_decide_eq_false h)
    refine Rn.exit k10_39 rfl (Rn.seq k10_40 (Rn.region k10_41 (fun call K => r10_12) (Rch.call H fun v13' N13' H => Rch.ex H fun s14' H => Rch.leaf ?_)))
    exact Rn.ret k10_42 e10 H


/-! ### zoetrope/zoetroperef20.SeqBytes: function 11 -/
noncomputable abbrev P11 (p : List Nat) : Code := subC (codeOf Try.f11) p
noncomputable abbrev O11 (p : List Nat) : Array Oper := opsOf (subC (codeOf Try.f11) p)
theorem b11 : Try.prog.funcs[11]? = some Try.f11 ∧ (Orc.tab Try.prog).lookup 11 = none := ⟨by kernel_rfl, by kernel_rfl⟩
theorem d11 : Try.f11.body = some (P11 []) := by kernel_rfl
theorem t11 {x0_0 x0_1 : Int} : #[.agg #[.int .i64 x0_0, .int .i64 x0_1]] ++ Array.replicate (Try.f11.ntmps - (#[.agg #[.int .i64 x0_0, .int .i64 x0_1]] : Array Value).size) undef = #[.agg #[.int .i64 x0_0, .int .i64 x0_1],undef,undef,undef,undef,undef,undef,undef,undef,undef,undef,undef,undef,undef,undef,undef,undef,undef,undef,undef,undef,undef,undef,undef,undef,undef,undef,undef,undef] := by kernel_rfl
theorem k11_0 : P11 [] = .seq (P11 [0]) (P11 [1]) := by kernel_rfl
theorem k11_1 : P11 [0] = .region 0 (O11 [0]) false := by kernel_rfl
theorem r11_0 {x0_0 x0_1 : Int} {M : Mem} {call : CallM} {K : Array Value → Mem → R} :
    opsK Try.prog (fun _ => call) (O11 [0]) (O11 [0]).toList 0 #[.agg #[.int .i64 x0_0, .int .i64 x0_1],g1,g2,g3,g4,g5,g6,g7,g8,g9,g10,g11,g12,g13,g14,g15,g16,g17,g18,g19,g20,g21,g22,g23,g24,g25,g26,g27,g28] M K = K #[.agg #[.int .i64 x0_0, .int .i64 x0_1],.pointer (some ⟨2 * M.nb.size, 0, none⟩),.slice none 0 0,.int .i64 0,g4,g5,g6,g7,g8,g9,g10,g11,g12,g13,g14,g15,g16,g17,g18,g19,g20,g21,g22,g23,g24,g25,g26,g27,g28] (M.new (.cells #[.int .i64 x0_0, .int .i64 x0_1] 23)) := by kernel_rfl
theorem k11_2 : P11 [1] = .seq (P11 [1,0]) (P11 [1,1]) := by kernel_rfl
theorem k11_3 : P11 [1,0] = .seq (P11 [1,0,0]) (P11 [1,0,1]) := by kernel_rfl
theorem k11_4 : P11 [1,0,0] = .region 1 (O11 [1,0,0]) false := by kernel_rfl
theorem r11_1 {x1 : Option Addr} {M : Mem} {call : CallM} {K : Array Value → Mem → R} :
    opsK Try.prog (fun _ => call) (O11 [1,0,0]) (O11 [1,0,0]).toList 0 #[g0,.pointer x1,g2,g3,g4,g5,g6,g7,g8,g9,g10,g11,g12,g13,g14,g15,g16,g17,g18,g19,g20,g21,g22,g23,g24,g25,g26,g27,g28] M K = (x1).bind fun a_1 => (M.intAt .i64 a_1.block a_1.off).bind fun x_2 => (M.intAt .i64 a_1.block (a_1.off + 1)).bind fun x_3 => (call 15 #[.agg #[.int .i64 x_2, .int .i64 x_3]] M).bind fun r_4 => (asI .i64 r_4.1).bind fun x_5 => K #[g0,.pointer x1,g2,g3,.int .i64 x_5,g5,.agg #[.int .i64 x_2, .int .i64 x_3],.int .i64 x_5,g8,g9,g10,g11,g12,g13,g14,g15,g16,g17,g18,g19,g20,g21,g22,g23,g24,g25,g26,g27,g28] r_4.2 := by kernel_rfl
theorem k11_5 : P11 [1,0,1] = .seq (P11 [1,0,1,0]) (P11 [1,0,1,1]) := by kernel_rfl
theorem k11_6 : P11 [1,0,1,0] = .region 2 (O11 [1,0,1,0]) false := by kernel_rfl
theorem r11_2 {x4 : Int} {M : Mem} {call : CallM} {K : Array Value → Mem → R} :
    opsK Try.prog (fun _ => call) (O11 [1,0,1,0]) (O11 [1,0,1,0]).toList 0 #[g0,g1,g2,g3,.int .i64 x4,g5,g6,g7,g8,g9,g10,g11,g12,g13,g14,g15,g16,g17,g18,g19,g20,g21,g22,g23,g24,g25,g26,g27,g28] M K = K #[g0,g1,g2,g3,.int .i64 x4,g5,g6,g7,.int .i64 x4,.bool (x4 != 0),g10,g11,g12,g13,g14,g15,g16,g17,g18,g19,g20,g21,g22,g23,g24,g25,g26,g27,g28] M := by kernel_rfl
theorem c11_7 : P11 [1,0,1,1] = .cond (.tmp 9) (P11 [1,0,1,1,0]) (P11 [1,0,1,1,1]) := by kernel_rfl
theorem k11_8 : P11 [1,0,1,1,0] = .seq (P11 [1,0,1,1,0,0]) (P11 [1,0,1,1,0,1]) := by kernel_rfl
theorem k11_9 : P11 [1,0,1,1,0,0] = .region 3 (O11 [1,0,1,1,0,0]) false := by kernel_rfl
theorem r11_3 {x4 : Int} {M : Mem} {call : CallM} {K : Array Value → Mem → R} :
    opsK Try.prog (fun _ => call) (O11 [1,0,1,1,0,0]) (O11 [1,0,1,1,0,0]).toList 0 #[g0,g1,g2,g3,.int .i64 x4,g5,g6,g7,g8,g9,g10,g11,g12,g13,g14,g15,g16,g17,g18,g19,g20,g21,g22,g23,g24,g25,g26,g27,g28] M K = K #[g0,g1,.slice none 0 0,.int .i64 x4,.int .i64 x4,g5,g6,g7,g8,g9,.int .i64 x4,g11,g12,g13,g14,g15,g16,g17,g18,g19,g20,g21,g22,g23,g24,g25,g26,g27,g28] M := by kernel_rfl
theorem k11_10 : P11 [1,0,1,1,0,1] = .ret := by kernel_rfl
theorem e11 {M : Mem} : finish Try.prog Try.f11 #[g0,g1,g2,g3,g4,g5,g6,g7,g8,g9,g10,g11,g12,g13,g14,g15,g16,g17,g18,g19,g20,g21,g22,g23,g24,g25,g26,g27,g28] M = some (.tuple #[g2, g3], M) := by kernel_rfl
theorem k11_12 : P11 [1,0,1,1,1] = .skip := by kernel_rfl
theorem k11_13 : P11 [1,1] = .seq (P11 [1,1,0]) (P11 [1,1,1]) := by kernel_rfl
theorem k11_14 : P11 [1,1,0] = .region 4 (O11 [1,1,0]) false := by kernel_rfl
theorem r11_4 {x1 : Option Addr} {M : Mem} {call : CallM} {K : Array Value → Mem → R} :
    opsK Try.prog (fun _ => call) (O11 [1,1,0]) (O11 [1,1,0]).toList 0 #[g0,.pointer x1,g2,g3,g4,g5,g6,g7,g8,g9,g10,g11,g12,g13,g14,g15,g16,g17,g18,g19,g20,g21,g22,g23,g24,g25,g26,g27,g28] M K = (x1).bind fun a_1 => (M.intAt .i64 a_1.block a_1.off).bind fun x_2 => (x1).bind fun a_3 => (M.intAt .i64 a_3.block (a_3.off + 1)).bind fun x_4 => K #[g0,.pointer x1,g2,g3,g4,.int .i64 (IntKind.i64.wrap ((IntKind.i64.wrap ((IntKind.i64.wrap ((IntKind.i64.wrap (x_2 - 16)).tdiv 2)) * 512)) + (IntKind.i64.wrap ((IntKind.i64.wrap ((IntKind.i64.wrap (x_4 - 16)).tdiv 2)) * 4)))),g6,g7,g8,g9,g10,.pointer (some ⟨a_1.block, a_1.off, none⟩),.int .i64 x_2,.int .i64 (IntKind.i64.wrap (x_2 - 16)),.int .i64 (IntKind.i64.wrap ((IntKind.i64.wrap (x_2 - 16)).tdiv 2)),.int .i64 (IntKind.i64.wrap ((IntKind.i64.wrap ((IntKind.i64.wrap (x_2 - 16)).tdiv 2)) * 512)),.pointer (some ⟨a_3.block, a_3.off + 1, none⟩),.int .i64 x_4,.int .i64 (IntKind.i64.wrap (x_4 - 16)),.int .i64 (IntKind.i64.wrap ((IntKind.i64.wrap (x_4 - 16)).tdiv 2)),.int .i64 (IntKind.i64.wrap ((IntKind.i64.wrap ((IntKind.i64.wrap (x_4 - 16)).tdiv 2)) * 4)),.int .i64 (IntKind.i64.wrap ((IntKind.i64.wrap ((IntKind.i64.wrap ((IntKind.i64.wrap (x_2 - 16)).tdiv 2)) * 512)) + (IntKind.i64.wrap ((IntKind.i64.wrap ((IntKind.i64.wrap (x_4 - 16)).tdiv 2)) * 4)))),g22,g23,g24,g25,g26,g27,g28] M := by kernel_rfl
theorem k11_15 : P11 [1,1,1] = .seq (P11 [1,1,1,0]) (P11 [1,1,1,1]) := by kernel_rfl
theorem k11_16 : P11 [1,1,1,0] = .region 5 (O11 [1,1,1,0]) false := by kernel_rfl
theorem r11_5 {x5 : Int} {M : Mem} {call : CallM} {K : Array Value → Mem → R} :
    opsK Try.prog (fun _ => call) (O11 [1,1,1,0]) (O11 [1,1,1,0]).toList 0 #[g0,g1,g2,g3,g4,.int .i64 x5,g6,g7,g8,g9,g10,g11,g12,g13,g14,g15,g16,g17,g18,g19,g20,g21,g22,g23,g24,g25,g26,g27,g28] M K = K #[g0,g1,.slice (some ⟨2 * M.nb.size, 0, none⟩) 2 2,.int .i64 0,g4,.int .i64 x5,g6,g7,g8,g9,g10,g11,g12,g13,g14,g15,g16,g17,g18,g19,g20,g21,.int .i64 x5,.int .i64 (IntKind.i64.wrap (x5.tdiv 256)),.int .u8 (IntKind.u8.wrap (IntKind.i64.wrap (x5.tdiv 256))),.int .i64 x5,.int .i64 (x5.tmod 256),.int .u8 (IntKind.u8.wrap (x5.tmod 256)),.slice (some ⟨2 * M.nb.size, 0, none⟩) 2 2] (M.new (.cells #[.int .u8 (IntKind.u8.wrap (IntKind.i64.wrap (x5.tdiv 256))), .int .u8 (IntKind.u8.wrap (x5.tmod 256))] 5)) := by kernel_rfl
theorem k11_17 : P11 [1,1,1,1] = .ret := by kernel_rfl
theorem w11_0 {x0_0 x0_1 : Int} {M : Mem} {Q : Value → Mem → Prop} (H :
    ∃ x1', (M.new (.cells #[.int .i64 x0_0, .int .i64 x0_1] 23)).intAt .i64 (2 * M.nb.size) 0 = some x1' ∧
    ∃ x2', (M.new (.cells #[.int .i64 x0_0, .int .i64 x0_1] 23)).intAt .i64 (2 * M.nb.size) (0 + 1) = some x2' ∧
    Cn Try.prog 15 #[.agg #[.int .i64 x1', .int .i64 x2']] (M.new (.cells #[.int .i64 x0_0, .int .i64 x0_1] 23)) fun v3' N3' =>
     ∃ x4', asI .i64 v3' = some x4' ∧
     ((x4' ≠ 0 →
      Q (.tuple #[.slice none 0 0, .int .i64 (x4')]) N3') ∧
      (x4' = 0 →
      ∃ x5', N3'.intAt .i64 (2 * M.nb.size) 0 = some x5' ∧
      ∃ x6', N3'.intAt .i64 (2 * M.nb.size) (0 + 1) = some x6' ∧
      Q (.tuple #[.slice (some ⟨2 * N3'.nb.size, 0, none⟩) 2 2, .int .i64 0]) (N3'.new (.cells #[.int .u8 (IntKind.u8.wrap (IntKind.i64.wrap ((IntKind.i64.wrap ((IntKind.i64.wrap ((IntKind.i64.wrap ((IntKind.i64.wrap (x5' - 16)).tdiv 2)) * 512)) + (IntKind.i64.wrap ((IntKind.i64.wrap ((IntKind.i64.wrap (x6' - 16)).tdiv 2)) * 4)))).tdiv 256))), .int .u8 (IntKind.u8.wrap ((IntKind.i64.wrap ((IntKind.i64.wrap ((IntKind.i64.wrap ((IntKind.i64.wrap (x5' - 16)).tdiv 2)) * 512)) + (IntKind.i64.wrap ((IntKind.i64.wrap ((IntKind.i64.wrap (x6' - 16)).tdiv 2)) * 4)))).tmod 256))] 5))))) :
    Cn Try.prog 11 #[.agg #[.int .i64 x0_0, .int .i64 x0_1]] M Q := by
  refine Cn.of b11 d11 t11 ?_
  refine Rn.seq k11_0 (Rn.region k11_1 (fun call K => r11_0) (Rch.leaf (Rn.seq k11_2 (Rn.seq k11_3 (Rn.region k11_4 (fun call K => r11_1) (Rch.bind (x := ⟨2 * M.nb.size, 0, none⟩) rfl (Rch.ex H fun x1' H => Rch.ex H fun x2' H => Rch.call H fun v3' N3' H => Rch.ex H fun x4' H => Rch.leaf ?_)))))))
  refine Rn.seq k11_5 (Rn.region k11_6 (fun call K => r11_2) (Rch.leaf ?_))
  refine Rn.cnd (v := x4' != 0) ⟨c11_7, rfl, by kernel_rfl⟩ (fun h => ?_) (fun h => ?_)
  · replace H := H.1 (ne_of_bneT h)
    refine Rn.seq k11_8 (Rn.region k11_9 (fun call K => r11_3) (Rch.leaf ?_))
    exact Rn.ret k11_10 e11 H
  · replace H := H.2 (eq_of_bneF h)
    refine Rn.skip k11_12 (Rn.seq k11_13 (Rn.region k11_14 (fun call K => r11_4) (Rch.bind (x := ⟨2 * M.nb.size, 0, none⟩) rfl (Rch.ex H fun x5' H => Rch.bind (x := ⟨2 * M.nb.size, 0, none⟩) rfl (Rch.ex H fun x6' H => Rch.leaf (Rn.seq k11_15 (Rn.region k11_16 (fun call K => r11_5) (Rch.leaf ?_))))))))
    exact Rn.ret k11_17 e11 H


/-! ### zoetrope/heads.ReadSeq: function 12 -/
noncomputable abbrev P12 (p : List Nat) : Code := subC (codeOf Try.f12) p
noncomputable abbrev O12 (p : List Nat) : Array Oper := opsOf (subC (codeOf Try.f12) p)
theorem b12 : Try.prog.funcs[12]? = some Try.f12 ∧ (Orc.tab Try.prog).lookup 12 = none := ⟨by kernel_rfl, by kernel_rfl⟩
theorem d12 : Try.f12.body = some (P12 []) := by kernel_rfl
theorem t12 {Ax0 : Option Addr} {lx0 cx0 : Nat} : #[.slice Ax0 lx0 cx0] ++ Array.replicate (Try.f12.ntmps - (#[.slice Ax0 lx0 cx0] : Array Value).size) undef = #[.slice Ax0 lx0 cx0,undef,undef,undef,undef,undef,undef,undef,undef,undef,undef,undef,undef,undef,undef,undef,undef,undef,undef,undef,undef,undef,undef,undef,undef,undef,undef,undef,undef,undef,undef,undef,undef,undef,undef,undef,undef,undef,undef,undef,undef,undef,undef,undef,undef,undef,undef,undef,undef,undef,undef,undef,undef,undef,undef,undef,undef,undef,undef,undef,undef] := by kernel_rfl
theorem k12_0 : P12 [] = .seq (P12 [0]) (P12 [1]) := by kernel_rfl
theorem k12_1 : P12 [0] = .region 0 (O12 [0]) false := by kernel_rfl
theorem r12_0 {M : Mem} {call : CallM} {K : Array Value → Mem → R} :
    opsK Try.prog (fun _ => call) (O12 [0]) (O12 [0]).toList 0 #[g0,g1,g2,g3,g4,g5,g6,g7,g8,g9,g10,g11,g12,g13,g14,g15,g16,g17,g18,g19,g20,g21,g22,g23,g24,g25,g26,g27,g28,g29,g30,g31,g32,g33,g34,g35,g36,g37,g38,g39,g40,g41,g42,g43,g44,g45,g46,g47,g48,g49,g50,g51,g52,g53,g54,g55,g56,g57,g58,g59,g60] M K = K #[g0,g1,.pointer (some ⟨2 * M.nb.size, 0, none⟩),.int .i64 0,g4,g5,g6,g7,g8,g9,g10,g11,g12,g13,g14,g15,g16,g17,g18,g19,g20,g21,g22,g23,g24,g25,g26,g27,g28,g29,g30,g31,g32,g33,g34,g35,g36,g37,g38,g39,g40,g41,g42,g43,g44,g45,g46,g47,g48,g49,g50,g51,g52,g53,g54,g55,g56,g57,g58,g59,g60] (M.new (.cells #[.int .i64 0, .int .i64 0] 23)) := by kernel_rfl
theorem k12_2 : P12 [1] = .seq (P12 [1,0]) (P12 [1,1]) := by kernel_rfl
theorem k12_3 : P12 [1,0] = .region 1 (O12 [1,0]) false := by kernel_rfl
theorem r12_1 {Ax0 : Option Addr} {lx0 cx0 : Nat} {M : Mem} {call : CallM} {K : Array Value → Mem → R} :
    opsK Try.prog (fun _ => call) (O12 [1,0]) (O12 [1,0]).toList 0 #[.slice Ax0 lx0 cx0,g1,g2,g3,g4,g5,g6,g7,g8,g9,g10,g11,g12,g13,g14,g15,g16,g17,g18,g19,g20,g21,g22,g23,g24,g25,g26,g27,g28,g29,g30,g31,g32,g33,g34,g35,g36,g37,g38,g39,g40,g41,g42,g43,g44,g45,g46,g47,g48,g49,g50,g51,g52,g53,g54,g55,g56,g57,g58,g59,g60] M K = (call 31 #[.slice Ax0 lx0 cx0] M).bind fun r_1 => (asP r_1.1).bind fun p_2 => K #[.slice Ax0 lx0 cx0,g1,g2,g3,.pointer p_2,g5,g6,g7,g8,g9,.slice Ax0 lx0 cx0,.pointer p_2,g12,g13,g14,g15,g16,g17,g18,g19,g20,g21,g22,g23,g24,g25,g26,g27,g28,g29,g30,g31,g32,g33,g34,g35,g36,g37,g38,g39,g40,g41,g42,g43,g44,g45,g46,g47,g48,g49,g50,g51,g52,g53,g54,g55,g56,g57,g58,g59,g60] r_1.2 := by kernel_rfl
theorem k12_4 : P12 [1,1] = .seq (P12 [1,1,0]) (P12 [1,1,1]) := by kernel_rfl
theorem k12_5 : P12 [1,1,0] = .region 2 (O12 [1,1,0]) false := by kernel_rfl
theorem r12_2 {M : Mem} {call : CallM} {K : Array Value → Mem → R} :
    opsK Try.prog (fun _ => call) (O12 [1,1,0]) (O12 [1,1,0]).toList 0 #[g0,g1,g2,g3,g4,g5,g6,g7,g8,g9,g10,g11,g12,g13,g14,g15,g16,g17,g18,g19,g20,g21,g22,g23,g24,g25,g26,g27,g28,g29,g30,g31,g32,g33,g34,g35,g36,g37,g38,g39,g40,g41,g42,g43,g44,g45,g46,g47,g48,g49,g50,g51,g52,g53,g54,g55,g56,g57,g58,g59,g60] M K = K #[g0,g1,g2,g3,g4,.pointer (some ⟨2 * M.nb.size, 0, none⟩),g6,g7,g8,g9,g10,g11,g12,g13,g14,g15,g16,g17,g18,g19,g20,g21,g22,g23,g24,g25,g26,g27,g28,g29,g30,g31,g32,g33,g34,g35,g36,g37,g38,g39,g40,g41,g42,g43,g44,g45,g46,g47,g48,g49,g50,g51,g52,g53,g54,g55,g56,g57,g58,g59,g60] (M.new (.cells #[.int .i64 0, .int .i64 0] 78)) := by kernel_rfl
theorem k12_6 : P12 [1,1,1] = .seq (P12 [1,1,1,0]) (P12 [1,1,1,1]) := by kernel_rfl
theorem k12_7 : P12 [1,1,1,0] = .seq (P12 [1,1,1,0,0]) (P12 [1,1,1,0,1]) := by kernel_rfl
theorem k12_8 : P12 [1,1,1,0,0] = .region 3 (O12 [1,1,1,0,0]) false := by kernel_rfl
theorem r12_3 {x4 : Option Addr} {M : Mem} {call : CallM} {K : Array Value → Mem → R} :
    opsK Try.prog (fun _ => call) (O12 [1,1,1,0,0]) (O12 [1,1,1,0,0]).toList 0 #[g0,g1,g2,g3,.pointer x4,g5,g6,g7,g8,g9,g10,g11,g12,g13,g14,g15,g16,g17,g18,g19,g20,g21,g22,g23,g24,g25,g26,g27,g28,g29,g30,g31,g32,g33,g34,g35,g36,g37,g38,g39,g40,g41,g42,g43,g44,g45,g46,g47,g48,g49,g50,g51,g52,g53,g54,g55,g56,g57,g58,g59,g60] M K = (call 37 #[.pointer x4] M).bind fun r_1 => (asI .i64 r_1.1).bind fun x_2 => K #[g0,g1,g2,g3,.pointer x4,g5,g6,g7,g8,g9,g10,g11,.pointer x4,.int .i64 x_2,.bool (decide (x_2 < 16)),g15,g16,g17,g18,g19,g20,g21,g22,g23,g24,g25,g26,g27,g28,g29,g30,g31,g32,g33,g34,g35,g36,g37,g38,g39,g40,g41,g42,g43,g44,g45,g46,g47,g48,g49,g50,g51,g52,g53,g54,g55,g56,g57,g58,g59,g60] r_1.2 := by kernel_rfl
theorem c12_9 : P12 [1,1,1,0,1] = .cond (.tmp 14) (P12 [1,1,1,0,1,0]) (P12 [1,1,1,0,1,1]) := by kernel_rfl
theorem k12_10 : P12 [1,1,1,0,1,0] = .seq (P12 [1,1,1,0,1,0,0]) (P12 [1,1,1,0,1,0,1]) := by kernel_rfl
theorem k12_11 : P12 [1,1,1,0,1,0,0] = .region 4 (O12 [1,1,1,0,1,0,0]) false := by kernel_rfl
theorem r12_4 {x2 : Option Addr} {M : Mem} {call : CallM} {K : Array Value → Mem → R} :
    opsK Try.prog (fun _ => call) (O12 [1,1,1,0,1,0,0]) (O12 [1,1,1,0,1,0,0]).toList 0 #[g0,g1,.pointer x2,g3,g4,g5,g6,g7,g8,g9,g10,g11,g12,g13,g14,g15,g16,g17,g18,g19,g20,g21,g22,g23,g24,g25,g26,g27,g28,g29,g30,g31,g32,g33,g34,g35,g36,g37,g38,g39,g40,g41,g42,g43,g44,g45,g46,g47,g48,g49,g50,g51,g52,g53,g54,g55,g56,g57,g58,g59,g60] M K = (x2).bind fun a_1 => (M.put a_1.block a_1.off (.int .i64 0)).bind fun M_2 => (M_2.put a_1.block (a_1.off + 1) (.int .i64 0)).bind fun M_3 => K #[g0,g1,.pointer x2,.int .i64 3,g4,g5,g6,g7,g8,g9,g10,g11,g12,g13,g14,.agg #[.int .i64 0, .int .i64 0],g16,g17,g18,g19,g20,g21,g22,g23,g24,g25,g26,g27,g28,g29,g30,g31,g32,g33,g34,g35,g36,g37,g38,g39,g40,g41,g42,g43,g44,g45,g46,g47,g48,g49,g50,g51,g52,g53,g54,g55,g56,g57,g58,g59,g60] M_3 := by kernel_rfl
theorem k12_12 : P12 [1,1,1,0,1,0,1] = .ret := by kernel_rfl
theorem e12_0 {x2 : Option Addr} {x3 : Int} {M : Mem} {K : List Value → R} : resK Try.prog #[g0,g1,.pointer x2,.int .i64 x3,g4,g5,g6,g7,g8,g9,g10,g11,g12,g13,g14,g15,g16,g17,g18,g19,g20,g21,g22,g23,g24,g25,g26,g27,g28,g29,g30,g31,g32,g33,g34,g35,g36,g37,g38,g39,g40,g41,g42,g43,g44,g45,g46,g47,g48,g49,g50,g51,g52,g53,g54,g55,g56,g57,g58,g59,g60] M (Try.f12).results.toList K = (x2).bind fun a_1 => (M.intAt .i64 a_1.block a_1.off).bind fun x_2 => (M.intAt .i64 a_1.block (a_1.off + 1)).bind fun x_3 => K [.agg #[.int .i64 x_2, .int .i64 x_3], .int .i64 x3] := by kernel_rfl
theorem k12_14 : P12 [1,1,1,0,1,1] = .skip := by kernel_rfl
theorem k12_15 : P12 [1,1,1,1] = .seq (P12 [1,1,1,1,0]) (P12 [1,1,1,1,1]) := by kernel_rfl
theorem k12_16 : P12 [1,1,1,1,0] = .seq (P12 [1,1,1,1,0,0]) (P12 [1,1,1,1,0,1]) := by kernel_rfl
theorem k12_17 : P12 [1,1,1,1,0,0] = .region 5 (O12 [1,1,1,1,0,0]) false := by kernel_rfl
theorem r12_5 {M : Mem} {call : CallM} {K : Array Value → Mem → R} :
    opsK Try.prog (fun _ => call) (O12 [1,1,1,1,0,0]) (O12 [1,1,1,1,0,0]).toList 0 #[g0,g1,g2,g3,g4,g5,g6,g7,g8,g9,g10,g11,g12,g13,g14,g15,g16,g17,g18,g19,g20,g21,g22,g23,g24,g25,g26,g27,g28,g29,g30,g31,g32,g33,g34,g35,g36,g37,g38,g39,g40,g41,g42,g43,g44,g45,g46,g47,g48,g49,g50,g51,g52,g53,g54,g55,g56,g57,g58,g59,g60] M K = K #[g0,g1,g2,g3,g4,g5,g6,g7,g8,g9,g10,g11,g12,g13,g14,g15,.int .i64 0,g17,g18,g19,g20,g21,g22,g23,g24,g25,g26,g27,g28,g29,g30,g31,g32,g33,g34,g35,g36,g37,g38,g39,g40,g41,g42,g43,g44,g45,g46,g47,g48,g49,g50,g51,g52,g53,g54,g55,g56,g57,g58,g59,g60] M := by kernel_rfl
theorem k12_18 : P12 [1,1,1,1,0,1] = .block 0 (P12 [1,1,1,1,0,1,0]) := by kernel_rfl
theorem k12_19 : P12 [1,1,1,1,0,1,0] = .loop (P12 [1,1,1,1,0,1,0,0]) := by kernel_rfl
theorem k12_20 : P12 [1,1,1,1,0,1,0,0] = .seq (P12 [1,1,1,1,0,1,0,0,0]) (P12 [1,1,1,1,0,1,0,0,1]) := by kernel_rfl
theorem k12_21 : P12 [1,1,1,1,0,1,0,0,0] = .region 6 (O12 [1,1,1,1,0,1,0,0,0]) false := by kernel_rfl
theorem r12_6 {x16 : Int} {M : Mem} {call : CallM} {K : Array Value → Mem → R} :
    opsK Try.prog (fun _ => call) (O12 [1,1,1,1,0,1,0,0,0]) (O12 [1,1,1,1,0,1,0,0,0]).toList 0 #[g0,g1,g2,g3,g4,g5,g6,g7,g8,g9,g10,g11,g12,g13,g14,g15,.int .i64 x16,g17,g18,g19,g20,g21,g22,g23,g24,g25,g26,g27,g28,g29,g30,g31,g32,g33,g34,g35,g36,g37,g38,g39,g40,g41,g42,g43,g44,g45,g46,g47,g48,g49,g50,g51,g52,g53,g54,g55,g56,g57,g58,g59,g60] M K = K #[g0,g1,g2,g3,g4,g5,g6,g7,g8,g9,g10,g11,g12,g13,g14,g15,.int .i64 x16,.bool (decide (x16 < 2)),g18,g19,g20,g21,g22,g23,g24,g25,g26,g27,g28,g29,g30,g31,g32,g33,g34,g35,g36,g37,g38,g39,g40,g41,g42,g43,g44,g45,g46,g47,g48,g49,g50,g51,g52,g53,g54,g55,g56,g57,g58,g59,g60] M := by kernel_rfl
theorem k12_22 : P12 [1,1,1,1,0,1,0,0,1] = .seq (P12 [1,1,1,1,0,1,0,0,1,0]) (P12 [1,1,1,1,0,1,0,0,1,1]) := by kernel_rfl
theorem c12_23 : P12 [1,1,1,1,0,1,0,0,1,0] = .cond (.tmp 17) (P12 [1,1,1,1,0,1,0,0,1,0,0]) (P12 [1,1,1,1,0,1,0,0,1,0,1]) := by kernel_rfl
theorem k12_24 : P12 [1,1,1,1,0,1,0,0,1,0,0] = .skip := by kernel_rfl
theorem k12_25 : P12 [1,1,1,1,0,1,0,0,1,1] = .seq (P12 [1,1,1,1,0,1,0,0,1,1,0]) (P12 [1,1,1,1,0,1,0,0,1,1,1]) := by kernel_rfl
theorem k12_26 : P12 [1,1,1,1,0,1,0,0,1,1,0] = .block 1 (P12 [1,1,1,1,0,1,0,0,1,1,0,0]) := by kernel_rfl
theorem k12_27 : P12 [1,1,1,1,0,1,0,0,1,1,0,0] = .seq (P12 [1,1,1,1,0,1,0,0,1,1,0,0,0]) (P12 [1,1,1,1,0,1,0,0,1,1,0,0,1]) := by kernel_rfl
theorem k12_28 : P12 [1,1,1,1,0,1,0,0,1,1,0,0,0] = .region 7 (O12 [1,1,1,1,0,1,0,0,1,1,0,0,0]) false := by kernel_rfl
theorem r12_7 {x16 : Int} {M : Mem} {call : CallM} {K : Array Value → Mem → R} :
    opsK Try.prog (fun _ => call) (O12 [1,1,1,1,0,1,0,0,1,1,0,0,0]) (O12 [1,1,1,1,0,1,0,0,1,1,0,0,0]).toList 0 #[g0,g1,g2,g3,g4,g5,g6,g7,g8,g9,g10,g11,g12,g13,g14,g15,.int .i64 x16,g17,g18,g19,g20,g21,g22,g23,g24,g25,g26,g27,g28,g29,g30,g31,g32,g33,g34,g35,g36,g37,g38,g39,g40,g41,g42,g43,g44,g45,g46,g47,g48,g49,g50,g51,g52,g53,g54,g55,g56,g57,g58,g59,g60] M K = K #[g0,g1,g2,g3,g4,g5,.int .i64 x16,g7,g8,g9,g10,g11,g12,g13,g14,g15,.int .i64 x16,g17,.int .i64 x16,g19,g20,g21,g22,g23,g24,g25,g26,g27,g28,g29,g30,g31,g32,g33,g34,g35,g36,g37,g38,g39,g40,g41,g42,g43,g44,g45,g46,g47,g48,g49,g50,g51,g52,g53,g54,g55,g56,g57,g58,g59,g60] M := by kernel_rfl
theorem k12_29 : P12 [1,1,1,1,0,1,0,0,1,1,0,0,1] = .seq (P12 [1,1,1,1,0,1,0,0,1,1,0,0,1,0]) (P12 [1,1,1,1,0,1,0,0,1,1,0,0,1,1]) := by kernel_rfl
theorem k12_30 : P12 [1,1,1,1,0,1,0,0,1,1,0,0,1,0] = .region 8 (O12 [1,1,1,1,0,1,0,0,1,1,0,0,1,0]) false := by kernel_rfl
theorem r12_8 {x4 : Option Addr} {M : Mem} {call : CallM} {K : Array Value → Mem → R} :
    opsK Try.prog (fun _ => call) (O12 [1,1,1,1,0,1,0,0,1,1,0,0,1,0]) (O12 [1,1,1,1,0,1,0,0,1,1,0,0,1,0]).toList 0 #[g0,g1,g2,g3,.pointer x4,g5,g6,g7,g8,g9,g10,g11,g12,g13,g14,g15,g16,g17,g18,g19,g20,g21,g22,g23,g24,g25,g26,g27,g28,g29,g30,g31,g32,g33,g34,g35,g36,g37,g38,g39,g40,g41,g42,g43,g44,g45,g46,g47,g48,g49,g50,g51,g52,g53,g54,g55,g56,g57,g58,g59,g60] M K = (call 33 #[.pointer x4, .int .i64 7] M).bind fun r_1 => (asU 2 r_1.1).bind fun cs_2 => (asI .u32 (cs_2.getD 0 undef)).bind fun x_3 => (asI .i64 (cs_2.getD 1 undef)).bind fun x_4 => K #[g0,g1,g2,g3,.pointer x4,g5,g6,.int .u32 x_3,.int .i64 x_4,g9,g10,g11,g12,g13,g14,g15,g16,g17,g18,.tuple #[.int .u32 x_3, .int .i64 x_4],.pointer x4,.tuple #[.int .u32 x_3, .int .i64 x_4],.int .u32 x_3,.int .i64 x_4,g24,g25,g26,g27,g28,g29,g30,g31,g32,g33,g34,g35,g36,g37,g38,g39,g40,g41,g42,g43,g44,g45,g46,g47,g48,g49,g50,g51,g52,g53,g54,g55,g56,g57,g58,g59,g60] r_1.2 := by kernel_rfl
theorem k12_31 : P12 [1,1,1,1,0,1,0,0,1,1,0,0,1,1] = .seq (P12 [1,1,1,1,0,1,0,0,1,1,0,0,1,1,0]) (P12 [1,1,1,1,0,1,0,0,1,1,0,0,1,1,1]) := by kernel_rfl
theorem k12_32 : P12 [1,1,1,1,0,1,0,0,1,1,0,0,1,1,0] = .seq (P12 [1,1,1,1,0,1,0,0,1,1,0,0,1,1,0,0]) (P12 [1,1,1,1,0,1,0,0,1,1,0,0,1,1,0,1]) := by kernel_rfl
theorem k12_33 : P12 [1,1,1,1,0,1,0,0,1,1,0,0,1,1,0,0] = .region 9 (O12 [1,1,1,1,0,1,0,0,1,1,0,0,1,1,0,0]) false := by kernel_rfl
theorem r12_9 {x8 : Int} {M : Mem} {call : CallM} {K : Array Value → Mem → R} :
    opsK Try.prog (fun _ => call) (O12 [1,1,1,1,0,1,0,0,1,1,0,0,1,1,0,0]) (O12 [1,1,1,1,0,1,0,0,1,1,0,0,1,1,0,0]).toList 0 #[g0,g1,g2,g3,g4,g5,g6,g7,.int .i64 x8,g9,g10,g11,g12,g13,g14,g15,g16,g17,g18,g19,g20,g21,g22,g23,g24,g25,g26,g27,g28,g29,g30,g31,g32,g33,g34,g35,g36,g37,g38,g39,g40,g41,g42,g43,g44,g45,g46,g47,g48,g49,g50,g51,g52,g53,g54,g55,g56,g57,g58,g59,g60] M K = K #[g0,g1,g2,g3,g4,g5,g6,g7,.int .i64 x8,g9,g10,g11,g12,g13,g14,g15,g16,g17,g18,g19,g20,g21,g22,g23,.int .i64 x8,.bool (x8 != 0),g26,g27,g28,g29,g30,g31,g32,g33,g34,g35,g36,g37,g38,g39,g40,g41,g42,g43,g44,g45,g46,g47,g48,g49,g50,g51,g52,g53,g54,g55,g56,g57,g58,g59,g60] M := by kernel_rfl
theorem c12_34 : P12 [1,1,1,1,0,1,0,0,1,1,0,0,1,1,0,1] = .cond (.tmp 25) (P12 [1,1,1,1,0,1,0,0,1,1,0,0,1,1,0,1,0]) (P12 [1,1,1,1,0,1,0,0,1,1,0,0,1,1,0,1,1]) := by kernel_rfl
theorem k12_35 : P12 [1,1,1,1,0,1,0,0,1,1,0,0,1,1,0,1,0] = .seq (P12 [1,1,1,1,0,1,0,0,1,1,0,0,1,1,0,1,0,0]) (P12 [1,1,1,1,0,1,0,0,1,1,0,0,1,1,0,1,0,1]) := by kernel_rfl
theorem k12_36 : P12 [1,1,1,1,0,1,0,0,1,1,0,0,1,1,0,1,0,0] = .region 10 (O12 [1,1,1,1,0,1,0,0,1,1,0,0,1,1,0,1,0,0]) false := by kernel_rfl
theorem r12_10 {x2 : Option Addr} {x8 : Int} {M : Mem} {call : CallM} {K : Array Value → Mem → R} :
    opsK Try.prog (fun _ => call) (O12 [1,1,1,1,0,1,0,0,1,1,0,0,1,1,0,1,0,0]) (O12 [1,1,1,1,0,1,0,0,1,1,0,0,1,1,0,1,0,0]).toList 0 #[g0,g1,.pointer x2,g3,g4,g5,g6,g7,.int .i64 x8,g9,g10,g11,g12,g13,g14,g15,g16,g17,g18,g19,g20,g21,g22,g23,g24,g25,g26,g27,g28,g29,g30,g31,g32,g33,g34,g35,g36,g37,g38,g39,g40,g41,g42,g43,g44,g45,g46,g47,g48,g49,g50,g51,g52,g53,g54,g55,g56,g57,g58,g59,g60] M K = (x2).bind fun a_1 => (M.put a_1.block a_1.off (.int .i64 0)).bind fun M_2 => (M_2.put a_1.block (a_1.off + 1) (.int .i64 0)).bind fun M_3 => K #[g0,g1,.pointer x2,.int .i64 x8,g4,g5,g6,g7,.int .i64 x8,g9,g10,g11,g12,g13,g14,g15,g16,g17,g18,g19,g20,g21,g22,g23,g24,g25,.agg #[.int .i64 0, .int .i64 0],.int .i64 x8,g28,g29,g30,g31,g32,g33,g34,g35,g36,g37,g38,g39,g40,g41,g42,g43,g44,g45,g46,g47,g48,g49,g50,g51,g52,g53,g54,g55,g56,g57,g58,g59,g60] M_3 := by kernel_rfl
theorem k12_37 : P12 [1,1,1,1,0,1,0,0,1,1,0,0,1,1,0,1,0,1] = .ret := by kernel_rfl
theorem k12_38 : P12 [1,1,1,1,0,1,0,0,1,1,0,0,1,1,0,1,1] = .skip := by kernel_rfl
theorem k12_39 : P12 [1,1,1,1,0,1,0,0,1,1,0,0,1,1,1] = .region 11 (O12 [1,1,1,1,0,1,0,0,1,1,0,0,1,1,1]) false := by kernel_rfl
theorem r12_11 {x5 : Option Addr} {x6 x7 : Int} {M : Mem} {call : CallM} {K : Array Value → Mem → R} :
    opsK Try.prog (fun _ => call) (O12 [1,1,1,1,0,1,0,0,1,1,0,0,1,1,1]) (O12 [1,1,1,1,0,1,0,0,1,1,0,0,1,1,1]).toList 0 #[g0,g1,g2,g3,g4,.pointer x5,.int .i64 x6,.int .u32 x7,g8,g9,g10,g11,g12,g13,g14,g15,g16,g17,g18,g19,g20,g21,g22,g23,g24,g25,g26,g27,g28,g29,g30,g31,g32,g33,g34,g35,g36,g37,g38,g39,g40,g41,g42,g43,g44,g45,g46,g47,g48,g49,g50,g51,g52,g53,g54,g55,g56,g57,g58,g59,g60] M K = (idxA x5 2 1 x6).bind fun a_1 => (M.put a_1.block a_1.off (.int .i64 (IntKind.i64.wrap (16 + (IntKind.i64.wrap (2 * (IntKind.i64.wrap (x7)))))))).bind fun M_2 => K #[g0,g1,g2,g3,g4,.pointer x5,.int .i64 x6,.int .u32 x7,g8,g9,g10,g11,g12,g13,g14,g15,g16,g17,g18,g19,g20,g21,g22,g23,g24,g25,g26,g27,.int .i64 x6,.int .u32 x7,.int .i64 (IntKind.i64.wrap (x7)),.int .i64 (IntKind.i64.wrap (2 * (IntKind.i64.wrap (x7)))),.int .i64 (IntKind.i64.wrap (16 + (IntKind.i64.wrap (2 * (IntKind.i64.wrap (x7)))))),.pointer (some a_1),g34,g35,g36,g37,g38,g39,g40,g41,g42,g43,g44,g45,g46,g47,g48,g49,g50,g51,g52,g53,g54,g55,g56,g57,g58,g59,g60] M_2 := by kernel_rfl
theorem k12_40 : P12 [1,1,1,1,0,1,0,0,1,1,1] = .region 12 (O12 [1,1,1,1,0,1,0,0,1,1,1]) false := by kernel_rfl
theorem r12_12 {x16 : Int} {M : Mem} {call : CallM} {K : Array Value → Mem → R} :
    opsK Try.prog (fun _ => call) (O12 [1,1,1,1,0,1,0,0,1,1,1]) (O12 [1,1,1,1,0,1,0,0,1,1,1]).toList 0 #[g0,g1,g2,g3,g4,g5,g6,g7,g8,g9,g10,g11,g12,g13,g14,g15,.int .i64 x16,g17,g18,g19,g20,g21,g22,g23,g24,g25,g26,g27,g28,g29,g30,g31,g32,g33,g34,g35,g36,g37,g38,g39,g40,g41,g42,g43,g44,g45,g46,g47,g48,g49,g50,g51,g52,g53,g54,g55,g56,g57,g58,g59,g60] M K = K #[g0,g1,g2,g3,g4,g5,g6,g7,g8,g9,g10,g11,g12,g13,g14,g15,.int .i64 (IntKind.i64.wrap (x16 + 1)),g17,g18,g19,g20,g21,g22,g23,g24,g25,g26,g27,g28,g29,g30,g31,g32,g33,.int .i64 (IntKind.i64.wrap (x16 + 1)),g35,g36,g37,g38,g39,g40,g41,g42,g43,g44,g45,g46,g47,g48,g49,g50,g51,g52,g53,g54,g55,g56,g57,g58,g59,g60] M := by kernel_rfl
theorem k12_41 : P12 [1,1,1,1,0,1,0,0,1,0,1] = .exit 0 := by kernel_rfl
theorem k12_42 : P12 [1,1,1,1,1] = .seq (P12 [1,1,1,1,1,0]) (P12 [1,1,1,1,1,1]) := by kernel_rfl
theorem k12_43 : P12 [1,1,1,1,1,0] = .region 13 (O12 [1,1,1,1,1,0]) false := by kernel_rfl
theorem r12_13 {x5 : Option Addr} {M : Mem} {call : CallM} {K : Array Value → Mem → R} :
    opsK Try.prog (fun _ => call) (O12 [1,1,1,1,1,0]) (O12 [1,1,1,1,1,0]).toList 0 #[g0,g1,g2,g3,g4,.pointer x5,g6,g7,g8,g9,g10,g11,g12,g13,g14,g15,g16,g17,g18,g19,g20,g21,g22,g23,g24,g25,g26,g27,g28,g29,g30,g31,g32,g33,g34,g35,g36,g37,g38,g39,g40,g41,g42,g43,g44,g45,g46,g47,g48,g49,g50,g51,g52,g53,g54,g55,g56,g57,g58,g59,g60] M K = (idxA x5 2 1 0).bind fun a_1 => (M.intAt .i64 a_1.block a_1.off).bind fun x_2 => (idxA x5 2 1 1).bind fun a_3 => (M.intAt .i64 a_3.block a_3.off).bind fun x_4 => ((M.new (.cells #[.int .i64 0, .int .i64 0] 23)).put (2 * M.nb.size) 0 (.int .i64 x_2)).bind fun M_5 => (M_5.put (2 * M.nb.size) 1 (.int .i64 x_4)).bind fun M_6 => K #[g0,g1,g2,g3,g4,.pointer x5,g6,g7,g8,.pointer (some ⟨2 * M.nb.size, 0, none⟩),g10,g11,g12,g13,g14,g15,g16,g17,g18,g19,g20,g21,g22,g23,g24,g25,g26,g27,g28,g29,g30,g31,g32,g33,g34,.pointer (some a_1),.int .i64 x_2,.pointer (some a_3),.int .i64 x_4,.agg #[.int .i64 x_2, .int .i64 x_4],g40,g41,g42,g43,g44,g45,g46,g47,g48,g49,g50,g51,g52,g53,g54,g55,g56,g57,g58,g59,g60] M_6 := by kernel_rfl
theorem k12_44 : P12 [1,1,1,1,1,1] = .seq (P12 [1,1,1,1,1,1,0]) (P12 [1,1,1,1,1,1,1]) := by kernel_rfl
theorem k12_45 : P12 [1,1,1,1,1,1,0] = .block 2 (P12 [1,1,1,1,1,1,0,0]) := by kernel_rfl
theorem k12_46 : P12 [1,1,1,1,1,1,0,0] = .seq (P12 [1,1,1,1,1,1,0,0,0]) (P12 [1,1,1,1,1,1,0,0,1]) := by kernel_rfl
theorem k12_47 : P12 [1,1,1,1,1,1,0,0,0] = .region 14 (O12 [1,1,1,1,1,1,0,0,0]) false := by kernel_rfl
theorem r12_14 {x9 : Option Addr} {M : Mem} {call : CallM} {K : Array Value → Mem → R} :
    opsK Try.prog (fun _ => call) (O12 [1,1,1,1,1,1,0,0,0]) (O12 [1,1,1,1,1,1,0,0,0]).toList 0 #[g0,g1,g2,g3,g4,g5,g6,g7,g8,.pointer x9,g10,g11,g12,g13,g14,g15,g16,g17,g18,g19,g20,g21,g22,g23,g24,g25,g26,g27,g28,g29,g30,g31,g32,g33,g34,g35,g36,g37,g38,g39,g40,g41,g42,g43,g44,g45,g46,g47,g48,g49,g50,g51,g52,g53,g54,g55,g56,g57,g58,g59,g60] M K = withK (fun w40 w41 w42 w43 w44 w45 w46 w47 w48 M => K #[g0,g1,g2,g3,g4,g5,g6,g7,g8,.pointer x9,g10,g11,g12,g13,g14,g15,g16,g17,g18,g19,g20,g21,g22,g23,g24,g25,g26,g27,g28,g29,g30,g31,g32,g33,g34,g35,g36,g37,g38,g39,w40,w41,w42,w43,w44,w45,w46,w47,w48,g49,g50,g51,g52,g53,g54,g55,g56,g57,g58,g59,g60] M) fun k => (x9).bind fun a_1 => (M.intAt .i64 a_1.block a_1.off).bind fun x_2 => cond (decide (x_2 > 256)) (k (.bool true) (.pointer (some ⟨a_1.block, a_1.off, none⟩)) (.int .i64 x_2) (.bool (decide (x_2 > 256))) (.bool true) undef undef undef (.bool true) M) ((x9).bind fun a_3 => (M.intAt .i64 a_3.block (a_3.off + 1)).bind fun x_4 => k (.bool (decide (x_4 > 256))) (.pointer (some ⟨a_1.block, a_1.off, none⟩)) (.int .i64 x_2) (.bool (decide (x_2 > 256))) (.bool false) (.pointer (some ⟨a_3.block, a_3.off + 1, none⟩)) (.int .i64 x_4) (.bool (decide (x_4 > 256))) (.bool (decide (x_4 > 256))) M) := by kernel_rfl
theorem c12_48 : P12 [1,1,1,1,1,1,0,0,1] = .cond (.tmp 40) (P12 [1,1,1,1,1,1,0,0,1,0]) (P12 [1,1,1,1,1,1,0,0,1,1]) := by kernel_rfl
theorem k12_49 : P12 [1,1,1,1,1,1,0,0,1,0] = .seq (P12 [1,1,1,1,1,1,0,0,1,0,0]) (P12 [1,1,1,1,1,1,0,0,1,0,1]) := by kernel_rfl
theorem k12_50 : P12 [1,1,1,1,1,1,0,0,1,0,0] = .region 15 (O12 [1,1,1,1,1,1,0,0,1,0,0]) false := by kernel_rfl
theorem r12_15 {x2 : Option Addr} {M : Mem} {call : CallM} {K : Array Value → Mem → R} :
    opsK Try.prog (fun _ => call) (O12 [1,1,1,1,1,1,0,0,1,0,0]) (O12 [1,1,1,1,1,1,0,0,1,0,0]).toList 0 #[g0,g1,.pointer x2,g3,g4,g5,g6,g7,g8,g9,g10,g11,g12,g13,g14,g15,g16,g17,g18,g19,g20,g21,g22,g23,g24,g25,g26,g27,g28,g29,g30,g31,g32,g33,g34,g35,g36,g37,g38,g39,g40,g41,g42,g43,g44,g45,g46,g47,g48,g49,g50,g51,g52,g53,g54,g55,g56,g57,g58,g59,g60] M K = (x2).bind fun a_1 => (M.put a_1.block a_1.off (.int .i64 0)).bind fun M_2 => (M_2.put a_1.block (a_1.off + 1) (.int .i64 0)).bind fun M_3 => K #[g0,g1,.pointer x2,.int .i64 5,g4,g5,g6,g7,g8,g9,g10,g11,g12,g13,g14,g15,g16,g17,g18,g19,g20,g21,g22,g23,g24,g25,g26,g27,g28,g29,g30,g31,g32,g33,g34,g35,g36,g37,g38,g39,g40,g41,g42,g43,g44,g45,g46,g47,g48,.agg #[.int .i64 0, .int .i64 0],g50,g51,g52,g53,g54,g55,g56,g57,g58,g59,g60] M_3 := by kernel_rfl
theorem k12_51 : P12 [1,1,1,1,1,1,0,0,1,0,1] = .ret := by kernel_rfl
theorem k12_52 : P12 [1,1,1,1,1,1,0,0,1,1] = .seq (P12 [1,1,1,1,1,1,0,0,1,1,0]) (P12 [1,1,1,1,1,1,0,0,1,1,1]) := by kernel_rfl
theorem k12_53 : P12 [1,1,1,1,1,1,0,0,1,1,0] = .region 16 (O12 [1,1,1,1,1,1,0,0,1,1,0]) false := by kernel_rfl
theorem r12_16 {x4 : Option Addr} {M : Mem} {call : CallM} {K : Array Value → Mem → R} :
    opsK Try.prog (fun _ => call) (O12 [1,1,1,1,1,1,0,0,1,1,0]) (O12 [1,1,1,1,1,1,0,0,1,1,0]).toList 0 #[g0,g1,g2,g3,.pointer x4,g5,g6,g7,g8,g9,g10,g11,g12,g13,g14,g15,g16,g17,g18,g19,g20,g21,g22,g23,g24,g25,g26,g27,g28,g29,g30,g31,g32,g33,g34,g35,g36,g37,g38,g39,g40,g41,g42,g43,g44,g45,g46,g47,g48,g49,g50,g51,g52,g53,g54,g55,g56,g57,g58,g59,g60] M K = withK (fun w50 w52 w53 w54 w55 w56 w57 w58 M => K #[g0,g1,g2,g3,.pointer x4,g5,g6,g7,g8,g9,g10,g11,g12,g13,g14,g15,g16,g17,g18,g19,g20,g21,g22,g23,g24,g25,g26,g27,g28,g29,g30,g31,g32,g33,g34,g35,g36,g37,g38,g39,g40,g41,g42,g43,g44,g45,g46,g47,g48,g49,w50,.pointer x4,w52,w53,w54,w55,w56,w57,w58,g59,g60] M) fun k => (call 40 #[.pointer x4] M).bind fun r_1 => (asI .i64 r_1.1).bind fun x_2 => cond (x_2 != 0) (k (.bool true) (.int .i64 x_2) (.bool (x_2 != 0)) (.bool true) undef undef undef (.bool true) r_1.2) ((call 37 #[.pointer x4] r_1.2).bind fun r_3 => (asI .i64 r_3.1).bind fun x_4 => k (.bool (decide (x_4 > 0))) (.int .i64 x_2) (.bool (x_2 != 0)) (.bool false) (.pointer x4) (.int .i64 x_4) (.bool (decide (x_4 > 0))) (.bool (decide (x_4 > 0))) r_3.2) := by kernel_rfl
theorem c12_54 : P12 [1,1,1,1,1,1,0,0,1,1,1] = .cond (.tmp 50) (P12 [1,1,1,1,1,1,0,0,1,1,1,0]) (P12 [1,1,1,1,1,1,0,0,1,1,1,1]) := by kernel_rfl
theorem k12_55 : P12 [1,1,1,1,1,1,0,0,1,1,1,0] = .seq (P12 [1,1,1,1,1,1,0,0,1,1,1,0,0]) (P12 [1,1,1,1,1,1,0,0,1,1,1,0,1]) := by kernel_rfl
theorem k12_56 : P12 [1,1,1,1,1,1,0,0,1,1,1,0,0] = .region 17 (O12 [1,1,1,1,1,1,0,0,1,1,1,0,0]) false := by kernel_rfl
theorem r12_17 {x2 : Option Addr} {M : Mem} {call : CallM} {K : Array Value → Mem → R} :
    opsK Try.prog (fun _ => call) (O12 [1,1,1,1,1,1,0,0,1,1,1,0,0]) (O12 [1,1,1,1,1,1,0,0,1,1,1,0,0]).toList 0 #[g0,g1,.pointer x2,g3,g4,g5,g6,g7,g8,g9,g10,g11,g12,g13,g14,g15,g16,g17,g18,g19,g20,g21,g22,g23,g24,g25,g26,g27,g28,g29,g30,g31,g32,g33,g34,g35,g36,g37,g38,g39,g40,g41,g42,g43,g44,g45,g46,g47,g48,g49,g50,g51,g52,g53,g54,g55,g56,g57,g58,g59,g60] M K = (x2).bind fun a_1 => (M.put a_1.block a_1.off (.int .i64 0)).bind fun M_2 => (M_2.put a_1.block (a_1.off + 1) (.int .i64 0)).bind fun M_3 => K #[g0,g1,.pointer x2,.int .i64 4,g4,g5,g6,g7,g8,g9,g10,g11,g12,g13,g14,g15,g16,g17,g18,g19,g20,g21,g22,g23,g24,g25,g26,g27,g28,g29,g30,g31,g32,g33,g34,g35,g36,g37,g38,g39,g40,g41,g42,g43,g44,g45,g46,g47,g48,g49,g50,g51,g52,g53,g54,g55,g56,g57,g58,.agg #[.int .i64 0, .int .i64 0],g60] M_3 := by kernel_rfl
theorem k12_57 : P12 [1,1,1,1,1,1,0,0,1,1,1,0,1] = .ret := by kernel_rfl
theorem k12_58 : P12 [1,1,1,1,1,1,0,0,1,1,1,1] = .skip := by kernel_rfl
theorem k12_59 : P12 [1,1,1,1,1,1,1] = .seq (P12 [1,1,1,1,1,1,1,0]) (P12 [1,1,1,1,1,1,1,1]) := by kernel_rfl
theorem k12_60 : P12 [1,1,1,1,1,1,1,0] = .region 18 (O12 [1,1,1,1,1,1,1,0]) false := by kernel_rfl
theorem r12_18 {x2 x9 : Option Addr} {M : Mem} {call : CallM} {K : Array Value → Mem → R} :
    opsK Try.prog (fun _ => call) (O12 [1,1,1,1,1,1,1,0]) (O12 [1,1,1,1,1,1,1,0]).toList 0 #[g0,g1,.pointer x2,g3,g4,g5,g6,g7,g8,.pointer x9,g10,g11,g12,g13,g14,g15,g16,g17,g18,g19,g20,g21,g22,g23,g24,g25,g26,g27,g28,g29,g30,g31,g32,g33,g34,g35,g36,g37,g38,g39,g40,g41,g42,g43,g44,g45,g46,g47,g48,g49,g50,g51,g52,g53,g54,g55,g56,g57,g58,g59,g60] M K = (x9).bind fun a_1 => (M.intAt .i64 a_1.block a_1.off).bind fun x_2 => (M.intAt .i64 a_1.block (a_1.off + 1)).bind fun x_3 => (x2).bind fun a_4 => (M.put a_4.block a_4.off (.int .i64 x_2)).bind fun M_5 => (M_5.put a_4.block (a_4.off + 1) (.int .i64 x_3)).bind fun M_6 => K #[g0,g1,.pointer x2,.int .i64 0,g4,g5,g6,g7,g8,.pointer x9,g10,g11,g12,g13,g14,g15,g16,g17,g18,g19,g20,g21,g22,g23,g24,g25,g26,g27,g28,g29,g30,g31,g32,g33,g34,g35,g36,g37,g38,g39,g40,g41,g42,g43,g44,g45,g46,g47,g48,g49,g50,g51,g52,g53,g54,g55,g56,g57,g58,g59,.agg #[.int .i64 x_2, .int .i64 x_3]] M_6 := by kernel_rfl
theorem k12_61 : P12 [1,1,1,1,1,1,1,1] = .ret := by kernel_rfl
noncomputable def S12_1 : List Item := [.code (P12 [1,1,1,1,0,1,0,0]), .inLoop (P12 [1,1,1,1,0,1,0,0]), .inBlock 0, .code (P12 [1,1,1,1,1])]
def A12_1 (x2 x4 x5 : Option Addr) (x16 : Int) (M : Mem) (Q : Value → Mem → Prop) : Prop := ∀ (g0 g1 g3 g6 g7 g8 g9 g10 g11 g12 g13 g14 g15 g17 g18 g19 g20 g21 g22 g23 g24 g25 g26 g27 g28 g29 g30 g31 g32 g33 g34 g35 g36 g37 g38 g39 g40 g41 g42 g43 g44 g45 g46 g47 g48 g49 g50 g51 g52 g53 g54 g55 g56 g57 g58 g59 g60 : Value), Rn Try.prog Try.f12 S12_1 #[g0, g1, .pointer x2, g3, .pointer x4, .pointer x5, g6, g7, g8, g9, g10, g11, g12, g13, g14, g15, .int .i64 x16, g17, g18, g19, g20, g21, g22, g23, g24, g25, g26, g27, g28, g29, g30, g31, g32, g33, g34, g35, g36, g37, g38, g39, g40, g41, g42, g43, g44, g45, g46, g47, g48, g49, g50, g51, g52, g53, g54, g55, g56, g57, g58, g59, g60] M Q
noncomputable def S12_2 : List Item := [.code (P12 [1,1,1,1,1,1,0,0,1]), .inBlock 2, .code (P12 [1,1,1,1,1,1,1])]
def A12_2 (x2 x4 x9 : Option Addr) (x40 : Bool) (M : Mem) (Q : Value → Mem → Prop) : Prop := ∀ (g0 g1 g3 g5 g6 g7 g8 g10 g11 g12 g13 g14 g15 g16 g17 g18 g19 g20 g21 g22 g23 g24 g25 g26 g27 g28 g29 g30 g31 g32 g33 g34 g35 g36 g37 g38 g39 g41 g42 g43 g44 g45 g46 g47 g48 g49 g50 g51 g52 g53 g54 g55 g56 g57 g58 g59 g60 : Value), Rn Try.prog Try.f12 S12_2 #[g0, g1, .pointer x2, g3, .pointer x4, g5, g6, g7, g8, .pointer x9, g10, g11, g12, g13, g14, g15, g16, g17, g18, g19, g20, g21, g22, g23, g24, g25, g26, g27, g28, g29, g30, g31, g32, g33, g34, g35, g36, g37, g38, g39, .bool x40, g41, g42, g43, g44, g45, g46, g47, g48, g49, g50, g51, g52, g53, g54, g55, g56, g57, g58, g59, g60] M Q
noncomputable def S12_3 : List Item := [.code (P12 [1,1,1,1,1,1,0,0,1,1,1]), .inBlock 2, .code (P12 [1,1,1,1,1,1,1])]
def A12_3 (x2 x9 : Option Addr) (x50 : Bool) (M : Mem) (Q : Value → Mem → Prop) : Prop := ∀ (g0 g1 g3 g4 g5 g6 g7 g8 g10 g11 g12 g13 g14 g15 g16 g17 g18 g19 g20 g21 g22 g23 g24 g25 g26 g27 g28 g29 g30 g31 g32 g33 g34 g35 g36 g37 g38 g39 g40 g41 g42 g43 g44 g45 g46 g47 g48 g49 g51 g52 g53 g54 g55 g56 g57 g58 g59 g60 : Value), Rn Try.prog Try.f12 S12_3 #[g0, g1, .pointer x2, g3, g4, g5, g6, g7, g8, .pointer x9, g10, g11, g12, g13, g14, g15, g16, g17, g18, g19, g20, g21, g22, g23, g24, g25, g26, g27, g28, g29, g30, g31, g32, g33, g34, g35, g36, g37, g38, g39, g40, g41, g42, g43, g44, g45, g46, g47, g48, g49, .bool x50, g51, g52, g53, g54, g55, g56, g57, g58, g59, g60] M Q
theorem w12_0 {Ax0 : Option Addr} {lx0 cx0 : Nat} {M : Mem} {Q : Value → Mem → Prop} (H :
    Cn Try.prog 31 #[.slice Ax0 lx0 cx0] (M.new (.cells #[.int .i64 0, .int .i64 0] 23)) fun v1' N1' =>
     ∃ p2', asP v1' = some p2' ∧
     Cn Try.prog 37 #[.pointer p2'] (N1'.new (.cells #[.int .i64 0, .int .i64 0] 78)) fun v3' N3' =>
      ∃ x4', asI .i64 v3' = some x4' ∧
      ((x4' < 16 →
       ∃ M5', N3'.put (2 * M.nb.size) 0 (.int .i64 0) = some M5' ∧
       ∃ M6', M5'.put (2 * M.nb.size) (0 + 1) (.int .i64 0) = some M6' ∧
       ∃ x7', M6'.intAt .i64 (2 * M.nb.size) 0 = some x7' ∧
       ∃ x8', M6'.intAt .i64 (2 * M.nb.size) (0 + 1) = some x8' ∧
       Q (.tuple #[.agg #[.int .i64 (x7'), .int .i64 (x8')], .int .i64 3]) M6') ∧
       (¬ (x4' < 16) →
       A12_1 (some ⟨2 * M.nb.size, 0, none⟩) p2' (some ⟨2 * N1'.nb.size, 0, none⟩) 0 N3' Q))) :
    Cn Try.prog 12 #[.slice Ax0 lx0 cx0] M Q := by
  refine Cn.of b12 d12 t12 ?_
  refine Rn.seq k12_0 (Rn.region k12_1 (fun call K => r12_0) (Rch.leaf (Rn.seq k12_2 (Rn.region k12_3 (fun call K => r12_1) (Rch.call H fun v1' N1' H => Rch.ex H fun p2' H => Rch.leaf (Rn.seq k12_4 (Rn.region k12_5 (fun call K => r12_2) (Rch.leaf (Rn.seq k12_6 ?_)))))))))
  refine Rn.seq k12_7 (Rn.region k12_8 (fun call K => r12_3) (Rch.call H fun v3' N3' H => Rch.ex H fun x4' H => Rch.leaf ?_))
  refine Rn.cnd (v := decide (x4' < 16)) ⟨c12_9, rfl, by kernel_rfl⟩ (fun h => ?_) (fun h => ?_)
  · replace H := H.1 (of_decide_eq_true h)
    refine Rn.seq k12_10 (Rn.region k12_11 (fun call K => r12_4) (Rch.bind (x := ⟨2 * M.nb.size, 0, none⟩) rfl (Rch.ex H fun M5' H => Rch.ex H fun M6' H => Rch.leaf (Rn.retK k12_12 (fun K => e12_0) (Rch.bind (x := ⟨2 * M.nb.size, 0, none⟩) rfl (Rch.ex H fun x7' H => Rch.ex H fun x8' H => ?_))))))
    exact Rch.fin H
  · replace H := H.2 (of_decide_eq_false h)
    refine Rn.skip k12_14 (Rn.seq k12_15 (Rn.seq k12_16 (Rn.region k12_17 (fun call K => r12_5) (Rch.leaf (Rn.block k12_18 (Rn.loop k12_19 ?_))))))
    exact H _ _ _ _ _ _ _ _ _ _ _ _ _ _ _ _ _ _ _ _ _ _ _ _ _ _ _ _ _ _ _ _ _ _ _ _ _ _ _ _ _ _ _ _ _ _ _ _ _ _ _ _ _ _ _ _ _

theorem w12_1 {x2 x4 x5 : Option Addr} {x16 : Int} {M : Mem} {Q : Value → Mem → Prop} (H :
    ((x16 < 2 →
     Cn Try.prog 33 #[.pointer x4, .int .i64 7] M fun v9' N9' =>
      ∃ cs10', asU 2 v9' = some cs10' ∧
      ∃ x11', asI .u32 (cs10'.getD 0 undef) = some x11' ∧
      ∃ x12', asI .i64 (cs10'.getD 1 undef) = some x12' ∧
      ((x12' ≠ 0 →
       ∃ a13', x2 = some a13' ∧
       ∃ M14', N9'.put a13'.block a13'.off (.int .i64 0) = some M14' ∧
       ∃ M15', M14'.put a13'.block (a13'.off + 1) (.int .i64 0) = some M15' ∧
       ∃ a16', x2 = some a16' ∧
       ∃ x17', M15'.intAt .i64 a16'.block a16'.off = some x17' ∧
       ∃ x18', M15'.intAt .i64 a16'.block (a16'.off + 1) = some x18' ∧
       Q (.tuple #[.agg #[.int .i64 (x17'), .int .i64 (x18')], .int .i64 (x12')]) M15') ∧
       (x12' = 0 →
       ∃ a19', idxA x5 2 1 x16 = some a19' ∧
       ∃ M20', N9'.put a19'.block a19'.off (.int .i64 (IntKind.i64.wrap (16 + (IntKind.i64.wrap (2 * (IntKind.i64.wrap (x11'))))))) = some M20' ∧
       A12_1 x2 x4 x5 (IntKind.i64.wrap (x16 + 1)) M20' Q))) ∧
     (¬ (x16 < 2) →
     ∃ a21', idxA x5 2 1 0 = some a21' ∧
     ∃ x22', M.intAt .i64 a21'.block a21'.off = some x22' ∧
     ∃ a23', idxA x5 2 1 1 = some a23' ∧
     ∃ x24', M.intAt .i64 a23'.block a23'.off = some x24' ∧
     ∃ M25', (M.new (.cells #[.int .i64 0, .int .i64 0] 23)).put (2 * M.nb.size) 0 (.int .i64 x22') = some M25' ∧
     ∃ M26', M25'.put (2 * M.nb.size) 1 (.int .i64 x24') = some M26' ∧
     ∃ x27', M26'.intAt .i64 (2 * M.nb.size) 0 = some x27' ∧
     ((x27' > 256 →
      A12_2 x2 x4 (some ⟨2 * M.nb.size, 0, none⟩) true M26' Q) ∧
      (¬ (x27' > 256) →
      ∃ x28', M26'.intAt .i64 (2 * M.nb.size) (0 + 1) = some x28' ∧
      A12_2 x2 x4 (some ⟨2 * M.nb.size, 0, none⟩) (decide (x28' > 256)) M26' Q))))) :
    A12_1 x2 x4 x5 x16 M Q := by
  intro g0 g1 g3 g6 g7 g8 g9 g10 g11 g12 g13 g14 g15 g17 g18 g19 g20 g21 g22 g23 g24 g25 g26 g27 g28 g29 g30 g31 g32 g33 g34 g35 g36 g37 g38 g39 g40 g41 g42 g43 g44 g45 g46 g47 g48 g49 g50 g51 g52 g53 g54 g55 g56 g57 g58 g59 g60
  refine Rn.seq k12_20 (Rn.region k12_21 (fun call K => r12_6) (Rch.leaf (Rn.seq k12_22 ?_)))
  refine Rn.cnd (v := decide (x16 < 2)) ⟨c12_23, rfl, by kernel_rfl⟩ (fun h => ?_) (fun h => ?_)
  · replace H := H.1 (of_decide_eq_true h)
    refine Rn.skip k12_24 (Rn.seq k12_25 (Rn.block k12_26 (Rn.seq k12_27 (Rn.region k12_28 (fun call K => r12_7) (Rch.leaf (Rn.seq k12_29 (Rn.region k12_30 (fun call K => r12_8) (Rch.call H fun v9' N9' H => Rch.ex H fun cs10' H => Rch.ex H fun x11' H => Rch.ex H fun x12' H => ?_))))))))
    refine Rch.leaf (Rn.seq k12_31 (Rn.seq k12_32 (Rn.region k12_33 (fun call K => r12_9) (Rch.leaf ?_))))
    refine Rn.cnd (v := x12' != 0) ⟨c12_34, rfl, by kernel_rfl⟩ (fun h => ?_) (fun h => ?_)
    · replace H := H.1 (ne_of_bneT h)
      refine Rn.seq k12_35 (Rn.region k12_36 (fun call K => r12_10) (Rch.ex H fun a13' H => Rch.ex H fun M14' H => Rch.ex H fun M15' H => Rch.leaf (Rn.retK k12_37 (fun K => e12_0) (Rch.ex H fun a16' H => Rch.ex H fun x17' H => Rch.ex H fun x18' H => ?_))))
      exact Rch.fin H
    · replace H := H.2 (eq_of_bneF h)
      refine Rn.skip k12_38 (Rn.region k12_39 (fun call K => r12_11) (Rch.ex H fun a19' H => Rch.ex H fun M20' H => Rch.leaf (Rn.blk (Rn.region k12_40 (fun call K => r12_12) (Rch.leaf (Rn.lp ?_))))))
      exact H _ _ _ _ _ _ _ _ _ _ _ _ _ _ _ _ _ _ _ _ _ _ _ _ _ _ _ _ _ _ _ _ _ _ _ _ _ _ _ _ _ _ _ _ _ _ _ _ _ _ _ _ _ _ _ _ _
  · replace H := H.2 (of_decide_eq_false h)
    refine Rn.exit k12_41 rfl (Rn.seq k12_42 (Rn.region k12_43 (fun call K => r12_13) (Rch.ex H fun a21' H => Rch.ex H fun x22' H => Rch.ex H fun a23' H => Rch.ex H fun x24' H => Rch.ex H fun M25' H => Rch.ex H fun M26' H => Rch.leaf (Rn.seq k12_44 (Rn.block k12_45 ?_)))))
    refine Rn.seq k12_46 (Rn.region k12_47 (fun call K => r12_14) (Rch.bind (x := ⟨2 * M.nb.size, 0, none⟩) rfl (Rch.ex H fun x27' H => ?_)))
    refine Rch.cB (fun h => ?_) (fun h => ?_)
    · replace H := H.1 (of_decide_eq_true h)
      refine Rch.leaf ?_
      exact H _ _ _ _ _ _ _ _ _ _ _ _ _ _ _ _ _ _ _ _ _ _ _ _ _ _ _ _ _ _ _ _ _ _ _ _ _ _ _ _ _ _ _ _ _ _ _ _ _ _ _ _ _ _ _ _ _
    · replace H := H.2 (of_decide_eq_false h)
      refine Rch.bind (x := ⟨2 * M.nb.size, 0, none⟩) rfl (Rch.ex H fun x28' H => Rch.leaf ?_)
      exact H _ _ _ _ _ _ _ _ _ _ _ _ _ _ _ _ _ _ _ _ _ _ _ _ _ _ _ _ _ _ _ _ _ _ _ _ _ _ _ _ _ _ _ _ _ _ _ _ _ _ _ _ _ _ _ _ _

theorem w12_2 {x2 x4 x9 : Option Addr} {x40 : Bool} {M : Mem} {Q : Value → Mem → Prop} (H :
    ((x40 = true →
     ∃ a29', x2 = some a29' ∧
     ∃ M30', M.put a29'.block a29'.off (.int .i64 0) = some M30' ∧
     ∃ M31', M30'.put a29'.block (a29'.off + 1) (.int .i64 0) = some M31' ∧
     ∃ a32', x2 = some a32' ∧
     ∃ x33', M31'.intAt .i64 a32'.block a32'.off = some x33' ∧
     ∃ x34', M31'.intAt .i64 a32'.block (a32'.off + 1) = some x34' ∧
     Q (.tuple #[.agg #[.int .i64 (x33'), .int .i64 (x34')], .int .i64 5]) M31') ∧
     (x40 = false →
     Cn Try.prog 40 #[.pointer x4] M fun v35' N35' =>
      ∃ x36', asI .i64 v35' = some x36' ∧
      ((x36' ≠ 0 →
       A12_3 x2 x9 true N35' Q) ∧
       (x36' = 0 →
       Cn Try.prog 37 #[.pointer x4] N35' fun v37' N37' =>
        ∃ x38', asI .i64 v37' = some x38' ∧
        A12_3 x2 x9 (decide (x38' > 0)) N37' Q))))) :
    A12_2 x2 x4 x9 x40 M Q := by
  intro g0 g1 g3 g5 g6 g7 g8 g10 g11 g12 g13 g14 g15 g16 g17 g18 g19 g20 g21 g22 g23 g24 g25 g26 g27 g28 g29 g30 g31 g32 g33 g34 g35 g36 g37 g38 g39 g41 g42 g43 g44 g45 g46 g47 g48 g49 g50 g51 g52 g53 g54 g55 g56 g57 g58 g59 g60
  refine Rn.cnd (v := x40) ⟨c12_48, rfl, by kernel_rfl⟩ (fun h => ?_) (fun h => ?_)
  · replace H := H.1 (h)
    refine Rn.seq k12_49 (Rn.region k12_50 (fun call K => r12_15) (Rch.ex H fun a29' H => Rch.ex H fun M30' H => Rch.ex H fun M31' H => Rch.leaf (Rn.retK k12_51 (fun K => e12_0) (Rch.ex H fun a32' H => Rch.ex H fun x33' H => Rch.ex H fun x34' H => ?_))))
    exact Rch.fin H
  · replace H := H.2 (h)
    refine Rn.seq k12_52 (Rn.region k12_53 (fun call K => r12_16) (Rch.call H fun v35' N35' H => Rch.ex H fun x36' H => ?_))
    refine Rch.cB (fun h => ?_) (fun h => ?_)
    · replace H := H.1 (ne_of_bneT h)
      refine Rch.leaf ?_
      exact H _ _ _ _ _ _ _ _ _ _ _ _ _ _ _ _ _ _ _ _ _ _ _ _ _ _ _ _ _ _ _ _ _ _ _ _ _ _ _ _ _ _ _ _ _ _ _ _ _ _ _ _ _ _ _ _ _ _
    · replace H := H.2 (eq_of_bneF h)
      refine Rch.call H fun v37' N37' H => Rch.ex H fun x38' H => Rch.leaf ?_
      exact H _ _ _ _ _ _ _ _ _ _ _ _ _ _ _ _ _ _ _ _ _ _ _ _ _ _ _ _ _ _ _ _ _ _ _ _ _ _ _ _ _ _ _ _ _ _ _ _ _ _ _ _ _ _ _ _ _ _

theorem w12_3 {x2 x9 : Option Addr} {x50 : Bool} {M : Mem} {Q : Value → Mem → Prop} (H :
    ((x50 = true →
     ∃ a39', x2 = some a39' ∧
     ∃ M40', M.put a39'.block a39'.off (.int .i64 0) = some M40' ∧
     ∃ M41', M40'.put a39'.block (a39'.off + 1) (.int .i64 0) = some M41' ∧
     ∃ a42', x2 = some a42' ∧
     ∃ x43', M41'.intAt .i64 a42'.block a42'.off = some x43' ∧
     ∃ x44', M41'.intAt .i64 a42'.block (a42'.off + 1) = some x44' ∧
     Q (.tuple #[.agg #[.int .i64 (x43'), .int .i64 (x44')], .int .i64 4]) M41') ∧
     (x50 = false →
     ∃ a45', x9 = some a45' ∧
     ∃ x46', M.intAt .i64 a45'.block a45'.off = some x46' ∧
     ∃ x47', M.intAt .i64 a45'.block (a45'.off + 1) = some x47' ∧
     ∃ a48', x2 = some a48' ∧
     ∃ M49', M.put a48'.block a48'.off (.int .i64 x46') = some M49' ∧
     ∃ M50', M49'.put a48'.block (a48'.off + 1) (.int .i64 x47') = some M50' ∧
     ∃ a51', x2 = some a51' ∧
     ∃ x52', M50'.intAt .i64 a51'.block a51'.off = some x52' ∧
     ∃ x53', M50'.intAt .i64 a51'.block (a51'.off + 1) = some x53' ∧
     Q (.tuple #[.agg #[.int .i64 (x52'), .int .i64 (x53')], .int .i64 0]) M50'))) :
    A12_3 x2 x9 x50 M Q := by
  intro g0 g1 g3 g4 g5 g6 g7 g8 g10 g11 g12 g13 g14 g15 g16 g17 g18 g19 g20 g21 g22 g23 g24 g25 g26 g27 g28 g29 g30 g31 g32 g33 g34 g35 g36 g37 g38 g39 g40 g41 g42 g43 g44 g45 g46 g47 g48 g49 g51 g52 g53 g54 g55 g56 g57 g58 g59 g60
  refine Rn.cnd (v := x50) ⟨c12_54, rfl, by kernel_rfl⟩ (fun h => ?_) (fun h => ?_)
  · replace H := H.1 (h)
    refine Rn.seq k12_55 (Rn.region k12_56 (fun call K => r12_17) (Rch.ex H fun a39' H => Rch.ex H fun M40' H => Rch.ex H fun M41' H => Rch.leaf (Rn.retK k12_57 (fun K => e12_0) (Rch.ex H fun a42' H => Rch.ex H fun x43' H => Rch.ex H fun x44' H => ?_))))
    exact Rch.fin H
  · replace H := H.2 (h)
    refine Rn.skip k12_58 (Rn.blk (Rn.seq k12_59 (Rn.region k12_60 (fun call K => r12_18) (Rch.ex H fun a45' H => Rch.ex H fun x46' H => Rch.ex H fun x47' H => Rch.ex H fun a48' H => Rch.ex H fun M49' H => Rch.ex H fun M50' H => Rch.leaf (Rn.retK k12_61 (fun K => e12_0) ?_)))))
    refine Rch.ex H fun a51' H => Rch.ex H fun x52' H => Rch.ex H fun x53' H => ?_
    exact Rch.fin H


/-! ### zoetrope/zoetroperef20.ReadSeq: function 13 -/
noncomputable abbrev P13 (p : List Nat) : Code := subC (codeOf Try.f13) p
noncomputable abbrev O13 (p : List Nat) : Array Oper := opsOf (subC (codeOf Try.f13) p)
theorem b13 : Try.prog.funcs[13]? = some Try.f13 ∧ (Orc.tab Try.prog).lookup 13 = none := ⟨by kernel_rfl, by kernel_rfl⟩
theorem d13 : Try.f13.body = some (P13 []) := by kernel_rfl
theorem t13 {Ax0 : Option Addr} {lx0 cx0 : Nat} : #[.slice Ax0 lx0 cx0] ++ Array.replicate (Try.f13.ntmps - (#[.slice Ax0 lx0 cx0] : Array Value).size) undef = #[.slice Ax0 lx0 cx0,undef,undef,undef,undef,undef,undef,undef,undef,undef,undef,undef,undef,undef,undef,undef,undef,undef,undef,undef,undef,undef,undef,undef,undef,undef,undef,undef,undef,undef,undef,undef,undef,undef,undef,undef,undef,undef,undef,undef,undef,undef,undef,undef,undef,undef,undef,undef,undef] := by kernel_rfl
theorem k13_0 : P13 [] = .seq (P13 [0]) (P13 [1]) := by kernel_rfl
theorem k13_1 : P13 [0] = .region 0 (O13 [0]) false := by kernel_rfl
theorem r13_0 {M : Mem} {call : CallM} {K : Array Value → Mem → R} :
    opsK Try.prog (fun _ => call) (O13 [0]) (O13 [0]).toList 0 #[g0,g1,g2,g3,g4,g5,g6,g7,g8,g9,g10,g11,g12,g13,g14,g15,g16,g17,g18,g19,g20,g21,g22,g23,g24,g25,g26,g27,g28,g29,g30,g31,g32,g33,g34,g35,g36,g37,g38,g39,g40,g41,g42,g43,g44,g45,g46,g47,g48] M K = K #[g0,g1,.pointer (some ⟨2 * M.nb.size, 0, none⟩),.int .i64 0,g4,g5,g6,g7,g8,g9,g10,g11,g12,g13,g14,g15,g16,g17,g18,g19,g20,g21,g22,g23,g24,g25,g26,g27,g28,g29,g30,g31,g32,g33,g34,g35,g36,g37,g38,g39,g40,g41,g42,g43,g44,g45,g46,g47,g48] (M.new (.cells #[.int .i64 0, .int .i64 0] 23)) := by kernel_rfl
theorem k13_2 : P13 [1] = .seq (P13 [1,0]) (P13 [1,1]) := by kernel_rfl
theorem k13_3 : P13 [1,0] = .seq (P13 [1,0,0]) (P13 [1,0,1]) := by kernel_rfl
theorem k13_4 : P13 [1,0,0] = .region 1 (O13 [1,0,0]) false := by kernel_rfl
theorem r13_1 {Ax0 : Option Addr} {lx0 cx0 : Nat} {M : Mem} {call : CallM} {K : Array Value → Mem → R} :
    opsK Try.prog (fun _ => call) (O13 [1,0,0]) (O13 [1,0,0]).toList 0 #[.slice Ax0 lx0 cx0,g1,g2,g3,g4,g5,g6,g7,g8,g9,g10,g11,g12,g13,g14,g15,g16,g17,g18,g19,g20,g21,g22,g23,g24,g25,g26,g27,g28,g29,g30,g31,g32,g33,g34,g35,g36,g37,g38,g39,g40,g41,g42,g43,g44,g45,g46,g47,g48] M K = K #[.slice Ax0 lx0 cx0,g1,g2,g3,g4,g5,.slice Ax0 lx0 cx0,.int .i64 ((lx0 : Int)),.bool (decide (((lx0 : Int)) < 2)),g9,g10,g11,g12,g13,g14,g15,g16,g17,g18,g19,g20,g21,g22,g23,g24,g25,g26,g27,g28,g29,g30,g31,g32,g33,g34,g35,g36,g37,g38,g39,g40,g41,g42,g43,g44,g45,g46,g47,g48] M := by kernel_rfl
theorem c13_5 : P13 [1,0,1] = .cond (.tmp 8) (P13 [1,0,1,0]) (P13 [1,0,1,1]) := by kernel_rfl
theorem k13_6 : P13 [1,0,1,0] = .seq (P13 [1,0,1,0,0]) (P13 [1,0,1,0,1]) := by kernel_rfl
theorem k13_7 : P13 [1,0,1,0,0] = .region 2 (O13 [1,0,1,0,0]) false := by kernel_rfl
theorem r13_2 {x2 : Option Addr} {M : Mem} {call : CallM} {K : Array Value → Mem → R} :
    opsK Try.prog (fun _ => call) (O13 [1,0,1,0,0]) (O13 [1,0,1,0,0]).toList 0 #[g0,g1,.pointer x2,g3,g4,g5,g6,g7,g8,g9,g10,g11,g12,g13,g14,g15,g16,g17,g18,g19,g20,g21,g22,g23,g24,g25,g26,g27,g28,g29,g30,g31,g32,g33,g34,g35,g36,g37,g38,g39,g40,g41,g42,g43,g44,g45,g46,g47,g48] M K = (x2).bind fun a_1 => (M.put a_1.block a_1.off (.int .i64 0)).bind fun M_2 => (M_2.put a_1.block (a_1.off + 1) (.int .i64 0)).bind fun M_3 => K #[g0,g1,.pointer x2,.int .i64 3,g4,g5,g6,g7,g8,.agg #[.int .i64 0, .int .i64 0],g10,g11,g12,g13,g14,g15,g16,g17,g18,g19,g20,g21,g22,g23,g24,g25,g26,g27,g28,g29,g30,g31,g32,g33,g34,g35,g36,g37,g38,g39,g40,g41,g42,g43,g44,g45,g46,g47,g48] M_3 := by kernel_rfl
theorem k13_8 : P13 [1,0,1,0,1] = .ret := by kernel_rfl
theorem e13_0 {x2 : Option Addr} {x3 : Int} {M : Mem} {K : List Value → R} : resK Try.prog #[g0,g1,.pointer x2,.int .i64 x3,g4,g5,g6,g7,g8,g9,g10,g11,g12,g13,g14,g15,g16,g17,g18,g19,g20,g21,g22,g23,g24,g25,g26,g27,g28,g29,g30,g31,g32,g33,g34,g35,g36,g37,g38,g39,g40,g41,g42,g43,g44,g45,g46,g47,g48] M (Try.f13).results.toList K = (x2).bind fun a_1 => (M.intAt .i64 a_1.block a_1.off).bind fun x_2 => (M.intAt .i64 a_1.block (a_1.off + 1)).bind fun x_3 => K [.agg #[.int .i64 x_2, .int .i64 x_3], .int .i64 x3] := by kernel_rfl
theorem k13_10 : P13 [1,0,1,1] = .skip := by kernel_rfl
theorem k13_11 : P13 [1,1] = .seq (P13 [1,1,0]) (P13 [1,1,1]) := by kernel_rfl
theorem k13_12 : P13 [1,1,0] = .region 3 (O13 [1,1,0]) true ∧ drawOk (O13 [1,1,0]) = true := ⟨by kernel_rfl, by kernel_rfl⟩
theorem r13_3 {Ax0 : Option Addr} {lx0 cx0 : Nat} {M : Mem} {call : CallM} {K : Array Value → Mem → R} :
    opsI Try.prog (callAt call (O13 [1,1,0])) (O13 [1,1,0]) (ordOf (O13 [1,1,0])) [] #[.slice Ax0 lx0 cx0,g1,g2,g3,g4,g5,g6,g7,g8,g9,g10,g11,g12,g13,g14,g15,g16,g17,g18,g19,g20,g21,g22,g23,g24,g25,g26,g27,g28,g29,g30,g31,g32,g33,g34,g35,g36,g37,g38,g39,g40,g41,g42,g43,g44,g45,g46,g47,g48] M K = (idxA Ax0 lx0 1 0).bind fun a_1 => (M.intAt .u8 a_1.block a_1.off).bind fun x_2 => (idxA Ax0 lx0 1 1).bind fun a_3 => (M.intAt .u8 a_3.block a_3.off).bind fun x_4 => K #[.slice Ax0 lx0 cx0,g1,g2,g3,.int .i64 (IntKind.i64.wrap ((IntKind.i64.wrap ((IntKind.i64.wrap (x_2)) * 256)) + (IntKind.i64.wrap (x_4)))),g5,g6,g7,g8,g9,.slice Ax0 lx0 cx0,.pointer (some a_1),.int .u8 x_2,.int .i64 (IntKind.i64.wrap (x_2)),.int .i64 (IntKind.i64.wrap ((IntKind.i64.wrap (x_2)) * 256)),.slice Ax0 lx0 cx0,.pointer (some a_3),.int .u8 x_4,.int .i64 (IntKind.i64.wrap (x_4)),.int .i64 (IntKind.i64.wrap ((IntKind.i64.wrap ((IntKind.i64.wrap (x_2)) * 256)) + (IntKind.i64.wrap (x_4)))),g20,g21,g22,g23,g24,g25,g26,g27,g28,g29,g30,g31,g32,g33,g34,g35,g36,g37,g38,g39,g40,g41,g42,g43,g44,g45,g46,g47,g48] M := by kernel_rfl
theorem k13_13 : P13 [1,1,1] = .seq (P13 [1,1,1,0]) (P13 [1,1,1,1]) := by kernel_rfl
theorem k13_14 : P13 [1,1,1,0] = .region 4 (O13 [1,1,1,0]) false := by kernel_rfl
theorem r13_4 {x4 : Int} {M : Mem} {call : CallM} {K : Array Value → Mem → R} :
    opsK Try.prog (fun _ => call) (O13 [1,1,1,0]) (O13 [1,1,1,0]).toList 0 #[g0,g1,g2,g3,.int .i64 x4,g5,g6,g7,g8,g9,g10,g11,g12,g13,g14,g15,g16,g17,g18,g19,g20,g21,g22,g23,g24,g25,g26,g27,g28,g29,g30,g31,g32,g33,g34,g35,g36,g37,g38,g39,g40,g41,g42,g43,g44,g45,g46,g47,g48] M K = ((M.new (.cells #[.int .i64 0, .int .i64 0] 23)).put (2 * M.nb.size) 0 (.int .i64 (IntKind.i64.wrap (16 + (IntKind.i64.wrap (2 * (IntKind.i64.wrap (x4.tdiv 512)))))))).bind fun M_1 => (M_1.put (2 * M.nb.size) 1 (.int .i64 (IntKind.i64.wrap (16 + (IntKind.i64.wrap (2 * ((IntKind.i64.wrap (x4.tdiv 4)).tmod 128))))))).bind fun M_2 => K #[g0,g1,g2,g3,.int .i64 x4,.pointer (some ⟨2 * M.nb.size, 0, none⟩),g6,g7,g8,g9,g10,g11,g12,g13,g14,g15,g16,g17,g18,g19,.int .i64 x4,.int .i64 (IntKind.i64.wrap (x4.tdiv 512)),.int .i64 (IntKind.i64.wrap (2 * (IntKind.i64.wrap (x4.tdiv 512)))),.int .i64 (IntKind.i64.wrap (16 + (IntKind.i64.wrap (2 * (IntKind.i64.wrap (x4.tdiv 512)))))),.int .i64 x4,.int .i64 (IntKind.i64.wrap (x4.tdiv 4)),.int .i64 ((IntKind.i64.wrap (x4.tdiv 4)).tmod 128),.int .i64 (IntKind.i64.wrap (2 * ((IntKind.i64.wrap (x4.tdiv 4)).tmod 128))),.int .i64 (IntKind.i64.wrap (16 + (IntKind.i64.wrap (2 * ((IntKind.i64.wrap (x4.tdiv 4)).tmod 128))))),.agg #[.int .i64 (IntKind.i64.wrap (16 + (IntKind.i64.wrap (2 * (IntKind.i64.wrap (x4.tdiv 512)))))), .int .i64 (IntKind.i64.wrap (16 + (IntKind.i64.wrap (2 * ((IntKind.i64.wrap (x4.tdiv 4)).tmod 128)))))],g30,g31,g32,g33,g34,g35,g36,g37,g38,g39,g40,g41,g42,g43,g44,g45,g46,g47,g48] M_2 := by kernel_rfl
theorem k13_15 : P13 [1,1,1,1] = .seq (P13 [1,1,1,1,0]) (P13 [1,1,1,1,1]) := by kernel_rfl
theorem k13_16 : P13 [1,1,1,1,0] = .seq (P13 [1,1,1,1,0,0]) (P13 [1,1,1,1,0,1]) := by kernel_rfl
theorem k13_17 : P13 [1,1,1,1,0,0] = .region 5 (O13 [1,1,1,1,0,0]) false := by kernel_rfl
theorem r13_5 {x5 : Option Addr} {M : Mem} {call : CallM} {K : Array Value → Mem → R} :
    opsK Try.prog (fun _ => call) (O13 [1,1,1,1,0,0]) (O13 [1,1,1,1,0,0]).toList 0 #[g0,g1,g2,g3,g4,.pointer x5,g6,g7,g8,g9,g10,g11,g12,g13,g14,g15,g16,g17,g18,g19,g20,g21,g22,g23,g24,g25,g26,g27,g28,g29,g30,g31,g32,g33,g34,g35,g36,g37,g38,g39,g40,g41,g42,g43,g44,g45,g46,g47,g48] M K = withK (fun w30 w31 w32 w33 w34 w35 w36 w37 M => K #[g0,g1,g2,g3,g4,.pointer x5,g6,g7,g8,g9,g10,g11,g12,g13,g14,g15,g16,g17,g18,g19,g20,g21,g22,g23,g24,g25,g26,g27,g28,g29,w30,w31,w32,w33,w34,w35,w36,w37,g38,g39,g40,g41,g42,g43,g44,g45,g46,g47,g48] M) fun k => (x5).bind fun a_1 => (M.intAt .i64 a_1.block a_1.off).bind fun x_2 => cond (decide (x_2 > 256)) (k (.pointer (some ⟨a_1.block, a_1.off, none⟩)) (.int .i64 x_2) (.bool (decide (x_2 > 256))) (.bool true) undef undef undef (.bool true) M) ((x5).bind fun a_3 => (M.intAt .i64 a_3.block (a_3.off + 1)).bind fun x_4 => k (.pointer (some ⟨a_1.block, a_1.off, none⟩)) (.int .i64 x_2) (.bool (decide (x_2 > 256))) (.bool false) (.pointer (some ⟨a_3.block, a_3.off + 1, none⟩)) (.int .i64 x_4) (.bool (decide (x_4 > 256))) (.bool (decide (x_4 > 256))) M) := by kernel_rfl
theorem c13_18 : P13 [1,1,1,1,0,1] = .cond (.tmp 37) (P13 [1,1,1,1,0,1,0]) (P13 [1,1,1,1,0,1,1]) := by kernel_rfl
theorem k13_19 : P13 [1,1,1,1,0,1,0] = .seq (P13 [1,1,1,1,0,1,0,0]) (P13 [1,1,1,1,0,1,0,1]) := by kernel_rfl
theorem k13_20 : P13 [1,1,1,1,0,1,0,0] = .region 6 (O13 [1,1,1,1,0,1,0,0]) false := by kernel_rfl
theorem r13_6 {x2 : Option Addr} {M : Mem} {call : CallM} {K : Array Value → Mem → R} :
    opsK Try.prog (fun _ => call) (O13 [1,1,1,1,0,1,0,0]) (O13 [1,1,1,1,0,1,0,0]).toList 0 #[g0,g1,.pointer x2,g3,g4,g5,g6,g7,g8,g9,g10,g11,g12,g13,g14,g15,g16,g17,g18,g19,g20,g21,g22,g23,g24,g25,g26,g27,g28,g29,g30,g31,g32,g33,g34,g35,g36,g37,g38,g39,g40,g41,g42,g43,g44,g45,g46,g47,g48] M K = (x2).bind fun a_1 => (M.put a_1.block a_1.off (.int .i64 0)).bind fun M_2 => (M_2.put a_1.block (a_1.off + 1) (.int .i64 0)).bind fun M_3 => K #[g0,g1,.pointer x2,.int .i64 5,g4,g5,g6,g7,g8,g9,g10,g11,g12,g13,g14,g15,g16,g17,g18,g19,g20,g21,g22,g23,g24,g25,g26,g27,g28,g29,g30,g31,g32,g33,g34,g35,g36,g37,.agg #[.int .i64 0, .int .i64 0],g39,g40,g41,g42,g43,g44,g45,g46,g47,g48] M_3 := by kernel_rfl
theorem k13_21 : P13 [1,1,1,1,0,1,0,1] = .ret := by kernel_rfl
theorem k13_22 : P13 [1,1,1,1,0,1,1] = .skip := by kernel_rfl
theorem k13_23 : P13 [1,1,1,1,1] = .seq (P13 [1,1,1,1,1,0]) (P13 [1,1,1,1,1,1]) := by kernel_rfl
theorem k13_24 : P13 [1,1,1,1,1,0] = .seq (P13 [1,1,1,1,1,0,0]) (P13 [1,1,1,1,1,0,1]) := by kernel_rfl
theorem k13_25 : P13 [1,1,1,1,1,0,0] = .region 7 (O13 [1,1,1,1,1,0,0]) false := by kernel_rfl
theorem r13_7 {Ax0 : Option Addr} {lx0 cx0 : Nat} {x4 : Int} {M : Mem} {call : CallM} {K : Array Value → Mem → R} :
    opsK Try.prog (fun _ => call) (O13 [1,1,1,1,1,0,0]) (O13 [1,1,1,1,1,0,0]).toList 0 #[.slice Ax0 lx0 cx0,g1,g2,g3,.int .i64 x4,g5,g6,g7,g8,g9,g10,g11,g12,g13,g14,g15,g16,g17,g18,g19,g20,g21,g22,g23,g24,g25,g26,g27,g28,g29,g30,g31,g32,g33,g34,g35,g36,g37,g38,g39,g40,g41,g42,g43,g44,g45,g46,g47,g48] M K = withK (fun w42 w43 w44 w45 w46 M => K #[.slice Ax0 lx0 cx0,g1,g2,g3,.int .i64 x4,g5,g6,g7,g8,g9,g10,g11,g12,g13,g14,g15,g16,g17,g18,g19,g20,g21,g22,g23,g24,g25,g26,g27,g28,g29,g30,g31,g32,g33,g34,g35,g36,g37,g38,.int .i64 x4,.int .i64 (x4.tmod 4),.bool ((x4.tmod 4) != 0),w42,w43,w44,w45,w46,g47,g48] M) fun k => cond ((x4.tmod 4) != 0) (k (.bool true) undef undef undef (.bool true) M) (k (.bool false) (.slice Ax0 lx0 cx0) (.int .i64 ((lx0 : Int))) (.bool (decide (((lx0 : Int)) > 2))) (.bool (decide (((lx0 : Int)) > 2))) M) := by kernel_rfl
theorem c13_26 : P13 [1,1,1,1,1,0,1] = .cond (.tmp 46) (P13 [1,1,1,1,1,0,1,0]) (P13 [1,1,1,1,1,0,1,1]) := by kernel_rfl
theorem k13_27 : P13 [1,1,1,1,1,0,1,0] = .seq (P13 [1,1,1,1,1,0,1,0,0]) (P13 [1,1,1,1,1,0,1,0,1]) := by kernel_rfl
theorem k13_28 : P13 [1,1,1,1,1,0,1,0,0] = .region 8 (O13 [1,1,1,1,1,0,1,0,0]) false := by kernel_rfl
theorem r13_8 {x2 : Option Addr} {M : Mem} {call : CallM} {K : Array Value → Mem → R} :
    opsK Try.prog (fun _ => call) (O13 [1,1,1,1,1,0,1,0,0]) (O13 [1,1,1,1,1,0,1,0,0]).toList 0 #[g0,g1,.pointer x2,g3,g4,g5,g6,g7,g8,g9,g10,g11,g12,g13,g14,g15,g16,g17,g18,g19,g20,g21,g22,g23,g24,g25,g26,g27,g28,g29,g30,g31,g32,g33,g34,g35,g36,g37,g38,g39,g40,g41,g42,g43,g44,g45,g46,g47,g48] M K = (x2).bind fun a_1 => (M.put a_1.block a_1.off (.int .i64 0)).bind fun M_2 => (M_2.put a_1.block (a_1.off + 1) (.int .i64 0)).bind fun M_3 => K #[g0,g1,.pointer x2,.int .i64 4,g4,g5,g6,g7,g8,g9,g10,g11,g12,g13,g14,g15,g16,g17,g18,g19,g20,g21,g22,g23,g24,g25,g26,g27,g28,g29,g30,g31,g32,g33,g34,g35,g36,g37,g38,g39,g40,g41,g42,g43,g44,g45,g46,.agg #[.int .i64 0, .int .i64 0],g48] M_3 := by kernel_rfl
theorem k13_29 : P13 [1,1,1,1,1,0,1,0,1] = .ret := by kernel_rfl
theorem k13_30 : P13 [1,1,1,1,1,0,1,1] = .skip := by kernel_rfl
theorem k13_31 : P13 [1,1,1,1,1,1] = .seq (P13 [1,1,1,1,1,1,0]) (P13 [1,1,1,1,1,1,1]) := by kernel_rfl
theorem k13_32 : P13 [1,1,1,1,1,1,0] = .region 9 (O13 [1,1,1,1,1,1,0]) false := by kernel_rfl
theorem r13_9 {x2 x5 : Option Addr} {M : Mem} {call : CallM} {K : Array Value → Mem → R} :
    opsK Try.prog (fun _ => call) (O13 [1,1,1,1,1,1,0]) (O13 [1,1,1,1,1,1,0]).toList 0 #[g0,g1,.pointer x2,g3,g4,.pointer x5,g6,g7,g8,g9,g10,g11,g12,g13,g14,g15,g16,g17,g18,g19,g20,g21,g22,g23,g24,g25,g26,g27,g28,g29,g30,g31,g32,g33,g34,g35,g36,g37,g38,g39,g40,g41,g42,g43,g44,g45,g46,g47,g48] M K = (x5).bind fun a_1 => (M.intAt .i64 a_1.block a_1.off).bind fun x_2 => (M.intAt .i64 a_1.block (a_1.off + 1)).bind fun x_3 => (x2).bind fun a_4 => (M.put a_4.block a_4.off (.int .i64 x_2)).bind fun M_5 => (M_5.put a_4.block (a_4.off + 1) (.int .i64 x_3)).bind fun M_6 => K #[g0,g1,.pointer x2,.int .i64 0,g4,.pointer x5,g6,g7,g8,g9,g10,g11,g12,g13,g14,g15,g16,g17,g18,g19,g20,g21,g22,g23,g24,g25,g26,g27,g28,g29,g30,g31,g32,g33,g34,g35,g36,g37,g38,g39,g40,g41,g42,g43,g44,g45,g46,g47,.agg #[.int .i64 x_2, .int .i64 x_3]] M_6 := by kernel_rfl
theorem k13_33 : P13 [1,1,1,1,1,1,1] = .ret := by kernel_rfl
noncomputable def S13_1 : List Item := [.code (P13 [1,1,1,1,0,1]), .code (P13 [1,1,1,1,1])]
def A13_1 (Ax0 : Option Addr) (lx0 cx0 : Nat) (x2 : Option Addr) (x4 : Int) (x5 : Option Addr) (x37 : Bool) (M : Mem) (Q : Value → Mem → Prop) : Prop := ∀ (g1 g3 g6 g7 g8 g9 g10 g11 g12 g13 g14 g15 g16 g17 g18 g19 g20 g21 g22 g23 g24 g25 g26 g27 g28 g29 g30 g31 g32 g33 g34 g35 g36 g38 g39 g40 g41 g42 g43 g44 g45 g46 g47 g48 : Value), Rn Try.prog Try.f13 S13_1 #[.slice Ax0 lx0 cx0, g1, .pointer x2, g3, .int .i64 x4, .pointer x5, g6, g7, g8, g9, g10, g11, g12, g13, g14, g15, g16, g17, g18, g19, g20, g21, g22, g23, g24, g25, g26, g27, g28, g29, g30, g31, g32, g33, g34, g35, g36, .bool x37, g38, g39, g40, g41, g42, g43, g44, g45, g46, g47, g48] M Q
noncomputable def S13_2 : List Item := [.code (P13 [1,1,1,1,1,0,1]), .code (P13 [1,1,1,1,1,1])]
def A13_2 (x2 x5 : Option Addr) (x46 : Bool) (M : Mem) (Q : Value → Mem → Prop) : Prop := ∀ (g0 g1 g3 g4 g6 g7 g8 g9 g10 g11 g12 g13 g14 g15 g16 g17 g18 g19 g20 g21 g22 g23 g24 g25 g26 g27 g28 g29 g30 g31 g32 g33 g34 g35 g36 g37 g38 g39 g40 g41 g42 g43 g44 g45 g47 g48 : Value), Rn Try.prog Try.f13 S13_2 #[g0, g1, .pointer x2, g3, g4, .pointer x5, g6, g7, g8, g9, g10, g11, g12, g13, g14, g15, g16, g17, g18, g19, g20, g21, g22, g23, g24, g25, g26, g27, g28, g29, g30, g31, g32, g33, g34, g35, g36, g37, g38, g39, g40, g41, g42, g43, g44, g45, .bool x46, g47, g48] M Q
theorem w13_0 {Ax0 : Option Addr} {lx0 cx0 : Nat} {M : Mem} {Q : Value → Mem → Prop} (H :
    ((((lx0 : Int)) < 2 →
     ∃ M1', (M.new (.cells #[.int .i64 0, .int .i64 0] 23)).put (2 * M.nb.size) 0 (.int .i64 0) = some M1' ∧
     ∃ M2', M1'.put (2 * M.nb.size) (0 + 1) (.int .i64 0) = some M2' ∧
     ∃ x3', M2'.intAt .i64 (2 * M.nb.size) 0 = some x3' ∧
     ∃ x4', M2'.intAt .i64 (2 * M.nb.size) (0 + 1) = some x4' ∧
     Q (.tuple #[.agg #[.int .i64 (x3'), .int .i64 (x4')], .int .i64 3]) M2') ∧
     (¬ (((lx0 : Int)) < 2) →
     ∃ a5', idxA Ax0 lx0 1 0 = some a5' ∧
     ∃ x6', (M.new (.cells #[.int .i64 0, .int .i64 0] 23)).intAt .u8 a5'.block a5'.off = some x6' ∧
     ∃ a7', idxA Ax0 lx0 1 1 = some a7' ∧
     ∃ x8', (M.new (.cells #[.int .i64 0, .int .i64 0] 23)).intAt .u8 a7'.block a7'.off = some x8' ∧
     ∃ M9', ((M.new (.cells #[.int .i64 0, .int .i64 0] 23)).new (.cells #[.int .i64 0, .int .i64 0] 23)).put (2 * (M.new (.cells #[.int .i64 0, .int .i64 0] 23)).nb.size) 0 (.int .i64 (IntKind.i64.wrap (16 + (IntKind.i64.wrap (2 * (IntKind.i64.wrap ((IntKind.i64.wrap ((IntKind.i64.wrap ((IntKind.i64.wrap (x6')) * 256)) + (IntKind.i64.wrap (x8')))).tdiv 512))))))) = some M9' ∧
     ∃ M10', M9'.put (2 * (M.new (.cells #[.int .i64 0, .int .i64 0] 23)).nb.size) 1 (.int .i64 (IntKind.i64.wrap (16 + (IntKind.i64.wrap (2 * ((IntKind.i64.wrap ((IntKind.i64.wrap ((IntKind.i64.wrap ((IntKind.i64.wrap (x6')) * 256)) + (IntKind.i64.wrap (x8')))).tdiv 4)).tmod 128)))))) = some M10' ∧
     ∃ x11', M10'.intAt .i64 (2 * (M.new (.cells #[.int .i64 0, .int .i64 0] 23)).nb.size) 0 = some x11' ∧
     ((x11' > 256 →
      A13_1 Ax0 lx0 cx0 (some ⟨2 * M.nb.size, 0, none⟩) (IntKind.i64.wrap ((IntKind.i64.wrap ((IntKind.i64.wrap (x6')) * 256)) + (IntKind.i64.wrap (x8')))) (some ⟨2 * (M.new (.cells #[.int .i64 0, .int .i64 0] 23)).nb.size, 0, none⟩) true M10' Q) ∧
      (¬ (x11' > 256) →
      ∃ x12', M10'.intAt .i64 (2 * (M.new (.cells #[.int .i64 0, .int .i64 0] 23)).nb.size) (0 + 1) = some x12' ∧
      A13_1 Ax0 lx0 cx0 (some ⟨2 * M.nb.size, 0, none⟩) (IntKind.i64.wrap ((IntKind.i64.wrap ((IntKind.i64.wrap (x6')) * 256)) + (IntKind.i64.wrap (x8')))) (some ⟨2 * (M.new (.cells #[.int .i64 0, .int .i64 0] 23)).nb.size, 0, none⟩) (decide (x12' > 256)) M10' Q))))) :
    Cn Try.prog 13 #[.slice Ax0 lx0 cx0] M Q := by
  refine Cn.of b13 d13 t13 ?_
  refine Rn.seq k13_0 (Rn.region k13_1 (fun call K => r13_0) (Rch.leaf (Rn.seq k13_2 (Rn.seq k13_3 (Rn.region k13_4 (fun call K => r13_1) (Rch.leaf ?_))))))
  refine Rn.cnd (v := decide (((lx0 : Int)) < 2)) ⟨c13_5, rfl, by kernel_rfl⟩ (fun h => ?_) (fun h => ?_)
  · replace H := H.1 (of_decide_eq_true h)
    refine Rn.seq k13_6 (Rn.region k13_7 (fun call K => r13_2) (Rch.bind (x := ⟨2 * M.nb.size, 0, none⟩) rfl (Rch.ex H fun M1' H => Rch.ex H fun M2' H => Rch.leaf (Rn.retK k13_8 (fun K => e13_0) (Rch.bind (x := ⟨2 * M.nb.size, 0, none⟩) rfl (Rch.ex H fun x3' H => Rch.ex H fun x4' H => ?_))))))
    exact Rch.fin H
  · replace H := H.2 (of_decide_eq_false h)
    refine Rn.skip k13_10 (Rn.seq k13_11 (Rn.regionD k13_12 (fun call K => r13_3) (Rch.ex H fun a5' H => Rch.ex H fun x6' H => Rch.ex H fun a7' H => Rch.ex H fun x8' H => Rch.leaf (Rn.seq k13_13 (Rn.region k13_14 (fun call K => r13_4) (Rch.ex H fun M9' H => Rch.ex H fun M10' H => ?_))))))
    refine Rch.leaf (Rn.seq k13_15 (Rn.seq k13_16 (Rn.region k13_17 (fun call K => r13_5) (Rch.bind (x := ⟨2 * (M.new (.cells #[.int .i64 0, .int .i64 0] 23)).nb.size, 0, none⟩) rfl (Rch.ex H fun x11' H => ?_)))))
    refine Rch.cB (fun h => ?_) (fun h => ?_)
    · replace H := H.1 (of_decide_eq_true h)
      refine Rch.leaf ?_
      exact H _ _ _ _ _ _ _ _ _ _ _ _ _ _ _ _ _ _ _ _ _ _ _ _ _ _ _ _ _ _ _ _ _ _ _ _ _ _ _ _ _ _ _ _
    · replace H := H.2 (of_decide_eq_false h)
      refine Rch.bind (x := ⟨2 * (M.new (.cells #[.int .i64 0, .int .i64 0] 23)).nb.size, 0, none⟩) rfl (Rch.ex H fun x12' H => Rch.leaf ?_)
      exact H _ _ _ _ _ _ _ _ _ _ _ _ _ _ _ _ _ _ _ _ _ _ _ _ _ _ _ _ _ _ _ _ _ _ _ _ _ _ _ _ _ _ _ _

theorem w13_1 {Ax0 : Option Addr} {lx0 cx0 : Nat} {x2 : Option Addr} {x4 : Int} {x5 : Option Addr} {x37 : Bool} {M : Mem} {Q : Value → Mem → Prop} (H :
    ((x37 = true →
     ∃ a13', x2 = some a13' ∧
     ∃ M14', M.put a13'.block a13'.off (.int .i64 0) = some M14' ∧
     ∃ M15', M14'.put a13'.block (a13'.off + 1) (.int .i64 0) = some M15' ∧
     ∃ a16', x2 = some a16' ∧
     ∃ x17', M15'.intAt .i64 a16'.block a16'.off = some x17' ∧
     ∃ x18', M15'.intAt .i64 a16'.block (a16'.off + 1) = some x18' ∧
     Q (.tuple #[.agg #[.int .i64 (x17'), .int .i64 (x18')], .int .i64 5]) M15') ∧
     (x37 = false →
     (((x4.tmod 4) ≠ 0 →
      A13_2 x2 x5 true M Q) ∧
      ((x4.tmod 4) = 0 →
      A13_2 x2 x5 (decide (((lx0 : Int)) > 2)) M Q))))) :
    A13_1 Ax0 lx0 cx0 x2 x4 x5 x37 M Q := by
  intro g1 g3 g6 g7 g8 g9 g10 g11 g12 g13 g14 g15 g16 g17 g18 g19 g20 g21 g22 g23 g24 g25 g26 g27 g28 g29 g30 g31 g32 g33 g34 g35 g36 g38 g39 g40 g41 g42 g43 g44 g45 g46 g47 g48
  refine Rn.cnd (v := x37) ⟨c13_18, rfl, by kernel_rfl⟩ (fun h => ?_) (fun h => ?_)
  · replace H := H.1 (h)
    refine Rn.seq k13_19 (Rn.region k13_20 (fun call K => r13_6) (Rch.ex H fun a13' H => Rch.ex H fun M14' H => Rch.ex H fun M15' H => Rch.leaf (Rn.retK k13_21 (fun K => e13_0) (Rch.ex H fun a16' H => Rch.ex H fun x17' H => Rch.ex H fun x18' H => ?_))))
    exact Rch.fin H
  · replace H := H.2 (h)
    refine Rn.skip k13_22 (Rn.seq k13_23 (Rn.seq k13_24 (Rn.region k13_25 (fun call K => r13_7) ?_)))
    refine Rch.cB (fun h => ?_) (fun h => ?_)
    · replace H := H.1 (ne_of_bneT h)
      refine Rch.leaf ?_
      exact H _ _ _ _ _ _ _ _ _ _ _ _ _ _ _ _ _ _ _ _ _ _ _ _ _ _ _ _ _ _ _ _ _ _ _ _ _ _ _ _ _ _ _ _ _ _
    · replace H := H.2 (eq_of_bneF h)
      refine Rch.leaf ?_
      exact H _ _ _ _ _ _ _ _ _ _ _ _ _ _ _ _ _ _ _ _ _ _ _ _ _ _ _ _ _ _ _ _ _ _ _ _ _ _ _ _ _ _ _ _ _ _

theorem w13_2 {x2 x5 : Option Addr} {x46 : Bool} {M : Mem} {Q : Value → Mem → Prop} (H :
    ((x46 = true →
     ∃ a19', x2 = some a19' ∧
     ∃ M20', M.put a19'.block a19'.off (.int .i64 0) = some M20' ∧
     ∃ M21', M20'.put a19'.block (a19'.off + 1) (.int .i64 0) = some M21' ∧
     ∃ a22', x2 = some a22' ∧
     ∃ x23', M21'.intAt .i64 a22'.block a22'.off = some x23' ∧
     ∃ x24', M21'.intAt .i64 a22'.block (a22'.off + 1) = some x24' ∧
     Q (.tuple #[.agg #[.int .i64 (x23'), .int .i64 (x24')], .int .i64 4]) M21') ∧
     (x46 = false →
     ∃ a25', x5 = some a25' ∧
     ∃ x26', M.intAt .i64 a25'.block a25'.off = some x26' ∧
     ∃ x27', M.intAt .i64 a25'.block (a25'.off + 1) = some x27' ∧
     ∃ a28', x2 = some a28' ∧
     ∃ M29', M.put a28'.block a28'.off (.int .i64 x26') = some M29' ∧
     ∃ M30', M29'.put a28'.block (a28'.off + 1) (.int .i64 x27') = some M30' ∧
     ∃ a31', x2 = some a31' ∧
     ∃ x32', M30'.intAt .i64 a31'.block a31'.off = some x32' ∧
     ∃ x33', M30'.intAt .i64 a31'.block (a31'.off + 1) = some x33' ∧
     Q (.tuple #[.agg #[.int .i64 (x32'), .int .i64 (x33')], .int .i64 0]) M30'))) :
    A13_2 x2 x5 x46 M Q := by
  intro g0 g1 g3 g4 g6 g7 g8 g9 g10 g11 g12 g13 g14 g15 g16 g17 g18 g19 g20 g21 g22 g23 g24 g25 g26 g27 g28 g29 g30 g31 g32 g33 g34 g35 g36 g37 g38 g39 g40 g41 g42 g43 g44 g45 g47 g48
  refine Rn.cnd (v := x46) ⟨c13_26, rfl, by kernel_rfl⟩ (fun h => ?_) (fun h => ?_)
  · replace H := H.1 (h)
    refine Rn.seq k13_27 (Rn.region k13_28 (fun call K => r13_8) (Rch.ex H fun a19' H => Rch.ex H fun M20' H => Rch.ex H fun M21' H => Rch.leaf (Rn.retK k13_29 (fun K => e13_0) (Rch.ex H fun a22' H => Rch.ex H fun x23' H => Rch.ex H fun x24' H => ?_))))
    exact Rch.fin H
  · replace H := H.2 (h)
    refine Rn.skip k13_30 (Rn.seq k13_31 (Rn.region k13_32 (fun call K => r13_9) (Rch.ex H fun a25' H => Rch.ex H fun x26' H => Rch.ex H fun x27' H => Rch.ex H fun a28' H => Rch.ex H fun M29' H => Rch.ex H fun M30' H => Rch.leaf (Rn.retK k13_33 (fun K => e13_0) (Rch.ex H fun a31' H => ?_)))))
    refine Rch.ex H fun x32' H => Rch.ex H fun x33' H => ?_
    exact Rch.fin H


end Go.Zt

