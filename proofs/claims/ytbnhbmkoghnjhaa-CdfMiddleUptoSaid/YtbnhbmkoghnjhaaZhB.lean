/- The functions' walks: for each function and each loop a rule of what it comes to. Printed by zw.py. -/
import Derived.Test.YtbnhbmkoghnjhaaProg
import Derived.Test.YtbnhbmkoghnjhaaZhA
set_option linter.unusedVariables false
set_option maxRecDepth 100000
namespace Go.Zt
open Go Go.Sim Go.Proofs

variable {g0 g1 g2 g3 g4 g5 g6 g7 g8 g9 g10 g11 g12 g13 g14 g15 g16 g17 g18 g19 g20 g21 g22 g23 g24 g25 g26 g27 g28 g29 g30 g31 g32 g33 g34 g35 g36 g37 g38 g39 g40 g41 g42 g43 g44 g45 g46 g47 g48 g49 : Value}
def str0 : ByteArray := ⟨#[0, 1, 2, 2, 3, 3, 3, 3, 4, 4, 4, 4, 4, 4, 4, 4, 5, 5, 5, 5, 5, 5, 5, 5, 5, 5, 5, 5, 5, 5, 5, 5, 6, 6, 6, 6, 6, 6, 6, 6, 6, 6, 6, 6, 6, 6, 6, 6, 6, 6, 6, 6, 6, 6, 6, 6, 6, 6, 6, 6, 6, 6, 6, 6, 7, 7, 7, 7, 7, 7, 7, 7, 7, 7, 7, 7, 7, 7, 7, 7, 7, 7, 7, 7, 7, 7, 7, 7, 7, 7, 7, 7, 7, 7, 7, 7, 7, 7, 7, 7, 7, 7, 7, 7, 7, 7, 7, 7, 7, 7, 7, 7, 7, 7, 7, 7, 7, 7, 7, 7, 7, 7, 7, 7, 7, 7, 7, 7, 8, 8, 8, 8, 8, 8, 8, 8, 8, 8, 8, 8, 8, 8, 8, 8, 8, 8, 8, 8, 8, 8, 8, 8, 8, 8, 8, 8, 8, 8, 8, 8, 8, 8, 8, 8, 8, 8, 8, 8, 8, 8, 8, 8, 8, 8, 8, 8, 8, 8, 8, 8, 8, 8, 8, 8, 8, 8, 8, 8, 8, 8, 8, 8, 8, 8, 8, 8, 8, 8, 8, 8, 8, 8, 8, 8, 8, 8, 8, 8, 8, 8, 8, 8, 8, 8, 8, 8, 8, 8, 8, 8, 8, 8, 8, 8, 8, 8, 8, 8, 8, 8, 8, 8, 8, 8, 8, 8, 8, 8, 8, 8, 8, 8, 8, 8, 8, 8, 8, 8, 8, 8, 8, 8, 8, 8, 8, 8]⟩
/-! ### zoetrope/cdf.sizes: function 36 -/
noncomputable abbrev P36 (p : List Nat) : Code := subC (codeOf Try.f36) p
noncomputable abbrev O36 (p : List Nat) : Array Oper := opsOf (subC (codeOf Try.f36) p)
theorem b36 : Try.prog.funcs[36]? = some Try.f36 ∧ (Orc.tab Try.prog).lookup 36 = none := ⟨by kernel_rfl, by kernel_rfl⟩
theorem d36 : Try.f36.body = some (P36 []) := by kernel_rfl
theorem t36 {x0 : Int} : #[.int .i64 x0] ++ Array.replicate (Try.f36.ntmps - (#[.int .i64 x0] : Array Value).size) undef = #[.int .i64 x0,undef,undef,undef,undef,undef,undef,undef,undef] := by kernel_rfl
theorem k36_0 : P36 [] = .seq (P36 [0]) (P36 [1]) := by kernel_rfl
theorem k36_1 : P36 [0] = .region 0 (O36 [0]) false := by kernel_rfl
theorem r36_0 {M : Mem} {call : CallM} {K : Array Value → Mem → R} :
    opsK Try.prog (fun _ => call) (O36 [0]) (O36 [0]).toList 0 #[g0,g1,g2,g3,g4,g5,g6,g7,g8] M K = K #[g0,g1,.bool false,g3,g4,g5,g6,g7,g8] M := by kernel_rfl
theorem k36_2 : P36 [1] = .seq (P36 [1,0]) (P36 [1,1]) := by kernel_rfl
theorem k36_3 : P36 [1,0] = .region 1 (O36 [1,0]) false := by kernel_rfl
theorem r36_1 {x0 : Int} {M : Mem} {call : CallM} {K : Array Value → Mem → R} :
    opsK Try.prog (fun _ => call) (O36 [1,0]) (O36 [1,0]).toList 0 #[.int .i64 x0,g1,g2,g3,g4,g5,g6,g7,g8] M K = withK (fun w2 w5 w6 w7 w8 M => K #[.int .i64 x0,g1,w2,.int .i64 x0,.bool (decide (x0 ≥ 2)),w5,w6,w7,w8] M) fun k => cond (decide (x0 ≥ 2)) (k (.bool (decide (x0 ≤ 16))) (.bool true) (.int .i64 x0) (.bool (decide (x0 ≤ 16))) (.bool (decide (x0 ≤ 16))) M) (k (.bool false) (.bool false) undef undef (.bool false) M) := by kernel_rfl
theorem k36_4 : P36 [1,1] = .ret := by kernel_rfl
theorem e36 {M : Mem} : finish Try.prog Try.f36 #[g0,g1,g2,g3,g4,g5,g6,g7,g8] M = some (g2, M) := by kernel_rfl
theorem w36_0 {x0 : Int} {M : Mem} {Q : Value → Mem → Prop} (H :
    ((x0 ≥ 2 →
     Q (.bool (decide (x0 ≤ 16))) M) ∧
     (¬ (x0 ≥ 2) →
     Q (.bool false) M))) :
    Cn Try.prog 36 #[.int .i64 x0] M Q := by
  refine Cn.of b36 d36 t36 ?_
  refine Rn.seq k36_0 (Rn.region k36_1 (fun call K => r36_0) (Rch.leaf (Rn.seq k36_2 (Rn.region k36_3 (fun call K => r36_1) ?_))))
  refine Rch.cB (fun h => ?_) (fun h => ?_)
  · replace H := H.1 (of_decide_eq_true h)
    refine Rch.leaf ?_
    exact Rn.ret k36_4 e36 H
  · replace H := H.2 (of_decide_eq_false h)
    refine Rch.leaf ?_
    exact Rn.ret k36_4 e36 H


/-! ### cmp.isNaN[uint16]: function 44 -/
noncomputable abbrev P44 (p : List Nat) : Code := subC (codeOf Try.f44) p
noncomputable abbrev O44 (p : List Nat) : Array Oper := opsOf (subC (codeOf Try.f44) p)
theorem b44 : Try.prog.funcs[44]? = some Try.f44 ∧ (Orc.tab Try.prog).lookup 44 = none := ⟨by kernel_rfl, by kernel_rfl⟩
theorem d44 : Try.f44.body = some (P44 []) := by kernel_rfl
theorem t44 {x0 : Int} : #[.int .u16 x0] ++ Array.replicate (Try.f44.ntmps - (#[.int .u16 x0] : Array Value).size) undef = #[.int .u16 x0,undef,undef,undef,undef,undef] := by kernel_rfl
theorem k44_0 : P44 [] = .seq (P44 [0]) (P44 [1]) := by kernel_rfl
theorem k44_1 : P44 [0] = .region 0 (O44 [0]) false := by kernel_rfl
theorem r44_0 {M : Mem} {call : CallM} {K : Array Value → Mem → R} :
    opsK Try.prog (fun _ => call) (O44 [0]) (O44 [0]).toList 0 #[g0,g1,g2,g3,g4,g5] M K = K #[g0,g1,.bool false,g3,g4,g5] M := by kernel_rfl
theorem k44_2 : P44 [1] = .seq (P44 [1,0]) (P44 [1,1]) := by kernel_rfl
theorem k44_3 : P44 [1,0] = .region 1 (O44 [1,0]) false := by kernel_rfl
theorem r44_1 {x0 : Int} {M : Mem} {call : CallM} {K : Array Value → Mem → R} :
    opsK Try.prog (fun _ => call) (O44 [1,0]) (O44 [1,0]).toList 0 #[.int .u16 x0,g1,g2,g3,g4,g5] M K = K #[.int .u16 x0,g1,.bool (x0 != x0),.int .u16 x0,.int .u16 x0,.bool (x0 != x0)] M := by kernel_rfl
theorem k44_4 : P44 [1,1] = .ret := by kernel_rfl
theorem e44 {M : Mem} : finish Try.prog Try.f44 #[g0,g1,g2,g3,g4,g5] M = some (g2, M) := by kernel_rfl
theorem w44_0 {x0 : Int} {M : Mem} {Q : Value → Mem → Prop} (H :
    Q (.bool (x0 != x0)) M) :
    Cn Try.prog 44 #[.int .u16 x0] M Q := by
  refine Cn.of b44 d44 t44 ?_
  refine Rn.seq k44_0 (Rn.region k44_1 (fun call K => r44_0) (Rch.leaf (Rn.seq k44_2 (Rn.region k44_3 (fun call K => r44_1) (Rch.leaf ?_)))))
  exact Rn.ret k44_4 e44 H


/-! ### cmp.Less[uint16]: function 41 -/
noncomputable abbrev P41 (p : List Nat) : Code := subC (codeOf Try.f41) p
noncomputable abbrev O41 (p : List Nat) : Array Oper := opsOf (subC (codeOf Try.f41) p)
theorem b41 : Try.prog.funcs[41]? = some Try.f41 ∧ (Orc.tab Try.prog).lookup 41 = none := ⟨by kernel_rfl, by kernel_rfl⟩
theorem d41 : Try.f41.body = some (P41 []) := by kernel_rfl
theorem t41 {x0 x1 : Int} : #[.int .u16 x0,.int .u16 x1] ++ Array.replicate (Try.f41.ntmps - (#[.int .u16 x0,.int .u16 x1] : Array Value).size) undef = #[.int .u16 x0,.int .u16 x1,undef,undef,undef,undef,undef,undef,undef,undef,undef,undef,undef,undef,undef,undef,undef] := by kernel_rfl
theorem k41_0 : P41 [] = .seq (P41 [0]) (P41 [1]) := by kernel_rfl
theorem k41_1 : P41 [0] = .region 0 (O41 [0]) false := by kernel_rfl
theorem r41_0 {M : Mem} {call : CallM} {K : Array Value → Mem → R} :
    opsK Try.prog (fun _ => call) (O41 [0]) (O41 [0]).toList 0 #[g0,g1,g2,g3,g4,g5,g6,g7,g8,g9,g10,g11,g12,g13,g14,g15,g16] M K = K #[g0,g1,g2,g3,.bool false,g5,g6,g7,g8,g9,g10,g11,g12,g13,g14,g15,g16] M := by kernel_rfl
theorem k41_2 : P41 [1] = .seq (P41 [1,0]) (P41 [1,1]) := by kernel_rfl
theorem k41_3 : P41 [1,0] = .region 1 (O41 [1,0]) false := by kernel_rfl
theorem r41_1 {x0 x1 : Int} {M : Mem} {call : CallM} {K : Array Value → Mem → R} :
    opsK Try.prog (fun _ => call) (O41 [1,0]) (O41 [1,0]).toList 0 #[.int .u16 x0,.int .u16 x1,g2,g3,g4,g5,g6,g7,g8,g9,g10,g11,g12,g13,g14,g15,g16] M K = withK (fun w4 w6 w7 w8 w9 w10 w11 w12 w13 w14 w15 w16 M => K #[.int .u16 x0,.int .u16 x1,g2,g3,w4,.int .u16 x0,w6,w7,w8,w9,w10,w11,w12,w13,w14,w15,w16] M) fun k => (call 44 #[.int .u16 x0] M).bind fun r_1 => (asB r_1.1).bind fun b_2 => cond b_2 ((call 44 #[.int .u16 x1] r_1.2).bind fun r_3 => (asB r_3.1).bind fun b_4 => cond (!b_4) (k (.bool true) (.bool b_2) (.bool true) (.int .u16 x1) (.bool b_4) (.bool (!b_4)) (.bool (!b_4)) (.bool true) undef undef undef (.bool true) r_3.2) (k (.bool (decide (x0 < x1))) (.bool b_2) (.bool true) (.int .u16 x1) (.bool b_4) (.bool (!b_4)) (.bool (!b_4)) (.bool false) (.int .u16 x0) (.int .u16 x1) (.bool (decide (x0 < x1))) (.bool (decide (x0 < x1))) r_3.2)) (k (.bool (decide (x0 < x1))) (.bool b_2) (.bool false) undef undef undef (.bool false) (.bool false) (.int .u16 x0) (.int .u16 x1) (.bool (decide (x0 < x1))) (.bool (decide (x0 < x1))) r_1.2) := by kernel_rfl
theorem k41_4 : P41 [1,1] = .ret := by kernel_rfl
theorem e41 {M : Mem} : finish Try.prog Try.f41 #[g0,g1,g2,g3,g4,g5,g6,g7,g8,g9,g10,g11,g12,g13,g14,g15,g16] M = some (g4, M) := by kernel_rfl
theorem w41_0 {x0 x1 : Int} {M : Mem} {Q : Value → Mem → Prop} (H :
    Cn Try.prog 44 #[.int .u16 x0] M fun v1' N1' =>
     ∃ b2', asB v1' = some b2' ∧
     ((b2' = true →
      Cn Try.prog 44 #[.int .u16 x1] N1' fun v3' N3' =>
       ∃ b4', asB v3' = some b4' ∧
       (((!b4') = true →
        Q (.bool true) N3') ∧
        ((!b4') = false →
        Q (.bool (decide (x0 < x1))) N3'))) ∧
      (b2' = false →
      Q (.bool (decide (x0 < x1))) N1'))) :
    Cn Try.prog 41 #[.int .u16 x0, .int .u16 x1] M Q := by
  refine Cn.of b41 d41 t41 ?_
  refine Rn.seq k41_0 (Rn.region k41_1 (fun call K => r41_0) (Rch.leaf (Rn.seq k41_2 (Rn.region k41_3 (fun call K => r41_1) (Rch.call H fun v1' N1' H => Rch.ex H fun b2' H => ?_)))))
  refine Rch.cB (fun h => ?_) (fun h => ?_)
  · replace H := H.1 (h)
    refine Rch.call H fun v3' N3' H => Rch.ex H fun b4' H => ?_
    refine Rch.cB (fun h => ?_) (fun h => ?_)
    · replace H := H.1 (h)
      refine Rch.leaf ?_
      exact Rn.ret k41_4 e41 H
    · replace H := H.2 (h)
      refine Rch.leaf ?_
      exact Rn.ret k41_4 e41 H
  · replace H := H.2 (h)
    refine Rch.leaf ?_
    exact Rn.ret k41_4 e41 H


/-! ### math/bits.Len32: function 42 -/
noncomputable abbrev P42 (p : List Nat) : Code := subC (codeOf Try.f42) p
noncomputable abbrev O42 (p : List Nat) : Array Oper := opsOf (subC (codeOf Try.f42) p)
theorem b42 : Try.prog.funcs[42]? = some Try.f42 ∧ (Orc.tab Try.prog).lookup 42 = none := ⟨by kernel_rfl, by kernel_rfl⟩
theorem d42 : Try.f42.body = some (P42 []) := by kernel_rfl
theorem t42 {x0 : Int} : #[.int .u32 x0] ++ Array.replicate (Try.f42.ntmps - (#[.int .u32 x0] : Array Value).size) undef = #[.int .u32 x0,undef,undef,undef,undef,undef,undef,undef,undef,undef,undef,undef,undef,undef,undef,undef,undef,undef,undef] := by kernel_rfl
theorem k42_0 : P42 [] = .seq (P42 [0]) (P42 [1]) := by kernel_rfl
theorem k42_1 : P42 [0] = .region 0 (O42 [0]) false := by kernel_rfl
theorem r42_0 {M : Mem} {call : CallM} {K : Array Value → Mem → R} :
    opsK Try.prog (fun _ => call) (O42 [0]) (O42 [0]).toList 0 #[g0,g1,g2,g3,g4,g5,g6,g7,g8,g9,g10,g11,g12,g13,g14,g15,g16,g17,g18] M K = K #[g0,g1,.int .i64 0,g3,g4,g5,g6,g7,g8,g9,g10,g11,g12,g13,g14,g15,g16,g17,g18] M := by kernel_rfl
theorem k42_2 : P42 [1] = .seq (P42 [1,0]) (P42 [1,1]) := by kernel_rfl
theorem k42_3 : P42 [1,0] = .seq (P42 [1,0,0]) (P42 [1,0,1]) := by kernel_rfl
theorem k42_4 : P42 [1,0,0] = .region 1 (O42 [1,0,0]) false := by kernel_rfl
theorem r42_1 {x0 : Int} {M : Mem} {call : CallM} {K : Array Value → Mem → R} :
    opsK Try.prog (fun _ => call) (O42 [1,0,0]) (O42 [1,0,0]).toList 0 #[.int .u32 x0,g1,g2,g3,g4,g5,g6,g7,g8,g9,g10,g11,g12,g13,g14,g15,g16,g17,g18] M K = K #[.int .u32 x0,g1,g2,.int .u32 x0,.bool (decide (x0 ≥ 65536)),g5,g6,g7,g8,g9,g10,g11,g12,g13,g14,g15,g16,g17,g18] M := by kernel_rfl
theorem c42_5 : P42 [1,0,1] = .cond (.tmp 4) (P42 [1,0,1,0]) (P42 [1,0,1,1]) := by kernel_rfl
theorem k42_6 : P42 [1,0,1,0] = .seq (P42 [1,0,1,0,0]) (P42 [1,0,1,0,1]) := by kernel_rfl
theorem k42_7 : P42 [1,0,1,0,0] = .region 2 (O42 [1,0,1,0,0]) false := by kernel_rfl
theorem r42_2 {x0 : Int} {M : Mem} {call : CallM} {K : Array Value → Mem → R} :
    opsK Try.prog (fun _ => call) (O42 [1,0,1,0,0]) (O42 [1,0,1,0,0]).toList 0 #[.int .u32 x0,g1,g2,g3,g4,g5,g6,g7,g8,g9,g10,g11,g12,g13,g14,g15,g16,g17,g18] M K = K #[.int .u32 (x0.fdiv (2 ^ 16)),g1,g2,g3,g4,.int .u32 x0,.int .u32 (x0.fdiv (2 ^ 16)),g7,g8,g9,g10,g11,g12,g13,g14,g15,g16,g17,g18] M := by kernel_rfl
theorem k42_8 : P42 [1,0,1,0,1] = .region 3 (O42 [1,0,1,0,1]) false := by kernel_rfl
theorem r42_3 {M : Mem} {call : CallM} {K : Array Value → Mem → R} :
    opsK Try.prog (fun _ => call) (O42 [1,0,1,0,1]) (O42 [1,0,1,0,1]).toList 0 #[g0,g1,g2,g3,g4,g5,g6,g7,g8,g9,g10,g11,g12,g13,g14,g15,g16,g17,g18] M K = K #[g0,g1,.int .i64 16,g3,g4,g5,g6,g7,g8,g9,g10,g11,g12,g13,g14,g15,g16,g17,g18] M := by kernel_rfl
theorem k42_9 : P42 [1,1] = .seq (P42 [1,1,0]) (P42 [1,1,1]) := by kernel_rfl
theorem k42_10 : P42 [1,1,0] = .seq (P42 [1,1,0,0]) (P42 [1,1,0,1]) := by kernel_rfl
theorem k42_11 : P42 [1,1,0,0] = .region 4 (O42 [1,1,0,0]) false := by kernel_rfl
theorem r42_4 {x0 : Int} {M : Mem} {call : CallM} {K : Array Value → Mem → R} :
    opsK Try.prog (fun _ => call) (O42 [1,1,0,0]) (O42 [1,1,0,0]).toList 0 #[.int .u32 x0,g1,g2,g3,g4,g5,g6,g7,g8,g9,g10,g11,g12,g13,g14,g15,g16,g17,g18] M K = K #[.int .u32 x0,g1,g2,g3,g4,g5,g6,.int .u32 x0,.bool (decide (x0 ≥ 256)),g9,g10,g11,g12,g13,g14,g15,g16,g17,g18] M := by kernel_rfl
theorem c42_12 : P42 [1,1,0,1] = .cond (.tmp 8) (P42 [1,1,0,1,0]) (P42 [1,1,0,1,1]) := by kernel_rfl
theorem k42_13 : P42 [1,1,0,1,0] = .seq (P42 [1,1,0,1,0,0]) (P42 [1,1,0,1,0,1]) := by kernel_rfl
theorem k42_14 : P42 [1,1,0,1,0,0] = .region 5 (O42 [1,1,0,1,0,0]) false := by kernel_rfl
theorem r42_5 {x0 : Int} {M : Mem} {call : CallM} {K : Array Value → Mem → R} :
    opsK Try.prog (fun _ => call) (O42 [1,1,0,1,0,0]) (O42 [1,1,0,1,0,0]).toList 0 #[.int .u32 x0,g1,g2,g3,g4,g5,g6,g7,g8,g9,g10,g11,g12,g13,g14,g15,g16,g17,g18] M K = K #[.int .u32 (x0.fdiv (2 ^ 8)),g1,g2,g3,g4,g5,g6,g7,g8,.int .u32 x0,.int .u32 (x0.fdiv (2 ^ 8)),g11,g12,g13,g14,g15,g16,g17,g18] M := by kernel_rfl
theorem k42_15 : P42 [1,1,0,1,0,1] = .region 6 (O42 [1,1,0,1,0,1]) false := by kernel_rfl
theorem r42_6 {x2 : Int} {M : Mem} {call : CallM} {K : Array Value → Mem → R} :
    opsK Try.prog (fun _ => call) (O42 [1,1,0,1,0,1]) (O42 [1,1,0,1,0,1]).toList 0 #[g0,g1,.int .i64 x2,g3,g4,g5,g6,g7,g8,g9,g10,g11,g12,g13,g14,g15,g16,g17,g18] M K = K #[g0,g1,.int .i64 (IntKind.i64.wrap (x2 + 8)),g3,g4,g5,g6,g7,g8,g9,g10,.int .i64 x2,.int .i64 (IntKind.i64.wrap (x2 + 8)),g13,g14,g15,g16,g17,g18] M := by kernel_rfl
theorem k42_16 : P42 [1,1,1] = .seq (P42 [1,1,1,0]) (P42 [1,1,1,1]) := by kernel_rfl
theorem k42_17 : P42 [1,1,1,0] = .region 7 (O42 [1,1,1,0]) false := by kernel_rfl
theorem r42_7 {x0 x2 : Int} {M : Mem} {call : CallM} {K : Array Value → Mem → R} :
    opsK Try.prog (fun _ => call) (O42 [1,1,1,0]) (O42 [1,1,1,0]).toList 0 #[.int .u32 x0,g1,.int .i64 x2,g3,g4,g5,g6,g7,g8,g9,g10,g11,g12,g13,g14,g15,g16,g17,g18] M K = (strV Try.prog 9 (.string str0) (.int .u8 (IntKind.u8.wrap (x0)))).bind fun v_1 => (asI .u8 v_1).bind fun x_2 => K #[.int .u32 x0,g1,.int .i64 (IntKind.i64.wrap (x2 + (IntKind.i64.wrap (x_2)))),g3,g4,g5,g6,g7,g8,g9,g10,g11,g12,.int .i64 x2,.int .u32 x0,.int .u8 (IntKind.u8.wrap (x0)),.int .u8 x_2,.int .i64 (IntKind.i64.wrap (x_2)),.int .i64 (IntKind.i64.wrap (x2 + (IntKind.i64.wrap (x_2))))] M := by kernel_rfl
theorem k42_18 : P42 [1,1,1,1] = .ret := by kernel_rfl
theorem e42 {M : Mem} : finish Try.prog Try.f42 #[g0,g1,g2,g3,g4,g5,g6,g7,g8,g9,g10,g11,g12,g13,g14,g15,g16,g17,g18] M = some (g2, M) := by kernel_rfl
theorem k42_20 : P42 [1,1,0,1,1] = .skip := by kernel_rfl
theorem k42_21 : P42 [1,0,1,1] = .skip := by kernel_rfl
theorem w42_0 {x0 : Int} {M : Mem} {Q : Value → Mem → Prop} (H :
    ((x0 ≥ 65536 →
     (((x0.fdiv (2 ^ 16)) ≥ 256 →
      ∃ v1', strV Try.prog 9 (.string str0) (.int .u8 (IntKind.u8.wrap (((x0.fdiv (2 ^ 16)).fdiv (2 ^ 8))))) = some v1' ∧
      ∃ x2', asI .u8 v1' = some x2' ∧
      Q (.int .i64 (IntKind.i64.wrap ((IntKind.i64.wrap (16 + 8)) + (IntKind.i64.wrap (x2'))))) M) ∧
      (¬ ((x0.fdiv (2 ^ 16)) ≥ 256) →
      ∃ v3', strV Try.prog 9 (.string str0) (.int .u8 (IntKind.u8.wrap ((x0.fdiv (2 ^ 16))))) = some v3' ∧
      ∃ x4', asI .u8 v3' = some x4' ∧
      Q (.int .i64 (IntKind.i64.wrap (16 + (IntKind.i64.wrap (x4'))))) M))) ∧
     (¬ (x0 ≥ 65536) →
     ((x0 ≥ 256 →
      ∃ v5', strV Try.prog 9 (.string str0) (.int .u8 (IntKind.u8.wrap ((x0.fdiv (2 ^ 8))))) = some v5' ∧
      ∃ x6', asI .u8 v5' = some x6' ∧
      Q (.int .i64 (IntKind.i64.wrap ((IntKind.i64.wrap (0 + 8)) + (IntKind.i64.wrap (x6'))))) M) ∧
      (¬ (x0 ≥ 256) →
      ∃ v7', strV Try.prog 9 (.string str0) (.int .u8 (IntKind.u8.wrap (x0))) = some v7' ∧
      ∃ x8', asI .u8 v7' = some x8' ∧
      Q (.int .i64 (IntKind.i64.wrap (0 + (IntKind.i64.wrap (x8'))))) M))))) :
    Cn Try.prog 42 #[.int .u32 x0] M Q := by
  refine Cn.of b42 d42 t42 ?_
  refine Rn.seq k42_0 (Rn.region k42_1 (fun call K => r42_0) (Rch.leaf (Rn.seq k42_2 (Rn.seq k42_3 (Rn.region k42_4 (fun call K => r42_1) (Rch.leaf ?_))))))
  refine Rn.cnd (v := decide (x0 ≥ 65536)) ⟨c42_5, rfl, by kernel_rfl⟩ (fun h => ?_) (fun h => ?_)
  · replace H := H.1 (of_decide_eq_true h)
    refine Rn.seq k42_6 (Rn.region k42_7 (fun call K => r42_2) (Rch.leaf (Rn.region k42_8 (fun call K => r42_3) (Rch.leaf (Rn.seq k42_9 (Rn.seq k42_10 (Rn.region k42_11 (fun call K => r42_4) (Rch.leaf ?_))))))))
    refine Rn.cnd (v := decide ((x0.fdiv (2 ^ 16)) ≥ 256)) ⟨c42_12, rfl, by kernel_rfl⟩ (fun h => ?_) (fun h => ?_)
    · replace H := H.1 (of_decide_eq_true h)
      refine Rn.seq k42_13 (Rn.region k42_14 (fun call K => r42_5) (Rch.leaf (Rn.region k42_15 (fun call K => r42_6) (Rch.leaf (Rn.seq k42_16 (Rn.region k42_17 (fun call K => r42_7) (Rch.ex H fun v1' H => Rch.ex H fun x2' H => Rch.leaf ?_)))))))
      exact Rn.ret k42_18 e42 H
    · replace H := H.2 (of_decide_eq_false h)
      refine Rn.skip k42_20 (Rn.seq k42_16 (Rn.region k42_17 (fun call K => r42_7) (Rch.ex H fun v3' H => Rch.ex H fun x4' H => Rch.leaf ?_)))
      exact Rn.ret k42_18 e42 H
  · replace H := H.2 (of_decide_eq_false h)
    refine Rn.skip k42_21 (Rn.seq k42_9 (Rn.seq k42_10 (Rn.region k42_11 (fun call K => r42_4) (Rch.leaf ?_))))
    refine Rn.cnd (v := decide (x0 ≥ 256)) ⟨c42_12, rfl, by kernel_rfl⟩ (fun h => ?_) (fun h => ?_)
    · replace H := H.1 (of_decide_eq_true h)
      refine Rn.seq k42_13 (Rn.region k42_14 (fun call K => r42_5) (Rch.leaf (Rn.region k42_15 (fun call K => r42_6) (Rch.leaf (Rn.seq k42_16 (Rn.region k42_17 (fun call K => r42_7) (Rch.ex H fun v5' H => Rch.ex H fun x6' H => Rch.leaf ?_)))))))
      exact Rn.ret k42_18 e42 H
    · replace H := H.2 (of_decide_eq_false h)
      refine Rn.skip k42_20 (Rn.seq k42_16 (Rn.region k42_17 (fun call K => r42_7) (Rch.ex H fun v7' H => Rch.ex H fun x8' H => Rch.leaf ?_)))
      exact Rn.ret k42_18 e42 H


/-! ### math/bits.Len64: function 43 -/
noncomputable abbrev P43 (p : List Nat) : Code := subC (codeOf Try.f43) p
noncomputable abbrev O43 (p : List Nat) : Array Oper := opsOf (subC (codeOf Try.f43) p)
theorem b43 : Try.prog.funcs[43]? = some Try.f43 ∧ (Orc.tab Try.prog).lookup 43 = none := ⟨by kernel_rfl, by kernel_rfl⟩
theorem d43 : Try.f43.body = some (P43 []) := by kernel_rfl
theorem t43 {x0 : Int} : #[.int .u64 x0] ++ Array.replicate (Try.f43.ntmps - (#[.int .u64 x0] : Array Value).size) undef = #[.int .u64 x0,undef,undef,undef,undef,undef,undef,undef,undef,undef,undef,undef,undef,undef,undef,undef,undef,undef,undef,undef,undef,undef,undef,undef,undef] := by kernel_rfl
theorem k43_0 : P43 [] = .seq (P43 [0]) (P43 [1]) := by kernel_rfl
theorem k43_1 : P43 [0] = .region 0 (O43 [0]) false := by kernel_rfl
theorem r43_0 {M : Mem} {call : CallM} {K : Array Value → Mem → R} :
    opsK Try.prog (fun _ => call) (O43 [0]) (O43 [0]).toList 0 #[g0,g1,g2,g3,g4,g5,g6,g7,g8,g9,g10,g11,g12,g13,g14,g15,g16,g17,g18,g19,g20,g21,g22,g23,g24] M K = K #[g0,g1,.int .i64 0,g3,g4,g5,g6,g7,g8,g9,g10,g11,g12,g13,g14,g15,g16,g17,g18,g19,g20,g21,g22,g23,g24] M := by kernel_rfl
theorem k43_2 : P43 [1] = .seq (P43 [1,0]) (P43 [1,1]) := by kernel_rfl
theorem k43_3 : P43 [1,0] = .seq (P43 [1,0,0]) (P43 [1,0,1]) := by kernel_rfl
theorem k43_4 : P43 [1,0,0] = .region 1 (O43 [1,0,0]) false := by kernel_rfl
theorem r43_1 {x0 : Int} {M : Mem} {call : CallM} {K : Array Value → Mem → R} :
    opsK Try.prog (fun _ => call) (O43 [1,0,0]) (O43 [1,0,0]).toList 0 #[.int .u64 x0,g1,g2,g3,g4,g5,g6,g7,g8,g9,g10,g11,g12,g13,g14,g15,g16,g17,g18,g19,g20,g21,g22,g23,g24] M K = K #[.int .u64 x0,g1,g2,.int .u64 x0,.bool (decide (x0 ≥ 4294967296)),g5,g6,g7,g8,g9,g10,g11,g12,g13,g14,g15,g16,g17,g18,g19,g20,g21,g22,g23,g24] M := by kernel_rfl
theorem c43_5 : P43 [1,0,1] = .cond (.tmp 4) (P43 [1,0,1,0]) (P43 [1,0,1,1]) := by kernel_rfl
theorem k43_6 : P43 [1,0,1,0] = .seq (P43 [1,0,1,0,0]) (P43 [1,0,1,0,1]) := by kernel_rfl
theorem k43_7 : P43 [1,0,1,0,0] = .region 2 (O43 [1,0,1,0,0]) false := by kernel_rfl
theorem r43_2 {x0 : Int} {M : Mem} {call : CallM} {K : Array Value → Mem → R} :
    opsK Try.prog (fun _ => call) (O43 [1,0,1,0,0]) (O43 [1,0,1,0,0]).toList 0 #[.int .u64 x0,g1,g2,g3,g4,g5,g6,g7,g8,g9,g10,g11,g12,g13,g14,g15,g16,g17,g18,g19,g20,g21,g22,g23,g24] M K = K #[.int .u64 (x0.fdiv (2 ^ 32)),g1,g2,g3,g4,.int .u64 x0,.int .u64 (x0.fdiv (2 ^ 32)),g7,g8,g9,g10,g11,g12,g13,g14,g15,g16,g17,g18,g19,g20,g21,g22,g23,g24] M := by kernel_rfl
theorem k43_8 : P43 [1,0,1,0,1] = .region 3 (O43 [1,0,1,0,1]) false := by kernel_rfl
theorem r43_3 {M : Mem} {call : CallM} {K : Array Value → Mem → R} :
    opsK Try.prog (fun _ => call) (O43 [1,0,1,0,1]) (O43 [1,0,1,0,1]).toList 0 #[g0,g1,g2,g3,g4,g5,g6,g7,g8,g9,g10,g11,g12,g13,g14,g15,g16,g17,g18,g19,g20,g21,g22,g23,g24] M K = K #[g0,g1,.int .i64 32,g3,g4,g5,g6,g7,g8,g9,g10,g11,g12,g13,g14,g15,g16,g17,g18,g19,g20,g21,g22,g23,g24] M := by kernel_rfl
theorem k43_9 : P43 [1,1] = .seq (P43 [1,1,0]) (P43 [1,1,1]) := by kernel_rfl
theorem k43_10 : P43 [1,1,0] = .seq (P43 [1,1,0,0]) (P43 [1,1,0,1]) := by kernel_rfl
theorem k43_11 : P43 [1,1,0,0] = .region 4 (O43 [1,1,0,0]) false := by kernel_rfl
theorem r43_4 {x0 : Int} {M : Mem} {call : CallM} {K : Array Value → Mem → R} :
    opsK Try.prog (fun _ => call) (O43 [1,1,0,0]) (O43 [1,1,0,0]).toList 0 #[.int .u64 x0,g1,g2,g3,g4,g5,g6,g7,g8,g9,g10,g11,g12,g13,g14,g15,g16,g17,g18,g19,g20,g21,g22,g23,g24] M K = K #[.int .u64 x0,g1,g2,g3,g4,g5,g6,.int .u64 x0,.bool (decide (x0 ≥ 65536)),g9,g10,g11,g12,g13,g14,g15,g16,g17,g18,g19,g20,g21,g22,g23,g24] M := by kernel_rfl
theorem c43_12 : P43 [1,1,0,1] = .cond (.tmp 8) (P43 [1,1,0,1,0]) (P43 [1,1,0,1,1]) := by kernel_rfl
theorem k43_13 : P43 [1,1,0,1,0] = .seq (P43 [1,1,0,1,0,0]) (P43 [1,1,0,1,0,1]) := by kernel_rfl
theorem k43_14 : P43 [1,1,0,1,0,0] = .region 5 (O43 [1,1,0,1,0,0]) false := by kernel_rfl
theorem r43_5 {x0 : Int} {M : Mem} {call : CallM} {K : Array Value → Mem → R} :
    opsK Try.prog (fun _ => call) (O43 [1,1,0,1,0,0]) (O43 [1,1,0,1,0,0]).toList 0 #[.int .u64 x0,g1,g2,g3,g4,g5,g6,g7,g8,g9,g10,g11,g12,g13,g14,g15,g16,g17,g18,g19,g20,g21,g22,g23,g24] M K = K #[.int .u64 (x0.fdiv (2 ^ 16)),g1,g2,g3,g4,g5,g6,g7,g8,.int .u64 x0,.int .u64 (x0.fdiv (2 ^ 16)),g11,g12,g13,g14,g15,g16,g17,g18,g19,g20,g21,g22,g23,g24] M := by kernel_rfl
theorem k43_15 : P43 [1,1,0,1,0,1] = .region 6 (O43 [1,1,0,1,0,1]) false := by kernel_rfl
theorem r43_6 {x2 : Int} {M : Mem} {call : CallM} {K : Array Value → Mem → R} :
    opsK Try.prog (fun _ => call) (O43 [1,1,0,1,0,1]) (O43 [1,1,0,1,0,1]).toList 0 #[g0,g1,.int .i64 x2,g3,g4,g5,g6,g7,g8,g9,g10,g11,g12,g13,g14,g15,g16,g17,g18,g19,g20,g21,g22,g23,g24] M K = K #[g0,g1,.int .i64 (IntKind.i64.wrap (x2 + 16)),g3,g4,g5,g6,g7,g8,g9,g10,.int .i64 x2,.int .i64 (IntKind.i64.wrap (x2 + 16)),g13,g14,g15,g16,g17,g18,g19,g20,g21,g22,g23,g24] M := by kernel_rfl
theorem k43_16 : P43 [1,1,1] = .seq (P43 [1,1,1,0]) (P43 [1,1,1,1]) := by kernel_rfl
theorem k43_17 : P43 [1,1,1,0] = .seq (P43 [1,1,1,0,0]) (P43 [1,1,1,0,1]) := by kernel_rfl
theorem k43_18 : P43 [1,1,1,0,0] = .region 7 (O43 [1,1,1,0,0]) false := by kernel_rfl
theorem r43_7 {x0 : Int} {M : Mem} {call : CallM} {K : Array Value → Mem → R} :
    opsK Try.prog (fun _ => call) (O43 [1,1,1,0,0]) (O43 [1,1,1,0,0]).toList 0 #[.int .u64 x0,g1,g2,g3,g4,g5,g6,g7,g8,g9,g10,g11,g12,g13,g14,g15,g16,g17,g18,g19,g20,g21,g22,g23,g24] M K = K #[.int .u64 x0,g1,g2,g3,g4,g5,g6,g7,g8,g9,g10,g11,g12,.int .u64 x0,.bool (decide (x0 ≥ 256)),g15,g16,g17,g18,g19,g20,g21,g22,g23,g24] M := by kernel_rfl
theorem c43_19 : P43 [1,1,1,0,1] = .cond (.tmp 14) (P43 [1,1,1,0,1,0]) (P43 [1,1,1,0,1,1]) := by kernel_rfl
theorem k43_20 : P43 [1,1,1,0,1,0] = .seq (P43 [1,1,1,0,1,0,0]) (P43 [1,1,1,0,1,0,1]) := by kernel_rfl
theorem k43_21 : P43 [1,1,1,0,1,0,0] = .region 8 (O43 [1,1,1,0,1,0,0]) false := by kernel_rfl
theorem r43_8 {x0 : Int} {M : Mem} {call : CallM} {K : Array Value → Mem → R} :
    opsK Try.prog (fun _ => call) (O43 [1,1,1,0,1,0,0]) (O43 [1,1,1,0,1,0,0]).toList 0 #[.int .u64 x0,g1,g2,g3,g4,g5,g6,g7,g8,g9,g10,g11,g12,g13,g14,g15,g16,g17,g18,g19,g20,g21,g22,g23,g24] M K = K #[.int .u64 (x0.fdiv (2 ^ 8)),g1,g2,g3,g4,g5,g6,g7,g8,g9,g10,g11,g12,g13,g14,.int .u64 x0,.int .u64 (x0.fdiv (2 ^ 8)),g17,g18,g19,g20,g21,g22,g23,g24] M := by kernel_rfl
theorem k43_22 : P43 [1,1,1,0,1,0,1] = .region 9 (O43 [1,1,1,0,1,0,1]) false := by kernel_rfl
theorem r43_9 {x2 : Int} {M : Mem} {call : CallM} {K : Array Value → Mem → R} :
    opsK Try.prog (fun _ => call) (O43 [1,1,1,0,1,0,1]) (O43 [1,1,1,0,1,0,1]).toList 0 #[g0,g1,.int .i64 x2,g3,g4,g5,g6,g7,g8,g9,g10,g11,g12,g13,g14,g15,g16,g17,g18,g19,g20,g21,g22,g23,g24] M K = K #[g0,g1,.int .i64 (IntKind.i64.wrap (x2 + 8)),g3,g4,g5,g6,g7,g8,g9,g10,g11,g12,g13,g14,g15,g16,.int .i64 x2,.int .i64 (IntKind.i64.wrap (x2 + 8)),g19,g20,g21,g22,g23,g24] M := by kernel_rfl
theorem k43_23 : P43 [1,1,1,1] = .seq (P43 [1,1,1,1,0]) (P43 [1,1,1,1,1]) := by kernel_rfl
theorem k43_24 : P43 [1,1,1,1,0] = .region 10 (O43 [1,1,1,1,0]) false := by kernel_rfl
theorem r43_10 {x0 x2 : Int} {M : Mem} {call : CallM} {K : Array Value → Mem → R} :
    opsK Try.prog (fun _ => call) (O43 [1,1,1,1,0]) (O43 [1,1,1,1,0]).toList 0 #[.int .u64 x0,g1,.int .i64 x2,g3,g4,g5,g6,g7,g8,g9,g10,g11,g12,g13,g14,g15,g16,g17,g18,g19,g20,g21,g22,g23,g24] M K = (strV Try.prog 9 (.string str0) (.int .u8 (IntKind.u8.wrap (x0)))).bind fun v_1 => (asI .u8 v_1).bind fun x_2 => K #[.int .u64 x0,g1,.int .i64 (IntKind.i64.wrap (x2 + (IntKind.i64.wrap (x_2)))),g3,g4,g5,g6,g7,g8,g9,g10,g11,g12,g13,g14,g15,g16,g17,g18,.int .i64 x2,.int .u64 x0,.int .u8 (IntKind.u8.wrap (x0)),.int .u8 x_2,.int .i64 (IntKind.i64.wrap (x_2)),.int .i64 (IntKind.i64.wrap (x2 + (IntKind.i64.wrap (x_2))))] M := by kernel_rfl
theorem k43_25 : P43 [1,1,1,1,1] = .ret := by kernel_rfl
theorem e43 {M : Mem} : finish Try.prog Try.f43 #[g0,g1,g2,g3,g4,g5,g6,g7,g8,g9,g10,g11,g12,g13,g14,g15,g16,g17,g18,g19,g20,g21,g22,g23,g24] M = some (g2, M) := by kernel_rfl
theorem k43_27 : P43 [1,1,1,0,1,1] = .skip := by kernel_rfl
theorem k43_28 : P43 [1,1,0,1,1] = .skip := by kernel_rfl
theorem k43_29 : P43 [1,0,1,1] = .skip := by kernel_rfl
theorem w43_0 {x0 : Int} {M : Mem} {Q : Value → Mem → Prop} (H :
    ((x0 ≥ 4294967296 →
     (((x0.fdiv (2 ^ 32)) ≥ 65536 →
      ((((x0.fdiv (2 ^ 32)).fdiv (2 ^ 16)) ≥ 256 →
       ∃ v1', strV Try.prog 9 (.string str0) (.int .u8 (IntKind.u8.wrap ((((x0.fdiv (2 ^ 32)).fdiv (2 ^ 16)).fdiv (2 ^ 8))))) = some v1' ∧
       ∃ x2', asI .u8 v1' = some x2' ∧
       Q (.int .i64 (IntKind.i64.wrap ((IntKind.i64.wrap ((IntKind.i64.wrap (32 + 16)) + 8)) + (IntKind.i64.wrap (x2'))))) M) ∧
       (¬ (((x0.fdiv (2 ^ 32)).fdiv (2 ^ 16)) ≥ 256) →
       ∃ v3', strV Try.prog 9 (.string str0) (.int .u8 (IntKind.u8.wrap (((x0.fdiv (2 ^ 32)).fdiv (2 ^ 16))))) = some v3' ∧
       ∃ x4', asI .u8 v3' = some x4' ∧
       Q (.int .i64 (IntKind.i64.wrap ((IntKind.i64.wrap (32 + 16)) + (IntKind.i64.wrap (x4'))))) M))) ∧
      (¬ ((x0.fdiv (2 ^ 32)) ≥ 65536) →
      (((x0.fdiv (2 ^ 32)) ≥ 256 →
       ∃ v5', strV Try.prog 9 (.string str0) (.int .u8 (IntKind.u8.wrap (((x0.fdiv (2 ^ 32)).fdiv (2 ^ 8))))) = some v5' ∧
       ∃ x6', asI .u8 v5' = some x6' ∧
       Q (.int .i64 (IntKind.i64.wrap ((IntKind.i64.wrap (32 + 8)) + (IntKind.i64.wrap (x6'))))) M) ∧
       (¬ ((x0.fdiv (2 ^ 32)) ≥ 256) →
       ∃ v7', strV Try.prog 9 (.string str0) (.int .u8 (IntKind.u8.wrap ((x0.fdiv (2 ^ 32))))) = some v7' ∧
       ∃ x8', asI .u8 v7' = some x8' ∧
       Q (.int .i64 (IntKind.i64.wrap (32 + (IntKind.i64.wrap (x8'))))) M))))) ∧
     (¬ (x0 ≥ 4294967296) →
     ((x0 ≥ 65536 →
      (((x0.fdiv (2 ^ 16)) ≥ 256 →
       ∃ v9', strV Try.prog 9 (.string str0) (.int .u8 (IntKind.u8.wrap (((x0.fdiv (2 ^ 16)).fdiv (2 ^ 8))))) = some v9' ∧
       ∃ x10', asI .u8 v9' = some x10' ∧
       Q (.int .i64 (IntKind.i64.wrap ((IntKind.i64.wrap ((IntKind.i64.wrap (0 + 16)) + 8)) + (IntKind.i64.wrap (x10'))))) M) ∧
       (¬ ((x0.fdiv (2 ^ 16)) ≥ 256) →
       ∃ v11', strV Try.prog 9 (.string str0) (.int .u8 (IntKind.u8.wrap ((x0.fdiv (2 ^ 16))))) = some v11' ∧
       ∃ x12', asI .u8 v11' = some x12' ∧
       Q (.int .i64 (IntKind.i64.wrap ((IntKind.i64.wrap (0 + 16)) + (IntKind.i64.wrap (x12'))))) M))) ∧
      (¬ (x0 ≥ 65536) →
      ((x0 ≥ 256 →
       ∃ v13', strV Try.prog 9 (.string str0) (.int .u8 (IntKind.u8.wrap ((x0.fdiv (2 ^ 8))))) = some v13' ∧
       ∃ x14', asI .u8 v13' = some x14' ∧
       Q (.int .i64 (IntKind.i64.wrap ((IntKind.i64.wrap (0 + 8)) + (IntKind.i64.wrap (x14'))))) M) ∧
       (¬ (x0 ≥ 256) →
       ∃ v15', strV Try.prog 9 (.string str0) (.int .u8 (IntKind.u8.wrap (x0))) = some v15' ∧
       ∃ x16', asI .u8 v15' = some x16' ∧
       Q (.int .i64 (IntKind.i64.wrap (0 + (IntKind.i64.wrap (x16'))))) M))))))) :
    Cn Try.prog 43 #[.int .u64 x0] M Q := by
  refine Cn.of b43 d43 t43 ?_
  refine Rn.seq k43_0 (Rn.region k43_1 (fun call K => r43_0) (Rch.leaf (Rn.seq k43_2 (Rn.seq k43_3 (Rn.region k43_4 (fun call K => r43_1) (Rch.leaf ?_))))))
  refine Rn.cnd (v := decide (x0 ≥ 4294967296)) ⟨c43_5, rfl, by kernel_rfl⟩ (fun h => ?_) (fun h => ?_)
  · replace H := H.1 (of_decide_eq_true h)
    refine Rn.seq k43_6 (Rn.region k43_7 (fun call K => r43_2) (Rch.leaf (Rn.region k43_8 (fun call K => r43_3) (Rch.leaf (Rn.seq k43_9 (Rn.seq k43_10 (Rn.region k43_11 (fun call K => r43_4) (Rch.leaf ?_))))))))
    refine Rn.cnd (v := decide ((x0.fdiv (2 ^ 32)) ≥ 65536)) ⟨c43_12, rfl, by kernel_rfl⟩ (fun h => ?_) (fun h => ?_)
    · replace H := H.1 (of_decide_eq_true h)
      refine Rn.seq k43_13 (Rn.region k43_14 (fun call K => r43_5) (Rch.leaf (Rn.region k43_15 (fun call K => r43_6) (Rch.leaf (Rn.seq k43_16 (Rn.seq k43_17 (Rn.region k43_18 (fun call K => r43_7) (Rch.leaf ?_))))))))
      refine Rn.cnd (v := decide (((x0.fdiv (2 ^ 32)).fdiv (2 ^ 16)) ≥ 256)) ⟨c43_19, rfl, by kernel_rfl⟩ (fun h => ?_) (fun h => ?_)
      · replace H := H.1 (of_decide_eq_true h)
        refine Rn.seq k43_20 (Rn.region k43_21 (fun call K => r43_8) (Rch.leaf (Rn.region k43_22 (fun call K => r43_9) (Rch.leaf (Rn.seq k43_23 (Rn.region k43_24 (fun call K => r43_10) (Rch.ex H fun v1' H => Rch.ex H fun x2' H => Rch.leaf ?_)))))))
        exact Rn.ret k43_25 e43 H
      · replace H := H.2 (of_decide_eq_false h)
        refine Rn.skip k43_27 (Rn.seq k43_23 (Rn.region k43_24 (fun call K => r43_10) (Rch.ex H fun v3' H => Rch.ex H fun x4' H => Rch.leaf ?_)))
        exact Rn.ret k43_25 e43 H
    · replace H := H.2 (of_decide_eq_false h)
      refine Rn.skip k43_28 (Rn.seq k43_16 (Rn.seq k43_17 (Rn.region k43_18 (fun call K => r43_7) (Rch.leaf ?_))))
      refine Rn.cnd (v := decide ((x0.fdiv (2 ^ 32)) ≥ 256)) ⟨c43_19, rfl, by kernel_rfl⟩ (fun h => ?_) (fun h => ?_)
      · replace H := H.1 (of_decide_eq_true h)
        refine Rn.seq k43_20 (Rn.region k43_21 (fun call K => r43_8) (Rch.leaf (Rn.region k43_22 (fun call K => r43_9) (Rch.leaf (Rn.seq k43_23 (Rn.region k43_24 (fun call K => r43_10) (Rch.ex H fun v5' H => Rch.ex H fun x6' H => Rch.leaf ?_)))))))
        exact Rn.ret k43_25 e43 H
      · replace H := H.2 (of_decide_eq_false h)
        refine Rn.skip k43_27 (Rn.seq k43_23 (Rn.region k43_24 (fun call K => r43_10) (Rch.ex H fun v7' H => Rch.ex H fun x8' H => Rch.leaf ?_)))
        exact Rn.ret k43_25 e43 H
  · replace H := H.2 (of_decide_eq_false h)
    refine Rn.skip k43_29 (Rn.seq k43_9 (Rn.seq k43_10 (Rn.region k43_11 (fun call K => r43_4) (Rch.leaf ?_))))
    refine Rn.cnd (v := decide (x0 ≥ 65536)) ⟨c43_12, rfl, by kernel_rfl⟩ (fun h => ?_) (fun h => ?_)
    · replace H := H.1 (of_decide_eq_true h)
      refine Rn.seq k43_13 (Rn.region k43_14 (fun call K => r43_5) (Rch.leaf (Rn.region k43_15 (fun call K => r43_6) (Rch.leaf (Rn.seq k43_16 (Rn.seq k43_17 (Rn.region k43_18 (fun call K => r43_7) (Rch.leaf ?_))))))))
      refine Rn.cnd (v := decide ((x0.fdiv (2 ^ 16)) ≥ 256)) ⟨c43_19, rfl, by kernel_rfl⟩ (fun h => ?_) (fun h => ?_)
      · replace H := H.1 (of_decide_eq_true h)
        refine Rn.seq k43_20 (Rn.region k43_21 (fun call K => r43_8) (Rch.leaf (Rn.region k43_22 (fun call K => r43_9) (Rch.leaf (Rn.seq k43_23 (Rn.region k43_24 (fun call K => r43_10) (Rch.ex H fun v9' H => Rch.ex H fun x10' H => Rch.leaf ?_)))))))
        exact Rn.ret k43_25 e43 H
      · replace H := H.2 (of_decide_eq_false h)
        refine Rn.skip k43_27 (Rn.seq k43_23 (Rn.region k43_24 (fun call K => r43_10) (Rch.ex H fun v11' H => Rch.ex H fun x12' H => Rch.leaf ?_)))
        exact Rn.ret k43_25 e43 H
    · replace H := H.2 (of_decide_eq_false h)
      refine Rn.skip k43_28 (Rn.seq k43_16 (Rn.seq k43_17 (Rn.region k43_18 (fun call K => r43_7) (Rch.leaf ?_))))
      refine Rn.cnd (v := decide (x0 ≥ 256)) ⟨c43_19, rfl, by kernel_rfl⟩ (fun h => ?_) (fun h => ?_)
      · replace H := H.1 (of_decide_eq_true h)
        refine Rn.seq k43_20 (Rn.region k43_21 (fun call K => r43_8) (Rch.leaf (Rn.region k43_22 (fun call K => r43_9) (Rch.leaf (Rn.seq k43_23 (Rn.region k43_24 (fun call K => r43_10) (Rch.ex H fun v13' H => Rch.ex H fun x14' H => Rch.leaf ?_)))))))
        exact Rn.ret k43_25 e43 H
      · replace H := H.2 (of_decide_eq_false h)
        refine Rn.skip k43_27 (Rn.seq k43_23 (Rn.region k43_24 (fun call K => r43_10) (Rch.ex H fun v15' H => Rch.ex H fun x16' H => Rch.leaf ?_)))
        exact Rn.ret k43_25 e43 H


/-! ### math/bits.Len: function 40 -/
noncomputable abbrev P40 (p : List Nat) : Code := subC (codeOf Try.f40) p
noncomputable abbrev O40 (p : List Nat) : Array Oper := opsOf (subC (codeOf Try.f40) p)
theorem b40 : Try.prog.funcs[40]? = some Try.f40 ∧ (Orc.tab Try.prog).lookup 40 = none := ⟨by kernel_rfl, by kernel_rfl⟩
theorem d40 : Try.f40.body = some (P40 []) := by kernel_rfl
theorem t40 {x0 : Int} : #[.int .u64 x0] ++ Array.replicate (Try.f40.ntmps - (#[.int .u64 x0] : Array Value).size) undef = #[.int .u64 x0,undef,undef,undef,undef,undef,undef,undef] := by kernel_rfl
theorem k40_0 : P40 [] = .seq (P40 [0]) (P40 [1]) := by kernel_rfl
theorem k40_1 : P40 [0] = .region 0 (O40 [0]) false := by kernel_rfl
theorem r40_0 {M : Mem} {call : CallM} {K : Array Value → Mem → R} :
    opsK Try.prog (fun _ => call) (O40 [0]) (O40 [0]).toList 0 #[g0,g1,g2,g3,g4,g5,g6,g7] M K = K #[g0,g1,.int .i64 0,g3,g4,g5,g6,g7] M := by kernel_rfl
theorem k40_2 : P40 [1] = .seq (P40 [1,0]) (P40 [1,1]) := by kernel_rfl
theorem c40_3 : P40 [1,0] = .cond (.const (.bool false)) (P40 [1,0,0]) (P40 [1,0,1]) := by kernel_rfl
theorem k40_4 : P40 [1,0,1] = .skip := by kernel_rfl
theorem k40_5 : P40 [1,1] = .seq (P40 [1,1,0]) (P40 [1,1,1]) := by kernel_rfl
theorem k40_6 : P40 [1,1,0] = .region 2 (O40 [1,1,0]) false := by kernel_rfl
theorem r40_2 {x0 : Int} {M : Mem} {call : CallM} {K : Array Value → Mem → R} :
    opsK Try.prog (fun _ => call) (O40 [1,1,0]) (O40 [1,1,0]).toList 0 #[.int .u64 x0,g1,g2,g3,g4,g5,g6,g7] M K = (call 43 #[.int .u64 x0] M).bind fun r_1 => (asI .i64 r_1.1).bind fun x_2 => K #[.int .u64 x0,g1,.int .i64 x_2,g3,g4,g5,.int .u64 x0,.int .i64 x_2] r_1.2 := by kernel_rfl
theorem k40_7 : P40 [1,1,1] = .ret := by kernel_rfl
theorem e40 {M : Mem} : finish Try.prog Try.f40 #[g0,g1,g2,g3,g4,g5,g6,g7] M = some (g2, M) := by kernel_rfl
theorem w40_0 {x0 : Int} {M : Mem} {Q : Value → Mem → Prop} (H :
    Cn Try.prog 43 #[.int .u64 x0] M fun v1' N1' =>
     ∃ x2', asI .i64 v1' = some x2' ∧
     Q (.int .i64 (x2')) N1') :
    Cn Try.prog 40 #[.int .u64 x0] M Q := by
  refine Cn.of b40 d40 t40 ?_
  refine Rn.seq k40_0 (Rn.region k40_1 (fun call K => r40_0) (Rch.leaf (Rn.seq k40_2 ?_)))
  refine Rn.cnd (v := false) ⟨c40_3, rfl, by kernel_rfl⟩ (fun h => ?_) (fun h => ?_)
  · exact Bool.noConfusion h
  · refine Rn.skip k40_4 (Rn.seq k40_5 (Rn.region k40_6 (fun call K => r40_2) (Rch.call H fun v1' N1' H => Rch.ex H fun x2' H => Rch.leaf ?_)))
    exact Rn.ret k40_7 e40 H


/-! ### slices.Clone[[]uint16,uint16]: function 34 -/
noncomputable abbrev P34 (p : List Nat) : Code := subC (codeOf Try.f34) p
noncomputable abbrev O34 (p : List Nat) : Array Oper := opsOf (subC (codeOf Try.f34) p)
theorem b34 : Try.prog.funcs[34]? = some Try.f34 ∧ (Orc.tab Try.prog).lookup 34 = none := ⟨by kernel_rfl, by kernel_rfl⟩
theorem d34 : Try.f34.body = some (P34 []) := by kernel_rfl
theorem t34 {Ax0 : Option Addr} {lx0 cx0 : Nat} : #[.slice Ax0 lx0 cx0] ++ Array.replicate (Try.f34.ntmps - (#[.slice Ax0 lx0 cx0] : Array Value).size) undef = #[.slice Ax0 lx0 cx0,undef,undef,undef,undef,undef,undef,undef] := by kernel_rfl
theorem k34_0 : P34 [] = .seq (P34 [0]) (P34 [1]) := by kernel_rfl
theorem k34_1 : P34 [0] = .region 0 (O34 [0]) false := by kernel_rfl
theorem r34_0 {M : Mem} {call : CallM} {K : Array Value → Mem → R} :
    opsK Try.prog (fun _ => call) (O34 [0]) (O34 [0]).toList 0 #[g0,g1,g2,g3,g4,g5,g6,g7] M K = K #[g0,g1,.slice none 0 0,g3,g4,g5,g6,g7] M := by kernel_rfl
theorem k34_2 : P34 [1] = .seq (P34 [1,0]) (P34 [1,1]) := by kernel_rfl
theorem k34_3 : P34 [1,0] = .seq (P34 [1,0,0]) (P34 [1,0,1]) := by kernel_rfl
theorem k34_4 : P34 [1,0,0] = .region 1 (O34 [1,0,0]) false := by kernel_rfl
theorem r34_1 {Ax0 : Option Addr} {lx0 cx0 : Nat} {M : Mem} {call : CallM} {K : Array Value → Mem → R} :
    opsK Try.prog (fun _ => call) (O34 [1,0,0]) (O34 [1,0,0]).toList 0 #[.slice Ax0 lx0 cx0,g1,g2,g3,g4,g5,g6,g7] M K = K #[.slice Ax0 lx0 cx0,g1,g2,.slice Ax0 lx0 cx0,.bool Ax0.isNone,g5,g6,g7] M := by kernel_rfl
theorem c34_5 : P34 [1,0,1] = .cond (.tmp 4) (P34 [1,0,1,0]) (P34 [1,0,1,1]) := by kernel_rfl
theorem k34_6 : P34 [1,0,1,0] = .seq (P34 [1,0,1,0,0]) (P34 [1,0,1,0,1]) := by kernel_rfl
theorem k34_7 : P34 [1,0,1,0,0] = .region 2 (O34 [1,0,1,0,0]) false := by kernel_rfl
theorem r34_2 {M : Mem} {call : CallM} {K : Array Value → Mem → R} :
    opsK Try.prog (fun _ => call) (O34 [1,0,1,0,0]) (O34 [1,0,1,0,0]).toList 0 #[g0,g1,g2,g3,g4,g5,g6,g7] M K = K #[g0,g1,.slice none 0 0,g3,g4,g5,g6,g7] M := by kernel_rfl
theorem k34_8 : P34 [1,0,1,0,1] = .ret := by kernel_rfl
theorem e34 {M : Mem} : finish Try.prog Try.f34 #[g0,g1,g2,g3,g4,g5,g6,g7] M = some (g2, M) := by kernel_rfl
theorem k34_10 : P34 [1,0,1,1] = .skip := by kernel_rfl
theorem k34_11 : P34 [1,1] = .seq (P34 [1,1,0]) (P34 [1,1,1]) := by kernel_rfl
theorem k34_12 : P34 [1,1,0] = .region 3 (O34 [1,1,0]) false := by kernel_rfl
theorem r34_3 {Ax0 : Option Addr} {lx0 cx0 : Nat} {M : Mem} {call : CallM} {K : Array Value → Mem → R} :
    opsK Try.prog (fun _ => call) (O34 [1,1,0]) (O34 [1,1,0]).toList 0 #[.slice Ax0 lx0 cx0,g1,g2,g3,g4,g5,g6,g7] M K = (appendP Try.prog #[22, 22] (.slice (some ⟨2 * M.nb.size, 0, none⟩) 0 0) (.slice Ax0 lx0 cx0) (M.new (.cells #[] 47))).bind fun r_1 => (asS r_1.1).bind fun s_2 => K #[.slice Ax0 lx0 cx0,g1,.slice s_2.1 (s_2.2.1) (s_2.2.2),g3,g4,.slice (some ⟨2 * M.nb.size, 0, none⟩) 0 0,.slice Ax0 lx0 cx0,.slice s_2.1 (s_2.2.1) (s_2.2.2)] r_1.2 := by kernel_rfl
theorem k34_13 : P34 [1,1,1] = .ret := by kernel_rfl
theorem w34_0 {Ax0 : Option Addr} {lx0 cx0 : Nat} {M : Mem} {Q : Value → Mem → Prop} (H :
    ((Ax0.isNone = true →
     Q (.slice none 0 0) M) ∧
     (Ax0.isNone = false →
     ∃ r1', appendP Try.prog #[22, 22] (.slice (some ⟨2 * M.nb.size, 0, none⟩) 0 0) (.slice Ax0 lx0 cx0) (M.new (.cells #[] 47)) = some r1' ∧
     ∃ s2', asS r1'.1 = some s2' ∧
     Q (.slice s2'.1 (s2'.2.1) (s2'.2.2)) r1'.2))) :
    Cn Try.prog 34 #[.slice Ax0 lx0 cx0] M Q := by
  refine Cn.of b34 d34 t34 ?_
  refine Rn.seq k34_0 (Rn.region k34_1 (fun call K => r34_0) (Rch.leaf (Rn.seq k34_2 (Rn.seq k34_3 (Rn.region k34_4 (fun call K => r34_1) (Rch.leaf ?_))))))
  refine Rn.cnd (v := Ax0.isNone) ⟨c34_5, rfl, by kernel_rfl⟩ (fun h => ?_) (fun h => ?_)
  · replace H := H.1 (h)
    refine Rn.seq k34_6 (Rn.region k34_7 (fun call K => r34_2) (Rch.leaf ?_))
    exact Rn.ret k34_8 e34 H
  · replace H := H.2 (h)
    refine Rn.skip k34_10 (Rn.seq k34_11 (Rn.region k34_12 (fun call K => r34_3) (Rch.ex H fun r1' H => Rch.ex H fun s2' H => Rch.leaf ?_)))
    exact Rn.ret k34_13 e34 H


/-! ### zoetrope/zoetroperef00.Log: function 35 -/
noncomputable abbrev P35 (p : List Nat) : Code := subC (codeOf Try.f35) p
noncomputable abbrev O35 (p : List Nat) : Array Oper := opsOf (subC (codeOf Try.f35) p)
theorem b35 : Try.prog.funcs[35]? = some Try.f35 ∧ (Orc.tab Try.prog).lookup 35 = none := ⟨by kernel_rfl, by kernel_rfl⟩
theorem d35 : Try.f35.body = some (P35 []) := by kernel_rfl
theorem t35 {x0 : Int} : #[.int .i64 x0] ++ Array.replicate (Try.f35.ntmps - (#[.int .i64 x0] : Array Value).size) undef = #[.int .i64 x0,undef,undef,undef,undef,undef,undef,undef,undef,undef,undef] := by kernel_rfl
theorem k35_0 : P35 [] = .seq (P35 [0]) (P35 [1]) := by kernel_rfl
theorem k35_1 : P35 [0] = .region 0 (O35 [0]) false := by kernel_rfl
theorem r35_0 {M : Mem} {call : CallM} {K : Array Value → Mem → R} :
    opsK Try.prog (fun _ => call) (O35 [0]) (O35 [0]).toList 0 #[g0,g1,g2,g3,g4,g5,g6,g7,g8,g9,g10] M K = K #[g0,g1,.int .i64 0,g3,g4,g5,g6,g7,g8,g9,g10] M := by kernel_rfl
theorem k35_2 : P35 [1] = .seq (P35 [1,0]) (P35 [1,1]) := by kernel_rfl
theorem k35_3 : P35 [1,0] = .region 1 (O35 [1,0]) false := by kernel_rfl
theorem r35_1 {M : Mem} {call : CallM} {K : Array Value → Mem → R} :
    opsK Try.prog (fun _ => call) (O35 [1,0]) (O35 [1,0]).toList 0 #[g0,g1,g2,g3,g4,g5,g6,g7,g8,g9,g10] M K = K #[g0,g1,g2,.int .i64 0,g4,g5,g6,g7,g8,g9,g10] M := by kernel_rfl
theorem k35_4 : P35 [1,1] = .seq (P35 [1,1,0]) (P35 [1,1,1]) := by kernel_rfl
theorem k35_5 : P35 [1,1,0] = .block 0 (P35 [1,1,0,0]) := by kernel_rfl
theorem k35_6 : P35 [1,1,0,0] = .loop (P35 [1,1,0,0,0]) := by kernel_rfl
theorem k35_7 : P35 [1,1,0,0,0] = .seq (P35 [1,1,0,0,0,0]) (P35 [1,1,0,0,0,1]) := by kernel_rfl
theorem k35_8 : P35 [1,1,0,0,0,0] = .seq (P35 [1,1,0,0,0,0,0]) (P35 [1,1,0,0,0,0,1]) := by kernel_rfl
theorem k35_9 : P35 [1,1,0,0,0,0,0] = .region 2 (O35 [1,1,0,0,0,0,0]) false := by kernel_rfl
theorem r35_2 {x0 : Int} {M : Mem} {call : CallM} {K : Array Value → Mem → R} :
    opsK Try.prog (fun _ => call) (O35 [1,1,0,0,0,0,0]) (O35 [1,1,0,0,0,0,0]).toList 0 #[.int .i64 x0,g1,g2,g3,g4,g5,g6,g7,g8,g9,g10] M K = K #[.int .i64 x0,g1,g2,g3,.int .i64 x0,.bool (decide (x0 > 1)),g6,g7,g8,g9,g10] M := by kernel_rfl
theorem c35_10 : P35 [1,1,0,0,0,0,1] = .cond (.tmp 5) (P35 [1,1,0,0,0,0,1,0]) (P35 [1,1,0,0,0,0,1,1]) := by kernel_rfl
theorem k35_11 : P35 [1,1,0,0,0,0,1,0] = .skip := by kernel_rfl
theorem k35_12 : P35 [1,1,0,0,0,1] = .block 1 (P35 [1,1,0,0,0,1,0]) := by kernel_rfl
theorem k35_13 : P35 [1,1,0,0,0,1,0] = .seq (P35 [1,1,0,0,0,1,0,0]) (P35 [1,1,0,0,0,1,0,1]) := by kernel_rfl
theorem k35_14 : P35 [1,1,0,0,0,1,0,0] = .region 3 (O35 [1,1,0,0,0,1,0,0]) false := by kernel_rfl
theorem r35_3 {x0 : Int} {M : Mem} {call : CallM} {K : Array Value → Mem → R} :
    opsK Try.prog (fun _ => call) (O35 [1,1,0,0,0,1,0,0]) (O35 [1,1,0,0,0,1,0,0]).toList 0 #[.int .i64 x0,g1,g2,g3,g4,g5,g6,g7,g8,g9,g10] M K = K #[.int .i64 (IntKind.i64.wrap (x0.tdiv 2)),g1,g2,g3,g4,g5,.int .i64 x0,.int .i64 (IntKind.i64.wrap (x0.tdiv 2)),g8,g9,g10] M := by kernel_rfl
theorem k35_15 : P35 [1,1,0,0,0,1,0,1] = .region 4 (O35 [1,1,0,0,0,1,0,1]) false := by kernel_rfl
theorem r35_4 {x3 : Int} {M : Mem} {call : CallM} {K : Array Value → Mem → R} :
    opsK Try.prog (fun _ => call) (O35 [1,1,0,0,0,1,0,1]) (O35 [1,1,0,0,0,1,0,1]).toList 0 #[g0,g1,g2,.int .i64 x3,g4,g5,g6,g7,g8,g9,g10] M K = K #[g0,g1,g2,.int .i64 (IntKind.i64.wrap (x3 + 1)),g4,g5,g6,g7,.int .i64 x3,.int .i64 (IntKind.i64.wrap (x3 + 1)),g10] M := by kernel_rfl
theorem k35_16 : P35 [1,1,0,0,0,0,1,1] = .exit 0 := by kernel_rfl
theorem k35_17 : P35 [1,1,1] = .seq (P35 [1,1,1,0]) (P35 [1,1,1,1]) := by kernel_rfl
theorem k35_18 : P35 [1,1,1,0] = .region 5 (O35 [1,1,1,0]) false := by kernel_rfl
theorem r35_5 {x3 : Int} {M : Mem} {call : CallM} {K : Array Value → Mem → R} :
    opsK Try.prog (fun _ => call) (O35 [1,1,1,0]) (O35 [1,1,1,0]).toList 0 #[g0,g1,g2,.int .i64 x3,g4,g5,g6,g7,g8,g9,g10] M K = K #[g0,g1,.int .i64 x3,.int .i64 x3,g4,g5,g6,g7,g8,g9,.int .i64 x3] M := by kernel_rfl
theorem k35_19 : P35 [1,1,1,1] = .ret := by kernel_rfl
theorem e35 {M : Mem} : finish Try.prog Try.f35 #[g0,g1,g2,g3,g4,g5,g6,g7,g8,g9,g10] M = some (g2, M) := by kernel_rfl
noncomputable def S35_1 : List Item := [.code (P35 [1,1,0,0,0]), .inLoop (P35 [1,1,0,0,0]), .inBlock 0, .code (P35 [1,1,1])]
def A35_1 (x0 x3 : Int) (M : Mem) (Q : Value → Mem → Prop) : Prop := ∀ (g1 g2 g4 g5 g6 g7 g8 g9 g10 : Value), Rn Try.prog Try.f35 S35_1 #[.int .i64 x0, g1, g2, .int .i64 x3, g4, g5, g6, g7, g8, g9, g10] M Q
theorem w35_0 {x0 : Int} {M : Mem} {Q : Value → Mem → Prop} (H :
    A35_1 x0 0 M Q) :
    Cn Try.prog 35 #[.int .i64 x0] M Q := by
  refine Cn.of b35 d35 t35 ?_
  refine Rn.seq k35_0 (Rn.region k35_1 (fun call K => r35_0) (Rch.leaf (Rn.seq k35_2 (Rn.region k35_3 (fun call K => r35_1) (Rch.leaf (Rn.seq k35_4 (Rn.block k35_5 (Rn.loop k35_6 ?_))))))))
  exact H _ _ _ _ _ _ _ _ _

theorem w35_1 {x0 x3 : Int} {M : Mem} {Q : Value → Mem → Prop} (H :
    ((x0 > 1 →
     A35_1 (IntKind.i64.wrap (x0.tdiv 2)) (IntKind.i64.wrap (x3 + 1)) M Q) ∧
     (¬ (x0 > 1) →
     Q (.int .i64 x3) M))) :
    A35_1 x0 x3 M Q := by
  intro g1 g2 g4 g5 g6 g7 g8 g9 g10
  refine Rn.seq k35_7 (Rn.seq k35_8 (Rn.region k35_9 (fun call K => r35_2) (Rch.leaf ?_)))
  refine Rn.cnd (v := decide (x0 > 1)) ⟨c35_10, rfl, by kernel_rfl⟩ (fun h => ?_) (fun h => ?_)
  · replace H := H.1 (of_decide_eq_true h)
    refine Rn.skip k35_11 (Rn.block k35_12 (Rn.seq k35_13 (Rn.region k35_14 (fun call K => r35_3) (Rch.leaf (Rn.region k35_15 (fun call K => r35_4) (Rch.leaf (Rn.blk (Rn.lp ?_))))))))
    exact H _ _ _ _ _ _ _ _ _
  · replace H := H.2 (of_decide_eq_false h)
    refine Rn.exit k35_16 rfl (Rn.seq k35_17 (Rn.region k35_18 (fun call K => r35_5) (Rch.leaf ?_)))
    exact Rn.ret k35_19 e35 H


/-! ### zoetrope/zoetroperef00.Bring: function 22 -/
noncomputable abbrev P22 (p : List Nat) : Code := subC (codeOf Try.f22) p
noncomputable abbrev O22 (p : List Nat) : Array Oper := opsOf (subC (codeOf Try.f22) p)
theorem b22 : Try.prog.funcs[22]? = some Try.f22 ∧ (Orc.tab Try.prog).lookup 22 = none := ⟨by kernel_rfl, by kernel_rfl⟩
theorem d22 : Try.f22.body = some (P22 []) := by kernel_rfl
theorem t22 {x0 x1 : Int} : #[.int .i64 x0,.int .i64 x1] ++ Array.replicate (Try.f22.ntmps - (#[.int .i64 x0,.int .i64 x1] : Array Value).size) undef = #[.int .i64 x0,.int .i64 x1,undef,undef,undef,undef,undef,undef,undef,undef,undef,undef,undef,undef,undef,undef] := by kernel_rfl
theorem k22_0 : P22 [] = .seq (P22 [0]) (P22 [1]) := by kernel_rfl
theorem k22_1 : P22 [0] = .region 0 (O22 [0]) false := by kernel_rfl
theorem r22_0 {M : Mem} {call : CallM} {K : Array Value → Mem → R} :
    opsK Try.prog (fun _ => call) (O22 [0]) (O22 [0]).toList 0 #[g0,g1,g2,g3,g4,g5,g6,g7,g8,g9,g10,g11,g12,g13,g14,g15] M K = K #[g0,g1,g2,g3,.int .i64 0,g5,g6,g7,g8,g9,g10,g11,g12,g13,g14,g15] M := by kernel_rfl
theorem k22_2 : P22 [1] = .seq (P22 [1,0]) (P22 [1,1]) := by kernel_rfl
theorem k22_3 : P22 [1,0] = .seq (P22 [1,0,0]) (P22 [1,0,1]) := by kernel_rfl
theorem k22_4 : P22 [1,0,0] = .region 1 (O22 [1,0,0]) false := by kernel_rfl
theorem r22_1 {x1 : Int} {M : Mem} {call : CallM} {K : Array Value → Mem → R} :
    opsK Try.prog (fun _ => call) (O22 [1,0,0]) (O22 [1,0,0]).toList 0 #[g0,.int .i64 x1,g2,g3,g4,g5,g6,g7,g8,g9,g10,g11,g12,g13,g14,g15] M K = K #[g0,.int .i64 x1,g2,g3,g4,.int .i64 x1,.bool (decide (x1 ≤ 0)),g7,g8,g9,g10,g11,g12,g13,g14,g15] M := by kernel_rfl
theorem c22_5 : P22 [1,0,1] = .cond (.tmp 6) (P22 [1,0,1,0]) (P22 [1,0,1,1]) := by kernel_rfl
theorem k22_6 : P22 [1,0,1,0] = .seq (P22 [1,0,1,0,0]) (P22 [1,0,1,0,1]) := by kernel_rfl
theorem k22_7 : P22 [1,0,1,0,0] = .region 2 (O22 [1,0,1,0,0]) false := by kernel_rfl
theorem r22_2 {M : Mem} {call : CallM} {K : Array Value → Mem → R} :
    opsK Try.prog (fun _ => call) (O22 [1,0,1,0,0]) (O22 [1,0,1,0,0]).toList 0 #[g0,g1,g2,g3,g4,g5,g6,g7,g8,g9,g10,g11,g12,g13,g14,g15] M K = K #[g0,g1,g2,g3,.int .i64 0,g5,g6,g7,g8,g9,g10,g11,g12,g13,g14,g15] M := by kernel_rfl
theorem k22_8 : P22 [1,0,1,0,1] = .ret := by kernel_rfl
theorem e22 {M : Mem} : finish Try.prog Try.f22 #[g0,g1,g2,g3,g4,g5,g6,g7,g8,g9,g10,g11,g12,g13,g14,g15] M = some (g4, M) := by kernel_rfl
theorem k22_10 : P22 [1,0,1,1] = .skip := by kernel_rfl
theorem k22_11 : P22 [1,1] = .seq (P22 [1,1,0]) (P22 [1,1,1]) := by kernel_rfl
theorem k22_12 : P22 [1,1,0] = .region 3 (O22 [1,1,0]) false := by kernel_rfl
theorem r22_3 {x0 x1 : Int} {M : Mem} {call : CallM} {K : Array Value → Mem → R} :
    opsK Try.prog (fun _ => call) (O22 [1,1,0]) (O22 [1,1,0]).toList 0 #[.int .i64 x0,.int .i64 x1,g2,g3,g4,g5,g6,g7,g8,g9,g10,g11,g12,g13,g14,g15] M K = (binV Try.prog .rem 3 3 (.int .i64 x0) (.int .i64 x1)).bind fun v_1 => (asI .i64 v_1).bind fun x_2 => K #[.int .i64 x_2,.int .i64 x1,g2,g3,g4,g5,g6,.int .i64 x0,.int .i64 x1,.int .i64 x_2,g10,g11,g12,g13,g14,g15] M := by kernel_rfl
theorem k22_13 : P22 [1,1,1] = .seq (P22 [1,1,1,0]) (P22 [1,1,1,1]) := by kernel_rfl
theorem k22_14 : P22 [1,1,1,0] = .seq (P22 [1,1,1,0,0]) (P22 [1,1,1,0,1]) := by kernel_rfl
theorem k22_15 : P22 [1,1,1,0,0] = .region 4 (O22 [1,1,1,0,0]) false := by kernel_rfl
theorem r22_4 {x0 : Int} {M : Mem} {call : CallM} {K : Array Value → Mem → R} :
    opsK Try.prog (fun _ => call) (O22 [1,1,1,0,0]) (O22 [1,1,1,0,0]).toList 0 #[.int .i64 x0,g1,g2,g3,g4,g5,g6,g7,g8,g9,g10,g11,g12,g13,g14,g15] M K = K #[.int .i64 x0,g1,g2,g3,g4,g5,g6,g7,g8,g9,.int .i64 x0,.bool (decide (x0 < 0)),g12,g13,g14,g15] M := by kernel_rfl
theorem c22_16 : P22 [1,1,1,0,1] = .cond (.tmp 11) (P22 [1,1,1,0,1,0]) (P22 [1,1,1,0,1,1]) := by kernel_rfl
theorem k22_17 : P22 [1,1,1,0,1,0] = .region 5 (O22 [1,1,1,0,1,0]) false := by kernel_rfl
theorem r22_5 {x0 x1 : Int} {M : Mem} {call : CallM} {K : Array Value → Mem → R} :
    opsK Try.prog (fun _ => call) (O22 [1,1,1,0,1,0]) (O22 [1,1,1,0,1,0]).toList 0 #[.int .i64 x0,.int .i64 x1,g2,g3,g4,g5,g6,g7,g8,g9,g10,g11,g12,g13,g14,g15] M K = K #[.int .i64 (IntKind.i64.wrap (x0 + x1)),.int .i64 x1,g2,g3,g4,g5,g6,g7,g8,g9,g10,g11,.int .i64 x0,.int .i64 x1,.int .i64 (IntKind.i64.wrap (x0 + x1)),g15] M := by kernel_rfl
theorem k22_18 : P22 [1,1,1,1] = .seq (P22 [1,1,1,1,0]) (P22 [1,1,1,1,1]) := by kernel_rfl
theorem k22_19 : P22 [1,1,1,1,0] = .region 6 (O22 [1,1,1,1,0]) false := by kernel_rfl
theorem r22_6 {x0 : Int} {M : Mem} {call : CallM} {K : Array Value → Mem → R} :
    opsK Try.prog (fun _ => call) (O22 [1,1,1,1,0]) (O22 [1,1,1,1,0]).toList 0 #[.int .i64 x0,g1,g2,g3,g4,g5,g6,g7,g8,g9,g10,g11,g12,g13,g14,g15] M K = K #[.int .i64 x0,g1,g2,g3,.int .i64 x0,g5,g6,g7,g8,g9,g10,g11,g12,g13,g14,.int .i64 x0] M := by kernel_rfl
theorem k22_20 : P22 [1,1,1,1,1] = .ret := by kernel_rfl
theorem k22_21 : P22 [1,1,1,0,1,1] = .skip := by kernel_rfl
theorem w22_0 {x0 x1 : Int} {M : Mem} {Q : Value → Mem → Prop} (H :
    ((x1 ≤ 0 →
     Q (.int .i64 0) M) ∧
     (¬ (x1 ≤ 0) →
     ∃ v1', binV Try.prog .rem 3 3 (.int .i64 x0) (.int .i64 x1) = some v1' ∧
     ∃ x2', asI .i64 v1' = some x2' ∧
     ((x2' < 0 →
      Q (.int .i64 (IntKind.i64.wrap (x2' + x1))) M) ∧
      (¬ (x2' < 0) →
      Q (.int .i64 (x2')) M))))) :
    Cn Try.prog 22 #[.int .i64 x0, .int .i64 x1] M Q := by
  refine Cn.of b22 d22 t22 ?_
  refine Rn.seq k22_0 (Rn.region k22_1 (fun call K => r22_0) (Rch.leaf (Rn.seq k22_2 (Rn.seq k22_3 (Rn.region k22_4 (fun call K => r22_1) (Rch.leaf ?_))))))
  refine Rn.cnd (v := decide (x1 ≤ 0)) ⟨c22_5, rfl, by kernel_rfl⟩ (fun h => ?_) (fun h => ?_)
  · replace H := H.1 (of_decide_eq_true h)
    refine Rn.seq k22_6 (Rn.region k22_7 (fun call K => r22_2) (Rch.leaf ?_))
    exact Rn.ret k22_8 e22 H
  · replace H := H.2 (of_decide_eq_false h)
    refine Rn.skip k22_10 (Rn.seq k22_11 (Rn.region k22_12 (fun call K => r22_3) (Rch.ex H fun v1' H => Rch.ex H fun x2' H => Rch.leaf (Rn.seq k22_13 (Rn.seq k22_14 (Rn.region k22_15 (fun call K => r22_4) (Rch.leaf ?_)))))))
    refine Rn.cnd (v := decide (x2' < 0)) ⟨c22_16, rfl, by kernel_rfl⟩ (fun h => ?_) (fun h => ?_)
    · replace H := H.1 (of_decide_eq_true h)
      refine Rn.region k22_17 (fun call K => r22_5) (Rch.leaf (Rn.seq k22_18 (Rn.region k22_19 (fun call K => r22_6) (Rch.leaf ?_))))
      exact Rn.ret k22_20 e22 H
    · replace H := H.2 (of_decide_eq_false h)
      refine Rn.skip k22_21 (Rn.seq k22_18 (Rn.region k22_19 (fun call K => r22_6) (Rch.leaf ?_)))
      exact Rn.ret k22_20 e22 H


/-! ### slices.IsSorted[[]uint16,uint16]: function 37 -/
noncomputable abbrev P37 (p : List Nat) : Code := subC (codeOf Try.f37) p
noncomputable abbrev O37 (p : List Nat) : Array Oper := opsOf (subC (codeOf Try.f37) p)
theorem b37 : Try.prog.funcs[37]? = some Try.f37 ∧ (Orc.tab Try.prog).lookup 37 = none := ⟨by kernel_rfl, by kernel_rfl⟩
theorem d37 : Try.f37.body = some (P37 []) := by kernel_rfl
theorem t37 {Ax0 : Option Addr} {lx0 cx0 : Nat} : #[.slice Ax0 lx0 cx0] ++ Array.replicate (Try.f37.ntmps - (#[.slice Ax0 lx0 cx0] : Array Value).size) undef = #[.slice Ax0 lx0 cx0,undef,undef,undef,undef,undef,undef,undef,undef,undef,undef,undef,undef,undef,undef,undef,undef,undef,undef,undef,undef] := by kernel_rfl
theorem k37_0 : P37 [] = .seq (P37 [0]) (P37 [1]) := by kernel_rfl
theorem k37_1 : P37 [0] = .region 0 (O37 [0]) false := by kernel_rfl
theorem r37_0 {M : Mem} {call : CallM} {K : Array Value → Mem → R} :
    opsK Try.prog (fun _ => call) (O37 [0]) (O37 [0]).toList 0 #[g0,g1,g2,g3,g4,g5,g6,g7,g8,g9,g10,g11,g12,g13,g14,g15,g16,g17,g18,g19,g20] M K = K #[g0,g1,.bool false,g3,g4,g5,g6,g7,g8,g9,g10,g11,g12,g13,g14,g15,g16,g17,g18,g19,g20] M := by kernel_rfl
theorem k37_2 : P37 [1] = .seq (P37 [1,0]) (P37 [1,1]) := by kernel_rfl
theorem k37_3 : P37 [1,0] = .seq (P37 [1,0,0]) (P37 [1,0,1]) := by kernel_rfl
theorem k37_4 : P37 [1,0,0] = .region 1 (O37 [1,0,0]) false := by kernel_rfl
theorem r37_1 {Ax0 : Option Addr} {lx0 cx0 : Nat} {M : Mem} {call : CallM} {K : Array Value → Mem → R} :
    opsK Try.prog (fun _ => call) (O37 [1,0,0]) (O37 [1,0,0]).toList 0 #[.slice Ax0 lx0 cx0,g1,g2,g3,g4,g5,g6,g7,g8,g9,g10,g11,g12,g13,g14,g15,g16,g17,g18,g19,g20] M K = K #[.slice Ax0 lx0 cx0,g1,g2,.int .i64 (IntKind.i64.wrap (((lx0 : Int)) - 1)),.slice Ax0 lx0 cx0,.int .i64 ((lx0 : Int)),.int .i64 (IntKind.i64.wrap (((lx0 : Int)) - 1)),g7,g8,g9,g10,g11,g12,g13,g14,g15,g16,g17,g18,g19,g20] M := by kernel_rfl
theorem k37_5 : P37 [1,0,1] = .block 0 (P37 [1,0,1,0]) := by kernel_rfl
theorem k37_6 : P37 [1,0,1,0] = .loop (P37 [1,0,1,0,0]) := by kernel_rfl
theorem k37_7 : P37 [1,0,1,0,0] = .seq (P37 [1,0,1,0,0,0]) (P37 [1,0,1,0,0,1]) := by kernel_rfl
theorem k37_8 : P37 [1,0,1,0,0,0] = .seq (P37 [1,0,1,0,0,0,0]) (P37 [1,0,1,0,0,0,1]) := by kernel_rfl
theorem k37_9 : P37 [1,0,1,0,0,0,0] = .region 2 (O37 [1,0,1,0,0,0,0]) false := by kernel_rfl
theorem r37_2 {x3 : Int} {M : Mem} {call : CallM} {K : Array Value → Mem → R} :
    opsK Try.prog (fun _ => call) (O37 [1,0,1,0,0,0,0]) (O37 [1,0,1,0,0,0,0]).toList 0 #[g0,g1,g2,.int .i64 x3,g4,g5,g6,g7,g8,g9,g10,g11,g12,g13,g14,g15,g16,g17,g18,g19,g20] M K = K #[g0,g1,g2,.int .i64 x3,g4,g5,g6,.int .i64 x3,.bool (decide (x3 > 0)),g9,g10,g11,g12,g13,g14,g15,g16,g17,g18,g19,g20] M := by kernel_rfl
theorem c37_10 : P37 [1,0,1,0,0,0,1] = .cond (.tmp 8) (P37 [1,0,1,0,0,0,1,0]) (P37 [1,0,1,0,0,0,1,1]) := by kernel_rfl
theorem k37_11 : P37 [1,0,1,0,0,0,1,0] = .skip := by kernel_rfl
theorem k37_12 : P37 [1,0,1,0,0,1] = .seq (P37 [1,0,1,0,0,1,0]) (P37 [1,0,1,0,0,1,1]) := by kernel_rfl
theorem k37_13 : P37 [1,0,1,0,0,1,0] = .block 1 (P37 [1,0,1,0,0,1,0,0]) := by kernel_rfl
theorem k37_14 : P37 [1,0,1,0,0,1,0,0] = .seq (P37 [1,0,1,0,0,1,0,0,0]) (P37 [1,0,1,0,0,1,0,0,1]) := by kernel_rfl
theorem k37_15 : P37 [1,0,1,0,0,1,0,0,0] = .region 4 (O37 [1,0,1,0,0,1,0,0,0]) true ∧ drawOk (O37 [1,0,1,0,0,1,0,0,0]) = true := ⟨by kernel_rfl, by kernel_rfl⟩
theorem r37_4 {Ax0 : Option Addr} {lx0 cx0 : Nat} {x3 : Int} {M : Mem} {call : CallM} {K : Array Value → Mem → R} :
    opsI Try.prog (callAt call (O37 [1,0,1,0,0,1,0,0,0])) (O37 [1,0,1,0,0,1,0,0,0]) (ordOf (O37 [1,0,1,0,0,1,0,0,0])) [] #[.slice Ax0 lx0 cx0,g1,g2,.int .i64 x3,g4,g5,g6,g7,g8,g9,g10,g11,g12,g13,g14,g15,g16,g17,g18,g19,g20] M K = (idxA Ax0 lx0 1 x3).bind fun a_1 => (M.intAt .u16 a_1.block a_1.off).bind fun x_2 => (idxA Ax0 lx0 1 (IntKind.i64.wrap (x3 - 1))).bind fun a_3 => (M.intAt .u16 a_3.block a_3.off).bind fun x_4 => (call 41 #[.int .u16 x_2, .int .u16 x_4] M).bind fun r_5 => (asB r_5.1).bind fun b_6 => K #[.slice Ax0 lx0 cx0,g1,g2,.int .i64 x3,g4,g5,g6,g7,g8,g9,g10,.slice Ax0 lx0 cx0,.int .i64 x3,.pointer (some a_1),.int .u16 x_2,.slice Ax0 lx0 cx0,.int .i64 x3,.int .i64 (IntKind.i64.wrap (x3 - 1)),.pointer (some a_3),.int .u16 x_4,.bool b_6] r_5.2 := by kernel_rfl
theorem c37_16 : P37 [1,0,1,0,0,1,0,0,1] = .cond (.tmp 20) (P37 [1,0,1,0,0,1,0,0,1,0]) (P37 [1,0,1,0,0,1,0,0,1,1]) := by kernel_rfl
theorem k37_17 : P37 [1,0,1,0,0,1,0,0,1,0] = .seq (P37 [1,0,1,0,0,1,0,0,1,0,0]) (P37 [1,0,1,0,0,1,0,0,1,0,1]) := by kernel_rfl
theorem k37_18 : P37 [1,0,1,0,0,1,0,0,1,0,0] = .region 5 (O37 [1,0,1,0,0,1,0,0,1,0,0]) false := by kernel_rfl
theorem r37_5 {M : Mem} {call : CallM} {K : Array Value → Mem → R} :
    opsK Try.prog (fun _ => call) (O37 [1,0,1,0,0,1,0,0,1,0,0]) (O37 [1,0,1,0,0,1,0,0,1,0,0]).toList 0 #[g0,g1,g2,g3,g4,g5,g6,g7,g8,g9,g10,g11,g12,g13,g14,g15,g16,g17,g18,g19,g20] M K = K #[g0,g1,.bool false,g3,g4,g5,g6,g7,g8,g9,g10,g11,g12,g13,g14,g15,g16,g17,g18,g19,g20] M := by kernel_rfl
theorem k37_19 : P37 [1,0,1,0,0,1,0,0,1,0,1] = .ret := by kernel_rfl
theorem e37 {M : Mem} : finish Try.prog Try.f37 #[g0,g1,g2,g3,g4,g5,g6,g7,g8,g9,g10,g11,g12,g13,g14,g15,g16,g17,g18,g19,g20] M = some (g2, M) := by kernel_rfl
theorem k37_21 : P37 [1,0,1,0,0,1,0,0,1,1] = .skip := by kernel_rfl
theorem k37_22 : P37 [1,0,1,0,0,1,1] = .region 3 (O37 [1,0,1,0,0,1,1]) false := by kernel_rfl
theorem r37_3 {x3 : Int} {M : Mem} {call : CallM} {K : Array Value → Mem → R} :
    opsK Try.prog (fun _ => call) (O37 [1,0,1,0,0,1,1]) (O37 [1,0,1,0,0,1,1]).toList 0 #[g0,g1,g2,.int .i64 x3,g4,g5,g6,g7,g8,g9,g10,g11,g12,g13,g14,g15,g16,g17,g18,g19,g20] M K = K #[g0,g1,g2,.int .i64 (IntKind.i64.wrap (x3 - 1)),g4,g5,g6,g7,g8,.int .i64 x3,.int .i64 (IntKind.i64.wrap (x3 - 1)),g11,g12,g13,g14,g15,g16,g17,g18,g19,g20] M := by kernel_rfl
theorem k37_23 : P37 [1,0,1,0,0,0,1,1] = .exit 0 := by kernel_rfl
theorem k37_24 : P37 [1,1] = .seq (P37 [1,1,0]) (P37 [1,1,1]) := by kernel_rfl
theorem k37_25 : P37 [1,1,0] = .region 6 (O37 [1,1,0]) false := by kernel_rfl
theorem r37_6 {M : Mem} {call : CallM} {K : Array Value → Mem → R} :
    opsK Try.prog (fun _ => call) (O37 [1,1,0]) (O37 [1,1,0]).toList 0 #[g0,g1,g2,g3,g4,g5,g6,g7,g8,g9,g10,g11,g12,g13,g14,g15,g16,g17,g18,g19,g20] M K = K #[g0,g1,.bool true,g3,g4,g5,g6,g7,g8,g9,g10,g11,g12,g13,g14,g15,g16,g17,g18,g19,g20] M := by kernel_rfl
theorem k37_26 : P37 [1,1,1] = .ret := by kernel_rfl
noncomputable def S37_1 : List Item := [.code (P37 [1,0,1,0,0]), .inLoop (P37 [1,0,1,0,0]), .inBlock 0, .code (P37 [1,1])]
def A37_1 (Ax0 : Option Addr) (lx0 cx0 : Nat) (x3 : Int) (M : Mem) (Q : Value → Mem → Prop) : Prop := ∀ (g1 g2 g4 g5 g6 g7 g8 g9 g10 g11 g12 g13 g14 g15 g16 g17 g18 g19 g20 : Value), Rn Try.prog Try.f37 S37_1 #[.slice Ax0 lx0 cx0, g1, g2, .int .i64 x3, g4, g5, g6, g7, g8, g9, g10, g11, g12, g13, g14, g15, g16, g17, g18, g19, g20] M Q
theorem w37_0 {Ax0 : Option Addr} {lx0 cx0 : Nat} {M : Mem} {Q : Value → Mem → Prop} (H :
    A37_1 Ax0 lx0 cx0 (IntKind.i64.wrap (((lx0 : Int)) - 1)) M Q) :
    Cn Try.prog 37 #[.slice Ax0 lx0 cx0] M Q := by
  refine Cn.of b37 d37 t37 ?_
  refine Rn.seq k37_0 (Rn.region k37_1 (fun call K => r37_0) (Rch.leaf (Rn.seq k37_2 (Rn.seq k37_3 (Rn.region k37_4 (fun call K => r37_1) (Rch.leaf (Rn.block k37_5 (Rn.loop k37_6 ?_))))))))
  exact H _ _ _ _ _ _ _ _ _ _ _ _ _ _ _ _ _ _ _

theorem w37_1 {Ax0 : Option Addr} {lx0 cx0 : Nat} {x3 : Int} {M : Mem} {Q : Value → Mem → Prop} (H :
    ((x3 > 0 →
     ∃ a1', idxA Ax0 lx0 1 x3 = some a1' ∧
     ∃ x2', M.intAt .u16 a1'.block a1'.off = some x2' ∧
     ∃ a3', idxA Ax0 lx0 1 (IntKind.i64.wrap (x3 - 1)) = some a3' ∧
     ∃ x4', M.intAt .u16 a3'.block a3'.off = some x4' ∧
     Cn Try.prog 41 #[.int .u16 x2', .int .u16 x4'] M fun v5' N5' =>
      ∃ b6', asB v5' = some b6' ∧
      ((b6' = true →
       Q (.bool false) N5') ∧
       (b6' = false →
       A37_1 Ax0 lx0 cx0 (IntKind.i64.wrap (x3 - 1)) N5' Q))) ∧
     (¬ (x3 > 0) →
     Q (.bool true) M))) :
    A37_1 Ax0 lx0 cx0 x3 M Q := by
  intro g1 g2 g4 g5 g6 g7 g8 g9 g10 g11 g12 g13 g14 g15 g16 g17 g18 g19 g20
  refine Rn.seq k37_7 (Rn.seq k37_8 (Rn.region k37_9 (fun call K => r37_2) (Rch.leaf ?_)))
  refine Rn.cnd (v := decide (x3 > 0)) ⟨c37_10, rfl, by kernel_rfl⟩ (fun h => ?_) (fun h => ?_)
  · replace H := H.1 (of_decide_eq_true h)
    refine Rn.skip k37_11 (Rn.seq k37_12 (Rn.block k37_13 (Rn.seq k37_14 (Rn.regionD k37_15 (fun call K => r37_4) (Rch.ex H fun a1' H => Rch.ex H fun x2' H => Rch.ex H fun a3' H => Rch.ex H fun x4' H => Rch.call H fun v5' N5' H => Rch.ex H fun b6' H => Rch.leaf ?_)))))
    refine Rn.cnd (v := b6') ⟨c37_16, rfl, by kernel_rfl⟩ (fun h => ?_) (fun h => ?_)
    · replace H := H.1 (h)
      refine Rn.seq k37_17 (Rn.region k37_18 (fun call K => r37_5) (Rch.leaf ?_))
      exact Rn.ret k37_19 e37 H
    · replace H := H.2 (h)
      refine Rn.skip k37_21 (Rn.blk (Rn.region k37_22 (fun call K => r37_3) (Rch.leaf (Rn.lp ?_))))
      exact H _ _ _ _ _ _ _ _ _ _ _ _ _ _ _ _ _ _ _
  · replace H := H.2 (of_decide_eq_false h)
    refine Rn.exit k37_23 rfl (Rn.seq k37_24 (Rn.region k37_25 (fun call K => r37_6) (Rch.leaf ?_)))
    exact Rn.ret k37_26 e37 H


/-! ### zoetrope/cdf.Check: function 19 -/
noncomputable abbrev P19 (p : List Nat) : Code := subC (codeOf Try.f19) p
noncomputable abbrev O19 (p : List Nat) : Array Oper := opsOf (subC (codeOf Try.f19) p)
theorem b19 : Try.prog.funcs[19]? = some Try.f19 ∧ (Orc.tab Try.prog).lookup 19 = none := ⟨by kernel_rfl, by kernel_rfl⟩
theorem d19 : Try.f19.body = some (P19 []) := by kernel_rfl
theorem t19 {Ax0_0 : Option Addr} {lx0_0 cx0_0 : Nat} {x0_1 : Int} : #[.agg #[.slice Ax0_0 lx0_0 cx0_0, .int .i64 x0_1]] ++ Array.replicate (Try.f19.ntmps - (#[.agg #[.slice Ax0_0 lx0_0 cx0_0, .int .i64 x0_1]] : Array Value).size) undef = #[.agg #[.slice Ax0_0 lx0_0 cx0_0, .int .i64 x0_1],undef,undef,undef,undef,undef,undef,undef,undef,undef,undef,undef,undef,undef,undef,undef,undef,undef,undef,undef,undef,undef,undef,undef,undef,undef,undef,undef,undef] := by kernel_rfl
theorem k19_0 : P19 [] = .seq (P19 [0]) (P19 [1]) := by kernel_rfl
theorem k19_1 : P19 [0] = .region 0 (O19 [0]) false := by kernel_rfl
theorem r19_0 {Ax0_0 : Option Addr} {lx0_0 cx0_0 : Nat} {x0_1 : Int} {M : Mem} {call : CallM} {K : Array Value → Mem → R} :
    opsK Try.prog (fun _ => call) (O19 [0]) (O19 [0]).toList 0 #[.agg #[.slice Ax0_0 lx0_0 cx0_0, .int .i64 x0_1],g1,g2,g3,g4,g5,g6,g7,g8,g9,g10,g11,g12,g13,g14,g15,g16,g17,g18,g19,g20,g21,g22,g23,g24,g25,g26,g27,g28] M K = K #[.agg #[.slice Ax0_0 lx0_0 cx0_0, .int .i64 x0_1],.pointer (some ⟨2 * M.nb.size, 0, none⟩),.int .i64 0,g3,g4,g5,g6,g7,g8,g9,g10,g11,g12,g13,g14,g15,g16,g17,g18,g19,g20,g21,g22,g23,g24,g25,g26,g27,g28] (M.new (.cells #[.slice Ax0_0 lx0_0 cx0_0, .int .i64 x0_1] 24)) := by kernel_rfl
theorem k19_2 : P19 [1] = .seq (P19 [1,0]) (P19 [1,1]) := by kernel_rfl
theorem k19_3 : P19 [1,0] = .block 0 (P19 [1,0,0]) := by kernel_rfl
theorem k19_4 : P19 [1,0,0] = .seq (P19 [1,0,0,0]) (P19 [1,0,0,1]) := by kernel_rfl
theorem k19_5 : P19 [1,0,0,0] = .seq (P19 [1,0,0,0,0]) (P19 [1,0,0,0,1]) := by kernel_rfl
theorem k19_6 : P19 [1,0,0,0,0] = .region 1 (O19 [1,0,0,0,0]) false := by kernel_rfl
theorem r19_1 {x1 : Option Addr} {M : Mem} {call : CallM} {K : Array Value → Mem → R} :
    opsK Try.prog (fun _ => call) (O19 [1,0,0,0,0]) (O19 [1,0,0,0,0]).toList 0 #[g0,.pointer x1,g2,g3,g4,g5,g6,g7,g8,g9,g10,g11,g12,g13,g14,g15,g16,g17,g18,g19,g20,g21,g22,g23,g24,g25,g26,g27,g28] M K = (x1).bind fun a_1 => (M.slAt a_1.block a_1.off).bind fun s_2 => (call 36 #[.int .i64 ((s_2.2.1 : Int))] M).bind fun r_3 => (asB r_3.1).bind fun b_4 => K #[g0,.pointer x1,g2,.bool (!b_4),.pointer (some ⟨a_1.block, a_1.off, none⟩),.slice s_2.1 (s_2.2.1) (s_2.2.2),.int .i64 ((s_2.2.1 : Int)),.bool b_4,.bool (!b_4),g9,g10,g11,g12,g13,g14,g15,g16,g17,g18,g19,g20,g21,g22,g23,g24,g25,g26,g27,g28] r_3.2 := by kernel_rfl
theorem c19_7 : P19 [1,0,0,0,1] = .cond (.tmp 3) (P19 [1,0,0,0,1,0]) (P19 [1,0,0,0,1,1]) := by kernel_rfl
theorem k19_8 : P19 [1,0,0,0,1,0] = .skip := by kernel_rfl
theorem c19_9 : P19 [1,0,0,1] = .cond (.tmp 3) (P19 [1,0,0,1,0]) (P19 [1,0,0,1,1]) := by kernel_rfl
theorem k19_10 : P19 [1,0,0,1,0] = .seq (P19 [1,0,0,1,0,0]) (P19 [1,0,0,1,0,1]) := by kernel_rfl
theorem k19_11 : P19 [1,0,0,1,0,0] = .region 4 (O19 [1,0,0,1,0,0]) false := by kernel_rfl
theorem r19_4 {M : Mem} {call : CallM} {K : Array Value → Mem → R} :
    opsK Try.prog (fun _ => call) (O19 [1,0,0,1,0,0]) (O19 [1,0,0,1,0,0]).toList 0 #[g0,g1,g2,g3,g4,g5,g6,g7,g8,g9,g10,g11,g12,g13,g14,g15,g16,g17,g18,g19,g20,g21,g22,g23,g24,g25,g26,g27,g28] M K = K #[g0,g1,.int .i64 2,g3,g4,g5,g6,g7,g8,g9,g10,g11,g12,g13,g14,g15,g16,g17,g18,g19,g20,g21,g22,g23,g24,g25,g26,g27,g28] M := by kernel_rfl
theorem k19_12 : P19 [1,0,0,1,0,1] = .ret := by kernel_rfl
theorem e19 {M : Mem} : finish Try.prog Try.f19 #[g0,g1,g2,g3,g4,g5,g6,g7,g8,g9,g10,g11,g12,g13,g14,g15,g16,g17,g18,g19,g20,g21,g22,g23,g24,g25,g26,g27,g28] M = some (g2, M) := by kernel_rfl
theorem k19_14 : P19 [1,0,0,1,1] = .seq (P19 [1,0,0,1,1,0]) (P19 [1,0,0,1,1,1]) := by kernel_rfl
theorem k19_15 : P19 [1,0,0,1,1,0] = .seq (P19 [1,0,0,1,1,0,0]) (P19 [1,0,0,1,1,0,1]) := by kernel_rfl
theorem k19_16 : P19 [1,0,0,1,1,0,0] = .region 5 (O19 [1,0,0,1,1,0,0]) false := by kernel_rfl
theorem r19_5 {x1 : Option Addr} {M : Mem} {call : CallM} {K : Array Value → Mem → R} :
    opsK Try.prog (fun _ => call) (O19 [1,0,0,1,1,0,0]) (O19 [1,0,0,1,1,0,0]).toList 0 #[g0,.pointer x1,g2,g3,g4,g5,g6,g7,g8,g9,g10,g11,g12,g13,g14,g15,g16,g17,g18,g19,g20,g21,g22,g23,g24,g25,g26,g27,g28] M K = (x1).bind fun a_1 => (M.slAt a_1.block a_1.off).bind fun s_2 => (call 37 #[.slice s_2.1 (s_2.2.1) (s_2.2.2)] M).bind fun r_3 => (asB r_3.1).bind fun b_4 => K #[g0,.pointer x1,g2,g3,g4,g5,g6,g7,g8,g9,g10,g11,g12,g13,g14,.bool (!b_4),.pointer (some ⟨a_1.block, a_1.off, none⟩),.slice s_2.1 (s_2.2.1) (s_2.2.2),.bool b_4,.bool (!b_4),g20,g21,g22,g23,g24,g25,g26,g27,g28] r_3.2 := by kernel_rfl
theorem c19_17 : P19 [1,0,0,1,1,0,1] = .cond (.tmp 15) (P19 [1,0,0,1,1,0,1,0]) (P19 [1,0,0,1,1,0,1,1]) := by kernel_rfl
theorem k19_18 : P19 [1,0,0,1,1,0,1,0] = .skip := by kernel_rfl
theorem c19_19 : P19 [1,0,0,1,1,1] = .cond (.tmp 15) (P19 [1,0,0,1,1,1,0]) (P19 [1,0,0,1,1,1,1]) := by kernel_rfl
theorem k19_20 : P19 [1,0,0,1,1,1,0] = .seq (P19 [1,0,0,1,1,1,0,0]) (P19 [1,0,0,1,1,1,0,1]) := by kernel_rfl
theorem k19_21 : P19 [1,0,0,1,1,1,0,0] = .region 7 (O19 [1,0,0,1,1,1,0,0]) false := by kernel_rfl
theorem r19_7 {M : Mem} {call : CallM} {K : Array Value → Mem → R} :
    opsK Try.prog (fun _ => call) (O19 [1,0,0,1,1,1,0,0]) (O19 [1,0,0,1,1,1,0,0]).toList 0 #[g0,g1,g2,g3,g4,g5,g6,g7,g8,g9,g10,g11,g12,g13,g14,g15,g16,g17,g18,g19,g20,g21,g22,g23,g24,g25,g26,g27,g28] M K = K #[g0,g1,.int .i64 2,g3,g4,g5,g6,g7,g8,g9,g10,g11,g12,g13,g14,g15,g16,g17,g18,g19,g20,g21,g22,g23,g24,g25,g26,g27,g28] M := by kernel_rfl
theorem k19_22 : P19 [1,0,0,1,1,1,0,1] = .ret := by kernel_rfl
theorem k19_23 : P19 [1,0,0,1,1,1,1] = .skip := by kernel_rfl
theorem k19_24 : P19 [1,1] = .seq (P19 [1,1,0]) (P19 [1,1,1]) := by kernel_rfl
theorem k19_25 : P19 [1,1,0] = .region 8 (O19 [1,1,0]) false := by kernel_rfl
theorem r19_8 {M : Mem} {call : CallM} {K : Array Value → Mem → R} :
    opsK Try.prog (fun _ => call) (O19 [1,1,0]) (O19 [1,1,0]).toList 0 #[g0,g1,g2,g3,g4,g5,g6,g7,g8,g9,g10,g11,g12,g13,g14,g15,g16,g17,g18,g19,g20,g21,g22,g23,g24,g25,g26,g27,g28] M K = K #[g0,g1,.int .i64 0,g3,g4,g5,g6,g7,g8,g9,g10,g11,g12,g13,g14,g15,g16,g17,g18,g19,g20,g21,g22,g23,g24,g25,g26,g27,g28] M := by kernel_rfl
theorem k19_26 : P19 [1,1,1] = .ret := by kernel_rfl
theorem k19_27 : P19 [1,0,0,1,1,0,1,1] = .region 6 (O19 [1,0,0,1,1,0,1,1]) false := by kernel_rfl
theorem r19_6 {x1 : Option Addr} {M : Mem} {call : CallM} {K : Array Value → Mem → R} :
    opsK Try.prog (fun _ => call) (O19 [1,0,0,1,1,0,1,1]) (O19 [1,0,0,1,1,0,1,1]).toList 0 #[g0,.pointer x1,g2,g3,g4,g5,g6,g7,g8,g9,g10,g11,g12,g13,g14,g15,g16,g17,g18,g19,g20,g21,g22,g23,g24,g25,g26,g27,g28] M K = (x1).bind fun a_1 => (M.slAt a_1.block a_1.off).bind fun s_2 => (x1).bind fun a_3 => (M.slAt a_3.block a_3.off).bind fun s_4 => (idxA s_2.1 (s_2.2.1) 1 (IntKind.i64.wrap (((s_4.2.1 : Int)) - 1))).bind fun a_5 => (M.intAt .u16 a_5.block a_5.off).bind fun x_6 => K #[g0,.pointer x1,g2,g3,g4,g5,g6,g7,g8,g9,g10,g11,g12,g13,g14,.bool (x_6 != 32768),g16,g17,g18,g19,.pointer (some ⟨a_1.block, a_1.off, none⟩),.slice s_2.1 (s_2.2.1) (s_2.2.2),.pointer (some ⟨a_3.block, a_3.off, none⟩),.slice s_4.1 (s_4.2.1) (s_4.2.2),.int .i64 ((s_4.2.1 : Int)),.int .i64 (IntKind.i64.wrap (((s_4.2.1 : Int)) - 1)),.pointer (some a_5),.int .u16 x_6,.bool (x_6 != 32768)] M := by kernel_rfl
theorem k19_28 : P19 [1,0,0,0,1,1] = .seq (P19 [1,0,0,0,1,1,0]) (P19 [1,0,0,0,1,1,1]) := by kernel_rfl
theorem k19_29 : P19 [1,0,0,0,1,1,0] = .region 2 (O19 [1,0,0,0,1,1,0]) false := by kernel_rfl
theorem r19_2 {x1 : Option Addr} {M : Mem} {call : CallM} {K : Array Value → Mem → R} :
    opsK Try.prog (fun _ => call) (O19 [1,0,0,0,1,1,0]) (O19 [1,0,0,0,1,1,0]).toList 0 #[g0,.pointer x1,g2,g3,g4,g5,g6,g7,g8,g9,g10,g11,g12,g13,g14,g15,g16,g17,g18,g19,g20,g21,g22,g23,g24,g25,g26,g27,g28] M K = (x1).bind fun a_1 => (M.intAt .i64 a_1.block (a_1.off + 1)).bind fun x_2 => K #[g0,.pointer x1,g2,.bool (decide (x_2 < 0)),g4,g5,g6,g7,g8,.pointer (some ⟨a_1.block, a_1.off + 1, none⟩),.int .i64 x_2,.bool (decide (x_2 < 0)),g12,g13,g14,g15,g16,g17,g18,g19,g20,g21,g22,g23,g24,g25,g26,g27,g28] M := by kernel_rfl
theorem c19_30 : P19 [1,0,0,0,1,1,1] = .cond (.tmp 3) (P19 [1,0,0,0,1,1,1,0]) (P19 [1,0,0,0,1,1,1,1]) := by kernel_rfl
theorem k19_31 : P19 [1,0,0,0,1,1,1,0] = .skip := by kernel_rfl
theorem k19_32 : P19 [1,0,0,0,1,1,1,1] = .region 3 (O19 [1,0,0,0,1,1,1,1]) false := by kernel_rfl
theorem r19_3 {x1 : Option Addr} {M : Mem} {call : CallM} {K : Array Value → Mem → R} :
    opsK Try.prog (fun _ => call) (O19 [1,0,0,0,1,1,1,1]) (O19 [1,0,0,0,1,1,1,1]).toList 0 #[g0,.pointer x1,g2,g3,g4,g5,g6,g7,g8,g9,g10,g11,g12,g13,g14,g15,g16,g17,g18,g19,g20,g21,g22,g23,g24,g25,g26,g27,g28] M K = (x1).bind fun a_1 => (M.intAt .i64 a_1.block (a_1.off + 1)).bind fun x_2 => K #[g0,.pointer x1,g2,.bool (decide (x_2 > 32)),g4,g5,g6,g7,g8,g9,g10,g11,.pointer (some ⟨a_1.block, a_1.off + 1, none⟩),.int .i64 x_2,.bool (decide (x_2 > 32)),g15,g16,g17,g18,g19,g20,g21,g22,g23,g24,g25,g26,g27,g28] M := by kernel_rfl
theorem w19_0 {Ax0_0 : Option Addr} {lx0_0 cx0_0 : Nat} {x0_1 : Int} {M : Mem} {Q : Value → Mem → Prop} (H :
    ∃ s1', (M.new (.cells #[.slice Ax0_0 lx0_0 cx0_0, .int .i64 x0_1] 24)).slAt (2 * M.nb.size) 0 = some s1' ∧
    Cn Try.prog 36 #[.int .i64 ((s1'.2.1 : Int))] (M.new (.cells #[.slice Ax0_0 lx0_0 cx0_0, .int .i64 x0_1] 24)) fun v2' N2' =>
     ∃ b3', asB v2' = some b3' ∧
     (((!b3') = true →
      (((!b3') = true →
       Q (.int .i64 2) N2') ∧
       ((!b3') = false →
       ∃ s4', N2'.slAt (2 * M.nb.size) 0 = some s4' ∧
       Cn Try.prog 37 #[.slice s4'.1 (s4'.2.1) (s4'.2.2)] N2' fun v5' N5' =>
        ∃ b6', asB v5' = some b6' ∧
        (((!b6') = true →
         (((!b6') = true →
          Q (.int .i64 2) N5') ∧
          ((!b6') = false →
          Q (.int .i64 0) N5'))) ∧
         ((!b6') = false →
         ∃ s7', N5'.slAt (2 * M.nb.size) 0 = some s7' ∧
         ∃ s8', N5'.slAt (2 * M.nb.size) 0 = some s8' ∧
         ∃ a9', idxA s7'.1 (s7'.2.1) 1 (IntKind.i64.wrap (((s8'.2.1 : Int)) - 1)) = some a9' ∧
         ∃ x10', N5'.intAt .u16 a9'.block a9'.off = some x10' ∧
         ((x10' ≠ 32768 →
          Q (.int .i64 2) N5') ∧
          (x10' = 32768 →
          Q (.int .i64 0) N5'))))))) ∧
      ((!b3') = false →
      ∃ x11', N2'.intAt .i64 (2 * M.nb.size) (0 + 1) = some x11' ∧
      ((x11' < 0 →
       ((x11' < 0 →
        Q (.int .i64 2) N2') ∧
        (¬ (x11' < 0) →
        ∃ s12', N2'.slAt (2 * M.nb.size) 0 = some s12' ∧
        Cn Try.prog 37 #[.slice s12'.1 (s12'.2.1) (s12'.2.2)] N2' fun v13' N13' =>
         ∃ b14', asB v13' = some b14' ∧
         (((!b14') = true →
          (((!b14') = true →
           Q (.int .i64 2) N13') ∧
           ((!b14') = false →
           Q (.int .i64 0) N13'))) ∧
          ((!b14') = false →
          ∃ s15', N13'.slAt (2 * M.nb.size) 0 = some s15' ∧
          ∃ s16', N13'.slAt (2 * M.nb.size) 0 = some s16' ∧
          ∃ a17', idxA s15'.1 (s15'.2.1) 1 (IntKind.i64.wrap (((s16'.2.1 : Int)) - 1)) = some a17' ∧
          ∃ x18', N13'.intAt .u16 a17'.block a17'.off = some x18' ∧
          ((x18' ≠ 32768 →
           Q (.int .i64 2) N13') ∧
           (x18' = 32768 →
           Q (.int .i64 0) N13'))))))) ∧
       (¬ (x11' < 0) →
       ∃ x19', N2'.intAt .i64 (2 * M.nb.size) (0 + 1) = some x19' ∧
       ((x19' > 32 →
        Q (.int .i64 2) N2') ∧
        (¬ (x19' > 32) →
        ∃ s20', N2'.slAt (2 * M.nb.size) 0 = some s20' ∧
        Cn Try.prog 37 #[.slice s20'.1 (s20'.2.1) (s20'.2.2)] N2' fun v21' N21' =>
         ∃ b22', asB v21' = some b22' ∧
         (((!b22') = true →
          (((!b22') = true →
           Q (.int .i64 2) N21') ∧
           ((!b22') = false →
           Q (.int .i64 0) N21'))) ∧
          ((!b22') = false →
          ∃ s23', N21'.slAt (2 * M.nb.size) 0 = some s23' ∧
          ∃ s24', N21'.slAt (2 * M.nb.size) 0 = some s24' ∧
          ∃ a25', idxA s23'.1 (s23'.2.1) 1 (IntKind.i64.wrap (((s24'.2.1 : Int)) - 1)) = some a25' ∧
          ∃ x26', N21'.intAt .u16 a25'.block a25'.off = some x26' ∧
          ((x26' ≠ 32768 →
           Q (.int .i64 2) N21') ∧
           (x26' = 32768 →
           Q (.int .i64 0) N21'))))))))))) :
    Cn Try.prog 19 #[.agg #[.slice Ax0_0 lx0_0 cx0_0, .int .i64 x0_1]] M Q := by
  refine Cn.of b19 d19 t19 ?_
  refine Rn.seq k19_0 (Rn.region k19_1 (fun call K => r19_0) (Rch.leaf (Rn.seq k19_2 (Rn.block k19_3 (Rn.seq k19_4 (Rn.seq k19_5 (Rn.region k19_6 (fun call K => r19_1) (Rch.bind (x := ⟨2 * M.nb.size, 0, none⟩) rfl (Rch.ex H fun s1' H => Rch.call H fun v2' N2' H => Rch.ex H fun b3' H => ?_)))))))))
  refine Rch.leaf ?_
  refine Rn.cnd (v := !b3') ⟨c19_7, rfl, by kernel_rfl⟩ (fun h => ?_) (fun h => ?_)
  · replace H := H.1 (h)
    refine Rn.skip k19_8 ?_
    refine Rn.cnd (v := !b3') ⟨c19_9, rfl, by kernel_rfl⟩ (fun h => ?_) (fun h => ?_)
    · replace H := H.1 (h)
      refine Rn.seq k19_10 (Rn.region k19_11 (fun call K => r19_4) (Rch.leaf ?_))
      exact Rn.ret k19_12 e19 H
    · replace H := H.2 (h)
      refine Rn.seq k19_14 (Rn.seq k19_15 (Rn.region k19_16 (fun call K => r19_5) (Rch.bind (x := ⟨2 * M.nb.size, 0, none⟩) rfl (Rch.ex H fun s4' H => Rch.call H fun v5' N5' H => Rch.ex H fun b6' H => Rch.leaf ?_))))
      refine Rn.cnd (v := !b6') ⟨c19_17, rfl, by kernel_rfl⟩ (fun h => ?_) (fun h => ?_)
      · replace H := H.1 (h)
        refine Rn.skip k19_18 ?_
        refine Rn.cnd (v := !b6') ⟨c19_19, rfl, by kernel_rfl⟩ (fun h => ?_) (fun h => ?_)
        · replace H := H.1 (h)
          refine Rn.seq k19_20 (Rn.region k19_21 (fun call K => r19_7) (Rch.leaf ?_))
          exact Rn.ret k19_22 e19 H
        · replace H := H.2 (h)
          refine Rn.skip k19_23 (Rn.blk (Rn.seq k19_24 (Rn.region k19_25 (fun call K => r19_8) (Rch.leaf ?_))))
          exact Rn.ret k19_26 e19 H
      · replace H := H.2 (h)
        refine Rn.region k19_27 (fun call K => r19_6) (Rch.bind (x := ⟨2 * M.nb.size, 0, none⟩) rfl (Rch.ex H fun s7' H => Rch.bind (x := ⟨2 * M.nb.size, 0, none⟩) rfl (Rch.ex H fun s8' H => Rch.ex H fun a9' H => Rch.ex H fun x10' H => Rch.leaf ?_)))
        refine Rn.cnd (v := x10' != 32768) ⟨c19_19, rfl, by kernel_rfl⟩ (fun h => ?_) (fun h => ?_)
        · replace H := H.1 (ne_of_bneT h)
          refine Rn.seq k19_20 (Rn.region k19_21 (fun call K => r19_7) (Rch.leaf ?_))
          exact Rn.ret k19_22 e19 H
        · replace H := H.2 (eq_of_bneF h)
          refine Rn.skip k19_23 (Rn.blk (Rn.seq k19_24 (Rn.region k19_25 (fun call K => r19_8) (Rch.leaf ?_))))
          exact Rn.ret k19_26 e19 H
  · replace H := H.2 (h)
    refine Rn.seq k19_28 (Rn.region k19_29 (fun call K => r19_2) (Rch.bind (x := ⟨2 * M.nb.size, 0, none⟩) rfl (Rch.ex H fun x11' H => Rch.leaf ?_)))
    refine Rn.cnd (v := decide (x11' < 0)) ⟨c19_30, rfl, by kernel_rfl⟩ (fun h => ?_) (fun h => ?_)
    · replace H := H.1 (of_decide_eq_true h)
      refine Rn.skip k19_31 ?_
      refine Rn.cnd (v := decide (x11' < 0)) ⟨c19_9, rfl, by kernel_rfl⟩ (fun h => ?_) (fun h => ?_)
      · replace H := H.1 (of_decide_eq_true h)
        refine Rn.seq k19_10 (Rn.region k19_11 (fun call K => r19_4) (Rch.leaf ?_))
        exact Rn.ret k19_12 e19 H
      · replace H := H.2 (of_decide_eq_false h)
        refine Rn.seq k19_14 (Rn.seq k19_15 (Rn.region k19_16 (fun call K => r19_5) (Rch.bind (x := ⟨2 * M.nb.size, 0, none⟩) rfl (Rch.ex H fun s12' H => Rch.call H fun v13' N13' H => Rch.ex H fun b14' H => Rch.leaf ?_))))
        refine Rn.cnd (v := !b14') ⟨c19_17, rfl, by kernel_rfl⟩ (fun h => ?_) (fun h => ?_)
        · replace H := H.1 (h)
          refine Rn.skip k19_18 ?_
          refine Rn.cnd (v := !b14') ⟨c19_19, rfl, by kernel_rfl⟩ (fun h => ?_) (fun h => ?_)
          · replace H := H.1 (h)
            refine Rn.seq k19_20 (Rn.region k19_21 (fun call K => r19_7) (Rch.leaf ?_))
            exact Rn.ret k19_22 e19 H
          · replace H := H.2 (h)
            refine Rn.skip k19_23 (Rn.blk (Rn.seq k19_24 (Rn.region k19_25 (fun call K => r19_8) (Rch.leaf ?_))))
            exact Rn.ret k19_26 e19 H
        · replace H := H.2 (h)
          refine Rn.region k19_27 (fun call K => r19_6) (Rch.bind (x := ⟨2 * M.nb.size, 0, none⟩) rfl (Rch.ex H fun s15' H => Rch.bind (x := ⟨2 * M.nb.size, 0, none⟩) rfl (Rch.ex H fun s16' H => Rch.ex H fun a17' H => Rch.ex H fun x18' H => Rch.leaf ?_)))
          refine Rn.cnd (v := x18' != 32768) ⟨c19_19, rfl, by kernel_rfl⟩ (fun h => ?_) (fun h => ?_)
          · replace H := H.1 (ne_of_bneT h)
            refine Rn.seq k19_20 (Rn.region k19_21 (fun call K => r19_7) (Rch.leaf ?_))
            exact Rn.ret k19_22 e19 H
          · replace H := H.2 (eq_of_bneF h)
            refine Rn.skip k19_23 (Rn.blk (Rn.seq k19_24 (Rn.region k19_25 (fun call K => r19_8) (Rch.leaf ?_))))
            exact Rn.ret k19_26 e19 H
    · replace H := H.2 (of_decide_eq_false h)
      refine Rn.region k19_32 (fun call K => r19_3) (Rch.bind (x := ⟨2 * M.nb.size, 0, none⟩) rfl (Rch.ex H fun x19' H => Rch.leaf ?_))
      refine Rn.cnd (v := decide (x19' > 32)) ⟨c19_9, rfl, by kernel_rfl⟩ (fun h => ?_) (fun h => ?_)
      · replace H := H.1 (of_decide_eq_true h)
        refine Rn.seq k19_10 (Rn.region k19_11 (fun call K => r19_4) (Rch.leaf ?_))
        exact Rn.ret k19_12 e19 H
      · replace H := H.2 (of_decide_eq_false h)
        refine Rn.seq k19_14 (Rn.seq k19_15 (Rn.region k19_16 (fun call K => r19_5) (Rch.bind (x := ⟨2 * M.nb.size, 0, none⟩) rfl (Rch.ex H fun s20' H => Rch.call H fun v21' N21' H => Rch.ex H fun b22' H => Rch.leaf ?_))))
        refine Rn.cnd (v := !b22') ⟨c19_17, rfl, by kernel_rfl⟩ (fun h => ?_) (fun h => ?_)
        · replace H := H.1 (h)
          refine Rn.skip k19_18 ?_
          refine Rn.cnd (v := !b22') ⟨c19_19, rfl, by kernel_rfl⟩ (fun h => ?_) (fun h => ?_)
          · replace H := H.1 (h)
            refine Rn.seq k19_20 (Rn.region k19_21 (fun call K => r19_7) (Rch.leaf ?_))
            exact Rn.ret k19_22 e19 H
          · replace H := H.2 (h)
            refine Rn.skip k19_23 (Rn.blk (Rn.seq k19_24 (Rn.region k19_25 (fun call K => r19_8) (Rch.leaf ?_))))
            exact Rn.ret k19_26 e19 H
        · replace H := H.2 (h)
          refine Rn.region k19_27 (fun call K => r19_6) (Rch.bind (x := ⟨2 * M.nb.size, 0, none⟩) rfl (Rch.ex H fun s23' H => Rch.bind (x := ⟨2 * M.nb.size, 0, none⟩) rfl (Rch.ex H fun s24' H => Rch.ex H fun a25' H => Rch.ex H fun x26' H => Rch.leaf ?_)))
          refine Rn.cnd (v := x26' != 32768) ⟨c19_19, rfl, by kernel_rfl⟩ (fun h => ?_) (fun h => ?_)
          · replace H := H.1 (ne_of_bneT h)
            refine Rn.seq k19_20 (Rn.region k19_21 (fun call K => r19_7) (Rch.leaf ?_))
            exact Rn.ret k19_22 e19 H
          · replace H := H.2 (eq_of_bneF h)
            refine Rn.skip k19_23 (Rn.blk (Rn.seq k19_24 (Rn.region k19_25 (fun call K => r19_8) (Rch.leaf ?_))))
            exact Rn.ret k19_26 e19 H


/-! ### zoetrope/zoetroperef03.Check: function 29 -/
noncomputable abbrev P29 (p : List Nat) : Code := subC (codeOf Try.f29) p
noncomputable abbrev O29 (p : List Nat) : Array Oper := opsOf (subC (codeOf Try.f29) p)
theorem b29 : Try.prog.funcs[29]? = some Try.f29 ∧ (Orc.tab Try.prog).lookup 29 = none := ⟨by kernel_rfl, by kernel_rfl⟩
theorem d29 : Try.f29.body = some (P29 []) := by kernel_rfl
theorem t29 {Ax0_0 : Option Addr} {lx0_0 cx0_0 : Nat} {x0_1 : Int} : #[.agg #[.slice Ax0_0 lx0_0 cx0_0, .int .i64 x0_1]] ++ Array.replicate (Try.f29.ntmps - (#[.agg #[.slice Ax0_0 lx0_0 cx0_0, .int .i64 x0_1]] : Array Value).size) undef = #[.agg #[.slice Ax0_0 lx0_0 cx0_0, .int .i64 x0_1],undef,undef,undef,undef,undef,undef,undef,undef,undef,undef,undef,undef,undef,undef,undef,undef,undef,undef,undef,undef,undef,undef,undef,undef,undef,undef,undef,undef,undef,undef,undef,undef,undef,undef,undef,undef,undef,undef,undef,undef,undef,undef,undef,undef,undef,undef,undef,undef,undef] := by kernel_rfl
theorem k29_0 : P29 [] = .seq (P29 [0]) (P29 [1]) := by kernel_rfl
theorem k29_1 : P29 [0] = .region 0 (O29 [0]) false := by kernel_rfl
theorem r29_0 {Ax0_0 : Option Addr} {lx0_0 cx0_0 : Nat} {x0_1 : Int} {M : Mem} {call : CallM} {K : Array Value → Mem → R} :
    opsK Try.prog (fun _ => call) (O29 [0]) (O29 [0]).toList 0 #[.agg #[.slice Ax0_0 lx0_0 cx0_0, .int .i64 x0_1],g1,g2,g3,g4,g5,g6,g7,g8,g9,g10,g11,g12,g13,g14,g15,g16,g17,g18,g19,g20,g21,g22,g23,g24,g25,g26,g27,g28,g29,g30,g31,g32,g33,g34,g35,g36,g37,g38,g39,g40,g41,g42,g43,g44,g45,g46,g47,g48,g49] M K = K #[.agg #[.slice Ax0_0 lx0_0 cx0_0, .int .i64 x0_1],.pointer (some ⟨2 * M.nb.size, 0, none⟩),.int .i64 0,g3,g4,g5,g6,g7,g8,g9,g10,g11,g12,g13,g14,g15,g16,g17,g18,g19,g20,g21,g22,g23,g24,g25,g26,g27,g28,g29,g30,g31,g32,g33,g34,g35,g36,g37,g38,g39,g40,g41,g42,g43,g44,g45,g46,g47,g48,g49] (M.new (.cells #[.slice Ax0_0 lx0_0 cx0_0, .int .i64 x0_1] 24)) := by kernel_rfl
theorem k29_2 : P29 [1] = .seq (P29 [1,0]) (P29 [1,1]) := by kernel_rfl
theorem k29_3 : P29 [1,0] = .region 1 (O29 [1,0]) false := by kernel_rfl
theorem r29_1 {x1 : Option Addr} {M : Mem} {call : CallM} {K : Array Value → Mem → R} :
    opsK Try.prog (fun _ => call) (O29 [1,0]) (O29 [1,0]).toList 0 #[g0,.pointer x1,g2,g3,g4,g5,g6,g7,g8,g9,g10,g11,g12,g13,g14,g15,g16,g17,g18,g19,g20,g21,g22,g23,g24,g25,g26,g27,g28,g29,g30,g31,g32,g33,g34,g35,g36,g37,g38,g39,g40,g41,g42,g43,g44,g45,g46,g47,g48,g49] M K = (x1).bind fun a_1 => (M.slAt a_1.block a_1.off).bind fun s_2 => K #[g0,.pointer x1,g2,.int .i64 ((s_2.2.1 : Int)),g4,.pointer (some ⟨a_1.block, a_1.off, none⟩),.slice s_2.1 (s_2.2.1) (s_2.2.2),.int .i64 ((s_2.2.1 : Int)),g8,g9,g10,g11,g12,g13,g14,g15,g16,g17,g18,g19,g20,g21,g22,g23,g24,g25,g26,g27,g28,g29,g30,g31,g32,g33,g34,g35,g36,g37,g38,g39,g40,g41,g42,g43,g44,g45,g46,g47,g48,g49] M := by kernel_rfl
theorem k29_4 : P29 [1,1] = .seq (P29 [1,1,0]) (P29 [1,1,1]) := by kernel_rfl
theorem k29_5 : P29 [1,1,0] = .seq (P29 [1,1,0,0]) (P29 [1,1,0,1]) := by kernel_rfl
theorem k29_6 : P29 [1,1,0,0] = .region 2 (O29 [1,1,0,0]) false := by kernel_rfl
theorem k29_7 : P29 [1,1,0,0] = .region 2 (O29 [1,1,0,0]) false ∧ (!false || drawOk (O29 [1,1,0,0])) = true := ⟨by kernel_rfl, by kernel_rfl⟩
theorem r29_2p0 {x3 : Int} {M : Mem} {call : CallM} {K : Array Value → Mem → R} :
    segK Try.prog false call (O29 [1,1,0,0]) 0 7 #[g0,g1,g2,.int .i64 x3,g4,g5,g6,g7,g8,g9,g10,g11,g12,g13,g14,g15,g16,g17,g18,g19,g20,g21,g22,g23,g24,g25,g26,g27,g28,g29,g30,g31,g32,g33,g34,g35,g36,g37,g38,g39,g40,g41,g42,g43,g44,g45,g46,g47,g48,g49] M K = withK (fun w10 w11 w12 w13 w14 M => K #[g0,g1,g2,.int .i64 x3,g4,g5,g6,g7,.int .i64 x3,.bool (decide (x3 < 2)),w10,w11,w12,w13,w14,g15,g16,g17,g18,g19,g20,g21,g22,g23,g24,g25,g26,g27,g28,g29,g30,g31,g32,g33,g34,g35,g36,g37,g38,g39,g40,g41,g42,g43,g44,g45,g46,g47,g48,g49] M) fun k => cond (decide (x3 < 2)) (k (.bool true) undef undef (.bool true) (.bool true) M) (k (.bool false) (.int .i64 x3) (.bool (decide (x3 > 16))) (.bool (decide (x3 > 16))) (.bool (decide (x3 > 16))) M) := by kernel_rfl
theorem r29_2p7 {x1 : Option Addr} {x14 : Bool} {M : Mem} {call : CallM} {K : Array Value → Mem → R} :
    segK Try.prog false call (O29 [1,1,0,0]) 7 5 #[g0,.pointer x1,g2,g3,g4,g5,g6,g7,g8,g9,g10,g11,g12,g13,.bool x14,g15,g16,g17,g18,g19,g20,g21,g22,g23,g24,g25,g26,g27,g28,g29,g30,g31,g32,g33,g34,g35,g36,g37,g38,g39,g40,g41,g42,g43,g44,g45,g46,g47,g48,g49] M K = withK (fun w14 w15 w16 w17 w18 w19 M => K #[g0,.pointer x1,g2,g3,g4,g5,g6,g7,g8,g9,g10,g11,g12,g13,w14,w15,w16,w17,w18,w19,g20,g21,g22,g23,g24,g25,g26,g27,g28,g29,g30,g31,g32,g33,g34,g35,g36,g37,g38,g39,g40,g41,g42,g43,g44,g45,g46,g47,g48,g49] M) fun k => cond x14 (k (.bool true) undef undef undef (.bool true) (.bool true) M) ((x1).bind fun a_1 => (M.intAt .i64 a_1.block (a_1.off + 1)).bind fun x_2 => k (.bool false) (.pointer (some ⟨a_1.block, a_1.off + 1, none⟩)) (.int .i64 x_2) (.bool (decide (x_2 < 0))) (.bool (decide (x_2 < 0))) (.bool (decide (x_2 < 0))) M) := by kernel_rfl
theorem r29_2p12 {x1 : Option Addr} {x19 : Bool} {M : Mem} {call : CallM} {K : Array Value → Mem → R} :
    segK Try.prog false call (O29 [1,1,0,0]) 12 5 #[g0,.pointer x1,g2,g3,g4,g5,g6,g7,g8,g9,g10,g11,g12,g13,g14,g15,g16,g17,g18,.bool x19,g20,g21,g22,g23,g24,g25,g26,g27,g28,g29,g30,g31,g32,g33,g34,g35,g36,g37,g38,g39,g40,g41,g42,g43,g44,g45,g46,g47,g48,g49] M K = withK (fun w19 w20 w21 w22 w23 w24 M => K #[g0,.pointer x1,g2,g3,g4,g5,g6,g7,g8,g9,g10,g11,g12,g13,g14,g15,g16,g17,g18,w19,w20,w21,w22,w23,w24,g25,g26,g27,g28,g29,g30,g31,g32,g33,g34,g35,g36,g37,g38,g39,g40,g41,g42,g43,g44,g45,g46,g47,g48,g49] M) fun k => cond x19 (k (.bool true) undef undef undef (.bool true) (.bool true) M) ((x1).bind fun a_1 => (M.intAt .i64 a_1.block (a_1.off + 1)).bind fun x_2 => k (.bool false) (.pointer (some ⟨a_1.block, a_1.off + 1, none⟩)) (.int .i64 x_2) (.bool (decide (x_2 > 32))) (.bool (decide (x_2 > 32))) (.bool (decide (x_2 > 32))) M) := by kernel_rfl
theorem r29_2p17 {x1 : Option Addr} {x3 : Int} {x24 : Bool} {M : Mem} {call : CallM} {K : Array Value → Mem → R} :
    segK Try.prog false call (O29 [1,1,0,0]) 17 8 #[g0,.pointer x1,g2,.int .i64 x3,g4,g5,g6,g7,g8,g9,g10,g11,g12,g13,g14,g15,g16,g17,g18,g19,g20,g21,g22,g23,.bool x24,g25,g26,g27,g28,g29,g30,g31,g32,g33,g34,g35,g36,g37,g38,g39,g40,g41,g42,g43,g44,g45,g46,g47,g48,g49] M K = withK (fun w24 w25 w26 w27 w28 w29 w30 w31 w32 M => K #[g0,.pointer x1,g2,.int .i64 x3,g4,g5,g6,g7,g8,g9,g10,g11,g12,g13,g14,g15,g16,g17,g18,g19,g20,g21,g22,g23,w24,w25,w26,w27,w28,w29,w30,w31,w32,g33,g34,g35,g36,g37,g38,g39,g40,g41,g42,g43,g44,g45,g46,g47,g48,g49] M) fun k => cond x24 (k (.bool true) undef undef undef undef undef undef undef (.bool true) M) ((x1).bind fun a_1 => (M.slAt a_1.block a_1.off).bind fun s_2 => (idxA s_2.1 (s_2.2.1) 1 (IntKind.i64.wrap (x3 - 1))).bind fun a_3 => (M.intAt .u16 a_3.block a_3.off).bind fun x_4 => k (.bool false) (.pointer (some ⟨a_1.block, a_1.off, none⟩)) (.slice s_2.1 (s_2.2.1) (s_2.2.2)) (.int .i64 x3) (.int .i64 (IntKind.i64.wrap (x3 - 1))) (.pointer (some a_3)) (.int .u16 x_4) (.bool (x_4 != 32768)) (.bool (x_4 != 32768)) M) := by kernel_rfl
theorem c29_8 : P29 [1,1,0,1] = .cond (.tmp 32) (P29 [1,1,0,1,0]) (P29 [1,1,0,1,1]) := by kernel_rfl
theorem k29_9 : P29 [1,1,0,1,0] = .seq (P29 [1,1,0,1,0,0]) (P29 [1,1,0,1,0,1]) := by kernel_rfl
theorem k29_10 : P29 [1,1,0,1,0,0] = .region 3 (O29 [1,1,0,1,0,0]) false := by kernel_rfl
theorem r29_3 {M : Mem} {call : CallM} {K : Array Value → Mem → R} :
    opsK Try.prog (fun _ => call) (O29 [1,1,0,1,0,0]) (O29 [1,1,0,1,0,0]).toList 0 #[g0,g1,g2,g3,g4,g5,g6,g7,g8,g9,g10,g11,g12,g13,g14,g15,g16,g17,g18,g19,g20,g21,g22,g23,g24,g25,g26,g27,g28,g29,g30,g31,g32,g33,g34,g35,g36,g37,g38,g39,g40,g41,g42,g43,g44,g45,g46,g47,g48,g49] M K = K #[g0,g1,.int .i64 2,g3,g4,g5,g6,g7,g8,g9,g10,g11,g12,g13,g14,g15,g16,g17,g18,g19,g20,g21,g22,g23,g24,g25,g26,g27,g28,g29,g30,g31,g32,g33,g34,g35,g36,g37,g38,g39,g40,g41,g42,g43,g44,g45,g46,g47,g48,g49] M := by kernel_rfl
theorem k29_11 : P29 [1,1,0,1,0,1] = .ret := by kernel_rfl
theorem e29 {M : Mem} : finish Try.prog Try.f29 #[g0,g1,g2,g3,g4,g5,g6,g7,g8,g9,g10,g11,g12,g13,g14,g15,g16,g17,g18,g19,g20,g21,g22,g23,g24,g25,g26,g27,g28,g29,g30,g31,g32,g33,g34,g35,g36,g37,g38,g39,g40,g41,g42,g43,g44,g45,g46,g47,g48,g49] M = some (g2, M) := by kernel_rfl
theorem k29_13 : P29 [1,1,0,1,1] = .skip := by kernel_rfl
theorem k29_14 : P29 [1,1,1] = .seq (P29 [1,1,1,0]) (P29 [1,1,1,1]) := by kernel_rfl
theorem k29_15 : P29 [1,1,1,0] = .seq (P29 [1,1,1,0,0]) (P29 [1,1,1,0,1]) := by kernel_rfl
theorem k29_16 : P29 [1,1,1,0,0] = .region 4 (O29 [1,1,1,0,0]) false := by kernel_rfl
theorem r29_4 {M : Mem} {call : CallM} {K : Array Value → Mem → R} :
    opsK Try.prog (fun _ => call) (O29 [1,1,1,0,0]) (O29 [1,1,1,0,0]).toList 0 #[g0,g1,g2,g3,g4,g5,g6,g7,g8,g9,g10,g11,g12,g13,g14,g15,g16,g17,g18,g19,g20,g21,g22,g23,g24,g25,g26,g27,g28,g29,g30,g31,g32,g33,g34,g35,g36,g37,g38,g39,g40,g41,g42,g43,g44,g45,g46,g47,g48,g49] M K = K #[g0,g1,g2,g3,.int .i64 1,g5,g6,g7,g8,g9,g10,g11,g12,g13,g14,g15,g16,g17,g18,g19,g20,g21,g22,g23,g24,g25,g26,g27,g28,g29,g30,g31,g32,g33,g34,g35,g36,g37,g38,g39,g40,g41,g42,g43,g44,g45,g46,g47,g48,g49] M := by kernel_rfl
theorem k29_17 : P29 [1,1,1,0,1] = .block 0 (P29 [1,1,1,0,1,0]) := by kernel_rfl
theorem k29_18 : P29 [1,1,1,0,1,0] = .loop (P29 [1,1,1,0,1,0,0]) := by kernel_rfl
theorem k29_19 : P29 [1,1,1,0,1,0,0] = .seq (P29 [1,1,1,0,1,0,0,0]) (P29 [1,1,1,0,1,0,0,1]) := by kernel_rfl
theorem k29_20 : P29 [1,1,1,0,1,0,0,0] = .seq (P29 [1,1,1,0,1,0,0,0,0]) (P29 [1,1,1,0,1,0,0,0,1]) := by kernel_rfl
theorem k29_21 : P29 [1,1,1,0,1,0,0,0,0] = .region 5 (O29 [1,1,1,0,1,0,0,0,0]) false := by kernel_rfl
theorem r29_5 {x3 x4 : Int} {M : Mem} {call : CallM} {K : Array Value → Mem → R} :
    opsK Try.prog (fun _ => call) (O29 [1,1,1,0,1,0,0,0,0]) (O29 [1,1,1,0,1,0,0,0,0]).toList 0 #[g0,g1,g2,.int .i64 x3,.int .i64 x4,g5,g6,g7,g8,g9,g10,g11,g12,g13,g14,g15,g16,g17,g18,g19,g20,g21,g22,g23,g24,g25,g26,g27,g28,g29,g30,g31,g32,g33,g34,g35,g36,g37,g38,g39,g40,g41,g42,g43,g44,g45,g46,g47,g48,g49] M K = K #[g0,g1,g2,.int .i64 x3,.int .i64 x4,g5,g6,g7,g8,g9,g10,g11,g12,g13,g14,g15,g16,g17,g18,g19,g20,g21,g22,g23,g24,g25,g26,g27,g28,g29,g30,g31,g32,.int .i64 x4,.int .i64 x3,.bool (decide (x4 < x3)),g36,g37,g38,g39,g40,g41,g42,g43,g44,g45,g46,g47,g48,g49] M := by kernel_rfl
theorem c29_22 : P29 [1,1,1,0,1,0,0,0,1] = .cond (.tmp 35) (P29 [1,1,1,0,1,0,0,0,1,0]) (P29 [1,1,1,0,1,0,0,0,1,1]) := by kernel_rfl
theorem k29_23 : P29 [1,1,1,0,1,0,0,0,1,0] = .skip := by kernel_rfl
theorem k29_24 : P29 [1,1,1,0,1,0,0,1] = .seq (P29 [1,1,1,0,1,0,0,1,0]) (P29 [1,1,1,0,1,0,0,1,1]) := by kernel_rfl
theorem k29_25 : P29 [1,1,1,0,1,0,0,1,0] = .block 1 (P29 [1,1,1,0,1,0,0,1,0,0]) := by kernel_rfl
theorem k29_26 : P29 [1,1,1,0,1,0,0,1,0,0] = .seq (P29 [1,1,1,0,1,0,0,1,0,0,0]) (P29 [1,1,1,0,1,0,0,1,0,0,1]) := by kernel_rfl
theorem k29_27 : P29 [1,1,1,0,1,0,0,1,0,0,0] = .region 7 (O29 [1,1,1,0,1,0,0,1,0,0,0]) true ∧ drawOk (O29 [1,1,1,0,1,0,0,1,0,0,0]) = true := ⟨by kernel_rfl, by kernel_rfl⟩
theorem r29_7 {x1 : Option Addr} {x4 : Int} {M : Mem} {call : CallM} {K : Array Value → Mem → R} :
    opsI Try.prog (callAt call (O29 [1,1,1,0,1,0,0,1,0,0,0])) (O29 [1,1,1,0,1,0,0,1,0,0,0]) (ordOf (O29 [1,1,1,0,1,0,0,1,0,0,0])) [] #[g0,.pointer x1,g2,g3,.int .i64 x4,g5,g6,g7,g8,g9,g10,g11,g12,g13,g14,g15,g16,g17,g18,g19,g20,g21,g22,g23,g24,g25,g26,g27,g28,g29,g30,g31,g32,g33,g34,g35,g36,g37,g38,g39,g40,g41,g42,g43,g44,g45,g46,g47,g48,g49] M K = (x1).bind fun a_1 => (M.slAt a_1.block a_1.off).bind fun s_2 => (idxA s_2.1 (s_2.2.1) 1 x4).bind fun a_3 => (M.intAt .u16 a_3.block a_3.off).bind fun x_4 => (x1).bind fun a_5 => (M.slAt a_5.block a_5.off).bind fun s_6 => (idxA s_6.1 (s_6.2.1) 1 (IntKind.i64.wrap (x4 - 1))).bind fun a_7 => (M.intAt .u16 a_7.block a_7.off).bind fun x_8 => K #[g0,.pointer x1,g2,g3,.int .i64 x4,g5,g6,g7,g8,g9,g10,g11,g12,g13,g14,g15,g16,g17,g18,g19,g20,g21,g22,g23,g24,g25,g26,g27,g28,g29,g30,g31,g32,g33,g34,g35,g36,g37,.pointer (some ⟨a_1.block, a_1.off, none⟩),.slice s_2.1 (s_2.2.1) (s_2.2.2),.int .i64 x4,.pointer (some a_3),.int .u16 x_4,.pointer (some ⟨a_5.block, a_5.off, none⟩),.slice s_6.1 (s_6.2.1) (s_6.2.2),.int .i64 x4,.int .i64 (IntKind.i64.wrap (x4 - 1)),.pointer (some a_7),.int .u16 x_8,.bool (decide (x_4 < x_8))] M := by kernel_rfl
theorem c29_28 : P29 [1,1,1,0,1,0,0,1,0,0,1] = .cond (.tmp 49) (P29 [1,1,1,0,1,0,0,1,0,0,1,0]) (P29 [1,1,1,0,1,0,0,1,0,0,1,1]) := by kernel_rfl
theorem k29_29 : P29 [1,1,1,0,1,0,0,1,0,0,1,0] = .seq (P29 [1,1,1,0,1,0,0,1,0,0,1,0,0]) (P29 [1,1,1,0,1,0,0,1,0,0,1,0,1]) := by kernel_rfl
theorem k29_30 : P29 [1,1,1,0,1,0,0,1,0,0,1,0,0] = .region 8 (O29 [1,1,1,0,1,0,0,1,0,0,1,0,0]) false := by kernel_rfl
theorem r29_8 {M : Mem} {call : CallM} {K : Array Value → Mem → R} :
    opsK Try.prog (fun _ => call) (O29 [1,1,1,0,1,0,0,1,0,0,1,0,0]) (O29 [1,1,1,0,1,0,0,1,0,0,1,0,0]).toList 0 #[g0,g1,g2,g3,g4,g5,g6,g7,g8,g9,g10,g11,g12,g13,g14,g15,g16,g17,g18,g19,g20,g21,g22,g23,g24,g25,g26,g27,g28,g29,g30,g31,g32,g33,g34,g35,g36,g37,g38,g39,g40,g41,g42,g43,g44,g45,g46,g47,g48,g49] M K = K #[g0,g1,.int .i64 2,g3,g4,g5,g6,g7,g8,g9,g10,g11,g12,g13,g14,g15,g16,g17,g18,g19,g20,g21,g22,g23,g24,g25,g26,g27,g28,g29,g30,g31,g32,g33,g34,g35,g36,g37,g38,g39,g40,g41,g42,g43,g44,g45,g46,g47,g48,g49] M := by kernel_rfl
theorem k29_31 : P29 [1,1,1,0,1,0,0,1,0,0,1,0,1] = .ret := by kernel_rfl
theorem k29_32 : P29 [1,1,1,0,1,0,0,1,0,0,1,1] = .skip := by kernel_rfl
theorem k29_33 : P29 [1,1,1,0,1,0,0,1,1] = .region 6 (O29 [1,1,1,0,1,0,0,1,1]) false := by kernel_rfl
theorem r29_6 {x4 : Int} {M : Mem} {call : CallM} {K : Array Value → Mem → R} :
    opsK Try.prog (fun _ => call) (O29 [1,1,1,0,1,0,0,1,1]) (O29 [1,1,1,0,1,0,0,1,1]).toList 0 #[g0,g1,g2,g3,.int .i64 x4,g5,g6,g7,g8,g9,g10,g11,g12,g13,g14,g15,g16,g17,g18,g19,g20,g21,g22,g23,g24,g25,g26,g27,g28,g29,g30,g31,g32,g33,g34,g35,g36,g37,g38,g39,g40,g41,g42,g43,g44,g45,g46,g47,g48,g49] M K = K #[g0,g1,g2,g3,.int .i64 (IntKind.i64.wrap (x4 + 1)),g5,g6,g7,g8,g9,g10,g11,g12,g13,g14,g15,g16,g17,g18,g19,g20,g21,g22,g23,g24,g25,g26,g27,g28,g29,g30,g31,g32,g33,g34,g35,.int .i64 x4,.int .i64 (IntKind.i64.wrap (x4 + 1)),g38,g39,g40,g41,g42,g43,g44,g45,g46,g47,g48,g49] M := by kernel_rfl
theorem k29_34 : P29 [1,1,1,0,1,0,0,0,1,1] = .exit 0 := by kernel_rfl
theorem k29_35 : P29 [1,1,1,1] = .seq (P29 [1,1,1,1,0]) (P29 [1,1,1,1,1]) := by kernel_rfl
theorem k29_36 : P29 [1,1,1,1,0] = .region 9 (O29 [1,1,1,1,0]) false := by kernel_rfl
theorem r29_9 {M : Mem} {call : CallM} {K : Array Value → Mem → R} :
    opsK Try.prog (fun _ => call) (O29 [1,1,1,1,0]) (O29 [1,1,1,1,0]).toList 0 #[g0,g1,g2,g3,g4,g5,g6,g7,g8,g9,g10,g11,g12,g13,g14,g15,g16,g17,g18,g19,g20,g21,g22,g23,g24,g25,g26,g27,g28,g29,g30,g31,g32,g33,g34,g35,g36,g37,g38,g39,g40,g41,g42,g43,g44,g45,g46,g47,g48,g49] M K = K #[g0,g1,.int .i64 0,g3,g4,g5,g6,g7,g8,g9,g10,g11,g12,g13,g14,g15,g16,g17,g18,g19,g20,g21,g22,g23,g24,g25,g26,g27,g28,g29,g30,g31,g32,g33,g34,g35,g36,g37,g38,g39,g40,g41,g42,g43,g44,g45,g46,g47,g48,g49] M := by kernel_rfl
theorem k29_37 : P29 [1,1,1,1,1] = .ret := by kernel_rfl
noncomputable def S29_1 : List Item := [.code (P29 [1,1,0,1]), .code (P29 [1,1,1])]
def A29_1 (x1 : Option Addr) (x3 : Int) (x14 : Bool) (M : Mem) (Q : Value → Mem → Prop) : Prop := ∀ (g0 g2 g4 g5 g6 g7 g8 g9 g10 g11 g12 g13 g15 g16 g17 g18 g19 g20 g21 g22 g23 g24 g25 g26 g27 g28 g29 g30 g31 g32 g33 g34 g35 g36 g37 g38 g39 g40 g41 g42 g43 g44 g45 g46 g47 g48 g49 : Value), Rg Try.prog Try.f29 (O29 [1,1,0,0]) false 7 S29_1 #[g0, .pointer x1, g2, .int .i64 x3, g4, g5, g6, g7, g8, g9, g10, g11, g12, g13, .bool x14, g15, g16, g17, g18, g19, g20, g21, g22, g23, g24, g25, g26, g27, g28, g29, g30, g31, g32, g33, g34, g35, g36, g37, g38, g39, g40, g41, g42, g43, g44, g45, g46, g47, g48, g49] M Q
noncomputable def S29_2 : List Item := [.code (P29 [1,1,0,1]), .code (P29 [1,1,1])]
def A29_2 (x1 : Option Addr) (x3 : Int) (x19 : Bool) (M : Mem) (Q : Value → Mem → Prop) : Prop := ∀ (g0 g2 g4 g5 g6 g7 g8 g9 g10 g11 g12 g13 g14 g15 g16 g17 g18 g20 g21 g22 g23 g24 g25 g26 g27 g28 g29 g30 g31 g32 g33 g34 g35 g36 g37 g38 g39 g40 g41 g42 g43 g44 g45 g46 g47 g48 g49 : Value), Rg Try.prog Try.f29 (O29 [1,1,0,0]) false 12 S29_2 #[g0, .pointer x1, g2, .int .i64 x3, g4, g5, g6, g7, g8, g9, g10, g11, g12, g13, g14, g15, g16, g17, g18, .bool x19, g20, g21, g22, g23, g24, g25, g26, g27, g28, g29, g30, g31, g32, g33, g34, g35, g36, g37, g38, g39, g40, g41, g42, g43, g44, g45, g46, g47, g48, g49] M Q
noncomputable def S29_3 : List Item := [.code (P29 [1,1,0,1]), .code (P29 [1,1,1])]
def A29_3 (x1 : Option Addr) (x3 : Int) (x24 : Bool) (M : Mem) (Q : Value → Mem → Prop) : Prop := ∀ (g0 g2 g4 g5 g6 g7 g8 g9 g10 g11 g12 g13 g14 g15 g16 g17 g18 g19 g20 g21 g22 g23 g25 g26 g27 g28 g29 g30 g31 g32 g33 g34 g35 g36 g37 g38 g39 g40 g41 g42 g43 g44 g45 g46 g47 g48 g49 : Value), Rg Try.prog Try.f29 (O29 [1,1,0,0]) false 17 S29_3 #[g0, .pointer x1, g2, .int .i64 x3, g4, g5, g6, g7, g8, g9, g10, g11, g12, g13, g14, g15, g16, g17, g18, g19, g20, g21, g22, g23, .bool x24, g25, g26, g27, g28, g29, g30, g31, g32, g33, g34, g35, g36, g37, g38, g39, g40, g41, g42, g43, g44, g45, g46, g47, g48, g49] M Q
noncomputable def S29_4 : List Item := [.code (P29 [1,1,0,1]), .code (P29 [1,1,1])]
def A29_4 (x1 : Option Addr) (x3 : Int) (x32 : Bool) (M : Mem) (Q : Value → Mem → Prop) : Prop := ∀ (g0 g2 g4 g5 g6 g7 g8 g9 g10 g11 g12 g13 g14 g15 g16 g17 g18 g19 g20 g21 g22 g23 g24 g25 g26 g27 g28 g29 g30 g31 g33 g34 g35 g36 g37 g38 g39 g40 g41 g42 g43 g44 g45 g46 g47 g48 g49 : Value), Rn Try.prog Try.f29 S29_4 #[g0, .pointer x1, g2, .int .i64 x3, g4, g5, g6, g7, g8, g9, g10, g11, g12, g13, g14, g15, g16, g17, g18, g19, g20, g21, g22, g23, g24, g25, g26, g27, g28, g29, g30, g31, .bool x32, g33, g34, g35, g36, g37, g38, g39, g40, g41, g42, g43, g44, g45, g46, g47, g48, g49] M Q
noncomputable def S29_5 : List Item := [.code (P29 [1,1,1,0,1,0,0]), .inLoop (P29 [1,1,1,0,1,0,0]), .inBlock 0, .code (P29 [1,1,1,1])]
def A29_5 (x1 : Option Addr) (x3 x4 : Int) (M : Mem) (Q : Value → Mem → Prop) : Prop := ∀ (g0 g2 g5 g6 g7 g8 g9 g10 g11 g12 g13 g14 g15 g16 g17 g18 g19 g20 g21 g22 g23 g24 g25 g26 g27 g28 g29 g30 g31 g32 g33 g34 g35 g36 g37 g38 g39 g40 g41 g42 g43 g44 g45 g46 g47 g48 g49 : Value), Rn Try.prog Try.f29 S29_5 #[g0, .pointer x1, g2, .int .i64 x3, .int .i64 x4, g5, g6, g7, g8, g9, g10, g11, g12, g13, g14, g15, g16, g17, g18, g19, g20, g21, g22, g23, g24, g25, g26, g27, g28, g29, g30, g31, g32, g33, g34, g35, g36, g37, g38, g39, g40, g41, g42, g43, g44, g45, g46, g47, g48, g49] M Q
theorem w29_0 {Ax0_0 : Option Addr} {lx0_0 cx0_0 : Nat} {x0_1 : Int} {M : Mem} {Q : Value → Mem → Prop} (H :
    ∃ s1', (M.new (.cells #[.slice Ax0_0 lx0_0 cx0_0, .int .i64 x0_1] 24)).slAt (2 * M.nb.size) 0 = some s1' ∧
    (((s1'.2.1 : Int) < 2 →
     A29_1 (some ⟨2 * M.nb.size, 0, none⟩) (s1'.2.1 : Int) true (M.new (.cells #[.slice Ax0_0 lx0_0 cx0_0, .int .i64 x0_1] 24)) Q) ∧
     (¬ ((s1'.2.1 : Int) < 2) →
     A29_1 (some ⟨2 * M.nb.size, 0, none⟩) (s1'.2.1 : Int) (decide ((s1'.2.1 : Int) > 16)) (M.new (.cells #[.slice Ax0_0 lx0_0 cx0_0, .int .i64 x0_1] 24)) Q))) :
    Cn Try.prog 29 #[.agg #[.slice Ax0_0 lx0_0 cx0_0, .int .i64 x0_1]] M Q := by
  refine Cn.of b29 d29 t29 ?_
  refine Rn.seq k29_0 (Rn.region k29_1 (fun call K => r29_0) (Rch.leaf (Rn.seq k29_2 (Rn.region k29_3 (fun call K => r29_1) (Rch.bind (x := ⟨2 * M.nb.size, 0, none⟩) rfl (Rch.ex H fun s1' H => Rch.leaf (Rn.seq k29_4 (Rn.seq k29_5 (Rn.regionC k29_7 (Rg.step (d := 7) (j := 7) (fun call K => r29_2p0) rfl rfl ?_))))))))))
  refine Rch.cB (fun h => ?_) (fun h => ?_)
  · replace H := H.1 (of_decide_eq_true h)
    refine Rch.rest ?_
    exact H _ _ _ _ _ _ _ _ _ _ _ _ _ _ _ _ _ _ _ _ _ _ _ _ _ _ _ _ _ _ _ _ _ _ _ _ _ _ _ _ _ _ _ _ _ _ _
  · replace H := H.2 (of_decide_eq_false h)
    refine Rch.rest ?_
    exact H _ _ _ _ _ _ _ _ _ _ _ _ _ _ _ _ _ _ _ _ _ _ _ _ _ _ _ _ _ _ _ _ _ _ _ _ _ _ _ _ _ _ _ _ _ _ _

theorem w29_1 {x1 : Option Addr} {x3 : Int} {x14 : Bool} {M : Mem} {Q : Value → Mem → Prop} (H :
    ((x14 = true →
     A29_2 x1 x3 true M Q) ∧
     (x14 = false →
     ∃ a2', x1 = some a2' ∧
     ∃ x3', M.intAt .i64 a2'.block (a2'.off + 1) = some x3' ∧
     A29_2 x1 x3 (decide (x3' < 0)) M Q))) :
    A29_1 x1 x3 x14 M Q := by
  intro g0 g2 g4 g5 g6 g7 g8 g9 g10 g11 g12 g13 g15 g16 g17 g18 g19 g20 g21 g22 g23 g24 g25 g26 g27 g28 g29 g30 g31 g32 g33 g34 g35 g36 g37 g38 g39 g40 g41 g42 g43 g44 g45 g46 g47 g48 g49
  refine Rg.step (d := 5) (j := 12) (fun call K => r29_2p7) rfl rfl ?_
  refine Rch.cB (fun h => ?_) (fun h => ?_)
  · replace H := H.1 (h)
    refine Rch.rest ?_
    exact H _ _ _ _ _ _ _ _ _ _ _ _ _ _ _ _ _ _ _ _ _ _ _ _ _ _ _ _ _ _ _ _ _ _ _ _ _ _ _ _ _ _ _ _ _ _ _
  · replace H := H.2 (h)
    refine Rch.ex H fun a2' H => Rch.ex H fun x3' H => Rch.rest ?_
    exact H _ _ _ _ _ _ _ _ _ _ _ _ _ _ _ _ _ _ _ _ _ _ _ _ _ _ _ _ _ _ _ _ _ _ _ _ _ _ _ _ _ _ _ _ _ _ _

theorem w29_2 {x1 : Option Addr} {x3 : Int} {x19 : Bool} {M : Mem} {Q : Value → Mem → Prop} (H :
    ((x19 = true →
     A29_3 x1 x3 true M Q) ∧
     (x19 = false →
     ∃ a4', x1 = some a4' ∧
     ∃ x5', M.intAt .i64 a4'.block (a4'.off + 1) = some x5' ∧
     A29_3 x1 x3 (decide (x5' > 32)) M Q))) :
    A29_2 x1 x3 x19 M Q := by
  intro g0 g2 g4 g5 g6 g7 g8 g9 g10 g11 g12 g13 g14 g15 g16 g17 g18 g20 g21 g22 g23 g24 g25 g26 g27 g28 g29 g30 g31 g32 g33 g34 g35 g36 g37 g38 g39 g40 g41 g42 g43 g44 g45 g46 g47 g48 g49
  refine Rg.step (d := 5) (j := 17) (fun call K => r29_2p12) rfl rfl ?_
  refine Rch.cB (fun h => ?_) (fun h => ?_)
  · replace H := H.1 (h)
    refine Rch.rest ?_
    exact H _ _ _ _ _ _ _ _ _ _ _ _ _ _ _ _ _ _ _ _ _ _ _ _ _ _ _ _ _ _ _ _ _ _ _ _ _ _ _ _ _ _ _ _ _ _ _
  · replace H := H.2 (h)
    refine Rch.ex H fun a4' H => Rch.ex H fun x5' H => Rch.rest ?_
    exact H _ _ _ _ _ _ _ _ _ _ _ _ _ _ _ _ _ _ _ _ _ _ _ _ _ _ _ _ _ _ _ _ _ _ _ _ _ _ _ _ _ _ _ _ _ _ _

theorem w29_3 {x1 : Option Addr} {x3 : Int} {x24 : Bool} {M : Mem} {Q : Value → Mem → Prop} (H :
    ((x24 = true →
     A29_4 x1 x3 true M Q) ∧
     (x24 = false →
     ∃ a6', x1 = some a6' ∧
     ∃ s7', M.slAt a6'.block a6'.off = some s7' ∧
     ∃ a8', idxA s7'.1 (s7'.2.1) 1 (IntKind.i64.wrap (x3 - 1)) = some a8' ∧
     ∃ x9', M.intAt .u16 a8'.block a8'.off = some x9' ∧
     A29_4 x1 x3 (x9' != 32768) M Q))) :
    A29_3 x1 x3 x24 M Q := by
  intro g0 g2 g4 g5 g6 g7 g8 g9 g10 g11 g12 g13 g14 g15 g16 g17 g18 g19 g20 g21 g22 g23 g25 g26 g27 g28 g29 g30 g31 g32 g33 g34 g35 g36 g37 g38 g39 g40 g41 g42 g43 g44 g45 g46 g47 g48 g49
  refine Rg.step (d := 8) (j := 25) (fun call K => r29_2p17) rfl rfl ?_
  refine Rch.cB (fun h => ?_) (fun h => ?_)
  · replace H := H.1 (h)
    refine Rch.rest (Rg.done rfl ?_)
    exact H _ _ _ _ _ _ _ _ _ _ _ _ _ _ _ _ _ _ _ _ _ _ _ _ _ _ _ _ _ _ _ _ _ _ _ _ _ _ _ _ _ _ _ _ _ _ _
  · replace H := H.2 (h)
    refine Rch.ex H fun a6' H => Rch.ex H fun s7' H => Rch.ex H fun a8' H => Rch.ex H fun x9' H => Rch.rest (Rg.done rfl ?_)
    exact H _ _ _ _ _ _ _ _ _ _ _ _ _ _ _ _ _ _ _ _ _ _ _ _ _ _ _ _ _ _ _ _ _ _ _ _ _ _ _ _ _ _ _ _ _ _ _

theorem w29_4 {x1 : Option Addr} {x3 : Int} {x32 : Bool} {M : Mem} {Q : Value → Mem → Prop} (H :
    ((x32 = true →
     Q (.int .i64 2) M) ∧
     (x32 = false →
     A29_5 x1 x3 1 M Q))) :
    A29_4 x1 x3 x32 M Q := by
  intro g0 g2 g4 g5 g6 g7 g8 g9 g10 g11 g12 g13 g14 g15 g16 g17 g18 g19 g20 g21 g22 g23 g24 g25 g26 g27 g28 g29 g30 g31 g33 g34 g35 g36 g37 g38 g39 g40 g41 g42 g43 g44 g45 g46 g47 g48 g49
  refine Rn.cnd (v := x32) ⟨c29_8, rfl, by kernel_rfl⟩ (fun h => ?_) (fun h => ?_)
  · replace H := H.1 (h)
    refine Rn.seq k29_9 (Rn.region k29_10 (fun call K => r29_3) (Rch.leaf ?_))
    exact Rn.ret k29_11 e29 H
  · replace H := H.2 (h)
    refine Rn.skip k29_13 (Rn.seq k29_14 (Rn.seq k29_15 (Rn.region k29_16 (fun call K => r29_4) (Rch.leaf (Rn.block k29_17 (Rn.loop k29_18 ?_))))))
    exact H _ _ _ _ _ _ _ _ _ _ _ _ _ _ _ _ _ _ _ _ _ _ _ _ _ _ _ _ _ _ _ _ _ _ _ _ _ _ _ _ _ _ _ _ _ _ _

theorem w29_5 {x1 : Option Addr} {x3 x4 : Int} {M : Mem} {Q : Value → Mem → Prop} (H :
    ((x4 < x3 →
     ∃ a10', x1 = some a10' ∧
     ∃ s11', M.slAt a10'.block a10'.off = some s11' ∧
     ∃ a12', idxA s11'.1 (s11'.2.1) 1 x4 = some a12' ∧
     ∃ x13', M.intAt .u16 a12'.block a12'.off = some x13' ∧
     ∃ a14', x1 = some a14' ∧
     ∃ s15', M.slAt a14'.block a14'.off = some s15' ∧
     ∃ a16', idxA s15'.1 (s15'.2.1) 1 (IntKind.i64.wrap (x4 - 1)) = some a16' ∧
     ∃ x17', M.intAt .u16 a16'.block a16'.off = some x17' ∧
     ((x13' < x17' →
      Q (.int .i64 2) M) ∧
      (¬ (x13' < x17') →
      A29_5 x1 x3 (IntKind.i64.wrap (x4 + 1)) M Q))) ∧
     (¬ (x4 < x3) →
     Q (.int .i64 0) M))) :
    A29_5 x1 x3 x4 M Q := by
  intro g0 g2 g5 g6 g7 g8 g9 g10 g11 g12 g13 g14 g15 g16 g17 g18 g19 g20 g21 g22 g23 g24 g25 g26 g27 g28 g29 g30 g31 g32 g33 g34 g35 g36 g37 g38 g39 g40 g41 g42 g43 g44 g45 g46 g47 g48 g49
  refine Rn.seq k29_19 (Rn.seq k29_20 (Rn.region k29_21 (fun call K => r29_5) (Rch.leaf ?_)))
  refine Rn.cnd (v := decide (x4 < x3)) ⟨c29_22, rfl, by kernel_rfl⟩ (fun h => ?_) (fun h => ?_)
  · replace H := H.1 (of_decide_eq_true h)
    refine Rn.skip k29_23 (Rn.seq k29_24 (Rn.block k29_25 (Rn.seq k29_26 (Rn.regionD k29_27 (fun call K => r29_7) (Rch.ex H fun a10' H => Rch.ex H fun s11' H => Rch.ex H fun a12' H => Rch.ex H fun x13' H => Rch.ex H fun a14' H => Rch.ex H fun s15' H => Rch.ex H fun a16' H => ?_)))))
    refine Rch.ex H fun x17' H => Rch.leaf ?_
    refine Rn.cnd (v := decide (x13' < x17')) ⟨c29_28, rfl, by kernel_rfl⟩ (fun h => ?_) (fun h => ?_)
    · replace H := H.1 (of_decide_eq_true h)
      refine Rn.seq k29_29 (Rn.region k29_30 (fun call K => r29_8) (Rch.leaf ?_))
      exact Rn.ret k29_31 e29 H
    · replace H := H.2 (of_decide_eq_false h)
      refine Rn.skip k29_32 (Rn.blk (Rn.region k29_33 (fun call K => r29_6) (Rch.leaf (Rn.lp ?_))))
      exact H _ _ _ _ _ _ _ _ _ _ _ _ _ _ _ _ _ _ _ _ _ _ _ _ _ _ _ _ _ _ _ _ _ _ _ _ _ _ _ _ _ _ _ _ _ _ _
  · replace H := H.2 (of_decide_eq_false h)
    refine Rn.exit k29_34 rfl (Rn.seq k29_35 (Rn.region k29_36 (fun call K => r29_9) (Rch.leaf ?_)))
    exact Rn.ret k29_37 e29 H


/-! ### zoetrope/cdf.end: function 38 -/
noncomputable abbrev P38 (p : List Nat) : Code := subC (codeOf Try.f38) p
noncomputable abbrev O38 (p : List Nat) : Array Oper := opsOf (subC (codeOf Try.f38) p)
theorem b38 : Try.prog.funcs[38]? = some Try.f38 ∧ (Orc.tab Try.prog).lookup 38 = none := ⟨by kernel_rfl, by kernel_rfl⟩
theorem d38 : Try.f38.body = some (P38 []) := by kernel_rfl
theorem t38 {Ax0_0 : Option Addr} {lx0_0 cx0_0 : Nat} {x0_1 x1 : Int} : #[.agg #[.slice Ax0_0 lx0_0 cx0_0, .int .i64 x0_1],.int .i64 x1] ++ Array.replicate (Try.f38.ntmps - (#[.agg #[.slice Ax0_0 lx0_0 cx0_0, .int .i64 x0_1],.int .i64 x1] : Array Value).size) undef = #[.agg #[.slice Ax0_0 lx0_0 cx0_0, .int .i64 x0_1],.int .i64 x1,undef,undef,undef,undef,undef,undef,undef,undef,undef,undef,undef,undef,undef,undef,undef,undef,undef,undef,undef,undef,undef,undef,undef,undef] := by kernel_rfl
theorem k38_0 : P38 [] = .seq (P38 [0]) (P38 [1]) := by kernel_rfl
theorem k38_1 : P38 [0] = .region 0 (O38 [0]) false := by kernel_rfl
theorem r38_0 {Ax0_0 : Option Addr} {lx0_0 cx0_0 : Nat} {x0_1 : Int} {M : Mem} {call : CallM} {K : Array Value → Mem → R} :
    opsK Try.prog (fun _ => call) (O38 [0]) (O38 [0]).toList 0 #[.agg #[.slice Ax0_0 lx0_0 cx0_0, .int .i64 x0_1],g1,g2,g3,g4,g5,g6,g7,g8,g9,g10,g11,g12,g13,g14,g15,g16,g17,g18,g19,g20,g21,g22,g23,g24,g25] M K = K #[.agg #[.slice Ax0_0 lx0_0 cx0_0, .int .i64 x0_1],g1,.pointer (some ⟨2 * M.nb.size, 0, none⟩),g3,.int .u32 0,g5,g6,g7,g8,g9,g10,g11,g12,g13,g14,g15,g16,g17,g18,g19,g20,g21,g22,g23,g24,g25] (M.new (.cells #[.slice Ax0_0 lx0_0 cx0_0, .int .i64 x0_1] 24)) := by kernel_rfl
theorem k38_2 : P38 [1] = .seq (P38 [1,0]) (P38 [1,1]) := by kernel_rfl
theorem k38_3 : P38 [1,0] = .seq (P38 [1,0,0]) (P38 [1,0,1]) := by kernel_rfl
theorem k38_4 : P38 [1,0,0] = .region 1 (O38 [1,0,0]) false := by kernel_rfl
theorem r38_1 {x1 : Int} {M : Mem} {call : CallM} {K : Array Value → Mem → R} :
    opsK Try.prog (fun _ => call) (O38 [1,0,0]) (O38 [1,0,0]).toList 0 #[g0,.int .i64 x1,g2,g3,g4,g5,g6,g7,g8,g9,g10,g11,g12,g13,g14,g15,g16,g17,g18,g19,g20,g21,g22,g23,g24,g25] M K = K #[g0,.int .i64 x1,g2,g3,g4,.int .i64 x1,.bool (decide (x1 < 0)),g7,g8,g9,g10,g11,g12,g13,g14,g15,g16,g17,g18,g19,g20,g21,g22,g23,g24,g25] M := by kernel_rfl
theorem c38_5 : P38 [1,0,1] = .cond (.tmp 6) (P38 [1,0,1,0]) (P38 [1,0,1,1]) := by kernel_rfl
theorem k38_6 : P38 [1,0,1,0] = .seq (P38 [1,0,1,0,0]) (P38 [1,0,1,0,1]) := by kernel_rfl
theorem k38_7 : P38 [1,0,1,0,0] = .region 2 (O38 [1,0,1,0,0]) false := by kernel_rfl
theorem r38_2 {M : Mem} {call : CallM} {K : Array Value → Mem → R} :
    opsK Try.prog (fun _ => call) (O38 [1,0,1,0,0]) (O38 [1,0,1,0,0]).toList 0 #[g0,g1,g2,g3,g4,g5,g6,g7,g8,g9,g10,g11,g12,g13,g14,g15,g16,g17,g18,g19,g20,g21,g22,g23,g24,g25] M K = K #[g0,g1,g2,g3,.int .u32 0,g5,g6,g7,g8,g9,g10,g11,g12,g13,g14,g15,g16,g17,g18,g19,g20,g21,g22,g23,g24,g25] M := by kernel_rfl
theorem k38_8 : P38 [1,0,1,0,1] = .ret := by kernel_rfl
theorem e38 {M : Mem} : finish Try.prog Try.f38 #[g0,g1,g2,g3,g4,g5,g6,g7,g8,g9,g10,g11,g12,g13,g14,g15,g16,g17,g18,g19,g20,g21,g22,g23,g24,g25] M = some (g4, M) := by kernel_rfl
theorem k38_10 : P38 [1,0,1,1] = .skip := by kernel_rfl
theorem k38_11 : P38 [1,1] = .seq (P38 [1,1,0]) (P38 [1,1,1]) := by kernel_rfl
theorem k38_12 : P38 [1,1,0] = .region 3 (O38 [1,1,0]) true ∧ drawOk (O38 [1,1,0]) = true := ⟨by kernel_rfl, by kernel_rfl⟩
theorem r38_3 {x1 : Int} {x2 : Option Addr} {M : Mem} {call : CallM} {K : Array Value → Mem → R} :
    opsI Try.prog (callAt call (O38 [1,1,0])) (O38 [1,1,0]) (ordOf (O38 [1,1,0])) [] #[g0,.int .i64 x1,.pointer x2,g3,g4,g5,g6,g7,g8,g9,g10,g11,g12,g13,g14,g15,g16,g17,g18,g19,g20,g21,g22,g23,g24,g25] M K = (x2).bind fun a_1 => (M.slAt a_1.block a_1.off).bind fun s_2 => (idxA s_2.1 (s_2.2.1) 1 x1).bind fun a_3 => (M.intAt .u16 a_3.block a_3.off).bind fun x_4 => (x2).bind fun a_5 => (M.slAt a_5.block a_5.off).bind fun s_6 => K #[g0,.int .i64 x1,.pointer x2,g3,.int .u32 (IntKind.u32.wrap (((IntKind.u32.wrap ((IntKind.u32.wrap (x_4)) * (IntKind.u32.wrap (IntKind.i64.wrap (32768 - (IntKind.i64.wrap (4 * ((s_6.2.1 : Int))))))))).fdiv (2 ^ 15)) + (IntKind.u32.wrap (IntKind.i64.wrap (4 * (IntKind.i64.wrap (x1 + 1))))))),g5,g6,.pointer (some ⟨a_1.block, a_1.off, none⟩),.slice s_2.1 (s_2.2.1) (s_2.2.2),.int .i64 x1,.pointer (some a_3),.int .u16 x_4,.int .u32 (IntKind.u32.wrap (x_4)),.pointer (some ⟨a_5.block, a_5.off, none⟩),.slice s_6.1 (s_6.2.1) (s_6.2.2),.int .i64 ((s_6.2.1 : Int)),.int .i64 (IntKind.i64.wrap (4 * ((s_6.2.1 : Int)))),.int .i64 (IntKind.i64.wrap (32768 - (IntKind.i64.wrap (4 * ((s_6.2.1 : Int)))))),.int .u32 (IntKind.u32.wrap (IntKind.i64.wrap (32768 - (IntKind.i64.wrap (4 * ((s_6.2.1 : Int))))))),.int .u32 (IntKind.u32.wrap ((IntKind.u32.wrap (x_4)) * (IntKind.u32.wrap (IntKind.i64.wrap (32768 - (IntKind.i64.wrap (4 * ((s_6.2.1 : Int))))))))),.int .u32 ((IntKind.u32.wrap ((IntKind.u32.wrap (x_4)) * (IntKind.u32.wrap (IntKind.i64.wrap (32768 - (IntKind.i64.wrap (4 * ((s_6.2.1 : Int))))))))).fdiv (2 ^ 15)),.int .i64 x1,.int .i64 (IntKind.i64.wrap (x1 + 1)),.int .i64 (IntKind.i64.wrap (4 * (IntKind.i64.wrap (x1 + 1)))),.int .u32 (IntKind.u32.wrap (IntKind.i64.wrap (4 * (IntKind.i64.wrap (x1 + 1))))),.int .u32 (IntKind.u32.wrap (((IntKind.u32.wrap ((IntKind.u32.wrap (x_4)) * (IntKind.u32.wrap (IntKind.i64.wrap (32768 - (IntKind.i64.wrap (4 * ((s_6.2.1 : Int))))))))).fdiv (2 ^ 15)) + (IntKind.u32.wrap (IntKind.i64.wrap (4 * (IntKind.i64.wrap (x1 + 1)))))))] M := by kernel_rfl
theorem k38_13 : P38 [1,1,1] = .ret := by kernel_rfl
theorem w38_0 {Ax0_0 : Option Addr} {lx0_0 cx0_0 : Nat} {x0_1 x1 : Int} {M : Mem} {Q : Value → Mem → Prop} (H :
    ((x1 < 0 →
     Q (.int .u32 0) (M.new (.cells #[.slice Ax0_0 lx0_0 cx0_0, .int .i64 x0_1] 24))) ∧
     (¬ (x1 < 0) →
     ∃ s1', (M.new (.cells #[.slice Ax0_0 lx0_0 cx0_0, .int .i64 x0_1] 24)).slAt (2 * M.nb.size) 0 = some s1' ∧
     ∃ a2', idxA s1'.1 (s1'.2.1) 1 x1 = some a2' ∧
     ∃ x3', (M.new (.cells #[.slice Ax0_0 lx0_0 cx0_0, .int .i64 x0_1] 24)).intAt .u16 a2'.block a2'.off = some x3' ∧
     ∃ s4', (M.new (.cells #[.slice Ax0_0 lx0_0 cx0_0, .int .i64 x0_1] 24)).slAt (2 * M.nb.size) 0 = some s4' ∧
     Q (.int .u32 (IntKind.u32.wrap (((IntKind.u32.wrap ((IntKind.u32.wrap (x3')) * (IntKind.u32.wrap (IntKind.i64.wrap (32768 - (IntKind.i64.wrap (4 * ((s4'.2.1 : Int))))))))).fdiv (2 ^ 15)) + (IntKind.u32.wrap (IntKind.i64.wrap (4 * (IntKind.i64.wrap (x1 + 1)))))))) (M.new (.cells #[.slice Ax0_0 lx0_0 cx0_0, .int .i64 x0_1] 24))))) :
    Cn Try.prog 38 #[.agg #[.slice Ax0_0 lx0_0 cx0_0, .int .i64 x0_1], .int .i64 x1] M Q := by
  refine Cn.of b38 d38 t38 ?_
  refine Rn.seq k38_0 (Rn.region k38_1 (fun call K => r38_0) (Rch.leaf (Rn.seq k38_2 (Rn.seq k38_3 (Rn.region k38_4 (fun call K => r38_1) (Rch.leaf ?_))))))
  refine Rn.cnd (v := decide (x1 < 0)) ⟨c38_5, rfl, by kernel_rfl⟩ (fun h => ?_) (fun h => ?_)
  · replace H := H.1 (of_decide_eq_true h)
    refine Rn.seq k38_6 (Rn.region k38_7 (fun call K => r38_2) (Rch.leaf ?_))
    exact Rn.ret k38_8 e38 H
  · replace H := H.2 (of_decide_eq_false h)
    refine Rn.skip k38_10 (Rn.seq k38_11 (Rn.regionD k38_12 (fun call K => r38_3) (Rch.bind (x := ⟨2 * M.nb.size, 0, none⟩) rfl (Rch.ex H fun s1' H => Rch.ex H fun a2' H => Rch.ex H fun x3' H => Rch.bind (x := ⟨2 * M.nb.size, 0, none⟩) rfl (Rch.ex H fun s4' H => Rch.leaf ?_)))))
    exact Rn.ret k38_13 e38 H


/-! ### zoetrope/zoetroperef03.end: function 39 -/
noncomputable abbrev P39 (p : List Nat) : Code := subC (codeOf Try.f39) p
noncomputable abbrev O39 (p : List Nat) : Array Oper := opsOf (subC (codeOf Try.f39) p)
theorem b39 : Try.prog.funcs[39]? = some Try.f39 ∧ (Orc.tab Try.prog).lookup 39 = none := ⟨by kernel_rfl, by kernel_rfl⟩
theorem d39 : Try.f39.body = some (P39 []) := by kernel_rfl
theorem t39 {Ax0_0 : Option Addr} {lx0_0 cx0_0 : Nat} {x0_1 x1 : Int} : #[.agg #[.slice Ax0_0 lx0_0 cx0_0, .int .i64 x0_1],.int .i64 x1] ++ Array.replicate (Try.f39.ntmps - (#[.agg #[.slice Ax0_0 lx0_0 cx0_0, .int .i64 x0_1],.int .i64 x1] : Array Value).size) undef = #[.agg #[.slice Ax0_0 lx0_0 cx0_0, .int .i64 x0_1],.int .i64 x1,undef,undef,undef,undef,undef,undef,undef,undef,undef,undef,undef,undef,undef,undef,undef,undef,undef,undef,undef,undef,undef,undef] := by kernel_rfl
theorem k39_0 : P39 [] = .seq (P39 [0]) (P39 [1]) := by kernel_rfl
theorem k39_1 : P39 [0] = .region 0 (O39 [0]) false := by kernel_rfl
theorem r39_0 {Ax0_0 : Option Addr} {lx0_0 cx0_0 : Nat} {x0_1 : Int} {M : Mem} {call : CallM} {K : Array Value → Mem → R} :
    opsK Try.prog (fun _ => call) (O39 [0]) (O39 [0]).toList 0 #[.agg #[.slice Ax0_0 lx0_0 cx0_0, .int .i64 x0_1],g1,g2,g3,g4,g5,g6,g7,g8,g9,g10,g11,g12,g13,g14,g15,g16,g17,g18,g19,g20,g21,g22,g23] M K = K #[.agg #[.slice Ax0_0 lx0_0 cx0_0, .int .i64 x0_1],g1,.pointer (some ⟨2 * M.nb.size, 0, none⟩),g3,.int .i64 0,g5,g6,g7,g8,g9,g10,g11,g12,g13,g14,g15,g16,g17,g18,g19,g20,g21,g22,g23] (M.new (.cells #[.slice Ax0_0 lx0_0 cx0_0, .int .i64 x0_1] 24)) := by kernel_rfl
theorem k39_2 : P39 [1] = .seq (P39 [1,0]) (P39 [1,1]) := by kernel_rfl
theorem k39_3 : P39 [1,0] = .seq (P39 [1,0,0]) (P39 [1,0,1]) := by kernel_rfl
theorem k39_4 : P39 [1,0,0] = .region 1 (O39 [1,0,0]) false := by kernel_rfl
theorem r39_1 {x1 : Int} {M : Mem} {call : CallM} {K : Array Value → Mem → R} :
    opsK Try.prog (fun _ => call) (O39 [1,0,0]) (O39 [1,0,0]).toList 0 #[g0,.int .i64 x1,g2,g3,g4,g5,g6,g7,g8,g9,g10,g11,g12,g13,g14,g15,g16,g17,g18,g19,g20,g21,g22,g23] M K = K #[g0,.int .i64 x1,g2,g3,g4,.int .i64 x1,.bool (decide (x1 < 0)),g7,g8,g9,g10,g11,g12,g13,g14,g15,g16,g17,g18,g19,g20,g21,g22,g23] M := by kernel_rfl
theorem c39_5 : P39 [1,0,1] = .cond (.tmp 6) (P39 [1,0,1,0]) (P39 [1,0,1,1]) := by kernel_rfl
theorem k39_6 : P39 [1,0,1,0] = .seq (P39 [1,0,1,0,0]) (P39 [1,0,1,0,1]) := by kernel_rfl
theorem k39_7 : P39 [1,0,1,0,0] = .region 2 (O39 [1,0,1,0,0]) false := by kernel_rfl
theorem r39_2 {M : Mem} {call : CallM} {K : Array Value → Mem → R} :
    opsK Try.prog (fun _ => call) (O39 [1,0,1,0,0]) (O39 [1,0,1,0,0]).toList 0 #[g0,g1,g2,g3,g4,g5,g6,g7,g8,g9,g10,g11,g12,g13,g14,g15,g16,g17,g18,g19,g20,g21,g22,g23] M K = K #[g0,g1,g2,g3,.int .i64 0,g5,g6,g7,g8,g9,g10,g11,g12,g13,g14,g15,g16,g17,g18,g19,g20,g21,g22,g23] M := by kernel_rfl
theorem k39_8 : P39 [1,0,1,0,1] = .ret := by kernel_rfl
theorem e39 {M : Mem} : finish Try.prog Try.f39 #[g0,g1,g2,g3,g4,g5,g6,g7,g8,g9,g10,g11,g12,g13,g14,g15,g16,g17,g18,g19,g20,g21,g22,g23] M = some (g4, M) := by kernel_rfl
theorem k39_10 : P39 [1,0,1,1] = .skip := by kernel_rfl
theorem k39_11 : P39 [1,1] = .seq (P39 [1,1,0]) (P39 [1,1,1]) := by kernel_rfl
theorem k39_12 : P39 [1,1,0] = .region 3 (O39 [1,1,0]) true ∧ drawOk (O39 [1,1,0]) = true := ⟨by kernel_rfl, by kernel_rfl⟩
theorem r39_3 {x1 : Int} {x2 : Option Addr} {M : Mem} {call : CallM} {K : Array Value → Mem → R} :
    opsI Try.prog (callAt call (O39 [1,1,0])) (O39 [1,1,0]) (ordOf (O39 [1,1,0])) [] #[g0,.int .i64 x1,.pointer x2,g3,g4,g5,g6,g7,g8,g9,g10,g11,g12,g13,g14,g15,g16,g17,g18,g19,g20,g21,g22,g23] M K = (x2).bind fun a_1 => (M.slAt a_1.block a_1.off).bind fun s_2 => (idxA s_2.1 (s_2.2.1) 1 x1).bind fun a_3 => (M.intAt .u16 a_3.block a_3.off).bind fun x_4 => (x2).bind fun a_5 => (M.slAt a_5.block a_5.off).bind fun s_6 => K #[g0,.int .i64 x1,.pointer x2,g3,.int .i64 (IntKind.i64.wrap ((IntKind.i64.wrap ((IntKind.i64.wrap ((IntKind.i64.wrap (x_4)) * (IntKind.i64.wrap (32768 - (IntKind.i64.wrap (4 * ((s_6.2.1 : Int)))))))).tdiv 32768)) + (IntKind.i64.wrap (4 * (IntKind.i64.wrap (x1 + 1)))))),g5,g6,.pointer (some ⟨a_1.block, a_1.off, none⟩),.slice s_2.1 (s_2.2.1) (s_2.2.2),.int .i64 x1,.pointer (some a_3),.int .u16 x_4,.int .i64 (IntKind.i64.wrap (x_4)),.pointer (some ⟨a_5.block, a_5.off, none⟩),.slice s_6.1 (s_6.2.1) (s_6.2.2),.int .i64 ((s_6.2.1 : Int)),.int .i64 (IntKind.i64.wrap (4 * ((s_6.2.1 : Int)))),.int .i64 (IntKind.i64.wrap (32768 - (IntKind.i64.wrap (4 * ((s_6.2.1 : Int)))))),.int .i64 (IntKind.i64.wrap ((IntKind.i64.wrap (x_4)) * (IntKind.i64.wrap (32768 - (IntKind.i64.wrap (4 * ((s_6.2.1 : Int)))))))),.int .i64 (IntKind.i64.wrap ((IntKind.i64.wrap ((IntKind.i64.wrap (x_4)) * (IntKind.i64.wrap (32768 - (IntKind.i64.wrap (4 * ((s_6.2.1 : Int)))))))).tdiv 32768)),.int .i64 x1,.int .i64 (IntKind.i64.wrap (x1 + 1)),.int .i64 (IntKind.i64.wrap (4 * (IntKind.i64.wrap (x1 + 1)))),.int .i64 (IntKind.i64.wrap ((IntKind.i64.wrap ((IntKind.i64.wrap ((IntKind.i64.wrap (x_4)) * (IntKind.i64.wrap (32768 - (IntKind.i64.wrap (4 * ((s_6.2.1 : Int)))))))).tdiv 32768)) + (IntKind.i64.wrap (4 * (IntKind.i64.wrap (x1 + 1))))))] M := by kernel_rfl
theorem k39_13 : P39 [1,1,1] = .ret := by kernel_rfl
theorem w39_0 {Ax0_0 : Option Addr} {lx0_0 cx0_0 : Nat} {x0_1 x1 : Int} {M : Mem} {Q : Value → Mem → Prop} (H :
    ((x1 < 0 →
     Q (.int .i64 0) (M.new (.cells #[.slice Ax0_0 lx0_0 cx0_0, .int .i64 x0_1] 24))) ∧
     (¬ (x1 < 0) →
     ∃ s1', (M.new (.cells #[.slice Ax0_0 lx0_0 cx0_0, .int .i64 x0_1] 24)).slAt (2 * M.nb.size) 0 = some s1' ∧
     ∃ a2', idxA s1'.1 (s1'.2.1) 1 x1 = some a2' ∧
     ∃ x3', (M.new (.cells #[.slice Ax0_0 lx0_0 cx0_0, .int .i64 x0_1] 24)).intAt .u16 a2'.block a2'.off = some x3' ∧
     ∃ s4', (M.new (.cells #[.slice Ax0_0 lx0_0 cx0_0, .int .i64 x0_1] 24)).slAt (2 * M.nb.size) 0 = some s4' ∧
     Q (.int .i64 (IntKind.i64.wrap ((IntKind.i64.wrap ((IntKind.i64.wrap ((IntKind.i64.wrap (x3')) * (IntKind.i64.wrap (32768 - (IntKind.i64.wrap (4 * ((s4'.2.1 : Int)))))))).tdiv 32768)) + (IntKind.i64.wrap (4 * (IntKind.i64.wrap (x1 + 1))))))) (M.new (.cells #[.slice Ax0_0 lx0_0 cx0_0, .int .i64 x0_1] 24))))) :
    Cn Try.prog 39 #[.agg #[.slice Ax0_0 lx0_0 cx0_0, .int .i64 x0_1], .int .i64 x1] M Q := by
  refine Cn.of b39 d39 t39 ?_
  refine Rn.seq k39_0 (Rn.region k39_1 (fun call K => r39_0) (Rch.leaf (Rn.seq k39_2 (Rn.seq k39_3 (Rn.region k39_4 (fun call K => r39_1) (Rch.leaf ?_))))))
  refine Rn.cnd (v := decide (x1 < 0)) ⟨c39_5, rfl, by kernel_rfl⟩ (fun h => ?_) (fun h => ?_)
  · replace H := H.1 (of_decide_eq_true h)
    refine Rn.seq k39_6 (Rn.region k39_7 (fun call K => r39_2) (Rch.leaf ?_))
    exact Rn.ret k39_8 e39 H
  · replace H := H.2 (of_decide_eq_false h)
    refine Rn.skip k39_10 (Rn.seq k39_11 (Rn.regionD k39_12 (fun call K => r39_3) (Rch.bind (x := ⟨2 * M.nb.size, 0, none⟩) rfl (Rch.ex H fun s1' H => Rch.ex H fun a2' H => Rch.ex H fun x3' H => Rch.bind (x := ⟨2 * M.nb.size, 0, none⟩) rfl (Rch.ex H fun s4' H => Rch.leaf ?_)))))
    exact Rn.ret k39_13 e39 H


/-! ### zoetrope/cdf.asked: function 32 -/
noncomputable abbrev P32 (p : List Nat) : Code := subC (codeOf Try.f32) p
noncomputable abbrev O32 (p : List Nat) : Array Oper := opsOf (subC (codeOf Try.f32) p)
theorem b32 : Try.prog.funcs[32]? = some Try.f32 ∧ (Orc.tab Try.prog).lookup 32 = none := ⟨by kernel_rfl, by kernel_rfl⟩
theorem d32 : Try.f32.body = some (P32 []) := by kernel_rfl
theorem t32 {Ax0_0 : Option Addr} {lx0_0 cx0_0 : Nat} {x0_1 x1 : Int} : #[.agg #[.slice Ax0_0 lx0_0 cx0_0, .int .i64 x0_1],.int .i64 x1] ++ Array.replicate (Try.f32.ntmps - (#[.agg #[.slice Ax0_0 lx0_0 cx0_0, .int .i64 x0_1],.int .i64 x1] : Array Value).size) undef = #[.agg #[.slice Ax0_0 lx0_0 cx0_0, .int .i64 x0_1],.int .i64 x1,undef,undef,undef,undef,undef,undef,undef,undef,undef,undef,undef,undef,undef,undef,undef,undef,undef] := by kernel_rfl
theorem k32_0 : P32 [] = .seq (P32 [0]) (P32 [1]) := by kernel_rfl
theorem k32_1 : P32 [0] = .region 0 (O32 [0]) false := by kernel_rfl
theorem r32_0 {Ax0_0 : Option Addr} {lx0_0 cx0_0 : Nat} {x0_1 : Int} {M : Mem} {call : CallM} {K : Array Value → Mem → R} :
    opsK Try.prog (fun _ => call) (O32 [0]) (O32 [0]).toList 0 #[.agg #[.slice Ax0_0 lx0_0 cx0_0, .int .i64 x0_1],g1,g2,g3,g4,g5,g6,g7,g8,g9,g10,g11,g12,g13,g14,g15,g16,g17,g18] M K = K #[.agg #[.slice Ax0_0 lx0_0 cx0_0, .int .i64 x0_1],g1,.pointer (some ⟨2 * M.nb.size, 0, none⟩),g3,.bool false,g5,g6,g7,g8,g9,g10,g11,g12,g13,g14,g15,g16,g17,g18] (M.new (.cells #[.slice Ax0_0 lx0_0 cx0_0, .int .i64 x0_1] 24)) := by kernel_rfl
theorem k32_2 : P32 [1] = .seq (P32 [1,0]) (P32 [1,1]) := by kernel_rfl
theorem k32_3 : P32 [1,0] = .region 1 (O32 [1,0]) false := by kernel_rfl
theorem r32_1 {x1 : Int} {x2 : Option Addr} {M : Mem} {call : CallM} {K : Array Value → Mem → R} :
    opsK Try.prog (fun _ => call) (O32 [1,0]) (O32 [1,0]).toList 0 #[g0,.int .i64 x1,.pointer x2,g3,g4,g5,g6,g7,g8,g9,g10,g11,g12,g13,g14,g15,g16,g17,g18] M K = withK (fun w4 w5 w6 w7 w8 w9 w10 w11 w12 w13 w14 w15 w16 w17 w18 M => K #[g0,.int .i64 x1,.pointer x2,g3,w4,w5,w6,w7,w8,w9,w10,w11,w12,w13,w14,w15,w16,w17,w18] M) fun k => (x2).bind fun a_1 => (M.slAt a_1.block a_1.off).bind fun s_2 => (M.intAt .i64 a_1.block (a_1.off + 1)).bind fun x_3 => (call 19 #[.agg #[.slice s_2.1 (s_2.2.1) (s_2.2.2), .int .i64 x_3]] M).bind fun r_4 => (asI .i64 r_4.1).bind fun x_5 => cond (x_5 == 0) (cond (decide (x1 ≥ 0)) ((x2).bind fun a_6 => (r_4.2.slAt a_6.block a_6.off).bind fun s_7 => k (.bool (decide (x1 < ((s_7.2.1 : Int))))) (.agg #[.slice s_2.1 (s_2.2.1) (s_2.2.2), .int .i64 x_3]) (.int .i64 x_5) (.bool (x_5 == 0)) (.bool true) (.int .i64 x1) (.bool (decide (x1 ≥ 0))) (.bool (decide (x1 ≥ 0))) (.bool true) (.int .i64 x1) (.pointer (some ⟨a_6.block, a_6.off, none⟩)) (.slice s_7.1 (s_7.2.1) (s_7.2.2)) (.int .i64 ((s_7.2.1 : Int))) (.bool (decide (x1 < ((s_7.2.1 : Int))))) (.bool (decide (x1 < ((s_7.2.1 : Int))))) r_4.2) (k (.bool false) (.agg #[.slice s_2.1 (s_2.2.1) (s_2.2.2), .int .i64 x_3]) (.int .i64 x_5) (.bool (x_5 == 0)) (.bool true) (.int .i64 x1) (.bool (decide (x1 ≥ 0))) (.bool (decide (x1 ≥ 0))) (.bool false) undef undef undef undef undef (.bool false) r_4.2)) (k (.bool false) (.agg #[.slice s_2.1 (s_2.2.1) (s_2.2.2), .int .i64 x_3]) (.int .i64 x_5) (.bool (x_5 == 0)) (.bool false) undef undef (.bool false) (.bool false) undef undef undef undef undef (.bool false) r_4.2) := by kernel_rfl
theorem k32_4 : P32 [1,1] = .ret := by kernel_rfl
theorem e32 {M : Mem} : finish Try.prog Try.f32 #[g0,g1,g2,g3,g4,g5,g6,g7,g8,g9,g10,g11,g12,g13,g14,g15,g16,g17,g18] M = some (g4, M) := by kernel_rfl
theorem w32_0 {Ax0_0 : Option Addr} {lx0_0 cx0_0 : Nat} {x0_1 x1 : Int} {M : Mem} {Q : Value → Mem → Prop} (H :
    ∃ s1', (M.new (.cells #[.slice Ax0_0 lx0_0 cx0_0, .int .i64 x0_1] 24)).slAt (2 * M.nb.size) 0 = some s1' ∧
    ∃ x2', (M.new (.cells #[.slice Ax0_0 lx0_0 cx0_0, .int .i64 x0_1] 24)).intAt .i64 (2 * M.nb.size) (0 + 1) = some x2' ∧
    Cn Try.prog 19 #[.agg #[.slice s1'.1 (s1'.2.1) (s1'.2.2), .int .i64 x2']] (M.new (.cells #[.slice Ax0_0 lx0_0 cx0_0, .int .i64 x0_1] 24)) fun v3' N3' =>
     ∃ x4', asI .i64 v3' = some x4' ∧
     ((x4' = 0 →
      ((x1 ≥ 0 →
       ∃ s5', N3'.slAt (2 * M.nb.size) 0 = some s5' ∧
       Q (.bool (decide (x1 < ((s5'.2.1 : Int))))) N3') ∧
       (¬ (x1 ≥ 0) →
       Q (.bool false) N3'))) ∧
      (x4' ≠ 0 →
      Q (.bool false) N3'))) :
    Cn Try.prog 32 #[.agg #[.slice Ax0_0 lx0_0 cx0_0, .int .i64 x0_1], .int .i64 x1] M Q := by
  refine Cn.of b32 d32 t32 ?_
  refine Rn.seq k32_0 (Rn.region k32_1 (fun call K => r32_0) (Rch.leaf (Rn.seq k32_2 (Rn.region k32_3 (fun call K => r32_1) (Rch.bind (x := ⟨2 * M.nb.size, 0, none⟩) rfl (Rch.ex H fun s1' H => Rch.ex H fun x2' H => Rch.call H fun v3' N3' H => Rch.ex H fun x4' H => ?_))))))
  refine Rch.cB (fun h => ?_) (fun h => ?_)
  · replace H := H.1 (eq_of_beq h)
    refine Rch.cB (fun h => ?_) (fun h => ?_)
    · replace H := H.1 (of_decide_eq_true h)
      refine Rch.bind (x := ⟨2 * M.nb.size, 0, none⟩) rfl (Rch.ex H fun s5' H => Rch.leaf ?_)
      exact Rn.ret k32_4 e32 H
    · replace H := H.2 (of_decide_eq_false h)
      refine Rch.leaf ?_
      exact Rn.ret k32_4 e32 H
  · replace H := H.2 (ne_of_beq_false h)
    refine Rch.leaf ?_
    exact Rn.ret k32_4 e32 H


end Go.Zt
