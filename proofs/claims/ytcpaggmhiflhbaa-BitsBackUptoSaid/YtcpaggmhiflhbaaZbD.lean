/- The functions' walks: for each function and each loop a rule of what it comes to. Printed by zw.py. -/
import Derived.Test.YtcpaggmhiflhbaaProg
import Derived.Test.YtcpaggmhiflhbaaZbA
set_option linter.unusedVariables false
set_option maxRecDepth 100000
namespace Go.Zt
open Go Go.Sim Go.Proofs

variable {g0 g1 g2 g3 g4 g5 g6 g7 g8 g9 g10 g11 g12 g13 g14 g15 g16 g17 g18 g19 g20 g21 g22 g23 g24 g25 g26 g27 g28 g29 g30 g31 g32 g33 g34 g35 g36 g37 g38 g39 g40 g41 g42 g43 g44 : Value}
/-! ### zoetrope/zoetroperef00.Bring: function 12 -/
noncomputable abbrev P12 (p : List Nat) : Code := subC (codeOf Try.f12) p
noncomputable abbrev O12 (p : List Nat) : Array Oper := opsOf (subC (codeOf Try.f12) p)
theorem b12 : Try.prog.funcs[12]? = some Try.f12 ∧ (Orc.tab Try.prog).lookup 12 = none := ⟨by kernel_rfl, by kernel_rfl⟩
theorem d12 : Try.f12.body = some (P12 []) := by kernel_rfl
theorem t12 {x0 x1 : Int} : #[.int .i64 x0,.int .i64 x1] ++ Array.replicate (Try.f12.ntmps - (#[.int .i64 x0,.int .i64 x1] : Array Value).size) undef = #[.int .i64 x0,.int .i64 x1,undef,undef,undef,undef,undef,undef,undef,undef,undef,undef,undef,undef,undef,undef] := by kernel_rfl
theorem k12_0 : P12 [] = .seq (P12 [0]) (P12 [1]) := by kernel_rfl
theorem k12_1 : P12 [0] = .region 0 (O12 [0]) false := by kernel_rfl
theorem r12_0 {M : Mem} {call : CallM} {K : Array Value → Mem → R} :
    opsK Try.prog (fun _ => call) (O12 [0]) (O12 [0]).toList 0 #[g0,g1,g2,g3,g4,g5,g6,g7,g8,g9,g10,g11,g12,g13,g14,g15] M K = K #[g0,g1,g2,g3,.int .i64 0,g5,g6,g7,g8,g9,g10,g11,g12,g13,g14,g15] M := by kernel_rfl
theorem k12_2 : P12 [1] = .seq (P12 [1,0]) (P12 [1,1]) := by kernel_rfl
theorem k12_3 : P12 [1,0] = .seq (P12 [1,0,0]) (P12 [1,0,1]) := by kernel_rfl
theorem k12_4 : P12 [1,0,0] = .region 1 (O12 [1,0,0]) false := by kernel_rfl
theorem r12_1 {x1 : Int} {M : Mem} {call : CallM} {K : Array Value → Mem → R} :
    opsK Try.prog (fun _ => call) (O12 [1,0,0]) (O12 [1,0,0]).toList 0 #[g0,.int .i64 x1,g2,g3,g4,g5,g6,g7,g8,g9,g10,g11,g12,g13,g14,g15] M K = K #[g0,.int .i64 x1,g2,g3,g4,.int .i64 x1,.bool (decide (x1 ≤ 0)),g7,g8,g9,g10,g11,g12,g13,g14,g15] M := by kernel_rfl
theorem c12_5 : P12 [1,0,1] = .cond (.tmp 6) (P12 [1,0,1,0]) (P12 [1,0,1,1]) := by kernel_rfl
theorem k12_6 : P12 [1,0,1,0] = .seq (P12 [1,0,1,0,0]) (P12 [1,0,1,0,1]) := by kernel_rfl
theorem k12_7 : P12 [1,0,1,0,0] = .region 2 (O12 [1,0,1,0,0]) false := by kernel_rfl
theorem r12_2 {M : Mem} {call : CallM} {K : Array Value → Mem → R} :
    opsK Try.prog (fun _ => call) (O12 [1,0,1,0,0]) (O12 [1,0,1,0,0]).toList 0 #[g0,g1,g2,g3,g4,g5,g6,g7,g8,g9,g10,g11,g12,g13,g14,g15] M K = K #[g0,g1,g2,g3,.int .i64 0,g5,g6,g7,g8,g9,g10,g11,g12,g13,g14,g15] M := by kernel_rfl
theorem k12_8 : P12 [1,0,1,0,1] = .ret := by kernel_rfl
theorem e12 {M : Mem} : finish Try.prog Try.f12 #[g0,g1,g2,g3,g4,g5,g6,g7,g8,g9,g10,g11,g12,g13,g14,g15] M = some (g4, M) := by kernel_rfl
theorem k12_10 : P12 [1,0,1,1] = .skip := by kernel_rfl
theorem k12_11 : P12 [1,1] = .seq (P12 [1,1,0]) (P12 [1,1,1]) := by kernel_rfl
theorem k12_12 : P12 [1,1,0] = .region 3 (O12 [1,1,0]) false := by kernel_rfl
theorem r12_3 {x0 x1 : Int} {M : Mem} {call : CallM} {K : Array Value → Mem → R} :
    opsK Try.prog (fun _ => call) (O12 [1,1,0]) (O12 [1,1,0]).toList 0 #[.int .i64 x0,.int .i64 x1,g2,g3,g4,g5,g6,g7,g8,g9,g10,g11,g12,g13,g14,g15] M K = (binV Try.prog .rem 3 3 (.int .i64 x0) (.int .i64 x1)).bind fun v_1 => (asI .i64 v_1).bind fun x_2 => K #[.int .i64 x_2,.int .i64 x1,g2,g3,g4,g5,g6,.int .i64 x0,.int .i64 x1,.int .i64 x_2,g10,g11,g12,g13,g14,g15] M := by kernel_rfl
theorem k12_13 : P12 [1,1,1] = .seq (P12 [1,1,1,0]) (P12 [1,1,1,1]) := by kernel_rfl
theorem k12_14 : P12 [1,1,1,0] = .seq (P12 [1,1,1,0,0]) (P12 [1,1,1,0,1]) := by kernel_rfl
theorem k12_15 : P12 [1,1,1,0,0] = .region 4 (O12 [1,1,1,0,0]) false := by kernel_rfl
theorem r12_4 {x0 : Int} {M : Mem} {call : CallM} {K : Array Value → Mem → R} :
    opsK Try.prog (fun _ => call) (O12 [1,1,1,0,0]) (O12 [1,1,1,0,0]).toList 0 #[.int .i64 x0,g1,g2,g3,g4,g5,g6,g7,g8,g9,g10,g11,g12,g13,g14,g15] M K = K #[.int .i64 x0,g1,g2,g3,g4,g5,g6,g7,g8,g9,.int .i64 x0,.bool (decide (x0 < 0)),g12,g13,g14,g15] M := by kernel_rfl
theorem c12_16 : P12 [1,1,1,0,1] = .cond (.tmp 11) (P12 [1,1,1,0,1,0]) (P12 [1,1,1,0,1,1]) := by kernel_rfl
theorem k12_17 : P12 [1,1,1,0,1,0] = .region 5 (O12 [1,1,1,0,1,0]) false := by kernel_rfl
theorem r12_5 {x0 x1 : Int} {M : Mem} {call : CallM} {K : Array Value → Mem → R} :
    opsK Try.prog (fun _ => call) (O12 [1,1,1,0,1,0]) (O12 [1,1,1,0,1,0]).toList 0 #[.int .i64 x0,.int .i64 x1,g2,g3,g4,g5,g6,g7,g8,g9,g10,g11,g12,g13,g14,g15] M K = K #[.int .i64 (IntKind.i64.wrap (x0 + x1)),.int .i64 x1,g2,g3,g4,g5,g6,g7,g8,g9,g10,g11,.int .i64 x0,.int .i64 x1,.int .i64 (IntKind.i64.wrap (x0 + x1)),g15] M := by kernel_rfl
theorem k12_18 : P12 [1,1,1,1] = .seq (P12 [1,1,1,1,0]) (P12 [1,1,1,1,1]) := by kernel_rfl
theorem k12_19 : P12 [1,1,1,1,0] = .region 6 (O12 [1,1,1,1,0]) false := by kernel_rfl
theorem r12_6 {x0 : Int} {M : Mem} {call : CallM} {K : Array Value → Mem → R} :
    opsK Try.prog (fun _ => call) (O12 [1,1,1,1,0]) (O12 [1,1,1,1,0]).toList 0 #[.int .i64 x0,g1,g2,g3,g4,g5,g6,g7,g8,g9,g10,g11,g12,g13,g14,g15] M K = K #[.int .i64 x0,g1,g2,g3,.int .i64 x0,g5,g6,g7,g8,g9,g10,g11,g12,g13,g14,.int .i64 x0] M := by kernel_rfl
theorem k12_20 : P12 [1,1,1,1,1] = .ret := by kernel_rfl
theorem k12_21 : P12 [1,1,1,0,1,1] = .skip := by kernel_rfl
theorem w12_0 {x0 x1 : Int} {M : Mem} {Q : Value → Mem → Prop} (H :
    ((x1 ≤ 0 →
     Q (.int .i64 0) M) ∧
     (¬ (x1 ≤ 0) →
     ∃ v1', binV Try.prog .rem 3 3 (.int .i64 x0) (.int .i64 x1) = some v1' ∧
     ∃ x2', asI .i64 v1' = some x2' ∧
     ((x2' < 0 →
      Q (.int .i64 (IntKind.i64.wrap (x2' + x1))) M) ∧
      (¬ (x2' < 0) →
      Q (.int .i64 (x2')) M))))) :
    Cn Try.prog 12 #[.int .i64 x0, .int .i64 x1] M Q := by
  refine Cn.of b12 d12 t12 ?_
  refine Rn.seq k12_0 (Rn.region k12_1 (fun call K => r12_0) (Rch.leaf (Rn.seq k12_2 (Rn.seq k12_3 (Rn.region k12_4 (fun call K => r12_1) (Rch.leaf ?_))))))
  refine Rn.cnd (v := decide (x1 ≤ 0)) ⟨c12_5, rfl, by kernel_rfl⟩ (fun h => ?_) (fun h => ?_)
  · replace H := H.1 (of_decide_eq_true h)
    refine Rn.seq k12_6 (Rn.region k12_7 (fun call K => r12_2) (Rch.leaf ?_))
    exact Rn.ret k12_8 e12 H
  · replace H := H.2 (of_decide_eq_false h)
    refine Rn.skip k12_10 (Rn.seq k12_11 (Rn.region k12_12 (fun call K => r12_3) (Rch.ex H fun v1' H => Rch.ex H fun x2' H => Rch.leaf (Rn.seq k12_13 (Rn.seq k12_14 (Rn.region k12_15 (fun call K => r12_4) (Rch.leaf ?_)))))))
    refine Rn.cnd (v := decide (x2' < 0)) ⟨c12_16, rfl, by kernel_rfl⟩ (fun h => ?_) (fun h => ?_)
    · replace H := H.1 (of_decide_eq_true h)
      refine Rn.region k12_17 (fun call K => r12_5) (Rch.leaf (Rn.seq k12_18 (Rn.region k12_19 (fun call K => r12_6) (Rch.leaf ?_))))
      exact Rn.ret k12_20 e12 H
    · replace H := H.2 (of_decide_eq_false h)
      refine Rn.skip k12_21 (Rn.seq k12_18 (Rn.region k12_19 (fun call K => r12_6) (Rch.leaf ?_)))
      exact Rn.ret k12_20 e12 H


/-! ### zoetrope/zoetroperef00.EqBytes: function 19 -/
noncomputable abbrev P19 (p : List Nat) : Code := subC (codeOf Try.f19) p
noncomputable abbrev O19 (p : List Nat) : Array Oper := opsOf (subC (codeOf Try.f19) p)
theorem b19 : Try.prog.funcs[19]? = some Try.f19 ∧ (Orc.tab Try.prog).lookup 19 = none := ⟨by kernel_rfl, by kernel_rfl⟩
theorem d19 : Try.f19.body = some (P19 []) := by kernel_rfl
theorem t19 {Ax0 : Option Addr} {lx0 cx0 : Nat} {Ax1 : Option Addr} {lx1 cx1 : Nat} : #[.slice Ax0 lx0 cx0,.slice Ax1 lx1 cx1] ++ Array.replicate (Try.f19.ntmps - (#[.slice Ax0 lx0 cx0,.slice Ax1 lx1 cx1] : Array Value).size) undef = #[.slice Ax0 lx0 cx0,.slice Ax1 lx1 cx1,undef,undef,undef,undef,undef,undef,undef,undef,undef,undef,undef,undef,undef,undef,undef,undef,undef,undef,undef,undef,undef,undef,undef,undef] := by kernel_rfl
theorem k19_0 : P19 [] = .seq (P19 [0]) (P19 [1]) := by kernel_rfl
theorem k19_1 : P19 [0] = .region 0 (O19 [0]) false := by kernel_rfl
theorem r19_0 {M : Mem} {call : CallM} {K : Array Value → Mem → R} :
    opsK Try.prog (fun _ => call) (O19 [0]) (O19 [0]).toList 0 #[g0,g1,g2,g3,g4,g5,g6,g7,g8,g9,g10,g11,g12,g13,g14,g15,g16,g17,g18,g19,g20,g21,g22,g23,g24,g25] M K = K #[g0,g1,g2,g3,.bool false,g5,g6,g7,g8,g9,g10,g11,g12,g13,g14,g15,g16,g17,g18,g19,g20,g21,g22,g23,g24,g25] M := by kernel_rfl
theorem k19_2 : P19 [1] = .seq (P19 [1,0]) (P19 [1,1]) := by kernel_rfl
theorem k19_3 : P19 [1,0] = .seq (P19 [1,0,0]) (P19 [1,0,1]) := by kernel_rfl
theorem k19_4 : P19 [1,0,0] = .region 1 (O19 [1,0,0]) false := by kernel_rfl
theorem r19_1 {Ax0 : Option Addr} {lx0 cx0 : Nat} {Ax1 : Option Addr} {lx1 cx1 : Nat} {M : Mem} {call : CallM} {K : Array Value → Mem → R} :
    opsK Try.prog (fun _ => call) (O19 [1,0,0]) (O19 [1,0,0]).toList 0 #[.slice Ax0 lx0 cx0,.slice Ax1 lx1 cx1,g2,g3,g4,g5,g6,g7,g8,g9,g10,g11,g12,g13,g14,g15,g16,g17,g18,g19,g20,g21,g22,g23,g24,g25] M K = K #[.slice Ax0 lx0 cx0,.slice Ax1 lx1 cx1,g2,g3,g4,g5,.slice Ax0 lx0 cx0,.int .i64 ((lx0 : Int)),.slice Ax1 lx1 cx1,.int .i64 ((lx1 : Int)),.bool (((lx0 : Int)) != ((lx1 : Int))),g11,g12,g13,g14,g15,g16,g17,g18,g19,g20,g21,g22,g23,g24,g25] M := by kernel_rfl
theorem c19_5 : P19 [1,0,1] = .cond (.tmp 10) (P19 [1,0,1,0]) (P19 [1,0,1,1]) := by kernel_rfl
theorem k19_6 : P19 [1,0,1,0] = .seq (P19 [1,0,1,0,0]) (P19 [1,0,1,0,1]) := by kernel_rfl
theorem k19_7 : P19 [1,0,1,0,0] = .region 2 (O19 [1,0,1,0,0]) false := by kernel_rfl
theorem r19_2 {M : Mem} {call : CallM} {K : Array Value → Mem → R} :
    opsK Try.prog (fun _ => call) (O19 [1,0,1,0,0]) (O19 [1,0,1,0,0]).toList 0 #[g0,g1,g2,g3,g4,g5,g6,g7,g8,g9,g10,g11,g12,g13,g14,g15,g16,g17,g18,g19,g20,g21,g22,g23,g24,g25] M K = K #[g0,g1,g2,g3,.bool false,g5,g6,g7,g8,g9,g10,g11,g12,g13,g14,g15,g16,g17,g18,g19,g20,g21,g22,g23,g24,g25] M := by kernel_rfl
theorem k19_8 : P19 [1,0,1,0,1] = .ret := by kernel_rfl
theorem e19 {M : Mem} : finish Try.prog Try.f19 #[g0,g1,g2,g3,g4,g5,g6,g7,g8,g9,g10,g11,g12,g13,g14,g15,g16,g17,g18,g19,g20,g21,g22,g23,g24,g25] M = some (g4, M) := by kernel_rfl
theorem k19_10 : P19 [1,0,1,1] = .skip := by kernel_rfl
theorem k19_11 : P19 [1,1] = .seq (P19 [1,1,0]) (P19 [1,1,1]) := by kernel_rfl
theorem k19_12 : P19 [1,1,0] = .seq (P19 [1,1,0,0]) (P19 [1,1,0,1]) := by kernel_rfl
theorem k19_13 : P19 [1,1,0,0] = .region 3 (O19 [1,1,0,0]) false := by kernel_rfl
theorem r19_3 {M : Mem} {call : CallM} {K : Array Value → Mem → R} :
    opsK Try.prog (fun _ => call) (O19 [1,1,0,0]) (O19 [1,1,0,0]).toList 0 #[g0,g1,g2,g3,g4,g5,g6,g7,g8,g9,g10,g11,g12,g13,g14,g15,g16,g17,g18,g19,g20,g21,g22,g23,g24,g25] M K = K #[g0,g1,g2,g3,g4,.int .i64 0,g6,g7,g8,g9,g10,g11,g12,g13,g14,g15,g16,g17,g18,g19,g20,g21,g22,g23,g24,g25] M := by kernel_rfl
theorem k19_14 : P19 [1,1,0,1] = .block 0 (P19 [1,1,0,1,0]) := by kernel_rfl
theorem k19_15 : P19 [1,1,0,1,0] = .loop (P19 [1,1,0,1,0,0]) := by kernel_rfl
theorem k19_16 : P19 [1,1,0,1,0,0] = .seq (P19 [1,1,0,1,0,0,0]) (P19 [1,1,0,1,0,0,1]) := by kernel_rfl
theorem k19_17 : P19 [1,1,0,1,0,0,0] = .seq (P19 [1,1,0,1,0,0,0,0]) (P19 [1,1,0,1,0,0,0,1]) := by kernel_rfl
theorem k19_18 : P19 [1,1,0,1,0,0,0,0] = .region 4 (O19 [1,1,0,1,0,0,0,0]) false := by kernel_rfl
theorem r19_4 {Ax0 : Option Addr} {lx0 cx0 : Nat} {x5 : Int} {M : Mem} {call : CallM} {K : Array Value → Mem → R} :
    opsK Try.prog (fun _ => call) (O19 [1,1,0,1,0,0,0,0]) (O19 [1,1,0,1,0,0,0,0]).toList 0 #[.slice Ax0 lx0 cx0,g1,g2,g3,g4,.int .i64 x5,g6,g7,g8,g9,g10,g11,g12,g13,g14,g15,g16,g17,g18,g19,g20,g21,g22,g23,g24,g25] M K = K #[.slice Ax0 lx0 cx0,g1,g2,g3,g4,.int .i64 x5,g6,g7,g8,g9,g10,.int .i64 x5,.slice Ax0 lx0 cx0,.int .i64 ((lx0 : Int)),.bool (decide (x5 < ((lx0 : Int)))),g15,g16,g17,g18,g19,g20,g21,g22,g23,g24,g25] M := by kernel_rfl
theorem c19_19 : P19 [1,1,0,1,0,0,0,1] = .cond (.tmp 14) (P19 [1,1,0,1,0,0,0,1,0]) (P19 [1,1,0,1,0,0,0,1,1]) := by kernel_rfl
theorem k19_20 : P19 [1,1,0,1,0,0,0,1,0] = .skip := by kernel_rfl
theorem k19_21 : P19 [1,1,0,1,0,0,1] = .seq (P19 [1,1,0,1,0,0,1,0]) (P19 [1,1,0,1,0,0,1,1]) := by kernel_rfl
theorem k19_22 : P19 [1,1,0,1,0,0,1,0] = .block 1 (P19 [1,1,0,1,0,0,1,0,0]) := by kernel_rfl
theorem k19_23 : P19 [1,1,0,1,0,0,1,0,0] = .seq (P19 [1,1,0,1,0,0,1,0,0,0]) (P19 [1,1,0,1,0,0,1,0,0,1]) := by kernel_rfl
theorem k19_24 : P19 [1,1,0,1,0,0,1,0,0,0] = .region 6 (O19 [1,1,0,1,0,0,1,0,0,0]) true ∧ drawOk (O19 [1,1,0,1,0,0,1,0,0,0]) = true := ⟨by kernel_rfl, by kernel_rfl⟩
theorem r19_6 {Ax0 : Option Addr} {lx0 cx0 : Nat} {Ax1 : Option Addr} {lx1 cx1 : Nat} {x5 : Int} {M : Mem} {call : CallM} {K : Array Value → Mem → R} :
    opsI Try.prog (callAt call (O19 [1,1,0,1,0,0,1,0,0,0])) (O19 [1,1,0,1,0,0,1,0,0,0]) (ordOf (O19 [1,1,0,1,0,0,1,0,0,0])) [] #[.slice Ax0 lx0 cx0,.slice Ax1 lx1 cx1,g2,g3,g4,.int .i64 x5,g6,g7,g8,g9,g10,g11,g12,g13,g14,g15,g16,g17,g18,g19,g20,g21,g22,g23,g24,g25] M K = (idxA Ax0 lx0 1 x5).bind fun a_1 => (M.intAt .u8 a_1.block a_1.off).bind fun x_2 => (idxA Ax1 lx1 1 x5).bind fun a_3 => (M.intAt .u8 a_3.block a_3.off).bind fun x_4 => K #[.slice Ax0 lx0 cx0,.slice Ax1 lx1 cx1,g2,g3,g4,.int .i64 x5,g6,g7,g8,g9,g10,g11,g12,g13,g14,g15,g16,.slice Ax0 lx0 cx0,.int .i64 x5,.pointer (some a_1),.int .u8 x_2,.slice Ax1 lx1 cx1,.int .i64 x5,.pointer (some a_3),.int .u8 x_4,.bool (x_2 != x_4)] M := by kernel_rfl
theorem c19_25 : P19 [1,1,0,1,0,0,1,0,0,1] = .cond (.tmp 25) (P19 [1,1,0,1,0,0,1,0,0,1,0]) (P19 [1,1,0,1,0,0,1,0,0,1,1]) := by kernel_rfl
theorem k19_26 : P19 [1,1,0,1,0,0,1,0,0,1,0] = .seq (P19 [1,1,0,1,0,0,1,0,0,1,0,0]) (P19 [1,1,0,1,0,0,1,0,0,1,0,1]) := by kernel_rfl
theorem k19_27 : P19 [1,1,0,1,0,0,1,0,0,1,0,0] = .region 7 (O19 [1,1,0,1,0,0,1,0,0,1,0,0]) false := by kernel_rfl
theorem r19_7 {M : Mem} {call : CallM} {K : Array Value → Mem → R} :
    opsK Try.prog (fun _ => call) (O19 [1,1,0,1,0,0,1,0,0,1,0,0]) (O19 [1,1,0,1,0,0,1,0,0,1,0,0]).toList 0 #[g0,g1,g2,g3,g4,g5,g6,g7,g8,g9,g10,g11,g12,g13,g14,g15,g16,g17,g18,g19,g20,g21,g22,g23,g24,g25] M K = K #[g0,g1,g2,g3,.bool false,g5,g6,g7,g8,g9,g10,g11,g12,g13,g14,g15,g16,g17,g18,g19,g20,g21,g22,g23,g24,g25] M := by kernel_rfl
theorem k19_28 : P19 [1,1,0,1,0,0,1,0,0,1,0,1] = .ret := by kernel_rfl
theorem k19_29 : P19 [1,1,0,1,0,0,1,0,0,1,1] = .skip := by kernel_rfl
theorem k19_30 : P19 [1,1,0,1,0,0,1,1] = .region 5 (O19 [1,1,0,1,0,0,1,1]) false := by kernel_rfl
theorem r19_5 {x5 : Int} {M : Mem} {call : CallM} {K : Array Value → Mem → R} :
    opsK Try.prog (fun _ => call) (O19 [1,1,0,1,0,0,1,1]) (O19 [1,1,0,1,0,0,1,1]).toList 0 #[g0,g1,g2,g3,g4,.int .i64 x5,g6,g7,g8,g9,g10,g11,g12,g13,g14,g15,g16,g17,g18,g19,g20,g21,g22,g23,g24,g25] M K = K #[g0,g1,g2,g3,g4,.int .i64 (IntKind.i64.wrap (x5 + 1)),g6,g7,g8,g9,g10,g11,g12,g13,g14,.int .i64 x5,.int .i64 (IntKind.i64.wrap (x5 + 1)),g17,g18,g19,g20,g21,g22,g23,g24,g25] M := by kernel_rfl
theorem k19_31 : P19 [1,1,0,1,0,0,0,1,1] = .exit 0 := by kernel_rfl
theorem k19_32 : P19 [1,1,1] = .seq (P19 [1,1,1,0]) (P19 [1,1,1,1]) := by kernel_rfl
theorem k19_33 : P19 [1,1,1,0] = .region 8 (O19 [1,1,1,0]) false := by kernel_rfl
theorem r19_8 {M : Mem} {call : CallM} {K : Array Value → Mem → R} :
    opsK Try.prog (fun _ => call) (O19 [1,1,1,0]) (O19 [1,1,1,0]).toList 0 #[g0,g1,g2,g3,g4,g5,g6,g7,g8,g9,g10,g11,g12,g13,g14,g15,g16,g17,g18,g19,g20,g21,g22,g23,g24,g25] M K = K #[g0,g1,g2,g3,.bool true,g5,g6,g7,g8,g9,g10,g11,g12,g13,g14,g15,g16,g17,g18,g19,g20,g21,g22,g23,g24,g25] M := by kernel_rfl
theorem k19_34 : P19 [1,1,1,1] = .ret := by kernel_rfl
noncomputable def S19_1 : List Item := [.code (P19 [1,1,0,1,0,0]), .inLoop (P19 [1,1,0,1,0,0]), .inBlock 0, .code (P19 [1,1,1])]
def A19_1 (Ax0 : Option Addr) (lx0 cx0 : Nat) (Ax1 : Option Addr) (lx1 cx1 : Nat) (x5 : Int) (M : Mem) (Q : Value → Mem → Prop) : Prop := ∀ (g2 g3 g4 g6 g7 g8 g9 g10 g11 g12 g13 g14 g15 g16 g17 g18 g19 g20 g21 g22 g23 g24 g25 : Value), Rn Try.prog Try.f19 S19_1 #[.slice Ax0 lx0 cx0, .slice Ax1 lx1 cx1, g2, g3, g4, .int .i64 x5, g6, g7, g8, g9, g10, g11, g12, g13, g14, g15, g16, g17, g18, g19, g20, g21, g22, g23, g24, g25] M Q
theorem w19_0 {Ax0 : Option Addr} {lx0 cx0 : Nat} {Ax1 : Option Addr} {lx1 cx1 : Nat} {M : Mem} {Q : Value → Mem → Prop} (H :
    ((((lx0 : Int)) ≠ ((lx1 : Int)) →
     Q (.bool false) M) ∧
     (((lx0 : Int)) = ((lx1 : Int)) →
     A19_1 Ax0 lx0 cx0 Ax1 lx1 cx1 0 M Q))) :
    Cn Try.prog 19 #[.slice Ax0 lx0 cx0, .slice Ax1 lx1 cx1] M Q := by
  refine Cn.of b19 d19 t19 ?_
  refine Rn.seq k19_0 (Rn.region k19_1 (fun call K => r19_0) (Rch.leaf (Rn.seq k19_2 (Rn.seq k19_3 (Rn.region k19_4 (fun call K => r19_1) (Rch.leaf ?_))))))
  refine Rn.cnd (v := ((lx0 : Int)) != ((lx1 : Int))) ⟨c19_5, rfl, by kernel_rfl⟩ (fun h => ?_) (fun h => ?_)
  · replace H := H.1 (ne_of_bneT h)
    refine Rn.seq k19_6 (Rn.region k19_7 (fun call K => r19_2) (Rch.leaf ?_))
    exact Rn.ret k19_8 e19 H
  · replace H := H.2 (eq_of_bneF h)
    refine Rn.skip k19_10 (Rn.seq k19_11 (Rn.seq k19_12 (Rn.region k19_13 (fun call K => r19_3) (Rch.leaf (Rn.block k19_14 (Rn.loop k19_15 ?_))))))
    exact H _ _ _ _ _ _ _ _ _ _ _ _ _ _ _ _ _ _ _ _ _ _ _

theorem w19_1 {Ax0 : Option Addr} {lx0 cx0 : Nat} {Ax1 : Option Addr} {lx1 cx1 : Nat} {x5 : Int} {M : Mem} {Q : Value → Mem → Prop} (H :
    ((x5 < ((lx0 : Int)) →
     ∃ a1', idxA Ax0 lx0 1 x5 = some a1' ∧
     ∃ x2', M.intAt .u8 a1'.block a1'.off = some x2' ∧
     ∃ a3', idxA Ax1 lx1 1 x5 = some a3' ∧
     ∃ x4', M.intAt .u8 a3'.block a3'.off = some x4' ∧
     ((x2' ≠ x4' →
      Q (.bool false) M) ∧
      (x2' = x4' →
      A19_1 Ax0 lx0 cx0 Ax1 lx1 cx1 (IntKind.i64.wrap (x5 + 1)) M Q))) ∧
     (¬ (x5 < ((lx0 : Int))) →
     Q (.bool true) M))) :
    A19_1 Ax0 lx0 cx0 Ax1 lx1 cx1 x5 M Q := by
  intro g2 g3 g4 g6 g7 g8 g9 g10 g11 g12 g13 g14 g15 g16 g17 g18 g19 g20 g21 g22 g23 g24 g25
  refine Rn.seq k19_16 (Rn.seq k19_17 (Rn.region k19_18 (fun call K => r19_4) (Rch.leaf ?_)))
  refine Rn.cnd (v := decide (x5 < ((lx0 : Int)))) ⟨c19_19, rfl, by kernel_rfl⟩ (fun h => ?_) (fun h => ?_)
  · replace H := H.1 (of_decide_eq_true h)
    refine Rn.skip k19_20 (Rn.seq k19_21 (Rn.block k19_22 (Rn.seq k19_23 (Rn.regionD k19_24 (fun call K => r19_6) (Rch.ex H fun a1' H => Rch.ex H fun x2' H => Rch.ex H fun a3' H => Rch.ex H fun x4' H => Rch.leaf ?_)))))
    refine Rn.cnd (v := x2' != x4') ⟨c19_25, rfl, by kernel_rfl⟩ (fun h => ?_) (fun h => ?_)
    · replace H := H.1 (ne_of_bneT h)
      refine Rn.seq k19_26 (Rn.region k19_27 (fun call K => r19_7) (Rch.leaf ?_))
      exact Rn.ret k19_28 e19 H
    · replace H := H.2 (eq_of_bneF h)
      refine Rn.skip k19_29 (Rn.blk (Rn.region k19_30 (fun call K => r19_5) (Rch.leaf (Rn.lp ?_))))
      exact H _ _ _ _ _ _ _ _ _ _ _ _ _ _ _ _ _ _ _ _ _ _ _
  · replace H := H.2 (of_decide_eq_false h)
    refine Rn.exit k19_31 rfl (Rn.seq k19_32 (Rn.region k19_33 (fun call K => r19_8) (Rch.leaf ?_)))
    exact Rn.ret k19_34 e19 H


/-! ### zoetrope/zoetroperef00.CopyBytes: function 25 -/
noncomputable abbrev P25 (p : List Nat) : Code := subC (codeOf Try.f25) p
noncomputable abbrev O25 (p : List Nat) : Array Oper := opsOf (subC (codeOf Try.f25) p)
theorem b25 : Try.prog.funcs[25]? = some Try.f25 ∧ (Orc.tab Try.prog).lookup 25 = none := ⟨by kernel_rfl, by kernel_rfl⟩
theorem d25 : Try.f25.body = some (P25 []) := by kernel_rfl
theorem t25 {Ax0 : Option Addr} {lx0 cx0 : Nat} : #[.slice Ax0 lx0 cx0] ++ Array.replicate (Try.f25.ntmps - (#[.slice Ax0 lx0 cx0] : Array Value).size) undef = #[.slice Ax0 lx0 cx0,undef,undef,undef,undef,undef,undef,undef] := by kernel_rfl
theorem k25_0 : P25 [] = .seq (P25 [0]) (P25 [1]) := by kernel_rfl
theorem k25_1 : P25 [0] = .region 0 (O25 [0]) false := by kernel_rfl
theorem r25_0 {M : Mem} {call : CallM} {K : Array Value → Mem → R} :
    opsK Try.prog (fun _ => call) (O25 [0]) (O25 [0]).toList 0 #[g0,g1,g2,g3,g4,g5,g6,g7] M K = K #[g0,g1,.slice none 0 0,g3,g4,g5,g6,g7] M := by kernel_rfl
theorem k25_2 : P25 [1] = .seq (P25 [1,0]) (P25 [1,1]) := by kernel_rfl
theorem k25_3 : P25 [1,0] = .region 1 (O25 [1,0]) false := by kernel_rfl
theorem r25_1 {M : Mem} {call : CallM} {K : Array Value → Mem → R} :
    opsK Try.prog (fun _ => call) (O25 [1,0]) (O25 [1,0]).toList 0 #[g0,g1,g2,g3,g4,g5,g6,g7] M K = K #[g0,g1,g2,.slice none 0 0,g4,g5,g6,g7] M := by kernel_rfl
theorem k25_4 : P25 [1,1] = .seq (P25 [1,1,0]) (P25 [1,1,1]) := by kernel_rfl
theorem k25_5 : P25 [1,1,0] = .region 2 (O25 [1,1,0]) false := by kernel_rfl
theorem r25_2 {Ax0 : Option Addr} {lx0 cx0 : Nat} {Ax3 : Option Addr} {lx3 cx3 : Nat} {M : Mem} {call : CallM} {K : Array Value → Mem → R} :
    opsK Try.prog (fun _ => call) (O25 [1,1,0]) (O25 [1,1,0]).toList 0 #[.slice Ax0 lx0 cx0,g1,g2,.slice Ax3 lx3 cx3,g4,g5,g6,g7] M K = (appendP Try.prog #[37, 37] (.slice Ax3 lx3 cx3) (.slice Ax0 lx0 cx0) M).bind fun r_1 => (asS r_1.1).bind fun s_2 => K #[.slice Ax0 lx0 cx0,g1,g2,.slice s_2.1 (s_2.2.1) (s_2.2.2),.slice Ax3 lx3 cx3,.slice Ax0 lx0 cx0,.slice s_2.1 (s_2.2.1) (s_2.2.2),g7] r_1.2 := by kernel_rfl
theorem k25_6 : P25 [1,1,1] = .seq (P25 [1,1,1,0]) (P25 [1,1,1,1]) := by kernel_rfl
theorem k25_7 : P25 [1,1,1,0] = .region 3 (O25 [1,1,1,0]) false := by kernel_rfl
theorem r25_3 {Ax3 : Option Addr} {lx3 cx3 : Nat} {M : Mem} {call : CallM} {K : Array Value → Mem → R} :
    opsK Try.prog (fun _ => call) (O25 [1,1,1,0]) (O25 [1,1,1,0]).toList 0 #[g0,g1,g2,.slice Ax3 lx3 cx3,g4,g5,g6,g7] M K = K #[g0,g1,.slice Ax3 lx3 cx3,.slice Ax3 lx3 cx3,g4,g5,g6,.slice Ax3 lx3 cx3] M := by kernel_rfl
theorem k25_8 : P25 [1,1,1,1] = .ret := by kernel_rfl
theorem e25 {M : Mem} : finish Try.prog Try.f25 #[g0,g1,g2,g3,g4,g5,g6,g7] M = some (g2, M) := by kernel_rfl
theorem w25_0 {Ax0 : Option Addr} {lx0 cx0 : Nat} {M : Mem} {Q : Value → Mem → Prop} (H :
    ∃ r1', appendP Try.prog #[37, 37] (.slice none 0 0) (.slice Ax0 lx0 cx0) M = some r1' ∧
    ∃ s2', asS r1'.1 = some s2' ∧
    Q (.slice s2'.1 (s2'.2.1) (s2'.2.2)) r1'.2) :
    Cn Try.prog 25 #[.slice Ax0 lx0 cx0] M Q := by
  refine Cn.of b25 d25 t25 ?_
  refine Rn.seq k25_0 (Rn.region k25_1 (fun call K => r25_0) (Rch.leaf (Rn.seq k25_2 (Rn.region k25_3 (fun call K => r25_1) (Rch.leaf (Rn.seq k25_4 (Rn.region k25_5 (fun call K => r25_2) (Rch.ex H fun r1' H => Rch.ex H fun s2' H => Rch.leaf (Rn.seq k25_6 ?_)))))))))
  refine Rn.region k25_7 (fun call K => r25_3) (Rch.leaf ?_)
  exact Rn.ret k25_8 e25 H


/-! ### zoetrope/zoetropelaw01.write: function 11 -/
noncomputable abbrev P11 (p : List Nat) : Code := subC (codeOf Try.f11) p
noncomputable abbrev O11 (p : List Nat) : Array Oper := opsOf (subC (codeOf Try.f11) p)
theorem b11 : Try.prog.funcs[11]? = some Try.f11 ∧ (Orc.tab Try.prog).lookup 11 = none := ⟨by kernel_rfl, by kernel_rfl⟩
theorem d11 : Try.f11.body = some (P11 []) := by kernel_rfl
theorem t11 {x0 : Option Addr} {x1_0 x1_1 x1_2 : Int} : #[.pointer x0,.agg #[.int .i64 x1_0, .int .i64 x1_1, .int .u32 x1_2]] ++ Array.replicate (Try.f11.ntmps - (#[.pointer x0,.agg #[.int .i64 x1_0, .int .i64 x1_1, .int .u32 x1_2]] : Array Value).size) undef = #[.pointer x0,.agg #[.int .i64 x1_0, .int .i64 x1_1, .int .u32 x1_2],undef,undef,undef,undef,undef,undef,undef,undef,undef,undef,undef,undef,undef,undef,undef,undef,undef,undef,undef,undef,undef,undef,undef,undef,undef,undef,undef,undef,undef,undef,undef,undef,undef,undef,undef,undef,undef] := by kernel_rfl
theorem k11_0 : P11 [] = .seq (P11 [0]) (P11 [1]) := by kernel_rfl
theorem k11_1 : P11 [0] = .region 0 (O11 [0]) false := by kernel_rfl
theorem r11_0 {x1_0 x1_1 x1_2 : Int} {M : Mem} {call : CallM} {K : Array Value → Mem → R} :
    opsK Try.prog (fun _ => call) (O11 [0]) (O11 [0]).toList 0 #[g0,.agg #[.int .i64 x1_0, .int .i64 x1_1, .int .u32 x1_2],g2,g3,g4,g5,g6,g7,g8,g9,g10,g11,g12,g13,g14,g15,g16,g17,g18,g19,g20,g21,g22,g23,g24,g25,g26,g27,g28,g29,g30,g31,g32,g33,g34,g35,g36,g37,g38] M K = K #[g0,.agg #[.int .i64 x1_0, .int .i64 x1_1, .int .u32 x1_2],g2,.pointer (some ⟨2 * M.nb.size, 0, none⟩),.int .i64 0,g5,g6,g7,g8,g9,g10,g11,g12,g13,g14,g15,g16,g17,g18,g19,g20,g21,g22,g23,g24,g25,g26,g27,g28,g29,g30,g31,g32,g33,g34,g35,g36,g37,g38] (M.new (.cells #[.int .i64 x1_0, .int .i64 x1_1, .int .u32 x1_2] 29)) := by kernel_rfl
theorem k11_2 : P11 [1] = .seq (P11 [1,0]) (P11 [1,1]) := by kernel_rfl
theorem k11_3 : P11 [1,0] = .seq (P11 [1,0,0]) (P11 [1,0,1]) := by kernel_rfl
theorem k11_4 : P11 [1,0,0] = .region 1 (O11 [1,0,0]) false := by kernel_rfl
theorem r11_1 {x3 : Option Addr} {M : Mem} {call : CallM} {K : Array Value → Mem → R} :
    opsK Try.prog (fun _ => call) (O11 [1,0,0]) (O11 [1,0,0]).toList 0 #[g0,g1,g2,.pointer x3,g4,g5,g6,g7,g8,g9,g10,g11,g12,g13,g14,g15,g16,g17,g18,g19,g20,g21,g22,g23,g24,g25,g26,g27,g28,g29,g30,g31,g32,g33,g34,g35,g36,g37,g38] M K = (x3).bind fun a_1 => (M.intAt .i64 a_1.block a_1.off).bind fun x_2 => (call 12 #[.int .i64 x_2, .int .i64 5] M).bind fun r_3 => (asI .i64 r_3.1).bind fun x_4 => K #[g0,g1,g2,.pointer x3,g4,.pointer (some ⟨a_1.block, a_1.off, none⟩),.int .i64 x_2,.int .i64 x_4,g8,g9,g10,g11,g12,g13,g14,g15,g16,g17,g18,g19,g20,g21,g22,g23,g24,g25,g26,g27,g28,g29,g30,g31,g32,g33,g34,g35,g36,g37,g38] r_3.2 := by kernel_rfl
theorem k11_5 : P11 [1,0,1] = .block 0 (P11 [1,0,1,0]) := by kernel_rfl
theorem k11_6 : P11 [1,0,1,0] = .seq (P11 [1,0,1,0,0]) (P11 [1,0,1,0,1]) := by kernel_rfl
theorem k11_7 : P11 [1,0,1,0,0] = .region 2 (O11 [1,0,1,0,0]) false := by kernel_rfl
theorem r11_2 {x7 : Int} {M : Mem} {call : CallM} {K : Array Value → Mem → R} :
    opsK Try.prog (fun _ => call) (O11 [1,0,1,0,0]) (O11 [1,0,1,0,0]).toList 0 #[g0,g1,g2,g3,g4,g5,g6,.int .i64 x7,g8,g9,g10,g11,g12,g13,g14,g15,g16,g17,g18,g19,g20,g21,g22,g23,g24,g25,g26,g27,g28,g29,g30,g31,g32,g33,g34,g35,g36,g37,g38] M K = K #[g0,g1,g2,g3,g4,g5,g6,.int .i64 x7,.bool (x7 == 0),.bool (x7 == 0),g10,g11,g12,g13,g14,g15,g16,g17,g18,g19,g20,g21,g22,g23,g24,g25,g26,g27,g28,g29,g30,g31,g32,g33,g34,g35,g36,g37,g38] M := by kernel_rfl
theorem c11_8 : P11 [1,0,1,0,1] = .cond (.tmp 8) (P11 [1,0,1,0,1,0]) (P11 [1,0,1,0,1,1]) := by kernel_rfl
theorem k11_9 : P11 [1,0,1,0,1,0] = .seq (P11 [1,0,1,0,1,0,0]) (P11 [1,0,1,0,1,0,1]) := by kernel_rfl
theorem k11_10 : P11 [1,0,1,0,1,0,0] = .region 3 (O11 [1,0,1,0,1,0,0]) false := by kernel_rfl
theorem r11_3 {x0 x3 : Option Addr} {M : Mem} {call : CallM} {K : Array Value → Mem → R} :
    opsK Try.prog (fun _ => call) (O11 [1,0,1,0,1,0,0]) (O11 [1,0,1,0,1,0,0]).toList 0 #[.pointer x0,g1,g2,.pointer x3,g4,g5,g6,g7,g8,g9,g10,g11,g12,g13,g14,g15,g16,g17,g18,g19,g20,g21,g22,g23,g24,g25,g26,g27,g28,g29,g30,g31,g32,g33,g34,g35,g36,g37,g38] M K = (x3).bind fun a_1 => (M.intAt .u32 a_1.block (a_1.off + 2)).bind fun x_2 => (x3).bind fun a_3 => (M.intAt .i64 a_3.block (a_3.off + 1)).bind fun x_4 => (call 32 #[.pointer x0, .int .u32 x_2, .int .i64 x_4] M).bind fun r_5 => (asI .i64 r_5.1).bind fun x_6 => K #[.pointer x0,g1,g2,.pointer x3,.int .i64 x_6,g5,g6,g7,g8,g9,.pointer x0,.pointer (some ⟨a_1.block, a_1.off + 2, none⟩),.int .u32 x_2,.pointer (some ⟨a_3.block, a_3.off + 1, none⟩),.int .i64 x_4,.int .i64 x_6,g16,g17,g18,g19,g20,g21,g22,g23,g24,g25,g26,g27,g28,g29,g30,g31,g32,g33,g34,g35,g36,g37,g38] r_5.2 := by kernel_rfl
theorem k11_11 : P11 [1,0,1,0,1,0,1] = .ret := by kernel_rfl
theorem e11 {M : Mem} : finish Try.prog Try.f11 #[g0,g1,g2,g3,g4,g5,g6,g7,g8,g9,g10,g11,g12,g13,g14,g15,g16,g17,g18,g19,g20,g21,g22,g23,g24,g25,g26,g27,g28,g29,g30,g31,g32,g33,g34,g35,g36,g37,g38] M = some (g4, M) := by kernel_rfl
theorem k11_13 : P11 [1,0,1,0,1,1] = .seq (P11 [1,0,1,0,1,1,0]) (P11 [1,0,1,0,1,1,1]) := by kernel_rfl
theorem k11_14 : P11 [1,0,1,0,1,1,0] = .region 4 (O11 [1,0,1,0,1,1,0]) false := by kernel_rfl
theorem r11_4 {x7 : Int} {M : Mem} {call : CallM} {K : Array Value → Mem → R} :
    opsK Try.prog (fun _ => call) (O11 [1,0,1,0,1,1,0]) (O11 [1,0,1,0,1,1,0]).toList 0 #[g0,g1,g2,g3,g4,g5,g6,.int .i64 x7,g8,g9,g10,g11,g12,g13,g14,g15,g16,g17,g18,g19,g20,g21,g22,g23,g24,g25,g26,g27,g28,g29,g30,g31,g32,g33,g34,g35,g36,g37,g38] M K = K #[g0,g1,g2,g3,g4,g5,g6,.int .i64 x7,g8,g9,g10,g11,g12,g13,g14,g15,.bool (x7 == 1),.bool (x7 == 1),g18,g19,g20,g21,g22,g23,g24,g25,g26,g27,g28,g29,g30,g31,g32,g33,g34,g35,g36,g37,g38] M := by kernel_rfl
theorem c11_15 : P11 [1,0,1,0,1,1,1] = .cond (.tmp 16) (P11 [1,0,1,0,1,1,1,0]) (P11 [1,0,1,0,1,1,1,1]) := by kernel_rfl
theorem k11_16 : P11 [1,0,1,0,1,1,1,0] = .seq (P11 [1,0,1,0,1,1,1,0,0]) (P11 [1,0,1,0,1,1,1,0,1]) := by kernel_rfl
theorem k11_17 : P11 [1,0,1,0,1,1,1,0,0] = .region 5 (O11 [1,0,1,0,1,1,1,0,0]) false := by kernel_rfl
theorem r11_5 {x0 x3 : Option Addr} {M : Mem} {call : CallM} {K : Array Value → Mem → R} :
    opsK Try.prog (fun _ => call) (O11 [1,0,1,0,1,1,1,0,0]) (O11 [1,0,1,0,1,1,1,0,0]).toList 0 #[.pointer x0,g1,g2,.pointer x3,g4,g5,g6,g7,g8,g9,g10,g11,g12,g13,g14,g15,g16,g17,g18,g19,g20,g21,g22,g23,g24,g25,g26,g27,g28,g29,g30,g31,g32,g33,g34,g35,g36,g37,g38] M K = (x3).bind fun a_1 => (M.intAt .u32 a_1.block (a_1.off + 2)).bind fun x_2 => (x3).bind fun a_3 => (M.intAt .i64 a_3.block (a_3.off + 1)).bind fun x_4 => (call 33 #[.pointer x0, .int .i32 (IntKind.i32.wrap (x_2)), .int .i64 x_4] M).bind fun r_5 => (asI .i64 r_5.1).bind fun x_6 => K #[.pointer x0,g1,g2,.pointer x3,.int .i64 x_6,g5,g6,g7,g8,g9,g10,g11,g12,g13,g14,g15,g16,g17,.pointer x0,.pointer (some ⟨a_1.block, a_1.off + 2, none⟩),.int .u32 x_2,.int .i32 (IntKind.i32.wrap (x_2)),.pointer (some ⟨a_3.block, a_3.off + 1, none⟩),.int .i64 x_4,.int .i64 x_6,g25,g26,g27,g28,g29,g30,g31,g32,g33,g34,g35,g36,g37,g38] r_5.2 := by kernel_rfl
theorem k11_18 : P11 [1,0,1,0,1,1,1,0,1] = .ret := by kernel_rfl
theorem k11_19 : P11 [1,0,1,0,1,1,1,1] = .seq (P11 [1,0,1,0,1,1,1,1,0]) (P11 [1,0,1,0,1,1,1,1,1]) := by kernel_rfl
theorem k11_20 : P11 [1,0,1,0,1,1,1,1,0] = .region 6 (O11 [1,0,1,0,1,1,1,1,0]) false := by kernel_rfl
theorem r11_6 {x7 : Int} {M : Mem} {call : CallM} {K : Array Value → Mem → R} :
    opsK Try.prog (fun _ => call) (O11 [1,0,1,0,1,1,1,1,0]) (O11 [1,0,1,0,1,1,1,1,0]).toList 0 #[g0,g1,g2,g3,g4,g5,g6,.int .i64 x7,g8,g9,g10,g11,g12,g13,g14,g15,g16,g17,g18,g19,g20,g21,g22,g23,g24,g25,g26,g27,g28,g29,g30,g31,g32,g33,g34,g35,g36,g37,g38] M K = K #[g0,g1,g2,g3,g4,g5,g6,.int .i64 x7,g8,g9,g10,g11,g12,g13,g14,g15,g16,g17,g18,g19,g20,g21,g22,g23,g24,.bool (x7 == 2),.bool (x7 == 2),g27,g28,g29,g30,g31,g32,g33,g34,g35,g36,g37,g38] M := by kernel_rfl
theorem c11_21 : P11 [1,0,1,0,1,1,1,1,1] = .cond (.tmp 25) (P11 [1,0,1,0,1,1,1,1,1,0]) (P11 [1,0,1,0,1,1,1,1,1,1]) := by kernel_rfl
theorem k11_22 : P11 [1,0,1,0,1,1,1,1,1,0] = .seq (P11 [1,0,1,0,1,1,1,1,1,0,0]) (P11 [1,0,1,0,1,1,1,1,1,0,1]) := by kernel_rfl
theorem k11_23 : P11 [1,0,1,0,1,1,1,1,1,0,0] = .region 7 (O11 [1,0,1,0,1,1,1,1,1,0,0]) false := by kernel_rfl
theorem r11_7 {x0 x3 : Option Addr} {M : Mem} {call : CallM} {K : Array Value → Mem → R} :
    opsK Try.prog (fun _ => call) (O11 [1,0,1,0,1,1,1,1,1,0,0]) (O11 [1,0,1,0,1,1,1,1,1,0,0]).toList 0 #[.pointer x0,g1,g2,.pointer x3,g4,g5,g6,g7,g8,g9,g10,g11,g12,g13,g14,g15,g16,g17,g18,g19,g20,g21,g22,g23,g24,g25,g26,g27,g28,g29,g30,g31,g32,g33,g34,g35,g36,g37,g38] M K = (x3).bind fun a_1 => (M.intAt .u32 a_1.block (a_1.off + 2)).bind fun x_2 => (call 34 #[.pointer x0, .int .u32 x_2] M).bind fun r_3 => (asI .i64 r_3.1).bind fun x_4 => K #[.pointer x0,g1,g2,.pointer x3,.int .i64 x_4,g5,g6,g7,g8,g9,g10,g11,g12,g13,g14,g15,g16,g17,g18,g19,g20,g21,g22,g23,g24,g25,g26,.pointer x0,.pointer (some ⟨a_1.block, a_1.off + 2, none⟩),.int .u32 x_2,.int .i64 x_4,g31,g32,g33,g34,g35,g36,g37,g38] r_3.2 := by kernel_rfl
theorem k11_24 : P11 [1,0,1,0,1,1,1,1,1,0,1] = .ret := by kernel_rfl
theorem k11_25 : P11 [1,0,1,0,1,1,1,1,1,1] = .seq (P11 [1,0,1,0,1,1,1,1,1,1,0]) (P11 [1,0,1,0,1,1,1,1,1,1,1]) := by kernel_rfl
theorem k11_26 : P11 [1,0,1,0,1,1,1,1,1,1,0] = .region 8 (O11 [1,0,1,0,1,1,1,1,1,1,0]) false := by kernel_rfl
theorem r11_8 {x7 : Int} {M : Mem} {call : CallM} {K : Array Value → Mem → R} :
    opsK Try.prog (fun _ => call) (O11 [1,0,1,0,1,1,1,1,1,1,0]) (O11 [1,0,1,0,1,1,1,1,1,1,0]).toList 0 #[g0,g1,g2,g3,g4,g5,g6,.int .i64 x7,g8,g9,g10,g11,g12,g13,g14,g15,g16,g17,g18,g19,g20,g21,g22,g23,g24,g25,g26,g27,g28,g29,g30,g31,g32,g33,g34,g35,g36,g37,g38] M K = K #[g0,g1,g2,g3,g4,g5,g6,.int .i64 x7,g8,g9,g10,g11,g12,g13,g14,g15,g16,g17,g18,g19,g20,g21,g22,g23,g24,g25,g26,g27,g28,g29,g30,.bool (x7 == 3),.bool (x7 == 3),g33,g34,g35,g36,g37,g38] M := by kernel_rfl
theorem c11_27 : P11 [1,0,1,0,1,1,1,1,1,1,1] = .cond (.tmp 31) (P11 [1,0,1,0,1,1,1,1,1,1,1,0]) (P11 [1,0,1,0,1,1,1,1,1,1,1,1]) := by kernel_rfl
theorem k11_28 : P11 [1,0,1,0,1,1,1,1,1,1,1,0] = .seq (P11 [1,0,1,0,1,1,1,1,1,1,1,0,0]) (P11 [1,0,1,0,1,1,1,1,1,1,1,0,1]) := by kernel_rfl
theorem k11_29 : P11 [1,0,1,0,1,1,1,1,1,1,1,0,0] = .region 9 (O11 [1,0,1,0,1,1,1,1,1,1,1,0,0]) false := by kernel_rfl
theorem r11_9 {x0 x3 : Option Addr} {M : Mem} {call : CallM} {K : Array Value → Mem → R} :
    opsK Try.prog (fun _ => call) (O11 [1,0,1,0,1,1,1,1,1,1,1,0,0]) (O11 [1,0,1,0,1,1,1,1,1,1,1,0,0]).toList 0 #[.pointer x0,g1,g2,.pointer x3,g4,g5,g6,g7,g8,g9,g10,g11,g12,g13,g14,g15,g16,g17,g18,g19,g20,g21,g22,g23,g24,g25,g26,g27,g28,g29,g30,g31,g32,g33,g34,g35,g36,g37,g38] M K = (x3).bind fun a_1 => (M.intAt .u32 a_1.block (a_1.off + 2)).bind fun x_2 => (call 35 #[.pointer x0, .int .u32 x_2] M).bind fun r_3 => (asI .i64 r_3.1).bind fun x_4 => K #[.pointer x0,g1,g2,.pointer x3,.int .i64 x_4,g5,g6,g7,g8,g9,g10,g11,g12,g13,g14,g15,g16,g17,g18,g19,g20,g21,g22,g23,g24,g25,g26,g27,g28,g29,g30,g31,g32,.pointer x0,.pointer (some ⟨a_1.block, a_1.off + 2, none⟩),.int .u32 x_2,.int .i64 x_4,g37,g38] r_3.2 := by kernel_rfl
theorem k11_30 : P11 [1,0,1,0,1,1,1,1,1,1,1,0,1] = .ret := by kernel_rfl
theorem k11_31 : P11 [1,0,1,0,1,1,1,1,1,1,1,1] = .skip := by kernel_rfl
theorem k11_32 : P11 [1,1] = .seq (P11 [1,1,0]) (P11 [1,1,1]) := by kernel_rfl
theorem k11_33 : P11 [1,1,0] = .region 10 (O11 [1,1,0]) false := by kernel_rfl
theorem r11_10 {x0 : Option Addr} {M : Mem} {call : CallM} {K : Array Value → Mem → R} :
    opsK Try.prog (fun _ => call) (O11 [1,1,0]) (O11 [1,1,0]).toList 0 #[.pointer x0,g1,g2,g3,g4,g5,g6,g7,g8,g9,g10,g11,g12,g13,g14,g15,g16,g17,g18,g19,g20,g21,g22,g23,g24,g25,g26,g27,g28,g29,g30,g31,g32,g33,g34,g35,g36,g37,g38] M K = (call 36 #[.pointer x0] M).bind fun r_1 => (asI .i64 r_1.1).bind fun x_2 => K #[.pointer x0,g1,g2,g3,.int .i64 x_2,g5,g6,g7,g8,g9,g10,g11,g12,g13,g14,g15,g16,g17,g18,g19,g20,g21,g22,g23,g24,g25,g26,g27,g28,g29,g30,g31,g32,g33,g34,g35,g36,.pointer x0,.int .i64 x_2] r_1.2 := by kernel_rfl
theorem k11_34 : P11 [1,1,1] = .ret := by kernel_rfl
theorem w11_0 {x0 : Option Addr} {x1_0 x1_1 x1_2 : Int} {M : Mem} {Q : Value → Mem → Prop} (H :
    ∃ x1', (M.new (.cells #[.int .i64 x1_0, .int .i64 x1_1, .int .u32 x1_2] 29)).intAt .i64 (2 * M.nb.size) 0 = some x1' ∧
    Cn Try.prog 12 #[.int .i64 x1', .int .i64 5] (M.new (.cells #[.int .i64 x1_0, .int .i64 x1_1, .int .u32 x1_2] 29)) fun v2' N2' =>
     ∃ x3', asI .i64 v2' = some x3' ∧
     ((x3' = 0 →
      ∃ x4', N2'.intAt .u32 (2 * M.nb.size) (0 + 2) = some x4' ∧
      ∃ x5', N2'.intAt .i64 (2 * M.nb.size) (0 + 1) = some x5' ∧
      Cn Try.prog 32 #[.pointer x0, .int .u32 x4', .int .i64 x5'] N2' fun v6' N6' =>
       ∃ x7', asI .i64 v6' = some x7' ∧
       Q (.int .i64 (x7')) N6') ∧
      (x3' ≠ 0 →
      ((x3' = 1 →
       ∃ x8', N2'.intAt .u32 (2 * M.nb.size) (0 + 2) = some x8' ∧
       ∃ x9', N2'.intAt .i64 (2 * M.nb.size) (0 + 1) = some x9' ∧
       Cn Try.prog 33 #[.pointer x0, .int .i32 (IntKind.i32.wrap (x8')), .int .i64 x9'] N2' fun v10' N10' =>
        ∃ x11', asI .i64 v10' = some x11' ∧
        Q (.int .i64 (x11')) N10') ∧
       (x3' ≠ 1 →
       ((x3' = 2 →
        ∃ x12', N2'.intAt .u32 (2 * M.nb.size) (0 + 2) = some x12' ∧
        Cn Try.prog 34 #[.pointer x0, .int .u32 x12'] N2' fun v13' N13' =>
         ∃ x14', asI .i64 v13' = some x14' ∧
         Q (.int .i64 (x14')) N13') ∧
        (x3' ≠ 2 →
        ((x3' = 3 →
         ∃ x15', N2'.intAt .u32 (2 * M.nb.size) (0 + 2) = some x15' ∧
         Cn Try.prog 35 #[.pointer x0, .int .u32 x15'] N2' fun v16' N16' =>
          ∃ x17', asI .i64 v16' = some x17' ∧
          Q (.int .i64 (x17')) N16') ∧
         (x3' ≠ 3 →
         Cn Try.prog 36 #[.pointer x0] N2' fun v18' N18' =>
          ∃ x19', asI .i64 v18' = some x19' ∧
          Q (.int .i64 (x19')) N18'))))))))) :
    Cn Try.prog 11 #[.pointer x0, .agg #[.int .i64 x1_0, .int .i64 x1_1, .int .u32 x1_2]] M Q := by
  refine Cn.of b11 d11 t11 ?_
  refine Rn.seq k11_0 (Rn.region k11_1 (fun call K => r11_0) (Rch.leaf (Rn.seq k11_2 (Rn.seq k11_3 (Rn.region k11_4 (fun call K => r11_1) (Rch.bind (x := ⟨2 * M.nb.size, 0, none⟩) rfl (Rch.ex H fun x1' H => Rch.call H fun v2' N2' H => Rch.ex H fun x3' H => Rch.leaf (Rn.block k11_5 ?_))))))))
  refine Rn.seq k11_6 (Rn.region k11_7 (fun call K => r11_2) (Rch.leaf ?_))
  refine Rn.cnd (v := x3' == 0) ⟨c11_8, rfl, by kernel_rfl⟩ (fun h => ?_) (fun h => ?_)
  · replace H := H.1 (eq_of_beq h)
    refine Rn.seq k11_9 (Rn.region k11_10 (fun call K => r11_3) (Rch.bind (x := ⟨2 * M.nb.size, 0, none⟩) rfl (Rch.ex H fun x4' H => Rch.bind (x := ⟨2 * M.nb.size, 0, none⟩) rfl (Rch.ex H fun x5' H => Rch.call H fun v6' N6' H => Rch.ex H fun x7' H => Rch.leaf ?_))))
    exact Rn.ret k11_11 e11 H
  · replace H := H.2 (ne_of_beq_false h)
    refine Rn.seq k11_13 (Rn.region k11_14 (fun call K => r11_4) (Rch.leaf ?_))
    refine Rn.cnd (v := x3' == 1) ⟨c11_15, rfl, by kernel_rfl⟩ (fun h => ?_) (fun h => ?_)
    · replace H := H.1 (eq_of_beq h)
      refine Rn.seq k11_16 (Rn.region k11_17 (fun call K => r11_5) (Rch.bind (x := ⟨2 * M.nb.size, 0, none⟩) rfl (Rch.ex H fun x8' H => Rch.bind (x := ⟨2 * M.nb.size, 0, none⟩) rfl (Rch.ex H fun x9' H => Rch.call H fun v10' N10' H => Rch.ex H fun x11' H => Rch.leaf ?_))))
      exact Rn.ret k11_18 e11 H
    · replace H := H.2 (ne_of_beq_false h)
      refine Rn.seq k11_19 (Rn.region k11_20 (fun call K => r11_6) (Rch.leaf ?_))
      refine Rn.cnd (v := x3' == 2) ⟨c11_21, rfl, by kernel_rfl⟩ (fun h => ?_) (fun h => ?_)
      · replace H := H.1 (eq_of_beq h)
        refine Rn.seq k11_22 (Rn.region k11_23 (fun call K => r11_7) (Rch.bind (x := ⟨2 * M.nb.size, 0, none⟩) rfl (Rch.ex H fun x12' H => Rch.call H fun v13' N13' H => Rch.ex H fun x14' H => Rch.leaf ?_)))
        exact Rn.ret k11_24 e11 H
      · replace H := H.2 (ne_of_beq_false h)
        refine Rn.seq k11_25 (Rn.region k11_26 (fun call K => r11_8) (Rch.leaf ?_))
        refine Rn.cnd (v := x3' == 3) ⟨c11_27, rfl, by kernel_rfl⟩ (fun h => ?_) (fun h => ?_)
        · replace H := H.1 (eq_of_beq h)
          refine Rn.seq k11_28 (Rn.region k11_29 (fun call K => r11_9) (Rch.bind (x := ⟨2 * M.nb.size, 0, none⟩) rfl (Rch.ex H fun x15' H => Rch.call H fun v16' N16' H => Rch.ex H fun x17' H => Rch.leaf ?_)))
          exact Rn.ret k11_30 e11 H
        · replace H := H.2 (ne_of_beq_false h)
          refine Rn.skip k11_31 (Rn.blk (Rn.seq k11_32 (Rn.region k11_33 (fun call K => r11_10) (Rch.call H fun v18' N18' H => Rch.ex H fun x19' H => Rch.leaf ?_))))
          exact Rn.ret k11_34 e11 H


/-! ### zoetrope/zoetropelaw01.read: function 23 -/
noncomputable abbrev P23 (p : List Nat) : Code := subC (codeOf Try.f23) p
noncomputable abbrev O23 (p : List Nat) : Array Oper := opsOf (subC (codeOf Try.f23) p)
theorem b23 : Try.prog.funcs[23]? = some Try.f23 ∧ (Orc.tab Try.prog).lookup 23 = none := ⟨by kernel_rfl, by kernel_rfl⟩
theorem d23 : Try.f23.body = some (P23 []) := by kernel_rfl
theorem t23 {x0 : Option Addr} {x1_0 x1_1 x1_2 : Int} : #[.pointer x0,.agg #[.int .i64 x1_0, .int .i64 x1_1, .int .u32 x1_2]] ++ Array.replicate (Try.f23.ntmps - (#[.pointer x0,.agg #[.int .i64 x1_0, .int .i64 x1_1, .int .u32 x1_2]] : Array Value).size) undef = #[.pointer x0,.agg #[.int .i64 x1_0, .int .i64 x1_1, .int .u32 x1_2],undef,undef,undef,undef,undef,undef,undef,undef,undef,undef,undef,undef,undef,undef,undef,undef,undef,undef,undef,undef,undef,undef,undef,undef,undef,undef,undef,undef,undef,undef,undef,undef,undef,undef,undef,undef,undef,undef,undef,undef,undef,undef,undef] := by kernel_rfl
theorem k23_0 : P23 [] = .seq (P23 [0]) (P23 [1]) := by kernel_rfl
theorem k23_1 : P23 [0] = .region 0 (O23 [0]) false := by kernel_rfl
theorem r23_0 {x1_0 x1_1 x1_2 : Int} {M : Mem} {call : CallM} {K : Array Value → Mem → R} :
    opsK Try.prog (fun _ => call) (O23 [0]) (O23 [0]).toList 0 #[g0,.agg #[.int .i64 x1_0, .int .i64 x1_1, .int .u32 x1_2],g2,g3,g4,g5,g6,g7,g8,g9,g10,g11,g12,g13,g14,g15,g16,g17,g18,g19,g20,g21,g22,g23,g24,g25,g26,g27,g28,g29,g30,g31,g32,g33,g34,g35,g36,g37,g38,g39,g40,g41,g42,g43,g44] M K = K #[g0,.agg #[.int .i64 x1_0, .int .i64 x1_1, .int .u32 x1_2],g2,.pointer (some ⟨2 * M.nb.size, 0, none⟩),.int .u32 0,.int .i64 0,g6,g7,g8,g9,g10,g11,g12,g13,g14,g15,g16,g17,g18,g19,g20,g21,g22,g23,g24,g25,g26,g27,g28,g29,g30,g31,g32,g33,g34,g35,g36,g37,g38,g39,g40,g41,g42,g43,g44] (M.new (.cells #[.int .i64 x1_0, .int .i64 x1_1, .int .u32 x1_2] 29)) := by kernel_rfl
theorem k23_2 : P23 [1] = .seq (P23 [1,0]) (P23 [1,1]) := by kernel_rfl
theorem k23_3 : P23 [1,0] = .seq (P23 [1,0,0]) (P23 [1,0,1]) := by kernel_rfl
theorem k23_4 : P23 [1,0,0] = .region 1 (O23 [1,0,0]) false := by kernel_rfl
theorem r23_1 {x3 : Option Addr} {M : Mem} {call : CallM} {K : Array Value → Mem → R} :
    opsK Try.prog (fun _ => call) (O23 [1,0,0]) (O23 [1,0,0]).toList 0 #[g0,g1,g2,.pointer x3,g4,g5,g6,g7,g8,g9,g10,g11,g12,g13,g14,g15,g16,g17,g18,g19,g20,g21,g22,g23,g24,g25,g26,g27,g28,g29,g30,g31,g32,g33,g34,g35,g36,g37,g38,g39,g40,g41,g42,g43,g44] M K = (x3).bind fun a_1 => (M.intAt .i64 a_1.block a_1.off).bind fun x_2 => (call 12 #[.int .i64 x_2, .int .i64 5] M).bind fun r_3 => (asI .i64 r_3.1).bind fun x_4 => K #[g0,g1,g2,.pointer x3,g4,g5,g6,g7,.pointer (some ⟨a_1.block, a_1.off, none⟩),.int .i64 x_2,.int .i64 x_4,g11,g12,g13,g14,g15,g16,g17,g18,g19,g20,g21,g22,g23,g24,g25,g26,g27,g28,g29,g30,g31,g32,g33,g34,g35,g36,g37,g38,g39,g40,g41,g42,g43,g44] r_3.2 := by kernel_rfl
theorem k23_5 : P23 [1,0,1] = .block 0 (P23 [1,0,1,0]) := by kernel_rfl
theorem k23_6 : P23 [1,0,1,0] = .seq (P23 [1,0,1,0,0]) (P23 [1,0,1,0,1]) := by kernel_rfl
theorem k23_7 : P23 [1,0,1,0,0] = .region 2 (O23 [1,0,1,0,0]) false := by kernel_rfl
theorem r23_2 {x10 : Int} {M : Mem} {call : CallM} {K : Array Value → Mem → R} :
    opsK Try.prog (fun _ => call) (O23 [1,0,1,0,0]) (O23 [1,0,1,0,0]).toList 0 #[g0,g1,g2,g3,g4,g5,g6,g7,g8,g9,.int .i64 x10,g11,g12,g13,g14,g15,g16,g17,g18,g19,g20,g21,g22,g23,g24,g25,g26,g27,g28,g29,g30,g31,g32,g33,g34,g35,g36,g37,g38,g39,g40,g41,g42,g43,g44] M K = K #[g0,g1,g2,g3,g4,g5,g6,g7,g8,g9,.int .i64 x10,.bool (x10 == 0),.bool (x10 == 0),g13,g14,g15,g16,g17,g18,g19,g20,g21,g22,g23,g24,g25,g26,g27,g28,g29,g30,g31,g32,g33,g34,g35,g36,g37,g38,g39,g40,g41,g42,g43,g44] M := by kernel_rfl
theorem c23_8 : P23 [1,0,1,0,1] = .cond (.tmp 11) (P23 [1,0,1,0,1,0]) (P23 [1,0,1,0,1,1]) := by kernel_rfl
theorem k23_9 : P23 [1,0,1,0,1,0] = .seq (P23 [1,0,1,0,1,0,0]) (P23 [1,0,1,0,1,0,1]) := by kernel_rfl
theorem k23_10 : P23 [1,0,1,0,1,0,0] = .region 3 (O23 [1,0,1,0,1,0,0]) false := by kernel_rfl
theorem r23_3 {x0 x3 : Option Addr} {M : Mem} {call : CallM} {K : Array Value → Mem → R} :
    opsK Try.prog (fun _ => call) (O23 [1,0,1,0,1,0,0]) (O23 [1,0,1,0,1,0,0]).toList 0 #[.pointer x0,g1,g2,.pointer x3,g4,g5,g6,g7,g8,g9,g10,g11,g12,g13,g14,g15,g16,g17,g18,g19,g20,g21,g22,g23,g24,g25,g26,g27,g28,g29,g30,g31,g32,g33,g34,g35,g36,g37,g38,g39,g40,g41,g42,g43,g44] M K = (x3).bind fun a_1 => (M.intAt .i64 a_1.block (a_1.off + 1)).bind fun x_2 => (call 37 #[.pointer x0, .int .i64 x_2] M).bind fun r_3 => (asU 2 r_3.1).bind fun cs_4 => (asI .u32 (cs_4.getD 0 undef)).bind fun x_5 => (asI .i64 (cs_4.getD 1 undef)).bind fun x_6 => K #[.pointer x0,g1,g2,.pointer x3,.int .u32 x_5,.int .i64 x_6,g6,g7,g8,g9,g10,g11,g12,.pointer x0,.pointer (some ⟨a_1.block, a_1.off + 1, none⟩),.int .i64 x_2,.tuple #[.int .u32 x_5, .int .i64 x_6],.int .u32 x_5,.int .i64 x_6,g19,g20,g21,g22,g23,g24,g25,g26,g27,g28,g29,g30,g31,g32,g33,g34,g35,g36,g37,g38,g39,g40,g41,g42,g43,g44] r_3.2 := by kernel_rfl
theorem k23_11 : P23 [1,0,1,0,1,0,1] = .ret := by kernel_rfl
theorem e23 {M : Mem} : finish Try.prog Try.f23 #[g0,g1,g2,g3,g4,g5,g6,g7,g8,g9,g10,g11,g12,g13,g14,g15,g16,g17,g18,g19,g20,g21,g22,g23,g24,g25,g26,g27,g28,g29,g30,g31,g32,g33,g34,g35,g36,g37,g38,g39,g40,g41,g42,g43,g44] M = some (.tuple #[g4, g5], M) := by kernel_rfl
theorem k23_13 : P23 [1,0,1,0,1,1] = .seq (P23 [1,0,1,0,1,1,0]) (P23 [1,0,1,0,1,1,1]) := by kernel_rfl
theorem k23_14 : P23 [1,0,1,0,1,1,0] = .region 4 (O23 [1,0,1,0,1,1,0]) false := by kernel_rfl
theorem r23_4 {x10 : Int} {M : Mem} {call : CallM} {K : Array Value → Mem → R} :
    opsK Try.prog (fun _ => call) (O23 [1,0,1,0,1,1,0]) (O23 [1,0,1,0,1,1,0]).toList 0 #[g0,g1,g2,g3,g4,g5,g6,g7,g8,g9,.int .i64 x10,g11,g12,g13,g14,g15,g16,g17,g18,g19,g20,g21,g22,g23,g24,g25,g26,g27,g28,g29,g30,g31,g32,g33,g34,g35,g36,g37,g38,g39,g40,g41,g42,g43,g44] M K = K #[g0,g1,g2,g3,g4,g5,g6,g7,g8,g9,.int .i64 x10,g11,g12,g13,g14,g15,g16,g17,g18,.bool (x10 == 1),.bool (x10 == 1),g21,g22,g23,g24,g25,g26,g27,g28,g29,g30,g31,g32,g33,g34,g35,g36,g37,g38,g39,g40,g41,g42,g43,g44] M := by kernel_rfl
theorem c23_15 : P23 [1,0,1,0,1,1,1] = .cond (.tmp 19) (P23 [1,0,1,0,1,1,1,0]) (P23 [1,0,1,0,1,1,1,1]) := by kernel_rfl
theorem k23_16 : P23 [1,0,1,0,1,1,1,0] = .seq (P23 [1,0,1,0,1,1,1,0,0]) (P23 [1,0,1,0,1,1,1,0,1]) := by kernel_rfl
theorem k23_17 : P23 [1,0,1,0,1,1,1,0,0] = .region 5 (O23 [1,0,1,0,1,1,1,0,0]) false := by kernel_rfl
theorem r23_5 {x0 x3 : Option Addr} {M : Mem} {call : CallM} {K : Array Value → Mem → R} :
    opsK Try.prog (fun _ => call) (O23 [1,0,1,0,1,1,1,0,0]) (O23 [1,0,1,0,1,1,1,0,0]).toList 0 #[.pointer x0,g1,g2,.pointer x3,g4,g5,g6,g7,g8,g9,g10,g11,g12,g13,g14,g15,g16,g17,g18,g19,g20,g21,g22,g23,g24,g25,g26,g27,g28,g29,g30,g31,g32,g33,g34,g35,g36,g37,g38,g39,g40,g41,g42,g43,g44] M K = (x3).bind fun a_1 => (M.intAt .i64 a_1.block (a_1.off + 1)).bind fun x_2 => (call 38 #[.pointer x0, .int .i64 x_2] M).bind fun r_3 => (asU 2 r_3.1).bind fun cs_4 => (asI .i32 (cs_4.getD 0 undef)).bind fun x_5 => (asI .i64 (cs_4.getD 1 undef)).bind fun x_6 => K #[.pointer x0,g1,g2,.pointer x3,g4,g5,.int .i32 x_5,.int .i64 x_6,g8,g9,g10,g11,g12,g13,g14,g15,g16,g17,g18,g19,g20,.tuple #[.int .i32 x_5, .int .i64 x_6],.pointer x0,.pointer (some ⟨a_1.block, a_1.off + 1, none⟩),.int .i64 x_2,.tuple #[.int .i32 x_5, .int .i64 x_6],.int .i32 x_5,.int .i64 x_6,g28,g29,g30,g31,g32,g33,g34,g35,g36,g37,g38,g39,g40,g41,g42,g43,g44] r_3.2 := by kernel_rfl
theorem k23_18 : P23 [1,0,1,0,1,1,1,0,1] = .seq (P23 [1,0,1,0,1,1,1,0,1,0]) (P23 [1,0,1,0,1,1,1,0,1,1]) := by kernel_rfl
theorem k23_19 : P23 [1,0,1,0,1,1,1,0,1,0] = .region 6 (O23 [1,0,1,0,1,1,1,0,1,0]) false := by kernel_rfl
theorem r23_6 {x6 x7 : Int} {M : Mem} {call : CallM} {K : Array Value → Mem → R} :
    opsK Try.prog (fun _ => call) (O23 [1,0,1,0,1,1,1,0,1,0]) (O23 [1,0,1,0,1,1,1,0,1,0]).toList 0 #[g0,g1,g2,g3,g4,g5,.int .i32 x6,.int .i64 x7,g8,g9,g10,g11,g12,g13,g14,g15,g16,g17,g18,g19,g20,g21,g22,g23,g24,g25,g26,g27,g28,g29,g30,g31,g32,g33,g34,g35,g36,g37,g38,g39,g40,g41,g42,g43,g44] M K = K #[g0,g1,g2,g3,.int .u32 (IntKind.u32.wrap (x6)),.int .i64 x7,.int .i32 x6,.int .i64 x7,g8,g9,g10,g11,g12,g13,g14,g15,g16,g17,g18,g19,g20,g21,g22,g23,g24,g25,g26,g27,.int .i32 x6,.int .u32 (IntKind.u32.wrap (x6)),.int .i64 x7,g31,g32,g33,g34,g35,g36,g37,g38,g39,g40,g41,g42,g43,g44] M := by kernel_rfl
theorem k23_20 : P23 [1,0,1,0,1,1,1,0,1,1] = .ret := by kernel_rfl
theorem k23_21 : P23 [1,0,1,0,1,1,1,1] = .seq (P23 [1,0,1,0,1,1,1,1,0]) (P23 [1,0,1,0,1,1,1,1,1]) := by kernel_rfl
theorem k23_22 : P23 [1,0,1,0,1,1,1,1,0] = .region 7 (O23 [1,0,1,0,1,1,1,1,0]) false := by kernel_rfl
theorem r23_7 {x10 : Int} {M : Mem} {call : CallM} {K : Array Value → Mem → R} :
    opsK Try.prog (fun _ => call) (O23 [1,0,1,0,1,1,1,1,0]) (O23 [1,0,1,0,1,1,1,1,0]).toList 0 #[g0,g1,g2,g3,g4,g5,g6,g7,g8,g9,.int .i64 x10,g11,g12,g13,g14,g15,g16,g17,g18,g19,g20,g21,g22,g23,g24,g25,g26,g27,g28,g29,g30,g31,g32,g33,g34,g35,g36,g37,g38,g39,g40,g41,g42,g43,g44] M K = K #[g0,g1,g2,g3,g4,g5,g6,g7,g8,g9,.int .i64 x10,g11,g12,g13,g14,g15,g16,g17,g18,g19,g20,g21,g22,g23,g24,g25,g26,g27,g28,g29,g30,.bool (x10 == 2),.bool (x10 == 2),g33,g34,g35,g36,g37,g38,g39,g40,g41,g42,g43,g44] M := by kernel_rfl
theorem c23_23 : P23 [1,0,1,0,1,1,1,1,1] = .cond (.tmp 31) (P23 [1,0,1,0,1,1,1,1,1,0]) (P23 [1,0,1,0,1,1,1,1,1,1]) := by kernel_rfl
theorem k23_24 : P23 [1,0,1,0,1,1,1,1,1,0] = .seq (P23 [1,0,1,0,1,1,1,1,1,0,0]) (P23 [1,0,1,0,1,1,1,1,1,0,1]) := by kernel_rfl
theorem k23_25 : P23 [1,0,1,0,1,1,1,1,1,0,0] = .region 8 (O23 [1,0,1,0,1,1,1,1,1,0,0]) false := by kernel_rfl
theorem r23_8 {x0 : Option Addr} {M : Mem} {call : CallM} {K : Array Value → Mem → R} :
    opsK Try.prog (fun _ => call) (O23 [1,0,1,0,1,1,1,1,1,0,0]) (O23 [1,0,1,0,1,1,1,1,1,0,0]).toList 0 #[.pointer x0,g1,g2,g3,g4,g5,g6,g7,g8,g9,g10,g11,g12,g13,g14,g15,g16,g17,g18,g19,g20,g21,g22,g23,g24,g25,g26,g27,g28,g29,g30,g31,g32,g33,g34,g35,g36,g37,g38,g39,g40,g41,g42,g43,g44] M K = (call 39 #[.pointer x0] M).bind fun r_1 => (asU 2 r_1.1).bind fun cs_2 => (asI .u32 (cs_2.getD 0 undef)).bind fun x_3 => (asI .i64 (cs_2.getD 1 undef)).bind fun x_4 => K #[.pointer x0,g1,g2,g3,.int .u32 x_3,.int .i64 x_4,g6,g7,g8,g9,g10,g11,g12,g13,g14,g15,g16,g17,g18,g19,g20,g21,g22,g23,g24,g25,g26,g27,g28,g29,g30,g31,g32,.pointer x0,.tuple #[.int .u32 x_3, .int .i64 x_4],.int .u32 x_3,.int .i64 x_4,g37,g38,g39,g40,g41,g42,g43,g44] r_1.2 := by kernel_rfl
theorem k23_26 : P23 [1,0,1,0,1,1,1,1,1,0,1] = .ret := by kernel_rfl
theorem k23_27 : P23 [1,0,1,0,1,1,1,1,1,1] = .seq (P23 [1,0,1,0,1,1,1,1,1,1,0]) (P23 [1,0,1,0,1,1,1,1,1,1,1]) := by kernel_rfl
theorem k23_28 : P23 [1,0,1,0,1,1,1,1,1,1,0] = .region 9 (O23 [1,0,1,0,1,1,1,1,1,1,0]) false := by kernel_rfl
theorem r23_9 {x10 : Int} {M : Mem} {call : CallM} {K : Array Value → Mem → R} :
    opsK Try.prog (fun _ => call) (O23 [1,0,1,0,1,1,1,1,1,1,0]) (O23 [1,0,1,0,1,1,1,1,1,1,0]).toList 0 #[g0,g1,g2,g3,g4,g5,g6,g7,g8,g9,.int .i64 x10,g11,g12,g13,g14,g15,g16,g17,g18,g19,g20,g21,g22,g23,g24,g25,g26,g27,g28,g29,g30,g31,g32,g33,g34,g35,g36,g37,g38,g39,g40,g41,g42,g43,g44] M K = K #[g0,g1,g2,g3,g4,g5,g6,g7,g8,g9,.int .i64 x10,g11,g12,g13,g14,g15,g16,g17,g18,g19,g20,g21,g22,g23,g24,g25,g26,g27,g28,g29,g30,g31,g32,g33,g34,g35,g36,.bool (x10 == 3),.bool (x10 == 3),g39,g40,g41,g42,g43,g44] M := by kernel_rfl
theorem c23_29 : P23 [1,0,1,0,1,1,1,1,1,1,1] = .cond (.tmp 37) (P23 [1,0,1,0,1,1,1,1,1,1,1,0]) (P23 [1,0,1,0,1,1,1,1,1,1,1,1]) := by kernel_rfl
theorem k23_30 : P23 [1,0,1,0,1,1,1,1,1,1,1,0] = .seq (P23 [1,0,1,0,1,1,1,1,1,1,1,0,0]) (P23 [1,0,1,0,1,1,1,1,1,1,1,0,1]) := by kernel_rfl
theorem k23_31 : P23 [1,0,1,0,1,1,1,1,1,1,1,0,0] = .region 10 (O23 [1,0,1,0,1,1,1,1,1,1,1,0,0]) false := by kernel_rfl
theorem r23_10 {x0 : Option Addr} {M : Mem} {call : CallM} {K : Array Value → Mem → R} :
    opsK Try.prog (fun _ => call) (O23 [1,0,1,0,1,1,1,1,1,1,1,0,0]) (O23 [1,0,1,0,1,1,1,1,1,1,1,0,0]).toList 0 #[.pointer x0,g1,g2,g3,g4,g5,g6,g7,g8,g9,g10,g11,g12,g13,g14,g15,g16,g17,g18,g19,g20,g21,g22,g23,g24,g25,g26,g27,g28,g29,g30,g31,g32,g33,g34,g35,g36,g37,g38,g39,g40,g41,g42,g43,g44] M K = (call 40 #[.pointer x0] M).bind fun r_1 => (asU 2 r_1.1).bind fun cs_2 => (asI .u32 (cs_2.getD 0 undef)).bind fun x_3 => (asI .i64 (cs_2.getD 1 undef)).bind fun x_4 => K #[.pointer x0,g1,g2,g3,.int .u32 x_3,.int .i64 x_4,g6,g7,g8,g9,g10,g11,g12,g13,g14,g15,g16,g17,g18,g19,g20,g21,g22,g23,g24,g25,g26,g27,g28,g29,g30,g31,g32,g33,g34,g35,g36,g37,g38,.pointer x0,.tuple #[.int .u32 x_3, .int .i64 x_4],.int .u32 x_3,.int .i64 x_4,g43,g44] r_1.2 := by kernel_rfl
theorem k23_32 : P23 [1,0,1,0,1,1,1,1,1,1,1,0,1] = .ret := by kernel_rfl
theorem k23_33 : P23 [1,0,1,0,1,1,1,1,1,1,1,1] = .skip := by kernel_rfl
theorem k23_34 : P23 [1,1] = .seq (P23 [1,1,0]) (P23 [1,1,1]) := by kernel_rfl
theorem k23_35 : P23 [1,1,0] = .region 11 (O23 [1,1,0]) false := by kernel_rfl
theorem r23_11 {x0 : Option Addr} {M : Mem} {call : CallM} {K : Array Value → Mem → R} :
    opsK Try.prog (fun _ => call) (O23 [1,1,0]) (O23 [1,1,0]).toList 0 #[.pointer x0,g1,g2,g3,g4,g5,g6,g7,g8,g9,g10,g11,g12,g13,g14,g15,g16,g17,g18,g19,g20,g21,g22,g23,g24,g25,g26,g27,g28,g29,g30,g31,g32,g33,g34,g35,g36,g37,g38,g39,g40,g41,g42,g43,g44] M K = (call 31 #[.pointer x0] M).bind fun r_1 => (asI .i64 r_1.1).bind fun x_2 => K #[.pointer x0,g1,g2,g3,.int .u32 0,.int .i64 x_2,g6,g7,g8,g9,g10,g11,g12,g13,g14,g15,g16,g17,g18,g19,g20,g21,g22,g23,g24,g25,g26,g27,g28,g29,g30,g31,g32,g33,g34,g35,g36,g37,g38,g39,g40,g41,g42,.pointer x0,.int .i64 x_2] r_1.2 := by kernel_rfl
theorem k23_36 : P23 [1,1,1] = .ret := by kernel_rfl
theorem w23_0 {x0 : Option Addr} {x1_0 x1_1 x1_2 : Int} {M : Mem} {Q : Value → Mem → Prop} (H :
    ∃ x1', (M.new (.cells #[.int .i64 x1_0, .int .i64 x1_1, .int .u32 x1_2] 29)).intAt .i64 (2 * M.nb.size) 0 = some x1' ∧
    Cn Try.prog 12 #[.int .i64 x1', .int .i64 5] (M.new (.cells #[.int .i64 x1_0, .int .i64 x1_1, .int .u32 x1_2] 29)) fun v2' N2' =>
     ∃ x3', asI .i64 v2' = some x3' ∧
     ((x3' = 0 →
      ∃ x4', N2'.intAt .i64 (2 * M.nb.size) (0 + 1) = some x4' ∧
      Cn Try.prog 37 #[.pointer x0, .int .i64 x4'] N2' fun v5' N5' =>
       ∃ cs6', asU 2 v5' = some cs6' ∧
       ∃ x7', asI .u32 (cs6'.getD 0 undef) = some x7' ∧
       ∃ x8', asI .i64 (cs6'.getD 1 undef) = some x8' ∧
       Q (.tuple #[.int .u32 (x7'), .int .i64 (x8')]) N5') ∧
      (x3' ≠ 0 →
      ((x3' = 1 →
       ∃ x9', N2'.intAt .i64 (2 * M.nb.size) (0 + 1) = some x9' ∧
       Cn Try.prog 38 #[.pointer x0, .int .i64 x9'] N2' fun v10' N10' =>
        ∃ cs11', asU 2 v10' = some cs11' ∧
        ∃ x12', asI .i32 (cs11'.getD 0 undef) = some x12' ∧
        ∃ x13', asI .i64 (cs11'.getD 1 undef) = some x13' ∧
        Q (.tuple #[.int .u32 (IntKind.u32.wrap (x12')), .int .i64 (x13')]) N10') ∧
       (x3' ≠ 1 →
       ((x3' = 2 →
        Cn Try.prog 39 #[.pointer x0] N2' fun v14' N14' =>
         ∃ cs15', asU 2 v14' = some cs15' ∧
         ∃ x16', asI .u32 (cs15'.getD 0 undef) = some x16' ∧
         ∃ x17', asI .i64 (cs15'.getD 1 undef) = some x17' ∧
         Q (.tuple #[.int .u32 (x16'), .int .i64 (x17')]) N14') ∧
        (x3' ≠ 2 →
        ((x3' = 3 →
         Cn Try.prog 40 #[.pointer x0] N2' fun v18' N18' =>
          ∃ cs19', asU 2 v18' = some cs19' ∧
          ∃ x20', asI .u32 (cs19'.getD 0 undef) = some x20' ∧
          ∃ x21', asI .i64 (cs19'.getD 1 undef) = some x21' ∧
          Q (.tuple #[.int .u32 (x20'), .int .i64 (x21')]) N18') ∧
         (x3' ≠ 3 →
         Cn Try.prog 31 #[.pointer x0] N2' fun v22' N22' =>
          ∃ x23', asI .i64 v22' = some x23' ∧
          Q (.tuple #[.int .u32 0, .int .i64 (x23')]) N22'))))))))) :
    Cn Try.prog 23 #[.pointer x0, .agg #[.int .i64 x1_0, .int .i64 x1_1, .int .u32 x1_2]] M Q := by
  refine Cn.of b23 d23 t23 ?_
  refine Rn.seq k23_0 (Rn.region k23_1 (fun call K => r23_0) (Rch.leaf (Rn.seq k23_2 (Rn.seq k23_3 (Rn.region k23_4 (fun call K => r23_1) (Rch.bind (x := ⟨2 * M.nb.size, 0, none⟩) rfl (Rch.ex H fun x1' H => Rch.call H fun v2' N2' H => Rch.ex H fun x3' H => Rch.leaf (Rn.block k23_5 ?_))))))))
  refine Rn.seq k23_6 (Rn.region k23_7 (fun call K => r23_2) (Rch.leaf ?_))
  refine Rn.cnd (v := x3' == 0) ⟨c23_8, rfl, by kernel_rfl⟩ (fun h => ?_) (fun h => ?_)
  · replace H := H.1 (eq_of_beq h)
    refine Rn.seq k23_9 (Rn.region k23_10 (fun call K => r23_3) (Rch.bind (x := ⟨2 * M.nb.size, 0, none⟩) rfl (Rch.ex H fun x4' H => Rch.call H fun v5' N5' H => Rch.ex H fun cs6' H => Rch.ex H fun x7' H => Rch.ex H fun x8' H => Rch.leaf ?_)))
    exact Rn.ret k23_11 e23 H
  · replace H := H.2 (ne_of_beq_false h)
    refine Rn.seq k23_13 (Rn.region k23_14 (fun call K => r23_4) (Rch.leaf ?_))
    refine Rn.cnd (v := x3' == 1) ⟨c23_15, rfl, by kernel_rfl⟩ (fun h => ?_) (fun h => ?_)
    · replace H := H.1 (eq_of_beq h)
      refine Rn.seq k23_16 (Rn.region k23_17 (fun call K => r23_5) (Rch.bind (x := ⟨2 * M.nb.size, 0, none⟩) rfl (Rch.ex H fun x9' H => Rch.call H fun v10' N10' H => Rch.ex H fun cs11' H => Rch.ex H fun x12' H => Rch.ex H fun x13' H => Rch.leaf (Rn.seq k23_18 (Rn.region k23_19 (fun call K => r23_6) (Rch.leaf ?_))))))
      exact Rn.ret k23_20 e23 H
    · replace H := H.2 (ne_of_beq_false h)
      refine Rn.seq k23_21 (Rn.region k23_22 (fun call K => r23_7) (Rch.leaf ?_))
      refine Rn.cnd (v := x3' == 2) ⟨c23_23, rfl, by kernel_rfl⟩ (fun h => ?_) (fun h => ?_)
      · replace H := H.1 (eq_of_beq h)
        refine Rn.seq k23_24 (Rn.region k23_25 (fun call K => r23_8) (Rch.call H fun v14' N14' H => Rch.ex H fun cs15' H => Rch.ex H fun x16' H => Rch.ex H fun x17' H => Rch.leaf ?_))
        exact Rn.ret k23_26 e23 H
      · replace H := H.2 (ne_of_beq_false h)
        refine Rn.seq k23_27 (Rn.region k23_28 (fun call K => r23_9) (Rch.leaf ?_))
        refine Rn.cnd (v := x3' == 3) ⟨c23_29, rfl, by kernel_rfl⟩ (fun h => ?_) (fun h => ?_)
        · replace H := H.1 (eq_of_beq h)
          refine Rn.seq k23_30 (Rn.region k23_31 (fun call K => r23_10) (Rch.call H fun v18' N18' H => Rch.ex H fun cs19' H => Rch.ex H fun x20' H => Rch.ex H fun x21' H => Rch.leaf ?_))
          exact Rn.ret k23_32 e23 H
        · replace H := H.2 (ne_of_beq_false h)
          refine Rn.skip k23_33 (Rn.blk (Rn.seq k23_34 (Rn.region k23_35 (fun call K => r23_11) (Rch.call H fun v22' N22' H => Rch.ex H fun x23' H => Rch.leaf ?_))))
          exact Rn.ret k23_36 e23 H


/-! ### zoetrope/zoetropelaw01.want: function 27 -/
noncomputable abbrev P27 (p : List Nat) : Code := subC (codeOf Try.f27) p
noncomputable abbrev O27 (p : List Nat) : Array Oper := opsOf (subC (codeOf Try.f27) p)
theorem b27 : Try.prog.funcs[27]? = some Try.f27 ∧ (Orc.tab Try.prog).lookup 27 = none := ⟨by kernel_rfl, by kernel_rfl⟩
theorem d27 : Try.f27.body = some (P27 []) := by kernel_rfl
theorem t27 {x0 : Option Addr} {x1_0 x1_1 x1_2 : Int} : #[.pointer x0,.agg #[.int .i64 x1_0, .int .i64 x1_1, .int .u32 x1_2]] ++ Array.replicate (Try.f27.ntmps - (#[.pointer x0,.agg #[.int .i64 x1_0, .int .i64 x1_1, .int .u32 x1_2]] : Array Value).size) undef = #[.pointer x0,.agg #[.int .i64 x1_0, .int .i64 x1_1, .int .u32 x1_2],undef,undef,undef,undef,undef,undef,undef,undef,undef,undef,undef,undef,undef,undef,undef,undef,undef,undef,undef,undef,undef,undef,undef,undef,undef,undef,undef,undef,undef,undef,undef,undef,undef,undef,undef,undef,undef,undef,undef,undef,undef,undef,undef] := by kernel_rfl
theorem k27_0 : P27 [] = .seq (P27 [0]) (P27 [1]) := by kernel_rfl
theorem k27_1 : P27 [0] = .region 0 (O27 [0]) false := by kernel_rfl
theorem r27_0 {x1_0 x1_1 x1_2 : Int} {M : Mem} {call : CallM} {K : Array Value → Mem → R} :
    opsK Try.prog (fun _ => call) (O27 [0]) (O27 [0]).toList 0 #[g0,.agg #[.int .i64 x1_0, .int .i64 x1_1, .int .u32 x1_2],g2,g3,g4,g5,g6,g7,g8,g9,g10,g11,g12,g13,g14,g15,g16,g17,g18,g19,g20,g21,g22,g23,g24,g25,g26,g27,g28,g29,g30,g31,g32,g33,g34,g35,g36,g37,g38,g39,g40,g41,g42,g43,g44] M K = K #[g0,.agg #[.int .i64 x1_0, .int .i64 x1_1, .int .u32 x1_2],g2,.pointer (some ⟨2 * M.nb.size, 0, none⟩),.int .u32 0,.int .i64 0,g6,g7,g8,g9,g10,g11,g12,g13,g14,g15,g16,g17,g18,g19,g20,g21,g22,g23,g24,g25,g26,g27,g28,g29,g30,g31,g32,g33,g34,g35,g36,g37,g38,g39,g40,g41,g42,g43,g44] (M.new (.cells #[.int .i64 x1_0, .int .i64 x1_1, .int .u32 x1_2] 29)) := by kernel_rfl
theorem k27_2 : P27 [1] = .seq (P27 [1,0]) (P27 [1,1]) := by kernel_rfl
theorem k27_3 : P27 [1,0] = .seq (P27 [1,0,0]) (P27 [1,0,1]) := by kernel_rfl
theorem k27_4 : P27 [1,0,0] = .region 1 (O27 [1,0,0]) false := by kernel_rfl
theorem r27_1 {x3 : Option Addr} {M : Mem} {call : CallM} {K : Array Value → Mem → R} :
    opsK Try.prog (fun _ => call) (O27 [1,0,0]) (O27 [1,0,0]).toList 0 #[g0,g1,g2,.pointer x3,g4,g5,g6,g7,g8,g9,g10,g11,g12,g13,g14,g15,g16,g17,g18,g19,g20,g21,g22,g23,g24,g25,g26,g27,g28,g29,g30,g31,g32,g33,g34,g35,g36,g37,g38,g39,g40,g41,g42,g43,g44] M K = (x3).bind fun a_1 => (M.intAt .i64 a_1.block a_1.off).bind fun x_2 => (call 12 #[.int .i64 x_2, .int .i64 5] M).bind fun r_3 => (asI .i64 r_3.1).bind fun x_4 => K #[g0,g1,g2,.pointer x3,g4,g5,g6,g7,.pointer (some ⟨a_1.block, a_1.off, none⟩),.int .i64 x_2,.int .i64 x_4,g11,g12,g13,g14,g15,g16,g17,g18,g19,g20,g21,g22,g23,g24,g25,g26,g27,g28,g29,g30,g31,g32,g33,g34,g35,g36,g37,g38,g39,g40,g41,g42,g43,g44] r_3.2 := by kernel_rfl
theorem k27_5 : P27 [1,0,1] = .block 0 (P27 [1,0,1,0]) := by kernel_rfl
theorem k27_6 : P27 [1,0,1,0] = .seq (P27 [1,0,1,0,0]) (P27 [1,0,1,0,1]) := by kernel_rfl
theorem k27_7 : P27 [1,0,1,0,0] = .region 2 (O27 [1,0,1,0,0]) false := by kernel_rfl
theorem r27_2 {x10 : Int} {M : Mem} {call : CallM} {K : Array Value → Mem → R} :
    opsK Try.prog (fun _ => call) (O27 [1,0,1,0,0]) (O27 [1,0,1,0,0]).toList 0 #[g0,g1,g2,g3,g4,g5,g6,g7,g8,g9,.int .i64 x10,g11,g12,g13,g14,g15,g16,g17,g18,g19,g20,g21,g22,g23,g24,g25,g26,g27,g28,g29,g30,g31,g32,g33,g34,g35,g36,g37,g38,g39,g40,g41,g42,g43,g44] M K = K #[g0,g1,g2,g3,g4,g5,g6,g7,g8,g9,.int .i64 x10,.bool (x10 == 0),.bool (x10 == 0),g13,g14,g15,g16,g17,g18,g19,g20,g21,g22,g23,g24,g25,g26,g27,g28,g29,g30,g31,g32,g33,g34,g35,g36,g37,g38,g39,g40,g41,g42,g43,g44] M := by kernel_rfl
theorem c27_8 : P27 [1,0,1,0,1] = .cond (.tmp 11) (P27 [1,0,1,0,1,0]) (P27 [1,0,1,0,1,1]) := by kernel_rfl
theorem k27_9 : P27 [1,0,1,0,1,0] = .seq (P27 [1,0,1,0,1,0,0]) (P27 [1,0,1,0,1,0,1]) := by kernel_rfl
theorem k27_10 : P27 [1,0,1,0,1,0,0] = .region 3 (O27 [1,0,1,0,1,0,0]) false := by kernel_rfl
theorem r27_3 {x0 x3 : Option Addr} {M : Mem} {call : CallM} {K : Array Value → Mem → R} :
    opsK Try.prog (fun _ => call) (O27 [1,0,1,0,1,0,0]) (O27 [1,0,1,0,1,0,0]).toList 0 #[.pointer x0,g1,g2,.pointer x3,g4,g5,g6,g7,g8,g9,g10,g11,g12,g13,g14,g15,g16,g17,g18,g19,g20,g21,g22,g23,g24,g25,g26,g27,g28,g29,g30,g31,g32,g33,g34,g35,g36,g37,g38,g39,g40,g41,g42,g43,g44] M K = (x3).bind fun a_1 => (M.intAt .i64 a_1.block (a_1.off + 1)).bind fun x_2 => (call 49 #[.pointer x0, .int .i64 x_2] M).bind fun r_3 => (asU 2 r_3.1).bind fun cs_4 => (asI .u32 (cs_4.getD 0 undef)).bind fun x_5 => (asI .i64 (cs_4.getD 1 undef)).bind fun x_6 => K #[.pointer x0,g1,g2,.pointer x3,.int .u32 x_5,.int .i64 x_6,g6,g7,g8,g9,g10,g11,g12,.pointer x0,.pointer (some ⟨a_1.block, a_1.off + 1, none⟩),.int .i64 x_2,.tuple #[.int .u32 x_5, .int .i64 x_6],.int .u32 x_5,.int .i64 x_6,g19,g20,g21,g22,g23,g24,g25,g26,g27,g28,g29,g30,g31,g32,g33,g34,g35,g36,g37,g38,g39,g40,g41,g42,g43,g44] r_3.2 := by kernel_rfl
theorem k27_11 : P27 [1,0,1,0,1,0,1] = .ret := by kernel_rfl
theorem e27 {M : Mem} : finish Try.prog Try.f27 #[g0,g1,g2,g3,g4,g5,g6,g7,g8,g9,g10,g11,g12,g13,g14,g15,g16,g17,g18,g19,g20,g21,g22,g23,g24,g25,g26,g27,g28,g29,g30,g31,g32,g33,g34,g35,g36,g37,g38,g39,g40,g41,g42,g43,g44] M = some (.tuple #[g4, g5], M) := by kernel_rfl
theorem k27_13 : P27 [1,0,1,0,1,1] = .seq (P27 [1,0,1,0,1,1,0]) (P27 [1,0,1,0,1,1,1]) := by kernel_rfl
theorem k27_14 : P27 [1,0,1,0,1,1,0] = .region 4 (O27 [1,0,1,0,1,1,0]) false := by kernel_rfl
theorem r27_4 {x10 : Int} {M : Mem} {call : CallM} {K : Array Value → Mem → R} :
    opsK Try.prog (fun _ => call) (O27 [1,0,1,0,1,1,0]) (O27 [1,0,1,0,1,1,0]).toList 0 #[g0,g1,g2,g3,g4,g5,g6,g7,g8,g9,.int .i64 x10,g11,g12,g13,g14,g15,g16,g17,g18,g19,g20,g21,g22,g23,g24,g25,g26,g27,g28,g29,g30,g31,g32,g33,g34,g35,g36,g37,g38,g39,g40,g41,g42,g43,g44] M K = K #[g0,g1,g2,g3,g4,g5,g6,g7,g8,g9,.int .i64 x10,g11,g12,g13,g14,g15,g16,g17,g18,.bool (x10 == 1),.bool (x10 == 1),g21,g22,g23,g24,g25,g26,g27,g28,g29,g30,g31,g32,g33,g34,g35,g36,g37,g38,g39,g40,g41,g42,g43,g44] M := by kernel_rfl
theorem c27_15 : P27 [1,0,1,0,1,1,1] = .cond (.tmp 19) (P27 [1,0,1,0,1,1,1,0]) (P27 [1,0,1,0,1,1,1,1]) := by kernel_rfl
theorem k27_16 : P27 [1,0,1,0,1,1,1,0] = .seq (P27 [1,0,1,0,1,1,1,0,0]) (P27 [1,0,1,0,1,1,1,0,1]) := by kernel_rfl
theorem k27_17 : P27 [1,0,1,0,1,1,1,0,0] = .region 5 (O27 [1,0,1,0,1,1,1,0,0]) false := by kernel_rfl
theorem r27_5 {x0 x3 : Option Addr} {M : Mem} {call : CallM} {K : Array Value → Mem → R} :
    opsK Try.prog (fun _ => call) (O27 [1,0,1,0,1,1,1,0,0]) (O27 [1,0,1,0,1,1,1,0,0]).toList 0 #[.pointer x0,g1,g2,.pointer x3,g4,g5,g6,g7,g8,g9,g10,g11,g12,g13,g14,g15,g16,g17,g18,g19,g20,g21,g22,g23,g24,g25,g26,g27,g28,g29,g30,g31,g32,g33,g34,g35,g36,g37,g38,g39,g40,g41,g42,g43,g44] M K = (x3).bind fun a_1 => (M.intAt .i64 a_1.block (a_1.off + 1)).bind fun x_2 => (call 50 #[.pointer x0, .int .i64 x_2] M).bind fun r_3 => (asU 2 r_3.1).bind fun cs_4 => (asI .i32 (cs_4.getD 0 undef)).bind fun x_5 => (asI .i64 (cs_4.getD 1 undef)).bind fun x_6 => K #[.pointer x0,g1,g2,.pointer x3,g4,g5,.int .i32 x_5,.int .i64 x_6,g8,g9,g10,g11,g12,g13,g14,g15,g16,g17,g18,g19,g20,.tuple #[.int .i32 x_5, .int .i64 x_6],.pointer x0,.pointer (some ⟨a_1.block, a_1.off + 1, none⟩),.int .i64 x_2,.tuple #[.int .i32 x_5, .int .i64 x_6],.int .i32 x_5,.int .i64 x_6,g28,g29,g30,g31,g32,g33,g34,g35,g36,g37,g38,g39,g40,g41,g42,g43,g44] r_3.2 := by kernel_rfl
theorem k27_18 : P27 [1,0,1,0,1,1,1,0,1] = .seq (P27 [1,0,1,0,1,1,1,0,1,0]) (P27 [1,0,1,0,1,1,1,0,1,1]) := by kernel_rfl
theorem k27_19 : P27 [1,0,1,0,1,1,1,0,1,0] = .region 6 (O27 [1,0,1,0,1,1,1,0,1,0]) false := by kernel_rfl
theorem r27_6 {x6 x7 : Int} {M : Mem} {call : CallM} {K : Array Value → Mem → R} :
    opsK Try.prog (fun _ => call) (O27 [1,0,1,0,1,1,1,0,1,0]) (O27 [1,0,1,0,1,1,1,0,1,0]).toList 0 #[g0,g1,g2,g3,g4,g5,.int .i32 x6,.int .i64 x7,g8,g9,g10,g11,g12,g13,g14,g15,g16,g17,g18,g19,g20,g21,g22,g23,g24,g25,g26,g27,g28,g29,g30,g31,g32,g33,g34,g35,g36,g37,g38,g39,g40,g41,g42,g43,g44] M K = K #[g0,g1,g2,g3,.int .u32 (IntKind.u32.wrap (x6)),.int .i64 x7,.int .i32 x6,.int .i64 x7,g8,g9,g10,g11,g12,g13,g14,g15,g16,g17,g18,g19,g20,g21,g22,g23,g24,g25,g26,g27,.int .i32 x6,.int .u32 (IntKind.u32.wrap (x6)),.int .i64 x7,g31,g32,g33,g34,g35,g36,g37,g38,g39,g40,g41,g42,g43,g44] M := by kernel_rfl
theorem k27_20 : P27 [1,0,1,0,1,1,1,0,1,1] = .ret := by kernel_rfl
theorem k27_21 : P27 [1,0,1,0,1,1,1,1] = .seq (P27 [1,0,1,0,1,1,1,1,0]) (P27 [1,0,1,0,1,1,1,1,1]) := by kernel_rfl
theorem k27_22 : P27 [1,0,1,0,1,1,1,1,0] = .region 7 (O27 [1,0,1,0,1,1,1,1,0]) false := by kernel_rfl
theorem r27_7 {x10 : Int} {M : Mem} {call : CallM} {K : Array Value → Mem → R} :
    opsK Try.prog (fun _ => call) (O27 [1,0,1,0,1,1,1,1,0]) (O27 [1,0,1,0,1,1,1,1,0]).toList 0 #[g0,g1,g2,g3,g4,g5,g6,g7,g8,g9,.int .i64 x10,g11,g12,g13,g14,g15,g16,g17,g18,g19,g20,g21,g22,g23,g24,g25,g26,g27,g28,g29,g30,g31,g32,g33,g34,g35,g36,g37,g38,g39,g40,g41,g42,g43,g44] M K = K #[g0,g1,g2,g3,g4,g5,g6,g7,g8,g9,.int .i64 x10,g11,g12,g13,g14,g15,g16,g17,g18,g19,g20,g21,g22,g23,g24,g25,g26,g27,g28,g29,g30,.bool (x10 == 2),.bool (x10 == 2),g33,g34,g35,g36,g37,g38,g39,g40,g41,g42,g43,g44] M := by kernel_rfl
theorem c27_23 : P27 [1,0,1,0,1,1,1,1,1] = .cond (.tmp 31) (P27 [1,0,1,0,1,1,1,1,1,0]) (P27 [1,0,1,0,1,1,1,1,1,1]) := by kernel_rfl
theorem k27_24 : P27 [1,0,1,0,1,1,1,1,1,0] = .seq (P27 [1,0,1,0,1,1,1,1,1,0,0]) (P27 [1,0,1,0,1,1,1,1,1,0,1]) := by kernel_rfl
theorem k27_25 : P27 [1,0,1,0,1,1,1,1,1,0,0] = .region 8 (O27 [1,0,1,0,1,1,1,1,1,0,0]) false := by kernel_rfl
theorem r27_8 {x0 : Option Addr} {M : Mem} {call : CallM} {K : Array Value → Mem → R} :
    opsK Try.prog (fun _ => call) (O27 [1,0,1,0,1,1,1,1,1,0,0]) (O27 [1,0,1,0,1,1,1,1,1,0,0]).toList 0 #[.pointer x0,g1,g2,g3,g4,g5,g6,g7,g8,g9,g10,g11,g12,g13,g14,g15,g16,g17,g18,g19,g20,g21,g22,g23,g24,g25,g26,g27,g28,g29,g30,g31,g32,g33,g34,g35,g36,g37,g38,g39,g40,g41,g42,g43,g44] M K = (call 51 #[.pointer x0] M).bind fun r_1 => (asU 2 r_1.1).bind fun cs_2 => (asI .u32 (cs_2.getD 0 undef)).bind fun x_3 => (asI .i64 (cs_2.getD 1 undef)).bind fun x_4 => K #[.pointer x0,g1,g2,g3,.int .u32 x_3,.int .i64 x_4,g6,g7,g8,g9,g10,g11,g12,g13,g14,g15,g16,g17,g18,g19,g20,g21,g22,g23,g24,g25,g26,g27,g28,g29,g30,g31,g32,.pointer x0,.tuple #[.int .u32 x_3, .int .i64 x_4],.int .u32 x_3,.int .i64 x_4,g37,g38,g39,g40,g41,g42,g43,g44] r_1.2 := by kernel_rfl
theorem k27_26 : P27 [1,0,1,0,1,1,1,1,1,0,1] = .ret := by kernel_rfl
theorem k27_27 : P27 [1,0,1,0,1,1,1,1,1,1] = .seq (P27 [1,0,1,0,1,1,1,1,1,1,0]) (P27 [1,0,1,0,1,1,1,1,1,1,1]) := by kernel_rfl
theorem k27_28 : P27 [1,0,1,0,1,1,1,1,1,1,0] = .region 9 (O27 [1,0,1,0,1,1,1,1,1,1,0]) false := by kernel_rfl
theorem r27_9 {x10 : Int} {M : Mem} {call : CallM} {K : Array Value → Mem → R} :
    opsK Try.prog (fun _ => call) (O27 [1,0,1,0,1,1,1,1,1,1,0]) (O27 [1,0,1,0,1,1,1,1,1,1,0]).toList 0 #[g0,g1,g2,g3,g4,g5,g6,g7,g8,g9,.int .i64 x10,g11,g12,g13,g14,g15,g16,g17,g18,g19,g20,g21,g22,g23,g24,g25,g26,g27,g28,g29,g30,g31,g32,g33,g34,g35,g36,g37,g38,g39,g40,g41,g42,g43,g44] M K = K #[g0,g1,g2,g3,g4,g5,g6,g7,g8,g9,.int .i64 x10,g11,g12,g13,g14,g15,g16,g17,g18,g19,g20,g21,g22,g23,g24,g25,g26,g27,g28,g29,g30,g31,g32,g33,g34,g35,g36,.bool (x10 == 3),.bool (x10 == 3),g39,g40,g41,g42,g43,g44] M := by kernel_rfl
theorem c27_29 : P27 [1,0,1,0,1,1,1,1,1,1,1] = .cond (.tmp 37) (P27 [1,0,1,0,1,1,1,1,1,1,1,0]) (P27 [1,0,1,0,1,1,1,1,1,1,1,1]) := by kernel_rfl
theorem k27_30 : P27 [1,0,1,0,1,1,1,1,1,1,1,0] = .seq (P27 [1,0,1,0,1,1,1,1,1,1,1,0,0]) (P27 [1,0,1,0,1,1,1,1,1,1,1,0,1]) := by kernel_rfl
theorem k27_31 : P27 [1,0,1,0,1,1,1,1,1,1,1,0,0] = .region 10 (O27 [1,0,1,0,1,1,1,1,1,1,1,0,0]) false := by kernel_rfl
theorem r27_10 {x0 : Option Addr} {M : Mem} {call : CallM} {K : Array Value → Mem → R} :
    opsK Try.prog (fun _ => call) (O27 [1,0,1,0,1,1,1,1,1,1,1,0,0]) (O27 [1,0,1,0,1,1,1,1,1,1,1,0,0]).toList 0 #[.pointer x0,g1,g2,g3,g4,g5,g6,g7,g8,g9,g10,g11,g12,g13,g14,g15,g16,g17,g18,g19,g20,g21,g22,g23,g24,g25,g26,g27,g28,g29,g30,g31,g32,g33,g34,g35,g36,g37,g38,g39,g40,g41,g42,g43,g44] M K = (call 52 #[.pointer x0] M).bind fun r_1 => (asU 2 r_1.1).bind fun cs_2 => (asI .u32 (cs_2.getD 0 undef)).bind fun x_3 => (asI .i64 (cs_2.getD 1 undef)).bind fun x_4 => K #[.pointer x0,g1,g2,g3,.int .u32 x_3,.int .i64 x_4,g6,g7,g8,g9,g10,g11,g12,g13,g14,g15,g16,g17,g18,g19,g20,g21,g22,g23,g24,g25,g26,g27,g28,g29,g30,g31,g32,g33,g34,g35,g36,g37,g38,.pointer x0,.tuple #[.int .u32 x_3, .int .i64 x_4],.int .u32 x_3,.int .i64 x_4,g43,g44] r_1.2 := by kernel_rfl
theorem k27_32 : P27 [1,0,1,0,1,1,1,1,1,1,1,0,1] = .ret := by kernel_rfl
theorem k27_33 : P27 [1,0,1,0,1,1,1,1,1,1,1,1] = .skip := by kernel_rfl
theorem k27_34 : P27 [1,1] = .seq (P27 [1,1,0]) (P27 [1,1,1]) := by kernel_rfl
theorem k27_35 : P27 [1,1,0] = .region 11 (O27 [1,1,0]) false := by kernel_rfl
theorem r27_11 {x0 : Option Addr} {M : Mem} {call : CallM} {K : Array Value → Mem → R} :
    opsK Try.prog (fun _ => call) (O27 [1,1,0]) (O27 [1,1,0]).toList 0 #[.pointer x0,g1,g2,g3,g4,g5,g6,g7,g8,g9,g10,g11,g12,g13,g14,g15,g16,g17,g18,g19,g20,g21,g22,g23,g24,g25,g26,g27,g28,g29,g30,g31,g32,g33,g34,g35,g36,g37,g38,g39,g40,g41,g42,g43,g44] M K = (call 53 #[.pointer x0] M).bind fun r_1 => (asI .i64 r_1.1).bind fun x_2 => K #[.pointer x0,g1,g2,g3,.int .u32 0,.int .i64 x_2,g6,g7,g8,g9,g10,g11,g12,g13,g14,g15,g16,g17,g18,g19,g20,g21,g22,g23,g24,g25,g26,g27,g28,g29,g30,g31,g32,g33,g34,g35,g36,g37,g38,g39,g40,g41,g42,.pointer x0,.int .i64 x_2] r_1.2 := by kernel_rfl
theorem k27_36 : P27 [1,1,1] = .ret := by kernel_rfl
theorem w27_0 {x0 : Option Addr} {x1_0 x1_1 x1_2 : Int} {M : Mem} {Q : Value → Mem → Prop} (H :
    ∃ x1', (M.new (.cells #[.int .i64 x1_0, .int .i64 x1_1, .int .u32 x1_2] 29)).intAt .i64 (2 * M.nb.size) 0 = some x1' ∧
    Cn Try.prog 12 #[.int .i64 x1', .int .i64 5] (M.new (.cells #[.int .i64 x1_0, .int .i64 x1_1, .int .u32 x1_2] 29)) fun v2' N2' =>
     ∃ x3', asI .i64 v2' = some x3' ∧
     ((x3' = 0 →
      ∃ x4', N2'.intAt .i64 (2 * M.nb.size) (0 + 1) = some x4' ∧
      Cn Try.prog 49 #[.pointer x0, .int .i64 x4'] N2' fun v5' N5' =>
       ∃ cs6', asU 2 v5' = some cs6' ∧
       ∃ x7', asI .u32 (cs6'.getD 0 undef) = some x7' ∧
       ∃ x8', asI .i64 (cs6'.getD 1 undef) = some x8' ∧
       Q (.tuple #[.int .u32 (x7'), .int .i64 (x8')]) N5') ∧
      (x3' ≠ 0 →
      ((x3' = 1 →
       ∃ x9', N2'.intAt .i64 (2 * M.nb.size) (0 + 1) = some x9' ∧
       Cn Try.prog 50 #[.pointer x0, .int .i64 x9'] N2' fun v10' N10' =>
        ∃ cs11', asU 2 v10' = some cs11' ∧
        ∃ x12', asI .i32 (cs11'.getD 0 undef) = some x12' ∧
        ∃ x13', asI .i64 (cs11'.getD 1 undef) = some x13' ∧
        Q (.tuple #[.int .u32 (IntKind.u32.wrap (x12')), .int .i64 (x13')]) N10') ∧
       (x3' ≠ 1 →
       ((x3' = 2 →
        Cn Try.prog 51 #[.pointer x0] N2' fun v14' N14' =>
         ∃ cs15', asU 2 v14' = some cs15' ∧
         ∃ x16', asI .u32 (cs15'.getD 0 undef) = some x16' ∧
         ∃ x17', asI .i64 (cs15'.getD 1 undef) = some x17' ∧
         Q (.tuple #[.int .u32 (x16'), .int .i64 (x17')]) N14') ∧
        (x3' ≠ 2 →
        ((x3' = 3 →
         Cn Try.prog 52 #[.pointer x0] N2' fun v18' N18' =>
          ∃ cs19', asU 2 v18' = some cs19' ∧
          ∃ x20', asI .u32 (cs19'.getD 0 undef) = some x20' ∧
          ∃ x21', asI .i64 (cs19'.getD 1 undef) = some x21' ∧
          Q (.tuple #[.int .u32 (x20'), .int .i64 (x21')]) N18') ∧
         (x3' ≠ 3 →
         Cn Try.prog 53 #[.pointer x0] N2' fun v22' N22' =>
          ∃ x23', asI .i64 v22' = some x23' ∧
          Q (.tuple #[.int .u32 0, .int .i64 (x23')]) N22'))))))))) :
    Cn Try.prog 27 #[.pointer x0, .agg #[.int .i64 x1_0, .int .i64 x1_1, .int .u32 x1_2]] M Q := by
  refine Cn.of b27 d27 t27 ?_
  refine Rn.seq k27_0 (Rn.region k27_1 (fun call K => r27_0) (Rch.leaf (Rn.seq k27_2 (Rn.seq k27_3 (Rn.region k27_4 (fun call K => r27_1) (Rch.bind (x := ⟨2 * M.nb.size, 0, none⟩) rfl (Rch.ex H fun x1' H => Rch.call H fun v2' N2' H => Rch.ex H fun x3' H => Rch.leaf (Rn.block k27_5 ?_))))))))
  refine Rn.seq k27_6 (Rn.region k27_7 (fun call K => r27_2) (Rch.leaf ?_))
  refine Rn.cnd (v := x3' == 0) ⟨c27_8, rfl, by kernel_rfl⟩ (fun h => ?_) (fun h => ?_)
  · replace H := H.1 (eq_of_beq h)
    refine Rn.seq k27_9 (Rn.region k27_10 (fun call K => r27_3) (Rch.bind (x := ⟨2 * M.nb.size, 0, none⟩) rfl (Rch.ex H fun x4' H => Rch.call H fun v5' N5' H => Rch.ex H fun cs6' H => Rch.ex H fun x7' H => Rch.ex H fun x8' H => Rch.leaf ?_)))
    exact Rn.ret k27_11 e27 H
  · replace H := H.2 (ne_of_beq_false h)
    refine Rn.seq k27_13 (Rn.region k27_14 (fun call K => r27_4) (Rch.leaf ?_))
    refine Rn.cnd (v := x3' == 1) ⟨c27_15, rfl, by kernel_rfl⟩ (fun h => ?_) (fun h => ?_)
    · replace H := H.1 (eq_of_beq h)
      refine Rn.seq k27_16 (Rn.region k27_17 (fun call K => r27_5) (Rch.bind (x := ⟨2 * M.nb.size, 0, none⟩) rfl (Rch.ex H fun x9' H => Rch.call H fun v10' N10' H => Rch.ex H fun cs11' H => Rch.ex H fun x12' H => Rch.ex H fun x13' H => Rch.leaf (Rn.seq k27_18 (Rn.region k27_19 (fun call K => r27_6) (Rch.leaf ?_))))))
      exact Rn.ret k27_20 e27 H
    · replace H := H.2 (ne_of_beq_false h)
      refine Rn.seq k27_21 (Rn.region k27_22 (fun call K => r27_7) (Rch.leaf ?_))
      refine Rn.cnd (v := x3' == 2) ⟨c27_23, rfl, by kernel_rfl⟩ (fun h => ?_) (fun h => ?_)
      · replace H := H.1 (eq_of_beq h)
        refine Rn.seq k27_24 (Rn.region k27_25 (fun call K => r27_8) (Rch.call H fun v14' N14' H => Rch.ex H fun cs15' H => Rch.ex H fun x16' H => Rch.ex H fun x17' H => Rch.leaf ?_))
        exact Rn.ret k27_26 e27 H
      · replace H := H.2 (ne_of_beq_false h)
        refine Rn.seq k27_27 (Rn.region k27_28 (fun call K => r27_9) (Rch.leaf ?_))
        refine Rn.cnd (v := x3' == 3) ⟨c27_29, rfl, by kernel_rfl⟩ (fun h => ?_) (fun h => ?_)
        · replace H := H.1 (eq_of_beq h)
          refine Rn.seq k27_30 (Rn.region k27_31 (fun call K => r27_10) (Rch.call H fun v18' N18' H => Rch.ex H fun cs19' H => Rch.ex H fun x20' H => Rch.ex H fun x21' H => Rch.leaf ?_))
          exact Rn.ret k27_32 e27 H
        · replace H := H.2 (ne_of_beq_false h)
          refine Rn.skip k27_33 (Rn.blk (Rn.seq k27_34 (Rn.region k27_35 (fun call K => r27_11) (Rch.call H fun v22' N22' H => Rch.ex H fun x23' H => Rch.leaf ?_))))
          exact Rn.ret k27_36 e27 H


end Go.Zt
