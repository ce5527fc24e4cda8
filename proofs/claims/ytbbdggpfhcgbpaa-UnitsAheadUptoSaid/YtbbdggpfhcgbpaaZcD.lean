/- The functions' walks: for each function and each loop a rule of what it comes to. Printed by zw.py. -/
import Derived.Test.YtbbdggpfhcgbpaaProg
import Derived.Test.YtbbdggpfhcgbpaaZcA
set_option linter.unusedVariables false
set_option maxRecDepth 100000
namespace Go.Zt
open Go Go.Sim Go.Proofs

variable {g0 g1 g2 g3 g4 g5 g6 g7 g8 g9 g10 g11 g12 g13 g14 g15 g16 g17 g18 g19 g20 g21 g22 g23 g24 g25 g26 g27 g28 g29 g30 g31 g32 g33 g34 g35 g36 g37 g38 g39 g40 g41 g42 g43 g44 g45 g46 g47 g48 g49 g50 g51 g52 g53 g54 g55 g56 g57 g58 g59 g60 g61 g62 g63 g64 g65 g66 g67 g68 g69 g70 g71 g72 g73 g74 g75 g76 g77 g78 : Value}
/-! ### zoetrope/zoetroperef00.EqBytes: function 15 -/
noncomputable abbrev P15 (p : List Nat) : Code := subC (codeOf Try.f15) p
noncomputable abbrev O15 (p : List Nat) : Array Oper := opsOf (subC (codeOf Try.f15) p)
theorem b15 : Try.prog.funcs[15]? = some Try.f15 ∧ (Orc.tab Try.prog).lookup 15 = none := ⟨by kernel_rfl, by kernel_rfl⟩
theorem d15 : Try.f15.body = some (P15 []) := by kernel_rfl
theorem t15 {Ax0 : Option Addr} {lx0 cx0 : Nat} {Ax1 : Option Addr} {lx1 cx1 : Nat} : #[.slice Ax0 lx0 cx0,.slice Ax1 lx1 cx1] ++ Array.replicate (Try.f15.ntmps - (#[.slice Ax0 lx0 cx0,.slice Ax1 lx1 cx1] : Array Value).size) undef = #[.slice Ax0 lx0 cx0,.slice Ax1 lx1 cx1,undef,undef,undef,undef,undef,undef,undef,undef,undef,undef,undef,undef,undef,undef,undef,undef,undef,undef,undef,undef,undef,undef,undef,undef] := by kernel_rfl
theorem k15_0 : P15 [] = .seq (P15 [0]) (P15 [1]) := by kernel_rfl
theorem k15_1 : P15 [0] = .region 0 (O15 [0]) false := by kernel_rfl
theorem r15_0 {M : Mem} {call : CallM} {K : Array Value → Mem → R} :
    opsK Try.prog (fun _ => call) (O15 [0]) (O15 [0]).toList 0 #[g0,g1,g2,g3,g4,g5,g6,g7,g8,g9,g10,g11,g12,g13,g14,g15,g16,g17,g18,g19,g20,g21,g22,g23,g24,g25] M K = K #[g0,g1,g2,g3,.bool false,g5,g6,g7,g8,g9,g10,g11,g12,g13,g14,g15,g16,g17,g18,g19,g20,g21,g22,g23,g24,g25] M := by kernel_rfl
theorem k15_2 : P15 [1] = .seq (P15 [1,0]) (P15 [1,1]) := by kernel_rfl
theorem k15_3 : P15 [1,0] = .seq (P15 [1,0,0]) (P15 [1,0,1]) := by kernel_rfl
theorem k15_4 : P15 [1,0,0] = .region 1 (O15 [1,0,0]) false := by kernel_rfl
theorem r15_1 {Ax0 : Option Addr} {lx0 cx0 : Nat} {Ax1 : Option Addr} {lx1 cx1 : Nat} {M : Mem} {call : CallM} {K : Array Value → Mem → R} :
    opsK Try.prog (fun _ => call) (O15 [1,0,0]) (O15 [1,0,0]).toList 0 #[.slice Ax0 lx0 cx0,.slice Ax1 lx1 cx1,g2,g3,g4,g5,g6,g7,g8,g9,g10,g11,g12,g13,g14,g15,g16,g17,g18,g19,g20,g21,g22,g23,g24,g25] M K = K #[.slice Ax0 lx0 cx0,.slice Ax1 lx1 cx1,g2,g3,g4,g5,.slice Ax0 lx0 cx0,.int .i64 ((lx0 : Int)),.slice Ax1 lx1 cx1,.int .i64 ((lx1 : Int)),.bool (((lx0 : Int)) != ((lx1 : Int))),g11,g12,g13,g14,g15,g16,g17,g18,g19,g20,g21,g22,g23,g24,g25] M := by kernel_rfl
theorem c15_5 : P15 [1,0,1] = .cond (.tmp 10) (P15 [1,0,1,0]) (P15 [1,0,1,1]) := by kernel_rfl
theorem k15_6 : P15 [1,0,1,0] = .seq (P15 [1,0,1,0,0]) (P15 [1,0,1,0,1]) := by kernel_rfl
theorem k15_7 : P15 [1,0,1,0,0] = .region 2 (O15 [1,0,1,0,0]) false := by kernel_rfl
theorem r15_2 {M : Mem} {call : CallM} {K : Array Value → Mem → R} :
    opsK Try.prog (fun _ => call) (O15 [1,0,1,0,0]) (O15 [1,0,1,0,0]).toList 0 #[g0,g1,g2,g3,g4,g5,g6,g7,g8,g9,g10,g11,g12,g13,g14,g15,g16,g17,g18,g19,g20,g21,g22,g23,g24,g25] M K = K #[g0,g1,g2,g3,.bool false,g5,g6,g7,g8,g9,g10,g11,g12,g13,g14,g15,g16,g17,g18,g19,g20,g21,g22,g23,g24,g25] M := by kernel_rfl
theorem k15_8 : P15 [1,0,1,0,1] = .ret := by kernel_rfl
theorem e15 {M : Mem} : finish Try.prog Try.f15 #[g0,g1,g2,g3,g4,g5,g6,g7,g8,g9,g10,g11,g12,g13,g14,g15,g16,g17,g18,g19,g20,g21,g22,g23,g24,g25] M = some (g4, M) := by kernel_rfl
theorem k15_10 : P15 [1,0,1,1] = .skip := by kernel_rfl
theorem k15_11 : P15 [1,1] = .seq (P15 [1,1,0]) (P15 [1,1,1]) := by kernel_rfl
theorem k15_12 : P15 [1,1,0] = .seq (P15 [1,1,0,0]) (P15 [1,1,0,1]) := by kernel_rfl
theorem k15_13 : P15 [1,1,0,0] = .region 3 (O15 [1,1,0,0]) false := by kernel_rfl
theorem r15_3 {M : Mem} {call : CallM} {K : Array Value → Mem → R} :
    opsK Try.prog (fun _ => call) (O15 [1,1,0,0]) (O15 [1,1,0,0]).toList 0 #[g0,g1,g2,g3,g4,g5,g6,g7,g8,g9,g10,g11,g12,g13,g14,g15,g16,g17,g18,g19,g20,g21,g22,g23,g24,g25] M K = K #[g0,g1,g2,g3,g4,.int .i64 0,g6,g7,g8,g9,g10,g11,g12,g13,g14,g15,g16,g17,g18,g19,g20,g21,g22,g23,g24,g25] M := by kernel_rfl
theorem k15_14 : P15 [1,1,0,1] = .block 0 (P15 [1,1,0,1,0]) := by kernel_rfl
theorem k15_15 : P15 [1,1,0,1,0] = .loop (P15 [1,1,0,1,0,0]) := by kernel_rfl
theorem k15_16 : P15 [1,1,0,1,0,0] = .seq (P15 [1,1,0,1,0,0,0]) (P15 [1,1,0,1,0,0,1]) := by kernel_rfl
theorem k15_17 : P15 [1,1,0,1,0,0,0] = .seq (P15 [1,1,0,1,0,0,0,0]) (P15 [1,1,0,1,0,0,0,1]) := by kernel_rfl
theorem k15_18 : P15 [1,1,0,1,0,0,0,0] = .region 4 (O15 [1,1,0,1,0,0,0,0]) false := by kernel_rfl
theorem r15_4 {Ax0 : Option Addr} {lx0 cx0 : Nat} {x5 : Int} {M : Mem} {call : CallM} {K : Array Value → Mem → R} :
    opsK Try.prog (fun _ => call) (O15 [1,1,0,1,0,0,0,0]) (O15 [1,1,0,1,0,0,0,0]).toList 0 #[.slice Ax0 lx0 cx0,g1,g2,g3,g4,.int .i64 x5,g6,g7,g8,g9,g10,g11,g12,g13,g14,g15,g16,g17,g18,g19,g20,g21,g22,g23,g24,g25] M K = K #[.slice Ax0 lx0 cx0,g1,g2,g3,g4,.int .i64 x5,g6,g7,g8,g9,g10,.int .i64 x5,.slice Ax0 lx0 cx0,.int .i64 ((lx0 : Int)),.bool (decide (x5 < ((lx0 : Int)))),g15,g16,g17,g18,g19,g20,g21,g22,g23,g24,g25] M := by kernel_rfl
theorem c15_19 : P15 [1,1,0,1,0,0,0,1] = .cond (.tmp 14) (P15 [1,1,0,1,0,0,0,1,0]) (P15 [1,1,0,1,0,0,0,1,1]) := by kernel_rfl
theorem k15_20 : P15 [1,1,0,1,0,0,0,1,0] = .skip := by kernel_rfl
theorem k15_21 : P15 [1,1,0,1,0,0,1] = .seq (P15 [1,1,0,1,0,0,1,0]) (P15 [1,1,0,1,0,0,1,1]) := by kernel_rfl
theorem k15_22 : P15 [1,1,0,1,0,0,1,0] = .block 1 (P15 [1,1,0,1,0,0,1,0,0]) := by kernel_rfl
theorem k15_23 : P15 [1,1,0,1,0,0,1,0,0] = .seq (P15 [1,1,0,1,0,0,1,0,0,0]) (P15 [1,1,0,1,0,0,1,0,0,1]) := by kernel_rfl
theorem k15_24 : P15 [1,1,0,1,0,0,1,0,0,0] = .region 6 (O15 [1,1,0,1,0,0,1,0,0,0]) true ∧ drawOk (O15 [1,1,0,1,0,0,1,0,0,0]) = true := ⟨by kernel_rfl, by kernel_rfl⟩
theorem r15_6 {Ax0 : Option Addr} {lx0 cx0 : Nat} {Ax1 : Option Addr} {lx1 cx1 : Nat} {x5 : Int} {M : Mem} {call : CallM} {K : Array Value → Mem → R} :
    opsI Try.prog (callAt call (O15 [1,1,0,1,0,0,1,0,0,0])) (O15 [1,1,0,1,0,0,1,0,0,0]) (ordOf (O15 [1,1,0,1,0,0,1,0,0,0])) [] #[.slice Ax0 lx0 cx0,.slice Ax1 lx1 cx1,g2,g3,g4,.int .i64 x5,g6,g7,g8,g9,g10,g11,g12,g13,g14,g15,g16,g17,g18,g19,g20,g21,g22,g23,g24,g25] M K = (idxA Ax0 lx0 1 x5).bind fun a_1 => (M.intAt .u8 a_1.block a_1.off).bind fun x_2 => (idxA Ax1 lx1 1 x5).bind fun a_3 => (M.intAt .u8 a_3.block a_3.off).bind fun x_4 => K #[.slice Ax0 lx0 cx0,.slice Ax1 lx1 cx1,g2,g3,g4,.int .i64 x5,g6,g7,g8,g9,g10,g11,g12,g13,g14,g15,g16,.slice Ax0 lx0 cx0,.int .i64 x5,.pointer (some a_1),.int .u8 x_2,.slice Ax1 lx1 cx1,.int .i64 x5,.pointer (some a_3),.int .u8 x_4,.bool (x_2 != x_4)] M := by kernel_rfl
theorem c15_25 : P15 [1,1,0,1,0,0,1,0,0,1] = .cond (.tmp 25) (P15 [1,1,0,1,0,0,1,0,0,1,0]) (P15 [1,1,0,1,0,0,1,0,0,1,1]) := by kernel_rfl
theorem k15_26 : P15 [1,1,0,1,0,0,1,0,0,1,0] = .seq (P15 [1,1,0,1,0,0,1,0,0,1,0,0]) (P15 [1,1,0,1,0,0,1,0,0,1,0,1]) := by kernel_rfl
theorem k15_27 : P15 [1,1,0,1,0,0,1,0,0,1,0,0] = .region 7 (O15 [1,1,0,1,0,0,1,0,0,1,0,0]) false := by kernel_rfl
theorem r15_7 {M : Mem} {call : CallM} {K : Array Value → Mem → R} :
    opsK Try.prog (fun _ => call) (O15 [1,1,0,1,0,0,1,0,0,1,0,0]) (O15 [1,1,0,1,0,0,1,0,0,1,0,0]).toList 0 #[g0,g1,g2,g3,g4,g5,g6,g7,g8,g9,g10,g11,g12,g13,g14,g15,g16,g17,g18,g19,g20,g21,g22,g23,g24,g25] M K = K #[g0,g1,g2,g3,.bool false,g5,g6,g7,g8,g9,g10,g11,g12,g13,g14,g15,g16,g17,g18,g19,g20,g21,g22,g23,g24,g25] M := by kernel_rfl
theorem k15_28 : P15 [1,1,0,1,0,0,1,0,0,1,0,1] = .ret := by kernel_rfl
theorem k15_29 : P15 [1,1,0,1,0,0,1,0,0,1,1] = .skip := by kernel_rfl
theorem k15_30 : P15 [1,1,0,1,0,0,1,1] = .region 5 (O15 [1,1,0,1,0,0,1,1]) false := by kernel_rfl
theorem r15_5 {x5 : Int} {M : Mem} {call : CallM} {K : Array Value → Mem → R} :
    opsK Try.prog (fun _ => call) (O15 [1,1,0,1,0,0,1,1]) (O15 [1,1,0,1,0,0,1,1]).toList 0 #[g0,g1,g2,g3,g4,.int .i64 x5,g6,g7,g8,g9,g10,g11,g12,g13,g14,g15,g16,g17,g18,g19,g20,g21,g22,g23,g24,g25] M K = K #[g0,g1,g2,g3,g4,.int .i64 (IntKind.i64.wrap (x5 + 1)),g6,g7,g8,g9,g10,g11,g12,g13,g14,.int .i64 x5,.int .i64 (IntKind.i64.wrap (x5 + 1)),g17,g18,g19,g20,g21,g22,g23,g24,g25] M := by kernel_rfl
theorem k15_31 : P15 [1,1,0,1,0,0,0,1,1] = .exit 0 := by kernel_rfl
theorem k15_32 : P15 [1,1,1] = .seq (P15 [1,1,1,0]) (P15 [1,1,1,1]) := by kernel_rfl
theorem k15_33 : P15 [1,1,1,0] = .region 8 (O15 [1,1,1,0]) false := by kernel_rfl
theorem r15_8 {M : Mem} {call : CallM} {K : Array Value → Mem → R} :
    opsK Try.prog (fun _ => call) (O15 [1,1,1,0]) (O15 [1,1,1,0]).toList 0 #[g0,g1,g2,g3,g4,g5,g6,g7,g8,g9,g10,g11,g12,g13,g14,g15,g16,g17,g18,g19,g20,g21,g22,g23,g24,g25] M K = K #[g0,g1,g2,g3,.bool true,g5,g6,g7,g8,g9,g10,g11,g12,g13,g14,g15,g16,g17,g18,g19,g20,g21,g22,g23,g24,g25] M := by kernel_rfl
theorem k15_34 : P15 [1,1,1,1] = .ret := by kernel_rfl
noncomputable def S15_1 : List Item := [.code (P15 [1,1,0,1,0,0]), .inLoop (P15 [1,1,0,1,0,0]), .inBlock 0, .code (P15 [1,1,1])]
def A15_1 (Ax0 : Option Addr) (lx0 cx0 : Nat) (Ax1 : Option Addr) (lx1 cx1 : Nat) (x5 : Int) (M : Mem) (Q : Value → Mem → Prop) : Prop := ∀ (g2 g3 g4 g6 g7 g8 g9 g10 g11 g12 g13 g14 g15 g16 g17 g18 g19 g20 g21 g22 g23 g24 g25 : Value), Rn Try.prog Try.f15 S15_1 #[.slice Ax0 lx0 cx0, .slice Ax1 lx1 cx1, g2, g3, g4, .int .i64 x5, g6, g7, g8, g9, g10, g11, g12, g13, g14, g15, g16, g17, g18, g19, g20, g21, g22, g23, g24, g25] M Q
theorem w15_0 {Ax0 : Option Addr} {lx0 cx0 : Nat} {Ax1 : Option Addr} {lx1 cx1 : Nat} {M : Mem} {Q : Value → Mem → Prop} (H :
    ((((lx0 : Int)) ≠ ((lx1 : Int)) →
     Q (.bool false) M) ∧
     (((lx0 : Int)) = ((lx1 : Int)) →
     A15_1 Ax0 lx0 cx0 Ax1 lx1 cx1 0 M Q))) :
    Cn Try.prog 15 #[.slice Ax0 lx0 cx0, .slice Ax1 lx1 cx1] M Q := by
  refine Cn.of b15 d15 t15 ?_
  refine Rn.seq k15_0 (Rn.region k15_1 (fun call K => r15_0) (Rch.leaf (Rn.seq k15_2 (Rn.seq k15_3 (Rn.region k15_4 (fun call K => r15_1) (Rch.leaf ?_))))))
  refine Rn.cnd (v := ((lx0 : Int)) != ((lx1 : Int))) ⟨c15_5, rfl, by kernel_rfl⟩ (fun h => ?_) (fun h => ?_)
  · replace H := H.1 (ne_of_bneT h)
    refine Rn.seq k15_6 (Rn.region k15_7 (fun call K => r15_2) (Rch.leaf ?_))
    exact Rn.ret k15_8 e15 H
  · replace H := H.2 (eq_of_bneF h)
    refine Rn.skip k15_10 (Rn.seq k15_11 (Rn.seq k15_12 (Rn.region k15_13 (fun call K => r15_3) (Rch.leaf (Rn.block k15_14 (Rn.loop k15_15 ?_))))))
    exact H _ _ _ _ _ _ _ _ _ _ _ _ _ _ _ _ _ _ _ _ _ _ _

theorem w15_1 {Ax0 : Option Addr} {lx0 cx0 : Nat} {Ax1 : Option Addr} {lx1 cx1 : Nat} {x5 : Int} {M : Mem} {Q : Value → Mem → Prop} (H :
    ((x5 < ((lx0 : Int)) →
     ∃ a1', idxA Ax0 lx0 1 x5 = some a1' ∧
     ∃ x2', M.intAt .u8 a1'.block a1'.off = some x2' ∧
     ∃ a3', idxA Ax1 lx1 1 x5 = some a3' ∧
     ∃ x4', M.intAt .u8 a3'.block a3'.off = some x4' ∧
     ((x2' ≠ x4' →
      Q (.bool false) M) ∧
      (x2' = x4' →
      A15_1 Ax0 lx0 cx0 Ax1 lx1 cx1 (IntKind.i64.wrap (x5 + 1)) M Q))) ∧
     (¬ (x5 < ((lx0 : Int))) →
     Q (.bool true) M))) :
    A15_1 Ax0 lx0 cx0 Ax1 lx1 cx1 x5 M Q := by
  intro g2 g3 g4 g6 g7 g8 g9 g10 g11 g12 g13 g14 g15 g16 g17 g18 g19 g20 g21 g22 g23 g24 g25
  refine Rn.seq k15_16 (Rn.seq k15_17 (Rn.region k15_18 (fun call K => r15_4) (Rch.leaf ?_)))
  refine Rn.cnd (v := decide (x5 < ((lx0 : Int)))) ⟨c15_19, rfl, by kernel_rfl⟩ (fun h => ?_) (fun h => ?_)
  · replace H := H.1 (of_decide_eq_true h)
    refine Rn.skip k15_20 (Rn.seq k15_21 (Rn.block k15_22 (Rn.seq k15_23 (Rn.regionD k15_24 (fun call K => r15_6) (Rch.ex H fun a1' H => Rch.ex H fun x2' H => Rch.ex H fun a3' H => Rch.ex H fun x4' H => Rch.leaf ?_)))))
    refine Rn.cnd (v := x2' != x4') ⟨c15_25, rfl, by kernel_rfl⟩ (fun h => ?_) (fun h => ?_)
    · replace H := H.1 (ne_of_bneT h)
      refine Rn.seq k15_26 (Rn.region k15_27 (fun call K => r15_7) (Rch.leaf ?_))
      exact Rn.ret k15_28 e15 H
    · replace H := H.2 (eq_of_bneF h)
      refine Rn.skip k15_29 (Rn.blk (Rn.region k15_30 (fun call K => r15_5) (Rch.leaf (Rn.lp ?_))))
      exact H _ _ _ _ _ _ _ _ _ _ _ _ _ _ _ _ _ _ _ _ _ _ _
  · replace H := H.2 (of_decide_eq_false h)
    refine Rn.exit k15_31 rfl (Rn.seq k15_32 (Rn.region k15_33 (fun call K => r15_8) (Rch.leaf ?_)))
    exact Rn.ret k15_34 e15 H


/-! ### zoetrope/zoetroperef00.CopyBytes: function 10 -/
noncomputable abbrev P10 (p : List Nat) : Code := subC (codeOf Try.f10) p
noncomputable abbrev O10 (p : List Nat) : Array Oper := opsOf (subC (codeOf Try.f10) p)
theorem b10 : Try.prog.funcs[10]? = some Try.f10 ∧ (Orc.tab Try.prog).lookup 10 = none := ⟨by kernel_rfl, by kernel_rfl⟩
theorem d10 : Try.f10.body = some (P10 []) := by kernel_rfl
theorem t10 {Ax0 : Option Addr} {lx0 cx0 : Nat} : #[.slice Ax0 lx0 cx0] ++ Array.replicate (Try.f10.ntmps - (#[.slice Ax0 lx0 cx0] : Array Value).size) undef = #[.slice Ax0 lx0 cx0,undef,undef,undef,undef,undef,undef,undef] := by kernel_rfl
theorem k10_0 : P10 [] = .seq (P10 [0]) (P10 [1]) := by kernel_rfl
theorem k10_1 : P10 [0] = .region 0 (O10 [0]) false := by kernel_rfl
theorem r10_0 {M : Mem} {call : CallM} {K : Array Value → Mem → R} :
    opsK Try.prog (fun _ => call) (O10 [0]) (O10 [0]).toList 0 #[g0,g1,g2,g3,g4,g5,g6,g7] M K = K #[g0,g1,.slice none 0 0,g3,g4,g5,g6,g7] M := by kernel_rfl
theorem k10_2 : P10 [1] = .seq (P10 [1,0]) (P10 [1,1]) := by kernel_rfl
theorem k10_3 : P10 [1,0] = .region 1 (O10 [1,0]) false := by kernel_rfl
theorem r10_1 {M : Mem} {call : CallM} {K : Array Value → Mem → R} :
    opsK Try.prog (fun _ => call) (O10 [1,0]) (O10 [1,0]).toList 0 #[g0,g1,g2,g3,g4,g5,g6,g7] M K = K #[g0,g1,g2,.slice none 0 0,g4,g5,g6,g7] M := by kernel_rfl
theorem k10_4 : P10 [1,1] = .seq (P10 [1,1,0]) (P10 [1,1,1]) := by kernel_rfl
theorem k10_5 : P10 [1,1,0] = .region 2 (O10 [1,1,0]) false := by kernel_rfl
theorem r10_2 {Ax0 : Option Addr} {lx0 cx0 : Nat} {Ax3 : Option Addr} {lx3 cx3 : Nat} {M : Mem} {call : CallM} {K : Array Value → Mem → R} :
    opsK Try.prog (fun _ => call) (O10 [1,1,0]) (O10 [1,1,0]).toList 0 #[.slice Ax0 lx0 cx0,g1,g2,.slice Ax3 lx3 cx3,g4,g5,g6,g7] M K = (appendP Try.prog #[22, 22] (.slice Ax3 lx3 cx3) (.slice Ax0 lx0 cx0) M).bind fun r_1 => (asS r_1.1).bind fun s_2 => K #[.slice Ax0 lx0 cx0,g1,g2,.slice s_2.1 (s_2.2.1) (s_2.2.2),.slice Ax3 lx3 cx3,.slice Ax0 lx0 cx0,.slice s_2.1 (s_2.2.1) (s_2.2.2),g7] r_1.2 := by kernel_rfl
theorem k10_6 : P10 [1,1,1] = .seq (P10 [1,1,1,0]) (P10 [1,1,1,1]) := by kernel_rfl
theorem k10_7 : P10 [1,1,1,0] = .region 3 (O10 [1,1,1,0]) false := by kernel_rfl
theorem r10_3 {Ax3 : Option Addr} {lx3 cx3 : Nat} {M : Mem} {call : CallM} {K : Array Value → Mem → R} :
    opsK Try.prog (fun _ => call) (O10 [1,1,1,0]) (O10 [1,1,1,0]).toList 0 #[g0,g1,g2,.slice Ax3 lx3 cx3,g4,g5,g6,g7] M K = K #[g0,g1,.slice Ax3 lx3 cx3,.slice Ax3 lx3 cx3,g4,g5,g6,.slice Ax3 lx3 cx3] M := by kernel_rfl
theorem k10_8 : P10 [1,1,1,1] = .ret := by kernel_rfl
theorem e10 {M : Mem} : finish Try.prog Try.f10 #[g0,g1,g2,g3,g4,g5,g6,g7] M = some (g2, M) := by kernel_rfl
theorem w10_0 {Ax0 : Option Addr} {lx0 cx0 : Nat} {M : Mem} {Q : Value → Mem → Prop} (H :
    ∃ r1', appendP Try.prog #[22, 22] (.slice none 0 0) (.slice Ax0 lx0 cx0) M = some r1' ∧
    ∃ s2', asS r1'.1 = some s2' ∧
    Q (.slice s2'.1 (s2'.2.1) (s2'.2.2)) r1'.2) :
    Cn Try.prog 10 #[.slice Ax0 lx0 cx0] M Q := by
  refine Cn.of b10 d10 t10 ?_
  refine Rn.seq k10_0 (Rn.region k10_1 (fun call K => r10_0) (Rch.leaf (Rn.seq k10_2 (Rn.region k10_3 (fun call K => r10_1) (Rch.leaf (Rn.seq k10_4 (Rn.region k10_5 (fun call K => r10_2) (Rch.ex H fun r1' H => Rch.ex H fun s2' H => Rch.leaf (Rn.seq k10_6 ?_)))))))))
  refine Rn.region k10_7 (fun call K => r10_3) (Rch.leaf ?_)
  exact Rn.ret k10_8 e10 H


/-! ### zoetrope/zoetroperef00.Bring: function 23 -/
noncomputable abbrev P23 (p : List Nat) : Code := subC (codeOf Try.f23) p
noncomputable abbrev O23 (p : List Nat) : Array Oper := opsOf (subC (codeOf Try.f23) p)
theorem b23 : Try.prog.funcs[23]? = some Try.f23 ∧ (Orc.tab Try.prog).lookup 23 = none := ⟨by kernel_rfl, by kernel_rfl⟩
theorem d23 : Try.f23.body = some (P23 []) := by kernel_rfl
theorem t23 {x0 x1 : Int} : #[.int .i64 x0,.int .i64 x1] ++ Array.replicate (Try.f23.ntmps - (#[.int .i64 x0,.int .i64 x1] : Array Value).size) undef = #[.int .i64 x0,.int .i64 x1,undef,undef,undef,undef,undef,undef,undef,undef,undef,undef,undef,undef,undef,undef] := by kernel_rfl
theorem k23_0 : P23 [] = .seq (P23 [0]) (P23 [1]) := by kernel_rfl
theorem k23_1 : P23 [0] = .region 0 (O23 [0]) false := by kernel_rfl
theorem r23_0 {M : Mem} {call : CallM} {K : Array Value → Mem → R} :
    opsK Try.prog (fun _ => call) (O23 [0]) (O23 [0]).toList 0 #[g0,g1,g2,g3,g4,g5,g6,g7,g8,g9,g10,g11,g12,g13,g14,g15] M K = K #[g0,g1,g2,g3,.int .i64 0,g5,g6,g7,g8,g9,g10,g11,g12,g13,g14,g15] M := by kernel_rfl
theorem k23_2 : P23 [1] = .seq (P23 [1,0]) (P23 [1,1]) := by kernel_rfl
theorem k23_3 : P23 [1,0] = .seq (P23 [1,0,0]) (P23 [1,0,1]) := by kernel_rfl
theorem k23_4 : P23 [1,0,0] = .region 1 (O23 [1,0,0]) false := by kernel_rfl
theorem r23_1 {x1 : Int} {M : Mem} {call : CallM} {K : Array Value → Mem → R} :
    opsK Try.prog (fun _ => call) (O23 [1,0,0]) (O23 [1,0,0]).toList 0 #[g0,.int .i64 x1,g2,g3,g4,g5,g6,g7,g8,g9,g10,g11,g12,g13,g14,g15] M K = K #[g0,.int .i64 x1,g2,g3,g4,.int .i64 x1,.bool (decide (x1 ≤ 0)),g7,g8,g9,g10,g11,g12,g13,g14,g15] M := by kernel_rfl
theorem c23_5 : P23 [1,0,1] = .cond (.tmp 6) (P23 [1,0,1,0]) (P23 [1,0,1,1]) := by kernel_rfl
theorem k23_6 : P23 [1,0,1,0] = .seq (P23 [1,0,1,0,0]) (P23 [1,0,1,0,1]) := by kernel_rfl
theorem k23_7 : P23 [1,0,1,0,0] = .region 2 (O23 [1,0,1,0,0]) false := by kernel_rfl
theorem r23_2 {M : Mem} {call : CallM} {K : Array Value → Mem → R} :
    opsK Try.prog (fun _ => call) (O23 [1,0,1,0,0]) (O23 [1,0,1,0,0]).toList 0 #[g0,g1,g2,g3,g4,g5,g6,g7,g8,g9,g10,g11,g12,g13,g14,g15] M K = K #[g0,g1,g2,g3,.int .i64 0,g5,g6,g7,g8,g9,g10,g11,g12,g13,g14,g15] M := by kernel_rfl
theorem k23_8 : P23 [1,0,1,0,1] = .ret := by kernel_rfl
theorem e23 {M : Mem} : finish Try.prog Try.f23 #[g0,g1,g2,g3,g4,g5,g6,g7,g8,g9,g10,g11,g12,g13,g14,g15] M = some (g4, M) := by kernel_rfl
theorem k23_10 : P23 [1,0,1,1] = .skip := by kernel_rfl
theorem k23_11 : P23 [1,1] = .seq (P23 [1,1,0]) (P23 [1,1,1]) := by kernel_rfl
theorem k23_12 : P23 [1,1,0] = .region 3 (O23 [1,1,0]) false := by kernel_rfl
theorem r23_3 {x0 x1 : Int} {M : Mem} {call : CallM} {K : Array Value → Mem → R} :
    opsK Try.prog (fun _ => call) (O23 [1,1,0]) (O23 [1,1,0]).toList 0 #[.int .i64 x0,.int .i64 x1,g2,g3,g4,g5,g6,g7,g8,g9,g10,g11,g12,g13,g14,g15] M K = (binV Try.prog .rem 3 3 (.int .i64 x0) (.int .i64 x1)).bind fun v_1 => (asI .i64 v_1).bind fun x_2 => K #[.int .i64 x_2,.int .i64 x1,g2,g3,g4,g5,g6,.int .i64 x0,.int .i64 x1,.int .i64 x_2,g10,g11,g12,g13,g14,g15] M := by kernel_rfl
theorem k23_13 : P23 [1,1,1] = .seq (P23 [1,1,1,0]) (P23 [1,1,1,1]) := by kernel_rfl
theorem k23_14 : P23 [1,1,1,0] = .seq (P23 [1,1,1,0,0]) (P23 [1,1,1,0,1]) := by kernel_rfl
theorem k23_15 : P23 [1,1,1,0,0] = .region 4 (O23 [1,1,1,0,0]) false := by kernel_rfl
theorem r23_4 {x0 : Int} {M : Mem} {call : CallM} {K : Array Value → Mem → R} :
    opsK Try.prog (fun _ => call) (O23 [1,1,1,0,0]) (O23 [1,1,1,0,0]).toList 0 #[.int .i64 x0,g1,g2,g3,g4,g5,g6,g7,g8,g9,g10,g11,g12,g13,g14,g15] M K = K #[.int .i64 x0,g1,g2,g3,g4,g5,g6,g7,g8,g9,.int .i64 x0,.bool (decide (x0 < 0)),g12,g13,g14,g15] M := by kernel_rfl
theorem c23_16 : P23 [1,1,1,0,1] = .cond (.tmp 11) (P23 [1,1,1,0,1,0]) (P23 [1,1,1,0,1,1]) := by kernel_rfl
theorem k23_17 : P23 [1,1,1,0,1,0] = .region 5 (O23 [1,1,1,0,1,0]) false := by kernel_rfl
theorem r23_5 {x0 x1 : Int} {M : Mem} {call : CallM} {K : Array Value → Mem → R} :
    opsK Try.prog (fun _ => call) (O23 [1,1,1,0,1,0]) (O23 [1,1,1,0,1,0]).toList 0 #[.int .i64 x0,.int .i64 x1,g2,g3,g4,g5,g6,g7,g8,g9,g10,g11,g12,g13,g14,g15] M K = K #[.int .i64 (IntKind.i64.wrap (x0 + x1)),.int .i64 x1,g2,g3,g4,g5,g6,g7,g8,g9,g10,g11,.int .i64 x0,.int .i64 x1,.int .i64 (IntKind.i64.wrap (x0 + x1)),g15] M := by kernel_rfl
theorem k23_18 : P23 [1,1,1,1] = .seq (P23 [1,1,1,1,0]) (P23 [1,1,1,1,1]) := by kernel_rfl
theorem k23_19 : P23 [1,1,1,1,0] = .region 6 (O23 [1,1,1,1,0]) false := by kernel_rfl
theorem r23_6 {x0 : Int} {M : Mem} {call : CallM} {K : Array Value → Mem → R} :
    opsK Try.prog (fun _ => call) (O23 [1,1,1,1,0]) (O23 [1,1,1,1,0]).toList 0 #[.int .i64 x0,g1,g2,g3,g4,g5,g6,g7,g8,g9,g10,g11,g12,g13,g14,g15] M K = K #[.int .i64 x0,g1,g2,g3,.int .i64 x0,g5,g6,g7,g8,g9,g10,g11,g12,g13,g14,.int .i64 x0] M := by kernel_rfl
theorem k23_20 : P23 [1,1,1,1,1] = .ret := by kernel_rfl
theorem k23_21 : P23 [1,1,1,0,1,1] = .skip := by kernel_rfl
theorem w23_0 {x0 x1 : Int} {M : Mem} {Q : Value → Mem → Prop} (H :
    ((x1 ≤ 0 →
     Q (.int .i64 0) M) ∧
     (¬ (x1 ≤ 0) →
     ∃ v1', binV Try.prog .rem 3 3 (.int .i64 x0) (.int .i64 x1) = some v1' ∧
     ∃ x2', asI .i64 v1' = some x2' ∧
     ((x2' < 0 →
      Q (.int .i64 (IntKind.i64.wrap (x2' + x1))) M) ∧
      (¬ (x2' < 0) →
      Q (.int .i64 (x2')) M))))) :
    Cn Try.prog 23 #[.int .i64 x0, .int .i64 x1] M Q := by
  refine Cn.of b23 d23 t23 ?_
  refine Rn.seq k23_0 (Rn.region k23_1 (fun call K => r23_0) (Rch.leaf (Rn.seq k23_2 (Rn.seq k23_3 (Rn.region k23_4 (fun call K => r23_1) (Rch.leaf ?_))))))
  refine Rn.cnd (v := decide (x1 ≤ 0)) ⟨c23_5, rfl, by kernel_rfl⟩ (fun h => ?_) (fun h => ?_)
  · replace H := H.1 (of_decide_eq_true h)
    refine Rn.seq k23_6 (Rn.region k23_7 (fun call K => r23_2) (Rch.leaf ?_))
    exact Rn.ret k23_8 e23 H
  · replace H := H.2 (of_decide_eq_false h)
    refine Rn.skip k23_10 (Rn.seq k23_11 (Rn.region k23_12 (fun call K => r23_3) (Rch.ex H fun v1' H => Rch.ex H fun x2' H => Rch.leaf (Rn.seq k23_13 (Rn.seq k23_14 (Rn.region k23_15 (fun call K => r23_4) (Rch.leaf ?_)))))))
    refine Rn.cnd (v := decide (x2' < 0)) ⟨c23_16, rfl, by kernel_rfl⟩ (fun h => ?_) (fun h => ?_)
    · replace H := H.1 (of_decide_eq_true h)
      refine Rn.region k23_17 (fun call K => r23_5) (Rch.leaf (Rn.seq k23_18 (Rn.region k23_19 (fun call K => r23_6) (Rch.leaf ?_))))
      exact Rn.ret k23_20 e23 H
    · replace H := H.2 (of_decide_eq_false h)
      refine Rn.skip k23_21 (Rn.seq k23_18 (Rn.region k23_19 (fun call K => r23_6) (Rch.leaf ?_)))
      exact Rn.ret k23_20 e23 H


/-! ### zoetrope/units.known: function 29 -/
noncomputable abbrev P29 (p : List Nat) : Code := subC (codeOf Try.f29) p
noncomputable abbrev O29 (p : List Nat) : Array Oper := opsOf (subC (codeOf Try.f29) p)
theorem b29 : Try.prog.funcs[29]? = some Try.f29 ∧ (Orc.tab Try.prog).lookup 29 = none := ⟨by kernel_rfl, by kernel_rfl⟩
theorem d29 : Try.f29.body = some (P29 []) := by kernel_rfl
theorem t29 {x0 : Int} : #[.int .i64 x0] ++ Array.replicate (Try.f29.ntmps - (#[.int .i64 x0] : Array Value).size) undef = #[.int .i64 x0,undef,undef,undef,undef,undef,undef,undef,undef] := by kernel_rfl
theorem k29_0 : P29 [] = .seq (P29 [0]) (P29 [1]) := by kernel_rfl
theorem k29_1 : P29 [0] = .region 0 (O29 [0]) false := by kernel_rfl
theorem r29_0 {M : Mem} {call : CallM} {K : Array Value → Mem → R} :
    opsK Try.prog (fun _ => call) (O29 [0]) (O29 [0]).toList 0 #[g0,g1,g2,g3,g4,g5,g6,g7,g8] M K = K #[g0,g1,.bool false,g3,g4,g5,g6,g7,g8] M := by kernel_rfl
theorem k29_2 : P29 [1] = .seq (P29 [1,0]) (P29 [1,1]) := by kernel_rfl
theorem k29_3 : P29 [1,0] = .region 1 (O29 [1,0]) false := by kernel_rfl
theorem r29_1 {x0 : Int} {M : Mem} {call : CallM} {K : Array Value → Mem → R} :
    opsK Try.prog (fun _ => call) (O29 [1,0]) (O29 [1,0]).toList 0 #[.int .i64 x0,g1,g2,g3,g4,g5,g6,g7,g8] M K = withK (fun w2 w5 w6 w7 w8 M => K #[.int .i64 x0,g1,w2,.int .i64 x0,.bool (decide (x0 ≥ 1)),w5,w6,w7,w8] M) fun k => cond (decide (x0 ≥ 1)) (k (.bool (decide (x0 ≤ 3))) (.bool true) (.int .i64 x0) (.bool (decide (x0 ≤ 3))) (.bool (decide (x0 ≤ 3))) M) (k (.bool false) (.bool false) undef undef (.bool false) M) := by kernel_rfl
theorem k29_4 : P29 [1,1] = .ret := by kernel_rfl
theorem e29 {M : Mem} : finish Try.prog Try.f29 #[g0,g1,g2,g3,g4,g5,g6,g7,g8] M = some (g2, M) := by kernel_rfl
theorem w29_0 {x0 : Int} {M : Mem} {Q : Value → Mem → Prop} (H :
    ((x0 ≥ 1 →
     Q (.bool (decide (x0 ≤ 3))) M) ∧
     (¬ (x0 ≥ 1) →
     Q (.bool false) M))) :
    Cn Try.prog 29 #[.int .i64 x0] M Q := by
  refine Cn.of b29 d29 t29 ?_
  refine Rn.seq k29_0 (Rn.region k29_1 (fun call K => r29_0) (Rch.leaf (Rn.seq k29_2 (Rn.region k29_3 (fun call K => r29_1) ?_))))
  refine Rch.cB (fun h => ?_) (fun h => ?_)
  · replace H := H.1 (of_decide_eq_true h)
    refine Rch.leaf ?_
    exact Rn.ret k29_4 e29 H
  · replace H := H.2 (of_decide_eq_false h)
    refine Rch.leaf ?_
    exact Rn.ret k29_4 e29 H


/-! ### zoetrope/units.piece: function 27 -/
noncomputable abbrev P27 (p : List Nat) : Code := subC (codeOf Try.f27) p
noncomputable abbrev O27 (p : List Nat) : Array Oper := opsOf (subC (codeOf Try.f27) p)
theorem b27 : Try.prog.funcs[27]? = some Try.f27 ∧ (Orc.tab Try.prog).lookup 27 = none := ⟨by kernel_rfl, by kernel_rfl⟩
theorem d27 : Try.f27.body = some (P27 []) := by kernel_rfl
theorem t27 {Ax0 : Option Addr} {lx0 cx0 : Nat} : #[.slice Ax0 lx0 cx0] ++ Array.replicate (Try.f27.ntmps - (#[.slice Ax0 lx0 cx0] : Array Value).size) undef = #[.slice Ax0 lx0 cx0,undef,undef,undef,undef,undef,undef,undef,undef,undef,undef,undef,undef,undef,undef,undef,undef,undef,undef,undef,undef,undef,undef,undef,undef,undef,undef,undef,undef,undef,undef,undef,undef,undef,undef,undef,undef,undef,undef,undef,undef,undef,undef,undef,undef,undef,undef,undef,undef,undef,undef,undef,undef,undef,undef,undef,undef,undef,undef,undef,undef,undef,undef,undef,undef,undef,undef,undef,undef,undef,undef,undef,undef,undef,undef,undef,undef,undef,undef] := by kernel_rfl
theorem k27_0 : P27 [] = .seq (P27 [0]) (P27 [1]) := by kernel_rfl
theorem k27_1 : P27 [0] = .region 0 (O27 [0]) false := by kernel_rfl
theorem r27_0 {M : Mem} {call : CallM} {K : Array Value → Mem → R} :
    opsK Try.prog (fun _ => call) (O27 [0]) (O27 [0]).toList 0 #[g0,g1,g2,g3,g4,g5,g6,g7,g8,g9,g10,g11,g12,g13,g14,g15,g16,g17,g18,g19,g20,g21,g22,g23,g24,g25,g26,g27,g28,g29,g30,g31,g32,g33,g34,g35,g36,g37,g38,g39,g40,g41,g42,g43,g44,g45,g46,g47,g48,g49,g50,g51,g52,g53,g54,g55,g56,g57,g58,g59,g60,g61,g62,g63,g64,g65,g66,g67,g68,g69,g70,g71,g72,g73,g74,g75,g76,g77,g78] M K = K #[g0,g1,.pointer (some ⟨2 * M.nb.size, 0, none⟩),.int .i64 0,.int .i64 0,g5,g6,g7,g8,g9,g10,g11,g12,g13,g14,g15,g16,g17,g18,g19,g20,g21,g22,g23,g24,g25,g26,g27,g28,g29,g30,g31,g32,g33,g34,g35,g36,g37,g38,g39,g40,g41,g42,g43,g44,g45,g46,g47,g48,g49,g50,g51,g52,g53,g54,g55,g56,g57,g58,g59,g60,g61,g62,g63,g64,g65,g66,g67,g68,g69,g70,g71,g72,g73,g74,g75,g76,g77,g78] (M.new (.cells #[.int .i64 0, .slice none 0 0] 44)) := by kernel_rfl
theorem k27_2 : P27 [1] = .seq (P27 [1,0]) (P27 [1,1]) := by kernel_rfl
theorem k27_3 : P27 [1,0] = .seq (P27 [1,0,0]) (P27 [1,0,1]) := by kernel_rfl
theorem k27_4 : P27 [1,0,0] = .region 1 (O27 [1,0,0]) false := by kernel_rfl
theorem r27_1 {Ax0 : Option Addr} {lx0 cx0 : Nat} {M : Mem} {call : CallM} {K : Array Value → Mem → R} :
    opsK Try.prog (fun _ => call) (O27 [1,0,0]) (O27 [1,0,0]).toList 0 #[.slice Ax0 lx0 cx0,g1,g2,g3,g4,g5,g6,g7,g8,g9,g10,g11,g12,g13,g14,g15,g16,g17,g18,g19,g20,g21,g22,g23,g24,g25,g26,g27,g28,g29,g30,g31,g32,g33,g34,g35,g36,g37,g38,g39,g40,g41,g42,g43,g44,g45,g46,g47,g48,g49,g50,g51,g52,g53,g54,g55,g56,g57,g58,g59,g60,g61,g62,g63,g64,g65,g66,g67,g68,g69,g70,g71,g72,g73,g74,g75,g76,g77,g78] M K = K #[.slice Ax0 lx0 cx0,g1,g2,g3,g4,g5,g6,g7,g8,.slice Ax0 lx0 cx0,.int .i64 ((lx0 : Int)),.bool (((lx0 : Int)) == 0),g12,g13,g14,g15,g16,g17,g18,g19,g20,g21,g22,g23,g24,g25,g26,g27,g28,g29,g30,g31,g32,g33,g34,g35,g36,g37,g38,g39,g40,g41,g42,g43,g44,g45,g46,g47,g48,g49,g50,g51,g52,g53,g54,g55,g56,g57,g58,g59,g60,g61,g62,g63,g64,g65,g66,g67,g68,g69,g70,g71,g72,g73,g74,g75,g76,g77,g78] M := by kernel_rfl
theorem c27_5 : P27 [1,0,1] = .cond (.tmp 11) (P27 [1,0,1,0]) (P27 [1,0,1,1]) := by kernel_rfl
theorem k27_6 : P27 [1,0,1,0] = .seq (P27 [1,0,1,0,0]) (P27 [1,0,1,0,1]) := by kernel_rfl
theorem k27_7 : P27 [1,0,1,0,0] = .region 2 (O27 [1,0,1,0,0]) false := by kernel_rfl
theorem r27_2 {x2 : Option Addr} {M : Mem} {call : CallM} {K : Array Value → Mem → R} :
    opsK Try.prog (fun _ => call) (O27 [1,0,1,0,0]) (O27 [1,0,1,0,0]).toList 0 #[g0,g1,.pointer x2,g3,g4,g5,g6,g7,g8,g9,g10,g11,g12,g13,g14,g15,g16,g17,g18,g19,g20,g21,g22,g23,g24,g25,g26,g27,g28,g29,g30,g31,g32,g33,g34,g35,g36,g37,g38,g39,g40,g41,g42,g43,g44,g45,g46,g47,g48,g49,g50,g51,g52,g53,g54,g55,g56,g57,g58,g59,g60,g61,g62,g63,g64,g65,g66,g67,g68,g69,g70,g71,g72,g73,g74,g75,g76,g77,g78] M K = (x2).bind fun a_1 => (M.intAt .i64 a_1.block a_1.off).bind fun x_2 => (M.slAt a_1.block (a_1.off + 1)).bind fun s_3 => (x2).bind fun a_4 => (M.put a_4.block a_4.off (.int .i64 x_2)).bind fun M_5 => (M_5.put a_4.block (a_4.off + 1) (.slice s_3.1 (s_3.2.1) (s_3.2.2))).bind fun M_6 => K #[g0,g1,.pointer x2,.int .i64 0,.int .i64 3,g5,g6,g7,g8,g9,g10,g11,.agg #[.int .i64 x_2, .slice s_3.1 (s_3.2.1) (s_3.2.2)],g13,g14,g15,g16,g17,g18,g19,g20,g21,g22,g23,g24,g25,g26,g27,g28,g29,g30,g31,g32,g33,g34,g35,g36,g37,g38,g39,g40,g41,g42,g43,g44,g45,g46,g47,g48,g49,g50,g51,g52,g53,g54,g55,g56,g57,g58,g59,g60,g61,g62,g63,g64,g65,g66,g67,g68,g69,g70,g71,g72,g73,g74,g75,g76,g77,g78] M_6 := by kernel_rfl
theorem k27_8 : P27 [1,0,1,0,1] = .ret := by kernel_rfl
theorem e27_0 {x2 : Option Addr} {x3 x4 : Int} {M : Mem} {K : List Value → R} : resK Try.prog #[g0,g1,.pointer x2,.int .i64 x3,.int .i64 x4,g5,g6,g7,g8,g9,g10,g11,g12,g13,g14,g15,g16,g17,g18,g19,g20,g21,g22,g23,g24,g25,g26,g27,g28,g29,g30,g31,g32,g33,g34,g35,g36,g37,g38,g39,g40,g41,g42,g43,g44,g45,g46,g47,g48,g49,g50,g51,g52,g53,g54,g55,g56,g57,g58,g59,g60,g61,g62,g63,g64,g65,g66,g67,g68,g69,g70,g71,g72,g73,g74,g75,g76,g77,g78] M (Try.f27).results.toList K = (x2).bind fun a_1 => (M.intAt .i64 a_1.block a_1.off).bind fun x_2 => (M.slAt a_1.block (a_1.off + 1)).bind fun s_3 => K [.agg #[.int .i64 x_2, .slice s_3.1 (s_3.2.1) (s_3.2.2)], .int .i64 x3, .int .i64 x4] := by kernel_rfl
theorem k27_10 : P27 [1,0,1,1] = .skip := by kernel_rfl
theorem k27_11 : P27 [1,1] = .seq (P27 [1,1,0]) (P27 [1,1,1]) := by kernel_rfl
theorem k27_12 : P27 [1,1,0] = .region 3 (O27 [1,1,0]) false := by kernel_rfl
theorem r27_3 {Ax0 : Option Addr} {lx0 cx0 : Nat} {x2 : Option Addr} {M : Mem} {call : CallM} {K : Array Value → Mem → R} :
    opsK Try.prog (fun _ => call) (O27 [1,1,0]) (O27 [1,1,0]).toList 0 #[.slice Ax0 lx0 cx0,g1,.pointer x2,g3,g4,g5,g6,g7,g8,g9,g10,g11,g12,g13,g14,g15,g16,g17,g18,g19,g20,g21,g22,g23,g24,g25,g26,g27,g28,g29,g30,g31,g32,g33,g34,g35,g36,g37,g38,g39,g40,g41,g42,g43,g44,g45,g46,g47,g48,g49,g50,g51,g52,g53,g54,g55,g56,g57,g58,g59,g60,g61,g62,g63,g64,g65,g66,g67,g68,g69,g70,g71,g72,g73,g74,g75,g76,g77,g78] M K = (idxA Ax0 lx0 1 0).bind fun a_1 => (M.intAt .u8 a_1.block a_1.off).bind fun x_2 => (x2).bind fun a_3 => (M.put a_3.block a_3.off (.int .i64 (IntKind.i64.wrap (IntKind.u8.wrap (x_2.tdiv 16))))).bind fun M_4 => K #[.slice Ax0 lx0 cx0,g1,.pointer x2,g3,g4,g5,g6,g7,g8,g9,g10,g11,g12,.slice Ax0 lx0 cx0,.pointer (some a_1),.int .u8 x_2,.int .u8 (IntKind.u8.wrap (x_2.tdiv 16)),.int .i64 (IntKind.i64.wrap (IntKind.u8.wrap (x_2.tdiv 16))),.pointer (some ⟨a_3.block, a_3.off, none⟩),g19,g20,g21,g22,g23,g24,g25,g26,g27,g28,g29,g30,g31,g32,g33,g34,g35,g36,g37,g38,g39,g40,g41,g42,g43,g44,g45,g46,g47,g48,g49,g50,g51,g52,g53,g54,g55,g56,g57,g58,g59,g60,g61,g62,g63,g64,g65,g66,g67,g68,g69,g70,g71,g72,g73,g74,g75,g76,g77,g78] M_4 := by kernel_rfl
theorem k27_13 : P27 [1,1,1] = .seq (P27 [1,1,1,0]) (P27 [1,1,1,1]) := by kernel_rfl
theorem k27_14 : P27 [1,1,1,0] = .seq (P27 [1,1,1,0,0]) (P27 [1,1,1,0,1]) := by kernel_rfl
theorem k27_15 : P27 [1,1,1,0,0] = .region 4 (O27 [1,1,1,0,0]) false := by kernel_rfl
theorem r27_4 {Ax0 : Option Addr} {lx0 cx0 : Nat} {x2 : Option Addr} {M : Mem} {call : CallM} {K : Array Value → Mem → R} :
    opsK Try.prog (fun _ => call) (O27 [1,1,1,0,0]) (O27 [1,1,1,0,0]).toList 0 #[.slice Ax0 lx0 cx0,g1,.pointer x2,g3,g4,g5,g6,g7,g8,g9,g10,g11,g12,g13,g14,g15,g16,g17,g18,g19,g20,g21,g22,g23,g24,g25,g26,g27,g28,g29,g30,g31,g32,g33,g34,g35,g36,g37,g38,g39,g40,g41,g42,g43,g44,g45,g46,g47,g48,g49,g50,g51,g52,g53,g54,g55,g56,g57,g58,g59,g60,g61,g62,g63,g64,g65,g66,g67,g68,g69,g70,g71,g72,g73,g74,g75,g76,g77,g78] M K = withK (fun w20 w21 w22 w23 w24 w25 w26 w27 w28 w29 M => K #[.slice Ax0 lx0 cx0,g1,.pointer x2,g3,g4,g5,g6,g7,g8,g9,g10,g11,g12,g13,g14,g15,g16,g17,g18,.slice Ax0 lx0 cx0,w20,w21,w22,w23,w24,w25,w26,w27,w28,w29,g30,g31,g32,g33,g34,g35,g36,g37,g38,g39,g40,g41,g42,g43,g44,g45,g46,g47,g48,g49,g50,g51,g52,g53,g54,g55,g56,g57,g58,g59,g60,g61,g62,g63,g64,g65,g66,g67,g68,g69,g70,g71,g72,g73,g74,g75,g76,g77,g78] M) fun k => (idxA Ax0 lx0 1 0).bind fun a_1 => (M.intAt .u8 a_1.block a_1.off).bind fun x_2 => cond ((x_2.tmod 16) != 0) (k (.pointer (some a_1)) (.int .u8 x_2) (.int .u8 (x_2.tmod 16)) (.bool ((x_2.tmod 16) != 0)) (.bool true) undef undef undef undef (.bool true) M) ((x2).bind fun a_3 => (M.intAt .i64 a_3.block a_3.off).bind fun x_4 => (call 29 #[.int .i64 x_4] M).bind fun r_5 => (asB r_5.1).bind fun b_6 => k (.pointer (some a_1)) (.int .u8 x_2) (.int .u8 (x_2.tmod 16)) (.bool ((x_2.tmod 16) != 0)) (.bool false) (.pointer (some ⟨a_3.block, a_3.off, none⟩)) (.int .i64 x_4) (.bool b_6) (.bool (!b_6)) (.bool (!b_6)) r_5.2) := by kernel_rfl
theorem c27_16 : P27 [1,1,1,0,1] = .cond (.tmp 29) (P27 [1,1,1,0,1,0]) (P27 [1,1,1,0,1,1]) := by kernel_rfl
theorem k27_17 : P27 [1,1,1,0,1,0] = .seq (P27 [1,1,1,0,1,0,0]) (P27 [1,1,1,0,1,0,1]) := by kernel_rfl
theorem k27_18 : P27 [1,1,1,0,1,0,0] = .region 5 (O27 [1,1,1,0,1,0,0]) false := by kernel_rfl
theorem r27_5 {x2 : Option Addr} {M : Mem} {call : CallM} {K : Array Value → Mem → R} :
    opsK Try.prog (fun _ => call) (O27 [1,1,1,0,1,0,0]) (O27 [1,1,1,0,1,0,0]).toList 0 #[g0,g1,.pointer x2,g3,g4,g5,g6,g7,g8,g9,g10,g11,g12,g13,g14,g15,g16,g17,g18,g19,g20,g21,g22,g23,g24,g25,g26,g27,g28,g29,g30,g31,g32,g33,g34,g35,g36,g37,g38,g39,g40,g41,g42,g43,g44,g45,g46,g47,g48,g49,g50,g51,g52,g53,g54,g55,g56,g57,g58,g59,g60,g61,g62,g63,g64,g65,g66,g67,g68,g69,g70,g71,g72,g73,g74,g75,g76,g77,g78] M K = (x2).bind fun a_1 => (M.put a_1.block a_1.off (.int .i64 0)).bind fun M_2 => (M_2.put a_1.block (a_1.off + 1) (.slice none 0 0)).bind fun M_3 => K #[g0,g1,.pointer x2,.int .i64 0,.int .i64 4,g5,g6,g7,g8,g9,g10,g11,g12,g13,g14,g15,g16,g17,g18,g19,g20,g21,g22,g23,g24,g25,g26,g27,g28,g29,.agg #[.int .i64 0, .slice none 0 0],g31,g32,g33,g34,g35,g36,g37,g38,g39,g40,g41,g42,g43,g44,g45,g46,g47,g48,g49,g50,g51,g52,g53,g54,g55,g56,g57,g58,g59,g60,g61,g62,g63,g64,g65,g66,g67,g68,g69,g70,g71,g72,g73,g74,g75,g76,g77,g78] M_3 := by kernel_rfl
theorem k27_19 : P27 [1,1,1,0,1,0,1] = .ret := by kernel_rfl
theorem k27_20 : P27 [1,1,1,0,1,1] = .skip := by kernel_rfl
theorem k27_21 : P27 [1,1,1,1] = .seq (P27 [1,1,1,1,0]) (P27 [1,1,1,1,1]) := by kernel_rfl
theorem k27_22 : P27 [1,1,1,1,0] = .region 6 (O27 [1,1,1,1,0]) false := by kernel_rfl
theorem r27_6 {Ax0 : Option Addr} {lx0 cx0 : Nat} {M : Mem} {call : CallM} {K : Array Value → Mem → R} :
    opsK Try.prog (fun _ => call) (O27 [1,1,1,1,0]) (O27 [1,1,1,1,0]).toList 0 #[.slice Ax0 lx0 cx0,g1,g2,g3,g4,g5,g6,g7,g8,g9,g10,g11,g12,g13,g14,g15,g16,g17,g18,g19,g20,g21,g22,g23,g24,g25,g26,g27,g28,g29,g30,g31,g32,g33,g34,g35,g36,g37,g38,g39,g40,g41,g42,g43,g44,g45,g46,g47,g48,g49,g50,g51,g52,g53,g54,g55,g56,g57,g58,g59,g60,g61,g62,g63,g64,g65,g66,g67,g68,g69,g70,g71,g72,g73,g74,g75,g76,g77,g78] M K = (sliceP Try.prog 22 (.slice Ax0 lx0 cx0) (some (.int .i64 1)) (some (.int .i64 (if 6 < (lx0 : Int) then 6 else (lx0 : Int)))) none).bind fun v_1 => (asS v_1).bind fun s_2 => K #[.slice Ax0 lx0 cx0,g1,g2,g3,g4,.slice s_2.1 (s_2.2.1) (s_2.2.2),g6,g7,g8,g9,g10,g11,g12,g13,g14,g15,g16,g17,g18,g19,g20,g21,g22,g23,g24,g25,g26,g27,g28,g29,g30,.slice Ax0 lx0 cx0,.slice Ax0 lx0 cx0,.int .i64 ((lx0 : Int)),.int .i64 (if 6 < (lx0 : Int) then 6 else (lx0 : Int)),.slice s_2.1 (s_2.2.1) (s_2.2.2),g36,g37,g38,g39,g40,g41,g42,g43,g44,g45,g46,g47,g48,g49,g50,g51,g52,g53,g54,g55,g56,g57,g58,g59,g60,g61,g62,g63,g64,g65,g66,g67,g68,g69,g70,g71,g72,g73,g74,g75,g76,g77,g78] M := by kernel_rfl
theorem k27_23 : P27 [1,1,1,1,1] = .seq (P27 [1,1,1,1,1,0]) (P27 [1,1,1,1,1,1]) := by kernel_rfl
theorem k27_24 : P27 [1,1,1,1,1,0] = .region 7 (O27 [1,1,1,1,1,0]) false := by kernel_rfl
theorem r27_7 {Ax5 : Option Addr} {lx5 cx5 : Nat} {M : Mem} {call : CallM} {K : Array Value → Mem → R} :
    opsK Try.prog (fun _ => call) (O27 [1,1,1,1,1,0]) (O27 [1,1,1,1,1,0]).toList 0 #[g0,g1,g2,g3,g4,.slice Ax5 lx5 cx5,g6,g7,g8,g9,g10,g11,g12,g13,g14,g15,g16,g17,g18,g19,g20,g21,g22,g23,g24,g25,g26,g27,g28,g29,g30,g31,g32,g33,g34,g35,g36,g37,g38,g39,g40,g41,g42,g43,g44,g45,g46,g47,g48,g49,g50,g51,g52,g53,g54,g55,g56,g57,g58,g59,g60,g61,g62,g63,g64,g65,g66,g67,g68,g69,g70,g71,g72,g73,g74,g75,g76,g77,g78] M K = (call 39 #[.slice Ax5 lx5 cx5] M).bind fun r_1 => (asP r_1.1).bind fun p_2 => K #[g0,g1,g2,g3,g4,.slice Ax5 lx5 cx5,.pointer p_2,g7,g8,g9,g10,g11,g12,g13,g14,g15,g16,g17,g18,g19,g20,g21,g22,g23,g24,g25,g26,g27,g28,g29,g30,g31,g32,g33,g34,g35,.slice Ax5 lx5 cx5,.pointer p_2,g38,g39,g40,g41,g42,g43,g44,g45,g46,g47,g48,g49,g50,g51,g52,g53,g54,g55,g56,g57,g58,g59,g60,g61,g62,g63,g64,g65,g66,g67,g68,g69,g70,g71,g72,g73,g74,g75,g76,g77,g78] r_1.2 := by kernel_rfl
theorem k27_25 : P27 [1,1,1,1,1,1] = .seq (P27 [1,1,1,1,1,1,0]) (P27 [1,1,1,1,1,1,1]) := by kernel_rfl
theorem k27_26 : P27 [1,1,1,1,1,1,0] = .region 8 (O27 [1,1,1,1,1,1,0]) false := by kernel_rfl
theorem r27_8 {x6 : Option Addr} {M : Mem} {call : CallM} {K : Array Value → Mem → R} :
    opsK Try.prog (fun _ => call) (O27 [1,1,1,1,1,1,0]) (O27 [1,1,1,1,1,1,0]).toList 0 #[g0,g1,g2,g3,g4,g5,.pointer x6,g7,g8,g9,g10,g11,g12,g13,g14,g15,g16,g17,g18,g19,g20,g21,g22,g23,g24,g25,g26,g27,g28,g29,g30,g31,g32,g33,g34,g35,g36,g37,g38,g39,g40,g41,g42,g43,g44,g45,g46,g47,g48,g49,g50,g51,g52,g53,g54,g55,g56,g57,g58,g59,g60,g61,g62,g63,g64,g65,g66,g67,g68,g69,g70,g71,g72,g73,g74,g75,g76,g77,g78] M K = (call 40 #[.pointer x6] M).bind fun r_1 => (asU 2 r_1.1).bind fun cs_2 => (asI .u32 (cs_2.getD 0 undef)).bind fun x_3 => (asI .i64 (cs_2.getD 1 undef)).bind fun x_4 => K #[g0,g1,g2,g3,.int .i64 x_4,g5,.pointer x6,.int .u32 x_3,g8,g9,g10,g11,g12,g13,g14,g15,g16,g17,g18,g19,g20,g21,g22,g23,g24,g25,g26,g27,g28,g29,g30,g31,g32,g33,g34,g35,g36,g37,.tuple #[.int .u32 x_3, .int .i64 x_4],.pointer x6,.tuple #[.int .u32 x_3, .int .i64 x_4],.int .u32 x_3,.int .i64 x_4,g43,g44,g45,g46,g47,g48,g49,g50,g51,g52,g53,g54,g55,g56,g57,g58,g59,g60,g61,g62,g63,g64,g65,g66,g67,g68,g69,g70,g71,g72,g73,g74,g75,g76,g77,g78] r_1.2 := by kernel_rfl
theorem k27_27 : P27 [1,1,1,1,1,1,1] = .seq (P27 [1,1,1,1,1,1,1,0]) (P27 [1,1,1,1,1,1,1,1]) := by kernel_rfl
theorem k27_28 : P27 [1,1,1,1,1,1,1,0] = .seq (P27 [1,1,1,1,1,1,1,0,0]) (P27 [1,1,1,1,1,1,1,0,1]) := by kernel_rfl
theorem k27_29 : P27 [1,1,1,1,1,1,1,0,0] = .region 9 (O27 [1,1,1,1,1,1,1,0,0]) false := by kernel_rfl
theorem r27_9 {x4 : Int} {M : Mem} {call : CallM} {K : Array Value → Mem → R} :
    opsK Try.prog (fun _ => call) (O27 [1,1,1,1,1,1,1,0,0]) (O27 [1,1,1,1,1,1,1,0,0]).toList 0 #[g0,g1,g2,g3,.int .i64 x4,g5,g6,g7,g8,g9,g10,g11,g12,g13,g14,g15,g16,g17,g18,g19,g20,g21,g22,g23,g24,g25,g26,g27,g28,g29,g30,g31,g32,g33,g34,g35,g36,g37,g38,g39,g40,g41,g42,g43,g44,g45,g46,g47,g48,g49,g50,g51,g52,g53,g54,g55,g56,g57,g58,g59,g60,g61,g62,g63,g64,g65,g66,g67,g68,g69,g70,g71,g72,g73,g74,g75,g76,g77,g78] M K = K #[g0,g1,g2,g3,.int .i64 x4,g5,g6,g7,g8,g9,g10,g11,g12,g13,g14,g15,g16,g17,g18,g19,g20,g21,g22,g23,g24,g25,g26,g27,g28,g29,g30,g31,g32,g33,g34,g35,g36,g37,g38,g39,g40,g41,g42,.int .i64 x4,.bool (x4 != 0),g45,g46,g47,g48,g49,g50,g51,g52,g53,g54,g55,g56,g57,g58,g59,g60,g61,g62,g63,g64,g65,g66,g67,g68,g69,g70,g71,g72,g73,g74,g75,g76,g77,g78] M := by kernel_rfl
theorem c27_30 : P27 [1,1,1,1,1,1,1,0,1] = .cond (.tmp 44) (P27 [1,1,1,1,1,1,1,0,1,0]) (P27 [1,1,1,1,1,1,1,0,1,1]) := by kernel_rfl
theorem k27_31 : P27 [1,1,1,1,1,1,1,0,1,0] = .seq (P27 [1,1,1,1,1,1,1,0,1,0,0]) (P27 [1,1,1,1,1,1,1,0,1,0,1]) := by kernel_rfl
theorem k27_32 : P27 [1,1,1,1,1,1,1,0,1,0,0] = .region 10 (O27 [1,1,1,1,1,1,1,0,1,0,0]) false := by kernel_rfl
theorem r27_10 {x2 : Option Addr} {x4 : Int} {M : Mem} {call : CallM} {K : Array Value → Mem → R} :
    opsK Try.prog (fun _ => call) (O27 [1,1,1,1,1,1,1,0,1,0,0]) (O27 [1,1,1,1,1,1,1,0,1,0,0]).toList 0 #[g0,g1,.pointer x2,g3,.int .i64 x4,g5,g6,g7,g8,g9,g10,g11,g12,g13,g14,g15,g16,g17,g18,g19,g20,g21,g22,g23,g24,g25,g26,g27,g28,g29,g30,g31,g32,g33,g34,g35,g36,g37,g38,g39,g40,g41,g42,g43,g44,g45,g46,g47,g48,g49,g50,g51,g52,g53,g54,g55,g56,g57,g58,g59,g60,g61,g62,g63,g64,g65,g66,g67,g68,g69,g70,g71,g72,g73,g74,g75,g76,g77,g78] M K = (x2).bind fun a_1 => (M.put a_1.block a_1.off (.int .i64 0)).bind fun M_2 => (M_2.put a_1.block (a_1.off + 1) (.slice none 0 0)).bind fun M_3 => K #[g0,g1,.pointer x2,.int .i64 0,.int .i64 x4,g5,g6,g7,g8,g9,g10,g11,g12,g13,g14,g15,g16,g17,g18,g19,g20,g21,g22,g23,g24,g25,g26,g27,g28,g29,g30,g31,g32,g33,g34,g35,g36,g37,g38,g39,g40,g41,g42,g43,g44,.agg #[.int .i64 0, .slice none 0 0],.int .i64 x4,g47,g48,g49,g50,g51,g52,g53,g54,g55,g56,g57,g58,g59,g60,g61,g62,g63,g64,g65,g66,g67,g68,g69,g70,g71,g72,g73,g74,g75,g76,g77,g78] M_3 := by kernel_rfl
theorem k27_33 : P27 [1,1,1,1,1,1,1,0,1,0,1] = .ret := by kernel_rfl
theorem k27_34 : P27 [1,1,1,1,1,1,1,0,1,1] = .skip := by kernel_rfl
theorem k27_35 : P27 [1,1,1,1,1,1,1,1] = .seq (P27 [1,1,1,1,1,1,1,1,0]) (P27 [1,1,1,1,1,1,1,1,1]) := by kernel_rfl
theorem k27_36 : P27 [1,1,1,1,1,1,1,1,0] = .seq (P27 [1,1,1,1,1,1,1,1,0,0]) (P27 [1,1,1,1,1,1,1,1,0,1]) := by kernel_rfl
theorem k27_37 : P27 [1,1,1,1,1,1,1,1,0,0] = .region 11 (O27 [1,1,1,1,1,1,1,1,0,0]) false := by kernel_rfl
theorem r27_11 {x7 : Int} {M : Mem} {call : CallM} {K : Array Value → Mem → R} :
    opsK Try.prog (fun _ => call) (O27 [1,1,1,1,1,1,1,1,0,0]) (O27 [1,1,1,1,1,1,1,1,0,0]).toList 0 #[g0,g1,g2,g3,g4,g5,g6,.int .u32 x7,g8,g9,g10,g11,g12,g13,g14,g15,g16,g17,g18,g19,g20,g21,g22,g23,g24,g25,g26,g27,g28,g29,g30,g31,g32,g33,g34,g35,g36,g37,g38,g39,g40,g41,g42,g43,g44,g45,g46,g47,g48,g49,g50,g51,g52,g53,g54,g55,g56,g57,g58,g59,g60,g61,g62,g63,g64,g65,g66,g67,g68,g69,g70,g71,g72,g73,g74,g75,g76,g77,g78] M K = K #[g0,g1,g2,g3,g4,g5,g6,.int .u32 x7,g8,g9,g10,g11,g12,g13,g14,g15,g16,g17,g18,g19,g20,g21,g22,g23,g24,g25,g26,g27,g28,g29,g30,g31,g32,g33,g34,g35,g36,g37,g38,g39,g40,g41,g42,g43,g44,g45,g46,.int .u32 x7,.bool (decide (x7 > 16777216)),g49,g50,g51,g52,g53,g54,g55,g56,g57,g58,g59,g60,g61,g62,g63,g64,g65,g66,g67,g68,g69,g70,g71,g72,g73,g74,g75,g76,g77,g78] M := by kernel_rfl
theorem c27_38 : P27 [1,1,1,1,1,1,1,1,0,1] = .cond (.tmp 48) (P27 [1,1,1,1,1,1,1,1,0,1,0]) (P27 [1,1,1,1,1,1,1,1,0,1,1]) := by kernel_rfl
theorem k27_39 : P27 [1,1,1,1,1,1,1,1,0,1,0] = .seq (P27 [1,1,1,1,1,1,1,1,0,1,0,0]) (P27 [1,1,1,1,1,1,1,1,0,1,0,1]) := by kernel_rfl
theorem k27_40 : P27 [1,1,1,1,1,1,1,1,0,1,0,0] = .region 12 (O27 [1,1,1,1,1,1,1,1,0,1,0,0]) false := by kernel_rfl
theorem r27_12 {x2 : Option Addr} {M : Mem} {call : CallM} {K : Array Value → Mem → R} :
    opsK Try.prog (fun _ => call) (O27 [1,1,1,1,1,1,1,1,0,1,0,0]) (O27 [1,1,1,1,1,1,1,1,0,1,0,0]).toList 0 #[g0,g1,.pointer x2,g3,g4,g5,g6,g7,g8,g9,g10,g11,g12,g13,g14,g15,g16,g17,g18,g19,g20,g21,g22,g23,g24,g25,g26,g27,g28,g29,g30,g31,g32,g33,g34,g35,g36,g37,g38,g39,g40,g41,g42,g43,g44,g45,g46,g47,g48,g49,g50,g51,g52,g53,g54,g55,g56,g57,g58,g59,g60,g61,g62,g63,g64,g65,g66,g67,g68,g69,g70,g71,g72,g73,g74,g75,g76,g77,g78] M K = (x2).bind fun a_1 => (M.put a_1.block a_1.off (.int .i64 0)).bind fun M_2 => (M_2.put a_1.block (a_1.off + 1) (.slice none 0 0)).bind fun M_3 => K #[g0,g1,.pointer x2,.int .i64 0,.int .i64 5,g5,g6,g7,g8,g9,g10,g11,g12,g13,g14,g15,g16,g17,g18,g19,g20,g21,g22,g23,g24,g25,g26,g27,g28,g29,g30,g31,g32,g33,g34,g35,g36,g37,g38,g39,g40,g41,g42,g43,g44,g45,g46,g47,g48,.agg #[.int .i64 0, .slice none 0 0],g50,g51,g52,g53,g54,g55,g56,g57,g58,g59,g60,g61,g62,g63,g64,g65,g66,g67,g68,g69,g70,g71,g72,g73,g74,g75,g76,g77,g78] M_3 := by kernel_rfl
theorem k27_41 : P27 [1,1,1,1,1,1,1,1,0,1,0,1] = .ret := by kernel_rfl
theorem k27_42 : P27 [1,1,1,1,1,1,1,1,0,1,1] = .skip := by kernel_rfl
theorem k27_43 : P27 [1,1,1,1,1,1,1,1,1] = .seq (P27 [1,1,1,1,1,1,1,1,1,0]) (P27 [1,1,1,1,1,1,1,1,1,1]) := by kernel_rfl
theorem k27_44 : P27 [1,1,1,1,1,1,1,1,1,0] = .region 13 (O27 [1,1,1,1,1,1,1,1,1,0]) false := by kernel_rfl
theorem r27_13 {Ax0 : Option Addr} {lx0 cx0 : Nat} {Ax5 : Option Addr} {lx5 cx5 : Nat} {x6 : Option Addr} {M : Mem} {call : CallM} {K : Array Value → Mem → R} :
    opsK Try.prog (fun _ => call) (O27 [1,1,1,1,1,1,1,1,1,0]) (O27 [1,1,1,1,1,1,1,1,1,0]).toList 0 #[.slice Ax0 lx0 cx0,g1,g2,g3,g4,.slice Ax5 lx5 cx5,.pointer x6,g7,g8,g9,g10,g11,g12,g13,g14,g15,g16,g17,g18,g19,g20,g21,g22,g23,g24,g25,g26,g27,g28,g29,g30,g31,g32,g33,g34,g35,g36,g37,g38,g39,g40,g41,g42,g43,g44,g45,g46,g47,g48,g49,g50,g51,g52,g53,g54,g55,g56,g57,g58,g59,g60,g61,g62,g63,g64,g65,g66,g67,g68,g69,g70,g71,g72,g73,g74,g75,g76,g77,g78] M K = (call 41 #[.pointer x6] M).bind fun r_1 => (asI .i64 r_1.1).bind fun x_2 => (sliceP Try.prog 22 (.slice Ax0 lx0 cx0) (some (.int .i64 (IntKind.i64.wrap ((IntKind.i64.wrap (1 + ((lx5 : Int)))) - (IntKind.i64.wrap (x_2.tdiv 8)))))) none none).bind fun v_3 => (asS v_3).bind fun s_4 => K #[.slice Ax0 lx0 cx0,g1,g2,g3,g4,.slice Ax5 lx5 cx5,.pointer x6,g7,.slice s_4.1 (s_4.2.1) (s_4.2.2),g9,g10,g11,g12,g13,g14,g15,g16,g17,g18,g19,g20,g21,g22,g23,g24,g25,g26,g27,g28,g29,g30,g31,g32,g33,g34,g35,g36,g37,g38,g39,g40,g41,g42,g43,g44,g45,g46,g47,g48,g49,.slice Ax0 lx0 cx0,.slice Ax5 lx5 cx5,.int .i64 ((lx5 : Int)),.int .i64 (IntKind.i64.wrap (1 + ((lx5 : Int)))),.pointer x6,.int .i64 x_2,.int .i64 (IntKind.i64.wrap (x_2.tdiv 8)),.int .i64 (IntKind.i64.wrap ((IntKind.i64.wrap (1 + ((lx5 : Int)))) - (IntKind.i64.wrap (x_2.tdiv 8)))),.slice s_4.1 (s_4.2.1) (s_4.2.2),g59,g60,g61,g62,g63,g64,g65,g66,g67,g68,g69,g70,g71,g72,g73,g74,g75,g76,g77,g78] r_1.2 := by kernel_rfl
theorem k27_45 : P27 [1,1,1,1,1,1,1,1,1,1] = .seq (P27 [1,1,1,1,1,1,1,1,1,1,0]) (P27 [1,1,1,1,1,1,1,1,1,1,1]) := by kernel_rfl
theorem k27_46 : P27 [1,1,1,1,1,1,1,1,1,1,0] = .seq (P27 [1,1,1,1,1,1,1,1,1,1,0,0]) (P27 [1,1,1,1,1,1,1,1,1,1,0,1]) := by kernel_rfl
theorem k27_47 : P27 [1,1,1,1,1,1,1,1,1,1,0,0] = .region 14 (O27 [1,1,1,1,1,1,1,1,1,1,0,0]) false := by kernel_rfl
theorem r27_14 {x7 : Int} {Ax8 : Option Addr} {lx8 cx8 : Nat} {M : Mem} {call : CallM} {K : Array Value → Mem → R} :
    opsK Try.prog (fun _ => call) (O27 [1,1,1,1,1,1,1,1,1,1,0,0]) (O27 [1,1,1,1,1,1,1,1,1,1,0,0]).toList 0 #[g0,g1,g2,g3,g4,g5,g6,.int .u32 x7,.slice Ax8 lx8 cx8,g9,g10,g11,g12,g13,g14,g15,g16,g17,g18,g19,g20,g21,g22,g23,g24,g25,g26,g27,g28,g29,g30,g31,g32,g33,g34,g35,g36,g37,g38,g39,g40,g41,g42,g43,g44,g45,g46,g47,g48,g49,g50,g51,g52,g53,g54,g55,g56,g57,g58,g59,g60,g61,g62,g63,g64,g65,g66,g67,g68,g69,g70,g71,g72,g73,g74,g75,g76,g77,g78] M K = K #[g0,g1,g2,g3,g4,g5,g6,.int .u32 x7,.slice Ax8 lx8 cx8,g9,g10,g11,g12,g13,g14,g15,g16,g17,g18,g19,g20,g21,g22,g23,g24,g25,g26,g27,g28,g29,g30,g31,g32,g33,g34,g35,g36,g37,g38,g39,g40,g41,g42,g43,g44,g45,g46,g47,g48,g49,g50,g51,g52,g53,g54,g55,g56,g57,g58,.int .u32 x7,.int .i64 (IntKind.i64.wrap (x7)),.slice Ax8 lx8 cx8,.int .i64 ((lx8 : Int)),.bool (decide ((IntKind.i64.wrap (x7)) > ((lx8 : Int)))),g64,g65,g66,g67,g68,g69,g70,g71,g72,g73,g74,g75,g76,g77,g78] M := by kernel_rfl
theorem c27_48 : P27 [1,1,1,1,1,1,1,1,1,1,0,1] = .cond (.tmp 63) (P27 [1,1,1,1,1,1,1,1,1,1,0,1,0]) (P27 [1,1,1,1,1,1,1,1,1,1,0,1,1]) := by kernel_rfl
theorem k27_49 : P27 [1,1,1,1,1,1,1,1,1,1,0,1,0] = .seq (P27 [1,1,1,1,1,1,1,1,1,1,0,1,0,0]) (P27 [1,1,1,1,1,1,1,1,1,1,0,1,0,1]) := by kernel_rfl
theorem k27_50 : P27 [1,1,1,1,1,1,1,1,1,1,0,1,0,0] = .region 15 (O27 [1,1,1,1,1,1,1,1,1,1,0,1,0,0]) false := by kernel_rfl
theorem r27_15 {x2 : Option Addr} {M : Mem} {call : CallM} {K : Array Value → Mem → R} :
    opsK Try.prog (fun _ => call) (O27 [1,1,1,1,1,1,1,1,1,1,0,1,0,0]) (O27 [1,1,1,1,1,1,1,1,1,1,0,1,0,0]).toList 0 #[g0,g1,.pointer x2,g3,g4,g5,g6,g7,g8,g9,g10,g11,g12,g13,g14,g15,g16,g17,g18,g19,g20,g21,g22,g23,g24,g25,g26,g27,g28,g29,g30,g31,g32,g33,g34,g35,g36,g37,g38,g39,g40,g41,g42,g43,g44,g45,g46,g47,g48,g49,g50,g51,g52,g53,g54,g55,g56,g57,g58,g59,g60,g61,g62,g63,g64,g65,g66,g67,g68,g69,g70,g71,g72,g73,g74,g75,g76,g77,g78] M K = (x2).bind fun a_1 => (M.put a_1.block a_1.off (.int .i64 0)).bind fun M_2 => (M_2.put a_1.block (a_1.off + 1) (.slice none 0 0)).bind fun M_3 => K #[g0,g1,.pointer x2,.int .i64 0,.int .i64 3,g5,g6,g7,g8,g9,g10,g11,g12,g13,g14,g15,g16,g17,g18,g19,g20,g21,g22,g23,g24,g25,g26,g27,g28,g29,g30,g31,g32,g33,g34,g35,g36,g37,g38,g39,g40,g41,g42,g43,g44,g45,g46,g47,g48,g49,g50,g51,g52,g53,g54,g55,g56,g57,g58,g59,g60,g61,g62,g63,.agg #[.int .i64 0, .slice none 0 0],g65,g66,g67,g68,g69,g70,g71,g72,g73,g74,g75,g76,g77,g78] M_3 := by kernel_rfl
theorem k27_51 : P27 [1,1,1,1,1,1,1,1,1,1,0,1,0,1] = .ret := by kernel_rfl
theorem k27_52 : P27 [1,1,1,1,1,1,1,1,1,1,0,1,1] = .skip := by kernel_rfl
theorem k27_53 : P27 [1,1,1,1,1,1,1,1,1,1,1] = .seq (P27 [1,1,1,1,1,1,1,1,1,1,1,0]) (P27 [1,1,1,1,1,1,1,1,1,1,1,1]) := by kernel_rfl
theorem k27_54 : P27 [1,1,1,1,1,1,1,1,1,1,1,0] = .region 16 (O27 [1,1,1,1,1,1,1,1,1,1,1,0]) false := by kernel_rfl
theorem r27_16 {x2 : Option Addr} {x7 : Int} {Ax8 : Option Addr} {lx8 cx8 : Nat} {M : Mem} {call : CallM} {K : Array Value → Mem → R} :
    opsK Try.prog (fun _ => call) (O27 [1,1,1,1,1,1,1,1,1,1,1,0]) (O27 [1,1,1,1,1,1,1,1,1,1,1,0]).toList 0 #[g0,g1,.pointer x2,g3,g4,g5,g6,.int .u32 x7,.slice Ax8 lx8 cx8,g9,g10,g11,g12,g13,g14,g15,g16,g17,g18,g19,g20,g21,g22,g23,g24,g25,g26,g27,g28,g29,g30,g31,g32,g33,g34,g35,g36,g37,g38,g39,g40,g41,g42,g43,g44,g45,g46,g47,g48,g49,g50,g51,g52,g53,g54,g55,g56,g57,g58,g59,g60,g61,g62,g63,g64,g65,g66,g67,g68,g69,g70,g71,g72,g73,g74,g75,g76,g77,g78] M K = (sliceP Try.prog 22 (.slice Ax8 lx8 cx8) none (some (.int .u32 x7)) none).bind fun v_1 => (asS v_1).bind fun s_2 => (call 38 #[.slice s_2.1 (s_2.2.1) (s_2.2.2)] M).bind fun r_3 => (asS r_3.1).bind fun s_4 => (x2).bind fun a_5 => (r_3.2.put a_5.block (a_5.off + 1) (.slice s_4.1 (s_4.2.1) (s_4.2.2))).bind fun M_6 => K #[g0,g1,.pointer x2,g3,g4,g5,g6,.int .u32 x7,.slice Ax8 lx8 cx8,g9,g10,g11,g12,g13,g14,g15,g16,g17,g18,g19,g20,g21,g22,g23,g24,g25,g26,g27,g28,g29,g30,g31,g32,g33,g34,g35,g36,g37,g38,g39,g40,g41,g42,g43,g44,g45,g46,g47,g48,g49,g50,g51,g52,g53,g54,g55,g56,g57,g58,g59,g60,g61,g62,g63,g64,.slice Ax8 lx8 cx8,.int .u32 x7,.slice s_2.1 (s_2.2.1) (s_2.2.2),.slice s_4.1 (s_4.2.1) (s_4.2.2),.pointer (some ⟨a_5.block, a_5.off + 1, none⟩),g70,g71,g72,g73,g74,g75,g76,g77,g78] M_6 := by kernel_rfl
theorem k27_55 : P27 [1,1,1,1,1,1,1,1,1,1,1,1] = .seq (P27 [1,1,1,1,1,1,1,1,1,1,1,1,0]) (P27 [1,1,1,1,1,1,1,1,1,1,1,1,1]) := by kernel_rfl
theorem k27_56 : P27 [1,1,1,1,1,1,1,1,1,1,1,1,0] = .region 17 (O27 [1,1,1,1,1,1,1,1,1,1,1,1,0]) false := by kernel_rfl
theorem r27_17 {Ax0 : Option Addr} {lx0 cx0 : Nat} {x2 : Option Addr} {x7 : Int} {Ax8 : Option Addr} {lx8 cx8 : Nat} {M : Mem} {call : CallM} {K : Array Value → Mem → R} :
    opsK Try.prog (fun _ => call) (O27 [1,1,1,1,1,1,1,1,1,1,1,1,0]) (O27 [1,1,1,1,1,1,1,1,1,1,1,1,0]).toList 0 #[.slice Ax0 lx0 cx0,g1,.pointer x2,g3,g4,g5,g6,.int .u32 x7,.slice Ax8 lx8 cx8,g9,g10,g11,g12,g13,g14,g15,g16,g17,g18,g19,g20,g21,g22,g23,g24,g25,g26,g27,g28,g29,g30,g31,g32,g33,g34,g35,g36,g37,g38,g39,g40,g41,g42,g43,g44,g45,g46,g47,g48,g49,g50,g51,g52,g53,g54,g55,g56,g57,g58,g59,g60,g61,g62,g63,g64,g65,g66,g67,g68,g69,g70,g71,g72,g73,g74,g75,g76,g77,g78] M K = (x2).bind fun a_1 => (M.intAt .i64 a_1.block a_1.off).bind fun x_2 => (M.slAt a_1.block (a_1.off + 1)).bind fun s_3 => (x2).bind fun a_4 => (M.put a_4.block a_4.off (.int .i64 x_2)).bind fun M_5 => (M_5.put a_4.block (a_4.off + 1) (.slice s_3.1 (s_3.2.1) (s_3.2.2))).bind fun M_6 => K #[.slice Ax0 lx0 cx0,g1,.pointer x2,.int .i64 (IntKind.i64.wrap ((IntKind.i64.wrap (((lx0 : Int)) - ((lx8 : Int)))) + (IntKind.i64.wrap (x7)))),.int .i64 0,g5,g6,.int .u32 x7,.slice Ax8 lx8 cx8,g9,g10,g11,g12,g13,g14,g15,g16,g17,g18,g19,g20,g21,g22,g23,g24,g25,g26,g27,g28,g29,g30,g31,g32,g33,g34,g35,g36,g37,g38,g39,g40,g41,g42,g43,g44,g45,g46,g47,g48,g49,g50,g51,g52,g53,g54,g55,g56,g57,g58,g59,g60,g61,g62,g63,g64,g65,g66,g67,g68,g69,.agg #[.int .i64 x_2, .slice s_3.1 (s_3.2.1) (s_3.2.2)],.slice Ax0 lx0 cx0,.int .i64 ((lx0 : Int)),.slice Ax8 lx8 cx8,.int .i64 ((lx8 : Int)),.int .i64 (IntKind.i64.wrap (((lx0 : Int)) - ((lx8 : Int)))),.int .u32 x7,.int .i64 (IntKind.i64.wrap (x7)),.int .i64 (IntKind.i64.wrap ((IntKind.i64.wrap (((lx0 : Int)) - ((lx8 : Int)))) + (IntKind.i64.wrap (x7))))] M_6 := by kernel_rfl
theorem k27_57 : P27 [1,1,1,1,1,1,1,1,1,1,1,1,1] = .ret := by kernel_rfl
noncomputable def S27_1 : List Item := [.code (P27 [1,1,1,0,1]), .code (P27 [1,1,1,1])]
def A27_1 (Ax0 : Option Addr) (lx0 cx0 : Nat) (x2 : Option Addr) (x29 : Bool) (M : Mem) (Q : Value → Mem → Prop) : Prop := ∀ (g1 g3 g4 g5 g6 g7 g8 g9 g10 g11 g12 g13 g14 g15 g16 g17 g18 g19 g20 g21 g22 g23 g24 g25 g26 g27 g28 g30 g31 g32 g33 g34 g35 g36 g37 g38 g39 g40 g41 g42 g43 g44 g45 g46 g47 g48 g49 g50 g51 g52 g53 g54 g55 g56 g57 g58 g59 g60 g61 g62 g63 g64 g65 g66 g67 g68 g69 g70 g71 g72 g73 g74 g75 g76 g77 g78 : Value), Rn Try.prog Try.f27 S27_1 #[.slice Ax0 lx0 cx0, g1, .pointer x2, g3, g4, g5, g6, g7, g8, g9, g10, g11, g12, g13, g14, g15, g16, g17, g18, g19, g20, g21, g22, g23, g24, g25, g26, g27, g28, .bool x29, g30, g31, g32, g33, g34, g35, g36, g37, g38, g39, g40, g41, g42, g43, g44, g45, g46, g47, g48, g49, g50, g51, g52, g53, g54, g55, g56, g57, g58, g59, g60, g61, g62, g63, g64, g65, g66, g67, g68, g69, g70, g71, g72, g73, g74, g75, g76, g77, g78] M Q
theorem w27_0 {Ax0 : Option Addr} {lx0 cx0 : Nat} {M : Mem} {Q : Value → Mem → Prop} (H :
    ((((lx0 : Int)) = 0 →
     ∃ x1', (M.new (.cells #[.int .i64 0, .slice none 0 0] 44)).intAt .i64 (2 * M.nb.size) 0 = some x1' ∧
     ∃ s2', (M.new (.cells #[.int .i64 0, .slice none 0 0] 44)).slAt (2 * M.nb.size) (0 + 1) = some s2' ∧
     ∃ M3', (M.new (.cells #[.int .i64 0, .slice none 0 0] 44)).put (2 * M.nb.size) 0 (.int .i64 x1') = some M3' ∧
     ∃ M4', M3'.put (2 * M.nb.size) (0 + 1) (.slice s2'.1 (s2'.2.1) (s2'.2.2)) = some M4' ∧
     ∃ x5', M4'.intAt .i64 (2 * M.nb.size) 0 = some x5' ∧
     ∃ s6', M4'.slAt (2 * M.nb.size) (0 + 1) = some s6' ∧
     Q (.tuple #[.agg #[.int .i64 (x5'), .slice s6'.1 (s6'.2.1) (s6'.2.2)], .int .i64 0, .int .i64 3]) M4') ∧
     (((lx0 : Int)) ≠ 0 →
     ∃ a7', idxA Ax0 lx0 1 0 = some a7' ∧
     ∃ x8', (M.new (.cells #[.int .i64 0, .slice none 0 0] 44)).intAt .u8 a7'.block a7'.off = some x8' ∧
     ∃ M9', (M.new (.cells #[.int .i64 0, .slice none 0 0] 44)).put (2 * M.nb.size) 0 (.int .i64 (IntKind.i64.wrap (IntKind.u8.wrap (x8'.tdiv 16)))) = some M9' ∧
     ∃ a10', idxA Ax0 lx0 1 0 = some a10' ∧
     ∃ x11', M9'.intAt .u8 a10'.block a10'.off = some x11' ∧
     (((x11'.tmod 16) ≠ 0 →
      A27_1 Ax0 lx0 cx0 (some ⟨2 * M.nb.size, 0, none⟩) true M9' Q) ∧
      ((x11'.tmod 16) = 0 →
      ∃ x12', M9'.intAt .i64 (2 * M.nb.size) 0 = some x12' ∧
      Cn Try.prog 29 #[.int .i64 x12'] M9' fun v13' N13' =>
       ∃ b14', asB v13' = some b14' ∧
       A27_1 Ax0 lx0 cx0 (some ⟨2 * M.nb.size, 0, none⟩) (!b14') N13' Q))))) :
    Cn Try.prog 27 #[.slice Ax0 lx0 cx0] M Q := by
  refine Cn.of b27 d27 t27 ?_
  refine Rn.seq k27_0 (Rn.region k27_1 (fun call K => r27_0) (Rch.leaf (Rn.seq k27_2 (Rn.seq k27_3 (Rn.region k27_4 (fun call K => r27_1) (Rch.leaf ?_))))))
  refine Rn.cnd (v := ((lx0 : Int)) == 0) ⟨c27_5, rfl, by kernel_rfl⟩ (fun h => ?_) (fun h => ?_)
  · replace H := H.1 (eq_of_beq h)
    refine Rn.seq k27_6 (Rn.region k27_7 (fun call K => r27_2) (Rch.bind (x := ⟨2 * M.nb.size, 0, none⟩) rfl (Rch.ex H fun x1' H => Rch.ex H fun s2' H => Rch.bind (x := ⟨2 * M.nb.size, 0, none⟩) rfl (Rch.ex H fun M3' H => Rch.ex H fun M4' H => Rch.leaf (Rn.retK k27_8 (fun K => e27_0) (Rch.bind (x := ⟨2 * M.nb.size, 0, none⟩) rfl (Rch.ex H fun x5' H => ?_)))))))
    refine Rch.ex H fun s6' H => ?_
    exact Rch.fin H
  · replace H := H.2 (ne_of_beq_false h)
    refine Rn.skip k27_10 (Rn.seq k27_11 (Rn.region k27_12 (fun call K => r27_3) (Rch.ex H fun a7' H => Rch.ex H fun x8' H => Rch.bind (x := ⟨2 * M.nb.size, 0, none⟩) rfl (Rch.ex H fun M9' H => Rch.leaf (Rn.seq k27_13 (Rn.seq k27_14 (Rn.region k27_15 (fun call K => r27_4) (Rch.ex H fun a10' H => ?_))))))))
    refine Rch.ex H fun x11' H => ?_
    refine Rch.cB (fun h => ?_) (fun h => ?_)
    · replace H := H.1 (ne_of_bneT h)
      refine Rch.leaf ?_
      exact H _ _ _ _ _ _ _ _ _ _ _ _ _ _ _ _ _ _ _ _ _ _ _ _ _ _ _ _ _ _ _ _ _ _ _ _ _ _ _ _ _ _ _ _ _ _ _ _ _ _ _ _ _ _ _ _ _ _ _ _ _ _ _ _ _ _ _ _ _ _ _ _ _ _ _ _
    · replace H := H.2 (eq_of_bneF h)
      refine Rch.bind (x := ⟨2 * M.nb.size, 0, none⟩) rfl (Rch.ex H fun x12' H => Rch.call H fun v13' N13' H => Rch.ex H fun b14' H => Rch.leaf ?_)
      exact H _ _ _ _ _ _ _ _ _ _ _ _ _ _ _ _ _ _ _ _ _ _ _ _ _ _ _ _ _ _ _ _ _ _ _ _ _ _ _ _ _ _ _ _ _ _ _ _ _ _ _ _ _ _ _ _ _ _ _ _ _ _ _ _ _ _ _ _ _ _ _ _ _ _ _ _

theorem w27_1 {Ax0 : Option Addr} {lx0 cx0 : Nat} {x2 : Option Addr} {x29 : Bool} {M : Mem} {Q : Value → Mem → Prop} (H :
    ((x29 = true →
     ∃ a15', x2 = some a15' ∧
     ∃ M16', M.put a15'.block a15'.off (.int .i64 0) = some M16' ∧
     ∃ M17', M16'.put a15'.block (a15'.off + 1) (.slice none 0 0) = some M17' ∧
     ∃ a18', x2 = some a18' ∧
     ∃ x19', M17'.intAt .i64 a18'.block a18'.off = some x19' ∧
     ∃ s20', M17'.slAt a18'.block (a18'.off + 1) = some s20' ∧
     Q (.tuple #[.agg #[.int .i64 (x19'), .slice s20'.1 (s20'.2.1) (s20'.2.2)], .int .i64 0, .int .i64 4]) M17') ∧
     (x29 = false →
     ∃ v21', sliceP Try.prog 22 (.slice Ax0 lx0 cx0) (some (.int .i64 1)) (some (.int .i64 (if 6 < (lx0 : Int) then 6 else (lx0 : Int)))) none = some v21' ∧
     ∃ s22', asS v21' = some s22' ∧
     Cn Try.prog 39 #[.slice s22'.1 s22'.2.1 s22'.2.2] M fun v23' N23' =>
      ∃ p24', asP v23' = some p24' ∧
      Cn Try.prog 40 #[.pointer p24'] N23' fun v25' N25' =>
       ∃ cs26', asU 2 v25' = some cs26' ∧
       ∃ x27', asI .u32 (cs26'.getD 0 undef) = some x27' ∧
       ∃ x28', asI .i64 (cs26'.getD 1 undef) = some x28' ∧
       ((x28' ≠ 0 →
        ∃ a29', x2 = some a29' ∧
        ∃ M30', N25'.put a29'.block a29'.off (.int .i64 0) = some M30' ∧
        ∃ M31', M30'.put a29'.block (a29'.off + 1) (.slice none 0 0) = some M31' ∧
        ∃ a32', x2 = some a32' ∧
        ∃ x33', M31'.intAt .i64 a32'.block a32'.off = some x33' ∧
        ∃ s34', M31'.slAt a32'.block (a32'.off + 1) = some s34' ∧
        Q (.tuple #[.agg #[.int .i64 (x33'), .slice s34'.1 (s34'.2.1) (s34'.2.2)], .int .i64 0, .int .i64 (x28')]) M31') ∧
        (x28' = 0 →
        ((x27' > 16777216 →
         ∃ a35', x2 = some a35' ∧
         ∃ M36', N25'.put a35'.block a35'.off (.int .i64 0) = some M36' ∧
         ∃ M37', M36'.put a35'.block (a35'.off + 1) (.slice none 0 0) = some M37' ∧
         ∃ a38', x2 = some a38' ∧
         ∃ x39', M37'.intAt .i64 a38'.block a38'.off = some x39' ∧
         ∃ s40', M37'.slAt a38'.block (a38'.off + 1) = some s40' ∧
         Q (.tuple #[.agg #[.int .i64 (x39'), .slice s40'.1 (s40'.2.1) (s40'.2.2)], .int .i64 0, .int .i64 5]) M37') ∧
         (¬ (x27' > 16777216) →
         Cn Try.prog 41 #[.pointer p24'] N25' fun v41' N41' =>
          ∃ x42', asI .i64 v41' = some x42' ∧
          ∃ v43', sliceP Try.prog 22 (.slice Ax0 lx0 cx0) (some (.int .i64 (IntKind.i64.wrap ((IntKind.i64.wrap (1 + ((s22'.2.1 : Int)))) - (IntKind.i64.wrap (x42'.tdiv 8)))))) none none = some v43' ∧
          ∃ s44', asS v43' = some s44' ∧
          (((IntKind.i64.wrap (x27')) > ((s44'.2.1 : Int)) →
           ∃ a45', x2 = some a45' ∧
           ∃ M46', N41'.put a45'.block a45'.off (.int .i64 0) = some M46' ∧
           ∃ M47', M46'.put a45'.block (a45'.off + 1) (.slice none 0 0) = some M47' ∧
           ∃ a48', x2 = some a48' ∧
           ∃ x49', M47'.intAt .i64 a48'.block a48'.off = some x49' ∧
           ∃ s50', M47'.slAt a48'.block (a48'.off + 1) = some s50' ∧
           Q (.tuple #[.agg #[.int .i64 (x49'), .slice s50'.1 (s50'.2.1) (s50'.2.2)], .int .i64 0, .int .i64 3]) M47') ∧
           (¬ ((IntKind.i64.wrap (x27')) > ((s44'.2.1 : Int))) →
           ∃ v51', sliceP Try.prog 22 (.slice s44'.1 s44'.2.1 s44'.2.2) none (some (.int .u32 x27')) none = some v51' ∧
           ∃ s52', asS v51' = some s52' ∧
           Cn Try.prog 38 #[.slice s52'.1 (s52'.2.1) (s52'.2.2)] N41' fun v53' N53' =>
            ∃ s54', asS v53' = some s54' ∧
            ∃ a55', x2 = some a55' ∧
            ∃ M56', N53'.put a55'.block (a55'.off + 1) (.slice s54'.1 (s54'.2.1) (s54'.2.2)) = some M56' ∧
            ∃ a57', x2 = some a57' ∧
            ∃ x58', M56'.intAt .i64 a57'.block a57'.off = some x58' ∧
            ∃ s59', M56'.slAt a57'.block (a57'.off + 1) = some s59' ∧
            ∃ a60', x2 = some a60' ∧
            ∃ M61', M56'.put a60'.block a60'.off (.int .i64 x58') = some M61' ∧
            ∃ M62', M61'.put a60'.block (a60'.off + 1) (.slice s59'.1 (s59'.2.1) (s59'.2.2)) = some M62' ∧
            ∃ a63', x2 = some a63' ∧
            ∃ x64', M62'.intAt .i64 a63'.block a63'.off = some x64' ∧
            ∃ s65', M62'.slAt a63'.block (a63'.off + 1) = some s65' ∧
            Q (.tuple #[.agg #[.int .i64 (x64'), .slice s65'.1 (s65'.2.1) (s65'.2.2)], .int .i64 (IntKind.i64.wrap ((IntKind.i64.wrap (((lx0 : Int)) - ((s44'.2.1 : Int)))) + (IntKind.i64.wrap (x27')))), .int .i64 0]) M62'))))))))) :
    A27_1 Ax0 lx0 cx0 x2 x29 M Q := by
  intro g1 g3 g4 g5 g6 g7 g8 g9 g10 g11 g12 g13 g14 g15 g16 g17 g18 g19 g20 g21 g22 g23 g24 g25 g26 g27 g28 g30 g31 g32 g33 g34 g35 g36 g37 g38 g39 g40 g41 g42 g43 g44 g45 g46 g47 g48 g49 g50 g51 g52 g53 g54 g55 g56 g57 g58 g59 g60 g61 g62 g63 g64 g65 g66 g67 g68 g69 g70 g71 g72 g73 g74 g75 g76 g77 g78
  refine Rn.cnd (v := x29) ⟨c27_16, rfl, by kernel_rfl⟩ (fun h => ?_) (fun h => ?_)
  · replace H := H.1 (h)
    refine Rn.seq k27_17 (Rn.region k27_18 (fun call K => r27_5) (Rch.ex H fun a15' H => Rch.ex H fun M16' H => Rch.ex H fun M17' H => Rch.leaf (Rn.retK k27_19 (fun K => e27_0) (Rch.ex H fun a18' H => Rch.ex H fun x19' H => Rch.ex H fun s20' H => ?_))))
    exact Rch.fin H
  · replace H := H.2 (h)
    refine Rn.skip k27_20 (Rn.seq k27_21 (Rn.region k27_22 (fun call K => r27_6) (Rch.ex H fun v21' H => Rch.ex H fun s22' H => Rch.leaf (Rn.seq k27_23 (Rn.region k27_24 (fun call K => r27_7) (Rch.call H fun v23' N23' H => Rch.ex H fun p24' H => Rch.leaf (Rn.seq k27_25 ?_)))))))
    refine Rn.region k27_26 (fun call K => r27_8) (Rch.call H fun v25' N25' H => Rch.ex H fun cs26' H => Rch.ex H fun x27' H => Rch.ex H fun x28' H => Rch.leaf (Rn.seq k27_27 (Rn.seq k27_28 (Rn.region k27_29 (fun call K => r27_9) (Rch.leaf ?_)))))
    refine Rn.cnd (v := x28' != 0) ⟨c27_30, rfl, by kernel_rfl⟩ (fun h => ?_) (fun h => ?_)
    · replace H := H.1 (ne_of_bneT h)
      refine Rn.seq k27_31 (Rn.region k27_32 (fun call K => r27_10) (Rch.ex H fun a29' H => Rch.ex H fun M30' H => Rch.ex H fun M31' H => Rch.leaf (Rn.retK k27_33 (fun K => e27_0) (Rch.ex H fun a32' H => Rch.ex H fun x33' H => Rch.ex H fun s34' H => ?_))))
      exact Rch.fin H
    · replace H := H.2 (eq_of_bneF h)
      refine Rn.skip k27_34 (Rn.seq k27_35 (Rn.seq k27_36 (Rn.region k27_37 (fun call K => r27_11) (Rch.leaf ?_))))
      refine Rn.cnd (v := decide (x27' > 16777216)) ⟨c27_38, rfl, by kernel_rfl⟩ (fun h => ?_) (fun h => ?_)
      · replace H := H.1 (of_decide_eq_true h)
        refine Rn.seq k27_39 (Rn.region k27_40 (fun call K => r27_12) (Rch.ex H fun a35' H => Rch.ex H fun M36' H => Rch.ex H fun M37' H => Rch.leaf (Rn.retK k27_41 (fun K => e27_0) (Rch.ex H fun a38' H => Rch.ex H fun x39' H => Rch.ex H fun s40' H => ?_))))
        exact Rch.fin H
      · replace H := H.2 (of_decide_eq_false h)
        refine Rn.skip k27_42 (Rn.seq k27_43 (Rn.region k27_44 (fun call K => r27_13) (Rch.call H fun v41' N41' H => Rch.ex H fun x42' H => Rch.ex H fun v43' H => Rch.ex H fun s44' H => Rch.leaf (Rn.seq k27_45 (Rn.seq k27_46 (Rn.region k27_47 (fun call K => r27_14) (Rch.leaf ?_)))))))
        refine Rn.cnd (v := decide ((IntKind.i64.wrap (x27')) > ((s44'.2.1 : Int)))) ⟨c27_48, rfl, by kernel_rfl⟩ (fun h => ?_) (fun h => ?_)
        · replace H := H.1 (of_decide_eq_true h)
          refine Rn.seq k27_49 (Rn.region k27_50 (fun call K => r27_15) (Rch.ex H fun a45' H => Rch.ex H fun M46' H => Rch.ex H fun M47' H => Rch.leaf (Rn.retK k27_51 (fun K => e27_0) (Rch.ex H fun a48' H => Rch.ex H fun x49' H => Rch.ex H fun s50' H => ?_))))
          exact Rch.fin H
        · replace H := H.2 (of_decide_eq_false h)
          refine Rn.skip k27_52 (Rn.seq k27_53 (Rn.region k27_54 (fun call K => r27_16) (Rch.ex H fun v51' H => Rch.ex H fun s52' H => Rch.call H fun v53' N53' H => Rch.ex H fun s54' H => Rch.ex H fun a55' H => Rch.ex H fun M56' H => Rch.leaf (Rn.seq k27_55 (Rn.region k27_56 (fun call K => r27_17) ?_)))))
          refine Rch.ex H fun a57' H => Rch.ex H fun x58' H => Rch.ex H fun s59' H => Rch.ex H fun a60' H => Rch.ex H fun M61' H => Rch.ex H fun M62' H => Rch.leaf (Rn.retK k27_57 (fun K => e27_0) (Rch.ex H fun a63' H => Rch.ex H fun x64' H => Rch.ex H fun s65' H => ?_))
          exact Rch.fin H


/-! ### zoetrope/units.Split: function 11 -/
noncomputable abbrev P11 (p : List Nat) : Code := subC (codeOf Try.f11) p
noncomputable abbrev O11 (p : List Nat) : Array Oper := opsOf (subC (codeOf Try.f11) p)
theorem b11 : Try.prog.funcs[11]? = some Try.f11 ∧ (Orc.tab Try.prog).lookup 11 = none := ⟨by kernel_rfl, by kernel_rfl⟩
theorem d11 : Try.f11.body = some (P11 []) := by kernel_rfl
theorem t11 {Ax0 : Option Addr} {lx0 cx0 : Nat} : #[.slice Ax0 lx0 cx0] ++ Array.replicate (Try.f11.ntmps - (#[.slice Ax0 lx0 cx0] : Array Value).size) undef = #[.slice Ax0 lx0 cx0,undef,undef,undef,undef,undef,undef,undef,undef,undef,undef,undef,undef,undef,undef,undef,undef,undef,undef,undef,undef,undef,undef,undef,undef,undef,undef,undef,undef,undef,undef,undef,undef,undef,undef,undef,undef] := by kernel_rfl
theorem k11_0 : P11 [] = .seq (P11 [0]) (P11 [1]) := by kernel_rfl
theorem k11_1 : P11 [0] = .region 0 (O11 [0]) false := by kernel_rfl
theorem r11_0 {M : Mem} {call : CallM} {K : Array Value → Mem → R} :
    opsK Try.prog (fun _ => call) (O11 [0]) (O11 [0]).toList 0 #[g0,g1,g2,g3,g4,g5,g6,g7,g8,g9,g10,g11,g12,g13,g14,g15,g16,g17,g18,g19,g20,g21,g22,g23,g24,g25,g26,g27,g28,g29,g30,g31,g32,g33,g34,g35,g36] M K = K #[g0,g1,.slice none 0 0,.int .i64 0,.int .i64 0,g5,g6,g7,g8,g9,g10,g11,g12,g13,g14,g15,g16,g17,g18,g19,g20,g21,g22,g23,g24,g25,g26,g27,g28,g29,g30,g31,g32,g33,g34,g35,g36] M := by kernel_rfl
theorem k11_2 : P11 [1] = .scope (P11 [1,0]) := by kernel_rfl
theorem k11_3 : P11 [1,0] = .seq (P11 [1,0,0]) (P11 [1,0,1]) := by kernel_rfl
theorem k11_4 : P11 [1,0,0] = .region 1 (O11 [1,0,0]) false := by kernel_rfl
theorem r11_1 {M : Mem} {call : CallM} {K : Array Value → Mem → R} :
    opsK Try.prog (fun _ => call) (O11 [1,0,0]) (O11 [1,0,0]).toList 0 #[g0,g1,g2,g3,g4,g5,g6,g7,g8,g9,g10,g11,g12,g13,g14,g15,g16,g17,g18,g19,g20,g21,g22,g23,g24,g25,g26,g27,g28,g29,g30,g31,g32,g33,g34,g35,g36] M K = K #[g0,g1,g2,g3,g4,.slice none 0 0,g6,g7,g8,g9,g10,g11,g12,g13,g14,g15,g16,g17,g18,g19,g20,g21,g22,g23,g24,g25,g26,g27,g28,g29,g30,g31,g32,g33,g34,g35,g36] M := by kernel_rfl
theorem k11_5 : P11 [1,0,1] = .seq (P11 [1,0,1,0]) (P11 [1,0,1,1]) := by kernel_rfl
theorem k11_6 : P11 [1,0,1,0] = .region 2 (O11 [1,0,1,0]) false := by kernel_rfl
theorem r11_2 {M : Mem} {call : CallM} {K : Array Value → Mem → R} :
    opsK Try.prog (fun _ => call) (O11 [1,0,1,0]) (O11 [1,0,1,0]).toList 0 #[g0,g1,g2,g3,g4,g5,g6,g7,g8,g9,g10,g11,g12,g13,g14,g15,g16,g17,g18,g19,g20,g21,g22,g23,g24,g25,g26,g27,g28,g29,g30,g31,g32,g33,g34,g35,g36] M K = K #[g0,g1,g2,g3,g4,g5,.int .i64 0,.int .i64 0,g8,g9,g10,g11,g12,g13,g14,g15,g16,g17,g18,g19,g20,g21,g22,g23,g24,g25,g26,g27,g28,g29,g30,g31,g32,g33,g34,g35,g36] M := by kernel_rfl
theorem k11_7 : P11 [1,0,1,1] = .seq (P11 [1,0,1,1,0]) (P11 [1,0,1,1,1]) := by kernel_rfl
theorem k11_8 : P11 [1,0,1,1,0] = .label 0 := by kernel_rfl
theorem k11_9 : P11 [1,0,1,1,1] = .seq (P11 [1,0,1,1,1,0]) (P11 [1,0,1,1,1,1]) := by kernel_rfl
theorem k11_10 : P11 [1,0,1,1,1,0] = .block 0 (P11 [1,0,1,1,1,0,0]) := by kernel_rfl
theorem k11_11 : P11 [1,0,1,1,1,0,0] = .loop (P11 [1,0,1,1,1,0,0,0]) := by kernel_rfl
theorem k11_12 : P11 [1,0,1,1,1,0,0,0] = .seq (P11 [1,0,1,1,1,0,0,0,0]) (P11 [1,0,1,1,1,0,0,0,1]) := by kernel_rfl
theorem k11_13 : P11 [1,0,1,1,1,0,0,0,0] = .seq (P11 [1,0,1,1,1,0,0,0,0,0]) (P11 [1,0,1,1,1,0,0,0,0,1]) := by kernel_rfl
theorem k11_14 : P11 [1,0,1,1,1,0,0,0,0,0] = .region 3 (O11 [1,0,1,1,1,0,0,0,0,0]) false := by kernel_rfl
theorem r11_3 {Ax0 : Option Addr} {lx0 cx0 : Nat} {x6 : Int} {M : Mem} {call : CallM} {K : Array Value → Mem → R} :
    opsK Try.prog (fun _ => call) (O11 [1,0,1,1,1,0,0,0,0,0]) (O11 [1,0,1,1,1,0,0,0,0,0]).toList 0 #[.slice Ax0 lx0 cx0,g1,g2,g3,g4,g5,.int .i64 x6,g7,g8,g9,g10,g11,g12,g13,g14,g15,g16,g17,g18,g19,g20,g21,g22,g23,g24,g25,g26,g27,g28,g29,g30,g31,g32,g33,g34,g35,g36] M K = K #[.slice Ax0 lx0 cx0,g1,g2,g3,g4,g5,.int .i64 x6,g7,g8,g9,g10,.int .i64 x6,.slice Ax0 lx0 cx0,.int .i64 ((lx0 : Int)),.bool (decide (x6 < ((lx0 : Int)))),g15,g16,g17,g18,g19,g20,g21,g22,g23,g24,g25,g26,g27,g28,g29,g30,g31,g32,g33,g34,g35,g36] M := by kernel_rfl
theorem c11_15 : P11 [1,0,1,1,1,0,0,0,0,1] = .cond (.tmp 14) (P11 [1,0,1,1,1,0,0,0,0,1,0]) (P11 [1,0,1,1,1,0,0,0,0,1,1]) := by kernel_rfl
theorem k11_16 : P11 [1,0,1,1,1,0,0,0,0,1,0] = .skip := by kernel_rfl
theorem k11_17 : P11 [1,0,1,1,1,0,0,0,1] = .block 1 (P11 [1,0,1,1,1,0,0,0,1,0]) := by kernel_rfl
theorem k11_18 : P11 [1,0,1,1,1,0,0,0,1,0] = .seq (P11 [1,0,1,1,1,0,0,0,1,0,0]) (P11 [1,0,1,1,1,0,0,0,1,0,1]) := by kernel_rfl
theorem k11_19 : P11 [1,0,1,1,1,0,0,0,1,0,0] = .region 4 (O11 [1,0,1,1,1,0,0,0,1,0,0]) false := by kernel_rfl
theorem r11_4 {Ax0 : Option Addr} {lx0 cx0 : Nat} {x6 : Int} {M : Mem} {call : CallM} {K : Array Value → Mem → R} :
    opsK Try.prog (fun _ => call) (O11 [1,0,1,1,1,0,0,0,1,0,0]) (O11 [1,0,1,1,1,0,0,0,1,0,0]).toList 0 #[.slice Ax0 lx0 cx0,g1,g2,g3,g4,g5,.int .i64 x6,g7,g8,g9,g10,g11,g12,g13,g14,g15,g16,g17,g18,g19,g20,g21,g22,g23,g24,g25,g26,g27,g28,g29,g30,g31,g32,g33,g34,g35,g36] M K = (sliceP Try.prog 22 (.slice Ax0 lx0 cx0) (some (.int .i64 x6)) none none).bind fun v_1 => (asS v_1).bind fun s_2 => (call 27 #[.slice s_2.1 (s_2.2.1) (s_2.2.2)] M).bind fun r_3 => (asU 3 r_3.1).bind fun cs_4 => (asA 2 (cs_4.getD 0 undef)).bind fun cs_5 => (asI .i64 (cs_5.getD 0 undef)).bind fun x_6 => (asS (cs_5.getD 1 undef)).bind fun s_7 => (asI .i64 (cs_4.getD 1 undef)).bind fun x_8 => (asI .i64 (cs_4.getD 2 undef)).bind fun x_9 => ((r_3.2.new (.cells #[.int .i64 0, .slice none 0 0] 44)).put (2 * r_3.2.nb.size) 0 (.int .i64 x_6)).bind fun M_10 => (M_10.put (2 * r_3.2.nb.size) 1 (.slice s_7.1 (s_7.2.1) (s_7.2.2))).bind fun M_11 => K #[.slice Ax0 lx0 cx0,g1,g2,g3,g4,g5,.int .i64 x6,g7,.pointer (some ⟨2 * r_3.2.nb.size, 0, none⟩),.int .i64 x_8,.int .i64 x_9,g11,g12,g13,g14,.tuple #[.agg #[.int .i64 x_6, .slice s_7.1 (s_7.2.1) (s_7.2.2)], .int .i64 x_8, .int .i64 x_9],.slice Ax0 lx0 cx0,.int .i64 x6,.slice s_2.1 (s_2.2.1) (s_2.2.2),.tuple #[.agg #[.int .i64 x_6, .slice s_7.1 (s_7.2.1) (s_7.2.2)], .int .i64 x_8, .int .i64 x_9],.agg #[.int .i64 x_6, .slice s_7.1 (s_7.2.1) (s_7.2.2)],.int .i64 x_8,.int .i64 x_9,g23,g24,g25,g26,g27,g28,g29,g30,g31,g32,g33,g34,g35,g36] M_11 := by kernel_rfl
theorem k11_20 : P11 [1,0,1,1,1,0,0,0,1,0,1] = .seq (P11 [1,0,1,1,1,0,0,0,1,0,1,0]) (P11 [1,0,1,1,1,0,0,0,1,0,1,1]) := by kernel_rfl
theorem k11_21 : P11 [1,0,1,1,1,0,0,0,1,0,1,0] = .region 5 (O11 [1,0,1,1,1,0,0,0,1,0,1,0]) false := by kernel_rfl
theorem r11_5 {x10 : Int} {M : Mem} {call : CallM} {K : Array Value → Mem → R} :
    opsK Try.prog (fun _ => call) (O11 [1,0,1,1,1,0,0,0,1,0,1,0]) (O11 [1,0,1,1,1,0,0,0,1,0,1,0]).toList 0 #[g0,g1,g2,g3,g4,g5,g6,g7,g8,g9,.int .i64 x10,g11,g12,g13,g14,g15,g16,g17,g18,g19,g20,g21,g22,g23,g24,g25,g26,g27,g28,g29,g30,g31,g32,g33,g34,g35,g36] M K = K #[g0,g1,g2,g3,g4,g5,g6,g7,g8,g9,.int .i64 x10,g11,g12,g13,g14,g15,g16,g17,g18,g19,g20,g21,g22,.int .i64 x10,g24,g25,g26,g27,g28,g29,g30,g31,g32,g33,g34,g35,g36] M := by kernel_rfl
theorem k11_22 : P11 [1,0,1,1,1,0,0,0,1,0,1,1] = .block 2 (P11 [1,0,1,1,1,0,0,0,1,0,1,1,0]) := by kernel_rfl
theorem k11_23 : P11 [1,0,1,1,1,0,0,0,1,0,1,1,0] = .seq (P11 [1,0,1,1,1,0,0,0,1,0,1,1,0,0]) (P11 [1,0,1,1,1,0,0,0,1,0,1,1,0,1]) := by kernel_rfl
theorem k11_24 : P11 [1,0,1,1,1,0,0,0,1,0,1,1,0,0] = .region 7 (O11 [1,0,1,1,1,0,0,0,1,0,1,1,0,0]) false := by kernel_rfl
theorem r11_7 {x23 : Int} {M : Mem} {call : CallM} {K : Array Value → Mem → R} :
    opsK Try.prog (fun _ => call) (O11 [1,0,1,1,1,0,0,0,1,0,1,1,0,0]) (O11 [1,0,1,1,1,0,0,0,1,0,1,1,0,0]).toList 0 #[g0,g1,g2,g3,g4,g5,g6,g7,g8,g9,g10,g11,g12,g13,g14,g15,g16,g17,g18,g19,g20,g21,g22,.int .i64 x23,g24,g25,g26,g27,g28,g29,g30,g31,g32,g33,g34,g35,g36] M K = K #[g0,g1,g2,g3,g4,g5,g6,g7,g8,g9,g10,g11,g12,g13,g14,g15,g16,g17,g18,g19,g20,g21,g22,.int .i64 x23,g24,.bool (x23 == 0),.bool (x23 == 0),g27,g28,g29,g30,g31,g32,g33,g34,g35,g36] M := by kernel_rfl
theorem c11_25 : P11 [1,0,1,1,1,0,0,0,1,0,1,1,0,1] = .cond (.tmp 25) (P11 [1,0,1,1,1,0,0,0,1,0,1,1,0,1,0]) (P11 [1,0,1,1,1,0,0,0,1,0,1,1,0,1,1]) := by kernel_rfl
theorem k11_26 : P11 [1,0,1,1,1,0,0,0,1,0,1,1,0,1,0] = .seq (P11 [1,0,1,1,1,0,0,0,1,0,1,1,0,1,0,0]) (P11 [1,0,1,1,1,0,0,0,1,0,1,1,0,1,0,1]) := by kernel_rfl
theorem k11_27 : P11 [1,0,1,1,1,0,0,0,1,0,1,1,0,1,0,0] = .region 8 (O11 [1,0,1,1,1,0,0,0,1,0,1,1,0,1,0,0]) false := by kernel_rfl
theorem r11_8 {Ax5 : Option Addr} {lx5 cx5 : Nat} {x8 : Option Addr} {M : Mem} {call : CallM} {K : Array Value → Mem → R} :
    opsK Try.prog (fun _ => call) (O11 [1,0,1,1,1,0,0,0,1,0,1,1,0,1,0,0]) (O11 [1,0,1,1,1,0,0,0,1,0,1,1,0,1,0,0]).toList 0 #[g0,g1,g2,g3,g4,.slice Ax5 lx5 cx5,g6,g7,.pointer x8,g9,g10,g11,g12,g13,g14,g15,g16,g17,g18,g19,g20,g21,g22,g23,g24,g25,g26,g27,g28,g29,g30,g31,g32,g33,g34,g35,g36] M K = (x8).bind fun a_1 => (M.intAt .i64 a_1.block a_1.off).bind fun x_2 => (M.slAt a_1.block (a_1.off + 1)).bind fun s_3 => (appendP Try.prog #[24, 24] (.slice Ax5 lx5 cx5) (.slice (some ⟨2 * M.nb.size, 0, none⟩) 1 1) (M.new (.cells #[.int .i64 x_2, .slice s_3.1 (s_3.2.1) (s_3.2.2)] 44))).bind fun r_4 => (asS r_4.1).bind fun s_5 => K #[g0,g1,g2,g3,g4,.slice s_5.1 (s_5.2.1) (s_5.2.2),g6,g7,.pointer x8,g9,g10,g11,g12,g13,g14,g15,g16,g17,g18,g19,g20,g21,g22,g23,g24,g25,g26,.slice Ax5 lx5 cx5,.agg #[.int .i64 x_2, .slice s_3.1 (s_3.2.1) (s_3.2.2)],.slice (some ⟨2 * M.nb.size, 0, none⟩) 1 1,.slice s_5.1 (s_5.2.1) (s_5.2.2),g31,g32,g33,g34,g35,g36] r_4.2 := by kernel_rfl
theorem k11_28 : P11 [1,0,1,1,1,0,0,0,1,0,1,1,0,1,0,1] = .region 9 (O11 [1,0,1,1,1,0,0,0,1,0,1,1,0,1,0,1]) false := by kernel_rfl
theorem r11_9 {x6 x9 : Int} {M : Mem} {call : CallM} {K : Array Value → Mem → R} :
    opsK Try.prog (fun _ => call) (O11 [1,0,1,1,1,0,0,0,1,0,1,1,0,1,0,1]) (O11 [1,0,1,1,1,0,0,0,1,0,1,1,0,1,0,1]).toList 0 #[g0,g1,g2,g3,g4,g5,.int .i64 x6,g7,g8,.int .i64 x9,g10,g11,g12,g13,g14,g15,g16,g17,g18,g19,g20,g21,g22,g23,g24,g25,g26,g27,g28,g29,g30,g31,g32,g33,g34,g35,g36] M K = K #[g0,g1,g2,g3,g4,g5,.int .i64 (IntKind.i64.wrap (x6 + x9)),g7,g8,.int .i64 x9,g10,g11,g12,g13,g14,g15,g16,g17,g18,g19,g20,g21,g22,g23,g24,g25,g26,g27,g28,g29,g30,.int .i64 x6,.int .i64 x9,.int .i64 (IntKind.i64.wrap (x6 + x9)),g34,g35,g36] M := by kernel_rfl
theorem k11_29 : P11 [1,0,1,1,1,0,0,0,1,0,1,1,0,1,1] = .seq (P11 [1,0,1,1,1,0,0,0,1,0,1,1,0,1,1,0]) (P11 [1,0,1,1,1,0,0,0,1,0,1,1,0,1,1,1]) := by kernel_rfl
theorem k11_30 : P11 [1,0,1,1,1,0,0,0,1,0,1,1,0,1,1,0] = .region 6 (O11 [1,0,1,1,1,0,0,0,1,0,1,1,0,1,1,0]) false := by kernel_rfl
theorem r11_6 {x10 : Int} {M : Mem} {call : CallM} {K : Array Value → Mem → R} :
    opsK Try.prog (fun _ => call) (O11 [1,0,1,1,1,0,0,0,1,0,1,1,0,1,1,0]) (O11 [1,0,1,1,1,0,0,0,1,0,1,1,0,1,1,0]).toList 0 #[g0,g1,g2,g3,g4,g5,g6,g7,g8,g9,.int .i64 x10,g11,g12,g13,g14,g15,g16,g17,g18,g19,g20,g21,g22,g23,g24,g25,g26,g27,g28,g29,g30,g31,g32,g33,g34,g35,g36] M K = K #[g0,g1,g2,g3,g4,g5,g6,.int .i64 x10,g8,g9,.int .i64 x10,g11,g12,g13,g14,g15,g16,g17,g18,g19,g20,g21,g22,g23,.int .i64 x10,g25,g26,g27,g28,g29,g30,g31,g32,g33,g34,g35,g36] M := by kernel_rfl
theorem k11_31 : P11 [1,0,1,1,1,0,0,0,1,0,1,1,0,1,1,1] = .exit 0 := by kernel_rfl
theorem k11_32 : P11 [1,0,1,1,1,0,0,0,0,1,1] = .exit 0 := by kernel_rfl
theorem k11_33 : P11 [1,0,1,1,1,1] = .seq (P11 [1,0,1,1,1,1,0]) (P11 [1,0,1,1,1,1,1]) := by kernel_rfl
theorem k11_34 : P11 [1,0,1,1,1,1,0] = .region 10 (O11 [1,0,1,1,1,1,0]) false := by kernel_rfl
theorem r11_10 {Ax5 : Option Addr} {lx5 cx5 : Nat} {x6 x7 : Int} {M : Mem} {call : CallM} {K : Array Value → Mem → R} :
    opsK Try.prog (fun _ => call) (O11 [1,0,1,1,1,1,0]) (O11 [1,0,1,1,1,1,0]).toList 0 #[g0,g1,g2,g3,g4,.slice Ax5 lx5 cx5,.int .i64 x6,.int .i64 x7,g8,g9,g10,g11,g12,g13,g14,g15,g16,g17,g18,g19,g20,g21,g22,g23,g24,g25,g26,g27,g28,g29,g30,g31,g32,g33,g34,g35,g36] M K = K #[g0,g1,.slice Ax5 lx5 cx5,.int .i64 x6,.int .i64 x7,.slice Ax5 lx5 cx5,.int .i64 x6,.int .i64 x7,g8,g9,g10,g11,g12,g13,g14,g15,g16,g17,g18,g19,g20,g21,g22,g23,g24,g25,g26,g27,g28,g29,g30,g31,g32,g33,.slice Ax5 lx5 cx5,.int .i64 x6,.int .i64 x7] M := by kernel_rfl
theorem k11_35 : P11 [1,0,1,1,1,1,1] = .ret := by kernel_rfl
theorem e11 {M : Mem} : finish Try.prog Try.f11 #[g0,g1,g2,g3,g4,g5,g6,g7,g8,g9,g10,g11,g12,g13,g14,g15,g16,g17,g18,g19,g20,g21,g22,g23,g24,g25,g26,g27,g28,g29,g30,g31,g32,g33,g34,g35,g36] M = some (.tuple #[g2, g3, g4], M) := by kernel_rfl
noncomputable def S11_1 : List Item := [.code (P11 [1,0,1,1,1,0,0,0]), .inLoop (P11 [1,0,1,1,1,0,0,0]), .inBlock 0, .code (P11 [1,0,1,1,1,1]), .inScope (P11 [1,0])]
def A11_1 (Ax0 : Option Addr) (lx0 cx0 : Nat) (Ax5 : Option Addr) (lx5 cx5 : Nat) (x6 x7 : Int) (M : Mem) (Q : Value → Mem → Prop) : Prop := ∀ (g1 g2 g3 g4 g8 g9 g10 g11 g12 g13 g14 g15 g16 g17 g18 g19 g20 g21 g22 g23 g24 g25 g26 g27 g28 g29 g30 g31 g32 g33 g34 g35 g36 : Value), Rn Try.prog Try.f11 S11_1 #[.slice Ax0 lx0 cx0, g1, g2, g3, g4, .slice Ax5 lx5 cx5, .int .i64 x6, .int .i64 x7, g8, g9, g10, g11, g12, g13, g14, g15, g16, g17, g18, g19, g20, g21, g22, g23, g24, g25, g26, g27, g28, g29, g30, g31, g32, g33, g34, g35, g36] M Q
noncomputable def S11_2 : List Item := [.code (P11 [1,0,1,1,1,1]), .inScope (P11 [1,0])]
def A11_2 (Ax5 : Option Addr) (lx5 cx5 : Nat) (x6 x7 : Int) (M : Mem) (Q : Value → Mem → Prop) : Prop := ∀ (g0 g1 g2 g3 g4 g8 g9 g10 g11 g12 g13 g14 g15 g16 g17 g18 g19 g20 g21 g22 g23 g24 g25 g26 g27 g28 g29 g30 g31 g32 g33 g34 g35 g36 : Value), Rn Try.prog Try.f11 S11_2 #[g0, g1, g2, g3, g4, .slice Ax5 lx5 cx5, .int .i64 x6, .int .i64 x7, g8, g9, g10, g11, g12, g13, g14, g15, g16, g17, g18, g19, g20, g21, g22, g23, g24, g25, g26, g27, g28, g29, g30, g31, g32, g33, g34, g35, g36] M Q
theorem w11_0 {Ax0 : Option Addr} {lx0 cx0 : Nat} {M : Mem} {Q : Value → Mem → Prop} (H :
    A11_1 Ax0 lx0 cx0 none 0 0 0 0 M Q) :
    Cn Try.prog 11 #[.slice Ax0 lx0 cx0] M Q := by
  refine Cn.of b11 d11 t11 ?_
  refine Rn.seq k11_0 (Rn.region k11_1 (fun call K => r11_0) (Rch.leaf (Rn.scope k11_2 (Rn.seq k11_3 (Rn.region k11_4 (fun call K => r11_1) (Rch.leaf (Rn.seq k11_5 (Rn.region k11_6 (fun call K => r11_2) (Rch.leaf (Rn.seq k11_7 (Rn.label k11_8 ?_)))))))))))
  refine Rn.seq k11_9 (Rn.block k11_10 (Rn.loop k11_11 ?_))
  exact H _ _ _ _ _ _ _ _ _ _ _ _ _ _ _ _ _ _ _ _ _ _ _ _ _ _ _ _ _ _ _ _ _

theorem w11_1 {Ax0 : Option Addr} {lx0 cx0 : Nat} {Ax5 : Option Addr} {lx5 cx5 : Nat} {x6 x7 : Int} {M : Mem} {Q : Value → Mem → Prop} (H :
    ((x6 < ((lx0 : Int)) →
     ∃ v1', sliceP Try.prog 22 (.slice Ax0 lx0 cx0) (some (.int .i64 x6)) none none = some v1' ∧
     ∃ s2', asS v1' = some s2' ∧
     Cn Try.prog 27 #[.slice s2'.1 (s2'.2.1) (s2'.2.2)] M fun v3' N3' =>
      ∃ cs4', asU 3 v3' = some cs4' ∧
      ∃ cs5', asA 2 (cs4'.getD 0 undef) = some cs5' ∧
      ∃ x6', asI .i64 (cs5'.getD 0 undef) = some x6' ∧
      ∃ s7', asS (cs5'.getD 1 undef) = some s7' ∧
      ∃ x8', asI .i64 (cs4'.getD 1 undef) = some x8' ∧
      ∃ x9', asI .i64 (cs4'.getD 2 undef) = some x9' ∧
      ∃ M10', (N3'.new (.cells #[.int .i64 0, .slice none 0 0] 44)).put (2 * N3'.nb.size) 0 (.int .i64 x6') = some M10' ∧
      ∃ M11', M10'.put (2 * N3'.nb.size) 1 (.slice s7'.1 (s7'.2.1) (s7'.2.2)) = some M11' ∧
      ((x9' = 0 →
       ∃ x12', M11'.intAt .i64 (2 * N3'.nb.size) 0 = some x12' ∧
       ∃ s13', M11'.slAt (2 * N3'.nb.size) (0 + 1) = some s13' ∧
       ∃ r14', appendP Try.prog #[24, 24] (.slice Ax5 lx5 cx5) (.slice (some ⟨2 * M11'.nb.size, 0, none⟩) 1 1) (M11'.new (.cells #[.int .i64 x12', .slice s13'.1 (s13'.2.1) (s13'.2.2)] 44)) = some r14' ∧
       ∃ s15', asS r14'.1 = some s15' ∧
       A11_1 Ax0 lx0 cx0 s15'.1 s15'.2.1 s15'.2.2 (IntKind.i64.wrap (x6 + x8')) x7 r14'.2 Q) ∧
       (x9' ≠ 0 →
       A11_2 Ax5 lx5 cx5 x6 x9' M11' Q))) ∧
     (¬ (x6 < ((lx0 : Int))) →
     A11_2 Ax5 lx5 cx5 x6 x7 M Q))) :
    A11_1 Ax0 lx0 cx0 Ax5 lx5 cx5 x6 x7 M Q := by
  intro g1 g2 g3 g4 g8 g9 g10 g11 g12 g13 g14 g15 g16 g17 g18 g19 g20 g21 g22 g23 g24 g25 g26 g27 g28 g29 g30 g31 g32 g33 g34 g35 g36
  refine Rn.seq k11_12 (Rn.seq k11_13 (Rn.region k11_14 (fun call K => r11_3) (Rch.leaf ?_)))
  refine Rn.cnd (v := decide (x6 < ((lx0 : Int)))) ⟨c11_15, rfl, by kernel_rfl⟩ (fun h => ?_) (fun h => ?_)
  · replace H := H.1 (of_decide_eq_true h)
    refine Rn.skip k11_16 (Rn.block k11_17 (Rn.seq k11_18 (Rn.region k11_19 (fun call K => r11_4) (Rch.ex H fun v1' H => Rch.ex H fun s2' H => Rch.call H fun v3' N3' H => Rch.ex H fun cs4' H => Rch.ex H fun cs5' H => Rch.ex H fun x6' H => Rch.ex H fun s7' H => Rch.ex H fun x8' H => ?_))))
    refine Rch.ex H fun x9' H => Rch.ex H fun M10' H => Rch.ex H fun M11' H => Rch.leaf (Rn.seq k11_20 (Rn.region k11_21 (fun call K => r11_5) (Rch.leaf (Rn.block k11_22 (Rn.seq k11_23 (Rn.region k11_24 (fun call K => r11_7) (Rch.leaf ?_)))))))
    refine Rn.cnd (v := x9' == 0) ⟨c11_25, rfl, by kernel_rfl⟩ (fun h => ?_) (fun h => ?_)
    · replace H := H.1 (eq_of_beq h)
      refine Rn.seq k11_26 (Rn.region k11_27 (fun call K => r11_8) (Rch.bind (x := ⟨2 * N3'.nb.size, 0, none⟩) rfl (Rch.ex H fun x12' H => Rch.ex H fun s13' H => Rch.ex H fun r14' H => Rch.ex H fun s15' H => Rch.leaf (Rn.region k11_28 (fun call K => r11_9) (Rch.leaf (Rn.blk (Rn.blk ?_)))))))
      refine Rn.lp ?_
      exact H _ _ _ _ _ _ _ _ _ _ _ _ _ _ _ _ _ _ _ _ _ _ _ _ _ _ _ _ _ _ _ _ _
    · replace H := H.2 (ne_of_beq_false h)
      refine Rn.seq k11_29 (Rn.region k11_30 (fun call K => r11_6) (Rch.leaf (Rn.exit k11_31 rfl ?_)))
      exact H _ _ _ _ _ _ _ _ _ _ _ _ _ _ _ _ _ _ _ _ _ _ _ _ _ _ _ _ _ _ _ _ _ _
  · replace H := H.2 (of_decide_eq_false h)
    refine Rn.exit k11_32 rfl ?_
    exact H _ _ _ _ _ _ _ _ _ _ _ _ _ _ _ _ _ _ _ _ _ _ _ _ _ _ _ _ _ _ _ _ _ _

theorem w11_2 {Ax5 : Option Addr} {lx5 cx5 : Nat} {x6 x7 : Int} {M : Mem} {Q : Value → Mem → Prop} (H :
    Q (.tuple #[.slice Ax5 lx5 cx5, .int .i64 x6, .int .i64 x7]) M) :
    A11_2 Ax5 lx5 cx5 x6 x7 M Q := by
  intro g0 g1 g2 g3 g4 g8 g9 g10 g11 g12 g13 g14 g15 g16 g17 g18 g19 g20 g21 g22 g23 g24 g25 g26 g27 g28 g29 g30 g31 g32 g33 g34 g35 g36
  refine Rn.seq k11_33 (Rn.region k11_34 (fun call K => r11_10) (Rch.leaf ?_))
  exact Rn.ret k11_35 e11 H


/-! ### zoetrope/units.Join: function 18 -/
noncomputable abbrev P18 (p : List Nat) : Code := subC (codeOf Try.f18) p
noncomputable abbrev O18 (p : List Nat) : Array Oper := opsOf (subC (codeOf Try.f18) p)
theorem b18 : Try.prog.funcs[18]? = some Try.f18 ∧ (Orc.tab Try.prog).lookup 18 = none := ⟨by kernel_rfl, by kernel_rfl⟩
theorem d18 : Try.f18.body = some (P18 []) := by kernel_rfl
theorem t18 {Ax0 : Option Addr} {lx0 cx0 : Nat} : #[.slice Ax0 lx0 cx0] ++ Array.replicate (Try.f18.ntmps - (#[.slice Ax0 lx0 cx0] : Array Value).size) undef = #[.slice Ax0 lx0 cx0,undef,undef,undef,undef,undef,undef,undef,undef,undef,undef,undef,undef,undef,undef,undef,undef,undef,undef,undef,undef,undef,undef,undef,undef,undef,undef,undef,undef,undef,undef,undef,undef,undef,undef,undef,undef,undef,undef,undef,undef,undef,undef,undef,undef,undef,undef,undef] := by kernel_rfl
theorem k18_0 : P18 [] = .seq (P18 [0]) (P18 [1]) := by kernel_rfl
theorem k18_1 : P18 [0] = .region 0 (O18 [0]) false := by kernel_rfl
theorem r18_0 {M : Mem} {call : CallM} {K : Array Value → Mem → R} :
    opsK Try.prog (fun _ => call) (O18 [0]) (O18 [0]).toList 0 #[g0,g1,g2,g3,g4,g5,g6,g7,g8,g9,g10,g11,g12,g13,g14,g15,g16,g17,g18,g19,g20,g21,g22,g23,g24,g25,g26,g27,g28,g29,g30,g31,g32,g33,g34,g35,g36,g37,g38,g39,g40,g41,g42,g43,g44,g45,g46,g47] M K = K #[g0,g1,.slice none 0 0,.int .i64 0,g4,g5,g6,g7,g8,g9,g10,g11,g12,g13,g14,g15,g16,g17,g18,g19,g20,g21,g22,g23,g24,g25,g26,g27,g28,g29,g30,g31,g32,g33,g34,g35,g36,g37,g38,g39,g40,g41,g42,g43,g44,g45,g46,g47] M := by kernel_rfl
theorem k18_2 : P18 [1] = .seq (P18 [1,0]) (P18 [1,1]) := by kernel_rfl
theorem k18_3 : P18 [1,0] = .region 1 (O18 [1,0]) false := by kernel_rfl
theorem r18_1 {M : Mem} {call : CallM} {K : Array Value → Mem → R} :
    opsK Try.prog (fun _ => call) (O18 [1,0]) (O18 [1,0]).toList 0 #[g0,g1,g2,g3,g4,g5,g6,g7,g8,g9,g10,g11,g12,g13,g14,g15,g16,g17,g18,g19,g20,g21,g22,g23,g24,g25,g26,g27,g28,g29,g30,g31,g32,g33,g34,g35,g36,g37,g38,g39,g40,g41,g42,g43,g44,g45,g46,g47] M K = K #[g0,g1,g2,g3,.slice none 0 0,g5,g6,g7,g8,g9,g10,g11,g12,g13,g14,g15,g16,g17,g18,g19,g20,g21,g22,g23,g24,g25,g26,g27,g28,g29,g30,g31,g32,g33,g34,g35,g36,g37,g38,g39,g40,g41,g42,g43,g44,g45,g46,g47] M := by kernel_rfl
theorem k18_4 : P18 [1,1] = .seq (P18 [1,1,0]) (P18 [1,1,1]) := by kernel_rfl
theorem k18_5 : P18 [1,1,0] = .seq (P18 [1,1,0,0]) (P18 [1,1,0,1]) := by kernel_rfl
theorem k18_6 : P18 [1,1,0,0] = .region 2 (O18 [1,1,0,0]) false := by kernel_rfl
theorem r18_2 {Ax0 : Option Addr} {lx0 cx0 : Nat} {M : Mem} {call : CallM} {K : Array Value → Mem → R} :
    opsK Try.prog (fun _ => call) (O18 [1,1,0,0]) (O18 [1,1,0,0]).toList 0 #[.slice Ax0 lx0 cx0,g1,g2,g3,g4,g5,g6,g7,g8,g9,g10,g11,g12,g13,g14,g15,g16,g17,g18,g19,g20,g21,g22,g23,g24,g25,g26,g27,g28,g29,g30,g31,g32,g33,g34,g35,g36,g37,g38,g39,g40,g41,g42,g43,g44,g45,g46,g47] M K = K #[.slice Ax0 lx0 cx0,g1,g2,g3,g4,g5,g6,g7,g8,.slice Ax0 lx0 cx0,.int .i64 ((lx0 : Int)),.int .i64 0,g12,g13,g14,g15,g16,g17,g18,g19,g20,g21,g22,g23,g24,g25,g26,g27,g28,g29,g30,g31,g32,g33,g34,g35,g36,g37,g38,g39,g40,g41,g42,g43,g44,g45,g46,g47] M := by kernel_rfl
theorem k18_7 : P18 [1,1,0,1] = .block 0 (P18 [1,1,0,1,0]) := by kernel_rfl
theorem k18_8 : P18 [1,1,0,1,0] = .loop (P18 [1,1,0,1,0,0]) := by kernel_rfl
theorem k18_9 : P18 [1,1,0,1,0,0] = .seq (P18 [1,1,0,1,0,0,0]) (P18 [1,1,0,1,0,0,1]) := by kernel_rfl
theorem k18_10 : P18 [1,1,0,1,0,0,0] = .region 3 (O18 [1,1,0,1,0,0,0]) false := by kernel_rfl
theorem r18_3 {x10 x11 : Int} {M : Mem} {call : CallM} {K : Array Value → Mem → R} :
    opsK Try.prog (fun _ => call) (O18 [1,1,0,1,0,0,0]) (O18 [1,1,0,1,0,0,0]).toList 0 #[g0,g1,g2,g3,g4,g5,g6,g7,g8,g9,.int .i64 x10,.int .i64 x11,g12,g13,g14,g15,g16,g17,g18,g19,g20,g21,g22,g23,g24,g25,g26,g27,g28,g29,g30,g31,g32,g33,g34,g35,g36,g37,g38,g39,g40,g41,g42,g43,g44,g45,g46,g47] M K = K #[g0,g1,g2,g3,g4,g5,g6,g7,g8,g9,.int .i64 x10,.int .i64 x11,.bool (decide (x11 < x10)),g13,g14,g15,g16,g17,g18,g19,g20,g21,g22,g23,g24,g25,g26,g27,g28,g29,g30,g31,g32,g33,g34,g35,g36,g37,g38,g39,g40,g41,g42,g43,g44,g45,g46,g47] M := by kernel_rfl
theorem k18_11 : P18 [1,1,0,1,0,0,1] = .seq (P18 [1,1,0,1,0,0,1,0]) (P18 [1,1,0,1,0,0,1,1]) := by kernel_rfl
theorem c18_12 : P18 [1,1,0,1,0,0,1,0] = .cond (.tmp 12) (P18 [1,1,0,1,0,0,1,0,0]) (P18 [1,1,0,1,0,0,1,0,1]) := by kernel_rfl
theorem k18_13 : P18 [1,1,0,1,0,0,1,0,0] = .skip := by kernel_rfl
theorem k18_14 : P18 [1,1,0,1,0,0,1,1] = .seq (P18 [1,1,0,1,0,0,1,1,0]) (P18 [1,1,0,1,0,0,1,1,1]) := by kernel_rfl
theorem k18_15 : P18 [1,1,0,1,0,0,1,1,0] = .block 1 (P18 [1,1,0,1,0,0,1,1,0,0]) := by kernel_rfl
theorem k18_16 : P18 [1,1,0,1,0,0,1,1,0,0] = .seq (P18 [1,1,0,1,0,0,1,1,0,0,0]) (P18 [1,1,0,1,0,0,1,1,0,0,1]) := by kernel_rfl
theorem k18_17 : P18 [1,1,0,1,0,0,1,1,0,0,0] = .region 4 (O18 [1,1,0,1,0,0,1,1,0,0,0]) false := by kernel_rfl
theorem r18_4 {Ax9 : Option Addr} {lx9 cx9 : Nat} {x11 : Int} {M : Mem} {call : CallM} {K : Array Value → Mem → R} :
    opsK Try.prog (fun _ => call) (O18 [1,1,0,1,0,0,1,1,0,0,0]) (O18 [1,1,0,1,0,0,1,1,0,0,0]).toList 0 #[g0,g1,g2,g3,g4,g5,g6,g7,g8,.slice Ax9 lx9 cx9,g10,.int .i64 x11,g12,g13,g14,g15,g16,g17,g18,g19,g20,g21,g22,g23,g24,g25,g26,g27,g28,g29,g30,g31,g32,g33,g34,g35,g36,g37,g38,g39,g40,g41,g42,g43,g44,g45,g46,g47] M K = (idxA Ax9 lx9 2 x11).bind fun a_1 => (M.intAt .i64 a_1.block a_1.off).bind fun x_2 => (M.slAt a_1.block (a_1.off + 1)).bind fun s_3 => ((M.new (.cells #[.int .i64 0, .slice none 0 0] 44)).put (2 * M.nb.size) 0 (.int .i64 x_2)).bind fun M_4 => (M_4.put (2 * M.nb.size) 1 (.slice s_3.1 (s_3.2.1) (s_3.2.2))).bind fun M_5 => K #[g0,g1,g2,g3,g4,g5,.pointer (some ⟨2 * M.nb.size, 0, none⟩),g7,g8,.slice Ax9 lx9 cx9,g10,.int .i64 x11,g12,.pointer (some a_1),.agg #[.int .i64 x_2, .slice s_3.1 (s_3.2.1) (s_3.2.2)],g15,g16,g17,g18,g19,g20,g21,g22,g23,g24,g25,g26,g27,g28,g29,g30,g31,g32,g33,g34,g35,g36,g37,g38,g39,g40,g41,g42,g43,g44,g45,g46,g47] M_5 := by kernel_rfl
theorem k18_18 : P18 [1,1,0,1,0,0,1,1,0,0,1] = .seq (P18 [1,1,0,1,0,0,1,1,0,0,1,0]) (P18 [1,1,0,1,0,0,1,1,0,0,1,1]) := by kernel_rfl
theorem k18_19 : P18 [1,1,0,1,0,0,1,1,0,0,1,0] = .seq (P18 [1,1,0,1,0,0,1,1,0,0,1,0,0]) (P18 [1,1,0,1,0,0,1,1,0,0,1,0,1]) := by kernel_rfl
theorem k18_20 : P18 [1,1,0,1,0,0,1,1,0,0,1,0,0] = .region 5 (O18 [1,1,0,1,0,0,1,1,0,0,1,0,0]) false := by kernel_rfl
theorem r18_5 {x6 : Option Addr} {M : Mem} {call : CallM} {K : Array Value → Mem → R} :
    opsK Try.prog (fun _ => call) (O18 [1,1,0,1,0,0,1,1,0,0,1,0,0]) (O18 [1,1,0,1,0,0,1,1,0,0,1,0,0]).toList 0 #[g0,g1,g2,g3,g4,g5,.pointer x6,g7,g8,g9,g10,g11,g12,g13,g14,g15,g16,g17,g18,g19,g20,g21,g22,g23,g24,g25,g26,g27,g28,g29,g30,g31,g32,g33,g34,g35,g36,g37,g38,g39,g40,g41,g42,g43,g44,g45,g46,g47] M K = (x6).bind fun a_1 => (M.intAt .i64 a_1.block a_1.off).bind fun x_2 => (call 29 #[.int .i64 x_2] M).bind fun r_3 => (asB r_3.1).bind fun b_4 => K #[g0,g1,g2,g3,g4,g5,.pointer x6,g7,g8,g9,g10,g11,g12,g13,g14,.pointer (some ⟨a_1.block, a_1.off, none⟩),.int .i64 x_2,.bool b_4,.bool (!b_4),g19,g20,g21,g22,g23,g24,g25,g26,g27,g28,g29,g30,g31,g32,g33,g34,g35,g36,g37,g38,g39,g40,g41,g42,g43,g44,g45,g46,g47] r_3.2 := by kernel_rfl
theorem c18_21 : P18 [1,1,0,1,0,0,1,1,0,0,1,0,1] = .cond (.tmp 18) (P18 [1,1,0,1,0,0,1,1,0,0,1,0,1,0]) (P18 [1,1,0,1,0,0,1,1,0,0,1,0,1,1]) := by kernel_rfl
theorem k18_22 : P18 [1,1,0,1,0,0,1,1,0,0,1,0,1,0] = .seq (P18 [1,1,0,1,0,0,1,1,0,0,1,0,1,0,0]) (P18 [1,1,0,1,0,0,1,1,0,0,1,0,1,0,1]) := by kernel_rfl
theorem k18_23 : P18 [1,1,0,1,0,0,1,1,0,0,1,0,1,0,0] = .region 6 (O18 [1,1,0,1,0,0,1,1,0,0,1,0,1,0,0]) false := by kernel_rfl
theorem r18_6 {M : Mem} {call : CallM} {K : Array Value → Mem → R} :
    opsK Try.prog (fun _ => call) (O18 [1,1,0,1,0,0,1,1,0,0,1,0,1,0,0]) (O18 [1,1,0,1,0,0,1,1,0,0,1,0,1,0,0]).toList 0 #[g0,g1,g2,g3,g4,g5,g6,g7,g8,g9,g10,g11,g12,g13,g14,g15,g16,g17,g18,g19,g20,g21,g22,g23,g24,g25,g26,g27,g28,g29,g30,g31,g32,g33,g34,g35,g36,g37,g38,g39,g40,g41,g42,g43,g44,g45,g46,g47] M K = K #[g0,g1,.slice none 0 0,.int .i64 2,g4,g5,g6,g7,g8,g9,g10,g11,g12,g13,g14,g15,g16,g17,g18,g19,g20,g21,g22,g23,g24,g25,g26,g27,g28,g29,g30,g31,g32,g33,g34,g35,g36,g37,g38,g39,g40,g41,g42,g43,g44,g45,g46,g47] M := by kernel_rfl
theorem k18_24 : P18 [1,1,0,1,0,0,1,1,0,0,1,0,1,0,1] = .ret := by kernel_rfl
theorem e18 {M : Mem} : finish Try.prog Try.f18 #[g0,g1,g2,g3,g4,g5,g6,g7,g8,g9,g10,g11,g12,g13,g14,g15,g16,g17,g18,g19,g20,g21,g22,g23,g24,g25,g26,g27,g28,g29,g30,g31,g32,g33,g34,g35,g36,g37,g38,g39,g40,g41,g42,g43,g44,g45,g46,g47] M = some (.tuple #[g2, g3], M) := by kernel_rfl
theorem k18_26 : P18 [1,1,0,1,0,0,1,1,0,0,1,0,1,1] = .skip := by kernel_rfl
theorem k18_27 : P18 [1,1,0,1,0,0,1,1,0,0,1,1] = .seq (P18 [1,1,0,1,0,0,1,1,0,0,1,1,0]) (P18 [1,1,0,1,0,0,1,1,0,0,1,1,1]) := by kernel_rfl
theorem k18_28 : P18 [1,1,0,1,0,0,1,1,0,0,1,1,0] = .seq (P18 [1,1,0,1,0,0,1,1,0,0,1,1,0,0]) (P18 [1,1,0,1,0,0,1,1,0,0,1,1,0,1]) := by kernel_rfl
theorem k18_29 : P18 [1,1,0,1,0,0,1,1,0,0,1,1,0,0] = .region 7 (O18 [1,1,0,1,0,0,1,1,0,0,1,1,0,0]) false := by kernel_rfl
theorem r18_7 {x6 : Option Addr} {M : Mem} {call : CallM} {K : Array Value → Mem → R} :
    opsK Try.prog (fun _ => call) (O18 [1,1,0,1,0,0,1,1,0,0,1,1,0,0]) (O18 [1,1,0,1,0,0,1,1,0,0,1,1,0,0]).toList 0 #[g0,g1,g2,g3,g4,g5,.pointer x6,g7,g8,g9,g10,g11,g12,g13,g14,g15,g16,g17,g18,g19,g20,g21,g22,g23,g24,g25,g26,g27,g28,g29,g30,g31,g32,g33,g34,g35,g36,g37,g38,g39,g40,g41,g42,g43,g44,g45,g46,g47] M K = (x6).bind fun a_1 => (M.slAt a_1.block (a_1.off + 1)).bind fun s_2 => K #[g0,g1,g2,g3,g4,g5,.pointer x6,g7,g8,g9,g10,g11,g12,g13,g14,g15,g16,g17,g18,.pointer (some ⟨a_1.block, a_1.off + 1, none⟩),.slice s_2.1 (s_2.2.1) (s_2.2.2),.int .i64 ((s_2.2.1 : Int)),.bool (decide (((s_2.2.1 : Int)) > 16777216)),g23,g24,g25,g26,g27,g28,g29,g30,g31,g32,g33,g34,g35,g36,g37,g38,g39,g40,g41,g42,g43,g44,g45,g46,g47] M := by kernel_rfl
theorem c18_30 : P18 [1,1,0,1,0,0,1,1,0,0,1,1,0,1] = .cond (.tmp 22) (P18 [1,1,0,1,0,0,1,1,0,0,1,1,0,1,0]) (P18 [1,1,0,1,0,0,1,1,0,0,1,1,0,1,1]) := by kernel_rfl
theorem k18_31 : P18 [1,1,0,1,0,0,1,1,0,0,1,1,0,1,0] = .seq (P18 [1,1,0,1,0,0,1,1,0,0,1,1,0,1,0,0]) (P18 [1,1,0,1,0,0,1,1,0,0,1,1,0,1,0,1]) := by kernel_rfl
theorem k18_32 : P18 [1,1,0,1,0,0,1,1,0,0,1,1,0,1,0,0] = .region 8 (O18 [1,1,0,1,0,0,1,1,0,0,1,1,0,1,0,0]) false := by kernel_rfl
theorem r18_8 {M : Mem} {call : CallM} {K : Array Value → Mem → R} :
    opsK Try.prog (fun _ => call) (O18 [1,1,0,1,0,0,1,1,0,0,1,1,0,1,0,0]) (O18 [1,1,0,1,0,0,1,1,0,0,1,1,0,1,0,0]).toList 0 #[g0,g1,g2,g3,g4,g5,g6,g7,g8,g9,g10,g11,g12,g13,g14,g15,g16,g17,g18,g19,g20,g21,g22,g23,g24,g25,g26,g27,g28,g29,g30,g31,g32,g33,g34,g35,g36,g37,g38,g39,g40,g41,g42,g43,g44,g45,g46,g47] M K = K #[g0,g1,.slice none 0 0,.int .i64 5,g4,g5,g6,g7,g8,g9,g10,g11,g12,g13,g14,g15,g16,g17,g18,g19,g20,g21,g22,g23,g24,g25,g26,g27,g28,g29,g30,g31,g32,g33,g34,g35,g36,g37,g38,g39,g40,g41,g42,g43,g44,g45,g46,g47] M := by kernel_rfl
theorem k18_33 : P18 [1,1,0,1,0,0,1,1,0,0,1,1,0,1,0,1] = .ret := by kernel_rfl
theorem k18_34 : P18 [1,1,0,1,0,0,1,1,0,0,1,1,0,1,1] = .skip := by kernel_rfl
theorem k18_35 : P18 [1,1,0,1,0,0,1,1,0,0,1,1,1] = .seq (P18 [1,1,0,1,0,0,1,1,0,0,1,1,1,0]) (P18 [1,1,0,1,0,0,1,1,0,0,1,1,1,1]) := by kernel_rfl
theorem k18_36 : P18 [1,1,0,1,0,0,1,1,0,0,1,1,1,0] = .region 9 (O18 [1,1,0,1,0,0,1,1,0,0,1,1,1,0]) false := by kernel_rfl
theorem r18_9 {M : Mem} {call : CallM} {K : Array Value → Mem → R} :
    opsK Try.prog (fun _ => call) (O18 [1,1,0,1,0,0,1,1,0,0,1,1,1,0]) (O18 [1,1,0,1,0,0,1,1,0,0,1,1,1,0]).toList 0 #[g0,g1,g2,g3,g4,g5,g6,g7,g8,g9,g10,g11,g12,g13,g14,g15,g16,g17,g18,g19,g20,g21,g22,g23,g24,g25,g26,g27,g28,g29,g30,g31,g32,g33,g34,g35,g36,g37,g38,g39,g40,g41,g42,g43,g44,g45,g46,g47] M K = (call 30 #[] M).bind fun r_1 => (asP r_1.1).bind fun p_2 => K #[g0,g1,g2,g3,g4,g5,g6,.pointer p_2,g8,g9,g10,g11,g12,g13,g14,g15,g16,g17,g18,g19,g20,g21,g22,.pointer p_2,g24,g25,g26,g27,g28,g29,g30,g31,g32,g33,g34,g35,g36,g37,g38,g39,g40,g41,g42,g43,g44,g45,g46,g47] r_1.2 := by kernel_rfl
theorem k18_37 : P18 [1,1,0,1,0,0,1,1,0,0,1,1,1,1] = .seq (P18 [1,1,0,1,0,0,1,1,0,0,1,1,1,1,0]) (P18 [1,1,0,1,0,0,1,1,0,0,1,1,1,1,1]) := by kernel_rfl
theorem k18_38 : P18 [1,1,0,1,0,0,1,1,0,0,1,1,1,1,0] = .region 10 (O18 [1,1,0,1,0,0,1,1,0,0,1,1,1,1,0]) false := by kernel_rfl
theorem r18_10 {x6 x7 : Option Addr} {M : Mem} {call : CallM} {K : Array Value → Mem → R} :
    opsK Try.prog (fun _ => call) (O18 [1,1,0,1,0,0,1,1,0,0,1,1,1,1,0]) (O18 [1,1,0,1,0,0,1,1,0,0,1,1,1,1,0]).toList 0 #[g0,g1,g2,g3,g4,g5,.pointer x6,.pointer x7,g8,g9,g10,g11,g12,g13,g14,g15,g16,g17,g18,g19,g20,g21,g22,g23,g24,g25,g26,g27,g28,g29,g30,g31,g32,g33,g34,g35,g36,g37,g38,g39,g40,g41,g42,g43,g44,g45,g46,g47] M K = (x6).bind fun a_1 => (M.intAt .i64 a_1.block a_1.off).bind fun x_2 => (call 31 #[.pointer x7, .int .u32 (IntKind.u32.wrap (IntKind.i64.wrap (x_2 * 16))), .int .i64 8] M).bind fun r_3 => (asI .i64 r_3.1).bind fun x_4 => K #[g0,g1,g2,g3,g4,g5,.pointer x6,.pointer x7,g8,g9,g10,g11,g12,g13,g14,g15,g16,g17,g18,g19,g20,g21,g22,g23,.pointer x7,.pointer (some ⟨a_1.block, a_1.off, none⟩),.int .i64 x_2,.int .i64 (IntKind.i64.wrap (x_2 * 16)),.int .u32 (IntKind.u32.wrap (IntKind.i64.wrap (x_2 * 16))),.int .i64 x_4,g30,g31,g32,g33,g34,g35,g36,g37,g38,g39,g40,g41,g42,g43,g44,g45,g46,g47] r_3.2 := by kernel_rfl
theorem k18_39 : P18 [1,1,0,1,0,0,1,1,0,0,1,1,1,1,1] = .seq (P18 [1,1,0,1,0,0,1,1,0,0,1,1,1,1,1,0]) (P18 [1,1,0,1,0,0,1,1,0,0,1,1,1,1,1,1]) := by kernel_rfl
theorem k18_40 : P18 [1,1,0,1,0,0,1,1,0,0,1,1,1,1,1,0] = .seq (P18 [1,1,0,1,0,0,1,1,0,0,1,1,1,1,1,0,0]) (P18 [1,1,0,1,0,0,1,1,0,0,1,1,1,1,1,0,1]) := by kernel_rfl
theorem k18_41 : P18 [1,1,0,1,0,0,1,1,0,0,1,1,1,1,1,0,0] = .region 11 (O18 [1,1,0,1,0,0,1,1,0,0,1,1,1,1,1,0,0]) false := by kernel_rfl
theorem r18_11 {x6 x7 : Option Addr} {M : Mem} {call : CallM} {K : Array Value → Mem → R} :
    opsK Try.prog (fun _ => call) (O18 [1,1,0,1,0,0,1,1,0,0,1,1,1,1,1,0,0]) (O18 [1,1,0,1,0,0,1,1,0,0,1,1,1,1,1,0,0]).toList 0 #[g0,g1,g2,g3,g4,g5,.pointer x6,.pointer x7,g8,g9,g10,g11,g12,g13,g14,g15,g16,g17,g18,g19,g20,g21,g22,g23,g24,g25,g26,g27,g28,g29,g30,g31,g32,g33,g34,g35,g36,g37,g38,g39,g40,g41,g42,g43,g44,g45,g46,g47] M K = (x6).bind fun a_1 => (M.slAt a_1.block (a_1.off + 1)).bind fun s_2 => (call 32 #[.pointer x7, .int .u32 (IntKind.u32.wrap ((s_2.2.1 : Int)))] M).bind fun r_3 => (asI .i64 r_3.1).bind fun x_4 => K #[g0,g1,g2,g3,g4,g5,.pointer x6,.pointer x7,.int .i64 x_4,g9,g10,g11,g12,g13,g14,g15,g16,g17,g18,g19,g20,g21,g22,g23,g24,g25,g26,g27,g28,g29,.pointer x7,.pointer (some ⟨a_1.block, a_1.off + 1, none⟩),.slice s_2.1 (s_2.2.1) (s_2.2.2),.int .i64 ((s_2.2.1 : Int)),.int .u32 (IntKind.u32.wrap ((s_2.2.1 : Int))),.int .i64 x_4,g36,g37,g38,g39,g40,g41,g42,g43,g44,g45,g46,g47] r_3.2 := by kernel_rfl
theorem k18_42 : P18 [1,1,0,1,0,0,1,1,0,0,1,1,1,1,1,0,1] = .seq (P18 [1,1,0,1,0,0,1,1,0,0,1,1,1,1,1,0,1,0]) (P18 [1,1,0,1,0,0,1,1,0,0,1,1,1,1,1,0,1,1]) := by kernel_rfl
theorem k18_43 : P18 [1,1,0,1,0,0,1,1,0,0,1,1,1,1,1,0,1,0] = .region 12 (O18 [1,1,0,1,0,0,1,1,0,0,1,1,1,1,1,0,1,0]) false := by kernel_rfl
theorem r18_12 {x8 : Int} {M : Mem} {call : CallM} {K : Array Value → Mem → R} :
    opsK Try.prog (fun _ => call) (O18 [1,1,0,1,0,0,1,1,0,0,1,1,1,1,1,0,1,0]) (O18 [1,1,0,1,0,0,1,1,0,0,1,1,1,1,1,0,1,0]).toList 0 #[g0,g1,g2,g3,g4,g5,g6,g7,.int .i64 x8,g9,g10,g11,g12,g13,g14,g15,g16,g17,g18,g19,g20,g21,g22,g23,g24,g25,g26,g27,g28,g29,g30,g31,g32,g33,g34,g35,g36,g37,g38,g39,g40,g41,g42,g43,g44,g45,g46,g47] M K = K #[g0,g1,g2,g3,g4,g5,g6,g7,.int .i64 x8,g9,g10,g11,g12,g13,g14,g15,g16,g17,g18,g19,g20,g21,g22,g23,g24,g25,g26,g27,g28,g29,g30,g31,g32,g33,g34,g35,.int .i64 x8,.bool (x8 != 0),g38,g39,g40,g41,g42,g43,g44,g45,g46,g47] M := by kernel_rfl
theorem c18_44 : P18 [1,1,0,1,0,0,1,1,0,0,1,1,1,1,1,0,1,1] = .cond (.tmp 37) (P18 [1,1,0,1,0,0,1,1,0,0,1,1,1,1,1,0,1,1,0]) (P18 [1,1,0,1,0,0,1,1,0,0,1,1,1,1,1,0,1,1,1]) := by kernel_rfl
theorem k18_45 : P18 [1,1,0,1,0,0,1,1,0,0,1,1,1,1,1,0,1,1,0] = .seq (P18 [1,1,0,1,0,0,1,1,0,0,1,1,1,1,1,0,1,1,0,0]) (P18 [1,1,0,1,0,0,1,1,0,0,1,1,1,1,1,0,1,1,0,1]) := by kernel_rfl
theorem k18_46 : P18 [1,1,0,1,0,0,1,1,0,0,1,1,1,1,1,0,1,1,0,0] = .region 13 (O18 [1,1,0,1,0,0,1,1,0,0,1,1,1,1,1,0,1,1,0,0]) false := by kernel_rfl
theorem r18_13 {x8 : Int} {M : Mem} {call : CallM} {K : Array Value → Mem → R} :
    opsK Try.prog (fun _ => call) (O18 [1,1,0,1,0,0,1,1,0,0,1,1,1,1,1,0,1,1,0,0]) (O18 [1,1,0,1,0,0,1,1,0,0,1,1,1,1,1,0,1,1,0,0]).toList 0 #[g0,g1,g2,g3,g4,g5,g6,g7,.int .i64 x8,g9,g10,g11,g12,g13,g14,g15,g16,g17,g18,g19,g20,g21,g22,g23,g24,g25,g26,g27,g28,g29,g30,g31,g32,g33,g34,g35,g36,g37,g38,g39,g40,g41,g42,g43,g44,g45,g46,g47] M K = K #[g0,g1,.slice none 0 0,.int .i64 x8,g4,g5,g6,g7,.int .i64 x8,g9,g10,g11,g12,g13,g14,g15,g16,g17,g18,g19,g20,g21,g22,g23,g24,g25,g26,g27,g28,g29,g30,g31,g32,g33,g34,g35,g36,g37,.int .i64 x8,g39,g40,g41,g42,g43,g44,g45,g46,g47] M := by kernel_rfl
theorem k18_47 : P18 [1,1,0,1,0,0,1,1,0,0,1,1,1,1,1,0,1,1,0,1] = .ret := by kernel_rfl
theorem k18_48 : P18 [1,1,0,1,0,0,1,1,0,0,1,1,1,1,1,0,1,1,1] = .skip := by kernel_rfl
theorem k18_49 : P18 [1,1,0,1,0,0,1,1,0,0,1,1,1,1,1,1] = .region 14 (O18 [1,1,0,1,0,0,1,1,0,0,1,1,1,1,1,1]) true ∧ drawOk (O18 [1,1,0,1,0,0,1,1,0,0,1,1,1,1,1,1]) = true := ⟨by kernel_rfl, by kernel_rfl⟩
theorem r18_14 {Ax4 : Option Addr} {lx4 cx4 : Nat} {x6 x7 : Option Addr} {M : Mem} {call : CallM} {K : Array Value → Mem → R} :
    opsI Try.prog (callAt call (O18 [1,1,0,1,0,0,1,1,0,0,1,1,1,1,1,1])) (O18 [1,1,0,1,0,0,1,1,0,0,1,1,1,1,1,1]) (ordOf (O18 [1,1,0,1,0,0,1,1,0,0,1,1,1,1,1,1])) [] #[g0,g1,g2,g3,.slice Ax4 lx4 cx4,g5,.pointer x6,.pointer x7,g8,g9,g10,g11,g12,g13,g14,g15,g16,g17,g18,g19,g20,g21,g22,g23,g24,g25,g26,g27,g28,g29,g30,g31,g32,g33,g34,g35,g36,g37,g38,g39,g40,g41,g42,g43,g44,g45,g46,g47] M K = (x6).bind fun a_1 => (M.slAt a_1.block (a_1.off + 1)).bind fun s_2 => (floored call 33 #[.pointer x7] M).bind fun r_3 => (asS r_3.1).bind fun s_4 => cond (decide (Ax4.map (fun a => a.block) = some a_1.block)) (none) ((appendP Try.prog #[22, 22] (.slice Ax4 lx4 cx4) (.slice s_4.1 (s_4.2.1) (s_4.2.2)) r_3.2).bind fun r_5 => (asS r_5.1).bind fun s_6 => (appendP Try.prog #[22, 22] (.slice s_6.1 (s_6.2.1) (s_6.2.2)) (.slice s_2.1 (s_2.2.1) (s_2.2.2)) r_5.2).bind fun r_7 => (asS r_7.1).bind fun s_8 => K #[g0,g1,g2,g3,.slice s_8.1 (s_8.2.1) (s_8.2.2),g5,.pointer x6,.pointer x7,g8,g9,g10,g11,g12,g13,g14,g15,g16,g17,g18,g19,g20,g21,g22,g23,g24,g25,g26,g27,g28,g29,g30,g31,g32,g33,g34,g35,g36,g37,g38,.slice Ax4 lx4 cx4,.pointer x7,.slice s_4.1 (s_4.2.1) (s_4.2.2),.slice s_6.1 (s_6.2.1) (s_6.2.2),.pointer (some ⟨a_1.block, a_1.off + 1, none⟩),.slice s_2.1 (s_2.2.1) (s_2.2.2),.slice s_8.1 (s_8.2.1) (s_8.2.2),g46,g47] r_7.2) := by kernel_rfl
theorem k18_50 : P18 [1,1,0,1,0,0,1,1,1] = .region 15 (O18 [1,1,0,1,0,0,1,1,1]) false := by kernel_rfl
theorem r18_15 {x11 : Int} {M : Mem} {call : CallM} {K : Array Value → Mem → R} :
    opsK Try.prog (fun _ => call) (O18 [1,1,0,1,0,0,1,1,1]) (O18 [1,1,0,1,0,0,1,1,1]).toList 0 #[g0,g1,g2,g3,g4,g5,g6,g7,g8,g9,g10,.int .i64 x11,g12,g13,g14,g15,g16,g17,g18,g19,g20,g21,g22,g23,g24,g25,g26,g27,g28,g29,g30,g31,g32,g33,g34,g35,g36,g37,g38,g39,g40,g41,g42,g43,g44,g45,g46,g47] M K = K #[g0,g1,g2,g3,g4,g5,g6,g7,g8,g9,g10,.int .i64 (IntKind.i64.wrap (x11 + 1)),g12,g13,g14,g15,g16,g17,g18,g19,g20,g21,g22,g23,g24,g25,g26,g27,g28,g29,g30,g31,g32,g33,g34,g35,g36,g37,g38,g39,g40,g41,g42,g43,g44,g45,.int .i64 (IntKind.i64.wrap (x11 + 1)),g47] M := by kernel_rfl
theorem k18_51 : P18 [1,1,0,1,0,0,1,0,1] = .exit 0 := by kernel_rfl
theorem k18_52 : P18 [1,1,1] = .seq (P18 [1,1,1,0]) (P18 [1,1,1,1]) := by kernel_rfl
theorem k18_53 : P18 [1,1,1,0] = .region 16 (O18 [1,1,1,0]) false := by kernel_rfl
theorem r18_16 {Ax4 : Option Addr} {lx4 cx4 : Nat} {M : Mem} {call : CallM} {K : Array Value → Mem → R} :
    opsK Try.prog (fun _ => call) (O18 [1,1,1,0]) (O18 [1,1,1,0]).toList 0 #[g0,g1,g2,g3,.slice Ax4 lx4 cx4,g5,g6,g7,g8,g9,g10,g11,g12,g13,g14,g15,g16,g17,g18,g19,g20,g21,g22,g23,g24,g25,g26,g27,g28,g29,g30,g31,g32,g33,g34,g35,g36,g37,g38,g39,g40,g41,g42,g43,g44,g45,g46,g47] M K = K #[g0,g1,.slice Ax4 lx4 cx4,.int .i64 0,.slice Ax4 lx4 cx4,g5,g6,g7,g8,g9,g10,g11,g12,g13,g14,g15,g16,g17,g18,g19,g20,g21,g22,g23,g24,g25,g26,g27,g28,g29,g30,g31,g32,g33,g34,g35,g36,g37,g38,g39,g40,g41,g42,g43,g44,g45,g46,.slice Ax4 lx4 cx4] M := by kernel_rfl
theorem k18_54 : P18 [1,1,1,1] = .ret := by kernel_rfl
noncomputable def S18_1 : List Item := [.code (P18 [1,1,0,1,0,0]), .inLoop (P18 [1,1,0,1,0,0]), .inBlock 0, .code (P18 [1,1,1])]
def A18_1 (Ax4 : Option Addr) (lx4 cx4 : Nat) (Ax9 : Option Addr) (lx9 cx9 : Nat) (x10 x11 : Int) (M : Mem) (Q : Value → Mem → Prop) : Prop := ∀ (g0 g1 g2 g3 g5 g6 g7 g8 g12 g13 g14 g15 g16 g17 g18 g19 g20 g21 g22 g23 g24 g25 g26 g27 g28 g29 g30 g31 g32 g33 g34 g35 g36 g37 g38 g39 g40 g41 g42 g43 g44 g45 g46 g47 : Value), Rn Try.prog Try.f18 S18_1 #[g0, g1, g2, g3, .slice Ax4 lx4 cx4, g5, g6, g7, g8, .slice Ax9 lx9 cx9, .int .i64 x10, .int .i64 x11, g12, g13, g14, g15, g16, g17, g18, g19, g20, g21, g22, g23, g24, g25, g26, g27, g28, g29, g30, g31, g32, g33, g34, g35, g36, g37, g38, g39, g40, g41, g42, g43, g44, g45, g46, g47] M Q
theorem w18_0 {Ax0 : Option Addr} {lx0 cx0 : Nat} {M : Mem} {Q : Value → Mem → Prop} (H :
    A18_1 none 0 0 Ax0 lx0 cx0 (lx0 : Int) 0 M Q) :
    Cn Try.prog 18 #[.slice Ax0 lx0 cx0] M Q := by
  refine Cn.of b18 d18 t18 ?_
  refine Rn.seq k18_0 (Rn.region k18_1 (fun call K => r18_0) (Rch.leaf (Rn.seq k18_2 (Rn.region k18_3 (fun call K => r18_1) (Rch.leaf (Rn.seq k18_4 (Rn.seq k18_5 (Rn.region k18_6 (fun call K => r18_2) (Rch.leaf (Rn.block k18_7 (Rn.loop k18_8 ?_)))))))))))
  exact H _ _ _ _ _ _ _ _ _ _ _ _ _ _ _ _ _ _ _ _ _ _ _ _ _ _ _ _ _ _ _ _ _ _ _ _ _ _ _ _ _ _ _ _

theorem w18_1 {Ax4 : Option Addr} {lx4 cx4 : Nat} {Ax9 : Option Addr} {lx9 cx9 : Nat} {x10 x11 : Int} {M : Mem} {Q : Value → Mem → Prop} (H :
    ((x11 < x10 →
     ∃ a1', idxA Ax9 lx9 2 x11 = some a1' ∧
     ∃ x2', M.intAt .i64 a1'.block a1'.off = some x2' ∧
     ∃ s3', M.slAt a1'.block (a1'.off + 1) = some s3' ∧
     ∃ M4', (M.new (.cells #[.int .i64 0, .slice none 0 0] 44)).put (2 * M.nb.size) 0 (.int .i64 x2') = some M4' ∧
     ∃ M5', M4'.put (2 * M.nb.size) 1 (.slice s3'.1 (s3'.2.1) (s3'.2.2)) = some M5' ∧
     ∃ x6', M5'.intAt .i64 (2 * M.nb.size) 0 = some x6' ∧
     Cn Try.prog 29 #[.int .i64 x6'] M5' fun v7' N7' =>
      ∃ b8', asB v7' = some b8' ∧
      (((!b8') = true →
       Q (.tuple #[.slice none 0 0, .int .i64 2]) N7') ∧
       ((!b8') = false →
       ∃ s9', N7'.slAt (2 * M.nb.size) (0 + 1) = some s9' ∧
       ((((s9'.2.1 : Int)) > 16777216 →
        Q (.tuple #[.slice none 0 0, .int .i64 5]) N7') ∧
        (¬ (((s9'.2.1 : Int)) > 16777216) →
        Cn Try.prog 30 #[] N7' fun v10' N10' =>
         ∃ p11', asP v10' = some p11' ∧
         ∃ x12', N10'.intAt .i64 (2 * M.nb.size) 0 = some x12' ∧
         Cn Try.prog 31 #[.pointer p11', .int .u32 (IntKind.u32.wrap (IntKind.i64.wrap (x12' * 16))), .int .i64 8] N10' fun v13' N13' =>
          ∃ x14', asI .i64 v13' = some x14' ∧
          ∃ s15', N13'.slAt (2 * M.nb.size) (0 + 1) = some s15' ∧
          Cn Try.prog 32 #[.pointer p11', .int .u32 (IntKind.u32.wrap ((s15'.2.1 : Int)))] N13' fun v16' N16' =>
           ∃ x17', asI .i64 v16' = some x17' ∧
           ((x17' ≠ 0 →
            Q (.tuple #[.slice none 0 0, .int .i64 (x17')]) N16') ∧
            (x17' = 0 →
            ∃ s18', N16'.slAt (2 * M.nb.size) (0 + 1) = some s18' ∧
            Cn Try.prog 33 #[.pointer p11'] { N16' with floor := N16'.nb.size } fun v19' N19' =>
             ∃ s20', asS v19' = some s20' ∧
             ((Ax4.map (fun a => a.block) = some (2 * M.nb.size) →
              False) ∧
              (¬ (Ax4.map (fun a => a.block) = some (2 * M.nb.size)) →
              ∃ r21', appendP Try.prog #[22, 22] (.slice Ax4 lx4 cx4) (.slice s20'.1 (s20'.2.1) (s20'.2.2)) { N19' with floor := N16'.floor } = some r21' ∧
              ∃ s22', asS r21'.1 = some s22' ∧
              ∃ r23', appendP Try.prog #[22, 22] (.slice s22'.1 (s22'.2.1) (s22'.2.2)) (.slice s18'.1 (s18'.2.1) (s18'.2.2)) r21'.2 = some r23' ∧
              ∃ s24', asS r23'.1 = some s24' ∧
              A18_1 s24'.1 s24'.2.1 s24'.2.2 Ax9 lx9 cx9 x10 (IntKind.i64.wrap (x11 + 1)) r23'.2 Q))))))))) ∧
     (¬ (x11 < x10) →
     Q (.tuple #[.slice Ax4 lx4 cx4, .int .i64 0]) M))) :
    A18_1 Ax4 lx4 cx4 Ax9 lx9 cx9 x10 x11 M Q := by
  intro g0 g1 g2 g3 g5 g6 g7 g8 g12 g13 g14 g15 g16 g17 g18 g19 g20 g21 g22 g23 g24 g25 g26 g27 g28 g29 g30 g31 g32 g33 g34 g35 g36 g37 g38 g39 g40 g41 g42 g43 g44 g45 g46 g47
  refine Rn.seq k18_9 (Rn.region k18_10 (fun call K => r18_3) (Rch.leaf (Rn.seq k18_11 ?_)))
  refine Rn.cnd (v := decide (x11 < x10)) ⟨c18_12, rfl, by kernel_rfl⟩ (fun h => ?_) (fun h => ?_)
  · replace H := H.1 (of_decide_eq_true h)
    refine Rn.skip k18_13 (Rn.seq k18_14 (Rn.block k18_15 (Rn.seq k18_16 (Rn.region k18_17 (fun call K => r18_4) (Rch.ex H fun a1' H => Rch.ex H fun x2' H => Rch.ex H fun s3' H => Rch.ex H fun M4' H => Rch.ex H fun M5' H => Rch.leaf (Rn.seq k18_18 ?_))))))
    refine Rn.seq k18_19 (Rn.region k18_20 (fun call K => r18_5) (Rch.bind (x := ⟨2 * M.nb.size, 0, none⟩) rfl (Rch.ex H fun x6' H => Rch.call H fun v7' N7' H => Rch.ex H fun b8' H => Rch.leaf ?_)))
    refine Rn.cnd (v := !b8') ⟨c18_21, rfl, by kernel_rfl⟩ (fun h => ?_) (fun h => ?_)
    · replace H := H.1 (h)
      refine Rn.seq k18_22 (Rn.region k18_23 (fun call K => r18_6) (Rch.leaf ?_))
      exact Rn.ret k18_24 e18 H
    · replace H := H.2 (h)
      refine Rn.skip k18_26 (Rn.seq k18_27 (Rn.seq k18_28 (Rn.region k18_29 (fun call K => r18_7) (Rch.bind (x := ⟨2 * M.nb.size, 0, none⟩) rfl (Rch.ex H fun s9' H => Rch.leaf ?_)))))
      refine Rn.cnd (v := decide (((s9'.2.1 : Int)) > 16777216)) ⟨c18_30, rfl, by kernel_rfl⟩ (fun h => ?_) (fun h => ?_)
      · replace H := H.1 (of_decide_eq_true h)
        refine Rn.seq k18_31 (Rn.region k18_32 (fun call K => r18_8) (Rch.leaf ?_))
        exact Rn.ret k18_33 e18 H
      · replace H := H.2 (of_decide_eq_false h)
        refine Rn.skip k18_34 (Rn.seq k18_35 (Rn.region k18_36 (fun call K => r18_9) (Rch.call H fun v10' N10' H => Rch.ex H fun p11' H => Rch.leaf (Rn.seq k18_37 (Rn.region k18_38 (fun call K => r18_10) (Rch.bind (x := ⟨2 * M.nb.size, 0, none⟩) rfl (Rch.ex H fun x12' H => Rch.call H fun v13' N13' H => Rch.ex H fun x14' H => ?_)))))))
        refine Rch.leaf (Rn.seq k18_39 (Rn.seq k18_40 (Rn.region k18_41 (fun call K => r18_11) (Rch.bind (x := ⟨2 * M.nb.size, 0, none⟩) rfl (Rch.ex H fun s15' H => Rch.call H fun v16' N16' H => Rch.ex H fun x17' H => Rch.leaf (Rn.seq k18_42 (Rn.region k18_43 (fun call K => r18_12) (Rch.leaf ?_))))))))
        refine Rn.cnd (v := x17' != 0) ⟨c18_44, rfl, by kernel_rfl⟩ (fun h => ?_) (fun h => ?_)
        · replace H := H.1 (ne_of_bneT h)
          refine Rn.seq k18_45 (Rn.region k18_46 (fun call K => r18_13) (Rch.leaf ?_))
          exact Rn.ret k18_47 e18 H
        · replace H := H.2 (eq_of_bneF h)
          refine Rn.skip k18_48 (Rn.regionD k18_49 (fun call K => r18_14) (Rch.bind (x := ⟨2 * M.nb.size, 0, none⟩) rfl (Rch.ex H fun s18' H => Rch.callF H fun v19' N19' H => Rch.ex H fun s20' H => ?_)))
          refine Rch.cB (fun h => ?_) (fun h => ?_)
          · replace H := H.1 (of_decide_eq_true h)
            exact H.elim
          · replace H := H.2 (of_decide_eq_false h)
            refine Rch.ex H fun r21' H => Rch.ex H fun s22' H => Rch.ex H fun r23' H => Rch.ex H fun s24' H => Rch.leaf (Rn.blk (Rn.region k18_50 (fun call K => r18_15) (Rch.leaf (Rn.lp ?_))))
            exact H _ _ _ _ _ _ _ _ _ _ _ _ _ _ _ _ _ _ _ _ _ _ _ _ _ _ _ _ _ _ _ _ _ _ _ _ _ _ _ _ _ _ _ _
  · replace H := H.2 (of_decide_eq_false h)
    refine Rn.exit k18_51 rfl (Rn.seq k18_52 (Rn.region k18_53 (fun call K => r18_16) (Rch.leaf ?_)))
    exact Rn.ret k18_54 e18 H


/-! ### zoetrope/units.Units: function 20 -/
noncomputable abbrev P20 (p : List Nat) : Code := subC (codeOf Try.f20) p
noncomputable abbrev O20 (p : List Nat) : Array Oper := opsOf (subC (codeOf Try.f20) p)
theorem b20 : Try.prog.funcs[20]? = some Try.f20 ∧ (Orc.tab Try.prog).lookup 20 = none := ⟨by kernel_rfl, by kernel_rfl⟩
theorem d20 : Try.f20.body = some (P20 []) := by kernel_rfl
theorem t20 {Ax0 : Option Addr} {lx0 cx0 : Nat} : #[.slice Ax0 lx0 cx0] ++ Array.replicate (Try.f20.ntmps - (#[.slice Ax0 lx0 cx0] : Array Value).size) undef = #[.slice Ax0 lx0 cx0,undef,undef,undef,undef,undef,undef,undef,undef,undef,undef,undef,undef,undef,undef,undef,undef,undef,undef,undef,undef,undef,undef,undef,undef,undef,undef,undef,undef,undef,undef,undef,undef,undef,undef,undef,undef,undef,undef,undef,undef,undef,undef,undef,undef,undef,undef,undef,undef,undef,undef,undef,undef,undef,undef,undef,undef,undef,undef,undef] := by kernel_rfl
theorem k20_0 : P20 [] = .seq (P20 [0]) (P20 [1]) := by kernel_rfl
theorem k20_1 : P20 [0] = .region 0 (O20 [0]) false := by kernel_rfl
theorem r20_0 {M : Mem} {call : CallM} {K : Array Value → Mem → R} :
    opsK Try.prog (fun _ => call) (O20 [0]) (O20 [0]).toList 0 #[g0,g1,g2,g3,g4,g5,g6,g7,g8,g9,g10,g11,g12,g13,g14,g15,g16,g17,g18,g19,g20,g21,g22,g23,g24,g25,g26,g27,g28,g29,g30,g31,g32,g33,g34,g35,g36,g37,g38,g39,g40,g41,g42,g43,g44,g45,g46,g47,g48,g49,g50,g51,g52,g53,g54,g55,g56,g57,g58,g59] M K = K #[g0,g1,.slice none 0 0,.int .i64 0,g4,g5,g6,g7,g8,g9,g10,g11,g12,g13,g14,g15,g16,g17,g18,g19,g20,g21,g22,g23,g24,g25,g26,g27,g28,g29,g30,g31,g32,g33,g34,g35,g36,g37,g38,g39,g40,g41,g42,g43,g44,g45,g46,g47,g48,g49,g50,g51,g52,g53,g54,g55,g56,g57,g58,g59] M := by kernel_rfl
theorem k20_2 : P20 [1] = .seq (P20 [1,0]) (P20 [1,1]) := by kernel_rfl
theorem k20_3 : P20 [1,0] = .region 1 (O20 [1,0]) false := by kernel_rfl
theorem r20_1 {M : Mem} {call : CallM} {K : Array Value → Mem → R} :
    opsK Try.prog (fun _ => call) (O20 [1,0]) (O20 [1,0]).toList 0 #[g0,g1,g2,g3,g4,g5,g6,g7,g8,g9,g10,g11,g12,g13,g14,g15,g16,g17,g18,g19,g20,g21,g22,g23,g24,g25,g26,g27,g28,g29,g30,g31,g32,g33,g34,g35,g36,g37,g38,g39,g40,g41,g42,g43,g44,g45,g46,g47,g48,g49,g50,g51,g52,g53,g54,g55,g56,g57,g58,g59] M K = K #[g0,g1,g2,g3,.slice none 0 0,g5,g6,g7,g8,g9,g10,g11,g12,g13,g14,g15,g16,g17,g18,g19,g20,g21,g22,g23,g24,g25,g26,g27,g28,g29,g30,g31,g32,g33,g34,g35,g36,g37,g38,g39,g40,g41,g42,g43,g44,g45,g46,g47,g48,g49,g50,g51,g52,g53,g54,g55,g56,g57,g58,g59] M := by kernel_rfl
theorem k20_4 : P20 [1,1] = .seq (P20 [1,1,0]) (P20 [1,1,1]) := by kernel_rfl
theorem k20_5 : P20 [1,1,0] = .seq (P20 [1,1,0,0]) (P20 [1,1,0,1]) := by kernel_rfl
theorem k20_6 : P20 [1,1,0,0] = .region 2 (O20 [1,1,0,0]) false := by kernel_rfl
theorem r20_2 {Ax0 : Option Addr} {lx0 cx0 : Nat} {M : Mem} {call : CallM} {K : Array Value → Mem → R} :
    opsK Try.prog (fun _ => call) (O20 [1,1,0,0]) (O20 [1,1,0,0]).toList 0 #[.slice Ax0 lx0 cx0,g1,g2,g3,g4,g5,g6,g7,g8,g9,g10,g11,g12,g13,g14,g15,g16,g17,g18,g19,g20,g21,g22,g23,g24,g25,g26,g27,g28,g29,g30,g31,g32,g33,g34,g35,g36,g37,g38,g39,g40,g41,g42,g43,g44,g45,g46,g47,g48,g49,g50,g51,g52,g53,g54,g55,g56,g57,g58,g59] M K = K #[.slice Ax0 lx0 cx0,g1,g2,g3,g4,g5,g6,g7,.slice Ax0 lx0 cx0,.int .i64 ((lx0 : Int)),.int .i64 0,g11,g12,g13,g14,g15,g16,g17,g18,g19,g20,g21,g22,g23,g24,g25,g26,g27,g28,g29,g30,g31,g32,g33,g34,g35,g36,g37,g38,g39,g40,g41,g42,g43,g44,g45,g46,g47,g48,g49,g50,g51,g52,g53,g54,g55,g56,g57,g58,g59] M := by kernel_rfl
theorem k20_7 : P20 [1,1,0,1] = .block 0 (P20 [1,1,0,1,0]) := by kernel_rfl
theorem k20_8 : P20 [1,1,0,1,0] = .loop (P20 [1,1,0,1,0,0]) := by kernel_rfl
theorem k20_9 : P20 [1,1,0,1,0,0] = .seq (P20 [1,1,0,1,0,0,0]) (P20 [1,1,0,1,0,0,1]) := by kernel_rfl
theorem k20_10 : P20 [1,1,0,1,0,0,0] = .region 3 (O20 [1,1,0,1,0,0,0]) false := by kernel_rfl
theorem r20_3 {x9 x10 : Int} {M : Mem} {call : CallM} {K : Array Value → Mem → R} :
    opsK Try.prog (fun _ => call) (O20 [1,1,0,1,0,0,0]) (O20 [1,1,0,1,0,0,0]).toList 0 #[g0,g1,g2,g3,g4,g5,g6,g7,g8,.int .i64 x9,.int .i64 x10,g11,g12,g13,g14,g15,g16,g17,g18,g19,g20,g21,g22,g23,g24,g25,g26,g27,g28,g29,g30,g31,g32,g33,g34,g35,g36,g37,g38,g39,g40,g41,g42,g43,g44,g45,g46,g47,g48,g49,g50,g51,g52,g53,g54,g55,g56,g57,g58,g59] M K = K #[g0,g1,g2,g3,g4,g5,g6,g7,g8,.int .i64 x9,.int .i64 x10,.bool (decide (x10 < x9)),g12,g13,g14,g15,g16,g17,g18,g19,g20,g21,g22,g23,g24,g25,g26,g27,g28,g29,g30,g31,g32,g33,g34,g35,g36,g37,g38,g39,g40,g41,g42,g43,g44,g45,g46,g47,g48,g49,g50,g51,g52,g53,g54,g55,g56,g57,g58,g59] M := by kernel_rfl
theorem k20_11 : P20 [1,1,0,1,0,0,1] = .seq (P20 [1,1,0,1,0,0,1,0]) (P20 [1,1,0,1,0,0,1,1]) := by kernel_rfl
theorem c20_12 : P20 [1,1,0,1,0,0,1,0] = .cond (.tmp 11) (P20 [1,1,0,1,0,0,1,0,0]) (P20 [1,1,0,1,0,0,1,0,1]) := by kernel_rfl
theorem k20_13 : P20 [1,1,0,1,0,0,1,0,0] = .skip := by kernel_rfl
theorem k20_14 : P20 [1,1,0,1,0,0,1,1] = .seq (P20 [1,1,0,1,0,0,1,1,0]) (P20 [1,1,0,1,0,0,1,1,1]) := by kernel_rfl
theorem k20_15 : P20 [1,1,0,1,0,0,1,1,0] = .block 1 (P20 [1,1,0,1,0,0,1,1,0,0]) := by kernel_rfl
theorem k20_16 : P20 [1,1,0,1,0,0,1,1,0,0] = .seq (P20 [1,1,0,1,0,0,1,1,0,0,0]) (P20 [1,1,0,1,0,0,1,1,0,0,1]) := by kernel_rfl
theorem k20_17 : P20 [1,1,0,1,0,0,1,1,0,0,0] = .region 4 (O20 [1,1,0,1,0,0,1,1,0,0,0]) false := by kernel_rfl
theorem r20_4 {Ax8 : Option Addr} {lx8 cx8 : Nat} {x10 : Int} {M : Mem} {call : CallM} {K : Array Value → Mem → R} :
    opsK Try.prog (fun _ => call) (O20 [1,1,0,1,0,0,1,1,0,0,0]) (O20 [1,1,0,1,0,0,1,1,0,0,0]).toList 0 #[g0,g1,g2,g3,g4,g5,g6,g7,.slice Ax8 lx8 cx8,g9,.int .i64 x10,g11,g12,g13,g14,g15,g16,g17,g18,g19,g20,g21,g22,g23,g24,g25,g26,g27,g28,g29,g30,g31,g32,g33,g34,g35,g36,g37,g38,g39,g40,g41,g42,g43,g44,g45,g46,g47,g48,g49,g50,g51,g52,g53,g54,g55,g56,g57,g58,g59] M K = (idxA Ax8 lx8 2 x10).bind fun a_1 => (M.intAt .i64 a_1.block a_1.off).bind fun x_2 => (M.slAt a_1.block (a_1.off + 1)).bind fun s_3 => ((M.new (.cells #[.int .i64 0, .slice none 0 0] 44)).put (2 * M.nb.size) 0 (.int .i64 x_2)).bind fun M_4 => (M_4.put (2 * M.nb.size) 1 (.slice s_3.1 (s_3.2.1) (s_3.2.2))).bind fun M_5 => K #[g0,g1,g2,g3,g4,g5,.pointer (some ⟨2 * M.nb.size, 0, none⟩),g7,.slice Ax8 lx8 cx8,g9,.int .i64 x10,g11,.pointer (some a_1),.agg #[.int .i64 x_2, .slice s_3.1 (s_3.2.1) (s_3.2.2)],g14,g15,g16,g17,g18,g19,g20,g21,g22,g23,g24,g25,g26,g27,g28,g29,g30,g31,g32,g33,g34,g35,g36,g37,g38,g39,g40,g41,g42,g43,g44,g45,g46,g47,g48,g49,g50,g51,g52,g53,g54,g55,g56,g57,g58,g59] M_5 := by kernel_rfl
theorem k20_18 : P20 [1,1,0,1,0,0,1,1,0,0,1] = .block 2 (P20 [1,1,0,1,0,0,1,1,0,0,1,0]) := by kernel_rfl
theorem k20_19 : P20 [1,1,0,1,0,0,1,1,0,0,1,0] = .seq (P20 [1,1,0,1,0,0,1,1,0,0,1,0,0]) (P20 [1,1,0,1,0,0,1,1,0,0,1,0,1]) := by kernel_rfl
theorem k20_20 : P20 [1,1,0,1,0,0,1,1,0,0,1,0,0] = .region 7 (O20 [1,1,0,1,0,0,1,1,0,0,1,0,0]) false := by kernel_rfl
theorem r20_7 {x6 : Option Addr} {M : Mem} {call : CallM} {K : Array Value → Mem → R} :
    opsK Try.prog (fun _ => call) (O20 [1,1,0,1,0,0,1,1,0,0,1,0,0]) (O20 [1,1,0,1,0,0,1,1,0,0,1,0,0]).toList 0 #[g0,g1,g2,g3,g4,g5,.pointer x6,g7,g8,g9,g10,g11,g12,g13,g14,g15,g16,g17,g18,g19,g20,g21,g22,g23,g24,g25,g26,g27,g28,g29,g30,g31,g32,g33,g34,g35,g36,g37,g38,g39,g40,g41,g42,g43,g44,g45,g46,g47,g48,g49,g50,g51,g52,g53,g54,g55,g56,g57,g58,g59] M K = (x6).bind fun a_1 => (M.intAt .i64 a_1.block a_1.off).bind fun x_2 => (call 29 #[.int .i64 x_2] M).bind fun r_3 => (asB r_3.1).bind fun b_4 => K #[g0,g1,g2,g3,g4,g5,.pointer x6,g7,g8,g9,g10,g11,g12,g13,g14,g15,g16,g17,g18,g19,g20,g21,g22,g23,g24,g25,g26,g27,g28,g29,g30,g31,.bool (!b_4),.pointer (some ⟨a_1.block, a_1.off, none⟩),.int .i64 x_2,.bool b_4,.bool (!b_4),g37,g38,g39,g40,g41,g42,g43,g44,g45,g46,g47,g48,g49,g50,g51,g52,g53,g54,g55,g56,g57,g58,g59] r_3.2 := by kernel_rfl
theorem c20_21 : P20 [1,1,0,1,0,0,1,1,0,0,1,0,1] = .cond (.tmp 32) (P20 [1,1,0,1,0,0,1,1,0,0,1,0,1,0]) (P20 [1,1,0,1,0,0,1,1,0,0,1,0,1,1]) := by kernel_rfl
theorem k20_22 : P20 [1,1,0,1,0,0,1,1,0,0,1,0,1,0] = .seq (P20 [1,1,0,1,0,0,1,1,0,0,1,0,1,0,0]) (P20 [1,1,0,1,0,0,1,1,0,0,1,0,1,0,1]) := by kernel_rfl
theorem k20_23 : P20 [1,1,0,1,0,0,1,1,0,0,1,0,1,0,0] = .region 8 (O20 [1,1,0,1,0,0,1,1,0,0,1,0,1,0,0]) false := by kernel_rfl
theorem r20_8 {M : Mem} {call : CallM} {K : Array Value → Mem → R} :
    opsK Try.prog (fun _ => call) (O20 [1,1,0,1,0,0,1,1,0,0,1,0,1,0,0]) (O20 [1,1,0,1,0,0,1,1,0,0,1,0,1,0,0]).toList 0 #[g0,g1,g2,g3,g4,g5,g6,g7,g8,g9,g10,g11,g12,g13,g14,g15,g16,g17,g18,g19,g20,g21,g22,g23,g24,g25,g26,g27,g28,g29,g30,g31,g32,g33,g34,g35,g36,g37,g38,g39,g40,g41,g42,g43,g44,g45,g46,g47,g48,g49,g50,g51,g52,g53,g54,g55,g56,g57,g58,g59] M K = K #[g0,g1,.slice none 0 0,.int .i64 4,g4,g5,g6,g7,g8,g9,g10,g11,g12,g13,g14,g15,g16,g17,g18,g19,g20,g21,g22,g23,g24,g25,g26,g27,g28,g29,g30,g31,g32,g33,g34,g35,g36,g37,g38,g39,g40,g41,g42,g43,g44,g45,g46,g47,g48,g49,g50,g51,g52,g53,g54,g55,g56,g57,g58,g59] M := by kernel_rfl
theorem k20_24 : P20 [1,1,0,1,0,0,1,1,0,0,1,0,1,0,1] = .ret := by kernel_rfl
theorem e20 {M : Mem} : finish Try.prog Try.f20 #[g0,g1,g2,g3,g4,g5,g6,g7,g8,g9,g10,g11,g12,g13,g14,g15,g16,g17,g18,g19,g20,g21,g22,g23,g24,g25,g26,g27,g28,g29,g30,g31,g32,g33,g34,g35,g36,g37,g38,g39,g40,g41,g42,g43,g44,g45,g46,g47,g48,g49,g50,g51,g52,g53,g54,g55,g56,g57,g58,g59] M = some (.tuple #[g2, g3], M) := by kernel_rfl
theorem k20_26 : P20 [1,1,0,1,0,0,1,1,0,0,1,0,1,1] = .seq (P20 [1,1,0,1,0,0,1,1,0,0,1,0,1,1,0]) (P20 [1,1,0,1,0,0,1,1,0,0,1,0,1,1,1]) := by kernel_rfl
theorem k20_27 : P20 [1,1,0,1,0,0,1,1,0,0,1,0,1,1,0] = .region 9 (O20 [1,1,0,1,0,0,1,1,0,0,1,0,1,1,0]) false := by kernel_rfl
theorem r20_9 {x6 : Option Addr} {M : Mem} {call : CallM} {K : Array Value → Mem → R} :
    opsK Try.prog (fun _ => call) (O20 [1,1,0,1,0,0,1,1,0,0,1,0,1,1,0]) (O20 [1,1,0,1,0,0,1,1,0,0,1,0,1,1,0]).toList 0 #[g0,g1,g2,g3,g4,g5,.pointer x6,g7,g8,g9,g10,g11,g12,g13,g14,g15,g16,g17,g18,g19,g20,g21,g22,g23,g24,g25,g26,g27,g28,g29,g30,g31,g32,g33,g34,g35,g36,g37,g38,g39,g40,g41,g42,g43,g44,g45,g46,g47,g48,g49,g50,g51,g52,g53,g54,g55,g56,g57,g58,g59] M K = withK (fun w37 w38 w39 w40 w41 w42 w43 w44 w45 w46 M => K #[g0,g1,g2,g3,g4,g5,.pointer x6,g7,g8,g9,g10,g11,g12,g13,g14,g15,g16,g17,g18,g19,g20,g21,g22,g23,g24,g25,g26,g27,g28,g29,g30,g31,g32,g33,g34,g35,g36,w37,w38,w39,w40,w41,w42,w43,w44,w45,w46,g47,g48,g49,g50,g51,g52,g53,g54,g55,g56,g57,g58,g59] M) fun k => (x6).bind fun a_1 => (M.intAt .i64 a_1.block a_1.off).bind fun x_2 => cond (x_2 == 2) ((x6).bind fun a_3 => (M.slAt a_3.block (a_3.off + 1)).bind fun s_4 => k (.bool (decide (((s_4.2.1 : Int)) > 0))) (.pointer (some ⟨a_1.block, a_1.off, none⟩)) (.int .i64 x_2) (.bool (x_2 == 2)) (.bool true) (.pointer (some ⟨a_3.block, a_3.off + 1, none⟩)) (.slice s_4.1 (s_4.2.1) (s_4.2.2)) (.int .i64 ((s_4.2.1 : Int))) (.bool (decide (((s_4.2.1 : Int)) > 0))) (.bool (decide (((s_4.2.1 : Int)) > 0))) M) (k (.bool false) (.pointer (some ⟨a_1.block, a_1.off, none⟩)) (.int .i64 x_2) (.bool (x_2 == 2)) (.bool false) undef undef undef undef (.bool false) M) := by kernel_rfl
theorem k20_28 : P20 [1,1,0,1,0,0,1,0,1] = .exit 0 := by kernel_rfl
theorem k20_29 : P20 [1,1,1] = .seq (P20 [1,1,1,0]) (P20 [1,1,1,1]) := by kernel_rfl
theorem k20_30 : P20 [1,1,1,0] = .region 16 (O20 [1,1,1,0]) false := by kernel_rfl
theorem r20_16 {Ax4 : Option Addr} {lx4 cx4 : Nat} {M : Mem} {call : CallM} {K : Array Value → Mem → R} :
    opsK Try.prog (fun _ => call) (O20 [1,1,1,0]) (O20 [1,1,1,0]).toList 0 #[g0,g1,g2,g3,.slice Ax4 lx4 cx4,g5,g6,g7,g8,g9,g10,g11,g12,g13,g14,g15,g16,g17,g18,g19,g20,g21,g22,g23,g24,g25,g26,g27,g28,g29,g30,g31,g32,g33,g34,g35,g36,g37,g38,g39,g40,g41,g42,g43,g44,g45,g46,g47,g48,g49,g50,g51,g52,g53,g54,g55,g56,g57,g58,g59] M K = K #[g0,g1,.slice Ax4 lx4 cx4,.int .i64 0,.slice Ax4 lx4 cx4,g5,g6,g7,g8,g9,g10,g11,g12,g13,g14,g15,g16,g17,g18,g19,g20,g21,g22,g23,g24,g25,g26,g27,g28,g29,g30,g31,g32,g33,g34,g35,g36,g37,g38,g39,g40,g41,g42,g43,g44,g45,g46,g47,g48,g49,g50,g51,g52,g53,g54,g55,g56,g57,g58,.slice Ax4 lx4 cx4] M := by kernel_rfl
theorem k20_31 : P20 [1,1,1,1] = .ret := by kernel_rfl
theorem c20_32 : P20 [1,1,0,1,0,0,1,1,0,0,1,0,1,1,1] = .cond (.tmp 37) (P20 [1,1,0,1,0,0,1,1,0,0,1,0,1,1,1,0]) (P20 [1,1,0,1,0,0,1,1,0,0,1,0,1,1,1,1]) := by kernel_rfl
theorem k20_33 : P20 [1,1,0,1,0,0,1,1,0,0,1,0,1,1,1,0] = .seq (P20 [1,1,0,1,0,0,1,1,0,0,1,0,1,1,1,0,0]) (P20 [1,1,0,1,0,0,1,1,0,0,1,0,1,1,1,0,1]) := by kernel_rfl
theorem k20_34 : P20 [1,1,0,1,0,0,1,1,0,0,1,0,1,1,1,0,0] = .region 10 (O20 [1,1,0,1,0,0,1,1,0,0,1,0,1,1,1,0,0]) false := by kernel_rfl
theorem r20_10 {M : Mem} {call : CallM} {K : Array Value → Mem → R} :
    opsK Try.prog (fun _ => call) (O20 [1,1,0,1,0,0,1,1,0,0,1,0,1,1,1,0,0]) (O20 [1,1,0,1,0,0,1,1,0,0,1,0,1,1,1,0,0]).toList 0 #[g0,g1,g2,g3,g4,g5,g6,g7,g8,g9,g10,g11,g12,g13,g14,g15,g16,g17,g18,g19,g20,g21,g22,g23,g24,g25,g26,g27,g28,g29,g30,g31,g32,g33,g34,g35,g36,g37,g38,g39,g40,g41,g42,g43,g44,g45,g46,g47,g48,g49,g50,g51,g52,g53,g54,g55,g56,g57,g58,g59] M K = K #[g0,g1,.slice none 0 0,.int .i64 4,g4,g5,g6,g7,g8,g9,g10,g11,g12,g13,g14,g15,g16,g17,g18,g19,g20,g21,g22,g23,g24,g25,g26,g27,g28,g29,g30,g31,g32,g33,g34,g35,g36,g37,g38,g39,g40,g41,g42,g43,g44,g45,g46,g47,g48,g49,g50,g51,g52,g53,g54,g55,g56,g57,g58,g59] M := by kernel_rfl
theorem k20_35 : P20 [1,1,0,1,0,0,1,1,0,0,1,0,1,1,1,0,1] = .ret := by kernel_rfl
theorem k20_36 : P20 [1,1,0,1,0,0,1,1,0,0,1,0,1,1,1,1] = .seq (P20 [1,1,0,1,0,0,1,1,0,0,1,0,1,1,1,1,0]) (P20 [1,1,0,1,0,0,1,1,0,0,1,0,1,1,1,1,1]) := by kernel_rfl
theorem k20_37 : P20 [1,1,0,1,0,0,1,1,0,0,1,0,1,1,1,1,0] = .region 11 (O20 [1,1,0,1,0,0,1,1,0,0,1,0,1,1,1,1,0]) false := by kernel_rfl
theorem r20_11 {x6 : Option Addr} {M : Mem} {call : CallM} {K : Array Value → Mem → R} :
    opsK Try.prog (fun _ => call) (O20 [1,1,0,1,0,0,1,1,0,0,1,0,1,1,1,1,0]) (O20 [1,1,0,1,0,0,1,1,0,0,1,0,1,1,1,1,0]).toList 0 #[g0,g1,g2,g3,g4,g5,.pointer x6,g7,g8,g9,g10,g11,g12,g13,g14,g15,g16,g17,g18,g19,g20,g21,g22,g23,g24,g25,g26,g27,g28,g29,g30,g31,g32,g33,g34,g35,g36,g37,g38,g39,g40,g41,g42,g43,g44,g45,g46,g47,g48,g49,g50,g51,g52,g53,g54,g55,g56,g57,g58,g59] M K = (x6).bind fun a_1 => (M.intAt .i64 a_1.block a_1.off).bind fun x_2 => K #[g0,g1,g2,g3,g4,g5,.pointer x6,g7,g8,g9,g10,g11,g12,g13,g14,g15,g16,g17,g18,g19,g20,g21,g22,g23,g24,g25,g26,g27,g28,g29,g30,g31,g32,g33,g34,g35,g36,g37,g38,g39,g40,g41,g42,g43,g44,g45,g46,.bool (x_2 == 2),.pointer (some ⟨a_1.block, a_1.off, none⟩),.int .i64 x_2,.bool (x_2 == 2),g51,g52,g53,g54,g55,g56,g57,g58,g59] M := by kernel_rfl
theorem c20_38 : P20 [1,1,0,1,0,0,1,1,0,0,1,0,1,1,1,1,1] = .cond (.tmp 47) (P20 [1,1,0,1,0,0,1,1,0,0,1,0,1,1,1,1,1,0]) (P20 [1,1,0,1,0,0,1,1,0,0,1,0,1,1,1,1,1,1]) := by kernel_rfl
theorem k20_39 : P20 [1,1,0,1,0,0,1,1,0,0,1,0,1,1,1,1,1,0] = .region 12 (O20 [1,1,0,1,0,0,1,1,0,0,1,0,1,1,1,1,1,0]) false := by kernel_rfl
theorem r20_12 {Ax4 : Option Addr} {lx4 cx4 : Nat} {M : Mem} {call : CallM} {K : Array Value → Mem → R} :
    opsK Try.prog (fun _ => call) (O20 [1,1,0,1,0,0,1,1,0,0,1,0,1,1,1,1,1,0]) (O20 [1,1,0,1,0,0,1,1,0,0,1,0,1,1,1,1,1,0]).toList 0 #[g0,g1,g2,g3,.slice Ax4 lx4 cx4,g5,g6,g7,g8,g9,g10,g11,g12,g13,g14,g15,g16,g17,g18,g19,g20,g21,g22,g23,g24,g25,g26,g27,g28,g29,g30,g31,g32,g33,g34,g35,g36,g37,g38,g39,g40,g41,g42,g43,g44,g45,g46,g47,g48,g49,g50,g51,g52,g53,g54,g55,g56,g57,g58,g59] M K = (appendP Try.prog #[37, 37] (.slice Ax4 lx4 cx4) (.slice (some ⟨2 * M.nb.size, 0, none⟩) 1 1) (M.new (.cells #[.slice none 0 0] 24))).bind fun r_1 => (asS r_1.1).bind fun s_2 => K #[g0,g1,g2,g3,.slice s_2.1 (s_2.2.1) (s_2.2.2),g5,g6,g7,g8,g9,g10,g11,g12,g13,g14,g15,g16,g17,g18,g19,g20,g21,g22,g23,g24,g25,g26,g27,g28,g29,g30,g31,g32,g33,g34,g35,g36,g37,g38,g39,g40,g41,g42,g43,g44,g45,g46,g47,g48,g49,g50,.slice Ax4 lx4 cx4,.slice (some ⟨2 * M.nb.size, 0, none⟩) 1 1,.slice s_2.1 (s_2.2.1) (s_2.2.2),g54,g55,g56,g57,g58,g59] r_1.2 := by kernel_rfl
theorem k20_40 : P20 [1,1,0,1,0,0,1,1,0,0,1,0,1,1,1,1,1,1] = .seq (P20 [1,1,0,1,0,0,1,1,0,0,1,0,1,1,1,1,1,1,0]) (P20 [1,1,0,1,0,0,1,1,0,0,1,0,1,1,1,1,1,1,1]) := by kernel_rfl
theorem k20_41 : P20 [1,1,0,1,0,0,1,1,0,0,1,0,1,1,1,1,1,1,0] = .region 13 (O20 [1,1,0,1,0,0,1,1,0,0,1,0,1,1,1,1,1,1,0]) false := by kernel_rfl
theorem r20_13 {Ax4 : Option Addr} {lx4 cx4 : Nat} {M : Mem} {call : CallM} {K : Array Value → Mem → R} :
    opsK Try.prog (fun _ => call) (O20 [1,1,0,1,0,0,1,1,0,0,1,0,1,1,1,1,1,1,0]) (O20 [1,1,0,1,0,0,1,1,0,0,1,0,1,1,1,1,1,1,0]).toList 0 #[g0,g1,g2,g3,.slice Ax4 lx4 cx4,g5,g6,g7,g8,g9,g10,g11,g12,g13,g14,g15,g16,g17,g18,g19,g20,g21,g22,g23,g24,g25,g26,g27,g28,g29,g30,g31,g32,g33,g34,g35,g36,g37,g38,g39,g40,g41,g42,g43,g44,g45,g46,g47,g48,g49,g50,g51,g52,g53,g54,g55,g56,g57,g58,g59] M K = K #[g0,g1,g2,g3,.slice Ax4 lx4 cx4,g5,g6,g7,g8,g9,g10,g11,g12,g13,g14,g15,g16,g17,g18,g19,g20,g21,g22,g23,g24,g25,g26,g27,g28,g29,g30,g31,g32,g33,g34,g35,g36,g37,g38,g39,g40,g41,g42,g43,g44,g45,g46,g47,g48,g49,g50,g51,g52,g53,.bool (((lx4 : Int)) == 0),.slice Ax4 lx4 cx4,.int .i64 ((lx4 : Int)),.bool (((lx4 : Int)) == 0),g58,g59] M := by kernel_rfl
theorem c20_42 : P20 [1,1,0,1,0,0,1,1,0,0,1,0,1,1,1,1,1,1,1] = .cond (.tmp 54) (P20 [1,1,0,1,0,0,1,1,0,0,1,0,1,1,1,1,1,1,1,0]) (P20 [1,1,0,1,0,0,1,1,0,0,1,0,1,1,1,1,1,1,1,1]) := by kernel_rfl
theorem k20_43 : P20 [1,1,0,1,0,0,1,1,0,0,1,0,1,1,1,1,1,1,1,0] = .seq (P20 [1,1,0,1,0,0,1,1,0,0,1,0,1,1,1,1,1,1,1,0,0]) (P20 [1,1,0,1,0,0,1,1,0,0,1,0,1,1,1,1,1,1,1,0,1]) := by kernel_rfl
theorem k20_44 : P20 [1,1,0,1,0,0,1,1,0,0,1,0,1,1,1,1,1,1,1,0,0] = .region 14 (O20 [1,1,0,1,0,0,1,1,0,0,1,0,1,1,1,1,1,1,1,0,0]) false := by kernel_rfl
theorem r20_14 {M : Mem} {call : CallM} {K : Array Value → Mem → R} :
    opsK Try.prog (fun _ => call) (O20 [1,1,0,1,0,0,1,1,0,0,1,0,1,1,1,1,1,1,1,0,0]) (O20 [1,1,0,1,0,0,1,1,0,0,1,0,1,1,1,1,1,1,1,0,0]).toList 0 #[g0,g1,g2,g3,g4,g5,g6,g7,g8,g9,g10,g11,g12,g13,g14,g15,g16,g17,g18,g19,g20,g21,g22,g23,g24,g25,g26,g27,g28,g29,g30,g31,g32,g33,g34,g35,g36,g37,g38,g39,g40,g41,g42,g43,g44,g45,g46,g47,g48,g49,g50,g51,g52,g53,g54,g55,g56,g57,g58,g59] M K = K #[g0,g1,.slice none 0 0,.int .i64 4,g4,g5,g6,g7,g8,g9,g10,g11,g12,g13,g14,g15,g16,g17,g18,g19,g20,g21,g22,g23,g24,g25,g26,g27,g28,g29,g30,g31,g32,g33,g34,g35,g36,g37,g38,g39,g40,g41,g42,g43,g44,g45,g46,g47,g48,g49,g50,g51,g52,g53,g54,g55,g56,g57,g58,g59] M := by kernel_rfl
theorem k20_45 : P20 [1,1,0,1,0,0,1,1,0,0,1,0,1,1,1,1,1,1,1,0,1] = .ret := by kernel_rfl
theorem k20_46 : P20 [1,1,0,1,0,0,1,1,0,0,1,0,1,1,1,1,1,1,1,1] = .seq (P20 [1,1,0,1,0,0,1,1,0,0,1,0,1,1,1,1,1,1,1,1,0]) (P20 [1,1,0,1,0,0,1,1,0,0,1,0,1,1,1,1,1,1,1,1,1]) := by kernel_rfl
theorem k20_47 : P20 [1,1,0,1,0,0,1,1,0,0,1,0,1,1,1,1,1,1,1,1,0] = .region 5 (O20 [1,1,0,1,0,0,1,1,0,0,1,0,1,1,1,1,1,1,1,1,0]) false := by kernel_rfl
theorem r20_5 {Ax4 : Option Addr} {lx4 cx4 : Nat} {M : Mem} {call : CallM} {K : Array Value → Mem → R} :
    opsK Try.prog (fun _ => call) (O20 [1,1,0,1,0,0,1,1,0,0,1,0,1,1,1,1,1,1,1,1,0]) (O20 [1,1,0,1,0,0,1,1,0,0,1,0,1,1,1,1,1,1,1,1,0]).toList 0 #[g0,g1,g2,g3,.slice Ax4 lx4 cx4,g5,g6,g7,g8,g9,g10,g11,g12,g13,g14,g15,g16,g17,g18,g19,g20,g21,g22,g23,g24,g25,g26,g27,g28,g29,g30,g31,g32,g33,g34,g35,g36,g37,g38,g39,g40,g41,g42,g43,g44,g45,g46,g47,g48,g49,g50,g51,g52,g53,g54,g55,g56,g57,g58,g59] M K = (idxA Ax4 lx4 1 (IntKind.i64.wrap (((lx4 : Int)) - 1))).bind fun a_1 => K #[g0,g1,g2,g3,.slice Ax4 lx4 cx4,g5,g6,.pointer (some a_1),g8,g9,g10,g11,g12,g13,.slice Ax4 lx4 cx4,.slice Ax4 lx4 cx4,.int .i64 ((lx4 : Int)),.int .i64 (IntKind.i64.wrap (((lx4 : Int)) - 1)),.pointer (some a_1),g19,g20,g21,g22,g23,g24,g25,g26,g27,g28,g29,g30,g31,g32,g33,g34,g35,g36,g37,g38,g39,g40,g41,g42,g43,g44,g45,g46,g47,g48,g49,g50,g51,g52,g53,g54,g55,g56,g57,g58,g59] M := by kernel_rfl
theorem k20_48 : P20 [1,1,0,1,0,0,1,1,0,0,1,0,1,1,1,1,1,1,1,1,1] = .region 6 (O20 [1,1,0,1,0,0,1,1,0,0,1,0,1,1,1,1,1,1,1,1,1]) true ∧ drawOk (O20 [1,1,0,1,0,0,1,1,0,0,1,0,1,1,1,1,1,1,1,1,1]) = true := ⟨by kernel_rfl, by kernel_rfl⟩
theorem r20_6 {x6 x7 : Option Addr} {M : Mem} {call : CallM} {K : Array Value → Mem → R} :
    opsI Try.prog (callAt call (O20 [1,1,0,1,0,0,1,1,0,0,1,0,1,1,1,1,1,1,1,1,1])) (O20 [1,1,0,1,0,0,1,1,0,0,1,0,1,1,1,1,1,1,1,1,1]) (ordOf (O20 [1,1,0,1,0,0,1,1,0,0,1,0,1,1,1,1,1,1,1,1,1])) [] #[g0,g1,g2,g3,g4,g5,.pointer x6,.pointer x7,g8,g9,g10,g11,g12,g13,g14,g15,g16,g17,g18,g19,g20,g21,g22,g23,g24,g25,g26,g27,g28,g29,g30,g31,g32,g33,g34,g35,g36,g37,g38,g39,g40,g41,g42,g43,g44,g45,g46,g47,g48,g49,g50,g51,g52,g53,g54,g55,g56,g57,g58,g59] M K = (x7).bind fun a_1 => (M.slAt a_1.block a_1.off).bind fun s_2 => (x6).bind fun a_3 => (M.intAt .i64 a_3.block a_3.off).bind fun x_4 => (x6).bind fun a_5 => (M.slAt a_5.block (a_5.off + 1)).bind fun s_6 => (floored call 38 #[.slice s_6.1 (s_6.2.1) (s_6.2.2)] M).bind fun r_7 => (asS r_7.1).bind fun s_8 => (appendP Try.prog #[24, 24] (.slice s_2.1 (s_2.2.1) (s_2.2.2)) (.slice (some ⟨2 * r_7.2.nb.size, 0, none⟩) 1 1) (r_7.2.new (.cells #[.int .i64 x_4, .slice s_8.1 (s_8.2.1) (s_8.2.2)] 44))).bind fun r_9 => (asS r_9.1).bind fun s_10 => (x7).bind fun a_11 => (r_9.2.put a_11.block a_11.off (.slice s_10.1 (s_10.2.1) (s_10.2.2))).bind fun M_12 => K #[g0,g1,g2,g3,g4,g5,.pointer x6,.pointer x7,g8,g9,g10,g11,g12,g13,g14,g15,g16,g17,g18,.pointer x7,.pointer x7,.pointer (some a_1),.slice s_2.1 (s_2.2.1) (s_2.2.2),.pointer (some ⟨a_3.block, a_3.off, none⟩),.int .i64 x_4,.pointer (some ⟨a_5.block, a_5.off + 1, none⟩),.slice s_6.1 (s_6.2.1) (s_6.2.2),.slice s_8.1 (s_8.2.1) (s_8.2.2),.agg #[.int .i64 x_4, .slice s_8.1 (s_8.2.1) (s_8.2.2)],.slice (some ⟨2 * r_7.2.nb.size, 0, none⟩) 1 1,.slice s_10.1 (s_10.2.1) (s_10.2.2),.pointer (some a_11),g32,g33,g34,g35,g36,g37,g38,g39,g40,g41,g42,g43,g44,g45,g46,g47,g48,g49,g50,g51,g52,g53,g54,g55,g56,g57,g58,g59] M_12 := by kernel_rfl
theorem k20_49 : P20 [1,1,0,1,0,0,1,1,1] = .region 15 (O20 [1,1,0,1,0,0,1,1,1]) false := by kernel_rfl
theorem r20_15 {x10 : Int} {M : Mem} {call : CallM} {K : Array Value → Mem → R} :
    opsK Try.prog (fun _ => call) (O20 [1,1,0,1,0,0,1,1,1]) (O20 [1,1,0,1,0,0,1,1,1]).toList 0 #[g0,g1,g2,g3,g4,g5,g6,g7,g8,g9,.int .i64 x10,g11,g12,g13,g14,g15,g16,g17,g18,g19,g20,g21,g22,g23,g24,g25,g26,g27,g28,g29,g30,g31,g32,g33,g34,g35,g36,g37,g38,g39,g40,g41,g42,g43,g44,g45,g46,g47,g48,g49,g50,g51,g52,g53,g54,g55,g56,g57,g58,g59] M K = K #[g0,g1,g2,g3,g4,g5,g6,g7,g8,g9,.int .i64 (IntKind.i64.wrap (x10 + 1)),g11,g12,g13,g14,g15,g16,g17,g18,g19,g20,g21,g22,g23,g24,g25,g26,g27,g28,g29,g30,g31,g32,g33,g34,g35,g36,g37,g38,g39,g40,g41,g42,g43,g44,g45,g46,g47,g48,g49,g50,g51,g52,g53,g54,g55,g56,g57,.int .i64 (IntKind.i64.wrap (x10 + 1)),g59] M := by kernel_rfl
noncomputable def S20_1 : List Item := [.code (P20 [1,1,0,1,0,0]), .inLoop (P20 [1,1,0,1,0,0]), .inBlock 0, .code (P20 [1,1,1])]
def A20_1 (Ax4 : Option Addr) (lx4 cx4 : Nat) (Ax8 : Option Addr) (lx8 cx8 : Nat) (x9 x10 : Int) (M : Mem) (Q : Value → Mem → Prop) : Prop := ∀ (g0 g1 g2 g3 g5 g6 g7 g11 g12 g13 g14 g15 g16 g17 g18 g19 g20 g21 g22 g23 g24 g25 g26 g27 g28 g29 g30 g31 g32 g33 g34 g35 g36 g37 g38 g39 g40 g41 g42 g43 g44 g45 g46 g47 g48 g49 g50 g51 g52 g53 g54 g55 g56 g57 g58 g59 : Value), Rn Try.prog Try.f20 S20_1 #[g0, g1, g2, g3, .slice Ax4 lx4 cx4, g5, g6, g7, .slice Ax8 lx8 cx8, .int .i64 x9, .int .i64 x10, g11, g12, g13, g14, g15, g16, g17, g18, g19, g20, g21, g22, g23, g24, g25, g26, g27, g28, g29, g30, g31, g32, g33, g34, g35, g36, g37, g38, g39, g40, g41, g42, g43, g44, g45, g46, g47, g48, g49, g50, g51, g52, g53, g54, g55, g56, g57, g58, g59] M Q
noncomputable def S20_2 : List Item := [.code (P20 [1,1,0,1,0,0,1,1,0,0,1,0,1,1,1]), .inBlock 2, .inBlock 1, .code (P20 [1,1,0,1,0,0,1,1,1]), .inLoop (P20 [1,1,0,1,0,0]), .inBlock 0, .code (P20 [1,1,1])]
def A20_2 (Ax4 : Option Addr) (lx4 cx4 : Nat) (x6 Ax8 : Option Addr) (lx8 cx8 : Nat) (x9 x10 : Int) (x37 : Bool) (M : Mem) (Q : Value → Mem → Prop) : Prop := ∀ (g0 g1 g2 g3 g5 g7 g11 g12 g13 g14 g15 g16 g17 g18 g19 g20 g21 g22 g23 g24 g25 g26 g27 g28 g29 g30 g31 g32 g33 g34 g35 g36 g38 g39 g40 g41 g42 g43 g44 g45 g46 g47 g48 g49 g50 g51 g52 g53 g54 g55 g56 g57 g58 g59 : Value), Rn Try.prog Try.f20 S20_2 #[g0, g1, g2, g3, .slice Ax4 lx4 cx4, g5, .pointer x6, g7, .slice Ax8 lx8 cx8, .int .i64 x9, .int .i64 x10, g11, g12, g13, g14, g15, g16, g17, g18, g19, g20, g21, g22, g23, g24, g25, g26, g27, g28, g29, g30, g31, g32, g33, g34, g35, g36, .bool x37, g38, g39, g40, g41, g42, g43, g44, g45, g46, g47, g48, g49, g50, g51, g52, g53, g54, g55, g56, g57, g58, g59] M Q
noncomputable def S20_3 : List Item := [.inBlock 1, .code (P20 [1,1,0,1,0,0,1,1,1]), .inLoop (P20 [1,1,0,1,0,0]), .inBlock 0, .code (P20 [1,1,1])]
def A20_3 (Ax4 : Option Addr) (lx4 cx4 : Nat) (Ax8 : Option Addr) (lx8 cx8 : Nat) (x9 x10 : Int) (M : Mem) (Q : Value → Mem → Prop) : Prop := ∀ (g0 g1 g2 g3 g5 g6 g7 g11 g12 g13 g14 g15 g16 g17 g18 g19 g20 g21 g22 g23 g24 g25 g26 g27 g28 g29 g30 g31 g32 g33 g34 g35 g36 g37 g38 g39 g40 g41 g42 g43 g44 g45 g46 g47 g48 g49 g50 g51 g52 g53 g54 g55 g56 g57 g58 g59 : Value), Rn Try.prog Try.f20 S20_3 #[g0, g1, g2, g3, .slice Ax4 lx4 cx4, g5, g6, g7, .slice Ax8 lx8 cx8, .int .i64 x9, .int .i64 x10, g11, g12, g13, g14, g15, g16, g17, g18, g19, g20, g21, g22, g23, g24, g25, g26, g27, g28, g29, g30, g31, g32, g33, g34, g35, g36, g37, g38, g39, g40, g41, g42, g43, g44, g45, g46, g47, g48, g49, g50, g51, g52, g53, g54, g55, g56, g57, g58, g59] M Q
noncomputable def S20_4 : List Item := [.code (P20 [1,1,0,1,0,0,1,1,1]), .inLoop (P20 [1,1,0,1,0,0]), .inBlock 0, .code (P20 [1,1,1])]
def A20_4 (Ax4 : Option Addr) (lx4 cx4 : Nat) (Ax8 : Option Addr) (lx8 cx8 : Nat) (x9 x10 : Int) (M : Mem) (Q : Value → Mem → Prop) : Prop := ∀ (g0 g1 g2 g3 g5 g6 g7 g11 g12 g13 g14 g15 g16 g17 g18 g19 g20 g21 g22 g23 g24 g25 g26 g27 g28 g29 g30 g31 g32 g33 g34 g35 g36 g37 g38 g39 g40 g41 g42 g43 g44 g45 g46 g47 g48 g49 g50 g51 g52 g53 g54 g55 g56 g57 g58 g59 : Value), Rn Try.prog Try.f20 S20_4 #[g0, g1, g2, g3, .slice Ax4 lx4 cx4, g5, g6, g7, .slice Ax8 lx8 cx8, .int .i64 x9, .int .i64 x10, g11, g12, g13, g14, g15, g16, g17, g18, g19, g20, g21, g22, g23, g24, g25, g26, g27, g28, g29, g30, g31, g32, g33, g34, g35, g36, g37, g38, g39, g40, g41, g42, g43, g44, g45, g46, g47, g48, g49, g50, g51, g52, g53, g54, g55, g56, g57, g58, g59] M Q
theorem w20_0 {Ax0 : Option Addr} {lx0 cx0 : Nat} {M : Mem} {Q : Value → Mem → Prop} (H :
    A20_1 none 0 0 Ax0 lx0 cx0 (lx0 : Int) 0 M Q) :
    Cn Try.prog 20 #[.slice Ax0 lx0 cx0] M Q := by
  refine Cn.of b20 d20 t20 ?_
  refine Rn.seq k20_0 (Rn.region k20_1 (fun call K => r20_0) (Rch.leaf (Rn.seq k20_2 (Rn.region k20_3 (fun call K => r20_1) (Rch.leaf (Rn.seq k20_4 (Rn.seq k20_5 (Rn.region k20_6 (fun call K => r20_2) (Rch.leaf (Rn.block k20_7 (Rn.loop k20_8 ?_)))))))))))
  exact H _ _ _ _ _ _ _ _ _ _ _ _ _ _ _ _ _ _ _ _ _ _ _ _ _ _ _ _ _ _ _ _ _ _ _ _ _ _ _ _ _ _ _ _ _ _ _ _ _ _ _ _ _ _ _ _

theorem w20_1 {Ax4 : Option Addr} {lx4 cx4 : Nat} {Ax8 : Option Addr} {lx8 cx8 : Nat} {x9 x10 : Int} {M : Mem} {Q : Value → Mem → Prop} (H :
    ((x10 < x9 →
     ∃ a1', idxA Ax8 lx8 2 x10 = some a1' ∧
     ∃ x2', M.intAt .i64 a1'.block a1'.off = some x2' ∧
     ∃ s3', M.slAt a1'.block (a1'.off + 1) = some s3' ∧
     ∃ M4', (M.new (.cells #[.int .i64 0, .slice none 0 0] 44)).put (2 * M.nb.size) 0 (.int .i64 x2') = some M4' ∧
     ∃ M5', M4'.put (2 * M.nb.size) 1 (.slice s3'.1 (s3'.2.1) (s3'.2.2)) = some M5' ∧
     ∃ x6', M5'.intAt .i64 (2 * M.nb.size) 0 = some x6' ∧
     Cn Try.prog 29 #[.int .i64 x6'] M5' fun v7' N7' =>
      ∃ b8', asB v7' = some b8' ∧
      (((!b8') = true →
       Q (.tuple #[.slice none 0 0, .int .i64 4]) N7') ∧
       ((!b8') = false →
       ∃ x9', N7'.intAt .i64 (2 * M.nb.size) 0 = some x9' ∧
       ((x9' = 2 →
        ∃ s10', N7'.slAt (2 * M.nb.size) (0 + 1) = some s10' ∧
        A20_2 Ax4 lx4 cx4 (some ⟨2 * M.nb.size, 0, none⟩) Ax8 lx8 cx8 x9 x10 (decide (((s10'.2.1 : Int)) > 0)) N7' Q) ∧
        (x9' ≠ 2 →
        A20_2 Ax4 lx4 cx4 (some ⟨2 * M.nb.size, 0, none⟩) Ax8 lx8 cx8 x9 x10 false N7' Q))))) ∧
     (¬ (x10 < x9) →
     Q (.tuple #[.slice Ax4 lx4 cx4, .int .i64 0]) M))) :
    A20_1 Ax4 lx4 cx4 Ax8 lx8 cx8 x9 x10 M Q := by
  intro g0 g1 g2 g3 g5 g6 g7 g11 g12 g13 g14 g15 g16 g17 g18 g19 g20 g21 g22 g23 g24 g25 g26 g27 g28 g29 g30 g31 g32 g33 g34 g35 g36 g37 g38 g39 g40 g41 g42 g43 g44 g45 g46 g47 g48 g49 g50 g51 g52 g53 g54 g55 g56 g57 g58 g59
  refine Rn.seq k20_9 (Rn.region k20_10 (fun call K => r20_3) (Rch.leaf (Rn.seq k20_11 ?_)))
  refine Rn.cnd (v := decide (x10 < x9)) ⟨c20_12, rfl, by kernel_rfl⟩ (fun h => ?_) (fun h => ?_)
  · replace H := H.1 (of_decide_eq_true h)
    refine Rn.skip k20_13 (Rn.seq k20_14 (Rn.block k20_15 (Rn.seq k20_16 (Rn.region k20_17 (fun call K => r20_4) (Rch.ex H fun a1' H => Rch.ex H fun x2' H => Rch.ex H fun s3' H => Rch.ex H fun M4' H => Rch.ex H fun M5' H => Rch.leaf (Rn.block k20_18 ?_))))))
    refine Rn.seq k20_19 (Rn.region k20_20 (fun call K => r20_7) (Rch.bind (x := ⟨2 * M.nb.size, 0, none⟩) rfl (Rch.ex H fun x6' H => Rch.call H fun v7' N7' H => Rch.ex H fun b8' H => Rch.leaf ?_)))
    refine Rn.cnd (v := !b8') ⟨c20_21, rfl, by kernel_rfl⟩ (fun h => ?_) (fun h => ?_)
    · replace H := H.1 (h)
      refine Rn.seq k20_22 (Rn.region k20_23 (fun call K => r20_8) (Rch.leaf ?_))
      exact Rn.ret k20_24 e20 H
    · replace H := H.2 (h)
      refine Rn.seq k20_26 (Rn.region k20_27 (fun call K => r20_9) (Rch.bind (x := ⟨2 * M.nb.size, 0, none⟩) rfl (Rch.ex H fun x9' H => ?_)))
      refine Rch.cB (fun h => ?_) (fun h => ?_)
      · replace H := H.1 (eq_of_beq h)
        refine Rch.bind (x := ⟨2 * M.nb.size, 0, none⟩) rfl (Rch.ex H fun s10' H => Rch.leaf ?_)
        exact H _ _ _ _ _ _ _ _ _ _ _ _ _ _ _ _ _ _ _ _ _ _ _ _ _ _ _ _ _ _ _ _ _ _ _ _ _ _ _ _ _ _ _ _ _ _ _ _ _ _ _ _ _ _
      · replace H := H.2 (ne_of_beq_false h)
        refine Rch.leaf ?_
        exact H _ _ _ _ _ _ _ _ _ _ _ _ _ _ _ _ _ _ _ _ _ _ _ _ _ _ _ _ _ _ _ _ _ _ _ _ _ _ _ _ _ _ _ _ _ _ _ _ _ _ _ _ _ _
  · replace H := H.2 (of_decide_eq_false h)
    refine Rn.exit k20_28 rfl (Rn.seq k20_29 (Rn.region k20_30 (fun call K => r20_16) (Rch.leaf ?_)))
    exact Rn.ret k20_31 e20 H

theorem w20_2 {Ax4 : Option Addr} {lx4 cx4 : Nat} {x6 Ax8 : Option Addr} {lx8 cx8 : Nat} {x9 x10 : Int} {x37 : Bool} {M : Mem} {Q : Value → Mem → Prop} (H :
    ((x37 = true →
     Q (.tuple #[.slice none 0 0, .int .i64 4]) M) ∧
     (x37 = false →
     ∃ a11', x6 = some a11' ∧
     ∃ x12', M.intAt .i64 a11'.block a11'.off = some x12' ∧
     ((x12' = 2 →
      ∃ r13', appendP Try.prog #[37, 37] (.slice Ax4 lx4 cx4) (.slice (some ⟨2 * M.nb.size, 0, none⟩) 1 1) (M.new (.cells #[.slice none 0 0] 24)) = some r13' ∧
      ∃ s14', asS r13'.1 = some s14' ∧
      A20_3 s14'.1 s14'.2.1 s14'.2.2 Ax8 lx8 cx8 x9 x10 r13'.2 Q) ∧
      (x12' ≠ 2 →
      ((((lx4 : Int)) = 0 →
       Q (.tuple #[.slice none 0 0, .int .i64 4]) M) ∧
       (((lx4 : Int)) ≠ 0 →
       ∃ a15', idxA Ax4 lx4 1 (IntKind.i64.wrap (((lx4 : Int)) - 1)) = some a15' ∧
       ∃ s16', M.slAt a15'.block a15'.off = some s16' ∧
       ∃ a17', x6 = some a17' ∧
       ∃ x18', M.intAt .i64 a17'.block a17'.off = some x18' ∧
       ∃ a19', x6 = some a19' ∧
       ∃ s20', M.slAt a19'.block (a19'.off + 1) = some s20' ∧
       Cn Try.prog 38 #[.slice s20'.1 (s20'.2.1) (s20'.2.2)] { M with floor := M.nb.size } fun v21' N21' =>
        ∃ s22', asS v21' = some s22' ∧
        ∃ r23', appendP Try.prog #[24, 24] (.slice s16'.1 (s16'.2.1) (s16'.2.2)) (.slice (some ⟨2 * { N21' with floor := M.floor }.nb.size, 0, none⟩) 1 1) ({ N21' with floor := M.floor }.new (.cells #[.int .i64 x18', .slice s22'.1 (s22'.2.1) (s22'.2.2)] 44)) = some r23' ∧
        ∃ s24', asS r23'.1 = some s24' ∧
        ∃ M25', r23'.2.put a15'.block a15'.off (.slice s24'.1 (s24'.2.1) (s24'.2.2)) = some M25' ∧
        A20_3 Ax4 lx4 cx4 Ax8 lx8 cx8 x9 x10 M25' Q))))))) :
    A20_2 Ax4 lx4 cx4 x6 Ax8 lx8 cx8 x9 x10 x37 M Q := by
  intro g0 g1 g2 g3 g5 g7 g11 g12 g13 g14 g15 g16 g17 g18 g19 g20 g21 g22 g23 g24 g25 g26 g27 g28 g29 g30 g31 g32 g33 g34 g35 g36 g38 g39 g40 g41 g42 g43 g44 g45 g46 g47 g48 g49 g50 g51 g52 g53 g54 g55 g56 g57 g58 g59
  refine Rn.cnd (v := x37) ⟨c20_32, rfl, by kernel_rfl⟩ (fun h => ?_) (fun h => ?_)
  · replace H := H.1 (h)
    refine Rn.seq k20_33 (Rn.region k20_34 (fun call K => r20_10) (Rch.leaf ?_))
    exact Rn.ret k20_35 e20 H
  · replace H := H.2 (h)
    refine Rn.seq k20_36 (Rn.region k20_37 (fun call K => r20_11) (Rch.ex H fun a11' H => Rch.ex H fun x12' H => Rch.leaf ?_))
    refine Rn.cnd (v := x12' == 2) ⟨c20_38, rfl, by kernel_rfl⟩ (fun h => ?_) (fun h => ?_)
    · replace H := H.1 (eq_of_beq h)
      refine Rn.region k20_39 (fun call K => r20_12) (Rch.ex H fun r13' H => Rch.ex H fun s14' H => Rch.leaf (Rn.blk ?_))
      exact H _ _ _ _ _ _ _ _ _ _ _ _ _ _ _ _ _ _ _ _ _ _ _ _ _ _ _ _ _ _ _ _ _ _ _ _ _ _ _ _ _ _ _ _ _ _ _ _ _ _ _ _ _ _ _ _
    · replace H := H.2 (ne_of_beq_false h)
      refine Rn.seq k20_40 (Rn.region k20_41 (fun call K => r20_13) (Rch.leaf ?_))
      refine Rn.cnd (v := ((lx4 : Int)) == 0) ⟨c20_42, rfl, by kernel_rfl⟩ (fun h => ?_) (fun h => ?_)
      · replace H := H.1 (eq_of_beq h)
        refine Rn.seq k20_43 (Rn.region k20_44 (fun call K => r20_14) (Rch.leaf ?_))
        exact Rn.ret k20_45 e20 H
      · replace H := H.2 (ne_of_beq_false h)
        refine Rn.seq k20_46 (Rn.region k20_47 (fun call K => r20_5) (Rch.ex H fun a15' H => Rch.leaf (Rn.regionD k20_48 (fun call K => r20_6) (Rch.bind (x := a15') rfl (Rch.ex H fun s16' H => Rch.ex H fun a17' H => Rch.ex H fun x18' H => Rch.ex H fun a19' H => Rch.ex H fun s20' H => Rch.callF H fun v21' N21' H => ?_)))))
        refine Rch.ex H fun s22' H => Rch.ex H fun r23' H => Rch.ex H fun s24' H => Rch.bind (x := a15') rfl (Rch.ex H fun M25' H => Rch.leaf (Rn.blk ?_))
        exact H _ _ _ _ _ _ _ _ _ _ _ _ _ _ _ _ _ _ _ _ _ _ _ _ _ _ _ _ _ _ _ _ _ _ _ _ _ _ _ _ _ _ _ _ _ _ _ _ _ _ _ _ _ _ _ _

theorem w20_3 {Ax4 : Option Addr} {lx4 cx4 : Nat} {Ax8 : Option Addr} {lx8 cx8 : Nat} {x9 x10 : Int} {M : Mem} {Q : Value → Mem → Prop} (H :
    A20_4 Ax4 lx4 cx4 Ax8 lx8 cx8 x9 x10 M Q) :
    A20_3 Ax4 lx4 cx4 Ax8 lx8 cx8 x9 x10 M Q := by
  intro g0 g1 g2 g3 g5 g6 g7 g11 g12 g13 g14 g15 g16 g17 g18 g19 g20 g21 g22 g23 g24 g25 g26 g27 g28 g29 g30 g31 g32 g33 g34 g35 g36 g37 g38 g39 g40 g41 g42 g43 g44 g45 g46 g47 g48 g49 g50 g51 g52 g53 g54 g55 g56 g57 g58 g59
  refine Rn.blk ?_
  exact H _ _ _ _ _ _ _ _ _ _ _ _ _ _ _ _ _ _ _ _ _ _ _ _ _ _ _ _ _ _ _ _ _ _ _ _ _ _ _ _ _ _ _ _ _ _ _ _ _ _ _ _ _ _ _ _

theorem w20_4 {Ax4 : Option Addr} {lx4 cx4 : Nat} {Ax8 : Option Addr} {lx8 cx8 : Nat} {x9 x10 : Int} {M : Mem} {Q : Value → Mem → Prop} (H :
    A20_1 Ax4 lx4 cx4 Ax8 lx8 cx8 x9 (IntKind.i64.wrap (x10 + 1)) M Q) :
    A20_4 Ax4 lx4 cx4 Ax8 lx8 cx8 x9 x10 M Q := by
  intro g0 g1 g2 g3 g5 g6 g7 g11 g12 g13 g14 g15 g16 g17 g18 g19 g20 g21 g22 g23 g24 g25 g26 g27 g28 g29 g30 g31 g32 g33 g34 g35 g36 g37 g38 g39 g40 g41 g42 g43 g44 g45 g46 g47 g48 g49 g50 g51 g52 g53 g54 g55 g56 g57 g58 g59
  refine Rn.region k20_49 (fun call K => r20_15) (Rch.leaf (Rn.lp ?_))
  exact H _ _ _ _ _ _ _ _ _ _ _ _ _ _ _ _ _ _ _ _ _ _ _ _ _ _ _ _ _ _ _ _ _ _ _ _ _ _ _ _ _ _ _ _ _ _ _ _ _ _ _ _ _ _ _ _


end Go.Zt
