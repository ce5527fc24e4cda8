/- The functions' walks: for each function and each loop a rule of what it comes to. Printed by zw.py. -/
import Derived.Test.YtnhfoiijkadajaaProg
import Derived.Test.YtnhfoiijkadajaaZeA
set_option linter.unusedVariables false
set_option maxRecDepth 100000
namespace Go.Zt
open Go Go.Sim Go.Proofs

variable {g0 g1 g2 g3 g4 g5 g6 g7 g8 g9 g10 g11 g12 g13 g14 g15 g16 g17 g18 g19 g20 g21 g22 g23 g24 g25 g26 g27 g28 g29 g30 g31 g32 g33 g34 g35 g36 g37 g38 g39 g40 g41 g42 g43 g44 g45 g46 g47 g48 g49 g50 g51 g52 g53 g54 g55 g56 g57 g58 g59 g60 g61 g62 g63 g64 g65 g66 g67 g68 g69 g70 g71 g72 g73 g74 g75 g76 g77 g78 g79 g80 g81 g82 g83 g84 g85 g86 g87 g88 g89 g90 g91 g92 g93 g94 g95 g96 g97 g98 g99 g100 g101 g102 g103 g104 g105 : Value}
/-! ### zoetrope/zoetroperef00.CopyInts: function 10 -/
noncomputable abbrev P10 (p : List Nat) : Code := subC (codeOf Try.f10) p
noncomputable abbrev O10 (p : List Nat) : Array Oper := opsOf (subC (codeOf Try.f10) p)
theorem b10 : Try.prog.funcs[10]? = some Try.f10 ∧ (Orc.tab Try.prog).lookup 10 = none := ⟨by kernel_rfl, by kernel_rfl⟩
theorem d10 : Try.f10.body = some (P10 []) := by kernel_rfl
theorem t10 {Ax0 : Option Addr} {lx0 cx0 : Nat} : #[.slice Ax0 lx0 cx0] ++ Array.replicate (Try.f10.ntmps - (#[.slice Ax0 lx0 cx0] : Array Value).size) undef = #[.slice Ax0 lx0 cx0,undef,undef,undef,undef,undef,undef,undef] := by kernel_rfl
theorem k10_0 : P10 [] = .seq (P10 [0]) (P10 [1]) := by kernel_rfl
theorem k10_1 : P10 [0] = .region 0 (O10 [0]) false := by kernel_rfl
theorem r10_0 {M : Mem} {call : CallM} {K : Array Value → Mem → R} :
    opsK Try.prog (fun _ => call) (O10 [0]) (O10 [0]).toList 0 #[g0,g1,g2,g3,g4,g5,g6,g7] M K = K #[g0,g1,.slice none 0 0,g3,g4,g5,g6,g7] M := by kernel_rfl
theorem k10_2 : P10 [1] = .seq (P10 [1,0]) (P10 [1,1]) := by kernel_rfl
theorem k10_3 : P10 [1,0] = .region 1 (O10 [1,0]) false := by kernel_rfl
theorem r10_1 {M : Mem} {call : CallM} {K : Array Value → Mem → R} :
    opsK Try.prog (fun _ => call) (O10 [1,0]) (O10 [1,0]).toList 0 #[g0,g1,g2,g3,g4,g5,g6,g7] M K = K #[g0,g1,g2,.slice none 0 0,g4,g5,g6,g7] M := by kernel_rfl
theorem k10_4 : P10 [1,1] = .seq (P10 [1,1,0]) (P10 [1,1,1]) := by kernel_rfl
theorem k10_5 : P10 [1,1,0] = .region 2 (O10 [1,1,0]) false := by kernel_rfl
theorem r10_2 {Ax0 : Option Addr} {lx0 cx0 : Nat} {Ax3 : Option Addr} {lx3 cx3 : Nat} {M : Mem} {call : CallM} {K : Array Value → Mem → R} :
    opsK Try.prog (fun _ => call) (O10 [1,1,0]) (O10 [1,1,0]).toList 0 #[.slice Ax0 lx0 cx0,g1,g2,.slice Ax3 lx3 cx3,g4,g5,g6,g7] M K = (appendP Try.prog #[22, 22] (.slice Ax3 lx3 cx3) (.slice Ax0 lx0 cx0) M).bind fun r_1 => (asS r_1.1).bind fun s_2 => K #[.slice Ax0 lx0 cx0,g1,g2,.slice s_2.1 (s_2.2.1) (s_2.2.2),.slice Ax3 lx3 cx3,.slice Ax0 lx0 cx0,.slice s_2.1 (s_2.2.1) (s_2.2.2),g7] r_1.2 := by kernel_rfl
theorem k10_6 : P10 [1,1,1] = .seq (P10 [1,1,1,0]) (P10 [1,1,1,1]) := by kernel_rfl
theorem k10_7 : P10 [1,1,1,0] = .region 3 (O10 [1,1,1,0]) false := by kernel_rfl
theorem r10_3 {Ax3 : Option Addr} {lx3 cx3 : Nat} {M : Mem} {call : CallM} {K : Array Value → Mem → R} :
    opsK Try.prog (fun _ => call) (O10 [1,1,1,0]) (O10 [1,1,1,0]).toList 0 #[g0,g1,g2,.slice Ax3 lx3 cx3,g4,g5,g6,g7] M K = K #[g0,g1,.slice Ax3 lx3 cx3,.slice Ax3 lx3 cx3,g4,g5,g6,.slice Ax3 lx3 cx3] M := by kernel_rfl
theorem k10_8 : P10 [1,1,1,1] = .ret := by kernel_rfl
theorem e10 {M : Mem} : finish Try.prog Try.f10 #[g0,g1,g2,g3,g4,g5,g6,g7] M = some (g2, M) := by kernel_rfl
theorem w10_0 {Ax0 : Option Addr} {lx0 cx0 : Nat} {M : Mem} {Q : Value → Mem → Prop} (H :
    ∃ r1', appendP Try.prog #[22, 22] (.slice none 0 0) (.slice Ax0 lx0 cx0) M = some r1' ∧
    ∃ s2', asS r1'.1 = some s2' ∧
    Q (.slice s2'.1 (s2'.2.1) (s2'.2.2)) r1'.2) :
    Cn Try.prog 10 #[.slice Ax0 lx0 cx0] M Q := by
  refine Cn.of b10 d10 t10 ?_
  refine Rn.seq k10_0 (Rn.region k10_1 (fun call K => r10_0) (Rch.leaf (Rn.seq k10_2 (Rn.region k10_3 (fun call K => r10_1) (Rch.leaf (Rn.seq k10_4 (Rn.region k10_5 (fun call K => r10_2) (Rch.ex H fun r1' H => Rch.ex H fun s2' H => Rch.leaf (Rn.seq k10_6 ?_)))))))))
  refine Rn.region k10_7 (fun call K => r10_3) (Rch.leaf ?_)
  exact Rn.ret k10_8 e10 H


/-! ### zoetrope/zoetroperef00.EqInts: function 13 -/
noncomputable abbrev P13 (p : List Nat) : Code := subC (codeOf Try.f13) p
noncomputable abbrev O13 (p : List Nat) : Array Oper := opsOf (subC (codeOf Try.f13) p)
theorem b13 : Try.prog.funcs[13]? = some Try.f13 ∧ (Orc.tab Try.prog).lookup 13 = none := ⟨by kernel_rfl, by kernel_rfl⟩
theorem d13 : Try.f13.body = some (P13 []) := by kernel_rfl
theorem t13 {Ax0 : Option Addr} {lx0 cx0 : Nat} {Ax1 : Option Addr} {lx1 cx1 : Nat} : #[.slice Ax0 lx0 cx0,.slice Ax1 lx1 cx1] ++ Array.replicate (Try.f13.ntmps - (#[.slice Ax0 lx0 cx0,.slice Ax1 lx1 cx1] : Array Value).size) undef = #[.slice Ax0 lx0 cx0,.slice Ax1 lx1 cx1,undef,undef,undef,undef,undef,undef,undef,undef,undef,undef,undef,undef,undef,undef,undef,undef,undef,undef,undef,undef,undef,undef,undef,undef] := by kernel_rfl
theorem k13_0 : P13 [] = .seq (P13 [0]) (P13 [1]) := by kernel_rfl
theorem k13_1 : P13 [0] = .region 0 (O13 [0]) false := by kernel_rfl
theorem r13_0 {M : Mem} {call : CallM} {K : Array Value → Mem → R} :
    opsK Try.prog (fun _ => call) (O13 [0]) (O13 [0]).toList 0 #[g0,g1,g2,g3,g4,g5,g6,g7,g8,g9,g10,g11,g12,g13,g14,g15,g16,g17,g18,g19,g20,g21,g22,g23,g24,g25] M K = K #[g0,g1,g2,g3,.bool false,g5,g6,g7,g8,g9,g10,g11,g12,g13,g14,g15,g16,g17,g18,g19,g20,g21,g22,g23,g24,g25] M := by kernel_rfl
theorem k13_2 : P13 [1] = .seq (P13 [1,0]) (P13 [1,1]) := by kernel_rfl
theorem k13_3 : P13 [1,0] = .seq (P13 [1,0,0]) (P13 [1,0,1]) := by kernel_rfl
theorem k13_4 : P13 [1,0,0] = .region 1 (O13 [1,0,0]) false := by kernel_rfl
theorem r13_1 {Ax0 : Option Addr} {lx0 cx0 : Nat} {Ax1 : Option Addr} {lx1 cx1 : Nat} {M : Mem} {call : CallM} {K : Array Value → Mem → R} :
    opsK Try.prog (fun _ => call) (O13 [1,0,0]) (O13 [1,0,0]).toList 0 #[.slice Ax0 lx0 cx0,.slice Ax1 lx1 cx1,g2,g3,g4,g5,g6,g7,g8,g9,g10,g11,g12,g13,g14,g15,g16,g17,g18,g19,g20,g21,g22,g23,g24,g25] M K = K #[.slice Ax0 lx0 cx0,.slice Ax1 lx1 cx1,g2,g3,g4,g5,.slice Ax0 lx0 cx0,.int .i64 ((lx0 : Int)),.slice Ax1 lx1 cx1,.int .i64 ((lx1 : Int)),.bool (((lx0 : Int)) != ((lx1 : Int))),g11,g12,g13,g14,g15,g16,g17,g18,g19,g20,g21,g22,g23,g24,g25] M := by kernel_rfl
theorem c13_5 : P13 [1,0,1] = .cond (.tmp 10) (P13 [1,0,1,0]) (P13 [1,0,1,1]) := by kernel_rfl
theorem k13_6 : P13 [1,0,1,0] = .seq (P13 [1,0,1,0,0]) (P13 [1,0,1,0,1]) := by kernel_rfl
theorem k13_7 : P13 [1,0,1,0,0] = .region 2 (O13 [1,0,1,0,0]) false := by kernel_rfl
theorem r13_2 {M : Mem} {call : CallM} {K : Array Value → Mem → R} :
    opsK Try.prog (fun _ => call) (O13 [1,0,1,0,0]) (O13 [1,0,1,0,0]).toList 0 #[g0,g1,g2,g3,g4,g5,g6,g7,g8,g9,g10,g11,g12,g13,g14,g15,g16,g17,g18,g19,g20,g21,g22,g23,g24,g25] M K = K #[g0,g1,g2,g3,.bool false,g5,g6,g7,g8,g9,g10,g11,g12,g13,g14,g15,g16,g17,g18,g19,g20,g21,g22,g23,g24,g25] M := by kernel_rfl
theorem k13_8 : P13 [1,0,1,0,1] = .ret := by kernel_rfl
theorem e13 {M : Mem} : finish Try.prog Try.f13 #[g0,g1,g2,g3,g4,g5,g6,g7,g8,g9,g10,g11,g12,g13,g14,g15,g16,g17,g18,g19,g20,g21,g22,g23,g24,g25] M = some (g4, M) := by kernel_rfl
theorem k13_10 : P13 [1,0,1,1] = .skip := by kernel_rfl
theorem k13_11 : P13 [1,1] = .seq (P13 [1,1,0]) (P13 [1,1,1]) := by kernel_rfl
theorem k13_12 : P13 [1,1,0] = .seq (P13 [1,1,0,0]) (P13 [1,1,0,1]) := by kernel_rfl
theorem k13_13 : P13 [1,1,0,0] = .region 3 (O13 [1,1,0,0]) false := by kernel_rfl
theorem r13_3 {M : Mem} {call : CallM} {K : Array Value → Mem → R} :
    opsK Try.prog (fun _ => call) (O13 [1,1,0,0]) (O13 [1,1,0,0]).toList 0 #[g0,g1,g2,g3,g4,g5,g6,g7,g8,g9,g10,g11,g12,g13,g14,g15,g16,g17,g18,g19,g20,g21,g22,g23,g24,g25] M K = K #[g0,g1,g2,g3,g4,.int .i64 0,g6,g7,g8,g9,g10,g11,g12,g13,g14,g15,g16,g17,g18,g19,g20,g21,g22,g23,g24,g25] M := by kernel_rfl
theorem k13_14 : P13 [1,1,0,1] = .block 0 (P13 [1,1,0,1,0]) := by kernel_rfl
theorem k13_15 : P13 [1,1,0,1,0] = .loop (P13 [1,1,0,1,0,0]) := by kernel_rfl
theorem k13_16 : P13 [1,1,0,1,0,0] = .seq (P13 [1,1,0,1,0,0,0]) (P13 [1,1,0,1,0,0,1]) := by kernel_rfl
theorem k13_17 : P13 [1,1,0,1,0,0,0] = .seq (P13 [1,1,0,1,0,0,0,0]) (P13 [1,1,0,1,0,0,0,1]) := by kernel_rfl
theorem k13_18 : P13 [1,1,0,1,0,0,0,0] = .region 4 (O13 [1,1,0,1,0,0,0,0]) false := by kernel_rfl
theorem r13_4 {Ax0 : Option Addr} {lx0 cx0 : Nat} {x5 : Int} {M : Mem} {call : CallM} {K : Array Value → Mem → R} :
    opsK Try.prog (fun _ => call) (O13 [1,1,0,1,0,0,0,0]) (O13 [1,1,0,1,0,0,0,0]).toList 0 #[.slice Ax0 lx0 cx0,g1,g2,g3,g4,.int .i64 x5,g6,g7,g8,g9,g10,g11,g12,g13,g14,g15,g16,g17,g18,g19,g20,g21,g22,g23,g24,g25] M K = K #[.slice Ax0 lx0 cx0,g1,g2,g3,g4,.int .i64 x5,g6,g7,g8,g9,g10,.int .i64 x5,.slice Ax0 lx0 cx0,.int .i64 ((lx0 : Int)),.bool (decide (x5 < ((lx0 : Int)))),g15,g16,g17,g18,g19,g20,g21,g22,g23,g24,g25] M := by kernel_rfl
theorem c13_19 : P13 [1,1,0,1,0,0,0,1] = .cond (.tmp 14) (P13 [1,1,0,1,0,0,0,1,0]) (P13 [1,1,0,1,0,0,0,1,1]) := by kernel_rfl
theorem k13_20 : P13 [1,1,0,1,0,0,0,1,0] = .skip := by kernel_rfl
theorem k13_21 : P13 [1,1,0,1,0,0,1] = .seq (P13 [1,1,0,1,0,0,1,0]) (P13 [1,1,0,1,0,0,1,1]) := by kernel_rfl
theorem k13_22 : P13 [1,1,0,1,0,0,1,0] = .block 1 (P13 [1,1,0,1,0,0,1,0,0]) := by kernel_rfl
theorem k13_23 : P13 [1,1,0,1,0,0,1,0,0] = .seq (P13 [1,1,0,1,0,0,1,0,0,0]) (P13 [1,1,0,1,0,0,1,0,0,1]) := by kernel_rfl
theorem k13_24 : P13 [1,1,0,1,0,0,1,0,0,0] = .region 6 (O13 [1,1,0,1,0,0,1,0,0,0]) true ∧ drawOk (O13 [1,1,0,1,0,0,1,0,0,0]) = true := ⟨by kernel_rfl, by kernel_rfl⟩
theorem r13_6 {Ax0 : Option Addr} {lx0 cx0 : Nat} {Ax1 : Option Addr} {lx1 cx1 : Nat} {x5 : Int} {M : Mem} {call : CallM} {K : Array Value → Mem → R} :
    opsI Try.prog (callAt call (O13 [1,1,0,1,0,0,1,0,0,0])) (O13 [1,1,0,1,0,0,1,0,0,0]) (ordOf (O13 [1,1,0,1,0,0,1,0,0,0])) [] #[.slice Ax0 lx0 cx0,.slice Ax1 lx1 cx1,g2,g3,g4,.int .i64 x5,g6,g7,g8,g9,g10,g11,g12,g13,g14,g15,g16,g17,g18,g19,g20,g21,g22,g23,g24,g25] M K = (idxA Ax0 lx0 1 x5).bind fun a_1 => (M.intAt .i64 a_1.block a_1.off).bind fun x_2 => (idxA Ax1 lx1 1 x5).bind fun a_3 => (M.intAt .i64 a_3.block a_3.off).bind fun x_4 => K #[.slice Ax0 lx0 cx0,.slice Ax1 lx1 cx1,g2,g3,g4,.int .i64 x5,g6,g7,g8,g9,g10,g11,g12,g13,g14,g15,g16,.slice Ax0 lx0 cx0,.int .i64 x5,.pointer (some a_1),.int .i64 x_2,.slice Ax1 lx1 cx1,.int .i64 x5,.pointer (some a_3),.int .i64 x_4,.bool (x_2 != x_4)] M := by kernel_rfl
theorem c13_25 : P13 [1,1,0,1,0,0,1,0,0,1] = .cond (.tmp 25) (P13 [1,1,0,1,0,0,1,0,0,1,0]) (P13 [1,1,0,1,0,0,1,0,0,1,1]) := by kernel_rfl
theorem k13_26 : P13 [1,1,0,1,0,0,1,0,0,1,0] = .seq (P13 [1,1,0,1,0,0,1,0,0,1,0,0]) (P13 [1,1,0,1,0,0,1,0,0,1,0,1]) := by kernel_rfl
theorem k13_27 : P13 [1,1,0,1,0,0,1,0,0,1,0,0] = .region 7 (O13 [1,1,0,1,0,0,1,0,0,1,0,0]) false := by kernel_rfl
theorem r13_7 {M : Mem} {call : CallM} {K : Array Value → Mem → R} :
    opsK Try.prog (fun _ => call) (O13 [1,1,0,1,0,0,1,0,0,1,0,0]) (O13 [1,1,0,1,0,0,1,0,0,1,0,0]).toList 0 #[g0,g1,g2,g3,g4,g5,g6,g7,g8,g9,g10,g11,g12,g13,g14,g15,g16,g17,g18,g19,g20,g21,g22,g23,g24,g25] M K = K #[g0,g1,g2,g3,.bool false,g5,g6,g7,g8,g9,g10,g11,g12,g13,g14,g15,g16,g17,g18,g19,g20,g21,g22,g23,g24,g25] M := by kernel_rfl
theorem k13_28 : P13 [1,1,0,1,0,0,1,0,0,1,0,1] = .ret := by kernel_rfl
theorem k13_29 : P13 [1,1,0,1,0,0,1,0,0,1,1] = .skip := by kernel_rfl
theorem k13_30 : P13 [1,1,0,1,0,0,1,1] = .region 5 (O13 [1,1,0,1,0,0,1,1]) false := by kernel_rfl
theorem r13_5 {x5 : Int} {M : Mem} {call : CallM} {K : Array Value → Mem → R} :
    opsK Try.prog (fun _ => call) (O13 [1,1,0,1,0,0,1,1]) (O13 [1,1,0,1,0,0,1,1]).toList 0 #[g0,g1,g2,g3,g4,.int .i64 x5,g6,g7,g8,g9,g10,g11,g12,g13,g14,g15,g16,g17,g18,g19,g20,g21,g22,g23,g24,g25] M K = K #[g0,g1,g2,g3,g4,.int .i64 (IntKind.i64.wrap (x5 + 1)),g6,g7,g8,g9,g10,g11,g12,g13,g14,.int .i64 x5,.int .i64 (IntKind.i64.wrap (x5 + 1)),g17,g18,g19,g20,g21,g22,g23,g24,g25] M := by kernel_rfl
theorem k13_31 : P13 [1,1,0,1,0,0,0,1,1] = .exit 0 := by kernel_rfl
theorem k13_32 : P13 [1,1,1] = .seq (P13 [1,1,1,0]) (P13 [1,1,1,1]) := by kernel_rfl
theorem k13_33 : P13 [1,1,1,0] = .region 8 (O13 [1,1,1,0]) false := by kernel_rfl
theorem r13_8 {M : Mem} {call : CallM} {K : Array Value → Mem → R} :
    opsK Try.prog (fun _ => call) (O13 [1,1,1,0]) (O13 [1,1,1,0]).toList 0 #[g0,g1,g2,g3,g4,g5,g6,g7,g8,g9,g10,g11,g12,g13,g14,g15,g16,g17,g18,g19,g20,g21,g22,g23,g24,g25] M K = K #[g0,g1,g2,g3,.bool true,g5,g6,g7,g8,g9,g10,g11,g12,g13,g14,g15,g16,g17,g18,g19,g20,g21,g22,g23,g24,g25] M := by kernel_rfl
theorem k13_34 : P13 [1,1,1,1] = .ret := by kernel_rfl
noncomputable def S13_1 : List Item := [.code (P13 [1,1,0,1,0,0]), .inLoop (P13 [1,1,0,1,0,0]), .inBlock 0, .code (P13 [1,1,1])]
def A13_1 (Ax0 : Option Addr) (lx0 cx0 : Nat) (Ax1 : Option Addr) (lx1 cx1 : Nat) (x5 : Int) (M : Mem) (Q : Value → Mem → Prop) : Prop := ∀ (g2 g3 g4 g6 g7 g8 g9 g10 g11 g12 g13 g14 g15 g16 g17 g18 g19 g20 g21 g22 g23 g24 g25 : Value), Rn Try.prog Try.f13 S13_1 #[.slice Ax0 lx0 cx0, .slice Ax1 lx1 cx1, g2, g3, g4, .int .i64 x5, g6, g7, g8, g9, g10, g11, g12, g13, g14, g15, g16, g17, g18, g19, g20, g21, g22, g23, g24, g25] M Q
theorem w13_0 {Ax0 : Option Addr} {lx0 cx0 : Nat} {Ax1 : Option Addr} {lx1 cx1 : Nat} {M : Mem} {Q : Value → Mem → Prop} (H :
    ((((lx0 : Int)) ≠ ((lx1 : Int)) →
     Q (.bool false) M) ∧
     (((lx0 : Int)) = ((lx1 : Int)) →
     A13_1 Ax0 lx0 cx0 Ax1 lx1 cx1 0 M Q))) :
    Cn Try.prog 13 #[.slice Ax0 lx0 cx0, .slice Ax1 lx1 cx1] M Q := by
  refine Cn.of b13 d13 t13 ?_
  refine Rn.seq k13_0 (Rn.region k13_1 (fun call K => r13_0) (Rch.leaf (Rn.seq k13_2 (Rn.seq k13_3 (Rn.region k13_4 (fun call K => r13_1) (Rch.leaf ?_))))))
  refine Rn.cnd (v := ((lx0 : Int)) != ((lx1 : Int))) ⟨c13_5, rfl, by kernel_rfl⟩ (fun h => ?_) (fun h => ?_)
  · replace H := H.1 (ne_of_bneT h)
    refine Rn.seq k13_6 (Rn.region k13_7 (fun call K => r13_2) (Rch.leaf ?_))
    exact Rn.ret k13_8 e13 H
  · replace H := H.2 (eq_of_bneF h)
    refine Rn.skip k13_10 (Rn.seq k13_11 (Rn.seq k13_12 (Rn.region k13_13 (fun call K => r13_3) (Rch.leaf (Rn.block k13_14 (Rn.loop k13_15 ?_))))))
    exact H _ _ _ _ _ _ _ _ _ _ _ _ _ _ _ _ _ _ _ _ _ _ _

theorem w13_1 {Ax0 : Option Addr} {lx0 cx0 : Nat} {Ax1 : Option Addr} {lx1 cx1 : Nat} {x5 : Int} {M : Mem} {Q : Value → Mem → Prop} (H :
    ((x5 < ((lx0 : Int)) →
     ∃ a1', idxA Ax0 lx0 1 x5 = some a1' ∧
     ∃ x2', M.intAt .i64 a1'.block a1'.off = some x2' ∧
     ∃ a3', idxA Ax1 lx1 1 x5 = some a3' ∧
     ∃ x4', M.intAt .i64 a3'.block a3'.off = some x4' ∧
     ((x2' ≠ x4' →
      Q (.bool false) M) ∧
      (x2' = x4' →
      A13_1 Ax0 lx0 cx0 Ax1 lx1 cx1 (IntKind.i64.wrap (x5 + 1)) M Q))) ∧
     (¬ (x5 < ((lx0 : Int))) →
     Q (.bool true) M))) :
    A13_1 Ax0 lx0 cx0 Ax1 lx1 cx1 x5 M Q := by
  intro g2 g3 g4 g6 g7 g8 g9 g10 g11 g12 g13 g14 g15 g16 g17 g18 g19 g20 g21 g22 g23 g24 g25
  refine Rn.seq k13_16 (Rn.seq k13_17 (Rn.region k13_18 (fun call K => r13_4) (Rch.leaf ?_)))
  refine Rn.cnd (v := decide (x5 < ((lx0 : Int)))) ⟨c13_19, rfl, by kernel_rfl⟩ (fun h => ?_) (fun h => ?_)
  · replace H := H.1 (of_decide_eq_true h)
    refine Rn.skip k13_20 (Rn.seq k13_21 (Rn.block k13_22 (Rn.seq k13_23 (Rn.regionD k13_24 (fun call K => r13_6) (Rch.ex H fun a1' H => Rch.ex H fun x2' H => Rch.ex H fun a3' H => Rch.ex H fun x4' H => Rch.leaf ?_)))))
    refine Rn.cnd (v := x2' != x4') ⟨c13_25, rfl, by kernel_rfl⟩ (fun h => ?_) (fun h => ?_)
    · replace H := H.1 (ne_of_bneT h)
      refine Rn.seq k13_26 (Rn.region k13_27 (fun call K => r13_7) (Rch.leaf ?_))
      exact Rn.ret k13_28 e13 H
    · replace H := H.2 (eq_of_bneF h)
      refine Rn.skip k13_29 (Rn.blk (Rn.region k13_30 (fun call K => r13_5) (Rch.leaf (Rn.lp ?_))))
      exact H _ _ _ _ _ _ _ _ _ _ _ _ _ _ _ _ _ _ _ _ _ _ _
  · replace H := H.2 (of_decide_eq_false h)
    refine Rn.exit k13_31 rfl (Rn.seq k13_32 (Rn.region k13_33 (fun call K => r13_8) (Rch.leaf ?_)))
    exact Rn.ret k13_34 e13 H


/-! ### zoetrope/tiles.orderMay: function 28 -/
noncomputable abbrev P28 (p : List Nat) : Code := subC (codeOf Try.f28) p
noncomputable abbrev O28 (p : List Nat) : Array Oper := opsOf (subC (codeOf Try.f28) p)
theorem b28 : Try.prog.funcs[28]? = some Try.f28 ∧ (Orc.tab Try.prog).lookup 28 = none := ⟨by kernel_rfl, by kernel_rfl⟩
theorem d28 : Try.f28.body = some (P28 []) := by kernel_rfl
theorem t28 {Ax0 : Option Addr} {lx0 cx0 : Nat} {x1 : Int} : #[.slice Ax0 lx0 cx0,.int .i64 x1] ++ Array.replicate (Try.f28.ntmps - (#[.slice Ax0 lx0 cx0,.int .i64 x1] : Array Value).size) undef = #[.slice Ax0 lx0 cx0,.int .i64 x1,undef,undef,undef,undef,undef,undef,undef,undef,undef,undef,undef,undef,undef,undef,undef,undef,undef,undef,undef,undef,undef,undef,undef,undef,undef,undef,undef,undef,undef,undef,undef] := by kernel_rfl
theorem k28_0 : P28 [] = .seq (P28 [0]) (P28 [1]) := by kernel_rfl
theorem k28_1 : P28 [0] = .region 0 (O28 [0]) false := by kernel_rfl
theorem r28_0 {M : Mem} {call : CallM} {K : Array Value → Mem → R} :
    opsK Try.prog (fun _ => call) (O28 [0]) (O28 [0]).toList 0 #[g0,g1,g2,g3,g4,g5,g6,g7,g8,g9,g10,g11,g12,g13,g14,g15,g16,g17,g18,g19,g20,g21,g22,g23,g24,g25,g26,g27,g28,g29,g30,g31,g32] M K = K #[g0,g1,g2,g3,.int .i64 0,.int .i64 0,g6,g7,g8,g9,g10,g11,g12,g13,g14,g15,g16,g17,g18,g19,g20,g21,g22,g23,g24,g25,g26,g27,g28,g29,g30,g31,g32] M := by kernel_rfl
theorem k28_2 : P28 [1] = .seq (P28 [1,0]) (P28 [1,1]) := by kernel_rfl
theorem k28_3 : P28 [1,0] = .seq (P28 [1,0,0]) (P28 [1,0,1]) := by kernel_rfl
theorem k28_4 : P28 [1,0,0] = .region 1 (O28 [1,0,0]) false := by kernel_rfl
theorem r28_1 {Ax0 : Option Addr} {lx0 cx0 : Nat} {M : Mem} {call : CallM} {K : Array Value → Mem → R} :
    opsK Try.prog (fun _ => call) (O28 [1,0,0]) (O28 [1,0,0]).toList 0 #[.slice Ax0 lx0 cx0,g1,g2,g3,g4,g5,g6,g7,g8,g9,g10,g11,g12,g13,g14,g15,g16,g17,g18,g19,g20,g21,g22,g23,g24,g25,g26,g27,g28,g29,g30,g31,g32] M K = K #[.slice Ax0 lx0 cx0,g1,g2,g3,g4,g5,g6,g7,g8,.slice Ax0 lx0 cx0,.int .i64 ((lx0 : Int)),.bool (decide (((lx0 : Int)) > 256)),g12,g13,g14,g15,g16,g17,g18,g19,g20,g21,g22,g23,g24,g25,g26,g27,g28,g29,g30,g31,g32] M := by kernel_rfl
theorem c28_5 : P28 [1,0,1] = .cond (.tmp 11) (P28 [1,0,1,0]) (P28 [1,0,1,1]) := by kernel_rfl
theorem k28_6 : P28 [1,0,1,0] = .seq (P28 [1,0,1,0,0]) (P28 [1,0,1,0,1]) := by kernel_rfl
theorem k28_7 : P28 [1,0,1,0,0] = .region 2 (O28 [1,0,1,0,0]) false := by kernel_rfl
theorem r28_2 {M : Mem} {call : CallM} {K : Array Value → Mem → R} :
    opsK Try.prog (fun _ => call) (O28 [1,0,1,0,0]) (O28 [1,0,1,0,0]).toList 0 #[g0,g1,g2,g3,g4,g5,g6,g7,g8,g9,g10,g11,g12,g13,g14,g15,g16,g17,g18,g19,g20,g21,g22,g23,g24,g25,g26,g27,g28,g29,g30,g31,g32] M K = K #[g0,g1,g2,g3,.int .i64 0,.int .i64 7,g6,g7,g8,g9,g10,g11,g12,g13,g14,g15,g16,g17,g18,g19,g20,g21,g22,g23,g24,g25,g26,g27,g28,g29,g30,g31,g32] M := by kernel_rfl
theorem k28_8 : P28 [1,0,1,0,1] = .ret := by kernel_rfl
theorem e28 {M : Mem} : finish Try.prog Try.f28 #[g0,g1,g2,g3,g4,g5,g6,g7,g8,g9,g10,g11,g12,g13,g14,g15,g16,g17,g18,g19,g20,g21,g22,g23,g24,g25,g26,g27,g28,g29,g30,g31,g32] M = some (.tuple #[g4, g5], M) := by kernel_rfl
theorem k28_10 : P28 [1,0,1,1] = .skip := by kernel_rfl
theorem k28_11 : P28 [1,1] = .seq (P28 [1,1,0]) (P28 [1,1,1]) := by kernel_rfl
theorem k28_12 : P28 [1,1,0] = .region 3 (O28 [1,1,0]) false := by kernel_rfl
theorem r28_3 {M : Mem} {call : CallM} {K : Array Value → Mem → R} :
    opsK Try.prog (fun _ => call) (O28 [1,1,0]) (O28 [1,1,0]).toList 0 #[g0,g1,g2,g3,g4,g5,g6,g7,g8,g9,g10,g11,g12,g13,g14,g15,g16,g17,g18,g19,g20,g21,g22,g23,g24,g25,g26,g27,g28,g29,g30,g31,g32] M K = K #[g0,g1,g2,g3,g4,g5,.int .i64 0,g7,g8,g9,g10,g11,g12,g13,g14,g15,g16,g17,g18,g19,g20,g21,g22,g23,g24,g25,g26,g27,g28,g29,g30,g31,g32] M := by kernel_rfl
theorem k28_13 : P28 [1,1,1] = .seq (P28 [1,1,1,0]) (P28 [1,1,1,1]) := by kernel_rfl
theorem k28_14 : P28 [1,1,1,0] = .seq (P28 [1,1,1,0,0]) (P28 [1,1,1,0,1]) := by kernel_rfl
theorem k28_15 : P28 [1,1,1,0,0] = .region 4 (O28 [1,1,1,0,0]) false := by kernel_rfl
theorem r28_4 {Ax0 : Option Addr} {lx0 cx0 : Nat} {M : Mem} {call : CallM} {K : Array Value → Mem → R} :
    opsK Try.prog (fun _ => call) (O28 [1,1,1,0,0]) (O28 [1,1,1,0,0]).toList 0 #[.slice Ax0 lx0 cx0,g1,g2,g3,g4,g5,g6,g7,g8,g9,g10,g11,g12,g13,g14,g15,g16,g17,g18,g19,g20,g21,g22,g23,g24,g25,g26,g27,g28,g29,g30,g31,g32] M K = K #[.slice Ax0 lx0 cx0,g1,g2,g3,g4,g5,g6,g7,g8,g9,g10,g11,.slice Ax0 lx0 cx0,.int .i64 ((lx0 : Int)),.int .i64 0,g15,g16,g17,g18,g19,g20,g21,g22,g23,g24,g25,g26,g27,g28,g29,g30,g31,g32] M := by kernel_rfl
theorem k28_16 : P28 [1,1,1,0,1] = .block 0 (P28 [1,1,1,0,1,0]) := by kernel_rfl
theorem k28_17 : P28 [1,1,1,0,1,0] = .loop (P28 [1,1,1,0,1,0,0]) := by kernel_rfl
theorem k28_18 : P28 [1,1,1,0,1,0,0] = .seq (P28 [1,1,1,0,1,0,0,0]) (P28 [1,1,1,0,1,0,0,1]) := by kernel_rfl
theorem k28_19 : P28 [1,1,1,0,1,0,0,0] = .region 5 (O28 [1,1,1,0,1,0,0,0]) false := by kernel_rfl
theorem r28_5 {x13 x14 : Int} {M : Mem} {call : CallM} {K : Array Value → Mem → R} :
    opsK Try.prog (fun _ => call) (O28 [1,1,1,0,1,0,0,0]) (O28 [1,1,1,0,1,0,0,0]).toList 0 #[g0,g1,g2,g3,g4,g5,g6,g7,g8,g9,g10,g11,g12,.int .i64 x13,.int .i64 x14,g15,g16,g17,g18,g19,g20,g21,g22,g23,g24,g25,g26,g27,g28,g29,g30,g31,g32] M K = K #[g0,g1,g2,g3,g4,g5,g6,g7,g8,g9,g10,g11,g12,.int .i64 x13,.int .i64 x14,.bool (decide (x14 < x13)),g16,g17,g18,g19,g20,g21,g22,g23,g24,g25,g26,g27,g28,g29,g30,g31,g32] M := by kernel_rfl
theorem k28_20 : P28 [1,1,1,0,1,0,0,1] = .seq (P28 [1,1,1,0,1,0,0,1,0]) (P28 [1,1,1,0,1,0,0,1,1]) := by kernel_rfl
theorem c28_21 : P28 [1,1,1,0,1,0,0,1,0] = .cond (.tmp 15) (P28 [1,1,1,0,1,0,0,1,0,0]) (P28 [1,1,1,0,1,0,0,1,0,1]) := by kernel_rfl
theorem k28_22 : P28 [1,1,1,0,1,0,0,1,0,0] = .skip := by kernel_rfl
theorem k28_23 : P28 [1,1,1,0,1,0,0,1,1] = .seq (P28 [1,1,1,0,1,0,0,1,1,0]) (P28 [1,1,1,0,1,0,0,1,1,1]) := by kernel_rfl
theorem k28_24 : P28 [1,1,1,0,1,0,0,1,1,0] = .block 1 (P28 [1,1,1,0,1,0,0,1,1,0,0]) := by kernel_rfl
theorem k28_25 : P28 [1,1,1,0,1,0,0,1,1,0,0] = .seq (P28 [1,1,1,0,1,0,0,1,1,0,0,0]) (P28 [1,1,1,0,1,0,0,1,1,0,0,1]) := by kernel_rfl
theorem k28_26 : P28 [1,1,1,0,1,0,0,1,1,0,0,0] = .region 6 (O28 [1,1,1,0,1,0,0,1,1,0,0,0]) false := by kernel_rfl
theorem r28_6 {Ax12 : Option Addr} {lx12 cx12 : Nat} {x14 : Int} {M : Mem} {call : CallM} {K : Array Value → Mem → R} :
    opsK Try.prog (fun _ => call) (O28 [1,1,1,0,1,0,0,1,1,0,0,0]) (O28 [1,1,1,0,1,0,0,1,1,0,0,0]).toList 0 #[g0,g1,g2,g3,g4,g5,g6,g7,g8,g9,g10,g11,.slice Ax12 lx12 cx12,g13,.int .i64 x14,g15,g16,g17,g18,g19,g20,g21,g22,g23,g24,g25,g26,g27,g28,g29,g30,g31,g32] M K = (idxA Ax12 lx12 1 x14).bind fun a_1 => (M.intAt .i64 a_1.block a_1.off).bind fun x_2 => K #[g0,g1,g2,g3,g4,g5,g6,g7,.int .i64 x_2,g9,g10,g11,.slice Ax12 lx12 cx12,g13,.int .i64 x14,g15,.pointer (some a_1),.int .i64 x_2,g18,g19,g20,g21,g22,g23,g24,g25,g26,g27,g28,g29,g30,g31,g32] M := by kernel_rfl
theorem k28_27 : P28 [1,1,1,0,1,0,0,1,1,0,0,1] = .seq (P28 [1,1,1,0,1,0,0,1,1,0,0,1,0]) (P28 [1,1,1,0,1,0,0,1,1,0,0,1,1]) := by kernel_rfl
theorem k28_28 : P28 [1,1,1,0,1,0,0,1,1,0,0,1,0] = .seq (P28 [1,1,1,0,1,0,0,1,1,0,0,1,0,0]) (P28 [1,1,1,0,1,0,0,1,1,0,0,1,0,1]) := by kernel_rfl
theorem k28_29 : P28 [1,1,1,0,1,0,0,1,1,0,0,1,0,0] = .region 7 (O28 [1,1,1,0,1,0,0,1,1,0,0,1,0,0]) false := by kernel_rfl
theorem r28_7 {x8 : Int} {M : Mem} {call : CallM} {K : Array Value → Mem → R} :
    opsK Try.prog (fun _ => call) (O28 [1,1,1,0,1,0,0,1,1,0,0,1,0,0]) (O28 [1,1,1,0,1,0,0,1,1,0,0,1,0,0]).toList 0 #[g0,g1,g2,g3,g4,g5,g6,g7,.int .i64 x8,g9,g10,g11,g12,g13,g14,g15,g16,g17,g18,g19,g20,g21,g22,g23,g24,g25,g26,g27,g28,g29,g30,g31,g32] M K = K #[g0,g1,g2,g3,g4,g5,g6,g7,.int .i64 x8,g9,g10,g11,g12,g13,g14,g15,g16,g17,.int .i64 x8,.bool (decide (x8 < 0)),g20,g21,g22,g23,g24,g25,g26,g27,g28,g29,g30,g31,g32] M := by kernel_rfl
theorem c28_30 : P28 [1,1,1,0,1,0,0,1,1,0,0,1,0,1] = .cond (.tmp 19) (P28 [1,1,1,0,1,0,0,1,1,0,0,1,0,1,0]) (P28 [1,1,1,0,1,0,0,1,1,0,0,1,0,1,1]) := by kernel_rfl
theorem k28_31 : P28 [1,1,1,0,1,0,0,1,1,0,0,1,0,1,0] = .seq (P28 [1,1,1,0,1,0,0,1,1,0,0,1,0,1,0,0]) (P28 [1,1,1,0,1,0,0,1,1,0,0,1,0,1,0,1]) := by kernel_rfl
theorem k28_32 : P28 [1,1,1,0,1,0,0,1,1,0,0,1,0,1,0,0] = .region 8 (O28 [1,1,1,0,1,0,0,1,1,0,0,1,0,1,0,0]) false := by kernel_rfl
theorem r28_8 {M : Mem} {call : CallM} {K : Array Value → Mem → R} :
    opsK Try.prog (fun _ => call) (O28 [1,1,1,0,1,0,0,1,1,0,0,1,0,1,0,0]) (O28 [1,1,1,0,1,0,0,1,1,0,0,1,0,1,0,0]).toList 0 #[g0,g1,g2,g3,g4,g5,g6,g7,g8,g9,g10,g11,g12,g13,g14,g15,g16,g17,g18,g19,g20,g21,g22,g23,g24,g25,g26,g27,g28,g29,g30,g31,g32] M K = K #[g0,g1,g2,g3,.int .i64 0,.int .i64 2,g6,g7,g8,g9,g10,g11,g12,g13,g14,g15,g16,g17,g18,g19,g20,g21,g22,g23,g24,g25,g26,g27,g28,g29,g30,g31,g32] M := by kernel_rfl
theorem k28_33 : P28 [1,1,1,0,1,0,0,1,1,0,0,1,0,1,0,1] = .ret := by kernel_rfl
theorem k28_34 : P28 [1,1,1,0,1,0,0,1,1,0,0,1,0,1,1] = .skip := by kernel_rfl
theorem k28_35 : P28 [1,1,1,0,1,0,0,1,1,0,0,1,1] = .region 9 (O28 [1,1,1,0,1,0,0,1,1,0,0,1,1]) false := by kernel_rfl
theorem r28_9 {x6 x8 : Int} {M : Mem} {call : CallM} {K : Array Value → Mem → R} :
    opsK Try.prog (fun _ => call) (O28 [1,1,1,0,1,0,0,1,1,0,0,1,1]) (O28 [1,1,1,0,1,0,0,1,1,0,0,1,1]).toList 0 #[g0,g1,g2,g3,g4,g5,.int .i64 x6,g7,.int .i64 x8,g9,g10,g11,g12,g13,g14,g15,g16,g17,g18,g19,g20,g21,g22,g23,g24,g25,g26,g27,g28,g29,g30,g31,g32] M K = K #[g0,g1,g2,g3,g4,g5,.int .i64 (IntKind.i64.wrap (x6 + (if 65537 < x8 then 65537 else x8))),g7,.int .i64 x8,g9,g10,g11,g12,g13,g14,g15,g16,g17,g18,g19,.int .i64 x6,.int .i64 x8,.int .i64 (if 65537 < x8 then 65537 else x8),.int .i64 (IntKind.i64.wrap (x6 + (if 65537 < x8 then 65537 else x8))),g24,g25,g26,g27,g28,g29,g30,g31,g32] M := by kernel_rfl
theorem k28_36 : P28 [1,1,1,0,1,0,0,1,1,1] = .region 10 (O28 [1,1,1,0,1,0,0,1,1,1]) false := by kernel_rfl
theorem r28_10 {x14 : Int} {M : Mem} {call : CallM} {K : Array Value → Mem → R} :
    opsK Try.prog (fun _ => call) (O28 [1,1,1,0,1,0,0,1,1,1]) (O28 [1,1,1,0,1,0,0,1,1,1]).toList 0 #[g0,g1,g2,g3,g4,g5,g6,g7,g8,g9,g10,g11,g12,g13,.int .i64 x14,g15,g16,g17,g18,g19,g20,g21,g22,g23,g24,g25,g26,g27,g28,g29,g30,g31,g32] M K = K #[g0,g1,g2,g3,g4,g5,g6,g7,g8,g9,g10,g11,g12,g13,.int .i64 (IntKind.i64.wrap (x14 + 1)),g15,g16,g17,g18,g19,g20,g21,g22,g23,.int .i64 (IntKind.i64.wrap (x14 + 1)),g25,g26,g27,g28,g29,g30,g31,g32] M := by kernel_rfl
theorem k28_37 : P28 [1,1,1,0,1,0,0,1,0,1] = .exit 0 := by kernel_rfl
theorem k28_38 : P28 [1,1,1,1] = .seq (P28 [1,1,1,1,0]) (P28 [1,1,1,1,1]) := by kernel_rfl
theorem k28_39 : P28 [1,1,1,1,0] = .block 2 (P28 [1,1,1,1,0,0]) := by kernel_rfl
theorem k28_40 : P28 [1,1,1,1,0,0] = .seq (P28 [1,1,1,1,0,0,0]) (P28 [1,1,1,1,0,0,1]) := by kernel_rfl
theorem k28_41 : P28 [1,1,1,1,0,0,0] = .region 11 (O28 [1,1,1,1,0,0,0]) false := by kernel_rfl
theorem r28_11 {x6 : Int} {M : Mem} {call : CallM} {K : Array Value → Mem → R} :
    opsK Try.prog (fun _ => call) (O28 [1,1,1,1,0,0,0]) (O28 [1,1,1,1,0,0,0]).toList 0 #[g0,g1,g2,g3,g4,g5,.int .i64 x6,g7,g8,g9,g10,g11,g12,g13,g14,g15,g16,g17,g18,g19,g20,g21,g22,g23,g24,g25,g26,g27,g28,g29,g30,g31,g32] M K = K #[g0,g1,g2,g3,g4,g5,.int .i64 x6,g7,g8,g9,g10,g11,g12,g13,g14,g15,g16,g17,g18,g19,g20,g21,g22,g23,g24,.bool (decide (x6 > 65536)),.int .i64 x6,.bool (decide (x6 > 65536)),g28,g29,g30,g31,g32] M := by kernel_rfl
theorem c28_42 : P28 [1,1,1,1,0,0,1] = .cond (.tmp 25) (P28 [1,1,1,1,0,0,1,0]) (P28 [1,1,1,1,0,0,1,1]) := by kernel_rfl
theorem k28_43 : P28 [1,1,1,1,0,0,1,0] = .seq (P28 [1,1,1,1,0,0,1,0,0]) (P28 [1,1,1,1,0,0,1,0,1]) := by kernel_rfl
theorem k28_44 : P28 [1,1,1,1,0,0,1,0,0] = .region 12 (O28 [1,1,1,1,0,0,1,0,0]) false := by kernel_rfl
theorem r28_12 {M : Mem} {call : CallM} {K : Array Value → Mem → R} :
    opsK Try.prog (fun _ => call) (O28 [1,1,1,1,0,0,1,0,0]) (O28 [1,1,1,1,0,0,1,0,0]).toList 0 #[g0,g1,g2,g3,g4,g5,g6,g7,g8,g9,g10,g11,g12,g13,g14,g15,g16,g17,g18,g19,g20,g21,g22,g23,g24,g25,g26,g27,g28,g29,g30,g31,g32] M K = K #[g0,g1,g2,g3,.int .i64 0,.int .i64 7,g6,g7,g8,g9,g10,g11,g12,g13,g14,g15,g16,g17,g18,g19,g20,g21,g22,g23,g24,g25,g26,g27,g28,g29,g30,g31,g32] M := by kernel_rfl
theorem k28_45 : P28 [1,1,1,1,0,0,1,0,1] = .ret := by kernel_rfl
theorem k28_46 : P28 [1,1,1,1,0,0,1,1] = .seq (P28 [1,1,1,1,0,0,1,1,0]) (P28 [1,1,1,1,0,0,1,1,1]) := by kernel_rfl
theorem k28_47 : P28 [1,1,1,1,0,0,1,1,0] = .region 13 (O28 [1,1,1,1,0,0,1,1,0]) false := by kernel_rfl
theorem r28_13 {x1 : Int} {M : Mem} {call : CallM} {K : Array Value → Mem → R} :
    opsK Try.prog (fun _ => call) (O28 [1,1,1,1,0,0,1,1,0]) (O28 [1,1,1,1,0,0,1,1,0]).toList 0 #[g0,.int .i64 x1,g2,g3,g4,g5,g6,g7,g8,g9,g10,g11,g12,g13,g14,g15,g16,g17,g18,g19,g20,g21,g22,g23,g24,g25,g26,g27,g28,g29,g30,g31,g32] M K = (call 35 #[.int .i64 x1, .int .i64 1, .int .i64 64] M).bind fun r_1 => (asB r_1.1).bind fun b_2 => K #[g0,.int .i64 x1,g2,g3,g4,g5,g6,g7,g8,g9,g10,g11,g12,g13,g14,g15,g16,g17,g18,g19,g20,g21,g22,g23,g24,g25,g26,g27,.bool (!b_2),.int .i64 x1,.bool b_2,.bool (!b_2),g32] r_1.2 := by kernel_rfl
theorem c28_48 : P28 [1,1,1,1,0,0,1,1,1] = .cond (.tmp 28) (P28 [1,1,1,1,0,0,1,1,1,0]) (P28 [1,1,1,1,0,0,1,1,1,1]) := by kernel_rfl
theorem k28_49 : P28 [1,1,1,1,0,0,1,1,1,0] = .seq (P28 [1,1,1,1,0,0,1,1,1,0,0]) (P28 [1,1,1,1,0,0,1,1,1,0,1]) := by kernel_rfl
theorem k28_50 : P28 [1,1,1,1,0,0,1,1,1,0,0] = .region 14 (O28 [1,1,1,1,0,0,1,1,1,0,0]) false := by kernel_rfl
theorem r28_14 {M : Mem} {call : CallM} {K : Array Value → Mem → R} :
    opsK Try.prog (fun _ => call) (O28 [1,1,1,1,0,0,1,1,1,0,0]) (O28 [1,1,1,1,0,0,1,1,1,0,0]).toList 0 #[g0,g1,g2,g3,g4,g5,g6,g7,g8,g9,g10,g11,g12,g13,g14,g15,g16,g17,g18,g19,g20,g21,g22,g23,g24,g25,g26,g27,g28,g29,g30,g31,g32] M K = K #[g0,g1,g2,g3,.int .i64 0,.int .i64 2,g6,g7,g8,g9,g10,g11,g12,g13,g14,g15,g16,g17,g18,g19,g20,g21,g22,g23,g24,g25,g26,g27,g28,g29,g30,g31,g32] M := by kernel_rfl
theorem k28_51 : P28 [1,1,1,1,0,0,1,1,1,0,1] = .ret := by kernel_rfl
theorem k28_52 : P28 [1,1,1,1,0,0,1,1,1,1] = .skip := by kernel_rfl
theorem k28_53 : P28 [1,1,1,1,1] = .seq (P28 [1,1,1,1,1,0]) (P28 [1,1,1,1,1,1]) := by kernel_rfl
theorem k28_54 : P28 [1,1,1,1,1,0] = .region 15 (O28 [1,1,1,1,1,0]) false := by kernel_rfl
theorem r28_15 {x6 : Int} {M : Mem} {call : CallM} {K : Array Value → Mem → R} :
    opsK Try.prog (fun _ => call) (O28 [1,1,1,1,1,0]) (O28 [1,1,1,1,1,0]).toList 0 #[g0,g1,g2,g3,g4,g5,.int .i64 x6,g7,g8,g9,g10,g11,g12,g13,g14,g15,g16,g17,g18,g19,g20,g21,g22,g23,g24,g25,g26,g27,g28,g29,g30,g31,g32] M K = K #[g0,g1,g2,g3,.int .i64 x6,.int .i64 0,.int .i64 x6,g7,g8,g9,g10,g11,g12,g13,g14,g15,g16,g17,g18,g19,g20,g21,g22,g23,g24,g25,g26,g27,g28,g29,g30,g31,.int .i64 x6] M := by kernel_rfl
theorem k28_55 : P28 [1,1,1,1,1,1] = .ret := by kernel_rfl
noncomputable def S28_1 : List Item := [.code (P28 [1,1,1,0,1,0,0]), .inLoop (P28 [1,1,1,0,1,0,0]), .inBlock 0, .code (P28 [1,1,1,1])]
def A28_1 (x1 x6 : Int) (Ax12 : Option Addr) (lx12 cx12 : Nat) (x13 x14 : Int) (M : Mem) (Q : Value → Mem → Prop) : Prop := ∀ (g0 g2 g3 g4 g5 g7 g8 g9 g10 g11 g15 g16 g17 g18 g19 g20 g21 g22 g23 g24 g25 g26 g27 g28 g29 g30 g31 g32 : Value), Rn Try.prog Try.f28 S28_1 #[g0, .int .i64 x1, g2, g3, g4, g5, .int .i64 x6, g7, g8, g9, g10, g11, .slice Ax12 lx12 cx12, .int .i64 x13, .int .i64 x14, g15, g16, g17, g18, g19, g20, g21, g22, g23, g24, g25, g26, g27, g28, g29, g30, g31, g32] M Q
theorem w28_0 {Ax0 : Option Addr} {lx0 cx0 : Nat} {x1 : Int} {M : Mem} {Q : Value → Mem → Prop} (H :
    ((((lx0 : Int)) > 256 →
     Q (.tuple #[.int .i64 0, .int .i64 7]) M) ∧
     (¬ (((lx0 : Int)) > 256) →
     A28_1 x1 0 Ax0 lx0 cx0 (lx0 : Int) 0 M Q))) :
    Cn Try.prog 28 #[.slice Ax0 lx0 cx0, .int .i64 x1] M Q := by
  refine Cn.of b28 d28 t28 ?_
  refine Rn.seq k28_0 (Rn.region k28_1 (fun call K => r28_0) (Rch.leaf (Rn.seq k28_2 (Rn.seq k28_3 (Rn.region k28_4 (fun call K => r28_1) (Rch.leaf ?_))))))
  refine Rn.cnd (v := decide (((lx0 : Int)) > 256)) ⟨c28_5, rfl, by kernel_rfl⟩ (fun h => ?_) (fun h => ?_)
  · replace H := H.1 (of_decide_eq_true h)
    refine Rn.seq k28_6 (Rn.region k28_7 (fun call K => r28_2) (Rch.leaf ?_))
    exact Rn.ret k28_8 e28 H
  · replace H := H.2 (of_decide_eq_false h)
    refine Rn.skip k28_10 (Rn.seq k28_11 (Rn.region k28_12 (fun call K => r28_3) (Rch.leaf (Rn.seq k28_13 (Rn.seq k28_14 (Rn.region k28_15 (fun call K => r28_4) (Rch.leaf (Rn.block k28_16 (Rn.loop k28_17 ?_)))))))))
    exact H _ _ _ _ _ _ _ _ _ _ _ _ _ _ _ _ _ _ _ _ _ _ _ _ _ _ _ _

theorem w28_1 {x1 x6 : Int} {Ax12 : Option Addr} {lx12 cx12 : Nat} {x13 x14 : Int} {M : Mem} {Q : Value → Mem → Prop} (H :
    ((x14 < x13 →
     ∃ a1', idxA Ax12 lx12 1 x14 = some a1' ∧
     ∃ x2', M.intAt .i64 a1'.block a1'.off = some x2' ∧
     ((x2' < 0 →
      Q (.tuple #[.int .i64 0, .int .i64 2]) M) ∧
      (¬ (x2' < 0) →
      A28_1 x1 (IntKind.i64.wrap (x6 + (if 65537 < x2' then 65537 else x2'))) Ax12 lx12 cx12 x13 (IntKind.i64.wrap (x14 + 1)) M Q))) ∧
     (¬ (x14 < x13) →
     ((x6 > 65536 →
      Q (.tuple #[.int .i64 0, .int .i64 7]) M) ∧
      (¬ (x6 > 65536) →
      Cn Try.prog 35 #[.int .i64 x1, .int .i64 1, .int .i64 64] M fun v3' N3' =>
       ∃ b4', asB v3' = some b4' ∧
       (((!b4') = true →
        Q (.tuple #[.int .i64 0, .int .i64 2]) N3') ∧
        ((!b4') = false →
        Q (.tuple #[.int .i64 x6, .int .i64 0]) N3'))))))) :
    A28_1 x1 x6 Ax12 lx12 cx12 x13 x14 M Q := by
  intro g0 g2 g3 g4 g5 g7 g8 g9 g10 g11 g15 g16 g17 g18 g19 g20 g21 g22 g23 g24 g25 g26 g27 g28 g29 g30 g31 g32
  refine Rn.seq k28_18 (Rn.region k28_19 (fun call K => r28_5) (Rch.leaf (Rn.seq k28_20 ?_)))
  refine Rn.cnd (v := decide (x14 < x13)) ⟨c28_21, rfl, by kernel_rfl⟩ (fun h => ?_) (fun h => ?_)
  · replace H := H.1 (of_decide_eq_true h)
    refine Rn.skip k28_22 (Rn.seq k28_23 (Rn.block k28_24 (Rn.seq k28_25 (Rn.region k28_26 (fun call K => r28_6) (Rch.ex H fun a1' H => Rch.ex H fun x2' H => Rch.leaf (Rn.seq k28_27 (Rn.seq k28_28 (Rn.region k28_29 (fun call K => r28_7) (Rch.leaf ?_)))))))))
    refine Rn.cnd (v := decide (x2' < 0)) ⟨c28_30, rfl, by kernel_rfl⟩ (fun h => ?_) (fun h => ?_)
    · replace H := H.1 (of_decide_eq_true h)
      refine Rn.seq k28_31 (Rn.region k28_32 (fun call K => r28_8) (Rch.leaf ?_))
      exact Rn.ret k28_33 e28 H
    · replace H := H.2 (of_decide_eq_false h)
      refine Rn.skip k28_34 (Rn.region k28_35 (fun call K => r28_9) (Rch.leaf (Rn.blk (Rn.region k28_36 (fun call K => r28_10) (Rch.leaf (Rn.lp ?_))))))
      exact H _ _ _ _ _ _ _ _ _ _ _ _ _ _ _ _ _ _ _ _ _ _ _ _ _ _ _ _
  · replace H := H.2 (of_decide_eq_false h)
    refine Rn.exit k28_37 rfl (Rn.seq k28_38 (Rn.block k28_39 (Rn.seq k28_40 (Rn.region k28_41 (fun call K => r28_11) (Rch.leaf ?_)))))
    refine Rn.cnd (v := decide (x6 > 65536)) ⟨c28_42, rfl, by kernel_rfl⟩ (fun h => ?_) (fun h => ?_)
    · replace H := H.1 (of_decide_eq_true h)
      refine Rn.seq k28_43 (Rn.region k28_44 (fun call K => r28_12) (Rch.leaf ?_))
      exact Rn.ret k28_45 e28 H
    · replace H := H.2 (of_decide_eq_false h)
      refine Rn.seq k28_46 (Rn.region k28_47 (fun call K => r28_13) (Rch.call H fun v3' N3' H => Rch.ex H fun b4' H => Rch.leaf ?_))
      refine Rn.cnd (v := !b4') ⟨c28_48, rfl, by kernel_rfl⟩ (fun h => ?_) (fun h => ?_)
      · replace H := H.1 (h)
        refine Rn.seq k28_49 (Rn.region k28_50 (fun call K => r28_14) (Rch.leaf ?_))
        exact Rn.ret k28_51 e28 H
      · replace H := H.2 (h)
        refine Rn.skip k28_52 (Rn.blk (Rn.seq k28_53 (Rn.region k28_54 (fun call K => r28_15) (Rch.leaf ?_))))
        exact Rn.ret k28_55 e28 H


/-! ### slices.Clone[[]int,int]: function 29 -/
noncomputable abbrev P29 (p : List Nat) : Code := subC (codeOf Try.f29) p
noncomputable abbrev O29 (p : List Nat) : Array Oper := opsOf (subC (codeOf Try.f29) p)
theorem b29 : Try.prog.funcs[29]? = some Try.f29 ∧ (Orc.tab Try.prog).lookup 29 = none := ⟨by kernel_rfl, by kernel_rfl⟩
theorem d29 : Try.f29.body = some (P29 []) := by kernel_rfl
theorem t29 {Ax0 : Option Addr} {lx0 cx0 : Nat} : #[.slice Ax0 lx0 cx0] ++ Array.replicate (Try.f29.ntmps - (#[.slice Ax0 lx0 cx0] : Array Value).size) undef = #[.slice Ax0 lx0 cx0,undef,undef,undef,undef,undef,undef,undef] := by kernel_rfl
theorem k29_0 : P29 [] = .seq (P29 [0]) (P29 [1]) := by kernel_rfl
theorem k29_1 : P29 [0] = .region 0 (O29 [0]) false := by kernel_rfl
theorem r29_0 {M : Mem} {call : CallM} {K : Array Value → Mem → R} :
    opsK Try.prog (fun _ => call) (O29 [0]) (O29 [0]).toList 0 #[g0,g1,g2,g3,g4,g5,g6,g7] M K = K #[g0,g1,.slice none 0 0,g3,g4,g5,g6,g7] M := by kernel_rfl
theorem k29_2 : P29 [1] = .seq (P29 [1,0]) (P29 [1,1]) := by kernel_rfl
theorem k29_3 : P29 [1,0] = .seq (P29 [1,0,0]) (P29 [1,0,1]) := by kernel_rfl
theorem k29_4 : P29 [1,0,0] = .region 1 (O29 [1,0,0]) false := by kernel_rfl
theorem r29_1 {Ax0 : Option Addr} {lx0 cx0 : Nat} {M : Mem} {call : CallM} {K : Array Value → Mem → R} :
    opsK Try.prog (fun _ => call) (O29 [1,0,0]) (O29 [1,0,0]).toList 0 #[.slice Ax0 lx0 cx0,g1,g2,g3,g4,g5,g6,g7] M K = K #[.slice Ax0 lx0 cx0,g1,g2,.slice Ax0 lx0 cx0,.bool Ax0.isNone,g5,g6,g7] M := by kernel_rfl
theorem c29_5 : P29 [1,0,1] = .cond (.tmp 4) (P29 [1,0,1,0]) (P29 [1,0,1,1]) := by kernel_rfl
theorem k29_6 : P29 [1,0,1,0] = .seq (P29 [1,0,1,0,0]) (P29 [1,0,1,0,1]) := by kernel_rfl
theorem k29_7 : P29 [1,0,1,0,0] = .region 2 (O29 [1,0,1,0,0]) false := by kernel_rfl
theorem r29_2 {M : Mem} {call : CallM} {K : Array Value → Mem → R} :
    opsK Try.prog (fun _ => call) (O29 [1,0,1,0,0]) (O29 [1,0,1,0,0]).toList 0 #[g0,g1,g2,g3,g4,g5,g6,g7] M K = K #[g0,g1,.slice none 0 0,g3,g4,g5,g6,g7] M := by kernel_rfl
theorem k29_8 : P29 [1,0,1,0,1] = .ret := by kernel_rfl
theorem e29 {M : Mem} : finish Try.prog Try.f29 #[g0,g1,g2,g3,g4,g5,g6,g7] M = some (g2, M) := by kernel_rfl
theorem k29_10 : P29 [1,0,1,1] = .skip := by kernel_rfl
theorem k29_11 : P29 [1,1] = .seq (P29 [1,1,0]) (P29 [1,1,1]) := by kernel_rfl
theorem k29_12 : P29 [1,1,0] = .region 3 (O29 [1,1,0]) false := by kernel_rfl
theorem r29_3 {Ax0 : Option Addr} {lx0 cx0 : Nat} {M : Mem} {call : CallM} {K : Array Value → Mem → R} :
    opsK Try.prog (fun _ => call) (O29 [1,1,0]) (O29 [1,1,0]).toList 0 #[.slice Ax0 lx0 cx0,g1,g2,g3,g4,g5,g6,g7] M K = (appendP Try.prog #[22, 22] (.slice (some ⟨2 * M.nb.size, 0, none⟩) 0 0) (.slice Ax0 lx0 cx0) (M.new (.cells #[] 3))).bind fun r_1 => (asS r_1.1).bind fun s_2 => K #[.slice Ax0 lx0 cx0,g1,.slice s_2.1 (s_2.2.1) (s_2.2.2),g3,g4,.slice (some ⟨2 * M.nb.size, 0, none⟩) 0 0,.slice Ax0 lx0 cx0,.slice s_2.1 (s_2.2.1) (s_2.2.2)] r_1.2 := by kernel_rfl
theorem k29_13 : P29 [1,1,1] = .ret := by kernel_rfl
theorem w29_0 {Ax0 : Option Addr} {lx0 cx0 : Nat} {M : Mem} {Q : Value → Mem → Prop} (H :
    ((Ax0.isNone = true →
     Q (.slice none 0 0) M) ∧
     (Ax0.isNone = false →
     ∃ r1', appendP Try.prog #[22, 22] (.slice (some ⟨2 * M.nb.size, 0, none⟩) 0 0) (.slice Ax0 lx0 cx0) (M.new (.cells #[] 3)) = some r1' ∧
     ∃ s2', asS r1'.1 = some s2' ∧
     Q (.slice s2'.1 (s2'.2.1) (s2'.2.2)) r1'.2))) :
    Cn Try.prog 29 #[.slice Ax0 lx0 cx0] M Q := by
  refine Cn.of b29 d29 t29 ?_
  refine Rn.seq k29_0 (Rn.region k29_1 (fun call K => r29_0) (Rch.leaf (Rn.seq k29_2 (Rn.seq k29_3 (Rn.region k29_4 (fun call K => r29_1) (Rch.leaf ?_))))))
  refine Rn.cnd (v := Ax0.isNone) ⟨c29_5, rfl, by kernel_rfl⟩ (fun h => ?_) (fun h => ?_)
  · replace H := H.1 (h)
    refine Rn.seq k29_6 (Rn.region k29_7 (fun call K => r29_2) (Rch.leaf ?_))
    exact Rn.ret k29_8 e29 H
  · replace H := H.2 (h)
    refine Rn.skip k29_10 (Rn.seq k29_11 (Rn.region k29_12 (fun call K => r29_3) (Rch.ex H fun r1' H => Rch.ex H fun s2' H => Rch.leaf ?_)))
    exact Rn.ret k29_13 e29 H


/-! ### slices.Delete[[]int,int]: function 30 -/
noncomputable abbrev P30 (p : List Nat) : Code := subC (codeOf Try.f30) p
noncomputable abbrev O30 (p : List Nat) : Array Oper := opsOf (subC (codeOf Try.f30) p)
theorem b30 : Try.prog.funcs[30]? = some Try.f30 ∧ (Orc.tab Try.prog).lookup 30 = none := ⟨by kernel_rfl, by kernel_rfl⟩
theorem d30 : Try.f30.body = some (P30 []) := by kernel_rfl
theorem t30 {Ax0 : Option Addr} {lx0 cx0 : Nat} {x1 x2 : Int} : #[.slice Ax0 lx0 cx0,.int .i64 x1,.int .i64 x2] ++ Array.replicate (Try.f30.ntmps - (#[.slice Ax0 lx0 cx0,.int .i64 x1,.int .i64 x2] : Array Value).size) undef = #[.slice Ax0 lx0 cx0,.int .i64 x1,.int .i64 x2,undef,undef,undef,undef,undef,undef,undef,undef,undef,undef,undef,undef,undef,undef,undef,undef,undef,undef,undef,undef,undef,undef,undef,undef,undef,undef,undef,undef,undef,undef] := by kernel_rfl
theorem k30_0 : P30 [] = .seq (P30 [0]) (P30 [1]) := by kernel_rfl
theorem k30_1 : P30 [0] = .region 0 (O30 [0]) false := by kernel_rfl
theorem r30_0 {M : Mem} {call : CallM} {K : Array Value → Mem → R} :
    opsK Try.prog (fun _ => call) (O30 [0]) (O30 [0]).toList 0 #[g0,g1,g2,g3,g4,g5,g6,g7,g8,g9,g10,g11,g12,g13,g14,g15,g16,g17,g18,g19,g20,g21,g22,g23,g24,g25,g26,g27,g28,g29,g30,g31,g32] M K = K #[g0,g1,g2,g3,g4,g5,.slice none 0 0,g7,g8,g9,g10,g11,g12,g13,g14,g15,g16,g17,g18,g19,g20,g21,g22,g23,g24,g25,g26,g27,g28,g29,g30,g31,g32] M := by kernel_rfl
theorem k30_2 : P30 [1] = .seq (P30 [1,0]) (P30 [1,1]) := by kernel_rfl
theorem k30_3 : P30 [1,0] = .region 1 (O30 [1,0]) false := by kernel_rfl
theorem r30_1 {Ax0 : Option Addr} {lx0 cx0 : Nat} {x1 x2 : Int} {M : Mem} {call : CallM} {K : Array Value → Mem → R} :
    opsK Try.prog (fun _ => call) (O30 [1,0]) (O30 [1,0]).toList 0 #[.slice Ax0 lx0 cx0,.int .i64 x1,.int .i64 x2,g3,g4,g5,g6,g7,g8,g9,g10,g11,g12,g13,g14,g15,g16,g17,g18,g19,g20,g21,g22,g23,g24,g25,g26,g27,g28,g29,g30,g31,g32] M K = (sliceP Try.prog 22 (.slice Ax0 lx0 cx0) (some (.int .i64 x1)) (some (.int .i64 x2)) (some (.int .i64 ((lx0 : Int))))).bind fun v_1 => (asS v_1).bind fun s_2 => K #[.slice Ax0 lx0 cx0,.int .i64 x1,.int .i64 x2,g3,g4,g5,g6,g7,.slice Ax0 lx0 cx0,.int .i64 x1,.int .i64 x2,.slice Ax0 lx0 cx0,.int .i64 ((lx0 : Int)),.slice s_2.1 (s_2.2.1) (s_2.2.2),g14,g15,g16,g17,g18,g19,g20,g21,g22,g23,g24,g25,g26,g27,g28,g29,g30,g31,g32] M := by kernel_rfl
theorem k30_4 : P30 [1,1] = .seq (P30 [1,1,0]) (P30 [1,1,1]) := by kernel_rfl
theorem k30_5 : P30 [1,1,0] = .seq (P30 [1,1,0,0]) (P30 [1,1,0,1]) := by kernel_rfl
theorem k30_6 : P30 [1,1,0,0] = .region 2 (O30 [1,1,0,0]) false := by kernel_rfl
theorem r30_2 {x1 x2 : Int} {M : Mem} {call : CallM} {K : Array Value → Mem → R} :
    opsK Try.prog (fun _ => call) (O30 [1,1,0,0]) (O30 [1,1,0,0]).toList 0 #[g0,.int .i64 x1,.int .i64 x2,g3,g4,g5,g6,g7,g8,g9,g10,g11,g12,g13,g14,g15,g16,g17,g18,g19,g20,g21,g22,g23,g24,g25,g26,g27,g28,g29,g30,g31,g32] M K = K #[g0,.int .i64 x1,.int .i64 x2,g3,g4,g5,g6,g7,g8,g9,g10,g11,g12,g13,.int .i64 x1,.int .i64 x2,.bool (x1 == x2),g17,g18,g19,g20,g21,g22,g23,g24,g25,g26,g27,g28,g29,g30,g31,g32] M := by kernel_rfl
theorem c30_7 : P30 [1,1,0,1] = .cond (.tmp 16) (P30 [1,1,0,1,0]) (P30 [1,1,0,1,1]) := by kernel_rfl
theorem k30_8 : P30 [1,1,0,1,0] = .seq (P30 [1,1,0,1,0,0]) (P30 [1,1,0,1,0,1]) := by kernel_rfl
theorem k30_9 : P30 [1,1,0,1,0,0] = .region 3 (O30 [1,1,0,1,0,0]) false := by kernel_rfl
theorem r30_3 {Ax0 : Option Addr} {lx0 cx0 : Nat} {M : Mem} {call : CallM} {K : Array Value → Mem → R} :
    opsK Try.prog (fun _ => call) (O30 [1,1,0,1,0,0]) (O30 [1,1,0,1,0,0]).toList 0 #[.slice Ax0 lx0 cx0,g1,g2,g3,g4,g5,g6,g7,g8,g9,g10,g11,g12,g13,g14,g15,g16,g17,g18,g19,g20,g21,g22,g23,g24,g25,g26,g27,g28,g29,g30,g31,g32] M K = K #[.slice Ax0 lx0 cx0,g1,g2,g3,g4,g5,.slice Ax0 lx0 cx0,g7,g8,g9,g10,g11,g12,g13,g14,g15,g16,.slice Ax0 lx0 cx0,g18,g19,g20,g21,g22,g23,g24,g25,g26,g27,g28,g29,g30,g31,g32] M := by kernel_rfl
theorem k30_10 : P30 [1,1,0,1,0,1] = .ret := by kernel_rfl
theorem e30 {M : Mem} : finish Try.prog Try.f30 #[g0,g1,g2,g3,g4,g5,g6,g7,g8,g9,g10,g11,g12,g13,g14,g15,g16,g17,g18,g19,g20,g21,g22,g23,g24,g25,g26,g27,g28,g29,g30,g31,g32] M = some (g6, M) := by kernel_rfl
theorem k30_12 : P30 [1,1,0,1,1] = .skip := by kernel_rfl
theorem k30_13 : P30 [1,1,1] = .seq (P30 [1,1,1,0]) (P30 [1,1,1,1]) := by kernel_rfl
theorem k30_14 : P30 [1,1,1,0] = .region 4 (O30 [1,1,1,0]) false := by kernel_rfl
theorem r30_4 {Ax0 : Option Addr} {lx0 cx0 : Nat} {M : Mem} {call : CallM} {K : Array Value → Mem → R} :
    opsK Try.prog (fun _ => call) (O30 [1,1,1,0]) (O30 [1,1,1,0]).toList 0 #[.slice Ax0 lx0 cx0,g1,g2,g3,g4,g5,g6,g7,g8,g9,g10,g11,g12,g13,g14,g15,g16,g17,g18,g19,g20,g21,g22,g23,g24,g25,g26,g27,g28,g29,g30,g31,g32] M K = K #[.slice Ax0 lx0 cx0,g1,g2,g3,g4,g5,g6,.int .i64 ((lx0 : Int)),g8,g9,g10,g11,g12,g13,g14,g15,g16,g17,.slice Ax0 lx0 cx0,.int .i64 ((lx0 : Int)),g20,g21,g22,g23,g24,g25,g26,g27,g28,g29,g30,g31,g32] M := by kernel_rfl
theorem k30_15 : P30 [1,1,1,1] = .seq (P30 [1,1,1,1,0]) (P30 [1,1,1,1,1]) := by kernel_rfl
theorem k30_16 : P30 [1,1,1,1,0] = .region 5 (O30 [1,1,1,1,0]) true ∧ drawOk (O30 [1,1,1,1,0]) = true := ⟨by kernel_rfl, by kernel_rfl⟩
theorem r30_5 {Ax0 : Option Addr} {lx0 cx0 : Nat} {x1 x2 : Int} {M : Mem} {call : CallM} {K : Array Value → Mem → R} :
    opsI Try.prog (callAt call (O30 [1,1,1,1,0])) (O30 [1,1,1,1,0]) (ordOf (O30 [1,1,1,1,0])) [] #[.slice Ax0 lx0 cx0,.int .i64 x1,.int .i64 x2,g3,g4,g5,g6,g7,g8,g9,g10,g11,g12,g13,g14,g15,g16,g17,g18,g19,g20,g21,g22,g23,g24,g25,g26,g27,g28,g29,g30,g31,g32] M K = (sliceP Try.prog 22 (.slice Ax0 lx0 cx0) none (some (.int .i64 x1)) none).bind fun v_1 => (asS v_1).bind fun s_2 => (sliceP Try.prog 22 (.slice Ax0 lx0 cx0) (some (.int .i64 x2)) none none).bind fun v_3 => (asS v_3).bind fun s_4 => (appendP Try.prog #[22, 22] (.slice s_2.1 (s_2.2.1) (s_2.2.2)) (.slice s_4.1 (s_4.2.1) (s_4.2.2)) M).bind fun r_5 => (asS r_5.1).bind fun s_6 => K #[.slice s_6.1 (s_6.2.1) (s_6.2.2),.int .i64 x1,.int .i64 x2,g3,g4,g5,g6,g7,g8,g9,g10,g11,g12,g13,g14,g15,g16,g17,g18,g19,.slice Ax0 lx0 cx0,.int .i64 x1,.slice s_2.1 (s_2.2.1) (s_2.2.2),.slice Ax0 lx0 cx0,.int .i64 x2,.slice s_4.1 (s_4.2.1) (s_4.2.2),.slice s_6.1 (s_6.2.1) (s_6.2.2),g27,g28,g29,g30,g31,g32] r_5.2 := by kernel_rfl
theorem k30_17 : P30 [1,1,1,1,1] = .seq (P30 [1,1,1,1,1,0]) (P30 [1,1,1,1,1,1]) := by kernel_rfl
theorem k30_18 : P30 [1,1,1,1,1,0] = .region 6 (O30 [1,1,1,1,1,0]) false := by kernel_rfl
theorem r30_6 {Ax0 : Option Addr} {lx0 cx0 : Nat} {x7 : Int} {M : Mem} {call : CallM} {K : Array Value → Mem → R} :
    opsK Try.prog (fun _ => call) (O30 [1,1,1,1,1,0]) (O30 [1,1,1,1,1,0]).toList 0 #[.slice Ax0 lx0 cx0,g1,g2,g3,g4,g5,g6,.int .i64 x7,g8,g9,g10,g11,g12,g13,g14,g15,g16,g17,g18,g19,g20,g21,g22,g23,g24,g25,g26,g27,g28,g29,g30,g31,g32] M K = (sliceP Try.prog 22 (.slice Ax0 lx0 cx0) (some (.int .i64 ((lx0 : Int)))) (some (.int .i64 x7)) none).bind fun v_1 => (asS v_1).bind fun s_2 => (clearV Try.prog #[22] (.slice s_2.1 (s_2.2.1) (s_2.2.2)) M).bind fun r_3 => K #[.slice Ax0 lx0 cx0,g1,g2,g3,g4,g5,g6,.int .i64 x7,g8,g9,g10,g11,g12,g13,g14,g15,g16,g17,g18,g19,g20,g21,g22,g23,g24,g25,g26,.slice Ax0 lx0 cx0,.slice Ax0 lx0 cx0,.int .i64 ((lx0 : Int)),.int .i64 x7,.slice s_2.1 (s_2.2.1) (s_2.2.2),g32] r_3.2 := by kernel_rfl
theorem k30_19 : P30 [1,1,1,1,1,1] = .seq (P30 [1,1,1,1,1,1,0]) (P30 [1,1,1,1,1,1,1]) := by kernel_rfl
theorem k30_20 : P30 [1,1,1,1,1,1,0] = .region 7 (O30 [1,1,1,1,1,1,0]) false := by kernel_rfl
theorem r30_7 {Ax0 : Option Addr} {lx0 cx0 : Nat} {M : Mem} {call : CallM} {K : Array Value → Mem → R} :
    opsK Try.prog (fun _ => call) (O30 [1,1,1,1,1,1,0]) (O30 [1,1,1,1,1,1,0]).toList 0 #[.slice Ax0 lx0 cx0,g1,g2,g3,g4,g5,g6,g7,g8,g9,g10,g11,g12,g13,g14,g15,g16,g17,g18,g19,g20,g21,g22,g23,g24,g25,g26,g27,g28,g29,g30,g31,g32] M K = K #[.slice Ax0 lx0 cx0,g1,g2,g3,g4,g5,.slice Ax0 lx0 cx0,g7,g8,g9,g10,g11,g12,g13,g14,g15,g16,g17,g18,g19,g20,g21,g22,g23,g24,g25,g26,g27,g28,g29,g30,g31,.slice Ax0 lx0 cx0] M := by kernel_rfl
theorem k30_21 : P30 [1,1,1,1,1,1,1] = .ret := by kernel_rfl
theorem w30_0 {Ax0 : Option Addr} {lx0 cx0 : Nat} {x1 x2 : Int} {M : Mem} {Q : Value → Mem → Prop} (H :
    ∃ v1', sliceP Try.prog 22 (.slice Ax0 lx0 cx0) (some (.int .i64 x1)) (some (.int .i64 x2)) (some (.int .i64 ((lx0 : Int)))) = some v1' ∧
    ∃ s2', asS v1' = some s2' ∧
    ((x1 = x2 →
     Q (.slice Ax0 lx0 cx0) M) ∧
     (x1 ≠ x2 →
     ∃ v3', sliceP Try.prog 22 (.slice Ax0 lx0 cx0) none (some (.int .i64 x1)) none = some v3' ∧
     ∃ s4', asS v3' = some s4' ∧
     ∃ v5', sliceP Try.prog 22 (.slice Ax0 lx0 cx0) (some (.int .i64 x2)) none none = some v5' ∧
     ∃ s6', asS v5' = some s6' ∧
     ∃ r7', appendP Try.prog #[22, 22] (.slice s4'.1 (s4'.2.1) (s4'.2.2)) (.slice s6'.1 (s6'.2.1) (s6'.2.2)) M = some r7' ∧
     ∃ s8', asS r7'.1 = some s8' ∧
     ∃ v9', sliceP Try.prog 22 (.slice s8'.1 s8'.2.1 s8'.2.2) (some (.int .i64 ((s8'.2.1 : Int)))) (some (.int .i64 (lx0 : Int))) none = some v9' ∧
     ∃ s10', asS v9' = some s10' ∧
     ∃ r11', clearV Try.prog #[22] (.slice s10'.1 (s10'.2.1) (s10'.2.2)) r7'.2 = some r11' ∧
     Q (.slice s8'.1 (s8'.2.1) (s8'.2.2)) r11'.2))) :
    Cn Try.prog 30 #[.slice Ax0 lx0 cx0, .int .i64 x1, .int .i64 x2] M Q := by
  refine Cn.of b30 d30 t30 ?_
  refine Rn.seq k30_0 (Rn.region k30_1 (fun call K => r30_0) (Rch.leaf (Rn.seq k30_2 (Rn.region k30_3 (fun call K => r30_1) (Rch.ex H fun v1' H => Rch.ex H fun s2' H => Rch.leaf (Rn.seq k30_4 (Rn.seq k30_5 (Rn.region k30_6 (fun call K => r30_2) (Rch.leaf ?_)))))))))
  refine Rn.cnd (v := x1 == x2) ⟨c30_7, rfl, by kernel_rfl⟩ (fun h => ?_) (fun h => ?_)
  · replace H := H.1 (eq_of_beq h)
    refine Rn.seq k30_8 (Rn.region k30_9 (fun call K => r30_3) (Rch.leaf ?_))
    exact Rn.ret k30_10 e30 H
  · replace H := H.2 (ne_of_beq_false h)
    refine Rn.skip k30_12 (Rn.seq k30_13 (Rn.region k30_14 (fun call K => r30_4) (Rch.leaf (Rn.seq k30_15 (Rn.regionD k30_16 (fun call K => r30_5) (Rch.ex H fun v3' H => Rch.ex H fun s4' H => Rch.ex H fun v5' H => Rch.ex H fun s6' H => Rch.ex H fun r7' H => Rch.ex H fun s8' H => ?_))))))
    refine Rch.leaf (Rn.seq k30_17 (Rn.region k30_18 (fun call K => r30_6) (Rch.ex H fun v9' H => Rch.ex H fun s10' H => Rch.ex H fun r11' H => Rch.leaf (Rn.seq k30_19 (Rn.region k30_20 (fun call K => r30_7) (Rch.leaf ?_))))))
    exact Rn.ret k30_21 e30 H


end Go.Zt

