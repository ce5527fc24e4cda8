/- The functions' walks: for each function and each loop a rule of what it comes to. Printed by zw.py. -/
import Derived.Test.YtbbdggpfhcgbpaaProg
import Derived.Test.YtbbdggpfhcgbpaaZcA
set_option linter.unusedVariables false
set_option maxRecDepth 100000
namespace Go.Zt
open Go Go.Sim Go.Proofs

variable {g0 g1 g2 g3 g4 g5 g6 g7 g8 g9 g10 g11 g12 g13 g14 g15 g16 g17 g18 g19 g20 g21 g22 g23 g24 g25 g26 g27 g28 g29 g30 g31 g32 g33 g34 g35 g36 g37 g38 g39 g40 g41 g42 g43 g44 g45 g46 g47 g48 g49 g50 g51 g52 g53 g54 g55 g56 g57 g58 g59 g60 g61 g62 g63 g64 g65 g66 g67 : Value}
/-! ### zoetrope/zoetroperef01.spread: function 52 -/
noncomputable abbrev P52 (p : List Nat) : Code := subC (codeOf Try.f52) p
noncomputable abbrev O52 (p : List Nat) : Array Oper := opsOf (subC (codeOf Try.f52) p)
theorem b52 : Try.prog.funcs[52]? = some Try.f52 ∧ (Orc.tab Try.prog).lookup 52 = none := ⟨by kernel_rfl, by kernel_rfl⟩
theorem d52 : Try.f52.body = some (P52 []) := by kernel_rfl
theorem t52 {Ax0 : Option Addr} {lx0 cx0 : Nat} : #[.slice Ax0 lx0 cx0] ++ Array.replicate (Try.f52.ntmps - (#[.slice Ax0 lx0 cx0] : Array Value).size) undef = #[.slice Ax0 lx0 cx0,undef,undef,undef,undef,undef,undef,undef,undef,undef,undef,undef,undef,undef,undef,undef,undef,undef,undef,undef,undef,undef,undef,undef,undef,undef,undef,undef,undef,undef,undef,undef] := by kernel_rfl
theorem k52_0 : P52 [] = .seq (P52 [0]) (P52 [1]) := by kernel_rfl
theorem k52_1 : P52 [0] = .region 0 (O52 [0]) false := by kernel_rfl
theorem r52_0 {M : Mem} {call : CallM} {K : Array Value → Mem → R} :
    opsK Try.prog (fun _ => call) (O52 [0]) (O52 [0]).toList 0 #[g0,g1,g2,g3,g4,g5,g6,g7,g8,g9,g10,g11,g12,g13,g14,g15,g16,g17,g18,g19,g20,g21,g22,g23,g24,g25,g26,g27,g28,g29,g30,g31] M K = K #[g0,g1,.slice none 0 0,g3,g4,g5,g6,g7,g8,g9,g10,g11,g12,g13,g14,g15,g16,g17,g18,g19,g20,g21,g22,g23,g24,g25,g26,g27,g28,g29,g30,g31] M := by kernel_rfl
theorem k52_2 : P52 [1] = .seq (P52 [1,0]) (P52 [1,1]) := by kernel_rfl
theorem k52_3 : P52 [1,0] = .region 1 (O52 [1,0]) false := by kernel_rfl
theorem r52_1 {Ax0 : Option Addr} {lx0 cx0 : Nat} {M : Mem} {call : CallM} {K : Array Value → Mem → R} :
    opsK Try.prog (fun _ => call) (O52 [1,0]) (O52 [1,0]).toList 0 #[.slice Ax0 lx0 cx0,g1,g2,g3,g4,g5,g6,g7,g8,g9,g10,g11,g12,g13,g14,g15,g16,g17,g18,g19,g20,g21,g22,g23,g24,g25,g26,g27,g28,g29,g30,g31] M K = (makeP Try.prog 48 (.int .i64 0) (.int .i64 (IntKind.i64.wrap (8 * ((lx0 : Int))))) M).bind fun r_1 => (asS r_1.1).bind fun s_2 => K #[.slice Ax0 lx0 cx0,g1,g2,.slice s_2.1 (s_2.2.1) (s_2.2.2),g4,g5,.slice Ax0 lx0 cx0,.int .i64 ((lx0 : Int)),.int .i64 (IntKind.i64.wrap (8 * ((lx0 : Int)))),.slice s_2.1 (s_2.2.1) (s_2.2.2),g10,g11,g12,g13,g14,g15,g16,g17,g18,g19,g20,g21,g22,g23,g24,g25,g26,g27,g28,g29,g30,g31] r_1.2 := by kernel_rfl
theorem k52_4 : P52 [1,1] = .seq (P52 [1,1,0]) (P52 [1,1,1]) := by kernel_rfl
theorem k52_5 : P52 [1,1,0] = .seq (P52 [1,1,0,0]) (P52 [1,1,0,1]) := by kernel_rfl
theorem k52_6 : P52 [1,1,0,0] = .region 2 (O52 [1,1,0,0]) false := by kernel_rfl
theorem r52_2 {M : Mem} {call : CallM} {K : Array Value → Mem → R} :
    opsK Try.prog (fun _ => call) (O52 [1,1,0,0]) (O52 [1,1,0,0]).toList 0 #[g0,g1,g2,g3,g4,g5,g6,g7,g8,g9,g10,g11,g12,g13,g14,g15,g16,g17,g18,g19,g20,g21,g22,g23,g24,g25,g26,g27,g28,g29,g30,g31] M K = K #[g0,g1,g2,g3,.int .i64 0,g5,g6,g7,g8,g9,g10,g11,g12,g13,g14,g15,g16,g17,g18,g19,g20,g21,g22,g23,g24,g25,g26,g27,g28,g29,g30,g31] M := by kernel_rfl
theorem k52_7 : P52 [1,1,0,1] = .block 0 (P52 [1,1,0,1,0]) := by kernel_rfl
theorem k52_8 : P52 [1,1,0,1,0] = .loop (P52 [1,1,0,1,0,0]) := by kernel_rfl
theorem k52_9 : P52 [1,1,0,1,0,0] = .seq (P52 [1,1,0,1,0,0,0]) (P52 [1,1,0,1,0,0,1]) := by kernel_rfl
theorem k52_10 : P52 [1,1,0,1,0,0,0] = .seq (P52 [1,1,0,1,0,0,0,0]) (P52 [1,1,0,1,0,0,0,1]) := by kernel_rfl
theorem k52_11 : P52 [1,1,0,1,0,0,0,0] = .region 3 (O52 [1,1,0,1,0,0,0,0]) false := by kernel_rfl
theorem r52_3 {Ax0 : Option Addr} {lx0 cx0 : Nat} {x4 : Int} {M : Mem} {call : CallM} {K : Array Value → Mem → R} :
    opsK Try.prog (fun _ => call) (O52 [1,1,0,1,0,0,0,0]) (O52 [1,1,0,1,0,0,0,0]).toList 0 #[.slice Ax0 lx0 cx0,g1,g2,g3,.int .i64 x4,g5,g6,g7,g8,g9,g10,g11,g12,g13,g14,g15,g16,g17,g18,g19,g20,g21,g22,g23,g24,g25,g26,g27,g28,g29,g30,g31] M K = K #[.slice Ax0 lx0 cx0,g1,g2,g3,.int .i64 x4,g5,g6,g7,g8,g9,.int .i64 x4,.slice Ax0 lx0 cx0,.int .i64 ((lx0 : Int)),.bool (decide (x4 < ((lx0 : Int)))),g14,g15,g16,g17,g18,g19,g20,g21,g22,g23,g24,g25,g26,g27,g28,g29,g30,g31] M := by kernel_rfl
theorem c52_12 : P52 [1,1,0,1,0,0,0,1] = .cond (.tmp 13) (P52 [1,1,0,1,0,0,0,1,0]) (P52 [1,1,0,1,0,0,0,1,1]) := by kernel_rfl
theorem k52_13 : P52 [1,1,0,1,0,0,0,1,0] = .skip := by kernel_rfl
theorem k52_14 : P52 [1,1,0,1,0,0,1] = .seq (P52 [1,1,0,1,0,0,1,0]) (P52 [1,1,0,1,0,0,1,1]) := by kernel_rfl
theorem k52_15 : P52 [1,1,0,1,0,0,1,0] = .block 1 (P52 [1,1,0,1,0,0,1,0,0]) := by kernel_rfl
theorem k52_16 : P52 [1,1,0,1,0,0,1,0,0] = .seq (P52 [1,1,0,1,0,0,1,0,0,0]) (P52 [1,1,0,1,0,0,1,0,0,1]) := by kernel_rfl
theorem k52_17 : P52 [1,1,0,1,0,0,1,0,0,0] = .region 5 (O52 [1,1,0,1,0,0,1,0,0,0]) false := by kernel_rfl
theorem r52_5 {M : Mem} {call : CallM} {K : Array Value → Mem → R} :
    opsK Try.prog (fun _ => call) (O52 [1,1,0,1,0,0,1,0,0,0]) (O52 [1,1,0,1,0,0,1,0,0,0]).toList 0 #[g0,g1,g2,g3,g4,g5,g6,g7,g8,g9,g10,g11,g12,g13,g14,g15,g16,g17,g18,g19,g20,g21,g22,g23,g24,g25,g26,g27,g28,g29,g30,g31] M K = K #[g0,g1,g2,g3,g4,.int .i64 7,g6,g7,g8,g9,g10,g11,g12,g13,g14,g15,g16,g17,g18,g19,g20,g21,g22,g23,g24,g25,g26,g27,g28,g29,g30,g31] M := by kernel_rfl
theorem k52_18 : P52 [1,1,0,1,0,0,1,0,0,1] = .block 2 (P52 [1,1,0,1,0,0,1,0,0,1,0]) := by kernel_rfl
theorem k52_19 : P52 [1,1,0,1,0,0,1,0,0,1,0] = .loop (P52 [1,1,0,1,0,0,1,0,0,1,0,0]) := by kernel_rfl
theorem k52_20 : P52 [1,1,0,1,0,0,0,1,1] = .exit 0 := by kernel_rfl
theorem k52_21 : P52 [1,1,1] = .seq (P52 [1,1,1,0]) (P52 [1,1,1,1]) := by kernel_rfl
theorem k52_22 : P52 [1,1,1,0] = .region 9 (O52 [1,1,1,0]) false := by kernel_rfl
theorem r52_9 {Ax3 : Option Addr} {lx3 cx3 : Nat} {M : Mem} {call : CallM} {K : Array Value → Mem → R} :
    opsK Try.prog (fun _ => call) (O52 [1,1,1,0]) (O52 [1,1,1,0]).toList 0 #[g0,g1,g2,.slice Ax3 lx3 cx3,g4,g5,g6,g7,g8,g9,g10,g11,g12,g13,g14,g15,g16,g17,g18,g19,g20,g21,g22,g23,g24,g25,g26,g27,g28,g29,g30,g31] M K = K #[g0,g1,.slice Ax3 lx3 cx3,.slice Ax3 lx3 cx3,g4,g5,g6,g7,g8,g9,g10,g11,g12,g13,g14,g15,g16,g17,g18,g19,g20,g21,g22,g23,g24,g25,g26,g27,g28,g29,g30,.slice Ax3 lx3 cx3] M := by kernel_rfl
theorem k52_23 : P52 [1,1,1,1] = .ret := by kernel_rfl
theorem e52 {M : Mem} : finish Try.prog Try.f52 #[g0,g1,g2,g3,g4,g5,g6,g7,g8,g9,g10,g11,g12,g13,g14,g15,g16,g17,g18,g19,g20,g21,g22,g23,g24,g25,g26,g27,g28,g29,g30,g31] M = some (g2, M) := by kernel_rfl
theorem k52_25 : P52 [1,1,0,1,0,0,1,0,0,1,0,0] = .seq (P52 [1,1,0,1,0,0,1,0,0,1,0,0,0]) (P52 [1,1,0,1,0,0,1,0,0,1,0,0,1]) := by kernel_rfl
theorem k52_26 : P52 [1,1,0,1,0,0,1,0,0,1,0,0,0] = .seq (P52 [1,1,0,1,0,0,1,0,0,1,0,0,0,0]) (P52 [1,1,0,1,0,0,1,0,0,1,0,0,0,1]) := by kernel_rfl
theorem k52_27 : P52 [1,1,0,1,0,0,1,0,0,1,0,0,0,0] = .region 6 (O52 [1,1,0,1,0,0,1,0,0,1,0,0,0,0]) false := by kernel_rfl
theorem r52_6 {x5 : Int} {M : Mem} {call : CallM} {K : Array Value → Mem → R} :
    opsK Try.prog (fun _ => call) (O52 [1,1,0,1,0,0,1,0,0,1,0,0,0,0]) (O52 [1,1,0,1,0,0,1,0,0,1,0,0,0,0]).toList 0 #[g0,g1,g2,g3,g4,.int .i64 x5,g6,g7,g8,g9,g10,g11,g12,g13,g14,g15,g16,g17,g18,g19,g20,g21,g22,g23,g24,g25,g26,g27,g28,g29,g30,g31] M K = K #[g0,g1,g2,g3,g4,.int .i64 x5,g6,g7,g8,g9,g10,g11,g12,g13,g14,g15,.int .i64 x5,.bool (decide (x5 ≥ 0)),g18,g19,g20,g21,g22,g23,g24,g25,g26,g27,g28,g29,g30,g31] M := by kernel_rfl
theorem c52_28 : P52 [1,1,0,1,0,0,1,0,0,1,0,0,0,1] = .cond (.tmp 17) (P52 [1,1,0,1,0,0,1,0,0,1,0,0,0,1,0]) (P52 [1,1,0,1,0,0,1,0,0,1,0,0,0,1,1]) := by kernel_rfl
theorem k52_29 : P52 [1,1,0,1,0,0,1,0,0,1,0,0,0,1,0] = .skip := by kernel_rfl
theorem k52_30 : P52 [1,1,0,1,0,0,1,0,0,1,0,0,1] = .seq (P52 [1,1,0,1,0,0,1,0,0,1,0,0,1,0]) (P52 [1,1,0,1,0,0,1,0,0,1,0,0,1,1]) := by kernel_rfl
theorem k52_31 : P52 [1,1,0,1,0,0,1,0,0,1,0,0,1,0] = .block 3 (P52 [1,1,0,1,0,0,1,0,0,1,0,0,1,0,0]) := by kernel_rfl
theorem k52_32 : P52 [1,1,0,1,0,0,1,0,0,1,0,0,1,0,0] = .region 8 (O52 [1,1,0,1,0,0,1,0,0,1,0,0,1,0,0]) false := by kernel_rfl
theorem r52_8 {Ax0 : Option Addr} {lx0 cx0 : Nat} {Ax3 : Option Addr} {lx3 cx3 : Nat} {x4 x5 : Int} {M : Mem} {call : CallM} {K : Array Value → Mem → R} :
    opsK Try.prog (fun _ => call) (O52 [1,1,0,1,0,0,1,0,0,1,0,0,1,0,0]) (O52 [1,1,0,1,0,0,1,0,0,1,0,0,1,0,0]).toList 0 #[.slice Ax0 lx0 cx0,g1,g2,.slice Ax3 lx3 cx3,.int .i64 x4,.int .i64 x5,g6,g7,g8,g9,g10,g11,g12,g13,g14,g15,g16,g17,g18,g19,g20,g21,g22,g23,g24,g25,g26,g27,g28,g29,g30,g31] M K = (idxA Ax0 lx0 1 x4).bind fun a_1 => (M.intAt .u8 a_1.block a_1.off).bind fun x_2 => (binV Try.prog .shr 5 3 (.int .u8 x_2) (.int .i64 x5)).bind fun v_3 => (asI .u8 v_3).bind fun x_4 => (appendP Try.prog #[48, 48] (.slice Ax3 lx3 cx3) (.slice (some ⟨2 * M.nb.size, 0, none⟩) 1 1) (M.new (.cells #[.int .i64 ((IntKind.i64.wrap (x_4)).tmod 2)] 3))).bind fun r_5 => (asS r_5.1).bind fun s_6 => K #[.slice Ax0 lx0 cx0,g1,g2,.slice s_6.1 (s_6.2.1) (s_6.2.2),.int .i64 x4,.int .i64 x5,g6,g7,g8,g9,g10,g11,g12,g13,g14,g15,g16,g17,g18,g19,.slice Ax3 lx3 cx3,.slice Ax0 lx0 cx0,.int .i64 x4,.pointer (some a_1),.int .u8 x_2,.int .i64 x5,.int .u8 x_4,.int .i64 (IntKind.i64.wrap (x_4)),.int .i64 ((IntKind.i64.wrap (x_4)).tmod 2),.slice (some ⟨2 * M.nb.size, 0, none⟩) 1 1,.slice s_6.1 (s_6.2.1) (s_6.2.2),g31] r_5.2 := by kernel_rfl
theorem k52_33 : P52 [1,1,0,1,0,0,1,0,0,1,0,0,1,1] = .region 7 (O52 [1,1,0,1,0,0,1,0,0,1,0,0,1,1]) false := by kernel_rfl
theorem r52_7 {x5 : Int} {M : Mem} {call : CallM} {K : Array Value → Mem → R} :
    opsK Try.prog (fun _ => call) (O52 [1,1,0,1,0,0,1,0,0,1,0,0,1,1]) (O52 [1,1,0,1,0,0,1,0,0,1,0,0,1,1]).toList 0 #[g0,g1,g2,g3,g4,.int .i64 x5,g6,g7,g8,g9,g10,g11,g12,g13,g14,g15,g16,g17,g18,g19,g20,g21,g22,g23,g24,g25,g26,g27,g28,g29,g30,g31] M K = K #[g0,g1,g2,g3,g4,.int .i64 (IntKind.i64.wrap (x5 - 1)),g6,g7,g8,g9,g10,g11,g12,g13,g14,g15,g16,g17,.int .i64 x5,.int .i64 (IntKind.i64.wrap (x5 - 1)),g20,g21,g22,g23,g24,g25,g26,g27,g28,g29,g30,g31] M := by kernel_rfl
theorem k52_34 : P52 [1,1,0,1,0,0,1,0,0,1,0,0,0,1,1] = .exit 2 := by kernel_rfl
theorem k52_35 : P52 [1,1,0,1,0,0,1,1] = .region 4 (O52 [1,1,0,1,0,0,1,1]) false := by kernel_rfl
theorem r52_4 {x4 : Int} {M : Mem} {call : CallM} {K : Array Value → Mem → R} :
    opsK Try.prog (fun _ => call) (O52 [1,1,0,1,0,0,1,1]) (O52 [1,1,0,1,0,0,1,1]).toList 0 #[g0,g1,g2,g3,.int .i64 x4,g5,g6,g7,g8,g9,g10,g11,g12,g13,g14,g15,g16,g17,g18,g19,g20,g21,g22,g23,g24,g25,g26,g27,g28,g29,g30,g31] M K = K #[g0,g1,g2,g3,.int .i64 (IntKind.i64.wrap (x4 + 1)),g5,g6,g7,g8,g9,g10,g11,g12,g13,.int .i64 x4,.int .i64 (IntKind.i64.wrap (x4 + 1)),g16,g17,g18,g19,g20,g21,g22,g23,g24,g25,g26,g27,g28,g29,g30,g31] M := by kernel_rfl
noncomputable def S52_1 : List Item := [.code (P52 [1,1,0,1,0,0]), .inLoop (P52 [1,1,0,1,0,0]), .inBlock 0, .code (P52 [1,1,1])]
def A52_1 (Ax0 : Option Addr) (lx0 cx0 : Nat) (Ax3 : Option Addr) (lx3 cx3 : Nat) (x4 : Int) (M : Mem) (Q : Value → Mem → Prop) : Prop := ∀ (g1 g2 g5 g6 g7 g8 g9 g10 g11 g12 g13 g14 g15 g16 g17 g18 g19 g20 g21 g22 g23 g24 g25 g26 g27 g28 g29 g30 g31 : Value), Rn Try.prog Try.f52 S52_1 #[.slice Ax0 lx0 cx0, g1, g2, .slice Ax3 lx3 cx3, .int .i64 x4, g5, g6, g7, g8, g9, g10, g11, g12, g13, g14, g15, g16, g17, g18, g19, g20, g21, g22, g23, g24, g25, g26, g27, g28, g29, g30, g31] M Q
noncomputable def S52_2 : List Item := [.code (P52 [1,1,0,1,0,0,1,0,0,1,0,0]), .inLoop (P52 [1,1,0,1,0,0,1,0,0,1,0,0]), .inBlock 2, .inBlock 1, .code (P52 [1,1,0,1,0,0,1,1]), .inLoop (P52 [1,1,0,1,0,0]), .inBlock 0, .code (P52 [1,1,1])]
def A52_2 (Ax0 : Option Addr) (lx0 cx0 : Nat) (Ax3 : Option Addr) (lx3 cx3 : Nat) (x4 x5 : Int) (M : Mem) (Q : Value → Mem → Prop) : Prop := ∀ (g1 g2 g6 g7 g8 g9 g10 g11 g12 g13 g14 g15 g16 g17 g18 g19 g20 g21 g22 g23 g24 g25 g26 g27 g28 g29 g30 g31 : Value), Rn Try.prog Try.f52 S52_2 #[.slice Ax0 lx0 cx0, g1, g2, .slice Ax3 lx3 cx3, .int .i64 x4, .int .i64 x5, g6, g7, g8, g9, g10, g11, g12, g13, g14, g15, g16, g17, g18, g19, g20, g21, g22, g23, g24, g25, g26, g27, g28, g29, g30, g31] M Q
theorem w52_0 {Ax0 : Option Addr} {lx0 cx0 : Nat} {M : Mem} {Q : Value → Mem → Prop} (H :
    ∃ r1', makeP Try.prog 48 (.int .i64 0) (.int .i64 (IntKind.i64.wrap (8 * ((lx0 : Int))))) M = some r1' ∧
    ∃ s2', asS r1'.1 = some s2' ∧
    A52_1 Ax0 lx0 cx0 s2'.1 s2'.2.1 s2'.2.2 0 r1'.2 Q) :
    Cn Try.prog 52 #[.slice Ax0 lx0 cx0] M Q := by
  refine Cn.of b52 d52 t52 ?_
  refine Rn.seq k52_0 (Rn.region k52_1 (fun call K => r52_0) (Rch.leaf (Rn.seq k52_2 (Rn.region k52_3 (fun call K => r52_1) (Rch.ex H fun r1' H => Rch.ex H fun s2' H => Rch.leaf (Rn.seq k52_4 (Rn.seq k52_5 (Rn.region k52_6 (fun call K => r52_2) (Rch.leaf ?_)))))))))
  refine Rn.block k52_7 (Rn.loop k52_8 ?_)
  exact H _ _ _ _ _ _ _ _ _ _ _ _ _ _ _ _ _ _ _ _ _ _ _ _ _ _ _ _ _

theorem w52_1 {Ax0 : Option Addr} {lx0 cx0 : Nat} {Ax3 : Option Addr} {lx3 cx3 : Nat} {x4 : Int} {M : Mem} {Q : Value → Mem → Prop} (H :
    ((x4 < ((lx0 : Int)) →
     A52_2 Ax0 lx0 cx0 Ax3 lx3 cx3 x4 7 M Q) ∧
     (¬ (x4 < ((lx0 : Int))) →
     Q (.slice Ax3 lx3 cx3) M))) :
    A52_1 Ax0 lx0 cx0 Ax3 lx3 cx3 x4 M Q := by
  intro g1 g2 g5 g6 g7 g8 g9 g10 g11 g12 g13 g14 g15 g16 g17 g18 g19 g20 g21 g22 g23 g24 g25 g26 g27 g28 g29 g30 g31
  refine Rn.seq k52_9 (Rn.seq k52_10 (Rn.region k52_11 (fun call K => r52_3) (Rch.leaf ?_)))
  refine Rn.cnd (v := decide (x4 < ((lx0 : Int)))) ⟨c52_12, rfl, by kernel_rfl⟩ (fun h => ?_) (fun h => ?_)
  · replace H := H.1 (of_decide_eq_true h)
    refine Rn.skip k52_13 (Rn.seq k52_14 (Rn.block k52_15 (Rn.seq k52_16 (Rn.region k52_17 (fun call K => r52_5) (Rch.leaf (Rn.block k52_18 (Rn.loop k52_19 ?_)))))))
    exact H _ _ _ _ _ _ _ _ _ _ _ _ _ _ _ _ _ _ _ _ _ _ _ _ _ _ _ _
  · replace H := H.2 (of_decide_eq_false h)
    refine Rn.exit k52_20 rfl (Rn.seq k52_21 (Rn.region k52_22 (fun call K => r52_9) (Rch.leaf ?_)))
    exact Rn.ret k52_23 e52 H

theorem w52_2 {Ax0 : Option Addr} {lx0 cx0 : Nat} {Ax3 : Option Addr} {lx3 cx3 : Nat} {x4 x5 : Int} {M : Mem} {Q : Value → Mem → Prop} (H :
    ((x5 ≥ 0 →
     ∃ a3', idxA Ax0 lx0 1 x4 = some a3' ∧
     ∃ x4', M.intAt .u8 a3'.block a3'.off = some x4' ∧
     ∃ v5', binV Try.prog .shr 5 3 (.int .u8 x4') (.int .i64 x5) = some v5' ∧
     ∃ x6', asI .u8 v5' = some x6' ∧
     ∃ r7', appendP Try.prog #[48, 48] (.slice Ax3 lx3 cx3) (.slice (some ⟨2 * M.nb.size, 0, none⟩) 1 1) (M.new (.cells #[.int .i64 ((IntKind.i64.wrap (x6')).tmod 2)] 3)) = some r7' ∧
     ∃ s8', asS r7'.1 = some s8' ∧
     A52_2 Ax0 lx0 cx0 s8'.1 s8'.2.1 s8'.2.2 x4 (IntKind.i64.wrap (x5 - 1)) r7'.2 Q) ∧
     (¬ (x5 ≥ 0) →
     A52_1 Ax0 lx0 cx0 Ax3 lx3 cx3 (IntKind.i64.wrap (x4 + 1)) M Q))) :
    A52_2 Ax0 lx0 cx0 Ax3 lx3 cx3 x4 x5 M Q := by
  intro g1 g2 g6 g7 g8 g9 g10 g11 g12 g13 g14 g15 g16 g17 g18 g19 g20 g21 g22 g23 g24 g25 g26 g27 g28 g29 g30 g31
  refine Rn.seq k52_25 (Rn.seq k52_26 (Rn.region k52_27 (fun call K => r52_6) (Rch.leaf ?_)))
  refine Rn.cnd (v := decide (x5 ≥ 0)) ⟨c52_28, rfl, by kernel_rfl⟩ (fun h => ?_) (fun h => ?_)
  · replace H := H.1 (of_decide_eq_true h)
    refine Rn.skip k52_29 (Rn.seq k52_30 (Rn.block k52_31 (Rn.region k52_32 (fun call K => r52_8) (Rch.ex H fun a3' H => Rch.ex H fun x4' H => Rch.ex H fun v5' H => Rch.ex H fun x6' H => Rch.ex H fun r7' H => Rch.ex H fun s8' H => Rch.leaf (Rn.blk ?_)))))
    refine Rn.region k52_33 (fun call K => r52_7) (Rch.leaf (Rn.lp ?_))
    exact H _ _ _ _ _ _ _ _ _ _ _ _ _ _ _ _ _ _ _ _ _ _ _ _ _ _ _ _
  · replace H := H.2 (of_decide_eq_false h)
    refine Rn.exit k52_34 rfl (Rn.blk (Rn.region k52_35 (fun call K => r52_4) (Rch.leaf (Rn.lp ?_))))
    exact H _ _ _ _ _ _ _ _ _ _ _ _ _ _ _ _ _ _ _ _ _ _ _ _ _ _ _ _ _


/-! ### zoetrope/zoetroperef01.gather: function 49 -/
noncomputable abbrev P49 (p : List Nat) : Code := subC (codeOf Try.f49) p
noncomputable abbrev O49 (p : List Nat) : Array Oper := opsOf (subC (codeOf Try.f49) p)
theorem b49 : Try.prog.funcs[49]? = some Try.f49 ∧ (Orc.tab Try.prog).lookup 49 = none := ⟨by kernel_rfl, by kernel_rfl⟩
theorem d49 : Try.f49.body = some (P49 []) := by kernel_rfl
theorem t49 {Ax0 : Option Addr} {lx0 cx0 : Nat} : #[.slice Ax0 lx0 cx0] ++ Array.replicate (Try.f49.ntmps - (#[.slice Ax0 lx0 cx0] : Array Value).size) undef = #[.slice Ax0 lx0 cx0,undef,undef,undef,undef,undef,undef,undef,undef,undef,undef,undef,undef,undef,undef,undef,undef,undef,undef,undef,undef,undef,undef,undef,undef,undef,undef,undef,undef,undef,undef,undef,undef,undef,undef,undef,undef,undef,undef] := by kernel_rfl
theorem k49_0 : P49 [] = .seq (P49 [0]) (P49 [1]) := by kernel_rfl
theorem k49_1 : P49 [0] = .region 0 (O49 [0]) false := by kernel_rfl
theorem r49_0 {M : Mem} {call : CallM} {K : Array Value → Mem → R} :
    opsK Try.prog (fun _ => call) (O49 [0]) (O49 [0]).toList 0 #[g0,g1,g2,g3,g4,g5,g6,g7,g8,g9,g10,g11,g12,g13,g14,g15,g16,g17,g18,g19,g20,g21,g22,g23,g24,g25,g26,g27,g28,g29,g30,g31,g32,g33,g34,g35,g36,g37,g38] M K = K #[g0,g1,.slice none 0 0,g3,g4,g5,g6,g7,g8,g9,g10,g11,g12,g13,g14,g15,g16,g17,g18,g19,g20,g21,g22,g23,g24,g25,g26,g27,g28,g29,g30,g31,g32,g33,g34,g35,g36,g37,g38] M := by kernel_rfl
theorem k49_2 : P49 [1] = .seq (P49 [1,0]) (P49 [1,1]) := by kernel_rfl
theorem k49_3 : P49 [1,0] = .region 1 (O49 [1,0]) false := by kernel_rfl
theorem r49_1 {M : Mem} {call : CallM} {K : Array Value → Mem → R} :
    opsK Try.prog (fun _ => call) (O49 [1,0]) (O49 [1,0]).toList 0 #[g0,g1,g2,g3,g4,g5,g6,g7,g8,g9,g10,g11,g12,g13,g14,g15,g16,g17,g18,g19,g20,g21,g22,g23,g24,g25,g26,g27,g28,g29,g30,g31,g32,g33,g34,g35,g36,g37,g38] M K = K #[g0,g1,g2,.slice none 0 0,g4,g5,g6,g7,g8,g9,g10,g11,g12,g13,g14,g15,g16,g17,g18,g19,g20,g21,g22,g23,g24,g25,g26,g27,g28,g29,g30,g31,g32,g33,g34,g35,g36,g37,g38] M := by kernel_rfl
theorem k49_4 : P49 [1,1] = .seq (P49 [1,1,0]) (P49 [1,1,1]) := by kernel_rfl
theorem k49_5 : P49 [1,1,0] = .seq (P49 [1,1,0,0]) (P49 [1,1,0,1]) := by kernel_rfl
theorem k49_6 : P49 [1,1,0,0] = .region 2 (O49 [1,1,0,0]) false := by kernel_rfl
theorem r49_2 {M : Mem} {call : CallM} {K : Array Value → Mem → R} :
    opsK Try.prog (fun _ => call) (O49 [1,1,0,0]) (O49 [1,1,0,0]).toList 0 #[g0,g1,g2,g3,g4,g5,g6,g7,g8,g9,g10,g11,g12,g13,g14,g15,g16,g17,g18,g19,g20,g21,g22,g23,g24,g25,g26,g27,g28,g29,g30,g31,g32,g33,g34,g35,g36,g37,g38] M K = K #[g0,g1,g2,g3,.int .i64 0,g5,g6,g7,g8,g9,g10,g11,g12,g13,g14,g15,g16,g17,g18,g19,g20,g21,g22,g23,g24,g25,g26,g27,g28,g29,g30,g31,g32,g33,g34,g35,g36,g37,g38] M := by kernel_rfl
theorem k49_7 : P49 [1,1,0,1] = .block 0 (P49 [1,1,0,1,0]) := by kernel_rfl
theorem k49_8 : P49 [1,1,0,1,0] = .loop (P49 [1,1,0,1,0,0]) := by kernel_rfl
theorem k49_9 : P49 [1,1,0,1,0,0] = .seq (P49 [1,1,0,1,0,0,0]) (P49 [1,1,0,1,0,0,1]) := by kernel_rfl
theorem k49_10 : P49 [1,1,0,1,0,0,0] = .seq (P49 [1,1,0,1,0,0,0,0]) (P49 [1,1,0,1,0,0,0,1]) := by kernel_rfl
theorem k49_11 : P49 [1,1,0,1,0,0,0,0] = .region 3 (O49 [1,1,0,1,0,0,0,0]) false := by kernel_rfl
theorem r49_3 {Ax0 : Option Addr} {lx0 cx0 : Nat} {x4 : Int} {M : Mem} {call : CallM} {K : Array Value → Mem → R} :
    opsK Try.prog (fun _ => call) (O49 [1,1,0,1,0,0,0,0]) (O49 [1,1,0,1,0,0,0,0]).toList 0 #[.slice Ax0 lx0 cx0,g1,g2,g3,.int .i64 x4,g5,g6,g7,g8,g9,g10,g11,g12,g13,g14,g15,g16,g17,g18,g19,g20,g21,g22,g23,g24,g25,g26,g27,g28,g29,g30,g31,g32,g33,g34,g35,g36,g37,g38] M K = K #[.slice Ax0 lx0 cx0,g1,g2,g3,.int .i64 x4,g5,g6,.int .i64 x4,.slice Ax0 lx0 cx0,.int .i64 ((lx0 : Int)),.bool (decide (x4 < ((lx0 : Int)))),g11,g12,g13,g14,g15,g16,g17,g18,g19,g20,g21,g22,g23,g24,g25,g26,g27,g28,g29,g30,g31,g32,g33,g34,g35,g36,g37,g38] M := by kernel_rfl
theorem c49_12 : P49 [1,1,0,1,0,0,0,1] = .cond (.tmp 10) (P49 [1,1,0,1,0,0,0,1,0]) (P49 [1,1,0,1,0,0,0,1,1]) := by kernel_rfl
theorem k49_13 : P49 [1,1,0,1,0,0,0,1,0] = .skip := by kernel_rfl
theorem k49_14 : P49 [1,1,0,1,0,0,1] = .seq (P49 [1,1,0,1,0,0,1,0]) (P49 [1,1,0,1,0,0,1,1]) := by kernel_rfl
theorem k49_15 : P49 [1,1,0,1,0,0,1,0] = .block 1 (P49 [1,1,0,1,0,0,1,0,0]) := by kernel_rfl
theorem k49_16 : P49 [1,1,0,1,0,0,1,0,0] = .seq (P49 [1,1,0,1,0,0,1,0,0,0]) (P49 [1,1,0,1,0,0,1,0,0,1]) := by kernel_rfl
theorem k49_17 : P49 [1,1,0,1,0,0,1,0,0,0] = .region 5 (O49 [1,1,0,1,0,0,1,0,0,0]) false := by kernel_rfl
theorem r49_5 {M : Mem} {call : CallM} {K : Array Value → Mem → R} :
    opsK Try.prog (fun _ => call) (O49 [1,1,0,1,0,0,1,0,0,0]) (O49 [1,1,0,1,0,0,1,0,0,0]).toList 0 #[g0,g1,g2,g3,g4,g5,g6,g7,g8,g9,g10,g11,g12,g13,g14,g15,g16,g17,g18,g19,g20,g21,g22,g23,g24,g25,g26,g27,g28,g29,g30,g31,g32,g33,g34,g35,g36,g37,g38] M K = K #[g0,g1,g2,g3,g4,.int .i64 0,g6,g7,g8,g9,g10,g11,g12,g13,g14,g15,g16,g17,g18,g19,g20,g21,g22,g23,g24,g25,g26,g27,g28,g29,g30,g31,g32,g33,g34,g35,g36,g37,g38] M := by kernel_rfl
theorem k49_18 : P49 [1,1,0,1,0,0,1,0,0,1] = .seq (P49 [1,1,0,1,0,0,1,0,0,1,0]) (P49 [1,1,0,1,0,0,1,0,0,1,1]) := by kernel_rfl
theorem k49_19 : P49 [1,1,0,1,0,0,1,0,0,1,0] = .seq (P49 [1,1,0,1,0,0,1,0,0,1,0,0]) (P49 [1,1,0,1,0,0,1,0,0,1,0,1]) := by kernel_rfl
theorem k49_20 : P49 [1,1,0,1,0,0,1,0,0,1,0,0] = .region 6 (O49 [1,1,0,1,0,0,1,0,0,1,0,0]) false := by kernel_rfl
theorem r49_6 {M : Mem} {call : CallM} {K : Array Value → Mem → R} :
    opsK Try.prog (fun _ => call) (O49 [1,1,0,1,0,0,1,0,0,1,0,0]) (O49 [1,1,0,1,0,0,1,0,0,1,0,0]).toList 0 #[g0,g1,g2,g3,g4,g5,g6,g7,g8,g9,g10,g11,g12,g13,g14,g15,g16,g17,g18,g19,g20,g21,g22,g23,g24,g25,g26,g27,g28,g29,g30,g31,g32,g33,g34,g35,g36,g37,g38] M K = K #[g0,g1,g2,g3,g4,g5,.int .i64 0,g7,g8,g9,g10,g11,g12,g13,g14,g15,g16,g17,g18,g19,g20,g21,g22,g23,g24,g25,g26,g27,g28,g29,g30,g31,g32,g33,g34,g35,g36,g37,g38] M := by kernel_rfl
theorem k49_21 : P49 [1,1,0,1,0,0,1,0,0,1,0,1] = .block 2 (P49 [1,1,0,1,0,0,1,0,0,1,0,1,0]) := by kernel_rfl
theorem k49_22 : P49 [1,1,0,1,0,0,1,0,0,1,0,1,0] = .loop (P49 [1,1,0,1,0,0,1,0,0,1,0,1,0,0]) := by kernel_rfl
theorem k49_23 : P49 [1,1,0,1,0,0,0,1,1] = .exit 0 := by kernel_rfl
theorem k49_24 : P49 [1,1,1] = .seq (P49 [1,1,1,0]) (P49 [1,1,1,1]) := by kernel_rfl
theorem k49_25 : P49 [1,1,1,0] = .region 13 (O49 [1,1,1,0]) false := by kernel_rfl
theorem r49_13 {Ax3 : Option Addr} {lx3 cx3 : Nat} {M : Mem} {call : CallM} {K : Array Value → Mem → R} :
    opsK Try.prog (fun _ => call) (O49 [1,1,1,0]) (O49 [1,1,1,0]).toList 0 #[g0,g1,g2,.slice Ax3 lx3 cx3,g4,g5,g6,g7,g8,g9,g10,g11,g12,g13,g14,g15,g16,g17,g18,g19,g20,g21,g22,g23,g24,g25,g26,g27,g28,g29,g30,g31,g32,g33,g34,g35,g36,g37,g38] M K = K #[g0,g1,.slice Ax3 lx3 cx3,.slice Ax3 lx3 cx3,g4,g5,g6,g7,g8,g9,g10,g11,g12,g13,g14,g15,g16,g17,g18,g19,g20,g21,g22,g23,g24,g25,g26,g27,g28,g29,g30,g31,g32,g33,g34,g35,g36,g37,.slice Ax3 lx3 cx3] M := by kernel_rfl
theorem k49_26 : P49 [1,1,1,1] = .ret := by kernel_rfl
theorem e49 {M : Mem} : finish Try.prog Try.f49 #[g0,g1,g2,g3,g4,g5,g6,g7,g8,g9,g10,g11,g12,g13,g14,g15,g16,g17,g18,g19,g20,g21,g22,g23,g24,g25,g26,g27,g28,g29,g30,g31,g32,g33,g34,g35,g36,g37,g38] M = some (g2, M) := by kernel_rfl
theorem k49_28 : P49 [1,1,0,1,0,0,1,0,0,1,0,1,0,0] = .seq (P49 [1,1,0,1,0,0,1,0,0,1,0,1,0,0,0]) (P49 [1,1,0,1,0,0,1,0,0,1,0,1,0,0,1]) := by kernel_rfl
theorem k49_29 : P49 [1,1,0,1,0,0,1,0,0,1,0,1,0,0,0] = .seq (P49 [1,1,0,1,0,0,1,0,0,1,0,1,0,0,0,0]) (P49 [1,1,0,1,0,0,1,0,0,1,0,1,0,0,0,1]) := by kernel_rfl
theorem k49_30 : P49 [1,1,0,1,0,0,1,0,0,1,0,1,0,0,0,0] = .region 7 (O49 [1,1,0,1,0,0,1,0,0,1,0,1,0,0,0,0]) false := by kernel_rfl
theorem r49_7 {x6 : Int} {M : Mem} {call : CallM} {K : Array Value → Mem → R} :
    opsK Try.prog (fun _ => call) (O49 [1,1,0,1,0,0,1,0,0,1,0,1,0,0,0,0]) (O49 [1,1,0,1,0,0,1,0,0,1,0,1,0,0,0,0]).toList 0 #[g0,g1,g2,g3,g4,g5,.int .i64 x6,g7,g8,g9,g10,g11,g12,g13,g14,g15,g16,g17,g18,g19,g20,g21,g22,g23,g24,g25,g26,g27,g28,g29,g30,g31,g32,g33,g34,g35,g36,g37,g38] M K = K #[g0,g1,g2,g3,g4,g5,.int .i64 x6,g7,g8,g9,g10,g11,g12,.int .i64 x6,.bool (decide (x6 < 8)),g15,g16,g17,g18,g19,g20,g21,g22,g23,g24,g25,g26,g27,g28,g29,g30,g31,g32,g33,g34,g35,g36,g37,g38] M := by kernel_rfl
theorem c49_31 : P49 [1,1,0,1,0,0,1,0,0,1,0,1,0,0,0,1] = .cond (.tmp 14) (P49 [1,1,0,1,0,0,1,0,0,1,0,1,0,0,0,1,0]) (P49 [1,1,0,1,0,0,1,0,0,1,0,1,0,0,0,1,1]) := by kernel_rfl
theorem k49_32 : P49 [1,1,0,1,0,0,1,0,0,1,0,1,0,0,0,1,0] = .skip := by kernel_rfl
theorem k49_33 : P49 [1,1,0,1,0,0,1,0,0,1,0,1,0,0,1] = .seq (P49 [1,1,0,1,0,0,1,0,0,1,0,1,0,0,1,0]) (P49 [1,1,0,1,0,0,1,0,0,1,0,1,0,0,1,1]) := by kernel_rfl
theorem k49_34 : P49 [1,1,0,1,0,0,1,0,0,1,0,1,0,0,1,0] = .block 3 (P49 [1,1,0,1,0,0,1,0,0,1,0,1,0,0,1,0,0]) := by kernel_rfl
theorem k49_35 : P49 [1,1,0,1,0,0,1,0,0,1,0,1,0,0,1,0,0] = .seq (P49 [1,1,0,1,0,0,1,0,0,1,0,1,0,0,1,0,0,0]) (P49 [1,1,0,1,0,0,1,0,0,1,0,1,0,0,1,0,0,1]) := by kernel_rfl
theorem k49_36 : P49 [1,1,0,1,0,0,1,0,0,1,0,1,0,0,1,0,0,0] = .region 9 (O49 [1,1,0,1,0,0,1,0,0,1,0,1,0,0,1,0,0,0]) false := by kernel_rfl
theorem r49_9 {x5 : Int} {M : Mem} {call : CallM} {K : Array Value → Mem → R} :
    opsK Try.prog (fun _ => call) (O49 [1,1,0,1,0,0,1,0,0,1,0,1,0,0,1,0,0,0]) (O49 [1,1,0,1,0,0,1,0,0,1,0,1,0,0,1,0,0,0]).toList 0 #[g0,g1,g2,g3,g4,.int .i64 x5,g6,g7,g8,g9,g10,g11,g12,g13,g14,g15,g16,g17,g18,g19,g20,g21,g22,g23,g24,g25,g26,g27,g28,g29,g30,g31,g32,g33,g34,g35,g36,g37,g38] M K = K #[g0,g1,g2,g3,g4,.int .i64 (IntKind.i64.wrap (x5 * 2)),g6,g7,g8,g9,g10,g11,g12,g13,g14,g15,g16,.int .i64 x5,.int .i64 (IntKind.i64.wrap (x5 * 2)),g19,g20,g21,g22,g23,g24,g25,g26,g27,g28,g29,g30,g31,g32,g33,g34,g35,g36,g37,g38] M := by kernel_rfl
theorem k49_37 : P49 [1,1,0,1,0,0,1,0,0,1,0,1,0,0,1,0,0,1] = .seq (P49 [1,1,0,1,0,0,1,0,0,1,0,1,0,0,1,0,0,1,0]) (P49 [1,1,0,1,0,0,1,0,0,1,0,1,0,0,1,0,0,1,1]) := by kernel_rfl
theorem k49_38 : P49 [1,1,0,1,0,0,1,0,0,1,0,1,0,0,1,0,0,1,0] = .region 10 (O49 [1,1,0,1,0,0,1,0,0,1,0,1,0,0,1,0,0,1,0]) false := by kernel_rfl
theorem r49_10 {Ax0 : Option Addr} {lx0 cx0 : Nat} {x4 x6 : Int} {M : Mem} {call : CallM} {K : Array Value → Mem → R} :
    opsK Try.prog (fun _ => call) (O49 [1,1,0,1,0,0,1,0,0,1,0,1,0,0,1,0,0,1,0]) (O49 [1,1,0,1,0,0,1,0,0,1,0,1,0,0,1,0,0,1,0]).toList 0 #[.slice Ax0 lx0 cx0,g1,g2,g3,.int .i64 x4,g5,.int .i64 x6,g7,g8,g9,g10,g11,g12,g13,g14,g15,g16,g17,g18,g19,g20,g21,g22,g23,g24,g25,g26,g27,g28,g29,g30,g31,g32,g33,g34,g35,g36,g37,g38] M K = K #[.slice Ax0 lx0 cx0,g1,g2,g3,.int .i64 x4,g5,.int .i64 x6,g7,g8,g9,g10,g11,g12,g13,g14,g15,g16,g17,g18,.int .i64 x4,.int .i64 x6,.int .i64 (IntKind.i64.wrap (x4 + x6)),.slice Ax0 lx0 cx0,.int .i64 ((lx0 : Int)),.bool (decide ((IntKind.i64.wrap (x4 + x6)) < ((lx0 : Int)))),g25,g26,g27,g28,g29,g30,g31,g32,g33,g34,g35,g36,g37,g38] M := by kernel_rfl
theorem c49_39 : P49 [1,1,0,1,0,0,1,0,0,1,0,1,0,0,1,0,0,1,1] = .cond (.tmp 24) (P49 [1,1,0,1,0,0,1,0,0,1,0,1,0,0,1,0,0,1,1,0]) (P49 [1,1,0,1,0,0,1,0,0,1,0,1,0,0,1,0,0,1,1,1]) := by kernel_rfl
theorem k49_40 : P49 [1,1,0,1,0,0,1,0,0,1,0,1,0,0,1,0,0,1,1,0] = .region 11 (O49 [1,1,0,1,0,0,1,0,0,1,0,1,0,0,1,0,0,1,1,0]) false := by kernel_rfl
theorem r49_11 {Ax0 : Option Addr} {lx0 cx0 : Nat} {x4 x5 x6 : Int} {M : Mem} {call : CallM} {K : Array Value → Mem → R} :
    opsK Try.prog (fun _ => call) (O49 [1,1,0,1,0,0,1,0,0,1,0,1,0,0,1,0,0,1,1,0]) (O49 [1,1,0,1,0,0,1,0,0,1,0,1,0,0,1,0,0,1,1,0]).toList 0 #[.slice Ax0 lx0 cx0,g1,g2,g3,.int .i64 x4,.int .i64 x5,.int .i64 x6,g7,g8,g9,g10,g11,g12,g13,g14,g15,g16,g17,g18,g19,g20,g21,g22,g23,g24,g25,g26,g27,g28,g29,g30,g31,g32,g33,g34,g35,g36,g37,g38] M K = (idxA Ax0 lx0 1 (IntKind.i64.wrap (x4 + x6))).bind fun a_1 => (M.intAt .i64 a_1.block a_1.off).bind fun x_2 => K #[.slice Ax0 lx0 cx0,g1,g2,g3,.int .i64 x4,.int .i64 (IntKind.i64.wrap (x5 + x_2)),.int .i64 x6,g7,g8,g9,g10,g11,g12,g13,g14,g15,g16,g17,g18,g19,g20,g21,g22,g23,g24,.int .i64 x5,.slice Ax0 lx0 cx0,.int .i64 x4,.int .i64 x6,.int .i64 (IntKind.i64.wrap (x4 + x6)),.pointer (some a_1),.int .i64 x_2,.int .i64 (IntKind.i64.wrap (x5 + x_2)),g33,g34,g35,g36,g37,g38] M := by kernel_rfl
theorem k49_41 : P49 [1,1,0,1,0,0,1,0,0,1,0,1,0,0,1,0,0,1,1,1] = .skip := by kernel_rfl
theorem k49_42 : P49 [1,1,0,1,0,0,1,0,0,1,0,1,0,0,0,1,1] = .exit 2 := by kernel_rfl
theorem k49_43 : P49 [1,1,0,1,0,0,1,0,0,1,1] = .region 12 (O49 [1,1,0,1,0,0,1,0,0,1,1]) false := by kernel_rfl
theorem r49_12 {Ax3 : Option Addr} {lx3 cx3 : Nat} {x5 : Int} {M : Mem} {call : CallM} {K : Array Value → Mem → R} :
    opsK Try.prog (fun _ => call) (O49 [1,1,0,1,0,0,1,0,0,1,1]) (O49 [1,1,0,1,0,0,1,0,0,1,1]).toList 0 #[g0,g1,g2,.slice Ax3 lx3 cx3,g4,.int .i64 x5,g6,g7,g8,g9,g10,g11,g12,g13,g14,g15,g16,g17,g18,g19,g20,g21,g22,g23,g24,g25,g26,g27,g28,g29,g30,g31,g32,g33,g34,g35,g36,g37,g38] M K = (appendP Try.prog #[22, 22] (.slice Ax3 lx3 cx3) (.slice (some ⟨2 * M.nb.size, 0, none⟩) 1 1) (M.new (.cells #[.int .u8 (IntKind.u8.wrap (x5))] 5))).bind fun r_1 => (asS r_1.1).bind fun s_2 => K #[g0,g1,g2,.slice s_2.1 (s_2.2.1) (s_2.2.2),g4,.int .i64 x5,g6,g7,g8,g9,g10,g11,g12,g13,g14,g15,g16,g17,g18,g19,g20,g21,g22,g23,g24,g25,g26,g27,g28,g29,g30,g31,g32,.slice Ax3 lx3 cx3,.int .i64 x5,.int .u8 (IntKind.u8.wrap (x5)),.slice (some ⟨2 * M.nb.size, 0, none⟩) 1 1,.slice s_2.1 (s_2.2.1) (s_2.2.2),g38] r_1.2 := by kernel_rfl
theorem k49_44 : P49 [1,1,0,1,0,0,1,1] = .region 4 (O49 [1,1,0,1,0,0,1,1]) false := by kernel_rfl
theorem r49_4 {x4 : Int} {M : Mem} {call : CallM} {K : Array Value → Mem → R} :
    opsK Try.prog (fun _ => call) (O49 [1,1,0,1,0,0,1,1]) (O49 [1,1,0,1,0,0,1,1]).toList 0 #[g0,g1,g2,g3,.int .i64 x4,g5,g6,g7,g8,g9,g10,g11,g12,g13,g14,g15,g16,g17,g18,g19,g20,g21,g22,g23,g24,g25,g26,g27,g28,g29,g30,g31,g32,g33,g34,g35,g36,g37,g38] M K = K #[g0,g1,g2,g3,.int .i64 (IntKind.i64.wrap (x4 + 8)),g5,g6,g7,g8,g9,g10,.int .i64 x4,.int .i64 (IntKind.i64.wrap (x4 + 8)),g13,g14,g15,g16,g17,g18,g19,g20,g21,g22,g23,g24,g25,g26,g27,g28,g29,g30,g31,g32,g33,g34,g35,g36,g37,g38] M := by kernel_rfl
theorem k49_45 : P49 [1,1,0,1,0,0,1,0,0,1,0,1,0,0,1,1] = .region 8 (O49 [1,1,0,1,0,0,1,0,0,1,0,1,0,0,1,1]) false := by kernel_rfl
theorem r49_8 {x6 : Int} {M : Mem} {call : CallM} {K : Array Value → Mem → R} :
    opsK Try.prog (fun _ => call) (O49 [1,1,0,1,0,0,1,0,0,1,0,1,0,0,1,1]) (O49 [1,1,0,1,0,0,1,0,0,1,0,1,0,0,1,1]).toList 0 #[g0,g1,g2,g3,g4,g5,.int .i64 x6,g7,g8,g9,g10,g11,g12,g13,g14,g15,g16,g17,g18,g19,g20,g21,g22,g23,g24,g25,g26,g27,g28,g29,g30,g31,g32,g33,g34,g35,g36,g37,g38] M K = K #[g0,g1,g2,g3,g4,g5,.int .i64 (IntKind.i64.wrap (x6 + 1)),g7,g8,g9,g10,g11,g12,g13,g14,.int .i64 x6,.int .i64 (IntKind.i64.wrap (x6 + 1)),g17,g18,g19,g20,g21,g22,g23,g24,g25,g26,g27,g28,g29,g30,g31,g32,g33,g34,g35,g36,g37,g38] M := by kernel_rfl
noncomputable def S49_1 : List Item := [.code (P49 [1,1,0,1,0,0]), .inLoop (P49 [1,1,0,1,0,0]), .inBlock 0, .code (P49 [1,1,1])]
def A49_1 (Ax0 : Option Addr) (lx0 cx0 : Nat) (Ax3 : Option Addr) (lx3 cx3 : Nat) (x4 : Int) (M : Mem) (Q : Value → Mem → Prop) : Prop := ∀ (g1 g2 g5 g6 g7 g8 g9 g10 g11 g12 g13 g14 g15 g16 g17 g18 g19 g20 g21 g22 g23 g24 g25 g26 g27 g28 g29 g30 g31 g32 g33 g34 g35 g36 g37 g38 : Value), Rn Try.prog Try.f49 S49_1 #[.slice Ax0 lx0 cx0, g1, g2, .slice Ax3 lx3 cx3, .int .i64 x4, g5, g6, g7, g8, g9, g10, g11, g12, g13, g14, g15, g16, g17, g18, g19, g20, g21, g22, g23, g24, g25, g26, g27, g28, g29, g30, g31, g32, g33, g34, g35, g36, g37, g38] M Q
noncomputable def S49_2 : List Item := [.code (P49 [1,1,0,1,0,0,1,0,0,1,0,1,0,0]), .inLoop (P49 [1,1,0,1,0,0,1,0,0,1,0,1,0,0]), .inBlock 2, .code (P49 [1,1,0,1,0,0,1,0,0,1,1]), .inBlock 1, .code (P49 [1,1,0,1,0,0,1,1]), .inLoop (P49 [1,1,0,1,0,0]), .inBlock 0, .code (P49 [1,1,1])]
def A49_2 (Ax0 : Option Addr) (lx0 cx0 : Nat) (Ax3 : Option Addr) (lx3 cx3 : Nat) (x4 x5 x6 : Int) (M : Mem) (Q : Value → Mem → Prop) : Prop := ∀ (g1 g2 g7 g8 g9 g10 g11 g12 g13 g14 g15 g16 g17 g18 g19 g20 g21 g22 g23 g24 g25 g26 g27 g28 g29 g30 g31 g32 g33 g34 g35 g36 g37 g38 : Value), Rn Try.prog Try.f49 S49_2 #[.slice Ax0 lx0 cx0, g1, g2, .slice Ax3 lx3 cx3, .int .i64 x4, .int .i64 x5, .int .i64 x6, g7, g8, g9, g10, g11, g12, g13, g14, g15, g16, g17, g18, g19, g20, g21, g22, g23, g24, g25, g26, g27, g28, g29, g30, g31, g32, g33, g34, g35, g36, g37, g38] M Q
noncomputable def S49_3 : List Item := [.code (P49 [1,1,0,1,0,0,1,0,0,1,0,1,0,0,1,1]), .inLoop (P49 [1,1,0,1,0,0,1,0,0,1,0,1,0,0]), .inBlock 2, .code (P49 [1,1,0,1,0,0,1,0,0,1,1]), .inBlock 1, .code (P49 [1,1,0,1,0,0,1,1]), .inLoop (P49 [1,1,0,1,0,0]), .inBlock 0, .code (P49 [1,1,1])]
def A49_3 (Ax0 : Option Addr) (lx0 cx0 : Nat) (Ax3 : Option Addr) (lx3 cx3 : Nat) (x4 x5 x6 : Int) (M : Mem) (Q : Value → Mem → Prop) : Prop := ∀ (g1 g2 g7 g8 g9 g10 g11 g12 g13 g14 g15 g16 g17 g18 g19 g20 g21 g22 g23 g24 g25 g26 g27 g28 g29 g30 g31 g32 g33 g34 g35 g36 g37 g38 : Value), Rn Try.prog Try.f49 S49_3 #[.slice Ax0 lx0 cx0, g1, g2, .slice Ax3 lx3 cx3, .int .i64 x4, .int .i64 x5, .int .i64 x6, g7, g8, g9, g10, g11, g12, g13, g14, g15, g16, g17, g18, g19, g20, g21, g22, g23, g24, g25, g26, g27, g28, g29, g30, g31, g32, g33, g34, g35, g36, g37, g38] M Q
theorem w49_0 {Ax0 : Option Addr} {lx0 cx0 : Nat} {M : Mem} {Q : Value → Mem → Prop} (H :
    A49_1 Ax0 lx0 cx0 none 0 0 0 M Q) :
    Cn Try.prog 49 #[.slice Ax0 lx0 cx0] M Q := by
  refine Cn.of b49 d49 t49 ?_
  refine Rn.seq k49_0 (Rn.region k49_1 (fun call K => r49_0) (Rch.leaf (Rn.seq k49_2 (Rn.region k49_3 (fun call K => r49_1) (Rch.leaf (Rn.seq k49_4 (Rn.seq k49_5 (Rn.region k49_6 (fun call K => r49_2) (Rch.leaf (Rn.block k49_7 (Rn.loop k49_8 ?_)))))))))))
  exact H _ _ _ _ _ _ _ _ _ _ _ _ _ _ _ _ _ _ _ _ _ _ _ _ _ _ _ _ _ _ _ _ _ _ _ _

theorem w49_1 {Ax0 : Option Addr} {lx0 cx0 : Nat} {Ax3 : Option Addr} {lx3 cx3 : Nat} {x4 : Int} {M : Mem} {Q : Value → Mem → Prop} (H :
    ((x4 < ((lx0 : Int)) →
     A49_2 Ax0 lx0 cx0 Ax3 lx3 cx3 x4 0 0 M Q) ∧
     (¬ (x4 < ((lx0 : Int))) →
     Q (.slice Ax3 lx3 cx3) M))) :
    A49_1 Ax0 lx0 cx0 Ax3 lx3 cx3 x4 M Q := by
  intro g1 g2 g5 g6 g7 g8 g9 g10 g11 g12 g13 g14 g15 g16 g17 g18 g19 g20 g21 g22 g23 g24 g25 g26 g27 g28 g29 g30 g31 g32 g33 g34 g35 g36 g37 g38
  refine Rn.seq k49_9 (Rn.seq k49_10 (Rn.region k49_11 (fun call K => r49_3) (Rch.leaf ?_)))
  refine Rn.cnd (v := decide (x4 < ((lx0 : Int)))) ⟨c49_12, rfl, by kernel_rfl⟩ (fun h => ?_) (fun h => ?_)
  · replace H := H.1 (of_decide_eq_true h)
    refine Rn.skip k49_13 (Rn.seq k49_14 (Rn.block k49_15 (Rn.seq k49_16 (Rn.region k49_17 (fun call K => r49_5) (Rch.leaf (Rn.seq k49_18 (Rn.seq k49_19 (Rn.region k49_20 (fun call K => r49_6) (Rch.leaf (Rn.block k49_21 (Rn.loop k49_22 ?_)))))))))))
    exact H _ _ _ _ _ _ _ _ _ _ _ _ _ _ _ _ _ _ _ _ _ _ _ _ _ _ _ _ _ _ _ _ _ _
  · replace H := H.2 (of_decide_eq_false h)
    refine Rn.exit k49_23 rfl (Rn.seq k49_24 (Rn.region k49_25 (fun call K => r49_13) (Rch.leaf ?_)))
    exact Rn.ret k49_26 e49 H

theorem w49_2 {Ax0 : Option Addr} {lx0 cx0 : Nat} {Ax3 : Option Addr} {lx3 cx3 : Nat} {x4 x5 x6 : Int} {M : Mem} {Q : Value → Mem → Prop} (H :
    ((x6 < 8 →
     (((IntKind.i64.wrap (x4 + x6)) < ((lx0 : Int)) →
      ∃ a1', idxA Ax0 lx0 1 (IntKind.i64.wrap (x4 + x6)) = some a1' ∧
      ∃ x2', M.intAt .i64 a1'.block a1'.off = some x2' ∧
      A49_3 Ax0 lx0 cx0 Ax3 lx3 cx3 x4 (IntKind.i64.wrap ((IntKind.i64.wrap (x5 * 2)) + x2')) x6 M Q) ∧
      (¬ ((IntKind.i64.wrap (x4 + x6)) < ((lx0 : Int))) →
      A49_3 Ax0 lx0 cx0 Ax3 lx3 cx3 x4 (IntKind.i64.wrap (x5 * 2)) x6 M Q))) ∧
     (¬ (x6 < 8) →
     ∃ r3', appendP Try.prog #[22, 22] (.slice Ax3 lx3 cx3) (.slice (some ⟨2 * M.nb.size, 0, none⟩) 1 1) (M.new (.cells #[.int .u8 (IntKind.u8.wrap (x5))] 5)) = some r3' ∧
     ∃ s4', asS r3'.1 = some s4' ∧
     A49_1 Ax0 lx0 cx0 s4'.1 s4'.2.1 s4'.2.2 (IntKind.i64.wrap (x4 + 8)) r3'.2 Q))) :
    A49_2 Ax0 lx0 cx0 Ax3 lx3 cx3 x4 x5 x6 M Q := by
  intro g1 g2 g7 g8 g9 g10 g11 g12 g13 g14 g15 g16 g17 g18 g19 g20 g21 g22 g23 g24 g25 g26 g27 g28 g29 g30 g31 g32 g33 g34 g35 g36 g37 g38
  refine Rn.seq k49_28 (Rn.seq k49_29 (Rn.region k49_30 (fun call K => r49_7) (Rch.leaf ?_)))
  refine Rn.cnd (v := decide (x6 < 8)) ⟨c49_31, rfl, by kernel_rfl⟩ (fun h => ?_) (fun h => ?_)
  · replace H := H.1 (of_decide_eq_true h)
    refine Rn.skip k49_32 (Rn.seq k49_33 (Rn.block k49_34 (Rn.seq k49_35 (Rn.region k49_36 (fun call K => r49_9) (Rch.leaf (Rn.seq k49_37 (Rn.region k49_38 (fun call K => r49_10) (Rch.leaf ?_))))))))
    refine Rn.cnd (v := decide ((IntKind.i64.wrap (x4 + x6)) < ((lx0 : Int)))) ⟨c49_39, rfl, by kernel_rfl⟩ (fun h => ?_) (fun h => ?_)
    · replace H := H.1 (of_decide_eq_true h)
      refine Rn.region k49_40 (fun call K => r49_11) (Rch.ex H fun a1' H => Rch.ex H fun x2' H => Rch.leaf (Rn.blk ?_))
      exact H _ _ _ _ _ _ _ _ _ _ _ _ _ _ _ _ _ _ _ _ _ _ _ _ _ _ _ _ _ _ _ _ _ _
    · replace H := H.2 (of_decide_eq_false h)
      refine Rn.skip k49_41 (Rn.blk ?_)
      exact H _ _ _ _ _ _ _ _ _ _ _ _ _ _ _ _ _ _ _ _ _ _ _ _ _ _ _ _ _ _ _ _ _ _
  · replace H := H.2 (of_decide_eq_false h)
    refine Rn.exit k49_42 rfl (Rn.region k49_43 (fun call K => r49_12) (Rch.ex H fun r3' H => Rch.ex H fun s4' H => Rch.leaf (Rn.blk (Rn.region k49_44 (fun call K => r49_4) (Rch.leaf (Rn.lp ?_))))))
    exact H _ _ _ _ _ _ _ _ _ _ _ _ _ _ _ _ _ _ _ _ _ _ _ _ _ _ _ _ _ _ _ _ _ _ _ _

theorem w49_3 {Ax0 : Option Addr} {lx0 cx0 : Nat} {Ax3 : Option Addr} {lx3 cx3 : Nat} {x4 x5 x6 : Int} {M : Mem} {Q : Value → Mem → Prop} (H :
    A49_2 Ax0 lx0 cx0 Ax3 lx3 cx3 x4 x5 (IntKind.i64.wrap (x6 + 1)) M Q) :
    A49_3 Ax0 lx0 cx0 Ax3 lx3 cx3 x4 x5 x6 M Q := by
  intro g1 g2 g7 g8 g9 g10 g11 g12 g13 g14 g15 g16 g17 g18 g19 g20 g21 g22 g23 g24 g25 g26 g27 g28 g29 g30 g31 g32 g33 g34 g35 g36 g37 g38
  refine Rn.region k49_45 (fun call K => r49_8) (Rch.leaf (Rn.lp ?_))
  exact H _ _ _ _ _ _ _ _ _ _ _ _ _ _ _ _ _ _ _ _ _ _ _ _ _ _ _ _ _ _ _ _ _ _


/-! ### zoetrope/zoetroperef01.New: function 42 -/
noncomputable abbrev P42 (p : List Nat) : Code := subC (codeOf Try.f42) p
noncomputable abbrev O42 (p : List Nat) : Array Oper := opsOf (subC (codeOf Try.f42) p)
theorem b42 : Try.prog.funcs[42]? = some Try.f42 ∧ (Orc.tab Try.prog).lookup 42 = none := ⟨by kernel_rfl, by kernel_rfl⟩
theorem d42 : Try.f42.body = some (P42 []) := by kernel_rfl
theorem t42 {Ax0 : Option Addr} {lx0 cx0 : Nat} : #[.slice Ax0 lx0 cx0] ++ Array.replicate (Try.f42.ntmps - (#[.slice Ax0 lx0 cx0] : Array Value).size) undef = #[.slice Ax0 lx0 cx0,undef,undef,undef,undef,undef,undef] := by kernel_rfl
theorem k42_0 : P42 [] = .seq (P42 [0]) (P42 [1]) := by kernel_rfl
theorem k42_1 : P42 [0] = .region 0 (O42 [0]) false := by kernel_rfl
theorem r42_0 {M : Mem} {call : CallM} {K : Array Value → Mem → R} :
    opsK Try.prog (fun _ => call) (O42 [0]) (O42 [0]).toList 0 #[g0,g1,g2,g3,g4,g5,g6] M K = K #[g0,g1,.pointer none,g3,g4,g5,g6] M := by kernel_rfl
theorem k42_2 : P42 [1] = .seq (P42 [1,0]) (P42 [1,1]) := by kernel_rfl
theorem k42_3 : P42 [1,0] = .region 1 (O42 [1,0]) false := by kernel_rfl
theorem r42_1 {Ax0 : Option Addr} {lx0 cx0 : Nat} {M : Mem} {call : CallM} {K : Array Value → Mem → R} :
    opsK Try.prog (fun _ => call) (O42 [1,0]) (O42 [1,0]).toList 0 #[.slice Ax0 lx0 cx0,g1,g2,g3,g4,g5,g6] M K = (call 52 #[.slice Ax0 lx0 cx0] M).bind fun r_1 => (asS r_1.1).bind fun s_2 => K #[.slice Ax0 lx0 cx0,g1,.pointer (some ⟨2 * r_1.2.nb.size, 0, none⟩),.slice Ax0 lx0 cx0,.slice s_2.1 (s_2.2.1) (s_2.2.2),.agg #[.slice s_2.1 (s_2.2.1) (s_2.2.2), .int .i64 0],.pointer (some ⟨2 * r_1.2.nb.size, 0, none⟩)] (r_1.2.new (.cells #[.slice s_2.1 (s_2.2.1) (s_2.2.2), .int .i64 0] 83)) := by kernel_rfl
theorem k42_4 : P42 [1,1] = .ret := by kernel_rfl
theorem e42 {M : Mem} : finish Try.prog Try.f42 #[g0,g1,g2,g3,g4,g5,g6] M = some (g2, M) := by kernel_rfl
theorem w42_0 {Ax0 : Option Addr} {lx0 cx0 : Nat} {M : Mem} {Q : Value → Mem → Prop} (H :
    Cn Try.prog 52 #[.slice Ax0 lx0 cx0] M fun v1' N1' =>
     ∃ s2', asS v1' = some s2' ∧
     Q (.pointer (some ⟨2 * N1'.nb.size, 0, none⟩)) (N1'.new (.cells #[.slice s2'.1 (s2'.2.1) (s2'.2.2), .int .i64 0] 83))) :
    Cn Try.prog 42 #[.slice Ax0 lx0 cx0] M Q := by
  refine Cn.of b42 d42 t42 ?_
  refine Rn.seq k42_0 (Rn.region k42_1 (fun call K => r42_0) (Rch.leaf (Rn.seq k42_2 (Rn.region k42_3 (fun call K => r42_1) (Rch.call H fun v1' N1' H => Rch.ex H fun s2' H => Rch.leaf ?_)))))
  exact Rn.ret k42_4 e42 H


/-! ### (*zoetrope/zoetroperef01.Reader).Left: function 44 -/
noncomputable abbrev P44 (p : List Nat) : Code := subC (codeOf Try.f44) p
noncomputable abbrev O44 (p : List Nat) : Array Oper := opsOf (subC (codeOf Try.f44) p)
theorem b44 : Try.prog.funcs[44]? = some Try.f44 ∧ (Orc.tab Try.prog).lookup 44 = none := ⟨by kernel_rfl, by kernel_rfl⟩
theorem d44 : Try.f44.body = some (P44 []) := by kernel_rfl
theorem t44 {x0 : Option Addr} : #[.pointer x0] ++ Array.replicate (Try.f44.ntmps - (#[.pointer x0] : Array Value).size) undef = #[.pointer x0,undef,undef,undef,undef,undef,undef,undef,undef,undef,undef,undef,undef] := by kernel_rfl
theorem k44_0 : P44 [] = .seq (P44 [0]) (P44 [1]) := by kernel_rfl
theorem k44_1 : P44 [0] = .region 0 (O44 [0]) false := by kernel_rfl
theorem r44_0 {M : Mem} {call : CallM} {K : Array Value → Mem → R} :
    opsK Try.prog (fun _ => call) (O44 [0]) (O44 [0]).toList 0 #[g0,g1,g2,g3,g4,g5,g6,g7,g8,g9,g10,g11,g12] M K = K #[g0,g1,.int .i64 0,g3,g4,g5,g6,g7,g8,g9,g10,g11,g12] M := by kernel_rfl
theorem k44_2 : P44 [1] = .seq (P44 [1,0]) (P44 [1,1]) := by kernel_rfl
theorem k44_3 : P44 [1,0] = .region 1 (O44 [1,0]) true ∧ drawOk (O44 [1,0]) = true := ⟨by kernel_rfl, by kernel_rfl⟩
theorem r44_1 {x0 : Option Addr} {M : Mem} {call : CallM} {K : Array Value → Mem → R} :
    opsI Try.prog (callAt call (O44 [1,0])) (O44 [1,0]) (ordOf (O44 [1,0])) [] #[.pointer x0,g1,g2,g3,g4,g5,g6,g7,g8,g9,g10,g11,g12] M K = (x0).bind fun a_1 => (M.slAt a_1.block a_1.off).bind fun s_2 => (x0).bind fun a_3 => (M.intAt .i64 a_3.block (a_3.off + 1)).bind fun x_4 => K #[.pointer x0,g1,.int .i64 (IntKind.i64.wrap (((s_2.2.1 : Int)) - x_4)),.pointer x0,.pointer (some a_1),.pointer (some ⟨a_1.block, a_1.off, none⟩),.slice s_2.1 (s_2.2.1) (s_2.2.2),.int .i64 ((s_2.2.1 : Int)),.pointer x0,.pointer (some a_3),.pointer (some ⟨a_3.block, a_3.off + 1, none⟩),.int .i64 x_4,.int .i64 (IntKind.i64.wrap (((s_2.2.1 : Int)) - x_4))] M := by kernel_rfl
theorem k44_4 : P44 [1,1] = .ret := by kernel_rfl
theorem e44 {M : Mem} : finish Try.prog Try.f44 #[g0,g1,g2,g3,g4,g5,g6,g7,g8,g9,g10,g11,g12] M = some (g2, M) := by kernel_rfl
theorem w44_0 {x0 : Option Addr} {M : Mem} {Q : Value → Mem → Prop} (H :
    ∃ a1', x0 = some a1' ∧
    ∃ s2', M.slAt a1'.block a1'.off = some s2' ∧
    ∃ a3', x0 = some a3' ∧
    ∃ x4', M.intAt .i64 a3'.block (a3'.off + 1) = some x4' ∧
    Q (.int .i64 (IntKind.i64.wrap (((s2'.2.1 : Int)) - x4'))) M) :
    Cn Try.prog 44 #[.pointer x0] M Q := by
  refine Cn.of b44 d44 t44 ?_
  refine Rn.seq k44_0 (Rn.region k44_1 (fun call K => r44_0) (Rch.leaf (Rn.seq k44_2 (Rn.regionD k44_3 (fun call K => r44_1) (Rch.ex H fun a1' H => Rch.ex H fun s2' H => Rch.ex H fun a3' H => Rch.ex H fun x4' H => Rch.leaf ?_)))))
  exact Rn.ret k44_4 e44 H


/-! ### (*zoetrope/zoetroperef01.Reader).number: function 53 -/
noncomputable abbrev P53 (p : List Nat) : Code := subC (codeOf Try.f53) p
noncomputable abbrev O53 (p : List Nat) : Array Oper := opsOf (subC (codeOf Try.f53) p)
theorem b53 : Try.prog.funcs[53]? = some Try.f53 ∧ (Orc.tab Try.prog).lookup 53 = none := ⟨by kernel_rfl, by kernel_rfl⟩
theorem d53 : Try.f53.body = some (P53 []) := by kernel_rfl
theorem t53 {x0 : Option Addr} {x1 x2 : Int} : #[.pointer x0,.int .i64 x1,.int .i64 x2] ++ Array.replicate (Try.f53.ntmps - (#[.pointer x0,.int .i64 x1,.int .i64 x2] : Array Value).size) undef = #[.pointer x0,.int .i64 x1,.int .i64 x2,undef,undef,undef,undef,undef,undef,undef,undef,undef,undef,undef,undef,undef,undef,undef,undef,undef,undef,undef,undef,undef,undef,undef,undef,undef] := by kernel_rfl
theorem k53_0 : P53 [] = .seq (P53 [0]) (P53 [1]) := by kernel_rfl
theorem k53_1 : P53 [0] = .region 0 (O53 [0]) false := by kernel_rfl
theorem r53_0 {M : Mem} {call : CallM} {K : Array Value → Mem → R} :
    opsK Try.prog (fun _ => call) (O53 [0]) (O53 [0]).toList 0 #[g0,g1,g2,g3,g4,g5,g6,g7,g8,g9,g10,g11,g12,g13,g14,g15,g16,g17,g18,g19,g20,g21,g22,g23,g24,g25,g26,g27] M K = K #[g0,g1,g2,g3,g4,g5,.int .u64 0,g7,g8,g9,g10,g11,g12,g13,g14,g15,g16,g17,g18,g19,g20,g21,g22,g23,g24,g25,g26,g27] M := by kernel_rfl
theorem k53_2 : P53 [1] = .seq (P53 [1,0]) (P53 [1,1]) := by kernel_rfl
theorem k53_3 : P53 [1,0] = .region 1 (O53 [1,0]) false := by kernel_rfl
theorem r53_1 {M : Mem} {call : CallM} {K : Array Value → Mem → R} :
    opsK Try.prog (fun _ => call) (O53 [1,0]) (O53 [1,0]).toList 0 #[g0,g1,g2,g3,g4,g5,g6,g7,g8,g9,g10,g11,g12,g13,g14,g15,g16,g17,g18,g19,g20,g21,g22,g23,g24,g25,g26,g27] M K = K #[g0,g1,g2,g3,g4,g5,g6,.int .u64 0,g8,g9,g10,g11,g12,g13,g14,g15,g16,g17,g18,g19,g20,g21,g22,g23,g24,g25,g26,g27] M := by kernel_rfl
theorem k53_4 : P53 [1,1] = .seq (P53 [1,1,0]) (P53 [1,1,1]) := by kernel_rfl
theorem k53_5 : P53 [1,1,0] = .seq (P53 [1,1,0,0]) (P53 [1,1,0,1]) := by kernel_rfl
theorem k53_6 : P53 [1,1,0,0] = .region 2 (O53 [1,1,0,0]) false := by kernel_rfl
theorem r53_2 {M : Mem} {call : CallM} {K : Array Value → Mem → R} :
    opsK Try.prog (fun _ => call) (O53 [1,1,0,0]) (O53 [1,1,0,0]).toList 0 #[g0,g1,g2,g3,g4,g5,g6,g7,g8,g9,g10,g11,g12,g13,g14,g15,g16,g17,g18,g19,g20,g21,g22,g23,g24,g25,g26,g27] M K = K #[g0,g1,g2,g3,g4,g5,g6,g7,.int .i64 0,g9,g10,g11,g12,g13,g14,g15,g16,g17,g18,g19,g20,g21,g22,g23,g24,g25,g26,g27] M := by kernel_rfl
theorem k53_7 : P53 [1,1,0,1] = .block 0 (P53 [1,1,0,1,0]) := by kernel_rfl
theorem k53_8 : P53 [1,1,0,1,0] = .loop (P53 [1,1,0,1,0,0]) := by kernel_rfl
theorem k53_9 : P53 [1,1,0,1,0,0] = .seq (P53 [1,1,0,1,0,0,0]) (P53 [1,1,0,1,0,0,1]) := by kernel_rfl
theorem k53_10 : P53 [1,1,0,1,0,0,0] = .seq (P53 [1,1,0,1,0,0,0,0]) (P53 [1,1,0,1,0,0,0,1]) := by kernel_rfl
theorem k53_11 : P53 [1,1,0,1,0,0,0,0] = .region 3 (O53 [1,1,0,1,0,0,0,0]) false := by kernel_rfl
theorem r53_3 {x2 x8 : Int} {M : Mem} {call : CallM} {K : Array Value → Mem → R} :
    opsK Try.prog (fun _ => call) (O53 [1,1,0,1,0,0,0,0]) (O53 [1,1,0,1,0,0,0,0]).toList 0 #[g0,g1,.int .i64 x2,g3,g4,g5,g6,g7,.int .i64 x8,g9,g10,g11,g12,g13,g14,g15,g16,g17,g18,g19,g20,g21,g22,g23,g24,g25,g26,g27] M K = K #[g0,g1,.int .i64 x2,g3,g4,g5,g6,g7,.int .i64 x8,.int .i64 x8,.int .i64 x2,.bool (decide (x8 < x2)),g12,g13,g14,g15,g16,g17,g18,g19,g20,g21,g22,g23,g24,g25,g26,g27] M := by kernel_rfl
theorem c53_12 : P53 [1,1,0,1,0,0,0,1] = .cond (.tmp 11) (P53 [1,1,0,1,0,0,0,1,0]) (P53 [1,1,0,1,0,0,0,1,1]) := by kernel_rfl
theorem k53_13 : P53 [1,1,0,1,0,0,0,1,0] = .skip := by kernel_rfl
theorem k53_14 : P53 [1,1,0,1,0,0,1] = .seq (P53 [1,1,0,1,0,0,1,0]) (P53 [1,1,0,1,0,0,1,1]) := by kernel_rfl
theorem k53_15 : P53 [1,1,0,1,0,0,1,0] = .block 1 (P53 [1,1,0,1,0,0,1,0,0]) := by kernel_rfl
theorem k53_16 : P53 [1,1,0,1,0,0,1,0,0] = .region 5 (O53 [1,1,0,1,0,0,1,0,0]) false := by kernel_rfl
theorem r53_5 {x0 : Option Addr} {x1 x7 x8 : Int} {M : Mem} {call : CallM} {K : Array Value → Mem → R} :
    opsK Try.prog (fun _ => call) (O53 [1,1,0,1,0,0,1,0,0]) (O53 [1,1,0,1,0,0,1,0,0]).toList 0 #[.pointer x0,.int .i64 x1,g2,g3,g4,g5,g6,.int .u64 x7,.int .i64 x8,g9,g10,g11,g12,g13,g14,g15,g16,g17,g18,g19,g20,g21,g22,g23,g24,g25,g26,g27] M K = (x0).bind fun a_1 => (M.slAt a_1.block a_1.off).bind fun s_2 => (idxA s_2.1 (s_2.2.1) 1 (IntKind.i64.wrap (x1 + x8))).bind fun a_3 => (M.intAt .i64 a_3.block a_3.off).bind fun x_4 => K #[.pointer x0,.int .i64 x1,g2,g3,g4,g5,g6,.int .u64 (IntKind.u64.wrap ((IntKind.u64.wrap (x7 * 2)) + (IntKind.u64.wrap (x_4)))),.int .i64 x8,g9,g10,g11,g12,g13,.int .u64 x7,.int .u64 (IntKind.u64.wrap (x7 * 2)),.pointer x0,.pointer (some a_1),.pointer (some ⟨a_1.block, a_1.off, none⟩),.slice s_2.1 (s_2.2.1) (s_2.2.2),.int .i64 x1,.int .i64 x8,.int .i64 (IntKind.i64.wrap (x1 + x8)),.pointer (some a_3),.int .i64 x_4,.int .u64 (IntKind.u64.wrap (x_4)),.int .u64 (IntKind.u64.wrap ((IntKind.u64.wrap (x7 * 2)) + (IntKind.u64.wrap (x_4)))),g27] M := by kernel_rfl
theorem k53_17 : P53 [1,1,0,1,0,0,1,1] = .region 4 (O53 [1,1,0,1,0,0,1,1]) false := by kernel_rfl
theorem r53_4 {x8 : Int} {M : Mem} {call : CallM} {K : Array Value → Mem → R} :
    opsK Try.prog (fun _ => call) (O53 [1,1,0,1,0,0,1,1]) (O53 [1,1,0,1,0,0,1,1]).toList 0 #[g0,g1,g2,g3,g4,g5,g6,g7,.int .i64 x8,g9,g10,g11,g12,g13,g14,g15,g16,g17,g18,g19,g20,g21,g22,g23,g24,g25,g26,g27] M K = K #[g0,g1,g2,g3,g4,g5,g6,g7,.int .i64 (IntKind.i64.wrap (x8 + 1)),g9,g10,g11,.int .i64 x8,.int .i64 (IntKind.i64.wrap (x8 + 1)),g14,g15,g16,g17,g18,g19,g20,g21,g22,g23,g24,g25,g26,g27] M := by kernel_rfl
theorem k53_18 : P53 [1,1,0,1,0,0,0,1,1] = .exit 0 := by kernel_rfl
theorem k53_19 : P53 [1,1,1] = .seq (P53 [1,1,1,0]) (P53 [1,1,1,1]) := by kernel_rfl
theorem k53_20 : P53 [1,1,1,0] = .region 6 (O53 [1,1,1,0]) false := by kernel_rfl
theorem r53_6 {x7 : Int} {M : Mem} {call : CallM} {K : Array Value → Mem → R} :
    opsK Try.prog (fun _ => call) (O53 [1,1,1,0]) (O53 [1,1,1,0]).toList 0 #[g0,g1,g2,g3,g4,g5,g6,.int .u64 x7,g8,g9,g10,g11,g12,g13,g14,g15,g16,g17,g18,g19,g20,g21,g22,g23,g24,g25,g26,g27] M K = K #[g0,g1,g2,g3,g4,g5,.int .u64 x7,.int .u64 x7,g8,g9,g10,g11,g12,g13,g14,g15,g16,g17,g18,g19,g20,g21,g22,g23,g24,g25,g26,.int .u64 x7] M := by kernel_rfl
theorem k53_21 : P53 [1,1,1,1] = .ret := by kernel_rfl
theorem e53 {M : Mem} : finish Try.prog Try.f53 #[g0,g1,g2,g3,g4,g5,g6,g7,g8,g9,g10,g11,g12,g13,g14,g15,g16,g17,g18,g19,g20,g21,g22,g23,g24,g25,g26,g27] M = some (g6, M) := by kernel_rfl
noncomputable def S53_1 : List Item := [.code (P53 [1,1,0,1,0,0]), .inLoop (P53 [1,1,0,1,0,0]), .inBlock 0, .code (P53 [1,1,1])]
def A53_1 (x0 : Option Addr) (x1 x2 x7 x8 : Int) (M : Mem) (Q : Value → Mem → Prop) : Prop := ∀ (g3 g4 g5 g6 g9 g10 g11 g12 g13 g14 g15 g16 g17 g18 g19 g20 g21 g22 g23 g24 g25 g26 g27 : Value), Rn Try.prog Try.f53 S53_1 #[.pointer x0, .int .i64 x1, .int .i64 x2, g3, g4, g5, g6, .int .u64 x7, .int .i64 x8, g9, g10, g11, g12, g13, g14, g15, g16, g17, g18, g19, g20, g21, g22, g23, g24, g25, g26, g27] M Q
theorem w53_0 {x0 : Option Addr} {x1 x2 : Int} {M : Mem} {Q : Value → Mem → Prop} (H :
    A53_1 x0 x1 x2 0 0 M Q) :
    Cn Try.prog 53 #[.pointer x0, .int .i64 x1, .int .i64 x2] M Q := by
  refine Cn.of b53 d53 t53 ?_
  refine Rn.seq k53_0 (Rn.region k53_1 (fun call K => r53_0) (Rch.leaf (Rn.seq k53_2 (Rn.region k53_3 (fun call K => r53_1) (Rch.leaf (Rn.seq k53_4 (Rn.seq k53_5 (Rn.region k53_6 (fun call K => r53_2) (Rch.leaf (Rn.block k53_7 (Rn.loop k53_8 ?_)))))))))))
  exact H _ _ _ _ _ _ _ _ _ _ _ _ _ _ _ _ _ _ _ _ _ _ _

theorem w53_1 {x0 : Option Addr} {x1 x2 x7 x8 : Int} {M : Mem} {Q : Value → Mem → Prop} (H :
    ((x8 < x2 →
     ∃ a1', x0 = some a1' ∧
     ∃ s2', M.slAt a1'.block a1'.off = some s2' ∧
     ∃ a3', idxA s2'.1 (s2'.2.1) 1 (IntKind.i64.wrap (x1 + x8)) = some a3' ∧
     ∃ x4', M.intAt .i64 a3'.block a3'.off = some x4' ∧
     A53_1 x0 x1 x2 (IntKind.u64.wrap ((IntKind.u64.wrap (x7 * 2)) + (IntKind.u64.wrap (x4')))) (IntKind.i64.wrap (x8 + 1)) M Q) ∧
     (¬ (x8 < x2) →
     Q (.int .u64 x7) M))) :
    A53_1 x0 x1 x2 x7 x8 M Q := by
  intro g3 g4 g5 g6 g9 g10 g11 g12 g13 g14 g15 g16 g17 g18 g19 g20 g21 g22 g23 g24 g25 g26 g27
  refine Rn.seq k53_9 (Rn.seq k53_10 (Rn.region k53_11 (fun call K => r53_3) (Rch.leaf ?_)))
  refine Rn.cnd (v := decide (x8 < x2)) ⟨c53_12, rfl, by kernel_rfl⟩ (fun h => ?_) (fun h => ?_)
  · replace H := H.1 (of_decide_eq_true h)
    refine Rn.skip k53_13 (Rn.seq k53_14 (Rn.block k53_15 (Rn.region k53_16 (fun call K => r53_5) (Rch.ex H fun a1' H => Rch.ex H fun s2' H => Rch.ex H fun a3' H => Rch.ex H fun x4' H => Rch.leaf (Rn.blk (Rn.region k53_17 (fun call K => r53_4) (Rch.leaf ?_)))))))
    refine Rn.lp ?_
    exact H _ _ _ _ _ _ _ _ _ _ _ _ _ _ _ _ _ _ _ _ _ _ _
  · replace H := H.2 (of_decide_eq_false h)
    refine Rn.exit k53_18 rfl (Rn.seq k53_19 (Rn.region k53_20 (fun call K => r53_6) (Rch.leaf ?_)))
    exact Rn.ret k53_21 e53 H


/-! ### (*zoetrope/zoetroperef01.Reader).Leb: function 43 -/
noncomputable abbrev P43 (p : List Nat) : Code := subC (codeOf Try.f43) p
noncomputable abbrev O43 (p : List Nat) : Array Oper := opsOf (subC (codeOf Try.f43) p)
theorem b43 : Try.prog.funcs[43]? = some Try.f43 ∧ (Orc.tab Try.prog).lookup 43 = none := ⟨by kernel_rfl, by kernel_rfl⟩
theorem d43 : Try.f43.body = some (P43 []) := by kernel_rfl
theorem t43 {x0 : Option Addr} : #[.pointer x0] ++ Array.replicate (Try.f43.ntmps - (#[.pointer x0] : Array Value).size) undef = #[.pointer x0,undef,undef,undef,undef,undef,undef,undef,undef,undef,undef,undef,undef,undef,undef,undef,undef,undef,undef,undef,undef,undef,undef,undef,undef,undef,undef,undef,undef,undef,undef,undef,undef,undef,undef,undef,undef,undef,undef,undef,undef,undef,undef,undef,undef,undef,undef,undef,undef,undef,undef,undef,undef,undef,undef,undef,undef,undef,undef,undef,undef,undef,undef,undef,undef,undef,undef,undef] := by kernel_rfl
theorem k43_0 : P43 [] = .seq (P43 [0]) (P43 [1]) := by kernel_rfl
theorem k43_1 : P43 [0] = .region 0 (O43 [0]) false := by kernel_rfl
theorem r43_0 {M : Mem} {call : CallM} {K : Array Value → Mem → R} :
    opsK Try.prog (fun _ => call) (O43 [0]) (O43 [0]).toList 0 #[g0,g1,g2,g3,g4,g5,g6,g7,g8,g9,g10,g11,g12,g13,g14,g15,g16,g17,g18,g19,g20,g21,g22,g23,g24,g25,g26,g27,g28,g29,g30,g31,g32,g33,g34,g35,g36,g37,g38,g39,g40,g41,g42,g43,g44,g45,g46,g47,g48,g49,g50,g51,g52,g53,g54,g55,g56,g57,g58,g59,g60,g61,g62,g63,g64,g65,g66,g67] M K = K #[g0,g1,.int .u32 0,.int .i64 0,g4,g5,g6,g7,g8,g9,g10,g11,g12,g13,g14,g15,g16,g17,g18,g19,g20,g21,g22,g23,g24,g25,g26,g27,g28,g29,g30,g31,g32,g33,g34,g35,g36,g37,g38,g39,g40,g41,g42,g43,g44,g45,g46,g47,g48,g49,g50,g51,g52,g53,g54,g55,g56,g57,g58,g59,g60,g61,g62,g63,g64,g65,g66,g67] M := by kernel_rfl
theorem k43_2 : P43 [1] = .seq (P43 [1,0]) (P43 [1,1]) := by kernel_rfl
theorem k43_3 : P43 [1,0] = .seq (P43 [1,0,0]) (P43 [1,0,1]) := by kernel_rfl
theorem k43_4 : P43 [1,0,0] = .region 1 (O43 [1,0,0]) false := by kernel_rfl
theorem r43_1 {x0 : Option Addr} {M : Mem} {call : CallM} {K : Array Value → Mem → R} :
    opsK Try.prog (fun _ => call) (O43 [1,0,0]) (O43 [1,0,0]).toList 0 #[.pointer x0,g1,g2,g3,g4,g5,g6,g7,g8,g9,g10,g11,g12,g13,g14,g15,g16,g17,g18,g19,g20,g21,g22,g23,g24,g25,g26,g27,g28,g29,g30,g31,g32,g33,g34,g35,g36,g37,g38,g39,g40,g41,g42,g43,g44,g45,g46,g47,g48,g49,g50,g51,g52,g53,g54,g55,g56,g57,g58,g59,g60,g61,g62,g63,g64,g65,g66,g67] M K = (x0).bind fun a_1 => (M.intAt .i64 a_1.block (a_1.off + 1)).bind fun x_2 => K #[.pointer x0,g1,g2,g3,g4,g5,g6,g7,g8,.pointer x0,.pointer (some a_1),.pointer (some ⟨a_1.block, a_1.off + 1, none⟩),.int .i64 x_2,.int .i64 (x_2.tmod 8),.bool ((x_2.tmod 8) != 0),g15,g16,g17,g18,g19,g20,g21,g22,g23,g24,g25,g26,g27,g28,g29,g30,g31,g32,g33,g34,g35,g36,g37,g38,g39,g40,g41,g42,g43,g44,g45,g46,g47,g48,g49,g50,g51,g52,g53,g54,g55,g56,g57,g58,g59,g60,g61,g62,g63,g64,g65,g66,g67] M := by kernel_rfl
theorem c43_5 : P43 [1,0,1] = .cond (.tmp 14) (P43 [1,0,1,0]) (P43 [1,0,1,1]) := by kernel_rfl
theorem k43_6 : P43 [1,0,1,0] = .seq (P43 [1,0,1,0,0]) (P43 [1,0,1,0,1]) := by kernel_rfl
theorem k43_7 : P43 [1,0,1,0,0] = .region 2 (O43 [1,0,1,0,0]) false := by kernel_rfl
theorem r43_2 {M : Mem} {call : CallM} {K : Array Value → Mem → R} :
    opsK Try.prog (fun _ => call) (O43 [1,0,1,0,0]) (O43 [1,0,1,0,0]).toList 0 #[g0,g1,g2,g3,g4,g5,g6,g7,g8,g9,g10,g11,g12,g13,g14,g15,g16,g17,g18,g19,g20,g21,g22,g23,g24,g25,g26,g27,g28,g29,g30,g31,g32,g33,g34,g35,g36,g37,g38,g39,g40,g41,g42,g43,g44,g45,g46,g47,g48,g49,g50,g51,g52,g53,g54,g55,g56,g57,g58,g59,g60,g61,g62,g63,g64,g65,g66,g67] M K = K #[g0,g1,.int .u32 0,.int .i64 2,g4,g5,g6,g7,g8,g9,g10,g11,g12,g13,g14,g15,g16,g17,g18,g19,g20,g21,g22,g23,g24,g25,g26,g27,g28,g29,g30,g31,g32,g33,g34,g35,g36,g37,g38,g39,g40,g41,g42,g43,g44,g45,g46,g47,g48,g49,g50,g51,g52,g53,g54,g55,g56,g57,g58,g59,g60,g61,g62,g63,g64,g65,g66,g67] M := by kernel_rfl
theorem k43_8 : P43 [1,0,1,0,1] = .ret := by kernel_rfl
theorem e43 {M : Mem} : finish Try.prog Try.f43 #[g0,g1,g2,g3,g4,g5,g6,g7,g8,g9,g10,g11,g12,g13,g14,g15,g16,g17,g18,g19,g20,g21,g22,g23,g24,g25,g26,g27,g28,g29,g30,g31,g32,g33,g34,g35,g36,g37,g38,g39,g40,g41,g42,g43,g44,g45,g46,g47,g48,g49,g50,g51,g52,g53,g54,g55,g56,g57,g58,g59,g60,g61,g62,g63,g64,g65,g66,g67] M = some (.tuple #[g2, g3], M) := by kernel_rfl
theorem k43_10 : P43 [1,0,1,1] = .skip := by kernel_rfl
theorem k43_11 : P43 [1,1] = .seq (P43 [1,1,0]) (P43 [1,1,1]) := by kernel_rfl
theorem k43_12 : P43 [1,1,0] = .region 3 (O43 [1,1,0]) false := by kernel_rfl
theorem r43_3 {M : Mem} {call : CallM} {K : Array Value → Mem → R} :
    opsK Try.prog (fun _ => call) (O43 [1,1,0]) (O43 [1,1,0]).toList 0 #[g0,g1,g2,g3,g4,g5,g6,g7,g8,g9,g10,g11,g12,g13,g14,g15,g16,g17,g18,g19,g20,g21,g22,g23,g24,g25,g26,g27,g28,g29,g30,g31,g32,g33,g34,g35,g36,g37,g38,g39,g40,g41,g42,g43,g44,g45,g46,g47,g48,g49,g50,g51,g52,g53,g54,g55,g56,g57,g58,g59,g60,g61,g62,g63,g64,g65,g66,g67] M K = K #[g0,g1,g2,g3,.int .u64 0,g5,g6,g7,g8,g9,g10,g11,g12,g13,g14,g15,g16,g17,g18,g19,g20,g21,g22,g23,g24,g25,g26,g27,g28,g29,g30,g31,g32,g33,g34,g35,g36,g37,g38,g39,g40,g41,g42,g43,g44,g45,g46,g47,g48,g49,g50,g51,g52,g53,g54,g55,g56,g57,g58,g59,g60,g61,g62,g63,g64,g65,g66,g67] M := by kernel_rfl
theorem k43_13 : P43 [1,1,1] = .seq (P43 [1,1,1,0]) (P43 [1,1,1,1]) := by kernel_rfl
theorem k43_14 : P43 [1,1,1,0] = .region 4 (O43 [1,1,1,0]) false := by kernel_rfl
theorem r43_4 {M : Mem} {call : CallM} {K : Array Value → Mem → R} :
    opsK Try.prog (fun _ => call) (O43 [1,1,1,0]) (O43 [1,1,1,0]).toList 0 #[g0,g1,g2,g3,g4,g5,g6,g7,g8,g9,g10,g11,g12,g13,g14,g15,g16,g17,g18,g19,g20,g21,g22,g23,g24,g25,g26,g27,g28,g29,g30,g31,g32,g33,g34,g35,g36,g37,g38,g39,g40,g41,g42,g43,g44,g45,g46,g47,g48,g49,g50,g51,g52,g53,g54,g55,g56,g57,g58,g59,g60,g61,g62,g63,g64,g65,g66,g67] M K = K #[g0,g1,g2,g3,g4,.int .u64 1,g6,g7,g8,g9,g10,g11,g12,g13,g14,g15,g16,g17,g18,g19,g20,g21,g22,g23,g24,g25,g26,g27,g28,g29,g30,g31,g32,g33,g34,g35,g36,g37,g38,g39,g40,g41,g42,g43,g44,g45,g46,g47,g48,g49,g50,g51,g52,g53,g54,g55,g56,g57,g58,g59,g60,g61,g62,g63,g64,g65,g66,g67] M := by kernel_rfl
theorem k43_15 : P43 [1,1,1,1] = .seq (P43 [1,1,1,1,0]) (P43 [1,1,1,1,1]) := by kernel_rfl
theorem k43_16 : P43 [1,1,1,1,0] = .seq (P43 [1,1,1,1,0,0]) (P43 [1,1,1,1,0,1]) := by kernel_rfl
theorem k43_17 : P43 [1,1,1,1,0,0] = .region 5 (O43 [1,1,1,1,0,0]) false := by kernel_rfl
theorem r43_5 {M : Mem} {call : CallM} {K : Array Value → Mem → R} :
    opsK Try.prog (fun _ => call) (O43 [1,1,1,1,0,0]) (O43 [1,1,1,1,0,0]).toList 0 #[g0,g1,g2,g3,g4,g5,g6,g7,g8,g9,g10,g11,g12,g13,g14,g15,g16,g17,g18,g19,g20,g21,g22,g23,g24,g25,g26,g27,g28,g29,g30,g31,g32,g33,g34,g35,g36,g37,g38,g39,g40,g41,g42,g43,g44,g45,g46,g47,g48,g49,g50,g51,g52,g53,g54,g55,g56,g57,g58,g59,g60,g61,g62,g63,g64,g65,g66,g67] M K = K #[g0,g1,g2,g3,g4,g5,.int .i64 0,g7,g8,g9,g10,g11,g12,g13,g14,g15,g16,g17,g18,g19,g20,g21,g22,g23,g24,g25,g26,g27,g28,g29,g30,g31,g32,g33,g34,g35,g36,g37,g38,g39,g40,g41,g42,g43,g44,g45,g46,g47,g48,g49,g50,g51,g52,g53,g54,g55,g56,g57,g58,g59,g60,g61,g62,g63,g64,g65,g66,g67] M := by kernel_rfl
theorem k43_18 : P43 [1,1,1,1,0,1] = .block 0 (P43 [1,1,1,1,0,1,0]) := by kernel_rfl
theorem k43_19 : P43 [1,1,1,1,0,1,0] = .loop (P43 [1,1,1,1,0,1,0,0]) := by kernel_rfl
theorem k43_20 : P43 [1,1,1,1,0,1,0,0] = .seq (P43 [1,1,1,1,0,1,0,0,0]) (P43 [1,1,1,1,0,1,0,0,1]) := by kernel_rfl
theorem k43_21 : P43 [1,1,1,1,0,1,0,0,0] = .seq (P43 [1,1,1,1,0,1,0,0,0,0]) (P43 [1,1,1,1,0,1,0,0,0,1]) := by kernel_rfl
theorem k43_22 : P43 [1,1,1,1,0,1,0,0,0,0] = .region 6 (O43 [1,1,1,1,0,1,0,0,0,0]) false := by kernel_rfl
theorem r43_6 {x6 : Int} {M : Mem} {call : CallM} {K : Array Value → Mem → R} :
    opsK Try.prog (fun _ => call) (O43 [1,1,1,1,0,1,0,0,0,0]) (O43 [1,1,1,1,0,1,0,0,0,0]).toList 0 #[g0,g1,g2,g3,g4,g5,.int .i64 x6,g7,g8,g9,g10,g11,g12,g13,g14,g15,g16,g17,g18,g19,g20,g21,g22,g23,g24,g25,g26,g27,g28,g29,g30,g31,g32,g33,g34,g35,g36,g37,g38,g39,g40,g41,g42,g43,g44,g45,g46,g47,g48,g49,g50,g51,g52,g53,g54,g55,g56,g57,g58,g59,g60,g61,g62,g63,g64,g65,g66,g67] M K = K #[g0,g1,g2,g3,g4,g5,.int .i64 x6,g7,g8,g9,g10,g11,g12,g13,g14,.int .i64 x6,.bool (decide (x6 < 5)),g17,g18,g19,g20,g21,g22,g23,g24,g25,g26,g27,g28,g29,g30,g31,g32,g33,g34,g35,g36,g37,g38,g39,g40,g41,g42,g43,g44,g45,g46,g47,g48,g49,g50,g51,g52,g53,g54,g55,g56,g57,g58,g59,g60,g61,g62,g63,g64,g65,g66,g67] M := by kernel_rfl
theorem c43_23 : P43 [1,1,1,1,0,1,0,0,0,1] = .cond (.tmp 16) (P43 [1,1,1,1,0,1,0,0,0,1,0]) (P43 [1,1,1,1,0,1,0,0,0,1,1]) := by kernel_rfl
theorem k43_24 : P43 [1,1,1,1,0,1,0,0,0,1,0] = .skip := by kernel_rfl
theorem k43_25 : P43 [1,1,1,1,0,1,0,0,1] = .seq (P43 [1,1,1,1,0,1,0,0,1,0]) (P43 [1,1,1,1,0,1,0,0,1,1]) := by kernel_rfl
theorem k43_26 : P43 [1,1,1,1,0,1,0,0,1,0] = .block 1 (P43 [1,1,1,1,0,1,0,0,1,0,0]) := by kernel_rfl
theorem k43_27 : P43 [1,1,1,1,0,1,0,0,1,0,0] = .seq (P43 [1,1,1,1,0,1,0,0,1,0,0,0]) (P43 [1,1,1,1,0,1,0,0,1,0,0,1]) := by kernel_rfl
theorem k43_28 : P43 [1,1,1,1,0,1,0,0,1,0,0,0] = .region 8 (O43 [1,1,1,1,0,1,0,0,1,0,0,0]) false := by kernel_rfl
theorem r43_8 {x0 : Option Addr} {x6 : Int} {M : Mem} {call : CallM} {K : Array Value → Mem → R} :
    opsK Try.prog (fun _ => call) (O43 [1,1,1,1,0,1,0,0,1,0,0,0]) (O43 [1,1,1,1,0,1,0,0,1,0,0,0]).toList 0 #[.pointer x0,g1,g2,g3,g4,g5,.int .i64 x6,g7,g8,g9,g10,g11,g12,g13,g14,g15,g16,g17,g18,g19,g20,g21,g22,g23,g24,g25,g26,g27,g28,g29,g30,g31,g32,g33,g34,g35,g36,g37,g38,g39,g40,g41,g42,g43,g44,g45,g46,g47,g48,g49,g50,g51,g52,g53,g54,g55,g56,g57,g58,g59,g60,g61,g62,g63,g64,g65,g66,g67] M K = (x0).bind fun a_1 => (M.intAt .i64 a_1.block (a_1.off + 1)).bind fun x_2 => K #[.pointer x0,g1,g2,g3,g4,g5,.int .i64 x6,.int .i64 (IntKind.i64.wrap (x_2 + (IntKind.i64.wrap (8 * x6)))),g8,g9,g10,g11,g12,g13,g14,g15,g16,g17,g18,.pointer x0,.pointer (some a_1),.pointer (some ⟨a_1.block, a_1.off + 1, none⟩),.int .i64 x_2,.int .i64 x6,.int .i64 (IntKind.i64.wrap (8 * x6)),.int .i64 (IntKind.i64.wrap (x_2 + (IntKind.i64.wrap (8 * x6)))),g26,g27,g28,g29,g30,g31,g32,g33,g34,g35,g36,g37,g38,g39,g40,g41,g42,g43,g44,g45,g46,g47,g48,g49,g50,g51,g52,g53,g54,g55,g56,g57,g58,g59,g60,g61,g62,g63,g64,g65,g66,g67] M := by kernel_rfl
theorem k43_29 : P43 [1,1,1,1,0,1,0,0,1,0,0,1] = .seq (P43 [1,1,1,1,0,1,0,0,1,0,0,1,0]) (P43 [1,1,1,1,0,1,0,0,1,0,0,1,1]) := by kernel_rfl
theorem k43_30 : P43 [1,1,1,1,0,1,0,0,1,0,0,1,0] = .seq (P43 [1,1,1,1,0,1,0,0,1,0,0,1,0,0]) (P43 [1,1,1,1,0,1,0,0,1,0,0,1,0,1]) := by kernel_rfl
theorem k43_31 : P43 [1,1,1,1,0,1,0,0,1,0,0,1,0,0] = .region 9 (O43 [1,1,1,1,0,1,0,0,1,0,0,1,0,0]) false := by kernel_rfl
theorem r43_9 {x0 : Option Addr} {x7 : Int} {M : Mem} {call : CallM} {K : Array Value → Mem → R} :
    opsK Try.prog (fun _ => call) (O43 [1,1,1,1,0,1,0,0,1,0,0,1,0,0]) (O43 [1,1,1,1,0,1,0,0,1,0,0,1,0,0]).toList 0 #[.pointer x0,g1,g2,g3,g4,g5,g6,.int .i64 x7,g8,g9,g10,g11,g12,g13,g14,g15,g16,g17,g18,g19,g20,g21,g22,g23,g24,g25,g26,g27,g28,g29,g30,g31,g32,g33,g34,g35,g36,g37,g38,g39,g40,g41,g42,g43,g44,g45,g46,g47,g48,g49,g50,g51,g52,g53,g54,g55,g56,g57,g58,g59,g60,g61,g62,g63,g64,g65,g66,g67] M K = (x0).bind fun a_1 => (M.slAt a_1.block a_1.off).bind fun s_2 => K #[.pointer x0,g1,g2,g3,g4,g5,g6,.int .i64 x7,g8,g9,g10,g11,g12,g13,g14,g15,g16,g17,g18,g19,g20,g21,g22,g23,g24,g25,.int .i64 x7,.int .i64 (IntKind.i64.wrap (x7 + 8)),.pointer x0,.pointer (some a_1),.pointer (some ⟨a_1.block, a_1.off, none⟩),.slice s_2.1 (s_2.2.1) (s_2.2.2),.int .i64 ((s_2.2.1 : Int)),.bool (decide ((IntKind.i64.wrap (x7 + 8)) > ((s_2.2.1 : Int)))),g34,g35,g36,g37,g38,g39,g40,g41,g42,g43,g44,g45,g46,g47,g48,g49,g50,g51,g52,g53,g54,g55,g56,g57,g58,g59,g60,g61,g62,g63,g64,g65,g66,g67] M := by kernel_rfl
theorem c43_32 : P43 [1,1,1,1,0,1,0,0,1,0,0,1,0,1] = .cond (.tmp 33) (P43 [1,1,1,1,0,1,0,0,1,0,0,1,0,1,0]) (P43 [1,1,1,1,0,1,0,0,1,0,0,1,0,1,1]) := by kernel_rfl
theorem k43_33 : P43 [1,1,1,1,0,1,0,0,1,0,0,1,0,1,0] = .seq (P43 [1,1,1,1,0,1,0,0,1,0,0,1,0,1,0,0]) (P43 [1,1,1,1,0,1,0,0,1,0,0,1,0,1,0,1]) := by kernel_rfl
theorem k43_34 : P43 [1,1,1,1,0,1,0,0,1,0,0,1,0,1,0,0] = .region 10 (O43 [1,1,1,1,0,1,0,0,1,0,0,1,0,1,0,0]) false := by kernel_rfl
theorem r43_10 {M : Mem} {call : CallM} {K : Array Value → Mem → R} :
    opsK Try.prog (fun _ => call) (O43 [1,1,1,1,0,1,0,0,1,0,0,1,0,1,0,0]) (O43 [1,1,1,1,0,1,0,0,1,0,0,1,0,1,0,0]).toList 0 #[g0,g1,g2,g3,g4,g5,g6,g7,g8,g9,g10,g11,g12,g13,g14,g15,g16,g17,g18,g19,g20,g21,g22,g23,g24,g25,g26,g27,g28,g29,g30,g31,g32,g33,g34,g35,g36,g37,g38,g39,g40,g41,g42,g43,g44,g45,g46,g47,g48,g49,g50,g51,g52,g53,g54,g55,g56,g57,g58,g59,g60,g61,g62,g63,g64,g65,g66,g67] M K = K #[g0,g1,.int .u32 0,.int .i64 3,g4,g5,g6,g7,g8,g9,g10,g11,g12,g13,g14,g15,g16,g17,g18,g19,g20,g21,g22,g23,g24,g25,g26,g27,g28,g29,g30,g31,g32,g33,g34,g35,g36,g37,g38,g39,g40,g41,g42,g43,g44,g45,g46,g47,g48,g49,g50,g51,g52,g53,g54,g55,g56,g57,g58,g59,g60,g61,g62,g63,g64,g65,g66,g67] M := by kernel_rfl
theorem k43_35 : P43 [1,1,1,1,0,1,0,0,1,0,0,1,0,1,0,1] = .ret := by kernel_rfl
theorem k43_36 : P43 [1,1,1,1,0,1,0,0,1,0,0,1,0,1,1] = .skip := by kernel_rfl
theorem k43_37 : P43 [1,1,1,1,0,1,0,0,1,0,0,1,1] = .seq (P43 [1,1,1,1,0,1,0,0,1,0,0,1,1,0]) (P43 [1,1,1,1,0,1,0,0,1,0,0,1,1,1]) := by kernel_rfl
theorem k43_38 : P43 [1,1,1,1,0,1,0,0,1,0,0,1,1,0] = .region 11 (O43 [1,1,1,1,0,1,0,0,1,0,0,1,1,0]) false := by kernel_rfl
theorem r43_11 {x0 : Option Addr} {x7 : Int} {M : Mem} {call : CallM} {K : Array Value → Mem → R} :
    opsK Try.prog (fun _ => call) (O43 [1,1,1,1,0,1,0,0,1,0,0,1,1,0]) (O43 [1,1,1,1,0,1,0,0,1,0,0,1,1,0]).toList 0 #[.pointer x0,g1,g2,g3,g4,g5,g6,.int .i64 x7,g8,g9,g10,g11,g12,g13,g14,g15,g16,g17,g18,g19,g20,g21,g22,g23,g24,g25,g26,g27,g28,g29,g30,g31,g32,g33,g34,g35,g36,g37,g38,g39,g40,g41,g42,g43,g44,g45,g46,g47,g48,g49,g50,g51,g52,g53,g54,g55,g56,g57,g58,g59,g60,g61,g62,g63,g64,g65,g66,g67] M K = (call 53 #[.pointer x0, .int .i64 x7, .int .i64 8] M).bind fun r_1 => (asI .u64 r_1.1).bind fun x_2 => K #[.pointer x0,g1,g2,g3,g4,g5,g6,.int .i64 x7,.int .u64 x_2,g9,g10,g11,g12,g13,g14,g15,g16,g17,g18,g19,g20,g21,g22,g23,g24,g25,g26,g27,g28,g29,g30,g31,g32,g33,.pointer x0,.int .i64 x7,.int .u64 x_2,g37,g38,g39,g40,g41,g42,g43,g44,g45,g46,g47,g48,g49,g50,g51,g52,g53,g54,g55,g56,g57,g58,g59,g60,g61,g62,g63,g64,g65,g66,g67] r_1.2 := by kernel_rfl
theorem k43_39 : P43 [1,1,1,1,0,1,0,0,1,0,0,1,1,1] = .seq (P43 [1,1,1,1,0,1,0,0,1,0,0,1,1,1,0]) (P43 [1,1,1,1,0,1,0,0,1,0,0,1,1,1,1]) := by kernel_rfl
theorem k43_40 : P43 [1,1,1,1,0,1,0,0,1,0,0,1,1,1,0] = .seq (P43 [1,1,1,1,0,1,0,0,1,0,0,1,1,1,0,0]) (P43 [1,1,1,1,0,1,0,0,1,0,0,1,1,1,0,1]) := by kernel_rfl
theorem k43_41 : P43 [1,1,1,1,0,1,0,0,1,0,0,1,1,1,0,0] = .region 12 (O43 [1,1,1,1,0,1,0,0,1,0,0,1,1,1,0,0]) false := by kernel_rfl
theorem r43_12 {x6 x8 : Int} {M : Mem} {call : CallM} {K : Array Value → Mem → R} :
    opsK Try.prog (fun _ => call) (O43 [1,1,1,1,0,1,0,0,1,0,0,1,1,1,0,0]) (O43 [1,1,1,1,0,1,0,0,1,0,0,1,1,1,0,0]).toList 0 #[g0,g1,g2,g3,g4,g5,.int .i64 x6,g7,.int .u64 x8,g9,g10,g11,g12,g13,g14,g15,g16,g17,g18,g19,g20,g21,g22,g23,g24,g25,g26,g27,g28,g29,g30,g31,g32,g33,g34,g35,g36,g37,g38,g39,g40,g41,g42,g43,g44,g45,g46,g47,g48,g49,g50,g51,g52,g53,g54,g55,g56,g57,g58,g59,g60,g61,g62,g63,g64,g65,g66,g67] M K = withK (fun w39 w40 w41 w42 w43 w44 w45 w46 w47 w48 w49 w50 M => K #[g0,g1,g2,g3,g4,g5,.int .i64 x6,g7,.int .u64 x8,g9,g10,g11,g12,g13,g14,g15,g16,g17,g18,g19,g20,g21,g22,g23,g24,g25,g26,g27,g28,g29,g30,g31,g32,g33,g34,g35,g36,.int .i64 x6,.bool (x6 == 4),w39,w40,w41,w42,w43,w44,w45,w46,w47,w48,w49,w50,g51,g52,g53,g54,g55,g56,g57,g58,g59,g60,g61,g62,g63,g64,g65,g66,g67] M) fun k => cond (x6 == 4) (cond (decide (x8 > 15)) (k (.bool true) (.int .u64 x8) (.bool (decide (x8 > 15))) (.bool (decide (x8 > 15))) (.bool true) undef undef undef undef undef undef (.bool true) M) (cond (decide (x6 > 0)) (k (.bool true) (.int .u64 x8) (.bool (decide (x8 > 15))) (.bool (decide (x8 > 15))) (.bool false) (.int .i64 x6) (.bool (decide (x6 > 0))) (.bool true) (.int .u64 x8) (.bool (x8 == 0)) (.bool (x8 == 0)) (.bool (x8 == 0)) M) (k (.bool true) (.int .u64 x8) (.bool (decide (x8 > 15))) (.bool (decide (x8 > 15))) (.bool false) (.int .i64 x6) (.bool (decide (x6 > 0))) (.bool false) undef undef (.bool false) (.bool false) M))) (cond (decide (x6 > 0)) (k (.bool false) undef undef (.bool false) (.bool false) (.int .i64 x6) (.bool (decide (x6 > 0))) (.bool true) (.int .u64 x8) (.bool (x8 == 0)) (.bool (x8 == 0)) (.bool (x8 == 0)) M) (k (.bool false) undef undef (.bool false) (.bool false) (.int .i64 x6) (.bool (decide (x6 > 0))) (.bool false) undef undef (.bool false) (.bool false) M)) := by kernel_rfl
theorem k43_42 : P43 [1,1,1,1,0,1,0,0,0,1,1] = .exit 0 := by kernel_rfl
theorem c43_43 : P43 [1,1,1,1,0,1,0,0,1,0,0,1,1,1,0,1] = .cond (.tmp 50) (P43 [1,1,1,1,0,1,0,0,1,0,0,1,1,1,0,1,0]) (P43 [1,1,1,1,0,1,0,0,1,0,0,1,1,1,0,1,1]) := by kernel_rfl
theorem k43_44 : P43 [1,1,1,1,0,1,0,0,1,0,0,1,1,1,0,1,0] = .seq (P43 [1,1,1,1,0,1,0,0,1,0,0,1,1,1,0,1,0,0]) (P43 [1,1,1,1,0,1,0,0,1,0,0,1,1,1,0,1,0,1]) := by kernel_rfl
theorem k43_45 : P43 [1,1,1,1,0,1,0,0,1,0,0,1,1,1,0,1,0,0] = .region 13 (O43 [1,1,1,1,0,1,0,0,1,0,0,1,1,1,0,1,0,0]) false := by kernel_rfl
theorem r43_13 {M : Mem} {call : CallM} {K : Array Value → Mem → R} :
    opsK Try.prog (fun _ => call) (O43 [1,1,1,1,0,1,0,0,1,0,0,1,1,1,0,1,0,0]) (O43 [1,1,1,1,0,1,0,0,1,0,0,1,1,1,0,1,0,0]).toList 0 #[g0,g1,g2,g3,g4,g5,g6,g7,g8,g9,g10,g11,g12,g13,g14,g15,g16,g17,g18,g19,g20,g21,g22,g23,g24,g25,g26,g27,g28,g29,g30,g31,g32,g33,g34,g35,g36,g37,g38,g39,g40,g41,g42,g43,g44,g45,g46,g47,g48,g49,g50,g51,g52,g53,g54,g55,g56,g57,g58,g59,g60,g61,g62,g63,g64,g65,g66,g67] M K = K #[g0,g1,.int .u32 0,.int .i64 4,g4,g5,g6,g7,g8,g9,g10,g11,g12,g13,g14,g15,g16,g17,g18,g19,g20,g21,g22,g23,g24,g25,g26,g27,g28,g29,g30,g31,g32,g33,g34,g35,g36,g37,g38,g39,g40,g41,g42,g43,g44,g45,g46,g47,g48,g49,g50,g51,g52,g53,g54,g55,g56,g57,g58,g59,g60,g61,g62,g63,g64,g65,g66,g67] M := by kernel_rfl
theorem k43_46 : P43 [1,1,1,1,0,1,0,0,1,0,0,1,1,1,0,1,0,1] = .ret := by kernel_rfl
theorem k43_47 : P43 [1,1,1,1,0,1,0,0,1,0,0,1,1,1,0,1,1] = .skip := by kernel_rfl
theorem k43_48 : P43 [1,1,1,1,0,1,0,0,1,0,0,1,1,1,1] = .seq (P43 [1,1,1,1,0,1,0,0,1,0,0,1,1,1,1,0]) (P43 [1,1,1,1,0,1,0,0,1,0,0,1,1,1,1,1]) := by kernel_rfl
theorem k43_49 : P43 [1,1,1,1,0,1,0,0,1,0,0,1,1,1,1,0] = .region 14 (O43 [1,1,1,1,0,1,0,0,1,0,0,1,1,1,1,0]) false := by kernel_rfl
theorem r43_14 {x4 x5 x8 : Int} {M : Mem} {call : CallM} {K : Array Value → Mem → R} :
    opsK Try.prog (fun _ => call) (O43 [1,1,1,1,0,1,0,0,1,0,0,1,1,1,1,0]) (O43 [1,1,1,1,0,1,0,0,1,0,0,1,1,1,1,0]).toList 0 #[g0,g1,g2,g3,.int .u64 x4,.int .u64 x5,g6,g7,.int .u64 x8,g9,g10,g11,g12,g13,g14,g15,g16,g17,g18,g19,g20,g21,g22,g23,g24,g25,g26,g27,g28,g29,g30,g31,g32,g33,g34,g35,g36,g37,g38,g39,g40,g41,g42,g43,g44,g45,g46,g47,g48,g49,g50,g51,g52,g53,g54,g55,g56,g57,g58,g59,g60,g61,g62,g63,g64,g65,g66,g67] M K = K #[g0,g1,g2,g3,.int .u64 (IntKind.u64.wrap (x4 + (IntKind.u64.wrap ((x8.tmod 128) * x5)))),.int .u64 x5,g6,g7,.int .u64 x8,g9,g10,g11,g12,g13,g14,g15,g16,g17,g18,g19,g20,g21,g22,g23,g24,g25,g26,g27,g28,g29,g30,g31,g32,g33,g34,g35,g36,g37,g38,g39,g40,g41,g42,g43,g44,g45,g46,g47,g48,g49,g50,.int .u64 x4,.int .u64 x8,.int .u64 (x8.tmod 128),.int .u64 x5,.int .u64 (IntKind.u64.wrap ((x8.tmod 128) * x5)),.int .u64 (IntKind.u64.wrap (x4 + (IntKind.u64.wrap ((x8.tmod 128) * x5)))),g57,g58,g59,g60,g61,g62,g63,g64,g65,g66,g67] M := by kernel_rfl
theorem k43_50 : P43 [1,1,1,1,0,1,0,0,1,0,0,1,1,1,1,1] = .seq (P43 [1,1,1,1,0,1,0,0,1,0,0,1,1,1,1,1,0]) (P43 [1,1,1,1,0,1,0,0,1,0,0,1,1,1,1,1,1]) := by kernel_rfl
theorem k43_51 : P43 [1,1,1,1,0,1,0,0,1,0,0,1,1,1,1,1,0] = .region 15 (O43 [1,1,1,1,0,1,0,0,1,0,0,1,1,1,1,1,0]) false := by kernel_rfl
theorem r43_15 {x5 : Int} {M : Mem} {call : CallM} {K : Array Value → Mem → R} :
    opsK Try.prog (fun _ => call) (O43 [1,1,1,1,0,1,0,0,1,0,0,1,1,1,1,1,0]) (O43 [1,1,1,1,0,1,0,0,1,0,0,1,1,1,1,1,0]).toList 0 #[g0,g1,g2,g3,g4,.int .u64 x5,g6,g7,g8,g9,g10,g11,g12,g13,g14,g15,g16,g17,g18,g19,g20,g21,g22,g23,g24,g25,g26,g27,g28,g29,g30,g31,g32,g33,g34,g35,g36,g37,g38,g39,g40,g41,g42,g43,g44,g45,g46,g47,g48,g49,g50,g51,g52,g53,g54,g55,g56,g57,g58,g59,g60,g61,g62,g63,g64,g65,g66,g67] M K = K #[g0,g1,g2,g3,g4,.int .u64 (IntKind.u64.wrap (x5 * 128)),g6,g7,g8,g9,g10,g11,g12,g13,g14,g15,g16,g17,g18,g19,g20,g21,g22,g23,g24,g25,g26,g27,g28,g29,g30,g31,g32,g33,g34,g35,g36,g37,g38,g39,g40,g41,g42,g43,g44,g45,g46,g47,g48,g49,g50,g51,g52,g53,g54,g55,g56,.int .u64 x5,.int .u64 (IntKind.u64.wrap (x5 * 128)),g59,g60,g61,g62,g63,g64,g65,g66,g67] M := by kernel_rfl
theorem k43_52 : P43 [1,1,1,1,0,1,0,0,1,0,0,1,1,1,1,1,1] = .seq (P43 [1,1,1,1,0,1,0,0,1,0,0,1,1,1,1,1,1,0]) (P43 [1,1,1,1,0,1,0,0,1,0,0,1,1,1,1,1,1,1]) := by kernel_rfl
theorem k43_53 : P43 [1,1,1,1,0,1,0,0,1,0,0,1,1,1,1,1,1,0] = .region 16 (O43 [1,1,1,1,0,1,0,0,1,0,0,1,1,1,1,1,1,0]) false := by kernel_rfl
theorem r43_16 {x8 : Int} {M : Mem} {call : CallM} {K : Array Value → Mem → R} :
    opsK Try.prog (fun _ => call) (O43 [1,1,1,1,0,1,0,0,1,0,0,1,1,1,1,1,1,0]) (O43 [1,1,1,1,0,1,0,0,1,0,0,1,1,1,1,1,1,0]).toList 0 #[g0,g1,g2,g3,g4,g5,g6,g7,.int .u64 x8,g9,g10,g11,g12,g13,g14,g15,g16,g17,g18,g19,g20,g21,g22,g23,g24,g25,g26,g27,g28,g29,g30,g31,g32,g33,g34,g35,g36,g37,g38,g39,g40,g41,g42,g43,g44,g45,g46,g47,g48,g49,g50,g51,g52,g53,g54,g55,g56,g57,g58,g59,g60,g61,g62,g63,g64,g65,g66,g67] M K = K #[g0,g1,g2,g3,g4,g5,g6,g7,.int .u64 x8,g9,g10,g11,g12,g13,g14,g15,g16,g17,g18,g19,g20,g21,g22,g23,g24,g25,g26,g27,g28,g29,g30,g31,g32,g33,g34,g35,g36,g37,g38,g39,g40,g41,g42,g43,g44,g45,g46,g47,g48,g49,g50,g51,g52,g53,g54,g55,g56,g57,g58,.int .u64 x8,.bool (decide (x8 < 128)),g61,g62,g63,g64,g65,g66,g67] M := by kernel_rfl
theorem c43_54 : P43 [1,1,1,1,0,1,0,0,1,0,0,1,1,1,1,1,1,1] = .cond (.tmp 60) (P43 [1,1,1,1,0,1,0,0,1,0,0,1,1,1,1,1,1,1,0]) (P43 [1,1,1,1,0,1,0,0,1,0,0,1,1,1,1,1,1,1,1]) := by kernel_rfl
theorem k43_55 : P43 [1,1,1,1,0,1,0,0,1,0,0,1,1,1,1,1,1,1,0] = .seq (P43 [1,1,1,1,0,1,0,0,1,0,0,1,1,1,1,1,1,1,0,0]) (P43 [1,1,1,1,0,1,0,0,1,0,0,1,1,1,1,1,1,1,0,1]) := by kernel_rfl
theorem k43_56 : P43 [1,1,1,1,0,1,0,0,1,0,0,1,1,1,1,1,1,1,0,0] = .region 17 (O43 [1,1,1,1,0,1,0,0,1,0,0,1,1,1,1,1,1,1,0,0]) false := by kernel_rfl
theorem r43_17 {x0 : Option Addr} {x7 : Int} {M : Mem} {call : CallM} {K : Array Value → Mem → R} :
    opsK Try.prog (fun _ => call) (O43 [1,1,1,1,0,1,0,0,1,0,0,1,1,1,1,1,1,1,0,0]) (O43 [1,1,1,1,0,1,0,0,1,0,0,1,1,1,1,1,1,1,0,0]).toList 0 #[.pointer x0,g1,g2,g3,g4,g5,g6,.int .i64 x7,g8,g9,g10,g11,g12,g13,g14,g15,g16,g17,g18,g19,g20,g21,g22,g23,g24,g25,g26,g27,g28,g29,g30,g31,g32,g33,g34,g35,g36,g37,g38,g39,g40,g41,g42,g43,g44,g45,g46,g47,g48,g49,g50,g51,g52,g53,g54,g55,g56,g57,g58,g59,g60,g61,g62,g63,g64,g65,g66,g67] M K = (x0).bind fun a_1 => (M.put a_1.block (a_1.off + 1) (.int .i64 (IntKind.i64.wrap (x7 + 8)))).bind fun M_2 => K #[.pointer x0,g1,g2,g3,g4,g5,g6,.int .i64 x7,g8,g9,g10,g11,g12,g13,g14,g15,g16,g17,g18,g19,g20,g21,g22,g23,g24,g25,g26,g27,g28,g29,g30,g31,g32,g33,g34,g35,g36,g37,g38,g39,g40,g41,g42,g43,g44,g45,g46,g47,g48,g49,g50,g51,g52,g53,g54,g55,g56,g57,g58,g59,g60,.pointer x0,.int .i64 x7,.int .i64 (IntKind.i64.wrap (x7 + 8)),.pointer (some a_1),.pointer (some ⟨a_1.block, a_1.off + 1, none⟩),g66,g67] M_2 := by kernel_rfl
theorem k43_57 : P43 [1,1,1,1,0,1,0,0,1,0,0,1,1,1,1,1,1,1,0,1] = .exit 0 := by kernel_rfl
theorem k43_58 : P43 [1,1,1,1,0,1,0,0,1,0,0,1,1,1,1,1,1,1,1] = .skip := by kernel_rfl
theorem k43_59 : P43 [1,1,1,1,0,1,0,0,1,1] = .region 7 (O43 [1,1,1,1,0,1,0,0,1,1]) false := by kernel_rfl
theorem r43_7 {x6 : Int} {M : Mem} {call : CallM} {K : Array Value → Mem → R} :
    opsK Try.prog (fun _ => call) (O43 [1,1,1,1,0,1,0,0,1,1]) (O43 [1,1,1,1,0,1,0,0,1,1]).toList 0 #[g0,g1,g2,g3,g4,g5,.int .i64 x6,g7,g8,g9,g10,g11,g12,g13,g14,g15,g16,g17,g18,g19,g20,g21,g22,g23,g24,g25,g26,g27,g28,g29,g30,g31,g32,g33,g34,g35,g36,g37,g38,g39,g40,g41,g42,g43,g44,g45,g46,g47,g48,g49,g50,g51,g52,g53,g54,g55,g56,g57,g58,g59,g60,g61,g62,g63,g64,g65,g66,g67] M K = K #[g0,g1,g2,g3,g4,g5,.int .i64 (IntKind.i64.wrap (x6 + 1)),g7,g8,g9,g10,g11,g12,g13,g14,g15,g16,.int .i64 x6,.int .i64 (IntKind.i64.wrap (x6 + 1)),g19,g20,g21,g22,g23,g24,g25,g26,g27,g28,g29,g30,g31,g32,g33,g34,g35,g36,g37,g38,g39,g40,g41,g42,g43,g44,g45,g46,g47,g48,g49,g50,g51,g52,g53,g54,g55,g56,g57,g58,g59,g60,g61,g62,g63,g64,g65,g66,g67] M := by kernel_rfl
theorem k43_60 : P43 [1,1,1,1,1] = .seq (P43 [1,1,1,1,1,0]) (P43 [1,1,1,1,1,1]) := by kernel_rfl
theorem k43_61 : P43 [1,1,1,1,1,0] = .region 18 (O43 [1,1,1,1,1,0]) false := by kernel_rfl
theorem r43_18 {x4 : Int} {M : Mem} {call : CallM} {K : Array Value → Mem → R} :
    opsK Try.prog (fun _ => call) (O43 [1,1,1,1,1,0]) (O43 [1,1,1,1,1,0]).toList 0 #[g0,g1,g2,g3,.int .u64 x4,g5,g6,g7,g8,g9,g10,g11,g12,g13,g14,g15,g16,g17,g18,g19,g20,g21,g22,g23,g24,g25,g26,g27,g28,g29,g30,g31,g32,g33,g34,g35,g36,g37,g38,g39,g40,g41,g42,g43,g44,g45,g46,g47,g48,g49,g50,g51,g52,g53,g54,g55,g56,g57,g58,g59,g60,g61,g62,g63,g64,g65,g66,g67] M K = K #[g0,g1,.int .u32 (IntKind.u32.wrap (x4)),.int .i64 0,.int .u64 x4,g5,g6,g7,g8,g9,g10,g11,g12,g13,g14,g15,g16,g17,g18,g19,g20,g21,g22,g23,g24,g25,g26,g27,g28,g29,g30,g31,g32,g33,g34,g35,g36,g37,g38,g39,g40,g41,g42,g43,g44,g45,g46,g47,g48,g49,g50,g51,g52,g53,g54,g55,g56,g57,g58,g59,g60,g61,g62,g63,g64,g65,.int .u64 x4,.int .u32 (IntKind.u32.wrap (x4))] M := by kernel_rfl
theorem k43_62 : P43 [1,1,1,1,1,1] = .ret := by kernel_rfl
noncomputable def S43_1 : List Item := [.code (P43 [1,1,1,1,0,1,0,0]), .inLoop (P43 [1,1,1,1,0,1,0,0]), .inBlock 0, .code (P43 [1,1,1,1,1])]
def A43_1 (x0 : Option Addr) (x4 x5 x6 : Int) (M : Mem) (Q : Value → Mem → Prop) : Prop := ∀ (g1 g2 g3 g7 g8 g9 g10 g11 g12 g13 g14 g15 g16 g17 g18 g19 g20 g21 g22 g23 g24 g25 g26 g27 g28 g29 g30 g31 g32 g33 g34 g35 g36 g37 g38 g39 g40 g41 g42 g43 g44 g45 g46 g47 g48 g49 g50 g51 g52 g53 g54 g55 g56 g57 g58 g59 g60 g61 g62 g63 g64 g65 g66 g67 : Value), Rn Try.prog Try.f43 S43_1 #[.pointer x0, g1, g2, g3, .int .u64 x4, .int .u64 x5, .int .i64 x6, g7, g8, g9, g10, g11, g12, g13, g14, g15, g16, g17, g18, g19, g20, g21, g22, g23, g24, g25, g26, g27, g28, g29, g30, g31, g32, g33, g34, g35, g36, g37, g38, g39, g40, g41, g42, g43, g44, g45, g46, g47, g48, g49, g50, g51, g52, g53, g54, g55, g56, g57, g58, g59, g60, g61, g62, g63, g64, g65, g66, g67] M Q
noncomputable def S43_2 : List Item := [.code (P43 [1,1,1,1,0,1,0,0,1,0,0,1,1,1,0,1]), .code (P43 [1,1,1,1,0,1,0,0,1,0,0,1,1,1,1]), .inBlock 1, .code (P43 [1,1,1,1,0,1,0,0,1,1]), .inLoop (P43 [1,1,1,1,0,1,0,0]), .inBlock 0, .code (P43 [1,1,1,1,1])]
def A43_2 (x0 : Option Addr) (x4 x5 x6 x7 x8 : Int) (x50 : Bool) (M : Mem) (Q : Value → Mem → Prop) : Prop := ∀ (g1 g2 g3 g9 g10 g11 g12 g13 g14 g15 g16 g17 g18 g19 g20 g21 g22 g23 g24 g25 g26 g27 g28 g29 g30 g31 g32 g33 g34 g35 g36 g37 g38 g39 g40 g41 g42 g43 g44 g45 g46 g47 g48 g49 g51 g52 g53 g54 g55 g56 g57 g58 g59 g60 g61 g62 g63 g64 g65 g66 g67 : Value), Rn Try.prog Try.f43 S43_2 #[.pointer x0, g1, g2, g3, .int .u64 x4, .int .u64 x5, .int .i64 x6, .int .i64 x7, .int .u64 x8, g9, g10, g11, g12, g13, g14, g15, g16, g17, g18, g19, g20, g21, g22, g23, g24, g25, g26, g27, g28, g29, g30, g31, g32, g33, g34, g35, g36, g37, g38, g39, g40, g41, g42, g43, g44, g45, g46, g47, g48, g49, .bool x50, g51, g52, g53, g54, g55, g56, g57, g58, g59, g60, g61, g62, g63, g64, g65, g66, g67] M Q
noncomputable def S43_3 : List Item := [.code (P43 [1,1,1,1,1])]
def A43_3 (x4 : Int) (M : Mem) (Q : Value → Mem → Prop) : Prop := ∀ (g0 g1 g2 g3 g5 g6 g7 g8 g9 g10 g11 g12 g13 g14 g15 g16 g17 g18 g19 g20 g21 g22 g23 g24 g25 g26 g27 g28 g29 g30 g31 g32 g33 g34 g35 g36 g37 g38 g39 g40 g41 g42 g43 g44 g45 g46 g47 g48 g49 g50 g51 g52 g53 g54 g55 g56 g57 g58 g59 g60 g61 g62 g63 g64 g65 g66 g67 : Value), Rn Try.prog Try.f43 S43_3 #[g0, g1, g2, g3, .int .u64 x4, g5, g6, g7, g8, g9, g10, g11, g12, g13, g14, g15, g16, g17, g18, g19, g20, g21, g22, g23, g24, g25, g26, g27, g28, g29, g30, g31, g32, g33, g34, g35, g36, g37, g38, g39, g40, g41, g42, g43, g44, g45, g46, g47, g48, g49, g50, g51, g52, g53, g54, g55, g56, g57, g58, g59, g60, g61, g62, g63, g64, g65, g66, g67] M Q
theorem w43_0 {x0 : Option Addr} {M : Mem} {Q : Value → Mem → Prop} (H :
    ∃ a1', x0 = some a1' ∧
    ∃ x2', M.intAt .i64 a1'.block (a1'.off + 1) = some x2' ∧
    (((x2'.tmod 8) ≠ 0 →
     Q (.tuple #[.int .u32 0, .int .i64 2]) M) ∧
     ((x2'.tmod 8) = 0 →
     A43_1 x0 0 1 0 M Q))) :
    Cn Try.prog 43 #[.pointer x0] M Q := by
  refine Cn.of b43 d43 t43 ?_
  refine Rn.seq k43_0 (Rn.region k43_1 (fun call K => r43_0) (Rch.leaf (Rn.seq k43_2 (Rn.seq k43_3 (Rn.region k43_4 (fun call K => r43_1) (Rch.ex H fun a1' H => Rch.ex H fun x2' H => Rch.leaf ?_))))))
  refine Rn.cnd (v := (x2'.tmod 8) != 0) ⟨c43_5, rfl, by kernel_rfl⟩ (fun h => ?_) (fun h => ?_)
  · replace H := H.1 (ne_of_bneT h)
    refine Rn.seq k43_6 (Rn.region k43_7 (fun call K => r43_2) (Rch.leaf ?_))
    exact Rn.ret k43_8 e43 H
  · replace H := H.2 (eq_of_bneF h)
    refine Rn.skip k43_10 (Rn.seq k43_11 (Rn.region k43_12 (fun call K => r43_3) (Rch.leaf (Rn.seq k43_13 (Rn.region k43_14 (fun call K => r43_4) (Rch.leaf (Rn.seq k43_15 (Rn.seq k43_16 (Rn.region k43_17 (fun call K => r43_5) (Rch.leaf (Rn.block k43_18 ?_)))))))))))
    refine Rn.loop k43_19 ?_
    exact H _ _ _ _ _ _ _ _ _ _ _ _ _ _ _ _ _ _ _ _ _ _ _ _ _ _ _ _ _ _ _ _ _ _ _ _ _ _ _ _ _ _ _ _ _ _ _ _ _ _ _ _ _ _ _ _ _ _ _ _ _ _ _ _

theorem w43_1 {x0 : Option Addr} {x4 x5 x6 : Int} {M : Mem} {Q : Value → Mem → Prop} (H :
    ((x6 < 5 →
     ∃ a3', x0 = some a3' ∧
     ∃ x4', M.intAt .i64 a3'.block (a3'.off + 1) = some x4' ∧
     ∃ a5', x0 = some a5' ∧
     ∃ s6', M.slAt a5'.block a5'.off = some s6' ∧
     (((IntKind.i64.wrap ((IntKind.i64.wrap (x4' + (IntKind.i64.wrap (8 * x6)))) + 8)) > ((s6'.2.1 : Int)) →
      Q (.tuple #[.int .u32 0, .int .i64 3]) M) ∧
      (¬ ((IntKind.i64.wrap ((IntKind.i64.wrap (x4' + (IntKind.i64.wrap (8 * x6)))) + 8)) > ((s6'.2.1 : Int))) →
      Cn Try.prog 53 #[.pointer x0, .int .i64 (IntKind.i64.wrap (x4' + (IntKind.i64.wrap (8 * x6)))), .int .i64 8] M fun v7' N7' =>
       ∃ x8', asI .u64 v7' = some x8' ∧
       ((x6 = 4 →
        ((x8' > 15 →
         A43_2 x0 x4 x5 x6 (IntKind.i64.wrap (x4' + (IntKind.i64.wrap (8 * x6)))) x8' true N7' Q) ∧
         (¬ (x8' > 15) →
         ((x6 > 0 →
          A43_2 x0 x4 x5 x6 (IntKind.i64.wrap (x4' + (IntKind.i64.wrap (8 * x6)))) x8' (x8' == 0) N7' Q) ∧
          (¬ (x6 > 0) →
          A43_2 x0 x4 x5 x6 (IntKind.i64.wrap (x4' + (IntKind.i64.wrap (8 * x6)))) x8' false N7' Q))))) ∧
        (x6 ≠ 4 →
        ((x6 > 0 →
         A43_2 x0 x4 x5 x6 (IntKind.i64.wrap (x4' + (IntKind.i64.wrap (8 * x6)))) x8' (x8' == 0) N7' Q) ∧
         (¬ (x6 > 0) →
         A43_2 x0 x4 x5 x6 (IntKind.i64.wrap (x4' + (IntKind.i64.wrap (8 * x6)))) x8' false N7' Q))))))) ∧
     (¬ (x6 < 5) →
     A43_3 x4 M Q))) :
    A43_1 x0 x4 x5 x6 M Q := by
  intro g1 g2 g3 g7 g8 g9 g10 g11 g12 g13 g14 g15 g16 g17 g18 g19 g20 g21 g22 g23 g24 g25 g26 g27 g28 g29 g30 g31 g32 g33 g34 g35 g36 g37 g38 g39 g40 g41 g42 g43 g44 g45 g46 g47 g48 g49 g50 g51 g52 g53 g54 g55 g56 g57 g58 g59 g60 g61 g62 g63 g64 g65 g66 g67
  refine Rn.seq k43_20 (Rn.seq k43_21 (Rn.region k43_22 (fun call K => r43_6) (Rch.leaf ?_)))
  refine Rn.cnd (v := decide (x6 < 5)) ⟨c43_23, rfl, by kernel_rfl⟩ (fun h => ?_) (fun h => ?_)
  · replace H := H.1 (of_decide_eq_true h)
    refine Rn.skip k43_24 (Rn.seq k43_25 (Rn.block k43_26 (Rn.seq k43_27 (Rn.region k43_28 (fun call K => r43_8) (Rch.ex H fun a3' H => Rch.ex H fun x4' H => Rch.leaf (Rn.seq k43_29 (Rn.seq k43_30 (Rn.region k43_31 (fun call K => r43_9) (Rch.ex H fun a5' H => ?_)))))))))
    refine Rch.ex H fun s6' H => Rch.leaf ?_
    refine Rn.cnd (v := decide ((IntKind.i64.wrap ((IntKind.i64.wrap (x4' + (IntKind.i64.wrap (8 * x6)))) + 8)) > ((s6'.2.1 : Int)))) ⟨c43_32, rfl, by kernel_rfl⟩ (fun h => ?_) (fun h => ?_)
    · replace H := H.1 (of_decide_eq_true h)
      refine Rn.seq k43_33 (Rn.region k43_34 (fun call K => r43_10) (Rch.leaf ?_))
      exact Rn.ret k43_35 e43 H
    · replace H := H.2 (of_decide_eq_false h)
      refine Rn.skip k43_36 (Rn.seq k43_37 (Rn.region k43_38 (fun call K => r43_11) (Rch.call H fun v7' N7' H => Rch.ex H fun x8' H => Rch.leaf (Rn.seq k43_39 (Rn.seq k43_40 (Rn.region k43_41 (fun call K => r43_12) ?_))))))
      refine Rch.cB (fun h => ?_) (fun h => ?_)
      · replace H := H.1 (eq_of_beq h)
        refine Rch.cB (fun h => ?_) (fun h => ?_)
        · replace H := H.1 (of_decide_eq_true h)
          refine Rch.leaf ?_
          exact H _ _ _ _ _ _ _ _ _ _ _ _ _ _ _ _ _ _ _ _ _ _ _ _ _ _ _ _ _ _ _ _ _ _ _ _ _ _ _ _ _ _ _ _ _ _ _ _ _ _ _ _ _ _ _ _ _ _ _ _ _
        · replace H := H.2 (of_decide_eq_false h)
          refine Rch.cB (fun h => ?_) (fun h => ?_)
          · replace H := H.1 (of_decide_eq_true h)
            refine Rch.leaf ?_
            exact H _ _ _ _ _ _ _ _ _ _ _ _ _ _ _ _ _ _ _ _ _ _ _ _ _ _ _ _ _ _ _ _ _ _ _ _ _ _ _ _ _ _ _ _ _ _ _ _ _ _ _ _ _ _ _ _ _ _ _ _ _
          · replace H := H.2 (of_decide_eq_false h)
            refine Rch.leaf ?_
            exact H _ _ _ _ _ _ _ _ _ _ _ _ _ _ _ _ _ _ _ _ _ _ _ _ _ _ _ _ _ _ _ _ _ _ _ _ _ _ _ _ _ _ _ _ _ _ _ _ _ _ _ _ _ _ _ _ _ _ _ _ _
      · replace H := H.2 (ne_of_beq_false h)
        refine Rch.cB (fun h => ?_) (fun h => ?_)
        · replace H := H.1 (of_decide_eq_true h)
          refine Rch.leaf ?_
          exact H _ _ _ _ _ _ _ _ _ _ _ _ _ _ _ _ _ _ _ _ _ _ _ _ _ _ _ _ _ _ _ _ _ _ _ _ _ _ _ _ _ _ _ _ _ _ _ _ _ _ _ _ _ _ _ _ _ _ _ _ _
        · replace H := H.2 (of_decide_eq_false h)
          refine Rch.leaf ?_
          exact H _ _ _ _ _ _ _ _ _ _ _ _ _ _ _ _ _ _ _ _ _ _ _ _ _ _ _ _ _ _ _ _ _ _ _ _ _ _ _ _ _ _ _ _ _ _ _ _ _ _ _ _ _ _ _ _ _ _ _ _ _
  · replace H := H.2 (of_decide_eq_false h)
    refine Rn.exit k43_42 rfl ?_
    exact H _ _ _ _ _ _ _ _ _ _ _ _ _ _ _ _ _ _ _ _ _ _ _ _ _ _ _ _ _ _ _ _ _ _ _ _ _ _ _ _ _ _ _ _ _ _ _ _ _ _ _ _ _ _ _ _ _ _ _ _ _ _ _ _ _ _ _

theorem w43_2 {x0 : Option Addr} {x4 x5 x6 x7 x8 : Int} {x50 : Bool} {M : Mem} {Q : Value → Mem → Prop} (H :
    ((x50 = true →
     Q (.tuple #[.int .u32 0, .int .i64 4]) M) ∧
     (x50 = false →
     ((x8 < 128 →
      ∃ a9', x0 = some a9' ∧
      ∃ M10', M.put a9'.block (a9'.off + 1) (.int .i64 (IntKind.i64.wrap (x7 + 8))) = some M10' ∧
      A43_3 (IntKind.u64.wrap (x4 + (IntKind.u64.wrap ((x8.tmod 128) * x5)))) M10' Q) ∧
      (¬ (x8 < 128) →
      A43_1 x0 (IntKind.u64.wrap (x4 + (IntKind.u64.wrap ((x8.tmod 128) * x5)))) (IntKind.u64.wrap (x5 * 128)) (IntKind.i64.wrap (x6 + 1)) M Q))))) :
    A43_2 x0 x4 x5 x6 x7 x8 x50 M Q := by
  intro g1 g2 g3 g9 g10 g11 g12 g13 g14 g15 g16 g17 g18 g19 g20 g21 g22 g23 g24 g25 g26 g27 g28 g29 g30 g31 g32 g33 g34 g35 g36 g37 g38 g39 g40 g41 g42 g43 g44 g45 g46 g47 g48 g49 g51 g52 g53 g54 g55 g56 g57 g58 g59 g60 g61 g62 g63 g64 g65 g66 g67
  refine Rn.cnd (v := x50) ⟨c43_43, rfl, by kernel_rfl⟩ (fun h => ?_) (fun h => ?_)
  · replace H := H.1 (h)
    refine Rn.seq k43_44 (Rn.region k43_45 (fun call K => r43_13) (Rch.leaf ?_))
    exact Rn.ret k43_46 e43 H
  · replace H := H.2 (h)
    refine Rn.skip k43_47 (Rn.seq k43_48 (Rn.region k43_49 (fun call K => r43_14) (Rch.leaf (Rn.seq k43_50 (Rn.region k43_51 (fun call K => r43_15) (Rch.leaf (Rn.seq k43_52 (Rn.region k43_53 (fun call K => r43_16) (Rch.leaf ?_)))))))))
    refine Rn.cnd (v := decide (x8 < 128)) ⟨c43_54, rfl, by kernel_rfl⟩ (fun h => ?_) (fun h => ?_)
    · replace H := H.1 (of_decide_eq_true h)
      refine Rn.seq k43_55 (Rn.region k43_56 (fun call K => r43_17) (Rch.ex H fun a9' H => Rch.ex H fun M10' H => Rch.leaf (Rn.exit k43_57 rfl ?_)))
      exact H _ _ _ _ _ _ _ _ _ _ _ _ _ _ _ _ _ _ _ _ _ _ _ _ _ _ _ _ _ _ _ _ _ _ _ _ _ _ _ _ _ _ _ _ _ _ _ _ _ _ _ _ _ _ _ _ _ _ _ _ _ _ _ _ _ _ _
    · replace H := H.2 (of_decide_eq_false h)
      refine Rn.skip k43_58 (Rn.blk (Rn.region k43_59 (fun call K => r43_7) (Rch.leaf (Rn.lp ?_))))
      exact H _ _ _ _ _ _ _ _ _ _ _ _ _ _ _ _ _ _ _ _ _ _ _ _ _ _ _ _ _ _ _ _ _ _ _ _ _ _ _ _ _ _ _ _ _ _ _ _ _ _ _ _ _ _ _ _ _ _ _ _ _ _ _ _

theorem w43_3 {x4 : Int} {M : Mem} {Q : Value → Mem → Prop} (H :
    Q (.tuple #[.int .u32 (IntKind.u32.wrap (x4)), .int .i64 0]) M) :
    A43_3 x4 M Q := by
  intro g0 g1 g2 g3 g5 g6 g7 g8 g9 g10 g11 g12 g13 g14 g15 g16 g17 g18 g19 g20 g21 g22 g23 g24 g25 g26 g27 g28 g29 g30 g31 g32 g33 g34 g35 g36 g37 g38 g39 g40 g41 g42 g43 g44 g45 g46 g47 g48 g49 g50 g51 g52 g53 g54 g55 g56 g57 g58 g59 g60 g61 g62 g63 g64 g65 g66 g67
  refine Rn.seq k43_60 (Rn.region k43_61 (fun call K => r43_18) (Rch.leaf ?_))
  exact Rn.ret k43_62 e43 H


/-! ### zoetrope/zoetroperef01.Write: function 35 -/
noncomputable abbrev P35 (p : List Nat) : Code := subC (codeOf Try.f35) p
noncomputable abbrev O35 (p : List Nat) : Array Oper := opsOf (subC (codeOf Try.f35) p)
theorem b35 : Try.prog.funcs[35]? = some Try.f35 ∧ (Orc.tab Try.prog).lookup 35 = none := ⟨by kernel_rfl, by kernel_rfl⟩
theorem d35 : Try.f35.body = some (P35 []) := by kernel_rfl
theorem t35 : #[] ++ Array.replicate (Try.f35.ntmps - (#[] : Array Value).size) undef = #[undef,undef,undef] := by kernel_rfl
theorem k35_0 : P35 [] = .seq (P35 [0]) (P35 [1]) := by kernel_rfl
theorem k35_1 : P35 [0] = .region 0 (O35 [0]) false := by kernel_rfl
theorem r35_0 {M : Mem} {call : CallM} {K : Array Value → Mem → R} :
    opsK Try.prog (fun _ => call) (O35 [0]) (O35 [0]).toList 0 #[g0,g1,g2] M K = K #[.pointer none,g1,g2] M := by kernel_rfl
theorem k35_2 : P35 [1] = .seq (P35 [1,0]) (P35 [1,1]) := by kernel_rfl
theorem k35_3 : P35 [1,0] = .region 1 (O35 [1,0]) false := by kernel_rfl
theorem r35_1 {M : Mem} {call : CallM} {K : Array Value → Mem → R} :
    opsK Try.prog (fun _ => call) (O35 [1,0]) (O35 [1,0]).toList 0 #[g0,g1,g2] M K = K #[.pointer (some ⟨2 * M.nb.size, 0, none⟩),.agg #[.slice none 0 0],.pointer (some ⟨2 * M.nb.size, 0, none⟩)] (M.new (.cells #[.slice none 0 0] 77)) := by kernel_rfl
theorem k35_4 : P35 [1,1] = .ret := by kernel_rfl
theorem e35 {M : Mem} : finish Try.prog Try.f35 #[g0,g1,g2] M = some (g0, M) := by kernel_rfl
theorem w35_0 {M : Mem} {Q : Value → Mem → Prop} (H :
    Q (.pointer (some ⟨2 * M.nb.size, 0, none⟩)) (M.new (.cells #[.slice none 0 0] 77))) :
    Cn Try.prog 35 #[] M Q := by
  refine Cn.of b35 d35 t35 ?_
  refine Rn.seq k35_0 (Rn.region k35_1 (fun call K => r35_0) (Rch.leaf (Rn.seq k35_2 (Rn.region k35_3 (fun call K => r35_1) (Rch.leaf ?_)))))
  exact Rn.ret k35_4 e35 H


/-! ### (*zoetrope/zoetroperef01.Writer).put: function 48 -/
noncomputable abbrev P48 (p : List Nat) : Code := subC (codeOf Try.f48) p
noncomputable abbrev O48 (p : List Nat) : Array Oper := opsOf (subC (codeOf Try.f48) p)
theorem b48 : Try.prog.funcs[48]? = some Try.f48 ∧ (Orc.tab Try.prog).lookup 48 = none := ⟨by kernel_rfl, by kernel_rfl⟩
theorem d48 : Try.f48.body = some (P48 []) := by kernel_rfl
theorem t48 {x0 : Option Addr} {x1 x2 : Int} : #[.pointer x0,.int .u64 x1,.int .i64 x2] ++ Array.replicate (Try.f48.ntmps - (#[.pointer x0,.int .u64 x1,.int .i64 x2] : Array Value).size) undef = #[.pointer x0,.int .u64 x1,.int .i64 x2,undef,undef,undef,undef,undef,undef,undef,undef,undef,undef,undef,undef,undef,undef,undef,undef,undef,undef,undef,undef,undef,undef,undef,undef] := by kernel_rfl
theorem k48_0 : P48 [] = .seq (P48 [0]) (P48 [1]) := by kernel_rfl
theorem k48_1 : P48 [0] = .region 0 (O48 [0]) false := by kernel_rfl
theorem r48_0 {x2 : Int} {M : Mem} {call : CallM} {K : Array Value → Mem → R} :
    opsK Try.prog (fun _ => call) (O48 [0]) (O48 [0]).toList 0 #[g0,g1,.int .i64 x2,g3,g4,g5,g6,g7,g8,g9,g10,g11,g12,g13,g14,g15,g16,g17,g18,g19,g20,g21,g22,g23,g24,g25,g26] M K = K #[g0,g1,.int .i64 x2,g3,g4,g5,.int .i64 (IntKind.i64.wrap (x2 - 1)),.int .i64 x2,.int .i64 (IntKind.i64.wrap (x2 - 1)),g9,g10,g11,g12,g13,g14,g15,g16,g17,g18,g19,g20,g21,g22,g23,g24,g25,g26] M := by kernel_rfl
theorem k48_2 : P48 [1] = .block 0 (P48 [1,0]) := by kernel_rfl
theorem k48_3 : P48 [1,0] = .loop (P48 [1,0,0]) := by kernel_rfl
theorem k48_4 : P48 [1,0,0] = .seq (P48 [1,0,0,0]) (P48 [1,0,0,1]) := by kernel_rfl
theorem k48_5 : P48 [1,0,0,0] = .seq (P48 [1,0,0,0,0]) (P48 [1,0,0,0,1]) := by kernel_rfl
theorem k48_6 : P48 [1,0,0,0,0] = .region 1 (O48 [1,0,0,0,0]) false := by kernel_rfl
theorem r48_1 {x6 : Int} {M : Mem} {call : CallM} {K : Array Value → Mem → R} :
    opsK Try.prog (fun _ => call) (O48 [1,0,0,0,0]) (O48 [1,0,0,0,0]).toList 0 #[g0,g1,g2,g3,g4,g5,.int .i64 x6,g7,g8,g9,g10,g11,g12,g13,g14,g15,g16,g17,g18,g19,g20,g21,g22,g23,g24,g25,g26] M K = K #[g0,g1,g2,g3,g4,g5,.int .i64 x6,g7,g8,.int .i64 x6,.bool (decide (x6 ≥ 0)),g11,g12,g13,g14,g15,g16,g17,g18,g19,g20,g21,g22,g23,g24,g25,g26] M := by kernel_rfl
theorem c48_7 : P48 [1,0,0,0,1] = .cond (.tmp 10) (P48 [1,0,0,0,1,0]) (P48 [1,0,0,0,1,1]) := by kernel_rfl
theorem k48_8 : P48 [1,0,0,0,1,0] = .skip := by kernel_rfl
theorem k48_9 : P48 [1,0,0,1] = .seq (P48 [1,0,0,1,0]) (P48 [1,0,0,1,1]) := by kernel_rfl
theorem k48_10 : P48 [1,0,0,1,0] = .block 1 (P48 [1,0,0,1,0,0]) := by kernel_rfl
theorem k48_11 : P48 [1,0,0,1,0,0] = .region 3 (O48 [1,0,0,1,0,0]) true ∧ drawOk (O48 [1,0,0,1,0,0]) = true := ⟨by kernel_rfl, by kernel_rfl⟩
theorem r48_3 {x0 : Option Addr} {x1 x6 : Int} {M : Mem} {call : CallM} {K : Array Value → Mem → R} :
    opsI Try.prog (callAt call (O48 [1,0,0,1,0,0])) (O48 [1,0,0,1,0,0]) (ordOf (O48 [1,0,0,1,0,0])) [] #[.pointer x0,.int .u64 x1,g2,g3,g4,g5,.int .i64 x6,g7,g8,g9,g10,g11,g12,g13,g14,g15,g16,g17,g18,g19,g20,g21,g22,g23,g24,g25,g26] M K = (x0).bind fun a_1 => (M.slAt a_1.block a_1.off).bind fun s_2 => (binV Try.prog .shr 74 3 (.int .u64 x1) (.int .i64 x6)).bind fun v_3 => (asI .u64 v_3).bind fun x_4 => (appendP Try.prog #[48, 48] (.slice s_2.1 (s_2.2.1) (s_2.2.2)) (.slice (some ⟨2 * M.nb.size, 0, none⟩) 1 1) (M.new (.cells #[.int .i64 ((IntKind.i64.wrap (x_4)).tmod 2)] 3))).bind fun r_5 => (asS r_5.1).bind fun s_6 => (x0).bind fun a_7 => (r_5.2.put a_7.block a_7.off (.slice s_6.1 (s_6.2.1) (s_6.2.2))).bind fun M_8 => K #[.pointer x0,.int .u64 x1,g2,g3,g4,g5,.int .i64 x6,g7,g8,g9,g10,g11,g12,.pointer x0,.pointer x0,.pointer (some a_1),.pointer (some ⟨a_1.block, a_1.off, none⟩),.slice s_2.1 (s_2.2.1) (s_2.2.2),.int .u64 x1,.int .i64 x6,.int .u64 x_4,.int .i64 (IntKind.i64.wrap (x_4)),.int .i64 ((IntKind.i64.wrap (x_4)).tmod 2),.slice (some ⟨2 * M.nb.size, 0, none⟩) 1 1,.slice s_6.1 (s_6.2.1) (s_6.2.2),.pointer (some a_7),.pointer (some ⟨a_7.block, a_7.off, none⟩)] M_8 := by kernel_rfl
theorem k48_12 : P48 [1,0,0,1,1] = .region 2 (O48 [1,0,0,1,1]) false := by kernel_rfl
theorem r48_2 {x6 : Int} {M : Mem} {call : CallM} {K : Array Value → Mem → R} :
    opsK Try.prog (fun _ => call) (O48 [1,0,0,1,1]) (O48 [1,0,0,1,1]).toList 0 #[g0,g1,g2,g3,g4,g5,.int .i64 x6,g7,g8,g9,g10,g11,g12,g13,g14,g15,g16,g17,g18,g19,g20,g21,g22,g23,g24,g25,g26] M K = K #[g0,g1,g2,g3,g4,g5,.int .i64 (IntKind.i64.wrap (x6 - 1)),g7,g8,g9,g10,.int .i64 x6,.int .i64 (IntKind.i64.wrap (x6 - 1)),g13,g14,g15,g16,g17,g18,g19,g20,g21,g22,g23,g24,g25,g26] M := by kernel_rfl
theorem k48_13 : P48 [1,0,0,0,1,1] = .exit 0 := by kernel_rfl
theorem e48 {M : Mem} : finish Try.prog Try.f48 #[g0,g1,g2,g3,g4,g5,g6,g7,g8,g9,g10,g11,g12,g13,g14,g15,g16,g17,g18,g19,g20,g21,g22,g23,g24,g25,g26] M = some (.tuple #[], M) := by kernel_rfl
noncomputable def S48_1 : List Item := [.code (P48 [1,0,0]), .inLoop (P48 [1,0,0]), .inBlock 0]
def A48_1 (x0 : Option Addr) (x1 x6 : Int) (M : Mem) (Q : Value → Mem → Prop) : Prop := ∀ (g2 g3 g4 g5 g7 g8 g9 g10 g11 g12 g13 g14 g15 g16 g17 g18 g19 g20 g21 g22 g23 g24 g25 g26 : Value), Rn Try.prog Try.f48 S48_1 #[.pointer x0, .int .u64 x1, g2, g3, g4, g5, .int .i64 x6, g7, g8, g9, g10, g11, g12, g13, g14, g15, g16, g17, g18, g19, g20, g21, g22, g23, g24, g25, g26] M Q
theorem w48_0 {x0 : Option Addr} {x1 x2 : Int} {M : Mem} {Q : Value → Mem → Prop} (H :
    A48_1 x0 x1 (IntKind.i64.wrap (x2 - 1)) M Q) :
    Cn Try.prog 48 #[.pointer x0, .int .u64 x1, .int .i64 x2] M Q := by
  refine Cn.of b48 d48 t48 ?_
  refine Rn.seq k48_0 (Rn.region k48_1 (fun call K => r48_0) (Rch.leaf (Rn.block k48_2 (Rn.loop k48_3 ?_))))
  exact H _ _ _ _ _ _ _ _ _ _ _ _ _ _ _ _ _ _ _ _ _ _ _ _

theorem w48_1 {x0 : Option Addr} {x1 x6 : Int} {M : Mem} {Q : Value → Mem → Prop} (H :
    ((x6 ≥ 0 →
     ∃ a1', x0 = some a1' ∧
     ∃ s2', M.slAt a1'.block a1'.off = some s2' ∧
     ∃ v3', binV Try.prog .shr 74 3 (.int .u64 x1) (.int .i64 x6) = some v3' ∧
     ∃ x4', asI .u64 v3' = some x4' ∧
     ∃ r5', appendP Try.prog #[48, 48] (.slice s2'.1 (s2'.2.1) (s2'.2.2)) (.slice (some ⟨2 * M.nb.size, 0, none⟩) 1 1) (M.new (.cells #[.int .i64 ((IntKind.i64.wrap (x4')).tmod 2)] 3)) = some r5' ∧
     ∃ s6', asS r5'.1 = some s6' ∧
     ∃ a7', x0 = some a7' ∧
     ∃ M8', r5'.2.put a7'.block a7'.off (.slice s6'.1 (s6'.2.1) (s6'.2.2)) = some M8' ∧
     A48_1 x0 x1 (IntKind.i64.wrap (x6 - 1)) M8' Q) ∧
     (¬ (x6 ≥ 0) →
     Q (.tuple #[]) M))) :
    A48_1 x0 x1 x6 M Q := by
  intro g2 g3 g4 g5 g7 g8 g9 g10 g11 g12 g13 g14 g15 g16 g17 g18 g19 g20 g21 g22 g23 g24 g25 g26
  refine Rn.seq k48_4 (Rn.seq k48_5 (Rn.region k48_6 (fun call K => r48_1) (Rch.leaf ?_)))
  refine Rn.cnd (v := decide (x6 ≥ 0)) ⟨c48_7, rfl, by kernel_rfl⟩ (fun h => ?_) (fun h => ?_)
  · replace H := H.1 (of_decide_eq_true h)
    refine Rn.skip k48_8 (Rn.seq k48_9 (Rn.block k48_10 (Rn.regionD k48_11 (fun call K => r48_3) (Rch.ex H fun a1' H => Rch.ex H fun s2' H => Rch.ex H fun v3' H => Rch.ex H fun x4' H => Rch.ex H fun r5' H => Rch.ex H fun s6' H => Rch.ex H fun a7' H => Rch.ex H fun M8' H => ?_))))
    refine Rch.leaf (Rn.blk (Rn.region k48_12 (fun call K => r48_2) (Rch.leaf (Rn.lp ?_))))
    exact H _ _ _ _ _ _ _ _ _ _ _ _ _ _ _ _ _ _ _ _ _ _ _ _
  · replace H := H.2 (of_decide_eq_false h)
    refine Rn.exit k48_13 rfl ?_
    exact Rn.fin e48 H


/-! ### (*zoetrope/zoetroperef01.Writer).Leb: function 36 -/
noncomputable abbrev P36 (p : List Nat) : Code := subC (codeOf Try.f36) p
noncomputable abbrev O36 (p : List Nat) : Array Oper := opsOf (subC (codeOf Try.f36) p)
theorem b36 : Try.prog.funcs[36]? = some Try.f36 ∧ (Orc.tab Try.prog).lookup 36 = none := ⟨by kernel_rfl, by kernel_rfl⟩
theorem d36 : Try.f36.body = some (P36 []) := by kernel_rfl
theorem t36 {x0 : Option Addr} {x1 : Int} : #[.pointer x0,.int .u32 x1] ++ Array.replicate (Try.f36.ntmps - (#[.pointer x0,.int .u32 x1] : Array Value).size) undef = #[.pointer x0,.int .u32 x1,undef,undef,undef,undef,undef,undef,undef,undef,undef,undef,undef,undef,undef,undef,undef,undef,undef,undef,undef,undef,undef,undef,undef,undef] := by kernel_rfl
theorem k36_0 : P36 [] = .seq (P36 [0]) (P36 [1]) := by kernel_rfl
theorem k36_1 : P36 [0] = .region 0 (O36 [0]) false := by kernel_rfl
theorem r36_0 {M : Mem} {call : CallM} {K : Array Value → Mem → R} :
    opsK Try.prog (fun _ => call) (O36 [0]) (O36 [0]).toList 0 #[g0,g1,g2,g3,g4,g5,g6,g7,g8,g9,g10,g11,g12,g13,g14,g15,g16,g17,g18,g19,g20,g21,g22,g23,g24,g25] M K = K #[g0,g1,g2,g3,.int .i64 0,g5,g6,g7,g8,g9,g10,g11,g12,g13,g14,g15,g16,g17,g18,g19,g20,g21,g22,g23,g24,g25] M := by kernel_rfl
theorem k36_2 : P36 [1] = .seq (P36 [1,0]) (P36 [1,1]) := by kernel_rfl
theorem k36_3 : P36 [1,0] = .seq (P36 [1,0,0]) (P36 [1,0,1]) := by kernel_rfl
theorem k36_4 : P36 [1,0,0] = .region 1 (O36 [1,0,0]) false := by kernel_rfl
theorem r36_1 {x0 : Option Addr} {M : Mem} {call : CallM} {K : Array Value → Mem → R} :
    opsK Try.prog (fun _ => call) (O36 [1,0,0]) (O36 [1,0,0]).toList 0 #[.pointer x0,g1,g2,g3,g4,g5,g6,g7,g8,g9,g10,g11,g12,g13,g14,g15,g16,g17,g18,g19,g20,g21,g22,g23,g24,g25] M K = (x0).bind fun a_1 => (M.slAt a_1.block a_1.off).bind fun s_2 => K #[.pointer x0,g1,g2,g3,g4,.pointer x0,.pointer (some a_1),.pointer (some ⟨a_1.block, a_1.off, none⟩),.slice s_2.1 (s_2.2.1) (s_2.2.2),.int .i64 ((s_2.2.1 : Int)),.int .i64 (((s_2.2.1 : Int)).tmod 8),.bool ((((s_2.2.1 : Int)).tmod 8) != 0),g12,g13,g14,g15,g16,g17,g18,g19,g20,g21,g22,g23,g24,g25] M := by kernel_rfl
theorem c36_5 : P36 [1,0,1] = .cond (.tmp 11) (P36 [1,0,1,0]) (P36 [1,0,1,1]) := by kernel_rfl
theorem k36_6 : P36 [1,0,1,0] = .seq (P36 [1,0,1,0,0]) (P36 [1,0,1,0,1]) := by kernel_rfl
theorem k36_7 : P36 [1,0,1,0,0] = .region 2 (O36 [1,0,1,0,0]) false := by kernel_rfl
theorem r36_2 {M : Mem} {call : CallM} {K : Array Value → Mem → R} :
    opsK Try.prog (fun _ => call) (O36 [1,0,1,0,0]) (O36 [1,0,1,0,0]).toList 0 #[g0,g1,g2,g3,g4,g5,g6,g7,g8,g9,g10,g11,g12,g13,g14,g15,g16,g17,g18,g19,g20,g21,g22,g23,g24,g25] M K = K #[g0,g1,g2,g3,.int .i64 2,g5,g6,g7,g8,g9,g10,g11,g12,g13,g14,g15,g16,g17,g18,g19,g20,g21,g22,g23,g24,g25] M := by kernel_rfl
theorem k36_8 : P36 [1,0,1,0,1] = .ret := by kernel_rfl
theorem e36 {M : Mem} : finish Try.prog Try.f36 #[g0,g1,g2,g3,g4,g5,g6,g7,g8,g9,g10,g11,g12,g13,g14,g15,g16,g17,g18,g19,g20,g21,g22,g23,g24,g25] M = some (g4, M) := by kernel_rfl
theorem k36_10 : P36 [1,0,1,1] = .skip := by kernel_rfl
theorem k36_11 : P36 [1,1] = .seq (P36 [1,1,0]) (P36 [1,1,1]) := by kernel_rfl
theorem k36_12 : P36 [1,1,0] = .block 0 (P36 [1,1,0,0]) := by kernel_rfl
theorem k36_13 : P36 [1,1,0,0] = .loop (P36 [1,1,0,0,0]) := by kernel_rfl
theorem k36_14 : P36 [1,1,0,0,0] = .seq (P36 [1,1,0,0,0,0]) (P36 [1,1,0,0,0,1]) := by kernel_rfl
theorem k36_15 : P36 [1,1,0,0,0,0] = .seq (P36 [1,1,0,0,0,0,0]) (P36 [1,1,0,0,0,0,1]) := by kernel_rfl
theorem k36_16 : P36 [1,1,0,0,0,0,0] = .region 3 (O36 [1,1,0,0,0,0,0]) false := by kernel_rfl
theorem r36_3 {x1 : Int} {M : Mem} {call : CallM} {K : Array Value → Mem → R} :
    opsK Try.prog (fun _ => call) (O36 [1,1,0,0,0,0,0]) (O36 [1,1,0,0,0,0,0]).toList 0 #[g0,.int .u32 x1,g2,g3,g4,g5,g6,g7,g8,g9,g10,g11,g12,g13,g14,g15,g16,g17,g18,g19,g20,g21,g22,g23,g24,g25] M K = K #[g0,.int .u32 x1,g2,g3,g4,g5,g6,g7,g8,g9,g10,g11,.int .u32 x1,.bool (decide (x1 ≥ 128)),g14,g15,g16,g17,g18,g19,g20,g21,g22,g23,g24,g25] M := by kernel_rfl
theorem c36_17 : P36 [1,1,0,0,0,0,1] = .cond (.tmp 13) (P36 [1,1,0,0,0,0,1,0]) (P36 [1,1,0,0,0,0,1,1]) := by kernel_rfl
theorem k36_18 : P36 [1,1,0,0,0,0,1,0] = .skip := by kernel_rfl
theorem k36_19 : P36 [1,1,0,0,0,1] = .block 1 (P36 [1,1,0,0,0,1,0]) := by kernel_rfl
theorem k36_20 : P36 [1,1,0,0,0,1,0] = .seq (P36 [1,1,0,0,0,1,0,0]) (P36 [1,1,0,0,0,1,0,1]) := by kernel_rfl
theorem k36_21 : P36 [1,1,0,0,0,1,0,0] = .region 4 (O36 [1,1,0,0,0,1,0,0]) false := by kernel_rfl
theorem r36_4 {x0 : Option Addr} {x1 : Int} {M : Mem} {call : CallM} {K : Array Value → Mem → R} :
    opsK Try.prog (fun _ => call) (O36 [1,1,0,0,0,1,0,0]) (O36 [1,1,0,0,0,1,0,0]).toList 0 #[.pointer x0,.int .u32 x1,g2,g3,g4,g5,g6,g7,g8,g9,g10,g11,g12,g13,g14,g15,g16,g17,g18,g19,g20,g21,g22,g23,g24,g25] M K = (call 48 #[.pointer x0, .int .u64 (IntKind.u64.wrap (IntKind.u32.wrap (128 + (x1.tmod 128)))), .int .i64 8] M).bind fun r_1 => K #[.pointer x0,.int .u32 x1,g2,g3,g4,g5,g6,g7,g8,g9,g10,g11,g12,g13,.pointer x0,.int .u32 x1,.int .u32 (x1.tmod 128),.int .u32 (IntKind.u32.wrap (128 + (x1.tmod 128))),.int .u64 (IntKind.u64.wrap (IntKind.u32.wrap (128 + (x1.tmod 128)))),r_1.1,g20,g21,g22,g23,g24,g25] r_1.2 := by kernel_rfl
theorem k36_22 : P36 [1,1,0,0,0,1,0,1] = .region 5 (O36 [1,1,0,0,0,1,0,1]) false := by kernel_rfl
theorem r36_5 {x1 : Int} {M : Mem} {call : CallM} {K : Array Value → Mem → R} :
    opsK Try.prog (fun _ => call) (O36 [1,1,0,0,0,1,0,1]) (O36 [1,1,0,0,0,1,0,1]).toList 0 #[g0,.int .u32 x1,g2,g3,g4,g5,g6,g7,g8,g9,g10,g11,g12,g13,g14,g15,g16,g17,g18,g19,g20,g21,g22,g23,g24,g25] M K = K #[g0,.int .u32 (IntKind.u32.wrap (x1.tdiv 128)),g2,g3,g4,g5,g6,g7,g8,g9,g10,g11,g12,g13,g14,g15,g16,g17,g18,g19,.int .u32 x1,.int .u32 (IntKind.u32.wrap (x1.tdiv 128)),g22,g23,g24,g25] M := by kernel_rfl
theorem k36_23 : P36 [1,1,0,0,0,0,1,1] = .exit 0 := by kernel_rfl
theorem k36_24 : P36 [1,1,1] = .seq (P36 [1,1,1,0]) (P36 [1,1,1,1]) := by kernel_rfl
theorem k36_25 : P36 [1,1,1,0] = .region 6 (O36 [1,1,1,0]) false := by kernel_rfl
theorem r36_6 {x0 : Option Addr} {x1 : Int} {M : Mem} {call : CallM} {K : Array Value → Mem → R} :
    opsK Try.prog (fun _ => call) (O36 [1,1,1,0]) (O36 [1,1,1,0]).toList 0 #[.pointer x0,.int .u32 x1,g2,g3,g4,g5,g6,g7,g8,g9,g10,g11,g12,g13,g14,g15,g16,g17,g18,g19,g20,g21,g22,g23,g24,g25] M K = (call 48 #[.pointer x0, .int .u64 (IntKind.u64.wrap (x1)), .int .i64 8] M).bind fun r_1 => K #[.pointer x0,.int .u32 x1,g2,g3,g4,g5,g6,g7,g8,g9,g10,g11,g12,g13,g14,g15,g16,g17,g18,g19,g20,g21,.pointer x0,.int .u32 x1,.int .u64 (IntKind.u64.wrap (x1)),r_1.1] r_1.2 := by kernel_rfl
theorem k36_26 : P36 [1,1,1,1] = .seq (P36 [1,1,1,1,0]) (P36 [1,1,1,1,1]) := by kernel_rfl
theorem k36_27 : P36 [1,1,1,1,0] = .region 7 (O36 [1,1,1,1,0]) false := by kernel_rfl
theorem r36_7 {M : Mem} {call : CallM} {K : Array Value → Mem → R} :
    opsK Try.prog (fun _ => call) (O36 [1,1,1,1,0]) (O36 [1,1,1,1,0]).toList 0 #[g0,g1,g2,g3,g4,g5,g6,g7,g8,g9,g10,g11,g12,g13,g14,g15,g16,g17,g18,g19,g20,g21,g22,g23,g24,g25] M K = K #[g0,g1,g2,g3,.int .i64 0,g5,g6,g7,g8,g9,g10,g11,g12,g13,g14,g15,g16,g17,g18,g19,g20,g21,g22,g23,g24,g25] M := by kernel_rfl
theorem k36_28 : P36 [1,1,1,1,1] = .ret := by kernel_rfl
noncomputable def S36_1 : List Item := [.code (P36 [1,1,0,0,0]), .inLoop (P36 [1,1,0,0,0]), .inBlock 0, .code (P36 [1,1,1])]
def A36_1 (x0 : Option Addr) (x1 : Int) (M : Mem) (Q : Value → Mem → Prop) : Prop := ∀ (g2 g3 g4 g5 g6 g7 g8 g9 g10 g11 g12 g13 g14 g15 g16 g17 g18 g19 g20 g21 g22 g23 g24 g25 : Value), Rn Try.prog Try.f36 S36_1 #[.pointer x0, .int .u32 x1, g2, g3, g4, g5, g6, g7, g8, g9, g10, g11, g12, g13, g14, g15, g16, g17, g18, g19, g20, g21, g22, g23, g24, g25] M Q
theorem w36_0 {x0 : Option Addr} {x1 : Int} {M : Mem} {Q : Value → Mem → Prop} (H :
    ∃ a1', x0 = some a1' ∧
    ∃ s2', M.slAt a1'.block a1'.off = some s2' ∧
    (((((s2'.2.1 : Int)).tmod 8) ≠ 0 →
     Q (.int .i64 2) M) ∧
     ((((s2'.2.1 : Int)).tmod 8) = 0 →
     A36_1 x0 x1 M Q))) :
    Cn Try.prog 36 #[.pointer x0, .int .u32 x1] M Q := by
  refine Cn.of b36 d36 t36 ?_
  refine Rn.seq k36_0 (Rn.region k36_1 (fun call K => r36_0) (Rch.leaf (Rn.seq k36_2 (Rn.seq k36_3 (Rn.region k36_4 (fun call K => r36_1) (Rch.ex H fun a1' H => Rch.ex H fun s2' H => Rch.leaf ?_))))))
  refine Rn.cnd (v := (((s2'.2.1 : Int)).tmod 8) != 0) ⟨c36_5, rfl, by kernel_rfl⟩ (fun h => ?_) (fun h => ?_)
  · replace H := H.1 (ne_of_bneT h)
    refine Rn.seq k36_6 (Rn.region k36_7 (fun call K => r36_2) (Rch.leaf ?_))
    exact Rn.ret k36_8 e36 H
  · replace H := H.2 (eq_of_bneF h)
    refine Rn.skip k36_10 (Rn.seq k36_11 (Rn.block k36_12 (Rn.loop k36_13 ?_)))
    exact H _ _ _ _ _ _ _ _ _ _ _ _ _ _ _ _ _ _ _ _ _ _ _ _

theorem w36_1 {x0 : Option Addr} {x1 : Int} {M : Mem} {Q : Value → Mem → Prop} (H :
    ((x1 ≥ 128 →
     Cn Try.prog 48 #[.pointer x0, .int .u64 (IntKind.u64.wrap (IntKind.u32.wrap (128 + (x1.tmod 128)))), .int .i64 8] M fun v3' N3' =>
      A36_1 x0 (IntKind.u32.wrap (x1.tdiv 128)) N3' Q) ∧
     (¬ (x1 ≥ 128) →
     Cn Try.prog 48 #[.pointer x0, .int .u64 (IntKind.u64.wrap (x1)), .int .i64 8] M fun v4' N4' =>
      Q (.int .i64 0) N4'))) :
    A36_1 x0 x1 M Q := by
  intro g2 g3 g4 g5 g6 g7 g8 g9 g10 g11 g12 g13 g14 g15 g16 g17 g18 g19 g20 g21 g22 g23 g24 g25
  refine Rn.seq k36_14 (Rn.seq k36_15 (Rn.region k36_16 (fun call K => r36_3) (Rch.leaf ?_)))
  refine Rn.cnd (v := decide (x1 ≥ 128)) ⟨c36_17, rfl, by kernel_rfl⟩ (fun h => ?_) (fun h => ?_)
  · replace H := H.1 (of_decide_eq_true h)
    refine Rn.skip k36_18 (Rn.block k36_19 (Rn.seq k36_20 (Rn.region k36_21 (fun call K => r36_4) (Rch.call H fun v3' N3' H => Rch.leaf (Rn.region k36_22 (fun call K => r36_5) (Rch.leaf (Rn.blk (Rn.lp ?_))))))))
    exact H _ _ _ _ _ _ _ _ _ _ _ _ _ _ _ _ _ _ _ _ _ _ _ _
  · replace H := H.2 (of_decide_eq_false h)
    refine Rn.exit k36_23 rfl (Rn.seq k36_24 (Rn.region k36_25 (fun call K => r36_6) (Rch.call H fun v4' N4' H => Rch.leaf (Rn.seq k36_26 (Rn.region k36_27 (fun call K => r36_7) (Rch.leaf ?_))))))
    exact Rn.ret k36_28 e36 H


/-! ### (*zoetrope/zoetroperef01.Writer).Bytes: function 37 -/
noncomputable abbrev P37 (p : List Nat) : Code := subC (codeOf Try.f37) p
noncomputable abbrev O37 (p : List Nat) : Array Oper := opsOf (subC (codeOf Try.f37) p)
theorem b37 : Try.prog.funcs[37]? = some Try.f37 ∧ (Orc.tab Try.prog).lookup 37 = none := ⟨by kernel_rfl, by kernel_rfl⟩
theorem d37 : Try.f37.body = some (P37 []) := by kernel_rfl
theorem t37 {x0 : Option Addr} : #[.pointer x0] ++ Array.replicate (Try.f37.ntmps - (#[.pointer x0] : Array Value).size) undef = #[.pointer x0,undef,undef,undef,undef,undef,undef,undef] := by kernel_rfl
theorem k37_0 : P37 [] = .seq (P37 [0]) (P37 [1]) := by kernel_rfl
theorem k37_1 : P37 [0] = .region 0 (O37 [0]) false := by kernel_rfl
theorem r37_0 {M : Mem} {call : CallM} {K : Array Value → Mem → R} :
    opsK Try.prog (fun _ => call) (O37 [0]) (O37 [0]).toList 0 #[g0,g1,g2,g3,g4,g5,g6,g7] M K = K #[g0,g1,.slice none 0 0,g3,g4,g5,g6,g7] M := by kernel_rfl
theorem k37_2 : P37 [1] = .seq (P37 [1,0]) (P37 [1,1]) := by kernel_rfl
theorem k37_3 : P37 [1,0] = .region 1 (O37 [1,0]) false := by kernel_rfl
theorem r37_1 {x0 : Option Addr} {M : Mem} {call : CallM} {K : Array Value → Mem → R} :
    opsK Try.prog (fun _ => call) (O37 [1,0]) (O37 [1,0]).toList 0 #[.pointer x0,g1,g2,g3,g4,g5,g6,g7] M K = (x0).bind fun a_1 => (M.slAt a_1.block a_1.off).bind fun s_2 => (call 49 #[.slice s_2.1 (s_2.2.1) (s_2.2.2)] M).bind fun r_3 => (asS r_3.1).bind fun s_4 => K #[.pointer x0,g1,.slice s_4.1 (s_4.2.1) (s_4.2.2),.pointer x0,.pointer (some a_1),.pointer (some ⟨a_1.block, a_1.off, none⟩),.slice s_2.1 (s_2.2.1) (s_2.2.2),.slice s_4.1 (s_4.2.1) (s_4.2.2)] r_3.2 := by kernel_rfl
theorem k37_4 : P37 [1,1] = .ret := by kernel_rfl
theorem e37 {M : Mem} : finish Try.prog Try.f37 #[g0,g1,g2,g3,g4,g5,g6,g7] M = some (g2, M) := by kernel_rfl
theorem w37_0 {x0 : Option Addr} {M : Mem} {Q : Value → Mem → Prop} (H :
    ∃ a1', x0 = some a1' ∧
    ∃ s2', M.slAt a1'.block a1'.off = some s2' ∧
    Cn Try.prog 49 #[.slice s2'.1 (s2'.2.1) (s2'.2.2)] M fun v3' N3' =>
     ∃ s4', asS v3' = some s4' ∧
     Q (.slice s4'.1 (s4'.2.1) (s4'.2.2)) N3') :
    Cn Try.prog 37 #[.pointer x0] M Q := by
  refine Cn.of b37 d37 t37 ?_
  refine Rn.seq k37_0 (Rn.region k37_1 (fun call K => r37_0) (Rch.leaf (Rn.seq k37_2 (Rn.region k37_3 (fun call K => r37_1) (Rch.ex H fun a1' H => Rch.ex H fun s2' H => Rch.call H fun v3' N3' H => Rch.ex H fun s4' H => Rch.leaf ?_)))))
  exact Rn.ret k37_4 e37 H


end Go.Zt
