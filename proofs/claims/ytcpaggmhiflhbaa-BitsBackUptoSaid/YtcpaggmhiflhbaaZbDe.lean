/- The functions' walks: for each function and each loop a rule of what it comes to. Printed by zw.py. -/
import Derived.Test.YtcpaggmhiflhbaaProg
import Derived.Test.YtcpaggmhiflhbaaZbA
set_option linter.unusedVariables false
set_option maxRecDepth 100000
namespace Go.Zt
open Go Go.Sim Go.Proofs

variable {g0 g1 g2 g3 g4 g5 g6 g7 g8 g9 g10 g11 g12 g13 g14 g15 g16 g17 g18 g19 g20 g21 g22 g23 g24 g25 g26 g27 g28 g29 g30 g31 g32 g33 g34 g35 g36 g37 g38 g39 g40 g41 g42 g43 g44 g45 g46 g47 g48 g49 g50 g51 g52 g53 g54 g55 g56 g57 g58 g59 g60 g61 g62 g63 g64 g65 g66 g67 g68 g69 g70 g71 g72 g73 g74 g75 g76 g77 g78 g79 g80 g81 g82 g83 g84 g85 g86 g87 g88 g89 : Value}
/-! ### zoetrope/zoetropelaw01.BitsStays: function 5 -/
noncomputable abbrev P5 (p : List Nat) : Code := subC (codeOf Try.f5) p
noncomputable abbrev O5 (p : List Nat) : Array Oper := opsOf (subC (codeOf Try.f5) p)
theorem b5 : Try.prog.funcs[5]? = some Try.f5 ∧ (Orc.tab Try.prog).lookup 5 = none := ⟨by kernel_rfl, by kernel_rfl⟩
theorem d5 : Try.f5.body = some (P5 []) := by kernel_rfl
theorem t5 {Ax0 : Option Addr} {lx0 cx0 : Nat} {Ax1 : Option Addr} {lx1 cx1 : Nat} : #[.slice Ax0 lx0 cx0,.slice Ax1 lx1 cx1] ++ Array.replicate (Try.f5.ntmps - (#[.slice Ax0 lx0 cx0,.slice Ax1 lx1 cx1] : Array Value).size) undef = #[.slice Ax0 lx0 cx0,.slice Ax1 lx1 cx1,undef,undef,undef,undef,undef,undef,undef,undef,undef,undef,undef,undef,undef,undef,undef,undef,undef,undef,undef,undef,undef,undef,undef,undef,undef,undef,undef,undef,undef,undef,undef,undef,undef,undef,undef,undef,undef,undef,undef,undef,undef,undef,undef,undef,undef,undef,undef,undef,undef,undef,undef,undef,undef,undef,undef,undef,undef,undef,undef,undef,undef,undef,undef,undef,undef,undef,undef,undef,undef,undef,undef,undef,undef,undef,undef,undef,undef,undef,undef,undef,undef,undef,undef,undef,undef,undef,undef,undef] := by kernel_rfl
theorem k5_0 : P5 [] = .seq (P5 [0]) (P5 [1]) := by kernel_rfl
theorem k5_1 : P5 [0] = .region 0 (O5 [0]) false := by kernel_rfl
theorem r5_0 {M : Mem} {call : CallM} {K : Array Value → Mem → R} :
    opsK Try.prog (fun _ => call) (O5 [0]) (O5 [0]).toList 0 #[g0,g1,g2,g3,g4,g5,g6,g7,g8,g9,g10,g11,g12,g13,g14,g15,g16,g17,g18,g19,g20,g21,g22,g23,g24,g25,g26,g27,g28,g29,g30,g31,g32,g33,g34,g35,g36,g37,g38,g39,g40,g41,g42,g43,g44,g45,g46,g47,g48,g49,g50,g51,g52,g53,g54,g55,g56,g57,g58,g59,g60,g61,g62,g63,g64,g65,g66,g67,g68,g69,g70,g71,g72,g73,g74,g75,g76,g77,g78,g79,g80,g81,g82,g83,g84,g85,g86,g87,g88,g89] M K = K #[g0,g1,g2,g3,.bool false,g5,g6,g7,g8,g9,g10,g11,g12,g13,g14,g15,g16,g17,g18,g19,g20,g21,g22,g23,g24,g25,g26,g27,g28,g29,g30,g31,g32,g33,g34,g35,g36,g37,g38,g39,g40,g41,g42,g43,g44,g45,g46,g47,g48,g49,g50,g51,g52,g53,g54,g55,g56,g57,g58,g59,g60,g61,g62,g63,g64,g65,g66,g67,g68,g69,g70,g71,g72,g73,g74,g75,g76,g77,g78,g79,g80,g81,g82,g83,g84,g85,g86,g87,g88,g89] M := by kernel_rfl
theorem k5_2 : P5 [1] = .seq (P5 [1,0]) (P5 [1,1]) := by kernel_rfl
theorem k5_3 : P5 [1,0] = .seq (P5 [1,0,0]) (P5 [1,0,1]) := by kernel_rfl
theorem k5_4 : P5 [1,0,0] = .region 1 (O5 [1,0,0]) false := by kernel_rfl
theorem r5_1 {M : Mem} {call : CallM} {K : Array Value → Mem → R} :
    opsK Try.prog (fun _ => call) (O5 [1,0,0]) (O5 [1,0,0]).toList 0 #[g0,g1,g2,g3,g4,g5,g6,g7,g8,g9,g10,g11,g12,g13,g14,g15,g16,g17,g18,g19,g20,g21,g22,g23,g24,g25,g26,g27,g28,g29,g30,g31,g32,g33,g34,g35,g36,g37,g38,g39,g40,g41,g42,g43,g44,g45,g46,g47,g48,g49,g50,g51,g52,g53,g54,g55,g56,g57,g58,g59,g60,g61,g62,g63,g64,g65,g66,g67,g68,g69,g70,g71,g72,g73,g74,g75,g76,g77,g78,g79,g80,g81,g82,g83,g84,g85,g86,g87,g88,g89] M K = (call 21 #[] M).bind fun r_1 => (asB r_1.1).bind fun b_2 => K #[g0,g1,g2,g3,g4,g5,g6,g7,g8,g9,g10,g11,g12,g13,g14,.bool b_2,.bool (!b_2),g17,g18,g19,g20,g21,g22,g23,g24,g25,g26,g27,g28,g29,g30,g31,g32,g33,g34,g35,g36,g37,g38,g39,g40,g41,g42,g43,g44,g45,g46,g47,g48,g49,g50,g51,g52,g53,g54,g55,g56,g57,g58,g59,g60,g61,g62,g63,g64,g65,g66,g67,g68,g69,g70,g71,g72,g73,g74,g75,g76,g77,g78,g79,g80,g81,g82,g83,g84,g85,g86,g87,g88,g89] r_1.2 := by kernel_rfl
theorem c5_5 : P5 [1,0,1] = .cond (.tmp 16) (P5 [1,0,1,0]) (P5 [1,0,1,1]) := by kernel_rfl
theorem k5_6 : P5 [1,0,1,0] = .seq (P5 [1,0,1,0,0]) (P5 [1,0,1,0,1]) := by kernel_rfl
theorem k5_7 : P5 [1,0,1,0,0] = .region 2 (O5 [1,0,1,0,0]) false := by kernel_rfl
theorem r5_2 {M : Mem} {call : CallM} {K : Array Value → Mem → R} :
    opsK Try.prog (fun _ => call) (O5 [1,0,1,0,0]) (O5 [1,0,1,0,0]).toList 0 #[g0,g1,g2,g3,g4,g5,g6,g7,g8,g9,g10,g11,g12,g13,g14,g15,g16,g17,g18,g19,g20,g21,g22,g23,g24,g25,g26,g27,g28,g29,g30,g31,g32,g33,g34,g35,g36,g37,g38,g39,g40,g41,g42,g43,g44,g45,g46,g47,g48,g49,g50,g51,g52,g53,g54,g55,g56,g57,g58,g59,g60,g61,g62,g63,g64,g65,g66,g67,g68,g69,g70,g71,g72,g73,g74,g75,g76,g77,g78,g79,g80,g81,g82,g83,g84,g85,g86,g87,g88,g89] M K = K #[g0,g1,g2,g3,.bool false,g5,g6,g7,g8,g9,g10,g11,g12,g13,g14,g15,g16,g17,g18,g19,g20,g21,g22,g23,g24,g25,g26,g27,g28,g29,g30,g31,g32,g33,g34,g35,g36,g37,g38,g39,g40,g41,g42,g43,g44,g45,g46,g47,g48,g49,g50,g51,g52,g53,g54,g55,g56,g57,g58,g59,g60,g61,g62,g63,g64,g65,g66,g67,g68,g69,g70,g71,g72,g73,g74,g75,g76,g77,g78,g79,g80,g81,g82,g83,g84,g85,g86,g87,g88,g89] M := by kernel_rfl
theorem k5_8 : P5 [1,0,1,0,1] = .ret := by kernel_rfl
theorem e5 {M : Mem} : finish Try.prog Try.f5 #[g0,g1,g2,g3,g4,g5,g6,g7,g8,g9,g10,g11,g12,g13,g14,g15,g16,g17,g18,g19,g20,g21,g22,g23,g24,g25,g26,g27,g28,g29,g30,g31,g32,g33,g34,g35,g36,g37,g38,g39,g40,g41,g42,g43,g44,g45,g46,g47,g48,g49,g50,g51,g52,g53,g54,g55,g56,g57,g58,g59,g60,g61,g62,g63,g64,g65,g66,g67,g68,g69,g70,g71,g72,g73,g74,g75,g76,g77,g78,g79,g80,g81,g82,g83,g84,g85,g86,g87,g88,g89] M = some (g4, M) := by kernel_rfl
theorem k5_10 : P5 [1,0,1,1] = .skip := by kernel_rfl
theorem k5_11 : P5 [1,1] = .seq (P5 [1,1,0]) (P5 [1,1,1]) := by kernel_rfl
theorem k5_12 : P5 [1,1,0] = .region 3 (O5 [1,1,0]) false := by kernel_rfl
theorem r5_3 {Ax0 : Option Addr} {lx0 cx0 : Nat} {M : Mem} {call : CallM} {K : Array Value → Mem → R} :
    opsK Try.prog (fun _ => call) (O5 [1,1,0]) (O5 [1,1,0]).toList 0 #[.slice Ax0 lx0 cx0,g1,g2,g3,g4,g5,g6,g7,g8,g9,g10,g11,g12,g13,g14,g15,g16,g17,g18,g19,g20,g21,g22,g23,g24,g25,g26,g27,g28,g29,g30,g31,g32,g33,g34,g35,g36,g37,g38,g39,g40,g41,g42,g43,g44,g45,g46,g47,g48,g49,g50,g51,g52,g53,g54,g55,g56,g57,g58,g59,g60,g61,g62,g63,g64,g65,g66,g67,g68,g69,g70,g71,g72,g73,g74,g75,g76,g77,g78,g79,g80,g81,g82,g83,g84,g85,g86,g87,g88,g89] M K = (call 22 #[.slice Ax0 lx0 cx0] M).bind fun r_1 => (asP r_1.1).bind fun p_2 => K #[.slice Ax0 lx0 cx0,g1,g2,g3,g4,.pointer p_2,g6,g7,g8,g9,g10,g11,g12,g13,g14,g15,g16,.slice Ax0 lx0 cx0,.pointer p_2,g19,g20,g21,g22,g23,g24,g25,g26,g27,g28,g29,g30,g31,g32,g33,g34,g35,g36,g37,g38,g39,g40,g41,g42,g43,g44,g45,g46,g47,g48,g49,g50,g51,g52,g53,g54,g55,g56,g57,g58,g59,g60,g61,g62,g63,g64,g65,g66,g67,g68,g69,g70,g71,g72,g73,g74,g75,g76,g77,g78,g79,g80,g81,g82,g83,g84,g85,g86,g87,g88,g89] r_1.2 := by kernel_rfl
theorem k5_13 : P5 [1,1,1] = .seq (P5 [1,1,1,0]) (P5 [1,1,1,1]) := by kernel_rfl
theorem k5_14 : P5 [1,1,1,0] = .region 4 (O5 [1,1,1,0]) false := by kernel_rfl
theorem r5_4 {M : Mem} {call : CallM} {K : Array Value → Mem → R} :
    opsK Try.prog (fun _ => call) (O5 [1,1,1,0]) (O5 [1,1,1,0]).toList 0 #[g0,g1,g2,g3,g4,g5,g6,g7,g8,g9,g10,g11,g12,g13,g14,g15,g16,g17,g18,g19,g20,g21,g22,g23,g24,g25,g26,g27,g28,g29,g30,g31,g32,g33,g34,g35,g36,g37,g38,g39,g40,g41,g42,g43,g44,g45,g46,g47,g48,g49,g50,g51,g52,g53,g54,g55,g56,g57,g58,g59,g60,g61,g62,g63,g64,g65,g66,g67,g68,g69,g70,g71,g72,g73,g74,g75,g76,g77,g78,g79,g80,g81,g82,g83,g84,g85,g86,g87,g88,g89] M K = (call 9 #[] M).bind fun r_1 => (asP r_1.1).bind fun p_2 => K #[g0,g1,g2,g3,g4,g5,.pointer p_2,g7,g8,g9,g10,g11,g12,g13,g14,g15,g16,g17,g18,.pointer p_2,g20,g21,g22,g23,g24,g25,g26,g27,g28,g29,g30,g31,g32,g33,g34,g35,g36,g37,g38,g39,g40,g41,g42,g43,g44,g45,g46,g47,g48,g49,g50,g51,g52,g53,g54,g55,g56,g57,g58,g59,g60,g61,g62,g63,g64,g65,g66,g67,g68,g69,g70,g71,g72,g73,g74,g75,g76,g77,g78,g79,g80,g81,g82,g83,g84,g85,g86,g87,g88,g89] r_1.2 := by kernel_rfl
theorem k5_15 : P5 [1,1,1,1] = .seq (P5 [1,1,1,1,0]) (P5 [1,1,1,1,1]) := by kernel_rfl
theorem k5_16 : P5 [1,1,1,1,0] = .seq (P5 [1,1,1,1,0,0]) (P5 [1,1,1,1,0,1]) := by kernel_rfl
theorem k5_17 : P5 [1,1,1,1,0,0] = .region 5 (O5 [1,1,1,1,0,0]) false := by kernel_rfl
theorem r5_5 {M : Mem} {call : CallM} {K : Array Value → Mem → R} :
    opsK Try.prog (fun _ => call) (O5 [1,1,1,1,0,0]) (O5 [1,1,1,1,0,0]).toList 0 #[g0,g1,g2,g3,g4,g5,g6,g7,g8,g9,g10,g11,g12,g13,g14,g15,g16,g17,g18,g19,g20,g21,g22,g23,g24,g25,g26,g27,g28,g29,g30,g31,g32,g33,g34,g35,g36,g37,g38,g39,g40,g41,g42,g43,g44,g45,g46,g47,g48,g49,g50,g51,g52,g53,g54,g55,g56,g57,g58,g59,g60,g61,g62,g63,g64,g65,g66,g67,g68,g69,g70,g71,g72,g73,g74,g75,g76,g77,g78,g79,g80,g81,g82,g83,g84,g85,g86,g87,g88,g89] M K = K #[g0,g1,g2,g3,g4,g5,g6,.int .i64 0,g8,g9,g10,g11,g12,g13,g14,g15,g16,g17,g18,g19,g20,g21,g22,g23,g24,g25,g26,g27,g28,g29,g30,g31,g32,g33,g34,g35,g36,g37,g38,g39,g40,g41,g42,g43,g44,g45,g46,g47,g48,g49,g50,g51,g52,g53,g54,g55,g56,g57,g58,g59,g60,g61,g62,g63,g64,g65,g66,g67,g68,g69,g70,g71,g72,g73,g74,g75,g76,g77,g78,g79,g80,g81,g82,g83,g84,g85,g86,g87,g88,g89] M := by kernel_rfl
theorem k5_18 : P5 [1,1,1,1,0,1] = .block 0 (P5 [1,1,1,1,0,1,0]) := by kernel_rfl
theorem k5_19 : P5 [1,1,1,1,0,1,0] = .loop (P5 [1,1,1,1,0,1,0,0]) := by kernel_rfl
theorem k5_20 : P5 [1,1,1,1,0,1,0,0] = .seq (P5 [1,1,1,1,0,1,0,0,0]) (P5 [1,1,1,1,0,1,0,0,1]) := by kernel_rfl
theorem k5_21 : P5 [1,1,1,1,0,1,0,0,0] = .seq (P5 [1,1,1,1,0,1,0,0,0,0]) (P5 [1,1,1,1,0,1,0,0,0,1]) := by kernel_rfl
theorem k5_22 : P5 [1,1,1,1,0,1,0,0,0,0] = .region 6 (O5 [1,1,1,1,0,1,0,0,0,0]) false := by kernel_rfl
theorem r5_6 {Ax1 : Option Addr} {lx1 cx1 : Nat} {x7 : Int} {M : Mem} {call : CallM} {K : Array Value → Mem → R} :
    opsK Try.prog (fun _ => call) (O5 [1,1,1,1,0,1,0,0,0,0]) (O5 [1,1,1,1,0,1,0,0,0,0]).toList 0 #[g0,.slice Ax1 lx1 cx1,g2,g3,g4,g5,g6,.int .i64 x7,g8,g9,g10,g11,g12,g13,g14,g15,g16,g17,g18,g19,g20,g21,g22,g23,g24,g25,g26,g27,g28,g29,g30,g31,g32,g33,g34,g35,g36,g37,g38,g39,g40,g41,g42,g43,g44,g45,g46,g47,g48,g49,g50,g51,g52,g53,g54,g55,g56,g57,g58,g59,g60,g61,g62,g63,g64,g65,g66,g67,g68,g69,g70,g71,g72,g73,g74,g75,g76,g77,g78,g79,g80,g81,g82,g83,g84,g85,g86,g87,g88,g89] M K = withK (fun w24 w25 w26 w27 M => K #[g0,.slice Ax1 lx1 cx1,g2,g3,g4,g5,g6,.int .i64 x7,g8,g9,g10,g11,g12,g13,g14,g15,g16,g17,g18,g19,.int .i64 x7,.slice Ax1 lx1 cx1,.int .i64 ((lx1 : Int)),.bool (decide (x7 < ((lx1 : Int)))),w24,w25,w26,w27,g28,g29,g30,g31,g32,g33,g34,g35,g36,g37,g38,g39,g40,g41,g42,g43,g44,g45,g46,g47,g48,g49,g50,g51,g52,g53,g54,g55,g56,g57,g58,g59,g60,g61,g62,g63,g64,g65,g66,g67,g68,g69,g70,g71,g72,g73,g74,g75,g76,g77,g78,g79,g80,g81,g82,g83,g84,g85,g86,g87,g88,g89] M) fun k => cond (decide (x7 < ((lx1 : Int)))) (k (.bool true) (.int .i64 x7) (.bool (decide (x7 < 100))) (.bool (decide (x7 < 100))) M) (k (.bool false) undef undef (.bool false) M) := by kernel_rfl
theorem c5_23 : P5 [1,1,1,1,0,1,0,0,0,1] = .cond (.tmp 27) (P5 [1,1,1,1,0,1,0,0,0,1,0]) (P5 [1,1,1,1,0,1,0,0,0,1,1]) := by kernel_rfl
theorem k5_24 : P5 [1,1,1,1,0,1,0,0,0,1,0] = .skip := by kernel_rfl
theorem k5_25 : P5 [1,1,1,1,0,1,0,0,1] = .seq (P5 [1,1,1,1,0,1,0,0,1,0]) (P5 [1,1,1,1,0,1,0,0,1,1]) := by kernel_rfl
theorem k5_26 : P5 [1,1,1,1,0,1,0,0,1,0] = .block 1 (P5 [1,1,1,1,0,1,0,0,1,0,0]) := by kernel_rfl
theorem k5_27 : P5 [1,1,1,1,0,1,0,0,1,0,0] = .seq (P5 [1,1,1,1,0,1,0,0,1,0,0,0]) (P5 [1,1,1,1,0,1,0,0,1,0,0,1]) := by kernel_rfl
theorem k5_28 : P5 [1,1,1,1,0,1,0,0,1,0,0,0] = .region 8 (O5 [1,1,1,1,0,1,0,0,1,0,0,0]) false := by kernel_rfl
theorem r5_8 {x5 : Option Addr} {M : Mem} {call : CallM} {K : Array Value → Mem → R} :
    opsK Try.prog (fun _ => call) (O5 [1,1,1,1,0,1,0,0,1,0,0,0]) (O5 [1,1,1,1,0,1,0,0,1,0,0,0]).toList 0 #[g0,g1,g2,g3,g4,.pointer x5,g6,g7,g8,g9,g10,g11,g12,g13,g14,g15,g16,g17,g18,g19,g20,g21,g22,g23,g24,g25,g26,g27,g28,g29,g30,g31,g32,g33,g34,g35,g36,g37,g38,g39,g40,g41,g42,g43,g44,g45,g46,g47,g48,g49,g50,g51,g52,g53,g54,g55,g56,g57,g58,g59,g60,g61,g62,g63,g64,g65,g66,g67,g68,g69,g70,g71,g72,g73,g74,g75,g76,g77,g78,g79,g80,g81,g82,g83,g84,g85,g86,g87,g88,g89] M K = (call 24 #[.pointer x5] M).bind fun r_1 => (asI .i64 r_1.1).bind fun x_2 => K #[g0,g1,g2,g3,g4,.pointer x5,g6,g7,.int .i64 x_2,g9,g10,g11,g12,g13,g14,g15,g16,g17,g18,g19,g20,g21,g22,g23,g24,g25,g26,g27,g28,g29,.pointer x5,.int .i64 x_2,g32,g33,g34,g35,g36,g37,g38,g39,g40,g41,g42,g43,g44,g45,g46,g47,g48,g49,g50,g51,g52,g53,g54,g55,g56,g57,g58,g59,g60,g61,g62,g63,g64,g65,g66,g67,g68,g69,g70,g71,g72,g73,g74,g75,g76,g77,g78,g79,g80,g81,g82,g83,g84,g85,g86,g87,g88,g89] r_1.2 := by kernel_rfl
theorem k5_29 : P5 [1,1,1,1,0,1,0,0,1,0,0,1] = .seq (P5 [1,1,1,1,0,1,0,0,1,0,0,1,0]) (P5 [1,1,1,1,0,1,0,0,1,0,0,1,1]) := by kernel_rfl
theorem k5_30 : P5 [1,1,1,1,0,1,0,0,1,0,0,1,0] = .region 9 (O5 [1,1,1,1,0,1,0,0,1,0,0,1,0]) false := by kernel_rfl
theorem r5_9 {Ax1 : Option Addr} {lx1 cx1 : Nat} {x5 : Option Addr} {x7 : Int} {M : Mem} {call : CallM} {K : Array Value → Mem → R} :
    opsK Try.prog (fun _ => call) (O5 [1,1,1,1,0,1,0,0,1,0,0,1,0]) (O5 [1,1,1,1,0,1,0,0,1,0,0,1,0]).toList 0 #[g0,.slice Ax1 lx1 cx1,g2,g3,g4,.pointer x5,g6,.int .i64 x7,g8,g9,g10,g11,g12,g13,g14,g15,g16,g17,g18,g19,g20,g21,g22,g23,g24,g25,g26,g27,g28,g29,g30,g31,g32,g33,g34,g35,g36,g37,g38,g39,g40,g41,g42,g43,g44,g45,g46,g47,g48,g49,g50,g51,g52,g53,g54,g55,g56,g57,g58,g59,g60,g61,g62,g63,g64,g65,g66,g67,g68,g69,g70,g71,g72,g73,g74,g75,g76,g77,g78,g79,g80,g81,g82,g83,g84,g85,g86,g87,g88,g89] M K = (idxA Ax1 lx1 3 x7).bind fun a_1 => (M.intAt .i64 a_1.block a_1.off).bind fun x_2 => (M.intAt .i64 a_1.block (a_1.off + 1)).bind fun x_3 => (M.intAt .u32 a_1.block (a_1.off + 2)).bind fun x_4 => (call 23 #[.pointer x5, .agg #[.int .i64 x_2, .int .i64 x_3, .int .u32 x_4]] M).bind fun r_5 => (asU 2 r_5.1).bind fun cs_6 => (asI .u32 (cs_6.getD 0 undef)).bind fun x_7 => (asI .i64 (cs_6.getD 1 undef)).bind fun x_8 => K #[g0,.slice Ax1 lx1 cx1,g2,g3,g4,.pointer x5,g6,.int .i64 x7,g8,.int .u32 x_7,.int .i64 x_8,g11,g12,g13,g14,g15,g16,g17,g18,g19,g20,g21,g22,g23,g24,g25,g26,g27,g28,g29,g30,g31,.tuple #[.int .u32 x_7, .int .i64 x_8],.pointer x5,.slice Ax1 lx1 cx1,.int .i64 x7,.pointer (some a_1),.agg #[.int .i64 x_2, .int .i64 x_3, .int .u32 x_4],.tuple #[.int .u32 x_7, .int .i64 x_8],.int .u32 x_7,.int .i64 x_8,g41,g42,g43,g44,g45,g46,g47,g48,g49,g50,g51,g52,g53,g54,g55,g56,g57,g58,g59,g60,g61,g62,g63,g64,g65,g66,g67,g68,g69,g70,g71,g72,g73,g74,g75,g76,g77,g78,g79,g80,g81,g82,g83,g84,g85,g86,g87,g88,g89] r_5.2 := by kernel_rfl
theorem k5_31 : P5 [1,1,1,1,0,1,0,0,1,0,0,1,1] = .seq (P5 [1,1,1,1,0,1,0,0,1,0,0,1,1,0]) (P5 [1,1,1,1,0,1,0,0,1,0,0,1,1,1]) := by kernel_rfl
theorem k5_32 : P5 [1,1,1,1,0,1,0,0,1,0,0,1,1,0] = .seq (P5 [1,1,1,1,0,1,0,0,1,0,0,1,1,0,0]) (P5 [1,1,1,1,0,1,0,0,1,0,0,1,1,0,1]) := by kernel_rfl
theorem k5_33 : P5 [1,1,1,1,0,1,0,0,1,0,0,1,1,0,0] = .region 10 (O5 [1,1,1,1,0,1,0,0,1,0,0,1,1,0,0]) false := by kernel_rfl
theorem r5_10 {x10 : Int} {M : Mem} {call : CallM} {K : Array Value → Mem → R} :
    opsK Try.prog (fun _ => call) (O5 [1,1,1,1,0,1,0,0,1,0,0,1,1,0,0]) (O5 [1,1,1,1,0,1,0,0,1,0,0,1,1,0,0]).toList 0 #[g0,g1,g2,g3,g4,g5,g6,g7,g8,g9,.int .i64 x10,g11,g12,g13,g14,g15,g16,g17,g18,g19,g20,g21,g22,g23,g24,g25,g26,g27,g28,g29,g30,g31,g32,g33,g34,g35,g36,g37,g38,g39,g40,g41,g42,g43,g44,g45,g46,g47,g48,g49,g50,g51,g52,g53,g54,g55,g56,g57,g58,g59,g60,g61,g62,g63,g64,g65,g66,g67,g68,g69,g70,g71,g72,g73,g74,g75,g76,g77,g78,g79,g80,g81,g82,g83,g84,g85,g86,g87,g88,g89] M K = K #[g0,g1,g2,g3,g4,g5,g6,g7,g8,g9,.int .i64 x10,g11,g12,g13,g14,g15,g16,g17,g18,g19,g20,g21,g22,g23,g24,g25,g26,g27,g28,g29,g30,g31,g32,g33,g34,g35,g36,g37,g38,g39,g40,.int .i64 x10,.bool (x10 != 0),g43,g44,g45,g46,g47,g48,g49,g50,g51,g52,g53,g54,g55,g56,g57,g58,g59,g60,g61,g62,g63,g64,g65,g66,g67,g68,g69,g70,g71,g72,g73,g74,g75,g76,g77,g78,g79,g80,g81,g82,g83,g84,g85,g86,g87,g88,g89] M := by kernel_rfl
theorem c5_34 : P5 [1,1,1,1,0,1,0,0,1,0,0,1,1,0,1] = .cond (.tmp 42) (P5 [1,1,1,1,0,1,0,0,1,0,0,1,1,0,1,0]) (P5 [1,1,1,1,0,1,0,0,1,0,0,1,1,0,1,1]) := by kernel_rfl
theorem k5_35 : P5 [1,1,1,1,0,1,0,0,1,0,0,1,1,0,1,0] = .seq (P5 [1,1,1,1,0,1,0,0,1,0,0,1,1,0,1,0,0]) (P5 [1,1,1,1,0,1,0,0,1,0,0,1,1,0,1,0,1]) := by kernel_rfl
theorem k5_36 : P5 [1,1,1,1,0,1,0,0,1,0,0,1,1,0,1,0,0] = .region 11 (O5 [1,1,1,1,0,1,0,0,1,0,0,1,1,0,1,0,0]) false := by kernel_rfl
theorem r5_11 {Ax1 : Option Addr} {lx1 cx1 : Nat} {x5 : Option Addr} {x7 : Int} {M : Mem} {call : CallM} {K : Array Value → Mem → R} :
    opsK Try.prog (fun _ => call) (O5 [1,1,1,1,0,1,0,0,1,0,0,1,1,0,1,0,0]) (O5 [1,1,1,1,0,1,0,0,1,0,0,1,1,0,1,0,0]).toList 0 #[g0,.slice Ax1 lx1 cx1,g2,g3,g4,.pointer x5,g6,.int .i64 x7,g8,g9,g10,g11,g12,g13,g14,g15,g16,g17,g18,g19,g20,g21,g22,g23,g24,g25,g26,g27,g28,g29,g30,g31,g32,g33,g34,g35,g36,g37,g38,g39,g40,g41,g42,g43,g44,g45,g46,g47,g48,g49,g50,g51,g52,g53,g54,g55,g56,g57,g58,g59,g60,g61,g62,g63,g64,g65,g66,g67,g68,g69,g70,g71,g72,g73,g74,g75,g76,g77,g78,g79,g80,g81,g82,g83,g84,g85,g86,g87,g88,g89] M K = (idxA Ax1 lx1 3 x7).bind fun a_1 => (M.intAt .i64 a_1.block a_1.off).bind fun x_2 => (M.intAt .i64 a_1.block (a_1.off + 1)).bind fun x_3 => (M.intAt .u32 a_1.block (a_1.off + 2)).bind fun x_4 => (call 23 #[.pointer x5, .agg #[.int .i64 x_2, .int .i64 x_3, .int .u32 x_4]] M).bind fun r_5 => (asU 2 r_5.1).bind fun cs_6 => (asI .u32 (cs_6.getD 0 undef)).bind fun x_7 => (asI .i64 (cs_6.getD 1 undef)).bind fun x_8 => K #[g0,.slice Ax1 lx1 cx1,g2,g3,g4,.pointer x5,g6,.int .i64 x7,g8,g9,g10,.int .u32 x_7,.int .i64 x_8,g13,g14,g15,g16,g17,g18,g19,g20,g21,g22,g23,g24,g25,g26,g27,g28,g29,g30,g31,g32,g33,g34,g35,g36,g37,g38,g39,g40,g41,g42,.tuple #[.int .u32 x_7, .int .i64 x_8],.pointer x5,.slice Ax1 lx1 cx1,.int .i64 x7,.pointer (some a_1),.agg #[.int .i64 x_2, .int .i64 x_3, .int .u32 x_4],.tuple #[.int .u32 x_7, .int .i64 x_8],.int .u32 x_7,.int .i64 x_8,g52,g53,g54,g55,g56,g57,g58,g59,g60,g61,g62,g63,g64,g65,g66,g67,g68,g69,g70,g71,g72,g73,g74,g75,g76,g77,g78,g79,g80,g81,g82,g83,g84,g85,g86,g87,g88,g89] r_5.2 := by kernel_rfl
theorem k5_37 : P5 [1,1,1,1,0,1,0,0,1,0,0,1,1,0,1,0,1] = .seq (P5 [1,1,1,1,0,1,0,0,1,0,0,1,1,0,1,0,1,0]) (P5 [1,1,1,1,0,1,0,0,1,0,0,1,1,0,1,0,1,1]) := by kernel_rfl
theorem k5_38 : P5 [1,1,1,1,0,1,0,0,1,0,0,1,1,0,1,0,1,0] = .region 12 (O5 [1,1,1,1,0,1,0,0,1,0,0,1,1,0,1,0,1,0]) false := by kernel_rfl
theorem r5_12 {x5 : Option Addr} {x8 x10 x12 : Int} {M : Mem} {call : CallM} {K : Array Value → Mem → R} :
    opsK Try.prog (fun _ => call) (O5 [1,1,1,1,0,1,0,0,1,0,0,1,1,0,1,0,1,0]) (O5 [1,1,1,1,0,1,0,0,1,0,0,1,1,0,1,0,1,0]).toList 0 #[g0,g1,g2,g3,g4,.pointer x5,g6,g7,.int .i64 x8,g9,.int .i64 x10,g11,.int .i64 x12,g13,g14,g15,g16,g17,g18,g19,g20,g21,g22,g23,g24,g25,g26,g27,g28,g29,g30,g31,g32,g33,g34,g35,g36,g37,g38,g39,g40,g41,g42,g43,g44,g45,g46,g47,g48,g49,g50,g51,g52,g53,g54,g55,g56,g57,g58,g59,g60,g61,g62,g63,g64,g65,g66,g67,g68,g69,g70,g71,g72,g73,g74,g75,g76,g77,g78,g79,g80,g81,g82,g83,g84,g85,g86,g87,g88,g89] M K = withK (fun w55 w56 w57 w58 w59 w60 M => K #[g0,g1,g2,g3,g4,.pointer x5,g6,g7,.int .i64 x8,g9,.int .i64 x10,g11,.int .i64 x12,g13,g14,g15,g16,g17,g18,g19,g20,g21,g22,g23,g24,g25,g26,g27,g28,g29,g30,g31,g32,g33,g34,g35,g36,g37,g38,g39,g40,g41,g42,g43,g44,g45,g46,g47,g48,g49,g50,g51,.int .i64 x12,.int .i64 x10,.bool (x12 != x10),w55,w56,w57,w58,w59,w60,g61,g62,g63,g64,g65,g66,g67,g68,g69,g70,g71,g72,g73,g74,g75,g76,g77,g78,g79,g80,g81,g82,g83,g84,g85,g86,g87,g88,g89] M) fun k => cond (x12 != x10) (k (.bool true) undef undef undef undef (.bool true) M) ((call 24 #[.pointer x5] M).bind fun r_1 => (asI .i64 r_1.1).bind fun x_2 => k (.bool false) (.pointer x5) (.int .i64 x_2) (.int .i64 x8) (.bool (x_2 != x8)) (.bool (x_2 != x8)) r_1.2) := by kernel_rfl
theorem k5_39 : P5 [1,1,1,1,0,1,0,0,1,0,0,1,1,0,1,1] = .skip := by kernel_rfl
theorem k5_40 : P5 [1,1,1,1,0,1,0,0,1,0,0,1,1,1] = .seq (P5 [1,1,1,1,0,1,0,0,1,0,0,1,1,1,0]) (P5 [1,1,1,1,0,1,0,0,1,0,0,1,1,1,1]) := by kernel_rfl
theorem k5_41 : P5 [1,1,1,1,0,1,0,0,1,0,0,1,1,1,0] = .seq (P5 [1,1,1,1,0,1,0,0,1,0,0,1,1,1,0,0]) (P5 [1,1,1,1,0,1,0,0,1,0,0,1,1,1,0,1]) := by kernel_rfl
theorem k5_42 : P5 [1,1,1,1,0,1,0,0,1,0,0,1,1,1,0,0] = .region 14 (O5 [1,1,1,1,0,1,0,0,1,0,0,1,1,1,0,0]) false := by kernel_rfl
theorem r5_14 {x5 : Option Addr} {x8 x10 : Int} {M : Mem} {call : CallM} {K : Array Value → Mem → R} :
    opsK Try.prog (fun _ => call) (O5 [1,1,1,1,0,1,0,0,1,0,0,1,1,1,0,0]) (O5 [1,1,1,1,0,1,0,0,1,0,0,1,1,1,0,0]).toList 0 #[g0,g1,g2,g3,g4,.pointer x5,g6,g7,.int .i64 x8,g9,.int .i64 x10,g11,g12,g13,g14,g15,g16,g17,g18,g19,g20,g21,g22,g23,g24,g25,g26,g27,g28,g29,g30,g31,g32,g33,g34,g35,g36,g37,g38,g39,g40,g41,g42,g43,g44,g45,g46,g47,g48,g49,g50,g51,g52,g53,g54,g55,g56,g57,g58,g59,g60,g61,g62,g63,g64,g65,g66,g67,g68,g69,g70,g71,g72,g73,g74,g75,g76,g77,g78,g79,g80,g81,g82,g83,g84,g85,g86,g87,g88,g89] M K = withK (fun w63 w64 w65 w66 w67 w68 M => K #[g0,g1,g2,g3,g4,.pointer x5,g6,g7,.int .i64 x8,g9,.int .i64 x10,g11,g12,g13,g14,g15,g16,g17,g18,g19,g20,g21,g22,g23,g24,g25,g26,g27,g28,g29,g30,g31,g32,g33,g34,g35,g36,g37,g38,g39,g40,g41,g42,g43,g44,g45,g46,g47,g48,g49,g50,g51,g52,g53,g54,g55,g56,g57,g58,g59,g60,.int .i64 x10,.bool (x10 == 0),w63,w64,w65,w66,w67,w68,g69,g70,g71,g72,g73,g74,g75,g76,g77,g78,g79,g80,g81,g82,g83,g84,g85,g86,g87,g88,g89] M) fun k => cond (x10 == 0) ((call 24 #[.pointer x5] M).bind fun r_1 => (asI .i64 r_1.1).bind fun x_2 => k (.bool true) (.pointer x5) (.int .i64 x_2) (.int .i64 x8) (.bool (decide (x_2 > x8))) (.bool (decide (x_2 > x8))) r_1.2) (k (.bool false) undef undef undef undef (.bool false) M) := by kernel_rfl
theorem k5_43 : P5 [1,1,1,1,0,1,0,0,0,1,1] = .exit 0 := by kernel_rfl
theorem k5_44 : P5 [1,1,1,1,1] = .seq (P5 [1,1,1,1,1,0]) (P5 [1,1,1,1,1,1]) := by kernel_rfl
theorem k5_45 : P5 [1,1,1,1,1,0] = .region 20 (O5 [1,1,1,1,1,0]) false := by kernel_rfl
theorem r5_20 {M : Mem} {call : CallM} {K : Array Value → Mem → R} :
    opsK Try.prog (fun _ => call) (O5 [1,1,1,1,1,0]) (O5 [1,1,1,1,1,0]).toList 0 #[g0,g1,g2,g3,g4,g5,g6,g7,g8,g9,g10,g11,g12,g13,g14,g15,g16,g17,g18,g19,g20,g21,g22,g23,g24,g25,g26,g27,g28,g29,g30,g31,g32,g33,g34,g35,g36,g37,g38,g39,g40,g41,g42,g43,g44,g45,g46,g47,g48,g49,g50,g51,g52,g53,g54,g55,g56,g57,g58,g59,g60,g61,g62,g63,g64,g65,g66,g67,g68,g69,g70,g71,g72,g73,g74,g75,g76,g77,g78,g79,g80,g81,g82,g83,g84,g85,g86,g87,g88,g89] M K = K #[g0,g1,g2,g3,.bool true,g5,g6,g7,g8,g9,g10,g11,g12,g13,g14,g15,g16,g17,g18,g19,g20,g21,g22,g23,g24,g25,g26,g27,g28,g29,g30,g31,g32,g33,g34,g35,g36,g37,g38,g39,g40,g41,g42,g43,g44,g45,g46,g47,g48,g49,g50,g51,g52,g53,g54,g55,g56,g57,g58,g59,g60,g61,g62,g63,g64,g65,g66,g67,g68,g69,g70,g71,g72,g73,g74,g75,g76,g77,g78,g79,g80,g81,g82,g83,g84,g85,g86,g87,g88,g89] M := by kernel_rfl
theorem k5_46 : P5 [1,1,1,1,1,1] = .ret := by kernel_rfl
theorem c5_47 : P5 [1,1,1,1,0,1,0,0,1,0,0,1,1,0,1,0,1,1] = .cond (.tmp 60) (P5 [1,1,1,1,0,1,0,0,1,0,0,1,1,0,1,0,1,1,0]) (P5 [1,1,1,1,0,1,0,0,1,0,0,1,1,0,1,0,1,1,1]) := by kernel_rfl
theorem k5_48 : P5 [1,1,1,1,0,1,0,0,1,0,0,1,1,0,1,0,1,1,0] = .seq (P5 [1,1,1,1,0,1,0,0,1,0,0,1,1,0,1,0,1,1,0,0]) (P5 [1,1,1,1,0,1,0,0,1,0,0,1,1,0,1,0,1,1,0,1]) := by kernel_rfl
theorem k5_49 : P5 [1,1,1,1,0,1,0,0,1,0,0,1,1,0,1,0,1,1,0,0] = .region 13 (O5 [1,1,1,1,0,1,0,0,1,0,0,1,1,0,1,0,1,1,0,0]) false := by kernel_rfl
theorem r5_13 {M : Mem} {call : CallM} {K : Array Value → Mem → R} :
    opsK Try.prog (fun _ => call) (O5 [1,1,1,1,0,1,0,0,1,0,0,1,1,0,1,0,1,1,0,0]) (O5 [1,1,1,1,0,1,0,0,1,0,0,1,1,0,1,0,1,1,0,0]).toList 0 #[g0,g1,g2,g3,g4,g5,g6,g7,g8,g9,g10,g11,g12,g13,g14,g15,g16,g17,g18,g19,g20,g21,g22,g23,g24,g25,g26,g27,g28,g29,g30,g31,g32,g33,g34,g35,g36,g37,g38,g39,g40,g41,g42,g43,g44,g45,g46,g47,g48,g49,g50,g51,g52,g53,g54,g55,g56,g57,g58,g59,g60,g61,g62,g63,g64,g65,g66,g67,g68,g69,g70,g71,g72,g73,g74,g75,g76,g77,g78,g79,g80,g81,g82,g83,g84,g85,g86,g87,g88,g89] M K = K #[g0,g1,g2,g3,.bool false,g5,g6,g7,g8,g9,g10,g11,g12,g13,g14,g15,g16,g17,g18,g19,g20,g21,g22,g23,g24,g25,g26,g27,g28,g29,g30,g31,g32,g33,g34,g35,g36,g37,g38,g39,g40,g41,g42,g43,g44,g45,g46,g47,g48,g49,g50,g51,g52,g53,g54,g55,g56,g57,g58,g59,g60,g61,g62,g63,g64,g65,g66,g67,g68,g69,g70,g71,g72,g73,g74,g75,g76,g77,g78,g79,g80,g81,g82,g83,g84,g85,g86,g87,g88,g89] M := by kernel_rfl
theorem k5_50 : P5 [1,1,1,1,0,1,0,0,1,0,0,1,1,0,1,0,1,1,0,1] = .ret := by kernel_rfl
theorem k5_51 : P5 [1,1,1,1,0,1,0,0,1,0,0,1,1,0,1,0,1,1,1] = .skip := by kernel_rfl
theorem c5_52 : P5 [1,1,1,1,0,1,0,0,1,0,0,1,1,1,0,1] = .cond (.tmp 68) (P5 [1,1,1,1,0,1,0,0,1,0,0,1,1,1,0,1,0]) (P5 [1,1,1,1,0,1,0,0,1,0,0,1,1,1,0,1,1]) := by kernel_rfl
theorem k5_53 : P5 [1,1,1,1,0,1,0,0,1,0,0,1,1,1,0,1,0] = .seq (P5 [1,1,1,1,0,1,0,0,1,0,0,1,1,1,0,1,0,0]) (P5 [1,1,1,1,0,1,0,0,1,0,0,1,1,1,0,1,0,1]) := by kernel_rfl
theorem k5_54 : P5 [1,1,1,1,0,1,0,0,1,0,0,1,1,1,0,1,0,0] = .region 15 (O5 [1,1,1,1,0,1,0,0,1,0,0,1,1,1,0,1,0,0]) false := by kernel_rfl
theorem r5_15 {M : Mem} {call : CallM} {K : Array Value → Mem → R} :
    opsK Try.prog (fun _ => call) (O5 [1,1,1,1,0,1,0,0,1,0,0,1,1,1,0,1,0,0]) (O5 [1,1,1,1,0,1,0,0,1,0,0,1,1,1,0,1,0,0]).toList 0 #[g0,g1,g2,g3,g4,g5,g6,g7,g8,g9,g10,g11,g12,g13,g14,g15,g16,g17,g18,g19,g20,g21,g22,g23,g24,g25,g26,g27,g28,g29,g30,g31,g32,g33,g34,g35,g36,g37,g38,g39,g40,g41,g42,g43,g44,g45,g46,g47,g48,g49,g50,g51,g52,g53,g54,g55,g56,g57,g58,g59,g60,g61,g62,g63,g64,g65,g66,g67,g68,g69,g70,g71,g72,g73,g74,g75,g76,g77,g78,g79,g80,g81,g82,g83,g84,g85,g86,g87,g88,g89] M K = K #[g0,g1,g2,g3,.bool false,g5,g6,g7,g8,g9,g10,g11,g12,g13,g14,g15,g16,g17,g18,g19,g20,g21,g22,g23,g24,g25,g26,g27,g28,g29,g30,g31,g32,g33,g34,g35,g36,g37,g38,g39,g40,g41,g42,g43,g44,g45,g46,g47,g48,g49,g50,g51,g52,g53,g54,g55,g56,g57,g58,g59,g60,g61,g62,g63,g64,g65,g66,g67,g68,g69,g70,g71,g72,g73,g74,g75,g76,g77,g78,g79,g80,g81,g82,g83,g84,g85,g86,g87,g88,g89] M := by kernel_rfl
theorem k5_55 : P5 [1,1,1,1,0,1,0,0,1,0,0,1,1,1,0,1,0,1] = .ret := by kernel_rfl
theorem k5_56 : P5 [1,1,1,1,0,1,0,0,1,0,0,1,1,1,0,1,1] = .skip := by kernel_rfl
theorem k5_57 : P5 [1,1,1,1,0,1,0,0,1,0,0,1,1,1,1] = .seq (P5 [1,1,1,1,0,1,0,0,1,0,0,1,1,1,1,0]) (P5 [1,1,1,1,0,1,0,0,1,0,0,1,1,1,1,1]) := by kernel_rfl
theorem k5_58 : P5 [1,1,1,1,0,1,0,0,1,0,0,1,1,1,1,0] = .region 16 (O5 [1,1,1,1,0,1,0,0,1,0,0,1,1,1,1,0]) false := by kernel_rfl
theorem r5_16 {x6 : Option Addr} {M : Mem} {call : CallM} {K : Array Value → Mem → R} :
    opsK Try.prog (fun _ => call) (O5 [1,1,1,1,0,1,0,0,1,0,0,1,1,1,1,0]) (O5 [1,1,1,1,0,1,0,0,1,0,0,1,1,1,1,0]).toList 0 #[g0,g1,g2,g3,g4,g5,.pointer x6,g7,g8,g9,g10,g11,g12,g13,g14,g15,g16,g17,g18,g19,g20,g21,g22,g23,g24,g25,g26,g27,g28,g29,g30,g31,g32,g33,g34,g35,g36,g37,g38,g39,g40,g41,g42,g43,g44,g45,g46,g47,g48,g49,g50,g51,g52,g53,g54,g55,g56,g57,g58,g59,g60,g61,g62,g63,g64,g65,g66,g67,g68,g69,g70,g71,g72,g73,g74,g75,g76,g77,g78,g79,g80,g81,g82,g83,g84,g85,g86,g87,g88,g89] M K = (call 18 #[.pointer x6] M).bind fun r_1 => (asS r_1.1).bind fun s_2 => K #[g0,g1,g2,g3,g4,g5,.pointer x6,g7,g8,g9,g10,g11,g12,.slice s_2.1 (s_2.2.1) (s_2.2.2),g14,g15,g16,g17,g18,g19,g20,g21,g22,g23,g24,g25,g26,g27,g28,g29,g30,g31,g32,g33,g34,g35,g36,g37,g38,g39,g40,g41,g42,g43,g44,g45,g46,g47,g48,g49,g50,g51,g52,g53,g54,g55,g56,g57,g58,g59,g60,g61,g62,g63,g64,g65,g66,g67,g68,.pointer x6,.slice s_2.1 (s_2.2.1) (s_2.2.2),g71,g72,g73,g74,g75,g76,g77,g78,g79,g80,g81,g82,g83,g84,g85,g86,g87,g88,g89] r_1.2 := by kernel_rfl
theorem k5_59 : P5 [1,1,1,1,0,1,0,0,1,0,0,1,1,1,1,1] = .seq (P5 [1,1,1,1,0,1,0,0,1,0,0,1,1,1,1,1,0]) (P5 [1,1,1,1,0,1,0,0,1,0,0,1,1,1,1,1,1]) := by kernel_rfl
theorem k5_60 : P5 [1,1,1,1,0,1,0,0,1,0,0,1,1,1,1,1,0] = .region 17 (O5 [1,1,1,1,0,1,0,0,1,0,0,1,1,1,1,1,0]) false := by kernel_rfl
theorem r5_17 {Ax1 : Option Addr} {lx1 cx1 : Nat} {x6 : Option Addr} {x7 : Int} {M : Mem} {call : CallM} {K : Array Value → Mem → R} :
    opsK Try.prog (fun _ => call) (O5 [1,1,1,1,0,1,0,0,1,0,0,1,1,1,1,1,0]) (O5 [1,1,1,1,0,1,0,0,1,0,0,1,1,1,1,1,0]).toList 0 #[g0,.slice Ax1 lx1 cx1,g2,g3,g4,g5,.pointer x6,.int .i64 x7,g8,g9,g10,g11,g12,g13,g14,g15,g16,g17,g18,g19,g20,g21,g22,g23,g24,g25,g26,g27,g28,g29,g30,g31,g32,g33,g34,g35,g36,g37,g38,g39,g40,g41,g42,g43,g44,g45,g46,g47,g48,g49,g50,g51,g52,g53,g54,g55,g56,g57,g58,g59,g60,g61,g62,g63,g64,g65,g66,g67,g68,g69,g70,g71,g72,g73,g74,g75,g76,g77,g78,g79,g80,g81,g82,g83,g84,g85,g86,g87,g88,g89] M K = (idxA Ax1 lx1 3 x7).bind fun a_1 => (M.intAt .i64 a_1.block a_1.off).bind fun x_2 => (M.intAt .i64 a_1.block (a_1.off + 1)).bind fun x_3 => (M.intAt .u32 a_1.block (a_1.off + 2)).bind fun x_4 => (call 11 #[.pointer x6, .agg #[.int .i64 x_2, .int .i64 x_3, .int .u32 x_4]] M).bind fun r_5 => (asI .i64 r_5.1).bind fun x_6 => K #[g0,.slice Ax1 lx1 cx1,g2,g3,g4,g5,.pointer x6,.int .i64 x7,g8,g9,g10,g11,g12,g13,.int .i64 x_6,g15,g16,g17,g18,g19,g20,g21,g22,g23,g24,g25,g26,g27,g28,g29,g30,g31,g32,g33,g34,g35,g36,g37,g38,g39,g40,g41,g42,g43,g44,g45,g46,g47,g48,g49,g50,g51,g52,g53,g54,g55,g56,g57,g58,g59,g60,g61,g62,g63,g64,g65,g66,g67,g68,g69,g70,.pointer x6,.slice Ax1 lx1 cx1,.int .i64 x7,.pointer (some a_1),.agg #[.int .i64 x_2, .int .i64 x_3, .int .u32 x_4],.int .i64 x_6,g77,g78,g79,g80,g81,g82,g83,g84,g85,g86,g87,g88,g89] r_5.2 := by kernel_rfl
theorem k5_61 : P5 [1,1,1,1,0,1,0,0,1,0,0,1,1,1,1,1,1] = .seq (P5 [1,1,1,1,0,1,0,0,1,0,0,1,1,1,1,1,1,0]) (P5 [1,1,1,1,0,1,0,0,1,0,0,1,1,1,1,1,1,1]) := by kernel_rfl
theorem k5_62 : P5 [1,1,1,1,0,1,0,0,1,0,0,1,1,1,1,1,1,0] = .region 18 (O5 [1,1,1,1,0,1,0,0,1,0,0,1,1,1,1,1,1,0]) false := by kernel_rfl
theorem r5_18 {x6 Ax13 : Option Addr} {lx13 cx13 : Nat} {x14 : Int} {M : Mem} {call : CallM} {K : Array Value → Mem → R} :
    opsK Try.prog (fun _ => call) (O5 [1,1,1,1,0,1,0,0,1,0,0,1,1,1,1,1,1,0]) (O5 [1,1,1,1,0,1,0,0,1,0,0,1,1,1,1,1,1,0]).toList 0 #[g0,g1,g2,g3,g4,g5,.pointer x6,g7,g8,g9,g10,g11,g12,.slice Ax13 lx13 cx13,.int .i64 x14,g15,g16,g17,g18,g19,g20,g21,g22,g23,g24,g25,g26,g27,g28,g29,g30,g31,g32,g33,g34,g35,g36,g37,g38,g39,g40,g41,g42,g43,g44,g45,g46,g47,g48,g49,g50,g51,g52,g53,g54,g55,g56,g57,g58,g59,g60,g61,g62,g63,g64,g65,g66,g67,g68,g69,g70,g71,g72,g73,g74,g75,g76,g77,g78,g79,g80,g81,g82,g83,g84,g85,g86,g87,g88,g89] M K = withK (fun w79 w80 w81 w82 w83 w84 w85 w86 w87 w88 w89 M => K #[g0,g1,g2,g3,g4,g5,.pointer x6,g7,g8,g9,g10,g11,g12,.slice Ax13 lx13 cx13,.int .i64 x14,g15,g16,g17,g18,g19,g20,g21,g22,g23,g24,g25,g26,g27,g28,g29,g30,g31,g32,g33,g34,g35,g36,g37,g38,g39,g40,g41,g42,g43,g44,g45,g46,g47,g48,g49,g50,g51,g52,g53,g54,g55,g56,g57,g58,g59,g60,g61,g62,g63,g64,g65,g66,g67,g68,g69,g70,g71,g72,g73,g74,g75,g76,.int .i64 x14,.bool (x14 != 0),w79,w80,w81,w82,w83,w84,w85,w86,w87,w88,w89] M) fun k => cond (x14 != 0) (cond (x14 != 2) (k (.bool true) (.int .i64 x14) (.bool (x14 != 2)) (.bool true) undef undef undef undef undef (.bool true) (.bool true) M) ((call 18 #[.pointer x6] M).bind fun r_1 => (asS r_1.1).bind fun s_2 => (call 19 #[.slice s_2.1 (s_2.2.1) (s_2.2.2), .slice Ax13 lx13 cx13] r_1.2).bind fun r_3 => (asB r_3.1).bind fun b_4 => k (.bool true) (.int .i64 x14) (.bool (x14 != 2)) (.bool false) (.pointer x6) (.slice s_2.1 (s_2.2.1) (s_2.2.2)) (.slice Ax13 lx13 cx13) (.bool b_4) (.bool (!b_4)) (.bool (!b_4)) (.bool (!b_4)) r_3.2)) (k (.bool false) undef undef undef undef undef undef undef undef undef (.bool false) M) := by kernel_rfl
theorem c5_63 : P5 [1,1,1,1,0,1,0,0,1,0,0,1,1,1,1,1,1,1] = .cond (.tmp 89) (P5 [1,1,1,1,0,1,0,0,1,0,0,1,1,1,1,1,1,1,0]) (P5 [1,1,1,1,0,1,0,0,1,0,0,1,1,1,1,1,1,1,1]) := by kernel_rfl
theorem k5_64 : P5 [1,1,1,1,0,1,0,0,1,0,0,1,1,1,1,1,1,1,0] = .seq (P5 [1,1,1,1,0,1,0,0,1,0,0,1,1,1,1,1,1,1,0,0]) (P5 [1,1,1,1,0,1,0,0,1,0,0,1,1,1,1,1,1,1,0,1]) := by kernel_rfl
theorem k5_65 : P5 [1,1,1,1,0,1,0,0,1,0,0,1,1,1,1,1,1,1,0,0] = .region 19 (O5 [1,1,1,1,0,1,0,0,1,0,0,1,1,1,1,1,1,1,0,0]) false := by kernel_rfl
theorem r5_19 {M : Mem} {call : CallM} {K : Array Value → Mem → R} :
    opsK Try.prog (fun _ => call) (O5 [1,1,1,1,0,1,0,0,1,0,0,1,1,1,1,1,1,1,0,0]) (O5 [1,1,1,1,0,1,0,0,1,0,0,1,1,1,1,1,1,1,0,0]).toList 0 #[g0,g1,g2,g3,g4,g5,g6,g7,g8,g9,g10,g11,g12,g13,g14,g15,g16,g17,g18,g19,g20,g21,g22,g23,g24,g25,g26,g27,g28,g29,g30,g31,g32,g33,g34,g35,g36,g37,g38,g39,g40,g41,g42,g43,g44,g45,g46,g47,g48,g49,g50,g51,g52,g53,g54,g55,g56,g57,g58,g59,g60,g61,g62,g63,g64,g65,g66,g67,g68,g69,g70,g71,g72,g73,g74,g75,g76,g77,g78,g79,g80,g81,g82,g83,g84,g85,g86,g87,g88,g89] M K = K #[g0,g1,g2,g3,.bool false,g5,g6,g7,g8,g9,g10,g11,g12,g13,g14,g15,g16,g17,g18,g19,g20,g21,g22,g23,g24,g25,g26,g27,g28,g29,g30,g31,g32,g33,g34,g35,g36,g37,g38,g39,g40,g41,g42,g43,g44,g45,g46,g47,g48,g49,g50,g51,g52,g53,g54,g55,g56,g57,g58,g59,g60,g61,g62,g63,g64,g65,g66,g67,g68,g69,g70,g71,g72,g73,g74,g75,g76,g77,g78,g79,g80,g81,g82,g83,g84,g85,g86,g87,g88,g89] M := by kernel_rfl
theorem k5_66 : P5 [1,1,1,1,0,1,0,0,1,0,0,1,1,1,1,1,1,1,0,1] = .ret := by kernel_rfl
theorem k5_67 : P5 [1,1,1,1,0,1,0,0,1,0,0,1,1,1,1,1,1,1,1] = .skip := by kernel_rfl
theorem k5_68 : P5 [1,1,1,1,0,1,0,0,1,1] = .region 7 (O5 [1,1,1,1,0,1,0,0,1,1]) false := by kernel_rfl
theorem r5_7 {x7 : Int} {M : Mem} {call : CallM} {K : Array Value → Mem → R} :
    opsK Try.prog (fun _ => call) (O5 [1,1,1,1,0,1,0,0,1,1]) (O5 [1,1,1,1,0,1,0,0,1,1]).toList 0 #[g0,g1,g2,g3,g4,g5,g6,.int .i64 x7,g8,g9,g10,g11,g12,g13,g14,g15,g16,g17,g18,g19,g20,g21,g22,g23,g24,g25,g26,g27,g28,g29,g30,g31,g32,g33,g34,g35,g36,g37,g38,g39,g40,g41,g42,g43,g44,g45,g46,g47,g48,g49,g50,g51,g52,g53,g54,g55,g56,g57,g58,g59,g60,g61,g62,g63,g64,g65,g66,g67,g68,g69,g70,g71,g72,g73,g74,g75,g76,g77,g78,g79,g80,g81,g82,g83,g84,g85,g86,g87,g88,g89] M K = K #[g0,g1,g2,g3,g4,g5,g6,.int .i64 (IntKind.i64.wrap (x7 + 1)),g8,g9,g10,g11,g12,g13,g14,g15,g16,g17,g18,g19,g20,g21,g22,g23,g24,g25,g26,g27,.int .i64 x7,.int .i64 (IntKind.i64.wrap (x7 + 1)),g30,g31,g32,g33,g34,g35,g36,g37,g38,g39,g40,g41,g42,g43,g44,g45,g46,g47,g48,g49,g50,g51,g52,g53,g54,g55,g56,g57,g58,g59,g60,g61,g62,g63,g64,g65,g66,g67,g68,g69,g70,g71,g72,g73,g74,g75,g76,g77,g78,g79,g80,g81,g82,g83,g84,g85,g86,g87,g88,g89] M := by kernel_rfl
noncomputable def S5_1 : List Item := [.code (P5 [1,1,1,1,0,1,0,0]), .inLoop (P5 [1,1,1,1,0,1,0,0]), .inBlock 0, .code (P5 [1,1,1,1,1])]
def A5_1 (Ax1 : Option Addr) (lx1 cx1 : Nat) (x5 x6 : Option Addr) (x7 : Int) (M : Mem) (Q : Value → Mem → Prop) : Prop := ∀ (g0 g2 g3 g4 g8 g9 g10 g11 g12 g13 g14 g15 g16 g17 g18 g19 g20 g21 g22 g23 g24 g25 g26 g27 g28 g29 g30 g31 g32 g33 g34 g35 g36 g37 g38 g39 g40 g41 g42 g43 g44 g45 g46 g47 g48 g49 g50 g51 g52 g53 g54 g55 g56 g57 g58 g59 g60 g61 g62 g63 g64 g65 g66 g67 g68 g69 g70 g71 g72 g73 g74 g75 g76 g77 g78 g79 g80 g81 g82 g83 g84 g85 g86 g87 g88 g89 : Value), Rn Try.prog Try.f5 S5_1 #[g0, .slice Ax1 lx1 cx1, g2, g3, g4, .pointer x5, .pointer x6, .int .i64 x7, g8, g9, g10, g11, g12, g13, g14, g15, g16, g17, g18, g19, g20, g21, g22, g23, g24, g25, g26, g27, g28, g29, g30, g31, g32, g33, g34, g35, g36, g37, g38, g39, g40, g41, g42, g43, g44, g45, g46, g47, g48, g49, g50, g51, g52, g53, g54, g55, g56, g57, g58, g59, g60, g61, g62, g63, g64, g65, g66, g67, g68, g69, g70, g71, g72, g73, g74, g75, g76, g77, g78, g79, g80, g81, g82, g83, g84, g85, g86, g87, g88, g89] M Q
noncomputable def S5_2 : List Item := [.code (P5 [1,1,1,1,0,1,0,0,0,1]), .code (P5 [1,1,1,1,0,1,0,0,1]), .inLoop (P5 [1,1,1,1,0,1,0,0]), .inBlock 0, .code (P5 [1,1,1,1,1])]
def A5_2 (Ax1 : Option Addr) (lx1 cx1 : Nat) (x5 x6 : Option Addr) (x7 : Int) (x27 : Bool) (M : Mem) (Q : Value → Mem → Prop) : Prop := ∀ (g0 g2 g3 g4 g8 g9 g10 g11 g12 g13 g14 g15 g16 g17 g18 g19 g20 g21 g22 g23 g24 g25 g26 g28 g29 g30 g31 g32 g33 g34 g35 g36 g37 g38 g39 g40 g41 g42 g43 g44 g45 g46 g47 g48 g49 g50 g51 g52 g53 g54 g55 g56 g57 g58 g59 g60 g61 g62 g63 g64 g65 g66 g67 g68 g69 g70 g71 g72 g73 g74 g75 g76 g77 g78 g79 g80 g81 g82 g83 g84 g85 g86 g87 g88 g89 : Value), Rn Try.prog Try.f5 S5_2 #[g0, .slice Ax1 lx1 cx1, g2, g3, g4, .pointer x5, .pointer x6, .int .i64 x7, g8, g9, g10, g11, g12, g13, g14, g15, g16, g17, g18, g19, g20, g21, g22, g23, g24, g25, g26, .bool x27, g28, g29, g30, g31, g32, g33, g34, g35, g36, g37, g38, g39, g40, g41, g42, g43, g44, g45, g46, g47, g48, g49, g50, g51, g52, g53, g54, g55, g56, g57, g58, g59, g60, g61, g62, g63, g64, g65, g66, g67, g68, g69, g70, g71, g72, g73, g74, g75, g76, g77, g78, g79, g80, g81, g82, g83, g84, g85, g86, g87, g88, g89] M Q
noncomputable def S5_3 : List Item := [.code (P5 [1,1,1,1,0,1,0,0,1,0,0,1,1,0,1,0,1,1]), .code (P5 [1,1,1,1,0,1,0,0,1,0,0,1,1,1]), .inBlock 1, .code (P5 [1,1,1,1,0,1,0,0,1,1]), .inLoop (P5 [1,1,1,1,0,1,0,0]), .inBlock 0, .code (P5 [1,1,1,1,1])]
def A5_3 (Ax1 : Option Addr) (lx1 cx1 : Nat) (x5 x6 : Option Addr) (x7 x8 x10 : Int) (x60 : Bool) (M : Mem) (Q : Value → Mem → Prop) : Prop := ∀ (g0 g2 g3 g4 g9 g11 g12 g13 g14 g15 g16 g17 g18 g19 g20 g21 g22 g23 g24 g25 g26 g27 g28 g29 g30 g31 g32 g33 g34 g35 g36 g37 g38 g39 g40 g41 g42 g43 g44 g45 g46 g47 g48 g49 g50 g51 g52 g53 g54 g55 g56 g57 g58 g59 g61 g62 g63 g64 g65 g66 g67 g68 g69 g70 g71 g72 g73 g74 g75 g76 g77 g78 g79 g80 g81 g82 g83 g84 g85 g86 g87 g88 g89 : Value), Rn Try.prog Try.f5 S5_3 #[g0, .slice Ax1 lx1 cx1, g2, g3, g4, .pointer x5, .pointer x6, .int .i64 x7, .int .i64 x8, g9, .int .i64 x10, g11, g12, g13, g14, g15, g16, g17, g18, g19, g20, g21, g22, g23, g24, g25, g26, g27, g28, g29, g30, g31, g32, g33, g34, g35, g36, g37, g38, g39, g40, g41, g42, g43, g44, g45, g46, g47, g48, g49, g50, g51, g52, g53, g54, g55, g56, g57, g58, g59, .bool x60, g61, g62, g63, g64, g65, g66, g67, g68, g69, g70, g71, g72, g73, g74, g75, g76, g77, g78, g79, g80, g81, g82, g83, g84, g85, g86, g87, g88, g89] M Q
noncomputable def S5_4 : List Item := [.code (P5 [1,1,1,1,0,1,0,0,1,0,0,1,1,1,0,1]), .code (P5 [1,1,1,1,0,1,0,0,1,0,0,1,1,1,1]), .inBlock 1, .code (P5 [1,1,1,1,0,1,0,0,1,1]), .inLoop (P5 [1,1,1,1,0,1,0,0]), .inBlock 0, .code (P5 [1,1,1,1,1])]
def A5_4 (Ax1 : Option Addr) (lx1 cx1 : Nat) (x5 x6 : Option Addr) (x7 : Int) (x68 : Bool) (M : Mem) (Q : Value → Mem → Prop) : Prop := ∀ (g0 g2 g3 g4 g8 g9 g10 g11 g12 g13 g14 g15 g16 g17 g18 g19 g20 g21 g22 g23 g24 g25 g26 g27 g28 g29 g30 g31 g32 g33 g34 g35 g36 g37 g38 g39 g40 g41 g42 g43 g44 g45 g46 g47 g48 g49 g50 g51 g52 g53 g54 g55 g56 g57 g58 g59 g60 g61 g62 g63 g64 g65 g66 g67 g69 g70 g71 g72 g73 g74 g75 g76 g77 g78 g79 g80 g81 g82 g83 g84 g85 g86 g87 g88 g89 : Value), Rn Try.prog Try.f5 S5_4 #[g0, .slice Ax1 lx1 cx1, g2, g3, g4, .pointer x5, .pointer x6, .int .i64 x7, g8, g9, g10, g11, g12, g13, g14, g15, g16, g17, g18, g19, g20, g21, g22, g23, g24, g25, g26, g27, g28, g29, g30, g31, g32, g33, g34, g35, g36, g37, g38, g39, g40, g41, g42, g43, g44, g45, g46, g47, g48, g49, g50, g51, g52, g53, g54, g55, g56, g57, g58, g59, g60, g61, g62, g63, g64, g65, g66, g67, .bool x68, g69, g70, g71, g72, g73, g74, g75, g76, g77, g78, g79, g80, g81, g82, g83, g84, g85, g86, g87, g88, g89] M Q
noncomputable def S5_5 : List Item := [.code (P5 [1,1,1,1,0,1,0,0,1,0,0,1,1,1,1,1,1,1]), .inBlock 1, .code (P5 [1,1,1,1,0,1,0,0,1,1]), .inLoop (P5 [1,1,1,1,0,1,0,0]), .inBlock 0, .code (P5 [1,1,1,1,1])]
def A5_5 (Ax1 : Option Addr) (lx1 cx1 : Nat) (x5 x6 : Option Addr) (x7 : Int) (x89 : Bool) (M : Mem) (Q : Value → Mem → Prop) : Prop := ∀ (g0 g2 g3 g4 g8 g9 g10 g11 g12 g13 g14 g15 g16 g17 g18 g19 g20 g21 g22 g23 g24 g25 g26 g27 g28 g29 g30 g31 g32 g33 g34 g35 g36 g37 g38 g39 g40 g41 g42 g43 g44 g45 g46 g47 g48 g49 g50 g51 g52 g53 g54 g55 g56 g57 g58 g59 g60 g61 g62 g63 g64 g65 g66 g67 g68 g69 g70 g71 g72 g73 g74 g75 g76 g77 g78 g79 g80 g81 g82 g83 g84 g85 g86 g87 g88 : Value), Rn Try.prog Try.f5 S5_5 #[g0, .slice Ax1 lx1 cx1, g2, g3, g4, .pointer x5, .pointer x6, .int .i64 x7, g8, g9, g10, g11, g12, g13, g14, g15, g16, g17, g18, g19, g20, g21, g22, g23, g24, g25, g26, g27, g28, g29, g30, g31, g32, g33, g34, g35, g36, g37, g38, g39, g40, g41, g42, g43, g44, g45, g46, g47, g48, g49, g50, g51, g52, g53, g54, g55, g56, g57, g58, g59, g60, g61, g62, g63, g64, g65, g66, g67, g68, g69, g70, g71, g72, g73, g74, g75, g76, g77, g78, g79, g80, g81, g82, g83, g84, g85, g86, g87, g88, .bool x89] M Q
theorem w5_0 {Ax0 : Option Addr} {lx0 cx0 : Nat} {Ax1 : Option Addr} {lx1 cx1 : Nat} {M : Mem} {Q : Value → Mem → Prop} (H :
    Cn Try.prog 21 #[] M fun v1' N1' =>
     ∃ b2', asB v1' = some b2' ∧
     (((!b2') = true →
      Q (.bool false) N1') ∧
      ((!b2') = false →
      Cn Try.prog 22 #[.slice Ax0 lx0 cx0] N1' fun v3' N3' =>
       ∃ p4', asP v3' = some p4' ∧
       Cn Try.prog 9 #[] N3' fun v5' N5' =>
        ∃ p6', asP v5' = some p6' ∧
        A5_1 Ax1 lx1 cx1 p4' p6' 0 N5' Q))) :
    Cn Try.prog 5 #[.slice Ax0 lx0 cx0, .slice Ax1 lx1 cx1] M Q := by
  refine Cn.of b5 d5 t5 ?_
  refine Rn.seq k5_0 (Rn.region k5_1 (fun call K => r5_0) (Rch.leaf (Rn.seq k5_2 (Rn.seq k5_3 (Rn.region k5_4 (fun call K => r5_1) (Rch.call H fun v1' N1' H => Rch.ex H fun b2' H => Rch.leaf ?_))))))
  refine Rn.cnd (v := !b2') ⟨c5_5, rfl, by kernel_rfl⟩ (fun h => ?_) (fun h => ?_)
  · replace H := H.1 (h)
    refine Rn.seq k5_6 (Rn.region k5_7 (fun call K => r5_2) (Rch.leaf ?_))
    exact Rn.ret k5_8 e5 H
  · replace H := H.2 (h)
    refine Rn.skip k5_10 (Rn.seq k5_11 (Rn.region k5_12 (fun call K => r5_3) (Rch.call H fun v3' N3' H => Rch.ex H fun p4' H => Rch.leaf (Rn.seq k5_13 (Rn.region k5_14 (fun call K => r5_4) (Rch.call H fun v5' N5' H => Rch.ex H fun p6' H => Rch.leaf (Rn.seq k5_15 ?_)))))))
    refine Rn.seq k5_16 (Rn.region k5_17 (fun call K => r5_5) (Rch.leaf (Rn.block k5_18 (Rn.loop k5_19 ?_))))
    exact H _ _ _ _ _ _ _ _ _ _ _ _ _ _ _ _ _ _ _ _ _ _ _ _ _ _ _ _ _ _ _ _ _ _ _ _ _ _ _ _ _ _ _ _ _ _ _ _ _ _ _ _ _ _ _ _ _ _ _ _ _ _ _ _ _ _ _ _ _ _ _ _ _ _ _ _ _ _ _ _ _ _ _ _ _ _

theorem w5_1 {Ax1 : Option Addr} {lx1 cx1 : Nat} {x5 x6 : Option Addr} {x7 : Int} {M : Mem} {Q : Value → Mem → Prop} (H :
    ((x7 < ((lx1 : Int)) →
     A5_2 Ax1 lx1 cx1 x5 x6 x7 (decide (x7 < 100)) M Q) ∧
     (¬ (x7 < ((lx1 : Int))) →
     A5_2 Ax1 lx1 cx1 x5 x6 x7 false M Q))) :
    A5_1 Ax1 lx1 cx1 x5 x6 x7 M Q := by
  intro g0 g2 g3 g4 g8 g9 g10 g11 g12 g13 g14 g15 g16 g17 g18 g19 g20 g21 g22 g23 g24 g25 g26 g27 g28 g29 g30 g31 g32 g33 g34 g35 g36 g37 g38 g39 g40 g41 g42 g43 g44 g45 g46 g47 g48 g49 g50 g51 g52 g53 g54 g55 g56 g57 g58 g59 g60 g61 g62 g63 g64 g65 g66 g67 g68 g69 g70 g71 g72 g73 g74 g75 g76 g77 g78 g79 g80 g81 g82 g83 g84 g85 g86 g87 g88 g89
  refine Rn.seq k5_20 (Rn.seq k5_21 (Rn.region k5_22 (fun call K => r5_6) ?_))
  refine Rch.cB (fun h => ?_) (fun h => ?_)
  · replace H := H.1 (of_decide_eq_true h)
    refine Rch.leaf ?_
    exact H _ _ _ _ _ _ _ _ _ _ _ _ _ _ _ _ _ _ _ _ _ _ _ _ _ _ _ _ _ _ _ _ _ _ _ _ _ _ _ _ _ _ _ _ _ _ _ _ _ _ _ _ _ _ _ _ _ _ _ _ _ _ _ _ _ _ _ _ _ _ _ _ _ _ _ _ _ _ _ _ _ _ _ _ _
  · replace H := H.2 (of_decide_eq_false h)
    refine Rch.leaf ?_
    exact H _ _ _ _ _ _ _ _ _ _ _ _ _ _ _ _ _ _ _ _ _ _ _ _ _ _ _ _ _ _ _ _ _ _ _ _ _ _ _ _ _ _ _ _ _ _ _ _ _ _ _ _ _ _ _ _ _ _ _ _ _ _ _ _ _ _ _ _ _ _ _ _ _ _ _ _ _ _ _ _ _ _ _ _ _

theorem w5_2 {Ax1 : Option Addr} {lx1 cx1 : Nat} {x5 x6 : Option Addr} {x7 : Int} {x27 : Bool} {M : Mem} {Q : Value → Mem → Prop} (H :
    ((x27 = true →
     Cn Try.prog 24 #[.pointer x5] M fun v7' N7' =>
      ∃ x8', asI .i64 v7' = some x8' ∧
      ∃ a9', idxA Ax1 lx1 3 x7 = some a9' ∧
      ∃ x10', N7'.intAt .i64 a9'.block a9'.off = some x10' ∧
      ∃ x11', N7'.intAt .i64 a9'.block (a9'.off + 1) = some x11' ∧
      ∃ x12', N7'.intAt .u32 a9'.block (a9'.off + 2) = some x12' ∧
      Cn Try.prog 23 #[.pointer x5, .agg #[.int .i64 x10', .int .i64 x11', .int .u32 x12']] N7' fun v13' N13' =>
       ∃ cs14', asU 2 v13' = some cs14' ∧
       ∃ x15', asI .u32 (cs14'.getD 0 undef) = some x15' ∧
       ∃ x16', asI .i64 (cs14'.getD 1 undef) = some x16' ∧
       ((x16' ≠ 0 →
        ∃ a17', idxA Ax1 lx1 3 x7 = some a17' ∧
        ∃ x18', N13'.intAt .i64 a17'.block a17'.off = some x18' ∧
        ∃ x19', N13'.intAt .i64 a17'.block (a17'.off + 1) = some x19' ∧
        ∃ x20', N13'.intAt .u32 a17'.block (a17'.off + 2) = some x20' ∧
        Cn Try.prog 23 #[.pointer x5, .agg #[.int .i64 x18', .int .i64 x19', .int .u32 x20']] N13' fun v21' N21' =>
         ∃ cs22', asU 2 v21' = some cs22' ∧
         ∃ x23', asI .u32 (cs22'.getD 0 undef) = some x23' ∧
         ∃ x24', asI .i64 (cs22'.getD 1 undef) = some x24' ∧
         ((x24' ≠ x16' →
          A5_3 Ax1 lx1 cx1 x5 x6 x7 x8' x16' true N21' Q) ∧
          (x24' = x16' →
          Cn Try.prog 24 #[.pointer x5] N21' fun v25' N25' =>
           ∃ x26', asI .i64 v25' = some x26' ∧
           A5_3 Ax1 lx1 cx1 x5 x6 x7 x8' x16' (x26' != x8') N25' Q))) ∧
        (x16' = 0 →
        ((x16' = 0 →
         Cn Try.prog 24 #[.pointer x5] N13' fun v27' N27' =>
          ∃ x28', asI .i64 v27' = some x28' ∧
          A5_4 Ax1 lx1 cx1 x5 x6 x7 (decide (x28' > x8')) N27' Q) ∧
         (x16' ≠ 0 →
         A5_4 Ax1 lx1 cx1 x5 x6 x7 false N13' Q))))) ∧
     (x27 = false →
     Q (.bool true) M))) :
    A5_2 Ax1 lx1 cx1 x5 x6 x7 x27 M Q := by
  intro g0 g2 g3 g4 g8 g9 g10 g11 g12 g13 g14 g15 g16 g17 g18 g19 g20 g21 g22 g23 g24 g25 g26 g28 g29 g30 g31 g32 g33 g34 g35 g36 g37 g38 g39 g40 g41 g42 g43 g44 g45 g46 g47 g48 g49 g50 g51 g52 g53 g54 g55 g56 g57 g58 g59 g60 g61 g62 g63 g64 g65 g66 g67 g68 g69 g70 g71 g72 g73 g74 g75 g76 g77 g78 g79 g80 g81 g82 g83 g84 g85 g86 g87 g88 g89
  refine Rn.cnd (v := x27) ⟨c5_23, rfl, by kernel_rfl⟩ (fun h => ?_) (fun h => ?_)
  · replace H := H.1 (h)
    refine Rn.skip k5_24 (Rn.seq k5_25 (Rn.block k5_26 (Rn.seq k5_27 (Rn.region k5_28 (fun call K => r5_8) (Rch.call H fun v7' N7' H => Rch.ex H fun x8' H => Rch.leaf (Rn.seq k5_29 (Rn.region k5_30 (fun call K => r5_9) (Rch.ex H fun a9' H => Rch.ex H fun x10' H => ?_))))))))
    refine Rch.ex H fun x11' H => Rch.ex H fun x12' H => Rch.call H fun v13' N13' H => Rch.ex H fun cs14' H => Rch.ex H fun x15' H => Rch.ex H fun x16' H => Rch.leaf (Rn.seq k5_31 (Rn.seq k5_32 (Rn.region k5_33 (fun call K => r5_10) (Rch.leaf ?_))))
    refine Rn.cnd (v := x16' != 0) ⟨c5_34, rfl, by kernel_rfl⟩ (fun h => ?_) (fun h => ?_)
    · replace H := H.1 (ne_of_bneT h)
      refine Rn.seq k5_35 (Rn.region k5_36 (fun call K => r5_11) (Rch.ex H fun a17' H => Rch.ex H fun x18' H => Rch.ex H fun x19' H => Rch.ex H fun x20' H => Rch.call H fun v21' N21' H => Rch.ex H fun cs22' H => Rch.ex H fun x23' H => Rch.ex H fun x24' H => Rch.leaf (Rn.seq k5_37 ?_)))
      refine Rn.region k5_38 (fun call K => r5_12) ?_
      refine Rch.cB (fun h => ?_) (fun h => ?_)
      · replace H := H.1 (ne_of_bneT h)
        refine Rch.leaf ?_
        exact H _ _ _ _ _ _ _ _ _ _ _ _ _ _ _ _ _ _ _ _ _ _ _ _ _ _ _ _ _ _ _ _ _ _ _ _ _ _ _ _ _ _ _ _ _ _ _ _ _ _ _ _ _ _ _ _ _ _ _ _ _ _ _ _ _ _ _ _ _ _ _ _ _ _ _ _ _ _ _ _ _ _ _
      · replace H := H.2 (eq_of_bneF h)
        refine Rch.call H fun v25' N25' H => Rch.ex H fun x26' H => Rch.leaf ?_
        exact H _ _ _ _ _ _ _ _ _ _ _ _ _ _ _ _ _ _ _ _ _ _ _ _ _ _ _ _ _ _ _ _ _ _ _ _ _ _ _ _ _ _ _ _ _ _ _ _ _ _ _ _ _ _ _ _ _ _ _ _ _ _ _ _ _ _ _ _ _ _ _ _ _ _ _ _ _ _ _ _ _ _ _
    · replace H := H.2 (eq_of_bneF h)
      refine Rn.skip k5_39 (Rn.seq k5_40 (Rn.seq k5_41 (Rn.region k5_42 (fun call K => r5_14) ?_)))
      refine Rch.cB (fun h => ?_) (fun h => ?_)
      · replace H := H.1 (eq_of_beq h)
        refine Rch.call H fun v27' N27' H => Rch.ex H fun x28' H => Rch.leaf ?_
        exact H _ _ _ _ _ _ _ _ _ _ _ _ _ _ _ _ _ _ _ _ _ _ _ _ _ _ _ _ _ _ _ _ _ _ _ _ _ _ _ _ _ _ _ _ _ _ _ _ _ _ _ _ _ _ _ _ _ _ _ _ _ _ _ _ _ _ _ _ _ _ _ _ _ _ _ _ _ _ _ _ _ _ _ _ _
      · replace H := H.2 (ne_of_beq_false h)
        refine Rch.leaf ?_
        exact H _ _ _ _ _ _ _ _ _ _ _ _ _ _ _ _ _ _ _ _ _ _ _ _ _ _ _ _ _ _ _ _ _ _ _ _ _ _ _ _ _ _ _ _ _ _ _ _ _ _ _ _ _ _ _ _ _ _ _ _ _ _ _ _ _ _ _ _ _ _ _ _ _ _ _ _ _ _ _ _ _ _ _ _ _
  · replace H := H.2 (h)
    refine Rn.exit k5_43 rfl (Rn.seq k5_44 (Rn.region k5_45 (fun call K => r5_20) (Rch.leaf ?_)))
    exact Rn.ret k5_46 e5 H

theorem w5_3 {Ax1 : Option Addr} {lx1 cx1 : Nat} {x5 x6 : Option Addr} {x7 x8 x10 : Int} {x60 : Bool} {M : Mem} {Q : Value → Mem → Prop} (H :
    ((x60 = true →
     Q (.bool false) M) ∧
     (x60 = false →
     ((x10 = 0 →
      Cn Try.prog 24 #[.pointer x5] M fun v29' N29' =>
       ∃ x30', asI .i64 v29' = some x30' ∧
       A5_4 Ax1 lx1 cx1 x5 x6 x7 (decide (x30' > x8)) N29' Q) ∧
      (x10 ≠ 0 →
      A5_4 Ax1 lx1 cx1 x5 x6 x7 false M Q))))) :
    A5_3 Ax1 lx1 cx1 x5 x6 x7 x8 x10 x60 M Q := by
  intro g0 g2 g3 g4 g9 g11 g12 g13 g14 g15 g16 g17 g18 g19 g20 g21 g22 g23 g24 g25 g26 g27 g28 g29 g30 g31 g32 g33 g34 g35 g36 g37 g38 g39 g40 g41 g42 g43 g44 g45 g46 g47 g48 g49 g50 g51 g52 g53 g54 g55 g56 g57 g58 g59 g61 g62 g63 g64 g65 g66 g67 g68 g69 g70 g71 g72 g73 g74 g75 g76 g77 g78 g79 g80 g81 g82 g83 g84 g85 g86 g87 g88 g89
  refine Rn.cnd (v := x60) ⟨c5_47, rfl, by kernel_rfl⟩ (fun h => ?_) (fun h => ?_)
  · replace H := H.1 (h)
    refine Rn.seq k5_48 (Rn.region k5_49 (fun call K => r5_13) (Rch.leaf ?_))
    exact Rn.ret k5_50 e5 H
  · replace H := H.2 (h)
    refine Rn.skip k5_51 (Rn.seq k5_40 (Rn.seq k5_41 (Rn.region k5_42 (fun call K => r5_14) ?_)))
    refine Rch.cB (fun h => ?_) (fun h => ?_)
    · replace H := H.1 (eq_of_beq h)
      refine Rch.call H fun v29' N29' H => Rch.ex H fun x30' H => Rch.leaf ?_
      exact H _ _ _ _ _ _ _ _ _ _ _ _ _ _ _ _ _ _ _ _ _ _ _ _ _ _ _ _ _ _ _ _ _ _ _ _ _ _ _ _ _ _ _ _ _ _ _ _ _ _ _ _ _ _ _ _ _ _ _ _ _ _ _ _ _ _ _ _ _ _ _ _ _ _ _ _ _ _ _ _ _ _ _ _ _
    · replace H := H.2 (ne_of_beq_false h)
      refine Rch.leaf ?_
      exact H _ _ _ _ _ _ _ _ _ _ _ _ _ _ _ _ _ _ _ _ _ _ _ _ _ _ _ _ _ _ _ _ _ _ _ _ _ _ _ _ _ _ _ _ _ _ _ _ _ _ _ _ _ _ _ _ _ _ _ _ _ _ _ _ _ _ _ _ _ _ _ _ _ _ _ _ _ _ _ _ _ _ _ _ _

theorem w5_4 {Ax1 : Option Addr} {lx1 cx1 : Nat} {x5 x6 : Option Addr} {x7 : Int} {x68 : Bool} {M : Mem} {Q : Value → Mem → Prop} (H :
    ((x68 = true →
     Q (.bool false) M) ∧
     (x68 = false →
     Cn Try.prog 18 #[.pointer x6] M fun v31' N31' =>
      ∃ s32', asS v31' = some s32' ∧
      ∃ a33', idxA Ax1 lx1 3 x7 = some a33' ∧
      ∃ x34', N31'.intAt .i64 a33'.block a33'.off = some x34' ∧
      ∃ x35', N31'.intAt .i64 a33'.block (a33'.off + 1) = some x35' ∧
      ∃ x36', N31'.intAt .u32 a33'.block (a33'.off + 2) = some x36' ∧
      Cn Try.prog 11 #[.pointer x6, .agg #[.int .i64 x34', .int .i64 x35', .int .u32 x36']] N31' fun v37' N37' =>
       ∃ x38', asI .i64 v37' = some x38' ∧
       ((x38' ≠ 0 →
        ((x38' ≠ 2 →
         A5_5 Ax1 lx1 cx1 x5 x6 x7 true N37' Q) ∧
         (x38' = 2 →
         Cn Try.prog 18 #[.pointer x6] N37' fun v39' N39' =>
          ∃ s40', asS v39' = some s40' ∧
          Cn Try.prog 19 #[.slice s40'.1 (s40'.2.1) (s40'.2.2), .slice s32'.1 s32'.2.1 s32'.2.2] N39' fun v41' N41' =>
           ∃ b42', asB v41' = some b42' ∧
           A5_5 Ax1 lx1 cx1 x5 x6 x7 (!b42') N41' Q))) ∧
        (x38' = 0 →
        A5_5 Ax1 lx1 cx1 x5 x6 x7 false N37' Q))))) :
    A5_4 Ax1 lx1 cx1 x5 x6 x7 x68 M Q := by
  intro g0 g2 g3 g4 g8 g9 g10 g11 g12 g13 g14 g15 g16 g17 g18 g19 g20 g21 g22 g23 g24 g25 g26 g27 g28 g29 g30 g31 g32 g33 g34 g35 g36 g37 g38 g39 g40 g41 g42 g43 g44 g45 g46 g47 g48 g49 g50 g51 g52 g53 g54 g55 g56 g57 g58 g59 g60 g61 g62 g63 g64 g65 g66 g67 g69 g70 g71 g72 g73 g74 g75 g76 g77 g78 g79 g80 g81 g82 g83 g84 g85 g86 g87 g88 g89
  refine Rn.cnd (v := x68) ⟨c5_52, rfl, by kernel_rfl⟩ (fun h => ?_) (fun h => ?_)
  · replace H := H.1 (h)
    refine Rn.seq k5_53 (Rn.region k5_54 (fun call K => r5_15) (Rch.leaf ?_))
    exact Rn.ret k5_55 e5 H
  · replace H := H.2 (h)
    refine Rn.skip k5_56 (Rn.seq k5_57 (Rn.region k5_58 (fun call K => r5_16) (Rch.call H fun v31' N31' H => Rch.ex H fun s32' H => Rch.leaf (Rn.seq k5_59 (Rn.region k5_60 (fun call K => r5_17) (Rch.ex H fun a33' H => Rch.ex H fun x34' H => Rch.ex H fun x35' H => Rch.ex H fun x36' H => ?_))))))
    refine Rch.call H fun v37' N37' H => Rch.ex H fun x38' H => Rch.leaf (Rn.seq k5_61 (Rn.region k5_62 (fun call K => r5_18) ?_))
    refine Rch.cB (fun h => ?_) (fun h => ?_)
    · replace H := H.1 (ne_of_bneT h)
      refine Rch.cB (fun h => ?_) (fun h => ?_)
      · replace H := H.1 (ne_of_bneT h)
        refine Rch.leaf ?_
        exact H _ _ _ _ _ _ _ _ _ _ _ _ _ _ _ _ _ _ _ _ _ _ _ _ _ _ _ _ _ _ _ _ _ _ _ _ _ _ _ _ _ _ _ _ _ _ _ _ _ _ _ _ _ _ _ _ _ _ _ _ _ _ _ _ _ _ _ _ _ _ _ _ _ _ _ _ _ _ _ _ _ _ _ _ _
      · replace H := H.2 (eq_of_bneF h)
        refine Rch.call H fun v39' N39' H => Rch.ex H fun s40' H => Rch.call H fun v41' N41' H => Rch.ex H fun b42' H => Rch.leaf ?_
        exact H _ _ _ _ _ _ _ _ _ _ _ _ _ _ _ _ _ _ _ _ _ _ _ _ _ _ _ _ _ _ _ _ _ _ _ _ _ _ _ _ _ _ _ _ _ _ _ _ _ _ _ _ _ _ _ _ _ _ _ _ _ _ _ _ _ _ _ _ _ _ _ _ _ _ _ _ _ _ _ _ _ _ _ _ _
    · replace H := H.2 (eq_of_bneF h)
      refine Rch.leaf ?_
      exact H _ _ _ _ _ _ _ _ _ _ _ _ _ _ _ _ _ _ _ _ _ _ _ _ _ _ _ _ _ _ _ _ _ _ _ _ _ _ _ _ _ _ _ _ _ _ _ _ _ _ _ _ _ _ _ _ _ _ _ _ _ _ _ _ _ _ _ _ _ _ _ _ _ _ _ _ _ _ _ _ _ _ _ _ _

theorem w5_5 {Ax1 : Option Addr} {lx1 cx1 : Nat} {x5 x6 : Option Addr} {x7 : Int} {x89 : Bool} {M : Mem} {Q : Value → Mem → Prop} (H :
    ((x89 = true →
     Q (.bool false) M) ∧
     (x89 = false →
     A5_1 Ax1 lx1 cx1 x5 x6 (IntKind.i64.wrap (x7 + 1)) M Q))) :
    A5_5 Ax1 lx1 cx1 x5 x6 x7 x89 M Q := by
  intro g0 g2 g3 g4 g8 g9 g10 g11 g12 g13 g14 g15 g16 g17 g18 g19 g20 g21 g22 g23 g24 g25 g26 g27 g28 g29 g30 g31 g32 g33 g34 g35 g36 g37 g38 g39 g40 g41 g42 g43 g44 g45 g46 g47 g48 g49 g50 g51 g52 g53 g54 g55 g56 g57 g58 g59 g60 g61 g62 g63 g64 g65 g66 g67 g68 g69 g70 g71 g72 g73 g74 g75 g76 g77 g78 g79 g80 g81 g82 g83 g84 g85 g86 g87 g88
  refine Rn.cnd (v := x89) ⟨c5_63, rfl, by kernel_rfl⟩ (fun h => ?_) (fun h => ?_)
  · replace H := H.1 (h)
    refine Rn.seq k5_64 (Rn.region k5_65 (fun call K => r5_19) (Rch.leaf ?_))
    exact Rn.ret k5_66 e5 H
  · replace H := H.2 (h)
    refine Rn.skip k5_67 (Rn.blk (Rn.region k5_68 (fun call K => r5_7) (Rch.leaf (Rn.lp ?_))))
    exact H _ _ _ _ _ _ _ _ _ _ _ _ _ _ _ _ _ _ _ _ _ _ _ _ _ _ _ _ _ _ _ _ _ _ _ _ _ _ _ _ _ _ _ _ _ _ _ _ _ _ _ _ _ _ _ _ _ _ _ _ _ _ _ _ _ _ _ _ _ _ _ _ _ _ _ _ _ _ _ _ _ _ _ _ _ _


end Go.Zt
