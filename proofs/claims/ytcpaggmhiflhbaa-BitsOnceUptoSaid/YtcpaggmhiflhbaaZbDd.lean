/- The functions' walks: for each function and each loop a rule of what it comes to. Printed by zw.py. -/
import Derived.Test.YtcpaggmhiflhbaaProg
import Derived.Test.YtcpaggmhiflhbaaZbA
set_option linter.unusedVariables false
set_option maxRecDepth 100000
namespace Go.Zt
open Go Go.Sim Go.Proofs

variable {g0 g1 g2 g3 g4 g5 g6 g7 g8 g9 g10 g11 g12 g13 g14 g15 g16 g17 g18 g19 g20 g21 g22 g23 g24 g25 g26 g27 g28 g29 g30 g31 g32 g33 g34 g35 g36 g37 g38 g39 g40 g41 g42 g43 g44 g45 g46 g47 g48 g49 g50 g51 g52 g53 g54 g55 g56 g57 g58 g59 g60 g61 g62 g63 g64 g65 g66 g67 g68 g69 g70 g71 g72 g73 g74 g75 g76 g77 g78 g79 g80 g81 g82 g83 g84 g85 g86 g87 g88 g89 g90 g91 g92 g93 g94 g95 g96 g97 g98 g99 g100 g101 g102 g103 g104 g105 g106 g107 g108 g109 g110 g111 : Value}
/-! ### zoetrope/zoetropelaw01.BitsOnce: function 4 -/
noncomputable abbrev P4 (p : List Nat) : Code := subC (codeOf Try.f4) p
noncomputable abbrev O4 (p : List Nat) : Array Oper := opsOf (subC (codeOf Try.f4) p)
theorem b4 : Try.prog.funcs[4]? = some Try.f4 ∧ (Orc.tab Try.prog).lookup 4 = none := ⟨by kernel_rfl, by kernel_rfl⟩
theorem d4 : Try.f4.body = some (P4 []) := by kernel_rfl
theorem t4 {Ax0 : Option Addr} {lx0 cx0 : Nat} {Ax1 : Option Addr} {lx1 cx1 : Nat} : #[.slice Ax0 lx0 cx0,.slice Ax1 lx1 cx1] ++ Array.replicate (Try.f4.ntmps - (#[.slice Ax0 lx0 cx0,.slice Ax1 lx1 cx1] : Array Value).size) undef = #[.slice Ax0 lx0 cx0,.slice Ax1 lx1 cx1,undef,undef,undef,undef,undef,undef,undef,undef,undef,undef,undef,undef,undef,undef,undef,undef,undef,undef,undef,undef,undef,undef,undef,undef,undef,undef,undef,undef,undef,undef,undef,undef,undef,undef,undef,undef,undef,undef,undef,undef,undef,undef,undef,undef,undef,undef,undef,undef,undef,undef,undef,undef,undef,undef,undef,undef,undef,undef,undef,undef,undef,undef,undef,undef,undef,undef,undef,undef,undef,undef,undef,undef,undef,undef,undef,undef,undef,undef,undef,undef,undef,undef,undef,undef,undef,undef,undef,undef,undef,undef,undef,undef,undef,undef,undef,undef,undef,undef,undef,undef,undef,undef,undef,undef,undef,undef,undef,undef,undef,undef] := by kernel_rfl
theorem k4_0 : P4 [] = .seq (P4 [0]) (P4 [1]) := by kernel_rfl
theorem k4_1 : P4 [0] = .region 0 (O4 [0]) false := by kernel_rfl
theorem r4_0 {M : Mem} {call : CallM} {K : Array Value → Mem → R} :
    opsK Try.prog (fun _ => call) (O4 [0]) (O4 [0]).toList 0 #[g0,g1,g2,g3,g4,g5,g6,g7,g8,g9,g10,g11,g12,g13,g14,g15,g16,g17,g18,g19,g20,g21,g22,g23,g24,g25,g26,g27,g28,g29,g30,g31,g32,g33,g34,g35,g36,g37,g38,g39,g40,g41,g42,g43,g44,g45,g46,g47,g48,g49,g50,g51,g52,g53,g54,g55,g56,g57,g58,g59,g60,g61,g62,g63,g64,g65,g66,g67,g68,g69,g70,g71,g72,g73,g74,g75,g76,g77,g78,g79,g80,g81,g82,g83,g84,g85,g86,g87,g88,g89,g90,g91,g92,g93,g94,g95,g96,g97,g98,g99,g100,g101,g102,g103,g104,g105,g106,g107,g108,g109,g110,g111] M K = K #[g0,g1,g2,g3,.bool false,g5,g6,g7,g8,g9,g10,g11,g12,g13,g14,g15,g16,g17,g18,g19,g20,g21,g22,g23,g24,g25,g26,g27,g28,g29,g30,g31,g32,g33,g34,g35,g36,g37,g38,g39,g40,g41,g42,g43,g44,g45,g46,g47,g48,g49,g50,g51,g52,g53,g54,g55,g56,g57,g58,g59,g60,g61,g62,g63,g64,g65,g66,g67,g68,g69,g70,g71,g72,g73,g74,g75,g76,g77,g78,g79,g80,g81,g82,g83,g84,g85,g86,g87,g88,g89,g90,g91,g92,g93,g94,g95,g96,g97,g98,g99,g100,g101,g102,g103,g104,g105,g106,g107,g108,g109,g110,g111] M := by kernel_rfl
theorem k4_2 : P4 [1] = .seq (P4 [1,0]) (P4 [1,1]) := by kernel_rfl
theorem k4_3 : P4 [1,0] = .seq (P4 [1,0,0]) (P4 [1,0,1]) := by kernel_rfl
theorem k4_4 : P4 [1,0,0] = .region 1 (O4 [1,0,0]) false := by kernel_rfl
theorem r4_1 {M : Mem} {call : CallM} {K : Array Value → Mem → R} :
    opsK Try.prog (fun _ => call) (O4 [1,0,0]) (O4 [1,0,0]).toList 0 #[g0,g1,g2,g3,g4,g5,g6,g7,g8,g9,g10,g11,g12,g13,g14,g15,g16,g17,g18,g19,g20,g21,g22,g23,g24,g25,g26,g27,g28,g29,g30,g31,g32,g33,g34,g35,g36,g37,g38,g39,g40,g41,g42,g43,g44,g45,g46,g47,g48,g49,g50,g51,g52,g53,g54,g55,g56,g57,g58,g59,g60,g61,g62,g63,g64,g65,g66,g67,g68,g69,g70,g71,g72,g73,g74,g75,g76,g77,g78,g79,g80,g81,g82,g83,g84,g85,g86,g87,g88,g89,g90,g91,g92,g93,g94,g95,g96,g97,g98,g99,g100,g101,g102,g103,g104,g105,g106,g107,g108,g109,g110,g111] M K = (call 21 #[] M).bind fun r_1 => (asB r_1.1).bind fun b_2 => K #[g0,g1,g2,g3,g4,g5,g6,g7,g8,g9,g10,g11,g12,g13,g14,.bool b_2,.bool (!b_2),g17,g18,g19,g20,g21,g22,g23,g24,g25,g26,g27,g28,g29,g30,g31,g32,g33,g34,g35,g36,g37,g38,g39,g40,g41,g42,g43,g44,g45,g46,g47,g48,g49,g50,g51,g52,g53,g54,g55,g56,g57,g58,g59,g60,g61,g62,g63,g64,g65,g66,g67,g68,g69,g70,g71,g72,g73,g74,g75,g76,g77,g78,g79,g80,g81,g82,g83,g84,g85,g86,g87,g88,g89,g90,g91,g92,g93,g94,g95,g96,g97,g98,g99,g100,g101,g102,g103,g104,g105,g106,g107,g108,g109,g110,g111] r_1.2 := by kernel_rfl
theorem c4_5 : P4 [1,0,1] = .cond (.tmp 16) (P4 [1,0,1,0]) (P4 [1,0,1,1]) := by kernel_rfl
theorem k4_6 : P4 [1,0,1,0] = .seq (P4 [1,0,1,0,0]) (P4 [1,0,1,0,1]) := by kernel_rfl
theorem k4_7 : P4 [1,0,1,0,0] = .region 2 (O4 [1,0,1,0,0]) false := by kernel_rfl
theorem r4_2 {M : Mem} {call : CallM} {K : Array Value → Mem → R} :
    opsK Try.prog (fun _ => call) (O4 [1,0,1,0,0]) (O4 [1,0,1,0,0]).toList 0 #[g0,g1,g2,g3,g4,g5,g6,g7,g8,g9,g10,g11,g12,g13,g14,g15,g16,g17,g18,g19,g20,g21,g22,g23,g24,g25,g26,g27,g28,g29,g30,g31,g32,g33,g34,g35,g36,g37,g38,g39,g40,g41,g42,g43,g44,g45,g46,g47,g48,g49,g50,g51,g52,g53,g54,g55,g56,g57,g58,g59,g60,g61,g62,g63,g64,g65,g66,g67,g68,g69,g70,g71,g72,g73,g74,g75,g76,g77,g78,g79,g80,g81,g82,g83,g84,g85,g86,g87,g88,g89,g90,g91,g92,g93,g94,g95,g96,g97,g98,g99,g100,g101,g102,g103,g104,g105,g106,g107,g108,g109,g110,g111] M K = K #[g0,g1,g2,g3,.bool false,g5,g6,g7,g8,g9,g10,g11,g12,g13,g14,g15,g16,g17,g18,g19,g20,g21,g22,g23,g24,g25,g26,g27,g28,g29,g30,g31,g32,g33,g34,g35,g36,g37,g38,g39,g40,g41,g42,g43,g44,g45,g46,g47,g48,g49,g50,g51,g52,g53,g54,g55,g56,g57,g58,g59,g60,g61,g62,g63,g64,g65,g66,g67,g68,g69,g70,g71,g72,g73,g74,g75,g76,g77,g78,g79,g80,g81,g82,g83,g84,g85,g86,g87,g88,g89,g90,g91,g92,g93,g94,g95,g96,g97,g98,g99,g100,g101,g102,g103,g104,g105,g106,g107,g108,g109,g110,g111] M := by kernel_rfl
theorem k4_8 : P4 [1,0,1,0,1] = .ret := by kernel_rfl
theorem e4 {M : Mem} : finish Try.prog Try.f4 #[g0,g1,g2,g3,g4,g5,g6,g7,g8,g9,g10,g11,g12,g13,g14,g15,g16,g17,g18,g19,g20,g21,g22,g23,g24,g25,g26,g27,g28,g29,g30,g31,g32,g33,g34,g35,g36,g37,g38,g39,g40,g41,g42,g43,g44,g45,g46,g47,g48,g49,g50,g51,g52,g53,g54,g55,g56,g57,g58,g59,g60,g61,g62,g63,g64,g65,g66,g67,g68,g69,g70,g71,g72,g73,g74,g75,g76,g77,g78,g79,g80,g81,g82,g83,g84,g85,g86,g87,g88,g89,g90,g91,g92,g93,g94,g95,g96,g97,g98,g99,g100,g101,g102,g103,g104,g105,g106,g107,g108,g109,g110,g111] M = some (g4, M) := by kernel_rfl
theorem k4_10 : P4 [1,0,1,1] = .skip := by kernel_rfl
theorem k4_11 : P4 [1,1] = .seq (P4 [1,1,0]) (P4 [1,1,1]) := by kernel_rfl
theorem k4_12 : P4 [1,1,0] = .region 3 (O4 [1,1,0]) false := by kernel_rfl
theorem r4_3 {Ax0 : Option Addr} {lx0 cx0 : Nat} {M : Mem} {call : CallM} {K : Array Value → Mem → R} :
    opsK Try.prog (fun _ => call) (O4 [1,1,0]) (O4 [1,1,0]).toList 0 #[.slice Ax0 lx0 cx0,g1,g2,g3,g4,g5,g6,g7,g8,g9,g10,g11,g12,g13,g14,g15,g16,g17,g18,g19,g20,g21,g22,g23,g24,g25,g26,g27,g28,g29,g30,g31,g32,g33,g34,g35,g36,g37,g38,g39,g40,g41,g42,g43,g44,g45,g46,g47,g48,g49,g50,g51,g52,g53,g54,g55,g56,g57,g58,g59,g60,g61,g62,g63,g64,g65,g66,g67,g68,g69,g70,g71,g72,g73,g74,g75,g76,g77,g78,g79,g80,g81,g82,g83,g84,g85,g86,g87,g88,g89,g90,g91,g92,g93,g94,g95,g96,g97,g98,g99,g100,g101,g102,g103,g104,g105,g106,g107,g108,g109,g110,g111] M K = (call 22 #[.slice Ax0 lx0 cx0] M).bind fun r_1 => (asP r_1.1).bind fun p_2 => K #[.slice Ax0 lx0 cx0,g1,g2,g3,g4,.pointer p_2,g6,g7,g8,g9,g10,g11,g12,g13,g14,g15,g16,.slice Ax0 lx0 cx0,.pointer p_2,g19,g20,g21,g22,g23,g24,g25,g26,g27,g28,g29,g30,g31,g32,g33,g34,g35,g36,g37,g38,g39,g40,g41,g42,g43,g44,g45,g46,g47,g48,g49,g50,g51,g52,g53,g54,g55,g56,g57,g58,g59,g60,g61,g62,g63,g64,g65,g66,g67,g68,g69,g70,g71,g72,g73,g74,g75,g76,g77,g78,g79,g80,g81,g82,g83,g84,g85,g86,g87,g88,g89,g90,g91,g92,g93,g94,g95,g96,g97,g98,g99,g100,g101,g102,g103,g104,g105,g106,g107,g108,g109,g110,g111] r_1.2 := by kernel_rfl
theorem k4_13 : P4 [1,1,1] = .seq (P4 [1,1,1,0]) (P4 [1,1,1,1]) := by kernel_rfl
theorem k4_14 : P4 [1,1,1,0] = .region 4 (O4 [1,1,1,0]) false := by kernel_rfl
theorem r4_4 {M : Mem} {call : CallM} {K : Array Value → Mem → R} :
    opsK Try.prog (fun _ => call) (O4 [1,1,1,0]) (O4 [1,1,1,0]).toList 0 #[g0,g1,g2,g3,g4,g5,g6,g7,g8,g9,g10,g11,g12,g13,g14,g15,g16,g17,g18,g19,g20,g21,g22,g23,g24,g25,g26,g27,g28,g29,g30,g31,g32,g33,g34,g35,g36,g37,g38,g39,g40,g41,g42,g43,g44,g45,g46,g47,g48,g49,g50,g51,g52,g53,g54,g55,g56,g57,g58,g59,g60,g61,g62,g63,g64,g65,g66,g67,g68,g69,g70,g71,g72,g73,g74,g75,g76,g77,g78,g79,g80,g81,g82,g83,g84,g85,g86,g87,g88,g89,g90,g91,g92,g93,g94,g95,g96,g97,g98,g99,g100,g101,g102,g103,g104,g105,g106,g107,g108,g109,g110,g111] M K = (call 9 #[] M).bind fun r_1 => (asP r_1.1).bind fun p_2 => K #[g0,g1,g2,g3,g4,g5,.pointer p_2,g7,g8,g9,g10,g11,g12,g13,g14,g15,g16,g17,g18,.pointer p_2,g20,g21,g22,g23,g24,g25,g26,g27,g28,g29,g30,g31,g32,g33,g34,g35,g36,g37,g38,g39,g40,g41,g42,g43,g44,g45,g46,g47,g48,g49,g50,g51,g52,g53,g54,g55,g56,g57,g58,g59,g60,g61,g62,g63,g64,g65,g66,g67,g68,g69,g70,g71,g72,g73,g74,g75,g76,g77,g78,g79,g80,g81,g82,g83,g84,g85,g86,g87,g88,g89,g90,g91,g92,g93,g94,g95,g96,g97,g98,g99,g100,g101,g102,g103,g104,g105,g106,g107,g108,g109,g110,g111] r_1.2 := by kernel_rfl
theorem k4_15 : P4 [1,1,1,1] = .seq (P4 [1,1,1,1,0]) (P4 [1,1,1,1,1]) := by kernel_rfl
theorem k4_16 : P4 [1,1,1,1,0] = .seq (P4 [1,1,1,1,0,0]) (P4 [1,1,1,1,0,1]) := by kernel_rfl
theorem k4_17 : P4 [1,1,1,1,0,0] = .region 5 (O4 [1,1,1,1,0,0]) false := by kernel_rfl
theorem r4_5 {M : Mem} {call : CallM} {K : Array Value → Mem → R} :
    opsK Try.prog (fun _ => call) (O4 [1,1,1,1,0,0]) (O4 [1,1,1,1,0,0]).toList 0 #[g0,g1,g2,g3,g4,g5,g6,g7,g8,g9,g10,g11,g12,g13,g14,g15,g16,g17,g18,g19,g20,g21,g22,g23,g24,g25,g26,g27,g28,g29,g30,g31,g32,g33,g34,g35,g36,g37,g38,g39,g40,g41,g42,g43,g44,g45,g46,g47,g48,g49,g50,g51,g52,g53,g54,g55,g56,g57,g58,g59,g60,g61,g62,g63,g64,g65,g66,g67,g68,g69,g70,g71,g72,g73,g74,g75,g76,g77,g78,g79,g80,g81,g82,g83,g84,g85,g86,g87,g88,g89,g90,g91,g92,g93,g94,g95,g96,g97,g98,g99,g100,g101,g102,g103,g104,g105,g106,g107,g108,g109,g110,g111] M K = K #[g0,g1,g2,g3,g4,g5,g6,.int .i64 0,g8,g9,g10,g11,g12,g13,g14,g15,g16,g17,g18,g19,g20,g21,g22,g23,g24,g25,g26,g27,g28,g29,g30,g31,g32,g33,g34,g35,g36,g37,g38,g39,g40,g41,g42,g43,g44,g45,g46,g47,g48,g49,g50,g51,g52,g53,g54,g55,g56,g57,g58,g59,g60,g61,g62,g63,g64,g65,g66,g67,g68,g69,g70,g71,g72,g73,g74,g75,g76,g77,g78,g79,g80,g81,g82,g83,g84,g85,g86,g87,g88,g89,g90,g91,g92,g93,g94,g95,g96,g97,g98,g99,g100,g101,g102,g103,g104,g105,g106,g107,g108,g109,g110,g111] M := by kernel_rfl
theorem k4_18 : P4 [1,1,1,1,0,1] = .block 0 (P4 [1,1,1,1,0,1,0]) := by kernel_rfl
theorem k4_19 : P4 [1,1,1,1,0,1,0] = .loop (P4 [1,1,1,1,0,1,0,0]) := by kernel_rfl
theorem k4_20 : P4 [1,1,1,1,0,1,0,0] = .seq (P4 [1,1,1,1,0,1,0,0,0]) (P4 [1,1,1,1,0,1,0,0,1]) := by kernel_rfl
theorem k4_21 : P4 [1,1,1,1,0,1,0,0,0] = .seq (P4 [1,1,1,1,0,1,0,0,0,0]) (P4 [1,1,1,1,0,1,0,0,0,1]) := by kernel_rfl
theorem k4_22 : P4 [1,1,1,1,0,1,0,0,0,0] = .region 6 (O4 [1,1,1,1,0,1,0,0,0,0]) false := by kernel_rfl
theorem r4_6 {Ax1 : Option Addr} {lx1 cx1 : Nat} {x7 : Int} {M : Mem} {call : CallM} {K : Array Value → Mem → R} :
    opsK Try.prog (fun _ => call) (O4 [1,1,1,1,0,1,0,0,0,0]) (O4 [1,1,1,1,0,1,0,0,0,0]).toList 0 #[g0,.slice Ax1 lx1 cx1,g2,g3,g4,g5,g6,.int .i64 x7,g8,g9,g10,g11,g12,g13,g14,g15,g16,g17,g18,g19,g20,g21,g22,g23,g24,g25,g26,g27,g28,g29,g30,g31,g32,g33,g34,g35,g36,g37,g38,g39,g40,g41,g42,g43,g44,g45,g46,g47,g48,g49,g50,g51,g52,g53,g54,g55,g56,g57,g58,g59,g60,g61,g62,g63,g64,g65,g66,g67,g68,g69,g70,g71,g72,g73,g74,g75,g76,g77,g78,g79,g80,g81,g82,g83,g84,g85,g86,g87,g88,g89,g90,g91,g92,g93,g94,g95,g96,g97,g98,g99,g100,g101,g102,g103,g104,g105,g106,g107,g108,g109,g110,g111] M K = withK (fun w24 w25 w26 w27 M => K #[g0,.slice Ax1 lx1 cx1,g2,g3,g4,g5,g6,.int .i64 x7,g8,g9,g10,g11,g12,g13,g14,g15,g16,g17,g18,g19,.int .i64 x7,.slice Ax1 lx1 cx1,.int .i64 ((lx1 : Int)),.bool (decide (x7 < ((lx1 : Int)))),w24,w25,w26,w27,g28,g29,g30,g31,g32,g33,g34,g35,g36,g37,g38,g39,g40,g41,g42,g43,g44,g45,g46,g47,g48,g49,g50,g51,g52,g53,g54,g55,g56,g57,g58,g59,g60,g61,g62,g63,g64,g65,g66,g67,g68,g69,g70,g71,g72,g73,g74,g75,g76,g77,g78,g79,g80,g81,g82,g83,g84,g85,g86,g87,g88,g89,g90,g91,g92,g93,g94,g95,g96,g97,g98,g99,g100,g101,g102,g103,g104,g105,g106,g107,g108,g109,g110,g111] M) fun k => cond (decide (x7 < ((lx1 : Int)))) (k (.bool true) (.int .i64 x7) (.bool (decide (x7 < 200))) (.bool (decide (x7 < 200))) M) (k (.bool false) undef undef (.bool false) M) := by kernel_rfl
theorem c4_23 : P4 [1,1,1,1,0,1,0,0,0,1] = .cond (.tmp 27) (P4 [1,1,1,1,0,1,0,0,0,1,0]) (P4 [1,1,1,1,0,1,0,0,0,1,1]) := by kernel_rfl
theorem k4_24 : P4 [1,1,1,1,0,1,0,0,0,1,0] = .skip := by kernel_rfl
theorem k4_25 : P4 [1,1,1,1,0,1,0,0,1] = .seq (P4 [1,1,1,1,0,1,0,0,1,0]) (P4 [1,1,1,1,0,1,0,0,1,1]) := by kernel_rfl
theorem k4_26 : P4 [1,1,1,1,0,1,0,0,1,0] = .block 1 (P4 [1,1,1,1,0,1,0,0,1,0,0]) := by kernel_rfl
theorem k4_27 : P4 [1,1,1,1,0,1,0,0,1,0,0] = .seq (P4 [1,1,1,1,0,1,0,0,1,0,0,0]) (P4 [1,1,1,1,0,1,0,0,1,0,0,1]) := by kernel_rfl
theorem k4_28 : P4 [1,1,1,1,0,1,0,0,1,0,0,0] = .region 8 (O4 [1,1,1,1,0,1,0,0,1,0,0,0]) false := by kernel_rfl
theorem r4_8 {Ax1 : Option Addr} {lx1 cx1 : Nat} {x5 : Option Addr} {x7 : Int} {M : Mem} {call : CallM} {K : Array Value → Mem → R} :
    opsK Try.prog (fun _ => call) (O4 [1,1,1,1,0,1,0,0,1,0,0,0]) (O4 [1,1,1,1,0,1,0,0,1,0,0,0]).toList 0 #[g0,.slice Ax1 lx1 cx1,g2,g3,g4,.pointer x5,g6,.int .i64 x7,g8,g9,g10,g11,g12,g13,g14,g15,g16,g17,g18,g19,g20,g21,g22,g23,g24,g25,g26,g27,g28,g29,g30,g31,g32,g33,g34,g35,g36,g37,g38,g39,g40,g41,g42,g43,g44,g45,g46,g47,g48,g49,g50,g51,g52,g53,g54,g55,g56,g57,g58,g59,g60,g61,g62,g63,g64,g65,g66,g67,g68,g69,g70,g71,g72,g73,g74,g75,g76,g77,g78,g79,g80,g81,g82,g83,g84,g85,g86,g87,g88,g89,g90,g91,g92,g93,g94,g95,g96,g97,g98,g99,g100,g101,g102,g103,g104,g105,g106,g107,g108,g109,g110,g111] M K = (idxA Ax1 lx1 3 x7).bind fun a_1 => (M.intAt .i64 a_1.block a_1.off).bind fun x_2 => (M.intAt .i64 a_1.block (a_1.off + 1)).bind fun x_3 => (M.intAt .u32 a_1.block (a_1.off + 2)).bind fun x_4 => (call 23 #[.pointer x5, .agg #[.int .i64 x_2, .int .i64 x_3, .int .u32 x_4]] M).bind fun r_5 => (asU 2 r_5.1).bind fun cs_6 => (asI .u32 (cs_6.getD 0 undef)).bind fun x_7 => (asI .i64 (cs_6.getD 1 undef)).bind fun x_8 => K #[g0,.slice Ax1 lx1 cx1,g2,g3,g4,.pointer x5,g6,.int .i64 x7,.int .u32 x_7,.int .i64 x_8,g10,g11,g12,g13,g14,g15,g16,g17,g18,g19,g20,g21,g22,g23,g24,g25,g26,g27,g28,g29,.tuple #[.int .u32 x_7, .int .i64 x_8],.pointer x5,.slice Ax1 lx1 cx1,.int .i64 x7,.pointer (some a_1),.agg #[.int .i64 x_2, .int .i64 x_3, .int .u32 x_4],.tuple #[.int .u32 x_7, .int .i64 x_8],.int .u32 x_7,.int .i64 x_8,g39,g40,g41,g42,g43,g44,g45,g46,g47,g48,g49,g50,g51,g52,g53,g54,g55,g56,g57,g58,g59,g60,g61,g62,g63,g64,g65,g66,g67,g68,g69,g70,g71,g72,g73,g74,g75,g76,g77,g78,g79,g80,g81,g82,g83,g84,g85,g86,g87,g88,g89,g90,g91,g92,g93,g94,g95,g96,g97,g98,g99,g100,g101,g102,g103,g104,g105,g106,g107,g108,g109,g110,g111] r_5.2 := by kernel_rfl
theorem k4_29 : P4 [1,1,1,1,0,1,0,0,1,0,0,1] = .seq (P4 [1,1,1,1,0,1,0,0,1,0,0,1,0]) (P4 [1,1,1,1,0,1,0,0,1,0,0,1,1]) := by kernel_rfl
theorem k4_30 : P4 [1,1,1,1,0,1,0,0,1,0,0,1,0] = .region 9 (O4 [1,1,1,1,0,1,0,0,1,0,0,1,0]) true ∧ drawOk (O4 [1,1,1,1,0,1,0,0,1,0,0,1,0]) = true := ⟨by kernel_rfl, by kernel_rfl⟩
theorem r4_9 {Ax1 : Option Addr} {lx1 cx1 : Nat} {x6 : Option Addr} {x7 x8 x9 : Int} {M : Mem} {call : CallM} {K : Array Value → Mem → R} :
    opsI Try.prog (callAt call (O4 [1,1,1,1,0,1,0,0,1,0,0,1,0])) (O4 [1,1,1,1,0,1,0,0,1,0,0,1,0]) (ordOf (O4 [1,1,1,1,0,1,0,0,1,0,0,1,0])) [] #[g0,.slice Ax1 lx1 cx1,g2,g3,g4,g5,.pointer x6,.int .i64 x7,.int .u32 x8,.int .i64 x9,g10,g11,g12,g13,g14,g15,g16,g17,g18,g19,g20,g21,g22,g23,g24,g25,g26,g27,g28,g29,g30,g31,g32,g33,g34,g35,g36,g37,g38,g39,g40,g41,g42,g43,g44,g45,g46,g47,g48,g49,g50,g51,g52,g53,g54,g55,g56,g57,g58,g59,g60,g61,g62,g63,g64,g65,g66,g67,g68,g69,g70,g71,g72,g73,g74,g75,g76,g77,g78,g79,g80,g81,g82,g83,g84,g85,g86,g87,g88,g89,g90,g91,g92,g93,g94,g95,g96,g97,g98,g99,g100,g101,g102,g103,g104,g105,g106,g107,g108,g109,g110,g111] M K = withK (fun w41 w42 w43 w44 w45 w46 w47 w48 w49 w50 w51 w52 w53 w54 w55 w56 w57 M => K #[g0,.slice Ax1 lx1 cx1,g2,g3,g4,g5,.pointer x6,.int .i64 x7,.int .u32 x8,.int .i64 x9,g10,g11,g12,g13,g14,g15,g16,g17,g18,g19,g20,g21,g22,g23,g24,g25,g26,g27,g28,g29,g30,g31,g32,g33,g34,g35,g36,g37,g38,.int .i64 x9,.bool (x9 == 0),w41,w42,w43,w44,w45,w46,w47,w48,w49,w50,w51,w52,w53,w54,w55,w56,w57,g58,g59,g60,g61,g62,g63,g64,g65,g66,g67,g68,g69,g70,g71,g72,g73,g74,g75,g76,g77,g78,g79,g80,g81,g82,g83,g84,g85,g86,g87,g88,g89,g90,g91,g92,g93,g94,g95,g96,g97,g98,g99,g100,g101,g102,g103,g104,g105,g106,g107,g108,g109,g110,g111] M) fun k => cond (x9 == 0) ((idxA Ax1 lx1 3 x7).bind fun a_1 => (M.intAt .i64 a_1.block a_1.off).bind fun x_2 => (idxA Ax1 lx1 3 x7).bind fun a_3 => (M.intAt .i64 a_3.block (a_3.off + 1)).bind fun x_4 => (call 11 #[.pointer x6, .agg #[.int .i64 x_2, .int .i64 x_4, .int .u32 x8]] M).bind fun r_5 => (asI .i64 r_5.1).bind fun x_6 => k (.bool true) (.pointer x6) (.slice Ax1 lx1 cx1) (.int .i64 x7) (.pointer (some a_1)) (.pointer (some ⟨a_1.block, a_1.off, none⟩)) (.int .i64 x_2) (.slice Ax1 lx1 cx1) (.int .i64 x7) (.pointer (some a_3)) (.pointer (some ⟨a_3.block, a_3.off + 1, none⟩)) (.int .i64 x_4) (.int .u32 x8) (.agg #[.int .i64 x_2, .int .i64 x_4, .int .u32 x8]) (.int .i64 x_6) (.bool (x_6 != 0)) (.bool (x_6 != 0)) r_5.2) (k (.bool false) undef undef undef undef undef undef undef undef undef undef undef undef undef undef undef (.bool false) M) := by kernel_rfl
theorem k4_31 : P4 [1,1,1,1,0,1,0,0,0,1,1] = .exit 0 := by kernel_rfl
theorem k4_32 : P4 [1,1,1,1,1] = .seq (P4 [1,1,1,1,1,0]) (P4 [1,1,1,1,1,1]) := by kernel_rfl
theorem k4_33 : P4 [1,1,1,1,1,0] = .region 11 (O4 [1,1,1,1,1,0]) false := by kernel_rfl
theorem r4_11 {Ax0 : Option Addr} {lx0 cx0 : Nat} {x5 : Option Addr} {M : Mem} {call : CallM} {K : Array Value → Mem → R} :
    opsK Try.prog (fun _ => call) (O4 [1,1,1,1,1,0]) (O4 [1,1,1,1,1,0]).toList 0 #[.slice Ax0 lx0 cx0,g1,g2,g3,g4,.pointer x5,g6,g7,g8,g9,g10,g11,g12,g13,g14,g15,g16,g17,g18,g19,g20,g21,g22,g23,g24,g25,g26,g27,g28,g29,g30,g31,g32,g33,g34,g35,g36,g37,g38,g39,g40,g41,g42,g43,g44,g45,g46,g47,g48,g49,g50,g51,g52,g53,g54,g55,g56,g57,g58,g59,g60,g61,g62,g63,g64,g65,g66,g67,g68,g69,g70,g71,g72,g73,g74,g75,g76,g77,g78,g79,g80,g81,g82,g83,g84,g85,g86,g87,g88,g89,g90,g91,g92,g93,g94,g95,g96,g97,g98,g99,g100,g101,g102,g103,g104,g105,g106,g107,g108,g109,g110,g111] M K = (call 24 #[.pointer x5] M).bind fun r_1 => (asI .i64 r_1.1).bind fun x_2 => K #[.slice Ax0 lx0 cx0,g1,g2,g3,g4,.pointer x5,g6,g7,g8,g9,.int .i64 (IntKind.i64.wrap ((IntKind.i64.wrap (8 * ((lx0 : Int)))) - x_2)),g11,g12,g13,g14,g15,g16,g17,g18,g19,g20,g21,g22,g23,g24,g25,g26,g27,g28,g29,g30,g31,g32,g33,g34,g35,g36,g37,g38,g39,g40,g41,g42,g43,g44,g45,g46,g47,g48,g49,g50,g51,g52,g53,g54,g55,g56,g57,.slice Ax0 lx0 cx0,.int .i64 ((lx0 : Int)),.int .i64 (IntKind.i64.wrap (8 * ((lx0 : Int)))),.pointer x5,.int .i64 x_2,.int .i64 (IntKind.i64.wrap ((IntKind.i64.wrap (8 * ((lx0 : Int)))) - x_2)),g64,g65,g66,g67,g68,g69,g70,g71,g72,g73,g74,g75,g76,g77,g78,g79,g80,g81,g82,g83,g84,g85,g86,g87,g88,g89,g90,g91,g92,g93,g94,g95,g96,g97,g98,g99,g100,g101,g102,g103,g104,g105,g106,g107,g108,g109,g110,g111] r_1.2 := by kernel_rfl
theorem k4_34 : P4 [1,1,1,1,1,1] = .seq (P4 [1,1,1,1,1,1,0]) (P4 [1,1,1,1,1,1,1]) := by kernel_rfl
theorem k4_35 : P4 [1,1,1,1,1,1,0] = .region 12 (O4 [1,1,1,1,1,1,0]) false := by kernel_rfl
theorem r4_12 {x6 : Option Addr} {M : Mem} {call : CallM} {K : Array Value → Mem → R} :
    opsK Try.prog (fun _ => call) (O4 [1,1,1,1,1,1,0]) (O4 [1,1,1,1,1,1,0]).toList 0 #[g0,g1,g2,g3,g4,g5,.pointer x6,g7,g8,g9,g10,g11,g12,g13,g14,g15,g16,g17,g18,g19,g20,g21,g22,g23,g24,g25,g26,g27,g28,g29,g30,g31,g32,g33,g34,g35,g36,g37,g38,g39,g40,g41,g42,g43,g44,g45,g46,g47,g48,g49,g50,g51,g52,g53,g54,g55,g56,g57,g58,g59,g60,g61,g62,g63,g64,g65,g66,g67,g68,g69,g70,g71,g72,g73,g74,g75,g76,g77,g78,g79,g80,g81,g82,g83,g84,g85,g86,g87,g88,g89,g90,g91,g92,g93,g94,g95,g96,g97,g98,g99,g100,g101,g102,g103,g104,g105,g106,g107,g108,g109,g110,g111] M K = (call 18 #[.pointer x6] M).bind fun r_1 => (asS r_1.1).bind fun s_2 => K #[g0,g1,g2,g3,g4,g5,.pointer x6,g7,g8,g9,g10,.slice s_2.1 (s_2.2.1) (s_2.2.2),g12,g13,g14,g15,g16,g17,g18,g19,g20,g21,g22,g23,g24,g25,g26,g27,g28,g29,g30,g31,g32,g33,g34,g35,g36,g37,g38,g39,g40,g41,g42,g43,g44,g45,g46,g47,g48,g49,g50,g51,g52,g53,g54,g55,g56,g57,g58,g59,g60,g61,g62,g63,.pointer x6,.slice s_2.1 (s_2.2.1) (s_2.2.2),g66,g67,g68,g69,g70,g71,g72,g73,g74,g75,g76,g77,g78,g79,g80,g81,g82,g83,g84,g85,g86,g87,g88,g89,g90,g91,g92,g93,g94,g95,g96,g97,g98,g99,g100,g101,g102,g103,g104,g105,g106,g107,g108,g109,g110,g111] r_1.2 := by kernel_rfl
theorem k4_36 : P4 [1,1,1,1,1,1,1] = .seq (P4 [1,1,1,1,1,1,1,0]) (P4 [1,1,1,1,1,1,1,1]) := by kernel_rfl
theorem k4_37 : P4 [1,1,1,1,1,1,1,0] = .seq (P4 [1,1,1,1,1,1,1,0,0]) (P4 [1,1,1,1,1,1,1,0,1]) := by kernel_rfl
theorem k4_38 : P4 [1,1,1,1,1,1,1,0,0] = .region 13 (O4 [1,1,1,1,1,1,1,0,0]) false := by kernel_rfl
theorem r4_13 {Ax0 : Option Addr} {lx0 cx0 : Nat} {x10 : Int} {Ax11 : Option Addr} {lx11 cx11 : Nat} {M : Mem} {call : CallM} {K : Array Value → Mem → R} :
    opsK Try.prog (fun _ => call) (O4 [1,1,1,1,1,1,1,0,0]) (O4 [1,1,1,1,1,1,1,0,0]).toList 0 #[.slice Ax0 lx0 cx0,g1,g2,g3,g4,g5,g6,g7,g8,g9,.int .i64 x10,.slice Ax11 lx11 cx11,g12,g13,g14,g15,g16,g17,g18,g19,g20,g21,g22,g23,g24,g25,g26,g27,g28,g29,g30,g31,g32,g33,g34,g35,g36,g37,g38,g39,g40,g41,g42,g43,g44,g45,g46,g47,g48,g49,g50,g51,g52,g53,g54,g55,g56,g57,g58,g59,g60,g61,g62,g63,g64,g65,g66,g67,g68,g69,g70,g71,g72,g73,g74,g75,g76,g77,g78,g79,g80,g81,g82,g83,g84,g85,g86,g87,g88,g89,g90,g91,g92,g93,g94,g95,g96,g97,g98,g99,g100,g101,g102,g103,g104,g105,g106,g107,g108,g109,g110,g111] M K = withK (fun w68 w69 w70 w71 w72 w73 w74 w75 w76 w77 w78 w79 w80 w81 w82 M => K #[.slice Ax0 lx0 cx0,g1,g2,g3,g4,g5,g6,g7,g8,g9,.int .i64 x10,.slice Ax11 lx11 cx11,g12,g13,g14,g15,g16,g17,g18,g19,g20,g21,g22,g23,g24,g25,g26,g27,g28,g29,g30,g31,g32,g33,g34,g35,g36,g37,g38,g39,g40,g41,g42,g43,g44,g45,g46,g47,g48,g49,g50,g51,g52,g53,g54,g55,g56,g57,g58,g59,g60,g61,g62,g63,g64,g65,.int .i64 x10,.bool (decide (x10 < 0)),w68,w69,w70,w71,w72,w73,w74,w75,w76,w77,w78,w79,w80,w81,w82,g83,g84,g85,g86,g87,g88,g89,g90,g91,g92,g93,g94,g95,g96,g97,g98,g99,g100,g101,g102,g103,g104,g105,g106,g107,g108,g109,g110,g111] M) fun k => cond (decide (x10 < 0)) (k (.bool true) undef undef undef undef undef (.bool true) (.bool true) undef undef undef undef undef undef (.bool true) M) (cond (decide (x10 > (IntKind.i64.wrap (8 * ((lx0 : Int)))))) (k (.bool false) (.int .i64 x10) (.slice Ax0 lx0 cx0) (.int .i64 ((lx0 : Int))) (.int .i64 (IntKind.i64.wrap (8 * ((lx0 : Int))))) (.bool (decide (x10 > (IntKind.i64.wrap (8 * ((lx0 : Int))))))) (.bool (decide (x10 > (IntKind.i64.wrap (8 * ((lx0 : Int))))))) (.bool true) undef undef undef undef undef undef (.bool true) M) (k (.bool false) (.int .i64 x10) (.slice Ax0 lx0 cx0) (.int .i64 ((lx0 : Int))) (.int .i64 (IntKind.i64.wrap (8 * ((lx0 : Int))))) (.bool (decide (x10 > (IntKind.i64.wrap (8 * ((lx0 : Int))))))) (.bool (decide (x10 > (IntKind.i64.wrap (8 * ((lx0 : Int))))))) (.bool false) (.slice Ax11 lx11 cx11) (.int .i64 ((lx11 : Int))) (.int .i64 x10) (.int .i64 (IntKind.i64.wrap (x10 + 7))) (.int .i64 (IntKind.i64.wrap ((IntKind.i64.wrap (x10 + 7)).tdiv 8))) (.bool (((lx11 : Int)) != (IntKind.i64.wrap ((IntKind.i64.wrap (x10 + 7)).tdiv 8)))) (.bool (((lx11 : Int)) != (IntKind.i64.wrap ((IntKind.i64.wrap (x10 + 7)).tdiv 8)))) M)) := by kernel_rfl
theorem c4_39 : P4 [1,1,1,1,0,1,0,0,1,0,0,1,1] = .cond (.tmp 57) (P4 [1,1,1,1,0,1,0,0,1,0,0,1,1,0]) (P4 [1,1,1,1,0,1,0,0,1,0,0,1,1,1]) := by kernel_rfl
theorem k4_40 : P4 [1,1,1,1,0,1,0,0,1,0,0,1,1,0] = .seq (P4 [1,1,1,1,0,1,0,0,1,0,0,1,1,0,0]) (P4 [1,1,1,1,0,1,0,0,1,0,0,1,1,0,1]) := by kernel_rfl
theorem k4_41 : P4 [1,1,1,1,0,1,0,0,1,0,0,1,1,0,0] = .region 10 (O4 [1,1,1,1,0,1,0,0,1,0,0,1,1,0,0]) false := by kernel_rfl
theorem r4_10 {M : Mem} {call : CallM} {K : Array Value → Mem → R} :
    opsK Try.prog (fun _ => call) (O4 [1,1,1,1,0,1,0,0,1,0,0,1,1,0,0]) (O4 [1,1,1,1,0,1,0,0,1,0,0,1,1,0,0]).toList 0 #[g0,g1,g2,g3,g4,g5,g6,g7,g8,g9,g10,g11,g12,g13,g14,g15,g16,g17,g18,g19,g20,g21,g22,g23,g24,g25,g26,g27,g28,g29,g30,g31,g32,g33,g34,g35,g36,g37,g38,g39,g40,g41,g42,g43,g44,g45,g46,g47,g48,g49,g50,g51,g52,g53,g54,g55,g56,g57,g58,g59,g60,g61,g62,g63,g64,g65,g66,g67,g68,g69,g70,g71,g72,g73,g74,g75,g76,g77,g78,g79,g80,g81,g82,g83,g84,g85,g86,g87,g88,g89,g90,g91,g92,g93,g94,g95,g96,g97,g98,g99,g100,g101,g102,g103,g104,g105,g106,g107,g108,g109,g110,g111] M K = K #[g0,g1,g2,g3,.bool false,g5,g6,g7,g8,g9,g10,g11,g12,g13,g14,g15,g16,g17,g18,g19,g20,g21,g22,g23,g24,g25,g26,g27,g28,g29,g30,g31,g32,g33,g34,g35,g36,g37,g38,g39,g40,g41,g42,g43,g44,g45,g46,g47,g48,g49,g50,g51,g52,g53,g54,g55,g56,g57,g58,g59,g60,g61,g62,g63,g64,g65,g66,g67,g68,g69,g70,g71,g72,g73,g74,g75,g76,g77,g78,g79,g80,g81,g82,g83,g84,g85,g86,g87,g88,g89,g90,g91,g92,g93,g94,g95,g96,g97,g98,g99,g100,g101,g102,g103,g104,g105,g106,g107,g108,g109,g110,g111] M := by kernel_rfl
theorem k4_42 : P4 [1,1,1,1,0,1,0,0,1,0,0,1,1,0,1] = .ret := by kernel_rfl
theorem k4_43 : P4 [1,1,1,1,0,1,0,0,1,0,0,1,1,1] = .skip := by kernel_rfl
theorem k4_44 : P4 [1,1,1,1,0,1,0,0,1,1] = .region 7 (O4 [1,1,1,1,0,1,0,0,1,1]) false := by kernel_rfl
theorem r4_7 {x7 : Int} {M : Mem} {call : CallM} {K : Array Value → Mem → R} :
    opsK Try.prog (fun _ => call) (O4 [1,1,1,1,0,1,0,0,1,1]) (O4 [1,1,1,1,0,1,0,0,1,1]).toList 0 #[g0,g1,g2,g3,g4,g5,g6,.int .i64 x7,g8,g9,g10,g11,g12,g13,g14,g15,g16,g17,g18,g19,g20,g21,g22,g23,g24,g25,g26,g27,g28,g29,g30,g31,g32,g33,g34,g35,g36,g37,g38,g39,g40,g41,g42,g43,g44,g45,g46,g47,g48,g49,g50,g51,g52,g53,g54,g55,g56,g57,g58,g59,g60,g61,g62,g63,g64,g65,g66,g67,g68,g69,g70,g71,g72,g73,g74,g75,g76,g77,g78,g79,g80,g81,g82,g83,g84,g85,g86,g87,g88,g89,g90,g91,g92,g93,g94,g95,g96,g97,g98,g99,g100,g101,g102,g103,g104,g105,g106,g107,g108,g109,g110,g111] M K = K #[g0,g1,g2,g3,g4,g5,g6,.int .i64 (IntKind.i64.wrap (x7 + 1)),g8,g9,g10,g11,g12,g13,g14,g15,g16,g17,g18,g19,g20,g21,g22,g23,g24,g25,g26,g27,.int .i64 x7,.int .i64 (IntKind.i64.wrap (x7 + 1)),g30,g31,g32,g33,g34,g35,g36,g37,g38,g39,g40,g41,g42,g43,g44,g45,g46,g47,g48,g49,g50,g51,g52,g53,g54,g55,g56,g57,g58,g59,g60,g61,g62,g63,g64,g65,g66,g67,g68,g69,g70,g71,g72,g73,g74,g75,g76,g77,g78,g79,g80,g81,g82,g83,g84,g85,g86,g87,g88,g89,g90,g91,g92,g93,g94,g95,g96,g97,g98,g99,g100,g101,g102,g103,g104,g105,g106,g107,g108,g109,g110,g111] M := by kernel_rfl
theorem c4_45 : P4 [1,1,1,1,1,1,1,0,1] = .cond (.tmp 82) (P4 [1,1,1,1,1,1,1,0,1,0]) (P4 [1,1,1,1,1,1,1,0,1,1]) := by kernel_rfl
theorem k4_46 : P4 [1,1,1,1,1,1,1,0,1,0] = .seq (P4 [1,1,1,1,1,1,1,0,1,0,0]) (P4 [1,1,1,1,1,1,1,0,1,0,1]) := by kernel_rfl
theorem k4_47 : P4 [1,1,1,1,1,1,1,0,1,0,0] = .region 14 (O4 [1,1,1,1,1,1,1,0,1,0,0]) false := by kernel_rfl
theorem r4_14 {M : Mem} {call : CallM} {K : Array Value → Mem → R} :
    opsK Try.prog (fun _ => call) (O4 [1,1,1,1,1,1,1,0,1,0,0]) (O4 [1,1,1,1,1,1,1,0,1,0,0]).toList 0 #[g0,g1,g2,g3,g4,g5,g6,g7,g8,g9,g10,g11,g12,g13,g14,g15,g16,g17,g18,g19,g20,g21,g22,g23,g24,g25,g26,g27,g28,g29,g30,g31,g32,g33,g34,g35,g36,g37,g38,g39,g40,g41,g42,g43,g44,g45,g46,g47,g48,g49,g50,g51,g52,g53,g54,g55,g56,g57,g58,g59,g60,g61,g62,g63,g64,g65,g66,g67,g68,g69,g70,g71,g72,g73,g74,g75,g76,g77,g78,g79,g80,g81,g82,g83,g84,g85,g86,g87,g88,g89,g90,g91,g92,g93,g94,g95,g96,g97,g98,g99,g100,g101,g102,g103,g104,g105,g106,g107,g108,g109,g110,g111] M K = K #[g0,g1,g2,g3,.bool false,g5,g6,g7,g8,g9,g10,g11,g12,g13,g14,g15,g16,g17,g18,g19,g20,g21,g22,g23,g24,g25,g26,g27,g28,g29,g30,g31,g32,g33,g34,g35,g36,g37,g38,g39,g40,g41,g42,g43,g44,g45,g46,g47,g48,g49,g50,g51,g52,g53,g54,g55,g56,g57,g58,g59,g60,g61,g62,g63,g64,g65,g66,g67,g68,g69,g70,g71,g72,g73,g74,g75,g76,g77,g78,g79,g80,g81,g82,g83,g84,g85,g86,g87,g88,g89,g90,g91,g92,g93,g94,g95,g96,g97,g98,g99,g100,g101,g102,g103,g104,g105,g106,g107,g108,g109,g110,g111] M := by kernel_rfl
theorem k4_48 : P4 [1,1,1,1,1,1,1,0,1,0,1] = .ret := by kernel_rfl
theorem k4_49 : P4 [1,1,1,1,1,1,1,0,1,1] = .skip := by kernel_rfl
theorem k4_50 : P4 [1,1,1,1,1,1,1,1] = .seq (P4 [1,1,1,1,1,1,1,1,0]) (P4 [1,1,1,1,1,1,1,1,1]) := by kernel_rfl
theorem k4_51 : P4 [1,1,1,1,1,1,1,1,0] = .seq (P4 [1,1,1,1,1,1,1,1,0,0]) (P4 [1,1,1,1,1,1,1,1,0,1]) := by kernel_rfl
theorem k4_52 : P4 [1,1,1,1,1,1,1,1,0,0] = .region 15 (O4 [1,1,1,1,1,1,1,1,0,0]) false := by kernel_rfl
theorem r4_15 {M : Mem} {call : CallM} {K : Array Value → Mem → R} :
    opsK Try.prog (fun _ => call) (O4 [1,1,1,1,1,1,1,1,0,0]) (O4 [1,1,1,1,1,1,1,1,0,0]).toList 0 #[g0,g1,g2,g3,g4,g5,g6,g7,g8,g9,g10,g11,g12,g13,g14,g15,g16,g17,g18,g19,g20,g21,g22,g23,g24,g25,g26,g27,g28,g29,g30,g31,g32,g33,g34,g35,g36,g37,g38,g39,g40,g41,g42,g43,g44,g45,g46,g47,g48,g49,g50,g51,g52,g53,g54,g55,g56,g57,g58,g59,g60,g61,g62,g63,g64,g65,g66,g67,g68,g69,g70,g71,g72,g73,g74,g75,g76,g77,g78,g79,g80,g81,g82,g83,g84,g85,g86,g87,g88,g89,g90,g91,g92,g93,g94,g95,g96,g97,g98,g99,g100,g101,g102,g103,g104,g105,g106,g107,g108,g109,g110,g111] M K = K #[g0,g1,g2,g3,g4,g5,g6,g7,g8,g9,g10,g11,.int .i64 0,g13,g14,g15,g16,g17,g18,g19,g20,g21,g22,g23,g24,g25,g26,g27,g28,g29,g30,g31,g32,g33,g34,g35,g36,g37,g38,g39,g40,g41,g42,g43,g44,g45,g46,g47,g48,g49,g50,g51,g52,g53,g54,g55,g56,g57,g58,g59,g60,g61,g62,g63,g64,g65,g66,g67,g68,g69,g70,g71,g72,g73,g74,g75,g76,g77,g78,g79,g80,g81,g82,g83,g84,g85,g86,g87,g88,g89,g90,g91,g92,g93,g94,g95,g96,g97,g98,g99,g100,g101,g102,g103,g104,g105,g106,g107,g108,g109,g110,g111] M := by kernel_rfl
theorem k4_53 : P4 [1,1,1,1,1,1,1,1,0,1] = .block 2 (P4 [1,1,1,1,1,1,1,1,0,1,0]) := by kernel_rfl
theorem k4_54 : P4 [1,1,1,1,1,1,1,1,0,1,0] = .loop (P4 [1,1,1,1,1,1,1,1,0,1,0,0]) := by kernel_rfl
theorem k4_55 : P4 [1,1,1,1,1,1,1,1,0,1,0,0] = .seq (P4 [1,1,1,1,1,1,1,1,0,1,0,0,0]) (P4 [1,1,1,1,1,1,1,1,0,1,0,0,1]) := by kernel_rfl
theorem k4_56 : P4 [1,1,1,1,1,1,1,1,0,1,0,0,0] = .seq (P4 [1,1,1,1,1,1,1,1,0,1,0,0,0,0]) (P4 [1,1,1,1,1,1,1,1,0,1,0,0,0,1]) := by kernel_rfl
theorem k4_57 : P4 [1,1,1,1,1,1,1,1,0,1,0,0,0,0] = .region 16 (O4 [1,1,1,1,1,1,1,1,0,1,0,0,0,0]) false := by kernel_rfl
theorem r4_16 {Ax11 : Option Addr} {lx11 cx11 : Nat} {x12 : Int} {M : Mem} {call : CallM} {K : Array Value → Mem → R} :
    opsK Try.prog (fun _ => call) (O4 [1,1,1,1,1,1,1,1,0,1,0,0,0,0]) (O4 [1,1,1,1,1,1,1,1,0,1,0,0,0,0]).toList 0 #[g0,g1,g2,g3,g4,g5,g6,g7,g8,g9,g10,.slice Ax11 lx11 cx11,.int .i64 x12,g13,g14,g15,g16,g17,g18,g19,g20,g21,g22,g23,g24,g25,g26,g27,g28,g29,g30,g31,g32,g33,g34,g35,g36,g37,g38,g39,g40,g41,g42,g43,g44,g45,g46,g47,g48,g49,g50,g51,g52,g53,g54,g55,g56,g57,g58,g59,g60,g61,g62,g63,g64,g65,g66,g67,g68,g69,g70,g71,g72,g73,g74,g75,g76,g77,g78,g79,g80,g81,g82,g83,g84,g85,g86,g87,g88,g89,g90,g91,g92,g93,g94,g95,g96,g97,g98,g99,g100,g101,g102,g103,g104,g105,g106,g107,g108,g109,g110,g111] M K = K #[g0,g1,g2,g3,g4,g5,g6,g7,g8,g9,g10,.slice Ax11 lx11 cx11,.int .i64 x12,g13,g14,g15,g16,g17,g18,g19,g20,g21,g22,g23,g24,g25,g26,g27,g28,g29,g30,g31,g32,g33,g34,g35,g36,g37,g38,g39,g40,g41,g42,g43,g44,g45,g46,g47,g48,g49,g50,g51,g52,g53,g54,g55,g56,g57,g58,g59,g60,g61,g62,g63,g64,g65,g66,g67,g68,g69,g70,g71,g72,g73,g74,g75,g76,g77,g78,g79,g80,g81,g82,.int .i64 x12,.slice Ax11 lx11 cx11,.int .i64 ((lx11 : Int)),.bool (decide (x12 < ((lx11 : Int)))),g87,g88,g89,g90,g91,g92,g93,g94,g95,g96,g97,g98,g99,g100,g101,g102,g103,g104,g105,g106,g107,g108,g109,g110,g111] M := by kernel_rfl
theorem c4_58 : P4 [1,1,1,1,1,1,1,1,0,1,0,0,0,1] = .cond (.tmp 86) (P4 [1,1,1,1,1,1,1,1,0,1,0,0,0,1,0]) (P4 [1,1,1,1,1,1,1,1,0,1,0,0,0,1,1]) := by kernel_rfl
theorem k4_59 : P4 [1,1,1,1,1,1,1,1,0,1,0,0,0,1,0] = .skip := by kernel_rfl
theorem k4_60 : P4 [1,1,1,1,1,1,1,1,0,1,0,0,1] = .seq (P4 [1,1,1,1,1,1,1,1,0,1,0,0,1,0]) (P4 [1,1,1,1,1,1,1,1,0,1,0,0,1,1]) := by kernel_rfl
theorem k4_61 : P4 [1,1,1,1,1,1,1,1,0,1,0,0,1,0] = .block 3 (P4 [1,1,1,1,1,1,1,1,0,1,0,0,1,0,0]) := by kernel_rfl
theorem k4_62 : P4 [1,1,1,1,1,1,1,1,0,1,0,0,1,0,0] = .seq (P4 [1,1,1,1,1,1,1,1,0,1,0,0,1,0,0,0]) (P4 [1,1,1,1,1,1,1,1,0,1,0,0,1,0,0,1]) := by kernel_rfl
theorem k4_63 : P4 [1,1,1,1,1,1,1,1,0,1,0,0,1,0,0,0] = .region 18 (O4 [1,1,1,1,1,1,1,1,0,1,0,0,1,0,0,0]) false := by kernel_rfl
theorem r4_18 {Ax0 : Option Addr} {lx0 cx0 : Nat} {x12 : Int} {M : Mem} {call : CallM} {K : Array Value → Mem → R} :
    opsK Try.prog (fun _ => call) (O4 [1,1,1,1,1,1,1,1,0,1,0,0,1,0,0,0]) (O4 [1,1,1,1,1,1,1,1,0,1,0,0,1,0,0,0]).toList 0 #[.slice Ax0 lx0 cx0,g1,g2,g3,g4,g5,g6,g7,g8,g9,g10,g11,.int .i64 x12,g13,g14,g15,g16,g17,g18,g19,g20,g21,g22,g23,g24,g25,g26,g27,g28,g29,g30,g31,g32,g33,g34,g35,g36,g37,g38,g39,g40,g41,g42,g43,g44,g45,g46,g47,g48,g49,g50,g51,g52,g53,g54,g55,g56,g57,g58,g59,g60,g61,g62,g63,g64,g65,g66,g67,g68,g69,g70,g71,g72,g73,g74,g75,g76,g77,g78,g79,g80,g81,g82,g83,g84,g85,g86,g87,g88,g89,g90,g91,g92,g93,g94,g95,g96,g97,g98,g99,g100,g101,g102,g103,g104,g105,g106,g107,g108,g109,g110,g111] M K = (idxA Ax0 lx0 1 x12).bind fun a_1 => (M.intAt .u8 a_1.block a_1.off).bind fun x_2 => K #[.slice Ax0 lx0 cx0,g1,g2,g3,g4,g5,g6,g7,g8,g9,g10,g11,.int .i64 x12,.int .u8 x_2,g14,g15,g16,g17,g18,g19,g20,g21,g22,g23,g24,g25,g26,g27,g28,g29,g30,g31,g32,g33,g34,g35,g36,g37,g38,g39,g40,g41,g42,g43,g44,g45,g46,g47,g48,g49,g50,g51,g52,g53,g54,g55,g56,g57,g58,g59,g60,g61,g62,g63,g64,g65,g66,g67,g68,g69,g70,g71,g72,g73,g74,g75,g76,g77,g78,g79,g80,g81,g82,g83,g84,g85,g86,g87,g88,.slice Ax0 lx0 cx0,.int .i64 x12,.pointer (some a_1),.int .u8 x_2,g93,g94,g95,g96,g97,g98,g99,g100,g101,g102,g103,g104,g105,g106,g107,g108,g109,g110,g111] M := by kernel_rfl
theorem k4_64 : P4 [1,1,1,1,1,1,1,1,0,1,0,0,1,0,0,1] = .seq (P4 [1,1,1,1,1,1,1,1,0,1,0,0,1,0,0,1,0]) (P4 [1,1,1,1,1,1,1,1,0,1,0,0,1,0,0,1,1]) := by kernel_rfl
theorem k4_65 : P4 [1,1,1,1,1,1,1,1,0,1,0,0,1,0,0,1,0] = .seq (P4 [1,1,1,1,1,1,1,1,0,1,0,0,1,0,0,1,0,0]) (P4 [1,1,1,1,1,1,1,1,0,1,0,0,1,0,0,1,0,1]) := by kernel_rfl
theorem k4_66 : P4 [1,1,1,1,1,1,1,1,0,1,0,0,1,0,0,1,0,0] = .region 19 (O4 [1,1,1,1,1,1,1,1,0,1,0,0,1,0,0,1,0,0]) false := by kernel_rfl
theorem r4_19 {x10 x12 : Int} {M : Mem} {call : CallM} {K : Array Value → Mem → R} :
    opsK Try.prog (fun _ => call) (O4 [1,1,1,1,1,1,1,1,0,1,0,0,1,0,0,1,0,0]) (O4 [1,1,1,1,1,1,1,1,0,1,0,0,1,0,0,1,0,0]).toList 0 #[g0,g1,g2,g3,g4,g5,g6,g7,g8,g9,.int .i64 x10,g11,.int .i64 x12,g13,g14,g15,g16,g17,g18,g19,g20,g21,g22,g23,g24,g25,g26,g27,g28,g29,g30,g31,g32,g33,g34,g35,g36,g37,g38,g39,g40,g41,g42,g43,g44,g45,g46,g47,g48,g49,g50,g51,g52,g53,g54,g55,g56,g57,g58,g59,g60,g61,g62,g63,g64,g65,g66,g67,g68,g69,g70,g71,g72,g73,g74,g75,g76,g77,g78,g79,g80,g81,g82,g83,g84,g85,g86,g87,g88,g89,g90,g91,g92,g93,g94,g95,g96,g97,g98,g99,g100,g101,g102,g103,g104,g105,g106,g107,g108,g109,g110,g111] M K = K #[g0,g1,g2,g3,g4,g5,g6,g7,g8,g9,.int .i64 x10,g11,.int .i64 x12,g13,.int .i64 (IntKind.i64.wrap (x10 - (IntKind.i64.wrap (8 * x12)))),g15,g16,g17,g18,g19,g20,g21,g22,g23,g24,g25,g26,g27,g28,g29,g30,g31,g32,g33,g34,g35,g36,g37,g38,g39,g40,g41,g42,g43,g44,g45,g46,g47,g48,g49,g50,g51,g52,g53,g54,g55,g56,g57,g58,g59,g60,g61,g62,g63,g64,g65,g66,g67,g68,g69,g70,g71,g72,g73,g74,g75,g76,g77,g78,g79,g80,g81,g82,g83,g84,g85,g86,g87,g88,g89,g90,g91,g92,.int .i64 x10,.int .i64 x12,.int .i64 (IntKind.i64.wrap (8 * x12)),.int .i64 (IntKind.i64.wrap (x10 - (IntKind.i64.wrap (8 * x12)))),g97,g98,g99,g100,g101,g102,g103,g104,g105,g106,g107,g108,g109,g110,g111] M := by kernel_rfl
theorem k4_67 : P4 [1,1,1,1,1,1,1,1,0,1,0,0,1,0,0,1,0,1] = .seq (P4 [1,1,1,1,1,1,1,1,0,1,0,0,1,0,0,1,0,1,0]) (P4 [1,1,1,1,1,1,1,1,0,1,0,0,1,0,0,1,0,1,1]) := by kernel_rfl
theorem k4_68 : P4 [1,1,1,1,1,1,1,1,0,1,0,0,1,0,0,1,0,1,0] = .region 20 (O4 [1,1,1,1,1,1,1,1,0,1,0,0,1,0,0,1,0,1,0]) false := by kernel_rfl
theorem r4_20 {x14 : Int} {M : Mem} {call : CallM} {K : Array Value → Mem → R} :
    opsK Try.prog (fun _ => call) (O4 [1,1,1,1,1,1,1,1,0,1,0,0,1,0,0,1,0,1,0]) (O4 [1,1,1,1,1,1,1,1,0,1,0,0,1,0,0,1,0,1,0]).toList 0 #[g0,g1,g2,g3,g4,g5,g6,g7,g8,g9,g10,g11,g12,g13,.int .i64 x14,g15,g16,g17,g18,g19,g20,g21,g22,g23,g24,g25,g26,g27,g28,g29,g30,g31,g32,g33,g34,g35,g36,g37,g38,g39,g40,g41,g42,g43,g44,g45,g46,g47,g48,g49,g50,g51,g52,g53,g54,g55,g56,g57,g58,g59,g60,g61,g62,g63,g64,g65,g66,g67,g68,g69,g70,g71,g72,g73,g74,g75,g76,g77,g78,g79,g80,g81,g82,g83,g84,g85,g86,g87,g88,g89,g90,g91,g92,g93,g94,g95,g96,g97,g98,g99,g100,g101,g102,g103,g104,g105,g106,g107,g108,g109,g110,g111] M K = K #[g0,g1,g2,g3,g4,g5,g6,g7,g8,g9,g10,g11,g12,g13,.int .i64 x14,g15,g16,g17,g18,g19,g20,g21,g22,g23,g24,g25,g26,g27,g28,g29,g30,g31,g32,g33,g34,g35,g36,g37,g38,g39,g40,g41,g42,g43,g44,g45,g46,g47,g48,g49,g50,g51,g52,g53,g54,g55,g56,g57,g58,g59,g60,g61,g62,g63,g64,g65,g66,g67,g68,g69,g70,g71,g72,g73,g74,g75,g76,g77,g78,g79,g80,g81,g82,g83,g84,g85,g86,g87,g88,g89,g90,g91,g92,g93,g94,g95,g96,.int .i64 x14,.bool (decide (x14 < 8)),g99,g100,g101,g102,g103,g104,g105,g106,g107,g108,g109,g110,g111] M := by kernel_rfl
theorem c4_69 : P4 [1,1,1,1,1,1,1,1,0,1,0,0,1,0,0,1,0,1,1] = .cond (.tmp 98) (P4 [1,1,1,1,1,1,1,1,0,1,0,0,1,0,0,1,0,1,1,0]) (P4 [1,1,1,1,1,1,1,1,0,1,0,0,1,0,0,1,0,1,1,1]) := by kernel_rfl
theorem k4_70 : P4 [1,1,1,1,1,1,1,1,0,1,0,0,1,0,0,1,0,1,1,0] = .region 21 (O4 [1,1,1,1,1,1,1,1,0,1,0,0,1,0,0,1,0,1,1,0]) false := by kernel_rfl
theorem r4_21 {x13 x14 : Int} {M : Mem} {call : CallM} {K : Array Value → Mem → R} :
    opsK Try.prog (fun _ => call) (O4 [1,1,1,1,1,1,1,1,0,1,0,0,1,0,0,1,0,1,1,0]) (O4 [1,1,1,1,1,1,1,1,0,1,0,0,1,0,0,1,0,1,1,0]).toList 0 #[g0,g1,g2,g3,g4,g5,g6,g7,g8,g9,g10,g11,g12,.int .u8 x13,.int .i64 x14,g15,g16,g17,g18,g19,g20,g21,g22,g23,g24,g25,g26,g27,g28,g29,g30,g31,g32,g33,g34,g35,g36,g37,g38,g39,g40,g41,g42,g43,g44,g45,g46,g47,g48,g49,g50,g51,g52,g53,g54,g55,g56,g57,g58,g59,g60,g61,g62,g63,g64,g65,g66,g67,g68,g69,g70,g71,g72,g73,g74,g75,g76,g77,g78,g79,g80,g81,g82,g83,g84,g85,g86,g87,g88,g89,g90,g91,g92,g93,g94,g95,g96,g97,g98,g99,g100,g101,g102,g103,g104,g105,g106,g107,g108,g109,g110,g111] M K = (binV Try.prog .shr 5 3 (.int .u8 x13) (.int .i64 (IntKind.i64.wrap (8 - x14)))).bind fun v_1 => (asI .u8 v_1).bind fun x_2 => (binV Try.prog .shl 5 3 (.int .u8 x_2) (.int .i64 (IntKind.i64.wrap (8 - x14)))).bind fun v_3 => (asI .u8 v_3).bind fun x_4 => K #[g0,g1,g2,g3,g4,g5,g6,g7,g8,g9,g10,g11,g12,.int .u8 x_4,.int .i64 x14,g15,g16,g17,g18,g19,g20,g21,g22,g23,g24,g25,g26,g27,g28,g29,g30,g31,g32,g33,g34,g35,g36,g37,g38,g39,g40,g41,g42,g43,g44,g45,g46,g47,g48,g49,g50,g51,g52,g53,g54,g55,g56,g57,g58,g59,g60,g61,g62,g63,g64,g65,g66,g67,g68,g69,g70,g71,g72,g73,g74,g75,g76,g77,g78,g79,g80,g81,g82,g83,g84,g85,g86,g87,g88,g89,g90,g91,g92,g93,g94,g95,g96,g97,g98,.int .u8 x13,.int .i64 x14,.int .i64 (IntKind.i64.wrap (8 - x14)),.int .u8 x_2,.int .i64 x14,.int .i64 (IntKind.i64.wrap (8 - x14)),.int .u8 x_4,g106,g107,g108,g109,g110,g111] M := by kernel_rfl
theorem k4_71 : P4 [1,1,1,1,1,1,1,1,0,1,0,0,1,0,0,1,1] = .seq (P4 [1,1,1,1,1,1,1,1,0,1,0,0,1,0,0,1,1,0]) (P4 [1,1,1,1,1,1,1,1,0,1,0,0,1,0,0,1,1,1]) := by kernel_rfl
theorem k4_72 : P4 [1,1,1,1,1,1,1,1,0,1,0,0,1,0,0,1,1,0] = .region 22 (O4 [1,1,1,1,1,1,1,1,0,1,0,0,1,0,0,1,1,0]) false := by kernel_rfl
theorem r4_22 {Ax11 : Option Addr} {lx11 cx11 : Nat} {x12 x13 : Int} {M : Mem} {call : CallM} {K : Array Value → Mem → R} :
    opsK Try.prog (fun _ => call) (O4 [1,1,1,1,1,1,1,1,0,1,0,0,1,0,0,1,1,0]) (O4 [1,1,1,1,1,1,1,1,0,1,0,0,1,0,0,1,1,0]).toList 0 #[g0,g1,g2,g3,g4,g5,g6,g7,g8,g9,g10,.slice Ax11 lx11 cx11,.int .i64 x12,.int .u8 x13,g14,g15,g16,g17,g18,g19,g20,g21,g22,g23,g24,g25,g26,g27,g28,g29,g30,g31,g32,g33,g34,g35,g36,g37,g38,g39,g40,g41,g42,g43,g44,g45,g46,g47,g48,g49,g50,g51,g52,g53,g54,g55,g56,g57,g58,g59,g60,g61,g62,g63,g64,g65,g66,g67,g68,g69,g70,g71,g72,g73,g74,g75,g76,g77,g78,g79,g80,g81,g82,g83,g84,g85,g86,g87,g88,g89,g90,g91,g92,g93,g94,g95,g96,g97,g98,g99,g100,g101,g102,g103,g104,g105,g106,g107,g108,g109,g110,g111] M K = (idxA Ax11 lx11 1 x12).bind fun a_1 => (M.intAt .u8 a_1.block a_1.off).bind fun x_2 => K #[g0,g1,g2,g3,g4,g5,g6,g7,g8,g9,g10,.slice Ax11 lx11 cx11,.int .i64 x12,.int .u8 x13,g14,g15,g16,g17,g18,g19,g20,g21,g22,g23,g24,g25,g26,g27,g28,g29,g30,g31,g32,g33,g34,g35,g36,g37,g38,g39,g40,g41,g42,g43,g44,g45,g46,g47,g48,g49,g50,g51,g52,g53,g54,g55,g56,g57,g58,g59,g60,g61,g62,g63,g64,g65,g66,g67,g68,g69,g70,g71,g72,g73,g74,g75,g76,g77,g78,g79,g80,g81,g82,g83,g84,g85,g86,g87,g88,g89,g90,g91,g92,g93,g94,g95,g96,g97,g98,g99,g100,g101,g102,g103,g104,g105,.slice Ax11 lx11 cx11,.int .i64 x12,.pointer (some a_1),.int .u8 x_2,.int .u8 x13,.bool (x_2 != x13)] M := by kernel_rfl
theorem c4_73 : P4 [1,1,1,1,1,1,1,1,0,1,0,0,1,0,0,1,1,1] = .cond (.tmp 111) (P4 [1,1,1,1,1,1,1,1,0,1,0,0,1,0,0,1,1,1,0]) (P4 [1,1,1,1,1,1,1,1,0,1,0,0,1,0,0,1,1,1,1]) := by kernel_rfl
theorem k4_74 : P4 [1,1,1,1,1,1,1,1,0,1,0,0,1,0,0,1,1,1,0] = .seq (P4 [1,1,1,1,1,1,1,1,0,1,0,0,1,0,0,1,1,1,0,0]) (P4 [1,1,1,1,1,1,1,1,0,1,0,0,1,0,0,1,1,1,0,1]) := by kernel_rfl
theorem k4_75 : P4 [1,1,1,1,1,1,1,1,0,1,0,0,1,0,0,1,1,1,0,0] = .region 23 (O4 [1,1,1,1,1,1,1,1,0,1,0,0,1,0,0,1,1,1,0,0]) false := by kernel_rfl
theorem r4_23 {M : Mem} {call : CallM} {K : Array Value → Mem → R} :
    opsK Try.prog (fun _ => call) (O4 [1,1,1,1,1,1,1,1,0,1,0,0,1,0,0,1,1,1,0,0]) (O4 [1,1,1,1,1,1,1,1,0,1,0,0,1,0,0,1,1,1,0,0]).toList 0 #[g0,g1,g2,g3,g4,g5,g6,g7,g8,g9,g10,g11,g12,g13,g14,g15,g16,g17,g18,g19,g20,g21,g22,g23,g24,g25,g26,g27,g28,g29,g30,g31,g32,g33,g34,g35,g36,g37,g38,g39,g40,g41,g42,g43,g44,g45,g46,g47,g48,g49,g50,g51,g52,g53,g54,g55,g56,g57,g58,g59,g60,g61,g62,g63,g64,g65,g66,g67,g68,g69,g70,g71,g72,g73,g74,g75,g76,g77,g78,g79,g80,g81,g82,g83,g84,g85,g86,g87,g88,g89,g90,g91,g92,g93,g94,g95,g96,g97,g98,g99,g100,g101,g102,g103,g104,g105,g106,g107,g108,g109,g110,g111] M K = K #[g0,g1,g2,g3,.bool false,g5,g6,g7,g8,g9,g10,g11,g12,g13,g14,g15,g16,g17,g18,g19,g20,g21,g22,g23,g24,g25,g26,g27,g28,g29,g30,g31,g32,g33,g34,g35,g36,g37,g38,g39,g40,g41,g42,g43,g44,g45,g46,g47,g48,g49,g50,g51,g52,g53,g54,g55,g56,g57,g58,g59,g60,g61,g62,g63,g64,g65,g66,g67,g68,g69,g70,g71,g72,g73,g74,g75,g76,g77,g78,g79,g80,g81,g82,g83,g84,g85,g86,g87,g88,g89,g90,g91,g92,g93,g94,g95,g96,g97,g98,g99,g100,g101,g102,g103,g104,g105,g106,g107,g108,g109,g110,g111] M := by kernel_rfl
theorem k4_76 : P4 [1,1,1,1,1,1,1,1,0,1,0,0,1,0,0,1,1,1,0,1] = .ret := by kernel_rfl
theorem k4_77 : P4 [1,1,1,1,1,1,1,1,0,1,0,0,1,0,0,1,1,1,1] = .skip := by kernel_rfl
theorem k4_78 : P4 [1,1,1,1,1,1,1,1,0,1,0,0,1,1] = .region 17 (O4 [1,1,1,1,1,1,1,1,0,1,0,0,1,1]) false := by kernel_rfl
theorem r4_17 {x12 : Int} {M : Mem} {call : CallM} {K : Array Value → Mem → R} :
    opsK Try.prog (fun _ => call) (O4 [1,1,1,1,1,1,1,1,0,1,0,0,1,1]) (O4 [1,1,1,1,1,1,1,1,0,1,0,0,1,1]).toList 0 #[g0,g1,g2,g3,g4,g5,g6,g7,g8,g9,g10,g11,.int .i64 x12,g13,g14,g15,g16,g17,g18,g19,g20,g21,g22,g23,g24,g25,g26,g27,g28,g29,g30,g31,g32,g33,g34,g35,g36,g37,g38,g39,g40,g41,g42,g43,g44,g45,g46,g47,g48,g49,g50,g51,g52,g53,g54,g55,g56,g57,g58,g59,g60,g61,g62,g63,g64,g65,g66,g67,g68,g69,g70,g71,g72,g73,g74,g75,g76,g77,g78,g79,g80,g81,g82,g83,g84,g85,g86,g87,g88,g89,g90,g91,g92,g93,g94,g95,g96,g97,g98,g99,g100,g101,g102,g103,g104,g105,g106,g107,g108,g109,g110,g111] M K = K #[g0,g1,g2,g3,g4,g5,g6,g7,g8,g9,g10,g11,.int .i64 (IntKind.i64.wrap (x12 + 1)),g13,g14,g15,g16,g17,g18,g19,g20,g21,g22,g23,g24,g25,g26,g27,g28,g29,g30,g31,g32,g33,g34,g35,g36,g37,g38,g39,g40,g41,g42,g43,g44,g45,g46,g47,g48,g49,g50,g51,g52,g53,g54,g55,g56,g57,g58,g59,g60,g61,g62,g63,g64,g65,g66,g67,g68,g69,g70,g71,g72,g73,g74,g75,g76,g77,g78,g79,g80,g81,g82,g83,g84,g85,g86,.int .i64 x12,.int .i64 (IntKind.i64.wrap (x12 + 1)),g89,g90,g91,g92,g93,g94,g95,g96,g97,g98,g99,g100,g101,g102,g103,g104,g105,g106,g107,g108,g109,g110,g111] M := by kernel_rfl
theorem k4_79 : P4 [1,1,1,1,1,1,1,1,0,1,0,0,1,0,0,1,0,1,1,1] = .skip := by kernel_rfl
theorem k4_80 : P4 [1,1,1,1,1,1,1,1,0,1,0,0,0,1,1] = .exit 2 := by kernel_rfl
theorem k4_81 : P4 [1,1,1,1,1,1,1,1,1] = .seq (P4 [1,1,1,1,1,1,1,1,1,0]) (P4 [1,1,1,1,1,1,1,1,1,1]) := by kernel_rfl
theorem k4_82 : P4 [1,1,1,1,1,1,1,1,1,0] = .region 24 (O4 [1,1,1,1,1,1,1,1,1,0]) false := by kernel_rfl
theorem r4_24 {M : Mem} {call : CallM} {K : Array Value → Mem → R} :
    opsK Try.prog (fun _ => call) (O4 [1,1,1,1,1,1,1,1,1,0]) (O4 [1,1,1,1,1,1,1,1,1,0]).toList 0 #[g0,g1,g2,g3,g4,g5,g6,g7,g8,g9,g10,g11,g12,g13,g14,g15,g16,g17,g18,g19,g20,g21,g22,g23,g24,g25,g26,g27,g28,g29,g30,g31,g32,g33,g34,g35,g36,g37,g38,g39,g40,g41,g42,g43,g44,g45,g46,g47,g48,g49,g50,g51,g52,g53,g54,g55,g56,g57,g58,g59,g60,g61,g62,g63,g64,g65,g66,g67,g68,g69,g70,g71,g72,g73,g74,g75,g76,g77,g78,g79,g80,g81,g82,g83,g84,g85,g86,g87,g88,g89,g90,g91,g92,g93,g94,g95,g96,g97,g98,g99,g100,g101,g102,g103,g104,g105,g106,g107,g108,g109,g110,g111] M K = K #[g0,g1,g2,g3,.bool true,g5,g6,g7,g8,g9,g10,g11,g12,g13,g14,g15,g16,g17,g18,g19,g20,g21,g22,g23,g24,g25,g26,g27,g28,g29,g30,g31,g32,g33,g34,g35,g36,g37,g38,g39,g40,g41,g42,g43,g44,g45,g46,g47,g48,g49,g50,g51,g52,g53,g54,g55,g56,g57,g58,g59,g60,g61,g62,g63,g64,g65,g66,g67,g68,g69,g70,g71,g72,g73,g74,g75,g76,g77,g78,g79,g80,g81,g82,g83,g84,g85,g86,g87,g88,g89,g90,g91,g92,g93,g94,g95,g96,g97,g98,g99,g100,g101,g102,g103,g104,g105,g106,g107,g108,g109,g110,g111] M := by kernel_rfl
theorem k4_83 : P4 [1,1,1,1,1,1,1,1,1,1] = .ret := by kernel_rfl
noncomputable def S4_1 : List Item := [.code (P4 [1,1,1,1,0,1,0,0]), .inLoop (P4 [1,1,1,1,0,1,0,0]), .inBlock 0, .code (P4 [1,1,1,1,1])]
def A4_1 (Ax0 : Option Addr) (lx0 cx0 : Nat) (Ax1 : Option Addr) (lx1 cx1 : Nat) (x5 x6 : Option Addr) (x7 : Int) (M : Mem) (Q : Value → Mem → Prop) : Prop := ∀ (g2 g3 g4 g8 g9 g10 g11 g12 g13 g14 g15 g16 g17 g18 g19 g20 g21 g22 g23 g24 g25 g26 g27 g28 g29 g30 g31 g32 g33 g34 g35 g36 g37 g38 g39 g40 g41 g42 g43 g44 g45 g46 g47 g48 g49 g50 g51 g52 g53 g54 g55 g56 g57 g58 g59 g60 g61 g62 g63 g64 g65 g66 g67 g68 g69 g70 g71 g72 g73 g74 g75 g76 g77 g78 g79 g80 g81 g82 g83 g84 g85 g86 g87 g88 g89 g90 g91 g92 g93 g94 g95 g96 g97 g98 g99 g100 g101 g102 g103 g104 g105 g106 g107 g108 g109 g110 g111 : Value), Rn Try.prog Try.f4 S4_1 #[.slice Ax0 lx0 cx0, .slice Ax1 lx1 cx1, g2, g3, g4, .pointer x5, .pointer x6, .int .i64 x7, g8, g9, g10, g11, g12, g13, g14, g15, g16, g17, g18, g19, g20, g21, g22, g23, g24, g25, g26, g27, g28, g29, g30, g31, g32, g33, g34, g35, g36, g37, g38, g39, g40, g41, g42, g43, g44, g45, g46, g47, g48, g49, g50, g51, g52, g53, g54, g55, g56, g57, g58, g59, g60, g61, g62, g63, g64, g65, g66, g67, g68, g69, g70, g71, g72, g73, g74, g75, g76, g77, g78, g79, g80, g81, g82, g83, g84, g85, g86, g87, g88, g89, g90, g91, g92, g93, g94, g95, g96, g97, g98, g99, g100, g101, g102, g103, g104, g105, g106, g107, g108, g109, g110, g111] M Q
noncomputable def S4_2 : List Item := [.code (P4 [1,1,1,1,0,1,0,0,0,1]), .code (P4 [1,1,1,1,0,1,0,0,1]), .inLoop (P4 [1,1,1,1,0,1,0,0]), .inBlock 0, .code (P4 [1,1,1,1,1])]
def A4_2 (Ax0 : Option Addr) (lx0 cx0 : Nat) (Ax1 : Option Addr) (lx1 cx1 : Nat) (x5 x6 : Option Addr) (x7 : Int) (x27 : Bool) (M : Mem) (Q : Value → Mem → Prop) : Prop := ∀ (g2 g3 g4 g8 g9 g10 g11 g12 g13 g14 g15 g16 g17 g18 g19 g20 g21 g22 g23 g24 g25 g26 g28 g29 g30 g31 g32 g33 g34 g35 g36 g37 g38 g39 g40 g41 g42 g43 g44 g45 g46 g47 g48 g49 g50 g51 g52 g53 g54 g55 g56 g57 g58 g59 g60 g61 g62 g63 g64 g65 g66 g67 g68 g69 g70 g71 g72 g73 g74 g75 g76 g77 g78 g79 g80 g81 g82 g83 g84 g85 g86 g87 g88 g89 g90 g91 g92 g93 g94 g95 g96 g97 g98 g99 g100 g101 g102 g103 g104 g105 g106 g107 g108 g109 g110 g111 : Value), Rn Try.prog Try.f4 S4_2 #[.slice Ax0 lx0 cx0, .slice Ax1 lx1 cx1, g2, g3, g4, .pointer x5, .pointer x6, .int .i64 x7, g8, g9, g10, g11, g12, g13, g14, g15, g16, g17, g18, g19, g20, g21, g22, g23, g24, g25, g26, .bool x27, g28, g29, g30, g31, g32, g33, g34, g35, g36, g37, g38, g39, g40, g41, g42, g43, g44, g45, g46, g47, g48, g49, g50, g51, g52, g53, g54, g55, g56, g57, g58, g59, g60, g61, g62, g63, g64, g65, g66, g67, g68, g69, g70, g71, g72, g73, g74, g75, g76, g77, g78, g79, g80, g81, g82, g83, g84, g85, g86, g87, g88, g89, g90, g91, g92, g93, g94, g95, g96, g97, g98, g99, g100, g101, g102, g103, g104, g105, g106, g107, g108, g109, g110, g111] M Q
noncomputable def S4_3 : List Item := [.code (P4 [1,1,1,1,0,1,0,0,1,0,0,1,1]), .inBlock 1, .code (P4 [1,1,1,1,0,1,0,0,1,1]), .inLoop (P4 [1,1,1,1,0,1,0,0]), .inBlock 0, .code (P4 [1,1,1,1,1])]
def A4_3 (Ax0 : Option Addr) (lx0 cx0 : Nat) (Ax1 : Option Addr) (lx1 cx1 : Nat) (x5 x6 : Option Addr) (x7 : Int) (x57 : Bool) (M : Mem) (Q : Value → Mem → Prop) : Prop := ∀ (g2 g3 g4 g8 g9 g10 g11 g12 g13 g14 g15 g16 g17 g18 g19 g20 g21 g22 g23 g24 g25 g26 g27 g28 g29 g30 g31 g32 g33 g34 g35 g36 g37 g38 g39 g40 g41 g42 g43 g44 g45 g46 g47 g48 g49 g50 g51 g52 g53 g54 g55 g56 g58 g59 g60 g61 g62 g63 g64 g65 g66 g67 g68 g69 g70 g71 g72 g73 g74 g75 g76 g77 g78 g79 g80 g81 g82 g83 g84 g85 g86 g87 g88 g89 g90 g91 g92 g93 g94 g95 g96 g97 g98 g99 g100 g101 g102 g103 g104 g105 g106 g107 g108 g109 g110 g111 : Value), Rn Try.prog Try.f4 S4_3 #[.slice Ax0 lx0 cx0, .slice Ax1 lx1 cx1, g2, g3, g4, .pointer x5, .pointer x6, .int .i64 x7, g8, g9, g10, g11, g12, g13, g14, g15, g16, g17, g18, g19, g20, g21, g22, g23, g24, g25, g26, g27, g28, g29, g30, g31, g32, g33, g34, g35, g36, g37, g38, g39, g40, g41, g42, g43, g44, g45, g46, g47, g48, g49, g50, g51, g52, g53, g54, g55, g56, .bool x57, g58, g59, g60, g61, g62, g63, g64, g65, g66, g67, g68, g69, g70, g71, g72, g73, g74, g75, g76, g77, g78, g79, g80, g81, g82, g83, g84, g85, g86, g87, g88, g89, g90, g91, g92, g93, g94, g95, g96, g97, g98, g99, g100, g101, g102, g103, g104, g105, g106, g107, g108, g109, g110, g111] M Q
noncomputable def S4_4 : List Item := [.code (P4 [1,1,1,1,1,1,1,0,1]), .code (P4 [1,1,1,1,1,1,1,1])]
def A4_4 (Ax0 : Option Addr) (lx0 cx0 : Nat) (x10 : Int) (Ax11 : Option Addr) (lx11 cx11 : Nat) (x82 : Bool) (M : Mem) (Q : Value → Mem → Prop) : Prop := ∀ (g1 g2 g3 g4 g5 g6 g7 g8 g9 g12 g13 g14 g15 g16 g17 g18 g19 g20 g21 g22 g23 g24 g25 g26 g27 g28 g29 g30 g31 g32 g33 g34 g35 g36 g37 g38 g39 g40 g41 g42 g43 g44 g45 g46 g47 g48 g49 g50 g51 g52 g53 g54 g55 g56 g57 g58 g59 g60 g61 g62 g63 g64 g65 g66 g67 g68 g69 g70 g71 g72 g73 g74 g75 g76 g77 g78 g79 g80 g81 g83 g84 g85 g86 g87 g88 g89 g90 g91 g92 g93 g94 g95 g96 g97 g98 g99 g100 g101 g102 g103 g104 g105 g106 g107 g108 g109 g110 g111 : Value), Rn Try.prog Try.f4 S4_4 #[.slice Ax0 lx0 cx0, g1, g2, g3, g4, g5, g6, g7, g8, g9, .int .i64 x10, .slice Ax11 lx11 cx11, g12, g13, g14, g15, g16, g17, g18, g19, g20, g21, g22, g23, g24, g25, g26, g27, g28, g29, g30, g31, g32, g33, g34, g35, g36, g37, g38, g39, g40, g41, g42, g43, g44, g45, g46, g47, g48, g49, g50, g51, g52, g53, g54, g55, g56, g57, g58, g59, g60, g61, g62, g63, g64, g65, g66, g67, g68, g69, g70, g71, g72, g73, g74, g75, g76, g77, g78, g79, g80, g81, .bool x82, g83, g84, g85, g86, g87, g88, g89, g90, g91, g92, g93, g94, g95, g96, g97, g98, g99, g100, g101, g102, g103, g104, g105, g106, g107, g108, g109, g110, g111] M Q
noncomputable def S4_5 : List Item := [.code (P4 [1,1,1,1,1,1,1,1,0,1,0,0]), .inLoop (P4 [1,1,1,1,1,1,1,1,0,1,0,0]), .inBlock 2, .code (P4 [1,1,1,1,1,1,1,1,1])]
def A4_5 (Ax0 : Option Addr) (lx0 cx0 : Nat) (x10 : Int) (Ax11 : Option Addr) (lx11 cx11 : Nat) (x12 : Int) (M : Mem) (Q : Value → Mem → Prop) : Prop := ∀ (g1 g2 g3 g4 g5 g6 g7 g8 g9 g13 g14 g15 g16 g17 g18 g19 g20 g21 g22 g23 g24 g25 g26 g27 g28 g29 g30 g31 g32 g33 g34 g35 g36 g37 g38 g39 g40 g41 g42 g43 g44 g45 g46 g47 g48 g49 g50 g51 g52 g53 g54 g55 g56 g57 g58 g59 g60 g61 g62 g63 g64 g65 g66 g67 g68 g69 g70 g71 g72 g73 g74 g75 g76 g77 g78 g79 g80 g81 g82 g83 g84 g85 g86 g87 g88 g89 g90 g91 g92 g93 g94 g95 g96 g97 g98 g99 g100 g101 g102 g103 g104 g105 g106 g107 g108 g109 g110 g111 : Value), Rn Try.prog Try.f4 S4_5 #[.slice Ax0 lx0 cx0, g1, g2, g3, g4, g5, g6, g7, g8, g9, .int .i64 x10, .slice Ax11 lx11 cx11, .int .i64 x12, g13, g14, g15, g16, g17, g18, g19, g20, g21, g22, g23, g24, g25, g26, g27, g28, g29, g30, g31, g32, g33, g34, g35, g36, g37, g38, g39, g40, g41, g42, g43, g44, g45, g46, g47, g48, g49, g50, g51, g52, g53, g54, g55, g56, g57, g58, g59, g60, g61, g62, g63, g64, g65, g66, g67, g68, g69, g70, g71, g72, g73, g74, g75, g76, g77, g78, g79, g80, g81, g82, g83, g84, g85, g86, g87, g88, g89, g90, g91, g92, g93, g94, g95, g96, g97, g98, g99, g100, g101, g102, g103, g104, g105, g106, g107, g108, g109, g110, g111] M Q
theorem w4_0 {Ax0 : Option Addr} {lx0 cx0 : Nat} {Ax1 : Option Addr} {lx1 cx1 : Nat} {M : Mem} {Q : Value → Mem → Prop} (H :
    Cn Try.prog 21 #[] M fun v1' N1' =>
     ∃ b2', asB v1' = some b2' ∧
     (((!b2') = true →
      Q (.bool false) N1') ∧
      ((!b2') = false →
      Cn Try.prog 22 #[.slice Ax0 lx0 cx0] N1' fun v3' N3' =>
       ∃ p4', asP v3' = some p4' ∧
       Cn Try.prog 9 #[] N3' fun v5' N5' =>
        ∃ p6', asP v5' = some p6' ∧
        A4_1 Ax0 lx0 cx0 Ax1 lx1 cx1 p4' p6' 0 N5' Q))) :
    Cn Try.prog 4 #[.slice Ax0 lx0 cx0, .slice Ax1 lx1 cx1] M Q := by
  refine Cn.of b4 d4 t4 ?_
  refine Rn.seq k4_0 (Rn.region k4_1 (fun call K => r4_0) (Rch.leaf (Rn.seq k4_2 (Rn.seq k4_3 (Rn.region k4_4 (fun call K => r4_1) (Rch.call H fun v1' N1' H => Rch.ex H fun b2' H => Rch.leaf ?_))))))
  refine Rn.cnd (v := !b2') ⟨c4_5, rfl, by kernel_rfl⟩ (fun h => ?_) (fun h => ?_)
  · replace H := H.1 (h)
    refine Rn.seq k4_6 (Rn.region k4_7 (fun call K => r4_2) (Rch.leaf ?_))
    exact Rn.ret k4_8 e4 H
  · replace H := H.2 (h)
    refine Rn.skip k4_10 (Rn.seq k4_11 (Rn.region k4_12 (fun call K => r4_3) (Rch.call H fun v3' N3' H => Rch.ex H fun p4' H => Rch.leaf (Rn.seq k4_13 (Rn.region k4_14 (fun call K => r4_4) (Rch.call H fun v5' N5' H => Rch.ex H fun p6' H => Rch.leaf (Rn.seq k4_15 ?_)))))))
    refine Rn.seq k4_16 (Rn.region k4_17 (fun call K => r4_5) (Rch.leaf (Rn.block k4_18 (Rn.loop k4_19 ?_))))
    exact H _ _ _ _ _ _ _ _ _ _ _ _ _ _ _ _ _ _ _ _ _ _ _ _ _ _ _ _ _ _ _ _ _ _ _ _ _ _ _ _ _ _ _ _ _ _ _ _ _ _ _ _ _ _ _ _ _ _ _ _ _ _ _ _ _ _ _ _ _ _ _ _ _ _ _ _ _ _ _ _ _ _ _ _ _ _ _ _ _ _ _ _ _ _ _ _ _ _ _ _ _ _ _ _ _ _ _

theorem w4_1 {Ax0 : Option Addr} {lx0 cx0 : Nat} {Ax1 : Option Addr} {lx1 cx1 : Nat} {x5 x6 : Option Addr} {x7 : Int} {M : Mem} {Q : Value → Mem → Prop} (H :
    ((x7 < ((lx1 : Int)) →
     A4_2 Ax0 lx0 cx0 Ax1 lx1 cx1 x5 x6 x7 (decide (x7 < 200)) M Q) ∧
     (¬ (x7 < ((lx1 : Int))) →
     A4_2 Ax0 lx0 cx0 Ax1 lx1 cx1 x5 x6 x7 false M Q))) :
    A4_1 Ax0 lx0 cx0 Ax1 lx1 cx1 x5 x6 x7 M Q := by
  intro g2 g3 g4 g8 g9 g10 g11 g12 g13 g14 g15 g16 g17 g18 g19 g20 g21 g22 g23 g24 g25 g26 g27 g28 g29 g30 g31 g32 g33 g34 g35 g36 g37 g38 g39 g40 g41 g42 g43 g44 g45 g46 g47 g48 g49 g50 g51 g52 g53 g54 g55 g56 g57 g58 g59 g60 g61 g62 g63 g64 g65 g66 g67 g68 g69 g70 g71 g72 g73 g74 g75 g76 g77 g78 g79 g80 g81 g82 g83 g84 g85 g86 g87 g88 g89 g90 g91 g92 g93 g94 g95 g96 g97 g98 g99 g100 g101 g102 g103 g104 g105 g106 g107 g108 g109 g110 g111
  refine Rn.seq k4_20 (Rn.seq k4_21 (Rn.region k4_22 (fun call K => r4_6) ?_))
  refine Rch.cB (fun h => ?_) (fun h => ?_)
  · replace H := H.1 (of_decide_eq_true h)
    refine Rch.leaf ?_
    exact H _ _ _ _ _ _ _ _ _ _ _ _ _ _ _ _ _ _ _ _ _ _ _ _ _ _ _ _ _ _ _ _ _ _ _ _ _ _ _ _ _ _ _ _ _ _ _ _ _ _ _ _ _ _ _ _ _ _ _ _ _ _ _ _ _ _ _ _ _ _ _ _ _ _ _ _ _ _ _ _ _ _ _ _ _ _ _ _ _ _ _ _ _ _ _ _ _ _ _ _ _ _ _ _ _ _
  · replace H := H.2 (of_decide_eq_false h)
    refine Rch.leaf ?_
    exact H _ _ _ _ _ _ _ _ _ _ _ _ _ _ _ _ _ _ _ _ _ _ _ _ _ _ _ _ _ _ _ _ _ _ _ _ _ _ _ _ _ _ _ _ _ _ _ _ _ _ _ _ _ _ _ _ _ _ _ _ _ _ _ _ _ _ _ _ _ _ _ _ _ _ _ _ _ _ _ _ _ _ _ _ _ _ _ _ _ _ _ _ _ _ _ _ _ _ _ _ _ _ _ _ _ _

theorem w4_2 {Ax0 : Option Addr} {lx0 cx0 : Nat} {Ax1 : Option Addr} {lx1 cx1 : Nat} {x5 x6 : Option Addr} {x7 : Int} {x27 : Bool} {M : Mem} {Q : Value → Mem → Prop} (H :
    ((x27 = true →
     ∃ a7', idxA Ax1 lx1 3 x7 = some a7' ∧
     ∃ x8', M.intAt .i64 a7'.block a7'.off = some x8' ∧
     ∃ x9', M.intAt .i64 a7'.block (a7'.off + 1) = some x9' ∧
     ∃ x10', M.intAt .u32 a7'.block (a7'.off + 2) = some x10' ∧
     Cn Try.prog 23 #[.pointer x5, .agg #[.int .i64 x8', .int .i64 x9', .int .u32 x10']] M fun v11' N11' =>
      ∃ cs12', asU 2 v11' = some cs12' ∧
      ∃ x13', asI .u32 (cs12'.getD 0 undef) = some x13' ∧
      ∃ x14', asI .i64 (cs12'.getD 1 undef) = some x14' ∧
      ((x14' = 0 →
       ∃ a15', idxA Ax1 lx1 3 x7 = some a15' ∧
       ∃ x16', N11'.intAt .i64 a15'.block a15'.off = some x16' ∧
       ∃ a17', idxA Ax1 lx1 3 x7 = some a17' ∧
       ∃ x18', N11'.intAt .i64 a17'.block (a17'.off + 1) = some x18' ∧
       Cn Try.prog 11 #[.pointer x6, .agg #[.int .i64 x16', .int .i64 x18', .int .u32 x13']] N11' fun v19' N19' =>
        ∃ x20', asI .i64 v19' = some x20' ∧
        A4_3 Ax0 lx0 cx0 Ax1 lx1 cx1 x5 x6 x7 (x20' != 0) N19' Q) ∧
       (x14' ≠ 0 →
       A4_3 Ax0 lx0 cx0 Ax1 lx1 cx1 x5 x6 x7 false N11' Q))) ∧
     (x27 = false →
     Cn Try.prog 24 #[.pointer x5] M fun v21' N21' =>
      ∃ x22', asI .i64 v21' = some x22' ∧
      Cn Try.prog 18 #[.pointer x6] N21' fun v23' N23' =>
       ∃ s24', asS v23' = some s24' ∧
       (((IntKind.i64.wrap ((IntKind.i64.wrap (8 * ((lx0 : Int)))) - x22')) < 0 →
        A4_4 Ax0 lx0 cx0 (IntKind.i64.wrap ((IntKind.i64.wrap (8 * ((lx0 : Int)))) - x22')) s24'.1 s24'.2.1 s24'.2.2 true N23' Q) ∧
        (¬ ((IntKind.i64.wrap ((IntKind.i64.wrap (8 * ((lx0 : Int)))) - x22')) < 0) →
        (((IntKind.i64.wrap ((IntKind.i64.wrap (8 * ((lx0 : Int)))) - x22')) > (IntKind.i64.wrap (8 * ((lx0 : Int)))) →
         A4_4 Ax0 lx0 cx0 (IntKind.i64.wrap ((IntKind.i64.wrap (8 * ((lx0 : Int)))) - x22')) s24'.1 s24'.2.1 s24'.2.2 true N23' Q) ∧
         (¬ ((IntKind.i64.wrap ((IntKind.i64.wrap (8 * ((lx0 : Int)))) - x22')) > (IntKind.i64.wrap (8 * ((lx0 : Int))))) →
         A4_4 Ax0 lx0 cx0 (IntKind.i64.wrap ((IntKind.i64.wrap (8 * ((lx0 : Int)))) - x22')) s24'.1 s24'.2.1 s24'.2.2 (((s24'.2.1 : Int)) != (IntKind.i64.wrap ((IntKind.i64.wrap ((IntKind.i64.wrap ((IntKind.i64.wrap (8 * ((lx0 : Int)))) - x22')) + 7)).tdiv 8))) N23' Q))))))) :
    A4_2 Ax0 lx0 cx0 Ax1 lx1 cx1 x5 x6 x7 x27 M Q := by
  intro g2 g3 g4 g8 g9 g10 g11 g12 g13 g14 g15 g16 g17 g18 g19 g20 g21 g22 g23 g24 g25 g26 g28 g29 g30 g31 g32 g33 g34 g35 g36 g37 g38 g39 g40 g41 g42 g43 g44 g45 g46 g47 g48 g49 g50 g51 g52 g53 g54 g55 g56 g57 g58 g59 g60 g61 g62 g63 g64 g65 g66 g67 g68 g69 g70 g71 g72 g73 g74 g75 g76 g77 g78 g79 g80 g81 g82 g83 g84 g85 g86 g87 g88 g89 g90 g91 g92 g93 g94 g95 g96 g97 g98 g99 g100 g101 g102 g103 g104 g105 g106 g107 g108 g109 g110 g111
  refine Rn.cnd (v := x27) ⟨c4_23, rfl, by kernel_rfl⟩ (fun h => ?_) (fun h => ?_)
  · replace H := H.1 (h)
    refine Rn.skip k4_24 (Rn.seq k4_25 (Rn.block k4_26 (Rn.seq k4_27 (Rn.region k4_28 (fun call K => r4_8) (Rch.ex H fun a7' H => Rch.ex H fun x8' H => Rch.ex H fun x9' H => Rch.ex H fun x10' H => Rch.call H fun v11' N11' H => Rch.ex H fun cs12' H => Rch.ex H fun x13' H => ?_)))))
    refine Rch.ex H fun x14' H => Rch.leaf (Rn.seq k4_29 (Rn.regionD k4_30 (fun call K => r4_9) ?_))
    refine Rch.cB (fun h => ?_) (fun h => ?_)
    · replace H := H.1 (eq_of_beq h)
      refine Rch.ex H fun a15' H => Rch.ex H fun x16' H => Rch.ex H fun a17' H => Rch.ex H fun x18' H => Rch.call H fun v19' N19' H => Rch.ex H fun x20' H => Rch.leaf ?_
      exact H _ _ _ _ _ _ _ _ _ _ _ _ _ _ _ _ _ _ _ _ _ _ _ _ _ _ _ _ _ _ _ _ _ _ _ _ _ _ _ _ _ _ _ _ _ _ _ _ _ _ _ _ _ _ _ _ _ _ _ _ _ _ _ _ _ _ _ _ _ _ _ _ _ _ _ _ _ _ _ _ _ _ _ _ _ _ _ _ _ _ _ _ _ _ _ _ _ _ _ _ _ _ _ _ _ _
    · replace H := H.2 (ne_of_beq_false h)
      refine Rch.leaf ?_
      exact H _ _ _ _ _ _ _ _ _ _ _ _ _ _ _ _ _ _ _ _ _ _ _ _ _ _ _ _ _ _ _ _ _ _ _ _ _ _ _ _ _ _ _ _ _ _ _ _ _ _ _ _ _ _ _ _ _ _ _ _ _ _ _ _ _ _ _ _ _ _ _ _ _ _ _ _ _ _ _ _ _ _ _ _ _ _ _ _ _ _ _ _ _ _ _ _ _ _ _ _ _ _ _ _ _ _
  · replace H := H.2 (h)
    refine Rn.exit k4_31 rfl (Rn.seq k4_32 (Rn.region k4_33 (fun call K => r4_11) (Rch.call H fun v21' N21' H => Rch.ex H fun x22' H => Rch.leaf (Rn.seq k4_34 (Rn.region k4_35 (fun call K => r4_12) (Rch.call H fun v23' N23' H => Rch.ex H fun s24' H => Rch.leaf (Rn.seq k4_36 ?_)))))))
    refine Rn.seq k4_37 (Rn.region k4_38 (fun call K => r4_13) ?_)
    refine Rch.cB (fun h => ?_) (fun h => ?_)
    · replace H := H.1 (of_decide_eq_true h)
      refine Rch.leaf ?_
      exact H _ _ _ _ _ _ _ _ _ _ _ _ _ _ _ _ _ _ _ _ _ _ _ _ _ _ _ _ _ _ _ _ _ _ _ _ _ _ _ _ _ _ _ _ _ _ _ _ _ _ _ _ _ _ _ _ _ _ _ _ _ _ _ _ _ _ _ _ _ _ _ _ _ _ _ _ _ _ _ _ _ _ _ _ _ _ _ _ _ _ _ _ _ _ _ _ _ _ _ _ _ _ _ _ _ _ _ _
    · replace H := H.2 (of_decide_eq_false h)
      refine Rch.cB (fun h => ?_) (fun h => ?_)
      · replace H := H.1 (of_decide_eq_true h)
        refine Rch.leaf ?_
        exact H _ _ _ _ _ _ _ _ _ _ _ _ _ _ _ _ _ _ _ _ _ _ _ _ _ _ _ _ _ _ _ _ _ _ _ _ _ _ _ _ _ _ _ _ _ _ _ _ _ _ _ _ _ _ _ _ _ _ _ _ _ _ _ _ _ _ _ _ _ _ _ _ _ _ _ _ _ _ _ _ _ _ _ _ _ _ _ _ _ _ _ _ _ _ _ _ _ _ _ _ _ _ _ _ _ _ _ _
      · replace H := H.2 (of_decide_eq_false h)
        refine Rch.leaf ?_
        exact H _ _ _ _ _ _ _ _ _ _ _ _ _ _ _ _ _ _ _ _ _ _ _ _ _ _ _ _ _ _ _ _ _ _ _ _ _ _ _ _ _ _ _ _ _ _ _ _ _ _ _ _ _ _ _ _ _ _ _ _ _ _ _ _ _ _ _ _ _ _ _ _ _ _ _ _ _ _ _ _ _ _ _ _ _ _ _ _ _ _ _ _ _ _ _ _ _ _ _ _ _ _ _ _ _ _ _ _

theorem w4_3 {Ax0 : Option Addr} {lx0 cx0 : Nat} {Ax1 : Option Addr} {lx1 cx1 : Nat} {x5 x6 : Option Addr} {x7 : Int} {x57 : Bool} {M : Mem} {Q : Value → Mem → Prop} (H :
    ((x57 = true →
     Q (.bool false) M) ∧
     (x57 = false →
     A4_1 Ax0 lx0 cx0 Ax1 lx1 cx1 x5 x6 (IntKind.i64.wrap (x7 + 1)) M Q))) :
    A4_3 Ax0 lx0 cx0 Ax1 lx1 cx1 x5 x6 x7 x57 M Q := by
  intro g2 g3 g4 g8 g9 g10 g11 g12 g13 g14 g15 g16 g17 g18 g19 g20 g21 g22 g23 g24 g25 g26 g27 g28 g29 g30 g31 g32 g33 g34 g35 g36 g37 g38 g39 g40 g41 g42 g43 g44 g45 g46 g47 g48 g49 g50 g51 g52 g53 g54 g55 g56 g58 g59 g60 g61 g62 g63 g64 g65 g66 g67 g68 g69 g70 g71 g72 g73 g74 g75 g76 g77 g78 g79 g80 g81 g82 g83 g84 g85 g86 g87 g88 g89 g90 g91 g92 g93 g94 g95 g96 g97 g98 g99 g100 g101 g102 g103 g104 g105 g106 g107 g108 g109 g110 g111
  refine Rn.cnd (v := x57) ⟨c4_39, rfl, by kernel_rfl⟩ (fun h => ?_) (fun h => ?_)
  · replace H := H.1 (h)
    refine Rn.seq k4_40 (Rn.region k4_41 (fun call K => r4_10) (Rch.leaf ?_))
    exact Rn.ret k4_42 e4 H
  · replace H := H.2 (h)
    refine Rn.skip k4_43 (Rn.blk (Rn.region k4_44 (fun call K => r4_7) (Rch.leaf (Rn.lp ?_))))
    exact H _ _ _ _ _ _ _ _ _ _ _ _ _ _ _ _ _ _ _ _ _ _ _ _ _ _ _ _ _ _ _ _ _ _ _ _ _ _ _ _ _ _ _ _ _ _ _ _ _ _ _ _ _ _ _ _ _ _ _ _ _ _ _ _ _ _ _ _ _ _ _ _ _ _ _ _ _ _ _ _ _ _ _ _ _ _ _ _ _ _ _ _ _ _ _ _ _ _ _ _ _ _ _ _ _ _ _

theorem w4_4 {Ax0 : Option Addr} {lx0 cx0 : Nat} {x10 : Int} {Ax11 : Option Addr} {lx11 cx11 : Nat} {x82 : Bool} {M : Mem} {Q : Value → Mem → Prop} (H :
    ((x82 = true →
     Q (.bool false) M) ∧
     (x82 = false →
     A4_5 Ax0 lx0 cx0 x10 Ax11 lx11 cx11 0 M Q))) :
    A4_4 Ax0 lx0 cx0 x10 Ax11 lx11 cx11 x82 M Q := by
  intro g1 g2 g3 g4 g5 g6 g7 g8 g9 g12 g13 g14 g15 g16 g17 g18 g19 g20 g21 g22 g23 g24 g25 g26 g27 g28 g29 g30 g31 g32 g33 g34 g35 g36 g37 g38 g39 g40 g41 g42 g43 g44 g45 g46 g47 g48 g49 g50 g51 g52 g53 g54 g55 g56 g57 g58 g59 g60 g61 g62 g63 g64 g65 g66 g67 g68 g69 g70 g71 g72 g73 g74 g75 g76 g77 g78 g79 g80 g81 g83 g84 g85 g86 g87 g88 g89 g90 g91 g92 g93 g94 g95 g96 g97 g98 g99 g100 g101 g102 g103 g104 g105 g106 g107 g108 g109 g110 g111
  refine Rn.cnd (v := x82) ⟨c4_45, rfl, by kernel_rfl⟩ (fun h => ?_) (fun h => ?_)
  · replace H := H.1 (h)
    refine Rn.seq k4_46 (Rn.region k4_47 (fun call K => r4_14) (Rch.leaf ?_))
    exact Rn.ret k4_48 e4 H
  · replace H := H.2 (h)
    refine Rn.skip k4_49 (Rn.seq k4_50 (Rn.seq k4_51 (Rn.region k4_52 (fun call K => r4_15) (Rch.leaf (Rn.block k4_53 (Rn.loop k4_54 ?_))))))
    exact H _ _ _ _ _ _ _ _ _ _ _ _ _ _ _ _ _ _ _ _ _ _ _ _ _ _ _ _ _ _ _ _ _ _ _ _ _ _ _ _ _ _ _ _ _ _ _ _ _ _ _ _ _ _ _ _ _ _ _ _ _ _ _ _ _ _ _ _ _ _ _ _ _ _ _ _ _ _ _ _ _ _ _ _ _ _ _ _ _ _ _ _ _ _ _ _ _ _ _ _ _ _ _ _ _ _ _ _

theorem w4_5 {Ax0 : Option Addr} {lx0 cx0 : Nat} {x10 : Int} {Ax11 : Option Addr} {lx11 cx11 : Nat} {x12 : Int} {M : Mem} {Q : Value → Mem → Prop} (H :
    ((x12 < ((lx11 : Int)) →
     ∃ a25', idxA Ax0 lx0 1 x12 = some a25' ∧
     ∃ x26', M.intAt .u8 a25'.block a25'.off = some x26' ∧
     (((IntKind.i64.wrap (x10 - (IntKind.i64.wrap (8 * x12)))) < 8 →
      ∃ v27', binV Try.prog .shr 5 3 (.int .u8 x26') (.int .i64 (IntKind.i64.wrap (8 - (IntKind.i64.wrap (x10 - (IntKind.i64.wrap (8 * x12))))))) = some v27' ∧
      ∃ x28', asI .u8 v27' = some x28' ∧
      ∃ v29', binV Try.prog .shl 5 3 (.int .u8 x28') (.int .i64 (IntKind.i64.wrap (8 - (IntKind.i64.wrap (x10 - (IntKind.i64.wrap (8 * x12))))))) = some v29' ∧
      ∃ x30', asI .u8 v29' = some x30' ∧
      ∃ a31', idxA Ax11 lx11 1 x12 = some a31' ∧
      ∃ x32', M.intAt .u8 a31'.block a31'.off = some x32' ∧
      ((x32' ≠ x30' →
       Q (.bool false) M) ∧
       (x32' = x30' →
       A4_5 Ax0 lx0 cx0 x10 Ax11 lx11 cx11 (IntKind.i64.wrap (x12 + 1)) M Q))) ∧
      (¬ ((IntKind.i64.wrap (x10 - (IntKind.i64.wrap (8 * x12)))) < 8) →
      ∃ a33', idxA Ax11 lx11 1 x12 = some a33' ∧
      ∃ x34', M.intAt .u8 a33'.block a33'.off = some x34' ∧
      ((x34' ≠ x26' →
       Q (.bool false) M) ∧
       (x34' = x26' →
       A4_5 Ax0 lx0 cx0 x10 Ax11 lx11 cx11 (IntKind.i64.wrap (x12 + 1)) M Q))))) ∧
     (¬ (x12 < ((lx11 : Int))) →
     Q (.bool true) M))) :
    A4_5 Ax0 lx0 cx0 x10 Ax11 lx11 cx11 x12 M Q := by
  intro g1 g2 g3 g4 g5 g6 g7 g8 g9 g13 g14 g15 g16 g17 g18 g19 g20 g21 g22 g23 g24 g25 g26 g27 g28 g29 g30 g31 g32 g33 g34 g35 g36 g37 g38 g39 g40 g41 g42 g43 g44 g45 g46 g47 g48 g49 g50 g51 g52 g53 g54 g55 g56 g57 g58 g59 g60 g61 g62 g63 g64 g65 g66 g67 g68 g69 g70 g71 g72 g73 g74 g75 g76 g77 g78 g79 g80 g81 g82 g83 g84 g85 g86 g87 g88 g89 g90 g91 g92 g93 g94 g95 g96 g97 g98 g99 g100 g101 g102 g103 g104 g105 g106 g107 g108 g109 g110 g111
  refine Rn.seq k4_55 (Rn.seq k4_56 (Rn.region k4_57 (fun call K => r4_16) (Rch.leaf ?_)))
  refine Rn.cnd (v := decide (x12 < ((lx11 : Int)))) ⟨c4_58, rfl, by kernel_rfl⟩ (fun h => ?_) (fun h => ?_)
  · replace H := H.1 (of_decide_eq_true h)
    refine Rn.skip k4_59 (Rn.seq k4_60 (Rn.block k4_61 (Rn.seq k4_62 (Rn.region k4_63 (fun call K => r4_18) (Rch.ex H fun a25' H => Rch.ex H fun x26' H => Rch.leaf (Rn.seq k4_64 (Rn.seq k4_65 (Rn.region k4_66 (fun call K => r4_19) (Rch.leaf ?_)))))))))
    refine Rn.seq k4_67 (Rn.region k4_68 (fun call K => r4_20) (Rch.leaf ?_))
    refine Rn.cnd (v := decide ((IntKind.i64.wrap (x10 - (IntKind.i64.wrap (8 * x12)))) < 8)) ⟨c4_69, rfl, by kernel_rfl⟩ (fun h => ?_) (fun h => ?_)
    · replace H := H.1 (of_decide_eq_true h)
      refine Rn.region k4_70 (fun call K => r4_21) (Rch.ex H fun v27' H => Rch.ex H fun x28' H => Rch.ex H fun v29' H => Rch.ex H fun x30' H => Rch.leaf (Rn.seq k4_71 (Rn.region k4_72 (fun call K => r4_22) (Rch.ex H fun a31' H => Rch.ex H fun x32' H => Rch.leaf ?_))))
      refine Rn.cnd (v := x32' != x30') ⟨c4_73, rfl, by kernel_rfl⟩ (fun h => ?_) (fun h => ?_)
      · replace H := H.1 (ne_of_bneT h)
        refine Rn.seq k4_74 (Rn.region k4_75 (fun call K => r4_23) (Rch.leaf ?_))
        exact Rn.ret k4_76 e4 H
      · replace H := H.2 (eq_of_bneF h)
        refine Rn.skip k4_77 (Rn.blk (Rn.region k4_78 (fun call K => r4_17) (Rch.leaf (Rn.lp ?_))))
        exact H _ _ _ _ _ _ _ _ _ _ _ _ _ _ _ _ _ _ _ _ _ _ _ _ _ _ _ _ _ _ _ _ _ _ _ _ _ _ _ _ _ _ _ _ _ _ _ _ _ _ _ _ _ _ _ _ _ _ _ _ _ _ _ _ _ _ _ _ _ _ _ _ _ _ _ _ _ _ _ _ _ _ _ _ _ _ _ _ _ _ _ _ _ _ _ _ _ _ _ _ _ _ _ _ _ _ _ _
    · replace H := H.2 (of_decide_eq_false h)
      refine Rn.skip k4_79 (Rn.seq k4_71 (Rn.region k4_72 (fun call K => r4_22) (Rch.ex H fun a33' H => Rch.ex H fun x34' H => Rch.leaf ?_)))
      refine Rn.cnd (v := x34' != x26') ⟨c4_73, rfl, by kernel_rfl⟩ (fun h => ?_) (fun h => ?_)
      · replace H := H.1 (ne_of_bneT h)
        refine Rn.seq k4_74 (Rn.region k4_75 (fun call K => r4_23) (Rch.leaf ?_))
        exact Rn.ret k4_76 e4 H
      · replace H := H.2 (eq_of_bneF h)
        refine Rn.skip k4_77 (Rn.blk (Rn.region k4_78 (fun call K => r4_17) (Rch.leaf (Rn.lp ?_))))
        exact H _ _ _ _ _ _ _ _ _ _ _ _ _ _ _ _ _ _ _ _ _ _ _ _ _ _ _ _ _ _ _ _ _ _ _ _ _ _ _ _ _ _ _ _ _ _ _ _ _ _ _ _ _ _ _ _ _ _ _ _ _ _ _ _ _ _ _ _ _ _ _ _ _ _ _ _ _ _ _ _ _ _ _ _ _ _ _ _ _ _ _ _ _ _ _ _ _ _ _ _ _ _ _ _ _ _ _ _
  · replace H := H.2 (of_decide_eq_false h)
    refine Rn.exit k4_80 rfl (Rn.seq k4_81 (Rn.region k4_82 (fun call K => r4_24) (Rch.leaf ?_)))
    exact Rn.ret k4_83 e4 H


end Go.Zt
