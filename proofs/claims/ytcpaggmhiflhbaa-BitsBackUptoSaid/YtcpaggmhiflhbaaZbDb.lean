/- The functions' walks: for each function and each loop a rule of what it comes to. Printed by zw.py. -/
import Derived.Test.YtcpaggmhiflhbaaProg
import Derived.Test.YtcpaggmhiflhbaaZbA
set_option linter.unusedVariables false
set_option maxRecDepth 100000
namespace Go.Zt
open Go Go.Sim Go.Proofs

variable {g0 g1 g2 g3 g4 g5 g6 g7 g8 g9 g10 g11 g12 g13 g14 g15 g16 g17 g18 g19 g20 g21 g22 g23 g24 g25 g26 g27 g28 g29 g30 g31 g32 g33 g34 g35 g36 g37 g38 g39 g40 g41 g42 g43 g44 g45 g46 g47 g48 g49 g50 g51 g52 g53 g54 g55 g56 g57 g58 g59 g60 g61 g62 g63 g64 g65 g66 g67 g68 g69 g70 g71 g72 g73 g74 g75 g76 g77 g78 g79 g80 g81 g82 g83 g84 g85 g86 g87 g88 g89 g90 g91 g92 g93 g94 g95 g96 g97 : Value}
/-! ### zoetrope/zoetropelaw01.BitsWrites: function 3 -/
noncomputable abbrev P3 (p : List Nat) : Code := subC (codeOf Try.f3) p
noncomputable abbrev O3 (p : List Nat) : Array Oper := opsOf (subC (codeOf Try.f3) p)
theorem b3 : Try.prog.funcs[3]? = some Try.f3 ∧ (Orc.tab Try.prog).lookup 3 = none := ⟨by kernel_rfl, by kernel_rfl⟩
theorem d3 : Try.f3.body = some (P3 []) := by kernel_rfl
theorem t3 {Ax0 : Option Addr} {lx0 cx0 : Nat} : #[.slice Ax0 lx0 cx0] ++ Array.replicate (Try.f3.ntmps - (#[.slice Ax0 lx0 cx0] : Array Value).size) undef = #[.slice Ax0 lx0 cx0,undef,undef,undef,undef,undef,undef,undef,undef,undef,undef,undef,undef,undef,undef,undef,undef,undef,undef,undef,undef,undef,undef,undef,undef,undef,undef,undef,undef,undef,undef,undef,undef,undef,undef,undef,undef,undef,undef,undef,undef,undef,undef,undef,undef,undef,undef,undef,undef,undef,undef,undef,undef,undef,undef,undef,undef,undef,undef,undef,undef,undef,undef,undef,undef,undef,undef,undef,undef,undef,undef,undef,undef,undef,undef,undef,undef,undef,undef,undef,undef,undef,undef,undef,undef,undef,undef,undef,undef,undef,undef,undef,undef,undef,undef,undef,undef,undef] := by kernel_rfl
theorem k3_0 : P3 [] = .seq (P3 [0]) (P3 [1]) := by kernel_rfl
theorem k3_1 : P3 [0] = .region 0 (O3 [0]) false := by kernel_rfl
theorem r3_0 {M : Mem} {call : CallM} {K : Array Value → Mem → R} :
    opsK Try.prog (fun _ => call) (O3 [0]) (O3 [0]).toList 0 #[g0,g1,g2,g3,g4,g5,g6,g7,g8,g9,g10,g11,g12,g13,g14,g15,g16,g17,g18,g19,g20,g21,g22,g23,g24,g25,g26,g27,g28,g29,g30,g31,g32,g33,g34,g35,g36,g37,g38,g39,g40,g41,g42,g43,g44,g45,g46,g47,g48,g49,g50,g51,g52,g53,g54,g55,g56,g57,g58,g59,g60,g61,g62,g63,g64,g65,g66,g67,g68,g69,g70,g71,g72,g73,g74,g75,g76,g77,g78,g79,g80,g81,g82,g83,g84,g85,g86,g87,g88,g89,g90,g91,g92,g93,g94,g95,g96,g97] M K = K #[g0,g1,.bool false,g3,g4,g5,g6,g7,g8,g9,g10,g11,g12,g13,g14,g15,g16,g17,g18,g19,g20,g21,g22,g23,g24,g25,g26,g27,g28,g29,g30,g31,g32,g33,g34,g35,g36,g37,g38,g39,g40,g41,g42,g43,g44,g45,g46,g47,g48,g49,g50,g51,g52,g53,g54,g55,g56,g57,g58,g59,g60,g61,g62,g63,g64,g65,g66,g67,g68,g69,g70,g71,g72,g73,g74,g75,g76,g77,g78,g79,g80,g81,g82,g83,g84,g85,g86,g87,g88,g89,g90,g91,g92,g93,g94,g95,g96,g97] M := by kernel_rfl
theorem k3_2 : P3 [1] = .seq (P3 [1,0]) (P3 [1,1]) := by kernel_rfl
theorem k3_3 : P3 [1,0] = .region 1 (O3 [1,0]) false := by kernel_rfl
theorem r3_1 {M : Mem} {call : CallM} {K : Array Value → Mem → R} :
    opsK Try.prog (fun _ => call) (O3 [1,0]) (O3 [1,0]).toList 0 #[g0,g1,g2,g3,g4,g5,g6,g7,g8,g9,g10,g11,g12,g13,g14,g15,g16,g17,g18,g19,g20,g21,g22,g23,g24,g25,g26,g27,g28,g29,g30,g31,g32,g33,g34,g35,g36,g37,g38,g39,g40,g41,g42,g43,g44,g45,g46,g47,g48,g49,g50,g51,g52,g53,g54,g55,g56,g57,g58,g59,g60,g61,g62,g63,g64,g65,g66,g67,g68,g69,g70,g71,g72,g73,g74,g75,g76,g77,g78,g79,g80,g81,g82,g83,g84,g85,g86,g87,g88,g89,g90,g91,g92,g93,g94,g95,g96,g97] M K = (call 9 #[] M).bind fun r_1 => (asP r_1.1).bind fun p_2 => K #[g0,g1,g2,.pointer p_2,g4,g5,g6,g7,g8,g9,g10,.pointer p_2,g12,g13,g14,g15,g16,g17,g18,g19,g20,g21,g22,g23,g24,g25,g26,g27,g28,g29,g30,g31,g32,g33,g34,g35,g36,g37,g38,g39,g40,g41,g42,g43,g44,g45,g46,g47,g48,g49,g50,g51,g52,g53,g54,g55,g56,g57,g58,g59,g60,g61,g62,g63,g64,g65,g66,g67,g68,g69,g70,g71,g72,g73,g74,g75,g76,g77,g78,g79,g80,g81,g82,g83,g84,g85,g86,g87,g88,g89,g90,g91,g92,g93,g94,g95,g96,g97] r_1.2 := by kernel_rfl
theorem k3_4 : P3 [1,1] = .seq (P3 [1,1,0]) (P3 [1,1,1]) := by kernel_rfl
theorem k3_5 : P3 [1,1,0] = .region 2 (O3 [1,1,0]) false := by kernel_rfl
theorem r3_2 {M : Mem} {call : CallM} {K : Array Value → Mem → R} :
    opsK Try.prog (fun _ => call) (O3 [1,1,0]) (O3 [1,1,0]).toList 0 #[g0,g1,g2,g3,g4,g5,g6,g7,g8,g9,g10,g11,g12,g13,g14,g15,g16,g17,g18,g19,g20,g21,g22,g23,g24,g25,g26,g27,g28,g29,g30,g31,g32,g33,g34,g35,g36,g37,g38,g39,g40,g41,g42,g43,g44,g45,g46,g47,g48,g49,g50,g51,g52,g53,g54,g55,g56,g57,g58,g59,g60,g61,g62,g63,g64,g65,g66,g67,g68,g69,g70,g71,g72,g73,g74,g75,g76,g77,g78,g79,g80,g81,g82,g83,g84,g85,g86,g87,g88,g89,g90,g91,g92,g93,g94,g95,g96,g97] M K = (call 10 #[] M).bind fun r_1 => (asP r_1.1).bind fun p_2 => K #[g0,g1,g2,g3,.pointer p_2,g5,g6,g7,g8,g9,g10,g11,.pointer p_2,g13,g14,g15,g16,g17,g18,g19,g20,g21,g22,g23,g24,g25,g26,g27,g28,g29,g30,g31,g32,g33,g34,g35,g36,g37,g38,g39,g40,g41,g42,g43,g44,g45,g46,g47,g48,g49,g50,g51,g52,g53,g54,g55,g56,g57,g58,g59,g60,g61,g62,g63,g64,g65,g66,g67,g68,g69,g70,g71,g72,g73,g74,g75,g76,g77,g78,g79,g80,g81,g82,g83,g84,g85,g86,g87,g88,g89,g90,g91,g92,g93,g94,g95,g96,g97] r_1.2 := by kernel_rfl
theorem k3_6 : P3 [1,1,1] = .seq (P3 [1,1,1,0]) (P3 [1,1,1,1]) := by kernel_rfl
theorem k3_7 : P3 [1,1,1,0] = .seq (P3 [1,1,1,0,0]) (P3 [1,1,1,0,1]) := by kernel_rfl
theorem k3_8 : P3 [1,1,1,0,0] = .region 3 (O3 [1,1,1,0,0]) false := by kernel_rfl
theorem r3_3 {M : Mem} {call : CallM} {K : Array Value → Mem → R} :
    opsK Try.prog (fun _ => call) (O3 [1,1,1,0,0]) (O3 [1,1,1,0,0]).toList 0 #[g0,g1,g2,g3,g4,g5,g6,g7,g8,g9,g10,g11,g12,g13,g14,g15,g16,g17,g18,g19,g20,g21,g22,g23,g24,g25,g26,g27,g28,g29,g30,g31,g32,g33,g34,g35,g36,g37,g38,g39,g40,g41,g42,g43,g44,g45,g46,g47,g48,g49,g50,g51,g52,g53,g54,g55,g56,g57,g58,g59,g60,g61,g62,g63,g64,g65,g66,g67,g68,g69,g70,g71,g72,g73,g74,g75,g76,g77,g78,g79,g80,g81,g82,g83,g84,g85,g86,g87,g88,g89,g90,g91,g92,g93,g94,g95,g96,g97] M K = K #[g0,g1,g2,g3,g4,.int .i64 0,g6,g7,g8,g9,g10,g11,g12,g13,g14,g15,g16,g17,g18,g19,g20,g21,g22,g23,g24,g25,g26,g27,g28,g29,g30,g31,g32,g33,g34,g35,g36,g37,g38,g39,g40,g41,g42,g43,g44,g45,g46,g47,g48,g49,g50,g51,g52,g53,g54,g55,g56,g57,g58,g59,g60,g61,g62,g63,g64,g65,g66,g67,g68,g69,g70,g71,g72,g73,g74,g75,g76,g77,g78,g79,g80,g81,g82,g83,g84,g85,g86,g87,g88,g89,g90,g91,g92,g93,g94,g95,g96,g97] M := by kernel_rfl
theorem k3_9 : P3 [1,1,1,0,1] = .block 0 (P3 [1,1,1,0,1,0]) := by kernel_rfl
theorem k3_10 : P3 [1,1,1,0,1,0] = .loop (P3 [1,1,1,0,1,0,0]) := by kernel_rfl
theorem k3_11 : P3 [1,1,1,0,1,0,0] = .seq (P3 [1,1,1,0,1,0,0,0]) (P3 [1,1,1,0,1,0,0,1]) := by kernel_rfl
theorem k3_12 : P3 [1,1,1,0,1,0,0,0] = .seq (P3 [1,1,1,0,1,0,0,0,0]) (P3 [1,1,1,0,1,0,0,0,1]) := by kernel_rfl
theorem k3_13 : P3 [1,1,1,0,1,0,0,0,0] = .region 4 (O3 [1,1,1,0,1,0,0,0,0]) false := by kernel_rfl
theorem r3_4 {Ax0 : Option Addr} {lx0 cx0 : Nat} {x5 : Int} {M : Mem} {call : CallM} {K : Array Value → Mem → R} :
    opsK Try.prog (fun _ => call) (O3 [1,1,1,0,1,0,0,0,0]) (O3 [1,1,1,0,1,0,0,0,0]).toList 0 #[.slice Ax0 lx0 cx0,g1,g2,g3,g4,.int .i64 x5,g6,g7,g8,g9,g10,g11,g12,g13,g14,g15,g16,g17,g18,g19,g20,g21,g22,g23,g24,g25,g26,g27,g28,g29,g30,g31,g32,g33,g34,g35,g36,g37,g38,g39,g40,g41,g42,g43,g44,g45,g46,g47,g48,g49,g50,g51,g52,g53,g54,g55,g56,g57,g58,g59,g60,g61,g62,g63,g64,g65,g66,g67,g68,g69,g70,g71,g72,g73,g74,g75,g76,g77,g78,g79,g80,g81,g82,g83,g84,g85,g86,g87,g88,g89,g90,g91,g92,g93,g94,g95,g96,g97] M K = withK (fun w17 w18 w19 w20 M => K #[.slice Ax0 lx0 cx0,g1,g2,g3,g4,.int .i64 x5,g6,g7,g8,g9,g10,g11,g12,.int .i64 x5,.slice Ax0 lx0 cx0,.int .i64 ((lx0 : Int)),.bool (decide (x5 < ((lx0 : Int)))),w17,w18,w19,w20,g21,g22,g23,g24,g25,g26,g27,g28,g29,g30,g31,g32,g33,g34,g35,g36,g37,g38,g39,g40,g41,g42,g43,g44,g45,g46,g47,g48,g49,g50,g51,g52,g53,g54,g55,g56,g57,g58,g59,g60,g61,g62,g63,g64,g65,g66,g67,g68,g69,g70,g71,g72,g73,g74,g75,g76,g77,g78,g79,g80,g81,g82,g83,g84,g85,g86,g87,g88,g89,g90,g91,g92,g93,g94,g95,g96,g97] M) fun k => cond (decide (x5 < ((lx0 : Int)))) (k (.bool true) (.int .i64 x5) (.bool (decide (x5 < 200))) (.bool (decide (x5 < 200))) M) (k (.bool false) undef undef (.bool false) M) := by kernel_rfl
theorem c3_14 : P3 [1,1,1,0,1,0,0,0,1] = .cond (.tmp 20) (P3 [1,1,1,0,1,0,0,0,1,0]) (P3 [1,1,1,0,1,0,0,0,1,1]) := by kernel_rfl
theorem k3_15 : P3 [1,1,1,0,1,0,0,0,1,0] = .skip := by kernel_rfl
theorem k3_16 : P3 [1,1,1,0,1,0,0,1] = .seq (P3 [1,1,1,0,1,0,0,1,0]) (P3 [1,1,1,0,1,0,0,1,1]) := by kernel_rfl
theorem k3_17 : P3 [1,1,1,0,1,0,0,1,0] = .block 1 (P3 [1,1,1,0,1,0,0,1,0,0]) := by kernel_rfl
theorem k3_18 : P3 [1,1,1,0,1,0,0,1,0,0] = .seq (P3 [1,1,1,0,1,0,0,1,0,0,0]) (P3 [1,1,1,0,1,0,0,1,0,0,1]) := by kernel_rfl
theorem k3_19 : P3 [1,1,1,0,1,0,0,1,0,0,0] = .region 6 (O3 [1,1,1,0,1,0,0,1,0,0,0]) false := by kernel_rfl
theorem r3_6 {Ax0 : Option Addr} {lx0 cx0 : Nat} {x5 : Int} {M : Mem} {call : CallM} {K : Array Value → Mem → R} :
    opsK Try.prog (fun _ => call) (O3 [1,1,1,0,1,0,0,1,0,0,0]) (O3 [1,1,1,0,1,0,0,1,0,0,0]).toList 0 #[.slice Ax0 lx0 cx0,g1,g2,g3,g4,.int .i64 x5,g6,g7,g8,g9,g10,g11,g12,g13,g14,g15,g16,g17,g18,g19,g20,g21,g22,g23,g24,g25,g26,g27,g28,g29,g30,g31,g32,g33,g34,g35,g36,g37,g38,g39,g40,g41,g42,g43,g44,g45,g46,g47,g48,g49,g50,g51,g52,g53,g54,g55,g56,g57,g58,g59,g60,g61,g62,g63,g64,g65,g66,g67,g68,g69,g70,g71,g72,g73,g74,g75,g76,g77,g78,g79,g80,g81,g82,g83,g84,g85,g86,g87,g88,g89,g90,g91,g92,g93,g94,g95,g96,g97] M K = (idxA Ax0 lx0 3 x5).bind fun a_1 => (M.intAt .i64 a_1.block a_1.off).bind fun x_2 => (M.intAt .i64 a_1.block (a_1.off + 1)).bind fun x_3 => (M.intAt .u32 a_1.block (a_1.off + 2)).bind fun x_4 => ((M.new (.cells #[.int .i64 0, .int .i64 0, .int .u32 0] 29)).put (2 * M.nb.size) 0 (.int .i64 x_2)).bind fun M_5 => (M_5.put (2 * M.nb.size) 1 (.int .i64 x_3)).bind fun M_6 => (M_6.put (2 * M.nb.size) 2 (.int .u32 x_4)).bind fun M_7 => K #[.slice Ax0 lx0 cx0,g1,g2,g3,g4,.int .i64 x5,.pointer (some ⟨2 * M.nb.size, 0, none⟩),g7,g8,g9,g10,g11,g12,g13,g14,g15,g16,g17,g18,g19,g20,g21,g22,.slice Ax0 lx0 cx0,.int .i64 x5,.pointer (some a_1),.agg #[.int .i64 x_2, .int .i64 x_3, .int .u32 x_4],g27,g28,g29,g30,g31,g32,g33,g34,g35,g36,g37,g38,g39,g40,g41,g42,g43,g44,g45,g46,g47,g48,g49,g50,g51,g52,g53,g54,g55,g56,g57,g58,g59,g60,g61,g62,g63,g64,g65,g66,g67,g68,g69,g70,g71,g72,g73,g74,g75,g76,g77,g78,g79,g80,g81,g82,g83,g84,g85,g86,g87,g88,g89,g90,g91,g92,g93,g94,g95,g96,g97] M_7 := by kernel_rfl
theorem k3_20 : P3 [1,1,1,0,1,0,0,1,0,0,1] = .seq (P3 [1,1,1,0,1,0,0,1,0,0,1,0]) (P3 [1,1,1,0,1,0,0,1,0,0,1,1]) := by kernel_rfl
theorem k3_21 : P3 [1,1,1,0,1,0,0,1,0,0,1,0] = .region 7 (O3 [1,1,1,0,1,0,0,1,0,0,1,0]) false := by kernel_rfl
theorem r3_7 {x3 x6 : Option Addr} {M : Mem} {call : CallM} {K : Array Value → Mem → R} :
    opsK Try.prog (fun _ => call) (O3 [1,1,1,0,1,0,0,1,0,0,1,0]) (O3 [1,1,1,0,1,0,0,1,0,0,1,0]).toList 0 #[g0,g1,g2,.pointer x3,g4,g5,.pointer x6,g7,g8,g9,g10,g11,g12,g13,g14,g15,g16,g17,g18,g19,g20,g21,g22,g23,g24,g25,g26,g27,g28,g29,g30,g31,g32,g33,g34,g35,g36,g37,g38,g39,g40,g41,g42,g43,g44,g45,g46,g47,g48,g49,g50,g51,g52,g53,g54,g55,g56,g57,g58,g59,g60,g61,g62,g63,g64,g65,g66,g67,g68,g69,g70,g71,g72,g73,g74,g75,g76,g77,g78,g79,g80,g81,g82,g83,g84,g85,g86,g87,g88,g89,g90,g91,g92,g93,g94,g95,g96,g97] M K = (x6).bind fun a_1 => (M.intAt .i64 a_1.block a_1.off).bind fun x_2 => (M.intAt .i64 a_1.block (a_1.off + 1)).bind fun x_3 => (M.intAt .u32 a_1.block (a_1.off + 2)).bind fun x_4 => (call 11 #[.pointer x3, .agg #[.int .i64 x_2, .int .i64 x_3, .int .u32 x_4]] M).bind fun r_5 => (asI .i64 r_5.1).bind fun x_6 => K #[g0,g1,g2,.pointer x3,g4,g5,.pointer x6,.int .i64 x_6,g8,g9,g10,g11,g12,g13,g14,g15,g16,g17,g18,g19,g20,g21,g22,g23,g24,g25,g26,.pointer x3,.agg #[.int .i64 x_2, .int .i64 x_3, .int .u32 x_4],.int .i64 x_6,g30,g31,g32,g33,g34,g35,g36,g37,g38,g39,g40,g41,g42,g43,g44,g45,g46,g47,g48,g49,g50,g51,g52,g53,g54,g55,g56,g57,g58,g59,g60,g61,g62,g63,g64,g65,g66,g67,g68,g69,g70,g71,g72,g73,g74,g75,g76,g77,g78,g79,g80,g81,g82,g83,g84,g85,g86,g87,g88,g89,g90,g91,g92,g93,g94,g95,g96,g97] r_5.2 := by kernel_rfl
theorem k3_22 : P3 [1,1,1,0,1,0,0,1,0,0,1,1] = .seq (P3 [1,1,1,0,1,0,0,1,0,0,1,1,0]) (P3 [1,1,1,0,1,0,0,1,0,0,1,1,1]) := by kernel_rfl
theorem k3_23 : P3 [1,1,1,0,1,0,0,1,0,0,1,1,0] = .region 8 (O3 [1,1,1,0,1,0,0,1,0,0,1,1,0]) false := by kernel_rfl
theorem r3_8 {M : Mem} {call : CallM} {K : Array Value → Mem → R} :
    opsK Try.prog (fun _ => call) (O3 [1,1,1,0,1,0,0,1,0,0,1,1,0]) (O3 [1,1,1,0,1,0,0,1,0,0,1,1,0]).toList 0 #[g0,g1,g2,g3,g4,g5,g6,g7,g8,g9,g10,g11,g12,g13,g14,g15,g16,g17,g18,g19,g20,g21,g22,g23,g24,g25,g26,g27,g28,g29,g30,g31,g32,g33,g34,g35,g36,g37,g38,g39,g40,g41,g42,g43,g44,g45,g46,g47,g48,g49,g50,g51,g52,g53,g54,g55,g56,g57,g58,g59,g60,g61,g62,g63,g64,g65,g66,g67,g68,g69,g70,g71,g72,g73,g74,g75,g76,g77,g78,g79,g80,g81,g82,g83,g84,g85,g86,g87,g88,g89,g90,g91,g92,g93,g94,g95,g96,g97] M K = K #[g0,g1,g2,g3,g4,g5,g6,g7,.int .i64 0,g9,g10,g11,g12,g13,g14,g15,g16,g17,g18,g19,g20,g21,g22,g23,g24,g25,g26,g27,g28,g29,g30,g31,g32,g33,g34,g35,g36,g37,g38,g39,g40,g41,g42,g43,g44,g45,g46,g47,g48,g49,g50,g51,g52,g53,g54,g55,g56,g57,g58,g59,g60,g61,g62,g63,g64,g65,g66,g67,g68,g69,g70,g71,g72,g73,g74,g75,g76,g77,g78,g79,g80,g81,g82,g83,g84,g85,g86,g87,g88,g89,g90,g91,g92,g93,g94,g95,g96,g97] M := by kernel_rfl
theorem k3_24 : P3 [1,1,1,0,1,0,0,1,0,0,1,1,1] = .seq (P3 [1,1,1,0,1,0,0,1,0,0,1,1,1,0]) (P3 [1,1,1,0,1,0,0,1,0,0,1,1,1,1]) := by kernel_rfl
theorem k3_25 : P3 [1,1,1,0,1,0,0,1,0,0,1,1,1,0] = .seq (P3 [1,1,1,0,1,0,0,1,0,0,1,1,1,0,0]) (P3 [1,1,1,0,1,0,0,1,0,0,1,1,1,0,1]) := by kernel_rfl
theorem k3_26 : P3 [1,1,1,0,1,0,0,1,0,0,1,1,1,0,0] = .region 9 (O3 [1,1,1,0,1,0,0,1,0,0,1,1,1,0,0]) false := by kernel_rfl
theorem r3_9 {x6 : Option Addr} {M : Mem} {call : CallM} {K : Array Value → Mem → R} :
    opsK Try.prog (fun _ => call) (O3 [1,1,1,0,1,0,0,1,0,0,1,1,1,0,0]) (O3 [1,1,1,0,1,0,0,1,0,0,1,1,1,0,0]).toList 0 #[g0,g1,g2,g3,g4,g5,.pointer x6,g7,g8,g9,g10,g11,g12,g13,g14,g15,g16,g17,g18,g19,g20,g21,g22,g23,g24,g25,g26,g27,g28,g29,g30,g31,g32,g33,g34,g35,g36,g37,g38,g39,g40,g41,g42,g43,g44,g45,g46,g47,g48,g49,g50,g51,g52,g53,g54,g55,g56,g57,g58,g59,g60,g61,g62,g63,g64,g65,g66,g67,g68,g69,g70,g71,g72,g73,g74,g75,g76,g77,g78,g79,g80,g81,g82,g83,g84,g85,g86,g87,g88,g89,g90,g91,g92,g93,g94,g95,g96,g97] M K = (x6).bind fun a_1 => (M.intAt .i64 a_1.block a_1.off).bind fun x_2 => (call 12 #[.int .i64 x_2, .int .i64 5] M).bind fun r_3 => (asI .i64 r_3.1).bind fun x_4 => K #[g0,g1,g2,g3,g4,g5,.pointer x6,g7,g8,g9,g10,g11,g12,g13,g14,g15,g16,g17,g18,g19,g20,g21,g22,g23,g24,g25,g26,g27,g28,g29,.pointer (some ⟨a_1.block, a_1.off, none⟩),.int .i64 x_2,.int .i64 x_4,g33,g34,g35,g36,g37,g38,g39,g40,g41,g42,g43,g44,g45,g46,g47,g48,g49,g50,g51,g52,g53,g54,g55,g56,g57,g58,g59,g60,g61,g62,g63,g64,g65,g66,g67,g68,g69,g70,g71,g72,g73,g74,g75,g76,g77,g78,g79,g80,g81,g82,g83,g84,g85,g86,g87,g88,g89,g90,g91,g92,g93,g94,g95,g96,g97] r_3.2 := by kernel_rfl
theorem k3_27 : P3 [1,1,1,0,1,0,0,1,0,0,1,1,1,0,1] = .block 2 (P3 [1,1,1,0,1,0,0,1,0,0,1,1,1,0,1,0]) := by kernel_rfl
theorem k3_28 : P3 [1,1,1,0,1,0,0,1,0,0,1,1,1,0,1,0] = .seq (P3 [1,1,1,0,1,0,0,1,0,0,1,1,1,0,1,0,0]) (P3 [1,1,1,0,1,0,0,1,0,0,1,1,1,0,1,0,1]) := by kernel_rfl
theorem k3_29 : P3 [1,1,1,0,1,0,0,1,0,0,1,1,1,0,1,0,0] = .region 11 (O3 [1,1,1,0,1,0,0,1,0,0,1,1,1,0,1,0,0]) false := by kernel_rfl
theorem r3_11 {x32 : Int} {M : Mem} {call : CallM} {K : Array Value → Mem → R} :
    opsK Try.prog (fun _ => call) (O3 [1,1,1,0,1,0,0,1,0,0,1,1,1,0,1,0,0]) (O3 [1,1,1,0,1,0,0,1,0,0,1,1,1,0,1,0,0]).toList 0 #[g0,g1,g2,g3,g4,g5,g6,g7,g8,g9,g10,g11,g12,g13,g14,g15,g16,g17,g18,g19,g20,g21,g22,g23,g24,g25,g26,g27,g28,g29,g30,g31,.int .i64 x32,g33,g34,g35,g36,g37,g38,g39,g40,g41,g42,g43,g44,g45,g46,g47,g48,g49,g50,g51,g52,g53,g54,g55,g56,g57,g58,g59,g60,g61,g62,g63,g64,g65,g66,g67,g68,g69,g70,g71,g72,g73,g74,g75,g76,g77,g78,g79,g80,g81,g82,g83,g84,g85,g86,g87,g88,g89,g90,g91,g92,g93,g94,g95,g96,g97] M K = K #[g0,g1,g2,g3,g4,g5,g6,g7,g8,g9,g10,g11,g12,g13,g14,g15,g16,g17,g18,g19,g20,g21,g22,g23,g24,g25,g26,g27,g28,g29,g30,g31,.int .i64 x32,g33,g34,.bool (x32 == 0),.bool (x32 == 0),g37,g38,g39,g40,g41,g42,g43,g44,g45,g46,g47,g48,g49,g50,g51,g52,g53,g54,g55,g56,g57,g58,g59,g60,g61,g62,g63,g64,g65,g66,g67,g68,g69,g70,g71,g72,g73,g74,g75,g76,g77,g78,g79,g80,g81,g82,g83,g84,g85,g86,g87,g88,g89,g90,g91,g92,g93,g94,g95,g96,g97] M := by kernel_rfl
theorem c3_30 : P3 [1,1,1,0,1,0,0,1,0,0,1,1,1,0,1,0,1] = .cond (.tmp 35) (P3 [1,1,1,0,1,0,0,1,0,0,1,1,1,0,1,0,1,0]) (P3 [1,1,1,0,1,0,0,1,0,0,1,1,1,0,1,0,1,1]) := by kernel_rfl
theorem k3_31 : P3 [1,1,1,0,1,0,0,1,0,0,1,1,1,0,1,0,1,0] = .region 12 (O3 [1,1,1,0,1,0,0,1,0,0,1,1,1,0,1,0,1,0]) false := by kernel_rfl
theorem r3_12 {x4 x6 : Option Addr} {M : Mem} {call : CallM} {K : Array Value → Mem → R} :
    opsK Try.prog (fun _ => call) (O3 [1,1,1,0,1,0,0,1,0,0,1,1,1,0,1,0,1,0]) (O3 [1,1,1,0,1,0,0,1,0,0,1,1,1,0,1,0,1,0]).toList 0 #[g0,g1,g2,g3,.pointer x4,g5,.pointer x6,g7,g8,g9,g10,g11,g12,g13,g14,g15,g16,g17,g18,g19,g20,g21,g22,g23,g24,g25,g26,g27,g28,g29,g30,g31,g32,g33,g34,g35,g36,g37,g38,g39,g40,g41,g42,g43,g44,g45,g46,g47,g48,g49,g50,g51,g52,g53,g54,g55,g56,g57,g58,g59,g60,g61,g62,g63,g64,g65,g66,g67,g68,g69,g70,g71,g72,g73,g74,g75,g76,g77,g78,g79,g80,g81,g82,g83,g84,g85,g86,g87,g88,g89,g90,g91,g92,g93,g94,g95,g96,g97] M K = (x6).bind fun a_1 => (M.intAt .u32 a_1.block (a_1.off + 2)).bind fun x_2 => (x6).bind fun a_3 => (M.intAt .i64 a_3.block (a_3.off + 1)).bind fun x_4 => (call 13 #[.pointer x4, .int .u32 x_2, .int .i64 x_4] M).bind fun r_5 => (asI .i64 r_5.1).bind fun x_6 => K #[g0,g1,g2,g3,.pointer x4,g5,.pointer x6,g7,.int .i64 x_6,g9,g10,g11,g12,g13,g14,g15,g16,g17,g18,g19,g20,g21,g22,g23,g24,g25,g26,g27,g28,g29,g30,g31,g32,g33,g34,g35,g36,.pointer x4,.pointer (some ⟨a_1.block, a_1.off + 2, none⟩),.int .u32 x_2,.pointer (some ⟨a_3.block, a_3.off + 1, none⟩),.int .i64 x_4,.int .i64 x_6,g43,g44,g45,g46,g47,g48,g49,g50,g51,g52,g53,g54,g55,g56,g57,g58,g59,g60,g61,g62,g63,g64,g65,g66,g67,g68,g69,g70,g71,g72,g73,g74,g75,g76,g77,g78,g79,g80,g81,g82,g83,g84,g85,g86,g87,g88,g89,g90,g91,g92,g93,g94,g95,g96,g97] r_5.2 := by kernel_rfl
theorem k3_32 : P3 [1,1,1,0,1,0,0,1,0,0,1,1,1,0,1,0,1,1] = .seq (P3 [1,1,1,0,1,0,0,1,0,0,1,1,1,0,1,0,1,1,0]) (P3 [1,1,1,0,1,0,0,1,0,0,1,1,1,0,1,0,1,1,1]) := by kernel_rfl
theorem k3_33 : P3 [1,1,1,0,1,0,0,1,0,0,1,1,1,0,1,0,1,1,0] = .region 13 (O3 [1,1,1,0,1,0,0,1,0,0,1,1,1,0,1,0,1,1,0]) false := by kernel_rfl
theorem r3_13 {x32 : Int} {M : Mem} {call : CallM} {K : Array Value → Mem → R} :
    opsK Try.prog (fun _ => call) (O3 [1,1,1,0,1,0,0,1,0,0,1,1,1,0,1,0,1,1,0]) (O3 [1,1,1,0,1,0,0,1,0,0,1,1,1,0,1,0,1,1,0]).toList 0 #[g0,g1,g2,g3,g4,g5,g6,g7,g8,g9,g10,g11,g12,g13,g14,g15,g16,g17,g18,g19,g20,g21,g22,g23,g24,g25,g26,g27,g28,g29,g30,g31,.int .i64 x32,g33,g34,g35,g36,g37,g38,g39,g40,g41,g42,g43,g44,g45,g46,g47,g48,g49,g50,g51,g52,g53,g54,g55,g56,g57,g58,g59,g60,g61,g62,g63,g64,g65,g66,g67,g68,g69,g70,g71,g72,g73,g74,g75,g76,g77,g78,g79,g80,g81,g82,g83,g84,g85,g86,g87,g88,g89,g90,g91,g92,g93,g94,g95,g96,g97] M K = K #[g0,g1,g2,g3,g4,g5,g6,g7,g8,g9,g10,g11,g12,g13,g14,g15,g16,g17,g18,g19,g20,g21,g22,g23,g24,g25,g26,g27,g28,g29,g30,g31,.int .i64 x32,g33,g34,g35,g36,g37,g38,g39,g40,g41,g42,.bool (x32 == 1),.bool (x32 == 1),g45,g46,g47,g48,g49,g50,g51,g52,g53,g54,g55,g56,g57,g58,g59,g60,g61,g62,g63,g64,g65,g66,g67,g68,g69,g70,g71,g72,g73,g74,g75,g76,g77,g78,g79,g80,g81,g82,g83,g84,g85,g86,g87,g88,g89,g90,g91,g92,g93,g94,g95,g96,g97] M := by kernel_rfl
theorem c3_34 : P3 [1,1,1,0,1,0,0,1,0,0,1,1,1,0,1,0,1,1,1] = .cond (.tmp 43) (P3 [1,1,1,0,1,0,0,1,0,0,1,1,1,0,1,0,1,1,1,0]) (P3 [1,1,1,0,1,0,0,1,0,0,1,1,1,0,1,0,1,1,1,1]) := by kernel_rfl
theorem k3_35 : P3 [1,1,1,0,1,0,0,1,0,0,1,1,1,0,1,0,1,1,1,0] = .region 14 (O3 [1,1,1,0,1,0,0,1,0,0,1,1,1,0,1,0,1,1,1,0]) false := by kernel_rfl
theorem r3_14 {x4 x6 : Option Addr} {M : Mem} {call : CallM} {K : Array Value → Mem → R} :
    opsK Try.prog (fun _ => call) (O3 [1,1,1,0,1,0,0,1,0,0,1,1,1,0,1,0,1,1,1,0]) (O3 [1,1,1,0,1,0,0,1,0,0,1,1,1,0,1,0,1,1,1,0]).toList 0 #[g0,g1,g2,g3,.pointer x4,g5,.pointer x6,g7,g8,g9,g10,g11,g12,g13,g14,g15,g16,g17,g18,g19,g20,g21,g22,g23,g24,g25,g26,g27,g28,g29,g30,g31,g32,g33,g34,g35,g36,g37,g38,g39,g40,g41,g42,g43,g44,g45,g46,g47,g48,g49,g50,g51,g52,g53,g54,g55,g56,g57,g58,g59,g60,g61,g62,g63,g64,g65,g66,g67,g68,g69,g70,g71,g72,g73,g74,g75,g76,g77,g78,g79,g80,g81,g82,g83,g84,g85,g86,g87,g88,g89,g90,g91,g92,g93,g94,g95,g96,g97] M K = (x6).bind fun a_1 => (M.intAt .u32 a_1.block (a_1.off + 2)).bind fun x_2 => (x6).bind fun a_3 => (M.intAt .i64 a_3.block (a_3.off + 1)).bind fun x_4 => (call 14 #[.pointer x4, .int .i32 (IntKind.i32.wrap (x_2)), .int .i64 x_4] M).bind fun r_5 => (asI .i64 r_5.1).bind fun x_6 => K #[g0,g1,g2,g3,.pointer x4,g5,.pointer x6,g7,.int .i64 x_6,g9,g10,g11,g12,g13,g14,g15,g16,g17,g18,g19,g20,g21,g22,g23,g24,g25,g26,g27,g28,g29,g30,g31,g32,g33,g34,g35,g36,g37,g38,g39,g40,g41,g42,g43,g44,.pointer x4,.pointer (some ⟨a_1.block, a_1.off + 2, none⟩),.int .u32 x_2,.int .i32 (IntKind.i32.wrap (x_2)),.pointer (some ⟨a_3.block, a_3.off + 1, none⟩),.int .i64 x_4,.int .i64 x_6,g52,g53,g54,g55,g56,g57,g58,g59,g60,g61,g62,g63,g64,g65,g66,g67,g68,g69,g70,g71,g72,g73,g74,g75,g76,g77,g78,g79,g80,g81,g82,g83,g84,g85,g86,g87,g88,g89,g90,g91,g92,g93,g94,g95,g96,g97] r_5.2 := by kernel_rfl
theorem k3_36 : P3 [1,1,1,0,1,0,0,1,0,0,1,1,1,0,1,0,1,1,1,1] = .seq (P3 [1,1,1,0,1,0,0,1,0,0,1,1,1,0,1,0,1,1,1,1,0]) (P3 [1,1,1,0,1,0,0,1,0,0,1,1,1,0,1,0,1,1,1,1,1]) := by kernel_rfl
theorem k3_37 : P3 [1,1,1,0,1,0,0,1,0,0,1,1,1,0,1,0,1,1,1,1,0] = .region 15 (O3 [1,1,1,0,1,0,0,1,0,0,1,1,1,0,1,0,1,1,1,1,0]) false := by kernel_rfl
theorem r3_15 {x32 : Int} {M : Mem} {call : CallM} {K : Array Value → Mem → R} :
    opsK Try.prog (fun _ => call) (O3 [1,1,1,0,1,0,0,1,0,0,1,1,1,0,1,0,1,1,1,1,0]) (O3 [1,1,1,0,1,0,0,1,0,0,1,1,1,0,1,0,1,1,1,1,0]).toList 0 #[g0,g1,g2,g3,g4,g5,g6,g7,g8,g9,g10,g11,g12,g13,g14,g15,g16,g17,g18,g19,g20,g21,g22,g23,g24,g25,g26,g27,g28,g29,g30,g31,.int .i64 x32,g33,g34,g35,g36,g37,g38,g39,g40,g41,g42,g43,g44,g45,g46,g47,g48,g49,g50,g51,g52,g53,g54,g55,g56,g57,g58,g59,g60,g61,g62,g63,g64,g65,g66,g67,g68,g69,g70,g71,g72,g73,g74,g75,g76,g77,g78,g79,g80,g81,g82,g83,g84,g85,g86,g87,g88,g89,g90,g91,g92,g93,g94,g95,g96,g97] M K = K #[g0,g1,g2,g3,g4,g5,g6,g7,g8,g9,g10,g11,g12,g13,g14,g15,g16,g17,g18,g19,g20,g21,g22,g23,g24,g25,g26,g27,g28,g29,g30,g31,.int .i64 x32,g33,g34,g35,g36,g37,g38,g39,g40,g41,g42,g43,g44,g45,g46,g47,g48,g49,g50,g51,.bool (x32 == 2),.bool (x32 == 2),g54,g55,g56,g57,g58,g59,g60,g61,g62,g63,g64,g65,g66,g67,g68,g69,g70,g71,g72,g73,g74,g75,g76,g77,g78,g79,g80,g81,g82,g83,g84,g85,g86,g87,g88,g89,g90,g91,g92,g93,g94,g95,g96,g97] M := by kernel_rfl
theorem c3_38 : P3 [1,1,1,0,1,0,0,1,0,0,1,1,1,0,1,0,1,1,1,1,1] = .cond (.tmp 52) (P3 [1,1,1,0,1,0,0,1,0,0,1,1,1,0,1,0,1,1,1,1,1,0]) (P3 [1,1,1,0,1,0,0,1,0,0,1,1,1,0,1,0,1,1,1,1,1,1]) := by kernel_rfl
theorem k3_39 : P3 [1,1,1,0,1,0,0,1,0,0,1,1,1,0,1,0,1,1,1,1,1,0] = .region 16 (O3 [1,1,1,0,1,0,0,1,0,0,1,1,1,0,1,0,1,1,1,1,1,0]) false := by kernel_rfl
theorem r3_16 {x4 x6 : Option Addr} {M : Mem} {call : CallM} {K : Array Value → Mem → R} :
    opsK Try.prog (fun _ => call) (O3 [1,1,1,0,1,0,0,1,0,0,1,1,1,0,1,0,1,1,1,1,1,0]) (O3 [1,1,1,0,1,0,0,1,0,0,1,1,1,0,1,0,1,1,1,1,1,0]).toList 0 #[g0,g1,g2,g3,.pointer x4,g5,.pointer x6,g7,g8,g9,g10,g11,g12,g13,g14,g15,g16,g17,g18,g19,g20,g21,g22,g23,g24,g25,g26,g27,g28,g29,g30,g31,g32,g33,g34,g35,g36,g37,g38,g39,g40,g41,g42,g43,g44,g45,g46,g47,g48,g49,g50,g51,g52,g53,g54,g55,g56,g57,g58,g59,g60,g61,g62,g63,g64,g65,g66,g67,g68,g69,g70,g71,g72,g73,g74,g75,g76,g77,g78,g79,g80,g81,g82,g83,g84,g85,g86,g87,g88,g89,g90,g91,g92,g93,g94,g95,g96,g97] M K = (x6).bind fun a_1 => (M.intAt .u32 a_1.block (a_1.off + 2)).bind fun x_2 => (call 15 #[.pointer x4, .int .u32 x_2] M).bind fun r_3 => (asI .i64 r_3.1).bind fun x_4 => K #[g0,g1,g2,g3,.pointer x4,g5,.pointer x6,g7,.int .i64 x_4,g9,g10,g11,g12,g13,g14,g15,g16,g17,g18,g19,g20,g21,g22,g23,g24,g25,g26,g27,g28,g29,g30,g31,g32,g33,g34,g35,g36,g37,g38,g39,g40,g41,g42,g43,g44,g45,g46,g47,g48,g49,g50,g51,g52,g53,.pointer x4,.pointer (some ⟨a_1.block, a_1.off + 2, none⟩),.int .u32 x_2,.int .i64 x_4,g58,g59,g60,g61,g62,g63,g64,g65,g66,g67,g68,g69,g70,g71,g72,g73,g74,g75,g76,g77,g78,g79,g80,g81,g82,g83,g84,g85,g86,g87,g88,g89,g90,g91,g92,g93,g94,g95,g96,g97] r_3.2 := by kernel_rfl
theorem k3_40 : P3 [1,1,1,0,1,0,0,1,0,0,1,1,1,0,1,0,1,1,1,1,1,1] = .seq (P3 [1,1,1,0,1,0,0,1,0,0,1,1,1,0,1,0,1,1,1,1,1,1,0]) (P3 [1,1,1,0,1,0,0,1,0,0,1,1,1,0,1,0,1,1,1,1,1,1,1]) := by kernel_rfl
theorem k3_41 : P3 [1,1,1,0,1,0,0,1,0,0,1,1,1,0,1,0,1,1,1,1,1,1,0] = .region 17 (O3 [1,1,1,0,1,0,0,1,0,0,1,1,1,0,1,0,1,1,1,1,1,1,0]) false := by kernel_rfl
theorem r3_17 {x32 : Int} {M : Mem} {call : CallM} {K : Array Value → Mem → R} :
    opsK Try.prog (fun _ => call) (O3 [1,1,1,0,1,0,0,1,0,0,1,1,1,0,1,0,1,1,1,1,1,1,0]) (O3 [1,1,1,0,1,0,0,1,0,0,1,1,1,0,1,0,1,1,1,1,1,1,0]).toList 0 #[g0,g1,g2,g3,g4,g5,g6,g7,g8,g9,g10,g11,g12,g13,g14,g15,g16,g17,g18,g19,g20,g21,g22,g23,g24,g25,g26,g27,g28,g29,g30,g31,.int .i64 x32,g33,g34,g35,g36,g37,g38,g39,g40,g41,g42,g43,g44,g45,g46,g47,g48,g49,g50,g51,g52,g53,g54,g55,g56,g57,g58,g59,g60,g61,g62,g63,g64,g65,g66,g67,g68,g69,g70,g71,g72,g73,g74,g75,g76,g77,g78,g79,g80,g81,g82,g83,g84,g85,g86,g87,g88,g89,g90,g91,g92,g93,g94,g95,g96,g97] M K = K #[g0,g1,g2,g3,g4,g5,g6,g7,g8,g9,g10,g11,g12,g13,g14,g15,g16,g17,g18,g19,g20,g21,g22,g23,g24,g25,g26,g27,g28,g29,g30,g31,.int .i64 x32,g33,g34,g35,g36,g37,g38,g39,g40,g41,g42,g43,g44,g45,g46,g47,g48,g49,g50,g51,g52,g53,g54,g55,g56,g57,.bool (x32 == 3),.bool (x32 == 3),g60,g61,g62,g63,g64,g65,g66,g67,g68,g69,g70,g71,g72,g73,g74,g75,g76,g77,g78,g79,g80,g81,g82,g83,g84,g85,g86,g87,g88,g89,g90,g91,g92,g93,g94,g95,g96,g97] M := by kernel_rfl
theorem c3_42 : P3 [1,1,1,0,1,0,0,1,0,0,1,1,1,0,1,0,1,1,1,1,1,1,1] = .cond (.tmp 58) (P3 [1,1,1,0,1,0,0,1,0,0,1,1,1,0,1,0,1,1,1,1,1,1,1,0]) (P3 [1,1,1,0,1,0,0,1,0,0,1,1,1,0,1,0,1,1,1,1,1,1,1,1]) := by kernel_rfl
theorem k3_43 : P3 [1,1,1,0,1,0,0,1,0,0,1,1,1,0,1,0,1,1,1,1,1,1,1,0] = .region 18 (O3 [1,1,1,0,1,0,0,1,0,0,1,1,1,0,1,0,1,1,1,1,1,1,1,0]) false := by kernel_rfl
theorem r3_18 {x4 x6 : Option Addr} {M : Mem} {call : CallM} {K : Array Value → Mem → R} :
    opsK Try.prog (fun _ => call) (O3 [1,1,1,0,1,0,0,1,0,0,1,1,1,0,1,0,1,1,1,1,1,1,1,0]) (O3 [1,1,1,0,1,0,0,1,0,0,1,1,1,0,1,0,1,1,1,1,1,1,1,0]).toList 0 #[g0,g1,g2,g3,.pointer x4,g5,.pointer x6,g7,g8,g9,g10,g11,g12,g13,g14,g15,g16,g17,g18,g19,g20,g21,g22,g23,g24,g25,g26,g27,g28,g29,g30,g31,g32,g33,g34,g35,g36,g37,g38,g39,g40,g41,g42,g43,g44,g45,g46,g47,g48,g49,g50,g51,g52,g53,g54,g55,g56,g57,g58,g59,g60,g61,g62,g63,g64,g65,g66,g67,g68,g69,g70,g71,g72,g73,g74,g75,g76,g77,g78,g79,g80,g81,g82,g83,g84,g85,g86,g87,g88,g89,g90,g91,g92,g93,g94,g95,g96,g97] M K = (x6).bind fun a_1 => (M.intAt .u32 a_1.block (a_1.off + 2)).bind fun x_2 => (call 16 #[.pointer x4, .int .u32 x_2] M).bind fun r_3 => (asI .i64 r_3.1).bind fun x_4 => K #[g0,g1,g2,g3,.pointer x4,g5,.pointer x6,g7,.int .i64 x_4,g9,g10,g11,g12,g13,g14,g15,g16,g17,g18,g19,g20,g21,g22,g23,g24,g25,g26,g27,g28,g29,g30,g31,g32,g33,g34,g35,g36,g37,g38,g39,g40,g41,g42,g43,g44,g45,g46,g47,g48,g49,g50,g51,g52,g53,g54,g55,g56,g57,g58,g59,.pointer x4,.pointer (some ⟨a_1.block, a_1.off + 2, none⟩),.int .u32 x_2,.int .i64 x_4,g64,g65,g66,g67,g68,g69,g70,g71,g72,g73,g74,g75,g76,g77,g78,g79,g80,g81,g82,g83,g84,g85,g86,g87,g88,g89,g90,g91,g92,g93,g94,g95,g96,g97] r_3.2 := by kernel_rfl
theorem k3_44 : P3 [1,1,1,0,1,0,0,1,0,0,1,1,1,0,1,0,1,1,1,1,1,1,1,1] = .region 10 (O3 [1,1,1,0,1,0,0,1,0,0,1,1,1,0,1,0,1,1,1,1,1,1,1,1]) false := by kernel_rfl
theorem r3_10 {x4 : Option Addr} {M : Mem} {call : CallM} {K : Array Value → Mem → R} :
    opsK Try.prog (fun _ => call) (O3 [1,1,1,0,1,0,0,1,0,0,1,1,1,0,1,0,1,1,1,1,1,1,1,1]) (O3 [1,1,1,0,1,0,0,1,0,0,1,1,1,0,1,0,1,1,1,1,1,1,1,1]).toList 0 #[g0,g1,g2,g3,.pointer x4,g5,g6,g7,g8,g9,g10,g11,g12,g13,g14,g15,g16,g17,g18,g19,g20,g21,g22,g23,g24,g25,g26,g27,g28,g29,g30,g31,g32,g33,g34,g35,g36,g37,g38,g39,g40,g41,g42,g43,g44,g45,g46,g47,g48,g49,g50,g51,g52,g53,g54,g55,g56,g57,g58,g59,g60,g61,g62,g63,g64,g65,g66,g67,g68,g69,g70,g71,g72,g73,g74,g75,g76,g77,g78,g79,g80,g81,g82,g83,g84,g85,g86,g87,g88,g89,g90,g91,g92,g93,g94,g95,g96,g97] M K = (call 17 #[.pointer x4] M).bind fun r_1 => (asI .i64 r_1.1).bind fun x_2 => K #[g0,g1,g2,g3,.pointer x4,g5,g6,g7,.int .i64 x_2,g9,g10,g11,g12,g13,g14,g15,g16,g17,g18,g19,g20,g21,g22,g23,g24,g25,g26,g27,g28,g29,g30,g31,g32,.pointer x4,.int .i64 x_2,g35,g36,g37,g38,g39,g40,g41,g42,g43,g44,g45,g46,g47,g48,g49,g50,g51,g52,g53,g54,g55,g56,g57,g58,g59,g60,g61,g62,g63,g64,g65,g66,g67,g68,g69,g70,g71,g72,g73,g74,g75,g76,g77,g78,g79,g80,g81,g82,g83,g84,g85,g86,g87,g88,g89,g90,g91,g92,g93,g94,g95,g96,g97] r_1.2 := by kernel_rfl
theorem k3_45 : P3 [1,1,1,0,1,0,0,0,1,1] = .exit 0 := by kernel_rfl
theorem k3_46 : P3 [1,1,1,1] = .seq (P3 [1,1,1,1,0]) (P3 [1,1,1,1,1]) := by kernel_rfl
theorem k3_47 : P3 [1,1,1,1,0] = .region 26 (O3 [1,1,1,1,0]) false := by kernel_rfl
theorem r3_26 {x3 x4 : Option Addr} {M : Mem} {call : CallM} {K : Array Value → Mem → R} :
    opsK Try.prog (fun _ => call) (O3 [1,1,1,1,0]) (O3 [1,1,1,1,0]).toList 0 #[g0,g1,g2,.pointer x3,.pointer x4,g5,g6,g7,g8,g9,g10,g11,g12,g13,g14,g15,g16,g17,g18,g19,g20,g21,g22,g23,g24,g25,g26,g27,g28,g29,g30,g31,g32,g33,g34,g35,g36,g37,g38,g39,g40,g41,g42,g43,g44,g45,g46,g47,g48,g49,g50,g51,g52,g53,g54,g55,g56,g57,g58,g59,g60,g61,g62,g63,g64,g65,g66,g67,g68,g69,g70,g71,g72,g73,g74,g75,g76,g77,g78,g79,g80,g81,g82,g83,g84,g85,g86,g87,g88,g89,g90,g91,g92,g93,g94,g95,g96,g97] M K = withK (fun w2 w91 w93 w94 w95 w96 w97 M => K #[g0,g1,w2,.pointer x3,.pointer x4,g5,g6,g7,g8,g9,g10,g11,g12,g13,g14,g15,g16,g17,g18,g19,g20,g21,g22,g23,g24,g25,g26,g27,g28,g29,g30,g31,g32,g33,g34,g35,g36,g37,g38,g39,g40,g41,g42,g43,g44,g45,g46,g47,g48,g49,g50,g51,g52,g53,g54,g55,g56,g57,g58,g59,g60,g61,g62,g63,g64,g65,g66,g67,g68,g69,g70,g71,g72,g73,g74,g75,g76,g77,g78,g79,g80,g81,g82,g83,g84,g85,g86,g87,g88,g89,.pointer x3,w91,.pointer x4,w93,w94,w95,w96,w97] M) fun k => (call 18 #[.pointer x3] M).bind fun r_1 => (asS r_1.1).bind fun s_2 => (call 20 #[.pointer x4] r_1.2).bind fun r_3 => (asS r_3.1).bind fun s_4 => (call 19 #[.slice s_2.1 (s_2.2.1) (s_2.2.2), .slice s_4.1 (s_4.2.1) (s_4.2.2)] r_3.2).bind fun r_5 => (asB r_5.1).bind fun b_6 => cond b_6 ((call 21 #[] r_5.2).bind fun r_7 => (asB r_7.1).bind fun b_8 => k (.bool b_8) (.slice s_2.1 (s_2.2.1) (s_2.2.2)) (.slice s_4.1 (s_4.2.1) (s_4.2.2)) (.bool b_6) (.bool true) (.bool b_8) (.bool b_8) r_7.2) (k (.bool false) (.slice s_2.1 (s_2.2.1) (s_2.2.2)) (.slice s_4.1 (s_4.2.1) (s_4.2.2)) (.bool b_6) (.bool false) undef (.bool false) r_5.2) := by kernel_rfl
theorem k3_48 : P3 [1,1,1,1,1] = .ret := by kernel_rfl
theorem e3 {M : Mem} : finish Try.prog Try.f3 #[g0,g1,g2,g3,g4,g5,g6,g7,g8,g9,g10,g11,g12,g13,g14,g15,g16,g17,g18,g19,g20,g21,g22,g23,g24,g25,g26,g27,g28,g29,g30,g31,g32,g33,g34,g35,g36,g37,g38,g39,g40,g41,g42,g43,g44,g45,g46,g47,g48,g49,g50,g51,g52,g53,g54,g55,g56,g57,g58,g59,g60,g61,g62,g63,g64,g65,g66,g67,g68,g69,g70,g71,g72,g73,g74,g75,g76,g77,g78,g79,g80,g81,g82,g83,g84,g85,g86,g87,g88,g89,g90,g91,g92,g93,g94,g95,g96,g97] M = some (g2, M) := by kernel_rfl
theorem k3_50 : P3 [1,1,1,0,1,0,0,1,0,0,1,1,1,1] = .seq (P3 [1,1,1,0,1,0,0,1,0,0,1,1,1,1,0]) (P3 [1,1,1,0,1,0,0,1,0,0,1,1,1,1,1]) := by kernel_rfl
theorem k3_51 : P3 [1,1,1,0,1,0,0,1,0,0,1,1,1,1,0] = .region 19 (O3 [1,1,1,0,1,0,0,1,0,0,1,1,1,1,0]) false := by kernel_rfl
theorem r3_19 {x3 : Option Addr} {M : Mem} {call : CallM} {K : Array Value → Mem → R} :
    opsK Try.prog (fun _ => call) (O3 [1,1,1,0,1,0,0,1,0,0,1,1,1,1,0]) (O3 [1,1,1,0,1,0,0,1,0,0,1,1,1,1,0]).toList 0 #[g0,g1,g2,.pointer x3,g4,g5,g6,g7,g8,g9,g10,g11,g12,g13,g14,g15,g16,g17,g18,g19,g20,g21,g22,g23,g24,g25,g26,g27,g28,g29,g30,g31,g32,g33,g34,g35,g36,g37,g38,g39,g40,g41,g42,g43,g44,g45,g46,g47,g48,g49,g50,g51,g52,g53,g54,g55,g56,g57,g58,g59,g60,g61,g62,g63,g64,g65,g66,g67,g68,g69,g70,g71,g72,g73,g74,g75,g76,g77,g78,g79,g80,g81,g82,g83,g84,g85,g86,g87,g88,g89,g90,g91,g92,g93,g94,g95,g96,g97] M K = (call 18 #[.pointer x3] M).bind fun r_1 => (asS r_1.1).bind fun s_2 => K #[g0,g1,g2,.pointer x3,g4,g5,g6,g7,g8,.slice s_2.1 (s_2.2.1) (s_2.2.2),g10,g11,g12,g13,g14,g15,g16,g17,g18,g19,g20,g21,g22,g23,g24,g25,g26,g27,g28,g29,g30,g31,g32,g33,g34,g35,g36,g37,g38,g39,g40,g41,g42,g43,g44,g45,g46,g47,g48,g49,g50,g51,g52,g53,g54,g55,g56,g57,g58,g59,g60,g61,g62,g63,.pointer x3,.slice s_2.1 (s_2.2.1) (s_2.2.2),g66,g67,g68,g69,g70,g71,g72,g73,g74,g75,g76,g77,g78,g79,g80,g81,g82,g83,g84,g85,g86,g87,g88,g89,g90,g91,g92,g93,g94,g95,g96,g97] r_1.2 := by kernel_rfl
theorem k3_52 : P3 [1,1,1,0,1,0,0,1,0,0,1,1,1,1,1] = .seq (P3 [1,1,1,0,1,0,0,1,0,0,1,1,1,1,1,0]) (P3 [1,1,1,0,1,0,0,1,0,0,1,1,1,1,1,1]) := by kernel_rfl
theorem k3_53 : P3 [1,1,1,0,1,0,0,1,0,0,1,1,1,1,1,0] = .seq (P3 [1,1,1,0,1,0,0,1,0,0,1,1,1,1,1,0,0]) (P3 [1,1,1,0,1,0,0,1,0,0,1,1,1,1,1,0,1]) := by kernel_rfl
theorem k3_54 : P3 [1,1,1,0,1,0,0,1,0,0,1,1,1,1,1,0,0] = .region 20 (O3 [1,1,1,0,1,0,0,1,0,0,1,1,1,1,1,0,0]) false := by kernel_rfl
theorem r3_20 {x4 : Option Addr} {x7 x8 : Int} {Ax9 : Option Addr} {lx9 cx9 : Nat} {M : Mem} {call : CallM} {K : Array Value → Mem → R} :
    opsK Try.prog (fun _ => call) (O3 [1,1,1,0,1,0,0,1,0,0,1,1,1,1,1,0,0]) (O3 [1,1,1,0,1,0,0,1,0,0,1,1,1,1,1,0,0]).toList 0 #[g0,g1,g2,g3,.pointer x4,g5,g6,.int .i64 x7,.int .i64 x8,.slice Ax9 lx9 cx9,g10,g11,g12,g13,g14,g15,g16,g17,g18,g19,g20,g21,g22,g23,g24,g25,g26,g27,g28,g29,g30,g31,g32,g33,g34,g35,g36,g37,g38,g39,g40,g41,g42,g43,g44,g45,g46,g47,g48,g49,g50,g51,g52,g53,g54,g55,g56,g57,g58,g59,g60,g61,g62,g63,g64,g65,g66,g67,g68,g69,g70,g71,g72,g73,g74,g75,g76,g77,g78,g79,g80,g81,g82,g83,g84,g85,g86,g87,g88,g89,g90,g91,g92,g93,g94,g95,g96,g97] M K = withK (fun w69 w70 w71 w72 w73 w74 w75 M => K #[g0,g1,g2,g3,.pointer x4,g5,g6,.int .i64 x7,.int .i64 x8,.slice Ax9 lx9 cx9,g10,g11,g12,g13,g14,g15,g16,g17,g18,g19,g20,g21,g22,g23,g24,g25,g26,g27,g28,g29,g30,g31,g32,g33,g34,g35,g36,g37,g38,g39,g40,g41,g42,g43,g44,g45,g46,g47,g48,g49,g50,g51,g52,g53,g54,g55,g56,g57,g58,g59,g60,g61,g62,g63,g64,g65,.int .i64 x7,.int .i64 x8,.bool (x7 != x8),w69,w70,w71,w72,w73,w74,w75,g76,g77,g78,g79,g80,g81,g82,g83,g84,g85,g86,g87,g88,g89,g90,g91,g92,g93,g94,g95,g96,g97] M) fun k => cond (x7 != x8) (k (.bool true) undef undef undef undef undef (.bool true) M) ((call 20 #[.pointer x4] M).bind fun r_1 => (asS r_1.1).bind fun s_2 => (call 19 #[.slice Ax9 lx9 cx9, .slice s_2.1 (s_2.2.1) (s_2.2.2)] r_1.2).bind fun r_3 => (asB r_3.1).bind fun b_4 => k (.bool false) (.slice Ax9 lx9 cx9) (.pointer x4) (.slice s_2.1 (s_2.2.1) (s_2.2.2)) (.bool b_4) (.bool (!b_4)) (.bool (!b_4)) r_3.2) := by kernel_rfl
theorem c3_55 : P3 [1,1,1,0,1,0,0,1,0,0,1,1,1,1,1,0,1] = .cond (.tmp 75) (P3 [1,1,1,0,1,0,0,1,0,0,1,1,1,1,1,0,1,0]) (P3 [1,1,1,0,1,0,0,1,0,0,1,1,1,1,1,0,1,1]) := by kernel_rfl
theorem k3_56 : P3 [1,1,1,0,1,0,0,1,0,0,1,1,1,1,1,0,1,0] = .seq (P3 [1,1,1,0,1,0,0,1,0,0,1,1,1,1,1,0,1,0,0]) (P3 [1,1,1,0,1,0,0,1,0,0,1,1,1,1,1,0,1,0,1]) := by kernel_rfl
theorem k3_57 : P3 [1,1,1,0,1,0,0,1,0,0,1,1,1,1,1,0,1,0,0] = .region 21 (O3 [1,1,1,0,1,0,0,1,0,0,1,1,1,1,1,0,1,0,0]) false := by kernel_rfl
theorem r3_21 {M : Mem} {call : CallM} {K : Array Value → Mem → R} :
    opsK Try.prog (fun _ => call) (O3 [1,1,1,0,1,0,0,1,0,0,1,1,1,1,1,0,1,0,0]) (O3 [1,1,1,0,1,0,0,1,0,0,1,1,1,1,1,0,1,0,0]).toList 0 #[g0,g1,g2,g3,g4,g5,g6,g7,g8,g9,g10,g11,g12,g13,g14,g15,g16,g17,g18,g19,g20,g21,g22,g23,g24,g25,g26,g27,g28,g29,g30,g31,g32,g33,g34,g35,g36,g37,g38,g39,g40,g41,g42,g43,g44,g45,g46,g47,g48,g49,g50,g51,g52,g53,g54,g55,g56,g57,g58,g59,g60,g61,g62,g63,g64,g65,g66,g67,g68,g69,g70,g71,g72,g73,g74,g75,g76,g77,g78,g79,g80,g81,g82,g83,g84,g85,g86,g87,g88,g89,g90,g91,g92,g93,g94,g95,g96,g97] M K = K #[g0,g1,.bool false,g3,g4,g5,g6,g7,g8,g9,g10,g11,g12,g13,g14,g15,g16,g17,g18,g19,g20,g21,g22,g23,g24,g25,g26,g27,g28,g29,g30,g31,g32,g33,g34,g35,g36,g37,g38,g39,g40,g41,g42,g43,g44,g45,g46,g47,g48,g49,g50,g51,g52,g53,g54,g55,g56,g57,g58,g59,g60,g61,g62,g63,g64,g65,g66,g67,g68,g69,g70,g71,g72,g73,g74,g75,g76,g77,g78,g79,g80,g81,g82,g83,g84,g85,g86,g87,g88,g89,g90,g91,g92,g93,g94,g95,g96,g97] M := by kernel_rfl
theorem k3_58 : P3 [1,1,1,0,1,0,0,1,0,0,1,1,1,1,1,0,1,0,1] = .ret := by kernel_rfl
theorem k3_59 : P3 [1,1,1,0,1,0,0,1,0,0,1,1,1,1,1,0,1,1] = .skip := by kernel_rfl
theorem k3_60 : P3 [1,1,1,0,1,0,0,1,0,0,1,1,1,1,1,1] = .seq (P3 [1,1,1,0,1,0,0,1,0,0,1,1,1,1,1,1,0]) (P3 [1,1,1,0,1,0,0,1,0,0,1,1,1,1,1,1,1]) := by kernel_rfl
theorem k3_61 : P3 [1,1,1,0,1,0,0,1,0,0,1,1,1,1,1,1,0] = .region 22 (O3 [1,1,1,0,1,0,0,1,0,0,1,1,1,1,1,1,0]) false := by kernel_rfl
theorem r3_22 {M : Mem} {call : CallM} {K : Array Value → Mem → R} :
    opsK Try.prog (fun _ => call) (O3 [1,1,1,0,1,0,0,1,0,0,1,1,1,1,1,1,0]) (O3 [1,1,1,0,1,0,0,1,0,0,1,1,1,1,1,1,0]).toList 0 #[g0,g1,g2,g3,g4,g5,g6,g7,g8,g9,g10,g11,g12,g13,g14,g15,g16,g17,g18,g19,g20,g21,g22,g23,g24,g25,g26,g27,g28,g29,g30,g31,g32,g33,g34,g35,g36,g37,g38,g39,g40,g41,g42,g43,g44,g45,g46,g47,g48,g49,g50,g51,g52,g53,g54,g55,g56,g57,g58,g59,g60,g61,g62,g63,g64,g65,g66,g67,g68,g69,g70,g71,g72,g73,g74,g75,g76,g77,g78,g79,g80,g81,g82,g83,g84,g85,g86,g87,g88,g89,g90,g91,g92,g93,g94,g95,g96,g97] M K = K #[g0,g1,g2,g3,g4,g5,g6,g7,g8,g9,.int .i64 0,g11,g12,g13,g14,g15,g16,g17,g18,g19,g20,g21,g22,g23,g24,g25,g26,g27,g28,g29,g30,g31,g32,g33,g34,g35,g36,g37,g38,g39,g40,g41,g42,g43,g44,g45,g46,g47,g48,g49,g50,g51,g52,g53,g54,g55,g56,g57,g58,g59,g60,g61,g62,g63,g64,g65,g66,g67,g68,g69,g70,g71,g72,g73,g74,g75,g76,g77,g78,g79,g80,g81,g82,g83,g84,g85,g86,g87,g88,g89,g90,g91,g92,g93,g94,g95,g96,g97] M := by kernel_rfl
theorem k3_62 : P3 [1,1,1,0,1,0,0,1,0,0,1,1,1,1,1,1,1] = .block 3 (P3 [1,1,1,0,1,0,0,1,0,0,1,1,1,1,1,1,1,0]) := by kernel_rfl
theorem k3_63 : P3 [1,1,1,0,1,0,0,1,0,0,1,1,1,1,1,1,1,0] = .loop (P3 [1,1,1,0,1,0,0,1,0,0,1,1,1,1,1,1,1,0,0]) := by kernel_rfl
theorem k3_64 : P3 [1,1,1,0,1,0,0,1,0,0,1,1,1,1,1,1,1,0,0] = .seq (P3 [1,1,1,0,1,0,0,1,0,0,1,1,1,1,1,1,1,0,0,0]) (P3 [1,1,1,0,1,0,0,1,0,0,1,1,1,1,1,1,1,0,0,1]) := by kernel_rfl
theorem k3_65 : P3 [1,1,1,0,1,0,0,1,0,0,1,1,1,1,1,1,1,0,0,0] = .seq (P3 [1,1,1,0,1,0,0,1,0,0,1,1,1,1,1,1,1,0,0,0,0]) (P3 [1,1,1,0,1,0,0,1,0,0,1,1,1,1,1,1,1,0,0,0,1]) := by kernel_rfl
theorem k3_66 : P3 [1,1,1,0,1,0,0,1,0,0,1,1,1,1,1,1,1,0,0,0,0] = .region 23 (O3 [1,1,1,0,1,0,0,1,0,0,1,1,1,1,1,1,1,0,0,0,0]) false := by kernel_rfl
theorem r3_23 {Ax9 : Option Addr} {lx9 cx9 : Nat} {x10 : Int} {M : Mem} {call : CallM} {K : Array Value → Mem → R} :
    opsK Try.prog (fun _ => call) (O3 [1,1,1,0,1,0,0,1,0,0,1,1,1,1,1,1,1,0,0,0,0]) (O3 [1,1,1,0,1,0,0,1,0,0,1,1,1,1,1,1,1,0,0,0,0]).toList 0 #[g0,g1,g2,g3,g4,g5,g6,g7,g8,.slice Ax9 lx9 cx9,.int .i64 x10,g11,g12,g13,g14,g15,g16,g17,g18,g19,g20,g21,g22,g23,g24,g25,g26,g27,g28,g29,g30,g31,g32,g33,g34,g35,g36,g37,g38,g39,g40,g41,g42,g43,g44,g45,g46,g47,g48,g49,g50,g51,g52,g53,g54,g55,g56,g57,g58,g59,g60,g61,g62,g63,g64,g65,g66,g67,g68,g69,g70,g71,g72,g73,g74,g75,g76,g77,g78,g79,g80,g81,g82,g83,g84,g85,g86,g87,g88,g89,g90,g91,g92,g93,g94,g95,g96,g97] M K = K #[g0,g1,g2,g3,g4,g5,g6,g7,g8,.slice Ax9 lx9 cx9,.int .i64 x10,g11,g12,g13,g14,g15,g16,g17,g18,g19,g20,g21,g22,g23,g24,g25,g26,g27,g28,g29,g30,g31,g32,g33,g34,g35,g36,g37,g38,g39,g40,g41,g42,g43,g44,g45,g46,g47,g48,g49,g50,g51,g52,g53,g54,g55,g56,g57,g58,g59,g60,g61,g62,g63,g64,g65,g66,g67,g68,g69,g70,g71,g72,g73,g74,g75,.int .i64 x10,.slice Ax9 lx9 cx9,.int .i64 ((lx9 : Int)),.bool (decide (x10 < ((lx9 : Int)))),g80,g81,g82,g83,g84,g85,g86,g87,g88,g89,g90,g91,g92,g93,g94,g95,g96,g97] M := by kernel_rfl
theorem c3_67 : P3 [1,1,1,0,1,0,0,1,0,0,1,1,1,1,1,1,1,0,0,0,1] = .cond (.tmp 79) (P3 [1,1,1,0,1,0,0,1,0,0,1,1,1,1,1,1,1,0,0,0,1,0]) (P3 [1,1,1,0,1,0,0,1,0,0,1,1,1,1,1,1,1,0,0,0,1,1]) := by kernel_rfl
theorem k3_68 : P3 [1,1,1,0,1,0,0,1,0,0,1,1,1,1,1,1,1,0,0,0,1,0] = .skip := by kernel_rfl
theorem k3_69 : P3 [1,1,1,0,1,0,0,1,0,0,1,1,1,1,1,1,1,0,0,1] = .seq (P3 [1,1,1,0,1,0,0,1,0,0,1,1,1,1,1,1,1,0,0,1,0]) (P3 [1,1,1,0,1,0,0,1,0,0,1,1,1,1,1,1,1,0,0,1,1]) := by kernel_rfl
theorem k3_70 : P3 [1,1,1,0,1,0,0,1,0,0,1,1,1,1,1,1,1,0,0,1,0] = .block 4 (P3 [1,1,1,0,1,0,0,1,0,0,1,1,1,1,1,1,1,0,0,1,0,0]) := by kernel_rfl
theorem k3_71 : P3 [1,1,1,0,1,0,0,1,0,0,1,1,1,1,1,1,1,0,0,1,0,0] = .region 25 (O3 [1,1,1,0,1,0,0,1,0,0,1,1,1,1,1,1,1,0,0,1,0,0]) false := by kernel_rfl
theorem r3_25 {Ax9 : Option Addr} {lx9 cx9 : Nat} {x10 : Int} {M : Mem} {call : CallM} {K : Array Value → Mem → R} :
    opsK Try.prog (fun _ => call) (O3 [1,1,1,0,1,0,0,1,0,0,1,1,1,1,1,1,1,0,0,1,0,0]) (O3 [1,1,1,0,1,0,0,1,0,0,1,1,1,1,1,1,1,0,0,1,0,0]).toList 0 #[g0,g1,g2,g3,g4,g5,g6,g7,g8,.slice Ax9 lx9 cx9,.int .i64 x10,g11,g12,g13,g14,g15,g16,g17,g18,g19,g20,g21,g22,g23,g24,g25,g26,g27,g28,g29,g30,g31,g32,g33,g34,g35,g36,g37,g38,g39,g40,g41,g42,g43,g44,g45,g46,g47,g48,g49,g50,g51,g52,g53,g54,g55,g56,g57,g58,g59,g60,g61,g62,g63,g64,g65,g66,g67,g68,g69,g70,g71,g72,g73,g74,g75,g76,g77,g78,g79,g80,g81,g82,g83,g84,g85,g86,g87,g88,g89,g90,g91,g92,g93,g94,g95,g96,g97] M K = (idxA Ax9 lx9 1 x10).bind fun a_1 => (M.intAt .u8 a_1.block a_1.off).bind fun x_2 => (idxA Ax9 lx9 1 x10).bind fun a_3 => (M.put a_3.block a_3.off (.int .u8 (IntKind.u8.wrap (((BitVec.ofInt (IntKind.bits .u8) x_2 ^^^ BitVec.ofInt (IntKind.bits .u8) 255).toNat : Int))))).bind fun M_4 => K #[g0,g1,g2,g3,g4,g5,g6,g7,g8,.slice Ax9 lx9 cx9,.int .i64 x10,g11,g12,g13,g14,g15,g16,g17,g18,g19,g20,g21,g22,g23,g24,g25,g26,g27,g28,g29,g30,g31,g32,g33,g34,g35,g36,g37,g38,g39,g40,g41,g42,g43,g44,g45,g46,g47,g48,g49,g50,g51,g52,g53,g54,g55,g56,g57,g58,g59,g60,g61,g62,g63,g64,g65,g66,g67,g68,g69,g70,g71,g72,g73,g74,g75,g76,g77,g78,g79,g80,g81,.slice Ax9 lx9 cx9,.int .i64 x10,.slice Ax9 lx9 cx9,.int .i64 x10,.pointer (some a_1),.int .u8 x_2,.int .u8 (IntKind.u8.wrap (((BitVec.ofInt (IntKind.bits .u8) x_2 ^^^ BitVec.ofInt (IntKind.bits .u8) 255).toNat : Int))),.pointer (some a_3),g90,g91,g92,g93,g94,g95,g96,g97] M_4 := by kernel_rfl
theorem k3_72 : P3 [1,1,1,0,1,0,0,1,0,0,1,1,1,1,1,1,1,0,0,1,1] = .region 24 (O3 [1,1,1,0,1,0,0,1,0,0,1,1,1,1,1,1,1,0,0,1,1]) false := by kernel_rfl
theorem r3_24 {x10 : Int} {M : Mem} {call : CallM} {K : Array Value → Mem → R} :
    opsK Try.prog (fun _ => call) (O3 [1,1,1,0,1,0,0,1,0,0,1,1,1,1,1,1,1,0,0,1,1]) (O3 [1,1,1,0,1,0,0,1,0,0,1,1,1,1,1,1,1,0,0,1,1]).toList 0 #[g0,g1,g2,g3,g4,g5,g6,g7,g8,g9,.int .i64 x10,g11,g12,g13,g14,g15,g16,g17,g18,g19,g20,g21,g22,g23,g24,g25,g26,g27,g28,g29,g30,g31,g32,g33,g34,g35,g36,g37,g38,g39,g40,g41,g42,g43,g44,g45,g46,g47,g48,g49,g50,g51,g52,g53,g54,g55,g56,g57,g58,g59,g60,g61,g62,g63,g64,g65,g66,g67,g68,g69,g70,g71,g72,g73,g74,g75,g76,g77,g78,g79,g80,g81,g82,g83,g84,g85,g86,g87,g88,g89,g90,g91,g92,g93,g94,g95,g96,g97] M K = K #[g0,g1,g2,g3,g4,g5,g6,g7,g8,g9,.int .i64 (IntKind.i64.wrap (x10 + 1)),g11,g12,g13,g14,g15,g16,g17,g18,g19,g20,g21,g22,g23,g24,g25,g26,g27,g28,g29,g30,g31,g32,g33,g34,g35,g36,g37,g38,g39,g40,g41,g42,g43,g44,g45,g46,g47,g48,g49,g50,g51,g52,g53,g54,g55,g56,g57,g58,g59,g60,g61,g62,g63,g64,g65,g66,g67,g68,g69,g70,g71,g72,g73,g74,g75,g76,g77,g78,g79,.int .i64 x10,.int .i64 (IntKind.i64.wrap (x10 + 1)),g82,g83,g84,g85,g86,g87,g88,g89,g90,g91,g92,g93,g94,g95,g96,g97] M := by kernel_rfl
theorem k3_73 : P3 [1,1,1,0,1,0,0,1,0,0,1,1,1,1,1,1,1,0,0,0,1,1] = .exit 3 := by kernel_rfl
theorem k3_74 : P3 [1,1,1,0,1,0,0,1,1] = .region 5 (O3 [1,1,1,0,1,0,0,1,1]) false := by kernel_rfl
theorem r3_5 {x5 : Int} {M : Mem} {call : CallM} {K : Array Value → Mem → R} :
    opsK Try.prog (fun _ => call) (O3 [1,1,1,0,1,0,0,1,1]) (O3 [1,1,1,0,1,0,0,1,1]).toList 0 #[g0,g1,g2,g3,g4,.int .i64 x5,g6,g7,g8,g9,g10,g11,g12,g13,g14,g15,g16,g17,g18,g19,g20,g21,g22,g23,g24,g25,g26,g27,g28,g29,g30,g31,g32,g33,g34,g35,g36,g37,g38,g39,g40,g41,g42,g43,g44,g45,g46,g47,g48,g49,g50,g51,g52,g53,g54,g55,g56,g57,g58,g59,g60,g61,g62,g63,g64,g65,g66,g67,g68,g69,g70,g71,g72,g73,g74,g75,g76,g77,g78,g79,g80,g81,g82,g83,g84,g85,g86,g87,g88,g89,g90,g91,g92,g93,g94,g95,g96,g97] M K = K #[g0,g1,g2,g3,g4,.int .i64 (IntKind.i64.wrap (x5 + 1)),g6,g7,g8,g9,g10,g11,g12,g13,g14,g15,g16,g17,g18,g19,g20,.int .i64 x5,.int .i64 (IntKind.i64.wrap (x5 + 1)),g23,g24,g25,g26,g27,g28,g29,g30,g31,g32,g33,g34,g35,g36,g37,g38,g39,g40,g41,g42,g43,g44,g45,g46,g47,g48,g49,g50,g51,g52,g53,g54,g55,g56,g57,g58,g59,g60,g61,g62,g63,g64,g65,g66,g67,g68,g69,g70,g71,g72,g73,g74,g75,g76,g77,g78,g79,g80,g81,g82,g83,g84,g85,g86,g87,g88,g89,g90,g91,g92,g93,g94,g95,g96,g97] M := by kernel_rfl
noncomputable def S3_1 : List Item := [.code (P3 [1,1,1,0,1,0,0]), .inLoop (P3 [1,1,1,0,1,0,0]), .inBlock 0, .code (P3 [1,1,1,1])]
def A3_1 (Ax0 : Option Addr) (lx0 cx0 : Nat) (x3 x4 : Option Addr) (x5 : Int) (M : Mem) (Q : Value → Mem → Prop) : Prop := ∀ (g1 g2 g6 g7 g8 g9 g10 g11 g12 g13 g14 g15 g16 g17 g18 g19 g20 g21 g22 g23 g24 g25 g26 g27 g28 g29 g30 g31 g32 g33 g34 g35 g36 g37 g38 g39 g40 g41 g42 g43 g44 g45 g46 g47 g48 g49 g50 g51 g52 g53 g54 g55 g56 g57 g58 g59 g60 g61 g62 g63 g64 g65 g66 g67 g68 g69 g70 g71 g72 g73 g74 g75 g76 g77 g78 g79 g80 g81 g82 g83 g84 g85 g86 g87 g88 g89 g90 g91 g92 g93 g94 g95 g96 g97 : Value), Rn Try.prog Try.f3 S3_1 #[.slice Ax0 lx0 cx0, g1, g2, .pointer x3, .pointer x4, .int .i64 x5, g6, g7, g8, g9, g10, g11, g12, g13, g14, g15, g16, g17, g18, g19, g20, g21, g22, g23, g24, g25, g26, g27, g28, g29, g30, g31, g32, g33, g34, g35, g36, g37, g38, g39, g40, g41, g42, g43, g44, g45, g46, g47, g48, g49, g50, g51, g52, g53, g54, g55, g56, g57, g58, g59, g60, g61, g62, g63, g64, g65, g66, g67, g68, g69, g70, g71, g72, g73, g74, g75, g76, g77, g78, g79, g80, g81, g82, g83, g84, g85, g86, g87, g88, g89, g90, g91, g92, g93, g94, g95, g96, g97] M Q
noncomputable def S3_2 : List Item := [.code (P3 [1,1,1,0,1,0,0,0,1]), .code (P3 [1,1,1,0,1,0,0,1]), .inLoop (P3 [1,1,1,0,1,0,0]), .inBlock 0, .code (P3 [1,1,1,1])]
def A3_2 (Ax0 : Option Addr) (lx0 cx0 : Nat) (x3 x4 : Option Addr) (x5 : Int) (x20 : Bool) (M : Mem) (Q : Value → Mem → Prop) : Prop := ∀ (g1 g2 g6 g7 g8 g9 g10 g11 g12 g13 g14 g15 g16 g17 g18 g19 g21 g22 g23 g24 g25 g26 g27 g28 g29 g30 g31 g32 g33 g34 g35 g36 g37 g38 g39 g40 g41 g42 g43 g44 g45 g46 g47 g48 g49 g50 g51 g52 g53 g54 g55 g56 g57 g58 g59 g60 g61 g62 g63 g64 g65 g66 g67 g68 g69 g70 g71 g72 g73 g74 g75 g76 g77 g78 g79 g80 g81 g82 g83 g84 g85 g86 g87 g88 g89 g90 g91 g92 g93 g94 g95 g96 g97 : Value), Rn Try.prog Try.f3 S3_2 #[.slice Ax0 lx0 cx0, g1, g2, .pointer x3, .pointer x4, .int .i64 x5, g6, g7, g8, g9, g10, g11, g12, g13, g14, g15, g16, g17, g18, g19, .bool x20, g21, g22, g23, g24, g25, g26, g27, g28, g29, g30, g31, g32, g33, g34, g35, g36, g37, g38, g39, g40, g41, g42, g43, g44, g45, g46, g47, g48, g49, g50, g51, g52, g53, g54, g55, g56, g57, g58, g59, g60, g61, g62, g63, g64, g65, g66, g67, g68, g69, g70, g71, g72, g73, g74, g75, g76, g77, g78, g79, g80, g81, g82, g83, g84, g85, g86, g87, g88, g89, g90, g91, g92, g93, g94, g95, g96, g97] M Q
noncomputable def S3_3 : List Item := [.code (P3 [1,1,1,0,1,0,0,1,0,0,1,1,1,1]), .inBlock 1, .code (P3 [1,1,1,0,1,0,0,1,1]), .inLoop (P3 [1,1,1,0,1,0,0]), .inBlock 0, .code (P3 [1,1,1,1])]
def A3_3 (Ax0 : Option Addr) (lx0 cx0 : Nat) (x3 x4 : Option Addr) (x5 x7 x8 : Int) (M : Mem) (Q : Value → Mem → Prop) : Prop := ∀ (g1 g2 g6 g9 g10 g11 g12 g13 g14 g15 g16 g17 g18 g19 g20 g21 g22 g23 g24 g25 g26 g27 g28 g29 g30 g31 g32 g33 g34 g35 g36 g37 g38 g39 g40 g41 g42 g43 g44 g45 g46 g47 g48 g49 g50 g51 g52 g53 g54 g55 g56 g57 g58 g59 g60 g61 g62 g63 g64 g65 g66 g67 g68 g69 g70 g71 g72 g73 g74 g75 g76 g77 g78 g79 g80 g81 g82 g83 g84 g85 g86 g87 g88 g89 g90 g91 g92 g93 g94 g95 g96 g97 : Value), Rn Try.prog Try.f3 S3_3 #[.slice Ax0 lx0 cx0, g1, g2, .pointer x3, .pointer x4, .int .i64 x5, g6, .int .i64 x7, .int .i64 x8, g9, g10, g11, g12, g13, g14, g15, g16, g17, g18, g19, g20, g21, g22, g23, g24, g25, g26, g27, g28, g29, g30, g31, g32, g33, g34, g35, g36, g37, g38, g39, g40, g41, g42, g43, g44, g45, g46, g47, g48, g49, g50, g51, g52, g53, g54, g55, g56, g57, g58, g59, g60, g61, g62, g63, g64, g65, g66, g67, g68, g69, g70, g71, g72, g73, g74, g75, g76, g77, g78, g79, g80, g81, g82, g83, g84, g85, g86, g87, g88, g89, g90, g91, g92, g93, g94, g95, g96, g97] M Q
noncomputable def S3_4 : List Item := [.code (P3 [1,1,1,0,1,0,0,1,0,0,1,1,1,1,1,0,1]), .code (P3 [1,1,1,0,1,0,0,1,0,0,1,1,1,1,1,1]), .inBlock 1, .code (P3 [1,1,1,0,1,0,0,1,1]), .inLoop (P3 [1,1,1,0,1,0,0]), .inBlock 0, .code (P3 [1,1,1,1])]
def A3_4 (Ax0 : Option Addr) (lx0 cx0 : Nat) (x3 x4 : Option Addr) (x5 : Int) (Ax9 : Option Addr) (lx9 cx9 : Nat) (x75 : Bool) (M : Mem) (Q : Value → Mem → Prop) : Prop := ∀ (g1 g2 g6 g7 g8 g10 g11 g12 g13 g14 g15 g16 g17 g18 g19 g20 g21 g22 g23 g24 g25 g26 g27 g28 g29 g30 g31 g32 g33 g34 g35 g36 g37 g38 g39 g40 g41 g42 g43 g44 g45 g46 g47 g48 g49 g50 g51 g52 g53 g54 g55 g56 g57 g58 g59 g60 g61 g62 g63 g64 g65 g66 g67 g68 g69 g70 g71 g72 g73 g74 g76 g77 g78 g79 g80 g81 g82 g83 g84 g85 g86 g87 g88 g89 g90 g91 g92 g93 g94 g95 g96 g97 : Value), Rn Try.prog Try.f3 S3_4 #[.slice Ax0 lx0 cx0, g1, g2, .pointer x3, .pointer x4, .int .i64 x5, g6, g7, g8, .slice Ax9 lx9 cx9, g10, g11, g12, g13, g14, g15, g16, g17, g18, g19, g20, g21, g22, g23, g24, g25, g26, g27, g28, g29, g30, g31, g32, g33, g34, g35, g36, g37, g38, g39, g40, g41, g42, g43, g44, g45, g46, g47, g48, g49, g50, g51, g52, g53, g54, g55, g56, g57, g58, g59, g60, g61, g62, g63, g64, g65, g66, g67, g68, g69, g70, g71, g72, g73, g74, .bool x75, g76, g77, g78, g79, g80, g81, g82, g83, g84, g85, g86, g87, g88, g89, g90, g91, g92, g93, g94, g95, g96, g97] M Q
noncomputable def S3_5 : List Item := [.code (P3 [1,1,1,0,1,0,0,1,0,0,1,1,1,1,1,1,1,0,0]), .inLoop (P3 [1,1,1,0,1,0,0,1,0,0,1,1,1,1,1,1,1,0,0]), .inBlock 3, .inBlock 1, .code (P3 [1,1,1,0,1,0,0,1,1]), .inLoop (P3 [1,1,1,0,1,0,0]), .inBlock 0, .code (P3 [1,1,1,1])]
def A3_5 (Ax0 : Option Addr) (lx0 cx0 : Nat) (x3 x4 : Option Addr) (x5 : Int) (Ax9 : Option Addr) (lx9 cx9 : Nat) (x10 : Int) (M : Mem) (Q : Value → Mem → Prop) : Prop := ∀ (g1 g2 g6 g7 g8 g11 g12 g13 g14 g15 g16 g17 g18 g19 g20 g21 g22 g23 g24 g25 g26 g27 g28 g29 g30 g31 g32 g33 g34 g35 g36 g37 g38 g39 g40 g41 g42 g43 g44 g45 g46 g47 g48 g49 g50 g51 g52 g53 g54 g55 g56 g57 g58 g59 g60 g61 g62 g63 g64 g65 g66 g67 g68 g69 g70 g71 g72 g73 g74 g75 g76 g77 g78 g79 g80 g81 g82 g83 g84 g85 g86 g87 g88 g89 g90 g91 g92 g93 g94 g95 g96 g97 : Value), Rn Try.prog Try.f3 S3_5 #[.slice Ax0 lx0 cx0, g1, g2, .pointer x3, .pointer x4, .int .i64 x5, g6, g7, g8, .slice Ax9 lx9 cx9, .int .i64 x10, g11, g12, g13, g14, g15, g16, g17, g18, g19, g20, g21, g22, g23, g24, g25, g26, g27, g28, g29, g30, g31, g32, g33, g34, g35, g36, g37, g38, g39, g40, g41, g42, g43, g44, g45, g46, g47, g48, g49, g50, g51, g52, g53, g54, g55, g56, g57, g58, g59, g60, g61, g62, g63, g64, g65, g66, g67, g68, g69, g70, g71, g72, g73, g74, g75, g76, g77, g78, g79, g80, g81, g82, g83, g84, g85, g86, g87, g88, g89, g90, g91, g92, g93, g94, g95, g96, g97] M Q
theorem w3_0 {Ax0 : Option Addr} {lx0 cx0 : Nat} {M : Mem} {Q : Value → Mem → Prop} (H :
    Cn Try.prog 9 #[] M fun v1' N1' =>
     ∃ p2', asP v1' = some p2' ∧
     Cn Try.prog 10 #[] N1' fun v3' N3' =>
      ∃ p4', asP v3' = some p4' ∧
      A3_1 Ax0 lx0 cx0 p2' p4' 0 N3' Q) :
    Cn Try.prog 3 #[.slice Ax0 lx0 cx0] M Q := by
  refine Cn.of b3 d3 t3 ?_
  refine Rn.seq k3_0 (Rn.region k3_1 (fun call K => r3_0) (Rch.leaf (Rn.seq k3_2 (Rn.region k3_3 (fun call K => r3_1) (Rch.call H fun v1' N1' H => Rch.ex H fun p2' H => Rch.leaf (Rn.seq k3_4 (Rn.region k3_5 (fun call K => r3_2) (Rch.call H fun v3' N3' H => Rch.ex H fun p4' H => ?_))))))))
  refine Rch.leaf (Rn.seq k3_6 (Rn.seq k3_7 (Rn.region k3_8 (fun call K => r3_3) (Rch.leaf (Rn.block k3_9 (Rn.loop k3_10 ?_))))))
  exact H _ _ _ _ _ _ _ _ _ _ _ _ _ _ _ _ _ _ _ _ _ _ _ _ _ _ _ _ _ _ _ _ _ _ _ _ _ _ _ _ _ _ _ _ _ _ _ _ _ _ _ _ _ _ _ _ _ _ _ _ _ _ _ _ _ _ _ _ _ _ _ _ _ _ _ _ _ _ _ _ _ _ _ _ _ _ _ _ _ _ _ _ _ _

theorem w3_1 {Ax0 : Option Addr} {lx0 cx0 : Nat} {x3 x4 : Option Addr} {x5 : Int} {M : Mem} {Q : Value → Mem → Prop} (H :
    ((x5 < ((lx0 : Int)) →
     A3_2 Ax0 lx0 cx0 x3 x4 x5 (decide (x5 < 200)) M Q) ∧
     (¬ (x5 < ((lx0 : Int))) →
     A3_2 Ax0 lx0 cx0 x3 x4 x5 false M Q))) :
    A3_1 Ax0 lx0 cx0 x3 x4 x5 M Q := by
  intro g1 g2 g6 g7 g8 g9 g10 g11 g12 g13 g14 g15 g16 g17 g18 g19 g20 g21 g22 g23 g24 g25 g26 g27 g28 g29 g30 g31 g32 g33 g34 g35 g36 g37 g38 g39 g40 g41 g42 g43 g44 g45 g46 g47 g48 g49 g50 g51 g52 g53 g54 g55 g56 g57 g58 g59 g60 g61 g62 g63 g64 g65 g66 g67 g68 g69 g70 g71 g72 g73 g74 g75 g76 g77 g78 g79 g80 g81 g82 g83 g84 g85 g86 g87 g88 g89 g90 g91 g92 g93 g94 g95 g96 g97
  refine Rn.seq k3_11 (Rn.seq k3_12 (Rn.region k3_13 (fun call K => r3_4) ?_))
  refine Rch.cB (fun h => ?_) (fun h => ?_)
  · replace H := H.1 (of_decide_eq_true h)
    refine Rch.leaf ?_
    exact H _ _ _ _ _ _ _ _ _ _ _ _ _ _ _ _ _ _ _ _ _ _ _ _ _ _ _ _ _ _ _ _ _ _ _ _ _ _ _ _ _ _ _ _ _ _ _ _ _ _ _ _ _ _ _ _ _ _ _ _ _ _ _ _ _ _ _ _ _ _ _ _ _ _ _ _ _ _ _ _ _ _ _ _ _ _ _ _ _ _ _ _ _
  · replace H := H.2 (of_decide_eq_false h)
    refine Rch.leaf ?_
    exact H _ _ _ _ _ _ _ _ _ _ _ _ _ _ _ _ _ _ _ _ _ _ _ _ _ _ _ _ _ _ _ _ _ _ _ _ _ _ _ _ _ _ _ _ _ _ _ _ _ _ _ _ _ _ _ _ _ _ _ _ _ _ _ _ _ _ _ _ _ _ _ _ _ _ _ _ _ _ _ _ _ _ _ _ _ _ _ _ _ _ _ _ _

theorem w3_2 {Ax0 : Option Addr} {lx0 cx0 : Nat} {x3 x4 : Option Addr} {x5 : Int} {x20 : Bool} {M : Mem} {Q : Value → Mem → Prop} (H :
    ((x20 = true →
     ∃ a5', idxA Ax0 lx0 3 x5 = some a5' ∧
     ∃ x6', M.intAt .i64 a5'.block a5'.off = some x6' ∧
     ∃ x7', M.intAt .i64 a5'.block (a5'.off + 1) = some x7' ∧
     ∃ x8', M.intAt .u32 a5'.block (a5'.off + 2) = some x8' ∧
     ∃ M9', (M.new (.cells #[.int .i64 0, .int .i64 0, .int .u32 0] 29)).put (2 * M.nb.size) 0 (.int .i64 x6') = some M9' ∧
     ∃ M10', M9'.put (2 * M.nb.size) 1 (.int .i64 x7') = some M10' ∧
     ∃ M11', M10'.put (2 * M.nb.size) 2 (.int .u32 x8') = some M11' ∧
     ∃ x12', M11'.intAt .i64 (2 * M.nb.size) 0 = some x12' ∧
     ∃ x13', M11'.intAt .i64 (2 * M.nb.size) (0 + 1) = some x13' ∧
     ∃ x14', M11'.intAt .u32 (2 * M.nb.size) (0 + 2) = some x14' ∧
     Cn Try.prog 11 #[.pointer x3, .agg #[.int .i64 x12', .int .i64 x13', .int .u32 x14']] M11' fun v15' N15' =>
      ∃ x16', asI .i64 v15' = some x16' ∧
      ∃ x17', N15'.intAt .i64 (2 * M.nb.size) 0 = some x17' ∧
      Cn Try.prog 12 #[.int .i64 x17', .int .i64 5] N15' fun v18' N18' =>
       ∃ x19', asI .i64 v18' = some x19' ∧
       ((x19' = 0 →
        ∃ x20', N18'.intAt .u32 (2 * M.nb.size) (0 + 2) = some x20' ∧
        ∃ x21', N18'.intAt .i64 (2 * M.nb.size) (0 + 1) = some x21' ∧
        Cn Try.prog 13 #[.pointer x4, .int .u32 x20', .int .i64 x21'] N18' fun v22' N22' =>
         ∃ x23', asI .i64 v22' = some x23' ∧
         A3_3 Ax0 lx0 cx0 x3 x4 x5 x16' x23' N22' Q) ∧
        (x19' ≠ 0 →
        ((x19' = 1 →
         ∃ x24', N18'.intAt .u32 (2 * M.nb.size) (0 + 2) = some x24' ∧
         ∃ x25', N18'.intAt .i64 (2 * M.nb.size) (0 + 1) = some x25' ∧
         Cn Try.prog 14 #[.pointer x4, .int .i32 (IntKind.i32.wrap (x24')), .int .i64 x25'] N18' fun v26' N26' =>
          ∃ x27', asI .i64 v26' = some x27' ∧
          A3_3 Ax0 lx0 cx0 x3 x4 x5 x16' x27' N26' Q) ∧
         (x19' ≠ 1 →
         ((x19' = 2 →
          ∃ x28', N18'.intAt .u32 (2 * M.nb.size) (0 + 2) = some x28' ∧
          Cn Try.prog 15 #[.pointer x4, .int .u32 x28'] N18' fun v29' N29' =>
           ∃ x30', asI .i64 v29' = some x30' ∧
           A3_3 Ax0 lx0 cx0 x3 x4 x5 x16' x30' N29' Q) ∧
          (x19' ≠ 2 →
          ((x19' = 3 →
           ∃ x31', N18'.intAt .u32 (2 * M.nb.size) (0 + 2) = some x31' ∧
           Cn Try.prog 16 #[.pointer x4, .int .u32 x31'] N18' fun v32' N32' =>
            ∃ x33', asI .i64 v32' = some x33' ∧
            A3_3 Ax0 lx0 cx0 x3 x4 x5 x16' x33' N32' Q) ∧
           (x19' ≠ 3 →
           Cn Try.prog 17 #[.pointer x4] N18' fun v34' N34' =>
            ∃ x35', asI .i64 v34' = some x35' ∧
            A3_3 Ax0 lx0 cx0 x3 x4 x5 x16' x35' N34' Q))))))))) ∧
     (x20 = false →
     Cn Try.prog 18 #[.pointer x3] M fun v36' N36' =>
      ∃ s37', asS v36' = some s37' ∧
      Cn Try.prog 20 #[.pointer x4] N36' fun v38' N38' =>
       ∃ s39', asS v38' = some s39' ∧
       Cn Try.prog 19 #[.slice s37'.1 (s37'.2.1) (s37'.2.2), .slice s39'.1 (s39'.2.1) (s39'.2.2)] N38' fun v40' N40' =>
        ∃ b41', asB v40' = some b41' ∧
        ((b41' = true →
         Cn Try.prog 21 #[] N40' fun v42' N42' =>
          ∃ b43', asB v42' = some b43' ∧
          Q (.bool b43') N42') ∧
         (b41' = false →
         Q (.bool false) N40'))))) :
    A3_2 Ax0 lx0 cx0 x3 x4 x5 x20 M Q := by
  intro g1 g2 g6 g7 g8 g9 g10 g11 g12 g13 g14 g15 g16 g17 g18 g19 g21 g22 g23 g24 g25 g26 g27 g28 g29 g30 g31 g32 g33 g34 g35 g36 g37 g38 g39 g40 g41 g42 g43 g44 g45 g46 g47 g48 g49 g50 g51 g52 g53 g54 g55 g56 g57 g58 g59 g60 g61 g62 g63 g64 g65 g66 g67 g68 g69 g70 g71 g72 g73 g74 g75 g76 g77 g78 g79 g80 g81 g82 g83 g84 g85 g86 g87 g88 g89 g90 g91 g92 g93 g94 g95 g96 g97
  refine Rn.cnd (v := x20) ⟨c3_14, rfl, by kernel_rfl⟩ (fun h => ?_) (fun h => ?_)
  · replace H := H.1 (h)
    refine Rn.skip k3_15 (Rn.seq k3_16 (Rn.block k3_17 (Rn.seq k3_18 (Rn.region k3_19 (fun call K => r3_6) (Rch.ex H fun a5' H => Rch.ex H fun x6' H => Rch.ex H fun x7' H => Rch.ex H fun x8' H => Rch.ex H fun M9' H => Rch.ex H fun M10' H => Rch.ex H fun M11' H => ?_)))))
    refine Rch.leaf (Rn.seq k3_20 (Rn.region k3_21 (fun call K => r3_7) (Rch.bind (x := ⟨2 * M.nb.size, 0, none⟩) rfl (Rch.ex H fun x12' H => Rch.ex H fun x13' H => Rch.ex H fun x14' H => Rch.call H fun v15' N15' H => Rch.ex H fun x16' H => Rch.leaf (Rn.seq k3_22 (Rn.region k3_23 (fun call K => r3_8) ?_))))))
    refine Rch.leaf (Rn.seq k3_24 (Rn.seq k3_25 (Rn.region k3_26 (fun call K => r3_9) (Rch.bind (x := ⟨2 * M.nb.size, 0, none⟩) rfl (Rch.ex H fun x17' H => Rch.call H fun v18' N18' H => Rch.ex H fun x19' H => Rch.leaf (Rn.block k3_27 (Rn.seq k3_28 (Rn.region k3_29 (fun call K => r3_11) ?_))))))))
    refine Rch.leaf ?_
    refine Rn.cnd (v := x19' == 0) ⟨c3_30, rfl, by kernel_rfl⟩ (fun h => ?_) (fun h => ?_)
    · replace H := H.1 (eq_of_beq h)
      refine Rn.region k3_31 (fun call K => r3_12) (Rch.bind (x := ⟨2 * M.nb.size, 0, none⟩) rfl (Rch.ex H fun x20' H => Rch.bind (x := ⟨2 * M.nb.size, 0, none⟩) rfl (Rch.ex H fun x21' H => Rch.call H fun v22' N22' H => Rch.ex H fun x23' H => Rch.leaf (Rn.blk ?_))))
      exact H _ _ _ _ _ _ _ _ _ _ _ _ _ _ _ _ _ _ _ _ _ _ _ _ _ _ _ _ _ _ _ _ _ _ _ _ _ _ _ _ _ _ _ _ _ _ _ _ _ _ _ _ _ _ _ _ _ _ _ _ _ _ _ _ _ _ _ _ _ _ _ _ _ _ _ _ _ _ _ _ _ _ _ _ _ _ _ _ _ _ _ _
    · replace H := H.2 (ne_of_beq_false h)
      refine Rn.seq k3_32 (Rn.region k3_33 (fun call K => r3_13) (Rch.leaf ?_))
      refine Rn.cnd (v := x19' == 1) ⟨c3_34, rfl, by kernel_rfl⟩ (fun h => ?_) (fun h => ?_)
      · replace H := H.1 (eq_of_beq h)
        refine Rn.region k3_35 (fun call K => r3_14) (Rch.bind (x := ⟨2 * M.nb.size, 0, none⟩) rfl (Rch.ex H fun x24' H => Rch.bind (x := ⟨2 * M.nb.size, 0, none⟩) rfl (Rch.ex H fun x25' H => Rch.call H fun v26' N26' H => Rch.ex H fun x27' H => Rch.leaf (Rn.blk ?_))))
        exact H _ _ _ _ _ _ _ _ _ _ _ _ _ _ _ _ _ _ _ _ _ _ _ _ _ _ _ _ _ _ _ _ _ _ _ _ _ _ _ _ _ _ _ _ _ _ _ _ _ _ _ _ _ _ _ _ _ _ _ _ _ _ _ _ _ _ _ _ _ _ _ _ _ _ _ _ _ _ _ _ _ _ _ _ _ _ _ _ _ _ _ _
      · replace H := H.2 (ne_of_beq_false h)
        refine Rn.seq k3_36 (Rn.region k3_37 (fun call K => r3_15) (Rch.leaf ?_))
        refine Rn.cnd (v := x19' == 2) ⟨c3_38, rfl, by kernel_rfl⟩ (fun h => ?_) (fun h => ?_)
        · replace H := H.1 (eq_of_beq h)
          refine Rn.region k3_39 (fun call K => r3_16) (Rch.bind (x := ⟨2 * M.nb.size, 0, none⟩) rfl (Rch.ex H fun x28' H => Rch.call H fun v29' N29' H => Rch.ex H fun x30' H => Rch.leaf (Rn.blk ?_)))
          exact H _ _ _ _ _ _ _ _ _ _ _ _ _ _ _ _ _ _ _ _ _ _ _ _ _ _ _ _ _ _ _ _ _ _ _ _ _ _ _ _ _ _ _ _ _ _ _ _ _ _ _ _ _ _ _ _ _ _ _ _ _ _ _ _ _ _ _ _ _ _ _ _ _ _ _ _ _ _ _ _ _ _ _ _ _ _ _ _ _ _ _ _
        · replace H := H.2 (ne_of_beq_false h)
          refine Rn.seq k3_40 (Rn.region k3_41 (fun call K => r3_17) (Rch.leaf ?_))
          refine Rn.cnd (v := x19' == 3) ⟨c3_42, rfl, by kernel_rfl⟩ (fun h => ?_) (fun h => ?_)
          · replace H := H.1 (eq_of_beq h)
            refine Rn.region k3_43 (fun call K => r3_18) (Rch.bind (x := ⟨2 * M.nb.size, 0, none⟩) rfl (Rch.ex H fun x31' H => Rch.call H fun v32' N32' H => Rch.ex H fun x33' H => Rch.leaf (Rn.blk ?_)))
            exact H _ _ _ _ _ _ _ _ _ _ _ _ _ _ _ _ _ _ _ _ _ _ _ _ _ _ _ _ _ _ _ _ _ _ _ _ _ _ _ _ _ _ _ _ _ _ _ _ _ _ _ _ _ _ _ _ _ _ _ _ _ _ _ _ _ _ _ _ _ _ _ _ _ _ _ _ _ _ _ _ _ _ _ _ _ _ _ _ _ _ _ _
          · replace H := H.2 (ne_of_beq_false h)
            refine Rn.region k3_44 (fun call K => r3_10) (Rch.call H fun v34' N34' H => Rch.ex H fun x35' H => Rch.leaf (Rn.blk ?_))
            exact H _ _ _ _ _ _ _ _ _ _ _ _ _ _ _ _ _ _ _ _ _ _ _ _ _ _ _ _ _ _ _ _ _ _ _ _ _ _ _ _ _ _ _ _ _ _ _ _ _ _ _ _ _ _ _ _ _ _ _ _ _ _ _ _ _ _ _ _ _ _ _ _ _ _ _ _ _ _ _ _ _ _ _ _ _ _ _ _ _ _ _ _
  · replace H := H.2 (h)
    refine Rn.exit k3_45 rfl (Rn.seq k3_46 (Rn.region k3_47 (fun call K => r3_26) (Rch.call H fun v36' N36' H => Rch.ex H fun s37' H => Rch.call H fun v38' N38' H => Rch.ex H fun s39' H => Rch.call H fun v40' N40' H => Rch.ex H fun b41' H => ?_)))
    refine Rch.cB (fun h => ?_) (fun h => ?_)
    · replace H := H.1 (h)
      refine Rch.call H fun v42' N42' H => Rch.ex H fun b43' H => Rch.leaf ?_
      exact Rn.ret k3_48 e3 H
    · replace H := H.2 (h)
      refine Rch.leaf ?_
      exact Rn.ret k3_48 e3 H

theorem w3_3 {Ax0 : Option Addr} {lx0 cx0 : Nat} {x3 x4 : Option Addr} {x5 x7 x8 : Int} {M : Mem} {Q : Value → Mem → Prop} (H :
    Cn Try.prog 18 #[.pointer x3] M fun v44' N44' =>
     ∃ s45', asS v44' = some s45' ∧
     ((x7 ≠ x8 →
      A3_4 Ax0 lx0 cx0 x3 x4 x5 s45'.1 s45'.2.1 s45'.2.2 true N44' Q) ∧
      (x7 = x8 →
      Cn Try.prog 20 #[.pointer x4] N44' fun v46' N46' =>
       ∃ s47', asS v46' = some s47' ∧
       Cn Try.prog 19 #[.slice s45'.1 s45'.2.1 s45'.2.2, .slice s47'.1 (s47'.2.1) (s47'.2.2)] N46' fun v48' N48' =>
        ∃ b49', asB v48' = some b49' ∧
        A3_4 Ax0 lx0 cx0 x3 x4 x5 s45'.1 s45'.2.1 s45'.2.2 (!b49') N48' Q))) :
    A3_3 Ax0 lx0 cx0 x3 x4 x5 x7 x8 M Q := by
  intro g1 g2 g6 g9 g10 g11 g12 g13 g14 g15 g16 g17 g18 g19 g20 g21 g22 g23 g24 g25 g26 g27 g28 g29 g30 g31 g32 g33 g34 g35 g36 g37 g38 g39 g40 g41 g42 g43 g44 g45 g46 g47 g48 g49 g50 g51 g52 g53 g54 g55 g56 g57 g58 g59 g60 g61 g62 g63 g64 g65 g66 g67 g68 g69 g70 g71 g72 g73 g74 g75 g76 g77 g78 g79 g80 g81 g82 g83 g84 g85 g86 g87 g88 g89 g90 g91 g92 g93 g94 g95 g96 g97
  refine Rn.seq k3_50 (Rn.region k3_51 (fun call K => r3_19) (Rch.call H fun v44' N44' H => Rch.ex H fun s45' H => Rch.leaf (Rn.seq k3_52 (Rn.seq k3_53 (Rn.region k3_54 (fun call K => r3_20) ?_)))))
  refine Rch.cB (fun h => ?_) (fun h => ?_)
  · replace H := H.1 (ne_of_bneT h)
    refine Rch.leaf ?_
    exact H _ _ _ _ _ _ _ _ _ _ _ _ _ _ _ _ _ _ _ _ _ _ _ _ _ _ _ _ _ _ _ _ _ _ _ _ _ _ _ _ _ _ _ _ _ _ _ _ _ _ _ _ _ _ _ _ _ _ _ _ _ _ _ _ _ _ _ _ _ _ _ _ _ _ _ _ _ _ _ _ _ _ _ _ _ _ _ _ _ _ _ _
  · replace H := H.2 (eq_of_bneF h)
    refine Rch.call H fun v46' N46' H => Rch.ex H fun s47' H => Rch.call H fun v48' N48' H => Rch.ex H fun b49' H => Rch.leaf ?_
    exact H _ _ _ _ _ _ _ _ _ _ _ _ _ _ _ _ _ _ _ _ _ _ _ _ _ _ _ _ _ _ _ _ _ _ _ _ _ _ _ _ _ _ _ _ _ _ _ _ _ _ _ _ _ _ _ _ _ _ _ _ _ _ _ _ _ _ _ _ _ _ _ _ _ _ _ _ _ _ _ _ _ _ _ _ _ _ _ _ _ _ _ _

theorem w3_4 {Ax0 : Option Addr} {lx0 cx0 : Nat} {x3 x4 : Option Addr} {x5 : Int} {Ax9 : Option Addr} {lx9 cx9 : Nat} {x75 : Bool} {M : Mem} {Q : Value → Mem → Prop} (H :
    ((x75 = true →
     Q (.bool false) M) ∧
     (x75 = false →
     A3_5 Ax0 lx0 cx0 x3 x4 x5 Ax9 lx9 cx9 0 M Q))) :
    A3_4 Ax0 lx0 cx0 x3 x4 x5 Ax9 lx9 cx9 x75 M Q := by
  intro g1 g2 g6 g7 g8 g10 g11 g12 g13 g14 g15 g16 g17 g18 g19 g20 g21 g22 g23 g24 g25 g26 g27 g28 g29 g30 g31 g32 g33 g34 g35 g36 g37 g38 g39 g40 g41 g42 g43 g44 g45 g46 g47 g48 g49 g50 g51 g52 g53 g54 g55 g56 g57 g58 g59 g60 g61 g62 g63 g64 g65 g66 g67 g68 g69 g70 g71 g72 g73 g74 g76 g77 g78 g79 g80 g81 g82 g83 g84 g85 g86 g87 g88 g89 g90 g91 g92 g93 g94 g95 g96 g97
  refine Rn.cnd (v := x75) ⟨c3_55, rfl, by kernel_rfl⟩ (fun h => ?_) (fun h => ?_)
  · replace H := H.1 (h)
    refine Rn.seq k3_56 (Rn.region k3_57 (fun call K => r3_21) (Rch.leaf ?_))
    exact Rn.ret k3_58 e3 H
  · replace H := H.2 (h)
    refine Rn.skip k3_59 (Rn.seq k3_60 (Rn.region k3_61 (fun call K => r3_22) (Rch.leaf (Rn.block k3_62 (Rn.loop k3_63 ?_)))))
    exact H _ _ _ _ _ _ _ _ _ _ _ _ _ _ _ _ _ _ _ _ _ _ _ _ _ _ _ _ _ _ _ _ _ _ _ _ _ _ _ _ _ _ _ _ _ _ _ _ _ _ _ _ _ _ _ _ _ _ _ _ _ _ _ _ _ _ _ _ _ _ _ _ _ _ _ _ _ _ _ _ _ _ _ _ _ _ _ _ _ _ _ _

theorem w3_5 {Ax0 : Option Addr} {lx0 cx0 : Nat} {x3 x4 : Option Addr} {x5 : Int} {Ax9 : Option Addr} {lx9 cx9 : Nat} {x10 : Int} {M : Mem} {Q : Value → Mem → Prop} (H :
    ((x10 < ((lx9 : Int)) →
     ∃ a50', idxA Ax9 lx9 1 x10 = some a50' ∧
     ∃ x51', M.intAt .u8 a50'.block a50'.off = some x51' ∧
     ∃ a52', idxA Ax9 lx9 1 x10 = some a52' ∧
     ∃ M53', M.put a52'.block a52'.off (.int .u8 (IntKind.u8.wrap (((BitVec.ofInt (IntKind.bits .u8) x51' ^^^ BitVec.ofInt (IntKind.bits .u8) 255).toNat : Int)))) = some M53' ∧
     A3_5 Ax0 lx0 cx0 x3 x4 x5 Ax9 lx9 cx9 (IntKind.i64.wrap (x10 + 1)) M53' Q) ∧
     (¬ (x10 < ((lx9 : Int))) →
     A3_1 Ax0 lx0 cx0 x3 x4 (IntKind.i64.wrap (x5 + 1)) M Q))) :
    A3_5 Ax0 lx0 cx0 x3 x4 x5 Ax9 lx9 cx9 x10 M Q := by
  intro g1 g2 g6 g7 g8 g11 g12 g13 g14 g15 g16 g17 g18 g19 g20 g21 g22 g23 g24 g25 g26 g27 g28 g29 g30 g31 g32 g33 g34 g35 g36 g37 g38 g39 g40 g41 g42 g43 g44 g45 g46 g47 g48 g49 g50 g51 g52 g53 g54 g55 g56 g57 g58 g59 g60 g61 g62 g63 g64 g65 g66 g67 g68 g69 g70 g71 g72 g73 g74 g75 g76 g77 g78 g79 g80 g81 g82 g83 g84 g85 g86 g87 g88 g89 g90 g91 g92 g93 g94 g95 g96 g97
  refine Rn.seq k3_64 (Rn.seq k3_65 (Rn.region k3_66 (fun call K => r3_23) (Rch.leaf ?_)))
  refine Rn.cnd (v := decide (x10 < ((lx9 : Int)))) ⟨c3_67, rfl, by kernel_rfl⟩ (fun h => ?_) (fun h => ?_)
  · replace H := H.1 (of_decide_eq_true h)
    refine Rn.skip k3_68 (Rn.seq k3_69 (Rn.block k3_70 (Rn.region k3_71 (fun call K => r3_25) (Rch.ex H fun a50' H => Rch.ex H fun x51' H => Rch.ex H fun a52' H => Rch.ex H fun M53' H => Rch.leaf (Rn.blk (Rn.region k3_72 (fun call K => r3_24) (Rch.leaf ?_)))))))
    refine Rn.lp ?_
    exact H _ _ _ _ _ _ _ _ _ _ _ _ _ _ _ _ _ _ _ _ _ _ _ _ _ _ _ _ _ _ _ _ _ _ _ _ _ _ _ _ _ _ _ _ _ _ _ _ _ _ _ _ _ _ _ _ _ _ _ _ _ _ _ _ _ _ _ _ _ _ _ _ _ _ _ _ _ _ _ _ _ _ _ _ _ _ _ _ _ _ _ _
  · replace H := H.2 (of_decide_eq_false h)
    refine Rn.exit k3_73 rfl (Rn.blk (Rn.region k3_74 (fun call K => r3_5) (Rch.leaf (Rn.lp ?_))))
    exact H _ _ _ _ _ _ _ _ _ _ _ _ _ _ _ _ _ _ _ _ _ _ _ _ _ _ _ _ _ _ _ _ _ _ _ _ _ _ _ _ _ _ _ _ _ _ _ _ _ _ _ _ _ _ _ _ _ _ _ _ _ _ _ _ _ _ _ _ _ _ _ _ _ _ _ _ _ _ _ _ _ _ _ _ _ _ _ _ _ _ _ _ _ _


/-! ### zoetrope/zoetroperef00.EqInts: function 59 -/
noncomputable abbrev P59 (p : List Nat) : Code := subC (codeOf Try.f59) p
noncomputable abbrev O59 (p : List Nat) : Array Oper := opsOf (subC (codeOf Try.f59) p)
theorem b59 : Try.prog.funcs[59]? = some Try.f59 ∧ (Orc.tab Try.prog).lookup 59 = none := ⟨by kernel_rfl, by kernel_rfl⟩
theorem d59 : Try.f59.body = some (P59 []) := by kernel_rfl
theorem t59 {Ax0 : Option Addr} {lx0 cx0 : Nat} {Ax1 : Option Addr} {lx1 cx1 : Nat} : #[.slice Ax0 lx0 cx0,.slice Ax1 lx1 cx1] ++ Array.replicate (Try.f59.ntmps - (#[.slice Ax0 lx0 cx0,.slice Ax1 lx1 cx1] : Array Value).size) undef = #[.slice Ax0 lx0 cx0,.slice Ax1 lx1 cx1,undef,undef,undef,undef,undef,undef,undef,undef,undef,undef,undef,undef,undef,undef,undef,undef,undef,undef,undef,undef,undef,undef,undef,undef] := by kernel_rfl
theorem k59_0 : P59 [] = .seq (P59 [0]) (P59 [1]) := by kernel_rfl
theorem k59_1 : P59 [0] = .region 0 (O59 [0]) false := by kernel_rfl
theorem r59_0 {M : Mem} {call : CallM} {K : Array Value → Mem → R} :
    opsK Try.prog (fun _ => call) (O59 [0]) (O59 [0]).toList 0 #[g0,g1,g2,g3,g4,g5,g6,g7,g8,g9,g10,g11,g12,g13,g14,g15,g16,g17,g18,g19,g20,g21,g22,g23,g24,g25] M K = K #[g0,g1,g2,g3,.bool false,g5,g6,g7,g8,g9,g10,g11,g12,g13,g14,g15,g16,g17,g18,g19,g20,g21,g22,g23,g24,g25] M := by kernel_rfl
theorem k59_2 : P59 [1] = .seq (P59 [1,0]) (P59 [1,1]) := by kernel_rfl
theorem k59_3 : P59 [1,0] = .seq (P59 [1,0,0]) (P59 [1,0,1]) := by kernel_rfl
theorem k59_4 : P59 [1,0,0] = .region 1 (O59 [1,0,0]) false := by kernel_rfl
theorem r59_1 {Ax0 : Option Addr} {lx0 cx0 : Nat} {Ax1 : Option Addr} {lx1 cx1 : Nat} {M : Mem} {call : CallM} {K : Array Value → Mem → R} :
    opsK Try.prog (fun _ => call) (O59 [1,0,0]) (O59 [1,0,0]).toList 0 #[.slice Ax0 lx0 cx0,.slice Ax1 lx1 cx1,g2,g3,g4,g5,g6,g7,g8,g9,g10,g11,g12,g13,g14,g15,g16,g17,g18,g19,g20,g21,g22,g23,g24,g25] M K = K #[.slice Ax0 lx0 cx0,.slice Ax1 lx1 cx1,g2,g3,g4,g5,.slice Ax0 lx0 cx0,.int .i64 ((lx0 : Int)),.slice Ax1 lx1 cx1,.int .i64 ((lx1 : Int)),.bool (((lx0 : Int)) != ((lx1 : Int))),g11,g12,g13,g14,g15,g16,g17,g18,g19,g20,g21,g22,g23,g24,g25] M := by kernel_rfl
theorem c59_5 : P59 [1,0,1] = .cond (.tmp 10) (P59 [1,0,1,0]) (P59 [1,0,1,1]) := by kernel_rfl
theorem k59_6 : P59 [1,0,1,0] = .seq (P59 [1,0,1,0,0]) (P59 [1,0,1,0,1]) := by kernel_rfl
theorem k59_7 : P59 [1,0,1,0,0] = .region 2 (O59 [1,0,1,0,0]) false := by kernel_rfl
theorem r59_2 {M : Mem} {call : CallM} {K : Array Value → Mem → R} :
    opsK Try.prog (fun _ => call) (O59 [1,0,1,0,0]) (O59 [1,0,1,0,0]).toList 0 #[g0,g1,g2,g3,g4,g5,g6,g7,g8,g9,g10,g11,g12,g13,g14,g15,g16,g17,g18,g19,g20,g21,g22,g23,g24,g25] M K = K #[g0,g1,g2,g3,.bool false,g5,g6,g7,g8,g9,g10,g11,g12,g13,g14,g15,g16,g17,g18,g19,g20,g21,g22,g23,g24,g25] M := by kernel_rfl
theorem k59_8 : P59 [1,0,1,0,1] = .ret := by kernel_rfl
theorem e59 {M : Mem} : finish Try.prog Try.f59 #[g0,g1,g2,g3,g4,g5,g6,g7,g8,g9,g10,g11,g12,g13,g14,g15,g16,g17,g18,g19,g20,g21,g22,g23,g24,g25] M = some (g4, M) := by kernel_rfl
theorem k59_10 : P59 [1,0,1,1] = .skip := by kernel_rfl
theorem k59_11 : P59 [1,1] = .seq (P59 [1,1,0]) (P59 [1,1,1]) := by kernel_rfl
theorem k59_12 : P59 [1,1,0] = .seq (P59 [1,1,0,0]) (P59 [1,1,0,1]) := by kernel_rfl
theorem k59_13 : P59 [1,1,0,0] = .region 3 (O59 [1,1,0,0]) false := by kernel_rfl
theorem r59_3 {M : Mem} {call : CallM} {K : Array Value → Mem → R} :
    opsK Try.prog (fun _ => call) (O59 [1,1,0,0]) (O59 [1,1,0,0]).toList 0 #[g0,g1,g2,g3,g4,g5,g6,g7,g8,g9,g10,g11,g12,g13,g14,g15,g16,g17,g18,g19,g20,g21,g22,g23,g24,g25] M K = K #[g0,g1,g2,g3,g4,.int .i64 0,g6,g7,g8,g9,g10,g11,g12,g13,g14,g15,g16,g17,g18,g19,g20,g21,g22,g23,g24,g25] M := by kernel_rfl
theorem k59_14 : P59 [1,1,0,1] = .block 0 (P59 [1,1,0,1,0]) := by kernel_rfl
theorem k59_15 : P59 [1,1,0,1,0] = .loop (P59 [1,1,0,1,0,0]) := by kernel_rfl
theorem k59_16 : P59 [1,1,0,1,0,0] = .seq (P59 [1,1,0,1,0,0,0]) (P59 [1,1,0,1,0,0,1]) := by kernel_rfl
theorem k59_17 : P59 [1,1,0,1,0,0,0] = .seq (P59 [1,1,0,1,0,0,0,0]) (P59 [1,1,0,1,0,0,0,1]) := by kernel_rfl
theorem k59_18 : P59 [1,1,0,1,0,0,0,0] = .region 4 (O59 [1,1,0,1,0,0,0,0]) false := by kernel_rfl
theorem r59_4 {Ax0 : Option Addr} {lx0 cx0 : Nat} {x5 : Int} {M : Mem} {call : CallM} {K : Array Value → Mem → R} :
    opsK Try.prog (fun _ => call) (O59 [1,1,0,1,0,0,0,0]) (O59 [1,1,0,1,0,0,0,0]).toList 0 #[.slice Ax0 lx0 cx0,g1,g2,g3,g4,.int .i64 x5,g6,g7,g8,g9,g10,g11,g12,g13,g14,g15,g16,g17,g18,g19,g20,g21,g22,g23,g24,g25] M K = K #[.slice Ax0 lx0 cx0,g1,g2,g3,g4,.int .i64 x5,g6,g7,g8,g9,g10,.int .i64 x5,.slice Ax0 lx0 cx0,.int .i64 ((lx0 : Int)),.bool (decide (x5 < ((lx0 : Int)))),g15,g16,g17,g18,g19,g20,g21,g22,g23,g24,g25] M := by kernel_rfl
theorem c59_19 : P59 [1,1,0,1,0,0,0,1] = .cond (.tmp 14) (P59 [1,1,0,1,0,0,0,1,0]) (P59 [1,1,0,1,0,0,0,1,1]) := by kernel_rfl
theorem k59_20 : P59 [1,1,0,1,0,0,0,1,0] = .skip := by kernel_rfl
theorem k59_21 : P59 [1,1,0,1,0,0,1] = .seq (P59 [1,1,0,1,0,0,1,0]) (P59 [1,1,0,1,0,0,1,1]) := by kernel_rfl
theorem k59_22 : P59 [1,1,0,1,0,0,1,0] = .block 1 (P59 [1,1,0,1,0,0,1,0,0]) := by kernel_rfl
theorem k59_23 : P59 [1,1,0,1,0,0,1,0,0] = .seq (P59 [1,1,0,1,0,0,1,0,0,0]) (P59 [1,1,0,1,0,0,1,0,0,1]) := by kernel_rfl
theorem k59_24 : P59 [1,1,0,1,0,0,1,0,0,0] = .region 6 (O59 [1,1,0,1,0,0,1,0,0,0]) true ∧ drawOk (O59 [1,1,0,1,0,0,1,0,0,0]) = true := ⟨by kernel_rfl, by kernel_rfl⟩
theorem r59_6 {Ax0 : Option Addr} {lx0 cx0 : Nat} {Ax1 : Option Addr} {lx1 cx1 : Nat} {x5 : Int} {M : Mem} {call : CallM} {K : Array Value → Mem → R} :
    opsI Try.prog (callAt call (O59 [1,1,0,1,0,0,1,0,0,0])) (O59 [1,1,0,1,0,0,1,0,0,0]) (ordOf (O59 [1,1,0,1,0,0,1,0,0,0])) [] #[.slice Ax0 lx0 cx0,.slice Ax1 lx1 cx1,g2,g3,g4,.int .i64 x5,g6,g7,g8,g9,g10,g11,g12,g13,g14,g15,g16,g17,g18,g19,g20,g21,g22,g23,g24,g25] M K = (idxA Ax0 lx0 1 x5).bind fun a_1 => (M.intAt .i64 a_1.block a_1.off).bind fun x_2 => (idxA Ax1 lx1 1 x5).bind fun a_3 => (M.intAt .i64 a_3.block a_3.off).bind fun x_4 => K #[.slice Ax0 lx0 cx0,.slice Ax1 lx1 cx1,g2,g3,g4,.int .i64 x5,g6,g7,g8,g9,g10,g11,g12,g13,g14,g15,g16,.slice Ax0 lx0 cx0,.int .i64 x5,.pointer (some a_1),.int .i64 x_2,.slice Ax1 lx1 cx1,.int .i64 x5,.pointer (some a_3),.int .i64 x_4,.bool (x_2 != x_4)] M := by kernel_rfl
theorem c59_25 : P59 [1,1,0,1,0,0,1,0,0,1] = .cond (.tmp 25) (P59 [1,1,0,1,0,0,1,0,0,1,0]) (P59 [1,1,0,1,0,0,1,0,0,1,1]) := by kernel_rfl
theorem k59_26 : P59 [1,1,0,1,0,0,1,0,0,1,0] = .seq (P59 [1,1,0,1,0,0,1,0,0,1,0,0]) (P59 [1,1,0,1,0,0,1,0,0,1,0,1]) := by kernel_rfl
theorem k59_27 : P59 [1,1,0,1,0,0,1,0,0,1,0,0] = .region 7 (O59 [1,1,0,1,0,0,1,0,0,1,0,0]) false := by kernel_rfl
theorem r59_7 {M : Mem} {call : CallM} {K : Array Value → Mem → R} :
    opsK Try.prog (fun _ => call) (O59 [1,1,0,1,0,0,1,0,0,1,0,0]) (O59 [1,1,0,1,0,0,1,0,0,1,0,0]).toList 0 #[g0,g1,g2,g3,g4,g5,g6,g7,g8,g9,g10,g11,g12,g13,g14,g15,g16,g17,g18,g19,g20,g21,g22,g23,g24,g25] M K = K #[g0,g1,g2,g3,.bool false,g5,g6,g7,g8,g9,g10,g11,g12,g13,g14,g15,g16,g17,g18,g19,g20,g21,g22,g23,g24,g25] M := by kernel_rfl
theorem k59_28 : P59 [1,1,0,1,0,0,1,0,0,1,0,1] = .ret := by kernel_rfl
theorem k59_29 : P59 [1,1,0,1,0,0,1,0,0,1,1] = .skip := by kernel_rfl
theorem k59_30 : P59 [1,1,0,1,0,0,1,1] = .region 5 (O59 [1,1,0,1,0,0,1,1]) false := by kernel_rfl
theorem r59_5 {x5 : Int} {M : Mem} {call : CallM} {K : Array Value → Mem → R} :
    opsK Try.prog (fun _ => call) (O59 [1,1,0,1,0,0,1,1]) (O59 [1,1,0,1,0,0,1,1]).toList 0 #[g0,g1,g2,g3,g4,.int .i64 x5,g6,g7,g8,g9,g10,g11,g12,g13,g14,g15,g16,g17,g18,g19,g20,g21,g22,g23,g24,g25] M K = K #[g0,g1,g2,g3,g4,.int .i64 (IntKind.i64.wrap (x5 + 1)),g6,g7,g8,g9,g10,g11,g12,g13,g14,.int .i64 x5,.int .i64 (IntKind.i64.wrap (x5 + 1)),g17,g18,g19,g20,g21,g22,g23,g24,g25] M := by kernel_rfl
theorem k59_31 : P59 [1,1,0,1,0,0,0,1,1] = .exit 0 := by kernel_rfl
theorem k59_32 : P59 [1,1,1] = .seq (P59 [1,1,1,0]) (P59 [1,1,1,1]) := by kernel_rfl
theorem k59_33 : P59 [1,1,1,0] = .region 8 (O59 [1,1,1,0]) false := by kernel_rfl
theorem r59_8 {M : Mem} {call : CallM} {K : Array Value → Mem → R} :
    opsK Try.prog (fun _ => call) (O59 [1,1,1,0]) (O59 [1,1,1,0]).toList 0 #[g0,g1,g2,g3,g4,g5,g6,g7,g8,g9,g10,g11,g12,g13,g14,g15,g16,g17,g18,g19,g20,g21,g22,g23,g24,g25] M K = K #[g0,g1,g2,g3,.bool true,g5,g6,g7,g8,g9,g10,g11,g12,g13,g14,g15,g16,g17,g18,g19,g20,g21,g22,g23,g24,g25] M := by kernel_rfl
theorem k59_34 : P59 [1,1,1,1] = .ret := by kernel_rfl
noncomputable def S59_1 : List Item := [.code (P59 [1,1,0,1,0,0]), .inLoop (P59 [1,1,0,1,0,0]), .inBlock 0, .code (P59 [1,1,1])]
def A59_1 (Ax0 : Option Addr) (lx0 cx0 : Nat) (Ax1 : Option Addr) (lx1 cx1 : Nat) (x5 : Int) (M : Mem) (Q : Value → Mem → Prop) : Prop := ∀ (g2 g3 g4 g6 g7 g8 g9 g10 g11 g12 g13 g14 g15 g16 g17 g18 g19 g20 g21 g22 g23 g24 g25 : Value), Rn Try.prog Try.f59 S59_1 #[.slice Ax0 lx0 cx0, .slice Ax1 lx1 cx1, g2, g3, g4, .int .i64 x5, g6, g7, g8, g9, g10, g11, g12, g13, g14, g15, g16, g17, g18, g19, g20, g21, g22, g23, g24, g25] M Q
theorem w59_0 {Ax0 : Option Addr} {lx0 cx0 : Nat} {Ax1 : Option Addr} {lx1 cx1 : Nat} {M : Mem} {Q : Value → Mem → Prop} (H :
    ((((lx0 : Int)) ≠ ((lx1 : Int)) →
     Q (.bool false) M) ∧
     (((lx0 : Int)) = ((lx1 : Int)) →
     A59_1 Ax0 lx0 cx0 Ax1 lx1 cx1 0 M Q))) :
    Cn Try.prog 59 #[.slice Ax0 lx0 cx0, .slice Ax1 lx1 cx1] M Q := by
  refine Cn.of b59 d59 t59 ?_
  refine Rn.seq k59_0 (Rn.region k59_1 (fun call K => r59_0) (Rch.leaf (Rn.seq k59_2 (Rn.seq k59_3 (Rn.region k59_4 (fun call K => r59_1) (Rch.leaf ?_))))))
  refine Rn.cnd (v := ((lx0 : Int)) != ((lx1 : Int))) ⟨c59_5, rfl, by kernel_rfl⟩ (fun h => ?_) (fun h => ?_)
  · replace H := H.1 (ne_of_bneT h)
    refine Rn.seq k59_6 (Rn.region k59_7 (fun call K => r59_2) (Rch.leaf ?_))
    exact Rn.ret k59_8 e59 H
  · replace H := H.2 (eq_of_bneF h)
    refine Rn.skip k59_10 (Rn.seq k59_11 (Rn.seq k59_12 (Rn.region k59_13 (fun call K => r59_3) (Rch.leaf (Rn.block k59_14 (Rn.loop k59_15 ?_))))))
    exact H _ _ _ _ _ _ _ _ _ _ _ _ _ _ _ _ _ _ _ _ _ _ _

theorem w59_1 {Ax0 : Option Addr} {lx0 cx0 : Nat} {Ax1 : Option Addr} {lx1 cx1 : Nat} {x5 : Int} {M : Mem} {Q : Value → Mem → Prop} (H :
    ((x5 < ((lx0 : Int)) →
     ∃ a1', idxA Ax0 lx0 1 x5 = some a1' ∧
     ∃ x2', M.intAt .i64 a1'.block a1'.off = some x2' ∧
     ∃ a3', idxA Ax1 lx1 1 x5 = some a3' ∧
     ∃ x4', M.intAt .i64 a3'.block a3'.off = some x4' ∧
     ((x2' ≠ x4' →
      Q (.bool false) M) ∧
      (x2' = x4' →
      A59_1 Ax0 lx0 cx0 Ax1 lx1 cx1 (IntKind.i64.wrap (x5 + 1)) M Q))) ∧
     (¬ (x5 < ((lx0 : Int))) →
     Q (.bool true) M))) :
    A59_1 Ax0 lx0 cx0 Ax1 lx1 cx1 x5 M Q := by
  intro g2 g3 g4 g6 g7 g8 g9 g10 g11 g12 g13 g14 g15 g16 g17 g18 g19 g20 g21 g22 g23 g24 g25
  refine Rn.seq k59_16 (Rn.seq k59_17 (Rn.region k59_18 (fun call K => r59_4) (Rch.leaf ?_)))
  refine Rn.cnd (v := decide (x5 < ((lx0 : Int)))) ⟨c59_19, rfl, by kernel_rfl⟩ (fun h => ?_) (fun h => ?_)
  · replace H := H.1 (of_decide_eq_true h)
    refine Rn.skip k59_20 (Rn.seq k59_21 (Rn.block k59_22 (Rn.seq k59_23 (Rn.regionD k59_24 (fun call K => r59_6) (Rch.ex H fun a1' H => Rch.ex H fun x2' H => Rch.ex H fun a3' H => Rch.ex H fun x4' H => Rch.leaf ?_)))))
    refine Rn.cnd (v := x2' != x4') ⟨c59_25, rfl, by kernel_rfl⟩ (fun h => ?_) (fun h => ?_)
    · replace H := H.1 (ne_of_bneT h)
      refine Rn.seq k59_26 (Rn.region k59_27 (fun call K => r59_7) (Rch.leaf ?_))
      exact Rn.ret k59_28 e59 H
    · replace H := H.2 (eq_of_bneF h)
      refine Rn.skip k59_29 (Rn.blk (Rn.region k59_30 (fun call K => r59_5) (Rch.leaf (Rn.lp ?_))))
      exact H _ _ _ _ _ _ _ _ _ _ _ _ _ _ _ _ _ _ _ _ _ _ _
  · replace H := H.2 (of_decide_eq_false h)
    refine Rn.exit k59_31 rfl (Rn.seq k59_32 (Rn.region k59_33 (fun call K => r59_8) (Rch.leaf ?_)))
    exact Rn.ret k59_34 e59 H


end Go.Zt
