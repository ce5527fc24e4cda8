/- The functions' walks: for each function and each loop a rule of what it comes to. Printed by zw.py. -/
import Derived.Test.YtgepgbblmodagaaProg
import Derived.Test.YtgepgbblmodagaaZkA0
set_option linter.unusedVariables false
set_option maxRecDepth 100000
namespace Go.Zy
open Go Go.Sim Go.Proofs

variable {g0 g1 g2 g3 g4 g5 g6 g7 g8 g9 g10 g11 g12 g13 g14 g15 g16 g17 g18 g19 g20 g21 g22 g23 g24 g25 g26 g27 g28 g29 g30 g31 g32 g33 g34 g35 g36 g37 g38 g39 g40 g41 g42 g43 g44 g45 g46 g47 g48 g49 g50 g51 g52 g53 g54 g55 g56 g57 g58 g59 g60 g61 g62 g63 g64 g65 g66 g67 g68 g69 g70 g71 g72 g73 g74 g75 g76 g77 g78 g79 : Value}
/-! ### zoetrope/zoetropelaw20.awake: function 17 -/
noncomputable abbrev P17 (p : List Nat) : Code := subC (codeOf Try.f17) p
noncomputable abbrev O17 (p : List Nat) : Array Oper := opsOf (subC (codeOf Try.f17) p)
theorem b17 : Try.prog.funcs[17]? = some Try.f17 ∧ (Orc.tab Try.prog).lookup 17 = none := ⟨by kernel_rfl, by kernel_rfl⟩
theorem d17 : Try.f17.body = some (P17 []) := by kernel_rfl
theorem t17 : #[] ++ Array.replicate (Try.f17.ntmps - (#[] : Array Value).size) undef = #[undef,undef,undef,undef,undef,undef,undef,undef,undef,undef,undef,undef,undef,undef,undef,undef,undef,undef,undef,undef,undef,undef,undef,undef,undef,undef,undef,undef,undef,undef,undef,undef,undef,undef,undef,undef,undef,undef,undef,undef,undef,undef,undef,undef,undef,undef,undef,undef,undef,undef,undef,undef,undef,undef,undef,undef,undef,undef,undef,undef,undef,undef,undef,undef,undef,undef,undef,undef,undef,undef,undef,undef,undef,undef,undef,undef,undef,undef,undef,undef] := by kernel_rfl
theorem k17_0 : P17 [] = .seq (P17 [0]) (P17 [1]) := by kernel_rfl
theorem k17_1 : P17 [0] = .region 0 (O17 [0]) false := by kernel_rfl
theorem r17_0 {M : Mem} {call : CallM} {K : Array Value → Mem → R} :
    opsK Try.prog (fun _ => call) (O17 [0]) (O17 [0]).toList 0 #[g0,g1,g2,g3,g4,g5,g6,g7,g8,g9,g10,g11,g12,g13,g14,g15,g16,g17,g18,g19,g20,g21,g22,g23,g24,g25,g26,g27,g28,g29,g30,g31,g32,g33,g34,g35,g36,g37,g38,g39,g40,g41,g42,g43,g44,g45,g46,g47,g48,g49,g50,g51,g52,g53,g54,g55,g56,g57,g58,g59,g60,g61,g62,g63,g64,g65,g66,g67,g68,g69,g70,g71,g72,g73,g74,g75,g76,g77,g78,g79] M K = K #[.bool false,g1,g2,g3,g4,g5,g6,g7,g8,g9,g10,g11,g12,g13,g14,g15,g16,g17,g18,g19,g20,g21,g22,g23,g24,g25,g26,g27,g28,g29,g30,g31,g32,g33,g34,g35,g36,g37,g38,g39,g40,g41,g42,g43,g44,g45,g46,g47,g48,g49,g50,g51,g52,g53,g54,g55,g56,g57,g58,g59,g60,g61,g62,g63,g64,g65,g66,g67,g68,g69,g70,g71,g72,g73,g74,g75,g76,g77,g78,g79] M := by kernel_rfl
theorem k17_2 : P17 [1] = .seq (P17 [1,0]) (P17 [1,1]) := by kernel_rfl
theorem k17_3 : P17 [1,0] = .region 1 (O17 [1,0]) false := by kernel_rfl
theorem r17_1 {M : Mem} {call : CallM} {K : Array Value → Mem → R} :
    opsK Try.prog (fun _ => call) (O17 [1,0]) (O17 [1,0]).toList 0 #[g0,g1,g2,g3,g4,g5,g6,g7,g8,g9,g10,g11,g12,g13,g14,g15,g16,g17,g18,g19,g20,g21,g22,g23,g24,g25,g26,g27,g28,g29,g30,g31,g32,g33,g34,g35,g36,g37,g38,g39,g40,g41,g42,g43,g44,g45,g46,g47,g48,g49,g50,g51,g52,g53,g54,g55,g56,g57,g58,g59,g60,g61,g62,g63,g64,g65,g66,g67,g68,g69,g70,g71,g72,g73,g74,g75,g76,g77,g78,g79] M K = ((M.new (.cells #[.int .i64 0, .int .i64 0] 23)).put (2 * M.nb.size) 0 (.int .i64 64)).bind fun M_1 => (M_1.put (2 * M.nb.size) 1 (.int .i64 32)).bind fun M_2 => K #[g0,.pointer (some ⟨2 * M.nb.size, 0, none⟩),g2,g3,g4,g5,g6,g7,g8,g9,g10,.agg #[.int .i64 64, .int .i64 32],g12,g13,g14,g15,g16,g17,g18,g19,g20,g21,g22,g23,g24,g25,g26,g27,g28,g29,g30,g31,g32,g33,g34,g35,g36,g37,g38,g39,g40,g41,g42,g43,g44,g45,g46,g47,g48,g49,g50,g51,g52,g53,g54,g55,g56,g57,g58,g59,g60,g61,g62,g63,g64,g65,g66,g67,g68,g69,g70,g71,g72,g73,g74,g75,g76,g77,g78,g79] M_2 := by kernel_rfl
theorem k17_4 : P17 [1,1] = .seq (P17 [1,1,0]) (P17 [1,1,1]) := by kernel_rfl
theorem k17_5 : P17 [1,1,0] = .region 2 (O17 [1,1,0]) false := by kernel_rfl
theorem r17_2 {x1 : Option Addr} {M : Mem} {call : CallM} {K : Array Value → Mem → R} :
    opsK Try.prog (fun _ => call) (O17 [1,1,0]) (O17 [1,1,0]).toList 0 #[g0,.pointer x1,g2,g3,g4,g5,g6,g7,g8,g9,g10,g11,g12,g13,g14,g15,g16,g17,g18,g19,g20,g21,g22,g23,g24,g25,g26,g27,g28,g29,g30,g31,g32,g33,g34,g35,g36,g37,g38,g39,g40,g41,g42,g43,g44,g45,g46,g47,g48,g49,g50,g51,g52,g53,g54,g55,g56,g57,g58,g59,g60,g61,g62,g63,g64,g65,g66,g67,g68,g69,g70,g71,g72,g73,g74,g75,g76,g77,g78,g79] M K = (x1).bind fun a_1 => (M.intAt .i64 a_1.block a_1.off).bind fun x_2 => (M.intAt .i64 a_1.block (a_1.off + 1)).bind fun x_3 => (call 10 #[.agg #[.int .i64 x_2, .int .i64 x_3]] M).bind fun r_4 => (asU 2 r_4.1).bind fun cs_5 => (asS (cs_5.getD 0 undef)).bind fun s_6 => (asI .i64 (cs_5.getD 1 undef)).bind fun x_7 => K #[g0,.pointer x1,.slice s_6.1 (s_6.2.1) (s_6.2.2),.int .i64 x_7,g4,g5,g6,g7,g8,g9,g10,g11,.tuple #[.slice s_6.1 (s_6.2.1) (s_6.2.2), .int .i64 x_7],.agg #[.int .i64 x_2, .int .i64 x_3],.tuple #[.slice s_6.1 (s_6.2.1) (s_6.2.2), .int .i64 x_7],.slice s_6.1 (s_6.2.1) (s_6.2.2),.int .i64 x_7,g17,g18,g19,g20,g21,g22,g23,g24,g25,g26,g27,g28,g29,g30,g31,g32,g33,g34,g35,g36,g37,g38,g39,g40,g41,g42,g43,g44,g45,g46,g47,g48,g49,g50,g51,g52,g53,g54,g55,g56,g57,g58,g59,g60,g61,g62,g63,g64,g65,g66,g67,g68,g69,g70,g71,g72,g73,g74,g75,g76,g77,g78,g79] r_4.2 := by kernel_rfl
theorem k17_6 : P17 [1,1,1] = .seq (P17 [1,1,1,0]) (P17 [1,1,1,1]) := by kernel_rfl
theorem k17_7 : P17 [1,1,1,0] = .region 3 (O17 [1,1,1,0]) false := by kernel_rfl
theorem r17_3 {Ax2 : Option Addr} {lx2 cx2 : Nat} {M : Mem} {call : CallM} {K : Array Value → Mem → R} :
    opsK Try.prog (fun _ => call) (O17 [1,1,1,0]) (O17 [1,1,1,0]).toList 0 #[g0,g1,.slice Ax2 lx2 cx2,g3,g4,g5,g6,g7,g8,g9,g10,g11,g12,g13,g14,g15,g16,g17,g18,g19,g20,g21,g22,g23,g24,g25,g26,g27,g28,g29,g30,g31,g32,g33,g34,g35,g36,g37,g38,g39,g40,g41,g42,g43,g44,g45,g46,g47,g48,g49,g50,g51,g52,g53,g54,g55,g56,g57,g58,g59,g60,g61,g62,g63,g64,g65,g66,g67,g68,g69,g70,g71,g72,g73,g74,g75,g76,g77,g78,g79] M K = (call 12 #[.slice Ax2 lx2 cx2] M).bind fun r_1 => (asU 2 r_1.1).bind fun cs_2 => (asA 2 (cs_2.getD 0 undef)).bind fun cs_3 => (asI .i64 (cs_3.getD 0 undef)).bind fun x_4 => (asI .i64 (cs_3.getD 1 undef)).bind fun x_5 => (asI .i64 (cs_2.getD 1 undef)).bind fun x_6 => ((r_1.2.new (.cells #[.int .i64 0, .int .i64 0] 23)).put (2 * r_1.2.nb.size) 0 (.int .i64 x_4)).bind fun M_7 => (M_7.put (2 * r_1.2.nb.size) 1 (.int .i64 x_5)).bind fun M_8 => K #[g0,g1,.slice Ax2 lx2 cx2,g3,.pointer (some ⟨2 * r_1.2.nb.size, 0, none⟩),.int .i64 x_6,g6,g7,g8,g9,g10,g11,g12,g13,g14,g15,g16,.tuple #[.agg #[.int .i64 x_4, .int .i64 x_5], .int .i64 x_6],.slice Ax2 lx2 cx2,.tuple #[.agg #[.int .i64 x_4, .int .i64 x_5], .int .i64 x_6],.agg #[.int .i64 x_4, .int .i64 x_5],.int .i64 x_6,g22,g23,g24,g25,g26,g27,g28,g29,g30,g31,g32,g33,g34,g35,g36,g37,g38,g39,g40,g41,g42,g43,g44,g45,g46,g47,g48,g49,g50,g51,g52,g53,g54,g55,g56,g57,g58,g59,g60,g61,g62,g63,g64,g65,g66,g67,g68,g69,g70,g71,g72,g73,g74,g75,g76,g77,g78,g79] M_8 := by kernel_rfl
theorem k17_8 : P17 [1,1,1,1] = .seq (P17 [1,1,1,1,0]) (P17 [1,1,1,1,1]) := by kernel_rfl
theorem k17_9 : P17 [1,1,1,1,0] = .region 4 (O17 [1,1,1,1,0]) false := by kernel_rfl
theorem r17_4 {M : Mem} {call : CallM} {K : Array Value → Mem → R} :
    opsK Try.prog (fun _ => call) (O17 [1,1,1,1,0]) (O17 [1,1,1,1,0]).toList 0 #[g0,g1,g2,g3,g4,g5,g6,g7,g8,g9,g10,g11,g12,g13,g14,g15,g16,g17,g18,g19,g20,g21,g22,g23,g24,g25,g26,g27,g28,g29,g30,g31,g32,g33,g34,g35,g36,g37,g38,g39,g40,g41,g42,g43,g44,g45,g46,g47,g48,g49,g50,g51,g52,g53,g54,g55,g56,g57,g58,g59,g60,g61,g62,g63,g64,g65,g66,g67,g68,g69,g70,g71,g72,g73,g74,g75,g76,g77,g78,g79] M K = (call 19 #[] M).bind fun r_1 => (asP r_1.1).bind fun p_2 => K #[g0,g1,g2,g3,g4,g5,.pointer p_2,g7,g8,g9,g10,g11,g12,g13,g14,g15,g16,g17,g18,g19,g20,g21,.pointer p_2,g23,g24,g25,g26,g27,g28,g29,g30,g31,g32,g33,g34,g35,g36,g37,g38,g39,g40,g41,g42,g43,g44,g45,g46,g47,g48,g49,g50,g51,g52,g53,g54,g55,g56,g57,g58,g59,g60,g61,g62,g63,g64,g65,g66,g67,g68,g69,g70,g71,g72,g73,g74,g75,g76,g77,g78,g79] r_1.2 := by kernel_rfl
theorem k17_10 : P17 [1,1,1,1,1] = .seq (P17 [1,1,1,1,1,0]) (P17 [1,1,1,1,1,1]) := by kernel_rfl
theorem k17_11 : P17 [1,1,1,1,1,0] = .seq (P17 [1,1,1,1,1,0,0]) (P17 [1,1,1,1,1,0,1]) := by kernel_rfl
theorem k17_12 : P17 [1,1,1,1,1,0,0] = .region 5 (O17 [1,1,1,1,1,0,0]) false := by kernel_rfl
theorem r17_5 {x6 : Option Addr} {M : Mem} {call : CallM} {K : Array Value → Mem → R} :
    opsK Try.prog (fun _ => call) (O17 [1,1,1,1,1,0,0]) (O17 [1,1,1,1,1,0,0]).toList 0 #[g0,g1,g2,g3,g4,g5,.pointer x6,g7,g8,g9,g10,g11,g12,g13,g14,g15,g16,g17,g18,g19,g20,g21,g22,g23,g24,g25,g26,g27,g28,g29,g30,g31,g32,g33,g34,g35,g36,g37,g38,g39,g40,g41,g42,g43,g44,g45,g46,g47,g48,g49,g50,g51,g52,g53,g54,g55,g56,g57,g58,g59,g60,g61,g62,g63,g64,g65,g66,g67,g68,g69,g70,g71,g72,g73,g74,g75,g76,g77,g78,g79] M K = K #[g0,g1,g2,g3,g4,g5,.pointer x6,g7,g8,g9,g10,g11,g12,g13,g14,g15,g16,g17,g18,g19,g20,g21,g22,.pointer x6,.bool x6.isNone,g25,g26,g27,g28,g29,g30,g31,g32,g33,g34,g35,g36,g37,g38,g39,g40,g41,g42,g43,g44,g45,g46,g47,g48,g49,g50,g51,g52,g53,g54,g55,g56,g57,g58,g59,g60,g61,g62,g63,g64,g65,g66,g67,g68,g69,g70,g71,g72,g73,g74,g75,g76,g77,g78,g79] M := by kernel_rfl
theorem c17_13 : P17 [1,1,1,1,1,0,1] = .cond (.tmp 24) (P17 [1,1,1,1,1,0,1,0]) (P17 [1,1,1,1,1,0,1,1]) := by kernel_rfl
theorem k17_14 : P17 [1,1,1,1,1,0,1,0] = .seq (P17 [1,1,1,1,1,0,1,0,0]) (P17 [1,1,1,1,1,0,1,0,1]) := by kernel_rfl
theorem k17_15 : P17 [1,1,1,1,1,0,1,0,0] = .region 6 (O17 [1,1,1,1,1,0,1,0,0]) false := by kernel_rfl
theorem r17_6 {M : Mem} {call : CallM} {K : Array Value → Mem → R} :
    opsK Try.prog (fun _ => call) (O17 [1,1,1,1,1,0,1,0,0]) (O17 [1,1,1,1,1,0,1,0,0]).toList 0 #[g0,g1,g2,g3,g4,g5,g6,g7,g8,g9,g10,g11,g12,g13,g14,g15,g16,g17,g18,g19,g20,g21,g22,g23,g24,g25,g26,g27,g28,g29,g30,g31,g32,g33,g34,g35,g36,g37,g38,g39,g40,g41,g42,g43,g44,g45,g46,g47,g48,g49,g50,g51,g52,g53,g54,g55,g56,g57,g58,g59,g60,g61,g62,g63,g64,g65,g66,g67,g68,g69,g70,g71,g72,g73,g74,g75,g76,g77,g78,g79] M K = K #[.bool false,g1,g2,g3,g4,g5,g6,g7,g8,g9,g10,g11,g12,g13,g14,g15,g16,g17,g18,g19,g20,g21,g22,g23,g24,g25,g26,g27,g28,g29,g30,g31,g32,g33,g34,g35,g36,g37,g38,g39,g40,g41,g42,g43,g44,g45,g46,g47,g48,g49,g50,g51,g52,g53,g54,g55,g56,g57,g58,g59,g60,g61,g62,g63,g64,g65,g66,g67,g68,g69,g70,g71,g72,g73,g74,g75,g76,g77,g78,g79] M := by kernel_rfl
theorem k17_16 : P17 [1,1,1,1,1,0,1,0,1] = .ret := by kernel_rfl
theorem e17 {M : Mem} : finish Try.prog Try.f17 #[g0,g1,g2,g3,g4,g5,g6,g7,g8,g9,g10,g11,g12,g13,g14,g15,g16,g17,g18,g19,g20,g21,g22,g23,g24,g25,g26,g27,g28,g29,g30,g31,g32,g33,g34,g35,g36,g37,g38,g39,g40,g41,g42,g43,g44,g45,g46,g47,g48,g49,g50,g51,g52,g53,g54,g55,g56,g57,g58,g59,g60,g61,g62,g63,g64,g65,g66,g67,g68,g69,g70,g71,g72,g73,g74,g75,g76,g77,g78,g79] M = some (g0, M) := by kernel_rfl
theorem k17_18 : P17 [1,1,1,1,1,0,1,1] = .skip := by kernel_rfl
theorem k17_19 : P17 [1,1,1,1,1,1] = .seq (P17 [1,1,1,1,1,1,0]) (P17 [1,1,1,1,1,1,1]) := by kernel_rfl
theorem k17_20 : P17 [1,1,1,1,1,1,0] = .region 7 (O17 [1,1,1,1,1,1,0]) true ∧ drawOk (O17 [1,1,1,1,1,1,0]) = true := ⟨by kernel_rfl, by kernel_rfl⟩
theorem r17_7 {x1 x6 : Option Addr} {M : Mem} {call : CallM} {K : Array Value → Mem → R} :
    opsI Try.prog (callAt call (O17 [1,1,1,1,1,1,0])) (O17 [1,1,1,1,1,1,0]) (ordOf (O17 [1,1,1,1,1,1,0])) [] #[g0,.pointer x1,g2,g3,g4,g5,.pointer x6,g7,g8,g9,g10,g11,g12,g13,g14,g15,g16,g17,g18,g19,g20,g21,g22,g23,g24,g25,g26,g27,g28,g29,g30,g31,g32,g33,g34,g35,g36,g37,g38,g39,g40,g41,g42,g43,g44,g45,g46,g47,g48,g49,g50,g51,g52,g53,g54,g55,g56,g57,g58,g59,g60,g61,g62,g63,g64,g65,g66,g67,g68,g69,g70,g71,g72,g73,g74,g75,g76,g77,g78,g79] M K = (x1).bind fun a_1 => (M.intAt .i64 a_1.block a_1.off).bind fun x_2 => (M.intAt .i64 a_1.block (a_1.off + 1)).bind fun x_3 => (floored call 41 #[] M).bind fun r_4 => (asA 30 r_4.1).bind fun cs_5 => (asB (cs_5.getD 0 undef)).bind fun b_6 => (asI .i64 (cs_5.getD 1 undef)).bind fun x_7 => (asB (cs_5.getD 2 undef)).bind fun b_8 => (asB (cs_5.getD 3 undef)).bind fun b_9 => (asI .i64 (cs_5.getD 4 undef)).bind fun x_10 => (asI .i64 (cs_5.getD 5 undef)).bind fun x_11 => (asI .i64 (cs_5.getD 6 undef)).bind fun x_12 => (asI .i64 (cs_5.getD 7 undef)).bind fun x_13 => (asI .i64 (cs_5.getD 8 undef)).bind fun x_14 => (asI .i64 (cs_5.getD 9 undef)).bind fun x_15 => (asI .i64 (cs_5.getD 10 undef)).bind fun x_16 => (asI .i64 (cs_5.getD 11 undef)).bind fun x_17 => (asI .i64 (cs_5.getD 12 undef)).bind fun x_18 => (asI .i64 (cs_5.getD 13 undef)).bind fun x_19 => (asI .i64 (cs_5.getD 14 undef)).bind fun x_20 => (asI .i64 (cs_5.getD 15 undef)).bind fun x_21 => (asI .i64 (cs_5.getD 16 undef)).bind fun x_22 => (asB (cs_5.getD 17 undef)).bind fun b_23 => (asI .i64 (cs_5.getD 18 undef)).bind fun x_24 => (asI .i64 (cs_5.getD 19 undef)).bind fun x_25 => (asI .i64 (cs_5.getD 20 undef)).bind fun x_26 => (asI .i64 (cs_5.getD 21 undef)).bind fun x_27 => (asI .i64 (cs_5.getD 22 undef)).bind fun x_28 => (asB (cs_5.getD 23 undef)).bind fun b_29 => (asI .i64 (cs_5.getD 24 undef)).bind fun x_30 => (asI .i64 (cs_5.getD 25 undef)).bind fun x_31 => (asS (cs_5.getD 26 undef)).bind fun s_32 => (asB (cs_5.getD 27 undef)).bind fun b_33 => (asB (cs_5.getD 28 undef)).bind fun b_34 => (asB (cs_5.getD 29 undef)).bind fun b_35 => (call 24 #[.pointer x6, .agg #[.bool b_6, .int .i64 x_7, .bool b_8, .bool b_9, .int .i64 x_10, .int .i64 x_11, .int .i64 x_12, .int .i64 x_13, .int .i64 x_14, .int .i64 x_15, .int .i64 x_16, .int .i64 x_17, .int .i64 x_18, .int .i64 x_19, .int .i64 x_20, .int .i64 x_21, .int .i64 x_22, .bool b_23, .int .i64 x_24, .int .i64 x_25, .int .i64 x_26, .int .i64 x_27, .int .i64 x_28, .bool b_29, .int .i64 x_30, .int .i64 x_31, .slice s_32.1 (s_32.2.1) (s_32.2.2), .bool b_33, .bool b_34, .bool b_35], .agg #[.int .i64 x_2, .int .i64 x_3]] r_4.2).bind fun r_36 => (asI .i64 r_36.1).bind fun x_37 => K #[g0,.pointer x1,g2,g3,g4,g5,.pointer x6,.int .i64 x_37,g8,g9,g10,g11,g12,g13,g14,g15,g16,g17,g18,g19,g20,g21,g22,g23,g24,.pointer x6,.agg #[.bool b_6, .int .i64 x_7, .bool b_8, .bool b_9, .int .i64 x_10, .int .i64 x_11, .int .i64 x_12, .int .i64 x_13, .int .i64 x_14, .int .i64 x_15, .int .i64 x_16, .int .i64 x_17, .int .i64 x_18, .int .i64 x_19, .int .i64 x_20, .int .i64 x_21, .int .i64 x_22, .bool b_23, .int .i64 x_24, .int .i64 x_25, .int .i64 x_26, .int .i64 x_27, .int .i64 x_28, .bool b_29, .int .i64 x_30, .int .i64 x_31, .slice s_32.1 (s_32.2.1) (s_32.2.2), .bool b_33, .bool b_34, .bool b_35],.agg #[.int .i64 x_2, .int .i64 x_3],.int .i64 x_37,g29,g30,g31,g32,g33,g34,g35,g36,g37,g38,g39,g40,g41,g42,g43,g44,g45,g46,g47,g48,g49,g50,g51,g52,g53,g54,g55,g56,g57,g58,g59,g60,g61,g62,g63,g64,g65,g66,g67,g68,g69,g70,g71,g72,g73,g74,g75,g76,g77,g78,g79] r_36.2 := by kernel_rfl
theorem k17_21 : P17 [1,1,1,1,1,1,1] = .seq (P17 [1,1,1,1,1,1,1,0]) (P17 [1,1,1,1,1,1,1,1]) := by kernel_rfl
theorem k17_22 : P17 [1,1,1,1,1,1,1,0] = .region 8 (O17 [1,1,1,1,1,1,1,0]) false := by kernel_rfl
theorem r17_8 {x6 : Option Addr} {M : Mem} {call : CallM} {K : Array Value → Mem → R} :
    opsK Try.prog (fun _ => call) (O17 [1,1,1,1,1,1,1,0]) (O17 [1,1,1,1,1,1,1,0]).toList 0 #[g0,g1,g2,g3,g4,g5,.pointer x6,g7,g8,g9,g10,g11,g12,g13,g14,g15,g16,g17,g18,g19,g20,g21,g22,g23,g24,g25,g26,g27,g28,g29,g30,g31,g32,g33,g34,g35,g36,g37,g38,g39,g40,g41,g42,g43,g44,g45,g46,g47,g48,g49,g50,g51,g52,g53,g54,g55,g56,g57,g58,g59,g60,g61,g62,g63,g64,g65,g66,g67,g68,g69,g70,g71,g72,g73,g74,g75,g76,g77,g78,g79] M K = (call 28 #[.pointer x6] M).bind fun r_1 => (asS r_1.1).bind fun s_2 => (call 31 #[.slice s_2.1 (s_2.2.1) (s_2.2.2)] r_1.2).bind fun r_3 => (asP r_3.1).bind fun p_4 => K #[g0,g1,g2,g3,g4,g5,.pointer x6,g7,.pointer p_4,g9,g10,g11,g12,g13,g14,g15,g16,g17,g18,g19,g20,g21,g22,g23,g24,g25,g26,g27,g28,.pointer x6,.slice s_2.1 (s_2.2.1) (s_2.2.2),.pointer p_4,g32,g33,g34,g35,g36,g37,g38,g39,g40,g41,g42,g43,g44,g45,g46,g47,g48,g49,g50,g51,g52,g53,g54,g55,g56,g57,g58,g59,g60,g61,g62,g63,g64,g65,g66,g67,g68,g69,g70,g71,g72,g73,g74,g75,g76,g77,g78,g79] r_3.2 := by kernel_rfl
theorem k17_23 : P17 [1,1,1,1,1,1,1,1] = .seq (P17 [1,1,1,1,1,1,1,1,0]) (P17 [1,1,1,1,1,1,1,1,1]) := by kernel_rfl
theorem k17_24 : P17 [1,1,1,1,1,1,1,1,0] = .seq (P17 [1,1,1,1,1,1,1,1,0,0]) (P17 [1,1,1,1,1,1,1,1,0,1]) := by kernel_rfl
theorem k17_25 : P17 [1,1,1,1,1,1,1,1,0,0] = .region 9 (O17 [1,1,1,1,1,1,1,1,0,0]) false := by kernel_rfl
theorem r17_9 {x8 : Option Addr} {M : Mem} {call : CallM} {K : Array Value → Mem → R} :
    opsK Try.prog (fun _ => call) (O17 [1,1,1,1,1,1,1,1,0,0]) (O17 [1,1,1,1,1,1,1,1,0,0]).toList 0 #[g0,g1,g2,g3,g4,g5,g6,g7,.pointer x8,g9,g10,g11,g12,g13,g14,g15,g16,g17,g18,g19,g20,g21,g22,g23,g24,g25,g26,g27,g28,g29,g30,g31,g32,g33,g34,g35,g36,g37,g38,g39,g40,g41,g42,g43,g44,g45,g46,g47,g48,g49,g50,g51,g52,g53,g54,g55,g56,g57,g58,g59,g60,g61,g62,g63,g64,g65,g66,g67,g68,g69,g70,g71,g72,g73,g74,g75,g76,g77,g78,g79] M K = K #[g0,g1,g2,g3,g4,g5,g6,g7,.pointer x8,g9,g10,g11,g12,g13,g14,g15,g16,g17,g18,g19,g20,g21,g22,g23,g24,g25,g26,g27,g28,g29,g30,g31,.pointer x8,.bool x8.isNone,g34,g35,g36,g37,g38,g39,g40,g41,g42,g43,g44,g45,g46,g47,g48,g49,g50,g51,g52,g53,g54,g55,g56,g57,g58,g59,g60,g61,g62,g63,g64,g65,g66,g67,g68,g69,g70,g71,g72,g73,g74,g75,g76,g77,g78,g79] M := by kernel_rfl
theorem c17_26 : P17 [1,1,1,1,1,1,1,1,0,1] = .cond (.tmp 33) (P17 [1,1,1,1,1,1,1,1,0,1,0]) (P17 [1,1,1,1,1,1,1,1,0,1,1]) := by kernel_rfl
theorem k17_27 : P17 [1,1,1,1,1,1,1,1,0,1,0] = .seq (P17 [1,1,1,1,1,1,1,1,0,1,0,0]) (P17 [1,1,1,1,1,1,1,1,0,1,0,1]) := by kernel_rfl
theorem k17_28 : P17 [1,1,1,1,1,1,1,1,0,1,0,0] = .region 10 (O17 [1,1,1,1,1,1,1,1,0,1,0,0]) false := by kernel_rfl
theorem r17_10 {M : Mem} {call : CallM} {K : Array Value → Mem → R} :
    opsK Try.prog (fun _ => call) (O17 [1,1,1,1,1,1,1,1,0,1,0,0]) (O17 [1,1,1,1,1,1,1,1,0,1,0,0]).toList 0 #[g0,g1,g2,g3,g4,g5,g6,g7,g8,g9,g10,g11,g12,g13,g14,g15,g16,g17,g18,g19,g20,g21,g22,g23,g24,g25,g26,g27,g28,g29,g30,g31,g32,g33,g34,g35,g36,g37,g38,g39,g40,g41,g42,g43,g44,g45,g46,g47,g48,g49,g50,g51,g52,g53,g54,g55,g56,g57,g58,g59,g60,g61,g62,g63,g64,g65,g66,g67,g68,g69,g70,g71,g72,g73,g74,g75,g76,g77,g78,g79] M K = K #[.bool false,g1,g2,g3,g4,g5,g6,g7,g8,g9,g10,g11,g12,g13,g14,g15,g16,g17,g18,g19,g20,g21,g22,g23,g24,g25,g26,g27,g28,g29,g30,g31,g32,g33,g34,g35,g36,g37,g38,g39,g40,g41,g42,g43,g44,g45,g46,g47,g48,g49,g50,g51,g52,g53,g54,g55,g56,g57,g58,g59,g60,g61,g62,g63,g64,g65,g66,g67,g68,g69,g70,g71,g72,g73,g74,g75,g76,g77,g78,g79] M := by kernel_rfl
theorem k17_29 : P17 [1,1,1,1,1,1,1,1,0,1,0,1] = .ret := by kernel_rfl
theorem k17_30 : P17 [1,1,1,1,1,1,1,1,0,1,1] = .skip := by kernel_rfl
theorem k17_31 : P17 [1,1,1,1,1,1,1,1,1] = .seq (P17 [1,1,1,1,1,1,1,1,1,0]) (P17 [1,1,1,1,1,1,1,1,1,1]) := by kernel_rfl
theorem k17_32 : P17 [1,1,1,1,1,1,1,1,1,0] = .region 11 (O17 [1,1,1,1,1,1,1,1,1,0]) false := by kernel_rfl
theorem r17_11 {x1 x8 : Option Addr} {M : Mem} {call : CallM} {K : Array Value → Mem → R} :
    opsK Try.prog (fun _ => call) (O17 [1,1,1,1,1,1,1,1,1,0]) (O17 [1,1,1,1,1,1,1,1,1,0]).toList 0 #[g0,.pointer x1,g2,g3,g4,g5,g6,g7,.pointer x8,g9,g10,g11,g12,g13,g14,g15,g16,g17,g18,g19,g20,g21,g22,g23,g24,g25,g26,g27,g28,g29,g30,g31,g32,g33,g34,g35,g36,g37,g38,g39,g40,g41,g42,g43,g44,g45,g46,g47,g48,g49,g50,g51,g52,g53,g54,g55,g56,g57,g58,g59,g60,g61,g62,g63,g64,g65,g66,g67,g68,g69,g70,g71,g72,g73,g74,g75,g76,g77,g78,g79] M K = (x1).bind fun a_1 => (M.intAt .i64 a_1.block a_1.off).bind fun x_2 => (M.intAt .i64 a_1.block (a_1.off + 1)).bind fun x_3 => (call 35 #[.pointer x8, .agg #[.int .i64 x_2, .int .i64 x_3]] M).bind fun r_4 => (asU 2 r_4.1).bind fun cs_5 => (asA 30 (cs_5.getD 0 undef)).bind fun cs_6 => (asB (cs_6.getD 0 undef)).bind fun b_7 => (asI .i64 (cs_6.getD 1 undef)).bind fun x_8 => (asB (cs_6.getD 2 undef)).bind fun b_9 => (asB (cs_6.getD 3 undef)).bind fun b_10 => (asI .i64 (cs_6.getD 4 undef)).bind fun x_11 => (asI .i64 (cs_6.getD 5 undef)).bind fun x_12 => (asI .i64 (cs_6.getD 6 undef)).bind fun x_13 => (asI .i64 (cs_6.getD 7 undef)).bind fun x_14 => (asI .i64 (cs_6.getD 8 undef)).bind fun x_15 => (asI .i64 (cs_6.getD 9 undef)).bind fun x_16 => (asI .i64 (cs_6.getD 10 undef)).bind fun x_17 => (asI .i64 (cs_6.getD 11 undef)).bind fun x_18 => (asI .i64 (cs_6.getD 12 undef)).bind fun x_19 => (asI .i64 (cs_6.getD 13 undef)).bind fun x_20 => (asI .i64 (cs_6.getD 14 undef)).bind fun x_21 => (asI .i64 (cs_6.getD 15 undef)).bind fun x_22 => (asI .i64 (cs_6.getD 16 undef)).bind fun x_23 => (asB (cs_6.getD 17 undef)).bind fun b_24 => (asI .i64 (cs_6.getD 18 undef)).bind fun x_25 => (asI .i64 (cs_6.getD 19 undef)).bind fun x_26 => (asI .i64 (cs_6.getD 20 undef)).bind fun x_27 => (asI .i64 (cs_6.getD 21 undef)).bind fun x_28 => (asI .i64 (cs_6.getD 22 undef)).bind fun x_29 => (asB (cs_6.getD 23 undef)).bind fun b_30 => (asI .i64 (cs_6.getD 24 undef)).bind fun x_31 => (asI .i64 (cs_6.getD 25 undef)).bind fun x_32 => (asS (cs_6.getD 26 undef)).bind fun s_33 => (asB (cs_6.getD 27 undef)).bind fun b_34 => (asB (cs_6.getD 28 undef)).bind fun b_35 => (asB (cs_6.getD 29 undef)).bind fun b_36 => (asI .i64 (cs_5.getD 1 undef)).bind fun x_37 => ((r_4.2.new (.cells #[.bool false, .int .i64 0, .bool false, .bool false, .int .i64 0, .int .i64 0, .int .i64 0, .int .i64 0, .int .i64 0, .int .i64 0, .int .i64 0, .int .i64 0, .int .i64 0, .int .i64 0, .int .i64 0, .int .i64 0, .int .i64 0, .bool false, .int .i64 0, .int .i64 0, .int .i64 0, .int .i64 0, .int .i64 0, .bool false, .int .i64 0, .int .i64 0, .slice none 0 0, .bool false, .bool false, .bool false] 41)).put (2 * r_4.2.nb.size) 0 (.bool b_7)).bind fun M_38 => (M_38.put (2 * r_4.2.nb.size) 1 (.int .i64 x_8)).bind fun M_39 => (M_39.put (2 * r_4.2.nb.size) 2 (.bool b_9)).bind fun M_40 => (M_40.put (2 * r_4.2.nb.size) 3 (.bool b_10)).bind fun M_41 => (M_41.put (2 * r_4.2.nb.size) 4 (.int .i64 x_11)).bind fun M_42 => (M_42.put (2 * r_4.2.nb.size) 5 (.int .i64 x_12)).bind fun M_43 => (M_43.put (2 * r_4.2.nb.size) 6 (.int .i64 x_13)).bind fun M_44 => (M_44.put (2 * r_4.2.nb.size) 7 (.int .i64 x_14)).bind fun M_45 => (M_45.put (2 * r_4.2.nb.size) 8 (.int .i64 x_15)).bind fun M_46 => (M_46.put (2 * r_4.2.nb.size) 9 (.int .i64 x_16)).bind fun M_47 => (M_47.put (2 * r_4.2.nb.size) 10 (.int .i64 x_17)).bind fun M_48 => (M_48.put (2 * r_4.2.nb.size) 11 (.int .i64 x_18)).bind fun M_49 => (M_49.put (2 * r_4.2.nb.size) 12 (.int .i64 x_19)).bind fun M_50 => (M_50.put (2 * r_4.2.nb.size) 13 (.int .i64 x_20)).bind fun M_51 => (M_51.put (2 * r_4.2.nb.size) 14 (.int .i64 x_21)).bind fun M_52 => (M_52.put (2 * r_4.2.nb.size) 15 (.int .i64 x_22)).bind fun M_53 => (M_53.put (2 * r_4.2.nb.size) 16 (.int .i64 x_23)).bind fun M_54 => (M_54.put (2 * r_4.2.nb.size) 17 (.bool b_24)).bind fun M_55 => (M_55.put (2 * r_4.2.nb.size) 18 (.int .i64 x_25)).bind fun M_56 => (M_56.put (2 * r_4.2.nb.size) 19 (.int .i64 x_26)).bind fun M_57 => (M_57.put (2 * r_4.2.nb.size) 20 (.int .i64 x_27)).bind fun M_58 => (M_58.put (2 * r_4.2.nb.size) 21 (.int .i64 x_28)).bind fun M_59 => (M_59.put (2 * r_4.2.nb.size) 22 (.int .i64 x_29)).bind fun M_60 => (M_60.put (2 * r_4.2.nb.size) 23 (.bool b_30)).bind fun M_61 => (M_61.put (2 * r_4.2.nb.size) 24 (.int .i64 x_31)).bind fun M_62 => (M_62.put (2 * r_4.2.nb.size) 25 (.int .i64 x_32)).bind fun M_63 => (M_63.put (2 * r_4.2.nb.size) 26 (.slice s_33.1 (s_33.2.1) (s_33.2.2))).bind fun M_64 => (M_64.put (2 * r_4.2.nb.size) 27 (.bool b_34)).bind fun M_65 => (M_65.put (2 * r_4.2.nb.size) 28 (.bool b_35)).bind fun M_66 => (M_66.put (2 * r_4.2.nb.size) 29 (.bool b_36)).bind fun M_67 => K #[g0,.pointer x1,g2,g3,g4,g5,g6,g7,.pointer x8,.pointer (some ⟨2 * r_4.2.nb.size, 0, none⟩),.int .i64 x_37,g11,g12,g13,g14,g15,g16,g17,g18,g19,g20,g21,g22,g23,g24,g25,g26,g27,g28,g29,g30,g31,g32,g33,.tuple #[.agg #[.bool b_7, .int .i64 x_8, .bool b_9, .bool b_10, .int .i64 x_11, .int .i64 x_12, .int .i64 x_13, .int .i64 x_14, .int .i64 x_15, .int .i64 x_16, .int .i64 x_17, .int .i64 x_18, .int .i64 x_19, .int .i64 x_20, .int .i64 x_21, .int .i64 x_22, .int .i64 x_23, .bool b_24, .int .i64 x_25, .int .i64 x_26, .int .i64 x_27, .int .i64 x_28, .int .i64 x_29, .bool b_30, .int .i64 x_31, .int .i64 x_32, .slice s_33.1 (s_33.2.1) (s_33.2.2), .bool b_34, .bool b_35, .bool b_36], .int .i64 x_37],.pointer x8,.agg #[.int .i64 x_2, .int .i64 x_3],.tuple #[.agg #[.bool b_7, .int .i64 x_8, .bool b_9, .bool b_10, .int .i64 x_11, .int .i64 x_12, .int .i64 x_13, .int .i64 x_14, .int .i64 x_15, .int .i64 x_16, .int .i64 x_17, .int .i64 x_18, .int .i64 x_19, .int .i64 x_20, .int .i64 x_21, .int .i64 x_22, .int .i64 x_23, .bool b_24, .int .i64 x_25, .int .i64 x_26, .int .i64 x_27, .int .i64 x_28, .int .i64 x_29, .bool b_30, .int .i64 x_31, .int .i64 x_32, .slice s_33.1 (s_33.2.1) (s_33.2.2), .bool b_34, .bool b_35, .bool b_36], .int .i64 x_37],.agg #[.bool b_7, .int .i64 x_8, .bool b_9, .bool b_10, .int .i64 x_11, .int .i64 x_12, .int .i64 x_13, .int .i64 x_14, .int .i64 x_15, .int .i64 x_16, .int .i64 x_17, .int .i64 x_18, .int .i64 x_19, .int .i64 x_20, .int .i64 x_21, .int .i64 x_22, .int .i64 x_23, .bool b_24, .int .i64 x_25, .int .i64 x_26, .int .i64 x_27, .int .i64 x_28, .int .i64 x_29, .bool b_30, .int .i64 x_31, .int .i64 x_32, .slice s_33.1 (s_33.2.1) (s_33.2.2), .bool b_34, .bool b_35, .bool b_36],.int .i64 x_37,g40,g41,g42,g43,g44,g45,g46,g47,g48,g49,g50,g51,g52,g53,g54,g55,g56,g57,g58,g59,g60,g61,g62,g63,g64,g65,g66,g67,g68,g69,g70,g71,g72,g73,g74,g75,g76,g77,g78,g79] M_67 := by kernel_rfl
theorem k17_33 : P17 [1,1,1,1,1,1,1,1,1,1] = .seq (P17 [1,1,1,1,1,1,1,1,1,1,0]) (P17 [1,1,1,1,1,1,1,1,1,1,1]) := by kernel_rfl
theorem k17_34 : P17 [1,1,1,1,1,1,1,1,1,1,0] = .region 12 (O17 [1,1,1,1,1,1,1,1,1,1,0]) true ∧ drawOk (O17 [1,1,1,1,1,1,1,1,1,1,0]) = false ∧ drawJ (O17 [1,1,1,1,1,1,1,1,1,1,0]) = true := ⟨by kernel_rfl, by kernel_rfl, by kernel_rfl⟩
theorem r17_12 {x1 Ax2 : Option Addr} {lx2 cx2 : Nat} {x3 : Int} {x4 : Option Addr} {x5 : Int} {x6 : Option Addr} {x7 : Int} {x8 x9 : Option Addr} {x10 : Int} {M : Mem} {call : CallM} {K : Array Value → Mem → R} :
    opsJ Try.prog (callAt call (O17 [1,1,1,1,1,1,1,1,1,1,0])) (O17 [1,1,1,1,1,1,1,1,1,1,0]) M.nb.size (ordJ (O17 [1,1,1,1,1,1,1,1,1,1,0])) [] #[g0,.pointer x1,.slice Ax2 lx2 cx2,.int .i64 x3,.pointer x4,.int .i64 x5,.pointer x6,.int .i64 x7,.pointer x8,.pointer x9,.int .i64 x10,g11,g12,g13,g14,g15,g16,g17,g18,g19,g20,g21,g22,g23,g24,g25,g26,g27,g28,g29,g30,g31,g32,g33,g34,g35,g36,g37,g38,g39,g40,g41,g42,g43,g44,g45,g46,g47,g48,g49,g50,g51,g52,g53,g54,g55,g56,g57,g58,g59,g60,g61,g62,g63,g64,g65,g66,g67,g68,g69,g70,g71,g72,g73,g74,g75,g76,g77,g78,g79] (M.res (slots (O17 [1,1,1,1,1,1,1,1,1,1,0]))) K = withK (fun w0 w42 w43 w44 w45 w46 w47 w48 w49 w50 w51 w52 w53 w54 w55 w56 w57 w58 w59 w60 w61 w62 w63 w64 w65 w66 w67 w68 w69 w70 w71 w72 w73 w74 w75 w76 w77 w78 w79 M => K #[w0,.pointer x1,.slice Ax2 lx2 cx2,.int .i64 x3,.pointer x4,.int .i64 x5,.pointer x6,.int .i64 x7,.pointer x8,.pointer x9,.int .i64 x10,g11,g12,g13,g14,g15,g16,g17,g18,g19,g20,g21,g22,g23,g24,g25,g26,g27,g28,g29,g30,g31,g32,g33,g34,g35,g36,g37,g38,g39,.int .i64 x3,.bool (x3 == 0),w42,w43,w44,w45,w46,w47,w48,w49,w50,w51,w52,w53,w54,w55,w56,w57,w58,w59,w60,w61,w62,w63,w64,w65,w66,w67,w68,w69,w70,w71,w72,w73,w74,w75,w76,w77,w78,w79] M) fun k => cond (x3 == 0) (cond (x5 == 0) ((x4).bind fun a_1 => ((M.res 2).intAt .i64 a_1.block a_1.off).bind fun x_2 => ((M.res 2).intAt .i64 a_1.block (a_1.off + 1)).bind fun x_3 => (x1).bind fun a_4 => ((M.res 2).intAt .i64 a_4.block a_4.off).bind fun x_5 => ((M.res 2).intAt .i64 a_4.block (a_4.off + 1)).bind fun x_6 => (binV Try.prog .eql 23 23 (.agg #[.int .i64 x_2, .int .i64 x_3]) (.agg #[.int .i64 x_5, .int .i64 x_6])).bind fun v_7 => (asB v_7).bind fun b_8 => cond b_8 ((call 16 #[.slice Ax2 lx2 cx2, .slice (some ⟨2 * (M.nb.size + 0), 0, none⟩) 2 2] ((M.res 2).upd (M.nb.size + 0) (.cells #[.int .u8 48, .int .u8 32] 5))).bind fun r_9 => (asB r_9.1).bind fun b_10 => cond b_10 (cond (x7 == 0) ((call 28 #[.pointer x6] r_9.2).bind fun r_11 => (asS r_11.1).bind fun s_12 => (call 16 #[.slice s_12.1 (s_12.2.1) (s_12.2.2), .slice (some ⟨2 * (M.nb.size + 1), 0, none⟩) 4 4] (r_11.2.upd (M.nb.size + 1) (.cells #[.int .u8 127, .int .u8 224, .int .u8 0, .int .u8 0] 5))).bind fun r_13 => (asB r_13.1).bind fun b_14 => cond b_14 (cond (x10 == 0) ((x9).bind fun a_15 => (r_13.2.boolAt a_15.block a_15.off).bind fun b_16 => (r_13.2.intAt .i64 a_15.block (a_15.off + 1)).bind fun x_17 => (r_13.2.boolAt a_15.block (a_15.off + 2)).bind fun b_18 => (r_13.2.boolAt a_15.block (a_15.off + 3)).bind fun b_19 => (r_13.2.intAt .i64 a_15.block (a_15.off + 4)).bind fun x_20 => (r_13.2.intAt .i64 a_15.block (a_15.off + 5)).bind fun x_21 => (r_13.2.intAt .i64 a_15.block (a_15.off + 6)).bind fun x_22 => (r_13.2.intAt .i64 a_15.block (a_15.off + 7)).bind fun x_23 => (r_13.2.intAt .i64 a_15.block (a_15.off + 8)).bind fun x_24 => (r_13.2.intAt .i64 a_15.block (a_15.off + 9)).bind fun x_25 => (r_13.2.intAt .i64 a_15.block (a_15.off + 10)).bind fun x_26 => (r_13.2.intAt .i64 a_15.block (a_15.off + 11)).bind fun x_27 => (r_13.2.intAt .i64 a_15.block (a_15.off + 12)).bind fun x_28 => (r_13.2.intAt .i64 a_15.block (a_15.off + 13)).bind fun x_29 => (r_13.2.intAt .i64 a_15.block (a_15.off + 14)).bind fun x_30 => (r_13.2.intAt .i64 a_15.block (a_15.off + 15)).bind fun x_31 => (r_13.2.intAt .i64 a_15.block (a_15.off + 16)).bind fun x_32 => (r_13.2.boolAt a_15.block (a_15.off + 17)).bind fun b_33 => (r_13.2.intAt .i64 a_15.block (a_15.off + 18)).bind fun x_34 => (r_13.2.intAt .i64 a_15.block (a_15.off + 19)).bind fun x_35 => (r_13.2.intAt .i64 a_15.block (a_15.off + 20)).bind fun x_36 => (r_13.2.intAt .i64 a_15.block (a_15.off + 21)).bind fun x_37 => (r_13.2.intAt .i64 a_15.block (a_15.off + 22)).bind fun x_38 => (r_13.2.boolAt a_15.block (a_15.off + 23)).bind fun b_39 => (r_13.2.intAt .i64 a_15.block (a_15.off + 24)).bind fun x_40 => (r_13.2.intAt .i64 a_15.block (a_15.off + 25)).bind fun x_41 => (r_13.2.slAt a_15.block (a_15.off + 26)).bind fun s_42 => (r_13.2.boolAt a_15.block (a_15.off + 27)).bind fun b_43 => (r_13.2.boolAt a_15.block (a_15.off + 28)).bind fun b_44 => (r_13.2.boolAt a_15.block (a_15.off + 29)).bind fun b_45 => (floored call 41 #[] r_13.2).bind fun r_46 => (asA 30 r_46.1).bind fun cs_47 => (asB (cs_47.getD 0 undef)).bind fun b_48 => (asI .i64 (cs_47.getD 1 undef)).bind fun x_49 => (asB (cs_47.getD 2 undef)).bind fun b_50 => (asB (cs_47.getD 3 undef)).bind fun b_51 => (asI .i64 (cs_47.getD 4 undef)).bind fun x_52 => (asI .i64 (cs_47.getD 5 undef)).bind fun x_53 => (asI .i64 (cs_47.getD 6 undef)).bind fun x_54 => (asI .i64 (cs_47.getD 7 undef)).bind fun x_55 => (asI .i64 (cs_47.getD 8 undef)).bind fun x_56 => (asI .i64 (cs_47.getD 9 undef)).bind fun x_57 => (asI .i64 (cs_47.getD 10 undef)).bind fun x_58 => (asI .i64 (cs_47.getD 11 undef)).bind fun x_59 => (asI .i64 (cs_47.getD 12 undef)).bind fun x_60 => (asI .i64 (cs_47.getD 13 undef)).bind fun x_61 => (asI .i64 (cs_47.getD 14 undef)).bind fun x_62 => (asI .i64 (cs_47.getD 15 undef)).bind fun x_63 => (asI .i64 (cs_47.getD 16 undef)).bind fun x_64 => (asB (cs_47.getD 17 undef)).bind fun b_65 => (asI .i64 (cs_47.getD 18 undef)).bind fun x_66 => (asI .i64 (cs_47.getD 19 undef)).bind fun x_67 => (asI .i64 (cs_47.getD 20 undef)).bind fun x_68 => (asI .i64 (cs_47.getD 21 undef)).bind fun x_69 => (asI .i64 (cs_47.getD 22 undef)).bind fun x_70 => (asB (cs_47.getD 23 undef)).bind fun b_71 => (asI .i64 (cs_47.getD 24 undef)).bind fun x_72 => (asI .i64 (cs_47.getD 25 undef)).bind fun x_73 => (asS (cs_47.getD 26 undef)).bind fun s_74 => (asB (cs_47.getD 27 undef)).bind fun b_75 => (asB (cs_47.getD 28 undef)).bind fun b_76 => (asB (cs_47.getD 29 undef)).bind fun b_77 => (call 39 #[.agg #[.bool b_16, .int .i64 x_17, .bool b_18, .bool b_19, .int .i64 x_20, .int .i64 x_21, .int .i64 x_22, .int .i64 x_23, .int .i64 x_24, .int .i64 x_25, .int .i64 x_26, .int .i64 x_27, .int .i64 x_28, .int .i64 x_29, .int .i64 x_30, .int .i64 x_31, .int .i64 x_32, .bool b_33, .int .i64 x_34, .int .i64 x_35, .int .i64 x_36, .int .i64 x_37, .int .i64 x_38, .bool b_39, .int .i64 x_40, .int .i64 x_41, .slice s_42.1 (s_42.2.1) (s_42.2.2), .bool b_43, .bool b_44, .bool b_45], .agg #[.bool b_48, .int .i64 x_49, .bool b_50, .bool b_51, .int .i64 x_52, .int .i64 x_53, .int .i64 x_54, .int .i64 x_55, .int .i64 x_56, .int .i64 x_57, .int .i64 x_58, .int .i64 x_59, .int .i64 x_60, .int .i64 x_61, .int .i64 x_62, .int .i64 x_63, .int .i64 x_64, .bool b_65, .int .i64 x_66, .int .i64 x_67, .int .i64 x_68, .int .i64 x_69, .int .i64 x_70, .bool b_71, .int .i64 x_72, .int .i64 x_73, .slice s_74.1 (s_74.2.1) (s_74.2.2), .bool b_75, .bool b_76, .bool b_77]] r_46.2).bind fun r_78 => (asB r_78.1).bind fun b_79 => cond b_79 ((call 37 #[.pointer x8] r_78.2).bind fun r_80 => (asI .i64 r_80.1).bind fun x_81 => k (.bool (x_81 == 3)) (.bool true) (.int .i64 x5) (.bool (x5 == 0)) (.bool (x5 == 0)) (.bool true) (.agg #[.int .i64 x_2, .int .i64 x_3]) (.agg #[.int .i64 x_5, .int .i64 x_6]) (.bool b_8) (.bool b_8) (.bool true) (.slice Ax2 lx2 cx2) (.slice (some ⟨2 * (M.nb.size + 0), 0, none⟩) 2 2) (.bool b_10) (.bool b_10) (.bool true) (.int .i64 x7) (.bool (x7 == 0)) (.bool (x7 == 0)) (.bool true) (.pointer x6) (.slice s_12.1 (s_12.2.1) (s_12.2.2)) (.slice (some ⟨2 * (M.nb.size + 1), 0, none⟩) 4 4) (.bool b_14) (.bool b_14) (.bool true) (.int .i64 x10) (.bool (x10 == 0)) (.bool (x10 == 0)) (.bool true) (.agg #[.bool b_16, .int .i64 x_17, .bool b_18, .bool b_19, .int .i64 x_20, .int .i64 x_21, .int .i64 x_22, .int .i64 x_23, .int .i64 x_24, .int .i64 x_25, .int .i64 x_26, .int .i64 x_27, .int .i64 x_28, .int .i64 x_29, .int .i64 x_30, .int .i64 x_31, .int .i64 x_32, .bool b_33, .int .i64 x_34, .int .i64 x_35, .int .i64 x_36, .int .i64 x_37, .int .i64 x_38, .bool b_39, .int .i64 x_40, .int .i64 x_41, .slice s_42.1 (s_42.2.1) (s_42.2.2), .bool b_43, .bool b_44, .bool b_45]) (.agg #[.bool b_48, .int .i64 x_49, .bool b_50, .bool b_51, .int .i64 x_52, .int .i64 x_53, .int .i64 x_54, .int .i64 x_55, .int .i64 x_56, .int .i64 x_57, .int .i64 x_58, .int .i64 x_59, .int .i64 x_60, .int .i64 x_61, .int .i64 x_62, .int .i64 x_63, .int .i64 x_64, .bool b_65, .int .i64 x_66, .int .i64 x_67, .int .i64 x_68, .int .i64 x_69, .int .i64 x_70, .bool b_71, .int .i64 x_72, .int .i64 x_73, .slice s_74.1 (s_74.2.1) (s_74.2.2), .bool b_75, .bool b_76, .bool b_77]) (.bool b_79) (.bool b_79) (.bool true) (.pointer x8) (.int .i64 x_81) (.bool (x_81 == 3)) (.bool (x_81 == 3)) r_80.2) (k (.bool false) (.bool true) (.int .i64 x5) (.bool (x5 == 0)) (.bool (x5 == 0)) (.bool true) (.agg #[.int .i64 x_2, .int .i64 x_3]) (.agg #[.int .i64 x_5, .int .i64 x_6]) (.bool b_8) (.bool b_8) (.bool true) (.slice Ax2 lx2 cx2) (.slice (some ⟨2 * (M.nb.size + 0), 0, none⟩) 2 2) (.bool b_10) (.bool b_10) (.bool true) (.int .i64 x7) (.bool (x7 == 0)) (.bool (x7 == 0)) (.bool true) (.pointer x6) (.slice s_12.1 (s_12.2.1) (s_12.2.2)) (.slice (some ⟨2 * (M.nb.size + 1), 0, none⟩) 4 4) (.bool b_14) (.bool b_14) (.bool true) (.int .i64 x10) (.bool (x10 == 0)) (.bool (x10 == 0)) (.bool true) (.agg #[.bool b_16, .int .i64 x_17, .bool b_18, .bool b_19, .int .i64 x_20, .int .i64 x_21, .int .i64 x_22, .int .i64 x_23, .int .i64 x_24, .int .i64 x_25, .int .i64 x_26, .int .i64 x_27, .int .i64 x_28, .int .i64 x_29, .int .i64 x_30, .int .i64 x_31, .int .i64 x_32, .bool b_33, .int .i64 x_34, .int .i64 x_35, .int .i64 x_36, .int .i64 x_37, .int .i64 x_38, .bool b_39, .int .i64 x_40, .int .i64 x_41, .slice s_42.1 (s_42.2.1) (s_42.2.2), .bool b_43, .bool b_44, .bool b_45]) (.agg #[.bool b_48, .int .i64 x_49, .bool b_50, .bool b_51, .int .i64 x_52, .int .i64 x_53, .int .i64 x_54, .int .i64 x_55, .int .i64 x_56, .int .i64 x_57, .int .i64 x_58, .int .i64 x_59, .int .i64 x_60, .int .i64 x_61, .int .i64 x_62, .int .i64 x_63, .int .i64 x_64, .bool b_65, .int .i64 x_66, .int .i64 x_67, .int .i64 x_68, .int .i64 x_69, .int .i64 x_70, .bool b_71, .int .i64 x_72, .int .i64 x_73, .slice s_74.1 (s_74.2.1) (s_74.2.2), .bool b_75, .bool b_76, .bool b_77]) (.bool b_79) (.bool b_79) (.bool false) undef undef undef (.bool false) r_78.2)) (k (.bool false) (.bool true) (.int .i64 x5) (.bool (x5 == 0)) (.bool (x5 == 0)) (.bool true) (.agg #[.int .i64 x_2, .int .i64 x_3]) (.agg #[.int .i64 x_5, .int .i64 x_6]) (.bool b_8) (.bool b_8) (.bool true) (.slice Ax2 lx2 cx2) (.slice (some ⟨2 * (M.nb.size + 0), 0, none⟩) 2 2) (.bool b_10) (.bool b_10) (.bool true) (.int .i64 x7) (.bool (x7 == 0)) (.bool (x7 == 0)) (.bool true) (.pointer x6) (.slice s_12.1 (s_12.2.1) (s_12.2.2)) (.slice (some ⟨2 * (M.nb.size + 1), 0, none⟩) 4 4) (.bool b_14) (.bool b_14) (.bool true) (.int .i64 x10) (.bool (x10 == 0)) (.bool (x10 == 0)) (.bool false) undef undef undef (.bool false) (.bool false) undef undef undef (.bool false) r_13.2)) (k (.bool false) (.bool true) (.int .i64 x5) (.bool (x5 == 0)) (.bool (x5 == 0)) (.bool true) (.agg #[.int .i64 x_2, .int .i64 x_3]) (.agg #[.int .i64 x_5, .int .i64 x_6]) (.bool b_8) (.bool b_8) (.bool true) (.slice Ax2 lx2 cx2) (.slice (some ⟨2 * (M.nb.size + 0), 0, none⟩) 2 2) (.bool b_10) (.bool b_10) (.bool true) (.int .i64 x7) (.bool (x7 == 0)) (.bool (x7 == 0)) (.bool true) (.pointer x6) (.slice s_12.1 (s_12.2.1) (s_12.2.2)) (.slice (some ⟨2 * (M.nb.size + 1), 0, none⟩) 4 4) (.bool b_14) (.bool b_14) (.bool false) undef undef (.bool false) (.bool false) undef undef undef (.bool false) (.bool false) undef undef undef (.bool false) r_13.2)) (k (.bool false) (.bool true) (.int .i64 x5) (.bool (x5 == 0)) (.bool (x5 == 0)) (.bool true) (.agg #[.int .i64 x_2, .int .i64 x_3]) (.agg #[.int .i64 x_5, .int .i64 x_6]) (.bool b_8) (.bool b_8) (.bool true) (.slice Ax2 lx2 cx2) (.slice (some ⟨2 * (M.nb.size + 0), 0, none⟩) 2 2) (.bool b_10) (.bool b_10) (.bool true) (.int .i64 x7) (.bool (x7 == 0)) (.bool (x7 == 0)) (.bool false) undef undef undef undef (.bool false) (.bool false) undef undef (.bool false) (.bool false) undef undef undef (.bool false) (.bool false) undef undef undef (.bool false) r_9.2)) (k (.bool false) (.bool true) (.int .i64 x5) (.bool (x5 == 0)) (.bool (x5 == 0)) (.bool true) (.agg #[.int .i64 x_2, .int .i64 x_3]) (.agg #[.int .i64 x_5, .int .i64 x_6]) (.bool b_8) (.bool b_8) (.bool true) (.slice Ax2 lx2 cx2) (.slice (some ⟨2 * (M.nb.size + 0), 0, none⟩) 2 2) (.bool b_10) (.bool b_10) (.bool false) undef undef (.bool false) (.bool false) undef undef undef undef (.bool false) (.bool false) undef undef (.bool false) (.bool false) undef undef undef (.bool false) (.bool false) undef undef undef (.bool false) r_9.2)) (k (.bool false) (.bool true) (.int .i64 x5) (.bool (x5 == 0)) (.bool (x5 == 0)) (.bool true) (.agg #[.int .i64 x_2, .int .i64 x_3]) (.agg #[.int .i64 x_5, .int .i64 x_6]) (.bool b_8) (.bool b_8) (.bool false) undef undef undef (.bool false) (.bool false) undef undef (.bool false) (.bool false) undef undef undef undef (.bool false) (.bool false) undef undef (.bool false) (.bool false) undef undef undef (.bool false) (.bool false) undef undef undef (.bool false) (M.res 2))) (k (.bool false) (.bool true) (.int .i64 x5) (.bool (x5 == 0)) (.bool (x5 == 0)) (.bool false) undef undef undef (.bool false) (.bool false) undef undef undef (.bool false) (.bool false) undef undef (.bool false) (.bool false) undef undef undef undef (.bool false) (.bool false) undef undef (.bool false) (.bool false) undef undef undef (.bool false) (.bool false) undef undef undef (.bool false) (M.res 2))) (k (.bool false) (.bool false) undef undef (.bool false) (.bool false) undef undef undef (.bool false) (.bool false) undef undef undef (.bool false) (.bool false) undef undef (.bool false) (.bool false) undef undef undef undef (.bool false) (.bool false) undef undef (.bool false) (.bool false) undef undef undef (.bool false) (.bool false) undef undef undef (.bool false) (M.res 2)) := by kernel_rfl
theorem k17_35 : P17 [1,1,1,1,1,1,1,1,1,1,1] = .ret := by kernel_rfl
theorem w17_0 {M : Mem} {Q : Value → Mem → Prop} (H :
    ∃ M1', (M.new (.cells #[.int .i64 0, .int .i64 0] 23)).put (2 * M.nb.size) 0 (.int .i64 64) = some M1' ∧
    ∃ M2', M1'.put (2 * M.nb.size) 1 (.int .i64 32) = some M2' ∧
    ∃ x3', M2'.intAt .i64 (2 * M.nb.size) 0 = some x3' ∧
    ∃ x4', M2'.intAt .i64 (2 * M.nb.size) (0 + 1) = some x4' ∧
    Cn Try.prog 10 #[.agg #[.int .i64 x3', .int .i64 x4']] M2' fun v5' N5' =>
     ∃ cs6', asU 2 v5' = some cs6' ∧
     ∃ s7', asS (cs6'.getD 0 undef) = some s7' ∧
     ∃ x8', asI .i64 (cs6'.getD 1 undef) = some x8' ∧
     Cn Try.prog 12 #[.slice s7'.1 s7'.2.1 s7'.2.2] N5' fun v9' N9' =>
      ∃ cs10', asU 2 v9' = some cs10' ∧
      ∃ cs11', asA 2 (cs10'.getD 0 undef) = some cs11' ∧
      ∃ x12', asI .i64 (cs11'.getD 0 undef) = some x12' ∧
      ∃ x13', asI .i64 (cs11'.getD 1 undef) = some x13' ∧
      ∃ x14', asI .i64 (cs10'.getD 1 undef) = some x14' ∧
      ∃ M15', (N9'.new (.cells #[.int .i64 0, .int .i64 0] 23)).put (2 * N9'.nb.size) 0 (.int .i64 x12') = some M15' ∧
      ∃ M16', M15'.put (2 * N9'.nb.size) 1 (.int .i64 x13') = some M16' ∧
      Cn Try.prog 19 #[] M16' fun v17' N17' =>
       ∃ p18', asP v17' = some p18' ∧
       ((p18'.isNone = true →
        Q (.bool false) N17') ∧
        (p18'.isNone = false →
        ∃ x19', N17'.intAt .i64 (2 * M.nb.size) 0 = some x19' ∧
        ∃ x20', N17'.intAt .i64 (2 * M.nb.size) (0 + 1) = some x20' ∧
        Cn Try.prog 41 #[] { N17' with floor := N17'.nb.size } fun v21' N21' =>
         ∃ cs22', asA 30 v21' = some cs22' ∧
         ∃ b23', asB (cs22'.getD 0 undef) = some b23' ∧
         ∃ x24', asI .i64 (cs22'.getD 1 undef) = some x24' ∧
         ∃ b25', asB (cs22'.getD 2 undef) = some b25' ∧
         ∃ b26', asB (cs22'.getD 3 undef) = some b26' ∧
         ∃ x27', asI .i64 (cs22'.getD 4 undef) = some x27' ∧
         ∃ x28', asI .i64 (cs22'.getD 5 undef) = some x28' ∧
         ∃ x29', asI .i64 (cs22'.getD 6 undef) = some x29' ∧
         ∃ x30', asI .i64 (cs22'.getD 7 undef) = some x30' ∧
         ∃ x31', asI .i64 (cs22'.getD 8 undef) = some x31' ∧
         ∃ x32', asI .i64 (cs22'.getD 9 undef) = some x32' ∧
         ∃ x33', asI .i64 (cs22'.getD 10 undef) = some x33' ∧
         ∃ x34', asI .i64 (cs22'.getD 11 undef) = some x34' ∧
         ∃ x35', asI .i64 (cs22'.getD 12 undef) = some x35' ∧
         ∃ x36', asI .i64 (cs22'.getD 13 undef) = some x36' ∧
         ∃ x37', asI .i64 (cs22'.getD 14 undef) = some x37' ∧
         ∃ x38', asI .i64 (cs22'.getD 15 undef) = some x38' ∧
         ∃ x39', asI .i64 (cs22'.getD 16 undef) = some x39' ∧
         ∃ b40', asB (cs22'.getD 17 undef) = some b40' ∧
         ∃ x41', asI .i64 (cs22'.getD 18 undef) = some x41' ∧
         ∃ x42', asI .i64 (cs22'.getD 19 undef) = some x42' ∧
         ∃ x43', asI .i64 (cs22'.getD 20 undef) = some x43' ∧
         ∃ x44', asI .i64 (cs22'.getD 21 undef) = some x44' ∧
         ∃ x45', asI .i64 (cs22'.getD 22 undef) = some x45' ∧
         ∃ b46', asB (cs22'.getD 23 undef) = some b46' ∧
         ∃ x47', asI .i64 (cs22'.getD 24 undef) = some x47' ∧
         ∃ x48', asI .i64 (cs22'.getD 25 undef) = some x48' ∧
         ∃ s49', asS (cs22'.getD 26 undef) = some s49' ∧
         ∃ b50', asB (cs22'.getD 27 undef) = some b50' ∧
         ∃ b51', asB (cs22'.getD 28 undef) = some b51' ∧
         ∃ b52', asB (cs22'.getD 29 undef) = some b52' ∧
         Cn Try.prog 24 #[.pointer p18', .agg #[.bool b23', .int .i64 x24', .bool b25', .bool b26', .int .i64 x27', .int .i64 x28', .int .i64 x29', .int .i64 x30', .int .i64 x31', .int .i64 x32', .int .i64 x33', .int .i64 x34', .int .i64 x35', .int .i64 x36', .int .i64 x37', .int .i64 x38', .int .i64 x39', .bool b40', .int .i64 x41', .int .i64 x42', .int .i64 x43', .int .i64 x44', .int .i64 x45', .bool b46', .int .i64 x47', .int .i64 x48', .slice s49'.1 (s49'.2.1) (s49'.2.2), .bool b50', .bool b51', .bool b52'], .agg #[.int .i64 x19', .int .i64 x20']] { N21' with floor := N17'.floor } fun v53' N53' =>
          ∃ x54', asI .i64 v53' = some x54' ∧
          Cn Try.prog 28 #[.pointer p18'] N53' fun v55' N55' =>
           ∃ s56', asS v55' = some s56' ∧
           Cn Try.prog 31 #[.slice s56'.1 (s56'.2.1) (s56'.2.2)] N55' fun v57' N57' =>
            ∃ p58', asP v57' = some p58' ∧
            ((p58'.isNone = true →
             Q (.bool false) N57') ∧
             (p58'.isNone = false →
             ∃ x59', N57'.intAt .i64 (2 * M.nb.size) 0 = some x59' ∧
             ∃ x60', N57'.intAt .i64 (2 * M.nb.size) (0 + 1) = some x60' ∧
             Cn Try.prog 35 #[.pointer p58', .agg #[.int .i64 x59', .int .i64 x60']] N57' fun v61' N61' =>
              ∃ cs62', asU 2 v61' = some cs62' ∧
              ∃ cs63', asA 30 (cs62'.getD 0 undef) = some cs63' ∧
              ∃ b64', asB (cs63'.getD 0 undef) = some b64' ∧
              ∃ x65', asI .i64 (cs63'.getD 1 undef) = some x65' ∧
              ∃ b66', asB (cs63'.getD 2 undef) = some b66' ∧
              ∃ b67', asB (cs63'.getD 3 undef) = some b67' ∧
              ∃ x68', asI .i64 (cs63'.getD 4 undef) = some x68' ∧
              ∃ x69', asI .i64 (cs63'.getD 5 undef) = some x69' ∧
              ∃ x70', asI .i64 (cs63'.getD 6 undef) = some x70' ∧
              ∃ x71', asI .i64 (cs63'.getD 7 undef) = some x71' ∧
              ∃ x72', asI .i64 (cs63'.getD 8 undef) = some x72' ∧
              ∃ x73', asI .i64 (cs63'.getD 9 undef) = some x73' ∧
              ∃ x74', asI .i64 (cs63'.getD 10 undef) = some x74' ∧
              ∃ x75', asI .i64 (cs63'.getD 11 undef) = some x75' ∧
              ∃ x76', asI .i64 (cs63'.getD 12 undef) = some x76' ∧
              ∃ x77', asI .i64 (cs63'.getD 13 undef) = some x77' ∧
              ∃ x78', asI .i64 (cs63'.getD 14 undef) = some x78' ∧
              ∃ x79', asI .i64 (cs63'.getD 15 undef) = some x79' ∧
              ∃ x80', asI .i64 (cs63'.getD 16 undef) = some x80' ∧
              ∃ b81', asB (cs63'.getD 17 undef) = some b81' ∧
              ∃ x82', asI .i64 (cs63'.getD 18 undef) = some x82' ∧
              ∃ x83', asI .i64 (cs63'.getD 19 undef) = some x83' ∧
              ∃ x84', asI .i64 (cs63'.getD 20 undef) = some x84' ∧
              ∃ x85', asI .i64 (cs63'.getD 21 undef) = some x85' ∧
              ∃ x86', asI .i64 (cs63'.getD 22 undef) = some x86' ∧
              ∃ b87', asB (cs63'.getD 23 undef) = some b87' ∧
              ∃ x88', asI .i64 (cs63'.getD 24 undef) = some x88' ∧
              ∃ x89', asI .i64 (cs63'.getD 25 undef) = some x89' ∧
              ∃ s90', asS (cs63'.getD 26 undef) = some s90' ∧
              ∃ b91', asB (cs63'.getD 27 undef) = some b91' ∧
              ∃ b92', asB (cs63'.getD 28 undef) = some b92' ∧
              ∃ b93', asB (cs63'.getD 29 undef) = some b93' ∧
              ∃ x94', asI .i64 (cs62'.getD 1 undef) = some x94' ∧
              ∃ M95', (N61'.new (.cells #[.bool false, .int .i64 0, .bool false, .bool false, .int .i64 0, .int .i64 0, .int .i64 0, .int .i64 0, .int .i64 0, .int .i64 0, .int .i64 0, .int .i64 0, .int .i64 0, .int .i64 0, .int .i64 0, .int .i64 0, .int .i64 0, .bool false, .int .i64 0, .int .i64 0, .int .i64 0, .int .i64 0, .int .i64 0, .bool false, .int .i64 0, .int .i64 0, .slice none 0 0, .bool false, .bool false, .bool false] 41)).put (2 * N61'.nb.size) 0 (.bool b64') = some M95' ∧
              ∃ M96', M95'.put (2 * N61'.nb.size) 1 (.int .i64 x65') = some M96' ∧
              ∃ M97', M96'.put (2 * N61'.nb.size) 2 (.bool b66') = some M97' ∧
              ∃ M98', M97'.put (2 * N61'.nb.size) 3 (.bool b67') = some M98' ∧
              ∃ M99', M98'.put (2 * N61'.nb.size) 4 (.int .i64 x68') = some M99' ∧
              ∃ M100', M99'.put (2 * N61'.nb.size) 5 (.int .i64 x69') = some M100' ∧
              ∃ M101', M100'.put (2 * N61'.nb.size) 6 (.int .i64 x70') = some M101' ∧
              ∃ M102', M101'.put (2 * N61'.nb.size) 7 (.int .i64 x71') = some M102' ∧
              ∃ M103', M102'.put (2 * N61'.nb.size) 8 (.int .i64 x72') = some M103' ∧
              ∃ M104', M103'.put (2 * N61'.nb.size) 9 (.int .i64 x73') = some M104' ∧
              ∃ M105', M104'.put (2 * N61'.nb.size) 10 (.int .i64 x74') = some M105' ∧
              ∃ M106', M105'.put (2 * N61'.nb.size) 11 (.int .i64 x75') = some M106' ∧
              ∃ M107', M106'.put (2 * N61'.nb.size) 12 (.int .i64 x76') = some M107' ∧
              ∃ M108', M107'.put (2 * N61'.nb.size) 13 (.int .i64 x77') = some M108' ∧
              ∃ M109', M108'.put (2 * N61'.nb.size) 14 (.int .i64 x78') = some M109' ∧
              ∃ M110', M109'.put (2 * N61'.nb.size) 15 (.int .i64 x79') = some M110' ∧
              ∃ M111', M110'.put (2 * N61'.nb.size) 16 (.int .i64 x80') = some M111' ∧
              ∃ M112', M111'.put (2 * N61'.nb.size) 17 (.bool b81') = some M112' ∧
              ∃ M113', M112'.put (2 * N61'.nb.size) 18 (.int .i64 x82') = some M113' ∧
              ∃ M114', M113'.put (2 * N61'.nb.size) 19 (.int .i64 x83') = some M114' ∧
              ∃ M115', M114'.put (2 * N61'.nb.size) 20 (.int .i64 x84') = some M115' ∧
              ∃ M116', M115'.put (2 * N61'.nb.size) 21 (.int .i64 x85') = some M116' ∧
              ∃ M117', M116'.put (2 * N61'.nb.size) 22 (.int .i64 x86') = some M117' ∧
              ∃ M118', M117'.put (2 * N61'.nb.size) 23 (.bool b87') = some M118' ∧
              ∃ M119', M118'.put (2 * N61'.nb.size) 24 (.int .i64 x88') = some M119' ∧
              ∃ M120', M119'.put (2 * N61'.nb.size) 25 (.int .i64 x89') = some M120' ∧
              ∃ M121', M120'.put (2 * N61'.nb.size) 26 (.slice s90'.1 (s90'.2.1) (s90'.2.2)) = some M121' ∧
              ∃ M122', M121'.put (2 * N61'.nb.size) 27 (.bool b91') = some M122' ∧
              ∃ M123', M122'.put (2 * N61'.nb.size) 28 (.bool b92') = some M123' ∧
              ∃ M124', M123'.put (2 * N61'.nb.size) 29 (.bool b93') = some M124' ∧
              ((x8' = 0 →
               ((x14' = 0 →
                ∃ x125', (M124'.res 2).intAt .i64 (2 * N9'.nb.size) 0 = some x125' ∧
                ∃ x126', (M124'.res 2).intAt .i64 (2 * N9'.nb.size) (0 + 1) = some x126' ∧
                ∃ x127', (M124'.res 2).intAt .i64 (2 * M.nb.size) 0 = some x127' ∧
                ∃ x128', (M124'.res 2).intAt .i64 (2 * M.nb.size) (0 + 1) = some x128' ∧
                ∃ v129', binV Try.prog .eql 23 23 (.agg #[.int .i64 x125', .int .i64 x126']) (.agg #[.int .i64 x127', .int .i64 x128']) = some v129' ∧
                ∃ b130', asB v129' = some b130' ∧
                ((b130' = true →
                 Cn Try.prog 16 #[.slice s7'.1 s7'.2.1 s7'.2.2, .slice (some ⟨2 * (M124'.nb.size + 0), 0, none⟩) 2 2] ((M124'.res 2).upd (M124'.nb.size + 0) (.cells #[.int .u8 48, .int .u8 32] 5)) fun v131' N131' =>
                  ∃ b132', asB v131' = some b132' ∧
                  ((b132' = true →
                   ((x54' = 0 →
                    Cn Try.prog 28 #[.pointer p18'] N131' fun v133' N133' =>
                     ∃ s134', asS v133' = some s134' ∧
                     Cn Try.prog 16 #[.slice s134'.1 (s134'.2.1) (s134'.2.2), .slice (some ⟨2 * (M124'.nb.size + 1), 0, none⟩) 4 4] (N133'.upd (M124'.nb.size + 1) (.cells #[.int .u8 127, .int .u8 224, .int .u8 0, .int .u8 0] 5)) fun v135' N135' =>
                      ∃ b136', asB v135' = some b136' ∧
                      ((b136' = true →
                       ((x94' = 0 →
                        ∃ b137', N135'.boolAt (2 * N61'.nb.size) 0 = some b137' ∧
                        ∃ x138', N135'.intAt .i64 (2 * N61'.nb.size) (0 + 1) = some x138' ∧
                        ∃ b139', N135'.boolAt (2 * N61'.nb.size) (0 + 2) = some b139' ∧
                        ∃ b140', N135'.boolAt (2 * N61'.nb.size) (0 + 3) = some b140' ∧
                        ∃ x141', N135'.intAt .i64 (2 * N61'.nb.size) (0 + 4) = some x141' ∧
                        ∃ x142', N135'.intAt .i64 (2 * N61'.nb.size) (0 + 5) = some x142' ∧
                        ∃ x143', N135'.intAt .i64 (2 * N61'.nb.size) (0 + 6) = some x143' ∧
                        ∃ x144', N135'.intAt .i64 (2 * N61'.nb.size) (0 + 7) = some x144' ∧
                        ∃ x145', N135'.intAt .i64 (2 * N61'.nb.size) (0 + 8) = some x145' ∧
                        ∃ x146', N135'.intAt .i64 (2 * N61'.nb.size) (0 + 9) = some x146' ∧
                        ∃ x147', N135'.intAt .i64 (2 * N61'.nb.size) (0 + 10) = some x147' ∧
                        ∃ x148', N135'.intAt .i64 (2 * N61'.nb.size) (0 + 11) = some x148' ∧
                        ∃ x149', N135'.intAt .i64 (2 * N61'.nb.size) (0 + 12) = some x149' ∧
                        ∃ x150', N135'.intAt .i64 (2 * N61'.nb.size) (0 + 13) = some x150' ∧
                        ∃ x151', N135'.intAt .i64 (2 * N61'.nb.size) (0 + 14) = some x151' ∧
                        ∃ x152', N135'.intAt .i64 (2 * N61'.nb.size) (0 + 15) = some x152' ∧
                        ∃ x153', N135'.intAt .i64 (2 * N61'.nb.size) (0 + 16) = some x153' ∧
                        ∃ b154', N135'.boolAt (2 * N61'.nb.size) (0 + 17) = some b154' ∧
                        ∃ x155', N135'.intAt .i64 (2 * N61'.nb.size) (0 + 18) = some x155' ∧
                        ∃ x156', N135'.intAt .i64 (2 * N61'.nb.size) (0 + 19) = some x156' ∧
                        ∃ x157', N135'.intAt .i64 (2 * N61'.nb.size) (0 + 20) = some x157' ∧
                        ∃ x158', N135'.intAt .i64 (2 * N61'.nb.size) (0 + 21) = some x158' ∧
                        ∃ x159', N135'.intAt .i64 (2 * N61'.nb.size) (0 + 22) = some x159' ∧
                        ∃ b160', N135'.boolAt (2 * N61'.nb.size) (0 + 23) = some b160' ∧
                        ∃ x161', N135'.intAt .i64 (2 * N61'.nb.size) (0 + 24) = some x161' ∧
                        ∃ x162', N135'.intAt .i64 (2 * N61'.nb.size) (0 + 25) = some x162' ∧
                        ∃ s163', N135'.slAt (2 * N61'.nb.size) (0 + 26) = some s163' ∧
                        ∃ b164', N135'.boolAt (2 * N61'.nb.size) (0 + 27) = some b164' ∧
                        ∃ b165', N135'.boolAt (2 * N61'.nb.size) (0 + 28) = some b165' ∧
                        ∃ b166', N135'.boolAt (2 * N61'.nb.size) (0 + 29) = some b166' ∧
                        Cn Try.prog 41 #[] { N135' with floor := N135'.nb.size } fun v167' N167' =>
                         ∃ cs168', asA 30 v167' = some cs168' ∧
                         ∃ b169', asB (cs168'.getD 0 undef) = some b169' ∧
                         ∃ x170', asI .i64 (cs168'.getD 1 undef) = some x170' ∧
                         ∃ b171', asB (cs168'.getD 2 undef) = some b171' ∧
                         ∃ b172', asB (cs168'.getD 3 undef) = some b172' ∧
                         ∃ x173', asI .i64 (cs168'.getD 4 undef) = some x173' ∧
                         ∃ x174', asI .i64 (cs168'.getD 5 undef) = some x174' ∧
                         ∃ x175', asI .i64 (cs168'.getD 6 undef) = some x175' ∧
                         ∃ x176', asI .i64 (cs168'.getD 7 undef) = some x176' ∧
                         ∃ x177', asI .i64 (cs168'.getD 8 undef) = some x177' ∧
                         ∃ x178', asI .i64 (cs168'.getD 9 undef) = some x178' ∧
                         ∃ x179', asI .i64 (cs168'.getD 10 undef) = some x179' ∧
                         ∃ x180', asI .i64 (cs168'.getD 11 undef) = some x180' ∧
                         ∃ x181', asI .i64 (cs168'.getD 12 undef) = some x181' ∧
                         ∃ x182', asI .i64 (cs168'.getD 13 undef) = some x182' ∧
                         ∃ x183', asI .i64 (cs168'.getD 14 undef) = some x183' ∧
                         ∃ x184', asI .i64 (cs168'.getD 15 undef) = some x184' ∧
                         ∃ x185', asI .i64 (cs168'.getD 16 undef) = some x185' ∧
                         ∃ b186', asB (cs168'.getD 17 undef) = some b186' ∧
                         ∃ x187', asI .i64 (cs168'.getD 18 undef) = some x187' ∧
                         ∃ x188', asI .i64 (cs168'.getD 19 undef) = some x188' ∧
                         ∃ x189', asI .i64 (cs168'.getD 20 undef) = some x189' ∧
                         ∃ x190', asI .i64 (cs168'.getD 21 undef) = some x190' ∧
                         ∃ x191', asI .i64 (cs168'.getD 22 undef) = some x191' ∧
                         ∃ b192', asB (cs168'.getD 23 undef) = some b192' ∧
                         ∃ x193', asI .i64 (cs168'.getD 24 undef) = some x193' ∧
                         ∃ x194', asI .i64 (cs168'.getD 25 undef) = some x194' ∧
                         ∃ s195', asS (cs168'.getD 26 undef) = some s195' ∧
                         ∃ b196', asB (cs168'.getD 27 undef) = some b196' ∧
                         ∃ b197', asB (cs168'.getD 28 undef) = some b197' ∧
                         ∃ b198', asB (cs168'.getD 29 undef) = some b198' ∧
                         Cn Try.prog 39 #[.agg #[.bool b137', .int .i64 x138', .bool b139', .bool b140', .int .i64 x141', .int .i64 x142', .int .i64 x143', .int .i64 x144', .int .i64 x145', .int .i64 x146', .int .i64 x147', .int .i64 x148', .int .i64 x149', .int .i64 x150', .int .i64 x151', .int .i64 x152', .int .i64 x153', .bool b154', .int .i64 x155', .int .i64 x156', .int .i64 x157', .int .i64 x158', .int .i64 x159', .bool b160', .int .i64 x161', .int .i64 x162', .slice s163'.1 (s163'.2.1) (s163'.2.2), .bool b164', .bool b165', .bool b166'], .agg #[.bool b169', .int .i64 x170', .bool b171', .bool b172', .int .i64 x173', .int .i64 x174', .int .i64 x175', .int .i64 x176', .int .i64 x177', .int .i64 x178', .int .i64 x179', .int .i64 x180', .int .i64 x181', .int .i64 x182', .int .i64 x183', .int .i64 x184', .int .i64 x185', .bool b186', .int .i64 x187', .int .i64 x188', .int .i64 x189', .int .i64 x190', .int .i64 x191', .bool b192', .int .i64 x193', .int .i64 x194', .slice s195'.1 (s195'.2.1) (s195'.2.2), .bool b196', .bool b197', .bool b198']] { N167' with floor := N135'.floor } fun v199' N199' =>
                          ∃ b200', asB v199' = some b200' ∧
                          ((b200' = true →
                           Cn Try.prog 37 #[.pointer p58'] N199' fun v201' N201' =>
                            ∃ x202', asI .i64 v201' = some x202' ∧
                            Q (.bool (x202' == 3)) N201') ∧
                           (b200' = false →
                           Q (.bool false) N199'))) ∧
                        (x94' ≠ 0 →
                        Q (.bool false) N135'))) ∧
                       (b136' = false →
                       Q (.bool false) N135'))) ∧
                    (x54' ≠ 0 →
                    Q (.bool false) N131'))) ∧
                   (b132' = false →
                   Q (.bool false) N131'))) ∧
                 (b130' = false →
                 Q (.bool false) (M124'.res 2)))) ∧
                (x14' ≠ 0 →
                Q (.bool false) (M124'.res 2)))) ∧
               (x8' ≠ 0 →
               Q (.bool false) (M124'.res 2)))))))) :
    Cn Try.prog 17 #[] M Q := by
  refine Cn.of b17 d17 t17 ?_
  refine Rn.seq k17_0 (Rn.region k17_1 (fun call K => r17_0) (Rch.leaf (Rn.seq k17_2 (Rn.region k17_3 (fun call K => r17_1) (Rch.ex H fun M1' H => Rch.ex H fun M2' H => Rch.leaf (Rn.seq k17_4 (Rn.region k17_5 (fun call K => r17_2) (Rch.bind (x := ⟨2 * M.nb.size, 0, none⟩) rfl (Rch.ex H fun x3' H => ?_)))))))))
  refine Rch.ex H fun x4' H => Rch.call H fun v5' N5' H => Rch.ex H fun cs6' H => Rch.ex H fun s7' H => Rch.ex H fun x8' H => Rch.leaf (Rn.seq k17_6 (Rn.region k17_7 (fun call K => r17_3) (Rch.call H fun v9' N9' H => Rch.ex H fun cs10' H => Rch.ex H fun cs11' H => Rch.ex H fun x12' H => ?_)))
  refine Rch.ex H fun x13' H => Rch.ex H fun x14' H => Rch.ex H fun M15' H => Rch.ex H fun M16' H => Rch.leaf (Rn.seq k17_8 (Rn.region k17_9 (fun call K => r17_4) (Rch.call H fun v17' N17' H => Rch.ex H fun p18' H => Rch.leaf (Rn.seq k17_10 (Rn.seq k17_11 ?_)))))
  refine Rn.region k17_12 (fun call K => r17_5) (Rch.leaf ?_)
  refine Rn.cnd (v := p18'.isNone) ⟨c17_13, rfl, by kernel_rfl⟩ (fun h => ?_) (fun h => ?_)
  · replace H := H.1 (h)
    refine Rn.seq k17_14 (Rn.region k17_15 (fun call K => r17_6) (Rch.leaf ?_))
    exact Rn.ret k17_16 e17 H
  · replace H := H.2 (h)
    refine Rn.skip k17_18 (Rn.seq k17_19 (Rn.regionD k17_20 (fun call K => r17_7) (Rch.bind (x := ⟨2 * M.nb.size, 0, none⟩) rfl (Rch.ex H fun x19' H => Rch.ex H fun x20' H => Rch.callF H fun v21' N21' H => Rch.ex H fun cs22' H => Rch.ex H fun b23' H => Rch.ex H fun x24' H => Rch.ex H fun b25' H => Rch.ex H fun b26' H => ?_))))
    refine Rch.ex H fun x27' H => Rch.ex H fun x28' H => Rch.ex H fun x29' H => Rch.ex H fun x30' H => Rch.ex H fun x31' H => Rch.ex H fun x32' H => Rch.ex H fun x33' H => Rch.ex H fun x34' H => Rch.ex H fun x35' H => Rch.ex H fun x36' H => Rch.ex H fun x37' H => Rch.ex H fun x38' H => ?_
    refine Rch.ex H fun x39' H => Rch.ex H fun b40' H => Rch.ex H fun x41' H => Rch.ex H fun x42' H => Rch.ex H fun x43' H => Rch.ex H fun x44' H => Rch.ex H fun x45' H => Rch.ex H fun b46' H => Rch.ex H fun x47' H => Rch.ex H fun x48' H => Rch.ex H fun s49' H => Rch.ex H fun b50' H => ?_
    refine Rch.ex H fun b51' H => Rch.ex H fun b52' H => Rch.call H fun v53' N53' H => Rch.ex H fun x54' H => Rch.leaf (Rn.seq k17_21 (Rn.region k17_22 (fun call K => r17_8) (Rch.call H fun v55' N55' H => Rch.ex H fun s56' H => Rch.call H fun v57' N57' H => Rch.ex H fun p58' H => Rch.leaf ?_)))
    refine Rn.seq k17_23 (Rn.seq k17_24 (Rn.region k17_25 (fun call K => r17_9) (Rch.leaf ?_)))
    refine Rn.cnd (v := p58'.isNone) ⟨c17_26, rfl, by kernel_rfl⟩ (fun h => ?_) (fun h => ?_)
    · replace H := H.1 (h)
      refine Rn.seq k17_27 (Rn.region k17_28 (fun call K => r17_10) (Rch.leaf ?_))
      exact Rn.ret k17_29 e17 H
    · replace H := H.2 (h)
      refine Rn.skip k17_30 (Rn.seq k17_31 (Rn.region k17_32 (fun call K => r17_11) (Rch.bind (x := ⟨2 * M.nb.size, 0, none⟩) rfl (Rch.ex H fun x59' H => Rch.ex H fun x60' H => Rch.call H fun v61' N61' H => Rch.ex H fun cs62' H => Rch.ex H fun cs63' H => Rch.ex H fun b64' H => Rch.ex H fun x65' H => Rch.ex H fun b66' H => ?_))))
      refine Rch.ex H fun b67' H => Rch.ex H fun x68' H => Rch.ex H fun x69' H => Rch.ex H fun x70' H => Rch.ex H fun x71' H => Rch.ex H fun x72' H => Rch.ex H fun x73' H => Rch.ex H fun x74' H => Rch.ex H fun x75' H => Rch.ex H fun x76' H => Rch.ex H fun x77' H => Rch.ex H fun x78' H => ?_
      refine Rch.ex H fun x79' H => Rch.ex H fun x80' H => Rch.ex H fun b81' H => Rch.ex H fun x82' H => Rch.ex H fun x83' H => Rch.ex H fun x84' H => Rch.ex H fun x85' H => Rch.ex H fun x86' H => Rch.ex H fun b87' H => Rch.ex H fun x88' H => Rch.ex H fun x89' H => Rch.ex H fun s90' H => ?_
      refine Rch.ex H fun b91' H => Rch.ex H fun b92' H => Rch.ex H fun b93' H => Rch.ex H fun x94' H => Rch.ex H fun M95' H => Rch.ex H fun M96' H => Rch.ex H fun M97' H => Rch.ex H fun M98' H => Rch.ex H fun M99' H => Rch.ex H fun M100' H => Rch.ex H fun M101' H => Rch.ex H fun M102' H => ?_
      refine Rch.ex H fun M103' H => Rch.ex H fun M104' H => Rch.ex H fun M105' H => Rch.ex H fun M106' H => Rch.ex H fun M107' H => Rch.ex H fun M108' H => Rch.ex H fun M109' H => Rch.ex H fun M110' H => Rch.ex H fun M111' H => Rch.ex H fun M112' H => Rch.ex H fun M113' H => Rch.ex H fun M114' H => ?_
      refine Rch.ex H fun M115' H => Rch.ex H fun M116' H => Rch.ex H fun M117' H => Rch.ex H fun M118' H => Rch.ex H fun M119' H => Rch.ex H fun M120' H => Rch.ex H fun M121' H => Rch.ex H fun M122' H => Rch.ex H fun M123' H => Rch.ex H fun M124' H => Rch.leaf (Rn.seq k17_33 ?_)
      refine Rn.regionJ k17_34 (fun call K => r17_12) ?_
      refine Rch.cB (fun h => ?_) (fun h => ?_)
      · replace H := H.1 (eq_of_beq h)
        refine Rch.cB (fun h => ?_) (fun h => ?_)
        · replace H := H.1 (eq_of_beq h)
          refine Rch.bind (x := ⟨2 * N9'.nb.size, 0, none⟩) rfl (Rch.ex H fun x125' H => Rch.ex H fun x126' H => Rch.bind (x := ⟨2 * M.nb.size, 0, none⟩) rfl (Rch.ex H fun x127' H => Rch.ex H fun x128' H => Rch.ex H fun v129' H => Rch.ex H fun b130' H => ?_))
          refine Rch.cB (fun h => ?_) (fun h => ?_)
          · replace H := H.1 (h)
            refine Rch.call H fun v131' N131' H => Rch.ex H fun b132' H => ?_
            refine Rch.cB (fun h => ?_) (fun h => ?_)
            · replace H := H.1 (h)
              refine Rch.cB (fun h => ?_) (fun h => ?_)
              · replace H := H.1 (eq_of_beq h)
                refine Rch.call H fun v133' N133' H => Rch.ex H fun s134' H => Rch.call H fun v135' N135' H => Rch.ex H fun b136' H => ?_
                refine Rch.cB (fun h => ?_) (fun h => ?_)
                · replace H := H.1 (h)
                  refine Rch.cB (fun h => ?_) (fun h => ?_)
                  · replace H := H.1 (eq_of_beq h)
                    refine Rch.bind (x := ⟨2 * N61'.nb.size, 0, none⟩) rfl (Rch.ex H fun b137' H => Rch.ex H fun x138' H => Rch.ex H fun b139' H => Rch.ex H fun b140' H => Rch.ex H fun x141' H => Rch.ex H fun x142' H => Rch.ex H fun x143' H => Rch.ex H fun x144' H => Rch.ex H fun x145' H => Rch.ex H fun x146' H => Rch.ex H fun x147' H => ?_)
                    refine Rch.ex H fun x148' H => Rch.ex H fun x149' H => Rch.ex H fun x150' H => Rch.ex H fun x151' H => Rch.ex H fun x152' H => Rch.ex H fun x153' H => Rch.ex H fun b154' H => Rch.ex H fun x155' H => Rch.ex H fun x156' H => Rch.ex H fun x157' H => Rch.ex H fun x158' H => Rch.ex H fun x159' H => ?_
                    refine Rch.ex H fun b160' H => Rch.ex H fun x161' H => Rch.ex H fun x162' H => Rch.ex H fun s163' H => Rch.ex H fun b164' H => Rch.ex H fun b165' H => Rch.ex H fun b166' H => Rch.callF H fun v167' N167' H => Rch.ex H fun cs168' H => Rch.ex H fun b169' H => Rch.ex H fun x170' H => Rch.ex H fun b171' H => ?_
                    refine Rch.ex H fun b172' H => Rch.ex H fun x173' H => Rch.ex H fun x174' H => Rch.ex H fun x175' H => Rch.ex H fun x176' H => Rch.ex H fun x177' H => Rch.ex H fun x178' H => Rch.ex H fun x179' H => Rch.ex H fun x180' H => Rch.ex H fun x181' H => Rch.ex H fun x182' H => Rch.ex H fun x183' H => ?_
                    refine Rch.ex H fun x184' H => Rch.ex H fun x185' H => Rch.ex H fun b186' H => Rch.ex H fun x187' H => Rch.ex H fun x188' H => Rch.ex H fun x189' H => Rch.ex H fun x190' H => Rch.ex H fun x191' H => Rch.ex H fun b192' H => Rch.ex H fun x193' H => Rch.ex H fun x194' H => Rch.ex H fun s195' H => ?_
                    refine Rch.ex H fun b196' H => Rch.ex H fun b197' H => Rch.ex H fun b198' H => Rch.call H fun v199' N199' H => Rch.ex H fun b200' H => ?_
                    refine Rch.cB (fun h => ?_) (fun h => ?_)
                    · replace H := H.1 (h)
                      refine Rch.call H fun v201' N201' H => Rch.ex H fun x202' H => Rch.leaf ?_
                      exact Rn.ret k17_35 e17 H
                    · replace H := H.2 (h)
                      refine Rch.leaf ?_
                      exact Rn.ret k17_35 e17 H
                  · replace H := H.2 (ne_of_beq_false h)
                    refine Rch.leaf ?_
                    exact Rn.ret k17_35 e17 H
                · replace H := H.2 (h)
                  refine Rch.leaf ?_
                  exact Rn.ret k17_35 e17 H
              · replace H := H.2 (ne_of_beq_false h)
                refine Rch.leaf ?_
                exact Rn.ret k17_35 e17 H
            · replace H := H.2 (h)
              refine Rch.leaf ?_
              exact Rn.ret k17_35 e17 H
          · replace H := H.2 (h)
            refine Rch.leaf ?_
            exact Rn.ret k17_35 e17 H
        · replace H := H.2 (ne_of_beq_false h)
          refine Rch.leaf ?_
          exact Rn.ret k17_35 e17 H
      · replace H := H.2 (ne_of_beq_false h)
        refine Rch.leaf ?_
        exact Rn.ret k17_35 e17 H


end Go.Zy

