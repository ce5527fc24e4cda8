/- The functions' walks: for each function and each loop a rule of what it comes to. Printed by zw.py. -/
import Derived.Test.YtbnhbmkoghnjhaaProg
import Derived.Test.YtbnhbmkoghnjhaaZhA
set_option linter.unusedVariables false
set_option maxRecDepth 100000
namespace Go.Zt
open Go Go.Sim Go.Proofs

variable {g0 g1 g2 g3 g4 g5 g6 g7 g8 g9 g10 g11 g12 g13 g14 g15 g16 g17 g18 g19 g20 g21 g22 g23 g24 g25 g26 g27 g28 g29 g30 g31 g32 g33 g34 g35 g36 g37 g38 g39 g40 g41 g42 g43 g44 g45 g46 g47 g48 g49 g50 g51 g52 g53 g54 g55 g56 g57 g58 g59 g60 g61 g62 g63 g64 g65 g66 g67 g68 g69 g70 g71 g72 g73 g74 g75 g76 g77 g78 g79 g80 g81 g82 g83 g84 g85 g86 g87 g88 g89 g90 : Value}
/-! ### zoetrope/zoetropelaw03.CdfLearns: function 3 -/
noncomputable abbrev P3 (p : List Nat) : Code := subC (codeOf Try.f3) p
noncomputable abbrev O3 (p : List Nat) : Array Oper := opsOf (subC (codeOf Try.f3) p)
theorem b3 : Try.prog.funcs[3]? = some Try.f3 ∧ (Orc.tab Try.prog).lookup 3 = none := ⟨by kernel_rfl, by kernel_rfl⟩
theorem d3 : Try.f3.body = some (P3 []) := by kernel_rfl
theorem t3 {Ax0_0 : Option Addr} {lx0_0 cx0_0 : Nat} {x0_1 : Int} {Ax1 : Option Addr} {lx1 cx1 : Nat} : #[.agg #[.slice Ax0_0 lx0_0 cx0_0, .int .i64 x0_1],.slice Ax1 lx1 cx1] ++ Array.replicate (Try.f3.ntmps - (#[.agg #[.slice Ax0_0 lx0_0 cx0_0, .int .i64 x0_1],.slice Ax1 lx1 cx1] : Array Value).size) undef = #[.agg #[.slice Ax0_0 lx0_0 cx0_0, .int .i64 x0_1],.slice Ax1 lx1 cx1,undef,undef,undef,undef,undef,undef,undef,undef,undef,undef,undef,undef,undef,undef,undef,undef,undef,undef,undef,undef,undef,undef,undef,undef,undef,undef,undef,undef,undef,undef,undef,undef,undef,undef,undef,undef,undef,undef,undef,undef,undef,undef,undef,undef,undef,undef,undef,undef,undef,undef,undef,undef,undef,undef,undef,undef,undef,undef,undef,undef,undef,undef,undef,undef,undef,undef,undef,undef,undef,undef,undef,undef,undef,undef,undef,undef,undef,undef,undef,undef,undef,undef,undef,undef,undef,undef,undef,undef,undef] := by kernel_rfl
theorem k3_0 : P3 [] = .seq (P3 [0]) (P3 [1]) := by kernel_rfl
theorem k3_1 : P3 [0] = .region 0 (O3 [0]) false := by kernel_rfl
theorem r3_0 {Ax0_0 : Option Addr} {lx0_0 cx0_0 : Nat} {x0_1 : Int} {M : Mem} {call : CallM} {K : Array Value → Mem → R} :
    opsK Try.prog (fun _ => call) (O3 [0]) (O3 [0]).toList 0 #[.agg #[.slice Ax0_0 lx0_0 cx0_0, .int .i64 x0_1],g1,g2,g3,g4,g5,g6,g7,g8,g9,g10,g11,g12,g13,g14,g15,g16,g17,g18,g19,g20,g21,g22,g23,g24,g25,g26,g27,g28,g29,g30,g31,g32,g33,g34,g35,g36,g37,g38,g39,g40,g41,g42,g43,g44,g45,g46,g47,g48,g49,g50,g51,g52,g53,g54,g55,g56,g57,g58,g59,g60,g61,g62,g63,g64,g65,g66,g67,g68,g69,g70,g71,g72,g73,g74,g75,g76,g77,g78,g79,g80,g81,g82,g83,g84,g85,g86,g87,g88,g89,g90] M K = K #[.agg #[.slice Ax0_0 lx0_0 cx0_0, .int .i64 x0_1],g1,.pointer (some ⟨2 * M.nb.size, 0, none⟩),g3,.bool false,g5,g6,g7,g8,g9,g10,g11,g12,g13,g14,g15,g16,g17,g18,g19,g20,g21,g22,g23,g24,g25,g26,g27,g28,g29,g30,g31,g32,g33,g34,g35,g36,g37,g38,g39,g40,g41,g42,g43,g44,g45,g46,g47,g48,g49,g50,g51,g52,g53,g54,g55,g56,g57,g58,g59,g60,g61,g62,g63,g64,g65,g66,g67,g68,g69,g70,g71,g72,g73,g74,g75,g76,g77,g78,g79,g80,g81,g82,g83,g84,g85,g86,g87,g88,g89,g90] (M.new (.cells #[.slice Ax0_0 lx0_0 cx0_0, .int .i64 x0_1] 24)) := by kernel_rfl
theorem k3_2 : P3 [1] = .seq (P3 [1,0]) (P3 [1,1]) := by kernel_rfl
theorem k3_3 : P3 [1,0] = .region 1 (O3 [1,0]) false := by kernel_rfl
theorem r3_1 {x2 : Option Addr} {M : Mem} {call : CallM} {K : Array Value → Mem → R} :
    opsK Try.prog (fun _ => call) (O3 [1,0]) (O3 [1,0]).toList 0 #[g0,g1,.pointer x2,g3,g4,g5,g6,g7,g8,g9,g10,g11,g12,g13,g14,g15,g16,g17,g18,g19,g20,g21,g22,g23,g24,g25,g26,g27,g28,g29,g30,g31,g32,g33,g34,g35,g36,g37,g38,g39,g40,g41,g42,g43,g44,g45,g46,g47,g48,g49,g50,g51,g52,g53,g54,g55,g56,g57,g58,g59,g60,g61,g62,g63,g64,g65,g66,g67,g68,g69,g70,g71,g72,g73,g74,g75,g76,g77,g78,g79,g80,g81,g82,g83,g84,g85,g86,g87,g88,g89,g90] M K = (x2).bind fun a_1 => (M.slAt a_1.block a_1.off).bind fun s_2 => (M.intAt .i64 a_1.block (a_1.off + 1)).bind fun x_3 => (call 10 #[.agg #[.slice s_2.1 (s_2.2.1) (s_2.2.2), .int .i64 x_3]] M).bind fun r_4 => (asA 2 r_4.1).bind fun cs_5 => (asS (cs_5.getD 0 undef)).bind fun s_6 => (asI .i64 (cs_5.getD 1 undef)).bind fun x_7 => ((r_4.2.new (.cells #[.slice none 0 0, .int .i64 0] 24)).put (2 * r_4.2.nb.size) 0 (.slice s_6.1 (s_6.2.1) (s_6.2.2))).bind fun M_8 => (M_8.put (2 * r_4.2.nb.size) 1 (.int .i64 x_7)).bind fun M_9 => K #[g0,g1,.pointer x2,g3,g4,.pointer (some ⟨2 * r_4.2.nb.size, 0, none⟩),g6,g7,g8,g9,g10,g11,g12,g13,g14,g15,g16,.agg #[.slice s_2.1 (s_2.2.1) (s_2.2.2), .int .i64 x_3],.agg #[.slice s_6.1 (s_6.2.1) (s_6.2.2), .int .i64 x_7],g19,g20,g21,g22,g23,g24,g25,g26,g27,g28,g29,g30,g31,g32,g33,g34,g35,g36,g37,g38,g39,g40,g41,g42,g43,g44,g45,g46,g47,g48,g49,g50,g51,g52,g53,g54,g55,g56,g57,g58,g59,g60,g61,g62,g63,g64,g65,g66,g67,g68,g69,g70,g71,g72,g73,g74,g75,g76,g77,g78,g79,g80,g81,g82,g83,g84,g85,g86,g87,g88,g89,g90] M_9 := by kernel_rfl
theorem k3_4 : P3 [1,1] = .seq (P3 [1,1,0]) (P3 [1,1,1]) := by kernel_rfl
theorem k3_5 : P3 [1,1,0] = .region 2 (O3 [1,1,0]) true ∧ drawOk (O3 [1,1,0]) = false ∧ drawJ (O3 [1,1,0]) = true := ⟨by kernel_rfl, by kernel_rfl, by kernel_rfl⟩
theorem r3_2 {x2 x5 : Option Addr} {M : Mem} {call : CallM} {K : Array Value → Mem → R} :
    opsJ Try.prog (callAt call (O3 [1,1,0])) (O3 [1,1,0]) M.nb.size (ordJ (O3 [1,1,0])) [] #[g0,g1,.pointer x2,g3,g4,.pointer x5,g6,g7,g8,g9,g10,g11,g12,g13,g14,g15,g16,g17,g18,g19,g20,g21,g22,g23,g24,g25,g26,g27,g28,g29,g30,g31,g32,g33,g34,g35,g36,g37,g38,g39,g40,g41,g42,g43,g44,g45,g46,g47,g48,g49,g50,g51,g52,g53,g54,g55,g56,g57,g58,g59,g60,g61,g62,g63,g64,g65,g66,g67,g68,g69,g70,g71,g72,g73,g74,g75,g76,g77,g78,g79,g80,g81,g82,g83,g84,g85,g86,g87,g88,g89,g90] (M.res (slots (O3 [1,1,0]))) K = (x5).bind fun a_1 => ((M.res 2).slAt a_1.block a_1.off).bind fun s_2 => ((M.res 2).intAt .i64 a_1.block (a_1.off + 1)).bind fun x_3 => (x2).bind fun a_4 => ((M.res 2).slAt a_4.block a_4.off).bind fun s_5 => ((M.res 2).intAt .i64 a_4.block (a_4.off + 1)).bind fun x_6 => cond (decide (some (2 * (M.nb.size + 0)) = Option.map (fun a : Addr => a.block) x2)) (none) (((((M.res 2).upd (M.nb.size + 0) (.cells #[.slice none 0 0, .int .i64 0] 24)).upd (M.nb.size + 1) (.cells #[.slice none 0 0, .int .i64 0] 24)).put (2 * (M.nb.size + 0)) 0 (.slice s_2.1 (s_2.2.1) (s_2.2.2))).bind fun M_7 => (M_7.put (2 * (M.nb.size + 0)) 1 (.int .i64 x_3)).bind fun M_8 => (M_8.put (2 * (M.nb.size + 1)) 0 (.slice s_5.1 (s_5.2.1) (s_5.2.2))).bind fun M_9 => (M_9.put (2 * (M.nb.size + 1)) 1 (.int .i64 x_6)).bind fun M_10 => K #[g0,g1,.pointer x2,g3,g4,.pointer x5,.pointer (some ⟨2 * (M.nb.size + 0), 0, none⟩),.pointer (some ⟨2 * (M.nb.size + 1), 0, none⟩),g8,g9,g10,g11,g12,g13,g14,g15,g16,g17,g18,.agg #[.slice s_2.1 (s_2.2.1) (s_2.2.2), .int .i64 x_3],.agg #[.slice s_5.1 (s_5.2.1) (s_5.2.2), .int .i64 x_6],g21,g22,g23,g24,g25,g26,g27,g28,g29,g30,g31,g32,g33,g34,g35,g36,g37,g38,g39,g40,g41,g42,g43,g44,g45,g46,g47,g48,g49,g50,g51,g52,g53,g54,g55,g56,g57,g58,g59,g60,g61,g62,g63,g64,g65,g66,g67,g68,g69,g70,g71,g72,g73,g74,g75,g76,g77,g78,g79,g80,g81,g82,g83,g84,g85,g86,g87,g88,g89,g90] M_10) := by kernel_rfl
theorem k3_6 : P3 [1,1,1] = .seq (P3 [1,1,1,0]) (P3 [1,1,1,1]) := by kernel_rfl
theorem k3_7 : P3 [1,1,1,0] = .seq (P3 [1,1,1,0,0]) (P3 [1,1,1,0,1]) := by kernel_rfl
theorem k3_8 : P3 [1,1,1,0,0] = .region 3 (O3 [1,1,1,0,0]) false := by kernel_rfl
theorem r3_3 {M : Mem} {call : CallM} {K : Array Value → Mem → R} :
    opsK Try.prog (fun _ => call) (O3 [1,1,1,0,0]) (O3 [1,1,1,0,0]).toList 0 #[g0,g1,g2,g3,g4,g5,g6,g7,g8,g9,g10,g11,g12,g13,g14,g15,g16,g17,g18,g19,g20,g21,g22,g23,g24,g25,g26,g27,g28,g29,g30,g31,g32,g33,g34,g35,g36,g37,g38,g39,g40,g41,g42,g43,g44,g45,g46,g47,g48,g49,g50,g51,g52,g53,g54,g55,g56,g57,g58,g59,g60,g61,g62,g63,g64,g65,g66,g67,g68,g69,g70,g71,g72,g73,g74,g75,g76,g77,g78,g79,g80,g81,g82,g83,g84,g85,g86,g87,g88,g89,g90] M K = K #[g0,g1,g2,g3,g4,g5,g6,g7,.int .i64 0,g9,g10,g11,g12,g13,g14,g15,g16,g17,g18,g19,g20,g21,g22,g23,g24,g25,g26,g27,g28,g29,g30,g31,g32,g33,g34,g35,g36,g37,g38,g39,g40,g41,g42,g43,g44,g45,g46,g47,g48,g49,g50,g51,g52,g53,g54,g55,g56,g57,g58,g59,g60,g61,g62,g63,g64,g65,g66,g67,g68,g69,g70,g71,g72,g73,g74,g75,g76,g77,g78,g79,g80,g81,g82,g83,g84,g85,g86,g87,g88,g89,g90] M := by kernel_rfl
theorem k3_9 : P3 [1,1,1,0,1] = .block 0 (P3 [1,1,1,0,1,0]) := by kernel_rfl
theorem k3_10 : P3 [1,1,1,0,1,0] = .loop (P3 [1,1,1,0,1,0,0]) := by kernel_rfl
theorem k3_11 : P3 [1,1,1,0,1,0,0] = .seq (P3 [1,1,1,0,1,0,0,0]) (P3 [1,1,1,0,1,0,0,1]) := by kernel_rfl
theorem k3_12 : P3 [1,1,1,0,1,0,0,0] = .seq (P3 [1,1,1,0,1,0,0,0,0]) (P3 [1,1,1,0,1,0,0,0,1]) := by kernel_rfl
theorem k3_13 : P3 [1,1,1,0,1,0,0,0,0] = .region 4 (O3 [1,1,1,0,1,0,0,0,0]) false := by kernel_rfl
theorem r3_4 {Ax1 : Option Addr} {lx1 cx1 : Nat} {x8 : Int} {M : Mem} {call : CallM} {K : Array Value → Mem → R} :
    opsK Try.prog (fun _ => call) (O3 [1,1,1,0,1,0,0,0,0]) (O3 [1,1,1,0,1,0,0,0,0]).toList 0 #[g0,.slice Ax1 lx1 cx1,g2,g3,g4,g5,g6,g7,.int .i64 x8,g9,g10,g11,g12,g13,g14,g15,g16,g17,g18,g19,g20,g21,g22,g23,g24,g25,g26,g27,g28,g29,g30,g31,g32,g33,g34,g35,g36,g37,g38,g39,g40,g41,g42,g43,g44,g45,g46,g47,g48,g49,g50,g51,g52,g53,g54,g55,g56,g57,g58,g59,g60,g61,g62,g63,g64,g65,g66,g67,g68,g69,g70,g71,g72,g73,g74,g75,g76,g77,g78,g79,g80,g81,g82,g83,g84,g85,g86,g87,g88,g89,g90] M K = withK (fun w25 w26 w27 w28 M => K #[g0,.slice Ax1 lx1 cx1,g2,g3,g4,g5,g6,g7,.int .i64 x8,g9,g10,g11,g12,g13,g14,g15,g16,g17,g18,g19,g20,.int .i64 x8,.slice Ax1 lx1 cx1,.int .i64 ((lx1 : Int)),.bool (decide (x8 < ((lx1 : Int)))),w25,w26,w27,w28,g29,g30,g31,g32,g33,g34,g35,g36,g37,g38,g39,g40,g41,g42,g43,g44,g45,g46,g47,g48,g49,g50,g51,g52,g53,g54,g55,g56,g57,g58,g59,g60,g61,g62,g63,g64,g65,g66,g67,g68,g69,g70,g71,g72,g73,g74,g75,g76,g77,g78,g79,g80,g81,g82,g83,g84,g85,g86,g87,g88,g89,g90] M) fun k => cond (decide (x8 < ((lx1 : Int)))) (k (.bool true) (.int .i64 x8) (.bool (decide (x8 < 60))) (.bool (decide (x8 < 60))) M) (k (.bool false) undef undef (.bool false) M) := by kernel_rfl
theorem c3_14 : P3 [1,1,1,0,1,0,0,0,1] = .cond (.tmp 28) (P3 [1,1,1,0,1,0,0,0,1,0]) (P3 [1,1,1,0,1,0,0,0,1,1]) := by kernel_rfl
theorem k3_15 : P3 [1,1,1,0,1,0,0,0,1,0] = .skip := by kernel_rfl
theorem k3_16 : P3 [1,1,1,0,1,0,0,1] = .seq (P3 [1,1,1,0,1,0,0,1,0]) (P3 [1,1,1,0,1,0,0,1,1]) := by kernel_rfl
theorem k3_17 : P3 [1,1,1,0,1,0,0,1,0] = .block 1 (P3 [1,1,1,0,1,0,0,1,0,0]) := by kernel_rfl
theorem k3_18 : P3 [1,1,1,0,1,0,0,1,0,0] = .seq (P3 [1,1,1,0,1,0,0,1,0,0,0]) (P3 [1,1,1,0,1,0,0,1,0,0,1]) := by kernel_rfl
theorem k3_19 : P3 [1,1,1,0,1,0,0,1,0,0,0] = .region 6 (O3 [1,1,1,0,1,0,0,1,0,0,0]) true ∧ drawOk (O3 [1,1,1,0,1,0,0,1,0,0,0]) = false ∧ drawJ (O3 [1,1,1,0,1,0,0,1,0,0,0]) = true := ⟨by kernel_rfl, by kernel_rfl, by kernel_rfl⟩
theorem r3_6 {Ax1 : Option Addr} {lx1 cx1 : Nat} {x6 : Option Addr} {x8 : Int} {M : Mem} {call : CallM} {K : Array Value → Mem → R} :
    opsJ Try.prog (callAt call (O3 [1,1,1,0,1,0,0,1,0,0,0])) (O3 [1,1,1,0,1,0,0,1,0,0,0]) M.nb.size (ordJ (O3 [1,1,1,0,1,0,0,1,0,0,0])) [] #[g0,.slice Ax1 lx1 cx1,g2,g3,g4,g5,.pointer x6,g7,.int .i64 x8,g9,g10,g11,g12,g13,g14,g15,g16,g17,g18,g19,g20,g21,g22,g23,g24,g25,g26,g27,g28,g29,g30,g31,g32,g33,g34,g35,g36,g37,g38,g39,g40,g41,g42,g43,g44,g45,g46,g47,g48,g49,g50,g51,g52,g53,g54,g55,g56,g57,g58,g59,g60,g61,g62,g63,g64,g65,g66,g67,g68,g69,g70,g71,g72,g73,g74,g75,g76,g77,g78,g79,g80,g81,g82,g83,g84,g85,g86,g87,g88,g89,g90] (M.res (slots (O3 [1,1,1,0,1,0,0,1,0,0,0]))) K = (x6).bind fun a_1 => ((M.res 1).slAt a_1.block a_1.off).bind fun s_2 => ((M.res 1).intAt .i64 a_1.block (a_1.off + 1)).bind fun x_3 => (idxA Ax1 lx1 1 x8).bind fun a_4 => ((M.res 1).intAt .i64 a_4.block a_4.off).bind fun x_5 => (call 11 #[.agg #[.slice s_2.1 (s_2.2.1) (s_2.2.2), .int .i64 x_3], .int .i64 x_5] (M.res 1)).bind fun r_6 => (asU 2 r_6.1).bind fun cs_7 => (asA 2 (cs_7.getD 0 undef)).bind fun cs_8 => (asS (cs_8.getD 0 undef)).bind fun s_9 => (asI .i64 (cs_8.getD 1 undef)).bind fun x_10 => (asI .i64 (cs_7.getD 1 undef)).bind fun x_11 => ((r_6.2.upd (M.nb.size + 0) (.cells #[.slice none 0 0, .int .i64 0] 24)).put (2 * (M.nb.size + 0)) 0 (.slice s_9.1 (s_9.2.1) (s_9.2.2))).bind fun M_12 => (M_12.put (2 * (M.nb.size + 0)) 1 (.int .i64 x_10)).bind fun M_13 => K #[g0,.slice Ax1 lx1 cx1,g2,g3,g4,g5,.pointer x6,g7,.int .i64 x8,.pointer (some ⟨2 * (M.nb.size + 0), 0, none⟩),.int .i64 x_11,g11,g12,g13,g14,g15,g16,g17,g18,g19,g20,g21,g22,g23,g24,g25,g26,g27,g28,g29,g30,.tuple #[.agg #[.slice s_9.1 (s_9.2.1) (s_9.2.2), .int .i64 x_10], .int .i64 x_11],.agg #[.slice s_2.1 (s_2.2.1) (s_2.2.2), .int .i64 x_3],.slice Ax1 lx1 cx1,.int .i64 x8,.pointer (some a_4),.int .i64 x_5,.tuple #[.agg #[.slice s_9.1 (s_9.2.1) (s_9.2.2), .int .i64 x_10], .int .i64 x_11],.agg #[.slice s_9.1 (s_9.2.1) (s_9.2.2), .int .i64 x_10],.int .i64 x_11,g40,g41,g42,g43,g44,g45,g46,g47,g48,g49,g50,g51,g52,g53,g54,g55,g56,g57,g58,g59,g60,g61,g62,g63,g64,g65,g66,g67,g68,g69,g70,g71,g72,g73,g74,g75,g76,g77,g78,g79,g80,g81,g82,g83,g84,g85,g86,g87,g88,g89,g90] M_13 := by kernel_rfl
theorem k3_20 : P3 [1,1,1,0,1,0,0,1,0,0,1] = .seq (P3 [1,1,1,0,1,0,0,1,0,0,1,0]) (P3 [1,1,1,0,1,0,0,1,0,0,1,1]) := by kernel_rfl
theorem k3_21 : P3 [1,1,1,0,1,0,0,1,0,0,1,0] = .region 7 (O3 [1,1,1,0,1,0,0,1,0,0,1,0]) true ∧ drawOk (O3 [1,1,1,0,1,0,0,1,0,0,1,0]) = false ∧ drawJ (O3 [1,1,1,0,1,0,0,1,0,0,1,0]) = true := ⟨by kernel_rfl, by kernel_rfl, by kernel_rfl⟩
theorem r3_7 {Ax1 : Option Addr} {lx1 cx1 : Nat} {x7 : Option Addr} {x8 : Int} {M : Mem} {call : CallM} {K : Array Value → Mem → R} :
    opsJ Try.prog (callAt call (O3 [1,1,1,0,1,0,0,1,0,0,1,0])) (O3 [1,1,1,0,1,0,0,1,0,0,1,0]) M.nb.size (ordJ (O3 [1,1,1,0,1,0,0,1,0,0,1,0])) [] #[g0,.slice Ax1 lx1 cx1,g2,g3,g4,g5,g6,.pointer x7,.int .i64 x8,g9,g10,g11,g12,g13,g14,g15,g16,g17,g18,g19,g20,g21,g22,g23,g24,g25,g26,g27,g28,g29,g30,g31,g32,g33,g34,g35,g36,g37,g38,g39,g40,g41,g42,g43,g44,g45,g46,g47,g48,g49,g50,g51,g52,g53,g54,g55,g56,g57,g58,g59,g60,g61,g62,g63,g64,g65,g66,g67,g68,g69,g70,g71,g72,g73,g74,g75,g76,g77,g78,g79,g80,g81,g82,g83,g84,g85,g86,g87,g88,g89,g90] (M.res (slots (O3 [1,1,1,0,1,0,0,1,0,0,1,0]))) K = (x7).bind fun a_1 => ((M.res 1).slAt a_1.block a_1.off).bind fun s_2 => ((M.res 1).intAt .i64 a_1.block (a_1.off + 1)).bind fun x_3 => (idxA Ax1 lx1 1 x8).bind fun a_4 => ((M.res 1).intAt .i64 a_4.block a_4.off).bind fun x_5 => (call 12 #[.agg #[.slice s_2.1 (s_2.2.1) (s_2.2.2), .int .i64 x_3], .int .i64 x_5] (M.res 1)).bind fun r_6 => (asU 2 r_6.1).bind fun cs_7 => (asA 2 (cs_7.getD 0 undef)).bind fun cs_8 => (asS (cs_8.getD 0 undef)).bind fun s_9 => (asI .i64 (cs_8.getD 1 undef)).bind fun x_10 => (asI .i64 (cs_7.getD 1 undef)).bind fun x_11 => ((r_6.2.upd (M.nb.size + 0) (.cells #[.slice none 0 0, .int .i64 0] 24)).put (2 * (M.nb.size + 0)) 0 (.slice s_9.1 (s_9.2.1) (s_9.2.2))).bind fun M_12 => (M_12.put (2 * (M.nb.size + 0)) 1 (.int .i64 x_10)).bind fun M_13 => K #[g0,.slice Ax1 lx1 cx1,g2,g3,g4,g5,g6,.pointer x7,.int .i64 x8,g9,g10,.pointer (some ⟨2 * (M.nb.size + 0), 0, none⟩),.int .i64 x_11,g13,g14,g15,g16,g17,g18,g19,g20,g21,g22,g23,g24,g25,g26,g27,g28,g29,g30,g31,g32,g33,g34,g35,g36,g37,g38,g39,.tuple #[.agg #[.slice s_9.1 (s_9.2.1) (s_9.2.2), .int .i64 x_10], .int .i64 x_11],.agg #[.slice s_2.1 (s_2.2.1) (s_2.2.2), .int .i64 x_3],.slice Ax1 lx1 cx1,.int .i64 x8,.pointer (some a_4),.int .i64 x_5,.tuple #[.agg #[.slice s_9.1 (s_9.2.1) (s_9.2.2), .int .i64 x_10], .int .i64 x_11],.agg #[.slice s_9.1 (s_9.2.1) (s_9.2.2), .int .i64 x_10],.int .i64 x_11,g49,g50,g51,g52,g53,g54,g55,g56,g57,g58,g59,g60,g61,g62,g63,g64,g65,g66,g67,g68,g69,g70,g71,g72,g73,g74,g75,g76,g77,g78,g79,g80,g81,g82,g83,g84,g85,g86,g87,g88,g89,g90] M_13 := by kernel_rfl
theorem k3_22 : P3 [1,1,1,0,1,0,0,1,0,0,1,1] = .seq (P3 [1,1,1,0,1,0,0,1,0,0,1,1,0]) (P3 [1,1,1,0,1,0,0,1,0,0,1,1,1]) := by kernel_rfl
theorem k3_23 : P3 [1,1,1,0,1,0,0,1,0,0,1,1,0] = .seq (P3 [1,1,1,0,1,0,0,1,0,0,1,1,0,0]) (P3 [1,1,1,0,1,0,0,1,0,0,1,1,0,1]) := by kernel_rfl
theorem k3_24 : P3 [1,1,1,0,1,0,0,1,0,0,1,1,0,0] = .region 8 (O3 [1,1,1,0,1,0,0,1,0,0,1,1,0,0]) false := by kernel_rfl
theorem r3_8 {x2 x5 x9 : Option Addr} {x10 : Int} {x11 : Option Addr} {x12 : Int} {M : Mem} {call : CallM} {K : Array Value → Mem → R} :
    opsK Try.prog (fun _ => call) (O3 [1,1,1,0,1,0,0,1,0,0,1,1,0,0]) (O3 [1,1,1,0,1,0,0,1,0,0,1,1,0,0]).toList 0 #[g0,g1,.pointer x2,g3,g4,.pointer x5,g6,g7,g8,.pointer x9,.int .i64 x10,.pointer x11,.int .i64 x12,g13,g14,g15,g16,g17,g18,g19,g20,g21,g22,g23,g24,g25,g26,g27,g28,g29,g30,g31,g32,g33,g34,g35,g36,g37,g38,g39,g40,g41,g42,g43,g44,g45,g46,g47,g48,g49,g50,g51,g52,g53,g54,g55,g56,g57,g58,g59,g60,g61,g62,g63,g64,g65,g66,g67,g68,g69,g70,g71,g72,g73,g74,g75,g76,g77,g78,g79,g80,g81,g82,g83,g84,g85,g86,g87,g88,g89,g90] M K = withK (fun w52 w53 w54 w55 w56 w57 w58 w59 w60 w61 w62 w63 M => K #[g0,g1,.pointer x2,g3,g4,.pointer x5,g6,g7,g8,.pointer x9,.int .i64 x10,.pointer x11,.int .i64 x12,g13,g14,g15,g16,g17,g18,g19,g20,g21,g22,g23,g24,g25,g26,g27,g28,g29,g30,g31,g32,g33,g34,g35,g36,g37,g38,g39,g40,g41,g42,g43,g44,g45,g46,g47,g48,.int .i64 x10,.int .i64 x12,.bool (x10 != x12),w52,w53,w54,w55,w56,w57,w58,w59,w60,w61,w62,w63,g64,g65,g66,g67,g68,g69,g70,g71,g72,g73,g74,g75,g76,g77,g78,g79,g80,g81,g82,g83,g84,g85,g86,g87,g88,g89,g90] M) fun k => cond (x10 != x12) (k (.bool true) undef undef undef undef (.bool true) (.bool true) undef undef undef undef (.bool true) M) ((x9).bind fun a_1 => (M.slAt a_1.block a_1.off).bind fun s_2 => (M.intAt .i64 a_1.block (a_1.off + 1)).bind fun x_3 => (x11).bind fun a_4 => (M.slAt a_4.block a_4.off).bind fun s_5 => (M.intAt .i64 a_4.block (a_4.off + 1)).bind fun x_6 => (call 13 #[.agg #[.slice s_2.1 (s_2.2.1) (s_2.2.2), .int .i64 x_3], .agg #[.slice s_5.1 (s_5.2.1) (s_5.2.2), .int .i64 x_6]] M).bind fun r_7 => (asB r_7.1).bind fun b_8 => cond (!b_8) (k (.bool false) (.agg #[.slice s_2.1 (s_2.2.1) (s_2.2.2), .int .i64 x_3]) (.agg #[.slice s_5.1 (s_5.2.1) (s_5.2.2), .int .i64 x_6]) (.bool b_8) (.bool (!b_8)) (.bool (!b_8)) (.bool true) undef undef undef undef (.bool true) r_7.2) ((x5).bind fun a_9 => (r_7.2.slAt a_9.block a_9.off).bind fun s_10 => (r_7.2.intAt .i64 a_9.block (a_9.off + 1)).bind fun x_11 => (x2).bind fun a_12 => (r_7.2.slAt a_12.block a_12.off).bind fun s_13 => (r_7.2.intAt .i64 a_12.block (a_12.off + 1)).bind fun x_14 => (call 14 #[.agg #[.slice s_10.1 (s_10.2.1) (s_10.2.2), .int .i64 x_11], .agg #[.slice s_13.1 (s_13.2.1) (s_13.2.2), .int .i64 x_14]] r_7.2).bind fun r_15 => (asB r_15.1).bind fun b_16 => k (.bool false) (.agg #[.slice s_2.1 (s_2.2.1) (s_2.2.2), .int .i64 x_3]) (.agg #[.slice s_5.1 (s_5.2.1) (s_5.2.2), .int .i64 x_6]) (.bool b_8) (.bool (!b_8)) (.bool (!b_8)) (.bool false) (.agg #[.slice s_10.1 (s_10.2.1) (s_10.2.2), .int .i64 x_11]) (.agg #[.slice s_13.1 (s_13.2.1) (s_13.2.2), .int .i64 x_14]) (.bool b_16) (.bool (!b_16)) (.bool (!b_16)) r_15.2)) := by kernel_rfl
theorem k3_25 : P3 [1,1,1,0,1,0,0,0,1,1] = .exit 0 := by kernel_rfl
theorem k3_26 : P3 [1,1,1,1] = .seq (P3 [1,1,1,1,0]) (P3 [1,1,1,1,1]) := by kernel_rfl
theorem k3_27 : P3 [1,1,1,1,0] = .region 12 (O3 [1,1,1,1,0]) false := by kernel_rfl
theorem r3_12 {x5 : Option Addr} {M : Mem} {call : CallM} {K : Array Value → Mem → R} :
    opsK Try.prog (fun _ => call) (O3 [1,1,1,1,0]) (O3 [1,1,1,1,0]).toList 0 #[g0,g1,g2,g3,g4,.pointer x5,g6,g7,g8,g9,g10,g11,g12,g13,g14,g15,g16,g17,g18,g19,g20,g21,g22,g23,g24,g25,g26,g27,g28,g29,g30,g31,g32,g33,g34,g35,g36,g37,g38,g39,g40,g41,g42,g43,g44,g45,g46,g47,g48,g49,g50,g51,g52,g53,g54,g55,g56,g57,g58,g59,g60,g61,g62,g63,g64,g65,g66,g67,g68,g69,g70,g71,g72,g73,g74,g75,g76,g77,g78,g79,g80,g81,g82,g83,g84,g85,g86,g87,g88,g89,g90] M K = (x5).bind fun a_1 => (M.slAt a_1.block a_1.off).bind fun s_2 => (M.intAt .i64 a_1.block (a_1.off + 1)).bind fun x_3 => (call 11 #[.agg #[.slice s_2.1 (s_2.2.1) (s_2.2.2), .int .i64 x_3], .int .i64 0] M).bind fun r_4 => (asU 2 r_4.1).bind fun cs_5 => (asA 2 (cs_5.getD 0 undef)).bind fun cs_6 => (asS (cs_6.getD 0 undef)).bind fun s_7 => (asI .i64 (cs_6.getD 1 undef)).bind fun x_8 => (asI .i64 (cs_5.getD 1 undef)).bind fun x_9 => ((r_4.2.new (.cells #[.slice none 0 0, .int .i64 0] 24)).put (2 * r_4.2.nb.size) 0 (.slice s_7.1 (s_7.2.1) (s_7.2.2))).bind fun M_10 => (M_10.put (2 * r_4.2.nb.size) 1 (.int .i64 x_8)).bind fun M_11 => K #[g0,g1,g2,g3,g4,.pointer x5,g6,g7,g8,g9,g10,g11,g12,.pointer (some ⟨2 * r_4.2.nb.size, 0, none⟩),.int .i64 x_9,g15,g16,g17,g18,g19,g20,g21,g22,g23,g24,g25,g26,g27,g28,g29,g30,g31,g32,g33,g34,g35,g36,g37,g38,g39,g40,g41,g42,g43,g44,g45,g46,g47,g48,g49,g50,g51,g52,g53,g54,g55,g56,g57,g58,g59,g60,g61,g62,g63,g64,g65,g66,g67,.tuple #[.agg #[.slice s_7.1 (s_7.2.1) (s_7.2.2), .int .i64 x_8], .int .i64 x_9],.agg #[.slice s_2.1 (s_2.2.1) (s_2.2.2), .int .i64 x_3],.tuple #[.agg #[.slice s_7.1 (s_7.2.1) (s_7.2.2), .int .i64 x_8], .int .i64 x_9],.agg #[.slice s_7.1 (s_7.2.1) (s_7.2.2), .int .i64 x_8],.int .i64 x_9,g73,g74,g75,g76,g77,g78,g79,g80,g81,g82,g83,g84,g85,g86,g87,g88,g89,g90] M_11 := by kernel_rfl
theorem k3_28 : P3 [1,1,1,1,1] = .seq (P3 [1,1,1,1,1,0]) (P3 [1,1,1,1,1,1]) := by kernel_rfl
theorem k3_29 : P3 [1,1,1,1,1,0] = .region 13 (O3 [1,1,1,1,1,0]) false := by kernel_rfl
theorem r3_13 {x2 : Option Addr} {M : Mem} {call : CallM} {K : Array Value → Mem → R} :
    opsK Try.prog (fun _ => call) (O3 [1,1,1,1,1,0]) (O3 [1,1,1,1,1,0]).toList 0 #[g0,g1,.pointer x2,g3,g4,g5,g6,g7,g8,g9,g10,g11,g12,g13,g14,g15,g16,g17,g18,g19,g20,g21,g22,g23,g24,g25,g26,g27,g28,g29,g30,g31,g32,g33,g34,g35,g36,g37,g38,g39,g40,g41,g42,g43,g44,g45,g46,g47,g48,g49,g50,g51,g52,g53,g54,g55,g56,g57,g58,g59,g60,g61,g62,g63,g64,g65,g66,g67,g68,g69,g70,g71,g72,g73,g74,g75,g76,g77,g78,g79,g80,g81,g82,g83,g84,g85,g86,g87,g88,g89,g90] M K = (x2).bind fun a_1 => (M.slAt a_1.block a_1.off).bind fun s_2 => (M.intAt .i64 a_1.block (a_1.off + 1)).bind fun x_3 => (call 12 #[.agg #[.slice s_2.1 (s_2.2.1) (s_2.2.2), .int .i64 x_3], .int .i64 0] M).bind fun r_4 => (asU 2 r_4.1).bind fun cs_5 => (asA 2 (cs_5.getD 0 undef)).bind fun cs_6 => (asS (cs_6.getD 0 undef)).bind fun s_7 => (asI .i64 (cs_6.getD 1 undef)).bind fun x_8 => (asI .i64 (cs_5.getD 1 undef)).bind fun x_9 => ((r_4.2.new (.cells #[.slice none 0 0, .int .i64 0] 24)).put (2 * r_4.2.nb.size) 0 (.slice s_7.1 (s_7.2.1) (s_7.2.2))).bind fun M_10 => (M_10.put (2 * r_4.2.nb.size) 1 (.int .i64 x_8)).bind fun M_11 => K #[g0,g1,.pointer x2,g3,g4,g5,g6,g7,g8,g9,g10,g11,g12,g13,g14,.pointer (some ⟨2 * r_4.2.nb.size, 0, none⟩),.int .i64 x_9,g17,g18,g19,g20,g21,g22,g23,g24,g25,g26,g27,g28,g29,g30,g31,g32,g33,g34,g35,g36,g37,g38,g39,g40,g41,g42,g43,g44,g45,g46,g47,g48,g49,g50,g51,g52,g53,g54,g55,g56,g57,g58,g59,g60,g61,g62,g63,g64,g65,g66,g67,g68,g69,g70,g71,g72,.tuple #[.agg #[.slice s_7.1 (s_7.2.1) (s_7.2.2), .int .i64 x_8], .int .i64 x_9],.agg #[.slice s_2.1 (s_2.2.1) (s_2.2.2), .int .i64 x_3],.tuple #[.agg #[.slice s_7.1 (s_7.2.1) (s_7.2.2), .int .i64 x_8], .int .i64 x_9],.agg #[.slice s_7.1 (s_7.2.1) (s_7.2.2), .int .i64 x_8],.int .i64 x_9,g78,g79,g80,g81,g82,g83,g84,g85,g86,g87,g88,g89,g90] M_11 := by kernel_rfl
theorem k3_30 : P3 [1,1,1,1,1,1] = .seq (P3 [1,1,1,1,1,1,0]) (P3 [1,1,1,1,1,1,1]) := by kernel_rfl
theorem k3_31 : P3 [1,1,1,1,1,1,0] = .region 14 (O3 [1,1,1,1,1,1,0]) false := by kernel_rfl
theorem r3_14 {x2 x5 x13 : Option Addr} {x14 : Int} {x15 : Option Addr} {x16 : Int} {M : Mem} {call : CallM} {K : Array Value → Mem → R} :
    opsK Try.prog (fun _ => call) (O3 [1,1,1,1,1,1,0]) (O3 [1,1,1,1,1,1,0]).toList 0 #[g0,g1,.pointer x2,g3,g4,.pointer x5,g6,g7,g8,g9,g10,g11,g12,.pointer x13,.int .i64 x14,.pointer x15,.int .i64 x16,g17,g18,g19,g20,g21,g22,g23,g24,g25,g26,g27,g28,g29,g30,g31,g32,g33,g34,g35,g36,g37,g38,g39,g40,g41,g42,g43,g44,g45,g46,g47,g48,g49,g50,g51,g52,g53,g54,g55,g56,g57,g58,g59,g60,g61,g62,g63,g64,g65,g66,g67,g68,g69,g70,g71,g72,g73,g74,g75,g76,g77,g78,g79,g80,g81,g82,g83,g84,g85,g86,g87,g88,g89,g90] M K = withK (fun w4 w78 w80 w82 w83 w84 w85 w86 w87 w88 w89 w90 M => K #[g0,g1,.pointer x2,g3,w4,.pointer x5,g6,g7,g8,g9,g10,g11,g12,.pointer x13,.int .i64 x14,.pointer x15,.int .i64 x16,g17,g18,g19,g20,g21,g22,g23,g24,g25,g26,g27,g28,g29,g30,g31,g32,g33,g34,g35,g36,g37,g38,g39,g40,g41,g42,g43,g44,g45,g46,g47,g48,g49,g50,g51,g52,g53,g54,g55,g56,g57,g58,g59,g60,g61,g62,g63,g64,g65,g66,g67,g68,g69,g70,g71,g72,g73,g74,g75,g76,g77,w78,.int .i64 x14,w80,.int .i64 x16,w82,w83,w84,w85,w86,w87,w88,w89,w90] M) fun k => (x13).bind fun a_1 => (M.slAt a_1.block a_1.off).bind fun s_2 => (M.intAt .i64 a_1.block (a_1.off + 1)).bind fun x_3 => (x15).bind fun a_4 => (M.slAt a_4.block a_4.off).bind fun s_5 => (M.intAt .i64 a_4.block (a_4.off + 1)).bind fun x_6 => (call 15 #[.agg #[.slice s_2.1 (s_2.2.1) (s_2.2.2), .int .i64 x_3], .int .i64 x14, .agg #[.slice s_5.1 (s_5.2.1) (s_5.2.2), .int .i64 x_6], .int .i64 x16] M).bind fun r_7 => (asB r_7.1).bind fun b_8 => cond b_8 ((x5).bind fun a_9 => (r_7.2.slAt a_9.block a_9.off).bind fun s_10 => (r_7.2.intAt .i64 a_9.block (a_9.off + 1)).bind fun x_11 => (x2).bind fun a_12 => (r_7.2.slAt a_12.block a_12.off).bind fun s_13 => (r_7.2.intAt .i64 a_12.block (a_12.off + 1)).bind fun x_14 => (call 14 #[.agg #[.slice s_10.1 (s_10.2.1) (s_10.2.2), .int .i64 x_11], .agg #[.slice s_13.1 (s_13.2.1) (s_13.2.2), .int .i64 x_14]] r_7.2).bind fun r_15 => (asB r_15.1).bind fun b_16 => cond b_16 ((call 16 #[] r_15.2).bind fun r_17 => (asB r_17.1).bind fun b_18 => k (.bool b_18) (.agg #[.slice s_2.1 (s_2.2.1) (s_2.2.2), .int .i64 x_3]) (.agg #[.slice s_5.1 (s_5.2.1) (s_5.2.2), .int .i64 x_6]) (.bool b_8) (.bool true) (.agg #[.slice s_10.1 (s_10.2.1) (s_10.2.2), .int .i64 x_11]) (.agg #[.slice s_13.1 (s_13.2.1) (s_13.2.2), .int .i64 x_14]) (.bool b_16) (.bool b_16) (.bool true) (.bool b_18) (.bool b_18) r_17.2) (k (.bool false) (.agg #[.slice s_2.1 (s_2.2.1) (s_2.2.2), .int .i64 x_3]) (.agg #[.slice s_5.1 (s_5.2.1) (s_5.2.2), .int .i64 x_6]) (.bool b_8) (.bool true) (.agg #[.slice s_10.1 (s_10.2.1) (s_10.2.2), .int .i64 x_11]) (.agg #[.slice s_13.1 (s_13.2.1) (s_13.2.2), .int .i64 x_14]) (.bool b_16) (.bool b_16) (.bool false) undef (.bool false) r_15.2)) (k (.bool false) (.agg #[.slice s_2.1 (s_2.2.1) (s_2.2.2), .int .i64 x_3]) (.agg #[.slice s_5.1 (s_5.2.1) (s_5.2.2), .int .i64 x_6]) (.bool b_8) (.bool false) undef undef undef (.bool false) (.bool false) undef (.bool false) r_7.2) := by kernel_rfl
theorem k3_32 : P3 [1,1,1,1,1,1,1] = .ret := by kernel_rfl
theorem e3 {M : Mem} : finish Try.prog Try.f3 #[g0,g1,g2,g3,g4,g5,g6,g7,g8,g9,g10,g11,g12,g13,g14,g15,g16,g17,g18,g19,g20,g21,g22,g23,g24,g25,g26,g27,g28,g29,g30,g31,g32,g33,g34,g35,g36,g37,g38,g39,g40,g41,g42,g43,g44,g45,g46,g47,g48,g49,g50,g51,g52,g53,g54,g55,g56,g57,g58,g59,g60,g61,g62,g63,g64,g65,g66,g67,g68,g69,g70,g71,g72,g73,g74,g75,g76,g77,g78,g79,g80,g81,g82,g83,g84,g85,g86,g87,g88,g89,g90] M = some (g4, M) := by kernel_rfl
theorem c3_34 : P3 [1,1,1,0,1,0,0,1,0,0,1,1,0,1] = .cond (.tmp 63) (P3 [1,1,1,0,1,0,0,1,0,0,1,1,0,1,0]) (P3 [1,1,1,0,1,0,0,1,0,0,1,1,0,1,1]) := by kernel_rfl
theorem k3_35 : P3 [1,1,1,0,1,0,0,1,0,0,1,1,0,1,0] = .seq (P3 [1,1,1,0,1,0,0,1,0,0,1,1,0,1,0,0]) (P3 [1,1,1,0,1,0,0,1,0,0,1,1,0,1,0,1]) := by kernel_rfl
theorem k3_36 : P3 [1,1,1,0,1,0,0,1,0,0,1,1,0,1,0,0] = .region 9 (O3 [1,1,1,0,1,0,0,1,0,0,1,1,0,1,0,0]) false := by kernel_rfl
theorem r3_9 {M : Mem} {call : CallM} {K : Array Value → Mem → R} :
    opsK Try.prog (fun _ => call) (O3 [1,1,1,0,1,0,0,1,0,0,1,1,0,1,0,0]) (O3 [1,1,1,0,1,0,0,1,0,0,1,1,0,1,0,0]).toList 0 #[g0,g1,g2,g3,g4,g5,g6,g7,g8,g9,g10,g11,g12,g13,g14,g15,g16,g17,g18,g19,g20,g21,g22,g23,g24,g25,g26,g27,g28,g29,g30,g31,g32,g33,g34,g35,g36,g37,g38,g39,g40,g41,g42,g43,g44,g45,g46,g47,g48,g49,g50,g51,g52,g53,g54,g55,g56,g57,g58,g59,g60,g61,g62,g63,g64,g65,g66,g67,g68,g69,g70,g71,g72,g73,g74,g75,g76,g77,g78,g79,g80,g81,g82,g83,g84,g85,g86,g87,g88,g89,g90] M K = K #[g0,g1,g2,g3,.bool false,g5,g6,g7,g8,g9,g10,g11,g12,g13,g14,g15,g16,g17,g18,g19,g20,g21,g22,g23,g24,g25,g26,g27,g28,g29,g30,g31,g32,g33,g34,g35,g36,g37,g38,g39,g40,g41,g42,g43,g44,g45,g46,g47,g48,g49,g50,g51,g52,g53,g54,g55,g56,g57,g58,g59,g60,g61,g62,g63,g64,g65,g66,g67,g68,g69,g70,g71,g72,g73,g74,g75,g76,g77,g78,g79,g80,g81,g82,g83,g84,g85,g86,g87,g88,g89,g90] M := by kernel_rfl
theorem k3_37 : P3 [1,1,1,0,1,0,0,1,0,0,1,1,0,1,0,1] = .ret := by kernel_rfl
theorem k3_38 : P3 [1,1,1,0,1,0,0,1,0,0,1,1,0,1,1] = .skip := by kernel_rfl
theorem k3_39 : P3 [1,1,1,0,1,0,0,1,0,0,1,1,1] = .seq (P3 [1,1,1,0,1,0,0,1,0,0,1,1,1,0]) (P3 [1,1,1,0,1,0,0,1,0,0,1,1,1,1]) := by kernel_rfl
theorem k3_40 : P3 [1,1,1,0,1,0,0,1,0,0,1,1,1,0] = .region 10 (O3 [1,1,1,0,1,0,0,1,0,0,1,1,1,0]) false := by kernel_rfl
theorem r3_10 {x10 : Int} {M : Mem} {call : CallM} {K : Array Value → Mem → R} :
    opsK Try.prog (fun _ => call) (O3 [1,1,1,0,1,0,0,1,0,0,1,1,1,0]) (O3 [1,1,1,0,1,0,0,1,0,0,1,1,1,0]).toList 0 #[g0,g1,g2,g3,g4,g5,g6,g7,g8,g9,.int .i64 x10,g11,g12,g13,g14,g15,g16,g17,g18,g19,g20,g21,g22,g23,g24,g25,g26,g27,g28,g29,g30,g31,g32,g33,g34,g35,g36,g37,g38,g39,g40,g41,g42,g43,g44,g45,g46,g47,g48,g49,g50,g51,g52,g53,g54,g55,g56,g57,g58,g59,g60,g61,g62,g63,g64,g65,g66,g67,g68,g69,g70,g71,g72,g73,g74,g75,g76,g77,g78,g79,g80,g81,g82,g83,g84,g85,g86,g87,g88,g89,g90] M K = K #[g0,g1,g2,g3,g4,g5,g6,g7,g8,g9,.int .i64 x10,g11,g12,g13,g14,g15,g16,g17,g18,g19,g20,g21,g22,g23,g24,g25,g26,g27,g28,g29,g30,g31,g32,g33,g34,g35,g36,g37,g38,g39,g40,g41,g42,g43,g44,g45,g46,g47,g48,g49,g50,g51,g52,g53,g54,g55,g56,g57,g58,g59,g60,g61,g62,g63,.int .i64 x10,.bool (x10 == 0),g66,g67,g68,g69,g70,g71,g72,g73,g74,g75,g76,g77,g78,g79,g80,g81,g82,g83,g84,g85,g86,g87,g88,g89,g90] M := by kernel_rfl
theorem c3_41 : P3 [1,1,1,0,1,0,0,1,0,0,1,1,1,1] = .cond (.tmp 65) (P3 [1,1,1,0,1,0,0,1,0,0,1,1,1,1,0]) (P3 [1,1,1,0,1,0,0,1,0,0,1,1,1,1,1]) := by kernel_rfl
theorem k3_42 : P3 [1,1,1,0,1,0,0,1,0,0,1,1,1,1,0] = .region 11 (O3 [1,1,1,0,1,0,0,1,0,0,1,1,1,1,0]) true ∧ drawOk (O3 [1,1,1,0,1,0,0,1,0,0,1,1,1,1,0]) = true := ⟨by kernel_rfl, by kernel_rfl⟩
theorem r3_11 {x6 x7 x9 x11 : Option Addr} {M : Mem} {call : CallM} {K : Array Value → Mem → R} :
    opsI Try.prog (callAt call (O3 [1,1,1,0,1,0,0,1,0,0,1,1,1,1,0])) (O3 [1,1,1,0,1,0,0,1,0,0,1,1,1,1,0]) (ordOf (O3 [1,1,1,0,1,0,0,1,0,0,1,1,1,1,0])) [] #[g0,g1,g2,g3,g4,g5,.pointer x6,.pointer x7,g8,.pointer x9,g10,.pointer x11,g12,g13,g14,g15,g16,g17,g18,g19,g20,g21,g22,g23,g24,g25,g26,g27,g28,g29,g30,g31,g32,g33,g34,g35,g36,g37,g38,g39,g40,g41,g42,g43,g44,g45,g46,g47,g48,g49,g50,g51,g52,g53,g54,g55,g56,g57,g58,g59,g60,g61,g62,g63,g64,g65,g66,g67,g68,g69,g70,g71,g72,g73,g74,g75,g76,g77,g78,g79,g80,g81,g82,g83,g84,g85,g86,g87,g88,g89,g90] M K = (x9).bind fun a_1 => (M.slAt a_1.block a_1.off).bind fun s_2 => (M.intAt .i64 a_1.block (a_1.off + 1)).bind fun x_3 => (x11).bind fun a_4 => (M.slAt a_4.block a_4.off).bind fun s_5 => (M.intAt .i64 a_4.block (a_4.off + 1)).bind fun x_6 => cond (decide (Option.map (fun a : Addr => a.block) x6 = Option.map (fun a : Addr => a.block) x11)) (none) ((x6).bind fun a_7 => (M.put a_7.block a_7.off (.slice s_2.1 (s_2.2.1) (s_2.2.2))).bind fun M_8 => (M_8.put a_7.block (a_7.off + 1) (.int .i64 x_3)).bind fun M_9 => (x7).bind fun a_10 => (M_9.put a_10.block a_10.off (.slice s_5.1 (s_5.2.1) (s_5.2.2))).bind fun M_11 => (M_11.put a_10.block (a_10.off + 1) (.int .i64 x_6)).bind fun M_12 => K #[g0,g1,g2,g3,g4,g5,.pointer x6,.pointer x7,g8,.pointer x9,g10,.pointer x11,g12,g13,g14,g15,g16,g17,g18,g19,g20,g21,g22,g23,g24,g25,g26,g27,g28,g29,g30,g31,g32,g33,g34,g35,g36,g37,g38,g39,g40,g41,g42,g43,g44,g45,g46,g47,g48,g49,g50,g51,g52,g53,g54,g55,g56,g57,g58,g59,g60,g61,g62,g63,g64,g65,.agg #[.slice s_2.1 (s_2.2.1) (s_2.2.2), .int .i64 x_3],.agg #[.slice s_5.1 (s_5.2.1) (s_5.2.2), .int .i64 x_6],g68,g69,g70,g71,g72,g73,g74,g75,g76,g77,g78,g79,g80,g81,g82,g83,g84,g85,g86,g87,g88,g89,g90] M_12) := by kernel_rfl
theorem k3_43 : P3 [1,1,1,0,1,0,0,1,0,0,1,1,1,1,1] = .skip := by kernel_rfl
theorem k3_44 : P3 [1,1,1,0,1,0,0,1,1] = .region 5 (O3 [1,1,1,0,1,0,0,1,1]) false := by kernel_rfl
theorem r3_5 {x8 : Int} {M : Mem} {call : CallM} {K : Array Value → Mem → R} :
    opsK Try.prog (fun _ => call) (O3 [1,1,1,0,1,0,0,1,1]) (O3 [1,1,1,0,1,0,0,1,1]).toList 0 #[g0,g1,g2,g3,g4,g5,g6,g7,.int .i64 x8,g9,g10,g11,g12,g13,g14,g15,g16,g17,g18,g19,g20,g21,g22,g23,g24,g25,g26,g27,g28,g29,g30,g31,g32,g33,g34,g35,g36,g37,g38,g39,g40,g41,g42,g43,g44,g45,g46,g47,g48,g49,g50,g51,g52,g53,g54,g55,g56,g57,g58,g59,g60,g61,g62,g63,g64,g65,g66,g67,g68,g69,g70,g71,g72,g73,g74,g75,g76,g77,g78,g79,g80,g81,g82,g83,g84,g85,g86,g87,g88,g89,g90] M K = K #[g0,g1,g2,g3,g4,g5,g6,g7,.int .i64 (IntKind.i64.wrap (x8 + 1)),g9,g10,g11,g12,g13,g14,g15,g16,g17,g18,g19,g20,g21,g22,g23,g24,g25,g26,g27,g28,.int .i64 x8,.int .i64 (IntKind.i64.wrap (x8 + 1)),g31,g32,g33,g34,g35,g36,g37,g38,g39,g40,g41,g42,g43,g44,g45,g46,g47,g48,g49,g50,g51,g52,g53,g54,g55,g56,g57,g58,g59,g60,g61,g62,g63,g64,g65,g66,g67,g68,g69,g70,g71,g72,g73,g74,g75,g76,g77,g78,g79,g80,g81,g82,g83,g84,g85,g86,g87,g88,g89,g90] M := by kernel_rfl
noncomputable def S3_1 : List Item := [.code (P3 [1,1,1,0,1,0,0]), .inLoop (P3 [1,1,1,0,1,0,0]), .inBlock 0, .code (P3 [1,1,1,1])]
def A3_1 (Ax1 : Option Addr) (lx1 cx1 : Nat) (x2 x5 x6 x7 : Option Addr) (x8 : Int) (M : Mem) (Q : Value → Mem → Prop) : Prop := ∀ (g0 g3 g4 g9 g10 g11 g12 g13 g14 g15 g16 g17 g18 g19 g20 g21 g22 g23 g24 g25 g26 g27 g28 g29 g30 g31 g32 g33 g34 g35 g36 g37 g38 g39 g40 g41 g42 g43 g44 g45 g46 g47 g48 g49 g50 g51 g52 g53 g54 g55 g56 g57 g58 g59 g60 g61 g62 g63 g64 g65 g66 g67 g68 g69 g70 g71 g72 g73 g74 g75 g76 g77 g78 g79 g80 g81 g82 g83 g84 g85 g86 g87 g88 g89 g90 : Value), Rn Try.prog Try.f3 S3_1 #[g0, .slice Ax1 lx1 cx1, .pointer x2, g3, g4, .pointer x5, .pointer x6, .pointer x7, .int .i64 x8, g9, g10, g11, g12, g13, g14, g15, g16, g17, g18, g19, g20, g21, g22, g23, g24, g25, g26, g27, g28, g29, g30, g31, g32, g33, g34, g35, g36, g37, g38, g39, g40, g41, g42, g43, g44, g45, g46, g47, g48, g49, g50, g51, g52, g53, g54, g55, g56, g57, g58, g59, g60, g61, g62, g63, g64, g65, g66, g67, g68, g69, g70, g71, g72, g73, g74, g75, g76, g77, g78, g79, g80, g81, g82, g83, g84, g85, g86, g87, g88, g89, g90] M Q
noncomputable def S3_2 : List Item := [.code (P3 [1,1,1,0,1,0,0,0,1]), .code (P3 [1,1,1,0,1,0,0,1]), .inLoop (P3 [1,1,1,0,1,0,0]), .inBlock 0, .code (P3 [1,1,1,1])]
def A3_2 (Ax1 : Option Addr) (lx1 cx1 : Nat) (x2 x5 x6 x7 : Option Addr) (x8 : Int) (x28 : Bool) (M : Mem) (Q : Value → Mem → Prop) : Prop := ∀ (g0 g3 g4 g9 g10 g11 g12 g13 g14 g15 g16 g17 g18 g19 g20 g21 g22 g23 g24 g25 g26 g27 g29 g30 g31 g32 g33 g34 g35 g36 g37 g38 g39 g40 g41 g42 g43 g44 g45 g46 g47 g48 g49 g50 g51 g52 g53 g54 g55 g56 g57 g58 g59 g60 g61 g62 g63 g64 g65 g66 g67 g68 g69 g70 g71 g72 g73 g74 g75 g76 g77 g78 g79 g80 g81 g82 g83 g84 g85 g86 g87 g88 g89 g90 : Value), Rn Try.prog Try.f3 S3_2 #[g0, .slice Ax1 lx1 cx1, .pointer x2, g3, g4, .pointer x5, .pointer x6, .pointer x7, .int .i64 x8, g9, g10, g11, g12, g13, g14, g15, g16, g17, g18, g19, g20, g21, g22, g23, g24, g25, g26, g27, .bool x28, g29, g30, g31, g32, g33, g34, g35, g36, g37, g38, g39, g40, g41, g42, g43, g44, g45, g46, g47, g48, g49, g50, g51, g52, g53, g54, g55, g56, g57, g58, g59, g60, g61, g62, g63, g64, g65, g66, g67, g68, g69, g70, g71, g72, g73, g74, g75, g76, g77, g78, g79, g80, g81, g82, g83, g84, g85, g86, g87, g88, g89, g90] M Q
noncomputable def S3_3 : List Item := [.code (P3 [1,1,1,0,1,0,0,1,0,0,1,1,0,1]), .code (P3 [1,1,1,0,1,0,0,1,0,0,1,1,1]), .inBlock 1, .code (P3 [1,1,1,0,1,0,0,1,1]), .inLoop (P3 [1,1,1,0,1,0,0]), .inBlock 0, .code (P3 [1,1,1,1])]
def A3_3 (Ax1 : Option Addr) (lx1 cx1 : Nat) (x2 x5 x6 x7 : Option Addr) (x8 : Int) (x9 : Option Addr) (x10 : Int) (x11 : Option Addr) (x63 : Bool) (M : Mem) (Q : Value → Mem → Prop) : Prop := ∀ (g0 g3 g4 g12 g13 g14 g15 g16 g17 g18 g19 g20 g21 g22 g23 g24 g25 g26 g27 g28 g29 g30 g31 g32 g33 g34 g35 g36 g37 g38 g39 g40 g41 g42 g43 g44 g45 g46 g47 g48 g49 g50 g51 g52 g53 g54 g55 g56 g57 g58 g59 g60 g61 g62 g64 g65 g66 g67 g68 g69 g70 g71 g72 g73 g74 g75 g76 g77 g78 g79 g80 g81 g82 g83 g84 g85 g86 g87 g88 g89 g90 : Value), Rn Try.prog Try.f3 S3_3 #[g0, .slice Ax1 lx1 cx1, .pointer x2, g3, g4, .pointer x5, .pointer x6, .pointer x7, .int .i64 x8, .pointer x9, .int .i64 x10, .pointer x11, g12, g13, g14, g15, g16, g17, g18, g19, g20, g21, g22, g23, g24, g25, g26, g27, g28, g29, g30, g31, g32, g33, g34, g35, g36, g37, g38, g39, g40, g41, g42, g43, g44, g45, g46, g47, g48, g49, g50, g51, g52, g53, g54, g55, g56, g57, g58, g59, g60, g61, g62, .bool x63, g64, g65, g66, g67, g68, g69, g70, g71, g72, g73, g74, g75, g76, g77, g78, g79, g80, g81, g82, g83, g84, g85, g86, g87, g88, g89, g90] M Q
noncomputable def S3_4 : List Item := [.code (P3 [1,1,1,0,1,0,0,1,1]), .inLoop (P3 [1,1,1,0,1,0,0]), .inBlock 0, .code (P3 [1,1,1,1])]
def A3_4 (Ax1 : Option Addr) (lx1 cx1 : Nat) (x2 x5 x6 x7 : Option Addr) (x8 : Int) (M : Mem) (Q : Value → Mem → Prop) : Prop := ∀ (g0 g3 g4 g9 g10 g11 g12 g13 g14 g15 g16 g17 g18 g19 g20 g21 g22 g23 g24 g25 g26 g27 g28 g29 g30 g31 g32 g33 g34 g35 g36 g37 g38 g39 g40 g41 g42 g43 g44 g45 g46 g47 g48 g49 g50 g51 g52 g53 g54 g55 g56 g57 g58 g59 g60 g61 g62 g63 g64 g65 g66 g67 g68 g69 g70 g71 g72 g73 g74 g75 g76 g77 g78 g79 g80 g81 g82 g83 g84 g85 g86 g87 g88 g89 g90 : Value), Rn Try.prog Try.f3 S3_4 #[g0, .slice Ax1 lx1 cx1, .pointer x2, g3, g4, .pointer x5, .pointer x6, .pointer x7, .int .i64 x8, g9, g10, g11, g12, g13, g14, g15, g16, g17, g18, g19, g20, g21, g22, g23, g24, g25, g26, g27, g28, g29, g30, g31, g32, g33, g34, g35, g36, g37, g38, g39, g40, g41, g42, g43, g44, g45, g46, g47, g48, g49, g50, g51, g52, g53, g54, g55, g56, g57, g58, g59, g60, g61, g62, g63, g64, g65, g66, g67, g68, g69, g70, g71, g72, g73, g74, g75, g76, g77, g78, g79, g80, g81, g82, g83, g84, g85, g86, g87, g88, g89, g90] M Q
theorem w3_0 {Ax0_0 : Option Addr} {lx0_0 cx0_0 : Nat} {x0_1 : Int} {Ax1 : Option Addr} {lx1 cx1 : Nat} {M : Mem} {Q : Value → Mem → Prop} (H :
    ∃ s1', (M.new (.cells #[.slice Ax0_0 lx0_0 cx0_0, .int .i64 x0_1] 24)).slAt (2 * M.nb.size) 0 = some s1' ∧
    ∃ x2', (M.new (.cells #[.slice Ax0_0 lx0_0 cx0_0, .int .i64 x0_1] 24)).intAt .i64 (2 * M.nb.size) (0 + 1) = some x2' ∧
    Cn Try.prog 10 #[.agg #[.slice s1'.1 (s1'.2.1) (s1'.2.2), .int .i64 x2']] (M.new (.cells #[.slice Ax0_0 lx0_0 cx0_0, .int .i64 x0_1] 24)) fun v3' N3' =>
     ∃ cs4', asA 2 v3' = some cs4' ∧
     ∃ s5', asS (cs4'.getD 0 undef) = some s5' ∧
     ∃ x6', asI .i64 (cs4'.getD 1 undef) = some x6' ∧
     ∃ M7', (N3'.new (.cells #[.slice none 0 0, .int .i64 0] 24)).put (2 * N3'.nb.size) 0 (.slice s5'.1 (s5'.2.1) (s5'.2.2)) = some M7' ∧
     ∃ M8', M7'.put (2 * N3'.nb.size) 1 (.int .i64 x6') = some M8' ∧
     ∃ s9', (M8'.res 2).slAt (2 * N3'.nb.size) 0 = some s9' ∧
     ∃ x10', (M8'.res 2).intAt .i64 (2 * N3'.nb.size) (0 + 1) = some x10' ∧
     ∃ s11', (M8'.res 2).slAt (2 * M.nb.size) 0 = some s11' ∧
     ∃ x12', (M8'.res 2).intAt .i64 (2 * M.nb.size) (0 + 1) = some x12' ∧
     ((some (2 * (M8'.nb.size + 0)) = Option.map (fun a : Addr => a.block) (some ⟨2 * M.nb.size, 0, none⟩) →
      False) ∧
      (¬ (some (2 * (M8'.nb.size + 0)) = Option.map (fun a : Addr => a.block) (some ⟨2 * M.nb.size, 0, none⟩)) →
      ∃ M13', (((M8'.res 2).upd (M8'.nb.size + 0) (.cells #[.slice none 0 0, .int .i64 0] 24)).upd (M8'.nb.size + 1) (.cells #[.slice none 0 0, .int .i64 0] 24)).put (2 * (M8'.nb.size + 0)) 0 (.slice s9'.1 (s9'.2.1) (s9'.2.2)) = some M13' ∧
      ∃ M14', M13'.put (2 * (M8'.nb.size + 0)) 1 (.int .i64 x10') = some M14' ∧
      ∃ M15', M14'.put (2 * (M8'.nb.size + 1)) 0 (.slice s11'.1 (s11'.2.1) (s11'.2.2)) = some M15' ∧
      ∃ M16', M15'.put (2 * (M8'.nb.size + 1)) 1 (.int .i64 x12') = some M16' ∧
      A3_1 Ax1 lx1 cx1 (some ⟨2 * M.nb.size, 0, none⟩) (some ⟨2 * N3'.nb.size, 0, none⟩) (some ⟨2 * (M8'.nb.size + 0), 0, none⟩) (some ⟨2 * (M8'.nb.size + 1), 0, none⟩) 0 M16' Q))) :
    Cn Try.prog 3 #[.agg #[.slice Ax0_0 lx0_0 cx0_0, .int .i64 x0_1], .slice Ax1 lx1 cx1] M Q := by
  refine Cn.of b3 d3 t3 ?_
  refine Rn.seq k3_0 (Rn.region k3_1 (fun call K => r3_0) (Rch.leaf (Rn.seq k3_2 (Rn.region k3_3 (fun call K => r3_1) (Rch.bind (x := ⟨2 * M.nb.size, 0, none⟩) rfl (Rch.ex H fun s1' H => Rch.ex H fun x2' H => Rch.call H fun v3' N3' H => Rch.ex H fun cs4' H => Rch.ex H fun s5' H => Rch.ex H fun x6' H => ?_))))))
  refine Rch.ex H fun M7' H => Rch.ex H fun M8' H => Rch.leaf (Rn.seq k3_4 (Rn.regionJ k3_5 (fun call K => r3_2) (Rch.bind (x := ⟨2 * N3'.nb.size, 0, none⟩) rfl (Rch.ex H fun s9' H => Rch.ex H fun x10' H => Rch.bind (x := ⟨2 * M.nb.size, 0, none⟩) rfl (Rch.ex H fun s11' H => Rch.ex H fun x12' H => ?_)))))
  refine Rch.cB (fun h => ?_) (fun h => ?_)
  · replace H := H.1 (of_decide_eq_true h)
    exact H.elim
  · replace H := H.2 (of_decide_eq_false h)
    refine Rch.ex H fun M13' H => Rch.ex H fun M14' H => Rch.ex H fun M15' H => Rch.ex H fun M16' H => Rch.leaf (Rn.seq k3_6 (Rn.seq k3_7 (Rn.region k3_8 (fun call K => r3_3) (Rch.leaf (Rn.block k3_9 (Rn.loop k3_10 ?_))))))
    exact H _ _ _ _ _ _ _ _ _ _ _ _ _ _ _ _ _ _ _ _ _ _ _ _ _ _ _ _ _ _ _ _ _ _ _ _ _ _ _ _ _ _ _ _ _ _ _ _ _ _ _ _ _ _ _ _ _ _ _ _ _ _ _ _ _ _ _ _ _ _ _ _ _ _ _ _ _ _ _ _ _ _ _ _ _

theorem w3_1 {Ax1 : Option Addr} {lx1 cx1 : Nat} {x2 x5 x6 x7 : Option Addr} {x8 : Int} {M : Mem} {Q : Value → Mem → Prop} (H :
    ((x8 < ((lx1 : Int)) →
     A3_2 Ax1 lx1 cx1 x2 x5 x6 x7 x8 (decide (x8 < 60)) M Q) ∧
     (¬ (x8 < ((lx1 : Int))) →
     A3_2 Ax1 lx1 cx1 x2 x5 x6 x7 x8 false M Q))) :
    A3_1 Ax1 lx1 cx1 x2 x5 x6 x7 x8 M Q := by
  intro g0 g3 g4 g9 g10 g11 g12 g13 g14 g15 g16 g17 g18 g19 g20 g21 g22 g23 g24 g25 g26 g27 g28 g29 g30 g31 g32 g33 g34 g35 g36 g37 g38 g39 g40 g41 g42 g43 g44 g45 g46 g47 g48 g49 g50 g51 g52 g53 g54 g55 g56 g57 g58 g59 g60 g61 g62 g63 g64 g65 g66 g67 g68 g69 g70 g71 g72 g73 g74 g75 g76 g77 g78 g79 g80 g81 g82 g83 g84 g85 g86 g87 g88 g89 g90
  refine Rn.seq k3_11 (Rn.seq k3_12 (Rn.region k3_13 (fun call K => r3_4) ?_))
  refine Rch.cB (fun h => ?_) (fun h => ?_)
  · replace H := H.1 (of_decide_eq_true h)
    refine Rch.leaf ?_
    exact H _ _ _ _ _ _ _ _ _ _ _ _ _ _ _ _ _ _ _ _ _ _ _ _ _ _ _ _ _ _ _ _ _ _ _ _ _ _ _ _ _ _ _ _ _ _ _ _ _ _ _ _ _ _ _ _ _ _ _ _ _ _ _ _ _ _ _ _ _ _ _ _ _ _ _ _ _ _ _ _ _ _ _ _
  · replace H := H.2 (of_decide_eq_false h)
    refine Rch.leaf ?_
    exact H _ _ _ _ _ _ _ _ _ _ _ _ _ _ _ _ _ _ _ _ _ _ _ _ _ _ _ _ _ _ _ _ _ _ _ _ _ _ _ _ _ _ _ _ _ _ _ _ _ _ _ _ _ _ _ _ _ _ _ _ _ _ _ _ _ _ _ _ _ _ _ _ _ _ _ _ _ _ _ _ _ _ _ _

theorem w3_2 {Ax1 : Option Addr} {lx1 cx1 : Nat} {x2 x5 x6 x7 : Option Addr} {x8 : Int} {x28 : Bool} {M : Mem} {Q : Value → Mem → Prop} (H :
    ((x28 = true →
     ∃ a17', x6 = some a17' ∧
     ∃ s18', (M.res 1).slAt a17'.block a17'.off = some s18' ∧
     ∃ x19', (M.res 1).intAt .i64 a17'.block (a17'.off + 1) = some x19' ∧
     ∃ a20', idxA Ax1 lx1 1 x8 = some a20' ∧
     ∃ x21', (M.res 1).intAt .i64 a20'.block a20'.off = some x21' ∧
     Cn Try.prog 11 #[.agg #[.slice s18'.1 (s18'.2.1) (s18'.2.2), .int .i64 x19'], .int .i64 x21'] (M.res 1) fun v22' N22' =>
      ∃ cs23', asU 2 v22' = some cs23' ∧
      ∃ cs24', asA 2 (cs23'.getD 0 undef) = some cs24' ∧
      ∃ s25', asS (cs24'.getD 0 undef) = some s25' ∧
      ∃ x26', asI .i64 (cs24'.getD 1 undef) = some x26' ∧
      ∃ x27', asI .i64 (cs23'.getD 1 undef) = some x27' ∧
      ∃ M28', (N22'.upd (M.nb.size + 0) (.cells #[.slice none 0 0, .int .i64 0] 24)).put (2 * (M.nb.size + 0)) 0 (.slice s25'.1 (s25'.2.1) (s25'.2.2)) = some M28' ∧
      ∃ M29', M28'.put (2 * (M.nb.size + 0)) 1 (.int .i64 x26') = some M29' ∧
      ∃ a30', x7 = some a30' ∧
      ∃ s31', (M29'.res 1).slAt a30'.block a30'.off = some s31' ∧
      ∃ x32', (M29'.res 1).intAt .i64 a30'.block (a30'.off + 1) = some x32' ∧
      ∃ a33', idxA Ax1 lx1 1 x8 = some a33' ∧
      ∃ x34', (M29'.res 1).intAt .i64 a33'.block a33'.off = some x34' ∧
      Cn Try.prog 12 #[.agg #[.slice s31'.1 (s31'.2.1) (s31'.2.2), .int .i64 x32'], .int .i64 x34'] (M29'.res 1) fun v35' N35' =>
       ∃ cs36', asU 2 v35' = some cs36' ∧
       ∃ cs37', asA 2 (cs36'.getD 0 undef) = some cs37' ∧
       ∃ s38', asS (cs37'.getD 0 undef) = some s38' ∧
       ∃ x39', asI .i64 (cs37'.getD 1 undef) = some x39' ∧
       ∃ x40', asI .i64 (cs36'.getD 1 undef) = some x40' ∧
       ∃ M41', (N35'.upd (M29'.nb.size + 0) (.cells #[.slice none 0 0, .int .i64 0] 24)).put (2 * (M29'.nb.size + 0)) 0 (.slice s38'.1 (s38'.2.1) (s38'.2.2)) = some M41' ∧
       ∃ M42', M41'.put (2 * (M29'.nb.size + 0)) 1 (.int .i64 x39') = some M42' ∧
       ((x27' ≠ x40' →
        A3_3 Ax1 lx1 cx1 x2 x5 x6 x7 x8 (some ⟨2 * (M.nb.size + 0), 0, none⟩) x27' (some ⟨2 * (M29'.nb.size + 0), 0, none⟩) true M42' Q) ∧
        (x27' = x40' →
        ∃ s43', M42'.slAt (2 * (M.nb.size + 0)) 0 = some s43' ∧
        ∃ x44', M42'.intAt .i64 (2 * (M.nb.size + 0)) (0 + 1) = some x44' ∧
        ∃ s45', M42'.slAt (2 * (M29'.nb.size + 0)) 0 = some s45' ∧
        ∃ x46', M42'.intAt .i64 (2 * (M29'.nb.size + 0)) (0 + 1) = some x46' ∧
        Cn Try.prog 13 #[.agg #[.slice s43'.1 (s43'.2.1) (s43'.2.2), .int .i64 x44'], .agg #[.slice s45'.1 (s45'.2.1) (s45'.2.2), .int .i64 x46']] M42' fun v47' N47' =>
         ∃ b48', asB v47' = some b48' ∧
         (((!b48') = true →
          A3_3 Ax1 lx1 cx1 x2 x5 x6 x7 x8 (some ⟨2 * (M.nb.size + 0), 0, none⟩) x27' (some ⟨2 * (M29'.nb.size + 0), 0, none⟩) true N47' Q) ∧
          ((!b48') = false →
          ∃ a49', x5 = some a49' ∧
          ∃ s50', N47'.slAt a49'.block a49'.off = some s50' ∧
          ∃ x51', N47'.intAt .i64 a49'.block (a49'.off + 1) = some x51' ∧
          ∃ a52', x2 = some a52' ∧
          ∃ s53', N47'.slAt a52'.block a52'.off = some s53' ∧
          ∃ x54', N47'.intAt .i64 a52'.block (a52'.off + 1) = some x54' ∧
          Cn Try.prog 14 #[.agg #[.slice s50'.1 (s50'.2.1) (s50'.2.2), .int .i64 x51'], .agg #[.slice s53'.1 (s53'.2.1) (s53'.2.2), .int .i64 x54']] N47' fun v55' N55' =>
           ∃ b56', asB v55' = some b56' ∧
           A3_3 Ax1 lx1 cx1 x2 x5 x6 x7 x8 (some ⟨2 * (M.nb.size + 0), 0, none⟩) x27' (some ⟨2 * (M29'.nb.size + 0), 0, none⟩) (!b56') N55' Q))))) ∧
     (x28 = false →
     ∃ a57', x5 = some a57' ∧
     ∃ s58', M.slAt a57'.block a57'.off = some s58' ∧
     ∃ x59', M.intAt .i64 a57'.block (a57'.off + 1) = some x59' ∧
     Cn Try.prog 11 #[.agg #[.slice s58'.1 (s58'.2.1) (s58'.2.2), .int .i64 x59'], .int .i64 0] M fun v60' N60' =>
      ∃ cs61', asU 2 v60' = some cs61' ∧
      ∃ cs62', asA 2 (cs61'.getD 0 undef) = some cs62' ∧
      ∃ s63', asS (cs62'.getD 0 undef) = some s63' ∧
      ∃ x64', asI .i64 (cs62'.getD 1 undef) = some x64' ∧
      ∃ x65', asI .i64 (cs61'.getD 1 undef) = some x65' ∧
      ∃ M66', (N60'.new (.cells #[.slice none 0 0, .int .i64 0] 24)).put (2 * N60'.nb.size) 0 (.slice s63'.1 (s63'.2.1) (s63'.2.2)) = some M66' ∧
      ∃ M67', M66'.put (2 * N60'.nb.size) 1 (.int .i64 x64') = some M67' ∧
      ∃ a68', x2 = some a68' ∧
      ∃ s69', M67'.slAt a68'.block a68'.off = some s69' ∧
      ∃ x70', M67'.intAt .i64 a68'.block (a68'.off + 1) = some x70' ∧
      Cn Try.prog 12 #[.agg #[.slice s69'.1 (s69'.2.1) (s69'.2.2), .int .i64 x70'], .int .i64 0] M67' fun v71' N71' =>
       ∃ cs72', asU 2 v71' = some cs72' ∧
       ∃ cs73', asA 2 (cs72'.getD 0 undef) = some cs73' ∧
       ∃ s74', asS (cs73'.getD 0 undef) = some s74' ∧
       ∃ x75', asI .i64 (cs73'.getD 1 undef) = some x75' ∧
       ∃ x76', asI .i64 (cs72'.getD 1 undef) = some x76' ∧
       ∃ M77', (N71'.new (.cells #[.slice none 0 0, .int .i64 0] 24)).put (2 * N71'.nb.size) 0 (.slice s74'.1 (s74'.2.1) (s74'.2.2)) = some M77' ∧
       ∃ M78', M77'.put (2 * N71'.nb.size) 1 (.int .i64 x75') = some M78' ∧
       ∃ s79', M78'.slAt (2 * N60'.nb.size) 0 = some s79' ∧
       ∃ x80', M78'.intAt .i64 (2 * N60'.nb.size) (0 + 1) = some x80' ∧
       ∃ s81', M78'.slAt (2 * N71'.nb.size) 0 = some s81' ∧
       ∃ x82', M78'.intAt .i64 (2 * N71'.nb.size) (0 + 1) = some x82' ∧
       Cn Try.prog 15 #[.agg #[.slice s79'.1 (s79'.2.1) (s79'.2.2), .int .i64 x80'], .int .i64 x65', .agg #[.slice s81'.1 (s81'.2.1) (s81'.2.2), .int .i64 x82'], .int .i64 x76'] M78' fun v83' N83' =>
        ∃ b84', asB v83' = some b84' ∧
        ((b84' = true →
         ∃ a85', x5 = some a85' ∧
         ∃ s86', N83'.slAt a85'.block a85'.off = some s86' ∧
         ∃ x87', N83'.intAt .i64 a85'.block (a85'.off + 1) = some x87' ∧
         ∃ a88', x2 = some a88' ∧
         ∃ s89', N83'.slAt a88'.block a88'.off = some s89' ∧
         ∃ x90', N83'.intAt .i64 a88'.block (a88'.off + 1) = some x90' ∧
         Cn Try.prog 14 #[.agg #[.slice s86'.1 (s86'.2.1) (s86'.2.2), .int .i64 x87'], .agg #[.slice s89'.1 (s89'.2.1) (s89'.2.2), .int .i64 x90']] N83' fun v91' N91' =>
          ∃ b92', asB v91' = some b92' ∧
          ((b92' = true →
           Cn Try.prog 16 #[] N91' fun v93' N93' =>
            ∃ b94', asB v93' = some b94' ∧
            Q (.bool b94') N93') ∧
           (b92' = false →
           Q (.bool false) N91'))) ∧
         (b84' = false →
         Q (.bool false) N83'))))) :
    A3_2 Ax1 lx1 cx1 x2 x5 x6 x7 x8 x28 M Q := by
  intro g0 g3 g4 g9 g10 g11 g12 g13 g14 g15 g16 g17 g18 g19 g20 g21 g22 g23 g24 g25 g26 g27 g29 g30 g31 g32 g33 g34 g35 g36 g37 g38 g39 g40 g41 g42 g43 g44 g45 g46 g47 g48 g49 g50 g51 g52 g53 g54 g55 g56 g57 g58 g59 g60 g61 g62 g63 g64 g65 g66 g67 g68 g69 g70 g71 g72 g73 g74 g75 g76 g77 g78 g79 g80 g81 g82 g83 g84 g85 g86 g87 g88 g89 g90
  refine Rn.cnd (v := x28) ⟨c3_14, rfl, by kernel_rfl⟩ (fun h => ?_) (fun h => ?_)
  · replace H := H.1 (h)
    refine Rn.skip k3_15 (Rn.seq k3_16 (Rn.block k3_17 (Rn.seq k3_18 (Rn.regionJ k3_19 (fun call K => r3_6) (Rch.ex H fun a17' H => Rch.ex H fun s18' H => Rch.ex H fun x19' H => Rch.ex H fun a20' H => Rch.ex H fun x21' H => Rch.call H fun v22' N22' H => Rch.ex H fun cs23' H => ?_)))))
    refine Rch.ex H fun cs24' H => Rch.ex H fun s25' H => Rch.ex H fun x26' H => Rch.ex H fun x27' H => Rch.ex H fun M28' H => Rch.ex H fun M29' H => Rch.leaf (Rn.seq k3_20 (Rn.regionJ k3_21 (fun call K => r3_7) (Rch.ex H fun a30' H => Rch.ex H fun s31' H => Rch.ex H fun x32' H => ?_)))
    refine Rch.ex H fun a33' H => Rch.ex H fun x34' H => Rch.call H fun v35' N35' H => Rch.ex H fun cs36' H => Rch.ex H fun cs37' H => Rch.ex H fun s38' H => Rch.ex H fun x39' H => Rch.ex H fun x40' H => Rch.ex H fun M41' H => Rch.ex H fun M42' H => Rch.leaf (Rn.seq k3_22 ?_)
    refine Rn.seq k3_23 (Rn.region k3_24 (fun call K => r3_8) ?_)
    refine Rch.cB (fun h => ?_) (fun h => ?_)
    · replace H := H.1 (ne_of_bneT h)
      refine Rch.leaf ?_
      exact H _ _ _ _ _ _ _ _ _ _ _ _ _ _ _ _ _ _ _ _ _ _ _ _ _ _ _ _ _ _ _ _ _ _ _ _ _ _ _ _ _ _ _ _ _ _ _ _ _ _ _ _ _ _ _ _ _ _ _ _ _ _ _ _ _ _ _ _ _ _ _ _ _ _ _ _ _ _ _ _ _
    · replace H := H.2 (eq_of_bneF h)
      refine Rch.bind (x := ⟨2 * (M.nb.size + 0), 0, none⟩) rfl (Rch.ex H fun s43' H => Rch.ex H fun x44' H => Rch.bind (x := ⟨2 * (M29'.nb.size + 0), 0, none⟩) rfl (Rch.ex H fun s45' H => Rch.ex H fun x46' H => Rch.call H fun v47' N47' H => Rch.ex H fun b48' H => ?_))
      refine Rch.cB (fun h => ?_) (fun h => ?_)
      · replace H := H.1 (h)
        refine Rch.leaf ?_
        exact H _ _ _ _ _ _ _ _ _ _ _ _ _ _ _ _ _ _ _ _ _ _ _ _ _ _ _ _ _ _ _ _ _ _ _ _ _ _ _ _ _ _ _ _ _ _ _ _ _ _ _ _ _ _ _ _ _ _ _ _ _ _ _ _ _ _ _ _ _ _ _ _ _ _ _ _ _ _ _ _ _
      · replace H := H.2 (h)
        refine Rch.ex H fun a49' H => Rch.ex H fun s50' H => Rch.ex H fun x51' H => Rch.ex H fun a52' H => Rch.ex H fun s53' H => Rch.ex H fun x54' H => Rch.call H fun v55' N55' H => Rch.ex H fun b56' H => Rch.leaf ?_
        exact H _ _ _ _ _ _ _ _ _ _ _ _ _ _ _ _ _ _ _ _ _ _ _ _ _ _ _ _ _ _ _ _ _ _ _ _ _ _ _ _ _ _ _ _ _ _ _ _ _ _ _ _ _ _ _ _ _ _ _ _ _ _ _ _ _ _ _ _ _ _ _ _ _ _ _ _ _ _ _ _ _
  · replace H := H.2 (h)
    refine Rn.exit k3_25 rfl (Rn.seq k3_26 (Rn.region k3_27 (fun call K => r3_12) (Rch.ex H fun a57' H => Rch.ex H fun s58' H => Rch.ex H fun x59' H => Rch.call H fun v60' N60' H => Rch.ex H fun cs61' H => Rch.ex H fun cs62' H => Rch.ex H fun s63' H => Rch.ex H fun x64' H => Rch.ex H fun x65' H => ?_)))
    refine Rch.ex H fun M66' H => Rch.ex H fun M67' H => Rch.leaf (Rn.seq k3_28 (Rn.region k3_29 (fun call K => r3_13) (Rch.ex H fun a68' H => Rch.ex H fun s69' H => Rch.ex H fun x70' H => Rch.call H fun v71' N71' H => Rch.ex H fun cs72' H => Rch.ex H fun cs73' H => Rch.ex H fun s74' H => ?_)))
    refine Rch.ex H fun x75' H => Rch.ex H fun x76' H => Rch.ex H fun M77' H => Rch.ex H fun M78' H => Rch.leaf (Rn.seq k3_30 (Rn.region k3_31 (fun call K => r3_14) (Rch.bind (x := ⟨2 * N60'.nb.size, 0, none⟩) rfl (Rch.ex H fun s79' H => Rch.ex H fun x80' H => Rch.bind (x := ⟨2 * N71'.nb.size, 0, none⟩) rfl (Rch.ex H fun s81' H => ?_)))))
    refine Rch.ex H fun x82' H => Rch.call H fun v83' N83' H => Rch.ex H fun b84' H => ?_
    refine Rch.cB (fun h => ?_) (fun h => ?_)
    · replace H := H.1 (h)
      refine Rch.ex H fun a85' H => Rch.ex H fun s86' H => Rch.ex H fun x87' H => Rch.ex H fun a88' H => Rch.ex H fun s89' H => Rch.ex H fun x90' H => Rch.call H fun v91' N91' H => Rch.ex H fun b92' H => ?_
      refine Rch.cB (fun h => ?_) (fun h => ?_)
      · replace H := H.1 (h)
        refine Rch.call H fun v93' N93' H => Rch.ex H fun b94' H => Rch.leaf ?_
        exact Rn.ret k3_32 e3 H
      · replace H := H.2 (h)
        refine Rch.leaf ?_
        exact Rn.ret k3_32 e3 H
    · replace H := H.2 (h)
      refine Rch.leaf ?_
      exact Rn.ret k3_32 e3 H

theorem w3_3 {Ax1 : Option Addr} {lx1 cx1 : Nat} {x2 x5 x6 x7 : Option Addr} {x8 : Int} {x9 : Option Addr} {x10 : Int} {x11 : Option Addr} {x63 : Bool} {M : Mem} {Q : Value → Mem → Prop} (H :
    ((x63 = true →
     Q (.bool false) M) ∧
     (x63 = false →
     ((x10 = 0 →
      ∃ a95', x9 = some a95' ∧
      ∃ s96', M.slAt a95'.block a95'.off = some s96' ∧
      ∃ x97', M.intAt .i64 a95'.block (a95'.off + 1) = some x97' ∧
      ∃ a98', x11 = some a98' ∧
      ∃ s99', M.slAt a98'.block a98'.off = some s99' ∧
      ∃ x100', M.intAt .i64 a98'.block (a98'.off + 1) = some x100' ∧
      ((Option.map (fun a : Addr => a.block) x6 = Option.map (fun a : Addr => a.block) x11 →
       False) ∧
       (¬ (Option.map (fun a : Addr => a.block) x6 = Option.map (fun a : Addr => a.block) x11) →
       ∃ a101', x6 = some a101' ∧
       ∃ M102', M.put a101'.block a101'.off (.slice s96'.1 (s96'.2.1) (s96'.2.2)) = some M102' ∧
       ∃ M103', M102'.put a101'.block (a101'.off + 1) (.int .i64 x97') = some M103' ∧
       ∃ a104', x7 = some a104' ∧
       ∃ M105', M103'.put a104'.block a104'.off (.slice s99'.1 (s99'.2.1) (s99'.2.2)) = some M105' ∧
       ∃ M106', M105'.put a104'.block (a104'.off + 1) (.int .i64 x100') = some M106' ∧
       A3_4 Ax1 lx1 cx1 x2 x5 x6 x7 x8 M106' Q))) ∧
      (x10 ≠ 0 →
      A3_4 Ax1 lx1 cx1 x2 x5 x6 x7 x8 M Q))))) :
    A3_3 Ax1 lx1 cx1 x2 x5 x6 x7 x8 x9 x10 x11 x63 M Q := by
  intro g0 g3 g4 g12 g13 g14 g15 g16 g17 g18 g19 g20 g21 g22 g23 g24 g25 g26 g27 g28 g29 g30 g31 g32 g33 g34 g35 g36 g37 g38 g39 g40 g41 g42 g43 g44 g45 g46 g47 g48 g49 g50 g51 g52 g53 g54 g55 g56 g57 g58 g59 g60 g61 g62 g64 g65 g66 g67 g68 g69 g70 g71 g72 g73 g74 g75 g76 g77 g78 g79 g80 g81 g82 g83 g84 g85 g86 g87 g88 g89 g90
  refine Rn.cnd (v := x63) ⟨c3_34, rfl, by kernel_rfl⟩ (fun h => ?_) (fun h => ?_)
  · replace H := H.1 (h)
    refine Rn.seq k3_35 (Rn.region k3_36 (fun call K => r3_9) (Rch.leaf ?_))
    exact Rn.ret k3_37 e3 H
  · replace H := H.2 (h)
    refine Rn.skip k3_38 (Rn.seq k3_39 (Rn.region k3_40 (fun call K => r3_10) (Rch.leaf ?_)))
    refine Rn.cnd (v := x10 == 0) ⟨c3_41, rfl, by kernel_rfl⟩ (fun h => ?_) (fun h => ?_)
    · replace H := H.1 (eq_of_beq h)
      refine Rn.regionD k3_42 (fun call K => r3_11) (Rch.ex H fun a95' H => Rch.ex H fun s96' H => Rch.ex H fun x97' H => Rch.ex H fun a98' H => Rch.ex H fun s99' H => Rch.ex H fun x100' H => ?_)
      refine Rch.cB (fun h => ?_) (fun h => ?_)
      · replace H := H.1 (of_decide_eq_true h)
        exact H.elim
      · replace H := H.2 (of_decide_eq_false h)
        refine Rch.ex H fun a101' H => Rch.ex H fun M102' H => Rch.ex H fun M103' H => Rch.ex H fun a104' H => Rch.ex H fun M105' H => Rch.ex H fun M106' H => Rch.leaf (Rn.blk ?_)
        exact H _ _ _ _ _ _ _ _ _ _ _ _ _ _ _ _ _ _ _ _ _ _ _ _ _ _ _ _ _ _ _ _ _ _ _ _ _ _ _ _ _ _ _ _ _ _ _ _ _ _ _ _ _ _ _ _ _ _ _ _ _ _ _ _ _ _ _ _ _ _ _ _ _ _ _ _ _ _ _ _ _ _ _ _ _
    · replace H := H.2 (ne_of_beq_false h)
      refine Rn.skip k3_43 (Rn.blk ?_)
      exact H _ _ _ _ _ _ _ _ _ _ _ _ _ _ _ _ _ _ _ _ _ _ _ _ _ _ _ _ _ _ _ _ _ _ _ _ _ _ _ _ _ _ _ _ _ _ _ _ _ _ _ _ _ _ _ _ _ _ _ _ _ _ _ _ _ _ _ _ _ _ _ _ _ _ _ _ _ _ _ _ _ _ _ _ _

theorem w3_4 {Ax1 : Option Addr} {lx1 cx1 : Nat} {x2 x5 x6 x7 : Option Addr} {x8 : Int} {M : Mem} {Q : Value → Mem → Prop} (H :
    A3_1 Ax1 lx1 cx1 x2 x5 x6 x7 (IntKind.i64.wrap (x8 + 1)) M Q) :
    A3_4 Ax1 lx1 cx1 x2 x5 x6 x7 x8 M Q := by
  intro g0 g3 g4 g9 g10 g11 g12 g13 g14 g15 g16 g17 g18 g19 g20 g21 g22 g23 g24 g25 g26 g27 g28 g29 g30 g31 g32 g33 g34 g35 g36 g37 g38 g39 g40 g41 g42 g43 g44 g45 g46 g47 g48 g49 g50 g51 g52 g53 g54 g55 g56 g57 g58 g59 g60 g61 g62 g63 g64 g65 g66 g67 g68 g69 g70 g71 g72 g73 g74 g75 g76 g77 g78 g79 g80 g81 g82 g83 g84 g85 g86 g87 g88 g89 g90
  refine Rn.region k3_44 (fun call K => r3_5) (Rch.leaf (Rn.lp ?_))
  exact H _ _ _ _ _ _ _ _ _ _ _ _ _ _ _ _ _ _ _ _ _ _ _ _ _ _ _ _ _ _ _ _ _ _ _ _ _ _ _ _ _ _ _ _ _ _ _ _ _ _ _ _ _ _ _ _ _ _ _ _ _ _ _ _ _ _ _ _ _ _ _ _ _ _ _ _ _ _ _ _ _ _ _ _ _


/-! ### zoetrope/zoetropelaw03.CdfAverages: function 4 -/
noncomputable abbrev P4 (p : List Nat) : Code := subC (codeOf Try.f4) p
noncomputable abbrev O4 (p : List Nat) : Array Oper := opsOf (subC (codeOf Try.f4) p)
theorem b4 : Try.prog.funcs[4]? = some Try.f4 ∧ (Orc.tab Try.prog).lookup 4 = none := ⟨by kernel_rfl, by kernel_rfl⟩
theorem d4 : Try.f4.body = some (P4 []) := by kernel_rfl
theorem t4 {Ax0 : Option Addr} {lx0 cx0 : Nat} : #[.slice Ax0 lx0 cx0] ++ Array.replicate (Try.f4.ntmps - (#[.slice Ax0 lx0 cx0] : Array Value).size) undef = #[.slice Ax0 lx0 cx0,undef,undef,undef,undef,undef,undef,undef,undef,undef,undef,undef,undef,undef,undef,undef,undef,undef,undef,undef,undef,undef,undef,undef,undef,undef,undef,undef,undef,undef,undef,undef,undef,undef,undef,undef,undef,undef,undef,undef,undef,undef,undef,undef,undef,undef,undef,undef,undef,undef,undef,undef,undef,undef,undef,undef,undef] := by kernel_rfl
theorem k4_0 : P4 [] = .seq (P4 [0]) (P4 [1]) := by kernel_rfl
theorem k4_1 : P4 [0] = .region 0 (O4 [0]) false := by kernel_rfl
theorem r4_0 {M : Mem} {call : CallM} {K : Array Value → Mem → R} :
    opsK Try.prog (fun _ => call) (O4 [0]) (O4 [0]).toList 0 #[g0,g1,g2,g3,g4,g5,g6,g7,g8,g9,g10,g11,g12,g13,g14,g15,g16,g17,g18,g19,g20,g21,g22,g23,g24,g25,g26,g27,g28,g29,g30,g31,g32,g33,g34,g35,g36,g37,g38,g39,g40,g41,g42,g43,g44,g45,g46,g47,g48,g49,g50,g51,g52,g53,g54,g55,g56] M K = K #[g0,g1,.bool false,g3,g4,g5,g6,g7,g8,g9,g10,g11,g12,g13,g14,g15,g16,g17,g18,g19,g20,g21,g22,g23,g24,g25,g26,g27,g28,g29,g30,g31,g32,g33,g34,g35,g36,g37,g38,g39,g40,g41,g42,g43,g44,g45,g46,g47,g48,g49,g50,g51,g52,g53,g54,g55,g56] M := by kernel_rfl
theorem k4_2 : P4 [1] = .seq (P4 [1,0]) (P4 [1,1]) := by kernel_rfl
theorem k4_3 : P4 [1,0] = .region 1 (O4 [1,0]) false := by kernel_rfl
theorem r4_1 {M : Mem} {call : CallM} {K : Array Value → Mem → R} :
    opsK Try.prog (fun _ => call) (O4 [1,0]) (O4 [1,0]).toList 0 #[g0,g1,g2,g3,g4,g5,g6,g7,g8,g9,g10,g11,g12,g13,g14,g15,g16,g17,g18,g19,g20,g21,g22,g23,g24,g25,g26,g27,g28,g29,g30,g31,g32,g33,g34,g35,g36,g37,g38,g39,g40,g41,g42,g43,g44,g45,g46,g47,g48,g49,g50,g51,g52,g53,g54,g55,g56] M K = K #[g0,g1,g2,.slice none 0 0,g4,g5,g6,g7,g8,g9,g10,g11,g12,g13,g14,g15,g16,g17,g18,g19,g20,g21,g22,g23,g24,g25,g26,g27,g28,g29,g30,g31,g32,g33,g34,g35,g36,g37,g38,g39,g40,g41,g42,g43,g44,g45,g46,g47,g48,g49,g50,g51,g52,g53,g54,g55,g56] M := by kernel_rfl
theorem k4_4 : P4 [1,1] = .seq (P4 [1,1,0]) (P4 [1,1,1]) := by kernel_rfl
theorem k4_5 : P4 [1,1,0] = .seq (P4 [1,1,0,0]) (P4 [1,1,0,1]) := by kernel_rfl
theorem k4_6 : P4 [1,1,0,0] = .region 2 (O4 [1,1,0,0]) false := by kernel_rfl
theorem r4_2 {M : Mem} {call : CallM} {K : Array Value → Mem → R} :
    opsK Try.prog (fun _ => call) (O4 [1,1,0,0]) (O4 [1,1,0,0]).toList 0 #[g0,g1,g2,g3,g4,g5,g6,g7,g8,g9,g10,g11,g12,g13,g14,g15,g16,g17,g18,g19,g20,g21,g22,g23,g24,g25,g26,g27,g28,g29,g30,g31,g32,g33,g34,g35,g36,g37,g38,g39,g40,g41,g42,g43,g44,g45,g46,g47,g48,g49,g50,g51,g52,g53,g54,g55,g56] M K = K #[g0,g1,g2,g3,.int .i64 0,g5,g6,g7,g8,g9,g10,g11,g12,g13,g14,g15,g16,g17,g18,g19,g20,g21,g22,g23,g24,g25,g26,g27,g28,g29,g30,g31,g32,g33,g34,g35,g36,g37,g38,g39,g40,g41,g42,g43,g44,g45,g46,g47,g48,g49,g50,g51,g52,g53,g54,g55,g56] M := by kernel_rfl
theorem k4_7 : P4 [1,1,0,1] = .block 0 (P4 [1,1,0,1,0]) := by kernel_rfl
theorem k4_8 : P4 [1,1,0,1,0] = .loop (P4 [1,1,0,1,0,0]) := by kernel_rfl
theorem k4_9 : P4 [1,1,0,1,0,0] = .seq (P4 [1,1,0,1,0,0,0]) (P4 [1,1,0,1,0,0,1]) := by kernel_rfl
theorem k4_10 : P4 [1,1,0,1,0,0,0] = .seq (P4 [1,1,0,1,0,0,0,0]) (P4 [1,1,0,1,0,0,0,1]) := by kernel_rfl
theorem k4_11 : P4 [1,1,0,1,0,0,0,0] = .region 3 (O4 [1,1,0,1,0,0,0,0]) false := by kernel_rfl
theorem r4_3 {Ax0 : Option Addr} {lx0 cx0 : Nat} {x4 : Int} {M : Mem} {call : CallM} {K : Array Value → Mem → R} :
    opsK Try.prog (fun _ => call) (O4 [1,1,0,1,0,0,0,0]) (O4 [1,1,0,1,0,0,0,0]).toList 0 #[.slice Ax0 lx0 cx0,g1,g2,g3,.int .i64 x4,g5,g6,g7,g8,g9,g10,g11,g12,g13,g14,g15,g16,g17,g18,g19,g20,g21,g22,g23,g24,g25,g26,g27,g28,g29,g30,g31,g32,g33,g34,g35,g36,g37,g38,g39,g40,g41,g42,g43,g44,g45,g46,g47,g48,g49,g50,g51,g52,g53,g54,g55,g56] M K = K #[.slice Ax0 lx0 cx0,g1,g2,g3,.int .i64 x4,g5,g6,g7,g8,g9,.int .i64 x4,.slice Ax0 lx0 cx0,.int .i64 ((lx0 : Int)),.bool (decide (x4 < ((lx0 : Int)))),g14,g15,g16,g17,g18,g19,g20,g21,g22,g23,g24,g25,g26,g27,g28,g29,g30,g31,g32,g33,g34,g35,g36,g37,g38,g39,g40,g41,g42,g43,g44,g45,g46,g47,g48,g49,g50,g51,g52,g53,g54,g55,g56] M := by kernel_rfl
theorem c4_12 : P4 [1,1,0,1,0,0,0,1] = .cond (.tmp 13) (P4 [1,1,0,1,0,0,0,1,0]) (P4 [1,1,0,1,0,0,0,1,1]) := by kernel_rfl
theorem k4_13 : P4 [1,1,0,1,0,0,0,1,0] = .skip := by kernel_rfl
theorem k4_14 : P4 [1,1,0,1,0,0,1] = .seq (P4 [1,1,0,1,0,0,1,0]) (P4 [1,1,0,1,0,0,1,1]) := by kernel_rfl
theorem k4_15 : P4 [1,1,0,1,0,0,1,0] = .block 1 (P4 [1,1,0,1,0,0,1,0,0]) := by kernel_rfl
theorem k4_16 : P4 [1,1,0,1,0,0,1,0,0] = .region 5 (O4 [1,1,0,1,0,0,1,0,0]) false := by kernel_rfl
theorem r4_5 {Ax0 : Option Addr} {lx0 cx0 : Nat} {Ax3 : Option Addr} {lx3 cx3 : Nat} {x4 : Int} {M : Mem} {call : CallM} {K : Array Value → Mem → R} :
    opsK Try.prog (fun _ => call) (O4 [1,1,0,1,0,0,1,0,0]) (O4 [1,1,0,1,0,0,1,0,0]).toList 0 #[.slice Ax0 lx0 cx0,g1,g2,.slice Ax3 lx3 cx3,.int .i64 x4,g5,g6,g7,g8,g9,g10,g11,g12,g13,g14,g15,g16,g17,g18,g19,g20,g21,g22,g23,g24,g25,g26,g27,g28,g29,g30,g31,g32,g33,g34,g35,g36,g37,g38,g39,g40,g41,g42,g43,g44,g45,g46,g47,g48,g49,g50,g51,g52,g53,g54,g55,g56] M K = (idxA Ax0 lx0 2 x4).bind fun a_1 => (M.slAt a_1.block a_1.off).bind fun s_2 => (M.intAt .i64 a_1.block (a_1.off + 1)).bind fun x_3 => (call 10 #[.agg #[.slice s_2.1 (s_2.2.1) (s_2.2.2), .int .i64 x_3]] M).bind fun r_4 => (asA 2 r_4.1).bind fun cs_5 => (asS (cs_5.getD 0 undef)).bind fun s_6 => (asI .i64 (cs_5.getD 1 undef)).bind fun x_7 => (appendP Try.prog #[34, 34] (.slice Ax3 lx3 cx3) (.slice (some ⟨2 * r_4.2.nb.size, 0, none⟩) 1 1) (r_4.2.new (.cells #[.slice s_6.1 (s_6.2.1) (s_6.2.2), .int .i64 x_7] 24))).bind fun r_8 => (asS r_8.1).bind fun s_9 => K #[.slice Ax0 lx0 cx0,g1,g2,.slice s_9.1 (s_9.2.1) (s_9.2.2),.int .i64 x4,g5,g6,g7,g8,g9,g10,g11,g12,g13,g14,g15,.slice Ax3 lx3 cx3,.slice Ax0 lx0 cx0,.int .i64 x4,.pointer (some a_1),.agg #[.slice s_2.1 (s_2.2.1) (s_2.2.2), .int .i64 x_3],.agg #[.slice s_6.1 (s_6.2.1) (s_6.2.2), .int .i64 x_7],.slice (some ⟨2 * r_4.2.nb.size, 0, none⟩) 1 1,.slice s_9.1 (s_9.2.1) (s_9.2.2),g24,g25,g26,g27,g28,g29,g30,g31,g32,g33,g34,g35,g36,g37,g38,g39,g40,g41,g42,g43,g44,g45,g46,g47,g48,g49,g50,g51,g52,g53,g54,g55,g56] r_8.2 := by kernel_rfl
theorem k4_17 : P4 [1,1,0,1,0,0,1,1] = .region 4 (O4 [1,1,0,1,0,0,1,1]) false := by kernel_rfl
theorem r4_4 {x4 : Int} {M : Mem} {call : CallM} {K : Array Value → Mem → R} :
    opsK Try.prog (fun _ => call) (O4 [1,1,0,1,0,0,1,1]) (O4 [1,1,0,1,0,0,1,1]).toList 0 #[g0,g1,g2,g3,.int .i64 x4,g5,g6,g7,g8,g9,g10,g11,g12,g13,g14,g15,g16,g17,g18,g19,g20,g21,g22,g23,g24,g25,g26,g27,g28,g29,g30,g31,g32,g33,g34,g35,g36,g37,g38,g39,g40,g41,g42,g43,g44,g45,g46,g47,g48,g49,g50,g51,g52,g53,g54,g55,g56] M K = K #[g0,g1,g2,g3,.int .i64 (IntKind.i64.wrap (x4 + 1)),g5,g6,g7,g8,g9,g10,g11,g12,g13,.int .i64 x4,.int .i64 (IntKind.i64.wrap (x4 + 1)),g16,g17,g18,g19,g20,g21,g22,g23,g24,g25,g26,g27,g28,g29,g30,g31,g32,g33,g34,g35,g36,g37,g38,g39,g40,g41,g42,g43,g44,g45,g46,g47,g48,g49,g50,g51,g52,g53,g54,g55,g56] M := by kernel_rfl
theorem k4_18 : P4 [1,1,0,1,0,0,0,1,1] = .exit 0 := by kernel_rfl
theorem k4_19 : P4 [1,1,1] = .seq (P4 [1,1,1,0]) (P4 [1,1,1,1]) := by kernel_rfl
theorem k4_20 : P4 [1,1,1,0] = .region 6 (O4 [1,1,1,0]) false := by kernel_rfl
theorem r4_6 {Ax3 : Option Addr} {lx3 cx3 : Nat} {M : Mem} {call : CallM} {K : Array Value → Mem → R} :
    opsK Try.prog (fun _ => call) (O4 [1,1,1,0]) (O4 [1,1,1,0]).toList 0 #[g0,g1,g2,.slice Ax3 lx3 cx3,g4,g5,g6,g7,g8,g9,g10,g11,g12,g13,g14,g15,g16,g17,g18,g19,g20,g21,g22,g23,g24,g25,g26,g27,g28,g29,g30,g31,g32,g33,g34,g35,g36,g37,g38,g39,g40,g41,g42,g43,g44,g45,g46,g47,g48,g49,g50,g51,g52,g53,g54,g55,g56] M K = (call 17 #[.slice Ax3 lx3 cx3] M).bind fun r_1 => (asU 2 r_1.1).bind fun cs_2 => (asA 2 (cs_2.getD 0 undef)).bind fun cs_3 => (asS (cs_3.getD 0 undef)).bind fun s_4 => (asI .i64 (cs_3.getD 1 undef)).bind fun x_5 => (asI .i64 (cs_2.getD 1 undef)).bind fun x_6 => ((r_1.2.new (.cells #[.slice none 0 0, .int .i64 0] 24)).put (2 * r_1.2.nb.size) 0 (.slice s_4.1 (s_4.2.1) (s_4.2.2))).bind fun M_7 => (M_7.put (2 * r_1.2.nb.size) 1 (.int .i64 x_5)).bind fun M_8 => K #[g0,g1,g2,.slice Ax3 lx3 cx3,g4,.pointer (some ⟨2 * r_1.2.nb.size, 0, none⟩),.int .i64 x_6,g7,g8,g9,g10,g11,g12,g13,g14,g15,g16,g17,g18,g19,g20,g21,g22,g23,.tuple #[.agg #[.slice s_4.1 (s_4.2.1) (s_4.2.2), .int .i64 x_5], .int .i64 x_6],.slice Ax3 lx3 cx3,.tuple #[.agg #[.slice s_4.1 (s_4.2.1) (s_4.2.2), .int .i64 x_5], .int .i64 x_6],.agg #[.slice s_4.1 (s_4.2.1) (s_4.2.2), .int .i64 x_5],.int .i64 x_6,g29,g30,g31,g32,g33,g34,g35,g36,g37,g38,g39,g40,g41,g42,g43,g44,g45,g46,g47,g48,g49,g50,g51,g52,g53,g54,g55,g56] M_8 := by kernel_rfl
theorem k4_21 : P4 [1,1,1,1] = .seq (P4 [1,1,1,1,0]) (P4 [1,1,1,1,1]) := by kernel_rfl
theorem k4_22 : P4 [1,1,1,1,0] = .region 7 (O4 [1,1,1,1,0]) false := by kernel_rfl
theorem r4_7 {Ax0 : Option Addr} {lx0 cx0 : Nat} {M : Mem} {call : CallM} {K : Array Value → Mem → R} :
    opsK Try.prog (fun _ => call) (O4 [1,1,1,1,0]) (O4 [1,1,1,1,0]).toList 0 #[.slice Ax0 lx0 cx0,g1,g2,g3,g4,g5,g6,g7,g8,g9,g10,g11,g12,g13,g14,g15,g16,g17,g18,g19,g20,g21,g22,g23,g24,g25,g26,g27,g28,g29,g30,g31,g32,g33,g34,g35,g36,g37,g38,g39,g40,g41,g42,g43,g44,g45,g46,g47,g48,g49,g50,g51,g52,g53,g54,g55,g56] M K = (call 18 #[.slice Ax0 lx0 cx0] M).bind fun r_1 => (asU 2 r_1.1).bind fun cs_2 => (asA 2 (cs_2.getD 0 undef)).bind fun cs_3 => (asS (cs_3.getD 0 undef)).bind fun s_4 => (asI .i64 (cs_3.getD 1 undef)).bind fun x_5 => (asI .i64 (cs_2.getD 1 undef)).bind fun x_6 => ((r_1.2.new (.cells #[.slice none 0 0, .int .i64 0] 24)).put (2 * r_1.2.nb.size) 0 (.slice s_4.1 (s_4.2.1) (s_4.2.2))).bind fun M_7 => (M_7.put (2 * r_1.2.nb.size) 1 (.int .i64 x_5)).bind fun M_8 => K #[.slice Ax0 lx0 cx0,g1,g2,g3,g4,g5,g6,.pointer (some ⟨2 * r_1.2.nb.size, 0, none⟩),.int .i64 x_6,g9,g10,g11,g12,g13,g14,g15,g16,g17,g18,g19,g20,g21,g22,g23,g24,g25,g26,g27,g28,.tuple #[.agg #[.slice s_4.1 (s_4.2.1) (s_4.2.2), .int .i64 x_5], .int .i64 x_6],.slice Ax0 lx0 cx0,.tuple #[.agg #[.slice s_4.1 (s_4.2.1) (s_4.2.2), .int .i64 x_5], .int .i64 x_6],.agg #[.slice s_4.1 (s_4.2.1) (s_4.2.2), .int .i64 x_5],.int .i64 x_6,g34,g35,g36,g37,g38,g39,g40,g41,g42,g43,g44,g45,g46,g47,g48,g49,g50,g51,g52,g53,g54,g55,g56] M_8 := by kernel_rfl
theorem k4_23 : P4 [1,1,1,1,1] = .seq (P4 [1,1,1,1,1,0]) (P4 [1,1,1,1,1,1]) := by kernel_rfl
theorem k4_24 : P4 [1,1,1,1,1,0] = .seq (P4 [1,1,1,1,1,0,0]) (P4 [1,1,1,1,1,0,1]) := by kernel_rfl
theorem k4_25 : P4 [1,1,1,1,1,0,0] = .region 8 (O4 [1,1,1,1,1,0,0]) false := by kernel_rfl
theorem r4_8 {x5 : Option Addr} {x6 : Int} {x7 : Option Addr} {x8 : Int} {M : Mem} {call : CallM} {K : Array Value → Mem → R} :
    opsK Try.prog (fun _ => call) (O4 [1,1,1,1,1,0,0]) (O4 [1,1,1,1,1,0,0]).toList 0 #[g0,g1,g2,g3,g4,.pointer x5,.int .i64 x6,.pointer x7,.int .i64 x8,g9,g10,g11,g12,g13,g14,g15,g16,g17,g18,g19,g20,g21,g22,g23,g24,g25,g26,g27,g28,g29,g30,g31,g32,g33,g34,g35,g36,g37,g38,g39,g40,g41,g42,g43,g44,g45,g46,g47,g48,g49,g50,g51,g52,g53,g54,g55,g56] M K = (x5).bind fun a_1 => (M.slAt a_1.block a_1.off).bind fun s_2 => (M.intAt .i64 a_1.block (a_1.off + 1)).bind fun x_3 => (x7).bind fun a_4 => (M.slAt a_4.block a_4.off).bind fun s_5 => (M.intAt .i64 a_4.block (a_4.off + 1)).bind fun x_6 => (call 15 #[.agg #[.slice s_2.1 (s_2.2.1) (s_2.2.2), .int .i64 x_3], .int .i64 x6, .agg #[.slice s_5.1 (s_5.2.1) (s_5.2.2), .int .i64 x_6], .int .i64 x8] M).bind fun r_7 => (asB r_7.1).bind fun b_8 => K #[g0,g1,g2,g3,g4,.pointer x5,.int .i64 x6,.pointer x7,.int .i64 x8,g9,g10,g11,g12,g13,g14,g15,g16,g17,g18,g19,g20,g21,g22,g23,g24,g25,g26,g27,g28,g29,g30,g31,g32,g33,.agg #[.slice s_2.1 (s_2.2.1) (s_2.2.2), .int .i64 x_3],.int .i64 x6,.agg #[.slice s_5.1 (s_5.2.1) (s_5.2.2), .int .i64 x_6],.int .i64 x8,.bool b_8,.bool (!b_8),g40,g41,g42,g43,g44,g45,g46,g47,g48,g49,g50,g51,g52,g53,g54,g55,g56] r_7.2 := by kernel_rfl
theorem c4_26 : P4 [1,1,1,1,1,0,1] = .cond (.tmp 39) (P4 [1,1,1,1,1,0,1,0]) (P4 [1,1,1,1,1,0,1,1]) := by kernel_rfl
theorem k4_27 : P4 [1,1,1,1,1,0,1,0] = .seq (P4 [1,1,1,1,1,0,1,0,0]) (P4 [1,1,1,1,1,0,1,0,1]) := by kernel_rfl
theorem k4_28 : P4 [1,1,1,1,1,0,1,0,0] = .region 9 (O4 [1,1,1,1,1,0,1,0,0]) false := by kernel_rfl
theorem r4_9 {M : Mem} {call : CallM} {K : Array Value → Mem → R} :
    opsK Try.prog (fun _ => call) (O4 [1,1,1,1,1,0,1,0,0]) (O4 [1,1,1,1,1,0,1,0,0]).toList 0 #[g0,g1,g2,g3,g4,g5,g6,g7,g8,g9,g10,g11,g12,g13,g14,g15,g16,g17,g18,g19,g20,g21,g22,g23,g24,g25,g26,g27,g28,g29,g30,g31,g32,g33,g34,g35,g36,g37,g38,g39,g40,g41,g42,g43,g44,g45,g46,g47,g48,g49,g50,g51,g52,g53,g54,g55,g56] M K = K #[g0,g1,.bool false,g3,g4,g5,g6,g7,g8,g9,g10,g11,g12,g13,g14,g15,g16,g17,g18,g19,g20,g21,g22,g23,g24,g25,g26,g27,g28,g29,g30,g31,g32,g33,g34,g35,g36,g37,g38,g39,g40,g41,g42,g43,g44,g45,g46,g47,g48,g49,g50,g51,g52,g53,g54,g55,g56] M := by kernel_rfl
theorem k4_29 : P4 [1,1,1,1,1,0,1,0,1] = .ret := by kernel_rfl
theorem e4 {M : Mem} : finish Try.prog Try.f4 #[g0,g1,g2,g3,g4,g5,g6,g7,g8,g9,g10,g11,g12,g13,g14,g15,g16,g17,g18,g19,g20,g21,g22,g23,g24,g25,g26,g27,g28,g29,g30,g31,g32,g33,g34,g35,g36,g37,g38,g39,g40,g41,g42,g43,g44,g45,g46,g47,g48,g49,g50,g51,g52,g53,g54,g55,g56] M = some (g2, M) := by kernel_rfl
theorem k4_31 : P4 [1,1,1,1,1,0,1,1] = .skip := by kernel_rfl
theorem k4_32 : P4 [1,1,1,1,1,1] = .seq (P4 [1,1,1,1,1,1,0]) (P4 [1,1,1,1,1,1,1]) := by kernel_rfl
theorem k4_33 : P4 [1,1,1,1,1,1,0] = .seq (P4 [1,1,1,1,1,1,0,0]) (P4 [1,1,1,1,1,1,0,1]) := by kernel_rfl
theorem k4_34 : P4 [1,1,1,1,1,1,0,0] = .region 10 (O4 [1,1,1,1,1,1,0,0]) false := by kernel_rfl
theorem r4_10 {M : Mem} {call : CallM} {K : Array Value → Mem → R} :
    opsK Try.prog (fun _ => call) (O4 [1,1,1,1,1,1,0,0]) (O4 [1,1,1,1,1,1,0,0]).toList 0 #[g0,g1,g2,g3,g4,g5,g6,g7,g8,g9,g10,g11,g12,g13,g14,g15,g16,g17,g18,g19,g20,g21,g22,g23,g24,g25,g26,g27,g28,g29,g30,g31,g32,g33,g34,g35,g36,g37,g38,g39,g40,g41,g42,g43,g44,g45,g46,g47,g48,g49,g50,g51,g52,g53,g54,g55,g56] M K = K #[g0,g1,g2,g3,g4,g5,g6,g7,g8,.int .i64 0,g10,g11,g12,g13,g14,g15,g16,g17,g18,g19,g20,g21,g22,g23,g24,g25,g26,g27,g28,g29,g30,g31,g32,g33,g34,g35,g36,g37,g38,g39,g40,g41,g42,g43,g44,g45,g46,g47,g48,g49,g50,g51,g52,g53,g54,g55,g56] M := by kernel_rfl
theorem k4_35 : P4 [1,1,1,1,1,1,0,1] = .block 2 (P4 [1,1,1,1,1,1,0,1,0]) := by kernel_rfl
theorem k4_36 : P4 [1,1,1,1,1,1,0,1,0] = .loop (P4 [1,1,1,1,1,1,0,1,0,0]) := by kernel_rfl
theorem k4_37 : P4 [1,1,1,1,1,1,0,1,0,0] = .seq (P4 [1,1,1,1,1,1,0,1,0,0,0]) (P4 [1,1,1,1,1,1,0,1,0,0,1]) := by kernel_rfl
theorem k4_38 : P4 [1,1,1,1,1,1,0,1,0,0,0] = .seq (P4 [1,1,1,1,1,1,0,1,0,0,0,0]) (P4 [1,1,1,1,1,1,0,1,0,0,0,1]) := by kernel_rfl
theorem k4_39 : P4 [1,1,1,1,1,1,0,1,0,0,0,0] = .region 11 (O4 [1,1,1,1,1,1,0,1,0,0,0,0]) false := by kernel_rfl
theorem r4_11 {Ax0 : Option Addr} {lx0 cx0 : Nat} {x9 : Int} {M : Mem} {call : CallM} {K : Array Value → Mem → R} :
    opsK Try.prog (fun _ => call) (O4 [1,1,1,1,1,1,0,1,0,0,0,0]) (O4 [1,1,1,1,1,1,0,1,0,0,0,0]).toList 0 #[.slice Ax0 lx0 cx0,g1,g2,g3,g4,g5,g6,g7,g8,.int .i64 x9,g10,g11,g12,g13,g14,g15,g16,g17,g18,g19,g20,g21,g22,g23,g24,g25,g26,g27,g28,g29,g30,g31,g32,g33,g34,g35,g36,g37,g38,g39,g40,g41,g42,g43,g44,g45,g46,g47,g48,g49,g50,g51,g52,g53,g54,g55,g56] M K = K #[.slice Ax0 lx0 cx0,g1,g2,g3,g4,g5,g6,g7,g8,.int .i64 x9,g10,g11,g12,g13,g14,g15,g16,g17,g18,g19,g20,g21,g22,g23,g24,g25,g26,g27,g28,g29,g30,g31,g32,g33,g34,g35,g36,g37,g38,g39,.int .i64 x9,.slice Ax0 lx0 cx0,.int .i64 ((lx0 : Int)),.bool (decide (x9 < ((lx0 : Int)))),g44,g45,g46,g47,g48,g49,g50,g51,g52,g53,g54,g55,g56] M := by kernel_rfl
theorem c4_40 : P4 [1,1,1,1,1,1,0,1,0,0,0,1] = .cond (.tmp 43) (P4 [1,1,1,1,1,1,0,1,0,0,0,1,0]) (P4 [1,1,1,1,1,1,0,1,0,0,0,1,1]) := by kernel_rfl
theorem k4_41 : P4 [1,1,1,1,1,1,0,1,0,0,0,1,0] = .skip := by kernel_rfl
theorem k4_42 : P4 [1,1,1,1,1,1,0,1,0,0,1] = .seq (P4 [1,1,1,1,1,1,0,1,0,0,1,0]) (P4 [1,1,1,1,1,1,0,1,0,0,1,1]) := by kernel_rfl
theorem k4_43 : P4 [1,1,1,1,1,1,0,1,0,0,1,0] = .block 3 (P4 [1,1,1,1,1,1,0,1,0,0,1,0,0]) := by kernel_rfl
theorem k4_44 : P4 [1,1,1,1,1,1,0,1,0,0,1,0,0] = .seq (P4 [1,1,1,1,1,1,0,1,0,0,1,0,0,0]) (P4 [1,1,1,1,1,1,0,1,0,0,1,0,0,1]) := by kernel_rfl
theorem k4_45 : P4 [1,1,1,1,1,1,0,1,0,0,1,0,0,0] = .region 13 (O4 [1,1,1,1,1,1,0,1,0,0,1,0,0,0]) true ∧ drawOk (O4 [1,1,1,1,1,1,0,1,0,0,1,0,0,0]) = true := ⟨by kernel_rfl, by kernel_rfl⟩
theorem r4_13 {Ax0 : Option Addr} {lx0 cx0 : Nat} {Ax3 : Option Addr} {lx3 cx3 : Nat} {x9 : Int} {M : Mem} {call : CallM} {K : Array Value → Mem → R} :
    opsI Try.prog (callAt call (O4 [1,1,1,1,1,1,0,1,0,0,1,0,0,0])) (O4 [1,1,1,1,1,1,0,1,0,0,1,0,0,0]) (ordOf (O4 [1,1,1,1,1,1,0,1,0,0,1,0,0,0])) [] #[.slice Ax0 lx0 cx0,g1,g2,.slice Ax3 lx3 cx3,g4,g5,g6,g7,g8,.int .i64 x9,g10,g11,g12,g13,g14,g15,g16,g17,g18,g19,g20,g21,g22,g23,g24,g25,g26,g27,g28,g29,g30,g31,g32,g33,g34,g35,g36,g37,g38,g39,g40,g41,g42,g43,g44,g45,g46,g47,g48,g49,g50,g51,g52,g53,g54,g55,g56] M K = (idxA Ax3 lx3 2 x9).bind fun a_1 => (M.slAt a_1.block a_1.off).bind fun s_2 => (M.intAt .i64 a_1.block (a_1.off + 1)).bind fun x_3 => (idxA Ax0 lx0 2 x9).bind fun a_4 => (M.slAt a_4.block a_4.off).bind fun s_5 => (M.intAt .i64 a_4.block (a_4.off + 1)).bind fun x_6 => (call 14 #[.agg #[.slice s_2.1 (s_2.2.1) (s_2.2.2), .int .i64 x_3], .agg #[.slice s_5.1 (s_5.2.1) (s_5.2.2), .int .i64 x_6]] M).bind fun r_7 => (asB r_7.1).bind fun b_8 => K #[.slice Ax0 lx0 cx0,g1,g2,.slice Ax3 lx3 cx3,g4,g5,g6,g7,g8,.int .i64 x9,g10,g11,g12,g13,g14,g15,g16,g17,g18,g19,g20,g21,g22,g23,g24,g25,g26,g27,g28,g29,g30,g31,g32,g33,g34,g35,g36,g37,g38,g39,g40,g41,g42,g43,g44,g45,.slice Ax3 lx3 cx3,.int .i64 x9,.pointer (some a_1),.agg #[.slice s_2.1 (s_2.2.1) (s_2.2.2), .int .i64 x_3],.slice Ax0 lx0 cx0,.int .i64 x9,.pointer (some a_4),.agg #[.slice s_5.1 (s_5.2.1) (s_5.2.2), .int .i64 x_6],.bool b_8,.bool (!b_8),g56] r_7.2 := by kernel_rfl
theorem c4_46 : P4 [1,1,1,1,1,1,0,1,0,0,1,0,0,1] = .cond (.tmp 55) (P4 [1,1,1,1,1,1,0,1,0,0,1,0,0,1,0]) (P4 [1,1,1,1,1,1,0,1,0,0,1,0,0,1,1]) := by kernel_rfl
theorem k4_47 : P4 [1,1,1,1,1,1,0,1,0,0,1,0,0,1,0] = .seq (P4 [1,1,1,1,1,1,0,1,0,0,1,0,0,1,0,0]) (P4 [1,1,1,1,1,1,0,1,0,0,1,0,0,1,0,1]) := by kernel_rfl
theorem k4_48 : P4 [1,1,1,1,1,1,0,1,0,0,1,0,0,1,0,0] = .region 14 (O4 [1,1,1,1,1,1,0,1,0,0,1,0,0,1,0,0]) false := by kernel_rfl
theorem r4_14 {M : Mem} {call : CallM} {K : Array Value → Mem → R} :
    opsK Try.prog (fun _ => call) (O4 [1,1,1,1,1,1,0,1,0,0,1,0,0,1,0,0]) (O4 [1,1,1,1,1,1,0,1,0,0,1,0,0,1,0,0]).toList 0 #[g0,g1,g2,g3,g4,g5,g6,g7,g8,g9,g10,g11,g12,g13,g14,g15,g16,g17,g18,g19,g20,g21,g22,g23,g24,g25,g26,g27,g28,g29,g30,g31,g32,g33,g34,g35,g36,g37,g38,g39,g40,g41,g42,g43,g44,g45,g46,g47,g48,g49,g50,g51,g52,g53,g54,g55,g56] M K = K #[g0,g1,.bool false,g3,g4,g5,g6,g7,g8,g9,g10,g11,g12,g13,g14,g15,g16,g17,g18,g19,g20,g21,g22,g23,g24,g25,g26,g27,g28,g29,g30,g31,g32,g33,g34,g35,g36,g37,g38,g39,g40,g41,g42,g43,g44,g45,g46,g47,g48,g49,g50,g51,g52,g53,g54,g55,g56] M := by kernel_rfl
theorem k4_49 : P4 [1,1,1,1,1,1,0,1,0,0,1,0,0,1,0,1] = .ret := by kernel_rfl
theorem k4_50 : P4 [1,1,1,1,1,1,0,1,0,0,1,0,0,1,1] = .skip := by kernel_rfl
theorem k4_51 : P4 [1,1,1,1,1,1,0,1,0,0,1,1] = .region 12 (O4 [1,1,1,1,1,1,0,1,0,0,1,1]) false := by kernel_rfl
theorem r4_12 {x9 : Int} {M : Mem} {call : CallM} {K : Array Value → Mem → R} :
    opsK Try.prog (fun _ => call) (O4 [1,1,1,1,1,1,0,1,0,0,1,1]) (O4 [1,1,1,1,1,1,0,1,0,0,1,1]).toList 0 #[g0,g1,g2,g3,g4,g5,g6,g7,g8,.int .i64 x9,g10,g11,g12,g13,g14,g15,g16,g17,g18,g19,g20,g21,g22,g23,g24,g25,g26,g27,g28,g29,g30,g31,g32,g33,g34,g35,g36,g37,g38,g39,g40,g41,g42,g43,g44,g45,g46,g47,g48,g49,g50,g51,g52,g53,g54,g55,g56] M K = K #[g0,g1,g2,g3,g4,g5,g6,g7,g8,.int .i64 (IntKind.i64.wrap (x9 + 1)),g10,g11,g12,g13,g14,g15,g16,g17,g18,g19,g20,g21,g22,g23,g24,g25,g26,g27,g28,g29,g30,g31,g32,g33,g34,g35,g36,g37,g38,g39,g40,g41,g42,g43,.int .i64 x9,.int .i64 (IntKind.i64.wrap (x9 + 1)),g46,g47,g48,g49,g50,g51,g52,g53,g54,g55,g56] M := by kernel_rfl
theorem k4_52 : P4 [1,1,1,1,1,1,0,1,0,0,0,1,1] = .exit 2 := by kernel_rfl
theorem k4_53 : P4 [1,1,1,1,1,1,1] = .seq (P4 [1,1,1,1,1,1,1,0]) (P4 [1,1,1,1,1,1,1,1]) := by kernel_rfl
theorem k4_54 : P4 [1,1,1,1,1,1,1,0] = .region 15 (O4 [1,1,1,1,1,1,1,0]) false := by kernel_rfl
theorem r4_15 {M : Mem} {call : CallM} {K : Array Value → Mem → R} :
    opsK Try.prog (fun _ => call) (O4 [1,1,1,1,1,1,1,0]) (O4 [1,1,1,1,1,1,1,0]).toList 0 #[g0,g1,g2,g3,g4,g5,g6,g7,g8,g9,g10,g11,g12,g13,g14,g15,g16,g17,g18,g19,g20,g21,g22,g23,g24,g25,g26,g27,g28,g29,g30,g31,g32,g33,g34,g35,g36,g37,g38,g39,g40,g41,g42,g43,g44,g45,g46,g47,g48,g49,g50,g51,g52,g53,g54,g55,g56] M K = (call 16 #[] M).bind fun r_1 => (asB r_1.1).bind fun b_2 => K #[g0,g1,.bool b_2,g3,g4,g5,g6,g7,g8,g9,g10,g11,g12,g13,g14,g15,g16,g17,g18,g19,g20,g21,g22,g23,g24,g25,g26,g27,g28,g29,g30,g31,g32,g33,g34,g35,g36,g37,g38,g39,g40,g41,g42,g43,g44,g45,g46,g47,g48,g49,g50,g51,g52,g53,g54,g55,.bool b_2] r_1.2 := by kernel_rfl
theorem k4_55 : P4 [1,1,1,1,1,1,1,1] = .ret := by kernel_rfl
noncomputable def S4_1 : List Item := [.code (P4 [1,1,0,1,0,0]), .inLoop (P4 [1,1,0,1,0,0]), .inBlock 0, .code (P4 [1,1,1])]
def A4_1 (Ax0 : Option Addr) (lx0 cx0 : Nat) (Ax3 : Option Addr) (lx3 cx3 : Nat) (x4 : Int) (M : Mem) (Q : Value → Mem → Prop) : Prop := ∀ (g1 g2 g5 g6 g7 g8 g9 g10 g11 g12 g13 g14 g15 g16 g17 g18 g19 g20 g21 g22 g23 g24 g25 g26 g27 g28 g29 g30 g31 g32 g33 g34 g35 g36 g37 g38 g39 g40 g41 g42 g43 g44 g45 g46 g47 g48 g49 g50 g51 g52 g53 g54 g55 g56 : Value), Rn Try.prog Try.f4 S4_1 #[.slice Ax0 lx0 cx0, g1, g2, .slice Ax3 lx3 cx3, .int .i64 x4, g5, g6, g7, g8, g9, g10, g11, g12, g13, g14, g15, g16, g17, g18, g19, g20, g21, g22, g23, g24, g25, g26, g27, g28, g29, g30, g31, g32, g33, g34, g35, g36, g37, g38, g39, g40, g41, g42, g43, g44, g45, g46, g47, g48, g49, g50, g51, g52, g53, g54, g55, g56] M Q
noncomputable def S4_2 : List Item := [.code (P4 [1,1,1,1,1,1,0,1,0,0]), .inLoop (P4 [1,1,1,1,1,1,0,1,0,0]), .inBlock 2, .code (P4 [1,1,1,1,1,1,1])]
def A4_2 (Ax0 : Option Addr) (lx0 cx0 : Nat) (Ax3 : Option Addr) (lx3 cx3 : Nat) (x9 : Int) (M : Mem) (Q : Value → Mem → Prop) : Prop := ∀ (g1 g2 g4 g5 g6 g7 g8 g10 g11 g12 g13 g14 g15 g16 g17 g18 g19 g20 g21 g22 g23 g24 g25 g26 g27 g28 g29 g30 g31 g32 g33 g34 g35 g36 g37 g38 g39 g40 g41 g42 g43 g44 g45 g46 g47 g48 g49 g50 g51 g52 g53 g54 g55 g56 : Value), Rn Try.prog Try.f4 S4_2 #[.slice Ax0 lx0 cx0, g1, g2, .slice Ax3 lx3 cx3, g4, g5, g6, g7, g8, .int .i64 x9, g10, g11, g12, g13, g14, g15, g16, g17, g18, g19, g20, g21, g22, g23, g24, g25, g26, g27, g28, g29, g30, g31, g32, g33, g34, g35, g36, g37, g38, g39, g40, g41, g42, g43, g44, g45, g46, g47, g48, g49, g50, g51, g52, g53, g54, g55, g56] M Q
theorem w4_0 {Ax0 : Option Addr} {lx0 cx0 : Nat} {M : Mem} {Q : Value → Mem → Prop} (H :
    A4_1 Ax0 lx0 cx0 none 0 0 0 M Q) :
    Cn Try.prog 4 #[.slice Ax0 lx0 cx0] M Q := by
  refine Cn.of b4 d4 t4 ?_
  refine Rn.seq k4_0 (Rn.region k4_1 (fun call K => r4_0) (Rch.leaf (Rn.seq k4_2 (Rn.region k4_3 (fun call K => r4_1) (Rch.leaf (Rn.seq k4_4 (Rn.seq k4_5 (Rn.region k4_6 (fun call K => r4_2) (Rch.leaf (Rn.block k4_7 (Rn.loop k4_8 ?_)))))))))))
  exact H _ _ _ _ _ _ _ _ _ _ _ _ _ _ _ _ _ _ _ _ _ _ _ _ _ _ _ _ _ _ _ _ _ _ _ _ _ _ _ _ _ _ _ _ _ _ _ _ _ _ _ _ _ _

theorem w4_1 {Ax0 : Option Addr} {lx0 cx0 : Nat} {Ax3 : Option Addr} {lx3 cx3 : Nat} {x4 : Int} {M : Mem} {Q : Value → Mem → Prop} (H :
    ((x4 < ((lx0 : Int)) →
     ∃ a1', idxA Ax0 lx0 2 x4 = some a1' ∧
     ∃ s2', M.slAt a1'.block a1'.off = some s2' ∧
     ∃ x3', M.intAt .i64 a1'.block (a1'.off + 1) = some x3' ∧
     Cn Try.prog 10 #[.agg #[.slice s2'.1 (s2'.2.1) (s2'.2.2), .int .i64 x3']] M fun v4' N4' =>
      ∃ cs5', asA 2 v4' = some cs5' ∧
      ∃ s6', asS (cs5'.getD 0 undef) = some s6' ∧
      ∃ x7', asI .i64 (cs5'.getD 1 undef) = some x7' ∧
      ∃ r8', appendP Try.prog #[34, 34] (.slice Ax3 lx3 cx3) (.slice (some ⟨2 * N4'.nb.size, 0, none⟩) 1 1) (N4'.new (.cells #[.slice s6'.1 (s6'.2.1) (s6'.2.2), .int .i64 x7'] 24)) = some r8' ∧
      ∃ s9', asS r8'.1 = some s9' ∧
      A4_1 Ax0 lx0 cx0 s9'.1 s9'.2.1 s9'.2.2 (IntKind.i64.wrap (x4 + 1)) r8'.2 Q) ∧
     (¬ (x4 < ((lx0 : Int))) →
     Cn Try.prog 17 #[.slice Ax3 lx3 cx3] M fun v10' N10' =>
      ∃ cs11', asU 2 v10' = some cs11' ∧
      ∃ cs12', asA 2 (cs11'.getD 0 undef) = some cs12' ∧
      ∃ s13', asS (cs12'.getD 0 undef) = some s13' ∧
      ∃ x14', asI .i64 (cs12'.getD 1 undef) = some x14' ∧
      ∃ x15', asI .i64 (cs11'.getD 1 undef) = some x15' ∧
      ∃ M16', (N10'.new (.cells #[.slice none 0 0, .int .i64 0] 24)).put (2 * N10'.nb.size) 0 (.slice s13'.1 (s13'.2.1) (s13'.2.2)) = some M16' ∧
      ∃ M17', M16'.put (2 * N10'.nb.size) 1 (.int .i64 x14') = some M17' ∧
      Cn Try.prog 18 #[.slice Ax0 lx0 cx0] M17' fun v18' N18' =>
       ∃ cs19', asU 2 v18' = some cs19' ∧
       ∃ cs20', asA 2 (cs19'.getD 0 undef) = some cs20' ∧
       ∃ s21', asS (cs20'.getD 0 undef) = some s21' ∧
       ∃ x22', asI .i64 (cs20'.getD 1 undef) = some x22' ∧
       ∃ x23', asI .i64 (cs19'.getD 1 undef) = some x23' ∧
       ∃ M24', (N18'.new (.cells #[.slice none 0 0, .int .i64 0] 24)).put (2 * N18'.nb.size) 0 (.slice s21'.1 (s21'.2.1) (s21'.2.2)) = some M24' ∧
       ∃ M25', M24'.put (2 * N18'.nb.size) 1 (.int .i64 x22') = some M25' ∧
       ∃ s26', M25'.slAt (2 * N10'.nb.size) 0 = some s26' ∧
       ∃ x27', M25'.intAt .i64 (2 * N10'.nb.size) (0 + 1) = some x27' ∧
       ∃ s28', M25'.slAt (2 * N18'.nb.size) 0 = some s28' ∧
       ∃ x29', M25'.intAt .i64 (2 * N18'.nb.size) (0 + 1) = some x29' ∧
       Cn Try.prog 15 #[.agg #[.slice s26'.1 (s26'.2.1) (s26'.2.2), .int .i64 x27'], .int .i64 x15', .agg #[.slice s28'.1 (s28'.2.1) (s28'.2.2), .int .i64 x29'], .int .i64 x23'] M25' fun v30' N30' =>
        ∃ b31', asB v30' = some b31' ∧
        (((!b31') = true →
         Q (.bool false) N30') ∧
         ((!b31') = false →
         A4_2 Ax0 lx0 cx0 Ax3 lx3 cx3 0 N30' Q))))) :
    A4_1 Ax0 lx0 cx0 Ax3 lx3 cx3 x4 M Q := by
  intro g1 g2 g5 g6 g7 g8 g9 g10 g11 g12 g13 g14 g15 g16 g17 g18 g19 g20 g21 g22 g23 g24 g25 g26 g27 g28 g29 g30 g31 g32 g33 g34 g35 g36 g37 g38 g39 g40 g41 g42 g43 g44 g45 g46 g47 g48 g49 g50 g51 g52 g53 g54 g55 g56
  refine Rn.seq k4_9 (Rn.seq k4_10 (Rn.region k4_11 (fun call K => r4_3) (Rch.leaf ?_)))
  refine Rn.cnd (v := decide (x4 < ((lx0 : Int)))) ⟨c4_12, rfl, by kernel_rfl⟩ (fun h => ?_) (fun h => ?_)
  · replace H := H.1 (of_decide_eq_true h)
    refine Rn.skip k4_13 (Rn.seq k4_14 (Rn.block k4_15 (Rn.region k4_16 (fun call K => r4_5) (Rch.ex H fun a1' H => Rch.ex H fun s2' H => Rch.ex H fun x3' H => Rch.call H fun v4' N4' H => Rch.ex H fun cs5' H => Rch.ex H fun s6' H => Rch.ex H fun x7' H => Rch.ex H fun r8' H => ?_))))
    refine Rch.ex H fun s9' H => Rch.leaf (Rn.blk (Rn.region k4_17 (fun call K => r4_4) (Rch.leaf (Rn.lp ?_))))
    exact H _ _ _ _ _ _ _ _ _ _ _ _ _ _ _ _ _ _ _ _ _ _ _ _ _ _ _ _ _ _ _ _ _ _ _ _ _ _ _ _ _ _ _ _ _ _ _ _ _ _ _ _ _ _
  · replace H := H.2 (of_decide_eq_false h)
    refine Rn.exit k4_18 rfl (Rn.seq k4_19 (Rn.region k4_20 (fun call K => r4_6) (Rch.call H fun v10' N10' H => Rch.ex H fun cs11' H => Rch.ex H fun cs12' H => Rch.ex H fun s13' H => Rch.ex H fun x14' H => Rch.ex H fun x15' H => Rch.ex H fun M16' H => Rch.ex H fun M17' H => Rch.leaf ?_)))
    refine Rn.seq k4_21 (Rn.region k4_22 (fun call K => r4_7) (Rch.call H fun v18' N18' H => Rch.ex H fun cs19' H => Rch.ex H fun cs20' H => Rch.ex H fun s21' H => Rch.ex H fun x22' H => Rch.ex H fun x23' H => Rch.ex H fun M24' H => Rch.ex H fun M25' H => Rch.leaf (Rn.seq k4_23 ?_)))
    refine Rn.seq k4_24 (Rn.region k4_25 (fun call K => r4_8) (Rch.bind (x := ⟨2 * N10'.nb.size, 0, none⟩) rfl (Rch.ex H fun s26' H => Rch.ex H fun x27' H => Rch.bind (x := ⟨2 * N18'.nb.size, 0, none⟩) rfl (Rch.ex H fun s28' H => Rch.ex H fun x29' H => Rch.call H fun v30' N30' H => Rch.ex H fun b31' H => Rch.leaf ?_))))
    refine Rn.cnd (v := !b31') ⟨c4_26, rfl, by kernel_rfl⟩ (fun h => ?_) (fun h => ?_)
    · replace H := H.1 (h)
      refine Rn.seq k4_27 (Rn.region k4_28 (fun call K => r4_9) (Rch.leaf ?_))
      exact Rn.ret k4_29 e4 H
    · replace H := H.2 (h)
      refine Rn.skip k4_31 (Rn.seq k4_32 (Rn.seq k4_33 (Rn.region k4_34 (fun call K => r4_10) (Rch.leaf (Rn.block k4_35 (Rn.loop k4_36 ?_))))))
      exact H _ _ _ _ _ _ _ _ _ _ _ _ _ _ _ _ _ _ _ _ _ _ _ _ _ _ _ _ _ _ _ _ _ _ _ _ _ _ _ _ _ _ _ _ _ _ _ _ _ _ _ _ _ _

theorem w4_2 {Ax0 : Option Addr} {lx0 cx0 : Nat} {Ax3 : Option Addr} {lx3 cx3 : Nat} {x9 : Int} {M : Mem} {Q : Value → Mem → Prop} (H :
    ((x9 < ((lx0 : Int)) →
     ∃ a32', idxA Ax3 lx3 2 x9 = some a32' ∧
     ∃ s33', M.slAt a32'.block a32'.off = some s33' ∧
     ∃ x34', M.intAt .i64 a32'.block (a32'.off + 1) = some x34' ∧
     ∃ a35', idxA Ax0 lx0 2 x9 = some a35' ∧
     ∃ s36', M.slAt a35'.block a35'.off = some s36' ∧
     ∃ x37', M.intAt .i64 a35'.block (a35'.off + 1) = some x37' ∧
     Cn Try.prog 14 #[.agg #[.slice s33'.1 (s33'.2.1) (s33'.2.2), .int .i64 x34'], .agg #[.slice s36'.1 (s36'.2.1) (s36'.2.2), .int .i64 x37']] M fun v38' N38' =>
      ∃ b39', asB v38' = some b39' ∧
      (((!b39') = true →
       Q (.bool false) N38') ∧
       ((!b39') = false →
       A4_2 Ax0 lx0 cx0 Ax3 lx3 cx3 (IntKind.i64.wrap (x9 + 1)) N38' Q))) ∧
     (¬ (x9 < ((lx0 : Int))) →
     Cn Try.prog 16 #[] M fun v40' N40' =>
      ∃ b41', asB v40' = some b41' ∧
      Q (.bool b41') N40'))) :
    A4_2 Ax0 lx0 cx0 Ax3 lx3 cx3 x9 M Q := by
  intro g1 g2 g4 g5 g6 g7 g8 g10 g11 g12 g13 g14 g15 g16 g17 g18 g19 g20 g21 g22 g23 g24 g25 g26 g27 g28 g29 g30 g31 g32 g33 g34 g35 g36 g37 g38 g39 g40 g41 g42 g43 g44 g45 g46 g47 g48 g49 g50 g51 g52 g53 g54 g55 g56
  refine Rn.seq k4_37 (Rn.seq k4_38 (Rn.region k4_39 (fun call K => r4_11) (Rch.leaf ?_)))
  refine Rn.cnd (v := decide (x9 < ((lx0 : Int)))) ⟨c4_40, rfl, by kernel_rfl⟩ (fun h => ?_) (fun h => ?_)
  · replace H := H.1 (of_decide_eq_true h)
    refine Rn.skip k4_41 (Rn.seq k4_42 (Rn.block k4_43 (Rn.seq k4_44 (Rn.regionD k4_45 (fun call K => r4_13) (Rch.ex H fun a32' H => Rch.ex H fun s33' H => Rch.ex H fun x34' H => Rch.ex H fun a35' H => Rch.ex H fun s36' H => Rch.ex H fun x37' H => Rch.call H fun v38' N38' H => ?_)))))
    refine Rch.ex H fun b39' H => Rch.leaf ?_
    refine Rn.cnd (v := !b39') ⟨c4_46, rfl, by kernel_rfl⟩ (fun h => ?_) (fun h => ?_)
    · replace H := H.1 (h)
      refine Rn.seq k4_47 (Rn.region k4_48 (fun call K => r4_14) (Rch.leaf ?_))
      exact Rn.ret k4_49 e4 H
    · replace H := H.2 (h)
      refine Rn.skip k4_50 (Rn.blk (Rn.region k4_51 (fun call K => r4_12) (Rch.leaf (Rn.lp ?_))))
      exact H _ _ _ _ _ _ _ _ _ _ _ _ _ _ _ _ _ _ _ _ _ _ _ _ _ _ _ _ _ _ _ _ _ _ _ _ _ _ _ _ _ _ _ _ _ _ _ _ _ _ _ _ _ _
  · replace H := H.2 (of_decide_eq_false h)
    refine Rn.exit k4_52 rfl (Rn.seq k4_53 (Rn.region k4_54 (fun call K => r4_15) (Rch.call H fun v40' N40' H => Rch.ex H fun b41' H => Rch.leaf ?_)))
    exact Rn.ret k4_55 e4 H


end Go.Zt
