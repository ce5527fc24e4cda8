/- The functions' walks: for each function and each loop a rule of what it comes to. Printed by zw.py. -/
import Derived.Test.YtpfhalehdgcbeaaProg
import Derived.Test.YtpfhalehdgcbeaaZgA
set_option linter.unusedVariables false
set_option maxRecDepth 100000
namespace Go.Zt
open Go Go.Sim Go.Proofs

variable {g0 g1 g2 g3 g4 g5 g6 g7 g8 g9 g10 g11 g12 g13 g14 g15 g16 g17 g18 g19 g20 g21 g22 g23 g24 g25 g26 g27 g28 g29 g30 g31 g32 g33 g34 g35 g36 g37 g38 g39 g40 g41 g42 g43 g44 g45 g46 g47 g48 g49 g50 g51 g52 g53 g54 g55 g56 g57 g58 g59 g60 g61 g62 g63 g64 g65 g66 g67 g68 g69 g70 g71 g72 g73 g74 g75 g76 : Value}
/-! ### zoetrope/basis.Forward: function 45 -/
noncomputable abbrev P45 (p : List Nat) : Code := subC (codeOf Try.f45) p
noncomputable abbrev O45 (p : List Nat) : Array Oper := opsOf (subC (codeOf Try.f45) p)
theorem b45 : Try.prog.funcs[45]? = some Try.f45 ∧ (Orc.tab Try.prog).lookup 45 = none := ⟨by kernel_rfl, by kernel_rfl⟩
theorem d45 : Try.f45.body = some (P45 []) := by kernel_rfl
theorem t45 {x0 : Int} {Ax1 : Option Addr} {lx1 cx1 : Nat} : #[.int .i64 x0,.slice Ax1 lx1 cx1] ++ Array.replicate (Try.f45.ntmps - (#[.int .i64 x0,.slice Ax1 lx1 cx1] : Array Value).size) undef = #[.int .i64 x0,.slice Ax1 lx1 cx1,undef,undef,undef,undef,undef,undef,undef,undef,undef,undef,undef,undef,undef,undef,undef,undef,undef,undef,undef,undef,undef,undef,undef,undef,undef,undef,undef,undef,undef,undef,undef,undef,undef,undef,undef,undef,undef,undef,undef,undef,undef,undef,undef,undef,undef,undef,undef,undef,undef,undef,undef,undef,undef,undef,undef,undef,undef,undef,undef,undef,undef,undef,undef,undef,undef,undef,undef,undef,undef,undef,undef,undef,undef] := by kernel_rfl
theorem k45_0 : P45 [] = .seq (P45 [0]) (P45 [1]) := by kernel_rfl
theorem k45_1 : P45 [0] = .region 0 (O45 [0]) false := by kernel_rfl
theorem r45_0 {M : Mem} {call : CallM} {K : Array Value → Mem → R} :
    opsK Try.prog (fun _ => call) (O45 [0]) (O45 [0]).toList 0 #[g0,g1,g2,g3,g4,g5,g6,g7,g8,g9,g10,g11,g12,g13,g14,g15,g16,g17,g18,g19,g20,g21,g22,g23,g24,g25,g26,g27,g28,g29,g30,g31,g32,g33,g34,g35,g36,g37,g38,g39,g40,g41,g42,g43,g44,g45,g46,g47,g48,g49,g50,g51,g52,g53,g54,g55,g56,g57,g58,g59,g60,g61,g62,g63,g64,g65,g66,g67,g68,g69,g70,g71,g72,g73,g74] M K = K #[g0,g1,g2,g3,.slice none 0 0,.int .i64 0,g6,g7,g8,g9,g10,g11,g12,g13,g14,g15,g16,g17,g18,g19,g20,g21,g22,g23,g24,g25,g26,g27,g28,g29,g30,g31,g32,g33,g34,g35,g36,g37,g38,g39,g40,g41,g42,g43,g44,g45,g46,g47,g48,g49,g50,g51,g52,g53,g54,g55,g56,g57,g58,g59,g60,g61,g62,g63,g64,g65,g66,g67,g68,g69,g70,g71,g72,g73,g74] M := by kernel_rfl
theorem k45_2 : P45 [1] = .seq (P45 [1,0]) (P45 [1,1]) := by kernel_rfl
theorem k45_3 : P45 [1,0] = .region 1 (O45 [1,0]) false := by kernel_rfl
theorem r45_1 {x0 : Int} {Ax1 : Option Addr} {lx1 cx1 : Nat} {M : Mem} {call : CallM} {K : Array Value → Mem → R} :
    opsK Try.prog (fun _ => call) (O45 [1,0]) (O45 [1,0]).toList 0 #[.int .i64 x0,.slice Ax1 lx1 cx1,g2,g3,g4,g5,g6,g7,g8,g9,g10,g11,g12,g13,g14,g15,g16,g17,g18,g19,g20,g21,g22,g23,g24,g25,g26,g27,g28,g29,g30,g31,g32,g33,g34,g35,g36,g37,g38,g39,g40,g41,g42,g43,g44,g45,g46,g47,g48,g49,g50,g51,g52,g53,g54,g55,g56,g57,g58,g59,g60,g61,g62,g63,g64,g65,g66,g67,g68,g69,g70,g71,g72,g73,g74] M K = (call 52 #[.int .i64 x0, .slice Ax1 lx1 cx1] M).bind fun r_1 => (asU 2 r_1.1).bind fun cs_2 => (asA 2 (cs_2.getD 0 undef)).bind fun cs_3 => (asI .i64 (cs_3.getD 0 undef)).bind fun x_4 => (asB (cs_2.getD 1 undef)).bind fun b_5 => ((r_1.2.new (.cells #[.int .i64 0, .nilFunc] 54)).put (2 * r_1.2.nb.size) 0 (.int .i64 x_4)).bind fun M_6 => (M_6.put (2 * r_1.2.nb.size) 1 (cs_3.getD 1 undef)).bind fun M_7 => K #[.int .i64 x0,.slice Ax1 lx1 cx1,g2,g3,g4,g5,.pointer (some ⟨2 * r_1.2.nb.size, 0, none⟩),.bool b_5,g8,g9,g10,g11,.tuple #[.agg #[.int .i64 x_4, cs_3.getD 1 undef], .bool b_5],.int .i64 x0,.slice Ax1 lx1 cx1,.tuple #[.agg #[.int .i64 x_4, cs_3.getD 1 undef], .bool b_5],.agg #[.int .i64 x_4, cs_3.getD 1 undef],.bool b_5,g18,g19,g20,g21,g22,g23,g24,g25,g26,g27,g28,g29,g30,g31,g32,g33,g34,g35,g36,g37,g38,g39,g40,g41,g42,g43,g44,g45,g46,g47,g48,g49,g50,g51,g52,g53,g54,g55,g56,g57,g58,g59,g60,g61,g62,g63,g64,g65,g66,g67,g68,g69,g70,g71,g72,g73,g74] M_7 := by kernel_rfl
theorem k45_4 : P45 [1,1] = .seq (P45 [1,1,0]) (P45 [1,1,1]) := by kernel_rfl
theorem k45_5 : P45 [1,1,0] = .seq (P45 [1,1,0,0]) (P45 [1,1,0,1]) := by kernel_rfl
theorem k45_6 : P45 [1,1,0,0] = .region 2 (O45 [1,1,0,0]) false := by kernel_rfl
theorem r45_2 {x7 : Bool} {M : Mem} {call : CallM} {K : Array Value → Mem → R} :
    opsK Try.prog (fun _ => call) (O45 [1,1,0,0]) (O45 [1,1,0,0]).toList 0 #[g0,g1,g2,g3,g4,g5,g6,.bool x7,g8,g9,g10,g11,g12,g13,g14,g15,g16,g17,g18,g19,g20,g21,g22,g23,g24,g25,g26,g27,g28,g29,g30,g31,g32,g33,g34,g35,g36,g37,g38,g39,g40,g41,g42,g43,g44,g45,g46,g47,g48,g49,g50,g51,g52,g53,g54,g55,g56,g57,g58,g59,g60,g61,g62,g63,g64,g65,g66,g67,g68,g69,g70,g71,g72,g73,g74] M K = K #[g0,g1,g2,g3,g4,g5,g6,.bool x7,g8,g9,g10,g11,g12,g13,g14,g15,g16,g17,.bool x7,.bool (!x7),g20,g21,g22,g23,g24,g25,g26,g27,g28,g29,g30,g31,g32,g33,g34,g35,g36,g37,g38,g39,g40,g41,g42,g43,g44,g45,g46,g47,g48,g49,g50,g51,g52,g53,g54,g55,g56,g57,g58,g59,g60,g61,g62,g63,g64,g65,g66,g67,g68,g69,g70,g71,g72,g73,g74] M := by kernel_rfl
theorem c45_7 : P45 [1,1,0,1] = .cond (.tmp 19) (P45 [1,1,0,1,0]) (P45 [1,1,0,1,1]) := by kernel_rfl
theorem k45_8 : P45 [1,1,0,1,0] = .seq (P45 [1,1,0,1,0,0]) (P45 [1,1,0,1,0,1]) := by kernel_rfl
theorem k45_9 : P45 [1,1,0,1,0,0] = .region 3 (O45 [1,1,0,1,0,0]) false := by kernel_rfl
theorem r45_3 {M : Mem} {call : CallM} {K : Array Value → Mem → R} :
    opsK Try.prog (fun _ => call) (O45 [1,1,0,1,0,0]) (O45 [1,1,0,1,0,0]).toList 0 #[g0,g1,g2,g3,g4,g5,g6,g7,g8,g9,g10,g11,g12,g13,g14,g15,g16,g17,g18,g19,g20,g21,g22,g23,g24,g25,g26,g27,g28,g29,g30,g31,g32,g33,g34,g35,g36,g37,g38,g39,g40,g41,g42,g43,g44,g45,g46,g47,g48,g49,g50,g51,g52,g53,g54,g55,g56,g57,g58,g59,g60,g61,g62,g63,g64,g65,g66,g67,g68,g69,g70,g71,g72,g73,g74] M K = K #[g0,g1,g2,g3,.slice none 0 0,.int .i64 2,g6,g7,g8,g9,g10,g11,g12,g13,g14,g15,g16,g17,g18,g19,g20,g21,g22,g23,g24,g25,g26,g27,g28,g29,g30,g31,g32,g33,g34,g35,g36,g37,g38,g39,g40,g41,g42,g43,g44,g45,g46,g47,g48,g49,g50,g51,g52,g53,g54,g55,g56,g57,g58,g59,g60,g61,g62,g63,g64,g65,g66,g67,g68,g69,g70,g71,g72,g73,g74] M := by kernel_rfl
theorem k45_10 : P45 [1,1,0,1,0,1] = .ret := by kernel_rfl
theorem e45 {M : Mem} : finish Try.prog Try.f45 #[g0,g1,g2,g3,g4,g5,g6,g7,g8,g9,g10,g11,g12,g13,g14,g15,g16,g17,g18,g19,g20,g21,g22,g23,g24,g25,g26,g27,g28,g29,g30,g31,g32,g33,g34,g35,g36,g37,g38,g39,g40,g41,g42,g43,g44,g45,g46,g47,g48,g49,g50,g51,g52,g53,g54,g55,g56,g57,g58,g59,g60,g61,g62,g63,g64,g65,g66,g67,g68,g69,g70,g71,g72,g73,g74] M = some (.tuple #[g4, g5], M) := by kernel_rfl
theorem k45_12 : P45 [1,1,0,1,1] = .skip := by kernel_rfl
theorem k45_13 : P45 [1,1,1] = .seq (P45 [1,1,1,0]) (P45 [1,1,1,1]) := by kernel_rfl
theorem k45_14 : P45 [1,1,1,0] = .seq (P45 [1,1,1,0,0]) (P45 [1,1,1,0,1]) := by kernel_rfl
theorem k45_15 : P45 [1,1,1,0,0] = .region 4 (O45 [1,1,1,0,0]) false := by kernel_rfl
theorem r45_4 {x6 : Option Addr} {M : Mem} {call : CallM} {K : Array Value → Mem → R} :
    opsK Try.prog (fun _ => call) (O45 [1,1,1,0,0]) (O45 [1,1,1,0,0]).toList 0 #[g0,g1,g2,g3,g4,g5,.pointer x6,g7,g8,g9,g10,g11,g12,g13,g14,g15,g16,g17,g18,g19,g20,g21,g22,g23,g24,g25,g26,g27,g28,g29,g30,g31,g32,g33,g34,g35,g36,g37,g38,g39,g40,g41,g42,g43,g44,g45,g46,g47,g48,g49,g50,g51,g52,g53,g54,g55,g56,g57,g58,g59,g60,g61,g62,g63,g64,g65,g66,g67,g68,g69,g70,g71,g72,g73,g74] M K = (x6).bind fun a_1 => (M.cell a_1.block (a_1.off + 1)).bind fun v_2 => (fnilV Try.prog 33 v_2).bind fun b_3 => K #[g0,g1,g2,g3,g4,g5,.pointer x6,g7,g8,g9,g10,g11,g12,g13,g14,g15,g16,g17,g18,g19,.pointer (some ⟨a_1.block, a_1.off + 1, none⟩),v_2,.bool b_3,g23,g24,g25,g26,g27,g28,g29,g30,g31,g32,g33,g34,g35,g36,g37,g38,g39,g40,g41,g42,g43,g44,g45,g46,g47,g48,g49,g50,g51,g52,g53,g54,g55,g56,g57,g58,g59,g60,g61,g62,g63,g64,g65,g66,g67,g68,g69,g70,g71,g72,g73,g74] M := by kernel_rfl
theorem c45_16 : P45 [1,1,1,0,1] = .cond (.tmp 22) (P45 [1,1,1,0,1,0]) (P45 [1,1,1,0,1,1]) := by kernel_rfl
theorem k45_17 : P45 [1,1,1,0,1,0] = .seq (P45 [1,1,1,0,1,0,0]) (P45 [1,1,1,0,1,0,1]) := by kernel_rfl
theorem k45_18 : P45 [1,1,1,0,1,0,0] = .region 5 (O45 [1,1,1,0,1,0,0]) true ∧ drawOk (O45 [1,1,1,0,1,0,0]) = true := ⟨by kernel_rfl, by kernel_rfl⟩
theorem r45_5 {Ax1 : Option Addr} {lx1 cx1 : Nat} {M : Mem} {call : CallM} {K : Array Value → Mem → R} :
    opsI Try.prog (callAt call (O45 [1,1,1,0,1,0,0])) (O45 [1,1,1,0,1,0,0]) (ordOf (O45 [1,1,1,0,1,0,0])) [] #[g0,.slice Ax1 lx1 cx1,g2,g3,g4,g5,g6,g7,g8,g9,g10,g11,g12,g13,g14,g15,g16,g17,g18,g19,g20,g21,g22,g23,g24,g25,g26,g27,g28,g29,g30,g31,g32,g33,g34,g35,g36,g37,g38,g39,g40,g41,g42,g43,g44,g45,g46,g47,g48,g49,g50,g51,g52,g53,g54,g55,g56,g57,g58,g59,g60,g61,g62,g63,g64,g65,g66,g67,g68,g69,g70,g71,g72,g73,g74] M K = (idxA Ax1 lx1 1 0).bind fun a_1 => (M.intAt .i64 a_1.block a_1.off).bind fun x_2 => (idxA Ax1 lx1 1 1).bind fun a_3 => (M.intAt .i64 a_3.block a_3.off).bind fun x_4 => (idxA Ax1 lx1 1 2).bind fun a_5 => (M.intAt .i64 a_5.block a_5.off).bind fun x_6 => (idxA Ax1 lx1 1 3).bind fun a_7 => (M.intAt .i64 a_7.block a_7.off).bind fun x_8 => (call 57 #[.int .i64 x_2, .int .i64 x_4, .int .i64 x_6, .int .i64 x_8] M).bind fun r_9 => (asS r_9.1).bind fun s_10 => K #[g0,.slice Ax1 lx1 cx1,g2,g3,.slice s_10.1 (s_10.2.1) (s_10.2.2),.int .i64 0,g6,g7,g8,g9,g10,g11,g12,g13,g14,g15,g16,g17,g18,g19,g20,g21,g22,.slice Ax1 lx1 cx1,.pointer (some a_1),.int .i64 x_2,.slice Ax1 lx1 cx1,.pointer (some a_3),.int .i64 x_4,.slice Ax1 lx1 cx1,.pointer (some a_5),.int .i64 x_6,.slice Ax1 lx1 cx1,.pointer (some a_7),.int .i64 x_8,.slice s_10.1 (s_10.2.1) (s_10.2.2),g36,g37,g38,g39,g40,g41,g42,g43,g44,g45,g46,g47,g48,g49,g50,g51,g52,g53,g54,g55,g56,g57,g58,g59,g60,g61,g62,g63,g64,g65,g66,g67,g68,g69,g70,g71,g72,g73,g74] r_9.2 := by kernel_rfl
theorem k45_19 : P45 [1,1,1,0,1,0,1] = .ret := by kernel_rfl
theorem k45_20 : P45 [1,1,1,0,1,1] = .skip := by kernel_rfl
theorem k45_21 : P45 [1,1,1,1] = .seq (P45 [1,1,1,1,0]) (P45 [1,1,1,1,1]) := by kernel_rfl
theorem k45_22 : P45 [1,1,1,1,0] = .region 6 (O45 [1,1,1,1,0]) false := by kernel_rfl
theorem r45_6 {Ax1 : Option Addr} {lx1 cx1 : Nat} {M : Mem} {call : CallM} {K : Array Value → Mem → R} :
    opsK Try.prog (fun _ => call) (O45 [1,1,1,1,0]) (O45 [1,1,1,1,0]).toList 0 #[g0,.slice Ax1 lx1 cx1,g2,g3,g4,g5,g6,g7,g8,g9,g10,g11,g12,g13,g14,g15,g16,g17,g18,g19,g20,g21,g22,g23,g24,g25,g26,g27,g28,g29,g30,g31,g32,g33,g34,g35,g36,g37,g38,g39,g40,g41,g42,g43,g44,g45,g46,g47,g48,g49,g50,g51,g52,g53,g54,g55,g56,g57,g58,g59,g60,g61,g62,g63,g64,g65,g66,g67,g68,g69,g70,g71,g72,g73,g74] M K = (makeP Try.prog 22 (.int .i64 ((lx1 : Int))) (.int .i64 ((lx1 : Int))) M).bind fun r_1 => (asS r_1.1).bind fun s_2 => K #[g0,.slice Ax1 lx1 cx1,g2,g3,g4,g5,g6,g7,.slice s_2.1 (s_2.2.1) (s_2.2.2),g9,g10,g11,g12,g13,g14,g15,g16,g17,g18,g19,g20,g21,g22,g23,g24,g25,g26,g27,g28,g29,g30,g31,g32,g33,g34,g35,.slice Ax1 lx1 cx1,.int .i64 ((lx1 : Int)),.slice s_2.1 (s_2.2.1) (s_2.2.2),g39,g40,g41,g42,g43,g44,g45,g46,g47,g48,g49,g50,g51,g52,g53,g54,g55,g56,g57,g58,g59,g60,g61,g62,g63,g64,g65,g66,g67,g68,g69,g70,g71,g72,g73,g74] r_1.2 := by kernel_rfl
theorem k45_23 : P45 [1,1,1,1,1] = .seq (P45 [1,1,1,1,1,0]) (P45 [1,1,1,1,1,1]) := by kernel_rfl
theorem k45_24 : P45 [1,1,1,1,1,0] = .seq (P45 [1,1,1,1,1,0,0]) (P45 [1,1,1,1,1,0,1]) := by kernel_rfl
theorem k45_25 : P45 [1,1,1,1,1,0,0] = .region 7 (O45 [1,1,1,1,1,0,0]) false := by kernel_rfl
theorem r45_7 {Ax8 : Option Addr} {lx8 cx8 : Nat} {M : Mem} {call : CallM} {K : Array Value → Mem → R} :
    opsK Try.prog (fun _ => call) (O45 [1,1,1,1,1,0,0]) (O45 [1,1,1,1,1,0,0]).toList 0 #[g0,g1,g2,g3,g4,g5,g6,g7,.slice Ax8 lx8 cx8,g9,g10,g11,g12,g13,g14,g15,g16,g17,g18,g19,g20,g21,g22,g23,g24,g25,g26,g27,g28,g29,g30,g31,g32,g33,g34,g35,g36,g37,g38,g39,g40,g41,g42,g43,g44,g45,g46,g47,g48,g49,g50,g51,g52,g53,g54,g55,g56,g57,g58,g59,g60,g61,g62,g63,g64,g65,g66,g67,g68,g69,g70,g71,g72,g73,g74] M K = K #[g0,g1,g2,g3,g4,g5,g6,g7,.slice Ax8 lx8 cx8,g9,g10,g11,g12,g13,g14,g15,g16,g17,g18,g19,g20,g21,g22,g23,g24,g25,g26,g27,g28,g29,g30,g31,g32,g33,g34,g35,g36,g37,g38,.slice Ax8 lx8 cx8,.int .i64 ((lx8 : Int)),.int .i64 0,g42,g43,g44,g45,g46,g47,g48,g49,g50,g51,g52,g53,g54,g55,g56,g57,g58,g59,g60,g61,g62,g63,g64,g65,g66,g67,g68,g69,g70,g71,g72,g73,g74] M := by kernel_rfl
theorem k45_26 : P45 [1,1,1,1,1,0,1] = .block 0 (P45 [1,1,1,1,1,0,1,0]) := by kernel_rfl
theorem k45_27 : P45 [1,1,1,1,1,0,1,0] = .loop (P45 [1,1,1,1,1,0,1,0,0]) := by kernel_rfl
theorem k45_28 : P45 [1,1,1,1,1,0,1,0,0] = .seq (P45 [1,1,1,1,1,0,1,0,0,0]) (P45 [1,1,1,1,1,0,1,0,0,1]) := by kernel_rfl
theorem k45_29 : P45 [1,1,1,1,1,0,1,0,0,0] = .region 8 (O45 [1,1,1,1,1,0,1,0,0,0]) false := by kernel_rfl
theorem r45_8 {x40 x41 : Int} {M : Mem} {call : CallM} {K : Array Value → Mem → R} :
    opsK Try.prog (fun _ => call) (O45 [1,1,1,1,1,0,1,0,0,0]) (O45 [1,1,1,1,1,0,1,0,0,0]).toList 0 #[g0,g1,g2,g3,g4,g5,g6,g7,g8,g9,g10,g11,g12,g13,g14,g15,g16,g17,g18,g19,g20,g21,g22,g23,g24,g25,g26,g27,g28,g29,g30,g31,g32,g33,g34,g35,g36,g37,g38,g39,.int .i64 x40,.int .i64 x41,g42,g43,g44,g45,g46,g47,g48,g49,g50,g51,g52,g53,g54,g55,g56,g57,g58,g59,g60,g61,g62,g63,g64,g65,g66,g67,g68,g69,g70,g71,g72,g73,g74] M K = K #[g0,g1,g2,g3,g4,g5,g6,g7,g8,g9,g10,g11,g12,g13,g14,g15,g16,g17,g18,g19,g20,g21,g22,g23,g24,g25,g26,g27,g28,g29,g30,g31,g32,g33,g34,g35,g36,g37,g38,g39,.int .i64 x40,.int .i64 x41,.bool (decide (x41 < x40)),g43,g44,g45,g46,g47,g48,g49,g50,g51,g52,g53,g54,g55,g56,g57,g58,g59,g60,g61,g62,g63,g64,g65,g66,g67,g68,g69,g70,g71,g72,g73,g74] M := by kernel_rfl
theorem k45_30 : P45 [1,1,1,1,1,0,1,0,0,1] = .seq (P45 [1,1,1,1,1,0,1,0,0,1,0]) (P45 [1,1,1,1,1,0,1,0,0,1,1]) := by kernel_rfl
theorem c45_31 : P45 [1,1,1,1,1,0,1,0,0,1,0] = .cond (.tmp 42) (P45 [1,1,1,1,1,0,1,0,0,1,0,0]) (P45 [1,1,1,1,1,0,1,0,0,1,0,1]) := by kernel_rfl
theorem k45_32 : P45 [1,1,1,1,1,0,1,0,0,1,0,0] = .skip := by kernel_rfl
theorem k45_33 : P45 [1,1,1,1,1,0,1,0,0,1,1] = .seq (P45 [1,1,1,1,1,0,1,0,0,1,1,0]) (P45 [1,1,1,1,1,0,1,0,0,1,1,1]) := by kernel_rfl
theorem k45_34 : P45 [1,1,1,1,1,0,1,0,0,1,1,0] = .block 1 (P45 [1,1,1,1,1,0,1,0,0,1,1,0,0]) := by kernel_rfl
theorem k45_35 : P45 [1,1,1,1,1,0,1,0,0,1,1,0,0] = .seq (P45 [1,1,1,1,1,0,1,0,0,1,1,0,0,0]) (P45 [1,1,1,1,1,0,1,0,0,1,1,0,0,1]) := by kernel_rfl
theorem k45_36 : P45 [1,1,1,1,1,0,1,0,0,1,1,0,0,0] = .region 9 (O45 [1,1,1,1,1,0,1,0,0,1,1,0,0,0]) false := by kernel_rfl
theorem r45_9 {x41 : Int} {M : Mem} {call : CallM} {K : Array Value → Mem → R} :
    opsK Try.prog (fun _ => call) (O45 [1,1,1,1,1,0,1,0,0,1,1,0,0,0]) (O45 [1,1,1,1,1,0,1,0,0,1,1,0,0,0]).toList 0 #[g0,g1,g2,g3,g4,g5,g6,g7,g8,g9,g10,g11,g12,g13,g14,g15,g16,g17,g18,g19,g20,g21,g22,g23,g24,g25,g26,g27,g28,g29,g30,g31,g32,g33,g34,g35,g36,g37,g38,g39,g40,.int .i64 x41,g42,g43,g44,g45,g46,g47,g48,g49,g50,g51,g52,g53,g54,g55,g56,g57,g58,g59,g60,g61,g62,g63,g64,g65,g66,g67,g68,g69,g70,g71,g72,g73,g74] M K = K #[g0,g1,g2,g3,g4,g5,g6,g7,g8,.int .i64 x41,g10,g11,g12,g13,g14,g15,g16,g17,g18,g19,g20,g21,g22,g23,g24,g25,g26,g27,g28,g29,g30,g31,g32,g33,g34,g35,g36,g37,g38,g39,g40,.int .i64 x41,g42,.int .i64 x41,g44,g45,g46,g47,g48,g49,g50,g51,g52,g53,g54,g55,g56,g57,g58,g59,g60,g61,g62,g63,g64,g65,g66,g67,g68,g69,g70,g71,g72,g73,g74] M := by kernel_rfl
theorem k45_37 : P45 [1,1,1,1,1,0,1,0,0,1,1,0,0,1] = .seq (P45 [1,1,1,1,1,0,1,0,0,1,1,0,0,1,0]) (P45 [1,1,1,1,1,0,1,0,0,1,1,0,0,1,1]) := by kernel_rfl
theorem k45_38 : P45 [1,1,1,1,1,0,1,0,0,1,1,0,0,1,0] = .seq (P45 [1,1,1,1,1,0,1,0,0,1,1,0,0,1,0,0]) (P45 [1,1,1,1,1,0,1,0,0,1,1,0,0,1,0,1]) := by kernel_rfl
theorem k45_39 : P45 [1,1,1,1,1,0,1,0,0,1,1,0,0,1,0,0] = .region 10 (O45 [1,1,1,1,1,0,1,0,0,1,1,0,0,1,0,0]) false := by kernel_rfl
theorem r45_10 {Ax1 : Option Addr} {lx1 cx1 : Nat} {M : Mem} {call : CallM} {K : Array Value → Mem → R} :
    opsK Try.prog (fun _ => call) (O45 [1,1,1,1,1,0,1,0,0,1,1,0,0,1,0,0]) (O45 [1,1,1,1,1,0,1,0,0,1,1,0,0,1,0,0]).toList 0 #[g0,.slice Ax1 lx1 cx1,g2,g3,g4,g5,g6,g7,g8,g9,g10,g11,g12,g13,g14,g15,g16,g17,g18,g19,g20,g21,g22,g23,g24,g25,g26,g27,g28,g29,g30,g31,g32,g33,g34,g35,g36,g37,g38,g39,g40,g41,g42,g43,g44,g45,g46,g47,g48,g49,g50,g51,g52,g53,g54,g55,g56,g57,g58,g59,g60,g61,g62,g63,g64,g65,g66,g67,g68,g69,g70,g71,g72,g73,g74] M K = K #[g0,.slice Ax1 lx1 cx1,g2,g3,g4,g5,g6,g7,g8,g9,g10,g11,g12,g13,g14,g15,g16,g17,g18,g19,g20,g21,g22,g23,g24,g25,g26,g27,g28,g29,g30,g31,g32,g33,g34,g35,g36,g37,g38,g39,g40,g41,g42,g43,.slice Ax1 lx1 cx1,.int .i64 ((lx1 : Int)),.int .i64 0,g47,g48,g49,g50,g51,g52,g53,g54,g55,g56,g57,g58,g59,g60,g61,g62,g63,g64,g65,g66,g67,g68,g69,g70,g71,g72,g73,g74] M := by kernel_rfl
theorem k45_40 : P45 [1,1,1,1,1,0,1,0,0,1,1,0,0,1,0,1] = .block 2 (P45 [1,1,1,1,1,0,1,0,0,1,1,0,0,1,0,1,0]) := by kernel_rfl
theorem k45_41 : P45 [1,1,1,1,1,0,1,0,0,1,1,0,0,1,0,1,0] = .loop (P45 [1,1,1,1,1,0,1,0,0,1,1,0,0,1,0,1,0,0]) := by kernel_rfl
theorem k45_42 : P45 [1,1,1,1,1,0,1,0,0,1,0,1] = .exit 0 := by kernel_rfl
theorem k45_43 : P45 [1,1,1,1,1,1] = .seq (P45 [1,1,1,1,1,1,0]) (P45 [1,1,1,1,1,1,1]) := by kernel_rfl
theorem k45_44 : P45 [1,1,1,1,1,1,0] = .region 17 (O45 [1,1,1,1,1,1,0]) false := by kernel_rfl
theorem r45_17 {Ax8 : Option Addr} {lx8 cx8 : Nat} {M : Mem} {call : CallM} {K : Array Value → Mem → R} :
    opsK Try.prog (fun _ => call) (O45 [1,1,1,1,1,1,0]) (O45 [1,1,1,1,1,1,0]).toList 0 #[g0,g1,g2,g3,g4,g5,g6,g7,.slice Ax8 lx8 cx8,g9,g10,g11,g12,g13,g14,g15,g16,g17,g18,g19,g20,g21,g22,g23,g24,g25,g26,g27,g28,g29,g30,g31,g32,g33,g34,g35,g36,g37,g38,g39,g40,g41,g42,g43,g44,g45,g46,g47,g48,g49,g50,g51,g52,g53,g54,g55,g56,g57,g58,g59,g60,g61,g62,g63,g64,g65,g66,g67,g68,g69,g70,g71,g72,g73,g74] M K = K #[g0,g1,g2,g3,.slice Ax8 lx8 cx8,.int .i64 0,g6,g7,.slice Ax8 lx8 cx8,g9,g10,g11,g12,g13,g14,g15,g16,g17,g18,g19,g20,g21,g22,g23,g24,g25,g26,g27,g28,g29,g30,g31,g32,g33,g34,g35,g36,g37,g38,g39,g40,g41,g42,g43,g44,g45,g46,g47,g48,g49,g50,g51,g52,g53,g54,g55,g56,g57,g58,g59,g60,g61,g62,g63,g64,g65,g66,g67,g68,g69,g70,g71,g72,g73,.slice Ax8 lx8 cx8] M := by kernel_rfl
theorem k45_45 : P45 [1,1,1,1,1,1,1] = .ret := by kernel_rfl
theorem k45_46 : P45 [1,1,1,1,1,0,1,0,0,1,1,0,0,1,0,1,0,0] = .seq (P45 [1,1,1,1,1,0,1,0,0,1,1,0,0,1,0,1,0,0,0]) (P45 [1,1,1,1,1,0,1,0,0,1,1,0,0,1,0,1,0,0,1]) := by kernel_rfl
theorem k45_47 : P45 [1,1,1,1,1,0,1,0,0,1,1,0,0,1,0,1,0,0,0] = .region 11 (O45 [1,1,1,1,1,0,1,0,0,1,1,0,0,1,0,1,0,0,0]) false := by kernel_rfl
theorem r45_11 {x45 x46 : Int} {M : Mem} {call : CallM} {K : Array Value → Mem → R} :
    opsK Try.prog (fun _ => call) (O45 [1,1,1,1,1,0,1,0,0,1,1,0,0,1,0,1,0,0,0]) (O45 [1,1,1,1,1,0,1,0,0,1,1,0,0,1,0,1,0,0,0]).toList 0 #[g0,g1,g2,g3,g4,g5,g6,g7,g8,g9,g10,g11,g12,g13,g14,g15,g16,g17,g18,g19,g20,g21,g22,g23,g24,g25,g26,g27,g28,g29,g30,g31,g32,g33,g34,g35,g36,g37,g38,g39,g40,g41,g42,g43,g44,.int .i64 x45,.int .i64 x46,g47,g48,g49,g50,g51,g52,g53,g54,g55,g56,g57,g58,g59,g60,g61,g62,g63,g64,g65,g66,g67,g68,g69,g70,g71,g72,g73,g74] M K = K #[g0,g1,g2,g3,g4,g5,g6,g7,g8,g9,g10,g11,g12,g13,g14,g15,g16,g17,g18,g19,g20,g21,g22,g23,g24,g25,g26,g27,g28,g29,g30,g31,g32,g33,g34,g35,g36,g37,g38,g39,g40,g41,g42,g43,g44,.int .i64 x45,.int .i64 x46,.bool (decide (x46 < x45)),g48,g49,g50,g51,g52,g53,g54,g55,g56,g57,g58,g59,g60,g61,g62,g63,g64,g65,g66,g67,g68,g69,g70,g71,g72,g73,g74] M := by kernel_rfl
theorem k45_48 : P45 [1,1,1,1,1,0,1,0,0,1,1,0,0,1,0,1,0,0,1] = .seq (P45 [1,1,1,1,1,0,1,0,0,1,1,0,0,1,0,1,0,0,1,0]) (P45 [1,1,1,1,1,0,1,0,0,1,1,0,0,1,0,1,0,0,1,1]) := by kernel_rfl
theorem c45_49 : P45 [1,1,1,1,1,0,1,0,0,1,1,0,0,1,0,1,0,0,1,0] = .cond (.tmp 47) (P45 [1,1,1,1,1,0,1,0,0,1,1,0,0,1,0,1,0,0,1,0,0]) (P45 [1,1,1,1,1,0,1,0,0,1,1,0,0,1,0,1,0,0,1,0,1]) := by kernel_rfl
theorem k45_50 : P45 [1,1,1,1,1,0,1,0,0,1,1,0,0,1,0,1,0,0,1,0,0] = .skip := by kernel_rfl
theorem k45_51 : P45 [1,1,1,1,1,0,1,0,0,1,1,0,0,1,0,1,0,0,1,1] = .seq (P45 [1,1,1,1,1,0,1,0,0,1,1,0,0,1,0,1,0,0,1,1,0]) (P45 [1,1,1,1,1,0,1,0,0,1,1,0,0,1,0,1,0,0,1,1,1]) := by kernel_rfl
theorem k45_52 : P45 [1,1,1,1,1,0,1,0,0,1,1,0,0,1,0,1,0,0,1,1,0] = .block 3 (P45 [1,1,1,1,1,0,1,0,0,1,1,0,0,1,0,1,0,0,1,1,0,0]) := by kernel_rfl
theorem k45_53 : P45 [1,1,1,1,1,0,1,0,0,1,1,0,0,1,0,1,0,0,1,1,0,0] = .seq (P45 [1,1,1,1,1,0,1,0,0,1,1,0,0,1,0,1,0,0,1,1,0,0,0]) (P45 [1,1,1,1,1,0,1,0,0,1,1,0,0,1,0,1,0,0,1,1,0,0,1]) := by kernel_rfl
theorem k45_54 : P45 [1,1,1,1,1,0,1,0,0,1,1,0,0,1,0,1,0,0,1,1,0,0,0] = .region 12 (O45 [1,1,1,1,1,0,1,0,0,1,1,0,0,1,0,1,0,0,1,1,0,0,0]) false := by kernel_rfl
theorem r45_12 {Ax44 : Option Addr} {lx44 cx44 : Nat} {x46 : Int} {M : Mem} {call : CallM} {K : Array Value → Mem → R} :
    opsK Try.prog (fun _ => call) (O45 [1,1,1,1,1,0,1,0,0,1,1,0,0,1,0,1,0,0,1,1,0,0,0]) (O45 [1,1,1,1,1,0,1,0,0,1,1,0,0,1,0,1,0,0,1,1,0,0,0]).toList 0 #[g0,g1,g2,g3,g4,g5,g6,g7,g8,g9,g10,g11,g12,g13,g14,g15,g16,g17,g18,g19,g20,g21,g22,g23,g24,g25,g26,g27,g28,g29,g30,g31,g32,g33,g34,g35,g36,g37,g38,g39,g40,g41,g42,g43,.slice Ax44 lx44 cx44,g45,.int .i64 x46,g47,g48,g49,g50,g51,g52,g53,g54,g55,g56,g57,g58,g59,g60,g61,g62,g63,g64,g65,g66,g67,g68,g69,g70,g71,g72,g73,g74] M K = (idxA Ax44 lx44 1 x46).bind fun a_1 => (M.intAt .i64 a_1.block a_1.off).bind fun x_2 => K #[g0,g1,g2,g3,g4,g5,g6,g7,g8,g9,.int .i64 x46,.int .i64 x_2,g12,g13,g14,g15,g16,g17,g18,g19,g20,g21,g22,g23,g24,g25,g26,g27,g28,g29,g30,g31,g32,g33,g34,g35,g36,g37,g38,g39,g40,g41,g42,g43,.slice Ax44 lx44 cx44,g45,.int .i64 x46,g47,.int .i64 x46,.pointer (some a_1),.int .i64 x_2,g51,g52,g53,g54,g55,g56,g57,g58,g59,g60,g61,g62,g63,g64,g65,g66,g67,g68,g69,g70,g71,g72,g73,g74] M := by kernel_rfl
theorem k45_55 : P45 [1,1,1,1,1,0,1,0,0,1,1,0,0,1,0,1,0,0,1,1,0,0,1] = .region 13 (O45 [1,1,1,1,1,0,1,0,0,1,1,0,0,1,0,1,0,0,1,1,0,0,1]) true ∧ drawOk (O45 [1,1,1,1,1,0,1,0,0,1,1,0,0,1,0,1,0,0,1,1,0,0,1]) = true := ⟨by kernel_rfl, by kernel_rfl⟩
theorem r45_13 {x6 Ax8 : Option Addr} {lx8 cx8 : Nat} {x9 x10 x11 : Int} {M : Mem} {call : CallM} {K : Array Value → Mem → R} :
    opsI Try.prog (callAt call (O45 [1,1,1,1,1,0,1,0,0,1,1,0,0,1,0,1,0,0,1,1,0,0,1])) (O45 [1,1,1,1,1,0,1,0,0,1,1,0,0,1,0,1,0,0,1,1,0,0,1]) (ordOf (O45 [1,1,1,1,1,0,1,0,0,1,1,0,0,1,0,1,0,0,1,1,0,0,1])) [] #[g0,g1,g2,g3,g4,g5,.pointer x6,g7,.slice Ax8 lx8 cx8,.int .i64 x9,.int .i64 x10,.int .i64 x11,g12,g13,g14,g15,g16,g17,g18,g19,g20,g21,g22,g23,g24,g25,g26,g27,g28,g29,g30,g31,g32,g33,g34,g35,g36,g37,g38,g39,g40,g41,g42,g43,g44,g45,g46,g47,g48,g49,g50,g51,g52,g53,g54,g55,g56,g57,g58,g59,g60,g61,g62,g63,g64,g65,g66,g67,g68,g69,g70,g71,g72,g73,g74] M K = (idxA Ax8 lx8 1 x9).bind fun a_1 => (M.intAt .i64 a_1.block a_1.off).bind fun x_2 => (x6).bind fun a_3 => (M.cell a_3.block (a_3.off + 1)).bind fun v_4 => (callVal Try.prog v_4 #[.int .i64 x9, .int .i64 x10]).bind fun q_6 => (floored call q_6.1 q_6.2 M).bind fun r_5 => (asI .i64 r_5.1).bind fun x_7 => (idxA Ax8 lx8 1 x9).bind fun a_8 => (r_5.2.put a_8.block a_8.off (.int .i64 (IntKind.i64.wrap (x_2 + (IntKind.i64.wrap (x11 * x_7)))))).bind fun M_9 => K #[g0,g1,g2,g3,g4,g5,.pointer x6,g7,.slice Ax8 lx8 cx8,.int .i64 x9,.int .i64 x10,.int .i64 x11,g12,g13,g14,g15,g16,g17,g18,g19,g20,g21,g22,g23,g24,g25,g26,g27,g28,g29,g30,g31,g32,g33,g34,g35,g36,g37,g38,g39,g40,g41,g42,g43,g44,g45,g46,g47,g48,g49,g50,.slice Ax8 lx8 cx8,.int .i64 x9,.pointer (some a_1),.int .i64 x_2,.int .i64 x11,.pointer (some ⟨a_3.block, a_3.off + 1, none⟩),v_4,.int .i64 x9,.int .i64 x10,.int .i64 x_7,.int .i64 (IntKind.i64.wrap (x11 * x_7)),.int .i64 (IntKind.i64.wrap (x_2 + (IntKind.i64.wrap (x11 * x_7)))),.pointer (some a_8),g64,g65,g66,g67,g68,g69,g70,g71,g72,g73,g74] M_9 := by kernel_rfl
theorem k45_56 : P45 [1,1,1,1,1,0,1,0,0,1,1,0,0,1,0,1,0,0,1,1,1] = .region 14 (O45 [1,1,1,1,1,0,1,0,0,1,1,0,0,1,0,1,0,0,1,1,1]) false := by kernel_rfl
theorem r45_14 {x46 : Int} {M : Mem} {call : CallM} {K : Array Value → Mem → R} :
    opsK Try.prog (fun _ => call) (O45 [1,1,1,1,1,0,1,0,0,1,1,0,0,1,0,1,0,0,1,1,1]) (O45 [1,1,1,1,1,0,1,0,0,1,1,0,0,1,0,1,0,0,1,1,1]).toList 0 #[g0,g1,g2,g3,g4,g5,g6,g7,g8,g9,g10,g11,g12,g13,g14,g15,g16,g17,g18,g19,g20,g21,g22,g23,g24,g25,g26,g27,g28,g29,g30,g31,g32,g33,g34,g35,g36,g37,g38,g39,g40,g41,g42,g43,g44,g45,.int .i64 x46,g47,g48,g49,g50,g51,g52,g53,g54,g55,g56,g57,g58,g59,g60,g61,g62,g63,g64,g65,g66,g67,g68,g69,g70,g71,g72,g73,g74] M K = K #[g0,g1,g2,g3,g4,g5,g6,g7,g8,g9,g10,g11,g12,g13,g14,g15,g16,g17,g18,g19,g20,g21,g22,g23,g24,g25,g26,g27,g28,g29,g30,g31,g32,g33,g34,g35,g36,g37,g38,g39,g40,g41,g42,g43,g44,g45,.int .i64 (IntKind.i64.wrap (x46 + 1)),g47,g48,g49,g50,g51,g52,g53,g54,g55,g56,g57,g58,g59,g60,g61,g62,g63,.int .i64 (IntKind.i64.wrap (x46 + 1)),g65,g66,g67,g68,g69,g70,g71,g72,g73,g74] M := by kernel_rfl
theorem k45_57 : P45 [1,1,1,1,1,0,1,0,0,1,1,0,0,1,0,1,0,0,1,0,1] = .exit 2 := by kernel_rfl
theorem k45_58 : P45 [1,1,1,1,1,0,1,0,0,1,1,0,0,1,1] = .region 15 (O45 [1,1,1,1,1,0,1,0,0,1,1,0,0,1,1]) false := by kernel_rfl
theorem r45_15 {Ax8 : Option Addr} {lx8 cx8 : Nat} {x9 : Int} {M : Mem} {call : CallM} {K : Array Value → Mem → R} :
    opsK Try.prog (fun _ => call) (O45 [1,1,1,1,1,0,1,0,0,1,1,0,0,1,1]) (O45 [1,1,1,1,1,0,1,0,0,1,1,0,0,1,1]).toList 0 #[g0,g1,g2,g3,g4,g5,g6,g7,.slice Ax8 lx8 cx8,.int .i64 x9,g10,g11,g12,g13,g14,g15,g16,g17,g18,g19,g20,g21,g22,g23,g24,g25,g26,g27,g28,g29,g30,g31,g32,g33,g34,g35,g36,g37,g38,g39,g40,g41,g42,g43,g44,g45,g46,g47,g48,g49,g50,g51,g52,g53,g54,g55,g56,g57,g58,g59,g60,g61,g62,g63,g64,g65,g66,g67,g68,g69,g70,g71,g72,g73,g74] M K = (idxA Ax8 lx8 1 x9).bind fun a_1 => (M.intAt .i64 a_1.block a_1.off).bind fun x_2 => (call 54 #[.int .i64 x_2] M).bind fun r_3 => (asI .i64 r_3.1).bind fun x_4 => (idxA Ax8 lx8 1 x9).bind fun a_5 => (r_3.2.put a_5.block a_5.off (.int .i64 x_4)).bind fun M_6 => K #[g0,g1,g2,g3,g4,g5,g6,g7,.slice Ax8 lx8 cx8,.int .i64 x9,g10,g11,g12,g13,g14,g15,g16,g17,g18,g19,g20,g21,g22,g23,g24,g25,g26,g27,g28,g29,g30,g31,g32,g33,g34,g35,g36,g37,g38,g39,g40,g41,g42,g43,g44,g45,g46,g47,g48,g49,g50,g51,g52,g53,g54,g55,g56,g57,g58,g59,g60,g61,g62,g63,g64,.slice Ax8 lx8 cx8,.int .i64 x9,.slice Ax8 lx8 cx8,.int .i64 x9,.pointer (some a_1),.int .i64 x_2,.int .i64 x_4,.pointer (some a_5),g73,g74] M_6 := by kernel_rfl
theorem k45_59 : P45 [1,1,1,1,1,0,1,0,0,1,1,1] = .region 16 (O45 [1,1,1,1,1,0,1,0,0,1,1,1]) false := by kernel_rfl
theorem r45_16 {x41 : Int} {M : Mem} {call : CallM} {K : Array Value → Mem → R} :
    opsK Try.prog (fun _ => call) (O45 [1,1,1,1,1,0,1,0,0,1,1,1]) (O45 [1,1,1,1,1,0,1,0,0,1,1,1]).toList 0 #[g0,g1,g2,g3,g4,g5,g6,g7,g8,g9,g10,g11,g12,g13,g14,g15,g16,g17,g18,g19,g20,g21,g22,g23,g24,g25,g26,g27,g28,g29,g30,g31,g32,g33,g34,g35,g36,g37,g38,g39,g40,.int .i64 x41,g42,g43,g44,g45,g46,g47,g48,g49,g50,g51,g52,g53,g54,g55,g56,g57,g58,g59,g60,g61,g62,g63,g64,g65,g66,g67,g68,g69,g70,g71,g72,g73,g74] M K = K #[g0,g1,g2,g3,g4,g5,g6,g7,g8,g9,g10,g11,g12,g13,g14,g15,g16,g17,g18,g19,g20,g21,g22,g23,g24,g25,g26,g27,g28,g29,g30,g31,g32,g33,g34,g35,g36,g37,g38,g39,g40,.int .i64 (IntKind.i64.wrap (x41 + 1)),g42,g43,g44,g45,g46,g47,g48,g49,g50,g51,g52,g53,g54,g55,g56,g57,g58,g59,g60,g61,g62,g63,g64,g65,g66,g67,g68,g69,g70,g71,g72,.int .i64 (IntKind.i64.wrap (x41 + 1)),g74] M := by kernel_rfl
noncomputable def S45_1 : List Item := [.code (P45 [1,1,1,1,1,0,1,0,0]), .inLoop (P45 [1,1,1,1,1,0,1,0,0]), .inBlock 0, .code (P45 [1,1,1,1,1,1])]
def A45_1 (Ax1 : Option Addr) (lx1 cx1 : Nat) (x6 Ax8 : Option Addr) (lx8 cx8 : Nat) (x40 x41 : Int) (M : Mem) (Q : Value → Mem → Prop) : Prop := ∀ (g0 g2 g3 g4 g5 g7 g9 g10 g11 g12 g13 g14 g15 g16 g17 g18 g19 g20 g21 g22 g23 g24 g25 g26 g27 g28 g29 g30 g31 g32 g33 g34 g35 g36 g37 g38 g39 g42 g43 g44 g45 g46 g47 g48 g49 g50 g51 g52 g53 g54 g55 g56 g57 g58 g59 g60 g61 g62 g63 g64 g65 g66 g67 g68 g69 g70 g71 g72 g73 g74 : Value), Rn Try.prog Try.f45 S45_1 #[g0, .slice Ax1 lx1 cx1, g2, g3, g4, g5, .pointer x6, g7, .slice Ax8 lx8 cx8, g9, g10, g11, g12, g13, g14, g15, g16, g17, g18, g19, g20, g21, g22, g23, g24, g25, g26, g27, g28, g29, g30, g31, g32, g33, g34, g35, g36, g37, g38, g39, .int .i64 x40, .int .i64 x41, g42, g43, g44, g45, g46, g47, g48, g49, g50, g51, g52, g53, g54, g55, g56, g57, g58, g59, g60, g61, g62, g63, g64, g65, g66, g67, g68, g69, g70, g71, g72, g73, g74] M Q
noncomputable def S45_2 : List Item := [.code (P45 [1,1,1,1,1,0,1,0,0,1,1,0,0,1,0,1,0,0]), .inLoop (P45 [1,1,1,1,1,0,1,0,0,1,1,0,0,1,0,1,0,0]), .inBlock 2, .code (P45 [1,1,1,1,1,0,1,0,0,1,1,0,0,1,1]), .inBlock 1, .code (P45 [1,1,1,1,1,0,1,0,0,1,1,1]), .inLoop (P45 [1,1,1,1,1,0,1,0,0]), .inBlock 0, .code (P45 [1,1,1,1,1,1])]
def A45_2 (Ax1 : Option Addr) (lx1 cx1 : Nat) (x6 Ax8 : Option Addr) (lx8 cx8 : Nat) (x9 x40 x41 : Int) (Ax44 : Option Addr) (lx44 cx44 : Nat) (x45 x46 : Int) (M : Mem) (Q : Value → Mem → Prop) : Prop := ∀ (g0 g2 g3 g4 g5 g7 g10 g11 g12 g13 g14 g15 g16 g17 g18 g19 g20 g21 g22 g23 g24 g25 g26 g27 g28 g29 g30 g31 g32 g33 g34 g35 g36 g37 g38 g39 g42 g43 g47 g48 g49 g50 g51 g52 g53 g54 g55 g56 g57 g58 g59 g60 g61 g62 g63 g64 g65 g66 g67 g68 g69 g70 g71 g72 g73 g74 : Value), Rn Try.prog Try.f45 S45_2 #[g0, .slice Ax1 lx1 cx1, g2, g3, g4, g5, .pointer x6, g7, .slice Ax8 lx8 cx8, .int .i64 x9, g10, g11, g12, g13, g14, g15, g16, g17, g18, g19, g20, g21, g22, g23, g24, g25, g26, g27, g28, g29, g30, g31, g32, g33, g34, g35, g36, g37, g38, g39, .int .i64 x40, .int .i64 x41, g42, g43, .slice Ax44 lx44 cx44, .int .i64 x45, .int .i64 x46, g47, g48, g49, g50, g51, g52, g53, g54, g55, g56, g57, g58, g59, g60, g61, g62, g63, g64, g65, g66, g67, g68, g69, g70, g71, g72, g73, g74] M Q
theorem w45_0 {x0 : Int} {Ax1 : Option Addr} {lx1 cx1 : Nat} {M : Mem} {Q : Value → Mem → Prop} (H :
    Cn Try.prog 52 #[.int .i64 x0, .slice Ax1 lx1 cx1] M fun v1' N1' =>
     ∃ cs2', asU 2 v1' = some cs2' ∧
     ∃ cs3', asA 2 (cs2'.getD 0 undef) = some cs3' ∧
     ∃ x4', asI .i64 (cs3'.getD 0 undef) = some x4' ∧
     ∃ b5', asB (cs2'.getD 1 undef) = some b5' ∧
     ∃ M6', (N1'.new (.cells #[.int .i64 0, .nilFunc] 54)).put (2 * N1'.nb.size) 0 (.int .i64 x4') = some M6' ∧
     ∃ M7', M6'.put (2 * N1'.nb.size) 1 (cs3'.getD 1 undef) = some M7' ∧
     (((!b5') = true →
      Q (.tuple #[.slice none 0 0, .int .i64 2]) M7') ∧
      ((!b5') = false →
      ∃ v8', M7'.cell (2 * N1'.nb.size) (0 + 1) = some v8' ∧
      ∃ b9', fnilV Try.prog 33 v8' = some b9' ∧
      ((b9' = true →
       ∃ a10', idxA Ax1 lx1 1 0 = some a10' ∧
       ∃ x11', M7'.intAt .i64 a10'.block a10'.off = some x11' ∧
       ∃ a12', idxA Ax1 lx1 1 1 = some a12' ∧
       ∃ x13', M7'.intAt .i64 a12'.block a12'.off = some x13' ∧
       ∃ a14', idxA Ax1 lx1 1 2 = some a14' ∧
       ∃ x15', M7'.intAt .i64 a14'.block a14'.off = some x15' ∧
       ∃ a16', idxA Ax1 lx1 1 3 = some a16' ∧
       ∃ x17', M7'.intAt .i64 a16'.block a16'.off = some x17' ∧
       Cn Try.prog 57 #[.int .i64 x11', .int .i64 x13', .int .i64 x15', .int .i64 x17'] M7' fun v18' N18' =>
        ∃ s19', asS v18' = some s19' ∧
        Q (.tuple #[.slice s19'.1 (s19'.2.1) (s19'.2.2), .int .i64 0]) N18') ∧
       (b9' = false →
       ∃ r20', makeP Try.prog 22 (.int .i64 ((lx1 : Int))) (.int .i64 ((lx1 : Int))) M7' = some r20' ∧
       ∃ s21', asS r20'.1 = some s21' ∧
       A45_1 Ax1 lx1 cx1 (some ⟨2 * N1'.nb.size, 0, none⟩) s21'.1 s21'.2.1 s21'.2.2 (s21'.2.1 : Int) 0 r20'.2 Q))))) :
    Cn Try.prog 45 #[.int .i64 x0, .slice Ax1 lx1 cx1] M Q := by
  refine Cn.of b45 d45 t45 ?_
  refine Rn.seq k45_0 (Rn.region k45_1 (fun call K => r45_0) (Rch.leaf (Rn.seq k45_2 (Rn.region k45_3 (fun call K => r45_1) (Rch.call H fun v1' N1' H => Rch.ex H fun cs2' H => Rch.ex H fun cs3' H => Rch.ex H fun x4' H => Rch.ex H fun b5' H => Rch.ex H fun M6' H => Rch.ex H fun M7' H => ?_)))))
  refine Rch.leaf (Rn.seq k45_4 (Rn.seq k45_5 (Rn.region k45_6 (fun call K => r45_2) (Rch.leaf ?_))))
  refine Rn.cnd (v := !b5') ⟨c45_7, rfl, by kernel_rfl⟩ (fun h => ?_) (fun h => ?_)
  · replace H := H.1 (h)
    refine Rn.seq k45_8 (Rn.region k45_9 (fun call K => r45_3) (Rch.leaf ?_))
    exact Rn.ret k45_10 e45 H
  · replace H := H.2 (h)
    refine Rn.skip k45_12 (Rn.seq k45_13 (Rn.seq k45_14 (Rn.region k45_15 (fun call K => r45_4) (Rch.bind (x := ⟨2 * N1'.nb.size, 0, none⟩) rfl (Rch.ex H fun v8' H => Rch.ex H fun b9' H => Rch.leaf ?_)))))
    refine Rn.cnd (v := b9') ⟨c45_16, rfl, by kernel_rfl⟩ (fun h => ?_) (fun h => ?_)
    · replace H := H.1 (h)
      refine Rn.seq k45_17 (Rn.regionD k45_18 (fun call K => r45_5) (Rch.ex H fun a10' H => Rch.ex H fun x11' H => Rch.ex H fun a12' H => Rch.ex H fun x13' H => Rch.ex H fun a14' H => Rch.ex H fun x15' H => Rch.ex H fun a16' H => Rch.ex H fun x17' H => Rch.call H fun v18' N18' H => Rch.ex H fun s19' H => ?_))
      refine Rch.leaf ?_
      exact Rn.ret k45_19 e45 H
    · replace H := H.2 (h)
      refine Rn.skip k45_20 (Rn.seq k45_21 (Rn.region k45_22 (fun call K => r45_6) (Rch.ex H fun r20' H => Rch.ex H fun s21' H => Rch.leaf (Rn.seq k45_23 (Rn.seq k45_24 (Rn.region k45_25 (fun call K => r45_7) (Rch.leaf (Rn.block k45_26 (Rn.loop k45_27 ?_)))))))))
      exact H _ _ _ _ _ _ _ _ _ _ _ _ _ _ _ _ _ _ _ _ _ _ _ _ _ _ _ _ _ _ _ _ _ _ _ _ _ _ _ _ _ _ _ _ _ _ _ _ _ _ _ _ _ _ _ _ _ _ _ _ _ _ _ _ _ _ _ _ _ _

theorem w45_1 {Ax1 : Option Addr} {lx1 cx1 : Nat} {x6 Ax8 : Option Addr} {lx8 cx8 : Nat} {x40 x41 : Int} {M : Mem} {Q : Value → Mem → Prop} (H :
    ((x41 < x40 →
     A45_2 Ax1 lx1 cx1 x6 Ax8 lx8 cx8 x41 x40 x41 Ax1 lx1 cx1 (lx1 : Int) 0 M Q) ∧
     (¬ (x41 < x40) →
     Q (.tuple #[.slice Ax8 lx8 cx8, .int .i64 0]) M))) :
    A45_1 Ax1 lx1 cx1 x6 Ax8 lx8 cx8 x40 x41 M Q := by
  intro g0 g2 g3 g4 g5 g7 g9 g10 g11 g12 g13 g14 g15 g16 g17 g18 g19 g20 g21 g22 g23 g24 g25 g26 g27 g28 g29 g30 g31 g32 g33 g34 g35 g36 g37 g38 g39 g42 g43 g44 g45 g46 g47 g48 g49 g50 g51 g52 g53 g54 g55 g56 g57 g58 g59 g60 g61 g62 g63 g64 g65 g66 g67 g68 g69 g70 g71 g72 g73 g74
  refine Rn.seq k45_28 (Rn.region k45_29 (fun call K => r45_8) (Rch.leaf (Rn.seq k45_30 ?_)))
  refine Rn.cnd (v := decide (x41 < x40)) ⟨c45_31, rfl, by kernel_rfl⟩ (fun h => ?_) (fun h => ?_)
  · replace H := H.1 (of_decide_eq_true h)
    refine Rn.skip k45_32 (Rn.seq k45_33 (Rn.block k45_34 (Rn.seq k45_35 (Rn.region k45_36 (fun call K => r45_9) (Rch.leaf (Rn.seq k45_37 (Rn.seq k45_38 (Rn.region k45_39 (fun call K => r45_10) (Rch.leaf (Rn.block k45_40 (Rn.loop k45_41 ?_)))))))))))
    exact H _ _ _ _ _ _ _ _ _ _ _ _ _ _ _ _ _ _ _ _ _ _ _ _ _ _ _ _ _ _ _ _ _ _ _ _ _ _ _ _ _ _ _ _ _ _ _ _ _ _ _ _ _ _ _ _ _ _ _ _ _ _ _ _ _ _
  · replace H := H.2 (of_decide_eq_false h)
    refine Rn.exit k45_42 rfl (Rn.seq k45_43 (Rn.region k45_44 (fun call K => r45_17) (Rch.leaf ?_)))
    exact Rn.ret k45_45 e45 H

theorem w45_2 {Ax1 : Option Addr} {lx1 cx1 : Nat} {x6 Ax8 : Option Addr} {lx8 cx8 : Nat} {x9 x40 x41 : Int} {Ax44 : Option Addr} {lx44 cx44 : Nat} {x45 x46 : Int} {M : Mem} {Q : Value → Mem → Prop} (H :
    ((x46 < x45 →
     ∃ a22', idxA Ax44 lx44 1 x46 = some a22' ∧
     ∃ x23', M.intAt .i64 a22'.block a22'.off = some x23' ∧
     ∃ a24', idxA Ax8 lx8 1 x9 = some a24' ∧
     ∃ x25', M.intAt .i64 a24'.block a24'.off = some x25' ∧
     ∃ a26', x6 = some a26' ∧
     ∃ v27', M.cell a26'.block (a26'.off + 1) = some v27' ∧
     ∃ q28', callVal Try.prog v27' #[.int .i64 x9, .int .i64 x46] = some q28' ∧
     Cn Try.prog q28'.1 q28'.2 { M with floor := M.nb.size } fun v29' N29' =>
      ∃ x30', asI .i64 v29' = some x30' ∧
      ∃ a31', idxA Ax8 lx8 1 x9 = some a31' ∧
      ∃ M32', { N29' with floor := M.floor }.put a31'.block a31'.off (.int .i64 (IntKind.i64.wrap (x25' + (IntKind.i64.wrap (x23' * x30'))))) = some M32' ∧
      A45_2 Ax1 lx1 cx1 x6 Ax8 lx8 cx8 x9 x40 x41 Ax44 lx44 cx44 x45 (IntKind.i64.wrap (x46 + 1)) M32' Q) ∧
     (¬ (x46 < x45) →
     ∃ a33', idxA Ax8 lx8 1 x9 = some a33' ∧
     ∃ x34', M.intAt .i64 a33'.block a33'.off = some x34' ∧
     Cn Try.prog 54 #[.int .i64 x34'] M fun v35' N35' =>
      ∃ x36', asI .i64 v35' = some x36' ∧
      ∃ a37', idxA Ax8 lx8 1 x9 = some a37' ∧
      ∃ M38', N35'.put a37'.block a37'.off (.int .i64 x36') = some M38' ∧
      A45_1 Ax1 lx1 cx1 x6 Ax8 lx8 cx8 x40 (IntKind.i64.wrap (x41 + 1)) M38' Q))) :
    A45_2 Ax1 lx1 cx1 x6 Ax8 lx8 cx8 x9 x40 x41 Ax44 lx44 cx44 x45 x46 M Q := by
  intro g0 g2 g3 g4 g5 g7 g10 g11 g12 g13 g14 g15 g16 g17 g18 g19 g20 g21 g22 g23 g24 g25 g26 g27 g28 g29 g30 g31 g32 g33 g34 g35 g36 g37 g38 g39 g42 g43 g47 g48 g49 g50 g51 g52 g53 g54 g55 g56 g57 g58 g59 g60 g61 g62 g63 g64 g65 g66 g67 g68 g69 g70 g71 g72 g73 g74
  refine Rn.seq k45_46 (Rn.region k45_47 (fun call K => r45_11) (Rch.leaf (Rn.seq k45_48 ?_)))
  refine Rn.cnd (v := decide (x46 < x45)) ⟨c45_49, rfl, by kernel_rfl⟩ (fun h => ?_) (fun h => ?_)
  · replace H := H.1 (of_decide_eq_true h)
    refine Rn.skip k45_50 (Rn.seq k45_51 (Rn.block k45_52 (Rn.seq k45_53 (Rn.region k45_54 (fun call K => r45_12) (Rch.ex H fun a22' H => Rch.ex H fun x23' H => Rch.leaf (Rn.regionD k45_55 (fun call K => r45_13) (Rch.ex H fun a24' H => Rch.ex H fun x25' H => Rch.ex H fun a26' H => ?_)))))))
    refine Rch.ex H fun v27' H => Rch.ex H fun q28' H => Rch.callF H fun v29' N29' H => Rch.ex H fun x30' H => Rch.ex H fun a31' H => Rch.ex H fun M32' H => Rch.leaf (Rn.blk (Rn.region k45_56 (fun call K => r45_14) (Rch.leaf (Rn.lp ?_))))
    exact H _ _ _ _ _ _ _ _ _ _ _ _ _ _ _ _ _ _ _ _ _ _ _ _ _ _ _ _ _ _ _ _ _ _ _ _ _ _ _ _ _ _ _ _ _ _ _ _ _ _ _ _ _ _ _ _ _ _ _ _ _ _ _ _ _ _
  · replace H := H.2 (of_decide_eq_false h)
    refine Rn.exit k45_57 rfl (Rn.region k45_58 (fun call K => r45_15) (Rch.ex H fun a33' H => Rch.ex H fun x34' H => Rch.call H fun v35' N35' H => Rch.ex H fun x36' H => Rch.ex H fun a37' H => Rch.ex H fun M38' H => Rch.leaf (Rn.blk (Rn.region k45_59 (fun call K => r45_16) (Rch.leaf ?_)))))
    refine Rn.lp ?_
    exact H _ _ _ _ _ _ _ _ _ _ _ _ _ _ _ _ _ _ _ _ _ _ _ _ _ _ _ _ _ _ _ _ _ _ _ _ _ _ _ _ _ _ _ _ _ _ _ _ _ _ _ _ _ _ _ _ _ _ _ _ _ _ _ _ _ _ _ _ _ _


/-! ### zoetrope/basis.Inverse: function 33 -/
noncomputable abbrev P33 (p : List Nat) : Code := subC (codeOf Try.f33) p
noncomputable abbrev O33 (p : List Nat) : Array Oper := opsOf (subC (codeOf Try.f33) p)
theorem b33 : Try.prog.funcs[33]? = some Try.f33 ∧ (Orc.tab Try.prog).lookup 33 = none := ⟨by kernel_rfl, by kernel_rfl⟩
theorem d33 : Try.f33.body = some (P33 []) := by kernel_rfl
theorem t33 {x0 : Int} {Ax1 : Option Addr} {lx1 cx1 : Nat} : #[.int .i64 x0,.slice Ax1 lx1 cx1] ++ Array.replicate (Try.f33.ntmps - (#[.int .i64 x0,.slice Ax1 lx1 cx1] : Array Value).size) undef = #[.int .i64 x0,.slice Ax1 lx1 cx1,undef,undef,undef,undef,undef,undef,undef,undef,undef,undef,undef,undef,undef,undef,undef,undef,undef,undef,undef,undef,undef,undef,undef,undef,undef,undef,undef,undef,undef,undef,undef,undef,undef,undef,undef,undef,undef,undef,undef,undef,undef,undef,undef,undef,undef,undef,undef,undef,undef,undef,undef,undef,undef,undef,undef,undef,undef,undef,undef,undef,undef,undef,undef,undef,undef,undef,undef,undef,undef,undef,undef,undef,undef,undef,undef] := by kernel_rfl
theorem k33_0 : P33 [] = .seq (P33 [0]) (P33 [1]) := by kernel_rfl
theorem k33_1 : P33 [0] = .region 0 (O33 [0]) false := by kernel_rfl
theorem r33_0 {M : Mem} {call : CallM} {K : Array Value → Mem → R} :
    opsK Try.prog (fun _ => call) (O33 [0]) (O33 [0]).toList 0 #[g0,g1,g2,g3,g4,g5,g6,g7,g8,g9,g10,g11,g12,g13,g14,g15,g16,g17,g18,g19,g20,g21,g22,g23,g24,g25,g26,g27,g28,g29,g30,g31,g32,g33,g34,g35,g36,g37,g38,g39,g40,g41,g42,g43,g44,g45,g46,g47,g48,g49,g50,g51,g52,g53,g54,g55,g56,g57,g58,g59,g60,g61,g62,g63,g64,g65,g66,g67,g68,g69,g70,g71,g72,g73,g74,g75,g76] M K = K #[g0,g1,g2,g3,.slice none 0 0,.int .i64 0,g6,g7,g8,g9,g10,g11,g12,g13,g14,g15,g16,g17,g18,g19,g20,g21,g22,g23,g24,g25,g26,g27,g28,g29,g30,g31,g32,g33,g34,g35,g36,g37,g38,g39,g40,g41,g42,g43,g44,g45,g46,g47,g48,g49,g50,g51,g52,g53,g54,g55,g56,g57,g58,g59,g60,g61,g62,g63,g64,g65,g66,g67,g68,g69,g70,g71,g72,g73,g74,g75,g76] M := by kernel_rfl
theorem k33_2 : P33 [1] = .seq (P33 [1,0]) (P33 [1,1]) := by kernel_rfl
theorem k33_3 : P33 [1,0] = .region 1 (O33 [1,0]) false := by kernel_rfl
theorem r33_1 {x0 : Int} {Ax1 : Option Addr} {lx1 cx1 : Nat} {M : Mem} {call : CallM} {K : Array Value → Mem → R} :
    opsK Try.prog (fun _ => call) (O33 [1,0]) (O33 [1,0]).toList 0 #[.int .i64 x0,.slice Ax1 lx1 cx1,g2,g3,g4,g5,g6,g7,g8,g9,g10,g11,g12,g13,g14,g15,g16,g17,g18,g19,g20,g21,g22,g23,g24,g25,g26,g27,g28,g29,g30,g31,g32,g33,g34,g35,g36,g37,g38,g39,g40,g41,g42,g43,g44,g45,g46,g47,g48,g49,g50,g51,g52,g53,g54,g55,g56,g57,g58,g59,g60,g61,g62,g63,g64,g65,g66,g67,g68,g69,g70,g71,g72,g73,g74,g75,g76] M K = (call 52 #[.int .i64 x0, .slice Ax1 lx1 cx1] M).bind fun r_1 => (asU 2 r_1.1).bind fun cs_2 => (asA 2 (cs_2.getD 0 undef)).bind fun cs_3 => (asI .i64 (cs_3.getD 0 undef)).bind fun x_4 => (asB (cs_2.getD 1 undef)).bind fun b_5 => ((r_1.2.new (.cells #[.int .i64 0, .nilFunc] 54)).put (2 * r_1.2.nb.size) 0 (.int .i64 x_4)).bind fun M_6 => (M_6.put (2 * r_1.2.nb.size) 1 (cs_3.getD 1 undef)).bind fun M_7 => K #[.int .i64 x0,.slice Ax1 lx1 cx1,g2,g3,g4,g5,.pointer (some ⟨2 * r_1.2.nb.size, 0, none⟩),.bool b_5,g8,g9,g10,g11,.tuple #[.agg #[.int .i64 x_4, cs_3.getD 1 undef], .bool b_5],.int .i64 x0,.slice Ax1 lx1 cx1,.tuple #[.agg #[.int .i64 x_4, cs_3.getD 1 undef], .bool b_5],.agg #[.int .i64 x_4, cs_3.getD 1 undef],.bool b_5,g18,g19,g20,g21,g22,g23,g24,g25,g26,g27,g28,g29,g30,g31,g32,g33,g34,g35,g36,g37,g38,g39,g40,g41,g42,g43,g44,g45,g46,g47,g48,g49,g50,g51,g52,g53,g54,g55,g56,g57,g58,g59,g60,g61,g62,g63,g64,g65,g66,g67,g68,g69,g70,g71,g72,g73,g74,g75,g76] M_7 := by kernel_rfl
theorem k33_4 : P33 [1,1] = .seq (P33 [1,1,0]) (P33 [1,1,1]) := by kernel_rfl
theorem k33_5 : P33 [1,1,0] = .seq (P33 [1,1,0,0]) (P33 [1,1,0,1]) := by kernel_rfl
theorem k33_6 : P33 [1,1,0,0] = .region 2 (O33 [1,1,0,0]) false := by kernel_rfl
theorem r33_2 {x7 : Bool} {M : Mem} {call : CallM} {K : Array Value → Mem → R} :
    opsK Try.prog (fun _ => call) (O33 [1,1,0,0]) (O33 [1,1,0,0]).toList 0 #[g0,g1,g2,g3,g4,g5,g6,.bool x7,g8,g9,g10,g11,g12,g13,g14,g15,g16,g17,g18,g19,g20,g21,g22,g23,g24,g25,g26,g27,g28,g29,g30,g31,g32,g33,g34,g35,g36,g37,g38,g39,g40,g41,g42,g43,g44,g45,g46,g47,g48,g49,g50,g51,g52,g53,g54,g55,g56,g57,g58,g59,g60,g61,g62,g63,g64,g65,g66,g67,g68,g69,g70,g71,g72,g73,g74,g75,g76] M K = K #[g0,g1,g2,g3,g4,g5,g6,.bool x7,g8,g9,g10,g11,g12,g13,g14,g15,g16,g17,.bool x7,.bool (!x7),g20,g21,g22,g23,g24,g25,g26,g27,g28,g29,g30,g31,g32,g33,g34,g35,g36,g37,g38,g39,g40,g41,g42,g43,g44,g45,g46,g47,g48,g49,g50,g51,g52,g53,g54,g55,g56,g57,g58,g59,g60,g61,g62,g63,g64,g65,g66,g67,g68,g69,g70,g71,g72,g73,g74,g75,g76] M := by kernel_rfl
theorem c33_7 : P33 [1,1,0,1] = .cond (.tmp 19) (P33 [1,1,0,1,0]) (P33 [1,1,0,1,1]) := by kernel_rfl
theorem k33_8 : P33 [1,1,0,1,0] = .seq (P33 [1,1,0,1,0,0]) (P33 [1,1,0,1,0,1]) := by kernel_rfl
theorem k33_9 : P33 [1,1,0,1,0,0] = .region 3 (O33 [1,1,0,1,0,0]) false := by kernel_rfl
theorem r33_3 {M : Mem} {call : CallM} {K : Array Value → Mem → R} :
    opsK Try.prog (fun _ => call) (O33 [1,1,0,1,0,0]) (O33 [1,1,0,1,0,0]).toList 0 #[g0,g1,g2,g3,g4,g5,g6,g7,g8,g9,g10,g11,g12,g13,g14,g15,g16,g17,g18,g19,g20,g21,g22,g23,g24,g25,g26,g27,g28,g29,g30,g31,g32,g33,g34,g35,g36,g37,g38,g39,g40,g41,g42,g43,g44,g45,g46,g47,g48,g49,g50,g51,g52,g53,g54,g55,g56,g57,g58,g59,g60,g61,g62,g63,g64,g65,g66,g67,g68,g69,g70,g71,g72,g73,g74,g75,g76] M K = K #[g0,g1,g2,g3,.slice none 0 0,.int .i64 2,g6,g7,g8,g9,g10,g11,g12,g13,g14,g15,g16,g17,g18,g19,g20,g21,g22,g23,g24,g25,g26,g27,g28,g29,g30,g31,g32,g33,g34,g35,g36,g37,g38,g39,g40,g41,g42,g43,g44,g45,g46,g47,g48,g49,g50,g51,g52,g53,g54,g55,g56,g57,g58,g59,g60,g61,g62,g63,g64,g65,g66,g67,g68,g69,g70,g71,g72,g73,g74,g75,g76] M := by kernel_rfl
theorem k33_10 : P33 [1,1,0,1,0,1] = .ret := by kernel_rfl
theorem e33 {M : Mem} : finish Try.prog Try.f33 #[g0,g1,g2,g3,g4,g5,g6,g7,g8,g9,g10,g11,g12,g13,g14,g15,g16,g17,g18,g19,g20,g21,g22,g23,g24,g25,g26,g27,g28,g29,g30,g31,g32,g33,g34,g35,g36,g37,g38,g39,g40,g41,g42,g43,g44,g45,g46,g47,g48,g49,g50,g51,g52,g53,g54,g55,g56,g57,g58,g59,g60,g61,g62,g63,g64,g65,g66,g67,g68,g69,g70,g71,g72,g73,g74,g75,g76] M = some (.tuple #[g4, g5], M) := by kernel_rfl
theorem k33_12 : P33 [1,1,0,1,1] = .skip := by kernel_rfl
theorem k33_13 : P33 [1,1,1] = .seq (P33 [1,1,1,0]) (P33 [1,1,1,1]) := by kernel_rfl
theorem k33_14 : P33 [1,1,1,0] = .seq (P33 [1,1,1,0,0]) (P33 [1,1,1,0,1]) := by kernel_rfl
theorem k33_15 : P33 [1,1,1,0,0] = .region 4 (O33 [1,1,1,0,0]) false := by kernel_rfl
theorem r33_4 {x6 : Option Addr} {M : Mem} {call : CallM} {K : Array Value → Mem → R} :
    opsK Try.prog (fun _ => call) (O33 [1,1,1,0,0]) (O33 [1,1,1,0,0]).toList 0 #[g0,g1,g2,g3,g4,g5,.pointer x6,g7,g8,g9,g10,g11,g12,g13,g14,g15,g16,g17,g18,g19,g20,g21,g22,g23,g24,g25,g26,g27,g28,g29,g30,g31,g32,g33,g34,g35,g36,g37,g38,g39,g40,g41,g42,g43,g44,g45,g46,g47,g48,g49,g50,g51,g52,g53,g54,g55,g56,g57,g58,g59,g60,g61,g62,g63,g64,g65,g66,g67,g68,g69,g70,g71,g72,g73,g74,g75,g76] M K = (x6).bind fun a_1 => (M.cell a_1.block (a_1.off + 1)).bind fun v_2 => (fnilV Try.prog 33 v_2).bind fun b_3 => K #[g0,g1,g2,g3,g4,g5,.pointer x6,g7,g8,g9,g10,g11,g12,g13,g14,g15,g16,g17,g18,g19,.pointer (some ⟨a_1.block, a_1.off + 1, none⟩),v_2,.bool b_3,g23,g24,g25,g26,g27,g28,g29,g30,g31,g32,g33,g34,g35,g36,g37,g38,g39,g40,g41,g42,g43,g44,g45,g46,g47,g48,g49,g50,g51,g52,g53,g54,g55,g56,g57,g58,g59,g60,g61,g62,g63,g64,g65,g66,g67,g68,g69,g70,g71,g72,g73,g74,g75,g76] M := by kernel_rfl
theorem c33_16 : P33 [1,1,1,0,1] = .cond (.tmp 22) (P33 [1,1,1,0,1,0]) (P33 [1,1,1,0,1,1]) := by kernel_rfl
theorem k33_17 : P33 [1,1,1,0,1,0] = .seq (P33 [1,1,1,0,1,0,0]) (P33 [1,1,1,0,1,0,1]) := by kernel_rfl
theorem k33_18 : P33 [1,1,1,0,1,0,0] = .region 5 (O33 [1,1,1,0,1,0,0]) true ∧ drawOk (O33 [1,1,1,0,1,0,0]) = true := ⟨by kernel_rfl, by kernel_rfl⟩
theorem r33_5 {Ax1 : Option Addr} {lx1 cx1 : Nat} {M : Mem} {call : CallM} {K : Array Value → Mem → R} :
    opsI Try.prog (callAt call (O33 [1,1,1,0,1,0,0])) (O33 [1,1,1,0,1,0,0]) (ordOf (O33 [1,1,1,0,1,0,0])) [] #[g0,.slice Ax1 lx1 cx1,g2,g3,g4,g5,g6,g7,g8,g9,g10,g11,g12,g13,g14,g15,g16,g17,g18,g19,g20,g21,g22,g23,g24,g25,g26,g27,g28,g29,g30,g31,g32,g33,g34,g35,g36,g37,g38,g39,g40,g41,g42,g43,g44,g45,g46,g47,g48,g49,g50,g51,g52,g53,g54,g55,g56,g57,g58,g59,g60,g61,g62,g63,g64,g65,g66,g67,g68,g69,g70,g71,g72,g73,g74,g75,g76] M K = (idxA Ax1 lx1 1 0).bind fun a_1 => (M.intAt .i64 a_1.block a_1.off).bind fun x_2 => (idxA Ax1 lx1 1 1).bind fun a_3 => (M.intAt .i64 a_3.block a_3.off).bind fun x_4 => (idxA Ax1 lx1 1 2).bind fun a_5 => (M.intAt .i64 a_5.block a_5.off).bind fun x_6 => (idxA Ax1 lx1 1 3).bind fun a_7 => (M.intAt .i64 a_7.block a_7.off).bind fun x_8 => (call 53 #[.int .i64 x_2, .int .i64 x_4, .int .i64 x_6, .int .i64 x_8] M).bind fun r_9 => (asS r_9.1).bind fun s_10 => K #[g0,.slice Ax1 lx1 cx1,g2,g3,.slice s_10.1 (s_10.2.1) (s_10.2.2),.int .i64 0,g6,g7,g8,g9,g10,g11,g12,g13,g14,g15,g16,g17,g18,g19,g20,g21,g22,.slice Ax1 lx1 cx1,.pointer (some a_1),.int .i64 x_2,.slice Ax1 lx1 cx1,.pointer (some a_3),.int .i64 x_4,.slice Ax1 lx1 cx1,.pointer (some a_5),.int .i64 x_6,.slice Ax1 lx1 cx1,.pointer (some a_7),.int .i64 x_8,.slice s_10.1 (s_10.2.1) (s_10.2.2),g36,g37,g38,g39,g40,g41,g42,g43,g44,g45,g46,g47,g48,g49,g50,g51,g52,g53,g54,g55,g56,g57,g58,g59,g60,g61,g62,g63,g64,g65,g66,g67,g68,g69,g70,g71,g72,g73,g74,g75,g76] r_9.2 := by kernel_rfl
theorem k33_19 : P33 [1,1,1,0,1,0,1] = .ret := by kernel_rfl
theorem k33_20 : P33 [1,1,1,0,1,1] = .skip := by kernel_rfl
theorem k33_21 : P33 [1,1,1,1] = .seq (P33 [1,1,1,1,0]) (P33 [1,1,1,1,1]) := by kernel_rfl
theorem k33_22 : P33 [1,1,1,1,0] = .region 6 (O33 [1,1,1,1,0]) false := by kernel_rfl
theorem r33_6 {Ax1 : Option Addr} {lx1 cx1 : Nat} {M : Mem} {call : CallM} {K : Array Value → Mem → R} :
    opsK Try.prog (fun _ => call) (O33 [1,1,1,1,0]) (O33 [1,1,1,1,0]).toList 0 #[g0,.slice Ax1 lx1 cx1,g2,g3,g4,g5,g6,g7,g8,g9,g10,g11,g12,g13,g14,g15,g16,g17,g18,g19,g20,g21,g22,g23,g24,g25,g26,g27,g28,g29,g30,g31,g32,g33,g34,g35,g36,g37,g38,g39,g40,g41,g42,g43,g44,g45,g46,g47,g48,g49,g50,g51,g52,g53,g54,g55,g56,g57,g58,g59,g60,g61,g62,g63,g64,g65,g66,g67,g68,g69,g70,g71,g72,g73,g74,g75,g76] M K = (makeP Try.prog 22 (.int .i64 ((lx1 : Int))) (.int .i64 ((lx1 : Int))) M).bind fun r_1 => (asS r_1.1).bind fun s_2 => K #[g0,.slice Ax1 lx1 cx1,g2,g3,g4,g5,g6,g7,.slice s_2.1 (s_2.2.1) (s_2.2.2),g9,g10,g11,g12,g13,g14,g15,g16,g17,g18,g19,g20,g21,g22,g23,g24,g25,g26,g27,g28,g29,g30,g31,g32,g33,g34,g35,.slice Ax1 lx1 cx1,.int .i64 ((lx1 : Int)),.slice s_2.1 (s_2.2.1) (s_2.2.2),g39,g40,g41,g42,g43,g44,g45,g46,g47,g48,g49,g50,g51,g52,g53,g54,g55,g56,g57,g58,g59,g60,g61,g62,g63,g64,g65,g66,g67,g68,g69,g70,g71,g72,g73,g74,g75,g76] r_1.2 := by kernel_rfl
theorem k33_23 : P33 [1,1,1,1,1] = .seq (P33 [1,1,1,1,1,0]) (P33 [1,1,1,1,1,1]) := by kernel_rfl
theorem k33_24 : P33 [1,1,1,1,1,0] = .seq (P33 [1,1,1,1,1,0,0]) (P33 [1,1,1,1,1,0,1]) := by kernel_rfl
theorem k33_25 : P33 [1,1,1,1,1,0,0] = .region 7 (O33 [1,1,1,1,1,0,0]) false := by kernel_rfl
theorem r33_7 {Ax8 : Option Addr} {lx8 cx8 : Nat} {M : Mem} {call : CallM} {K : Array Value → Mem → R} :
    opsK Try.prog (fun _ => call) (O33 [1,1,1,1,1,0,0]) (O33 [1,1,1,1,1,0,0]).toList 0 #[g0,g1,g2,g3,g4,g5,g6,g7,.slice Ax8 lx8 cx8,g9,g10,g11,g12,g13,g14,g15,g16,g17,g18,g19,g20,g21,g22,g23,g24,g25,g26,g27,g28,g29,g30,g31,g32,g33,g34,g35,g36,g37,g38,g39,g40,g41,g42,g43,g44,g45,g46,g47,g48,g49,g50,g51,g52,g53,g54,g55,g56,g57,g58,g59,g60,g61,g62,g63,g64,g65,g66,g67,g68,g69,g70,g71,g72,g73,g74,g75,g76] M K = K #[g0,g1,g2,g3,g4,g5,g6,g7,.slice Ax8 lx8 cx8,g9,g10,g11,g12,g13,g14,g15,g16,g17,g18,g19,g20,g21,g22,g23,g24,g25,g26,g27,g28,g29,g30,g31,g32,g33,g34,g35,g36,g37,g38,.slice Ax8 lx8 cx8,.int .i64 ((lx8 : Int)),.int .i64 0,g42,g43,g44,g45,g46,g47,g48,g49,g50,g51,g52,g53,g54,g55,g56,g57,g58,g59,g60,g61,g62,g63,g64,g65,g66,g67,g68,g69,g70,g71,g72,g73,g74,g75,g76] M := by kernel_rfl
theorem k33_26 : P33 [1,1,1,1,1,0,1] = .block 0 (P33 [1,1,1,1,1,0,1,0]) := by kernel_rfl
theorem k33_27 : P33 [1,1,1,1,1,0,1,0] = .loop (P33 [1,1,1,1,1,0,1,0,0]) := by kernel_rfl
theorem k33_28 : P33 [1,1,1,1,1,0,1,0,0] = .seq (P33 [1,1,1,1,1,0,1,0,0,0]) (P33 [1,1,1,1,1,0,1,0,0,1]) := by kernel_rfl
theorem k33_29 : P33 [1,1,1,1,1,0,1,0,0,0] = .region 8 (O33 [1,1,1,1,1,0,1,0,0,0]) false := by kernel_rfl
theorem r33_8 {x40 x41 : Int} {M : Mem} {call : CallM} {K : Array Value → Mem → R} :
    opsK Try.prog (fun _ => call) (O33 [1,1,1,1,1,0,1,0,0,0]) (O33 [1,1,1,1,1,0,1,0,0,0]).toList 0 #[g0,g1,g2,g3,g4,g5,g6,g7,g8,g9,g10,g11,g12,g13,g14,g15,g16,g17,g18,g19,g20,g21,g22,g23,g24,g25,g26,g27,g28,g29,g30,g31,g32,g33,g34,g35,g36,g37,g38,g39,.int .i64 x40,.int .i64 x41,g42,g43,g44,g45,g46,g47,g48,g49,g50,g51,g52,g53,g54,g55,g56,g57,g58,g59,g60,g61,g62,g63,g64,g65,g66,g67,g68,g69,g70,g71,g72,g73,g74,g75,g76] M K = K #[g0,g1,g2,g3,g4,g5,g6,g7,g8,g9,g10,g11,g12,g13,g14,g15,g16,g17,g18,g19,g20,g21,g22,g23,g24,g25,g26,g27,g28,g29,g30,g31,g32,g33,g34,g35,g36,g37,g38,g39,.int .i64 x40,.int .i64 x41,.bool (decide (x41 < x40)),g43,g44,g45,g46,g47,g48,g49,g50,g51,g52,g53,g54,g55,g56,g57,g58,g59,g60,g61,g62,g63,g64,g65,g66,g67,g68,g69,g70,g71,g72,g73,g74,g75,g76] M := by kernel_rfl
theorem k33_30 : P33 [1,1,1,1,1,0,1,0,0,1] = .seq (P33 [1,1,1,1,1,0,1,0,0,1,0]) (P33 [1,1,1,1,1,0,1,0,0,1,1]) := by kernel_rfl
theorem c33_31 : P33 [1,1,1,1,1,0,1,0,0,1,0] = .cond (.tmp 42) (P33 [1,1,1,1,1,0,1,0,0,1,0,0]) (P33 [1,1,1,1,1,0,1,0,0,1,0,1]) := by kernel_rfl
theorem k33_32 : P33 [1,1,1,1,1,0,1,0,0,1,0,0] = .skip := by kernel_rfl
theorem k33_33 : P33 [1,1,1,1,1,0,1,0,0,1,1] = .seq (P33 [1,1,1,1,1,0,1,0,0,1,1,0]) (P33 [1,1,1,1,1,0,1,0,0,1,1,1]) := by kernel_rfl
theorem k33_34 : P33 [1,1,1,1,1,0,1,0,0,1,1,0] = .block 1 (P33 [1,1,1,1,1,0,1,0,0,1,1,0,0]) := by kernel_rfl
theorem k33_35 : P33 [1,1,1,1,1,0,1,0,0,1,1,0,0] = .seq (P33 [1,1,1,1,1,0,1,0,0,1,1,0,0,0]) (P33 [1,1,1,1,1,0,1,0,0,1,1,0,0,1]) := by kernel_rfl
theorem k33_36 : P33 [1,1,1,1,1,0,1,0,0,1,1,0,0,0] = .region 9 (O33 [1,1,1,1,1,0,1,0,0,1,1,0,0,0]) false := by kernel_rfl
theorem r33_9 {x41 : Int} {M : Mem} {call : CallM} {K : Array Value → Mem → R} :
    opsK Try.prog (fun _ => call) (O33 [1,1,1,1,1,0,1,0,0,1,1,0,0,0]) (O33 [1,1,1,1,1,0,1,0,0,1,1,0,0,0]).toList 0 #[g0,g1,g2,g3,g4,g5,g6,g7,g8,g9,g10,g11,g12,g13,g14,g15,g16,g17,g18,g19,g20,g21,g22,g23,g24,g25,g26,g27,g28,g29,g30,g31,g32,g33,g34,g35,g36,g37,g38,g39,g40,.int .i64 x41,g42,g43,g44,g45,g46,g47,g48,g49,g50,g51,g52,g53,g54,g55,g56,g57,g58,g59,g60,g61,g62,g63,g64,g65,g66,g67,g68,g69,g70,g71,g72,g73,g74,g75,g76] M K = K #[g0,g1,g2,g3,g4,g5,g6,g7,g8,.int .i64 x41,g10,g11,g12,g13,g14,g15,g16,g17,g18,g19,g20,g21,g22,g23,g24,g25,g26,g27,g28,g29,g30,g31,g32,g33,g34,g35,g36,g37,g38,g39,g40,.int .i64 x41,g42,.int .i64 x41,g44,g45,g46,g47,g48,g49,g50,g51,g52,g53,g54,g55,g56,g57,g58,g59,g60,g61,g62,g63,g64,g65,g66,g67,g68,g69,g70,g71,g72,g73,g74,g75,g76] M := by kernel_rfl
theorem k33_37 : P33 [1,1,1,1,1,0,1,0,0,1,1,0,0,1] = .seq (P33 [1,1,1,1,1,0,1,0,0,1,1,0,0,1,0]) (P33 [1,1,1,1,1,0,1,0,0,1,1,0,0,1,1]) := by kernel_rfl
theorem k33_38 : P33 [1,1,1,1,1,0,1,0,0,1,1,0,0,1,0] = .seq (P33 [1,1,1,1,1,0,1,0,0,1,1,0,0,1,0,0]) (P33 [1,1,1,1,1,0,1,0,0,1,1,0,0,1,0,1]) := by kernel_rfl
theorem k33_39 : P33 [1,1,1,1,1,0,1,0,0,1,1,0,0,1,0,0] = .region 10 (O33 [1,1,1,1,1,0,1,0,0,1,1,0,0,1,0,0]) false := by kernel_rfl
theorem r33_10 {Ax1 : Option Addr} {lx1 cx1 : Nat} {M : Mem} {call : CallM} {K : Array Value → Mem → R} :
    opsK Try.prog (fun _ => call) (O33 [1,1,1,1,1,0,1,0,0,1,1,0,0,1,0,0]) (O33 [1,1,1,1,1,0,1,0,0,1,1,0,0,1,0,0]).toList 0 #[g0,.slice Ax1 lx1 cx1,g2,g3,g4,g5,g6,g7,g8,g9,g10,g11,g12,g13,g14,g15,g16,g17,g18,g19,g20,g21,g22,g23,g24,g25,g26,g27,g28,g29,g30,g31,g32,g33,g34,g35,g36,g37,g38,g39,g40,g41,g42,g43,g44,g45,g46,g47,g48,g49,g50,g51,g52,g53,g54,g55,g56,g57,g58,g59,g60,g61,g62,g63,g64,g65,g66,g67,g68,g69,g70,g71,g72,g73,g74,g75,g76] M K = K #[g0,.slice Ax1 lx1 cx1,g2,g3,g4,g5,g6,g7,g8,g9,g10,g11,g12,g13,g14,g15,g16,g17,g18,g19,g20,g21,g22,g23,g24,g25,g26,g27,g28,g29,g30,g31,g32,g33,g34,g35,g36,g37,g38,g39,g40,g41,g42,g43,.slice Ax1 lx1 cx1,.int .i64 ((lx1 : Int)),.int .i64 0,g47,g48,g49,g50,g51,g52,g53,g54,g55,g56,g57,g58,g59,g60,g61,g62,g63,g64,g65,g66,g67,g68,g69,g70,g71,g72,g73,g74,g75,g76] M := by kernel_rfl
theorem k33_40 : P33 [1,1,1,1,1,0,1,0,0,1,1,0,0,1,0,1] = .block 2 (P33 [1,1,1,1,1,0,1,0,0,1,1,0,0,1,0,1,0]) := by kernel_rfl
theorem k33_41 : P33 [1,1,1,1,1,0,1,0,0,1,1,0,0,1,0,1,0] = .loop (P33 [1,1,1,1,1,0,1,0,0,1,1,0,0,1,0,1,0,0]) := by kernel_rfl
theorem k33_42 : P33 [1,1,1,1,1,0,1,0,0,1,0,1] = .exit 0 := by kernel_rfl
theorem k33_43 : P33 [1,1,1,1,1,1] = .seq (P33 [1,1,1,1,1,1,0]) (P33 [1,1,1,1,1,1,1]) := by kernel_rfl
theorem k33_44 : P33 [1,1,1,1,1,1,0] = .region 18 (O33 [1,1,1,1,1,1,0]) false := by kernel_rfl
theorem r33_18 {Ax8 : Option Addr} {lx8 cx8 : Nat} {M : Mem} {call : CallM} {K : Array Value → Mem → R} :
    opsK Try.prog (fun _ => call) (O33 [1,1,1,1,1,1,0]) (O33 [1,1,1,1,1,1,0]).toList 0 #[g0,g1,g2,g3,g4,g5,g6,g7,.slice Ax8 lx8 cx8,g9,g10,g11,g12,g13,g14,g15,g16,g17,g18,g19,g20,g21,g22,g23,g24,g25,g26,g27,g28,g29,g30,g31,g32,g33,g34,g35,g36,g37,g38,g39,g40,g41,g42,g43,g44,g45,g46,g47,g48,g49,g50,g51,g52,g53,g54,g55,g56,g57,g58,g59,g60,g61,g62,g63,g64,g65,g66,g67,g68,g69,g70,g71,g72,g73,g74,g75,g76] M K = K #[g0,g1,g2,g3,.slice Ax8 lx8 cx8,.int .i64 0,g6,g7,.slice Ax8 lx8 cx8,g9,g10,g11,g12,g13,g14,g15,g16,g17,g18,g19,g20,g21,g22,g23,g24,g25,g26,g27,g28,g29,g30,g31,g32,g33,g34,g35,g36,g37,g38,g39,g40,g41,g42,g43,g44,g45,g46,g47,g48,g49,g50,g51,g52,g53,g54,g55,g56,g57,g58,g59,g60,g61,g62,g63,g64,g65,g66,g67,g68,g69,g70,g71,g72,g73,g74,g75,.slice Ax8 lx8 cx8] M := by kernel_rfl
theorem k33_45 : P33 [1,1,1,1,1,1,1] = .ret := by kernel_rfl
theorem k33_46 : P33 [1,1,1,1,1,0,1,0,0,1,1,0,0,1,0,1,0,0] = .seq (P33 [1,1,1,1,1,0,1,0,0,1,1,0,0,1,0,1,0,0,0]) (P33 [1,1,1,1,1,0,1,0,0,1,1,0,0,1,0,1,0,0,1]) := by kernel_rfl
theorem k33_47 : P33 [1,1,1,1,1,0,1,0,0,1,1,0,0,1,0,1,0,0,0] = .region 11 (O33 [1,1,1,1,1,0,1,0,0,1,1,0,0,1,0,1,0,0,0]) false := by kernel_rfl
theorem r33_11 {x45 x46 : Int} {M : Mem} {call : CallM} {K : Array Value → Mem → R} :
    opsK Try.prog (fun _ => call) (O33 [1,1,1,1,1,0,1,0,0,1,1,0,0,1,0,1,0,0,0]) (O33 [1,1,1,1,1,0,1,0,0,1,1,0,0,1,0,1,0,0,0]).toList 0 #[g0,g1,g2,g3,g4,g5,g6,g7,g8,g9,g10,g11,g12,g13,g14,g15,g16,g17,g18,g19,g20,g21,g22,g23,g24,g25,g26,g27,g28,g29,g30,g31,g32,g33,g34,g35,g36,g37,g38,g39,g40,g41,g42,g43,g44,.int .i64 x45,.int .i64 x46,g47,g48,g49,g50,g51,g52,g53,g54,g55,g56,g57,g58,g59,g60,g61,g62,g63,g64,g65,g66,g67,g68,g69,g70,g71,g72,g73,g74,g75,g76] M K = K #[g0,g1,g2,g3,g4,g5,g6,g7,g8,g9,g10,g11,g12,g13,g14,g15,g16,g17,g18,g19,g20,g21,g22,g23,g24,g25,g26,g27,g28,g29,g30,g31,g32,g33,g34,g35,g36,g37,g38,g39,g40,g41,g42,g43,g44,.int .i64 x45,.int .i64 x46,.bool (decide (x46 < x45)),g48,g49,g50,g51,g52,g53,g54,g55,g56,g57,g58,g59,g60,g61,g62,g63,g64,g65,g66,g67,g68,g69,g70,g71,g72,g73,g74,g75,g76] M := by kernel_rfl
theorem k33_48 : P33 [1,1,1,1,1,0,1,0,0,1,1,0,0,1,0,1,0,0,1] = .seq (P33 [1,1,1,1,1,0,1,0,0,1,1,0,0,1,0,1,0,0,1,0]) (P33 [1,1,1,1,1,0,1,0,0,1,1,0,0,1,0,1,0,0,1,1]) := by kernel_rfl
theorem c33_49 : P33 [1,1,1,1,1,0,1,0,0,1,1,0,0,1,0,1,0,0,1,0] = .cond (.tmp 47) (P33 [1,1,1,1,1,0,1,0,0,1,1,0,0,1,0,1,0,0,1,0,0]) (P33 [1,1,1,1,1,0,1,0,0,1,1,0,0,1,0,1,0,0,1,0,1]) := by kernel_rfl
theorem k33_50 : P33 [1,1,1,1,1,0,1,0,0,1,1,0,0,1,0,1,0,0,1,0,0] = .skip := by kernel_rfl
theorem k33_51 : P33 [1,1,1,1,1,0,1,0,0,1,1,0,0,1,0,1,0,0,1,1] = .seq (P33 [1,1,1,1,1,0,1,0,0,1,1,0,0,1,0,1,0,0,1,1,0]) (P33 [1,1,1,1,1,0,1,0,0,1,1,0,0,1,0,1,0,0,1,1,1]) := by kernel_rfl
theorem k33_52 : P33 [1,1,1,1,1,0,1,0,0,1,1,0,0,1,0,1,0,0,1,1,0] = .block 3 (P33 [1,1,1,1,1,0,1,0,0,1,1,0,0,1,0,1,0,0,1,1,0,0]) := by kernel_rfl
theorem k33_53 : P33 [1,1,1,1,1,0,1,0,0,1,1,0,0,1,0,1,0,0,1,1,0,0] = .seq (P33 [1,1,1,1,1,0,1,0,0,1,1,0,0,1,0,1,0,0,1,1,0,0,0]) (P33 [1,1,1,1,1,0,1,0,0,1,1,0,0,1,0,1,0,0,1,1,0,0,1]) := by kernel_rfl
theorem k33_54 : P33 [1,1,1,1,1,0,1,0,0,1,1,0,0,1,0,1,0,0,1,1,0,0,0] = .region 12 (O33 [1,1,1,1,1,0,1,0,0,1,1,0,0,1,0,1,0,0,1,1,0,0,0]) false := by kernel_rfl
theorem r33_12 {Ax44 : Option Addr} {lx44 cx44 : Nat} {x46 : Int} {M : Mem} {call : CallM} {K : Array Value → Mem → R} :
    opsK Try.prog (fun _ => call) (O33 [1,1,1,1,1,0,1,0,0,1,1,0,0,1,0,1,0,0,1,1,0,0,0]) (O33 [1,1,1,1,1,0,1,0,0,1,1,0,0,1,0,1,0,0,1,1,0,0,0]).toList 0 #[g0,g1,g2,g3,g4,g5,g6,g7,g8,g9,g10,g11,g12,g13,g14,g15,g16,g17,g18,g19,g20,g21,g22,g23,g24,g25,g26,g27,g28,g29,g30,g31,g32,g33,g34,g35,g36,g37,g38,g39,g40,g41,g42,g43,.slice Ax44 lx44 cx44,g45,.int .i64 x46,g47,g48,g49,g50,g51,g52,g53,g54,g55,g56,g57,g58,g59,g60,g61,g62,g63,g64,g65,g66,g67,g68,g69,g70,g71,g72,g73,g74,g75,g76] M K = (idxA Ax44 lx44 1 x46).bind fun a_1 => (M.intAt .i64 a_1.block a_1.off).bind fun x_2 => K #[g0,g1,g2,g3,g4,g5,g6,g7,g8,g9,.int .i64 x46,.int .i64 x_2,g12,g13,g14,g15,g16,g17,g18,g19,g20,g21,g22,g23,g24,g25,g26,g27,g28,g29,g30,g31,g32,g33,g34,g35,g36,g37,g38,g39,g40,g41,g42,g43,.slice Ax44 lx44 cx44,g45,.int .i64 x46,g47,.int .i64 x46,.pointer (some a_1),.int .i64 x_2,g51,g52,g53,g54,g55,g56,g57,g58,g59,g60,g61,g62,g63,g64,g65,g66,g67,g68,g69,g70,g71,g72,g73,g74,g75,g76] M := by kernel_rfl
theorem k33_55 : P33 [1,1,1,1,1,0,1,0,0,1,1,0,0,1,0,1,0,0,1,1,0,0,1] = .seq (P33 [1,1,1,1,1,0,1,0,0,1,1,0,0,1,0,1,0,0,1,1,0,0,1,0]) (P33 [1,1,1,1,1,0,1,0,0,1,1,0,0,1,0,1,0,0,1,1,0,0,1,1]) := by kernel_rfl
theorem k33_56 : P33 [1,1,1,1,1,0,1,0,0,1,1,0,0,1,0,1,0,0,1,1,0,0,1,0] = .region 13 (O33 [1,1,1,1,1,0,1,0,0,1,1,0,0,1,0,1,0,0,1,1,0,0,1,0]) false := by kernel_rfl
theorem r33_13 {x11 : Int} {M : Mem} {call : CallM} {K : Array Value → Mem → R} :
    opsK Try.prog (fun _ => call) (O33 [1,1,1,1,1,0,1,0,0,1,1,0,0,1,0,1,0,0,1,1,0,0,1,0]) (O33 [1,1,1,1,1,0,1,0,0,1,1,0,0,1,0,1,0,0,1,1,0,0,1,0]).toList 0 #[g0,g1,g2,g3,g4,g5,g6,g7,g8,g9,g10,.int .i64 x11,g12,g13,g14,g15,g16,g17,g18,g19,g20,g21,g22,g23,g24,g25,g26,g27,g28,g29,g30,g31,g32,g33,g34,g35,g36,g37,g38,g39,g40,g41,g42,g43,g44,g45,g46,g47,g48,g49,g50,g51,g52,g53,g54,g55,g56,g57,g58,g59,g60,g61,g62,g63,g64,g65,g66,g67,g68,g69,g70,g71,g72,g73,g74,g75,g76] M K = K #[g0,g1,g2,g3,g4,g5,g6,g7,g8,g9,g10,.int .i64 x11,g12,g13,g14,g15,g16,g17,g18,g19,g20,g21,g22,g23,g24,g25,g26,g27,g28,g29,g30,g31,g32,g33,g34,g35,g36,g37,g38,g39,g40,g41,g42,g43,g44,g45,g46,g47,g48,g49,g50,.int .i64 x11,.bool (x11 != 0),g53,g54,g55,g56,g57,g58,g59,g60,g61,g62,g63,g64,g65,g66,g67,g68,g69,g70,g71,g72,g73,g74,g75,g76] M := by kernel_rfl
theorem c33_57 : P33 [1,1,1,1,1,0,1,0,0,1,1,0,0,1,0,1,0,0,1,1,0,0,1,1] = .cond (.tmp 52) (P33 [1,1,1,1,1,0,1,0,0,1,1,0,0,1,0,1,0,0,1,1,0,0,1,1,0]) (P33 [1,1,1,1,1,0,1,0,0,1,1,0,0,1,0,1,0,0,1,1,0,0,1,1,1]) := by kernel_rfl
theorem k33_58 : P33 [1,1,1,1,1,0,1,0,0,1,1,0,0,1,0,1,0,0,1,1,0,0,1,1,0] = .region 14 (O33 [1,1,1,1,1,0,1,0,0,1,1,0,0,1,0,1,0,0,1,1,0,0,1,1,0]) true ∧ drawOk (O33 [1,1,1,1,1,0,1,0,0,1,1,0,0,1,0,1,0,0,1,1,0,0,1,1,0]) = true := ⟨by kernel_rfl, by kernel_rfl⟩
theorem r33_14 {x6 Ax8 : Option Addr} {lx8 cx8 : Nat} {x9 x10 x11 : Int} {M : Mem} {call : CallM} {K : Array Value → Mem → R} :
    opsI Try.prog (callAt call (O33 [1,1,1,1,1,0,1,0,0,1,1,0,0,1,0,1,0,0,1,1,0,0,1,1,0])) (O33 [1,1,1,1,1,0,1,0,0,1,1,0,0,1,0,1,0,0,1,1,0,0,1,1,0]) (ordOf (O33 [1,1,1,1,1,0,1,0,0,1,1,0,0,1,0,1,0,0,1,1,0,0,1,1,0])) [] #[g0,g1,g2,g3,g4,g5,.pointer x6,g7,.slice Ax8 lx8 cx8,.int .i64 x9,.int .i64 x10,.int .i64 x11,g12,g13,g14,g15,g16,g17,g18,g19,g20,g21,g22,g23,g24,g25,g26,g27,g28,g29,g30,g31,g32,g33,g34,g35,g36,g37,g38,g39,g40,g41,g42,g43,g44,g45,g46,g47,g48,g49,g50,g51,g52,g53,g54,g55,g56,g57,g58,g59,g60,g61,g62,g63,g64,g65,g66,g67,g68,g69,g70,g71,g72,g73,g74,g75,g76] M K = (idxA Ax8 lx8 1 x9).bind fun a_1 => (M.intAt .i64 a_1.block a_1.off).bind fun x_2 => (x6).bind fun a_3 => (M.cell a_3.block (a_3.off + 1)).bind fun v_4 => (callVal Try.prog v_4 #[.int .i64 x10, .int .i64 x9]).bind fun q_6 => (floored call q_6.1 q_6.2 M).bind fun r_5 => (asI .i64 r_5.1).bind fun x_7 => (idxA Ax8 lx8 1 x9).bind fun a_8 => (r_5.2.put a_8.block a_8.off (.int .i64 (IntKind.i64.wrap (x_2 + (IntKind.i64.wrap (x11 * x_7)))))).bind fun M_9 => K #[g0,g1,g2,g3,g4,g5,.pointer x6,g7,.slice Ax8 lx8 cx8,.int .i64 x9,.int .i64 x10,.int .i64 x11,g12,g13,g14,g15,g16,g17,g18,g19,g20,g21,g22,g23,g24,g25,g26,g27,g28,g29,g30,g31,g32,g33,g34,g35,g36,g37,g38,g39,g40,g41,g42,g43,g44,g45,g46,g47,g48,g49,g50,g51,g52,.slice Ax8 lx8 cx8,.int .i64 x9,.pointer (some a_1),.int .i64 x_2,.int .i64 x11,.pointer (some ⟨a_3.block, a_3.off + 1, none⟩),v_4,.int .i64 x10,.int .i64 x9,.int .i64 x_7,.int .i64 (IntKind.i64.wrap (x11 * x_7)),.int .i64 (IntKind.i64.wrap (x_2 + (IntKind.i64.wrap (x11 * x_7)))),.pointer (some a_8),g66,g67,g68,g69,g70,g71,g72,g73,g74,g75,g76] M_9 := by kernel_rfl
theorem k33_59 : P33 [1,1,1,1,1,0,1,0,0,1,1,0,0,1,0,1,0,0,1,1,0,0,1,1,1] = .skip := by kernel_rfl
theorem k33_60 : P33 [1,1,1,1,1,0,1,0,0,1,1,0,0,1,0,1,0,0,1,0,1] = .exit 2 := by kernel_rfl
theorem k33_61 : P33 [1,1,1,1,1,0,1,0,0,1,1,0,0,1,1] = .region 16 (O33 [1,1,1,1,1,0,1,0,0,1,1,0,0,1,1]) false := by kernel_rfl
theorem r33_16 {Ax8 : Option Addr} {lx8 cx8 : Nat} {x9 : Int} {M : Mem} {call : CallM} {K : Array Value → Mem → R} :
    opsK Try.prog (fun _ => call) (O33 [1,1,1,1,1,0,1,0,0,1,1,0,0,1,1]) (O33 [1,1,1,1,1,0,1,0,0,1,1,0,0,1,1]).toList 0 #[g0,g1,g2,g3,g4,g5,g6,g7,.slice Ax8 lx8 cx8,.int .i64 x9,g10,g11,g12,g13,g14,g15,g16,g17,g18,g19,g20,g21,g22,g23,g24,g25,g26,g27,g28,g29,g30,g31,g32,g33,g34,g35,g36,g37,g38,g39,g40,g41,g42,g43,g44,g45,g46,g47,g48,g49,g50,g51,g52,g53,g54,g55,g56,g57,g58,g59,g60,g61,g62,g63,g64,g65,g66,g67,g68,g69,g70,g71,g72,g73,g74,g75,g76] M K = (idxA Ax8 lx8 1 x9).bind fun a_1 => (M.intAt .i64 a_1.block a_1.off).bind fun x_2 => (call 54 #[.int .i64 x_2] M).bind fun r_3 => (asI .i64 r_3.1).bind fun x_4 => (idxA Ax8 lx8 1 x9).bind fun a_5 => (r_3.2.put a_5.block a_5.off (.int .i64 x_4)).bind fun M_6 => K #[g0,g1,g2,g3,g4,g5,g6,g7,.slice Ax8 lx8 cx8,.int .i64 x9,g10,g11,g12,g13,g14,g15,g16,g17,g18,g19,g20,g21,g22,g23,g24,g25,g26,g27,g28,g29,g30,g31,g32,g33,g34,g35,g36,g37,g38,g39,g40,g41,g42,g43,g44,g45,g46,g47,g48,g49,g50,g51,g52,g53,g54,g55,g56,g57,g58,g59,g60,g61,g62,g63,g64,g65,g66,.slice Ax8 lx8 cx8,.int .i64 x9,.slice Ax8 lx8 cx8,.int .i64 x9,.pointer (some a_1),.int .i64 x_2,.int .i64 x_4,.pointer (some a_5),g75,g76] M_6 := by kernel_rfl
theorem k33_62 : P33 [1,1,1,1,1,0,1,0,0,1,1,1] = .region 17 (O33 [1,1,1,1,1,0,1,0,0,1,1,1]) false := by kernel_rfl
theorem r33_17 {x41 : Int} {M : Mem} {call : CallM} {K : Array Value → Mem → R} :
    opsK Try.prog (fun _ => call) (O33 [1,1,1,1,1,0,1,0,0,1,1,1]) (O33 [1,1,1,1,1,0,1,0,0,1,1,1]).toList 0 #[g0,g1,g2,g3,g4,g5,g6,g7,g8,g9,g10,g11,g12,g13,g14,g15,g16,g17,g18,g19,g20,g21,g22,g23,g24,g25,g26,g27,g28,g29,g30,g31,g32,g33,g34,g35,g36,g37,g38,g39,g40,.int .i64 x41,g42,g43,g44,g45,g46,g47,g48,g49,g50,g51,g52,g53,g54,g55,g56,g57,g58,g59,g60,g61,g62,g63,g64,g65,g66,g67,g68,g69,g70,g71,g72,g73,g74,g75,g76] M K = K #[g0,g1,g2,g3,g4,g5,g6,g7,g8,g9,g10,g11,g12,g13,g14,g15,g16,g17,g18,g19,g20,g21,g22,g23,g24,g25,g26,g27,g28,g29,g30,g31,g32,g33,g34,g35,g36,g37,g38,g39,g40,.int .i64 (IntKind.i64.wrap (x41 + 1)),g42,g43,g44,g45,g46,g47,g48,g49,g50,g51,g52,g53,g54,g55,g56,g57,g58,g59,g60,g61,g62,g63,g64,g65,g66,g67,g68,g69,g70,g71,g72,g73,g74,.int .i64 (IntKind.i64.wrap (x41 + 1)),g76] M := by kernel_rfl
theorem k33_63 : P33 [1,1,1,1,1,0,1,0,0,1,1,0,0,1,0,1,0,0,1,1,1] = .region 15 (O33 [1,1,1,1,1,0,1,0,0,1,1,0,0,1,0,1,0,0,1,1,1]) false := by kernel_rfl
theorem r33_15 {x46 : Int} {M : Mem} {call : CallM} {K : Array Value → Mem → R} :
    opsK Try.prog (fun _ => call) (O33 [1,1,1,1,1,0,1,0,0,1,1,0,0,1,0,1,0,0,1,1,1]) (O33 [1,1,1,1,1,0,1,0,0,1,1,0,0,1,0,1,0,0,1,1,1]).toList 0 #[g0,g1,g2,g3,g4,g5,g6,g7,g8,g9,g10,g11,g12,g13,g14,g15,g16,g17,g18,g19,g20,g21,g22,g23,g24,g25,g26,g27,g28,g29,g30,g31,g32,g33,g34,g35,g36,g37,g38,g39,g40,g41,g42,g43,g44,g45,.int .i64 x46,g47,g48,g49,g50,g51,g52,g53,g54,g55,g56,g57,g58,g59,g60,g61,g62,g63,g64,g65,g66,g67,g68,g69,g70,g71,g72,g73,g74,g75,g76] M K = K #[g0,g1,g2,g3,g4,g5,g6,g7,g8,g9,g10,g11,g12,g13,g14,g15,g16,g17,g18,g19,g20,g21,g22,g23,g24,g25,g26,g27,g28,g29,g30,g31,g32,g33,g34,g35,g36,g37,g38,g39,g40,g41,g42,g43,g44,g45,.int .i64 (IntKind.i64.wrap (x46 + 1)),g47,g48,g49,g50,g51,g52,g53,g54,g55,g56,g57,g58,g59,g60,g61,g62,g63,g64,g65,.int .i64 (IntKind.i64.wrap (x46 + 1)),g67,g68,g69,g70,g71,g72,g73,g74,g75,g76] M := by kernel_rfl
noncomputable def S33_1 : List Item := [.code (P33 [1,1,1,1,1,0,1,0,0]), .inLoop (P33 [1,1,1,1,1,0,1,0,0]), .inBlock 0, .code (P33 [1,1,1,1,1,1])]
def A33_1 (Ax1 : Option Addr) (lx1 cx1 : Nat) (x6 Ax8 : Option Addr) (lx8 cx8 : Nat) (x40 x41 : Int) (M : Mem) (Q : Value → Mem → Prop) : Prop := ∀ (g0 g2 g3 g4 g5 g7 g9 g10 g11 g12 g13 g14 g15 g16 g17 g18 g19 g20 g21 g22 g23 g24 g25 g26 g27 g28 g29 g30 g31 g32 g33 g34 g35 g36 g37 g38 g39 g42 g43 g44 g45 g46 g47 g48 g49 g50 g51 g52 g53 g54 g55 g56 g57 g58 g59 g60 g61 g62 g63 g64 g65 g66 g67 g68 g69 g70 g71 g72 g73 g74 g75 g76 : Value), Rn Try.prog Try.f33 S33_1 #[g0, .slice Ax1 lx1 cx1, g2, g3, g4, g5, .pointer x6, g7, .slice Ax8 lx8 cx8, g9, g10, g11, g12, g13, g14, g15, g16, g17, g18, g19, g20, g21, g22, g23, g24, g25, g26, g27, g28, g29, g30, g31, g32, g33, g34, g35, g36, g37, g38, g39, .int .i64 x40, .int .i64 x41, g42, g43, g44, g45, g46, g47, g48, g49, g50, g51, g52, g53, g54, g55, g56, g57, g58, g59, g60, g61, g62, g63, g64, g65, g66, g67, g68, g69, g70, g71, g72, g73, g74, g75, g76] M Q
noncomputable def S33_2 : List Item := [.code (P33 [1,1,1,1,1,0,1,0,0,1,1,0,0,1,0,1,0,0]), .inLoop (P33 [1,1,1,1,1,0,1,0,0,1,1,0,0,1,0,1,0,0]), .inBlock 2, .code (P33 [1,1,1,1,1,0,1,0,0,1,1,0,0,1,1]), .inBlock 1, .code (P33 [1,1,1,1,1,0,1,0,0,1,1,1]), .inLoop (P33 [1,1,1,1,1,0,1,0,0]), .inBlock 0, .code (P33 [1,1,1,1,1,1])]
def A33_2 (Ax1 : Option Addr) (lx1 cx1 : Nat) (x6 Ax8 : Option Addr) (lx8 cx8 : Nat) (x9 x40 x41 : Int) (Ax44 : Option Addr) (lx44 cx44 : Nat) (x45 x46 : Int) (M : Mem) (Q : Value → Mem → Prop) : Prop := ∀ (g0 g2 g3 g4 g5 g7 g10 g11 g12 g13 g14 g15 g16 g17 g18 g19 g20 g21 g22 g23 g24 g25 g26 g27 g28 g29 g30 g31 g32 g33 g34 g35 g36 g37 g38 g39 g42 g43 g47 g48 g49 g50 g51 g52 g53 g54 g55 g56 g57 g58 g59 g60 g61 g62 g63 g64 g65 g66 g67 g68 g69 g70 g71 g72 g73 g74 g75 g76 : Value), Rn Try.prog Try.f33 S33_2 #[g0, .slice Ax1 lx1 cx1, g2, g3, g4, g5, .pointer x6, g7, .slice Ax8 lx8 cx8, .int .i64 x9, g10, g11, g12, g13, g14, g15, g16, g17, g18, g19, g20, g21, g22, g23, g24, g25, g26, g27, g28, g29, g30, g31, g32, g33, g34, g35, g36, g37, g38, g39, .int .i64 x40, .int .i64 x41, g42, g43, .slice Ax44 lx44 cx44, .int .i64 x45, .int .i64 x46, g47, g48, g49, g50, g51, g52, g53, g54, g55, g56, g57, g58, g59, g60, g61, g62, g63, g64, g65, g66, g67, g68, g69, g70, g71, g72, g73, g74, g75, g76] M Q
noncomputable def S33_3 : List Item := [.code (P33 [1,1,1,1,1,0,1,0,0,1,1,0,0,1,0,1,0,0,1,1,1]), .inLoop (P33 [1,1,1,1,1,0,1,0,0,1,1,0,0,1,0,1,0,0]), .inBlock 2, .code (P33 [1,1,1,1,1,0,1,0,0,1,1,0,0,1,1]), .inBlock 1, .code (P33 [1,1,1,1,1,0,1,0,0,1,1,1]), .inLoop (P33 [1,1,1,1,1,0,1,0,0]), .inBlock 0, .code (P33 [1,1,1,1,1,1])]
def A33_3 (Ax1 : Option Addr) (lx1 cx1 : Nat) (x6 Ax8 : Option Addr) (lx8 cx8 : Nat) (x9 x40 x41 : Int) (Ax44 : Option Addr) (lx44 cx44 : Nat) (x45 x46 : Int) (M : Mem) (Q : Value → Mem → Prop) : Prop := ∀ (g0 g2 g3 g4 g5 g7 g10 g11 g12 g13 g14 g15 g16 g17 g18 g19 g20 g21 g22 g23 g24 g25 g26 g27 g28 g29 g30 g31 g32 g33 g34 g35 g36 g37 g38 g39 g42 g43 g47 g48 g49 g50 g51 g52 g53 g54 g55 g56 g57 g58 g59 g60 g61 g62 g63 g64 g65 g66 g67 g68 g69 g70 g71 g72 g73 g74 g75 g76 : Value), Rn Try.prog Try.f33 S33_3 #[g0, .slice Ax1 lx1 cx1, g2, g3, g4, g5, .pointer x6, g7, .slice Ax8 lx8 cx8, .int .i64 x9, g10, g11, g12, g13, g14, g15, g16, g17, g18, g19, g20, g21, g22, g23, g24, g25, g26, g27, g28, g29, g30, g31, g32, g33, g34, g35, g36, g37, g38, g39, .int .i64 x40, .int .i64 x41, g42, g43, .slice Ax44 lx44 cx44, .int .i64 x45, .int .i64 x46, g47, g48, g49, g50, g51, g52, g53, g54, g55, g56, g57, g58, g59, g60, g61, g62, g63, g64, g65, g66, g67, g68, g69, g70, g71, g72, g73, g74, g75, g76] M Q
theorem w33_0 {x0 : Int} {Ax1 : Option Addr} {lx1 cx1 : Nat} {M : Mem} {Q : Value → Mem → Prop} (H :
    Cn Try.prog 52 #[.int .i64 x0, .slice Ax1 lx1 cx1] M fun v1' N1' =>
     ∃ cs2', asU 2 v1' = some cs2' ∧
     ∃ cs3', asA 2 (cs2'.getD 0 undef) = some cs3' ∧
     ∃ x4', asI .i64 (cs3'.getD 0 undef) = some x4' ∧
     ∃ b5', asB (cs2'.getD 1 undef) = some b5' ∧
     ∃ M6', (N1'.new (.cells #[.int .i64 0, .nilFunc] 54)).put (2 * N1'.nb.size) 0 (.int .i64 x4') = some M6' ∧
     ∃ M7', M6'.put (2 * N1'.nb.size) 1 (cs3'.getD 1 undef) = some M7' ∧
     (((!b5') = true →
      Q (.tuple #[.slice none 0 0, .int .i64 2]) M7') ∧
      ((!b5') = false →
      ∃ v8', M7'.cell (2 * N1'.nb.size) (0 + 1) = some v8' ∧
      ∃ b9', fnilV Try.prog 33 v8' = some b9' ∧
      ((b9' = true →
       ∃ a10', idxA Ax1 lx1 1 0 = some a10' ∧
       ∃ x11', M7'.intAt .i64 a10'.block a10'.off = some x11' ∧
       ∃ a12', idxA Ax1 lx1 1 1 = some a12' ∧
       ∃ x13', M7'.intAt .i64 a12'.block a12'.off = some x13' ∧
       ∃ a14', idxA Ax1 lx1 1 2 = some a14' ∧
       ∃ x15', M7'.intAt .i64 a14'.block a14'.off = some x15' ∧
       ∃ a16', idxA Ax1 lx1 1 3 = some a16' ∧
       ∃ x17', M7'.intAt .i64 a16'.block a16'.off = some x17' ∧
       Cn Try.prog 53 #[.int .i64 x11', .int .i64 x13', .int .i64 x15', .int .i64 x17'] M7' fun v18' N18' =>
        ∃ s19', asS v18' = some s19' ∧
        Q (.tuple #[.slice s19'.1 (s19'.2.1) (s19'.2.2), .int .i64 0]) N18') ∧
       (b9' = false →
       ∃ r20', makeP Try.prog 22 (.int .i64 ((lx1 : Int))) (.int .i64 ((lx1 : Int))) M7' = some r20' ∧
       ∃ s21', asS r20'.1 = some s21' ∧
       A33_1 Ax1 lx1 cx1 (some ⟨2 * N1'.nb.size, 0, none⟩) s21'.1 s21'.2.1 s21'.2.2 (s21'.2.1 : Int) 0 r20'.2 Q))))) :
    Cn Try.prog 33 #[.int .i64 x0, .slice Ax1 lx1 cx1] M Q := by
  refine Cn.of b33 d33 t33 ?_
  refine Rn.seq k33_0 (Rn.region k33_1 (fun call K => r33_0) (Rch.leaf (Rn.seq k33_2 (Rn.region k33_3 (fun call K => r33_1) (Rch.call H fun v1' N1' H => Rch.ex H fun cs2' H => Rch.ex H fun cs3' H => Rch.ex H fun x4' H => Rch.ex H fun b5' H => Rch.ex H fun M6' H => Rch.ex H fun M7' H => ?_)))))
  refine Rch.leaf (Rn.seq k33_4 (Rn.seq k33_5 (Rn.region k33_6 (fun call K => r33_2) (Rch.leaf ?_))))
  refine Rn.cnd (v := !b5') ⟨c33_7, rfl, by kernel_rfl⟩ (fun h => ?_) (fun h => ?_)
  · replace H := H.1 (h)
    refine Rn.seq k33_8 (Rn.region k33_9 (fun call K => r33_3) (Rch.leaf ?_))
    exact Rn.ret k33_10 e33 H
  · replace H := H.2 (h)
    refine Rn.skip k33_12 (Rn.seq k33_13 (Rn.seq k33_14 (Rn.region k33_15 (fun call K => r33_4) (Rch.bind (x := ⟨2 * N1'.nb.size, 0, none⟩) rfl (Rch.ex H fun v8' H => Rch.ex H fun b9' H => Rch.leaf ?_)))))
    refine Rn.cnd (v := b9') ⟨c33_16, rfl, by kernel_rfl⟩ (fun h => ?_) (fun h => ?_)
    · replace H := H.1 (h)
      refine Rn.seq k33_17 (Rn.regionD k33_18 (fun call K => r33_5) (Rch.ex H fun a10' H => Rch.ex H fun x11' H => Rch.ex H fun a12' H => Rch.ex H fun x13' H => Rch.ex H fun a14' H => Rch.ex H fun x15' H => Rch.ex H fun a16' H => Rch.ex H fun x17' H => Rch.call H fun v18' N18' H => Rch.ex H fun s19' H => ?_))
      refine Rch.leaf ?_
      exact Rn.ret k33_19 e33 H
    · replace H := H.2 (h)
      refine Rn.skip k33_20 (Rn.seq k33_21 (Rn.region k33_22 (fun call K => r33_6) (Rch.ex H fun r20' H => Rch.ex H fun s21' H => Rch.leaf (Rn.seq k33_23 (Rn.seq k33_24 (Rn.region k33_25 (fun call K => r33_7) (Rch.leaf (Rn.block k33_26 (Rn.loop k33_27 ?_)))))))))
      exact H _ _ _ _ _ _ _ _ _ _ _ _ _ _ _ _ _ _ _ _ _ _ _ _ _ _ _ _ _ _ _ _ _ _ _ _ _ _ _ _ _ _ _ _ _ _ _ _ _ _ _ _ _ _ _ _ _ _ _ _ _ _ _ _ _ _ _ _ _ _ _ _

theorem w33_1 {Ax1 : Option Addr} {lx1 cx1 : Nat} {x6 Ax8 : Option Addr} {lx8 cx8 : Nat} {x40 x41 : Int} {M : Mem} {Q : Value → Mem → Prop} (H :
    ((x41 < x40 →
     A33_2 Ax1 lx1 cx1 x6 Ax8 lx8 cx8 x41 x40 x41 Ax1 lx1 cx1 (lx1 : Int) 0 M Q) ∧
     (¬ (x41 < x40) →
     Q (.tuple #[.slice Ax8 lx8 cx8, .int .i64 0]) M))) :
    A33_1 Ax1 lx1 cx1 x6 Ax8 lx8 cx8 x40 x41 M Q := by
  intro g0 g2 g3 g4 g5 g7 g9 g10 g11 g12 g13 g14 g15 g16 g17 g18 g19 g20 g21 g22 g23 g24 g25 g26 g27 g28 g29 g30 g31 g32 g33 g34 g35 g36 g37 g38 g39 g42 g43 g44 g45 g46 g47 g48 g49 g50 g51 g52 g53 g54 g55 g56 g57 g58 g59 g60 g61 g62 g63 g64 g65 g66 g67 g68 g69 g70 g71 g72 g73 g74 g75 g76
  refine Rn.seq k33_28 (Rn.region k33_29 (fun call K => r33_8) (Rch.leaf (Rn.seq k33_30 ?_)))
  refine Rn.cnd (v := decide (x41 < x40)) ⟨c33_31, rfl, by kernel_rfl⟩ (fun h => ?_) (fun h => ?_)
  · replace H := H.1 (of_decide_eq_true h)
    refine Rn.skip k33_32 (Rn.seq k33_33 (Rn.block k33_34 (Rn.seq k33_35 (Rn.region k33_36 (fun call K => r33_9) (Rch.leaf (Rn.seq k33_37 (Rn.seq k33_38 (Rn.region k33_39 (fun call K => r33_10) (Rch.leaf (Rn.block k33_40 (Rn.loop k33_41 ?_)))))))))))
    exact H _ _ _ _ _ _ _ _ _ _ _ _ _ _ _ _ _ _ _ _ _ _ _ _ _ _ _ _ _ _ _ _ _ _ _ _ _ _ _ _ _ _ _ _ _ _ _ _ _ _ _ _ _ _ _ _ _ _ _ _ _ _ _ _ _ _ _ _
  · replace H := H.2 (of_decide_eq_false h)
    refine Rn.exit k33_42 rfl (Rn.seq k33_43 (Rn.region k33_44 (fun call K => r33_18) (Rch.leaf ?_)))
    exact Rn.ret k33_45 e33 H

theorem w33_2 {Ax1 : Option Addr} {lx1 cx1 : Nat} {x6 Ax8 : Option Addr} {lx8 cx8 : Nat} {x9 x40 x41 : Int} {Ax44 : Option Addr} {lx44 cx44 : Nat} {x45 x46 : Int} {M : Mem} {Q : Value → Mem → Prop} (H :
    ((x46 < x45 →
     ∃ a22', idxA Ax44 lx44 1 x46 = some a22' ∧
     ∃ x23', M.intAt .i64 a22'.block a22'.off = some x23' ∧
     ((x23' ≠ 0 →
      ∃ a24', idxA Ax8 lx8 1 x9 = some a24' ∧
      ∃ x25', M.intAt .i64 a24'.block a24'.off = some x25' ∧
      ∃ a26', x6 = some a26' ∧
      ∃ v27', M.cell a26'.block (a26'.off + 1) = some v27' ∧
      ∃ q28', callVal Try.prog v27' #[.int .i64 x46, .int .i64 x9] = some q28' ∧
      Cn Try.prog q28'.1 q28'.2 { M with floor := M.nb.size } fun v29' N29' =>
       ∃ x30', asI .i64 v29' = some x30' ∧
       ∃ a31', idxA Ax8 lx8 1 x9 = some a31' ∧
       ∃ M32', { N29' with floor := M.floor }.put a31'.block a31'.off (.int .i64 (IntKind.i64.wrap (x25' + (IntKind.i64.wrap (x23' * x30'))))) = some M32' ∧
       A33_3 Ax1 lx1 cx1 x6 Ax8 lx8 cx8 x9 x40 x41 Ax44 lx44 cx44 x45 x46 M32' Q) ∧
      (x23' = 0 →
      A33_3 Ax1 lx1 cx1 x6 Ax8 lx8 cx8 x9 x40 x41 Ax44 lx44 cx44 x45 x46 M Q))) ∧
     (¬ (x46 < x45) →
     ∃ a33', idxA Ax8 lx8 1 x9 = some a33' ∧
     ∃ x34', M.intAt .i64 a33'.block a33'.off = some x34' ∧
     Cn Try.prog 54 #[.int .i64 x34'] M fun v35' N35' =>
      ∃ x36', asI .i64 v35' = some x36' ∧
      ∃ a37', idxA Ax8 lx8 1 x9 = some a37' ∧
      ∃ M38', N35'.put a37'.block a37'.off (.int .i64 x36') = some M38' ∧
      A33_1 Ax1 lx1 cx1 x6 Ax8 lx8 cx8 x40 (IntKind.i64.wrap (x41 + 1)) M38' Q))) :
    A33_2 Ax1 lx1 cx1 x6 Ax8 lx8 cx8 x9 x40 x41 Ax44 lx44 cx44 x45 x46 M Q := by
  intro g0 g2 g3 g4 g5 g7 g10 g11 g12 g13 g14 g15 g16 g17 g18 g19 g20 g21 g22 g23 g24 g25 g26 g27 g28 g29 g30 g31 g32 g33 g34 g35 g36 g37 g38 g39 g42 g43 g47 g48 g49 g50 g51 g52 g53 g54 g55 g56 g57 g58 g59 g60 g61 g62 g63 g64 g65 g66 g67 g68 g69 g70 g71 g72 g73 g74 g75 g76
  refine Rn.seq k33_46 (Rn.region k33_47 (fun call K => r33_11) (Rch.leaf (Rn.seq k33_48 ?_)))
  refine Rn.cnd (v := decide (x46 < x45)) ⟨c33_49, rfl, by kernel_rfl⟩ (fun h => ?_) (fun h => ?_)
  · replace H := H.1 (of_decide_eq_true h)
    refine Rn.skip k33_50 (Rn.seq k33_51 (Rn.block k33_52 (Rn.seq k33_53 (Rn.region k33_54 (fun call K => r33_12) (Rch.ex H fun a22' H => Rch.ex H fun x23' H => Rch.leaf (Rn.seq k33_55 (Rn.region k33_56 (fun call K => r33_13) (Rch.leaf ?_))))))))
    refine Rn.cnd (v := x23' != 0) ⟨c33_57, rfl, by kernel_rfl⟩ (fun h => ?_) (fun h => ?_)
    · replace H := H.1 (ne_of_bneT h)
      refine Rn.regionD k33_58 (fun call K => r33_14) (Rch.ex H fun a24' H => Rch.ex H fun x25' H => Rch.ex H fun a26' H => Rch.ex H fun v27' H => Rch.ex H fun q28' H => Rch.callF H fun v29' N29' H => Rch.ex H fun x30' H => Rch.ex H fun a31' H => Rch.ex H fun M32' H => Rch.leaf (Rn.blk ?_))
      exact H _ _ _ _ _ _ _ _ _ _ _ _ _ _ _ _ _ _ _ _ _ _ _ _ _ _ _ _ _ _ _ _ _ _ _ _ _ _ _ _ _ _ _ _ _ _ _ _ _ _ _ _ _ _ _ _ _ _ _ _ _ _ _ _ _ _ _ _
    · replace H := H.2 (eq_of_bneF h)
      refine Rn.skip k33_59 (Rn.blk ?_)
      exact H _ _ _ _ _ _ _ _ _ _ _ _ _ _ _ _ _ _ _ _ _ _ _ _ _ _ _ _ _ _ _ _ _ _ _ _ _ _ _ _ _ _ _ _ _ _ _ _ _ _ _ _ _ _ _ _ _ _ _ _ _ _ _ _ _ _ _ _
  · replace H := H.2 (of_decide_eq_false h)
    refine Rn.exit k33_60 rfl (Rn.region k33_61 (fun call K => r33_16) (Rch.ex H fun a33' H => Rch.ex H fun x34' H => Rch.call H fun v35' N35' H => Rch.ex H fun x36' H => Rch.ex H fun a37' H => Rch.ex H fun M38' H => Rch.leaf (Rn.blk (Rn.region k33_62 (fun call K => r33_17) (Rch.leaf ?_)))))
    refine Rn.lp ?_
    exact H _ _ _ _ _ _ _ _ _ _ _ _ _ _ _ _ _ _ _ _ _ _ _ _ _ _ _ _ _ _ _ _ _ _ _ _ _ _ _ _ _ _ _ _ _ _ _ _ _ _ _ _ _ _ _ _ _ _ _ _ _ _ _ _ _ _ _ _ _ _ _ _

theorem w33_3 {Ax1 : Option Addr} {lx1 cx1 : Nat} {x6 Ax8 : Option Addr} {lx8 cx8 : Nat} {x9 x40 x41 : Int} {Ax44 : Option Addr} {lx44 cx44 : Nat} {x45 x46 : Int} {M : Mem} {Q : Value → Mem → Prop} (H :
    A33_2 Ax1 lx1 cx1 x6 Ax8 lx8 cx8 x9 x40 x41 Ax44 lx44 cx44 x45 (IntKind.i64.wrap (x46 + 1)) M Q) :
    A33_3 Ax1 lx1 cx1 x6 Ax8 lx8 cx8 x9 x40 x41 Ax44 lx44 cx44 x45 x46 M Q := by
  intro g0 g2 g3 g4 g5 g7 g10 g11 g12 g13 g14 g15 g16 g17 g18 g19 g20 g21 g22 g23 g24 g25 g26 g27 g28 g29 g30 g31 g32 g33 g34 g35 g36 g37 g38 g39 g42 g43 g47 g48 g49 g50 g51 g52 g53 g54 g55 g56 g57 g58 g59 g60 g61 g62 g63 g64 g65 g66 g67 g68 g69 g70 g71 g72 g73 g74 g75 g76
  refine Rn.region k33_63 (fun call K => r33_15) (Rch.leaf (Rn.lp ?_))
  exact H _ _ _ _ _ _ _ _ _ _ _ _ _ _ _ _ _ _ _ _ _ _ _ _ _ _ _ _ _ _ _ _ _ _ _ _ _ _ _ _ _ _ _ _ _ _ _ _ _ _ _ _ _ _ _ _ _ _ _ _ _ _ _ _ _ _ _ _


/-! ### zoetrope/zoetroperef00.EqInts: function 19 -/
noncomputable abbrev P19 (p : List Nat) : Code := subC (codeOf Try.f19) p
noncomputable abbrev O19 (p : List Nat) : Array Oper := opsOf (subC (codeOf Try.f19) p)
theorem b19 : Try.prog.funcs[19]? = some Try.f19 ∧ (Orc.tab Try.prog).lookup 19 = none := ⟨by kernel_rfl, by kernel_rfl⟩
theorem d19 : Try.f19.body = some (P19 []) := by kernel_rfl
theorem t19 {Ax0 : Option Addr} {lx0 cx0 : Nat} {Ax1 : Option Addr} {lx1 cx1 : Nat} : #[.slice Ax0 lx0 cx0,.slice Ax1 lx1 cx1] ++ Array.replicate (Try.f19.ntmps - (#[.slice Ax0 lx0 cx0,.slice Ax1 lx1 cx1] : Array Value).size) undef = #[.slice Ax0 lx0 cx0,.slice Ax1 lx1 cx1,undef,undef,undef,undef,undef,undef,undef,undef,undef,undef,undef,undef,undef,undef,undef,undef,undef,undef,undef,undef,undef,undef,undef,undef] := by kernel_rfl
theorem k19_0 : P19 [] = .seq (P19 [0]) (P19 [1]) := by kernel_rfl
theorem k19_1 : P19 [0] = .region 0 (O19 [0]) false := by kernel_rfl
theorem r19_0 {M : Mem} {call : CallM} {K : Array Value → Mem → R} :
    opsK Try.prog (fun _ => call) (O19 [0]) (O19 [0]).toList 0 #[g0,g1,g2,g3,g4,g5,g6,g7,g8,g9,g10,g11,g12,g13,g14,g15,g16,g17,g18,g19,g20,g21,g22,g23,g24,g25] M K = K #[g0,g1,g2,g3,.bool false,g5,g6,g7,g8,g9,g10,g11,g12,g13,g14,g15,g16,g17,g18,g19,g20,g21,g22,g23,g24,g25] M := by kernel_rfl
theorem k19_2 : P19 [1] = .seq (P19 [1,0]) (P19 [1,1]) := by kernel_rfl
theorem k19_3 : P19 [1,0] = .seq (P19 [1,0,0]) (P19 [1,0,1]) := by kernel_rfl
theorem k19_4 : P19 [1,0,0] = .region 1 (O19 [1,0,0]) false := by kernel_rfl
theorem r19_1 {Ax0 : Option Addr} {lx0 cx0 : Nat} {Ax1 : Option Addr} {lx1 cx1 : Nat} {M : Mem} {call : CallM} {K : Array Value → Mem → R} :
    opsK Try.prog (fun _ => call) (O19 [1,0,0]) (O19 [1,0,0]).toList 0 #[.slice Ax0 lx0 cx0,.slice Ax1 lx1 cx1,g2,g3,g4,g5,g6,g7,g8,g9,g10,g11,g12,g13,g14,g15,g16,g17,g18,g19,g20,g21,g22,g23,g24,g25] M K = K #[.slice Ax0 lx0 cx0,.slice Ax1 lx1 cx1,g2,g3,g4,g5,.slice Ax0 lx0 cx0,.int .i64 ((lx0 : Int)),.slice Ax1 lx1 cx1,.int .i64 ((lx1 : Int)),.bool (((lx0 : Int)) != ((lx1 : Int))),g11,g12,g13,g14,g15,g16,g17,g18,g19,g20,g21,g22,g23,g24,g25] M := by kernel_rfl
theorem c19_5 : P19 [1,0,1] = .cond (.tmp 10) (P19 [1,0,1,0]) (P19 [1,0,1,1]) := by kernel_rfl
theorem k19_6 : P19 [1,0,1,0] = .seq (P19 [1,0,1,0,0]) (P19 [1,0,1,0,1]) := by kernel_rfl
theorem k19_7 : P19 [1,0,1,0,0] = .region 2 (O19 [1,0,1,0,0]) false := by kernel_rfl
theorem r19_2 {M : Mem} {call : CallM} {K : Array Value → Mem → R} :
    opsK Try.prog (fun _ => call) (O19 [1,0,1,0,0]) (O19 [1,0,1,0,0]).toList 0 #[g0,g1,g2,g3,g4,g5,g6,g7,g8,g9,g10,g11,g12,g13,g14,g15,g16,g17,g18,g19,g20,g21,g22,g23,g24,g25] M K = K #[g0,g1,g2,g3,.bool false,g5,g6,g7,g8,g9,g10,g11,g12,g13,g14,g15,g16,g17,g18,g19,g20,g21,g22,g23,g24,g25] M := by kernel_rfl
theorem k19_8 : P19 [1,0,1,0,1] = .ret := by kernel_rfl
theorem e19 {M : Mem} : finish Try.prog Try.f19 #[g0,g1,g2,g3,g4,g5,g6,g7,g8,g9,g10,g11,g12,g13,g14,g15,g16,g17,g18,g19,g20,g21,g22,g23,g24,g25] M = some (g4, M) := by kernel_rfl
theorem k19_10 : P19 [1,0,1,1] = .skip := by kernel_rfl
theorem k19_11 : P19 [1,1] = .seq (P19 [1,1,0]) (P19 [1,1,1]) := by kernel_rfl
theorem k19_12 : P19 [1,1,0] = .seq (P19 [1,1,0,0]) (P19 [1,1,0,1]) := by kernel_rfl
theorem k19_13 : P19 [1,1,0,0] = .region 3 (O19 [1,1,0,0]) false := by kernel_rfl
theorem r19_3 {M : Mem} {call : CallM} {K : Array Value → Mem → R} :
    opsK Try.prog (fun _ => call) (O19 [1,1,0,0]) (O19 [1,1,0,0]).toList 0 #[g0,g1,g2,g3,g4,g5,g6,g7,g8,g9,g10,g11,g12,g13,g14,g15,g16,g17,g18,g19,g20,g21,g22,g23,g24,g25] M K = K #[g0,g1,g2,g3,g4,.int .i64 0,g6,g7,g8,g9,g10,g11,g12,g13,g14,g15,g16,g17,g18,g19,g20,g21,g22,g23,g24,g25] M := by kernel_rfl
theorem k19_14 : P19 [1,1,0,1] = .block 0 (P19 [1,1,0,1,0]) := by kernel_rfl
theorem k19_15 : P19 [1,1,0,1,0] = .loop (P19 [1,1,0,1,0,0]) := by kernel_rfl
theorem k19_16 : P19 [1,1,0,1,0,0] = .seq (P19 [1,1,0,1,0,0,0]) (P19 [1,1,0,1,0,0,1]) := by kernel_rfl
theorem k19_17 : P19 [1,1,0,1,0,0,0] = .seq (P19 [1,1,0,1,0,0,0,0]) (P19 [1,1,0,1,0,0,0,1]) := by kernel_rfl
theorem k19_18 : P19 [1,1,0,1,0,0,0,0] = .region 4 (O19 [1,1,0,1,0,0,0,0]) false := by kernel_rfl
theorem r19_4 {Ax0 : Option Addr} {lx0 cx0 : Nat} {x5 : Int} {M : Mem} {call : CallM} {K : Array Value → Mem → R} :
    opsK Try.prog (fun _ => call) (O19 [1,1,0,1,0,0,0,0]) (O19 [1,1,0,1,0,0,0,0]).toList 0 #[.slice Ax0 lx0 cx0,g1,g2,g3,g4,.int .i64 x5,g6,g7,g8,g9,g10,g11,g12,g13,g14,g15,g16,g17,g18,g19,g20,g21,g22,g23,g24,g25] M K = K #[.slice Ax0 lx0 cx0,g1,g2,g3,g4,.int .i64 x5,g6,g7,g8,g9,g10,.int .i64 x5,.slice Ax0 lx0 cx0,.int .i64 ((lx0 : Int)),.bool (decide (x5 < ((lx0 : Int)))),g15,g16,g17,g18,g19,g20,g21,g22,g23,g24,g25] M := by kernel_rfl
theorem c19_19 : P19 [1,1,0,1,0,0,0,1] = .cond (.tmp 14) (P19 [1,1,0,1,0,0,0,1,0]) (P19 [1,1,0,1,0,0,0,1,1]) := by kernel_rfl
theorem k19_20 : P19 [1,1,0,1,0,0,0,1,0] = .skip := by kernel_rfl
theorem k19_21 : P19 [1,1,0,1,0,0,1] = .seq (P19 [1,1,0,1,0,0,1,0]) (P19 [1,1,0,1,0,0,1,1]) := by kernel_rfl
theorem k19_22 : P19 [1,1,0,1,0,0,1,0] = .block 1 (P19 [1,1,0,1,0,0,1,0,0]) := by kernel_rfl
theorem k19_23 : P19 [1,1,0,1,0,0,1,0,0] = .seq (P19 [1,1,0,1,0,0,1,0,0,0]) (P19 [1,1,0,1,0,0,1,0,0,1]) := by kernel_rfl
theorem k19_24 : P19 [1,1,0,1,0,0,1,0,0,0] = .region 6 (O19 [1,1,0,1,0,0,1,0,0,0]) true ∧ drawOk (O19 [1,1,0,1,0,0,1,0,0,0]) = true := ⟨by kernel_rfl, by kernel_rfl⟩
theorem r19_6 {Ax0 : Option Addr} {lx0 cx0 : Nat} {Ax1 : Option Addr} {lx1 cx1 : Nat} {x5 : Int} {M : Mem} {call : CallM} {K : Array Value → Mem → R} :
    opsI Try.prog (callAt call (O19 [1,1,0,1,0,0,1,0,0,0])) (O19 [1,1,0,1,0,0,1,0,0,0]) (ordOf (O19 [1,1,0,1,0,0,1,0,0,0])) [] #[.slice Ax0 lx0 cx0,.slice Ax1 lx1 cx1,g2,g3,g4,.int .i64 x5,g6,g7,g8,g9,g10,g11,g12,g13,g14,g15,g16,g17,g18,g19,g20,g21,g22,g23,g24,g25] M K = (idxA Ax0 lx0 1 x5).bind fun a_1 => (M.intAt .i64 a_1.block a_1.off).bind fun x_2 => (idxA Ax1 lx1 1 x5).bind fun a_3 => (M.intAt .i64 a_3.block a_3.off).bind fun x_4 => K #[.slice Ax0 lx0 cx0,.slice Ax1 lx1 cx1,g2,g3,g4,.int .i64 x5,g6,g7,g8,g9,g10,g11,g12,g13,g14,g15,g16,.slice Ax0 lx0 cx0,.int .i64 x5,.pointer (some a_1),.int .i64 x_2,.slice Ax1 lx1 cx1,.int .i64 x5,.pointer (some a_3),.int .i64 x_4,.bool (x_2 != x_4)] M := by kernel_rfl
theorem c19_25 : P19 [1,1,0,1,0,0,1,0,0,1] = .cond (.tmp 25) (P19 [1,1,0,1,0,0,1,0,0,1,0]) (P19 [1,1,0,1,0,0,1,0,0,1,1]) := by kernel_rfl
theorem k19_26 : P19 [1,1,0,1,0,0,1,0,0,1,0] = .seq (P19 [1,1,0,1,0,0,1,0,0,1,0,0]) (P19 [1,1,0,1,0,0,1,0,0,1,0,1]) := by kernel_rfl
theorem k19_27 : P19 [1,1,0,1,0,0,1,0,0,1,0,0] = .region 7 (O19 [1,1,0,1,0,0,1,0,0,1,0,0]) false := by kernel_rfl
theorem r19_7 {M : Mem} {call : CallM} {K : Array Value → Mem → R} :
    opsK Try.prog (fun _ => call) (O19 [1,1,0,1,0,0,1,0,0,1,0,0]) (O19 [1,1,0,1,0,0,1,0,0,1,0,0]).toList 0 #[g0,g1,g2,g3,g4,g5,g6,g7,g8,g9,g10,g11,g12,g13,g14,g15,g16,g17,g18,g19,g20,g21,g22,g23,g24,g25] M K = K #[g0,g1,g2,g3,.bool false,g5,g6,g7,g8,g9,g10,g11,g12,g13,g14,g15,g16,g17,g18,g19,g20,g21,g22,g23,g24,g25] M := by kernel_rfl
theorem k19_28 : P19 [1,1,0,1,0,0,1,0,0,1,0,1] = .ret := by kernel_rfl
theorem k19_29 : P19 [1,1,0,1,0,0,1,0,0,1,1] = .skip := by kernel_rfl
theorem k19_30 : P19 [1,1,0,1,0,0,1,1] = .region 5 (O19 [1,1,0,1,0,0,1,1]) false := by kernel_rfl
theorem r19_5 {x5 : Int} {M : Mem} {call : CallM} {K : Array Value → Mem → R} :
    opsK Try.prog (fun _ => call) (O19 [1,1,0,1,0,0,1,1]) (O19 [1,1,0,1,0,0,1,1]).toList 0 #[g0,g1,g2,g3,g4,.int .i64 x5,g6,g7,g8,g9,g10,g11,g12,g13,g14,g15,g16,g17,g18,g19,g20,g21,g22,g23,g24,g25] M K = K #[g0,g1,g2,g3,g4,.int .i64 (IntKind.i64.wrap (x5 + 1)),g6,g7,g8,g9,g10,g11,g12,g13,g14,.int .i64 x5,.int .i64 (IntKind.i64.wrap (x5 + 1)),g17,g18,g19,g20,g21,g22,g23,g24,g25] M := by kernel_rfl
theorem k19_31 : P19 [1,1,0,1,0,0,0,1,1] = .exit 0 := by kernel_rfl
theorem k19_32 : P19 [1,1,1] = .seq (P19 [1,1,1,0]) (P19 [1,1,1,1]) := by kernel_rfl
theorem k19_33 : P19 [1,1,1,0] = .region 8 (O19 [1,1,1,0]) false := by kernel_rfl
theorem r19_8 {M : Mem} {call : CallM} {K : Array Value → Mem → R} :
    opsK Try.prog (fun _ => call) (O19 [1,1,1,0]) (O19 [1,1,1,0]).toList 0 #[g0,g1,g2,g3,g4,g5,g6,g7,g8,g9,g10,g11,g12,g13,g14,g15,g16,g17,g18,g19,g20,g21,g22,g23,g24,g25] M K = K #[g0,g1,g2,g3,.bool true,g5,g6,g7,g8,g9,g10,g11,g12,g13,g14,g15,g16,g17,g18,g19,g20,g21,g22,g23,g24,g25] M := by kernel_rfl
theorem k19_34 : P19 [1,1,1,1] = .ret := by kernel_rfl
noncomputable def S19_1 : List Item := [.code (P19 [1,1,0,1,0,0]), .inLoop (P19 [1,1,0,1,0,0]), .inBlock 0, .code (P19 [1,1,1])]
def A19_1 (Ax0 : Option Addr) (lx0 cx0 : Nat) (Ax1 : Option Addr) (lx1 cx1 : Nat) (x5 : Int) (M : Mem) (Q : Value → Mem → Prop) : Prop := ∀ (g2 g3 g4 g6 g7 g8 g9 g10 g11 g12 g13 g14 g15 g16 g17 g18 g19 g20 g21 g22 g23 g24 g25 : Value), Rn Try.prog Try.f19 S19_1 #[.slice Ax0 lx0 cx0, .slice Ax1 lx1 cx1, g2, g3, g4, .int .i64 x5, g6, g7, g8, g9, g10, g11, g12, g13, g14, g15, g16, g17, g18, g19, g20, g21, g22, g23, g24, g25] M Q
theorem w19_0 {Ax0 : Option Addr} {lx0 cx0 : Nat} {Ax1 : Option Addr} {lx1 cx1 : Nat} {M : Mem} {Q : Value → Mem → Prop} (H :
    ((((lx0 : Int)) ≠ ((lx1 : Int)) →
     Q (.bool false) M) ∧
     (((lx0 : Int)) = ((lx1 : Int)) →
     A19_1 Ax0 lx0 cx0 Ax1 lx1 cx1 0 M Q))) :
    Cn Try.prog 19 #[.slice Ax0 lx0 cx0, .slice Ax1 lx1 cx1] M Q := by
  refine Cn.of b19 d19 t19 ?_
  refine Rn.seq k19_0 (Rn.region k19_1 (fun call K => r19_0) (Rch.leaf (Rn.seq k19_2 (Rn.seq k19_3 (Rn.region k19_4 (fun call K => r19_1) (Rch.leaf ?_))))))
  refine Rn.cnd (v := ((lx0 : Int)) != ((lx1 : Int))) ⟨c19_5, rfl, by kernel_rfl⟩ (fun h => ?_) (fun h => ?_)
  · replace H := H.1 (ne_of_bneT h)
    refine Rn.seq k19_6 (Rn.region k19_7 (fun call K => r19_2) (Rch.leaf ?_))
    exact Rn.ret k19_8 e19 H
  · replace H := H.2 (eq_of_bneF h)
    refine Rn.skip k19_10 (Rn.seq k19_11 (Rn.seq k19_12 (Rn.region k19_13 (fun call K => r19_3) (Rch.leaf (Rn.block k19_14 (Rn.loop k19_15 ?_))))))
    exact H _ _ _ _ _ _ _ _ _ _ _ _ _ _ _ _ _ _ _ _ _ _ _

theorem w19_1 {Ax0 : Option Addr} {lx0 cx0 : Nat} {Ax1 : Option Addr} {lx1 cx1 : Nat} {x5 : Int} {M : Mem} {Q : Value → Mem → Prop} (H :
    ((x5 < ((lx0 : Int)) →
     ∃ a1', idxA Ax0 lx0 1 x5 = some a1' ∧
     ∃ x2', M.intAt .i64 a1'.block a1'.off = some x2' ∧
     ∃ a3', idxA Ax1 lx1 1 x5 = some a3' ∧
     ∃ x4', M.intAt .i64 a3'.block a3'.off = some x4' ∧
     ((x2' ≠ x4' →
      Q (.bool false) M) ∧
      (x2' = x4' →
      A19_1 Ax0 lx0 cx0 Ax1 lx1 cx1 (IntKind.i64.wrap (x5 + 1)) M Q))) ∧
     (¬ (x5 < ((lx0 : Int))) →
     Q (.bool true) M))) :
    A19_1 Ax0 lx0 cx0 Ax1 lx1 cx1 x5 M Q := by
  intro g2 g3 g4 g6 g7 g8 g9 g10 g11 g12 g13 g14 g15 g16 g17 g18 g19 g20 g21 g22 g23 g24 g25
  refine Rn.seq k19_16 (Rn.seq k19_17 (Rn.region k19_18 (fun call K => r19_4) (Rch.leaf ?_)))
  refine Rn.cnd (v := decide (x5 < ((lx0 : Int)))) ⟨c19_19, rfl, by kernel_rfl⟩ (fun h => ?_) (fun h => ?_)
  · replace H := H.1 (of_decide_eq_true h)
    refine Rn.skip k19_20 (Rn.seq k19_21 (Rn.block k19_22 (Rn.seq k19_23 (Rn.regionD k19_24 (fun call K => r19_6) (Rch.ex H fun a1' H => Rch.ex H fun x2' H => Rch.ex H fun a3' H => Rch.ex H fun x4' H => Rch.leaf ?_)))))
    refine Rn.cnd (v := x2' != x4') ⟨c19_25, rfl, by kernel_rfl⟩ (fun h => ?_) (fun h => ?_)
    · replace H := H.1 (ne_of_bneT h)
      refine Rn.seq k19_26 (Rn.region k19_27 (fun call K => r19_7) (Rch.leaf ?_))
      exact Rn.ret k19_28 e19 H
    · replace H := H.2 (eq_of_bneF h)
      refine Rn.skip k19_29 (Rn.blk (Rn.region k19_30 (fun call K => r19_5) (Rch.leaf (Rn.lp ?_))))
      exact H _ _ _ _ _ _ _ _ _ _ _ _ _ _ _ _ _ _ _ _ _ _ _
  · replace H := H.2 (of_decide_eq_false h)
    refine Rn.exit k19_31 rfl (Rn.seq k19_32 (Rn.region k19_33 (fun call K => r19_8) (Rch.leaf ?_)))
    exact Rn.ret k19_34 e19 H


/-! ### zoetrope/zoetroperef00.Abs: function 22 -/
noncomputable abbrev P22 (p : List Nat) : Code := subC (codeOf Try.f22) p
noncomputable abbrev O22 (p : List Nat) : Array Oper := opsOf (subC (codeOf Try.f22) p)
theorem b22 : Try.prog.funcs[22]? = some Try.f22 ∧ (Orc.tab Try.prog).lookup 22 = none := ⟨by kernel_rfl, by kernel_rfl⟩
theorem d22 : Try.f22.body = some (P22 []) := by kernel_rfl
theorem t22 {x0 : Int} : #[.int .i64 x0] ++ Array.replicate (Try.f22.ntmps - (#[.int .i64 x0] : Array Value).size) undef = #[.int .i64 x0,undef,undef,undef,undef,undef,undef,undef] := by kernel_rfl
theorem k22_0 : P22 [] = .seq (P22 [0]) (P22 [1]) := by kernel_rfl
theorem k22_1 : P22 [0] = .region 0 (O22 [0]) false := by kernel_rfl
theorem r22_0 {M : Mem} {call : CallM} {K : Array Value → Mem → R} :
    opsK Try.prog (fun _ => call) (O22 [0]) (O22 [0]).toList 0 #[g0,g1,g2,g3,g4,g5,g6,g7] M K = K #[g0,g1,.int .i64 0,g3,g4,g5,g6,g7] M := by kernel_rfl
theorem k22_2 : P22 [1] = .seq (P22 [1,0]) (P22 [1,1]) := by kernel_rfl
theorem k22_3 : P22 [1,0] = .seq (P22 [1,0,0]) (P22 [1,0,1]) := by kernel_rfl
theorem k22_4 : P22 [1,0,0] = .region 1 (O22 [1,0,0]) false := by kernel_rfl
theorem r22_1 {x0 : Int} {M : Mem} {call : CallM} {K : Array Value → Mem → R} :
    opsK Try.prog (fun _ => call) (O22 [1,0,0]) (O22 [1,0,0]).toList 0 #[.int .i64 x0,g1,g2,g3,g4,g5,g6,g7] M K = K #[.int .i64 x0,g1,g2,.int .i64 x0,.bool (decide (x0 < 0)),g5,g6,g7] M := by kernel_rfl
theorem c22_5 : P22 [1,0,1] = .cond (.tmp 4) (P22 [1,0,1,0]) (P22 [1,0,1,1]) := by kernel_rfl
theorem k22_6 : P22 [1,0,1,0] = .seq (P22 [1,0,1,0,0]) (P22 [1,0,1,0,1]) := by kernel_rfl
theorem k22_7 : P22 [1,0,1,0,0] = .region 2 (O22 [1,0,1,0,0]) false := by kernel_rfl
theorem r22_2 {x0 : Int} {M : Mem} {call : CallM} {K : Array Value → Mem → R} :
    opsK Try.prog (fun _ => call) (O22 [1,0,1,0,0]) (O22 [1,0,1,0,0]).toList 0 #[.int .i64 x0,g1,g2,g3,g4,g5,g6,g7] M K = K #[.int .i64 x0,g1,.int .i64 (IntKind.i64.wrap (0 - x0)),g3,g4,.int .i64 x0,.int .i64 (IntKind.i64.wrap (0 - x0)),g7] M := by kernel_rfl
theorem k22_8 : P22 [1,0,1,0,1] = .ret := by kernel_rfl
theorem e22 {M : Mem} : finish Try.prog Try.f22 #[g0,g1,g2,g3,g4,g5,g6,g7] M = some (g2, M) := by kernel_rfl
theorem k22_10 : P22 [1,0,1,1] = .skip := by kernel_rfl
theorem k22_11 : P22 [1,1] = .seq (P22 [1,1,0]) (P22 [1,1,1]) := by kernel_rfl
theorem k22_12 : P22 [1,1,0] = .region 3 (O22 [1,1,0]) false := by kernel_rfl
theorem r22_3 {x0 : Int} {M : Mem} {call : CallM} {K : Array Value → Mem → R} :
    opsK Try.prog (fun _ => call) (O22 [1,1,0]) (O22 [1,1,0]).toList 0 #[.int .i64 x0,g1,g2,g3,g4,g5,g6,g7] M K = K #[.int .i64 x0,g1,.int .i64 x0,g3,g4,g5,g6,.int .i64 x0] M := by kernel_rfl
theorem k22_13 : P22 [1,1,1] = .ret := by kernel_rfl
theorem w22_0 {x0 : Int} {M : Mem} {Q : Value → Mem → Prop} (H :
    ((x0 < 0 →
     Q (.int .i64 (IntKind.i64.wrap (0 - x0))) M) ∧
     (¬ (x0 < 0) →
     Q (.int .i64 x0) M))) :
    Cn Try.prog 22 #[.int .i64 x0] M Q := by
  refine Cn.of b22 d22 t22 ?_
  refine Rn.seq k22_0 (Rn.region k22_1 (fun call K => r22_0) (Rch.leaf (Rn.seq k22_2 (Rn.seq k22_3 (Rn.region k22_4 (fun call K => r22_1) (Rch.leaf ?_))))))
  refine Rn.cnd (v := decide (x0 < 0)) ⟨c22_5, rfl, by kernel_rfl⟩ (fun h => ?_) (fun h => ?_)
  · replace H := H.1 (of_decide_eq_true h)
    refine Rn.seq k22_6 (Rn.region k22_7 (fun call K => r22_2) (Rch.leaf ?_))
    exact Rn.ret k22_8 e22 H
  · replace H := H.2 (of_decide_eq_false h)
    refine Rn.skip k22_10 (Rn.seq k22_11 (Rn.region k22_12 (fun call K => r22_3) (Rch.leaf ?_)))
    exact Rn.ret k22_13 e22 H


/-! ### zoetrope/zoetroperef00.Bring: function 20 -/
noncomputable abbrev P20 (p : List Nat) : Code := subC (codeOf Try.f20) p
noncomputable abbrev O20 (p : List Nat) : Array Oper := opsOf (subC (codeOf Try.f20) p)
theorem b20 : Try.prog.funcs[20]? = some Try.f20 ∧ (Orc.tab Try.prog).lookup 20 = none := ⟨by kernel_rfl, by kernel_rfl⟩
theorem d20 : Try.f20.body = some (P20 []) := by kernel_rfl
theorem t20 {x0 x1 : Int} : #[.int .i64 x0,.int .i64 x1] ++ Array.replicate (Try.f20.ntmps - (#[.int .i64 x0,.int .i64 x1] : Array Value).size) undef = #[.int .i64 x0,.int .i64 x1,undef,undef,undef,undef,undef,undef,undef,undef,undef,undef,undef,undef,undef,undef] := by kernel_rfl
theorem k20_0 : P20 [] = .seq (P20 [0]) (P20 [1]) := by kernel_rfl
theorem k20_1 : P20 [0] = .region 0 (O20 [0]) false := by kernel_rfl
theorem r20_0 {M : Mem} {call : CallM} {K : Array Value → Mem → R} :
    opsK Try.prog (fun _ => call) (O20 [0]) (O20 [0]).toList 0 #[g0,g1,g2,g3,g4,g5,g6,g7,g8,g9,g10,g11,g12,g13,g14,g15] M K = K #[g0,g1,g2,g3,.int .i64 0,g5,g6,g7,g8,g9,g10,g11,g12,g13,g14,g15] M := by kernel_rfl
theorem k20_2 : P20 [1] = .seq (P20 [1,0]) (P20 [1,1]) := by kernel_rfl
theorem k20_3 : P20 [1,0] = .seq (P20 [1,0,0]) (P20 [1,0,1]) := by kernel_rfl
theorem k20_4 : P20 [1,0,0] = .region 1 (O20 [1,0,0]) false := by kernel_rfl
theorem r20_1 {x1 : Int} {M : Mem} {call : CallM} {K : Array Value → Mem → R} :
    opsK Try.prog (fun _ => call) (O20 [1,0,0]) (O20 [1,0,0]).toList 0 #[g0,.int .i64 x1,g2,g3,g4,g5,g6,g7,g8,g9,g10,g11,g12,g13,g14,g15] M K = K #[g0,.int .i64 x1,g2,g3,g4,.int .i64 x1,.bool (decide (x1 ≤ 0)),g7,g8,g9,g10,g11,g12,g13,g14,g15] M := by kernel_rfl
theorem c20_5 : P20 [1,0,1] = .cond (.tmp 6) (P20 [1,0,1,0]) (P20 [1,0,1,1]) := by kernel_rfl
theorem k20_6 : P20 [1,0,1,0] = .seq (P20 [1,0,1,0,0]) (P20 [1,0,1,0,1]) := by kernel_rfl
theorem k20_7 : P20 [1,0,1,0,0] = .region 2 (O20 [1,0,1,0,0]) false := by kernel_rfl
theorem r20_2 {M : Mem} {call : CallM} {K : Array Value → Mem → R} :
    opsK Try.prog (fun _ => call) (O20 [1,0,1,0,0]) (O20 [1,0,1,0,0]).toList 0 #[g0,g1,g2,g3,g4,g5,g6,g7,g8,g9,g10,g11,g12,g13,g14,g15] M K = K #[g0,g1,g2,g3,.int .i64 0,g5,g6,g7,g8,g9,g10,g11,g12,g13,g14,g15] M := by kernel_rfl
theorem k20_8 : P20 [1,0,1,0,1] = .ret := by kernel_rfl
theorem e20 {M : Mem} : finish Try.prog Try.f20 #[g0,g1,g2,g3,g4,g5,g6,g7,g8,g9,g10,g11,g12,g13,g14,g15] M = some (g4, M) := by kernel_rfl
theorem k20_10 : P20 [1,0,1,1] = .skip := by kernel_rfl
theorem k20_11 : P20 [1,1] = .seq (P20 [1,1,0]) (P20 [1,1,1]) := by kernel_rfl
theorem k20_12 : P20 [1,1,0] = .region 3 (O20 [1,1,0]) false := by kernel_rfl
theorem r20_3 {x0 x1 : Int} {M : Mem} {call : CallM} {K : Array Value → Mem → R} :
    opsK Try.prog (fun _ => call) (O20 [1,1,0]) (O20 [1,1,0]).toList 0 #[.int .i64 x0,.int .i64 x1,g2,g3,g4,g5,g6,g7,g8,g9,g10,g11,g12,g13,g14,g15] M K = (binV Try.prog .rem 3 3 (.int .i64 x0) (.int .i64 x1)).bind fun v_1 => (asI .i64 v_1).bind fun x_2 => K #[.int .i64 x_2,.int .i64 x1,g2,g3,g4,g5,g6,.int .i64 x0,.int .i64 x1,.int .i64 x_2,g10,g11,g12,g13,g14,g15] M := by kernel_rfl
theorem k20_13 : P20 [1,1,1] = .seq (P20 [1,1,1,0]) (P20 [1,1,1,1]) := by kernel_rfl
theorem k20_14 : P20 [1,1,1,0] = .seq (P20 [1,1,1,0,0]) (P20 [1,1,1,0,1]) := by kernel_rfl
theorem k20_15 : P20 [1,1,1,0,0] = .region 4 (O20 [1,1,1,0,0]) false := by kernel_rfl
theorem r20_4 {x0 : Int} {M : Mem} {call : CallM} {K : Array Value → Mem → R} :
    opsK Try.prog (fun _ => call) (O20 [1,1,1,0,0]) (O20 [1,1,1,0,0]).toList 0 #[.int .i64 x0,g1,g2,g3,g4,g5,g6,g7,g8,g9,g10,g11,g12,g13,g14,g15] M K = K #[.int .i64 x0,g1,g2,g3,g4,g5,g6,g7,g8,g9,.int .i64 x0,.bool (decide (x0 < 0)),g12,g13,g14,g15] M := by kernel_rfl
theorem c20_16 : P20 [1,1,1,0,1] = .cond (.tmp 11) (P20 [1,1,1,0,1,0]) (P20 [1,1,1,0,1,1]) := by kernel_rfl
theorem k20_17 : P20 [1,1,1,0,1,0] = .region 5 (O20 [1,1,1,0,1,0]) false := by kernel_rfl
theorem r20_5 {x0 x1 : Int} {M : Mem} {call : CallM} {K : Array Value → Mem → R} :
    opsK Try.prog (fun _ => call) (O20 [1,1,1,0,1,0]) (O20 [1,1,1,0,1,0]).toList 0 #[.int .i64 x0,.int .i64 x1,g2,g3,g4,g5,g6,g7,g8,g9,g10,g11,g12,g13,g14,g15] M K = K #[.int .i64 (IntKind.i64.wrap (x0 + x1)),.int .i64 x1,g2,g3,g4,g5,g6,g7,g8,g9,g10,g11,.int .i64 x0,.int .i64 x1,.int .i64 (IntKind.i64.wrap (x0 + x1)),g15] M := by kernel_rfl
theorem k20_18 : P20 [1,1,1,1] = .seq (P20 [1,1,1,1,0]) (P20 [1,1,1,1,1]) := by kernel_rfl
theorem k20_19 : P20 [1,1,1,1,0] = .region 6 (O20 [1,1,1,1,0]) false := by kernel_rfl
theorem r20_6 {x0 : Int} {M : Mem} {call : CallM} {K : Array Value → Mem → R} :
    opsK Try.prog (fun _ => call) (O20 [1,1,1,1,0]) (O20 [1,1,1,1,0]).toList 0 #[.int .i64 x0,g1,g2,g3,g4,g5,g6,g7,g8,g9,g10,g11,g12,g13,g14,g15] M K = K #[.int .i64 x0,g1,g2,g3,.int .i64 x0,g5,g6,g7,g8,g9,g10,g11,g12,g13,g14,.int .i64 x0] M := by kernel_rfl
theorem k20_20 : P20 [1,1,1,1,1] = .ret := by kernel_rfl
theorem k20_21 : P20 [1,1,1,0,1,1] = .skip := by kernel_rfl
theorem w20_0 {x0 x1 : Int} {M : Mem} {Q : Value → Mem → Prop} (H :
    ((x1 ≤ 0 →
     Q (.int .i64 0) M) ∧
     (¬ (x1 ≤ 0) →
     ∃ v1', binV Try.prog .rem 3 3 (.int .i64 x0) (.int .i64 x1) = some v1' ∧
     ∃ x2', asI .i64 v1' = some x2' ∧
     ((x2' < 0 →
      Q (.int .i64 (IntKind.i64.wrap (x2' + x1))) M) ∧
      (¬ (x2' < 0) →
      Q (.int .i64 (x2')) M))))) :
    Cn Try.prog 20 #[.int .i64 x0, .int .i64 x1] M Q := by
  refine Cn.of b20 d20 t20 ?_
  refine Rn.seq k20_0 (Rn.region k20_1 (fun call K => r20_0) (Rch.leaf (Rn.seq k20_2 (Rn.seq k20_3 (Rn.region k20_4 (fun call K => r20_1) (Rch.leaf ?_))))))
  refine Rn.cnd (v := decide (x1 ≤ 0)) ⟨c20_5, rfl, by kernel_rfl⟩ (fun h => ?_) (fun h => ?_)
  · replace H := H.1 (of_decide_eq_true h)
    refine Rn.seq k20_6 (Rn.region k20_7 (fun call K => r20_2) (Rch.leaf ?_))
    exact Rn.ret k20_8 e20 H
  · replace H := H.2 (of_decide_eq_false h)
    refine Rn.skip k20_10 (Rn.seq k20_11 (Rn.region k20_12 (fun call K => r20_3) (Rch.ex H fun v1' H => Rch.ex H fun x2' H => Rch.leaf (Rn.seq k20_13 (Rn.seq k20_14 (Rn.region k20_15 (fun call K => r20_4) (Rch.leaf ?_)))))))
    refine Rn.cnd (v := decide (x2' < 0)) ⟨c20_16, rfl, by kernel_rfl⟩ (fun h => ?_) (fun h => ?_)
    · replace H := H.1 (of_decide_eq_true h)
      refine Rn.region k20_17 (fun call K => r20_5) (Rch.leaf (Rn.seq k20_18 (Rn.region k20_19 (fun call K => r20_6) (Rch.leaf ?_))))
      exact Rn.ret k20_20 e20 H
    · replace H := H.2 (of_decide_eq_false h)
      refine Rn.skip k20_21 (Rn.seq k20_18 (Rn.region k20_19 (fun call K => r20_6) (Rch.leaf ?_)))
      exact Rn.ret k20_20 e20 H


end Go.Zt

