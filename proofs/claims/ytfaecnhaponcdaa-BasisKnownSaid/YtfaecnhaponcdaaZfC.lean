/- The functions' walks: for each function and each loop a rule of what it comes to. Printed by zw.py. -/
import Derived.Test.YtfaecnhaponcdaaProg
import Derived.Test.YtfaecnhaponcdaaZfA
set_option linter.unusedVariables false
set_option maxRecDepth 100000
namespace Go.Zt
open Go Go.Sim Go.Proofs

variable {g0 g1 g2 g3 g4 g5 g6 g7 g8 g9 g10 g11 g12 g13 g14 g15 g16 g17 g18 g19 g20 g21 g22 g23 g24 g25 g26 g27 g28 g29 g30 g31 g32 g33 g34 g35 g36 g37 g38 g39 g40 g41 g42 g43 g44 g45 g46 g47 g48 g49 g50 g51 g52 g53 g54 g55 g56 g57 g58 g59 g60 g61 g62 g63 g64 g65 g66 g67 g68 g69 g70 g71 g72 g73 g74 g75 g76 : Value}
/-! ### zoetrope/basis.Forward: function 13 -/
noncomputable abbrev P13 (p : List Nat) : Code := subC (codeOf Try.f13) p
noncomputable abbrev O13 (p : List Nat) : Array Oper := opsOf (subC (codeOf Try.f13) p)
theorem b13 : Try.prog.funcs[13]? = some Try.f13 ∧ (Orc.tab Try.prog).lookup 13 = none := ⟨by kernel_rfl, by kernel_rfl⟩
theorem d13 : Try.f13.body = some (P13 []) := by kernel_rfl
theorem t13 {x0 : Int} {Ax1 : Option Addr} {lx1 cx1 : Nat} : #[.int .i64 x0,.slice Ax1 lx1 cx1] ++ Array.replicate (Try.f13.ntmps - (#[.int .i64 x0,.slice Ax1 lx1 cx1] : Array Value).size) undef = #[.int .i64 x0,.slice Ax1 lx1 cx1,undef,undef,undef,undef,undef,undef,undef,undef,undef,undef,undef,undef,undef,undef,undef,undef,undef,undef,undef,undef,undef,undef,undef,undef,undef,undef,undef,undef,undef,undef,undef,undef,undef,undef,undef,undef,undef,undef,undef,undef,undef,undef,undef,undef,undef,undef,undef,undef,undef,undef,undef,undef,undef,undef,undef,undef,undef,undef,undef,undef,undef,undef,undef,undef,undef,undef,undef,undef,undef,undef,undef,undef,undef] := by kernel_rfl
theorem k13_0 : P13 [] = .seq (P13 [0]) (P13 [1]) := by kernel_rfl
theorem k13_1 : P13 [0] = .region 0 (O13 [0]) false := by kernel_rfl
theorem r13_0 {M : Mem} {call : CallM} {K : Array Value → Mem → R} :
    opsK Try.prog (fun _ => call) (O13 [0]) (O13 [0]).toList 0 #[g0,g1,g2,g3,g4,g5,g6,g7,g8,g9,g10,g11,g12,g13,g14,g15,g16,g17,g18,g19,g20,g21,g22,g23,g24,g25,g26,g27,g28,g29,g30,g31,g32,g33,g34,g35,g36,g37,g38,g39,g40,g41,g42,g43,g44,g45,g46,g47,g48,g49,g50,g51,g52,g53,g54,g55,g56,g57,g58,g59,g60,g61,g62,g63,g64,g65,g66,g67,g68,g69,g70,g71,g72,g73,g74] M K = K #[g0,g1,g2,g3,.slice none 0 0,.int .i64 0,g6,g7,g8,g9,g10,g11,g12,g13,g14,g15,g16,g17,g18,g19,g20,g21,g22,g23,g24,g25,g26,g27,g28,g29,g30,g31,g32,g33,g34,g35,g36,g37,g38,g39,g40,g41,g42,g43,g44,g45,g46,g47,g48,g49,g50,g51,g52,g53,g54,g55,g56,g57,g58,g59,g60,g61,g62,g63,g64,g65,g66,g67,g68,g69,g70,g71,g72,g73,g74] M := by kernel_rfl
theorem k13_2 : P13 [1] = .seq (P13 [1,0]) (P13 [1,1]) := by kernel_rfl
theorem k13_3 : P13 [1,0] = .region 1 (O13 [1,0]) false := by kernel_rfl
theorem r13_1 {x0 : Int} {Ax1 : Option Addr} {lx1 cx1 : Nat} {M : Mem} {call : CallM} {K : Array Value → Mem → R} :
    opsK Try.prog (fun _ => call) (O13 [1,0]) (O13 [1,0]).toList 0 #[.int .i64 x0,.slice Ax1 lx1 cx1,g2,g3,g4,g5,g6,g7,g8,g9,g10,g11,g12,g13,g14,g15,g16,g17,g18,g19,g20,g21,g22,g23,g24,g25,g26,g27,g28,g29,g30,g31,g32,g33,g34,g35,g36,g37,g38,g39,g40,g41,g42,g43,g44,g45,g46,g47,g48,g49,g50,g51,g52,g53,g54,g55,g56,g57,g58,g59,g60,g61,g62,g63,g64,g65,g66,g67,g68,g69,g70,g71,g72,g73,g74] M K = (call 26 #[.int .i64 x0, .slice Ax1 lx1 cx1] M).bind fun r_1 => (asU 2 r_1.1).bind fun cs_2 => (asA 2 (cs_2.getD 0 undef)).bind fun cs_3 => (asI .i64 (cs_3.getD 0 undef)).bind fun x_4 => (asB (cs_2.getD 1 undef)).bind fun b_5 => ((r_1.2.new (.cells #[.int .i64 0, .nilFunc] 39)).put (2 * r_1.2.nb.size) 0 (.int .i64 x_4)).bind fun M_6 => (M_6.put (2 * r_1.2.nb.size) 1 (cs_3.getD 1 undef)).bind fun M_7 => K #[.int .i64 x0,.slice Ax1 lx1 cx1,g2,g3,g4,g5,.pointer (some ⟨2 * r_1.2.nb.size, 0, none⟩),.bool b_5,g8,g9,g10,g11,.tuple #[.agg #[.int .i64 x_4, cs_3.getD 1 undef], .bool b_5],.int .i64 x0,.slice Ax1 lx1 cx1,.tuple #[.agg #[.int .i64 x_4, cs_3.getD 1 undef], .bool b_5],.agg #[.int .i64 x_4, cs_3.getD 1 undef],.bool b_5,g18,g19,g20,g21,g22,g23,g24,g25,g26,g27,g28,g29,g30,g31,g32,g33,g34,g35,g36,g37,g38,g39,g40,g41,g42,g43,g44,g45,g46,g47,g48,g49,g50,g51,g52,g53,g54,g55,g56,g57,g58,g59,g60,g61,g62,g63,g64,g65,g66,g67,g68,g69,g70,g71,g72,g73,g74] M_7 := by kernel_rfl
theorem k13_4 : P13 [1,1] = .seq (P13 [1,1,0]) (P13 [1,1,1]) := by kernel_rfl
theorem k13_5 : P13 [1,1,0] = .seq (P13 [1,1,0,0]) (P13 [1,1,0,1]) := by kernel_rfl
theorem k13_6 : P13 [1,1,0,0] = .region 2 (O13 [1,1,0,0]) false := by kernel_rfl
theorem r13_2 {x7 : Bool} {M : Mem} {call : CallM} {K : Array Value → Mem → R} :
    opsK Try.prog (fun _ => call) (O13 [1,1,0,0]) (O13 [1,1,0,0]).toList 0 #[g0,g1,g2,g3,g4,g5,g6,.bool x7,g8,g9,g10,g11,g12,g13,g14,g15,g16,g17,g18,g19,g20,g21,g22,g23,g24,g25,g26,g27,g28,g29,g30,g31,g32,g33,g34,g35,g36,g37,g38,g39,g40,g41,g42,g43,g44,g45,g46,g47,g48,g49,g50,g51,g52,g53,g54,g55,g56,g57,g58,g59,g60,g61,g62,g63,g64,g65,g66,g67,g68,g69,g70,g71,g72,g73,g74] M K = K #[g0,g1,g2,g3,g4,g5,g6,.bool x7,g8,g9,g10,g11,g12,g13,g14,g15,g16,g17,.bool x7,.bool (!x7),g20,g21,g22,g23,g24,g25,g26,g27,g28,g29,g30,g31,g32,g33,g34,g35,g36,g37,g38,g39,g40,g41,g42,g43,g44,g45,g46,g47,g48,g49,g50,g51,g52,g53,g54,g55,g56,g57,g58,g59,g60,g61,g62,g63,g64,g65,g66,g67,g68,g69,g70,g71,g72,g73,g74] M := by kernel_rfl
theorem c13_7 : P13 [1,1,0,1] = .cond (.tmp 19) (P13 [1,1,0,1,0]) (P13 [1,1,0,1,1]) := by kernel_rfl
theorem k13_8 : P13 [1,1,0,1,0] = .seq (P13 [1,1,0,1,0,0]) (P13 [1,1,0,1,0,1]) := by kernel_rfl
theorem k13_9 : P13 [1,1,0,1,0,0] = .region 3 (O13 [1,1,0,1,0,0]) false := by kernel_rfl
theorem r13_3 {M : Mem} {call : CallM} {K : Array Value → Mem → R} :
    opsK Try.prog (fun _ => call) (O13 [1,1,0,1,0,0]) (O13 [1,1,0,1,0,0]).toList 0 #[g0,g1,g2,g3,g4,g5,g6,g7,g8,g9,g10,g11,g12,g13,g14,g15,g16,g17,g18,g19,g20,g21,g22,g23,g24,g25,g26,g27,g28,g29,g30,g31,g32,g33,g34,g35,g36,g37,g38,g39,g40,g41,g42,g43,g44,g45,g46,g47,g48,g49,g50,g51,g52,g53,g54,g55,g56,g57,g58,g59,g60,g61,g62,g63,g64,g65,g66,g67,g68,g69,g70,g71,g72,g73,g74] M K = K #[g0,g1,g2,g3,.slice none 0 0,.int .i64 2,g6,g7,g8,g9,g10,g11,g12,g13,g14,g15,g16,g17,g18,g19,g20,g21,g22,g23,g24,g25,g26,g27,g28,g29,g30,g31,g32,g33,g34,g35,g36,g37,g38,g39,g40,g41,g42,g43,g44,g45,g46,g47,g48,g49,g50,g51,g52,g53,g54,g55,g56,g57,g58,g59,g60,g61,g62,g63,g64,g65,g66,g67,g68,g69,g70,g71,g72,g73,g74] M := by kernel_rfl
theorem k13_10 : P13 [1,1,0,1,0,1] = .ret := by kernel_rfl
theorem e13 {M : Mem} : finish Try.prog Try.f13 #[g0,g1,g2,g3,g4,g5,g6,g7,g8,g9,g10,g11,g12,g13,g14,g15,g16,g17,g18,g19,g20,g21,g22,g23,g24,g25,g26,g27,g28,g29,g30,g31,g32,g33,g34,g35,g36,g37,g38,g39,g40,g41,g42,g43,g44,g45,g46,g47,g48,g49,g50,g51,g52,g53,g54,g55,g56,g57,g58,g59,g60,g61,g62,g63,g64,g65,g66,g67,g68,g69,g70,g71,g72,g73,g74] M = some (.tuple #[g4, g5], M) := by kernel_rfl
theorem k13_12 : P13 [1,1,0,1,1] = .skip := by kernel_rfl
theorem k13_13 : P13 [1,1,1] = .seq (P13 [1,1,1,0]) (P13 [1,1,1,1]) := by kernel_rfl
theorem k13_14 : P13 [1,1,1,0] = .seq (P13 [1,1,1,0,0]) (P13 [1,1,1,0,1]) := by kernel_rfl
theorem k13_15 : P13 [1,1,1,0,0] = .region 4 (O13 [1,1,1,0,0]) false := by kernel_rfl
theorem r13_4 {x6 : Option Addr} {M : Mem} {call : CallM} {K : Array Value → Mem → R} :
    opsK Try.prog (fun _ => call) (O13 [1,1,1,0,0]) (O13 [1,1,1,0,0]).toList 0 #[g0,g1,g2,g3,g4,g5,.pointer x6,g7,g8,g9,g10,g11,g12,g13,g14,g15,g16,g17,g18,g19,g20,g21,g22,g23,g24,g25,g26,g27,g28,g29,g30,g31,g32,g33,g34,g35,g36,g37,g38,g39,g40,g41,g42,g43,g44,g45,g46,g47,g48,g49,g50,g51,g52,g53,g54,g55,g56,g57,g58,g59,g60,g61,g62,g63,g64,g65,g66,g67,g68,g69,g70,g71,g72,g73,g74] M K = (x6).bind fun a_1 => (M.cell a_1.block (a_1.off + 1)).bind fun v_2 => (fnilV Try.prog 33 v_2).bind fun b_3 => K #[g0,g1,g2,g3,g4,g5,.pointer x6,g7,g8,g9,g10,g11,g12,g13,g14,g15,g16,g17,g18,g19,.pointer (some ⟨a_1.block, a_1.off + 1, none⟩),v_2,.bool b_3,g23,g24,g25,g26,g27,g28,g29,g30,g31,g32,g33,g34,g35,g36,g37,g38,g39,g40,g41,g42,g43,g44,g45,g46,g47,g48,g49,g50,g51,g52,g53,g54,g55,g56,g57,g58,g59,g60,g61,g62,g63,g64,g65,g66,g67,g68,g69,g70,g71,g72,g73,g74] M := by kernel_rfl
theorem c13_16 : P13 [1,1,1,0,1] = .cond (.tmp 22) (P13 [1,1,1,0,1,0]) (P13 [1,1,1,0,1,1]) := by kernel_rfl
theorem k13_17 : P13 [1,1,1,0,1,0] = .seq (P13 [1,1,1,0,1,0,0]) (P13 [1,1,1,0,1,0,1]) := by kernel_rfl
theorem k13_18 : P13 [1,1,1,0,1,0,0] = .region 5 (O13 [1,1,1,0,1,0,0]) true ∧ drawOk (O13 [1,1,1,0,1,0,0]) = true := ⟨by kernel_rfl, by kernel_rfl⟩
theorem r13_5 {Ax1 : Option Addr} {lx1 cx1 : Nat} {M : Mem} {call : CallM} {K : Array Value → Mem → R} :
    opsI Try.prog (callAt call (O13 [1,1,1,0,1,0,0])) (O13 [1,1,1,0,1,0,0]) (ordOf (O13 [1,1,1,0,1,0,0])) [] #[g0,.slice Ax1 lx1 cx1,g2,g3,g4,g5,g6,g7,g8,g9,g10,g11,g12,g13,g14,g15,g16,g17,g18,g19,g20,g21,g22,g23,g24,g25,g26,g27,g28,g29,g30,g31,g32,g33,g34,g35,g36,g37,g38,g39,g40,g41,g42,g43,g44,g45,g46,g47,g48,g49,g50,g51,g52,g53,g54,g55,g56,g57,g58,g59,g60,g61,g62,g63,g64,g65,g66,g67,g68,g69,g70,g71,g72,g73,g74] M K = (idxA Ax1 lx1 1 0).bind fun a_1 => (M.intAt .i64 a_1.block a_1.off).bind fun x_2 => (idxA Ax1 lx1 1 1).bind fun a_3 => (M.intAt .i64 a_3.block a_3.off).bind fun x_4 => (idxA Ax1 lx1 1 2).bind fun a_5 => (M.intAt .i64 a_5.block a_5.off).bind fun x_6 => (idxA Ax1 lx1 1 3).bind fun a_7 => (M.intAt .i64 a_7.block a_7.off).bind fun x_8 => (call 27 #[.int .i64 x_2, .int .i64 x_4, .int .i64 x_6, .int .i64 x_8] M).bind fun r_9 => (asS r_9.1).bind fun s_10 => K #[g0,.slice Ax1 lx1 cx1,g2,g3,.slice s_10.1 (s_10.2.1) (s_10.2.2),.int .i64 0,g6,g7,g8,g9,g10,g11,g12,g13,g14,g15,g16,g17,g18,g19,g20,g21,g22,.slice Ax1 lx1 cx1,.pointer (some a_1),.int .i64 x_2,.slice Ax1 lx1 cx1,.pointer (some a_3),.int .i64 x_4,.slice Ax1 lx1 cx1,.pointer (some a_5),.int .i64 x_6,.slice Ax1 lx1 cx1,.pointer (some a_7),.int .i64 x_8,.slice s_10.1 (s_10.2.1) (s_10.2.2),g36,g37,g38,g39,g40,g41,g42,g43,g44,g45,g46,g47,g48,g49,g50,g51,g52,g53,g54,g55,g56,g57,g58,g59,g60,g61,g62,g63,g64,g65,g66,g67,g68,g69,g70,g71,g72,g73,g74] r_9.2 := by kernel_rfl
theorem k13_19 : P13 [1,1,1,0,1,0,1] = .ret := by kernel_rfl
theorem k13_20 : P13 [1,1,1,0,1,1] = .skip := by kernel_rfl
theorem k13_21 : P13 [1,1,1,1] = .seq (P13 [1,1,1,1,0]) (P13 [1,1,1,1,1]) := by kernel_rfl
theorem k13_22 : P13 [1,1,1,1,0] = .region 6 (O13 [1,1,1,1,0]) false := by kernel_rfl
theorem r13_6 {Ax1 : Option Addr} {lx1 cx1 : Nat} {M : Mem} {call : CallM} {K : Array Value → Mem → R} :
    opsK Try.prog (fun _ => call) (O13 [1,1,1,1,0]) (O13 [1,1,1,1,0]).toList 0 #[g0,.slice Ax1 lx1 cx1,g2,g3,g4,g5,g6,g7,g8,g9,g10,g11,g12,g13,g14,g15,g16,g17,g18,g19,g20,g21,g22,g23,g24,g25,g26,g27,g28,g29,g30,g31,g32,g33,g34,g35,g36,g37,g38,g39,g40,g41,g42,g43,g44,g45,g46,g47,g48,g49,g50,g51,g52,g53,g54,g55,g56,g57,g58,g59,g60,g61,g62,g63,g64,g65,g66,g67,g68,g69,g70,g71,g72,g73,g74] M K = (makeP Try.prog 22 (.int .i64 ((lx1 : Int))) (.int .i64 ((lx1 : Int))) M).bind fun r_1 => (asS r_1.1).bind fun s_2 => K #[g0,.slice Ax1 lx1 cx1,g2,g3,g4,g5,g6,g7,.slice s_2.1 (s_2.2.1) (s_2.2.2),g9,g10,g11,g12,g13,g14,g15,g16,g17,g18,g19,g20,g21,g22,g23,g24,g25,g26,g27,g28,g29,g30,g31,g32,g33,g34,g35,.slice Ax1 lx1 cx1,.int .i64 ((lx1 : Int)),.slice s_2.1 (s_2.2.1) (s_2.2.2),g39,g40,g41,g42,g43,g44,g45,g46,g47,g48,g49,g50,g51,g52,g53,g54,g55,g56,g57,g58,g59,g60,g61,g62,g63,g64,g65,g66,g67,g68,g69,g70,g71,g72,g73,g74] r_1.2 := by kernel_rfl
theorem k13_23 : P13 [1,1,1,1,1] = .seq (P13 [1,1,1,1,1,0]) (P13 [1,1,1,1,1,1]) := by kernel_rfl
theorem k13_24 : P13 [1,1,1,1,1,0] = .seq (P13 [1,1,1,1,1,0,0]) (P13 [1,1,1,1,1,0,1]) := by kernel_rfl
theorem k13_25 : P13 [1,1,1,1,1,0,0] = .region 7 (O13 [1,1,1,1,1,0,0]) false := by kernel_rfl
theorem r13_7 {Ax8 : Option Addr} {lx8 cx8 : Nat} {M : Mem} {call : CallM} {K : Array Value → Mem → R} :
    opsK Try.prog (fun _ => call) (O13 [1,1,1,1,1,0,0]) (O13 [1,1,1,1,1,0,0]).toList 0 #[g0,g1,g2,g3,g4,g5,g6,g7,.slice Ax8 lx8 cx8,g9,g10,g11,g12,g13,g14,g15,g16,g17,g18,g19,g20,g21,g22,g23,g24,g25,g26,g27,g28,g29,g30,g31,g32,g33,g34,g35,g36,g37,g38,g39,g40,g41,g42,g43,g44,g45,g46,g47,g48,g49,g50,g51,g52,g53,g54,g55,g56,g57,g58,g59,g60,g61,g62,g63,g64,g65,g66,g67,g68,g69,g70,g71,g72,g73,g74] M K = K #[g0,g1,g2,g3,g4,g5,g6,g7,.slice Ax8 lx8 cx8,g9,g10,g11,g12,g13,g14,g15,g16,g17,g18,g19,g20,g21,g22,g23,g24,g25,g26,g27,g28,g29,g30,g31,g32,g33,g34,g35,g36,g37,g38,.slice Ax8 lx8 cx8,.int .i64 ((lx8 : Int)),.int .i64 0,g42,g43,g44,g45,g46,g47,g48,g49,g50,g51,g52,g53,g54,g55,g56,g57,g58,g59,g60,g61,g62,g63,g64,g65,g66,g67,g68,g69,g70,g71,g72,g73,g74] M := by kernel_rfl
theorem k13_26 : P13 [1,1,1,1,1,0,1] = .block 0 (P13 [1,1,1,1,1,0,1,0]) := by kernel_rfl
theorem k13_27 : P13 [1,1,1,1,1,0,1,0] = .loop (P13 [1,1,1,1,1,0,1,0,0]) := by kernel_rfl
theorem k13_28 : P13 [1,1,1,1,1,0,1,0,0] = .seq (P13 [1,1,1,1,1,0,1,0,0,0]) (P13 [1,1,1,1,1,0,1,0,0,1]) := by kernel_rfl
theorem k13_29 : P13 [1,1,1,1,1,0,1,0,0,0] = .region 8 (O13 [1,1,1,1,1,0,1,0,0,0]) false := by kernel_rfl
theorem r13_8 {x40 x41 : Int} {M : Mem} {call : CallM} {K : Array Value → Mem → R} :
    opsK Try.prog (fun _ => call) (O13 [1,1,1,1,1,0,1,0,0,0]) (O13 [1,1,1,1,1,0,1,0,0,0]).toList 0 #[g0,g1,g2,g3,g4,g5,g6,g7,g8,g9,g10,g11,g12,g13,g14,g15,g16,g17,g18,g19,g20,g21,g22,g23,g24,g25,g26,g27,g28,g29,g30,g31,g32,g33,g34,g35,g36,g37,g38,g39,.int .i64 x40,.int .i64 x41,g42,g43,g44,g45,g46,g47,g48,g49,g50,g51,g52,g53,g54,g55,g56,g57,g58,g59,g60,g61,g62,g63,g64,g65,g66,g67,g68,g69,g70,g71,g72,g73,g74] M K = K #[g0,g1,g2,g3,g4,g5,g6,g7,g8,g9,g10,g11,g12,g13,g14,g15,g16,g17,g18,g19,g20,g21,g22,g23,g24,g25,g26,g27,g28,g29,g30,g31,g32,g33,g34,g35,g36,g37,g38,g39,.int .i64 x40,.int .i64 x41,.bool (decide (x41 < x40)),g43,g44,g45,g46,g47,g48,g49,g50,g51,g52,g53,g54,g55,g56,g57,g58,g59,g60,g61,g62,g63,g64,g65,g66,g67,g68,g69,g70,g71,g72,g73,g74] M := by kernel_rfl
theorem k13_30 : P13 [1,1,1,1,1,0,1,0,0,1] = .seq (P13 [1,1,1,1,1,0,1,0,0,1,0]) (P13 [1,1,1,1,1,0,1,0,0,1,1]) := by kernel_rfl
theorem c13_31 : P13 [1,1,1,1,1,0,1,0,0,1,0] = .cond (.tmp 42) (P13 [1,1,1,1,1,0,1,0,0,1,0,0]) (P13 [1,1,1,1,1,0,1,0,0,1,0,1]) := by kernel_rfl
theorem k13_32 : P13 [1,1,1,1,1,0,1,0,0,1,0,0] = .skip := by kernel_rfl
theorem k13_33 : P13 [1,1,1,1,1,0,1,0,0,1,1] = .seq (P13 [1,1,1,1,1,0,1,0,0,1,1,0]) (P13 [1,1,1,1,1,0,1,0,0,1,1,1]) := by kernel_rfl
theorem k13_34 : P13 [1,1,1,1,1,0,1,0,0,1,1,0] = .block 1 (P13 [1,1,1,1,1,0,1,0,0,1,1,0,0]) := by kernel_rfl
theorem k13_35 : P13 [1,1,1,1,1,0,1,0,0,1,1,0,0] = .seq (P13 [1,1,1,1,1,0,1,0,0,1,1,0,0,0]) (P13 [1,1,1,1,1,0,1,0,0,1,1,0,0,1]) := by kernel_rfl
theorem k13_36 : P13 [1,1,1,1,1,0,1,0,0,1,1,0,0,0] = .region 9 (O13 [1,1,1,1,1,0,1,0,0,1,1,0,0,0]) false := by kernel_rfl
theorem r13_9 {x41 : Int} {M : Mem} {call : CallM} {K : Array Value → Mem → R} :
    opsK Try.prog (fun _ => call) (O13 [1,1,1,1,1,0,1,0,0,1,1,0,0,0]) (O13 [1,1,1,1,1,0,1,0,0,1,1,0,0,0]).toList 0 #[g0,g1,g2,g3,g4,g5,g6,g7,g8,g9,g10,g11,g12,g13,g14,g15,g16,g17,g18,g19,g20,g21,g22,g23,g24,g25,g26,g27,g28,g29,g30,g31,g32,g33,g34,g35,g36,g37,g38,g39,g40,.int .i64 x41,g42,g43,g44,g45,g46,g47,g48,g49,g50,g51,g52,g53,g54,g55,g56,g57,g58,g59,g60,g61,g62,g63,g64,g65,g66,g67,g68,g69,g70,g71,g72,g73,g74] M K = K #[g0,g1,g2,g3,g4,g5,g6,g7,g8,.int .i64 x41,g10,g11,g12,g13,g14,g15,g16,g17,g18,g19,g20,g21,g22,g23,g24,g25,g26,g27,g28,g29,g30,g31,g32,g33,g34,g35,g36,g37,g38,g39,g40,.int .i64 x41,g42,.int .i64 x41,g44,g45,g46,g47,g48,g49,g50,g51,g52,g53,g54,g55,g56,g57,g58,g59,g60,g61,g62,g63,g64,g65,g66,g67,g68,g69,g70,g71,g72,g73,g74] M := by kernel_rfl
theorem k13_37 : P13 [1,1,1,1,1,0,1,0,0,1,1,0,0,1] = .seq (P13 [1,1,1,1,1,0,1,0,0,1,1,0,0,1,0]) (P13 [1,1,1,1,1,0,1,0,0,1,1,0,0,1,1]) := by kernel_rfl
theorem k13_38 : P13 [1,1,1,1,1,0,1,0,0,1,1,0,0,1,0] = .seq (P13 [1,1,1,1,1,0,1,0,0,1,1,0,0,1,0,0]) (P13 [1,1,1,1,1,0,1,0,0,1,1,0,0,1,0,1]) := by kernel_rfl
theorem k13_39 : P13 [1,1,1,1,1,0,1,0,0,1,1,0,0,1,0,0] = .region 10 (O13 [1,1,1,1,1,0,1,0,0,1,1,0,0,1,0,0]) false := by kernel_rfl
theorem r13_10 {Ax1 : Option Addr} {lx1 cx1 : Nat} {M : Mem} {call : CallM} {K : Array Value → Mem → R} :
    opsK Try.prog (fun _ => call) (O13 [1,1,1,1,1,0,1,0,0,1,1,0,0,1,0,0]) (O13 [1,1,1,1,1,0,1,0,0,1,1,0,0,1,0,0]).toList 0 #[g0,.slice Ax1 lx1 cx1,g2,g3,g4,g5,g6,g7,g8,g9,g10,g11,g12,g13,g14,g15,g16,g17,g18,g19,g20,g21,g22,g23,g24,g25,g26,g27,g28,g29,g30,g31,g32,g33,g34,g35,g36,g37,g38,g39,g40,g41,g42,g43,g44,g45,g46,g47,g48,g49,g50,g51,g52,g53,g54,g55,g56,g57,g58,g59,g60,g61,g62,g63,g64,g65,g66,g67,g68,g69,g70,g71,g72,g73,g74] M K = K #[g0,.slice Ax1 lx1 cx1,g2,g3,g4,g5,g6,g7,g8,g9,g10,g11,g12,g13,g14,g15,g16,g17,g18,g19,g20,g21,g22,g23,g24,g25,g26,g27,g28,g29,g30,g31,g32,g33,g34,g35,g36,g37,g38,g39,g40,g41,g42,g43,.slice Ax1 lx1 cx1,.int .i64 ((lx1 : Int)),.int .i64 0,g47,g48,g49,g50,g51,g52,g53,g54,g55,g56,g57,g58,g59,g60,g61,g62,g63,g64,g65,g66,g67,g68,g69,g70,g71,g72,g73,g74] M := by kernel_rfl
theorem k13_40 : P13 [1,1,1,1,1,0,1,0,0,1,1,0,0,1,0,1] = .block 2 (P13 [1,1,1,1,1,0,1,0,0,1,1,0,0,1,0,1,0]) := by kernel_rfl
theorem k13_41 : P13 [1,1,1,1,1,0,1,0,0,1,1,0,0,1,0,1,0] = .loop (P13 [1,1,1,1,1,0,1,0,0,1,1,0,0,1,0,1,0,0]) := by kernel_rfl
theorem k13_42 : P13 [1,1,1,1,1,0,1,0,0,1,0,1] = .exit 0 := by kernel_rfl
theorem k13_43 : P13 [1,1,1,1,1,1] = .seq (P13 [1,1,1,1,1,1,0]) (P13 [1,1,1,1,1,1,1]) := by kernel_rfl
theorem k13_44 : P13 [1,1,1,1,1,1,0] = .region 17 (O13 [1,1,1,1,1,1,0]) false := by kernel_rfl
theorem r13_17 {Ax8 : Option Addr} {lx8 cx8 : Nat} {M : Mem} {call : CallM} {K : Array Value → Mem → R} :
    opsK Try.prog (fun _ => call) (O13 [1,1,1,1,1,1,0]) (O13 [1,1,1,1,1,1,0]).toList 0 #[g0,g1,g2,g3,g4,g5,g6,g7,.slice Ax8 lx8 cx8,g9,g10,g11,g12,g13,g14,g15,g16,g17,g18,g19,g20,g21,g22,g23,g24,g25,g26,g27,g28,g29,g30,g31,g32,g33,g34,g35,g36,g37,g38,g39,g40,g41,g42,g43,g44,g45,g46,g47,g48,g49,g50,g51,g52,g53,g54,g55,g56,g57,g58,g59,g60,g61,g62,g63,g64,g65,g66,g67,g68,g69,g70,g71,g72,g73,g74] M K = K #[g0,g1,g2,g3,.slice Ax8 lx8 cx8,.int .i64 0,g6,g7,.slice Ax8 lx8 cx8,g9,g10,g11,g12,g13,g14,g15,g16,g17,g18,g19,g20,g21,g22,g23,g24,g25,g26,g27,g28,g29,g30,g31,g32,g33,g34,g35,g36,g37,g38,g39,g40,g41,g42,g43,g44,g45,g46,g47,g48,g49,g50,g51,g52,g53,g54,g55,g56,g57,g58,g59,g60,g61,g62,g63,g64,g65,g66,g67,g68,g69,g70,g71,g72,g73,.slice Ax8 lx8 cx8] M := by kernel_rfl
theorem k13_45 : P13 [1,1,1,1,1,1,1] = .ret := by kernel_rfl
theorem k13_46 : P13 [1,1,1,1,1,0,1,0,0,1,1,0,0,1,0,1,0,0] = .seq (P13 [1,1,1,1,1,0,1,0,0,1,1,0,0,1,0,1,0,0,0]) (P13 [1,1,1,1,1,0,1,0,0,1,1,0,0,1,0,1,0,0,1]) := by kernel_rfl
theorem k13_47 : P13 [1,1,1,1,1,0,1,0,0,1,1,0,0,1,0,1,0,0,0] = .region 11 (O13 [1,1,1,1,1,0,1,0,0,1,1,0,0,1,0,1,0,0,0]) false := by kernel_rfl
theorem r13_11 {x45 x46 : Int} {M : Mem} {call : CallM} {K : Array Value → Mem → R} :
    opsK Try.prog (fun _ => call) (O13 [1,1,1,1,1,0,1,0,0,1,1,0,0,1,0,1,0,0,0]) (O13 [1,1,1,1,1,0,1,0,0,1,1,0,0,1,0,1,0,0,0]).toList 0 #[g0,g1,g2,g3,g4,g5,g6,g7,g8,g9,g10,g11,g12,g13,g14,g15,g16,g17,g18,g19,g20,g21,g22,g23,g24,g25,g26,g27,g28,g29,g30,g31,g32,g33,g34,g35,g36,g37,g38,g39,g40,g41,g42,g43,g44,.int .i64 x45,.int .i64 x46,g47,g48,g49,g50,g51,g52,g53,g54,g55,g56,g57,g58,g59,g60,g61,g62,g63,g64,g65,g66,g67,g68,g69,g70,g71,g72,g73,g74] M K = K #[g0,g1,g2,g3,g4,g5,g6,g7,g8,g9,g10,g11,g12,g13,g14,g15,g16,g17,g18,g19,g20,g21,g22,g23,g24,g25,g26,g27,g28,g29,g30,g31,g32,g33,g34,g35,g36,g37,g38,g39,g40,g41,g42,g43,g44,.int .i64 x45,.int .i64 x46,.bool (decide (x46 < x45)),g48,g49,g50,g51,g52,g53,g54,g55,g56,g57,g58,g59,g60,g61,g62,g63,g64,g65,g66,g67,g68,g69,g70,g71,g72,g73,g74] M := by kernel_rfl
theorem k13_48 : P13 [1,1,1,1,1,0,1,0,0,1,1,0,0,1,0,1,0,0,1] = .seq (P13 [1,1,1,1,1,0,1,0,0,1,1,0,0,1,0,1,0,0,1,0]) (P13 [1,1,1,1,1,0,1,0,0,1,1,0,0,1,0,1,0,0,1,1]) := by kernel_rfl
theorem c13_49 : P13 [1,1,1,1,1,0,1,0,0,1,1,0,0,1,0,1,0,0,1,0] = .cond (.tmp 47) (P13 [1,1,1,1,1,0,1,0,0,1,1,0,0,1,0,1,0,0,1,0,0]) (P13 [1,1,1,1,1,0,1,0,0,1,1,0,0,1,0,1,0,0,1,0,1]) := by kernel_rfl
theorem k13_50 : P13 [1,1,1,1,1,0,1,0,0,1,1,0,0,1,0,1,0,0,1,0,0] = .skip := by kernel_rfl
theorem k13_51 : P13 [1,1,1,1,1,0,1,0,0,1,1,0,0,1,0,1,0,0,1,1] = .seq (P13 [1,1,1,1,1,0,1,0,0,1,1,0,0,1,0,1,0,0,1,1,0]) (P13 [1,1,1,1,1,0,1,0,0,1,1,0,0,1,0,1,0,0,1,1,1]) := by kernel_rfl
theorem k13_52 : P13 [1,1,1,1,1,0,1,0,0,1,1,0,0,1,0,1,0,0,1,1,0] = .block 3 (P13 [1,1,1,1,1,0,1,0,0,1,1,0,0,1,0,1,0,0,1,1,0,0]) := by kernel_rfl
theorem k13_53 : P13 [1,1,1,1,1,0,1,0,0,1,1,0,0,1,0,1,0,0,1,1,0,0] = .seq (P13 [1,1,1,1,1,0,1,0,0,1,1,0,0,1,0,1,0,0,1,1,0,0,0]) (P13 [1,1,1,1,1,0,1,0,0,1,1,0,0,1,0,1,0,0,1,1,0,0,1]) := by kernel_rfl
theorem k13_54 : P13 [1,1,1,1,1,0,1,0,0,1,1,0,0,1,0,1,0,0,1,1,0,0,0] = .region 12 (O13 [1,1,1,1,1,0,1,0,0,1,1,0,0,1,0,1,0,0,1,1,0,0,0]) false := by kernel_rfl
theorem r13_12 {Ax44 : Option Addr} {lx44 cx44 : Nat} {x46 : Int} {M : Mem} {call : CallM} {K : Array Value → Mem → R} :
    opsK Try.prog (fun _ => call) (O13 [1,1,1,1,1,0,1,0,0,1,1,0,0,1,0,1,0,0,1,1,0,0,0]) (O13 [1,1,1,1,1,0,1,0,0,1,1,0,0,1,0,1,0,0,1,1,0,0,0]).toList 0 #[g0,g1,g2,g3,g4,g5,g6,g7,g8,g9,g10,g11,g12,g13,g14,g15,g16,g17,g18,g19,g20,g21,g22,g23,g24,g25,g26,g27,g28,g29,g30,g31,g32,g33,g34,g35,g36,g37,g38,g39,g40,g41,g42,g43,.slice Ax44 lx44 cx44,g45,.int .i64 x46,g47,g48,g49,g50,g51,g52,g53,g54,g55,g56,g57,g58,g59,g60,g61,g62,g63,g64,g65,g66,g67,g68,g69,g70,g71,g72,g73,g74] M K = (idxA Ax44 lx44 1 x46).bind fun a_1 => (M.intAt .i64 a_1.block a_1.off).bind fun x_2 => K #[g0,g1,g2,g3,g4,g5,g6,g7,g8,g9,.int .i64 x46,.int .i64 x_2,g12,g13,g14,g15,g16,g17,g18,g19,g20,g21,g22,g23,g24,g25,g26,g27,g28,g29,g30,g31,g32,g33,g34,g35,g36,g37,g38,g39,g40,g41,g42,g43,.slice Ax44 lx44 cx44,g45,.int .i64 x46,g47,.int .i64 x46,.pointer (some a_1),.int .i64 x_2,g51,g52,g53,g54,g55,g56,g57,g58,g59,g60,g61,g62,g63,g64,g65,g66,g67,g68,g69,g70,g71,g72,g73,g74] M := by kernel_rfl
theorem k13_55 : P13 [1,1,1,1,1,0,1,0,0,1,1,0,0,1,0,1,0,0,1,1,0,0,1] = .region 13 (O13 [1,1,1,1,1,0,1,0,0,1,1,0,0,1,0,1,0,0,1,1,0,0,1]) true ∧ drawOk (O13 [1,1,1,1,1,0,1,0,0,1,1,0,0,1,0,1,0,0,1,1,0,0,1]) = true := ⟨by kernel_rfl, by kernel_rfl⟩
theorem r13_13 {x6 Ax8 : Option Addr} {lx8 cx8 : Nat} {x9 x10 x11 : Int} {M : Mem} {call : CallM} {K : Array Value → Mem → R} :
    opsI Try.prog (callAt call (O13 [1,1,1,1,1,0,1,0,0,1,1,0,0,1,0,1,0,0,1,1,0,0,1])) (O13 [1,1,1,1,1,0,1,0,0,1,1,0,0,1,0,1,0,0,1,1,0,0,1]) (ordOf (O13 [1,1,1,1,1,0,1,0,0,1,1,0,0,1,0,1,0,0,1,1,0,0,1])) [] #[g0,g1,g2,g3,g4,g5,.pointer x6,g7,.slice Ax8 lx8 cx8,.int .i64 x9,.int .i64 x10,.int .i64 x11,g12,g13,g14,g15,g16,g17,g18,g19,g20,g21,g22,g23,g24,g25,g26,g27,g28,g29,g30,g31,g32,g33,g34,g35,g36,g37,g38,g39,g40,g41,g42,g43,g44,g45,g46,g47,g48,g49,g50,g51,g52,g53,g54,g55,g56,g57,g58,g59,g60,g61,g62,g63,g64,g65,g66,g67,g68,g69,g70,g71,g72,g73,g74] M K = (idxA Ax8 lx8 1 x9).bind fun a_1 => (M.intAt .i64 a_1.block a_1.off).bind fun x_2 => (x6).bind fun a_3 => (M.cell a_3.block (a_3.off + 1)).bind fun v_4 => (callVal Try.prog v_4 #[.int .i64 x9, .int .i64 x10]).bind fun q_6 => (floored call q_6.1 q_6.2 M).bind fun r_5 => (asI .i64 r_5.1).bind fun x_7 => (idxA Ax8 lx8 1 x9).bind fun a_8 => (r_5.2.put a_8.block a_8.off (.int .i64 (IntKind.i64.wrap (x_2 + (IntKind.i64.wrap (x11 * x_7)))))).bind fun M_9 => K #[g0,g1,g2,g3,g4,g5,.pointer x6,g7,.slice Ax8 lx8 cx8,.int .i64 x9,.int .i64 x10,.int .i64 x11,g12,g13,g14,g15,g16,g17,g18,g19,g20,g21,g22,g23,g24,g25,g26,g27,g28,g29,g30,g31,g32,g33,g34,g35,g36,g37,g38,g39,g40,g41,g42,g43,g44,g45,g46,g47,g48,g49,g50,.slice Ax8 lx8 cx8,.int .i64 x9,.pointer (some a_1),.int .i64 x_2,.int .i64 x11,.pointer (some ⟨a_3.block, a_3.off + 1, none⟩),v_4,.int .i64 x9,.int .i64 x10,.int .i64 x_7,.int .i64 (IntKind.i64.wrap (x11 * x_7)),.int .i64 (IntKind.i64.wrap (x_2 + (IntKind.i64.wrap (x11 * x_7)))),.pointer (some a_8),g64,g65,g66,g67,g68,g69,g70,g71,g72,g73,g74] M_9 := by kernel_rfl
theorem k13_56 : P13 [1,1,1,1,1,0,1,0,0,1,1,0,0,1,0,1,0,0,1,1,1] = .region 14 (O13 [1,1,1,1,1,0,1,0,0,1,1,0,0,1,0,1,0,0,1,1,1]) false := by kernel_rfl
theorem r13_14 {x46 : Int} {M : Mem} {call : CallM} {K : Array Value → Mem → R} :
    opsK Try.prog (fun _ => call) (O13 [1,1,1,1,1,0,1,0,0,1,1,0,0,1,0,1,0,0,1,1,1]) (O13 [1,1,1,1,1,0,1,0,0,1,1,0,0,1,0,1,0,0,1,1,1]).toList 0 #[g0,g1,g2,g3,g4,g5,g6,g7,g8,g9,g10,g11,g12,g13,g14,g15,g16,g17,g18,g19,g20,g21,g22,g23,g24,g25,g26,g27,g28,g29,g30,g31,g32,g33,g34,g35,g36,g37,g38,g39,g40,g41,g42,g43,g44,g45,.int .i64 x46,g47,g48,g49,g50,g51,g52,g53,g54,g55,g56,g57,g58,g59,g60,g61,g62,g63,g64,g65,g66,g67,g68,g69,g70,g71,g72,g73,g74] M K = K #[g0,g1,g2,g3,g4,g5,g6,g7,g8,g9,g10,g11,g12,g13,g14,g15,g16,g17,g18,g19,g20,g21,g22,g23,g24,g25,g26,g27,g28,g29,g30,g31,g32,g33,g34,g35,g36,g37,g38,g39,g40,g41,g42,g43,g44,g45,.int .i64 (IntKind.i64.wrap (x46 + 1)),g47,g48,g49,g50,g51,g52,g53,g54,g55,g56,g57,g58,g59,g60,g61,g62,g63,.int .i64 (IntKind.i64.wrap (x46 + 1)),g65,g66,g67,g68,g69,g70,g71,g72,g73,g74] M := by kernel_rfl
theorem k13_57 : P13 [1,1,1,1,1,0,1,0,0,1,1,0,0,1,0,1,0,0,1,0,1] = .exit 2 := by kernel_rfl
theorem k13_58 : P13 [1,1,1,1,1,0,1,0,0,1,1,0,0,1,1] = .region 15 (O13 [1,1,1,1,1,0,1,0,0,1,1,0,0,1,1]) false := by kernel_rfl
theorem r13_15 {Ax8 : Option Addr} {lx8 cx8 : Nat} {x9 : Int} {M : Mem} {call : CallM} {K : Array Value → Mem → R} :
    opsK Try.prog (fun _ => call) (O13 [1,1,1,1,1,0,1,0,0,1,1,0,0,1,1]) (O13 [1,1,1,1,1,0,1,0,0,1,1,0,0,1,1]).toList 0 #[g0,g1,g2,g3,g4,g5,g6,g7,.slice Ax8 lx8 cx8,.int .i64 x9,g10,g11,g12,g13,g14,g15,g16,g17,g18,g19,g20,g21,g22,g23,g24,g25,g26,g27,g28,g29,g30,g31,g32,g33,g34,g35,g36,g37,g38,g39,g40,g41,g42,g43,g44,g45,g46,g47,g48,g49,g50,g51,g52,g53,g54,g55,g56,g57,g58,g59,g60,g61,g62,g63,g64,g65,g66,g67,g68,g69,g70,g71,g72,g73,g74] M K = (idxA Ax8 lx8 1 x9).bind fun a_1 => (M.intAt .i64 a_1.block a_1.off).bind fun x_2 => (call 28 #[.int .i64 x_2] M).bind fun r_3 => (asI .i64 r_3.1).bind fun x_4 => (idxA Ax8 lx8 1 x9).bind fun a_5 => (r_3.2.put a_5.block a_5.off (.int .i64 x_4)).bind fun M_6 => K #[g0,g1,g2,g3,g4,g5,g6,g7,.slice Ax8 lx8 cx8,.int .i64 x9,g10,g11,g12,g13,g14,g15,g16,g17,g18,g19,g20,g21,g22,g23,g24,g25,g26,g27,g28,g29,g30,g31,g32,g33,g34,g35,g36,g37,g38,g39,g40,g41,g42,g43,g44,g45,g46,g47,g48,g49,g50,g51,g52,g53,g54,g55,g56,g57,g58,g59,g60,g61,g62,g63,g64,.slice Ax8 lx8 cx8,.int .i64 x9,.slice Ax8 lx8 cx8,.int .i64 x9,.pointer (some a_1),.int .i64 x_2,.int .i64 x_4,.pointer (some a_5),g73,g74] M_6 := by kernel_rfl
theorem k13_59 : P13 [1,1,1,1,1,0,1,0,0,1,1,1] = .region 16 (O13 [1,1,1,1,1,0,1,0,0,1,1,1]) false := by kernel_rfl
theorem r13_16 {x41 : Int} {M : Mem} {call : CallM} {K : Array Value → Mem → R} :
    opsK Try.prog (fun _ => call) (O13 [1,1,1,1,1,0,1,0,0,1,1,1]) (O13 [1,1,1,1,1,0,1,0,0,1,1,1]).toList 0 #[g0,g1,g2,g3,g4,g5,g6,g7,g8,g9,g10,g11,g12,g13,g14,g15,g16,g17,g18,g19,g20,g21,g22,g23,g24,g25,g26,g27,g28,g29,g30,g31,g32,g33,g34,g35,g36,g37,g38,g39,g40,.int .i64 x41,g42,g43,g44,g45,g46,g47,g48,g49,g50,g51,g52,g53,g54,g55,g56,g57,g58,g59,g60,g61,g62,g63,g64,g65,g66,g67,g68,g69,g70,g71,g72,g73,g74] M K = K #[g0,g1,g2,g3,g4,g5,g6,g7,g8,g9,g10,g11,g12,g13,g14,g15,g16,g17,g18,g19,g20,g21,g22,g23,g24,g25,g26,g27,g28,g29,g30,g31,g32,g33,g34,g35,g36,g37,g38,g39,g40,.int .i64 (IntKind.i64.wrap (x41 + 1)),g42,g43,g44,g45,g46,g47,g48,g49,g50,g51,g52,g53,g54,g55,g56,g57,g58,g59,g60,g61,g62,g63,g64,g65,g66,g67,g68,g69,g70,g71,g72,.int .i64 (IntKind.i64.wrap (x41 + 1)),g74] M := by kernel_rfl
noncomputable def S13_1 : List Item := [.code (P13 [1,1,1,1,1,0,1,0,0]), .inLoop (P13 [1,1,1,1,1,0,1,0,0]), .inBlock 0, .code (P13 [1,1,1,1,1,1])]
def A13_1 (Ax1 : Option Addr) (lx1 cx1 : Nat) (x6 Ax8 : Option Addr) (lx8 cx8 : Nat) (x40 x41 : Int) (M : Mem) (Q : Value → Mem → Prop) : Prop := ∀ (g0 g2 g3 g4 g5 g7 g9 g10 g11 g12 g13 g14 g15 g16 g17 g18 g19 g20 g21 g22 g23 g24 g25 g26 g27 g28 g29 g30 g31 g32 g33 g34 g35 g36 g37 g38 g39 g42 g43 g44 g45 g46 g47 g48 g49 g50 g51 g52 g53 g54 g55 g56 g57 g58 g59 g60 g61 g62 g63 g64 g65 g66 g67 g68 g69 g70 g71 g72 g73 g74 : Value), Rn Try.prog Try.f13 S13_1 #[g0, .slice Ax1 lx1 cx1, g2, g3, g4, g5, .pointer x6, g7, .slice Ax8 lx8 cx8, g9, g10, g11, g12, g13, g14, g15, g16, g17, g18, g19, g20, g21, g22, g23, g24, g25, g26, g27, g28, g29, g30, g31, g32, g33, g34, g35, g36, g37, g38, g39, .int .i64 x40, .int .i64 x41, g42, g43, g44, g45, g46, g47, g48, g49, g50, g51, g52, g53, g54, g55, g56, g57, g58, g59, g60, g61, g62, g63, g64, g65, g66, g67, g68, g69, g70, g71, g72, g73, g74] M Q
noncomputable def S13_2 : List Item := [.code (P13 [1,1,1,1,1,0,1,0,0,1,1,0,0,1,0,1,0,0]), .inLoop (P13 [1,1,1,1,1,0,1,0,0,1,1,0,0,1,0,1,0,0]), .inBlock 2, .code (P13 [1,1,1,1,1,0,1,0,0,1,1,0,0,1,1]), .inBlock 1, .code (P13 [1,1,1,1,1,0,1,0,0,1,1,1]), .inLoop (P13 [1,1,1,1,1,0,1,0,0]), .inBlock 0, .code (P13 [1,1,1,1,1,1])]
def A13_2 (Ax1 : Option Addr) (lx1 cx1 : Nat) (x6 Ax8 : Option Addr) (lx8 cx8 : Nat) (x9 x40 x41 : Int) (Ax44 : Option Addr) (lx44 cx44 : Nat) (x45 x46 : Int) (M : Mem) (Q : Value → Mem → Prop) : Prop := ∀ (g0 g2 g3 g4 g5 g7 g10 g11 g12 g13 g14 g15 g16 g17 g18 g19 g20 g21 g22 g23 g24 g25 g26 g27 g28 g29 g30 g31 g32 g33 g34 g35 g36 g37 g38 g39 g42 g43 g47 g48 g49 g50 g51 g52 g53 g54 g55 g56 g57 g58 g59 g60 g61 g62 g63 g64 g65 g66 g67 g68 g69 g70 g71 g72 g73 g74 : Value), Rn Try.prog Try.f13 S13_2 #[g0, .slice Ax1 lx1 cx1, g2, g3, g4, g5, .pointer x6, g7, .slice Ax8 lx8 cx8, .int .i64 x9, g10, g11, g12, g13, g14, g15, g16, g17, g18, g19, g20, g21, g22, g23, g24, g25, g26, g27, g28, g29, g30, g31, g32, g33, g34, g35, g36, g37, g38, g39, .int .i64 x40, .int .i64 x41, g42, g43, .slice Ax44 lx44 cx44, .int .i64 x45, .int .i64 x46, g47, g48, g49, g50, g51, g52, g53, g54, g55, g56, g57, g58, g59, g60, g61, g62, g63, g64, g65, g66, g67, g68, g69, g70, g71, g72, g73, g74] M Q
theorem w13_0 {x0 : Int} {Ax1 : Option Addr} {lx1 cx1 : Nat} {M : Mem} {Q : Value → Mem → Prop} (H :
    Cn Try.prog 26 #[.int .i64 x0, .slice Ax1 lx1 cx1] M fun v1' N1' =>
     ∃ cs2', asU 2 v1' = some cs2' ∧
     ∃ cs3', asA 2 (cs2'.getD 0 undef) = some cs3' ∧
     ∃ x4', asI .i64 (cs3'.getD 0 undef) = some x4' ∧
     ∃ b5', asB (cs2'.getD 1 undef) = some b5' ∧
     ∃ M6', (N1'.new (.cells #[.int .i64 0, .nilFunc] 39)).put (2 * N1'.nb.size) 0 (.int .i64 x4') = some M6' ∧
     ∃ M7', M6'.put (2 * N1'.nb.size) 1 (cs3'.getD 1 undef) = some M7' ∧
     (((!b5') = true →
      Q (.tuple #[.slice none 0 0, .int .i64 2]) M7') ∧
      ((!b5') = false →
      ∃ v8', M7'.cell (2 * N1'.nb.size) (0 + 1) = some v8' ∧
      ∃ b9', fnilV Try.prog 33 v8' = some b9' ∧
      ((b9' = true →
       ∃ a10', idxA Ax1 lx1 1 0 = some a10' ∧
       ∃ x11', M7'.intAt .i64 a10'.block a10'.off = some x11' ∧
       ∃ a12', idxA Ax1 lx1 1 1 = some a12' ∧
       ∃ x13', M7'.intAt .i64 a12'.block a12'.off = some x13' ∧
       ∃ a14', idxA Ax1 lx1 1 2 = some a14' ∧
       ∃ x15', M7'.intAt .i64 a14'.block a14'.off = some x15' ∧
       ∃ a16', idxA Ax1 lx1 1 3 = some a16' ∧
       ∃ x17', M7'.intAt .i64 a16'.block a16'.off = some x17' ∧
       Cn Try.prog 27 #[.int .i64 x11', .int .i64 x13', .int .i64 x15', .int .i64 x17'] M7' fun v18' N18' =>
        ∃ s19', asS v18' = some s19' ∧
        Q (.tuple #[.slice s19'.1 (s19'.2.1) (s19'.2.2), .int .i64 0]) N18') ∧
       (b9' = false →
       ∃ r20', makeP Try.prog 22 (.int .i64 ((lx1 : Int))) (.int .i64 ((lx1 : Int))) M7' = some r20' ∧
       ∃ s21', asS r20'.1 = some s21' ∧
       A13_1 Ax1 lx1 cx1 (some ⟨2 * N1'.nb.size, 0, none⟩) s21'.1 s21'.2.1 s21'.2.2 (s21'.2.1 : Int) 0 r20'.2 Q))))) :
    Cn Try.prog 13 #[.int .i64 x0, .slice Ax1 lx1 cx1] M Q := by
  refine Cn.of b13 d13 t13 ?_
  refine Rn.seq k13_0 (Rn.region k13_1 (fun call K => r13_0) (Rch.leaf (Rn.seq k13_2 (Rn.region k13_3 (fun call K => r13_1) (Rch.call H fun v1' N1' H => Rch.ex H fun cs2' H => Rch.ex H fun cs3' H => Rch.ex H fun x4' H => Rch.ex H fun b5' H => Rch.ex H fun M6' H => Rch.ex H fun M7' H => ?_)))))
  refine Rch.leaf (Rn.seq k13_4 (Rn.seq k13_5 (Rn.region k13_6 (fun call K => r13_2) (Rch.leaf ?_))))
  refine Rn.cnd (v := !b5') ⟨c13_7, rfl, by kernel_rfl⟩ (fun h => ?_) (fun h => ?_)
  · replace H := H.1 (h)
    refine Rn.seq k13_8 (Rn.region k13_9 (fun call K => r13_3) (Rch.leaf ?_))
    exact Rn.ret k13_10 e13 H
  · replace H := H.2 (h)
    refine Rn.skip k13_12 (Rn.seq k13_13 (Rn.seq k13_14 (Rn.region k13_15 (fun call K => r13_4) (Rch.bind (x := ⟨2 * N1'.nb.size, 0, none⟩) rfl (Rch.ex H fun v8' H => Rch.ex H fun b9' H => Rch.leaf ?_)))))
    refine Rn.cnd (v := b9') ⟨c13_16, rfl, by kernel_rfl⟩ (fun h => ?_) (fun h => ?_)
    · replace H := H.1 (h)
      refine Rn.seq k13_17 (Rn.regionD k13_18 (fun call K => r13_5) (Rch.ex H fun a10' H => Rch.ex H fun x11' H => Rch.ex H fun a12' H => Rch.ex H fun x13' H => Rch.ex H fun a14' H => Rch.ex H fun x15' H => Rch.ex H fun a16' H => Rch.ex H fun x17' H => Rch.call H fun v18' N18' H => Rch.ex H fun s19' H => ?_))
      refine Rch.leaf ?_
      exact Rn.ret k13_19 e13 H
    · replace H := H.2 (h)
      refine Rn.skip k13_20 (Rn.seq k13_21 (Rn.region k13_22 (fun call K => r13_6) (Rch.ex H fun r20' H => Rch.ex H fun s21' H => Rch.leaf (Rn.seq k13_23 (Rn.seq k13_24 (Rn.region k13_25 (fun call K => r13_7) (Rch.leaf (Rn.block k13_26 (Rn.loop k13_27 ?_)))))))))
      exact H _ _ _ _ _ _ _ _ _ _ _ _ _ _ _ _ _ _ _ _ _ _ _ _ _ _ _ _ _ _ _ _ _ _ _ _ _ _ _ _ _ _ _ _ _ _ _ _ _ _ _ _ _ _ _ _ _ _ _ _ _ _ _ _ _ _ _ _ _ _

theorem w13_1 {Ax1 : Option Addr} {lx1 cx1 : Nat} {x6 Ax8 : Option Addr} {lx8 cx8 : Nat} {x40 x41 : Int} {M : Mem} {Q : Value → Mem → Prop} (H :
    ((x41 < x40 →
     A13_2 Ax1 lx1 cx1 x6 Ax8 lx8 cx8 x41 x40 x41 Ax1 lx1 cx1 (lx1 : Int) 0 M Q) ∧
     (¬ (x41 < x40) →
     Q (.tuple #[.slice Ax8 lx8 cx8, .int .i64 0]) M))) :
    A13_1 Ax1 lx1 cx1 x6 Ax8 lx8 cx8 x40 x41 M Q := by
  intro g0 g2 g3 g4 g5 g7 g9 g10 g11 g12 g13 g14 g15 g16 g17 g18 g19 g20 g21 g22 g23 g24 g25 g26 g27 g28 g29 g30 g31 g32 g33 g34 g35 g36 g37 g38 g39 g42 g43 g44 g45 g46 g47 g48 g49 g50 g51 g52 g53 g54 g55 g56 g57 g58 g59 g60 g61 g62 g63 g64 g65 g66 g67 g68 g69 g70 g71 g72 g73 g74
  refine Rn.seq k13_28 (Rn.region k13_29 (fun call K => r13_8) (Rch.leaf (Rn.seq k13_30 ?_)))
  refine Rn.cnd (v := decide (x41 < x40)) ⟨c13_31, rfl, by kernel_rfl⟩ (fun h => ?_) (fun h => ?_)
  · replace H := H.1 (of_decide_eq_true h)
    refine Rn.skip k13_32 (Rn.seq k13_33 (Rn.block k13_34 (Rn.seq k13_35 (Rn.region k13_36 (fun call K => r13_9) (Rch.leaf (Rn.seq k13_37 (Rn.seq k13_38 (Rn.region k13_39 (fun call K => r13_10) (Rch.leaf (Rn.block k13_40 (Rn.loop k13_41 ?_)))))))))))
    exact H _ _ _ _ _ _ _ _ _ _ _ _ _ _ _ _ _ _ _ _ _ _ _ _ _ _ _ _ _ _ _ _ _ _ _ _ _ _ _ _ _ _ _ _ _ _ _ _ _ _ _ _ _ _ _ _ _ _ _ _ _ _ _ _ _ _
  · replace H := H.2 (of_decide_eq_false h)
    refine Rn.exit k13_42 rfl (Rn.seq k13_43 (Rn.region k13_44 (fun call K => r13_17) (Rch.leaf ?_)))
    exact Rn.ret k13_45 e13 H

theorem w13_2 {Ax1 : Option Addr} {lx1 cx1 : Nat} {x6 Ax8 : Option Addr} {lx8 cx8 : Nat} {x9 x40 x41 : Int} {Ax44 : Option Addr} {lx44 cx44 : Nat} {x45 x46 : Int} {M : Mem} {Q : Value → Mem → Prop} (H :
    ((x46 < x45 →
     ∃ a22', idxA Ax44 lx44 1 x46 = some a22' ∧
     ∃ x23', M.intAt .i64 a22'.block a22'.off = some x23' ∧
     ∃ a24', idxA Ax8 lx8 1 x9 = some a24' ∧
     ∃ x25', M.intAt .i64 a24'.block a24'.off = some x25' ∧
     ∃ a26', x6 = some a26' ∧
     ∃ v27', M.cell a26'.block (a26'.off + 1) = some v27' ∧
     ∃ q28', callVal Try.prog v27' #[.int .i64 x9, .int .i64 x46] = some q28' ∧
     Cn Try.prog q28'.1 q28'.2 { M with floor := M.nb.size } fun v29' N29' =>
      ∃ x30', asI .i64 v29' = some x30' ∧
      ∃ a31', idxA Ax8 lx8 1 x9 = some a31' ∧
      ∃ M32', { N29' with floor := M.floor }.put a31'.block a31'.off (.int .i64 (IntKind.i64.wrap (x25' + (IntKind.i64.wrap (x23' * x30'))))) = some M32' ∧
      A13_2 Ax1 lx1 cx1 x6 Ax8 lx8 cx8 x9 x40 x41 Ax44 lx44 cx44 x45 (IntKind.i64.wrap (x46 + 1)) M32' Q) ∧
     (¬ (x46 < x45) →
     ∃ a33', idxA Ax8 lx8 1 x9 = some a33' ∧
     ∃ x34', M.intAt .i64 a33'.block a33'.off = some x34' ∧
     Cn Try.prog 28 #[.int .i64 x34'] M fun v35' N35' =>
      ∃ x36', asI .i64 v35' = some x36' ∧
      ∃ a37', idxA Ax8 lx8 1 x9 = some a37' ∧
      ∃ M38', N35'.put a37'.block a37'.off (.int .i64 x36') = some M38' ∧
      A13_1 Ax1 lx1 cx1 x6 Ax8 lx8 cx8 x40 (IntKind.i64.wrap (x41 + 1)) M38' Q))) :
    A13_2 Ax1 lx1 cx1 x6 Ax8 lx8 cx8 x9 x40 x41 Ax44 lx44 cx44 x45 x46 M Q := by
  intro g0 g2 g3 g4 g5 g7 g10 g11 g12 g13 g14 g15 g16 g17 g18 g19 g20 g21 g22 g23 g24 g25 g26 g27 g28 g29 g30 g31 g32 g33 g34 g35 g36 g37 g38 g39 g42 g43 g47 g48 g49 g50 g51 g52 g53 g54 g55 g56 g57 g58 g59 g60 g61 g62 g63 g64 g65 g66 g67 g68 g69 g70 g71 g72 g73 g74
  refine Rn.seq k13_46 (Rn.region k13_47 (fun call K => r13_11) (Rch.leaf (Rn.seq k13_48 ?_)))
  refine Rn.cnd (v := decide (x46 < x45)) ⟨c13_49, rfl, by kernel_rfl⟩ (fun h => ?_) (fun h => ?_)
  · replace H := H.1 (of_decide_eq_true h)
    refine Rn.skip k13_50 (Rn.seq k13_51 (Rn.block k13_52 (Rn.seq k13_53 (Rn.region k13_54 (fun call K => r13_12) (Rch.ex H fun a22' H => Rch.ex H fun x23' H => Rch.leaf (Rn.regionD k13_55 (fun call K => r13_13) (Rch.ex H fun a24' H => Rch.ex H fun x25' H => Rch.ex H fun a26' H => ?_)))))))
    refine Rch.ex H fun v27' H => Rch.ex H fun q28' H => Rch.callF H fun v29' N29' H => Rch.ex H fun x30' H => Rch.ex H fun a31' H => Rch.ex H fun M32' H => Rch.leaf (Rn.blk (Rn.region k13_56 (fun call K => r13_14) (Rch.leaf (Rn.lp ?_))))
    exact H _ _ _ _ _ _ _ _ _ _ _ _ _ _ _ _ _ _ _ _ _ _ _ _ _ _ _ _ _ _ _ _ _ _ _ _ _ _ _ _ _ _ _ _ _ _ _ _ _ _ _ _ _ _ _ _ _ _ _ _ _ _ _ _ _ _
  · replace H := H.2 (of_decide_eq_false h)
    refine Rn.exit k13_57 rfl (Rn.region k13_58 (fun call K => r13_15) (Rch.ex H fun a33' H => Rch.ex H fun x34' H => Rch.call H fun v35' N35' H => Rch.ex H fun x36' H => Rch.ex H fun a37' H => Rch.ex H fun M38' H => Rch.leaf (Rn.blk (Rn.region k13_59 (fun call K => r13_16) (Rch.leaf ?_)))))
    refine Rn.lp ?_
    exact H _ _ _ _ _ _ _ _ _ _ _ _ _ _ _ _ _ _ _ _ _ _ _ _ _ _ _ _ _ _ _ _ _ _ _ _ _ _ _ _ _ _ _ _ _ _ _ _ _ _ _ _ _ _ _ _ _ _ _ _ _ _ _ _ _ _ _ _ _ _


/-! ### zoetrope/basis.Inverse: function 14 -/
noncomputable abbrev P14 (p : List Nat) : Code := subC (codeOf Try.f14) p
noncomputable abbrev O14 (p : List Nat) : Array Oper := opsOf (subC (codeOf Try.f14) p)
theorem b14 : Try.prog.funcs[14]? = some Try.f14 ∧ (Orc.tab Try.prog).lookup 14 = none := ⟨by kernel_rfl, by kernel_rfl⟩
theorem d14 : Try.f14.body = some (P14 []) := by kernel_rfl
theorem t14 {x0 : Int} {Ax1 : Option Addr} {lx1 cx1 : Nat} : #[.int .i64 x0,.slice Ax1 lx1 cx1] ++ Array.replicate (Try.f14.ntmps - (#[.int .i64 x0,.slice Ax1 lx1 cx1] : Array Value).size) undef = #[.int .i64 x0,.slice Ax1 lx1 cx1,undef,undef,undef,undef,undef,undef,undef,undef,undef,undef,undef,undef,undef,undef,undef,undef,undef,undef,undef,undef,undef,undef,undef,undef,undef,undef,undef,undef,undef,undef,undef,undef,undef,undef,undef,undef,undef,undef,undef,undef,undef,undef,undef,undef,undef,undef,undef,undef,undef,undef,undef,undef,undef,undef,undef,undef,undef,undef,undef,undef,undef,undef,undef,undef,undef,undef,undef,undef,undef,undef,undef,undef,undef,undef,undef] := by kernel_rfl
theorem k14_0 : P14 [] = .seq (P14 [0]) (P14 [1]) := by kernel_rfl
theorem k14_1 : P14 [0] = .region 0 (O14 [0]) false := by kernel_rfl
theorem r14_0 {M : Mem} {call : CallM} {K : Array Value → Mem → R} :
    opsK Try.prog (fun _ => call) (O14 [0]) (O14 [0]).toList 0 #[g0,g1,g2,g3,g4,g5,g6,g7,g8,g9,g10,g11,g12,g13,g14,g15,g16,g17,g18,g19,g20,g21,g22,g23,g24,g25,g26,g27,g28,g29,g30,g31,g32,g33,g34,g35,g36,g37,g38,g39,g40,g41,g42,g43,g44,g45,g46,g47,g48,g49,g50,g51,g52,g53,g54,g55,g56,g57,g58,g59,g60,g61,g62,g63,g64,g65,g66,g67,g68,g69,g70,g71,g72,g73,g74,g75,g76] M K = K #[g0,g1,g2,g3,.slice none 0 0,.int .i64 0,g6,g7,g8,g9,g10,g11,g12,g13,g14,g15,g16,g17,g18,g19,g20,g21,g22,g23,g24,g25,g26,g27,g28,g29,g30,g31,g32,g33,g34,g35,g36,g37,g38,g39,g40,g41,g42,g43,g44,g45,g46,g47,g48,g49,g50,g51,g52,g53,g54,g55,g56,g57,g58,g59,g60,g61,g62,g63,g64,g65,g66,g67,g68,g69,g70,g71,g72,g73,g74,g75,g76] M := by kernel_rfl
theorem k14_2 : P14 [1] = .seq (P14 [1,0]) (P14 [1,1]) := by kernel_rfl
theorem k14_3 : P14 [1,0] = .region 1 (O14 [1,0]) false := by kernel_rfl
theorem r14_1 {x0 : Int} {Ax1 : Option Addr} {lx1 cx1 : Nat} {M : Mem} {call : CallM} {K : Array Value → Mem → R} :
    opsK Try.prog (fun _ => call) (O14 [1,0]) (O14 [1,0]).toList 0 #[.int .i64 x0,.slice Ax1 lx1 cx1,g2,g3,g4,g5,g6,g7,g8,g9,g10,g11,g12,g13,g14,g15,g16,g17,g18,g19,g20,g21,g22,g23,g24,g25,g26,g27,g28,g29,g30,g31,g32,g33,g34,g35,g36,g37,g38,g39,g40,g41,g42,g43,g44,g45,g46,g47,g48,g49,g50,g51,g52,g53,g54,g55,g56,g57,g58,g59,g60,g61,g62,g63,g64,g65,g66,g67,g68,g69,g70,g71,g72,g73,g74,g75,g76] M K = (call 26 #[.int .i64 x0, .slice Ax1 lx1 cx1] M).bind fun r_1 => (asU 2 r_1.1).bind fun cs_2 => (asA 2 (cs_2.getD 0 undef)).bind fun cs_3 => (asI .i64 (cs_3.getD 0 undef)).bind fun x_4 => (asB (cs_2.getD 1 undef)).bind fun b_5 => ((r_1.2.new (.cells #[.int .i64 0, .nilFunc] 39)).put (2 * r_1.2.nb.size) 0 (.int .i64 x_4)).bind fun M_6 => (M_6.put (2 * r_1.2.nb.size) 1 (cs_3.getD 1 undef)).bind fun M_7 => K #[.int .i64 x0,.slice Ax1 lx1 cx1,g2,g3,g4,g5,.pointer (some ⟨2 * r_1.2.nb.size, 0, none⟩),.bool b_5,g8,g9,g10,g11,.tuple #[.agg #[.int .i64 x_4, cs_3.getD 1 undef], .bool b_5],.int .i64 x0,.slice Ax1 lx1 cx1,.tuple #[.agg #[.int .i64 x_4, cs_3.getD 1 undef], .bool b_5],.agg #[.int .i64 x_4, cs_3.getD 1 undef],.bool b_5,g18,g19,g20,g21,g22,g23,g24,g25,g26,g27,g28,g29,g30,g31,g32,g33,g34,g35,g36,g37,g38,g39,g40,g41,g42,g43,g44,g45,g46,g47,g48,g49,g50,g51,g52,g53,g54,g55,g56,g57,g58,g59,g60,g61,g62,g63,g64,g65,g66,g67,g68,g69,g70,g71,g72,g73,g74,g75,g76] M_7 := by kernel_rfl
theorem k14_4 : P14 [1,1] = .seq (P14 [1,1,0]) (P14 [1,1,1]) := by kernel_rfl
theorem k14_5 : P14 [1,1,0] = .seq (P14 [1,1,0,0]) (P14 [1,1,0,1]) := by kernel_rfl
theorem k14_6 : P14 [1,1,0,0] = .region 2 (O14 [1,1,0,0]) false := by kernel_rfl
theorem r14_2 {x7 : Bool} {M : Mem} {call : CallM} {K : Array Value → Mem → R} :
    opsK Try.prog (fun _ => call) (O14 [1,1,0,0]) (O14 [1,1,0,0]).toList 0 #[g0,g1,g2,g3,g4,g5,g6,.bool x7,g8,g9,g10,g11,g12,g13,g14,g15,g16,g17,g18,g19,g20,g21,g22,g23,g24,g25,g26,g27,g28,g29,g30,g31,g32,g33,g34,g35,g36,g37,g38,g39,g40,g41,g42,g43,g44,g45,g46,g47,g48,g49,g50,g51,g52,g53,g54,g55,g56,g57,g58,g59,g60,g61,g62,g63,g64,g65,g66,g67,g68,g69,g70,g71,g72,g73,g74,g75,g76] M K = K #[g0,g1,g2,g3,g4,g5,g6,.bool x7,g8,g9,g10,g11,g12,g13,g14,g15,g16,g17,.bool x7,.bool (!x7),g20,g21,g22,g23,g24,g25,g26,g27,g28,g29,g30,g31,g32,g33,g34,g35,g36,g37,g38,g39,g40,g41,g42,g43,g44,g45,g46,g47,g48,g49,g50,g51,g52,g53,g54,g55,g56,g57,g58,g59,g60,g61,g62,g63,g64,g65,g66,g67,g68,g69,g70,g71,g72,g73,g74,g75,g76] M := by kernel_rfl
theorem c14_7 : P14 [1,1,0,1] = .cond (.tmp 19) (P14 [1,1,0,1,0]) (P14 [1,1,0,1,1]) := by kernel_rfl
theorem k14_8 : P14 [1,1,0,1,0] = .seq (P14 [1,1,0,1,0,0]) (P14 [1,1,0,1,0,1]) := by kernel_rfl
theorem k14_9 : P14 [1,1,0,1,0,0] = .region 3 (O14 [1,1,0,1,0,0]) false := by kernel_rfl
theorem r14_3 {M : Mem} {call : CallM} {K : Array Value → Mem → R} :
    opsK Try.prog (fun _ => call) (O14 [1,1,0,1,0,0]) (O14 [1,1,0,1,0,0]).toList 0 #[g0,g1,g2,g3,g4,g5,g6,g7,g8,g9,g10,g11,g12,g13,g14,g15,g16,g17,g18,g19,g20,g21,g22,g23,g24,g25,g26,g27,g28,g29,g30,g31,g32,g33,g34,g35,g36,g37,g38,g39,g40,g41,g42,g43,g44,g45,g46,g47,g48,g49,g50,g51,g52,g53,g54,g55,g56,g57,g58,g59,g60,g61,g62,g63,g64,g65,g66,g67,g68,g69,g70,g71,g72,g73,g74,g75,g76] M K = K #[g0,g1,g2,g3,.slice none 0 0,.int .i64 2,g6,g7,g8,g9,g10,g11,g12,g13,g14,g15,g16,g17,g18,g19,g20,g21,g22,g23,g24,g25,g26,g27,g28,g29,g30,g31,g32,g33,g34,g35,g36,g37,g38,g39,g40,g41,g42,g43,g44,g45,g46,g47,g48,g49,g50,g51,g52,g53,g54,g55,g56,g57,g58,g59,g60,g61,g62,g63,g64,g65,g66,g67,g68,g69,g70,g71,g72,g73,g74,g75,g76] M := by kernel_rfl
theorem k14_10 : P14 [1,1,0,1,0,1] = .ret := by kernel_rfl
theorem e14 {M : Mem} : finish Try.prog Try.f14 #[g0,g1,g2,g3,g4,g5,g6,g7,g8,g9,g10,g11,g12,g13,g14,g15,g16,g17,g18,g19,g20,g21,g22,g23,g24,g25,g26,g27,g28,g29,g30,g31,g32,g33,g34,g35,g36,g37,g38,g39,g40,g41,g42,g43,g44,g45,g46,g47,g48,g49,g50,g51,g52,g53,g54,g55,g56,g57,g58,g59,g60,g61,g62,g63,g64,g65,g66,g67,g68,g69,g70,g71,g72,g73,g74,g75,g76] M = some (.tuple #[g4, g5], M) := by kernel_rfl
theorem k14_12 : P14 [1,1,0,1,1] = .skip := by kernel_rfl
theorem k14_13 : P14 [1,1,1] = .seq (P14 [1,1,1,0]) (P14 [1,1,1,1]) := by kernel_rfl
theorem k14_14 : P14 [1,1,1,0] = .seq (P14 [1,1,1,0,0]) (P14 [1,1,1,0,1]) := by kernel_rfl
theorem k14_15 : P14 [1,1,1,0,0] = .region 4 (O14 [1,1,1,0,0]) false := by kernel_rfl
theorem r14_4 {x6 : Option Addr} {M : Mem} {call : CallM} {K : Array Value → Mem → R} :
    opsK Try.prog (fun _ => call) (O14 [1,1,1,0,0]) (O14 [1,1,1,0,0]).toList 0 #[g0,g1,g2,g3,g4,g5,.pointer x6,g7,g8,g9,g10,g11,g12,g13,g14,g15,g16,g17,g18,g19,g20,g21,g22,g23,g24,g25,g26,g27,g28,g29,g30,g31,g32,g33,g34,g35,g36,g37,g38,g39,g40,g41,g42,g43,g44,g45,g46,g47,g48,g49,g50,g51,g52,g53,g54,g55,g56,g57,g58,g59,g60,g61,g62,g63,g64,g65,g66,g67,g68,g69,g70,g71,g72,g73,g74,g75,g76] M K = (x6).bind fun a_1 => (M.cell a_1.block (a_1.off + 1)).bind fun v_2 => (fnilV Try.prog 33 v_2).bind fun b_3 => K #[g0,g1,g2,g3,g4,g5,.pointer x6,g7,g8,g9,g10,g11,g12,g13,g14,g15,g16,g17,g18,g19,.pointer (some ⟨a_1.block, a_1.off + 1, none⟩),v_2,.bool b_3,g23,g24,g25,g26,g27,g28,g29,g30,g31,g32,g33,g34,g35,g36,g37,g38,g39,g40,g41,g42,g43,g44,g45,g46,g47,g48,g49,g50,g51,g52,g53,g54,g55,g56,g57,g58,g59,g60,g61,g62,g63,g64,g65,g66,g67,g68,g69,g70,g71,g72,g73,g74,g75,g76] M := by kernel_rfl
theorem c14_16 : P14 [1,1,1,0,1] = .cond (.tmp 22) (P14 [1,1,1,0,1,0]) (P14 [1,1,1,0,1,1]) := by kernel_rfl
theorem k14_17 : P14 [1,1,1,0,1,0] = .seq (P14 [1,1,1,0,1,0,0]) (P14 [1,1,1,0,1,0,1]) := by kernel_rfl
theorem k14_18 : P14 [1,1,1,0,1,0,0] = .region 5 (O14 [1,1,1,0,1,0,0]) true ∧ drawOk (O14 [1,1,1,0,1,0,0]) = true := ⟨by kernel_rfl, by kernel_rfl⟩
theorem r14_5 {Ax1 : Option Addr} {lx1 cx1 : Nat} {M : Mem} {call : CallM} {K : Array Value → Mem → R} :
    opsI Try.prog (callAt call (O14 [1,1,1,0,1,0,0])) (O14 [1,1,1,0,1,0,0]) (ordOf (O14 [1,1,1,0,1,0,0])) [] #[g0,.slice Ax1 lx1 cx1,g2,g3,g4,g5,g6,g7,g8,g9,g10,g11,g12,g13,g14,g15,g16,g17,g18,g19,g20,g21,g22,g23,g24,g25,g26,g27,g28,g29,g30,g31,g32,g33,g34,g35,g36,g37,g38,g39,g40,g41,g42,g43,g44,g45,g46,g47,g48,g49,g50,g51,g52,g53,g54,g55,g56,g57,g58,g59,g60,g61,g62,g63,g64,g65,g66,g67,g68,g69,g70,g71,g72,g73,g74,g75,g76] M K = (idxA Ax1 lx1 1 0).bind fun a_1 => (M.intAt .i64 a_1.block a_1.off).bind fun x_2 => (idxA Ax1 lx1 1 1).bind fun a_3 => (M.intAt .i64 a_3.block a_3.off).bind fun x_4 => (idxA Ax1 lx1 1 2).bind fun a_5 => (M.intAt .i64 a_5.block a_5.off).bind fun x_6 => (idxA Ax1 lx1 1 3).bind fun a_7 => (M.intAt .i64 a_7.block a_7.off).bind fun x_8 => (call 29 #[.int .i64 x_2, .int .i64 x_4, .int .i64 x_6, .int .i64 x_8] M).bind fun r_9 => (asS r_9.1).bind fun s_10 => K #[g0,.slice Ax1 lx1 cx1,g2,g3,.slice s_10.1 (s_10.2.1) (s_10.2.2),.int .i64 0,g6,g7,g8,g9,g10,g11,g12,g13,g14,g15,g16,g17,g18,g19,g20,g21,g22,.slice Ax1 lx1 cx1,.pointer (some a_1),.int .i64 x_2,.slice Ax1 lx1 cx1,.pointer (some a_3),.int .i64 x_4,.slice Ax1 lx1 cx1,.pointer (some a_5),.int .i64 x_6,.slice Ax1 lx1 cx1,.pointer (some a_7),.int .i64 x_8,.slice s_10.1 (s_10.2.1) (s_10.2.2),g36,g37,g38,g39,g40,g41,g42,g43,g44,g45,g46,g47,g48,g49,g50,g51,g52,g53,g54,g55,g56,g57,g58,g59,g60,g61,g62,g63,g64,g65,g66,g67,g68,g69,g70,g71,g72,g73,g74,g75,g76] r_9.2 := by kernel_rfl
theorem k14_19 : P14 [1,1,1,0,1,0,1] = .ret := by kernel_rfl
theorem k14_20 : P14 [1,1,1,0,1,1] = .skip := by kernel_rfl
theorem k14_21 : P14 [1,1,1,1] = .seq (P14 [1,1,1,1,0]) (P14 [1,1,1,1,1]) := by kernel_rfl
theorem k14_22 : P14 [1,1,1,1,0] = .region 6 (O14 [1,1,1,1,0]) false := by kernel_rfl
theorem r14_6 {Ax1 : Option Addr} {lx1 cx1 : Nat} {M : Mem} {call : CallM} {K : Array Value → Mem → R} :
    opsK Try.prog (fun _ => call) (O14 [1,1,1,1,0]) (O14 [1,1,1,1,0]).toList 0 #[g0,.slice Ax1 lx1 cx1,g2,g3,g4,g5,g6,g7,g8,g9,g10,g11,g12,g13,g14,g15,g16,g17,g18,g19,g20,g21,g22,g23,g24,g25,g26,g27,g28,g29,g30,g31,g32,g33,g34,g35,g36,g37,g38,g39,g40,g41,g42,g43,g44,g45,g46,g47,g48,g49,g50,g51,g52,g53,g54,g55,g56,g57,g58,g59,g60,g61,g62,g63,g64,g65,g66,g67,g68,g69,g70,g71,g72,g73,g74,g75,g76] M K = (makeP Try.prog 22 (.int .i64 ((lx1 : Int))) (.int .i64 ((lx1 : Int))) M).bind fun r_1 => (asS r_1.1).bind fun s_2 => K #[g0,.slice Ax1 lx1 cx1,g2,g3,g4,g5,g6,g7,.slice s_2.1 (s_2.2.1) (s_2.2.2),g9,g10,g11,g12,g13,g14,g15,g16,g17,g18,g19,g20,g21,g22,g23,g24,g25,g26,g27,g28,g29,g30,g31,g32,g33,g34,g35,.slice Ax1 lx1 cx1,.int .i64 ((lx1 : Int)),.slice s_2.1 (s_2.2.1) (s_2.2.2),g39,g40,g41,g42,g43,g44,g45,g46,g47,g48,g49,g50,g51,g52,g53,g54,g55,g56,g57,g58,g59,g60,g61,g62,g63,g64,g65,g66,g67,g68,g69,g70,g71,g72,g73,g74,g75,g76] r_1.2 := by kernel_rfl
theorem k14_23 : P14 [1,1,1,1,1] = .seq (P14 [1,1,1,1,1,0]) (P14 [1,1,1,1,1,1]) := by kernel_rfl
theorem k14_24 : P14 [1,1,1,1,1,0] = .seq (P14 [1,1,1,1,1,0,0]) (P14 [1,1,1,1,1,0,1]) := by kernel_rfl
theorem k14_25 : P14 [1,1,1,1,1,0,0] = .region 7 (O14 [1,1,1,1,1,0,0]) false := by kernel_rfl
theorem r14_7 {Ax8 : Option Addr} {lx8 cx8 : Nat} {M : Mem} {call : CallM} {K : Array Value → Mem → R} :
    opsK Try.prog (fun _ => call) (O14 [1,1,1,1,1,0,0]) (O14 [1,1,1,1,1,0,0]).toList 0 #[g0,g1,g2,g3,g4,g5,g6,g7,.slice Ax8 lx8 cx8,g9,g10,g11,g12,g13,g14,g15,g16,g17,g18,g19,g20,g21,g22,g23,g24,g25,g26,g27,g28,g29,g30,g31,g32,g33,g34,g35,g36,g37,g38,g39,g40,g41,g42,g43,g44,g45,g46,g47,g48,g49,g50,g51,g52,g53,g54,g55,g56,g57,g58,g59,g60,g61,g62,g63,g64,g65,g66,g67,g68,g69,g70,g71,g72,g73,g74,g75,g76] M K = K #[g0,g1,g2,g3,g4,g5,g6,g7,.slice Ax8 lx8 cx8,g9,g10,g11,g12,g13,g14,g15,g16,g17,g18,g19,g20,g21,g22,g23,g24,g25,g26,g27,g28,g29,g30,g31,g32,g33,g34,g35,g36,g37,g38,.slice Ax8 lx8 cx8,.int .i64 ((lx8 : Int)),.int .i64 0,g42,g43,g44,g45,g46,g47,g48,g49,g50,g51,g52,g53,g54,g55,g56,g57,g58,g59,g60,g61,g62,g63,g64,g65,g66,g67,g68,g69,g70,g71,g72,g73,g74,g75,g76] M := by kernel_rfl
theorem k14_26 : P14 [1,1,1,1,1,0,1] = .block 0 (P14 [1,1,1,1,1,0,1,0]) := by kernel_rfl
theorem k14_27 : P14 [1,1,1,1,1,0,1,0] = .loop (P14 [1,1,1,1,1,0,1,0,0]) := by kernel_rfl
theorem k14_28 : P14 [1,1,1,1,1,0,1,0,0] = .seq (P14 [1,1,1,1,1,0,1,0,0,0]) (P14 [1,1,1,1,1,0,1,0,0,1]) := by kernel_rfl
theorem k14_29 : P14 [1,1,1,1,1,0,1,0,0,0] = .region 8 (O14 [1,1,1,1,1,0,1,0,0,0]) false := by kernel_rfl
theorem r14_8 {x40 x41 : Int} {M : Mem} {call : CallM} {K : Array Value → Mem → R} :
    opsK Try.prog (fun _ => call) (O14 [1,1,1,1,1,0,1,0,0,0]) (O14 [1,1,1,1,1,0,1,0,0,0]).toList 0 #[g0,g1,g2,g3,g4,g5,g6,g7,g8,g9,g10,g11,g12,g13,g14,g15,g16,g17,g18,g19,g20,g21,g22,g23,g24,g25,g26,g27,g28,g29,g30,g31,g32,g33,g34,g35,g36,g37,g38,g39,.int .i64 x40,.int .i64 x41,g42,g43,g44,g45,g46,g47,g48,g49,g50,g51,g52,g53,g54,g55,g56,g57,g58,g59,g60,g61,g62,g63,g64,g65,g66,g67,g68,g69,g70,g71,g72,g73,g74,g75,g76] M K = K #[g0,g1,g2,g3,g4,g5,g6,g7,g8,g9,g10,g11,g12,g13,g14,g15,g16,g17,g18,g19,g20,g21,g22,g23,g24,g25,g26,g27,g28,g29,g30,g31,g32,g33,g34,g35,g36,g37,g38,g39,.int .i64 x40,.int .i64 x41,.bool (decide (x41 < x40)),g43,g44,g45,g46,g47,g48,g49,g50,g51,g52,g53,g54,g55,g56,g57,g58,g59,g60,g61,g62,g63,g64,g65,g66,g67,g68,g69,g70,g71,g72,g73,g74,g75,g76] M := by kernel_rfl
theorem k14_30 : P14 [1,1,1,1,1,0,1,0,0,1] = .seq (P14 [1,1,1,1,1,0,1,0,0,1,0]) (P14 [1,1,1,1,1,0,1,0,0,1,1]) := by kernel_rfl
theorem c14_31 : P14 [1,1,1,1,1,0,1,0,0,1,0] = .cond (.tmp 42) (P14 [1,1,1,1,1,0,1,0,0,1,0,0]) (P14 [1,1,1,1,1,0,1,0,0,1,0,1]) := by kernel_rfl
theorem k14_32 : P14 [1,1,1,1,1,0,1,0,0,1,0,0] = .skip := by kernel_rfl
theorem k14_33 : P14 [1,1,1,1,1,0,1,0,0,1,1] = .seq (P14 [1,1,1,1,1,0,1,0,0,1,1,0]) (P14 [1,1,1,1,1,0,1,0,0,1,1,1]) := by kernel_rfl
theorem k14_34 : P14 [1,1,1,1,1,0,1,0,0,1,1,0] = .block 1 (P14 [1,1,1,1,1,0,1,0,0,1,1,0,0]) := by kernel_rfl
theorem k14_35 : P14 [1,1,1,1,1,0,1,0,0,1,1,0,0] = .seq (P14 [1,1,1,1,1,0,1,0,0,1,1,0,0,0]) (P14 [1,1,1,1,1,0,1,0,0,1,1,0,0,1]) := by kernel_rfl
theorem k14_36 : P14 [1,1,1,1,1,0,1,0,0,1,1,0,0,0] = .region 9 (O14 [1,1,1,1,1,0,1,0,0,1,1,0,0,0]) false := by kernel_rfl
theorem r14_9 {x41 : Int} {M : Mem} {call : CallM} {K : Array Value → Mem → R} :
    opsK Try.prog (fun _ => call) (O14 [1,1,1,1,1,0,1,0,0,1,1,0,0,0]) (O14 [1,1,1,1,1,0,1,0,0,1,1,0,0,0]).toList 0 #[g0,g1,g2,g3,g4,g5,g6,g7,g8,g9,g10,g11,g12,g13,g14,g15,g16,g17,g18,g19,g20,g21,g22,g23,g24,g25,g26,g27,g28,g29,g30,g31,g32,g33,g34,g35,g36,g37,g38,g39,g40,.int .i64 x41,g42,g43,g44,g45,g46,g47,g48,g49,g50,g51,g52,g53,g54,g55,g56,g57,g58,g59,g60,g61,g62,g63,g64,g65,g66,g67,g68,g69,g70,g71,g72,g73,g74,g75,g76] M K = K #[g0,g1,g2,g3,g4,g5,g6,g7,g8,.int .i64 x41,g10,g11,g12,g13,g14,g15,g16,g17,g18,g19,g20,g21,g22,g23,g24,g25,g26,g27,g28,g29,g30,g31,g32,g33,g34,g35,g36,g37,g38,g39,g40,.int .i64 x41,g42,.int .i64 x41,g44,g45,g46,g47,g48,g49,g50,g51,g52,g53,g54,g55,g56,g57,g58,g59,g60,g61,g62,g63,g64,g65,g66,g67,g68,g69,g70,g71,g72,g73,g74,g75,g76] M := by kernel_rfl
theorem k14_37 : P14 [1,1,1,1,1,0,1,0,0,1,1,0,0,1] = .seq (P14 [1,1,1,1,1,0,1,0,0,1,1,0,0,1,0]) (P14 [1,1,1,1,1,0,1,0,0,1,1,0,0,1,1]) := by kernel_rfl
theorem k14_38 : P14 [1,1,1,1,1,0,1,0,0,1,1,0,0,1,0] = .seq (P14 [1,1,1,1,1,0,1,0,0,1,1,0,0,1,0,0]) (P14 [1,1,1,1,1,0,1,0,0,1,1,0,0,1,0,1]) := by kernel_rfl
theorem k14_39 : P14 [1,1,1,1,1,0,1,0,0,1,1,0,0,1,0,0] = .region 10 (O14 [1,1,1,1,1,0,1,0,0,1,1,0,0,1,0,0]) false := by kernel_rfl
theorem r14_10 {Ax1 : Option Addr} {lx1 cx1 : Nat} {M : Mem} {call : CallM} {K : Array Value → Mem → R} :
    opsK Try.prog (fun _ => call) (O14 [1,1,1,1,1,0,1,0,0,1,1,0,0,1,0,0]) (O14 [1,1,1,1,1,0,1,0,0,1,1,0,0,1,0,0]).toList 0 #[g0,.slice Ax1 lx1 cx1,g2,g3,g4,g5,g6,g7,g8,g9,g10,g11,g12,g13,g14,g15,g16,g17,g18,g19,g20,g21,g22,g23,g24,g25,g26,g27,g28,g29,g30,g31,g32,g33,g34,g35,g36,g37,g38,g39,g40,g41,g42,g43,g44,g45,g46,g47,g48,g49,g50,g51,g52,g53,g54,g55,g56,g57,g58,g59,g60,g61,g62,g63,g64,g65,g66,g67,g68,g69,g70,g71,g72,g73,g74,g75,g76] M K = K #[g0,.slice Ax1 lx1 cx1,g2,g3,g4,g5,g6,g7,g8,g9,g10,g11,g12,g13,g14,g15,g16,g17,g18,g19,g20,g21,g22,g23,g24,g25,g26,g27,g28,g29,g30,g31,g32,g33,g34,g35,g36,g37,g38,g39,g40,g41,g42,g43,.slice Ax1 lx1 cx1,.int .i64 ((lx1 : Int)),.int .i64 0,g47,g48,g49,g50,g51,g52,g53,g54,g55,g56,g57,g58,g59,g60,g61,g62,g63,g64,g65,g66,g67,g68,g69,g70,g71,g72,g73,g74,g75,g76] M := by kernel_rfl
theorem k14_40 : P14 [1,1,1,1,1,0,1,0,0,1,1,0,0,1,0,1] = .block 2 (P14 [1,1,1,1,1,0,1,0,0,1,1,0,0,1,0,1,0]) := by kernel_rfl
theorem k14_41 : P14 [1,1,1,1,1,0,1,0,0,1,1,0,0,1,0,1,0] = .loop (P14 [1,1,1,1,1,0,1,0,0,1,1,0,0,1,0,1,0,0]) := by kernel_rfl
theorem k14_42 : P14 [1,1,1,1,1,0,1,0,0,1,0,1] = .exit 0 := by kernel_rfl
theorem k14_43 : P14 [1,1,1,1,1,1] = .seq (P14 [1,1,1,1,1,1,0]) (P14 [1,1,1,1,1,1,1]) := by kernel_rfl
theorem k14_44 : P14 [1,1,1,1,1,1,0] = .region 18 (O14 [1,1,1,1,1,1,0]) false := by kernel_rfl
theorem r14_18 {Ax8 : Option Addr} {lx8 cx8 : Nat} {M : Mem} {call : CallM} {K : Array Value → Mem → R} :
    opsK Try.prog (fun _ => call) (O14 [1,1,1,1,1,1,0]) (O14 [1,1,1,1,1,1,0]).toList 0 #[g0,g1,g2,g3,g4,g5,g6,g7,.slice Ax8 lx8 cx8,g9,g10,g11,g12,g13,g14,g15,g16,g17,g18,g19,g20,g21,g22,g23,g24,g25,g26,g27,g28,g29,g30,g31,g32,g33,g34,g35,g36,g37,g38,g39,g40,g41,g42,g43,g44,g45,g46,g47,g48,g49,g50,g51,g52,g53,g54,g55,g56,g57,g58,g59,g60,g61,g62,g63,g64,g65,g66,g67,g68,g69,g70,g71,g72,g73,g74,g75,g76] M K = K #[g0,g1,g2,g3,.slice Ax8 lx8 cx8,.int .i64 0,g6,g7,.slice Ax8 lx8 cx8,g9,g10,g11,g12,g13,g14,g15,g16,g17,g18,g19,g20,g21,g22,g23,g24,g25,g26,g27,g28,g29,g30,g31,g32,g33,g34,g35,g36,g37,g38,g39,g40,g41,g42,g43,g44,g45,g46,g47,g48,g49,g50,g51,g52,g53,g54,g55,g56,g57,g58,g59,g60,g61,g62,g63,g64,g65,g66,g67,g68,g69,g70,g71,g72,g73,g74,g75,.slice Ax8 lx8 cx8] M := by kernel_rfl
theorem k14_45 : P14 [1,1,1,1,1,1,1] = .ret := by kernel_rfl
theorem k14_46 : P14 [1,1,1,1,1,0,1,0,0,1,1,0,0,1,0,1,0,0] = .seq (P14 [1,1,1,1,1,0,1,0,0,1,1,0,0,1,0,1,0,0,0]) (P14 [1,1,1,1,1,0,1,0,0,1,1,0,0,1,0,1,0,0,1]) := by kernel_rfl
theorem k14_47 : P14 [1,1,1,1,1,0,1,0,0,1,1,0,0,1,0,1,0,0,0] = .region 11 (O14 [1,1,1,1,1,0,1,0,0,1,1,0,0,1,0,1,0,0,0]) false := by kernel_rfl
theorem r14_11 {x45 x46 : Int} {M : Mem} {call : CallM} {K : Array Value → Mem → R} :
    opsK Try.prog (fun _ => call) (O14 [1,1,1,1,1,0,1,0,0,1,1,0,0,1,0,1,0,0,0]) (O14 [1,1,1,1,1,0,1,0,0,1,1,0,0,1,0,1,0,0,0]).toList 0 #[g0,g1,g2,g3,g4,g5,g6,g7,g8,g9,g10,g11,g12,g13,g14,g15,g16,g17,g18,g19,g20,g21,g22,g23,g24,g25,g26,g27,g28,g29,g30,g31,g32,g33,g34,g35,g36,g37,g38,g39,g40,g41,g42,g43,g44,.int .i64 x45,.int .i64 x46,g47,g48,g49,g50,g51,g52,g53,g54,g55,g56,g57,g58,g59,g60,g61,g62,g63,g64,g65,g66,g67,g68,g69,g70,g71,g72,g73,g74,g75,g76] M K = K #[g0,g1,g2,g3,g4,g5,g6,g7,g8,g9,g10,g11,g12,g13,g14,g15,g16,g17,g18,g19,g20,g21,g22,g23,g24,g25,g26,g27,g28,g29,g30,g31,g32,g33,g34,g35,g36,g37,g38,g39,g40,g41,g42,g43,g44,.int .i64 x45,.int .i64 x46,.bool (decide (x46 < x45)),g48,g49,g50,g51,g52,g53,g54,g55,g56,g57,g58,g59,g60,g61,g62,g63,g64,g65,g66,g67,g68,g69,g70,g71,g72,g73,g74,g75,g76] M := by kernel_rfl
theorem k14_48 : P14 [1,1,1,1,1,0,1,0,0,1,1,0,0,1,0,1,0,0,1] = .seq (P14 [1,1,1,1,1,0,1,0,0,1,1,0,0,1,0,1,0,0,1,0]) (P14 [1,1,1,1,1,0,1,0,0,1,1,0,0,1,0,1,0,0,1,1]) := by kernel_rfl
theorem c14_49 : P14 [1,1,1,1,1,0,1,0,0,1,1,0,0,1,0,1,0,0,1,0] = .cond (.tmp 47) (P14 [1,1,1,1,1,0,1,0,0,1,1,0,0,1,0,1,0,0,1,0,0]) (P14 [1,1,1,1,1,0,1,0,0,1,1,0,0,1,0,1,0,0,1,0,1]) := by kernel_rfl
theorem k14_50 : P14 [1,1,1,1,1,0,1,0,0,1,1,0,0,1,0,1,0,0,1,0,0] = .skip := by kernel_rfl
theorem k14_51 : P14 [1,1,1,1,1,0,1,0,0,1,1,0,0,1,0,1,0,0,1,1] = .seq (P14 [1,1,1,1,1,0,1,0,0,1,1,0,0,1,0,1,0,0,1,1,0]) (P14 [1,1,1,1,1,0,1,0,0,1,1,0,0,1,0,1,0,0,1,1,1]) := by kernel_rfl
theorem k14_52 : P14 [1,1,1,1,1,0,1,0,0,1,1,0,0,1,0,1,0,0,1,1,0] = .block 3 (P14 [1,1,1,1,1,0,1,0,0,1,1,0,0,1,0,1,0,0,1,1,0,0]) := by kernel_rfl
theorem k14_53 : P14 [1,1,1,1,1,0,1,0,0,1,1,0,0,1,0,1,0,0,1,1,0,0] = .seq (P14 [1,1,1,1,1,0,1,0,0,1,1,0,0,1,0,1,0,0,1,1,0,0,0]) (P14 [1,1,1,1,1,0,1,0,0,1,1,0,0,1,0,1,0,0,1,1,0,0,1]) := by kernel_rfl
theorem k14_54 : P14 [1,1,1,1,1,0,1,0,0,1,1,0,0,1,0,1,0,0,1,1,0,0,0] = .region 12 (O14 [1,1,1,1,1,0,1,0,0,1,1,0,0,1,0,1,0,0,1,1,0,0,0]) false := by kernel_rfl
theorem r14_12 {Ax44 : Option Addr} {lx44 cx44 : Nat} {x46 : Int} {M : Mem} {call : CallM} {K : Array Value → Mem → R} :
    opsK Try.prog (fun _ => call) (O14 [1,1,1,1,1,0,1,0,0,1,1,0,0,1,0,1,0,0,1,1,0,0,0]) (O14 [1,1,1,1,1,0,1,0,0,1,1,0,0,1,0,1,0,0,1,1,0,0,0]).toList 0 #[g0,g1,g2,g3,g4,g5,g6,g7,g8,g9,g10,g11,g12,g13,g14,g15,g16,g17,g18,g19,g20,g21,g22,g23,g24,g25,g26,g27,g28,g29,g30,g31,g32,g33,g34,g35,g36,g37,g38,g39,g40,g41,g42,g43,.slice Ax44 lx44 cx44,g45,.int .i64 x46,g47,g48,g49,g50,g51,g52,g53,g54,g55,g56,g57,g58,g59,g60,g61,g62,g63,g64,g65,g66,g67,g68,g69,g70,g71,g72,g73,g74,g75,g76] M K = (idxA Ax44 lx44 1 x46).bind fun a_1 => (M.intAt .i64 a_1.block a_1.off).bind fun x_2 => K #[g0,g1,g2,g3,g4,g5,g6,g7,g8,g9,.int .i64 x46,.int .i64 x_2,g12,g13,g14,g15,g16,g17,g18,g19,g20,g21,g22,g23,g24,g25,g26,g27,g28,g29,g30,g31,g32,g33,g34,g35,g36,g37,g38,g39,g40,g41,g42,g43,.slice Ax44 lx44 cx44,g45,.int .i64 x46,g47,.int .i64 x46,.pointer (some a_1),.int .i64 x_2,g51,g52,g53,g54,g55,g56,g57,g58,g59,g60,g61,g62,g63,g64,g65,g66,g67,g68,g69,g70,g71,g72,g73,g74,g75,g76] M := by kernel_rfl
theorem k14_55 : P14 [1,1,1,1,1,0,1,0,0,1,1,0,0,1,0,1,0,0,1,1,0,0,1] = .seq (P14 [1,1,1,1,1,0,1,0,0,1,1,0,0,1,0,1,0,0,1,1,0,0,1,0]) (P14 [1,1,1,1,1,0,1,0,0,1,1,0,0,1,0,1,0,0,1,1,0,0,1,1]) := by kernel_rfl
theorem k14_56 : P14 [1,1,1,1,1,0,1,0,0,1,1,0,0,1,0,1,0,0,1,1,0,0,1,0] = .region 13 (O14 [1,1,1,1,1,0,1,0,0,1,1,0,0,1,0,1,0,0,1,1,0,0,1,0]) false := by kernel_rfl
theorem r14_13 {x11 : Int} {M : Mem} {call : CallM} {K : Array Value → Mem → R} :
    opsK Try.prog (fun _ => call) (O14 [1,1,1,1,1,0,1,0,0,1,1,0,0,1,0,1,0,0,1,1,0,0,1,0]) (O14 [1,1,1,1,1,0,1,0,0,1,1,0,0,1,0,1,0,0,1,1,0,0,1,0]).toList 0 #[g0,g1,g2,g3,g4,g5,g6,g7,g8,g9,g10,.int .i64 x11,g12,g13,g14,g15,g16,g17,g18,g19,g20,g21,g22,g23,g24,g25,g26,g27,g28,g29,g30,g31,g32,g33,g34,g35,g36,g37,g38,g39,g40,g41,g42,g43,g44,g45,g46,g47,g48,g49,g50,g51,g52,g53,g54,g55,g56,g57,g58,g59,g60,g61,g62,g63,g64,g65,g66,g67,g68,g69,g70,g71,g72,g73,g74,g75,g76] M K = K #[g0,g1,g2,g3,g4,g5,g6,g7,g8,g9,g10,.int .i64 x11,g12,g13,g14,g15,g16,g17,g18,g19,g20,g21,g22,g23,g24,g25,g26,g27,g28,g29,g30,g31,g32,g33,g34,g35,g36,g37,g38,g39,g40,g41,g42,g43,g44,g45,g46,g47,g48,g49,g50,.int .i64 x11,.bool (x11 != 0),g53,g54,g55,g56,g57,g58,g59,g60,g61,g62,g63,g64,g65,g66,g67,g68,g69,g70,g71,g72,g73,g74,g75,g76] M := by kernel_rfl
theorem c14_57 : P14 [1,1,1,1,1,0,1,0,0,1,1,0,0,1,0,1,0,0,1,1,0,0,1,1] = .cond (.tmp 52) (P14 [1,1,1,1,1,0,1,0,0,1,1,0,0,1,0,1,0,0,1,1,0,0,1,1,0]) (P14 [1,1,1,1,1,0,1,0,0,1,1,0,0,1,0,1,0,0,1,1,0,0,1,1,1]) := by kernel_rfl
theorem k14_58 : P14 [1,1,1,1,1,0,1,0,0,1,1,0,0,1,0,1,0,0,1,1,0,0,1,1,0] = .region 14 (O14 [1,1,1,1,1,0,1,0,0,1,1,0,0,1,0,1,0,0,1,1,0,0,1,1,0]) true ∧ drawOk (O14 [1,1,1,1,1,0,1,0,0,1,1,0,0,1,0,1,0,0,1,1,0,0,1,1,0]) = true := ⟨by kernel_rfl, by kernel_rfl⟩
theorem r14_14 {x6 Ax8 : Option Addr} {lx8 cx8 : Nat} {x9 x10 x11 : Int} {M : Mem} {call : CallM} {K : Array Value → Mem → R} :
    opsI Try.prog (callAt call (O14 [1,1,1,1,1,0,1,0,0,1,1,0,0,1,0,1,0,0,1,1,0,0,1,1,0])) (O14 [1,1,1,1,1,0,1,0,0,1,1,0,0,1,0,1,0,0,1,1,0,0,1,1,0]) (ordOf (O14 [1,1,1,1,1,0,1,0,0,1,1,0,0,1,0,1,0,0,1,1,0,0,1,1,0])) [] #[g0,g1,g2,g3,g4,g5,.pointer x6,g7,.slice Ax8 lx8 cx8,.int .i64 x9,.int .i64 x10,.int .i64 x11,g12,g13,g14,g15,g16,g17,g18,g19,g20,g21,g22,g23,g24,g25,g26,g27,g28,g29,g30,g31,g32,g33,g34,g35,g36,g37,g38,g39,g40,g41,g42,g43,g44,g45,g46,g47,g48,g49,g50,g51,g52,g53,g54,g55,g56,g57,g58,g59,g60,g61,g62,g63,g64,g65,g66,g67,g68,g69,g70,g71,g72,g73,g74,g75,g76] M K = (idxA Ax8 lx8 1 x9).bind fun a_1 => (M.intAt .i64 a_1.block a_1.off).bind fun x_2 => (x6).bind fun a_3 => (M.cell a_3.block (a_3.off + 1)).bind fun v_4 => (callVal Try.prog v_4 #[.int .i64 x10, .int .i64 x9]).bind fun q_6 => (floored call q_6.1 q_6.2 M).bind fun r_5 => (asI .i64 r_5.1).bind fun x_7 => (idxA Ax8 lx8 1 x9).bind fun a_8 => (r_5.2.put a_8.block a_8.off (.int .i64 (IntKind.i64.wrap (x_2 + (IntKind.i64.wrap (x11 * x_7)))))).bind fun M_9 => K #[g0,g1,g2,g3,g4,g5,.pointer x6,g7,.slice Ax8 lx8 cx8,.int .i64 x9,.int .i64 x10,.int .i64 x11,g12,g13,g14,g15,g16,g17,g18,g19,g20,g21,g22,g23,g24,g25,g26,g27,g28,g29,g30,g31,g32,g33,g34,g35,g36,g37,g38,g39,g40,g41,g42,g43,g44,g45,g46,g47,g48,g49,g50,g51,g52,.slice Ax8 lx8 cx8,.int .i64 x9,.pointer (some a_1),.int .i64 x_2,.int .i64 x11,.pointer (some ⟨a_3.block, a_3.off + 1, none⟩),v_4,.int .i64 x10,.int .i64 x9,.int .i64 x_7,.int .i64 (IntKind.i64.wrap (x11 * x_7)),.int .i64 (IntKind.i64.wrap (x_2 + (IntKind.i64.wrap (x11 * x_7)))),.pointer (some a_8),g66,g67,g68,g69,g70,g71,g72,g73,g74,g75,g76] M_9 := by kernel_rfl
theorem k14_59 : P14 [1,1,1,1,1,0,1,0,0,1,1,0,0,1,0,1,0,0,1,1,0,0,1,1,1] = .skip := by kernel_rfl
theorem k14_60 : P14 [1,1,1,1,1,0,1,0,0,1,1,0,0,1,0,1,0,0,1,0,1] = .exit 2 := by kernel_rfl
theorem k14_61 : P14 [1,1,1,1,1,0,1,0,0,1,1,0,0,1,1] = .region 16 (O14 [1,1,1,1,1,0,1,0,0,1,1,0,0,1,1]) false := by kernel_rfl
theorem r14_16 {Ax8 : Option Addr} {lx8 cx8 : Nat} {x9 : Int} {M : Mem} {call : CallM} {K : Array Value → Mem → R} :
    opsK Try.prog (fun _ => call) (O14 [1,1,1,1,1,0,1,0,0,1,1,0,0,1,1]) (O14 [1,1,1,1,1,0,1,0,0,1,1,0,0,1,1]).toList 0 #[g0,g1,g2,g3,g4,g5,g6,g7,.slice Ax8 lx8 cx8,.int .i64 x9,g10,g11,g12,g13,g14,g15,g16,g17,g18,g19,g20,g21,g22,g23,g24,g25,g26,g27,g28,g29,g30,g31,g32,g33,g34,g35,g36,g37,g38,g39,g40,g41,g42,g43,g44,g45,g46,g47,g48,g49,g50,g51,g52,g53,g54,g55,g56,g57,g58,g59,g60,g61,g62,g63,g64,g65,g66,g67,g68,g69,g70,g71,g72,g73,g74,g75,g76] M K = (idxA Ax8 lx8 1 x9).bind fun a_1 => (M.intAt .i64 a_1.block a_1.off).bind fun x_2 => (call 28 #[.int .i64 x_2] M).bind fun r_3 => (asI .i64 r_3.1).bind fun x_4 => (idxA Ax8 lx8 1 x9).bind fun a_5 => (r_3.2.put a_5.block a_5.off (.int .i64 x_4)).bind fun M_6 => K #[g0,g1,g2,g3,g4,g5,g6,g7,.slice Ax8 lx8 cx8,.int .i64 x9,g10,g11,g12,g13,g14,g15,g16,g17,g18,g19,g20,g21,g22,g23,g24,g25,g26,g27,g28,g29,g30,g31,g32,g33,g34,g35,g36,g37,g38,g39,g40,g41,g42,g43,g44,g45,g46,g47,g48,g49,g50,g51,g52,g53,g54,g55,g56,g57,g58,g59,g60,g61,g62,g63,g64,g65,g66,.slice Ax8 lx8 cx8,.int .i64 x9,.slice Ax8 lx8 cx8,.int .i64 x9,.pointer (some a_1),.int .i64 x_2,.int .i64 x_4,.pointer (some a_5),g75,g76] M_6 := by kernel_rfl
theorem k14_62 : P14 [1,1,1,1,1,0,1,0,0,1,1,1] = .region 17 (O14 [1,1,1,1,1,0,1,0,0,1,1,1]) false := by kernel_rfl
theorem r14_17 {x41 : Int} {M : Mem} {call : CallM} {K : Array Value → Mem → R} :
    opsK Try.prog (fun _ => call) (O14 [1,1,1,1,1,0,1,0,0,1,1,1]) (O14 [1,1,1,1,1,0,1,0,0,1,1,1]).toList 0 #[g0,g1,g2,g3,g4,g5,g6,g7,g8,g9,g10,g11,g12,g13,g14,g15,g16,g17,g18,g19,g20,g21,g22,g23,g24,g25,g26,g27,g28,g29,g30,g31,g32,g33,g34,g35,g36,g37,g38,g39,g40,.int .i64 x41,g42,g43,g44,g45,g46,g47,g48,g49,g50,g51,g52,g53,g54,g55,g56,g57,g58,g59,g60,g61,g62,g63,g64,g65,g66,g67,g68,g69,g70,g71,g72,g73,g74,g75,g76] M K = K #[g0,g1,g2,g3,g4,g5,g6,g7,g8,g9,g10,g11,g12,g13,g14,g15,g16,g17,g18,g19,g20,g21,g22,g23,g24,g25,g26,g27,g28,g29,g30,g31,g32,g33,g34,g35,g36,g37,g38,g39,g40,.int .i64 (IntKind.i64.wrap (x41 + 1)),g42,g43,g44,g45,g46,g47,g48,g49,g50,g51,g52,g53,g54,g55,g56,g57,g58,g59,g60,g61,g62,g63,g64,g65,g66,g67,g68,g69,g70,g71,g72,g73,g74,.int .i64 (IntKind.i64.wrap (x41 + 1)),g76] M := by kernel_rfl
theorem k14_63 : P14 [1,1,1,1,1,0,1,0,0,1,1,0,0,1,0,1,0,0,1,1,1] = .region 15 (O14 [1,1,1,1,1,0,1,0,0,1,1,0,0,1,0,1,0,0,1,1,1]) false := by kernel_rfl
theorem r14_15 {x46 : Int} {M : Mem} {call : CallM} {K : Array Value → Mem → R} :
    opsK Try.prog (fun _ => call) (O14 [1,1,1,1,1,0,1,0,0,1,1,0,0,1,0,1,0,0,1,1,1]) (O14 [1,1,1,1,1,0,1,0,0,1,1,0,0,1,0,1,0,0,1,1,1]).toList 0 #[g0,g1,g2,g3,g4,g5,g6,g7,g8,g9,g10,g11,g12,g13,g14,g15,g16,g17,g18,g19,g20,g21,g22,g23,g24,g25,g26,g27,g28,g29,g30,g31,g32,g33,g34,g35,g36,g37,g38,g39,g40,g41,g42,g43,g44,g45,.int .i64 x46,g47,g48,g49,g50,g51,g52,g53,g54,g55,g56,g57,g58,g59,g60,g61,g62,g63,g64,g65,g66,g67,g68,g69,g70,g71,g72,g73,g74,g75,g76] M K = K #[g0,g1,g2,g3,g4,g5,g6,g7,g8,g9,g10,g11,g12,g13,g14,g15,g16,g17,g18,g19,g20,g21,g22,g23,g24,g25,g26,g27,g28,g29,g30,g31,g32,g33,g34,g35,g36,g37,g38,g39,g40,g41,g42,g43,g44,g45,.int .i64 (IntKind.i64.wrap (x46 + 1)),g47,g48,g49,g50,g51,g52,g53,g54,g55,g56,g57,g58,g59,g60,g61,g62,g63,g64,g65,.int .i64 (IntKind.i64.wrap (x46 + 1)),g67,g68,g69,g70,g71,g72,g73,g74,g75,g76] M := by kernel_rfl
noncomputable def S14_1 : List Item := [.code (P14 [1,1,1,1,1,0,1,0,0]), .inLoop (P14 [1,1,1,1,1,0,1,0,0]), .inBlock 0, .code (P14 [1,1,1,1,1,1])]
def A14_1 (Ax1 : Option Addr) (lx1 cx1 : Nat) (x6 Ax8 : Option Addr) (lx8 cx8 : Nat) (x40 x41 : Int) (M : Mem) (Q : Value → Mem → Prop) : Prop := ∀ (g0 g2 g3 g4 g5 g7 g9 g10 g11 g12 g13 g14 g15 g16 g17 g18 g19 g20 g21 g22 g23 g24 g25 g26 g27 g28 g29 g30 g31 g32 g33 g34 g35 g36 g37 g38 g39 g42 g43 g44 g45 g46 g47 g48 g49 g50 g51 g52 g53 g54 g55 g56 g57 g58 g59 g60 g61 g62 g63 g64 g65 g66 g67 g68 g69 g70 g71 g72 g73 g74 g75 g76 : Value), Rn Try.prog Try.f14 S14_1 #[g0, .slice Ax1 lx1 cx1, g2, g3, g4, g5, .pointer x6, g7, .slice Ax8 lx8 cx8, g9, g10, g11, g12, g13, g14, g15, g16, g17, g18, g19, g20, g21, g22, g23, g24, g25, g26, g27, g28, g29, g30, g31, g32, g33, g34, g35, g36, g37, g38, g39, .int .i64 x40, .int .i64 x41, g42, g43, g44, g45, g46, g47, g48, g49, g50, g51, g52, g53, g54, g55, g56, g57, g58, g59, g60, g61, g62, g63, g64, g65, g66, g67, g68, g69, g70, g71, g72, g73, g74, g75, g76] M Q
noncomputable def S14_2 : List Item := [.code (P14 [1,1,1,1,1,0,1,0,0,1,1,0,0,1,0,1,0,0]), .inLoop (P14 [1,1,1,1,1,0,1,0,0,1,1,0,0,1,0,1,0,0]), .inBlock 2, .code (P14 [1,1,1,1,1,0,1,0,0,1,1,0,0,1,1]), .inBlock 1, .code (P14 [1,1,1,1,1,0,1,0,0,1,1,1]), .inLoop (P14 [1,1,1,1,1,0,1,0,0]), .inBlock 0, .code (P14 [1,1,1,1,1,1])]
def A14_2 (Ax1 : Option Addr) (lx1 cx1 : Nat) (x6 Ax8 : Option Addr) (lx8 cx8 : Nat) (x9 x40 x41 : Int) (Ax44 : Option Addr) (lx44 cx44 : Nat) (x45 x46 : Int) (M : Mem) (Q : Value → Mem → Prop) : Prop := ∀ (g0 g2 g3 g4 g5 g7 g10 g11 g12 g13 g14 g15 g16 g17 g18 g19 g20 g21 g22 g23 g24 g25 g26 g27 g28 g29 g30 g31 g32 g33 g34 g35 g36 g37 g38 g39 g42 g43 g47 g48 g49 g50 g51 g52 g53 g54 g55 g56 g57 g58 g59 g60 g61 g62 g63 g64 g65 g66 g67 g68 g69 g70 g71 g72 g73 g74 g75 g76 : Value), Rn Try.prog Try.f14 S14_2 #[g0, .slice Ax1 lx1 cx1, g2, g3, g4, g5, .pointer x6, g7, .slice Ax8 lx8 cx8, .int .i64 x9, g10, g11, g12, g13, g14, g15, g16, g17, g18, g19, g20, g21, g22, g23, g24, g25, g26, g27, g28, g29, g30, g31, g32, g33, g34, g35, g36, g37, g38, g39, .int .i64 x40, .int .i64 x41, g42, g43, .slice Ax44 lx44 cx44, .int .i64 x45, .int .i64 x46, g47, g48, g49, g50, g51, g52, g53, g54, g55, g56, g57, g58, g59, g60, g61, g62, g63, g64, g65, g66, g67, g68, g69, g70, g71, g72, g73, g74, g75, g76] M Q
noncomputable def S14_3 : List Item := [.code (P14 [1,1,1,1,1,0,1,0,0,1,1,0,0,1,0,1,0,0,1,1,1]), .inLoop (P14 [1,1,1,1,1,0,1,0,0,1,1,0,0,1,0,1,0,0]), .inBlock 2, .code (P14 [1,1,1,1,1,0,1,0,0,1,1,0,0,1,1]), .inBlock 1, .code (P14 [1,1,1,1,1,0,1,0,0,1,1,1]), .inLoop (P14 [1,1,1,1,1,0,1,0,0]), .inBlock 0, .code (P14 [1,1,1,1,1,1])]
def A14_3 (Ax1 : Option Addr) (lx1 cx1 : Nat) (x6 Ax8 : Option Addr) (lx8 cx8 : Nat) (x9 x40 x41 : Int) (Ax44 : Option Addr) (lx44 cx44 : Nat) (x45 x46 : Int) (M : Mem) (Q : Value → Mem → Prop) : Prop := ∀ (g0 g2 g3 g4 g5 g7 g10 g11 g12 g13 g14 g15 g16 g17 g18 g19 g20 g21 g22 g23 g24 g25 g26 g27 g28 g29 g30 g31 g32 g33 g34 g35 g36 g37 g38 g39 g42 g43 g47 g48 g49 g50 g51 g52 g53 g54 g55 g56 g57 g58 g59 g60 g61 g62 g63 g64 g65 g66 g67 g68 g69 g70 g71 g72 g73 g74 g75 g76 : Value), Rn Try.prog Try.f14 S14_3 #[g0, .slice Ax1 lx1 cx1, g2, g3, g4, g5, .pointer x6, g7, .slice Ax8 lx8 cx8, .int .i64 x9, g10, g11, g12, g13, g14, g15, g16, g17, g18, g19, g20, g21, g22, g23, g24, g25, g26, g27, g28, g29, g30, g31, g32, g33, g34, g35, g36, g37, g38, g39, .int .i64 x40, .int .i64 x41, g42, g43, .slice Ax44 lx44 cx44, .int .i64 x45, .int .i64 x46, g47, g48, g49, g50, g51, g52, g53, g54, g55, g56, g57, g58, g59, g60, g61, g62, g63, g64, g65, g66, g67, g68, g69, g70, g71, g72, g73, g74, g75, g76] M Q
theorem w14_0 {x0 : Int} {Ax1 : Option Addr} {lx1 cx1 : Nat} {M : Mem} {Q : Value → Mem → Prop} (H :
    Cn Try.prog 26 #[.int .i64 x0, .slice Ax1 lx1 cx1] M fun v1' N1' =>
     ∃ cs2', asU 2 v1' = some cs2' ∧
     ∃ cs3', asA 2 (cs2'.getD 0 undef) = some cs3' ∧
     ∃ x4', asI .i64 (cs3'.getD 0 undef) = some x4' ∧
     ∃ b5', asB (cs2'.getD 1 undef) = some b5' ∧
     ∃ M6', (N1'.new (.cells #[.int .i64 0, .nilFunc] 39)).put (2 * N1'.nb.size) 0 (.int .i64 x4') = some M6' ∧
     ∃ M7', M6'.put (2 * N1'.nb.size) 1 (cs3'.getD 1 undef) = some M7' ∧
     (((!b5') = true →
      Q (.tuple #[.slice none 0 0, .int .i64 2]) M7') ∧
      ((!b5') = false →
      ∃ v8', M7'.cell (2 * N1'.nb.size) (0 + 1) = some v8' ∧
      ∃ b9', fnilV Try.prog 33 v8' = some b9' ∧
      ((b9' = true →
       ∃ a10', idxA Ax1 lx1 1 0 = some a10' ∧
       ∃ x11', M7'.intAt .i64 a10'.block a10'.off = some x11' ∧
       ∃ a12', idxA Ax1 lx1 1 1 = some a12' ∧
       ∃ x13', M7'.intAt .i64 a12'.block a12'.off = some x13' ∧
       ∃ a14', idxA Ax1 lx1 1 2 = some a14' ∧
       ∃ x15', M7'.intAt .i64 a14'.block a14'.off = some x15' ∧
       ∃ a16', idxA Ax1 lx1 1 3 = some a16' ∧
       ∃ x17', M7'.intAt .i64 a16'.block a16'.off = some x17' ∧
       Cn Try.prog 29 #[.int .i64 x11', .int .i64 x13', .int .i64 x15', .int .i64 x17'] M7' fun v18' N18' =>
        ∃ s19', asS v18' = some s19' ∧
        Q (.tuple #[.slice s19'.1 (s19'.2.1) (s19'.2.2), .int .i64 0]) N18') ∧
       (b9' = false →
       ∃ r20', makeP Try.prog 22 (.int .i64 ((lx1 : Int))) (.int .i64 ((lx1 : Int))) M7' = some r20' ∧
       ∃ s21', asS r20'.1 = some s21' ∧
       A14_1 Ax1 lx1 cx1 (some ⟨2 * N1'.nb.size, 0, none⟩) s21'.1 s21'.2.1 s21'.2.2 (s21'.2.1 : Int) 0 r20'.2 Q))))) :
    Cn Try.prog 14 #[.int .i64 x0, .slice Ax1 lx1 cx1] M Q := by
  refine Cn.of b14 d14 t14 ?_
  refine Rn.seq k14_0 (Rn.region k14_1 (fun call K => r14_0) (Rch.leaf (Rn.seq k14_2 (Rn.region k14_3 (fun call K => r14_1) (Rch.call H fun v1' N1' H => Rch.ex H fun cs2' H => Rch.ex H fun cs3' H => Rch.ex H fun x4' H => Rch.ex H fun b5' H => Rch.ex H fun M6' H => Rch.ex H fun M7' H => ?_)))))
  refine Rch.leaf (Rn.seq k14_4 (Rn.seq k14_5 (Rn.region k14_6 (fun call K => r14_2) (Rch.leaf ?_))))
  refine Rn.cnd (v := !b5') ⟨c14_7, rfl, by kernel_rfl⟩ (fun h => ?_) (fun h => ?_)
  · replace H := H.1 (h)
    refine Rn.seq k14_8 (Rn.region k14_9 (fun call K => r14_3) (Rch.leaf ?_))
    exact Rn.ret k14_10 e14 H
  · replace H := H.2 (h)
    refine Rn.skip k14_12 (Rn.seq k14_13 (Rn.seq k14_14 (Rn.region k14_15 (fun call K => r14_4) (Rch.bind (x := ⟨2 * N1'.nb.size, 0, none⟩) rfl (Rch.ex H fun v8' H => Rch.ex H fun b9' H => Rch.leaf ?_)))))
    refine Rn.cnd (v := b9') ⟨c14_16, rfl, by kernel_rfl⟩ (fun h => ?_) (fun h => ?_)
    · replace H := H.1 (h)
      refine Rn.seq k14_17 (Rn.regionD k14_18 (fun call K => r14_5) (Rch.ex H fun a10' H => Rch.ex H fun x11' H => Rch.ex H fun a12' H => Rch.ex H fun x13' H => Rch.ex H fun a14' H => Rch.ex H fun x15' H => Rch.ex H fun a16' H => Rch.ex H fun x17' H => Rch.call H fun v18' N18' H => Rch.ex H fun s19' H => ?_))
      refine Rch.leaf ?_
      exact Rn.ret k14_19 e14 H
    · replace H := H.2 (h)
      refine Rn.skip k14_20 (Rn.seq k14_21 (Rn.region k14_22 (fun call K => r14_6) (Rch.ex H fun r20' H => Rch.ex H fun s21' H => Rch.leaf (Rn.seq k14_23 (Rn.seq k14_24 (Rn.region k14_25 (fun call K => r14_7) (Rch.leaf (Rn.block k14_26 (Rn.loop k14_27 ?_)))))))))
      exact H _ _ _ _ _ _ _ _ _ _ _ _ _ _ _ _ _ _ _ _ _ _ _ _ _ _ _ _ _ _ _ _ _ _ _ _ _ _ _ _ _ _ _ _ _ _ _ _ _ _ _ _ _ _ _ _ _ _ _ _ _ _ _ _ _ _ _ _ _ _ _ _

theorem w14_1 {Ax1 : Option Addr} {lx1 cx1 : Nat} {x6 Ax8 : Option Addr} {lx8 cx8 : Nat} {x40 x41 : Int} {M : Mem} {Q : Value → Mem → Prop} (H :
    ((x41 < x40 →
     A14_2 Ax1 lx1 cx1 x6 Ax8 lx8 cx8 x41 x40 x41 Ax1 lx1 cx1 (lx1 : Int) 0 M Q) ∧
     (¬ (x41 < x40) →
     Q (.tuple #[.slice Ax8 lx8 cx8, .int .i64 0]) M))) :
    A14_1 Ax1 lx1 cx1 x6 Ax8 lx8 cx8 x40 x41 M Q := by
  intro g0 g2 g3 g4 g5 g7 g9 g10 g11 g12 g13 g14 g15 g16 g17 g18 g19 g20 g21 g22 g23 g24 g25 g26 g27 g28 g29 g30 g31 g32 g33 g34 g35 g36 g37 g38 g39 g42 g43 g44 g45 g46 g47 g48 g49 g50 g51 g52 g53 g54 g55 g56 g57 g58 g59 g60 g61 g62 g63 g64 g65 g66 g67 g68 g69 g70 g71 g72 g73 g74 g75 g76
  refine Rn.seq k14_28 (Rn.region k14_29 (fun call K => r14_8) (Rch.leaf (Rn.seq k14_30 ?_)))
  refine Rn.cnd (v := decide (x41 < x40)) ⟨c14_31, rfl, by kernel_rfl⟩ (fun h => ?_) (fun h => ?_)
  · replace H := H.1 (of_decide_eq_true h)
    refine Rn.skip k14_32 (Rn.seq k14_33 (Rn.block k14_34 (Rn.seq k14_35 (Rn.region k14_36 (fun call K => r14_9) (Rch.leaf (Rn.seq k14_37 (Rn.seq k14_38 (Rn.region k14_39 (fun call K => r14_10) (Rch.leaf (Rn.block k14_40 (Rn.loop k14_41 ?_)))))))))))
    exact H _ _ _ _ _ _ _ _ _ _ _ _ _ _ _ _ _ _ _ _ _ _ _ _ _ _ _ _ _ _ _ _ _ _ _ _ _ _ _ _ _ _ _ _ _ _ _ _ _ _ _ _ _ _ _ _ _ _ _ _ _ _ _ _ _ _ _ _
  · replace H := H.2 (of_decide_eq_false h)
    refine Rn.exit k14_42 rfl (Rn.seq k14_43 (Rn.region k14_44 (fun call K => r14_18) (Rch.leaf ?_)))
    exact Rn.ret k14_45 e14 H

theorem w14_2 {Ax1 : Option Addr} {lx1 cx1 : Nat} {x6 Ax8 : Option Addr} {lx8 cx8 : Nat} {x9 x40 x41 : Int} {Ax44 : Option Addr} {lx44 cx44 : Nat} {x45 x46 : Int} {M : Mem} {Q : Value → Mem → Prop} (H :
    ((x46 < x45 →
     ∃ a22', idxA Ax44 lx44 1 x46 = some a22' ∧
     ∃ x23', M.intAt .i64 a22'.block a22'.off = some x23' ∧
     ((x23' ≠ 0 →
      ∃ a24', idxA Ax8 lx8 1 x9 = some a24' ∧
      ∃ x25', M.intAt .i64 a24'.block a24'.off = some x25' ∧
      ∃ a26', x6 = some a26' ∧
      ∃ v27', M.cell a26'.block (a26'.off + 1) = some v27' ∧
      ∃ q28', callVal Try.prog v27' #[.int .i64 x46, .int .i64 x9] = some q28' ∧
      Cn Try.prog q28'.1 q28'.2 { M with floor := M.nb.size } fun v29' N29' =>
       ∃ x30', asI .i64 v29' = some x30' ∧
       ∃ a31', idxA Ax8 lx8 1 x9 = some a31' ∧
       ∃ M32', { N29' with floor := M.floor }.put a31'.block a31'.off (.int .i64 (IntKind.i64.wrap (x25' + (IntKind.i64.wrap (x23' * x30'))))) = some M32' ∧
       A14_3 Ax1 lx1 cx1 x6 Ax8 lx8 cx8 x9 x40 x41 Ax44 lx44 cx44 x45 x46 M32' Q) ∧
      (x23' = 0 →
      A14_3 Ax1 lx1 cx1 x6 Ax8 lx8 cx8 x9 x40 x41 Ax44 lx44 cx44 x45 x46 M Q))) ∧
     (¬ (x46 < x45) →
     ∃ a33', idxA Ax8 lx8 1 x9 = some a33' ∧
     ∃ x34', M.intAt .i64 a33'.block a33'.off = some x34' ∧
     Cn Try.prog 28 #[.int .i64 x34'] M fun v35' N35' =>
      ∃ x36', asI .i64 v35' = some x36' ∧
      ∃ a37', idxA Ax8 lx8 1 x9 = some a37' ∧
      ∃ M38', N35'.put a37'.block a37'.off (.int .i64 x36') = some M38' ∧
      A14_1 Ax1 lx1 cx1 x6 Ax8 lx8 cx8 x40 (IntKind.i64.wrap (x41 + 1)) M38' Q))) :
    A14_2 Ax1 lx1 cx1 x6 Ax8 lx8 cx8 x9 x40 x41 Ax44 lx44 cx44 x45 x46 M Q := by
  intro g0 g2 g3 g4 g5 g7 g10 g11 g12 g13 g14 g15 g16 g17 g18 g19 g20 g21 g22 g23 g24 g25 g26 g27 g28 g29 g30 g31 g32 g33 g34 g35 g36 g37 g38 g39 g42 g43 g47 g48 g49 g50 g51 g52 g53 g54 g55 g56 g57 g58 g59 g60 g61 g62 g63 g64 g65 g66 g67 g68 g69 g70 g71 g72 g73 g74 g75 g76
  refine Rn.seq k14_46 (Rn.region k14_47 (fun call K => r14_11) (Rch.leaf (Rn.seq k14_48 ?_)))
  refine Rn.cnd (v := decide (x46 < x45)) ⟨c14_49, rfl, by kernel_rfl⟩ (fun h => ?_) (fun h => ?_)
  · replace H := H.1 (of_decide_eq_true h)
    refine Rn.skip k14_50 (Rn.seq k14_51 (Rn.block k14_52 (Rn.seq k14_53 (Rn.region k14_54 (fun call K => r14_12) (Rch.ex H fun a22' H => Rch.ex H fun x23' H => Rch.leaf (Rn.seq k14_55 (Rn.region k14_56 (fun call K => r14_13) (Rch.leaf ?_))))))))
    refine Rn.cnd (v := x23' != 0) ⟨c14_57, rfl, by kernel_rfl⟩ (fun h => ?_) (fun h => ?_)
    · replace H := H.1 (ne_of_bneT h)
      refine Rn.regionD k14_58 (fun call K => r14_14) (Rch.ex H fun a24' H => Rch.ex H fun x25' H => Rch.ex H fun a26' H => Rch.ex H fun v27' H => Rch.ex H fun q28' H => Rch.callF H fun v29' N29' H => Rch.ex H fun x30' H => Rch.ex H fun a31' H => Rch.ex H fun M32' H => Rch.leaf (Rn.blk ?_))
      exact H _ _ _ _ _ _ _ _ _ _ _ _ _ _ _ _ _ _ _ _ _ _ _ _ _ _ _ _ _ _ _ _ _ _ _ _ _ _ _ _ _ _ _ _ _ _ _ _ _ _ _ _ _ _ _ _ _ _ _ _ _ _ _ _ _ _ _ _
    · replace H := H.2 (eq_of_bneF h)
      refine Rn.skip k14_59 (Rn.blk ?_)
      exact H _ _ _ _ _ _ _ _ _ _ _ _ _ _ _ _ _ _ _ _ _ _ _ _ _ _ _ _ _ _ _ _ _ _ _ _ _ _ _ _ _ _ _ _ _ _ _ _ _ _ _ _ _ _ _ _ _ _ _ _ _ _ _ _ _ _ _ _
  · replace H := H.2 (of_decide_eq_false h)
    refine Rn.exit k14_60 rfl (Rn.region k14_61 (fun call K => r14_16) (Rch.ex H fun a33' H => Rch.ex H fun x34' H => Rch.call H fun v35' N35' H => Rch.ex H fun x36' H => Rch.ex H fun a37' H => Rch.ex H fun M38' H => Rch.leaf (Rn.blk (Rn.region k14_62 (fun call K => r14_17) (Rch.leaf ?_)))))
    refine Rn.lp ?_
    exact H _ _ _ _ _ _ _ _ _ _ _ _ _ _ _ _ _ _ _ _ _ _ _ _ _ _ _ _ _ _ _ _ _ _ _ _ _ _ _ _ _ _ _ _ _ _ _ _ _ _ _ _ _ _ _ _ _ _ _ _ _ _ _ _ _ _ _ _ _ _ _ _

theorem w14_3 {Ax1 : Option Addr} {lx1 cx1 : Nat} {x6 Ax8 : Option Addr} {lx8 cx8 : Nat} {x9 x40 x41 : Int} {Ax44 : Option Addr} {lx44 cx44 : Nat} {x45 x46 : Int} {M : Mem} {Q : Value → Mem → Prop} (H :
    A14_2 Ax1 lx1 cx1 x6 Ax8 lx8 cx8 x9 x40 x41 Ax44 lx44 cx44 x45 (IntKind.i64.wrap (x46 + 1)) M Q) :
    A14_3 Ax1 lx1 cx1 x6 Ax8 lx8 cx8 x9 x40 x41 Ax44 lx44 cx44 x45 x46 M Q := by
  intro g0 g2 g3 g4 g5 g7 g10 g11 g12 g13 g14 g15 g16 g17 g18 g19 g20 g21 g22 g23 g24 g25 g26 g27 g28 g29 g30 g31 g32 g33 g34 g35 g36 g37 g38 g39 g42 g43 g47 g48 g49 g50 g51 g52 g53 g54 g55 g56 g57 g58 g59 g60 g61 g62 g63 g64 g65 g66 g67 g68 g69 g70 g71 g72 g73 g74 g75 g76
  refine Rn.region k14_63 (fun call K => r14_15) (Rch.leaf (Rn.lp ?_))
  exact H _ _ _ _ _ _ _ _ _ _ _ _ _ _ _ _ _ _ _ _ _ _ _ _ _ _ _ _ _ _ _ _ _ _ _ _ _ _ _ _ _ _ _ _ _ _ _ _ _ _ _ _ _ _ _ _ _ _ _ _ _ _ _ _ _ _ _ _


/-! ### zoetrope/zoetroperef00.EqInts: function 15 -/
noncomputable abbrev P15 (p : List Nat) : Code := subC (codeOf Try.f15) p
noncomputable abbrev O15 (p : List Nat) : Array Oper := opsOf (subC (codeOf Try.f15) p)
theorem b15 : Try.prog.funcs[15]? = some Try.f15 ∧ (Orc.tab Try.prog).lookup 15 = none := ⟨by kernel_rfl, by kernel_rfl⟩
theorem d15 : Try.f15.body = some (P15 []) := by kernel_rfl
theorem t15 {Ax0 : Option Addr} {lx0 cx0 : Nat} {Ax1 : Option Addr} {lx1 cx1 : Nat} : #[.slice Ax0 lx0 cx0,.slice Ax1 lx1 cx1] ++ Array.replicate (Try.f15.ntmps - (#[.slice Ax0 lx0 cx0,.slice Ax1 lx1 cx1] : Array Value).size) undef = #[.slice Ax0 lx0 cx0,.slice Ax1 lx1 cx1,undef,undef,undef,undef,undef,undef,undef,undef,undef,undef,undef,undef,undef,undef,undef,undef,undef,undef,undef,undef,undef,undef,undef,undef] := by kernel_rfl
theorem k15_0 : P15 [] = .seq (P15 [0]) (P15 [1]) := by kernel_rfl
theorem k15_1 : P15 [0] = .region 0 (O15 [0]) false := by kernel_rfl
theorem r15_0 {M : Mem} {call : CallM} {K : Array Value → Mem → R} :
    opsK Try.prog (fun _ => call) (O15 [0]) (O15 [0]).toList 0 #[g0,g1,g2,g3,g4,g5,g6,g7,g8,g9,g10,g11,g12,g13,g14,g15,g16,g17,g18,g19,g20,g21,g22,g23,g24,g25] M K = K #[g0,g1,g2,g3,.bool false,g5,g6,g7,g8,g9,g10,g11,g12,g13,g14,g15,g16,g17,g18,g19,g20,g21,g22,g23,g24,g25] M := by kernel_rfl
theorem k15_2 : P15 [1] = .seq (P15 [1,0]) (P15 [1,1]) := by kernel_rfl
theorem k15_3 : P15 [1,0] = .seq (P15 [1,0,0]) (P15 [1,0,1]) := by kernel_rfl
theorem k15_4 : P15 [1,0,0] = .region 1 (O15 [1,0,0]) false := by kernel_rfl
theorem r15_1 {Ax0 : Option Addr} {lx0 cx0 : Nat} {Ax1 : Option Addr} {lx1 cx1 : Nat} {M : Mem} {call : CallM} {K : Array Value → Mem → R} :
    opsK Try.prog (fun _ => call) (O15 [1,0,0]) (O15 [1,0,0]).toList 0 #[.slice Ax0 lx0 cx0,.slice Ax1 lx1 cx1,g2,g3,g4,g5,g6,g7,g8,g9,g10,g11,g12,g13,g14,g15,g16,g17,g18,g19,g20,g21,g22,g23,g24,g25] M K = K #[.slice Ax0 lx0 cx0,.slice Ax1 lx1 cx1,g2,g3,g4,g5,.slice Ax0 lx0 cx0,.int .i64 ((lx0 : Int)),.slice Ax1 lx1 cx1,.int .i64 ((lx1 : Int)),.bool (((lx0 : Int)) != ((lx1 : Int))),g11,g12,g13,g14,g15,g16,g17,g18,g19,g20,g21,g22,g23,g24,g25] M := by kernel_rfl
theorem c15_5 : P15 [1,0,1] = .cond (.tmp 10) (P15 [1,0,1,0]) (P15 [1,0,1,1]) := by kernel_rfl
theorem k15_6 : P15 [1,0,1,0] = .seq (P15 [1,0,1,0,0]) (P15 [1,0,1,0,1]) := by kernel_rfl
theorem k15_7 : P15 [1,0,1,0,0] = .region 2 (O15 [1,0,1,0,0]) false := by kernel_rfl
theorem r15_2 {M : Mem} {call : CallM} {K : Array Value → Mem → R} :
    opsK Try.prog (fun _ => call) (O15 [1,0,1,0,0]) (O15 [1,0,1,0,0]).toList 0 #[g0,g1,g2,g3,g4,g5,g6,g7,g8,g9,g10,g11,g12,g13,g14,g15,g16,g17,g18,g19,g20,g21,g22,g23,g24,g25] M K = K #[g0,g1,g2,g3,.bool false,g5,g6,g7,g8,g9,g10,g11,g12,g13,g14,g15,g16,g17,g18,g19,g20,g21,g22,g23,g24,g25] M := by kernel_rfl
theorem k15_8 : P15 [1,0,1,0,1] = .ret := by kernel_rfl
theorem e15 {M : Mem} : finish Try.prog Try.f15 #[g0,g1,g2,g3,g4,g5,g6,g7,g8,g9,g10,g11,g12,g13,g14,g15,g16,g17,g18,g19,g20,g21,g22,g23,g24,g25] M = some (g4, M) := by kernel_rfl
theorem k15_10 : P15 [1,0,1,1] = .skip := by kernel_rfl
theorem k15_11 : P15 [1,1] = .seq (P15 [1,1,0]) (P15 [1,1,1]) := by kernel_rfl
theorem k15_12 : P15 [1,1,0] = .seq (P15 [1,1,0,0]) (P15 [1,1,0,1]) := by kernel_rfl
theorem k15_13 : P15 [1,1,0,0] = .region 3 (O15 [1,1,0,0]) false := by kernel_rfl
theorem r15_3 {M : Mem} {call : CallM} {K : Array Value → Mem → R} :
    opsK Try.prog (fun _ => call) (O15 [1,1,0,0]) (O15 [1,1,0,0]).toList 0 #[g0,g1,g2,g3,g4,g5,g6,g7,g8,g9,g10,g11,g12,g13,g14,g15,g16,g17,g18,g19,g20,g21,g22,g23,g24,g25] M K = K #[g0,g1,g2,g3,g4,.int .i64 0,g6,g7,g8,g9,g10,g11,g12,g13,g14,g15,g16,g17,g18,g19,g20,g21,g22,g23,g24,g25] M := by kernel_rfl
theorem k15_14 : P15 [1,1,0,1] = .block 0 (P15 [1,1,0,1,0]) := by kernel_rfl
theorem k15_15 : P15 [1,1,0,1,0] = .loop (P15 [1,1,0,1,0,0]) := by kernel_rfl
theorem k15_16 : P15 [1,1,0,1,0,0] = .seq (P15 [1,1,0,1,0,0,0]) (P15 [1,1,0,1,0,0,1]) := by kernel_rfl
theorem k15_17 : P15 [1,1,0,1,0,0,0] = .seq (P15 [1,1,0,1,0,0,0,0]) (P15 [1,1,0,1,0,0,0,1]) := by kernel_rfl
theorem k15_18 : P15 [1,1,0,1,0,0,0,0] = .region 4 (O15 [1,1,0,1,0,0,0,0]) false := by kernel_rfl
theorem r15_4 {Ax0 : Option Addr} {lx0 cx0 : Nat} {x5 : Int} {M : Mem} {call : CallM} {K : Array Value → Mem → R} :
    opsK Try.prog (fun _ => call) (O15 [1,1,0,1,0,0,0,0]) (O15 [1,1,0,1,0,0,0,0]).toList 0 #[.slice Ax0 lx0 cx0,g1,g2,g3,g4,.int .i64 x5,g6,g7,g8,g9,g10,g11,g12,g13,g14,g15,g16,g17,g18,g19,g20,g21,g22,g23,g24,g25] M K = K #[.slice Ax0 lx0 cx0,g1,g2,g3,g4,.int .i64 x5,g6,g7,g8,g9,g10,.int .i64 x5,.slice Ax0 lx0 cx0,.int .i64 ((lx0 : Int)),.bool (decide (x5 < ((lx0 : Int)))),g15,g16,g17,g18,g19,g20,g21,g22,g23,g24,g25] M := by kernel_rfl
theorem c15_19 : P15 [1,1,0,1,0,0,0,1] = .cond (.tmp 14) (P15 [1,1,0,1,0,0,0,1,0]) (P15 [1,1,0,1,0,0,0,1,1]) := by kernel_rfl
theorem k15_20 : P15 [1,1,0,1,0,0,0,1,0] = .skip := by kernel_rfl
theorem k15_21 : P15 [1,1,0,1,0,0,1] = .seq (P15 [1,1,0,1,0,0,1,0]) (P15 [1,1,0,1,0,0,1,1]) := by kernel_rfl
theorem k15_22 : P15 [1,1,0,1,0,0,1,0] = .block 1 (P15 [1,1,0,1,0,0,1,0,0]) := by kernel_rfl
theorem k15_23 : P15 [1,1,0,1,0,0,1,0,0] = .seq (P15 [1,1,0,1,0,0,1,0,0,0]) (P15 [1,1,0,1,0,0,1,0,0,1]) := by kernel_rfl
theorem k15_24 : P15 [1,1,0,1,0,0,1,0,0,0] = .region 6 (O15 [1,1,0,1,0,0,1,0,0,0]) true ∧ drawOk (O15 [1,1,0,1,0,0,1,0,0,0]) = true := ⟨by kernel_rfl, by kernel_rfl⟩
theorem r15_6 {Ax0 : Option Addr} {lx0 cx0 : Nat} {Ax1 : Option Addr} {lx1 cx1 : Nat} {x5 : Int} {M : Mem} {call : CallM} {K : Array Value → Mem → R} :
    opsI Try.prog (callAt call (O15 [1,1,0,1,0,0,1,0,0,0])) (O15 [1,1,0,1,0,0,1,0,0,0]) (ordOf (O15 [1,1,0,1,0,0,1,0,0,0])) [] #[.slice Ax0 lx0 cx0,.slice Ax1 lx1 cx1,g2,g3,g4,.int .i64 x5,g6,g7,g8,g9,g10,g11,g12,g13,g14,g15,g16,g17,g18,g19,g20,g21,g22,g23,g24,g25] M K = (idxA Ax0 lx0 1 x5).bind fun a_1 => (M.intAt .i64 a_1.block a_1.off).bind fun x_2 => (idxA Ax1 lx1 1 x5).bind fun a_3 => (M.intAt .i64 a_3.block a_3.off).bind fun x_4 => K #[.slice Ax0 lx0 cx0,.slice Ax1 lx1 cx1,g2,g3,g4,.int .i64 x5,g6,g7,g8,g9,g10,g11,g12,g13,g14,g15,g16,.slice Ax0 lx0 cx0,.int .i64 x5,.pointer (some a_1),.int .i64 x_2,.slice Ax1 lx1 cx1,.int .i64 x5,.pointer (some a_3),.int .i64 x_4,.bool (x_2 != x_4)] M := by kernel_rfl
theorem c15_25 : P15 [1,1,0,1,0,0,1,0,0,1] = .cond (.tmp 25) (P15 [1,1,0,1,0,0,1,0,0,1,0]) (P15 [1,1,0,1,0,0,1,0,0,1,1]) := by kernel_rfl
theorem k15_26 : P15 [1,1,0,1,0,0,1,0,0,1,0] = .seq (P15 [1,1,0,1,0,0,1,0,0,1,0,0]) (P15 [1,1,0,1,0,0,1,0,0,1,0,1]) := by kernel_rfl
theorem k15_27 : P15 [1,1,0,1,0,0,1,0,0,1,0,0] = .region 7 (O15 [1,1,0,1,0,0,1,0,0,1,0,0]) false := by kernel_rfl
theorem r15_7 {M : Mem} {call : CallM} {K : Array Value → Mem → R} :
    opsK Try.prog (fun _ => call) (O15 [1,1,0,1,0,0,1,0,0,1,0,0]) (O15 [1,1,0,1,0,0,1,0,0,1,0,0]).toList 0 #[g0,g1,g2,g3,g4,g5,g6,g7,g8,g9,g10,g11,g12,g13,g14,g15,g16,g17,g18,g19,g20,g21,g22,g23,g24,g25] M K = K #[g0,g1,g2,g3,.bool false,g5,g6,g7,g8,g9,g10,g11,g12,g13,g14,g15,g16,g17,g18,g19,g20,g21,g22,g23,g24,g25] M := by kernel_rfl
theorem k15_28 : P15 [1,1,0,1,0,0,1,0,0,1,0,1] = .ret := by kernel_rfl
theorem k15_29 : P15 [1,1,0,1,0,0,1,0,0,1,1] = .skip := by kernel_rfl
theorem k15_30 : P15 [1,1,0,1,0,0,1,1] = .region 5 (O15 [1,1,0,1,0,0,1,1]) false := by kernel_rfl
theorem r15_5 {x5 : Int} {M : Mem} {call : CallM} {K : Array Value → Mem → R} :
    opsK Try.prog (fun _ => call) (O15 [1,1,0,1,0,0,1,1]) (O15 [1,1,0,1,0,0,1,1]).toList 0 #[g0,g1,g2,g3,g4,.int .i64 x5,g6,g7,g8,g9,g10,g11,g12,g13,g14,g15,g16,g17,g18,g19,g20,g21,g22,g23,g24,g25] M K = K #[g0,g1,g2,g3,g4,.int .i64 (IntKind.i64.wrap (x5 + 1)),g6,g7,g8,g9,g10,g11,g12,g13,g14,.int .i64 x5,.int .i64 (IntKind.i64.wrap (x5 + 1)),g17,g18,g19,g20,g21,g22,g23,g24,g25] M := by kernel_rfl
theorem k15_31 : P15 [1,1,0,1,0,0,0,1,1] = .exit 0 := by kernel_rfl
theorem k15_32 : P15 [1,1,1] = .seq (P15 [1,1,1,0]) (P15 [1,1,1,1]) := by kernel_rfl
theorem k15_33 : P15 [1,1,1,0] = .region 8 (O15 [1,1,1,0]) false := by kernel_rfl
theorem r15_8 {M : Mem} {call : CallM} {K : Array Value → Mem → R} :
    opsK Try.prog (fun _ => call) (O15 [1,1,1,0]) (O15 [1,1,1,0]).toList 0 #[g0,g1,g2,g3,g4,g5,g6,g7,g8,g9,g10,g11,g12,g13,g14,g15,g16,g17,g18,g19,g20,g21,g22,g23,g24,g25] M K = K #[g0,g1,g2,g3,.bool true,g5,g6,g7,g8,g9,g10,g11,g12,g13,g14,g15,g16,g17,g18,g19,g20,g21,g22,g23,g24,g25] M := by kernel_rfl
theorem k15_34 : P15 [1,1,1,1] = .ret := by kernel_rfl
noncomputable def S15_1 : List Item := [.code (P15 [1,1,0,1,0,0]), .inLoop (P15 [1,1,0,1,0,0]), .inBlock 0, .code (P15 [1,1,1])]
def A15_1 (Ax0 : Option Addr) (lx0 cx0 : Nat) (Ax1 : Option Addr) (lx1 cx1 : Nat) (x5 : Int) (M : Mem) (Q : Value → Mem → Prop) : Prop := ∀ (g2 g3 g4 g6 g7 g8 g9 g10 g11 g12 g13 g14 g15 g16 g17 g18 g19 g20 g21 g22 g23 g24 g25 : Value), Rn Try.prog Try.f15 S15_1 #[.slice Ax0 lx0 cx0, .slice Ax1 lx1 cx1, g2, g3, g4, .int .i64 x5, g6, g7, g8, g9, g10, g11, g12, g13, g14, g15, g16, g17, g18, g19, g20, g21, g22, g23, g24, g25] M Q
theorem w15_0 {Ax0 : Option Addr} {lx0 cx0 : Nat} {Ax1 : Option Addr} {lx1 cx1 : Nat} {M : Mem} {Q : Value → Mem → Prop} (H :
    ((((lx0 : Int)) ≠ ((lx1 : Int)) →
     Q (.bool false) M) ∧
     (((lx0 : Int)) = ((lx1 : Int)) →
     A15_1 Ax0 lx0 cx0 Ax1 lx1 cx1 0 M Q))) :
    Cn Try.prog 15 #[.slice Ax0 lx0 cx0, .slice Ax1 lx1 cx1] M Q := by
  refine Cn.of b15 d15 t15 ?_
  refine Rn.seq k15_0 (Rn.region k15_1 (fun call K => r15_0) (Rch.leaf (Rn.seq k15_2 (Rn.seq k15_3 (Rn.region k15_4 (fun call K => r15_1) (Rch.leaf ?_))))))
  refine Rn.cnd (v := ((lx0 : Int)) != ((lx1 : Int))) ⟨c15_5, rfl, by kernel_rfl⟩ (fun h => ?_) (fun h => ?_)
  · replace H := H.1 (ne_of_bneT h)
    refine Rn.seq k15_6 (Rn.region k15_7 (fun call K => r15_2) (Rch.leaf ?_))
    exact Rn.ret k15_8 e15 H
  · replace H := H.2 (eq_of_bneF h)
    refine Rn.skip k15_10 (Rn.seq k15_11 (Rn.seq k15_12 (Rn.region k15_13 (fun call K => r15_3) (Rch.leaf (Rn.block k15_14 (Rn.loop k15_15 ?_))))))
    exact H _ _ _ _ _ _ _ _ _ _ _ _ _ _ _ _ _ _ _ _ _ _ _

theorem w15_1 {Ax0 : Option Addr} {lx0 cx0 : Nat} {Ax1 : Option Addr} {lx1 cx1 : Nat} {x5 : Int} {M : Mem} {Q : Value → Mem → Prop} (H :
    ((x5 < ((lx0 : Int)) →
     ∃ a1', idxA Ax0 lx0 1 x5 = some a1' ∧
     ∃ x2', M.intAt .i64 a1'.block a1'.off = some x2' ∧
     ∃ a3', idxA Ax1 lx1 1 x5 = some a3' ∧
     ∃ x4', M.intAt .i64 a3'.block a3'.off = some x4' ∧
     ((x2' ≠ x4' →
      Q (.bool false) M) ∧
      (x2' = x4' →
      A15_1 Ax0 lx0 cx0 Ax1 lx1 cx1 (IntKind.i64.wrap (x5 + 1)) M Q))) ∧
     (¬ (x5 < ((lx0 : Int))) →
     Q (.bool true) M))) :
    A15_1 Ax0 lx0 cx0 Ax1 lx1 cx1 x5 M Q := by
  intro g2 g3 g4 g6 g7 g8 g9 g10 g11 g12 g13 g14 g15 g16 g17 g18 g19 g20 g21 g22 g23 g24 g25
  refine Rn.seq k15_16 (Rn.seq k15_17 (Rn.region k15_18 (fun call K => r15_4) (Rch.leaf ?_)))
  refine Rn.cnd (v := decide (x5 < ((lx0 : Int)))) ⟨c15_19, rfl, by kernel_rfl⟩ (fun h => ?_) (fun h => ?_)
  · replace H := H.1 (of_decide_eq_true h)
    refine Rn.skip k15_20 (Rn.seq k15_21 (Rn.block k15_22 (Rn.seq k15_23 (Rn.regionD k15_24 (fun call K => r15_6) (Rch.ex H fun a1' H => Rch.ex H fun x2' H => Rch.ex H fun a3' H => Rch.ex H fun x4' H => Rch.leaf ?_)))))
    refine Rn.cnd (v := x2' != x4') ⟨c15_25, rfl, by kernel_rfl⟩ (fun h => ?_) (fun h => ?_)
    · replace H := H.1 (ne_of_bneT h)
      refine Rn.seq k15_26 (Rn.region k15_27 (fun call K => r15_7) (Rch.leaf ?_))
      exact Rn.ret k15_28 e15 H
    · replace H := H.2 (eq_of_bneF h)
      refine Rn.skip k15_29 (Rn.blk (Rn.region k15_30 (fun call K => r15_5) (Rch.leaf (Rn.lp ?_))))
      exact H _ _ _ _ _ _ _ _ _ _ _ _ _ _ _ _ _ _ _ _ _ _ _
  · replace H := H.2 (of_decide_eq_false h)
    refine Rn.exit k15_31 rfl (Rn.seq k15_32 (Rn.region k15_33 (fun call K => r15_8) (Rch.leaf ?_)))
    exact Rn.ret k15_34 e15 H


/-! ### zoetrope/zoetroperef00.Abs: function 17 -/
noncomputable abbrev P17 (p : List Nat) : Code := subC (codeOf Try.f17) p
noncomputable abbrev O17 (p : List Nat) : Array Oper := opsOf (subC (codeOf Try.f17) p)
theorem b17 : Try.prog.funcs[17]? = some Try.f17 ∧ (Orc.tab Try.prog).lookup 17 = none := ⟨by kernel_rfl, by kernel_rfl⟩
theorem d17 : Try.f17.body = some (P17 []) := by kernel_rfl
theorem t17 {x0 : Int} : #[.int .i64 x0] ++ Array.replicate (Try.f17.ntmps - (#[.int .i64 x0] : Array Value).size) undef = #[.int .i64 x0,undef,undef,undef,undef,undef,undef,undef] := by kernel_rfl
theorem k17_0 : P17 [] = .seq (P17 [0]) (P17 [1]) := by kernel_rfl
theorem k17_1 : P17 [0] = .region 0 (O17 [0]) false := by kernel_rfl
theorem r17_0 {M : Mem} {call : CallM} {K : Array Value → Mem → R} :
    opsK Try.prog (fun _ => call) (O17 [0]) (O17 [0]).toList 0 #[g0,g1,g2,g3,g4,g5,g6,g7] M K = K #[g0,g1,.int .i64 0,g3,g4,g5,g6,g7] M := by kernel_rfl
theorem k17_2 : P17 [1] = .seq (P17 [1,0]) (P17 [1,1]) := by kernel_rfl
theorem k17_3 : P17 [1,0] = .seq (P17 [1,0,0]) (P17 [1,0,1]) := by kernel_rfl
theorem k17_4 : P17 [1,0,0] = .region 1 (O17 [1,0,0]) false := by kernel_rfl
theorem r17_1 {x0 : Int} {M : Mem} {call : CallM} {K : Array Value → Mem → R} :
    opsK Try.prog (fun _ => call) (O17 [1,0,0]) (O17 [1,0,0]).toList 0 #[.int .i64 x0,g1,g2,g3,g4,g5,g6,g7] M K = K #[.int .i64 x0,g1,g2,.int .i64 x0,.bool (decide (x0 < 0)),g5,g6,g7] M := by kernel_rfl
theorem c17_5 : P17 [1,0,1] = .cond (.tmp 4) (P17 [1,0,1,0]) (P17 [1,0,1,1]) := by kernel_rfl
theorem k17_6 : P17 [1,0,1,0] = .seq (P17 [1,0,1,0,0]) (P17 [1,0,1,0,1]) := by kernel_rfl
theorem k17_7 : P17 [1,0,1,0,0] = .region 2 (O17 [1,0,1,0,0]) false := by kernel_rfl
theorem r17_2 {x0 : Int} {M : Mem} {call : CallM} {K : Array Value → Mem → R} :
    opsK Try.prog (fun _ => call) (O17 [1,0,1,0,0]) (O17 [1,0,1,0,0]).toList 0 #[.int .i64 x0,g1,g2,g3,g4,g5,g6,g7] M K = K #[.int .i64 x0,g1,.int .i64 (IntKind.i64.wrap (0 - x0)),g3,g4,.int .i64 x0,.int .i64 (IntKind.i64.wrap (0 - x0)),g7] M := by kernel_rfl
theorem k17_8 : P17 [1,0,1,0,1] = .ret := by kernel_rfl
theorem e17 {M : Mem} : finish Try.prog Try.f17 #[g0,g1,g2,g3,g4,g5,g6,g7] M = some (g2, M) := by kernel_rfl
theorem k17_10 : P17 [1,0,1,1] = .skip := by kernel_rfl
theorem k17_11 : P17 [1,1] = .seq (P17 [1,1,0]) (P17 [1,1,1]) := by kernel_rfl
theorem k17_12 : P17 [1,1,0] = .region 3 (O17 [1,1,0]) false := by kernel_rfl
theorem r17_3 {x0 : Int} {M : Mem} {call : CallM} {K : Array Value → Mem → R} :
    opsK Try.prog (fun _ => call) (O17 [1,1,0]) (O17 [1,1,0]).toList 0 #[.int .i64 x0,g1,g2,g3,g4,g5,g6,g7] M K = K #[.int .i64 x0,g1,.int .i64 x0,g3,g4,g5,g6,.int .i64 x0] M := by kernel_rfl
theorem k17_13 : P17 [1,1,1] = .ret := by kernel_rfl
theorem w17_0 {x0 : Int} {M : Mem} {Q : Value → Mem → Prop} (H :
    ((x0 < 0 →
     Q (.int .i64 (IntKind.i64.wrap (0 - x0))) M) ∧
     (¬ (x0 < 0) →
     Q (.int .i64 x0) M))) :
    Cn Try.prog 17 #[.int .i64 x0] M Q := by
  refine Cn.of b17 d17 t17 ?_
  refine Rn.seq k17_0 (Rn.region k17_1 (fun call K => r17_0) (Rch.leaf (Rn.seq k17_2 (Rn.seq k17_3 (Rn.region k17_4 (fun call K => r17_1) (Rch.leaf ?_))))))
  refine Rn.cnd (v := decide (x0 < 0)) ⟨c17_5, rfl, by kernel_rfl⟩ (fun h => ?_) (fun h => ?_)
  · replace H := H.1 (of_decide_eq_true h)
    refine Rn.seq k17_6 (Rn.region k17_7 (fun call K => r17_2) (Rch.leaf ?_))
    exact Rn.ret k17_8 e17 H
  · replace H := H.2 (of_decide_eq_false h)
    refine Rn.skip k17_10 (Rn.seq k17_11 (Rn.region k17_12 (fun call K => r17_3) (Rch.leaf ?_)))
    exact Rn.ret k17_13 e17 H


/-! ### zoetrope/zoetroperef00.Bring: function 18 -/
noncomputable abbrev P18 (p : List Nat) : Code := subC (codeOf Try.f18) p
noncomputable abbrev O18 (p : List Nat) : Array Oper := opsOf (subC (codeOf Try.f18) p)
theorem b18 : Try.prog.funcs[18]? = some Try.f18 ∧ (Orc.tab Try.prog).lookup 18 = none := ⟨by kernel_rfl, by kernel_rfl⟩
theorem d18 : Try.f18.body = some (P18 []) := by kernel_rfl
theorem t18 {x0 x1 : Int} : #[.int .i64 x0,.int .i64 x1] ++ Array.replicate (Try.f18.ntmps - (#[.int .i64 x0,.int .i64 x1] : Array Value).size) undef = #[.int .i64 x0,.int .i64 x1,undef,undef,undef,undef,undef,undef,undef,undef,undef,undef,undef,undef,undef,undef] := by kernel_rfl
theorem k18_0 : P18 [] = .seq (P18 [0]) (P18 [1]) := by kernel_rfl
theorem k18_1 : P18 [0] = .region 0 (O18 [0]) false := by kernel_rfl
theorem r18_0 {M : Mem} {call : CallM} {K : Array Value → Mem → R} :
    opsK Try.prog (fun _ => call) (O18 [0]) (O18 [0]).toList 0 #[g0,g1,g2,g3,g4,g5,g6,g7,g8,g9,g10,g11,g12,g13,g14,g15] M K = K #[g0,g1,g2,g3,.int .i64 0,g5,g6,g7,g8,g9,g10,g11,g12,g13,g14,g15] M := by kernel_rfl
theorem k18_2 : P18 [1] = .seq (P18 [1,0]) (P18 [1,1]) := by kernel_rfl
theorem k18_3 : P18 [1,0] = .seq (P18 [1,0,0]) (P18 [1,0,1]) := by kernel_rfl
theorem k18_4 : P18 [1,0,0] = .region 1 (O18 [1,0,0]) false := by kernel_rfl
theorem r18_1 {x1 : Int} {M : Mem} {call : CallM} {K : Array Value → Mem → R} :
    opsK Try.prog (fun _ => call) (O18 [1,0,0]) (O18 [1,0,0]).toList 0 #[g0,.int .i64 x1,g2,g3,g4,g5,g6,g7,g8,g9,g10,g11,g12,g13,g14,g15] M K = K #[g0,.int .i64 x1,g2,g3,g4,.int .i64 x1,.bool (decide (x1 ≤ 0)),g7,g8,g9,g10,g11,g12,g13,g14,g15] M := by kernel_rfl
theorem c18_5 : P18 [1,0,1] = .cond (.tmp 6) (P18 [1,0,1,0]) (P18 [1,0,1,1]) := by kernel_rfl
theorem k18_6 : P18 [1,0,1,0] = .seq (P18 [1,0,1,0,0]) (P18 [1,0,1,0,1]) := by kernel_rfl
theorem k18_7 : P18 [1,0,1,0,0] = .region 2 (O18 [1,0,1,0,0]) false := by kernel_rfl
theorem r18_2 {M : Mem} {call : CallM} {K : Array Value → Mem → R} :
    opsK Try.prog (fun _ => call) (O18 [1,0,1,0,0]) (O18 [1,0,1,0,0]).toList 0 #[g0,g1,g2,g3,g4,g5,g6,g7,g8,g9,g10,g11,g12,g13,g14,g15] M K = K #[g0,g1,g2,g3,.int .i64 0,g5,g6,g7,g8,g9,g10,g11,g12,g13,g14,g15] M := by kernel_rfl
theorem k18_8 : P18 [1,0,1,0,1] = .ret := by kernel_rfl
theorem e18 {M : Mem} : finish Try.prog Try.f18 #[g0,g1,g2,g3,g4,g5,g6,g7,g8,g9,g10,g11,g12,g13,g14,g15] M = some (g4, M) := by kernel_rfl
theorem k18_10 : P18 [1,0,1,1] = .skip := by kernel_rfl
theorem k18_11 : P18 [1,1] = .seq (P18 [1,1,0]) (P18 [1,1,1]) := by kernel_rfl
theorem k18_12 : P18 [1,1,0] = .region 3 (O18 [1,1,0]) false := by kernel_rfl
theorem r18_3 {x0 x1 : Int} {M : Mem} {call : CallM} {K : Array Value → Mem → R} :
    opsK Try.prog (fun _ => call) (O18 [1,1,0]) (O18 [1,1,0]).toList 0 #[.int .i64 x0,.int .i64 x1,g2,g3,g4,g5,g6,g7,g8,g9,g10,g11,g12,g13,g14,g15] M K = (binV Try.prog .rem 3 3 (.int .i64 x0) (.int .i64 x1)).bind fun v_1 => (asI .i64 v_1).bind fun x_2 => K #[.int .i64 x_2,.int .i64 x1,g2,g3,g4,g5,g6,.int .i64 x0,.int .i64 x1,.int .i64 x_2,g10,g11,g12,g13,g14,g15] M := by kernel_rfl
theorem k18_13 : P18 [1,1,1] = .seq (P18 [1,1,1,0]) (P18 [1,1,1,1]) := by kernel_rfl
theorem k18_14 : P18 [1,1,1,0] = .seq (P18 [1,1,1,0,0]) (P18 [1,1,1,0,1]) := by kernel_rfl
theorem k18_15 : P18 [1,1,1,0,0] = .region 4 (O18 [1,1,1,0,0]) false := by kernel_rfl
theorem r18_4 {x0 : Int} {M : Mem} {call : CallM} {K : Array Value → Mem → R} :
    opsK Try.prog (fun _ => call) (O18 [1,1,1,0,0]) (O18 [1,1,1,0,0]).toList 0 #[.int .i64 x0,g1,g2,g3,g4,g5,g6,g7,g8,g9,g10,g11,g12,g13,g14,g15] M K = K #[.int .i64 x0,g1,g2,g3,g4,g5,g6,g7,g8,g9,.int .i64 x0,.bool (decide (x0 < 0)),g12,g13,g14,g15] M := by kernel_rfl
theorem c18_16 : P18 [1,1,1,0,1] = .cond (.tmp 11) (P18 [1,1,1,0,1,0]) (P18 [1,1,1,0,1,1]) := by kernel_rfl
theorem k18_17 : P18 [1,1,1,0,1,0] = .region 5 (O18 [1,1,1,0,1,0]) false := by kernel_rfl
theorem r18_5 {x0 x1 : Int} {M : Mem} {call : CallM} {K : Array Value → Mem → R} :
    opsK Try.prog (fun _ => call) (O18 [1,1,1,0,1,0]) (O18 [1,1,1,0,1,0]).toList 0 #[.int .i64 x0,.int .i64 x1,g2,g3,g4,g5,g6,g7,g8,g9,g10,g11,g12,g13,g14,g15] M K = K #[.int .i64 (IntKind.i64.wrap (x0 + x1)),.int .i64 x1,g2,g3,g4,g5,g6,g7,g8,g9,g10,g11,.int .i64 x0,.int .i64 x1,.int .i64 (IntKind.i64.wrap (x0 + x1)),g15] M := by kernel_rfl
theorem k18_18 : P18 [1,1,1,1] = .seq (P18 [1,1,1,1,0]) (P18 [1,1,1,1,1]) := by kernel_rfl
theorem k18_19 : P18 [1,1,1,1,0] = .region 6 (O18 [1,1,1,1,0]) false := by kernel_rfl
theorem r18_6 {x0 : Int} {M : Mem} {call : CallM} {K : Array Value → Mem → R} :
    opsK Try.prog (fun _ => call) (O18 [1,1,1,1,0]) (O18 [1,1,1,1,0]).toList 0 #[.int .i64 x0,g1,g2,g3,g4,g5,g6,g7,g8,g9,g10,g11,g12,g13,g14,g15] M K = K #[.int .i64 x0,g1,g2,g3,.int .i64 x0,g5,g6,g7,g8,g9,g10,g11,g12,g13,g14,.int .i64 x0] M := by kernel_rfl
theorem k18_20 : P18 [1,1,1,1,1] = .ret := by kernel_rfl
theorem k18_21 : P18 [1,1,1,0,1,1] = .skip := by kernel_rfl
theorem w18_0 {x0 x1 : Int} {M : Mem} {Q : Value → Mem → Prop} (H :
    ((x1 ≤ 0 →
     Q (.int .i64 0) M) ∧
     (¬ (x1 ≤ 0) →
     ∃ v1', binV Try.prog .rem 3 3 (.int .i64 x0) (.int .i64 x1) = some v1' ∧
     ∃ x2', asI .i64 v1' = some x2' ∧
     ((x2' < 0 →
      Q (.int .i64 (IntKind.i64.wrap (x2' + x1))) M) ∧
      (¬ (x2' < 0) →
      Q (.int .i64 (x2')) M))))) :
    Cn Try.prog 18 #[.int .i64 x0, .int .i64 x1] M Q := by
  refine Cn.of b18 d18 t18 ?_
  refine Rn.seq k18_0 (Rn.region k18_1 (fun call K => r18_0) (Rch.leaf (Rn.seq k18_2 (Rn.seq k18_3 (Rn.region k18_4 (fun call K => r18_1) (Rch.leaf ?_))))))
  refine Rn.cnd (v := decide (x1 ≤ 0)) ⟨c18_5, rfl, by kernel_rfl⟩ (fun h => ?_) (fun h => ?_)
  · replace H := H.1 (of_decide_eq_true h)
    refine Rn.seq k18_6 (Rn.region k18_7 (fun call K => r18_2) (Rch.leaf ?_))
    exact Rn.ret k18_8 e18 H
  · replace H := H.2 (of_decide_eq_false h)
    refine Rn.skip k18_10 (Rn.seq k18_11 (Rn.region k18_12 (fun call K => r18_3) (Rch.ex H fun v1' H => Rch.ex H fun x2' H => Rch.leaf (Rn.seq k18_13 (Rn.seq k18_14 (Rn.region k18_15 (fun call K => r18_4) (Rch.leaf ?_)))))))
    refine Rn.cnd (v := decide (x2' < 0)) ⟨c18_16, rfl, by kernel_rfl⟩ (fun h => ?_) (fun h => ?_)
    · replace H := H.1 (of_decide_eq_true h)
      refine Rn.region k18_17 (fun call K => r18_5) (Rch.leaf (Rn.seq k18_18 (Rn.region k18_19 (fun call K => r18_6) (Rch.leaf ?_))))
      exact Rn.ret k18_20 e18 H
    · replace H := H.2 (of_decide_eq_false h)
      refine Rn.skip k18_21 (Rn.seq k18_18 (Rn.region k18_19 (fun call K => r18_6) (Rch.leaf ?_)))
      exact Rn.ret k18_20 e18 H


/-! ### zoetrope/zoetropelaw07.row: function 12 -/
noncomputable abbrev P12 (p : List Nat) : Code := subC (codeOf Try.f12) p
noncomputable abbrev O12 (p : List Nat) : Array Oper := opsOf (subC (codeOf Try.f12) p)
theorem b12 : Try.prog.funcs[12]? = some Try.f12 ∧ (Orc.tab Try.prog).lookup 12 = none := ⟨by kernel_rfl, by kernel_rfl⟩
theorem d12 : Try.f12.body = some (P12 []) := by kernel_rfl
theorem t12 {Ax0 : Option Addr} {lx0 cx0 : Nat} {x1 x2 : Int} : #[.slice Ax0 lx0 cx0,.int .i64 x1,.int .i64 x2] ++ Array.replicate (Try.f12.ntmps - (#[.slice Ax0 lx0 cx0,.int .i64 x1,.int .i64 x2] : Array Value).size) undef = #[.slice Ax0 lx0 cx0,.int .i64 x1,.int .i64 x2,undef,undef,undef,undef,undef,undef,undef,undef,undef,undef,undef,undef,undef,undef,undef,undef,undef,undef,undef,undef,undef,undef,undef,undef,undef,undef,undef,undef,undef,undef,undef,undef,undef,undef,undef,undef,undef,undef,undef,undef] := by kernel_rfl
theorem k12_0 : P12 [] = .seq (P12 [0]) (P12 [1]) := by kernel_rfl
theorem k12_1 : P12 [0] = .region 0 (O12 [0]) false := by kernel_rfl
theorem r12_0 {M : Mem} {call : CallM} {K : Array Value → Mem → R} :
    opsK Try.prog (fun _ => call) (O12 [0]) (O12 [0]).toList 0 #[g0,g1,g2,g3,g4,g5,g6,g7,g8,g9,g10,g11,g12,g13,g14,g15,g16,g17,g18,g19,g20,g21,g22,g23,g24,g25,g26,g27,g28,g29,g30,g31,g32,g33,g34,g35,g36,g37,g38,g39,g40,g41,g42] M K = K #[g0,g1,g2,g3,g4,g5,.slice none 0 0,g7,g8,g9,g10,g11,g12,g13,g14,g15,g16,g17,g18,g19,g20,g21,g22,g23,g24,g25,g26,g27,g28,g29,g30,g31,g32,g33,g34,g35,g36,g37,g38,g39,g40,g41,g42] M := by kernel_rfl
theorem k12_2 : P12 [1] = .seq (P12 [1,0]) (P12 [1,1]) := by kernel_rfl
theorem k12_3 : P12 [1,0] = .region 1 (O12 [1,0]) false := by kernel_rfl
theorem r12_1 {M : Mem} {call : CallM} {K : Array Value → Mem → R} :
    opsK Try.prog (fun _ => call) (O12 [1,0]) (O12 [1,0]).toList 0 #[g0,g1,g2,g3,g4,g5,g6,g7,g8,g9,g10,g11,g12,g13,g14,g15,g16,g17,g18,g19,g20,g21,g22,g23,g24,g25,g26,g27,g28,g29,g30,g31,g32,g33,g34,g35,g36,g37,g38,g39,g40,g41,g42] M K = K #[g0,g1,g2,g3,g4,g5,g6,.slice none 0 0,g8,g9,g10,g11,g12,g13,g14,g15,g16,g17,g18,g19,g20,g21,g22,g23,g24,g25,g26,g27,g28,g29,g30,g31,g32,g33,g34,g35,g36,g37,g38,g39,g40,g41,g42] M := by kernel_rfl
theorem k12_4 : P12 [1,1] = .seq (P12 [1,1,0]) (P12 [1,1,1]) := by kernel_rfl
theorem k12_5 : P12 [1,1,0] = .seq (P12 [1,1,0,0]) (P12 [1,1,0,1]) := by kernel_rfl
theorem k12_6 : P12 [1,1,0,0] = .region 2 (O12 [1,1,0,0]) false := by kernel_rfl
theorem r12_2 {M : Mem} {call : CallM} {K : Array Value → Mem → R} :
    opsK Try.prog (fun _ => call) (O12 [1,1,0,0]) (O12 [1,1,0,0]).toList 0 #[g0,g1,g2,g3,g4,g5,g6,g7,g8,g9,g10,g11,g12,g13,g14,g15,g16,g17,g18,g19,g20,g21,g22,g23,g24,g25,g26,g27,g28,g29,g30,g31,g32,g33,g34,g35,g36,g37,g38,g39,g40,g41,g42] M K = K #[g0,g1,g2,g3,g4,g5,g6,g7,.int .i64 0,g9,g10,g11,g12,g13,g14,g15,g16,g17,g18,g19,g20,g21,g22,g23,g24,g25,g26,g27,g28,g29,g30,g31,g32,g33,g34,g35,g36,g37,g38,g39,g40,g41,g42] M := by kernel_rfl
theorem k12_7 : P12 [1,1,0,1] = .block 0 (P12 [1,1,0,1,0]) := by kernel_rfl
theorem k12_8 : P12 [1,1,0,1,0] = .loop (P12 [1,1,0,1,0,0]) := by kernel_rfl
theorem k12_9 : P12 [1,1,0,1,0,0] = .seq (P12 [1,1,0,1,0,0,0]) (P12 [1,1,0,1,0,0,1]) := by kernel_rfl
theorem k12_10 : P12 [1,1,0,1,0,0,0] = .seq (P12 [1,1,0,1,0,0,0,0]) (P12 [1,1,0,1,0,0,0,1]) := by kernel_rfl
theorem k12_11 : P12 [1,1,0,1,0,0,0,0] = .region 3 (O12 [1,1,0,1,0,0,0,0]) false := by kernel_rfl
theorem r12_3 {x1 x8 : Int} {M : Mem} {call : CallM} {K : Array Value → Mem → R} :
    opsK Try.prog (fun _ => call) (O12 [1,1,0,1,0,0,0,0]) (O12 [1,1,0,1,0,0,0,0]).toList 0 #[g0,.int .i64 x1,g2,g3,g4,g5,g6,g7,.int .i64 x8,g9,g10,g11,g12,g13,g14,g15,g16,g17,g18,g19,g20,g21,g22,g23,g24,g25,g26,g27,g28,g29,g30,g31,g32,g33,g34,g35,g36,g37,g38,g39,g40,g41,g42] M K = K #[g0,.int .i64 x1,g2,g3,g4,g5,g6,g7,.int .i64 x8,g9,.int .i64 x8,.int .i64 x1,.bool (decide (x8 < x1)),g13,g14,g15,g16,g17,g18,g19,g20,g21,g22,g23,g24,g25,g26,g27,g28,g29,g30,g31,g32,g33,g34,g35,g36,g37,g38,g39,g40,g41,g42] M := by kernel_rfl
theorem c12_12 : P12 [1,1,0,1,0,0,0,1] = .cond (.tmp 12) (P12 [1,1,0,1,0,0,0,1,0]) (P12 [1,1,0,1,0,0,0,1,1]) := by kernel_rfl
theorem k12_13 : P12 [1,1,0,1,0,0,0,1,0] = .skip := by kernel_rfl
theorem k12_14 : P12 [1,1,0,1,0,0,1] = .seq (P12 [1,1,0,1,0,0,1,0]) (P12 [1,1,0,1,0,0,1,1]) := by kernel_rfl
theorem k12_15 : P12 [1,1,0,1,0,0,1,0] = .block 1 (P12 [1,1,0,1,0,0,1,0,0]) := by kernel_rfl
theorem k12_16 : P12 [1,1,0,1,0,0,1,0,0] = .seq (P12 [1,1,0,1,0,0,1,0,0,0]) (P12 [1,1,0,1,0,0,1,0,0,1]) := by kernel_rfl
theorem k12_17 : P12 [1,1,0,1,0,0,1,0,0,0] = .region 5 (O12 [1,1,0,1,0,0,1,0,0,0]) false := by kernel_rfl
theorem r12_5 {x8 : Int} {M : Mem} {call : CallM} {K : Array Value → Mem → R} :
    opsK Try.prog (fun _ => call) (O12 [1,1,0,1,0,0,1,0,0,0]) (O12 [1,1,0,1,0,0,1,0,0,0]).toList 0 #[g0,g1,g2,g3,g4,g5,g6,g7,.int .i64 x8,g9,g10,g11,g12,g13,g14,g15,g16,g17,g18,g19,g20,g21,g22,g23,g24,g25,g26,g27,g28,g29,g30,g31,g32,g33,g34,g35,g36,g37,g38,g39,g40,g41,g42] M K = K #[g0,g1,g2,g3,g4,g5,g6,g7,.int .i64 x8,.int .i64 (IntKind.i64.wrap (7 * x8)),g10,g11,g12,g13,g14,.int .i64 x8,.int .i64 (IntKind.i64.wrap (7 * x8)),g17,g18,g19,g20,g21,g22,g23,g24,g25,g26,g27,g28,g29,g30,g31,g32,g33,g34,g35,g36,g37,g38,g39,g40,g41,g42] M := by kernel_rfl
theorem k12_18 : P12 [1,1,0,1,0,0,1,0,0,1] = .seq (P12 [1,1,0,1,0,0,1,0,0,1,0]) (P12 [1,1,0,1,0,0,1,0,0,1,1]) := by kernel_rfl
theorem k12_19 : P12 [1,1,0,1,0,0,1,0,0,1,0] = .seq (P12 [1,1,0,1,0,0,1,0,0,1,0,0]) (P12 [1,1,0,1,0,0,1,0,0,1,0,1]) := by kernel_rfl
theorem k12_20 : P12 [1,1,0,1,0,0,1,0,0,1,0,0] = .region 6 (O12 [1,1,0,1,0,0,1,0,0,1,0,0]) false := by kernel_rfl
theorem r12_6 {Ax0 : Option Addr} {lx0 cx0 : Nat} {M : Mem} {call : CallM} {K : Array Value → Mem → R} :
    opsK Try.prog (fun _ => call) (O12 [1,1,0,1,0,0,1,0,0,1,0,0]) (O12 [1,1,0,1,0,0,1,0,0,1,0,0]).toList 0 #[.slice Ax0 lx0 cx0,g1,g2,g3,g4,g5,g6,g7,g8,g9,g10,g11,g12,g13,g14,g15,g16,g17,g18,g19,g20,g21,g22,g23,g24,g25,g26,g27,g28,g29,g30,g31,g32,g33,g34,g35,g36,g37,g38,g39,g40,g41,g42] M K = K #[.slice Ax0 lx0 cx0,g1,g2,g3,g4,g5,g6,g7,g8,g9,g10,g11,g12,g13,g14,g15,g16,.slice Ax0 lx0 cx0,.int .i64 ((lx0 : Int)),.bool (decide (((lx0 : Int)) > 0)),g20,g21,g22,g23,g24,g25,g26,g27,g28,g29,g30,g31,g32,g33,g34,g35,g36,g37,g38,g39,g40,g41,g42] M := by kernel_rfl
theorem c12_21 : P12 [1,1,0,1,0,0,1,0,0,1,0,1] = .cond (.tmp 19) (P12 [1,1,0,1,0,0,1,0,0,1,0,1,0]) (P12 [1,1,0,1,0,0,1,0,0,1,0,1,1]) := by kernel_rfl
theorem k12_22 : P12 [1,1,0,1,0,0,1,0,0,1,0,1,0] = .region 7 (O12 [1,1,0,1,0,0,1,0,0,1,0,1,0]) true ∧ drawOk (O12 [1,1,0,1,0,0,1,0,0,1,0,1,0]) = true := ⟨by kernel_rfl, by kernel_rfl⟩
theorem r12_7 {Ax0 : Option Addr} {lx0 cx0 : Nat} {x8 : Int} {M : Mem} {call : CallM} {K : Array Value → Mem → R} :
    opsI Try.prog (callAt call (O12 [1,1,0,1,0,0,1,0,0,1,0,1,0])) (O12 [1,1,0,1,0,0,1,0,0,1,0,1,0]) (ordOf (O12 [1,1,0,1,0,0,1,0,0,1,0,1,0])) [] #[.slice Ax0 lx0 cx0,g1,g2,g3,g4,g5,g6,g7,.int .i64 x8,g9,g10,g11,g12,g13,g14,g15,g16,g17,g18,g19,g20,g21,g22,g23,g24,g25,g26,g27,g28,g29,g30,g31,g32,g33,g34,g35,g36,g37,g38,g39,g40,g41,g42] M K = (binV Try.prog .rem 3 3 (.int .i64 x8) (.int .i64 ((lx0 : Int)))).bind fun v_1 => (asI .i64 v_1).bind fun x_2 => (idxA Ax0 lx0 1 x_2).bind fun a_3 => (M.intAt .i64 a_3.block a_3.off).bind fun x_4 => (binV Try.prog .quo 3 3 (.int .i64 x8) (.int .i64 ((lx0 : Int)))).bind fun v_5 => (asI .i64 v_5).bind fun x_6 => K #[.slice Ax0 lx0 cx0,g1,g2,g3,g4,g5,g6,g7,.int .i64 x8,.int .i64 (IntKind.i64.wrap (x_4 + x_6)),g10,g11,g12,g13,g14,g15,g16,g17,g18,g19,.slice Ax0 lx0 cx0,.int .i64 x8,.slice Ax0 lx0 cx0,.int .i64 ((lx0 : Int)),.int .i64 x_2,.pointer (some a_3),.int .i64 x_4,.int .i64 x8,.slice Ax0 lx0 cx0,.int .i64 ((lx0 : Int)),.int .i64 x_6,.int .i64 (IntKind.i64.wrap (x_4 + x_6)),g32,g33,g34,g35,g36,g37,g38,g39,g40,g41,g42] M := by kernel_rfl
theorem k12_23 : P12 [1,1,0,1,0,0,1,0,0,1,1] = .region 8 (O12 [1,1,0,1,0,0,1,0,0,1,1]) false := by kernel_rfl
theorem r12_8 {x2 : Int} {Ax7 : Option Addr} {lx7 cx7 : Nat} {x9 : Int} {M : Mem} {call : CallM} {K : Array Value → Mem → R} :
    opsK Try.prog (fun _ => call) (O12 [1,1,0,1,0,0,1,0,0,1,1]) (O12 [1,1,0,1,0,0,1,0,0,1,1]).toList 0 #[g0,g1,.int .i64 x2,g3,g4,g5,g6,.slice Ax7 lx7 cx7,g8,.int .i64 x9,g10,g11,g12,g13,g14,g15,g16,g17,g18,g19,g20,g21,g22,g23,g24,g25,g26,g27,g28,g29,g30,g31,g32,g33,g34,g35,g36,g37,g38,g39,g40,g41,g42] M K = (call 18 #[.int .i64 x9, .int .i64 (IntKind.i64.wrap ((IntKind.i64.wrap (2 * x2)) + 1))] M).bind fun r_1 => (asI .i64 r_1.1).bind fun x_2 => (appendP Try.prog #[22, 22] (.slice Ax7 lx7 cx7) (.slice (some ⟨2 * r_1.2.nb.size, 0, none⟩) 1 1) (r_1.2.new (.cells #[.int .i64 (IntKind.i64.wrap (x_2 - x2))] 3))).bind fun r_3 => (asS r_3.1).bind fun s_4 => K #[g0,g1,.int .i64 x2,g3,g4,g5,g6,.slice s_4.1 (s_4.2.1) (s_4.2.2),g8,.int .i64 x9,g10,g11,g12,g13,g14,g15,g16,g17,g18,g19,g20,g21,g22,g23,g24,g25,g26,g27,g28,g29,g30,g31,.slice Ax7 lx7 cx7,.int .i64 x9,.int .i64 x2,.int .i64 (IntKind.i64.wrap (2 * x2)),.int .i64 (IntKind.i64.wrap ((IntKind.i64.wrap (2 * x2)) + 1)),.int .i64 x_2,.int .i64 x2,.int .i64 (IntKind.i64.wrap (x_2 - x2)),.slice (some ⟨2 * r_1.2.nb.size, 0, none⟩) 1 1,.slice s_4.1 (s_4.2.1) (s_4.2.2),g42] r_3.2 := by kernel_rfl
theorem k12_24 : P12 [1,1,0,1,0,0,1,1] = .region 4 (O12 [1,1,0,1,0,0,1,1]) false := by kernel_rfl
theorem r12_4 {x8 : Int} {M : Mem} {call : CallM} {K : Array Value → Mem → R} :
    opsK Try.prog (fun _ => call) (O12 [1,1,0,1,0,0,1,1]) (O12 [1,1,0,1,0,0,1,1]).toList 0 #[g0,g1,g2,g3,g4,g5,g6,g7,.int .i64 x8,g9,g10,g11,g12,g13,g14,g15,g16,g17,g18,g19,g20,g21,g22,g23,g24,g25,g26,g27,g28,g29,g30,g31,g32,g33,g34,g35,g36,g37,g38,g39,g40,g41,g42] M K = K #[g0,g1,g2,g3,g4,g5,g6,g7,.int .i64 (IntKind.i64.wrap (x8 + 1)),g9,g10,g11,g12,.int .i64 x8,.int .i64 (IntKind.i64.wrap (x8 + 1)),g15,g16,g17,g18,g19,g20,g21,g22,g23,g24,g25,g26,g27,g28,g29,g30,g31,g32,g33,g34,g35,g36,g37,g38,g39,g40,g41,g42] M := by kernel_rfl
theorem k12_25 : P12 [1,1,0,1,0,0,1,0,0,1,0,1,1] = .skip := by kernel_rfl
theorem k12_26 : P12 [1,1,0,1,0,0,0,1,1] = .exit 0 := by kernel_rfl
theorem k12_27 : P12 [1,1,1] = .seq (P12 [1,1,1,0]) (P12 [1,1,1,1]) := by kernel_rfl
theorem k12_28 : P12 [1,1,1,0] = .region 9 (O12 [1,1,1,0]) false := by kernel_rfl
theorem r12_9 {Ax7 : Option Addr} {lx7 cx7 : Nat} {M : Mem} {call : CallM} {K : Array Value → Mem → R} :
    opsK Try.prog (fun _ => call) (O12 [1,1,1,0]) (O12 [1,1,1,0]).toList 0 #[g0,g1,g2,g3,g4,g5,g6,.slice Ax7 lx7 cx7,g8,g9,g10,g11,g12,g13,g14,g15,g16,g17,g18,g19,g20,g21,g22,g23,g24,g25,g26,g27,g28,g29,g30,g31,g32,g33,g34,g35,g36,g37,g38,g39,g40,g41,g42] M K = K #[g0,g1,g2,g3,g4,g5,.slice Ax7 lx7 cx7,.slice Ax7 lx7 cx7,g8,g9,g10,g11,g12,g13,g14,g15,g16,g17,g18,g19,g20,g21,g22,g23,g24,g25,g26,g27,g28,g29,g30,g31,g32,g33,g34,g35,g36,g37,g38,g39,g40,g41,.slice Ax7 lx7 cx7] M := by kernel_rfl
theorem k12_29 : P12 [1,1,1,1] = .ret := by kernel_rfl
theorem e12 {M : Mem} : finish Try.prog Try.f12 #[g0,g1,g2,g3,g4,g5,g6,g7,g8,g9,g10,g11,g12,g13,g14,g15,g16,g17,g18,g19,g20,g21,g22,g23,g24,g25,g26,g27,g28,g29,g30,g31,g32,g33,g34,g35,g36,g37,g38,g39,g40,g41,g42] M = some (g6, M) := by kernel_rfl
noncomputable def S12_1 : List Item := [.code (P12 [1,1,0,1,0,0]), .inLoop (P12 [1,1,0,1,0,0]), .inBlock 0, .code (P12 [1,1,1])]
def A12_1 (Ax0 : Option Addr) (lx0 cx0 : Nat) (x1 x2 : Int) (Ax7 : Option Addr) (lx7 cx7 : Nat) (x8 : Int) (M : Mem) (Q : Value → Mem → Prop) : Prop := ∀ (g3 g4 g5 g6 g9 g10 g11 g12 g13 g14 g15 g16 g17 g18 g19 g20 g21 g22 g23 g24 g25 g26 g27 g28 g29 g30 g31 g32 g33 g34 g35 g36 g37 g38 g39 g40 g41 g42 : Value), Rn Try.prog Try.f12 S12_1 #[.slice Ax0 lx0 cx0, .int .i64 x1, .int .i64 x2, g3, g4, g5, g6, .slice Ax7 lx7 cx7, .int .i64 x8, g9, g10, g11, g12, g13, g14, g15, g16, g17, g18, g19, g20, g21, g22, g23, g24, g25, g26, g27, g28, g29, g30, g31, g32, g33, g34, g35, g36, g37, g38, g39, g40, g41, g42] M Q
theorem w12_0 {Ax0 : Option Addr} {lx0 cx0 : Nat} {x1 x2 : Int} {M : Mem} {Q : Value → Mem → Prop} (H :
    A12_1 Ax0 lx0 cx0 x1 x2 none 0 0 0 M Q) :
    Cn Try.prog 12 #[.slice Ax0 lx0 cx0, .int .i64 x1, .int .i64 x2] M Q := by
  refine Cn.of b12 d12 t12 ?_
  refine Rn.seq k12_0 (Rn.region k12_1 (fun call K => r12_0) (Rch.leaf (Rn.seq k12_2 (Rn.region k12_3 (fun call K => r12_1) (Rch.leaf (Rn.seq k12_4 (Rn.seq k12_5 (Rn.region k12_6 (fun call K => r12_2) (Rch.leaf (Rn.block k12_7 (Rn.loop k12_8 ?_)))))))))))
  exact H _ _ _ _ _ _ _ _ _ _ _ _ _ _ _ _ _ _ _ _ _ _ _ _ _ _ _ _ _ _ _ _ _ _ _ _ _ _

theorem w12_1 {Ax0 : Option Addr} {lx0 cx0 : Nat} {x1 x2 : Int} {Ax7 : Option Addr} {lx7 cx7 : Nat} {x8 : Int} {M : Mem} {Q : Value → Mem → Prop} (H :
    ((x8 < x1 →
     ((((lx0 : Int)) > 0 →
      ∃ v1', binV Try.prog .rem 3 3 (.int .i64 x8) (.int .i64 ((lx0 : Int))) = some v1' ∧
      ∃ x2', asI .i64 v1' = some x2' ∧
      ∃ a3', idxA Ax0 lx0 1 x2' = some a3' ∧
      ∃ x4', M.intAt .i64 a3'.block a3'.off = some x4' ∧
      ∃ v5', binV Try.prog .quo 3 3 (.int .i64 x8) (.int .i64 ((lx0 : Int))) = some v5' ∧
      ∃ x6', asI .i64 v5' = some x6' ∧
      Cn Try.prog 18 #[.int .i64 (IntKind.i64.wrap (x4' + x6')), .int .i64 (IntKind.i64.wrap ((IntKind.i64.wrap (2 * x2)) + 1))] M fun v7' N7' =>
       ∃ x8', asI .i64 v7' = some x8' ∧
       ∃ r9', appendP Try.prog #[22, 22] (.slice Ax7 lx7 cx7) (.slice (some ⟨2 * N7'.nb.size, 0, none⟩) 1 1) (N7'.new (.cells #[.int .i64 (IntKind.i64.wrap (x8' - x2))] 3)) = some r9' ∧
       ∃ s10', asS r9'.1 = some s10' ∧
       A12_1 Ax0 lx0 cx0 x1 x2 s10'.1 s10'.2.1 s10'.2.2 (IntKind.i64.wrap (x8 + 1)) r9'.2 Q) ∧
      (¬ (((lx0 : Int)) > 0) →
      Cn Try.prog 18 #[.int .i64 (IntKind.i64.wrap (7 * x8)), .int .i64 (IntKind.i64.wrap ((IntKind.i64.wrap (2 * x2)) + 1))] M fun v11' N11' =>
       ∃ x12', asI .i64 v11' = some x12' ∧
       ∃ r13', appendP Try.prog #[22, 22] (.slice Ax7 lx7 cx7) (.slice (some ⟨2 * N11'.nb.size, 0, none⟩) 1 1) (N11'.new (.cells #[.int .i64 (IntKind.i64.wrap (x12' - x2))] 3)) = some r13' ∧
       ∃ s14', asS r13'.1 = some s14' ∧
       A12_1 Ax0 lx0 cx0 x1 x2 s14'.1 s14'.2.1 s14'.2.2 (IntKind.i64.wrap (x8 + 1)) r13'.2 Q))) ∧
     (¬ (x8 < x1) →
     Q (.slice Ax7 lx7 cx7) M))) :
    A12_1 Ax0 lx0 cx0 x1 x2 Ax7 lx7 cx7 x8 M Q := by
  intro g3 g4 g5 g6 g9 g10 g11 g12 g13 g14 g15 g16 g17 g18 g19 g20 g21 g22 g23 g24 g25 g26 g27 g28 g29 g30 g31 g32 g33 g34 g35 g36 g37 g38 g39 g40 g41 g42
  refine Rn.seq k12_9 (Rn.seq k12_10 (Rn.region k12_11 (fun call K => r12_3) (Rch.leaf ?_)))
  refine Rn.cnd (v := decide (x8 < x1)) ⟨c12_12, rfl, by kernel_rfl⟩ (fun h => ?_) (fun h => ?_)
  · replace H := H.1 (of_decide_eq_true h)
    refine Rn.skip k12_13 (Rn.seq k12_14 (Rn.block k12_15 (Rn.seq k12_16 (Rn.region k12_17 (fun call K => r12_5) (Rch.leaf (Rn.seq k12_18 (Rn.seq k12_19 (Rn.region k12_20 (fun call K => r12_6) (Rch.leaf ?_)))))))))
    refine Rn.cnd (v := decide (((lx0 : Int)) > 0)) ⟨c12_21, rfl, by kernel_rfl⟩ (fun h => ?_) (fun h => ?_)
    · replace H := H.1 (of_decide_eq_true h)
      refine Rn.regionD k12_22 (fun call K => r12_7) (Rch.ex H fun v1' H => Rch.ex H fun x2' H => Rch.ex H fun a3' H => Rch.ex H fun x4' H => Rch.ex H fun v5' H => Rch.ex H fun x6' H => Rch.leaf (Rn.region k12_23 (fun call K => r12_8) (Rch.call H fun v7' N7' H => Rch.ex H fun x8' H => Rch.ex H fun r9' H => ?_)))
      refine Rch.ex H fun s10' H => Rch.leaf (Rn.blk (Rn.region k12_24 (fun call K => r12_4) (Rch.leaf (Rn.lp ?_))))
      exact H _ _ _ _ _ _ _ _ _ _ _ _ _ _ _ _ _ _ _ _ _ _ _ _ _ _ _ _ _ _ _ _ _ _ _ _ _ _
    · replace H := H.2 (of_decide_eq_false h)
      refine Rn.skip k12_25 (Rn.region k12_23 (fun call K => r12_8) (Rch.call H fun v11' N11' H => Rch.ex H fun x12' H => Rch.ex H fun r13' H => Rch.ex H fun s14' H => Rch.leaf (Rn.blk (Rn.region k12_24 (fun call K => r12_4) (Rch.leaf (Rn.lp ?_))))))
      exact H _ _ _ _ _ _ _ _ _ _ _ _ _ _ _ _ _ _ _ _ _ _ _ _ _ _ _ _ _ _ _ _ _ _ _ _ _ _
  · replace H := H.2 (of_decide_eq_false h)
    refine Rn.exit k12_26 rfl (Rn.seq k12_27 (Rn.region k12_28 (fun call K => r12_9) (Rch.leaf ?_)))
    exact Rn.ret k12_29 e12 H


/-! ### zoetrope/zoetropelaw07.lengths: function 16 -/
noncomputable abbrev P16 (p : List Nat) : Code := subC (codeOf Try.f16) p
noncomputable abbrev O16 (p : List Nat) : Array Oper := opsOf (subC (codeOf Try.f16) p)
theorem b16 : Try.prog.funcs[16]? = some Try.f16 ∧ (Orc.tab Try.prog).lookup 16 = none := ⟨by kernel_rfl, by kernel_rfl⟩
theorem d16 : Try.f16.body = some (P16 []) := by kernel_rfl
theorem t16 {x0 : Int} : #[.int .i64 x0] ++ Array.replicate (Try.f16.ntmps - (#[.int .i64 x0] : Array Value).size) undef = #[.int .i64 x0,undef,undef,undef,undef,undef,undef,undef,undef,undef,undef] := by kernel_rfl
theorem k16_0 : P16 [] = .seq (P16 [0]) (P16 [1]) := by kernel_rfl
theorem k16_1 : P16 [0] = .region 0 (O16 [0]) false := by kernel_rfl
theorem r16_0 {M : Mem} {call : CallM} {K : Array Value → Mem → R} :
    opsK Try.prog (fun _ => call) (O16 [0]) (O16 [0]).toList 0 #[g0,g1,g2,g3,g4,g5,g6,g7,g8,g9,g10] M K = K #[g0,g1,.slice none 0 0,g3,g4,g5,g6,g7,g8,g9,g10] M := by kernel_rfl
theorem k16_2 : P16 [1] = .seq (P16 [1,0]) (P16 [1,1]) := by kernel_rfl
theorem k16_3 : P16 [1,0] = .seq (P16 [1,0,0]) (P16 [1,0,1]) := by kernel_rfl
theorem k16_4 : P16 [1,0,0] = .region 1 (O16 [1,0,0]) false := by kernel_rfl
theorem r16_1 {x0 : Int} {M : Mem} {call : CallM} {K : Array Value → Mem → R} :
    opsK Try.prog (fun _ => call) (O16 [1,0,0]) (O16 [1,0,0]).toList 0 #[.int .i64 x0,g1,g2,g3,g4,g5,g6,g7,g8,g9,g10] M K = K #[.int .i64 x0,g1,g2,.int .i64 x0,g4,g5,g6,g7,g8,g9,g10] M := by kernel_rfl
theorem k16_5 : P16 [1,0,1] = .block 0 (P16 [1,0,1,0]) := by kernel_rfl
theorem k16_6 : P16 [1,0,1,0] = .seq (P16 [1,0,1,0,0]) (P16 [1,0,1,0,1]) := by kernel_rfl
theorem k16_7 : P16 [1,0,1,0,0] = .region 2 (O16 [1,0,1,0,0]) false := by kernel_rfl
theorem r16_2 {x3 : Int} {M : Mem} {call : CallM} {K : Array Value → Mem → R} :
    opsK Try.prog (fun _ => call) (O16 [1,0,1,0,0]) (O16 [1,0,1,0,0]).toList 0 #[g0,g1,g2,.int .i64 x3,g4,g5,g6,g7,g8,g9,g10] M K = K #[g0,g1,g2,.int .i64 x3,.bool (x3 == 0),.bool (x3 == 0),g6,g7,g8,g9,g10] M := by kernel_rfl
theorem c16_8 : P16 [1,0,1,0,1] = .cond (.tmp 4) (P16 [1,0,1,0,1,0]) (P16 [1,0,1,0,1,1]) := by kernel_rfl
theorem k16_9 : P16 [1,0,1,0,1,0] = .seq (P16 [1,0,1,0,1,0,0]) (P16 [1,0,1,0,1,0,1]) := by kernel_rfl
theorem k16_10 : P16 [1,0,1,0,1,0,0] = .region 3 (O16 [1,0,1,0,1,0,0]) false := by kernel_rfl
theorem r16_3 {M : Mem} {call : CallM} {K : Array Value → Mem → R} :
    opsK Try.prog (fun _ => call) (O16 [1,0,1,0,1,0,0]) (O16 [1,0,1,0,1,0,0]).toList 0 #[g0,g1,g2,g3,g4,g5,g6,g7,g8,g9,g10] M K = K #[g0,g1,.slice (some ⟨2 * M.nb.size, 0, none⟩) 5 5,g3,g4,g5,.slice (some ⟨2 * M.nb.size, 0, none⟩) 5 5,g7,g8,g9,g10] (M.new (.cells #[.int .i64 4, .int .i64 8, .int .i64 16, .int .i64 32, .int .i64 64] 3)) := by kernel_rfl
theorem k16_11 : P16 [1,0,1,0,1,0,1] = .ret := by kernel_rfl
theorem e16 {M : Mem} : finish Try.prog Try.f16 #[g0,g1,g2,g3,g4,g5,g6,g7,g8,g9,g10] M = some (g2, M) := by kernel_rfl
theorem k16_13 : P16 [1,0,1,0,1,1] = .seq (P16 [1,0,1,0,1,1,0]) (P16 [1,0,1,0,1,1,1]) := by kernel_rfl
theorem k16_14 : P16 [1,0,1,0,1,1,0] = .region 4 (O16 [1,0,1,0,1,1,0]) false := by kernel_rfl
theorem r16_4 {x3 : Int} {M : Mem} {call : CallM} {K : Array Value → Mem → R} :
    opsK Try.prog (fun _ => call) (O16 [1,0,1,0,1,1,0]) (O16 [1,0,1,0,1,1,0]).toList 0 #[g0,g1,g2,.int .i64 x3,g4,g5,g6,g7,g8,g9,g10] M K = K #[g0,g1,g2,.int .i64 x3,g4,g5,g6,.bool (x3 == 1),.bool (x3 == 1),g9,g10] M := by kernel_rfl
theorem c16_15 : P16 [1,0,1,0,1,1,1] = .cond (.tmp 7) (P16 [1,0,1,0,1,1,1,0]) (P16 [1,0,1,0,1,1,1,1]) := by kernel_rfl
theorem k16_16 : P16 [1,0,1,0,1,1,1,0] = .seq (P16 [1,0,1,0,1,1,1,0,0]) (P16 [1,0,1,0,1,1,1,0,1]) := by kernel_rfl
theorem k16_17 : P16 [1,0,1,0,1,1,1,0,0] = .region 5 (O16 [1,0,1,0,1,1,1,0,0]) false := by kernel_rfl
theorem r16_5 {M : Mem} {call : CallM} {K : Array Value → Mem → R} :
    opsK Try.prog (fun _ => call) (O16 [1,0,1,0,1,1,1,0,0]) (O16 [1,0,1,0,1,1,1,0,0]).toList 0 #[g0,g1,g2,g3,g4,g5,g6,g7,g8,g9,g10] M K = K #[g0,g1,.slice (some ⟨2 * M.nb.size, 0, none⟩) 3 3,g3,g4,g5,g6,g7,g8,.slice (some ⟨2 * M.nb.size, 0, none⟩) 3 3,g10] (M.new (.cells #[.int .i64 4, .int .i64 8, .int .i64 16] 3)) := by kernel_rfl
theorem k16_18 : P16 [1,0,1,0,1,1,1,0,1] = .ret := by kernel_rfl
theorem k16_19 : P16 [1,0,1,0,1,1,1,1] = .skip := by kernel_rfl
theorem k16_20 : P16 [1,1] = .seq (P16 [1,1,0]) (P16 [1,1,1]) := by kernel_rfl
theorem k16_21 : P16 [1,1,0] = .region 6 (O16 [1,1,0]) false := by kernel_rfl
theorem r16_6 {M : Mem} {call : CallM} {K : Array Value → Mem → R} :
    opsK Try.prog (fun _ => call) (O16 [1,1,0]) (O16 [1,1,0]).toList 0 #[g0,g1,g2,g3,g4,g5,g6,g7,g8,g9,g10] M K = K #[g0,g1,.slice (some ⟨2 * M.nb.size, 0, none⟩) 4 4,g3,g4,g5,g6,g7,g8,g9,.slice (some ⟨2 * M.nb.size, 0, none⟩) 4 4] (M.new (.cells #[.int .i64 4, .int .i64 8, .int .i64 16, .int .i64 32] 3)) := by kernel_rfl
theorem k16_22 : P16 [1,1,1] = .ret := by kernel_rfl
theorem w16_0 {x0 : Int} {M : Mem} {Q : Value → Mem → Prop} (H :
    ((x0 = 0 →
     Q (.slice (some ⟨2 * M.nb.size, 0, none⟩) 5 5) (M.new (.cells #[.int .i64 4, .int .i64 8, .int .i64 16, .int .i64 32, .int .i64 64] 3))) ∧
     (x0 ≠ 0 →
     ((x0 = 1 →
      Q (.slice (some ⟨2 * M.nb.size, 0, none⟩) 3 3) (M.new (.cells #[.int .i64 4, .int .i64 8, .int .i64 16] 3))) ∧
      (x0 ≠ 1 →
      Q (.slice (some ⟨2 * M.nb.size, 0, none⟩) 4 4) (M.new (.cells #[.int .i64 4, .int .i64 8, .int .i64 16, .int .i64 32] 3))))))) :
    Cn Try.prog 16 #[.int .i64 x0] M Q := by
  refine Cn.of b16 d16 t16 ?_
  refine Rn.seq k16_0 (Rn.region k16_1 (fun call K => r16_0) (Rch.leaf (Rn.seq k16_2 (Rn.seq k16_3 (Rn.region k16_4 (fun call K => r16_1) (Rch.leaf (Rn.block k16_5 (Rn.seq k16_6 (Rn.region k16_7 (fun call K => r16_2) (Rch.leaf ?_))))))))))
  refine Rn.cnd (v := x0 == 0) ⟨c16_8, rfl, by kernel_rfl⟩ (fun h => ?_) (fun h => ?_)
  · replace H := H.1 (eq_of_beq h)
    refine Rn.seq k16_9 (Rn.region k16_10 (fun call K => r16_3) (Rch.leaf ?_))
    exact Rn.ret k16_11 e16 H
  · replace H := H.2 (ne_of_beq_false h)
    refine Rn.seq k16_13 (Rn.region k16_14 (fun call K => r16_4) (Rch.leaf ?_))
    refine Rn.cnd (v := x0 == 1) ⟨c16_15, rfl, by kernel_rfl⟩ (fun h => ?_) (fun h => ?_)
    · replace H := H.1 (eq_of_beq h)
      refine Rn.seq k16_16 (Rn.region k16_17 (fun call K => r16_5) (Rch.leaf ?_))
      exact Rn.ret k16_18 e16 H
    · replace H := H.2 (ne_of_beq_false h)
      refine Rn.skip k16_19 (Rn.blk (Rn.seq k16_20 (Rn.region k16_21 (fun call K => r16_6) (Rch.leaf ?_))))
      exact Rn.ret k16_22 e16 H


/-! ### zoetrope/zoetropelaw07.sums: function 19 -/
noncomputable abbrev P19 (p : List Nat) : Code := subC (codeOf Try.f19) p
noncomputable abbrev O19 (p : List Nat) : Array Oper := opsOf (subC (codeOf Try.f19) p)
theorem b19 : Try.prog.funcs[19]? = some Try.f19 ∧ (Orc.tab Try.prog).lookup 19 = none := ⟨by kernel_rfl, by kernel_rfl⟩
theorem d19 : Try.f19.body = some (P19 []) := by kernel_rfl
theorem t19 {Ax0 : Option Addr} {lx0 cx0 : Nat} {Ax1 : Option Addr} {lx1 cx1 : Nat} : #[.slice Ax0 lx0 cx0,.slice Ax1 lx1 cx1] ++ Array.replicate (Try.f19.ntmps - (#[.slice Ax0 lx0 cx0,.slice Ax1 lx1 cx1] : Array Value).size) undef = #[.slice Ax0 lx0 cx0,.slice Ax1 lx1 cx1,undef,undef,undef,undef,undef,undef,undef,undef,undef,undef,undef,undef,undef,undef,undef,undef,undef,undef,undef,undef,undef,undef,undef,undef,undef,undef,undef,undef,undef,undef] := by kernel_rfl
theorem k19_0 : P19 [] = .seq (P19 [0]) (P19 [1]) := by kernel_rfl
theorem k19_1 : P19 [0] = .region 0 (O19 [0]) false := by kernel_rfl
theorem r19_0 {M : Mem} {call : CallM} {K : Array Value → Mem → R} :
    opsK Try.prog (fun _ => call) (O19 [0]) (O19 [0]).toList 0 #[g0,g1,g2,g3,g4,g5,g6,g7,g8,g9,g10,g11,g12,g13,g14,g15,g16,g17,g18,g19,g20,g21,g22,g23,g24,g25,g26,g27,g28,g29,g30,g31] M K = K #[g0,g1,g2,g3,.slice none 0 0,g5,g6,g7,g8,g9,g10,g11,g12,g13,g14,g15,g16,g17,g18,g19,g20,g21,g22,g23,g24,g25,g26,g27,g28,g29,g30,g31] M := by kernel_rfl
theorem k19_2 : P19 [1] = .seq (P19 [1,0]) (P19 [1,1]) := by kernel_rfl
theorem k19_3 : P19 [1,0] = .region 1 (O19 [1,0]) false := by kernel_rfl
theorem r19_1 {M : Mem} {call : CallM} {K : Array Value → Mem → R} :
    opsK Try.prog (fun _ => call) (O19 [1,0]) (O19 [1,0]).toList 0 #[g0,g1,g2,g3,g4,g5,g6,g7,g8,g9,g10,g11,g12,g13,g14,g15,g16,g17,g18,g19,g20,g21,g22,g23,g24,g25,g26,g27,g28,g29,g30,g31] M K = K #[g0,g1,g2,g3,g4,.slice none 0 0,g6,g7,g8,g9,g10,g11,g12,g13,g14,g15,g16,g17,g18,g19,g20,g21,g22,g23,g24,g25,g26,g27,g28,g29,g30,g31] M := by kernel_rfl
theorem k19_4 : P19 [1,1] = .seq (P19 [1,1,0]) (P19 [1,1,1]) := by kernel_rfl
theorem k19_5 : P19 [1,1,0] = .seq (P19 [1,1,0,0]) (P19 [1,1,0,1]) := by kernel_rfl
theorem k19_6 : P19 [1,1,0,0] = .region 2 (O19 [1,1,0,0]) false := by kernel_rfl
theorem r19_2 {M : Mem} {call : CallM} {K : Array Value → Mem → R} :
    opsK Try.prog (fun _ => call) (O19 [1,1,0,0]) (O19 [1,1,0,0]).toList 0 #[g0,g1,g2,g3,g4,g5,g6,g7,g8,g9,g10,g11,g12,g13,g14,g15,g16,g17,g18,g19,g20,g21,g22,g23,g24,g25,g26,g27,g28,g29,g30,g31] M K = K #[g0,g1,g2,g3,g4,g5,.int .i64 0,g7,g8,g9,g10,g11,g12,g13,g14,g15,g16,g17,g18,g19,g20,g21,g22,g23,g24,g25,g26,g27,g28,g29,g30,g31] M := by kernel_rfl
theorem k19_7 : P19 [1,1,0,1] = .block 0 (P19 [1,1,0,1,0]) := by kernel_rfl
theorem k19_8 : P19 [1,1,0,1,0] = .loop (P19 [1,1,0,1,0,0]) := by kernel_rfl
theorem k19_9 : P19 [1,1,0,1,0,0] = .seq (P19 [1,1,0,1,0,0,0]) (P19 [1,1,0,1,0,0,1]) := by kernel_rfl
theorem k19_10 : P19 [1,1,0,1,0,0,0] = .seq (P19 [1,1,0,1,0,0,0,0]) (P19 [1,1,0,1,0,0,0,1]) := by kernel_rfl
theorem k19_11 : P19 [1,1,0,1,0,0,0,0] = .region 3 (O19 [1,1,0,1,0,0,0,0]) false := by kernel_rfl
theorem r19_3 {Ax0 : Option Addr} {lx0 cx0 : Nat} {Ax1 : Option Addr} {lx1 cx1 : Nat} {x6 : Int} {M : Mem} {call : CallM} {K : Array Value → Mem → R} :
    opsK Try.prog (fun _ => call) (O19 [1,1,0,1,0,0,0,0]) (O19 [1,1,0,1,0,0,0,0]).toList 0 #[.slice Ax0 lx0 cx0,.slice Ax1 lx1 cx1,g2,g3,g4,g5,.int .i64 x6,g7,g8,g9,g10,g11,g12,g13,g14,g15,g16,g17,g18,g19,g20,g21,g22,g23,g24,g25,g26,g27,g28,g29,g30,g31] M K = withK (fun w11 w12 w13 w14 w15 w16 M => K #[.slice Ax0 lx0 cx0,.slice Ax1 lx1 cx1,g2,g3,g4,g5,.int .i64 x6,.int .i64 x6,.slice Ax0 lx0 cx0,.int .i64 ((lx0 : Int)),.bool (decide (x6 < ((lx0 : Int)))),w11,w12,w13,w14,w15,w16,g17,g18,g19,g20,g21,g22,g23,g24,g25,g26,g27,g28,g29,g30,g31] M) fun k => cond (decide (x6 < ((lx0 : Int)))) (k (.bool true) (.int .i64 x6) (.slice Ax1 lx1 cx1) (.int .i64 ((lx1 : Int))) (.bool (decide (x6 < ((lx1 : Int))))) (.bool (decide (x6 < ((lx1 : Int))))) M) (k (.bool false) undef undef undef undef (.bool false) M) := by kernel_rfl
theorem c19_12 : P19 [1,1,0,1,0,0,0,1] = .cond (.tmp 16) (P19 [1,1,0,1,0,0,0,1,0]) (P19 [1,1,0,1,0,0,0,1,1]) := by kernel_rfl
theorem k19_13 : P19 [1,1,0,1,0,0,0,1,0] = .skip := by kernel_rfl
theorem k19_14 : P19 [1,1,0,1,0,0,1] = .seq (P19 [1,1,0,1,0,0,1,0]) (P19 [1,1,0,1,0,0,1,1]) := by kernel_rfl
theorem k19_15 : P19 [1,1,0,1,0,0,1,0] = .block 1 (P19 [1,1,0,1,0,0,1,0,0]) := by kernel_rfl
theorem k19_16 : P19 [1,1,0,1,0,0,1,0,0] = .region 5 (O19 [1,1,0,1,0,0,1,0,0]) true ∧ drawOk (O19 [1,1,0,1,0,0,1,0,0]) = true := ⟨by kernel_rfl, by kernel_rfl⟩
theorem r19_5 {Ax0 : Option Addr} {lx0 cx0 : Nat} {Ax1 : Option Addr} {lx1 cx1 : Nat} {Ax5 : Option Addr} {lx5 cx5 : Nat} {x6 : Int} {M : Mem} {call : CallM} {K : Array Value → Mem → R} :
    opsI Try.prog (callAt call (O19 [1,1,0,1,0,0,1,0,0])) (O19 [1,1,0,1,0,0,1,0,0]) (ordOf (O19 [1,1,0,1,0,0,1,0,0])) [] #[.slice Ax0 lx0 cx0,.slice Ax1 lx1 cx1,g2,g3,g4,.slice Ax5 lx5 cx5,.int .i64 x6,g7,g8,g9,g10,g11,g12,g13,g14,g15,g16,g17,g18,g19,g20,g21,g22,g23,g24,g25,g26,g27,g28,g29,g30,g31] M K = (idxA Ax0 lx0 1 x6).bind fun a_1 => (M.intAt .i64 a_1.block a_1.off).bind fun x_2 => (idxA Ax1 lx1 1 x6).bind fun a_3 => (M.intAt .i64 a_3.block a_3.off).bind fun x_4 => (appendP Try.prog #[22, 22] (.slice Ax5 lx5 cx5) (.slice (some ⟨2 * M.nb.size, 0, none⟩) 1 1) (M.new (.cells #[.int .i64 (IntKind.i64.wrap (x_2 + x_4))] 3))).bind fun r_5 => (asS r_5.1).bind fun s_6 => K #[.slice Ax0 lx0 cx0,.slice Ax1 lx1 cx1,g2,g3,g4,.slice s_6.1 (s_6.2.1) (s_6.2.2),.int .i64 x6,g7,g8,g9,g10,g11,g12,g13,g14,g15,g16,g17,g18,.slice Ax5 lx5 cx5,.slice Ax0 lx0 cx0,.int .i64 x6,.pointer (some a_1),.int .i64 x_2,.slice Ax1 lx1 cx1,.int .i64 x6,.pointer (some a_3),.int .i64 x_4,.int .i64 (IntKind.i64.wrap (x_2 + x_4)),.slice (some ⟨2 * M.nb.size, 0, none⟩) 1 1,.slice s_6.1 (s_6.2.1) (s_6.2.2),g31] r_5.2 := by kernel_rfl
theorem k19_17 : P19 [1,1,0,1,0,0,1,1] = .region 4 (O19 [1,1,0,1,0,0,1,1]) false := by kernel_rfl
theorem r19_4 {x6 : Int} {M : Mem} {call : CallM} {K : Array Value → Mem → R} :
    opsK Try.prog (fun _ => call) (O19 [1,1,0,1,0,0,1,1]) (O19 [1,1,0,1,0,0,1,1]).toList 0 #[g0,g1,g2,g3,g4,g5,.int .i64 x6,g7,g8,g9,g10,g11,g12,g13,g14,g15,g16,g17,g18,g19,g20,g21,g22,g23,g24,g25,g26,g27,g28,g29,g30,g31] M K = K #[g0,g1,g2,g3,g4,g5,.int .i64 (IntKind.i64.wrap (x6 + 1)),g7,g8,g9,g10,g11,g12,g13,g14,g15,g16,.int .i64 x6,.int .i64 (IntKind.i64.wrap (x6 + 1)),g19,g20,g21,g22,g23,g24,g25,g26,g27,g28,g29,g30,g31] M := by kernel_rfl
theorem k19_18 : P19 [1,1,0,1,0,0,0,1,1] = .exit 0 := by kernel_rfl
theorem k19_19 : P19 [1,1,1] = .seq (P19 [1,1,1,0]) (P19 [1,1,1,1]) := by kernel_rfl
theorem k19_20 : P19 [1,1,1,0] = .region 6 (O19 [1,1,1,0]) false := by kernel_rfl
theorem r19_6 {Ax5 : Option Addr} {lx5 cx5 : Nat} {M : Mem} {call : CallM} {K : Array Value → Mem → R} :
    opsK Try.prog (fun _ => call) (O19 [1,1,1,0]) (O19 [1,1,1,0]).toList 0 #[g0,g1,g2,g3,g4,.slice Ax5 lx5 cx5,g6,g7,g8,g9,g10,g11,g12,g13,g14,g15,g16,g17,g18,g19,g20,g21,g22,g23,g24,g25,g26,g27,g28,g29,g30,g31] M K = K #[g0,g1,g2,g3,.slice Ax5 lx5 cx5,.slice Ax5 lx5 cx5,g6,g7,g8,g9,g10,g11,g12,g13,g14,g15,g16,g17,g18,g19,g20,g21,g22,g23,g24,g25,g26,g27,g28,g29,g30,.slice Ax5 lx5 cx5] M := by kernel_rfl
theorem k19_21 : P19 [1,1,1,1] = .ret := by kernel_rfl
theorem e19 {M : Mem} : finish Try.prog Try.f19 #[g0,g1,g2,g3,g4,g5,g6,g7,g8,g9,g10,g11,g12,g13,g14,g15,g16,g17,g18,g19,g20,g21,g22,g23,g24,g25,g26,g27,g28,g29,g30,g31] M = some (g4, M) := by kernel_rfl
noncomputable def S19_1 : List Item := [.code (P19 [1,1,0,1,0,0]), .inLoop (P19 [1,1,0,1,0,0]), .inBlock 0, .code (P19 [1,1,1])]
def A19_1 (Ax0 : Option Addr) (lx0 cx0 : Nat) (Ax1 : Option Addr) (lx1 cx1 : Nat) (Ax5 : Option Addr) (lx5 cx5 : Nat) (x6 : Int) (M : Mem) (Q : Value → Mem → Prop) : Prop := ∀ (g2 g3 g4 g7 g8 g9 g10 g11 g12 g13 g14 g15 g16 g17 g18 g19 g20 g21 g22 g23 g24 g25 g26 g27 g28 g29 g30 g31 : Value), Rn Try.prog Try.f19 S19_1 #[.slice Ax0 lx0 cx0, .slice Ax1 lx1 cx1, g2, g3, g4, .slice Ax5 lx5 cx5, .int .i64 x6, g7, g8, g9, g10, g11, g12, g13, g14, g15, g16, g17, g18, g19, g20, g21, g22, g23, g24, g25, g26, g27, g28, g29, g30, g31] M Q
noncomputable def S19_2 : List Item := [.code (P19 [1,1,0,1,0,0,0,1]), .code (P19 [1,1,0,1,0,0,1]), .inLoop (P19 [1,1,0,1,0,0]), .inBlock 0, .code (P19 [1,1,1])]
def A19_2 (Ax0 : Option Addr) (lx0 cx0 : Nat) (Ax1 : Option Addr) (lx1 cx1 : Nat) (Ax5 : Option Addr) (lx5 cx5 : Nat) (x6 : Int) (x16 : Bool) (M : Mem) (Q : Value → Mem → Prop) : Prop := ∀ (g2 g3 g4 g7 g8 g9 g10 g11 g12 g13 g14 g15 g17 g18 g19 g20 g21 g22 g23 g24 g25 g26 g27 g28 g29 g30 g31 : Value), Rn Try.prog Try.f19 S19_2 #[.slice Ax0 lx0 cx0, .slice Ax1 lx1 cx1, g2, g3, g4, .slice Ax5 lx5 cx5, .int .i64 x6, g7, g8, g9, g10, g11, g12, g13, g14, g15, .bool x16, g17, g18, g19, g20, g21, g22, g23, g24, g25, g26, g27, g28, g29, g30, g31] M Q
theorem w19_0 {Ax0 : Option Addr} {lx0 cx0 : Nat} {Ax1 : Option Addr} {lx1 cx1 : Nat} {M : Mem} {Q : Value → Mem → Prop} (H :
    A19_1 Ax0 lx0 cx0 Ax1 lx1 cx1 none 0 0 0 M Q) :
    Cn Try.prog 19 #[.slice Ax0 lx0 cx0, .slice Ax1 lx1 cx1] M Q := by
  refine Cn.of b19 d19 t19 ?_
  refine Rn.seq k19_0 (Rn.region k19_1 (fun call K => r19_0) (Rch.leaf (Rn.seq k19_2 (Rn.region k19_3 (fun call K => r19_1) (Rch.leaf (Rn.seq k19_4 (Rn.seq k19_5 (Rn.region k19_6 (fun call K => r19_2) (Rch.leaf (Rn.block k19_7 (Rn.loop k19_8 ?_)))))))))))
  exact H _ _ _ _ _ _ _ _ _ _ _ _ _ _ _ _ _ _ _ _ _ _ _ _ _ _ _ _

theorem w19_1 {Ax0 : Option Addr} {lx0 cx0 : Nat} {Ax1 : Option Addr} {lx1 cx1 : Nat} {Ax5 : Option Addr} {lx5 cx5 : Nat} {x6 : Int} {M : Mem} {Q : Value → Mem → Prop} (H :
    ((x6 < ((lx0 : Int)) →
     A19_2 Ax0 lx0 cx0 Ax1 lx1 cx1 Ax5 lx5 cx5 x6 (decide (x6 < ((lx1 : Int)))) M Q) ∧
     (¬ (x6 < ((lx0 : Int))) →
     A19_2 Ax0 lx0 cx0 Ax1 lx1 cx1 Ax5 lx5 cx5 x6 false M Q))) :
    A19_1 Ax0 lx0 cx0 Ax1 lx1 cx1 Ax5 lx5 cx5 x6 M Q := by
  intro g2 g3 g4 g7 g8 g9 g10 g11 g12 g13 g14 g15 g16 g17 g18 g19 g20 g21 g22 g23 g24 g25 g26 g27 g28 g29 g30 g31
  refine Rn.seq k19_9 (Rn.seq k19_10 (Rn.region k19_11 (fun call K => r19_3) ?_))
  refine Rch.cB (fun h => ?_) (fun h => ?_)
  · replace H := H.1 (of_decide_eq_true h)
    refine Rch.leaf ?_
    exact H _ _ _ _ _ _ _ _ _ _ _ _ _ _ _ _ _ _ _ _ _ _ _ _ _ _ _
  · replace H := H.2 (of_decide_eq_false h)
    refine Rch.leaf ?_
    exact H _ _ _ _ _ _ _ _ _ _ _ _ _ _ _ _ _ _ _ _ _ _ _ _ _ _ _

theorem w19_2 {Ax0 : Option Addr} {lx0 cx0 : Nat} {Ax1 : Option Addr} {lx1 cx1 : Nat} {Ax5 : Option Addr} {lx5 cx5 : Nat} {x6 : Int} {x16 : Bool} {M : Mem} {Q : Value → Mem → Prop} (H :
    ((x16 = true →
     ∃ a1', idxA Ax0 lx0 1 x6 = some a1' ∧
     ∃ x2', M.intAt .i64 a1'.block a1'.off = some x2' ∧
     ∃ a3', idxA Ax1 lx1 1 x6 = some a3' ∧
     ∃ x4', M.intAt .i64 a3'.block a3'.off = some x4' ∧
     ∃ r5', appendP Try.prog #[22, 22] (.slice Ax5 lx5 cx5) (.slice (some ⟨2 * M.nb.size, 0, none⟩) 1 1) (M.new (.cells #[.int .i64 (IntKind.i64.wrap (x2' + x4'))] 3)) = some r5' ∧
     ∃ s6', asS r5'.1 = some s6' ∧
     A19_1 Ax0 lx0 cx0 Ax1 lx1 cx1 s6'.1 s6'.2.1 s6'.2.2 (IntKind.i64.wrap (x6 + 1)) r5'.2 Q) ∧
     (x16 = false →
     Q (.slice Ax5 lx5 cx5) M))) :
    A19_2 Ax0 lx0 cx0 Ax1 lx1 cx1 Ax5 lx5 cx5 x6 x16 M Q := by
  intro g2 g3 g4 g7 g8 g9 g10 g11 g12 g13 g14 g15 g17 g18 g19 g20 g21 g22 g23 g24 g25 g26 g27 g28 g29 g30 g31
  refine Rn.cnd (v := x16) ⟨c19_12, rfl, by kernel_rfl⟩ (fun h => ?_) (fun h => ?_)
  · replace H := H.1 (h)
    refine Rn.skip k19_13 (Rn.seq k19_14 (Rn.block k19_15 (Rn.regionD k19_16 (fun call K => r19_5) (Rch.ex H fun a1' H => Rch.ex H fun x2' H => Rch.ex H fun a3' H => Rch.ex H fun x4' H => Rch.ex H fun r5' H => Rch.ex H fun s6' H => Rch.leaf (Rn.blk ?_)))))
    refine Rn.region k19_17 (fun call K => r19_4) (Rch.leaf (Rn.lp ?_))
    exact H _ _ _ _ _ _ _ _ _ _ _ _ _ _ _ _ _ _ _ _ _ _ _ _ _ _ _ _
  · replace H := H.2 (h)
    refine Rn.exit k19_18 rfl (Rn.seq k19_19 (Rn.region k19_20 (fun call K => r19_6) (Rch.leaf ?_)))
    exact Rn.ret k19_21 e19 H


/-! ### zoetrope/zoetropelaw07.close1: function 20 -/
noncomputable abbrev P20 (p : List Nat) : Code := subC (codeOf Try.f20) p
noncomputable abbrev O20 (p : List Nat) : Array Oper := opsOf (subC (codeOf Try.f20) p)
theorem b20 : Try.prog.funcs[20]? = some Try.f20 ∧ (Orc.tab Try.prog).lookup 20 = none := ⟨by kernel_rfl, by kernel_rfl⟩
theorem d20 : Try.f20.body = some (P20 []) := by kernel_rfl
theorem t20 {Ax0 : Option Addr} {lx0 cx0 : Nat} {Ax1 : Option Addr} {lx1 cx1 : Nat} : #[.slice Ax0 lx0 cx0,.slice Ax1 lx1 cx1] ++ Array.replicate (Try.f20.ntmps - (#[.slice Ax0 lx0 cx0,.slice Ax1 lx1 cx1] : Array Value).size) undef = #[.slice Ax0 lx0 cx0,.slice Ax1 lx1 cx1,undef,undef,undef,undef,undef,undef,undef,undef,undef,undef,undef,undef,undef,undef,undef,undef,undef,undef,undef,undef,undef,undef,undef,undef,undef,undef] := by kernel_rfl
theorem k20_0 : P20 [] = .seq (P20 [0]) (P20 [1]) := by kernel_rfl
theorem k20_1 : P20 [0] = .region 0 (O20 [0]) false := by kernel_rfl
theorem r20_0 {M : Mem} {call : CallM} {K : Array Value → Mem → R} :
    opsK Try.prog (fun _ => call) (O20 [0]) (O20 [0]).toList 0 #[g0,g1,g2,g3,g4,g5,g6,g7,g8,g9,g10,g11,g12,g13,g14,g15,g16,g17,g18,g19,g20,g21,g22,g23,g24,g25,g26,g27] M K = K #[g0,g1,g2,g3,.bool false,g5,g6,g7,g8,g9,g10,g11,g12,g13,g14,g15,g16,g17,g18,g19,g20,g21,g22,g23,g24,g25,g26,g27] M := by kernel_rfl
theorem k20_2 : P20 [1] = .seq (P20 [1,0]) (P20 [1,1]) := by kernel_rfl
theorem k20_3 : P20 [1,0] = .seq (P20 [1,0,0]) (P20 [1,0,1]) := by kernel_rfl
theorem k20_4 : P20 [1,0,0] = .region 1 (O20 [1,0,0]) false := by kernel_rfl
theorem r20_1 {Ax0 : Option Addr} {lx0 cx0 : Nat} {Ax1 : Option Addr} {lx1 cx1 : Nat} {M : Mem} {call : CallM} {K : Array Value → Mem → R} :
    opsK Try.prog (fun _ => call) (O20 [1,0,0]) (O20 [1,0,0]).toList 0 #[.slice Ax0 lx0 cx0,.slice Ax1 lx1 cx1,g2,g3,g4,g5,g6,g7,g8,g9,g10,g11,g12,g13,g14,g15,g16,g17,g18,g19,g20,g21,g22,g23,g24,g25,g26,g27] M K = K #[.slice Ax0 lx0 cx0,.slice Ax1 lx1 cx1,g2,g3,g4,g5,.slice Ax0 lx0 cx0,.int .i64 ((lx0 : Int)),.slice Ax1 lx1 cx1,.int .i64 ((lx1 : Int)),.bool (((lx0 : Int)) != ((lx1 : Int))),g11,g12,g13,g14,g15,g16,g17,g18,g19,g20,g21,g22,g23,g24,g25,g26,g27] M := by kernel_rfl
theorem c20_5 : P20 [1,0,1] = .cond (.tmp 10) (P20 [1,0,1,0]) (P20 [1,0,1,1]) := by kernel_rfl
theorem k20_6 : P20 [1,0,1,0] = .seq (P20 [1,0,1,0,0]) (P20 [1,0,1,0,1]) := by kernel_rfl
theorem k20_7 : P20 [1,0,1,0,0] = .region 2 (O20 [1,0,1,0,0]) false := by kernel_rfl
theorem r20_2 {M : Mem} {call : CallM} {K : Array Value → Mem → R} :
    opsK Try.prog (fun _ => call) (O20 [1,0,1,0,0]) (O20 [1,0,1,0,0]).toList 0 #[g0,g1,g2,g3,g4,g5,g6,g7,g8,g9,g10,g11,g12,g13,g14,g15,g16,g17,g18,g19,g20,g21,g22,g23,g24,g25,g26,g27] M K = K #[g0,g1,g2,g3,.bool false,g5,g6,g7,g8,g9,g10,g11,g12,g13,g14,g15,g16,g17,g18,g19,g20,g21,g22,g23,g24,g25,g26,g27] M := by kernel_rfl
theorem k20_8 : P20 [1,0,1,0,1] = .ret := by kernel_rfl
theorem e20 {M : Mem} : finish Try.prog Try.f20 #[g0,g1,g2,g3,g4,g5,g6,g7,g8,g9,g10,g11,g12,g13,g14,g15,g16,g17,g18,g19,g20,g21,g22,g23,g24,g25,g26,g27] M = some (g4, M) := by kernel_rfl
theorem k20_10 : P20 [1,0,1,1] = .skip := by kernel_rfl
theorem k20_11 : P20 [1,1] = .seq (P20 [1,1,0]) (P20 [1,1,1]) := by kernel_rfl
theorem k20_12 : P20 [1,1,0] = .seq (P20 [1,1,0,0]) (P20 [1,1,0,1]) := by kernel_rfl
theorem k20_13 : P20 [1,1,0,0] = .region 3 (O20 [1,1,0,0]) false := by kernel_rfl
theorem r20_3 {M : Mem} {call : CallM} {K : Array Value → Mem → R} :
    opsK Try.prog (fun _ => call) (O20 [1,1,0,0]) (O20 [1,1,0,0]).toList 0 #[g0,g1,g2,g3,g4,g5,g6,g7,g8,g9,g10,g11,g12,g13,g14,g15,g16,g17,g18,g19,g20,g21,g22,g23,g24,g25,g26,g27] M K = K #[g0,g1,g2,g3,g4,.int .i64 0,g6,g7,g8,g9,g10,g11,g12,g13,g14,g15,g16,g17,g18,g19,g20,g21,g22,g23,g24,g25,g26,g27] M := by kernel_rfl
theorem k20_14 : P20 [1,1,0,1] = .block 0 (P20 [1,1,0,1,0]) := by kernel_rfl
theorem k20_15 : P20 [1,1,0,1,0] = .loop (P20 [1,1,0,1,0,0]) := by kernel_rfl
theorem k20_16 : P20 [1,1,0,1,0,0] = .seq (P20 [1,1,0,1,0,0,0]) (P20 [1,1,0,1,0,0,1]) := by kernel_rfl
theorem k20_17 : P20 [1,1,0,1,0,0,0] = .seq (P20 [1,1,0,1,0,0,0,0]) (P20 [1,1,0,1,0,0,0,1]) := by kernel_rfl
theorem k20_18 : P20 [1,1,0,1,0,0,0,0] = .region 4 (O20 [1,1,0,1,0,0,0,0]) false := by kernel_rfl
theorem r20_4 {Ax0 : Option Addr} {lx0 cx0 : Nat} {x5 : Int} {M : Mem} {call : CallM} {K : Array Value → Mem → R} :
    opsK Try.prog (fun _ => call) (O20 [1,1,0,1,0,0,0,0]) (O20 [1,1,0,1,0,0,0,0]).toList 0 #[.slice Ax0 lx0 cx0,g1,g2,g3,g4,.int .i64 x5,g6,g7,g8,g9,g10,g11,g12,g13,g14,g15,g16,g17,g18,g19,g20,g21,g22,g23,g24,g25,g26,g27] M K = K #[.slice Ax0 lx0 cx0,g1,g2,g3,g4,.int .i64 x5,g6,g7,g8,g9,g10,.int .i64 x5,.slice Ax0 lx0 cx0,.int .i64 ((lx0 : Int)),.bool (decide (x5 < ((lx0 : Int)))),g15,g16,g17,g18,g19,g20,g21,g22,g23,g24,g25,g26,g27] M := by kernel_rfl
theorem c20_19 : P20 [1,1,0,1,0,0,0,1] = .cond (.tmp 14) (P20 [1,1,0,1,0,0,0,1,0]) (P20 [1,1,0,1,0,0,0,1,1]) := by kernel_rfl
theorem k20_20 : P20 [1,1,0,1,0,0,0,1,0] = .skip := by kernel_rfl
theorem k20_21 : P20 [1,1,0,1,0,0,1] = .seq (P20 [1,1,0,1,0,0,1,0]) (P20 [1,1,0,1,0,0,1,1]) := by kernel_rfl
theorem k20_22 : P20 [1,1,0,1,0,0,1,0] = .block 1 (P20 [1,1,0,1,0,0,1,0,0]) := by kernel_rfl
theorem k20_23 : P20 [1,1,0,1,0,0,1,0,0] = .seq (P20 [1,1,0,1,0,0,1,0,0,0]) (P20 [1,1,0,1,0,0,1,0,0,1]) := by kernel_rfl
theorem k20_24 : P20 [1,1,0,1,0,0,1,0,0,0] = .region 6 (O20 [1,1,0,1,0,0,1,0,0,0]) true ∧ drawOk (O20 [1,1,0,1,0,0,1,0,0,0]) = true := ⟨by kernel_rfl, by kernel_rfl⟩
theorem r20_6 {Ax0 : Option Addr} {lx0 cx0 : Nat} {Ax1 : Option Addr} {lx1 cx1 : Nat} {x5 : Int} {M : Mem} {call : CallM} {K : Array Value → Mem → R} :
    opsI Try.prog (callAt call (O20 [1,1,0,1,0,0,1,0,0,0])) (O20 [1,1,0,1,0,0,1,0,0,0]) (ordOf (O20 [1,1,0,1,0,0,1,0,0,0])) [] #[.slice Ax0 lx0 cx0,.slice Ax1 lx1 cx1,g2,g3,g4,.int .i64 x5,g6,g7,g8,g9,g10,g11,g12,g13,g14,g15,g16,g17,g18,g19,g20,g21,g22,g23,g24,g25,g26,g27] M K = (idxA Ax0 lx0 1 x5).bind fun a_1 => (M.intAt .i64 a_1.block a_1.off).bind fun x_2 => (idxA Ax1 lx1 1 x5).bind fun a_3 => (M.intAt .i64 a_3.block a_3.off).bind fun x_4 => (call 17 #[.int .i64 (IntKind.i64.wrap (x_2 - x_4))] M).bind fun r_5 => (asI .i64 r_5.1).bind fun x_6 => K #[.slice Ax0 lx0 cx0,.slice Ax1 lx1 cx1,g2,g3,g4,.int .i64 x5,g6,g7,g8,g9,g10,g11,g12,g13,g14,g15,g16,.slice Ax0 lx0 cx0,.int .i64 x5,.pointer (some a_1),.int .i64 x_2,.slice Ax1 lx1 cx1,.int .i64 x5,.pointer (some a_3),.int .i64 x_4,.int .i64 (IntKind.i64.wrap (x_2 - x_4)),.int .i64 x_6,.bool (decide (x_6 > 1))] r_5.2 := by kernel_rfl
theorem c20_25 : P20 [1,1,0,1,0,0,1,0,0,1] = .cond (.tmp 27) (P20 [1,1,0,1,0,0,1,0,0,1,0]) (P20 [1,1,0,1,0,0,1,0,0,1,1]) := by kernel_rfl
theorem k20_26 : P20 [1,1,0,1,0,0,1,0,0,1,0] = .seq (P20 [1,1,0,1,0,0,1,0,0,1,0,0]) (P20 [1,1,0,1,0,0,1,0,0,1,0,1]) := by kernel_rfl
theorem k20_27 : P20 [1,1,0,1,0,0,1,0,0,1,0,0] = .region 7 (O20 [1,1,0,1,0,0,1,0,0,1,0,0]) false := by kernel_rfl
theorem r20_7 {M : Mem} {call : CallM} {K : Array Value → Mem → R} :
    opsK Try.prog (fun _ => call) (O20 [1,1,0,1,0,0,1,0,0,1,0,0]) (O20 [1,1,0,1,0,0,1,0,0,1,0,0]).toList 0 #[g0,g1,g2,g3,g4,g5,g6,g7,g8,g9,g10,g11,g12,g13,g14,g15,g16,g17,g18,g19,g20,g21,g22,g23,g24,g25,g26,g27] M K = K #[g0,g1,g2,g3,.bool false,g5,g6,g7,g8,g9,g10,g11,g12,g13,g14,g15,g16,g17,g18,g19,g20,g21,g22,g23,g24,g25,g26,g27] M := by kernel_rfl
theorem k20_28 : P20 [1,1,0,1,0,0,1,0,0,1,0,1] = .ret := by kernel_rfl
theorem k20_29 : P20 [1,1,0,1,0,0,1,0,0,1,1] = .skip := by kernel_rfl
theorem k20_30 : P20 [1,1,0,1,0,0,1,1] = .region 5 (O20 [1,1,0,1,0,0,1,1]) false := by kernel_rfl
theorem r20_5 {x5 : Int} {M : Mem} {call : CallM} {K : Array Value → Mem → R} :
    opsK Try.prog (fun _ => call) (O20 [1,1,0,1,0,0,1,1]) (O20 [1,1,0,1,0,0,1,1]).toList 0 #[g0,g1,g2,g3,g4,.int .i64 x5,g6,g7,g8,g9,g10,g11,g12,g13,g14,g15,g16,g17,g18,g19,g20,g21,g22,g23,g24,g25,g26,g27] M K = K #[g0,g1,g2,g3,g4,.int .i64 (IntKind.i64.wrap (x5 + 1)),g6,g7,g8,g9,g10,g11,g12,g13,g14,.int .i64 x5,.int .i64 (IntKind.i64.wrap (x5 + 1)),g17,g18,g19,g20,g21,g22,g23,g24,g25,g26,g27] M := by kernel_rfl
theorem k20_31 : P20 [1,1,0,1,0,0,0,1,1] = .exit 0 := by kernel_rfl
theorem k20_32 : P20 [1,1,1] = .seq (P20 [1,1,1,0]) (P20 [1,1,1,1]) := by kernel_rfl
theorem k20_33 : P20 [1,1,1,0] = .region 8 (O20 [1,1,1,0]) false := by kernel_rfl
theorem r20_8 {M : Mem} {call : CallM} {K : Array Value → Mem → R} :
    opsK Try.prog (fun _ => call) (O20 [1,1,1,0]) (O20 [1,1,1,0]).toList 0 #[g0,g1,g2,g3,g4,g5,g6,g7,g8,g9,g10,g11,g12,g13,g14,g15,g16,g17,g18,g19,g20,g21,g22,g23,g24,g25,g26,g27] M K = K #[g0,g1,g2,g3,.bool true,g5,g6,g7,g8,g9,g10,g11,g12,g13,g14,g15,g16,g17,g18,g19,g20,g21,g22,g23,g24,g25,g26,g27] M := by kernel_rfl
theorem k20_34 : P20 [1,1,1,1] = .ret := by kernel_rfl
noncomputable def S20_1 : List Item := [.code (P20 [1,1,0,1,0,0]), .inLoop (P20 [1,1,0,1,0,0]), .inBlock 0, .code (P20 [1,1,1])]
def A20_1 (Ax0 : Option Addr) (lx0 cx0 : Nat) (Ax1 : Option Addr) (lx1 cx1 : Nat) (x5 : Int) (M : Mem) (Q : Value → Mem → Prop) : Prop := ∀ (g2 g3 g4 g6 g7 g8 g9 g10 g11 g12 g13 g14 g15 g16 g17 g18 g19 g20 g21 g22 g23 g24 g25 g26 g27 : Value), Rn Try.prog Try.f20 S20_1 #[.slice Ax0 lx0 cx0, .slice Ax1 lx1 cx1, g2, g3, g4, .int .i64 x5, g6, g7, g8, g9, g10, g11, g12, g13, g14, g15, g16, g17, g18, g19, g20, g21, g22, g23, g24, g25, g26, g27] M Q
theorem w20_0 {Ax0 : Option Addr} {lx0 cx0 : Nat} {Ax1 : Option Addr} {lx1 cx1 : Nat} {M : Mem} {Q : Value → Mem → Prop} (H :
    ((((lx0 : Int)) ≠ ((lx1 : Int)) →
     Q (.bool false) M) ∧
     (((lx0 : Int)) = ((lx1 : Int)) →
     A20_1 Ax0 lx0 cx0 Ax1 lx1 cx1 0 M Q))) :
    Cn Try.prog 20 #[.slice Ax0 lx0 cx0, .slice Ax1 lx1 cx1] M Q := by
  refine Cn.of b20 d20 t20 ?_
  refine Rn.seq k20_0 (Rn.region k20_1 (fun call K => r20_0) (Rch.leaf (Rn.seq k20_2 (Rn.seq k20_3 (Rn.region k20_4 (fun call K => r20_1) (Rch.leaf ?_))))))
  refine Rn.cnd (v := ((lx0 : Int)) != ((lx1 : Int))) ⟨c20_5, rfl, by kernel_rfl⟩ (fun h => ?_) (fun h => ?_)
  · replace H := H.1 (ne_of_bneT h)
    refine Rn.seq k20_6 (Rn.region k20_7 (fun call K => r20_2) (Rch.leaf ?_))
    exact Rn.ret k20_8 e20 H
  · replace H := H.2 (eq_of_bneF h)
    refine Rn.skip k20_10 (Rn.seq k20_11 (Rn.seq k20_12 (Rn.region k20_13 (fun call K => r20_3) (Rch.leaf (Rn.block k20_14 (Rn.loop k20_15 ?_))))))
    exact H _ _ _ _ _ _ _ _ _ _ _ _ _ _ _ _ _ _ _ _ _ _ _ _ _

theorem w20_1 {Ax0 : Option Addr} {lx0 cx0 : Nat} {Ax1 : Option Addr} {lx1 cx1 : Nat} {x5 : Int} {M : Mem} {Q : Value → Mem → Prop} (H :
    ((x5 < ((lx0 : Int)) →
     ∃ a1', idxA Ax0 lx0 1 x5 = some a1' ∧
     ∃ x2', M.intAt .i64 a1'.block a1'.off = some x2' ∧
     ∃ a3', idxA Ax1 lx1 1 x5 = some a3' ∧
     ∃ x4', M.intAt .i64 a3'.block a3'.off = some x4' ∧
     Cn Try.prog 17 #[.int .i64 (IntKind.i64.wrap (x2' - x4'))] M fun v5' N5' =>
      ∃ x6', asI .i64 v5' = some x6' ∧
      ((x6' > 1 →
       Q (.bool false) N5') ∧
       (¬ (x6' > 1) →
       A20_1 Ax0 lx0 cx0 Ax1 lx1 cx1 (IntKind.i64.wrap (x5 + 1)) N5' Q))) ∧
     (¬ (x5 < ((lx0 : Int))) →
     Q (.bool true) M))) :
    A20_1 Ax0 lx0 cx0 Ax1 lx1 cx1 x5 M Q := by
  intro g2 g3 g4 g6 g7 g8 g9 g10 g11 g12 g13 g14 g15 g16 g17 g18 g19 g20 g21 g22 g23 g24 g25 g26 g27
  refine Rn.seq k20_16 (Rn.seq k20_17 (Rn.region k20_18 (fun call K => r20_4) (Rch.leaf ?_)))
  refine Rn.cnd (v := decide (x5 < ((lx0 : Int)))) ⟨c20_19, rfl, by kernel_rfl⟩ (fun h => ?_) (fun h => ?_)
  · replace H := H.1 (of_decide_eq_true h)
    refine Rn.skip k20_20 (Rn.seq k20_21 (Rn.block k20_22 (Rn.seq k20_23 (Rn.regionD k20_24 (fun call K => r20_6) (Rch.ex H fun a1' H => Rch.ex H fun x2' H => Rch.ex H fun a3' H => Rch.ex H fun x4' H => Rch.call H fun v5' N5' H => Rch.ex H fun x6' H => Rch.leaf ?_)))))
    refine Rn.cnd (v := decide (x6' > 1)) ⟨c20_25, rfl, by kernel_rfl⟩ (fun h => ?_) (fun h => ?_)
    · replace H := H.1 (of_decide_eq_true h)
      refine Rn.seq k20_26 (Rn.region k20_27 (fun call K => r20_7) (Rch.leaf ?_))
      exact Rn.ret k20_28 e20 H
    · replace H := H.2 (of_decide_eq_false h)
      refine Rn.skip k20_29 (Rn.blk (Rn.region k20_30 (fun call K => r20_5) (Rch.leaf (Rn.lp ?_))))
      exact H _ _ _ _ _ _ _ _ _ _ _ _ _ _ _ _ _ _ _ _ _ _ _ _ _
  · replace H := H.2 (of_decide_eq_false h)
    refine Rn.exit k20_31 rfl (Rn.seq k20_32 (Rn.region k20_33 (fun call K => r20_8) (Rch.leaf ?_)))
    exact Rn.ret k20_34 e20 H


/-! ### zoetrope/basis.Cos: function 21 -/
noncomputable abbrev P21 (p : List Nat) : Code := subC (codeOf Try.f21) p
noncomputable abbrev O21 (p : List Nat) : Array Oper := opsOf (subC (codeOf Try.f21) p)
theorem b21 : Try.prog.funcs[21]? = some Try.f21 ∧ (Orc.tab Try.prog).lookup 21 = none := ⟨by kernel_rfl, by kernel_rfl⟩
theorem d21 : Try.f21.body = some (P21 []) := by kernel_rfl
theorem t21 {x0 : Int} : #[.int .i64 x0] ++ Array.replicate (Try.f21.ntmps - (#[.int .i64 x0] : Array Value).size) undef = #[.int .i64 x0,undef,undef,undef,undef,undef,undef] := by kernel_rfl
theorem k21_0 : P21 [] = .seq (P21 [0]) (P21 [1]) := by kernel_rfl
theorem k21_1 : P21 [0] = .region 0 (O21 [0]) false := by kernel_rfl
theorem r21_0 {M : Mem} {call : CallM} {K : Array Value → Mem → R} :
    opsK Try.prog (fun _ => call) (O21 [0]) (O21 [0]).toList 0 #[g0,g1,g2,g3,g4,g5,g6] M K = K #[g0,g1,.int .i64 0,g3,g4,g5,g6] M := by kernel_rfl
theorem k21_2 : P21 [1] = .seq (P21 [1,0]) (P21 [1,1]) := by kernel_rfl
theorem k21_3 : P21 [1,0] = .region 1 (O21 [1,0]) false := by kernel_rfl
theorem r21_1 {M : Mem} {call : CallM} {K : Array Value → Mem → R} :
    opsK Try.prog (fun _ => call) (O21 [1,0]) (O21 [1,0]).toList 0 #[g0,g1,g2,g3,g4,g5,g6] M K = (call 30 #[] M).bind fun r_1 => (asA 65 r_1.1).bind fun cs_2 => (asI .i16 (cs_2.getD 0 undef)).bind fun x_3 => (asI .i16 (cs_2.getD 1 undef)).bind fun x_4 => (asI .i16 (cs_2.getD 2 undef)).bind fun x_5 => (asI .i16 (cs_2.getD 3 undef)).bind fun x_6 => (asI .i16 (cs_2.getD 4 undef)).bind fun x_7 => (asI .i16 (cs_2.getD 5 undef)).bind fun x_8 => (asI .i16 (cs_2.getD 6 undef)).bind fun x_9 => (asI .i16 (cs_2.getD 7 undef)).bind fun x_10 => (asI .i16 (cs_2.getD 8 undef)).bind fun x_11 => (asI .i16 (cs_2.getD 9 undef)).bind fun x_12 => (asI .i16 (cs_2.getD 10 undef)).bind fun x_13 => (asI .i16 (cs_2.getD 11 undef)).bind fun x_14 => (asI .i16 (cs_2.getD 12 undef)).bind fun x_15 => (asI .i16 (cs_2.getD 13 undef)).bind fun x_16 => (asI .i16 (cs_2.getD 14 undef)).bind fun x_17 => (asI .i16 (cs_2.getD 15 undef)).bind fun x_18 => (asI .i16 (cs_2.getD 16 undef)).bind fun x_19 => (asI .i16 (cs_2.getD 17 undef)).bind fun x_20 => (asI .i16 (cs_2.getD 18 undef)).bind fun x_21 => (asI .i16 (cs_2.getD 19 undef)).bind fun x_22 => (asI .i16 (cs_2.getD 20 undef)).bind fun x_23 => (asI .i16 (cs_2.getD 21 undef)).bind fun x_24 => (asI .i16 (cs_2.getD 22 undef)).bind fun x_25 => (asI .i16 (cs_2.getD 23 undef)).bind fun x_26 => (asI .i16 (cs_2.getD 24 undef)).bind fun x_27 => (asI .i16 (cs_2.getD 25 undef)).bind fun x_28 => (asI .i16 (cs_2.getD 26 undef)).bind fun x_29 => (asI .i16 (cs_2.getD 27 undef)).bind fun x_30 => (asI .i16 (cs_2.getD 28 undef)).bind fun x_31 => (asI .i16 (cs_2.getD 29 undef)).bind fun x_32 => (asI .i16 (cs_2.getD 30 undef)).bind fun x_33 => (asI .i16 (cs_2.getD 31 undef)).bind fun x_34 => (asI .i16 (cs_2.getD 32 undef)).bind fun x_35 => (asI .i16 (cs_2.getD 33 undef)).bind fun x_36 => (asI .i16 (cs_2.getD 34 undef)).bind fun x_37 => (asI .i16 (cs_2.getD 35 undef)).bind fun x_38 => (asI .i16 (cs_2.getD 36 undef)).bind fun x_39 => (asI .i16 (cs_2.getD 37 undef)).bind fun x_40 => (asI .i16 (cs_2.getD 38 undef)).bind fun x_41 => (asI .i16 (cs_2.getD 39 undef)).bind fun x_42 => (asI .i16 (cs_2.getD 40 undef)).bind fun x_43 => (asI .i16 (cs_2.getD 41 undef)).bind fun x_44 => (asI .i16 (cs_2.getD 42 undef)).bind fun x_45 => (asI .i16 (cs_2.getD 43 undef)).bind fun x_46 => (asI .i16 (cs_2.getD 44 undef)).bind fun x_47 => (asI .i16 (cs_2.getD 45 undef)).bind fun x_48 => (asI .i16 (cs_2.getD 46 undef)).bind fun x_49 => (asI .i16 (cs_2.getD 47 undef)).bind fun x_50 => (asI .i16 (cs_2.getD 48 undef)).bind fun x_51 => (asI .i16 (cs_2.getD 49 undef)).bind fun x_52 => (asI .i16 (cs_2.getD 50 undef)).bind fun x_53 => (asI .i16 (cs_2.getD 51 undef)).bind fun x_54 => (asI .i16 (cs_2.getD 52 undef)).bind fun x_55 => (asI .i16 (cs_2.getD 53 undef)).bind fun x_56 => (asI .i16 (cs_2.getD 54 undef)).bind fun x_57 => (asI .i16 (cs_2.getD 55 undef)).bind fun x_58 => (asI .i16 (cs_2.getD 56 undef)).bind fun x_59 => (asI .i16 (cs_2.getD 57 undef)).bind fun x_60 => (asI .i16 (cs_2.getD 58 undef)).bind fun x_61 => (asI .i16 (cs_2.getD 59 undef)).bind fun x_62 => (asI .i16 (cs_2.getD 60 undef)).bind fun x_63 => (asI .i16 (cs_2.getD 61 undef)).bind fun x_64 => (asI .i16 (cs_2.getD 62 undef)).bind fun x_65 => (asI .i16 (cs_2.getD 63 undef)).bind fun x_66 => (asI .i16 (cs_2.getD 64 undef)).bind fun x_67 => ((r_1.2.new (.cells #[.int .i16 0, .int .i16 0, .int .i16 0, .int .i16 0, .int .i16 0, .int .i16 0, .int .i16 0, .int .i16 0, .int .i16 0, .int .i16 0, .int .i16 0, .int .i16 0, .int .i16 0, .int .i16 0, .int .i16 0, .int .i16 0, .int .i16 0, .int .i16 0, .int .i16 0, .int .i16 0, .int .i16 0, .int .i16 0, .int .i16 0, .int .i16 0, .int .i16 0, .int .i16 0, .int .i16 0, .int .i16 0, .int .i16 0, .int .i16 0, .int .i16 0, .int .i16 0, .int .i16 0, .int .i16 0, .int .i16 0, .int .i16 0, .int .i16 0, .int .i16 0, .int .i16 0, .int .i16 0, .int .i16 0, .int .i16 0, .int .i16 0, .int .i16 0, .int .i16 0, .int .i16 0, .int .i16 0, .int .i16 0, .int .i16 0, .int .i16 0, .int .i16 0, .int .i16 0, .int .i16 0, .int .i16 0, .int .i16 0, .int .i16 0, .int .i16 0, .int .i16 0, .int .i16 0, .int .i16 0, .int .i16 0, .int .i16 0, .int .i16 0, .int .i16 0, .int .i16 0] 44)).put (2 * r_1.2.nb.size) 0 (.int .i16 x_3)).bind fun M_68 => (M_68.put (2 * r_1.2.nb.size) 1 (.int .i16 x_4)).bind fun M_69 => (M_69.put (2 * r_1.2.nb.size) 2 (.int .i16 x_5)).bind fun M_70 => (M_70.put (2 * r_1.2.nb.size) 3 (.int .i16 x_6)).bind fun M_71 => (M_71.put (2 * r_1.2.nb.size) 4 (.int .i16 x_7)).bind fun M_72 => (M_72.put (2 * r_1.2.nb.size) 5 (.int .i16 x_8)).bind fun M_73 => (M_73.put (2 * r_1.2.nb.size) 6 (.int .i16 x_9)).bind fun M_74 => (M_74.put (2 * r_1.2.nb.size) 7 (.int .i16 x_10)).bind fun M_75 => (M_75.put (2 * r_1.2.nb.size) 8 (.int .i16 x_11)).bind fun M_76 => (M_76.put (2 * r_1.2.nb.size) 9 (.int .i16 x_12)).bind fun M_77 => (M_77.put (2 * r_1.2.nb.size) 10 (.int .i16 x_13)).bind fun M_78 => (M_78.put (2 * r_1.2.nb.size) 11 (.int .i16 x_14)).bind fun M_79 => (M_79.put (2 * r_1.2.nb.size) 12 (.int .i16 x_15)).bind fun M_80 => (M_80.put (2 * r_1.2.nb.size) 13 (.int .i16 x_16)).bind fun M_81 => (M_81.put (2 * r_1.2.nb.size) 14 (.int .i16 x_17)).bind fun M_82 => (M_82.put (2 * r_1.2.nb.size) 15 (.int .i16 x_18)).bind fun M_83 => (M_83.put (2 * r_1.2.nb.size) 16 (.int .i16 x_19)).bind fun M_84 => (M_84.put (2 * r_1.2.nb.size) 17 (.int .i16 x_20)).bind fun M_85 => (M_85.put (2 * r_1.2.nb.size) 18 (.int .i16 x_21)).bind fun M_86 => (M_86.put (2 * r_1.2.nb.size) 19 (.int .i16 x_22)).bind fun M_87 => (M_87.put (2 * r_1.2.nb.size) 20 (.int .i16 x_23)).bind fun M_88 => (M_88.put (2 * r_1.2.nb.size) 21 (.int .i16 x_24)).bind fun M_89 => (M_89.put (2 * r_1.2.nb.size) 22 (.int .i16 x_25)).bind fun M_90 => (M_90.put (2 * r_1.2.nb.size) 23 (.int .i16 x_26)).bind fun M_91 => (M_91.put (2 * r_1.2.nb.size) 24 (.int .i16 x_27)).bind fun M_92 => (M_92.put (2 * r_1.2.nb.size) 25 (.int .i16 x_28)).bind fun M_93 => (M_93.put (2 * r_1.2.nb.size) 26 (.int .i16 x_29)).bind fun M_94 => (M_94.put (2 * r_1.2.nb.size) 27 (.int .i16 x_30)).bind fun M_95 => (M_95.put (2 * r_1.2.nb.size) 28 (.int .i16 x_31)).bind fun M_96 => (M_96.put (2 * r_1.2.nb.size) 29 (.int .i16 x_32)).bind fun M_97 => (M_97.put (2 * r_1.2.nb.size) 30 (.int .i16 x_33)).bind fun M_98 => (M_98.put (2 * r_1.2.nb.size) 31 (.int .i16 x_34)).bind fun M_99 => (M_99.put (2 * r_1.2.nb.size) 32 (.int .i16 x_35)).bind fun M_100 => (M_100.put (2 * r_1.2.nb.size) 33 (.int .i16 x_36)).bind fun M_101 => (M_101.put (2 * r_1.2.nb.size) 34 (.int .i16 x_37)).bind fun M_102 => (M_102.put (2 * r_1.2.nb.size) 35 (.int .i16 x_38)).bind fun M_103 => (M_103.put (2 * r_1.2.nb.size) 36 (.int .i16 x_39)).bind fun M_104 => (M_104.put (2 * r_1.2.nb.size) 37 (.int .i16 x_40)).bind fun M_105 => (M_105.put (2 * r_1.2.nb.size) 38 (.int .i16 x_41)).bind fun M_106 => (M_106.put (2 * r_1.2.nb.size) 39 (.int .i16 x_42)).bind fun M_107 => (M_107.put (2 * r_1.2.nb.size) 40 (.int .i16 x_43)).bind fun M_108 => (M_108.put (2 * r_1.2.nb.size) 41 (.int .i16 x_44)).bind fun M_109 => (M_109.put (2 * r_1.2.nb.size) 42 (.int .i16 x_45)).bind fun M_110 => (M_110.put (2 * r_1.2.nb.size) 43 (.int .i16 x_46)).bind fun M_111 => (M_111.put (2 * r_1.2.nb.size) 44 (.int .i16 x_47)).bind fun M_112 => (M_112.put (2 * r_1.2.nb.size) 45 (.int .i16 x_48)).bind fun M_113 => (M_113.put (2 * r_1.2.nb.size) 46 (.int .i16 x_49)).bind fun M_114 => (M_114.put (2 * r_1.2.nb.size) 47 (.int .i16 x_50)).bind fun M_115 => (M_115.put (2 * r_1.2.nb.size) 48 (.int .i16 x_51)).bind fun M_116 => (M_116.put (2 * r_1.2.nb.size) 49 (.int .i16 x_52)).bind fun M_117 => (M_117.put (2 * r_1.2.nb.size) 50 (.int .i16 x_53)).bind fun M_118 => (M_118.put (2 * r_1.2.nb.size) 51 (.int .i16 x_54)).bind fun M_119 => (M_119.put (2 * r_1.2.nb.size) 52 (.int .i16 x_55)).bind fun M_120 => (M_120.put (2 * r_1.2.nb.size) 53 (.int .i16 x_56)).bind fun M_121 => (M_121.put (2 * r_1.2.nb.size) 54 (.int .i16 x_57)).bind fun M_122 => (M_122.put (2 * r_1.2.nb.size) 55 (.int .i16 x_58)).bind fun M_123 => (M_123.put (2 * r_1.2.nb.size) 56 (.int .i16 x_59)).bind fun M_124 => (M_124.put (2 * r_1.2.nb.size) 57 (.int .i16 x_60)).bind fun M_125 => (M_125.put (2 * r_1.2.nb.size) 58 (.int .i16 x_61)).bind fun M_126 => (M_126.put (2 * r_1.2.nb.size) 59 (.int .i16 x_62)).bind fun M_127 => (M_127.put (2 * r_1.2.nb.size) 60 (.int .i16 x_63)).bind fun M_128 => (M_128.put (2 * r_1.2.nb.size) 61 (.int .i16 x_64)).bind fun M_129 => (M_129.put (2 * r_1.2.nb.size) 62 (.int .i16 x_65)).bind fun M_130 => (M_130.put (2 * r_1.2.nb.size) 63 (.int .i16 x_66)).bind fun M_131 => (M_131.put (2 * r_1.2.nb.size) 64 (.int .i16 x_67)).bind fun M_132 => K #[g0,g1,g2,.pointer (some ⟨2 * r_1.2.nb.size, 0, none⟩),.agg #[.int .i16 x_3, .int .i16 x_4, .int .i16 x_5, .int .i16 x_6, .int .i16 x_7, .int .i16 x_8, .int .i16 x_9, .int .i16 x_10, .int .i16 x_11, .int .i16 x_12, .int .i16 x_13, .int .i16 x_14, .int .i16 x_15, .int .i16 x_16, .int .i16 x_17, .int .i16 x_18, .int .i16 x_19, .int .i16 x_20, .int .i16 x_21, .int .i16 x_22, .int .i16 x_23, .int .i16 x_24, .int .i16 x_25, .int .i16 x_26, .int .i16 x_27, .int .i16 x_28, .int .i16 x_29, .int .i16 x_30, .int .i16 x_31, .int .i16 x_32, .int .i16 x_33, .int .i16 x_34, .int .i16 x_35, .int .i16 x_36, .int .i16 x_37, .int .i16 x_38, .int .i16 x_39, .int .i16 x_40, .int .i16 x_41, .int .i16 x_42, .int .i16 x_43, .int .i16 x_44, .int .i16 x_45, .int .i16 x_46, .int .i16 x_47, .int .i16 x_48, .int .i16 x_49, .int .i16 x_50, .int .i16 x_51, .int .i16 x_52, .int .i16 x_53, .int .i16 x_54, .int .i16 x_55, .int .i16 x_56, .int .i16 x_57, .int .i16 x_58, .int .i16 x_59, .int .i16 x_60, .int .i16 x_61, .int .i16 x_62, .int .i16 x_63, .int .i16 x_64, .int .i16 x_65, .int .i16 x_66, .int .i16 x_67],g5,g6] M_132 := by kernel_rfl
theorem k21_4 : P21 [1,1] = .seq (P21 [1,1,0]) (P21 [1,1,1]) := by kernel_rfl
theorem k21_5 : P21 [1,1,0] = .region 2 (O21 [1,1,0]) false := by kernel_rfl
theorem r21_2 {x0 : Int} {x3 : Option Addr} {M : Mem} {call : CallM} {K : Array Value → Mem → R} :
    opsK Try.prog (fun _ => call) (O21 [1,1,0]) (O21 [1,1,0]).toList 0 #[.int .i64 x0,g1,g2,.pointer x3,g4,g5,g6] M K = (call 31 #[.pointer x3, .int .i64 x0] M).bind fun r_1 => (asI .i64 r_1.1).bind fun x_2 => K #[.int .i64 x0,g1,.int .i64 x_2,.pointer x3,g4,.int .i64 x0,.int .i64 x_2] r_1.2 := by kernel_rfl
theorem k21_6 : P21 [1,1,1] = .ret := by kernel_rfl
theorem e21 {M : Mem} : finish Try.prog Try.f21 #[g0,g1,g2,g3,g4,g5,g6] M = some (g2, M) := by kernel_rfl
theorem w21_0 {x0 : Int} {M : Mem} {Q : Value → Mem → Prop} (H :
    Cn Try.prog 30 #[] M fun v1' N1' =>
     ∃ cs2', asA 65 v1' = some cs2' ∧
     ∃ x3', asI .i16 (cs2'.getD 0 undef) = some x3' ∧
     ∃ x4', asI .i16 (cs2'.getD 1 undef) = some x4' ∧
     ∃ x5', asI .i16 (cs2'.getD 2 undef) = some x5' ∧
     ∃ x6', asI .i16 (cs2'.getD 3 undef) = some x6' ∧
     ∃ x7', asI .i16 (cs2'.getD 4 undef) = some x7' ∧
     ∃ x8', asI .i16 (cs2'.getD 5 undef) = some x8' ∧
     ∃ x9', asI .i16 (cs2'.getD 6 undef) = some x9' ∧
     ∃ x10', asI .i16 (cs2'.getD 7 undef) = some x10' ∧
     ∃ x11', asI .i16 (cs2'.getD 8 undef) = some x11' ∧
     ∃ x12', asI .i16 (cs2'.getD 9 undef) = some x12' ∧
     ∃ x13', asI .i16 (cs2'.getD 10 undef) = some x13' ∧
     ∃ x14', asI .i16 (cs2'.getD 11 undef) = some x14' ∧
     ∃ x15', asI .i16 (cs2'.getD 12 undef) = some x15' ∧
     ∃ x16', asI .i16 (cs2'.getD 13 undef) = some x16' ∧
     ∃ x17', asI .i16 (cs2'.getD 14 undef) = some x17' ∧
     ∃ x18', asI .i16 (cs2'.getD 15 undef) = some x18' ∧
     ∃ x19', asI .i16 (cs2'.getD 16 undef) = some x19' ∧
     ∃ x20', asI .i16 (cs2'.getD 17 undef) = some x20' ∧
     ∃ x21', asI .i16 (cs2'.getD 18 undef) = some x21' ∧
     ∃ x22', asI .i16 (cs2'.getD 19 undef) = some x22' ∧
     ∃ x23', asI .i16 (cs2'.getD 20 undef) = some x23' ∧
     ∃ x24', asI .i16 (cs2'.getD 21 undef) = some x24' ∧
     ∃ x25', asI .i16 (cs2'.getD 22 undef) = some x25' ∧
     ∃ x26', asI .i16 (cs2'.getD 23 undef) = some x26' ∧
     ∃ x27', asI .i16 (cs2'.getD 24 undef) = some x27' ∧
     ∃ x28', asI .i16 (cs2'.getD 25 undef) = some x28' ∧
     ∃ x29', asI .i16 (cs2'.getD 26 undef) = some x29' ∧
     ∃ x30', asI .i16 (cs2'.getD 27 undef) = some x30' ∧
     ∃ x31', asI .i16 (cs2'.getD 28 undef) = some x31' ∧
     ∃ x32', asI .i16 (cs2'.getD 29 undef) = some x32' ∧
     ∃ x33', asI .i16 (cs2'.getD 30 undef) = some x33' ∧
     ∃ x34', asI .i16 (cs2'.getD 31 undef) = some x34' ∧
     ∃ x35', asI .i16 (cs2'.getD 32 undef) = some x35' ∧
     ∃ x36', asI .i16 (cs2'.getD 33 undef) = some x36' ∧
     ∃ x37', asI .i16 (cs2'.getD 34 undef) = some x37' ∧
     ∃ x38', asI .i16 (cs2'.getD 35 undef) = some x38' ∧
     ∃ x39', asI .i16 (cs2'.getD 36 undef) = some x39' ∧
     ∃ x40', asI .i16 (cs2'.getD 37 undef) = some x40' ∧
     ∃ x41', asI .i16 (cs2'.getD 38 undef) = some x41' ∧
     ∃ x42', asI .i16 (cs2'.getD 39 undef) = some x42' ∧
     ∃ x43', asI .i16 (cs2'.getD 40 undef) = some x43' ∧
     ∃ x44', asI .i16 (cs2'.getD 41 undef) = some x44' ∧
     ∃ x45', asI .i16 (cs2'.getD 42 undef) = some x45' ∧
     ∃ x46', asI .i16 (cs2'.getD 43 undef) = some x46' ∧
     ∃ x47', asI .i16 (cs2'.getD 44 undef) = some x47' ∧
     ∃ x48', asI .i16 (cs2'.getD 45 undef) = some x48' ∧
     ∃ x49', asI .i16 (cs2'.getD 46 undef) = some x49' ∧
     ∃ x50', asI .i16 (cs2'.getD 47 undef) = some x50' ∧
     ∃ x51', asI .i16 (cs2'.getD 48 undef) = some x51' ∧
     ∃ x52', asI .i16 (cs2'.getD 49 undef) = some x52' ∧
     ∃ x53', asI .i16 (cs2'.getD 50 undef) = some x53' ∧
     ∃ x54', asI .i16 (cs2'.getD 51 undef) = some x54' ∧
     ∃ x55', asI .i16 (cs2'.getD 52 undef) = some x55' ∧
     ∃ x56', asI .i16 (cs2'.getD 53 undef) = some x56' ∧
     ∃ x57', asI .i16 (cs2'.getD 54 undef) = some x57' ∧
     ∃ x58', asI .i16 (cs2'.getD 55 undef) = some x58' ∧
     ∃ x59', asI .i16 (cs2'.getD 56 undef) = some x59' ∧
     ∃ x60', asI .i16 (cs2'.getD 57 undef) = some x60' ∧
     ∃ x61', asI .i16 (cs2'.getD 58 undef) = some x61' ∧
     ∃ x62', asI .i16 (cs2'.getD 59 undef) = some x62' ∧
     ∃ x63', asI .i16 (cs2'.getD 60 undef) = some x63' ∧
     ∃ x64', asI .i16 (cs2'.getD 61 undef) = some x64' ∧
     ∃ x65', asI .i16 (cs2'.getD 62 undef) = some x65' ∧
     ∃ x66', asI .i16 (cs2'.getD 63 undef) = some x66' ∧
     ∃ x67', asI .i16 (cs2'.getD 64 undef) = some x67' ∧
     ∃ M68', (N1'.new (.cells #[.int .i16 0, .int .i16 0, .int .i16 0, .int .i16 0, .int .i16 0, .int .i16 0, .int .i16 0, .int .i16 0, .int .i16 0, .int .i16 0, .int .i16 0, .int .i16 0, .int .i16 0, .int .i16 0, .int .i16 0, .int .i16 0, .int .i16 0, .int .i16 0, .int .i16 0, .int .i16 0, .int .i16 0, .int .i16 0, .int .i16 0, .int .i16 0, .int .i16 0, .int .i16 0, .int .i16 0, .int .i16 0, .int .i16 0, .int .i16 0, .int .i16 0, .int .i16 0, .int .i16 0, .int .i16 0, .int .i16 0, .int .i16 0, .int .i16 0, .int .i16 0, .int .i16 0, .int .i16 0, .int .i16 0, .int .i16 0, .int .i16 0, .int .i16 0, .int .i16 0, .int .i16 0, .int .i16 0, .int .i16 0, .int .i16 0, .int .i16 0, .int .i16 0, .int .i16 0, .int .i16 0, .int .i16 0, .int .i16 0, .int .i16 0, .int .i16 0, .int .i16 0, .int .i16 0, .int .i16 0, .int .i16 0, .int .i16 0, .int .i16 0, .int .i16 0, .int .i16 0] 44)).put (2 * N1'.nb.size) 0 (.int .i16 x3') = some M68' ∧
     ∃ M69', M68'.put (2 * N1'.nb.size) 1 (.int .i16 x4') = some M69' ∧
     ∃ M70', M69'.put (2 * N1'.nb.size) 2 (.int .i16 x5') = some M70' ∧
     ∃ M71', M70'.put (2 * N1'.nb.size) 3 (.int .i16 x6') = some M71' ∧
     ∃ M72', M71'.put (2 * N1'.nb.size) 4 (.int .i16 x7') = some M72' ∧
     ∃ M73', M72'.put (2 * N1'.nb.size) 5 (.int .i16 x8') = some M73' ∧
     ∃ M74', M73'.put (2 * N1'.nb.size) 6 (.int .i16 x9') = some M74' ∧
     ∃ M75', M74'.put (2 * N1'.nb.size) 7 (.int .i16 x10') = some M75' ∧
     ∃ M76', M75'.put (2 * N1'.nb.size) 8 (.int .i16 x11') = some M76' ∧
     ∃ M77', M76'.put (2 * N1'.nb.size) 9 (.int .i16 x12') = some M77' ∧
     ∃ M78', M77'.put (2 * N1'.nb.size) 10 (.int .i16 x13') = some M78' ∧
     ∃ M79', M78'.put (2 * N1'.nb.size) 11 (.int .i16 x14') = some M79' ∧
     ∃ M80', M79'.put (2 * N1'.nb.size) 12 (.int .i16 x15') = some M80' ∧
     ∃ M81', M80'.put (2 * N1'.nb.size) 13 (.int .i16 x16') = some M81' ∧
     ∃ M82', M81'.put (2 * N1'.nb.size) 14 (.int .i16 x17') = some M82' ∧
     ∃ M83', M82'.put (2 * N1'.nb.size) 15 (.int .i16 x18') = some M83' ∧
     ∃ M84', M83'.put (2 * N1'.nb.size) 16 (.int .i16 x19') = some M84' ∧
     ∃ M85', M84'.put (2 * N1'.nb.size) 17 (.int .i16 x20') = some M85' ∧
     ∃ M86', M85'.put (2 * N1'.nb.size) 18 (.int .i16 x21') = some M86' ∧
     ∃ M87', M86'.put (2 * N1'.nb.size) 19 (.int .i16 x22') = some M87' ∧
     ∃ M88', M87'.put (2 * N1'.nb.size) 20 (.int .i16 x23') = some M88' ∧
     ∃ M89', M88'.put (2 * N1'.nb.size) 21 (.int .i16 x24') = some M89' ∧
     ∃ M90', M89'.put (2 * N1'.nb.size) 22 (.int .i16 x25') = some M90' ∧
     ∃ M91', M90'.put (2 * N1'.nb.size) 23 (.int .i16 x26') = some M91' ∧
     ∃ M92', M91'.put (2 * N1'.nb.size) 24 (.int .i16 x27') = some M92' ∧
     ∃ M93', M92'.put (2 * N1'.nb.size) 25 (.int .i16 x28') = some M93' ∧
     ∃ M94', M93'.put (2 * N1'.nb.size) 26 (.int .i16 x29') = some M94' ∧
     ∃ M95', M94'.put (2 * N1'.nb.size) 27 (.int .i16 x30') = some M95' ∧
     ∃ M96', M95'.put (2 * N1'.nb.size) 28 (.int .i16 x31') = some M96' ∧
     ∃ M97', M96'.put (2 * N1'.nb.size) 29 (.int .i16 x32') = some M97' ∧
     ∃ M98', M97'.put (2 * N1'.nb.size) 30 (.int .i16 x33') = some M98' ∧
     ∃ M99', M98'.put (2 * N1'.nb.size) 31 (.int .i16 x34') = some M99' ∧
     ∃ M100', M99'.put (2 * N1'.nb.size) 32 (.int .i16 x35') = some M100' ∧
     ∃ M101', M100'.put (2 * N1'.nb.size) 33 (.int .i16 x36') = some M101' ∧
     ∃ M102', M101'.put (2 * N1'.nb.size) 34 (.int .i16 x37') = some M102' ∧
     ∃ M103', M102'.put (2 * N1'.nb.size) 35 (.int .i16 x38') = some M103' ∧
     ∃ M104', M103'.put (2 * N1'.nb.size) 36 (.int .i16 x39') = some M104' ∧
     ∃ M105', M104'.put (2 * N1'.nb.size) 37 (.int .i16 x40') = some M105' ∧
     ∃ M106', M105'.put (2 * N1'.nb.size) 38 (.int .i16 x41') = some M106' ∧
     ∃ M107', M106'.put (2 * N1'.nb.size) 39 (.int .i16 x42') = some M107' ∧
     ∃ M108', M107'.put (2 * N1'.nb.size) 40 (.int .i16 x43') = some M108' ∧
     ∃ M109', M108'.put (2 * N1'.nb.size) 41 (.int .i16 x44') = some M109' ∧
     ∃ M110', M109'.put (2 * N1'.nb.size) 42 (.int .i16 x45') = some M110' ∧
     ∃ M111', M110'.put (2 * N1'.nb.size) 43 (.int .i16 x46') = some M111' ∧
     ∃ M112', M111'.put (2 * N1'.nb.size) 44 (.int .i16 x47') = some M112' ∧
     ∃ M113', M112'.put (2 * N1'.nb.size) 45 (.int .i16 x48') = some M113' ∧
     ∃ M114', M113'.put (2 * N1'.nb.size) 46 (.int .i16 x49') = some M114' ∧
     ∃ M115', M114'.put (2 * N1'.nb.size) 47 (.int .i16 x50') = some M115' ∧
     ∃ M116', M115'.put (2 * N1'.nb.size) 48 (.int .i16 x51') = some M116' ∧
     ∃ M117', M116'.put (2 * N1'.nb.size) 49 (.int .i16 x52') = some M117' ∧
     ∃ M118', M117'.put (2 * N1'.nb.size) 50 (.int .i16 x53') = some M118' ∧
     ∃ M119', M118'.put (2 * N1'.nb.size) 51 (.int .i16 x54') = some M119' ∧
     ∃ M120', M119'.put (2 * N1'.nb.size) 52 (.int .i16 x55') = some M120' ∧
     ∃ M121', M120'.put (2 * N1'.nb.size) 53 (.int .i16 x56') = some M121' ∧
     ∃ M122', M121'.put (2 * N1'.nb.size) 54 (.int .i16 x57') = some M122' ∧
     ∃ M123', M122'.put (2 * N1'.nb.size) 55 (.int .i16 x58') = some M123' ∧
     ∃ M124', M123'.put (2 * N1'.nb.size) 56 (.int .i16 x59') = some M124' ∧
     ∃ M125', M124'.put (2 * N1'.nb.size) 57 (.int .i16 x60') = some M125' ∧
     ∃ M126', M125'.put (2 * N1'.nb.size) 58 (.int .i16 x61') = some M126' ∧
     ∃ M127', M126'.put (2 * N1'.nb.size) 59 (.int .i16 x62') = some M127' ∧
     ∃ M128', M127'.put (2 * N1'.nb.size) 60 (.int .i16 x63') = some M128' ∧
     ∃ M129', M128'.put (2 * N1'.nb.size) 61 (.int .i16 x64') = some M129' ∧
     ∃ M130', M129'.put (2 * N1'.nb.size) 62 (.int .i16 x65') = some M130' ∧
     ∃ M131', M130'.put (2 * N1'.nb.size) 63 (.int .i16 x66') = some M131' ∧
     ∃ M132', M131'.put (2 * N1'.nb.size) 64 (.int .i16 x67') = some M132' ∧
     Cn Try.prog 31 #[.pointer (some ⟨2 * N1'.nb.size, 0, none⟩), .int .i64 x0] M132' fun v133' N133' =>
      ∃ x134', asI .i64 v133' = some x134' ∧
      Q (.int .i64 (x134')) N133') :
    Cn Try.prog 21 #[.int .i64 x0] M Q := by
  refine Cn.of b21 d21 t21 ?_
  refine Rn.seq k21_0 (Rn.region k21_1 (fun call K => r21_0) (Rch.leaf (Rn.seq k21_2 (Rn.region k21_3 (fun call K => r21_1) (Rch.call H fun v1' N1' H => Rch.ex H fun cs2' H => Rch.ex H fun x3' H => Rch.ex H fun x4' H => Rch.ex H fun x5' H => Rch.ex H fun x6' H => Rch.ex H fun x7' H => ?_)))))
  refine Rch.ex H fun x8' H => Rch.ex H fun x9' H => Rch.ex H fun x10' H => Rch.ex H fun x11' H => Rch.ex H fun x12' H => Rch.ex H fun x13' H => Rch.ex H fun x14' H => Rch.ex H fun x15' H => Rch.ex H fun x16' H => Rch.ex H fun x17' H => Rch.ex H fun x18' H => Rch.ex H fun x19' H => ?_
  refine Rch.ex H fun x20' H => Rch.ex H fun x21' H => Rch.ex H fun x22' H => Rch.ex H fun x23' H => Rch.ex H fun x24' H => Rch.ex H fun x25' H => Rch.ex H fun x26' H => Rch.ex H fun x27' H => Rch.ex H fun x28' H => Rch.ex H fun x29' H => Rch.ex H fun x30' H => Rch.ex H fun x31' H => ?_
  refine Rch.ex H fun x32' H => Rch.ex H fun x33' H => Rch.ex H fun x34' H => Rch.ex H fun x35' H => Rch.ex H fun x36' H => Rch.ex H fun x37' H => Rch.ex H fun x38' H => Rch.ex H fun x39' H => Rch.ex H fun x40' H => Rch.ex H fun x41' H => Rch.ex H fun x42' H => Rch.ex H fun x43' H => ?_
  refine Rch.ex H fun x44' H => Rch.ex H fun x45' H => Rch.ex H fun x46' H => Rch.ex H fun x47' H => Rch.ex H fun x48' H => Rch.ex H fun x49' H => Rch.ex H fun x50' H => Rch.ex H fun x51' H => Rch.ex H fun x52' H => Rch.ex H fun x53' H => Rch.ex H fun x54' H => Rch.ex H fun x55' H => ?_
  refine Rch.ex H fun x56' H => Rch.ex H fun x57' H => Rch.ex H fun x58' H => Rch.ex H fun x59' H => Rch.ex H fun x60' H => Rch.ex H fun x61' H => Rch.ex H fun x62' H => Rch.ex H fun x63' H => Rch.ex H fun x64' H => Rch.ex H fun x65' H => Rch.ex H fun x66' H => Rch.ex H fun x67' H => ?_
  refine Rch.ex H fun M68' H => Rch.ex H fun M69' H => Rch.ex H fun M70' H => Rch.ex H fun M71' H => Rch.ex H fun M72' H => Rch.ex H fun M73' H => Rch.ex H fun M74' H => Rch.ex H fun M75' H => Rch.ex H fun M76' H => Rch.ex H fun M77' H => Rch.ex H fun M78' H => Rch.ex H fun M79' H => ?_
  refine Rch.ex H fun M80' H => Rch.ex H fun M81' H => Rch.ex H fun M82' H => Rch.ex H fun M83' H => Rch.ex H fun M84' H => Rch.ex H fun M85' H => Rch.ex H fun M86' H => Rch.ex H fun M87' H => Rch.ex H fun M88' H => Rch.ex H fun M89' H => Rch.ex H fun M90' H => Rch.ex H fun M91' H => ?_
  refine Rch.ex H fun M92' H => Rch.ex H fun M93' H => Rch.ex H fun M94' H => Rch.ex H fun M95' H => Rch.ex H fun M96' H => Rch.ex H fun M97' H => Rch.ex H fun M98' H => Rch.ex H fun M99' H => Rch.ex H fun M100' H => Rch.ex H fun M101' H => Rch.ex H fun M102' H => Rch.ex H fun M103' H => ?_
  refine Rch.ex H fun M104' H => Rch.ex H fun M105' H => Rch.ex H fun M106' H => Rch.ex H fun M107' H => Rch.ex H fun M108' H => Rch.ex H fun M109' H => Rch.ex H fun M110' H => Rch.ex H fun M111' H => Rch.ex H fun M112' H => Rch.ex H fun M113' H => Rch.ex H fun M114' H => Rch.ex H fun M115' H => ?_
  refine Rch.ex H fun M116' H => Rch.ex H fun M117' H => Rch.ex H fun M118' H => Rch.ex H fun M119' H => Rch.ex H fun M120' H => Rch.ex H fun M121' H => Rch.ex H fun M122' H => Rch.ex H fun M123' H => Rch.ex H fun M124' H => Rch.ex H fun M125' H => Rch.ex H fun M126' H => Rch.ex H fun M127' H => ?_
  refine Rch.ex H fun M128' H => Rch.ex H fun M129' H => Rch.ex H fun M130' H => Rch.ex H fun M131' H => Rch.ex H fun M132' H => Rch.leaf (Rn.seq k21_4 (Rn.region k21_5 (fun call K => r21_2) (Rch.call H fun v133' N133' H => Rch.ex H fun x134' H => Rch.leaf ?_)))
  exact Rn.ret k21_6 e21 H


/-! ### zoetrope/zoetroperef07.Cos: function 22 -/
noncomputable abbrev P22 (p : List Nat) : Code := subC (codeOf Try.f22) p
noncomputable abbrev O22 (p : List Nat) : Array Oper := opsOf (subC (codeOf Try.f22) p)
theorem b22 : Try.prog.funcs[22]? = some Try.f22 ∧ (Orc.tab Try.prog).lookup 22 = none := ⟨by kernel_rfl, by kernel_rfl⟩
theorem d22 : Try.f22.body = some (P22 []) := by kernel_rfl
theorem t22 {x0 : Int} : #[.int .i64 x0] ++ Array.replicate (Try.f22.ntmps - (#[.int .i64 x0] : Array Value).size) undef = #[.int .i64 x0,undef,undef,undef,undef,undef,undef,undef,undef,undef,undef,undef,undef,undef,undef,undef,undef,undef,undef,undef,undef,undef,undef,undef,undef] := by kernel_rfl
theorem k22_0 : P22 [] = .seq (P22 [0]) (P22 [1]) := by kernel_rfl
theorem k22_1 : P22 [0] = .region 0 (O22 [0]) false := by kernel_rfl
theorem r22_0 {M : Mem} {call : CallM} {K : Array Value → Mem → R} :
    opsK Try.prog (fun _ => call) (O22 [0]) (O22 [0]).toList 0 #[g0,g1,g2,g3,g4,g5,g6,g7,g8,g9,g10,g11,g12,g13,g14,g15,g16,g17,g18,g19,g20,g21,g22,g23,g24] M K = K #[g0,g1,.int .i64 0,g3,g4,g5,g6,g7,g8,g9,g10,g11,g12,g13,g14,g15,g16,g17,g18,g19,g20,g21,g22,g23,g24] M := by kernel_rfl
theorem k22_2 : P22 [1] = .seq (P22 [1,0]) (P22 [1,1]) := by kernel_rfl
theorem k22_3 : P22 [1,0] = .region 1 (O22 [1,0]) false := by kernel_rfl
theorem r22_1 {M : Mem} {call : CallM} {K : Array Value → Mem → R} :
    opsK Try.prog (fun _ => call) (O22 [1,0]) (O22 [1,0]).toList 0 #[g0,g1,g2,g3,g4,g5,g6,g7,g8,g9,g10,g11,g12,g13,g14,g15,g16,g17,g18,g19,g20,g21,g22,g23,g24] M K = ((M.new (.cells #[.int .i64 0, .int .i64 0, .int .i64 0, .int .i64 0, .int .i64 0, .int .i64 0, .int .i64 0, .int .i64 0, .int .i64 0, .int .i64 0, .int .i64 0, .int .i64 0, .int .i64 0, .int .i64 0, .int .i64 0, .int .i64 0, .int .i64 0, .int .i64 0, .int .i64 0, .int .i64 0, .int .i64 0, .int .i64 0, .int .i64 0, .int .i64 0, .int .i64 0, .int .i64 0, .int .i64 0, .int .i64 0, .int .i64 0, .int .i64 0, .int .i64 0, .int .i64 0, .int .i64 0, .int .i64 0, .int .i64 0, .int .i64 0, .int .i64 0, .int .i64 0, .int .i64 0, .int .i64 0, .int .i64 0, .int .i64 0, .int .i64 0, .int .i64 0, .int .i64 0, .int .i64 0, .int .i64 0, .int .i64 0, .int .i64 0, .int .i64 0, .int .i64 0, .int .i64 0, .int .i64 0, .int .i64 0, .int .i64 0, .int .i64 0, .int .i64 0, .int .i64 0, .int .i64 0, .int .i64 0, .int .i64 0, .int .i64 0, .int .i64 0, .int .i64 0, .int .i64 0] 48)).put (2 * M.nb.size) 0 (.int .i64 4096)).bind fun M_1 => (M_1.put (2 * M.nb.size) 1 (.int .i64 4095)).bind fun M_2 => (M_2.put (2 * M.nb.size) 2 (.int .i64 4091)).bind fun M_3 => (M_3.put (2 * M.nb.size) 3 (.int .i64 4085)).bind fun M_4 => (M_4.put (2 * M.nb.size) 4 (.int .i64 4076)).bind fun M_5 => (M_5.put (2 * M.nb.size) 5 (.int .i64 4065)).bind fun M_6 => (M_6.put (2 * M.nb.size) 6 (.int .i64 4052)).bind fun M_7 => (M_7.put (2 * M.nb.size) 7 (.int .i64 4036)).bind fun M_8 => (M_8.put (2 * M.nb.size) 8 (.int .i64 4017)).bind fun M_9 => (M_9.put (2 * M.nb.size) 9 (.int .i64 3996)).bind fun M_10 => (M_10.put (2 * M.nb.size) 10 (.int .i64 3973)).bind fun M_11 => (M_11.put (2 * M.nb.size) 11 (.int .i64 3948)).bind fun M_12 => (M_12.put (2 * M.nb.size) 12 (.int .i64 3920)).bind fun M_13 => (M_13.put (2 * M.nb.size) 13 (.int .i64 3889)).bind fun M_14 => (M_14.put (2 * M.nb.size) 14 (.int .i64 3857)).bind fun M_15 => (M_15.put (2 * M.nb.size) 15 (.int .i64 3822)).bind fun M_16 => (M_16.put (2 * M.nb.size) 16 (.int .i64 3784)).bind fun M_17 => (M_17.put (2 * M.nb.size) 17 (.int .i64 3745)).bind fun M_18 => (M_18.put (2 * M.nb.size) 18 (.int .i64 3703)).bind fun M_19 => (M_19.put (2 * M.nb.size) 19 (.int .i64 3659)).bind fun M_20 => (M_20.put (2 * M.nb.size) 20 (.int .i64 3612)).bind fun M_21 => (M_21.put (2 * M.nb.size) 21 (.int .i64 3564)).bind fun M_22 => (M_22.put (2 * M.nb.size) 22 (.int .i64 3513)).bind fun M_23 => (M_23.put (2 * M.nb.size) 23 (.int .i64 3461)).bind fun M_24 => (M_24.put (2 * M.nb.size) 24 (.int .i64 3406)).bind fun M_25 => (M_25.put (2 * M.nb.size) 25 (.int .i64 3349)).bind fun M_26 => (M_26.put (2 * M.nb.size) 26 (.int .i64 3290)).bind fun M_27 => (M_27.put (2 * M.nb.size) 27 (.int .i64 3229)).bind fun M_28 => (M_28.put (2 * M.nb.size) 28 (.int .i64 3166)).bind fun M_29 => (M_29.put (2 * M.nb.size) 29 (.int .i64 3102)).bind fun M_30 => (M_30.put (2 * M.nb.size) 30 (.int .i64 3035)).bind fun M_31 => (M_31.put (2 * M.nb.size) 31 (.int .i64 2967)).bind fun M_32 => (M_32.put (2 * M.nb.size) 32 (.int .i64 2896)).bind fun M_33 => (M_33.put (2 * M.nb.size) 33 (.int .i64 2824)).bind fun M_34 => (M_34.put (2 * M.nb.size) 34 (.int .i64 2751)).bind fun M_35 => (M_35.put (2 * M.nb.size) 35 (.int .i64 2675)).bind fun M_36 => (M_36.put (2 * M.nb.size) 36 (.int .i64 2598)).bind fun M_37 => (M_37.put (2 * M.nb.size) 37 (.int .i64 2520)).bind fun M_38 => (M_38.put (2 * M.nb.size) 38 (.int .i64 2440)).bind fun M_39 => (M_39.put (2 * M.nb.size) 39 (.int .i64 2359)).bind fun M_40 => (M_40.put (2 * M.nb.size) 40 (.int .i64 2276)).bind fun M_41 => (M_41.put (2 * M.nb.size) 41 (.int .i64 2191)).bind fun M_42 => (M_42.put (2 * M.nb.size) 42 (.int .i64 2106)).bind fun M_43 => (M_43.put (2 * M.nb.size) 43 (.int .i64 2019)).bind fun M_44 => (M_44.put (2 * M.nb.size) 44 (.int .i64 1931)).bind fun M_45 => (M_45.put (2 * M.nb.size) 45 (.int .i64 1842)).bind fun M_46 => (M_46.put (2 * M.nb.size) 46 (.int .i64 1751)).bind fun M_47 => (M_47.put (2 * M.nb.size) 47 (.int .i64 1660)).bind fun M_48 => (M_48.put (2 * M.nb.size) 48 (.int .i64 1567)).bind fun M_49 => (M_49.put (2 * M.nb.size) 49 (.int .i64 1474)).bind fun M_50 => (M_50.put (2 * M.nb.size) 50 (.int .i64 1380)).bind fun M_51 => (M_51.put (2 * M.nb.size) 51 (.int .i64 1285)).bind fun M_52 => (M_52.put (2 * M.nb.size) 52 (.int .i64 1189)).bind fun M_53 => (M_53.put (2 * M.nb.size) 53 (.int .i64 1092)).bind fun M_54 => (M_54.put (2 * M.nb.size) 54 (.int .i64 995)).bind fun M_55 => (M_55.put (2 * M.nb.size) 55 (.int .i64 897)).bind fun M_56 => (M_56.put (2 * M.nb.size) 56 (.int .i64 799)).bind fun M_57 => (M_57.put (2 * M.nb.size) 57 (.int .i64 700)).bind fun M_58 => (M_58.put (2 * M.nb.size) 58 (.int .i64 601)).bind fun M_59 => (M_59.put (2 * M.nb.size) 59 (.int .i64 501)).bind fun M_60 => (M_60.put (2 * M.nb.size) 60 (.int .i64 401)).bind fun M_61 => (M_61.put (2 * M.nb.size) 61 (.int .i64 301)).bind fun M_62 => (M_62.put (2 * M.nb.size) 62 (.int .i64 201)).bind fun M_63 => (M_63.put (2 * M.nb.size) 63 (.int .i64 101)).bind fun M_64 => (M_64.put (2 * M.nb.size) 64 (.int .i64 0)).bind fun M_65 => K #[g0,g1,g2,.pointer (some ⟨2 * M.nb.size, 0, none⟩),.agg #[.int .i64 4096, .int .i64 4095, .int .i64 4091, .int .i64 4085, .int .i64 4076, .int .i64 4065, .int .i64 4052, .int .i64 4036, .int .i64 4017, .int .i64 3996, .int .i64 3973, .int .i64 3948, .int .i64 3920, .int .i64 3889, .int .i64 3857, .int .i64 3822, .int .i64 3784, .int .i64 3745, .int .i64 3703, .int .i64 3659, .int .i64 3612, .int .i64 3564, .int .i64 3513, .int .i64 3461, .int .i64 3406, .int .i64 3349, .int .i64 3290, .int .i64 3229, .int .i64 3166, .int .i64 3102, .int .i64 3035, .int .i64 2967, .int .i64 2896, .int .i64 2824, .int .i64 2751, .int .i64 2675, .int .i64 2598, .int .i64 2520, .int .i64 2440, .int .i64 2359, .int .i64 2276, .int .i64 2191, .int .i64 2106, .int .i64 2019, .int .i64 1931, .int .i64 1842, .int .i64 1751, .int .i64 1660, .int .i64 1567, .int .i64 1474, .int .i64 1380, .int .i64 1285, .int .i64 1189, .int .i64 1092, .int .i64 995, .int .i64 897, .int .i64 799, .int .i64 700, .int .i64 601, .int .i64 501, .int .i64 401, .int .i64 301, .int .i64 201, .int .i64 101, .int .i64 0],g5,g6,g7,g8,g9,g10,g11,g12,g13,g14,g15,g16,g17,g18,g19,g20,g21,g22,g23,g24] M_65 := by kernel_rfl
theorem k22_4 : P22 [1,1] = .seq (P22 [1,1,0]) (P22 [1,1,1]) := by kernel_rfl
theorem k22_5 : P22 [1,1,0] = .region 2 (O22 [1,1,0]) false := by kernel_rfl
theorem r22_2 {x0 : Int} {M : Mem} {call : CallM} {K : Array Value → Mem → R} :
    opsK Try.prog (fun _ => call) (O22 [1,1,0]) (O22 [1,1,0]).toList 0 #[.int .i64 x0,g1,g2,g3,g4,g5,g6,g7,g8,g9,g10,g11,g12,g13,g14,g15,g16,g17,g18,g19,g20,g21,g22,g23,g24] M K = K #[.int .i64 (x0.tmod 256),g1,g2,g3,g4,.int .i64 x0,.int .i64 (x0.tmod 256),g7,g8,g9,g10,g11,g12,g13,g14,g15,g16,g17,g18,g19,g20,g21,g22,g23,g24] M := by kernel_rfl
theorem k22_6 : P22 [1,1,1] = .seq (P22 [1,1,1,0]) (P22 [1,1,1,1]) := by kernel_rfl
theorem k22_7 : P22 [1,1,1,0] = .seq (P22 [1,1,1,0,0]) (P22 [1,1,1,0,1]) := by kernel_rfl
theorem k22_8 : P22 [1,1,1,0,0] = .region 3 (O22 [1,1,1,0,0]) false := by kernel_rfl
theorem r22_3 {x0 : Int} {M : Mem} {call : CallM} {K : Array Value → Mem → R} :
    opsK Try.prog (fun _ => call) (O22 [1,1,1,0,0]) (O22 [1,1,1,0,0]).toList 0 #[.int .i64 x0,g1,g2,g3,g4,g5,g6,g7,g8,g9,g10,g11,g12,g13,g14,g15,g16,g17,g18,g19,g20,g21,g22,g23,g24] M K = K #[.int .i64 x0,g1,g2,g3,g4,g5,g6,.int .i64 x0,.bool (decide (x0 < 0)),g9,g10,g11,g12,g13,g14,g15,g16,g17,g18,g19,g20,g21,g22,g23,g24] M := by kernel_rfl
theorem c22_9 : P22 [1,1,1,0,1] = .cond (.tmp 8) (P22 [1,1,1,0,1,0]) (P22 [1,1,1,0,1,1]) := by kernel_rfl
theorem k22_10 : P22 [1,1,1,0,1,0] = .region 4 (O22 [1,1,1,0,1,0]) false := by kernel_rfl
theorem r22_4 {x0 : Int} {M : Mem} {call : CallM} {K : Array Value → Mem → R} :
    opsK Try.prog (fun _ => call) (O22 [1,1,1,0,1,0]) (O22 [1,1,1,0,1,0]).toList 0 #[.int .i64 x0,g1,g2,g3,g4,g5,g6,g7,g8,g9,g10,g11,g12,g13,g14,g15,g16,g17,g18,g19,g20,g21,g22,g23,g24] M K = K #[.int .i64 (IntKind.i64.wrap (x0 + 256)),g1,g2,g3,g4,g5,g6,g7,g8,.int .i64 x0,.int .i64 (IntKind.i64.wrap (x0 + 256)),g11,g12,g13,g14,g15,g16,g17,g18,g19,g20,g21,g22,g23,g24] M := by kernel_rfl
theorem k22_11 : P22 [1,1,1,1] = .seq (P22 [1,1,1,1,0]) (P22 [1,1,1,1,1]) := by kernel_rfl
theorem k22_12 : P22 [1,1,1,1,0] = .seq (P22 [1,1,1,1,0,0]) (P22 [1,1,1,1,0,1]) := by kernel_rfl
theorem k22_13 : P22 [1,1,1,1,0,0] = .region 5 (O22 [1,1,1,1,0,0]) false := by kernel_rfl
theorem r22_5 {x0 : Int} {M : Mem} {call : CallM} {K : Array Value → Mem → R} :
    opsK Try.prog (fun _ => call) (O22 [1,1,1,1,0,0]) (O22 [1,1,1,1,0,0]).toList 0 #[.int .i64 x0,g1,g2,g3,g4,g5,g6,g7,g8,g9,g10,g11,g12,g13,g14,g15,g16,g17,g18,g19,g20,g21,g22,g23,g24] M K = K #[.int .i64 x0,g1,g2,g3,g4,g5,g6,g7,g8,g9,g10,.int .i64 x0,.bool (decide (x0 > 128)),g13,g14,g15,g16,g17,g18,g19,g20,g21,g22,g23,g24] M := by kernel_rfl
theorem c22_14 : P22 [1,1,1,1,0,1] = .cond (.tmp 12) (P22 [1,1,1,1,0,1,0]) (P22 [1,1,1,1,0,1,1]) := by kernel_rfl
theorem k22_15 : P22 [1,1,1,1,0,1,0] = .region 6 (O22 [1,1,1,1,0,1,0]) false := by kernel_rfl
theorem r22_6 {x0 : Int} {M : Mem} {call : CallM} {K : Array Value → Mem → R} :
    opsK Try.prog (fun _ => call) (O22 [1,1,1,1,0,1,0]) (O22 [1,1,1,1,0,1,0]).toList 0 #[.int .i64 x0,g1,g2,g3,g4,g5,g6,g7,g8,g9,g10,g11,g12,g13,g14,g15,g16,g17,g18,g19,g20,g21,g22,g23,g24] M K = K #[.int .i64 (IntKind.i64.wrap (256 - x0)),g1,g2,g3,g4,g5,g6,g7,g8,g9,g10,g11,g12,.int .i64 x0,.int .i64 (IntKind.i64.wrap (256 - x0)),g15,g16,g17,g18,g19,g20,g21,g22,g23,g24] M := by kernel_rfl
theorem k22_16 : P22 [1,1,1,1,1] = .seq (P22 [1,1,1,1,1,0]) (P22 [1,1,1,1,1,1]) := by kernel_rfl
theorem k22_17 : P22 [1,1,1,1,1,0] = .seq (P22 [1,1,1,1,1,0,0]) (P22 [1,1,1,1,1,0,1]) := by kernel_rfl
theorem k22_18 : P22 [1,1,1,1,1,0,0] = .region 7 (O22 [1,1,1,1,1,0,0]) false := by kernel_rfl
theorem r22_7 {x0 : Int} {M : Mem} {call : CallM} {K : Array Value → Mem → R} :
    opsK Try.prog (fun _ => call) (O22 [1,1,1,1,1,0,0]) (O22 [1,1,1,1,1,0,0]).toList 0 #[.int .i64 x0,g1,g2,g3,g4,g5,g6,g7,g8,g9,g10,g11,g12,g13,g14,g15,g16,g17,g18,g19,g20,g21,g22,g23,g24] M K = K #[.int .i64 x0,g1,g2,g3,g4,g5,g6,g7,g8,g9,g10,g11,g12,g13,g14,.int .i64 x0,.bool (decide (x0 > 64)),g17,g18,g19,g20,g21,g22,g23,g24] M := by kernel_rfl
theorem c22_19 : P22 [1,1,1,1,1,0,1] = .cond (.tmp 16) (P22 [1,1,1,1,1,0,1,0]) (P22 [1,1,1,1,1,0,1,1]) := by kernel_rfl
theorem k22_20 : P22 [1,1,1,1,1,0,1,0] = .seq (P22 [1,1,1,1,1,0,1,0,0]) (P22 [1,1,1,1,1,0,1,0,1]) := by kernel_rfl
theorem k22_21 : P22 [1,1,1,1,1,0,1,0,0] = .region 8 (O22 [1,1,1,1,1,0,1,0,0]) false := by kernel_rfl
theorem r22_8 {x0 : Int} {x3 : Option Addr} {M : Mem} {call : CallM} {K : Array Value → Mem → R} :
    opsK Try.prog (fun _ => call) (O22 [1,1,1,1,1,0,1,0,0]) (O22 [1,1,1,1,1,0,1,0,0]).toList 0 #[.int .i64 x0,g1,g2,.pointer x3,g4,g5,g6,g7,g8,g9,g10,g11,g12,g13,g14,g15,g16,g17,g18,g19,g20,g21,g22,g23,g24] M K = (idxA x3 65 1 (IntKind.i64.wrap (128 - x0))).bind fun a_1 => (M.intAt .i64 a_1.block a_1.off).bind fun x_2 => K #[.int .i64 x0,g1,.int .i64 (IntKind.i64.wrap (0 - x_2)),.pointer x3,g4,g5,g6,g7,g8,g9,g10,g11,g12,g13,g14,g15,g16,.int .i64 x0,.int .i64 (IntKind.i64.wrap (128 - x0)),.pointer (some a_1),.int .i64 x_2,.int .i64 (IntKind.i64.wrap (0 - x_2)),g22,g23,g24] M := by kernel_rfl
theorem k22_22 : P22 [1,1,1,1,1,0,1,0,1] = .ret := by kernel_rfl
theorem e22 {M : Mem} : finish Try.prog Try.f22 #[g0,g1,g2,g3,g4,g5,g6,g7,g8,g9,g10,g11,g12,g13,g14,g15,g16,g17,g18,g19,g20,g21,g22,g23,g24] M = some (g2, M) := by kernel_rfl
theorem k22_24 : P22 [1,1,1,1,1,0,1,1] = .skip := by kernel_rfl
theorem k22_25 : P22 [1,1,1,1,1,1] = .seq (P22 [1,1,1,1,1,1,0]) (P22 [1,1,1,1,1,1,1]) := by kernel_rfl
theorem k22_26 : P22 [1,1,1,1,1,1,0] = .region 9 (O22 [1,1,1,1,1,1,0]) false := by kernel_rfl
theorem r22_9 {x0 : Int} {x3 : Option Addr} {M : Mem} {call : CallM} {K : Array Value → Mem → R} :
    opsK Try.prog (fun _ => call) (O22 [1,1,1,1,1,1,0]) (O22 [1,1,1,1,1,1,0]).toList 0 #[.int .i64 x0,g1,g2,.pointer x3,g4,g5,g6,g7,g8,g9,g10,g11,g12,g13,g14,g15,g16,g17,g18,g19,g20,g21,g22,g23,g24] M K = (idxA x3 65 1 x0).bind fun a_1 => (M.intAt .i64 a_1.block a_1.off).bind fun x_2 => K #[.int .i64 x0,g1,.int .i64 x_2,.pointer x3,g4,g5,g6,g7,g8,g9,g10,g11,g12,g13,g14,g15,g16,g17,g18,g19,g20,g21,.int .i64 x0,.pointer (some a_1),.int .i64 x_2] M := by kernel_rfl
theorem k22_27 : P22 [1,1,1,1,1,1,1] = .ret := by kernel_rfl
theorem k22_28 : P22 [1,1,1,1,0,1,1] = .skip := by kernel_rfl
theorem k22_29 : P22 [1,1,1,0,1,1] = .skip := by kernel_rfl
theorem w22_0 {x0 : Int} {M : Mem} {Q : Value → Mem → Prop} (H :
    ∃ M1', (M.new (.cells #[.int .i64 0, .int .i64 0, .int .i64 0, .int .i64 0, .int .i64 0, .int .i64 0, .int .i64 0, .int .i64 0, .int .i64 0, .int .i64 0, .int .i64 0, .int .i64 0, .int .i64 0, .int .i64 0, .int .i64 0, .int .i64 0, .int .i64 0, .int .i64 0, .int .i64 0, .int .i64 0, .int .i64 0, .int .i64 0, .int .i64 0, .int .i64 0, .int .i64 0, .int .i64 0, .int .i64 0, .int .i64 0, .int .i64 0, .int .i64 0, .int .i64 0, .int .i64 0, .int .i64 0, .int .i64 0, .int .i64 0, .int .i64 0, .int .i64 0, .int .i64 0, .int .i64 0, .int .i64 0, .int .i64 0, .int .i64 0, .int .i64 0, .int .i64 0, .int .i64 0, .int .i64 0, .int .i64 0, .int .i64 0, .int .i64 0, .int .i64 0, .int .i64 0, .int .i64 0, .int .i64 0, .int .i64 0, .int .i64 0, .int .i64 0, .int .i64 0, .int .i64 0, .int .i64 0, .int .i64 0, .int .i64 0, .int .i64 0, .int .i64 0, .int .i64 0, .int .i64 0] 48)).put (2 * M.nb.size) 0 (.int .i64 4096) = some M1' ∧
    ∃ M2', M1'.put (2 * M.nb.size) 1 (.int .i64 4095) = some M2' ∧
    ∃ M3', M2'.put (2 * M.nb.size) 2 (.int .i64 4091) = some M3' ∧
    ∃ M4', M3'.put (2 * M.nb.size) 3 (.int .i64 4085) = some M4' ∧
    ∃ M5', M4'.put (2 * M.nb.size) 4 (.int .i64 4076) = some M5' ∧
    ∃ M6', M5'.put (2 * M.nb.size) 5 (.int .i64 4065) = some M6' ∧
    ∃ M7', M6'.put (2 * M.nb.size) 6 (.int .i64 4052) = some M7' ∧
    ∃ M8', M7'.put (2 * M.nb.size) 7 (.int .i64 4036) = some M8' ∧
    ∃ M9', M8'.put (2 * M.nb.size) 8 (.int .i64 4017) = some M9' ∧
    ∃ M10', M9'.put (2 * M.nb.size) 9 (.int .i64 3996) = some M10' ∧
    ∃ M11', M10'.put (2 * M.nb.size) 10 (.int .i64 3973) = some M11' ∧
    ∃ M12', M11'.put (2 * M.nb.size) 11 (.int .i64 3948) = some M12' ∧
    ∃ M13', M12'.put (2 * M.nb.size) 12 (.int .i64 3920) = some M13' ∧
    ∃ M14', M13'.put (2 * M.nb.size) 13 (.int .i64 3889) = some M14' ∧
    ∃ M15', M14'.put (2 * M.nb.size) 14 (.int .i64 3857) = some M15' ∧
    ∃ M16', M15'.put (2 * M.nb.size) 15 (.int .i64 3822) = some M16' ∧
    ∃ M17', M16'.put (2 * M.nb.size) 16 (.int .i64 3784) = some M17' ∧
    ∃ M18', M17'.put (2 * M.nb.size) 17 (.int .i64 3745) = some M18' ∧
    ∃ M19', M18'.put (2 * M.nb.size) 18 (.int .i64 3703) = some M19' ∧
    ∃ M20', M19'.put (2 * M.nb.size) 19 (.int .i64 3659) = some M20' ∧
    ∃ M21', M20'.put (2 * M.nb.size) 20 (.int .i64 3612) = some M21' ∧
    ∃ M22', M21'.put (2 * M.nb.size) 21 (.int .i64 3564) = some M22' ∧
    ∃ M23', M22'.put (2 * M.nb.size) 22 (.int .i64 3513) = some M23' ∧
    ∃ M24', M23'.put (2 * M.nb.size) 23 (.int .i64 3461) = some M24' ∧
    ∃ M25', M24'.put (2 * M.nb.size) 24 (.int .i64 3406) = some M25' ∧
    ∃ M26', M25'.put (2 * M.nb.size) 25 (.int .i64 3349) = some M26' ∧
    ∃ M27', M26'.put (2 * M.nb.size) 26 (.int .i64 3290) = some M27' ∧
    ∃ M28', M27'.put (2 * M.nb.size) 27 (.int .i64 3229) = some M28' ∧
    ∃ M29', M28'.put (2 * M.nb.size) 28 (.int .i64 3166) = some M29' ∧
    ∃ M30', M29'.put (2 * M.nb.size) 29 (.int .i64 3102) = some M30' ∧
    ∃ M31', M30'.put (2 * M.nb.size) 30 (.int .i64 3035) = some M31' ∧
    ∃ M32', M31'.put (2 * M.nb.size) 31 (.int .i64 2967) = some M32' ∧
    ∃ M33', M32'.put (2 * M.nb.size) 32 (.int .i64 2896) = some M33' ∧
    ∃ M34', M33'.put (2 * M.nb.size) 33 (.int .i64 2824) = some M34' ∧
    ∃ M35', M34'.put (2 * M.nb.size) 34 (.int .i64 2751) = some M35' ∧
    ∃ M36', M35'.put (2 * M.nb.size) 35 (.int .i64 2675) = some M36' ∧
    ∃ M37', M36'.put (2 * M.nb.size) 36 (.int .i64 2598) = some M37' ∧
    ∃ M38', M37'.put (2 * M.nb.size) 37 (.int .i64 2520) = some M38' ∧
    ∃ M39', M38'.put (2 * M.nb.size) 38 (.int .i64 2440) = some M39' ∧
    ∃ M40', M39'.put (2 * M.nb.size) 39 (.int .i64 2359) = some M40' ∧
    ∃ M41', M40'.put (2 * M.nb.size) 40 (.int .i64 2276) = some M41' ∧
    ∃ M42', M41'.put (2 * M.nb.size) 41 (.int .i64 2191) = some M42' ∧
    ∃ M43', M42'.put (2 * M.nb.size) 42 (.int .i64 2106) = some M43' ∧
    ∃ M44', M43'.put (2 * M.nb.size) 43 (.int .i64 2019) = some M44' ∧
    ∃ M45', M44'.put (2 * M.nb.size) 44 (.int .i64 1931) = some M45' ∧
    ∃ M46', M45'.put (2 * M.nb.size) 45 (.int .i64 1842) = some M46' ∧
    ∃ M47', M46'.put (2 * M.nb.size) 46 (.int .i64 1751) = some M47' ∧
    ∃ M48', M47'.put (2 * M.nb.size) 47 (.int .i64 1660) = some M48' ∧
    ∃ M49', M48'.put (2 * M.nb.size) 48 (.int .i64 1567) = some M49' ∧
    ∃ M50', M49'.put (2 * M.nb.size) 49 (.int .i64 1474) = some M50' ∧
    ∃ M51', M50'.put (2 * M.nb.size) 50 (.int .i64 1380) = some M51' ∧
    ∃ M52', M51'.put (2 * M.nb.size) 51 (.int .i64 1285) = some M52' ∧
    ∃ M53', M52'.put (2 * M.nb.size) 52 (.int .i64 1189) = some M53' ∧
    ∃ M54', M53'.put (2 * M.nb.size) 53 (.int .i64 1092) = some M54' ∧
    ∃ M55', M54'.put (2 * M.nb.size) 54 (.int .i64 995) = some M55' ∧
    ∃ M56', M55'.put (2 * M.nb.size) 55 (.int .i64 897) = some M56' ∧
    ∃ M57', M56'.put (2 * M.nb.size) 56 (.int .i64 799) = some M57' ∧
    ∃ M58', M57'.put (2 * M.nb.size) 57 (.int .i64 700) = some M58' ∧
    ∃ M59', M58'.put (2 * M.nb.size) 58 (.int .i64 601) = some M59' ∧
    ∃ M60', M59'.put (2 * M.nb.size) 59 (.int .i64 501) = some M60' ∧
    ∃ M61', M60'.put (2 * M.nb.size) 60 (.int .i64 401) = some M61' ∧
    ∃ M62', M61'.put (2 * M.nb.size) 61 (.int .i64 301) = some M62' ∧
    ∃ M63', M62'.put (2 * M.nb.size) 62 (.int .i64 201) = some M63' ∧
    ∃ M64', M63'.put (2 * M.nb.size) 63 (.int .i64 101) = some M64' ∧
    ∃ M65', M64'.put (2 * M.nb.size) 64 (.int .i64 0) = some M65' ∧
    (((x0.tmod 256) < 0 →
     (((IntKind.i64.wrap ((x0.tmod 256) + 256)) > 128 →
      (((IntKind.i64.wrap (256 - (IntKind.i64.wrap ((x0.tmod 256) + 256)))) > 64 →
       ∃ a66', idxA (some ⟨2 * M.nb.size, 0, none⟩) 65 1 (IntKind.i64.wrap (128 - (IntKind.i64.wrap (256 - (IntKind.i64.wrap ((x0.tmod 256) + 256)))))) = some a66' ∧
       ∃ x67', M65'.intAt .i64 a66'.block a66'.off = some x67' ∧
       Q (.int .i64 (IntKind.i64.wrap (0 - x67'))) M65') ∧
       (¬ ((IntKind.i64.wrap (256 - (IntKind.i64.wrap ((x0.tmod 256) + 256)))) > 64) →
       ∃ a68', idxA (some ⟨2 * M.nb.size, 0, none⟩) 65 1 (IntKind.i64.wrap (256 - (IntKind.i64.wrap ((x0.tmod 256) + 256)))) = some a68' ∧
       ∃ x69', M65'.intAt .i64 a68'.block a68'.off = some x69' ∧
       Q (.int .i64 (x69')) M65'))) ∧
      (¬ ((IntKind.i64.wrap ((x0.tmod 256) + 256)) > 128) →
      (((IntKind.i64.wrap ((x0.tmod 256) + 256)) > 64 →
       ∃ a70', idxA (some ⟨2 * M.nb.size, 0, none⟩) 65 1 (IntKind.i64.wrap (128 - (IntKind.i64.wrap ((x0.tmod 256) + 256)))) = some a70' ∧
       ∃ x71', M65'.intAt .i64 a70'.block a70'.off = some x71' ∧
       Q (.int .i64 (IntKind.i64.wrap (0 - x71'))) M65') ∧
       (¬ ((IntKind.i64.wrap ((x0.tmod 256) + 256)) > 64) →
       ∃ a72', idxA (some ⟨2 * M.nb.size, 0, none⟩) 65 1 (IntKind.i64.wrap ((x0.tmod 256) + 256)) = some a72' ∧
       ∃ x73', M65'.intAt .i64 a72'.block a72'.off = some x73' ∧
       Q (.int .i64 (x73')) M65'))))) ∧
     (¬ ((x0.tmod 256) < 0) →
     (((x0.tmod 256) > 128 →
      (((IntKind.i64.wrap (256 - (x0.tmod 256))) > 64 →
       ∃ a74', idxA (some ⟨2 * M.nb.size, 0, none⟩) 65 1 (IntKind.i64.wrap (128 - (IntKind.i64.wrap (256 - (x0.tmod 256))))) = some a74' ∧
       ∃ x75', M65'.intAt .i64 a74'.block a74'.off = some x75' ∧
       Q (.int .i64 (IntKind.i64.wrap (0 - x75'))) M65') ∧
       (¬ ((IntKind.i64.wrap (256 - (x0.tmod 256))) > 64) →
       ∃ a76', idxA (some ⟨2 * M.nb.size, 0, none⟩) 65 1 (IntKind.i64.wrap (256 - (x0.tmod 256))) = some a76' ∧
       ∃ x77', M65'.intAt .i64 a76'.block a76'.off = some x77' ∧
       Q (.int .i64 (x77')) M65'))) ∧
      (¬ ((x0.tmod 256) > 128) →
      (((x0.tmod 256) > 64 →
       ∃ a78', idxA (some ⟨2 * M.nb.size, 0, none⟩) 65 1 (IntKind.i64.wrap (128 - (x0.tmod 256))) = some a78' ∧
       ∃ x79', M65'.intAt .i64 a78'.block a78'.off = some x79' ∧
       Q (.int .i64 (IntKind.i64.wrap (0 - x79'))) M65') ∧
       (¬ ((x0.tmod 256) > 64) →
       ∃ a80', idxA (some ⟨2 * M.nb.size, 0, none⟩) 65 1 (x0.tmod 256) = some a80' ∧
       ∃ x81', M65'.intAt .i64 a80'.block a80'.off = some x81' ∧
       Q (.int .i64 (x81')) M65'))))))) :
    Cn Try.prog 22 #[.int .i64 x0] M Q := by
  refine Cn.of b22 d22 t22 ?_
  refine Rn.seq k22_0 (Rn.region k22_1 (fun call K => r22_0) (Rch.leaf (Rn.seq k22_2 (Rn.region k22_3 (fun call K => r22_1) (Rch.ex H fun M1' H => Rch.ex H fun M2' H => Rch.ex H fun M3' H => Rch.ex H fun M4' H => Rch.ex H fun M5' H => Rch.ex H fun M6' H => Rch.ex H fun M7' H => ?_)))))
  refine Rch.ex H fun M8' H => Rch.ex H fun M9' H => Rch.ex H fun M10' H => Rch.ex H fun M11' H => Rch.ex H fun M12' H => Rch.ex H fun M13' H => Rch.ex H fun M14' H => Rch.ex H fun M15' H => Rch.ex H fun M16' H => Rch.ex H fun M17' H => Rch.ex H fun M18' H => Rch.ex H fun M19' H => ?_
  refine Rch.ex H fun M20' H => Rch.ex H fun M21' H => Rch.ex H fun M22' H => Rch.ex H fun M23' H => Rch.ex H fun M24' H => Rch.ex H fun M25' H => Rch.ex H fun M26' H => Rch.ex H fun M27' H => Rch.ex H fun M28' H => Rch.ex H fun M29' H => Rch.ex H fun M30' H => Rch.ex H fun M31' H => ?_
  refine Rch.ex H fun M32' H => Rch.ex H fun M33' H => Rch.ex H fun M34' H => Rch.ex H fun M35' H => Rch.ex H fun M36' H => Rch.ex H fun M37' H => Rch.ex H fun M38' H => Rch.ex H fun M39' H => Rch.ex H fun M40' H => Rch.ex H fun M41' H => Rch.ex H fun M42' H => Rch.ex H fun M43' H => ?_
  refine Rch.ex H fun M44' H => Rch.ex H fun M45' H => Rch.ex H fun M46' H => Rch.ex H fun M47' H => Rch.ex H fun M48' H => Rch.ex H fun M49' H => Rch.ex H fun M50' H => Rch.ex H fun M51' H => Rch.ex H fun M52' H => Rch.ex H fun M53' H => Rch.ex H fun M54' H => Rch.ex H fun M55' H => ?_
  refine Rch.ex H fun M56' H => Rch.ex H fun M57' H => Rch.ex H fun M58' H => Rch.ex H fun M59' H => Rch.ex H fun M60' H => Rch.ex H fun M61' H => Rch.ex H fun M62' H => Rch.ex H fun M63' H => Rch.ex H fun M64' H => Rch.ex H fun M65' H => Rch.leaf (Rn.seq k22_4 ?_)
  refine Rn.region k22_5 (fun call K => r22_2) (Rch.leaf (Rn.seq k22_6 (Rn.seq k22_7 (Rn.region k22_8 (fun call K => r22_3) (Rch.leaf ?_)))))
  refine Rn.cnd (v := decide ((x0.tmod 256) < 0)) ⟨c22_9, rfl, by kernel_rfl⟩ (fun h => ?_) (fun h => ?_)
  · replace H := H.1 (of_decide_eq_true h)
    refine Rn.region k22_10 (fun call K => r22_4) (Rch.leaf (Rn.seq k22_11 (Rn.seq k22_12 (Rn.region k22_13 (fun call K => r22_5) (Rch.leaf ?_)))))
    refine Rn.cnd (v := decide ((IntKind.i64.wrap ((x0.tmod 256) + 256)) > 128)) ⟨c22_14, rfl, by kernel_rfl⟩ (fun h => ?_) (fun h => ?_)
    · replace H := H.1 (of_decide_eq_true h)
      refine Rn.region k22_15 (fun call K => r22_6) (Rch.leaf (Rn.seq k22_16 (Rn.seq k22_17 (Rn.region k22_18 (fun call K => r22_7) (Rch.leaf ?_)))))
      refine Rn.cnd (v := decide ((IntKind.i64.wrap (256 - (IntKind.i64.wrap ((x0.tmod 256) + 256)))) > 64)) ⟨c22_19, rfl, by kernel_rfl⟩ (fun h => ?_) (fun h => ?_)
      · replace H := H.1 (of_decide_eq_true h)
        refine Rn.seq k22_20 (Rn.region k22_21 (fun call K => r22_8) (Rch.ex H fun a66' H => Rch.ex H fun x67' H => Rch.leaf ?_))
        exact Rn.ret k22_22 e22 H
      · replace H := H.2 (of_decide_eq_false h)
        refine Rn.skip k22_24 (Rn.seq k22_25 (Rn.region k22_26 (fun call K => r22_9) (Rch.ex H fun a68' H => Rch.ex H fun x69' H => Rch.leaf ?_)))
        exact Rn.ret k22_27 e22 H
    · replace H := H.2 (of_decide_eq_false h)
      refine Rn.skip k22_28 (Rn.seq k22_16 (Rn.seq k22_17 (Rn.region k22_18 (fun call K => r22_7) (Rch.leaf ?_))))
      refine Rn.cnd (v := decide ((IntKind.i64.wrap ((x0.tmod 256) + 256)) > 64)) ⟨c22_19, rfl, by kernel_rfl⟩ (fun h => ?_) (fun h => ?_)
      · replace H := H.1 (of_decide_eq_true h)
        refine Rn.seq k22_20 (Rn.region k22_21 (fun call K => r22_8) (Rch.ex H fun a70' H => Rch.ex H fun x71' H => Rch.leaf ?_))
        exact Rn.ret k22_22 e22 H
      · replace H := H.2 (of_decide_eq_false h)
        refine Rn.skip k22_24 (Rn.seq k22_25 (Rn.region k22_26 (fun call K => r22_9) (Rch.ex H fun a72' H => Rch.ex H fun x73' H => Rch.leaf ?_)))
        exact Rn.ret k22_27 e22 H
  · replace H := H.2 (of_decide_eq_false h)
    refine Rn.skip k22_29 (Rn.seq k22_11 (Rn.seq k22_12 (Rn.region k22_13 (fun call K => r22_5) (Rch.leaf ?_))))
    refine Rn.cnd (v := decide ((x0.tmod 256) > 128)) ⟨c22_14, rfl, by kernel_rfl⟩ (fun h => ?_) (fun h => ?_)
    · replace H := H.1 (of_decide_eq_true h)
      refine Rn.region k22_15 (fun call K => r22_6) (Rch.leaf (Rn.seq k22_16 (Rn.seq k22_17 (Rn.region k22_18 (fun call K => r22_7) (Rch.leaf ?_)))))
      refine Rn.cnd (v := decide ((IntKind.i64.wrap (256 - (x0.tmod 256))) > 64)) ⟨c22_19, rfl, by kernel_rfl⟩ (fun h => ?_) (fun h => ?_)
      · replace H := H.1 (of_decide_eq_true h)
        refine Rn.seq k22_20 (Rn.region k22_21 (fun call K => r22_8) (Rch.ex H fun a74' H => Rch.ex H fun x75' H => Rch.leaf ?_))
        exact Rn.ret k22_22 e22 H
      · replace H := H.2 (of_decide_eq_false h)
        refine Rn.skip k22_24 (Rn.seq k22_25 (Rn.region k22_26 (fun call K => r22_9) (Rch.ex H fun a76' H => Rch.ex H fun x77' H => Rch.leaf ?_)))
        exact Rn.ret k22_27 e22 H
    · replace H := H.2 (of_decide_eq_false h)
      refine Rn.skip k22_28 (Rn.seq k22_16 (Rn.seq k22_17 (Rn.region k22_18 (fun call K => r22_7) (Rch.leaf ?_))))
      refine Rn.cnd (v := decide ((x0.tmod 256) > 64)) ⟨c22_19, rfl, by kernel_rfl⟩ (fun h => ?_) (fun h => ?_)
      · replace H := H.1 (of_decide_eq_true h)
        refine Rn.seq k22_20 (Rn.region k22_21 (fun call K => r22_8) (Rch.ex H fun a78' H => Rch.ex H fun x79' H => Rch.leaf ?_))
        exact Rn.ret k22_22 e22 H
      · replace H := H.2 (of_decide_eq_false h)
        refine Rn.skip k22_24 (Rn.seq k22_25 (Rn.region k22_26 (fun call K => r22_9) (Rch.ex H fun a80' H => Rch.ex H fun x81' H => Rch.leaf ?_)))
        exact Rn.ret k22_27 e22 H


/-! ### zoetrope/zoetroperef00.CopyInts: function 23 -/
noncomputable abbrev P23 (p : List Nat) : Code := subC (codeOf Try.f23) p
noncomputable abbrev O23 (p : List Nat) : Array Oper := opsOf (subC (codeOf Try.f23) p)
theorem b23 : Try.prog.funcs[23]? = some Try.f23 ∧ (Orc.tab Try.prog).lookup 23 = none := ⟨by kernel_rfl, by kernel_rfl⟩
theorem d23 : Try.f23.body = some (P23 []) := by kernel_rfl
theorem t23 {Ax0 : Option Addr} {lx0 cx0 : Nat} : #[.slice Ax0 lx0 cx0] ++ Array.replicate (Try.f23.ntmps - (#[.slice Ax0 lx0 cx0] : Array Value).size) undef = #[.slice Ax0 lx0 cx0,undef,undef,undef,undef,undef,undef,undef] := by kernel_rfl
theorem k23_0 : P23 [] = .seq (P23 [0]) (P23 [1]) := by kernel_rfl
theorem k23_1 : P23 [0] = .region 0 (O23 [0]) false := by kernel_rfl
theorem r23_0 {M : Mem} {call : CallM} {K : Array Value → Mem → R} :
    opsK Try.prog (fun _ => call) (O23 [0]) (O23 [0]).toList 0 #[g0,g1,g2,g3,g4,g5,g6,g7] M K = K #[g0,g1,.slice none 0 0,g3,g4,g5,g6,g7] M := by kernel_rfl
theorem k23_2 : P23 [1] = .seq (P23 [1,0]) (P23 [1,1]) := by kernel_rfl
theorem k23_3 : P23 [1,0] = .region 1 (O23 [1,0]) false := by kernel_rfl
theorem r23_1 {M : Mem} {call : CallM} {K : Array Value → Mem → R} :
    opsK Try.prog (fun _ => call) (O23 [1,0]) (O23 [1,0]).toList 0 #[g0,g1,g2,g3,g4,g5,g6,g7] M K = K #[g0,g1,g2,.slice none 0 0,g4,g5,g6,g7] M := by kernel_rfl
theorem k23_4 : P23 [1,1] = .seq (P23 [1,1,0]) (P23 [1,1,1]) := by kernel_rfl
theorem k23_5 : P23 [1,1,0] = .region 2 (O23 [1,1,0]) false := by kernel_rfl
theorem r23_2 {Ax0 : Option Addr} {lx0 cx0 : Nat} {Ax3 : Option Addr} {lx3 cx3 : Nat} {M : Mem} {call : CallM} {K : Array Value → Mem → R} :
    opsK Try.prog (fun _ => call) (O23 [1,1,0]) (O23 [1,1,0]).toList 0 #[.slice Ax0 lx0 cx0,g1,g2,.slice Ax3 lx3 cx3,g4,g5,g6,g7] M K = (appendP Try.prog #[22, 22] (.slice Ax3 lx3 cx3) (.slice Ax0 lx0 cx0) M).bind fun r_1 => (asS r_1.1).bind fun s_2 => K #[.slice Ax0 lx0 cx0,g1,g2,.slice s_2.1 (s_2.2.1) (s_2.2.2),.slice Ax3 lx3 cx3,.slice Ax0 lx0 cx0,.slice s_2.1 (s_2.2.1) (s_2.2.2),g7] r_1.2 := by kernel_rfl
theorem k23_6 : P23 [1,1,1] = .seq (P23 [1,1,1,0]) (P23 [1,1,1,1]) := by kernel_rfl
theorem k23_7 : P23 [1,1,1,0] = .region 3 (O23 [1,1,1,0]) false := by kernel_rfl
theorem r23_3 {Ax3 : Option Addr} {lx3 cx3 : Nat} {M : Mem} {call : CallM} {K : Array Value → Mem → R} :
    opsK Try.prog (fun _ => call) (O23 [1,1,1,0]) (O23 [1,1,1,0]).toList 0 #[g0,g1,g2,.slice Ax3 lx3 cx3,g4,g5,g6,g7] M K = K #[g0,g1,.slice Ax3 lx3 cx3,.slice Ax3 lx3 cx3,g4,g5,g6,.slice Ax3 lx3 cx3] M := by kernel_rfl
theorem k23_8 : P23 [1,1,1,1] = .ret := by kernel_rfl
theorem e23 {M : Mem} : finish Try.prog Try.f23 #[g0,g1,g2,g3,g4,g5,g6,g7] M = some (g2, M) := by kernel_rfl
theorem w23_0 {Ax0 : Option Addr} {lx0 cx0 : Nat} {M : Mem} {Q : Value → Mem → Prop} (H :
    ∃ r1', appendP Try.prog #[22, 22] (.slice none 0 0) (.slice Ax0 lx0 cx0) M = some r1' ∧
    ∃ s2', asS r1'.1 = some s2' ∧
    Q (.slice s2'.1 (s2'.2.1) (s2'.2.2)) r1'.2) :
    Cn Try.prog 23 #[.slice Ax0 lx0 cx0] M Q := by
  refine Cn.of b23 d23 t23 ?_
  refine Rn.seq k23_0 (Rn.region k23_1 (fun call K => r23_0) (Rch.leaf (Rn.seq k23_2 (Rn.region k23_3 (fun call K => r23_1) (Rch.leaf (Rn.seq k23_4 (Rn.region k23_5 (fun call K => r23_2) (Rch.ex H fun r1' H => Rch.ex H fun s2' H => Rch.leaf (Rn.seq k23_6 ?_)))))))))
  refine Rn.region k23_7 (fun call K => r23_3) (Rch.leaf ?_)
  exact Rn.ret k23_8 e23 H


end Go.Zt
