/- The functions' walks: for each function and each loop a rule of what it comes to. Printed by zw.py. -/
import Derived.Test.YtbbdggpfhcgbpaaProg
import Derived.Test.YtbbdggpfhcgbpaaZcA
set_option linter.unusedVariables false
set_option maxRecDepth 100000
namespace Go.Zt
open Go Go.Sim Go.Proofs

variable {g0 g1 g2 g3 g4 g5 g6 g7 g8 g9 g10 g11 g12 g13 g14 g15 g16 g17 g18 g19 g20 g21 g22 g23 g24 g25 g26 g27 g28 g29 g30 g31 g32 g33 g34 g35 g36 g37 g38 g39 g40 g41 g42 g43 g44 g45 g46 g47 g48 g49 g50 g51 g52 g53 g54 g55 g56 g57 g58 g59 g60 g61 g62 g63 g64 g65 g66 g67 g68 g69 g70 : Value}
/-! ### zoetrope/zoetropelaw19.UnitsGroups: function 5 -/
noncomputable abbrev P5 (p : List Nat) : Code := subC (codeOf Try.f5) p
noncomputable abbrev O5 (p : List Nat) : Array Oper := opsOf (subC (codeOf Try.f5) p)
theorem b5 : Try.prog.funcs[5]? = some Try.f5 ∧ (Orc.tab Try.prog).lookup 5 = none := ⟨by kernel_rfl, by kernel_rfl⟩
theorem d5 : Try.f5.body = some (P5 []) := by kernel_rfl
theorem t5 {Ax0 : Option Addr} {lx0 cx0 : Nat} : #[.slice Ax0 lx0 cx0] ++ Array.replicate (Try.f5.ntmps - (#[.slice Ax0 lx0 cx0] : Array Value).size) undef = #[.slice Ax0 lx0 cx0,undef,undef,undef,undef,undef,undef,undef,undef,undef,undef,undef,undef,undef,undef,undef,undef,undef,undef,undef,undef,undef,undef,undef,undef,undef,undef,undef,undef,undef,undef,undef,undef,undef,undef,undef,undef,undef,undef,undef,undef,undef,undef,undef,undef,undef,undef,undef,undef,undef,undef,undef,undef,undef,undef,undef,undef,undef,undef,undef,undef,undef,undef,undef,undef,undef,undef,undef,undef,undef,undef] := by kernel_rfl
theorem k5_0 : P5 [] = .seq (P5 [0]) (P5 [1]) := by kernel_rfl
theorem k5_1 : P5 [0] = .region 0 (O5 [0]) false := by kernel_rfl
theorem r5_0 {M : Mem} {call : CallM} {K : Array Value → Mem → R} :
    opsK Try.prog (fun _ => call) (O5 [0]) (O5 [0]).toList 0 #[g0,g1,g2,g3,g4,g5,g6,g7,g8,g9,g10,g11,g12,g13,g14,g15,g16,g17,g18,g19,g20,g21,g22,g23,g24,g25,g26,g27,g28,g29,g30,g31,g32,g33,g34,g35,g36,g37,g38,g39,g40,g41,g42,g43,g44,g45,g46,g47,g48,g49,g50,g51,g52,g53,g54,g55,g56,g57,g58,g59,g60,g61,g62,g63,g64,g65,g66,g67,g68,g69,g70] M K = K #[g0,g1,.bool false,g3,g4,g5,g6,g7,g8,g9,g10,g11,g12,g13,g14,g15,g16,g17,g18,g19,g20,g21,g22,g23,g24,g25,g26,g27,g28,g29,g30,g31,g32,g33,g34,g35,g36,g37,g38,g39,g40,g41,g42,g43,g44,g45,g46,g47,g48,g49,g50,g51,g52,g53,g54,g55,g56,g57,g58,g59,g60,g61,g62,g63,g64,g65,g66,g67,g68,g69,g70] M := by kernel_rfl
theorem k5_2 : P5 [1] = .seq (P5 [1,0]) (P5 [1,1]) := by kernel_rfl
theorem k5_3 : P5 [1,0] = .region 1 (O5 [1,0]) false := by kernel_rfl
theorem r5_1 {Ax0 : Option Addr} {lx0 cx0 : Nat} {M : Mem} {call : CallM} {K : Array Value → Mem → R} :
    opsK Try.prog (fun _ => call) (O5 [1,0]) (O5 [1,0]).toList 0 #[.slice Ax0 lx0 cx0,g1,g2,g3,g4,g5,g6,g7,g8,g9,g10,g11,g12,g13,g14,g15,g16,g17,g18,g19,g20,g21,g22,g23,g24,g25,g26,g27,g28,g29,g30,g31,g32,g33,g34,g35,g36,g37,g38,g39,g40,g41,g42,g43,g44,g45,g46,g47,g48,g49,g50,g51,g52,g53,g54,g55,g56,g57,g58,g59,g60,g61,g62,g63,g64,g65,g66,g67,g68,g69,g70] M K = (call 17 #[.slice Ax0 lx0 cx0] M).bind fun r_1 => (asS r_1.1).bind fun s_2 => K #[.slice Ax0 lx0 cx0,g1,g2,.slice s_2.1 (s_2.2.1) (s_2.2.2),g4,g5,g6,g7,g8,g9,g10,.slice Ax0 lx0 cx0,.slice s_2.1 (s_2.2.1) (s_2.2.2),g13,g14,g15,g16,g17,g18,g19,g20,g21,g22,g23,g24,g25,g26,g27,g28,g29,g30,g31,g32,g33,g34,g35,g36,g37,g38,g39,g40,g41,g42,g43,g44,g45,g46,g47,g48,g49,g50,g51,g52,g53,g54,g55,g56,g57,g58,g59,g60,g61,g62,g63,g64,g65,g66,g67,g68,g69,g70] r_1.2 := by kernel_rfl
theorem k5_4 : P5 [1,1] = .seq (P5 [1,1,0]) (P5 [1,1,1]) := by kernel_rfl
theorem k5_5 : P5 [1,1,0] = .region 2 (O5 [1,1,0]) false := by kernel_rfl
theorem r5_2 {Ax3 : Option Addr} {lx3 cx3 : Nat} {M : Mem} {call : CallM} {K : Array Value → Mem → R} :
    opsK Try.prog (fun _ => call) (O5 [1,1,0]) (O5 [1,1,0]).toList 0 #[g0,g1,g2,.slice Ax3 lx3 cx3,g4,g5,g6,g7,g8,g9,g10,g11,g12,g13,g14,g15,g16,g17,g18,g19,g20,g21,g22,g23,g24,g25,g26,g27,g28,g29,g30,g31,g32,g33,g34,g35,g36,g37,g38,g39,g40,g41,g42,g43,g44,g45,g46,g47,g48,g49,g50,g51,g52,g53,g54,g55,g56,g57,g58,g59,g60,g61,g62,g63,g64,g65,g66,g67,g68,g69,g70] M K = (call 20 #[.slice Ax3 lx3 cx3] M).bind fun r_1 => (asU 2 r_1.1).bind fun cs_2 => (asS (cs_2.getD 0 undef)).bind fun s_3 => (asI .i64 (cs_2.getD 1 undef)).bind fun x_4 => K #[g0,g1,g2,.slice Ax3 lx3 cx3,.slice s_3.1 (s_3.2.1) (s_3.2.2),.int .i64 x_4,g6,g7,g8,g9,g10,g11,g12,.tuple #[.slice s_3.1 (s_3.2.1) (s_3.2.2), .int .i64 x_4],.slice Ax3 lx3 cx3,.tuple #[.slice s_3.1 (s_3.2.1) (s_3.2.2), .int .i64 x_4],.slice s_3.1 (s_3.2.1) (s_3.2.2),.int .i64 x_4,g18,g19,g20,g21,g22,g23,g24,g25,g26,g27,g28,g29,g30,g31,g32,g33,g34,g35,g36,g37,g38,g39,g40,g41,g42,g43,g44,g45,g46,g47,g48,g49,g50,g51,g52,g53,g54,g55,g56,g57,g58,g59,g60,g61,g62,g63,g64,g65,g66,g67,g68,g69,g70] r_1.2 := by kernel_rfl
theorem k5_6 : P5 [1,1,1] = .seq (P5 [1,1,1,0]) (P5 [1,1,1,1]) := by kernel_rfl
theorem k5_7 : P5 [1,1,1,0] = .region 3 (O5 [1,1,1,0]) false := by kernel_rfl
theorem r5_3 {Ax0 : Option Addr} {lx0 cx0 : Nat} {M : Mem} {call : CallM} {K : Array Value → Mem → R} :
    opsK Try.prog (fun _ => call) (O5 [1,1,1,0]) (O5 [1,1,1,0]).toList 0 #[.slice Ax0 lx0 cx0,g1,g2,g3,g4,g5,g6,g7,g8,g9,g10,g11,g12,g13,g14,g15,g16,g17,g18,g19,g20,g21,g22,g23,g24,g25,g26,g27,g28,g29,g30,g31,g32,g33,g34,g35,g36,g37,g38,g39,g40,g41,g42,g43,g44,g45,g46,g47,g48,g49,g50,g51,g52,g53,g54,g55,g56,g57,g58,g59,g60,g61,g62,g63,g64,g65,g66,g67,g68,g69,g70] M K = (call 21 #[.slice Ax0 lx0 cx0] M).bind fun r_1 => (asU 2 r_1.1).bind fun cs_2 => (asS (cs_2.getD 0 undef)).bind fun s_3 => (asI .i64 (cs_2.getD 1 undef)).bind fun x_4 => K #[.slice Ax0 lx0 cx0,g1,g2,g3,g4,g5,.slice s_3.1 (s_3.2.1) (s_3.2.2),.int .i64 x_4,g8,g9,g10,g11,g12,g13,g14,g15,g16,g17,.tuple #[.slice s_3.1 (s_3.2.1) (s_3.2.2), .int .i64 x_4],.slice Ax0 lx0 cx0,.tuple #[.slice s_3.1 (s_3.2.1) (s_3.2.2), .int .i64 x_4],.slice s_3.1 (s_3.2.1) (s_3.2.2),.int .i64 x_4,g23,g24,g25,g26,g27,g28,g29,g30,g31,g32,g33,g34,g35,g36,g37,g38,g39,g40,g41,g42,g43,g44,g45,g46,g47,g48,g49,g50,g51,g52,g53,g54,g55,g56,g57,g58,g59,g60,g61,g62,g63,g64,g65,g66,g67,g68,g69,g70] r_1.2 := by kernel_rfl
theorem k5_8 : P5 [1,1,1,1] = .seq (P5 [1,1,1,1,0]) (P5 [1,1,1,1,1]) := by kernel_rfl
theorem k5_9 : P5 [1,1,1,1,0] = .region 4 (O5 [1,1,1,1,0]) false := by kernel_rfl
theorem r5_4 {Ax4 : Option Addr} {lx4 cx4 : Nat} {x5 : Int} {Ax6 : Option Addr} {lx6 cx6 : Nat} {x7 : Int} {M : Mem} {call : CallM} {K : Array Value → Mem → R} :
    opsK Try.prog (fun _ => call) (O5 [1,1,1,1,0]) (O5 [1,1,1,1,0]).toList 0 #[g0,g1,g2,g3,.slice Ax4 lx4 cx4,.int .i64 x5,.slice Ax6 lx6 cx6,.int .i64 x7,g8,g9,g10,g11,g12,g13,g14,g15,g16,g17,g18,g19,g20,g21,g22,g23,g24,g25,g26,g27,g28,g29,g30,g31,g32,g33,g34,g35,g36,g37,g38,g39,g40,g41,g42,g43,g44,g45,g46,g47,g48,g49,g50,g51,g52,g53,g54,g55,g56,g57,g58,g59,g60,g61,g62,g63,g64,g65,g66,g67,g68,g69,g70] M K = withK (fun w8 w28 w29 w30 w31 w32 M => K #[g0,g1,g2,g3,.slice Ax4 lx4 cx4,.int .i64 x5,.slice Ax6 lx6 cx6,.int .i64 x7,w8,g9,g10,g11,g12,g13,g14,g15,g16,g17,g18,g19,g20,g21,g22,.slice Ax4 lx4 cx4,.int .i64 ((lx4 : Int)),.slice Ax6 lx6 cx6,.int .i64 ((lx6 : Int)),.bool (((lx4 : Int)) == ((lx6 : Int))),w28,w29,w30,w31,w32,g33,g34,g35,g36,g37,g38,g39,g40,g41,g42,g43,g44,g45,g46,g47,g48,g49,g50,g51,g52,g53,g54,g55,g56,g57,g58,g59,g60,g61,g62,g63,g64,g65,g66,g67,g68,g69,g70] M) fun k => cond (((lx4 : Int)) == ((lx6 : Int))) (k (.bool (x5 == x7)) (.bool true) (.int .i64 x5) (.int .i64 x7) (.bool (x5 == x7)) (.bool (x5 == x7)) M) (k (.bool false) (.bool false) undef undef undef (.bool false) M) := by kernel_rfl
theorem k5_10 : P5 [1,1,1,1,1] = .seq (P5 [1,1,1,1,1,0]) (P5 [1,1,1,1,1,1]) := by kernel_rfl
theorem k5_11 : P5 [1,1,1,1,1,0] = .seq (P5 [1,1,1,1,1,0,0]) (P5 [1,1,1,1,1,0,1]) := by kernel_rfl
theorem k5_12 : P5 [1,1,1,1,1,0,0] = .region 5 (O5 [1,1,1,1,1,0,0]) false := by kernel_rfl
theorem r5_5 {M : Mem} {call : CallM} {K : Array Value → Mem → R} :
    opsK Try.prog (fun _ => call) (O5 [1,1,1,1,1,0,0]) (O5 [1,1,1,1,1,0,0]).toList 0 #[g0,g1,g2,g3,g4,g5,g6,g7,g8,g9,g10,g11,g12,g13,g14,g15,g16,g17,g18,g19,g20,g21,g22,g23,g24,g25,g26,g27,g28,g29,g30,g31,g32,g33,g34,g35,g36,g37,g38,g39,g40,g41,g42,g43,g44,g45,g46,g47,g48,g49,g50,g51,g52,g53,g54,g55,g56,g57,g58,g59,g60,g61,g62,g63,g64,g65,g66,g67,g68,g69,g70] M K = K #[g0,g1,g2,g3,g4,g5,g6,g7,g8,.int .i64 0,g10,g11,g12,g13,g14,g15,g16,g17,g18,g19,g20,g21,g22,g23,g24,g25,g26,g27,g28,g29,g30,g31,g32,g33,g34,g35,g36,g37,g38,g39,g40,g41,g42,g43,g44,g45,g46,g47,g48,g49,g50,g51,g52,g53,g54,g55,g56,g57,g58,g59,g60,g61,g62,g63,g64,g65,g66,g67,g68,g69,g70] M := by kernel_rfl
theorem k5_13 : P5 [1,1,1,1,1,0,1] = .block 0 (P5 [1,1,1,1,1,0,1,0]) := by kernel_rfl
theorem k5_14 : P5 [1,1,1,1,1,0,1,0] = .loop (P5 [1,1,1,1,1,0,1,0,0]) := by kernel_rfl
theorem k5_15 : P5 [1,1,1,1,1,0,1,0,0] = .seq (P5 [1,1,1,1,1,0,1,0,0,0]) (P5 [1,1,1,1,1,0,1,0,0,1]) := by kernel_rfl
theorem k5_16 : P5 [1,1,1,1,1,0,1,0,0,0] = .seq (P5 [1,1,1,1,1,0,1,0,0,0,0]) (P5 [1,1,1,1,1,0,1,0,0,0,1]) := by kernel_rfl
theorem k5_17 : P5 [1,1,1,1,1,0,1,0,0,0,0] = .region 6 (O5 [1,1,1,1,1,0,1,0,0,0,0]) false := by kernel_rfl
theorem r5_6 {Ax4 : Option Addr} {lx4 cx4 : Nat} {x8 : Bool} {x9 : Int} {M : Mem} {call : CallM} {K : Array Value → Mem → R} :
    opsK Try.prog (fun _ => call) (O5 [1,1,1,1,1,0,1,0,0,0,0]) (O5 [1,1,1,1,1,0,1,0,0,0,0]).toList 0 #[g0,g1,g2,g3,.slice Ax4 lx4 cx4,g5,g6,g7,.bool x8,.int .i64 x9,g10,g11,g12,g13,g14,g15,g16,g17,g18,g19,g20,g21,g22,g23,g24,g25,g26,g27,g28,g29,g30,g31,g32,g33,g34,g35,g36,g37,g38,g39,g40,g41,g42,g43,g44,g45,g46,g47,g48,g49,g50,g51,g52,g53,g54,g55,g56,g57,g58,g59,g60,g61,g62,g63,g64,g65,g66,g67,g68,g69,g70] M K = withK (fun w37 w38 w39 M => K #[g0,g1,g2,g3,.slice Ax4 lx4 cx4,g5,g6,g7,.bool x8,.int .i64 x9,g10,g11,g12,g13,g14,g15,g16,g17,g18,g19,g20,g21,g22,g23,g24,g25,g26,g27,g28,g29,g30,g31,g32,.int .i64 x9,.slice Ax4 lx4 cx4,.int .i64 ((lx4 : Int)),.bool (decide (x9 < ((lx4 : Int)))),w37,w38,w39,g40,g41,g42,g43,g44,g45,g46,g47,g48,g49,g50,g51,g52,g53,g54,g55,g56,g57,g58,g59,g60,g61,g62,g63,g64,g65,g66,g67,g68,g69,g70] M) fun k => cond (decide (x9 < ((lx4 : Int)))) (k (.bool true) (.bool x8) (.bool x8) M) (k (.bool false) undef (.bool false) M) := by kernel_rfl
theorem c5_18 : P5 [1,1,1,1,1,0,1,0,0,0,1] = .cond (.tmp 39) (P5 [1,1,1,1,1,0,1,0,0,0,1,0]) (P5 [1,1,1,1,1,0,1,0,0,0,1,1]) := by kernel_rfl
theorem k5_19 : P5 [1,1,1,1,1,0,1,0,0,0,1,0] = .skip := by kernel_rfl
theorem k5_20 : P5 [1,1,1,1,1,0,1,0,0,1] = .seq (P5 [1,1,1,1,1,0,1,0,0,1,0]) (P5 [1,1,1,1,1,0,1,0,0,1,1]) := by kernel_rfl
theorem k5_21 : P5 [1,1,1,1,1,0,1,0,0,1,0] = .block 1 (P5 [1,1,1,1,1,0,1,0,0,1,0,0]) := by kernel_rfl
theorem k5_22 : P5 [1,1,1,1,1,0,1,0,0,1,0,0] = .region 8 (O5 [1,1,1,1,1,0,1,0,0,1,0,0]) true ∧ drawOk (O5 [1,1,1,1,1,0,1,0,0,1,0,0]) = true := ⟨by kernel_rfl, by kernel_rfl⟩
theorem r5_8 {Ax4 : Option Addr} {lx4 cx4 : Nat} {Ax6 : Option Addr} {lx6 cx6 : Nat} {x9 : Int} {M : Mem} {call : CallM} {K : Array Value → Mem → R} :
    opsI Try.prog (callAt call (O5 [1,1,1,1,1,0,1,0,0,1,0,0])) (O5 [1,1,1,1,1,0,1,0,0,1,0,0]) (ordOf (O5 [1,1,1,1,1,0,1,0,0,1,0,0])) [] #[g0,g1,g2,g3,.slice Ax4 lx4 cx4,g5,.slice Ax6 lx6 cx6,g7,g8,.int .i64 x9,g10,g11,g12,g13,g14,g15,g16,g17,g18,g19,g20,g21,g22,g23,g24,g25,g26,g27,g28,g29,g30,g31,g32,g33,g34,g35,g36,g37,g38,g39,g40,g41,g42,g43,g44,g45,g46,g47,g48,g49,g50,g51,g52,g53,g54,g55,g56,g57,g58,g59,g60,g61,g62,g63,g64,g65,g66,g67,g68,g69,g70] M K = (idxA Ax4 lx4 1 x9).bind fun a_1 => (M.slAt a_1.block a_1.off).bind fun s_2 => (idxA Ax6 lx6 1 x9).bind fun a_3 => (M.slAt a_3.block a_3.off).bind fun s_4 => (call 13 #[.slice s_2.1 (s_2.2.1) (s_2.2.2), .slice s_4.1 (s_4.2.1) (s_4.2.2)] M).bind fun r_5 => (asB r_5.1).bind fun b_6 => K #[g0,g1,g2,g3,.slice Ax4 lx4 cx4,g5,.slice Ax6 lx6 cx6,g7,.bool b_6,.int .i64 x9,g10,g11,g12,g13,g14,g15,g16,g17,g18,g19,g20,g21,g22,g23,g24,g25,g26,g27,g28,g29,g30,g31,g32,g33,g34,g35,g36,g37,g38,g39,g40,g41,.slice Ax4 lx4 cx4,.int .i64 x9,.pointer (some a_1),.slice s_2.1 (s_2.2.1) (s_2.2.2),.slice Ax6 lx6 cx6,.int .i64 x9,.pointer (some a_3),.slice s_4.1 (s_4.2.1) (s_4.2.2),.bool b_6,g51,g52,g53,g54,g55,g56,g57,g58,g59,g60,g61,g62,g63,g64,g65,g66,g67,g68,g69,g70] r_5.2 := by kernel_rfl
theorem k5_23 : P5 [1,1,1,1,1,0,1,0,0,1,1] = .region 7 (O5 [1,1,1,1,1,0,1,0,0,1,1]) false := by kernel_rfl
theorem r5_7 {x9 : Int} {M : Mem} {call : CallM} {K : Array Value → Mem → R} :
    opsK Try.prog (fun _ => call) (O5 [1,1,1,1,1,0,1,0,0,1,1]) (O5 [1,1,1,1,1,0,1,0,0,1,1]).toList 0 #[g0,g1,g2,g3,g4,g5,g6,g7,g8,.int .i64 x9,g10,g11,g12,g13,g14,g15,g16,g17,g18,g19,g20,g21,g22,g23,g24,g25,g26,g27,g28,g29,g30,g31,g32,g33,g34,g35,g36,g37,g38,g39,g40,g41,g42,g43,g44,g45,g46,g47,g48,g49,g50,g51,g52,g53,g54,g55,g56,g57,g58,g59,g60,g61,g62,g63,g64,g65,g66,g67,g68,g69,g70] M K = K #[g0,g1,g2,g3,g4,g5,g6,g7,g8,.int .i64 (IntKind.i64.wrap (x9 + 1)),g10,g11,g12,g13,g14,g15,g16,g17,g18,g19,g20,g21,g22,g23,g24,g25,g26,g27,g28,g29,g30,g31,g32,g33,g34,g35,g36,g37,g38,g39,.int .i64 x9,.int .i64 (IntKind.i64.wrap (x9 + 1)),g42,g43,g44,g45,g46,g47,g48,g49,g50,g51,g52,g53,g54,g55,g56,g57,g58,g59,g60,g61,g62,g63,g64,g65,g66,g67,g68,g69,g70] M := by kernel_rfl
theorem k5_24 : P5 [1,1,1,1,1,0,1,0,0,0,1,1] = .exit 0 := by kernel_rfl
theorem k5_25 : P5 [1,1,1,1,1,1] = .seq (P5 [1,1,1,1,1,1,0]) (P5 [1,1,1,1,1,1,1]) := by kernel_rfl
theorem k5_26 : P5 [1,1,1,1,1,1,0] = .seq (P5 [1,1,1,1,1,1,0,0]) (P5 [1,1,1,1,1,1,0,1]) := by kernel_rfl
theorem k5_27 : P5 [1,1,1,1,1,1,0,0] = .region 9 (O5 [1,1,1,1,1,1,0,0]) false := by kernel_rfl
theorem r5_9 {M : Mem} {call : CallM} {K : Array Value → Mem → R} :
    opsK Try.prog (fun _ => call) (O5 [1,1,1,1,1,1,0,0]) (O5 [1,1,1,1,1,1,0,0]).toList 0 #[g0,g1,g2,g3,g4,g5,g6,g7,g8,g9,g10,g11,g12,g13,g14,g15,g16,g17,g18,g19,g20,g21,g22,g23,g24,g25,g26,g27,g28,g29,g30,g31,g32,g33,g34,g35,g36,g37,g38,g39,g40,g41,g42,g43,g44,g45,g46,g47,g48,g49,g50,g51,g52,g53,g54,g55,g56,g57,g58,g59,g60,g61,g62,g63,g64,g65,g66,g67,g68,g69,g70] M K = K #[g0,g1,g2,g3,g4,g5,g6,g7,g8,g9,.int .i64 0,g11,g12,g13,g14,g15,g16,g17,g18,g19,g20,g21,g22,g23,g24,g25,g26,g27,g28,g29,g30,g31,g32,g33,g34,g35,g36,g37,g38,g39,g40,g41,g42,g43,g44,g45,g46,g47,g48,g49,g50,g51,g52,g53,g54,g55,g56,g57,g58,g59,g60,g61,g62,g63,g64,g65,g66,g67,g68,g69,g70] M := by kernel_rfl
theorem k5_28 : P5 [1,1,1,1,1,1,0,1] = .block 2 (P5 [1,1,1,1,1,1,0,1,0]) := by kernel_rfl
theorem k5_29 : P5 [1,1,1,1,1,1,0,1,0] = .loop (P5 [1,1,1,1,1,1,0,1,0,0]) := by kernel_rfl
theorem k5_30 : P5 [1,1,1,1,1,1,0,1,0,0] = .seq (P5 [1,1,1,1,1,1,0,1,0,0,0]) (P5 [1,1,1,1,1,1,0,1,0,0,1]) := by kernel_rfl
theorem k5_31 : P5 [1,1,1,1,1,1,0,1,0,0,0] = .seq (P5 [1,1,1,1,1,1,0,1,0,0,0,0]) (P5 [1,1,1,1,1,1,0,1,0,0,0,1]) := by kernel_rfl
theorem k5_32 : P5 [1,1,1,1,1,1,0,1,0,0,0,0] = .region 10 (O5 [1,1,1,1,1,1,0,1,0,0,0,0]) false := by kernel_rfl
theorem r5_10 {Ax4 : Option Addr} {lx4 cx4 : Nat} {x10 : Int} {M : Mem} {call : CallM} {K : Array Value → Mem → R} :
    opsK Try.prog (fun _ => call) (O5 [1,1,1,1,1,1,0,1,0,0,0,0]) (O5 [1,1,1,1,1,1,0,1,0,0,0,0]).toList 0 #[g0,g1,g2,g3,.slice Ax4 lx4 cx4,g5,g6,g7,g8,g9,.int .i64 x10,g11,g12,g13,g14,g15,g16,g17,g18,g19,g20,g21,g22,g23,g24,g25,g26,g27,g28,g29,g30,g31,g32,g33,g34,g35,g36,g37,g38,g39,g40,g41,g42,g43,g44,g45,g46,g47,g48,g49,g50,g51,g52,g53,g54,g55,g56,g57,g58,g59,g60,g61,g62,g63,g64,g65,g66,g67,g68,g69,g70] M K = K #[g0,g1,g2,g3,.slice Ax4 lx4 cx4,g5,g6,g7,g8,g9,.int .i64 x10,g11,g12,g13,g14,g15,g16,g17,g18,g19,g20,g21,g22,g23,g24,g25,g26,g27,g28,g29,g30,g31,g32,g33,g34,g35,g36,g37,g38,g39,g40,g41,g42,g43,g44,g45,g46,g47,g48,g49,g50,.int .i64 x10,.slice Ax4 lx4 cx4,.int .i64 ((lx4 : Int)),.bool (decide (x10 < ((lx4 : Int)))),g55,g56,g57,g58,g59,g60,g61,g62,g63,g64,g65,g66,g67,g68,g69,g70] M := by kernel_rfl
theorem c5_33 : P5 [1,1,1,1,1,1,0,1,0,0,0,1] = .cond (.tmp 54) (P5 [1,1,1,1,1,1,0,1,0,0,0,1,0]) (P5 [1,1,1,1,1,1,0,1,0,0,0,1,1]) := by kernel_rfl
theorem k5_34 : P5 [1,1,1,1,1,1,0,1,0,0,0,1,0] = .skip := by kernel_rfl
theorem k5_35 : P5 [1,1,1,1,1,1,0,1,0,0,1] = .seq (P5 [1,1,1,1,1,1,0,1,0,0,1,0]) (P5 [1,1,1,1,1,1,0,1,0,0,1,1]) := by kernel_rfl
theorem k5_36 : P5 [1,1,1,1,1,1,0,1,0,0,1,0] = .block 3 (P5 [1,1,1,1,1,1,0,1,0,0,1,0,0]) := by kernel_rfl
theorem k5_37 : P5 [1,1,1,1,1,1,0,1,0,0,1,0,0] = .region 12 (O5 [1,1,1,1,1,1,0,1,0,0,1,0,0]) false := by kernel_rfl
theorem r5_12 {Ax4 : Option Addr} {lx4 cx4 : Nat} {x10 : Int} {M : Mem} {call : CallM} {K : Array Value → Mem → R} :
    opsK Try.prog (fun _ => call) (O5 [1,1,1,1,1,1,0,1,0,0,1,0,0]) (O5 [1,1,1,1,1,1,0,1,0,0,1,0,0]).toList 0 #[g0,g1,g2,g3,.slice Ax4 lx4 cx4,g5,g6,g7,g8,g9,.int .i64 x10,g11,g12,g13,g14,g15,g16,g17,g18,g19,g20,g21,g22,g23,g24,g25,g26,g27,g28,g29,g30,g31,g32,g33,g34,g35,g36,g37,g38,g39,g40,g41,g42,g43,g44,g45,g46,g47,g48,g49,g50,g51,g52,g53,g54,g55,g56,g57,g58,g59,g60,g61,g62,g63,g64,g65,g66,g67,g68,g69,g70] M K = (idxA Ax4 lx4 1 x10).bind fun a_1 => (M.slAt a_1.block a_1.off).bind fun s_2 => (call 14 #[.slice s_2.1 (s_2.2.1) (s_2.2.2)] M).bind fun r_3 => K #[g0,g1,g2,g3,.slice Ax4 lx4 cx4,g5,g6,g7,g8,g9,.int .i64 x10,g11,g12,g13,g14,g15,g16,g17,g18,g19,g20,g21,g22,g23,g24,g25,g26,g27,g28,g29,g30,g31,g32,g33,g34,g35,g36,g37,g38,g39,g40,g41,g42,g43,g44,g45,g46,g47,g48,g49,g50,g51,g52,g53,g54,g55,g56,.slice Ax4 lx4 cx4,.int .i64 x10,.pointer (some a_1),.slice s_2.1 (s_2.2.1) (s_2.2.2),r_3.1,g62,g63,g64,g65,g66,g67,g68,g69,g70] r_3.2 := by kernel_rfl
theorem k5_38 : P5 [1,1,1,1,1,1,0,1,0,0,1,1] = .region 11 (O5 [1,1,1,1,1,1,0,1,0,0,1,1]) false := by kernel_rfl
theorem r5_11 {x10 : Int} {M : Mem} {call : CallM} {K : Array Value → Mem → R} :
    opsK Try.prog (fun _ => call) (O5 [1,1,1,1,1,1,0,1,0,0,1,1]) (O5 [1,1,1,1,1,1,0,1,0,0,1,1]).toList 0 #[g0,g1,g2,g3,g4,g5,g6,g7,g8,g9,.int .i64 x10,g11,g12,g13,g14,g15,g16,g17,g18,g19,g20,g21,g22,g23,g24,g25,g26,g27,g28,g29,g30,g31,g32,g33,g34,g35,g36,g37,g38,g39,g40,g41,g42,g43,g44,g45,g46,g47,g48,g49,g50,g51,g52,g53,g54,g55,g56,g57,g58,g59,g60,g61,g62,g63,g64,g65,g66,g67,g68,g69,g70] M K = K #[g0,g1,g2,g3,g4,g5,g6,g7,g8,g9,.int .i64 (IntKind.i64.wrap (x10 + 1)),g11,g12,g13,g14,g15,g16,g17,g18,g19,g20,g21,g22,g23,g24,g25,g26,g27,g28,g29,g30,g31,g32,g33,g34,g35,g36,g37,g38,g39,g40,g41,g42,g43,g44,g45,g46,g47,g48,g49,g50,g51,g52,g53,g54,.int .i64 x10,.int .i64 (IntKind.i64.wrap (x10 + 1)),g57,g58,g59,g60,g61,g62,g63,g64,g65,g66,g67,g68,g69,g70] M := by kernel_rfl
theorem k5_39 : P5 [1,1,1,1,1,1,0,1,0,0,0,1,1] = .exit 2 := by kernel_rfl
theorem k5_40 : P5 [1,1,1,1,1,1,1] = .seq (P5 [1,1,1,1,1,1,1,0]) (P5 [1,1,1,1,1,1,1,1]) := by kernel_rfl
theorem k5_41 : P5 [1,1,1,1,1,1,1,0] = .region 13 (O5 [1,1,1,1,1,1,1,0]) false := by kernel_rfl
theorem r5_13 {Ax0 : Option Addr} {lx0 cx0 : Nat} {Ax3 : Option Addr} {lx3 cx3 : Nat} {x8 : Bool} {M : Mem} {call : CallM} {K : Array Value → Mem → R} :
    opsK Try.prog (fun _ => call) (O5 [1,1,1,1,1,1,1,0]) (O5 [1,1,1,1,1,1,1,0]).toList 0 #[.slice Ax0 lx0 cx0,g1,g2,.slice Ax3 lx3 cx3,g4,g5,g6,g7,.bool x8,g9,g10,g11,g12,g13,g14,g15,g16,g17,g18,g19,g20,g21,g22,g23,g24,g25,g26,g27,g28,g29,g30,g31,g32,g33,g34,g35,g36,g37,g38,g39,g40,g41,g42,g43,g44,g45,g46,g47,g48,g49,g50,g51,g52,g53,g54,g55,g56,g57,g58,g59,g60,g61,g62,g63,g64,g65,g66,g67,g68,g69,g70] M K = withK (fun w2 w63 w64 w65 w66 w67 w68 w69 w70 M => K #[.slice Ax0 lx0 cx0,g1,w2,.slice Ax3 lx3 cx3,g4,g5,g6,g7,.bool x8,g9,g10,g11,g12,g13,g14,g15,g16,g17,g18,g19,g20,g21,g22,g23,g24,g25,g26,g27,g28,g29,g30,g31,g32,g33,g34,g35,g36,g37,g38,g39,g40,g41,g42,g43,g44,g45,g46,g47,g48,g49,g50,g51,g52,g53,g54,g55,g56,g57,g58,g59,g60,g61,.bool x8,w63,w64,w65,w66,w67,w68,w69,w70] M) fun k => cond x8 ((call 13 #[.slice Ax3 lx3 cx3, .slice Ax0 lx0 cx0] M).bind fun r_1 => (asB r_1.1).bind fun b_2 => cond b_2 ((call 16 #[] r_1.2).bind fun r_3 => (asB r_3.1).bind fun b_4 => k (.bool b_4) (.bool true) (.slice Ax3 lx3 cx3) (.slice Ax0 lx0 cx0) (.bool b_2) (.bool b_2) (.bool true) (.bool b_4) (.bool b_4) r_3.2) (k (.bool false) (.bool true) (.slice Ax3 lx3 cx3) (.slice Ax0 lx0 cx0) (.bool b_2) (.bool b_2) (.bool false) undef (.bool false) r_1.2)) (k (.bool false) (.bool false) undef undef undef (.bool false) (.bool false) undef (.bool false) M) := by kernel_rfl
theorem k5_42 : P5 [1,1,1,1,1,1,1,1] = .ret := by kernel_rfl
theorem e5 {M : Mem} : finish Try.prog Try.f5 #[g0,g1,g2,g3,g4,g5,g6,g7,g8,g9,g10,g11,g12,g13,g14,g15,g16,g17,g18,g19,g20,g21,g22,g23,g24,g25,g26,g27,g28,g29,g30,g31,g32,g33,g34,g35,g36,g37,g38,g39,g40,g41,g42,g43,g44,g45,g46,g47,g48,g49,g50,g51,g52,g53,g54,g55,g56,g57,g58,g59,g60,g61,g62,g63,g64,g65,g66,g67,g68,g69,g70] M = some (g2, M) := by kernel_rfl
noncomputable def S5_1 : List Item := [.code (P5 [1,1,1,1,1])]
def A5_1 (Ax0 : Option Addr) (lx0 cx0 : Nat) (Ax3 : Option Addr) (lx3 cx3 : Nat) (Ax4 : Option Addr) (lx4 cx4 : Nat) (Ax6 : Option Addr) (lx6 cx6 : Nat) (x8 : Bool) (M : Mem) (Q : Value → Mem → Prop) : Prop := ∀ (g1 g2 g5 g7 g9 g10 g11 g12 g13 g14 g15 g16 g17 g18 g19 g20 g21 g22 g23 g24 g25 g26 g27 g28 g29 g30 g31 g32 g33 g34 g35 g36 g37 g38 g39 g40 g41 g42 g43 g44 g45 g46 g47 g48 g49 g50 g51 g52 g53 g54 g55 g56 g57 g58 g59 g60 g61 g62 g63 g64 g65 g66 g67 g68 g69 g70 : Value), Rn Try.prog Try.f5 S5_1 #[.slice Ax0 lx0 cx0, g1, g2, .slice Ax3 lx3 cx3, .slice Ax4 lx4 cx4, g5, .slice Ax6 lx6 cx6, g7, .bool x8, g9, g10, g11, g12, g13, g14, g15, g16, g17, g18, g19, g20, g21, g22, g23, g24, g25, g26, g27, g28, g29, g30, g31, g32, g33, g34, g35, g36, g37, g38, g39, g40, g41, g42, g43, g44, g45, g46, g47, g48, g49, g50, g51, g52, g53, g54, g55, g56, g57, g58, g59, g60, g61, g62, g63, g64, g65, g66, g67, g68, g69, g70] M Q
noncomputable def S5_2 : List Item := [.code (P5 [1,1,1,1,1,0,1,0,0]), .inLoop (P5 [1,1,1,1,1,0,1,0,0]), .inBlock 0, .code (P5 [1,1,1,1,1,1])]
def A5_2 (Ax0 : Option Addr) (lx0 cx0 : Nat) (Ax3 : Option Addr) (lx3 cx3 : Nat) (Ax4 : Option Addr) (lx4 cx4 : Nat) (Ax6 : Option Addr) (lx6 cx6 : Nat) (x8 : Bool) (x9 : Int) (M : Mem) (Q : Value → Mem → Prop) : Prop := ∀ (g1 g2 g5 g7 g10 g11 g12 g13 g14 g15 g16 g17 g18 g19 g20 g21 g22 g23 g24 g25 g26 g27 g28 g29 g30 g31 g32 g33 g34 g35 g36 g37 g38 g39 g40 g41 g42 g43 g44 g45 g46 g47 g48 g49 g50 g51 g52 g53 g54 g55 g56 g57 g58 g59 g60 g61 g62 g63 g64 g65 g66 g67 g68 g69 g70 : Value), Rn Try.prog Try.f5 S5_2 #[.slice Ax0 lx0 cx0, g1, g2, .slice Ax3 lx3 cx3, .slice Ax4 lx4 cx4, g5, .slice Ax6 lx6 cx6, g7, .bool x8, .int .i64 x9, g10, g11, g12, g13, g14, g15, g16, g17, g18, g19, g20, g21, g22, g23, g24, g25, g26, g27, g28, g29, g30, g31, g32, g33, g34, g35, g36, g37, g38, g39, g40, g41, g42, g43, g44, g45, g46, g47, g48, g49, g50, g51, g52, g53, g54, g55, g56, g57, g58, g59, g60, g61, g62, g63, g64, g65, g66, g67, g68, g69, g70] M Q
noncomputable def S5_3 : List Item := [.code (P5 [1,1,1,1,1,0,1,0,0,0,1]), .code (P5 [1,1,1,1,1,0,1,0,0,1]), .inLoop (P5 [1,1,1,1,1,0,1,0,0]), .inBlock 0, .code (P5 [1,1,1,1,1,1])]
def A5_3 (Ax0 : Option Addr) (lx0 cx0 : Nat) (Ax3 : Option Addr) (lx3 cx3 : Nat) (Ax4 : Option Addr) (lx4 cx4 : Nat) (Ax6 : Option Addr) (lx6 cx6 : Nat) (x8 : Bool) (x9 : Int) (x39 : Bool) (M : Mem) (Q : Value → Mem → Prop) : Prop := ∀ (g1 g2 g5 g7 g10 g11 g12 g13 g14 g15 g16 g17 g18 g19 g20 g21 g22 g23 g24 g25 g26 g27 g28 g29 g30 g31 g32 g33 g34 g35 g36 g37 g38 g40 g41 g42 g43 g44 g45 g46 g47 g48 g49 g50 g51 g52 g53 g54 g55 g56 g57 g58 g59 g60 g61 g62 g63 g64 g65 g66 g67 g68 g69 g70 : Value), Rn Try.prog Try.f5 S5_3 #[.slice Ax0 lx0 cx0, g1, g2, .slice Ax3 lx3 cx3, .slice Ax4 lx4 cx4, g5, .slice Ax6 lx6 cx6, g7, .bool x8, .int .i64 x9, g10, g11, g12, g13, g14, g15, g16, g17, g18, g19, g20, g21, g22, g23, g24, g25, g26, g27, g28, g29, g30, g31, g32, g33, g34, g35, g36, g37, g38, .bool x39, g40, g41, g42, g43, g44, g45, g46, g47, g48, g49, g50, g51, g52, g53, g54, g55, g56, g57, g58, g59, g60, g61, g62, g63, g64, g65, g66, g67, g68, g69, g70] M Q
noncomputable def S5_4 : List Item := [.code (P5 [1,1,1,1,1,1,0,1,0,0]), .inLoop (P5 [1,1,1,1,1,1,0,1,0,0]), .inBlock 2, .code (P5 [1,1,1,1,1,1,1])]
def A5_4 (Ax0 : Option Addr) (lx0 cx0 : Nat) (Ax3 : Option Addr) (lx3 cx3 : Nat) (Ax4 : Option Addr) (lx4 cx4 : Nat) (x8 : Bool) (x10 : Int) (M : Mem) (Q : Value → Mem → Prop) : Prop := ∀ (g1 g2 g5 g6 g7 g9 g11 g12 g13 g14 g15 g16 g17 g18 g19 g20 g21 g22 g23 g24 g25 g26 g27 g28 g29 g30 g31 g32 g33 g34 g35 g36 g37 g38 g39 g40 g41 g42 g43 g44 g45 g46 g47 g48 g49 g50 g51 g52 g53 g54 g55 g56 g57 g58 g59 g60 g61 g62 g63 g64 g65 g66 g67 g68 g69 g70 : Value), Rn Try.prog Try.f5 S5_4 #[.slice Ax0 lx0 cx0, g1, g2, .slice Ax3 lx3 cx3, .slice Ax4 lx4 cx4, g5, g6, g7, .bool x8, g9, .int .i64 x10, g11, g12, g13, g14, g15, g16, g17, g18, g19, g20, g21, g22, g23, g24, g25, g26, g27, g28, g29, g30, g31, g32, g33, g34, g35, g36, g37, g38, g39, g40, g41, g42, g43, g44, g45, g46, g47, g48, g49, g50, g51, g52, g53, g54, g55, g56, g57, g58, g59, g60, g61, g62, g63, g64, g65, g66, g67, g68, g69, g70] M Q
theorem w5_0 {Ax0 : Option Addr} {lx0 cx0 : Nat} {M : Mem} {Q : Value → Mem → Prop} (H :
    Cn Try.prog 17 #[.slice Ax0 lx0 cx0] M fun v1' N1' =>
     ∃ s2', asS v1' = some s2' ∧
     Cn Try.prog 20 #[.slice s2'.1 s2'.2.1 s2'.2.2] N1' fun v3' N3' =>
      ∃ cs4', asU 2 v3' = some cs4' ∧
      ∃ s5', asS (cs4'.getD 0 undef) = some s5' ∧
      ∃ x6', asI .i64 (cs4'.getD 1 undef) = some x6' ∧
      Cn Try.prog 21 #[.slice Ax0 lx0 cx0] N3' fun v7' N7' =>
       ∃ cs8', asU 2 v7' = some cs8' ∧
       ∃ s9', asS (cs8'.getD 0 undef) = some s9' ∧
       ∃ x10', asI .i64 (cs8'.getD 1 undef) = some x10' ∧
       ((((s5'.2.1 : Int)) = ((s9'.2.1 : Int)) →
        A5_1 Ax0 lx0 cx0 s2'.1 s2'.2.1 s2'.2.2 s5'.1 s5'.2.1 s5'.2.2 s9'.1 s9'.2.1 s9'.2.2 (x6' == x10') N7' Q) ∧
        (((s5'.2.1 : Int)) ≠ ((s9'.2.1 : Int)) →
        A5_1 Ax0 lx0 cx0 s2'.1 s2'.2.1 s2'.2.2 s5'.1 s5'.2.1 s5'.2.2 s9'.1 s9'.2.1 s9'.2.2 false N7' Q))) :
    Cn Try.prog 5 #[.slice Ax0 lx0 cx0] M Q := by
  refine Cn.of b5 d5 t5 ?_
  refine Rn.seq k5_0 (Rn.region k5_1 (fun call K => r5_0) (Rch.leaf (Rn.seq k5_2 (Rn.region k5_3 (fun call K => r5_1) (Rch.call H fun v1' N1' H => Rch.ex H fun s2' H => Rch.leaf (Rn.seq k5_4 (Rn.region k5_5 (fun call K => r5_2) (Rch.call H fun v3' N3' H => Rch.ex H fun cs4' H => ?_))))))))
  refine Rch.ex H fun s5' H => Rch.ex H fun x6' H => Rch.leaf (Rn.seq k5_6 (Rn.region k5_7 (fun call K => r5_3) (Rch.call H fun v7' N7' H => Rch.ex H fun cs8' H => Rch.ex H fun s9' H => Rch.ex H fun x10' H => Rch.leaf (Rn.seq k5_8 (Rn.region k5_9 (fun call K => r5_4) ?_)))))
  refine Rch.cB (fun h => ?_) (fun h => ?_)
  · replace H := H.1 (eq_of_beq h)
    refine Rch.leaf ?_
    exact H _ _ _ _ _ _ _ _ _ _ _ _ _ _ _ _ _ _ _ _ _ _ _ _ _ _ _ _ _ _ _ _ _ _ _ _ _ _ _ _ _ _ _ _ _ _ _ _ _ _ _ _ _ _ _ _ _ _ _ _ _ _ _ _ _ _
  · replace H := H.2 (ne_of_beq_false h)
    refine Rch.leaf ?_
    exact H _ _ _ _ _ _ _ _ _ _ _ _ _ _ _ _ _ _ _ _ _ _ _ _ _ _ _ _ _ _ _ _ _ _ _ _ _ _ _ _ _ _ _ _ _ _ _ _ _ _ _ _ _ _ _ _ _ _ _ _ _ _ _ _ _ _

theorem w5_1 {Ax0 : Option Addr} {lx0 cx0 : Nat} {Ax3 : Option Addr} {lx3 cx3 : Nat} {Ax4 : Option Addr} {lx4 cx4 : Nat} {Ax6 : Option Addr} {lx6 cx6 : Nat} {x8 : Bool} {M : Mem} {Q : Value → Mem → Prop} (H :
    A5_2 Ax0 lx0 cx0 Ax3 lx3 cx3 Ax4 lx4 cx4 Ax6 lx6 cx6 x8 0 M Q) :
    A5_1 Ax0 lx0 cx0 Ax3 lx3 cx3 Ax4 lx4 cx4 Ax6 lx6 cx6 x8 M Q := by
  intro g1 g2 g5 g7 g9 g10 g11 g12 g13 g14 g15 g16 g17 g18 g19 g20 g21 g22 g23 g24 g25 g26 g27 g28 g29 g30 g31 g32 g33 g34 g35 g36 g37 g38 g39 g40 g41 g42 g43 g44 g45 g46 g47 g48 g49 g50 g51 g52 g53 g54 g55 g56 g57 g58 g59 g60 g61 g62 g63 g64 g65 g66 g67 g68 g69 g70
  refine Rn.seq k5_10 (Rn.seq k5_11 (Rn.region k5_12 (fun call K => r5_5) (Rch.leaf (Rn.block k5_13 (Rn.loop k5_14 ?_)))))
  exact H _ _ _ _ _ _ _ _ _ _ _ _ _ _ _ _ _ _ _ _ _ _ _ _ _ _ _ _ _ _ _ _ _ _ _ _ _ _ _ _ _ _ _ _ _ _ _ _ _ _ _ _ _ _ _ _ _ _ _ _ _ _ _ _ _

theorem w5_2 {Ax0 : Option Addr} {lx0 cx0 : Nat} {Ax3 : Option Addr} {lx3 cx3 : Nat} {Ax4 : Option Addr} {lx4 cx4 : Nat} {Ax6 : Option Addr} {lx6 cx6 : Nat} {x8 : Bool} {x9 : Int} {M : Mem} {Q : Value → Mem → Prop} (H :
    ((x9 < ((lx4 : Int)) →
     A5_3 Ax0 lx0 cx0 Ax3 lx3 cx3 Ax4 lx4 cx4 Ax6 lx6 cx6 x8 x9 x8 M Q) ∧
     (¬ (x9 < ((lx4 : Int))) →
     A5_3 Ax0 lx0 cx0 Ax3 lx3 cx3 Ax4 lx4 cx4 Ax6 lx6 cx6 x8 x9 false M Q))) :
    A5_2 Ax0 lx0 cx0 Ax3 lx3 cx3 Ax4 lx4 cx4 Ax6 lx6 cx6 x8 x9 M Q := by
  intro g1 g2 g5 g7 g10 g11 g12 g13 g14 g15 g16 g17 g18 g19 g20 g21 g22 g23 g24 g25 g26 g27 g28 g29 g30 g31 g32 g33 g34 g35 g36 g37 g38 g39 g40 g41 g42 g43 g44 g45 g46 g47 g48 g49 g50 g51 g52 g53 g54 g55 g56 g57 g58 g59 g60 g61 g62 g63 g64 g65 g66 g67 g68 g69 g70
  refine Rn.seq k5_15 (Rn.seq k5_16 (Rn.region k5_17 (fun call K => r5_6) ?_))
  refine Rch.cB (fun h => ?_) (fun h => ?_)
  · replace H := H.1 (of_decide_eq_true h)
    refine Rch.leaf ?_
    exact H _ _ _ _ _ _ _ _ _ _ _ _ _ _ _ _ _ _ _ _ _ _ _ _ _ _ _ _ _ _ _ _ _ _ _ _ _ _ _ _ _ _ _ _ _ _ _ _ _ _ _ _ _ _ _ _ _ _ _ _ _ _ _ _
  · replace H := H.2 (of_decide_eq_false h)
    refine Rch.leaf ?_
    exact H _ _ _ _ _ _ _ _ _ _ _ _ _ _ _ _ _ _ _ _ _ _ _ _ _ _ _ _ _ _ _ _ _ _ _ _ _ _ _ _ _ _ _ _ _ _ _ _ _ _ _ _ _ _ _ _ _ _ _ _ _ _ _ _

theorem w5_3 {Ax0 : Option Addr} {lx0 cx0 : Nat} {Ax3 : Option Addr} {lx3 cx3 : Nat} {Ax4 : Option Addr} {lx4 cx4 : Nat} {Ax6 : Option Addr} {lx6 cx6 : Nat} {x8 : Bool} {x9 : Int} {x39 : Bool} {M : Mem} {Q : Value → Mem → Prop} (H :
    ((x39 = true →
     ∃ a11', idxA Ax4 lx4 1 x9 = some a11' ∧
     ∃ s12', M.slAt a11'.block a11'.off = some s12' ∧
     ∃ a13', idxA Ax6 lx6 1 x9 = some a13' ∧
     ∃ s14', M.slAt a13'.block a13'.off = some s14' ∧
     Cn Try.prog 13 #[.slice s12'.1 (s12'.2.1) (s12'.2.2), .slice s14'.1 (s14'.2.1) (s14'.2.2)] M fun v15' N15' =>
      ∃ b16', asB v15' = some b16' ∧
      A5_2 Ax0 lx0 cx0 Ax3 lx3 cx3 Ax4 lx4 cx4 Ax6 lx6 cx6 b16' (IntKind.i64.wrap (x9 + 1)) N15' Q) ∧
     (x39 = false →
     A5_4 Ax0 lx0 cx0 Ax3 lx3 cx3 Ax4 lx4 cx4 x8 0 M Q))) :
    A5_3 Ax0 lx0 cx0 Ax3 lx3 cx3 Ax4 lx4 cx4 Ax6 lx6 cx6 x8 x9 x39 M Q := by
  intro g1 g2 g5 g7 g10 g11 g12 g13 g14 g15 g16 g17 g18 g19 g20 g21 g22 g23 g24 g25 g26 g27 g28 g29 g30 g31 g32 g33 g34 g35 g36 g37 g38 g40 g41 g42 g43 g44 g45 g46 g47 g48 g49 g50 g51 g52 g53 g54 g55 g56 g57 g58 g59 g60 g61 g62 g63 g64 g65 g66 g67 g68 g69 g70
  refine Rn.cnd (v := x39) ⟨c5_18, rfl, by kernel_rfl⟩ (fun h => ?_) (fun h => ?_)
  · replace H := H.1 (h)
    refine Rn.skip k5_19 (Rn.seq k5_20 (Rn.block k5_21 (Rn.regionD k5_22 (fun call K => r5_8) (Rch.ex H fun a11' H => Rch.ex H fun s12' H => Rch.ex H fun a13' H => Rch.ex H fun s14' H => Rch.call H fun v15' N15' H => Rch.ex H fun b16' H => Rch.leaf (Rn.blk ?_)))))
    refine Rn.region k5_23 (fun call K => r5_7) (Rch.leaf (Rn.lp ?_))
    exact H _ _ _ _ _ _ _ _ _ _ _ _ _ _ _ _ _ _ _ _ _ _ _ _ _ _ _ _ _ _ _ _ _ _ _ _ _ _ _ _ _ _ _ _ _ _ _ _ _ _ _ _ _ _ _ _ _ _ _ _ _ _ _ _ _
  · replace H := H.2 (h)
    refine Rn.exit k5_24 rfl (Rn.seq k5_25 (Rn.seq k5_26 (Rn.region k5_27 (fun call K => r5_9) (Rch.leaf (Rn.block k5_28 (Rn.loop k5_29 ?_))))))
    exact H _ _ _ _ _ _ _ _ _ _ _ _ _ _ _ _ _ _ _ _ _ _ _ _ _ _ _ _ _ _ _ _ _ _ _ _ _ _ _ _ _ _ _ _ _ _ _ _ _ _ _ _ _ _ _ _ _ _ _ _ _ _ _ _ _ _

theorem w5_4 {Ax0 : Option Addr} {lx0 cx0 : Nat} {Ax3 : Option Addr} {lx3 cx3 : Nat} {Ax4 : Option Addr} {lx4 cx4 : Nat} {x8 : Bool} {x10 : Int} {M : Mem} {Q : Value → Mem → Prop} (H :
    ((x10 < ((lx4 : Int)) →
     ∃ a17', idxA Ax4 lx4 1 x10 = some a17' ∧
     ∃ s18', M.slAt a17'.block a17'.off = some s18' ∧
     Cn Try.prog 14 #[.slice s18'.1 (s18'.2.1) (s18'.2.2)] M fun v19' N19' =>
      A5_4 Ax0 lx0 cx0 Ax3 lx3 cx3 Ax4 lx4 cx4 x8 (IntKind.i64.wrap (x10 + 1)) N19' Q) ∧
     (¬ (x10 < ((lx4 : Int))) →
     ((x8 = true →
      Cn Try.prog 13 #[.slice Ax3 lx3 cx3, .slice Ax0 lx0 cx0] M fun v20' N20' =>
       ∃ b21', asB v20' = some b21' ∧
       ((b21' = true →
        Cn Try.prog 16 #[] N20' fun v22' N22' =>
         ∃ b23', asB v22' = some b23' ∧
         Q (.bool b23') N22') ∧
        (b21' = false →
        Q (.bool false) N20'))) ∧
      (x8 = false →
      Q (.bool false) M))))) :
    A5_4 Ax0 lx0 cx0 Ax3 lx3 cx3 Ax4 lx4 cx4 x8 x10 M Q := by
  intro g1 g2 g5 g6 g7 g9 g11 g12 g13 g14 g15 g16 g17 g18 g19 g20 g21 g22 g23 g24 g25 g26 g27 g28 g29 g30 g31 g32 g33 g34 g35 g36 g37 g38 g39 g40 g41 g42 g43 g44 g45 g46 g47 g48 g49 g50 g51 g52 g53 g54 g55 g56 g57 g58 g59 g60 g61 g62 g63 g64 g65 g66 g67 g68 g69 g70
  refine Rn.seq k5_30 (Rn.seq k5_31 (Rn.region k5_32 (fun call K => r5_10) (Rch.leaf ?_)))
  refine Rn.cnd (v := decide (x10 < ((lx4 : Int)))) ⟨c5_33, rfl, by kernel_rfl⟩ (fun h => ?_) (fun h => ?_)
  · replace H := H.1 (of_decide_eq_true h)
    refine Rn.skip k5_34 (Rn.seq k5_35 (Rn.block k5_36 (Rn.region k5_37 (fun call K => r5_12) (Rch.ex H fun a17' H => Rch.ex H fun s18' H => Rch.call H fun v19' N19' H => Rch.leaf (Rn.blk (Rn.region k5_38 (fun call K => r5_11) (Rch.leaf (Rn.lp ?_))))))))
    exact H _ _ _ _ _ _ _ _ _ _ _ _ _ _ _ _ _ _ _ _ _ _ _ _ _ _ _ _ _ _ _ _ _ _ _ _ _ _ _ _ _ _ _ _ _ _ _ _ _ _ _ _ _ _ _ _ _ _ _ _ _ _ _ _ _ _
  · replace H := H.2 (of_decide_eq_false h)
    refine Rn.exit k5_39 rfl (Rn.seq k5_40 (Rn.region k5_41 (fun call K => r5_13) ?_))
    refine Rch.cB (fun h => ?_) (fun h => ?_)
    · replace H := H.1 (h)
      refine Rch.call H fun v20' N20' H => Rch.ex H fun b21' H => ?_
      refine Rch.cB (fun h => ?_) (fun h => ?_)
      · replace H := H.1 (h)
        refine Rch.call H fun v22' N22' H => Rch.ex H fun b23' H => Rch.leaf ?_
        exact Rn.ret k5_42 e5 H
      · replace H := H.2 (h)
        refine Rch.leaf ?_
        exact Rn.ret k5_42 e5 H
    · replace H := H.2 (h)
      refine Rch.leaf ?_
      exact Rn.ret k5_42 e5 H


end Go.Zt
