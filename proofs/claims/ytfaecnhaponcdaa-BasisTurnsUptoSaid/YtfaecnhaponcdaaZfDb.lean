/- The functions' walks: for each function and each loop a rule of what it comes to. Printed by zw.py. -/
import Derived.Test.YtfaecnhaponcdaaProg
import Derived.Test.YtfaecnhaponcdaaZfA
set_option linter.unusedVariables false
set_option maxRecDepth 100000
namespace Go.Zt
open Go Go.Sim Go.Proofs

variable {g0 g1 g2 g3 g4 g5 g6 g7 g8 g9 g10 g11 g12 g13 g14 g15 g16 g17 g18 g19 g20 g21 g22 g23 g24 g25 g26 g27 g28 g29 g30 g31 g32 g33 g34 g35 g36 g37 g38 g39 g40 g41 g42 g43 g44 g45 g46 g47 g48 g49 g50 g51 g52 g53 g54 g55 g56 g57 g58 g59 : Value}
/-! ### zoetrope/zoetropelaw07.BasisLossless: function 4 -/
noncomputable abbrev P4 (p : List Nat) : Code := subC (codeOf Try.f4) p
noncomputable abbrev O4 (p : List Nat) : Array Oper := opsOf (subC (codeOf Try.f4) p)
theorem b4 : Try.prog.funcs[4]? = some Try.f4 ∧ (Orc.tab Try.prog).lookup 4 = none := ⟨by kernel_rfl, by kernel_rfl⟩
theorem d4 : Try.f4.body = some (P4 []) := by kernel_rfl
theorem t4 {Ax0 : Option Addr} {lx0 cx0 : Nat} : #[.slice Ax0 lx0 cx0] ++ Array.replicate (Try.f4.ntmps - (#[.slice Ax0 lx0 cx0] : Array Value).size) undef = #[.slice Ax0 lx0 cx0,undef,undef,undef,undef,undef,undef,undef,undef,undef,undef,undef,undef,undef,undef,undef,undef,undef,undef,undef,undef,undef,undef,undef,undef,undef,undef,undef,undef,undef,undef,undef,undef,undef,undef,undef,undef,undef,undef,undef,undef,undef,undef,undef,undef,undef,undef,undef,undef,undef,undef,undef,undef,undef,undef,undef,undef,undef,undef,undef] := by kernel_rfl
theorem k4_0 : P4 [] = .seq (P4 [0]) (P4 [1]) := by kernel_rfl
theorem k4_1 : P4 [0] = .region 0 (O4 [0]) false := by kernel_rfl
theorem r4_0 {M : Mem} {call : CallM} {K : Array Value → Mem → R} :
    opsK Try.prog (fun _ => call) (O4 [0]) (O4 [0]).toList 0 #[g0,g1,g2,g3,g4,g5,g6,g7,g8,g9,g10,g11,g12,g13,g14,g15,g16,g17,g18,g19,g20,g21,g22,g23,g24,g25,g26,g27,g28,g29,g30,g31,g32,g33,g34,g35,g36,g37,g38,g39,g40,g41,g42,g43,g44,g45,g46,g47,g48,g49,g50,g51,g52,g53,g54,g55,g56,g57,g58,g59] M K = K #[g0,g1,.bool false,g3,g4,g5,g6,g7,g8,g9,g10,g11,g12,g13,g14,g15,g16,g17,g18,g19,g20,g21,g22,g23,g24,g25,g26,g27,g28,g29,g30,g31,g32,g33,g34,g35,g36,g37,g38,g39,g40,g41,g42,g43,g44,g45,g46,g47,g48,g49,g50,g51,g52,g53,g54,g55,g56,g57,g58,g59] M := by kernel_rfl
theorem k4_2 : P4 [1] = .seq (P4 [1,0]) (P4 [1,1]) := by kernel_rfl
theorem k4_3 : P4 [1,0] = .seq (P4 [1,0,0]) (P4 [1,0,1]) := by kernel_rfl
theorem k4_4 : P4 [1,0,0] = .region 1 (O4 [1,0,0]) false := by kernel_rfl
theorem r4_1 {M : Mem} {call : CallM} {K : Array Value → Mem → R} :
    opsK Try.prog (fun _ => call) (O4 [1,0,0]) (O4 [1,0,0]).toList 0 #[g0,g1,g2,g3,g4,g5,g6,g7,g8,g9,g10,g11,g12,g13,g14,g15,g16,g17,g18,g19,g20,g21,g22,g23,g24,g25,g26,g27,g28,g29,g30,g31,g32,g33,g34,g35,g36,g37,g38,g39,g40,g41,g42,g43,g44,g45,g46,g47,g48,g49,g50,g51,g52,g53,g54,g55,g56,g57,g58,g59] M K = (call 11 #[] M).bind fun r_1 => (asB r_1.1).bind fun b_2 => K #[g0,g1,g2,g3,g4,g5,g6,g7,g8,g9,g10,g11,.bool b_2,.bool (!b_2),g14,g15,g16,g17,g18,g19,g20,g21,g22,g23,g24,g25,g26,g27,g28,g29,g30,g31,g32,g33,g34,g35,g36,g37,g38,g39,g40,g41,g42,g43,g44,g45,g46,g47,g48,g49,g50,g51,g52,g53,g54,g55,g56,g57,g58,g59] r_1.2 := by kernel_rfl
theorem c4_5 : P4 [1,0,1] = .cond (.tmp 13) (P4 [1,0,1,0]) (P4 [1,0,1,1]) := by kernel_rfl
theorem k4_6 : P4 [1,0,1,0] = .seq (P4 [1,0,1,0,0]) (P4 [1,0,1,0,1]) := by kernel_rfl
theorem k4_7 : P4 [1,0,1,0,0] = .region 2 (O4 [1,0,1,0,0]) false := by kernel_rfl
theorem r4_2 {M : Mem} {call : CallM} {K : Array Value → Mem → R} :
    opsK Try.prog (fun _ => call) (O4 [1,0,1,0,0]) (O4 [1,0,1,0,0]).toList 0 #[g0,g1,g2,g3,g4,g5,g6,g7,g8,g9,g10,g11,g12,g13,g14,g15,g16,g17,g18,g19,g20,g21,g22,g23,g24,g25,g26,g27,g28,g29,g30,g31,g32,g33,g34,g35,g36,g37,g38,g39,g40,g41,g42,g43,g44,g45,g46,g47,g48,g49,g50,g51,g52,g53,g54,g55,g56,g57,g58,g59] M K = K #[g0,g1,.bool false,g3,g4,g5,g6,g7,g8,g9,g10,g11,g12,g13,g14,g15,g16,g17,g18,g19,g20,g21,g22,g23,g24,g25,g26,g27,g28,g29,g30,g31,g32,g33,g34,g35,g36,g37,g38,g39,g40,g41,g42,g43,g44,g45,g46,g47,g48,g49,g50,g51,g52,g53,g54,g55,g56,g57,g58,g59] M := by kernel_rfl
theorem k4_8 : P4 [1,0,1,0,1] = .ret := by kernel_rfl
theorem e4 {M : Mem} : finish Try.prog Try.f4 #[g0,g1,g2,g3,g4,g5,g6,g7,g8,g9,g10,g11,g12,g13,g14,g15,g16,g17,g18,g19,g20,g21,g22,g23,g24,g25,g26,g27,g28,g29,g30,g31,g32,g33,g34,g35,g36,g37,g38,g39,g40,g41,g42,g43,g44,g45,g46,g47,g48,g49,g50,g51,g52,g53,g54,g55,g56,g57,g58,g59] M = some (g2, M) := by kernel_rfl
theorem k4_10 : P4 [1,0,1,1] = .skip := by kernel_rfl
theorem k4_11 : P4 [1,1] = .seq (P4 [1,1,0]) (P4 [1,1,1]) := by kernel_rfl
theorem k4_12 : P4 [1,1,0] = .region 3 (O4 [1,1,0]) false := by kernel_rfl
theorem r4_3 {Ax0 : Option Addr} {lx0 cx0 : Nat} {M : Mem} {call : CallM} {K : Array Value → Mem → R} :
    opsK Try.prog (fun _ => call) (O4 [1,1,0]) (O4 [1,1,0]).toList 0 #[.slice Ax0 lx0 cx0,g1,g2,g3,g4,g5,g6,g7,g8,g9,g10,g11,g12,g13,g14,g15,g16,g17,g18,g19,g20,g21,g22,g23,g24,g25,g26,g27,g28,g29,g30,g31,g32,g33,g34,g35,g36,g37,g38,g39,g40,g41,g42,g43,g44,g45,g46,g47,g48,g49,g50,g51,g52,g53,g54,g55,g56,g57,g58,g59] M K = (call 12 #[.slice Ax0 lx0 cx0, .int .i64 4, .int .i64 262144] M).bind fun r_1 => (asS r_1.1).bind fun s_2 => K #[.slice Ax0 lx0 cx0,g1,g2,.slice s_2.1 (s_2.2.1) (s_2.2.2),g4,g5,g6,g7,g8,g9,g10,g11,g12,g13,.slice Ax0 lx0 cx0,.slice s_2.1 (s_2.2.1) (s_2.2.2),g16,g17,g18,g19,g20,g21,g22,g23,g24,g25,g26,g27,g28,g29,g30,g31,g32,g33,g34,g35,g36,g37,g38,g39,g40,g41,g42,g43,g44,g45,g46,g47,g48,g49,g50,g51,g52,g53,g54,g55,g56,g57,g58,g59] r_1.2 := by kernel_rfl
theorem k4_13 : P4 [1,1,1] = .seq (P4 [1,1,1,0]) (P4 [1,1,1,1]) := by kernel_rfl
theorem k4_14 : P4 [1,1,1,0] = .region 4 (O4 [1,1,1,0]) false := by kernel_rfl
theorem r4_4 {Ax3 : Option Addr} {lx3 cx3 : Nat} {M : Mem} {call : CallM} {K : Array Value → Mem → R} :
    opsK Try.prog (fun _ => call) (O4 [1,1,1,0]) (O4 [1,1,1,0]).toList 0 #[g0,g1,g2,.slice Ax3 lx3 cx3,g4,g5,g6,g7,g8,g9,g10,g11,g12,g13,g14,g15,g16,g17,g18,g19,g20,g21,g22,g23,g24,g25,g26,g27,g28,g29,g30,g31,g32,g33,g34,g35,g36,g37,g38,g39,g40,g41,g42,g43,g44,g45,g46,g47,g48,g49,g50,g51,g52,g53,g54,g55,g56,g57,g58,g59] M K = (call 13 #[.int .i64 3, .slice Ax3 lx3 cx3] M).bind fun r_1 => (asU 2 r_1.1).bind fun cs_2 => (asS (cs_2.getD 0 undef)).bind fun s_3 => (asI .i64 (cs_2.getD 1 undef)).bind fun x_4 => K #[g0,g1,g2,.slice Ax3 lx3 cx3,.slice s_3.1 (s_3.2.1) (s_3.2.2),.int .i64 x_4,g6,g7,g8,g9,g10,g11,g12,g13,g14,g15,.tuple #[.slice s_3.1 (s_3.2.1) (s_3.2.2), .int .i64 x_4],.slice Ax3 lx3 cx3,.tuple #[.slice s_3.1 (s_3.2.1) (s_3.2.2), .int .i64 x_4],.slice s_3.1 (s_3.2.1) (s_3.2.2),.int .i64 x_4,g21,g22,g23,g24,g25,g26,g27,g28,g29,g30,g31,g32,g33,g34,g35,g36,g37,g38,g39,g40,g41,g42,g43,g44,g45,g46,g47,g48,g49,g50,g51,g52,g53,g54,g55,g56,g57,g58,g59] r_1.2 := by kernel_rfl
theorem k4_15 : P4 [1,1,1,1] = .seq (P4 [1,1,1,1,0]) (P4 [1,1,1,1,1]) := by kernel_rfl
theorem k4_16 : P4 [1,1,1,1,0] = .region 5 (O4 [1,1,1,1,0]) false := by kernel_rfl
theorem r4_5 {Ax4 : Option Addr} {lx4 cx4 : Nat} {M : Mem} {call : CallM} {K : Array Value → Mem → R} :
    opsK Try.prog (fun _ => call) (O4 [1,1,1,1,0]) (O4 [1,1,1,1,0]).toList 0 #[g0,g1,g2,g3,.slice Ax4 lx4 cx4,g5,g6,g7,g8,g9,g10,g11,g12,g13,g14,g15,g16,g17,g18,g19,g20,g21,g22,g23,g24,g25,g26,g27,g28,g29,g30,g31,g32,g33,g34,g35,g36,g37,g38,g39,g40,g41,g42,g43,g44,g45,g46,g47,g48,g49,g50,g51,g52,g53,g54,g55,g56,g57,g58,g59] M K = (call 14 #[.int .i64 3, .slice Ax4 lx4 cx4] M).bind fun r_1 => (asU 2 r_1.1).bind fun cs_2 => (asS (cs_2.getD 0 undef)).bind fun s_3 => (asI .i64 (cs_2.getD 1 undef)).bind fun x_4 => K #[g0,g1,g2,g3,.slice Ax4 lx4 cx4,g5,.slice s_3.1 (s_3.2.1) (s_3.2.2),.int .i64 x_4,g8,g9,g10,g11,g12,g13,g14,g15,g16,g17,g18,g19,g20,.tuple #[.slice s_3.1 (s_3.2.1) (s_3.2.2), .int .i64 x_4],.slice Ax4 lx4 cx4,.tuple #[.slice s_3.1 (s_3.2.1) (s_3.2.2), .int .i64 x_4],.slice s_3.1 (s_3.2.1) (s_3.2.2),.int .i64 x_4,g26,g27,g28,g29,g30,g31,g32,g33,g34,g35,g36,g37,g38,g39,g40,g41,g42,g43,g44,g45,g46,g47,g48,g49,g50,g51,g52,g53,g54,g55,g56,g57,g58,g59] r_1.2 := by kernel_rfl
theorem k4_17 : P4 [1,1,1,1,1] = .seq (P4 [1,1,1,1,1,0]) (P4 [1,1,1,1,1,1]) := by kernel_rfl
theorem k4_18 : P4 [1,1,1,1,1,0] = .region 6 (O4 [1,1,1,1,1,0]) false := by kernel_rfl
theorem r4_6 {Ax3 : Option Addr} {lx3 cx3 : Nat} {M : Mem} {call : CallM} {K : Array Value → Mem → R} :
    opsK Try.prog (fun _ => call) (O4 [1,1,1,1,1,0]) (O4 [1,1,1,1,1,0]).toList 0 #[g0,g1,g2,.slice Ax3 lx3 cx3,g4,g5,g6,g7,g8,g9,g10,g11,g12,g13,g14,g15,g16,g17,g18,g19,g20,g21,g22,g23,g24,g25,g26,g27,g28,g29,g30,g31,g32,g33,g34,g35,g36,g37,g38,g39,g40,g41,g42,g43,g44,g45,g46,g47,g48,g49,g50,g51,g52,g53,g54,g55,g56,g57,g58,g59] M K = (call 14 #[.int .i64 3, .slice Ax3 lx3 cx3] M).bind fun r_1 => (asU 2 r_1.1).bind fun cs_2 => (asS (cs_2.getD 0 undef)).bind fun s_3 => (asI .i64 (cs_2.getD 1 undef)).bind fun x_4 => K #[g0,g1,g2,.slice Ax3 lx3 cx3,g4,g5,g6,g7,.slice s_3.1 (s_3.2.1) (s_3.2.2),.int .i64 x_4,g10,g11,g12,g13,g14,g15,g16,g17,g18,g19,g20,g21,g22,g23,g24,g25,.tuple #[.slice s_3.1 (s_3.2.1) (s_3.2.2), .int .i64 x_4],.slice Ax3 lx3 cx3,.tuple #[.slice s_3.1 (s_3.2.1) (s_3.2.2), .int .i64 x_4],.slice s_3.1 (s_3.2.1) (s_3.2.2),.int .i64 x_4,g31,g32,g33,g34,g35,g36,g37,g38,g39,g40,g41,g42,g43,g44,g45,g46,g47,g48,g49,g50,g51,g52,g53,g54,g55,g56,g57,g58,g59] r_1.2 := by kernel_rfl
theorem k4_19 : P4 [1,1,1,1,1,1] = .seq (P4 [1,1,1,1,1,1,0]) (P4 [1,1,1,1,1,1,1]) := by kernel_rfl
theorem k4_20 : P4 [1,1,1,1,1,1,0] = .region 7 (O4 [1,1,1,1,1,1,0]) false := by kernel_rfl
theorem r4_7 {Ax8 : Option Addr} {lx8 cx8 : Nat} {M : Mem} {call : CallM} {K : Array Value → Mem → R} :
    opsK Try.prog (fun _ => call) (O4 [1,1,1,1,1,1,0]) (O4 [1,1,1,1,1,1,0]).toList 0 #[g0,g1,g2,g3,g4,g5,g6,g7,.slice Ax8 lx8 cx8,g9,g10,g11,g12,g13,g14,g15,g16,g17,g18,g19,g20,g21,g22,g23,g24,g25,g26,g27,g28,g29,g30,g31,g32,g33,g34,g35,g36,g37,g38,g39,g40,g41,g42,g43,g44,g45,g46,g47,g48,g49,g50,g51,g52,g53,g54,g55,g56,g57,g58,g59] M K = (call 13 #[.int .i64 3, .slice Ax8 lx8 cx8] M).bind fun r_1 => (asU 2 r_1.1).bind fun cs_2 => (asS (cs_2.getD 0 undef)).bind fun s_3 => (asI .i64 (cs_2.getD 1 undef)).bind fun x_4 => K #[g0,g1,g2,g3,g4,g5,g6,g7,.slice Ax8 lx8 cx8,g9,.slice s_3.1 (s_3.2.1) (s_3.2.2),.int .i64 x_4,g12,g13,g14,g15,g16,g17,g18,g19,g20,g21,g22,g23,g24,g25,g26,g27,g28,g29,g30,.tuple #[.slice s_3.1 (s_3.2.1) (s_3.2.2), .int .i64 x_4],.slice Ax8 lx8 cx8,.tuple #[.slice s_3.1 (s_3.2.1) (s_3.2.2), .int .i64 x_4],.slice s_3.1 (s_3.2.1) (s_3.2.2),.int .i64 x_4,g36,g37,g38,g39,g40,g41,g42,g43,g44,g45,g46,g47,g48,g49,g50,g51,g52,g53,g54,g55,g56,g57,g58,g59] r_1.2 := by kernel_rfl
theorem k4_21 : P4 [1,1,1,1,1,1,1] = .seq (P4 [1,1,1,1,1,1,1,0]) (P4 [1,1,1,1,1,1,1,1]) := by kernel_rfl
theorem k4_22 : P4 [1,1,1,1,1,1,1,0] = .region 8 (O4 [1,1,1,1,1,1,1,0]) false := by kernel_rfl
theorem k4_23 : P4 [1,1,1,1,1,1,1,0] = .region 8 (O4 [1,1,1,1,1,1,1,0]) false ∧ (!false || drawOk (O4 [1,1,1,1,1,1,1,0])) = true := ⟨by kernel_rfl, by kernel_rfl⟩
theorem r4_8p0 {x5 x7 : Int} {M : Mem} {call : CallM} {K : Array Value → Mem → R} :
    segK Try.prog false call (O4 [1,1,1,1,1,1,1,0]) 0 7 #[g0,g1,g2,g3,g4,.int .i64 x5,g6,.int .i64 x7,g8,g9,g10,g11,g12,g13,g14,g15,g16,g17,g18,g19,g20,g21,g22,g23,g24,g25,g26,g27,g28,g29,g30,g31,g32,g33,g34,g35,g36,g37,g38,g39,g40,g41,g42,g43,g44,g45,g46,g47,g48,g49,g50,g51,g52,g53,g54,g55,g56,g57,g58,g59] M K = withK (fun w38 w39 w40 w41 w42 M => K #[g0,g1,g2,g3,g4,.int .i64 x5,g6,.int .i64 x7,g8,g9,g10,g11,g12,g13,g14,g15,g16,g17,g18,g19,g20,g21,g22,g23,g24,g25,g26,g27,g28,g29,g30,g31,g32,g33,g34,g35,.int .i64 x5,.bool (x5 == 0),w38,w39,w40,w41,w42,g43,g44,g45,g46,g47,g48,g49,g50,g51,g52,g53,g54,g55,g56,g57,g58,g59] M) fun k => cond (x5 == 0) (k (.bool true) (.int .i64 x7) (.bool (x7 == 0)) (.bool (x7 == 0)) (.bool (x7 == 0)) M) (k (.bool false) undef undef (.bool false) (.bool false) M) := by kernel_rfl
theorem r4_8p7 {x9 : Int} {x42 : Bool} {M : Mem} {call : CallM} {K : Array Value → Mem → R} :
    segK Try.prog false call (O4 [1,1,1,1,1,1,1,0]) 7 4 #[g0,g1,g2,g3,g4,g5,g6,g7,g8,.int .i64 x9,g10,g11,g12,g13,g14,g15,g16,g17,g18,g19,g20,g21,g22,g23,g24,g25,g26,g27,g28,g29,g30,g31,g32,g33,g34,g35,g36,g37,g38,g39,g40,g41,.bool x42,g43,g44,g45,g46,g47,g48,g49,g50,g51,g52,g53,g54,g55,g56,g57,g58,g59] M K = withK (fun w42 w43 w44 w45 w46 M => K #[g0,g1,g2,g3,g4,g5,g6,g7,g8,.int .i64 x9,g10,g11,g12,g13,g14,g15,g16,g17,g18,g19,g20,g21,g22,g23,g24,g25,g26,g27,g28,g29,g30,g31,g32,g33,g34,g35,g36,g37,g38,g39,g40,g41,w42,w43,w44,w45,w46,g47,g48,g49,g50,g51,g52,g53,g54,g55,g56,g57,g58,g59] M) fun k => cond x42 (k (.bool true) (.int .i64 x9) (.bool (x9 == 0)) (.bool (x9 == 0)) (.bool (x9 == 0)) M) (k (.bool false) undef undef (.bool false) (.bool false) M) := by kernel_rfl
theorem r4_8p11 {x11 : Int} {x46 : Bool} {M : Mem} {call : CallM} {K : Array Value → Mem → R} :
    segK Try.prog false call (O4 [1,1,1,1,1,1,1,0]) 11 4 #[g0,g1,g2,g3,g4,g5,g6,g7,g8,g9,g10,.int .i64 x11,g12,g13,g14,g15,g16,g17,g18,g19,g20,g21,g22,g23,g24,g25,g26,g27,g28,g29,g30,g31,g32,g33,g34,g35,g36,g37,g38,g39,g40,g41,g42,g43,g44,g45,.bool x46,g47,g48,g49,g50,g51,g52,g53,g54,g55,g56,g57,g58,g59] M K = withK (fun w46 w47 w48 w49 w50 M => K #[g0,g1,g2,g3,g4,g5,g6,g7,g8,g9,g10,.int .i64 x11,g12,g13,g14,g15,g16,g17,g18,g19,g20,g21,g22,g23,g24,g25,g26,g27,g28,g29,g30,g31,g32,g33,g34,g35,g36,g37,g38,g39,g40,g41,g42,g43,g44,g45,w46,w47,w48,w49,w50,g51,g52,g53,g54,g55,g56,g57,g58,g59] M) fun k => cond x46 (k (.bool true) (.int .i64 x11) (.bool (x11 == 0)) (.bool (x11 == 0)) (.bool (x11 == 0)) M) (k (.bool false) undef undef (.bool false) (.bool false) M) := by kernel_rfl
theorem r4_8p15 {Ax3 : Option Addr} {lx3 cx3 : Nat} {Ax6 : Option Addr} {lx6 cx6 : Nat} {x50 : Bool} {M : Mem} {call : CallM} {K : Array Value → Mem → R} :
    segK Try.prog false call (O4 [1,1,1,1,1,1,1,0]) 15 5 #[g0,g1,g2,.slice Ax3 lx3 cx3,g4,g5,.slice Ax6 lx6 cx6,g7,g8,g9,g10,g11,g12,g13,g14,g15,g16,g17,g18,g19,g20,g21,g22,g23,g24,g25,g26,g27,g28,g29,g30,g31,g32,g33,g34,g35,g36,g37,g38,g39,g40,g41,g42,g43,g44,g45,g46,g47,g48,g49,.bool x50,g51,g52,g53,g54,g55,g56,g57,g58,g59] M K = withK (fun w50 w51 w52 w53 w54 w55 M => K #[g0,g1,g2,.slice Ax3 lx3 cx3,g4,g5,.slice Ax6 lx6 cx6,g7,g8,g9,g10,g11,g12,g13,g14,g15,g16,g17,g18,g19,g20,g21,g22,g23,g24,g25,g26,g27,g28,g29,g30,g31,g32,g33,g34,g35,g36,g37,g38,g39,g40,g41,g42,g43,g44,g45,g46,g47,g48,g49,w50,w51,w52,w53,w54,w55,g56,g57,g58,g59] M) fun k => cond x50 ((call 15 #[.slice Ax6 lx6 cx6, .slice Ax3 lx3 cx3] M).bind fun r_1 => (asB r_1.1).bind fun b_2 => k (.bool true) (.slice Ax6 lx6 cx6) (.slice Ax3 lx3 cx3) (.bool b_2) (.bool b_2) (.bool b_2) r_1.2) (k (.bool false) undef undef undef (.bool false) (.bool false) M) := by kernel_rfl
theorem r4_8p20 {Ax3 : Option Addr} {lx3 cx3 : Nat} {Ax10 : Option Addr} {lx10 cx10 : Nat} {x55 : Bool} {M : Mem} {call : CallM} {K : Array Value → Mem → R} :
    segK Try.prog false call (O4 [1,1,1,1,1,1,1,0]) 20 5 #[g0,g1,g2,.slice Ax3 lx3 cx3,g4,g5,g6,g7,g8,g9,.slice Ax10 lx10 cx10,g11,g12,g13,g14,g15,g16,g17,g18,g19,g20,g21,g22,g23,g24,g25,g26,g27,g28,g29,g30,g31,g32,g33,g34,g35,g36,g37,g38,g39,g40,g41,g42,g43,g44,g45,g46,g47,g48,g49,g50,g51,g52,g53,g54,.bool x55,g56,g57,g58,g59] M K = withK (fun w2 w55 w56 w57 w58 w59 M => K #[g0,g1,w2,.slice Ax3 lx3 cx3,g4,g5,g6,g7,g8,g9,.slice Ax10 lx10 cx10,g11,g12,g13,g14,g15,g16,g17,g18,g19,g20,g21,g22,g23,g24,g25,g26,g27,g28,g29,g30,g31,g32,g33,g34,g35,g36,g37,g38,g39,g40,g41,g42,g43,g44,g45,g46,g47,g48,g49,g50,g51,g52,g53,g54,w55,w56,w57,w58,w59] M) fun k => cond x55 ((call 15 #[.slice Ax10 lx10 cx10, .slice Ax3 lx3 cx3] M).bind fun r_1 => (asB r_1.1).bind fun b_2 => k (.bool b_2) (.bool true) (.slice Ax10 lx10 cx10) (.slice Ax3 lx3 cx3) (.bool b_2) (.bool b_2) r_1.2) (k (.bool false) (.bool false) undef undef undef (.bool false) M) := by kernel_rfl
theorem k4_24 : P4 [1,1,1,1,1,1,1,1] = .ret := by kernel_rfl
noncomputable def S4_1 : List Item := [.code (P4 [1,1,1,1,1,1,1,1])]
def A4_1 (Ax3 : Option Addr) (lx3 cx3 : Nat) (Ax6 : Option Addr) (lx6 cx6 : Nat) (x9 : Int) (Ax10 : Option Addr) (lx10 cx10 : Nat) (x11 : Int) (x42 : Bool) (M : Mem) (Q : Value → Mem → Prop) : Prop := ∀ (g0 g1 g2 g4 g5 g7 g8 g12 g13 g14 g15 g16 g17 g18 g19 g20 g21 g22 g23 g24 g25 g26 g27 g28 g29 g30 g31 g32 g33 g34 g35 g36 g37 g38 g39 g40 g41 g43 g44 g45 g46 g47 g48 g49 g50 g51 g52 g53 g54 g55 g56 g57 g58 g59 : Value), Rg Try.prog Try.f4 (O4 [1,1,1,1,1,1,1,0]) false 7 S4_1 #[g0, g1, g2, .slice Ax3 lx3 cx3, g4, g5, .slice Ax6 lx6 cx6, g7, g8, .int .i64 x9, .slice Ax10 lx10 cx10, .int .i64 x11, g12, g13, g14, g15, g16, g17, g18, g19, g20, g21, g22, g23, g24, g25, g26, g27, g28, g29, g30, g31, g32, g33, g34, g35, g36, g37, g38, g39, g40, g41, .bool x42, g43, g44, g45, g46, g47, g48, g49, g50, g51, g52, g53, g54, g55, g56, g57, g58, g59] M Q
noncomputable def S4_2 : List Item := [.code (P4 [1,1,1,1,1,1,1,1])]
def A4_2 (Ax3 : Option Addr) (lx3 cx3 : Nat) (Ax6 : Option Addr) (lx6 cx6 : Nat) (Ax10 : Option Addr) (lx10 cx10 : Nat) (x11 : Int) (x46 : Bool) (M : Mem) (Q : Value → Mem → Prop) : Prop := ∀ (g0 g1 g2 g4 g5 g7 g8 g9 g12 g13 g14 g15 g16 g17 g18 g19 g20 g21 g22 g23 g24 g25 g26 g27 g28 g29 g30 g31 g32 g33 g34 g35 g36 g37 g38 g39 g40 g41 g42 g43 g44 g45 g47 g48 g49 g50 g51 g52 g53 g54 g55 g56 g57 g58 g59 : Value), Rg Try.prog Try.f4 (O4 [1,1,1,1,1,1,1,0]) false 11 S4_2 #[g0, g1, g2, .slice Ax3 lx3 cx3, g4, g5, .slice Ax6 lx6 cx6, g7, g8, g9, .slice Ax10 lx10 cx10, .int .i64 x11, g12, g13, g14, g15, g16, g17, g18, g19, g20, g21, g22, g23, g24, g25, g26, g27, g28, g29, g30, g31, g32, g33, g34, g35, g36, g37, g38, g39, g40, g41, g42, g43, g44, g45, .bool x46, g47, g48, g49, g50, g51, g52, g53, g54, g55, g56, g57, g58, g59] M Q
noncomputable def S4_3 : List Item := [.code (P4 [1,1,1,1,1,1,1,1])]
def A4_3 (Ax3 : Option Addr) (lx3 cx3 : Nat) (Ax6 : Option Addr) (lx6 cx6 : Nat) (Ax10 : Option Addr) (lx10 cx10 : Nat) (x50 : Bool) (M : Mem) (Q : Value → Mem → Prop) : Prop := ∀ (g0 g1 g2 g4 g5 g7 g8 g9 g11 g12 g13 g14 g15 g16 g17 g18 g19 g20 g21 g22 g23 g24 g25 g26 g27 g28 g29 g30 g31 g32 g33 g34 g35 g36 g37 g38 g39 g40 g41 g42 g43 g44 g45 g46 g47 g48 g49 g51 g52 g53 g54 g55 g56 g57 g58 g59 : Value), Rg Try.prog Try.f4 (O4 [1,1,1,1,1,1,1,0]) false 15 S4_3 #[g0, g1, g2, .slice Ax3 lx3 cx3, g4, g5, .slice Ax6 lx6 cx6, g7, g8, g9, .slice Ax10 lx10 cx10, g11, g12, g13, g14, g15, g16, g17, g18, g19, g20, g21, g22, g23, g24, g25, g26, g27, g28, g29, g30, g31, g32, g33, g34, g35, g36, g37, g38, g39, g40, g41, g42, g43, g44, g45, g46, g47, g48, g49, .bool x50, g51, g52, g53, g54, g55, g56, g57, g58, g59] M Q
noncomputable def S4_4 : List Item := [.code (P4 [1,1,1,1,1,1,1,1])]
def A4_4 (Ax3 : Option Addr) (lx3 cx3 : Nat) (Ax10 : Option Addr) (lx10 cx10 : Nat) (x55 : Bool) (M : Mem) (Q : Value → Mem → Prop) : Prop := ∀ (g0 g1 g2 g4 g5 g6 g7 g8 g9 g11 g12 g13 g14 g15 g16 g17 g18 g19 g20 g21 g22 g23 g24 g25 g26 g27 g28 g29 g30 g31 g32 g33 g34 g35 g36 g37 g38 g39 g40 g41 g42 g43 g44 g45 g46 g47 g48 g49 g50 g51 g52 g53 g54 g56 g57 g58 g59 : Value), Rg Try.prog Try.f4 (O4 [1,1,1,1,1,1,1,0]) false 20 S4_4 #[g0, g1, g2, .slice Ax3 lx3 cx3, g4, g5, g6, g7, g8, g9, .slice Ax10 lx10 cx10, g11, g12, g13, g14, g15, g16, g17, g18, g19, g20, g21, g22, g23, g24, g25, g26, g27, g28, g29, g30, g31, g32, g33, g34, g35, g36, g37, g38, g39, g40, g41, g42, g43, g44, g45, g46, g47, g48, g49, g50, g51, g52, g53, g54, .bool x55, g56, g57, g58, g59] M Q
theorem w4_0 {Ax0 : Option Addr} {lx0 cx0 : Nat} {M : Mem} {Q : Value → Mem → Prop} (H :
    Cn Try.prog 11 #[] M fun v1' N1' =>
     ∃ b2', asB v1' = some b2' ∧
     (((!b2') = true →
      Q (.bool false) N1') ∧
      ((!b2') = false →
      Cn Try.prog 12 #[.slice Ax0 lx0 cx0, .int .i64 4, .int .i64 262144] N1' fun v3' N3' =>
       ∃ s4', asS v3' = some s4' ∧
       Cn Try.prog 13 #[.int .i64 3, .slice s4'.1 s4'.2.1 s4'.2.2] N3' fun v5' N5' =>
        ∃ cs6', asU 2 v5' = some cs6' ∧
        ∃ s7', asS (cs6'.getD 0 undef) = some s7' ∧
        ∃ x8', asI .i64 (cs6'.getD 1 undef) = some x8' ∧
        Cn Try.prog 14 #[.int .i64 3, .slice s7'.1 s7'.2.1 s7'.2.2] N5' fun v9' N9' =>
         ∃ cs10', asU 2 v9' = some cs10' ∧
         ∃ s11', asS (cs10'.getD 0 undef) = some s11' ∧
         ∃ x12', asI .i64 (cs10'.getD 1 undef) = some x12' ∧
         Cn Try.prog 14 #[.int .i64 3, .slice s4'.1 s4'.2.1 s4'.2.2] N9' fun v13' N13' =>
          ∃ cs14', asU 2 v13' = some cs14' ∧
          ∃ s15', asS (cs14'.getD 0 undef) = some s15' ∧
          ∃ x16', asI .i64 (cs14'.getD 1 undef) = some x16' ∧
          Cn Try.prog 13 #[.int .i64 3, .slice s15'.1 s15'.2.1 s15'.2.2] N13' fun v17' N17' =>
           ∃ cs18', asU 2 v17' = some cs18' ∧
           ∃ s19', asS (cs18'.getD 0 undef) = some s19' ∧
           ∃ x20', asI .i64 (cs18'.getD 1 undef) = some x20' ∧
           ((x8' = 0 →
            A4_1 s4'.1 s4'.2.1 s4'.2.2 s11'.1 s11'.2.1 s11'.2.2 x16' s19'.1 s19'.2.1 s19'.2.2 x20' (x12' == 0) N17' Q) ∧
            (x8' ≠ 0 →
            A4_1 s4'.1 s4'.2.1 s4'.2.2 s11'.1 s11'.2.1 s11'.2.2 x16' s19'.1 s19'.2.1 s19'.2.2 x20' false N17' Q))))) :
    Cn Try.prog 4 #[.slice Ax0 lx0 cx0] M Q := by
  refine Cn.of b4 d4 t4 ?_
  refine Rn.seq k4_0 (Rn.region k4_1 (fun call K => r4_0) (Rch.leaf (Rn.seq k4_2 (Rn.seq k4_3 (Rn.region k4_4 (fun call K => r4_1) (Rch.call H fun v1' N1' H => Rch.ex H fun b2' H => Rch.leaf ?_))))))
  refine Rn.cnd (v := !b2') ⟨c4_5, rfl, by kernel_rfl⟩ (fun h => ?_) (fun h => ?_)
  · replace H := H.1 (h)
    refine Rn.seq k4_6 (Rn.region k4_7 (fun call K => r4_2) (Rch.leaf ?_))
    exact Rn.ret k4_8 e4 H
  · replace H := H.2 (h)
    refine Rn.skip k4_10 (Rn.seq k4_11 (Rn.region k4_12 (fun call K => r4_3) (Rch.call H fun v3' N3' H => Rch.ex H fun s4' H => Rch.leaf (Rn.seq k4_13 (Rn.region k4_14 (fun call K => r4_4) (Rch.call H fun v5' N5' H => Rch.ex H fun cs6' H => Rch.ex H fun s7' H => Rch.ex H fun x8' H => ?_))))))
    refine Rch.leaf (Rn.seq k4_15 (Rn.region k4_16 (fun call K => r4_5) (Rch.call H fun v9' N9' H => Rch.ex H fun cs10' H => Rch.ex H fun s11' H => Rch.ex H fun x12' H => Rch.leaf (Rn.seq k4_17 (Rn.region k4_18 (fun call K => r4_6) (Rch.call H fun v13' N13' H => Rch.ex H fun cs14' H => ?_))))))
    refine Rch.ex H fun s15' H => Rch.ex H fun x16' H => Rch.leaf (Rn.seq k4_19 (Rn.region k4_20 (fun call K => r4_7) (Rch.call H fun v17' N17' H => Rch.ex H fun cs18' H => Rch.ex H fun s19' H => Rch.ex H fun x20' H => Rch.leaf (Rn.seq k4_21 (Rn.regionC k4_23 ?_)))))
    refine Rg.step (d := 7) (j := 7) (fun call K => r4_8p0) rfl rfl ?_
    refine Rch.cB (fun h => ?_) (fun h => ?_)
    · replace H := H.1 (eq_of_beq h)
      refine Rch.rest ?_
      exact H _ _ _ _ _ _ _ _ _ _ _ _ _ _ _ _ _ _ _ _ _ _ _ _ _ _ _ _ _ _ _ _ _ _ _ _ _ _ _ _ _ _ _ _ _ _ _ _ _ _ _ _ _ _
    · replace H := H.2 (ne_of_beq_false h)
      refine Rch.rest ?_
      exact H _ _ _ _ _ _ _ _ _ _ _ _ _ _ _ _ _ _ _ _ _ _ _ _ _ _ _ _ _ _ _ _ _ _ _ _ _ _ _ _ _ _ _ _ _ _ _ _ _ _ _ _ _ _

theorem w4_1 {Ax3 : Option Addr} {lx3 cx3 : Nat} {Ax6 : Option Addr} {lx6 cx6 : Nat} {x9 : Int} {Ax10 : Option Addr} {lx10 cx10 : Nat} {x11 : Int} {x42 : Bool} {M : Mem} {Q : Value → Mem → Prop} (H :
    ((x42 = true →
     A4_2 Ax3 lx3 cx3 Ax6 lx6 cx6 Ax10 lx10 cx10 x11 (x9 == 0) M Q) ∧
     (x42 = false →
     A4_2 Ax3 lx3 cx3 Ax6 lx6 cx6 Ax10 lx10 cx10 x11 false M Q))) :
    A4_1 Ax3 lx3 cx3 Ax6 lx6 cx6 x9 Ax10 lx10 cx10 x11 x42 M Q := by
  intro g0 g1 g2 g4 g5 g7 g8 g12 g13 g14 g15 g16 g17 g18 g19 g20 g21 g22 g23 g24 g25 g26 g27 g28 g29 g30 g31 g32 g33 g34 g35 g36 g37 g38 g39 g40 g41 g43 g44 g45 g46 g47 g48 g49 g50 g51 g52 g53 g54 g55 g56 g57 g58 g59
  refine Rg.step (d := 4) (j := 11) (fun call K => r4_8p7) rfl rfl ?_
  refine Rch.cB (fun h => ?_) (fun h => ?_)
  · replace H := H.1 (h)
    refine Rch.rest ?_
    exact H _ _ _ _ _ _ _ _ _ _ _ _ _ _ _ _ _ _ _ _ _ _ _ _ _ _ _ _ _ _ _ _ _ _ _ _ _ _ _ _ _ _ _ _ _ _ _ _ _ _ _ _ _ _ _
  · replace H := H.2 (h)
    refine Rch.rest ?_
    exact H _ _ _ _ _ _ _ _ _ _ _ _ _ _ _ _ _ _ _ _ _ _ _ _ _ _ _ _ _ _ _ _ _ _ _ _ _ _ _ _ _ _ _ _ _ _ _ _ _ _ _ _ _ _ _

theorem w4_2 {Ax3 : Option Addr} {lx3 cx3 : Nat} {Ax6 : Option Addr} {lx6 cx6 : Nat} {Ax10 : Option Addr} {lx10 cx10 : Nat} {x11 : Int} {x46 : Bool} {M : Mem} {Q : Value → Mem → Prop} (H :
    ((x46 = true →
     A4_3 Ax3 lx3 cx3 Ax6 lx6 cx6 Ax10 lx10 cx10 (x11 == 0) M Q) ∧
     (x46 = false →
     A4_3 Ax3 lx3 cx3 Ax6 lx6 cx6 Ax10 lx10 cx10 false M Q))) :
    A4_2 Ax3 lx3 cx3 Ax6 lx6 cx6 Ax10 lx10 cx10 x11 x46 M Q := by
  intro g0 g1 g2 g4 g5 g7 g8 g9 g12 g13 g14 g15 g16 g17 g18 g19 g20 g21 g22 g23 g24 g25 g26 g27 g28 g29 g30 g31 g32 g33 g34 g35 g36 g37 g38 g39 g40 g41 g42 g43 g44 g45 g47 g48 g49 g50 g51 g52 g53 g54 g55 g56 g57 g58 g59
  refine Rg.step (d := 4) (j := 15) (fun call K => r4_8p11) rfl rfl ?_
  refine Rch.cB (fun h => ?_) (fun h => ?_)
  · replace H := H.1 (h)
    refine Rch.rest ?_
    exact H _ _ _ _ _ _ _ _ _ _ _ _ _ _ _ _ _ _ _ _ _ _ _ _ _ _ _ _ _ _ _ _ _ _ _ _ _ _ _ _ _ _ _ _ _ _ _ _ _ _ _ _ _ _ _ _
  · replace H := H.2 (h)
    refine Rch.rest ?_
    exact H _ _ _ _ _ _ _ _ _ _ _ _ _ _ _ _ _ _ _ _ _ _ _ _ _ _ _ _ _ _ _ _ _ _ _ _ _ _ _ _ _ _ _ _ _ _ _ _ _ _ _ _ _ _ _ _

theorem w4_3 {Ax3 : Option Addr} {lx3 cx3 : Nat} {Ax6 : Option Addr} {lx6 cx6 : Nat} {Ax10 : Option Addr} {lx10 cx10 : Nat} {x50 : Bool} {M : Mem} {Q : Value → Mem → Prop} (H :
    ((x50 = true →
     Cn Try.prog 15 #[.slice Ax6 lx6 cx6, .slice Ax3 lx3 cx3] M fun v21' N21' =>
      ∃ b22', asB v21' = some b22' ∧
      A4_4 Ax3 lx3 cx3 Ax10 lx10 cx10 b22' N21' Q) ∧
     (x50 = false →
     A4_4 Ax3 lx3 cx3 Ax10 lx10 cx10 false M Q))) :
    A4_3 Ax3 lx3 cx3 Ax6 lx6 cx6 Ax10 lx10 cx10 x50 M Q := by
  intro g0 g1 g2 g4 g5 g7 g8 g9 g11 g12 g13 g14 g15 g16 g17 g18 g19 g20 g21 g22 g23 g24 g25 g26 g27 g28 g29 g30 g31 g32 g33 g34 g35 g36 g37 g38 g39 g40 g41 g42 g43 g44 g45 g46 g47 g48 g49 g51 g52 g53 g54 g55 g56 g57 g58 g59
  refine Rg.step (d := 5) (j := 20) (fun call K => r4_8p15) rfl rfl ?_
  refine Rch.cB (fun h => ?_) (fun h => ?_)
  · replace H := H.1 (h)
    refine Rch.call H fun v21' N21' H => Rch.ex H fun b22' H => Rch.rest ?_
    exact H _ _ _ _ _ _ _ _ _ _ _ _ _ _ _ _ _ _ _ _ _ _ _ _ _ _ _ _ _ _ _ _ _ _ _ _ _ _ _ _ _ _ _ _ _ _ _ _ _ _ _ _ _ _ _ _ _
  · replace H := H.2 (h)
    refine Rch.rest ?_
    exact H _ _ _ _ _ _ _ _ _ _ _ _ _ _ _ _ _ _ _ _ _ _ _ _ _ _ _ _ _ _ _ _ _ _ _ _ _ _ _ _ _ _ _ _ _ _ _ _ _ _ _ _ _ _ _ _ _

theorem w4_4 {Ax3 : Option Addr} {lx3 cx3 : Nat} {Ax10 : Option Addr} {lx10 cx10 : Nat} {x55 : Bool} {M : Mem} {Q : Value → Mem → Prop} (H :
    ((x55 = true →
     Cn Try.prog 15 #[.slice Ax10 lx10 cx10, .slice Ax3 lx3 cx3] M fun v23' N23' =>
      ∃ b24', asB v23' = some b24' ∧
      Q (.bool b24') N23') ∧
     (x55 = false →
     Q (.bool false) M))) :
    A4_4 Ax3 lx3 cx3 Ax10 lx10 cx10 x55 M Q := by
  intro g0 g1 g2 g4 g5 g6 g7 g8 g9 g11 g12 g13 g14 g15 g16 g17 g18 g19 g20 g21 g22 g23 g24 g25 g26 g27 g28 g29 g30 g31 g32 g33 g34 g35 g36 g37 g38 g39 g40 g41 g42 g43 g44 g45 g46 g47 g48 g49 g50 g51 g52 g53 g54 g56 g57 g58 g59
  refine Rg.step (d := 5) (j := 25) (fun call K => r4_8p20) rfl rfl ?_
  refine Rch.cB (fun h => ?_) (fun h => ?_)
  · replace H := H.1 (h)
    refine Rch.call H fun v23' N23' H => Rch.ex H fun b24' H => Rch.rest (Rg.done rfl ?_)
    exact Rn.ret k4_24 e4 H
  · replace H := H.2 (h)
    refine Rch.rest (Rg.done rfl ?_)
    exact Rn.ret k4_24 e4 H


end Go.Zt
