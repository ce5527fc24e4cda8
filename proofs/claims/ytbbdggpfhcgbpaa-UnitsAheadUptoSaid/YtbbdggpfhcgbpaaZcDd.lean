/- The functions' walks: for each function and each loop a rule of what it comes to. Printed by zw.py. -/
import Derived.Test.YtbbdggpfhcgbpaaProg
import Derived.Test.YtbbdggpfhcgbpaaZcA
set_option linter.unusedVariables false
set_option maxRecDepth 100000
namespace Go.Zt
open Go Go.Sim Go.Proofs

variable {g0 g1 g2 g3 g4 g5 g6 g7 g8 g9 g10 g11 g12 g13 g14 g15 g16 g17 g18 g19 g20 g21 g22 g23 g24 g25 g26 g27 g28 g29 g30 g31 g32 g33 g34 g35 g36 g37 g38 g39 g40 g41 g42 g43 g44 g45 g46 g47 g48 g49 g50 g51 g52 : Value}
/-! ### zoetrope/zoetropelaw19.UnitsJoins: function 4 -/
noncomputable abbrev P4 (p : List Nat) : Code := subC (codeOf Try.f4) p
noncomputable abbrev O4 (p : List Nat) : Array Oper := opsOf (subC (codeOf Try.f4) p)
theorem b4 : Try.prog.funcs[4]? = some Try.f4 ∧ (Orc.tab Try.prog).lookup 4 = none := ⟨by kernel_rfl, by kernel_rfl⟩
theorem d4 : Try.f4.body = some (P4 []) := by kernel_rfl
theorem t4 {Ax0 : Option Addr} {lx0 cx0 : Nat} : #[.slice Ax0 lx0 cx0] ++ Array.replicate (Try.f4.ntmps - (#[.slice Ax0 lx0 cx0] : Array Value).size) undef = #[.slice Ax0 lx0 cx0,undef,undef,undef,undef,undef,undef,undef,undef,undef,undef,undef,undef,undef,undef,undef,undef,undef,undef,undef,undef,undef,undef,undef,undef,undef,undef,undef,undef,undef,undef,undef,undef,undef,undef,undef,undef,undef,undef,undef,undef,undef,undef,undef,undef,undef,undef,undef,undef,undef,undef,undef,undef] := by kernel_rfl
theorem k4_0 : P4 [] = .seq (P4 [0]) (P4 [1]) := by kernel_rfl
theorem k4_1 : P4 [0] = .region 0 (O4 [0]) false := by kernel_rfl
theorem r4_0 {M : Mem} {call : CallM} {K : Array Value → Mem → R} :
    opsK Try.prog (fun _ => call) (O4 [0]) (O4 [0]).toList 0 #[g0,g1,g2,g3,g4,g5,g6,g7,g8,g9,g10,g11,g12,g13,g14,g15,g16,g17,g18,g19,g20,g21,g22,g23,g24,g25,g26,g27,g28,g29,g30,g31,g32,g33,g34,g35,g36,g37,g38,g39,g40,g41,g42,g43,g44,g45,g46,g47,g48,g49,g50,g51,g52] M K = K #[g0,g1,.bool false,g3,g4,g5,g6,g7,g8,g9,g10,g11,g12,g13,g14,g15,g16,g17,g18,g19,g20,g21,g22,g23,g24,g25,g26,g27,g28,g29,g30,g31,g32,g33,g34,g35,g36,g37,g38,g39,g40,g41,g42,g43,g44,g45,g46,g47,g48,g49,g50,g51,g52] M := by kernel_rfl
theorem k4_2 : P4 [1] = .seq (P4 [1,0]) (P4 [1,1]) := by kernel_rfl
theorem k4_3 : P4 [1,0] = .region 1 (O4 [1,0]) false := by kernel_rfl
theorem r4_1 {Ax0 : Option Addr} {lx0 cx0 : Nat} {M : Mem} {call : CallM} {K : Array Value → Mem → R} :
    opsK Try.prog (fun _ => call) (O4 [1,0]) (O4 [1,0]).toList 0 #[.slice Ax0 lx0 cx0,g1,g2,g3,g4,g5,g6,g7,g8,g9,g10,g11,g12,g13,g14,g15,g16,g17,g18,g19,g20,g21,g22,g23,g24,g25,g26,g27,g28,g29,g30,g31,g32,g33,g34,g35,g36,g37,g38,g39,g40,g41,g42,g43,g44,g45,g46,g47,g48,g49,g50,g51,g52] M K = (call 17 #[.slice Ax0 lx0 cx0] M).bind fun r_1 => (asS r_1.1).bind fun s_2 => K #[.slice Ax0 lx0 cx0,g1,g2,.slice s_2.1 (s_2.2.1) (s_2.2.2),g4,g5,g6,g7,g8,g9,.slice Ax0 lx0 cx0,.slice s_2.1 (s_2.2.1) (s_2.2.2),g12,g13,g14,g15,g16,g17,g18,g19,g20,g21,g22,g23,g24,g25,g26,g27,g28,g29,g30,g31,g32,g33,g34,g35,g36,g37,g38,g39,g40,g41,g42,g43,g44,g45,g46,g47,g48,g49,g50,g51,g52] r_1.2 := by kernel_rfl
theorem k4_4 : P4 [1,1] = .seq (P4 [1,1,0]) (P4 [1,1,1]) := by kernel_rfl
theorem k4_5 : P4 [1,1,0] = .region 2 (O4 [1,1,0]) false := by kernel_rfl
theorem r4_2 {Ax3 : Option Addr} {lx3 cx3 : Nat} {M : Mem} {call : CallM} {K : Array Value → Mem → R} :
    opsK Try.prog (fun _ => call) (O4 [1,1,0]) (O4 [1,1,0]).toList 0 #[g0,g1,g2,.slice Ax3 lx3 cx3,g4,g5,g6,g7,g8,g9,g10,g11,g12,g13,g14,g15,g16,g17,g18,g19,g20,g21,g22,g23,g24,g25,g26,g27,g28,g29,g30,g31,g32,g33,g34,g35,g36,g37,g38,g39,g40,g41,g42,g43,g44,g45,g46,g47,g48,g49,g50,g51,g52] M K = (call 18 #[.slice Ax3 lx3 cx3] M).bind fun r_1 => (asU 2 r_1.1).bind fun cs_2 => (asS (cs_2.getD 0 undef)).bind fun s_3 => (asI .i64 (cs_2.getD 1 undef)).bind fun x_4 => K #[g0,g1,g2,.slice Ax3 lx3 cx3,.slice s_3.1 (s_3.2.1) (s_3.2.2),.int .i64 x_4,g6,g7,g8,g9,g10,g11,.tuple #[.slice s_3.1 (s_3.2.1) (s_3.2.2), .int .i64 x_4],.slice Ax3 lx3 cx3,.tuple #[.slice s_3.1 (s_3.2.1) (s_3.2.2), .int .i64 x_4],.slice s_3.1 (s_3.2.1) (s_3.2.2),.int .i64 x_4,g17,g18,g19,g20,g21,g22,g23,g24,g25,g26,g27,g28,g29,g30,g31,g32,g33,g34,g35,g36,g37,g38,g39,g40,g41,g42,g43,g44,g45,g46,g47,g48,g49,g50,g51,g52] r_1.2 := by kernel_rfl
theorem k4_6 : P4 [1,1,1] = .seq (P4 [1,1,1,0]) (P4 [1,1,1,1]) := by kernel_rfl
theorem k4_7 : P4 [1,1,1,0] = .region 3 (O4 [1,1,1,0]) false := by kernel_rfl
theorem r4_3 {Ax0 : Option Addr} {lx0 cx0 : Nat} {M : Mem} {call : CallM} {K : Array Value → Mem → R} :
    opsK Try.prog (fun _ => call) (O4 [1,1,1,0]) (O4 [1,1,1,0]).toList 0 #[.slice Ax0 lx0 cx0,g1,g2,g3,g4,g5,g6,g7,g8,g9,g10,g11,g12,g13,g14,g15,g16,g17,g18,g19,g20,g21,g22,g23,g24,g25,g26,g27,g28,g29,g30,g31,g32,g33,g34,g35,g36,g37,g38,g39,g40,g41,g42,g43,g44,g45,g46,g47,g48,g49,g50,g51,g52] M K = (call 19 #[.slice Ax0 lx0 cx0] M).bind fun r_1 => (asU 2 r_1.1).bind fun cs_2 => (asS (cs_2.getD 0 undef)).bind fun s_3 => (asI .i64 (cs_2.getD 1 undef)).bind fun x_4 => K #[.slice Ax0 lx0 cx0,g1,g2,g3,g4,g5,.slice s_3.1 (s_3.2.1) (s_3.2.2),.int .i64 x_4,g8,g9,g10,g11,g12,g13,g14,g15,g16,.tuple #[.slice s_3.1 (s_3.2.1) (s_3.2.2), .int .i64 x_4],.slice Ax0 lx0 cx0,.tuple #[.slice s_3.1 (s_3.2.1) (s_3.2.2), .int .i64 x_4],.slice s_3.1 (s_3.2.1) (s_3.2.2),.int .i64 x_4,g22,g23,g24,g25,g26,g27,g28,g29,g30,g31,g32,g33,g34,g35,g36,g37,g38,g39,g40,g41,g42,g43,g44,g45,g46,g47,g48,g49,g50,g51,g52] r_1.2 := by kernel_rfl
theorem k4_8 : P4 [1,1,1,1] = .seq (P4 [1,1,1,1,0]) (P4 [1,1,1,1,1]) := by kernel_rfl
theorem k4_9 : P4 [1,1,1,1,0] = .region 4 (O4 [1,1,1,1,0]) false := by kernel_rfl
theorem r4_4 {Ax4 : Option Addr} {lx4 cx4 : Nat} {x5 : Int} {Ax6 : Option Addr} {lx6 cx6 : Nat} {x7 : Int} {M : Mem} {call : CallM} {K : Array Value → Mem → R} :
    opsK Try.prog (fun _ => call) (O4 [1,1,1,1,0]) (O4 [1,1,1,1,0]).toList 0 #[g0,g1,g2,g3,.slice Ax4 lx4 cx4,.int .i64 x5,.slice Ax6 lx6 cx6,.int .i64 x7,g8,g9,g10,g11,g12,g13,g14,g15,g16,g17,g18,g19,g20,g21,g22,g23,g24,g25,g26,g27,g28,g29,g30,g31,g32,g33,g34,g35,g36,g37,g38,g39,g40,g41,g42,g43,g44,g45,g46,g47,g48,g49,g50,g51,g52] M K = withK (fun w8 w24 w25 w26 w27 w28 w29 M => K #[g0,g1,g2,g3,.slice Ax4 lx4 cx4,.int .i64 x5,.slice Ax6 lx6 cx6,.int .i64 x7,w8,g9,g10,g11,g12,g13,g14,g15,g16,g17,g18,g19,g20,g21,.slice Ax4 lx4 cx4,.slice Ax6 lx6 cx6,w24,w25,w26,w27,w28,w29,g30,g31,g32,g33,g34,g35,g36,g37,g38,g39,g40,g41,g42,g43,g44,g45,g46,g47,g48,g49,g50,g51,g52] M) fun k => (call 15 #[.slice Ax4 lx4 cx4, .slice Ax6 lx6 cx6] M).bind fun r_1 => (asB r_1.1).bind fun b_2 => cond b_2 (k (.bool (x5 == x7)) (.bool b_2) (.bool true) (.int .i64 x5) (.int .i64 x7) (.bool (x5 == x7)) (.bool (x5 == x7)) r_1.2) (k (.bool false) (.bool b_2) (.bool false) undef undef undef (.bool false) r_1.2) := by kernel_rfl
theorem k4_10 : P4 [1,1,1,1,1] = .seq (P4 [1,1,1,1,1,0]) (P4 [1,1,1,1,1,1]) := by kernel_rfl
theorem k4_11 : P4 [1,1,1,1,1,0] = .seq (P4 [1,1,1,1,1,0,0]) (P4 [1,1,1,1,1,0,1]) := by kernel_rfl
theorem k4_12 : P4 [1,1,1,1,1,0,0] = .region 5 (O4 [1,1,1,1,1,0,0]) false := by kernel_rfl
theorem r4_5 {M : Mem} {call : CallM} {K : Array Value → Mem → R} :
    opsK Try.prog (fun _ => call) (O4 [1,1,1,1,1,0,0]) (O4 [1,1,1,1,1,0,0]).toList 0 #[g0,g1,g2,g3,g4,g5,g6,g7,g8,g9,g10,g11,g12,g13,g14,g15,g16,g17,g18,g19,g20,g21,g22,g23,g24,g25,g26,g27,g28,g29,g30,g31,g32,g33,g34,g35,g36,g37,g38,g39,g40,g41,g42,g43,g44,g45,g46,g47,g48,g49,g50,g51,g52] M K = K #[g0,g1,g2,g3,g4,g5,g6,g7,g8,.int .i64 0,g10,g11,g12,g13,g14,g15,g16,g17,g18,g19,g20,g21,g22,g23,g24,g25,g26,g27,g28,g29,g30,g31,g32,g33,g34,g35,g36,g37,g38,g39,g40,g41,g42,g43,g44,g45,g46,g47,g48,g49,g50,g51,g52] M := by kernel_rfl
theorem k4_13 : P4 [1,1,1,1,1,0,1] = .block 0 (P4 [1,1,1,1,1,0,1,0]) := by kernel_rfl
theorem k4_14 : P4 [1,1,1,1,1,0,1,0] = .loop (P4 [1,1,1,1,1,0,1,0,0]) := by kernel_rfl
theorem k4_15 : P4 [1,1,1,1,1,0,1,0,0] = .seq (P4 [1,1,1,1,1,0,1,0,0,0]) (P4 [1,1,1,1,1,0,1,0,0,1]) := by kernel_rfl
theorem k4_16 : P4 [1,1,1,1,1,0,1,0,0,0] = .seq (P4 [1,1,1,1,1,0,1,0,0,0,0]) (P4 [1,1,1,1,1,0,1,0,0,0,1]) := by kernel_rfl
theorem k4_17 : P4 [1,1,1,1,1,0,1,0,0,0,0] = .region 6 (O4 [1,1,1,1,1,0,1,0,0,0,0]) false := by kernel_rfl
theorem r4_6 {Ax4 : Option Addr} {lx4 cx4 : Nat} {x9 : Int} {M : Mem} {call : CallM} {K : Array Value → Mem → R} :
    opsK Try.prog (fun _ => call) (O4 [1,1,1,1,1,0,1,0,0,0,0]) (O4 [1,1,1,1,1,0,1,0,0,0,0]).toList 0 #[g0,g1,g2,g3,.slice Ax4 lx4 cx4,g5,g6,g7,g8,.int .i64 x9,g10,g11,g12,g13,g14,g15,g16,g17,g18,g19,g20,g21,g22,g23,g24,g25,g26,g27,g28,g29,g30,g31,g32,g33,g34,g35,g36,g37,g38,g39,g40,g41,g42,g43,g44,g45,g46,g47,g48,g49,g50,g51,g52] M K = K #[g0,g1,g2,g3,.slice Ax4 lx4 cx4,g5,g6,g7,g8,.int .i64 x9,g10,g11,g12,g13,g14,g15,g16,g17,g18,g19,g20,g21,g22,g23,g24,g25,g26,g27,g28,g29,.int .i64 x9,.slice Ax4 lx4 cx4,.int .i64 ((lx4 : Int)),.bool (decide (x9 < ((lx4 : Int)))),g34,g35,g36,g37,g38,g39,g40,g41,g42,g43,g44,g45,g46,g47,g48,g49,g50,g51,g52] M := by kernel_rfl
theorem c4_18 : P4 [1,1,1,1,1,0,1,0,0,0,1] = .cond (.tmp 33) (P4 [1,1,1,1,1,0,1,0,0,0,1,0]) (P4 [1,1,1,1,1,0,1,0,0,0,1,1]) := by kernel_rfl
theorem k4_19 : P4 [1,1,1,1,1,0,1,0,0,0,1,0] = .skip := by kernel_rfl
theorem k4_20 : P4 [1,1,1,1,1,0,1,0,0,1] = .seq (P4 [1,1,1,1,1,0,1,0,0,1,0]) (P4 [1,1,1,1,1,0,1,0,0,1,1]) := by kernel_rfl
theorem k4_21 : P4 [1,1,1,1,1,0,1,0,0,1,0] = .block 1 (P4 [1,1,1,1,1,0,1,0,0,1,0,0]) := by kernel_rfl
theorem k4_22 : P4 [1,1,1,1,1,0,1,0,0,1,0,0] = .region 8 (O4 [1,1,1,1,1,0,1,0,0,1,0,0]) false := by kernel_rfl
theorem r4_8 {Ax4 : Option Addr} {lx4 cx4 : Nat} {x9 : Int} {M : Mem} {call : CallM} {K : Array Value → Mem → R} :
    opsK Try.prog (fun _ => call) (O4 [1,1,1,1,1,0,1,0,0,1,0,0]) (O4 [1,1,1,1,1,0,1,0,0,1,0,0]).toList 0 #[g0,g1,g2,g3,.slice Ax4 lx4 cx4,g5,g6,g7,g8,.int .i64 x9,g10,g11,g12,g13,g14,g15,g16,g17,g18,g19,g20,g21,g22,g23,g24,g25,g26,g27,g28,g29,g30,g31,g32,g33,g34,g35,g36,g37,g38,g39,g40,g41,g42,g43,g44,g45,g46,g47,g48,g49,g50,g51,g52] M K = (idxA Ax4 lx4 1 x9).bind fun a_1 => (M.intAt .u8 a_1.block a_1.off).bind fun x_2 => (idxA Ax4 lx4 1 x9).bind fun a_3 => (M.put a_3.block a_3.off (.int .u8 (IntKind.u8.wrap (((BitVec.ofInt (IntKind.bits .u8) x_2 ^^^ BitVec.ofInt (IntKind.bits .u8) 255).toNat : Int))))).bind fun M_4 => K #[g0,g1,g2,g3,.slice Ax4 lx4 cx4,g5,g6,g7,g8,.int .i64 x9,g10,g11,g12,g13,g14,g15,g16,g17,g18,g19,g20,g21,g22,g23,g24,g25,g26,g27,g28,g29,g30,g31,g32,g33,g34,g35,.slice Ax4 lx4 cx4,.int .i64 x9,.slice Ax4 lx4 cx4,.int .i64 x9,.pointer (some a_1),.int .u8 x_2,.int .u8 (IntKind.u8.wrap (((BitVec.ofInt (IntKind.bits .u8) x_2 ^^^ BitVec.ofInt (IntKind.bits .u8) 255).toNat : Int))),.pointer (some a_3),g44,g45,g46,g47,g48,g49,g50,g51,g52] M_4 := by kernel_rfl
theorem k4_23 : P4 [1,1,1,1,1,0,1,0,0,1,1] = .region 7 (O4 [1,1,1,1,1,0,1,0,0,1,1]) false := by kernel_rfl
theorem r4_7 {x9 : Int} {M : Mem} {call : CallM} {K : Array Value → Mem → R} :
    opsK Try.prog (fun _ => call) (O4 [1,1,1,1,1,0,1,0,0,1,1]) (O4 [1,1,1,1,1,0,1,0,0,1,1]).toList 0 #[g0,g1,g2,g3,g4,g5,g6,g7,g8,.int .i64 x9,g10,g11,g12,g13,g14,g15,g16,g17,g18,g19,g20,g21,g22,g23,g24,g25,g26,g27,g28,g29,g30,g31,g32,g33,g34,g35,g36,g37,g38,g39,g40,g41,g42,g43,g44,g45,g46,g47,g48,g49,g50,g51,g52] M K = K #[g0,g1,g2,g3,g4,g5,g6,g7,g8,.int .i64 (IntKind.i64.wrap (x9 + 1)),g10,g11,g12,g13,g14,g15,g16,g17,g18,g19,g20,g21,g22,g23,g24,g25,g26,g27,g28,g29,g30,g31,g32,g33,.int .i64 x9,.int .i64 (IntKind.i64.wrap (x9 + 1)),g36,g37,g38,g39,g40,g41,g42,g43,g44,g45,g46,g47,g48,g49,g50,g51,g52] M := by kernel_rfl
theorem k4_24 : P4 [1,1,1,1,1,0,1,0,0,0,1,1] = .exit 0 := by kernel_rfl
theorem k4_25 : P4 [1,1,1,1,1,1] = .seq (P4 [1,1,1,1,1,1,0]) (P4 [1,1,1,1,1,1,1]) := by kernel_rfl
theorem k4_26 : P4 [1,1,1,1,1,1,0] = .region 9 (O4 [1,1,1,1,1,1,0]) false := by kernel_rfl
theorem r4_9 {Ax0 : Option Addr} {lx0 cx0 : Nat} {Ax3 : Option Addr} {lx3 cx3 : Nat} {x8 : Bool} {M : Mem} {call : CallM} {K : Array Value → Mem → R} :
    opsK Try.prog (fun _ => call) (O4 [1,1,1,1,1,1,0]) (O4 [1,1,1,1,1,1,0]).toList 0 #[.slice Ax0 lx0 cx0,g1,g2,.slice Ax3 lx3 cx3,g4,g5,g6,g7,.bool x8,g9,g10,g11,g12,g13,g14,g15,g16,g17,g18,g19,g20,g21,g22,g23,g24,g25,g26,g27,g28,g29,g30,g31,g32,g33,g34,g35,g36,g37,g38,g39,g40,g41,g42,g43,g44,g45,g46,g47,g48,g49,g50,g51,g52] M K = withK (fun w2 w45 w46 w47 w48 w49 w50 w51 w52 M => K #[.slice Ax0 lx0 cx0,g1,w2,.slice Ax3 lx3 cx3,g4,g5,g6,g7,.bool x8,g9,g10,g11,g12,g13,g14,g15,g16,g17,g18,g19,g20,g21,g22,g23,g24,g25,g26,g27,g28,g29,g30,g31,g32,g33,g34,g35,g36,g37,g38,g39,g40,g41,g42,g43,.bool x8,w45,w46,w47,w48,w49,w50,w51,w52] M) fun k => cond x8 ((call 13 #[.slice Ax3 lx3 cx3, .slice Ax0 lx0 cx0] M).bind fun r_1 => (asB r_1.1).bind fun b_2 => cond b_2 ((call 16 #[] r_1.2).bind fun r_3 => (asB r_3.1).bind fun b_4 => k (.bool b_4) (.bool true) (.slice Ax3 lx3 cx3) (.slice Ax0 lx0 cx0) (.bool b_2) (.bool b_2) (.bool true) (.bool b_4) (.bool b_4) r_3.2) (k (.bool false) (.bool true) (.slice Ax3 lx3 cx3) (.slice Ax0 lx0 cx0) (.bool b_2) (.bool b_2) (.bool false) undef (.bool false) r_1.2)) (k (.bool false) (.bool false) undef undef undef (.bool false) (.bool false) undef (.bool false) M) := by kernel_rfl
theorem k4_27 : P4 [1,1,1,1,1,1,1] = .ret := by kernel_rfl
theorem e4 {M : Mem} : finish Try.prog Try.f4 #[g0,g1,g2,g3,g4,g5,g6,g7,g8,g9,g10,g11,g12,g13,g14,g15,g16,g17,g18,g19,g20,g21,g22,g23,g24,g25,g26,g27,g28,g29,g30,g31,g32,g33,g34,g35,g36,g37,g38,g39,g40,g41,g42,g43,g44,g45,g46,g47,g48,g49,g50,g51,g52] M = some (g2, M) := by kernel_rfl
noncomputable def S4_1 : List Item := [.code (P4 [1,1,1,1,1])]
def A4_1 (Ax0 : Option Addr) (lx0 cx0 : Nat) (Ax3 : Option Addr) (lx3 cx3 : Nat) (Ax4 : Option Addr) (lx4 cx4 : Nat) (x8 : Bool) (M : Mem) (Q : Value → Mem → Prop) : Prop := ∀ (g1 g2 g5 g6 g7 g9 g10 g11 g12 g13 g14 g15 g16 g17 g18 g19 g20 g21 g22 g23 g24 g25 g26 g27 g28 g29 g30 g31 g32 g33 g34 g35 g36 g37 g38 g39 g40 g41 g42 g43 g44 g45 g46 g47 g48 g49 g50 g51 g52 : Value), Rn Try.prog Try.f4 S4_1 #[.slice Ax0 lx0 cx0, g1, g2, .slice Ax3 lx3 cx3, .slice Ax4 lx4 cx4, g5, g6, g7, .bool x8, g9, g10, g11, g12, g13, g14, g15, g16, g17, g18, g19, g20, g21, g22, g23, g24, g25, g26, g27, g28, g29, g30, g31, g32, g33, g34, g35, g36, g37, g38, g39, g40, g41, g42, g43, g44, g45, g46, g47, g48, g49, g50, g51, g52] M Q
noncomputable def S4_2 : List Item := [.code (P4 [1,1,1,1,1,0,1,0,0]), .inLoop (P4 [1,1,1,1,1,0,1,0,0]), .inBlock 0, .code (P4 [1,1,1,1,1,1])]
def A4_2 (Ax0 : Option Addr) (lx0 cx0 : Nat) (Ax3 : Option Addr) (lx3 cx3 : Nat) (Ax4 : Option Addr) (lx4 cx4 : Nat) (x8 : Bool) (x9 : Int) (M : Mem) (Q : Value → Mem → Prop) : Prop := ∀ (g1 g2 g5 g6 g7 g10 g11 g12 g13 g14 g15 g16 g17 g18 g19 g20 g21 g22 g23 g24 g25 g26 g27 g28 g29 g30 g31 g32 g33 g34 g35 g36 g37 g38 g39 g40 g41 g42 g43 g44 g45 g46 g47 g48 g49 g50 g51 g52 : Value), Rn Try.prog Try.f4 S4_2 #[.slice Ax0 lx0 cx0, g1, g2, .slice Ax3 lx3 cx3, .slice Ax4 lx4 cx4, g5, g6, g7, .bool x8, .int .i64 x9, g10, g11, g12, g13, g14, g15, g16, g17, g18, g19, g20, g21, g22, g23, g24, g25, g26, g27, g28, g29, g30, g31, g32, g33, g34, g35, g36, g37, g38, g39, g40, g41, g42, g43, g44, g45, g46, g47, g48, g49, g50, g51, g52] M Q
theorem w4_0 {Ax0 : Option Addr} {lx0 cx0 : Nat} {M : Mem} {Q : Value → Mem → Prop} (H :
    Cn Try.prog 17 #[.slice Ax0 lx0 cx0] M fun v1' N1' =>
     ∃ s2', asS v1' = some s2' ∧
     Cn Try.prog 18 #[.slice s2'.1 s2'.2.1 s2'.2.2] N1' fun v3' N3' =>
      ∃ cs4', asU 2 v3' = some cs4' ∧
      ∃ s5', asS (cs4'.getD 0 undef) = some s5' ∧
      ∃ x6', asI .i64 (cs4'.getD 1 undef) = some x6' ∧
      Cn Try.prog 19 #[.slice Ax0 lx0 cx0] N3' fun v7' N7' =>
       ∃ cs8', asU 2 v7' = some cs8' ∧
       ∃ s9', asS (cs8'.getD 0 undef) = some s9' ∧
       ∃ x10', asI .i64 (cs8'.getD 1 undef) = some x10' ∧
       Cn Try.prog 15 #[.slice s5'.1 s5'.2.1 s5'.2.2, .slice s9'.1 s9'.2.1 s9'.2.2] N7' fun v11' N11' =>
        ∃ b12', asB v11' = some b12' ∧
        ((b12' = true →
         A4_1 Ax0 lx0 cx0 s2'.1 s2'.2.1 s2'.2.2 s5'.1 s5'.2.1 s5'.2.2 (x6' == x10') N11' Q) ∧
         (b12' = false →
         A4_1 Ax0 lx0 cx0 s2'.1 s2'.2.1 s2'.2.2 s5'.1 s5'.2.1 s5'.2.2 false N11' Q))) :
    Cn Try.prog 4 #[.slice Ax0 lx0 cx0] M Q := by
  refine Cn.of b4 d4 t4 ?_
  refine Rn.seq k4_0 (Rn.region k4_1 (fun call K => r4_0) (Rch.leaf (Rn.seq k4_2 (Rn.region k4_3 (fun call K => r4_1) (Rch.call H fun v1' N1' H => Rch.ex H fun s2' H => Rch.leaf (Rn.seq k4_4 (Rn.region k4_5 (fun call K => r4_2) (Rch.call H fun v3' N3' H => Rch.ex H fun cs4' H => ?_))))))))
  refine Rch.ex H fun s5' H => Rch.ex H fun x6' H => Rch.leaf (Rn.seq k4_6 (Rn.region k4_7 (fun call K => r4_3) (Rch.call H fun v7' N7' H => Rch.ex H fun cs8' H => Rch.ex H fun s9' H => Rch.ex H fun x10' H => Rch.leaf (Rn.seq k4_8 (Rn.region k4_9 (fun call K => r4_4) ?_)))))
  refine Rch.call H fun v11' N11' H => Rch.ex H fun b12' H => ?_
  refine Rch.cB (fun h => ?_) (fun h => ?_)
  · replace H := H.1 (h)
    refine Rch.leaf ?_
    exact H _ _ _ _ _ _ _ _ _ _ _ _ _ _ _ _ _ _ _ _ _ _ _ _ _ _ _ _ _ _ _ _ _ _ _ _ _ _ _ _ _ _ _ _ _ _ _ _ _
  · replace H := H.2 (h)
    refine Rch.leaf ?_
    exact H _ _ _ _ _ _ _ _ _ _ _ _ _ _ _ _ _ _ _ _ _ _ _ _ _ _ _ _ _ _ _ _ _ _ _ _ _ _ _ _ _ _ _ _ _ _ _ _ _

theorem w4_1 {Ax0 : Option Addr} {lx0 cx0 : Nat} {Ax3 : Option Addr} {lx3 cx3 : Nat} {Ax4 : Option Addr} {lx4 cx4 : Nat} {x8 : Bool} {M : Mem} {Q : Value → Mem → Prop} (H :
    A4_2 Ax0 lx0 cx0 Ax3 lx3 cx3 Ax4 lx4 cx4 x8 0 M Q) :
    A4_1 Ax0 lx0 cx0 Ax3 lx3 cx3 Ax4 lx4 cx4 x8 M Q := by
  intro g1 g2 g5 g6 g7 g9 g10 g11 g12 g13 g14 g15 g16 g17 g18 g19 g20 g21 g22 g23 g24 g25 g26 g27 g28 g29 g30 g31 g32 g33 g34 g35 g36 g37 g38 g39 g40 g41 g42 g43 g44 g45 g46 g47 g48 g49 g50 g51 g52
  refine Rn.seq k4_10 (Rn.seq k4_11 (Rn.region k4_12 (fun call K => r4_5) (Rch.leaf (Rn.block k4_13 (Rn.loop k4_14 ?_)))))
  exact H _ _ _ _ _ _ _ _ _ _ _ _ _ _ _ _ _ _ _ _ _ _ _ _ _ _ _ _ _ _ _ _ _ _ _ _ _ _ _ _ _ _ _ _ _ _ _ _

theorem w4_2 {Ax0 : Option Addr} {lx0 cx0 : Nat} {Ax3 : Option Addr} {lx3 cx3 : Nat} {Ax4 : Option Addr} {lx4 cx4 : Nat} {x8 : Bool} {x9 : Int} {M : Mem} {Q : Value → Mem → Prop} (H :
    ((x9 < ((lx4 : Int)) →
     ∃ a13', idxA Ax4 lx4 1 x9 = some a13' ∧
     ∃ x14', M.intAt .u8 a13'.block a13'.off = some x14' ∧
     ∃ a15', idxA Ax4 lx4 1 x9 = some a15' ∧
     ∃ M16', M.put a15'.block a15'.off (.int .u8 (IntKind.u8.wrap (((BitVec.ofInt (IntKind.bits .u8) x14' ^^^ BitVec.ofInt (IntKind.bits .u8) 255).toNat : Int)))) = some M16' ∧
     A4_2 Ax0 lx0 cx0 Ax3 lx3 cx3 Ax4 lx4 cx4 x8 (IntKind.i64.wrap (x9 + 1)) M16' Q) ∧
     (¬ (x9 < ((lx4 : Int))) →
     ((x8 = true →
      Cn Try.prog 13 #[.slice Ax3 lx3 cx3, .slice Ax0 lx0 cx0] M fun v17' N17' =>
       ∃ b18', asB v17' = some b18' ∧
       ((b18' = true →
        Cn Try.prog 16 #[] N17' fun v19' N19' =>
         ∃ b20', asB v19' = some b20' ∧
         Q (.bool b20') N19') ∧
        (b18' = false →
        Q (.bool false) N17'))) ∧
      (x8 = false →
      Q (.bool false) M))))) :
    A4_2 Ax0 lx0 cx0 Ax3 lx3 cx3 Ax4 lx4 cx4 x8 x9 M Q := by
  intro g1 g2 g5 g6 g7 g10 g11 g12 g13 g14 g15 g16 g17 g18 g19 g20 g21 g22 g23 g24 g25 g26 g27 g28 g29 g30 g31 g32 g33 g34 g35 g36 g37 g38 g39 g40 g41 g42 g43 g44 g45 g46 g47 g48 g49 g50 g51 g52
  refine Rn.seq k4_15 (Rn.seq k4_16 (Rn.region k4_17 (fun call K => r4_6) (Rch.leaf ?_)))
  refine Rn.cnd (v := decide (x9 < ((lx4 : Int)))) ⟨c4_18, rfl, by kernel_rfl⟩ (fun h => ?_) (fun h => ?_)
  · replace H := H.1 (of_decide_eq_true h)
    refine Rn.skip k4_19 (Rn.seq k4_20 (Rn.block k4_21 (Rn.region k4_22 (fun call K => r4_8) (Rch.ex H fun a13' H => Rch.ex H fun x14' H => Rch.ex H fun a15' H => Rch.ex H fun M16' H => Rch.leaf (Rn.blk (Rn.region k4_23 (fun call K => r4_7) (Rch.leaf ?_)))))))
    refine Rn.lp ?_
    exact H _ _ _ _ _ _ _ _ _ _ _ _ _ _ _ _ _ _ _ _ _ _ _ _ _ _ _ _ _ _ _ _ _ _ _ _ _ _ _ _ _ _ _ _ _ _ _ _
  · replace H := H.2 (of_decide_eq_false h)
    refine Rn.exit k4_24 rfl (Rn.seq k4_25 (Rn.region k4_26 (fun call K => r4_9) ?_))
    refine Rch.cB (fun h => ?_) (fun h => ?_)
    · replace H := H.1 (h)
      refine Rch.call H fun v17' N17' H => Rch.ex H fun b18' H => ?_
      refine Rch.cB (fun h => ?_) (fun h => ?_)
      · replace H := H.1 (h)
        refine Rch.call H fun v19' N19' H => Rch.ex H fun b20' H => Rch.leaf ?_
        exact Rn.ret k4_27 e4 H
      · replace H := H.2 (h)
        refine Rch.leaf ?_
        exact Rn.ret k4_27 e4 H
    · replace H := H.2 (h)
      refine Rch.leaf ?_
      exact Rn.ret k4_27 e4 H


end Go.Zt
