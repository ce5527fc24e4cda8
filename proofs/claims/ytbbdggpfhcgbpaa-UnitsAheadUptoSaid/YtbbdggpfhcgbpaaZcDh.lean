/- The functions' walks: for each function and each loop a rule of what it comes to. Printed by zw.py. -/
import Derived.Test.YtbbdggpfhcgbpaaProg
import Derived.Test.YtbbdggpfhcgbpaaZcA
set_option linter.unusedVariables false
set_option maxRecDepth 100000
namespace Go.Zt
open Go Go.Sim Go.Proofs

variable {g0 g1 g2 g3 g4 g5 g6 g7 g8 g9 g10 g11 g12 g13 g14 g15 g16 g17 g18 g19 g20 g21 g22 g23 g24 g25 g26 g27 g28 g29 g30 g31 g32 g33 g34 g35 g36 g37 g38 g39 g40 g41 g42 g43 g44 g45 g46 g47 g48 g49 g50 g51 g52 g53 g54 g55 g56 g57 g58 g59 g60 : Value}
/-! ### zoetrope/zoetropelaw19.UnitsAll: function 8 -/
noncomputable abbrev P8 (p : List Nat) : Code := subC (codeOf Try.f8) p
noncomputable abbrev O8 (p : List Nat) : Array Oper := opsOf (subC (codeOf Try.f8) p)
theorem b8 : Try.prog.funcs[8]? = some Try.f8 ∧ (Orc.tab Try.prog).lookup 8 = none := ⟨by kernel_rfl, by kernel_rfl⟩
theorem d8 : Try.f8.body = some (P8 []) := by kernel_rfl
theorem t8 {Ax0 : Option Addr} {lx0 cx0 : Nat} : #[.slice Ax0 lx0 cx0] ++ Array.replicate (Try.f8.ntmps - (#[.slice Ax0 lx0 cx0] : Array Value).size) undef = #[.slice Ax0 lx0 cx0,undef,undef,undef,undef,undef,undef,undef,undef,undef,undef,undef,undef,undef,undef,undef,undef,undef,undef,undef,undef,undef,undef,undef,undef,undef,undef,undef,undef,undef,undef,undef,undef,undef,undef,undef,undef,undef,undef,undef,undef,undef,undef,undef,undef,undef,undef,undef,undef,undef,undef,undef,undef,undef,undef,undef,undef,undef,undef,undef,undef] := by kernel_rfl
theorem k8_0 : P8 [] = .seq (P8 [0]) (P8 [1]) := by kernel_rfl
theorem k8_1 : P8 [0] = .region 0 (O8 [0]) false := by kernel_rfl
theorem r8_0 {M : Mem} {call : CallM} {K : Array Value → Mem → R} :
    opsK Try.prog (fun _ => call) (O8 [0]) (O8 [0]).toList 0 #[g0,g1,g2,g3,g4,g5,g6,g7,g8,g9,g10,g11,g12,g13,g14,g15,g16,g17,g18,g19,g20,g21,g22,g23,g24,g25,g26,g27,g28,g29,g30,g31,g32,g33,g34,g35,g36,g37,g38,g39,g40,g41,g42,g43,g44,g45,g46,g47,g48,g49,g50,g51,g52,g53,g54,g55,g56,g57,g58,g59,g60] M K = K #[g0,g1,.bool false,g3,g4,g5,g6,g7,g8,g9,g10,g11,g12,g13,g14,g15,g16,g17,g18,g19,g20,g21,g22,g23,g24,g25,g26,g27,g28,g29,g30,g31,g32,g33,g34,g35,g36,g37,g38,g39,g40,g41,g42,g43,g44,g45,g46,g47,g48,g49,g50,g51,g52,g53,g54,g55,g56,g57,g58,g59,g60] M := by kernel_rfl
theorem k8_2 : P8 [1] = .seq (P8 [1,0]) (P8 [1,1]) := by kernel_rfl
theorem k8_3 : P8 [1,0] = .seq (P8 [1,0,0]) (P8 [1,0,1]) := by kernel_rfl
theorem k8_4 : P8 [1,0,0] = .region 1 (O8 [1,0,0]) false := by kernel_rfl
theorem r8_1 {M : Mem} {call : CallM} {K : Array Value → Mem → R} :
    opsK Try.prog (fun _ => call) (O8 [1,0,0]) (O8 [1,0,0]).toList 0 #[g0,g1,g2,g3,g4,g5,g6,g7,g8,g9,g10,g11,g12,g13,g14,g15,g16,g17,g18,g19,g20,g21,g22,g23,g24,g25,g26,g27,g28,g29,g30,g31,g32,g33,g34,g35,g36,g37,g38,g39,g40,g41,g42,g43,g44,g45,g46,g47,g48,g49,g50,g51,g52,g53,g54,g55,g56,g57,g58,g59,g60] M K = (call 16 #[] M).bind fun r_1 => (asB r_1.1).bind fun b_2 => K #[g0,g1,g2,g3,g4,g5,g6,g7,.bool b_2,.bool (!b_2),g10,g11,g12,g13,g14,g15,g16,g17,g18,g19,g20,g21,g22,g23,g24,g25,g26,g27,g28,g29,g30,g31,g32,g33,g34,g35,g36,g37,g38,g39,g40,g41,g42,g43,g44,g45,g46,g47,g48,g49,g50,g51,g52,g53,g54,g55,g56,g57,g58,g59,g60] r_1.2 := by kernel_rfl
theorem c8_5 : P8 [1,0,1] = .cond (.tmp 9) (P8 [1,0,1,0]) (P8 [1,0,1,1]) := by kernel_rfl
theorem k8_6 : P8 [1,0,1,0] = .seq (P8 [1,0,1,0,0]) (P8 [1,0,1,0,1]) := by kernel_rfl
theorem k8_7 : P8 [1,0,1,0,0] = .region 2 (O8 [1,0,1,0,0]) false := by kernel_rfl
theorem r8_2 {M : Mem} {call : CallM} {K : Array Value → Mem → R} :
    opsK Try.prog (fun _ => call) (O8 [1,0,1,0,0]) (O8 [1,0,1,0,0]).toList 0 #[g0,g1,g2,g3,g4,g5,g6,g7,g8,g9,g10,g11,g12,g13,g14,g15,g16,g17,g18,g19,g20,g21,g22,g23,g24,g25,g26,g27,g28,g29,g30,g31,g32,g33,g34,g35,g36,g37,g38,g39,g40,g41,g42,g43,g44,g45,g46,g47,g48,g49,g50,g51,g52,g53,g54,g55,g56,g57,g58,g59,g60] M K = K #[g0,g1,.bool false,g3,g4,g5,g6,g7,g8,g9,g10,g11,g12,g13,g14,g15,g16,g17,g18,g19,g20,g21,g22,g23,g24,g25,g26,g27,g28,g29,g30,g31,g32,g33,g34,g35,g36,g37,g38,g39,g40,g41,g42,g43,g44,g45,g46,g47,g48,g49,g50,g51,g52,g53,g54,g55,g56,g57,g58,g59,g60] M := by kernel_rfl
theorem k8_8 : P8 [1,0,1,0,1] = .ret := by kernel_rfl
theorem e8 {M : Mem} : finish Try.prog Try.f8 #[g0,g1,g2,g3,g4,g5,g6,g7,g8,g9,g10,g11,g12,g13,g14,g15,g16,g17,g18,g19,g20,g21,g22,g23,g24,g25,g26,g27,g28,g29,g30,g31,g32,g33,g34,g35,g36,g37,g38,g39,g40,g41,g42,g43,g44,g45,g46,g47,g48,g49,g50,g51,g52,g53,g54,g55,g56,g57,g58,g59,g60] M = some (g2, M) := by kernel_rfl
theorem k8_10 : P8 [1,0,1,1] = .skip := by kernel_rfl
theorem k8_11 : P8 [1,1] = .seq (P8 [1,1,0]) (P8 [1,1,1]) := by kernel_rfl
theorem k8_12 : P8 [1,1,0] = .region 3 (O8 [1,1,0]) false := by kernel_rfl
theorem r8_3 {Ax0 : Option Addr} {lx0 cx0 : Nat} {M : Mem} {call : CallM} {K : Array Value → Mem → R} :
    opsK Try.prog (fun _ => call) (O8 [1,1,0]) (O8 [1,1,0]).toList 0 #[.slice Ax0 lx0 cx0,g1,g2,g3,g4,g5,g6,g7,g8,g9,g10,g11,g12,g13,g14,g15,g16,g17,g18,g19,g20,g21,g22,g23,g24,g25,g26,g27,g28,g29,g30,g31,g32,g33,g34,g35,g36,g37,g38,g39,g40,g41,g42,g43,g44,g45,g46,g47,g48,g49,g50,g51,g52,g53,g54,g55,g56,g57,g58,g59,g60] M K = (call 20 #[.slice Ax0 lx0 cx0] M).bind fun r_1 => (asU 2 r_1.1).bind fun cs_2 => (asS (cs_2.getD 0 undef)).bind fun s_3 => (asI .i64 (cs_2.getD 1 undef)).bind fun x_4 => K #[.slice Ax0 lx0 cx0,g1,g2,.slice s_3.1 (s_3.2.1) (s_3.2.2),.int .i64 x_4,g5,g6,g7,g8,g9,.tuple #[.slice s_3.1 (s_3.2.1) (s_3.2.2), .int .i64 x_4],.slice Ax0 lx0 cx0,.tuple #[.slice s_3.1 (s_3.2.1) (s_3.2.2), .int .i64 x_4],.slice s_3.1 (s_3.2.1) (s_3.2.2),.int .i64 x_4,g15,g16,g17,g18,g19,g20,g21,g22,g23,g24,g25,g26,g27,g28,g29,g30,g31,g32,g33,g34,g35,g36,g37,g38,g39,g40,g41,g42,g43,g44,g45,g46,g47,g48,g49,g50,g51,g52,g53,g54,g55,g56,g57,g58,g59,g60] r_1.2 := by kernel_rfl
theorem k8_13 : P8 [1,1,1] = .seq (P8 [1,1,1,0]) (P8 [1,1,1,1]) := by kernel_rfl
theorem k8_14 : P8 [1,1,1,0] = .seq (P8 [1,1,1,0,0]) (P8 [1,1,1,0,1]) := by kernel_rfl
theorem k8_15 : P8 [1,1,1,0,0] = .region 4 (O8 [1,1,1,0,0]) false := by kernel_rfl
theorem r8_4 {x4 : Int} {M : Mem} {call : CallM} {K : Array Value → Mem → R} :
    opsK Try.prog (fun _ => call) (O8 [1,1,1,0,0]) (O8 [1,1,1,0,0]).toList 0 #[g0,g1,g2,g3,.int .i64 x4,g5,g6,g7,g8,g9,g10,g11,g12,g13,g14,g15,g16,g17,g18,g19,g20,g21,g22,g23,g24,g25,g26,g27,g28,g29,g30,g31,g32,g33,g34,g35,g36,g37,g38,g39,g40,g41,g42,g43,g44,g45,g46,g47,g48,g49,g50,g51,g52,g53,g54,g55,g56,g57,g58,g59,g60] M K = K #[g0,g1,g2,g3,.int .i64 x4,g5,g6,g7,g8,g9,g10,g11,g12,g13,g14,.int .i64 x4,.bool (x4 != 0),g17,g18,g19,g20,g21,g22,g23,g24,g25,g26,g27,g28,g29,g30,g31,g32,g33,g34,g35,g36,g37,g38,g39,g40,g41,g42,g43,g44,g45,g46,g47,g48,g49,g50,g51,g52,g53,g54,g55,g56,g57,g58,g59,g60] M := by kernel_rfl
theorem c8_16 : P8 [1,1,1,0,1] = .cond (.tmp 16) (P8 [1,1,1,0,1,0]) (P8 [1,1,1,0,1,1]) := by kernel_rfl
theorem k8_17 : P8 [1,1,1,0,1,0] = .seq (P8 [1,1,1,0,1,0,0]) (P8 [1,1,1,0,1,0,1]) := by kernel_rfl
theorem k8_18 : P8 [1,1,1,0,1,0,0] = .region 5 (O8 [1,1,1,0,1,0,0]) false := by kernel_rfl
theorem r8_5 {Ax3 : Option Addr} {lx3 cx3 : Nat} {x4 : Int} {M : Mem} {call : CallM} {K : Array Value → Mem → R} :
    opsK Try.prog (fun _ => call) (O8 [1,1,1,0,1,0,0]) (O8 [1,1,1,0,1,0,0]).toList 0 #[g0,g1,g2,.slice Ax3 lx3 cx3,.int .i64 x4,g5,g6,g7,g8,g9,g10,g11,g12,g13,g14,g15,g16,g17,g18,g19,g20,g21,g22,g23,g24,g25,g26,g27,g28,g29,g30,g31,g32,g33,g34,g35,g36,g37,g38,g39,g40,g41,g42,g43,g44,g45,g46,g47,g48,g49,g50,g51,g52,g53,g54,g55,g56,g57,g58,g59,g60] M K = withK (fun w2 w19 w20 w21 w22 w23 M => K #[g0,g1,w2,.slice Ax3 lx3 cx3,.int .i64 x4,g5,g6,g7,g8,g9,g10,g11,g12,g13,g14,g15,g16,.int .i64 x4,.bool (x4 == 4),w19,w20,w21,w22,w23,g24,g25,g26,g27,g28,g29,g30,g31,g32,g33,g34,g35,g36,g37,g38,g39,g40,g41,g42,g43,g44,g45,g46,g47,g48,g49,g50,g51,g52,g53,g54,g55,g56,g57,g58,g59,g60] M) fun k => cond (x4 == 4) (k (.bool (((lx3 : Int)) == 0)) (.bool true) (.slice Ax3 lx3 cx3) (.int .i64 ((lx3 : Int))) (.bool (((lx3 : Int)) == 0)) (.bool (((lx3 : Int)) == 0)) M) (k (.bool false) (.bool false) undef undef undef (.bool false) M) := by kernel_rfl
theorem k8_19 : P8 [1,1,1,0,1,0,1] = .ret := by kernel_rfl
theorem k8_20 : P8 [1,1,1,0,1,1] = .skip := by kernel_rfl
theorem k8_21 : P8 [1,1,1,1] = .seq (P8 [1,1,1,1,0]) (P8 [1,1,1,1,1]) := by kernel_rfl
theorem k8_22 : P8 [1,1,1,1,0] = .region 6 (O8 [1,1,1,1,0]) false := by kernel_rfl
theorem r8_6 {M : Mem} {call : CallM} {K : Array Value → Mem → R} :
    opsK Try.prog (fun _ => call) (O8 [1,1,1,1,0]) (O8 [1,1,1,1,0]).toList 0 #[g0,g1,g2,g3,g4,g5,g6,g7,g8,g9,g10,g11,g12,g13,g14,g15,g16,g17,g18,g19,g20,g21,g22,g23,g24,g25,g26,g27,g28,g29,g30,g31,g32,g33,g34,g35,g36,g37,g38,g39,g40,g41,g42,g43,g44,g45,g46,g47,g48,g49,g50,g51,g52,g53,g54,g55,g56,g57,g58,g59,g60] M K = K #[g0,g1,g2,g3,g4,.slice none 0 0,g6,g7,g8,g9,g10,g11,g12,g13,g14,g15,g16,g17,g18,g19,g20,g21,g22,g23,g24,g25,g26,g27,g28,g29,g30,g31,g32,g33,g34,g35,g36,g37,g38,g39,g40,g41,g42,g43,g44,g45,g46,g47,g48,g49,g50,g51,g52,g53,g54,g55,g56,g57,g58,g59,g60] M := by kernel_rfl
theorem k8_23 : P8 [1,1,1,1,1] = .seq (P8 [1,1,1,1,1,0]) (P8 [1,1,1,1,1,1]) := by kernel_rfl
theorem k8_24 : P8 [1,1,1,1,1,0] = .seq (P8 [1,1,1,1,1,0,0]) (P8 [1,1,1,1,1,0,1]) := by kernel_rfl
theorem k8_25 : P8 [1,1,1,1,1,0,0] = .region 7 (O8 [1,1,1,1,1,0,0]) false := by kernel_rfl
theorem r8_7 {M : Mem} {call : CallM} {K : Array Value → Mem → R} :
    opsK Try.prog (fun _ => call) (O8 [1,1,1,1,1,0,0]) (O8 [1,1,1,1,1,0,0]).toList 0 #[g0,g1,g2,g3,g4,g5,g6,g7,g8,g9,g10,g11,g12,g13,g14,g15,g16,g17,g18,g19,g20,g21,g22,g23,g24,g25,g26,g27,g28,g29,g30,g31,g32,g33,g34,g35,g36,g37,g38,g39,g40,g41,g42,g43,g44,g45,g46,g47,g48,g49,g50,g51,g52,g53,g54,g55,g56,g57,g58,g59,g60] M K = K #[g0,g1,g2,g3,g4,g5,.int .i64 0,g7,g8,g9,g10,g11,g12,g13,g14,g15,g16,g17,g18,g19,g20,g21,g22,g23,g24,g25,g26,g27,g28,g29,g30,g31,g32,g33,g34,g35,g36,g37,g38,g39,g40,g41,g42,g43,g44,g45,g46,g47,g48,g49,g50,g51,g52,g53,g54,g55,g56,g57,g58,g59,g60] M := by kernel_rfl
theorem k8_26 : P8 [1,1,1,1,1,0,1] = .block 0 (P8 [1,1,1,1,1,0,1,0]) := by kernel_rfl
theorem k8_27 : P8 [1,1,1,1,1,0,1,0] = .loop (P8 [1,1,1,1,1,0,1,0,0]) := by kernel_rfl
theorem k8_28 : P8 [1,1,1,1,1,0,1,0,0] = .seq (P8 [1,1,1,1,1,0,1,0,0,0]) (P8 [1,1,1,1,1,0,1,0,0,1]) := by kernel_rfl
theorem k8_29 : P8 [1,1,1,1,1,0,1,0,0,0] = .seq (P8 [1,1,1,1,1,0,1,0,0,0,0]) (P8 [1,1,1,1,1,0,1,0,0,0,1]) := by kernel_rfl
theorem k8_30 : P8 [1,1,1,1,1,0,1,0,0,0,0] = .region 8 (O8 [1,1,1,1,1,0,1,0,0,0,0]) false := by kernel_rfl
theorem r8_8 {Ax3 : Option Addr} {lx3 cx3 : Nat} {x6 : Int} {M : Mem} {call : CallM} {K : Array Value → Mem → R} :
    opsK Try.prog (fun _ => call) (O8 [1,1,1,1,1,0,1,0,0,0,0]) (O8 [1,1,1,1,1,0,1,0,0,0,0]).toList 0 #[g0,g1,g2,.slice Ax3 lx3 cx3,g4,g5,.int .i64 x6,g7,g8,g9,g10,g11,g12,g13,g14,g15,g16,g17,g18,g19,g20,g21,g22,g23,g24,g25,g26,g27,g28,g29,g30,g31,g32,g33,g34,g35,g36,g37,g38,g39,g40,g41,g42,g43,g44,g45,g46,g47,g48,g49,g50,g51,g52,g53,g54,g55,g56,g57,g58,g59,g60] M K = K #[g0,g1,g2,.slice Ax3 lx3 cx3,g4,g5,.int .i64 x6,g7,g8,g9,g10,g11,g12,g13,g14,g15,g16,g17,g18,g19,g20,g21,g22,g23,.int .i64 x6,.slice Ax3 lx3 cx3,.int .i64 ((lx3 : Int)),.bool (decide (x6 < ((lx3 : Int)))),g28,g29,g30,g31,g32,g33,g34,g35,g36,g37,g38,g39,g40,g41,g42,g43,g44,g45,g46,g47,g48,g49,g50,g51,g52,g53,g54,g55,g56,g57,g58,g59,g60] M := by kernel_rfl
theorem c8_31 : P8 [1,1,1,1,1,0,1,0,0,0,1] = .cond (.tmp 27) (P8 [1,1,1,1,1,0,1,0,0,0,1,0]) (P8 [1,1,1,1,1,0,1,0,0,0,1,1]) := by kernel_rfl
theorem k8_32 : P8 [1,1,1,1,1,0,1,0,0,0,1,0] = .skip := by kernel_rfl
theorem k8_33 : P8 [1,1,1,1,1,0,1,0,0,1] = .seq (P8 [1,1,1,1,1,0,1,0,0,1,0]) (P8 [1,1,1,1,1,0,1,0,0,1,1]) := by kernel_rfl
theorem k8_34 : P8 [1,1,1,1,1,0,1,0,0,1,0] = .block 1 (P8 [1,1,1,1,1,0,1,0,0,1,0,0]) := by kernel_rfl
theorem k8_35 : P8 [1,1,1,1,1,0,1,0,0,1,0,0] = .seq (P8 [1,1,1,1,1,0,1,0,0,1,0,0,0]) (P8 [1,1,1,1,1,0,1,0,0,1,0,0,1]) := by kernel_rfl
theorem k8_36 : P8 [1,1,1,1,1,0,1,0,0,1,0,0,0] = .region 10 (O8 [1,1,1,1,1,0,1,0,0,1,0,0,0]) false := by kernel_rfl
theorem r8_10 {Ax5 : Option Addr} {lx5 cx5 : Nat} {M : Mem} {call : CallM} {K : Array Value → Mem → R} :
    opsK Try.prog (fun _ => call) (O8 [1,1,1,1,1,0,1,0,0,1,0,0,0]) (O8 [1,1,1,1,1,0,1,0,0,1,0,0,0]).toList 0 #[g0,g1,g2,g3,g4,.slice Ax5 lx5 cx5,g6,g7,g8,g9,g10,g11,g12,g13,g14,g15,g16,g17,g18,g19,g20,g21,g22,g23,g24,g25,g26,g27,g28,g29,g30,g31,g32,g33,g34,g35,g36,g37,g38,g39,g40,g41,g42,g43,g44,g45,g46,g47,g48,g49,g50,g51,g52,g53,g54,g55,g56,g57,g58,g59,g60] M K = (appendP Try.prog #[24, 24] (.slice Ax5 lx5 cx5) (.slice (some ⟨2 * M.nb.size, 0, none⟩) 1 1) (M.new (.cells #[.int .i64 2, .slice none 0 0] 44))).bind fun r_1 => (asS r_1.1).bind fun s_2 => K #[g0,g1,g2,g3,g4,.slice s_2.1 (s_2.2.1) (s_2.2.2),g6,g7,g8,g9,g10,g11,g12,g13,g14,g15,g16,g17,g18,g19,g20,g21,g22,g23,g24,g25,g26,g27,g28,g29,.slice Ax5 lx5 cx5,.agg #[.int .i64 2, .slice none 0 0],.slice (some ⟨2 * M.nb.size, 0, none⟩) 1 1,.slice s_2.1 (s_2.2.1) (s_2.2.2),g34,g35,g36,g37,g38,g39,g40,g41,g42,g43,g44,g45,g46,g47,g48,g49,g50,g51,g52,g53,g54,g55,g56,g57,g58,g59,g60] r_1.2 := by kernel_rfl
theorem k8_37 : P8 [1,1,1,1,1,0,1,0,0,1,0,0,1] = .seq (P8 [1,1,1,1,1,0,1,0,0,1,0,0,1,0]) (P8 [1,1,1,1,1,0,1,0,0,1,0,0,1,1]) := by kernel_rfl
theorem k8_38 : P8 [1,1,1,1,1,0,1,0,0,1,0,0,1,0] = .seq (P8 [1,1,1,1,1,0,1,0,0,1,0,0,1,0,0]) (P8 [1,1,1,1,1,0,1,0,0,1,0,0,1,0,1]) := by kernel_rfl
theorem k8_39 : P8 [1,1,1,1,1,0,1,0,0,1,0,0,1,0,0] = .region 11 (O8 [1,1,1,1,1,0,1,0,0,1,0,0,1,0,0]) false := by kernel_rfl
theorem r8_11 {M : Mem} {call : CallM} {K : Array Value → Mem → R} :
    opsK Try.prog (fun _ => call) (O8 [1,1,1,1,1,0,1,0,0,1,0,0,1,0,0]) (O8 [1,1,1,1,1,0,1,0,0,1,0,0,1,0,0]).toList 0 #[g0,g1,g2,g3,g4,g5,g6,g7,g8,g9,g10,g11,g12,g13,g14,g15,g16,g17,g18,g19,g20,g21,g22,g23,g24,g25,g26,g27,g28,g29,g30,g31,g32,g33,g34,g35,g36,g37,g38,g39,g40,g41,g42,g43,g44,g45,g46,g47,g48,g49,g50,g51,g52,g53,g54,g55,g56,g57,g58,g59,g60] M K = K #[g0,g1,g2,g3,g4,g5,g6,.int .i64 0,g8,g9,g10,g11,g12,g13,g14,g15,g16,g17,g18,g19,g20,g21,g22,g23,g24,g25,g26,g27,g28,g29,g30,g31,g32,g33,g34,g35,g36,g37,g38,g39,g40,g41,g42,g43,g44,g45,g46,g47,g48,g49,g50,g51,g52,g53,g54,g55,g56,g57,g58,g59,g60] M := by kernel_rfl
theorem k8_40 : P8 [1,1,1,1,1,0,1,0,0,1,0,0,1,0,1] = .block 2 (P8 [1,1,1,1,1,0,1,0,0,1,0,0,1,0,1,0]) := by kernel_rfl
theorem k8_41 : P8 [1,1,1,1,1,0,1,0,0,1,0,0,1,0,1,0] = .loop (P8 [1,1,1,1,1,0,1,0,0,1,0,0,1,0,1,0,0]) := by kernel_rfl
theorem k8_42 : P8 [1,1,1,1,1,0,1,0,0,0,1,1] = .exit 0 := by kernel_rfl
theorem k8_43 : P8 [1,1,1,1,1,1] = .seq (P8 [1,1,1,1,1,1,0]) (P8 [1,1,1,1,1,1,1]) := by kernel_rfl
theorem k8_44 : P8 [1,1,1,1,1,1,0] = .region 17 (O8 [1,1,1,1,1,1,0]) false := by kernel_rfl
theorem r8_17 {Ax0 : Option Addr} {lx0 cx0 : Nat} {Ax5 : Option Addr} {lx5 cx5 : Nat} {M : Mem} {call : CallM} {K : Array Value → Mem → R} :
    opsK Try.prog (fun _ => call) (O8 [1,1,1,1,1,1,0]) (O8 [1,1,1,1,1,1,0]).toList 0 #[.slice Ax0 lx0 cx0,g1,g2,g3,g4,.slice Ax5 lx5 cx5,g6,g7,g8,g9,g10,g11,g12,g13,g14,g15,g16,g17,g18,g19,g20,g21,g22,g23,g24,g25,g26,g27,g28,g29,g30,g31,g32,g33,g34,g35,g36,g37,g38,g39,g40,g41,g42,g43,g44,g45,g46,g47,g48,g49,g50,g51,g52,g53,g54,g55,g56,g57,g58,g59,g60] M K = (call 13 #[.slice Ax5 lx5 cx5, .slice Ax0 lx0 cx0] M).bind fun r_1 => (asB r_1.1).bind fun b_2 => K #[.slice Ax0 lx0 cx0,g1,.bool b_2,g3,g4,.slice Ax5 lx5 cx5,g6,g7,g8,g9,g10,g11,g12,g13,g14,g15,g16,g17,g18,g19,g20,g21,g22,g23,g24,g25,g26,g27,g28,g29,g30,g31,g32,g33,g34,g35,g36,g37,g38,g39,g40,g41,g42,g43,g44,g45,g46,g47,g48,g49,g50,g51,g52,g53,g54,g55,g56,g57,.slice Ax5 lx5 cx5,.slice Ax0 lx0 cx0,.bool b_2] r_1.2 := by kernel_rfl
theorem k8_45 : P8 [1,1,1,1,1,1,1] = .ret := by kernel_rfl
theorem k8_46 : P8 [1,1,1,1,1,0,1,0,0,1,0,0,1,0,1,0,0] = .seq (P8 [1,1,1,1,1,0,1,0,0,1,0,0,1,0,1,0,0,0]) (P8 [1,1,1,1,1,0,1,0,0,1,0,0,1,0,1,0,0,1]) := by kernel_rfl
theorem k8_47 : P8 [1,1,1,1,1,0,1,0,0,1,0,0,1,0,1,0,0,0] = .seq (P8 [1,1,1,1,1,0,1,0,0,1,0,0,1,0,1,0,0,0,0]) (P8 [1,1,1,1,1,0,1,0,0,1,0,0,1,0,1,0,0,0,1]) := by kernel_rfl
theorem k8_48 : P8 [1,1,1,1,1,0,1,0,0,1,0,0,1,0,1,0,0,0,0] = .region 12 (O8 [1,1,1,1,1,0,1,0,0,1,0,0,1,0,1,0,0,0,0]) false := by kernel_rfl
theorem r8_12 {Ax3 : Option Addr} {lx3 cx3 : Nat} {x6 x7 : Int} {M : Mem} {call : CallM} {K : Array Value → Mem → R} :
    opsK Try.prog (fun _ => call) (O8 [1,1,1,1,1,0,1,0,0,1,0,0,1,0,1,0,0,0,0]) (O8 [1,1,1,1,1,0,1,0,0,1,0,0,1,0,1,0,0,0,0]).toList 0 #[g0,g1,g2,.slice Ax3 lx3 cx3,g4,g5,.int .i64 x6,.int .i64 x7,g8,g9,g10,g11,g12,g13,g14,g15,g16,g17,g18,g19,g20,g21,g22,g23,g24,g25,g26,g27,g28,g29,g30,g31,g32,g33,g34,g35,g36,g37,g38,g39,g40,g41,g42,g43,g44,g45,g46,g47,g48,g49,g50,g51,g52,g53,g54,g55,g56,g57,g58,g59,g60] M K = (idxA Ax3 lx3 1 x6).bind fun a_1 => (M.slAt a_1.block a_1.off).bind fun s_2 => K #[g0,g1,g2,.slice Ax3 lx3 cx3,g4,g5,.int .i64 x6,.int .i64 x7,g8,g9,g10,g11,g12,g13,g14,g15,g16,g17,g18,g19,g20,g21,g22,g23,g24,g25,g26,g27,g28,g29,g30,g31,g32,g33,.int .i64 x7,.slice Ax3 lx3 cx3,.int .i64 x6,.pointer (some a_1),.slice s_2.1 (s_2.2.1) (s_2.2.2),.int .i64 ((s_2.2.1 : Int)),.bool (decide (x7 < ((s_2.2.1 : Int)))),g41,g42,g43,g44,g45,g46,g47,g48,g49,g50,g51,g52,g53,g54,g55,g56,g57,g58,g59,g60] M := by kernel_rfl
theorem c8_49 : P8 [1,1,1,1,1,0,1,0,0,1,0,0,1,0,1,0,0,0,1] = .cond (.tmp 40) (P8 [1,1,1,1,1,0,1,0,0,1,0,0,1,0,1,0,0,0,1,0]) (P8 [1,1,1,1,1,0,1,0,0,1,0,0,1,0,1,0,0,0,1,1]) := by kernel_rfl
theorem k8_50 : P8 [1,1,1,1,1,0,1,0,0,1,0,0,1,0,1,0,0,0,1,0] = .skip := by kernel_rfl
theorem k8_51 : P8 [1,1,1,1,1,0,1,0,0,1,0,0,1,0,1,0,0,1] = .seq (P8 [1,1,1,1,1,0,1,0,0,1,0,0,1,0,1,0,0,1,0]) (P8 [1,1,1,1,1,0,1,0,0,1,0,0,1,0,1,0,0,1,1]) := by kernel_rfl
theorem k8_52 : P8 [1,1,1,1,1,0,1,0,0,1,0,0,1,0,1,0,0,1,0] = .block 3 (P8 [1,1,1,1,1,0,1,0,0,1,0,0,1,0,1,0,0,1,0,0]) := by kernel_rfl
theorem k8_53 : P8 [1,1,1,1,1,0,1,0,0,1,0,0,1,0,1,0,0,1,0,0] = .seq (P8 [1,1,1,1,1,0,1,0,0,1,0,0,1,0,1,0,0,1,0,0,0]) (P8 [1,1,1,1,1,0,1,0,0,1,0,0,1,0,1,0,0,1,0,0,1]) := by kernel_rfl
theorem k8_54 : P8 [1,1,1,1,1,0,1,0,0,1,0,0,1,0,1,0,0,1,0,0,0] = .region 14 (O8 [1,1,1,1,1,0,1,0,0,1,0,0,1,0,1,0,0,1,0,0,0]) false := by kernel_rfl
theorem r8_14 {Ax3 : Option Addr} {lx3 cx3 : Nat} {x6 x7 : Int} {M : Mem} {call : CallM} {K : Array Value → Mem → R} :
    opsK Try.prog (fun _ => call) (O8 [1,1,1,1,1,0,1,0,0,1,0,0,1,0,1,0,0,1,0,0,0]) (O8 [1,1,1,1,1,0,1,0,0,1,0,0,1,0,1,0,0,1,0,0,0]).toList 0 #[g0,g1,g2,.slice Ax3 lx3 cx3,g4,g5,.int .i64 x6,.int .i64 x7,g8,g9,g10,g11,g12,g13,g14,g15,g16,g17,g18,g19,g20,g21,g22,g23,g24,g25,g26,g27,g28,g29,g30,g31,g32,g33,g34,g35,g36,g37,g38,g39,g40,g41,g42,g43,g44,g45,g46,g47,g48,g49,g50,g51,g52,g53,g54,g55,g56,g57,g58,g59,g60] M K = (idxA Ax3 lx3 1 x6).bind fun a_1 => (M.slAt a_1.block a_1.off).bind fun s_2 => (idxA s_2.1 (s_2.2.1) 2 x7).bind fun a_3 => (M.intAt .i64 a_3.block a_3.off).bind fun x_4 => K #[g0,g1,g2,.slice Ax3 lx3 cx3,g4,g5,.int .i64 x6,.int .i64 x7,g8,g9,g10,g11,g12,g13,g14,g15,g16,g17,g18,g19,g20,g21,g22,g23,g24,g25,g26,g27,g28,g29,g30,g31,g32,g33,g34,g35,g36,g37,g38,g39,g40,g41,g42,.slice Ax3 lx3 cx3,.int .i64 x6,.pointer (some a_1),.slice s_2.1 (s_2.2.1) (s_2.2.2),.int .i64 x7,.pointer (some a_3),.pointer (some ⟨a_3.block, a_3.off, none⟩),.int .i64 x_4,.bool (x_4 == 2),g52,g53,g54,g55,g56,g57,g58,g59,g60] M := by kernel_rfl
theorem c8_55 : P8 [1,1,1,1,1,0,1,0,0,1,0,0,1,0,1,0,0,1,0,0,1] = .cond (.tmp 51) (P8 [1,1,1,1,1,0,1,0,0,1,0,0,1,0,1,0,0,1,0,0,1,0]) (P8 [1,1,1,1,1,0,1,0,0,1,0,0,1,0,1,0,0,1,0,0,1,1]) := by kernel_rfl
theorem k8_56 : P8 [1,1,1,1,1,0,1,0,0,1,0,0,1,0,1,0,0,1,0,0,1,0] = .seq (P8 [1,1,1,1,1,0,1,0,0,1,0,0,1,0,1,0,0,1,0,0,1,0,0]) (P8 [1,1,1,1,1,0,1,0,0,1,0,0,1,0,1,0,0,1,0,0,1,0,1]) := by kernel_rfl
theorem k8_57 : P8 [1,1,1,1,1,0,1,0,0,1,0,0,1,0,1,0,0,1,0,0,1,0,0] = .region 15 (O8 [1,1,1,1,1,0,1,0,0,1,0,0,1,0,1,0,0,1,0,0,1,0,0]) false := by kernel_rfl
theorem r8_15 {M : Mem} {call : CallM} {K : Array Value → Mem → R} :
    opsK Try.prog (fun _ => call) (O8 [1,1,1,1,1,0,1,0,0,1,0,0,1,0,1,0,0,1,0,0,1,0,0]) (O8 [1,1,1,1,1,0,1,0,0,1,0,0,1,0,1,0,0,1,0,0,1,0,0]).toList 0 #[g0,g1,g2,g3,g4,g5,g6,g7,g8,g9,g10,g11,g12,g13,g14,g15,g16,g17,g18,g19,g20,g21,g22,g23,g24,g25,g26,g27,g28,g29,g30,g31,g32,g33,g34,g35,g36,g37,g38,g39,g40,g41,g42,g43,g44,g45,g46,g47,g48,g49,g50,g51,g52,g53,g54,g55,g56,g57,g58,g59,g60] M K = K #[g0,g1,.bool false,g3,g4,g5,g6,g7,g8,g9,g10,g11,g12,g13,g14,g15,g16,g17,g18,g19,g20,g21,g22,g23,g24,g25,g26,g27,g28,g29,g30,g31,g32,g33,g34,g35,g36,g37,g38,g39,g40,g41,g42,g43,g44,g45,g46,g47,g48,g49,g50,g51,g52,g53,g54,g55,g56,g57,g58,g59,g60] M := by kernel_rfl
theorem k8_58 : P8 [1,1,1,1,1,0,1,0,0,1,0,0,1,0,1,0,0,1,0,0,1,0,1] = .ret := by kernel_rfl
theorem k8_59 : P8 [1,1,1,1,1,0,1,0,0,1,0,0,1,0,1,0,0,1,0,0,1,1] = .skip := by kernel_rfl
theorem k8_60 : P8 [1,1,1,1,1,0,1,0,0,1,0,0,1,0,1,0,0,1,1] = .region 13 (O8 [1,1,1,1,1,0,1,0,0,1,0,0,1,0,1,0,0,1,1]) false := by kernel_rfl
theorem r8_13 {x7 : Int} {M : Mem} {call : CallM} {K : Array Value → Mem → R} :
    opsK Try.prog (fun _ => call) (O8 [1,1,1,1,1,0,1,0,0,1,0,0,1,0,1,0,0,1,1]) (O8 [1,1,1,1,1,0,1,0,0,1,0,0,1,0,1,0,0,1,1]).toList 0 #[g0,g1,g2,g3,g4,g5,g6,.int .i64 x7,g8,g9,g10,g11,g12,g13,g14,g15,g16,g17,g18,g19,g20,g21,g22,g23,g24,g25,g26,g27,g28,g29,g30,g31,g32,g33,g34,g35,g36,g37,g38,g39,g40,g41,g42,g43,g44,g45,g46,g47,g48,g49,g50,g51,g52,g53,g54,g55,g56,g57,g58,g59,g60] M K = K #[g0,g1,g2,g3,g4,g5,g6,.int .i64 (IntKind.i64.wrap (x7 + 1)),g8,g9,g10,g11,g12,g13,g14,g15,g16,g17,g18,g19,g20,g21,g22,g23,g24,g25,g26,g27,g28,g29,g30,g31,g32,g33,g34,g35,g36,g37,g38,g39,g40,.int .i64 x7,.int .i64 (IntKind.i64.wrap (x7 + 1)),g43,g44,g45,g46,g47,g48,g49,g50,g51,g52,g53,g54,g55,g56,g57,g58,g59,g60] M := by kernel_rfl
theorem k8_61 : P8 [1,1,1,1,1,0,1,0,0,1,0,0,1,0,1,0,0,0,1,1] = .exit 2 := by kernel_rfl
theorem k8_62 : P8 [1,1,1,1,1,0,1,0,0,1,0,0,1,1] = .region 16 (O8 [1,1,1,1,1,0,1,0,0,1,0,0,1,1]) false := by kernel_rfl
theorem r8_16 {Ax3 : Option Addr} {lx3 cx3 : Nat} {Ax5 : Option Addr} {lx5 cx5 : Nat} {x6 : Int} {M : Mem} {call : CallM} {K : Array Value → Mem → R} :
    opsK Try.prog (fun _ => call) (O8 [1,1,1,1,1,0,1,0,0,1,0,0,1,1]) (O8 [1,1,1,1,1,0,1,0,0,1,0,0,1,1]).toList 0 #[g0,g1,g2,.slice Ax3 lx3 cx3,g4,.slice Ax5 lx5 cx5,.int .i64 x6,g7,g8,g9,g10,g11,g12,g13,g14,g15,g16,g17,g18,g19,g20,g21,g22,g23,g24,g25,g26,g27,g28,g29,g30,g31,g32,g33,g34,g35,g36,g37,g38,g39,g40,g41,g42,g43,g44,g45,g46,g47,g48,g49,g50,g51,g52,g53,g54,g55,g56,g57,g58,g59,g60] M K = (idxA Ax3 lx3 1 x6).bind fun a_1 => (M.slAt a_1.block a_1.off).bind fun s_2 => (appendP Try.prog #[24, 24] (.slice Ax5 lx5 cx5) (.slice s_2.1 (s_2.2.1) (s_2.2.2)) M).bind fun r_3 => (asS r_3.1).bind fun s_4 => K #[g0,g1,g2,.slice Ax3 lx3 cx3,g4,.slice s_4.1 (s_4.2.1) (s_4.2.2),.int .i64 x6,g7,g8,g9,g10,g11,g12,g13,g14,g15,g16,g17,g18,g19,g20,g21,g22,g23,g24,g25,g26,g27,g28,g29,g30,g31,g32,g33,g34,g35,g36,g37,g38,g39,g40,g41,g42,g43,g44,g45,g46,g47,g48,g49,g50,g51,.slice Ax5 lx5 cx5,.slice Ax3 lx3 cx3,.int .i64 x6,.pointer (some a_1),.slice s_2.1 (s_2.2.1) (s_2.2.2),.slice s_4.1 (s_4.2.1) (s_4.2.2),g58,g59,g60] r_3.2 := by kernel_rfl
theorem k8_63 : P8 [1,1,1,1,1,0,1,0,0,1,1] = .region 9 (O8 [1,1,1,1,1,0,1,0,0,1,1]) false := by kernel_rfl
theorem r8_9 {x6 : Int} {M : Mem} {call : CallM} {K : Array Value → Mem → R} :
    opsK Try.prog (fun _ => call) (O8 [1,1,1,1,1,0,1,0,0,1,1]) (O8 [1,1,1,1,1,0,1,0,0,1,1]).toList 0 #[g0,g1,g2,g3,g4,g5,.int .i64 x6,g7,g8,g9,g10,g11,g12,g13,g14,g15,g16,g17,g18,g19,g20,g21,g22,g23,g24,g25,g26,g27,g28,g29,g30,g31,g32,g33,g34,g35,g36,g37,g38,g39,g40,g41,g42,g43,g44,g45,g46,g47,g48,g49,g50,g51,g52,g53,g54,g55,g56,g57,g58,g59,g60] M K = K #[g0,g1,g2,g3,g4,g5,.int .i64 (IntKind.i64.wrap (x6 + 1)),g7,g8,g9,g10,g11,g12,g13,g14,g15,g16,g17,g18,g19,g20,g21,g22,g23,g24,g25,g26,g27,.int .i64 x6,.int .i64 (IntKind.i64.wrap (x6 + 1)),g30,g31,g32,g33,g34,g35,g36,g37,g38,g39,g40,g41,g42,g43,g44,g45,g46,g47,g48,g49,g50,g51,g52,g53,g54,g55,g56,g57,g58,g59,g60] M := by kernel_rfl
noncomputable def S8_1 : List Item := [.code (P8 [1,1,1,1,1,0,1,0,0]), .inLoop (P8 [1,1,1,1,1,0,1,0,0]), .inBlock 0, .code (P8 [1,1,1,1,1,1])]
def A8_1 (Ax0 : Option Addr) (lx0 cx0 : Nat) (Ax3 : Option Addr) (lx3 cx3 : Nat) (Ax5 : Option Addr) (lx5 cx5 : Nat) (x6 : Int) (M : Mem) (Q : Value → Mem → Prop) : Prop := ∀ (g1 g2 g4 g7 g8 g9 g10 g11 g12 g13 g14 g15 g16 g17 g18 g19 g20 g21 g22 g23 g24 g25 g26 g27 g28 g29 g30 g31 g32 g33 g34 g35 g36 g37 g38 g39 g40 g41 g42 g43 g44 g45 g46 g47 g48 g49 g50 g51 g52 g53 g54 g55 g56 g57 g58 g59 g60 : Value), Rn Try.prog Try.f8 S8_1 #[.slice Ax0 lx0 cx0, g1, g2, .slice Ax3 lx3 cx3, g4, .slice Ax5 lx5 cx5, .int .i64 x6, g7, g8, g9, g10, g11, g12, g13, g14, g15, g16, g17, g18, g19, g20, g21, g22, g23, g24, g25, g26, g27, g28, g29, g30, g31, g32, g33, g34, g35, g36, g37, g38, g39, g40, g41, g42, g43, g44, g45, g46, g47, g48, g49, g50, g51, g52, g53, g54, g55, g56, g57, g58, g59, g60] M Q
noncomputable def S8_2 : List Item := [.code (P8 [1,1,1,1,1,0,1,0,0,1,0,0,1,0,1,0,0]), .inLoop (P8 [1,1,1,1,1,0,1,0,0,1,0,0,1,0,1,0,0]), .inBlock 2, .code (P8 [1,1,1,1,1,0,1,0,0,1,0,0,1,1]), .inBlock 1, .code (P8 [1,1,1,1,1,0,1,0,0,1,1]), .inLoop (P8 [1,1,1,1,1,0,1,0,0]), .inBlock 0, .code (P8 [1,1,1,1,1,1])]
def A8_2 (Ax0 : Option Addr) (lx0 cx0 : Nat) (Ax3 : Option Addr) (lx3 cx3 : Nat) (Ax5 : Option Addr) (lx5 cx5 : Nat) (x6 x7 : Int) (M : Mem) (Q : Value → Mem → Prop) : Prop := ∀ (g1 g2 g4 g8 g9 g10 g11 g12 g13 g14 g15 g16 g17 g18 g19 g20 g21 g22 g23 g24 g25 g26 g27 g28 g29 g30 g31 g32 g33 g34 g35 g36 g37 g38 g39 g40 g41 g42 g43 g44 g45 g46 g47 g48 g49 g50 g51 g52 g53 g54 g55 g56 g57 g58 g59 g60 : Value), Rn Try.prog Try.f8 S8_2 #[.slice Ax0 lx0 cx0, g1, g2, .slice Ax3 lx3 cx3, g4, .slice Ax5 lx5 cx5, .int .i64 x6, .int .i64 x7, g8, g9, g10, g11, g12, g13, g14, g15, g16, g17, g18, g19, g20, g21, g22, g23, g24, g25, g26, g27, g28, g29, g30, g31, g32, g33, g34, g35, g36, g37, g38, g39, g40, g41, g42, g43, g44, g45, g46, g47, g48, g49, g50, g51, g52, g53, g54, g55, g56, g57, g58, g59, g60] M Q
theorem w8_0 {Ax0 : Option Addr} {lx0 cx0 : Nat} {M : Mem} {Q : Value → Mem → Prop} (H :
    Cn Try.prog 16 #[] M fun v1' N1' =>
     ∃ b2', asB v1' = some b2' ∧
     (((!b2') = true →
      Q (.bool false) N1') ∧
      ((!b2') = false →
      Cn Try.prog 20 #[.slice Ax0 lx0 cx0] N1' fun v3' N3' =>
       ∃ cs4', asU 2 v3' = some cs4' ∧
       ∃ s5', asS (cs4'.getD 0 undef) = some s5' ∧
       ∃ x6', asI .i64 (cs4'.getD 1 undef) = some x6' ∧
       ((x6' ≠ 0 →
        ((x6' = 4 →
         Q (.bool (((s5'.2.1 : Int)) == 0)) N3') ∧
         (x6' ≠ 4 →
         Q (.bool false) N3'))) ∧
        (x6' = 0 →
        A8_1 Ax0 lx0 cx0 s5'.1 s5'.2.1 s5'.2.2 none 0 0 0 N3' Q))))) :
    Cn Try.prog 8 #[.slice Ax0 lx0 cx0] M Q := by
  refine Cn.of b8 d8 t8 ?_
  refine Rn.seq k8_0 (Rn.region k8_1 (fun call K => r8_0) (Rch.leaf (Rn.seq k8_2 (Rn.seq k8_3 (Rn.region k8_4 (fun call K => r8_1) (Rch.call H fun v1' N1' H => Rch.ex H fun b2' H => Rch.leaf ?_))))))
  refine Rn.cnd (v := !b2') ⟨c8_5, rfl, by kernel_rfl⟩ (fun h => ?_) (fun h => ?_)
  · replace H := H.1 (h)
    refine Rn.seq k8_6 (Rn.region k8_7 (fun call K => r8_2) (Rch.leaf ?_))
    exact Rn.ret k8_8 e8 H
  · replace H := H.2 (h)
    refine Rn.skip k8_10 (Rn.seq k8_11 (Rn.region k8_12 (fun call K => r8_3) (Rch.call H fun v3' N3' H => Rch.ex H fun cs4' H => Rch.ex H fun s5' H => Rch.ex H fun x6' H => Rch.leaf (Rn.seq k8_13 (Rn.seq k8_14 (Rn.region k8_15 (fun call K => r8_4) (Rch.leaf ?_)))))))
    refine Rn.cnd (v := x6' != 0) ⟨c8_16, rfl, by kernel_rfl⟩ (fun h => ?_) (fun h => ?_)
    · replace H := H.1 (ne_of_bneT h)
      refine Rn.seq k8_17 (Rn.region k8_18 (fun call K => r8_5) ?_)
      refine Rch.cB (fun h => ?_) (fun h => ?_)
      · replace H := H.1 (eq_of_beq h)
        refine Rch.leaf ?_
        exact Rn.ret k8_19 e8 H
      · replace H := H.2 (ne_of_beq_false h)
        refine Rch.leaf ?_
        exact Rn.ret k8_19 e8 H
    · replace H := H.2 (eq_of_bneF h)
      refine Rn.skip k8_20 (Rn.seq k8_21 (Rn.region k8_22 (fun call K => r8_6) (Rch.leaf (Rn.seq k8_23 (Rn.seq k8_24 (Rn.region k8_25 (fun call K => r8_7) (Rch.leaf (Rn.block k8_26 (Rn.loop k8_27 ?_)))))))))
      exact H _ _ _ _ _ _ _ _ _ _ _ _ _ _ _ _ _ _ _ _ _ _ _ _ _ _ _ _ _ _ _ _ _ _ _ _ _ _ _ _ _ _ _ _ _ _ _ _ _ _ _ _ _ _ _ _ _

theorem w8_1 {Ax0 : Option Addr} {lx0 cx0 : Nat} {Ax3 : Option Addr} {lx3 cx3 : Nat} {Ax5 : Option Addr} {lx5 cx5 : Nat} {x6 : Int} {M : Mem} {Q : Value → Mem → Prop} (H :
    ((x6 < ((lx3 : Int)) →
     ∃ r7', appendP Try.prog #[24, 24] (.slice Ax5 lx5 cx5) (.slice (some ⟨2 * M.nb.size, 0, none⟩) 1 1) (M.new (.cells #[.int .i64 2, .slice none 0 0] 44)) = some r7' ∧
     ∃ s8', asS r7'.1 = some s8' ∧
     A8_2 Ax0 lx0 cx0 Ax3 lx3 cx3 s8'.1 s8'.2.1 s8'.2.2 x6 0 r7'.2 Q) ∧
     (¬ (x6 < ((lx3 : Int))) →
     Cn Try.prog 13 #[.slice Ax5 lx5 cx5, .slice Ax0 lx0 cx0] M fun v9' N9' =>
      ∃ b10', asB v9' = some b10' ∧
      Q (.bool b10') N9'))) :
    A8_1 Ax0 lx0 cx0 Ax3 lx3 cx3 Ax5 lx5 cx5 x6 M Q := by
  intro g1 g2 g4 g7 g8 g9 g10 g11 g12 g13 g14 g15 g16 g17 g18 g19 g20 g21 g22 g23 g24 g25 g26 g27 g28 g29 g30 g31 g32 g33 g34 g35 g36 g37 g38 g39 g40 g41 g42 g43 g44 g45 g46 g47 g48 g49 g50 g51 g52 g53 g54 g55 g56 g57 g58 g59 g60
  refine Rn.seq k8_28 (Rn.seq k8_29 (Rn.region k8_30 (fun call K => r8_8) (Rch.leaf ?_)))
  refine Rn.cnd (v := decide (x6 < ((lx3 : Int)))) ⟨c8_31, rfl, by kernel_rfl⟩ (fun h => ?_) (fun h => ?_)
  · replace H := H.1 (of_decide_eq_true h)
    refine Rn.skip k8_32 (Rn.seq k8_33 (Rn.block k8_34 (Rn.seq k8_35 (Rn.region k8_36 (fun call K => r8_10) (Rch.ex H fun r7' H => Rch.ex H fun s8' H => Rch.leaf (Rn.seq k8_37 (Rn.seq k8_38 (Rn.region k8_39 (fun call K => r8_11) (Rch.leaf ?_)))))))))
    refine Rn.block k8_40 (Rn.loop k8_41 ?_)
    exact H _ _ _ _ _ _ _ _ _ _ _ _ _ _ _ _ _ _ _ _ _ _ _ _ _ _ _ _ _ _ _ _ _ _ _ _ _ _ _ _ _ _ _ _ _ _ _ _ _ _ _ _ _ _ _ _
  · replace H := H.2 (of_decide_eq_false h)
    refine Rn.exit k8_42 rfl (Rn.seq k8_43 (Rn.region k8_44 (fun call K => r8_17) (Rch.call H fun v9' N9' H => Rch.ex H fun b10' H => Rch.leaf ?_)))
    exact Rn.ret k8_45 e8 H

theorem w8_2 {Ax0 : Option Addr} {lx0 cx0 : Nat} {Ax3 : Option Addr} {lx3 cx3 : Nat} {Ax5 : Option Addr} {lx5 cx5 : Nat} {x6 x7 : Int} {M : Mem} {Q : Value → Mem → Prop} (H :
    ∃ a11', idxA Ax3 lx3 1 x6 = some a11' ∧
    ∃ s12', M.slAt a11'.block a11'.off = some s12' ∧
    ((x7 < ((s12'.2.1 : Int)) →
     ∃ a13', idxA Ax3 lx3 1 x6 = some a13' ∧
     ∃ s14', M.slAt a13'.block a13'.off = some s14' ∧
     ∃ a15', idxA s14'.1 (s14'.2.1) 2 x7 = some a15' ∧
     ∃ x16', M.intAt .i64 a15'.block a15'.off = some x16' ∧
     ((x16' = 2 →
      Q (.bool false) M) ∧
      (x16' ≠ 2 →
      A8_2 Ax0 lx0 cx0 Ax3 lx3 cx3 Ax5 lx5 cx5 x6 (IntKind.i64.wrap (x7 + 1)) M Q))) ∧
     (¬ (x7 < ((s12'.2.1 : Int))) →
     ∃ a17', idxA Ax3 lx3 1 x6 = some a17' ∧
     ∃ s18', M.slAt a17'.block a17'.off = some s18' ∧
     ∃ r19', appendP Try.prog #[24, 24] (.slice Ax5 lx5 cx5) (.slice s18'.1 (s18'.2.1) (s18'.2.2)) M = some r19' ∧
     ∃ s20', asS r19'.1 = some s20' ∧
     A8_1 Ax0 lx0 cx0 Ax3 lx3 cx3 s20'.1 s20'.2.1 s20'.2.2 (IntKind.i64.wrap (x6 + 1)) r19'.2 Q))) :
    A8_2 Ax0 lx0 cx0 Ax3 lx3 cx3 Ax5 lx5 cx5 x6 x7 M Q := by
  intro g1 g2 g4 g8 g9 g10 g11 g12 g13 g14 g15 g16 g17 g18 g19 g20 g21 g22 g23 g24 g25 g26 g27 g28 g29 g30 g31 g32 g33 g34 g35 g36 g37 g38 g39 g40 g41 g42 g43 g44 g45 g46 g47 g48 g49 g50 g51 g52 g53 g54 g55 g56 g57 g58 g59 g60
  refine Rn.seq k8_46 (Rn.seq k8_47 (Rn.region k8_48 (fun call K => r8_12) (Rch.ex H fun a11' H => Rch.ex H fun s12' H => Rch.leaf ?_)))
  refine Rn.cnd (v := decide (x7 < ((s12'.2.1 : Int)))) ⟨c8_49, rfl, by kernel_rfl⟩ (fun h => ?_) (fun h => ?_)
  · replace H := H.1 (of_decide_eq_true h)
    refine Rn.skip k8_50 (Rn.seq k8_51 (Rn.block k8_52 (Rn.seq k8_53 (Rn.region k8_54 (fun call K => r8_14) (Rch.ex H fun a13' H => Rch.ex H fun s14' H => Rch.ex H fun a15' H => Rch.ex H fun x16' H => Rch.leaf ?_)))))
    refine Rn.cnd (v := x16' == 2) ⟨c8_55, rfl, by kernel_rfl⟩ (fun h => ?_) (fun h => ?_)
    · replace H := H.1 (eq_of_beq h)
      refine Rn.seq k8_56 (Rn.region k8_57 (fun call K => r8_15) (Rch.leaf ?_))
      exact Rn.ret k8_58 e8 H
    · replace H := H.2 (ne_of_beq_false h)
      refine Rn.skip k8_59 (Rn.blk (Rn.region k8_60 (fun call K => r8_13) (Rch.leaf (Rn.lp ?_))))
      exact H _ _ _ _ _ _ _ _ _ _ _ _ _ _ _ _ _ _ _ _ _ _ _ _ _ _ _ _ _ _ _ _ _ _ _ _ _ _ _ _ _ _ _ _ _ _ _ _ _ _ _ _ _ _ _ _
  · replace H := H.2 (of_decide_eq_false h)
    refine Rn.exit k8_61 rfl (Rn.region k8_62 (fun call K => r8_16) (Rch.ex H fun a17' H => Rch.ex H fun s18' H => Rch.ex H fun r19' H => Rch.ex H fun s20' H => Rch.leaf (Rn.blk (Rn.region k8_63 (fun call K => r8_9) (Rch.leaf (Rn.lp ?_))))))
    exact H _ _ _ _ _ _ _ _ _ _ _ _ _ _ _ _ _ _ _ _ _ _ _ _ _ _ _ _ _ _ _ _ _ _ _ _ _ _ _ _ _ _ _ _ _ _ _ _ _ _ _ _ _ _ _ _ _


end Go.Zt
