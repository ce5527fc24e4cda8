/- The functions' walks: for each function and each loop a rule of what it comes to. Printed by zw.py. -/
import Derived.Test.YtpfhalehdgcbeaaProg
import Derived.Test.YtpfhalehdgcbeaaZgA
set_option linter.unusedVariables false
set_option maxRecDepth 100000
namespace Go.Zt
open Go Go.Sim Go.Proofs

variable {g0 g1 g2 g3 g4 g5 g6 g7 g8 g9 g10 g11 g12 g13 g14 g15 g16 g17 g18 g19 g20 g21 g22 g23 g24 g25 g26 g27 g28 g29 g30 g31 g32 g33 g34 g35 g36 g37 g38 g39 g40 g41 g42 g43 g44 g45 g46 g47 g48 g49 g50 g51 g52 g53 g54 g55 g56 g57 g58 g59 g60 g61 g62 g63 : Value}
/-! ### zoetrope/zoetropelaw08.TxfmTypes: function 9 -/
noncomputable abbrev P9 (p : List Nat) : Code := subC (codeOf Try.f9) p
noncomputable abbrev O9 (p : List Nat) : Array Oper := opsOf (subC (codeOf Try.f9) p)
theorem b9 : Try.prog.funcs[9]? = some Try.f9 ∧ (Orc.tab Try.prog).lookup 9 = none := ⟨by kernel_rfl, by kernel_rfl⟩
theorem d9 : Try.f9.body = some (P9 []) := by kernel_rfl
theorem t9 {x0 : Int} : #[.int .i64 x0] ++ Array.replicate (Try.f9.ntmps - (#[.int .i64 x0] : Array Value).size) undef = #[.int .i64 x0,undef,undef,undef,undef,undef,undef,undef,undef,undef,undef,undef,undef,undef,undef,undef,undef,undef,undef,undef,undef,undef,undef,undef,undef,undef,undef,undef,undef,undef,undef,undef,undef,undef,undef,undef,undef,undef,undef,undef,undef,undef,undef,undef,undef,undef,undef,undef,undef,undef,undef,undef,undef,undef,undef,undef,undef,undef,undef,undef,undef,undef,undef,undef] := by kernel_rfl
theorem k9_0 : P9 [] = .seq (P9 [0]) (P9 [1]) := by kernel_rfl
theorem k9_1 : P9 [0] = .region 0 (O9 [0]) false := by kernel_rfl
theorem r9_0 {M : Mem} {call : CallM} {K : Array Value → Mem → R} :
    opsK Try.prog (fun _ => call) (O9 [0]) (O9 [0]).toList 0 #[g0,g1,g2,g3,g4,g5,g6,g7,g8,g9,g10,g11,g12,g13,g14,g15,g16,g17,g18,g19,g20,g21,g22,g23,g24,g25,g26,g27,g28,g29,g30,g31,g32,g33,g34,g35,g36,g37,g38,g39,g40,g41,g42,g43,g44,g45,g46,g47,g48,g49,g50,g51,g52,g53,g54,g55,g56,g57,g58,g59,g60,g61,g62,g63] M K = K #[g0,g1,.bool false,g3,g4,g5,g6,g7,g8,g9,g10,g11,g12,g13,g14,g15,g16,g17,g18,g19,g20,g21,g22,g23,g24,g25,g26,g27,g28,g29,g30,g31,g32,g33,g34,g35,g36,g37,g38,g39,g40,g41,g42,g43,g44,g45,g46,g47,g48,g49,g50,g51,g52,g53,g54,g55,g56,g57,g58,g59,g60,g61,g62,g63] M := by kernel_rfl
theorem k9_2 : P9 [1] = .seq (P9 [1,0]) (P9 [1,1]) := by kernel_rfl
theorem k9_3 : P9 [1,0] = .seq (P9 [1,0,0]) (P9 [1,0,1]) := by kernel_rfl
theorem k9_4 : P9 [1,0,0] = .region 1 (O9 [1,0,0]) false := by kernel_rfl
theorem r9_1 {M : Mem} {call : CallM} {K : Array Value → Mem → R} :
    opsK Try.prog (fun _ => call) (O9 [1,0,0]) (O9 [1,0,0]).toList 0 #[g0,g1,g2,g3,g4,g5,g6,g7,g8,g9,g10,g11,g12,g13,g14,g15,g16,g17,g18,g19,g20,g21,g22,g23,g24,g25,g26,g27,g28,g29,g30,g31,g32,g33,g34,g35,g36,g37,g38,g39,g40,g41,g42,g43,g44,g45,g46,g47,g48,g49,g50,g51,g52,g53,g54,g55,g56,g57,g58,g59,g60,g61,g62,g63] M K = K #[g0,g1,g2,.int .i64 (-2),g4,g5,g6,g7,g8,g9,g10,g11,g12,g13,g14,g15,g16,g17,g18,g19,g20,g21,g22,g23,g24,g25,g26,g27,g28,g29,g30,g31,g32,g33,g34,g35,g36,g37,g38,g39,g40,g41,g42,g43,g44,g45,g46,g47,g48,g49,g50,g51,g52,g53,g54,g55,g56,g57,g58,g59,g60,g61,g62,g63] M := by kernel_rfl
theorem k9_5 : P9 [1,0,1] = .block 0 (P9 [1,0,1,0]) := by kernel_rfl
theorem k9_6 : P9 [1,0,1,0] = .loop (P9 [1,0,1,0,0]) := by kernel_rfl
theorem k9_7 : P9 [1,0,1,0,0] = .seq (P9 [1,0,1,0,0,0]) (P9 [1,0,1,0,0,1]) := by kernel_rfl
theorem k9_8 : P9 [1,0,1,0,0,0] = .seq (P9 [1,0,1,0,0,0,0]) (P9 [1,0,1,0,0,0,1]) := by kernel_rfl
theorem k9_9 : P9 [1,0,1,0,0,0,0] = .region 2 (O9 [1,0,1,0,0,0,0]) false := by kernel_rfl
theorem r9_2 {x3 : Int} {M : Mem} {call : CallM} {K : Array Value → Mem → R} :
    opsK Try.prog (fun _ => call) (O9 [1,0,1,0,0,0,0]) (O9 [1,0,1,0,0,0,0]).toList 0 #[g0,g1,g2,.int .i64 x3,g4,g5,g6,g7,g8,g9,g10,g11,g12,g13,g14,g15,g16,g17,g18,g19,g20,g21,g22,g23,g24,g25,g26,g27,g28,g29,g30,g31,g32,g33,g34,g35,g36,g37,g38,g39,g40,g41,g42,g43,g44,g45,g46,g47,g48,g49,g50,g51,g52,g53,g54,g55,g56,g57,g58,g59,g60,g61,g62,g63] M K = K #[g0,g1,g2,.int .i64 x3,g4,g5,g6,g7,g8,g9,g10,g11,.int .i64 x3,.bool (decide (x3 < 70)),g14,g15,g16,g17,g18,g19,g20,g21,g22,g23,g24,g25,g26,g27,g28,g29,g30,g31,g32,g33,g34,g35,g36,g37,g38,g39,g40,g41,g42,g43,g44,g45,g46,g47,g48,g49,g50,g51,g52,g53,g54,g55,g56,g57,g58,g59,g60,g61,g62,g63] M := by kernel_rfl
theorem c9_10 : P9 [1,0,1,0,0,0,1] = .cond (.tmp 13) (P9 [1,0,1,0,0,0,1,0]) (P9 [1,0,1,0,0,0,1,1]) := by kernel_rfl
theorem k9_11 : P9 [1,0,1,0,0,0,1,0] = .skip := by kernel_rfl
theorem k9_12 : P9 [1,0,1,0,0,1] = .seq (P9 [1,0,1,0,0,1,0]) (P9 [1,0,1,0,0,1,1]) := by kernel_rfl
theorem k9_13 : P9 [1,0,1,0,0,1,0] = .block 1 (P9 [1,0,1,0,0,1,0,0]) := by kernel_rfl
theorem k9_14 : P9 [1,0,1,0,0,1,0,0] = .seq (P9 [1,0,1,0,0,1,0,0,0]) (P9 [1,0,1,0,0,1,0,0,1]) := by kernel_rfl
theorem k9_15 : P9 [1,0,1,0,0,1,0,0,0] = .region 4 (O9 [1,0,1,0,0,1,0,0,0]) false := by kernel_rfl
theorem r9_4 {x3 : Int} {M : Mem} {call : CallM} {K : Array Value → Mem → R} :
    opsK Try.prog (fun _ => call) (O9 [1,0,1,0,0,1,0,0,0]) (O9 [1,0,1,0,0,1,0,0,0]).toList 0 #[g0,g1,g2,.int .i64 x3,g4,g5,g6,g7,g8,g9,g10,g11,g12,g13,g14,g15,g16,g17,g18,g19,g20,g21,g22,g23,g24,g25,g26,g27,g28,g29,g30,g31,g32,g33,g34,g35,g36,g37,g38,g39,g40,g41,g42,g43,g44,g45,g46,g47,g48,g49,g50,g51,g52,g53,g54,g55,g56,g57,g58,g59,g60,g61,g62,g63] M K = K #[g0,g1,g2,.int .i64 x3,.int .i64 x3,g5,g6,g7,g8,g9,g10,g11,g12,g13,g14,g15,.int .i64 x3,g17,g18,g19,g20,g21,g22,g23,g24,g25,g26,g27,g28,g29,g30,g31,g32,g33,g34,g35,g36,g37,g38,g39,g40,g41,g42,g43,g44,g45,g46,g47,g48,g49,g50,g51,g52,g53,g54,g55,g56,g57,g58,g59,g60,g61,g62,g63] M := by kernel_rfl
theorem k9_16 : P9 [1,0,1,0,0,1,0,0,1] = .seq (P9 [1,0,1,0,0,1,0,0,1,0]) (P9 [1,0,1,0,0,1,0,0,1,1]) := by kernel_rfl
theorem k9_17 : P9 [1,0,1,0,0,1,0,0,1,0] = .seq (P9 [1,0,1,0,0,1,0,0,1,0,0]) (P9 [1,0,1,0,0,1,0,0,1,0,1]) := by kernel_rfl
theorem k9_18 : P9 [1,0,1,0,0,1,0,0,1,0,0] = .region 5 (O9 [1,0,1,0,0,1,0,0,1,0,0]) false := by kernel_rfl
theorem r9_5 {x3 : Int} {M : Mem} {call : CallM} {K : Array Value → Mem → R} :
    opsK Try.prog (fun _ => call) (O9 [1,0,1,0,0,1,0,0,1,0,0]) (O9 [1,0,1,0,0,1,0,0,1,0,0]).toList 0 #[g0,g1,g2,.int .i64 x3,g4,g5,g6,g7,g8,g9,g10,g11,g12,g13,g14,g15,g16,g17,g18,g19,g20,g21,g22,g23,g24,g25,g26,g27,g28,g29,g30,g31,g32,g33,g34,g35,g36,g37,g38,g39,g40,g41,g42,g43,g44,g45,g46,g47,g48,g49,g50,g51,g52,g53,g54,g55,g56,g57,g58,g59,g60,g61,g62,g63] M K = K #[g0,g1,g2,.int .i64 x3,g4,g5,g6,g7,g8,g9,g10,g11,g12,g13,g14,g15,g16,.int .i64 x3,.bool (x3 == (-2)),g19,g20,g21,g22,g23,g24,g25,g26,g27,g28,g29,g30,g31,g32,g33,g34,g35,g36,g37,g38,g39,g40,g41,g42,g43,g44,g45,g46,g47,g48,g49,g50,g51,g52,g53,g54,g55,g56,g57,g58,g59,g60,g61,g62,g63] M := by kernel_rfl
theorem c9_19 : P9 [1,0,1,0,0,1,0,0,1,0,1] = .cond (.tmp 18) (P9 [1,0,1,0,0,1,0,0,1,0,1,0]) (P9 [1,0,1,0,0,1,0,0,1,0,1,1]) := by kernel_rfl
theorem k9_20 : P9 [1,0,1,0,0,1,0,0,1,0,1,0] = .region 6 (O9 [1,0,1,0,0,1,0,0,1,0,1,0]) false := by kernel_rfl
theorem r9_6 {x0 : Int} {M : Mem} {call : CallM} {K : Array Value → Mem → R} :
    opsK Try.prog (fun _ => call) (O9 [1,0,1,0,0,1,0,0,1,0,1,0]) (O9 [1,0,1,0,0,1,0,0,1,0,1,0]).toList 0 #[.int .i64 x0,g1,g2,g3,g4,g5,g6,g7,g8,g9,g10,g11,g12,g13,g14,g15,g16,g17,g18,g19,g20,g21,g22,g23,g24,g25,g26,g27,g28,g29,g30,g31,g32,g33,g34,g35,g36,g37,g38,g39,g40,g41,g42,g43,g44,g45,g46,g47,g48,g49,g50,g51,g52,g53,g54,g55,g56,g57,g58,g59,g60,g61,g62,g63] M K = K #[.int .i64 x0,g1,g2,g3,.int .i64 x0,g5,g6,g7,g8,g9,g10,g11,g12,g13,g14,g15,g16,g17,g18,.int .i64 x0,g20,g21,g22,g23,g24,g25,g26,g27,g28,g29,g30,g31,g32,g33,g34,g35,g36,g37,g38,g39,g40,g41,g42,g43,g44,g45,g46,g47,g48,g49,g50,g51,g52,g53,g54,g55,g56,g57,g58,g59,g60,g61,g62,g63] M := by kernel_rfl
theorem k9_21 : P9 [1,0,1,0,0,1,0,0,1,1] = .seq (P9 [1,0,1,0,0,1,0,0,1,1,0]) (P9 [1,0,1,0,0,1,0,0,1,1,1]) := by kernel_rfl
theorem k9_22 : P9 [1,0,1,0,0,1,0,0,1,1,0] = .region 7 (O9 [1,0,1,0,0,1,0,0,1,1,0]) false := by kernel_rfl
theorem r9_7 {x4 : Int} {M : Mem} {call : CallM} {K : Array Value → Mem → R} :
    opsK Try.prog (fun _ => call) (O9 [1,0,1,0,0,1,0,0,1,1,0]) (O9 [1,0,1,0,0,1,0,0,1,1,0]).toList 0 #[g0,g1,g2,g3,.int .i64 x4,g5,g6,g7,g8,g9,g10,g11,g12,g13,g14,g15,g16,g17,g18,g19,g20,g21,g22,g23,g24,g25,g26,g27,g28,g29,g30,g31,g32,g33,g34,g35,g36,g37,g38,g39,g40,g41,g42,g43,g44,g45,g46,g47,g48,g49,g50,g51,g52,g53,g54,g55,g56,g57,g58,g59,g60,g61,g62,g63] M K = (call 23 #[.int .i64 x4] M).bind fun r_1 => (asS r_1.1).bind fun s_2 => (call 23 #[.int .i64 x4] r_1.2).bind fun r_3 => (asS r_3.1).bind fun s_4 => K #[g0,g1,g2,g3,.int .i64 x4,.slice s_2.1 (s_2.2.1) (s_2.2.2),.slice s_4.1 (s_4.2.1) (s_4.2.2),g7,g8,g9,g10,g11,g12,g13,g14,g15,g16,g17,g18,g19,.int .i64 x4,.slice s_2.1 (s_2.2.1) (s_2.2.2),.int .i64 x4,.slice s_4.1 (s_4.2.1) (s_4.2.2),g24,g25,g26,g27,g28,g29,g30,g31,g32,g33,g34,g35,g36,g37,g38,g39,g40,g41,g42,g43,g44,g45,g46,g47,g48,g49,g50,g51,g52,g53,g54,g55,g56,g57,g58,g59,g60,g61,g62,g63] r_3.2 := by kernel_rfl
theorem k9_23 : P9 [1,0,1,0,0,1,0,0,1,1,1] = .seq (P9 [1,0,1,0,0,1,0,0,1,1,1,0]) (P9 [1,0,1,0,0,1,0,0,1,1,1,1]) := by kernel_rfl
theorem k9_24 : P9 [1,0,1,0,0,1,0,0,1,1,1,0] = .region 8 (O9 [1,0,1,0,0,1,0,0,1,1,1,0]) false := by kernel_rfl
theorem r9_8 {x4 : Int} {M : Mem} {call : CallM} {K : Array Value → Mem → R} :
    opsK Try.prog (fun _ => call) (O9 [1,0,1,0,0,1,0,0,1,1,1,0]) (O9 [1,0,1,0,0,1,0,0,1,1,1,0]).toList 0 #[g0,g1,g2,g3,.int .i64 x4,g5,g6,g7,g8,g9,g10,g11,g12,g13,g14,g15,g16,g17,g18,g19,g20,g21,g22,g23,g24,g25,g26,g27,g28,g29,g30,g31,g32,g33,g34,g35,g36,g37,g38,g39,g40,g41,g42,g43,g44,g45,g46,g47,g48,g49,g50,g51,g52,g53,g54,g55,g56,g57,g58,g59,g60,g61,g62,g63] M K = (call 24 #[.int .i64 x4] M).bind fun r_1 => (asU 2 r_1.1).bind fun cs_2 => (asI .i64 (cs_2.getD 0 undef)).bind fun x_3 => (asI .i64 (cs_2.getD 1 undef)).bind fun x_4 => K #[g0,g1,g2,g3,.int .i64 x4,g5,g6,.int .i64 x_3,.int .i64 x_4,g9,g10,g11,g12,g13,g14,g15,g16,g17,g18,g19,g20,g21,g22,g23,.tuple #[.int .i64 x_3, .int .i64 x_4],.int .i64 x4,.tuple #[.int .i64 x_3, .int .i64 x_4],.int .i64 x_3,.int .i64 x_4,g29,g30,g31,g32,g33,g34,g35,g36,g37,g38,g39,g40,g41,g42,g43,g44,g45,g46,g47,g48,g49,g50,g51,g52,g53,g54,g55,g56,g57,g58,g59,g60,g61,g62,g63] r_1.2 := by kernel_rfl
theorem k9_25 : P9 [1,0,1,0,0,1,0,0,1,1,1,1] = .seq (P9 [1,0,1,0,0,1,0,0,1,1,1,1,0]) (P9 [1,0,1,0,0,1,0,0,1,1,1,1,1]) := by kernel_rfl
theorem k9_26 : P9 [1,0,1,0,0,1,0,0,1,1,1,1,0] = .region 9 (O9 [1,0,1,0,0,1,0,0,1,1,1,1,0]) false := by kernel_rfl
theorem r9_9 {x4 : Int} {M : Mem} {call : CallM} {K : Array Value → Mem → R} :
    opsK Try.prog (fun _ => call) (O9 [1,0,1,0,0,1,0,0,1,1,1,1,0]) (O9 [1,0,1,0,0,1,0,0,1,1,1,1,0]).toList 0 #[g0,g1,g2,g3,.int .i64 x4,g5,g6,g7,g8,g9,g10,g11,g12,g13,g14,g15,g16,g17,g18,g19,g20,g21,g22,g23,g24,g25,g26,g27,g28,g29,g30,g31,g32,g33,g34,g35,g36,g37,g38,g39,g40,g41,g42,g43,g44,g45,g46,g47,g48,g49,g50,g51,g52,g53,g54,g55,g56,g57,g58,g59,g60,g61,g62,g63] M K = (call 25 #[.int .i64 x4] M).bind fun r_1 => (asU 2 r_1.1).bind fun cs_2 => (asI .i64 (cs_2.getD 0 undef)).bind fun x_3 => (asI .i64 (cs_2.getD 1 undef)).bind fun x_4 => K #[g0,g1,g2,g3,.int .i64 x4,g5,g6,g7,g8,.int .i64 x_3,.int .i64 x_4,g11,g12,g13,g14,g15,g16,g17,g18,g19,g20,g21,g22,g23,g24,g25,g26,g27,g28,.tuple #[.int .i64 x_3, .int .i64 x_4],.int .i64 x4,.tuple #[.int .i64 x_3, .int .i64 x_4],.int .i64 x_3,.int .i64 x_4,g34,g35,g36,g37,g38,g39,g40,g41,g42,g43,g44,g45,g46,g47,g48,g49,g50,g51,g52,g53,g54,g55,g56,g57,g58,g59,g60,g61,g62,g63] r_1.2 := by kernel_rfl
theorem k9_27 : P9 [1,0,1,0,0,1,0,0,1,1,1,1,1] = .seq (P9 [1,0,1,0,0,1,0,0,1,1,1,1,1,0]) (P9 [1,0,1,0,0,1,0,0,1,1,1,1,1,1]) := by kernel_rfl
theorem k9_28 : P9 [1,0,1,0,0,1,0,0,1,1,1,1,1,0] = .seq (P9 [1,0,1,0,0,1,0,0,1,1,1,1,1,0,0]) (P9 [1,0,1,0,0,1,0,0,1,1,1,1,1,0,1]) := by kernel_rfl
theorem k9_29 : P9 [1,0,1,0,0,1,0,0,1,1,1,1,1,0,0] = .region 10 (O9 [1,0,1,0,0,1,0,0,1,1,1,1,1,0,0]) false := by kernel_rfl
theorem r9_10 {x4 : Int} {Ax5 : Option Addr} {lx5 cx5 : Nat} {x7 x8 x9 x10 : Int} {M : Mem} {call : CallM} {K : Array Value → Mem → R} :
    opsK Try.prog (fun _ => call) (O9 [1,0,1,0,0,1,0,0,1,1,1,1,1,0,0]) (O9 [1,0,1,0,0,1,0,0,1,1,1,1,1,0,0]).toList 0 #[g0,g1,g2,g3,.int .i64 x4,.slice Ax5 lx5 cx5,g6,.int .i64 x7,.int .i64 x8,.int .i64 x9,.int .i64 x10,g11,g12,g13,g14,g15,g16,g17,g18,g19,g20,g21,g22,g23,g24,g25,g26,g27,g28,g29,g30,g31,g32,g33,g34,g35,g36,g37,g38,g39,g40,g41,g42,g43,g44,g45,g46,g47,g48,g49,g50,g51,g52,g53,g54,g55,g56,g57,g58,g59,g60,g61,g62,g63] M K = withK (fun w36 w37 w38 w39 w40 w41 w42 w43 w44 w45 w46 w47 w48 M => K #[g0,g1,g2,g3,.int .i64 x4,.slice Ax5 lx5 cx5,g6,.int .i64 x7,.int .i64 x8,.int .i64 x9,.int .i64 x10,g11,g12,g13,g14,g15,g16,g17,g18,g19,g20,g21,g22,g23,g24,g25,g26,g27,g28,g29,g30,g31,g32,g33,.slice Ax5 lx5 cx5,.int .i64 x4,w36,w37,w38,w39,w40,w41,w42,w43,w44,w45,w46,w47,w48,g49,g50,g51,g52,g53,g54,g55,g56,g57,g58,g59,g60,g61,g62,g63] M) fun k => (call 26 #[.int .i64 x4] M).bind fun r_1 => (asS r_1.1).bind fun s_2 => (call 19 #[.slice Ax5 lx5 cx5, .slice s_2.1 (s_2.2.1) (s_2.2.2)] r_1.2).bind fun r_3 => (asB r_3.1).bind fun b_4 => cond (!b_4) (k (.slice s_2.1 (s_2.2.1) (s_2.2.2)) (.bool b_4) (.bool (!b_4)) (.bool true) undef undef undef (.bool true) (.bool true) undef undef undef (.bool true) r_3.2) (cond (x7 != x9) (k (.slice s_2.1 (s_2.2.1) (s_2.2.2)) (.bool b_4) (.bool (!b_4)) (.bool false) (.int .i64 x7) (.int .i64 x9) (.bool (x7 != x9)) (.bool (x7 != x9)) (.bool true) undef undef undef (.bool true) r_3.2) (k (.slice s_2.1 (s_2.2.1) (s_2.2.2)) (.bool b_4) (.bool (!b_4)) (.bool false) (.int .i64 x7) (.int .i64 x9) (.bool (x7 != x9)) (.bool (x7 != x9)) (.bool false) (.int .i64 x8) (.int .i64 x10) (.bool (x8 != x10)) (.bool (x8 != x10)) r_3.2)) := by kernel_rfl
theorem k9_30 : P9 [1,0,1,0,0,1,0,0,1,0,1,1] = .skip := by kernel_rfl
theorem k9_31 : P9 [1,0,1,0,0,0,1,1] = .exit 0 := by kernel_rfl
theorem k9_32 : P9 [1,1] = .seq (P9 [1,1,0]) (P9 [1,1,1]) := by kernel_rfl
theorem k9_33 : P9 [1,1,0] = .region 18 (O9 [1,1,0]) false := by kernel_rfl
theorem r9_18 {M : Mem} {call : CallM} {K : Array Value → Mem → R} :
    opsK Try.prog (fun _ => call) (O9 [1,1,0]) (O9 [1,1,0]).toList 0 #[g0,g1,g2,g3,g4,g5,g6,g7,g8,g9,g10,g11,g12,g13,g14,g15,g16,g17,g18,g19,g20,g21,g22,g23,g24,g25,g26,g27,g28,g29,g30,g31,g32,g33,g34,g35,g36,g37,g38,g39,g40,g41,g42,g43,g44,g45,g46,g47,g48,g49,g50,g51,g52,g53,g54,g55,g56,g57,g58,g59,g60,g61,g62,g63] M K = (call 15 #[] M).bind fun r_1 => (asB r_1.1).bind fun b_2 => K #[g0,g1,.bool b_2,g3,g4,g5,g6,g7,g8,g9,g10,g11,g12,g13,g14,g15,g16,g17,g18,g19,g20,g21,g22,g23,g24,g25,g26,g27,g28,g29,g30,g31,g32,g33,g34,g35,g36,g37,g38,g39,g40,g41,g42,g43,g44,g45,g46,g47,g48,g49,g50,g51,g52,g53,g54,g55,g56,g57,g58,g59,g60,g61,g62,.bool b_2] r_1.2 := by kernel_rfl
theorem k9_34 : P9 [1,1,1] = .ret := by kernel_rfl
theorem e9 {M : Mem} : finish Try.prog Try.f9 #[g0,g1,g2,g3,g4,g5,g6,g7,g8,g9,g10,g11,g12,g13,g14,g15,g16,g17,g18,g19,g20,g21,g22,g23,g24,g25,g26,g27,g28,g29,g30,g31,g32,g33,g34,g35,g36,g37,g38,g39,g40,g41,g42,g43,g44,g45,g46,g47,g48,g49,g50,g51,g52,g53,g54,g55,g56,g57,g58,g59,g60,g61,g62,g63] M = some (g2, M) := by kernel_rfl
theorem c9_36 : P9 [1,0,1,0,0,1,0,0,1,1,1,1,1,0,1] = .cond (.tmp 48) (P9 [1,0,1,0,0,1,0,0,1,1,1,1,1,0,1,0]) (P9 [1,0,1,0,0,1,0,0,1,1,1,1,1,0,1,1]) := by kernel_rfl
theorem k9_37 : P9 [1,0,1,0,0,1,0,0,1,1,1,1,1,0,1,0] = .seq (P9 [1,0,1,0,0,1,0,0,1,1,1,1,1,0,1,0,0]) (P9 [1,0,1,0,0,1,0,0,1,1,1,1,1,0,1,0,1]) := by kernel_rfl
theorem k9_38 : P9 [1,0,1,0,0,1,0,0,1,1,1,1,1,0,1,0,0] = .region 11 (O9 [1,0,1,0,0,1,0,0,1,1,1,1,1,0,1,0,0]) false := by kernel_rfl
theorem r9_11 {M : Mem} {call : CallM} {K : Array Value → Mem → R} :
    opsK Try.prog (fun _ => call) (O9 [1,0,1,0,0,1,0,0,1,1,1,1,1,0,1,0,0]) (O9 [1,0,1,0,0,1,0,0,1,1,1,1,1,0,1,0,0]).toList 0 #[g0,g1,g2,g3,g4,g5,g6,g7,g8,g9,g10,g11,g12,g13,g14,g15,g16,g17,g18,g19,g20,g21,g22,g23,g24,g25,g26,g27,g28,g29,g30,g31,g32,g33,g34,g35,g36,g37,g38,g39,g40,g41,g42,g43,g44,g45,g46,g47,g48,g49,g50,g51,g52,g53,g54,g55,g56,g57,g58,g59,g60,g61,g62,g63] M K = K #[g0,g1,.bool false,g3,g4,g5,g6,g7,g8,g9,g10,g11,g12,g13,g14,g15,g16,g17,g18,g19,g20,g21,g22,g23,g24,g25,g26,g27,g28,g29,g30,g31,g32,g33,g34,g35,g36,g37,g38,g39,g40,g41,g42,g43,g44,g45,g46,g47,g48,g49,g50,g51,g52,g53,g54,g55,g56,g57,g58,g59,g60,g61,g62,g63] M := by kernel_rfl
theorem k9_39 : P9 [1,0,1,0,0,1,0,0,1,1,1,1,1,0,1,0,1] = .ret := by kernel_rfl
theorem k9_40 : P9 [1,0,1,0,0,1,0,0,1,1,1,1,1,0,1,1] = .skip := by kernel_rfl
theorem k9_41 : P9 [1,0,1,0,0,1,0,0,1,1,1,1,1,1] = .seq (P9 [1,0,1,0,0,1,0,0,1,1,1,1,1,1,0]) (P9 [1,0,1,0,0,1,0,0,1,1,1,1,1,1,1]) := by kernel_rfl
theorem k9_42 : P9 [1,0,1,0,0,1,0,0,1,1,1,1,1,1,0] = .seq (P9 [1,0,1,0,0,1,0,0,1,1,1,1,1,1,0,0]) (P9 [1,0,1,0,0,1,0,0,1,1,1,1,1,1,0,1]) := by kernel_rfl
theorem k9_43 : P9 [1,0,1,0,0,1,0,0,1,1,1,1,1,1,0,0] = .region 12 (O9 [1,0,1,0,0,1,0,0,1,1,1,1,1,1,0,0]) false := by kernel_rfl
theorem r9_12 {M : Mem} {call : CallM} {K : Array Value → Mem → R} :
    opsK Try.prog (fun _ => call) (O9 [1,0,1,0,0,1,0,0,1,1,1,1,1,1,0,0]) (O9 [1,0,1,0,0,1,0,0,1,1,1,1,1,1,0,0]).toList 0 #[g0,g1,g2,g3,g4,g5,g6,g7,g8,g9,g10,g11,g12,g13,g14,g15,g16,g17,g18,g19,g20,g21,g22,g23,g24,g25,g26,g27,g28,g29,g30,g31,g32,g33,g34,g35,g36,g37,g38,g39,g40,g41,g42,g43,g44,g45,g46,g47,g48,g49,g50,g51,g52,g53,g54,g55,g56,g57,g58,g59,g60,g61,g62,g63] M K = K #[g0,g1,g2,g3,g4,g5,g6,g7,g8,g9,g10,.int .i64 0,g12,g13,g14,g15,g16,g17,g18,g19,g20,g21,g22,g23,g24,g25,g26,g27,g28,g29,g30,g31,g32,g33,g34,g35,g36,g37,g38,g39,g40,g41,g42,g43,g44,g45,g46,g47,g48,g49,g50,g51,g52,g53,g54,g55,g56,g57,g58,g59,g60,g61,g62,g63] M := by kernel_rfl
theorem k9_44 : P9 [1,0,1,0,0,1,0,0,1,1,1,1,1,1,0,1] = .block 2 (P9 [1,0,1,0,0,1,0,0,1,1,1,1,1,1,0,1,0]) := by kernel_rfl
theorem k9_45 : P9 [1,0,1,0,0,1,0,0,1,1,1,1,1,1,0,1,0] = .loop (P9 [1,0,1,0,0,1,0,0,1,1,1,1,1,1,0,1,0,0]) := by kernel_rfl
theorem k9_46 : P9 [1,0,1,0,0,1,0,0,1,1,1,1,1,1,0,1,0,0] = .seq (P9 [1,0,1,0,0,1,0,0,1,1,1,1,1,1,0,1,0,0,0]) (P9 [1,0,1,0,0,1,0,0,1,1,1,1,1,1,0,1,0,0,1]) := by kernel_rfl
theorem k9_47 : P9 [1,0,1,0,0,1,0,0,1,1,1,1,1,1,0,1,0,0,0] = .seq (P9 [1,0,1,0,0,1,0,0,1,1,1,1,1,1,0,1,0,0,0,0]) (P9 [1,0,1,0,0,1,0,0,1,1,1,1,1,1,0,1,0,0,0,1]) := by kernel_rfl
theorem k9_48 : P9 [1,0,1,0,0,1,0,0,1,1,1,1,1,1,0,1,0,0,0,0] = .region 13 (O9 [1,0,1,0,0,1,0,0,1,1,1,1,1,1,0,1,0,0,0,0]) false := by kernel_rfl
theorem r9_13 {Ax5 : Option Addr} {lx5 cx5 : Nat} {x11 : Int} {M : Mem} {call : CallM} {K : Array Value → Mem → R} :
    opsK Try.prog (fun _ => call) (O9 [1,0,1,0,0,1,0,0,1,1,1,1,1,1,0,1,0,0,0,0]) (O9 [1,0,1,0,0,1,0,0,1,1,1,1,1,1,0,1,0,0,0,0]).toList 0 #[g0,g1,g2,g3,g4,.slice Ax5 lx5 cx5,g6,g7,g8,g9,g10,.int .i64 x11,g12,g13,g14,g15,g16,g17,g18,g19,g20,g21,g22,g23,g24,g25,g26,g27,g28,g29,g30,g31,g32,g33,g34,g35,g36,g37,g38,g39,g40,g41,g42,g43,g44,g45,g46,g47,g48,g49,g50,g51,g52,g53,g54,g55,g56,g57,g58,g59,g60,g61,g62,g63] M K = K #[g0,g1,g2,g3,g4,.slice Ax5 lx5 cx5,g6,g7,g8,g9,g10,.int .i64 x11,g12,g13,g14,g15,g16,g17,g18,g19,g20,g21,g22,g23,g24,g25,g26,g27,g28,g29,g30,g31,g32,g33,g34,g35,g36,g37,g38,g39,g40,g41,g42,g43,g44,g45,g46,g47,g48,.int .i64 x11,.slice Ax5 lx5 cx5,.int .i64 ((lx5 : Int)),.bool (decide (x11 < ((lx5 : Int)))),g53,g54,g55,g56,g57,g58,g59,g60,g61,g62,g63] M := by kernel_rfl
theorem c9_49 : P9 [1,0,1,0,0,1,0,0,1,1,1,1,1,1,0,1,0,0,0,1] = .cond (.tmp 52) (P9 [1,0,1,0,0,1,0,0,1,1,1,1,1,1,0,1,0,0,0,1,0]) (P9 [1,0,1,0,0,1,0,0,1,1,1,1,1,1,0,1,0,0,0,1,1]) := by kernel_rfl
theorem k9_50 : P9 [1,0,1,0,0,1,0,0,1,1,1,1,1,1,0,1,0,0,0,1,0] = .skip := by kernel_rfl
theorem k9_51 : P9 [1,0,1,0,0,1,0,0,1,1,1,1,1,1,0,1,0,0,1] = .seq (P9 [1,0,1,0,0,1,0,0,1,1,1,1,1,1,0,1,0,0,1,0]) (P9 [1,0,1,0,0,1,0,0,1,1,1,1,1,1,0,1,0,0,1,1]) := by kernel_rfl
theorem k9_52 : P9 [1,0,1,0,0,1,0,0,1,1,1,1,1,1,0,1,0,0,1,0] = .block 3 (P9 [1,0,1,0,0,1,0,0,1,1,1,1,1,1,0,1,0,0,1,0,0]) := by kernel_rfl
theorem k9_53 : P9 [1,0,1,0,0,1,0,0,1,1,1,1,1,1,0,1,0,0,1,0,0] = .region 15 (O9 [1,0,1,0,0,1,0,0,1,1,1,1,1,1,0,1,0,0,1,0,0]) false := by kernel_rfl
theorem r9_15 {Ax5 : Option Addr} {lx5 cx5 : Nat} {x11 : Int} {M : Mem} {call : CallM} {K : Array Value → Mem → R} :
    opsK Try.prog (fun _ => call) (O9 [1,0,1,0,0,1,0,0,1,1,1,1,1,1,0,1,0,0,1,0,0]) (O9 [1,0,1,0,0,1,0,0,1,1,1,1,1,1,0,1,0,0,1,0,0]).toList 0 #[g0,g1,g2,g3,g4,.slice Ax5 lx5 cx5,g6,g7,g8,g9,g10,.int .i64 x11,g12,g13,g14,g15,g16,g17,g18,g19,g20,g21,g22,g23,g24,g25,g26,g27,g28,g29,g30,g31,g32,g33,g34,g35,g36,g37,g38,g39,g40,g41,g42,g43,g44,g45,g46,g47,g48,g49,g50,g51,g52,g53,g54,g55,g56,g57,g58,g59,g60,g61,g62,g63] M K = (idxA Ax5 lx5 1 x11).bind fun a_1 => (M.put a_1.block a_1.off (.int .i64 99)).bind fun M_2 => K #[g0,g1,g2,g3,g4,.slice Ax5 lx5 cx5,g6,g7,g8,g9,g10,.int .i64 x11,g12,g13,g14,g15,g16,g17,g18,g19,g20,g21,g22,g23,g24,g25,g26,g27,g28,g29,g30,g31,g32,g33,g34,g35,g36,g37,g38,g39,g40,g41,g42,g43,g44,g45,g46,g47,g48,g49,g50,g51,g52,g53,g54,.slice Ax5 lx5 cx5,.int .i64 x11,.pointer (some a_1),g58,g59,g60,g61,g62,g63] M_2 := by kernel_rfl
theorem k9_54 : P9 [1,0,1,0,0,1,0,0,1,1,1,1,1,1,0,1,0,0,1,1] = .region 14 (O9 [1,0,1,0,0,1,0,0,1,1,1,1,1,1,0,1,0,0,1,1]) false := by kernel_rfl
theorem r9_14 {x11 : Int} {M : Mem} {call : CallM} {K : Array Value → Mem → R} :
    opsK Try.prog (fun _ => call) (O9 [1,0,1,0,0,1,0,0,1,1,1,1,1,1,0,1,0,0,1,1]) (O9 [1,0,1,0,0,1,0,0,1,1,1,1,1,1,0,1,0,0,1,1]).toList 0 #[g0,g1,g2,g3,g4,g5,g6,g7,g8,g9,g10,.int .i64 x11,g12,g13,g14,g15,g16,g17,g18,g19,g20,g21,g22,g23,g24,g25,g26,g27,g28,g29,g30,g31,g32,g33,g34,g35,g36,g37,g38,g39,g40,g41,g42,g43,g44,g45,g46,g47,g48,g49,g50,g51,g52,g53,g54,g55,g56,g57,g58,g59,g60,g61,g62,g63] M K = K #[g0,g1,g2,g3,g4,g5,g6,g7,g8,g9,g10,.int .i64 (IntKind.i64.wrap (x11 + 1)),g12,g13,g14,g15,g16,g17,g18,g19,g20,g21,g22,g23,g24,g25,g26,g27,g28,g29,g30,g31,g32,g33,g34,g35,g36,g37,g38,g39,g40,g41,g42,g43,g44,g45,g46,g47,g48,g49,g50,g51,g52,.int .i64 x11,.int .i64 (IntKind.i64.wrap (x11 + 1)),g55,g56,g57,g58,g59,g60,g61,g62,g63] M := by kernel_rfl
theorem k9_55 : P9 [1,0,1,0,0,1,0,0,1,1,1,1,1,1,0,1,0,0,0,1,1] = .exit 2 := by kernel_rfl
theorem k9_56 : P9 [1,0,1,0,0,1,0,0,1,1,1,1,1,1,1] = .seq (P9 [1,0,1,0,0,1,0,0,1,1,1,1,1,1,1,0]) (P9 [1,0,1,0,0,1,0,0,1,1,1,1,1,1,1,1]) := by kernel_rfl
theorem k9_57 : P9 [1,0,1,0,0,1,0,0,1,1,1,1,1,1,1,0] = .region 16 (O9 [1,0,1,0,0,1,0,0,1,1,1,1,1,1,1,0]) false := by kernel_rfl
theorem r9_16 {x4 : Int} {Ax6 : Option Addr} {lx6 cx6 : Nat} {M : Mem} {call : CallM} {K : Array Value → Mem → R} :
    opsK Try.prog (fun _ => call) (O9 [1,0,1,0,0,1,0,0,1,1,1,1,1,1,1,0]) (O9 [1,0,1,0,0,1,0,0,1,1,1,1,1,1,1,0]).toList 0 #[g0,g1,g2,g3,.int .i64 x4,g5,.slice Ax6 lx6 cx6,g7,g8,g9,g10,g11,g12,g13,g14,g15,g16,g17,g18,g19,g20,g21,g22,g23,g24,g25,g26,g27,g28,g29,g30,g31,g32,g33,g34,g35,g36,g37,g38,g39,g40,g41,g42,g43,g44,g45,g46,g47,g48,g49,g50,g51,g52,g53,g54,g55,g56,g57,g58,g59,g60,g61,g62,g63] M K = (call 26 #[.int .i64 x4] M).bind fun r_1 => (asS r_1.1).bind fun s_2 => (call 19 #[.slice Ax6 lx6 cx6, .slice s_2.1 (s_2.2.1) (s_2.2.2)] r_1.2).bind fun r_3 => (asB r_3.1).bind fun b_4 => K #[g0,g1,g2,g3,.int .i64 x4,g5,.slice Ax6 lx6 cx6,g7,g8,g9,g10,g11,g12,g13,g14,g15,g16,g17,g18,g19,g20,g21,g22,g23,g24,g25,g26,g27,g28,g29,g30,g31,g32,g33,g34,g35,g36,g37,g38,g39,g40,g41,g42,g43,g44,g45,g46,g47,g48,g49,g50,g51,g52,g53,g54,g55,g56,g57,.slice Ax6 lx6 cx6,.int .i64 x4,.slice s_2.1 (s_2.2.1) (s_2.2.2),.bool b_4,.bool (!b_4),g63] r_3.2 := by kernel_rfl
theorem c9_58 : P9 [1,0,1,0,0,1,0,0,1,1,1,1,1,1,1,1] = .cond (.tmp 62) (P9 [1,0,1,0,0,1,0,0,1,1,1,1,1,1,1,1,0]) (P9 [1,0,1,0,0,1,0,0,1,1,1,1,1,1,1,1,1]) := by kernel_rfl
theorem k9_59 : P9 [1,0,1,0,0,1,0,0,1,1,1,1,1,1,1,1,0] = .seq (P9 [1,0,1,0,0,1,0,0,1,1,1,1,1,1,1,1,0,0]) (P9 [1,0,1,0,0,1,0,0,1,1,1,1,1,1,1,1,0,1]) := by kernel_rfl
theorem k9_60 : P9 [1,0,1,0,0,1,0,0,1,1,1,1,1,1,1,1,0,0] = .region 17 (O9 [1,0,1,0,0,1,0,0,1,1,1,1,1,1,1,1,0,0]) false := by kernel_rfl
theorem r9_17 {M : Mem} {call : CallM} {K : Array Value → Mem → R} :
    opsK Try.prog (fun _ => call) (O9 [1,0,1,0,0,1,0,0,1,1,1,1,1,1,1,1,0,0]) (O9 [1,0,1,0,0,1,0,0,1,1,1,1,1,1,1,1,0,0]).toList 0 #[g0,g1,g2,g3,g4,g5,g6,g7,g8,g9,g10,g11,g12,g13,g14,g15,g16,g17,g18,g19,g20,g21,g22,g23,g24,g25,g26,g27,g28,g29,g30,g31,g32,g33,g34,g35,g36,g37,g38,g39,g40,g41,g42,g43,g44,g45,g46,g47,g48,g49,g50,g51,g52,g53,g54,g55,g56,g57,g58,g59,g60,g61,g62,g63] M K = K #[g0,g1,.bool false,g3,g4,g5,g6,g7,g8,g9,g10,g11,g12,g13,g14,g15,g16,g17,g18,g19,g20,g21,g22,g23,g24,g25,g26,g27,g28,g29,g30,g31,g32,g33,g34,g35,g36,g37,g38,g39,g40,g41,g42,g43,g44,g45,g46,g47,g48,g49,g50,g51,g52,g53,g54,g55,g56,g57,g58,g59,g60,g61,g62,g63] M := by kernel_rfl
theorem k9_61 : P9 [1,0,1,0,0,1,0,0,1,1,1,1,1,1,1,1,0,1] = .ret := by kernel_rfl
theorem k9_62 : P9 [1,0,1,0,0,1,0,0,1,1,1,1,1,1,1,1,1] = .skip := by kernel_rfl
theorem k9_63 : P9 [1,0,1,0,0,1,1] = .region 3 (O9 [1,0,1,0,0,1,1]) false := by kernel_rfl
theorem r9_3 {x3 : Int} {M : Mem} {call : CallM} {K : Array Value → Mem → R} :
    opsK Try.prog (fun _ => call) (O9 [1,0,1,0,0,1,1]) (O9 [1,0,1,0,0,1,1]).toList 0 #[g0,g1,g2,.int .i64 x3,g4,g5,g6,g7,g8,g9,g10,g11,g12,g13,g14,g15,g16,g17,g18,g19,g20,g21,g22,g23,g24,g25,g26,g27,g28,g29,g30,g31,g32,g33,g34,g35,g36,g37,g38,g39,g40,g41,g42,g43,g44,g45,g46,g47,g48,g49,g50,g51,g52,g53,g54,g55,g56,g57,g58,g59,g60,g61,g62,g63] M K = K #[g0,g1,g2,.int .i64 (IntKind.i64.wrap (x3 + 1)),g4,g5,g6,g7,g8,g9,g10,g11,g12,g13,.int .i64 x3,.int .i64 (IntKind.i64.wrap (x3 + 1)),g16,g17,g18,g19,g20,g21,g22,g23,g24,g25,g26,g27,g28,g29,g30,g31,g32,g33,g34,g35,g36,g37,g38,g39,g40,g41,g42,g43,g44,g45,g46,g47,g48,g49,g50,g51,g52,g53,g54,g55,g56,g57,g58,g59,g60,g61,g62,g63] M := by kernel_rfl
noncomputable def S9_1 : List Item := [.code (P9 [1,0,1,0,0]), .inLoop (P9 [1,0,1,0,0]), .inBlock 0, .code (P9 [1,1])]
def A9_1 (x0 x3 : Int) (M : Mem) (Q : Value → Mem → Prop) : Prop := ∀ (g1 g2 g4 g5 g6 g7 g8 g9 g10 g11 g12 g13 g14 g15 g16 g17 g18 g19 g20 g21 g22 g23 g24 g25 g26 g27 g28 g29 g30 g31 g32 g33 g34 g35 g36 g37 g38 g39 g40 g41 g42 g43 g44 g45 g46 g47 g48 g49 g50 g51 g52 g53 g54 g55 g56 g57 g58 g59 g60 g61 g62 g63 : Value), Rn Try.prog Try.f9 S9_1 #[.int .i64 x0, g1, g2, .int .i64 x3, g4, g5, g6, g7, g8, g9, g10, g11, g12, g13, g14, g15, g16, g17, g18, g19, g20, g21, g22, g23, g24, g25, g26, g27, g28, g29, g30, g31, g32, g33, g34, g35, g36, g37, g38, g39, g40, g41, g42, g43, g44, g45, g46, g47, g48, g49, g50, g51, g52, g53, g54, g55, g56, g57, g58, g59, g60, g61, g62, g63] M Q
noncomputable def S9_2 : List Item := [.code (P9 [1,0,1,0,0,1,0,0,1,1,1,1,1,0,1]), .code (P9 [1,0,1,0,0,1,0,0,1,1,1,1,1,1]), .inBlock 1, .code (P9 [1,0,1,0,0,1,1]), .inLoop (P9 [1,0,1,0,0]), .inBlock 0, .code (P9 [1,1])]
def A9_2 (x0 x3 x4 : Int) (Ax5 : Option Addr) (lx5 cx5 : Nat) (Ax6 : Option Addr) (lx6 cx6 : Nat) (x48 : Bool) (M : Mem) (Q : Value → Mem → Prop) : Prop := ∀ (g1 g2 g7 g8 g9 g10 g11 g12 g13 g14 g15 g16 g17 g18 g19 g20 g21 g22 g23 g24 g25 g26 g27 g28 g29 g30 g31 g32 g33 g34 g35 g36 g37 g38 g39 g40 g41 g42 g43 g44 g45 g46 g47 g49 g50 g51 g52 g53 g54 g55 g56 g57 g58 g59 g60 g61 g62 g63 : Value), Rn Try.prog Try.f9 S9_2 #[.int .i64 x0, g1, g2, .int .i64 x3, .int .i64 x4, .slice Ax5 lx5 cx5, .slice Ax6 lx6 cx6, g7, g8, g9, g10, g11, g12, g13, g14, g15, g16, g17, g18, g19, g20, g21, g22, g23, g24, g25, g26, g27, g28, g29, g30, g31, g32, g33, g34, g35, g36, g37, g38, g39, g40, g41, g42, g43, g44, g45, g46, g47, .bool x48, g49, g50, g51, g52, g53, g54, g55, g56, g57, g58, g59, g60, g61, g62, g63] M Q
noncomputable def S9_3 : List Item := [.code (P9 [1,0,1,0,0,1,0,0,1,1,1,1,1,1,0,1,0,0]), .inLoop (P9 [1,0,1,0,0,1,0,0,1,1,1,1,1,1,0,1,0,0]), .inBlock 2, .code (P9 [1,0,1,0,0,1,0,0,1,1,1,1,1,1,1]), .inBlock 1, .code (P9 [1,0,1,0,0,1,1]), .inLoop (P9 [1,0,1,0,0]), .inBlock 0, .code (P9 [1,1])]
def A9_3 (x0 x3 x4 : Int) (Ax5 : Option Addr) (lx5 cx5 : Nat) (Ax6 : Option Addr) (lx6 cx6 : Nat) (x11 : Int) (M : Mem) (Q : Value → Mem → Prop) : Prop := ∀ (g1 g2 g7 g8 g9 g10 g12 g13 g14 g15 g16 g17 g18 g19 g20 g21 g22 g23 g24 g25 g26 g27 g28 g29 g30 g31 g32 g33 g34 g35 g36 g37 g38 g39 g40 g41 g42 g43 g44 g45 g46 g47 g48 g49 g50 g51 g52 g53 g54 g55 g56 g57 g58 g59 g60 g61 g62 g63 : Value), Rn Try.prog Try.f9 S9_3 #[.int .i64 x0, g1, g2, .int .i64 x3, .int .i64 x4, .slice Ax5 lx5 cx5, .slice Ax6 lx6 cx6, g7, g8, g9, g10, .int .i64 x11, g12, g13, g14, g15, g16, g17, g18, g19, g20, g21, g22, g23, g24, g25, g26, g27, g28, g29, g30, g31, g32, g33, g34, g35, g36, g37, g38, g39, g40, g41, g42, g43, g44, g45, g46, g47, g48, g49, g50, g51, g52, g53, g54, g55, g56, g57, g58, g59, g60, g61, g62, g63] M Q
theorem w9_0 {x0 : Int} {M : Mem} {Q : Value → Mem → Prop} (H :
    A9_1 x0 (-2) M Q) :
    Cn Try.prog 9 #[.int .i64 x0] M Q := by
  refine Cn.of b9 d9 t9 ?_
  refine Rn.seq k9_0 (Rn.region k9_1 (fun call K => r9_0) (Rch.leaf (Rn.seq k9_2 (Rn.seq k9_3 (Rn.region k9_4 (fun call K => r9_1) (Rch.leaf (Rn.block k9_5 (Rn.loop k9_6 ?_))))))))
  exact H _ _ _ _ _ _ _ _ _ _ _ _ _ _ _ _ _ _ _ _ _ _ _ _ _ _ _ _ _ _ _ _ _ _ _ _ _ _ _ _ _ _ _ _ _ _ _ _ _ _ _ _ _ _ _ _ _ _ _ _ _ _

theorem w9_1 {x0 x3 : Int} {M : Mem} {Q : Value → Mem → Prop} (H :
    ((x3 < 70 →
     ((x3 = (-2) →
      Cn Try.prog 23 #[.int .i64 x0] M fun v1' N1' =>
       ∃ s2', asS v1' = some s2' ∧
       Cn Try.prog 23 #[.int .i64 x0] N1' fun v3' N3' =>
        ∃ s4', asS v3' = some s4' ∧
        Cn Try.prog 24 #[.int .i64 x0] N3' fun v5' N5' =>
         ∃ cs6', asU 2 v5' = some cs6' ∧
         ∃ x7', asI .i64 (cs6'.getD 0 undef) = some x7' ∧
         ∃ x8', asI .i64 (cs6'.getD 1 undef) = some x8' ∧
         Cn Try.prog 25 #[.int .i64 x0] N5' fun v9' N9' =>
          ∃ cs10', asU 2 v9' = some cs10' ∧
          ∃ x11', asI .i64 (cs10'.getD 0 undef) = some x11' ∧
          ∃ x12', asI .i64 (cs10'.getD 1 undef) = some x12' ∧
          Cn Try.prog 26 #[.int .i64 x0] N9' fun v13' N13' =>
           ∃ s14', asS v13' = some s14' ∧
           Cn Try.prog 19 #[.slice s2'.1 s2'.2.1 s2'.2.2, .slice s14'.1 (s14'.2.1) (s14'.2.2)] N13' fun v15' N15' =>
            ∃ b16', asB v15' = some b16' ∧
            (((!b16') = true →
             A9_2 x0 x3 x0 s2'.1 s2'.2.1 s2'.2.2 s4'.1 s4'.2.1 s4'.2.2 true N15' Q) ∧
             ((!b16') = false →
             ((x7' ≠ x11' →
              A9_2 x0 x3 x0 s2'.1 s2'.2.1 s2'.2.2 s4'.1 s4'.2.1 s4'.2.2 true N15' Q) ∧
              (x7' = x11' →
              A9_2 x0 x3 x0 s2'.1 s2'.2.1 s2'.2.2 s4'.1 s4'.2.1 s4'.2.2 (x8' != x12') N15' Q))))) ∧
      (x3 ≠ (-2) →
      Cn Try.prog 23 #[.int .i64 x3] M fun v17' N17' =>
       ∃ s18', asS v17' = some s18' ∧
       Cn Try.prog 23 #[.int .i64 x3] N17' fun v19' N19' =>
        ∃ s20', asS v19' = some s20' ∧
        Cn Try.prog 24 #[.int .i64 x3] N19' fun v21' N21' =>
         ∃ cs22', asU 2 v21' = some cs22' ∧
         ∃ x23', asI .i64 (cs22'.getD 0 undef) = some x23' ∧
         ∃ x24', asI .i64 (cs22'.getD 1 undef) = some x24' ∧
         Cn Try.prog 25 #[.int .i64 x3] N21' fun v25' N25' =>
          ∃ cs26', asU 2 v25' = some cs26' ∧
          ∃ x27', asI .i64 (cs26'.getD 0 undef) = some x27' ∧
          ∃ x28', asI .i64 (cs26'.getD 1 undef) = some x28' ∧
          Cn Try.prog 26 #[.int .i64 x3] N25' fun v29' N29' =>
           ∃ s30', asS v29' = some s30' ∧
           Cn Try.prog 19 #[.slice s18'.1 s18'.2.1 s18'.2.2, .slice s30'.1 (s30'.2.1) (s30'.2.2)] N29' fun v31' N31' =>
            ∃ b32', asB v31' = some b32' ∧
            (((!b32') = true →
             A9_2 x0 x3 x3 s18'.1 s18'.2.1 s18'.2.2 s20'.1 s20'.2.1 s20'.2.2 true N31' Q) ∧
             ((!b32') = false →
             ((x23' ≠ x27' →
              A9_2 x0 x3 x3 s18'.1 s18'.2.1 s18'.2.2 s20'.1 s20'.2.1 s20'.2.2 true N31' Q) ∧
              (x23' = x27' →
              A9_2 x0 x3 x3 s18'.1 s18'.2.1 s18'.2.2 s20'.1 s20'.2.1 s20'.2.2 (x24' != x28') N31' Q))))))) ∧
     (¬ (x3 < 70) →
     Cn Try.prog 15 #[] M fun v33' N33' =>
      ∃ b34', asB v33' = some b34' ∧
      Q (.bool b34') N33'))) :
    A9_1 x0 x3 M Q := by
  intro g1 g2 g4 g5 g6 g7 g8 g9 g10 g11 g12 g13 g14 g15 g16 g17 g18 g19 g20 g21 g22 g23 g24 g25 g26 g27 g28 g29 g30 g31 g32 g33 g34 g35 g36 g37 g38 g39 g40 g41 g42 g43 g44 g45 g46 g47 g48 g49 g50 g51 g52 g53 g54 g55 g56 g57 g58 g59 g60 g61 g62 g63
  refine Rn.seq k9_7 (Rn.seq k9_8 (Rn.region k9_9 (fun call K => r9_2) (Rch.leaf ?_)))
  refine Rn.cnd (v := decide (x3 < 70)) ⟨c9_10, rfl, by kernel_rfl⟩ (fun h => ?_) (fun h => ?_)
  · replace H := H.1 (of_decide_eq_true h)
    refine Rn.skip k9_11 (Rn.seq k9_12 (Rn.block k9_13 (Rn.seq k9_14 (Rn.region k9_15 (fun call K => r9_4) (Rch.leaf (Rn.seq k9_16 (Rn.seq k9_17 (Rn.region k9_18 (fun call K => r9_5) (Rch.leaf ?_)))))))))
    refine Rn.cnd (v := x3 == (-2)) ⟨c9_19, rfl, by kernel_rfl⟩ (fun h => ?_) (fun h => ?_)
    · replace H := H.1 (eq_of_beq h)
      refine Rn.region k9_20 (fun call K => r9_6) (Rch.leaf (Rn.seq k9_21 (Rn.region k9_22 (fun call K => r9_7) (Rch.call H fun v1' N1' H => Rch.ex H fun s2' H => Rch.call H fun v3' N3' H => Rch.ex H fun s4' H => Rch.leaf (Rn.seq k9_23 (Rn.region k9_24 (fun call K => r9_8) (Rch.call H fun v5' N5' H => ?_)))))))
      refine Rch.ex H fun cs6' H => Rch.ex H fun x7' H => Rch.ex H fun x8' H => Rch.leaf (Rn.seq k9_25 (Rn.region k9_26 (fun call K => r9_9) (Rch.call H fun v9' N9' H => Rch.ex H fun cs10' H => Rch.ex H fun x11' H => Rch.ex H fun x12' H => Rch.leaf (Rn.seq k9_27 ?_))))
      refine Rn.seq k9_28 (Rn.region k9_29 (fun call K => r9_10) (Rch.call H fun v13' N13' H => Rch.ex H fun s14' H => Rch.call H fun v15' N15' H => Rch.ex H fun b16' H => ?_))
      refine Rch.cB (fun h => ?_) (fun h => ?_)
      · replace H := H.1 (h)
        refine Rch.leaf ?_
        exact H _ _ _ _ _ _ _ _ _ _ _ _ _ _ _ _ _ _ _ _ _ _ _ _ _ _ _ _ _ _ _ _ _ _ _ _ _ _ _ _ _ _ _ _ _ _ _ _ _ _ _ _ _ _ _ _ _ _
      · replace H := H.2 (h)
        refine Rch.cB (fun h => ?_) (fun h => ?_)
        · replace H := H.1 (ne_of_bneT h)
          refine Rch.leaf ?_
          exact H _ _ _ _ _ _ _ _ _ _ _ _ _ _ _ _ _ _ _ _ _ _ _ _ _ _ _ _ _ _ _ _ _ _ _ _ _ _ _ _ _ _ _ _ _ _ _ _ _ _ _ _ _ _ _ _ _ _
        · replace H := H.2 (eq_of_bneF h)
          refine Rch.leaf ?_
          exact H _ _ _ _ _ _ _ _ _ _ _ _ _ _ _ _ _ _ _ _ _ _ _ _ _ _ _ _ _ _ _ _ _ _ _ _ _ _ _ _ _ _ _ _ _ _ _ _ _ _ _ _ _ _ _ _ _ _
    · replace H := H.2 (ne_of_beq_false h)
      refine Rn.skip k9_30 (Rn.seq k9_21 (Rn.region k9_22 (fun call K => r9_7) (Rch.call H fun v17' N17' H => Rch.ex H fun s18' H => Rch.call H fun v19' N19' H => Rch.ex H fun s20' H => Rch.leaf (Rn.seq k9_23 (Rn.region k9_24 (fun call K => r9_8) (Rch.call H fun v21' N21' H => Rch.ex H fun cs22' H => ?_))))))
      refine Rch.ex H fun x23' H => Rch.ex H fun x24' H => Rch.leaf (Rn.seq k9_25 (Rn.region k9_26 (fun call K => r9_9) (Rch.call H fun v25' N25' H => Rch.ex H fun cs26' H => Rch.ex H fun x27' H => Rch.ex H fun x28' H => Rch.leaf (Rn.seq k9_27 (Rn.seq k9_28 ?_)))))
      refine Rn.region k9_29 (fun call K => r9_10) (Rch.call H fun v29' N29' H => Rch.ex H fun s30' H => Rch.call H fun v31' N31' H => Rch.ex H fun b32' H => ?_)
      refine Rch.cB (fun h => ?_) (fun h => ?_)
      · replace H := H.1 (h)
        refine Rch.leaf ?_
        exact H _ _ _ _ _ _ _ _ _ _ _ _ _ _ _ _ _ _ _ _ _ _ _ _ _ _ _ _ _ _ _ _ _ _ _ _ _ _ _ _ _ _ _ _ _ _ _ _ _ _ _ _ _ _ _ _ _ _
      · replace H := H.2 (h)
        refine Rch.cB (fun h => ?_) (fun h => ?_)
        · replace H := H.1 (ne_of_bneT h)
          refine Rch.leaf ?_
          exact H _ _ _ _ _ _ _ _ _ _ _ _ _ _ _ _ _ _ _ _ _ _ _ _ _ _ _ _ _ _ _ _ _ _ _ _ _ _ _ _ _ _ _ _ _ _ _ _ _ _ _ _ _ _ _ _ _ _
        · replace H := H.2 (eq_of_bneF h)
          refine Rch.leaf ?_
          exact H _ _ _ _ _ _ _ _ _ _ _ _ _ _ _ _ _ _ _ _ _ _ _ _ _ _ _ _ _ _ _ _ _ _ _ _ _ _ _ _ _ _ _ _ _ _ _ _ _ _ _ _ _ _ _ _ _ _
  · replace H := H.2 (of_decide_eq_false h)
    refine Rn.exit k9_31 rfl (Rn.seq k9_32 (Rn.region k9_33 (fun call K => r9_18) (Rch.call H fun v33' N33' H => Rch.ex H fun b34' H => Rch.leaf ?_)))
    exact Rn.ret k9_34 e9 H

theorem w9_2 {x0 x3 x4 : Int} {Ax5 : Option Addr} {lx5 cx5 : Nat} {Ax6 : Option Addr} {lx6 cx6 : Nat} {x48 : Bool} {M : Mem} {Q : Value → Mem → Prop} (H :
    ((x48 = true →
     Q (.bool false) M) ∧
     (x48 = false →
     A9_3 x0 x3 x4 Ax5 lx5 cx5 Ax6 lx6 cx6 0 M Q))) :
    A9_2 x0 x3 x4 Ax5 lx5 cx5 Ax6 lx6 cx6 x48 M Q := by
  intro g1 g2 g7 g8 g9 g10 g11 g12 g13 g14 g15 g16 g17 g18 g19 g20 g21 g22 g23 g24 g25 g26 g27 g28 g29 g30 g31 g32 g33 g34 g35 g36 g37 g38 g39 g40 g41 g42 g43 g44 g45 g46 g47 g49 g50 g51 g52 g53 g54 g55 g56 g57 g58 g59 g60 g61 g62 g63
  refine Rn.cnd (v := x48) ⟨c9_36, rfl, by kernel_rfl⟩ (fun h => ?_) (fun h => ?_)
  · replace H := H.1 (h)
    refine Rn.seq k9_37 (Rn.region k9_38 (fun call K => r9_11) (Rch.leaf ?_))
    exact Rn.ret k9_39 e9 H
  · replace H := H.2 (h)
    refine Rn.skip k9_40 (Rn.seq k9_41 (Rn.seq k9_42 (Rn.region k9_43 (fun call K => r9_12) (Rch.leaf (Rn.block k9_44 (Rn.loop k9_45 ?_))))))
    exact H _ _ _ _ _ _ _ _ _ _ _ _ _ _ _ _ _ _ _ _ _ _ _ _ _ _ _ _ _ _ _ _ _ _ _ _ _ _ _ _ _ _ _ _ _ _ _ _ _ _ _ _ _ _ _ _ _ _

theorem w9_3 {x0 x3 x4 : Int} {Ax5 : Option Addr} {lx5 cx5 : Nat} {Ax6 : Option Addr} {lx6 cx6 : Nat} {x11 : Int} {M : Mem} {Q : Value → Mem → Prop} (H :
    ((x11 < ((lx5 : Int)) →
     ∃ a35', idxA Ax5 lx5 1 x11 = some a35' ∧
     ∃ M36', M.put a35'.block a35'.off (.int .i64 99) = some M36' ∧
     A9_3 x0 x3 x4 Ax5 lx5 cx5 Ax6 lx6 cx6 (IntKind.i64.wrap (x11 + 1)) M36' Q) ∧
     (¬ (x11 < ((lx5 : Int))) →
     Cn Try.prog 26 #[.int .i64 x4] M fun v37' N37' =>
      ∃ s38', asS v37' = some s38' ∧
      Cn Try.prog 19 #[.slice Ax6 lx6 cx6, .slice s38'.1 (s38'.2.1) (s38'.2.2)] N37' fun v39' N39' =>
       ∃ b40', asB v39' = some b40' ∧
       (((!b40') = true →
        Q (.bool false) N39') ∧
        ((!b40') = false →
        A9_1 x0 (IntKind.i64.wrap (x3 + 1)) N39' Q))))) :
    A9_3 x0 x3 x4 Ax5 lx5 cx5 Ax6 lx6 cx6 x11 M Q := by
  intro g1 g2 g7 g8 g9 g10 g12 g13 g14 g15 g16 g17 g18 g19 g20 g21 g22 g23 g24 g25 g26 g27 g28 g29 g30 g31 g32 g33 g34 g35 g36 g37 g38 g39 g40 g41 g42 g43 g44 g45 g46 g47 g48 g49 g50 g51 g52 g53 g54 g55 g56 g57 g58 g59 g60 g61 g62 g63
  refine Rn.seq k9_46 (Rn.seq k9_47 (Rn.region k9_48 (fun call K => r9_13) (Rch.leaf ?_)))
  refine Rn.cnd (v := decide (x11 < ((lx5 : Int)))) ⟨c9_49, rfl, by kernel_rfl⟩ (fun h => ?_) (fun h => ?_)
  · replace H := H.1 (of_decide_eq_true h)
    refine Rn.skip k9_50 (Rn.seq k9_51 (Rn.block k9_52 (Rn.region k9_53 (fun call K => r9_15) (Rch.ex H fun a35' H => Rch.ex H fun M36' H => Rch.leaf (Rn.blk (Rn.region k9_54 (fun call K => r9_14) (Rch.leaf (Rn.lp ?_))))))))
    exact H _ _ _ _ _ _ _ _ _ _ _ _ _ _ _ _ _ _ _ _ _ _ _ _ _ _ _ _ _ _ _ _ _ _ _ _ _ _ _ _ _ _ _ _ _ _ _ _ _ _ _ _ _ _ _ _ _ _
  · replace H := H.2 (of_decide_eq_false h)
    refine Rn.exit k9_55 rfl (Rn.seq k9_56 (Rn.region k9_57 (fun call K => r9_16) (Rch.call H fun v37' N37' H => Rch.ex H fun s38' H => Rch.call H fun v39' N39' H => Rch.ex H fun b40' H => Rch.leaf ?_)))
    refine Rn.cnd (v := !b40') ⟨c9_58, rfl, by kernel_rfl⟩ (fun h => ?_) (fun h => ?_)
    · replace H := H.1 (h)
      refine Rn.seq k9_59 (Rn.region k9_60 (fun call K => r9_17) (Rch.leaf ?_))
      exact Rn.ret k9_61 e9 H
    · replace H := H.2 (h)
      refine Rn.skip k9_62 (Rn.blk (Rn.region k9_63 (fun call K => r9_3) (Rch.leaf (Rn.lp ?_))))
      exact H _ _ _ _ _ _ _ _ _ _ _ _ _ _ _ _ _ _ _ _ _ _ _ _ _ _ _ _ _ _ _ _ _ _ _ _ _ _ _ _ _ _ _ _ _ _ _ _ _ _ _ _ _ _ _ _ _ _ _ _ _ _


end Go.Zt

