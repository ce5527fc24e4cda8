/- The functions' walks: for each function and each loop a rule of what it comes to. Printed by zw.py. -/
import Derived.Test.YtpfhalehdgcbeaaProg
import Derived.Test.YtpfhalehdgcbeaaZgA
set_option linter.unusedVariables false
set_option maxRecDepth 100000
namespace Go.Zt
open Go Go.Sim Go.Proofs

variable {g0 g1 g2 g3 g4 g5 g6 g7 g8 g9 g10 g11 g12 g13 g14 g15 g16 g17 g18 g19 g20 g21 g22 g23 g24 g25 g26 g27 g28 g29 g30 g31 g32 g33 g34 g35 g36 g37 g38 g39 g40 g41 g42 g43 g44 g45 g46 g47 g48 g49 g50 g51 g52 g53 g54 g55 g56 g57 g58 g59 g60 g61 g62 g63 : Value}
/-! ### zoetrope/zoetropelaw08.TxfmLossless: function 5 -/
noncomputable abbrev P5 (p : List Nat) : Code := subC (codeOf Try.f5) p
noncomputable abbrev O5 (p : List Nat) : Array Oper := opsOf (subC (codeOf Try.f5) p)
theorem d5 : Try.f5.body = some (P5 []) := by kernel_rfl
theorem e5 {M : Mem} : finish Try.prog Try.f5 #[g0,g1,g2,g3,g4,g5,g6,g7,g8,g9,g10,g11,g12,g13,g14,g15,g16,g17,g18,g19,g20,g21,g22,g23,g24,g25,g26,g27,g28,g29,g30,g31,g32] M = some (g2, M) := by kernel_rfl
/-! ### zoetrope/zoetropelaw08.TxfmFlat: function 6 -/
noncomputable abbrev P6 (p : List Nat) : Code := subC (codeOf Try.f6) p
noncomputable abbrev O6 (p : List Nat) : Array Oper := opsOf (subC (codeOf Try.f6) p)
theorem b6 : Try.prog.funcs[6]? = some Try.f6 ∧ (Orc.tab Try.prog).lookup 6 = none := ⟨by kernel_rfl, by kernel_rfl⟩
theorem d6 : Try.f6.body = some (P6 []) := by kernel_rfl
theorem t6 {x0 : Int} : #[.int .i64 x0] ++ Array.replicate (Try.f6.ntmps - (#[.int .i64 x0] : Array Value).size) undef = #[.int .i64 x0,undef,undef,undef,undef,undef,undef,undef,undef,undef,undef,undef,undef,undef,undef,undef,undef,undef,undef,undef,undef,undef,undef,undef,undef,undef,undef,undef,undef,undef,undef,undef,undef,undef,undef,undef,undef,undef,undef,undef,undef,undef,undef,undef,undef,undef,undef,undef,undef,undef,undef,undef,undef,undef,undef,undef,undef,undef,undef,undef,undef,undef,undef,undef] := by kernel_rfl
theorem k6_0 : P6 [] = .seq (P6 [0]) (P6 [1]) := by kernel_rfl
theorem k6_1 : P6 [0] = .region 0 (O6 [0]) false := by kernel_rfl
theorem r6_0 {M : Mem} {call : CallM} {K : Array Value → Mem → R} :
    opsK Try.prog (fun _ => call) (O6 [0]) (O6 [0]).toList 0 #[g0,g1,g2,g3,g4,g5,g6,g7,g8,g9,g10,g11,g12,g13,g14,g15,g16,g17,g18,g19,g20,g21,g22,g23,g24,g25,g26,g27,g28,g29,g30,g31,g32,g33,g34,g35,g36,g37,g38,g39,g40,g41,g42,g43,g44,g45,g46,g47,g48,g49,g50,g51,g52,g53,g54,g55,g56,g57,g58,g59,g60,g61,g62,g63] M K = K #[g0,g1,.bool false,g3,g4,g5,g6,g7,g8,g9,g10,g11,g12,g13,g14,g15,g16,g17,g18,g19,g20,g21,g22,g23,g24,g25,g26,g27,g28,g29,g30,g31,g32,g33,g34,g35,g36,g37,g38,g39,g40,g41,g42,g43,g44,g45,g46,g47,g48,g49,g50,g51,g52,g53,g54,g55,g56,g57,g58,g59,g60,g61,g62,g63] M := by kernel_rfl
theorem k6_2 : P6 [1] = .seq (P6 [1,0]) (P6 [1,1]) := by kernel_rfl
theorem k6_3 : P6 [1,0] = .seq (P6 [1,0,0]) (P6 [1,0,1]) := by kernel_rfl
theorem k6_4 : P6 [1,0,0] = .region 1 (O6 [1,0,0]) false := by kernel_rfl
theorem r6_1 {M : Mem} {call : CallM} {K : Array Value → Mem → R} :
    opsK Try.prog (fun _ => call) (O6 [1,0,0]) (O6 [1,0,0]).toList 0 #[g0,g1,g2,g3,g4,g5,g6,g7,g8,g9,g10,g11,g12,g13,g14,g15,g16,g17,g18,g19,g20,g21,g22,g23,g24,g25,g26,g27,g28,g29,g30,g31,g32,g33,g34,g35,g36,g37,g38,g39,g40,g41,g42,g43,g44,g45,g46,g47,g48,g49,g50,g51,g52,g53,g54,g55,g56,g57,g58,g59,g60,g61,g62,g63] M K = (call 15 #[] M).bind fun r_1 => (asB r_1.1).bind fun b_2 => K #[g0,g1,g2,g3,g4,g5,g6,g7,g8,g9,g10,.bool b_2,.bool (!b_2),g13,g14,g15,g16,g17,g18,g19,g20,g21,g22,g23,g24,g25,g26,g27,g28,g29,g30,g31,g32,g33,g34,g35,g36,g37,g38,g39,g40,g41,g42,g43,g44,g45,g46,g47,g48,g49,g50,g51,g52,g53,g54,g55,g56,g57,g58,g59,g60,g61,g62,g63] r_1.2 := by kernel_rfl
theorem c6_5 : P6 [1,0,1] = .cond (.tmp 12) (P6 [1,0,1,0]) (P6 [1,0,1,1]) := by kernel_rfl
theorem k6_6 : P6 [1,0,1,0] = .seq (P6 [1,0,1,0,0]) (P6 [1,0,1,0,1]) := by kernel_rfl
theorem k6_7 : P6 [1,0,1,0,0] = .region 2 (O6 [1,0,1,0,0]) false := by kernel_rfl
theorem r6_2 {M : Mem} {call : CallM} {K : Array Value → Mem → R} :
    opsK Try.prog (fun _ => call) (O6 [1,0,1,0,0]) (O6 [1,0,1,0,0]).toList 0 #[g0,g1,g2,g3,g4,g5,g6,g7,g8,g9,g10,g11,g12,g13,g14,g15,g16,g17,g18,g19,g20,g21,g22,g23,g24,g25,g26,g27,g28,g29,g30,g31,g32,g33,g34,g35,g36,g37,g38,g39,g40,g41,g42,g43,g44,g45,g46,g47,g48,g49,g50,g51,g52,g53,g54,g55,g56,g57,g58,g59,g60,g61,g62,g63] M K = K #[g0,g1,.bool false,g3,g4,g5,g6,g7,g8,g9,g10,g11,g12,g13,g14,g15,g16,g17,g18,g19,g20,g21,g22,g23,g24,g25,g26,g27,g28,g29,g30,g31,g32,g33,g34,g35,g36,g37,g38,g39,g40,g41,g42,g43,g44,g45,g46,g47,g48,g49,g50,g51,g52,g53,g54,g55,g56,g57,g58,g59,g60,g61,g62,g63] M := by kernel_rfl
theorem k6_8 : P6 [1,0,1,0,1] = .ret := by kernel_rfl
theorem e6 {M : Mem} : finish Try.prog Try.f6 #[g0,g1,g2,g3,g4,g5,g6,g7,g8,g9,g10,g11,g12,g13,g14,g15,g16,g17,g18,g19,g20,g21,g22,g23,g24,g25,g26,g27,g28,g29,g30,g31,g32,g33,g34,g35,g36,g37,g38,g39,g40,g41,g42,g43,g44,g45,g46,g47,g48,g49,g50,g51,g52,g53,g54,g55,g56,g57,g58,g59,g60,g61,g62,g63] M = some (g2, M) := by kernel_rfl
theorem k6_10 : P6 [1,0,1,1] = .skip := by kernel_rfl
theorem k6_11 : P6 [1,1] = .seq (P6 [1,1,0]) (P6 [1,1,1]) := by kernel_rfl
theorem k6_12 : P6 [1,1,0] = .region 3 (O6 [1,1,0]) false := by kernel_rfl
theorem r6_3 {x0 : Int} {M : Mem} {call : CallM} {K : Array Value → Mem → R} :
    opsK Try.prog (fun _ => call) (O6 [1,1,0]) (O6 [1,1,0]).toList 0 #[.int .i64 x0,g1,g2,g3,g4,g5,g6,g7,g8,g9,g10,g11,g12,g13,g14,g15,g16,g17,g18,g19,g20,g21,g22,g23,g24,g25,g26,g27,g28,g29,g30,g31,g32,g33,g34,g35,g36,g37,g38,g39,g40,g41,g42,g43,g44,g45,g46,g47,g48,g49,g50,g51,g52,g53,g54,g55,g56,g57,g58,g59,g60,g61,g62,g63] M K = (call 20 #[.int .i64 x0, .int .i64 511] M).bind fun r_1 => (asI .i64 r_1.1).bind fun x_2 => K #[.int .i64 (IntKind.i64.wrap (x_2 - 255)),g1,g2,g3,g4,g5,g6,g7,g8,g9,g10,g11,g12,.int .i64 x0,.int .i64 x_2,.int .i64 (IntKind.i64.wrap (x_2 - 255)),g16,g17,g18,g19,g20,g21,g22,g23,g24,g25,g26,g27,g28,g29,g30,g31,g32,g33,g34,g35,g36,g37,g38,g39,g40,g41,g42,g43,g44,g45,g46,g47,g48,g49,g50,g51,g52,g53,g54,g55,g56,g57,g58,g59,g60,g61,g62,g63] r_1.2 := by kernel_rfl
theorem k6_13 : P6 [1,1,1] = .seq (P6 [1,1,1,0]) (P6 [1,1,1,1]) := by kernel_rfl
theorem k6_14 : P6 [1,1,1,0] = .seq (P6 [1,1,1,0,0]) (P6 [1,1,1,0,1]) := by kernel_rfl
theorem k6_15 : P6 [1,1,1,0,0] = .region 4 (O6 [1,1,1,0,0]) false := by kernel_rfl
theorem r6_4 {M : Mem} {call : CallM} {K : Array Value → Mem → R} :
    opsK Try.prog (fun _ => call) (O6 [1,1,1,0,0]) (O6 [1,1,1,0,0]).toList 0 #[g0,g1,g2,g3,g4,g5,g6,g7,g8,g9,g10,g11,g12,g13,g14,g15,g16,g17,g18,g19,g20,g21,g22,g23,g24,g25,g26,g27,g28,g29,g30,g31,g32,g33,g34,g35,g36,g37,g38,g39,g40,g41,g42,g43,g44,g45,g46,g47,g48,g49,g50,g51,g52,g53,g54,g55,g56,g57,g58,g59,g60,g61,g62,g63] M K = K #[g0,g1,g2,g3,g4,g5,g6,g7,g8,g9,g10,g11,g12,g13,g14,g15,.slice (some ⟨2 * M.nb.size, 0, none⟩) 5 5,.int .i64 5,.int .i64 0,g19,g20,g21,g22,g23,g24,g25,g26,g27,g28,g29,g30,g31,g32,g33,g34,g35,g36,g37,g38,g39,g40,g41,g42,g43,g44,g45,g46,g47,g48,g49,g50,g51,g52,g53,g54,g55,g56,g57,g58,g59,g60,g61,g62,g63] (M.new (.cells #[.int .i64 4, .int .i64 8, .int .i64 16, .int .i64 32, .int .i64 64] 3)) := by kernel_rfl
theorem k6_16 : P6 [1,1,1,0,1] = .block 0 (P6 [1,1,1,0,1,0]) := by kernel_rfl
theorem k6_17 : P6 [1,1,1,0,1,0] = .loop (P6 [1,1,1,0,1,0,0]) := by kernel_rfl
theorem k6_18 : P6 [1,1,1,0,1,0,0] = .seq (P6 [1,1,1,0,1,0,0,0]) (P6 [1,1,1,0,1,0,0,1]) := by kernel_rfl
theorem k6_19 : P6 [1,1,1,0,1,0,0,0] = .region 5 (O6 [1,1,1,0,1,0,0,0]) false := by kernel_rfl
theorem r6_5 {x17 x18 : Int} {M : Mem} {call : CallM} {K : Array Value → Mem → R} :
    opsK Try.prog (fun _ => call) (O6 [1,1,1,0,1,0,0,0]) (O6 [1,1,1,0,1,0,0,0]).toList 0 #[g0,g1,g2,g3,g4,g5,g6,g7,g8,g9,g10,g11,g12,g13,g14,g15,g16,.int .i64 x17,.int .i64 x18,g19,g20,g21,g22,g23,g24,g25,g26,g27,g28,g29,g30,g31,g32,g33,g34,g35,g36,g37,g38,g39,g40,g41,g42,g43,g44,g45,g46,g47,g48,g49,g50,g51,g52,g53,g54,g55,g56,g57,g58,g59,g60,g61,g62,g63] M K = K #[g0,g1,g2,g3,g4,g5,g6,g7,g8,g9,g10,g11,g12,g13,g14,g15,g16,.int .i64 x17,.int .i64 x18,.bool (decide (x18 < x17)),g20,g21,g22,g23,g24,g25,g26,g27,g28,g29,g30,g31,g32,g33,g34,g35,g36,g37,g38,g39,g40,g41,g42,g43,g44,g45,g46,g47,g48,g49,g50,g51,g52,g53,g54,g55,g56,g57,g58,g59,g60,g61,g62,g63] M := by kernel_rfl
theorem k6_20 : P6 [1,1,1,0,1,0,0,1] = .seq (P6 [1,1,1,0,1,0,0,1,0]) (P6 [1,1,1,0,1,0,0,1,1]) := by kernel_rfl
theorem c6_21 : P6 [1,1,1,0,1,0,0,1,0] = .cond (.tmp 19) (P6 [1,1,1,0,1,0,0,1,0,0]) (P6 [1,1,1,0,1,0,0,1,0,1]) := by kernel_rfl
theorem k6_22 : P6 [1,1,1,0,1,0,0,1,0,0] = .skip := by kernel_rfl
theorem k6_23 : P6 [1,1,1,0,1,0,0,1,1] = .seq (P6 [1,1,1,0,1,0,0,1,1,0]) (P6 [1,1,1,0,1,0,0,1,1,1]) := by kernel_rfl
theorem k6_24 : P6 [1,1,1,0,1,0,0,1,1,0] = .block 1 (P6 [1,1,1,0,1,0,0,1,1,0,0]) := by kernel_rfl
theorem k6_25 : P6 [1,1,1,0,1,0,0,1,1,0,0] = .seq (P6 [1,1,1,0,1,0,0,1,1,0,0,0]) (P6 [1,1,1,0,1,0,0,1,1,0,0,1]) := by kernel_rfl
theorem k6_26 : P6 [1,1,1,0,1,0,0,1,1,0,0,0] = .region 6 (O6 [1,1,1,0,1,0,0,1,1,0,0,0]) false := by kernel_rfl
theorem r6_6 {Ax16 : Option Addr} {lx16 cx16 : Nat} {x18 : Int} {M : Mem} {call : CallM} {K : Array Value → Mem → R} :
    opsK Try.prog (fun _ => call) (O6 [1,1,1,0,1,0,0,1,1,0,0,0]) (O6 [1,1,1,0,1,0,0,1,1,0,0,0]).toList 0 #[g0,g1,g2,g3,g4,g5,g6,g7,g8,g9,g10,g11,g12,g13,g14,g15,.slice Ax16 lx16 cx16,g17,.int .i64 x18,g19,g20,g21,g22,g23,g24,g25,g26,g27,g28,g29,g30,g31,g32,g33,g34,g35,g36,g37,g38,g39,g40,g41,g42,g43,g44,g45,g46,g47,g48,g49,g50,g51,g52,g53,g54,g55,g56,g57,g58,g59,g60,g61,g62,g63] M K = (idxA Ax16 lx16 1 x18).bind fun a_1 => (M.intAt .i64 a_1.block a_1.off).bind fun x_2 => K #[g0,g1,g2,g3,.int .i64 x_2,g5,g6,g7,g8,g9,g10,g11,g12,g13,g14,g15,.slice Ax16 lx16 cx16,g17,.int .i64 x18,g19,.pointer (some a_1),.int .i64 x_2,g22,g23,g24,g25,g26,g27,g28,g29,g30,g31,g32,g33,g34,g35,g36,g37,g38,g39,g40,g41,g42,g43,g44,g45,g46,g47,g48,g49,g50,g51,g52,g53,g54,g55,g56,g57,g58,g59,g60,g61,g62,g63] M := by kernel_rfl
theorem k6_27 : P6 [1,1,1,0,1,0,0,1,1,0,0,1] = .seq (P6 [1,1,1,0,1,0,0,1,1,0,0,1,0]) (P6 [1,1,1,0,1,0,0,1,1,0,0,1,1]) := by kernel_rfl
theorem k6_28 : P6 [1,1,1,0,1,0,0,1,1,0,0,1,0] = .region 7 (O6 [1,1,1,0,1,0,0,1,1,0,0,1,0]) false := by kernel_rfl
theorem r6_7 {x0 x4 : Int} {M : Mem} {call : CallM} {K : Array Value → Mem → R} :
    opsK Try.prog (fun _ => call) (O6 [1,1,1,0,1,0,0,1,1,0,0,1,0]) (O6 [1,1,1,0,1,0,0,1,1,0,0,1,0]).toList 0 #[.int .i64 x0,g1,g2,g3,.int .i64 x4,g5,g6,g7,g8,g9,g10,g11,g12,g13,g14,g15,g16,g17,g18,g19,g20,g21,g22,g23,g24,g25,g26,g27,g28,g29,g30,g31,g32,g33,g34,g35,g36,g37,g38,g39,g40,g41,g42,g43,g44,g45,g46,g47,g48,g49,g50,g51,g52,g53,g54,g55,g56,g57,g58,g59,g60,g61,g62,g63] M K = (call 21 #[.int .i64 (IntKind.i64.wrap (x4 * x4)), .int .i64 x0, .int .i64 x0] M).bind fun r_1 => (asS r_1.1).bind fun s_2 => K #[.int .i64 x0,g1,g2,g3,.int .i64 x4,.slice s_2.1 (s_2.2.1) (s_2.2.2),g6,g7,g8,g9,g10,g11,g12,g13,g14,g15,g16,g17,g18,g19,g20,g21,.int .i64 x4,.int .i64 x4,.int .i64 (IntKind.i64.wrap (x4 * x4)),.int .i64 x0,.int .i64 x0,.slice s_2.1 (s_2.2.1) (s_2.2.2),g28,g29,g30,g31,g32,g33,g34,g35,g36,g37,g38,g39,g40,g41,g42,g43,g44,g45,g46,g47,g48,g49,g50,g51,g52,g53,g54,g55,g56,g57,g58,g59,g60,g61,g62,g63] r_1.2 := by kernel_rfl
theorem k6_29 : P6 [1,1,1,0,1,0,0,1,1,0,0,1,1] = .seq (P6 [1,1,1,0,1,0,0,1,1,0,0,1,1,0]) (P6 [1,1,1,0,1,0,0,1,1,0,0,1,1,1]) := by kernel_rfl
theorem k6_30 : P6 [1,1,1,0,1,0,0,1,1,0,0,1,1,0] = .region 8 (O6 [1,1,1,0,1,0,0,1,1,0,0,1,1,0]) false := by kernel_rfl
theorem r6_8 {x4 : Int} {Ax5 : Option Addr} {lx5 cx5 : Nat} {M : Mem} {call : CallM} {K : Array Value → Mem → R} :
    opsK Try.prog (fun _ => call) (O6 [1,1,1,0,1,0,0,1,1,0,0,1,1,0]) (O6 [1,1,1,0,1,0,0,1,1,0,0,1,1,0]).toList 0 #[g0,g1,g2,g3,.int .i64 x4,.slice Ax5 lx5 cx5,g6,g7,g8,g9,g10,g11,g12,g13,g14,g15,g16,g17,g18,g19,g20,g21,g22,g23,g24,g25,g26,g27,g28,g29,g30,g31,g32,g33,g34,g35,g36,g37,g38,g39,g40,g41,g42,g43,g44,g45,g46,g47,g48,g49,g50,g51,g52,g53,g54,g55,g56,g57,g58,g59,g60,g61,g62,g63] M K = (call 16 #[.int .i64 x4, .int .i64 0, .slice Ax5 lx5 cx5] M).bind fun r_1 => (asU 2 r_1.1).bind fun cs_2 => (asS (cs_2.getD 0 undef)).bind fun s_3 => (asI .i64 (cs_2.getD 1 undef)).bind fun x_4 => K #[g0,g1,g2,g3,.int .i64 x4,.slice Ax5 lx5 cx5,.slice s_3.1 (s_3.2.1) (s_3.2.2),.int .i64 x_4,g8,g9,g10,g11,g12,g13,g14,g15,g16,g17,g18,g19,g20,g21,g22,g23,g24,g25,g26,g27,.tuple #[.slice s_3.1 (s_3.2.1) (s_3.2.2), .int .i64 x_4],.int .i64 x4,.slice Ax5 lx5 cx5,.tuple #[.slice s_3.1 (s_3.2.1) (s_3.2.2), .int .i64 x_4],.slice s_3.1 (s_3.2.1) (s_3.2.2),.int .i64 x_4,g34,g35,g36,g37,g38,g39,g40,g41,g42,g43,g44,g45,g46,g47,g48,g49,g50,g51,g52,g53,g54,g55,g56,g57,g58,g59,g60,g61,g62,g63] r_1.2 := by kernel_rfl
theorem k6_31 : P6 [1,1,1,0,1,0,0,1,1,0,0,1,1,1] = .seq (P6 [1,1,1,0,1,0,0,1,1,0,0,1,1,1,0]) (P6 [1,1,1,0,1,0,0,1,1,0,0,1,1,1,1]) := by kernel_rfl
theorem k6_32 : P6 [1,1,1,0,1,0,0,1,1,0,0,1,1,1,0] = .region 9 (O6 [1,1,1,0,1,0,0,1,1,0,0,1,1,1,0]) false := by kernel_rfl
theorem r6_9 {x4 : Int} {Ax6 : Option Addr} {lx6 cx6 : Nat} {M : Mem} {call : CallM} {K : Array Value → Mem → R} :
    opsK Try.prog (fun _ => call) (O6 [1,1,1,0,1,0,0,1,1,0,0,1,1,1,0]) (O6 [1,1,1,0,1,0,0,1,1,0,0,1,1,1,0]).toList 0 #[g0,g1,g2,g3,.int .i64 x4,g5,.slice Ax6 lx6 cx6,g7,g8,g9,g10,g11,g12,g13,g14,g15,g16,g17,g18,g19,g20,g21,g22,g23,g24,g25,g26,g27,g28,g29,g30,g31,g32,g33,g34,g35,g36,g37,g38,g39,g40,g41,g42,g43,g44,g45,g46,g47,g48,g49,g50,g51,g52,g53,g54,g55,g56,g57,g58,g59,g60,g61,g62,g63] M K = (call 12 #[.int .i64 x4, .int .i64 0, .slice Ax6 lx6 cx6] M).bind fun r_1 => (asU 2 r_1.1).bind fun cs_2 => (asS (cs_2.getD 0 undef)).bind fun s_3 => (asI .i64 (cs_2.getD 1 undef)).bind fun x_4 => K #[g0,g1,g2,g3,.int .i64 x4,g5,.slice Ax6 lx6 cx6,g7,.slice s_3.1 (s_3.2.1) (s_3.2.2),.int .i64 x_4,g10,g11,g12,g13,g14,g15,g16,g17,g18,g19,g20,g21,g22,g23,g24,g25,g26,g27,g28,g29,g30,g31,g32,g33,.tuple #[.slice s_3.1 (s_3.2.1) (s_3.2.2), .int .i64 x_4],.int .i64 x4,.slice Ax6 lx6 cx6,.tuple #[.slice s_3.1 (s_3.2.1) (s_3.2.2), .int .i64 x_4],.slice s_3.1 (s_3.2.1) (s_3.2.2),.int .i64 x_4,g40,g41,g42,g43,g44,g45,g46,g47,g48,g49,g50,g51,g52,g53,g54,g55,g56,g57,g58,g59,g60,g61,g62,g63] r_1.2 := by kernel_rfl
theorem k6_33 : P6 [1,1,1,0,1,0,0,1,1,0,0,1,1,1,1] = .seq (P6 [1,1,1,0,1,0,0,1,1,0,0,1,1,1,1,0]) (P6 [1,1,1,0,1,0,0,1,1,0,0,1,1,1,1,1]) := by kernel_rfl
theorem k6_34 : P6 [1,1,1,0,1,0,0,1,1,0,0,1,1,1,1,0] = .seq (P6 [1,1,1,0,1,0,0,1,1,0,0,1,1,1,1,0,0]) (P6 [1,1,1,0,1,0,0,1,1,0,0,1,1,1,1,0,1]) := by kernel_rfl
theorem k6_35 : P6 [1,1,1,0,1,0,0,1,1,0,0,1,1,1,1,0,0] = .region 10 (O6 [1,1,1,0,1,0,0,1,1,0,0,1,1,1,1,0,0]) false := by kernel_rfl
theorem r6_10 {Ax5 : Option Addr} {lx5 cx5 : Nat} {x7 : Int} {Ax8 : Option Addr} {lx8 cx8 : Nat} {x9 : Int} {M : Mem} {call : CallM} {K : Array Value → Mem → R} :
    opsK Try.prog (fun _ => call) (O6 [1,1,1,0,1,0,0,1,1,0,0,1,1,1,1,0,0]) (O6 [1,1,1,0,1,0,0,1,1,0,0,1,1,1,1,0,0]).toList 0 #[g0,g1,g2,g3,g4,.slice Ax5 lx5 cx5,g6,.int .i64 x7,.slice Ax8 lx8 cx8,.int .i64 x9,g10,g11,g12,g13,g14,g15,g16,g17,g18,g19,g20,g21,g22,g23,g24,g25,g26,g27,g28,g29,g30,g31,g32,g33,g34,g35,g36,g37,g38,g39,g40,g41,g42,g43,g44,g45,g46,g47,g48,g49,g50,g51,g52,g53,g54,g55,g56,g57,g58,g59,g60,g61,g62,g63] M K = withK (fun w42 w43 w44 w45 w46 w47 w48 w49 w50 w51 M => K #[g0,g1,g2,g3,g4,.slice Ax5 lx5 cx5,g6,.int .i64 x7,.slice Ax8 lx8 cx8,.int .i64 x9,g10,g11,g12,g13,g14,g15,g16,g17,g18,g19,g20,g21,g22,g23,g24,g25,g26,g27,g28,g29,g30,g31,g32,g33,g34,g35,g36,g37,g38,g39,.int .i64 x7,.bool (x7 != 0),w42,w43,w44,w45,w46,w47,w48,w49,w50,w51,g52,g53,g54,g55,g56,g57,g58,g59,g60,g61,g62,g63] M) fun k => cond (x7 != 0) (k (.bool true) undef undef (.bool true) (.bool true) undef undef undef undef (.bool true) M) (cond (x9 != 0) (k (.bool false) (.int .i64 x9) (.bool (x9 != 0)) (.bool (x9 != 0)) (.bool true) undef undef undef undef (.bool true) M) ((call 19 #[.slice Ax8 lx8 cx8, .slice Ax5 lx5 cx5] M).bind fun r_1 => (asB r_1.1).bind fun b_2 => k (.bool false) (.int .i64 x9) (.bool (x9 != 0)) (.bool (x9 != 0)) (.bool false) (.slice Ax8 lx8 cx8) (.slice Ax5 lx5 cx5) (.bool b_2) (.bool (!b_2)) (.bool (!b_2)) r_1.2)) := by kernel_rfl
theorem k6_36 : P6 [1,1,1,0,1,0,0,1,0,1] = .exit 0 := by kernel_rfl
theorem k6_37 : P6 [1,1,1,1] = .seq (P6 [1,1,1,1,0]) (P6 [1,1,1,1,1]) := by kernel_rfl
theorem k6_38 : P6 [1,1,1,1,0] = .region 18 (O6 [1,1,1,1,0]) false := by kernel_rfl
theorem r6_18 {M : Mem} {call : CallM} {K : Array Value → Mem → R} :
    opsK Try.prog (fun _ => call) (O6 [1,1,1,1,0]) (O6 [1,1,1,1,0]).toList 0 #[g0,g1,g2,g3,g4,g5,g6,g7,g8,g9,g10,g11,g12,g13,g14,g15,g16,g17,g18,g19,g20,g21,g22,g23,g24,g25,g26,g27,g28,g29,g30,g31,g32,g33,g34,g35,g36,g37,g38,g39,g40,g41,g42,g43,g44,g45,g46,g47,g48,g49,g50,g51,g52,g53,g54,g55,g56,g57,g58,g59,g60,g61,g62,g63] M K = K #[g0,g1,.bool true,g3,g4,g5,g6,g7,g8,g9,g10,g11,g12,g13,g14,g15,g16,g17,g18,g19,g20,g21,g22,g23,g24,g25,g26,g27,g28,g29,g30,g31,g32,g33,g34,g35,g36,g37,g38,g39,g40,g41,g42,g43,g44,g45,g46,g47,g48,g49,g50,g51,g52,g53,g54,g55,g56,g57,g58,g59,g60,g61,g62,g63] M := by kernel_rfl
theorem k6_39 : P6 [1,1,1,1,1] = .ret := by kernel_rfl
theorem c6_40 : P6 [1,1,1,0,1,0,0,1,1,0,0,1,1,1,1,0,1] = .cond (.tmp 51) (P6 [1,1,1,0,1,0,0,1,1,0,0,1,1,1,1,0,1,0]) (P6 [1,1,1,0,1,0,0,1,1,0,0,1,1,1,1,0,1,1]) := by kernel_rfl
theorem k6_41 : P6 [1,1,1,0,1,0,0,1,1,0,0,1,1,1,1,0,1,0] = .seq (P6 [1,1,1,0,1,0,0,1,1,0,0,1,1,1,1,0,1,0,0]) (P6 [1,1,1,0,1,0,0,1,1,0,0,1,1,1,1,0,1,0,1]) := by kernel_rfl
theorem k6_42 : P6 [1,1,1,0,1,0,0,1,1,0,0,1,1,1,1,0,1,0,0] = .region 11 (O6 [1,1,1,0,1,0,0,1,1,0,0,1,1,1,1,0,1,0,0]) false := by kernel_rfl
theorem r6_11 {M : Mem} {call : CallM} {K : Array Value → Mem → R} :
    opsK Try.prog (fun _ => call) (O6 [1,1,1,0,1,0,0,1,1,0,0,1,1,1,1,0,1,0,0]) (O6 [1,1,1,0,1,0,0,1,1,0,0,1,1,1,1,0,1,0,0]).toList 0 #[g0,g1,g2,g3,g4,g5,g6,g7,g8,g9,g10,g11,g12,g13,g14,g15,g16,g17,g18,g19,g20,g21,g22,g23,g24,g25,g26,g27,g28,g29,g30,g31,g32,g33,g34,g35,g36,g37,g38,g39,g40,g41,g42,g43,g44,g45,g46,g47,g48,g49,g50,g51,g52,g53,g54,g55,g56,g57,g58,g59,g60,g61,g62,g63] M K = K #[g0,g1,.bool false,g3,g4,g5,g6,g7,g8,g9,g10,g11,g12,g13,g14,g15,g16,g17,g18,g19,g20,g21,g22,g23,g24,g25,g26,g27,g28,g29,g30,g31,g32,g33,g34,g35,g36,g37,g38,g39,g40,g41,g42,g43,g44,g45,g46,g47,g48,g49,g50,g51,g52,g53,g54,g55,g56,g57,g58,g59,g60,g61,g62,g63] M := by kernel_rfl
theorem k6_43 : P6 [1,1,1,0,1,0,0,1,1,0,0,1,1,1,1,0,1,0,1] = .ret := by kernel_rfl
theorem k6_44 : P6 [1,1,1,0,1,0,0,1,1,0,0,1,1,1,1,0,1,1] = .skip := by kernel_rfl
theorem k6_45 : P6 [1,1,1,0,1,0,0,1,1,0,0,1,1,1,1,1] = .seq (P6 [1,1,1,0,1,0,0,1,1,0,0,1,1,1,1,1,0]) (P6 [1,1,1,0,1,0,0,1,1,0,0,1,1,1,1,1,1]) := by kernel_rfl
theorem k6_46 : P6 [1,1,1,0,1,0,0,1,1,0,0,1,1,1,1,1,0] = .region 12 (O6 [1,1,1,0,1,0,0,1,1,0,0,1,1,1,1,1,0]) false := by kernel_rfl
theorem r6_12 {M : Mem} {call : CallM} {K : Array Value → Mem → R} :
    opsK Try.prog (fun _ => call) (O6 [1,1,1,0,1,0,0,1,1,0,0,1,1,1,1,1,0]) (O6 [1,1,1,0,1,0,0,1,1,0,0,1,1,1,1,1,0]).toList 0 #[g0,g1,g2,g3,g4,g5,g6,g7,g8,g9,g10,g11,g12,g13,g14,g15,g16,g17,g18,g19,g20,g21,g22,g23,g24,g25,g26,g27,g28,g29,g30,g31,g32,g33,g34,g35,g36,g37,g38,g39,g40,g41,g42,g43,g44,g45,g46,g47,g48,g49,g50,g51,g52,g53,g54,g55,g56,g57,g58,g59,g60,g61,g62,g63] M K = K #[g0,g1,g2,g3,g4,g5,g6,g7,g8,g9,.int .i64 1,g11,g12,g13,g14,g15,g16,g17,g18,g19,g20,g21,g22,g23,g24,g25,g26,g27,g28,g29,g30,g31,g32,g33,g34,g35,g36,g37,g38,g39,g40,g41,g42,g43,g44,g45,g46,g47,g48,g49,g50,g51,g52,g53,g54,g55,g56,g57,g58,g59,g60,g61,g62,g63] M := by kernel_rfl
theorem k6_47 : P6 [1,1,1,0,1,0,0,1,1,0,0,1,1,1,1,1,1] = .block 2 (P6 [1,1,1,0,1,0,0,1,1,0,0,1,1,1,1,1,1,0]) := by kernel_rfl
theorem k6_48 : P6 [1,1,1,0,1,0,0,1,1,0,0,1,1,1,1,1,1,0] = .loop (P6 [1,1,1,0,1,0,0,1,1,0,0,1,1,1,1,1,1,0,0]) := by kernel_rfl
theorem k6_49 : P6 [1,1,1,0,1,0,0,1,1,0,0,1,1,1,1,1,1,0,0] = .seq (P6 [1,1,1,0,1,0,0,1,1,0,0,1,1,1,1,1,1,0,0,0]) (P6 [1,1,1,0,1,0,0,1,1,0,0,1,1,1,1,1,1,0,0,1]) := by kernel_rfl
theorem k6_50 : P6 [1,1,1,0,1,0,0,1,1,0,0,1,1,1,1,1,1,0,0,0] = .seq (P6 [1,1,1,0,1,0,0,1,1,0,0,1,1,1,1,1,1,0,0,0,0]) (P6 [1,1,1,0,1,0,0,1,1,0,0,1,1,1,1,1,1,0,0,0,1]) := by kernel_rfl
theorem k6_51 : P6 [1,1,1,0,1,0,0,1,1,0,0,1,1,1,1,1,1,0,0,0,0] = .region 13 (O6 [1,1,1,0,1,0,0,1,1,0,0,1,1,1,1,1,1,0,0,0,0]) false := by kernel_rfl
theorem r6_13 {Ax6 : Option Addr} {lx6 cx6 : Nat} {x10 : Int} {M : Mem} {call : CallM} {K : Array Value → Mem → R} :
    opsK Try.prog (fun _ => call) (O6 [1,1,1,0,1,0,0,1,1,0,0,1,1,1,1,1,1,0,0,0,0]) (O6 [1,1,1,0,1,0,0,1,1,0,0,1,1,1,1,1,1,0,0,0,0]).toList 0 #[g0,g1,g2,g3,g4,g5,.slice Ax6 lx6 cx6,g7,g8,g9,.int .i64 x10,g11,g12,g13,g14,g15,g16,g17,g18,g19,g20,g21,g22,g23,g24,g25,g26,g27,g28,g29,g30,g31,g32,g33,g34,g35,g36,g37,g38,g39,g40,g41,g42,g43,g44,g45,g46,g47,g48,g49,g50,g51,g52,g53,g54,g55,g56,g57,g58,g59,g60,g61,g62,g63] M K = K #[g0,g1,g2,g3,g4,g5,.slice Ax6 lx6 cx6,g7,g8,g9,.int .i64 x10,g11,g12,g13,g14,g15,g16,g17,g18,g19,g20,g21,g22,g23,g24,g25,g26,g27,g28,g29,g30,g31,g32,g33,g34,g35,g36,g37,g38,g39,g40,g41,g42,g43,g44,g45,g46,g47,g48,g49,g50,g51,.int .i64 x10,.slice Ax6 lx6 cx6,.int .i64 ((lx6 : Int)),.bool (decide (x10 < ((lx6 : Int)))),g56,g57,g58,g59,g60,g61,g62,g63] M := by kernel_rfl
theorem c6_52 : P6 [1,1,1,0,1,0,0,1,1,0,0,1,1,1,1,1,1,0,0,0,1] = .cond (.tmp 55) (P6 [1,1,1,0,1,0,0,1,1,0,0,1,1,1,1,1,1,0,0,0,1,0]) (P6 [1,1,1,0,1,0,0,1,1,0,0,1,1,1,1,1,1,0,0,0,1,1]) := by kernel_rfl
theorem k6_53 : P6 [1,1,1,0,1,0,0,1,1,0,0,1,1,1,1,1,1,0,0,0,1,0] = .skip := by kernel_rfl
theorem k6_54 : P6 [1,1,1,0,1,0,0,1,1,0,0,1,1,1,1,1,1,0,0,1] = .seq (P6 [1,1,1,0,1,0,0,1,1,0,0,1,1,1,1,1,1,0,0,1,0]) (P6 [1,1,1,0,1,0,0,1,1,0,0,1,1,1,1,1,1,0,0,1,1]) := by kernel_rfl
theorem k6_55 : P6 [1,1,1,0,1,0,0,1,1,0,0,1,1,1,1,1,1,0,0,1,0] = .block 3 (P6 [1,1,1,0,1,0,0,1,1,0,0,1,1,1,1,1,1,0,0,1,0,0]) := by kernel_rfl
theorem k6_56 : P6 [1,1,1,0,1,0,0,1,1,0,0,1,1,1,1,1,1,0,0,1,0,0] = .seq (P6 [1,1,1,0,1,0,0,1,1,0,0,1,1,1,1,1,1,0,0,1,0,0,0]) (P6 [1,1,1,0,1,0,0,1,1,0,0,1,1,1,1,1,1,0,0,1,0,0,1]) := by kernel_rfl
theorem k6_57 : P6 [1,1,1,0,1,0,0,1,1,0,0,1,1,1,1,1,1,0,0,1,0,0,0] = .region 15 (O6 [1,1,1,0,1,0,0,1,1,0,0,1,1,1,1,1,1,0,0,1,0,0,0]) false := by kernel_rfl
theorem r6_15 {Ax6 : Option Addr} {lx6 cx6 : Nat} {x10 : Int} {M : Mem} {call : CallM} {K : Array Value → Mem → R} :
    opsK Try.prog (fun _ => call) (O6 [1,1,1,0,1,0,0,1,1,0,0,1,1,1,1,1,1,0,0,1,0,0,0]) (O6 [1,1,1,0,1,0,0,1,1,0,0,1,1,1,1,1,1,0,0,1,0,0,0]).toList 0 #[g0,g1,g2,g3,g4,g5,.slice Ax6 lx6 cx6,g7,g8,g9,.int .i64 x10,g11,g12,g13,g14,g15,g16,g17,g18,g19,g20,g21,g22,g23,g24,g25,g26,g27,g28,g29,g30,g31,g32,g33,g34,g35,g36,g37,g38,g39,g40,g41,g42,g43,g44,g45,g46,g47,g48,g49,g50,g51,g52,g53,g54,g55,g56,g57,g58,g59,g60,g61,g62,g63] M K = (idxA Ax6 lx6 1 x10).bind fun a_1 => (M.intAt .i64 a_1.block a_1.off).bind fun x_2 => K #[g0,g1,g2,g3,g4,g5,.slice Ax6 lx6 cx6,g7,g8,g9,.int .i64 x10,g11,g12,g13,g14,g15,g16,g17,g18,g19,g20,g21,g22,g23,g24,g25,g26,g27,g28,g29,g30,g31,g32,g33,g34,g35,g36,g37,g38,g39,g40,g41,g42,g43,g44,g45,g46,g47,g48,g49,g50,g51,g52,g53,g54,g55,g56,g57,.slice Ax6 lx6 cx6,.int .i64 x10,.pointer (some a_1),.int .i64 x_2,.bool (x_2 != 0),g63] M := by kernel_rfl
theorem c6_58 : P6 [1,1,1,0,1,0,0,1,1,0,0,1,1,1,1,1,1,0,0,1,0,0,1] = .cond (.tmp 62) (P6 [1,1,1,0,1,0,0,1,1,0,0,1,1,1,1,1,1,0,0,1,0,0,1,0]) (P6 [1,1,1,0,1,0,0,1,1,0,0,1,1,1,1,1,1,0,0,1,0,0,1,1]) := by kernel_rfl
theorem k6_59 : P6 [1,1,1,0,1,0,0,1,1,0,0,1,1,1,1,1,1,0,0,1,0,0,1,0] = .seq (P6 [1,1,1,0,1,0,0,1,1,0,0,1,1,1,1,1,1,0,0,1,0,0,1,0,0]) (P6 [1,1,1,0,1,0,0,1,1,0,0,1,1,1,1,1,1,0,0,1,0,0,1,0,1]) := by kernel_rfl
theorem k6_60 : P6 [1,1,1,0,1,0,0,1,1,0,0,1,1,1,1,1,1,0,0,1,0,0,1,0,0] = .region 16 (O6 [1,1,1,0,1,0,0,1,1,0,0,1,1,1,1,1,1,0,0,1,0,0,1,0,0]) false := by kernel_rfl
theorem r6_16 {M : Mem} {call : CallM} {K : Array Value → Mem → R} :
    opsK Try.prog (fun _ => call) (O6 [1,1,1,0,1,0,0,1,1,0,0,1,1,1,1,1,1,0,0,1,0,0,1,0,0]) (O6 [1,1,1,0,1,0,0,1,1,0,0,1,1,1,1,1,1,0,0,1,0,0,1,0,0]).toList 0 #[g0,g1,g2,g3,g4,g5,g6,g7,g8,g9,g10,g11,g12,g13,g14,g15,g16,g17,g18,g19,g20,g21,g22,g23,g24,g25,g26,g27,g28,g29,g30,g31,g32,g33,g34,g35,g36,g37,g38,g39,g40,g41,g42,g43,g44,g45,g46,g47,g48,g49,g50,g51,g52,g53,g54,g55,g56,g57,g58,g59,g60,g61,g62,g63] M K = K #[g0,g1,.bool false,g3,g4,g5,g6,g7,g8,g9,g10,g11,g12,g13,g14,g15,g16,g17,g18,g19,g20,g21,g22,g23,g24,g25,g26,g27,g28,g29,g30,g31,g32,g33,g34,g35,g36,g37,g38,g39,g40,g41,g42,g43,g44,g45,g46,g47,g48,g49,g50,g51,g52,g53,g54,g55,g56,g57,g58,g59,g60,g61,g62,g63] M := by kernel_rfl
theorem k6_61 : P6 [1,1,1,0,1,0,0,1,1,0,0,1,1,1,1,1,1,0,0,1,0,0,1,0,1] = .ret := by kernel_rfl
theorem k6_62 : P6 [1,1,1,0,1,0,0,1,1,0,0,1,1,1,1,1,1,0,0,1,0,0,1,1] = .skip := by kernel_rfl
theorem k6_63 : P6 [1,1,1,0,1,0,0,1,1,0,0,1,1,1,1,1,1,0,0,1,1] = .region 14 (O6 [1,1,1,0,1,0,0,1,1,0,0,1,1,1,1,1,1,0,0,1,1]) false := by kernel_rfl
theorem r6_14 {x10 : Int} {M : Mem} {call : CallM} {K : Array Value → Mem → R} :
    opsK Try.prog (fun _ => call) (O6 [1,1,1,0,1,0,0,1,1,0,0,1,1,1,1,1,1,0,0,1,1]) (O6 [1,1,1,0,1,0,0,1,1,0,0,1,1,1,1,1,1,0,0,1,1]).toList 0 #[g0,g1,g2,g3,g4,g5,g6,g7,g8,g9,.int .i64 x10,g11,g12,g13,g14,g15,g16,g17,g18,g19,g20,g21,g22,g23,g24,g25,g26,g27,g28,g29,g30,g31,g32,g33,g34,g35,g36,g37,g38,g39,g40,g41,g42,g43,g44,g45,g46,g47,g48,g49,g50,g51,g52,g53,g54,g55,g56,g57,g58,g59,g60,g61,g62,g63] M K = K #[g0,g1,g2,g3,g4,g5,g6,g7,g8,g9,.int .i64 (IntKind.i64.wrap (x10 + 1)),g11,g12,g13,g14,g15,g16,g17,g18,g19,g20,g21,g22,g23,g24,g25,g26,g27,g28,g29,g30,g31,g32,g33,g34,g35,g36,g37,g38,g39,g40,g41,g42,g43,g44,g45,g46,g47,g48,g49,g50,g51,g52,g53,g54,g55,.int .i64 x10,.int .i64 (IntKind.i64.wrap (x10 + 1)),g58,g59,g60,g61,g62,g63] M := by kernel_rfl
theorem k6_64 : P6 [1,1,1,0,1,0,0,1,1,0,0,1,1,1,1,1,1,0,0,0,1,1] = .exit 2 := by kernel_rfl
theorem k6_65 : P6 [1,1,1,0,1,0,0,1,1,1] = .region 17 (O6 [1,1,1,0,1,0,0,1,1,1]) false := by kernel_rfl
theorem r6_17 {x18 : Int} {M : Mem} {call : CallM} {K : Array Value → Mem → R} :
    opsK Try.prog (fun _ => call) (O6 [1,1,1,0,1,0,0,1,1,1]) (O6 [1,1,1,0,1,0,0,1,1,1]).toList 0 #[g0,g1,g2,g3,g4,g5,g6,g7,g8,g9,g10,g11,g12,g13,g14,g15,g16,g17,.int .i64 x18,g19,g20,g21,g22,g23,g24,g25,g26,g27,g28,g29,g30,g31,g32,g33,g34,g35,g36,g37,g38,g39,g40,g41,g42,g43,g44,g45,g46,g47,g48,g49,g50,g51,g52,g53,g54,g55,g56,g57,g58,g59,g60,g61,g62,g63] M K = K #[g0,g1,g2,g3,g4,g5,g6,g7,g8,g9,g10,g11,g12,g13,g14,g15,g16,g17,.int .i64 (IntKind.i64.wrap (x18 + 1)),g19,g20,g21,g22,g23,g24,g25,g26,g27,g28,g29,g30,g31,g32,g33,g34,g35,g36,g37,g38,g39,g40,g41,g42,g43,g44,g45,g46,g47,g48,g49,g50,g51,g52,g53,g54,g55,g56,g57,g58,g59,g60,g61,g62,.int .i64 (IntKind.i64.wrap (x18 + 1))] M := by kernel_rfl
noncomputable def S6_1 : List Item := [.code (P6 [1,1,1,0,1,0,0]), .inLoop (P6 [1,1,1,0,1,0,0]), .inBlock 0, .code (P6 [1,1,1,1])]
def A6_1 (x0 : Int) (Ax16 : Option Addr) (lx16 cx16 : Nat) (x17 x18 : Int) (M : Mem) (Q : Value → Mem → Prop) : Prop := ∀ (g1 g2 g3 g4 g5 g6 g7 g8 g9 g10 g11 g12 g13 g14 g15 g19 g20 g21 g22 g23 g24 g25 g26 g27 g28 g29 g30 g31 g32 g33 g34 g35 g36 g37 g38 g39 g40 g41 g42 g43 g44 g45 g46 g47 g48 g49 g50 g51 g52 g53 g54 g55 g56 g57 g58 g59 g60 g61 g62 g63 : Value), Rn Try.prog Try.f6 S6_1 #[.int .i64 x0, g1, g2, g3, g4, g5, g6, g7, g8, g9, g10, g11, g12, g13, g14, g15, .slice Ax16 lx16 cx16, .int .i64 x17, .int .i64 x18, g19, g20, g21, g22, g23, g24, g25, g26, g27, g28, g29, g30, g31, g32, g33, g34, g35, g36, g37, g38, g39, g40, g41, g42, g43, g44, g45, g46, g47, g48, g49, g50, g51, g52, g53, g54, g55, g56, g57, g58, g59, g60, g61, g62, g63] M Q
noncomputable def S6_2 : List Item := [.code (P6 [1,1,1,0,1,0,0,1,1,0,0,1,1,1,1,0,1]), .code (P6 [1,1,1,0,1,0,0,1,1,0,0,1,1,1,1,1]), .inBlock 1, .code (P6 [1,1,1,0,1,0,0,1,1,1]), .inLoop (P6 [1,1,1,0,1,0,0]), .inBlock 0, .code (P6 [1,1,1,1])]
def A6_2 (x0 : Int) (Ax6 : Option Addr) (lx6 cx6 : Nat) (Ax16 : Option Addr) (lx16 cx16 : Nat) (x17 x18 : Int) (x51 : Bool) (M : Mem) (Q : Value → Mem → Prop) : Prop := ∀ (g1 g2 g3 g4 g5 g7 g8 g9 g10 g11 g12 g13 g14 g15 g19 g20 g21 g22 g23 g24 g25 g26 g27 g28 g29 g30 g31 g32 g33 g34 g35 g36 g37 g38 g39 g40 g41 g42 g43 g44 g45 g46 g47 g48 g49 g50 g52 g53 g54 g55 g56 g57 g58 g59 g60 g61 g62 g63 : Value), Rn Try.prog Try.f6 S6_2 #[.int .i64 x0, g1, g2, g3, g4, g5, .slice Ax6 lx6 cx6, g7, g8, g9, g10, g11, g12, g13, g14, g15, .slice Ax16 lx16 cx16, .int .i64 x17, .int .i64 x18, g19, g20, g21, g22, g23, g24, g25, g26, g27, g28, g29, g30, g31, g32, g33, g34, g35, g36, g37, g38, g39, g40, g41, g42, g43, g44, g45, g46, g47, g48, g49, g50, .bool x51, g52, g53, g54, g55, g56, g57, g58, g59, g60, g61, g62, g63] M Q
noncomputable def S6_3 : List Item := [.code (P6 [1,1,1,0,1,0,0,1,1,0,0,1,1,1,1,1,1,0,0]), .inLoop (P6 [1,1,1,0,1,0,0,1,1,0,0,1,1,1,1,1,1,0,0]), .inBlock 2, .inBlock 1, .code (P6 [1,1,1,0,1,0,0,1,1,1]), .inLoop (P6 [1,1,1,0,1,0,0]), .inBlock 0, .code (P6 [1,1,1,1])]
def A6_3 (x0 : Int) (Ax6 : Option Addr) (lx6 cx6 : Nat) (x10 : Int) (Ax16 : Option Addr) (lx16 cx16 : Nat) (x17 x18 : Int) (M : Mem) (Q : Value → Mem → Prop) : Prop := ∀ (g1 g2 g3 g4 g5 g7 g8 g9 g11 g12 g13 g14 g15 g19 g20 g21 g22 g23 g24 g25 g26 g27 g28 g29 g30 g31 g32 g33 g34 g35 g36 g37 g38 g39 g40 g41 g42 g43 g44 g45 g46 g47 g48 g49 g50 g51 g52 g53 g54 g55 g56 g57 g58 g59 g60 g61 g62 g63 : Value), Rn Try.prog Try.f6 S6_3 #[.int .i64 x0, g1, g2, g3, g4, g5, .slice Ax6 lx6 cx6, g7, g8, g9, .int .i64 x10, g11, g12, g13, g14, g15, .slice Ax16 lx16 cx16, .int .i64 x17, .int .i64 x18, g19, g20, g21, g22, g23, g24, g25, g26, g27, g28, g29, g30, g31, g32, g33, g34, g35, g36, g37, g38, g39, g40, g41, g42, g43, g44, g45, g46, g47, g48, g49, g50, g51, g52, g53, g54, g55, g56, g57, g58, g59, g60, g61, g62, g63] M Q
theorem w6_0 {x0 : Int} {M : Mem} {Q : Value → Mem → Prop} (H :
    Cn Try.prog 15 #[] M fun v1' N1' =>
     ∃ b2', asB v1' = some b2' ∧
     (((!b2') = true →
      Q (.bool false) N1') ∧
      ((!b2') = false →
      Cn Try.prog 20 #[.int .i64 x0, .int .i64 511] N1' fun v3' N3' =>
       ∃ x4', asI .i64 v3' = some x4' ∧
       A6_1 (IntKind.i64.wrap (x4' - 255)) (some ⟨2 * N3'.nb.size, 0, none⟩) 5 5 5 0 (N3'.new (.cells #[.int .i64 4, .int .i64 8, .int .i64 16, .int .i64 32, .int .i64 64] 3)) Q))) :
    Cn Try.prog 6 #[.int .i64 x0] M Q := by
  refine Cn.of b6 d6 t6 ?_
  refine Rn.seq k6_0 (Rn.region k6_1 (fun call K => r6_0) (Rch.leaf (Rn.seq k6_2 (Rn.seq k6_3 (Rn.region k6_4 (fun call K => r6_1) (Rch.call H fun v1' N1' H => Rch.ex H fun b2' H => Rch.leaf ?_))))))
  refine Rn.cnd (v := !b2') ⟨c6_5, rfl, by kernel_rfl⟩ (fun h => ?_) (fun h => ?_)
  · replace H := H.1 (h)
    refine Rn.seq k6_6 (Rn.region k6_7 (fun call K => r6_2) (Rch.leaf ?_))
    exact Rn.ret k6_8 e6 H
  · replace H := H.2 (h)
    refine Rn.skip k6_10 (Rn.seq k6_11 (Rn.region k6_12 (fun call K => r6_3) (Rch.call H fun v3' N3' H => Rch.ex H fun x4' H => Rch.leaf (Rn.seq k6_13 (Rn.seq k6_14 (Rn.region k6_15 (fun call K => r6_4) (Rch.leaf (Rn.block k6_16 (Rn.loop k6_17 ?_)))))))))
    exact H _ _ _ _ _ _ _ _ _ _ _ _ _ _ _ _ _ _ _ _ _ _ _ _ _ _ _ _ _ _ _ _ _ _ _ _ _ _ _ _ _ _ _ _ _ _ _ _ _ _ _ _ _ _ _ _ _ _ _ _

theorem w6_1 {x0 : Int} {Ax16 : Option Addr} {lx16 cx16 : Nat} {x17 x18 : Int} {M : Mem} {Q : Value → Mem → Prop} (H :
    ((x18 < x17 →
     ∃ a5', idxA Ax16 lx16 1 x18 = some a5' ∧
     ∃ x6', M.intAt .i64 a5'.block a5'.off = some x6' ∧
     Cn Try.prog 21 #[.int .i64 (IntKind.i64.wrap (x6' * x6')), .int .i64 x0, .int .i64 x0] M fun v7' N7' =>
      ∃ s8', asS v7' = some s8' ∧
      Cn Try.prog 16 #[.int .i64 x6', .int .i64 0, .slice s8'.1 s8'.2.1 s8'.2.2] N7' fun v9' N9' =>
       ∃ cs10', asU 2 v9' = some cs10' ∧
       ∃ s11', asS (cs10'.getD 0 undef) = some s11' ∧
       ∃ x12', asI .i64 (cs10'.getD 1 undef) = some x12' ∧
       Cn Try.prog 12 #[.int .i64 x6', .int .i64 0, .slice s11'.1 s11'.2.1 s11'.2.2] N9' fun v13' N13' =>
        ∃ cs14', asU 2 v13' = some cs14' ∧
        ∃ s15', asS (cs14'.getD 0 undef) = some s15' ∧
        ∃ x16', asI .i64 (cs14'.getD 1 undef) = some x16' ∧
        ((x12' ≠ 0 →
         A6_2 x0 s11'.1 s11'.2.1 s11'.2.2 Ax16 lx16 cx16 x17 x18 true N13' Q) ∧
         (x12' = 0 →
         ((x16' ≠ 0 →
          A6_2 x0 s11'.1 s11'.2.1 s11'.2.2 Ax16 lx16 cx16 x17 x18 true N13' Q) ∧
          (x16' = 0 →
          Cn Try.prog 19 #[.slice s15'.1 s15'.2.1 s15'.2.2, .slice s8'.1 s8'.2.1 s8'.2.2] N13' fun v17' N17' =>
           ∃ b18', asB v17' = some b18' ∧
           A6_2 x0 s11'.1 s11'.2.1 s11'.2.2 Ax16 lx16 cx16 x17 x18 (!b18') N17' Q))))) ∧
     (¬ (x18 < x17) →
     Q (.bool true) M))) :
    A6_1 x0 Ax16 lx16 cx16 x17 x18 M Q := by
  intro g1 g2 g3 g4 g5 g6 g7 g8 g9 g10 g11 g12 g13 g14 g15 g19 g20 g21 g22 g23 g24 g25 g26 g27 g28 g29 g30 g31 g32 g33 g34 g35 g36 g37 g38 g39 g40 g41 g42 g43 g44 g45 g46 g47 g48 g49 g50 g51 g52 g53 g54 g55 g56 g57 g58 g59 g60 g61 g62 g63
  refine Rn.seq k6_18 (Rn.region k6_19 (fun call K => r6_5) (Rch.leaf (Rn.seq k6_20 ?_)))
  refine Rn.cnd (v := decide (x18 < x17)) ⟨c6_21, rfl, by kernel_rfl⟩ (fun h => ?_) (fun h => ?_)
  · replace H := H.1 (of_decide_eq_true h)
    refine Rn.skip k6_22 (Rn.seq k6_23 (Rn.block k6_24 (Rn.seq k6_25 (Rn.region k6_26 (fun call K => r6_6) (Rch.ex H fun a5' H => Rch.ex H fun x6' H => Rch.leaf (Rn.seq k6_27 (Rn.region k6_28 (fun call K => r6_7) (Rch.call H fun v7' N7' H => Rch.ex H fun s8' H => ?_))))))))
    refine Rch.leaf (Rn.seq k6_29 (Rn.region k6_30 (fun call K => r6_8) (Rch.call H fun v9' N9' H => Rch.ex H fun cs10' H => Rch.ex H fun s11' H => Rch.ex H fun x12' H => Rch.leaf (Rn.seq k6_31 (Rn.region k6_32 (fun call K => r6_9) (Rch.call H fun v13' N13' H => Rch.ex H fun cs14' H => ?_))))))
    refine Rch.ex H fun s15' H => Rch.ex H fun x16' H => Rch.leaf (Rn.seq k6_33 (Rn.seq k6_34 (Rn.region k6_35 (fun call K => r6_10) ?_)))
    refine Rch.cB (fun h => ?_) (fun h => ?_)
    · replace H := H.1 (ne_of_bneT h)
      refine Rch.leaf ?_
      exact H _ _ _ _ _ _ _ _ _ _ _ _ _ _ _ _ _ _ _ _ _ _ _ _ _ _ _ _ _ _ _ _ _ _ _ _ _ _ _ _ _ _ _ _ _ _ _ _ _ _ _ _ _ _ _ _ _ _
    · replace H := H.2 (eq_of_bneF h)
      refine Rch.cB (fun h => ?_) (fun h => ?_)
      · replace H := H.1 (ne_of_bneT h)
        refine Rch.leaf ?_
        exact H _ _ _ _ _ _ _ _ _ _ _ _ _ _ _ _ _ _ _ _ _ _ _ _ _ _ _ _ _ _ _ _ _ _ _ _ _ _ _ _ _ _ _ _ _ _ _ _ _ _ _ _ _ _ _ _ _ _
      · replace H := H.2 (eq_of_bneF h)
        refine Rch.call H fun v17' N17' H => Rch.ex H fun b18' H => Rch.leaf ?_
        exact H _ _ _ _ _ _ _ _ _ _ _ _ _ _ _ _ _ _ _ _ _ _ _ _ _ _ _ _ _ _ _ _ _ _ _ _ _ _ _ _ _ _ _ _ _ _ _ _ _ _ _ _ _ _ _ _ _ _
  · replace H := H.2 (of_decide_eq_false h)
    refine Rn.exit k6_36 rfl (Rn.seq k6_37 (Rn.region k6_38 (fun call K => r6_18) (Rch.leaf ?_)))
    exact Rn.ret k6_39 e6 H

theorem w6_2 {x0 : Int} {Ax6 : Option Addr} {lx6 cx6 : Nat} {Ax16 : Option Addr} {lx16 cx16 : Nat} {x17 x18 : Int} {x51 : Bool} {M : Mem} {Q : Value → Mem → Prop} (H :
    ((x51 = true →
     Q (.bool false) M) ∧
     (x51 = false →
     A6_3 x0 Ax6 lx6 cx6 1 Ax16 lx16 cx16 x17 x18 M Q))) :
    A6_2 x0 Ax6 lx6 cx6 Ax16 lx16 cx16 x17 x18 x51 M Q := by
  intro g1 g2 g3 g4 g5 g7 g8 g9 g10 g11 g12 g13 g14 g15 g19 g20 g21 g22 g23 g24 g25 g26 g27 g28 g29 g30 g31 g32 g33 g34 g35 g36 g37 g38 g39 g40 g41 g42 g43 g44 g45 g46 g47 g48 g49 g50 g52 g53 g54 g55 g56 g57 g58 g59 g60 g61 g62 g63
  refine Rn.cnd (v := x51) ⟨c6_40, rfl, by kernel_rfl⟩ (fun h => ?_) (fun h => ?_)
  · replace H := H.1 (h)
    refine Rn.seq k6_41 (Rn.region k6_42 (fun call K => r6_11) (Rch.leaf ?_))
    exact Rn.ret k6_43 e6 H
  · replace H := H.2 (h)
    refine Rn.skip k6_44 (Rn.seq k6_45 (Rn.region k6_46 (fun call K => r6_12) (Rch.leaf (Rn.block k6_47 (Rn.loop k6_48 ?_)))))
    exact H _ _ _ _ _ _ _ _ _ _ _ _ _ _ _ _ _ _ _ _ _ _ _ _ _ _ _ _ _ _ _ _ _ _ _ _ _ _ _ _ _ _ _ _ _ _ _ _ _ _ _ _ _ _ _ _ _ _

theorem w6_3 {x0 : Int} {Ax6 : Option Addr} {lx6 cx6 : Nat} {x10 : Int} {Ax16 : Option Addr} {lx16 cx16 : Nat} {x17 x18 : Int} {M : Mem} {Q : Value → Mem → Prop} (H :
    ((x10 < ((lx6 : Int)) →
     ∃ a19', idxA Ax6 lx6 1 x10 = some a19' ∧
     ∃ x20', M.intAt .i64 a19'.block a19'.off = some x20' ∧
     ((x20' ≠ 0 →
      Q (.bool false) M) ∧
      (x20' = 0 →
      A6_3 x0 Ax6 lx6 cx6 (IntKind.i64.wrap (x10 + 1)) Ax16 lx16 cx16 x17 x18 M Q))) ∧
     (¬ (x10 < ((lx6 : Int))) →
     A6_1 x0 Ax16 lx16 cx16 x17 (IntKind.i64.wrap (x18 + 1)) M Q))) :
    A6_3 x0 Ax6 lx6 cx6 x10 Ax16 lx16 cx16 x17 x18 M Q := by
  intro g1 g2 g3 g4 g5 g7 g8 g9 g11 g12 g13 g14 g15 g19 g20 g21 g22 g23 g24 g25 g26 g27 g28 g29 g30 g31 g32 g33 g34 g35 g36 g37 g38 g39 g40 g41 g42 g43 g44 g45 g46 g47 g48 g49 g50 g51 g52 g53 g54 g55 g56 g57 g58 g59 g60 g61 g62 g63
  refine Rn.seq k6_49 (Rn.seq k6_50 (Rn.region k6_51 (fun call K => r6_13) (Rch.leaf ?_)))
  refine Rn.cnd (v := decide (x10 < ((lx6 : Int)))) ⟨c6_52, rfl, by kernel_rfl⟩ (fun h => ?_) (fun h => ?_)
  · replace H := H.1 (of_decide_eq_true h)
    refine Rn.skip k6_53 (Rn.seq k6_54 (Rn.block k6_55 (Rn.seq k6_56 (Rn.region k6_57 (fun call K => r6_15) (Rch.ex H fun a19' H => Rch.ex H fun x20' H => Rch.leaf ?_)))))
    refine Rn.cnd (v := x20' != 0) ⟨c6_58, rfl, by kernel_rfl⟩ (fun h => ?_) (fun h => ?_)
    · replace H := H.1 (ne_of_bneT h)
      refine Rn.seq k6_59 (Rn.region k6_60 (fun call K => r6_16) (Rch.leaf ?_))
      exact Rn.ret k6_61 e6 H
    · replace H := H.2 (eq_of_bneF h)
      refine Rn.skip k6_62 (Rn.blk (Rn.region k6_63 (fun call K => r6_14) (Rch.leaf (Rn.lp ?_))))
      exact H _ _ _ _ _ _ _ _ _ _ _ _ _ _ _ _ _ _ _ _ _ _ _ _ _ _ _ _ _ _ _ _ _ _ _ _ _ _ _ _ _ _ _ _ _ _ _ _ _ _ _ _ _ _ _ _ _ _
  · replace H := H.2 (of_decide_eq_false h)
    refine Rn.exit k6_64 rfl (Rn.blk (Rn.region k6_65 (fun call K => r6_17) (Rch.leaf (Rn.lp ?_))))
    exact H _ _ _ _ _ _ _ _ _ _ _ _ _ _ _ _ _ _ _ _ _ _ _ _ _ _ _ _ _ _ _ _ _ _ _ _ _ _ _ _ _ _ _ _ _ _ _ _ _ _ _ _ _ _ _ _ _ _ _ _


end Go.Zt

