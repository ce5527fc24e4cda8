/- The functions' walks: for each function and each loop a rule of what it comes to. Printed by zw.py. -/
import Derived.Test.YtfaecnhaponcdaaProg
import Derived.Test.YtfaecnhaponcdaaZfA
set_option linter.unusedVariables false
set_option maxRecDepth 100000
namespace Go.Zt
open Go Go.Sim Go.Proofs

variable {g0 g1 g2 g3 g4 g5 g6 g7 g8 g9 g10 g11 g12 g13 g14 g15 g16 g17 g18 g19 g20 g21 g22 g23 g24 g25 g26 g27 g28 g29 g30 g31 g32 g33 g34 g35 g36 g37 g38 g39 g40 g41 g42 g43 g44 g45 g46 g47 g48 g49 g50 g51 g52 g53 g54 g55 g56 g57 g58 g59 g60 g61 g62 g63 g64 g65 g66 g67 g68 g69 g70 g71 g72 g73 g74 g75 g76 g77 g78 g79 g80 g81 g82 g83 g84 g85 g86 : Value}
/-! ### zoetrope/zoetropelaw07.BasisNear: function 5 -/
noncomputable abbrev P5 (p : List Nat) : Code := subC (codeOf Try.f5) p
noncomputable abbrev O5 (p : List Nat) : Array Oper := opsOf (subC (codeOf Try.f5) p)
theorem b5 : Try.prog.funcs[5]? = some Try.f5 ∧ (Orc.tab Try.prog).lookup 5 = none := ⟨by kernel_rfl, by kernel_rfl⟩
theorem d5 : Try.f5.body = some (P5 []) := by kernel_rfl
theorem t5 {Ax0 : Option Addr} {lx0 cx0 : Nat} : #[.slice Ax0 lx0 cx0] ++ Array.replicate (Try.f5.ntmps - (#[.slice Ax0 lx0 cx0] : Array Value).size) undef = #[.slice Ax0 lx0 cx0,undef,undef,undef,undef,undef,undef,undef,undef,undef,undef,undef,undef,undef,undef,undef,undef,undef,undef,undef,undef,undef,undef,undef,undef,undef,undef,undef,undef,undef,undef,undef,undef,undef,undef,undef,undef,undef,undef,undef,undef,undef,undef,undef,undef,undef,undef,undef,undef,undef,undef,undef,undef,undef,undef,undef,undef,undef,undef,undef,undef,undef,undef,undef,undef,undef,undef,undef,undef,undef,undef,undef,undef,undef,undef,undef,undef,undef,undef,undef,undef,undef,undef,undef,undef,undef,undef] := by kernel_rfl
theorem k5_0 : P5 [] = .seq (P5 [0]) (P5 [1]) := by kernel_rfl
theorem k5_1 : P5 [0] = .region 0 (O5 [0]) false := by kernel_rfl
theorem r5_0 {M : Mem} {call : CallM} {K : Array Value → Mem → R} :
    opsK Try.prog (fun _ => call) (O5 [0]) (O5 [0]).toList 0 #[g0,g1,g2,g3,g4,g5,g6,g7,g8,g9,g10,g11,g12,g13,g14,g15,g16,g17,g18,g19,g20,g21,g22,g23,g24,g25,g26,g27,g28,g29,g30,g31,g32,g33,g34,g35,g36,g37,g38,g39,g40,g41,g42,g43,g44,g45,g46,g47,g48,g49,g50,g51,g52,g53,g54,g55,g56,g57,g58,g59,g60,g61,g62,g63,g64,g65,g66,g67,g68,g69,g70,g71,g72,g73,g74,g75,g76,g77,g78,g79,g80,g81,g82,g83,g84,g85,g86] M K = K #[g0,g1,.bool false,g3,g4,g5,g6,g7,g8,g9,g10,g11,g12,g13,g14,g15,g16,g17,g18,g19,g20,g21,g22,g23,g24,g25,g26,g27,g28,g29,g30,g31,g32,g33,g34,g35,g36,g37,g38,g39,g40,g41,g42,g43,g44,g45,g46,g47,g48,g49,g50,g51,g52,g53,g54,g55,g56,g57,g58,g59,g60,g61,g62,g63,g64,g65,g66,g67,g68,g69,g70,g71,g72,g73,g74,g75,g76,g77,g78,g79,g80,g81,g82,g83,g84,g85,g86] M := by kernel_rfl
theorem k5_2 : P5 [1] = .seq (P5 [1,0]) (P5 [1,1]) := by kernel_rfl
theorem k5_3 : P5 [1,0] = .seq (P5 [1,0,0]) (P5 [1,0,1]) := by kernel_rfl
theorem k5_4 : P5 [1,0,0] = .region 1 (O5 [1,0,0]) false := by kernel_rfl
theorem r5_1 {M : Mem} {call : CallM} {K : Array Value → Mem → R} :
    opsK Try.prog (fun _ => call) (O5 [1,0,0]) (O5 [1,0,0]).toList 0 #[g0,g1,g2,g3,g4,g5,g6,g7,g8,g9,g10,g11,g12,g13,g14,g15,g16,g17,g18,g19,g20,g21,g22,g23,g24,g25,g26,g27,g28,g29,g30,g31,g32,g33,g34,g35,g36,g37,g38,g39,g40,g41,g42,g43,g44,g45,g46,g47,g48,g49,g50,g51,g52,g53,g54,g55,g56,g57,g58,g59,g60,g61,g62,g63,g64,g65,g66,g67,g68,g69,g70,g71,g72,g73,g74,g75,g76,g77,g78,g79,g80,g81,g82,g83,g84,g85,g86] M K = (call 11 #[] M).bind fun r_1 => (asB r_1.1).bind fun b_2 => K #[g0,g1,g2,g3,g4,g5,g6,g7,g8,g9,g10,g11,g12,.bool b_2,.bool (!b_2),g15,g16,g17,g18,g19,g20,g21,g22,g23,g24,g25,g26,g27,g28,g29,g30,g31,g32,g33,g34,g35,g36,g37,g38,g39,g40,g41,g42,g43,g44,g45,g46,g47,g48,g49,g50,g51,g52,g53,g54,g55,g56,g57,g58,g59,g60,g61,g62,g63,g64,g65,g66,g67,g68,g69,g70,g71,g72,g73,g74,g75,g76,g77,g78,g79,g80,g81,g82,g83,g84,g85,g86] r_1.2 := by kernel_rfl
theorem c5_5 : P5 [1,0,1] = .cond (.tmp 14) (P5 [1,0,1,0]) (P5 [1,0,1,1]) := by kernel_rfl
theorem k5_6 : P5 [1,0,1,0] = .seq (P5 [1,0,1,0,0]) (P5 [1,0,1,0,1]) := by kernel_rfl
theorem k5_7 : P5 [1,0,1,0,0] = .region 2 (O5 [1,0,1,0,0]) false := by kernel_rfl
theorem r5_2 {M : Mem} {call : CallM} {K : Array Value → Mem → R} :
    opsK Try.prog (fun _ => call) (O5 [1,0,1,0,0]) (O5 [1,0,1,0,0]).toList 0 #[g0,g1,g2,g3,g4,g5,g6,g7,g8,g9,g10,g11,g12,g13,g14,g15,g16,g17,g18,g19,g20,g21,g22,g23,g24,g25,g26,g27,g28,g29,g30,g31,g32,g33,g34,g35,g36,g37,g38,g39,g40,g41,g42,g43,g44,g45,g46,g47,g48,g49,g50,g51,g52,g53,g54,g55,g56,g57,g58,g59,g60,g61,g62,g63,g64,g65,g66,g67,g68,g69,g70,g71,g72,g73,g74,g75,g76,g77,g78,g79,g80,g81,g82,g83,g84,g85,g86] M K = K #[g0,g1,.bool false,g3,g4,g5,g6,g7,g8,g9,g10,g11,g12,g13,g14,g15,g16,g17,g18,g19,g20,g21,g22,g23,g24,g25,g26,g27,g28,g29,g30,g31,g32,g33,g34,g35,g36,g37,g38,g39,g40,g41,g42,g43,g44,g45,g46,g47,g48,g49,g50,g51,g52,g53,g54,g55,g56,g57,g58,g59,g60,g61,g62,g63,g64,g65,g66,g67,g68,g69,g70,g71,g72,g73,g74,g75,g76,g77,g78,g79,g80,g81,g82,g83,g84,g85,g86] M := by kernel_rfl
theorem k5_8 : P5 [1,0,1,0,1] = .ret := by kernel_rfl
theorem e5 {M : Mem} : finish Try.prog Try.f5 #[g0,g1,g2,g3,g4,g5,g6,g7,g8,g9,g10,g11,g12,g13,g14,g15,g16,g17,g18,g19,g20,g21,g22,g23,g24,g25,g26,g27,g28,g29,g30,g31,g32,g33,g34,g35,g36,g37,g38,g39,g40,g41,g42,g43,g44,g45,g46,g47,g48,g49,g50,g51,g52,g53,g54,g55,g56,g57,g58,g59,g60,g61,g62,g63,g64,g65,g66,g67,g68,g69,g70,g71,g72,g73,g74,g75,g76,g77,g78,g79,g80,g81,g82,g83,g84,g85,g86] M = some (g2, M) := by kernel_rfl
theorem k5_10 : P5 [1,0,1,1] = .skip := by kernel_rfl
theorem k5_11 : P5 [1,1] = .seq (P5 [1,1,0]) (P5 [1,1,1]) := by kernel_rfl
theorem k5_12 : P5 [1,1,0] = .seq (P5 [1,1,0,0]) (P5 [1,1,0,1]) := by kernel_rfl
theorem k5_13 : P5 [1,1,0,0] = .region 3 (O5 [1,1,0,0]) false := by kernel_rfl
theorem r5_3 {M : Mem} {call : CallM} {K : Array Value → Mem → R} :
    opsK Try.prog (fun _ => call) (O5 [1,1,0,0]) (O5 [1,1,0,0]).toList 0 #[g0,g1,g2,g3,g4,g5,g6,g7,g8,g9,g10,g11,g12,g13,g14,g15,g16,g17,g18,g19,g20,g21,g22,g23,g24,g25,g26,g27,g28,g29,g30,g31,g32,g33,g34,g35,g36,g37,g38,g39,g40,g41,g42,g43,g44,g45,g46,g47,g48,g49,g50,g51,g52,g53,g54,g55,g56,g57,g58,g59,g60,g61,g62,g63,g64,g65,g66,g67,g68,g69,g70,g71,g72,g73,g74,g75,g76,g77,g78,g79,g80,g81,g82,g83,g84,g85,g86] M K = K #[g0,g1,g2,.int .i64 0,g4,g5,g6,g7,g8,g9,g10,g11,g12,g13,g14,g15,g16,g17,g18,g19,g20,g21,g22,g23,g24,g25,g26,g27,g28,g29,g30,g31,g32,g33,g34,g35,g36,g37,g38,g39,g40,g41,g42,g43,g44,g45,g46,g47,g48,g49,g50,g51,g52,g53,g54,g55,g56,g57,g58,g59,g60,g61,g62,g63,g64,g65,g66,g67,g68,g69,g70,g71,g72,g73,g74,g75,g76,g77,g78,g79,g80,g81,g82,g83,g84,g85,g86] M := by kernel_rfl
theorem k5_14 : P5 [1,1,0,1] = .block 0 (P5 [1,1,0,1,0]) := by kernel_rfl
theorem k5_15 : P5 [1,1,0,1,0] = .loop (P5 [1,1,0,1,0,0]) := by kernel_rfl
theorem k5_16 : P5 [1,1,0,1,0,0] = .seq (P5 [1,1,0,1,0,0,0]) (P5 [1,1,0,1,0,0,1]) := by kernel_rfl
theorem k5_17 : P5 [1,1,0,1,0,0,0] = .seq (P5 [1,1,0,1,0,0,0,0]) (P5 [1,1,0,1,0,0,0,1]) := by kernel_rfl
theorem k5_18 : P5 [1,1,0,1,0,0,0,0] = .region 4 (O5 [1,1,0,1,0,0,0,0]) false := by kernel_rfl
theorem r5_4 {x3 : Int} {M : Mem} {call : CallM} {K : Array Value → Mem → R} :
    opsK Try.prog (fun _ => call) (O5 [1,1,0,1,0,0,0,0]) (O5 [1,1,0,1,0,0,0,0]).toList 0 #[g0,g1,g2,.int .i64 x3,g4,g5,g6,g7,g8,g9,g10,g11,g12,g13,g14,g15,g16,g17,g18,g19,g20,g21,g22,g23,g24,g25,g26,g27,g28,g29,g30,g31,g32,g33,g34,g35,g36,g37,g38,g39,g40,g41,g42,g43,g44,g45,g46,g47,g48,g49,g50,g51,g52,g53,g54,g55,g56,g57,g58,g59,g60,g61,g62,g63,g64,g65,g66,g67,g68,g69,g70,g71,g72,g73,g74,g75,g76,g77,g78,g79,g80,g81,g82,g83,g84,g85,g86] M K = K #[g0,g1,g2,.int .i64 x3,g4,g5,g6,g7,g8,g9,g10,g11,g12,g13,g14,.int .i64 x3,.bool (decide (x3 < 3)),g17,g18,g19,g20,g21,g22,g23,g24,g25,g26,g27,g28,g29,g30,g31,g32,g33,g34,g35,g36,g37,g38,g39,g40,g41,g42,g43,g44,g45,g46,g47,g48,g49,g50,g51,g52,g53,g54,g55,g56,g57,g58,g59,g60,g61,g62,g63,g64,g65,g66,g67,g68,g69,g70,g71,g72,g73,g74,g75,g76,g77,g78,g79,g80,g81,g82,g83,g84,g85,g86] M := by kernel_rfl
theorem c5_19 : P5 [1,1,0,1,0,0,0,1] = .cond (.tmp 16) (P5 [1,1,0,1,0,0,0,1,0]) (P5 [1,1,0,1,0,0,0,1,1]) := by kernel_rfl
theorem k5_20 : P5 [1,1,0,1,0,0,0,1,0] = .skip := by kernel_rfl
theorem k5_21 : P5 [1,1,0,1,0,0,1] = .seq (P5 [1,1,0,1,0,0,1,0]) (P5 [1,1,0,1,0,0,1,1]) := by kernel_rfl
theorem k5_22 : P5 [1,1,0,1,0,0,1,0] = .block 1 (P5 [1,1,0,1,0,0,1,0,0]) := by kernel_rfl
theorem k5_23 : P5 [1,1,0,1,0,0,1,0,0] = .seq (P5 [1,1,0,1,0,0,1,0,0,0]) (P5 [1,1,0,1,0,0,1,0,0,1]) := by kernel_rfl
theorem k5_24 : P5 [1,1,0,1,0,0,1,0,0,0] = .region 6 (O5 [1,1,0,1,0,0,1,0,0,0]) false := by kernel_rfl
theorem r5_6 {x3 : Int} {M : Mem} {call : CallM} {K : Array Value → Mem → R} :
    opsK Try.prog (fun _ => call) (O5 [1,1,0,1,0,0,1,0,0,0]) (O5 [1,1,0,1,0,0,1,0,0,0]).toList 0 #[g0,g1,g2,.int .i64 x3,g4,g5,g6,g7,g8,g9,g10,g11,g12,g13,g14,g15,g16,g17,g18,g19,g20,g21,g22,g23,g24,g25,g26,g27,g28,g29,g30,g31,g32,g33,g34,g35,g36,g37,g38,g39,g40,g41,g42,g43,g44,g45,g46,g47,g48,g49,g50,g51,g52,g53,g54,g55,g56,g57,g58,g59,g60,g61,g62,g63,g64,g65,g66,g67,g68,g69,g70,g71,g72,g73,g74,g75,g76,g77,g78,g79,g80,g81,g82,g83,g84,g85,g86] M K = (call 16 #[.int .i64 x3] M).bind fun r_1 => (asS r_1.1).bind fun s_2 => K #[g0,g1,g2,.int .i64 x3,.slice s_2.1 (s_2.2.1) (s_2.2.2),g5,g6,g7,g8,g9,g10,g11,g12,g13,g14,g15,g16,g17,g18,.int .i64 x3,.slice s_2.1 (s_2.2.1) (s_2.2.2),g21,g22,g23,g24,g25,g26,g27,g28,g29,g30,g31,g32,g33,g34,g35,g36,g37,g38,g39,g40,g41,g42,g43,g44,g45,g46,g47,g48,g49,g50,g51,g52,g53,g54,g55,g56,g57,g58,g59,g60,g61,g62,g63,g64,g65,g66,g67,g68,g69,g70,g71,g72,g73,g74,g75,g76,g77,g78,g79,g80,g81,g82,g83,g84,g85,g86] r_1.2 := by kernel_rfl
theorem k5_25 : P5 [1,1,0,1,0,0,1,0,0,1] = .seq (P5 [1,1,0,1,0,0,1,0,0,1,0]) (P5 [1,1,0,1,0,0,1,0,0,1,1]) := by kernel_rfl
theorem k5_26 : P5 [1,1,0,1,0,0,1,0,0,1,0] = .region 7 (O5 [1,1,0,1,0,0,1,0,0,1,0]) false := by kernel_rfl
theorem r5_7 {M : Mem} {call : CallM} {K : Array Value → Mem → R} :
    opsK Try.prog (fun _ => call) (O5 [1,1,0,1,0,0,1,0,0,1,0]) (O5 [1,1,0,1,0,0,1,0,0,1,0]).toList 0 #[g0,g1,g2,g3,g4,g5,g6,g7,g8,g9,g10,g11,g12,g13,g14,g15,g16,g17,g18,g19,g20,g21,g22,g23,g24,g25,g26,g27,g28,g29,g30,g31,g32,g33,g34,g35,g36,g37,g38,g39,g40,g41,g42,g43,g44,g45,g46,g47,g48,g49,g50,g51,g52,g53,g54,g55,g56,g57,g58,g59,g60,g61,g62,g63,g64,g65,g66,g67,g68,g69,g70,g71,g72,g73,g74,g75,g76,g77,g78,g79,g80,g81,g82,g83,g84,g85,g86] M K = K #[g0,g1,g2,g3,g4,.int .i64 0,g6,g7,g8,g9,g10,g11,g12,g13,g14,g15,g16,g17,g18,g19,g20,g21,g22,g23,g24,g25,g26,g27,g28,g29,g30,g31,g32,g33,g34,g35,g36,g37,g38,g39,g40,g41,g42,g43,g44,g45,g46,g47,g48,g49,g50,g51,g52,g53,g54,g55,g56,g57,g58,g59,g60,g61,g62,g63,g64,g65,g66,g67,g68,g69,g70,g71,g72,g73,g74,g75,g76,g77,g78,g79,g80,g81,g82,g83,g84,g85,g86] M := by kernel_rfl
theorem k5_27 : P5 [1,1,0,1,0,0,1,0,0,1,1] = .block 2 (P5 [1,1,0,1,0,0,1,0,0,1,1,0]) := by kernel_rfl
theorem k5_28 : P5 [1,1,0,1,0,0,1,0,0,1,1,0] = .loop (P5 [1,1,0,1,0,0,1,0,0,1,1,0,0]) := by kernel_rfl
theorem k5_29 : P5 [1,1,0,1,0,0,0,1,1] = .exit 0 := by kernel_rfl
theorem k5_30 : P5 [1,1,1] = .seq (P5 [1,1,1,0]) (P5 [1,1,1,1]) := by kernel_rfl
theorem k5_31 : P5 [1,1,1,0] = .region 21 (O5 [1,1,1,0]) false := by kernel_rfl
theorem r5_21 {M : Mem} {call : CallM} {K : Array Value → Mem → R} :
    opsK Try.prog (fun _ => call) (O5 [1,1,1,0]) (O5 [1,1,1,0]).toList 0 #[g0,g1,g2,g3,g4,g5,g6,g7,g8,g9,g10,g11,g12,g13,g14,g15,g16,g17,g18,g19,g20,g21,g22,g23,g24,g25,g26,g27,g28,g29,g30,g31,g32,g33,g34,g35,g36,g37,g38,g39,g40,g41,g42,g43,g44,g45,g46,g47,g48,g49,g50,g51,g52,g53,g54,g55,g56,g57,g58,g59,g60,g61,g62,g63,g64,g65,g66,g67,g68,g69,g70,g71,g72,g73,g74,g75,g76,g77,g78,g79,g80,g81,g82,g83,g84,g85,g86] M K = K #[g0,g1,.bool true,g3,g4,g5,g6,g7,g8,g9,g10,g11,g12,g13,g14,g15,g16,g17,g18,g19,g20,g21,g22,g23,g24,g25,g26,g27,g28,g29,g30,g31,g32,g33,g34,g35,g36,g37,g38,g39,g40,g41,g42,g43,g44,g45,g46,g47,g48,g49,g50,g51,g52,g53,g54,g55,g56,g57,g58,g59,g60,g61,g62,g63,g64,g65,g66,g67,g68,g69,g70,g71,g72,g73,g74,g75,g76,g77,g78,g79,g80,g81,g82,g83,g84,g85,g86] M := by kernel_rfl
theorem k5_32 : P5 [1,1,1,1] = .ret := by kernel_rfl
theorem k5_33 : P5 [1,1,0,1,0,0,1,0,0,1,1,0,0] = .seq (P5 [1,1,0,1,0,0,1,0,0,1,1,0,0,0]) (P5 [1,1,0,1,0,0,1,0,0,1,1,0,0,1]) := by kernel_rfl
theorem k5_34 : P5 [1,1,0,1,0,0,1,0,0,1,1,0,0,0] = .seq (P5 [1,1,0,1,0,0,1,0,0,1,1,0,0,0,0]) (P5 [1,1,0,1,0,0,1,0,0,1,1,0,0,0,1]) := by kernel_rfl
theorem k5_35 : P5 [1,1,0,1,0,0,1,0,0,1,1,0,0,0,0] = .region 8 (O5 [1,1,0,1,0,0,1,0,0,1,1,0,0,0,0]) false := by kernel_rfl
theorem r5_8 {Ax4 : Option Addr} {lx4 cx4 : Nat} {x5 : Int} {M : Mem} {call : CallM} {K : Array Value → Mem → R} :
    opsK Try.prog (fun _ => call) (O5 [1,1,0,1,0,0,1,0,0,1,1,0,0,0,0]) (O5 [1,1,0,1,0,0,1,0,0,1,1,0,0,0,0]).toList 0 #[g0,g1,g2,g3,.slice Ax4 lx4 cx4,.int .i64 x5,g6,g7,g8,g9,g10,g11,g12,g13,g14,g15,g16,g17,g18,g19,g20,g21,g22,g23,g24,g25,g26,g27,g28,g29,g30,g31,g32,g33,g34,g35,g36,g37,g38,g39,g40,g41,g42,g43,g44,g45,g46,g47,g48,g49,g50,g51,g52,g53,g54,g55,g56,g57,g58,g59,g60,g61,g62,g63,g64,g65,g66,g67,g68,g69,g70,g71,g72,g73,g74,g75,g76,g77,g78,g79,g80,g81,g82,g83,g84,g85,g86] M K = K #[g0,g1,g2,g3,.slice Ax4 lx4 cx4,.int .i64 x5,g6,g7,g8,g9,g10,g11,g12,g13,g14,g15,g16,g17,g18,g19,g20,.int .i64 x5,.slice Ax4 lx4 cx4,.int .i64 ((lx4 : Int)),.bool (decide (x5 < ((lx4 : Int)))),g25,g26,g27,g28,g29,g30,g31,g32,g33,g34,g35,g36,g37,g38,g39,g40,g41,g42,g43,g44,g45,g46,g47,g48,g49,g50,g51,g52,g53,g54,g55,g56,g57,g58,g59,g60,g61,g62,g63,g64,g65,g66,g67,g68,g69,g70,g71,g72,g73,g74,g75,g76,g77,g78,g79,g80,g81,g82,g83,g84,g85,g86] M := by kernel_rfl
theorem c5_36 : P5 [1,1,0,1,0,0,1,0,0,1,1,0,0,0,1] = .cond (.tmp 24) (P5 [1,1,0,1,0,0,1,0,0,1,1,0,0,0,1,0]) (P5 [1,1,0,1,0,0,1,0,0,1,1,0,0,0,1,1]) := by kernel_rfl
theorem k5_37 : P5 [1,1,0,1,0,0,1,0,0,1,1,0,0,0,1,0] = .skip := by kernel_rfl
theorem k5_38 : P5 [1,1,0,1,0,0,1,0,0,1,1,0,0,1] = .seq (P5 [1,1,0,1,0,0,1,0,0,1,1,0,0,1,0]) (P5 [1,1,0,1,0,0,1,0,0,1,1,0,0,1,1]) := by kernel_rfl
theorem k5_39 : P5 [1,1,0,1,0,0,1,0,0,1,1,0,0,1,0] = .block 3 (P5 [1,1,0,1,0,0,1,0,0,1,1,0,0,1,0,0]) := by kernel_rfl
theorem k5_40 : P5 [1,1,0,1,0,0,1,0,0,1,1,0,0,1,0,0] = .seq (P5 [1,1,0,1,0,0,1,0,0,1,1,0,0,1,0,0,0]) (P5 [1,1,0,1,0,0,1,0,0,1,1,0,0,1,0,0,1]) := by kernel_rfl
theorem k5_41 : P5 [1,1,0,1,0,0,1,0,0,1,1,0,0,1,0,0,0] = .region 10 (O5 [1,1,0,1,0,0,1,0,0,1,1,0,0,1,0,0,0]) false := by kernel_rfl
theorem r5_10 {Ax4 : Option Addr} {lx4 cx4 : Nat} {x5 : Int} {M : Mem} {call : CallM} {K : Array Value → Mem → R} :
    opsK Try.prog (fun _ => call) (O5 [1,1,0,1,0,0,1,0,0,1,1,0,0,1,0,0,0]) (O5 [1,1,0,1,0,0,1,0,0,1,1,0,0,1,0,0,0]).toList 0 #[g0,g1,g2,g3,.slice Ax4 lx4 cx4,.int .i64 x5,g6,g7,g8,g9,g10,g11,g12,g13,g14,g15,g16,g17,g18,g19,g20,g21,g22,g23,g24,g25,g26,g27,g28,g29,g30,g31,g32,g33,g34,g35,g36,g37,g38,g39,g40,g41,g42,g43,g44,g45,g46,g47,g48,g49,g50,g51,g52,g53,g54,g55,g56,g57,g58,g59,g60,g61,g62,g63,g64,g65,g66,g67,g68,g69,g70,g71,g72,g73,g74,g75,g76,g77,g78,g79,g80,g81,g82,g83,g84,g85,g86] M K = (idxA Ax4 lx4 1 x5).bind fun a_1 => (M.intAt .i64 a_1.block a_1.off).bind fun x_2 => K #[g0,g1,g2,g3,.slice Ax4 lx4 cx4,.int .i64 x5,.int .i64 x_2,g7,g8,g9,g10,g11,g12,g13,g14,g15,g16,g17,g18,g19,g20,g21,g22,g23,g24,g25,g26,.slice Ax4 lx4 cx4,.int .i64 x5,.pointer (some a_1),.int .i64 x_2,g31,g32,g33,g34,g35,g36,g37,g38,g39,g40,g41,g42,g43,g44,g45,g46,g47,g48,g49,g50,g51,g52,g53,g54,g55,g56,g57,g58,g59,g60,g61,g62,g63,g64,g65,g66,g67,g68,g69,g70,g71,g72,g73,g74,g75,g76,g77,g78,g79,g80,g81,g82,g83,g84,g85,g86] M := by kernel_rfl
theorem k5_42 : P5 [1,1,0,1,0,0,1,0,0,1,1,0,0,1,0,0,1] = .seq (P5 [1,1,0,1,0,0,1,0,0,1,1,0,0,1,0,0,1,0]) (P5 [1,1,0,1,0,0,1,0,0,1,1,0,0,1,0,0,1,1]) := by kernel_rfl
theorem k5_43 : P5 [1,1,0,1,0,0,1,0,0,1,1,0,0,1,0,0,1,0] = .region 11 (O5 [1,1,0,1,0,0,1,0,0,1,1,0,0,1,0,0,1,0]) false := by kernel_rfl
theorem r5_11 {Ax0 : Option Addr} {lx0 cx0 : Nat} {x6 : Int} {M : Mem} {call : CallM} {K : Array Value → Mem → R} :
    opsK Try.prog (fun _ => call) (O5 [1,1,0,1,0,0,1,0,0,1,1,0,0,1,0,0,1,0]) (O5 [1,1,0,1,0,0,1,0,0,1,1,0,0,1,0,0,1,0]).toList 0 #[.slice Ax0 lx0 cx0,g1,g2,g3,g4,g5,.int .i64 x6,g7,g8,g9,g10,g11,g12,g13,g14,g15,g16,g17,g18,g19,g20,g21,g22,g23,g24,g25,g26,g27,g28,g29,g30,g31,g32,g33,g34,g35,g36,g37,g38,g39,g40,g41,g42,g43,g44,g45,g46,g47,g48,g49,g50,g51,g52,g53,g54,g55,g56,g57,g58,g59,g60,g61,g62,g63,g64,g65,g66,g67,g68,g69,g70,g71,g72,g73,g74,g75,g76,g77,g78,g79,g80,g81,g82,g83,g84,g85,g86] M K = (call 12 #[.slice Ax0 lx0 cx0, .int .i64 x6, .int .i64 1023] M).bind fun r_1 => (asS r_1.1).bind fun s_2 => K #[.slice Ax0 lx0 cx0,g1,g2,g3,g4,g5,.int .i64 x6,.slice s_2.1 (s_2.2.1) (s_2.2.2),g8,g9,g10,g11,g12,g13,g14,g15,g16,g17,g18,g19,g20,g21,g22,g23,g24,g25,g26,g27,g28,g29,g30,.slice Ax0 lx0 cx0,.int .i64 x6,.slice s_2.1 (s_2.2.1) (s_2.2.2),g34,g35,g36,g37,g38,g39,g40,g41,g42,g43,g44,g45,g46,g47,g48,g49,g50,g51,g52,g53,g54,g55,g56,g57,g58,g59,g60,g61,g62,g63,g64,g65,g66,g67,g68,g69,g70,g71,g72,g73,g74,g75,g76,g77,g78,g79,g80,g81,g82,g83,g84,g85,g86] r_1.2 := by kernel_rfl
theorem k5_44 : P5 [1,1,0,1,0,0,1,0,0,1,1,0,0,1,0,0,1,1] = .seq (P5 [1,1,0,1,0,0,1,0,0,1,1,0,0,1,0,0,1,1,0]) (P5 [1,1,0,1,0,0,1,0,0,1,1,0,0,1,0,0,1,1,1]) := by kernel_rfl
theorem k5_45 : P5 [1,1,0,1,0,0,1,0,0,1,1,0,0,1,0,0,1,1,0] = .region 12 (O5 [1,1,0,1,0,0,1,0,0,1,1,0,0,1,0,0,1,1,0]) false := by kernel_rfl
theorem r5_12 {x3 : Int} {Ax7 : Option Addr} {lx7 cx7 : Nat} {M : Mem} {call : CallM} {K : Array Value → Mem → R} :
    opsK Try.prog (fun _ => call) (O5 [1,1,0,1,0,0,1,0,0,1,1,0,0,1,0,0,1,1,0]) (O5 [1,1,0,1,0,0,1,0,0,1,1,0,0,1,0,0,1,1,0]).toList 0 #[g0,g1,g2,.int .i64 x3,g4,g5,g6,.slice Ax7 lx7 cx7,g8,g9,g10,g11,g12,g13,g14,g15,g16,g17,g18,g19,g20,g21,g22,g23,g24,g25,g26,g27,g28,g29,g30,g31,g32,g33,g34,g35,g36,g37,g38,g39,g40,g41,g42,g43,g44,g45,g46,g47,g48,g49,g50,g51,g52,g53,g54,g55,g56,g57,g58,g59,g60,g61,g62,g63,g64,g65,g66,g67,g68,g69,g70,g71,g72,g73,g74,g75,g76,g77,g78,g79,g80,g81,g82,g83,g84,g85,g86] M K = (call 13 #[.int .i64 x3, .slice Ax7 lx7 cx7] M).bind fun r_1 => (asU 2 r_1.1).bind fun cs_2 => (asS (cs_2.getD 0 undef)).bind fun s_3 => (asI .i64 (cs_2.getD 1 undef)).bind fun x_4 => K #[g0,g1,g2,.int .i64 x3,g4,g5,g6,.slice Ax7 lx7 cx7,.slice s_3.1 (s_3.2.1) (s_3.2.2),.int .i64 x_4,g10,g11,g12,g13,g14,g15,g16,g17,g18,g19,g20,g21,g22,g23,g24,g25,g26,g27,g28,g29,g30,g31,g32,g33,.tuple #[.slice s_3.1 (s_3.2.1) (s_3.2.2), .int .i64 x_4],.int .i64 x3,.slice Ax7 lx7 cx7,.tuple #[.slice s_3.1 (s_3.2.1) (s_3.2.2), .int .i64 x_4],.slice s_3.1 (s_3.2.1) (s_3.2.2),.int .i64 x_4,g40,g41,g42,g43,g44,g45,g46,g47,g48,g49,g50,g51,g52,g53,g54,g55,g56,g57,g58,g59,g60,g61,g62,g63,g64,g65,g66,g67,g68,g69,g70,g71,g72,g73,g74,g75,g76,g77,g78,g79,g80,g81,g82,g83,g84,g85,g86] r_1.2 := by kernel_rfl
theorem k5_46 : P5 [1,1,0,1,0,0,1,0,0,1,1,0,0,1,0,0,1,1,1] = .seq (P5 [1,1,0,1,0,0,1,0,0,1,1,0,0,1,0,0,1,1,1,0]) (P5 [1,1,0,1,0,0,1,0,0,1,1,0,0,1,0,0,1,1,1,1]) := by kernel_rfl
theorem k5_47 : P5 [1,1,0,1,0,0,1,0,0,1,1,0,0,1,0,0,1,1,1,0] = .region 13 (O5 [1,1,0,1,0,0,1,0,0,1,1,0,0,1,0,0,1,1,1,0]) false := by kernel_rfl
theorem r5_13 {x3 : Int} {Ax8 : Option Addr} {lx8 cx8 : Nat} {M : Mem} {call : CallM} {K : Array Value → Mem → R} :
    opsK Try.prog (fun _ => call) (O5 [1,1,0,1,0,0,1,0,0,1,1,0,0,1,0,0,1,1,1,0]) (O5 [1,1,0,1,0,0,1,0,0,1,1,0,0,1,0,0,1,1,1,0]).toList 0 #[g0,g1,g2,.int .i64 x3,g4,g5,g6,g7,.slice Ax8 lx8 cx8,g9,g10,g11,g12,g13,g14,g15,g16,g17,g18,g19,g20,g21,g22,g23,g24,g25,g26,g27,g28,g29,g30,g31,g32,g33,g34,g35,g36,g37,g38,g39,g40,g41,g42,g43,g44,g45,g46,g47,g48,g49,g50,g51,g52,g53,g54,g55,g56,g57,g58,g59,g60,g61,g62,g63,g64,g65,g66,g67,g68,g69,g70,g71,g72,g73,g74,g75,g76,g77,g78,g79,g80,g81,g82,g83,g84,g85,g86] M K = (call 14 #[.int .i64 x3, .slice Ax8 lx8 cx8] M).bind fun r_1 => (asU 2 r_1.1).bind fun cs_2 => (asS (cs_2.getD 0 undef)).bind fun s_3 => (asI .i64 (cs_2.getD 1 undef)).bind fun x_4 => K #[g0,g1,g2,.int .i64 x3,g4,g5,g6,g7,.slice Ax8 lx8 cx8,g9,.slice s_3.1 (s_3.2.1) (s_3.2.2),.int .i64 x_4,g12,g13,g14,g15,g16,g17,g18,g19,g20,g21,g22,g23,g24,g25,g26,g27,g28,g29,g30,g31,g32,g33,g34,g35,g36,g37,g38,g39,.tuple #[.slice s_3.1 (s_3.2.1) (s_3.2.2), .int .i64 x_4],.int .i64 x3,.slice Ax8 lx8 cx8,.tuple #[.slice s_3.1 (s_3.2.1) (s_3.2.2), .int .i64 x_4],.slice s_3.1 (s_3.2.1) (s_3.2.2),.int .i64 x_4,g46,g47,g48,g49,g50,g51,g52,g53,g54,g55,g56,g57,g58,g59,g60,g61,g62,g63,g64,g65,g66,g67,g68,g69,g70,g71,g72,g73,g74,g75,g76,g77,g78,g79,g80,g81,g82,g83,g84,g85,g86] r_1.2 := by kernel_rfl
theorem k5_48 : P5 [1,1,0,1,0,0,1,0,0,1,1,0,0,1,0,0,1,1,1,1] = .seq (P5 [1,1,0,1,0,0,1,0,0,1,1,0,0,1,0,0,1,1,1,1,0]) (P5 [1,1,0,1,0,0,1,0,0,1,1,0,0,1,0,0,1,1,1,1,1]) := by kernel_rfl
theorem k5_49 : P5 [1,1,0,1,0,0,1,0,0,1,1,0,0,1,0,0,1,1,1,1,0] = .seq (P5 [1,1,0,1,0,0,1,0,0,1,1,0,0,1,0,0,1,1,1,1,0,0]) (P5 [1,1,0,1,0,0,1,0,0,1,1,0,0,1,0,0,1,1,1,1,0,1]) := by kernel_rfl
theorem k5_50 : P5 [1,1,0,1,0,0,1,0,0,1,1,0,0,1,0,0,1,1,1,1,0,0] = .region 14 (O5 [1,1,0,1,0,0,1,0,0,1,1,0,0,1,0,0,1,1,1,1,0,0]) false := by kernel_rfl
theorem k5_51 : P5 [1,1,0,1,0,0,1,0,0,1,1,0,0,1,0,0,1,1,1,1,0,0] = .region 14 (O5 [1,1,0,1,0,0,1,0,0,1,1,0,0,1,0,0,1,1,1,1,0,0]) false ∧ (!false || drawOk (O5 [1,1,0,1,0,0,1,0,0,1,1,0,0,1,0,0,1,1,1,1,0,0])) = true := ⟨by kernel_rfl, by kernel_rfl⟩
theorem r5_14p0 {x9 x11 : Int} {M : Mem} {call : CallM} {K : Array Value → Mem → R} :
    segK Try.prog false call (O5 [1,1,0,1,0,0,1,0,0,1,1,0,0,1,0,0,1,1,1,1,0,0]) 0 7 #[g0,g1,g2,g3,g4,g5,g6,g7,g8,.int .i64 x9,g10,.int .i64 x11,g12,g13,g14,g15,g16,g17,g18,g19,g20,g21,g22,g23,g24,g25,g26,g27,g28,g29,g30,g31,g32,g33,g34,g35,g36,g37,g38,g39,g40,g41,g42,g43,g44,g45,g46,g47,g48,g49,g50,g51,g52,g53,g54,g55,g56,g57,g58,g59,g60,g61,g62,g63,g64,g65,g66,g67,g68,g69,g70,g71,g72,g73,g74,g75,g76,g77,g78,g79,g80,g81,g82,g83,g84,g85,g86] M K = withK (fun w48 w49 w50 w51 w52 M => K #[g0,g1,g2,g3,g4,g5,g6,g7,g8,.int .i64 x9,g10,.int .i64 x11,g12,g13,g14,g15,g16,g17,g18,g19,g20,g21,g22,g23,g24,g25,g26,g27,g28,g29,g30,g31,g32,g33,g34,g35,g36,g37,g38,g39,g40,g41,g42,g43,g44,g45,.int .i64 x9,.bool (x9 != 0),w48,w49,w50,w51,w52,g53,g54,g55,g56,g57,g58,g59,g60,g61,g62,g63,g64,g65,g66,g67,g68,g69,g70,g71,g72,g73,g74,g75,g76,g77,g78,g79,g80,g81,g82,g83,g84,g85,g86] M) fun k => cond (x9 != 0) (k (.bool true) undef undef (.bool true) (.bool true) M) (k (.bool false) (.int .i64 x11) (.bool (x11 != 0)) (.bool (x11 != 0)) (.bool (x11 != 0)) M) := by kernel_rfl
theorem k5_52 : P5 [1,1,0,1,0,0,1,0,0,1,1,0,0,0,1,1] = .exit 2 := by kernel_rfl
theorem k5_53 : P5 [1,1,0,1,0,0,1,1] = .region 5 (O5 [1,1,0,1,0,0,1,1]) false := by kernel_rfl
theorem r5_5 {x3 : Int} {M : Mem} {call : CallM} {K : Array Value → Mem → R} :
    opsK Try.prog (fun _ => call) (O5 [1,1,0,1,0,0,1,1]) (O5 [1,1,0,1,0,0,1,1]).toList 0 #[g0,g1,g2,.int .i64 x3,g4,g5,g6,g7,g8,g9,g10,g11,g12,g13,g14,g15,g16,g17,g18,g19,g20,g21,g22,g23,g24,g25,g26,g27,g28,g29,g30,g31,g32,g33,g34,g35,g36,g37,g38,g39,g40,g41,g42,g43,g44,g45,g46,g47,g48,g49,g50,g51,g52,g53,g54,g55,g56,g57,g58,g59,g60,g61,g62,g63,g64,g65,g66,g67,g68,g69,g70,g71,g72,g73,g74,g75,g76,g77,g78,g79,g80,g81,g82,g83,g84,g85,g86] M K = K #[g0,g1,g2,.int .i64 (IntKind.i64.wrap (x3 + 1)),g4,g5,g6,g7,g8,g9,g10,g11,g12,g13,g14,g15,g16,.int .i64 x3,.int .i64 (IntKind.i64.wrap (x3 + 1)),g19,g20,g21,g22,g23,g24,g25,g26,g27,g28,g29,g30,g31,g32,g33,g34,g35,g36,g37,g38,g39,g40,g41,g42,g43,g44,g45,g46,g47,g48,g49,g50,g51,g52,g53,g54,g55,g56,g57,g58,g59,g60,g61,g62,g63,g64,g65,g66,g67,g68,g69,g70,g71,g72,g73,g74,g75,g76,g77,g78,g79,g80,g81,g82,g83,g84,g85,g86] M := by kernel_rfl
theorem r5_14p7 {x6 : Int} {Ax8 : Option Addr} {lx8 cx8 : Nat} {x52 : Bool} {M : Mem} {call : CallM} {K : Array Value → Mem → R} :
    segK Try.prog false call (O5 [1,1,0,1,0,0,1,0,0,1,1,0,0,1,0,0,1,1,1,1,0,0]) 7 6 #[g0,g1,g2,g3,g4,g5,.int .i64 x6,g7,.slice Ax8 lx8 cx8,g9,g10,g11,g12,g13,g14,g15,g16,g17,g18,g19,g20,g21,g22,g23,g24,g25,g26,g27,g28,g29,g30,g31,g32,g33,g34,g35,g36,g37,g38,g39,g40,g41,g42,g43,g44,g45,g46,g47,g48,g49,g50,g51,.bool x52,g53,g54,g55,g56,g57,g58,g59,g60,g61,g62,g63,g64,g65,g66,g67,g68,g69,g70,g71,g72,g73,g74,g75,g76,g77,g78,g79,g80,g81,g82,g83,g84,g85,g86] M K = withK (fun w52 w53 w54 w55 w56 w57 w58 M => K #[g0,g1,g2,g3,g4,g5,.int .i64 x6,g7,.slice Ax8 lx8 cx8,g9,g10,g11,g12,g13,g14,g15,g16,g17,g18,g19,g20,g21,g22,g23,g24,g25,g26,g27,g28,g29,g30,g31,g32,g33,g34,g35,g36,g37,g38,g39,g40,g41,g42,g43,g44,g45,g46,g47,g48,g49,g50,g51,w52,w53,w54,w55,w56,w57,w58,g59,g60,g61,g62,g63,g64,g65,g66,g67,g68,g69,g70,g71,g72,g73,g74,g75,g76,g77,g78,g79,g80,g81,g82,g83,g84,g85,g86] M) fun k => cond x52 (k (.bool true) undef undef undef undef (.bool true) (.bool true) M) (k (.bool false) (.slice Ax8 lx8 cx8) (.int .i64 ((lx8 : Int))) (.int .i64 x6) (.bool (((lx8 : Int)) != x6)) (.bool (((lx8 : Int)) != x6)) (.bool (((lx8 : Int)) != x6)) M) := by kernel_rfl
theorem r5_14p13 {x6 : Int} {Ax10 : Option Addr} {lx10 cx10 : Nat} {x58 : Bool} {M : Mem} {call : CallM} {K : Array Value → Mem → R} :
    segK Try.prog false call (O5 [1,1,0,1,0,0,1,0,0,1,1,0,0,1,0,0,1,1,1,1,0,0]) 13 5 #[g0,g1,g2,g3,g4,g5,.int .i64 x6,g7,g8,g9,.slice Ax10 lx10 cx10,g11,g12,g13,g14,g15,g16,g17,g18,g19,g20,g21,g22,g23,g24,g25,g26,g27,g28,g29,g30,g31,g32,g33,g34,g35,g36,g37,g38,g39,g40,g41,g42,g43,g44,g45,g46,g47,g48,g49,g50,g51,g52,g53,g54,g55,g56,g57,.bool x58,g59,g60,g61,g62,g63,g64,g65,g66,g67,g68,g69,g70,g71,g72,g73,g74,g75,g76,g77,g78,g79,g80,g81,g82,g83,g84,g85,g86] M K = withK (fun w58 w59 w60 w61 w62 w63 M => K #[g0,g1,g2,g3,g4,g5,.int .i64 x6,g7,g8,g9,.slice Ax10 lx10 cx10,g11,g12,g13,g14,g15,g16,g17,g18,g19,g20,g21,g22,g23,g24,g25,g26,g27,g28,g29,g30,g31,g32,g33,g34,g35,g36,g37,g38,g39,g40,g41,g42,g43,g44,g45,g46,g47,g48,g49,g50,g51,g52,g53,g54,g55,g56,g57,w58,w59,w60,w61,w62,w63,g64,g65,g66,g67,g68,g69,g70,g71,g72,g73,g74,g75,g76,g77,g78,g79,g80,g81,g82,g83,g84,g85,g86] M) fun k => cond x58 (k (.bool true) undef undef undef undef (.bool true) M) (k (.bool false) (.slice Ax10 lx10 cx10) (.int .i64 ((lx10 : Int))) (.int .i64 x6) (.bool (((lx10 : Int)) != x6)) (.bool (((lx10 : Int)) != x6)) M) := by kernel_rfl
theorem c5_54 : P5 [1,1,0,1,0,0,1,0,0,1,1,0,0,1,0,0,1,1,1,1,0,1] = .cond (.tmp 63) (P5 [1,1,0,1,0,0,1,0,0,1,1,0,0,1,0,0,1,1,1,1,0,1,0]) (P5 [1,1,0,1,0,0,1,0,0,1,1,0,0,1,0,0,1,1,1,1,0,1,1]) := by kernel_rfl
theorem k5_55 : P5 [1,1,0,1,0,0,1,0,0,1,1,0,0,1,0,0,1,1,1,1,0,1,0] = .seq (P5 [1,1,0,1,0,0,1,0,0,1,1,0,0,1,0,0,1,1,1,1,0,1,0,0]) (P5 [1,1,0,1,0,0,1,0,0,1,1,0,0,1,0,0,1,1,1,1,0,1,0,1]) := by kernel_rfl
theorem k5_56 : P5 [1,1,0,1,0,0,1,0,0,1,1,0,0,1,0,0,1,1,1,1,0,1,0,0] = .region 15 (O5 [1,1,0,1,0,0,1,0,0,1,1,0,0,1,0,0,1,1,1,1,0,1,0,0]) false := by kernel_rfl
theorem r5_15 {M : Mem} {call : CallM} {K : Array Value → Mem → R} :
    opsK Try.prog (fun _ => call) (O5 [1,1,0,1,0,0,1,0,0,1,1,0,0,1,0,0,1,1,1,1,0,1,0,0]) (O5 [1,1,0,1,0,0,1,0,0,1,1,0,0,1,0,0,1,1,1,1,0,1,0,0]).toList 0 #[g0,g1,g2,g3,g4,g5,g6,g7,g8,g9,g10,g11,g12,g13,g14,g15,g16,g17,g18,g19,g20,g21,g22,g23,g24,g25,g26,g27,g28,g29,g30,g31,g32,g33,g34,g35,g36,g37,g38,g39,g40,g41,g42,g43,g44,g45,g46,g47,g48,g49,g50,g51,g52,g53,g54,g55,g56,g57,g58,g59,g60,g61,g62,g63,g64,g65,g66,g67,g68,g69,g70,g71,g72,g73,g74,g75,g76,g77,g78,g79,g80,g81,g82,g83,g84,g85,g86] M K = K #[g0,g1,.bool false,g3,g4,g5,g6,g7,g8,g9,g10,g11,g12,g13,g14,g15,g16,g17,g18,g19,g20,g21,g22,g23,g24,g25,g26,g27,g28,g29,g30,g31,g32,g33,g34,g35,g36,g37,g38,g39,g40,g41,g42,g43,g44,g45,g46,g47,g48,g49,g50,g51,g52,g53,g54,g55,g56,g57,g58,g59,g60,g61,g62,g63,g64,g65,g66,g67,g68,g69,g70,g71,g72,g73,g74,g75,g76,g77,g78,g79,g80,g81,g82,g83,g84,g85,g86] M := by kernel_rfl
theorem k5_57 : P5 [1,1,0,1,0,0,1,0,0,1,1,0,0,1,0,0,1,1,1,1,0,1,0,1] = .ret := by kernel_rfl
theorem k5_58 : P5 [1,1,0,1,0,0,1,0,0,1,1,0,0,1,0,0,1,1,1,1,0,1,1] = .skip := by kernel_rfl
theorem k5_59 : P5 [1,1,0,1,0,0,1,0,0,1,1,0,0,1,0,0,1,1,1,1,1] = .seq (P5 [1,1,0,1,0,0,1,0,0,1,1,0,0,1,0,0,1,1,1,1,1,0]) (P5 [1,1,0,1,0,0,1,0,0,1,1,0,0,1,0,0,1,1,1,1,1,1]) := by kernel_rfl
theorem k5_60 : P5 [1,1,0,1,0,0,1,0,0,1,1,0,0,1,0,0,1,1,1,1,1,0] = .region 16 (O5 [1,1,0,1,0,0,1,0,0,1,1,0,0,1,0,0,1,1,1,1,1,0]) false := by kernel_rfl
theorem r5_16 {M : Mem} {call : CallM} {K : Array Value → Mem → R} :
    opsK Try.prog (fun _ => call) (O5 [1,1,0,1,0,0,1,0,0,1,1,0,0,1,0,0,1,1,1,1,1,0]) (O5 [1,1,0,1,0,0,1,0,0,1,1,0,0,1,0,0,1,1,1,1,1,0]).toList 0 #[g0,g1,g2,g3,g4,g5,g6,g7,g8,g9,g10,g11,g12,g13,g14,g15,g16,g17,g18,g19,g20,g21,g22,g23,g24,g25,g26,g27,g28,g29,g30,g31,g32,g33,g34,g35,g36,g37,g38,g39,g40,g41,g42,g43,g44,g45,g46,g47,g48,g49,g50,g51,g52,g53,g54,g55,g56,g57,g58,g59,g60,g61,g62,g63,g64,g65,g66,g67,g68,g69,g70,g71,g72,g73,g74,g75,g76,g77,g78,g79,g80,g81,g82,g83,g84,g85,g86] M K = K #[g0,g1,g2,g3,g4,g5,g6,g7,g8,g9,g10,g11,.int .i64 0,g13,g14,g15,g16,g17,g18,g19,g20,g21,g22,g23,g24,g25,g26,g27,g28,g29,g30,g31,g32,g33,g34,g35,g36,g37,g38,g39,g40,g41,g42,g43,g44,g45,g46,g47,g48,g49,g50,g51,g52,g53,g54,g55,g56,g57,g58,g59,g60,g61,g62,g63,g64,g65,g66,g67,g68,g69,g70,g71,g72,g73,g74,g75,g76,g77,g78,g79,g80,g81,g82,g83,g84,g85,g86] M := by kernel_rfl
theorem k5_61 : P5 [1,1,0,1,0,0,1,0,0,1,1,0,0,1,0,0,1,1,1,1,1,1] = .block 4 (P5 [1,1,0,1,0,0,1,0,0,1,1,0,0,1,0,0,1,1,1,1,1,1,0]) := by kernel_rfl
theorem k5_62 : P5 [1,1,0,1,0,0,1,0,0,1,1,0,0,1,0,0,1,1,1,1,1,1,0] = .loop (P5 [1,1,0,1,0,0,1,0,0,1,1,0,0,1,0,0,1,1,1,1,1,1,0,0]) := by kernel_rfl
theorem k5_63 : P5 [1,1,0,1,0,0,1,0,0,1,1,0,0,1,0,0,1,1,1,1,1,1,0,0] = .seq (P5 [1,1,0,1,0,0,1,0,0,1,1,0,0,1,0,0,1,1,1,1,1,1,0,0,0]) (P5 [1,1,0,1,0,0,1,0,0,1,1,0,0,1,0,0,1,1,1,1,1,1,0,0,1]) := by kernel_rfl
theorem k5_64 : P5 [1,1,0,1,0,0,1,0,0,1,1,0,0,1,0,0,1,1,1,1,1,1,0,0,0] = .seq (P5 [1,1,0,1,0,0,1,0,0,1,1,0,0,1,0,0,1,1,1,1,1,1,0,0,0,0]) (P5 [1,1,0,1,0,0,1,0,0,1,1,0,0,1,0,0,1,1,1,1,1,1,0,0,0,1]) := by kernel_rfl
theorem k5_65 : P5 [1,1,0,1,0,0,1,0,0,1,1,0,0,1,0,0,1,1,1,1,1,1,0,0,0,0] = .region 17 (O5 [1,1,0,1,0,0,1,0,0,1,1,0,0,1,0,0,1,1,1,1,1,1,0,0,0,0]) false := by kernel_rfl
theorem r5_17 {x6 x12 : Int} {M : Mem} {call : CallM} {K : Array Value → Mem → R} :
    opsK Try.prog (fun _ => call) (O5 [1,1,0,1,0,0,1,0,0,1,1,0,0,1,0,0,1,1,1,1,1,1,0,0,0,0]) (O5 [1,1,0,1,0,0,1,0,0,1,1,0,0,1,0,0,1,1,1,1,1,1,0,0,0,0]).toList 0 #[g0,g1,g2,g3,g4,g5,.int .i64 x6,g7,g8,g9,g10,g11,.int .i64 x12,g13,g14,g15,g16,g17,g18,g19,g20,g21,g22,g23,g24,g25,g26,g27,g28,g29,g30,g31,g32,g33,g34,g35,g36,g37,g38,g39,g40,g41,g42,g43,g44,g45,g46,g47,g48,g49,g50,g51,g52,g53,g54,g55,g56,g57,g58,g59,g60,g61,g62,g63,g64,g65,g66,g67,g68,g69,g70,g71,g72,g73,g74,g75,g76,g77,g78,g79,g80,g81,g82,g83,g84,g85,g86] M K = K #[g0,g1,g2,g3,g4,g5,.int .i64 x6,g7,g8,g9,g10,g11,.int .i64 x12,g13,g14,g15,g16,g17,g18,g19,g20,g21,g22,g23,g24,g25,g26,g27,g28,g29,g30,g31,g32,g33,g34,g35,g36,g37,g38,g39,g40,g41,g42,g43,g44,g45,g46,g47,g48,g49,g50,g51,g52,g53,g54,g55,g56,g57,g58,g59,g60,g61,g62,g63,.int .i64 x12,.int .i64 x6,.bool (decide (x12 < x6)),g67,g68,g69,g70,g71,g72,g73,g74,g75,g76,g77,g78,g79,g80,g81,g82,g83,g84,g85,g86] M := by kernel_rfl
theorem c5_66 : P5 [1,1,0,1,0,0,1,0,0,1,1,0,0,1,0,0,1,1,1,1,1,1,0,0,0,1] = .cond (.tmp 66) (P5 [1,1,0,1,0,0,1,0,0,1,1,0,0,1,0,0,1,1,1,1,1,1,0,0,0,1,0]) (P5 [1,1,0,1,0,0,1,0,0,1,1,0,0,1,0,0,1,1,1,1,1,1,0,0,0,1,1]) := by kernel_rfl
theorem k5_67 : P5 [1,1,0,1,0,0,1,0,0,1,1,0,0,1,0,0,1,1,1,1,1,1,0,0,0,1,0] = .skip := by kernel_rfl
theorem k5_68 : P5 [1,1,0,1,0,0,1,0,0,1,1,0,0,1,0,0,1,1,1,1,1,1,0,0,1] = .seq (P5 [1,1,0,1,0,0,1,0,0,1,1,0,0,1,0,0,1,1,1,1,1,1,0,0,1,0]) (P5 [1,1,0,1,0,0,1,0,0,1,1,0,0,1,0,0,1,1,1,1,1,1,0,0,1,1]) := by kernel_rfl
theorem k5_69 : P5 [1,1,0,1,0,0,1,0,0,1,1,0,0,1,0,0,1,1,1,1,1,1,0,0,1,0] = .block 5 (P5 [1,1,0,1,0,0,1,0,0,1,1,0,0,1,0,0,1,1,1,1,1,1,0,0,1,0,0]) := by kernel_rfl
theorem k5_70 : P5 [1,1,0,1,0,0,1,0,0,1,1,0,0,1,0,0,1,1,1,1,1,1,0,0,1,0,0] = .seq (P5 [1,1,0,1,0,0,1,0,0,1,1,0,0,1,0,0,1,1,1,1,1,1,0,0,1,0,0,0]) (P5 [1,1,0,1,0,0,1,0,0,1,1,0,0,1,0,0,1,1,1,1,1,1,0,0,1,0,0,1]) := by kernel_rfl
theorem k5_71 : P5 [1,1,0,1,0,0,1,0,0,1,1,0,0,1,0,0,1,1,1,1,1,1,0,0,1,0,0,0] = .region 19 (O5 [1,1,0,1,0,0,1,0,0,1,1,0,0,1,0,0,1,1,1,1,1,1,0,0,1,0,0,0]) true ∧ drawOk (O5 [1,1,0,1,0,0,1,0,0,1,1,0,0,1,0,0,1,1,1,1,1,1,0,0,1,0,0,0]) = true := ⟨by kernel_rfl, by kernel_rfl⟩
theorem r5_19 {x6 : Int} {Ax7 : Option Addr} {lx7 cx7 : Nat} {Ax10 : Option Addr} {lx10 cx10 : Nat} {x12 : Int} {M : Mem} {call : CallM} {K : Array Value → Mem → R} :
    opsI Try.prog (callAt call (O5 [1,1,0,1,0,0,1,0,0,1,1,0,0,1,0,0,1,1,1,1,1,1,0,0,1,0,0,0])) (O5 [1,1,0,1,0,0,1,0,0,1,1,0,0,1,0,0,1,1,1,1,1,1,0,0,1,0,0,0]) (ordOf (O5 [1,1,0,1,0,0,1,0,0,1,1,0,0,1,0,0,1,1,1,1,1,1,0,0,1,0,0,0])) [] #[g0,g1,g2,g3,g4,g5,.int .i64 x6,.slice Ax7 lx7 cx7,g8,g9,.slice Ax10 lx10 cx10,g11,.int .i64 x12,g13,g14,g15,g16,g17,g18,g19,g20,g21,g22,g23,g24,g25,g26,g27,g28,g29,g30,g31,g32,g33,g34,g35,g36,g37,g38,g39,g40,g41,g42,g43,g44,g45,g46,g47,g48,g49,g50,g51,g52,g53,g54,g55,g56,g57,g58,g59,g60,g61,g62,g63,g64,g65,g66,g67,g68,g69,g70,g71,g72,g73,g74,g75,g76,g77,g78,g79,g80,g81,g82,g83,g84,g85,g86] M K = (idxA Ax10 lx10 1 x12).bind fun a_1 => (M.intAt .i64 a_1.block a_1.off).bind fun x_2 => (idxA Ax7 lx7 1 x12).bind fun a_3 => (M.intAt .i64 a_3.block a_3.off).bind fun x_4 => (call 17 #[.int .i64 (IntKind.i64.wrap (x_2 - (IntKind.i64.wrap ((IntKind.i64.wrap (x_4 * x6)).tdiv 2))))] M).bind fun r_5 => (asI .i64 r_5.1).bind fun x_6 => K #[g0,g1,g2,g3,g4,g5,.int .i64 x6,.slice Ax7 lx7 cx7,g8,g9,.slice Ax10 lx10 cx10,g11,.int .i64 x12,g13,g14,g15,g16,g17,g18,g19,g20,g21,g22,g23,g24,g25,g26,g27,g28,g29,g30,g31,g32,g33,g34,g35,g36,g37,g38,g39,g40,g41,g42,g43,g44,g45,g46,g47,g48,g49,g50,g51,g52,g53,g54,g55,g56,g57,g58,g59,g60,g61,g62,g63,g64,g65,g66,g67,g68,.slice Ax10 lx10 cx10,.int .i64 x12,.pointer (some a_1),.int .i64 x_2,.slice Ax7 lx7 cx7,.int .i64 x12,.pointer (some a_3),.int .i64 x_4,.int .i64 x6,.int .i64 (IntKind.i64.wrap (x_4 * x6)),.int .i64 (IntKind.i64.wrap ((IntKind.i64.wrap (x_4 * x6)).tdiv 2)),.int .i64 (IntKind.i64.wrap (x_2 - (IntKind.i64.wrap ((IntKind.i64.wrap (x_4 * x6)).tdiv 2)))),.int .i64 x_6,.int .i64 x6,.int .i64 x6,.int .i64 (IntKind.i64.wrap (x6 * x6)),.int .i64 (IntKind.i64.wrap ((IntKind.i64.wrap (x6 * x6)).tdiv 2)),.bool (decide (x_6 > (IntKind.i64.wrap ((IntKind.i64.wrap (x6 * x6)).tdiv 2))))] r_5.2 := by kernel_rfl
theorem c5_72 : P5 [1,1,0,1,0,0,1,0,0,1,1,0,0,1,0,0,1,1,1,1,1,1,0,0,1,0,0,1] = .cond (.tmp 86) (P5 [1,1,0,1,0,0,1,0,0,1,1,0,0,1,0,0,1,1,1,1,1,1,0,0,1,0,0,1,0]) (P5 [1,1,0,1,0,0,1,0,0,1,1,0,0,1,0,0,1,1,1,1,1,1,0,0,1,0,0,1,1]) := by kernel_rfl
theorem k5_73 : P5 [1,1,0,1,0,0,1,0,0,1,1,0,0,1,0,0,1,1,1,1,1,1,0,0,1,0,0,1,0] = .seq (P5 [1,1,0,1,0,0,1,0,0,1,1,0,0,1,0,0,1,1,1,1,1,1,0,0,1,0,0,1,0,0]) (P5 [1,1,0,1,0,0,1,0,0,1,1,0,0,1,0,0,1,1,1,1,1,1,0,0,1,0,0,1,0,1]) := by kernel_rfl
theorem k5_74 : P5 [1,1,0,1,0,0,1,0,0,1,1,0,0,1,0,0,1,1,1,1,1,1,0,0,1,0,0,1,0,0] = .region 20 (O5 [1,1,0,1,0,0,1,0,0,1,1,0,0,1,0,0,1,1,1,1,1,1,0,0,1,0,0,1,0,0]) false := by kernel_rfl
theorem r5_20 {M : Mem} {call : CallM} {K : Array Value → Mem → R} :
    opsK Try.prog (fun _ => call) (O5 [1,1,0,1,0,0,1,0,0,1,1,0,0,1,0,0,1,1,1,1,1,1,0,0,1,0,0,1,0,0]) (O5 [1,1,0,1,0,0,1,0,0,1,1,0,0,1,0,0,1,1,1,1,1,1,0,0,1,0,0,1,0,0]).toList 0 #[g0,g1,g2,g3,g4,g5,g6,g7,g8,g9,g10,g11,g12,g13,g14,g15,g16,g17,g18,g19,g20,g21,g22,g23,g24,g25,g26,g27,g28,g29,g30,g31,g32,g33,g34,g35,g36,g37,g38,g39,g40,g41,g42,g43,g44,g45,g46,g47,g48,g49,g50,g51,g52,g53,g54,g55,g56,g57,g58,g59,g60,g61,g62,g63,g64,g65,g66,g67,g68,g69,g70,g71,g72,g73,g74,g75,g76,g77,g78,g79,g80,g81,g82,g83,g84,g85,g86] M K = K #[g0,g1,.bool false,g3,g4,g5,g6,g7,g8,g9,g10,g11,g12,g13,g14,g15,g16,g17,g18,g19,g20,g21,g22,g23,g24,g25,g26,g27,g28,g29,g30,g31,g32,g33,g34,g35,g36,g37,g38,g39,g40,g41,g42,g43,g44,g45,g46,g47,g48,g49,g50,g51,g52,g53,g54,g55,g56,g57,g58,g59,g60,g61,g62,g63,g64,g65,g66,g67,g68,g69,g70,g71,g72,g73,g74,g75,g76,g77,g78,g79,g80,g81,g82,g83,g84,g85,g86] M := by kernel_rfl
theorem k5_75 : P5 [1,1,0,1,0,0,1,0,0,1,1,0,0,1,0,0,1,1,1,1,1,1,0,0,1,0,0,1,0,1] = .ret := by kernel_rfl
theorem k5_76 : P5 [1,1,0,1,0,0,1,0,0,1,1,0,0,1,0,0,1,1,1,1,1,1,0,0,1,0,0,1,1] = .skip := by kernel_rfl
theorem k5_77 : P5 [1,1,0,1,0,0,1,0,0,1,1,0,0,1,0,0,1,1,1,1,1,1,0,0,1,1] = .region 18 (O5 [1,1,0,1,0,0,1,0,0,1,1,0,0,1,0,0,1,1,1,1,1,1,0,0,1,1]) false := by kernel_rfl
theorem r5_18 {x12 : Int} {M : Mem} {call : CallM} {K : Array Value → Mem → R} :
    opsK Try.prog (fun _ => call) (O5 [1,1,0,1,0,0,1,0,0,1,1,0,0,1,0,0,1,1,1,1,1,1,0,0,1,1]) (O5 [1,1,0,1,0,0,1,0,0,1,1,0,0,1,0,0,1,1,1,1,1,1,0,0,1,1]).toList 0 #[g0,g1,g2,g3,g4,g5,g6,g7,g8,g9,g10,g11,.int .i64 x12,g13,g14,g15,g16,g17,g18,g19,g20,g21,g22,g23,g24,g25,g26,g27,g28,g29,g30,g31,g32,g33,g34,g35,g36,g37,g38,g39,g40,g41,g42,g43,g44,g45,g46,g47,g48,g49,g50,g51,g52,g53,g54,g55,g56,g57,g58,g59,g60,g61,g62,g63,g64,g65,g66,g67,g68,g69,g70,g71,g72,g73,g74,g75,g76,g77,g78,g79,g80,g81,g82,g83,g84,g85,g86] M K = K #[g0,g1,g2,g3,g4,g5,g6,g7,g8,g9,g10,g11,.int .i64 (IntKind.i64.wrap (x12 + 1)),g13,g14,g15,g16,g17,g18,g19,g20,g21,g22,g23,g24,g25,g26,g27,g28,g29,g30,g31,g32,g33,g34,g35,g36,g37,g38,g39,g40,g41,g42,g43,g44,g45,g46,g47,g48,g49,g50,g51,g52,g53,g54,g55,g56,g57,g58,g59,g60,g61,g62,g63,g64,g65,g66,.int .i64 x12,.int .i64 (IntKind.i64.wrap (x12 + 1)),g69,g70,g71,g72,g73,g74,g75,g76,g77,g78,g79,g80,g81,g82,g83,g84,g85,g86] M := by kernel_rfl
theorem k5_78 : P5 [1,1,0,1,0,0,1,0,0,1,1,0,0,1,0,0,1,1,1,1,1,1,0,0,0,1,1] = .exit 4 := by kernel_rfl
theorem k5_79 : P5 [1,1,0,1,0,0,1,0,0,1,1,0,0,1,1] = .region 9 (O5 [1,1,0,1,0,0,1,0,0,1,1,0,0,1,1]) false := by kernel_rfl
theorem r5_9 {x5 : Int} {M : Mem} {call : CallM} {K : Array Value → Mem → R} :
    opsK Try.prog (fun _ => call) (O5 [1,1,0,1,0,0,1,0,0,1,1,0,0,1,1]) (O5 [1,1,0,1,0,0,1,0,0,1,1,0,0,1,1]).toList 0 #[g0,g1,g2,g3,g4,.int .i64 x5,g6,g7,g8,g9,g10,g11,g12,g13,g14,g15,g16,g17,g18,g19,g20,g21,g22,g23,g24,g25,g26,g27,g28,g29,g30,g31,g32,g33,g34,g35,g36,g37,g38,g39,g40,g41,g42,g43,g44,g45,g46,g47,g48,g49,g50,g51,g52,g53,g54,g55,g56,g57,g58,g59,g60,g61,g62,g63,g64,g65,g66,g67,g68,g69,g70,g71,g72,g73,g74,g75,g76,g77,g78,g79,g80,g81,g82,g83,g84,g85,g86] M K = K #[g0,g1,g2,g3,g4,.int .i64 (IntKind.i64.wrap (x5 + 1)),g6,g7,g8,g9,g10,g11,g12,g13,g14,g15,g16,g17,g18,g19,g20,g21,g22,g23,g24,.int .i64 x5,.int .i64 (IntKind.i64.wrap (x5 + 1)),g27,g28,g29,g30,g31,g32,g33,g34,g35,g36,g37,g38,g39,g40,g41,g42,g43,g44,g45,g46,g47,g48,g49,g50,g51,g52,g53,g54,g55,g56,g57,g58,g59,g60,g61,g62,g63,g64,g65,g66,g67,g68,g69,g70,g71,g72,g73,g74,g75,g76,g77,g78,g79,g80,g81,g82,g83,g84,g85,g86] M := by kernel_rfl
noncomputable def S5_1 : List Item := [.code (P5 [1,1,0,1,0,0]), .inLoop (P5 [1,1,0,1,0,0]), .inBlock 0, .code (P5 [1,1,1])]
def A5_1 (Ax0 : Option Addr) (lx0 cx0 : Nat) (x3 : Int) (M : Mem) (Q : Value → Mem → Prop) : Prop := ∀ (g1 g2 g4 g5 g6 g7 g8 g9 g10 g11 g12 g13 g14 g15 g16 g17 g18 g19 g20 g21 g22 g23 g24 g25 g26 g27 g28 g29 g30 g31 g32 g33 g34 g35 g36 g37 g38 g39 g40 g41 g42 g43 g44 g45 g46 g47 g48 g49 g50 g51 g52 g53 g54 g55 g56 g57 g58 g59 g60 g61 g62 g63 g64 g65 g66 g67 g68 g69 g70 g71 g72 g73 g74 g75 g76 g77 g78 g79 g80 g81 g82 g83 g84 g85 g86 : Value), Rn Try.prog Try.f5 S5_1 #[.slice Ax0 lx0 cx0, g1, g2, .int .i64 x3, g4, g5, g6, g7, g8, g9, g10, g11, g12, g13, g14, g15, g16, g17, g18, g19, g20, g21, g22, g23, g24, g25, g26, g27, g28, g29, g30, g31, g32, g33, g34, g35, g36, g37, g38, g39, g40, g41, g42, g43, g44, g45, g46, g47, g48, g49, g50, g51, g52, g53, g54, g55, g56, g57, g58, g59, g60, g61, g62, g63, g64, g65, g66, g67, g68, g69, g70, g71, g72, g73, g74, g75, g76, g77, g78, g79, g80, g81, g82, g83, g84, g85, g86] M Q
noncomputable def S5_2 : List Item := [.code (P5 [1,1,0,1,0,0,1,0,0,1,1,0,0]), .inLoop (P5 [1,1,0,1,0,0,1,0,0,1,1,0,0]), .inBlock 2, .inBlock 1, .code (P5 [1,1,0,1,0,0,1,1]), .inLoop (P5 [1,1,0,1,0,0]), .inBlock 0, .code (P5 [1,1,1])]
def A5_2 (Ax0 : Option Addr) (lx0 cx0 : Nat) (x3 : Int) (Ax4 : Option Addr) (lx4 cx4 : Nat) (x5 : Int) (M : Mem) (Q : Value → Mem → Prop) : Prop := ∀ (g1 g2 g6 g7 g8 g9 g10 g11 g12 g13 g14 g15 g16 g17 g18 g19 g20 g21 g22 g23 g24 g25 g26 g27 g28 g29 g30 g31 g32 g33 g34 g35 g36 g37 g38 g39 g40 g41 g42 g43 g44 g45 g46 g47 g48 g49 g50 g51 g52 g53 g54 g55 g56 g57 g58 g59 g60 g61 g62 g63 g64 g65 g66 g67 g68 g69 g70 g71 g72 g73 g74 g75 g76 g77 g78 g79 g80 g81 g82 g83 g84 g85 g86 : Value), Rn Try.prog Try.f5 S5_2 #[.slice Ax0 lx0 cx0, g1, g2, .int .i64 x3, .slice Ax4 lx4 cx4, .int .i64 x5, g6, g7, g8, g9, g10, g11, g12, g13, g14, g15, g16, g17, g18, g19, g20, g21, g22, g23, g24, g25, g26, g27, g28, g29, g30, g31, g32, g33, g34, g35, g36, g37, g38, g39, g40, g41, g42, g43, g44, g45, g46, g47, g48, g49, g50, g51, g52, g53, g54, g55, g56, g57, g58, g59, g60, g61, g62, g63, g64, g65, g66, g67, g68, g69, g70, g71, g72, g73, g74, g75, g76, g77, g78, g79, g80, g81, g82, g83, g84, g85, g86] M Q
noncomputable def S5_3 : List Item := [.code (P5 [1,1,0,1,0,0,1,0,0,1,1,0,0,1,0,0,1,1,1,1,0,1]), .code (P5 [1,1,0,1,0,0,1,0,0,1,1,0,0,1,0,0,1,1,1,1,1]), .inBlock 3, .code (P5 [1,1,0,1,0,0,1,0,0,1,1,0,0,1,1]), .inLoop (P5 [1,1,0,1,0,0,1,0,0,1,1,0,0]), .inBlock 2, .inBlock 1, .code (P5 [1,1,0,1,0,0,1,1]), .inLoop (P5 [1,1,0,1,0,0]), .inBlock 0, .code (P5 [1,1,1])]
def A5_3 (Ax0 : Option Addr) (lx0 cx0 : Nat) (x3 : Int) (Ax4 : Option Addr) (lx4 cx4 : Nat) (x5 x6 : Int) (Ax7 : Option Addr) (lx7 cx7 : Nat) (Ax8 : Option Addr) (lx8 cx8 : Nat) (Ax10 : Option Addr) (lx10 cx10 : Nat) (x52 : Bool) (M : Mem) (Q : Value → Mem → Prop) : Prop := ∀ (g1 g2 g9 g11 g12 g13 g14 g15 g16 g17 g18 g19 g20 g21 g22 g23 g24 g25 g26 g27 g28 g29 g30 g31 g32 g33 g34 g35 g36 g37 g38 g39 g40 g41 g42 g43 g44 g45 g46 g47 g48 g49 g50 g51 g53 g54 g55 g56 g57 g58 g59 g60 g61 g62 g63 g64 g65 g66 g67 g68 g69 g70 g71 g72 g73 g74 g75 g76 g77 g78 g79 g80 g81 g82 g83 g84 g85 g86 : Value), Rg Try.prog Try.f5 (O5 [1,1,0,1,0,0,1,0,0,1,1,0,0,1,0,0,1,1,1,1,0,0]) false 7 S5_3 #[.slice Ax0 lx0 cx0, g1, g2, .int .i64 x3, .slice Ax4 lx4 cx4, .int .i64 x5, .int .i64 x6, .slice Ax7 lx7 cx7, .slice Ax8 lx8 cx8, g9, .slice Ax10 lx10 cx10, g11, g12, g13, g14, g15, g16, g17, g18, g19, g20, g21, g22, g23, g24, g25, g26, g27, g28, g29, g30, g31, g32, g33, g34, g35, g36, g37, g38, g39, g40, g41, g42, g43, g44, g45, g46, g47, g48, g49, g50, g51, .bool x52, g53, g54, g55, g56, g57, g58, g59, g60, g61, g62, g63, g64, g65, g66, g67, g68, g69, g70, g71, g72, g73, g74, g75, g76, g77, g78, g79, g80, g81, g82, g83, g84, g85, g86] M Q
noncomputable def S5_4 : List Item := [.code (P5 [1,1,0,1,0,0,1,0,0,1,1,0,0,1,0,0,1,1,1,1,0,1]), .code (P5 [1,1,0,1,0,0,1,0,0,1,1,0,0,1,0,0,1,1,1,1,1]), .inBlock 3, .code (P5 [1,1,0,1,0,0,1,0,0,1,1,0,0,1,1]), .inLoop (P5 [1,1,0,1,0,0,1,0,0,1,1,0,0]), .inBlock 2, .inBlock 1, .code (P5 [1,1,0,1,0,0,1,1]), .inLoop (P5 [1,1,0,1,0,0]), .inBlock 0, .code (P5 [1,1,1])]
def A5_4 (Ax0 : Option Addr) (lx0 cx0 : Nat) (x3 : Int) (Ax4 : Option Addr) (lx4 cx4 : Nat) (x5 x6 : Int) (Ax7 : Option Addr) (lx7 cx7 : Nat) (Ax10 : Option Addr) (lx10 cx10 : Nat) (x58 : Bool) (M : Mem) (Q : Value → Mem → Prop) : Prop := ∀ (g1 g2 g8 g9 g11 g12 g13 g14 g15 g16 g17 g18 g19 g20 g21 g22 g23 g24 g25 g26 g27 g28 g29 g30 g31 g32 g33 g34 g35 g36 g37 g38 g39 g40 g41 g42 g43 g44 g45 g46 g47 g48 g49 g50 g51 g52 g53 g54 g55 g56 g57 g59 g60 g61 g62 g63 g64 g65 g66 g67 g68 g69 g70 g71 g72 g73 g74 g75 g76 g77 g78 g79 g80 g81 g82 g83 g84 g85 g86 : Value), Rg Try.prog Try.f5 (O5 [1,1,0,1,0,0,1,0,0,1,1,0,0,1,0,0,1,1,1,1,0,0]) false 13 S5_4 #[.slice Ax0 lx0 cx0, g1, g2, .int .i64 x3, .slice Ax4 lx4 cx4, .int .i64 x5, .int .i64 x6, .slice Ax7 lx7 cx7, g8, g9, .slice Ax10 lx10 cx10, g11, g12, g13, g14, g15, g16, g17, g18, g19, g20, g21, g22, g23, g24, g25, g26, g27, g28, g29, g30, g31, g32, g33, g34, g35, g36, g37, g38, g39, g40, g41, g42, g43, g44, g45, g46, g47, g48, g49, g50, g51, g52, g53, g54, g55, g56, g57, .bool x58, g59, g60, g61, g62, g63, g64, g65, g66, g67, g68, g69, g70, g71, g72, g73, g74, g75, g76, g77, g78, g79, g80, g81, g82, g83, g84, g85, g86] M Q
noncomputable def S5_5 : List Item := [.code (P5 [1,1,0,1,0,0,1,0,0,1,1,0,0,1,0,0,1,1,1,1,0,1]), .code (P5 [1,1,0,1,0,0,1,0,0,1,1,0,0,1,0,0,1,1,1,1,1]), .inBlock 3, .code (P5 [1,1,0,1,0,0,1,0,0,1,1,0,0,1,1]), .inLoop (P5 [1,1,0,1,0,0,1,0,0,1,1,0,0]), .inBlock 2, .inBlock 1, .code (P5 [1,1,0,1,0,0,1,1]), .inLoop (P5 [1,1,0,1,0,0]), .inBlock 0, .code (P5 [1,1,1])]
def A5_5 (Ax0 : Option Addr) (lx0 cx0 : Nat) (x3 : Int) (Ax4 : Option Addr) (lx4 cx4 : Nat) (x5 x6 : Int) (Ax7 : Option Addr) (lx7 cx7 : Nat) (Ax10 : Option Addr) (lx10 cx10 : Nat) (x63 : Bool) (M : Mem) (Q : Value → Mem → Prop) : Prop := ∀ (g1 g2 g8 g9 g11 g12 g13 g14 g15 g16 g17 g18 g19 g20 g21 g22 g23 g24 g25 g26 g27 g28 g29 g30 g31 g32 g33 g34 g35 g36 g37 g38 g39 g40 g41 g42 g43 g44 g45 g46 g47 g48 g49 g50 g51 g52 g53 g54 g55 g56 g57 g58 g59 g60 g61 g62 g64 g65 g66 g67 g68 g69 g70 g71 g72 g73 g74 g75 g76 g77 g78 g79 g80 g81 g82 g83 g84 g85 g86 : Value), Rn Try.prog Try.f5 S5_5 #[.slice Ax0 lx0 cx0, g1, g2, .int .i64 x3, .slice Ax4 lx4 cx4, .int .i64 x5, .int .i64 x6, .slice Ax7 lx7 cx7, g8, g9, .slice Ax10 lx10 cx10, g11, g12, g13, g14, g15, g16, g17, g18, g19, g20, g21, g22, g23, g24, g25, g26, g27, g28, g29, g30, g31, g32, g33, g34, g35, g36, g37, g38, g39, g40, g41, g42, g43, g44, g45, g46, g47, g48, g49, g50, g51, g52, g53, g54, g55, g56, g57, g58, g59, g60, g61, g62, .bool x63, g64, g65, g66, g67, g68, g69, g70, g71, g72, g73, g74, g75, g76, g77, g78, g79, g80, g81, g82, g83, g84, g85, g86] M Q
noncomputable def S5_6 : List Item := [.code (P5 [1,1,0,1,0,0,1,0,0,1,1,0,0,1,0,0,1,1,1,1,1,1,0,0]), .inLoop (P5 [1,1,0,1,0,0,1,0,0,1,1,0,0,1,0,0,1,1,1,1,1,1,0,0]), .inBlock 4, .inBlock 3, .code (P5 [1,1,0,1,0,0,1,0,0,1,1,0,0,1,1]), .inLoop (P5 [1,1,0,1,0,0,1,0,0,1,1,0,0]), .inBlock 2, .inBlock 1, .code (P5 [1,1,0,1,0,0,1,1]), .inLoop (P5 [1,1,0,1,0,0]), .inBlock 0, .code (P5 [1,1,1])]
def A5_6 (Ax0 : Option Addr) (lx0 cx0 : Nat) (x3 : Int) (Ax4 : Option Addr) (lx4 cx4 : Nat) (x5 x6 : Int) (Ax7 : Option Addr) (lx7 cx7 : Nat) (Ax10 : Option Addr) (lx10 cx10 : Nat) (x12 : Int) (M : Mem) (Q : Value → Mem → Prop) : Prop := ∀ (g1 g2 g8 g9 g11 g13 g14 g15 g16 g17 g18 g19 g20 g21 g22 g23 g24 g25 g26 g27 g28 g29 g30 g31 g32 g33 g34 g35 g36 g37 g38 g39 g40 g41 g42 g43 g44 g45 g46 g47 g48 g49 g50 g51 g52 g53 g54 g55 g56 g57 g58 g59 g60 g61 g62 g63 g64 g65 g66 g67 g68 g69 g70 g71 g72 g73 g74 g75 g76 g77 g78 g79 g80 g81 g82 g83 g84 g85 g86 : Value), Rn Try.prog Try.f5 S5_6 #[.slice Ax0 lx0 cx0, g1, g2, .int .i64 x3, .slice Ax4 lx4 cx4, .int .i64 x5, .int .i64 x6, .slice Ax7 lx7 cx7, g8, g9, .slice Ax10 lx10 cx10, g11, .int .i64 x12, g13, g14, g15, g16, g17, g18, g19, g20, g21, g22, g23, g24, g25, g26, g27, g28, g29, g30, g31, g32, g33, g34, g35, g36, g37, g38, g39, g40, g41, g42, g43, g44, g45, g46, g47, g48, g49, g50, g51, g52, g53, g54, g55, g56, g57, g58, g59, g60, g61, g62, g63, g64, g65, g66, g67, g68, g69, g70, g71, g72, g73, g74, g75, g76, g77, g78, g79, g80, g81, g82, g83, g84, g85, g86] M Q
theorem w5_0 {Ax0 : Option Addr} {lx0 cx0 : Nat} {M : Mem} {Q : Value → Mem → Prop} (H :
    Cn Try.prog 11 #[] M fun v1' N1' =>
     ∃ b2', asB v1' = some b2' ∧
     (((!b2') = true →
      Q (.bool false) N1') ∧
      ((!b2') = false →
      A5_1 Ax0 lx0 cx0 0 N1' Q))) :
    Cn Try.prog 5 #[.slice Ax0 lx0 cx0] M Q := by
  refine Cn.of b5 d5 t5 ?_
  refine Rn.seq k5_0 (Rn.region k5_1 (fun call K => r5_0) (Rch.leaf (Rn.seq k5_2 (Rn.seq k5_3 (Rn.region k5_4 (fun call K => r5_1) (Rch.call H fun v1' N1' H => Rch.ex H fun b2' H => Rch.leaf ?_))))))
  refine Rn.cnd (v := !b2') ⟨c5_5, rfl, by kernel_rfl⟩ (fun h => ?_) (fun h => ?_)
  · replace H := H.1 (h)
    refine Rn.seq k5_6 (Rn.region k5_7 (fun call K => r5_2) (Rch.leaf ?_))
    exact Rn.ret k5_8 e5 H
  · replace H := H.2 (h)
    refine Rn.skip k5_10 (Rn.seq k5_11 (Rn.seq k5_12 (Rn.region k5_13 (fun call K => r5_3) (Rch.leaf (Rn.block k5_14 (Rn.loop k5_15 ?_))))))
    exact H _ _ _ _ _ _ _ _ _ _ _ _ _ _ _ _ _ _ _ _ _ _ _ _ _ _ _ _ _ _ _ _ _ _ _ _ _ _ _ _ _ _ _ _ _ _ _ _ _ _ _ _ _ _ _ _ _ _ _ _ _ _ _ _ _ _ _ _ _ _ _ _ _ _ _ _ _ _ _ _ _ _ _ _ _

theorem w5_1 {Ax0 : Option Addr} {lx0 cx0 : Nat} {x3 : Int} {M : Mem} {Q : Value → Mem → Prop} (H :
    ((x3 < 3 →
     Cn Try.prog 16 #[.int .i64 x3] M fun v3' N3' =>
      ∃ s4', asS v3' = some s4' ∧
      A5_2 Ax0 lx0 cx0 x3 s4'.1 s4'.2.1 s4'.2.2 0 N3' Q) ∧
     (¬ (x3 < 3) →
     Q (.bool true) M))) :
    A5_1 Ax0 lx0 cx0 x3 M Q := by
  intro g1 g2 g4 g5 g6 g7 g8 g9 g10 g11 g12 g13 g14 g15 g16 g17 g18 g19 g20 g21 g22 g23 g24 g25 g26 g27 g28 g29 g30 g31 g32 g33 g34 g35 g36 g37 g38 g39 g40 g41 g42 g43 g44 g45 g46 g47 g48 g49 g50 g51 g52 g53 g54 g55 g56 g57 g58 g59 g60 g61 g62 g63 g64 g65 g66 g67 g68 g69 g70 g71 g72 g73 g74 g75 g76 g77 g78 g79 g80 g81 g82 g83 g84 g85 g86
  refine Rn.seq k5_16 (Rn.seq k5_17 (Rn.region k5_18 (fun call K => r5_4) (Rch.leaf ?_)))
  refine Rn.cnd (v := decide (x3 < 3)) ⟨c5_19, rfl, by kernel_rfl⟩ (fun h => ?_) (fun h => ?_)
  · replace H := H.1 (of_decide_eq_true h)
    refine Rn.skip k5_20 (Rn.seq k5_21 (Rn.block k5_22 (Rn.seq k5_23 (Rn.region k5_24 (fun call K => r5_6) (Rch.call H fun v3' N3' H => Rch.ex H fun s4' H => Rch.leaf (Rn.seq k5_25 (Rn.region k5_26 (fun call K => r5_7) (Rch.leaf (Rn.block k5_27 ?_)))))))))
    refine Rn.loop k5_28 ?_
    exact H _ _ _ _ _ _ _ _ _ _ _ _ _ _ _ _ _ _ _ _ _ _ _ _ _ _ _ _ _ _ _ _ _ _ _ _ _ _ _ _ _ _ _ _ _ _ _ _ _ _ _ _ _ _ _ _ _ _ _ _ _ _ _ _ _ _ _ _ _ _ _ _ _ _ _ _ _ _ _ _ _ _ _
  · replace H := H.2 (of_decide_eq_false h)
    refine Rn.exit k5_29 rfl (Rn.seq k5_30 (Rn.region k5_31 (fun call K => r5_21) (Rch.leaf ?_)))
    exact Rn.ret k5_32 e5 H

theorem w5_2 {Ax0 : Option Addr} {lx0 cx0 : Nat} {x3 : Int} {Ax4 : Option Addr} {lx4 cx4 : Nat} {x5 : Int} {M : Mem} {Q : Value → Mem → Prop} (H :
    ((x5 < ((lx4 : Int)) →
     ∃ a5', idxA Ax4 lx4 1 x5 = some a5' ∧
     ∃ x6', M.intAt .i64 a5'.block a5'.off = some x6' ∧
     Cn Try.prog 12 #[.slice Ax0 lx0 cx0, .int .i64 x6', .int .i64 1023] M fun v7' N7' =>
      ∃ s8', asS v7' = some s8' ∧
      Cn Try.prog 13 #[.int .i64 x3, .slice s8'.1 s8'.2.1 s8'.2.2] N7' fun v9' N9' =>
       ∃ cs10', asU 2 v9' = some cs10' ∧
       ∃ s11', asS (cs10'.getD 0 undef) = some s11' ∧
       ∃ x12', asI .i64 (cs10'.getD 1 undef) = some x12' ∧
       Cn Try.prog 14 #[.int .i64 x3, .slice s11'.1 s11'.2.1 s11'.2.2] N9' fun v13' N13' =>
        ∃ cs14', asU 2 v13' = some cs14' ∧
        ∃ s15', asS (cs14'.getD 0 undef) = some s15' ∧
        ∃ x16', asI .i64 (cs14'.getD 1 undef) = some x16' ∧
        ((x12' ≠ 0 →
         A5_3 Ax0 lx0 cx0 x3 Ax4 lx4 cx4 x5 x6' s8'.1 s8'.2.1 s8'.2.2 s11'.1 s11'.2.1 s11'.2.2 s15'.1 s15'.2.1 s15'.2.2 true N13' Q) ∧
         (x12' = 0 →
         A5_3 Ax0 lx0 cx0 x3 Ax4 lx4 cx4 x5 x6' s8'.1 s8'.2.1 s8'.2.2 s11'.1 s11'.2.1 s11'.2.2 s15'.1 s15'.2.1 s15'.2.2 (x16' != 0) N13' Q))) ∧
     (¬ (x5 < ((lx4 : Int))) →
     A5_1 Ax0 lx0 cx0 (IntKind.i64.wrap (x3 + 1)) M Q))) :
    A5_2 Ax0 lx0 cx0 x3 Ax4 lx4 cx4 x5 M Q := by
  intro g1 g2 g6 g7 g8 g9 g10 g11 g12 g13 g14 g15 g16 g17 g18 g19 g20 g21 g22 g23 g24 g25 g26 g27 g28 g29 g30 g31 g32 g33 g34 g35 g36 g37 g38 g39 g40 g41 g42 g43 g44 g45 g46 g47 g48 g49 g50 g51 g52 g53 g54 g55 g56 g57 g58 g59 g60 g61 g62 g63 g64 g65 g66 g67 g68 g69 g70 g71 g72 g73 g74 g75 g76 g77 g78 g79 g80 g81 g82 g83 g84 g85 g86
  refine Rn.seq k5_33 (Rn.seq k5_34 (Rn.region k5_35 (fun call K => r5_8) (Rch.leaf ?_)))
  refine Rn.cnd (v := decide (x5 < ((lx4 : Int)))) ⟨c5_36, rfl, by kernel_rfl⟩ (fun h => ?_) (fun h => ?_)
  · replace H := H.1 (of_decide_eq_true h)
    refine Rn.skip k5_37 (Rn.seq k5_38 (Rn.block k5_39 (Rn.seq k5_40 (Rn.region k5_41 (fun call K => r5_10) (Rch.ex H fun a5' H => Rch.ex H fun x6' H => Rch.leaf (Rn.seq k5_42 (Rn.region k5_43 (fun call K => r5_11) (Rch.call H fun v7' N7' H => Rch.ex H fun s8' H => ?_))))))))
    refine Rch.leaf (Rn.seq k5_44 (Rn.region k5_45 (fun call K => r5_12) (Rch.call H fun v9' N9' H => Rch.ex H fun cs10' H => Rch.ex H fun s11' H => Rch.ex H fun x12' H => Rch.leaf (Rn.seq k5_46 (Rn.region k5_47 (fun call K => r5_13) (Rch.call H fun v13' N13' H => Rch.ex H fun cs14' H => ?_))))))
    refine Rch.ex H fun s15' H => Rch.ex H fun x16' H => Rch.leaf (Rn.seq k5_48 (Rn.seq k5_49 (Rn.regionC k5_51 (Rg.step (d := 7) (j := 7) (fun call K => r5_14p0) rfl rfl ?_))))
    refine Rch.cB (fun h => ?_) (fun h => ?_)
    · replace H := H.1 (ne_of_bneT h)
      refine Rch.rest ?_
      exact H _ _ _ _ _ _ _ _ _ _ _ _ _ _ _ _ _ _ _ _ _ _ _ _ _ _ _ _ _ _ _ _ _ _ _ _ _ _ _ _ _ _ _ _ _ _ _ _ _ _ _ _ _ _ _ _ _ _ _ _ _ _ _ _ _ _ _ _ _ _ _ _ _ _ _ _ _ _
    · replace H := H.2 (eq_of_bneF h)
      refine Rch.rest ?_
      exact H _ _ _ _ _ _ _ _ _ _ _ _ _ _ _ _ _ _ _ _ _ _ _ _ _ _ _ _ _ _ _ _ _ _ _ _ _ _ _ _ _ _ _ _ _ _ _ _ _ _ _ _ _ _ _ _ _ _ _ _ _ _ _ _ _ _ _ _ _ _ _ _ _ _ _ _ _ _
  · replace H := H.2 (of_decide_eq_false h)
    refine Rn.exit k5_52 rfl (Rn.blk (Rn.region k5_53 (fun call K => r5_5) (Rch.leaf (Rn.lp ?_))))
    exact H _ _ _ _ _ _ _ _ _ _ _ _ _ _ _ _ _ _ _ _ _ _ _ _ _ _ _ _ _ _ _ _ _ _ _ _ _ _ _ _ _ _ _ _ _ _ _ _ _ _ _ _ _ _ _ _ _ _ _ _ _ _ _ _ _ _ _ _ _ _ _ _ _ _ _ _ _ _ _ _ _ _ _ _ _

theorem w5_3 {Ax0 : Option Addr} {lx0 cx0 : Nat} {x3 : Int} {Ax4 : Option Addr} {lx4 cx4 : Nat} {x5 x6 : Int} {Ax7 : Option Addr} {lx7 cx7 : Nat} {Ax8 : Option Addr} {lx8 cx8 : Nat} {Ax10 : Option Addr} {lx10 cx10 : Nat} {x52 : Bool} {M : Mem} {Q : Value → Mem → Prop} (H :
    ((x52 = true →
     A5_4 Ax0 lx0 cx0 x3 Ax4 lx4 cx4 x5 x6 Ax7 lx7 cx7 Ax10 lx10 cx10 true M Q) ∧
     (x52 = false →
     A5_4 Ax0 lx0 cx0 x3 Ax4 lx4 cx4 x5 x6 Ax7 lx7 cx7 Ax10 lx10 cx10 (((lx8 : Int)) != x6) M Q))) :
    A5_3 Ax0 lx0 cx0 x3 Ax4 lx4 cx4 x5 x6 Ax7 lx7 cx7 Ax8 lx8 cx8 Ax10 lx10 cx10 x52 M Q := by
  intro g1 g2 g9 g11 g12 g13 g14 g15 g16 g17 g18 g19 g20 g21 g22 g23 g24 g25 g26 g27 g28 g29 g30 g31 g32 g33 g34 g35 g36 g37 g38 g39 g40 g41 g42 g43 g44 g45 g46 g47 g48 g49 g50 g51 g53 g54 g55 g56 g57 g58 g59 g60 g61 g62 g63 g64 g65 g66 g67 g68 g69 g70 g71 g72 g73 g74 g75 g76 g77 g78 g79 g80 g81 g82 g83 g84 g85 g86
  refine Rg.step (d := 6) (j := 13) (fun call K => r5_14p7) rfl rfl ?_
  refine Rch.cB (fun h => ?_) (fun h => ?_)
  · replace H := H.1 (h)
    refine Rch.rest ?_
    exact H _ _ _ _ _ _ _ _ _ _ _ _ _ _ _ _ _ _ _ _ _ _ _ _ _ _ _ _ _ _ _ _ _ _ _ _ _ _ _ _ _ _ _ _ _ _ _ _ _ _ _ _ _ _ _ _ _ _ _ _ _ _ _ _ _ _ _ _ _ _ _ _ _ _ _ _ _ _ _
  · replace H := H.2 (h)
    refine Rch.rest ?_
    exact H _ _ _ _ _ _ _ _ _ _ _ _ _ _ _ _ _ _ _ _ _ _ _ _ _ _ _ _ _ _ _ _ _ _ _ _ _ _ _ _ _ _ _ _ _ _ _ _ _ _ _ _ _ _ _ _ _ _ _ _ _ _ _ _ _ _ _ _ _ _ _ _ _ _ _ _ _ _ _

theorem w5_4 {Ax0 : Option Addr} {lx0 cx0 : Nat} {x3 : Int} {Ax4 : Option Addr} {lx4 cx4 : Nat} {x5 x6 : Int} {Ax7 : Option Addr} {lx7 cx7 : Nat} {Ax10 : Option Addr} {lx10 cx10 : Nat} {x58 : Bool} {M : Mem} {Q : Value → Mem → Prop} (H :
    ((x58 = true →
     A5_5 Ax0 lx0 cx0 x3 Ax4 lx4 cx4 x5 x6 Ax7 lx7 cx7 Ax10 lx10 cx10 true M Q) ∧
     (x58 = false →
     A5_5 Ax0 lx0 cx0 x3 Ax4 lx4 cx4 x5 x6 Ax7 lx7 cx7 Ax10 lx10 cx10 (((lx10 : Int)) != x6) M Q))) :
    A5_4 Ax0 lx0 cx0 x3 Ax4 lx4 cx4 x5 x6 Ax7 lx7 cx7 Ax10 lx10 cx10 x58 M Q := by
  intro g1 g2 g8 g9 g11 g12 g13 g14 g15 g16 g17 g18 g19 g20 g21 g22 g23 g24 g25 g26 g27 g28 g29 g30 g31 g32 g33 g34 g35 g36 g37 g38 g39 g40 g41 g42 g43 g44 g45 g46 g47 g48 g49 g50 g51 g52 g53 g54 g55 g56 g57 g59 g60 g61 g62 g63 g64 g65 g66 g67 g68 g69 g70 g71 g72 g73 g74 g75 g76 g77 g78 g79 g80 g81 g82 g83 g84 g85 g86
  refine Rg.step (d := 5) (j := 18) (fun call K => r5_14p13) rfl rfl ?_
  refine Rch.cB (fun h => ?_) (fun h => ?_)
  · replace H := H.1 (h)
    refine Rch.rest (Rg.done rfl ?_)
    exact H _ _ _ _ _ _ _ _ _ _ _ _ _ _ _ _ _ _ _ _ _ _ _ _ _ _ _ _ _ _ _ _ _ _ _ _ _ _ _ _ _ _ _ _ _ _ _ _ _ _ _ _ _ _ _ _ _ _ _ _ _ _ _ _ _ _ _ _ _ _ _ _ _ _ _ _ _ _ _
  · replace H := H.2 (h)
    refine Rch.rest (Rg.done rfl ?_)
    exact H _ _ _ _ _ _ _ _ _ _ _ _ _ _ _ _ _ _ _ _ _ _ _ _ _ _ _ _ _ _ _ _ _ _ _ _ _ _ _ _ _ _ _ _ _ _ _ _ _ _ _ _ _ _ _ _ _ _ _ _ _ _ _ _ _ _ _ _ _ _ _ _ _ _ _ _ _ _ _

theorem w5_5 {Ax0 : Option Addr} {lx0 cx0 : Nat} {x3 : Int} {Ax4 : Option Addr} {lx4 cx4 : Nat} {x5 x6 : Int} {Ax7 : Option Addr} {lx7 cx7 : Nat} {Ax10 : Option Addr} {lx10 cx10 : Nat} {x63 : Bool} {M : Mem} {Q : Value → Mem → Prop} (H :
    ((x63 = true →
     Q (.bool false) M) ∧
     (x63 = false →
     A5_6 Ax0 lx0 cx0 x3 Ax4 lx4 cx4 x5 x6 Ax7 lx7 cx7 Ax10 lx10 cx10 0 M Q))) :
    A5_5 Ax0 lx0 cx0 x3 Ax4 lx4 cx4 x5 x6 Ax7 lx7 cx7 Ax10 lx10 cx10 x63 M Q := by
  intro g1 g2 g8 g9 g11 g12 g13 g14 g15 g16 g17 g18 g19 g20 g21 g22 g23 g24 g25 g26 g27 g28 g29 g30 g31 g32 g33 g34 g35 g36 g37 g38 g39 g40 g41 g42 g43 g44 g45 g46 g47 g48 g49 g50 g51 g52 g53 g54 g55 g56 g57 g58 g59 g60 g61 g62 g64 g65 g66 g67 g68 g69 g70 g71 g72 g73 g74 g75 g76 g77 g78 g79 g80 g81 g82 g83 g84 g85 g86
  refine Rn.cnd (v := x63) ⟨c5_54, rfl, by kernel_rfl⟩ (fun h => ?_) (fun h => ?_)
  · replace H := H.1 (h)
    refine Rn.seq k5_55 (Rn.region k5_56 (fun call K => r5_15) (Rch.leaf ?_))
    exact Rn.ret k5_57 e5 H
  · replace H := H.2 (h)
    refine Rn.skip k5_58 (Rn.seq k5_59 (Rn.region k5_60 (fun call K => r5_16) (Rch.leaf (Rn.block k5_61 (Rn.loop k5_62 ?_)))))
    exact H _ _ _ _ _ _ _ _ _ _ _ _ _ _ _ _ _ _ _ _ _ _ _ _ _ _ _ _ _ _ _ _ _ _ _ _ _ _ _ _ _ _ _ _ _ _ _ _ _ _ _ _ _ _ _ _ _ _ _ _ _ _ _ _ _ _ _ _ _ _ _ _ _ _ _ _ _ _ _

theorem w5_6 {Ax0 : Option Addr} {lx0 cx0 : Nat} {x3 : Int} {Ax4 : Option Addr} {lx4 cx4 : Nat} {x5 x6 : Int} {Ax7 : Option Addr} {lx7 cx7 : Nat} {Ax10 : Option Addr} {lx10 cx10 : Nat} {x12 : Int} {M : Mem} {Q : Value → Mem → Prop} (H :
    ((x12 < x6 →
     ∃ a17', idxA Ax10 lx10 1 x12 = some a17' ∧
     ∃ x18', M.intAt .i64 a17'.block a17'.off = some x18' ∧
     ∃ a19', idxA Ax7 lx7 1 x12 = some a19' ∧
     ∃ x20', M.intAt .i64 a19'.block a19'.off = some x20' ∧
     Cn Try.prog 17 #[.int .i64 (IntKind.i64.wrap (x18' - (IntKind.i64.wrap ((IntKind.i64.wrap (x20' * x6)).tdiv 2))))] M fun v21' N21' =>
      ∃ x22', asI .i64 v21' = some x22' ∧
      ((x22' > (IntKind.i64.wrap ((IntKind.i64.wrap (x6 * x6)).tdiv 2)) →
       Q (.bool false) N21') ∧
       (¬ (x22' > (IntKind.i64.wrap ((IntKind.i64.wrap (x6 * x6)).tdiv 2))) →
       A5_6 Ax0 lx0 cx0 x3 Ax4 lx4 cx4 x5 x6 Ax7 lx7 cx7 Ax10 lx10 cx10 (IntKind.i64.wrap (x12 + 1)) N21' Q))) ∧
     (¬ (x12 < x6) →
     A5_2 Ax0 lx0 cx0 x3 Ax4 lx4 cx4 (IntKind.i64.wrap (x5 + 1)) M Q))) :
    A5_6 Ax0 lx0 cx0 x3 Ax4 lx4 cx4 x5 x6 Ax7 lx7 cx7 Ax10 lx10 cx10 x12 M Q := by
  intro g1 g2 g8 g9 g11 g13 g14 g15 g16 g17 g18 g19 g20 g21 g22 g23 g24 g25 g26 g27 g28 g29 g30 g31 g32 g33 g34 g35 g36 g37 g38 g39 g40 g41 g42 g43 g44 g45 g46 g47 g48 g49 g50 g51 g52 g53 g54 g55 g56 g57 g58 g59 g60 g61 g62 g63 g64 g65 g66 g67 g68 g69 g70 g71 g72 g73 g74 g75 g76 g77 g78 g79 g80 g81 g82 g83 g84 g85 g86
  refine Rn.seq k5_63 (Rn.seq k5_64 (Rn.region k5_65 (fun call K => r5_17) (Rch.leaf ?_)))
  refine Rn.cnd (v := decide (x12 < x6)) ⟨c5_66, rfl, by kernel_rfl⟩ (fun h => ?_) (fun h => ?_)
  · replace H := H.1 (of_decide_eq_true h)
    refine Rn.skip k5_67 (Rn.seq k5_68 (Rn.block k5_69 (Rn.seq k5_70 (Rn.regionD k5_71 (fun call K => r5_19) (Rch.ex H fun a17' H => Rch.ex H fun x18' H => Rch.ex H fun a19' H => Rch.ex H fun x20' H => Rch.call H fun v21' N21' H => Rch.ex H fun x22' H => Rch.leaf ?_)))))
    refine Rn.cnd (v := decide (x22' > (IntKind.i64.wrap ((IntKind.i64.wrap (x6 * x6)).tdiv 2)))) ⟨c5_72, rfl, by kernel_rfl⟩ (fun h => ?_) (fun h => ?_)
    · replace H := H.1 (of_decide_eq_true h)
      refine Rn.seq k5_73 (Rn.region k5_74 (fun call K => r5_20) (Rch.leaf ?_))
      exact Rn.ret k5_75 e5 H
    · replace H := H.2 (of_decide_eq_false h)
      refine Rn.skip k5_76 (Rn.blk (Rn.region k5_77 (fun call K => r5_18) (Rch.leaf (Rn.lp ?_))))
      exact H _ _ _ _ _ _ _ _ _ _ _ _ _ _ _ _ _ _ _ _ _ _ _ _ _ _ _ _ _ _ _ _ _ _ _ _ _ _ _ _ _ _ _ _ _ _ _ _ _ _ _ _ _ _ _ _ _ _ _ _ _ _ _ _ _ _ _ _ _ _ _ _ _ _ _ _ _ _ _
  · replace H := H.2 (of_decide_eq_false h)
    refine Rn.exit k5_78 rfl (Rn.blk (Rn.region k5_79 (fun call K => r5_9) (Rch.leaf (Rn.lp ?_))))
    exact H _ _ _ _ _ _ _ _ _ _ _ _ _ _ _ _ _ _ _ _ _ _ _ _ _ _ _ _ _ _ _ _ _ _ _ _ _ _ _ _ _ _ _ _ _ _ _ _ _ _ _ _ _ _ _ _ _ _ _ _ _ _ _ _ _ _ _ _ _ _ _ _ _ _ _ _ _ _ _ _ _ _ _


end Go.Zt
