/- The functions' walks: for each function and each loop a rule of what it comes to. Printed by zw.py. -/
import Derived.Test.YtnhfoiijkadajaaProg
import Derived.Test.YtnhfoiijkadajaaZeA
set_option linter.unusedVariables false
set_option maxRecDepth 100000
namespace Go.Zu
open Go Go.Sim Go.Proofs

variable {g0 g1 g2 g3 g4 g5 g6 g7 g8 g9 g10 g11 g12 g13 g14 g15 g16 g17 g18 g19 g20 g21 g22 g23 g24 g25 g26 g27 g28 g29 g30 g31 g32 g33 g34 g35 g36 g37 g38 g39 g40 g41 g42 g43 g44 g45 g46 g47 g48 g49 g50 g51 g52 g53 g54 g55 g56 g57 g58 g59 g60 g61 g62 g63 g64 g65 g66 g67 g68 g69 g70 g71 g72 g73 g74 g75 g76 g77 g78 g79 g80 g81 g82 g83 g84 g85 g86 g87 g88 g89 g90 g91 g92 g93 g94 g95 : Value}
/-! ### zoetrope/zoetropelaw21.TilesBack: function 8 -/
noncomputable abbrev P8 (p : List Nat) : Code := subC (codeOf Try.f8) p
noncomputable abbrev O8 (p : List Nat) : Array Oper := opsOf (subC (codeOf Try.f8) p)
theorem b8 : Try.prog.funcs[8]? = some Try.f8 ∧ (Orc.tab Try.prog).lookup 8 = none := ⟨by kernel_rfl, by kernel_rfl⟩
theorem d8 : Try.f8.body = some (P8 []) := by kernel_rfl
theorem t8 {Ax0 : Option Addr} {lx0 cx0 : Nat} {x1 x2 : Int} : #[.slice Ax0 lx0 cx0,.int .i64 x1,.int .u8 x2] ++ Array.replicate (Try.f8.ntmps - (#[.slice Ax0 lx0 cx0,.int .i64 x1,.int .u8 x2] : Array Value).size) undef = #[.slice Ax0 lx0 cx0,.int .i64 x1,.int .u8 x2,undef,undef,undef,undef,undef,undef,undef,undef,undef,undef,undef,undef,undef,undef,undef,undef,undef,undef,undef,undef,undef,undef,undef,undef,undef,undef,undef,undef,undef,undef,undef,undef,undef,undef,undef,undef,undef,undef,undef,undef,undef,undef,undef,undef,undef,undef,undef,undef,undef,undef,undef,undef,undef,undef,undef,undef,undef,undef,undef,undef,undef,undef,undef,undef,undef,undef,undef,undef,undef,undef,undef,undef,undef,undef,undef,undef,undef,undef,undef,undef,undef,undef,undef,undef,undef,undef,undef,undef,undef,undef,undef,undef,undef] := by kernel_rfl
theorem k8_0 : P8 [] = .seq (P8 [0]) (P8 [1]) := by kernel_rfl
theorem k8_1 : P8 [0] = .region 0 (O8 [0]) false := by kernel_rfl
theorem r8_0 {M : Mem} {call : CallM} {K : Array Value → Mem → R} :
    opsK Try.prog (fun _ => call) (O8 [0]) (O8 [0]).toList 0 #[g0,g1,g2,g3,g4,g5,g6,g7,g8,g9,g10,g11,g12,g13,g14,g15,g16,g17,g18,g19,g20,g21,g22,g23,g24,g25,g26,g27,g28,g29,g30,g31,g32,g33,g34,g35,g36,g37,g38,g39,g40,g41,g42,g43,g44,g45,g46,g47,g48,g49,g50,g51,g52,g53,g54,g55,g56,g57,g58,g59,g60,g61,g62,g63,g64,g65,g66,g67,g68,g69,g70,g71,g72,g73,g74,g75,g76,g77,g78,g79,g80,g81,g82,g83,g84,g85,g86,g87,g88,g89,g90,g91,g92,g93,g94,g95] M K = K #[g0,g1,g2,g3,g4,g5,.bool false,g7,g8,g9,g10,g11,g12,g13,g14,g15,g16,g17,g18,g19,g20,g21,g22,g23,g24,g25,g26,g27,g28,g29,g30,g31,g32,g33,g34,g35,g36,g37,g38,g39,g40,g41,g42,g43,g44,g45,g46,g47,g48,g49,g50,g51,g52,g53,g54,g55,g56,g57,g58,g59,g60,g61,g62,g63,g64,g65,g66,g67,g68,g69,g70,g71,g72,g73,g74,g75,g76,g77,g78,g79,g80,g81,g82,g83,g84,g85,g86,g87,g88,g89,g90,g91,g92,g93,g94,g95] M := by kernel_rfl
theorem k8_2 : P8 [1] = .seq (P8 [1,0]) (P8 [1,1]) := by kernel_rfl
theorem k8_3 : P8 [1,0] = .seq (P8 [1,0,0]) (P8 [1,0,1]) := by kernel_rfl
theorem k8_4 : P8 [1,0,0] = .region 1 (O8 [1,0,0]) false := by kernel_rfl
theorem r8_1 {M : Mem} {call : CallM} {K : Array Value → Mem → R} :
    opsK Try.prog (fun _ => call) (O8 [1,0,0]) (O8 [1,0,0]).toList 0 #[g0,g1,g2,g3,g4,g5,g6,g7,g8,g9,g10,g11,g12,g13,g14,g15,g16,g17,g18,g19,g20,g21,g22,g23,g24,g25,g26,g27,g28,g29,g30,g31,g32,g33,g34,g35,g36,g37,g38,g39,g40,g41,g42,g43,g44,g45,g46,g47,g48,g49,g50,g51,g52,g53,g54,g55,g56,g57,g58,g59,g60,g61,g62,g63,g64,g65,g66,g67,g68,g69,g70,g71,g72,g73,g74,g75,g76,g77,g78,g79,g80,g81,g82,g83,g84,g85,g86,g87,g88,g89,g90,g91,g92,g93,g94,g95] M K = (call 14 #[] M).bind fun r_1 => (asB r_1.1).bind fun b_2 => K #[g0,g1,g2,g3,g4,g5,g6,g7,g8,g9,g10,g11,g12,g13,g14,g15,.bool b_2,.bool (!b_2),g18,g19,g20,g21,g22,g23,g24,g25,g26,g27,g28,g29,g30,g31,g32,g33,g34,g35,g36,g37,g38,g39,g40,g41,g42,g43,g44,g45,g46,g47,g48,g49,g50,g51,g52,g53,g54,g55,g56,g57,g58,g59,g60,g61,g62,g63,g64,g65,g66,g67,g68,g69,g70,g71,g72,g73,g74,g75,g76,g77,g78,g79,g80,g81,g82,g83,g84,g85,g86,g87,g88,g89,g90,g91,g92,g93,g94,g95] r_1.2 := by kernel_rfl
theorem c8_5 : P8 [1,0,1] = .cond (.tmp 17) (P8 [1,0,1,0]) (P8 [1,0,1,1]) := by kernel_rfl
theorem k8_6 : P8 [1,0,1,0] = .seq (P8 [1,0,1,0,0]) (P8 [1,0,1,0,1]) := by kernel_rfl
theorem k8_7 : P8 [1,0,1,0,0] = .region 2 (O8 [1,0,1,0,0]) false := by kernel_rfl
theorem r8_2 {M : Mem} {call : CallM} {K : Array Value → Mem → R} :
    opsK Try.prog (fun _ => call) (O8 [1,0,1,0,0]) (O8 [1,0,1,0,0]).toList 0 #[g0,g1,g2,g3,g4,g5,g6,g7,g8,g9,g10,g11,g12,g13,g14,g15,g16,g17,g18,g19,g20,g21,g22,g23,g24,g25,g26,g27,g28,g29,g30,g31,g32,g33,g34,g35,g36,g37,g38,g39,g40,g41,g42,g43,g44,g45,g46,g47,g48,g49,g50,g51,g52,g53,g54,g55,g56,g57,g58,g59,g60,g61,g62,g63,g64,g65,g66,g67,g68,g69,g70,g71,g72,g73,g74,g75,g76,g77,g78,g79,g80,g81,g82,g83,g84,g85,g86,g87,g88,g89,g90,g91,g92,g93,g94,g95] M K = K #[g0,g1,g2,g3,g4,g5,.bool false,g7,g8,g9,g10,g11,g12,g13,g14,g15,g16,g17,g18,g19,g20,g21,g22,g23,g24,g25,g26,g27,g28,g29,g30,g31,g32,g33,g34,g35,g36,g37,g38,g39,g40,g41,g42,g43,g44,g45,g46,g47,g48,g49,g50,g51,g52,g53,g54,g55,g56,g57,g58,g59,g60,g61,g62,g63,g64,g65,g66,g67,g68,g69,g70,g71,g72,g73,g74,g75,g76,g77,g78,g79,g80,g81,g82,g83,g84,g85,g86,g87,g88,g89,g90,g91,g92,g93,g94,g95] M := by kernel_rfl
theorem k8_8 : P8 [1,0,1,0,1] = .ret := by kernel_rfl
theorem e8 {M : Mem} : finish Try.prog Try.f8 #[g0,g1,g2,g3,g4,g5,g6,g7,g8,g9,g10,g11,g12,g13,g14,g15,g16,g17,g18,g19,g20,g21,g22,g23,g24,g25,g26,g27,g28,g29,g30,g31,g32,g33,g34,g35,g36,g37,g38,g39,g40,g41,g42,g43,g44,g45,g46,g47,g48,g49,g50,g51,g52,g53,g54,g55,g56,g57,g58,g59,g60,g61,g62,g63,g64,g65,g66,g67,g68,g69,g70,g71,g72,g73,g74,g75,g76,g77,g78,g79,g80,g81,g82,g83,g84,g85,g86,g87,g88,g89,g90,g91,g92,g93,g94,g95] M = some (g6, M) := by kernel_rfl
theorem k8_10 : P8 [1,0,1,1] = .skip := by kernel_rfl
theorem k8_11 : P8 [1,1] = .seq (P8 [1,1,0]) (P8 [1,1,1]) := by kernel_rfl
theorem k8_12 : P8 [1,1,0] = .seq (P8 [1,1,0,0]) (P8 [1,1,0,1]) := by kernel_rfl
theorem k8_13 : P8 [1,1,0,0] = .region 3 (O8 [1,1,0,0]) false := by kernel_rfl
theorem r8_3 {Ax0 : Option Addr} {lx0 cx0 : Nat} {M : Mem} {call : CallM} {K : Array Value → Mem → R} :
    opsK Try.prog (fun _ => call) (O8 [1,1,0,0]) (O8 [1,1,0,0]).toList 0 #[.slice Ax0 lx0 cx0,g1,g2,g3,g4,g5,g6,g7,g8,g9,g10,g11,g12,g13,g14,g15,g16,g17,g18,g19,g20,g21,g22,g23,g24,g25,g26,g27,g28,g29,g30,g31,g32,g33,g34,g35,g36,g37,g38,g39,g40,g41,g42,g43,g44,g45,g46,g47,g48,g49,g50,g51,g52,g53,g54,g55,g56,g57,g58,g59,g60,g61,g62,g63,g64,g65,g66,g67,g68,g69,g70,g71,g72,g73,g74,g75,g76,g77,g78,g79,g80,g81,g82,g83,g84,g85,g86,g87,g88,g89,g90,g91,g92,g93,g94,g95] M K = K #[.slice Ax0 lx0 cx0,g1,g2,g3,g4,g5,g6,g7,g8,g9,g10,g11,g12,g13,g14,g15,g16,g17,.slice Ax0 lx0 cx0,.int .i64 ((lx0 : Int)),.bool (decide (((lx0 : Int)) > 16)),g21,g22,g23,g24,g25,g26,g27,g28,g29,g30,g31,g32,g33,g34,g35,g36,g37,g38,g39,g40,g41,g42,g43,g44,g45,g46,g47,g48,g49,g50,g51,g52,g53,g54,g55,g56,g57,g58,g59,g60,g61,g62,g63,g64,g65,g66,g67,g68,g69,g70,g71,g72,g73,g74,g75,g76,g77,g78,g79,g80,g81,g82,g83,g84,g85,g86,g87,g88,g89,g90,g91,g92,g93,g94,g95] M := by kernel_rfl
theorem c8_14 : P8 [1,1,0,1] = .cond (.tmp 20) (P8 [1,1,0,1,0]) (P8 [1,1,0,1,1]) := by kernel_rfl
theorem k8_15 : P8 [1,1,0,1,0] = .region 4 (O8 [1,1,0,1,0]) false := by kernel_rfl
theorem r8_4 {Ax0 : Option Addr} {lx0 cx0 : Nat} {M : Mem} {call : CallM} {K : Array Value → Mem → R} :
    opsK Try.prog (fun _ => call) (O8 [1,1,0,1,0]) (O8 [1,1,0,1,0]).toList 0 #[.slice Ax0 lx0 cx0,g1,g2,g3,g4,g5,g6,g7,g8,g9,g10,g11,g12,g13,g14,g15,g16,g17,g18,g19,g20,g21,g22,g23,g24,g25,g26,g27,g28,g29,g30,g31,g32,g33,g34,g35,g36,g37,g38,g39,g40,g41,g42,g43,g44,g45,g46,g47,g48,g49,g50,g51,g52,g53,g54,g55,g56,g57,g58,g59,g60,g61,g62,g63,g64,g65,g66,g67,g68,g69,g70,g71,g72,g73,g74,g75,g76,g77,g78,g79,g80,g81,g82,g83,g84,g85,g86,g87,g88,g89,g90,g91,g92,g93,g94,g95] M K = (sliceP Try.prog 45 (.slice Ax0 lx0 cx0) none (some (.int .i64 16)) none).bind fun v_1 => (asS v_1).bind fun s_2 => K #[.slice s_2.1 (s_2.2.1) (s_2.2.2),g1,g2,g3,g4,g5,g6,g7,g8,g9,g10,g11,g12,g13,g14,g15,g16,g17,g18,g19,g20,.slice Ax0 lx0 cx0,.slice s_2.1 (s_2.2.1) (s_2.2.2),g23,g24,g25,g26,g27,g28,g29,g30,g31,g32,g33,g34,g35,g36,g37,g38,g39,g40,g41,g42,g43,g44,g45,g46,g47,g48,g49,g50,g51,g52,g53,g54,g55,g56,g57,g58,g59,g60,g61,g62,g63,g64,g65,g66,g67,g68,g69,g70,g71,g72,g73,g74,g75,g76,g77,g78,g79,g80,g81,g82,g83,g84,g85,g86,g87,g88,g89,g90,g91,g92,g93,g94,g95] M := by kernel_rfl
theorem k8_16 : P8 [1,1,1] = .seq (P8 [1,1,1,0]) (P8 [1,1,1,1]) := by kernel_rfl
theorem k8_17 : P8 [1,1,1,0] = .seq (P8 [1,1,1,0,0]) (P8 [1,1,1,0,1]) := by kernel_rfl
theorem k8_18 : P8 [1,1,1,0,0] = .region 5 (O8 [1,1,1,0,0]) false := by kernel_rfl
theorem r8_5 {Ax0 : Option Addr} {lx0 cx0 : Nat} {M : Mem} {call : CallM} {K : Array Value → Mem → R} :
    opsK Try.prog (fun _ => call) (O8 [1,1,1,0,0]) (O8 [1,1,1,0,0]).toList 0 #[.slice Ax0 lx0 cx0,g1,g2,g3,g4,g5,g6,g7,g8,g9,g10,g11,g12,g13,g14,g15,g16,g17,g18,g19,g20,g21,g22,g23,g24,g25,g26,g27,g28,g29,g30,g31,g32,g33,g34,g35,g36,g37,g38,g39,g40,g41,g42,g43,g44,g45,g46,g47,g48,g49,g50,g51,g52,g53,g54,g55,g56,g57,g58,g59,g60,g61,g62,g63,g64,g65,g66,g67,g68,g69,g70,g71,g72,g73,g74,g75,g76,g77,g78,g79,g80,g81,g82,g83,g84,g85,g86,g87,g88,g89,g90,g91,g92,g93,g94,g95] M K = K #[.slice Ax0 lx0 cx0,g1,g2,g3,g4,g5,g6,g7,g8,g9,g10,g11,g12,g13,g14,g15,g16,g17,g18,g19,g20,g21,g22,.slice Ax0 lx0 cx0,.int .i64 ((lx0 : Int)),.bool (((lx0 : Int)) == 0),g26,g27,g28,g29,g30,g31,g32,g33,g34,g35,g36,g37,g38,g39,g40,g41,g42,g43,g44,g45,g46,g47,g48,g49,g50,g51,g52,g53,g54,g55,g56,g57,g58,g59,g60,g61,g62,g63,g64,g65,g66,g67,g68,g69,g70,g71,g72,g73,g74,g75,g76,g77,g78,g79,g80,g81,g82,g83,g84,g85,g86,g87,g88,g89,g90,g91,g92,g93,g94,g95] M := by kernel_rfl
theorem c8_19 : P8 [1,1,1,0,1] = .cond (.tmp 25) (P8 [1,1,1,0,1,0]) (P8 [1,1,1,0,1,1]) := by kernel_rfl
theorem k8_20 : P8 [1,1,1,0,1,0] = .seq (P8 [1,1,1,0,1,0,0]) (P8 [1,1,1,0,1,0,1]) := by kernel_rfl
theorem k8_21 : P8 [1,1,1,0,1,0,0] = .region 6 (O8 [1,1,1,0,1,0,0]) false := by kernel_rfl
theorem r8_6 {M : Mem} {call : CallM} {K : Array Value → Mem → R} :
    opsK Try.prog (fun _ => call) (O8 [1,1,1,0,1,0,0]) (O8 [1,1,1,0,1,0,0]).toList 0 #[g0,g1,g2,g3,g4,g5,g6,g7,g8,g9,g10,g11,g12,g13,g14,g15,g16,g17,g18,g19,g20,g21,g22,g23,g24,g25,g26,g27,g28,g29,g30,g31,g32,g33,g34,g35,g36,g37,g38,g39,g40,g41,g42,g43,g44,g45,g46,g47,g48,g49,g50,g51,g52,g53,g54,g55,g56,g57,g58,g59,g60,g61,g62,g63,g64,g65,g66,g67,g68,g69,g70,g71,g72,g73,g74,g75,g76,g77,g78,g79,g80,g81,g82,g83,g84,g85,g86,g87,g88,g89,g90,g91,g92,g93,g94,g95] M K = K #[g0,g1,g2,g3,g4,g5,.bool true,g7,g8,g9,g10,g11,g12,g13,g14,g15,g16,g17,g18,g19,g20,g21,g22,g23,g24,g25,g26,g27,g28,g29,g30,g31,g32,g33,g34,g35,g36,g37,g38,g39,g40,g41,g42,g43,g44,g45,g46,g47,g48,g49,g50,g51,g52,g53,g54,g55,g56,g57,g58,g59,g60,g61,g62,g63,g64,g65,g66,g67,g68,g69,g70,g71,g72,g73,g74,g75,g76,g77,g78,g79,g80,g81,g82,g83,g84,g85,g86,g87,g88,g89,g90,g91,g92,g93,g94,g95] M := by kernel_rfl
theorem k8_22 : P8 [1,1,1,0,1,0,1] = .ret := by kernel_rfl
theorem k8_23 : P8 [1,1,1,0,1,1] = .skip := by kernel_rfl
theorem k8_24 : P8 [1,1,1,1] = .seq (P8 [1,1,1,1,0]) (P8 [1,1,1,1,1]) := by kernel_rfl
theorem k8_25 : P8 [1,1,1,1,0] = .region 7 (O8 [1,1,1,1,0]) false := by kernel_rfl
theorem r8_7 {Ax0 : Option Addr} {lx0 cx0 : Nat} {M : Mem} {call : CallM} {K : Array Value → Mem → R} :
    opsK Try.prog (fun _ => call) (O8 [1,1,1,1,0]) (O8 [1,1,1,1,0]).toList 0 #[.slice Ax0 lx0 cx0,g1,g2,g3,g4,g5,g6,g7,g8,g9,g10,g11,g12,g13,g14,g15,g16,g17,g18,g19,g20,g21,g22,g23,g24,g25,g26,g27,g28,g29,g30,g31,g32,g33,g34,g35,g36,g37,g38,g39,g40,g41,g42,g43,g44,g45,g46,g47,g48,g49,g50,g51,g52,g53,g54,g55,g56,g57,g58,g59,g60,g61,g62,g63,g64,g65,g66,g67,g68,g69,g70,g71,g72,g73,g74,g75,g76,g77,g78,g79,g80,g81,g82,g83,g84,g85,g86,g87,g88,g89,g90,g91,g92,g93,g94,g95] M K = (call 22 #[.slice Ax0 lx0 cx0] M).bind fun r_1 => (asU 2 r_1.1).bind fun cs_2 => (asS (cs_2.getD 0 undef)).bind fun s_3 => (asI .i64 (cs_2.getD 1 undef)).bind fun x_4 => K #[.slice Ax0 lx0 cx0,g1,g2,g3,g4,g5,g6,.slice s_3.1 (s_3.2.1) (s_3.2.2),.int .i64 x_4,g9,g10,g11,g12,g13,g14,g15,g16,g17,g18,g19,g20,g21,g22,g23,g24,g25,.tuple #[.slice s_3.1 (s_3.2.1) (s_3.2.2), .int .i64 x_4],.slice Ax0 lx0 cx0,.tuple #[.slice s_3.1 (s_3.2.1) (s_3.2.2), .int .i64 x_4],.slice s_3.1 (s_3.2.1) (s_3.2.2),.int .i64 x_4,g31,g32,g33,g34,g35,g36,g37,g38,g39,g40,g41,g42,g43,g44,g45,g46,g47,g48,g49,g50,g51,g52,g53,g54,g55,g56,g57,g58,g59,g60,g61,g62,g63,g64,g65,g66,g67,g68,g69,g70,g71,g72,g73,g74,g75,g76,g77,g78,g79,g80,g81,g82,g83,g84,g85,g86,g87,g88,g89,g90,g91,g92,g93,g94,g95] r_1.2 := by kernel_rfl
theorem k8_26 : P8 [1,1,1,1,1] = .seq (P8 [1,1,1,1,1,0]) (P8 [1,1,1,1,1,1]) := by kernel_rfl
theorem k8_27 : P8 [1,1,1,1,1,0] = .region 8 (O8 [1,1,1,1,1,0]) false := by kernel_rfl
theorem r8_8 {Ax0 : Option Addr} {lx0 cx0 : Nat} {Ax7 : Option Addr} {lx7 cx7 : Nat} {M : Mem} {call : CallM} {K : Array Value → Mem → R} :
    opsK Try.prog (fun _ => call) (O8 [1,1,1,1,1,0]) (O8 [1,1,1,1,1,0]).toList 0 #[.slice Ax0 lx0 cx0,g1,g2,g3,g4,g5,g6,.slice Ax7 lx7 cx7,g8,g9,g10,g11,g12,g13,g14,g15,g16,g17,g18,g19,g20,g21,g22,g23,g24,g25,g26,g27,g28,g29,g30,g31,g32,g33,g34,g35,g36,g37,g38,g39,g40,g41,g42,g43,g44,g45,g46,g47,g48,g49,g50,g51,g52,g53,g54,g55,g56,g57,g58,g59,g60,g61,g62,g63,g64,g65,g66,g67,g68,g69,g70,g71,g72,g73,g74,g75,g76,g77,g78,g79,g80,g81,g82,g83,g84,g85,g86,g87,g88,g89,g90,g91,g92,g93,g94,g95] M K = (call 26 #[.slice Ax7 lx7 cx7, .int .i64 ((lx0 : Int))] M).bind fun r_1 => (asU 2 r_1.1).bind fun cs_2 => (asS (cs_2.getD 0 undef)).bind fun s_3 => (asI .i64 (cs_2.getD 1 undef)).bind fun x_4 => K #[.slice Ax0 lx0 cx0,g1,g2,g3,g4,g5,g6,.slice Ax7 lx7 cx7,g8,.slice s_3.1 (s_3.2.1) (s_3.2.2),.int .i64 x_4,g11,g12,g13,g14,g15,g16,g17,g18,g19,g20,g21,g22,g23,g24,g25,g26,g27,g28,g29,g30,.tuple #[.slice s_3.1 (s_3.2.1) (s_3.2.2), .int .i64 x_4],.slice Ax7 lx7 cx7,.slice Ax0 lx0 cx0,.int .i64 ((lx0 : Int)),.tuple #[.slice s_3.1 (s_3.2.1) (s_3.2.2), .int .i64 x_4],.slice s_3.1 (s_3.2.1) (s_3.2.2),.int .i64 x_4,g38,g39,g40,g41,g42,g43,g44,g45,g46,g47,g48,g49,g50,g51,g52,g53,g54,g55,g56,g57,g58,g59,g60,g61,g62,g63,g64,g65,g66,g67,g68,g69,g70,g71,g72,g73,g74,g75,g76,g77,g78,g79,g80,g81,g82,g83,g84,g85,g86,g87,g88,g89,g90,g91,g92,g93,g94,g95] r_1.2 := by kernel_rfl
theorem k8_28 : P8 [1,1,1,1,1,1] = .seq (P8 [1,1,1,1,1,1,0]) (P8 [1,1,1,1,1,1,1]) := by kernel_rfl
theorem k8_29 : P8 [1,1,1,1,1,1,0] = .seq (P8 [1,1,1,1,1,1,0,0]) (P8 [1,1,1,1,1,1,0,1]) := by kernel_rfl
theorem k8_30 : P8 [1,1,1,1,1,1,0,0] = .region 9 (O8 [1,1,1,1,1,1,0,0]) false := by kernel_rfl
theorem r8_9 {Ax0 : Option Addr} {lx0 cx0 : Nat} {x8 : Int} {Ax9 : Option Addr} {lx9 cx9 : Nat} {x10 : Int} {M : Mem} {call : CallM} {K : Array Value → Mem → R} :
    opsK Try.prog (fun _ => call) (O8 [1,1,1,1,1,1,0,0]) (O8 [1,1,1,1,1,1,0,0]).toList 0 #[.slice Ax0 lx0 cx0,g1,g2,g3,g4,g5,g6,g7,.int .i64 x8,.slice Ax9 lx9 cx9,.int .i64 x10,g11,g12,g13,g14,g15,g16,g17,g18,g19,g20,g21,g22,g23,g24,g25,g26,g27,g28,g29,g30,g31,g32,g33,g34,g35,g36,g37,g38,g39,g40,g41,g42,g43,g44,g45,g46,g47,g48,g49,g50,g51,g52,g53,g54,g55,g56,g57,g58,g59,g60,g61,g62,g63,g64,g65,g66,g67,g68,g69,g70,g71,g72,g73,g74,g75,g76,g77,g78,g79,g80,g81,g82,g83,g84,g85,g86,g87,g88,g89,g90,g91,g92,g93,g94,g95] M K = withK (fun w40 w41 w42 w43 w44 w45 w46 w47 w48 w49 w50 M => K #[.slice Ax0 lx0 cx0,g1,g2,g3,g4,g5,g6,g7,.int .i64 x8,.slice Ax9 lx9 cx9,.int .i64 x10,g11,g12,g13,g14,g15,g16,g17,g18,g19,g20,g21,g22,g23,g24,g25,g26,g27,g28,g29,g30,g31,g32,g33,g34,g35,g36,g37,.int .i64 x8,.bool (x8 != 0),w40,w41,w42,w43,w44,w45,w46,w47,w48,w49,w50,g51,g52,g53,g54,g55,g56,g57,g58,g59,g60,g61,g62,g63,g64,g65,g66,g67,g68,g69,g70,g71,g72,g73,g74,g75,g76,g77,g78,g79,g80,g81,g82,g83,g84,g85,g86,g87,g88,g89,g90,g91,g92,g93,g94,g95] M) fun k => cond (x8 != 0) (k (.bool true) undef undef (.bool true) (.bool true) undef undef undef undef undef (.bool true) M) (cond (x10 != 0) (k (.bool false) (.int .i64 x10) (.bool (x10 != 0)) (.bool (x10 != 0)) (.bool true) undef undef undef undef undef (.bool true) M) (k (.bool false) (.int .i64 x10) (.bool (x10 != 0)) (.bool (x10 != 0)) (.bool false) (.slice Ax9 lx9 cx9) (.int .i64 ((lx9 : Int))) (.slice Ax0 lx0 cx0) (.int .i64 ((lx0 : Int))) (.bool (((lx9 : Int)) != ((lx0 : Int)))) (.bool (((lx9 : Int)) != ((lx0 : Int)))) M)) := by kernel_rfl
theorem k8_31 : P8 [1,1,0,1,1] = .skip := by kernel_rfl
theorem c8_32 : P8 [1,1,1,1,1,1,0,1] = .cond (.tmp 50) (P8 [1,1,1,1,1,1,0,1,0]) (P8 [1,1,1,1,1,1,0,1,1]) := by kernel_rfl
theorem k8_33 : P8 [1,1,1,1,1,1,0,1,0] = .seq (P8 [1,1,1,1,1,1,0,1,0,0]) (P8 [1,1,1,1,1,1,0,1,0,1]) := by kernel_rfl
theorem k8_34 : P8 [1,1,1,1,1,1,0,1,0,0] = .region 10 (O8 [1,1,1,1,1,1,0,1,0,0]) false := by kernel_rfl
theorem r8_10 {M : Mem} {call : CallM} {K : Array Value → Mem → R} :
    opsK Try.prog (fun _ => call) (O8 [1,1,1,1,1,1,0,1,0,0]) (O8 [1,1,1,1,1,1,0,1,0,0]).toList 0 #[g0,g1,g2,g3,g4,g5,g6,g7,g8,g9,g10,g11,g12,g13,g14,g15,g16,g17,g18,g19,g20,g21,g22,g23,g24,g25,g26,g27,g28,g29,g30,g31,g32,g33,g34,g35,g36,g37,g38,g39,g40,g41,g42,g43,g44,g45,g46,g47,g48,g49,g50,g51,g52,g53,g54,g55,g56,g57,g58,g59,g60,g61,g62,g63,g64,g65,g66,g67,g68,g69,g70,g71,g72,g73,g74,g75,g76,g77,g78,g79,g80,g81,g82,g83,g84,g85,g86,g87,g88,g89,g90,g91,g92,g93,g94,g95] M K = K #[g0,g1,g2,g3,g4,g5,.bool false,g7,g8,g9,g10,g11,g12,g13,g14,g15,g16,g17,g18,g19,g20,g21,g22,g23,g24,g25,g26,g27,g28,g29,g30,g31,g32,g33,g34,g35,g36,g37,g38,g39,g40,g41,g42,g43,g44,g45,g46,g47,g48,g49,g50,g51,g52,g53,g54,g55,g56,g57,g58,g59,g60,g61,g62,g63,g64,g65,g66,g67,g68,g69,g70,g71,g72,g73,g74,g75,g76,g77,g78,g79,g80,g81,g82,g83,g84,g85,g86,g87,g88,g89,g90,g91,g92,g93,g94,g95] M := by kernel_rfl
theorem k8_35 : P8 [1,1,1,1,1,1,0,1,0,1] = .ret := by kernel_rfl
theorem k8_36 : P8 [1,1,1,1,1,1,0,1,1] = .skip := by kernel_rfl
theorem k8_37 : P8 [1,1,1,1,1,1,1] = .seq (P8 [1,1,1,1,1,1,1,0]) (P8 [1,1,1,1,1,1,1,1]) := by kernel_rfl
theorem k8_38 : P8 [1,1,1,1,1,1,1,0] = .seq (P8 [1,1,1,1,1,1,1,0,0]) (P8 [1,1,1,1,1,1,1,0,1]) := by kernel_rfl
theorem k8_39 : P8 [1,1,1,1,1,1,1,0,0] = .region 11 (O8 [1,1,1,1,1,1,1,0,0]) false := by kernel_rfl
theorem r8_11 {M : Mem} {call : CallM} {K : Array Value → Mem → R} :
    opsK Try.prog (fun _ => call) (O8 [1,1,1,1,1,1,1,0,0]) (O8 [1,1,1,1,1,1,1,0,0]).toList 0 #[g0,g1,g2,g3,g4,g5,g6,g7,g8,g9,g10,g11,g12,g13,g14,g15,g16,g17,g18,g19,g20,g21,g22,g23,g24,g25,g26,g27,g28,g29,g30,g31,g32,g33,g34,g35,g36,g37,g38,g39,g40,g41,g42,g43,g44,g45,g46,g47,g48,g49,g50,g51,g52,g53,g54,g55,g56,g57,g58,g59,g60,g61,g62,g63,g64,g65,g66,g67,g68,g69,g70,g71,g72,g73,g74,g75,g76,g77,g78,g79,g80,g81,g82,g83,g84,g85,g86,g87,g88,g89,g90,g91,g92,g93,g94,g95] M K = K #[g0,g1,g2,g3,g4,g5,g6,g7,g8,g9,g10,.int .i64 0,g12,g13,g14,g15,g16,g17,g18,g19,g20,g21,g22,g23,g24,g25,g26,g27,g28,g29,g30,g31,g32,g33,g34,g35,g36,g37,g38,g39,g40,g41,g42,g43,g44,g45,g46,g47,g48,g49,g50,g51,g52,g53,g54,g55,g56,g57,g58,g59,g60,g61,g62,g63,g64,g65,g66,g67,g68,g69,g70,g71,g72,g73,g74,g75,g76,g77,g78,g79,g80,g81,g82,g83,g84,g85,g86,g87,g88,g89,g90,g91,g92,g93,g94,g95] M := by kernel_rfl
theorem k8_40 : P8 [1,1,1,1,1,1,1,0,1] = .block 0 (P8 [1,1,1,1,1,1,1,0,1,0]) := by kernel_rfl
theorem k8_41 : P8 [1,1,1,1,1,1,1,0,1,0] = .loop (P8 [1,1,1,1,1,1,1,0,1,0,0]) := by kernel_rfl
theorem k8_42 : P8 [1,1,1,1,1,1,1,0,1,0,0] = .seq (P8 [1,1,1,1,1,1,1,0,1,0,0,0]) (P8 [1,1,1,1,1,1,1,0,1,0,0,1]) := by kernel_rfl
theorem k8_43 : P8 [1,1,1,1,1,1,1,0,1,0,0,0] = .seq (P8 [1,1,1,1,1,1,1,0,1,0,0,0,0]) (P8 [1,1,1,1,1,1,1,0,1,0,0,0,1]) := by kernel_rfl
theorem k8_44 : P8 [1,1,1,1,1,1,1,0,1,0,0,0,0] = .region 12 (O8 [1,1,1,1,1,1,1,0,1,0,0,0,0]) false := by kernel_rfl
theorem r8_12 {Ax0 : Option Addr} {lx0 cx0 : Nat} {x11 : Int} {M : Mem} {call : CallM} {K : Array Value → Mem → R} :
    opsK Try.prog (fun _ => call) (O8 [1,1,1,1,1,1,1,0,1,0,0,0,0]) (O8 [1,1,1,1,1,1,1,0,1,0,0,0,0]).toList 0 #[.slice Ax0 lx0 cx0,g1,g2,g3,g4,g5,g6,g7,g8,g9,g10,.int .i64 x11,g12,g13,g14,g15,g16,g17,g18,g19,g20,g21,g22,g23,g24,g25,g26,g27,g28,g29,g30,g31,g32,g33,g34,g35,g36,g37,g38,g39,g40,g41,g42,g43,g44,g45,g46,g47,g48,g49,g50,g51,g52,g53,g54,g55,g56,g57,g58,g59,g60,g61,g62,g63,g64,g65,g66,g67,g68,g69,g70,g71,g72,g73,g74,g75,g76,g77,g78,g79,g80,g81,g82,g83,g84,g85,g86,g87,g88,g89,g90,g91,g92,g93,g94,g95] M K = K #[.slice Ax0 lx0 cx0,g1,g2,g3,g4,g5,g6,g7,g8,g9,g10,.int .i64 x11,g12,g13,g14,g15,g16,g17,g18,g19,g20,g21,g22,g23,g24,g25,g26,g27,g28,g29,g30,g31,g32,g33,g34,g35,g36,g37,g38,g39,g40,g41,g42,g43,g44,g45,g46,g47,g48,g49,g50,.int .i64 x11,.slice Ax0 lx0 cx0,.int .i64 ((lx0 : Int)),.bool (decide (x11 < ((lx0 : Int)))),g55,g56,g57,g58,g59,g60,g61,g62,g63,g64,g65,g66,g67,g68,g69,g70,g71,g72,g73,g74,g75,g76,g77,g78,g79,g80,g81,g82,g83,g84,g85,g86,g87,g88,g89,g90,g91,g92,g93,g94,g95] M := by kernel_rfl
theorem c8_45 : P8 [1,1,1,1,1,1,1,0,1,0,0,0,1] = .cond (.tmp 54) (P8 [1,1,1,1,1,1,1,0,1,0,0,0,1,0]) (P8 [1,1,1,1,1,1,1,0,1,0,0,0,1,1]) := by kernel_rfl
theorem k8_46 : P8 [1,1,1,1,1,1,1,0,1,0,0,0,1,0] = .skip := by kernel_rfl
theorem k8_47 : P8 [1,1,1,1,1,1,1,0,1,0,0,1] = .seq (P8 [1,1,1,1,1,1,1,0,1,0,0,1,0]) (P8 [1,1,1,1,1,1,1,0,1,0,0,1,1]) := by kernel_rfl
theorem k8_48 : P8 [1,1,1,1,1,1,1,0,1,0,0,1,0] = .block 1 (P8 [1,1,1,1,1,1,1,0,1,0,0,1,0,0]) := by kernel_rfl
theorem k8_49 : P8 [1,1,1,1,1,1,1,0,1,0,0,1,0,0] = .seq (P8 [1,1,1,1,1,1,1,0,1,0,0,1,0,0,0]) (P8 [1,1,1,1,1,1,1,0,1,0,0,1,0,0,1]) := by kernel_rfl
theorem k8_50 : P8 [1,1,1,1,1,1,1,0,1,0,0,1,0,0,0] = .region 14 (O8 [1,1,1,1,1,1,1,0,1,0,0,1,0,0,0]) true ∧ drawOk (O8 [1,1,1,1,1,1,1,0,1,0,0,1,0,0,0]) = true := ⟨by kernel_rfl, by kernel_rfl⟩
theorem r8_14 {Ax0 : Option Addr} {lx0 cx0 : Nat} {Ax9 : Option Addr} {lx9 cx9 : Nat} {x11 : Int} {M : Mem} {call : CallM} {K : Array Value → Mem → R} :
    opsI Try.prog (callAt call (O8 [1,1,1,1,1,1,1,0,1,0,0,1,0,0,0])) (O8 [1,1,1,1,1,1,1,0,1,0,0,1,0,0,0]) (ordOf (O8 [1,1,1,1,1,1,1,0,1,0,0,1,0,0,0])) [] #[.slice Ax0 lx0 cx0,g1,g2,g3,g4,g5,g6,g7,g8,.slice Ax9 lx9 cx9,g10,.int .i64 x11,g12,g13,g14,g15,g16,g17,g18,g19,g20,g21,g22,g23,g24,g25,g26,g27,g28,g29,g30,g31,g32,g33,g34,g35,g36,g37,g38,g39,g40,g41,g42,g43,g44,g45,g46,g47,g48,g49,g50,g51,g52,g53,g54,g55,g56,g57,g58,g59,g60,g61,g62,g63,g64,g65,g66,g67,g68,g69,g70,g71,g72,g73,g74,g75,g76,g77,g78,g79,g80,g81,g82,g83,g84,g85,g86,g87,g88,g89,g90,g91,g92,g93,g94,g95] M K = (idxA Ax9 lx9 1 x11).bind fun a_1 => (M.slAt a_1.block a_1.off).bind fun s_2 => (idxA Ax0 lx0 1 x11).bind fun a_3 => (M.slAt a_3.block a_3.off).bind fun s_4 => (call 24 #[.slice s_2.1 (s_2.2.1) (s_2.2.2), .slice s_4.1 (s_4.2.1) (s_4.2.2)] M).bind fun r_5 => (asB r_5.1).bind fun b_6 => K #[.slice Ax0 lx0 cx0,g1,g2,g3,g4,g5,g6,g7,g8,.slice Ax9 lx9 cx9,g10,.int .i64 x11,g12,g13,g14,g15,g16,g17,g18,g19,g20,g21,g22,g23,g24,g25,g26,g27,g28,g29,g30,g31,g32,g33,g34,g35,g36,g37,g38,g39,g40,g41,g42,g43,g44,g45,g46,g47,g48,g49,g50,g51,g52,g53,g54,g55,g56,.slice Ax9 lx9 cx9,.int .i64 x11,.pointer (some a_1),.slice s_2.1 (s_2.2.1) (s_2.2.2),.slice Ax0 lx0 cx0,.int .i64 x11,.pointer (some a_3),.slice s_4.1 (s_4.2.1) (s_4.2.2),.bool b_6,.bool (!b_6),g67,g68,g69,g70,g71,g72,g73,g74,g75,g76,g77,g78,g79,g80,g81,g82,g83,g84,g85,g86,g87,g88,g89,g90,g91,g92,g93,g94,g95] r_5.2 := by kernel_rfl
theorem c8_51 : P8 [1,1,1,1,1,1,1,0,1,0,0,1,0,0,1] = .cond (.tmp 66) (P8 [1,1,1,1,1,1,1,0,1,0,0,1,0,0,1,0]) (P8 [1,1,1,1,1,1,1,0,1,0,0,1,0,0,1,1]) := by kernel_rfl
theorem k8_52 : P8 [1,1,1,1,1,1,1,0,1,0,0,1,0,0,1,0] = .seq (P8 [1,1,1,1,1,1,1,0,1,0,0,1,0,0,1,0,0]) (P8 [1,1,1,1,1,1,1,0,1,0,0,1,0,0,1,0,1]) := by kernel_rfl
theorem k8_53 : P8 [1,1,1,1,1,1,1,0,1,0,0,1,0,0,1,0,0] = .region 15 (O8 [1,1,1,1,1,1,1,0,1,0,0,1,0,0,1,0,0]) false := by kernel_rfl
theorem r8_15 {M : Mem} {call : CallM} {K : Array Value → Mem → R} :
    opsK Try.prog (fun _ => call) (O8 [1,1,1,1,1,1,1,0,1,0,0,1,0,0,1,0,0]) (O8 [1,1,1,1,1,1,1,0,1,0,0,1,0,0,1,0,0]).toList 0 #[g0,g1,g2,g3,g4,g5,g6,g7,g8,g9,g10,g11,g12,g13,g14,g15,g16,g17,g18,g19,g20,g21,g22,g23,g24,g25,g26,g27,g28,g29,g30,g31,g32,g33,g34,g35,g36,g37,g38,g39,g40,g41,g42,g43,g44,g45,g46,g47,g48,g49,g50,g51,g52,g53,g54,g55,g56,g57,g58,g59,g60,g61,g62,g63,g64,g65,g66,g67,g68,g69,g70,g71,g72,g73,g74,g75,g76,g77,g78,g79,g80,g81,g82,g83,g84,g85,g86,g87,g88,g89,g90,g91,g92,g93,g94,g95] M K = K #[g0,g1,g2,g3,g4,g5,.bool false,g7,g8,g9,g10,g11,g12,g13,g14,g15,g16,g17,g18,g19,g20,g21,g22,g23,g24,g25,g26,g27,g28,g29,g30,g31,g32,g33,g34,g35,g36,g37,g38,g39,g40,g41,g42,g43,g44,g45,g46,g47,g48,g49,g50,g51,g52,g53,g54,g55,g56,g57,g58,g59,g60,g61,g62,g63,g64,g65,g66,g67,g68,g69,g70,g71,g72,g73,g74,g75,g76,g77,g78,g79,g80,g81,g82,g83,g84,g85,g86,g87,g88,g89,g90,g91,g92,g93,g94,g95] M := by kernel_rfl
theorem k8_54 : P8 [1,1,1,1,1,1,1,0,1,0,0,1,0,0,1,0,1] = .ret := by kernel_rfl
theorem k8_55 : P8 [1,1,1,1,1,1,1,0,1,0,0,1,0,0,1,1] = .skip := by kernel_rfl
theorem k8_56 : P8 [1,1,1,1,1,1,1,0,1,0,0,1,1] = .region 13 (O8 [1,1,1,1,1,1,1,0,1,0,0,1,1]) false := by kernel_rfl
theorem r8_13 {x11 : Int} {M : Mem} {call : CallM} {K : Array Value → Mem → R} :
    opsK Try.prog (fun _ => call) (O8 [1,1,1,1,1,1,1,0,1,0,0,1,1]) (O8 [1,1,1,1,1,1,1,0,1,0,0,1,1]).toList 0 #[g0,g1,g2,g3,g4,g5,g6,g7,g8,g9,g10,.int .i64 x11,g12,g13,g14,g15,g16,g17,g18,g19,g20,g21,g22,g23,g24,g25,g26,g27,g28,g29,g30,g31,g32,g33,g34,g35,g36,g37,g38,g39,g40,g41,g42,g43,g44,g45,g46,g47,g48,g49,g50,g51,g52,g53,g54,g55,g56,g57,g58,g59,g60,g61,g62,g63,g64,g65,g66,g67,g68,g69,g70,g71,g72,g73,g74,g75,g76,g77,g78,g79,g80,g81,g82,g83,g84,g85,g86,g87,g88,g89,g90,g91,g92,g93,g94,g95] M K = K #[g0,g1,g2,g3,g4,g5,g6,g7,g8,g9,g10,.int .i64 (IntKind.i64.wrap (x11 + 1)),g12,g13,g14,g15,g16,g17,g18,g19,g20,g21,g22,g23,g24,g25,g26,g27,g28,g29,g30,g31,g32,g33,g34,g35,g36,g37,g38,g39,g40,g41,g42,g43,g44,g45,g46,g47,g48,g49,g50,g51,g52,g53,g54,.int .i64 x11,.int .i64 (IntKind.i64.wrap (x11 + 1)),g57,g58,g59,g60,g61,g62,g63,g64,g65,g66,g67,g68,g69,g70,g71,g72,g73,g74,g75,g76,g77,g78,g79,g80,g81,g82,g83,g84,g85,g86,g87,g88,g89,g90,g91,g92,g93,g94,g95] M := by kernel_rfl
theorem k8_57 : P8 [1,1,1,1,1,1,1,0,1,0,0,0,1,1] = .exit 0 := by kernel_rfl
theorem k8_58 : P8 [1,1,1,1,1,1,1,1] = .seq (P8 [1,1,1,1,1,1,1,1,0]) (P8 [1,1,1,1,1,1,1,1,1]) := by kernel_rfl
theorem k8_59 : P8 [1,1,1,1,1,1,1,1,0] = .region 16 (O8 [1,1,1,1,1,1,1,1,0]) false := by kernel_rfl
theorem r8_16 {Ax0 : Option Addr} {lx0 cx0 : Nat} {x1 : Int} {Ax7 : Option Addr} {lx7 cx7 : Nat} {M : Mem} {call : CallM} {K : Array Value → Mem → R} :
    opsK Try.prog (fun _ => call) (O8 [1,1,1,1,1,1,1,1,0]) (O8 [1,1,1,1,1,1,1,1,0]).toList 0 #[.slice Ax0 lx0 cx0,.int .i64 x1,g2,g3,g4,g5,g6,.slice Ax7 lx7 cx7,g8,g9,g10,g11,g12,g13,g14,g15,g16,g17,g18,g19,g20,g21,g22,g23,g24,g25,g26,g27,g28,g29,g30,g31,g32,g33,g34,g35,g36,g37,g38,g39,g40,g41,g42,g43,g44,g45,g46,g47,g48,g49,g50,g51,g52,g53,g54,g55,g56,g57,g58,g59,g60,g61,g62,g63,g64,g65,g66,g67,g68,g69,g70,g71,g72,g73,g74,g75,g76,g77,g78,g79,g80,g81,g82,g83,g84,g85,g86,g87,g88,g89,g90,g91,g92,g93,g94,g95] M K = (call 15 #[.int .i64 x1, .int .i64 ((lx7 : Int))] M).bind fun r_1 => (asI .i64 r_1.1).bind fun x_2 => (sliceP Try.prog 46 (.slice Ax7 lx7 cx7) none (some (.int .i64 x_2)) none).bind fun v_3 => (asS v_3).bind fun s_4 => (call 26 #[.slice s_4.1 (s_4.2.1) (s_4.2.2), .int .i64 ((lx0 : Int))] r_1.2).bind fun r_5 => (asU 2 r_5.1).bind fun cs_6 => (asS (cs_6.getD 0 undef)).bind fun s_7 => (asI .i64 (cs_6.getD 1 undef)).bind fun x_8 => K #[.slice Ax0 lx0 cx0,.int .i64 x1,g2,g3,g4,g5,g6,.slice Ax7 lx7 cx7,g8,g9,g10,g11,.slice s_7.1 (s_7.2.1) (s_7.2.2),.int .i64 x_8,g14,g15,g16,g17,g18,g19,g20,g21,g22,g23,g24,g25,g26,g27,g28,g29,g30,g31,g32,g33,g34,g35,g36,g37,g38,g39,g40,g41,g42,g43,g44,g45,g46,g47,g48,g49,g50,g51,g52,g53,g54,g55,g56,g57,g58,g59,g60,g61,g62,g63,g64,g65,g66,.tuple #[.slice s_7.1 (s_7.2.1) (s_7.2.2), .int .i64 x_8],.slice Ax7 lx7 cx7,.int .i64 x1,.slice Ax7 lx7 cx7,.int .i64 ((lx7 : Int)),.int .i64 x_2,.slice s_4.1 (s_4.2.1) (s_4.2.2),.slice Ax0 lx0 cx0,.int .i64 ((lx0 : Int)),.tuple #[.slice s_7.1 (s_7.2.1) (s_7.2.2), .int .i64 x_8],.slice s_7.1 (s_7.2.1) (s_7.2.2),.int .i64 x_8,g79,g80,g81,g82,g83,g84,g85,g86,g87,g88,g89,g90,g91,g92,g93,g94,g95] r_5.2 := by kernel_rfl
theorem k8_60 : P8 [1,1,1,1,1,1,1,1,1] = .seq (P8 [1,1,1,1,1,1,1,1,1,0]) (P8 [1,1,1,1,1,1,1,1,1,1]) := by kernel_rfl
theorem k8_61 : P8 [1,1,1,1,1,1,1,1,1,0] = .region 17 (O8 [1,1,1,1,1,1,1,1,1,0]) false := by kernel_rfl
theorem r8_17 {Ax0 : Option Addr} {lx0 cx0 : Nat} {x2 : Int} {Ax7 : Option Addr} {lx7 cx7 : Nat} {M : Mem} {call : CallM} {K : Array Value → Mem → R} :
    opsK Try.prog (fun _ => call) (O8 [1,1,1,1,1,1,1,1,1,0]) (O8 [1,1,1,1,1,1,1,1,1,0]).toList 0 #[.slice Ax0 lx0 cx0,g1,.int .u8 x2,g3,g4,g5,g6,.slice Ax7 lx7 cx7,g8,g9,g10,g11,g12,g13,g14,g15,g16,g17,g18,g19,g20,g21,g22,g23,g24,g25,g26,g27,g28,g29,g30,g31,g32,g33,g34,g35,g36,g37,g38,g39,g40,g41,g42,g43,g44,g45,g46,g47,g48,g49,g50,g51,g52,g53,g54,g55,g56,g57,g58,g59,g60,g61,g62,g63,g64,g65,g66,g67,g68,g69,g70,g71,g72,g73,g74,g75,g76,g77,g78,g79,g80,g81,g82,g83,g84,g85,g86,g87,g88,g89,g90,g91,g92,g93,g94,g95] M K = (call 21 #[.slice Ax7 lx7 cx7] M).bind fun r_1 => (asS r_1.1).bind fun s_2 => (appendP Try.prog #[46, 46] (.slice s_2.1 (s_2.2.1) (s_2.2.2)) (.slice (some ⟨2 * r_1.2.nb.size, 0, none⟩) 1 1) (r_1.2.new (.cells #[.int .u8 x2] 5))).bind fun r_3 => (asS r_3.1).bind fun s_4 => (call 26 #[.slice s_4.1 (s_4.2.1) (s_4.2.2), .int .i64 ((lx0 : Int))] r_3.2).bind fun r_5 => (asU 2 r_5.1).bind fun cs_6 => (asS (cs_6.getD 0 undef)).bind fun s_7 => (asI .i64 (cs_6.getD 1 undef)).bind fun x_8 => K #[.slice Ax0 lx0 cx0,g1,.int .u8 x2,g3,g4,g5,g6,.slice Ax7 lx7 cx7,g8,g9,g10,g11,g12,g13,.slice s_7.1 (s_7.2.1) (s_7.2.2),.int .i64 x_8,g16,g17,g18,g19,g20,g21,g22,g23,g24,g25,g26,g27,g28,g29,g30,g31,g32,g33,g34,g35,g36,g37,g38,g39,g40,g41,g42,g43,g44,g45,g46,g47,g48,g49,g50,g51,g52,g53,g54,g55,g56,g57,g58,g59,g60,g61,g62,g63,g64,g65,g66,g67,g68,g69,g70,g71,g72,g73,g74,g75,g76,g77,g78,.tuple #[.slice s_7.1 (s_7.2.1) (s_7.2.2), .int .i64 x_8],.slice Ax7 lx7 cx7,.slice s_2.1 (s_2.2.1) (s_2.2.2),.int .u8 x2,.slice (some ⟨2 * r_1.2.nb.size, 0, none⟩) 1 1,.slice s_4.1 (s_4.2.1) (s_4.2.2),.slice Ax0 lx0 cx0,.int .i64 ((lx0 : Int)),.tuple #[.slice s_7.1 (s_7.2.1) (s_7.2.2), .int .i64 x_8],.slice s_7.1 (s_7.2.1) (s_7.2.2),.int .i64 x_8,g90,g91,g92,g93,g94,g95] r_5.2 := by kernel_rfl
theorem k8_62 : P8 [1,1,1,1,1,1,1,1,1,1] = .seq (P8 [1,1,1,1,1,1,1,1,1,1,0]) (P8 [1,1,1,1,1,1,1,1,1,1,1]) := by kernel_rfl
theorem k8_63 : P8 [1,1,1,1,1,1,1,1,1,1,0] = .region 18 (O8 [1,1,1,1,1,1,1,1,1,1,0]) false := by kernel_rfl
theorem r8_18 {x13 x15 : Int} {M : Mem} {call : CallM} {K : Array Value → Mem → R} :
    opsK Try.prog (fun _ => call) (O8 [1,1,1,1,1,1,1,1,1,1,0]) (O8 [1,1,1,1,1,1,1,1,1,1,0]).toList 0 #[g0,g1,g2,g3,g4,g5,g6,g7,g8,g9,g10,g11,g12,.int .i64 x13,g14,.int .i64 x15,g16,g17,g18,g19,g20,g21,g22,g23,g24,g25,g26,g27,g28,g29,g30,g31,g32,g33,g34,g35,g36,g37,g38,g39,g40,g41,g42,g43,g44,g45,g46,g47,g48,g49,g50,g51,g52,g53,g54,g55,g56,g57,g58,g59,g60,g61,g62,g63,g64,g65,g66,g67,g68,g69,g70,g71,g72,g73,g74,g75,g76,g77,g78,g79,g80,g81,g82,g83,g84,g85,g86,g87,g88,g89,g90,g91,g92,g93,g94,g95] M K = withK (fun w6 w92 w93 w94 w95 M => K #[g0,g1,g2,g3,g4,g5,w6,g7,g8,g9,g10,g11,g12,.int .i64 x13,g14,.int .i64 x15,g16,g17,g18,g19,g20,g21,g22,g23,g24,g25,g26,g27,g28,g29,g30,g31,g32,g33,g34,g35,g36,g37,g38,g39,g40,g41,g42,g43,g44,g45,g46,g47,g48,g49,g50,g51,g52,g53,g54,g55,g56,g57,g58,g59,g60,g61,g62,g63,g64,g65,g66,g67,g68,g69,g70,g71,g72,g73,g74,g75,g76,g77,g78,g79,g80,g81,g82,g83,g84,g85,g86,g87,g88,g89,.int .i64 x13,.bool (x13 == 3),w92,w93,w94,w95] M) fun k => cond (x13 == 3) (k (.bool (x15 == 4)) (.bool true) (.int .i64 x15) (.bool (x15 == 4)) (.bool (x15 == 4)) M) (k (.bool false) (.bool false) undef undef (.bool false) M) := by kernel_rfl
theorem k8_64 : P8 [1,1,1,1,1,1,1,1,1,1,1] = .ret := by kernel_rfl
noncomputable def S8_1 : List Item := [.code (P8 [1,1,1,1,1,1,0,1]), .code (P8 [1,1,1,1,1,1,1])]
def A8_1 (Ax0 : Option Addr) (lx0 cx0 : Nat) (x1 x2 : Int) (Ax7 : Option Addr) (lx7 cx7 : Nat) (Ax9 : Option Addr) (lx9 cx9 : Nat) (x50 : Bool) (M : Mem) (Q : Value → Mem → Prop) : Prop := ∀ (g3 g4 g5 g6 g8 g10 g11 g12 g13 g14 g15 g16 g17 g18 g19 g20 g21 g22 g23 g24 g25 g26 g27 g28 g29 g30 g31 g32 g33 g34 g35 g36 g37 g38 g39 g40 g41 g42 g43 g44 g45 g46 g47 g48 g49 g51 g52 g53 g54 g55 g56 g57 g58 g59 g60 g61 g62 g63 g64 g65 g66 g67 g68 g69 g70 g71 g72 g73 g74 g75 g76 g77 g78 g79 g80 g81 g82 g83 g84 g85 g86 g87 g88 g89 g90 g91 g92 g93 g94 g95 : Value), Rn Try.prog Try.f8 S8_1 #[.slice Ax0 lx0 cx0, .int .i64 x1, .int .u8 x2, g3, g4, g5, g6, .slice Ax7 lx7 cx7, g8, .slice Ax9 lx9 cx9, g10, g11, g12, g13, g14, g15, g16, g17, g18, g19, g20, g21, g22, g23, g24, g25, g26, g27, g28, g29, g30, g31, g32, g33, g34, g35, g36, g37, g38, g39, g40, g41, g42, g43, g44, g45, g46, g47, g48, g49, .bool x50, g51, g52, g53, g54, g55, g56, g57, g58, g59, g60, g61, g62, g63, g64, g65, g66, g67, g68, g69, g70, g71, g72, g73, g74, g75, g76, g77, g78, g79, g80, g81, g82, g83, g84, g85, g86, g87, g88, g89, g90, g91, g92, g93, g94, g95] M Q
noncomputable def S8_2 : List Item := [.code (P8 [1,1,1,1,1,1,1,0,1,0,0]), .inLoop (P8 [1,1,1,1,1,1,1,0,1,0,0]), .inBlock 0, .code (P8 [1,1,1,1,1,1,1,1])]
def A8_2 (Ax0 : Option Addr) (lx0 cx0 : Nat) (x1 x2 : Int) (Ax7 : Option Addr) (lx7 cx7 : Nat) (Ax9 : Option Addr) (lx9 cx9 : Nat) (x11 : Int) (M : Mem) (Q : Value → Mem → Prop) : Prop := ∀ (g3 g4 g5 g6 g8 g10 g12 g13 g14 g15 g16 g17 g18 g19 g20 g21 g22 g23 g24 g25 g26 g27 g28 g29 g30 g31 g32 g33 g34 g35 g36 g37 g38 g39 g40 g41 g42 g43 g44 g45 g46 g47 g48 g49 g50 g51 g52 g53 g54 g55 g56 g57 g58 g59 g60 g61 g62 g63 g64 g65 g66 g67 g68 g69 g70 g71 g72 g73 g74 g75 g76 g77 g78 g79 g80 g81 g82 g83 g84 g85 g86 g87 g88 g89 g90 g91 g92 g93 g94 g95 : Value), Rn Try.prog Try.f8 S8_2 #[.slice Ax0 lx0 cx0, .int .i64 x1, .int .u8 x2, g3, g4, g5, g6, .slice Ax7 lx7 cx7, g8, .slice Ax9 lx9 cx9, g10, .int .i64 x11, g12, g13, g14, g15, g16, g17, g18, g19, g20, g21, g22, g23, g24, g25, g26, g27, g28, g29, g30, g31, g32, g33, g34, g35, g36, g37, g38, g39, g40, g41, g42, g43, g44, g45, g46, g47, g48, g49, g50, g51, g52, g53, g54, g55, g56, g57, g58, g59, g60, g61, g62, g63, g64, g65, g66, g67, g68, g69, g70, g71, g72, g73, g74, g75, g76, g77, g78, g79, g80, g81, g82, g83, g84, g85, g86, g87, g88, g89, g90, g91, g92, g93, g94, g95] M Q
theorem w8_0 {Ax0 : Option Addr} {lx0 cx0 : Nat} {x1 x2 : Int} {M : Mem} {Q : Value → Mem → Prop} (H :
    Cn Try.prog 14 #[] M fun v1' N1' =>
     ∃ b2', asB v1' = some b2' ∧
     (((!b2') = true →
      Q (.bool false) N1') ∧
      ((!b2') = false →
      ((((lx0 : Int)) > 16 →
       ∃ v3', sliceP Try.prog 45 (.slice Ax0 lx0 cx0) none (some (.int .i64 16)) none = some v3' ∧
       ∃ s4', asS v3' = some s4' ∧
       ((((s4'.2.1 : Int)) = 0 →
        Q (.bool true) N1') ∧
        (((s4'.2.1 : Int)) ≠ 0 →
        Cn Try.prog 22 #[.slice s4'.1 s4'.2.1 s4'.2.2] N1' fun v5' N5' =>
         ∃ cs6', asU 2 v5' = some cs6' ∧
         ∃ s7', asS (cs6'.getD 0 undef) = some s7' ∧
         ∃ x8', asI .i64 (cs6'.getD 1 undef) = some x8' ∧
         Cn Try.prog 26 #[.slice s7'.1 s7'.2.1 s7'.2.2, .int .i64 ((s4'.2.1 : Int))] N5' fun v9' N9' =>
          ∃ cs10', asU 2 v9' = some cs10' ∧
          ∃ s11', asS (cs10'.getD 0 undef) = some s11' ∧
          ∃ x12', asI .i64 (cs10'.getD 1 undef) = some x12' ∧
          ((x8' ≠ 0 →
           A8_1 s4'.1 s4'.2.1 s4'.2.2 x1 x2 s7'.1 s7'.2.1 s7'.2.2 s11'.1 s11'.2.1 s11'.2.2 true N9' Q) ∧
           (x8' = 0 →
           ((x12' ≠ 0 →
            A8_1 s4'.1 s4'.2.1 s4'.2.2 x1 x2 s7'.1 s7'.2.1 s7'.2.2 s11'.1 s11'.2.1 s11'.2.2 true N9' Q) ∧
            (x12' = 0 →
            A8_1 s4'.1 s4'.2.1 s4'.2.2 x1 x2 s7'.1 s7'.2.1 s7'.2.2 s11'.1 s11'.2.1 s11'.2.2 (((s11'.2.1 : Int)) != ((s4'.2.1 : Int))) N9' Q))))))) ∧
       (¬ (((lx0 : Int)) > 16) →
       ((((lx0 : Int)) = 0 →
        Q (.bool true) N1') ∧
        (((lx0 : Int)) ≠ 0 →
        Cn Try.prog 22 #[.slice Ax0 lx0 cx0] N1' fun v13' N13' =>
         ∃ cs14', asU 2 v13' = some cs14' ∧
         ∃ s15', asS (cs14'.getD 0 undef) = some s15' ∧
         ∃ x16', asI .i64 (cs14'.getD 1 undef) = some x16' ∧
         Cn Try.prog 26 #[.slice s15'.1 s15'.2.1 s15'.2.2, .int .i64 ((lx0 : Int))] N13' fun v17' N17' =>
          ∃ cs18', asU 2 v17' = some cs18' ∧
          ∃ s19', asS (cs18'.getD 0 undef) = some s19' ∧
          ∃ x20', asI .i64 (cs18'.getD 1 undef) = some x20' ∧
          ((x16' ≠ 0 →
           A8_1 Ax0 lx0 cx0 x1 x2 s15'.1 s15'.2.1 s15'.2.2 s19'.1 s19'.2.1 s19'.2.2 true N17' Q) ∧
           (x16' = 0 →
           ((x20' ≠ 0 →
            A8_1 Ax0 lx0 cx0 x1 x2 s15'.1 s15'.2.1 s15'.2.2 s19'.1 s19'.2.1 s19'.2.2 true N17' Q) ∧
            (x20' = 0 →
            A8_1 Ax0 lx0 cx0 x1 x2 s15'.1 s15'.2.1 s15'.2.2 s19'.1 s19'.2.1 s19'.2.2 (((s19'.2.1 : Int)) != ((lx0 : Int))) N17' Q))))))))))) :
    Cn Try.prog 8 #[.slice Ax0 lx0 cx0, .int .i64 x1, .int .u8 x2] M Q := by
  refine Cn.of b8 d8 t8 ?_
  refine Rn.seq k8_0 (Rn.region k8_1 (fun call K => r8_0) (Rch.leaf (Rn.seq k8_2 (Rn.seq k8_3 (Rn.region k8_4 (fun call K => r8_1) (Rch.call H fun v1' N1' H => Rch.ex H fun b2' H => Rch.leaf ?_))))))
  refine Rn.cnd (v := !b2') ⟨c8_5, rfl, by kernel_rfl⟩ (fun h => ?_) (fun h => ?_)
  · replace H := H.1 (h)
    refine Rn.seq k8_6 (Rn.region k8_7 (fun call K => r8_2) (Rch.leaf ?_))
    exact Rn.ret k8_8 e8 H
  · replace H := H.2 (h)
    refine Rn.skip k8_10 (Rn.seq k8_11 (Rn.seq k8_12 (Rn.region k8_13 (fun call K => r8_3) (Rch.leaf ?_))))
    refine Rn.cnd (v := decide (((lx0 : Int)) > 16)) ⟨c8_14, rfl, by kernel_rfl⟩ (fun h => ?_) (fun h => ?_)
    · replace H := H.1 (of_decide_eq_true h)
      refine Rn.region k8_15 (fun call K => r8_4) (Rch.ex H fun v3' H => Rch.ex H fun s4' H => Rch.leaf (Rn.seq k8_16 (Rn.seq k8_17 (Rn.region k8_18 (fun call K => r8_5) (Rch.leaf ?_)))))
      refine Rn.cnd (v := ((s4'.2.1 : Int)) == 0) ⟨c8_19, rfl, by kernel_rfl⟩ (fun h => ?_) (fun h => ?_)
      · replace H := H.1 (eq_of_beq h)
        refine Rn.seq k8_20 (Rn.region k8_21 (fun call K => r8_6) (Rch.leaf ?_))
        exact Rn.ret k8_22 e8 H
      · replace H := H.2 (ne_of_beq_false h)
        refine Rn.skip k8_23 (Rn.seq k8_24 (Rn.region k8_25 (fun call K => r8_7) (Rch.call H fun v5' N5' H => Rch.ex H fun cs6' H => Rch.ex H fun s7' H => Rch.ex H fun x8' H => Rch.leaf (Rn.seq k8_26 (Rn.region k8_27 (fun call K => r8_8) (Rch.call H fun v9' N9' H => Rch.ex H fun cs10' H => ?_))))))
        refine Rch.ex H fun s11' H => Rch.ex H fun x12' H => Rch.leaf (Rn.seq k8_28 (Rn.seq k8_29 (Rn.region k8_30 (fun call K => r8_9) ?_)))
        refine Rch.cB (fun h => ?_) (fun h => ?_)
        · replace H := H.1 (ne_of_bneT h)
          refine Rch.leaf ?_
          exact H _ _ _ _ _ _ _ _ _ _ _ _ _ _ _ _ _ _ _ _ _ _ _ _ _ _ _ _ _ _ _ _ _ _ _ _ _ _ _ _ _ _ _ _ _ _ _ _ _ _ _ _ _ _ _ _ _ _ _ _ _ _ _ _ _ _ _ _ _ _ _ _ _ _ _ _ _ _ _ _ _ _ _ _ _ _ _ _ _ _
        · replace H := H.2 (eq_of_bneF h)
          refine Rch.cB (fun h => ?_) (fun h => ?_)
          · replace H := H.1 (ne_of_bneT h)
            refine Rch.leaf ?_
            exact H _ _ _ _ _ _ _ _ _ _ _ _ _ _ _ _ _ _ _ _ _ _ _ _ _ _ _ _ _ _ _ _ _ _ _ _ _ _ _ _ _ _ _ _ _ _ _ _ _ _ _ _ _ _ _ _ _ _ _ _ _ _ _ _ _ _ _ _ _ _ _ _ _ _ _ _ _ _ _ _ _ _ _ _ _ _ _ _ _ _
          · replace H := H.2 (eq_of_bneF h)
            refine Rch.leaf ?_
            exact H _ _ _ _ _ _ _ _ _ _ _ _ _ _ _ _ _ _ _ _ _ _ _ _ _ _ _ _ _ _ _ _ _ _ _ _ _ _ _ _ _ _ _ _ _ _ _ _ _ _ _ _ _ _ _ _ _ _ _ _ _ _ _ _ _ _ _ _ _ _ _ _ _ _ _ _ _ _ _ _ _ _ _ _ _ _ _ _ _ _
    · replace H := H.2 (of_decide_eq_false h)
      refine Rn.skip k8_31 (Rn.seq k8_16 (Rn.seq k8_17 (Rn.region k8_18 (fun call K => r8_5) (Rch.leaf ?_))))
      refine Rn.cnd (v := ((lx0 : Int)) == 0) ⟨c8_19, rfl, by kernel_rfl⟩ (fun h => ?_) (fun h => ?_)
      · replace H := H.1 (eq_of_beq h)
        refine Rn.seq k8_20 (Rn.region k8_21 (fun call K => r8_6) (Rch.leaf ?_))
        exact Rn.ret k8_22 e8 H
      · replace H := H.2 (ne_of_beq_false h)
        refine Rn.skip k8_23 (Rn.seq k8_24 (Rn.region k8_25 (fun call K => r8_7) (Rch.call H fun v13' N13' H => Rch.ex H fun cs14' H => Rch.ex H fun s15' H => Rch.ex H fun x16' H => Rch.leaf (Rn.seq k8_26 (Rn.region k8_27 (fun call K => r8_8) (Rch.call H fun v17' N17' H => Rch.ex H fun cs18' H => ?_))))))
        refine Rch.ex H fun s19' H => Rch.ex H fun x20' H => Rch.leaf (Rn.seq k8_28 (Rn.seq k8_29 (Rn.region k8_30 (fun call K => r8_9) ?_)))
        refine Rch.cB (fun h => ?_) (fun h => ?_)
        · replace H := H.1 (ne_of_bneT h)
          refine Rch.leaf ?_
          exact H _ _ _ _ _ _ _ _ _ _ _ _ _ _ _ _ _ _ _ _ _ _ _ _ _ _ _ _ _ _ _ _ _ _ _ _ _ _ _ _ _ _ _ _ _ _ _ _ _ _ _ _ _ _ _ _ _ _ _ _ _ _ _ _ _ _ _ _ _ _ _ _ _ _ _ _ _ _ _ _ _ _ _ _ _ _ _ _ _ _
        · replace H := H.2 (eq_of_bneF h)
          refine Rch.cB (fun h => ?_) (fun h => ?_)
          · replace H := H.1 (ne_of_bneT h)
            refine Rch.leaf ?_
            exact H _ _ _ _ _ _ _ _ _ _ _ _ _ _ _ _ _ _ _ _ _ _ _ _ _ _ _ _ _ _ _ _ _ _ _ _ _ _ _ _ _ _ _ _ _ _ _ _ _ _ _ _ _ _ _ _ _ _ _ _ _ _ _ _ _ _ _ _ _ _ _ _ _ _ _ _ _ _ _ _ _ _ _ _ _ _ _ _ _ _
          · replace H := H.2 (eq_of_bneF h)
            refine Rch.leaf ?_
            exact H _ _ _ _ _ _ _ _ _ _ _ _ _ _ _ _ _ _ _ _ _ _ _ _ _ _ _ _ _ _ _ _ _ _ _ _ _ _ _ _ _ _ _ _ _ _ _ _ _ _ _ _ _ _ _ _ _ _ _ _ _ _ _ _ _ _ _ _ _ _ _ _ _ _ _ _ _ _ _ _ _ _ _ _ _ _ _ _ _ _

theorem w8_1 {Ax0 : Option Addr} {lx0 cx0 : Nat} {x1 x2 : Int} {Ax7 : Option Addr} {lx7 cx7 : Nat} {Ax9 : Option Addr} {lx9 cx9 : Nat} {x50 : Bool} {M : Mem} {Q : Value → Mem → Prop} (H :
    ((x50 = true →
     Q (.bool false) M) ∧
     (x50 = false →
     A8_2 Ax0 lx0 cx0 x1 x2 Ax7 lx7 cx7 Ax9 lx9 cx9 0 M Q))) :
    A8_1 Ax0 lx0 cx0 x1 x2 Ax7 lx7 cx7 Ax9 lx9 cx9 x50 M Q := by
  intro g3 g4 g5 g6 g8 g10 g11 g12 g13 g14 g15 g16 g17 g18 g19 g20 g21 g22 g23 g24 g25 g26 g27 g28 g29 g30 g31 g32 g33 g34 g35 g36 g37 g38 g39 g40 g41 g42 g43 g44 g45 g46 g47 g48 g49 g51 g52 g53 g54 g55 g56 g57 g58 g59 g60 g61 g62 g63 g64 g65 g66 g67 g68 g69 g70 g71 g72 g73 g74 g75 g76 g77 g78 g79 g80 g81 g82 g83 g84 g85 g86 g87 g88 g89 g90 g91 g92 g93 g94 g95
  refine Rn.cnd (v := x50) ⟨c8_32, rfl, by kernel_rfl⟩ (fun h => ?_) (fun h => ?_)
  · replace H := H.1 (h)
    refine Rn.seq k8_33 (Rn.region k8_34 (fun call K => r8_10) (Rch.leaf ?_))
    exact Rn.ret k8_35 e8 H
  · replace H := H.2 (h)
    refine Rn.skip k8_36 (Rn.seq k8_37 (Rn.seq k8_38 (Rn.region k8_39 (fun call K => r8_11) (Rch.leaf (Rn.block k8_40 (Rn.loop k8_41 ?_))))))
    exact H _ _ _ _ _ _ _ _ _ _ _ _ _ _ _ _ _ _ _ _ _ _ _ _ _ _ _ _ _ _ _ _ _ _ _ _ _ _ _ _ _ _ _ _ _ _ _ _ _ _ _ _ _ _ _ _ _ _ _ _ _ _ _ _ _ _ _ _ _ _ _ _ _ _ _ _ _ _ _ _ _ _ _ _ _ _ _ _ _ _

theorem w8_2 {Ax0 : Option Addr} {lx0 cx0 : Nat} {x1 x2 : Int} {Ax7 : Option Addr} {lx7 cx7 : Nat} {Ax9 : Option Addr} {lx9 cx9 : Nat} {x11 : Int} {M : Mem} {Q : Value → Mem → Prop} (H :
    ((x11 < ((lx0 : Int)) →
     ∃ a21', idxA Ax9 lx9 1 x11 = some a21' ∧
     ∃ s22', M.slAt a21'.block a21'.off = some s22' ∧
     ∃ a23', idxA Ax0 lx0 1 x11 = some a23' ∧
     ∃ s24', M.slAt a23'.block a23'.off = some s24' ∧
     Cn Try.prog 24 #[.slice s22'.1 (s22'.2.1) (s22'.2.2), .slice s24'.1 (s24'.2.1) (s24'.2.2)] M fun v25' N25' =>
      ∃ b26', asB v25' = some b26' ∧
      (((!b26') = true →
       Q (.bool false) N25') ∧
       ((!b26') = false →
       A8_2 Ax0 lx0 cx0 x1 x2 Ax7 lx7 cx7 Ax9 lx9 cx9 (IntKind.i64.wrap (x11 + 1)) N25' Q))) ∧
     (¬ (x11 < ((lx0 : Int))) →
     Cn Try.prog 15 #[.int .i64 x1, .int .i64 ((lx7 : Int))] M fun v27' N27' =>
      ∃ x28', asI .i64 v27' = some x28' ∧
      ∃ v29', sliceP Try.prog 46 (.slice Ax7 lx7 cx7) none (some (.int .i64 x28')) none = some v29' ∧
      ∃ s30', asS v29' = some s30' ∧
      Cn Try.prog 26 #[.slice s30'.1 (s30'.2.1) (s30'.2.2), .int .i64 ((lx0 : Int))] N27' fun v31' N31' =>
       ∃ cs32', asU 2 v31' = some cs32' ∧
       ∃ s33', asS (cs32'.getD 0 undef) = some s33' ∧
       ∃ x34', asI .i64 (cs32'.getD 1 undef) = some x34' ∧
       Cn Try.prog 21 #[.slice Ax7 lx7 cx7] N31' fun v35' N35' =>
        ∃ s36', asS v35' = some s36' ∧
        ∃ r37', appendP Try.prog #[46, 46] (.slice s36'.1 (s36'.2.1) (s36'.2.2)) (.slice (some ⟨2 * N35'.nb.size, 0, none⟩) 1 1) (N35'.new (.cells #[.int .u8 x2] 5)) = some r37' ∧
        ∃ s38', asS r37'.1 = some s38' ∧
        Cn Try.prog 26 #[.slice s38'.1 (s38'.2.1) (s38'.2.2), .int .i64 ((lx0 : Int))] r37'.2 fun v39' N39' =>
         ∃ cs40', asU 2 v39' = some cs40' ∧
         ∃ s41', asS (cs40'.getD 0 undef) = some s41' ∧
         ∃ x42', asI .i64 (cs40'.getD 1 undef) = some x42' ∧
         ((x34' = 3 →
          Q (.bool (x42' == 4)) N39') ∧
          (x34' ≠ 3 →
          Q (.bool false) N39'))))) :
    A8_2 Ax0 lx0 cx0 x1 x2 Ax7 lx7 cx7 Ax9 lx9 cx9 x11 M Q := by
  intro g3 g4 g5 g6 g8 g10 g12 g13 g14 g15 g16 g17 g18 g19 g20 g21 g22 g23 g24 g25 g26 g27 g28 g29 g30 g31 g32 g33 g34 g35 g36 g37 g38 g39 g40 g41 g42 g43 g44 g45 g46 g47 g48 g49 g50 g51 g52 g53 g54 g55 g56 g57 g58 g59 g60 g61 g62 g63 g64 g65 g66 g67 g68 g69 g70 g71 g72 g73 g74 g75 g76 g77 g78 g79 g80 g81 g82 g83 g84 g85 g86 g87 g88 g89 g90 g91 g92 g93 g94 g95
  refine Rn.seq k8_42 (Rn.seq k8_43 (Rn.region k8_44 (fun call K => r8_12) (Rch.leaf ?_)))
  refine Rn.cnd (v := decide (x11 < ((lx0 : Int)))) ⟨c8_45, rfl, by kernel_rfl⟩ (fun h => ?_) (fun h => ?_)
  · replace H := H.1 (of_decide_eq_true h)
    refine Rn.skip k8_46 (Rn.seq k8_47 (Rn.block k8_48 (Rn.seq k8_49 (Rn.regionD k8_50 (fun call K => r8_14) (Rch.ex H fun a21' H => Rch.ex H fun s22' H => Rch.ex H fun a23' H => Rch.ex H fun s24' H => Rch.call H fun v25' N25' H => Rch.ex H fun b26' H => Rch.leaf ?_)))))
    refine Rn.cnd (v := !b26') ⟨c8_51, rfl, by kernel_rfl⟩ (fun h => ?_) (fun h => ?_)
    · replace H := H.1 (h)
      refine Rn.seq k8_52 (Rn.region k8_53 (fun call K => r8_15) (Rch.leaf ?_))
      exact Rn.ret k8_54 e8 H
    · replace H := H.2 (h)
      refine Rn.skip k8_55 (Rn.blk (Rn.region k8_56 (fun call K => r8_13) (Rch.leaf (Rn.lp ?_))))
      exact H _ _ _ _ _ _ _ _ _ _ _ _ _ _ _ _ _ _ _ _ _ _ _ _ _ _ _ _ _ _ _ _ _ _ _ _ _ _ _ _ _ _ _ _ _ _ _ _ _ _ _ _ _ _ _ _ _ _ _ _ _ _ _ _ _ _ _ _ _ _ _ _ _ _ _ _ _ _ _ _ _ _ _ _ _ _ _ _ _ _
  · replace H := H.2 (of_decide_eq_false h)
    refine Rn.exit k8_57 rfl (Rn.seq k8_58 (Rn.region k8_59 (fun call K => r8_16) (Rch.call H fun v27' N27' H => Rch.ex H fun x28' H => Rch.ex H fun v29' H => Rch.ex H fun s30' H => Rch.call H fun v31' N31' H => Rch.ex H fun cs32' H => Rch.ex H fun s33' H => Rch.ex H fun x34' H => Rch.leaf ?_)))
    refine Rn.seq k8_60 (Rn.region k8_61 (fun call K => r8_17) (Rch.call H fun v35' N35' H => Rch.ex H fun s36' H => Rch.ex H fun r37' H => Rch.ex H fun s38' H => Rch.call H fun v39' N39' H => Rch.ex H fun cs40' H => Rch.ex H fun s41' H => Rch.ex H fun x42' H => Rch.leaf (Rn.seq k8_62 ?_)))
    refine Rn.region k8_63 (fun call K => r8_18) ?_
    refine Rch.cB (fun h => ?_) (fun h => ?_)
    · replace H := H.1 (eq_of_beq h)
      refine Rch.leaf ?_
      exact Rn.ret k8_64 e8 H
    · replace H := H.2 (ne_of_beq_false h)
      refine Rch.leaf ?_
      exact Rn.ret k8_64 e8 H


end Go.Zu
