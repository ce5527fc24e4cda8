/- The functions' walks: for each function and each loop a rule of what it comes to. Printed by zw.py. -/
import Derived.Test.YtbbdggpfhcgbpaaProg
import Derived.Test.YtbbdggpfhcgbpaaZcA
set_option linter.unusedVariables false
set_option maxRecDepth 100000
namespace Go.Zt
open Go Go.Sim Go.Proofs

variable {g0 g1 g2 g3 g4 g5 g6 g7 g8 g9 g10 g11 g12 g13 g14 g15 g16 g17 g18 g19 g20 g21 g22 g23 g24 g25 g26 g27 g28 g29 g30 g31 g32 g33 g34 g35 g36 g37 g38 g39 g40 g41 g42 g43 g44 g45 g46 g47 g48 g49 g50 g51 g52 g53 g54 g55 g56 g57 g58 g59 g60 g61 g62 g63 g64 g65 g66 g67 g68 g69 g70 g71 g72 g73 g74 g75 g76 g77 g78 g79 g80 g81 g82 g83 g84 g85 g86 : Value}
/-! ### zoetrope/zoetropelaw19.UnitsBack: function 6 -/
noncomputable abbrev P6 (p : List Nat) : Code := subC (codeOf Try.f6) p
noncomputable abbrev O6 (p : List Nat) : Array Oper := opsOf (subC (codeOf Try.f6) p)
theorem b6 : Try.prog.funcs[6]? = some Try.f6 ∧ (Orc.tab Try.prog).lookup 6 = none := ⟨by kernel_rfl, by kernel_rfl⟩
theorem d6 : Try.f6.body = some (P6 []) := by kernel_rfl
theorem t6 {Ax0 : Option Addr} {lx0 cx0 : Nat} {Ax1 : Option Addr} {lx1 cx1 : Nat} : #[.slice Ax0 lx0 cx0,.slice Ax1 lx1 cx1] ++ Array.replicate (Try.f6.ntmps - (#[.slice Ax0 lx0 cx0,.slice Ax1 lx1 cx1] : Array Value).size) undef = #[.slice Ax0 lx0 cx0,.slice Ax1 lx1 cx1,undef,undef,undef,undef,undef,undef,undef,undef,undef,undef,undef,undef,undef,undef,undef,undef,undef,undef,undef,undef,undef,undef,undef,undef,undef,undef,undef,undef,undef,undef,undef,undef,undef,undef,undef,undef,undef,undef,undef,undef,undef,undef,undef,undef,undef,undef,undef,undef,undef,undef,undef,undef,undef,undef,undef,undef,undef,undef,undef,undef,undef,undef,undef,undef,undef,undef,undef,undef,undef,undef,undef,undef,undef,undef,undef,undef,undef,undef,undef,undef,undef,undef,undef,undef,undef] := by kernel_rfl
theorem k6_0 : P6 [] = .seq (P6 [0]) (P6 [1]) := by kernel_rfl
theorem k6_1 : P6 [0] = .region 0 (O6 [0]) false := by kernel_rfl
theorem r6_0 {M : Mem} {call : CallM} {K : Array Value → Mem → R} :
    opsK Try.prog (fun _ => call) (O6 [0]) (O6 [0]).toList 0 #[g0,g1,g2,g3,g4,g5,g6,g7,g8,g9,g10,g11,g12,g13,g14,g15,g16,g17,g18,g19,g20,g21,g22,g23,g24,g25,g26,g27,g28,g29,g30,g31,g32,g33,g34,g35,g36,g37,g38,g39,g40,g41,g42,g43,g44,g45,g46,g47,g48,g49,g50,g51,g52,g53,g54,g55,g56,g57,g58,g59,g60,g61,g62,g63,g64,g65,g66,g67,g68,g69,g70,g71,g72,g73,g74,g75,g76,g77,g78,g79,g80,g81,g82,g83,g84,g85,g86] M K = K #[g0,g1,g2,g3,.bool false,g5,g6,g7,g8,g9,g10,g11,g12,g13,g14,g15,g16,g17,g18,g19,g20,g21,g22,g23,g24,g25,g26,g27,g28,g29,g30,g31,g32,g33,g34,g35,g36,g37,g38,g39,g40,g41,g42,g43,g44,g45,g46,g47,g48,g49,g50,g51,g52,g53,g54,g55,g56,g57,g58,g59,g60,g61,g62,g63,g64,g65,g66,g67,g68,g69,g70,g71,g72,g73,g74,g75,g76,g77,g78,g79,g80,g81,g82,g83,g84,g85,g86] M := by kernel_rfl
theorem k6_2 : P6 [1] = .seq (P6 [1,0]) (P6 [1,1]) := by kernel_rfl
theorem k6_3 : P6 [1,0] = .seq (P6 [1,0,0]) (P6 [1,0,1]) := by kernel_rfl
theorem k6_4 : P6 [1,0,0] = .region 1 (O6 [1,0,0]) false := by kernel_rfl
theorem r6_1 {M : Mem} {call : CallM} {K : Array Value → Mem → R} :
    opsK Try.prog (fun _ => call) (O6 [1,0,0]) (O6 [1,0,0]).toList 0 #[g0,g1,g2,g3,g4,g5,g6,g7,g8,g9,g10,g11,g12,g13,g14,g15,g16,g17,g18,g19,g20,g21,g22,g23,g24,g25,g26,g27,g28,g29,g30,g31,g32,g33,g34,g35,g36,g37,g38,g39,g40,g41,g42,g43,g44,g45,g46,g47,g48,g49,g50,g51,g52,g53,g54,g55,g56,g57,g58,g59,g60,g61,g62,g63,g64,g65,g66,g67,g68,g69,g70,g71,g72,g73,g74,g75,g76,g77,g78,g79,g80,g81,g82,g83,g84,g85,g86] M K = (call 16 #[] M).bind fun r_1 => (asB r_1.1).bind fun b_2 => K #[g0,g1,g2,g3,g4,g5,g6,g7,g8,g9,g10,g11,g12,g13,g14,.bool b_2,.bool (!b_2),g17,g18,g19,g20,g21,g22,g23,g24,g25,g26,g27,g28,g29,g30,g31,g32,g33,g34,g35,g36,g37,g38,g39,g40,g41,g42,g43,g44,g45,g46,g47,g48,g49,g50,g51,g52,g53,g54,g55,g56,g57,g58,g59,g60,g61,g62,g63,g64,g65,g66,g67,g68,g69,g70,g71,g72,g73,g74,g75,g76,g77,g78,g79,g80,g81,g82,g83,g84,g85,g86] r_1.2 := by kernel_rfl
theorem c6_5 : P6 [1,0,1] = .cond (.tmp 16) (P6 [1,0,1,0]) (P6 [1,0,1,1]) := by kernel_rfl
theorem k6_6 : P6 [1,0,1,0] = .seq (P6 [1,0,1,0,0]) (P6 [1,0,1,0,1]) := by kernel_rfl
theorem k6_7 : P6 [1,0,1,0,0] = .region 2 (O6 [1,0,1,0,0]) false := by kernel_rfl
theorem r6_2 {M : Mem} {call : CallM} {K : Array Value → Mem → R} :
    opsK Try.prog (fun _ => call) (O6 [1,0,1,0,0]) (O6 [1,0,1,0,0]).toList 0 #[g0,g1,g2,g3,g4,g5,g6,g7,g8,g9,g10,g11,g12,g13,g14,g15,g16,g17,g18,g19,g20,g21,g22,g23,g24,g25,g26,g27,g28,g29,g30,g31,g32,g33,g34,g35,g36,g37,g38,g39,g40,g41,g42,g43,g44,g45,g46,g47,g48,g49,g50,g51,g52,g53,g54,g55,g56,g57,g58,g59,g60,g61,g62,g63,g64,g65,g66,g67,g68,g69,g70,g71,g72,g73,g74,g75,g76,g77,g78,g79,g80,g81,g82,g83,g84,g85,g86] M K = K #[g0,g1,g2,g3,.bool false,g5,g6,g7,g8,g9,g10,g11,g12,g13,g14,g15,g16,g17,g18,g19,g20,g21,g22,g23,g24,g25,g26,g27,g28,g29,g30,g31,g32,g33,g34,g35,g36,g37,g38,g39,g40,g41,g42,g43,g44,g45,g46,g47,g48,g49,g50,g51,g52,g53,g54,g55,g56,g57,g58,g59,g60,g61,g62,g63,g64,g65,g66,g67,g68,g69,g70,g71,g72,g73,g74,g75,g76,g77,g78,g79,g80,g81,g82,g83,g84,g85,g86] M := by kernel_rfl
theorem k6_8 : P6 [1,0,1,0,1] = .ret := by kernel_rfl
theorem e6 {M : Mem} : finish Try.prog Try.f6 #[g0,g1,g2,g3,g4,g5,g6,g7,g8,g9,g10,g11,g12,g13,g14,g15,g16,g17,g18,g19,g20,g21,g22,g23,g24,g25,g26,g27,g28,g29,g30,g31,g32,g33,g34,g35,g36,g37,g38,g39,g40,g41,g42,g43,g44,g45,g46,g47,g48,g49,g50,g51,g52,g53,g54,g55,g56,g57,g58,g59,g60,g61,g62,g63,g64,g65,g66,g67,g68,g69,g70,g71,g72,g73,g74,g75,g76,g77,g78,g79,g80,g81,g82,g83,g84,g85,g86] M = some (g4, M) := by kernel_rfl
theorem k6_10 : P6 [1,0,1,1] = .skip := by kernel_rfl
theorem k6_11 : P6 [1,1] = .seq (P6 [1,1,0]) (P6 [1,1,1]) := by kernel_rfl
theorem k6_12 : P6 [1,1,0] = .region 3 (O6 [1,1,0]) false := by kernel_rfl
theorem r6_3 {Ax0 : Option Addr} {lx0 cx0 : Nat} {M : Mem} {call : CallM} {K : Array Value → Mem → R} :
    opsK Try.prog (fun _ => call) (O6 [1,1,0]) (O6 [1,1,0]).toList 0 #[.slice Ax0 lx0 cx0,g1,g2,g3,g4,g5,g6,g7,g8,g9,g10,g11,g12,g13,g14,g15,g16,g17,g18,g19,g20,g21,g22,g23,g24,g25,g26,g27,g28,g29,g30,g31,g32,g33,g34,g35,g36,g37,g38,g39,g40,g41,g42,g43,g44,g45,g46,g47,g48,g49,g50,g51,g52,g53,g54,g55,g56,g57,g58,g59,g60,g61,g62,g63,g64,g65,g66,g67,g68,g69,g70,g71,g72,g73,g74,g75,g76,g77,g78,g79,g80,g81,g82,g83,g84,g85,g86] M K = (call 22 #[.slice Ax0 lx0 cx0] M).bind fun r_1 => (asS r_1.1).bind fun s_2 => K #[.slice s_2.1 (s_2.2.1) (s_2.2.2),g1,g2,g3,g4,g5,g6,g7,g8,g9,g10,g11,g12,g13,g14,g15,g16,.slice Ax0 lx0 cx0,.slice s_2.1 (s_2.2.1) (s_2.2.2),g19,g20,g21,g22,g23,g24,g25,g26,g27,g28,g29,g30,g31,g32,g33,g34,g35,g36,g37,g38,g39,g40,g41,g42,g43,g44,g45,g46,g47,g48,g49,g50,g51,g52,g53,g54,g55,g56,g57,g58,g59,g60,g61,g62,g63,g64,g65,g66,g67,g68,g69,g70,g71,g72,g73,g74,g75,g76,g77,g78,g79,g80,g81,g82,g83,g84,g85,g86] r_1.2 := by kernel_rfl
theorem k6_13 : P6 [1,1,1] = .seq (P6 [1,1,1,0]) (P6 [1,1,1,1]) := by kernel_rfl
theorem k6_14 : P6 [1,1,1,0] = .region 4 (O6 [1,1,1,0]) false := by kernel_rfl
theorem r6_4 {Ax0 : Option Addr} {lx0 cx0 : Nat} {M : Mem} {call : CallM} {K : Array Value → Mem → R} :
    opsK Try.prog (fun _ => call) (O6 [1,1,1,0]) (O6 [1,1,1,0]).toList 0 #[.slice Ax0 lx0 cx0,g1,g2,g3,g4,g5,g6,g7,g8,g9,g10,g11,g12,g13,g14,g15,g16,g17,g18,g19,g20,g21,g22,g23,g24,g25,g26,g27,g28,g29,g30,g31,g32,g33,g34,g35,g36,g37,g38,g39,g40,g41,g42,g43,g44,g45,g46,g47,g48,g49,g50,g51,g52,g53,g54,g55,g56,g57,g58,g59,g60,g61,g62,g63,g64,g65,g66,g67,g68,g69,g70,g71,g72,g73,g74,g75,g76,g77,g78,g79,g80,g81,g82,g83,g84,g85,g86] M K = (call 18 #[.slice Ax0 lx0 cx0] M).bind fun r_1 => (asU 2 r_1.1).bind fun cs_2 => (asS (cs_2.getD 0 undef)).bind fun s_3 => (asI .i64 (cs_2.getD 1 undef)).bind fun x_4 => K #[.slice Ax0 lx0 cx0,g1,g2,g3,g4,.slice s_3.1 (s_3.2.1) (s_3.2.2),.int .i64 x_4,g7,g8,g9,g10,g11,g12,g13,g14,g15,g16,g17,g18,.tuple #[.slice s_3.1 (s_3.2.1) (s_3.2.2), .int .i64 x_4],.slice Ax0 lx0 cx0,.tuple #[.slice s_3.1 (s_3.2.1) (s_3.2.2), .int .i64 x_4],.slice s_3.1 (s_3.2.1) (s_3.2.2),.int .i64 x_4,g24,g25,g26,g27,g28,g29,g30,g31,g32,g33,g34,g35,g36,g37,g38,g39,g40,g41,g42,g43,g44,g45,g46,g47,g48,g49,g50,g51,g52,g53,g54,g55,g56,g57,g58,g59,g60,g61,g62,g63,g64,g65,g66,g67,g68,g69,g70,g71,g72,g73,g74,g75,g76,g77,g78,g79,g80,g81,g82,g83,g84,g85,g86] r_1.2 := by kernel_rfl
theorem k6_15 : P6 [1,1,1,1] = .seq (P6 [1,1,1,1,0]) (P6 [1,1,1,1,1]) := by kernel_rfl
theorem k6_16 : P6 [1,1,1,1,0] = .region 5 (O6 [1,1,1,1,0]) false := by kernel_rfl
theorem r6_5 {Ax5 : Option Addr} {lx5 cx5 : Nat} {M : Mem} {call : CallM} {K : Array Value → Mem → R} :
    opsK Try.prog (fun _ => call) (O6 [1,1,1,1,0]) (O6 [1,1,1,1,0]).toList 0 #[g0,g1,g2,g3,g4,.slice Ax5 lx5 cx5,g6,g7,g8,g9,g10,g11,g12,g13,g14,g15,g16,g17,g18,g19,g20,g21,g22,g23,g24,g25,g26,g27,g28,g29,g30,g31,g32,g33,g34,g35,g36,g37,g38,g39,g40,g41,g42,g43,g44,g45,g46,g47,g48,g49,g50,g51,g52,g53,g54,g55,g56,g57,g58,g59,g60,g61,g62,g63,g64,g65,g66,g67,g68,g69,g70,g71,g72,g73,g74,g75,g76,g77,g78,g79,g80,g81,g82,g83,g84,g85,g86] M K = (call 11 #[.slice Ax5 lx5 cx5] M).bind fun r_1 => (asU 3 r_1.1).bind fun cs_2 => (asS (cs_2.getD 0 undef)).bind fun s_3 => (asI .i64 (cs_2.getD 1 undef)).bind fun x_4 => (asI .i64 (cs_2.getD 2 undef)).bind fun x_5 => K #[g0,g1,g2,g3,g4,.slice Ax5 lx5 cx5,g6,.slice s_3.1 (s_3.2.1) (s_3.2.2),.int .i64 x_4,.int .i64 x_5,g10,g11,g12,g13,g14,g15,g16,g17,g18,g19,g20,g21,g22,g23,.tuple #[.slice s_3.1 (s_3.2.1) (s_3.2.2), .int .i64 x_4, .int .i64 x_5],.slice Ax5 lx5 cx5,.tuple #[.slice s_3.1 (s_3.2.1) (s_3.2.2), .int .i64 x_4, .int .i64 x_5],.slice s_3.1 (s_3.2.1) (s_3.2.2),.int .i64 x_4,.int .i64 x_5,g30,g31,g32,g33,g34,g35,g36,g37,g38,g39,g40,g41,g42,g43,g44,g45,g46,g47,g48,g49,g50,g51,g52,g53,g54,g55,g56,g57,g58,g59,g60,g61,g62,g63,g64,g65,g66,g67,g68,g69,g70,g71,g72,g73,g74,g75,g76,g77,g78,g79,g80,g81,g82,g83,g84,g85,g86] r_1.2 := by kernel_rfl
theorem k6_17 : P6 [1,1,1,1,1] = .seq (P6 [1,1,1,1,1,0]) (P6 [1,1,1,1,1,1]) := by kernel_rfl
theorem k6_18 : P6 [1,1,1,1,1,0] = .seq (P6 [1,1,1,1,1,0,0]) (P6 [1,1,1,1,1,0,1]) := by kernel_rfl
theorem k6_19 : P6 [1,1,1,1,1,0,0] = .region 6 (O6 [1,1,1,1,1,0,0]) false := by kernel_rfl
theorem k6_20 : P6 [1,1,1,1,1,0,0] = .region 6 (O6 [1,1,1,1,1,0,0]) false ∧ (!false || drawOk (O6 [1,1,1,1,1,0,0])) = true := ⟨by kernel_rfl, by kernel_rfl⟩
theorem r6_6p0 {x6 x9 : Int} {M : Mem} {call : CallM} {K : Array Value → Mem → R} :
    segK Try.prog false call (O6 [1,1,1,1,1,0,0]) 0 7 #[g0,g1,g2,g3,g4,g5,.int .i64 x6,g7,g8,.int .i64 x9,g10,g11,g12,g13,g14,g15,g16,g17,g18,g19,g20,g21,g22,g23,g24,g25,g26,g27,g28,g29,g30,g31,g32,g33,g34,g35,g36,g37,g38,g39,g40,g41,g42,g43,g44,g45,g46,g47,g48,g49,g50,g51,g52,g53,g54,g55,g56,g57,g58,g59,g60,g61,g62,g63,g64,g65,g66,g67,g68,g69,g70,g71,g72,g73,g74,g75,g76,g77,g78,g79,g80,g81,g82,g83,g84,g85,g86] M K = withK (fun w32 w33 w34 w35 w36 M => K #[g0,g1,g2,g3,g4,g5,.int .i64 x6,g7,g8,.int .i64 x9,g10,g11,g12,g13,g14,g15,g16,g17,g18,g19,g20,g21,g22,g23,g24,g25,g26,g27,g28,g29,.int .i64 x6,.bool (x6 != 0),w32,w33,w34,w35,w36,g37,g38,g39,g40,g41,g42,g43,g44,g45,g46,g47,g48,g49,g50,g51,g52,g53,g54,g55,g56,g57,g58,g59,g60,g61,g62,g63,g64,g65,g66,g67,g68,g69,g70,g71,g72,g73,g74,g75,g76,g77,g78,g79,g80,g81,g82,g83,g84,g85,g86] M) fun k => cond (x6 != 0) (k (.bool true) undef undef (.bool true) (.bool true) M) (k (.bool false) (.int .i64 x9) (.bool (x9 != 0)) (.bool (x9 != 0)) (.bool (x9 != 0)) M) := by kernel_rfl
theorem r6_6p7 {Ax5 : Option Addr} {lx5 cx5 : Nat} {x8 : Int} {x36 : Bool} {M : Mem} {call : CallM} {K : Array Value → Mem → R} :
    segK Try.prog false call (O6 [1,1,1,1,1,0,0]) 7 6 #[g0,g1,g2,g3,g4,.slice Ax5 lx5 cx5,g6,g7,.int .i64 x8,g9,g10,g11,g12,g13,g14,g15,g16,g17,g18,g19,g20,g21,g22,g23,g24,g25,g26,g27,g28,g29,g30,g31,g32,g33,g34,g35,.bool x36,g37,g38,g39,g40,g41,g42,g43,g44,g45,g46,g47,g48,g49,g50,g51,g52,g53,g54,g55,g56,g57,g58,g59,g60,g61,g62,g63,g64,g65,g66,g67,g68,g69,g70,g71,g72,g73,g74,g75,g76,g77,g78,g79,g80,g81,g82,g83,g84,g85,g86] M K = withK (fun w36 w37 w38 w39 w40 w41 w42 M => K #[g0,g1,g2,g3,g4,.slice Ax5 lx5 cx5,g6,g7,.int .i64 x8,g9,g10,g11,g12,g13,g14,g15,g16,g17,g18,g19,g20,g21,g22,g23,g24,g25,g26,g27,g28,g29,g30,g31,g32,g33,g34,g35,w36,w37,w38,w39,w40,w41,w42,g43,g44,g45,g46,g47,g48,g49,g50,g51,g52,g53,g54,g55,g56,g57,g58,g59,g60,g61,g62,g63,g64,g65,g66,g67,g68,g69,g70,g71,g72,g73,g74,g75,g76,g77,g78,g79,g80,g81,g82,g83,g84,g85,g86] M) fun k => cond x36 (k (.bool true) undef undef undef undef (.bool true) (.bool true) M) (k (.bool false) (.int .i64 x8) (.slice Ax5 lx5 cx5) (.int .i64 ((lx5 : Int))) (.bool (x8 != ((lx5 : Int)))) (.bool (x8 != ((lx5 : Int)))) (.bool (x8 != ((lx5 : Int)))) M) := by kernel_rfl
theorem r6_6p13 {Ax0 : Option Addr} {lx0 cx0 : Nat} {Ax7 : Option Addr} {lx7 cx7 : Nat} {x42 : Bool} {M : Mem} {call : CallM} {K : Array Value → Mem → R} :
    segK Try.prog false call (O6 [1,1,1,1,1,0,0]) 13 5 #[.slice Ax0 lx0 cx0,g1,g2,g3,g4,g5,g6,.slice Ax7 lx7 cx7,g8,g9,g10,g11,g12,g13,g14,g15,g16,g17,g18,g19,g20,g21,g22,g23,g24,g25,g26,g27,g28,g29,g30,g31,g32,g33,g34,g35,g36,g37,g38,g39,g40,g41,.bool x42,g43,g44,g45,g46,g47,g48,g49,g50,g51,g52,g53,g54,g55,g56,g57,g58,g59,g60,g61,g62,g63,g64,g65,g66,g67,g68,g69,g70,g71,g72,g73,g74,g75,g76,g77,g78,g79,g80,g81,g82,g83,g84,g85,g86] M K = withK (fun w42 w43 w44 w45 w46 w47 M => K #[.slice Ax0 lx0 cx0,g1,g2,g3,g4,g5,g6,.slice Ax7 lx7 cx7,g8,g9,g10,g11,g12,g13,g14,g15,g16,g17,g18,g19,g20,g21,g22,g23,g24,g25,g26,g27,g28,g29,g30,g31,g32,g33,g34,g35,g36,g37,g38,g39,g40,g41,w42,w43,w44,w45,w46,w47,g48,g49,g50,g51,g52,g53,g54,g55,g56,g57,g58,g59,g60,g61,g62,g63,g64,g65,g66,g67,g68,g69,g70,g71,g72,g73,g74,g75,g76,g77,g78,g79,g80,g81,g82,g83,g84,g85,g86] M) fun k => cond x42 (k (.bool true) undef undef undef undef (.bool true) M) ((call 13 #[.slice Ax7 lx7 cx7, .slice Ax0 lx0 cx0] M).bind fun r_1 => (asB r_1.1).bind fun b_2 => k (.bool false) (.slice Ax7 lx7 cx7) (.slice Ax0 lx0 cx0) (.bool b_2) (.bool (!b_2)) (.bool (!b_2)) r_1.2) := by kernel_rfl
theorem c6_21 : P6 [1,1,1,1,1,0,1] = .cond (.tmp 47) (P6 [1,1,1,1,1,0,1,0]) (P6 [1,1,1,1,1,0,1,1]) := by kernel_rfl
theorem k6_22 : P6 [1,1,1,1,1,0,1,0] = .seq (P6 [1,1,1,1,1,0,1,0,0]) (P6 [1,1,1,1,1,0,1,0,1]) := by kernel_rfl
theorem k6_23 : P6 [1,1,1,1,1,0,1,0,0] = .region 7 (O6 [1,1,1,1,1,0,1,0,0]) false := by kernel_rfl
theorem r6_7 {M : Mem} {call : CallM} {K : Array Value → Mem → R} :
    opsK Try.prog (fun _ => call) (O6 [1,1,1,1,1,0,1,0,0]) (O6 [1,1,1,1,1,0,1,0,0]).toList 0 #[g0,g1,g2,g3,g4,g5,g6,g7,g8,g9,g10,g11,g12,g13,g14,g15,g16,g17,g18,g19,g20,g21,g22,g23,g24,g25,g26,g27,g28,g29,g30,g31,g32,g33,g34,g35,g36,g37,g38,g39,g40,g41,g42,g43,g44,g45,g46,g47,g48,g49,g50,g51,g52,g53,g54,g55,g56,g57,g58,g59,g60,g61,g62,g63,g64,g65,g66,g67,g68,g69,g70,g71,g72,g73,g74,g75,g76,g77,g78,g79,g80,g81,g82,g83,g84,g85,g86] M K = K #[g0,g1,g2,g3,.bool false,g5,g6,g7,g8,g9,g10,g11,g12,g13,g14,g15,g16,g17,g18,g19,g20,g21,g22,g23,g24,g25,g26,g27,g28,g29,g30,g31,g32,g33,g34,g35,g36,g37,g38,g39,g40,g41,g42,g43,g44,g45,g46,g47,g48,g49,g50,g51,g52,g53,g54,g55,g56,g57,g58,g59,g60,g61,g62,g63,g64,g65,g66,g67,g68,g69,g70,g71,g72,g73,g74,g75,g76,g77,g78,g79,g80,g81,g82,g83,g84,g85,g86] M := by kernel_rfl
theorem k6_24 : P6 [1,1,1,1,1,0,1,0,1] = .ret := by kernel_rfl
theorem k6_25 : P6 [1,1,1,1,1,0,1,1] = .skip := by kernel_rfl
theorem k6_26 : P6 [1,1,1,1,1,1] = .seq (P6 [1,1,1,1,1,1,0]) (P6 [1,1,1,1,1,1,1]) := by kernel_rfl
theorem k6_27 : P6 [1,1,1,1,1,1,0] = .region 8 (O6 [1,1,1,1,1,1,0]) false := by kernel_rfl
theorem r6_8 {Ax1 : Option Addr} {lx1 cx1 : Nat} {M : Mem} {call : CallM} {K : Array Value → Mem → R} :
    opsK Try.prog (fun _ => call) (O6 [1,1,1,1,1,1,0]) (O6 [1,1,1,1,1,1,0]).toList 0 #[g0,.slice Ax1 lx1 cx1,g2,g3,g4,g5,g6,g7,g8,g9,g10,g11,g12,g13,g14,g15,g16,g17,g18,g19,g20,g21,g22,g23,g24,g25,g26,g27,g28,g29,g30,g31,g32,g33,g34,g35,g36,g37,g38,g39,g40,g41,g42,g43,g44,g45,g46,g47,g48,g49,g50,g51,g52,g53,g54,g55,g56,g57,g58,g59,g60,g61,g62,g63,g64,g65,g66,g67,g68,g69,g70,g71,g72,g73,g74,g75,g76,g77,g78,g79,g80,g81,g82,g83,g84,g85,g86] M K = (call 11 #[.slice Ax1 lx1 cx1] M).bind fun r_1 => (asU 3 r_1.1).bind fun cs_2 => (asS (cs_2.getD 0 undef)).bind fun s_3 => (asI .i64 (cs_2.getD 1 undef)).bind fun x_4 => (asI .i64 (cs_2.getD 2 undef)).bind fun x_5 => K #[g0,.slice Ax1 lx1 cx1,g2,g3,g4,g5,g6,g7,g8,g9,.slice s_3.1 (s_3.2.1) (s_3.2.2),.int .i64 x_4,.int .i64 x_5,g13,g14,g15,g16,g17,g18,g19,g20,g21,g22,g23,g24,g25,g26,g27,g28,g29,g30,g31,g32,g33,g34,g35,g36,g37,g38,g39,g40,g41,g42,g43,g44,g45,g46,g47,.tuple #[.slice s_3.1 (s_3.2.1) (s_3.2.2), .int .i64 x_4, .int .i64 x_5],.slice Ax1 lx1 cx1,.tuple #[.slice s_3.1 (s_3.2.1) (s_3.2.2), .int .i64 x_4, .int .i64 x_5],.slice s_3.1 (s_3.2.1) (s_3.2.2),.int .i64 x_4,.int .i64 x_5,g54,g55,g56,g57,g58,g59,g60,g61,g62,g63,g64,g65,g66,g67,g68,g69,g70,g71,g72,g73,g74,g75,g76,g77,g78,g79,g80,g81,g82,g83,g84,g85,g86] r_1.2 := by kernel_rfl
theorem k6_28 : P6 [1,1,1,1,1,1,1] = .seq (P6 [1,1,1,1,1,1,1,0]) (P6 [1,1,1,1,1,1,1,1]) := by kernel_rfl
theorem k6_29 : P6 [1,1,1,1,1,1,1,0] = .region 9 (O6 [1,1,1,1,1,1,1,0]) false := by kernel_rfl
theorem r6_9 {Ax10 : Option Addr} {lx10 cx10 : Nat} {M : Mem} {call : CallM} {K : Array Value → Mem → R} :
    opsK Try.prog (fun _ => call) (O6 [1,1,1,1,1,1,1,0]) (O6 [1,1,1,1,1,1,1,0]).toList 0 #[g0,g1,g2,g3,g4,g5,g6,g7,g8,g9,.slice Ax10 lx10 cx10,g11,g12,g13,g14,g15,g16,g17,g18,g19,g20,g21,g22,g23,g24,g25,g26,g27,g28,g29,g30,g31,g32,g33,g34,g35,g36,g37,g38,g39,g40,g41,g42,g43,g44,g45,g46,g47,g48,g49,g50,g51,g52,g53,g54,g55,g56,g57,g58,g59,g60,g61,g62,g63,g64,g65,g66,g67,g68,g69,g70,g71,g72,g73,g74,g75,g76,g77,g78,g79,g80,g81,g82,g83,g84,g85,g86] M K = (call 18 #[.slice Ax10 lx10 cx10] M).bind fun r_1 => (asU 2 r_1.1).bind fun cs_2 => (asS (cs_2.getD 0 undef)).bind fun s_3 => (asI .i64 (cs_2.getD 1 undef)).bind fun x_4 => K #[g0,g1,g2,g3,g4,g5,g6,g7,g8,g9,.slice Ax10 lx10 cx10,g11,g12,.slice s_3.1 (s_3.2.1) (s_3.2.2),.int .i64 x_4,g15,g16,g17,g18,g19,g20,g21,g22,g23,g24,g25,g26,g27,g28,g29,g30,g31,g32,g33,g34,g35,g36,g37,g38,g39,g40,g41,g42,g43,g44,g45,g46,g47,g48,g49,g50,g51,g52,g53,.tuple #[.slice s_3.1 (s_3.2.1) (s_3.2.2), .int .i64 x_4],.slice Ax10 lx10 cx10,.tuple #[.slice s_3.1 (s_3.2.1) (s_3.2.2), .int .i64 x_4],.slice s_3.1 (s_3.2.1) (s_3.2.2),.int .i64 x_4,g59,g60,g61,g62,g63,g64,g65,g66,g67,g68,g69,g70,g71,g72,g73,g74,g75,g76,g77,g78,g79,g80,g81,g82,g83,g84,g85,g86] r_1.2 := by kernel_rfl
theorem k6_30 : P6 [1,1,1,1,1,1,1,1] = .seq (P6 [1,1,1,1,1,1,1,1,0]) (P6 [1,1,1,1,1,1,1,1,1]) := by kernel_rfl
theorem k6_31 : P6 [1,1,1,1,1,1,1,1,0] = .region 10 (O6 [1,1,1,1,1,1,1,1,0]) false := by kernel_rfl
theorem k6_32 : P6 [1,1,1,1,1,1,1,1,0] = .region 10 (O6 [1,1,1,1,1,1,1,1,0]) false ∧ (!false || drawOk (O6 [1,1,1,1,1,1,1,1,0])) = true := ⟨by kernel_rfl, by kernel_rfl⟩
theorem r6_10p0 {x11 x14 : Int} {M : Mem} {call : CallM} {K : Array Value → Mem → R} :
    segK Try.prog false call (O6 [1,1,1,1,1,1,1,1,0]) 0 7 #[g0,g1,g2,g3,g4,g5,g6,g7,g8,g9,g10,.int .i64 x11,g12,g13,.int .i64 x14,g15,g16,g17,g18,g19,g20,g21,g22,g23,g24,g25,g26,g27,g28,g29,g30,g31,g32,g33,g34,g35,g36,g37,g38,g39,g40,g41,g42,g43,g44,g45,g46,g47,g48,g49,g50,g51,g52,g53,g54,g55,g56,g57,g58,g59,g60,g61,g62,g63,g64,g65,g66,g67,g68,g69,g70,g71,g72,g73,g74,g75,g76,g77,g78,g79,g80,g81,g82,g83,g84,g85,g86] M K = withK (fun w61 w62 w63 w64 w65 M => K #[g0,g1,g2,g3,g4,g5,g6,g7,g8,g9,g10,.int .i64 x11,g12,g13,.int .i64 x14,g15,g16,g17,g18,g19,g20,g21,g22,g23,g24,g25,g26,g27,g28,g29,g30,g31,g32,g33,g34,g35,g36,g37,g38,g39,g40,g41,g42,g43,g44,g45,g46,g47,g48,g49,g50,g51,g52,g53,g54,g55,g56,g57,g58,.int .i64 x14,.bool (x14 == 0),w61,w62,w63,w64,w65,g66,g67,g68,g69,g70,g71,g72,g73,g74,g75,g76,g77,g78,g79,g80,g81,g82,g83,g84,g85,g86] M) fun k => cond (x14 == 0) (k (.bool true) (.int .i64 x11) (.bool (decide (x11 ≥ 0))) (.bool (decide (x11 ≥ 0))) (.bool (decide (x11 ≥ 0))) M) (k (.bool false) undef undef (.bool false) (.bool false) M) := by kernel_rfl
theorem r6_10p7 {Ax1 : Option Addr} {lx1 cx1 : Nat} {x11 : Int} {x65 : Bool} {M : Mem} {call : CallM} {K : Array Value → Mem → R} :
    segK Try.prog false call (O6 [1,1,1,1,1,1,1,1,0]) 7 6 #[g0,.slice Ax1 lx1 cx1,g2,g3,g4,g5,g6,g7,g8,g9,g10,.int .i64 x11,g12,g13,g14,g15,g16,g17,g18,g19,g20,g21,g22,g23,g24,g25,g26,g27,g28,g29,g30,g31,g32,g33,g34,g35,g36,g37,g38,g39,g40,g41,g42,g43,g44,g45,g46,g47,g48,g49,g50,g51,g52,g53,g54,g55,g56,g57,g58,g59,g60,g61,g62,g63,g64,.bool x65,g66,g67,g68,g69,g70,g71,g72,g73,g74,g75,g76,g77,g78,g79,g80,g81,g82,g83,g84,g85,g86] M K = withK (fun w65 w66 w67 w68 w69 w70 w71 M => K #[g0,.slice Ax1 lx1 cx1,g2,g3,g4,g5,g6,g7,g8,g9,g10,.int .i64 x11,g12,g13,g14,g15,g16,g17,g18,g19,g20,g21,g22,g23,g24,g25,g26,g27,g28,g29,g30,g31,g32,g33,g34,g35,g36,g37,g38,g39,g40,g41,g42,g43,g44,g45,g46,g47,g48,g49,g50,g51,g52,g53,g54,g55,g56,g57,g58,g59,g60,g61,g62,g63,g64,w65,w66,w67,w68,w69,w70,w71,g72,g73,g74,g75,g76,g77,g78,g79,g80,g81,g82,g83,g84,g85,g86] M) fun k => cond x65 (k (.bool true) (.int .i64 x11) (.slice Ax1 lx1 cx1) (.int .i64 ((lx1 : Int))) (.bool (decide (x11 ≤ ((lx1 : Int))))) (.bool (decide (x11 ≤ ((lx1 : Int))))) (.bool (decide (x11 ≤ ((lx1 : Int))))) M) (k (.bool false) undef undef undef undef (.bool false) (.bool false) M) := by kernel_rfl
theorem r6_10p13 {Ax1 : Option Addr} {lx1 cx1 : Nat} {x11 x12 : Int} {x71 : Bool} {M : Mem} {call : CallM} {K : Array Value → Mem → R} :
    segK Try.prog false call (O6 [1,1,1,1,1,1,1,1,0]) 13 9 #[g0,.slice Ax1 lx1 cx1,g2,g3,g4,g5,g6,g7,g8,g9,g10,.int .i64 x11,.int .i64 x12,g13,g14,g15,g16,g17,g18,g19,g20,g21,g22,g23,g24,g25,g26,g27,g28,g29,g30,g31,g32,g33,g34,g35,g36,g37,g38,g39,g40,g41,g42,g43,g44,g45,g46,g47,g48,g49,g50,g51,g52,g53,g54,g55,g56,g57,g58,g59,g60,g61,g62,g63,g64,g65,g66,g67,g68,g69,g70,.bool x71,g72,g73,g74,g75,g76,g77,g78,g79,g80,g81,g82,g83,g84,g85,g86] M K = withK (fun w71 w72 w73 w74 w75 w76 w77 w78 w79 w80 M => K #[g0,.slice Ax1 lx1 cx1,g2,g3,g4,g5,g6,g7,g8,g9,g10,.int .i64 x11,.int .i64 x12,g13,g14,g15,g16,g17,g18,g19,g20,g21,g22,g23,g24,g25,g26,g27,g28,g29,g30,g31,g32,g33,g34,g35,g36,g37,g38,g39,g40,g41,g42,g43,g44,g45,g46,g47,g48,g49,g50,g51,g52,g53,g54,g55,g56,g57,g58,g59,g60,g61,g62,g63,g64,g65,g66,g67,g68,g69,g70,w71,w72,w73,w74,w75,w76,w77,w78,w79,w80,g81,g82,g83,g84,g85,g86] M) fun k => cond x71 (k (.bool true) (.int .i64 x12) (.bool (x12 == 0)) (.int .i64 x11) (.slice Ax1 lx1 cx1) (.int .i64 ((lx1 : Int))) (.bool (x11 == ((lx1 : Int)))) (.bool ((x12 == 0) == (x11 == ((lx1 : Int))))) (.bool ((x12 == 0) == (x11 == ((lx1 : Int))))) (.bool ((x12 == 0) == (x11 == ((lx1 : Int))))) M) (k (.bool false) undef undef undef undef undef undef undef (.bool false) (.bool false) M) := by kernel_rfl
theorem r6_10p22 {Ax1 : Option Addr} {lx1 cx1 : Nat} {x11 : Int} {Ax13 : Option Addr} {lx13 cx13 : Nat} {x80 : Bool} {M : Mem} {call : CallM} {K : Array Value → Mem → R} :
    segK Try.prog false call (O6 [1,1,1,1,1,1,1,1,0]) 22 7 #[g0,.slice Ax1 lx1 cx1,g2,g3,g4,g5,g6,g7,g8,g9,g10,.int .i64 x11,g12,.slice Ax13 lx13 cx13,g14,g15,g16,g17,g18,g19,g20,g21,g22,g23,g24,g25,g26,g27,g28,g29,g30,g31,g32,g33,g34,g35,g36,g37,g38,g39,g40,g41,g42,g43,g44,g45,g46,g47,g48,g49,g50,g51,g52,g53,g54,g55,g56,g57,g58,g59,g60,g61,g62,g63,g64,g65,g66,g67,g68,g69,g70,g71,g72,g73,g74,g75,g76,g77,g78,g79,.bool x80,g81,g82,g83,g84,g85,g86] M K = withK (fun w4 w80 w81 w82 w83 w84 w85 w86 M => K #[g0,.slice Ax1 lx1 cx1,g2,g3,w4,g5,g6,g7,g8,g9,g10,.int .i64 x11,g12,.slice Ax13 lx13 cx13,g14,g15,g16,g17,g18,g19,g20,g21,g22,g23,g24,g25,g26,g27,g28,g29,g30,g31,g32,g33,g34,g35,g36,g37,g38,g39,g40,g41,g42,g43,g44,g45,g46,g47,g48,g49,g50,g51,g52,g53,g54,g55,g56,g57,g58,g59,g60,g61,g62,g63,g64,g65,g66,g67,g68,g69,g70,g71,g72,g73,g74,g75,g76,g77,g78,g79,w80,w81,w82,w83,w84,w85,w86] M) fun k => cond x80 ((sliceP Try.prog 22 (.slice Ax1 lx1 cx1) none (some (.int .i64 x11)) none).bind fun v_1 => (asS v_1).bind fun s_2 => (call 15 #[.slice Ax13 lx13 cx13, .slice s_2.1 (s_2.2.1) (s_2.2.2)] M).bind fun r_3 => (asB r_3.1).bind fun b_4 => k (.bool b_4) (.bool true) (.slice Ax13 lx13 cx13) (.slice Ax1 lx1 cx1) (.int .i64 x11) (.slice s_2.1 (s_2.2.1) (s_2.2.2)) (.bool b_4) (.bool b_4) r_3.2) (k (.bool false) (.bool false) undef undef undef undef undef (.bool false) M) := by kernel_rfl
theorem k6_33 : P6 [1,1,1,1,1,1,1,1,1] = .ret := by kernel_rfl
noncomputable def S6_1 : List Item := [.code (P6 [1,1,1,1,1,0,1]), .code (P6 [1,1,1,1,1,1])]
def A6_1 (Ax0 : Option Addr) (lx0 cx0 : Nat) (Ax1 : Option Addr) (lx1 cx1 : Nat) (Ax5 : Option Addr) (lx5 cx5 : Nat) (Ax7 : Option Addr) (lx7 cx7 : Nat) (x8 : Int) (x36 : Bool) (M : Mem) (Q : Value → Mem → Prop) : Prop := ∀ (g2 g3 g4 g6 g9 g10 g11 g12 g13 g14 g15 g16 g17 g18 g19 g20 g21 g22 g23 g24 g25 g26 g27 g28 g29 g30 g31 g32 g33 g34 g35 g37 g38 g39 g40 g41 g42 g43 g44 g45 g46 g47 g48 g49 g50 g51 g52 g53 g54 g55 g56 g57 g58 g59 g60 g61 g62 g63 g64 g65 g66 g67 g68 g69 g70 g71 g72 g73 g74 g75 g76 g77 g78 g79 g80 g81 g82 g83 g84 g85 g86 : Value), Rg Try.prog Try.f6 (O6 [1,1,1,1,1,0,0]) false 7 S6_1 #[.slice Ax0 lx0 cx0, .slice Ax1 lx1 cx1, g2, g3, g4, .slice Ax5 lx5 cx5, g6, .slice Ax7 lx7 cx7, .int .i64 x8, g9, g10, g11, g12, g13, g14, g15, g16, g17, g18, g19, g20, g21, g22, g23, g24, g25, g26, g27, g28, g29, g30, g31, g32, g33, g34, g35, .bool x36, g37, g38, g39, g40, g41, g42, g43, g44, g45, g46, g47, g48, g49, g50, g51, g52, g53, g54, g55, g56, g57, g58, g59, g60, g61, g62, g63, g64, g65, g66, g67, g68, g69, g70, g71, g72, g73, g74, g75, g76, g77, g78, g79, g80, g81, g82, g83, g84, g85, g86] M Q
noncomputable def S6_2 : List Item := [.code (P6 [1,1,1,1,1,0,1]), .code (P6 [1,1,1,1,1,1])]
def A6_2 (Ax0 : Option Addr) (lx0 cx0 : Nat) (Ax1 : Option Addr) (lx1 cx1 : Nat) (Ax7 : Option Addr) (lx7 cx7 : Nat) (x42 : Bool) (M : Mem) (Q : Value → Mem → Prop) : Prop := ∀ (g2 g3 g4 g5 g6 g8 g9 g10 g11 g12 g13 g14 g15 g16 g17 g18 g19 g20 g21 g22 g23 g24 g25 g26 g27 g28 g29 g30 g31 g32 g33 g34 g35 g36 g37 g38 g39 g40 g41 g43 g44 g45 g46 g47 g48 g49 g50 g51 g52 g53 g54 g55 g56 g57 g58 g59 g60 g61 g62 g63 g64 g65 g66 g67 g68 g69 g70 g71 g72 g73 g74 g75 g76 g77 g78 g79 g80 g81 g82 g83 g84 g85 g86 : Value), Rg Try.prog Try.f6 (O6 [1,1,1,1,1,0,0]) false 13 S6_2 #[.slice Ax0 lx0 cx0, .slice Ax1 lx1 cx1, g2, g3, g4, g5, g6, .slice Ax7 lx7 cx7, g8, g9, g10, g11, g12, g13, g14, g15, g16, g17, g18, g19, g20, g21, g22, g23, g24, g25, g26, g27, g28, g29, g30, g31, g32, g33, g34, g35, g36, g37, g38, g39, g40, g41, .bool x42, g43, g44, g45, g46, g47, g48, g49, g50, g51, g52, g53, g54, g55, g56, g57, g58, g59, g60, g61, g62, g63, g64, g65, g66, g67, g68, g69, g70, g71, g72, g73, g74, g75, g76, g77, g78, g79, g80, g81, g82, g83, g84, g85, g86] M Q
noncomputable def S6_3 : List Item := [.code (P6 [1,1,1,1,1,0,1]), .code (P6 [1,1,1,1,1,1])]
def A6_3 (Ax1 : Option Addr) (lx1 cx1 : Nat) (x47 : Bool) (M : Mem) (Q : Value → Mem → Prop) : Prop := ∀ (g0 g2 g3 g4 g5 g6 g7 g8 g9 g10 g11 g12 g13 g14 g15 g16 g17 g18 g19 g20 g21 g22 g23 g24 g25 g26 g27 g28 g29 g30 g31 g32 g33 g34 g35 g36 g37 g38 g39 g40 g41 g42 g43 g44 g45 g46 g48 g49 g50 g51 g52 g53 g54 g55 g56 g57 g58 g59 g60 g61 g62 g63 g64 g65 g66 g67 g68 g69 g70 g71 g72 g73 g74 g75 g76 g77 g78 g79 g80 g81 g82 g83 g84 g85 g86 : Value), Rn Try.prog Try.f6 S6_3 #[g0, .slice Ax1 lx1 cx1, g2, g3, g4, g5, g6, g7, g8, g9, g10, g11, g12, g13, g14, g15, g16, g17, g18, g19, g20, g21, g22, g23, g24, g25, g26, g27, g28, g29, g30, g31, g32, g33, g34, g35, g36, g37, g38, g39, g40, g41, g42, g43, g44, g45, g46, .bool x47, g48, g49, g50, g51, g52, g53, g54, g55, g56, g57, g58, g59, g60, g61, g62, g63, g64, g65, g66, g67, g68, g69, g70, g71, g72, g73, g74, g75, g76, g77, g78, g79, g80, g81, g82, g83, g84, g85, g86] M Q
noncomputable def S6_4 : List Item := [.code (P6 [1,1,1,1,1,1,1,1,1])]
def A6_4 (Ax1 : Option Addr) (lx1 cx1 : Nat) (x11 x12 : Int) (Ax13 : Option Addr) (lx13 cx13 : Nat) (x65 : Bool) (M : Mem) (Q : Value → Mem → Prop) : Prop := ∀ (g0 g2 g3 g4 g5 g6 g7 g8 g9 g10 g14 g15 g16 g17 g18 g19 g20 g21 g22 g23 g24 g25 g26 g27 g28 g29 g30 g31 g32 g33 g34 g35 g36 g37 g38 g39 g40 g41 g42 g43 g44 g45 g46 g47 g48 g49 g50 g51 g52 g53 g54 g55 g56 g57 g58 g59 g60 g61 g62 g63 g64 g66 g67 g68 g69 g70 g71 g72 g73 g74 g75 g76 g77 g78 g79 g80 g81 g82 g83 g84 g85 g86 : Value), Rg Try.prog Try.f6 (O6 [1,1,1,1,1,1,1,1,0]) false 7 S6_4 #[g0, .slice Ax1 lx1 cx1, g2, g3, g4, g5, g6, g7, g8, g9, g10, .int .i64 x11, .int .i64 x12, .slice Ax13 lx13 cx13, g14, g15, g16, g17, g18, g19, g20, g21, g22, g23, g24, g25, g26, g27, g28, g29, g30, g31, g32, g33, g34, g35, g36, g37, g38, g39, g40, g41, g42, g43, g44, g45, g46, g47, g48, g49, g50, g51, g52, g53, g54, g55, g56, g57, g58, g59, g60, g61, g62, g63, g64, .bool x65, g66, g67, g68, g69, g70, g71, g72, g73, g74, g75, g76, g77, g78, g79, g80, g81, g82, g83, g84, g85, g86] M Q
noncomputable def S6_5 : List Item := [.code (P6 [1,1,1,1,1,1,1,1,1])]
def A6_5 (Ax1 : Option Addr) (lx1 cx1 : Nat) (x11 x12 : Int) (Ax13 : Option Addr) (lx13 cx13 : Nat) (x71 : Bool) (M : Mem) (Q : Value → Mem → Prop) : Prop := ∀ (g0 g2 g3 g4 g5 g6 g7 g8 g9 g10 g14 g15 g16 g17 g18 g19 g20 g21 g22 g23 g24 g25 g26 g27 g28 g29 g30 g31 g32 g33 g34 g35 g36 g37 g38 g39 g40 g41 g42 g43 g44 g45 g46 g47 g48 g49 g50 g51 g52 g53 g54 g55 g56 g57 g58 g59 g60 g61 g62 g63 g64 g65 g66 g67 g68 g69 g70 g72 g73 g74 g75 g76 g77 g78 g79 g80 g81 g82 g83 g84 g85 g86 : Value), Rg Try.prog Try.f6 (O6 [1,1,1,1,1,1,1,1,0]) false 13 S6_5 #[g0, .slice Ax1 lx1 cx1, g2, g3, g4, g5, g6, g7, g8, g9, g10, .int .i64 x11, .int .i64 x12, .slice Ax13 lx13 cx13, g14, g15, g16, g17, g18, g19, g20, g21, g22, g23, g24, g25, g26, g27, g28, g29, g30, g31, g32, g33, g34, g35, g36, g37, g38, g39, g40, g41, g42, g43, g44, g45, g46, g47, g48, g49, g50, g51, g52, g53, g54, g55, g56, g57, g58, g59, g60, g61, g62, g63, g64, g65, g66, g67, g68, g69, g70, .bool x71, g72, g73, g74, g75, g76, g77, g78, g79, g80, g81, g82, g83, g84, g85, g86] M Q
noncomputable def S6_6 : List Item := [.code (P6 [1,1,1,1,1,1,1,1,1])]
def A6_6 (Ax1 : Option Addr) (lx1 cx1 : Nat) (x11 : Int) (Ax13 : Option Addr) (lx13 cx13 : Nat) (x80 : Bool) (M : Mem) (Q : Value → Mem → Prop) : Prop := ∀ (g0 g2 g3 g4 g5 g6 g7 g8 g9 g10 g12 g14 g15 g16 g17 g18 g19 g20 g21 g22 g23 g24 g25 g26 g27 g28 g29 g30 g31 g32 g33 g34 g35 g36 g37 g38 g39 g40 g41 g42 g43 g44 g45 g46 g47 g48 g49 g50 g51 g52 g53 g54 g55 g56 g57 g58 g59 g60 g61 g62 g63 g64 g65 g66 g67 g68 g69 g70 g71 g72 g73 g74 g75 g76 g77 g78 g79 g81 g82 g83 g84 g85 g86 : Value), Rg Try.prog Try.f6 (O6 [1,1,1,1,1,1,1,1,0]) false 22 S6_6 #[g0, .slice Ax1 lx1 cx1, g2, g3, g4, g5, g6, g7, g8, g9, g10, .int .i64 x11, g12, .slice Ax13 lx13 cx13, g14, g15, g16, g17, g18, g19, g20, g21, g22, g23, g24, g25, g26, g27, g28, g29, g30, g31, g32, g33, g34, g35, g36, g37, g38, g39, g40, g41, g42, g43, g44, g45, g46, g47, g48, g49, g50, g51, g52, g53, g54, g55, g56, g57, g58, g59, g60, g61, g62, g63, g64, g65, g66, g67, g68, g69, g70, g71, g72, g73, g74, g75, g76, g77, g78, g79, .bool x80, g81, g82, g83, g84, g85, g86] M Q
theorem w6_0 {Ax0 : Option Addr} {lx0 cx0 : Nat} {Ax1 : Option Addr} {lx1 cx1 : Nat} {M : Mem} {Q : Value → Mem → Prop} (H :
    Cn Try.prog 16 #[] M fun v1' N1' =>
     ∃ b2', asB v1' = some b2' ∧
     (((!b2') = true →
      Q (.bool false) N1') ∧
      ((!b2') = false →
      Cn Try.prog 22 #[.slice Ax0 lx0 cx0] N1' fun v3' N3' =>
       ∃ s4', asS v3' = some s4' ∧
       Cn Try.prog 18 #[.slice s4'.1 s4'.2.1 s4'.2.2] N3' fun v5' N5' =>
        ∃ cs6', asU 2 v5' = some cs6' ∧
        ∃ s7', asS (cs6'.getD 0 undef) = some s7' ∧
        ∃ x8', asI .i64 (cs6'.getD 1 undef) = some x8' ∧
        Cn Try.prog 11 #[.slice s7'.1 s7'.2.1 s7'.2.2] N5' fun v9' N9' =>
         ∃ cs10', asU 3 v9' = some cs10' ∧
         ∃ s11', asS (cs10'.getD 0 undef) = some s11' ∧
         ∃ x12', asI .i64 (cs10'.getD 1 undef) = some x12' ∧
         ∃ x13', asI .i64 (cs10'.getD 2 undef) = some x13' ∧
         ((x8' ≠ 0 →
          A6_1 s4'.1 s4'.2.1 s4'.2.2 Ax1 lx1 cx1 s7'.1 s7'.2.1 s7'.2.2 s11'.1 s11'.2.1 s11'.2.2 x12' true N9' Q) ∧
          (x8' = 0 →
          A6_1 s4'.1 s4'.2.1 s4'.2.2 Ax1 lx1 cx1 s7'.1 s7'.2.1 s7'.2.2 s11'.1 s11'.2.1 s11'.2.2 x12' (x13' != 0) N9' Q))))) :
    Cn Try.prog 6 #[.slice Ax0 lx0 cx0, .slice Ax1 lx1 cx1] M Q := by
  refine Cn.of b6 d6 t6 ?_
  refine Rn.seq k6_0 (Rn.region k6_1 (fun call K => r6_0) (Rch.leaf (Rn.seq k6_2 (Rn.seq k6_3 (Rn.region k6_4 (fun call K => r6_1) (Rch.call H fun v1' N1' H => Rch.ex H fun b2' H => Rch.leaf ?_))))))
  refine Rn.cnd (v := !b2') ⟨c6_5, rfl, by kernel_rfl⟩ (fun h => ?_) (fun h => ?_)
  · replace H := H.1 (h)
    refine Rn.seq k6_6 (Rn.region k6_7 (fun call K => r6_2) (Rch.leaf ?_))
    exact Rn.ret k6_8 e6 H
  · replace H := H.2 (h)
    refine Rn.skip k6_10 (Rn.seq k6_11 (Rn.region k6_12 (fun call K => r6_3) (Rch.call H fun v3' N3' H => Rch.ex H fun s4' H => Rch.leaf (Rn.seq k6_13 (Rn.region k6_14 (fun call K => r6_4) (Rch.call H fun v5' N5' H => Rch.ex H fun cs6' H => Rch.ex H fun s7' H => Rch.ex H fun x8' H => ?_))))))
    refine Rch.leaf (Rn.seq k6_15 (Rn.region k6_16 (fun call K => r6_5) (Rch.call H fun v9' N9' H => Rch.ex H fun cs10' H => Rch.ex H fun s11' H => Rch.ex H fun x12' H => Rch.ex H fun x13' H => Rch.leaf (Rn.seq k6_17 (Rn.seq k6_18 (Rn.regionC k6_20 ?_))))))
    refine Rg.step (d := 7) (j := 7) (fun call K => r6_6p0) rfl rfl ?_
    refine Rch.cB (fun h => ?_) (fun h => ?_)
    · replace H := H.1 (ne_of_bneT h)
      refine Rch.rest ?_
      exact H _ _ _ _ _ _ _ _ _ _ _ _ _ _ _ _ _ _ _ _ _ _ _ _ _ _ _ _ _ _ _ _ _ _ _ _ _ _ _ _ _ _ _ _ _ _ _ _ _ _ _ _ _ _ _ _ _ _ _ _ _ _ _ _ _ _ _ _ _ _ _ _ _ _ _ _ _ _ _ _ _
    · replace H := H.2 (eq_of_bneF h)
      refine Rch.rest ?_
      exact H _ _ _ _ _ _ _ _ _ _ _ _ _ _ _ _ _ _ _ _ _ _ _ _ _ _ _ _ _ _ _ _ _ _ _ _ _ _ _ _ _ _ _ _ _ _ _ _ _ _ _ _ _ _ _ _ _ _ _ _ _ _ _ _ _ _ _ _ _ _ _ _ _ _ _ _ _ _ _ _ _

theorem w6_1 {Ax0 : Option Addr} {lx0 cx0 : Nat} {Ax1 : Option Addr} {lx1 cx1 : Nat} {Ax5 : Option Addr} {lx5 cx5 : Nat} {Ax7 : Option Addr} {lx7 cx7 : Nat} {x8 : Int} {x36 : Bool} {M : Mem} {Q : Value → Mem → Prop} (H :
    ((x36 = true →
     A6_2 Ax0 lx0 cx0 Ax1 lx1 cx1 Ax7 lx7 cx7 true M Q) ∧
     (x36 = false →
     A6_2 Ax0 lx0 cx0 Ax1 lx1 cx1 Ax7 lx7 cx7 (x8 != ((lx5 : Int))) M Q))) :
    A6_1 Ax0 lx0 cx0 Ax1 lx1 cx1 Ax5 lx5 cx5 Ax7 lx7 cx7 x8 x36 M Q := by
  intro g2 g3 g4 g6 g9 g10 g11 g12 g13 g14 g15 g16 g17 g18 g19 g20 g21 g22 g23 g24 g25 g26 g27 g28 g29 g30 g31 g32 g33 g34 g35 g37 g38 g39 g40 g41 g42 g43 g44 g45 g46 g47 g48 g49 g50 g51 g52 g53 g54 g55 g56 g57 g58 g59 g60 g61 g62 g63 g64 g65 g66 g67 g68 g69 g70 g71 g72 g73 g74 g75 g76 g77 g78 g79 g80 g81 g82 g83 g84 g85 g86
  refine Rg.step (d := 6) (j := 13) (fun call K => r6_6p7) rfl rfl ?_
  refine Rch.cB (fun h => ?_) (fun h => ?_)
  · replace H := H.1 (h)
    refine Rch.rest ?_
    exact H _ _ _ _ _ _ _ _ _ _ _ _ _ _ _ _ _ _ _ _ _ _ _ _ _ _ _ _ _ _ _ _ _ _ _ _ _ _ _ _ _ _ _ _ _ _ _ _ _ _ _ _ _ _ _ _ _ _ _ _ _ _ _ _ _ _ _ _ _ _ _ _ _ _ _ _ _ _ _ _ _ _ _
  · replace H := H.2 (h)
    refine Rch.rest ?_
    exact H _ _ _ _ _ _ _ _ _ _ _ _ _ _ _ _ _ _ _ _ _ _ _ _ _ _ _ _ _ _ _ _ _ _ _ _ _ _ _ _ _ _ _ _ _ _ _ _ _ _ _ _ _ _ _ _ _ _ _ _ _ _ _ _ _ _ _ _ _ _ _ _ _ _ _ _ _ _ _ _ _ _ _

theorem w6_2 {Ax0 : Option Addr} {lx0 cx0 : Nat} {Ax1 : Option Addr} {lx1 cx1 : Nat} {Ax7 : Option Addr} {lx7 cx7 : Nat} {x42 : Bool} {M : Mem} {Q : Value → Mem → Prop} (H :
    ((x42 = true →
     A6_3 Ax1 lx1 cx1 true M Q) ∧
     (x42 = false →
     Cn Try.prog 13 #[.slice Ax7 lx7 cx7, .slice Ax0 lx0 cx0] M fun v14' N14' =>
      ∃ b15', asB v14' = some b15' ∧
      A6_3 Ax1 lx1 cx1 (!b15') N14' Q))) :
    A6_2 Ax0 lx0 cx0 Ax1 lx1 cx1 Ax7 lx7 cx7 x42 M Q := by
  intro g2 g3 g4 g5 g6 g8 g9 g10 g11 g12 g13 g14 g15 g16 g17 g18 g19 g20 g21 g22 g23 g24 g25 g26 g27 g28 g29 g30 g31 g32 g33 g34 g35 g36 g37 g38 g39 g40 g41 g43 g44 g45 g46 g47 g48 g49 g50 g51 g52 g53 g54 g55 g56 g57 g58 g59 g60 g61 g62 g63 g64 g65 g66 g67 g68 g69 g70 g71 g72 g73 g74 g75 g76 g77 g78 g79 g80 g81 g82 g83 g84 g85 g86
  refine Rg.step (d := 5) (j := 18) (fun call K => r6_6p13) rfl rfl ?_
  refine Rch.cB (fun h => ?_) (fun h => ?_)
  · replace H := H.1 (h)
    refine Rch.rest (Rg.done rfl ?_)
    exact H _ _ _ _ _ _ _ _ _ _ _ _ _ _ _ _ _ _ _ _ _ _ _ _ _ _ _ _ _ _ _ _ _ _ _ _ _ _ _ _ _ _ _ _ _ _ _ _ _ _ _ _ _ _ _ _ _ _ _ _ _ _ _ _ _ _ _ _ _ _ _ _ _ _ _ _ _ _ _ _ _ _ _ _ _
  · replace H := H.2 (h)
    refine Rch.call H fun v14' N14' H => Rch.ex H fun b15' H => Rch.rest (Rg.done rfl ?_)
    exact H _ _ _ _ _ _ _ _ _ _ _ _ _ _ _ _ _ _ _ _ _ _ _ _ _ _ _ _ _ _ _ _ _ _ _ _ _ _ _ _ _ _ _ _ _ _ _ _ _ _ _ _ _ _ _ _ _ _ _ _ _ _ _ _ _ _ _ _ _ _ _ _ _ _ _ _ _ _ _ _ _ _ _ _ _

theorem w6_3 {Ax1 : Option Addr} {lx1 cx1 : Nat} {x47 : Bool} {M : Mem} {Q : Value → Mem → Prop} (H :
    ((x47 = true →
     Q (.bool false) M) ∧
     (x47 = false →
     Cn Try.prog 11 #[.slice Ax1 lx1 cx1] M fun v16' N16' =>
      ∃ cs17', asU 3 v16' = some cs17' ∧
      ∃ s18', asS (cs17'.getD 0 undef) = some s18' ∧
      ∃ x19', asI .i64 (cs17'.getD 1 undef) = some x19' ∧
      ∃ x20', asI .i64 (cs17'.getD 2 undef) = some x20' ∧
      Cn Try.prog 18 #[.slice s18'.1 s18'.2.1 s18'.2.2] N16' fun v21' N21' =>
       ∃ cs22', asU 2 v21' = some cs22' ∧
       ∃ s23', asS (cs22'.getD 0 undef) = some s23' ∧
       ∃ x24', asI .i64 (cs22'.getD 1 undef) = some x24' ∧
       ((x24' = 0 →
        A6_4 Ax1 lx1 cx1 x19' x20' s23'.1 s23'.2.1 s23'.2.2 (decide (x19' ≥ 0)) N21' Q) ∧
        (x24' ≠ 0 →
        A6_4 Ax1 lx1 cx1 x19' x20' s23'.1 s23'.2.1 s23'.2.2 false N21' Q))))) :
    A6_3 Ax1 lx1 cx1 x47 M Q := by
  intro g0 g2 g3 g4 g5 g6 g7 g8 g9 g10 g11 g12 g13 g14 g15 g16 g17 g18 g19 g20 g21 g22 g23 g24 g25 g26 g27 g28 g29 g30 g31 g32 g33 g34 g35 g36 g37 g38 g39 g40 g41 g42 g43 g44 g45 g46 g48 g49 g50 g51 g52 g53 g54 g55 g56 g57 g58 g59 g60 g61 g62 g63 g64 g65 g66 g67 g68 g69 g70 g71 g72 g73 g74 g75 g76 g77 g78 g79 g80 g81 g82 g83 g84 g85 g86
  refine Rn.cnd (v := x47) ⟨c6_21, rfl, by kernel_rfl⟩ (fun h => ?_) (fun h => ?_)
  · replace H := H.1 (h)
    refine Rn.seq k6_22 (Rn.region k6_23 (fun call K => r6_7) (Rch.leaf ?_))
    exact Rn.ret k6_24 e6 H
  · replace H := H.2 (h)
    refine Rn.skip k6_25 (Rn.seq k6_26 (Rn.region k6_27 (fun call K => r6_8) (Rch.call H fun v16' N16' H => Rch.ex H fun cs17' H => Rch.ex H fun s18' H => Rch.ex H fun x19' H => Rch.ex H fun x20' H => Rch.leaf (Rn.seq k6_28 (Rn.region k6_29 (fun call K => r6_9) (Rch.call H fun v21' N21' H => ?_))))))
    refine Rch.ex H fun cs22' H => Rch.ex H fun s23' H => Rch.ex H fun x24' H => Rch.leaf (Rn.seq k6_30 (Rn.regionC k6_32 (Rg.step (d := 7) (j := 7) (fun call K => r6_10p0) rfl rfl ?_)))
    refine Rch.cB (fun h => ?_) (fun h => ?_)
    · replace H := H.1 (eq_of_beq h)
      refine Rch.rest ?_
      exact H _ _ _ _ _ _ _ _ _ _ _ _ _ _ _ _ _ _ _ _ _ _ _ _ _ _ _ _ _ _ _ _ _ _ _ _ _ _ _ _ _ _ _ _ _ _ _ _ _ _ _ _ _ _ _ _ _ _ _ _ _ _ _ _ _ _ _ _ _ _ _ _ _ _ _ _ _ _ _ _ _ _
    · replace H := H.2 (ne_of_beq_false h)
      refine Rch.rest ?_
      exact H _ _ _ _ _ _ _ _ _ _ _ _ _ _ _ _ _ _ _ _ _ _ _ _ _ _ _ _ _ _ _ _ _ _ _ _ _ _ _ _ _ _ _ _ _ _ _ _ _ _ _ _ _ _ _ _ _ _ _ _ _ _ _ _ _ _ _ _ _ _ _ _ _ _ _ _ _ _ _ _ _ _

theorem w6_4 {Ax1 : Option Addr} {lx1 cx1 : Nat} {x11 x12 : Int} {Ax13 : Option Addr} {lx13 cx13 : Nat} {x65 : Bool} {M : Mem} {Q : Value → Mem → Prop} (H :
    ((x65 = true →
     A6_5 Ax1 lx1 cx1 x11 x12 Ax13 lx13 cx13 (decide (x11 ≤ ((lx1 : Int)))) M Q) ∧
     (x65 = false →
     A6_5 Ax1 lx1 cx1 x11 x12 Ax13 lx13 cx13 false M Q))) :
    A6_4 Ax1 lx1 cx1 x11 x12 Ax13 lx13 cx13 x65 M Q := by
  intro g0 g2 g3 g4 g5 g6 g7 g8 g9 g10 g14 g15 g16 g17 g18 g19 g20 g21 g22 g23 g24 g25 g26 g27 g28 g29 g30 g31 g32 g33 g34 g35 g36 g37 g38 g39 g40 g41 g42 g43 g44 g45 g46 g47 g48 g49 g50 g51 g52 g53 g54 g55 g56 g57 g58 g59 g60 g61 g62 g63 g64 g66 g67 g68 g69 g70 g71 g72 g73 g74 g75 g76 g77 g78 g79 g80 g81 g82 g83 g84 g85 g86
  refine Rg.step (d := 6) (j := 13) (fun call K => r6_10p7) rfl rfl ?_
  refine Rch.cB (fun h => ?_) (fun h => ?_)
  · replace H := H.1 (h)
    refine Rch.rest ?_
    exact H _ _ _ _ _ _ _ _ _ _ _ _ _ _ _ _ _ _ _ _ _ _ _ _ _ _ _ _ _ _ _ _ _ _ _ _ _ _ _ _ _ _ _ _ _ _ _ _ _ _ _ _ _ _ _ _ _ _ _ _ _ _ _ _ _ _ _ _ _ _ _ _ _ _ _ _ _ _ _ _ _ _
  · replace H := H.2 (h)
    refine Rch.rest ?_
    exact H _ _ _ _ _ _ _ _ _ _ _ _ _ _ _ _ _ _ _ _ _ _ _ _ _ _ _ _ _ _ _ _ _ _ _ _ _ _ _ _ _ _ _ _ _ _ _ _ _ _ _ _ _ _ _ _ _ _ _ _ _ _ _ _ _ _ _ _ _ _ _ _ _ _ _ _ _ _ _ _ _ _

theorem w6_5 {Ax1 : Option Addr} {lx1 cx1 : Nat} {x11 x12 : Int} {Ax13 : Option Addr} {lx13 cx13 : Nat} {x71 : Bool} {M : Mem} {Q : Value → Mem → Prop} (H :
    ((x71 = true →
     A6_6 Ax1 lx1 cx1 x11 Ax13 lx13 cx13 ((x12 == 0) == (x11 == ((lx1 : Int)))) M Q) ∧
     (x71 = false →
     A6_6 Ax1 lx1 cx1 x11 Ax13 lx13 cx13 false M Q))) :
    A6_5 Ax1 lx1 cx1 x11 x12 Ax13 lx13 cx13 x71 M Q := by
  intro g0 g2 g3 g4 g5 g6 g7 g8 g9 g10 g14 g15 g16 g17 g18 g19 g20 g21 g22 g23 g24 g25 g26 g27 g28 g29 g30 g31 g32 g33 g34 g35 g36 g37 g38 g39 g40 g41 g42 g43 g44 g45 g46 g47 g48 g49 g50 g51 g52 g53 g54 g55 g56 g57 g58 g59 g60 g61 g62 g63 g64 g65 g66 g67 g68 g69 g70 g72 g73 g74 g75 g76 g77 g78 g79 g80 g81 g82 g83 g84 g85 g86
  refine Rg.step (d := 9) (j := 22) (fun call K => r6_10p13) rfl rfl ?_
  refine Rch.cB (fun h => ?_) (fun h => ?_)
  · replace H := H.1 (h)
    refine Rch.rest ?_
    exact H _ _ _ _ _ _ _ _ _ _ _ _ _ _ _ _ _ _ _ _ _ _ _ _ _ _ _ _ _ _ _ _ _ _ _ _ _ _ _ _ _ _ _ _ _ _ _ _ _ _ _ _ _ _ _ _ _ _ _ _ _ _ _ _ _ _ _ _ _ _ _ _ _ _ _ _ _ _ _ _ _ _ _
  · replace H := H.2 (h)
    refine Rch.rest ?_
    exact H _ _ _ _ _ _ _ _ _ _ _ _ _ _ _ _ _ _ _ _ _ _ _ _ _ _ _ _ _ _ _ _ _ _ _ _ _ _ _ _ _ _ _ _ _ _ _ _ _ _ _ _ _ _ _ _ _ _ _ _ _ _ _ _ _ _ _ _ _ _ _ _ _ _ _ _ _ _ _ _ _ _ _

theorem w6_6 {Ax1 : Option Addr} {lx1 cx1 : Nat} {x11 : Int} {Ax13 : Option Addr} {lx13 cx13 : Nat} {x80 : Bool} {M : Mem} {Q : Value → Mem → Prop} (H :
    ((x80 = true →
     ∃ v25', sliceP Try.prog 22 (.slice Ax1 lx1 cx1) none (some (.int .i64 x11)) none = some v25' ∧
     ∃ s26', asS v25' = some s26' ∧
     Cn Try.prog 15 #[.slice Ax13 lx13 cx13, .slice s26'.1 (s26'.2.1) (s26'.2.2)] M fun v27' N27' =>
      ∃ b28', asB v27' = some b28' ∧
      Q (.bool b28') N27') ∧
     (x80 = false →
     Q (.bool false) M))) :
    A6_6 Ax1 lx1 cx1 x11 Ax13 lx13 cx13 x80 M Q := by
  intro g0 g2 g3 g4 g5 g6 g7 g8 g9 g10 g12 g14 g15 g16 g17 g18 g19 g20 g21 g22 g23 g24 g25 g26 g27 g28 g29 g30 g31 g32 g33 g34 g35 g36 g37 g38 g39 g40 g41 g42 g43 g44 g45 g46 g47 g48 g49 g50 g51 g52 g53 g54 g55 g56 g57 g58 g59 g60 g61 g62 g63 g64 g65 g66 g67 g68 g69 g70 g71 g72 g73 g74 g75 g76 g77 g78 g79 g81 g82 g83 g84 g85 g86
  refine Rg.step (d := 7) (j := 29) (fun call K => r6_10p22) rfl rfl ?_
  refine Rch.cB (fun h => ?_) (fun h => ?_)
  · replace H := H.1 (h)
    refine Rch.ex H fun v25' H => Rch.ex H fun s26' H => Rch.call H fun v27' N27' H => Rch.ex H fun b28' H => Rch.rest (Rg.done rfl ?_)
    exact Rn.ret k6_33 e6 H
  · replace H := H.2 (h)
    refine Rch.rest (Rg.done rfl ?_)
    exact Rn.ret k6_33 e6 H


end Go.Zt
