/- The functions' walks: for each function and each loop a rule of what it comes to. Printed by zw.py. -/
import Derived.Test.YtpfhalehdgcbeaaProg
import Derived.Test.YtpfhalehdgcbeaaZgA
set_option linter.unusedVariables false
set_option maxRecDepth 100000
namespace Go.Zt
open Go Go.Sim Go.Proofs

variable {g0 g1 g2 g3 g4 g5 g6 g7 g8 g9 g10 g11 g12 g13 g14 g15 g16 g17 g18 g19 g20 g21 g22 g23 g24 g25 g26 g27 g28 g29 g30 g31 g32 g33 g34 g35 g36 g37 g38 g39 g40 g41 g42 g43 g44 g45 g46 g47 g48 g49 g50 g51 g52 g53 g54 g55 g56 g57 g58 g59 g60 g61 g62 g63 g64 g65 g66 g67 g68 g69 g70 g71 g72 g73 g74 g75 g76 g77 g78 g79 g80 g81 g82 g83 g84 g85 g86 g87 g88 g89 g90 g91 : Value}
/-! ### zoetrope/txfm.Inverse: function 12 -/
noncomputable abbrev P12 (p : List Nat) : Code := subC (codeOf Try.f12) p
noncomputable abbrev O12 (p : List Nat) : Array Oper := opsOf (subC (codeOf Try.f12) p)
theorem b12 : Try.prog.funcs[12]? = some Try.f12 ∧ (Orc.tab Try.prog).lookup 12 = none := ⟨by kernel_rfl, by kernel_rfl⟩
theorem d12 : Try.f12.body = some (P12 []) := by kernel_rfl
theorem t12 {x0 x1 : Int} {Ax2 : Option Addr} {lx2 cx2 : Nat} : #[.int .i64 x0,.int .i64 x1,.slice Ax2 lx2 cx2] ++ Array.replicate (Try.f12.ntmps - (#[.int .i64 x0,.int .i64 x1,.slice Ax2 lx2 cx2] : Array Value).size) undef = #[.int .i64 x0,.int .i64 x1,.slice Ax2 lx2 cx2,undef,undef,undef,undef,undef,undef,undef,undef,undef,undef,undef,undef,undef,undef,undef,undef,undef,undef,undef,undef,undef,undef,undef,undef,undef,undef,undef,undef,undef,undef,undef,undef,undef,undef,undef,undef,undef,undef,undef,undef,undef,undef,undef,undef,undef,undef,undef,undef,undef,undef,undef,undef,undef,undef,undef,undef,undef,undef,undef,undef,undef,undef,undef,undef,undef,undef,undef,undef,undef,undef,undef,undef,undef,undef,undef,undef,undef,undef,undef,undef,undef,undef,undef,undef,undef,undef,undef,undef,undef] := by kernel_rfl
theorem k12_0 : P12 [] = .seq (P12 [0]) (P12 [1]) := by kernel_rfl
theorem k12_1 : P12 [0] = .region 0 (O12 [0]) false := by kernel_rfl
theorem r12_0 {x1 : Int} {M : Mem} {call : CallM} {K : Array Value → Mem → R} :
    opsK Try.prog (fun _ => call) (O12 [0]) (O12 [0]).toList 0 #[g0,.int .i64 x1,g2,g3,g4,g5,g6,g7,g8,g9,g10,g11,g12,g13,g14,g15,g16,g17,g18,g19,g20,g21,g22,g23,g24,g25,g26,g27,g28,g29,g30,g31,g32,g33,g34,g35,g36,g37,g38,g39,g40,g41,g42,g43,g44,g45,g46,g47,g48,g49,g50,g51,g52,g53,g54,g55,g56,g57,g58,g59,g60,g61,g62,g63,g64,g65,g66,g67,g68,g69,g70,g71,g72,g73,g74,g75,g76,g77,g78,g79,g80,g81,g82,g83,g84,g85,g86,g87,g88,g89,g90,g91] M K = K #[g0,.int .i64 x1,g2,g3,.pointer (some ⟨2 * M.nb.size, 0, none⟩),g5,.slice none 0 0,.int .i64 0,g8,g9,g10,g11,g12,g13,g14,g15,g16,g17,g18,g19,g20,g21,g22,g23,g24,g25,g26,g27,g28,g29,g30,g31,g32,g33,g34,g35,g36,g37,g38,g39,g40,g41,g42,g43,g44,g45,g46,g47,g48,g49,g50,g51,g52,g53,g54,g55,g56,g57,g58,g59,g60,g61,g62,g63,g64,g65,g66,g67,g68,g69,g70,g71,g72,g73,g74,g75,g76,g77,g78,g79,g80,g81,g82,g83,g84,g85,g86,g87,g88,g89,g90,g91] (M.new (.cells #[.int .i64 x1] 3)) := by kernel_rfl
theorem k12_2 : P12 [1] = .seq (P12 [1,0]) (P12 [1,1]) := by kernel_rfl
theorem k12_3 : P12 [1,0] = .region 1 (O12 [1,0]) false := by kernel_rfl
theorem r12_1 {x0 : Int} {M : Mem} {call : CallM} {K : Array Value → Mem → R} :
    opsK Try.prog (fun _ => call) (O12 [1,0]) (O12 [1,0]).toList 0 #[.int .i64 x0,g1,g2,g3,g4,g5,g6,g7,g8,g9,g10,g11,g12,g13,g14,g15,g16,g17,g18,g19,g20,g21,g22,g23,g24,g25,g26,g27,g28,g29,g30,g31,g32,g33,g34,g35,g36,g37,g38,g39,g40,g41,g42,g43,g44,g45,g46,g47,g48,g49,g50,g51,g52,g53,g54,g55,g56,g57,g58,g59,g60,g61,g62,g63,g64,g65,g66,g67,g68,g69,g70,g71,g72,g73,g74,g75,g76,g77,g78,g79,g80,g81,g82,g83,g84,g85,g86,g87,g88,g89,g90,g91] M K = K #[.int .i64 x0,g1,g2,g3,g4,g5,g6,g7,.int .i64 (if 32 < x0 then 32 else x0),g9,g10,g11,g12,g13,g14,g15,g16,g17,g18,.int .i64 x0,.int .i64 (if 32 < x0 then 32 else x0),g21,g22,g23,g24,g25,g26,g27,g28,g29,g30,g31,g32,g33,g34,g35,g36,g37,g38,g39,g40,g41,g42,g43,g44,g45,g46,g47,g48,g49,g50,g51,g52,g53,g54,g55,g56,g57,g58,g59,g60,g61,g62,g63,g64,g65,g66,g67,g68,g69,g70,g71,g72,g73,g74,g75,g76,g77,g78,g79,g80,g81,g82,g83,g84,g85,g86,g87,g88,g89,g90,g91] M := by kernel_rfl
theorem k12_4 : P12 [1,1] = .seq (P12 [1,1,0]) (P12 [1,1,1]) := by kernel_rfl
theorem k12_5 : P12 [1,1,0] = .seq (P12 [1,1,0,0]) (P12 [1,1,0,1]) := by kernel_rfl
theorem k12_6 : P12 [1,1,0,0] = .region 2 (O12 [1,1,0,0]) false := by kernel_rfl
theorem r12_2 {x0 : Int} {Ax2 : Option Addr} {lx2 cx2 : Nat} {x4 : Option Addr} {x8 : Int} {M : Mem} {call : CallM} {K : Array Value → Mem → R} :
    opsK Try.prog (fun _ => call) (O12 [1,1,0,0]) (O12 [1,1,0,0]).toList 0 #[.int .i64 x0,g1,.slice Ax2 lx2 cx2,g3,.pointer x4,g5,g6,g7,.int .i64 x8,g9,g10,g11,g12,g13,g14,g15,g16,g17,g18,g19,g20,g21,g22,g23,g24,g25,g26,g27,g28,g29,g30,g31,g32,g33,g34,g35,g36,g37,g38,g39,g40,g41,g42,g43,g44,g45,g46,g47,g48,g49,g50,g51,g52,g53,g54,g55,g56,g57,g58,g59,g60,g61,g62,g63,g64,g65,g66,g67,g68,g69,g70,g71,g72,g73,g74,g75,g76,g77,g78,g79,g80,g81,g82,g83,g84,g85,g86,g87,g88,g89,g90,g91] M K = (x4).bind fun a_1 => (M.intAt .i64 a_1.block a_1.off).bind fun x_2 => (call 27 #[.int .i64 x0, .int .i64 x_2, .slice Ax2 lx2 cx2, .int .i64 x8, .int .i64 1048576] M).bind fun r_3 => (asI .i64 r_3.1).bind fun x_4 => K #[.int .i64 x0,g1,.slice Ax2 lx2 cx2,g3,.pointer x4,g5,g6,g7,.int .i64 x8,.int .i64 x_4,g10,g11,g12,g13,g14,g15,g16,g17,g18,g19,g20,.int .i64 x0,.int .i64 x_2,.slice Ax2 lx2 cx2,.int .i64 x8,.int .i64 x_4,g26,g27,g28,g29,g30,g31,g32,g33,g34,g35,g36,g37,g38,g39,g40,g41,g42,g43,g44,g45,g46,g47,g48,g49,g50,g51,g52,g53,g54,g55,g56,g57,g58,g59,g60,g61,g62,g63,g64,g65,g66,g67,g68,g69,g70,g71,g72,g73,g74,g75,g76,g77,g78,g79,g80,g81,g82,g83,g84,g85,g86,g87,g88,g89,g90,g91] r_3.2 := by kernel_rfl
theorem k12_7 : P12 [1,1,0,1] = .seq (P12 [1,1,0,1,0]) (P12 [1,1,0,1,1]) := by kernel_rfl
theorem k12_8 : P12 [1,1,0,1,0] = .region 3 (O12 [1,1,0,1,0]) false := by kernel_rfl
theorem r12_3 {x9 : Int} {M : Mem} {call : CallM} {K : Array Value → Mem → R} :
    opsK Try.prog (fun _ => call) (O12 [1,1,0,1,0]) (O12 [1,1,0,1,0]).toList 0 #[g0,g1,g2,g3,g4,g5,g6,g7,g8,.int .i64 x9,g10,g11,g12,g13,g14,g15,g16,g17,g18,g19,g20,g21,g22,g23,g24,g25,g26,g27,g28,g29,g30,g31,g32,g33,g34,g35,g36,g37,g38,g39,g40,g41,g42,g43,g44,g45,g46,g47,g48,g49,g50,g51,g52,g53,g54,g55,g56,g57,g58,g59,g60,g61,g62,g63,g64,g65,g66,g67,g68,g69,g70,g71,g72,g73,g74,g75,g76,g77,g78,g79,g80,g81,g82,g83,g84,g85,g86,g87,g88,g89,g90,g91] M K = K #[g0,g1,g2,g3,g4,g5,g6,g7,g8,.int .i64 x9,g10,g11,g12,g13,g14,g15,g16,g17,g18,g19,g20,g21,g22,g23,g24,g25,.int .i64 x9,.bool (x9 != 0),g28,g29,g30,g31,g32,g33,g34,g35,g36,g37,g38,g39,g40,g41,g42,g43,g44,g45,g46,g47,g48,g49,g50,g51,g52,g53,g54,g55,g56,g57,g58,g59,g60,g61,g62,g63,g64,g65,g66,g67,g68,g69,g70,g71,g72,g73,g74,g75,g76,g77,g78,g79,g80,g81,g82,g83,g84,g85,g86,g87,g88,g89,g90,g91] M := by kernel_rfl
theorem c12_9 : P12 [1,1,0,1,1] = .cond (.tmp 27) (P12 [1,1,0,1,1,0]) (P12 [1,1,0,1,1,1]) := by kernel_rfl
theorem k12_10 : P12 [1,1,0,1,1,0] = .seq (P12 [1,1,0,1,1,0,0]) (P12 [1,1,0,1,1,0,1]) := by kernel_rfl
theorem k12_11 : P12 [1,1,0,1,1,0,0] = .region 4 (O12 [1,1,0,1,1,0,0]) false := by kernel_rfl
theorem r12_4 {x9 : Int} {M : Mem} {call : CallM} {K : Array Value → Mem → R} :
    opsK Try.prog (fun _ => call) (O12 [1,1,0,1,1,0,0]) (O12 [1,1,0,1,1,0,0]).toList 0 #[g0,g1,g2,g3,g4,g5,g6,g7,g8,.int .i64 x9,g10,g11,g12,g13,g14,g15,g16,g17,g18,g19,g20,g21,g22,g23,g24,g25,g26,g27,g28,g29,g30,g31,g32,g33,g34,g35,g36,g37,g38,g39,g40,g41,g42,g43,g44,g45,g46,g47,g48,g49,g50,g51,g52,g53,g54,g55,g56,g57,g58,g59,g60,g61,g62,g63,g64,g65,g66,g67,g68,g69,g70,g71,g72,g73,g74,g75,g76,g77,g78,g79,g80,g81,g82,g83,g84,g85,g86,g87,g88,g89,g90,g91] M K = K #[g0,g1,g2,g3,g4,g5,.slice none 0 0,.int .i64 x9,g8,.int .i64 x9,g10,g11,g12,g13,g14,g15,g16,g17,g18,g19,g20,g21,g22,g23,g24,g25,g26,g27,.int .i64 x9,g29,g30,g31,g32,g33,g34,g35,g36,g37,g38,g39,g40,g41,g42,g43,g44,g45,g46,g47,g48,g49,g50,g51,g52,g53,g54,g55,g56,g57,g58,g59,g60,g61,g62,g63,g64,g65,g66,g67,g68,g69,g70,g71,g72,g73,g74,g75,g76,g77,g78,g79,g80,g81,g82,g83,g84,g85,g86,g87,g88,g89,g90,g91] M := by kernel_rfl
theorem k12_12 : P12 [1,1,0,1,1,0,1] = .ret := by kernel_rfl
theorem e12 {M : Mem} : finish Try.prog Try.f12 #[g0,g1,g2,g3,g4,g5,g6,g7,g8,g9,g10,g11,g12,g13,g14,g15,g16,g17,g18,g19,g20,g21,g22,g23,g24,g25,g26,g27,g28,g29,g30,g31,g32,g33,g34,g35,g36,g37,g38,g39,g40,g41,g42,g43,g44,g45,g46,g47,g48,g49,g50,g51,g52,g53,g54,g55,g56,g57,g58,g59,g60,g61,g62,g63,g64,g65,g66,g67,g68,g69,g70,g71,g72,g73,g74,g75,g76,g77,g78,g79,g80,g81,g82,g83,g84,g85,g86,g87,g88,g89,g90,g91] M = some (.tuple #[g6, g7], M) := by kernel_rfl
theorem k12_14 : P12 [1,1,0,1,1,1] = .skip := by kernel_rfl
theorem k12_15 : P12 [1,1,1] = .seq (P12 [1,1,1,0]) (P12 [1,1,1,1]) := by kernel_rfl
theorem k12_16 : P12 [1,1,1,0] = .region 5 (O12 [1,1,1,0]) false := by kernel_rfl
theorem r12_5 {x0 : Int} {M : Mem} {call : CallM} {K : Array Value → Mem → R} :
    opsK Try.prog (fun _ => call) (O12 [1,1,1,0]) (O12 [1,1,1,0]).toList 0 #[.int .i64 x0,g1,g2,g3,g4,g5,g6,g7,g8,g9,g10,g11,g12,g13,g14,g15,g16,g17,g18,g19,g20,g21,g22,g23,g24,g25,g26,g27,g28,g29,g30,g31,g32,g33,g34,g35,g36,g37,g38,g39,g40,g41,g42,g43,g44,g45,g46,g47,g48,g49,g50,g51,g52,g53,g54,g55,g56,g57,g58,g59,g60,g61,g62,g63,g64,g65,g66,g67,g68,g69,g70,g71,g72,g73,g74,g75,g76,g77,g78,g79,g80,g81,g82,g83,g84,g85,g86,g87,g88,g89,g90,g91] M K = (makeP Try.prog 22 (.int .i64 (IntKind.i64.wrap (x0 * x0))) (.int .i64 (IntKind.i64.wrap (x0 * x0))) M).bind fun r_1 => (asS r_1.1).bind fun s_2 => ((r_1.2.new (.cells #[.int .i64 0, .slice none 0 0] 43)).put (2 * r_1.2.nb.size) 0 (.int .i64 x0)).bind fun M_3 => (M_3.put (2 * r_1.2.nb.size) 1 (.slice s_2.1 (s_2.2.1) (s_2.2.2))).bind fun M_4 => K #[.int .i64 x0,g1,g2,g3,g4,g5,g6,g7,g8,g9,.pointer (some ⟨2 * r_1.2.nb.size, 0, none⟩),g11,g12,g13,g14,g15,g16,g17,g18,g19,g20,g21,g22,g23,g24,g25,g26,g27,g28,.int .i64 x0,.int .i64 x0,.int .i64 x0,.int .i64 (IntKind.i64.wrap (x0 * x0)),.slice s_2.1 (s_2.2.1) (s_2.2.2),.agg #[.int .i64 x0, .slice s_2.1 (s_2.2.1) (s_2.2.2)],g35,g36,g37,g38,g39,g40,g41,g42,g43,g44,g45,g46,g47,g48,g49,g50,g51,g52,g53,g54,g55,g56,g57,g58,g59,g60,g61,g62,g63,g64,g65,g66,g67,g68,g69,g70,g71,g72,g73,g74,g75,g76,g77,g78,g79,g80,g81,g82,g83,g84,g85,g86,g87,g88,g89,g90,g91] M_4 := by kernel_rfl
theorem k12_17 : P12 [1,1,1,1] = .seq (P12 [1,1,1,1,0]) (P12 [1,1,1,1,1]) := by kernel_rfl
theorem k12_18 : P12 [1,1,1,1,0] = .seq (P12 [1,1,1,1,0,0]) (P12 [1,1,1,1,0,1]) := by kernel_rfl
theorem k12_19 : P12 [1,1,1,1,0,0] = .region 6 (O12 [1,1,1,1,0,0]) false := by kernel_rfl
theorem r12_6 {Ax2 : Option Addr} {lx2 cx2 : Nat} {M : Mem} {call : CallM} {K : Array Value → Mem → R} :
    opsK Try.prog (fun _ => call) (O12 [1,1,1,1,0,0]) (O12 [1,1,1,1,0,0]).toList 0 #[g0,g1,.slice Ax2 lx2 cx2,g3,g4,g5,g6,g7,g8,g9,g10,g11,g12,g13,g14,g15,g16,g17,g18,g19,g20,g21,g22,g23,g24,g25,g26,g27,g28,g29,g30,g31,g32,g33,g34,g35,g36,g37,g38,g39,g40,g41,g42,g43,g44,g45,g46,g47,g48,g49,g50,g51,g52,g53,g54,g55,g56,g57,g58,g59,g60,g61,g62,g63,g64,g65,g66,g67,g68,g69,g70,g71,g72,g73,g74,g75,g76,g77,g78,g79,g80,g81,g82,g83,g84,g85,g86,g87,g88,g89,g90,g91] M K = K #[g0,g1,.slice Ax2 lx2 cx2,g3,g4,g5,g6,g7,g8,g9,g10,g11,g12,g13,g14,g15,g16,g17,g18,g19,g20,g21,g22,g23,g24,g25,g26,g27,g28,g29,g30,g31,g32,g33,g34,.slice Ax2 lx2 cx2,.int .i64 ((lx2 : Int)),.int .i64 0,g38,g39,g40,g41,g42,g43,g44,g45,g46,g47,g48,g49,g50,g51,g52,g53,g54,g55,g56,g57,g58,g59,g60,g61,g62,g63,g64,g65,g66,g67,g68,g69,g70,g71,g72,g73,g74,g75,g76,g77,g78,g79,g80,g81,g82,g83,g84,g85,g86,g87,g88,g89,g90,g91] M := by kernel_rfl
theorem k12_20 : P12 [1,1,1,1,0,1] = .block 0 (P12 [1,1,1,1,0,1,0]) := by kernel_rfl
theorem k12_21 : P12 [1,1,1,1,0,1,0] = .loop (P12 [1,1,1,1,0,1,0,0]) := by kernel_rfl
theorem k12_22 : P12 [1,1,1,1,0,1,0,0] = .seq (P12 [1,1,1,1,0,1,0,0,0]) (P12 [1,1,1,1,0,1,0,0,1]) := by kernel_rfl
theorem k12_23 : P12 [1,1,1,1,0,1,0,0,0] = .region 7 (O12 [1,1,1,1,0,1,0,0,0]) false := by kernel_rfl
theorem r12_7 {x36 x37 : Int} {M : Mem} {call : CallM} {K : Array Value → Mem → R} :
    opsK Try.prog (fun _ => call) (O12 [1,1,1,1,0,1,0,0,0]) (O12 [1,1,1,1,0,1,0,0,0]).toList 0 #[g0,g1,g2,g3,g4,g5,g6,g7,g8,g9,g10,g11,g12,g13,g14,g15,g16,g17,g18,g19,g20,g21,g22,g23,g24,g25,g26,g27,g28,g29,g30,g31,g32,g33,g34,g35,.int .i64 x36,.int .i64 x37,g38,g39,g40,g41,g42,g43,g44,g45,g46,g47,g48,g49,g50,g51,g52,g53,g54,g55,g56,g57,g58,g59,g60,g61,g62,g63,g64,g65,g66,g67,g68,g69,g70,g71,g72,g73,g74,g75,g76,g77,g78,g79,g80,g81,g82,g83,g84,g85,g86,g87,g88,g89,g90,g91] M K = K #[g0,g1,g2,g3,g4,g5,g6,g7,g8,g9,g10,g11,g12,g13,g14,g15,g16,g17,g18,g19,g20,g21,g22,g23,g24,g25,g26,g27,g28,g29,g30,g31,g32,g33,g34,g35,.int .i64 x36,.int .i64 x37,.bool (decide (x37 < x36)),g39,g40,g41,g42,g43,g44,g45,g46,g47,g48,g49,g50,g51,g52,g53,g54,g55,g56,g57,g58,g59,g60,g61,g62,g63,g64,g65,g66,g67,g68,g69,g70,g71,g72,g73,g74,g75,g76,g77,g78,g79,g80,g81,g82,g83,g84,g85,g86,g87,g88,g89,g90,g91] M := by kernel_rfl
theorem k12_24 : P12 [1,1,1,1,0,1,0,0,1] = .seq (P12 [1,1,1,1,0,1,0,0,1,0]) (P12 [1,1,1,1,0,1,0,0,1,1]) := by kernel_rfl
theorem c12_25 : P12 [1,1,1,1,0,1,0,0,1,0] = .cond (.tmp 38) (P12 [1,1,1,1,0,1,0,0,1,0,0]) (P12 [1,1,1,1,0,1,0,0,1,0,1]) := by kernel_rfl
theorem k12_26 : P12 [1,1,1,1,0,1,0,0,1,0,0] = .skip := by kernel_rfl
theorem k12_27 : P12 [1,1,1,1,0,1,0,0,1,1] = .seq (P12 [1,1,1,1,0,1,0,0,1,1,0]) (P12 [1,1,1,1,0,1,0,0,1,1,1]) := by kernel_rfl
theorem k12_28 : P12 [1,1,1,1,0,1,0,0,1,1,0] = .block 1 (P12 [1,1,1,1,0,1,0,0,1,1,0,0]) := by kernel_rfl
theorem k12_29 : P12 [1,1,1,1,0,1,0,0,1,1,0,0] = .seq (P12 [1,1,1,1,0,1,0,0,1,1,0,0,0]) (P12 [1,1,1,1,0,1,0,0,1,1,0,0,1]) := by kernel_rfl
theorem k12_30 : P12 [1,1,1,1,0,1,0,0,1,1,0,0,0] = .region 8 (O12 [1,1,1,1,0,1,0,0,1,1,0,0,0]) false := by kernel_rfl
theorem r12_8 {Ax35 : Option Addr} {lx35 cx35 : Nat} {x37 : Int} {M : Mem} {call : CallM} {K : Array Value → Mem → R} :
    opsK Try.prog (fun _ => call) (O12 [1,1,1,1,0,1,0,0,1,1,0,0,0]) (O12 [1,1,1,1,0,1,0,0,1,1,0,0,0]).toList 0 #[g0,g1,g2,g3,g4,g5,g6,g7,g8,g9,g10,g11,g12,g13,g14,g15,g16,g17,g18,g19,g20,g21,g22,g23,g24,g25,g26,g27,g28,g29,g30,g31,g32,g33,g34,.slice Ax35 lx35 cx35,g36,.int .i64 x37,g38,g39,g40,g41,g42,g43,g44,g45,g46,g47,g48,g49,g50,g51,g52,g53,g54,g55,g56,g57,g58,g59,g60,g61,g62,g63,g64,g65,g66,g67,g68,g69,g70,g71,g72,g73,g74,g75,g76,g77,g78,g79,g80,g81,g82,g83,g84,g85,g86,g87,g88,g89,g90,g91] M K = (idxA Ax35 lx35 1 x37).bind fun a_1 => (M.intAt .i64 a_1.block a_1.off).bind fun x_2 => K #[g0,g1,g2,g3,g4,g5,g6,g7,g8,g9,g10,.int .i64 x37,.int .i64 x_2,g13,g14,g15,g16,g17,g18,g19,g20,g21,g22,g23,g24,g25,g26,g27,g28,g29,g30,g31,g32,g33,g34,.slice Ax35 lx35 cx35,g36,.int .i64 x37,g38,.int .i64 x37,.pointer (some a_1),.int .i64 x_2,g42,g43,g44,g45,g46,g47,g48,g49,g50,g51,g52,g53,g54,g55,g56,g57,g58,g59,g60,g61,g62,g63,g64,g65,g66,g67,g68,g69,g70,g71,g72,g73,g74,g75,g76,g77,g78,g79,g80,g81,g82,g83,g84,g85,g86,g87,g88,g89,g90,g91] M := by kernel_rfl
theorem k12_31 : P12 [1,1,1,1,0,1,0,0,1,1,0,0,1] = .region 9 (O12 [1,1,1,1,0,1,0,0,1,1,0,0,1]) true ∧ drawOk (O12 [1,1,1,1,0,1,0,0,1,1,0,0,1]) = true := ⟨by kernel_rfl, by kernel_rfl⟩
theorem r12_9 {x0 x8 : Int} {x10 : Option Addr} {x11 x12 : Int} {M : Mem} {call : CallM} {K : Array Value → Mem → R} :
    opsI Try.prog (callAt call (O12 [1,1,1,1,0,1,0,0,1,1,0,0,1])) (O12 [1,1,1,1,0,1,0,0,1,1,0,0,1]) (ordOf (O12 [1,1,1,1,0,1,0,0,1,1,0,0,1])) [] #[.int .i64 x0,g1,g2,g3,g4,g5,g6,g7,.int .i64 x8,g9,.pointer x10,.int .i64 x11,.int .i64 x12,g13,g14,g15,g16,g17,g18,g19,g20,g21,g22,g23,g24,g25,g26,g27,g28,g29,g30,g31,g32,g33,g34,g35,g36,g37,g38,g39,g40,g41,g42,g43,g44,g45,g46,g47,g48,g49,g50,g51,g52,g53,g54,g55,g56,g57,g58,g59,g60,g61,g62,g63,g64,g65,g66,g67,g68,g69,g70,g71,g72,g73,g74,g75,g76,g77,g78,g79,g80,g81,g82,g83,g84,g85,g86,g87,g88,g89,g90,g91] M K = (x10).bind fun a_1 => (M.slAt a_1.block (a_1.off + 1)).bind fun s_2 => (binV Try.prog .quo 3 3 (.int .i64 x11) (.int .i64 x8)).bind fun v_3 => (asI .i64 v_3).bind fun x_4 => (binV Try.prog .rem 3 3 (.int .i64 x11) (.int .i64 x8)).bind fun v_5 => (asI .i64 v_5).bind fun x_6 => (floored call 28 #[.int .i64 x12] M).bind fun r_7 => (asI .i64 r_7.1).bind fun x_8 => (idxA s_2.1 (s_2.2.1) 1 (IntKind.i64.wrap ((IntKind.i64.wrap (x_4 * x0)) + x_6))).bind fun a_9 => (r_7.2.put a_9.block a_9.off (.int .i64 x_8)).bind fun M_10 => K #[.int .i64 x0,g1,g2,g3,g4,g5,g6,g7,.int .i64 x8,g9,.pointer x10,.int .i64 x11,.int .i64 x12,g13,g14,g15,g16,g17,g18,g19,g20,g21,g22,g23,g24,g25,g26,g27,g28,g29,g30,g31,g32,g33,g34,g35,g36,g37,g38,g39,g40,g41,.pointer (some ⟨a_1.block, a_1.off + 1, none⟩),.slice s_2.1 (s_2.2.1) (s_2.2.2),.int .i64 x11,.int .i64 x8,.int .i64 x_4,.int .i64 x0,.int .i64 (IntKind.i64.wrap (x_4 * x0)),.int .i64 x11,.int .i64 x8,.int .i64 x_6,.int .i64 (IntKind.i64.wrap ((IntKind.i64.wrap (x_4 * x0)) + x_6)),.int .i64 x12,.int .i64 x_8,.pointer (some a_9),g56,g57,g58,g59,g60,g61,g62,g63,g64,g65,g66,g67,g68,g69,g70,g71,g72,g73,g74,g75,g76,g77,g78,g79,g80,g81,g82,g83,g84,g85,g86,g87,g88,g89,g90,g91] M_10 := by kernel_rfl
theorem k12_32 : P12 [1,1,1,1,0,1,0,0,1,1,1] = .region 10 (O12 [1,1,1,1,0,1,0,0,1,1,1]) false := by kernel_rfl
theorem r12_10 {x37 : Int} {M : Mem} {call : CallM} {K : Array Value → Mem → R} :
    opsK Try.prog (fun _ => call) (O12 [1,1,1,1,0,1,0,0,1,1,1]) (O12 [1,1,1,1,0,1,0,0,1,1,1]).toList 0 #[g0,g1,g2,g3,g4,g5,g6,g7,g8,g9,g10,g11,g12,g13,g14,g15,g16,g17,g18,g19,g20,g21,g22,g23,g24,g25,g26,g27,g28,g29,g30,g31,g32,g33,g34,g35,g36,.int .i64 x37,g38,g39,g40,g41,g42,g43,g44,g45,g46,g47,g48,g49,g50,g51,g52,g53,g54,g55,g56,g57,g58,g59,g60,g61,g62,g63,g64,g65,g66,g67,g68,g69,g70,g71,g72,g73,g74,g75,g76,g77,g78,g79,g80,g81,g82,g83,g84,g85,g86,g87,g88,g89,g90,g91] M K = K #[g0,g1,g2,g3,g4,g5,g6,g7,g8,g9,g10,g11,g12,g13,g14,g15,g16,g17,g18,g19,g20,g21,g22,g23,g24,g25,g26,g27,g28,g29,g30,g31,g32,g33,g34,g35,g36,.int .i64 (IntKind.i64.wrap (x37 + 1)),g38,g39,g40,g41,g42,g43,g44,g45,g46,g47,g48,g49,g50,g51,g52,g53,g54,g55,.int .i64 (IntKind.i64.wrap (x37 + 1)),g57,g58,g59,g60,g61,g62,g63,g64,g65,g66,g67,g68,g69,g70,g71,g72,g73,g74,g75,g76,g77,g78,g79,g80,g81,g82,g83,g84,g85,g86,g87,g88,g89,g90,g91] M := by kernel_rfl
theorem k12_33 : P12 [1,1,1,1,0,1,0,0,1,0,1] = .exit 0 := by kernel_rfl
theorem k12_34 : P12 [1,1,1,1,1] = .seq (P12 [1,1,1,1,1,0]) (P12 [1,1,1,1,1,1]) := by kernel_rfl
theorem k12_35 : P12 [1,1,1,1,1,0] = .region 11 (O12 [1,1,1,1,1,0]) false := by kernel_rfl
theorem r12_11 {x4 : Option Addr} {M : Mem} {call : CallM} {K : Array Value → Mem → R} :
    opsK Try.prog (fun _ => call) (O12 [1,1,1,1,1,0]) (O12 [1,1,1,1,1,0]).toList 0 #[g0,g1,g2,g3,.pointer x4,g5,g6,g7,g8,g9,g10,g11,g12,g13,g14,g15,g16,g17,g18,g19,g20,g21,g22,g23,g24,g25,g26,g27,g28,g29,g30,g31,g32,g33,g34,g35,g36,g37,g38,g39,g40,g41,g42,g43,g44,g45,g46,g47,g48,g49,g50,g51,g52,g53,g54,g55,g56,g57,g58,g59,g60,g61,g62,g63,g64,g65,g66,g67,g68,g69,g70,g71,g72,g73,g74,g75,g76,g77,g78,g79,g80,g81,g82,g83,g84,g85,g86,g87,g88,g89,g90,g91] M K = (x4).bind fun a_1 => (M.intAt .i64 a_1.block a_1.off).bind fun x_2 => (call 29 #[.int .i64 x_2] M).bind fun r_3 => (asU 2 r_3.1).bind fun cs_4 => (asI .i64 (cs_4.getD 0 undef)).bind fun x_5 => (asI .i64 (cs_4.getD 1 undef)).bind fun x_6 => K #[g0,g1,g2,g3,.pointer x4,g5,g6,g7,g8,g9,g10,g11,g12,.int .i64 x_5,.int .i64 x_6,g15,g16,g17,g18,g19,g20,g21,g22,g23,g24,g25,g26,g27,g28,g29,g30,g31,g32,g33,g34,g35,g36,g37,g38,g39,g40,g41,g42,g43,g44,g45,g46,g47,g48,g49,g50,g51,g52,g53,g54,g55,g56,.tuple #[.int .i64 x_5, .int .i64 x_6],.int .i64 x_2,.tuple #[.int .i64 x_5, .int .i64 x_6],.int .i64 x_5,.int .i64 x_6,g62,g63,g64,g65,g66,g67,g68,g69,g70,g71,g72,g73,g74,g75,g76,g77,g78,g79,g80,g81,g82,g83,g84,g85,g86,g87,g88,g89,g90,g91] r_3.2 := by kernel_rfl
theorem k12_36 : P12 [1,1,1,1,1,1] = .seq (P12 [1,1,1,1,1,1,0]) (P12 [1,1,1,1,1,1,1]) := by kernel_rfl
theorem k12_37 : P12 [1,1,1,1,1,1,0] = .region 12 (O12 [1,1,1,1,1,1,0]) false := by kernel_rfl
theorem r12_12 {x0 : Int} {M : Mem} {call : CallM} {K : Array Value → Mem → R} :
    opsK Try.prog (fun _ => call) (O12 [1,1,1,1,1,1,0]) (O12 [1,1,1,1,1,1,0]).toList 0 #[.int .i64 x0,g1,g2,g3,g4,g5,g6,g7,g8,g9,g10,g11,g12,g13,g14,g15,g16,g17,g18,g19,g20,g21,g22,g23,g24,g25,g26,g27,g28,g29,g30,g31,g32,g33,g34,g35,g36,g37,g38,g39,g40,g41,g42,g43,g44,g45,g46,g47,g48,g49,g50,g51,g52,g53,g54,g55,g56,g57,g58,g59,g60,g61,g62,g63,g64,g65,g66,g67,g68,g69,g70,g71,g72,g73,g74,g75,g76,g77,g78,g79,g80,g81,g82,g83,g84,g85,g86,g87,g88,g89,g90,g91] M K = (mapPutV Try.prog 46 (.map (some (2 * M.nb.size))) (.int .i64 4) (.int .i64 0) (M.new (.map #[] 0))).bind fun r_1 => (mapPutV Try.prog 46 (.map (some (2 * M.nb.size))) (.int .i64 8) (.int .i64 1) r_1.2).bind fun r_2 => (mapPutV Try.prog 46 (.map (some (2 * M.nb.size))) (.int .i64 16) (.int .i64 2) r_2.2).bind fun r_3 => (mapPutV Try.prog 46 (.map (some (2 * M.nb.size))) (.int .i64 32) (.int .i64 2) r_3.2).bind fun r_4 => (mapPutV Try.prog 46 (.map (some (2 * M.nb.size))) (.int .i64 64) (.int .i64 2) r_4.2).bind fun r_5 => (lookupV Try.prog 46 (.map (some (2 * M.nb.size))) (.int .i64 x0) false r_5.2).bind fun r_6 => (asI .i64 r_6.1).bind fun x_7 => K #[.int .i64 x0,g1,g2,g3,g4,g5,g6,g7,g8,g9,g10,g11,g12,g13,g14,.int .i64 x_7,g16,g17,g18,g19,g20,g21,g22,g23,g24,g25,g26,g27,g28,g29,g30,g31,g32,g33,g34,g35,g36,g37,g38,g39,g40,g41,g42,g43,g44,g45,g46,g47,g48,g49,g50,g51,g52,g53,g54,g55,g56,g57,g58,g59,g60,g61,.map (some (2 * M.nb.size)),.map (some (2 * M.nb.size)),.int .i64 x0,.int .i64 x_7,g66,g67,g68,g69,g70,g71,g72,g73,g74,g75,g76,g77,g78,g79,g80,g81,g82,g83,g84,g85,g86,g87,g88,g89,g90,g91] r_6.2 := by kernel_rfl
theorem k12_38 : P12 [1,1,1,1,1,1,1] = .seq (P12 [1,1,1,1,1,1,1,0]) (P12 [1,1,1,1,1,1,1,1]) := by kernel_rfl
theorem k12_39 : P12 [1,1,1,1,1,1,1,0] = .region 13 (O12 [1,1,1,1,1,1,1,0]) false := by kernel_rfl
theorem r12_13 {x4 : Option Addr} {x15 : Int} {M : Mem} {call : CallM} {K : Array Value → Mem → R} :
    opsK Try.prog (fun _ => call) (O12 [1,1,1,1,1,1,1,0]) (O12 [1,1,1,1,1,1,1,0]).toList 0 #[g0,g1,g2,g3,.pointer x4,g5,g6,g7,g8,g9,g10,g11,g12,g13,g14,.int .i64 x15,g16,g17,g18,g19,g20,g21,g22,g23,g24,g25,g26,g27,g28,g29,g30,g31,g32,g33,g34,g35,g36,g37,g38,g39,g40,g41,g42,g43,g44,g45,g46,g47,g48,g49,g50,g51,g52,g53,g54,g55,g56,g57,g58,g59,g60,g61,g62,g63,g64,g65,g66,g67,g68,g69,g70,g71,g72,g73,g74,g75,g76,g77,g78,g79,g80,g81,g82,g83,g84,g85,g86,g87,g88,g89,g90,g91] M K = (x4).bind fun a_1 => (M.intAt .i64 a_1.block a_1.off).bind fun x_2 => (call 30 #[.int .i64 x15, .int .i64 x_2] M).bind fun r_3 => ((r_3.2.new (.cells #[.nilFunc] 36)).put (2 * r_3.2.nb.size) 0 (r_3.1)).bind fun M_4 => K #[g0,g1,g2,g3,.pointer x4,g5,g6,g7,g8,g9,g10,g11,g12,g13,g14,.int .i64 x15,.pointer (some ⟨2 * r_3.2.nb.size, 0, none⟩),g17,g18,g19,g20,g21,g22,g23,g24,g25,g26,g27,g28,g29,g30,g31,g32,g33,g34,g35,g36,g37,g38,g39,g40,g41,g42,g43,g44,g45,g46,g47,g48,g49,g50,g51,g52,g53,g54,g55,g56,g57,g58,g59,g60,g61,g62,g63,g64,g65,.int .i64 x15,.int .i64 x_2,r_3.1,g69,g70,g71,g72,g73,g74,g75,g76,g77,g78,g79,g80,g81,g82,g83,g84,g85,g86,g87,g88,g89,g90,g91] M_4 := by kernel_rfl
theorem k12_40 : P12 [1,1,1,1,1,1,1,1] = .seq (P12 [1,1,1,1,1,1,1,1,0]) (P12 [1,1,1,1,1,1,1,1,1]) := by kernel_rfl
theorem k12_41 : P12 [1,1,1,1,1,1,1,1,0] = .seq (P12 [1,1,1,1,1,1,1,1,0,0]) (P12 [1,1,1,1,1,1,1,1,0,1]) := by kernel_rfl
theorem k12_42 : P12 [1,1,1,1,1,1,1,1,0,0] = .region 14 (O12 [1,1,1,1,1,1,1,1,0,0]) false := by kernel_rfl
theorem r12_14 {x4 : Option Addr} {x8 : Int} {x10 : Option Addr} {x13 : Int} {x16 : Option Addr} {M : Mem} {call : CallM} {K : Array Value → Mem → R} :
    opsK Try.prog (fun _ => call) (O12 [1,1,1,1,1,1,1,1,0,0]) (O12 [1,1,1,1,1,1,1,1,0,0]).toList 0 #[g0,g1,g2,g3,.pointer x4,g5,g6,g7,.int .i64 x8,g9,.pointer x10,g11,g12,.int .i64 x13,g14,g15,.pointer x16,g17,g18,g19,g20,g21,g22,g23,g24,g25,g26,g27,g28,g29,g30,g31,g32,g33,g34,g35,g36,g37,g38,g39,g40,g41,g42,g43,g44,g45,g46,g47,g48,g49,g50,g51,g52,g53,g54,g55,g56,g57,g58,g59,g60,g61,g62,g63,g64,g65,g66,g67,g68,g69,g70,g71,g72,g73,g74,g75,g76,g77,g78,g79,g80,g81,g82,g83,g84,g85,g86,g87,g88,g89,g90,g91] M K = (x10).bind fun a_1 => (M.intAt .i64 a_1.block a_1.off).bind fun x_2 => (M.slAt a_1.block (a_1.off + 1)).bind fun s_3 => (x10).bind fun a_4 => (M.intAt .i64 a_4.block a_4.off).bind fun x_5 => (M.slAt a_4.block (a_4.off + 1)).bind fun s_6 => (call 31 #[.agg #[.int .i64 x_2, .slice s_3.1 (s_3.2.1) (s_3.2.2)], .func (.func 32) #[.agg #[.int .i64 x_5, .slice s_6.1 (s_6.2.1) (s_6.2.2)]] #[], .int .i64 x8, .int .i64 x13, .func (.func 33) #[] #[], .func (.func 34) #[] #[.pointer x16, .pointer x4]] M).bind fun r_7 => (asI .i64 r_7.1).bind fun x_8 => K #[g0,g1,g2,g3,.pointer x4,g5,g6,g7,.int .i64 x8,g9,.pointer x10,g11,g12,.int .i64 x13,g14,g15,.pointer x16,.int .i64 x_8,g18,g19,g20,g21,g22,g23,g24,g25,g26,g27,g28,g29,g30,g31,g32,g33,g34,g35,g36,g37,g38,g39,g40,g41,g42,g43,g44,g45,g46,g47,g48,g49,g50,g51,g52,g53,g54,g55,g56,g57,g58,g59,g60,g61,g62,g63,g64,g65,g66,g67,g68,.agg #[.int .i64 x_2, .slice s_3.1 (s_3.2.1) (s_3.2.2)],.agg #[.int .i64 x_5, .slice s_6.1 (s_6.2.1) (s_6.2.2)],.func (.func 32) #[.agg #[.int .i64 x_5, .slice s_6.1 (s_6.2.1) (s_6.2.2)]] #[],.int .i64 x8,.int .i64 x13,.func (.func 34) #[] #[.pointer x16, .pointer x4],.int .i64 x_8,g76,g77,g78,g79,g80,g81,g82,g83,g84,g85,g86,g87,g88,g89,g90,g91] r_7.2 := by kernel_rfl
theorem k12_43 : P12 [1,1,1,1,1,1,1,1,0,1] = .seq (P12 [1,1,1,1,1,1,1,1,0,1,0]) (P12 [1,1,1,1,1,1,1,1,0,1,1]) := by kernel_rfl
theorem k12_44 : P12 [1,1,1,1,1,1,1,1,0,1,0] = .region 15 (O12 [1,1,1,1,1,1,1,1,0,1,0]) false := by kernel_rfl
theorem r12_15 {x17 : Int} {M : Mem} {call : CallM} {K : Array Value → Mem → R} :
    opsK Try.prog (fun _ => call) (O12 [1,1,1,1,1,1,1,1,0,1,0]) (O12 [1,1,1,1,1,1,1,1,0,1,0]).toList 0 #[g0,g1,g2,g3,g4,g5,g6,g7,g8,g9,g10,g11,g12,g13,g14,g15,g16,.int .i64 x17,g18,g19,g20,g21,g22,g23,g24,g25,g26,g27,g28,g29,g30,g31,g32,g33,g34,g35,g36,g37,g38,g39,g40,g41,g42,g43,g44,g45,g46,g47,g48,g49,g50,g51,g52,g53,g54,g55,g56,g57,g58,g59,g60,g61,g62,g63,g64,g65,g66,g67,g68,g69,g70,g71,g72,g73,g74,g75,g76,g77,g78,g79,g80,g81,g82,g83,g84,g85,g86,g87,g88,g89,g90,g91] M K = K #[g0,g1,g2,g3,g4,g5,g6,g7,g8,g9,g10,g11,g12,g13,g14,g15,g16,.int .i64 x17,g18,g19,g20,g21,g22,g23,g24,g25,g26,g27,g28,g29,g30,g31,g32,g33,g34,g35,g36,g37,g38,g39,g40,g41,g42,g43,g44,g45,g46,g47,g48,g49,g50,g51,g52,g53,g54,g55,g56,g57,g58,g59,g60,g61,g62,g63,g64,g65,g66,g67,g68,g69,g70,g71,g72,g73,g74,g75,.int .i64 x17,.bool (x17 != 0),g78,g79,g80,g81,g82,g83,g84,g85,g86,g87,g88,g89,g90,g91] M := by kernel_rfl
theorem c12_45 : P12 [1,1,1,1,1,1,1,1,0,1,1] = .cond (.tmp 77) (P12 [1,1,1,1,1,1,1,1,0,1,1,0]) (P12 [1,1,1,1,1,1,1,1,0,1,1,1]) := by kernel_rfl
theorem k12_46 : P12 [1,1,1,1,1,1,1,1,0,1,1,0] = .seq (P12 [1,1,1,1,1,1,1,1,0,1,1,0,0]) (P12 [1,1,1,1,1,1,1,1,0,1,1,0,1]) := by kernel_rfl
theorem k12_47 : P12 [1,1,1,1,1,1,1,1,0,1,1,0,0] = .region 16 (O12 [1,1,1,1,1,1,1,1,0,1,1,0,0]) false := by kernel_rfl
theorem r12_16 {x17 : Int} {M : Mem} {call : CallM} {K : Array Value → Mem → R} :
    opsK Try.prog (fun _ => call) (O12 [1,1,1,1,1,1,1,1,0,1,1,0,0]) (O12 [1,1,1,1,1,1,1,1,0,1,1,0,0]).toList 0 #[g0,g1,g2,g3,g4,g5,g6,g7,g8,g9,g10,g11,g12,g13,g14,g15,g16,.int .i64 x17,g18,g19,g20,g21,g22,g23,g24,g25,g26,g27,g28,g29,g30,g31,g32,g33,g34,g35,g36,g37,g38,g39,g40,g41,g42,g43,g44,g45,g46,g47,g48,g49,g50,g51,g52,g53,g54,g55,g56,g57,g58,g59,g60,g61,g62,g63,g64,g65,g66,g67,g68,g69,g70,g71,g72,g73,g74,g75,g76,g77,g78,g79,g80,g81,g82,g83,g84,g85,g86,g87,g88,g89,g90,g91] M K = K #[g0,g1,g2,g3,g4,g5,.slice none 0 0,.int .i64 x17,g8,g9,g10,g11,g12,g13,g14,g15,g16,.int .i64 x17,g18,g19,g20,g21,g22,g23,g24,g25,g26,g27,g28,g29,g30,g31,g32,g33,g34,g35,g36,g37,g38,g39,g40,g41,g42,g43,g44,g45,g46,g47,g48,g49,g50,g51,g52,g53,g54,g55,g56,g57,g58,g59,g60,g61,g62,g63,g64,g65,g66,g67,g68,g69,g70,g71,g72,g73,g74,g75,g76,g77,.int .i64 x17,g79,g80,g81,g82,g83,g84,g85,g86,g87,g88,g89,g90,g91] M := by kernel_rfl
theorem k12_48 : P12 [1,1,1,1,1,1,1,1,0,1,1,0,1] = .ret := by kernel_rfl
theorem k12_49 : P12 [1,1,1,1,1,1,1,1,0,1,1,1] = .skip := by kernel_rfl
theorem k12_50 : P12 [1,1,1,1,1,1,1,1,1] = .seq (P12 [1,1,1,1,1,1,1,1,1,0]) (P12 [1,1,1,1,1,1,1,1,1,1]) := by kernel_rfl
theorem k12_51 : P12 [1,1,1,1,1,1,1,1,1,0] = .seq (P12 [1,1,1,1,1,1,1,1,1,0,0]) (P12 [1,1,1,1,1,1,1,1,1,0,1]) := by kernel_rfl
theorem k12_52 : P12 [1,1,1,1,1,1,1,1,1,0,0] = .region 17 (O12 [1,1,1,1,1,1,1,1,1,0,0]) true ∧ drawOk (O12 [1,1,1,1,1,1,1,1,1,0,0]) = true := ⟨by kernel_rfl, by kernel_rfl⟩
theorem r12_17 {x0 : Int} {x4 x10 : Option Addr} {x14 : Int} {M : Mem} {call : CallM} {K : Array Value → Mem → R} :
    opsI Try.prog (callAt call (O12 [1,1,1,1,1,1,1,1,1,0,0])) (O12 [1,1,1,1,1,1,1,1,1,0,0]) (ordOf (O12 [1,1,1,1,1,1,1,1,1,0,0])) [] #[.int .i64 x0,g1,g2,g3,.pointer x4,g5,g6,g7,g8,g9,.pointer x10,g11,g12,g13,.int .i64 x14,g15,g16,g17,g18,g19,g20,g21,g22,g23,g24,g25,g26,g27,g28,g29,g30,g31,g32,g33,g34,g35,g36,g37,g38,g39,g40,g41,g42,g43,g44,g45,g46,g47,g48,g49,g50,g51,g52,g53,g54,g55,g56,g57,g58,g59,g60,g61,g62,g63,g64,g65,g66,g67,g68,g69,g70,g71,g72,g73,g74,g75,g76,g77,g78,g79,g80,g81,g82,g83,g84,g85,g86,g87,g88,g89,g90,g91] M K = (x10).bind fun a_1 => (M.intAt .i64 a_1.block a_1.off).bind fun x_2 => (M.slAt a_1.block (a_1.off + 1)).bind fun s_3 => (x10).bind fun a_4 => (M.intAt .i64 a_4.block a_4.off).bind fun x_5 => (M.slAt a_4.block (a_4.off + 1)).bind fun s_6 => (x4).bind fun a_7 => (M.intAt .i64 a_7.block a_7.off).bind fun x_8 => (floored call 30 #[.int .i64 4, .int .i64 x_8] M).bind fun r_9 => (call 31 #[.agg #[.int .i64 x_2, .slice s_3.1 (s_3.2.1) (s_3.2.2)], .func (.func 36) #[.agg #[.int .i64 x_5, .slice s_6.1 (s_6.2.1) (s_6.2.2)]] #[], .int .i64 x0, .int .i64 x14, .func (.func 33) #[] #[], r_9.1] r_9.2).bind fun r_10 => (asI .i64 r_10.1).bind fun x_11 => K #[.int .i64 x0,g1,g2,g3,.pointer x4,g5,g6,g7,g8,g9,.pointer x10,g11,g12,g13,.int .i64 x14,g15,g16,g17,.int .i64 x_11,g19,g20,g21,g22,g23,g24,g25,g26,g27,g28,g29,g30,g31,g32,g33,g34,g35,g36,g37,g38,g39,g40,g41,g42,g43,g44,g45,g46,g47,g48,g49,g50,g51,g52,g53,g54,g55,g56,g57,g58,g59,g60,g61,g62,g63,g64,g65,g66,g67,g68,g69,g70,g71,g72,g73,g74,g75,g76,g77,g78,.agg #[.int .i64 x_2, .slice s_3.1 (s_3.2.1) (s_3.2.2)],.agg #[.int .i64 x_5, .slice s_6.1 (s_6.2.1) (s_6.2.2)],.func (.func 36) #[.agg #[.int .i64 x_5, .slice s_6.1 (s_6.2.1) (s_6.2.2)]] #[],.int .i64 x0,.int .i64 x14,.int .i64 x_8,r_9.1,.int .i64 x_11,g87,g88,g89,g90,g91] r_10.2 := by kernel_rfl
theorem k12_53 : P12 [1,1,1,1,1,1,1,1,1,0,1] = .seq (P12 [1,1,1,1,1,1,1,1,1,0,1,0]) (P12 [1,1,1,1,1,1,1,1,1,0,1,1]) := by kernel_rfl
theorem k12_54 : P12 [1,1,1,1,1,1,1,1,1,0,1,0] = .region 18 (O12 [1,1,1,1,1,1,1,1,1,0,1,0]) false := by kernel_rfl
theorem r12_18 {x18 : Int} {M : Mem} {call : CallM} {K : Array Value → Mem → R} :
    opsK Try.prog (fun _ => call) (O12 [1,1,1,1,1,1,1,1,1,0,1,0]) (O12 [1,1,1,1,1,1,1,1,1,0,1,0]).toList 0 #[g0,g1,g2,g3,g4,g5,g6,g7,g8,g9,g10,g11,g12,g13,g14,g15,g16,g17,.int .i64 x18,g19,g20,g21,g22,g23,g24,g25,g26,g27,g28,g29,g30,g31,g32,g33,g34,g35,g36,g37,g38,g39,g40,g41,g42,g43,g44,g45,g46,g47,g48,g49,g50,g51,g52,g53,g54,g55,g56,g57,g58,g59,g60,g61,g62,g63,g64,g65,g66,g67,g68,g69,g70,g71,g72,g73,g74,g75,g76,g77,g78,g79,g80,g81,g82,g83,g84,g85,g86,g87,g88,g89,g90,g91] M K = K #[g0,g1,g2,g3,g4,g5,g6,g7,g8,g9,g10,g11,g12,g13,g14,g15,g16,g17,.int .i64 x18,g19,g20,g21,g22,g23,g24,g25,g26,g27,g28,g29,g30,g31,g32,g33,g34,g35,g36,g37,g38,g39,g40,g41,g42,g43,g44,g45,g46,g47,g48,g49,g50,g51,g52,g53,g54,g55,g56,g57,g58,g59,g60,g61,g62,g63,g64,g65,g66,g67,g68,g69,g70,g71,g72,g73,g74,g75,g76,g77,g78,g79,g80,g81,g82,g83,g84,g85,g86,.int .i64 x18,.bool (x18 != 0),g89,g90,g91] M := by kernel_rfl
theorem c12_55 : P12 [1,1,1,1,1,1,1,1,1,0,1,1] = .cond (.tmp 88) (P12 [1,1,1,1,1,1,1,1,1,0,1,1,0]) (P12 [1,1,1,1,1,1,1,1,1,0,1,1,1]) := by kernel_rfl
theorem k12_56 : P12 [1,1,1,1,1,1,1,1,1,0,1,1,0] = .seq (P12 [1,1,1,1,1,1,1,1,1,0,1,1,0,0]) (P12 [1,1,1,1,1,1,1,1,1,0,1,1,0,1]) := by kernel_rfl
theorem k12_57 : P12 [1,1,1,1,1,1,1,1,1,0,1,1,0,0] = .region 19 (O12 [1,1,1,1,1,1,1,1,1,0,1,1,0,0]) false := by kernel_rfl
theorem r12_19 {x18 : Int} {M : Mem} {call : CallM} {K : Array Value → Mem → R} :
    opsK Try.prog (fun _ => call) (O12 [1,1,1,1,1,1,1,1,1,0,1,1,0,0]) (O12 [1,1,1,1,1,1,1,1,1,0,1,1,0,0]).toList 0 #[g0,g1,g2,g3,g4,g5,g6,g7,g8,g9,g10,g11,g12,g13,g14,g15,g16,g17,.int .i64 x18,g19,g20,g21,g22,g23,g24,g25,g26,g27,g28,g29,g30,g31,g32,g33,g34,g35,g36,g37,g38,g39,g40,g41,g42,g43,g44,g45,g46,g47,g48,g49,g50,g51,g52,g53,g54,g55,g56,g57,g58,g59,g60,g61,g62,g63,g64,g65,g66,g67,g68,g69,g70,g71,g72,g73,g74,g75,g76,g77,g78,g79,g80,g81,g82,g83,g84,g85,g86,g87,g88,g89,g90,g91] M K = K #[g0,g1,g2,g3,g4,g5,.slice none 0 0,.int .i64 x18,g8,g9,g10,g11,g12,g13,g14,g15,g16,g17,.int .i64 x18,g19,g20,g21,g22,g23,g24,g25,g26,g27,g28,g29,g30,g31,g32,g33,g34,g35,g36,g37,g38,g39,g40,g41,g42,g43,g44,g45,g46,g47,g48,g49,g50,g51,g52,g53,g54,g55,g56,g57,g58,g59,g60,g61,g62,g63,g64,g65,g66,g67,g68,g69,g70,g71,g72,g73,g74,g75,g76,g77,g78,g79,g80,g81,g82,g83,g84,g85,g86,g87,g88,.int .i64 x18,g90,g91] M := by kernel_rfl
theorem k12_58 : P12 [1,1,1,1,1,1,1,1,1,0,1,1,0,1] = .ret := by kernel_rfl
theorem k12_59 : P12 [1,1,1,1,1,1,1,1,1,0,1,1,1] = .skip := by kernel_rfl
theorem k12_60 : P12 [1,1,1,1,1,1,1,1,1,1] = .seq (P12 [1,1,1,1,1,1,1,1,1,1,0]) (P12 [1,1,1,1,1,1,1,1,1,1,1]) := by kernel_rfl
theorem k12_61 : P12 [1,1,1,1,1,1,1,1,1,1,0] = .region 20 (O12 [1,1,1,1,1,1,1,1,1,1,0]) false := by kernel_rfl
theorem r12_20 {x10 : Option Addr} {M : Mem} {call : CallM} {K : Array Value → Mem → R} :
    opsK Try.prog (fun _ => call) (O12 [1,1,1,1,1,1,1,1,1,1,0]) (O12 [1,1,1,1,1,1,1,1,1,1,0]).toList 0 #[g0,g1,g2,g3,g4,g5,g6,g7,g8,g9,.pointer x10,g11,g12,g13,g14,g15,g16,g17,g18,g19,g20,g21,g22,g23,g24,g25,g26,g27,g28,g29,g30,g31,g32,g33,g34,g35,g36,g37,g38,g39,g40,g41,g42,g43,g44,g45,g46,g47,g48,g49,g50,g51,g52,g53,g54,g55,g56,g57,g58,g59,g60,g61,g62,g63,g64,g65,g66,g67,g68,g69,g70,g71,g72,g73,g74,g75,g76,g77,g78,g79,g80,g81,g82,g83,g84,g85,g86,g87,g88,g89,g90,g91] M K = (x10).bind fun a_1 => (M.slAt a_1.block (a_1.off + 1)).bind fun s_2 => K #[g0,g1,g2,g3,g4,g5,.slice s_2.1 (s_2.2.1) (s_2.2.2),.int .i64 0,g8,g9,.pointer x10,g11,g12,g13,g14,g15,g16,g17,g18,g19,g20,g21,g22,g23,g24,g25,g26,g27,g28,g29,g30,g31,g32,g33,g34,g35,g36,g37,g38,g39,g40,g41,g42,g43,g44,g45,g46,g47,g48,g49,g50,g51,g52,g53,g54,g55,g56,g57,g58,g59,g60,g61,g62,g63,g64,g65,g66,g67,g68,g69,g70,g71,g72,g73,g74,g75,g76,g77,g78,g79,g80,g81,g82,g83,g84,g85,g86,g87,g88,g89,.pointer (some ⟨a_1.block, a_1.off + 1, none⟩),.slice s_2.1 (s_2.2.1) (s_2.2.2)] M := by kernel_rfl
theorem k12_62 : P12 [1,1,1,1,1,1,1,1,1,1,1] = .ret := by kernel_rfl
noncomputable def S12_1 : List Item := [.code (P12 [1,1,1,1,0,1,0,0]), .inLoop (P12 [1,1,1,1,0,1,0,0]), .inBlock 0, .code (P12 [1,1,1,1,1])]
def A12_1 (x0 : Int) (x4 : Option Addr) (x8 : Int) (x10 Ax35 : Option Addr) (lx35 cx35 : Nat) (x36 x37 : Int) (M : Mem) (Q : Value → Mem → Prop) : Prop := ∀ (g1 g2 g3 g5 g6 g7 g9 g11 g12 g13 g14 g15 g16 g17 g18 g19 g20 g21 g22 g23 g24 g25 g26 g27 g28 g29 g30 g31 g32 g33 g34 g38 g39 g40 g41 g42 g43 g44 g45 g46 g47 g48 g49 g50 g51 g52 g53 g54 g55 g56 g57 g58 g59 g60 g61 g62 g63 g64 g65 g66 g67 g68 g69 g70 g71 g72 g73 g74 g75 g76 g77 g78 g79 g80 g81 g82 g83 g84 g85 g86 g87 g88 g89 g90 g91 : Value), Rn Try.prog Try.f12 S12_1 #[.int .i64 x0, g1, g2, g3, .pointer x4, g5, g6, g7, .int .i64 x8, g9, .pointer x10, g11, g12, g13, g14, g15, g16, g17, g18, g19, g20, g21, g22, g23, g24, g25, g26, g27, g28, g29, g30, g31, g32, g33, g34, .slice Ax35 lx35 cx35, .int .i64 x36, .int .i64 x37, g38, g39, g40, g41, g42, g43, g44, g45, g46, g47, g48, g49, g50, g51, g52, g53, g54, g55, g56, g57, g58, g59, g60, g61, g62, g63, g64, g65, g66, g67, g68, g69, g70, g71, g72, g73, g74, g75, g76, g77, g78, g79, g80, g81, g82, g83, g84, g85, g86, g87, g88, g89, g90, g91] M Q
theorem w12_0 {x0 x1 : Int} {Ax2 : Option Addr} {lx2 cx2 : Nat} {M : Mem} {Q : Value → Mem → Prop} (H :
    ∃ x1', (M.new (.cells #[.int .i64 x1] 3)).intAt .i64 (2 * M.nb.size) 0 = some x1' ∧
    Cn Try.prog 27 #[.int .i64 x0, .int .i64 x1', .slice Ax2 lx2 cx2, .int .i64 (if 32 < x0 then 32 else x0), .int .i64 1048576] (M.new (.cells #[.int .i64 x1] 3)) fun v2' N2' =>
     ∃ x3', asI .i64 v2' = some x3' ∧
     ((x3' ≠ 0 →
      Q (.tuple #[.slice none 0 0, .int .i64 (x3')]) N2') ∧
      (x3' = 0 →
      ∃ r4', makeP Try.prog 22 (.int .i64 (IntKind.i64.wrap (x0 * x0))) (.int .i64 (IntKind.i64.wrap (x0 * x0))) N2' = some r4' ∧
      ∃ s5', asS r4'.1 = some s5' ∧
      ∃ M6', (r4'.2.new (.cells #[.int .i64 0, .slice none 0 0] 43)).put (2 * r4'.2.nb.size) 0 (.int .i64 x0) = some M6' ∧
      ∃ M7', M6'.put (2 * r4'.2.nb.size) 1 (.slice s5'.1 (s5'.2.1) (s5'.2.2)) = some M7' ∧
      A12_1 x0 (some ⟨2 * M.nb.size, 0, none⟩) (if 32 < x0 then 32 else x0) (some ⟨2 * r4'.2.nb.size, 0, none⟩) Ax2 lx2 cx2 (lx2 : Int) 0 M7' Q))) :
    Cn Try.prog 12 #[.int .i64 x0, .int .i64 x1, .slice Ax2 lx2 cx2] M Q := by
  refine Cn.of b12 d12 t12 ?_
  refine Rn.seq k12_0 (Rn.region k12_1 (fun call K => r12_0) (Rch.leaf (Rn.seq k12_2 (Rn.region k12_3 (fun call K => r12_1) (Rch.leaf (Rn.seq k12_4 (Rn.seq k12_5 (Rn.region k12_6 (fun call K => r12_2) (Rch.bind (x := ⟨2 * M.nb.size, 0, none⟩) rfl (Rch.ex H fun x1' H => Rch.call H fun v2' N2' H => ?_))))))))))
  refine Rch.ex H fun x3' H => Rch.leaf (Rn.seq k12_7 (Rn.region k12_8 (fun call K => r12_3) (Rch.leaf ?_)))
  refine Rn.cnd (v := x3' != 0) ⟨c12_9, rfl, by kernel_rfl⟩ (fun h => ?_) (fun h => ?_)
  · replace H := H.1 (ne_of_bneT h)
    refine Rn.seq k12_10 (Rn.region k12_11 (fun call K => r12_4) (Rch.leaf ?_))
    exact Rn.ret k12_12 e12 H
  · replace H := H.2 (eq_of_bneF h)
    refine Rn.skip k12_14 (Rn.seq k12_15 (Rn.region k12_16 (fun call K => r12_5) (Rch.ex H fun r4' H => Rch.ex H fun s5' H => Rch.ex H fun M6' H => Rch.ex H fun M7' H => Rch.leaf (Rn.seq k12_17 (Rn.seq k12_18 (Rn.region k12_19 (fun call K => r12_6) (Rch.leaf ?_)))))))
    refine Rn.block k12_20 (Rn.loop k12_21 ?_)
    exact H _ _ _ _ _ _ _ _ _ _ _ _ _ _ _ _ _ _ _ _ _ _ _ _ _ _ _ _ _ _ _ _ _ _ _ _ _ _ _ _ _ _ _ _ _ _ _ _ _ _ _ _ _ _ _ _ _ _ _ _ _ _ _ _ _ _ _ _ _ _ _ _ _ _ _ _ _ _ _ _ _ _ _ _ _

theorem w12_1 {x0 : Int} {x4 : Option Addr} {x8 : Int} {x10 Ax35 : Option Addr} {lx35 cx35 : Nat} {x36 x37 : Int} {M : Mem} {Q : Value → Mem → Prop} (H :
    ((x37 < x36 →
     ∃ a8', idxA Ax35 lx35 1 x37 = some a8' ∧
     ∃ x9', M.intAt .i64 a8'.block a8'.off = some x9' ∧
     ∃ a10', x10 = some a10' ∧
     ∃ s11', M.slAt a10'.block (a10'.off + 1) = some s11' ∧
     ∃ v12', binV Try.prog .quo 3 3 (.int .i64 x37) (.int .i64 x8) = some v12' ∧
     ∃ x13', asI .i64 v12' = some x13' ∧
     ∃ v14', binV Try.prog .rem 3 3 (.int .i64 x37) (.int .i64 x8) = some v14' ∧
     ∃ x15', asI .i64 v14' = some x15' ∧
     Cn Try.prog 28 #[.int .i64 x9'] { M with floor := M.nb.size } fun v16' N16' =>
      ∃ x17', asI .i64 v16' = some x17' ∧
      ∃ a18', idxA s11'.1 (s11'.2.1) 1 (IntKind.i64.wrap ((IntKind.i64.wrap (x13' * x0)) + x15')) = some a18' ∧
      ∃ M19', { N16' with floor := M.floor }.put a18'.block a18'.off (.int .i64 x17') = some M19' ∧
      A12_1 x0 x4 x8 x10 Ax35 lx35 cx35 x36 (IntKind.i64.wrap (x37 + 1)) M19' Q) ∧
     (¬ (x37 < x36) →
     ∃ a20', x4 = some a20' ∧
     ∃ x21', M.intAt .i64 a20'.block a20'.off = some x21' ∧
     Cn Try.prog 29 #[.int .i64 x21'] M fun v22' N22' =>
      ∃ cs23', asU 2 v22' = some cs23' ∧
      ∃ x24', asI .i64 (cs23'.getD 0 undef) = some x24' ∧
      ∃ x25', asI .i64 (cs23'.getD 1 undef) = some x25' ∧
      ∃ r26', mapPutV Try.prog 46 (.map (some (2 * N22'.nb.size))) (.int .i64 4) (.int .i64 0) (N22'.new (.map #[] 0)) = some r26' ∧
      ∃ r27', mapPutV Try.prog 46 (.map (some (2 * N22'.nb.size))) (.int .i64 8) (.int .i64 1) r26'.2 = some r27' ∧
      ∃ r28', mapPutV Try.prog 46 (.map (some (2 * N22'.nb.size))) (.int .i64 16) (.int .i64 2) r27'.2 = some r28' ∧
      ∃ r29', mapPutV Try.prog 46 (.map (some (2 * N22'.nb.size))) (.int .i64 32) (.int .i64 2) r28'.2 = some r29' ∧
      ∃ r30', mapPutV Try.prog 46 (.map (some (2 * N22'.nb.size))) (.int .i64 64) (.int .i64 2) r29'.2 = some r30' ∧
      ∃ r31', lookupV Try.prog 46 (.map (some (2 * N22'.nb.size))) (.int .i64 x0) false r30'.2 = some r31' ∧
      ∃ x32', asI .i64 r31'.1 = some x32' ∧
      ∃ a33', x4 = some a33' ∧
      ∃ x34', r31'.2.intAt .i64 a33'.block a33'.off = some x34' ∧
      Cn Try.prog 30 #[.int .i64 x32', .int .i64 x34'] r31'.2 fun v35' N35' =>
       ∃ M36', (N35'.new (.cells #[.nilFunc] 36)).put (2 * N35'.nb.size) 0 (v35') = some M36' ∧
       ∃ a37', x10 = some a37' ∧
       ∃ x38', M36'.intAt .i64 a37'.block a37'.off = some x38' ∧
       ∃ s39', M36'.slAt a37'.block (a37'.off + 1) = some s39' ∧
       ∃ a40', x10 = some a40' ∧
       ∃ x41', M36'.intAt .i64 a40'.block a40'.off = some x41' ∧
       ∃ s42', M36'.slAt a40'.block (a40'.off + 1) = some s42' ∧
       Cn Try.prog 31 #[.agg #[.int .i64 x38', .slice s39'.1 (s39'.2.1) (s39'.2.2)], .func (.func 32) #[.agg #[.int .i64 x41', .slice s42'.1 (s42'.2.1) (s42'.2.2)]] #[], .int .i64 x8, .int .i64 x24', .func (.func 33) #[] #[], .func (.func 34) #[] #[.pointer (some ⟨2 * N35'.nb.size, 0, none⟩), .pointer x4]] M36' fun v43' N43' =>
        ∃ x44', asI .i64 v43' = some x44' ∧
        ((x44' ≠ 0 →
         Q (.tuple #[.slice none 0 0, .int .i64 (x44')]) N43') ∧
         (x44' = 0 →
         ∃ a45', x10 = some a45' ∧
         ∃ x46', N43'.intAt .i64 a45'.block a45'.off = some x46' ∧
         ∃ s47', N43'.slAt a45'.block (a45'.off + 1) = some s47' ∧
         ∃ a48', x10 = some a48' ∧
         ∃ x49', N43'.intAt .i64 a48'.block a48'.off = some x49' ∧
         ∃ s50', N43'.slAt a48'.block (a48'.off + 1) = some s50' ∧
         ∃ a51', x4 = some a51' ∧
         ∃ x52', N43'.intAt .i64 a51'.block a51'.off = some x52' ∧
         Cn Try.prog 30 #[.int .i64 4, .int .i64 x52'] { N43' with floor := N43'.nb.size } fun v53' N53' =>
          Cn Try.prog 31 #[.agg #[.int .i64 x46', .slice s47'.1 (s47'.2.1) (s47'.2.2)], .func (.func 36) #[.agg #[.int .i64 x49', .slice s50'.1 (s50'.2.1) (s50'.2.2)]] #[], .int .i64 x0, .int .i64 x25', .func (.func 33) #[] #[], v53'] { N53' with floor := N43'.floor } fun v54' N54' =>
           ∃ x55', asI .i64 v54' = some x55' ∧
           ((x55' ≠ 0 →
            Q (.tuple #[.slice none 0 0, .int .i64 (x55')]) N54') ∧
            (x55' = 0 →
            ∃ a56', x10 = some a56' ∧
            ∃ s57', N54'.slAt a56'.block (a56'.off + 1) = some s57' ∧
            Q (.tuple #[.slice s57'.1 (s57'.2.1) (s57'.2.2), .int .i64 0]) N54'))))))) :
    A12_1 x0 x4 x8 x10 Ax35 lx35 cx35 x36 x37 M Q := by
  intro g1 g2 g3 g5 g6 g7 g9 g11 g12 g13 g14 g15 g16 g17 g18 g19 g20 g21 g22 g23 g24 g25 g26 g27 g28 g29 g30 g31 g32 g33 g34 g38 g39 g40 g41 g42 g43 g44 g45 g46 g47 g48 g49 g50 g51 g52 g53 g54 g55 g56 g57 g58 g59 g60 g61 g62 g63 g64 g65 g66 g67 g68 g69 g70 g71 g72 g73 g74 g75 g76 g77 g78 g79 g80 g81 g82 g83 g84 g85 g86 g87 g88 g89 g90 g91
  refine Rn.seq k12_22 (Rn.region k12_23 (fun call K => r12_7) (Rch.leaf (Rn.seq k12_24 ?_)))
  refine Rn.cnd (v := decide (x37 < x36)) ⟨c12_25, rfl, by kernel_rfl⟩ (fun h => ?_) (fun h => ?_)
  · replace H := H.1 (of_decide_eq_true h)
    refine Rn.skip k12_26 (Rn.seq k12_27 (Rn.block k12_28 (Rn.seq k12_29 (Rn.region k12_30 (fun call K => r12_8) (Rch.ex H fun a8' H => Rch.ex H fun x9' H => Rch.leaf (Rn.regionD k12_31 (fun call K => r12_9) (Rch.ex H fun a10' H => Rch.ex H fun s11' H => Rch.ex H fun v12' H => ?_)))))))
    refine Rch.ex H fun x13' H => Rch.ex H fun v14' H => Rch.ex H fun x15' H => Rch.callF H fun v16' N16' H => Rch.ex H fun x17' H => Rch.ex H fun a18' H => Rch.ex H fun M19' H => Rch.leaf (Rn.blk (Rn.region k12_32 (fun call K => r12_10) (Rch.leaf (Rn.lp ?_))))
    exact H _ _ _ _ _ _ _ _ _ _ _ _ _ _ _ _ _ _ _ _ _ _ _ _ _ _ _ _ _ _ _ _ _ _ _ _ _ _ _ _ _ _ _ _ _ _ _ _ _ _ _ _ _ _ _ _ _ _ _ _ _ _ _ _ _ _ _ _ _ _ _ _ _ _ _ _ _ _ _ _ _ _ _ _ _
  · replace H := H.2 (of_decide_eq_false h)
    refine Rn.exit k12_33 rfl (Rn.seq k12_34 (Rn.region k12_35 (fun call K => r12_11) (Rch.ex H fun a20' H => Rch.ex H fun x21' H => Rch.call H fun v22' N22' H => Rch.ex H fun cs23' H => Rch.ex H fun x24' H => Rch.ex H fun x25' H => Rch.leaf (Rn.seq k12_36 (Rn.region k12_37 (fun call K => r12_12) ?_)))))
    refine Rch.ex H fun r26' H => Rch.ex H fun r27' H => Rch.ex H fun r28' H => Rch.ex H fun r29' H => Rch.ex H fun r30' H => Rch.ex H fun r31' H => Rch.ex H fun x32' H => Rch.leaf (Rn.seq k12_38 (Rn.region k12_39 (fun call K => r12_13) (Rch.ex H fun a33' H => Rch.ex H fun x34' H => ?_)))
    refine Rch.call H fun v35' N35' H => Rch.ex H fun M36' H => Rch.leaf (Rn.seq k12_40 (Rn.seq k12_41 (Rn.region k12_42 (fun call K => r12_14) (Rch.ex H fun a37' H => Rch.ex H fun x38' H => Rch.ex H fun s39' H => Rch.ex H fun a40' H => Rch.ex H fun x41' H => Rch.ex H fun s42' H => ?_))))
    refine Rch.call H fun v43' N43' H => Rch.ex H fun x44' H => Rch.leaf (Rn.seq k12_43 (Rn.region k12_44 (fun call K => r12_15) (Rch.leaf ?_)))
    refine Rn.cnd (v := x44' != 0) ⟨c12_45, rfl, by kernel_rfl⟩ (fun h => ?_) (fun h => ?_)
    · replace H := H.1 (ne_of_bneT h)
      refine Rn.seq k12_46 (Rn.region k12_47 (fun call K => r12_16) (Rch.leaf ?_))
      exact Rn.ret k12_48 e12 H
    · replace H := H.2 (eq_of_bneF h)
      refine Rn.skip k12_49 (Rn.seq k12_50 (Rn.seq k12_51 (Rn.regionD k12_52 (fun call K => r12_17) (Rch.ex H fun a45' H => Rch.ex H fun x46' H => Rch.ex H fun s47' H => Rch.ex H fun a48' H => Rch.ex H fun x49' H => Rch.ex H fun s50' H => Rch.ex H fun a51' H => Rch.ex H fun x52' H => ?_))))
      refine Rch.callF H fun v53' N53' H => Rch.call H fun v54' N54' H => Rch.ex H fun x55' H => Rch.leaf (Rn.seq k12_53 (Rn.region k12_54 (fun call K => r12_18) (Rch.leaf ?_)))
      refine Rn.cnd (v := x55' != 0) ⟨c12_55, rfl, by kernel_rfl⟩ (fun h => ?_) (fun h => ?_)
      · replace H := H.1 (ne_of_bneT h)
        refine Rn.seq k12_56 (Rn.region k12_57 (fun call K => r12_19) (Rch.leaf ?_))
        exact Rn.ret k12_58 e12 H
      · replace H := H.2 (eq_of_bneF h)
        refine Rn.skip k12_59 (Rn.seq k12_60 (Rn.region k12_61 (fun call K => r12_20) (Rch.ex H fun a56' H => Rch.ex H fun s57' H => Rch.leaf ?_)))
        exact Rn.ret k12_62 e12 H


/-! ### zoetrope/txfm.Forward: function 16 -/
noncomputable abbrev P16 (p : List Nat) : Code := subC (codeOf Try.f16) p
noncomputable abbrev O16 (p : List Nat) : Array Oper := opsOf (subC (codeOf Try.f16) p)
theorem b16 : Try.prog.funcs[16]? = some Try.f16 ∧ (Orc.tab Try.prog).lookup 16 = none := ⟨by kernel_rfl, by kernel_rfl⟩
theorem d16 : Try.f16.body = some (P16 []) := by kernel_rfl
theorem t16 {x0 x1 : Int} {Ax2 : Option Addr} {lx2 cx2 : Nat} : #[.int .i64 x0,.int .i64 x1,.slice Ax2 lx2 cx2] ++ Array.replicate (Try.f16.ntmps - (#[.int .i64 x0,.int .i64 x1,.slice Ax2 lx2 cx2] : Array Value).size) undef = #[.int .i64 x0,.int .i64 x1,.slice Ax2 lx2 cx2,undef,undef,undef,undef,undef,undef,undef,undef,undef,undef,undef,undef,undef,undef,undef,undef,undef,undef,undef,undef,undef,undef,undef,undef,undef,undef,undef,undef,undef,undef,undef,undef,undef,undef,undef,undef,undef,undef,undef,undef,undef,undef,undef,undef,undef,undef,undef,undef,undef,undef,undef,undef,undef,undef,undef,undef,undef,undef,undef,undef,undef,undef,undef,undef,undef,undef,undef,undef,undef,undef,undef,undef,undef,undef,undef] := by kernel_rfl
theorem k16_0 : P16 [] = .seq (P16 [0]) (P16 [1]) := by kernel_rfl
theorem k16_1 : P16 [0] = .region 0 (O16 [0]) false := by kernel_rfl
theorem r16_0 {M : Mem} {call : CallM} {K : Array Value → Mem → R} :
    opsK Try.prog (fun _ => call) (O16 [0]) (O16 [0]).toList 0 #[g0,g1,g2,g3,g4,g5,g6,g7,g8,g9,g10,g11,g12,g13,g14,g15,g16,g17,g18,g19,g20,g21,g22,g23,g24,g25,g26,g27,g28,g29,g30,g31,g32,g33,g34,g35,g36,g37,g38,g39,g40,g41,g42,g43,g44,g45,g46,g47,g48,g49,g50,g51,g52,g53,g54,g55,g56,g57,g58,g59,g60,g61,g62,g63,g64,g65,g66,g67,g68,g69,g70,g71,g72,g73,g74,g75,g76,g77] M K = K #[g0,g1,g2,g3,g4,g5,.slice none 0 0,.int .i64 0,g8,g9,g10,g11,g12,g13,g14,g15,g16,g17,g18,g19,g20,g21,g22,g23,g24,g25,g26,g27,g28,g29,g30,g31,g32,g33,g34,g35,g36,g37,g38,g39,g40,g41,g42,g43,g44,g45,g46,g47,g48,g49,g50,g51,g52,g53,g54,g55,g56,g57,g58,g59,g60,g61,g62,g63,g64,g65,g66,g67,g68,g69,g70,g71,g72,g73,g74,g75,g76,g77] M := by kernel_rfl
theorem k16_2 : P16 [1] = .seq (P16 [1,0]) (P16 [1,1]) := by kernel_rfl
theorem k16_3 : P16 [1,0] = .seq (P16 [1,0,0]) (P16 [1,0,1]) := by kernel_rfl
theorem k16_4 : P16 [1,0,0] = .region 1 (O16 [1,0,0]) false := by kernel_rfl
theorem r16_1 {x0 x1 : Int} {Ax2 : Option Addr} {lx2 cx2 : Nat} {M : Mem} {call : CallM} {K : Array Value → Mem → R} :
    opsK Try.prog (fun _ => call) (O16 [1,0,0]) (O16 [1,0,0]).toList 0 #[.int .i64 x0,.int .i64 x1,.slice Ax2 lx2 cx2,g3,g4,g5,g6,g7,g8,g9,g10,g11,g12,g13,g14,g15,g16,g17,g18,g19,g20,g21,g22,g23,g24,g25,g26,g27,g28,g29,g30,g31,g32,g33,g34,g35,g36,g37,g38,g39,g40,g41,g42,g43,g44,g45,g46,g47,g48,g49,g50,g51,g52,g53,g54,g55,g56,g57,g58,g59,g60,g61,g62,g63,g64,g65,g66,g67,g68,g69,g70,g71,g72,g73,g74,g75,g76,g77] M K = (call 27 #[.int .i64 x0, .int .i64 x1, .slice Ax2 lx2 cx2, .int .i64 x0, .int .i64 255] M).bind fun r_1 => (asI .i64 r_1.1).bind fun x_2 => K #[.int .i64 x0,.int .i64 x1,.slice Ax2 lx2 cx2,g3,g4,g5,g6,g7,.int .i64 x_2,g9,g10,g11,g12,g13,g14,g15,g16,.int .i64 x0,.int .i64 x1,.slice Ax2 lx2 cx2,.int .i64 x0,.int .i64 x_2,g22,g23,g24,g25,g26,g27,g28,g29,g30,g31,g32,g33,g34,g35,g36,g37,g38,g39,g40,g41,g42,g43,g44,g45,g46,g47,g48,g49,g50,g51,g52,g53,g54,g55,g56,g57,g58,g59,g60,g61,g62,g63,g64,g65,g66,g67,g68,g69,g70,g71,g72,g73,g74,g75,g76,g77] r_1.2 := by kernel_rfl
theorem k16_5 : P16 [1,0,1] = .seq (P16 [1,0,1,0]) (P16 [1,0,1,1]) := by kernel_rfl
theorem k16_6 : P16 [1,0,1,0] = .region 2 (O16 [1,0,1,0]) false := by kernel_rfl
theorem r16_2 {x8 : Int} {M : Mem} {call : CallM} {K : Array Value → Mem → R} :
    opsK Try.prog (fun _ => call) (O16 [1,0,1,0]) (O16 [1,0,1,0]).toList 0 #[g0,g1,g2,g3,g4,g5,g6,g7,.int .i64 x8,g9,g10,g11,g12,g13,g14,g15,g16,g17,g18,g19,g20,g21,g22,g23,g24,g25,g26,g27,g28,g29,g30,g31,g32,g33,g34,g35,g36,g37,g38,g39,g40,g41,g42,g43,g44,g45,g46,g47,g48,g49,g50,g51,g52,g53,g54,g55,g56,g57,g58,g59,g60,g61,g62,g63,g64,g65,g66,g67,g68,g69,g70,g71,g72,g73,g74,g75,g76,g77] M K = K #[g0,g1,g2,g3,g4,g5,g6,g7,.int .i64 x8,g9,g10,g11,g12,g13,g14,g15,g16,g17,g18,g19,g20,g21,.int .i64 x8,.bool (x8 != 0),g24,g25,g26,g27,g28,g29,g30,g31,g32,g33,g34,g35,g36,g37,g38,g39,g40,g41,g42,g43,g44,g45,g46,g47,g48,g49,g50,g51,g52,g53,g54,g55,g56,g57,g58,g59,g60,g61,g62,g63,g64,g65,g66,g67,g68,g69,g70,g71,g72,g73,g74,g75,g76,g77] M := by kernel_rfl
theorem c16_7 : P16 [1,0,1,1] = .cond (.tmp 23) (P16 [1,0,1,1,0]) (P16 [1,0,1,1,1]) := by kernel_rfl
theorem k16_8 : P16 [1,0,1,1,0] = .seq (P16 [1,0,1,1,0,0]) (P16 [1,0,1,1,0,1]) := by kernel_rfl
theorem k16_9 : P16 [1,0,1,1,0,0] = .region 3 (O16 [1,0,1,1,0,0]) false := by kernel_rfl
theorem r16_3 {x8 : Int} {M : Mem} {call : CallM} {K : Array Value → Mem → R} :
    opsK Try.prog (fun _ => call) (O16 [1,0,1,1,0,0]) (O16 [1,0,1,1,0,0]).toList 0 #[g0,g1,g2,g3,g4,g5,g6,g7,.int .i64 x8,g9,g10,g11,g12,g13,g14,g15,g16,g17,g18,g19,g20,g21,g22,g23,g24,g25,g26,g27,g28,g29,g30,g31,g32,g33,g34,g35,g36,g37,g38,g39,g40,g41,g42,g43,g44,g45,g46,g47,g48,g49,g50,g51,g52,g53,g54,g55,g56,g57,g58,g59,g60,g61,g62,g63,g64,g65,g66,g67,g68,g69,g70,g71,g72,g73,g74,g75,g76,g77] M K = K #[g0,g1,g2,g3,g4,g5,.slice none 0 0,.int .i64 x8,.int .i64 x8,g9,g10,g11,g12,g13,g14,g15,g16,g17,g18,g19,g20,g21,g22,g23,.int .i64 x8,g25,g26,g27,g28,g29,g30,g31,g32,g33,g34,g35,g36,g37,g38,g39,g40,g41,g42,g43,g44,g45,g46,g47,g48,g49,g50,g51,g52,g53,g54,g55,g56,g57,g58,g59,g60,g61,g62,g63,g64,g65,g66,g67,g68,g69,g70,g71,g72,g73,g74,g75,g76,g77] M := by kernel_rfl
theorem k16_10 : P16 [1,0,1,1,0,1] = .ret := by kernel_rfl
theorem e16 {M : Mem} : finish Try.prog Try.f16 #[g0,g1,g2,g3,g4,g5,g6,g7,g8,g9,g10,g11,g12,g13,g14,g15,g16,g17,g18,g19,g20,g21,g22,g23,g24,g25,g26,g27,g28,g29,g30,g31,g32,g33,g34,g35,g36,g37,g38,g39,g40,g41,g42,g43,g44,g45,g46,g47,g48,g49,g50,g51,g52,g53,g54,g55,g56,g57,g58,g59,g60,g61,g62,g63,g64,g65,g66,g67,g68,g69,g70,g71,g72,g73,g74,g75,g76,g77] M = some (.tuple #[g6, g7], M) := by kernel_rfl
theorem k16_12 : P16 [1,0,1,1,1] = .skip := by kernel_rfl
theorem k16_13 : P16 [1,1] = .seq (P16 [1,1,0]) (P16 [1,1,1]) := by kernel_rfl
theorem k16_14 : P16 [1,1,0] = .region 4 (O16 [1,1,0]) false := by kernel_rfl
theorem r16_4 {x0 : Int} {M : Mem} {call : CallM} {K : Array Value → Mem → R} :
    opsK Try.prog (fun _ => call) (O16 [1,1,0]) (O16 [1,1,0]).toList 0 #[.int .i64 x0,g1,g2,g3,g4,g5,g6,g7,g8,g9,g10,g11,g12,g13,g14,g15,g16,g17,g18,g19,g20,g21,g22,g23,g24,g25,g26,g27,g28,g29,g30,g31,g32,g33,g34,g35,g36,g37,g38,g39,g40,g41,g42,g43,g44,g45,g46,g47,g48,g49,g50,g51,g52,g53,g54,g55,g56,g57,g58,g59,g60,g61,g62,g63,g64,g65,g66,g67,g68,g69,g70,g71,g72,g73,g74,g75,g76,g77] M K = K #[.int .i64 x0,g1,g2,g3,g4,g5,g6,g7,g8,.int .i64 (if 32 < x0 then 32 else x0),g10,g11,g12,g13,g14,g15,g16,g17,g18,g19,g20,g21,g22,g23,g24,.int .i64 x0,.int .i64 (if 32 < x0 then 32 else x0),g27,g28,g29,g30,g31,g32,g33,g34,g35,g36,g37,g38,g39,g40,g41,g42,g43,g44,g45,g46,g47,g48,g49,g50,g51,g52,g53,g54,g55,g56,g57,g58,g59,g60,g61,g62,g63,g64,g65,g66,g67,g68,g69,g70,g71,g72,g73,g74,g75,g76,g77] M := by kernel_rfl
theorem k16_15 : P16 [1,1,1] = .seq (P16 [1,1,1,0]) (P16 [1,1,1,1]) := by kernel_rfl
theorem k16_16 : P16 [1,1,1,0] = .region 5 (O16 [1,1,1,0]) false := by kernel_rfl
theorem r16_5 {x0 : Int} {Ax2 : Option Addr} {lx2 cx2 : Nat} {M : Mem} {call : CallM} {K : Array Value → Mem → R} :
    opsK Try.prog (fun _ => call) (O16 [1,1,1,0]) (O16 [1,1,1,0]).toList 0 #[.int .i64 x0,g1,.slice Ax2 lx2 cx2,g3,g4,g5,g6,g7,g8,g9,g10,g11,g12,g13,g14,g15,g16,g17,g18,g19,g20,g21,g22,g23,g24,g25,g26,g27,g28,g29,g30,g31,g32,g33,g34,g35,g36,g37,g38,g39,g40,g41,g42,g43,g44,g45,g46,g47,g48,g49,g50,g51,g52,g53,g54,g55,g56,g57,g58,g59,g60,g61,g62,g63,g64,g65,g66,g67,g68,g69,g70,g71,g72,g73,g74,g75,g76,g77] M K = (call 44 #[.slice Ax2 lx2 cx2] M).bind fun r_1 => (asS r_1.1).bind fun s_2 => ((r_1.2.new (.cells #[.int .i64 0, .slice none 0 0] 43)).put (2 * r_1.2.nb.size) 0 (.int .i64 x0)).bind fun M_3 => (M_3.put (2 * r_1.2.nb.size) 1 (.slice s_2.1 (s_2.2.1) (s_2.2.2))).bind fun M_4 => K #[.int .i64 x0,g1,.slice Ax2 lx2 cx2,g3,g4,g5,g6,g7,g8,g9,.pointer (some ⟨2 * r_1.2.nb.size, 0, none⟩),g11,g12,g13,g14,g15,g16,g17,g18,g19,g20,g21,g22,g23,g24,g25,g26,.int .i64 x0,.slice Ax2 lx2 cx2,.slice s_2.1 (s_2.2.1) (s_2.2.2),.agg #[.int .i64 x0, .slice s_2.1 (s_2.2.1) (s_2.2.2)],g31,g32,g33,g34,g35,g36,g37,g38,g39,g40,g41,g42,g43,g44,g45,g46,g47,g48,g49,g50,g51,g52,g53,g54,g55,g56,g57,g58,g59,g60,g61,g62,g63,g64,g65,g66,g67,g68,g69,g70,g71,g72,g73,g74,g75,g76,g77] M_4 := by kernel_rfl
theorem k16_17 : P16 [1,1,1,1] = .seq (P16 [1,1,1,1,0]) (P16 [1,1,1,1,1]) := by kernel_rfl
theorem k16_18 : P16 [1,1,1,1,0] = .region 6 (O16 [1,1,1,1,0]) false := by kernel_rfl
theorem r16_6 {x1 : Int} {M : Mem} {call : CallM} {K : Array Value → Mem → R} :
    opsK Try.prog (fun _ => call) (O16 [1,1,1,1,0]) (O16 [1,1,1,1,0]).toList 0 #[g0,.int .i64 x1,g2,g3,g4,g5,g6,g7,g8,g9,g10,g11,g12,g13,g14,g15,g16,g17,g18,g19,g20,g21,g22,g23,g24,g25,g26,g27,g28,g29,g30,g31,g32,g33,g34,g35,g36,g37,g38,g39,g40,g41,g42,g43,g44,g45,g46,g47,g48,g49,g50,g51,g52,g53,g54,g55,g56,g57,g58,g59,g60,g61,g62,g63,g64,g65,g66,g67,g68,g69,g70,g71,g72,g73,g74,g75,g76,g77] M K = (call 29 #[.int .i64 x1] M).bind fun r_1 => (asU 2 r_1.1).bind fun cs_2 => (asI .i64 (cs_2.getD 0 undef)).bind fun x_3 => (asI .i64 (cs_2.getD 1 undef)).bind fun x_4 => K #[g0,.int .i64 x1,g2,g3,g4,g5,g6,g7,g8,g9,g10,.int .i64 x_3,.int .i64 x_4,g13,g14,g15,g16,g17,g18,g19,g20,g21,g22,g23,g24,g25,g26,g27,g28,g29,g30,.tuple #[.int .i64 x_3, .int .i64 x_4],.int .i64 x1,.tuple #[.int .i64 x_3, .int .i64 x_4],.int .i64 x_3,.int .i64 x_4,g36,g37,g38,g39,g40,g41,g42,g43,g44,g45,g46,g47,g48,g49,g50,g51,g52,g53,g54,g55,g56,g57,g58,g59,g60,g61,g62,g63,g64,g65,g66,g67,g68,g69,g70,g71,g72,g73,g74,g75,g76,g77] r_1.2 := by kernel_rfl
theorem k16_19 : P16 [1,1,1,1,1] = .seq (P16 [1,1,1,1,1,0]) (P16 [1,1,1,1,1,1]) := by kernel_rfl
theorem k16_20 : P16 [1,1,1,1,1,0] = .seq (P16 [1,1,1,1,1,0,0]) (P16 [1,1,1,1,1,0,1]) := by kernel_rfl
theorem k16_21 : P16 [1,1,1,1,1,0,0] = .region 7 (O16 [1,1,1,1,1,0,0]) true ∧ drawOk (O16 [1,1,1,1,1,0,0]) = true := ⟨by kernel_rfl, by kernel_rfl⟩
theorem r16_7 {x0 x1 : Int} {x10 : Option Addr} {x12 : Int} {M : Mem} {call : CallM} {K : Array Value → Mem → R} :
    opsI Try.prog (callAt call (O16 [1,1,1,1,1,0,0])) (O16 [1,1,1,1,1,0,0]) (ordOf (O16 [1,1,1,1,1,0,0])) [] #[.int .i64 x0,.int .i64 x1,g2,g3,g4,g5,g6,g7,g8,g9,.pointer x10,g11,.int .i64 x12,g13,g14,g15,g16,g17,g18,g19,g20,g21,g22,g23,g24,g25,g26,g27,g28,g29,g30,g31,g32,g33,g34,g35,g36,g37,g38,g39,g40,g41,g42,g43,g44,g45,g46,g47,g48,g49,g50,g51,g52,g53,g54,g55,g56,g57,g58,g59,g60,g61,g62,g63,g64,g65,g66,g67,g68,g69,g70,g71,g72,g73,g74,g75,g76,g77] M K = (x10).bind fun a_1 => (M.intAt .i64 a_1.block a_1.off).bind fun x_2 => (M.slAt a_1.block (a_1.off + 1)).bind fun s_3 => (x10).bind fun a_4 => (M.intAt .i64 a_4.block a_4.off).bind fun x_5 => (M.slAt a_4.block (a_4.off + 1)).bind fun s_6 => (floored call 30 #[.int .i64 0, .int .i64 x1] M).bind fun r_7 => (call 31 #[.agg #[.int .i64 x_2, .slice s_3.1 (s_3.2.1) (s_3.2.2)], .func (.func 36) #[.agg #[.int .i64 x_5, .slice s_6.1 (s_6.2.1) (s_6.2.2)]] #[], .int .i64 x0, .int .i64 x12, .func (.func 45) #[] #[], r_7.1] r_7.2).bind fun r_8 => (asI .i64 r_8.1).bind fun x_9 => K #[.int .i64 x0,.int .i64 x1,g2,g3,g4,g5,g6,g7,g8,g9,.pointer x10,g11,.int .i64 x12,.int .i64 x_9,g14,g15,g16,g17,g18,g19,g20,g21,g22,g23,g24,g25,g26,g27,g28,g29,g30,g31,g32,g33,g34,g35,.agg #[.int .i64 x_2, .slice s_3.1 (s_3.2.1) (s_3.2.2)],.agg #[.int .i64 x_5, .slice s_6.1 (s_6.2.1) (s_6.2.2)],.func (.func 36) #[.agg #[.int .i64 x_5, .slice s_6.1 (s_6.2.1) (s_6.2.2)]] #[],.int .i64 x0,.int .i64 x12,.int .i64 x1,r_7.1,.int .i64 x_9,g44,g45,g46,g47,g48,g49,g50,g51,g52,g53,g54,g55,g56,g57,g58,g59,g60,g61,g62,g63,g64,g65,g66,g67,g68,g69,g70,g71,g72,g73,g74,g75,g76,g77] r_8.2 := by kernel_rfl
theorem k16_22 : P16 [1,1,1,1,1,0,1] = .seq (P16 [1,1,1,1,1,0,1,0]) (P16 [1,1,1,1,1,0,1,1]) := by kernel_rfl
theorem k16_23 : P16 [1,1,1,1,1,0,1,0] = .region 8 (O16 [1,1,1,1,1,0,1,0]) false := by kernel_rfl
theorem r16_8 {x13 : Int} {M : Mem} {call : CallM} {K : Array Value → Mem → R} :
    opsK Try.prog (fun _ => call) (O16 [1,1,1,1,1,0,1,0]) (O16 [1,1,1,1,1,0,1,0]).toList 0 #[g0,g1,g2,g3,g4,g5,g6,g7,g8,g9,g10,g11,g12,.int .i64 x13,g14,g15,g16,g17,g18,g19,g20,g21,g22,g23,g24,g25,g26,g27,g28,g29,g30,g31,g32,g33,g34,g35,g36,g37,g38,g39,g40,g41,g42,g43,g44,g45,g46,g47,g48,g49,g50,g51,g52,g53,g54,g55,g56,g57,g58,g59,g60,g61,g62,g63,g64,g65,g66,g67,g68,g69,g70,g71,g72,g73,g74,g75,g76,g77] M K = K #[g0,g1,g2,g3,g4,g5,g6,g7,g8,g9,g10,g11,g12,.int .i64 x13,g14,g15,g16,g17,g18,g19,g20,g21,g22,g23,g24,g25,g26,g27,g28,g29,g30,g31,g32,g33,g34,g35,g36,g37,g38,g39,g40,g41,g42,g43,.int .i64 x13,.bool (x13 != 0),g46,g47,g48,g49,g50,g51,g52,g53,g54,g55,g56,g57,g58,g59,g60,g61,g62,g63,g64,g65,g66,g67,g68,g69,g70,g71,g72,g73,g74,g75,g76,g77] M := by kernel_rfl
theorem c16_24 : P16 [1,1,1,1,1,0,1,1] = .cond (.tmp 45) (P16 [1,1,1,1,1,0,1,1,0]) (P16 [1,1,1,1,1,0,1,1,1]) := by kernel_rfl
theorem k16_25 : P16 [1,1,1,1,1,0,1,1,0] = .seq (P16 [1,1,1,1,1,0,1,1,0,0]) (P16 [1,1,1,1,1,0,1,1,0,1]) := by kernel_rfl
theorem k16_26 : P16 [1,1,1,1,1,0,1,1,0,0] = .region 9 (O16 [1,1,1,1,1,0,1,1,0,0]) false := by kernel_rfl
theorem r16_9 {x13 : Int} {M : Mem} {call : CallM} {K : Array Value → Mem → R} :
    opsK Try.prog (fun _ => call) (O16 [1,1,1,1,1,0,1,1,0,0]) (O16 [1,1,1,1,1,0,1,1,0,0]).toList 0 #[g0,g1,g2,g3,g4,g5,g6,g7,g8,g9,g10,g11,g12,.int .i64 x13,g14,g15,g16,g17,g18,g19,g20,g21,g22,g23,g24,g25,g26,g27,g28,g29,g30,g31,g32,g33,g34,g35,g36,g37,g38,g39,g40,g41,g42,g43,g44,g45,g46,g47,g48,g49,g50,g51,g52,g53,g54,g55,g56,g57,g58,g59,g60,g61,g62,g63,g64,g65,g66,g67,g68,g69,g70,g71,g72,g73,g74,g75,g76,g77] M K = K #[g0,g1,g2,g3,g4,g5,.slice none 0 0,.int .i64 x13,g8,g9,g10,g11,g12,.int .i64 x13,g14,g15,g16,g17,g18,g19,g20,g21,g22,g23,g24,g25,g26,g27,g28,g29,g30,g31,g32,g33,g34,g35,g36,g37,g38,g39,g40,g41,g42,g43,g44,g45,.int .i64 x13,g47,g48,g49,g50,g51,g52,g53,g54,g55,g56,g57,g58,g59,g60,g61,g62,g63,g64,g65,g66,g67,g68,g69,g70,g71,g72,g73,g74,g75,g76,g77] M := by kernel_rfl
theorem k16_27 : P16 [1,1,1,1,1,0,1,1,0,1] = .ret := by kernel_rfl
theorem k16_28 : P16 [1,1,1,1,1,0,1,1,1] = .skip := by kernel_rfl
theorem k16_29 : P16 [1,1,1,1,1,1] = .seq (P16 [1,1,1,1,1,1,0]) (P16 [1,1,1,1,1,1,1]) := by kernel_rfl
theorem k16_30 : P16 [1,1,1,1,1,1,0] = .seq (P16 [1,1,1,1,1,1,0,0]) (P16 [1,1,1,1,1,1,0,1]) := by kernel_rfl
theorem k16_31 : P16 [1,1,1,1,1,1,0,0] = .region 10 (O16 [1,1,1,1,1,1,0,0]) true ∧ drawOk (O16 [1,1,1,1,1,1,0,0]) = true := ⟨by kernel_rfl, by kernel_rfl⟩
theorem r16_10 {x0 x1 x9 : Int} {x10 : Option Addr} {x11 : Int} {M : Mem} {call : CallM} {K : Array Value → Mem → R} :
    opsI Try.prog (callAt call (O16 [1,1,1,1,1,1,0,0])) (O16 [1,1,1,1,1,1,0,0]) (ordOf (O16 [1,1,1,1,1,1,0,0])) [] #[.int .i64 x0,.int .i64 x1,g2,g3,g4,g5,g6,g7,g8,.int .i64 x9,.pointer x10,.int .i64 x11,g12,g13,g14,g15,g16,g17,g18,g19,g20,g21,g22,g23,g24,g25,g26,g27,g28,g29,g30,g31,g32,g33,g34,g35,g36,g37,g38,g39,g40,g41,g42,g43,g44,g45,g46,g47,g48,g49,g50,g51,g52,g53,g54,g55,g56,g57,g58,g59,g60,g61,g62,g63,g64,g65,g66,g67,g68,g69,g70,g71,g72,g73,g74,g75,g76,g77] M K = (x10).bind fun a_1 => (M.intAt .i64 a_1.block a_1.off).bind fun x_2 => (M.slAt a_1.block (a_1.off + 1)).bind fun s_3 => (x10).bind fun a_4 => (M.intAt .i64 a_4.block a_4.off).bind fun x_5 => (M.slAt a_4.block (a_4.off + 1)).bind fun s_6 => (floored call 46 #[.int .i64 x0, .int .i64 x1] M).bind fun r_7 => (call 31 #[.agg #[.int .i64 x_2, .slice s_3.1 (s_3.2.1) (s_3.2.2)], .func (.func 32) #[.agg #[.int .i64 x_5, .slice s_6.1 (s_6.2.1) (s_6.2.2)]] #[], .int .i64 x9, .int .i64 x11, .func (.func 45) #[] #[], r_7.1] r_7.2).bind fun r_8 => (asI .i64 r_8.1).bind fun x_9 => K #[.int .i64 x0,.int .i64 x1,g2,g3,g4,g5,g6,g7,g8,.int .i64 x9,.pointer x10,.int .i64 x11,g12,g13,.int .i64 x_9,g15,g16,g17,g18,g19,g20,g21,g22,g23,g24,g25,g26,g27,g28,g29,g30,g31,g32,g33,g34,g35,g36,g37,g38,g39,g40,g41,g42,g43,g44,g45,g46,.agg #[.int .i64 x_2, .slice s_3.1 (s_3.2.1) (s_3.2.2)],.agg #[.int .i64 x_5, .slice s_6.1 (s_6.2.1) (s_6.2.2)],.func (.func 32) #[.agg #[.int .i64 x_5, .slice s_6.1 (s_6.2.1) (s_6.2.2)]] #[],.int .i64 x9,.int .i64 x11,.int .i64 x0,.int .i64 x1,r_7.1,.int .i64 x_9,g56,g57,g58,g59,g60,g61,g62,g63,g64,g65,g66,g67,g68,g69,g70,g71,g72,g73,g74,g75,g76,g77] r_8.2 := by kernel_rfl
theorem k16_32 : P16 [1,1,1,1,1,1,0,1] = .seq (P16 [1,1,1,1,1,1,0,1,0]) (P16 [1,1,1,1,1,1,0,1,1]) := by kernel_rfl
theorem k16_33 : P16 [1,1,1,1,1,1,0,1,0] = .region 11 (O16 [1,1,1,1,1,1,0,1,0]) false := by kernel_rfl
theorem r16_11 {x14 : Int} {M : Mem} {call : CallM} {K : Array Value → Mem → R} :
    opsK Try.prog (fun _ => call) (O16 [1,1,1,1,1,1,0,1,0]) (O16 [1,1,1,1,1,1,0,1,0]).toList 0 #[g0,g1,g2,g3,g4,g5,g6,g7,g8,g9,g10,g11,g12,g13,.int .i64 x14,g15,g16,g17,g18,g19,g20,g21,g22,g23,g24,g25,g26,g27,g28,g29,g30,g31,g32,g33,g34,g35,g36,g37,g38,g39,g40,g41,g42,g43,g44,g45,g46,g47,g48,g49,g50,g51,g52,g53,g54,g55,g56,g57,g58,g59,g60,g61,g62,g63,g64,g65,g66,g67,g68,g69,g70,g71,g72,g73,g74,g75,g76,g77] M K = K #[g0,g1,g2,g3,g4,g5,g6,g7,g8,g9,g10,g11,g12,g13,.int .i64 x14,g15,g16,g17,g18,g19,g20,g21,g22,g23,g24,g25,g26,g27,g28,g29,g30,g31,g32,g33,g34,g35,g36,g37,g38,g39,g40,g41,g42,g43,g44,g45,g46,g47,g48,g49,g50,g51,g52,g53,g54,g55,.int .i64 x14,.bool (x14 != 0),g58,g59,g60,g61,g62,g63,g64,g65,g66,g67,g68,g69,g70,g71,g72,g73,g74,g75,g76,g77] M := by kernel_rfl
theorem c16_34 : P16 [1,1,1,1,1,1,0,1,1] = .cond (.tmp 57) (P16 [1,1,1,1,1,1,0,1,1,0]) (P16 [1,1,1,1,1,1,0,1,1,1]) := by kernel_rfl
theorem k16_35 : P16 [1,1,1,1,1,1,0,1,1,0] = .seq (P16 [1,1,1,1,1,1,0,1,1,0,0]) (P16 [1,1,1,1,1,1,0,1,1,0,1]) := by kernel_rfl
theorem k16_36 : P16 [1,1,1,1,1,1,0,1,1,0,0] = .region 12 (O16 [1,1,1,1,1,1,0,1,1,0,0]) false := by kernel_rfl
theorem r16_12 {x14 : Int} {M : Mem} {call : CallM} {K : Array Value → Mem → R} :
    opsK Try.prog (fun _ => call) (O16 [1,1,1,1,1,1,0,1,1,0,0]) (O16 [1,1,1,1,1,1,0,1,1,0,0]).toList 0 #[g0,g1,g2,g3,g4,g5,g6,g7,g8,g9,g10,g11,g12,g13,.int .i64 x14,g15,g16,g17,g18,g19,g20,g21,g22,g23,g24,g25,g26,g27,g28,g29,g30,g31,g32,g33,g34,g35,g36,g37,g38,g39,g40,g41,g42,g43,g44,g45,g46,g47,g48,g49,g50,g51,g52,g53,g54,g55,g56,g57,g58,g59,g60,g61,g62,g63,g64,g65,g66,g67,g68,g69,g70,g71,g72,g73,g74,g75,g76,g77] M K = K #[g0,g1,g2,g3,g4,g5,.slice none 0 0,.int .i64 x14,g8,g9,g10,g11,g12,g13,.int .i64 x14,g15,g16,g17,g18,g19,g20,g21,g22,g23,g24,g25,g26,g27,g28,g29,g30,g31,g32,g33,g34,g35,g36,g37,g38,g39,g40,g41,g42,g43,g44,g45,g46,g47,g48,g49,g50,g51,g52,g53,g54,g55,g56,g57,.int .i64 x14,g59,g60,g61,g62,g63,g64,g65,g66,g67,g68,g69,g70,g71,g72,g73,g74,g75,g76,g77] M := by kernel_rfl
theorem k16_37 : P16 [1,1,1,1,1,1,0,1,1,0,1] = .ret := by kernel_rfl
theorem k16_38 : P16 [1,1,1,1,1,1,0,1,1,1] = .skip := by kernel_rfl
theorem k16_39 : P16 [1,1,1,1,1,1,1] = .seq (P16 [1,1,1,1,1,1,1,0]) (P16 [1,1,1,1,1,1,1,1]) := by kernel_rfl
theorem k16_40 : P16 [1,1,1,1,1,1,1,0] = .region 13 (O16 [1,1,1,1,1,1,1,0]) false := by kernel_rfl
theorem r16_13 {M : Mem} {call : CallM} {K : Array Value → Mem → R} :
    opsK Try.prog (fun _ => call) (O16 [1,1,1,1,1,1,1,0]) (O16 [1,1,1,1,1,1,1,0]).toList 0 #[g0,g1,g2,g3,g4,g5,g6,g7,g8,g9,g10,g11,g12,g13,g14,g15,g16,g17,g18,g19,g20,g21,g22,g23,g24,g25,g26,g27,g28,g29,g30,g31,g32,g33,g34,g35,g36,g37,g38,g39,g40,g41,g42,g43,g44,g45,g46,g47,g48,g49,g50,g51,g52,g53,g54,g55,g56,g57,g58,g59,g60,g61,g62,g63,g64,g65,g66,g67,g68,g69,g70,g71,g72,g73,g74,g75,g76,g77] M K = K #[g0,g1,g2,g3,g4,g5,g6,g7,g8,g9,g10,g11,g12,g13,g14,.slice none 0 0,g16,g17,g18,g19,g20,g21,g22,g23,g24,g25,g26,g27,g28,g29,g30,g31,g32,g33,g34,g35,g36,g37,g38,g39,g40,g41,g42,g43,g44,g45,g46,g47,g48,g49,g50,g51,g52,g53,g54,g55,g56,g57,g58,g59,g60,g61,g62,g63,g64,g65,g66,g67,g68,g69,g70,g71,g72,g73,g74,g75,g76,g77] M := by kernel_rfl
theorem k16_41 : P16 [1,1,1,1,1,1,1,1] = .seq (P16 [1,1,1,1,1,1,1,1,0]) (P16 [1,1,1,1,1,1,1,1,1]) := by kernel_rfl
theorem k16_42 : P16 [1,1,1,1,1,1,1,1,0] = .seq (P16 [1,1,1,1,1,1,1,1,0,0]) (P16 [1,1,1,1,1,1,1,1,0,1]) := by kernel_rfl
theorem k16_43 : P16 [1,1,1,1,1,1,1,1,0,0] = .region 14 (O16 [1,1,1,1,1,1,1,1,0,0]) false := by kernel_rfl
theorem r16_14 {x9 : Int} {M : Mem} {call : CallM} {K : Array Value → Mem → R} :
    opsK Try.prog (fun _ => call) (O16 [1,1,1,1,1,1,1,1,0,0]) (O16 [1,1,1,1,1,1,1,1,0,0]).toList 0 #[g0,g1,g2,g3,g4,g5,g6,g7,g8,.int .i64 x9,g10,g11,g12,g13,g14,g15,g16,g17,g18,g19,g20,g21,g22,g23,g24,g25,g26,g27,g28,g29,g30,g31,g32,g33,g34,g35,g36,g37,g38,g39,g40,g41,g42,g43,g44,g45,g46,g47,g48,g49,g50,g51,g52,g53,g54,g55,g56,g57,g58,g59,g60,g61,g62,g63,g64,g65,g66,g67,g68,g69,g70,g71,g72,g73,g74,g75,g76,g77] M K = K #[g0,g1,g2,g3,g4,g5,g6,g7,g8,.int .i64 x9,g10,g11,g12,g13,g14,g15,g16,g17,g18,g19,g20,g21,g22,g23,g24,g25,g26,g27,g28,g29,g30,g31,g32,g33,g34,g35,g36,g37,g38,g39,g40,g41,g42,g43,g44,g45,g46,g47,g48,g49,g50,g51,g52,g53,g54,g55,g56,g57,g58,.int .i64 x9,.int .i64 0,g61,g62,g63,g64,g65,g66,g67,g68,g69,g70,g71,g72,g73,g74,g75,g76,g77] M := by kernel_rfl
theorem k16_44 : P16 [1,1,1,1,1,1,1,1,0,1] = .block 0 (P16 [1,1,1,1,1,1,1,1,0,1,0]) := by kernel_rfl
theorem k16_45 : P16 [1,1,1,1,1,1,1,1,0,1,0] = .loop (P16 [1,1,1,1,1,1,1,1,0,1,0,0]) := by kernel_rfl
theorem k16_46 : P16 [1,1,1,1,1,1,1,1,0,1,0,0] = .seq (P16 [1,1,1,1,1,1,1,1,0,1,0,0,0]) (P16 [1,1,1,1,1,1,1,1,0,1,0,0,1]) := by kernel_rfl
theorem k16_47 : P16 [1,1,1,1,1,1,1,1,0,1,0,0,0] = .region 15 (O16 [1,1,1,1,1,1,1,1,0,1,0,0,0]) false := by kernel_rfl
theorem r16_15 {x59 x60 : Int} {M : Mem} {call : CallM} {K : Array Value → Mem → R} :
    opsK Try.prog (fun _ => call) (O16 [1,1,1,1,1,1,1,1,0,1,0,0,0]) (O16 [1,1,1,1,1,1,1,1,0,1,0,0,0]).toList 0 #[g0,g1,g2,g3,g4,g5,g6,g7,g8,g9,g10,g11,g12,g13,g14,g15,g16,g17,g18,g19,g20,g21,g22,g23,g24,g25,g26,g27,g28,g29,g30,g31,g32,g33,g34,g35,g36,g37,g38,g39,g40,g41,g42,g43,g44,g45,g46,g47,g48,g49,g50,g51,g52,g53,g54,g55,g56,g57,g58,.int .i64 x59,.int .i64 x60,g61,g62,g63,g64,g65,g66,g67,g68,g69,g70,g71,g72,g73,g74,g75,g76,g77] M K = K #[g0,g1,g2,g3,g4,g5,g6,g7,g8,g9,g10,g11,g12,g13,g14,g15,g16,g17,g18,g19,g20,g21,g22,g23,g24,g25,g26,g27,g28,g29,g30,g31,g32,g33,g34,g35,g36,g37,g38,g39,g40,g41,g42,g43,g44,g45,g46,g47,g48,g49,g50,g51,g52,g53,g54,g55,g56,g57,g58,.int .i64 x59,.int .i64 x60,.bool (decide (x60 < x59)),g62,g63,g64,g65,g66,g67,g68,g69,g70,g71,g72,g73,g74,g75,g76,g77] M := by kernel_rfl
theorem k16_48 : P16 [1,1,1,1,1,1,1,1,0,1,0,0,1] = .seq (P16 [1,1,1,1,1,1,1,1,0,1,0,0,1,0]) (P16 [1,1,1,1,1,1,1,1,0,1,0,0,1,1]) := by kernel_rfl
theorem c16_49 : P16 [1,1,1,1,1,1,1,1,0,1,0,0,1,0] = .cond (.tmp 61) (P16 [1,1,1,1,1,1,1,1,0,1,0,0,1,0,0]) (P16 [1,1,1,1,1,1,1,1,0,1,0,0,1,0,1]) := by kernel_rfl
theorem k16_50 : P16 [1,1,1,1,1,1,1,1,0,1,0,0,1,0,0] = .skip := by kernel_rfl
theorem k16_51 : P16 [1,1,1,1,1,1,1,1,0,1,0,0,1,1] = .seq (P16 [1,1,1,1,1,1,1,1,0,1,0,0,1,1,0]) (P16 [1,1,1,1,1,1,1,1,0,1,0,0,1,1,1]) := by kernel_rfl
theorem k16_52 : P16 [1,1,1,1,1,1,1,1,0,1,0,0,1,1,0] = .block 1 (P16 [1,1,1,1,1,1,1,1,0,1,0,0,1,1,0,0]) := by kernel_rfl
theorem k16_53 : P16 [1,1,1,1,1,1,1,1,0,1,0,0,1,1,0,0] = .seq (P16 [1,1,1,1,1,1,1,1,0,1,0,0,1,1,0,0,0]) (P16 [1,1,1,1,1,1,1,1,0,1,0,0,1,1,0,0,1]) := by kernel_rfl
theorem k16_54 : P16 [1,1,1,1,1,1,1,1,0,1,0,0,1,1,0,0,0] = .region 16 (O16 [1,1,1,1,1,1,1,1,0,1,0,0,1,1,0,0,0]) false := by kernel_rfl
theorem r16_16 {x60 : Int} {M : Mem} {call : CallM} {K : Array Value → Mem → R} :
    opsK Try.prog (fun _ => call) (O16 [1,1,1,1,1,1,1,1,0,1,0,0,1,1,0,0,0]) (O16 [1,1,1,1,1,1,1,1,0,1,0,0,1,1,0,0,0]).toList 0 #[g0,g1,g2,g3,g4,g5,g6,g7,g8,g9,g10,g11,g12,g13,g14,g15,g16,g17,g18,g19,g20,g21,g22,g23,g24,g25,g26,g27,g28,g29,g30,g31,g32,g33,g34,g35,g36,g37,g38,g39,g40,g41,g42,g43,g44,g45,g46,g47,g48,g49,g50,g51,g52,g53,g54,g55,g56,g57,g58,g59,.int .i64 x60,g61,g62,g63,g64,g65,g66,g67,g68,g69,g70,g71,g72,g73,g74,g75,g76,g77] M K = K #[g0,g1,g2,g3,g4,g5,g6,g7,g8,g9,g10,g11,g12,g13,g14,g15,.int .i64 x60,g17,g18,g19,g20,g21,g22,g23,g24,g25,g26,g27,g28,g29,g30,g31,g32,g33,g34,g35,g36,g37,g38,g39,g40,g41,g42,g43,g44,g45,g46,g47,g48,g49,g50,g51,g52,g53,g54,g55,g56,g57,g58,g59,.int .i64 x60,g61,.int .i64 x60,g63,g64,g65,g66,g67,g68,g69,g70,g71,g72,g73,g74,g75,g76,g77] M := by kernel_rfl
theorem k16_55 : P16 [1,1,1,1,1,1,1,1,0,1,0,0,1,1,0,0,1] = .region 17 (O16 [1,1,1,1,1,1,1,1,0,1,0,0,1,1,0,0,1]) false := by kernel_rfl
theorem r16_17 {x0 x9 : Int} {x10 Ax15 : Option Addr} {lx15 cx15 : Nat} {x16 : Int} {M : Mem} {call : CallM} {K : Array Value → Mem → R} :
    opsK Try.prog (fun _ => call) (O16 [1,1,1,1,1,1,1,1,0,1,0,0,1,1,0,0,1]) (O16 [1,1,1,1,1,1,1,1,0,1,0,0,1,1,0,0,1]).toList 0 #[.int .i64 x0,g1,g2,g3,g4,g5,g6,g7,g8,.int .i64 x9,.pointer x10,g11,g12,g13,g14,.slice Ax15 lx15 cx15,.int .i64 x16,g17,g18,g19,g20,g21,g22,g23,g24,g25,g26,g27,g28,g29,g30,g31,g32,g33,g34,g35,g36,g37,g38,g39,g40,g41,g42,g43,g44,g45,g46,g47,g48,g49,g50,g51,g52,g53,g54,g55,g56,g57,g58,g59,g60,g61,g62,g63,g64,g65,g66,g67,g68,g69,g70,g71,g72,g73,g74,g75,g76,g77] M K = (x10).bind fun a_1 => (M.slAt a_1.block (a_1.off + 1)).bind fun s_2 => (sliceP Try.prog 22 (.slice s_2.1 (s_2.2.1) (s_2.2.2)) (some (.int .i64 (IntKind.i64.wrap (x16 * x0)))) (some (.int .i64 (IntKind.i64.wrap ((IntKind.i64.wrap (x16 * x0)) + x9)))) none).bind fun v_3 => (asS v_3).bind fun s_4 => (appendP Try.prog #[22, 22] (.slice Ax15 lx15 cx15) (.slice s_4.1 (s_4.2.1) (s_4.2.2)) M).bind fun r_5 => (asS r_5.1).bind fun s_6 => K #[.int .i64 x0,g1,g2,g3,g4,g5,g6,g7,g8,.int .i64 x9,.pointer x10,g11,g12,g13,g14,.slice s_6.1 (s_6.2.1) (s_6.2.2),.int .i64 x16,g17,g18,g19,g20,g21,g22,g23,g24,g25,g26,g27,g28,g29,g30,g31,g32,g33,g34,g35,g36,g37,g38,g39,g40,g41,g42,g43,g44,g45,g46,g47,g48,g49,g50,g51,g52,g53,g54,g55,g56,g57,g58,g59,g60,g61,g62,.slice Ax15 lx15 cx15,.pointer (some ⟨a_1.block, a_1.off + 1, none⟩),.slice s_2.1 (s_2.2.1) (s_2.2.2),.int .i64 x16,.int .i64 x0,.int .i64 (IntKind.i64.wrap (x16 * x0)),.int .i64 x16,.int .i64 x0,.int .i64 (IntKind.i64.wrap (x16 * x0)),.int .i64 x9,.int .i64 (IntKind.i64.wrap ((IntKind.i64.wrap (x16 * x0)) + x9)),.slice s_4.1 (s_4.2.1) (s_4.2.2),.slice s_6.1 (s_6.2.1) (s_6.2.2),g76,g77] r_5.2 := by kernel_rfl
theorem k16_56 : P16 [1,1,1,1,1,1,1,1,0,1,0,0,1,1,1] = .region 18 (O16 [1,1,1,1,1,1,1,1,0,1,0,0,1,1,1]) false := by kernel_rfl
theorem r16_18 {x60 : Int} {M : Mem} {call : CallM} {K : Array Value → Mem → R} :
    opsK Try.prog (fun _ => call) (O16 [1,1,1,1,1,1,1,1,0,1,0,0,1,1,1]) (O16 [1,1,1,1,1,1,1,1,0,1,0,0,1,1,1]).toList 0 #[g0,g1,g2,g3,g4,g5,g6,g7,g8,g9,g10,g11,g12,g13,g14,g15,g16,g17,g18,g19,g20,g21,g22,g23,g24,g25,g26,g27,g28,g29,g30,g31,g32,g33,g34,g35,g36,g37,g38,g39,g40,g41,g42,g43,g44,g45,g46,g47,g48,g49,g50,g51,g52,g53,g54,g55,g56,g57,g58,g59,.int .i64 x60,g61,g62,g63,g64,g65,g66,g67,g68,g69,g70,g71,g72,g73,g74,g75,g76,g77] M K = K #[g0,g1,g2,g3,g4,g5,g6,g7,g8,g9,g10,g11,g12,g13,g14,g15,g16,g17,g18,g19,g20,g21,g22,g23,g24,g25,g26,g27,g28,g29,g30,g31,g32,g33,g34,g35,g36,g37,g38,g39,g40,g41,g42,g43,g44,g45,g46,g47,g48,g49,g50,g51,g52,g53,g54,g55,g56,g57,g58,g59,.int .i64 (IntKind.i64.wrap (x60 + 1)),g61,g62,g63,g64,g65,g66,g67,g68,g69,g70,g71,g72,g73,g74,g75,.int .i64 (IntKind.i64.wrap (x60 + 1)),g77] M := by kernel_rfl
theorem k16_57 : P16 [1,1,1,1,1,1,1,1,0,1,0,0,1,0,1] = .exit 0 := by kernel_rfl
theorem k16_58 : P16 [1,1,1,1,1,1,1,1,1] = .seq (P16 [1,1,1,1,1,1,1,1,1,0]) (P16 [1,1,1,1,1,1,1,1,1,1]) := by kernel_rfl
theorem k16_59 : P16 [1,1,1,1,1,1,1,1,1,0] = .region 19 (O16 [1,1,1,1,1,1,1,1,1,0]) false := by kernel_rfl
theorem r16_19 {Ax15 : Option Addr} {lx15 cx15 : Nat} {M : Mem} {call : CallM} {K : Array Value → Mem → R} :
    opsK Try.prog (fun _ => call) (O16 [1,1,1,1,1,1,1,1,1,0]) (O16 [1,1,1,1,1,1,1,1,1,0]).toList 0 #[g0,g1,g2,g3,g4,g5,g6,g7,g8,g9,g10,g11,g12,g13,g14,.slice Ax15 lx15 cx15,g16,g17,g18,g19,g20,g21,g22,g23,g24,g25,g26,g27,g28,g29,g30,g31,g32,g33,g34,g35,g36,g37,g38,g39,g40,g41,g42,g43,g44,g45,g46,g47,g48,g49,g50,g51,g52,g53,g54,g55,g56,g57,g58,g59,g60,g61,g62,g63,g64,g65,g66,g67,g68,g69,g70,g71,g72,g73,g74,g75,g76,g77] M K = K #[g0,g1,g2,g3,g4,g5,.slice Ax15 lx15 cx15,.int .i64 0,g8,g9,g10,g11,g12,g13,g14,.slice Ax15 lx15 cx15,g16,g17,g18,g19,g20,g21,g22,g23,g24,g25,g26,g27,g28,g29,g30,g31,g32,g33,g34,g35,g36,g37,g38,g39,g40,g41,g42,g43,g44,g45,g46,g47,g48,g49,g50,g51,g52,g53,g54,g55,g56,g57,g58,g59,g60,g61,g62,g63,g64,g65,g66,g67,g68,g69,g70,g71,g72,g73,g74,g75,g76,.slice Ax15 lx15 cx15] M := by kernel_rfl
theorem k16_60 : P16 [1,1,1,1,1,1,1,1,1,1] = .ret := by kernel_rfl
noncomputable def S16_1 : List Item := [.code (P16 [1,1,1,1,1,1,1,1,0,1,0,0]), .inLoop (P16 [1,1,1,1,1,1,1,1,0,1,0,0]), .inBlock 0, .code (P16 [1,1,1,1,1,1,1,1,1])]
def A16_1 (x0 x9 : Int) (x10 Ax15 : Option Addr) (lx15 cx15 : Nat) (x59 x60 : Int) (M : Mem) (Q : Value → Mem → Prop) : Prop := ∀ (g1 g2 g3 g4 g5 g6 g7 g8 g11 g12 g13 g14 g16 g17 g18 g19 g20 g21 g22 g23 g24 g25 g26 g27 g28 g29 g30 g31 g32 g33 g34 g35 g36 g37 g38 g39 g40 g41 g42 g43 g44 g45 g46 g47 g48 g49 g50 g51 g52 g53 g54 g55 g56 g57 g58 g61 g62 g63 g64 g65 g66 g67 g68 g69 g70 g71 g72 g73 g74 g75 g76 g77 : Value), Rn Try.prog Try.f16 S16_1 #[.int .i64 x0, g1, g2, g3, g4, g5, g6, g7, g8, .int .i64 x9, .pointer x10, g11, g12, g13, g14, .slice Ax15 lx15 cx15, g16, g17, g18, g19, g20, g21, g22, g23, g24, g25, g26, g27, g28, g29, g30, g31, g32, g33, g34, g35, g36, g37, g38, g39, g40, g41, g42, g43, g44, g45, g46, g47, g48, g49, g50, g51, g52, g53, g54, g55, g56, g57, g58, .int .i64 x59, .int .i64 x60, g61, g62, g63, g64, g65, g66, g67, g68, g69, g70, g71, g72, g73, g74, g75, g76, g77] M Q
theorem w16_0 {x0 x1 : Int} {Ax2 : Option Addr} {lx2 cx2 : Nat} {M : Mem} {Q : Value → Mem → Prop} (H :
    Cn Try.prog 27 #[.int .i64 x0, .int .i64 x1, .slice Ax2 lx2 cx2, .int .i64 x0, .int .i64 255] M fun v1' N1' =>
     ∃ x2', asI .i64 v1' = some x2' ∧
     ((x2' ≠ 0 →
      Q (.tuple #[.slice none 0 0, .int .i64 (x2')]) N1') ∧
      (x2' = 0 →
      Cn Try.prog 44 #[.slice Ax2 lx2 cx2] N1' fun v3' N3' =>
       ∃ s4', asS v3' = some s4' ∧
       ∃ M5', (N3'.new (.cells #[.int .i64 0, .slice none 0 0] 43)).put (2 * N3'.nb.size) 0 (.int .i64 x0) = some M5' ∧
       ∃ M6', M5'.put (2 * N3'.nb.size) 1 (.slice s4'.1 (s4'.2.1) (s4'.2.2)) = some M6' ∧
       Cn Try.prog 29 #[.int .i64 x1] M6' fun v7' N7' =>
        ∃ cs8', asU 2 v7' = some cs8' ∧
        ∃ x9', asI .i64 (cs8'.getD 0 undef) = some x9' ∧
        ∃ x10', asI .i64 (cs8'.getD 1 undef) = some x10' ∧
        ∃ x11', N7'.intAt .i64 (2 * N3'.nb.size) 0 = some x11' ∧
        ∃ s12', N7'.slAt (2 * N3'.nb.size) (0 + 1) = some s12' ∧
        ∃ x13', N7'.intAt .i64 (2 * N3'.nb.size) 0 = some x13' ∧
        ∃ s14', N7'.slAt (2 * N3'.nb.size) (0 + 1) = some s14' ∧
        Cn Try.prog 30 #[.int .i64 0, .int .i64 x1] { N7' with floor := N7'.nb.size } fun v15' N15' =>
         Cn Try.prog 31 #[.agg #[.int .i64 x11', .slice s12'.1 (s12'.2.1) (s12'.2.2)], .func (.func 36) #[.agg #[.int .i64 x13', .slice s14'.1 (s14'.2.1) (s14'.2.2)]] #[], .int .i64 x0, .int .i64 x10', .func (.func 45) #[] #[], v15'] { N15' with floor := N7'.floor } fun v16' N16' =>
          ∃ x17', asI .i64 v16' = some x17' ∧
          ((x17' ≠ 0 →
           Q (.tuple #[.slice none 0 0, .int .i64 (x17')]) N16') ∧
           (x17' = 0 →
           ∃ x18', N16'.intAt .i64 (2 * N3'.nb.size) 0 = some x18' ∧
           ∃ s19', N16'.slAt (2 * N3'.nb.size) (0 + 1) = some s19' ∧
           ∃ x20', N16'.intAt .i64 (2 * N3'.nb.size) 0 = some x20' ∧
           ∃ s21', N16'.slAt (2 * N3'.nb.size) (0 + 1) = some s21' ∧
           Cn Try.prog 46 #[.int .i64 x0, .int .i64 x1] { N16' with floor := N16'.nb.size } fun v22' N22' =>
            Cn Try.prog 31 #[.agg #[.int .i64 x18', .slice s19'.1 (s19'.2.1) (s19'.2.2)], .func (.func 32) #[.agg #[.int .i64 x20', .slice s21'.1 (s21'.2.1) (s21'.2.2)]] #[], .int .i64 (if 32 < x0 then 32 else x0), .int .i64 x9', .func (.func 45) #[] #[], v22'] { N22' with floor := N16'.floor } fun v23' N23' =>
             ∃ x24', asI .i64 v23' = some x24' ∧
             ((x24' ≠ 0 →
              Q (.tuple #[.slice none 0 0, .int .i64 (x24')]) N23') ∧
              (x24' = 0 →
              A16_1 x0 (if 32 < x0 then 32 else x0) (some ⟨2 * N3'.nb.size, 0, none⟩) none 0 0 (if 32 < x0 then 32 else x0) 0 N23' Q))))))) :
    Cn Try.prog 16 #[.int .i64 x0, .int .i64 x1, .slice Ax2 lx2 cx2] M Q := by
  refine Cn.of b16 d16 t16 ?_
  refine Rn.seq k16_0 (Rn.region k16_1 (fun call K => r16_0) (Rch.leaf (Rn.seq k16_2 (Rn.seq k16_3 (Rn.region k16_4 (fun call K => r16_1) (Rch.call H fun v1' N1' H => Rch.ex H fun x2' H => Rch.leaf (Rn.seq k16_5 (Rn.region k16_6 (fun call K => r16_2) (Rch.leaf ?_)))))))))
  refine Rn.cnd (v := x2' != 0) ⟨c16_7, rfl, by kernel_rfl⟩ (fun h => ?_) (fun h => ?_)
  · replace H := H.1 (ne_of_bneT h)
    refine Rn.seq k16_8 (Rn.region k16_9 (fun call K => r16_3) (Rch.leaf ?_))
    exact Rn.ret k16_10 e16 H
  · replace H := H.2 (eq_of_bneF h)
    refine Rn.skip k16_12 (Rn.seq k16_13 (Rn.region k16_14 (fun call K => r16_4) (Rch.leaf (Rn.seq k16_15 (Rn.region k16_16 (fun call K => r16_5) (Rch.call H fun v3' N3' H => Rch.ex H fun s4' H => Rch.ex H fun M5' H => Rch.ex H fun M6' H => Rch.leaf (Rn.seq k16_17 ?_)))))))
    refine Rn.region k16_18 (fun call K => r16_6) (Rch.call H fun v7' N7' H => Rch.ex H fun cs8' H => Rch.ex H fun x9' H => Rch.ex H fun x10' H => Rch.leaf (Rn.seq k16_19 (Rn.seq k16_20 (Rn.regionD k16_21 (fun call K => r16_7) (Rch.bind (x := ⟨2 * N3'.nb.size, 0, none⟩) rfl (Rch.ex H fun x11' H => Rch.ex H fun s12' H => ?_))))))
    refine Rch.bind (x := ⟨2 * N3'.nb.size, 0, none⟩) rfl (Rch.ex H fun x13' H => Rch.ex H fun s14' H => Rch.callF H fun v15' N15' H => Rch.call H fun v16' N16' H => Rch.ex H fun x17' H => Rch.leaf (Rn.seq k16_22 (Rn.region k16_23 (fun call K => r16_8) (Rch.leaf ?_))))
    refine Rn.cnd (v := x17' != 0) ⟨c16_24, rfl, by kernel_rfl⟩ (fun h => ?_) (fun h => ?_)
    · replace H := H.1 (ne_of_bneT h)
      refine Rn.seq k16_25 (Rn.region k16_26 (fun call K => r16_9) (Rch.leaf ?_))
      exact Rn.ret k16_27 e16 H
    · replace H := H.2 (eq_of_bneF h)
      refine Rn.skip k16_28 (Rn.seq k16_29 (Rn.seq k16_30 (Rn.regionD k16_31 (fun call K => r16_10) (Rch.bind (x := ⟨2 * N3'.nb.size, 0, none⟩) rfl (Rch.ex H fun x18' H => Rch.ex H fun s19' H => Rch.bind (x := ⟨2 * N3'.nb.size, 0, none⟩) rfl (Rch.ex H fun x20' H => Rch.ex H fun s21' H => Rch.callF H fun v22' N22' H => Rch.call H fun v23' N23' H => ?_))))))
      refine Rch.ex H fun x24' H => Rch.leaf (Rn.seq k16_32 (Rn.region k16_33 (fun call K => r16_11) (Rch.leaf ?_)))
      refine Rn.cnd (v := x24' != 0) ⟨c16_34, rfl, by kernel_rfl⟩ (fun h => ?_) (fun h => ?_)
      · replace H := H.1 (ne_of_bneT h)
        refine Rn.seq k16_35 (Rn.region k16_36 (fun call K => r16_12) (Rch.leaf ?_))
        exact Rn.ret k16_37 e16 H
      · replace H := H.2 (eq_of_bneF h)
        refine Rn.skip k16_38 (Rn.seq k16_39 (Rn.region k16_40 (fun call K => r16_13) (Rch.leaf (Rn.seq k16_41 (Rn.seq k16_42 (Rn.region k16_43 (fun call K => r16_14) (Rch.leaf (Rn.block k16_44 (Rn.loop k16_45 ?_)))))))))
        exact H _ _ _ _ _ _ _ _ _ _ _ _ _ _ _ _ _ _ _ _ _ _ _ _ _ _ _ _ _ _ _ _ _ _ _ _ _ _ _ _ _ _ _ _ _ _ _ _ _ _ _ _ _ _ _ _ _ _ _ _ _ _ _ _ _ _ _ _ _ _ _ _

theorem w16_1 {x0 x9 : Int} {x10 Ax15 : Option Addr} {lx15 cx15 : Nat} {x59 x60 : Int} {M : Mem} {Q : Value → Mem → Prop} (H :
    ((x60 < x59 →
     ∃ a25', x10 = some a25' ∧
     ∃ s26', M.slAt a25'.block (a25'.off + 1) = some s26' ∧
     ∃ v27', sliceP Try.prog 22 (.slice s26'.1 (s26'.2.1) (s26'.2.2)) (some (.int .i64 (IntKind.i64.wrap (x60 * x0)))) (some (.int .i64 (IntKind.i64.wrap ((IntKind.i64.wrap (x60 * x0)) + x9)))) none = some v27' ∧
     ∃ s28', asS v27' = some s28' ∧
     ∃ r29', appendP Try.prog #[22, 22] (.slice Ax15 lx15 cx15) (.slice s28'.1 (s28'.2.1) (s28'.2.2)) M = some r29' ∧
     ∃ s30', asS r29'.1 = some s30' ∧
     A16_1 x0 x9 x10 s30'.1 s30'.2.1 s30'.2.2 x59 (IntKind.i64.wrap (x60 + 1)) r29'.2 Q) ∧
     (¬ (x60 < x59) →
     Q (.tuple #[.slice Ax15 lx15 cx15, .int .i64 0]) M))) :
    A16_1 x0 x9 x10 Ax15 lx15 cx15 x59 x60 M Q := by
  intro g1 g2 g3 g4 g5 g6 g7 g8 g11 g12 g13 g14 g16 g17 g18 g19 g20 g21 g22 g23 g24 g25 g26 g27 g28 g29 g30 g31 g32 g33 g34 g35 g36 g37 g38 g39 g40 g41 g42 g43 g44 g45 g46 g47 g48 g49 g50 g51 g52 g53 g54 g55 g56 g57 g58 g61 g62 g63 g64 g65 g66 g67 g68 g69 g70 g71 g72 g73 g74 g75 g76 g77
  refine Rn.seq k16_46 (Rn.region k16_47 (fun call K => r16_15) (Rch.leaf (Rn.seq k16_48 ?_)))
  refine Rn.cnd (v := decide (x60 < x59)) ⟨c16_49, rfl, by kernel_rfl⟩ (fun h => ?_) (fun h => ?_)
  · replace H := H.1 (of_decide_eq_true h)
    refine Rn.skip k16_50 (Rn.seq k16_51 (Rn.block k16_52 (Rn.seq k16_53 (Rn.region k16_54 (fun call K => r16_16) (Rch.leaf (Rn.region k16_55 (fun call K => r16_17) (Rch.ex H fun a25' H => Rch.ex H fun s26' H => Rch.ex H fun v27' H => Rch.ex H fun s28' H => Rch.ex H fun r29' H => ?_)))))))
    refine Rch.ex H fun s30' H => Rch.leaf (Rn.blk (Rn.region k16_56 (fun call K => r16_18) (Rch.leaf (Rn.lp ?_))))
    exact H _ _ _ _ _ _ _ _ _ _ _ _ _ _ _ _ _ _ _ _ _ _ _ _ _ _ _ _ _ _ _ _ _ _ _ _ _ _ _ _ _ _ _ _ _ _ _ _ _ _ _ _ _ _ _ _ _ _ _ _ _ _ _ _ _ _ _ _ _ _ _ _
  · replace H := H.2 (of_decide_eq_false h)
    refine Rn.exit k16_57 rfl (Rn.seq k16_58 (Rn.region k16_59 (fun call K => r16_19) (Rch.leaf ?_)))
    exact Rn.ret k16_60 e16 H


end Go.Zt

