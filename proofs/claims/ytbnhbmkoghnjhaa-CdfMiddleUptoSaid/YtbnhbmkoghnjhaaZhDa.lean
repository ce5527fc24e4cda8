/- The functions' walks: for each function and each loop a rule of what it comes to. Printed by zw.py. -/
import Derived.Test.YtbnhbmkoghnjhaaProg
import Derived.Test.YtbnhbmkoghnjhaaZhA
set_option linter.unusedVariables false
set_option maxRecDepth 100000
namespace Go.Zt
open Go Go.Sim Go.Proofs

variable {g0 g1 g2 g3 g4 g5 g6 g7 g8 g9 g10 g11 g12 g13 g14 g15 g16 g17 g18 g19 g20 g21 g22 g23 g24 g25 g26 g27 g28 g29 g30 g31 g32 g33 g34 g35 g36 g37 g38 g39 g40 g41 g42 g43 g44 g45 g46 g47 g48 g49 g50 g51 g52 g53 g54 g55 g56 g57 g58 g59 g60 g61 g62 g63 g64 g65 g66 g67 g68 g69 g70 g71 g72 g73 g74 g75 g76 g77 g78 g79 : Value}
/-! ### zoetrope/cdf.Average: function 17 -/
noncomputable abbrev P17 (p : List Nat) : Code := subC (codeOf Try.f17) p
noncomputable abbrev O17 (p : List Nat) : Array Oper := opsOf (subC (codeOf Try.f17) p)
theorem b17 : Try.prog.funcs[17]? = some Try.f17 ∧ (Orc.tab Try.prog).lookup 17 = none := ⟨by kernel_rfl, by kernel_rfl⟩
theorem d17 : Try.f17.body = some (P17 []) := by kernel_rfl
theorem t17 {Ax0 : Option Addr} {lx0 cx0 : Nat} : #[.slice Ax0 lx0 cx0] ++ Array.replicate (Try.f17.ntmps - (#[.slice Ax0 lx0 cx0] : Array Value).size) undef = #[.slice Ax0 lx0 cx0,undef,undef,undef,undef,undef,undef,undef,undef,undef,undef,undef,undef,undef,undef,undef,undef,undef,undef,undef,undef,undef,undef,undef,undef,undef,undef,undef,undef,undef,undef,undef,undef,undef,undef,undef,undef,undef,undef,undef,undef,undef,undef,undef,undef,undef,undef,undef,undef,undef,undef,undef,undef,undef,undef,undef,undef,undef,undef,undef,undef,undef,undef,undef,undef,undef,undef,undef,undef,undef,undef,undef,undef,undef,undef,undef,undef] := by kernel_rfl
theorem k17_0 : P17 [] = .seq (P17 [0]) (P17 [1]) := by kernel_rfl
theorem k17_1 : P17 [0] = .region 0 (O17 [0]) false := by kernel_rfl
theorem r17_0 {M : Mem} {call : CallM} {K : Array Value → Mem → R} :
    opsK Try.prog (fun _ => call) (O17 [0]) (O17 [0]).toList 0 #[g0,g1,g2,g3,g4,g5,g6,g7,g8,g9,g10,g11,g12,g13,g14,g15,g16,g17,g18,g19,g20,g21,g22,g23,g24,g25,g26,g27,g28,g29,g30,g31,g32,g33,g34,g35,g36,g37,g38,g39,g40,g41,g42,g43,g44,g45,g46,g47,g48,g49,g50,g51,g52,g53,g54,g55,g56,g57,g58,g59,g60,g61,g62,g63,g64,g65,g66,g67,g68,g69,g70,g71,g72,g73,g74,g75,g76] M K = K #[g0,g1,.pointer (some ⟨2 * M.nb.size, 0, none⟩),.int .i64 0,g4,g5,g6,g7,g8,g9,g10,g11,g12,g13,g14,g15,g16,g17,g18,g19,g20,g21,g22,g23,g24,g25,g26,g27,g28,g29,g30,g31,g32,g33,g34,g35,g36,g37,g38,g39,g40,g41,g42,g43,g44,g45,g46,g47,g48,g49,g50,g51,g52,g53,g54,g55,g56,g57,g58,g59,g60,g61,g62,g63,g64,g65,g66,g67,g68,g69,g70,g71,g72,g73,g74,g75,g76] (M.new (.cells #[.slice none 0 0, .int .i64 0] 24)) := by kernel_rfl
theorem k17_2 : P17 [1] = .seq (P17 [1,0]) (P17 [1,1]) := by kernel_rfl
theorem k17_3 : P17 [1,0] = .seq (P17 [1,0,0]) (P17 [1,0,1]) := by kernel_rfl
theorem k17_4 : P17 [1,0,0] = .region 1 (O17 [1,0,0]) false := by kernel_rfl
theorem r17_1 {Ax0 : Option Addr} {lx0 cx0 : Nat} {M : Mem} {call : CallM} {K : Array Value → Mem → R} :
    opsK Try.prog (fun _ => call) (O17 [1,0,0]) (O17 [1,0,0]).toList 0 #[.slice Ax0 lx0 cx0,g1,g2,g3,g4,g5,g6,g7,g8,g9,g10,g11,g12,g13,g14,g15,g16,g17,g18,g19,g20,g21,g22,g23,g24,g25,g26,g27,g28,g29,g30,g31,g32,g33,g34,g35,g36,g37,g38,g39,g40,g41,g42,g43,g44,g45,g46,g47,g48,g49,g50,g51,g52,g53,g54,g55,g56,g57,g58,g59,g60,g61,g62,g63,g64,g65,g66,g67,g68,g69,g70,g71,g72,g73,g74,g75,g76] M K = K #[.slice Ax0 lx0 cx0,g1,g2,g3,g4,g5,g6,g7,g8,g9,g10,g11,.slice Ax0 lx0 cx0,.int .i64 ((lx0 : Int)),.bool (((lx0 : Int)) == 0),g15,g16,g17,g18,g19,g20,g21,g22,g23,g24,g25,g26,g27,g28,g29,g30,g31,g32,g33,g34,g35,g36,g37,g38,g39,g40,g41,g42,g43,g44,g45,g46,g47,g48,g49,g50,g51,g52,g53,g54,g55,g56,g57,g58,g59,g60,g61,g62,g63,g64,g65,g66,g67,g68,g69,g70,g71,g72,g73,g74,g75,g76] M := by kernel_rfl
theorem c17_5 : P17 [1,0,1] = .cond (.tmp 14) (P17 [1,0,1,0]) (P17 [1,0,1,1]) := by kernel_rfl
theorem k17_6 : P17 [1,0,1,0] = .seq (P17 [1,0,1,0,0]) (P17 [1,0,1,0,1]) := by kernel_rfl
theorem k17_7 : P17 [1,0,1,0,0] = .region 2 (O17 [1,0,1,0,0]) false := by kernel_rfl
theorem r17_2 {x2 : Option Addr} {M : Mem} {call : CallM} {K : Array Value → Mem → R} :
    opsK Try.prog (fun _ => call) (O17 [1,0,1,0,0]) (O17 [1,0,1,0,0]).toList 0 #[g0,g1,.pointer x2,g3,g4,g5,g6,g7,g8,g9,g10,g11,g12,g13,g14,g15,g16,g17,g18,g19,g20,g21,g22,g23,g24,g25,g26,g27,g28,g29,g30,g31,g32,g33,g34,g35,g36,g37,g38,g39,g40,g41,g42,g43,g44,g45,g46,g47,g48,g49,g50,g51,g52,g53,g54,g55,g56,g57,g58,g59,g60,g61,g62,g63,g64,g65,g66,g67,g68,g69,g70,g71,g72,g73,g74,g75,g76] M K = (x2).bind fun a_1 => (M.put a_1.block a_1.off (.slice none 0 0)).bind fun M_2 => (M_2.put a_1.block (a_1.off + 1) (.int .i64 0)).bind fun M_3 => K #[g0,g1,.pointer x2,.int .i64 2,g4,g5,g6,g7,g8,g9,g10,g11,g12,g13,g14,.agg #[.slice none 0 0, .int .i64 0],g16,g17,g18,g19,g20,g21,g22,g23,g24,g25,g26,g27,g28,g29,g30,g31,g32,g33,g34,g35,g36,g37,g38,g39,g40,g41,g42,g43,g44,g45,g46,g47,g48,g49,g50,g51,g52,g53,g54,g55,g56,g57,g58,g59,g60,g61,g62,g63,g64,g65,g66,g67,g68,g69,g70,g71,g72,g73,g74,g75,g76] M_3 := by kernel_rfl
theorem k17_8 : P17 [1,0,1,0,1] = .ret := by kernel_rfl
theorem e17_0 {x2 : Option Addr} {x3 : Int} {M : Mem} {K : List Value → R} : resK Try.prog #[g0,g1,.pointer x2,.int .i64 x3,g4,g5,g6,g7,g8,g9,g10,g11,g12,g13,g14,g15,g16,g17,g18,g19,g20,g21,g22,g23,g24,g25,g26,g27,g28,g29,g30,g31,g32,g33,g34,g35,g36,g37,g38,g39,g40,g41,g42,g43,g44,g45,g46,g47,g48,g49,g50,g51,g52,g53,g54,g55,g56,g57,g58,g59,g60,g61,g62,g63,g64,g65,g66,g67,g68,g69,g70,g71,g72,g73,g74,g75,g76] M (Try.f17).results.toList K = (x2).bind fun a_1 => (M.slAt a_1.block a_1.off).bind fun s_2 => (M.intAt .i64 a_1.block (a_1.off + 1)).bind fun x_3 => K [.agg #[.slice s_2.1 (s_2.2.1) (s_2.2.2), .int .i64 x_3], .int .i64 x3] := by kernel_rfl
theorem k17_10 : P17 [1,0,1,1] = .skip := by kernel_rfl
theorem k17_11 : P17 [1,1] = .seq (P17 [1,1,0]) (P17 [1,1,1]) := by kernel_rfl
theorem k17_12 : P17 [1,1,0] = .region 3 (O17 [1,1,0]) false := by kernel_rfl
theorem r17_3 {Ax0 : Option Addr} {lx0 cx0 : Nat} {M : Mem} {call : CallM} {K : Array Value → Mem → R} :
    opsK Try.prog (fun _ => call) (O17 [1,1,0]) (O17 [1,1,0]).toList 0 #[.slice Ax0 lx0 cx0,g1,g2,g3,g4,g5,g6,g7,g8,g9,g10,g11,g12,g13,g14,g15,g16,g17,g18,g19,g20,g21,g22,g23,g24,g25,g26,g27,g28,g29,g30,g31,g32,g33,g34,g35,g36,g37,g38,g39,g40,g41,g42,g43,g44,g45,g46,g47,g48,g49,g50,g51,g52,g53,g54,g55,g56,g57,g58,g59,g60,g61,g62,g63,g64,g65,g66,g67,g68,g69,g70,g71,g72,g73,g74,g75,g76] M K = (idxA Ax0 lx0 2 0).bind fun a_1 => (M.slAt a_1.block a_1.off).bind fun s_2 => K #[.slice Ax0 lx0 cx0,g1,g2,g3,.int .i64 ((s_2.2.1 : Int)),g5,g6,g7,g8,g9,g10,g11,g12,g13,g14,g15,.slice Ax0 lx0 cx0,.pointer (some a_1),.pointer (some ⟨a_1.block, a_1.off, none⟩),.slice s_2.1 (s_2.2.1) (s_2.2.2),.int .i64 ((s_2.2.1 : Int)),g21,g22,g23,g24,g25,g26,g27,g28,g29,g30,g31,g32,g33,g34,g35,g36,g37,g38,g39,g40,g41,g42,g43,g44,g45,g46,g47,g48,g49,g50,g51,g52,g53,g54,g55,g56,g57,g58,g59,g60,g61,g62,g63,g64,g65,g66,g67,g68,g69,g70,g71,g72,g73,g74,g75,g76] M := by kernel_rfl
theorem k17_13 : P17 [1,1,1] = .seq (P17 [1,1,1,0]) (P17 [1,1,1,1]) := by kernel_rfl
theorem k17_14 : P17 [1,1,1,0] = .seq (P17 [1,1,1,0,0]) (P17 [1,1,1,0,1]) := by kernel_rfl
theorem k17_15 : P17 [1,1,1,0,0] = .region 4 (O17 [1,1,1,0,0]) false := by kernel_rfl
theorem r17_4 {Ax0 : Option Addr} {lx0 cx0 : Nat} {M : Mem} {call : CallM} {K : Array Value → Mem → R} :
    opsK Try.prog (fun _ => call) (O17 [1,1,1,0,0]) (O17 [1,1,1,0,0]).toList 0 #[.slice Ax0 lx0 cx0,g1,g2,g3,g4,g5,g6,g7,g8,g9,g10,g11,g12,g13,g14,g15,g16,g17,g18,g19,g20,g21,g22,g23,g24,g25,g26,g27,g28,g29,g30,g31,g32,g33,g34,g35,g36,g37,g38,g39,g40,g41,g42,g43,g44,g45,g46,g47,g48,g49,g50,g51,g52,g53,g54,g55,g56,g57,g58,g59,g60,g61,g62,g63,g64,g65,g66,g67,g68,g69,g70,g71,g72,g73,g74,g75,g76] M K = K #[.slice Ax0 lx0 cx0,g1,g2,g3,g4,g5,g6,g7,g8,g9,g10,g11,g12,g13,g14,g15,g16,g17,g18,g19,g20,.slice Ax0 lx0 cx0,.int .i64 ((lx0 : Int)),.int .i64 0,g24,g25,g26,g27,g28,g29,g30,g31,g32,g33,g34,g35,g36,g37,g38,g39,g40,g41,g42,g43,g44,g45,g46,g47,g48,g49,g50,g51,g52,g53,g54,g55,g56,g57,g58,g59,g60,g61,g62,g63,g64,g65,g66,g67,g68,g69,g70,g71,g72,g73,g74,g75,g76] M := by kernel_rfl
theorem k17_16 : P17 [1,1,1,0,1] = .block 0 (P17 [1,1,1,0,1,0]) := by kernel_rfl
theorem k17_17 : P17 [1,1,1,0,1,0] = .loop (P17 [1,1,1,0,1,0,0]) := by kernel_rfl
theorem k17_18 : P17 [1,1,1,0,1,0,0] = .seq (P17 [1,1,1,0,1,0,0,0]) (P17 [1,1,1,0,1,0,0,1]) := by kernel_rfl
theorem k17_19 : P17 [1,1,1,0,1,0,0,0] = .region 5 (O17 [1,1,1,0,1,0,0,0]) false := by kernel_rfl
theorem r17_5 {x22 x23 : Int} {M : Mem} {call : CallM} {K : Array Value → Mem → R} :
    opsK Try.prog (fun _ => call) (O17 [1,1,1,0,1,0,0,0]) (O17 [1,1,1,0,1,0,0,0]).toList 0 #[g0,g1,g2,g3,g4,g5,g6,g7,g8,g9,g10,g11,g12,g13,g14,g15,g16,g17,g18,g19,g20,g21,.int .i64 x22,.int .i64 x23,g24,g25,g26,g27,g28,g29,g30,g31,g32,g33,g34,g35,g36,g37,g38,g39,g40,g41,g42,g43,g44,g45,g46,g47,g48,g49,g50,g51,g52,g53,g54,g55,g56,g57,g58,g59,g60,g61,g62,g63,g64,g65,g66,g67,g68,g69,g70,g71,g72,g73,g74,g75,g76] M K = K #[g0,g1,g2,g3,g4,g5,g6,g7,g8,g9,g10,g11,g12,g13,g14,g15,g16,g17,g18,g19,g20,g21,.int .i64 x22,.int .i64 x23,.bool (decide (x23 < x22)),g25,g26,g27,g28,g29,g30,g31,g32,g33,g34,g35,g36,g37,g38,g39,g40,g41,g42,g43,g44,g45,g46,g47,g48,g49,g50,g51,g52,g53,g54,g55,g56,g57,g58,g59,g60,g61,g62,g63,g64,g65,g66,g67,g68,g69,g70,g71,g72,g73,g74,g75,g76] M := by kernel_rfl
theorem k17_20 : P17 [1,1,1,0,1,0,0,1] = .seq (P17 [1,1,1,0,1,0,0,1,0]) (P17 [1,1,1,0,1,0,0,1,1]) := by kernel_rfl
theorem c17_21 : P17 [1,1,1,0,1,0,0,1,0] = .cond (.tmp 24) (P17 [1,1,1,0,1,0,0,1,0,0]) (P17 [1,1,1,0,1,0,0,1,0,1]) := by kernel_rfl
theorem k17_22 : P17 [1,1,1,0,1,0,0,1,0,0] = .skip := by kernel_rfl
theorem k17_23 : P17 [1,1,1,0,1,0,0,1,1] = .seq (P17 [1,1,1,0,1,0,0,1,1,0]) (P17 [1,1,1,0,1,0,0,1,1,1]) := by kernel_rfl
theorem k17_24 : P17 [1,1,1,0,1,0,0,1,1,0] = .block 1 (P17 [1,1,1,0,1,0,0,1,1,0,0]) := by kernel_rfl
theorem k17_25 : P17 [1,1,1,0,1,0,0,1,1,0,0] = .seq (P17 [1,1,1,0,1,0,0,1,1,0,0,0]) (P17 [1,1,1,0,1,0,0,1,1,0,0,1]) := by kernel_rfl
theorem k17_26 : P17 [1,1,1,0,1,0,0,1,1,0,0,0] = .region 6 (O17 [1,1,1,0,1,0,0,1,1,0,0,0]) false := by kernel_rfl
theorem r17_6 {Ax21 : Option Addr} {lx21 cx21 : Nat} {x23 : Int} {M : Mem} {call : CallM} {K : Array Value → Mem → R} :
    opsK Try.prog (fun _ => call) (O17 [1,1,1,0,1,0,0,1,1,0,0,0]) (O17 [1,1,1,0,1,0,0,1,1,0,0,0]).toList 0 #[g0,g1,g2,g3,g4,g5,g6,g7,g8,g9,g10,g11,g12,g13,g14,g15,g16,g17,g18,g19,g20,.slice Ax21 lx21 cx21,g22,.int .i64 x23,g24,g25,g26,g27,g28,g29,g30,g31,g32,g33,g34,g35,g36,g37,g38,g39,g40,g41,g42,g43,g44,g45,g46,g47,g48,g49,g50,g51,g52,g53,g54,g55,g56,g57,g58,g59,g60,g61,g62,g63,g64,g65,g66,g67,g68,g69,g70,g71,g72,g73,g74,g75,g76] M K = (idxA Ax21 lx21 2 x23).bind fun a_1 => (M.slAt a_1.block a_1.off).bind fun s_2 => (M.intAt .i64 a_1.block (a_1.off + 1)).bind fun x_3 => ((M.new (.cells #[.slice none 0 0, .int .i64 0] 24)).put (2 * M.nb.size) 0 (.slice s_2.1 (s_2.2.1) (s_2.2.2))).bind fun M_4 => (M_4.put (2 * M.nb.size) 1 (.int .i64 x_3)).bind fun M_5 => K #[g0,g1,g2,g3,g4,g5,.pointer (some ⟨2 * M.nb.size, 0, none⟩),g7,g8,g9,g10,g11,g12,g13,g14,g15,g16,g17,g18,g19,g20,.slice Ax21 lx21 cx21,g22,.int .i64 x23,g24,.pointer (some a_1),.agg #[.slice s_2.1 (s_2.2.1) (s_2.2.2), .int .i64 x_3],g27,g28,g29,g30,g31,g32,g33,g34,g35,g36,g37,g38,g39,g40,g41,g42,g43,g44,g45,g46,g47,g48,g49,g50,g51,g52,g53,g54,g55,g56,g57,g58,g59,g60,g61,g62,g63,g64,g65,g66,g67,g68,g69,g70,g71,g72,g73,g74,g75,g76] M_5 := by kernel_rfl
theorem k17_27 : P17 [1,1,1,0,1,0,0,1,1,0,0,1] = .seq (P17 [1,1,1,0,1,0,0,1,1,0,0,1,0]) (P17 [1,1,1,0,1,0,0,1,1,0,0,1,1]) := by kernel_rfl
theorem k17_28 : P17 [1,1,1,0,1,0,0,1,1,0,0,1,0] = .region 7 (O17 [1,1,1,0,1,0,0,1,1,0,0,1,0]) false := by kernel_rfl
theorem r17_7 {x4 : Int} {x6 : Option Addr} {M : Mem} {call : CallM} {K : Array Value → Mem → R} :
    opsK Try.prog (fun _ => call) (O17 [1,1,1,0,1,0,0,1,1,0,0,1,0]) (O17 [1,1,1,0,1,0,0,1,1,0,0,1,0]).toList 0 #[g0,g1,g2,g3,.int .i64 x4,g5,.pointer x6,g7,g8,g9,g10,g11,g12,g13,g14,g15,g16,g17,g18,g19,g20,g21,g22,g23,g24,g25,g26,g27,g28,g29,g30,g31,g32,g33,g34,g35,g36,g37,g38,g39,g40,g41,g42,g43,g44,g45,g46,g47,g48,g49,g50,g51,g52,g53,g54,g55,g56,g57,g58,g59,g60,g61,g62,g63,g64,g65,g66,g67,g68,g69,g70,g71,g72,g73,g74,g75,g76] M K = withK (fun w27 w28 w29 w30 w31 w32 w33 w34 w35 w36 M => K #[g0,g1,g2,g3,.int .i64 x4,g5,.pointer x6,g7,g8,g9,g10,g11,g12,g13,g14,g15,g16,g17,g18,g19,g20,g21,g22,g23,g24,g25,g26,w27,w28,w29,w30,w31,w32,w33,w34,w35,w36,g37,g38,g39,g40,g41,g42,g43,g44,g45,g46,g47,g48,g49,g50,g51,g52,g53,g54,g55,g56,g57,g58,g59,g60,g61,g62,g63,g64,g65,g66,g67,g68,g69,g70,g71,g72,g73,g74,g75,g76] M) fun k => (x6).bind fun a_1 => (M.slAt a_1.block a_1.off).bind fun s_2 => (M.intAt .i64 a_1.block (a_1.off + 1)).bind fun x_3 => (call 19 #[.agg #[.slice s_2.1 (s_2.2.1) (s_2.2.2), .int .i64 x_3]] M).bind fun r_4 => (asI .i64 r_4.1).bind fun x_5 => cond (x_5 != 0) (k (.agg #[.slice s_2.1 (s_2.2.1) (s_2.2.2), .int .i64 x_3]) (.int .i64 x_5) (.bool (x_5 != 0)) (.bool true) undef undef undef undef undef (.bool true) r_4.2) ((x6).bind fun a_6 => (r_4.2.slAt a_6.block a_6.off).bind fun s_7 => k (.agg #[.slice s_2.1 (s_2.2.1) (s_2.2.2), .int .i64 x_3]) (.int .i64 x_5) (.bool (x_5 != 0)) (.bool false) (.pointer (some ⟨a_6.block, a_6.off, none⟩)) (.slice s_7.1 (s_7.2.1) (s_7.2.2)) (.int .i64 ((s_7.2.1 : Int))) (.int .i64 x4) (.bool (((s_7.2.1 : Int)) != x4)) (.bool (((s_7.2.1 : Int)) != x4)) r_4.2) := by kernel_rfl
theorem k17_29 : P17 [1,1,1,0,1,0,0,1,0,1] = .exit 0 := by kernel_rfl
theorem k17_30 : P17 [1,1,1,1] = .seq (P17 [1,1,1,1,0]) (P17 [1,1,1,1,1]) := by kernel_rfl
theorem k17_31 : P17 [1,1,1,1,0] = .region 10 (O17 [1,1,1,1,0]) false := by kernel_rfl
theorem r17_10 {x4 : Int} {M : Mem} {call : CallM} {K : Array Value → Mem → R} :
    opsK Try.prog (fun _ => call) (O17 [1,1,1,1,0]) (O17 [1,1,1,1,0]).toList 0 #[g0,g1,g2,g3,.int .i64 x4,g5,g6,g7,g8,g9,g10,g11,g12,g13,g14,g15,g16,g17,g18,g19,g20,g21,g22,g23,g24,g25,g26,g27,g28,g29,g30,g31,g32,g33,g34,g35,g36,g37,g38,g39,g40,g41,g42,g43,g44,g45,g46,g47,g48,g49,g50,g51,g52,g53,g54,g55,g56,g57,g58,g59,g60,g61,g62,g63,g64,g65,g66,g67,g68,g69,g70,g71,g72,g73,g74,g75,g76] M K = (makeP Try.prog 22 (.int .i64 x4) (.int .i64 x4) M).bind fun r_1 => (asS r_1.1).bind fun s_2 => ((r_1.2.new (.cells #[.slice none 0 0, .int .i64 0] 24)).put (2 * r_1.2.nb.size) 0 (.slice s_2.1 (s_2.2.1) (s_2.2.2))).bind fun M_3 => (M_3.put (2 * r_1.2.nb.size) 1 (.int .i64 0)).bind fun M_4 => K #[g0,g1,g2,g3,.int .i64 x4,g5,g6,.pointer (some ⟨2 * r_1.2.nb.size, 0, none⟩),g8,g9,g10,g11,g12,g13,g14,g15,g16,g17,g18,g19,g20,g21,g22,g23,g24,g25,g26,g27,g28,g29,g30,g31,g32,g33,g34,g35,g36,g37,g38,.int .i64 x4,.slice s_2.1 (s_2.2.1) (s_2.2.2),.agg #[.slice s_2.1 (s_2.2.1) (s_2.2.2), .int .i64 0],g42,g43,g44,g45,g46,g47,g48,g49,g50,g51,g52,g53,g54,g55,g56,g57,g58,g59,g60,g61,g62,g63,g64,g65,g66,g67,g68,g69,g70,g71,g72,g73,g74,g75,g76] M_4 := by kernel_rfl
theorem k17_32 : P17 [1,1,1,1,1] = .seq (P17 [1,1,1,1,1,0]) (P17 [1,1,1,1,1,1]) := by kernel_rfl
theorem k17_33 : P17 [1,1,1,1,1,0] = .seq (P17 [1,1,1,1,1,0,0]) (P17 [1,1,1,1,1,0,1]) := by kernel_rfl
theorem k17_34 : P17 [1,1,1,1,1,0,0] = .region 11 (O17 [1,1,1,1,1,0,0]) false := by kernel_rfl
theorem r17_11 {x7 : Option Addr} {M : Mem} {call : CallM} {K : Array Value → Mem → R} :
    opsK Try.prog (fun _ => call) (O17 [1,1,1,1,1,0,0]) (O17 [1,1,1,1,1,0,0]).toList 0 #[g0,g1,g2,g3,g4,g5,g6,.pointer x7,g8,g9,g10,g11,g12,g13,g14,g15,g16,g17,g18,g19,g20,g21,g22,g23,g24,g25,g26,g27,g28,g29,g30,g31,g32,g33,g34,g35,g36,g37,g38,g39,g40,g41,g42,g43,g44,g45,g46,g47,g48,g49,g50,g51,g52,g53,g54,g55,g56,g57,g58,g59,g60,g61,g62,g63,g64,g65,g66,g67,g68,g69,g70,g71,g72,g73,g74,g75,g76] M K = (x7).bind fun a_1 => (M.slAt a_1.block a_1.off).bind fun s_2 => K #[g0,g1,g2,g3,g4,g5,g6,.pointer x7,g8,g9,g10,g11,g12,g13,g14,g15,g16,g17,g18,g19,g20,g21,g22,g23,g24,g25,g26,g27,g28,g29,g30,g31,g32,g33,g34,g35,g36,g37,g38,g39,g40,g41,.pointer (some ⟨a_1.block, a_1.off, none⟩),.slice s_2.1 (s_2.2.1) (s_2.2.2),.int .i64 ((s_2.2.1 : Int)),.int .i64 0,g46,g47,g48,g49,g50,g51,g52,g53,g54,g55,g56,g57,g58,g59,g60,g61,g62,g63,g64,g65,g66,g67,g68,g69,g70,g71,g72,g73,g74,g75,g76] M := by kernel_rfl
theorem k17_35 : P17 [1,1,1,1,1,0,1] = .block 2 (P17 [1,1,1,1,1,0,1,0]) := by kernel_rfl
theorem k17_36 : P17 [1,1,1,1,1,0,1,0] = .loop (P17 [1,1,1,1,1,0,1,0,0]) := by kernel_rfl
theorem c17_37 : P17 [1,1,1,0,1,0,0,1,1,0,0,1,1] = .cond (.tmp 36) (P17 [1,1,1,0,1,0,0,1,1,0,0,1,1,0]) (P17 [1,1,1,0,1,0,0,1,1,0,0,1,1,1]) := by kernel_rfl
theorem k17_38 : P17 [1,1,1,0,1,0,0,1,1,0,0,1,1,0] = .seq (P17 [1,1,1,0,1,0,0,1,1,0,0,1,1,0,0]) (P17 [1,1,1,0,1,0,0,1,1,0,0,1,1,0,1]) := by kernel_rfl
theorem k17_39 : P17 [1,1,1,0,1,0,0,1,1,0,0,1,1,0,0] = .region 8 (O17 [1,1,1,0,1,0,0,1,1,0,0,1,1,0,0]) false := by kernel_rfl
theorem r17_8 {x2 : Option Addr} {M : Mem} {call : CallM} {K : Array Value → Mem → R} :
    opsK Try.prog (fun _ => call) (O17 [1,1,1,0,1,0,0,1,1,0,0,1,1,0,0]) (O17 [1,1,1,0,1,0,0,1,1,0,0,1,1,0,0]).toList 0 #[g0,g1,.pointer x2,g3,g4,g5,g6,g7,g8,g9,g10,g11,g12,g13,g14,g15,g16,g17,g18,g19,g20,g21,g22,g23,g24,g25,g26,g27,g28,g29,g30,g31,g32,g33,g34,g35,g36,g37,g38,g39,g40,g41,g42,g43,g44,g45,g46,g47,g48,g49,g50,g51,g52,g53,g54,g55,g56,g57,g58,g59,g60,g61,g62,g63,g64,g65,g66,g67,g68,g69,g70,g71,g72,g73,g74,g75,g76] M K = (x2).bind fun a_1 => (M.put a_1.block a_1.off (.slice none 0 0)).bind fun M_2 => (M_2.put a_1.block (a_1.off + 1) (.int .i64 0)).bind fun M_3 => K #[g0,g1,.pointer x2,.int .i64 2,g4,g5,g6,g7,g8,g9,g10,g11,g12,g13,g14,g15,g16,g17,g18,g19,g20,g21,g22,g23,g24,g25,g26,g27,g28,g29,g30,g31,g32,g33,g34,g35,g36,.agg #[.slice none 0 0, .int .i64 0],g38,g39,g40,g41,g42,g43,g44,g45,g46,g47,g48,g49,g50,g51,g52,g53,g54,g55,g56,g57,g58,g59,g60,g61,g62,g63,g64,g65,g66,g67,g68,g69,g70,g71,g72,g73,g74,g75,g76] M_3 := by kernel_rfl
theorem k17_40 : P17 [1,1,1,0,1,0,0,1,1,0,0,1,1,0,1] = .ret := by kernel_rfl
theorem k17_41 : P17 [1,1,1,0,1,0,0,1,1,0,0,1,1,1] = .skip := by kernel_rfl
theorem k17_42 : P17 [1,1,1,0,1,0,0,1,1,1] = .region 9 (O17 [1,1,1,0,1,0,0,1,1,1]) false := by kernel_rfl
theorem r17_9 {x23 : Int} {M : Mem} {call : CallM} {K : Array Value → Mem → R} :
    opsK Try.prog (fun _ => call) (O17 [1,1,1,0,1,0,0,1,1,1]) (O17 [1,1,1,0,1,0,0,1,1,1]).toList 0 #[g0,g1,g2,g3,g4,g5,g6,g7,g8,g9,g10,g11,g12,g13,g14,g15,g16,g17,g18,g19,g20,g21,g22,.int .i64 x23,g24,g25,g26,g27,g28,g29,g30,g31,g32,g33,g34,g35,g36,g37,g38,g39,g40,g41,g42,g43,g44,g45,g46,g47,g48,g49,g50,g51,g52,g53,g54,g55,g56,g57,g58,g59,g60,g61,g62,g63,g64,g65,g66,g67,g68,g69,g70,g71,g72,g73,g74,g75,g76] M K = K #[g0,g1,g2,g3,g4,g5,g6,g7,g8,g9,g10,g11,g12,g13,g14,g15,g16,g17,g18,g19,g20,g21,g22,.int .i64 (IntKind.i64.wrap (x23 + 1)),g24,g25,g26,g27,g28,g29,g30,g31,g32,g33,g34,g35,g36,g37,.int .i64 (IntKind.i64.wrap (x23 + 1)),g39,g40,g41,g42,g43,g44,g45,g46,g47,g48,g49,g50,g51,g52,g53,g54,g55,g56,g57,g58,g59,g60,g61,g62,g63,g64,g65,g66,g67,g68,g69,g70,g71,g72,g73,g74,g75,g76] M := by kernel_rfl
theorem k17_43 : P17 [1,1,1,1,1,0,1,0,0] = .seq (P17 [1,1,1,1,1,0,1,0,0,0]) (P17 [1,1,1,1,1,0,1,0,0,1]) := by kernel_rfl
theorem k17_44 : P17 [1,1,1,1,1,0,1,0,0,0] = .region 12 (O17 [1,1,1,1,1,0,1,0,0,0]) false := by kernel_rfl
theorem r17_12 {x44 x45 : Int} {M : Mem} {call : CallM} {K : Array Value → Mem → R} :
    opsK Try.prog (fun _ => call) (O17 [1,1,1,1,1,0,1,0,0,0]) (O17 [1,1,1,1,1,0,1,0,0,0]).toList 0 #[g0,g1,g2,g3,g4,g5,g6,g7,g8,g9,g10,g11,g12,g13,g14,g15,g16,g17,g18,g19,g20,g21,g22,g23,g24,g25,g26,g27,g28,g29,g30,g31,g32,g33,g34,g35,g36,g37,g38,g39,g40,g41,g42,g43,.int .i64 x44,.int .i64 x45,g46,g47,g48,g49,g50,g51,g52,g53,g54,g55,g56,g57,g58,g59,g60,g61,g62,g63,g64,g65,g66,g67,g68,g69,g70,g71,g72,g73,g74,g75,g76] M K = K #[g0,g1,g2,g3,g4,g5,g6,g7,g8,g9,g10,g11,g12,g13,g14,g15,g16,g17,g18,g19,g20,g21,g22,g23,g24,g25,g26,g27,g28,g29,g30,g31,g32,g33,g34,g35,g36,g37,g38,g39,g40,g41,g42,g43,.int .i64 x44,.int .i64 x45,.bool (decide (x45 < x44)),g47,g48,g49,g50,g51,g52,g53,g54,g55,g56,g57,g58,g59,g60,g61,g62,g63,g64,g65,g66,g67,g68,g69,g70,g71,g72,g73,g74,g75,g76] M := by kernel_rfl
theorem k17_45 : P17 [1,1,1,1,1,0,1,0,0,1] = .seq (P17 [1,1,1,1,1,0,1,0,0,1,0]) (P17 [1,1,1,1,1,0,1,0,0,1,1]) := by kernel_rfl
theorem c17_46 : P17 [1,1,1,1,1,0,1,0,0,1,0] = .cond (.tmp 46) (P17 [1,1,1,1,1,0,1,0,0,1,0,0]) (P17 [1,1,1,1,1,0,1,0,0,1,0,1]) := by kernel_rfl
theorem k17_47 : P17 [1,1,1,1,1,0,1,0,0,1,0,0] = .skip := by kernel_rfl
theorem k17_48 : P17 [1,1,1,1,1,0,1,0,0,1,1] = .seq (P17 [1,1,1,1,1,0,1,0,0,1,1,0]) (P17 [1,1,1,1,1,0,1,0,0,1,1,1]) := by kernel_rfl
theorem k17_49 : P17 [1,1,1,1,1,0,1,0,0,1,1,0] = .block 3 (P17 [1,1,1,1,1,0,1,0,0,1,1,0,0]) := by kernel_rfl
theorem k17_50 : P17 [1,1,1,1,1,0,1,0,0,1,1,0,0] = .seq (P17 [1,1,1,1,1,0,1,0,0,1,1,0,0,0]) (P17 [1,1,1,1,1,0,1,0,0,1,1,0,0,1]) := by kernel_rfl
theorem k17_51 : P17 [1,1,1,1,1,0,1,0,0,1,1,0,0,0] = .region 13 (O17 [1,1,1,1,1,0,1,0,0,1,1,0,0,0]) false := by kernel_rfl
theorem r17_13 {x45 : Int} {M : Mem} {call : CallM} {K : Array Value → Mem → R} :
    opsK Try.prog (fun _ => call) (O17 [1,1,1,1,1,0,1,0,0,1,1,0,0,0]) (O17 [1,1,1,1,1,0,1,0,0,1,1,0,0,0]).toList 0 #[g0,g1,g2,g3,g4,g5,g6,g7,g8,g9,g10,g11,g12,g13,g14,g15,g16,g17,g18,g19,g20,g21,g22,g23,g24,g25,g26,g27,g28,g29,g30,g31,g32,g33,g34,g35,g36,g37,g38,g39,g40,g41,g42,g43,g44,.int .i64 x45,g46,g47,g48,g49,g50,g51,g52,g53,g54,g55,g56,g57,g58,g59,g60,g61,g62,g63,g64,g65,g66,g67,g68,g69,g70,g71,g72,g73,g74,g75,g76] M K = K #[g0,g1,g2,g3,g4,g5,g6,g7,.int .i64 x45,g9,g10,g11,g12,g13,g14,g15,g16,g17,g18,g19,g20,g21,g22,g23,g24,g25,g26,g27,g28,g29,g30,g31,g32,g33,g34,g35,g36,g37,g38,g39,g40,g41,g42,g43,g44,.int .i64 x45,g46,.int .i64 x45,g48,g49,g50,g51,g52,g53,g54,g55,g56,g57,g58,g59,g60,g61,g62,g63,g64,g65,g66,g67,g68,g69,g70,g71,g72,g73,g74,g75,g76] M := by kernel_rfl
theorem k17_52 : P17 [1,1,1,1,1,0,1,0,0,1,1,0,0,1] = .seq (P17 [1,1,1,1,1,0,1,0,0,1,1,0,0,1,0]) (P17 [1,1,1,1,1,0,1,0,0,1,1,0,0,1,1]) := by kernel_rfl
theorem k17_53 : P17 [1,1,1,1,1,0,1,0,0,1,1,0,0,1,0] = .region 14 (O17 [1,1,1,1,1,0,1,0,0,1,1,0,0,1,0]) false := by kernel_rfl
theorem r17_14 {Ax0 : Option Addr} {lx0 cx0 : Nat} {M : Mem} {call : CallM} {K : Array Value → Mem → R} :
    opsK Try.prog (fun _ => call) (O17 [1,1,1,1,1,0,1,0,0,1,1,0,0,1,0]) (O17 [1,1,1,1,1,0,1,0,0,1,1,0,0,1,0]).toList 0 #[.slice Ax0 lx0 cx0,g1,g2,g3,g4,g5,g6,g7,g8,g9,g10,g11,g12,g13,g14,g15,g16,g17,g18,g19,g20,g21,g22,g23,g24,g25,g26,g27,g28,g29,g30,g31,g32,g33,g34,g35,g36,g37,g38,g39,g40,g41,g42,g43,g44,g45,g46,g47,g48,g49,g50,g51,g52,g53,g54,g55,g56,g57,g58,g59,g60,g61,g62,g63,g64,g65,g66,g67,g68,g69,g70,g71,g72,g73,g74,g75,g76] M K = K #[.slice Ax0 lx0 cx0,g1,g2,g3,g4,g5,g6,g7,g8,.int .i64 (IntKind.i64.wrap (((lx0 : Int)).tdiv 2)),g10,g11,g12,g13,g14,g15,g16,g17,g18,g19,g20,g21,g22,g23,g24,g25,g26,g27,g28,g29,g30,g31,g32,g33,g34,g35,g36,g37,g38,g39,g40,g41,g42,g43,g44,g45,g46,g47,.slice Ax0 lx0 cx0,.int .i64 ((lx0 : Int)),.int .i64 (IntKind.i64.wrap (((lx0 : Int)).tdiv 2)),g51,g52,g53,g54,g55,g56,g57,g58,g59,g60,g61,g62,g63,g64,g65,g66,g67,g68,g69,g70,g71,g72,g73,g74,g75,g76] M := by kernel_rfl
theorem k17_54 : P17 [1,1,1,1,1,0,1,0,0,1,1,0,0,1,1] = .seq (P17 [1,1,1,1,1,0,1,0,0,1,1,0,0,1,1,0]) (P17 [1,1,1,1,1,0,1,0,0,1,1,0,0,1,1,1]) := by kernel_rfl
theorem k17_55 : P17 [1,1,1,1,1,0,1,0,0,1,1,0,0,1,1,0] = .seq (P17 [1,1,1,1,1,0,1,0,0,1,1,0,0,1,1,0,0]) (P17 [1,1,1,1,1,0,1,0,0,1,1,0,0,1,1,0,1]) := by kernel_rfl
theorem k17_56 : P17 [1,1,1,1,1,0,1,0,0,1,1,0,0,1,1,0,0] = .region 15 (O17 [1,1,1,1,1,0,1,0,0,1,1,0,0,1,1,0,0]) false := by kernel_rfl
theorem r17_15 {Ax0 : Option Addr} {lx0 cx0 : Nat} {M : Mem} {call : CallM} {K : Array Value → Mem → R} :
    opsK Try.prog (fun _ => call) (O17 [1,1,1,1,1,0,1,0,0,1,1,0,0,1,1,0,0]) (O17 [1,1,1,1,1,0,1,0,0,1,1,0,0,1,1,0,0]).toList 0 #[.slice Ax0 lx0 cx0,g1,g2,g3,g4,g5,g6,g7,g8,g9,g10,g11,g12,g13,g14,g15,g16,g17,g18,g19,g20,g21,g22,g23,g24,g25,g26,g27,g28,g29,g30,g31,g32,g33,g34,g35,g36,g37,g38,g39,g40,g41,g42,g43,g44,g45,g46,g47,g48,g49,g50,g51,g52,g53,g54,g55,g56,g57,g58,g59,g60,g61,g62,g63,g64,g65,g66,g67,g68,g69,g70,g71,g72,g73,g74,g75,g76] M K = K #[.slice Ax0 lx0 cx0,g1,g2,g3,g4,g5,g6,g7,g8,g9,g10,g11,g12,g13,g14,g15,g16,g17,g18,g19,g20,g21,g22,g23,g24,g25,g26,g27,g28,g29,g30,g31,g32,g33,g34,g35,g36,g37,g38,g39,g40,g41,g42,g43,g44,g45,g46,g47,g48,g49,g50,.slice Ax0 lx0 cx0,.int .i64 ((lx0 : Int)),.int .i64 0,g54,g55,g56,g57,g58,g59,g60,g61,g62,g63,g64,g65,g66,g67,g68,g69,g70,g71,g72,g73,g74,g75,g76] M := by kernel_rfl
theorem k17_57 : P17 [1,1,1,1,1,0,1,0,0,1,1,0,0,1,1,0,1] = .block 4 (P17 [1,1,1,1,1,0,1,0,0,1,1,0,0,1,1,0,1,0]) := by kernel_rfl
theorem k17_58 : P17 [1,1,1,1,1,0,1,0,0,1,1,0,0,1,1,0,1,0] = .loop (P17 [1,1,1,1,1,0,1,0,0,1,1,0,0,1,1,0,1,0,0]) := by kernel_rfl
theorem k17_59 : P17 [1,1,1,1,1,0,1,0,0,1,0,1] = .exit 2 := by kernel_rfl
theorem k17_60 : P17 [1,1,1,1,1,1] = .seq (P17 [1,1,1,1,1,1,0]) (P17 [1,1,1,1,1,1,1]) := by kernel_rfl
theorem k17_61 : P17 [1,1,1,1,1,1,0] = .region 22 (O17 [1,1,1,1,1,1,0]) false := by kernel_rfl
theorem r17_22 {x2 x7 : Option Addr} {M : Mem} {call : CallM} {K : Array Value → Mem → R} :
    opsK Try.prog (fun _ => call) (O17 [1,1,1,1,1,1,0]) (O17 [1,1,1,1,1,1,0]).toList 0 #[g0,g1,.pointer x2,g3,g4,g5,g6,.pointer x7,g8,g9,g10,g11,g12,g13,g14,g15,g16,g17,g18,g19,g20,g21,g22,g23,g24,g25,g26,g27,g28,g29,g30,g31,g32,g33,g34,g35,g36,g37,g38,g39,g40,g41,g42,g43,g44,g45,g46,g47,g48,g49,g50,g51,g52,g53,g54,g55,g56,g57,g58,g59,g60,g61,g62,g63,g64,g65,g66,g67,g68,g69,g70,g71,g72,g73,g74,g75,g76] M K = (x7).bind fun a_1 => (M.slAt a_1.block a_1.off).bind fun s_2 => (M.intAt .i64 a_1.block (a_1.off + 1)).bind fun x_3 => (x2).bind fun a_4 => (M.put a_4.block a_4.off (.slice s_2.1 (s_2.2.1) (s_2.2.2))).bind fun M_5 => (M_5.put a_4.block (a_4.off + 1) (.int .i64 x_3)).bind fun M_6 => K #[g0,g1,.pointer x2,.int .i64 0,g4,g5,g6,.pointer x7,g8,g9,g10,g11,g12,g13,g14,g15,g16,g17,g18,g19,g20,g21,g22,g23,g24,g25,g26,g27,g28,g29,g30,g31,g32,g33,g34,g35,g36,g37,g38,g39,g40,g41,g42,g43,g44,g45,g46,g47,g48,g49,g50,g51,g52,g53,g54,g55,g56,g57,g58,g59,g60,g61,g62,g63,g64,g65,g66,g67,g68,g69,g70,g71,g72,g73,g74,g75,.agg #[.slice s_2.1 (s_2.2.1) (s_2.2.2), .int .i64 x_3]] M_6 := by kernel_rfl
theorem k17_62 : P17 [1,1,1,1,1,1,1] = .ret := by kernel_rfl
theorem k17_63 : P17 [1,1,1,1,1,0,1,0,0,1,1,0,0,1,1,0,1,0,0] = .seq (P17 [1,1,1,1,1,0,1,0,0,1,1,0,0,1,1,0,1,0,0,0]) (P17 [1,1,1,1,1,0,1,0,0,1,1,0,0,1,1,0,1,0,0,1]) := by kernel_rfl
theorem k17_64 : P17 [1,1,1,1,1,0,1,0,0,1,1,0,0,1,1,0,1,0,0,0] = .region 16 (O17 [1,1,1,1,1,0,1,0,0,1,1,0,0,1,1,0,1,0,0,0]) false := by kernel_rfl
theorem r17_16 {x52 x53 : Int} {M : Mem} {call : CallM} {K : Array Value → Mem → R} :
    opsK Try.prog (fun _ => call) (O17 [1,1,1,1,1,0,1,0,0,1,1,0,0,1,1,0,1,0,0,0]) (O17 [1,1,1,1,1,0,1,0,0,1,1,0,0,1,1,0,1,0,0,0]).toList 0 #[g0,g1,g2,g3,g4,g5,g6,g7,g8,g9,g10,g11,g12,g13,g14,g15,g16,g17,g18,g19,g20,g21,g22,g23,g24,g25,g26,g27,g28,g29,g30,g31,g32,g33,g34,g35,g36,g37,g38,g39,g40,g41,g42,g43,g44,g45,g46,g47,g48,g49,g50,g51,.int .i64 x52,.int .i64 x53,g54,g55,g56,g57,g58,g59,g60,g61,g62,g63,g64,g65,g66,g67,g68,g69,g70,g71,g72,g73,g74,g75,g76] M K = K #[g0,g1,g2,g3,g4,g5,g6,g7,g8,g9,g10,g11,g12,g13,g14,g15,g16,g17,g18,g19,g20,g21,g22,g23,g24,g25,g26,g27,g28,g29,g30,g31,g32,g33,g34,g35,g36,g37,g38,g39,g40,g41,g42,g43,g44,g45,g46,g47,g48,g49,g50,g51,.int .i64 x52,.int .i64 x53,.bool (decide (x53 < x52)),g55,g56,g57,g58,g59,g60,g61,g62,g63,g64,g65,g66,g67,g68,g69,g70,g71,g72,g73,g74,g75,g76] M := by kernel_rfl
theorem k17_65 : P17 [1,1,1,1,1,0,1,0,0,1,1,0,0,1,1,0,1,0,0,1] = .seq (P17 [1,1,1,1,1,0,1,0,0,1,1,0,0,1,1,0,1,0,0,1,0]) (P17 [1,1,1,1,1,0,1,0,0,1,1,0,0,1,1,0,1,0,0,1,1]) := by kernel_rfl
theorem c17_66 : P17 [1,1,1,1,1,0,1,0,0,1,1,0,0,1,1,0,1,0,0,1,0] = .cond (.tmp 54) (P17 [1,1,1,1,1,0,1,0,0,1,1,0,0,1,1,0,1,0,0,1,0,0]) (P17 [1,1,1,1,1,0,1,0,0,1,1,0,0,1,1,0,1,0,0,1,0,1]) := by kernel_rfl
theorem k17_67 : P17 [1,1,1,1,1,0,1,0,0,1,1,0,0,1,1,0,1,0,0,1,0,0] = .skip := by kernel_rfl
theorem k17_68 : P17 [1,1,1,1,1,0,1,0,0,1,1,0,0,1,1,0,1,0,0,1,1] = .seq (P17 [1,1,1,1,1,0,1,0,0,1,1,0,0,1,1,0,1,0,0,1,1,0]) (P17 [1,1,1,1,1,0,1,0,0,1,1,0,0,1,1,0,1,0,0,1,1,1]) := by kernel_rfl
theorem k17_69 : P17 [1,1,1,1,1,0,1,0,0,1,1,0,0,1,1,0,1,0,0,1,1,0] = .block 5 (P17 [1,1,1,1,1,0,1,0,0,1,1,0,0,1,1,0,1,0,0,1,1,0,0]) := by kernel_rfl
theorem k17_70 : P17 [1,1,1,1,1,0,1,0,0,1,1,0,0,1,1,0,1,0,0,1,1,0,0] = .seq (P17 [1,1,1,1,1,0,1,0,0,1,1,0,0,1,1,0,1,0,0,1,1,0,0,0]) (P17 [1,1,1,1,1,0,1,0,0,1,1,0,0,1,1,0,1,0,0,1,1,0,0,1]) := by kernel_rfl
theorem k17_71 : P17 [1,1,1,1,1,0,1,0,0,1,1,0,0,1,1,0,1,0,0,1,1,0,0,0] = .region 17 (O17 [1,1,1,1,1,0,1,0,0,1,1,0,0,1,1,0,1,0,0,1,1,0,0,0]) false := by kernel_rfl
theorem r17_17 {Ax51 : Option Addr} {lx51 cx51 : Nat} {x53 : Int} {M : Mem} {call : CallM} {K : Array Value → Mem → R} :
    opsK Try.prog (fun _ => call) (O17 [1,1,1,1,1,0,1,0,0,1,1,0,0,1,1,0,1,0,0,1,1,0,0,0]) (O17 [1,1,1,1,1,0,1,0,0,1,1,0,0,1,1,0,1,0,0,1,1,0,0,0]).toList 0 #[g0,g1,g2,g3,g4,g5,g6,g7,g8,g9,g10,g11,g12,g13,g14,g15,g16,g17,g18,g19,g20,g21,g22,g23,g24,g25,g26,g27,g28,g29,g30,g31,g32,g33,g34,g35,g36,g37,g38,g39,g40,g41,g42,g43,g44,g45,g46,g47,g48,g49,g50,.slice Ax51 lx51 cx51,g52,.int .i64 x53,g54,g55,g56,g57,g58,g59,g60,g61,g62,g63,g64,g65,g66,g67,g68,g69,g70,g71,g72,g73,g74,g75,g76] M K = (idxA Ax51 lx51 2 x53).bind fun a_1 => (M.slAt a_1.block a_1.off).bind fun s_2 => (M.intAt .i64 a_1.block (a_1.off + 1)).bind fun x_3 => ((M.new (.cells #[.slice none 0 0, .int .i64 0] 24)).put (2 * M.nb.size) 0 (.slice s_2.1 (s_2.2.1) (s_2.2.2))).bind fun M_4 => (M_4.put (2 * M.nb.size) 1 (.int .i64 x_3)).bind fun M_5 => K #[g0,g1,g2,g3,g4,g5,g6,g7,g8,g9,g10,.pointer (some ⟨2 * M.nb.size, 0, none⟩),g12,g13,g14,g15,g16,g17,g18,g19,g20,g21,g22,g23,g24,g25,g26,g27,g28,g29,g30,g31,g32,g33,g34,g35,g36,g37,g38,g39,g40,g41,g42,g43,g44,g45,g46,g47,g48,g49,g50,.slice Ax51 lx51 cx51,g52,.int .i64 x53,g54,.pointer (some a_1),.agg #[.slice s_2.1 (s_2.2.1) (s_2.2.2), .int .i64 x_3],g57,g58,g59,g60,g61,g62,g63,g64,g65,g66,g67,g68,g69,g70,g71,g72,g73,g74,g75,g76] M_5 := by kernel_rfl
theorem k17_72 : P17 [1,1,1,1,1,0,1,0,0,1,1,0,0,1,1,0,1,0,0,1,1,0,0,1] = .region 18 (O17 [1,1,1,1,1,0,1,0,0,1,1,0,0,1,1,0,1,0,0,1,1,0,0,1]) false := by kernel_rfl
theorem r17_18 {x8 x9 : Int} {x11 : Option Addr} {M : Mem} {call : CallM} {K : Array Value → Mem → R} :
    opsK Try.prog (fun _ => call) (O17 [1,1,1,1,1,0,1,0,0,1,1,0,0,1,1,0,1,0,0,1,1,0,0,1]) (O17 [1,1,1,1,1,0,1,0,0,1,1,0,0,1,1,0,1,0,0,1,1,0,0,1]).toList 0 #[g0,g1,g2,g3,g4,g5,g6,g7,.int .i64 x8,.int .i64 x9,g10,.pointer x11,g12,g13,g14,g15,g16,g17,g18,g19,g20,g21,g22,g23,g24,g25,g26,g27,g28,g29,g30,g31,g32,g33,g34,g35,g36,g37,g38,g39,g40,g41,g42,g43,g44,g45,g46,g47,g48,g49,g50,g51,g52,g53,g54,g55,g56,g57,g58,g59,g60,g61,g62,g63,g64,g65,g66,g67,g68,g69,g70,g71,g72,g73,g74,g75,g76] M K = (x11).bind fun a_1 => (M.slAt a_1.block a_1.off).bind fun s_2 => (idxA s_2.1 (s_2.2.1) 1 x8).bind fun a_3 => (M.intAt .u16 a_3.block a_3.off).bind fun x_4 => K #[g0,g1,g2,g3,g4,g5,g6,g7,.int .i64 x8,.int .i64 (IntKind.i64.wrap (x9 + (IntKind.i64.wrap (x_4)))),g10,.pointer x11,g12,g13,g14,g15,g16,g17,g18,g19,g20,g21,g22,g23,g24,g25,g26,g27,g28,g29,g30,g31,g32,g33,g34,g35,g36,g37,g38,g39,g40,g41,g42,g43,g44,g45,g46,g47,g48,g49,g50,g51,g52,g53,g54,g55,g56,.int .i64 x9,.pointer (some ⟨a_1.block, a_1.off, none⟩),.slice s_2.1 (s_2.2.1) (s_2.2.2),.int .i64 x8,.pointer (some a_3),.int .u16 x_4,.int .i64 (IntKind.i64.wrap (x_4)),.int .i64 (IntKind.i64.wrap (x9 + (IntKind.i64.wrap (x_4)))),g65,g66,g67,g68,g69,g70,g71,g72,g73,g74,g75,g76] M := by kernel_rfl
theorem k17_73 : P17 [1,1,1,1,1,0,1,0,0,1,1,0,0,1,1,0,1,0,0,1,1,1] = .region 19 (O17 [1,1,1,1,1,0,1,0,0,1,1,0,0,1,1,0,1,0,0,1,1,1]) false := by kernel_rfl
theorem r17_19 {x53 : Int} {M : Mem} {call : CallM} {K : Array Value → Mem → R} :
    opsK Try.prog (fun _ => call) (O17 [1,1,1,1,1,0,1,0,0,1,1,0,0,1,1,0,1,0,0,1,1,1]) (O17 [1,1,1,1,1,0,1,0,0,1,1,0,0,1,1,0,1,0,0,1,1,1]).toList 0 #[g0,g1,g2,g3,g4,g5,g6,g7,g8,g9,g10,g11,g12,g13,g14,g15,g16,g17,g18,g19,g20,g21,g22,g23,g24,g25,g26,g27,g28,g29,g30,g31,g32,g33,g34,g35,g36,g37,g38,g39,g40,g41,g42,g43,g44,g45,g46,g47,g48,g49,g50,g51,g52,.int .i64 x53,g54,g55,g56,g57,g58,g59,g60,g61,g62,g63,g64,g65,g66,g67,g68,g69,g70,g71,g72,g73,g74,g75,g76] M K = K #[g0,g1,g2,g3,g4,g5,g6,g7,g8,g9,g10,g11,g12,g13,g14,g15,g16,g17,g18,g19,g20,g21,g22,g23,g24,g25,g26,g27,g28,g29,g30,g31,g32,g33,g34,g35,g36,g37,g38,g39,g40,g41,g42,g43,g44,g45,g46,g47,g48,g49,g50,g51,g52,.int .i64 (IntKind.i64.wrap (x53 + 1)),g54,g55,g56,g57,g58,g59,g60,g61,g62,g63,g64,.int .i64 (IntKind.i64.wrap (x53 + 1)),g66,g67,g68,g69,g70,g71,g72,g73,g74,g75,g76] M := by kernel_rfl
theorem k17_74 : P17 [1,1,1,1,1,0,1,0,0,1,1,0,0,1,1,0,1,0,0,1,0,1] = .exit 4 := by kernel_rfl
theorem k17_75 : P17 [1,1,1,1,1,0,1,0,0,1,1,0,0,1,1,1] = .region 20 (O17 [1,1,1,1,1,0,1,0,0,1,1,0,0,1,1,1]) true ∧ drawOk (O17 [1,1,1,1,1,0,1,0,0,1,1,0,0,1,1,1]) = true := ⟨by kernel_rfl, by kernel_rfl⟩
theorem r17_20 {Ax0 : Option Addr} {lx0 cx0 : Nat} {x7 : Option Addr} {x8 x9 : Int} {M : Mem} {call : CallM} {K : Array Value → Mem → R} :
    opsI Try.prog (callAt call (O17 [1,1,1,1,1,0,1,0,0,1,1,0,0,1,1,1])) (O17 [1,1,1,1,1,0,1,0,0,1,1,0,0,1,1,1]) (ordOf (O17 [1,1,1,1,1,0,1,0,0,1,1,0,0,1,1,1])) [] #[.slice Ax0 lx0 cx0,g1,g2,g3,g4,g5,g6,.pointer x7,.int .i64 x8,.int .i64 x9,g10,g11,g12,g13,g14,g15,g16,g17,g18,g19,g20,g21,g22,g23,g24,g25,g26,g27,g28,g29,g30,g31,g32,g33,g34,g35,g36,g37,g38,g39,g40,g41,g42,g43,g44,g45,g46,g47,g48,g49,g50,g51,g52,g53,g54,g55,g56,g57,g58,g59,g60,g61,g62,g63,g64,g65,g66,g67,g68,g69,g70,g71,g72,g73,g74,g75,g76] M K = (x7).bind fun a_1 => (M.slAt a_1.block a_1.off).bind fun s_2 => (binV Try.prog .quo 3 3 (.int .i64 x9) (.int .i64 ((lx0 : Int)))).bind fun v_3 => (asI .i64 v_3).bind fun x_4 => (idxA s_2.1 (s_2.2.1) 1 x8).bind fun a_5 => (M.put a_5.block a_5.off (.int .u16 (IntKind.u16.wrap (x_4)))).bind fun M_6 => K #[.slice Ax0 lx0 cx0,g1,g2,g3,g4,g5,g6,.pointer x7,.int .i64 x8,.int .i64 x9,g10,g11,g12,g13,g14,g15,g16,g17,g18,g19,g20,g21,g22,g23,g24,g25,g26,g27,g28,g29,g30,g31,g32,g33,g34,g35,g36,g37,g38,g39,g40,g41,g42,g43,g44,g45,g46,g47,g48,g49,g50,g51,g52,g53,g54,g55,g56,g57,g58,g59,g60,g61,g62,g63,g64,g65,.pointer (some ⟨a_1.block, a_1.off, none⟩),.slice s_2.1 (s_2.2.1) (s_2.2.2),.int .i64 x8,.int .i64 x9,.slice Ax0 lx0 cx0,.int .i64 ((lx0 : Int)),.int .i64 x_4,.int .u16 (IntKind.u16.wrap (x_4)),.pointer (some a_5),g75,g76] M_6 := by kernel_rfl
theorem k17_76 : P17 [1,1,1,1,1,0,1,0,0,1,1,1] = .region 21 (O17 [1,1,1,1,1,0,1,0,0,1,1,1]) false := by kernel_rfl
theorem r17_21 {x45 : Int} {M : Mem} {call : CallM} {K : Array Value → Mem → R} :
    opsK Try.prog (fun _ => call) (O17 [1,1,1,1,1,0,1,0,0,1,1,1]) (O17 [1,1,1,1,1,0,1,0,0,1,1,1]).toList 0 #[g0,g1,g2,g3,g4,g5,g6,g7,g8,g9,g10,g11,g12,g13,g14,g15,g16,g17,g18,g19,g20,g21,g22,g23,g24,g25,g26,g27,g28,g29,g30,g31,g32,g33,g34,g35,g36,g37,g38,g39,g40,g41,g42,g43,g44,.int .i64 x45,g46,g47,g48,g49,g50,g51,g52,g53,g54,g55,g56,g57,g58,g59,g60,g61,g62,g63,g64,g65,g66,g67,g68,g69,g70,g71,g72,g73,g74,g75,g76] M K = K #[g0,g1,g2,g3,g4,g5,g6,g7,g8,g9,g10,g11,g12,g13,g14,g15,g16,g17,g18,g19,g20,g21,g22,g23,g24,g25,g26,g27,g28,g29,g30,g31,g32,g33,g34,g35,g36,g37,g38,g39,g40,g41,g42,g43,g44,.int .i64 (IntKind.i64.wrap (x45 + 1)),g46,g47,g48,g49,g50,g51,g52,g53,g54,g55,g56,g57,g58,g59,g60,g61,g62,g63,g64,g65,g66,g67,g68,g69,g70,g71,g72,g73,g74,.int .i64 (IntKind.i64.wrap (x45 + 1)),g76] M := by kernel_rfl
noncomputable def S17_1 : List Item := [.code (P17 [1,1,1,0,1,0,0]), .inLoop (P17 [1,1,1,0,1,0,0]), .inBlock 0, .code (P17 [1,1,1,1])]
def A17_1 (Ax0 : Option Addr) (lx0 cx0 : Nat) (x2 : Option Addr) (x4 : Int) (Ax21 : Option Addr) (lx21 cx21 : Nat) (x22 x23 : Int) (M : Mem) (Q : Value → Mem → Prop) : Prop := ∀ (g1 g3 g5 g6 g7 g8 g9 g10 g11 g12 g13 g14 g15 g16 g17 g18 g19 g20 g24 g25 g26 g27 g28 g29 g30 g31 g32 g33 g34 g35 g36 g37 g38 g39 g40 g41 g42 g43 g44 g45 g46 g47 g48 g49 g50 g51 g52 g53 g54 g55 g56 g57 g58 g59 g60 g61 g62 g63 g64 g65 g66 g67 g68 g69 g70 g71 g72 g73 g74 g75 g76 : Value), Rn Try.prog Try.f17 S17_1 #[.slice Ax0 lx0 cx0, g1, .pointer x2, g3, .int .i64 x4, g5, g6, g7, g8, g9, g10, g11, g12, g13, g14, g15, g16, g17, g18, g19, g20, .slice Ax21 lx21 cx21, .int .i64 x22, .int .i64 x23, g24, g25, g26, g27, g28, g29, g30, g31, g32, g33, g34, g35, g36, g37, g38, g39, g40, g41, g42, g43, g44, g45, g46, g47, g48, g49, g50, g51, g52, g53, g54, g55, g56, g57, g58, g59, g60, g61, g62, g63, g64, g65, g66, g67, g68, g69, g70, g71, g72, g73, g74, g75, g76] M Q
noncomputable def S17_2 : List Item := [.code (P17 [1,1,1,0,1,0,0,1,1,0,0,1,1]), .inBlock 1, .code (P17 [1,1,1,0,1,0,0,1,1,1]), .inLoop (P17 [1,1,1,0,1,0,0]), .inBlock 0, .code (P17 [1,1,1,1])]
def A17_2 (Ax0 : Option Addr) (lx0 cx0 : Nat) (x2 : Option Addr) (x4 : Int) (Ax21 : Option Addr) (lx21 cx21 : Nat) (x22 x23 : Int) (x36 : Bool) (M : Mem) (Q : Value → Mem → Prop) : Prop := ∀ (g1 g3 g5 g6 g7 g8 g9 g10 g11 g12 g13 g14 g15 g16 g17 g18 g19 g20 g24 g25 g26 g27 g28 g29 g30 g31 g32 g33 g34 g35 g37 g38 g39 g40 g41 g42 g43 g44 g45 g46 g47 g48 g49 g50 g51 g52 g53 g54 g55 g56 g57 g58 g59 g60 g61 g62 g63 g64 g65 g66 g67 g68 g69 g70 g71 g72 g73 g74 g75 g76 : Value), Rn Try.prog Try.f17 S17_2 #[.slice Ax0 lx0 cx0, g1, .pointer x2, g3, .int .i64 x4, g5, g6, g7, g8, g9, g10, g11, g12, g13, g14, g15, g16, g17, g18, g19, g20, .slice Ax21 lx21 cx21, .int .i64 x22, .int .i64 x23, g24, g25, g26, g27, g28, g29, g30, g31, g32, g33, g34, g35, .bool x36, g37, g38, g39, g40, g41, g42, g43, g44, g45, g46, g47, g48, g49, g50, g51, g52, g53, g54, g55, g56, g57, g58, g59, g60, g61, g62, g63, g64, g65, g66, g67, g68, g69, g70, g71, g72, g73, g74, g75, g76] M Q
noncomputable def S17_3 : List Item := [.code (P17 [1,1,1,1,1,0,1,0,0]), .inLoop (P17 [1,1,1,1,1,0,1,0,0]), .inBlock 2, .code (P17 [1,1,1,1,1,1])]
def A17_3 (Ax0 : Option Addr) (lx0 cx0 : Nat) (x2 x7 : Option Addr) (x44 x45 : Int) (M : Mem) (Q : Value → Mem → Prop) : Prop := ∀ (g1 g3 g4 g5 g6 g8 g9 g10 g11 g12 g13 g14 g15 g16 g17 g18 g19 g20 g21 g22 g23 g24 g25 g26 g27 g28 g29 g30 g31 g32 g33 g34 g35 g36 g37 g38 g39 g40 g41 g42 g43 g46 g47 g48 g49 g50 g51 g52 g53 g54 g55 g56 g57 g58 g59 g60 g61 g62 g63 g64 g65 g66 g67 g68 g69 g70 g71 g72 g73 g74 g75 g76 : Value), Rn Try.prog Try.f17 S17_3 #[.slice Ax0 lx0 cx0, g1, .pointer x2, g3, g4, g5, g6, .pointer x7, g8, g9, g10, g11, g12, g13, g14, g15, g16, g17, g18, g19, g20, g21, g22, g23, g24, g25, g26, g27, g28, g29, g30, g31, g32, g33, g34, g35, g36, g37, g38, g39, g40, g41, g42, g43, .int .i64 x44, .int .i64 x45, g46, g47, g48, g49, g50, g51, g52, g53, g54, g55, g56, g57, g58, g59, g60, g61, g62, g63, g64, g65, g66, g67, g68, g69, g70, g71, g72, g73, g74, g75, g76] M Q
noncomputable def S17_4 : List Item := [.code (P17 [1,1,1,1,1,0,1,0,0,1,1,0,0,1,1,0,1,0,0]), .inLoop (P17 [1,1,1,1,1,0,1,0,0,1,1,0,0,1,1,0,1,0,0]), .inBlock 4, .code (P17 [1,1,1,1,1,0,1,0,0,1,1,0,0,1,1,1]), .inBlock 3, .code (P17 [1,1,1,1,1,0,1,0,0,1,1,1]), .inLoop (P17 [1,1,1,1,1,0,1,0,0]), .inBlock 2, .code (P17 [1,1,1,1,1,1])]
def A17_4 (Ax0 : Option Addr) (lx0 cx0 : Nat) (x2 x7 : Option Addr) (x8 x9 x44 x45 : Int) (Ax51 : Option Addr) (lx51 cx51 : Nat) (x52 x53 : Int) (M : Mem) (Q : Value → Mem → Prop) : Prop := ∀ (g1 g3 g4 g5 g6 g10 g11 g12 g13 g14 g15 g16 g17 g18 g19 g20 g21 g22 g23 g24 g25 g26 g27 g28 g29 g30 g31 g32 g33 g34 g35 g36 g37 g38 g39 g40 g41 g42 g43 g46 g47 g48 g49 g50 g54 g55 g56 g57 g58 g59 g60 g61 g62 g63 g64 g65 g66 g67 g68 g69 g70 g71 g72 g73 g74 g75 g76 : Value), Rn Try.prog Try.f17 S17_4 #[.slice Ax0 lx0 cx0, g1, .pointer x2, g3, g4, g5, g6, .pointer x7, .int .i64 x8, .int .i64 x9, g10, g11, g12, g13, g14, g15, g16, g17, g18, g19, g20, g21, g22, g23, g24, g25, g26, g27, g28, g29, g30, g31, g32, g33, g34, g35, g36, g37, g38, g39, g40, g41, g42, g43, .int .i64 x44, .int .i64 x45, g46, g47, g48, g49, g50, .slice Ax51 lx51 cx51, .int .i64 x52, .int .i64 x53, g54, g55, g56, g57, g58, g59, g60, g61, g62, g63, g64, g65, g66, g67, g68, g69, g70, g71, g72, g73, g74, g75, g76] M Q
theorem w17_0 {Ax0 : Option Addr} {lx0 cx0 : Nat} {M : Mem} {Q : Value → Mem → Prop} (H :
    ((((lx0 : Int)) = 0 →
     ∃ M1', (M.new (.cells #[.slice none 0 0, .int .i64 0] 24)).put (2 * M.nb.size) 0 (.slice none 0 0) = some M1' ∧
     ∃ M2', M1'.put (2 * M.nb.size) (0 + 1) (.int .i64 0) = some M2' ∧
     ∃ s3', M2'.slAt (2 * M.nb.size) 0 = some s3' ∧
     ∃ x4', M2'.intAt .i64 (2 * M.nb.size) (0 + 1) = some x4' ∧
     Q (.tuple #[.agg #[.slice s3'.1 (s3'.2.1) (s3'.2.2), .int .i64 (x4')], .int .i64 2]) M2') ∧
     (((lx0 : Int)) ≠ 0 →
     ∃ a5', idxA Ax0 lx0 2 0 = some a5' ∧
     ∃ s6', (M.new (.cells #[.slice none 0 0, .int .i64 0] 24)).slAt a5'.block a5'.off = some s6' ∧
     A17_1 Ax0 lx0 cx0 (some ⟨2 * M.nb.size, 0, none⟩) (s6'.2.1 : Int) Ax0 lx0 cx0 (lx0 : Int) 0 (M.new (.cells #[.slice none 0 0, .int .i64 0] 24)) Q))) :
    Cn Try.prog 17 #[.slice Ax0 lx0 cx0] M Q := by
  refine Cn.of b17 d17 t17 ?_
  refine Rn.seq k17_0 (Rn.region k17_1 (fun call K => r17_0) (Rch.leaf (Rn.seq k17_2 (Rn.seq k17_3 (Rn.region k17_4 (fun call K => r17_1) (Rch.leaf ?_))))))
  refine Rn.cnd (v := ((lx0 : Int)) == 0) ⟨c17_5, rfl, by kernel_rfl⟩ (fun h => ?_) (fun h => ?_)
  · replace H := H.1 (eq_of_beq h)
    refine Rn.seq k17_6 (Rn.region k17_7 (fun call K => r17_2) (Rch.bind (x := ⟨2 * M.nb.size, 0, none⟩) rfl (Rch.ex H fun M1' H => Rch.ex H fun M2' H => Rch.leaf (Rn.retK k17_8 (fun K => e17_0) (Rch.bind (x := ⟨2 * M.nb.size, 0, none⟩) rfl (Rch.ex H fun s3' H => Rch.ex H fun x4' H => ?_))))))
    exact Rch.fin H
  · replace H := H.2 (ne_of_beq_false h)
    refine Rn.skip k17_10 (Rn.seq k17_11 (Rn.region k17_12 (fun call K => r17_3) (Rch.ex H fun a5' H => Rch.ex H fun s6' H => Rch.leaf (Rn.seq k17_13 (Rn.seq k17_14 (Rn.region k17_15 (fun call K => r17_4) (Rch.leaf (Rn.block k17_16 (Rn.loop k17_17 ?_)))))))))
    exact H _ _ _ _ _ _ _ _ _ _ _ _ _ _ _ _ _ _ _ _ _ _ _ _ _ _ _ _ _ _ _ _ _ _ _ _ _ _ _ _ _ _ _ _ _ _ _ _ _ _ _ _ _ _ _ _ _ _ _ _ _ _ _ _ _ _ _ _ _ _ _

theorem w17_1 {Ax0 : Option Addr} {lx0 cx0 : Nat} {x2 : Option Addr} {x4 : Int} {Ax21 : Option Addr} {lx21 cx21 : Nat} {x22 x23 : Int} {M : Mem} {Q : Value → Mem → Prop} (H :
    ((x23 < x22 →
     ∃ a7', idxA Ax21 lx21 2 x23 = some a7' ∧
     ∃ s8', M.slAt a7'.block a7'.off = some s8' ∧
     ∃ x9', M.intAt .i64 a7'.block (a7'.off + 1) = some x9' ∧
     ∃ M10', (M.new (.cells #[.slice none 0 0, .int .i64 0] 24)).put (2 * M.nb.size) 0 (.slice s8'.1 (s8'.2.1) (s8'.2.2)) = some M10' ∧
     ∃ M11', M10'.put (2 * M.nb.size) 1 (.int .i64 x9') = some M11' ∧
     ∃ s12', M11'.slAt (2 * M.nb.size) 0 = some s12' ∧
     ∃ x13', M11'.intAt .i64 (2 * M.nb.size) (0 + 1) = some x13' ∧
     Cn Try.prog 19 #[.agg #[.slice s12'.1 (s12'.2.1) (s12'.2.2), .int .i64 x13']] M11' fun v14' N14' =>
      ∃ x15', asI .i64 v14' = some x15' ∧
      ((x15' ≠ 0 →
       A17_2 Ax0 lx0 cx0 x2 x4 Ax21 lx21 cx21 x22 x23 true N14' Q) ∧
       (x15' = 0 →
       ∃ s16', N14'.slAt (2 * M.nb.size) 0 = some s16' ∧
       A17_2 Ax0 lx0 cx0 x2 x4 Ax21 lx21 cx21 x22 x23 (((s16'.2.1 : Int)) != x4) N14' Q))) ∧
     (¬ (x23 < x22) →
     ∃ r17', makeP Try.prog 22 (.int .i64 x4) (.int .i64 x4) M = some r17' ∧
     ∃ s18', asS r17'.1 = some s18' ∧
     ∃ M19', (r17'.2.new (.cells #[.slice none 0 0, .int .i64 0] 24)).put (2 * r17'.2.nb.size) 0 (.slice s18'.1 (s18'.2.1) (s18'.2.2)) = some M19' ∧
     ∃ M20', M19'.put (2 * r17'.2.nb.size) 1 (.int .i64 0) = some M20' ∧
     ∃ s21', M20'.slAt (2 * r17'.2.nb.size) 0 = some s21' ∧
     A17_3 Ax0 lx0 cx0 x2 (some ⟨2 * r17'.2.nb.size, 0, none⟩) (s21'.2.1 : Int) 0 M20' Q))) :
    A17_1 Ax0 lx0 cx0 x2 x4 Ax21 lx21 cx21 x22 x23 M Q := by
  intro g1 g3 g5 g6 g7 g8 g9 g10 g11 g12 g13 g14 g15 g16 g17 g18 g19 g20 g24 g25 g26 g27 g28 g29 g30 g31 g32 g33 g34 g35 g36 g37 g38 g39 g40 g41 g42 g43 g44 g45 g46 g47 g48 g49 g50 g51 g52 g53 g54 g55 g56 g57 g58 g59 g60 g61 g62 g63 g64 g65 g66 g67 g68 g69 g70 g71 g72 g73 g74 g75 g76
  refine Rn.seq k17_18 (Rn.region k17_19 (fun call K => r17_5) (Rch.leaf (Rn.seq k17_20 ?_)))
  refine Rn.cnd (v := decide (x23 < x22)) ⟨c17_21, rfl, by kernel_rfl⟩ (fun h => ?_) (fun h => ?_)
  · replace H := H.1 (of_decide_eq_true h)
    refine Rn.skip k17_22 (Rn.seq k17_23 (Rn.block k17_24 (Rn.seq k17_25 (Rn.region k17_26 (fun call K => r17_6) (Rch.ex H fun a7' H => Rch.ex H fun s8' H => Rch.ex H fun x9' H => Rch.ex H fun M10' H => Rch.ex H fun M11' H => Rch.leaf (Rn.seq k17_27 ?_))))))
    refine Rn.region k17_28 (fun call K => r17_7) (Rch.bind (x := ⟨2 * M.nb.size, 0, none⟩) rfl (Rch.ex H fun s12' H => Rch.ex H fun x13' H => Rch.call H fun v14' N14' H => Rch.ex H fun x15' H => ?_))
    refine Rch.cB (fun h => ?_) (fun h => ?_)
    · replace H := H.1 (ne_of_bneT h)
      refine Rch.leaf ?_
      exact H _ _ _ _ _ _ _ _ _ _ _ _ _ _ _ _ _ _ _ _ _ _ _ _ _ _ _ _ _ _ _ _ _ _ _ _ _ _ _ _ _ _ _ _ _ _ _ _ _ _ _ _ _ _ _ _ _ _ _ _ _ _ _ _ _ _ _ _ _ _
    · replace H := H.2 (eq_of_bneF h)
      refine Rch.bind (x := ⟨2 * M.nb.size, 0, none⟩) rfl (Rch.ex H fun s16' H => Rch.leaf ?_)
      exact H _ _ _ _ _ _ _ _ _ _ _ _ _ _ _ _ _ _ _ _ _ _ _ _ _ _ _ _ _ _ _ _ _ _ _ _ _ _ _ _ _ _ _ _ _ _ _ _ _ _ _ _ _ _ _ _ _ _ _ _ _ _ _ _ _ _ _ _ _ _
  · replace H := H.2 (of_decide_eq_false h)
    refine Rn.exit k17_29 rfl (Rn.seq k17_30 (Rn.region k17_31 (fun call K => r17_10) (Rch.ex H fun r17' H => Rch.ex H fun s18' H => Rch.ex H fun M19' H => Rch.ex H fun M20' H => Rch.leaf (Rn.seq k17_32 (Rn.seq k17_33 (Rn.region k17_34 (fun call K => r17_11) (Rch.bind (x := ⟨2 * r17'.2.nb.size, 0, none⟩) rfl ?_)))))))
    refine Rch.ex H fun s21' H => Rch.leaf (Rn.block k17_35 (Rn.loop k17_36 ?_))
    exact H _ _ _ _ _ _ _ _ _ _ _ _ _ _ _ _ _ _ _ _ _ _ _ _ _ _ _ _ _ _ _ _ _ _ _ _ _ _ _ _ _ _ _ _ _ _ _ _ _ _ _ _ _ _ _ _ _ _ _ _ _ _ _ _ _ _ _ _ _ _ _ _

theorem w17_2 {Ax0 : Option Addr} {lx0 cx0 : Nat} {x2 : Option Addr} {x4 : Int} {Ax21 : Option Addr} {lx21 cx21 : Nat} {x22 x23 : Int} {x36 : Bool} {M : Mem} {Q : Value → Mem → Prop} (H :
    ((x36 = true →
     ∃ a22', x2 = some a22' ∧
     ∃ M23', M.put a22'.block a22'.off (.slice none 0 0) = some M23' ∧
     ∃ M24', M23'.put a22'.block (a22'.off + 1) (.int .i64 0) = some M24' ∧
     ∃ a25', x2 = some a25' ∧
     ∃ s26', M24'.slAt a25'.block a25'.off = some s26' ∧
     ∃ x27', M24'.intAt .i64 a25'.block (a25'.off + 1) = some x27' ∧
     Q (.tuple #[.agg #[.slice s26'.1 (s26'.2.1) (s26'.2.2), .int .i64 (x27')], .int .i64 2]) M24') ∧
     (x36 = false →
     A17_1 Ax0 lx0 cx0 x2 x4 Ax21 lx21 cx21 x22 (IntKind.i64.wrap (x23 + 1)) M Q))) :
    A17_2 Ax0 lx0 cx0 x2 x4 Ax21 lx21 cx21 x22 x23 x36 M Q := by
  intro g1 g3 g5 g6 g7 g8 g9 g10 g11 g12 g13 g14 g15 g16 g17 g18 g19 g20 g24 g25 g26 g27 g28 g29 g30 g31 g32 g33 g34 g35 g37 g38 g39 g40 g41 g42 g43 g44 g45 g46 g47 g48 g49 g50 g51 g52 g53 g54 g55 g56 g57 g58 g59 g60 g61 g62 g63 g64 g65 g66 g67 g68 g69 g70 g71 g72 g73 g74 g75 g76
  refine Rn.cnd (v := x36) ⟨c17_37, rfl, by kernel_rfl⟩ (fun h => ?_) (fun h => ?_)
  · replace H := H.1 (h)
    refine Rn.seq k17_38 (Rn.region k17_39 (fun call K => r17_8) (Rch.ex H fun a22' H => Rch.ex H fun M23' H => Rch.ex H fun M24' H => Rch.leaf (Rn.retK k17_40 (fun K => e17_0) (Rch.ex H fun a25' H => Rch.ex H fun s26' H => Rch.ex H fun x27' H => ?_))))
    exact Rch.fin H
  · replace H := H.2 (h)
    refine Rn.skip k17_41 (Rn.blk (Rn.region k17_42 (fun call K => r17_9) (Rch.leaf (Rn.lp ?_))))
    exact H _ _ _ _ _ _ _ _ _ _ _ _ _ _ _ _ _ _ _ _ _ _ _ _ _ _ _ _ _ _ _ _ _ _ _ _ _ _ _ _ _ _ _ _ _ _ _ _ _ _ _ _ _ _ _ _ _ _ _ _ _ _ _ _ _ _ _ _ _ _ _

theorem w17_3 {Ax0 : Option Addr} {lx0 cx0 : Nat} {x2 x7 : Option Addr} {x44 x45 : Int} {M : Mem} {Q : Value → Mem → Prop} (H :
    ((x45 < x44 →
     A17_4 Ax0 lx0 cx0 x2 x7 x45 (IntKind.i64.wrap (((lx0 : Int)).tdiv 2)) x44 x45 Ax0 lx0 cx0 (lx0 : Int) 0 M Q) ∧
     (¬ (x45 < x44) →
     ∃ a28', x7 = some a28' ∧
     ∃ s29', M.slAt a28'.block a28'.off = some s29' ∧
     ∃ x30', M.intAt .i64 a28'.block (a28'.off + 1) = some x30' ∧
     ∃ a31', x2 = some a31' ∧
     ∃ M32', M.put a31'.block a31'.off (.slice s29'.1 (s29'.2.1) (s29'.2.2)) = some M32' ∧
     ∃ M33', M32'.put a31'.block (a31'.off + 1) (.int .i64 x30') = some M33' ∧
     ∃ a34', x2 = some a34' ∧
     ∃ s35', M33'.slAt a34'.block a34'.off = some s35' ∧
     ∃ x36', M33'.intAt .i64 a34'.block (a34'.off + 1) = some x36' ∧
     Q (.tuple #[.agg #[.slice s35'.1 (s35'.2.1) (s35'.2.2), .int .i64 (x36')], .int .i64 0]) M33'))) :
    A17_3 Ax0 lx0 cx0 x2 x7 x44 x45 M Q := by
  intro g1 g3 g4 g5 g6 g8 g9 g10 g11 g12 g13 g14 g15 g16 g17 g18 g19 g20 g21 g22 g23 g24 g25 g26 g27 g28 g29 g30 g31 g32 g33 g34 g35 g36 g37 g38 g39 g40 g41 g42 g43 g46 g47 g48 g49 g50 g51 g52 g53 g54 g55 g56 g57 g58 g59 g60 g61 g62 g63 g64 g65 g66 g67 g68 g69 g70 g71 g72 g73 g74 g75 g76
  refine Rn.seq k17_43 (Rn.region k17_44 (fun call K => r17_12) (Rch.leaf (Rn.seq k17_45 ?_)))
  refine Rn.cnd (v := decide (x45 < x44)) ⟨c17_46, rfl, by kernel_rfl⟩ (fun h => ?_) (fun h => ?_)
  · replace H := H.1 (of_decide_eq_true h)
    refine Rn.skip k17_47 (Rn.seq k17_48 (Rn.block k17_49 (Rn.seq k17_50 (Rn.region k17_51 (fun call K => r17_13) (Rch.leaf (Rn.seq k17_52 (Rn.region k17_53 (fun call K => r17_14) (Rch.leaf (Rn.seq k17_54 (Rn.seq k17_55 (Rn.region k17_56 (fun call K => r17_15) ?_)))))))))))
    refine Rch.leaf (Rn.block k17_57 (Rn.loop k17_58 ?_))
    exact H _ _ _ _ _ _ _ _ _ _ _ _ _ _ _ _ _ _ _ _ _ _ _ _ _ _ _ _ _ _ _ _ _ _ _ _ _ _ _ _ _ _ _ _ _ _ _ _ _ _ _ _ _ _ _ _ _ _ _ _ _ _ _ _ _ _ _
  · replace H := H.2 (of_decide_eq_false h)
    refine Rn.exit k17_59 rfl (Rn.seq k17_60 (Rn.region k17_61 (fun call K => r17_22) (Rch.ex H fun a28' H => Rch.ex H fun s29' H => Rch.ex H fun x30' H => Rch.ex H fun a31' H => Rch.ex H fun M32' H => Rch.ex H fun M33' H => Rch.leaf (Rn.retK k17_62 (fun K => e17_0) (Rch.ex H fun a34' H => ?_)))))
    refine Rch.ex H fun s35' H => Rch.ex H fun x36' H => ?_
    exact Rch.fin H

theorem w17_4 {Ax0 : Option Addr} {lx0 cx0 : Nat} {x2 x7 : Option Addr} {x8 x9 x44 x45 : Int} {Ax51 : Option Addr} {lx51 cx51 : Nat} {x52 x53 : Int} {M : Mem} {Q : Value → Mem → Prop} (H :
    ((x53 < x52 →
     ∃ a37', idxA Ax51 lx51 2 x53 = some a37' ∧
     ∃ s38', M.slAt a37'.block a37'.off = some s38' ∧
     ∃ x39', M.intAt .i64 a37'.block (a37'.off + 1) = some x39' ∧
     ∃ M40', (M.new (.cells #[.slice none 0 0, .int .i64 0] 24)).put (2 * M.nb.size) 0 (.slice s38'.1 (s38'.2.1) (s38'.2.2)) = some M40' ∧
     ∃ M41', M40'.put (2 * M.nb.size) 1 (.int .i64 x39') = some M41' ∧
     ∃ s42', M41'.slAt (2 * M.nb.size) 0 = some s42' ∧
     ∃ a43', idxA s42'.1 (s42'.2.1) 1 x8 = some a43' ∧
     ∃ x44', M41'.intAt .u16 a43'.block a43'.off = some x44' ∧
     A17_4 Ax0 lx0 cx0 x2 x7 x8 (IntKind.i64.wrap (x9 + (IntKind.i64.wrap (x44')))) x44 x45 Ax51 lx51 cx51 x52 (IntKind.i64.wrap (x53 + 1)) M41' Q) ∧
     (¬ (x53 < x52) →
     ∃ a45', x7 = some a45' ∧
     ∃ s46', M.slAt a45'.block a45'.off = some s46' ∧
     ∃ v47', binV Try.prog .quo 3 3 (.int .i64 x9) (.int .i64 ((lx0 : Int))) = some v47' ∧
     ∃ x48', asI .i64 v47' = some x48' ∧
     ∃ a49', idxA s46'.1 (s46'.2.1) 1 x8 = some a49' ∧
     ∃ M50', M.put a49'.block a49'.off (.int .u16 (IntKind.u16.wrap (x48'))) = some M50' ∧
     A17_3 Ax0 lx0 cx0 x2 x7 x44 (IntKind.i64.wrap (x45 + 1)) M50' Q))) :
    A17_4 Ax0 lx0 cx0 x2 x7 x8 x9 x44 x45 Ax51 lx51 cx51 x52 x53 M Q := by
  intro g1 g3 g4 g5 g6 g10 g11 g12 g13 g14 g15 g16 g17 g18 g19 g20 g21 g22 g23 g24 g25 g26 g27 g28 g29 g30 g31 g32 g33 g34 g35 g36 g37 g38 g39 g40 g41 g42 g43 g46 g47 g48 g49 g50 g54 g55 g56 g57 g58 g59 g60 g61 g62 g63 g64 g65 g66 g67 g68 g69 g70 g71 g72 g73 g74 g75 g76
  refine Rn.seq k17_63 (Rn.region k17_64 (fun call K => r17_16) (Rch.leaf (Rn.seq k17_65 ?_)))
  refine Rn.cnd (v := decide (x53 < x52)) ⟨c17_66, rfl, by kernel_rfl⟩ (fun h => ?_) (fun h => ?_)
  · replace H := H.1 (of_decide_eq_true h)
    refine Rn.skip k17_67 (Rn.seq k17_68 (Rn.block k17_69 (Rn.seq k17_70 (Rn.region k17_71 (fun call K => r17_17) (Rch.ex H fun a37' H => Rch.ex H fun s38' H => Rch.ex H fun x39' H => Rch.ex H fun M40' H => Rch.ex H fun M41' H => Rch.leaf (Rn.region k17_72 (fun call K => r17_18) ?_))))))
    refine Rch.bind (x := ⟨2 * M.nb.size, 0, none⟩) rfl (Rch.ex H fun s42' H => Rch.ex H fun a43' H => Rch.ex H fun x44' H => Rch.leaf (Rn.blk (Rn.region k17_73 (fun call K => r17_19) (Rch.leaf (Rn.lp ?_)))))
    exact H _ _ _ _ _ _ _ _ _ _ _ _ _ _ _ _ _ _ _ _ _ _ _ _ _ _ _ _ _ _ _ _ _ _ _ _ _ _ _ _ _ _ _ _ _ _ _ _ _ _ _ _ _ _ _ _ _ _ _ _ _ _ _ _ _ _ _
  · replace H := H.2 (of_decide_eq_false h)
    refine Rn.exit k17_74 rfl (Rn.regionD k17_75 (fun call K => r17_20) (Rch.ex H fun a45' H => Rch.ex H fun s46' H => Rch.ex H fun v47' H => Rch.ex H fun x48' H => Rch.ex H fun a49' H => Rch.ex H fun M50' H => Rch.leaf (Rn.blk (Rn.region k17_76 (fun call K => r17_21) (Rch.leaf ?_)))))
    refine Rn.lp ?_
    exact H _ _ _ _ _ _ _ _ _ _ _ _ _ _ _ _ _ _ _ _ _ _ _ _ _ _ _ _ _ _ _ _ _ _ _ _ _ _ _ _ _ _ _ _ _ _ _ _ _ _ _ _ _ _ _ _ _ _ _ _ _ _ _ _ _ _ _ _ _ _ _ _


/-! ### zoetrope/zoetroperef03.Average: function 18 -/
noncomputable abbrev P18 (p : List Nat) : Code := subC (codeOf Try.f18) p
noncomputable abbrev O18 (p : List Nat) : Array Oper := opsOf (subC (codeOf Try.f18) p)
theorem b18 : Try.prog.funcs[18]? = some Try.f18 ∧ (Orc.tab Try.prog).lookup 18 = none := ⟨by kernel_rfl, by kernel_rfl⟩
theorem d18 : Try.f18.body = some (P18 []) := by kernel_rfl
theorem t18 {Ax0 : Option Addr} {lx0 cx0 : Nat} : #[.slice Ax0 lx0 cx0] ++ Array.replicate (Try.f18.ntmps - (#[.slice Ax0 lx0 cx0] : Array Value).size) undef = #[.slice Ax0 lx0 cx0,undef,undef,undef,undef,undef,undef,undef,undef,undef,undef,undef,undef,undef,undef,undef,undef,undef,undef,undef,undef,undef,undef,undef,undef,undef,undef,undef,undef,undef,undef,undef,undef,undef,undef,undef,undef,undef,undef,undef,undef,undef,undef,undef,undef,undef,undef,undef,undef,undef,undef,undef,undef,undef,undef,undef,undef,undef,undef,undef,undef,undef,undef,undef,undef,undef,undef,undef,undef,undef,undef,undef,undef,undef,undef,undef,undef,undef,undef,undef] := by kernel_rfl
theorem k18_0 : P18 [] = .seq (P18 [0]) (P18 [1]) := by kernel_rfl
theorem k18_1 : P18 [0] = .region 0 (O18 [0]) false := by kernel_rfl
theorem r18_0 {M : Mem} {call : CallM} {K : Array Value → Mem → R} :
    opsK Try.prog (fun _ => call) (O18 [0]) (O18 [0]).toList 0 #[g0,g1,g2,g3,g4,g5,g6,g7,g8,g9,g10,g11,g12,g13,g14,g15,g16,g17,g18,g19,g20,g21,g22,g23,g24,g25,g26,g27,g28,g29,g30,g31,g32,g33,g34,g35,g36,g37,g38,g39,g40,g41,g42,g43,g44,g45,g46,g47,g48,g49,g50,g51,g52,g53,g54,g55,g56,g57,g58,g59,g60,g61,g62,g63,g64,g65,g66,g67,g68,g69,g70,g71,g72,g73,g74,g75,g76,g77,g78,g79] M K = K #[g0,g1,.pointer (some ⟨2 * M.nb.size, 0, none⟩),.int .i64 0,g4,g5,g6,g7,g8,g9,g10,g11,g12,g13,g14,g15,g16,g17,g18,g19,g20,g21,g22,g23,g24,g25,g26,g27,g28,g29,g30,g31,g32,g33,g34,g35,g36,g37,g38,g39,g40,g41,g42,g43,g44,g45,g46,g47,g48,g49,g50,g51,g52,g53,g54,g55,g56,g57,g58,g59,g60,g61,g62,g63,g64,g65,g66,g67,g68,g69,g70,g71,g72,g73,g74,g75,g76,g77,g78,g79] (M.new (.cells #[.slice none 0 0, .int .i64 0] 24)) := by kernel_rfl
theorem k18_2 : P18 [1] = .seq (P18 [1,0]) (P18 [1,1]) := by kernel_rfl
theorem k18_3 : P18 [1,0] = .seq (P18 [1,0,0]) (P18 [1,0,1]) := by kernel_rfl
theorem k18_4 : P18 [1,0,0] = .region 1 (O18 [1,0,0]) false := by kernel_rfl
theorem r18_1 {Ax0 : Option Addr} {lx0 cx0 : Nat} {M : Mem} {call : CallM} {K : Array Value → Mem → R} :
    opsK Try.prog (fun _ => call) (O18 [1,0,0]) (O18 [1,0,0]).toList 0 #[.slice Ax0 lx0 cx0,g1,g2,g3,g4,g5,g6,g7,g8,g9,g10,g11,g12,g13,g14,g15,g16,g17,g18,g19,g20,g21,g22,g23,g24,g25,g26,g27,g28,g29,g30,g31,g32,g33,g34,g35,g36,g37,g38,g39,g40,g41,g42,g43,g44,g45,g46,g47,g48,g49,g50,g51,g52,g53,g54,g55,g56,g57,g58,g59,g60,g61,g62,g63,g64,g65,g66,g67,g68,g69,g70,g71,g72,g73,g74,g75,g76,g77,g78,g79] M K = K #[.slice Ax0 lx0 cx0,g1,g2,g3,g4,g5,g6,g7,g8,.slice Ax0 lx0 cx0,.int .i64 ((lx0 : Int)),.bool (((lx0 : Int)) == 0),g12,g13,g14,g15,g16,g17,g18,g19,g20,g21,g22,g23,g24,g25,g26,g27,g28,g29,g30,g31,g32,g33,g34,g35,g36,g37,g38,g39,g40,g41,g42,g43,g44,g45,g46,g47,g48,g49,g50,g51,g52,g53,g54,g55,g56,g57,g58,g59,g60,g61,g62,g63,g64,g65,g66,g67,g68,g69,g70,g71,g72,g73,g74,g75,g76,g77,g78,g79] M := by kernel_rfl
theorem c18_5 : P18 [1,0,1] = .cond (.tmp 11) (P18 [1,0,1,0]) (P18 [1,0,1,1]) := by kernel_rfl
theorem k18_6 : P18 [1,0,1,0] = .seq (P18 [1,0,1,0,0]) (P18 [1,0,1,0,1]) := by kernel_rfl
theorem k18_7 : P18 [1,0,1,0,0] = .region 2 (O18 [1,0,1,0,0]) false := by kernel_rfl
theorem r18_2 {x2 : Option Addr} {M : Mem} {call : CallM} {K : Array Value → Mem → R} :
    opsK Try.prog (fun _ => call) (O18 [1,0,1,0,0]) (O18 [1,0,1,0,0]).toList 0 #[g0,g1,.pointer x2,g3,g4,g5,g6,g7,g8,g9,g10,g11,g12,g13,g14,g15,g16,g17,g18,g19,g20,g21,g22,g23,g24,g25,g26,g27,g28,g29,g30,g31,g32,g33,g34,g35,g36,g37,g38,g39,g40,g41,g42,g43,g44,g45,g46,g47,g48,g49,g50,g51,g52,g53,g54,g55,g56,g57,g58,g59,g60,g61,g62,g63,g64,g65,g66,g67,g68,g69,g70,g71,g72,g73,g74,g75,g76,g77,g78,g79] M K = (x2).bind fun a_1 => (M.put a_1.block a_1.off (.slice none 0 0)).bind fun M_2 => (M_2.put a_1.block (a_1.off + 1) (.int .i64 0)).bind fun M_3 => K #[g0,g1,.pointer x2,.int .i64 2,g4,g5,g6,g7,g8,g9,g10,g11,.agg #[.slice none 0 0, .int .i64 0],g13,g14,g15,g16,g17,g18,g19,g20,g21,g22,g23,g24,g25,g26,g27,g28,g29,g30,g31,g32,g33,g34,g35,g36,g37,g38,g39,g40,g41,g42,g43,g44,g45,g46,g47,g48,g49,g50,g51,g52,g53,g54,g55,g56,g57,g58,g59,g60,g61,g62,g63,g64,g65,g66,g67,g68,g69,g70,g71,g72,g73,g74,g75,g76,g77,g78,g79] M_3 := by kernel_rfl
theorem k18_8 : P18 [1,0,1,0,1] = .ret := by kernel_rfl
theorem e18_0 {x2 : Option Addr} {x3 : Int} {M : Mem} {K : List Value → R} : resK Try.prog #[g0,g1,.pointer x2,.int .i64 x3,g4,g5,g6,g7,g8,g9,g10,g11,g12,g13,g14,g15,g16,g17,g18,g19,g20,g21,g22,g23,g24,g25,g26,g27,g28,g29,g30,g31,g32,g33,g34,g35,g36,g37,g38,g39,g40,g41,g42,g43,g44,g45,g46,g47,g48,g49,g50,g51,g52,g53,g54,g55,g56,g57,g58,g59,g60,g61,g62,g63,g64,g65,g66,g67,g68,g69,g70,g71,g72,g73,g74,g75,g76,g77,g78,g79] M (Try.f18).results.toList K = (x2).bind fun a_1 => (M.slAt a_1.block a_1.off).bind fun s_2 => (M.intAt .i64 a_1.block (a_1.off + 1)).bind fun x_3 => K [.agg #[.slice s_2.1 (s_2.2.1) (s_2.2.2), .int .i64 x_3], .int .i64 x3] := by kernel_rfl
theorem k18_10 : P18 [1,0,1,1] = .skip := by kernel_rfl
theorem k18_11 : P18 [1,1] = .seq (P18 [1,1,0]) (P18 [1,1,1]) := by kernel_rfl
theorem k18_12 : P18 [1,1,0] = .seq (P18 [1,1,0,0]) (P18 [1,1,0,1]) := by kernel_rfl
theorem k18_13 : P18 [1,1,0,0] = .region 3 (O18 [1,1,0,0]) false := by kernel_rfl
theorem r18_3 {M : Mem} {call : CallM} {K : Array Value → Mem → R} :
    opsK Try.prog (fun _ => call) (O18 [1,1,0,0]) (O18 [1,1,0,0]).toList 0 #[g0,g1,g2,g3,g4,g5,g6,g7,g8,g9,g10,g11,g12,g13,g14,g15,g16,g17,g18,g19,g20,g21,g22,g23,g24,g25,g26,g27,g28,g29,g30,g31,g32,g33,g34,g35,g36,g37,g38,g39,g40,g41,g42,g43,g44,g45,g46,g47,g48,g49,g50,g51,g52,g53,g54,g55,g56,g57,g58,g59,g60,g61,g62,g63,g64,g65,g66,g67,g68,g69,g70,g71,g72,g73,g74,g75,g76,g77,g78,g79] M K = K #[g0,g1,g2,g3,.int .i64 0,g5,g6,g7,g8,g9,g10,g11,g12,g13,g14,g15,g16,g17,g18,g19,g20,g21,g22,g23,g24,g25,g26,g27,g28,g29,g30,g31,g32,g33,g34,g35,g36,g37,g38,g39,g40,g41,g42,g43,g44,g45,g46,g47,g48,g49,g50,g51,g52,g53,g54,g55,g56,g57,g58,g59,g60,g61,g62,g63,g64,g65,g66,g67,g68,g69,g70,g71,g72,g73,g74,g75,g76,g77,g78,g79] M := by kernel_rfl
theorem k18_14 : P18 [1,1,0,1] = .block 0 (P18 [1,1,0,1,0]) := by kernel_rfl
theorem k18_15 : P18 [1,1,0,1,0] = .loop (P18 [1,1,0,1,0,0]) := by kernel_rfl
theorem k18_16 : P18 [1,1,0,1,0,0] = .seq (P18 [1,1,0,1,0,0,0]) (P18 [1,1,0,1,0,0,1]) := by kernel_rfl
theorem k18_17 : P18 [1,1,0,1,0,0,0] = .seq (P18 [1,1,0,1,0,0,0,0]) (P18 [1,1,0,1,0,0,0,1]) := by kernel_rfl
theorem k18_18 : P18 [1,1,0,1,0,0,0,0] = .region 4 (O18 [1,1,0,1,0,0,0,0]) false := by kernel_rfl
theorem r18_4 {Ax0 : Option Addr} {lx0 cx0 : Nat} {x4 : Int} {M : Mem} {call : CallM} {K : Array Value → Mem → R} :
    opsK Try.prog (fun _ => call) (O18 [1,1,0,1,0,0,0,0]) (O18 [1,1,0,1,0,0,0,0]).toList 0 #[.slice Ax0 lx0 cx0,g1,g2,g3,.int .i64 x4,g5,g6,g7,g8,g9,g10,g11,g12,g13,g14,g15,g16,g17,g18,g19,g20,g21,g22,g23,g24,g25,g26,g27,g28,g29,g30,g31,g32,g33,g34,g35,g36,g37,g38,g39,g40,g41,g42,g43,g44,g45,g46,g47,g48,g49,g50,g51,g52,g53,g54,g55,g56,g57,g58,g59,g60,g61,g62,g63,g64,g65,g66,g67,g68,g69,g70,g71,g72,g73,g74,g75,g76,g77,g78,g79] M K = K #[.slice Ax0 lx0 cx0,g1,g2,g3,.int .i64 x4,g5,g6,g7,g8,g9,g10,g11,g12,.int .i64 x4,.slice Ax0 lx0 cx0,.int .i64 ((lx0 : Int)),.bool (decide (x4 < ((lx0 : Int)))),g17,g18,g19,g20,g21,g22,g23,g24,g25,g26,g27,g28,g29,g30,g31,g32,g33,g34,g35,g36,g37,g38,g39,g40,g41,g42,g43,g44,g45,g46,g47,g48,g49,g50,g51,g52,g53,g54,g55,g56,g57,g58,g59,g60,g61,g62,g63,g64,g65,g66,g67,g68,g69,g70,g71,g72,g73,g74,g75,g76,g77,g78,g79] M := by kernel_rfl
theorem c18_19 : P18 [1,1,0,1,0,0,0,1] = .cond (.tmp 16) (P18 [1,1,0,1,0,0,0,1,0]) (P18 [1,1,0,1,0,0,0,1,1]) := by kernel_rfl
theorem k18_20 : P18 [1,1,0,1,0,0,0,1,0] = .skip := by kernel_rfl
theorem k18_21 : P18 [1,1,0,1,0,0,1] = .seq (P18 [1,1,0,1,0,0,1,0]) (P18 [1,1,0,1,0,0,1,1]) := by kernel_rfl
theorem k18_22 : P18 [1,1,0,1,0,0,1,0] = .block 1 (P18 [1,1,0,1,0,0,1,0,0]) := by kernel_rfl
theorem k18_23 : P18 [1,1,0,1,0,0,1,0,0] = .seq (P18 [1,1,0,1,0,0,1,0,0,0]) (P18 [1,1,0,1,0,0,1,0,0,1]) := by kernel_rfl
theorem k18_24 : P18 [1,1,0,1,0,0,1,0,0,0] = .region 6 (O18 [1,1,0,1,0,0,1,0,0,0]) true ∧ drawOk (O18 [1,1,0,1,0,0,1,0,0,0]) = true := ⟨by kernel_rfl, by kernel_rfl⟩
theorem r18_6 {Ax0 : Option Addr} {lx0 cx0 : Nat} {x4 : Int} {M : Mem} {call : CallM} {K : Array Value → Mem → R} :
    opsI Try.prog (callAt call (O18 [1,1,0,1,0,0,1,0,0,0])) (O18 [1,1,0,1,0,0,1,0,0,0]) (ordOf (O18 [1,1,0,1,0,0,1,0,0,0])) [] #[.slice Ax0 lx0 cx0,g1,g2,g3,.int .i64 x4,g5,g6,g7,g8,g9,g10,g11,g12,g13,g14,g15,g16,g17,g18,g19,g20,g21,g22,g23,g24,g25,g26,g27,g28,g29,g30,g31,g32,g33,g34,g35,g36,g37,g38,g39,g40,g41,g42,g43,g44,g45,g46,g47,g48,g49,g50,g51,g52,g53,g54,g55,g56,g57,g58,g59,g60,g61,g62,g63,g64,g65,g66,g67,g68,g69,g70,g71,g72,g73,g74,g75,g76,g77,g78,g79] M K = withK (fun w21 w22 w23 w24 w25 w26 w27 w28 w29 w30 w31 w32 w33 w34 w35 w36 w37 w38 M => K #[.slice Ax0 lx0 cx0,g1,g2,g3,.int .i64 x4,g5,g6,g7,g8,g9,g10,g11,g12,g13,g14,g15,g16,g17,g18,.slice Ax0 lx0 cx0,.int .i64 x4,w21,w22,w23,w24,w25,w26,w27,w28,w29,w30,w31,w32,w33,w34,w35,w36,w37,w38,g39,g40,g41,g42,g43,g44,g45,g46,g47,g48,g49,g50,g51,g52,g53,g54,g55,g56,g57,g58,g59,g60,g61,g62,g63,g64,g65,g66,g67,g68,g69,g70,g71,g72,g73,g74,g75,g76,g77,g78,g79] M) fun k => (idxA Ax0 lx0 2 x4).bind fun a_1 => (M.slAt a_1.block a_1.off).bind fun s_2 => (M.intAt .i64 a_1.block (a_1.off + 1)).bind fun x_3 => (call 29 #[.agg #[.slice s_2.1 (s_2.2.1) (s_2.2.2), .int .i64 x_3]] M).bind fun r_4 => (asI .i64 r_4.1).bind fun x_5 => cond (x_5 != 0) (k (.pointer (some a_1)) (.agg #[.slice s_2.1 (s_2.2.1) (s_2.2.2), .int .i64 x_3]) (.int .i64 x_5) (.bool (x_5 != 0)) (.bool true) undef undef undef undef undef undef undef undef undef undef undef undef (.bool true) r_4.2) ((idxA Ax0 lx0 2 x4).bind fun a_6 => (r_4.2.slAt a_6.block a_6.off).bind fun s_7 => (idxA Ax0 lx0 2 0).bind fun a_8 => (r_4.2.slAt a_8.block a_8.off).bind fun s_9 => k (.pointer (some a_1)) (.agg #[.slice s_2.1 (s_2.2.1) (s_2.2.2), .int .i64 x_3]) (.int .i64 x_5) (.bool (x_5 != 0)) (.bool false) (.slice Ax0 lx0 cx0) (.int .i64 x4) (.pointer (some a_6)) (.pointer (some ⟨a_6.block, a_6.off, none⟩)) (.slice s_7.1 (s_7.2.1) (s_7.2.2)) (.int .i64 ((s_7.2.1 : Int))) (.slice Ax0 lx0 cx0) (.pointer (some a_8)) (.pointer (some ⟨a_8.block, a_8.off, none⟩)) (.slice s_9.1 (s_9.2.1) (s_9.2.2)) (.int .i64 ((s_9.2.1 : Int))) (.bool (((s_7.2.1 : Int)) != ((s_9.2.1 : Int)))) (.bool (((s_7.2.1 : Int)) != ((s_9.2.1 : Int)))) r_4.2) := by kernel_rfl
theorem k18_25 : P18 [1,1,0,1,0,0,0,1,1] = .exit 0 := by kernel_rfl
theorem k18_26 : P18 [1,1,1] = .seq (P18 [1,1,1,0]) (P18 [1,1,1,1]) := by kernel_rfl
theorem k18_27 : P18 [1,1,1,0] = .region 8 (O18 [1,1,1,0]) false := by kernel_rfl
theorem r18_8 {M : Mem} {call : CallM} {K : Array Value → Mem → R} :
    opsK Try.prog (fun _ => call) (O18 [1,1,1,0]) (O18 [1,1,1,0]).toList 0 #[g0,g1,g2,g3,g4,g5,g6,g7,g8,g9,g10,g11,g12,g13,g14,g15,g16,g17,g18,g19,g20,g21,g22,g23,g24,g25,g26,g27,g28,g29,g30,g31,g32,g33,g34,g35,g36,g37,g38,g39,g40,g41,g42,g43,g44,g45,g46,g47,g48,g49,g50,g51,g52,g53,g54,g55,g56,g57,g58,g59,g60,g61,g62,g63,g64,g65,g66,g67,g68,g69,g70,g71,g72,g73,g74,g75,g76,g77,g78,g79] M K = K #[g0,g1,g2,g3,g4,.pointer (some ⟨2 * M.nb.size, 0, none⟩),g6,g7,g8,g9,g10,g11,g12,g13,g14,g15,g16,g17,g18,g19,g20,g21,g22,g23,g24,g25,g26,g27,g28,g29,g30,g31,g32,g33,g34,g35,g36,g37,g38,g39,g40,g41,g42,g43,g44,g45,g46,g47,g48,g49,g50,g51,g52,g53,g54,g55,g56,g57,g58,g59,g60,g61,g62,g63,g64,g65,g66,g67,g68,g69,g70,g71,g72,g73,g74,g75,g76,g77,g78,g79] (M.new (.cells #[.slice none 0 0, .int .i64 0] 24)) := by kernel_rfl
theorem k18_28 : P18 [1,1,1,1] = .seq (P18 [1,1,1,1,0]) (P18 [1,1,1,1,1]) := by kernel_rfl
theorem k18_29 : P18 [1,1,1,1,0] = .seq (P18 [1,1,1,1,0,0]) (P18 [1,1,1,1,0,1]) := by kernel_rfl
theorem k18_30 : P18 [1,1,1,1,0,0] = .region 9 (O18 [1,1,1,1,0,0]) false := by kernel_rfl
theorem r18_9 {M : Mem} {call : CallM} {K : Array Value → Mem → R} :
    opsK Try.prog (fun _ => call) (O18 [1,1,1,1,0,0]) (O18 [1,1,1,1,0,0]).toList 0 #[g0,g1,g2,g3,g4,g5,g6,g7,g8,g9,g10,g11,g12,g13,g14,g15,g16,g17,g18,g19,g20,g21,g22,g23,g24,g25,g26,g27,g28,g29,g30,g31,g32,g33,g34,g35,g36,g37,g38,g39,g40,g41,g42,g43,g44,g45,g46,g47,g48,g49,g50,g51,g52,g53,g54,g55,g56,g57,g58,g59,g60,g61,g62,g63,g64,g65,g66,g67,g68,g69,g70,g71,g72,g73,g74,g75,g76,g77,g78,g79] M K = K #[g0,g1,g2,g3,g4,g5,.int .i64 0,g7,g8,g9,g10,g11,g12,g13,g14,g15,g16,g17,g18,g19,g20,g21,g22,g23,g24,g25,g26,g27,g28,g29,g30,g31,g32,g33,g34,g35,g36,g37,g38,g39,g40,g41,g42,g43,g44,g45,g46,g47,g48,g49,g50,g51,g52,g53,g54,g55,g56,g57,g58,g59,g60,g61,g62,g63,g64,g65,g66,g67,g68,g69,g70,g71,g72,g73,g74,g75,g76,g77,g78,g79] M := by kernel_rfl
theorem k18_31 : P18 [1,1,1,1,0,1] = .block 2 (P18 [1,1,1,1,0,1,0]) := by kernel_rfl
theorem k18_32 : P18 [1,1,1,1,0,1,0] = .loop (P18 [1,1,1,1,0,1,0,0]) := by kernel_rfl
theorem c18_33 : P18 [1,1,0,1,0,0,1,0,0,1] = .cond (.tmp 38) (P18 [1,1,0,1,0,0,1,0,0,1,0]) (P18 [1,1,0,1,0,0,1,0,0,1,1]) := by kernel_rfl
theorem k18_34 : P18 [1,1,0,1,0,0,1,0,0,1,0] = .seq (P18 [1,1,0,1,0,0,1,0,0,1,0,0]) (P18 [1,1,0,1,0,0,1,0,0,1,0,1]) := by kernel_rfl
theorem k18_35 : P18 [1,1,0,1,0,0,1,0,0,1,0,0] = .region 7 (O18 [1,1,0,1,0,0,1,0,0,1,0,0]) false := by kernel_rfl
theorem r18_7 {x2 : Option Addr} {M : Mem} {call : CallM} {K : Array Value → Mem → R} :
    opsK Try.prog (fun _ => call) (O18 [1,1,0,1,0,0,1,0,0,1,0,0]) (O18 [1,1,0,1,0,0,1,0,0,1,0,0]).toList 0 #[g0,g1,.pointer x2,g3,g4,g5,g6,g7,g8,g9,g10,g11,g12,g13,g14,g15,g16,g17,g18,g19,g20,g21,g22,g23,g24,g25,g26,g27,g28,g29,g30,g31,g32,g33,g34,g35,g36,g37,g38,g39,g40,g41,g42,g43,g44,g45,g46,g47,g48,g49,g50,g51,g52,g53,g54,g55,g56,g57,g58,g59,g60,g61,g62,g63,g64,g65,g66,g67,g68,g69,g70,g71,g72,g73,g74,g75,g76,g77,g78,g79] M K = (x2).bind fun a_1 => (M.put a_1.block a_1.off (.slice none 0 0)).bind fun M_2 => (M_2.put a_1.block (a_1.off + 1) (.int .i64 0)).bind fun M_3 => K #[g0,g1,.pointer x2,.int .i64 2,g4,g5,g6,g7,g8,g9,g10,g11,g12,g13,g14,g15,g16,g17,g18,g19,g20,g21,g22,g23,g24,g25,g26,g27,g28,g29,g30,g31,g32,g33,g34,g35,g36,g37,g38,.agg #[.slice none 0 0, .int .i64 0],g40,g41,g42,g43,g44,g45,g46,g47,g48,g49,g50,g51,g52,g53,g54,g55,g56,g57,g58,g59,g60,g61,g62,g63,g64,g65,g66,g67,g68,g69,g70,g71,g72,g73,g74,g75,g76,g77,g78,g79] M_3 := by kernel_rfl
theorem k18_36 : P18 [1,1,0,1,0,0,1,0,0,1,0,1] = .ret := by kernel_rfl
theorem k18_37 : P18 [1,1,0,1,0,0,1,0,0,1,1] = .skip := by kernel_rfl
theorem k18_38 : P18 [1,1,0,1,0,0,1,1] = .region 5 (O18 [1,1,0,1,0,0,1,1]) false := by kernel_rfl
theorem r18_5 {x4 : Int} {M : Mem} {call : CallM} {K : Array Value → Mem → R} :
    opsK Try.prog (fun _ => call) (O18 [1,1,0,1,0,0,1,1]) (O18 [1,1,0,1,0,0,1,1]).toList 0 #[g0,g1,g2,g3,.int .i64 x4,g5,g6,g7,g8,g9,g10,g11,g12,g13,g14,g15,g16,g17,g18,g19,g20,g21,g22,g23,g24,g25,g26,g27,g28,g29,g30,g31,g32,g33,g34,g35,g36,g37,g38,g39,g40,g41,g42,g43,g44,g45,g46,g47,g48,g49,g50,g51,g52,g53,g54,g55,g56,g57,g58,g59,g60,g61,g62,g63,g64,g65,g66,g67,g68,g69,g70,g71,g72,g73,g74,g75,g76,g77,g78,g79] M K = K #[g0,g1,g2,g3,.int .i64 (IntKind.i64.wrap (x4 + 1)),g5,g6,g7,g8,g9,g10,g11,g12,g13,g14,g15,g16,.int .i64 x4,.int .i64 (IntKind.i64.wrap (x4 + 1)),g19,g20,g21,g22,g23,g24,g25,g26,g27,g28,g29,g30,g31,g32,g33,g34,g35,g36,g37,g38,g39,g40,g41,g42,g43,g44,g45,g46,g47,g48,g49,g50,g51,g52,g53,g54,g55,g56,g57,g58,g59,g60,g61,g62,g63,g64,g65,g66,g67,g68,g69,g70,g71,g72,g73,g74,g75,g76,g77,g78,g79] M := by kernel_rfl
theorem k18_39 : P18 [1,1,1,1,0,1,0,0] = .seq (P18 [1,1,1,1,0,1,0,0,0]) (P18 [1,1,1,1,0,1,0,0,1]) := by kernel_rfl
theorem k18_40 : P18 [1,1,1,1,0,1,0,0,0] = .seq (P18 [1,1,1,1,0,1,0,0,0,0]) (P18 [1,1,1,1,0,1,0,0,0,1]) := by kernel_rfl
theorem k18_41 : P18 [1,1,1,1,0,1,0,0,0,0] = .region 10 (O18 [1,1,1,1,0,1,0,0,0,0]) false := by kernel_rfl
theorem r18_10 {Ax0 : Option Addr} {lx0 cx0 : Nat} {x6 : Int} {M : Mem} {call : CallM} {K : Array Value → Mem → R} :
    opsK Try.prog (fun _ => call) (O18 [1,1,1,1,0,1,0,0,0,0]) (O18 [1,1,1,1,0,1,0,0,0,0]).toList 0 #[.slice Ax0 lx0 cx0,g1,g2,g3,g4,g5,.int .i64 x6,g7,g8,g9,g10,g11,g12,g13,g14,g15,g16,g17,g18,g19,g20,g21,g22,g23,g24,g25,g26,g27,g28,g29,g30,g31,g32,g33,g34,g35,g36,g37,g38,g39,g40,g41,g42,g43,g44,g45,g46,g47,g48,g49,g50,g51,g52,g53,g54,g55,g56,g57,g58,g59,g60,g61,g62,g63,g64,g65,g66,g67,g68,g69,g70,g71,g72,g73,g74,g75,g76,g77,g78,g79] M K = (idxA Ax0 lx0 2 0).bind fun a_1 => (M.slAt a_1.block a_1.off).bind fun s_2 => K #[.slice Ax0 lx0 cx0,g1,g2,g3,g4,g5,.int .i64 x6,g7,g8,g9,g10,g11,g12,g13,g14,g15,g16,g17,g18,g19,g20,g21,g22,g23,g24,g25,g26,g27,g28,g29,g30,g31,g32,g33,g34,g35,g36,g37,g38,g39,.int .i64 x6,.slice Ax0 lx0 cx0,.pointer (some a_1),.pointer (some ⟨a_1.block, a_1.off, none⟩),.slice s_2.1 (s_2.2.1) (s_2.2.2),.int .i64 ((s_2.2.1 : Int)),.bool (decide (x6 < ((s_2.2.1 : Int)))),g47,g48,g49,g50,g51,g52,g53,g54,g55,g56,g57,g58,g59,g60,g61,g62,g63,g64,g65,g66,g67,g68,g69,g70,g71,g72,g73,g74,g75,g76,g77,g78,g79] M := by kernel_rfl
theorem c18_42 : P18 [1,1,1,1,0,1,0,0,0,1] = .cond (.tmp 46) (P18 [1,1,1,1,0,1,0,0,0,1,0]) (P18 [1,1,1,1,0,1,0,0,0,1,1]) := by kernel_rfl
theorem k18_43 : P18 [1,1,1,1,0,1,0,0,0,1,0] = .skip := by kernel_rfl
theorem k18_44 : P18 [1,1,1,1,0,1,0,0,1] = .seq (P18 [1,1,1,1,0,1,0,0,1,0]) (P18 [1,1,1,1,0,1,0,0,1,1]) := by kernel_rfl
theorem k18_45 : P18 [1,1,1,1,0,1,0,0,1,0] = .block 3 (P18 [1,1,1,1,0,1,0,0,1,0,0]) := by kernel_rfl
theorem k18_46 : P18 [1,1,1,1,0,1,0,0,1,0,0] = .seq (P18 [1,1,1,1,0,1,0,0,1,0,0,0]) (P18 [1,1,1,1,0,1,0,0,1,0,0,1]) := by kernel_rfl
theorem k18_47 : P18 [1,1,1,1,0,1,0,0,1,0,0,0] = .region 12 (O18 [1,1,1,1,0,1,0,0,1,0,0,0]) false := by kernel_rfl
theorem r18_12 {Ax0 : Option Addr} {lx0 cx0 : Nat} {M : Mem} {call : CallM} {K : Array Value → Mem → R} :
    opsK Try.prog (fun _ => call) (O18 [1,1,1,1,0,1,0,0,1,0,0,0]) (O18 [1,1,1,1,0,1,0,0,1,0,0,0]).toList 0 #[.slice Ax0 lx0 cx0,g1,g2,g3,g4,g5,g6,g7,g8,g9,g10,g11,g12,g13,g14,g15,g16,g17,g18,g19,g20,g21,g22,g23,g24,g25,g26,g27,g28,g29,g30,g31,g32,g33,g34,g35,g36,g37,g38,g39,g40,g41,g42,g43,g44,g45,g46,g47,g48,g49,g50,g51,g52,g53,g54,g55,g56,g57,g58,g59,g60,g61,g62,g63,g64,g65,g66,g67,g68,g69,g70,g71,g72,g73,g74,g75,g76,g77,g78,g79] M K = K #[.slice Ax0 lx0 cx0,g1,g2,g3,g4,g5,g6,.int .i64 (IntKind.i64.wrap (((lx0 : Int)).tdiv 2)),g8,g9,g10,g11,g12,g13,g14,g15,g16,g17,g18,g19,g20,g21,g22,g23,g24,g25,g26,g27,g28,g29,g30,g31,g32,g33,g34,g35,g36,g37,g38,g39,g40,g41,g42,g43,g44,g45,g46,g47,g48,.slice Ax0 lx0 cx0,.int .i64 ((lx0 : Int)),.int .i64 (IntKind.i64.wrap (((lx0 : Int)).tdiv 2)),g52,g53,g54,g55,g56,g57,g58,g59,g60,g61,g62,g63,g64,g65,g66,g67,g68,g69,g70,g71,g72,g73,g74,g75,g76,g77,g78,g79] M := by kernel_rfl
theorem k18_48 : P18 [1,1,1,1,0,1,0,0,1,0,0,1] = .seq (P18 [1,1,1,1,0,1,0,0,1,0,0,1,0]) (P18 [1,1,1,1,0,1,0,0,1,0,0,1,1]) := by kernel_rfl
theorem k18_49 : P18 [1,1,1,1,0,1,0,0,1,0,0,1,0] = .seq (P18 [1,1,1,1,0,1,0,0,1,0,0,1,0,0]) (P18 [1,1,1,1,0,1,0,0,1,0,0,1,0,1]) := by kernel_rfl
theorem k18_50 : P18 [1,1,1,1,0,1,0,0,1,0,0,1,0,0] = .region 13 (O18 [1,1,1,1,0,1,0,0,1,0,0,1,0,0]) false := by kernel_rfl
theorem r18_13 {M : Mem} {call : CallM} {K : Array Value → Mem → R} :
    opsK Try.prog (fun _ => call) (O18 [1,1,1,1,0,1,0,0,1,0,0,1,0,0]) (O18 [1,1,1,1,0,1,0,0,1,0,0,1,0,0]).toList 0 #[g0,g1,g2,g3,g4,g5,g6,g7,g8,g9,g10,g11,g12,g13,g14,g15,g16,g17,g18,g19,g20,g21,g22,g23,g24,g25,g26,g27,g28,g29,g30,g31,g32,g33,g34,g35,g36,g37,g38,g39,g40,g41,g42,g43,g44,g45,g46,g47,g48,g49,g50,g51,g52,g53,g54,g55,g56,g57,g58,g59,g60,g61,g62,g63,g64,g65,g66,g67,g68,g69,g70,g71,g72,g73,g74,g75,g76,g77,g78,g79] M K = K #[g0,g1,g2,g3,g4,g5,g6,g7,.int .i64 0,g9,g10,g11,g12,g13,g14,g15,g16,g17,g18,g19,g20,g21,g22,g23,g24,g25,g26,g27,g28,g29,g30,g31,g32,g33,g34,g35,g36,g37,g38,g39,g40,g41,g42,g43,g44,g45,g46,g47,g48,g49,g50,g51,g52,g53,g54,g55,g56,g57,g58,g59,g60,g61,g62,g63,g64,g65,g66,g67,g68,g69,g70,g71,g72,g73,g74,g75,g76,g77,g78,g79] M := by kernel_rfl
theorem k18_51 : P18 [1,1,1,1,0,1,0,0,1,0,0,1,0,1] = .block 4 (P18 [1,1,1,1,0,1,0,0,1,0,0,1,0,1,0]) := by kernel_rfl
theorem k18_52 : P18 [1,1,1,1,0,1,0,0,1,0,0,1,0,1,0] = .loop (P18 [1,1,1,1,0,1,0,0,1,0,0,1,0,1,0,0]) := by kernel_rfl
theorem k18_53 : P18 [1,1,1,1,0,1,0,0,0,1,1] = .exit 2 := by kernel_rfl
theorem k18_54 : P18 [1,1,1,1,1] = .seq (P18 [1,1,1,1,1,0]) (P18 [1,1,1,1,1,1]) := by kernel_rfl
theorem k18_55 : P18 [1,1,1,1,1,0] = .region 18 (O18 [1,1,1,1,1,0]) false := by kernel_rfl
theorem r18_18 {x2 x5 : Option Addr} {M : Mem} {call : CallM} {K : Array Value → Mem → R} :
    opsK Try.prog (fun _ => call) (O18 [1,1,1,1,1,0]) (O18 [1,1,1,1,1,0]).toList 0 #[g0,g1,.pointer x2,g3,g4,.pointer x5,g6,g7,g8,g9,g10,g11,g12,g13,g14,g15,g16,g17,g18,g19,g20,g21,g22,g23,g24,g25,g26,g27,g28,g29,g30,g31,g32,g33,g34,g35,g36,g37,g38,g39,g40,g41,g42,g43,g44,g45,g46,g47,g48,g49,g50,g51,g52,g53,g54,g55,g56,g57,g58,g59,g60,g61,g62,g63,g64,g65,g66,g67,g68,g69,g70,g71,g72,g73,g74,g75,g76,g77,g78,g79] M K = (x5).bind fun a_1 => (M.slAt a_1.block a_1.off).bind fun s_2 => (M.intAt .i64 a_1.block (a_1.off + 1)).bind fun x_3 => (x2).bind fun a_4 => (M.put a_4.block a_4.off (.slice s_2.1 (s_2.2.1) (s_2.2.2))).bind fun M_5 => (M_5.put a_4.block (a_4.off + 1) (.int .i64 x_3)).bind fun M_6 => K #[g0,g1,.pointer x2,.int .i64 0,g4,.pointer x5,g6,g7,g8,g9,g10,g11,g12,g13,g14,g15,g16,g17,g18,g19,g20,g21,g22,g23,g24,g25,g26,g27,g28,g29,g30,g31,g32,g33,g34,g35,g36,g37,g38,g39,g40,g41,g42,g43,g44,g45,g46,g47,g48,g49,g50,g51,g52,g53,g54,g55,g56,g57,g58,g59,g60,g61,g62,g63,g64,g65,g66,g67,g68,g69,g70,g71,g72,g73,g74,g75,g76,g77,g78,.agg #[.slice s_2.1 (s_2.2.1) (s_2.2.2), .int .i64 x_3]] M_6 := by kernel_rfl
theorem k18_56 : P18 [1,1,1,1,1,1] = .ret := by kernel_rfl
theorem k18_57 : P18 [1,1,1,1,0,1,0,0,1,0,0,1,0,1,0,0] = .seq (P18 [1,1,1,1,0,1,0,0,1,0,0,1,0,1,0,0,0]) (P18 [1,1,1,1,0,1,0,0,1,0,0,1,0,1,0,0,1]) := by kernel_rfl
theorem k18_58 : P18 [1,1,1,1,0,1,0,0,1,0,0,1,0,1,0,0,0] = .seq (P18 [1,1,1,1,0,1,0,0,1,0,0,1,0,1,0,0,0,0]) (P18 [1,1,1,1,0,1,0,0,1,0,0,1,0,1,0,0,0,1]) := by kernel_rfl
theorem k18_59 : P18 [1,1,1,1,0,1,0,0,1,0,0,1,0,1,0,0,0,0] = .region 14 (O18 [1,1,1,1,0,1,0,0,1,0,0,1,0,1,0,0,0,0]) false := by kernel_rfl
theorem r18_14 {Ax0 : Option Addr} {lx0 cx0 : Nat} {x8 : Int} {M : Mem} {call : CallM} {K : Array Value → Mem → R} :
    opsK Try.prog (fun _ => call) (O18 [1,1,1,1,0,1,0,0,1,0,0,1,0,1,0,0,0,0]) (O18 [1,1,1,1,0,1,0,0,1,0,0,1,0,1,0,0,0,0]).toList 0 #[.slice Ax0 lx0 cx0,g1,g2,g3,g4,g5,g6,g7,.int .i64 x8,g9,g10,g11,g12,g13,g14,g15,g16,g17,g18,g19,g20,g21,g22,g23,g24,g25,g26,g27,g28,g29,g30,g31,g32,g33,g34,g35,g36,g37,g38,g39,g40,g41,g42,g43,g44,g45,g46,g47,g48,g49,g50,g51,g52,g53,g54,g55,g56,g57,g58,g59,g60,g61,g62,g63,g64,g65,g66,g67,g68,g69,g70,g71,g72,g73,g74,g75,g76,g77,g78,g79] M K = K #[.slice Ax0 lx0 cx0,g1,g2,g3,g4,g5,g6,g7,.int .i64 x8,g9,g10,g11,g12,g13,g14,g15,g16,g17,g18,g19,g20,g21,g22,g23,g24,g25,g26,g27,g28,g29,g30,g31,g32,g33,g34,g35,g36,g37,g38,g39,g40,g41,g42,g43,g44,g45,g46,g47,g48,g49,g50,g51,.int .i64 x8,.slice Ax0 lx0 cx0,.int .i64 ((lx0 : Int)),.bool (decide (x8 < ((lx0 : Int)))),g56,g57,g58,g59,g60,g61,g62,g63,g64,g65,g66,g67,g68,g69,g70,g71,g72,g73,g74,g75,g76,g77,g78,g79] M := by kernel_rfl
theorem c18_60 : P18 [1,1,1,1,0,1,0,0,1,0,0,1,0,1,0,0,0,1] = .cond (.tmp 55) (P18 [1,1,1,1,0,1,0,0,1,0,0,1,0,1,0,0,0,1,0]) (P18 [1,1,1,1,0,1,0,0,1,0,0,1,0,1,0,0,0,1,1]) := by kernel_rfl
theorem k18_61 : P18 [1,1,1,1,0,1,0,0,1,0,0,1,0,1,0,0,0,1,0] = .skip := by kernel_rfl
theorem k18_62 : P18 [1,1,1,1,0,1,0,0,1,0,0,1,0,1,0,0,1] = .seq (P18 [1,1,1,1,0,1,0,0,1,0,0,1,0,1,0,0,1,0]) (P18 [1,1,1,1,0,1,0,0,1,0,0,1,0,1,0,0,1,1]) := by kernel_rfl
theorem k18_63 : P18 [1,1,1,1,0,1,0,0,1,0,0,1,0,1,0,0,1,0] = .block 5 (P18 [1,1,1,1,0,1,0,0,1,0,0,1,0,1,0,0,1,0,0]) := by kernel_rfl
theorem k18_64 : P18 [1,1,1,1,0,1,0,0,1,0,0,1,0,1,0,0,1,0,0] = .region 16 (O18 [1,1,1,1,0,1,0,0,1,0,0,1,0,1,0,0,1,0,0]) false := by kernel_rfl
theorem r18_16 {Ax0 : Option Addr} {lx0 cx0 : Nat} {x6 x7 x8 : Int} {M : Mem} {call : CallM} {K : Array Value → Mem → R} :
    opsK Try.prog (fun _ => call) (O18 [1,1,1,1,0,1,0,0,1,0,0,1,0,1,0,0,1,0,0]) (O18 [1,1,1,1,0,1,0,0,1,0,0,1,0,1,0,0,1,0,0]).toList 0 #[.slice Ax0 lx0 cx0,g1,g2,g3,g4,g5,.int .i64 x6,.int .i64 x7,.int .i64 x8,g9,g10,g11,g12,g13,g14,g15,g16,g17,g18,g19,g20,g21,g22,g23,g24,g25,g26,g27,g28,g29,g30,g31,g32,g33,g34,g35,g36,g37,g38,g39,g40,g41,g42,g43,g44,g45,g46,g47,g48,g49,g50,g51,g52,g53,g54,g55,g56,g57,g58,g59,g60,g61,g62,g63,g64,g65,g66,g67,g68,g69,g70,g71,g72,g73,g74,g75,g76,g77,g78,g79] M K = (idxA Ax0 lx0 2 x8).bind fun a_1 => (M.slAt a_1.block a_1.off).bind fun s_2 => (idxA s_2.1 (s_2.2.1) 1 x6).bind fun a_3 => (M.intAt .u16 a_3.block a_3.off).bind fun x_4 => K #[.slice Ax0 lx0 cx0,g1,g2,g3,g4,g5,.int .i64 x6,.int .i64 (IntKind.i64.wrap (x7 + (IntKind.i64.wrap (x_4)))),.int .i64 x8,g9,g10,g11,g12,g13,g14,g15,g16,g17,g18,g19,g20,g21,g22,g23,g24,g25,g26,g27,g28,g29,g30,g31,g32,g33,g34,g35,g36,g37,g38,g39,g40,g41,g42,g43,g44,g45,g46,g47,g48,g49,g50,g51,g52,g53,g54,g55,g56,g57,.int .i64 x7,.slice Ax0 lx0 cx0,.int .i64 x8,.pointer (some a_1),.pointer (some ⟨a_1.block, a_1.off, none⟩),.slice s_2.1 (s_2.2.1) (s_2.2.2),.int .i64 x6,.pointer (some a_3),.int .u16 x_4,.int .i64 (IntKind.i64.wrap (x_4)),.int .i64 (IntKind.i64.wrap (x7 + (IntKind.i64.wrap (x_4)))),g69,g70,g71,g72,g73,g74,g75,g76,g77,g78,g79] M := by kernel_rfl
theorem k18_65 : P18 [1,1,1,1,0,1,0,0,1,0,0,1,0,1,0,0,1,1] = .region 15 (O18 [1,1,1,1,0,1,0,0,1,0,0,1,0,1,0,0,1,1]) false := by kernel_rfl
theorem r18_15 {x8 : Int} {M : Mem} {call : CallM} {K : Array Value → Mem → R} :
    opsK Try.prog (fun _ => call) (O18 [1,1,1,1,0,1,0,0,1,0,0,1,0,1,0,0,1,1]) (O18 [1,1,1,1,0,1,0,0,1,0,0,1,0,1,0,0,1,1]).toList 0 #[g0,g1,g2,g3,g4,g5,g6,g7,.int .i64 x8,g9,g10,g11,g12,g13,g14,g15,g16,g17,g18,g19,g20,g21,g22,g23,g24,g25,g26,g27,g28,g29,g30,g31,g32,g33,g34,g35,g36,g37,g38,g39,g40,g41,g42,g43,g44,g45,g46,g47,g48,g49,g50,g51,g52,g53,g54,g55,g56,g57,g58,g59,g60,g61,g62,g63,g64,g65,g66,g67,g68,g69,g70,g71,g72,g73,g74,g75,g76,g77,g78,g79] M K = K #[g0,g1,g2,g3,g4,g5,g6,g7,.int .i64 (IntKind.i64.wrap (x8 + 1)),g9,g10,g11,g12,g13,g14,g15,g16,g17,g18,g19,g20,g21,g22,g23,g24,g25,g26,g27,g28,g29,g30,g31,g32,g33,g34,g35,g36,g37,g38,g39,g40,g41,g42,g43,g44,g45,g46,g47,g48,g49,g50,g51,g52,g53,g54,g55,.int .i64 x8,.int .i64 (IntKind.i64.wrap (x8 + 1)),g58,g59,g60,g61,g62,g63,g64,g65,g66,g67,g68,g69,g70,g71,g72,g73,g74,g75,g76,g77,g78,g79] M := by kernel_rfl
theorem k18_66 : P18 [1,1,1,1,0,1,0,0,1,0,0,1,0,1,0,0,0,1,1] = .exit 4 := by kernel_rfl
theorem k18_67 : P18 [1,1,1,1,0,1,0,0,1,0,0,1,1] = .region 17 (O18 [1,1,1,1,0,1,0,0,1,0,0,1,1]) true ∧ drawOk (O18 [1,1,1,1,0,1,0,0,1,0,0,1,1]) = true := ⟨by kernel_rfl, by kernel_rfl⟩
theorem r18_17 {Ax0 : Option Addr} {lx0 cx0 : Nat} {x5 : Option Addr} {x7 : Int} {M : Mem} {call : CallM} {K : Array Value → Mem → R} :
    opsI Try.prog (callAt call (O18 [1,1,1,1,0,1,0,0,1,0,0,1,1])) (O18 [1,1,1,1,0,1,0,0,1,0,0,1,1]) (ordOf (O18 [1,1,1,1,0,1,0,0,1,0,0,1,1])) [] #[.slice Ax0 lx0 cx0,g1,g2,g3,g4,.pointer x5,g6,.int .i64 x7,g8,g9,g10,g11,g12,g13,g14,g15,g16,g17,g18,g19,g20,g21,g22,g23,g24,g25,g26,g27,g28,g29,g30,g31,g32,g33,g34,g35,g36,g37,g38,g39,g40,g41,g42,g43,g44,g45,g46,g47,g48,g49,g50,g51,g52,g53,g54,g55,g56,g57,g58,g59,g60,g61,g62,g63,g64,g65,g66,g67,g68,g69,g70,g71,g72,g73,g74,g75,g76,g77,g78,g79] M K = (x5).bind fun a_1 => (M.slAt a_1.block a_1.off).bind fun s_2 => (binV Try.prog .quo 3 3 (.int .i64 x7) (.int .i64 ((lx0 : Int)))).bind fun v_3 => (asI .i64 v_3).bind fun x_4 => (appendP Try.prog #[22, 22] (.slice s_2.1 (s_2.2.1) (s_2.2.2)) (.slice (some ⟨2 * M.nb.size, 0, none⟩) 1 1) (M.new (.cells #[.int .u16 (IntKind.u16.wrap (x_4))] 47))).bind fun r_5 => (asS r_5.1).bind fun s_6 => (x5).bind fun a_7 => (r_5.2.put a_7.block a_7.off (.slice s_6.1 (s_6.2.1) (s_6.2.2))).bind fun M_8 => K #[.slice Ax0 lx0 cx0,g1,g2,g3,g4,.pointer x5,g6,.int .i64 x7,g8,g9,g10,g11,g12,g13,g14,g15,g16,g17,g18,g19,g20,g21,g22,g23,g24,g25,g26,g27,g28,g29,g30,g31,g32,g33,g34,g35,g36,g37,g38,g39,g40,g41,g42,g43,g44,g45,g46,g47,g48,g49,g50,g51,g52,g53,g54,g55,g56,g57,g58,g59,g60,g61,g62,g63,g64,g65,g66,g67,g68,.pointer (some ⟨a_1.block, a_1.off, none⟩),.slice s_2.1 (s_2.2.1) (s_2.2.2),.int .i64 x7,.slice Ax0 lx0 cx0,.int .i64 ((lx0 : Int)),.int .i64 x_4,.int .u16 (IntKind.u16.wrap (x_4)),.slice (some ⟨2 * M.nb.size, 0, none⟩) 1 1,.slice s_6.1 (s_6.2.1) (s_6.2.2),.pointer (some ⟨a_7.block, a_7.off, none⟩),g79] M_8 := by kernel_rfl
theorem k18_68 : P18 [1,1,1,1,0,1,0,0,1,1] = .region 11 (O18 [1,1,1,1,0,1,0,0,1,1]) false := by kernel_rfl
theorem r18_11 {x6 : Int} {M : Mem} {call : CallM} {K : Array Value → Mem → R} :
    opsK Try.prog (fun _ => call) (O18 [1,1,1,1,0,1,0,0,1,1]) (O18 [1,1,1,1,0,1,0,0,1,1]).toList 0 #[g0,g1,g2,g3,g4,g5,.int .i64 x6,g7,g8,g9,g10,g11,g12,g13,g14,g15,g16,g17,g18,g19,g20,g21,g22,g23,g24,g25,g26,g27,g28,g29,g30,g31,g32,g33,g34,g35,g36,g37,g38,g39,g40,g41,g42,g43,g44,g45,g46,g47,g48,g49,g50,g51,g52,g53,g54,g55,g56,g57,g58,g59,g60,g61,g62,g63,g64,g65,g66,g67,g68,g69,g70,g71,g72,g73,g74,g75,g76,g77,g78,g79] M K = K #[g0,g1,g2,g3,g4,g5,.int .i64 (IntKind.i64.wrap (x6 + 1)),g7,g8,g9,g10,g11,g12,g13,g14,g15,g16,g17,g18,g19,g20,g21,g22,g23,g24,g25,g26,g27,g28,g29,g30,g31,g32,g33,g34,g35,g36,g37,g38,g39,g40,g41,g42,g43,g44,g45,g46,.int .i64 x6,.int .i64 (IntKind.i64.wrap (x6 + 1)),g49,g50,g51,g52,g53,g54,g55,g56,g57,g58,g59,g60,g61,g62,g63,g64,g65,g66,g67,g68,g69,g70,g71,g72,g73,g74,g75,g76,g77,g78,g79] M := by kernel_rfl
noncomputable def S18_1 : List Item := [.code (P18 [1,1,0,1,0,0]), .inLoop (P18 [1,1,0,1,0,0]), .inBlock 0, .code (P18 [1,1,1])]
def A18_1 (Ax0 : Option Addr) (lx0 cx0 : Nat) (x2 : Option Addr) (x4 : Int) (M : Mem) (Q : Value → Mem → Prop) : Prop := ∀ (g1 g3 g5 g6 g7 g8 g9 g10 g11 g12 g13 g14 g15 g16 g17 g18 g19 g20 g21 g22 g23 g24 g25 g26 g27 g28 g29 g30 g31 g32 g33 g34 g35 g36 g37 g38 g39 g40 g41 g42 g43 g44 g45 g46 g47 g48 g49 g50 g51 g52 g53 g54 g55 g56 g57 g58 g59 g60 g61 g62 g63 g64 g65 g66 g67 g68 g69 g70 g71 g72 g73 g74 g75 g76 g77 g78 g79 : Value), Rn Try.prog Try.f18 S18_1 #[.slice Ax0 lx0 cx0, g1, .pointer x2, g3, .int .i64 x4, g5, g6, g7, g8, g9, g10, g11, g12, g13, g14, g15, g16, g17, g18, g19, g20, g21, g22, g23, g24, g25, g26, g27, g28, g29, g30, g31, g32, g33, g34, g35, g36, g37, g38, g39, g40, g41, g42, g43, g44, g45, g46, g47, g48, g49, g50, g51, g52, g53, g54, g55, g56, g57, g58, g59, g60, g61, g62, g63, g64, g65, g66, g67, g68, g69, g70, g71, g72, g73, g74, g75, g76, g77, g78, g79] M Q
noncomputable def S18_2 : List Item := [.code (P18 [1,1,0,1,0,0,1,0,0,1]), .inBlock 1, .code (P18 [1,1,0,1,0,0,1,1]), .inLoop (P18 [1,1,0,1,0,0]), .inBlock 0, .code (P18 [1,1,1])]
def A18_2 (Ax0 : Option Addr) (lx0 cx0 : Nat) (x2 : Option Addr) (x4 : Int) (x38 : Bool) (M : Mem) (Q : Value → Mem → Prop) : Prop := ∀ (g1 g3 g5 g6 g7 g8 g9 g10 g11 g12 g13 g14 g15 g16 g17 g18 g19 g20 g21 g22 g23 g24 g25 g26 g27 g28 g29 g30 g31 g32 g33 g34 g35 g36 g37 g39 g40 g41 g42 g43 g44 g45 g46 g47 g48 g49 g50 g51 g52 g53 g54 g55 g56 g57 g58 g59 g60 g61 g62 g63 g64 g65 g66 g67 g68 g69 g70 g71 g72 g73 g74 g75 g76 g77 g78 g79 : Value), Rn Try.prog Try.f18 S18_2 #[.slice Ax0 lx0 cx0, g1, .pointer x2, g3, .int .i64 x4, g5, g6, g7, g8, g9, g10, g11, g12, g13, g14, g15, g16, g17, g18, g19, g20, g21, g22, g23, g24, g25, g26, g27, g28, g29, g30, g31, g32, g33, g34, g35, g36, g37, .bool x38, g39, g40, g41, g42, g43, g44, g45, g46, g47, g48, g49, g50, g51, g52, g53, g54, g55, g56, g57, g58, g59, g60, g61, g62, g63, g64, g65, g66, g67, g68, g69, g70, g71, g72, g73, g74, g75, g76, g77, g78, g79] M Q
noncomputable def S18_3 : List Item := [.code (P18 [1,1,1,1,0,1,0,0]), .inLoop (P18 [1,1,1,1,0,1,0,0]), .inBlock 2, .code (P18 [1,1,1,1,1])]
def A18_3 (Ax0 : Option Addr) (lx0 cx0 : Nat) (x2 x5 : Option Addr) (x6 : Int) (M : Mem) (Q : Value → Mem → Prop) : Prop := ∀ (g1 g3 g4 g7 g8 g9 g10 g11 g12 g13 g14 g15 g16 g17 g18 g19 g20 g21 g22 g23 g24 g25 g26 g27 g28 g29 g30 g31 g32 g33 g34 g35 g36 g37 g38 g39 g40 g41 g42 g43 g44 g45 g46 g47 g48 g49 g50 g51 g52 g53 g54 g55 g56 g57 g58 g59 g60 g61 g62 g63 g64 g65 g66 g67 g68 g69 g70 g71 g72 g73 g74 g75 g76 g77 g78 g79 : Value), Rn Try.prog Try.f18 S18_3 #[.slice Ax0 lx0 cx0, g1, .pointer x2, g3, g4, .pointer x5, .int .i64 x6, g7, g8, g9, g10, g11, g12, g13, g14, g15, g16, g17, g18, g19, g20, g21, g22, g23, g24, g25, g26, g27, g28, g29, g30, g31, g32, g33, g34, g35, g36, g37, g38, g39, g40, g41, g42, g43, g44, g45, g46, g47, g48, g49, g50, g51, g52, g53, g54, g55, g56, g57, g58, g59, g60, g61, g62, g63, g64, g65, g66, g67, g68, g69, g70, g71, g72, g73, g74, g75, g76, g77, g78, g79] M Q
noncomputable def S18_4 : List Item := [.code (P18 [1,1,1,1,0,1,0,0,1,0,0,1,0,1,0,0]), .inLoop (P18 [1,1,1,1,0,1,0,0,1,0,0,1,0,1,0,0]), .inBlock 4, .code (P18 [1,1,1,1,0,1,0,0,1,0,0,1,1]), .inBlock 3, .code (P18 [1,1,1,1,0,1,0,0,1,1]), .inLoop (P18 [1,1,1,1,0,1,0,0]), .inBlock 2, .code (P18 [1,1,1,1,1])]
def A18_4 (Ax0 : Option Addr) (lx0 cx0 : Nat) (x2 x5 : Option Addr) (x6 x7 x8 : Int) (M : Mem) (Q : Value → Mem → Prop) : Prop := ∀ (g1 g3 g4 g9 g10 g11 g12 g13 g14 g15 g16 g17 g18 g19 g20 g21 g22 g23 g24 g25 g26 g27 g28 g29 g30 g31 g32 g33 g34 g35 g36 g37 g38 g39 g40 g41 g42 g43 g44 g45 g46 g47 g48 g49 g50 g51 g52 g53 g54 g55 g56 g57 g58 g59 g60 g61 g62 g63 g64 g65 g66 g67 g68 g69 g70 g71 g72 g73 g74 g75 g76 g77 g78 g79 : Value), Rn Try.prog Try.f18 S18_4 #[.slice Ax0 lx0 cx0, g1, .pointer x2, g3, g4, .pointer x5, .int .i64 x6, .int .i64 x7, .int .i64 x8, g9, g10, g11, g12, g13, g14, g15, g16, g17, g18, g19, g20, g21, g22, g23, g24, g25, g26, g27, g28, g29, g30, g31, g32, g33, g34, g35, g36, g37, g38, g39, g40, g41, g42, g43, g44, g45, g46, g47, g48, g49, g50, g51, g52, g53, g54, g55, g56, g57, g58, g59, g60, g61, g62, g63, g64, g65, g66, g67, g68, g69, g70, g71, g72, g73, g74, g75, g76, g77, g78, g79] M Q
theorem w18_0 {Ax0 : Option Addr} {lx0 cx0 : Nat} {M : Mem} {Q : Value → Mem → Prop} (H :
    ((((lx0 : Int)) = 0 →
     ∃ M1', (M.new (.cells #[.slice none 0 0, .int .i64 0] 24)).put (2 * M.nb.size) 0 (.slice none 0 0) = some M1' ∧
     ∃ M2', M1'.put (2 * M.nb.size) (0 + 1) (.int .i64 0) = some M2' ∧
     ∃ s3', M2'.slAt (2 * M.nb.size) 0 = some s3' ∧
     ∃ x4', M2'.intAt .i64 (2 * M.nb.size) (0 + 1) = some x4' ∧
     Q (.tuple #[.agg #[.slice s3'.1 (s3'.2.1) (s3'.2.2), .int .i64 (x4')], .int .i64 2]) M2') ∧
     (((lx0 : Int)) ≠ 0 →
     A18_1 Ax0 lx0 cx0 (some ⟨2 * M.nb.size, 0, none⟩) 0 (M.new (.cells #[.slice none 0 0, .int .i64 0] 24)) Q))) :
    Cn Try.prog 18 #[.slice Ax0 lx0 cx0] M Q := by
  refine Cn.of b18 d18 t18 ?_
  refine Rn.seq k18_0 (Rn.region k18_1 (fun call K => r18_0) (Rch.leaf (Rn.seq k18_2 (Rn.seq k18_3 (Rn.region k18_4 (fun call K => r18_1) (Rch.leaf ?_))))))
  refine Rn.cnd (v := ((lx0 : Int)) == 0) ⟨c18_5, rfl, by kernel_rfl⟩ (fun h => ?_) (fun h => ?_)
  · replace H := H.1 (eq_of_beq h)
    refine Rn.seq k18_6 (Rn.region k18_7 (fun call K => r18_2) (Rch.bind (x := ⟨2 * M.nb.size, 0, none⟩) rfl (Rch.ex H fun M1' H => Rch.ex H fun M2' H => Rch.leaf (Rn.retK k18_8 (fun K => e18_0) (Rch.bind (x := ⟨2 * M.nb.size, 0, none⟩) rfl (Rch.ex H fun s3' H => Rch.ex H fun x4' H => ?_))))))
    exact Rch.fin H
  · replace H := H.2 (ne_of_beq_false h)
    refine Rn.skip k18_10 (Rn.seq k18_11 (Rn.seq k18_12 (Rn.region k18_13 (fun call K => r18_3) (Rch.leaf (Rn.block k18_14 (Rn.loop k18_15 ?_))))))
    exact H _ _ _ _ _ _ _ _ _ _ _ _ _ _ _ _ _ _ _ _ _ _ _ _ _ _ _ _ _ _ _ _ _ _ _ _ _ _ _ _ _ _ _ _ _ _ _ _ _ _ _ _ _ _ _ _ _ _ _ _ _ _ _ _ _ _ _ _ _ _ _ _ _ _ _ _ _

theorem w18_1 {Ax0 : Option Addr} {lx0 cx0 : Nat} {x2 : Option Addr} {x4 : Int} {M : Mem} {Q : Value → Mem → Prop} (H :
    ((x4 < ((lx0 : Int)) →
     ∃ a5', idxA Ax0 lx0 2 x4 = some a5' ∧
     ∃ s6', M.slAt a5'.block a5'.off = some s6' ∧
     ∃ x7', M.intAt .i64 a5'.block (a5'.off + 1) = some x7' ∧
     Cn Try.prog 29 #[.agg #[.slice s6'.1 (s6'.2.1) (s6'.2.2), .int .i64 x7']] M fun v8' N8' =>
      ∃ x9', asI .i64 v8' = some x9' ∧
      ((x9' ≠ 0 →
       A18_2 Ax0 lx0 cx0 x2 x4 true N8' Q) ∧
       (x9' = 0 →
       ∃ a10', idxA Ax0 lx0 2 x4 = some a10' ∧
       ∃ s11', N8'.slAt a10'.block a10'.off = some s11' ∧
       ∃ a12', idxA Ax0 lx0 2 0 = some a12' ∧
       ∃ s13', N8'.slAt a12'.block a12'.off = some s13' ∧
       A18_2 Ax0 lx0 cx0 x2 x4 (((s11'.2.1 : Int)) != ((s13'.2.1 : Int))) N8' Q))) ∧
     (¬ (x4 < ((lx0 : Int))) →
     A18_3 Ax0 lx0 cx0 x2 (some ⟨2 * M.nb.size, 0, none⟩) 0 (M.new (.cells #[.slice none 0 0, .int .i64 0] 24)) Q))) :
    A18_1 Ax0 lx0 cx0 x2 x4 M Q := by
  intro g1 g3 g5 g6 g7 g8 g9 g10 g11 g12 g13 g14 g15 g16 g17 g18 g19 g20 g21 g22 g23 g24 g25 g26 g27 g28 g29 g30 g31 g32 g33 g34 g35 g36 g37 g38 g39 g40 g41 g42 g43 g44 g45 g46 g47 g48 g49 g50 g51 g52 g53 g54 g55 g56 g57 g58 g59 g60 g61 g62 g63 g64 g65 g66 g67 g68 g69 g70 g71 g72 g73 g74 g75 g76 g77 g78 g79
  refine Rn.seq k18_16 (Rn.seq k18_17 (Rn.region k18_18 (fun call K => r18_4) (Rch.leaf ?_)))
  refine Rn.cnd (v := decide (x4 < ((lx0 : Int)))) ⟨c18_19, rfl, by kernel_rfl⟩ (fun h => ?_) (fun h => ?_)
  · replace H := H.1 (of_decide_eq_true h)
    refine Rn.skip k18_20 (Rn.seq k18_21 (Rn.block k18_22 (Rn.seq k18_23 (Rn.regionD k18_24 (fun call K => r18_6) (Rch.ex H fun a5' H => Rch.ex H fun s6' H => Rch.ex H fun x7' H => Rch.call H fun v8' N8' H => Rch.ex H fun x9' H => ?_)))))
    refine Rch.cB (fun h => ?_) (fun h => ?_)
    · replace H := H.1 (ne_of_bneT h)
      refine Rch.leaf ?_
      exact H _ _ _ _ _ _ _ _ _ _ _ _ _ _ _ _ _ _ _ _ _ _ _ _ _ _ _ _ _ _ _ _ _ _ _ _ _ _ _ _ _ _ _ _ _ _ _ _ _ _ _ _ _ _ _ _ _ _ _ _ _ _ _ _ _ _ _ _ _ _ _ _ _ _ _ _
    · replace H := H.2 (eq_of_bneF h)
      refine Rch.ex H fun a10' H => Rch.ex H fun s11' H => Rch.ex H fun a12' H => Rch.ex H fun s13' H => Rch.leaf ?_
      exact H _ _ _ _ _ _ _ _ _ _ _ _ _ _ _ _ _ _ _ _ _ _ _ _ _ _ _ _ _ _ _ _ _ _ _ _ _ _ _ _ _ _ _ _ _ _ _ _ _ _ _ _ _ _ _ _ _ _ _ _ _ _ _ _ _ _ _ _ _ _ _ _ _ _ _ _
  · replace H := H.2 (of_decide_eq_false h)
    refine Rn.exit k18_25 rfl (Rn.seq k18_26 (Rn.region k18_27 (fun call K => r18_8) (Rch.leaf (Rn.seq k18_28 (Rn.seq k18_29 (Rn.region k18_30 (fun call K => r18_9) (Rch.leaf (Rn.block k18_31 (Rn.loop k18_32 ?_)))))))))
    exact H _ _ _ _ _ _ _ _ _ _ _ _ _ _ _ _ _ _ _ _ _ _ _ _ _ _ _ _ _ _ _ _ _ _ _ _ _ _ _ _ _ _ _ _ _ _ _ _ _ _ _ _ _ _ _ _ _ _ _ _ _ _ _ _ _ _ _ _ _ _ _ _ _ _ _ _

theorem w18_2 {Ax0 : Option Addr} {lx0 cx0 : Nat} {x2 : Option Addr} {x4 : Int} {x38 : Bool} {M : Mem} {Q : Value → Mem → Prop} (H :
    ((x38 = true →
     ∃ a14', x2 = some a14' ∧
     ∃ M15', M.put a14'.block a14'.off (.slice none 0 0) = some M15' ∧
     ∃ M16', M15'.put a14'.block (a14'.off + 1) (.int .i64 0) = some M16' ∧
     ∃ a17', x2 = some a17' ∧
     ∃ s18', M16'.slAt a17'.block a17'.off = some s18' ∧
     ∃ x19', M16'.intAt .i64 a17'.block (a17'.off + 1) = some x19' ∧
     Q (.tuple #[.agg #[.slice s18'.1 (s18'.2.1) (s18'.2.2), .int .i64 (x19')], .int .i64 2]) M16') ∧
     (x38 = false →
     A18_1 Ax0 lx0 cx0 x2 (IntKind.i64.wrap (x4 + 1)) M Q))) :
    A18_2 Ax0 lx0 cx0 x2 x4 x38 M Q := by
  intro g1 g3 g5 g6 g7 g8 g9 g10 g11 g12 g13 g14 g15 g16 g17 g18 g19 g20 g21 g22 g23 g24 g25 g26 g27 g28 g29 g30 g31 g32 g33 g34 g35 g36 g37 g39 g40 g41 g42 g43 g44 g45 g46 g47 g48 g49 g50 g51 g52 g53 g54 g55 g56 g57 g58 g59 g60 g61 g62 g63 g64 g65 g66 g67 g68 g69 g70 g71 g72 g73 g74 g75 g76 g77 g78 g79
  refine Rn.cnd (v := x38) ⟨c18_33, rfl, by kernel_rfl⟩ (fun h => ?_) (fun h => ?_)
  · replace H := H.1 (h)
    refine Rn.seq k18_34 (Rn.region k18_35 (fun call K => r18_7) (Rch.ex H fun a14' H => Rch.ex H fun M15' H => Rch.ex H fun M16' H => Rch.leaf (Rn.retK k18_36 (fun K => e18_0) (Rch.ex H fun a17' H => Rch.ex H fun s18' H => Rch.ex H fun x19' H => ?_))))
    exact Rch.fin H
  · replace H := H.2 (h)
    refine Rn.skip k18_37 (Rn.blk (Rn.region k18_38 (fun call K => r18_5) (Rch.leaf (Rn.lp ?_))))
    exact H _ _ _ _ _ _ _ _ _ _ _ _ _ _ _ _ _ _ _ _ _ _ _ _ _ _ _ _ _ _ _ _ _ _ _ _ _ _ _ _ _ _ _ _ _ _ _ _ _ _ _ _ _ _ _ _ _ _ _ _ _ _ _ _ _ _ _ _ _ _ _ _ _ _ _ _ _

theorem w18_3 {Ax0 : Option Addr} {lx0 cx0 : Nat} {x2 x5 : Option Addr} {x6 : Int} {M : Mem} {Q : Value → Mem → Prop} (H :
    ∃ a20', idxA Ax0 lx0 2 0 = some a20' ∧
    ∃ s21', M.slAt a20'.block a20'.off = some s21' ∧
    ((x6 < ((s21'.2.1 : Int)) →
     A18_4 Ax0 lx0 cx0 x2 x5 x6 (IntKind.i64.wrap (((lx0 : Int)).tdiv 2)) 0 M Q) ∧
     (¬ (x6 < ((s21'.2.1 : Int))) →
     ∃ a22', x5 = some a22' ∧
     ∃ s23', M.slAt a22'.block a22'.off = some s23' ∧
     ∃ x24', M.intAt .i64 a22'.block (a22'.off + 1) = some x24' ∧
     ∃ a25', x2 = some a25' ∧
     ∃ M26', M.put a25'.block a25'.off (.slice s23'.1 (s23'.2.1) (s23'.2.2)) = some M26' ∧
     ∃ M27', M26'.put a25'.block (a25'.off + 1) (.int .i64 x24') = some M27' ∧
     ∃ a28', x2 = some a28' ∧
     ∃ s29', M27'.slAt a28'.block a28'.off = some s29' ∧
     ∃ x30', M27'.intAt .i64 a28'.block (a28'.off + 1) = some x30' ∧
     Q (.tuple #[.agg #[.slice s29'.1 (s29'.2.1) (s29'.2.2), .int .i64 (x30')], .int .i64 0]) M27'))) :
    A18_3 Ax0 lx0 cx0 x2 x5 x6 M Q := by
  intro g1 g3 g4 g7 g8 g9 g10 g11 g12 g13 g14 g15 g16 g17 g18 g19 g20 g21 g22 g23 g24 g25 g26 g27 g28 g29 g30 g31 g32 g33 g34 g35 g36 g37 g38 g39 g40 g41 g42 g43 g44 g45 g46 g47 g48 g49 g50 g51 g52 g53 g54 g55 g56 g57 g58 g59 g60 g61 g62 g63 g64 g65 g66 g67 g68 g69 g70 g71 g72 g73 g74 g75 g76 g77 g78 g79
  refine Rn.seq k18_39 (Rn.seq k18_40 (Rn.region k18_41 (fun call K => r18_10) (Rch.ex H fun a20' H => Rch.ex H fun s21' H => Rch.leaf ?_)))
  refine Rn.cnd (v := decide (x6 < ((s21'.2.1 : Int)))) ⟨c18_42, rfl, by kernel_rfl⟩ (fun h => ?_) (fun h => ?_)
  · replace H := H.1 (of_decide_eq_true h)
    refine Rn.skip k18_43 (Rn.seq k18_44 (Rn.block k18_45 (Rn.seq k18_46 (Rn.region k18_47 (fun call K => r18_12) (Rch.leaf (Rn.seq k18_48 (Rn.seq k18_49 (Rn.region k18_50 (fun call K => r18_13) (Rch.leaf (Rn.block k18_51 (Rn.loop k18_52 ?_)))))))))))
    exact H _ _ _ _ _ _ _ _ _ _ _ _ _ _ _ _ _ _ _ _ _ _ _ _ _ _ _ _ _ _ _ _ _ _ _ _ _ _ _ _ _ _ _ _ _ _ _ _ _ _ _ _ _ _ _ _ _ _ _ _ _ _ _ _ _ _ _ _ _ _ _ _ _ _
  · replace H := H.2 (of_decide_eq_false h)
    refine Rn.exit k18_53 rfl (Rn.seq k18_54 (Rn.region k18_55 (fun call K => r18_18) (Rch.ex H fun a22' H => Rch.ex H fun s23' H => Rch.ex H fun x24' H => Rch.ex H fun a25' H => Rch.ex H fun M26' H => Rch.ex H fun M27' H => Rch.leaf (Rn.retK k18_56 (fun K => e18_0) (Rch.ex H fun a28' H => ?_)))))
    refine Rch.ex H fun s29' H => Rch.ex H fun x30' H => ?_
    exact Rch.fin H

theorem w18_4 {Ax0 : Option Addr} {lx0 cx0 : Nat} {x2 x5 : Option Addr} {x6 x7 x8 : Int} {M : Mem} {Q : Value → Mem → Prop} (H :
    ((x8 < ((lx0 : Int)) →
     ∃ a31', idxA Ax0 lx0 2 x8 = some a31' ∧
     ∃ s32', M.slAt a31'.block a31'.off = some s32' ∧
     ∃ a33', idxA s32'.1 (s32'.2.1) 1 x6 = some a33' ∧
     ∃ x34', M.intAt .u16 a33'.block a33'.off = some x34' ∧
     A18_4 Ax0 lx0 cx0 x2 x5 x6 (IntKind.i64.wrap (x7 + (IntKind.i64.wrap (x34')))) (IntKind.i64.wrap (x8 + 1)) M Q) ∧
     (¬ (x8 < ((lx0 : Int))) →
     ∃ a35', x5 = some a35' ∧
     ∃ s36', M.slAt a35'.block a35'.off = some s36' ∧
     ∃ v37', binV Try.prog .quo 3 3 (.int .i64 x7) (.int .i64 ((lx0 : Int))) = some v37' ∧
     ∃ x38', asI .i64 v37' = some x38' ∧
     ∃ r39', appendP Try.prog #[22, 22] (.slice s36'.1 (s36'.2.1) (s36'.2.2)) (.slice (some ⟨2 * M.nb.size, 0, none⟩) 1 1) (M.new (.cells #[.int .u16 (IntKind.u16.wrap (x38'))] 47)) = some r39' ∧
     ∃ s40', asS r39'.1 = some s40' ∧
     ∃ a41', x5 = some a41' ∧
     ∃ M42', r39'.2.put a41'.block a41'.off (.slice s40'.1 (s40'.2.1) (s40'.2.2)) = some M42' ∧
     A18_3 Ax0 lx0 cx0 x2 x5 (IntKind.i64.wrap (x6 + 1)) M42' Q))) :
    A18_4 Ax0 lx0 cx0 x2 x5 x6 x7 x8 M Q := by
  intro g1 g3 g4 g9 g10 g11 g12 g13 g14 g15 g16 g17 g18 g19 g20 g21 g22 g23 g24 g25 g26 g27 g28 g29 g30 g31 g32 g33 g34 g35 g36 g37 g38 g39 g40 g41 g42 g43 g44 g45 g46 g47 g48 g49 g50 g51 g52 g53 g54 g55 g56 g57 g58 g59 g60 g61 g62 g63 g64 g65 g66 g67 g68 g69 g70 g71 g72 g73 g74 g75 g76 g77 g78 g79
  refine Rn.seq k18_57 (Rn.seq k18_58 (Rn.region k18_59 (fun call K => r18_14) (Rch.leaf ?_)))
  refine Rn.cnd (v := decide (x8 < ((lx0 : Int)))) ⟨c18_60, rfl, by kernel_rfl⟩ (fun h => ?_) (fun h => ?_)
  · replace H := H.1 (of_decide_eq_true h)
    refine Rn.skip k18_61 (Rn.seq k18_62 (Rn.block k18_63 (Rn.region k18_64 (fun call K => r18_16) (Rch.ex H fun a31' H => Rch.ex H fun s32' H => Rch.ex H fun a33' H => Rch.ex H fun x34' H => Rch.leaf (Rn.blk (Rn.region k18_65 (fun call K => r18_15) (Rch.leaf ?_)))))))
    refine Rn.lp ?_
    exact H _ _ _ _ _ _ _ _ _ _ _ _ _ _ _ _ _ _ _ _ _ _ _ _ _ _ _ _ _ _ _ _ _ _ _ _ _ _ _ _ _ _ _ _ _ _ _ _ _ _ _ _ _ _ _ _ _ _ _ _ _ _ _ _ _ _ _ _ _ _ _ _ _ _
  · replace H := H.2 (of_decide_eq_false h)
    refine Rn.exit k18_66 rfl (Rn.regionD k18_67 (fun call K => r18_17) (Rch.ex H fun a35' H => Rch.ex H fun s36' H => Rch.ex H fun v37' H => Rch.ex H fun x38' H => Rch.ex H fun r39' H => Rch.ex H fun s40' H => Rch.ex H fun a41' H => Rch.ex H fun M42' H => Rch.leaf (Rn.blk ?_)))
    refine Rn.region k18_68 (fun call K => r18_11) (Rch.leaf (Rn.lp ?_))
    exact H _ _ _ _ _ _ _ _ _ _ _ _ _ _ _ _ _ _ _ _ _ _ _ _ _ _ _ _ _ _ _ _ _ _ _ _ _ _ _ _ _ _ _ _ _ _ _ _ _ _ _ _ _ _ _ _ _ _ _ _ _ _ _ _ _ _ _ _ _ _ _ _ _ _ _ _


end Go.Zt
