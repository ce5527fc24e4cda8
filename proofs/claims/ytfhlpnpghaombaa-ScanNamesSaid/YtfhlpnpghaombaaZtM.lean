/- The functions' walks: for each function and each loop a rule of what it comes to. Printed by zw.py. -/
import Derived.Test.YtfhlpnpghaombaaProg
import Derived.Test.YtfhlpnpghaombaaZsN
set_option linter.unusedVariables false
set_option maxRecDepth 100000
namespace Go.Zt
open Go Go.Sim Go.Proofs

/-! ### zoetrope/zoetropelaw10.ScanContexts: function 6 -/
theorem b6 : Try.prog.funcs[6]? = some Try.f6 := by kernel_rfl
theorem d6 : Try.f6.body = some (subC (codeOf Try.f6) []) := by kernel_rfl
theorem t6 {Ax0 : Option Addr} {lx0 : Nat} {cx0 : Nat} {x1 : Int} {x2 : Int} : #[.slice Ax0 lx0 cx0, .int .i64 x1, .int .i64 x2] ++ Array.replicate (Try.f6.ntmps - (#[.slice Ax0 lx0 cx0, .int .i64 x1, .int .i64 x2] : Array Value).size) undef = #[.slice Ax0 lx0 cx0, .int .i64 x1, .int .i64 x2, undef, undef, undef, undef, undef, undef, undef, undef, undef, undef, undef, undef, undef, undef, undef, undef, undef, undef, undef, undef, undef, undef, undef, undef, undef, undef, undef, undef, undef, undef, undef, undef, undef, undef, undef, undef, undef, undef, undef, undef, undef, undef, undef, undef, undef, undef, undef, undef, undef, undef, undef, undef, undef, undef, undef, undef, undef, undef, undef, undef, undef, undef, undef, undef, undef, undef, undef, undef, undef, undef, undef, undef, undef, undef, undef, undef, undef] := by kernel_rfl
theorem k6_0 : subC (codeOf Try.f6) [] = .seq (subC (codeOf Try.f6) [0]) (subC (codeOf Try.f6) [1]) := by kernel_rfl
theorem k6_1 : subC (codeOf Try.f6) [0] = .region 0 (opsOf (subC (codeOf Try.f6) [0])) false := by kernel_rfl
theorem r6_0 {g0 g1 g2 g3 g4 g5 g6 g7 g8 g9 g10 g11 g12 g13 g14 g15 g16 g17 g18 g19 g20 g21 g22 g23 g24 g25 g26 g27 g28 g29 g30 g31 g32 g33 g34 g35 g36 g37 g38 g39 g40 g41 g42 g43 g44 g45 g46 g47 g48 g49 g50 g51 g52 g53 g54 g55 g56 g57 g58 g59 g60 g61 g62 g63 g64 g65 g66 g67 g68 g69 g70 g71 g72 g73 g74 g75 g76 g77 g78 g79 : Value} {M : Mem} {call : CallM} {K : Array Value → Mem → R} :
    opsK Try.prog (fun _ => call) (opsOf (subC (codeOf Try.f6) [0])) (opsOf (subC (codeOf Try.f6) [0])).toList 0 #[g0, g1, g2, g3, g4, g5, g6, g7, g8, g9, g10, g11, g12, g13, g14, g15, g16, g17, g18, g19, g20, g21, g22, g23, g24, g25, g26, g27, g28, g29, g30, g31, g32, g33, g34, g35, g36, g37, g38, g39, g40, g41, g42, g43, g44, g45, g46, g47, g48, g49, g50, g51, g52, g53, g54, g55, g56, g57, g58, g59, g60, g61, g62, g63, g64, g65, g66, g67, g68, g69, g70, g71, g72, g73, g74, g75, g76, g77, g78, g79] M K = K #[g0, g1, g2, g3, g4, g5, .bool false, g7, g8, g9, g10, g11, g12, g13, g14, g15, g16, g17, g18, g19, g20, g21, g22, g23, g24, g25, g26, g27, g28, g29, g30, g31, g32, g33, g34, g35, g36, g37, g38, g39, g40, g41, g42, g43, g44, g45, g46, g47, g48, g49, g50, g51, g52, g53, g54, g55, g56, g57, g58, g59, g60, g61, g62, g63, g64, g65, g66, g67, g68, g69, g70, g71, g72, g73, g74, g75, g76, g77, g78, g79] M := by kernel_rfl
theorem k6_2 : subC (codeOf Try.f6) [1] = .seq (subC (codeOf Try.f6) [1, 0]) (subC (codeOf Try.f6) [1, 1]) := by kernel_rfl
theorem k6_3 : subC (codeOf Try.f6) [1, 0] = .region 1 (opsOf (subC (codeOf Try.f6) [1, 0])) false := by kernel_rfl
theorem r6_1 {Ax0 : Option Addr} {lx0 : Nat} {cx0 : Nat} {g1 g2 g3 g4 g5 g6 g7 g8 g9 g10 g11 g12 g13 g14 g15 g16 g17 g18 g19 g20 g21 g22 g23 g24 g25 g26 g27 g28 g29 g30 g31 g32 g33 g34 g35 g36 g37 g38 g39 g40 g41 g42 g43 g44 g45 g46 g47 g48 g49 g50 g51 g52 g53 g54 g55 g56 g57 g58 g59 g60 g61 g62 g63 g64 g65 g66 g67 g68 g69 g70 g71 g72 g73 g74 g75 g76 g77 g78 g79 : Value} {M : Mem} {call : CallM} {K : Array Value → Mem → R} :
    opsK Try.prog (fun _ => call) (opsOf (subC (codeOf Try.f6) [1, 0])) (opsOf (subC (codeOf Try.f6) [1, 0])).toList 0 #[.slice Ax0 lx0 cx0, g1, g2, g3, g4, g5, g6, g7, g8, g9, g10, g11, g12, g13, g14, g15, g16, g17, g18, g19, g20, g21, g22, g23, g24, g25, g26, g27, g28, g29, g30, g31, g32, g33, g34, g35, g36, g37, g38, g39, g40, g41, g42, g43, g44, g45, g46, g47, g48, g49, g50, g51, g52, g53, g54, g55, g56, g57, g58, g59, g60, g61, g62, g63, g64, g65, g66, g67, g68, g69, g70, g71, g72, g73, g74, g75, g76, g77, g78, g79] M K = (call 16 #[.slice Ax0 lx0 cx0] M).bind fun r_1 => (asS r_1.1).bind fun s_2 => K #[.slice Ax0 lx0 cx0, g1, g2, g3, g4, g5, g6, .slice s_2.1 (s_2.2.1) (s_2.2.2), g8, g9, g10, g11, g12, g13, g14, g15, g16, g17, .slice Ax0 lx0 cx0, .slice s_2.1 (s_2.2.1) (s_2.2.2), g20, g21, g22, g23, g24, g25, g26, g27, g28, g29, g30, g31, g32, g33, g34, g35, g36, g37, g38, g39, g40, g41, g42, g43, g44, g45, g46, g47, g48, g49, g50, g51, g52, g53, g54, g55, g56, g57, g58, g59, g60, g61, g62, g63, g64, g65, g66, g67, g68, g69, g70, g71, g72, g73, g74, g75, g76, g77, g78, g79] r_1.2 := by kernel_rfl
theorem k6_4 : subC (codeOf Try.f6) [1, 1] = .seq (subC (codeOf Try.f6) [1, 1, 0]) (subC (codeOf Try.f6) [1, 1, 1]) := by kernel_rfl
theorem k6_5 : subC (codeOf Try.f6) [1, 1, 0] = .seq (subC (codeOf Try.f6) [1, 1, 0, 0]) (subC (codeOf Try.f6) [1, 1, 0, 1]) := by kernel_rfl
theorem k6_6 : subC (codeOf Try.f6) [1, 1, 0, 0] = .region 2 (opsOf (subC (codeOf Try.f6) [1, 1, 0, 0])) false := by kernel_rfl
theorem r6_2 {g0 g1 g2 g3 g4 g5 g6 g7 g8 g9 g10 g11 g12 g13 g14 g15 g16 g17 g18 g19 g20 g21 g22 g23 g24 g25 g26 g27 g28 g29 g30 g31 g32 g33 g34 g35 g36 g37 g38 g39 g40 g41 g42 g43 g44 g45 g46 g47 g48 g49 g50 g51 g52 g53 g54 g55 g56 g57 g58 g59 g60 g61 g62 g63 g64 g65 g66 g67 g68 g69 g70 g71 g72 g73 g74 g75 g76 g77 g78 g79 : Value} {M : Mem} {call : CallM} {K : Array Value → Mem → R} :
    opsK Try.prog (fun _ => call) (opsOf (subC (codeOf Try.f6) [1, 1, 0, 0])) (opsOf (subC (codeOf Try.f6) [1, 1, 0, 0])).toList 0 #[g0, g1, g2, g3, g4, g5, g6, g7, g8, g9, g10, g11, g12, g13, g14, g15, g16, g17, g18, g19, g20, g21, g22, g23, g24, g25, g26, g27, g28, g29, g30, g31, g32, g33, g34, g35, g36, g37, g38, g39, g40, g41, g42, g43, g44, g45, g46, g47, g48, g49, g50, g51, g52, g53, g54, g55, g56, g57, g58, g59, g60, g61, g62, g63, g64, g65, g66, g67, g68, g69, g70, g71, g72, g73, g74, g75, g76, g77, g78, g79] M K = K #[g0, g1, g2, g3, g4, g5, g6, g7, .int .i64 (-1), g9, g10, g11, g12, g13, g14, g15, g16, g17, g18, g19, g20, g21, g22, g23, g24, g25, g26, g27, g28, g29, g30, g31, g32, g33, g34, g35, g36, g37, g38, g39, g40, g41, g42, g43, g44, g45, g46, g47, g48, g49, g50, g51, g52, g53, g54, g55, g56, g57, g58, g59, g60, g61, g62, g63, g64, g65, g66, g67, g68, g69, g70, g71, g72, g73, g74, g75, g76, g77, g78, g79] M := by kernel_rfl
theorem k6_7 : subC (codeOf Try.f6) [1, 1, 0, 1] = .block 0 (subC (codeOf Try.f6) [1, 1, 0, 1, 0]) := by kernel_rfl
theorem k6_8 : subC (codeOf Try.f6) [1, 1, 0, 1, 0] = .loop (subC (codeOf Try.f6) [1, 1, 0, 1, 0, 0]) := by kernel_rfl
theorem k6_9 : subC (codeOf Try.f6) [1, 1, 0, 1, 0, 0] = .seq (subC (codeOf Try.f6) [1, 1, 0, 1, 0, 0, 0]) (subC (codeOf Try.f6) [1, 1, 0, 1, 0, 0, 1]) := by kernel_rfl
theorem k6_10 : subC (codeOf Try.f6) [1, 1, 0, 1, 0, 0, 0] = .seq (subC (codeOf Try.f6) [1, 1, 0, 1, 0, 0, 0, 0]) (subC (codeOf Try.f6) [1, 1, 0, 1, 0, 0, 0, 1]) := by kernel_rfl
theorem k6_11 : subC (codeOf Try.f6) [1, 1, 0, 1, 0, 0, 0, 0] = .region 3 (opsOf (subC (codeOf Try.f6) [1, 1, 0, 1, 0, 0, 0, 0])) false := by kernel_rfl
theorem r6_3 {x8 : Int} {g0 g1 g2 g3 g4 g5 g6 g7 g9 g10 g11 g12 g13 g14 g15 g16 g17 g18 g19 g20 g21 g22 g23 g24 g25 g26 g27 g28 g29 g30 g31 g32 g33 g34 g35 g36 g37 g38 g39 g40 g41 g42 g43 g44 g45 g46 g47 g48 g49 g50 g51 g52 g53 g54 g55 g56 g57 g58 g59 g60 g61 g62 g63 g64 g65 g66 g67 g68 g69 g70 g71 g72 g73 g74 g75 g76 g77 g78 g79 : Value} {M : Mem} {call : CallM} {K : Array Value → Mem → R} :
    opsK Try.prog (fun _ => call) (opsOf (subC (codeOf Try.f6) [1, 1, 0, 1, 0, 0, 0, 0])) (opsOf (subC (codeOf Try.f6) [1, 1, 0, 1, 0, 0, 0, 0])).toList 0 #[g0, g1, g2, g3, g4, g5, g6, g7, .int .i64 x8, g9, g10, g11, g12, g13, g14, g15, g16, g17, g18, g19, g20, g21, g22, g23, g24, g25, g26, g27, g28, g29, g30, g31, g32, g33, g34, g35, g36, g37, g38, g39, g40, g41, g42, g43, g44, g45, g46, g47, g48, g49, g50, g51, g52, g53, g54, g55, g56, g57, g58, g59, g60, g61, g62, g63, g64, g65, g66, g67, g68, g69, g70, g71, g72, g73, g74, g75, g76, g77, g78, g79] M K = K #[g0, g1, g2, g3, g4, g5, g6, g7, .int .i64 x8, g9, g10, g11, g12, g13, g14, g15, g16, g17, g18, g19, .int .i64 x8, .bool (decide (x8 < 16)), g22, g23, g24, g25, g26, g27, g28, g29, g30, g31, g32, g33, g34, g35, g36, g37, g38, g39, g40, g41, g42, g43, g44, g45, g46, g47, g48, g49, g50, g51, g52, g53, g54, g55, g56, g57, g58, g59, g60, g61, g62, g63, g64, g65, g66, g67, g68, g69, g70, g71, g72, g73, g74, g75, g76, g77, g78, g79] M := by kernel_rfl
theorem c6_12 {x21 : Bool} {g0 g1 g2 g3 g4 g5 g6 g7 g8 g9 g10 g11 g12 g13 g14 g15 g16 g17 g18 g19 g20 g22 g23 g24 g25 g26 g27 g28 g29 g30 g31 g32 g33 g34 g35 g36 g37 g38 g39 g40 g41 g42 g43 g44 g45 g46 g47 g48 g49 g50 g51 g52 g53 g54 g55 g56 g57 g58 g59 g60 g61 g62 g63 g64 g65 g66 g67 g68 g69 g70 g71 g72 g73 g74 g75 g76 g77 g78 g79 : Value} : subC (codeOf Try.f6) [1, 1, 0, 1, 0, 0, 0, 1] = .cond (.tmp 21) (subC (codeOf Try.f6) [1, 1, 0, 1, 0, 0, 0, 1, 0]) (subC (codeOf Try.f6) [1, 1, 0, 1, 0, 0, 0, 1, 1]) ∧ okOperand (.tmp 21) = true ∧ evalT #[g0, g1, g2, g3, g4, g5, g6, g7, g8, g9, g10, g11, g12, g13, g14, g15, g16, g17, g18, g19, g20, .bool x21, g22, g23, g24, g25, g26, g27, g28, g29, g30, g31, g32, g33, g34, g35, g36, g37, g38, g39, g40, g41, g42, g43, g44, g45, g46, g47, g48, g49, g50, g51, g52, g53, g54, g55, g56, g57, g58, g59, g60, g61, g62, g63, g64, g65, g66, g67, g68, g69, g70, g71, g72, g73, g74, g75, g76, g77, g78, g79] (.tmp 21) = .bool x21 := ⟨by kernel_rfl, by kernel_rfl, by kernel_rfl⟩
theorem k6_13 : subC (codeOf Try.f6) [1, 1, 0, 1, 0, 0, 0, 1, 0] = .skip := by kernel_rfl
theorem k6_14 : subC (codeOf Try.f6) [1, 1, 0, 1, 0, 0, 1] = .seq (subC (codeOf Try.f6) [1, 1, 0, 1, 0, 0, 1, 0]) (subC (codeOf Try.f6) [1, 1, 0, 1, 0, 0, 1, 1]) := by kernel_rfl
theorem k6_15 : subC (codeOf Try.f6) [1, 1, 0, 1, 0, 0, 1, 0] = .block 1 (subC (codeOf Try.f6) [1, 1, 0, 1, 0, 0, 1, 0, 0]) := by kernel_rfl
theorem k6_16 : subC (codeOf Try.f6) [1, 1, 0, 1, 0, 0, 1, 0, 0] = .seq (subC (codeOf Try.f6) [1, 1, 0, 1, 0, 0, 1, 0, 0, 0]) (subC (codeOf Try.f6) [1, 1, 0, 1, 0, 0, 1, 0, 0, 1]) := by kernel_rfl
theorem k6_17 : subC (codeOf Try.f6) [1, 1, 0, 1, 0, 0, 1, 0, 0, 0] = .region 5 (opsOf (subC (codeOf Try.f6) [1, 1, 0, 1, 0, 0, 1, 0, 0, 0])) false := by kernel_rfl
theorem r6_5 {x2 : Int} {g0 g1 g3 g4 g5 g6 g7 g8 g9 g10 g11 g12 g13 g14 g15 g16 g17 g18 g19 g20 g21 g22 g23 g24 g25 g26 g27 g28 g29 g30 g31 g32 g33 g34 g35 g36 g37 g38 g39 g40 g41 g42 g43 g44 g45 g46 g47 g48 g49 g50 g51 g52 g53 g54 g55 g56 g57 g58 g59 g60 g61 g62 g63 g64 g65 g66 g67 g68 g69 g70 g71 g72 g73 g74 g75 g76 g77 g78 g79 : Value} {M : Mem} {call : CallM} {K : Array Value → Mem → R} :
    opsK Try.prog (fun _ => call) (opsOf (subC (codeOf Try.f6) [1, 1, 0, 1, 0, 0, 1, 0, 0, 0])) (opsOf (subC (codeOf Try.f6) [1, 1, 0, 1, 0, 0, 1, 0, 0, 0])).toList 0 #[g0, g1, .int .i64 x2, g3, g4, g5, g6, g7, g8, g9, g10, g11, g12, g13, g14, g15, g16, g17, g18, g19, g20, g21, g22, g23, g24, g25, g26, g27, g28, g29, g30, g31, g32, g33, g34, g35, g36, g37, g38, g39, g40, g41, g42, g43, g44, g45, g46, g47, g48, g49, g50, g51, g52, g53, g54, g55, g56, g57, g58, g59, g60, g61, g62, g63, g64, g65, g66, g67, g68, g69, g70, g71, g72, g73, g74, g75, g76, g77, g78, g79] M K = K #[g0, g1, .int .i64 x2, g3, g4, g5, g6, g7, g8, .int .i64 x2, g10, g11, g12, g13, g14, g15, g16, g17, g18, g19, g20, g21, g22, g23, .int .i64 x2, g25, g26, g27, g28, g29, g30, g31, g32, g33, g34, g35, g36, g37, g38, g39, g40, g41, g42, g43, g44, g45, g46, g47, g48, g49, g50, g51, g52, g53, g54, g55, g56, g57, g58, g59, g60, g61, g62, g63, g64, g65, g66, g67, g68, g69, g70, g71, g72, g73, g74, g75, g76, g77, g78, g79] M := by kernel_rfl
theorem k6_18 : subC (codeOf Try.f6) [1, 1, 0, 1, 0, 0, 1, 0, 0, 1] = .seq (subC (codeOf Try.f6) [1, 1, 0, 1, 0, 0, 1, 0, 0, 1, 0]) (subC (codeOf Try.f6) [1, 1, 0, 1, 0, 0, 1, 0, 0, 1, 1]) := by kernel_rfl
theorem k6_19 : subC (codeOf Try.f6) [1, 1, 0, 1, 0, 0, 1, 0, 0, 1, 0] = .seq (subC (codeOf Try.f6) [1, 1, 0, 1, 0, 0, 1, 0, 0, 1, 0, 0]) (subC (codeOf Try.f6) [1, 1, 0, 1, 0, 0, 1, 0, 0, 1, 0, 1]) := by kernel_rfl
theorem k6_20 : subC (codeOf Try.f6) [1, 1, 0, 1, 0, 0, 1, 0, 0, 1, 0, 0] = .region 6 (opsOf (subC (codeOf Try.f6) [1, 1, 0, 1, 0, 0, 1, 0, 0, 1, 0, 0])) false := by kernel_rfl
theorem r6_6 {x8 : Int} {g0 g1 g2 g3 g4 g5 g6 g7 g9 g10 g11 g12 g13 g14 g15 g16 g17 g18 g19 g20 g21 g22 g23 g24 g25 g26 g27 g28 g29 g30 g31 g32 g33 g34 g35 g36 g37 g38 g39 g40 g41 g42 g43 g44 g45 g46 g47 g48 g49 g50 g51 g52 g53 g54 g55 g56 g57 g58 g59 g60 g61 g62 g63 g64 g65 g66 g67 g68 g69 g70 g71 g72 g73 g74 g75 g76 g77 g78 g79 : Value} {M : Mem} {call : CallM} {K : Array Value → Mem → R} :
    opsK Try.prog (fun _ => call) (opsOf (subC (codeOf Try.f6) [1, 1, 0, 1, 0, 0, 1, 0, 0, 1, 0, 0])) (opsOf (subC (codeOf Try.f6) [1, 1, 0, 1, 0, 0, 1, 0, 0, 1, 0, 0])).toList 0 #[g0, g1, g2, g3, g4, g5, g6, g7, .int .i64 x8, g9, g10, g11, g12, g13, g14, g15, g16, g17, g18, g19, g20, g21, g22, g23, g24, g25, g26, g27, g28, g29, g30, g31, g32, g33, g34, g35, g36, g37, g38, g39, g40, g41, g42, g43, g44, g45, g46, g47, g48, g49, g50, g51, g52, g53, g54, g55, g56, g57, g58, g59, g60, g61, g62, g63, g64, g65, g66, g67, g68, g69, g70, g71, g72, g73, g74, g75, g76, g77, g78, g79] M K = K #[g0, g1, g2, g3, g4, g5, g6, g7, .int .i64 x8, g9, g10, g11, g12, g13, g14, g15, g16, g17, g18, g19, g20, g21, g22, g23, g24, .int .i64 x8, .bool (decide (x8 ≥ 0)), g27, g28, g29, g30, g31, g32, g33, g34, g35, g36, g37, g38, g39, g40, g41, g42, g43, g44, g45, g46, g47, g48, g49, g50, g51, g52, g53, g54, g55, g56, g57, g58, g59, g60, g61, g62, g63, g64, g65, g66, g67, g68, g69, g70, g71, g72, g73, g74, g75, g76, g77, g78, g79] M := by kernel_rfl
theorem c6_21 {x26 : Bool} {g0 g1 g2 g3 g4 g5 g6 g7 g8 g9 g10 g11 g12 g13 g14 g15 g16 g17 g18 g19 g20 g21 g22 g23 g24 g25 g27 g28 g29 g30 g31 g32 g33 g34 g35 g36 g37 g38 g39 g40 g41 g42 g43 g44 g45 g46 g47 g48 g49 g50 g51 g52 g53 g54 g55 g56 g57 g58 g59 g60 g61 g62 g63 g64 g65 g66 g67 g68 g69 g70 g71 g72 g73 g74 g75 g76 g77 g78 g79 : Value} : subC (codeOf Try.f6) [1, 1, 0, 1, 0, 0, 1, 0, 0, 1, 0, 1] = .cond (.tmp 26) (subC (codeOf Try.f6) [1, 1, 0, 1, 0, 0, 1, 0, 0, 1, 0, 1, 0]) (subC (codeOf Try.f6) [1, 1, 0, 1, 0, 0, 1, 0, 0, 1, 0, 1, 1]) ∧ okOperand (.tmp 26) = true ∧ evalT #[g0, g1, g2, g3, g4, g5, g6, g7, g8, g9, g10, g11, g12, g13, g14, g15, g16, g17, g18, g19, g20, g21, g22, g23, g24, g25, .bool x26, g27, g28, g29, g30, g31, g32, g33, g34, g35, g36, g37, g38, g39, g40, g41, g42, g43, g44, g45, g46, g47, g48, g49, g50, g51, g52, g53, g54, g55, g56, g57, g58, g59, g60, g61, g62, g63, g64, g65, g66, g67, g68, g69, g70, g71, g72, g73, g74, g75, g76, g77, g78, g79] (.tmp 26) = .bool x26 := ⟨by kernel_rfl, by kernel_rfl, by kernel_rfl⟩
theorem k6_22 : subC (codeOf Try.f6) [1, 1, 0, 1, 0, 0, 1, 0, 0, 1, 0, 1, 0] = .region 7 (opsOf (subC (codeOf Try.f6) [1, 1, 0, 1, 0, 0, 1, 0, 0, 1, 0, 1, 0])) false := by kernel_rfl
theorem r6_7 {x8 : Int} {g0 g1 g2 g3 g4 g5 g6 g7 g9 g10 g11 g12 g13 g14 g15 g16 g17 g18 g19 g20 g21 g22 g23 g24 g25 g26 g27 g28 g29 g30 g31 g32 g33 g34 g35 g36 g37 g38 g39 g40 g41 g42 g43 g44 g45 g46 g47 g48 g49 g50 g51 g52 g53 g54 g55 g56 g57 g58 g59 g60 g61 g62 g63 g64 g65 g66 g67 g68 g69 g70 g71 g72 g73 g74 g75 g76 g77 g78 g79 : Value} {M : Mem} {call : CallM} {K : Array Value → Mem → R} :
    opsK Try.prog (fun _ => call) (opsOf (subC (codeOf Try.f6) [1, 1, 0, 1, 0, 0, 1, 0, 0, 1, 0, 1, 0])) (opsOf (subC (codeOf Try.f6) [1, 1, 0, 1, 0, 0, 1, 0, 0, 1, 0, 1, 0])).toList 0 #[g0, g1, g2, g3, g4, g5, g6, g7, .int .i64 x8, g9, g10, g11, g12, g13, g14, g15, g16, g17, g18, g19, g20, g21, g22, g23, g24, g25, g26, g27, g28, g29, g30, g31, g32, g33, g34, g35, g36, g37, g38, g39, g40, g41, g42, g43, g44, g45, g46, g47, g48, g49, g50, g51, g52, g53, g54, g55, g56, g57, g58, g59, g60, g61, g62, g63, g64, g65, g66, g67, g68, g69, g70, g71, g72, g73, g74, g75, g76, g77, g78, g79] M K = K #[g0, g1, g2, g3, g4, g5, g6, g7, .int .i64 x8, .int .i64 x8, g10, g11, g12, g13, g14, g15, g16, g17, g18, g19, g20, g21, g22, g23, g24, g25, g26, .int .i64 x8, g28, g29, g30, g31, g32, g33, g34, g35, g36, g37, g38, g39, g40, g41, g42, g43, g44, g45, g46, g47, g48, g49, g50, g51, g52, g53, g54, g55, g56, g57, g58, g59, g60, g61, g62, g63, g64, g65, g66, g67, g68, g69, g70, g71, g72, g73, g74, g75, g76, g77, g78, g79] M := by kernel_rfl
theorem k6_23 : subC (codeOf Try.f6) [1, 1, 0, 1, 0, 0, 1, 0, 0, 1, 1] = .seq (subC (codeOf Try.f6) [1, 1, 0, 1, 0, 0, 1, 0, 0, 1, 1, 0]) (subC (codeOf Try.f6) [1, 1, 0, 1, 0, 0, 1, 0, 0, 1, 1, 1]) := by kernel_rfl
theorem k6_24 : subC (codeOf Try.f6) [1, 1, 0, 1, 0, 0, 1, 0, 0, 1, 1, 0] = .region 8 (opsOf (subC (codeOf Try.f6) [1, 1, 0, 1, 0, 0, 1, 0, 0, 1, 1, 0])) false := by kernel_rfl
theorem r6_8 {x1 : Int} {Ax7 : Option Addr} {lx7 : Nat} {cx7 : Nat} {x9 : Int} {g0 g2 g3 g4 g5 g6 g8 g10 g11 g12 g13 g14 g15 g16 g17 g18 g19 g20 g21 g22 g23 g24 g25 g26 g27 g28 g29 g30 g31 g32 g33 g34 g35 g36 g37 g38 g39 g40 g41 g42 g43 g44 g45 g46 g47 g48 g49 g50 g51 g52 g53 g54 g55 g56 g57 g58 g59 g60 g61 g62 g63 g64 g65 g66 g67 g68 g69 g70 g71 g72 g73 g74 g75 g76 g77 g78 g79 : Value} {M : Mem} {call : CallM} {K : Array Value → Mem → R} :
    opsK Try.prog (fun _ => call) (opsOf (subC (codeOf Try.f6) [1, 1, 0, 1, 0, 0, 1, 0, 0, 1, 1, 0])) (opsOf (subC (codeOf Try.f6) [1, 1, 0, 1, 0, 0, 1, 0, 0, 1, 1, 0])).toList 0 #[g0, .int .i64 x1, g2, g3, g4, g5, g6, .slice Ax7 lx7 cx7, g8, .int .i64 x9, g10, g11, g12, g13, g14, g15, g16, g17, g18, g19, g20, g21, g22, g23, g24, g25, g26, g27, g28, g29, g30, g31, g32, g33, g34, g35, g36, g37, g38, g39, g40, g41, g42, g43, g44, g45, g46, g47, g48, g49, g50, g51, g52, g53, g54, g55, g56, g57, g58, g59, g60, g61, g62, g63, g64, g65, g66, g67, g68, g69, g70, g71, g72, g73, g74, g75, g76, g77, g78, g79] M K = (call 17 #[.slice Ax7 lx7 cx7, .int .i64 x1, .int .i64 x9] M).bind fun r_1 => (asU 2 r_1.1).bind fun cs_2 => (asI .i64 (cs_2.getD 0 undef)).bind fun x_3 => (asI .i64 (cs_2.getD 1 undef)).bind fun x_4 => K #[g0, .int .i64 x1, g2, g3, g4, g5, g6, .slice Ax7 lx7 cx7, g8, .int .i64 x9, .int .i64 x_3, .int .i64 x_4, g12, g13, g14, g15, g16, g17, g18, g19, g20, g21, g22, g23, g24, g25, g26, g27, .tuple #[.int .i64 x_3, .int .i64 x_4], .slice Ax7 lx7 cx7, .int .i64 x1, .int .i64 x9, .tuple #[.int .i64 x_3, .int .i64 x_4], .int .i64 x_3, .int .i64 x_4, g35, g36, g37, g38, g39, g40, g41, g42, g43, g44, g45, g46, g47, g48, g49, g50, g51, g52, g53, g54, g55, g56, g57, g58, g59, g60, g61, g62, g63, g64, g65, g66, g67, g68, g69, g70, g71, g72, g73, g74, g75, g76, g77, g78, g79] r_1.2 := by kernel_rfl
theorem k6_25 : subC (codeOf Try.f6) [1, 1, 0, 1, 0, 0, 1, 0, 0, 1, 1, 1] = .seq (subC (codeOf Try.f6) [1, 1, 0, 1, 0, 0, 1, 0, 0, 1, 1, 1, 0]) (subC (codeOf Try.f6) [1, 1, 0, 1, 0, 0, 1, 0, 0, 1, 1, 1, 1]) := by kernel_rfl
theorem k6_26 : subC (codeOf Try.f6) [1, 1, 0, 1, 0, 0, 1, 0, 0, 1, 1, 1, 0] = .region 9 (opsOf (subC (codeOf Try.f6) [1, 1, 0, 1, 0, 0, 1, 0, 0, 1, 1, 1, 0])) false := by kernel_rfl
theorem r6_9 {Ax0 : Option Addr} {lx0 : Nat} {cx0 : Nat} {x1 : Int} {x9 : Int} {g2 g3 g4 g5 g6 g7 g8 g10 g11 g12 g13 g14 g15 g16 g17 g18 g19 g20 g21 g22 g23 g24 g25 g26 g27 g28 g29 g30 g31 g32 g33 g34 g35 g36 g37 g38 g39 g40 g41 g42 g43 g44 g45 g46 g47 g48 g49 g50 g51 g52 g53 g54 g55 g56 g57 g58 g59 g60 g61 g62 g63 g64 g65 g66 g67 g68 g69 g70 g71 g72 g73 g74 g75 g76 g77 g78 g79 : Value} {M : Mem} {call : CallM} {K : Array Value → Mem → R} :
    opsK Try.prog (fun _ => call) (opsOf (subC (codeOf Try.f6) [1, 1, 0, 1, 0, 0, 1, 0, 0, 1, 1, 1, 0])) (opsOf (subC (codeOf Try.f6) [1, 1, 0, 1, 0, 0, 1, 0, 0, 1, 1, 1, 0])).toList 0 #[.slice Ax0 lx0 cx0, .int .i64 x1, g2, g3, g4, g5, g6, g7, g8, .int .i64 x9, g10, g11, g12, g13, g14, g15, g16, g17, g18, g19, g20, g21, g22, g23, g24, g25, g26, g27, g28, g29, g30, g31, g32, g33, g34, g35, g36, g37, g38, g39, g40, g41, g42, g43, g44, g45, g46, g47, g48, g49, g50, g51, g52, g53, g54, g55, g56, g57, g58, g59, g60, g61, g62, g63, g64, g65, g66, g67, g68, g69, g70, g71, g72, g73, g74, g75, g76, g77, g78, g79] M K = (call 18 #[.slice Ax0 lx0 cx0, .int .i64 x1, .int .i64 x9] M).bind fun r_1 => (asU 2 r_1.1).bind fun cs_2 => (asI .i64 (cs_2.getD 0 undef)).bind fun x_3 => (asI .i64 (cs_2.getD 1 undef)).bind fun x_4 => K #[.slice Ax0 lx0 cx0, .int .i64 x1, g2, g3, g4, g5, g6, g7, g8, .int .i64 x9, g10, g11, .int .i64 x_3, .int .i64 x_4, g14, g15, g16, g17, g18, g19, g20, g21, g22, g23, g24, g25, g26, g27, g28, g29, g30, g31, g32, g33, g34, .tuple #[.int .i64 x_3, .int .i64 x_4], .slice Ax0 lx0 cx0, .int .i64 x1, .int .i64 x9, .tuple #[.int .i64 x_3, .int .i64 x_4], .int .i64 x_3, .int .i64 x_4, g42, g43, g44, g45, g46, g47, g48, g49, g50, g51, g52, g53, g54, g55, g56, g57, g58, g59, g60, g61, g62, g63, g64, g65, g66, g67, g68, g69, g70, g71, g72, g73, g74, g75, g76, g77, g78, g79] r_1.2 := by kernel_rfl
theorem k6_27 : subC (codeOf Try.f6) [1, 1, 0, 1, 0, 0, 1, 0, 0, 1, 1, 1, 1] = .seq (subC (codeOf Try.f6) [1, 1, 0, 1, 0, 0, 1, 0, 0, 1, 1, 1, 1, 0]) (subC (codeOf Try.f6) [1, 1, 0, 1, 0, 0, 1, 0, 0, 1, 1, 1, 1, 1]) := by kernel_rfl
theorem k6_28 : subC (codeOf Try.f6) [1, 1, 0, 1, 0, 0, 1, 0, 0, 1, 1, 1, 1, 0] = .region 10 (opsOf (subC (codeOf Try.f6) [1, 1, 0, 1, 0, 0, 1, 0, 0, 1, 1, 1, 1, 0])) false := by kernel_rfl
theorem r6_10 {x1 : Int} {Ax7 : Option Addr} {lx7 : Nat} {cx7 : Nat} {x9 : Int} {g0 g2 g3 g4 g5 g6 g8 g10 g11 g12 g13 g14 g15 g16 g17 g18 g19 g20 g21 g22 g23 g24 g25 g26 g27 g28 g29 g30 g31 g32 g33 g34 g35 g36 g37 g38 g39 g40 g41 g42 g43 g44 g45 g46 g47 g48 g49 g50 g51 g52 g53 g54 g55 g56 g57 g58 g59 g60 g61 g62 g63 g64 g65 g66 g67 g68 g69 g70 g71 g72 g73 g74 g75 g76 g77 g78 g79 : Value} {M : Mem} {call : CallM} {K : Array Value → Mem → R} :
    opsK Try.prog (fun _ => call) (opsOf (subC (codeOf Try.f6) [1, 1, 0, 1, 0, 0, 1, 0, 0, 1, 1, 1, 1, 0])) (opsOf (subC (codeOf Try.f6) [1, 1, 0, 1, 0, 0, 1, 0, 0, 1, 1, 1, 1, 0])).toList 0 #[g0, .int .i64 x1, g2, g3, g4, g5, g6, .slice Ax7 lx7 cx7, g8, .int .i64 x9, g10, g11, g12, g13, g14, g15, g16, g17, g18, g19, g20, g21, g22, g23, g24, g25, g26, g27, g28, g29, g30, g31, g32, g33, g34, g35, g36, g37, g38, g39, g40, g41, g42, g43, g44, g45, g46, g47, g48, g49, g50, g51, g52, g53, g54, g55, g56, g57, g58, g59, g60, g61, g62, g63, g64, g65, g66, g67, g68, g69, g70, g71, g72, g73, g74, g75, g76, g77, g78, g79] M K = (call 19 #[.slice Ax7 lx7 cx7, .int .i64 x1, .int .i64 x9] M).bind fun r_1 => (asU 2 r_1.1).bind fun cs_2 => (asI .i64 (cs_2.getD 0 undef)).bind fun x_3 => (asI .i64 (cs_2.getD 1 undef)).bind fun x_4 => K #[g0, .int .i64 x1, g2, g3, g4, g5, g6, .slice Ax7 lx7 cx7, g8, .int .i64 x9, g10, g11, g12, g13, .int .i64 x_3, .int .i64 x_4, g16, g17, g18, g19, g20, g21, g22, g23, g24, g25, g26, g27, g28, g29, g30, g31, g32, g33, g34, g35, g36, g37, g38, g39, g40, g41, .tuple #[.int .i64 x_3, .int .i64 x_4], .slice Ax7 lx7 cx7, .int .i64 x1, .int .i64 x9, .tuple #[.int .i64 x_3, .int .i64 x_4], .int .i64 x_3, .int .i64 x_4, g49, g50, g51, g52, g53, g54, g55, g56, g57, g58, g59, g60, g61, g62, g63, g64, g65, g66, g67, g68, g69, g70, g71, g72, g73, g74, g75, g76, g77, g78, g79] r_1.2 := by kernel_rfl
theorem k6_29 : subC (codeOf Try.f6) [1, 1, 0, 1, 0, 0, 1, 0, 0, 1, 1, 1, 1, 1] = .seq (subC (codeOf Try.f6) [1, 1, 0, 1, 0, 0, 1, 0, 0, 1, 1, 1, 1, 1, 0]) (subC (codeOf Try.f6) [1, 1, 0, 1, 0, 0, 1, 0, 0, 1, 1, 1, 1, 1, 1]) := by kernel_rfl
theorem k6_30 : subC (codeOf Try.f6) [1, 1, 0, 1, 0, 0, 1, 0, 0, 1, 1, 1, 1, 1, 0] = .region 11 (opsOf (subC (codeOf Try.f6) [1, 1, 0, 1, 0, 0, 1, 0, 0, 1, 1, 1, 1, 1, 0])) false := by kernel_rfl
theorem r6_11 {Ax0 : Option Addr} {lx0 : Nat} {cx0 : Nat} {x1 : Int} {x9 : Int} {g2 g3 g4 g5 g6 g7 g8 g10 g11 g12 g13 g14 g15 g16 g17 g18 g19 g20 g21 g22 g23 g24 g25 g26 g27 g28 g29 g30 g31 g32 g33 g34 g35 g36 g37 g38 g39 g40 g41 g42 g43 g44 g45 g46 g47 g48 g49 g50 g51 g52 g53 g54 g55 g56 g57 g58 g59 g60 g61 g62 g63 g64 g65 g66 g67 g68 g69 g70 g71 g72 g73 g74 g75 g76 g77 g78 g79 : Value} {M : Mem} {call : CallM} {K : Array Value → Mem → R} :
    opsK Try.prog (fun _ => call) (opsOf (subC (codeOf Try.f6) [1, 1, 0, 1, 0, 0, 1, 0, 0, 1, 1, 1, 1, 1, 0])) (opsOf (subC (codeOf Try.f6) [1, 1, 0, 1, 0, 0, 1, 0, 0, 1, 1, 1, 1, 1, 0])).toList 0 #[.slice Ax0 lx0 cx0, .int .i64 x1, g2, g3, g4, g5, g6, g7, g8, .int .i64 x9, g10, g11, g12, g13, g14, g15, g16, g17, g18, g19, g20, g21, g22, g23, g24, g25, g26, g27, g28, g29, g30, g31, g32, g33, g34, g35, g36, g37, g38, g39, g40, g41, g42, g43, g44, g45, g46, g47, g48, g49, g50, g51, g52, g53, g54, g55, g56, g57, g58, g59, g60, g61, g62, g63, g64, g65, g66, g67, g68, g69, g70, g71, g72, g73, g74, g75, g76, g77, g78, g79] M K = (call 20 #[.slice Ax0 lx0 cx0, .int .i64 x1, .int .i64 x9] M).bind fun r_1 => (asU 2 r_1.1).bind fun cs_2 => (asI .i64 (cs_2.getD 0 undef)).bind fun x_3 => (asI .i64 (cs_2.getD 1 undef)).bind fun x_4 => K #[.slice Ax0 lx0 cx0, .int .i64 x1, g2, g3, g4, g5, g6, g7, g8, .int .i64 x9, g10, g11, g12, g13, g14, g15, .int .i64 x_3, .int .i64 x_4, g18, g19, g20, g21, g22, g23, g24, g25, g26, g27, g28, g29, g30, g31, g32, g33, g34, g35, g36, g37, g38, g39, g40, g41, g42, g43, g44, g45, g46, g47, g48, .tuple #[.int .i64 x_3, .int .i64 x_4], .slice Ax0 lx0 cx0, .int .i64 x1, .int .i64 x9, .tuple #[.int .i64 x_3, .int .i64 x_4], .int .i64 x_3, .int .i64 x_4, g56, g57, g58, g59, g60, g61, g62, g63, g64, g65, g66, g67, g68, g69, g70, g71, g72, g73, g74, g75, g76, g77, g78, g79] r_1.2 := by kernel_rfl
theorem k6_31 : subC (codeOf Try.f6) [1, 1, 0, 1, 0, 0, 1, 0, 0, 1, 1, 1, 1, 1, 1] = .seq (subC (codeOf Try.f6) [1, 1, 0, 1, 0, 0, 1, 0, 0, 1, 1, 1, 1, 1, 1, 0]) (subC (codeOf Try.f6) [1, 1, 0, 1, 0, 0, 1, 0, 0, 1, 1, 1, 1, 1, 1, 1]) := by kernel_rfl
theorem k6_32 : subC (codeOf Try.f6) [1, 1, 0, 1, 0, 0, 1, 0, 0, 1, 1, 1, 1, 1, 1, 0] = .region 12 (opsOf (subC (codeOf Try.f6) [1, 1, 0, 1, 0, 0, 1, 0, 0, 1, 1, 1, 1, 1, 1, 0])) false := by kernel_rfl
theorem k6_33 : subC (codeOf Try.f6) [1, 1, 0, 1, 0, 0, 1, 0, 0, 1, 1, 1, 1, 1, 1, 0] = .region 12 (opsOf (subC (codeOf Try.f6) [1, 1, 0, 1, 0, 0, 1, 0, 0, 1, 1, 1, 1, 1, 1, 0])) false ∧ (!false || drawOk (opsOf (subC (codeOf Try.f6) [1, 1, 0, 1, 0, 0, 1, 0, 0, 1, 1, 1, 1, 1, 1, 0]))) = true := ⟨by kernel_rfl, by kernel_rfl⟩
theorem r6_12p0 {x10 : Int} {x11 : Int} {x12 : Int} {x13 : Int} {g0 g1 g2 g3 g4 g5 g6 g7 g8 g9 g14 g15 g16 g17 g18 g19 g20 g21 g22 g23 g24 g25 g26 g27 g28 g29 g30 g31 g32 g33 g34 g35 g36 g37 g38 g39 g40 g41 g42 g43 g44 g45 g46 g47 g48 g49 g50 g51 g52 g53 g54 g55 g56 g57 g58 g59 g60 g61 g62 g63 g64 g65 g66 g67 g68 g69 g70 g71 g72 g73 g74 g75 g76 g77 g78 g79 : Value} {M : Mem} {call : CallM} {K : Array Value → Mem → R} :
    opsK Try.prog (callR false (opsOf (subC (codeOf Try.f6) [1, 1, 0, 1, 0, 0, 1, 0, 0, 1, 1, 1, 1, 1, 1, 0])) call) (opsOf (subC (codeOf Try.f6) [1, 1, 0, 1, 0, 0, 1, 0, 0, 1, 1, 1, 1, 1, 1, 0])) (((opsOf (subC (codeOf Try.f6) [1, 1, 0, 1, 0, 0, 1, 0, 0, 1, 1, 1, 1, 1, 1, 0])).toList.drop 0).take 9) 0 #[g0, g1, g2, g3, g4, g5, g6, g7, g8, g9, .int .i64 x10, .int .i64 x11, .int .i64 x12, .int .i64 x13, g14, g15, g16, g17, g18, g19, g20, g21, g22, g23, g24, g25, g26, g27, g28, g29, g30, g31, g32, g33, g34, g35, g36, g37, g38, g39, g40, g41, g42, g43, g44, g45, g46, g47, g48, g49, g50, g51, g52, g53, g54, g55, g56, g57, g58, g59, g60, g61, g62, g63, g64, g65, g66, g67, g68, g69, g70, g71, g72, g73, g74, g75, g76, g77, g78, g79] M K = cond (x10 != x12) (K #[g0, g1, g2, g3, g4, g5, g6, g7, g8, g9, .int .i64 x10, .int .i64 x11, .int .i64 x12, .int .i64 x13, g14, g15, g16, g17, g18, g19, g20, g21, g22, g23, g24, g25, g26, g27, g28, g29, g30, g31, g32, g33, g34, g35, g36, g37, g38, g39, g40, g41, g42, g43, g44, g45, g46, g47, g48, g49, g50, g51, g52, g53, g54, g55, .int .i64 x10, .int .i64 x12, .bool (x10 != x12), .bool true, undef, undef, undef, .bool true, .bool true, g65, g66, g67, g68, g69, g70, g71, g72, g73, g74, g75, g76, g77, g78, g79] M) (K #[g0, g1, g2, g3, g4, g5, g6, g7, g8, g9, .int .i64 x10, .int .i64 x11, .int .i64 x12, .int .i64 x13, g14, g15, g16, g17, g18, g19, g20, g21, g22, g23, g24, g25, g26, g27, g28, g29, g30, g31, g32, g33, g34, g35, g36, g37, g38, g39, g40, g41, g42, g43, g44, g45, g46, g47, g48, g49, g50, g51, g52, g53, g54, g55, .int .i64 x10, .int .i64 x12, .bool (x10 != x12), .bool false, .int .i64 x11, .int .i64 x13, .bool (x11 != x13), .bool (x11 != x13), .bool (x11 != x13), g65, g66, g67, g68, g69, g70, g71, g72, g73, g74, g75, g76, g77, g78, g79] M) := by kernel_rfl
theorem k6_34 : subC (codeOf Try.f6) [1, 1, 0, 1, 0, 0, 1, 0, 0, 1, 0, 1, 1] = .skip := by kernel_rfl
theorem k6_35 : subC (codeOf Try.f6) [1, 1, 0, 1, 0, 0, 0, 1, 1] = .exit 0 := by kernel_rfl
theorem k6_36 : subC (codeOf Try.f6) [1, 1, 1] = .seq (subC (codeOf Try.f6) [1, 1, 1, 0]) (subC (codeOf Try.f6) [1, 1, 1, 1]) := by kernel_rfl
theorem k6_37 : subC (codeOf Try.f6) [1, 1, 1, 0] = .region 14 (opsOf (subC (codeOf Try.f6) [1, 1, 1, 0])) false := by kernel_rfl
theorem r6_14 {Ax0 : Option Addr} {lx0 : Nat} {cx0 : Nat} {Ax7 : Option Addr} {lx7 : Nat} {cx7 : Nat} {g1 g2 g3 g4 g5 g6 g8 g9 g10 g11 g12 g13 g14 g15 g16 g17 g18 g19 g20 g21 g22 g23 g24 g25 g26 g27 g28 g29 g30 g31 g32 g33 g34 g35 g36 g37 g38 g39 g40 g41 g42 g43 g44 g45 g46 g47 g48 g49 g50 g51 g52 g53 g54 g55 g56 g57 g58 g59 g60 g61 g62 g63 g64 g65 g66 g67 g68 g69 g70 g71 g72 g73 g74 g75 g76 g77 g78 g79 : Value} {M : Mem} {call : CallM} {K : Array Value → Mem → R} :
    opsK Try.prog (fun _ => call) (opsOf (subC (codeOf Try.f6) [1, 1, 1, 0])) (opsOf (subC (codeOf Try.f6) [1, 1, 1, 0])).toList 0 #[.slice Ax0 lx0 cx0, g1, g2, g3, g4, g5, g6, .slice Ax7 lx7 cx7, g8, g9, g10, g11, g12, g13, g14, g15, g16, g17, g18, g19, g20, g21, g22, g23, g24, g25, g26, g27, g28, g29, g30, g31, g32, g33, g34, g35, g36, g37, g38, g39, g40, g41, g42, g43, g44, g45, g46, g47, g48, g49, g50, g51, g52, g53, g54, g55, g56, g57, g58, g59, g60, g61, g62, g63, g64, g65, g66, g67, g68, g69, g70, g71, g72, g73, g74, g75, g76, g77, g78, g79] M K = (call 11 #[.slice Ax7 lx7 cx7, .slice Ax0 lx0 cx0] M).bind fun r_1 => (asB r_1.1).bind fun b_2 => cond b_2 ((call 14 #[] r_1.2).bind fun r_3 => (asB r_3.1).bind fun b_4 => K #[.slice Ax0 lx0 cx0, g1, g2, g3, g4, g5, .bool b_4, .slice Ax7 lx7 cx7, g8, g9, g10, g11, g12, g13, g14, g15, g16, g17, g18, g19, g20, g21, g22, g23, g24, g25, g26, g27, g28, g29, g30, g31, g32, g33, g34, g35, g36, g37, g38, g39, g40, g41, g42, g43, g44, g45, g46, g47, g48, g49, g50, g51, g52, g53, g54, g55, g56, g57, g58, g59, g60, g61, g62, g63, g64, g65, g66, g67, g68, g69, g70, g71, g72, g73, .slice Ax7 lx7 cx7, .slice Ax0 lx0 cx0, .bool b_2, .bool true, .bool b_4, .bool b_4] r_3.2) (K #[.slice Ax0 lx0 cx0, g1, g2, g3, g4, g5, .bool false, .slice Ax7 lx7 cx7, g8, g9, g10, g11, g12, g13, g14, g15, g16, g17, g18, g19, g20, g21, g22, g23, g24, g25, g26, g27, g28, g29, g30, g31, g32, g33, g34, g35, g36, g37, g38, g39, g40, g41, g42, g43, g44, g45, g46, g47, g48, g49, g50, g51, g52, g53, g54, g55, g56, g57, g58, g59, g60, g61, g62, g63, g64, g65, g66, g67, g68, g69, g70, g71, g72, g73, .slice Ax7 lx7 cx7, .slice Ax0 lx0 cx0, .bool b_2, .bool false, undef, .bool false] r_1.2) := by kernel_rfl
theorem k6_38 : subC (codeOf Try.f6) [1, 1, 1, 1] = .ret := by kernel_rfl
theorem e6 {g0 g1 g2 g3 g4 g5 g6 g7 g8 g9 g10 g11 g12 g13 g14 g15 g16 g17 g18 g19 g20 g21 g22 g23 g24 g25 g26 g27 g28 g29 g30 g31 g32 g33 g34 g35 g36 g37 g38 g39 g40 g41 g42 g43 g44 g45 g46 g47 g48 g49 g50 g51 g52 g53 g54 g55 g56 g57 g58 g59 g60 g61 g62 g63 g64 g65 g66 g67 g68 g69 g70 g71 g72 g73 g74 g75 g76 g77 g78 g79 : Value} {M : Mem} : finish Try.prog Try.f6 #[g0, g1, g2, g3, g4, g5, g6, g7, g8, g9, g10, g11, g12, g13, g14, g15, g16, g17, g18, g19, g20, g21, g22, g23, g24, g25, g26, g27, g28, g29, g30, g31, g32, g33, g34, g35, g36, g37, g38, g39, g40, g41, g42, g43, g44, g45, g46, g47, g48, g49, g50, g51, g52, g53, g54, g55, g56, g57, g58, g59, g60, g61, g62, g63, g64, g65, g66, g67, g68, g69, g70, g71, g72, g73, g74, g75, g76, g77, g78, g79] M = some (g6, M) := by kernel_rfl
theorem r6_12p9 {x14 : Int} {x16 : Int} {x64 : Bool} {g0 g1 g2 g3 g4 g5 g6 g7 g8 g9 g10 g11 g12 g13 g15 g17 g18 g19 g20 g21 g22 g23 g24 g25 g26 g27 g28 g29 g30 g31 g32 g33 g34 g35 g36 g37 g38 g39 g40 g41 g42 g43 g44 g45 g46 g47 g48 g49 g50 g51 g52 g53 g54 g55 g56 g57 g58 g59 g60 g61 g62 g63 g65 g66 g67 g68 g69 g70 g71 g72 g73 g74 g75 g76 g77 g78 g79 : Value} {M : Mem} {call : CallM} {K : Array Value → Mem → R} :
    opsK Try.prog (callR false (opsOf (subC (codeOf Try.f6) [1, 1, 0, 1, 0, 0, 1, 0, 0, 1, 1, 1, 1, 1, 1, 0])) call) (opsOf (subC (codeOf Try.f6) [1, 1, 0, 1, 0, 0, 1, 0, 0, 1, 1, 1, 1, 1, 1, 0])) (((opsOf (subC (codeOf Try.f6) [1, 1, 0, 1, 0, 0, 1, 0, 0, 1, 1, 1, 1, 1, 1, 0])).toList.drop 9).take 5) 9 #[g0, g1, g2, g3, g4, g5, g6, g7, g8, g9, g10, g11, g12, g13, .int .i64 x14, g15, .int .i64 x16, g17, g18, g19, g20, g21, g22, g23, g24, g25, g26, g27, g28, g29, g30, g31, g32, g33, g34, g35, g36, g37, g38, g39, g40, g41, g42, g43, g44, g45, g46, g47, g48, g49, g50, g51, g52, g53, g54, g55, g56, g57, g58, g59, g60, g61, g62, g63, .bool x64, g65, g66, g67, g68, g69, g70, g71, g72, g73, g74, g75, g76, g77, g78, g79] M K = cond x64 (K #[g0, g1, g2, g3, g4, g5, g6, g7, g8, g9, g10, g11, g12, g13, .int .i64 x14, g15, .int .i64 x16, g17, g18, g19, g20, g21, g22, g23, g24, g25, g26, g27, g28, g29, g30, g31, g32, g33, g34, g35, g36, g37, g38, g39, g40, g41, g42, g43, g44, g45, g46, g47, g48, g49, g50, g51, g52, g53, g54, g55, g56, g57, g58, g59, g60, g61, g62, g63, .bool true, undef, undef, undef, .bool true, .bool true, g70, g71, g72, g73, g74, g75, g76, g77, g78, g79] M) (K #[g0, g1, g2, g3, g4, g5, g6, g7, g8, g9, g10, g11, g12, g13, .int .i64 x14, g15, .int .i64 x16, g17, g18, g19, g20, g21, g22, g23, g24, g25, g26, g27, g28, g29, g30, g31, g32, g33, g34, g35, g36, g37, g38, g39, g40, g41, g42, g43, g44, g45, g46, g47, g48, g49, g50, g51, g52, g53, g54, g55, g56, g57, g58, g59, g60, g61, g62, g63, .bool false, .int .i64 x14, .int .i64 x16, .bool (x14 != x16), .bool (x14 != x16), .bool (x14 != x16), g70, g71, g72, g73, g74, g75, g76, g77, g78, g79] M) := by kernel_rfl
theorem r6_12p14 {x15 : Int} {x17 : Int} {x69 : Bool} {g0 g1 g2 g3 g4 g5 g6 g7 g8 g9 g10 g11 g12 g13 g14 g16 g18 g19 g20 g21 g22 g23 g24 g25 g26 g27 g28 g29 g30 g31 g32 g33 g34 g35 g36 g37 g38 g39 g40 g41 g42 g43 g44 g45 g46 g47 g48 g49 g50 g51 g52 g53 g54 g55 g56 g57 g58 g59 g60 g61 g62 g63 g64 g65 g66 g67 g68 g70 g71 g72 g73 g74 g75 g76 g77 g78 g79 : Value} {M : Mem} {call : CallM} {K : Array Value → Mem → R} :
    opsK Try.prog (callR false (opsOf (subC (codeOf Try.f6) [1, 1, 0, 1, 0, 0, 1, 0, 0, 1, 1, 1, 1, 1, 1, 0])) call) (opsOf (subC (codeOf Try.f6) [1, 1, 0, 1, 0, 0, 1, 0, 0, 1, 1, 1, 1, 1, 1, 0])) (((opsOf (subC (codeOf Try.f6) [1, 1, 0, 1, 0, 0, 1, 0, 0, 1, 1, 1, 1, 1, 1, 0])).toList.drop 14).take 4) 14 #[g0, g1, g2, g3, g4, g5, g6, g7, g8, g9, g10, g11, g12, g13, g14, .int .i64 x15, g16, .int .i64 x17, g18, g19, g20, g21, g22, g23, g24, g25, g26, g27, g28, g29, g30, g31, g32, g33, g34, g35, g36, g37, g38, g39, g40, g41, g42, g43, g44, g45, g46, g47, g48, g49, g50, g51, g52, g53, g54, g55, g56, g57, g58, g59, g60, g61, g62, g63, g64, g65, g66, g67, g68, .bool x69, g70, g71, g72, g73, g74, g75, g76, g77, g78, g79] M K = cond x69 (K #[g0, g1, g2, g3, g4, g5, g6, g7, g8, g9, g10, g11, g12, g13, g14, .int .i64 x15, g16, .int .i64 x17, g18, g19, g20, g21, g22, g23, g24, g25, g26, g27, g28, g29, g30, g31, g32, g33, g34, g35, g36, g37, g38, g39, g40, g41, g42, g43, g44, g45, g46, g47, g48, g49, g50, g51, g52, g53, g54, g55, g56, g57, g58, g59, g60, g61, g62, g63, g64, g65, g66, g67, g68, .bool true, undef, undef, undef, .bool true, g74, g75, g76, g77, g78, g79] M) (K #[g0, g1, g2, g3, g4, g5, g6, g7, g8, g9, g10, g11, g12, g13, g14, .int .i64 x15, g16, .int .i64 x17, g18, g19, g20, g21, g22, g23, g24, g25, g26, g27, g28, g29, g30, g31, g32, g33, g34, g35, g36, g37, g38, g39, g40, g41, g42, g43, g44, g45, g46, g47, g48, g49, g50, g51, g52, g53, g54, g55, g56, g57, g58, g59, g60, g61, g62, g63, g64, g65, g66, g67, g68, .bool false, .int .i64 x15, .int .i64 x17, .bool (x15 != x17), .bool (x15 != x17), g74, g75, g76, g77, g78, g79] M) := by kernel_rfl
theorem c6_40 {x73 : Bool} {g0 g1 g2 g3 g4 g5 g6 g7 g8 g9 g10 g11 g12 g13 g14 g15 g16 g17 g18 g19 g20 g21 g22 g23 g24 g25 g26 g27 g28 g29 g30 g31 g32 g33 g34 g35 g36 g37 g38 g39 g40 g41 g42 g43 g44 g45 g46 g47 g48 g49 g50 g51 g52 g53 g54 g55 g56 g57 g58 g59 g60 g61 g62 g63 g64 g65 g66 g67 g68 g69 g70 g71 g72 g74 g75 g76 g77 g78 g79 : Value} : subC (codeOf Try.f6) [1, 1, 0, 1, 0, 0, 1, 0, 0, 1, 1, 1, 1, 1, 1, 1] = .cond (.tmp 73) (subC (codeOf Try.f6) [1, 1, 0, 1, 0, 0, 1, 0, 0, 1, 1, 1, 1, 1, 1, 1, 0]) (subC (codeOf Try.f6) [1, 1, 0, 1, 0, 0, 1, 0, 0, 1, 1, 1, 1, 1, 1, 1, 1]) ∧ okOperand (.tmp 73) = true ∧ evalT #[g0, g1, g2, g3, g4, g5, g6, g7, g8, g9, g10, g11, g12, g13, g14, g15, g16, g17, g18, g19, g20, g21, g22, g23, g24, g25, g26, g27, g28, g29, g30, g31, g32, g33, g34, g35, g36, g37, g38, g39, g40, g41, g42, g43, g44, g45, g46, g47, g48, g49, g50, g51, g52, g53, g54, g55, g56, g57, g58, g59, g60, g61, g62, g63, g64, g65, g66, g67, g68, g69, g70, g71, g72, .bool x73, g74, g75, g76, g77, g78, g79] (.tmp 73) = .bool x73 := ⟨by kernel_rfl, by kernel_rfl, by kernel_rfl⟩
theorem k6_41 : subC (codeOf Try.f6) [1, 1, 0, 1, 0, 0, 1, 0, 0, 1, 1, 1, 1, 1, 1, 1, 0] = .seq (subC (codeOf Try.f6) [1, 1, 0, 1, 0, 0, 1, 0, 0, 1, 1, 1, 1, 1, 1, 1, 0, 0]) (subC (codeOf Try.f6) [1, 1, 0, 1, 0, 0, 1, 0, 0, 1, 1, 1, 1, 1, 1, 1, 0, 1]) := by kernel_rfl
theorem k6_42 : subC (codeOf Try.f6) [1, 1, 0, 1, 0, 0, 1, 0, 0, 1, 1, 1, 1, 1, 1, 1, 0, 0] = .region 13 (opsOf (subC (codeOf Try.f6) [1, 1, 0, 1, 0, 0, 1, 0, 0, 1, 1, 1, 1, 1, 1, 1, 0, 0])) false := by kernel_rfl
theorem r6_13 {g0 g1 g2 g3 g4 g5 g6 g7 g8 g9 g10 g11 g12 g13 g14 g15 g16 g17 g18 g19 g20 g21 g22 g23 g24 g25 g26 g27 g28 g29 g30 g31 g32 g33 g34 g35 g36 g37 g38 g39 g40 g41 g42 g43 g44 g45 g46 g47 g48 g49 g50 g51 g52 g53 g54 g55 g56 g57 g58 g59 g60 g61 g62 g63 g64 g65 g66 g67 g68 g69 g70 g71 g72 g73 g74 g75 g76 g77 g78 g79 : Value} {M : Mem} {call : CallM} {K : Array Value → Mem → R} :
    opsK Try.prog (fun _ => call) (opsOf (subC (codeOf Try.f6) [1, 1, 0, 1, 0, 0, 1, 0, 0, 1, 1, 1, 1, 1, 1, 1, 0, 0])) (opsOf (subC (codeOf Try.f6) [1, 1, 0, 1, 0, 0, 1, 0, 0, 1, 1, 1, 1, 1, 1, 1, 0, 0])).toList 0 #[g0, g1, g2, g3, g4, g5, g6, g7, g8, g9, g10, g11, g12, g13, g14, g15, g16, g17, g18, g19, g20, g21, g22, g23, g24, g25, g26, g27, g28, g29, g30, g31, g32, g33, g34, g35, g36, g37, g38, g39, g40, g41, g42, g43, g44, g45, g46, g47, g48, g49, g50, g51, g52, g53, g54, g55, g56, g57, g58, g59, g60, g61, g62, g63, g64, g65, g66, g67, g68, g69, g70, g71, g72, g73, g74, g75, g76, g77, g78, g79] M K = K #[g0, g1, g2, g3, g4, g5, .bool false, g7, g8, g9, g10, g11, g12, g13, g14, g15, g16, g17, g18, g19, g20, g21, g22, g23, g24, g25, g26, g27, g28, g29, g30, g31, g32, g33, g34, g35, g36, g37, g38, g39, g40, g41, g42, g43, g44, g45, g46, g47, g48, g49, g50, g51, g52, g53, g54, g55, g56, g57, g58, g59, g60, g61, g62, g63, g64, g65, g66, g67, g68, g69, g70, g71, g72, g73, g74, g75, g76, g77, g78, g79] M := by kernel_rfl
theorem k6_43 : subC (codeOf Try.f6) [1, 1, 0, 1, 0, 0, 1, 0, 0, 1, 1, 1, 1, 1, 1, 1, 0, 1] = .ret := by kernel_rfl
theorem k6_44 : subC (codeOf Try.f6) [1, 1, 0, 1, 0, 0, 1, 0, 0, 1, 1, 1, 1, 1, 1, 1, 1] = .skip := by kernel_rfl
theorem k6_45 : subC (codeOf Try.f6) [1, 1, 0, 1, 0, 0, 1, 1] = .region 4 (opsOf (subC (codeOf Try.f6) [1, 1, 0, 1, 0, 0, 1, 1])) false := by kernel_rfl
theorem r6_4 {x8 : Int} {g0 g1 g2 g3 g4 g5 g6 g7 g9 g10 g11 g12 g13 g14 g15 g16 g17 g18 g19 g20 g21 g22 g23 g24 g25 g26 g27 g28 g29 g30 g31 g32 g33 g34 g35 g36 g37 g38 g39 g40 g41 g42 g43 g44 g45 g46 g47 g48 g49 g50 g51 g52 g53 g54 g55 g56 g57 g58 g59 g60 g61 g62 g63 g64 g65 g66 g67 g68 g69 g70 g71 g72 g73 g74 g75 g76 g77 g78 g79 : Value} {M : Mem} {call : CallM} {K : Array Value → Mem → R} :
    opsK Try.prog (fun _ => call) (opsOf (subC (codeOf Try.f6) [1, 1, 0, 1, 0, 0, 1, 1])) (opsOf (subC (codeOf Try.f6) [1, 1, 0, 1, 0, 0, 1, 1])).toList 0 #[g0, g1, g2, g3, g4, g5, g6, g7, .int .i64 x8, g9, g10, g11, g12, g13, g14, g15, g16, g17, g18, g19, g20, g21, g22, g23, g24, g25, g26, g27, g28, g29, g30, g31, g32, g33, g34, g35, g36, g37, g38, g39, g40, g41, g42, g43, g44, g45, g46, g47, g48, g49, g50, g51, g52, g53, g54, g55, g56, g57, g58, g59, g60, g61, g62, g63, g64, g65, g66, g67, g68, g69, g70, g71, g72, g73, g74, g75, g76, g77, g78, g79] M K = K #[g0, g1, g2, g3, g4, g5, g6, g7, .int .i64 (IntKind.i64.wrap (x8 + 1)), g9, g10, g11, g12, g13, g14, g15, g16, g17, g18, g19, g20, g21, .int .i64 x8, .int .i64 (IntKind.i64.wrap (x8 + 1)), g24, g25, g26, g27, g28, g29, g30, g31, g32, g33, g34, g35, g36, g37, g38, g39, g40, g41, g42, g43, g44, g45, g46, g47, g48, g49, g50, g51, g52, g53, g54, g55, g56, g57, g58, g59, g60, g61, g62, g63, g64, g65, g66, g67, g68, g69, g70, g71, g72, g73, g74, g75, g76, g77, g78, g79] M := by kernel_rfl
noncomputable def S6_1 : List Item := [.code (subC (codeOf Try.f6) [1, 1, 0, 1, 0, 0]), .inLoop (subC (codeOf Try.f6) [1, 1, 0, 1, 0, 0]), .inBlock 0, .code (subC (codeOf Try.f6) [1, 1, 1])]
def A6_1 (Ax0 : Option Addr) (lx0 : Nat) (cx0 : Nat) (x1 : Int) (x2 : Int) (Ax7 : Option Addr) (lx7 : Nat) (cx7 : Nat) (x8 : Int) (M : Mem) (Q : Value → Mem → Prop) : Prop := ∀ (g3 g4 g5 g6 g9 g10 g11 g12 g13 g14 g15 g16 g17 g18 g19 g20 g21 g22 g23 g24 g25 g26 g27 g28 g29 g30 g31 g32 g33 g34 g35 g36 g37 g38 g39 g40 g41 g42 g43 g44 g45 g46 g47 g48 g49 g50 g51 g52 g53 g54 g55 g56 g57 g58 g59 g60 g61 g62 g63 g64 g65 g66 g67 g68 g69 g70 g71 g72 g73 g74 g75 g76 g77 g78 g79 : Value), Rn Try.prog Try.f6 S6_1 #[.slice Ax0 lx0 cx0, .int .i64 x1, .int .i64 x2, g3, g4, g5, g6, .slice Ax7 lx7 cx7, .int .i64 x8, g9, g10, g11, g12, g13, g14, g15, g16, g17, g18, g19, g20, g21, g22, g23, g24, g25, g26, g27, g28, g29, g30, g31, g32, g33, g34, g35, g36, g37, g38, g39, g40, g41, g42, g43, g44, g45, g46, g47, g48, g49, g50, g51, g52, g53, g54, g55, g56, g57, g58, g59, g60, g61, g62, g63, g64, g65, g66, g67, g68, g69, g70, g71, g72, g73, g74, g75, g76, g77, g78, g79] M Q
noncomputable def S6_2 : List Item := [.code (subC (codeOf Try.f6) [1, 1, 0, 1, 0, 0, 1, 0, 0, 1, 1, 1, 1, 1, 1, 1]), .inBlock 1, .code (subC (codeOf Try.f6) [1, 1, 0, 1, 0, 0, 1, 1]), .inLoop (subC (codeOf Try.f6) [1, 1, 0, 1, 0, 0]), .inBlock 0, .code (subC (codeOf Try.f6) [1, 1, 1])]
def A6_2 (Ax0 : Option Addr) (lx0 : Nat) (cx0 : Nat) (x1 : Int) (x2 : Int) (Ax7 : Option Addr) (lx7 : Nat) (cx7 : Nat) (x8 : Int) (x14 : Int) (x15 : Int) (x16 : Int) (x17 : Int) (x64 : Bool) (M : Mem) (Q : Value → Mem → Prop) : Prop := ∀ (g3 g4 g5 g6 g9 g10 g11 g12 g13 g18 g19 g20 g21 g22 g23 g24 g25 g26 g27 g28 g29 g30 g31 g32 g33 g34 g35 g36 g37 g38 g39 g40 g41 g42 g43 g44 g45 g46 g47 g48 g49 g50 g51 g52 g53 g54 g55 g56 g57 g58 g59 g60 g61 g62 g63 g65 g66 g67 g68 g69 g70 g71 g72 g73 g74 g75 g76 g77 g78 g79 : Value), Rg Try.prog Try.f6 (opsOf (subC (codeOf Try.f6) [1, 1, 0, 1, 0, 0, 1, 0, 0, 1, 1, 1, 1, 1, 1, 0])) false 9 S6_2 #[.slice Ax0 lx0 cx0, .int .i64 x1, .int .i64 x2, g3, g4, g5, g6, .slice Ax7 lx7 cx7, .int .i64 x8, g9, g10, g11, g12, g13, .int .i64 x14, .int .i64 x15, .int .i64 x16, .int .i64 x17, g18, g19, g20, g21, g22, g23, g24, g25, g26, g27, g28, g29, g30, g31, g32, g33, g34, g35, g36, g37, g38, g39, g40, g41, g42, g43, g44, g45, g46, g47, g48, g49, g50, g51, g52, g53, g54, g55, g56, g57, g58, g59, g60, g61, g62, g63, .bool x64, g65, g66, g67, g68, g69, g70, g71, g72, g73, g74, g75, g76, g77, g78, g79] M Q
noncomputable def S6_3 : List Item := [.code (subC (codeOf Try.f6) [1, 1, 0, 1, 0, 0, 1, 0, 0, 1, 1, 1, 1, 1, 1, 1]), .inBlock 1, .code (subC (codeOf Try.f6) [1, 1, 0, 1, 0, 0, 1, 1]), .inLoop (subC (codeOf Try.f6) [1, 1, 0, 1, 0, 0]), .inBlock 0, .code (subC (codeOf Try.f6) [1, 1, 1])]
def A6_3 (Ax0 : Option Addr) (lx0 : Nat) (cx0 : Nat) (x1 : Int) (x2 : Int) (Ax7 : Option Addr) (lx7 : Nat) (cx7 : Nat) (x8 : Int) (x15 : Int) (x17 : Int) (x69 : Bool) (M : Mem) (Q : Value → Mem → Prop) : Prop := ∀ (g3 g4 g5 g6 g9 g10 g11 g12 g13 g14 g16 g18 g19 g20 g21 g22 g23 g24 g25 g26 g27 g28 g29 g30 g31 g32 g33 g34 g35 g36 g37 g38 g39 g40 g41 g42 g43 g44 g45 g46 g47 g48 g49 g50 g51 g52 g53 g54 g55 g56 g57 g58 g59 g60 g61 g62 g63 g64 g65 g66 g67 g68 g70 g71 g72 g73 g74 g75 g76 g77 g78 g79 : Value), Rg Try.prog Try.f6 (opsOf (subC (codeOf Try.f6) [1, 1, 0, 1, 0, 0, 1, 0, 0, 1, 1, 1, 1, 1, 1, 0])) false 14 S6_3 #[.slice Ax0 lx0 cx0, .int .i64 x1, .int .i64 x2, g3, g4, g5, g6, .slice Ax7 lx7 cx7, .int .i64 x8, g9, g10, g11, g12, g13, g14, .int .i64 x15, g16, .int .i64 x17, g18, g19, g20, g21, g22, g23, g24, g25, g26, g27, g28, g29, g30, g31, g32, g33, g34, g35, g36, g37, g38, g39, g40, g41, g42, g43, g44, g45, g46, g47, g48, g49, g50, g51, g52, g53, g54, g55, g56, g57, g58, g59, g60, g61, g62, g63, g64, g65, g66, g67, g68, .bool x69, g70, g71, g72, g73, g74, g75, g76, g77, g78, g79] M Q
noncomputable def S6_4 : List Item := [.code (subC (codeOf Try.f6) [1, 1, 0, 1, 0, 0, 1, 0, 0, 1, 1, 1, 1, 1, 1, 1]), .inBlock 1, .code (subC (codeOf Try.f6) [1, 1, 0, 1, 0, 0, 1, 1]), .inLoop (subC (codeOf Try.f6) [1, 1, 0, 1, 0, 0]), .inBlock 0, .code (subC (codeOf Try.f6) [1, 1, 1])]
def A6_4 (Ax0 : Option Addr) (lx0 : Nat) (cx0 : Nat) (x1 : Int) (x2 : Int) (Ax7 : Option Addr) (lx7 : Nat) (cx7 : Nat) (x8 : Int) (x73 : Bool) (M : Mem) (Q : Value → Mem → Prop) : Prop := ∀ (g3 g4 g5 g6 g9 g10 g11 g12 g13 g14 g15 g16 g17 g18 g19 g20 g21 g22 g23 g24 g25 g26 g27 g28 g29 g30 g31 g32 g33 g34 g35 g36 g37 g38 g39 g40 g41 g42 g43 g44 g45 g46 g47 g48 g49 g50 g51 g52 g53 g54 g55 g56 g57 g58 g59 g60 g61 g62 g63 g64 g65 g66 g67 g68 g69 g70 g71 g72 g74 g75 g76 g77 g78 g79 : Value), Rn Try.prog Try.f6 S6_4 #[.slice Ax0 lx0 cx0, .int .i64 x1, .int .i64 x2, g3, g4, g5, g6, .slice Ax7 lx7 cx7, .int .i64 x8, g9, g10, g11, g12, g13, g14, g15, g16, g17, g18, g19, g20, g21, g22, g23, g24, g25, g26, g27, g28, g29, g30, g31, g32, g33, g34, g35, g36, g37, g38, g39, g40, g41, g42, g43, g44, g45, g46, g47, g48, g49, g50, g51, g52, g53, g54, g55, g56, g57, g58, g59, g60, g61, g62, g63, g64, g65, g66, g67, g68, g69, g70, g71, g72, .bool x73, g74, g75, g76, g77, g78, g79] M Q
theorem w6_0 {Ax0 : Option Addr} {lx0 : Nat} {cx0 : Nat} {x1 : Int} {x2 : Int} {M : Mem} {Q : Value → Mem → Prop} (H :
    Cn Try.prog 16 #[.slice Ax0 lx0 cx0] M fun v1' N1' =>
     ∃ s2', asS v1' = some s2' ∧
     A6_1 Ax0 lx0 cx0 x1 x2 s2'.1 s2'.2.1 s2'.2.2 (-1) N1' Q) :
    Cn Try.prog 6 #[.slice Ax0 lx0 cx0, .int .i64 x1, .int .i64 x2] M Q := by
  refine Cn.of b6 d6 t6 ?_
  refine Rn.seq k6_0 ?_
  refine Rn.region k6_1 (fun call K => r6_0) ?_
  refine Rch.leaf ?_
  refine Rn.seq k6_2 ?_
  refine Rn.region k6_3 (fun call K => r6_1) ?_
  refine Rch.call H (fun v1' N1' H => ?_)
  obtain ⟨s2', hs2', H⟩ := H
  refine Rch.bind hs2' ?_
  refine Rch.leaf ?_
  refine Rn.seq k6_4 ?_
  refine Rn.seq k6_5 ?_
  refine Rn.region k6_6 (fun call K => r6_2) ?_
  refine Rch.leaf ?_
  refine Rn.block k6_7 ?_
  refine Rn.loop k6_8 ?_
  exact H _ _ _ _ _ _ _ _ _ _ _ _ _ _ _ _ _ _ _ _ _ _ _ _ _ _ _ _ _ _ _ _ _ _ _ _ _ _ _ _ _ _ _ _ _ _ _ _ _ _ _ _ _ _ _ _ _ _ _ _ _ _ _ _ _ _ _ _ _ _ _ _ _ _ _

theorem w6_1 {Ax0 : Option Addr} {lx0 : Nat} {cx0 : Nat} {x1 : Int} {x2 : Int} {Ax7 : Option Addr} {lx7 : Nat} {cx7 : Nat} {x8 : Int} {M : Mem} {Q : Value → Mem → Prop} (H :
    ((x8 < 16 →
     ((x8 ≥ 0 →
      Cn Try.prog 17 #[.slice Ax7 lx7 cx7, .int .i64 x1, .int .i64 x8] M fun v3' N3' =>
       ∃ cs4', asU 2 v3' = some cs4' ∧
       ∃ x5', asI .i64 (cs4'.getD 0 undef) = some x5' ∧
       ∃ x6', asI .i64 (cs4'.getD 1 undef) = some x6' ∧
       Cn Try.prog 18 #[.slice Ax0 lx0 cx0, .int .i64 x1, .int .i64 x8] N3' fun v7' N7' =>
        ∃ cs8', asU 2 v7' = some cs8' ∧
        ∃ x9', asI .i64 (cs8'.getD 0 undef) = some x9' ∧
        ∃ x10', asI .i64 (cs8'.getD 1 undef) = some x10' ∧
        Cn Try.prog 19 #[.slice Ax7 lx7 cx7, .int .i64 x1, .int .i64 x8] N7' fun v11' N11' =>
         ∃ cs12', asU 2 v11' = some cs12' ∧
         ∃ x13', asI .i64 (cs12'.getD 0 undef) = some x13' ∧
         ∃ x14', asI .i64 (cs12'.getD 1 undef) = some x14' ∧
         Cn Try.prog 20 #[.slice Ax0 lx0 cx0, .int .i64 x1, .int .i64 x8] N11' fun v15' N15' =>
          ∃ cs16', asU 2 v15' = some cs16' ∧
          ∃ x17', asI .i64 (cs16'.getD 0 undef) = some x17' ∧
          ∃ x18', asI .i64 (cs16'.getD 1 undef) = some x18' ∧
          ((x5' ≠ x9' →
           A6_2 Ax0 lx0 cx0 x1 x2 Ax7 lx7 cx7 x8 x13' x14' x17' x18' true N15' Q) ∧
           (x5' = x9' →
           A6_2 Ax0 lx0 cx0 x1 x2 Ax7 lx7 cx7 x8 x13' x14' x17' x18' (x6' != x10') N15' Q))) ∧
      (¬ (x8 ≥ 0) →
      Cn Try.prog 17 #[.slice Ax7 lx7 cx7, .int .i64 x1, .int .i64 x2] M fun v19' N19' =>
       ∃ cs20', asU 2 v19' = some cs20' ∧
       ∃ x21', asI .i64 (cs20'.getD 0 undef) = some x21' ∧
       ∃ x22', asI .i64 (cs20'.getD 1 undef) = some x22' ∧
       Cn Try.prog 18 #[.slice Ax0 lx0 cx0, .int .i64 x1, .int .i64 x2] N19' fun v23' N23' =>
        ∃ cs24', asU 2 v23' = some cs24' ∧
        ∃ x25', asI .i64 (cs24'.getD 0 undef) = some x25' ∧
        ∃ x26', asI .i64 (cs24'.getD 1 undef) = some x26' ∧
        Cn Try.prog 19 #[.slice Ax7 lx7 cx7, .int .i64 x1, .int .i64 x2] N23' fun v27' N27' =>
         ∃ cs28', asU 2 v27' = some cs28' ∧
         ∃ x29', asI .i64 (cs28'.getD 0 undef) = some x29' ∧
         ∃ x30', asI .i64 (cs28'.getD 1 undef) = some x30' ∧
         Cn Try.prog 20 #[.slice Ax0 lx0 cx0, .int .i64 x1, .int .i64 x2] N27' fun v31' N31' =>
          ∃ cs32', asU 2 v31' = some cs32' ∧
          ∃ x33', asI .i64 (cs32'.getD 0 undef) = some x33' ∧
          ∃ x34', asI .i64 (cs32'.getD 1 undef) = some x34' ∧
          ((x21' ≠ x25' →
           A6_2 Ax0 lx0 cx0 x1 x2 Ax7 lx7 cx7 x8 x29' x30' x33' x34' true N31' Q) ∧
           (x21' = x25' →
           A6_2 Ax0 lx0 cx0 x1 x2 Ax7 lx7 cx7 x8 x29' x30' x33' x34' (x22' != x26') N31' Q))))) ∧
     (¬ (x8 < 16) →
     Cn Try.prog 11 #[.slice Ax7 lx7 cx7, .slice Ax0 lx0 cx0] M fun v35' N35' =>
      ∃ b36', asB v35' = some b36' ∧
      ((b36' = true →
       Cn Try.prog 14 #[] N35' fun v37' N37' =>
        ∃ b38', asB v37' = some b38' ∧
        Q (.bool b38') N37') ∧
       (b36' = false →
       Q (.bool false) N35'))))) :
    A6_1 Ax0 lx0 cx0 x1 x2 Ax7 lx7 cx7 x8 M Q := by
  intro g3 g4 g5 g6 g9 g10 g11 g12 g13 g14 g15 g16 g17 g18 g19 g20 g21 g22 g23 g24 g25 g26 g27 g28 g29 g30 g31 g32 g33 g34 g35 g36 g37 g38 g39 g40 g41 g42 g43 g44 g45 g46 g47 g48 g49 g50 g51 g52 g53 g54 g55 g56 g57 g58 g59 g60 g61 g62 g63 g64 g65 g66 g67 g68 g69 g70 g71 g72 g73 g74 g75 g76 g77 g78 g79
  refine Rn.seq k6_9 ?_
  refine Rn.seq k6_10 ?_
  refine Rn.region k6_11 (fun call K => r6_3) ?_
  refine Rch.leaf ?_
  refine Rn.cnd c6_12 (fun h => ?_) (fun h => ?_)
  · replace H := H.1 (of_decide_eq_true h)
    refine Rn.skip k6_13 ?_
    refine Rn.seq k6_14 ?_
    refine Rn.block k6_15 ?_
    refine Rn.seq k6_16 ?_
    refine Rn.region k6_17 (fun call K => r6_5) ?_
    refine Rch.leaf ?_
    refine Rn.seq k6_18 ?_
    refine Rn.seq k6_19 ?_
    refine Rn.region k6_20 (fun call K => r6_6) ?_
    refine Rch.leaf ?_
    refine Rn.cnd c6_21 (fun h => ?_) (fun h => ?_)
    · replace H := H.1 (of_decide_eq_true h)
      refine Rn.region k6_22 (fun call K => r6_7) ?_
      refine Rch.leaf ?_
      refine Rn.seq k6_23 ?_
      refine Rn.region k6_24 (fun call K => r6_8) ?_
      refine Rch.call H (fun v3' N3' H => ?_)
      obtain ⟨cs4', hcs4', H⟩ := H
      refine Rch.bind hcs4' ?_
      obtain ⟨x5', hx5', H⟩ := H
      refine Rch.bind hx5' ?_
      obtain ⟨x6', hx6', H⟩ := H
      refine Rch.bind hx6' ?_
      refine Rch.leaf ?_
      refine Rn.seq k6_25 ?_
      refine Rn.region k6_26 (fun call K => r6_9) ?_
      refine Rch.call H (fun v7' N7' H => ?_)
      obtain ⟨cs8', hcs8', H⟩ := H
      refine Rch.bind hcs8' ?_
      obtain ⟨x9', hx9', H⟩ := H
      refine Rch.bind hx9' ?_
      obtain ⟨x10', hx10', H⟩ := H
      refine Rch.bind hx10' ?_
      refine Rch.leaf ?_
      refine Rn.seq k6_27 ?_
      refine Rn.region k6_28 (fun call K => r6_10) ?_
      refine Rch.call H (fun v11' N11' H => ?_)
      obtain ⟨cs12', hcs12', H⟩ := H
      refine Rch.bind hcs12' ?_
      obtain ⟨x13', hx13', H⟩ := H
      refine Rch.bind hx13' ?_
      obtain ⟨x14', hx14', H⟩ := H
      refine Rch.bind hx14' ?_
      refine Rch.leaf ?_
      refine Rn.seq k6_29 ?_
      refine Rn.region k6_30 (fun call K => r6_11) ?_
      refine Rch.call H (fun v15' N15' H => ?_)
      obtain ⟨cs16', hcs16', H⟩ := H
      refine Rch.bind hcs16' ?_
      obtain ⟨x17', hx17', H⟩ := H
      refine Rch.bind hx17' ?_
      obtain ⟨x18', hx18', H⟩ := H
      refine Rch.bind hx18' ?_
      refine Rch.leaf ?_
      refine Rn.seq k6_31 ?_
      refine Rn.regionC k6_33 ?_
      refine Rg.step (d := 9) (j := 9) (fun call K => r6_12p0) rfl rfl ?_
      refine Rch.cB (fun h => ?_) (fun h => ?_)
      · replace H := H.1 (ne_of_bneT h)
        refine Rch.rest ?_
        exact H _ _ _ _ _ _ _ _ _ _ _ _ _ _ _ _ _ _ _ _ _ _ _ _ _ _ _ _ _ _ _ _ _ _ _ _ _ _ _ _ _ _ _ _ _ _ _ _ _ _ _ _ _ _ _ _ _ _ _ _ _ _ _ _ _ _ _ _ _ _
      · replace H := H.2 (eq_of_bneF h)
        refine Rch.rest ?_
        exact H _ _ _ _ _ _ _ _ _ _ _ _ _ _ _ _ _ _ _ _ _ _ _ _ _ _ _ _ _ _ _ _ _ _ _ _ _ _ _ _ _ _ _ _ _ _ _ _ _ _ _ _ _ _ _ _ _ _ _ _ _ _ _ _ _ _ _ _ _ _
    · replace H := H.2 (of_decide_eq_false h)
      refine Rn.skip k6_34 ?_
      refine Rn.seq k6_23 ?_
      refine Rn.region k6_24 (fun call K => r6_8) ?_
      refine Rch.call H (fun v19' N19' H => ?_)
      obtain ⟨cs20', hcs20', H⟩ := H
      refine Rch.bind hcs20' ?_
      obtain ⟨x21', hx21', H⟩ := H
      refine Rch.bind hx21' ?_
      obtain ⟨x22', hx22', H⟩ := H
      refine Rch.bind hx22' ?_
      refine Rch.leaf ?_
      refine Rn.seq k6_25 ?_
      refine Rn.region k6_26 (fun call K => r6_9) ?_
      refine Rch.call H (fun v23' N23' H => ?_)
      obtain ⟨cs24', hcs24', H⟩ := H
      refine Rch.bind hcs24' ?_
      obtain ⟨x25', hx25', H⟩ := H
      refine Rch.bind hx25' ?_
      obtain ⟨x26', hx26', H⟩ := H
      refine Rch.bind hx26' ?_
      refine Rch.leaf ?_
      refine Rn.seq k6_27 ?_
      refine Rn.region k6_28 (fun call K => r6_10) ?_
      refine Rch.call H (fun v27' N27' H => ?_)
      obtain ⟨cs28', hcs28', H⟩ := H
      refine Rch.bind hcs28' ?_
      obtain ⟨x29', hx29', H⟩ := H
      refine Rch.bind hx29' ?_
      obtain ⟨x30', hx30', H⟩ := H
      refine Rch.bind hx30' ?_
      refine Rch.leaf ?_
      refine Rn.seq k6_29 ?_
      refine Rn.region k6_30 (fun call K => r6_11) ?_
      refine Rch.call H (fun v31' N31' H => ?_)
      obtain ⟨cs32', hcs32', H⟩ := H
      refine Rch.bind hcs32' ?_
      obtain ⟨x33', hx33', H⟩ := H
      refine Rch.bind hx33' ?_
      obtain ⟨x34', hx34', H⟩ := H
      refine Rch.bind hx34' ?_
      refine Rch.leaf ?_
      refine Rn.seq k6_31 ?_
      refine Rn.regionC k6_33 ?_
      refine Rg.step (d := 9) (j := 9) (fun call K => r6_12p0) rfl rfl ?_
      refine Rch.cB (fun h => ?_) (fun h => ?_)
      · replace H := H.1 (ne_of_bneT h)
        refine Rch.rest ?_
        exact H _ _ _ _ _ _ _ _ _ _ _ _ _ _ _ _ _ _ _ _ _ _ _ _ _ _ _ _ _ _ _ _ _ _ _ _ _ _ _ _ _ _ _ _ _ _ _ _ _ _ _ _ _ _ _ _ _ _ _ _ _ _ _ _ _ _ _ _ _ _
      · replace H := H.2 (eq_of_bneF h)
        refine Rch.rest ?_
        exact H _ _ _ _ _ _ _ _ _ _ _ _ _ _ _ _ _ _ _ _ _ _ _ _ _ _ _ _ _ _ _ _ _ _ _ _ _ _ _ _ _ _ _ _ _ _ _ _ _ _ _ _ _ _ _ _ _ _ _ _ _ _ _ _ _ _ _ _ _ _
  · replace H := H.2 (of_decide_eq_false h)
    refine Rn.exit k6_35 rfl ?_
    refine Rn.seq k6_36 ?_
    refine Rn.region k6_37 (fun call K => r6_14) ?_
    refine Rch.call H (fun v35' N35' H => ?_)
    obtain ⟨b36', hb36', H⟩ := H
    refine Rch.bind hb36' ?_
    refine Rch.cB (fun h => ?_) (fun h => ?_)
    · replace H := H.1 (h)
      refine Rch.call H (fun v37' N37' H => ?_)
      obtain ⟨b38', hb38', H⟩ := H
      refine Rch.bind hb38' ?_
      refine Rch.leaf ?_
      exact Rn.ret k6_38 e6 H
    · replace H := H.2 (h)
      refine Rch.leaf ?_
      exact Rn.ret k6_38 e6 H

theorem w6_2 {Ax0 : Option Addr} {lx0 : Nat} {cx0 : Nat} {x1 : Int} {x2 : Int} {Ax7 : Option Addr} {lx7 : Nat} {cx7 : Nat} {x8 : Int} {x14 : Int} {x15 : Int} {x16 : Int} {x17 : Int} {x64 : Bool} {M : Mem} {Q : Value → Mem → Prop} (H :
    ((x64 = true →
     A6_3 Ax0 lx0 cx0 x1 x2 Ax7 lx7 cx7 x8 x15 x17 true M Q) ∧
     (x64 = false →
     A6_3 Ax0 lx0 cx0 x1 x2 Ax7 lx7 cx7 x8 x15 x17 (x14 != x16) M Q))) :
    A6_2 Ax0 lx0 cx0 x1 x2 Ax7 lx7 cx7 x8 x14 x15 x16 x17 x64 M Q := by
  intro g3 g4 g5 g6 g9 g10 g11 g12 g13 g18 g19 g20 g21 g22 g23 g24 g25 g26 g27 g28 g29 g30 g31 g32 g33 g34 g35 g36 g37 g38 g39 g40 g41 g42 g43 g44 g45 g46 g47 g48 g49 g50 g51 g52 g53 g54 g55 g56 g57 g58 g59 g60 g61 g62 g63 g65 g66 g67 g68 g69 g70 g71 g72 g73 g74 g75 g76 g77 g78 g79
  refine Rg.step (d := 5) (j := 14) (fun call K => r6_12p9) rfl rfl ?_
  refine Rch.cB (fun h => ?_) (fun h => ?_)
  · replace H := H.1 (h)
    refine Rch.rest ?_
    exact H _ _ _ _ _ _ _ _ _ _ _ _ _ _ _ _ _ _ _ _ _ _ _ _ _ _ _ _ _ _ _ _ _ _ _ _ _ _ _ _ _ _ _ _ _ _ _ _ _ _ _ _ _ _ _ _ _ _ _ _ _ _ _ _ _ _ _ _ _ _ _ _
  · replace H := H.2 (h)
    refine Rch.rest ?_
    exact H _ _ _ _ _ _ _ _ _ _ _ _ _ _ _ _ _ _ _ _ _ _ _ _ _ _ _ _ _ _ _ _ _ _ _ _ _ _ _ _ _ _ _ _ _ _ _ _ _ _ _ _ _ _ _ _ _ _ _ _ _ _ _ _ _ _ _ _ _ _ _ _

theorem w6_3 {Ax0 : Option Addr} {lx0 : Nat} {cx0 : Nat} {x1 : Int} {x2 : Int} {Ax7 : Option Addr} {lx7 : Nat} {cx7 : Nat} {x8 : Int} {x15 : Int} {x17 : Int} {x69 : Bool} {M : Mem} {Q : Value → Mem → Prop} (H :
    ((x69 = true →
     A6_4 Ax0 lx0 cx0 x1 x2 Ax7 lx7 cx7 x8 true M Q) ∧
     (x69 = false →
     A6_4 Ax0 lx0 cx0 x1 x2 Ax7 lx7 cx7 x8 (x15 != x17) M Q))) :
    A6_3 Ax0 lx0 cx0 x1 x2 Ax7 lx7 cx7 x8 x15 x17 x69 M Q := by
  intro g3 g4 g5 g6 g9 g10 g11 g12 g13 g14 g16 g18 g19 g20 g21 g22 g23 g24 g25 g26 g27 g28 g29 g30 g31 g32 g33 g34 g35 g36 g37 g38 g39 g40 g41 g42 g43 g44 g45 g46 g47 g48 g49 g50 g51 g52 g53 g54 g55 g56 g57 g58 g59 g60 g61 g62 g63 g64 g65 g66 g67 g68 g70 g71 g72 g73 g74 g75 g76 g77 g78 g79
  refine Rg.step (d := 4) (j := 18) (fun call K => r6_12p14) rfl rfl ?_
  refine Rch.cB (fun h => ?_) (fun h => ?_)
  · replace H := H.1 (h)
    refine Rch.rest ?_
    refine Rg.done rfl ?_
    exact H _ _ _ _ _ _ _ _ _ _ _ _ _ _ _ _ _ _ _ _ _ _ _ _ _ _ _ _ _ _ _ _ _ _ _ _ _ _ _ _ _ _ _ _ _ _ _ _ _ _ _ _ _ _ _ _ _ _ _ _ _ _ _ _ _ _ _ _ _ _ _ _ _ _
  · replace H := H.2 (h)
    refine Rch.rest ?_
    refine Rg.done rfl ?_
    exact H _ _ _ _ _ _ _ _ _ _ _ _ _ _ _ _ _ _ _ _ _ _ _ _ _ _ _ _ _ _ _ _ _ _ _ _ _ _ _ _ _ _ _ _ _ _ _ _ _ _ _ _ _ _ _ _ _ _ _ _ _ _ _ _ _ _ _ _ _ _ _ _ _ _

theorem w6_4 {Ax0 : Option Addr} {lx0 : Nat} {cx0 : Nat} {x1 : Int} {x2 : Int} {Ax7 : Option Addr} {lx7 : Nat} {cx7 : Nat} {x8 : Int} {x73 : Bool} {M : Mem} {Q : Value → Mem → Prop} (H :
    ((x73 = true →
     Q (.bool false) M) ∧
     (x73 = false →
     A6_1 Ax0 lx0 cx0 x1 x2 Ax7 lx7 cx7 (IntKind.i64.wrap (x8 + 1)) M Q))) :
    A6_4 Ax0 lx0 cx0 x1 x2 Ax7 lx7 cx7 x8 x73 M Q := by
  intro g3 g4 g5 g6 g9 g10 g11 g12 g13 g14 g15 g16 g17 g18 g19 g20 g21 g22 g23 g24 g25 g26 g27 g28 g29 g30 g31 g32 g33 g34 g35 g36 g37 g38 g39 g40 g41 g42 g43 g44 g45 g46 g47 g48 g49 g50 g51 g52 g53 g54 g55 g56 g57 g58 g59 g60 g61 g62 g63 g64 g65 g66 g67 g68 g69 g70 g71 g72 g74 g75 g76 g77 g78 g79
  refine Rn.cnd c6_40 (fun h => ?_) (fun h => ?_)
  · replace H := H.1 (h)
    refine Rn.seq k6_41 ?_
    refine Rn.region k6_42 (fun call K => r6_13) ?_
    refine Rch.leaf ?_
    exact Rn.ret k6_43 e6 H
  · replace H := H.2 (h)
    refine Rn.skip k6_44 ?_
    refine Rn.blk ?_
    refine Rn.region k6_45 (fun call K => r6_4) ?_
    refine Rch.leaf ?_
    refine Rn.lp ?_
    exact H _ _ _ _ _ _ _ _ _ _ _ _ _ _ _ _ _ _ _ _ _ _ _ _ _ _ _ _ _ _ _ _ _ _ _ _ _ _ _ _ _ _ _ _ _ _ _ _ _ _ _ _ _ _ _ _ _ _ _ _ _ _ _ _ _ _ _ _ _ _ _ _ _ _ _


end Go.Zt
