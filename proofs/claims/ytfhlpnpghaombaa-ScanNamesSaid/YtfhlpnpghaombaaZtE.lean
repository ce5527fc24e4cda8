/- The functions' walks: for each function and each loop a rule of what it comes to. Printed by zw.py. -/
import Derived.Test.YtfhlpnpghaombaaProg
import Derived.Test.YtfhlpnpghaombaaZsN
set_option linter.unusedVariables false
set_option maxRecDepth 100000
namespace Go.Zt
open Go Go.Sim Go.Proofs

/-! ### zoetrope/zoetropelaw10.ScanEnds: function 5 -/
theorem b5 : Try.prog.funcs[5]? = some Try.f5 := by kernel_rfl
theorem d5 : Try.f5.body = some (subC (codeOf Try.f5) []) := by kernel_rfl
theorem t5 {x0 : Int} {x1 : Int} : #[.int .i64 x0, .int .i64 x1] ++ Array.replicate (Try.f5.ntmps - (#[.int .i64 x0, .int .i64 x1] : Array Value).size) undef = #[.int .i64 x0, .int .i64 x1, undef, undef, undef, undef, undef, undef, undef, undef, undef, undef, undef, undef, undef, undef, undef, undef, undef, undef, undef, undef, undef, undef, undef, undef, undef, undef, undef, undef, undef, undef, undef, undef, undef, undef, undef, undef, undef, undef, undef, undef, undef, undef, undef, undef, undef, undef, undef, undef, undef, undef, undef, undef, undef, undef, undef, undef, undef, undef, undef, undef, undef, undef, undef, undef, undef, undef, undef, undef, undef, undef, undef, undef, undef, undef, undef, undef, undef, undef, undef, undef, undef, undef, undef, undef, undef, undef, undef, undef, undef, undef, undef, undef, undef, undef, undef, undef, undef, undef, undef, undef, undef, undef, undef, undef, undef, undef, undef, undef, undef, undef, undef, undef, undef, undef, undef, undef, undef, undef, undef, undef, undef, undef] := by kernel_rfl
theorem k5_0 : subC (codeOf Try.f5) [] = .seq (subC (codeOf Try.f5) [0]) (subC (codeOf Try.f5) [1]) := by kernel_rfl
theorem k5_1 : subC (codeOf Try.f5) [0] = .region 0 (opsOf (subC (codeOf Try.f5) [0])) false := by kernel_rfl
theorem r5_0 {g0 g1 g2 g3 g4 g5 g6 g7 g8 g9 g10 g11 g12 g13 g14 g15 g16 g17 g18 g19 g20 g21 g22 g23 g24 g25 g26 g27 g28 g29 g30 g31 g32 g33 g34 g35 g36 g37 g38 g39 g40 g41 g42 g43 g44 g45 g46 g47 g48 g49 g50 g51 g52 g53 g54 g55 g56 g57 g58 g59 g60 g61 g62 g63 g64 g65 g66 g67 g68 g69 g70 g71 g72 g73 g74 g75 g76 g77 g78 g79 g80 g81 g82 g83 g84 g85 g86 g87 g88 g89 g90 g91 g92 g93 g94 g95 g96 g97 g98 g99 g100 g101 g102 g103 g104 g105 g106 g107 g108 g109 g110 g111 g112 g113 g114 g115 g116 g117 g118 g119 g120 g121 g122 g123 : Value} {M : Mem} {call : CallM} {K : Array Value → Mem → R} :
    opsK Try.prog (fun _ => call) (opsOf (subC (codeOf Try.f5) [0])) (opsOf (subC (codeOf Try.f5) [0])).toList 0 #[g0, g1, g2, g3, g4, g5, g6, g7, g8, g9, g10, g11, g12, g13, g14, g15, g16, g17, g18, g19, g20, g21, g22, g23, g24, g25, g26, g27, g28, g29, g30, g31, g32, g33, g34, g35, g36, g37, g38, g39, g40, g41, g42, g43, g44, g45, g46, g47, g48, g49, g50, g51, g52, g53, g54, g55, g56, g57, g58, g59, g60, g61, g62, g63, g64, g65, g66, g67, g68, g69, g70, g71, g72, g73, g74, g75, g76, g77, g78, g79, g80, g81, g82, g83, g84, g85, g86, g87, g88, g89, g90, g91, g92, g93, g94, g95, g96, g97, g98, g99, g100, g101, g102, g103, g104, g105, g106, g107, g108, g109, g110, g111, g112, g113, g114, g115, g116, g117, g118, g119, g120, g121, g122, g123] M K = K #[g0, g1, g2, g3, .bool false, g5, g6, g7, g8, g9, g10, g11, g12, g13, g14, g15, g16, g17, g18, g19, g20, g21, g22, g23, g24, g25, g26, g27, g28, g29, g30, g31, g32, g33, g34, g35, g36, g37, g38, g39, g40, g41, g42, g43, g44, g45, g46, g47, g48, g49, g50, g51, g52, g53, g54, g55, g56, g57, g58, g59, g60, g61, g62, g63, g64, g65, g66, g67, g68, g69, g70, g71, g72, g73, g74, g75, g76, g77, g78, g79, g80, g81, g82, g83, g84, g85, g86, g87, g88, g89, g90, g91, g92, g93, g94, g95, g96, g97, g98, g99, g100, g101, g102, g103, g104, g105, g106, g107, g108, g109, g110, g111, g112, g113, g114, g115, g116, g117, g118, g119, g120, g121, g122, g123] M := by kernel_rfl
theorem k5_2 : subC (codeOf Try.f5) [1] = .seq (subC (codeOf Try.f5) [1, 0]) (subC (codeOf Try.f5) [1, 1]) := by kernel_rfl
theorem k5_3 : subC (codeOf Try.f5) [1, 0] = .seq (subC (codeOf Try.f5) [1, 0, 0]) (subC (codeOf Try.f5) [1, 0, 1]) := by kernel_rfl
theorem k5_4 : subC (codeOf Try.f5) [1, 0, 0] = .region 1 (opsOf (subC (codeOf Try.f5) [1, 0, 0])) false := by kernel_rfl
theorem r5_1 {g0 g1 g2 g3 g4 g5 g6 g7 g8 g9 g10 g11 g12 g13 g14 g15 g16 g17 g18 g19 g20 g21 g22 g23 g24 g25 g26 g27 g28 g29 g30 g31 g32 g33 g34 g35 g36 g37 g38 g39 g40 g41 g42 g43 g44 g45 g46 g47 g48 g49 g50 g51 g52 g53 g54 g55 g56 g57 g58 g59 g60 g61 g62 g63 g64 g65 g66 g67 g68 g69 g70 g71 g72 g73 g74 g75 g76 g77 g78 g79 g80 g81 g82 g83 g84 g85 g86 g87 g88 g89 g90 g91 g92 g93 g94 g95 g96 g97 g98 g99 g100 g101 g102 g103 g104 g105 g106 g107 g108 g109 g110 g111 g112 g113 g114 g115 g116 g117 g118 g119 g120 g121 g122 g123 : Value} {M : Mem} {call : CallM} {K : Array Value → Mem → R} :
    opsK Try.prog (fun _ => call) (opsOf (subC (codeOf Try.f5) [1, 0, 0])) (opsOf (subC (codeOf Try.f5) [1, 0, 0])).toList 0 #[g0, g1, g2, g3, g4, g5, g6, g7, g8, g9, g10, g11, g12, g13, g14, g15, g16, g17, g18, g19, g20, g21, g22, g23, g24, g25, g26, g27, g28, g29, g30, g31, g32, g33, g34, g35, g36, g37, g38, g39, g40, g41, g42, g43, g44, g45, g46, g47, g48, g49, g50, g51, g52, g53, g54, g55, g56, g57, g58, g59, g60, g61, g62, g63, g64, g65, g66, g67, g68, g69, g70, g71, g72, g73, g74, g75, g76, g77, g78, g79, g80, g81, g82, g83, g84, g85, g86, g87, g88, g89, g90, g91, g92, g93, g94, g95, g96, g97, g98, g99, g100, g101, g102, g103, g104, g105, g106, g107, g108, g109, g110, g111, g112, g113, g114, g115, g116, g117, g118, g119, g120, g121, g122, g123] M K = (call 14 #[] M).bind fun r_1 => (asB r_1.1).bind fun b_2 => K #[g0, g1, g2, g3, g4, g5, g6, g7, g8, g9, g10, g11, g12, g13, .bool b_2, .bool (!b_2), g16, g17, g18, g19, g20, g21, g22, g23, g24, g25, g26, g27, g28, g29, g30, g31, g32, g33, g34, g35, g36, g37, g38, g39, g40, g41, g42, g43, g44, g45, g46, g47, g48, g49, g50, g51, g52, g53, g54, g55, g56, g57, g58, g59, g60, g61, g62, g63, g64, g65, g66, g67, g68, g69, g70, g71, g72, g73, g74, g75, g76, g77, g78, g79, g80, g81, g82, g83, g84, g85, g86, g87, g88, g89, g90, g91, g92, g93, g94, g95, g96, g97, g98, g99, g100, g101, g102, g103, g104, g105, g106, g107, g108, g109, g110, g111, g112, g113, g114, g115, g116, g117, g118, g119, g120, g121, g122, g123] r_1.2 := by kernel_rfl
theorem c5_5 {x15 : Bool} {g0 g1 g2 g3 g4 g5 g6 g7 g8 g9 g10 g11 g12 g13 g14 g16 g17 g18 g19 g20 g21 g22 g23 g24 g25 g26 g27 g28 g29 g30 g31 g32 g33 g34 g35 g36 g37 g38 g39 g40 g41 g42 g43 g44 g45 g46 g47 g48 g49 g50 g51 g52 g53 g54 g55 g56 g57 g58 g59 g60 g61 g62 g63 g64 g65 g66 g67 g68 g69 g70 g71 g72 g73 g74 g75 g76 g77 g78 g79 g80 g81 g82 g83 g84 g85 g86 g87 g88 g89 g90 g91 g92 g93 g94 g95 g96 g97 g98 g99 g100 g101 g102 g103 g104 g105 g106 g107 g108 g109 g110 g111 g112 g113 g114 g115 g116 g117 g118 g119 g120 g121 g122 g123 : Value} : subC (codeOf Try.f5) [1, 0, 1] = .cond (.tmp 15) (subC (codeOf Try.f5) [1, 0, 1, 0]) (subC (codeOf Try.f5) [1, 0, 1, 1]) ∧ okOperand (.tmp 15) = true ∧ evalT #[g0, g1, g2, g3, g4, g5, g6, g7, g8, g9, g10, g11, g12, g13, g14, .bool x15, g16, g17, g18, g19, g20, g21, g22, g23, g24, g25, g26, g27, g28, g29, g30, g31, g32, g33, g34, g35, g36, g37, g38, g39, g40, g41, g42, g43, g44, g45, g46, g47, g48, g49, g50, g51, g52, g53, g54, g55, g56, g57, g58, g59, g60, g61, g62, g63, g64, g65, g66, g67, g68, g69, g70, g71, g72, g73, g74, g75, g76, g77, g78, g79, g80, g81, g82, g83, g84, g85, g86, g87, g88, g89, g90, g91, g92, g93, g94, g95, g96, g97, g98, g99, g100, g101, g102, g103, g104, g105, g106, g107, g108, g109, g110, g111, g112, g113, g114, g115, g116, g117, g118, g119, g120, g121, g122, g123] (.tmp 15) = .bool x15 := ⟨by kernel_rfl, by kernel_rfl, by kernel_rfl⟩
theorem k5_6 : subC (codeOf Try.f5) [1, 0, 1, 0] = .seq (subC (codeOf Try.f5) [1, 0, 1, 0, 0]) (subC (codeOf Try.f5) [1, 0, 1, 0, 1]) := by kernel_rfl
theorem k5_7 : subC (codeOf Try.f5) [1, 0, 1, 0, 0] = .region 2 (opsOf (subC (codeOf Try.f5) [1, 0, 1, 0, 0])) false := by kernel_rfl
theorem r5_2 {g0 g1 g2 g3 g4 g5 g6 g7 g8 g9 g10 g11 g12 g13 g14 g15 g16 g17 g18 g19 g20 g21 g22 g23 g24 g25 g26 g27 g28 g29 g30 g31 g32 g33 g34 g35 g36 g37 g38 g39 g40 g41 g42 g43 g44 g45 g46 g47 g48 g49 g50 g51 g52 g53 g54 g55 g56 g57 g58 g59 g60 g61 g62 g63 g64 g65 g66 g67 g68 g69 g70 g71 g72 g73 g74 g75 g76 g77 g78 g79 g80 g81 g82 g83 g84 g85 g86 g87 g88 g89 g90 g91 g92 g93 g94 g95 g96 g97 g98 g99 g100 g101 g102 g103 g104 g105 g106 g107 g108 g109 g110 g111 g112 g113 g114 g115 g116 g117 g118 g119 g120 g121 g122 g123 : Value} {M : Mem} {call : CallM} {K : Array Value → Mem → R} :
    opsK Try.prog (fun _ => call) (opsOf (subC (codeOf Try.f5) [1, 0, 1, 0, 0])) (opsOf (subC (codeOf Try.f5) [1, 0, 1, 0, 0])).toList 0 #[g0, g1, g2, g3, g4, g5, g6, g7, g8, g9, g10, g11, g12, g13, g14, g15, g16, g17, g18, g19, g20, g21, g22, g23, g24, g25, g26, g27, g28, g29, g30, g31, g32, g33, g34, g35, g36, g37, g38, g39, g40, g41, g42, g43, g44, g45, g46, g47, g48, g49, g50, g51, g52, g53, g54, g55, g56, g57, g58, g59, g60, g61, g62, g63, g64, g65, g66, g67, g68, g69, g70, g71, g72, g73, g74, g75, g76, g77, g78, g79, g80, g81, g82, g83, g84, g85, g86, g87, g88, g89, g90, g91, g92, g93, g94, g95, g96, g97, g98, g99, g100, g101, g102, g103, g104, g105, g106, g107, g108, g109, g110, g111, g112, g113, g114, g115, g116, g117, g118, g119, g120, g121, g122, g123] M K = K #[g0, g1, g2, g3, .bool false, g5, g6, g7, g8, g9, g10, g11, g12, g13, g14, g15, g16, g17, g18, g19, g20, g21, g22, g23, g24, g25, g26, g27, g28, g29, g30, g31, g32, g33, g34, g35, g36, g37, g38, g39, g40, g41, g42, g43, g44, g45, g46, g47, g48, g49, g50, g51, g52, g53, g54, g55, g56, g57, g58, g59, g60, g61, g62, g63, g64, g65, g66, g67, g68, g69, g70, g71, g72, g73, g74, g75, g76, g77, g78, g79, g80, g81, g82, g83, g84, g85, g86, g87, g88, g89, g90, g91, g92, g93, g94, g95, g96, g97, g98, g99, g100, g101, g102, g103, g104, g105, g106, g107, g108, g109, g110, g111, g112, g113, g114, g115, g116, g117, g118, g119, g120, g121, g122, g123] M := by kernel_rfl
theorem k5_8 : subC (codeOf Try.f5) [1, 0, 1, 0, 1] = .ret := by kernel_rfl
theorem e5 {g0 g1 g2 g3 g4 g5 g6 g7 g8 g9 g10 g11 g12 g13 g14 g15 g16 g17 g18 g19 g20 g21 g22 g23 g24 g25 g26 g27 g28 g29 g30 g31 g32 g33 g34 g35 g36 g37 g38 g39 g40 g41 g42 g43 g44 g45 g46 g47 g48 g49 g50 g51 g52 g53 g54 g55 g56 g57 g58 g59 g60 g61 g62 g63 g64 g65 g66 g67 g68 g69 g70 g71 g72 g73 g74 g75 g76 g77 g78 g79 g80 g81 g82 g83 g84 g85 g86 g87 g88 g89 g90 g91 g92 g93 g94 g95 g96 g97 g98 g99 g100 g101 g102 g103 g104 g105 g106 g107 g108 g109 g110 g111 g112 g113 g114 g115 g116 g117 g118 g119 g120 g121 g122 g123 : Value} {M : Mem} : finish Try.prog Try.f5 #[g0, g1, g2, g3, g4, g5, g6, g7, g8, g9, g10, g11, g12, g13, g14, g15, g16, g17, g18, g19, g20, g21, g22, g23, g24, g25, g26, g27, g28, g29, g30, g31, g32, g33, g34, g35, g36, g37, g38, g39, g40, g41, g42, g43, g44, g45, g46, g47, g48, g49, g50, g51, g52, g53, g54, g55, g56, g57, g58, g59, g60, g61, g62, g63, g64, g65, g66, g67, g68, g69, g70, g71, g72, g73, g74, g75, g76, g77, g78, g79, g80, g81, g82, g83, g84, g85, g86, g87, g88, g89, g90, g91, g92, g93, g94, g95, g96, g97, g98, g99, g100, g101, g102, g103, g104, g105, g106, g107, g108, g109, g110, g111, g112, g113, g114, g115, g116, g117, g118, g119, g120, g121, g122, g123] M = some (g4, M) := by kernel_rfl
theorem k5_10 : subC (codeOf Try.f5) [1, 0, 1, 1] = .skip := by kernel_rfl
theorem k5_11 : subC (codeOf Try.f5) [1, 1] = .seq (subC (codeOf Try.f5) [1, 1, 0]) (subC (codeOf Try.f5) [1, 1, 1]) := by kernel_rfl
theorem k5_12 : subC (codeOf Try.f5) [1, 1, 0] = .region 3 (opsOf (subC (codeOf Try.f5) [1, 1, 0])) false := by kernel_rfl
theorem r5_3 {x0 : Int} {g1 g2 g3 g4 g5 g6 g7 g8 g9 g10 g11 g12 g13 g14 g15 g16 g17 g18 g19 g20 g21 g22 g23 g24 g25 g26 g27 g28 g29 g30 g31 g32 g33 g34 g35 g36 g37 g38 g39 g40 g41 g42 g43 g44 g45 g46 g47 g48 g49 g50 g51 g52 g53 g54 g55 g56 g57 g58 g59 g60 g61 g62 g63 g64 g65 g66 g67 g68 g69 g70 g71 g72 g73 g74 g75 g76 g77 g78 g79 g80 g81 g82 g83 g84 g85 g86 g87 g88 g89 g90 g91 g92 g93 g94 g95 g96 g97 g98 g99 g100 g101 g102 g103 g104 g105 g106 g107 g108 g109 g110 g111 g112 g113 g114 g115 g116 g117 g118 g119 g120 g121 g122 g123 : Value} {M : Mem} {call : CallM} {K : Array Value → Mem → R} :
    opsK Try.prog (fun _ => call) (opsOf (subC (codeOf Try.f5) [1, 1, 0])) (opsOf (subC (codeOf Try.f5) [1, 1, 0])).toList 0 #[.int .i64 x0, g1, g2, g3, g4, g5, g6, g7, g8, g9, g10, g11, g12, g13, g14, g15, g16, g17, g18, g19, g20, g21, g22, g23, g24, g25, g26, g27, g28, g29, g30, g31, g32, g33, g34, g35, g36, g37, g38, g39, g40, g41, g42, g43, g44, g45, g46, g47, g48, g49, g50, g51, g52, g53, g54, g55, g56, g57, g58, g59, g60, g61, g62, g63, g64, g65, g66, g67, g68, g69, g70, g71, g72, g73, g74, g75, g76, g77, g78, g79, g80, g81, g82, g83, g84, g85, g86, g87, g88, g89, g90, g91, g92, g93, g94, g95, g96, g97, g98, g99, g100, g101, g102, g103, g104, g105, g106, g107, g108, g109, g110, g111, g112, g113, g114, g115, g116, g117, g118, g119, g120, g121, g122, g123] M K = (call 15 #[.int .i64 x0, .int .i64 1024] M).bind fun r_1 => (asI .i64 r_1.1).bind fun x_2 => K #[.int .i64 (IntKind.i64.wrap (1 + x_2)), g1, g2, g3, g4, g5, g6, g7, g8, g9, g10, g11, g12, g13, g14, g15, .int .i64 x0, .int .i64 x_2, .int .i64 (IntKind.i64.wrap (1 + x_2)), g19, g20, g21, g22, g23, g24, g25, g26, g27, g28, g29, g30, g31, g32, g33, g34, g35, g36, g37, g38, g39, g40, g41, g42, g43, g44, g45, g46, g47, g48, g49, g50, g51, g52, g53, g54, g55, g56, g57, g58, g59, g60, g61, g62, g63, g64, g65, g66, g67, g68, g69, g70, g71, g72, g73, g74, g75, g76, g77, g78, g79, g80, g81, g82, g83, g84, g85, g86, g87, g88, g89, g90, g91, g92, g93, g94, g95, g96, g97, g98, g99, g100, g101, g102, g103, g104, g105, g106, g107, g108, g109, g110, g111, g112, g113, g114, g115, g116, g117, g118, g119, g120, g121, g122, g123] r_1.2 := by kernel_rfl
theorem k5_13 : subC (codeOf Try.f5) [1, 1, 1] = .seq (subC (codeOf Try.f5) [1, 1, 1, 0]) (subC (codeOf Try.f5) [1, 1, 1, 1]) := by kernel_rfl
theorem k5_14 : subC (codeOf Try.f5) [1, 1, 1, 0] = .region 4 (opsOf (subC (codeOf Try.f5) [1, 1, 1, 0])) false := by kernel_rfl
theorem r5_4 {x1 : Int} {g0 g2 g3 g4 g5 g6 g7 g8 g9 g10 g11 g12 g13 g14 g15 g16 g17 g18 g19 g20 g21 g22 g23 g24 g25 g26 g27 g28 g29 g30 g31 g32 g33 g34 g35 g36 g37 g38 g39 g40 g41 g42 g43 g44 g45 g46 g47 g48 g49 g50 g51 g52 g53 g54 g55 g56 g57 g58 g59 g60 g61 g62 g63 g64 g65 g66 g67 g68 g69 g70 g71 g72 g73 g74 g75 g76 g77 g78 g79 g80 g81 g82 g83 g84 g85 g86 g87 g88 g89 g90 g91 g92 g93 g94 g95 g96 g97 g98 g99 g100 g101 g102 g103 g104 g105 g106 g107 g108 g109 g110 g111 g112 g113 g114 g115 g116 g117 g118 g119 g120 g121 g122 g123 : Value} {M : Mem} {call : CallM} {K : Array Value → Mem → R} :
    opsK Try.prog (fun _ => call) (opsOf (subC (codeOf Try.f5) [1, 1, 1, 0])) (opsOf (subC (codeOf Try.f5) [1, 1, 1, 0])).toList 0 #[g0, .int .i64 x1, g2, g3, g4, g5, g6, g7, g8, g9, g10, g11, g12, g13, g14, g15, g16, g17, g18, g19, g20, g21, g22, g23, g24, g25, g26, g27, g28, g29, g30, g31, g32, g33, g34, g35, g36, g37, g38, g39, g40, g41, g42, g43, g44, g45, g46, g47, g48, g49, g50, g51, g52, g53, g54, g55, g56, g57, g58, g59, g60, g61, g62, g63, g64, g65, g66, g67, g68, g69, g70, g71, g72, g73, g74, g75, g76, g77, g78, g79, g80, g81, g82, g83, g84, g85, g86, g87, g88, g89, g90, g91, g92, g93, g94, g95, g96, g97, g98, g99, g100, g101, g102, g103, g104, g105, g106, g107, g108, g109, g110, g111, g112, g113, g114, g115, g116, g117, g118, g119, g120, g121, g122, g123] M K = (call 15 #[.int .i64 x1, .int .i64 1024] M).bind fun r_1 => (asI .i64 r_1.1).bind fun x_2 => K #[g0, .int .i64 (IntKind.i64.wrap (1 + x_2)), g2, g3, g4, g5, g6, g7, g8, g9, g10, g11, g12, g13, g14, g15, g16, g17, g18, .int .i64 x1, .int .i64 x_2, .int .i64 (IntKind.i64.wrap (1 + x_2)), g22, g23, g24, g25, g26, g27, g28, g29, g30, g31, g32, g33, g34, g35, g36, g37, g38, g39, g40, g41, g42, g43, g44, g45, g46, g47, g48, g49, g50, g51, g52, g53, g54, g55, g56, g57, g58, g59, g60, g61, g62, g63, g64, g65, g66, g67, g68, g69, g70, g71, g72, g73, g74, g75, g76, g77, g78, g79, g80, g81, g82, g83, g84, g85, g86, g87, g88, g89, g90, g91, g92, g93, g94, g95, g96, g97, g98, g99, g100, g101, g102, g103, g104, g105, g106, g107, g108, g109, g110, g111, g112, g113, g114, g115, g116, g117, g118, g119, g120, g121, g122, g123] r_1.2 := by kernel_rfl
theorem k5_15 : subC (codeOf Try.f5) [1, 1, 1, 1] = .seq (subC (codeOf Try.f5) [1, 1, 1, 1, 0]) (subC (codeOf Try.f5) [1, 1, 1, 1, 1]) := by kernel_rfl
theorem k5_16 : subC (codeOf Try.f5) [1, 1, 1, 1, 0] = .region 5 (opsOf (subC (codeOf Try.f5) [1, 1, 1, 1, 0])) false := by kernel_rfl
theorem r5_5 {x0 : Int} {g1 g2 g3 g4 g5 g6 g7 g8 g9 g10 g11 g12 g13 g14 g15 g16 g17 g18 g19 g20 g21 g22 g23 g24 g25 g26 g27 g28 g29 g30 g31 g32 g33 g34 g35 g36 g37 g38 g39 g40 g41 g42 g43 g44 g45 g46 g47 g48 g49 g50 g51 g52 g53 g54 g55 g56 g57 g58 g59 g60 g61 g62 g63 g64 g65 g66 g67 g68 g69 g70 g71 g72 g73 g74 g75 g76 g77 g78 g79 g80 g81 g82 g83 g84 g85 g86 g87 g88 g89 g90 g91 g92 g93 g94 g95 g96 g97 g98 g99 g100 g101 g102 g103 g104 g105 g106 g107 g108 g109 g110 g111 g112 g113 g114 g115 g116 g117 g118 g119 g120 g121 g122 g123 : Value} {M : Mem} {call : CallM} {K : Array Value → Mem → R} :
    opsK Try.prog (fun _ => call) (opsOf (subC (codeOf Try.f5) [1, 1, 1, 1, 0])) (opsOf (subC (codeOf Try.f5) [1, 1, 1, 1, 0])).toList 0 #[.int .i64 x0, g1, g2, g3, g4, g5, g6, g7, g8, g9, g10, g11, g12, g13, g14, g15, g16, g17, g18, g19, g20, g21, g22, g23, g24, g25, g26, g27, g28, g29, g30, g31, g32, g33, g34, g35, g36, g37, g38, g39, g40, g41, g42, g43, g44, g45, g46, g47, g48, g49, g50, g51, g52, g53, g54, g55, g56, g57, g58, g59, g60, g61, g62, g63, g64, g65, g66, g67, g68, g69, g70, g71, g72, g73, g74, g75, g76, g77, g78, g79, g80, g81, g82, g83, g84, g85, g86, g87, g88, g89, g90, g91, g92, g93, g94, g95, g96, g97, g98, g99, g100, g101, g102, g103, g104, g105, g106, g107, g108, g109, g110, g111, g112, g113, g114, g115, g116, g117, g118, g119, g120, g121, g122, g123] M K = (call 12 #[.int .i64 x0] M).bind fun r_1 => (asU 4 r_1.1).bind fun cs_2 => (asI .i64 (cs_2.getD 0 undef)).bind fun x_3 => (asI .i64 (cs_2.getD 1 undef)).bind fun x_4 => (asI .i64 (cs_2.getD 2 undef)).bind fun x_5 => (asI .i64 (cs_2.getD 3 undef)).bind fun x_6 => K #[.int .i64 x0, g1, g2, g3, g4, .int .i64 x_3, .int .i64 x_4, .int .i64 x_5, .int .i64 x_6, g9, g10, g11, g12, g13, g14, g15, g16, g17, g18, g19, g20, g21, .tuple #[.int .i64 x_3, .int .i64 x_4, .int .i64 x_5, .int .i64 x_6], .int .i64 x0, .tuple #[.int .i64 x_3, .int .i64 x_4, .int .i64 x_5, .int .i64 x_6], .int .i64 x_3, .int .i64 x_4, .int .i64 x_5, .int .i64 x_6, g29, g30, g31, g32, g33, g34, g35, g36, g37, g38, g39, g40, g41, g42, g43, g44, g45, g46, g47, g48, g49, g50, g51, g52, g53, g54, g55, g56, g57, g58, g59, g60, g61, g62, g63, g64, g65, g66, g67, g68, g69, g70, g71, g72, g73, g74, g75, g76, g77, g78, g79, g80, g81, g82, g83, g84, g85, g86, g87, g88, g89, g90, g91, g92, g93, g94, g95, g96, g97, g98, g99, g100, g101, g102, g103, g104, g105, g106, g107, g108, g109, g110, g111, g112, g113, g114, g115, g116, g117, g118, g119, g120, g121, g122, g123] r_1.2 := by kernel_rfl
theorem k5_17 : subC (codeOf Try.f5) [1, 1, 1, 1, 1] = .seq (subC (codeOf Try.f5) [1, 1, 1, 1, 1, 0]) (subC (codeOf Try.f5) [1, 1, 1, 1, 1, 1]) := by kernel_rfl
theorem k5_18 : subC (codeOf Try.f5) [1, 1, 1, 1, 1, 0] = .region 6 (opsOf (subC (codeOf Try.f5) [1, 1, 1, 1, 1, 0])) false := by kernel_rfl
theorem r5_6 {x1 : Int} {g0 g2 g3 g4 g5 g6 g7 g8 g9 g10 g11 g12 g13 g14 g15 g16 g17 g18 g19 g20 g21 g22 g23 g24 g25 g26 g27 g28 g29 g30 g31 g32 g33 g34 g35 g36 g37 g38 g39 g40 g41 g42 g43 g44 g45 g46 g47 g48 g49 g50 g51 g52 g53 g54 g55 g56 g57 g58 g59 g60 g61 g62 g63 g64 g65 g66 g67 g68 g69 g70 g71 g72 g73 g74 g75 g76 g77 g78 g79 g80 g81 g82 g83 g84 g85 g86 g87 g88 g89 g90 g91 g92 g93 g94 g95 g96 g97 g98 g99 g100 g101 g102 g103 g104 g105 g106 g107 g108 g109 g110 g111 g112 g113 g114 g115 g116 g117 g118 g119 g120 g121 g122 g123 : Value} {M : Mem} {call : CallM} {K : Array Value → Mem → R} :
    opsK Try.prog (fun _ => call) (opsOf (subC (codeOf Try.f5) [1, 1, 1, 1, 1, 0])) (opsOf (subC (codeOf Try.f5) [1, 1, 1, 1, 1, 0])).toList 0 #[g0, .int .i64 x1, g2, g3, g4, g5, g6, g7, g8, g9, g10, g11, g12, g13, g14, g15, g16, g17, g18, g19, g20, g21, g22, g23, g24, g25, g26, g27, g28, g29, g30, g31, g32, g33, g34, g35, g36, g37, g38, g39, g40, g41, g42, g43, g44, g45, g46, g47, g48, g49, g50, g51, g52, g53, g54, g55, g56, g57, g58, g59, g60, g61, g62, g63, g64, g65, g66, g67, g68, g69, g70, g71, g72, g73, g74, g75, g76, g77, g78, g79, g80, g81, g82, g83, g84, g85, g86, g87, g88, g89, g90, g91, g92, g93, g94, g95, g96, g97, g98, g99, g100, g101, g102, g103, g104, g105, g106, g107, g108, g109, g110, g111, g112, g113, g114, g115, g116, g117, g118, g119, g120, g121, g122, g123] M K = (call 12 #[.int .i64 x1] M).bind fun r_1 => (asU 4 r_1.1).bind fun cs_2 => (asI .i64 (cs_2.getD 0 undef)).bind fun x_3 => (asI .i64 (cs_2.getD 1 undef)).bind fun x_4 => (asI .i64 (cs_2.getD 2 undef)).bind fun x_5 => (asI .i64 (cs_2.getD 3 undef)).bind fun x_6 => K #[g0, .int .i64 x1, g2, g3, g4, g5, g6, g7, g8, .int .i64 x_3, .int .i64 x_4, .int .i64 x_5, .int .i64 x_6, g13, g14, g15, g16, g17, g18, g19, g20, g21, g22, g23, g24, g25, g26, g27, g28, .tuple #[.int .i64 x_3, .int .i64 x_4, .int .i64 x_5, .int .i64 x_6], .int .i64 x1, .tuple #[.int .i64 x_3, .int .i64 x_4, .int .i64 x_5, .int .i64 x_6], .int .i64 x_3, .int .i64 x_4, .int .i64 x_5, .int .i64 x_6, g36, g37, g38, g39, g40, g41, g42, g43, g44, g45, g46, g47, g48, g49, g50, g51, g52, g53, g54, g55, g56, g57, g58, g59, g60, g61, g62, g63, g64, g65, g66, g67, g68, g69, g70, g71, g72, g73, g74, g75, g76, g77, g78, g79, g80, g81, g82, g83, g84, g85, g86, g87, g88, g89, g90, g91, g92, g93, g94, g95, g96, g97, g98, g99, g100, g101, g102, g103, g104, g105, g106, g107, g108, g109, g110, g111, g112, g113, g114, g115, g116, g117, g118, g119, g120, g121, g122, g123] r_1.2 := by kernel_rfl
theorem k5_19 : subC (codeOf Try.f5) [1, 1, 1, 1, 1, 1] = .seq (subC (codeOf Try.f5) [1, 1, 1, 1, 1, 1, 0]) (subC (codeOf Try.f5) [1, 1, 1, 1, 1, 1, 1]) := by kernel_rfl
theorem k5_20 : subC (codeOf Try.f5) [1, 1, 1, 1, 1, 1, 0] = .seq (subC (codeOf Try.f5) [1, 1, 1, 1, 1, 1, 0, 0]) (subC (codeOf Try.f5) [1, 1, 1, 1, 1, 1, 0, 1]) := by kernel_rfl
theorem k5_21 : subC (codeOf Try.f5) [1, 1, 1, 1, 1, 1, 0, 0] = .region 7 (opsOf (subC (codeOf Try.f5) [1, 1, 1, 1, 1, 1, 0, 0])) false := by kernel_rfl
theorem r5_7 {x0 : Int} {x1 : Int} {x5 : Int} {x6 : Int} {x7 : Int} {x8 : Int} {x9 : Int} {x11 : Int} {x12 : Int} {g2 g3 g4 g10 g13 g14 g15 g16 g17 g18 g19 g20 g21 g22 g23 g24 g25 g26 g27 g28 g29 g30 g31 g32 g33 g34 g35 g36 g37 g38 g39 g40 g41 g42 g43 g44 g45 g46 g47 g48 g49 g50 g51 g52 g53 g54 g55 g56 g57 g58 g59 g60 g61 g62 g63 g64 g65 g66 g67 g68 g69 g70 g71 g72 g73 g74 g75 g76 g77 g78 g79 g80 g81 g82 g83 g84 g85 g86 g87 g88 g89 g90 g91 g92 g93 g94 g95 g96 g97 g98 g99 g100 g101 g102 g103 g104 g105 g106 g107 g108 g109 g110 g111 g112 g113 g114 g115 g116 g117 g118 g119 g120 g121 g122 g123 : Value} {M : Mem} {call : CallM} {K : Array Value → Mem → R} :
    opsK Try.prog (fun _ => call) (opsOf (subC (codeOf Try.f5) [1, 1, 1, 1, 1, 1, 0, 0])) (opsOf (subC (codeOf Try.f5) [1, 1, 1, 1, 1, 1, 0, 0])).toList 0 #[.int .i64 x0, .int .i64 x1, g2, g3, g4, .int .i64 x5, .int .i64 x6, .int .i64 x7, .int .i64 x8, .int .i64 x9, g10, .int .i64 x11, .int .i64 x12, g13, g14, g15, g16, g17, g18, g19, g20, g21, g22, g23, g24, g25, g26, g27, g28, g29, g30, g31, g32, g33, g34, g35, g36, g37, g38, g39, g40, g41, g42, g43, g44, g45, g46, g47, g48, g49, g50, g51, g52, g53, g54, g55, g56, g57, g58, g59, g60, g61, g62, g63, g64, g65, g66, g67, g68, g69, g70, g71, g72, g73, g74, g75, g76, g77, g78, g79, g80, g81, g82, g83, g84, g85, g86, g87, g88, g89, g90, g91, g92, g93, g94, g95, g96, g97, g98, g99, g100, g101, g102, g103, g104, g105, g106, g107, g108, g109, g110, g111, g112, g113, g114, g115, g116, g117, g118, g119, g120, g121, g122, g123] M K = cond (x8 != 0) (K #[.int .i64 x0, .int .i64 x1, g2, g3, g4, .int .i64 x5, .int .i64 x6, .int .i64 x7, .int .i64 x8, .int .i64 x9, g10, .int .i64 x11, .int .i64 x12, g13, g14, g15, g16, g17, g18, g19, g20, g21, g22, g23, g24, g25, g26, g27, g28, g29, g30, g31, g32, g33, g34, g35, .int .i64 x8, .bool (x8 != 0), .bool true, undef, undef, .bool true, .bool true, undef, undef, .bool true, .bool true, undef, undef, .bool true, .bool true, undef, undef, .bool true, .bool true, undef, undef, undef, undef, .bool true, .bool true, undef, undef, undef, undef, undef, undef, undef, undef, .bool true, .bool true, undef, undef, undef, undef, undef, undef, undef, undef, undef, undef, undef, undef, undef, .bool true, g85, g86, g87, g88, g89, g90, g91, g92, g93, g94, g95, g96, g97, g98, g99, g100, g101, g102, g103, g104, g105, g106, g107, g108, g109, g110, g111, g112, g113, g114, g115, g116, g117, g118, g119, g120, g121, g122, g123] M) (cond (x12 != 0) (K #[.int .i64 x0, .int .i64 x1, g2, g3, g4, .int .i64 x5, .int .i64 x6, .int .i64 x7, .int .i64 x8, .int .i64 x9, g10, .int .i64 x11, .int .i64 x12, g13, g14, g15, g16, g17, g18, g19, g20, g21, g22, g23, g24, g25, g26, g27, g28, g29, g30, g31, g32, g33, g34, g35, .int .i64 x8, .bool (x8 != 0), .bool false, .int .i64 x12, .bool (x12 != 0), .bool (x12 != 0), .bool true, undef, undef, .bool true, .bool true, undef, undef, .bool true, .bool true, undef, undef, .bool true, .bool true, undef, undef, undef, undef, .bool true, .bool true, undef, undef, undef, undef, undef, undef, undef, undef, .bool true, .bool true, undef, undef, undef, undef, undef, undef, undef, undef, undef, undef, undef, undef, undef, .bool true, g85, g86, g87, g88, g89, g90, g91, g92, g93, g94, g95, g96, g97, g98, g99, g100, g101, g102, g103, g104, g105, g106, g107, g108, g109, g110, g111, g112, g113, g114, g115, g116, g117, g118, g119, g120, g121, g122, g123] M) (cond (decide (x5 < 0)) (K #[.int .i64 x0, .int .i64 x1, g2, g3, g4, .int .i64 x5, .int .i64 x6, .int .i64 x7, .int .i64 x8, .int .i64 x9, g10, .int .i64 x11, .int .i64 x12, g13, g14, g15, g16, g17, g18, g19, g20, g21, g22, g23, g24, g25, g26, g27, g28, g29, g30, g31, g32, g33, g34, g35, .int .i64 x8, .bool (x8 != 0), .bool false, .int .i64 x12, .bool (x12 != 0), .bool (x12 != 0), .bool false, .int .i64 x5, .bool (decide (x5 < 0)), .bool (decide (x5 < 0)), .bool true, undef, undef, .bool true, .bool true, undef, undef, .bool true, .bool true, undef, undef, undef, undef, .bool true, .bool true, undef, undef, undef, undef, undef, undef, undef, undef, .bool true, .bool true, undef, undef, undef, undef, undef, undef, undef, undef, undef, undef, undef, undef, undef, .bool true, g85, g86, g87, g88, g89, g90, g91, g92, g93, g94, g95, g96, g97, g98, g99, g100, g101, g102, g103, g104, g105, g106, g107, g108, g109, g110, g111, g112, g113, g114, g115, g116, g117, g118, g119, g120, g121, g122, g123] M) (cond (decide (x5 > 10)) (K #[.int .i64 x0, .int .i64 x1, g2, g3, g4, .int .i64 x5, .int .i64 x6, .int .i64 x7, .int .i64 x8, .int .i64 x9, g10, .int .i64 x11, .int .i64 x12, g13, g14, g15, g16, g17, g18, g19, g20, g21, g22, g23, g24, g25, g26, g27, g28, g29, g30, g31, g32, g33, g34, g35, .int .i64 x8, .bool (x8 != 0), .bool false, .int .i64 x12, .bool (x12 != 0), .bool (x12 != 0), .bool false, .int .i64 x5, .bool (decide (x5 < 0)), .bool (decide (x5 < 0)), .bool false, .int .i64 x5, .bool (decide (x5 > 10)), .bool (decide (x5 > 10)), .bool true, undef, undef, .bool true, .bool true, undef, undef, undef, undef, .bool true, .bool true, undef, undef, undef, undef, undef, undef, undef, undef, .bool true, .bool true, undef, undef, undef, undef, undef, undef, undef, undef, undef, undef, undef, undef, undef, .bool true, g85, g86, g87, g88, g89, g90, g91, g92, g93, g94, g95, g96, g97, g98, g99, g100, g101, g102, g103, g104, g105, g106, g107, g108, g109, g110, g111, g112, g113, g114, g115, g116, g117, g118, g119, g120, g121, g122, g123] M) (cond (decide (x7 < 0)) (K #[.int .i64 x0, .int .i64 x1, g2, g3, g4, .int .i64 x5, .int .i64 x6, .int .i64 x7, .int .i64 x8, .int .i64 x9, g10, .int .i64 x11, .int .i64 x12, g13, g14, g15, g16, g17, g18, g19, g20, g21, g22, g23, g24, g25, g26, g27, g28, g29, g30, g31, g32, g33, g34, g35, .int .i64 x8, .bool (x8 != 0), .bool false, .int .i64 x12, .bool (x12 != 0), .bool (x12 != 0), .bool false, .int .i64 x5, .bool (decide (x5 < 0)), .bool (decide (x5 < 0)), .bool false, .int .i64 x5, .bool (decide (x5 > 10)), .bool (decide (x5 > 10)), .bool false, .int .i64 x7, .bool (decide (x7 < 0)), .bool (decide (x7 < 0)), .bool true, undef, undef, undef, undef, .bool true, .bool true, undef, undef, undef, undef, undef, undef, undef, undef, .bool true, .bool true, undef, undef, undef, undef, undef, undef, undef, undef, undef, undef, undef, undef, undef, .bool true, g85, g86, g87, g88, g89, g90, g91, g92, g93, g94, g95, g96, g97, g98, g99, g100, g101, g102, g103, g104, g105, g106, g107, g108, g109, g110, g111, g112, g113, g114, g115, g116, g117, g118, g119, g120, g121, g122, g123] M) ((binV Try.prog .shl 3 3 (.int .i64 1) (.int .i64 x6)).bind fun v_1 => (asI .i64 v_1).bind fun x_2 => cond (decide (x7 ≥ x_2)) (K #[.int .i64 x0, .int .i64 x1, g2, g3, g4, .int .i64 x5, .int .i64 x6, .int .i64 x7, .int .i64 x8, .int .i64 x9, g10, .int .i64 x11, .int .i64 x12, g13, g14, g15, g16, g17, g18, g19, g20, g21, g22, g23, g24, g25, g26, g27, g28, g29, g30, g31, g32, g33, g34, g35, .int .i64 x8, .bool (x8 != 0), .bool false, .int .i64 x12, .bool (x12 != 0), .bool (x12 != 0), .bool false, .int .i64 x5, .bool (decide (x5 < 0)), .bool (decide (x5 < 0)), .bool false, .int .i64 x5, .bool (decide (x5 > 10)), .bool (decide (x5 > 10)), .bool false, .int .i64 x7, .bool (decide (x7 < 0)), .bool (decide (x7 < 0)), .bool false, .int .i64 x7, .int .i64 x6, .int .i64 x_2, .bool (decide (x7 ≥ x_2)), .bool (decide (x7 ≥ x_2)), .bool true, undef, undef, undef, undef, undef, undef, undef, undef, .bool true, .bool true, undef, undef, undef, undef, undef, undef, undef, undef, undef, undef, undef, undef, undef, .bool true, g85, g86, g87, g88, g89, g90, g91, g92, g93, g94, g95, g96, g97, g98, g99, g100, g101, g102, g103, g104, g105, g106, g107, g108, g109, g110, g111, g112, g113, g114, g115, g116, g117, g118, g119, g120, g121, g122, g123] M) (cond (decide (x0 < x1)) (cond (decide (x5 > x9)) (K #[.int .i64 x0, .int .i64 x1, g2, g3, g4, .int .i64 x5, .int .i64 x6, .int .i64 x7, .int .i64 x8, .int .i64 x9, g10, .int .i64 x11, .int .i64 x12, g13, g14, g15, g16, g17, g18, g19, g20, g21, g22, g23, g24, g25, g26, g27, g28, g29, g30, g31, g32, g33, g34, g35, .int .i64 x8, .bool (x8 != 0), .bool false, .int .i64 x12, .bool (x12 != 0), .bool (x12 != 0), .bool false, .int .i64 x5, .bool (decide (x5 < 0)), .bool (decide (x5 < 0)), .bool false, .int .i64 x5, .bool (decide (x5 > 10)), .bool (decide (x5 > 10)), .bool false, .int .i64 x7, .bool (decide (x7 < 0)), .bool (decide (x7 < 0)), .bool false, .int .i64 x7, .int .i64 x6, .int .i64 x_2, .bool (decide (x7 ≥ x_2)), .bool (decide (x7 ≥ x_2)), .bool false, .int .i64 x0, .int .i64 x1, .bool (decide (x0 < x1)), .bool true, .int .i64 x5, .int .i64 x9, .bool (decide (x5 > x9)), .bool (decide (x5 > x9)), .bool (decide (x5 > x9)), .bool true, undef, undef, undef, undef, undef, undef, undef, undef, undef, undef, undef, undef, undef, .bool true, g85, g86, g87, g88, g89, g90, g91, g92, g93, g94, g95, g96, g97, g98, g99, g100, g101, g102, g103, g104, g105, g106, g107, g108, g109, g110, g111, g112, g113, g114, g115, g116, g117, g118, g119, g120, g121, g122, g123] M) (cond (x0 != x1) (cond (x5 == x9) (K #[.int .i64 x0, .int .i64 x1, g2, g3, g4, .int .i64 x5, .int .i64 x6, .int .i64 x7, .int .i64 x8, .int .i64 x9, g10, .int .i64 x11, .int .i64 x12, g13, g14, g15, g16, g17, g18, g19, g20, g21, g22, g23, g24, g25, g26, g27, g28, g29, g30, g31, g32, g33, g34, g35, .int .i64 x8, .bool (x8 != 0), .bool false, .int .i64 x12, .bool (x12 != 0), .bool (x12 != 0), .bool false, .int .i64 x5, .bool (decide (x5 < 0)), .bool (decide (x5 < 0)), .bool false, .int .i64 x5, .bool (decide (x5 > 10)), .bool (decide (x5 > 10)), .bool false, .int .i64 x7, .bool (decide (x7 < 0)), .bool (decide (x7 < 0)), .bool false, .int .i64 x7, .int .i64 x6, .int .i64 x_2, .bool (decide (x7 ≥ x_2)), .bool (decide (x7 ≥ x_2)), .bool false, .int .i64 x0, .int .i64 x1, .bool (decide (x0 < x1)), .bool true, .int .i64 x5, .int .i64 x9, .bool (decide (x5 > x9)), .bool (decide (x5 > x9)), .bool (decide (x5 > x9)), .bool false, .int .i64 x0, .int .i64 x1, .bool (x0 != x1), .bool true, .int .i64 x5, .int .i64 x9, .bool (x5 == x9), .bool (x5 == x9), .bool true, .int .i64 x7, .int .i64 x11, .bool (x7 == x11), .bool (x7 == x11), .bool (x7 == x11), g85, g86, g87, g88, g89, g90, g91, g92, g93, g94, g95, g96, g97, g98, g99, g100, g101, g102, g103, g104, g105, g106, g107, g108, g109, g110, g111, g112, g113, g114, g115, g116, g117, g118, g119, g120, g121, g122, g123] M) (K #[.int .i64 x0, .int .i64 x1, g2, g3, g4, .int .i64 x5, .int .i64 x6, .int .i64 x7, .int .i64 x8, .int .i64 x9, g10, .int .i64 x11, .int .i64 x12, g13, g14, g15, g16, g17, g18, g19, g20, g21, g22, g23, g24, g25, g26, g27, g28, g29, g30, g31, g32, g33, g34, g35, .int .i64 x8, .bool (x8 != 0), .bool false, .int .i64 x12, .bool (x12 != 0), .bool (x12 != 0), .bool false, .int .i64 x5, .bool (decide (x5 < 0)), .bool (decide (x5 < 0)), .bool false, .int .i64 x5, .bool (decide (x5 > 10)), .bool (decide (x5 > 10)), .bool false, .int .i64 x7, .bool (decide (x7 < 0)), .bool (decide (x7 < 0)), .bool false, .int .i64 x7, .int .i64 x6, .int .i64 x_2, .bool (decide (x7 ≥ x_2)), .bool (decide (x7 ≥ x_2)), .bool false, .int .i64 x0, .int .i64 x1, .bool (decide (x0 < x1)), .bool true, .int .i64 x5, .int .i64 x9, .bool (decide (x5 > x9)), .bool (decide (x5 > x9)), .bool (decide (x5 > x9)), .bool false, .int .i64 x0, .int .i64 x1, .bool (x0 != x1), .bool true, .int .i64 x5, .int .i64 x9, .bool (x5 == x9), .bool (x5 == x9), .bool false, undef, undef, undef, .bool false, .bool false, g85, g86, g87, g88, g89, g90, g91, g92, g93, g94, g95, g96, g97, g98, g99, g100, g101, g102, g103, g104, g105, g106, g107, g108, g109, g110, g111, g112, g113, g114, g115, g116, g117, g118, g119, g120, g121, g122, g123] M)) (K #[.int .i64 x0, .int .i64 x1, g2, g3, g4, .int .i64 x5, .int .i64 x6, .int .i64 x7, .int .i64 x8, .int .i64 x9, g10, .int .i64 x11, .int .i64 x12, g13, g14, g15, g16, g17, g18, g19, g20, g21, g22, g23, g24, g25, g26, g27, g28, g29, g30, g31, g32, g33, g34, g35, .int .i64 x8, .bool (x8 != 0), .bool false, .int .i64 x12, .bool (x12 != 0), .bool (x12 != 0), .bool false, .int .i64 x5, .bool (decide (x5 < 0)), .bool (decide (x5 < 0)), .bool false, .int .i64 x5, .bool (decide (x5 > 10)), .bool (decide (x5 > 10)), .bool false, .int .i64 x7, .bool (decide (x7 < 0)), .bool (decide (x7 < 0)), .bool false, .int .i64 x7, .int .i64 x6, .int .i64 x_2, .bool (decide (x7 ≥ x_2)), .bool (decide (x7 ≥ x_2)), .bool false, .int .i64 x0, .int .i64 x1, .bool (decide (x0 < x1)), .bool true, .int .i64 x5, .int .i64 x9, .bool (decide (x5 > x9)), .bool (decide (x5 > x9)), .bool (decide (x5 > x9)), .bool false, .int .i64 x0, .int .i64 x1, .bool (x0 != x1), .bool false, undef, undef, undef, .bool false, .bool false, undef, undef, undef, .bool false, .bool false, g85, g86, g87, g88, g89, g90, g91, g92, g93, g94, g95, g96, g97, g98, g99, g100, g101, g102, g103, g104, g105, g106, g107, g108, g109, g110, g111, g112, g113, g114, g115, g116, g117, g118, g119, g120, g121, g122, g123] M))) (cond (x0 != x1) (cond (x5 == x9) (K #[.int .i64 x0, .int .i64 x1, g2, g3, g4, .int .i64 x5, .int .i64 x6, .int .i64 x7, .int .i64 x8, .int .i64 x9, g10, .int .i64 x11, .int .i64 x12, g13, g14, g15, g16, g17, g18, g19, g20, g21, g22, g23, g24, g25, g26, g27, g28, g29, g30, g31, g32, g33, g34, g35, .int .i64 x8, .bool (x8 != 0), .bool false, .int .i64 x12, .bool (x12 != 0), .bool (x12 != 0), .bool false, .int .i64 x5, .bool (decide (x5 < 0)), .bool (decide (x5 < 0)), .bool false, .int .i64 x5, .bool (decide (x5 > 10)), .bool (decide (x5 > 10)), .bool false, .int .i64 x7, .bool (decide (x7 < 0)), .bool (decide (x7 < 0)), .bool false, .int .i64 x7, .int .i64 x6, .int .i64 x_2, .bool (decide (x7 ≥ x_2)), .bool (decide (x7 ≥ x_2)), .bool false, .int .i64 x0, .int .i64 x1, .bool (decide (x0 < x1)), .bool false, undef, undef, undef, .bool false, .bool false, .bool false, .int .i64 x0, .int .i64 x1, .bool (x0 != x1), .bool true, .int .i64 x5, .int .i64 x9, .bool (x5 == x9), .bool (x5 == x9), .bool true, .int .i64 x7, .int .i64 x11, .bool (x7 == x11), .bool (x7 == x11), .bool (x7 == x11), g85, g86, g87, g88, g89, g90, g91, g92, g93, g94, g95, g96, g97, g98, g99, g100, g101, g102, g103, g104, g105, g106, g107, g108, g109, g110, g111, g112, g113, g114, g115, g116, g117, g118, g119, g120, g121, g122, g123] M) (K #[.int .i64 x0, .int .i64 x1, g2, g3, g4, .int .i64 x5, .int .i64 x6, .int .i64 x7, .int .i64 x8, .int .i64 x9, g10, .int .i64 x11, .int .i64 x12, g13, g14, g15, g16, g17, g18, g19, g20, g21, g22, g23, g24, g25, g26, g27, g28, g29, g30, g31, g32, g33, g34, g35, .int .i64 x8, .bool (x8 != 0), .bool false, .int .i64 x12, .bool (x12 != 0), .bool (x12 != 0), .bool false, .int .i64 x5, .bool (decide (x5 < 0)), .bool (decide (x5 < 0)), .bool false, .int .i64 x5, .bool (decide (x5 > 10)), .bool (decide (x5 > 10)), .bool false, .int .i64 x7, .bool (decide (x7 < 0)), .bool (decide (x7 < 0)), .bool false, .int .i64 x7, .int .i64 x6, .int .i64 x_2, .bool (decide (x7 ≥ x_2)), .bool (decide (x7 ≥ x_2)), .bool false, .int .i64 x0, .int .i64 x1, .bool (decide (x0 < x1)), .bool false, undef, undef, undef, .bool false, .bool false, .bool false, .int .i64 x0, .int .i64 x1, .bool (x0 != x1), .bool true, .int .i64 x5, .int .i64 x9, .bool (x5 == x9), .bool (x5 == x9), .bool false, undef, undef, undef, .bool false, .bool false, g85, g86, g87, g88, g89, g90, g91, g92, g93, g94, g95, g96, g97, g98, g99, g100, g101, g102, g103, g104, g105, g106, g107, g108, g109, g110, g111, g112, g113, g114, g115, g116, g117, g118, g119, g120, g121, g122, g123] M)) (K #[.int .i64 x0, .int .i64 x1, g2, g3, g4, .int .i64 x5, .int .i64 x6, .int .i64 x7, .int .i64 x8, .int .i64 x9, g10, .int .i64 x11, .int .i64 x12, g13, g14, g15, g16, g17, g18, g19, g20, g21, g22, g23, g24, g25, g26, g27, g28, g29, g30, g31, g32, g33, g34, g35, .int .i64 x8, .bool (x8 != 0), .bool false, .int .i64 x12, .bool (x12 != 0), .bool (x12 != 0), .bool false, .int .i64 x5, .bool (decide (x5 < 0)), .bool (decide (x5 < 0)), .bool false, .int .i64 x5, .bool (decide (x5 > 10)), .bool (decide (x5 > 10)), .bool false, .int .i64 x7, .bool (decide (x7 < 0)), .bool (decide (x7 < 0)), .bool false, .int .i64 x7, .int .i64 x6, .int .i64 x_2, .bool (decide (x7 ≥ x_2)), .bool (decide (x7 ≥ x_2)), .bool false, .int .i64 x0, .int .i64 x1, .bool (decide (x0 < x1)), .bool false, undef, undef, undef, .bool false, .bool false, .bool false, .int .i64 x0, .int .i64 x1, .bool (x0 != x1), .bool false, undef, undef, undef, .bool false, .bool false, undef, undef, undef, .bool false, .bool false, g85, g86, g87, g88, g89, g90, g91, g92, g93, g94, g95, g96, g97, g98, g99, g100, g101, g102, g103, g104, g105, g106, g107, g108, g109, g110, g111, g112, g113, g114, g115, g116, g117, g118, g119, g120, g121, g122, g123] M)))))))) := by kernel_rfl
theorem c5_22 {x84 : Bool} {g0 g1 g2 g3 g4 g5 g6 g7 g8 g9 g10 g11 g12 g13 g14 g15 g16 g17 g18 g19 g20 g21 g22 g23 g24 g25 g26 g27 g28 g29 g30 g31 g32 g33 g34 g35 g36 g37 g38 g39 g40 g41 g42 g43 g44 g45 g46 g47 g48 g49 g50 g51 g52 g53 g54 g55 g56 g57 g58 g59 g60 g61 g62 g63 g64 g65 g66 g67 g68 g69 g70 g71 g72 g73 g74 g75 g76 g77 g78 g79 g80 g81 g82 g83 g85 g86 g87 g88 g89 g90 g91 g92 g93 g94 g95 g96 g97 g98 g99 g100 g101 g102 g103 g104 g105 g106 g107 g108 g109 g110 g111 g112 g113 g114 g115 g116 g117 g118 g119 g120 g121 g122 g123 : Value} : subC (codeOf Try.f5) [1, 1, 1, 1, 1, 1, 0, 1] = .cond (.tmp 84) (subC (codeOf Try.f5) [1, 1, 1, 1, 1, 1, 0, 1, 0]) (subC (codeOf Try.f5) [1, 1, 1, 1, 1, 1, 0, 1, 1]) ∧ okOperand (.tmp 84) = true ∧ evalT #[g0, g1, g2, g3, g4, g5, g6, g7, g8, g9, g10, g11, g12, g13, g14, g15, g16, g17, g18, g19, g20, g21, g22, g23, g24, g25, g26, g27, g28, g29, g30, g31, g32, g33, g34, g35, g36, g37, g38, g39, g40, g41, g42, g43, g44, g45, g46, g47, g48, g49, g50, g51, g52, g53, g54, g55, g56, g57, g58, g59, g60, g61, g62, g63, g64, g65, g66, g67, g68, g69, g70, g71, g72, g73, g74, g75, g76, g77, g78, g79, g80, g81, g82, g83, .bool x84, g85, g86, g87, g88, g89, g90, g91, g92, g93, g94, g95, g96, g97, g98, g99, g100, g101, g102, g103, g104, g105, g106, g107, g108, g109, g110, g111, g112, g113, g114, g115, g116, g117, g118, g119, g120, g121, g122, g123] (.tmp 84) = .bool x84 := ⟨by kernel_rfl, by kernel_rfl, by kernel_rfl⟩
theorem k5_23 : subC (codeOf Try.f5) [1, 1, 1, 1, 1, 1, 0, 1, 0] = .seq (subC (codeOf Try.f5) [1, 1, 1, 1, 1, 1, 0, 1, 0, 0]) (subC (codeOf Try.f5) [1, 1, 1, 1, 1, 1, 0, 1, 0, 1]) := by kernel_rfl
theorem k5_24 : subC (codeOf Try.f5) [1, 1, 1, 1, 1, 1, 0, 1, 0, 0] = .region 8 (opsOf (subC (codeOf Try.f5) [1, 1, 1, 1, 1, 1, 0, 1, 0, 0])) false := by kernel_rfl
theorem r5_8 {g0 g1 g2 g3 g4 g5 g6 g7 g8 g9 g10 g11 g12 g13 g14 g15 g16 g17 g18 g19 g20 g21 g22 g23 g24 g25 g26 g27 g28 g29 g30 g31 g32 g33 g34 g35 g36 g37 g38 g39 g40 g41 g42 g43 g44 g45 g46 g47 g48 g49 g50 g51 g52 g53 g54 g55 g56 g57 g58 g59 g60 g61 g62 g63 g64 g65 g66 g67 g68 g69 g70 g71 g72 g73 g74 g75 g76 g77 g78 g79 g80 g81 g82 g83 g84 g85 g86 g87 g88 g89 g90 g91 g92 g93 g94 g95 g96 g97 g98 g99 g100 g101 g102 g103 g104 g105 g106 g107 g108 g109 g110 g111 g112 g113 g114 g115 g116 g117 g118 g119 g120 g121 g122 g123 : Value} {M : Mem} {call : CallM} {K : Array Value → Mem → R} :
    opsK Try.prog (fun _ => call) (opsOf (subC (codeOf Try.f5) [1, 1, 1, 1, 1, 1, 0, 1, 0, 0])) (opsOf (subC (codeOf Try.f5) [1, 1, 1, 1, 1, 1, 0, 1, 0, 0])).toList 0 #[g0, g1, g2, g3, g4, g5, g6, g7, g8, g9, g10, g11, g12, g13, g14, g15, g16, g17, g18, g19, g20, g21, g22, g23, g24, g25, g26, g27, g28, g29, g30, g31, g32, g33, g34, g35, g36, g37, g38, g39, g40, g41, g42, g43, g44, g45, g46, g47, g48, g49, g50, g51, g52, g53, g54, g55, g56, g57, g58, g59, g60, g61, g62, g63, g64, g65, g66, g67, g68, g69, g70, g71, g72, g73, g74, g75, g76, g77, g78, g79, g80, g81, g82, g83, g84, g85, g86, g87, g88, g89, g90, g91, g92, g93, g94, g95, g96, g97, g98, g99, g100, g101, g102, g103, g104, g105, g106, g107, g108, g109, g110, g111, g112, g113, g114, g115, g116, g117, g118, g119, g120, g121, g122, g123] M K = K #[g0, g1, g2, g3, .bool false, g5, g6, g7, g8, g9, g10, g11, g12, g13, g14, g15, g16, g17, g18, g19, g20, g21, g22, g23, g24, g25, g26, g27, g28, g29, g30, g31, g32, g33, g34, g35, g36, g37, g38, g39, g40, g41, g42, g43, g44, g45, g46, g47, g48, g49, g50, g51, g52, g53, g54, g55, g56, g57, g58, g59, g60, g61, g62, g63, g64, g65, g66, g67, g68, g69, g70, g71, g72, g73, g74, g75, g76, g77, g78, g79, g80, g81, g82, g83, g84, g85, g86, g87, g88, g89, g90, g91, g92, g93, g94, g95, g96, g97, g98, g99, g100, g101, g102, g103, g104, g105, g106, g107, g108, g109, g110, g111, g112, g113, g114, g115, g116, g117, g118, g119, g120, g121, g122, g123] M := by kernel_rfl
theorem k5_25 : subC (codeOf Try.f5) [1, 1, 1, 1, 1, 1, 0, 1, 0, 1] = .ret := by kernel_rfl
theorem k5_26 : subC (codeOf Try.f5) [1, 1, 1, 1, 1, 1, 0, 1, 1] = .skip := by kernel_rfl
theorem k5_27 : subC (codeOf Try.f5) [1, 1, 1, 1, 1, 1, 1] = .seq (subC (codeOf Try.f5) [1, 1, 1, 1, 1, 1, 1, 0]) (subC (codeOf Try.f5) [1, 1, 1, 1, 1, 1, 1, 1]) := by kernel_rfl
theorem k5_28 : subC (codeOf Try.f5) [1, 1, 1, 1, 1, 1, 1, 0] = .region 9 (opsOf (subC (codeOf Try.f5) [1, 1, 1, 1, 1, 1, 1, 0])) false := by kernel_rfl
theorem r5_9 {g0 g1 g2 g3 g4 g5 g6 g7 g8 g9 g10 g11 g12 g13 g14 g15 g16 g17 g18 g19 g20 g21 g22 g23 g24 g25 g26 g27 g28 g29 g30 g31 g32 g33 g34 g35 g36 g37 g38 g39 g40 g41 g42 g43 g44 g45 g46 g47 g48 g49 g50 g51 g52 g53 g54 g55 g56 g57 g58 g59 g60 g61 g62 g63 g64 g65 g66 g67 g68 g69 g70 g71 g72 g73 g74 g75 g76 g77 g78 g79 g80 g81 g82 g83 g84 g85 g86 g87 g88 g89 g90 g91 g92 g93 g94 g95 g96 g97 g98 g99 g100 g101 g102 g103 g104 g105 g106 g107 g108 g109 g110 g111 g112 g113 g114 g115 g116 g117 g118 g119 g120 g121 g122 g123 : Value} {M : Mem} {call : CallM} {K : Array Value → Mem → R} :
    opsK Try.prog (fun _ => call) (opsOf (subC (codeOf Try.f5) [1, 1, 1, 1, 1, 1, 1, 0])) (opsOf (subC (codeOf Try.f5) [1, 1, 1, 1, 1, 1, 1, 0])).toList 0 #[g0, g1, g2, g3, g4, g5, g6, g7, g8, g9, g10, g11, g12, g13, g14, g15, g16, g17, g18, g19, g20, g21, g22, g23, g24, g25, g26, g27, g28, g29, g30, g31, g32, g33, g34, g35, g36, g37, g38, g39, g40, g41, g42, g43, g44, g45, g46, g47, g48, g49, g50, g51, g52, g53, g54, g55, g56, g57, g58, g59, g60, g61, g62, g63, g64, g65, g66, g67, g68, g69, g70, g71, g72, g73, g74, g75, g76, g77, g78, g79, g80, g81, g82, g83, g84, g85, g86, g87, g88, g89, g90, g91, g92, g93, g94, g95, g96, g97, g98, g99, g100, g101, g102, g103, g104, g105, g106, g107, g108, g109, g110, g111, g112, g113, g114, g115, g116, g117, g118, g119, g120, g121, g122, g123] M K = K #[g0, g1, g2, g3, g4, g5, g6, g7, g8, g9, g10, g11, g12, .int .i64 1, g14, g15, g16, g17, g18, g19, g20, g21, g22, g23, g24, g25, g26, g27, g28, g29, g30, g31, g32, g33, g34, g35, g36, g37, g38, g39, g40, g41, g42, g43, g44, g45, g46, g47, g48, g49, g50, g51, g52, g53, g54, g55, g56, g57, g58, g59, g60, g61, g62, g63, g64, g65, g66, g67, g68, g69, g70, g71, g72, g73, g74, g75, g76, g77, g78, g79, g80, g81, g82, g83, g84, g85, g86, g87, g88, g89, g90, g91, g92, g93, g94, g95, g96, g97, g98, g99, g100, g101, g102, g103, g104, g105, g106, g107, g108, g109, g110, g111, g112, g113, g114, g115, g116, g117, g118, g119, g120, g121, g122, g123] M := by kernel_rfl
theorem k5_29 : subC (codeOf Try.f5) [1, 1, 1, 1, 1, 1, 1, 1] = .seq (subC (codeOf Try.f5) [1, 1, 1, 1, 1, 1, 1, 1, 0]) (subC (codeOf Try.f5) [1, 1, 1, 1, 1, 1, 1, 1, 1]) := by kernel_rfl
theorem k5_30 : subC (codeOf Try.f5) [1, 1, 1, 1, 1, 1, 1, 1, 0] = .seq (subC (codeOf Try.f5) [1, 1, 1, 1, 1, 1, 1, 1, 0, 0]) (subC (codeOf Try.f5) [1, 1, 1, 1, 1, 1, 1, 1, 0, 1]) := by kernel_rfl
theorem k5_31 : subC (codeOf Try.f5) [1, 1, 1, 1, 1, 1, 1, 1, 0, 0] = .region 10 (opsOf (subC (codeOf Try.f5) [1, 1, 1, 1, 1, 1, 1, 1, 0, 0])) false := by kernel_rfl
theorem r5_10 {x5 : Int} {g0 g1 g2 g3 g4 g6 g7 g8 g9 g10 g11 g12 g13 g14 g15 g16 g17 g18 g19 g20 g21 g22 g23 g24 g25 g26 g27 g28 g29 g30 g31 g32 g33 g34 g35 g36 g37 g38 g39 g40 g41 g42 g43 g44 g45 g46 g47 g48 g49 g50 g51 g52 g53 g54 g55 g56 g57 g58 g59 g60 g61 g62 g63 g64 g65 g66 g67 g68 g69 g70 g71 g72 g73 g74 g75 g76 g77 g78 g79 g80 g81 g82 g83 g84 g85 g86 g87 g88 g89 g90 g91 g92 g93 g94 g95 g96 g97 g98 g99 g100 g101 g102 g103 g104 g105 g106 g107 g108 g109 g110 g111 g112 g113 g114 g115 g116 g117 g118 g119 g120 g121 g122 g123 : Value} {M : Mem} {call : CallM} {K : Array Value → Mem → R} :
    opsK Try.prog (fun _ => call) (opsOf (subC (codeOf Try.f5) [1, 1, 1, 1, 1, 1, 1, 1, 0, 0])) (opsOf (subC (codeOf Try.f5) [1, 1, 1, 1, 1, 1, 1, 1, 0, 0])).toList 0 #[g0, g1, g2, g3, g4, .int .i64 x5, g6, g7, g8, g9, g10, g11, g12, g13, g14, g15, g16, g17, g18, g19, g20, g21, g22, g23, g24, g25, g26, g27, g28, g29, g30, g31, g32, g33, g34, g35, g36, g37, g38, g39, g40, g41, g42, g43, g44, g45, g46, g47, g48, g49, g50, g51, g52, g53, g54, g55, g56, g57, g58, g59, g60, g61, g62, g63, g64, g65, g66, g67, g68, g69, g70, g71, g72, g73, g74, g75, g76, g77, g78, g79, g80, g81, g82, g83, g84, g85, g86, g87, g88, g89, g90, g91, g92, g93, g94, g95, g96, g97, g98, g99, g100, g101, g102, g103, g104, g105, g106, g107, g108, g109, g110, g111, g112, g113, g114, g115, g116, g117, g118, g119, g120, g121, g122, g123] M K = K #[g0, g1, g2, g3, g4, .int .i64 x5, g6, g7, g8, g9, g10, g11, g12, g13, g14, g15, g16, g17, g18, g19, g20, g21, g22, g23, g24, g25, g26, g27, g28, g29, g30, g31, g32, g33, g34, g35, g36, g37, g38, g39, g40, g41, g42, g43, g44, g45, g46, g47, g48, g49, g50, g51, g52, g53, g54, g55, g56, g57, g58, g59, g60, g61, g62, g63, g64, g65, g66, g67, g68, g69, g70, g71, g72, g73, g74, g75, g76, g77, g78, g79, g80, g81, g82, g83, g84, .int .i64 x5, .bool (decide (x5 > 0)), g87, g88, g89, g90, g91, g92, g93, g94, g95, g96, g97, g98, g99, g100, g101, g102, g103, g104, g105, g106, g107, g108, g109, g110, g111, g112, g113, g114, g115, g116, g117, g118, g119, g120, g121, g122, g123] M := by kernel_rfl
theorem c5_32 {x86 : Bool} {g0 g1 g2 g3 g4 g5 g6 g7 g8 g9 g10 g11 g12 g13 g14 g15 g16 g17 g18 g19 g20 g21 g22 g23 g24 g25 g26 g27 g28 g29 g30 g31 g32 g33 g34 g35 g36 g37 g38 g39 g40 g41 g42 g43 g44 g45 g46 g47 g48 g49 g50 g51 g52 g53 g54 g55 g56 g57 g58 g59 g60 g61 g62 g63 g64 g65 g66 g67 g68 g69 g70 g71 g72 g73 g74 g75 g76 g77 g78 g79 g80 g81 g82 g83 g84 g85 g87 g88 g89 g90 g91 g92 g93 g94 g95 g96 g97 g98 g99 g100 g101 g102 g103 g104 g105 g106 g107 g108 g109 g110 g111 g112 g113 g114 g115 g116 g117 g118 g119 g120 g121 g122 g123 : Value} : subC (codeOf Try.f5) [1, 1, 1, 1, 1, 1, 1, 1, 0, 1] = .cond (.tmp 86) (subC (codeOf Try.f5) [1, 1, 1, 1, 1, 1, 1, 1, 0, 1, 0]) (subC (codeOf Try.f5) [1, 1, 1, 1, 1, 1, 1, 1, 0, 1, 1]) ∧ okOperand (.tmp 86) = true ∧ evalT #[g0, g1, g2, g3, g4, g5, g6, g7, g8, g9, g10, g11, g12, g13, g14, g15, g16, g17, g18, g19, g20, g21, g22, g23, g24, g25, g26, g27, g28, g29, g30, g31, g32, g33, g34, g35, g36, g37, g38, g39, g40, g41, g42, g43, g44, g45, g46, g47, g48, g49, g50, g51, g52, g53, g54, g55, g56, g57, g58, g59, g60, g61, g62, g63, g64, g65, g66, g67, g68, g69, g70, g71, g72, g73, g74, g75, g76, g77, g78, g79, g80, g81, g82, g83, g84, g85, .bool x86, g87, g88, g89, g90, g91, g92, g93, g94, g95, g96, g97, g98, g99, g100, g101, g102, g103, g104, g105, g106, g107, g108, g109, g110, g111, g112, g113, g114, g115, g116, g117, g118, g119, g120, g121, g122, g123] (.tmp 86) = .bool x86 := ⟨by kernel_rfl, by kernel_rfl, by kernel_rfl⟩
theorem k5_33 : subC (codeOf Try.f5) [1, 1, 1, 1, 1, 1, 1, 1, 0, 1, 0] = .region 11 (opsOf (subC (codeOf Try.f5) [1, 1, 1, 1, 1, 1, 1, 1, 0, 1, 0])) false := by kernel_rfl
theorem r5_11 {x5 : Int} {g0 g1 g2 g3 g4 g6 g7 g8 g9 g10 g11 g12 g13 g14 g15 g16 g17 g18 g19 g20 g21 g22 g23 g24 g25 g26 g27 g28 g29 g30 g31 g32 g33 g34 g35 g36 g37 g38 g39 g40 g41 g42 g43 g44 g45 g46 g47 g48 g49 g50 g51 g52 g53 g54 g55 g56 g57 g58 g59 g60 g61 g62 g63 g64 g65 g66 g67 g68 g69 g70 g71 g72 g73 g74 g75 g76 g77 g78 g79 g80 g81 g82 g83 g84 g85 g86 g87 g88 g89 g90 g91 g92 g93 g94 g95 g96 g97 g98 g99 g100 g101 g102 g103 g104 g105 g106 g107 g108 g109 g110 g111 g112 g113 g114 g115 g116 g117 g118 g119 g120 g121 g122 g123 : Value} {M : Mem} {call : CallM} {K : Array Value → Mem → R} :
    opsK Try.prog (fun _ => call) (opsOf (subC (codeOf Try.f5) [1, 1, 1, 1, 1, 1, 1, 1, 0, 1, 0])) (opsOf (subC (codeOf Try.f5) [1, 1, 1, 1, 1, 1, 1, 1, 0, 1, 0])).toList 0 #[g0, g1, g2, g3, g4, .int .i64 x5, g6, g7, g8, g9, g10, g11, g12, g13, g14, g15, g16, g17, g18, g19, g20, g21, g22, g23, g24, g25, g26, g27, g28, g29, g30, g31, g32, g33, g34, g35, g36, g37, g38, g39, g40, g41, g42, g43, g44, g45, g46, g47, g48, g49, g50, g51, g52, g53, g54, g55, g56, g57, g58, g59, g60, g61, g62, g63, g64, g65, g66, g67, g68, g69, g70, g71, g72, g73, g74, g75, g76, g77, g78, g79, g80, g81, g82, g83, g84, g85, g86, g87, g88, g89, g90, g91, g92, g93, g94, g95, g96, g97, g98, g99, g100, g101, g102, g103, g104, g105, g106, g107, g108, g109, g110, g111, g112, g113, g114, g115, g116, g117, g118, g119, g120, g121, g122, g123] M K = (binV Try.prog .shl 3 3 (.int .i64 1) (.int .i64 (IntKind.i64.wrap (x5 - 1)))).bind fun v_1 => (asI .i64 v_1).bind fun x_2 => K #[g0, g1, g2, g3, g4, .int .i64 x5, g6, g7, g8, g9, g10, g11, g12, .int .i64 (IntKind.i64.wrap (x_2 + 1)), g14, g15, g16, g17, g18, g19, g20, g21, g22, g23, g24, g25, g26, g27, g28, g29, g30, g31, g32, g33, g34, g35, g36, g37, g38, g39, g40, g41, g42, g43, g44, g45, g46, g47, g48, g49, g50, g51, g52, g53, g54, g55, g56, g57, g58, g59, g60, g61, g62, g63, g64, g65, g66, g67, g68, g69, g70, g71, g72, g73, g74, g75, g76, g77, g78, g79, g80, g81, g82, g83, g84, g85, g86, .int .i64 x5, .int .i64 (IntKind.i64.wrap (x5 - 1)), .int .i64 x_2, .int .i64 (IntKind.i64.wrap (x_2 + 1)), g91, g92, g93, g94, g95, g96, g97, g98, g99, g100, g101, g102, g103, g104, g105, g106, g107, g108, g109, g110, g111, g112, g113, g114, g115, g116, g117, g118, g119, g120, g121, g122, g123] M := by kernel_rfl
theorem k5_34 : subC (codeOf Try.f5) [1, 1, 1, 1, 1, 1, 1, 1, 1] = .seq (subC (codeOf Try.f5) [1, 1, 1, 1, 1, 1, 1, 1, 1, 0]) (subC (codeOf Try.f5) [1, 1, 1, 1, 1, 1, 1, 1, 1, 1]) := by kernel_rfl
theorem k5_35 : subC (codeOf Try.f5) [1, 1, 1, 1, 1, 1, 1, 1, 1, 0] = .region 12 (opsOf (subC (codeOf Try.f5) [1, 1, 1, 1, 1, 1, 1, 1, 1, 0])) false := by kernel_rfl
theorem r5_12 {x0 : Int} {x1 : Int} {x5 : Int} {x6 : Int} {x7 : Int} {x9 : Int} {x10 : Int} {x11 : Int} {x13 : Int} {g2 g3 g4 g8 g12 g14 g15 g16 g17 g18 g19 g20 g21 g22 g23 g24 g25 g26 g27 g28 g29 g30 g31 g32 g33 g34 g35 g36 g37 g38 g39 g40 g41 g42 g43 g44 g45 g46 g47 g48 g49 g50 g51 g52 g53 g54 g55 g56 g57 g58 g59 g60 g61 g62 g63 g64 g65 g66 g67 g68 g69 g70 g71 g72 g73 g74 g75 g76 g77 g78 g79 g80 g81 g82 g83 g84 g85 g86 g87 g88 g89 g90 g91 g92 g93 g94 g95 g96 g97 g98 g99 g100 g101 g102 g103 g104 g105 g106 g107 g108 g109 g110 g111 g112 g113 g114 g115 g116 g117 g118 g119 g120 g121 g122 g123 : Value} {M : Mem} {call : CallM} {K : Array Value → Mem → R} :
    opsK Try.prog (fun _ => call) (opsOf (subC (codeOf Try.f5) [1, 1, 1, 1, 1, 1, 1, 1, 1, 0])) (opsOf (subC (codeOf Try.f5) [1, 1, 1, 1, 1, 1, 1, 1, 1, 0])).toList 0 #[.int .i64 x0, .int .i64 x1, g2, g3, g4, .int .i64 x5, .int .i64 x6, .int .i64 x7, g8, .int .i64 x9, .int .i64 x10, .int .i64 x11, g12, .int .i64 x13, g14, g15, g16, g17, g18, g19, g20, g21, g22, g23, g24, g25, g26, g27, g28, g29, g30, g31, g32, g33, g34, g35, g36, g37, g38, g39, g40, g41, g42, g43, g44, g45, g46, g47, g48, g49, g50, g51, g52, g53, g54, g55, g56, g57, g58, g59, g60, g61, g62, g63, g64, g65, g66, g67, g68, g69, g70, g71, g72, g73, g74, g75, g76, g77, g78, g79, g80, g81, g82, g83, g84, g85, g86, g87, g88, g89, g90, g91, g92, g93, g94, g95, g96, g97, g98, g99, g100, g101, g102, g103, g104, g105, g106, g107, g108, g109, g110, g111, g112, g113, g114, g115, g116, g117, g118, g119, g120, g121, g122, g123] M K = cond ((IntKind.i64.wrap (x13 + x7)) == x0) (cond (x6 == (if 0 > IntKind.i64.wrap (x5 - 1) then 0 else IntKind.i64.wrap (x5 - 1))) (cond (x10 == (if 0 > IntKind.i64.wrap (x9 - 1) then 0 else IntKind.i64.wrap (x9 - 1))) (cond (x5 != x9) (K #[.int .i64 x0, .int .i64 x1, g2, g3, .bool true, .int .i64 x5, .int .i64 x6, .int .i64 x7, g8, .int .i64 x9, .int .i64 x10, .int .i64 x11, g12, .int .i64 x13, g14, g15, g16, g17, g18, g19, g20, g21, g22, g23, g24, g25, g26, g27, g28, g29, g30, g31, g32, g33, g34, g35, g36, g37, g38, g39, g40, g41, g42, g43, g44, g45, g46, g47, g48, g49, g50, g51, g52, g53, g54, g55, g56, g57, g58, g59, g60, g61, g62, g63, g64, g65, g66, g67, g68, g69, g70, g71, g72, g73, g74, g75, g76, g77, g78, g79, g80, g81, g82, g83, g84, g85, g86, g87, g88, g89, g90, .int .i64 x13, .int .i64 x7, .int .i64 (IntKind.i64.wrap (x13 + x7)), .int .i64 x0, .bool ((IntKind.i64.wrap (x13 + x7)) == x0), .bool true, .int .i64 x6, .int .i64 x5, .int .i64 (IntKind.i64.wrap (x5 - 1)), .int .i64 (if 0 > IntKind.i64.wrap (x5 - 1) then 0 else IntKind.i64.wrap (x5 - 1)), .bool (x6 == (if 0 > IntKind.i64.wrap (x5 - 1) then 0 else IntKind.i64.wrap (x5 - 1))), .bool (x6 == (if 0 > IntKind.i64.wrap (x5 - 1) then 0 else IntKind.i64.wrap (x5 - 1))), .bool true, .int .i64 x10, .int .i64 x9, .int .i64 (IntKind.i64.wrap (x9 - 1)), .int .i64 (if 0 > IntKind.i64.wrap (x9 - 1) then 0 else IntKind.i64.wrap (x9 - 1)), .bool (x10 == (if 0 > IntKind.i64.wrap (x9 - 1) then 0 else IntKind.i64.wrap (x9 - 1))), .bool (x10 == (if 0 > IntKind.i64.wrap (x9 - 1) then 0 else IntKind.i64.wrap (x9 - 1))), .bool true, .int .i64 x5, .int .i64 x9, .bool (x5 != x9), .bool true, undef, undef, undef, undef, undef, undef, undef, .bool true, .bool true] M) (K #[.int .i64 x0, .int .i64 x1, g2, g3, .bool ((IntKind.i64.wrap (x11 - x7)) == (IntKind.i64.wrap (x1 - x0))), .int .i64 x5, .int .i64 x6, .int .i64 x7, g8, .int .i64 x9, .int .i64 x10, .int .i64 x11, g12, .int .i64 x13, g14, g15, g16, g17, g18, g19, g20, g21, g22, g23, g24, g25, g26, g27, g28, g29, g30, g31, g32, g33, g34, g35, g36, g37, g38, g39, g40, g41, g42, g43, g44, g45, g46, g47, g48, g49, g50, g51, g52, g53, g54, g55, g56, g57, g58, g59, g60, g61, g62, g63, g64, g65, g66, g67, g68, g69, g70, g71, g72, g73, g74, g75, g76, g77, g78, g79, g80, g81, g82, g83, g84, g85, g86, g87, g88, g89, g90, .int .i64 x13, .int .i64 x7, .int .i64 (IntKind.i64.wrap (x13 + x7)), .int .i64 x0, .bool ((IntKind.i64.wrap (x13 + x7)) == x0), .bool true, .int .i64 x6, .int .i64 x5, .int .i64 (IntKind.i64.wrap (x5 - 1)), .int .i64 (if 0 > IntKind.i64.wrap (x5 - 1) then 0 else IntKind.i64.wrap (x5 - 1)), .bool (x6 == (if 0 > IntKind.i64.wrap (x5 - 1) then 0 else IntKind.i64.wrap (x5 - 1))), .bool (x6 == (if 0 > IntKind.i64.wrap (x5 - 1) then 0 else IntKind.i64.wrap (x5 - 1))), .bool true, .int .i64 x10, .int .i64 x9, .int .i64 (IntKind.i64.wrap (x9 - 1)), .int .i64 (if 0 > IntKind.i64.wrap (x9 - 1) then 0 else IntKind.i64.wrap (x9 - 1)), .bool (x10 == (if 0 > IntKind.i64.wrap (x9 - 1) then 0 else IntKind.i64.wrap (x9 - 1))), .bool (x10 == (if 0 > IntKind.i64.wrap (x9 - 1) then 0 else IntKind.i64.wrap (x9 - 1))), .bool true, .int .i64 x5, .int .i64 x9, .bool (x5 != x9), .bool false, .int .i64 x11, .int .i64 x7, .int .i64 (IntKind.i64.wrap (x11 - x7)), .int .i64 x1, .int .i64 x0, .int .i64 (IntKind.i64.wrap (x1 - x0)), .bool ((IntKind.i64.wrap (x11 - x7)) == (IntKind.i64.wrap (x1 - x0))), .bool ((IntKind.i64.wrap (x11 - x7)) == (IntKind.i64.wrap (x1 - x0))), .bool ((IntKind.i64.wrap (x11 - x7)) == (IntKind.i64.wrap (x1 - x0)))] M)) (K #[.int .i64 x0, .int .i64 x1, g2, g3, .bool false, .int .i64 x5, .int .i64 x6, .int .i64 x7, g8, .int .i64 x9, .int .i64 x10, .int .i64 x11, g12, .int .i64 x13, g14, g15, g16, g17, g18, g19, g20, g21, g22, g23, g24, g25, g26, g27, g28, g29, g30, g31, g32, g33, g34, g35, g36, g37, g38, g39, g40, g41, g42, g43, g44, g45, g46, g47, g48, g49, g50, g51, g52, g53, g54, g55, g56, g57, g58, g59, g60, g61, g62, g63, g64, g65, g66, g67, g68, g69, g70, g71, g72, g73, g74, g75, g76, g77, g78, g79, g80, g81, g82, g83, g84, g85, g86, g87, g88, g89, g90, .int .i64 x13, .int .i64 x7, .int .i64 (IntKind.i64.wrap (x13 + x7)), .int .i64 x0, .bool ((IntKind.i64.wrap (x13 + x7)) == x0), .bool true, .int .i64 x6, .int .i64 x5, .int .i64 (IntKind.i64.wrap (x5 - 1)), .int .i64 (if 0 > IntKind.i64.wrap (x5 - 1) then 0 else IntKind.i64.wrap (x5 - 1)), .bool (x6 == (if 0 > IntKind.i64.wrap (x5 - 1) then 0 else IntKind.i64.wrap (x5 - 1))), .bool (x6 == (if 0 > IntKind.i64.wrap (x5 - 1) then 0 else IntKind.i64.wrap (x5 - 1))), .bool true, .int .i64 x10, .int .i64 x9, .int .i64 (IntKind.i64.wrap (x9 - 1)), .int .i64 (if 0 > IntKind.i64.wrap (x9 - 1) then 0 else IntKind.i64.wrap (x9 - 1)), .bool (x10 == (if 0 > IntKind.i64.wrap (x9 - 1) then 0 else IntKind.i64.wrap (x9 - 1))), .bool (x10 == (if 0 > IntKind.i64.wrap (x9 - 1) then 0 else IntKind.i64.wrap (x9 - 1))), .bool false, undef, undef, undef, undef, undef, undef, undef, undef, undef, undef, undef, undef, .bool false] M)) (K #[.int .i64 x0, .int .i64 x1, g2, g3, .bool false, .int .i64 x5, .int .i64 x6, .int .i64 x7, g8, .int .i64 x9, .int .i64 x10, .int .i64 x11, g12, .int .i64 x13, g14, g15, g16, g17, g18, g19, g20, g21, g22, g23, g24, g25, g26, g27, g28, g29, g30, g31, g32, g33, g34, g35, g36, g37, g38, g39, g40, g41, g42, g43, g44, g45, g46, g47, g48, g49, g50, g51, g52, g53, g54, g55, g56, g57, g58, g59, g60, g61, g62, g63, g64, g65, g66, g67, g68, g69, g70, g71, g72, g73, g74, g75, g76, g77, g78, g79, g80, g81, g82, g83, g84, g85, g86, g87, g88, g89, g90, .int .i64 x13, .int .i64 x7, .int .i64 (IntKind.i64.wrap (x13 + x7)), .int .i64 x0, .bool ((IntKind.i64.wrap (x13 + x7)) == x0), .bool true, .int .i64 x6, .int .i64 x5, .int .i64 (IntKind.i64.wrap (x5 - 1)), .int .i64 (if 0 > IntKind.i64.wrap (x5 - 1) then 0 else IntKind.i64.wrap (x5 - 1)), .bool (x6 == (if 0 > IntKind.i64.wrap (x5 - 1) then 0 else IntKind.i64.wrap (x5 - 1))), .bool (x6 == (if 0 > IntKind.i64.wrap (x5 - 1) then 0 else IntKind.i64.wrap (x5 - 1))), .bool false, undef, undef, undef, undef, undef, .bool false, .bool false, undef, undef, undef, undef, undef, undef, undef, undef, undef, undef, undef, undef, .bool false] M)) (K #[.int .i64 x0, .int .i64 x1, g2, g3, .bool false, .int .i64 x5, .int .i64 x6, .int .i64 x7, g8, .int .i64 x9, .int .i64 x10, .int .i64 x11, g12, .int .i64 x13, g14, g15, g16, g17, g18, g19, g20, g21, g22, g23, g24, g25, g26, g27, g28, g29, g30, g31, g32, g33, g34, g35, g36, g37, g38, g39, g40, g41, g42, g43, g44, g45, g46, g47, g48, g49, g50, g51, g52, g53, g54, g55, g56, g57, g58, g59, g60, g61, g62, g63, g64, g65, g66, g67, g68, g69, g70, g71, g72, g73, g74, g75, g76, g77, g78, g79, g80, g81, g82, g83, g84, g85, g86, g87, g88, g89, g90, .int .i64 x13, .int .i64 x7, .int .i64 (IntKind.i64.wrap (x13 + x7)), .int .i64 x0, .bool ((IntKind.i64.wrap (x13 + x7)) == x0), .bool false, undef, undef, undef, undef, undef, .bool false, .bool false, undef, undef, undef, undef, undef, .bool false, .bool false, undef, undef, undef, undef, undef, undef, undef, undef, undef, undef, undef, undef, .bool false] M) := by kernel_rfl
theorem k5_36 : subC (codeOf Try.f5) [1, 1, 1, 1, 1, 1, 1, 1, 1, 1] = .ret := by kernel_rfl
theorem k5_37 : subC (codeOf Try.f5) [1, 1, 1, 1, 1, 1, 1, 1, 0, 1, 1] = .skip := by kernel_rfl
noncomputable def S5_1 : List Item := [.code (subC (codeOf Try.f5) [1, 1, 1, 1, 1, 1, 0, 1]), .code (subC (codeOf Try.f5) [1, 1, 1, 1, 1, 1, 1])]
def A5_1 (x0 : Int) (x1 : Int) (x5 : Int) (x6 : Int) (x7 : Int) (x9 : Int) (x10 : Int) (x11 : Int) (x84 : Bool) (M : Mem) (Q : Value → Mem → Prop) : Prop := ∀ (g2 g3 g4 g8 g12 g13 g14 g15 g16 g17 g18 g19 g20 g21 g22 g23 g24 g25 g26 g27 g28 g29 g30 g31 g32 g33 g34 g35 g36 g37 g38 g39 g40 g41 g42 g43 g44 g45 g46 g47 g48 g49 g50 g51 g52 g53 g54 g55 g56 g57 g58 g59 g60 g61 g62 g63 g64 g65 g66 g67 g68 g69 g70 g71 g72 g73 g74 g75 g76 g77 g78 g79 g80 g81 g82 g83 g85 g86 g87 g88 g89 g90 g91 g92 g93 g94 g95 g96 g97 g98 g99 g100 g101 g102 g103 g104 g105 g106 g107 g108 g109 g110 g111 g112 g113 g114 g115 g116 g117 g118 g119 g120 g121 g122 g123 : Value), Rn Try.prog Try.f5 S5_1 #[.int .i64 x0, .int .i64 x1, g2, g3, g4, .int .i64 x5, .int .i64 x6, .int .i64 x7, g8, .int .i64 x9, .int .i64 x10, .int .i64 x11, g12, g13, g14, g15, g16, g17, g18, g19, g20, g21, g22, g23, g24, g25, g26, g27, g28, g29, g30, g31, g32, g33, g34, g35, g36, g37, g38, g39, g40, g41, g42, g43, g44, g45, g46, g47, g48, g49, g50, g51, g52, g53, g54, g55, g56, g57, g58, g59, g60, g61, g62, g63, g64, g65, g66, g67, g68, g69, g70, g71, g72, g73, g74, g75, g76, g77, g78, g79, g80, g81, g82, g83, .bool x84, g85, g86, g87, g88, g89, g90, g91, g92, g93, g94, g95, g96, g97, g98, g99, g100, g101, g102, g103, g104, g105, g106, g107, g108, g109, g110, g111, g112, g113, g114, g115, g116, g117, g118, g119, g120, g121, g122, g123] M Q
theorem w5_0 {x0 : Int} {x1 : Int} {M : Mem} {Q : Value → Mem → Prop} (H :
    Cn Try.prog 14 #[] M fun v1' N1' =>
     ∃ b2', asB v1' = some b2' ∧
     (((!b2') = true →
      Q (.bool false) N1') ∧
      ((!b2') = false →
      Cn Try.prog 15 #[.int .i64 x0, .int .i64 1024] N1' fun v3' N3' =>
       ∃ x4', asI .i64 v3' = some x4' ∧
       Cn Try.prog 15 #[.int .i64 x1, .int .i64 1024] N3' fun v5' N5' =>
        ∃ x6', asI .i64 v5' = some x6' ∧
        Cn Try.prog 12 #[.int .i64 (IntKind.i64.wrap (1 + x4'))] N5' fun v7' N7' =>
         ∃ cs8', asU 4 v7' = some cs8' ∧
         ∃ x9', asI .i64 (cs8'.getD 0 undef) = some x9' ∧
         ∃ x10', asI .i64 (cs8'.getD 1 undef) = some x10' ∧
         ∃ x11', asI .i64 (cs8'.getD 2 undef) = some x11' ∧
         ∃ x12', asI .i64 (cs8'.getD 3 undef) = some x12' ∧
         Cn Try.prog 12 #[.int .i64 (IntKind.i64.wrap (1 + x6'))] N7' fun v13' N13' =>
          ∃ cs14', asU 4 v13' = some cs14' ∧
          ∃ x15', asI .i64 (cs14'.getD 0 undef) = some x15' ∧
          ∃ x16', asI .i64 (cs14'.getD 1 undef) = some x16' ∧
          ∃ x17', asI .i64 (cs14'.getD 2 undef) = some x17' ∧
          ∃ x18', asI .i64 (cs14'.getD 3 undef) = some x18' ∧
          ((x12' ≠ 0 →
           A5_1 (IntKind.i64.wrap (1 + x4')) (IntKind.i64.wrap (1 + x6')) x9' x10' x11' x15' x16' x17' true N13' Q) ∧
           (x12' = 0 →
           ((x18' ≠ 0 →
            A5_1 (IntKind.i64.wrap (1 + x4')) (IntKind.i64.wrap (1 + x6')) x9' x10' x11' x15' x16' x17' true N13' Q) ∧
            (x18' = 0 →
            ((x9' < 0 →
             A5_1 (IntKind.i64.wrap (1 + x4')) (IntKind.i64.wrap (1 + x6')) x9' x10' x11' x15' x16' x17' true N13' Q) ∧
             (¬ (x9' < 0) →
             ((x9' > 10 →
              A5_1 (IntKind.i64.wrap (1 + x4')) (IntKind.i64.wrap (1 + x6')) x9' x10' x11' x15' x16' x17' true N13' Q) ∧
              (¬ (x9' > 10) →
              ((x11' < 0 →
               A5_1 (IntKind.i64.wrap (1 + x4')) (IntKind.i64.wrap (1 + x6')) x9' x10' x11' x15' x16' x17' true N13' Q) ∧
               (¬ (x11' < 0) →
               ∃ v19', binV Try.prog .shl 3 3 (.int .i64 1) (.int .i64 x10') = some v19' ∧
               ∃ x20', asI .i64 v19' = some x20' ∧
               ((x11' ≥ x20' →
                A5_1 (IntKind.i64.wrap (1 + x4')) (IntKind.i64.wrap (1 + x6')) x9' x10' x11' x15' x16' x17' true N13' Q) ∧
                (¬ (x11' ≥ x20') →
                (((IntKind.i64.wrap (1 + x4')) < (IntKind.i64.wrap (1 + x6')) →
                 ((x9' > x15' →
                  A5_1 (IntKind.i64.wrap (1 + x4')) (IntKind.i64.wrap (1 + x6')) x9' x10' x11' x15' x16' x17' true N13' Q) ∧
                  (¬ (x9' > x15') →
                  (((IntKind.i64.wrap (1 + x4')) ≠ (IntKind.i64.wrap (1 + x6')) →
                   ((x9' = x15' →
                    A5_1 (IntKind.i64.wrap (1 + x4')) (IntKind.i64.wrap (1 + x6')) x9' x10' x11' x15' x16' x17' (x11' == x17') N13' Q) ∧
                    (x9' ≠ x15' →
                    A5_1 (IntKind.i64.wrap (1 + x4')) (IntKind.i64.wrap (1 + x6')) x9' x10' x11' x15' x16' x17' false N13' Q))) ∧
                   ((IntKind.i64.wrap (1 + x4')) = (IntKind.i64.wrap (1 + x6')) →
                   A5_1 (IntKind.i64.wrap (1 + x4')) (IntKind.i64.wrap (1 + x6')) x9' x10' x11' x15' x16' x17' false N13' Q))))) ∧
                 (¬ ((IntKind.i64.wrap (1 + x4')) < (IntKind.i64.wrap (1 + x6'))) →
                 (((IntKind.i64.wrap (1 + x4')) ≠ (IntKind.i64.wrap (1 + x6')) →
                  ((x9' = x15' →
                   A5_1 (IntKind.i64.wrap (1 + x4')) (IntKind.i64.wrap (1 + x6')) x9' x10' x11' x15' x16' x17' (x11' == x17') N13' Q) ∧
                   (x9' ≠ x15' →
                   A5_1 (IntKind.i64.wrap (1 + x4')) (IntKind.i64.wrap (1 + x6')) x9' x10' x11' x15' x16' x17' false N13' Q))) ∧
                  ((IntKind.i64.wrap (1 + x4')) = (IntKind.i64.wrap (1 + x6')) →
                  A5_1 (IntKind.i64.wrap (1 + x4')) (IntKind.i64.wrap (1 + x6')) x9' x10' x11' x15' x16' x17' false N13' Q))))))))))))))))))) :
    Cn Try.prog 5 #[.int .i64 x0, .int .i64 x1] M Q := by
  refine Cn.of b5 d5 t5 ?_
  refine Rn.seq k5_0 ?_
  refine Rn.region k5_1 (fun call K => r5_0) ?_
  refine Rch.leaf ?_
  refine Rn.seq k5_2 ?_
  refine Rn.seq k5_3 ?_
  refine Rn.region k5_4 (fun call K => r5_1) ?_
  refine Rch.call H (fun v1' N1' H => ?_)
  obtain ⟨b2', hb2', H⟩ := H
  refine Rch.bind hb2' ?_
  refine Rch.leaf ?_
  refine Rn.cnd c5_5 (fun h => ?_) (fun h => ?_)
  · replace H := H.1 (h)
    refine Rn.seq k5_6 ?_
    refine Rn.region k5_7 (fun call K => r5_2) ?_
    refine Rch.leaf ?_
    exact Rn.ret k5_8 e5 H
  · replace H := H.2 (h)
    refine Rn.skip k5_10 ?_
    refine Rn.seq k5_11 ?_
    refine Rn.region k5_12 (fun call K => r5_3) ?_
    refine Rch.call H (fun v3' N3' H => ?_)
    obtain ⟨x4', hx4', H⟩ := H
    refine Rch.bind hx4' ?_
    refine Rch.leaf ?_
    refine Rn.seq k5_13 ?_
    refine Rn.region k5_14 (fun call K => r5_4) ?_
    refine Rch.call H (fun v5' N5' H => ?_)
    obtain ⟨x6', hx6', H⟩ := H
    refine Rch.bind hx6' ?_
    refine Rch.leaf ?_
    refine Rn.seq k5_15 ?_
    refine Rn.region k5_16 (fun call K => r5_5) ?_
    refine Rch.call H (fun v7' N7' H => ?_)
    obtain ⟨cs8', hcs8', H⟩ := H
    refine Rch.bind hcs8' ?_
    obtain ⟨x9', hx9', H⟩ := H
    refine Rch.bind hx9' ?_
    obtain ⟨x10', hx10', H⟩ := H
    refine Rch.bind hx10' ?_
    obtain ⟨x11', hx11', H⟩ := H
    refine Rch.bind hx11' ?_
    obtain ⟨x12', hx12', H⟩ := H
    refine Rch.bind hx12' ?_
    refine Rch.leaf ?_
    refine Rn.seq k5_17 ?_
    refine Rn.region k5_18 (fun call K => r5_6) ?_
    refine Rch.call H (fun v13' N13' H => ?_)
    obtain ⟨cs14', hcs14', H⟩ := H
    refine Rch.bind hcs14' ?_
    obtain ⟨x15', hx15', H⟩ := H
    refine Rch.bind hx15' ?_
    obtain ⟨x16', hx16', H⟩ := H
    refine Rch.bind hx16' ?_
    obtain ⟨x17', hx17', H⟩ := H
    refine Rch.bind hx17' ?_
    obtain ⟨x18', hx18', H⟩ := H
    refine Rch.bind hx18' ?_
    refine Rch.leaf ?_
    refine Rn.seq k5_19 ?_
    refine Rn.seq k5_20 ?_
    refine Rn.region k5_21 (fun call K => r5_7) ?_
    refine Rch.cB (fun h => ?_) (fun h => ?_)
    · replace H := H.1 (ne_of_bneT h)
      refine Rch.leaf ?_
      exact H _ _ _ _ _ _ _ _ _ _ _ _ _ _ _ _ _ _ _ _ _ _ _ _ _ _ _ _ _ _ _ _ _ _ _ _ _ _ _ _ _ _ _ _ _ _ _ _ _ _ _ _ _ _ _ _ _ _ _ _ _ _ _ _ _ _ _ _ _ _ _ _ _ _ _ _ _ _ _ _ _ _ _ _ _ _ _ _ _ _ _ _ _ _ _ _ _ _ _ _ _ _ _ _ _ _ _ _ _ _ _ _ _ _ _
    · replace H := H.2 (eq_of_bneF h)
      refine Rch.cB (fun h => ?_) (fun h => ?_)
      · replace H := H.1 (ne_of_bneT h)
        refine Rch.leaf ?_
        exact H _ _ _ _ _ _ _ _ _ _ _ _ _ _ _ _ _ _ _ _ _ _ _ _ _ _ _ _ _ _ _ _ _ _ _ _ _ _ _ _ _ _ _ _ _ _ _ _ _ _ _ _ _ _ _ _ _ _ _ _ _ _ _ _ _ _ _ _ _ _ _ _ _ _ _ _ _ _ _ _ _ _ _ _ _ _ _ _ _ _ _ _ _ _ _ _ _ _ _ _ _ _ _ _ _ _ _ _ _ _ _ _ _ _ _
      · replace H := H.2 (eq_of_bneF h)
        refine Rch.cB (fun h => ?_) (fun h => ?_)
        · replace H := H.1 (of_decide_eq_true h)
          refine Rch.leaf ?_
          exact H _ _ _ _ _ _ _ _ _ _ _ _ _ _ _ _ _ _ _ _ _ _ _ _ _ _ _ _ _ _ _ _ _ _ _ _ _ _ _ _ _ _ _ _ _ _ _ _ _ _ _ _ _ _ _ _ _ _ _ _ _ _ _ _ _ _ _ _ _ _ _ _ _ _ _ _ _ _ _ _ _ _ _ _ _ _ _ _ _ _ _ _ _ _ _ _ _ _ _ _ _ _ _ _ _ _ _ _ _ _ _ _ _ _ _
        · replace H := H.2 (of_decide_eq_false h)
          refine Rch.cB (fun h => ?_) (fun h => ?_)
          · replace H := H.1 (of_decide_eq_true h)
            refine Rch.leaf ?_
            exact H _ _ _ _ _ _ _ _ _ _ _ _ _ _ _ _ _ _ _ _ _ _ _ _ _ _ _ _ _ _ _ _ _ _ _ _ _ _ _ _ _ _ _ _ _ _ _ _ _ _ _ _ _ _ _ _ _ _ _ _ _ _ _ _ _ _ _ _ _ _ _ _ _ _ _ _ _ _ _ _ _ _ _ _ _ _ _ _ _ _ _ _ _ _ _ _ _ _ _ _ _ _ _ _ _ _ _ _ _ _ _ _ _ _ _
          · replace H := H.2 (of_decide_eq_false h)
            refine Rch.cB (fun h => ?_) (fun h => ?_)
            · replace H := H.1 (of_decide_eq_true h)
              refine Rch.leaf ?_
              exact H _ _ _ _ _ _ _ _ _ _ _ _ _ _ _ _ _ _ _ _ _ _ _ _ _ _ _ _ _ _ _ _ _ _ _ _ _ _ _ _ _ _ _ _ _ _ _ _ _ _ _ _ _ _ _ _ _ _ _ _ _ _ _ _ _ _ _ _ _ _ _ _ _ _ _ _ _ _ _ _ _ _ _ _ _ _ _ _ _ _ _ _ _ _ _ _ _ _ _ _ _ _ _ _ _ _ _ _ _ _ _ _ _ _ _
            · replace H := H.2 (of_decide_eq_false h)
              obtain ⟨v19', hv19', H⟩ := H
              refine Rch.bind hv19' ?_
              obtain ⟨x20', hx20', H⟩ := H
              refine Rch.bind hx20' ?_
              refine Rch.cB (fun h => ?_) (fun h => ?_)
              · replace H := H.1 (of_decide_eq_true h)
                refine Rch.leaf ?_
                exact H _ _ _ _ _ _ _ _ _ _ _ _ _ _ _ _ _ _ _ _ _ _ _ _ _ _ _ _ _ _ _ _ _ _ _ _ _ _ _ _ _ _ _ _ _ _ _ _ _ _ _ _ _ _ _ _ _ _ _ _ _ _ _ _ _ _ _ _ _ _ _ _ _ _ _ _ _ _ _ _ _ _ _ _ _ _ _ _ _ _ _ _ _ _ _ _ _ _ _ _ _ _ _ _ _ _ _ _ _ _ _ _ _ _ _
              · replace H := H.2 (of_decide_eq_false h)
                refine Rch.cB (fun h => ?_) (fun h => ?_)
                · replace H := H.1 (of_decide_eq_true h)
                  refine Rch.cB (fun h => ?_) (fun h => ?_)
                  · replace H := H.1 (of_decide_eq_true h)
                    refine Rch.leaf ?_
                    exact H _ _ _ _ _ _ _ _ _ _ _ _ _ _ _ _ _ _ _ _ _ _ _ _ _ _ _ _ _ _ _ _ _ _ _ _ _ _ _ _ _ _ _ _ _ _ _ _ _ _ _ _ _ _ _ _ _ _ _ _ _ _ _ _ _ _ _ _ _ _ _ _ _ _ _ _ _ _ _ _ _ _ _ _ _ _ _ _ _ _ _ _ _ _ _ _ _ _ _ _ _ _ _ _ _ _ _ _ _ _ _ _ _ _ _
                  · replace H := H.2 (of_decide_eq_false h)
                    refine Rch.cB (fun h => ?_) (fun h => ?_)
                    · replace H := H.1 (ne_of_bneT h)
                      refine Rch.cB (fun h => ?_) (fun h => ?_)
                      · replace H := H.1 (eq_of_beq h)
                        refine Rch.leaf ?_
                        exact H _ _ _ _ _ _ _ _ _ _ _ _ _ _ _ _ _ _ _ _ _ _ _ _ _ _ _ _ _ _ _ _ _ _ _ _ _ _ _ _ _ _ _ _ _ _ _ _ _ _ _ _ _ _ _ _ _ _ _ _ _ _ _ _ _ _ _ _ _ _ _ _ _ _ _ _ _ _ _ _ _ _ _ _ _ _ _ _ _ _ _ _ _ _ _ _ _ _ _ _ _ _ _ _ _ _ _ _ _ _ _ _ _ _ _
                      · replace H := H.2 (ne_of_beq_false h)
                        refine Rch.leaf ?_
                        exact H _ _ _ _ _ _ _ _ _ _ _ _ _ _ _ _ _ _ _ _ _ _ _ _ _ _ _ _ _ _ _ _ _ _ _ _ _ _ _ _ _ _ _ _ _ _ _ _ _ _ _ _ _ _ _ _ _ _ _ _ _ _ _ _ _ _ _ _ _ _ _ _ _ _ _ _ _ _ _ _ _ _ _ _ _ _ _ _ _ _ _ _ _ _ _ _ _ _ _ _ _ _ _ _ _ _ _ _ _ _ _ _ _ _ _
                    · replace H := H.2 (eq_of_bneF h)
                      refine Rch.leaf ?_
                      exact H _ _ _ _ _ _ _ _ _ _ _ _ _ _ _ _ _ _ _ _ _ _ _ _ _ _ _ _ _ _ _ _ _ _ _ _ _ _ _ _ _ _ _ _ _ _ _ _ _ _ _ _ _ _ _ _ _ _ _ _ _ _ _ _ _ _ _ _ _ _ _ _ _ _ _ _ _ _ _ _ _ _ _ _ _ _ _ _ _ _ _ _ _ _ _ _ _ _ _ _ _ _ _ _ _ _ _ _ _ _ _ _ _ _ _
                · replace H := H.2 (of_decide_eq_false h)
                  refine Rch.cB (fun h => ?_) (fun h => ?_)
                  · replace H := H.1 (ne_of_bneT h)
                    refine Rch.cB (fun h => ?_) (fun h => ?_)
                    · replace H := H.1 (eq_of_beq h)
                      refine Rch.leaf ?_
                      exact H _ _ _ _ _ _ _ _ _ _ _ _ _ _ _ _ _ _ _ _ _ _ _ _ _ _ _ _ _ _ _ _ _ _ _ _ _ _ _ _ _ _ _ _ _ _ _ _ _ _ _ _ _ _ _ _ _ _ _ _ _ _ _ _ _ _ _ _ _ _ _ _ _ _ _ _ _ _ _ _ _ _ _ _ _ _ _ _ _ _ _ _ _ _ _ _ _ _ _ _ _ _ _ _ _ _ _ _ _ _ _ _ _ _ _
                    · replace H := H.2 (ne_of_beq_false h)
                      refine Rch.leaf ?_
                      exact H _ _ _ _ _ _ _ _ _ _ _ _ _ _ _ _ _ _ _ _ _ _ _ _ _ _ _ _ _ _ _ _ _ _ _ _ _ _ _ _ _ _ _ _ _ _ _ _ _ _ _ _ _ _ _ _ _ _ _ _ _ _ _ _ _ _ _ _ _ _ _ _ _ _ _ _ _ _ _ _ _ _ _ _ _ _ _ _ _ _ _ _ _ _ _ _ _ _ _ _ _ _ _ _ _ _ _ _ _ _ _ _ _ _ _
                  · replace H := H.2 (eq_of_bneF h)
                    refine Rch.leaf ?_
                    exact H _ _ _ _ _ _ _ _ _ _ _ _ _ _ _ _ _ _ _ _ _ _ _ _ _ _ _ _ _ _ _ _ _ _ _ _ _ _ _ _ _ _ _ _ _ _ _ _ _ _ _ _ _ _ _ _ _ _ _ _ _ _ _ _ _ _ _ _ _ _ _ _ _ _ _ _ _ _ _ _ _ _ _ _ _ _ _ _ _ _ _ _ _ _ _ _ _ _ _ _ _ _ _ _ _ _ _ _ _ _ _ _ _ _ _

theorem w5_1 {x0 : Int} {x1 : Int} {x5 : Int} {x6 : Int} {x7 : Int} {x9 : Int} {x10 : Int} {x11 : Int} {x84 : Bool} {M : Mem} {Q : Value → Mem → Prop} (H :
    ((x84 = true →
     Q (.bool false) M) ∧
     (x84 = false →
     ((x5 > 0 →
      ∃ v21', binV Try.prog .shl 3 3 (.int .i64 1) (.int .i64 (IntKind.i64.wrap (x5 - 1))) = some v21' ∧
      ∃ x22', asI .i64 v21' = some x22' ∧
      (((IntKind.i64.wrap ((IntKind.i64.wrap (x22' + 1)) + x7)) = x0 →
       ((x6 = (if 0 > IntKind.i64.wrap (x5 - 1) then 0 else IntKind.i64.wrap (x5 - 1)) →
        ((x10 = (if 0 > IntKind.i64.wrap (x9 - 1) then 0 else IntKind.i64.wrap (x9 - 1)) →
         ((x5 ≠ x9 →
          Q (.bool true) M) ∧
          (x5 = x9 →
          Q (.bool ((IntKind.i64.wrap (x11 - x7)) == (IntKind.i64.wrap (x1 - x0)))) M))) ∧
         (x10 ≠ (if 0 > IntKind.i64.wrap (x9 - 1) then 0 else IntKind.i64.wrap (x9 - 1)) →
         Q (.bool false) M))) ∧
        (x6 ≠ (if 0 > IntKind.i64.wrap (x5 - 1) then 0 else IntKind.i64.wrap (x5 - 1)) →
        Q (.bool false) M))) ∧
       ((IntKind.i64.wrap ((IntKind.i64.wrap (x22' + 1)) + x7)) ≠ x0 →
       Q (.bool false) M))) ∧
      (¬ (x5 > 0) →
      (((IntKind.i64.wrap (1 + x7)) = x0 →
       ((x6 = (if 0 > IntKind.i64.wrap (x5 - 1) then 0 else IntKind.i64.wrap (x5 - 1)) →
        ((x10 = (if 0 > IntKind.i64.wrap (x9 - 1) then 0 else IntKind.i64.wrap (x9 - 1)) →
         ((x5 ≠ x9 →
          Q (.bool true) M) ∧
          (x5 = x9 →
          Q (.bool ((IntKind.i64.wrap (x11 - x7)) == (IntKind.i64.wrap (x1 - x0)))) M))) ∧
         (x10 ≠ (if 0 > IntKind.i64.wrap (x9 - 1) then 0 else IntKind.i64.wrap (x9 - 1)) →
         Q (.bool false) M))) ∧
        (x6 ≠ (if 0 > IntKind.i64.wrap (x5 - 1) then 0 else IntKind.i64.wrap (x5 - 1)) →
        Q (.bool false) M))) ∧
       ((IntKind.i64.wrap (1 + x7)) ≠ x0 →
       Q (.bool false) M))))))) :
    A5_1 x0 x1 x5 x6 x7 x9 x10 x11 x84 M Q := by
  intro g2 g3 g4 g8 g12 g13 g14 g15 g16 g17 g18 g19 g20 g21 g22 g23 g24 g25 g26 g27 g28 g29 g30 g31 g32 g33 g34 g35 g36 g37 g38 g39 g40 g41 g42 g43 g44 g45 g46 g47 g48 g49 g50 g51 g52 g53 g54 g55 g56 g57 g58 g59 g60 g61 g62 g63 g64 g65 g66 g67 g68 g69 g70 g71 g72 g73 g74 g75 g76 g77 g78 g79 g80 g81 g82 g83 g85 g86 g87 g88 g89 g90 g91 g92 g93 g94 g95 g96 g97 g98 g99 g100 g101 g102 g103 g104 g105 g106 g107 g108 g109 g110 g111 g112 g113 g114 g115 g116 g117 g118 g119 g120 g121 g122 g123
  refine Rn.cnd c5_22 (fun h => ?_) (fun h => ?_)
  · replace H := H.1 (h)
    refine Rn.seq k5_23 ?_
    refine Rn.region k5_24 (fun call K => r5_8) ?_
    refine Rch.leaf ?_
    exact Rn.ret k5_25 e5 H
  · replace H := H.2 (h)
    refine Rn.skip k5_26 ?_
    refine Rn.seq k5_27 ?_
    refine Rn.region k5_28 (fun call K => r5_9) ?_
    refine Rch.leaf ?_
    refine Rn.seq k5_29 ?_
    refine Rn.seq k5_30 ?_
    refine Rn.region k5_31 (fun call K => r5_10) ?_
    refine Rch.leaf ?_
    refine Rn.cnd c5_32 (fun h => ?_) (fun h => ?_)
    · replace H := H.1 (of_decide_eq_true h)
      refine Rn.region k5_33 (fun call K => r5_11) ?_
      obtain ⟨v21', hv21', H⟩ := H
      refine Rch.bind hv21' ?_
      obtain ⟨x22', hx22', H⟩ := H
      refine Rch.bind hx22' ?_
      refine Rch.leaf ?_
      refine Rn.seq k5_34 ?_
      refine Rn.region k5_35 (fun call K => r5_12) ?_
      refine Rch.cB (fun h => ?_) (fun h => ?_)
      · replace H := H.1 (eq_of_beq h)
        refine Rch.cB (fun h => ?_) (fun h => ?_)
        · replace H := H.1 (eq_of_beq h)
          refine Rch.cB (fun h => ?_) (fun h => ?_)
          · replace H := H.1 (eq_of_beq h)
            refine Rch.cB (fun h => ?_) (fun h => ?_)
            · replace H := H.1 (ne_of_bneT h)
              refine Rch.leaf ?_
              exact Rn.ret k5_36 e5 H
            · replace H := H.2 (eq_of_bneF h)
              refine Rch.leaf ?_
              exact Rn.ret k5_36 e5 H
          · replace H := H.2 (ne_of_beq_false h)
            refine Rch.leaf ?_
            exact Rn.ret k5_36 e5 H
        · replace H := H.2 (ne_of_beq_false h)
          refine Rch.leaf ?_
          exact Rn.ret k5_36 e5 H
      · replace H := H.2 (ne_of_beq_false h)
        refine Rch.leaf ?_
        exact Rn.ret k5_36 e5 H
    · replace H := H.2 (of_decide_eq_false h)
      refine Rn.skip k5_37 ?_
      refine Rn.seq k5_34 ?_
      refine Rn.region k5_35 (fun call K => r5_12) ?_
      refine Rch.cB (fun h => ?_) (fun h => ?_)
      · replace H := H.1 (eq_of_beq h)
        refine Rch.cB (fun h => ?_) (fun h => ?_)
        · replace H := H.1 (eq_of_beq h)
          refine Rch.cB (fun h => ?_) (fun h => ?_)
          · replace H := H.1 (eq_of_beq h)
            refine Rch.cB (fun h => ?_) (fun h => ?_)
            · replace H := H.1 (ne_of_bneT h)
              refine Rch.leaf ?_
              exact Rn.ret k5_36 e5 H
            · replace H := H.2 (eq_of_bneF h)
              refine Rch.leaf ?_
              exact Rn.ret k5_36 e5 H
          · replace H := H.2 (ne_of_beq_false h)
            refine Rch.leaf ?_
            exact Rn.ret k5_36 e5 H
        · replace H := H.2 (ne_of_beq_false h)
          refine Rch.leaf ?_
          exact Rn.ret k5_36 e5 H
      · replace H := H.2 (ne_of_beq_false h)
        refine Rch.leaf ?_
        exact Rn.ret k5_36 e5 H


/-! ### zoetrope/zoetroperef00.Bring: function 15 -/
theorem b15 : Try.prog.funcs[15]? = some Try.f15 := by kernel_rfl
theorem d15 : Try.f15.body = some (subC (codeOf Try.f15) []) := by kernel_rfl
theorem t15 {x0 : Int} {x1 : Int} : #[.int .i64 x0, .int .i64 x1] ++ Array.replicate (Try.f15.ntmps - (#[.int .i64 x0, .int .i64 x1] : Array Value).size) undef = #[.int .i64 x0, .int .i64 x1, undef, undef, undef, undef, undef, undef, undef, undef, undef, undef, undef, undef, undef, undef] := by kernel_rfl
theorem k15_0 : subC (codeOf Try.f15) [] = .seq (subC (codeOf Try.f15) [0]) (subC (codeOf Try.f15) [1]) := by kernel_rfl
theorem k15_1 : subC (codeOf Try.f15) [0] = .region 0 (opsOf (subC (codeOf Try.f15) [0])) false := by kernel_rfl
theorem r15_0 {g0 g1 g2 g3 g4 g5 g6 g7 g8 g9 g10 g11 g12 g13 g14 g15 : Value} {M : Mem} {call : CallM} {K : Array Value → Mem → R} :
    opsK Try.prog (fun _ => call) (opsOf (subC (codeOf Try.f15) [0])) (opsOf (subC (codeOf Try.f15) [0])).toList 0 #[g0, g1, g2, g3, g4, g5, g6, g7, g8, g9, g10, g11, g12, g13, g14, g15] M K = K #[g0, g1, g2, g3, .int .i64 0, g5, g6, g7, g8, g9, g10, g11, g12, g13, g14, g15] M := by kernel_rfl
theorem k15_2 : subC (codeOf Try.f15) [1] = .seq (subC (codeOf Try.f15) [1, 0]) (subC (codeOf Try.f15) [1, 1]) := by kernel_rfl
theorem k15_3 : subC (codeOf Try.f15) [1, 0] = .seq (subC (codeOf Try.f15) [1, 0, 0]) (subC (codeOf Try.f15) [1, 0, 1]) := by kernel_rfl
theorem k15_4 : subC (codeOf Try.f15) [1, 0, 0] = .region 1 (opsOf (subC (codeOf Try.f15) [1, 0, 0])) false := by kernel_rfl
theorem r15_1 {x1 : Int} {g0 g2 g3 g4 g5 g6 g7 g8 g9 g10 g11 g12 g13 g14 g15 : Value} {M : Mem} {call : CallM} {K : Array Value → Mem → R} :
    opsK Try.prog (fun _ => call) (opsOf (subC (codeOf Try.f15) [1, 0, 0])) (opsOf (subC (codeOf Try.f15) [1, 0, 0])).toList 0 #[g0, .int .i64 x1, g2, g3, g4, g5, g6, g7, g8, g9, g10, g11, g12, g13, g14, g15] M K = K #[g0, .int .i64 x1, g2, g3, g4, .int .i64 x1, .bool (decide (x1 ≤ 0)), g7, g8, g9, g10, g11, g12, g13, g14, g15] M := by kernel_rfl
theorem c15_5 {x6 : Bool} {g0 g1 g2 g3 g4 g5 g7 g8 g9 g10 g11 g12 g13 g14 g15 : Value} : subC (codeOf Try.f15) [1, 0, 1] = .cond (.tmp 6) (subC (codeOf Try.f15) [1, 0, 1, 0]) (subC (codeOf Try.f15) [1, 0, 1, 1]) ∧ okOperand (.tmp 6) = true ∧ evalT #[g0, g1, g2, g3, g4, g5, .bool x6, g7, g8, g9, g10, g11, g12, g13, g14, g15] (.tmp 6) = .bool x6 := ⟨by kernel_rfl, by kernel_rfl, by kernel_rfl⟩
theorem k15_6 : subC (codeOf Try.f15) [1, 0, 1, 0] = .seq (subC (codeOf Try.f15) [1, 0, 1, 0, 0]) (subC (codeOf Try.f15) [1, 0, 1, 0, 1]) := by kernel_rfl
theorem k15_7 : subC (codeOf Try.f15) [1, 0, 1, 0, 0] = .region 2 (opsOf (subC (codeOf Try.f15) [1, 0, 1, 0, 0])) false := by kernel_rfl
theorem r15_2 {g0 g1 g2 g3 g4 g5 g6 g7 g8 g9 g10 g11 g12 g13 g14 g15 : Value} {M : Mem} {call : CallM} {K : Array Value → Mem → R} :
    opsK Try.prog (fun _ => call) (opsOf (subC (codeOf Try.f15) [1, 0, 1, 0, 0])) (opsOf (subC (codeOf Try.f15) [1, 0, 1, 0, 0])).toList 0 #[g0, g1, g2, g3, g4, g5, g6, g7, g8, g9, g10, g11, g12, g13, g14, g15] M K = K #[g0, g1, g2, g3, .int .i64 0, g5, g6, g7, g8, g9, g10, g11, g12, g13, g14, g15] M := by kernel_rfl
theorem k15_8 : subC (codeOf Try.f15) [1, 0, 1, 0, 1] = .ret := by kernel_rfl
theorem e15 {g0 g1 g2 g3 g4 g5 g6 g7 g8 g9 g10 g11 g12 g13 g14 g15 : Value} {M : Mem} : finish Try.prog Try.f15 #[g0, g1, g2, g3, g4, g5, g6, g7, g8, g9, g10, g11, g12, g13, g14, g15] M = some (g4, M) := by kernel_rfl
theorem k15_10 : subC (codeOf Try.f15) [1, 0, 1, 1] = .skip := by kernel_rfl
theorem k15_11 : subC (codeOf Try.f15) [1, 1] = .seq (subC (codeOf Try.f15) [1, 1, 0]) (subC (codeOf Try.f15) [1, 1, 1]) := by kernel_rfl
theorem k15_12 : subC (codeOf Try.f15) [1, 1, 0] = .region 3 (opsOf (subC (codeOf Try.f15) [1, 1, 0])) false := by kernel_rfl
theorem r15_3 {x0 : Int} {x1 : Int} {g2 g3 g4 g5 g6 g7 g8 g9 g10 g11 g12 g13 g14 g15 : Value} {M : Mem} {call : CallM} {K : Array Value → Mem → R} :
    opsK Try.prog (fun _ => call) (opsOf (subC (codeOf Try.f15) [1, 1, 0])) (opsOf (subC (codeOf Try.f15) [1, 1, 0])).toList 0 #[.int .i64 x0, .int .i64 x1, g2, g3, g4, g5, g6, g7, g8, g9, g10, g11, g12, g13, g14, g15] M K = (binV Try.prog .rem 3 3 (.int .i64 x0) (.int .i64 x1)).bind fun v_1 => (asI .i64 v_1).bind fun x_2 => K #[.int .i64 x_2, .int .i64 x1, g2, g3, g4, g5, g6, .int .i64 x0, .int .i64 x1, .int .i64 x_2, g10, g11, g12, g13, g14, g15] M := by kernel_rfl
theorem k15_13 : subC (codeOf Try.f15) [1, 1, 1] = .seq (subC (codeOf Try.f15) [1, 1, 1, 0]) (subC (codeOf Try.f15) [1, 1, 1, 1]) := by kernel_rfl
theorem k15_14 : subC (codeOf Try.f15) [1, 1, 1, 0] = .seq (subC (codeOf Try.f15) [1, 1, 1, 0, 0]) (subC (codeOf Try.f15) [1, 1, 1, 0, 1]) := by kernel_rfl
theorem k15_15 : subC (codeOf Try.f15) [1, 1, 1, 0, 0] = .region 4 (opsOf (subC (codeOf Try.f15) [1, 1, 1, 0, 0])) false := by kernel_rfl
theorem r15_4 {x0 : Int} {g1 g2 g3 g4 g5 g6 g7 g8 g9 g10 g11 g12 g13 g14 g15 : Value} {M : Mem} {call : CallM} {K : Array Value → Mem → R} :
    opsK Try.prog (fun _ => call) (opsOf (subC (codeOf Try.f15) [1, 1, 1, 0, 0])) (opsOf (subC (codeOf Try.f15) [1, 1, 1, 0, 0])).toList 0 #[.int .i64 x0, g1, g2, g3, g4, g5, g6, g7, g8, g9, g10, g11, g12, g13, g14, g15] M K = K #[.int .i64 x0, g1, g2, g3, g4, g5, g6, g7, g8, g9, .int .i64 x0, .bool (decide (x0 < 0)), g12, g13, g14, g15] M := by kernel_rfl
theorem c15_16 {x11 : Bool} {g0 g1 g2 g3 g4 g5 g6 g7 g8 g9 g10 g12 g13 g14 g15 : Value} : subC (codeOf Try.f15) [1, 1, 1, 0, 1] = .cond (.tmp 11) (subC (codeOf Try.f15) [1, 1, 1, 0, 1, 0]) (subC (codeOf Try.f15) [1, 1, 1, 0, 1, 1]) ∧ okOperand (.tmp 11) = true ∧ evalT #[g0, g1, g2, g3, g4, g5, g6, g7, g8, g9, g10, .bool x11, g12, g13, g14, g15] (.tmp 11) = .bool x11 := ⟨by kernel_rfl, by kernel_rfl, by kernel_rfl⟩
theorem k15_17 : subC (codeOf Try.f15) [1, 1, 1, 0, 1, 0] = .region 5 (opsOf (subC (codeOf Try.f15) [1, 1, 1, 0, 1, 0])) false := by kernel_rfl
theorem r15_5 {x0 : Int} {x1 : Int} {g2 g3 g4 g5 g6 g7 g8 g9 g10 g11 g12 g13 g14 g15 : Value} {M : Mem} {call : CallM} {K : Array Value → Mem → R} :
    opsK Try.prog (fun _ => call) (opsOf (subC (codeOf Try.f15) [1, 1, 1, 0, 1, 0])) (opsOf (subC (codeOf Try.f15) [1, 1, 1, 0, 1, 0])).toList 0 #[.int .i64 x0, .int .i64 x1, g2, g3, g4, g5, g6, g7, g8, g9, g10, g11, g12, g13, g14, g15] M K = K #[.int .i64 (IntKind.i64.wrap (x0 + x1)), .int .i64 x1, g2, g3, g4, g5, g6, g7, g8, g9, g10, g11, .int .i64 x0, .int .i64 x1, .int .i64 (IntKind.i64.wrap (x0 + x1)), g15] M := by kernel_rfl
theorem k15_18 : subC (codeOf Try.f15) [1, 1, 1, 1] = .seq (subC (codeOf Try.f15) [1, 1, 1, 1, 0]) (subC (codeOf Try.f15) [1, 1, 1, 1, 1]) := by kernel_rfl
theorem k15_19 : subC (codeOf Try.f15) [1, 1, 1, 1, 0] = .region 6 (opsOf (subC (codeOf Try.f15) [1, 1, 1, 1, 0])) false := by kernel_rfl
theorem r15_6 {x0 : Int} {g1 g2 g3 g4 g5 g6 g7 g8 g9 g10 g11 g12 g13 g14 g15 : Value} {M : Mem} {call : CallM} {K : Array Value → Mem → R} :
    opsK Try.prog (fun _ => call) (opsOf (subC (codeOf Try.f15) [1, 1, 1, 1, 0])) (opsOf (subC (codeOf Try.f15) [1, 1, 1, 1, 0])).toList 0 #[.int .i64 x0, g1, g2, g3, g4, g5, g6, g7, g8, g9, g10, g11, g12, g13, g14, g15] M K = K #[.int .i64 x0, g1, g2, g3, .int .i64 x0, g5, g6, g7, g8, g9, g10, g11, g12, g13, g14, .int .i64 x0] M := by kernel_rfl
theorem k15_20 : subC (codeOf Try.f15) [1, 1, 1, 1, 1] = .ret := by kernel_rfl
theorem k15_21 : subC (codeOf Try.f15) [1, 1, 1, 0, 1, 1] = .skip := by kernel_rfl
theorem w15_0 {x0 : Int} {x1 : Int} {M : Mem} {Q : Value → Mem → Prop} (H :
    ((x1 ≤ 0 →
     Q (.int .i64 0) M) ∧
     (¬ (x1 ≤ 0) →
     ∃ v1', binV Try.prog .rem 3 3 (.int .i64 x0) (.int .i64 x1) = some v1' ∧
     ∃ x2', asI .i64 v1' = some x2' ∧
     ((x2' < 0 →
      Q (.int .i64 (IntKind.i64.wrap (x2' + x1))) M) ∧
      (¬ (x2' < 0) →
      Q (.int .i64 (x2')) M))))) :
    Cn Try.prog 15 #[.int .i64 x0, .int .i64 x1] M Q := by
  refine Cn.of b15 d15 t15 ?_
  refine Rn.seq k15_0 ?_
  refine Rn.region k15_1 (fun call K => r15_0) ?_
  refine Rch.leaf ?_
  refine Rn.seq k15_2 ?_
  refine Rn.seq k15_3 ?_
  refine Rn.region k15_4 (fun call K => r15_1) ?_
  refine Rch.leaf ?_
  refine Rn.cnd c15_5 (fun h => ?_) (fun h => ?_)
  · replace H := H.1 (of_decide_eq_true h)
    refine Rn.seq k15_6 ?_
    refine Rn.region k15_7 (fun call K => r15_2) ?_
    refine Rch.leaf ?_
    exact Rn.ret k15_8 e15 H
  · replace H := H.2 (of_decide_eq_false h)
    refine Rn.skip k15_10 ?_
    refine Rn.seq k15_11 ?_
    refine Rn.region k15_12 (fun call K => r15_3) ?_
    obtain ⟨v1', hv1', H⟩ := H
    refine Rch.bind hv1' ?_
    obtain ⟨x2', hx2', H⟩ := H
    refine Rch.bind hx2' ?_
    refine Rch.leaf ?_
    refine Rn.seq k15_13 ?_
    refine Rn.seq k15_14 ?_
    refine Rn.region k15_15 (fun call K => r15_4) ?_
    refine Rch.leaf ?_
    refine Rn.cnd c15_16 (fun h => ?_) (fun h => ?_)
    · replace H := H.1 (of_decide_eq_true h)
      refine Rn.region k15_17 (fun call K => r15_5) ?_
      refine Rch.leaf ?_
      refine Rn.seq k15_18 ?_
      refine Rn.region k15_19 (fun call K => r15_6) ?_
      refine Rch.leaf ?_
      exact Rn.ret k15_20 e15 H
    · replace H := H.2 (of_decide_eq_false h)
      refine Rn.skip k15_21 ?_
      refine Rn.seq k15_18 ?_
      refine Rn.region k15_19 (fun call K => r15_6) ?_
      refine Rch.leaf ?_
      exact Rn.ret k15_20 e15 H


/-! ### zoetrope/zoetroperef00.CopyInts: function 16 -/
theorem b16 : Try.prog.funcs[16]? = some Try.f16 := by kernel_rfl
theorem d16 : Try.f16.body = some (subC (codeOf Try.f16) []) := by kernel_rfl
theorem t16 {Ax0 : Option Addr} {lx0 : Nat} {cx0 : Nat} : #[.slice Ax0 lx0 cx0] ++ Array.replicate (Try.f16.ntmps - (#[.slice Ax0 lx0 cx0] : Array Value).size) undef = #[.slice Ax0 lx0 cx0, undef, undef, undef, undef, undef, undef, undef] := by kernel_rfl
theorem k16_0 : subC (codeOf Try.f16) [] = .seq (subC (codeOf Try.f16) [0]) (subC (codeOf Try.f16) [1]) := by kernel_rfl
theorem k16_1 : subC (codeOf Try.f16) [0] = .region 0 (opsOf (subC (codeOf Try.f16) [0])) false := by kernel_rfl
theorem r16_0 {g0 g1 g2 g3 g4 g5 g6 g7 : Value} {M : Mem} {call : CallM} {K : Array Value → Mem → R} :
    opsK Try.prog (fun _ => call) (opsOf (subC (codeOf Try.f16) [0])) (opsOf (subC (codeOf Try.f16) [0])).toList 0 #[g0, g1, g2, g3, g4, g5, g6, g7] M K = K #[g0, g1, .slice none 0 0, g3, g4, g5, g6, g7] M := by kernel_rfl
theorem k16_2 : subC (codeOf Try.f16) [1] = .seq (subC (codeOf Try.f16) [1, 0]) (subC (codeOf Try.f16) [1, 1]) := by kernel_rfl
theorem k16_3 : subC (codeOf Try.f16) [1, 0] = .region 1 (opsOf (subC (codeOf Try.f16) [1, 0])) false := by kernel_rfl
theorem r16_1 {g0 g1 g2 g3 g4 g5 g6 g7 : Value} {M : Mem} {call : CallM} {K : Array Value → Mem → R} :
    opsK Try.prog (fun _ => call) (opsOf (subC (codeOf Try.f16) [1, 0])) (opsOf (subC (codeOf Try.f16) [1, 0])).toList 0 #[g0, g1, g2, g3, g4, g5, g6, g7] M K = K #[g0, g1, g2, .slice none 0 0, g4, g5, g6, g7] M := by kernel_rfl
theorem k16_4 : subC (codeOf Try.f16) [1, 1] = .seq (subC (codeOf Try.f16) [1, 1, 0]) (subC (codeOf Try.f16) [1, 1, 1]) := by kernel_rfl
theorem k16_5 : subC (codeOf Try.f16) [1, 1, 0] = .region 2 (opsOf (subC (codeOf Try.f16) [1, 1, 0])) false := by kernel_rfl
theorem r16_2 {Ax0 : Option Addr} {lx0 : Nat} {cx0 : Nat} {Ax3 : Option Addr} {lx3 : Nat} {cx3 : Nat} {g1 g2 g4 g5 g6 g7 : Value} {M : Mem} {call : CallM} {K : Array Value → Mem → R} :
    opsK Try.prog (fun _ => call) (opsOf (subC (codeOf Try.f16) [1, 1, 0])) (opsOf (subC (codeOf Try.f16) [1, 1, 0])).toList 0 #[.slice Ax0 lx0 cx0, g1, g2, .slice Ax3 lx3 cx3, g4, g5, g6, g7] M K = (appendP Try.prog #[22, 22] (.slice Ax3 lx3 cx3) (.slice Ax0 lx0 cx0) M).bind fun r_1 => (asS r_1.1).bind fun s_2 => K #[.slice Ax0 lx0 cx0, g1, g2, .slice s_2.1 (s_2.2.1) (s_2.2.2), .slice Ax3 lx3 cx3, .slice Ax0 lx0 cx0, .slice s_2.1 (s_2.2.1) (s_2.2.2), g7] r_1.2 := by kernel_rfl
theorem k16_6 : subC (codeOf Try.f16) [1, 1, 1] = .seq (subC (codeOf Try.f16) [1, 1, 1, 0]) (subC (codeOf Try.f16) [1, 1, 1, 1]) := by kernel_rfl
theorem k16_7 : subC (codeOf Try.f16) [1, 1, 1, 0] = .region 3 (opsOf (subC (codeOf Try.f16) [1, 1, 1, 0])) false := by kernel_rfl
theorem r16_3 {Ax3 : Option Addr} {lx3 : Nat} {cx3 : Nat} {g0 g1 g2 g4 g5 g6 g7 : Value} {M : Mem} {call : CallM} {K : Array Value → Mem → R} :
    opsK Try.prog (fun _ => call) (opsOf (subC (codeOf Try.f16) [1, 1, 1, 0])) (opsOf (subC (codeOf Try.f16) [1, 1, 1, 0])).toList 0 #[g0, g1, g2, .slice Ax3 lx3 cx3, g4, g5, g6, g7] M K = K #[g0, g1, .slice Ax3 lx3 cx3, .slice Ax3 lx3 cx3, g4, g5, g6, .slice Ax3 lx3 cx3] M := by kernel_rfl
theorem k16_8 : subC (codeOf Try.f16) [1, 1, 1, 1] = .ret := by kernel_rfl
theorem e16 {g0 g1 g2 g3 g4 g5 g6 g7 : Value} {M : Mem} : finish Try.prog Try.f16 #[g0, g1, g2, g3, g4, g5, g6, g7] M = some (g2, M) := by kernel_rfl
theorem w16_0 {Ax0 : Option Addr} {lx0 : Nat} {cx0 : Nat} {M : Mem} {Q : Value → Mem → Prop} (H :
    ∃ r1', appendP Try.prog #[22, 22] (.slice none 0 0) (.slice Ax0 lx0 cx0) M = some r1' ∧
    ∃ s2', asS r1'.1 = some s2' ∧
    Q (.slice s2'.1 (s2'.2.1) (s2'.2.2)) r1'.2) :
    Cn Try.prog 16 #[.slice Ax0 lx0 cx0] M Q := by
  refine Cn.of b16 d16 t16 ?_
  refine Rn.seq k16_0 ?_
  refine Rn.region k16_1 (fun call K => r16_0) ?_
  refine Rch.leaf ?_
  refine Rn.seq k16_2 ?_
  refine Rn.region k16_3 (fun call K => r16_1) ?_
  refine Rch.leaf ?_
  refine Rn.seq k16_4 ?_
  refine Rn.region k16_5 (fun call K => r16_2) ?_
  obtain ⟨r1', hr1', H⟩ := H
  refine Rch.bind hr1' ?_
  obtain ⟨s2', hs2', H⟩ := H
  refine Rch.bind hs2' ?_
  refine Rch.leaf ?_
  refine Rn.seq k16_6 ?_
  refine Rn.region k16_7 (fun call K => r16_3) ?_
  refine Rch.leaf ?_
  exact Rn.ret k16_8 e16 H


end Go.Zt
