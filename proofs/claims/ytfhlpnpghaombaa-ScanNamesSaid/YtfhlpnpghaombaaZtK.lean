/- The functions' walks: for each function and each loop a rule of what it comes to. Printed by zw.py. -/
import Derived.Test.YtfhlpnpghaombaaProg
import Derived.Test.YtfhlpnpghaombaaZsN
set_option linter.unusedVariables false
set_option maxRecDepth 100000
namespace Go.Zt
open Go Go.Sim Go.Proofs

/-! ### zoetrope/scan.Base: function 17 -/
theorem b17 : Try.prog.funcs[17]? = some Try.f17 := by kernel_rfl
theorem d17 : Try.f17.body = some (subC (codeOf Try.f17) []) := by kernel_rfl
theorem t17 {Ax0 : Option Addr} {lx0 : Nat} {cx0 : Nat} {x1 : Int} {x2 : Int} : #[.slice Ax0 lx0 cx0, .int .i64 x1, .int .i64 x2] ++ Array.replicate (Try.f17.ntmps - (#[.slice Ax0 lx0 cx0, .int .i64 x1, .int .i64 x2] : Array Value).size) undef = #[.slice Ax0 lx0 cx0, .int .i64 x1, .int .i64 x2, undef, undef, undef, undef, undef, undef, undef, undef, undef, undef, undef, undef, undef, undef, undef, undef, undef] := by kernel_rfl
theorem k17_0 : subC (codeOf Try.f17) [] = .seq (subC (codeOf Try.f17) [0]) (subC (codeOf Try.f17) [1]) := by kernel_rfl
theorem k17_1 : subC (codeOf Try.f17) [0] = .region 0 (opsOf (subC (codeOf Try.f17) [0])) false := by kernel_rfl
theorem r17_0 {g0 g1 g2 g3 g4 g5 g6 g7 g8 g9 g10 g11 g12 g13 g14 g15 g16 g17 g18 g19 : Value} {M : Mem} {call : CallM} {K : Array Value → Mem → R} :
    opsK Try.prog (fun _ => call) (opsOf (subC (codeOf Try.f17) [0])) (opsOf (subC (codeOf Try.f17) [0])).toList 0 #[g0, g1, g2, g3, g4, g5, g6, g7, g8, g9, g10, g11, g12, g13, g14, g15, g16, g17, g18, g19] M K = K #[g0, g1, g2, g3, g4, g5, .int .i64 0, .int .i64 0, g8, g9, g10, g11, g12, g13, g14, g15, g16, g17, g18, g19] M := by kernel_rfl
theorem k17_2 : subC (codeOf Try.f17) [1] = .seq (subC (codeOf Try.f17) [1, 0]) (subC (codeOf Try.f17) [1, 1]) := by kernel_rfl
theorem k17_3 : subC (codeOf Try.f17) [1, 0] = .region 1 (opsOf (subC (codeOf Try.f17) [1, 0])) false := by kernel_rfl
theorem r17_1 {Ax0 : Option Addr} {lx0 : Nat} {cx0 : Nat} {x1 : Int} {x2 : Int} {g3 g4 g5 g6 g7 g8 g9 g10 g11 g12 g13 g14 g15 g16 g17 g18 g19 : Value} {M : Mem} {call : CallM} {K : Array Value → Mem → R} :
    opsK Try.prog (fun _ => call) (opsOf (subC (codeOf Try.f17) [1, 0])) (opsOf (subC (codeOf Try.f17) [1, 0])).toList 0 #[.slice Ax0 lx0 cx0, .int .i64 x1, .int .i64 x2, g3, g4, g5, g6, g7, g8, g9, g10, g11, g12, g13, g14, g15, g16, g17, g18, g19] M K = (call 24 #[.slice Ax0 lx0 cx0, .int .i64 x1, .int .i64 x2, .int .i64 3, .int .i64 4, .slice (some ⟨2 * M.nb.size, 0, none⟩) 5 5] (M.new (.cells #[.int .i64 0, .int .i64 1, .int .i64 1, .int .i64 0, .int .i64 1, .int .i64 1, .int .i64 0, .int .i64 2, .int .i64 2, .int .i64 0] 43))).bind fun r_1 => (asU 2 r_1.1).bind fun cs_2 => (asI .i64 (cs_2.getD 0 undef)).bind fun x_3 => (asI .i64 (cs_2.getD 1 undef)).bind fun x_4 => K #[.slice Ax0 lx0 cx0, .int .i64 x1, .int .i64 x2, g3, g4, g5, .int .i64 x_3, .int .i64 x_4, .slice Ax0 lx0 cx0, .int .i64 x1, .int .i64 x2, .agg #[.int .i64 0, .int .i64 1], .agg #[.int .i64 1, .int .i64 0], .agg #[.int .i64 1, .int .i64 1], .agg #[.int .i64 0, .int .i64 2], .agg #[.int .i64 2, .int .i64 0], .slice (some ⟨2 * M.nb.size, 0, none⟩) 5 5, .tuple #[.int .i64 x_3, .int .i64 x_4], .int .i64 x_3, .int .i64 x_4] r_1.2 := by kernel_rfl
theorem k17_4 : subC (codeOf Try.f17) [1, 1] = .ret := by kernel_rfl
theorem e17 {g0 g1 g2 g3 g4 g5 g6 g7 g8 g9 g10 g11 g12 g13 g14 g15 g16 g17 g18 g19 : Value} {M : Mem} : finish Try.prog Try.f17 #[g0, g1, g2, g3, g4, g5, g6, g7, g8, g9, g10, g11, g12, g13, g14, g15, g16, g17, g18, g19] M = some (.tuple #[g6, g7], M) := by kernel_rfl
theorem w17_0 {Ax0 : Option Addr} {lx0 : Nat} {cx0 : Nat} {x1 : Int} {x2 : Int} {M : Mem} {Q : Value → Mem → Prop} (H :
    Cn Try.prog 24 #[.slice Ax0 lx0 cx0, .int .i64 x1, .int .i64 x2, .int .i64 3, .int .i64 4, .slice (some ⟨2 * M.nb.size, 0, none⟩) 5 5] (M.new (.cells #[.int .i64 0, .int .i64 1, .int .i64 1, .int .i64 0, .int .i64 1, .int .i64 1, .int .i64 0, .int .i64 2, .int .i64 2, .int .i64 0] 43)) fun v1' N1' =>
     ∃ cs2', asU 2 v1' = some cs2' ∧
     ∃ x3', asI .i64 (cs2'.getD 0 undef) = some x3' ∧
     ∃ x4', asI .i64 (cs2'.getD 1 undef) = some x4' ∧
     Q (.tuple #[.int .i64 (x3'), .int .i64 (x4')]) N1') :
    Cn Try.prog 17 #[.slice Ax0 lx0 cx0, .int .i64 x1, .int .i64 x2] M Q := by
  refine Cn.of b17 d17 t17 ?_
  refine Rn.seq k17_0 ?_
  refine Rn.region k17_1 (fun call K => r17_0) ?_
  refine Rch.leaf ?_
  refine Rn.seq k17_2 ?_
  refine Rn.region k17_3 (fun call K => r17_1) ?_
  refine Rch.call H (fun v1' N1' H => ?_)
  obtain ⟨cs2', hcs2', H⟩ := H
  refine Rch.bind hcs2' ?_
  obtain ⟨x3', hx3', H⟩ := H
  refine Rch.bind hx3' ?_
  obtain ⟨x4', hx4', H⟩ := H
  refine Rch.bind hx4' ?_
  refine Rch.leaf ?_
  exact Rn.ret k17_4 e17 H


/-! ### zoetrope/zoetroperef10.Base: function 18 -/
theorem b18 : Try.prog.funcs[18]? = some Try.f18 := by kernel_rfl
theorem d18 : Try.f18.body = some (subC (codeOf Try.f18) []) := by kernel_rfl
theorem t18 {Ax0 : Option Addr} {lx0 : Nat} {cx0 : Nat} {x1 : Int} {x2 : Int} : #[.slice Ax0 lx0 cx0, .int .i64 x1, .int .i64 x2] ++ Array.replicate (Try.f18.ntmps - (#[.slice Ax0 lx0 cx0, .int .i64 x1, .int .i64 x2] : Array Value).size) undef = #[.slice Ax0 lx0 cx0, .int .i64 x1, .int .i64 x2, undef, undef, undef, undef, undef, undef, undef, undef, undef, undef, undef, undef, undef, undef, undef, undef, undef, undef, undef, undef, undef, undef, undef, undef, undef, undef, undef, undef, undef, undef, undef, undef, undef, undef, undef, undef, undef, undef, undef, undef, undef, undef, undef, undef, undef, undef, undef, undef, undef, undef, undef, undef, undef, undef, undef, undef, undef, undef, undef, undef, undef] := by kernel_rfl
theorem k18_0 : subC (codeOf Try.f18) [] = .seq (subC (codeOf Try.f18) [0]) (subC (codeOf Try.f18) [1]) := by kernel_rfl
theorem k18_1 : subC (codeOf Try.f18) [0] = .region 0 (opsOf (subC (codeOf Try.f18) [0])) false := by kernel_rfl
theorem r18_0 {g0 g1 g2 g3 g4 g5 g6 g7 g8 g9 g10 g11 g12 g13 g14 g15 g16 g17 g18 g19 g20 g21 g22 g23 g24 g25 g26 g27 g28 g29 g30 g31 g32 g33 g34 g35 g36 g37 g38 g39 g40 g41 g42 g43 g44 g45 g46 g47 g48 g49 g50 g51 g52 g53 g54 g55 g56 g57 g58 g59 g60 g61 g62 g63 : Value} {M : Mem} {call : CallM} {K : Array Value → Mem → R} :
    opsK Try.prog (fun _ => call) (opsOf (subC (codeOf Try.f18) [0])) (opsOf (subC (codeOf Try.f18) [0])).toList 0 #[g0, g1, g2, g3, g4, g5, g6, g7, g8, g9, g10, g11, g12, g13, g14, g15, g16, g17, g18, g19, g20, g21, g22, g23, g24, g25, g26, g27, g28, g29, g30, g31, g32, g33, g34, g35, g36, g37, g38, g39, g40, g41, g42, g43, g44, g45, g46, g47, g48, g49, g50, g51, g52, g53, g54, g55, g56, g57, g58, g59, g60, g61, g62, g63] M K = K #[g0, g1, g2, g3, g4, g5, .int .i64 0, .int .i64 0, g8, g9, g10, g11, g12, g13, g14, g15, g16, g17, g18, g19, g20, g21, g22, g23, g24, g25, g26, g27, g28, g29, g30, g31, g32, g33, g34, g35, g36, g37, g38, g39, g40, g41, g42, g43, g44, g45, g46, g47, g48, g49, g50, g51, g52, g53, g54, g55, g56, g57, g58, g59, g60, g61, g62, g63] M := by kernel_rfl
theorem k18_2 : subC (codeOf Try.f18) [1] = .seq (subC (codeOf Try.f18) [1, 0]) (subC (codeOf Try.f18) [1, 1]) := by kernel_rfl
theorem k18_3 : subC (codeOf Try.f18) [1, 0] = .seq (subC (codeOf Try.f18) [1, 0, 0]) (subC (codeOf Try.f18) [1, 0, 1]) := by kernel_rfl
theorem k18_4 : subC (codeOf Try.f18) [1, 0, 0] = .region 1 (opsOf (subC (codeOf Try.f18) [1, 0, 0])) false := by kernel_rfl
theorem r18_1 {Ax0 : Option Addr} {lx0 : Nat} {cx0 : Nat} {x1 : Int} {x2 : Int} {g3 g4 g5 g6 g7 g8 g9 g10 g11 g12 g13 g14 g15 g16 g17 g18 g19 g20 g21 g22 g23 g24 g25 g26 g27 g28 g29 g30 g31 g32 g33 g34 g35 g36 g37 g38 g39 g40 g41 g42 g43 g44 g45 g46 g47 g48 g49 g50 g51 g52 g53 g54 g55 g56 g57 g58 g59 g60 g61 g62 g63 : Value} {M : Mem} {call : CallM} {K : Array Value → Mem → R} :
    opsK Try.prog (fun _ => call) (opsOf (subC (codeOf Try.f18) [1, 0, 0])) (opsOf (subC (codeOf Try.f18) [1, 0, 0])).toList 0 #[.slice Ax0 lx0 cx0, .int .i64 x1, .int .i64 x2, g3, g4, g5, g6, g7, g8, g9, g10, g11, g12, g13, g14, g15, g16, g17, g18, g19, g20, g21, g22, g23, g24, g25, g26, g27, g28, g29, g30, g31, g32, g33, g34, g35, g36, g37, g38, g39, g40, g41, g42, g43, g44, g45, g46, g47, g48, g49, g50, g51, g52, g53, g54, g55, g56, g57, g58, g59, g60, g61, g62, g63] M K = (call 25 #[.slice Ax0 lx0 cx0, .int .i64 x1, .int .i64 x2] M).bind fun r_1 => (asB r_1.1).bind fun b_2 => K #[.slice Ax0 lx0 cx0, .int .i64 x1, .int .i64 x2, g3, g4, g5, g6, g7, g8, g9, g10, g11, .slice Ax0 lx0 cx0, .int .i64 x1, .int .i64 x2, .bool b_2, .bool (!b_2), g17, g18, g19, g20, g21, g22, g23, g24, g25, g26, g27, g28, g29, g30, g31, g32, g33, g34, g35, g36, g37, g38, g39, g40, g41, g42, g43, g44, g45, g46, g47, g48, g49, g50, g51, g52, g53, g54, g55, g56, g57, g58, g59, g60, g61, g62, g63] r_1.2 := by kernel_rfl
theorem c18_5 {x16 : Bool} {g0 g1 g2 g3 g4 g5 g6 g7 g8 g9 g10 g11 g12 g13 g14 g15 g17 g18 g19 g20 g21 g22 g23 g24 g25 g26 g27 g28 g29 g30 g31 g32 g33 g34 g35 g36 g37 g38 g39 g40 g41 g42 g43 g44 g45 g46 g47 g48 g49 g50 g51 g52 g53 g54 g55 g56 g57 g58 g59 g60 g61 g62 g63 : Value} : subC (codeOf Try.f18) [1, 0, 1] = .cond (.tmp 16) (subC (codeOf Try.f18) [1, 0, 1, 0]) (subC (codeOf Try.f18) [1, 0, 1, 1]) ∧ okOperand (.tmp 16) = true ∧ evalT #[g0, g1, g2, g3, g4, g5, g6, g7, g8, g9, g10, g11, g12, g13, g14, g15, .bool x16, g17, g18, g19, g20, g21, g22, g23, g24, g25, g26, g27, g28, g29, g30, g31, g32, g33, g34, g35, g36, g37, g38, g39, g40, g41, g42, g43, g44, g45, g46, g47, g48, g49, g50, g51, g52, g53, g54, g55, g56, g57, g58, g59, g60, g61, g62, g63] (.tmp 16) = .bool x16 := ⟨by kernel_rfl, by kernel_rfl, by kernel_rfl⟩
theorem k18_6 : subC (codeOf Try.f18) [1, 0, 1, 0] = .seq (subC (codeOf Try.f18) [1, 0, 1, 0, 0]) (subC (codeOf Try.f18) [1, 0, 1, 0, 1]) := by kernel_rfl
theorem k18_7 : subC (codeOf Try.f18) [1, 0, 1, 0, 0] = .region 2 (opsOf (subC (codeOf Try.f18) [1, 0, 1, 0, 0])) false := by kernel_rfl
theorem r18_2 {g0 g1 g2 g3 g4 g5 g6 g7 g8 g9 g10 g11 g12 g13 g14 g15 g16 g17 g18 g19 g20 g21 g22 g23 g24 g25 g26 g27 g28 g29 g30 g31 g32 g33 g34 g35 g36 g37 g38 g39 g40 g41 g42 g43 g44 g45 g46 g47 g48 g49 g50 g51 g52 g53 g54 g55 g56 g57 g58 g59 g60 g61 g62 g63 : Value} {M : Mem} {call : CallM} {K : Array Value → Mem → R} :
    opsK Try.prog (fun _ => call) (opsOf (subC (codeOf Try.f18) [1, 0, 1, 0, 0])) (opsOf (subC (codeOf Try.f18) [1, 0, 1, 0, 0])).toList 0 #[g0, g1, g2, g3, g4, g5, g6, g7, g8, g9, g10, g11, g12, g13, g14, g15, g16, g17, g18, g19, g20, g21, g22, g23, g24, g25, g26, g27, g28, g29, g30, g31, g32, g33, g34, g35, g36, g37, g38, g39, g40, g41, g42, g43, g44, g45, g46, g47, g48, g49, g50, g51, g52, g53, g54, g55, g56, g57, g58, g59, g60, g61, g62, g63] M K = K #[g0, g1, g2, g3, g4, g5, .int .i64 0, .int .i64 2, g8, g9, g10, g11, g12, g13, g14, g15, g16, g17, g18, g19, g20, g21, g22, g23, g24, g25, g26, g27, g28, g29, g30, g31, g32, g33, g34, g35, g36, g37, g38, g39, g40, g41, g42, g43, g44, g45, g46, g47, g48, g49, g50, g51, g52, g53, g54, g55, g56, g57, g58, g59, g60, g61, g62, g63] M := by kernel_rfl
theorem k18_8 : subC (codeOf Try.f18) [1, 0, 1, 0, 1] = .ret := by kernel_rfl
theorem e18 {g0 g1 g2 g3 g4 g5 g6 g7 g8 g9 g10 g11 g12 g13 g14 g15 g16 g17 g18 g19 g20 g21 g22 g23 g24 g25 g26 g27 g28 g29 g30 g31 g32 g33 g34 g35 g36 g37 g38 g39 g40 g41 g42 g43 g44 g45 g46 g47 g48 g49 g50 g51 g52 g53 g54 g55 g56 g57 g58 g59 g60 g61 g62 g63 : Value} {M : Mem} : finish Try.prog Try.f18 #[g0, g1, g2, g3, g4, g5, g6, g7, g8, g9, g10, g11, g12, g13, g14, g15, g16, g17, g18, g19, g20, g21, g22, g23, g24, g25, g26, g27, g28, g29, g30, g31, g32, g33, g34, g35, g36, g37, g38, g39, g40, g41, g42, g43, g44, g45, g46, g47, g48, g49, g50, g51, g52, g53, g54, g55, g56, g57, g58, g59, g60, g61, g62, g63] M = some (.tuple #[g6, g7], M) := by kernel_rfl
theorem k18_10 : subC (codeOf Try.f18) [1, 0, 1, 1] = .skip := by kernel_rfl
theorem k18_11 : subC (codeOf Try.f18) [1, 1] = .seq (subC (codeOf Try.f18) [1, 1, 0]) (subC (codeOf Try.f18) [1, 1, 1]) := by kernel_rfl
theorem k18_12 : subC (codeOf Try.f18) [1, 1, 0] = .region 3 (opsOf (subC (codeOf Try.f18) [1, 1, 0])) false := by kernel_rfl
theorem r18_3 {x1 : Int} {g0 g2 g3 g4 g5 g6 g7 g8 g9 g10 g11 g12 g13 g14 g15 g16 g17 g18 g19 g20 g21 g22 g23 g24 g25 g26 g27 g28 g29 g30 g31 g32 g33 g34 g35 g36 g37 g38 g39 g40 g41 g42 g43 g44 g45 g46 g47 g48 g49 g50 g51 g52 g53 g54 g55 g56 g57 g58 g59 g60 g61 g62 g63 : Value} {M : Mem} {call : CallM} {K : Array Value → Mem → R} :
    opsK Try.prog (fun _ => call) (opsOf (subC (codeOf Try.f18) [1, 1, 0])) (opsOf (subC (codeOf Try.f18) [1, 1, 0])).toList 0 #[g0, .int .i64 x1, g2, g3, g4, g5, g6, g7, g8, g9, g10, g11, g12, g13, g14, g15, g16, g17, g18, g19, g20, g21, g22, g23, g24, g25, g26, g27, g28, g29, g30, g31, g32, g33, g34, g35, g36, g37, g38, g39, g40, g41, g42, g43, g44, g45, g46, g47, g48, g49, g50, g51, g52, g53, g54, g55, g56, g57, g58, g59, g60, g61, g62, g63] M K = (call 22 #[.int .i64 x1] M).bind fun r_1 => (asI .i64 r_1.1).bind fun x_2 => K #[g0, .int .i64 x1, g2, g3, g4, g5, g6, g7, .int .i64 x_2, g9, g10, g11, g12, g13, g14, g15, g16, .int .i64 x1, .int .i64 x_2, g19, g20, g21, g22, g23, g24, g25, g26, g27, g28, g29, g30, g31, g32, g33, g34, g35, g36, g37, g38, g39, g40, g41, g42, g43, g44, g45, g46, g47, g48, g49, g50, g51, g52, g53, g54, g55, g56, g57, g58, g59, g60, g61, g62, g63] r_1.2 := by kernel_rfl
theorem k18_13 : subC (codeOf Try.f18) [1, 1, 1] = .seq (subC (codeOf Try.f18) [1, 1, 1, 0]) (subC (codeOf Try.f18) [1, 1, 1, 1]) := by kernel_rfl
theorem k18_14 : subC (codeOf Try.f18) [1, 1, 1, 0] = .region 4 (opsOf (subC (codeOf Try.f18) [1, 1, 1, 0])) true ∧ drawOk (opsOf (subC (codeOf Try.f18) [1, 1, 1, 0])) = true := ⟨by kernel_rfl, by kernel_rfl⟩
theorem r18_4 {x2 : Int} {x8 : Int} {g0 g1 g3 g4 g5 g6 g7 g9 g10 g11 g12 g13 g14 g15 g16 g17 g18 g19 g20 g21 g22 g23 g24 g25 g26 g27 g28 g29 g30 g31 g32 g33 g34 g35 g36 g37 g38 g39 g40 g41 g42 g43 g44 g45 g46 g47 g48 g49 g50 g51 g52 g53 g54 g55 g56 g57 g58 g59 g60 g61 g62 g63 : Value} {M : Mem} {call : CallM} {K : Array Value → Mem → R} :
    opsK Try.prog (callAt call (opsOf (subC (codeOf Try.f18) [1, 1, 1, 0]))) (opsOf (subC (codeOf Try.f18) [1, 1, 1, 0])) (opsOf (subC (codeOf Try.f18) [1, 1, 1, 0])).toList 0 #[g0, g1, .int .i64 x2, g3, g4, g5, g6, g7, .int .i64 x8, g9, g10, g11, g12, g13, g14, g15, g16, g17, g18, g19, g20, g21, g22, g23, g24, g25, g26, g27, g28, g29, g30, g31, g32, g33, g34, g35, g36, g37, g38, g39, g40, g41, g42, g43, g44, g45, g46, g47, g48, g49, g50, g51, g52, g53, g54, g55, g56, g57, g58, g59, g60, g61, g62, g63] M K = (binV Try.prog .quo 3 3 (.int .i64 x2) (.int .i64 x8)).bind fun v_1 => (asI .i64 v_1).bind fun x_2 => (binV Try.prog .rem 3 3 (.int .i64 x2) (.int .i64 x8)).bind fun v_3 => (asI .i64 v_3).bind fun x_4 => K #[g0, g1, .int .i64 x2, g3, g4, g5, g6, g7, .int .i64 x8, .int .i64 x_2, .int .i64 x_4, g11, g12, g13, g14, g15, g16, g17, g18, .int .i64 x2, .int .i64 x8, .int .i64 x_2, .int .i64 x2, .int .i64 x8, .int .i64 x_4, g25, g26, g27, g28, g29, g30, g31, g32, g33, g34, g35, g36, g37, g38, g39, g40, g41, g42, g43, g44, g45, g46, g47, g48, g49, g50, g51, g52, g53, g54, g55, g56, g57, g58, g59, g60, g61, g62, g63] M := by kernel_rfl
theorem k18_15 : subC (codeOf Try.f18) [1, 1, 1, 1] = .seq (subC (codeOf Try.f18) [1, 1, 1, 1, 0]) (subC (codeOf Try.f18) [1, 1, 1, 1, 1]) := by kernel_rfl
theorem k18_16 : subC (codeOf Try.f18) [1, 1, 1, 1, 0] = .region 5 (opsOf (subC (codeOf Try.f18) [1, 1, 1, 1, 0])) false := by kernel_rfl
theorem r18_5 {Ax0 : Option Addr} {lx0 : Nat} {cx0 : Nat} {x8 : Int} {x9 : Int} {x10 : Int} {g1 g2 g3 g4 g5 g6 g7 g11 g12 g13 g14 g15 g16 g17 g18 g19 g20 g21 g22 g23 g24 g25 g26 g27 g28 g29 g30 g31 g32 g33 g34 g35 g36 g37 g38 g39 g40 g41 g42 g43 g44 g45 g46 g47 g48 g49 g50 g51 g52 g53 g54 g55 g56 g57 g58 g59 g60 g61 g62 g63 : Value} {M : Mem} {call : CallM} {K : Array Value → Mem → R} :
    opsK Try.prog (fun _ => call) (opsOf (subC (codeOf Try.f18) [1, 1, 1, 1, 0])) (opsOf (subC (codeOf Try.f18) [1, 1, 1, 1, 0])).toList 0 #[.slice Ax0 lx0 cx0, g1, g2, g3, g4, g5, g6, g7, .int .i64 x8, .int .i64 x9, .int .i64 x10, g11, g12, g13, g14, g15, g16, g17, g18, g19, g20, g21, g22, g23, g24, g25, g26, g27, g28, g29, g30, g31, g32, g33, g34, g35, g36, g37, g38, g39, g40, g41, g42, g43, g44, g45, g46, g47, g48, g49, g50, g51, g52, g53, g54, g55, g56, g57, g58, g59, g60, g61, g62, g63] M K = (call 26 #[.slice Ax0 lx0 cx0, .int .i64 x8, .int .i64 x9, .int .i64 (IntKind.i64.wrap (x10 + 1)), .int .i64 3] M).bind fun r_1 => (asI .i64 r_1.1).bind fun x_2 => (call 26 #[.slice Ax0 lx0 cx0, .int .i64 x8, .int .i64 (IntKind.i64.wrap (x9 + 1)), .int .i64 x10, .int .i64 3] r_1.2).bind fun r_3 => (asI .i64 r_3.1).bind fun x_4 => (call 26 #[.slice Ax0 lx0 cx0, .int .i64 x8, .int .i64 (IntKind.i64.wrap (x9 + 1)), .int .i64 (IntKind.i64.wrap (x10 + 1)), .int .i64 3] r_3.2).bind fun r_5 => (asI .i64 r_5.1).bind fun x_6 => (call 26 #[.slice Ax0 lx0 cx0, .int .i64 x8, .int .i64 x9, .int .i64 (IntKind.i64.wrap (x10 + 2)), .int .i64 3] r_5.2).bind fun r_7 => (asI .i64 r_7.1).bind fun x_8 => (call 26 #[.slice Ax0 lx0 cx0, .int .i64 x8, .int .i64 (IntKind.i64.wrap (x9 + 2)), .int .i64 x10, .int .i64 3] r_7.2).bind fun r_9 => (asI .i64 r_9.1).bind fun x_10 => K #[.slice Ax0 lx0 cx0, g1, g2, g3, g4, g5, g6, g7, .int .i64 x8, .int .i64 x9, .int .i64 x10, .int .i64 (IntKind.i64.wrap ((IntKind.i64.wrap ((IntKind.i64.wrap ((IntKind.i64.wrap (x_2 + x_4)) + x_6)) + x_8)) + x_10)), g12, g13, g14, g15, g16, g17, g18, g19, g20, g21, g22, g23, g24, .slice Ax0 lx0 cx0, .int .i64 x8, .int .i64 x9, .int .i64 x10, .int .i64 (IntKind.i64.wrap (x10 + 1)), .int .i64 x_2, .slice Ax0 lx0 cx0, .int .i64 x8, .int .i64 x9, .int .i64 (IntKind.i64.wrap (x9 + 1)), .int .i64 x10, .int .i64 x_4, .int .i64 (IntKind.i64.wrap (x_2 + x_4)), .slice Ax0 lx0 cx0, .int .i64 x8, .int .i64 x9, .int .i64 (IntKind.i64.wrap (x9 + 1)), .int .i64 x10, .int .i64 (IntKind.i64.wrap (x10 + 1)), .int .i64 x_6, .int .i64 (IntKind.i64.wrap ((IntKind.i64.wrap (x_2 + x_4)) + x_6)), .slice Ax0 lx0 cx0, .int .i64 x8, .int .i64 x9, .int .i64 x10, .int .i64 (IntKind.i64.wrap (x10 + 2)), .int .i64 x_8, .int .i64 (IntKind.i64.wrap ((IntKind.i64.wrap ((IntKind.i64.wrap (x_2 + x_4)) + x_6)) + x_8)), .slice Ax0 lx0 cx0, .int .i64 x8, .int .i64 x9, .int .i64 (IntKind.i64.wrap (x9 + 2)), .int .i64 x10, .int .i64 x_10, .int .i64 (IntKind.i64.wrap ((IntKind.i64.wrap ((IntKind.i64.wrap ((IntKind.i64.wrap (x_2 + x_4)) + x_6)) + x_8)) + x_10)), g60, g61, g62, g63] r_9.2 := by kernel_rfl
theorem k18_17 : subC (codeOf Try.f18) [1, 1, 1, 1, 1] = .seq (subC (codeOf Try.f18) [1, 1, 1, 1, 1, 0]) (subC (codeOf Try.f18) [1, 1, 1, 1, 1, 1]) := by kernel_rfl
theorem k18_18 : subC (codeOf Try.f18) [1, 1, 1, 1, 1, 0] = .region 6 (opsOf (subC (codeOf Try.f18) [1, 1, 1, 1, 1, 0])) false := by kernel_rfl
theorem r18_6 {x11 : Int} {g0 g1 g2 g3 g4 g5 g6 g7 g8 g9 g10 g12 g13 g14 g15 g16 g17 g18 g19 g20 g21 g22 g23 g24 g25 g26 g27 g28 g29 g30 g31 g32 g33 g34 g35 g36 g37 g38 g39 g40 g41 g42 g43 g44 g45 g46 g47 g48 g49 g50 g51 g52 g53 g54 g55 g56 g57 g58 g59 g60 g61 g62 g63 : Value} {M : Mem} {call : CallM} {K : Array Value → Mem → R} :
    opsK Try.prog (fun _ => call) (opsOf (subC (codeOf Try.f18) [1, 1, 1, 1, 1, 0])) (opsOf (subC (codeOf Try.f18) [1, 1, 1, 1, 1, 0])).toList 0 #[g0, g1, g2, g3, g4, g5, g6, g7, g8, g9, g10, .int .i64 x11, g12, g13, g14, g15, g16, g17, g18, g19, g20, g21, g22, g23, g24, g25, g26, g27, g28, g29, g30, g31, g32, g33, g34, g35, g36, g37, g38, g39, g40, g41, g42, g43, g44, g45, g46, g47, g48, g49, g50, g51, g52, g53, g54, g55, g56, g57, g58, g59, g60, g61, g62, g63] M K = K #[g0, g1, g2, g3, g4, g5, .int .i64 (if IntKind.i64.wrap ((IntKind.i64.wrap (x11 + 1)).tdiv 2) < 4 then IntKind.i64.wrap ((IntKind.i64.wrap (x11 + 1)).tdiv 2) else 4), .int .i64 0, g8, g9, g10, .int .i64 x11, g12, g13, g14, g15, g16, g17, g18, g19, g20, g21, g22, g23, g24, g25, g26, g27, g28, g29, g30, g31, g32, g33, g34, g35, g36, g37, g38, g39, g40, g41, g42, g43, g44, g45, g46, g47, g48, g49, g50, g51, g52, g53, g54, g55, g56, g57, g58, g59, .int .i64 x11, .int .i64 (IntKind.i64.wrap (x11 + 1)), .int .i64 (IntKind.i64.wrap ((IntKind.i64.wrap (x11 + 1)).tdiv 2)), .int .i64 (if IntKind.i64.wrap ((IntKind.i64.wrap (x11 + 1)).tdiv 2) < 4 then IntKind.i64.wrap ((IntKind.i64.wrap (x11 + 1)).tdiv 2) else 4)] M := by kernel_rfl
theorem k18_19 : subC (codeOf Try.f18) [1, 1, 1, 1, 1, 1] = .ret := by kernel_rfl
theorem w18_0 {Ax0 : Option Addr} {lx0 : Nat} {cx0 : Nat} {x1 : Int} {x2 : Int} {M : Mem} {Q : Value → Mem → Prop} (H :
    Cn Try.prog 25 #[.slice Ax0 lx0 cx0, .int .i64 x1, .int .i64 x2] M fun v1' N1' =>
     ∃ b2', asB v1' = some b2' ∧
     (((!b2') = true →
      Q (.tuple #[.int .i64 0, .int .i64 2]) N1') ∧
      ((!b2') = false →
      Cn Try.prog 22 #[.int .i64 x1] N1' fun v3' N3' =>
       ∃ x4', asI .i64 v3' = some x4' ∧
       ∃ v5', binV Try.prog .quo 3 3 (.int .i64 x2) (.int .i64 x4') = some v5' ∧
       ∃ x6', asI .i64 v5' = some x6' ∧
       ∃ v7', binV Try.prog .rem 3 3 (.int .i64 x2) (.int .i64 x4') = some v7' ∧
       ∃ x8', asI .i64 v7' = some x8' ∧
       Cn Try.prog 26 #[.slice Ax0 lx0 cx0, .int .i64 x4', .int .i64 x6', .int .i64 (IntKind.i64.wrap (x8' + 1)), .int .i64 3] N3' fun v9' N9' =>
        ∃ x10', asI .i64 v9' = some x10' ∧
        Cn Try.prog 26 #[.slice Ax0 lx0 cx0, .int .i64 x4', .int .i64 (IntKind.i64.wrap (x6' + 1)), .int .i64 x8', .int .i64 3] N9' fun v11' N11' =>
         ∃ x12', asI .i64 v11' = some x12' ∧
         Cn Try.prog 26 #[.slice Ax0 lx0 cx0, .int .i64 x4', .int .i64 (IntKind.i64.wrap (x6' + 1)), .int .i64 (IntKind.i64.wrap (x8' + 1)), .int .i64 3] N11' fun v13' N13' =>
          ∃ x14', asI .i64 v13' = some x14' ∧
          Cn Try.prog 26 #[.slice Ax0 lx0 cx0, .int .i64 x4', .int .i64 x6', .int .i64 (IntKind.i64.wrap (x8' + 2)), .int .i64 3] N13' fun v15' N15' =>
           ∃ x16', asI .i64 v15' = some x16' ∧
           Cn Try.prog 26 #[.slice Ax0 lx0 cx0, .int .i64 x4', .int .i64 (IntKind.i64.wrap (x6' + 2)), .int .i64 x8', .int .i64 3] N15' fun v17' N17' =>
            ∃ x18', asI .i64 v17' = some x18' ∧
            Q (.tuple #[.int .i64 (if IntKind.i64.wrap ((IntKind.i64.wrap ((IntKind.i64.wrap ((IntKind.i64.wrap ((IntKind.i64.wrap ((IntKind.i64.wrap (x10' + x12')) + x14')) + x16')) + x18')) + 1)).tdiv 2) < 4 then IntKind.i64.wrap ((IntKind.i64.wrap ((IntKind.i64.wrap ((IntKind.i64.wrap ((IntKind.i64.wrap ((IntKind.i64.wrap (x10' + x12')) + x14')) + x16')) + x18')) + 1)).tdiv 2) else 4), .int .i64 0]) N17'))) :
    Cn Try.prog 18 #[.slice Ax0 lx0 cx0, .int .i64 x1, .int .i64 x2] M Q := by
  refine Cn.of b18 d18 t18 ?_
  refine Rn.seq k18_0 ?_
  refine Rn.region k18_1 (fun call K => r18_0) ?_
  refine Rch.leaf ?_
  refine Rn.seq k18_2 ?_
  refine Rn.seq k18_3 ?_
  refine Rn.region k18_4 (fun call K => r18_1) ?_
  refine Rch.call H (fun v1' N1' H => ?_)
  obtain ⟨b2', hb2', H⟩ := H
  refine Rch.bind hb2' ?_
  refine Rch.leaf ?_
  refine Rn.cnd c18_5 (fun h => ?_) (fun h => ?_)
  · replace H := H.1 (h)
    refine Rn.seq k18_6 ?_
    refine Rn.region k18_7 (fun call K => r18_2) ?_
    refine Rch.leaf ?_
    exact Rn.ret k18_8 e18 H
  · replace H := H.2 (h)
    refine Rn.skip k18_10 ?_
    refine Rn.seq k18_11 ?_
    refine Rn.region k18_12 (fun call K => r18_3) ?_
    refine Rch.call H (fun v3' N3' H => ?_)
    obtain ⟨x4', hx4', H⟩ := H
    refine Rch.bind hx4' ?_
    refine Rch.leaf ?_
    refine Rn.seq k18_13 ?_
    refine Rn.regionD k18_14 (fun call K => r18_4) ?_
    obtain ⟨v5', hv5', H⟩ := H
    refine Rch.bind hv5' ?_
    obtain ⟨x6', hx6', H⟩ := H
    refine Rch.bind hx6' ?_
    obtain ⟨v7', hv7', H⟩ := H
    refine Rch.bind hv7' ?_
    obtain ⟨x8', hx8', H⟩ := H
    refine Rch.bind hx8' ?_
    refine Rch.leaf ?_
    refine Rn.seq k18_15 ?_
    refine Rn.region k18_16 (fun call K => r18_5) ?_
    refine Rch.call H (fun v9' N9' H => ?_)
    obtain ⟨x10', hx10', H⟩ := H
    refine Rch.bind hx10' ?_
    refine Rch.call H (fun v11' N11' H => ?_)
    obtain ⟨x12', hx12', H⟩ := H
    refine Rch.bind hx12' ?_
    refine Rch.call H (fun v13' N13' H => ?_)
    obtain ⟨x14', hx14', H⟩ := H
    refine Rch.bind hx14' ?_
    refine Rch.call H (fun v15' N15' H => ?_)
    obtain ⟨x16', hx16', H⟩ := H
    refine Rch.bind hx16' ?_
    refine Rch.call H (fun v17' N17' H => ?_)
    obtain ⟨x18', hx18', H⟩ := H
    refine Rch.bind hx18' ?_
    refine Rch.leaf ?_
    refine Rn.seq k18_17 ?_
    refine Rn.region k18_18 (fun call K => r18_6) ?_
    refine Rch.leaf ?_
    exact Rn.ret k18_19 e18 H


/-! ### zoetrope/scan.More: function 19 -/
theorem b19 : Try.prog.funcs[19]? = some Try.f19 := by kernel_rfl
theorem d19 : Try.f19.body = some (subC (codeOf Try.f19) []) := by kernel_rfl
theorem t19 {Ax0 : Option Addr} {lx0 : Nat} {cx0 : Nat} {x1 : Int} {x2 : Int} : #[.slice Ax0 lx0 cx0, .int .i64 x1, .int .i64 x2] ++ Array.replicate (Try.f19.ntmps - (#[.slice Ax0 lx0 cx0, .int .i64 x1, .int .i64 x2] : Array Value).size) undef = #[.slice Ax0 lx0 cx0, .int .i64 x1, .int .i64 x2, undef, undef, undef, undef, undef, undef, undef, undef, undef, undef, undef, undef, undef, undef, undef] := by kernel_rfl
theorem k19_0 : subC (codeOf Try.f19) [] = .seq (subC (codeOf Try.f19) [0]) (subC (codeOf Try.f19) [1]) := by kernel_rfl
theorem k19_1 : subC (codeOf Try.f19) [0] = .region 0 (opsOf (subC (codeOf Try.f19) [0])) false := by kernel_rfl
theorem r19_0 {g0 g1 g2 g3 g4 g5 g6 g7 g8 g9 g10 g11 g12 g13 g14 g15 g16 g17 : Value} {M : Mem} {call : CallM} {K : Array Value → Mem → R} :
    opsK Try.prog (fun _ => call) (opsOf (subC (codeOf Try.f19) [0])) (opsOf (subC (codeOf Try.f19) [0])).toList 0 #[g0, g1, g2, g3, g4, g5, g6, g7, g8, g9, g10, g11, g12, g13, g14, g15, g16, g17] M K = K #[g0, g1, g2, g3, g4, g5, .int .i64 0, .int .i64 0, g8, g9, g10, g11, g12, g13, g14, g15, g16, g17] M := by kernel_rfl
theorem k19_2 : subC (codeOf Try.f19) [1] = .seq (subC (codeOf Try.f19) [1, 0]) (subC (codeOf Try.f19) [1, 1]) := by kernel_rfl
theorem k19_3 : subC (codeOf Try.f19) [1, 0] = .region 1 (opsOf (subC (codeOf Try.f19) [1, 0])) false := by kernel_rfl
theorem r19_1 {Ax0 : Option Addr} {lx0 : Nat} {cx0 : Nat} {x1 : Int} {x2 : Int} {g3 g4 g5 g6 g7 g8 g9 g10 g11 g12 g13 g14 g15 g16 g17 : Value} {M : Mem} {call : CallM} {K : Array Value → Mem → R} :
    opsK Try.prog (fun _ => call) (opsOf (subC (codeOf Try.f19) [1, 0])) (opsOf (subC (codeOf Try.f19) [1, 0])).toList 0 #[.slice Ax0 lx0 cx0, .int .i64 x1, .int .i64 x2, g3, g4, g5, g6, g7, g8, g9, g10, g11, g12, g13, g14, g15, g16, g17] M K = (call 24 #[.slice Ax0 lx0 cx0, .int .i64 x1, .int .i64 x2, .int .i64 15, .int .i64 6, .slice (some ⟨2 * M.nb.size, 0, none⟩) 3 3] (M.new (.cells #[.int .i64 0, .int .i64 1, .int .i64 1, .int .i64 0, .int .i64 1, .int .i64 1] 43))).bind fun r_1 => (asU 2 r_1.1).bind fun cs_2 => (asI .i64 (cs_2.getD 0 undef)).bind fun x_3 => (asI .i64 (cs_2.getD 1 undef)).bind fun x_4 => K #[.slice Ax0 lx0 cx0, .int .i64 x1, .int .i64 x2, g3, g4, g5, .int .i64 x_3, .int .i64 x_4, .slice Ax0 lx0 cx0, .int .i64 x1, .int .i64 x2, .agg #[.int .i64 0, .int .i64 1], .agg #[.int .i64 1, .int .i64 0], .agg #[.int .i64 1, .int .i64 1], .slice (some ⟨2 * M.nb.size, 0, none⟩) 3 3, .tuple #[.int .i64 x_3, .int .i64 x_4], .int .i64 x_3, .int .i64 x_4] r_1.2 := by kernel_rfl
theorem k19_4 : subC (codeOf Try.f19) [1, 1] = .ret := by kernel_rfl
theorem e19 {g0 g1 g2 g3 g4 g5 g6 g7 g8 g9 g10 g11 g12 g13 g14 g15 g16 g17 : Value} {M : Mem} : finish Try.prog Try.f19 #[g0, g1, g2, g3, g4, g5, g6, g7, g8, g9, g10, g11, g12, g13, g14, g15, g16, g17] M = some (.tuple #[g6, g7], M) := by kernel_rfl
theorem w19_0 {Ax0 : Option Addr} {lx0 : Nat} {cx0 : Nat} {x1 : Int} {x2 : Int} {M : Mem} {Q : Value → Mem → Prop} (H :
    Cn Try.prog 24 #[.slice Ax0 lx0 cx0, .int .i64 x1, .int .i64 x2, .int .i64 15, .int .i64 6, .slice (some ⟨2 * M.nb.size, 0, none⟩) 3 3] (M.new (.cells #[.int .i64 0, .int .i64 1, .int .i64 1, .int .i64 0, .int .i64 1, .int .i64 1] 43)) fun v1' N1' =>
     ∃ cs2', asU 2 v1' = some cs2' ∧
     ∃ x3', asI .i64 (cs2'.getD 0 undef) = some x3' ∧
     ∃ x4', asI .i64 (cs2'.getD 1 undef) = some x4' ∧
     Q (.tuple #[.int .i64 (x3'), .int .i64 (x4')]) N1') :
    Cn Try.prog 19 #[.slice Ax0 lx0 cx0, .int .i64 x1, .int .i64 x2] M Q := by
  refine Cn.of b19 d19 t19 ?_
  refine Rn.seq k19_0 ?_
  refine Rn.region k19_1 (fun call K => r19_0) ?_
  refine Rch.leaf ?_
  refine Rn.seq k19_2 ?_
  refine Rn.region k19_3 (fun call K => r19_1) ?_
  refine Rch.call H (fun v1' N1' H => ?_)
  obtain ⟨cs2', hcs2', H⟩ := H
  refine Rch.bind hcs2' ?_
  obtain ⟨x3', hx3', H⟩ := H
  refine Rch.bind hx3' ?_
  obtain ⟨x4', hx4', H⟩ := H
  refine Rch.bind hx4' ?_
  refine Rch.leaf ?_
  exact Rn.ret k19_4 e19 H


/-! ### zoetrope/zoetroperef10.More: function 20 -/
theorem b20 : Try.prog.funcs[20]? = some Try.f20 := by kernel_rfl
theorem d20 : Try.f20.body = some (subC (codeOf Try.f20) []) := by kernel_rfl
theorem t20 {Ax0 : Option Addr} {lx0 : Nat} {cx0 : Nat} {x1 : Int} {x2 : Int} : #[.slice Ax0 lx0 cx0, .int .i64 x1, .int .i64 x2] ++ Array.replicate (Try.f20.ntmps - (#[.slice Ax0 lx0 cx0, .int .i64 x1, .int .i64 x2] : Array Value).size) undef = #[.slice Ax0 lx0 cx0, .int .i64 x1, .int .i64 x2, undef, undef, undef, undef, undef, undef, undef, undef, undef, undef, undef, undef, undef, undef, undef, undef, undef, undef, undef, undef, undef, undef, undef, undef, undef, undef, undef, undef, undef, undef, undef, undef, undef, undef, undef, undef, undef, undef, undef, undef, undef, undef, undef, undef, undef, undef, undef] := by kernel_rfl
theorem k20_0 : subC (codeOf Try.f20) [] = .seq (subC (codeOf Try.f20) [0]) (subC (codeOf Try.f20) [1]) := by kernel_rfl
theorem k20_1 : subC (codeOf Try.f20) [0] = .region 0 (opsOf (subC (codeOf Try.f20) [0])) false := by kernel_rfl
theorem r20_0 {g0 g1 g2 g3 g4 g5 g6 g7 g8 g9 g10 g11 g12 g13 g14 g15 g16 g17 g18 g19 g20 g21 g22 g23 g24 g25 g26 g27 g28 g29 g30 g31 g32 g33 g34 g35 g36 g37 g38 g39 g40 g41 g42 g43 g44 g45 g46 g47 g48 g49 : Value} {M : Mem} {call : CallM} {K : Array Value → Mem → R} :
    opsK Try.prog (fun _ => call) (opsOf (subC (codeOf Try.f20) [0])) (opsOf (subC (codeOf Try.f20) [0])).toList 0 #[g0, g1, g2, g3, g4, g5, g6, g7, g8, g9, g10, g11, g12, g13, g14, g15, g16, g17, g18, g19, g20, g21, g22, g23, g24, g25, g26, g27, g28, g29, g30, g31, g32, g33, g34, g35, g36, g37, g38, g39, g40, g41, g42, g43, g44, g45, g46, g47, g48, g49] M K = K #[g0, g1, g2, g3, g4, g5, .int .i64 0, .int .i64 0, g8, g9, g10, g11, g12, g13, g14, g15, g16, g17, g18, g19, g20, g21, g22, g23, g24, g25, g26, g27, g28, g29, g30, g31, g32, g33, g34, g35, g36, g37, g38, g39, g40, g41, g42, g43, g44, g45, g46, g47, g48, g49] M := by kernel_rfl
theorem k20_2 : subC (codeOf Try.f20) [1] = .seq (subC (codeOf Try.f20) [1, 0]) (subC (codeOf Try.f20) [1, 1]) := by kernel_rfl
theorem k20_3 : subC (codeOf Try.f20) [1, 0] = .seq (subC (codeOf Try.f20) [1, 0, 0]) (subC (codeOf Try.f20) [1, 0, 1]) := by kernel_rfl
theorem k20_4 : subC (codeOf Try.f20) [1, 0, 0] = .region 1 (opsOf (subC (codeOf Try.f20) [1, 0, 0])) false := by kernel_rfl
theorem r20_1 {Ax0 : Option Addr} {lx0 : Nat} {cx0 : Nat} {x1 : Int} {x2 : Int} {g3 g4 g5 g6 g7 g8 g9 g10 g11 g12 g13 g14 g15 g16 g17 g18 g19 g20 g21 g22 g23 g24 g25 g26 g27 g28 g29 g30 g31 g32 g33 g34 g35 g36 g37 g38 g39 g40 g41 g42 g43 g44 g45 g46 g47 g48 g49 : Value} {M : Mem} {call : CallM} {K : Array Value → Mem → R} :
    opsK Try.prog (fun _ => call) (opsOf (subC (codeOf Try.f20) [1, 0, 0])) (opsOf (subC (codeOf Try.f20) [1, 0, 0])).toList 0 #[.slice Ax0 lx0 cx0, .int .i64 x1, .int .i64 x2, g3, g4, g5, g6, g7, g8, g9, g10, g11, g12, g13, g14, g15, g16, g17, g18, g19, g20, g21, g22, g23, g24, g25, g26, g27, g28, g29, g30, g31, g32, g33, g34, g35, g36, g37, g38, g39, g40, g41, g42, g43, g44, g45, g46, g47, g48, g49] M K = (call 25 #[.slice Ax0 lx0 cx0, .int .i64 x1, .int .i64 x2] M).bind fun r_1 => (asB r_1.1).bind fun b_2 => K #[.slice Ax0 lx0 cx0, .int .i64 x1, .int .i64 x2, g3, g4, g5, g6, g7, g8, g9, g10, g11, .slice Ax0 lx0 cx0, .int .i64 x1, .int .i64 x2, .bool b_2, .bool (!b_2), g17, g18, g19, g20, g21, g22, g23, g24, g25, g26, g27, g28, g29, g30, g31, g32, g33, g34, g35, g36, g37, g38, g39, g40, g41, g42, g43, g44, g45, g46, g47, g48, g49] r_1.2 := by kernel_rfl
theorem c20_5 {x16 : Bool} {g0 g1 g2 g3 g4 g5 g6 g7 g8 g9 g10 g11 g12 g13 g14 g15 g17 g18 g19 g20 g21 g22 g23 g24 g25 g26 g27 g28 g29 g30 g31 g32 g33 g34 g35 g36 g37 g38 g39 g40 g41 g42 g43 g44 g45 g46 g47 g48 g49 : Value} : subC (codeOf Try.f20) [1, 0, 1] = .cond (.tmp 16) (subC (codeOf Try.f20) [1, 0, 1, 0]) (subC (codeOf Try.f20) [1, 0, 1, 1]) ∧ okOperand (.tmp 16) = true ∧ evalT #[g0, g1, g2, g3, g4, g5, g6, g7, g8, g9, g10, g11, g12, g13, g14, g15, .bool x16, g17, g18, g19, g20, g21, g22, g23, g24, g25, g26, g27, g28, g29, g30, g31, g32, g33, g34, g35, g36, g37, g38, g39, g40, g41, g42, g43, g44, g45, g46, g47, g48, g49] (.tmp 16) = .bool x16 := ⟨by kernel_rfl, by kernel_rfl, by kernel_rfl⟩
theorem k20_6 : subC (codeOf Try.f20) [1, 0, 1, 0] = .seq (subC (codeOf Try.f20) [1, 0, 1, 0, 0]) (subC (codeOf Try.f20) [1, 0, 1, 0, 1]) := by kernel_rfl
theorem k20_7 : subC (codeOf Try.f20) [1, 0, 1, 0, 0] = .region 2 (opsOf (subC (codeOf Try.f20) [1, 0, 1, 0, 0])) false := by kernel_rfl
theorem r20_2 {g0 g1 g2 g3 g4 g5 g6 g7 g8 g9 g10 g11 g12 g13 g14 g15 g16 g17 g18 g19 g20 g21 g22 g23 g24 g25 g26 g27 g28 g29 g30 g31 g32 g33 g34 g35 g36 g37 g38 g39 g40 g41 g42 g43 g44 g45 g46 g47 g48 g49 : Value} {M : Mem} {call : CallM} {K : Array Value → Mem → R} :
    opsK Try.prog (fun _ => call) (opsOf (subC (codeOf Try.f20) [1, 0, 1, 0, 0])) (opsOf (subC (codeOf Try.f20) [1, 0, 1, 0, 0])).toList 0 #[g0, g1, g2, g3, g4, g5, g6, g7, g8, g9, g10, g11, g12, g13, g14, g15, g16, g17, g18, g19, g20, g21, g22, g23, g24, g25, g26, g27, g28, g29, g30, g31, g32, g33, g34, g35, g36, g37, g38, g39, g40, g41, g42, g43, g44, g45, g46, g47, g48, g49] M K = K #[g0, g1, g2, g3, g4, g5, .int .i64 0, .int .i64 2, g8, g9, g10, g11, g12, g13, g14, g15, g16, g17, g18, g19, g20, g21, g22, g23, g24, g25, g26, g27, g28, g29, g30, g31, g32, g33, g34, g35, g36, g37, g38, g39, g40, g41, g42, g43, g44, g45, g46, g47, g48, g49] M := by kernel_rfl
theorem k20_8 : subC (codeOf Try.f20) [1, 0, 1, 0, 1] = .ret := by kernel_rfl
theorem e20 {g0 g1 g2 g3 g4 g5 g6 g7 g8 g9 g10 g11 g12 g13 g14 g15 g16 g17 g18 g19 g20 g21 g22 g23 g24 g25 g26 g27 g28 g29 g30 g31 g32 g33 g34 g35 g36 g37 g38 g39 g40 g41 g42 g43 g44 g45 g46 g47 g48 g49 : Value} {M : Mem} : finish Try.prog Try.f20 #[g0, g1, g2, g3, g4, g5, g6, g7, g8, g9, g10, g11, g12, g13, g14, g15, g16, g17, g18, g19, g20, g21, g22, g23, g24, g25, g26, g27, g28, g29, g30, g31, g32, g33, g34, g35, g36, g37, g38, g39, g40, g41, g42, g43, g44, g45, g46, g47, g48, g49] M = some (.tuple #[g6, g7], M) := by kernel_rfl
theorem k20_10 : subC (codeOf Try.f20) [1, 0, 1, 1] = .skip := by kernel_rfl
theorem k20_11 : subC (codeOf Try.f20) [1, 1] = .seq (subC (codeOf Try.f20) [1, 1, 0]) (subC (codeOf Try.f20) [1, 1, 1]) := by kernel_rfl
theorem k20_12 : subC (codeOf Try.f20) [1, 1, 0] = .region 3 (opsOf (subC (codeOf Try.f20) [1, 1, 0])) false := by kernel_rfl
theorem r20_3 {x1 : Int} {g0 g2 g3 g4 g5 g6 g7 g8 g9 g10 g11 g12 g13 g14 g15 g16 g17 g18 g19 g20 g21 g22 g23 g24 g25 g26 g27 g28 g29 g30 g31 g32 g33 g34 g35 g36 g37 g38 g39 g40 g41 g42 g43 g44 g45 g46 g47 g48 g49 : Value} {M : Mem} {call : CallM} {K : Array Value → Mem → R} :
    opsK Try.prog (fun _ => call) (opsOf (subC (codeOf Try.f20) [1, 1, 0])) (opsOf (subC (codeOf Try.f20) [1, 1, 0])).toList 0 #[g0, .int .i64 x1, g2, g3, g4, g5, g6, g7, g8, g9, g10, g11, g12, g13, g14, g15, g16, g17, g18, g19, g20, g21, g22, g23, g24, g25, g26, g27, g28, g29, g30, g31, g32, g33, g34, g35, g36, g37, g38, g39, g40, g41, g42, g43, g44, g45, g46, g47, g48, g49] M K = (call 22 #[.int .i64 x1] M).bind fun r_1 => (asI .i64 r_1.1).bind fun x_2 => K #[g0, .int .i64 x1, g2, g3, g4, g5, g6, g7, .int .i64 x_2, g9, g10, g11, g12, g13, g14, g15, g16, .int .i64 x1, .int .i64 x_2, g19, g20, g21, g22, g23, g24, g25, g26, g27, g28, g29, g30, g31, g32, g33, g34, g35, g36, g37, g38, g39, g40, g41, g42, g43, g44, g45, g46, g47, g48, g49] r_1.2 := by kernel_rfl
theorem k20_13 : subC (codeOf Try.f20) [1, 1, 1] = .seq (subC (codeOf Try.f20) [1, 1, 1, 0]) (subC (codeOf Try.f20) [1, 1, 1, 1]) := by kernel_rfl
theorem k20_14 : subC (codeOf Try.f20) [1, 1, 1, 0] = .region 4 (opsOf (subC (codeOf Try.f20) [1, 1, 1, 0])) true ∧ drawOk (opsOf (subC (codeOf Try.f20) [1, 1, 1, 0])) = true := ⟨by kernel_rfl, by kernel_rfl⟩
theorem r20_4 {x2 : Int} {x8 : Int} {g0 g1 g3 g4 g5 g6 g7 g9 g10 g11 g12 g13 g14 g15 g16 g17 g18 g19 g20 g21 g22 g23 g24 g25 g26 g27 g28 g29 g30 g31 g32 g33 g34 g35 g36 g37 g38 g39 g40 g41 g42 g43 g44 g45 g46 g47 g48 g49 : Value} {M : Mem} {call : CallM} {K : Array Value → Mem → R} :
    opsK Try.prog (callAt call (opsOf (subC (codeOf Try.f20) [1, 1, 1, 0]))) (opsOf (subC (codeOf Try.f20) [1, 1, 1, 0])) (opsOf (subC (codeOf Try.f20) [1, 1, 1, 0])).toList 0 #[g0, g1, .int .i64 x2, g3, g4, g5, g6, g7, .int .i64 x8, g9, g10, g11, g12, g13, g14, g15, g16, g17, g18, g19, g20, g21, g22, g23, g24, g25, g26, g27, g28, g29, g30, g31, g32, g33, g34, g35, g36, g37, g38, g39, g40, g41, g42, g43, g44, g45, g46, g47, g48, g49] M K = (binV Try.prog .quo 3 3 (.int .i64 x2) (.int .i64 x8)).bind fun v_1 => (asI .i64 v_1).bind fun x_2 => (binV Try.prog .rem 3 3 (.int .i64 x2) (.int .i64 x8)).bind fun v_3 => (asI .i64 v_3).bind fun x_4 => K #[g0, g1, .int .i64 x2, g3, g4, g5, g6, g7, .int .i64 x8, .int .i64 x_2, .int .i64 x_4, g11, g12, g13, g14, g15, g16, g17, g18, .int .i64 x2, .int .i64 x8, .int .i64 x_2, .int .i64 x2, .int .i64 x8, .int .i64 x_4, g25, g26, g27, g28, g29, g30, g31, g32, g33, g34, g35, g36, g37, g38, g39, g40, g41, g42, g43, g44, g45, g46, g47, g48, g49] M := by kernel_rfl
theorem k20_15 : subC (codeOf Try.f20) [1, 1, 1, 1] = .seq (subC (codeOf Try.f20) [1, 1, 1, 1, 0]) (subC (codeOf Try.f20) [1, 1, 1, 1, 1]) := by kernel_rfl
theorem k20_16 : subC (codeOf Try.f20) [1, 1, 1, 1, 0] = .region 5 (opsOf (subC (codeOf Try.f20) [1, 1, 1, 1, 0])) false := by kernel_rfl
theorem r20_5 {Ax0 : Option Addr} {lx0 : Nat} {cx0 : Nat} {x8 : Int} {x9 : Int} {x10 : Int} {g1 g2 g3 g4 g5 g6 g7 g11 g12 g13 g14 g15 g16 g17 g18 g19 g20 g21 g22 g23 g24 g25 g26 g27 g28 g29 g30 g31 g32 g33 g34 g35 g36 g37 g38 g39 g40 g41 g42 g43 g44 g45 g46 g47 g48 g49 : Value} {M : Mem} {call : CallM} {K : Array Value → Mem → R} :
    opsK Try.prog (fun _ => call) (opsOf (subC (codeOf Try.f20) [1, 1, 1, 1, 0])) (opsOf (subC (codeOf Try.f20) [1, 1, 1, 1, 0])).toList 0 #[.slice Ax0 lx0 cx0, g1, g2, g3, g4, g5, g6, g7, .int .i64 x8, .int .i64 x9, .int .i64 x10, g11, g12, g13, g14, g15, g16, g17, g18, g19, g20, g21, g22, g23, g24, g25, g26, g27, g28, g29, g30, g31, g32, g33, g34, g35, g36, g37, g38, g39, g40, g41, g42, g43, g44, g45, g46, g47, g48, g49] M K = (call 26 #[.slice Ax0 lx0 cx0, .int .i64 x8, .int .i64 x9, .int .i64 (IntKind.i64.wrap (x10 + 1)), .int .i64 15] M).bind fun r_1 => (asI .i64 r_1.1).bind fun x_2 => (call 26 #[.slice Ax0 lx0 cx0, .int .i64 x8, .int .i64 (IntKind.i64.wrap (x9 + 1)), .int .i64 x10, .int .i64 15] r_1.2).bind fun r_3 => (asI .i64 r_3.1).bind fun x_4 => (call 26 #[.slice Ax0 lx0 cx0, .int .i64 x8, .int .i64 (IntKind.i64.wrap (x9 + 1)), .int .i64 (IntKind.i64.wrap (x10 + 1)), .int .i64 15] r_3.2).bind fun r_5 => (asI .i64 r_5.1).bind fun x_6 => K #[.slice Ax0 lx0 cx0, g1, g2, g3, g4, g5, g6, g7, .int .i64 x8, .int .i64 x9, .int .i64 x10, .int .i64 (IntKind.i64.wrap ((IntKind.i64.wrap (x_2 + x_4)) + x_6)), g12, g13, g14, g15, g16, g17, g18, g19, g20, g21, g22, g23, g24, .slice Ax0 lx0 cx0, .int .i64 x8, .int .i64 x9, .int .i64 x10, .int .i64 (IntKind.i64.wrap (x10 + 1)), .int .i64 x_2, .slice Ax0 lx0 cx0, .int .i64 x8, .int .i64 x9, .int .i64 (IntKind.i64.wrap (x9 + 1)), .int .i64 x10, .int .i64 x_4, .int .i64 (IntKind.i64.wrap (x_2 + x_4)), .slice Ax0 lx0 cx0, .int .i64 x8, .int .i64 x9, .int .i64 (IntKind.i64.wrap (x9 + 1)), .int .i64 x10, .int .i64 (IntKind.i64.wrap (x10 + 1)), .int .i64 x_6, .int .i64 (IntKind.i64.wrap ((IntKind.i64.wrap (x_2 + x_4)) + x_6)), g46, g47, g48, g49] r_5.2 := by kernel_rfl
theorem k20_17 : subC (codeOf Try.f20) [1, 1, 1, 1, 1] = .seq (subC (codeOf Try.f20) [1, 1, 1, 1, 1, 0]) (subC (codeOf Try.f20) [1, 1, 1, 1, 1, 1]) := by kernel_rfl
theorem k20_18 : subC (codeOf Try.f20) [1, 1, 1, 1, 1, 0] = .region 6 (opsOf (subC (codeOf Try.f20) [1, 1, 1, 1, 1, 0])) false := by kernel_rfl
theorem r20_6 {x11 : Int} {g0 g1 g2 g3 g4 g5 g6 g7 g8 g9 g10 g12 g13 g14 g15 g16 g17 g18 g19 g20 g21 g22 g23 g24 g25 g26 g27 g28 g29 g30 g31 g32 g33 g34 g35 g36 g37 g38 g39 g40 g41 g42 g43 g44 g45 g46 g47 g48 g49 : Value} {M : Mem} {call : CallM} {K : Array Value → Mem → R} :
    opsK Try.prog (fun _ => call) (opsOf (subC (codeOf Try.f20) [1, 1, 1, 1, 1, 0])) (opsOf (subC (codeOf Try.f20) [1, 1, 1, 1, 1, 0])).toList 0 #[g0, g1, g2, g3, g4, g5, g6, g7, g8, g9, g10, .int .i64 x11, g12, g13, g14, g15, g16, g17, g18, g19, g20, g21, g22, g23, g24, g25, g26, g27, g28, g29, g30, g31, g32, g33, g34, g35, g36, g37, g38, g39, g40, g41, g42, g43, g44, g45, g46, g47, g48, g49] M K = K #[g0, g1, g2, g3, g4, g5, .int .i64 (if IntKind.i64.wrap ((IntKind.i64.wrap (x11 + 1)).tdiv 2) < 6 then IntKind.i64.wrap ((IntKind.i64.wrap (x11 + 1)).tdiv 2) else 6), .int .i64 0, g8, g9, g10, .int .i64 x11, g12, g13, g14, g15, g16, g17, g18, g19, g20, g21, g22, g23, g24, g25, g26, g27, g28, g29, g30, g31, g32, g33, g34, g35, g36, g37, g38, g39, g40, g41, g42, g43, g44, g45, .int .i64 x11, .int .i64 (IntKind.i64.wrap (x11 + 1)), .int .i64 (IntKind.i64.wrap ((IntKind.i64.wrap (x11 + 1)).tdiv 2)), .int .i64 (if IntKind.i64.wrap ((IntKind.i64.wrap (x11 + 1)).tdiv 2) < 6 then IntKind.i64.wrap ((IntKind.i64.wrap (x11 + 1)).tdiv 2) else 6)] M := by kernel_rfl
theorem k20_19 : subC (codeOf Try.f20) [1, 1, 1, 1, 1, 1] = .ret := by kernel_rfl
theorem w20_0 {Ax0 : Option Addr} {lx0 : Nat} {cx0 : Nat} {x1 : Int} {x2 : Int} {M : Mem} {Q : Value → Mem → Prop} (H :
    Cn Try.prog 25 #[.slice Ax0 lx0 cx0, .int .i64 x1, .int .i64 x2] M fun v1' N1' =>
     ∃ b2', asB v1' = some b2' ∧
     (((!b2') = true →
      Q (.tuple #[.int .i64 0, .int .i64 2]) N1') ∧
      ((!b2') = false →
      Cn Try.prog 22 #[.int .i64 x1] N1' fun v3' N3' =>
       ∃ x4', asI .i64 v3' = some x4' ∧
       ∃ v5', binV Try.prog .quo 3 3 (.int .i64 x2) (.int .i64 x4') = some v5' ∧
       ∃ x6', asI .i64 v5' = some x6' ∧
       ∃ v7', binV Try.prog .rem 3 3 (.int .i64 x2) (.int .i64 x4') = some v7' ∧
       ∃ x8', asI .i64 v7' = some x8' ∧
       Cn Try.prog 26 #[.slice Ax0 lx0 cx0, .int .i64 x4', .int .i64 x6', .int .i64 (IntKind.i64.wrap (x8' + 1)), .int .i64 15] N3' fun v9' N9' =>
        ∃ x10', asI .i64 v9' = some x10' ∧
        Cn Try.prog 26 #[.slice Ax0 lx0 cx0, .int .i64 x4', .int .i64 (IntKind.i64.wrap (x6' + 1)), .int .i64 x8', .int .i64 15] N9' fun v11' N11' =>
         ∃ x12', asI .i64 v11' = some x12' ∧
         Cn Try.prog 26 #[.slice Ax0 lx0 cx0, .int .i64 x4', .int .i64 (IntKind.i64.wrap (x6' + 1)), .int .i64 (IntKind.i64.wrap (x8' + 1)), .int .i64 15] N11' fun v13' N13' =>
          ∃ x14', asI .i64 v13' = some x14' ∧
          Q (.tuple #[.int .i64 (if IntKind.i64.wrap ((IntKind.i64.wrap ((IntKind.i64.wrap ((IntKind.i64.wrap (x10' + x12')) + x14')) + 1)).tdiv 2) < 6 then IntKind.i64.wrap ((IntKind.i64.wrap ((IntKind.i64.wrap ((IntKind.i64.wrap (x10' + x12')) + x14')) + 1)).tdiv 2) else 6), .int .i64 0]) N13'))) :
    Cn Try.prog 20 #[.slice Ax0 lx0 cx0, .int .i64 x1, .int .i64 x2] M Q := by
  refine Cn.of b20 d20 t20 ?_
  refine Rn.seq k20_0 ?_
  refine Rn.region k20_1 (fun call K => r20_0) ?_
  refine Rch.leaf ?_
  refine Rn.seq k20_2 ?_
  refine Rn.seq k20_3 ?_
  refine Rn.region k20_4 (fun call K => r20_1) ?_
  refine Rch.call H (fun v1' N1' H => ?_)
  obtain ⟨b2', hb2', H⟩ := H
  refine Rch.bind hb2' ?_
  refine Rch.leaf ?_
  refine Rn.cnd c20_5 (fun h => ?_) (fun h => ?_)
  · replace H := H.1 (h)
    refine Rn.seq k20_6 ?_
    refine Rn.region k20_7 (fun call K => r20_2) ?_
    refine Rch.leaf ?_
    exact Rn.ret k20_8 e20 H
  · replace H := H.2 (h)
    refine Rn.skip k20_10 ?_
    refine Rn.seq k20_11 ?_
    refine Rn.region k20_12 (fun call K => r20_3) ?_
    refine Rch.call H (fun v3' N3' H => ?_)
    obtain ⟨x4', hx4', H⟩ := H
    refine Rch.bind hx4' ?_
    refine Rch.leaf ?_
    refine Rn.seq k20_13 ?_
    refine Rn.regionD k20_14 (fun call K => r20_4) ?_
    obtain ⟨v5', hv5', H⟩ := H
    refine Rch.bind hv5' ?_
    obtain ⟨x6', hx6', H⟩ := H
    refine Rch.bind hx6' ?_
    obtain ⟨v7', hv7', H⟩ := H
    refine Rch.bind hv7' ?_
    obtain ⟨x8', hx8', H⟩ := H
    refine Rch.bind hx8' ?_
    refine Rch.leaf ?_
    refine Rn.seq k20_15 ?_
    refine Rn.region k20_16 (fun call K => r20_5) ?_
    refine Rch.call H (fun v9' N9' H => ?_)
    obtain ⟨x10', hx10', H⟩ := H
    refine Rch.bind hx10' ?_
    refine Rch.call H (fun v11' N11' H => ?_)
    obtain ⟨x12', hx12', H⟩ := H
    refine Rch.bind hx12' ?_
    refine Rch.call H (fun v13' N13' H => ?_)
    obtain ⟨x14', hx14', H⟩ := H
    refine Rch.bind hx14' ?_
    refine Rch.leaf ?_
    refine Rn.seq k20_17 ?_
    refine Rn.region k20_18 (fun call K => r20_6) ?_
    refine Rch.leaf ?_
    exact Rn.ret k20_19 e20 H


/-! ### zoetrope/scan.context: function 24 -/
theorem b24 : Try.prog.funcs[24]? = some Try.f24 := by kernel_rfl
theorem d24 : Try.f24.body = some (subC (codeOf Try.f24) []) := by kernel_rfl
theorem t24 {Ax0 : Option Addr} {lx0 : Nat} {cx0 : Nat} {x1 : Int} {x2 : Int} {x3 : Int} {x4 : Int} {Ax5 : Option Addr} {lx5 : Nat} {cx5 : Nat} : #[.slice Ax0 lx0 cx0, .int .i64 x1, .int .i64 x2, .int .i64 x3, .int .i64 x4, .slice Ax5 lx5 cx5] ++ Array.replicate (Try.f24.ntmps - (#[.slice Ax0 lx0 cx0, .int .i64 x1, .int .i64 x2, .int .i64 x3, .int .i64 x4, .slice Ax5 lx5 cx5] : Array Value).size) undef = #[.slice Ax0 lx0 cx0, .int .i64 x1, .int .i64 x2, .int .i64 x3, .int .i64 x4, .slice Ax5 lx5 cx5, undef, undef, undef, undef, undef, undef, undef, undef, undef, undef, undef, undef, undef, undef, undef, undef, undef, undef, undef, undef, undef, undef, undef, undef, undef, undef, undef, undef, undef, undef, undef, undef, undef, undef, undef, undef, undef, undef, undef, undef, undef, undef, undef, undef, undef, undef, undef, undef, undef, undef, undef, undef, undef, undef, undef, undef, undef, undef, undef, undef, undef, undef, undef, undef, undef, undef, undef, undef, undef, undef, undef, undef, undef, undef, undef, undef, undef, undef, undef, undef, undef, undef, undef, undef, undef, undef, undef, undef, undef, undef, undef] := by kernel_rfl
theorem k24_0 : subC (codeOf Try.f24) [] = .seq (subC (codeOf Try.f24) [0]) (subC (codeOf Try.f24) [1]) := by kernel_rfl
theorem k24_1 : subC (codeOf Try.f24) [0] = .region 0 (opsOf (subC (codeOf Try.f24) [0])) false := by kernel_rfl
theorem r24_0 {g0 g1 g2 g3 g4 g5 g6 g7 g8 g9 g10 g11 g12 g13 g14 g15 g16 g17 g18 g19 g20 g21 g22 g23 g24 g25 g26 g27 g28 g29 g30 g31 g32 g33 g34 g35 g36 g37 g38 g39 g40 g41 g42 g43 g44 g45 g46 g47 g48 g49 g50 g51 g52 g53 g54 g55 g56 g57 g58 g59 g60 g61 g62 g63 g64 g65 g66 g67 g68 g69 g70 g71 g72 g73 g74 g75 g76 g77 g78 g79 g80 g81 g82 g83 g84 g85 g86 g87 g88 g89 g90 g91 g92 g93 g94 g95 g96 : Value} {M : Mem} {call : CallM} {K : Array Value → Mem → R} :
    opsK Try.prog (fun _ => call) (opsOf (subC (codeOf Try.f24) [0])) (opsOf (subC (codeOf Try.f24) [0])).toList 0 #[g0, g1, g2, g3, g4, g5, g6, g7, g8, g9, g10, g11, g12, g13, g14, g15, g16, g17, g18, g19, g20, g21, g22, g23, g24, g25, g26, g27, g28, g29, g30, g31, g32, g33, g34, g35, g36, g37, g38, g39, g40, g41, g42, g43, g44, g45, g46, g47, g48, g49, g50, g51, g52, g53, g54, g55, g56, g57, g58, g59, g60, g61, g62, g63, g64, g65, g66, g67, g68, g69, g70, g71, g72, g73, g74, g75, g76, g77, g78, g79, g80, g81, g82, g83, g84, g85, g86, g87, g88, g89, g90, g91, g92, g93, g94, g95, g96] M K = K #[g0, g1, g2, g3, g4, g5, g6, g7, g8, g9, g10, g11, .int .i64 0, .int .i64 0, g14, g15, g16, g17, g18, g19, g20, g21, g22, g23, g24, g25, g26, g27, g28, g29, g30, g31, g32, g33, g34, g35, g36, g37, g38, g39, g40, g41, g42, g43, g44, g45, g46, g47, g48, g49, g50, g51, g52, g53, g54, g55, g56, g57, g58, g59, g60, g61, g62, g63, g64, g65, g66, g67, g68, g69, g70, g71, g72, g73, g74, g75, g76, g77, g78, g79, g80, g81, g82, g83, g84, g85, g86, g87, g88, g89, g90, g91, g92, g93, g94, g95, g96] M := by kernel_rfl
theorem k24_2 : subC (codeOf Try.f24) [1] = .seq (subC (codeOf Try.f24) [1, 0]) (subC (codeOf Try.f24) [1, 1]) := by kernel_rfl
theorem k24_3 : subC (codeOf Try.f24) [1, 0] = .region 1 (opsOf (subC (codeOf Try.f24) [1, 0])) false := by kernel_rfl
theorem r24_1 {x1 : Int} {g0 g2 g3 g4 g5 g6 g7 g8 g9 g10 g11 g12 g13 g14 g15 g16 g17 g18 g19 g20 g21 g22 g23 g24 g25 g26 g27 g28 g29 g30 g31 g32 g33 g34 g35 g36 g37 g38 g39 g40 g41 g42 g43 g44 g45 g46 g47 g48 g49 g50 g51 g52 g53 g54 g55 g56 g57 g58 g59 g60 g61 g62 g63 g64 g65 g66 g67 g68 g69 g70 g71 g72 g73 g74 g75 g76 g77 g78 g79 g80 g81 g82 g83 g84 g85 g86 g87 g88 g89 g90 g91 g92 g93 g94 g95 g96 : Value} {M : Mem} {call : CallM} {K : Array Value → Mem → R} :
    opsK Try.prog (fun _ => call) (opsOf (subC (codeOf Try.f24) [1, 0])) (opsOf (subC (codeOf Try.f24) [1, 0])).toList 0 #[g0, .int .i64 x1, g2, g3, g4, g5, g6, g7, g8, g9, g10, g11, g12, g13, g14, g15, g16, g17, g18, g19, g20, g21, g22, g23, g24, g25, g26, g27, g28, g29, g30, g31, g32, g33, g34, g35, g36, g37, g38, g39, g40, g41, g42, g43, g44, g45, g46, g47, g48, g49, g50, g51, g52, g53, g54, g55, g56, g57, g58, g59, g60, g61, g62, g63, g64, g65, g66, g67, g68, g69, g70, g71, g72, g73, g74, g75, g76, g77, g78, g79, g80, g81, g82, g83, g84, g85, g86, g87, g88, g89, g90, g91, g92, g93, g94, g95, g96] M K = (call 21 #[.int .i64 x1] M).bind fun r_1 => (asI .i64 r_1.1).bind fun x_2 => K #[g0, .int .i64 x1, g2, g3, g4, g5, g6, g7, g8, g9, g10, g11, g12, g13, .int .i64 x_2, g15, g16, g17, g18, g19, g20, .int .i64 x1, .int .i64 x_2, g23, g24, g25, g26, g27, g28, g29, g30, g31, g32, g33, g34, g35, g36, g37, g38, g39, g40, g41, g42, g43, g44, g45, g46, g47, g48, g49, g50, g51, g52, g53, g54, g55, g56, g57, g58, g59, g60, g61, g62, g63, g64, g65, g66, g67, g68, g69, g70, g71, g72, g73, g74, g75, g76, g77, g78, g79, g80, g81, g82, g83, g84, g85, g86, g87, g88, g89, g90, g91, g92, g93, g94, g95, g96] r_1.2 := by kernel_rfl
theorem k24_4 : subC (codeOf Try.f24) [1, 1] = .seq (subC (codeOf Try.f24) [1, 1, 0]) (subC (codeOf Try.f24) [1, 1, 1]) := by kernel_rfl
theorem k24_5 : subC (codeOf Try.f24) [1, 1, 0] = .seq (subC (codeOf Try.f24) [1, 1, 0, 0]) (subC (codeOf Try.f24) [1, 1, 0, 1]) := by kernel_rfl
theorem k24_6 : subC (codeOf Try.f24) [1, 1, 0, 0] = .region 2 (opsOf (subC (codeOf Try.f24) [1, 1, 0, 0])) false := by kernel_rfl
theorem k24_7 : subC (codeOf Try.f24) [1, 1, 0, 0] = .region 2 (opsOf (subC (codeOf Try.f24) [1, 1, 0, 0])) false ∧ (!false || drawOk (opsOf (subC (codeOf Try.f24) [1, 1, 0, 0]))) = true := ⟨by kernel_rfl, by kernel_rfl⟩
theorem r24_2p0 {Ax0 : Option Addr} {lx0 : Nat} {cx0 : Nat} {x14 : Int} {g1 g2 g3 g4 g5 g6 g7 g8 g9 g10 g11 g12 g13 g15 g16 g17 g18 g19 g20 g21 g22 g23 g24 g25 g26 g27 g28 g29 g30 g31 g32 g33 g34 g35 g36 g37 g38 g39 g40 g41 g42 g43 g44 g45 g46 g47 g48 g49 g50 g51 g52 g53 g54 g55 g56 g57 g58 g59 g60 g61 g62 g63 g64 g65 g66 g67 g68 g69 g70 g71 g72 g73 g74 g75 g76 g77 g78 g79 g80 g81 g82 g83 g84 g85 g86 g87 g88 g89 g90 g91 g92 g93 g94 g95 g96 : Value} {M : Mem} {call : CallM} {K : Array Value → Mem → R} :
    opsK Try.prog (callR false (opsOf (subC (codeOf Try.f24) [1, 1, 0, 0])) call) (opsOf (subC (codeOf Try.f24) [1, 1, 0, 0])) (((opsOf (subC (codeOf Try.f24) [1, 1, 0, 0])).toList.drop 0).take 11) 0 #[.slice Ax0 lx0 cx0, g1, g2, g3, g4, g5, g6, g7, g8, g9, g10, g11, g12, g13, .int .i64 x14, g15, g16, g17, g18, g19, g20, g21, g22, g23, g24, g25, g26, g27, g28, g29, g30, g31, g32, g33, g34, g35, g36, g37, g38, g39, g40, g41, g42, g43, g44, g45, g46, g47, g48, g49, g50, g51, g52, g53, g54, g55, g56, g57, g58, g59, g60, g61, g62, g63, g64, g65, g66, g67, g68, g69, g70, g71, g72, g73, g74, g75, g76, g77, g78, g79, g80, g81, g82, g83, g84, g85, g86, g87, g88, g89, g90, g91, g92, g93, g94, g95, g96] M K = cond (x14 == 0) (K #[.slice Ax0 lx0 cx0, g1, g2, g3, g4, g5, g6, g7, g8, g9, g10, g11, g12, g13, .int .i64 x14, g15, g16, g17, g18, g19, g20, g21, g22, .int .i64 x14, .bool (x14 == 0), .bool true, undef, undef, undef, undef, undef, undef, .bool true, .bool true, g34, g35, g36, g37, g38, g39, g40, g41, g42, g43, g44, g45, g46, g47, g48, g49, g50, g51, g52, g53, g54, g55, g56, g57, g58, g59, g60, g61, g62, g63, g64, g65, g66, g67, g68, g69, g70, g71, g72, g73, g74, g75, g76, g77, g78, g79, g80, g81, g82, g83, g84, g85, g86, g87, g88, g89, g90, g91, g92, g93, g94, g95, g96] M) (K #[.slice Ax0 lx0 cx0, g1, g2, g3, g4, g5, g6, g7, g8, g9, g10, g11, g12, g13, .int .i64 x14, g15, g16, g17, g18, g19, g20, g21, g22, .int .i64 x14, .bool (x14 == 0), .bool false, .slice Ax0 lx0 cx0, .int .i64 ((lx0 : Int)), .int .i64 x14, .int .i64 x14, .int .i64 (IntKind.i64.wrap (x14 * x14)), .bool (((lx0 : Int)) != (IntKind.i64.wrap (x14 * x14))), .bool (((lx0 : Int)) != (IntKind.i64.wrap (x14 * x14))), .bool (((lx0 : Int)) != (IntKind.i64.wrap (x14 * x14))), g34, g35, g36, g37, g38, g39, g40, g41, g42, g43, g44, g45, g46, g47, g48, g49, g50, g51, g52, g53, g54, g55, g56, g57, g58, g59, g60, g61, g62, g63, g64, g65, g66, g67, g68, g69, g70, g71, g72, g73, g74, g75, g76, g77, g78, g79, g80, g81, g82, g83, g84, g85, g86, g87, g88, g89, g90, g91, g92, g93, g94, g95, g96] M) := by kernel_rfl
theorem r24_2p11 {x2 : Int} {x33 : Bool} {g0 g1 g3 g4 g5 g6 g7 g8 g9 g10 g11 g12 g13 g14 g15 g16 g17 g18 g19 g20 g21 g22 g23 g24 g25 g26 g27 g28 g29 g30 g31 g32 g34 g35 g36 g37 g38 g39 g40 g41 g42 g43 g44 g45 g46 g47 g48 g49 g50 g51 g52 g53 g54 g55 g56 g57 g58 g59 g60 g61 g62 g63 g64 g65 g66 g67 g68 g69 g70 g71 g72 g73 g74 g75 g76 g77 g78 g79 g80 g81 g82 g83 g84 g85 g86 g87 g88 g89 g90 g91 g92 g93 g94 g95 g96 : Value} {M : Mem} {call : CallM} {K : Array Value → Mem → R} :
    opsK Try.prog (callR false (opsOf (subC (codeOf Try.f24) [1, 1, 0, 0])) call) (opsOf (subC (codeOf Try.f24) [1, 1, 0, 0])) (((opsOf (subC (codeOf Try.f24) [1, 1, 0, 0])).toList.drop 11).take 4) 11 #[g0, g1, .int .i64 x2, g3, g4, g5, g6, g7, g8, g9, g10, g11, g12, g13, g14, g15, g16, g17, g18, g19, g20, g21, g22, g23, g24, g25, g26, g27, g28, g29, g30, g31, g32, .bool x33, g34, g35, g36, g37, g38, g39, g40, g41, g42, g43, g44, g45, g46, g47, g48, g49, g50, g51, g52, g53, g54, g55, g56, g57, g58, g59, g60, g61, g62, g63, g64, g65, g66, g67, g68, g69, g70, g71, g72, g73, g74, g75, g76, g77, g78, g79, g80, g81, g82, g83, g84, g85, g86, g87, g88, g89, g90, g91, g92, g93, g94, g95, g96] M K = cond x33 (K #[g0, g1, .int .i64 x2, g3, g4, g5, g6, g7, g8, g9, g10, g11, g12, g13, g14, g15, g16, g17, g18, g19, g20, g21, g22, g23, g24, g25, g26, g27, g28, g29, g30, g31, g32, .bool true, undef, undef, .bool true, .bool true, g38, g39, g40, g41, g42, g43, g44, g45, g46, g47, g48, g49, g50, g51, g52, g53, g54, g55, g56, g57, g58, g59, g60, g61, g62, g63, g64, g65, g66, g67, g68, g69, g70, g71, g72, g73, g74, g75, g76, g77, g78, g79, g80, g81, g82, g83, g84, g85, g86, g87, g88, g89, g90, g91, g92, g93, g94, g95, g96] M) (K #[g0, g1, .int .i64 x2, g3, g4, g5, g6, g7, g8, g9, g10, g11, g12, g13, g14, g15, g16, g17, g18, g19, g20, g21, g22, g23, g24, g25, g26, g27, g28, g29, g30, g31, g32, .bool false, .int .i64 x2, .bool (decide (x2 < 0)), .bool (decide (x2 < 0)), .bool (decide (x2 < 0)), g38, g39, g40, g41, g42, g43, g44, g45, g46, g47, g48, g49, g50, g51, g52, g53, g54, g55, g56, g57, g58, g59, g60, g61, g62, g63, g64, g65, g66, g67, g68, g69, g70, g71, g72, g73, g74, g75, g76, g77, g78, g79, g80, g81, g82, g83, g84, g85, g86, g87, g88, g89, g90, g91, g92, g93, g94, g95, g96] M) := by kernel_rfl
theorem r24_2p15 {Ax0 : Option Addr} {lx0 : Nat} {cx0 : Nat} {x2 : Int} {x37 : Bool} {g1 g3 g4 g5 g6 g7 g8 g9 g10 g11 g12 g13 g14 g15 g16 g17 g18 g19 g20 g21 g22 g23 g24 g25 g26 g27 g28 g29 g30 g31 g32 g33 g34 g35 g36 g38 g39 g40 g41 g42 g43 g44 g45 g46 g47 g48 g49 g50 g51 g52 g53 g54 g55 g56 g57 g58 g59 g60 g61 g62 g63 g64 g65 g66 g67 g68 g69 g70 g71 g72 g73 g74 g75 g76 g77 g78 g79 g80 g81 g82 g83 g84 g85 g86 g87 g88 g89 g90 g91 g92 g93 g94 g95 g96 : Value} {M : Mem} {call : CallM} {K : Array Value → Mem → R} :
    opsK Try.prog (callR false (opsOf (subC (codeOf Try.f24) [1, 1, 0, 0])) call) (opsOf (subC (codeOf Try.f24) [1, 1, 0, 0])) (((opsOf (subC (codeOf Try.f24) [1, 1, 0, 0])).toList.drop 15).take 5) 15 #[.slice Ax0 lx0 cx0, g1, .int .i64 x2, g3, g4, g5, g6, g7, g8, g9, g10, g11, g12, g13, g14, g15, g16, g17, g18, g19, g20, g21, g22, g23, g24, g25, g26, g27, g28, g29, g30, g31, g32, g33, g34, g35, g36, .bool x37, g38, g39, g40, g41, g42, g43, g44, g45, g46, g47, g48, g49, g50, g51, g52, g53, g54, g55, g56, g57, g58, g59, g60, g61, g62, g63, g64, g65, g66, g67, g68, g69, g70, g71, g72, g73, g74, g75, g76, g77, g78, g79, g80, g81, g82, g83, g84, g85, g86, g87, g88, g89, g90, g91, g92, g93, g94, g95, g96] M K = cond x37 (K #[.slice Ax0 lx0 cx0, g1, .int .i64 x2, g3, g4, g5, g6, g7, g8, g9, g10, g11, g12, g13, g14, g15, g16, g17, g18, g19, g20, g21, g22, g23, g24, g25, g26, g27, g28, g29, g30, g31, g32, g33, g34, g35, g36, .bool true, undef, undef, undef, undef, .bool true, g43, g44, g45, g46, g47, g48, g49, g50, g51, g52, g53, g54, g55, g56, g57, g58, g59, g60, g61, g62, g63, g64, g65, g66, g67, g68, g69, g70, g71, g72, g73, g74, g75, g76, g77, g78, g79, g80, g81, g82, g83, g84, g85, g86, g87, g88, g89, g90, g91, g92, g93, g94, g95, g96] M) (K #[.slice Ax0 lx0 cx0, g1, .int .i64 x2, g3, g4, g5, g6, g7, g8, g9, g10, g11, g12, g13, g14, g15, g16, g17, g18, g19, g20, g21, g22, g23, g24, g25, g26, g27, g28, g29, g30, g31, g32, g33, g34, g35, g36, .bool false, .int .i64 x2, .slice Ax0 lx0 cx0, .int .i64 ((lx0 : Int)), .bool (decide (x2 ≥ ((lx0 : Int)))), .bool (decide (x2 ≥ ((lx0 : Int)))), g43, g44, g45, g46, g47, g48, g49, g50, g51, g52, g53, g54, g55, g56, g57, g58, g59, g60, g61, g62, g63, g64, g65, g66, g67, g68, g69, g70, g71, g72, g73, g74, g75, g76, g77, g78, g79, g80, g81, g82, g83, g84, g85, g86, g87, g88, g89, g90, g91, g92, g93, g94, g95, g96] M) := by kernel_rfl
theorem c24_8 {x42 : Bool} {g0 g1 g2 g3 g4 g5 g6 g7 g8 g9 g10 g11 g12 g13 g14 g15 g16 g17 g18 g19 g20 g21 g22 g23 g24 g25 g26 g27 g28 g29 g30 g31 g32 g33 g34 g35 g36 g37 g38 g39 g40 g41 g43 g44 g45 g46 g47 g48 g49 g50 g51 g52 g53 g54 g55 g56 g57 g58 g59 g60 g61 g62 g63 g64 g65 g66 g67 g68 g69 g70 g71 g72 g73 g74 g75 g76 g77 g78 g79 g80 g81 g82 g83 g84 g85 g86 g87 g88 g89 g90 g91 g92 g93 g94 g95 g96 : Value} : subC (codeOf Try.f24) [1, 1, 0, 1] = .cond (.tmp 42) (subC (codeOf Try.f24) [1, 1, 0, 1, 0]) (subC (codeOf Try.f24) [1, 1, 0, 1, 1]) ∧ okOperand (.tmp 42) = true ∧ evalT #[g0, g1, g2, g3, g4, g5, g6, g7, g8, g9, g10, g11, g12, g13, g14, g15, g16, g17, g18, g19, g20, g21, g22, g23, g24, g25, g26, g27, g28, g29, g30, g31, g32, g33, g34, g35, g36, g37, g38, g39, g40, g41, .bool x42, g43, g44, g45, g46, g47, g48, g49, g50, g51, g52, g53, g54, g55, g56, g57, g58, g59, g60, g61, g62, g63, g64, g65, g66, g67, g68, g69, g70, g71, g72, g73, g74, g75, g76, g77, g78, g79, g80, g81, g82, g83, g84, g85, g86, g87, g88, g89, g90, g91, g92, g93, g94, g95, g96] (.tmp 42) = .bool x42 := ⟨by kernel_rfl, by kernel_rfl, by kernel_rfl⟩
theorem k24_9 : subC (codeOf Try.f24) [1, 1, 0, 1, 0] = .seq (subC (codeOf Try.f24) [1, 1, 0, 1, 0, 0]) (subC (codeOf Try.f24) [1, 1, 0, 1, 0, 1]) := by kernel_rfl
theorem k24_10 : subC (codeOf Try.f24) [1, 1, 0, 1, 0, 0] = .region 3 (opsOf (subC (codeOf Try.f24) [1, 1, 0, 1, 0, 0])) false := by kernel_rfl
theorem r24_3 {g0 g1 g2 g3 g4 g5 g6 g7 g8 g9 g10 g11 g12 g13 g14 g15 g16 g17 g18 g19 g20 g21 g22 g23 g24 g25 g26 g27 g28 g29 g30 g31 g32 g33 g34 g35 g36 g37 g38 g39 g40 g41 g42 g43 g44 g45 g46 g47 g48 g49 g50 g51 g52 g53 g54 g55 g56 g57 g58 g59 g60 g61 g62 g63 g64 g65 g66 g67 g68 g69 g70 g71 g72 g73 g74 g75 g76 g77 g78 g79 g80 g81 g82 g83 g84 g85 g86 g87 g88 g89 g90 g91 g92 g93 g94 g95 g96 : Value} {M : Mem} {call : CallM} {K : Array Value → Mem → R} :
    opsK Try.prog (fun _ => call) (opsOf (subC (codeOf Try.f24) [1, 1, 0, 1, 0, 0])) (opsOf (subC (codeOf Try.f24) [1, 1, 0, 1, 0, 0])).toList 0 #[g0, g1, g2, g3, g4, g5, g6, g7, g8, g9, g10, g11, g12, g13, g14, g15, g16, g17, g18, g19, g20, g21, g22, g23, g24, g25, g26, g27, g28, g29, g30, g31, g32, g33, g34, g35, g36, g37, g38, g39, g40, g41, g42, g43, g44, g45, g46, g47, g48, g49, g50, g51, g52, g53, g54, g55, g56, g57, g58, g59, g60, g61, g62, g63, g64, g65, g66, g67, g68, g69, g70, g71, g72, g73, g74, g75, g76, g77, g78, g79, g80, g81, g82, g83, g84, g85, g86, g87, g88, g89, g90, g91, g92, g93, g94, g95, g96] M K = K #[g0, g1, g2, g3, g4, g5, g6, g7, g8, g9, g10, g11, .int .i64 0, .int .i64 2, g14, g15, g16, g17, g18, g19, g20, g21, g22, g23, g24, g25, g26, g27, g28, g29, g30, g31, g32, g33, g34, g35, g36, g37, g38, g39, g40, g41, g42, g43, g44, g45, g46, g47, g48, g49, g50, g51, g52, g53, g54, g55, g56, g57, g58, g59, g60, g61, g62, g63, g64, g65, g66, g67, g68, g69, g70, g71, g72, g73, g74, g75, g76, g77, g78, g79, g80, g81, g82, g83, g84, g85, g86, g87, g88, g89, g90, g91, g92, g93, g94, g95, g96] M := by kernel_rfl
theorem k24_11 : subC (codeOf Try.f24) [1, 1, 0, 1, 0, 1] = .ret := by kernel_rfl
theorem e24 {g0 g1 g2 g3 g4 g5 g6 g7 g8 g9 g10 g11 g12 g13 g14 g15 g16 g17 g18 g19 g20 g21 g22 g23 g24 g25 g26 g27 g28 g29 g30 g31 g32 g33 g34 g35 g36 g37 g38 g39 g40 g41 g42 g43 g44 g45 g46 g47 g48 g49 g50 g51 g52 g53 g54 g55 g56 g57 g58 g59 g60 g61 g62 g63 g64 g65 g66 g67 g68 g69 g70 g71 g72 g73 g74 g75 g76 g77 g78 g79 g80 g81 g82 g83 g84 g85 g86 g87 g88 g89 g90 g91 g92 g93 g94 g95 g96 : Value} {M : Mem} : finish Try.prog Try.f24 #[g0, g1, g2, g3, g4, g5, g6, g7, g8, g9, g10, g11, g12, g13, g14, g15, g16, g17, g18, g19, g20, g21, g22, g23, g24, g25, g26, g27, g28, g29, g30, g31, g32, g33, g34, g35, g36, g37, g38, g39, g40, g41, g42, g43, g44, g45, g46, g47, g48, g49, g50, g51, g52, g53, g54, g55, g56, g57, g58, g59, g60, g61, g62, g63, g64, g65, g66, g67, g68, g69, g70, g71, g72, g73, g74, g75, g76, g77, g78, g79, g80, g81, g82, g83, g84, g85, g86, g87, g88, g89, g90, g91, g92, g93, g94, g95, g96] M = some (.tuple #[g12, g13], M) := by kernel_rfl
theorem k24_13 : subC (codeOf Try.f24) [1, 1, 0, 1, 1] = .skip := by kernel_rfl
theorem k24_14 : subC (codeOf Try.f24) [1, 1, 1] = .seq (subC (codeOf Try.f24) [1, 1, 1, 0]) (subC (codeOf Try.f24) [1, 1, 1, 1]) := by kernel_rfl
theorem k24_15 : subC (codeOf Try.f24) [1, 1, 1, 0] = .region 4 (opsOf (subC (codeOf Try.f24) [1, 1, 1, 0])) false := by kernel_rfl
theorem r24_4 {g0 g1 g2 g3 g4 g5 g6 g7 g8 g9 g10 g11 g12 g13 g14 g15 g16 g17 g18 g19 g20 g21 g22 g23 g24 g25 g26 g27 g28 g29 g30 g31 g32 g33 g34 g35 g36 g37 g38 g39 g40 g41 g42 g43 g44 g45 g46 g47 g48 g49 g50 g51 g52 g53 g54 g55 g56 g57 g58 g59 g60 g61 g62 g63 g64 g65 g66 g67 g68 g69 g70 g71 g72 g73 g74 g75 g76 g77 g78 g79 g80 g81 g82 g83 g84 g85 g86 g87 g88 g89 g90 g91 g92 g93 g94 g95 g96 : Value} {M : Mem} {call : CallM} {K : Array Value → Mem → R} :
    opsK Try.prog (fun _ => call) (opsOf (subC (codeOf Try.f24) [1, 1, 1, 0])) (opsOf (subC (codeOf Try.f24) [1, 1, 1, 0])).toList 0 #[g0, g1, g2, g3, g4, g5, g6, g7, g8, g9, g10, g11, g12, g13, g14, g15, g16, g17, g18, g19, g20, g21, g22, g23, g24, g25, g26, g27, g28, g29, g30, g31, g32, g33, g34, g35, g36, g37, g38, g39, g40, g41, g42, g43, g44, g45, g46, g47, g48, g49, g50, g51, g52, g53, g54, g55, g56, g57, g58, g59, g60, g61, g62, g63, g64, g65, g66, g67, g68, g69, g70, g71, g72, g73, g74, g75, g76, g77, g78, g79, g80, g81, g82, g83, g84, g85, g86, g87, g88, g89, g90, g91, g92, g93, g94, g95, g96] M K = K #[g0, g1, g2, g3, g4, g5, g6, g7, g8, g9, g10, g11, g12, g13, g14, .int .i64 0, g16, g17, g18, g19, g20, g21, g22, g23, g24, g25, g26, g27, g28, g29, g30, g31, g32, g33, g34, g35, g36, g37, g38, g39, g40, g41, g42, g43, g44, g45, g46, g47, g48, g49, g50, g51, g52, g53, g54, g55, g56, g57, g58, g59, g60, g61, g62, g63, g64, g65, g66, g67, g68, g69, g70, g71, g72, g73, g74, g75, g76, g77, g78, g79, g80, g81, g82, g83, g84, g85, g86, g87, g88, g89, g90, g91, g92, g93, g94, g95, g96] M := by kernel_rfl
theorem k24_16 : subC (codeOf Try.f24) [1, 1, 1, 1] = .seq (subC (codeOf Try.f24) [1, 1, 1, 1, 0]) (subC (codeOf Try.f24) [1, 1, 1, 1, 1]) := by kernel_rfl
theorem k24_17 : subC (codeOf Try.f24) [1, 1, 1, 1, 0] = .seq (subC (codeOf Try.f24) [1, 1, 1, 1, 0, 0]) (subC (codeOf Try.f24) [1, 1, 1, 1, 0, 1]) := by kernel_rfl
theorem k24_18 : subC (codeOf Try.f24) [1, 1, 1, 1, 0, 0] = .region 5 (opsOf (subC (codeOf Try.f24) [1, 1, 1, 1, 0, 0])) false := by kernel_rfl
theorem r24_5 {Ax5 : Option Addr} {lx5 : Nat} {cx5 : Nat} {g0 g1 g2 g3 g4 g6 g7 g8 g9 g10 g11 g12 g13 g14 g15 g16 g17 g18 g19 g20 g21 g22 g23 g24 g25 g26 g27 g28 g29 g30 g31 g32 g33 g34 g35 g36 g37 g38 g39 g40 g41 g42 g43 g44 g45 g46 g47 g48 g49 g50 g51 g52 g53 g54 g55 g56 g57 g58 g59 g60 g61 g62 g63 g64 g65 g66 g67 g68 g69 g70 g71 g72 g73 g74 g75 g76 g77 g78 g79 g80 g81 g82 g83 g84 g85 g86 g87 g88 g89 g90 g91 g92 g93 g94 g95 g96 : Value} {M : Mem} {call : CallM} {K : Array Value → Mem → R} :
    opsK Try.prog (fun _ => call) (opsOf (subC (codeOf Try.f24) [1, 1, 1, 1, 0, 0])) (opsOf (subC (codeOf Try.f24) [1, 1, 1, 1, 0, 0])).toList 0 #[g0, g1, g2, g3, g4, .slice Ax5 lx5 cx5, g6, g7, g8, g9, g10, g11, g12, g13, g14, g15, g16, g17, g18, g19, g20, g21, g22, g23, g24, g25, g26, g27, g28, g29, g30, g31, g32, g33, g34, g35, g36, g37, g38, g39, g40, g41, g42, g43, g44, g45, g46, g47, g48, g49, g50, g51, g52, g53, g54, g55, g56, g57, g58, g59, g60, g61, g62, g63, g64, g65, g66, g67, g68, g69, g70, g71, g72, g73, g74, g75, g76, g77, g78, g79, g80, g81, g82, g83, g84, g85, g86, g87, g88, g89, g90, g91, g92, g93, g94, g95, g96] M K = K #[g0, g1, g2, g3, g4, .slice Ax5 lx5 cx5, g6, g7, g8, g9, g10, g11, g12, g13, g14, g15, g16, g17, g18, g19, g20, g21, g22, g23, g24, g25, g26, g27, g28, g29, g30, g31, g32, g33, g34, g35, g36, g37, g38, g39, g40, g41, g42, .slice Ax5 lx5 cx5, .int .i64 ((lx5 : Int)), .int .i64 0, g46, g47, g48, g49, g50, g51, g52, g53, g54, g55, g56, g57, g58, g59, g60, g61, g62, g63, g64, g65, g66, g67, g68, g69, g70, g71, g72, g73, g74, g75, g76, g77, g78, g79, g80, g81, g82, g83, g84, g85, g86, g87, g88, g89, g90, g91, g92, g93, g94, g95, g96] M := by kernel_rfl
theorem k24_19 : subC (codeOf Try.f24) [1, 1, 1, 1, 0, 1] = .block 0 (subC (codeOf Try.f24) [1, 1, 1, 1, 0, 1, 0]) := by kernel_rfl
theorem k24_20 : subC (codeOf Try.f24) [1, 1, 1, 1, 0, 1, 0] = .loop (subC (codeOf Try.f24) [1, 1, 1, 1, 0, 1, 0, 0]) := by kernel_rfl
theorem k24_21 : subC (codeOf Try.f24) [1, 1, 1, 1, 0, 1, 0, 0] = .seq (subC (codeOf Try.f24) [1, 1, 1, 1, 0, 1, 0, 0, 0]) (subC (codeOf Try.f24) [1, 1, 1, 1, 0, 1, 0, 0, 1]) := by kernel_rfl
theorem k24_22 : subC (codeOf Try.f24) [1, 1, 1, 1, 0, 1, 0, 0, 0] = .region 6 (opsOf (subC (codeOf Try.f24) [1, 1, 1, 1, 0, 1, 0, 0, 0])) false := by kernel_rfl
theorem r24_6 {x44 : Int} {x45 : Int} {g0 g1 g2 g3 g4 g5 g6 g7 g8 g9 g10 g11 g12 g13 g14 g15 g16 g17 g18 g19 g20 g21 g22 g23 g24 g25 g26 g27 g28 g29 g30 g31 g32 g33 g34 g35 g36 g37 g38 g39 g40 g41 g42 g43 g46 g47 g48 g49 g50 g51 g52 g53 g54 g55 g56 g57 g58 g59 g60 g61 g62 g63 g64 g65 g66 g67 g68 g69 g70 g71 g72 g73 g74 g75 g76 g77 g78 g79 g80 g81 g82 g83 g84 g85 g86 g87 g88 g89 g90 g91 g92 g93 g94 g95 g96 : Value} {M : Mem} {call : CallM} {K : Array Value → Mem → R} :
    opsK Try.prog (fun _ => call) (opsOf (subC (codeOf Try.f24) [1, 1, 1, 1, 0, 1, 0, 0, 0])) (opsOf (subC (codeOf Try.f24) [1, 1, 1, 1, 0, 1, 0, 0, 0])).toList 0 #[g0, g1, g2, g3, g4, g5, g6, g7, g8, g9, g10, g11, g12, g13, g14, g15, g16, g17, g18, g19, g20, g21, g22, g23, g24, g25, g26, g27, g28, g29, g30, g31, g32, g33, g34, g35, g36, g37, g38, g39, g40, g41, g42, g43, .int .i64 x44, .int .i64 x45, g46, g47, g48, g49, g50, g51, g52, g53, g54, g55, g56, g57, g58, g59, g60, g61, g62, g63, g64, g65, g66, g67, g68, g69, g70, g71, g72, g73, g74, g75, g76, g77, g78, g79, g80, g81, g82, g83, g84, g85, g86, g87, g88, g89, g90, g91, g92, g93, g94, g95, g96] M K = K #[g0, g1, g2, g3, g4, g5, g6, g7, g8, g9, g10, g11, g12, g13, g14, g15, g16, g17, g18, g19, g20, g21, g22, g23, g24, g25, g26, g27, g28, g29, g30, g31, g32, g33, g34, g35, g36, g37, g38, g39, g40, g41, g42, g43, .int .i64 x44, .int .i64 x45, .bool (decide (x45 < x44)), g47, g48, g49, g50, g51, g52, g53, g54, g55, g56, g57, g58, g59, g60, g61, g62, g63, g64, g65, g66, g67, g68, g69, g70, g71, g72, g73, g74, g75, g76, g77, g78, g79, g80, g81, g82, g83, g84, g85, g86, g87, g88, g89, g90, g91, g92, g93, g94, g95, g96] M := by kernel_rfl
theorem k24_23 : subC (codeOf Try.f24) [1, 1, 1, 1, 0, 1, 0, 0, 1] = .seq (subC (codeOf Try.f24) [1, 1, 1, 1, 0, 1, 0, 0, 1, 0]) (subC (codeOf Try.f24) [1, 1, 1, 1, 0, 1, 0, 0, 1, 1]) := by kernel_rfl
theorem c24_24 {x46 : Bool} {g0 g1 g2 g3 g4 g5 g6 g7 g8 g9 g10 g11 g12 g13 g14 g15 g16 g17 g18 g19 g20 g21 g22 g23 g24 g25 g26 g27 g28 g29 g30 g31 g32 g33 g34 g35 g36 g37 g38 g39 g40 g41 g42 g43 g44 g45 g47 g48 g49 g50 g51 g52 g53 g54 g55 g56 g57 g58 g59 g60 g61 g62 g63 g64 g65 g66 g67 g68 g69 g70 g71 g72 g73 g74 g75 g76 g77 g78 g79 g80 g81 g82 g83 g84 g85 g86 g87 g88 g89 g90 g91 g92 g93 g94 g95 g96 : Value} : subC (codeOf Try.f24) [1, 1, 1, 1, 0, 1, 0, 0, 1, 0] = .cond (.tmp 46) (subC (codeOf Try.f24) [1, 1, 1, 1, 0, 1, 0, 0, 1, 0, 0]) (subC (codeOf Try.f24) [1, 1, 1, 1, 0, 1, 0, 0, 1, 0, 1]) ∧ okOperand (.tmp 46) = true ∧ evalT #[g0, g1, g2, g3, g4, g5, g6, g7, g8, g9, g10, g11, g12, g13, g14, g15, g16, g17, g18, g19, g20, g21, g22, g23, g24, g25, g26, g27, g28, g29, g30, g31, g32, g33, g34, g35, g36, g37, g38, g39, g40, g41, g42, g43, g44, g45, .bool x46, g47, g48, g49, g50, g51, g52, g53, g54, g55, g56, g57, g58, g59, g60, g61, g62, g63, g64, g65, g66, g67, g68, g69, g70, g71, g72, g73, g74, g75, g76, g77, g78, g79, g80, g81, g82, g83, g84, g85, g86, g87, g88, g89, g90, g91, g92, g93, g94, g95, g96] (.tmp 46) = .bool x46 := ⟨by kernel_rfl, by kernel_rfl, by kernel_rfl⟩
theorem k24_25 : subC (codeOf Try.f24) [1, 1, 1, 1, 0, 1, 0, 0, 1, 0, 0] = .skip := by kernel_rfl
theorem k24_26 : subC (codeOf Try.f24) [1, 1, 1, 1, 0, 1, 0, 0, 1, 1] = .seq (subC (codeOf Try.f24) [1, 1, 1, 1, 0, 1, 0, 0, 1, 1, 0]) (subC (codeOf Try.f24) [1, 1, 1, 1, 0, 1, 0, 0, 1, 1, 1]) := by kernel_rfl
theorem k24_27 : subC (codeOf Try.f24) [1, 1, 1, 1, 0, 1, 0, 0, 1, 1, 0] = .block 1 (subC (codeOf Try.f24) [1, 1, 1, 1, 0, 1, 0, 0, 1, 1, 0, 0]) := by kernel_rfl
theorem k24_28 : subC (codeOf Try.f24) [1, 1, 1, 1, 0, 1, 0, 0, 1, 1, 0, 0] = .seq (subC (codeOf Try.f24) [1, 1, 1, 1, 0, 1, 0, 0, 1, 1, 0, 0, 0]) (subC (codeOf Try.f24) [1, 1, 1, 1, 0, 1, 0, 0, 1, 1, 0, 0, 1]) := by kernel_rfl
theorem k24_29 : subC (codeOf Try.f24) [1, 1, 1, 1, 0, 1, 0, 0, 1, 1, 0, 0, 0] = .region 7 (opsOf (subC (codeOf Try.f24) [1, 1, 1, 1, 0, 1, 0, 0, 1, 1, 0, 0, 0])) false := by kernel_rfl
theorem r24_7 {Ax43 : Option Addr} {lx43 : Nat} {cx43 : Nat} {x45 : Int} {g0 g1 g2 g3 g4 g5 g6 g7 g8 g9 g10 g11 g12 g13 g14 g15 g16 g17 g18 g19 g20 g21 g22 g23 g24 g25 g26 g27 g28 g29 g30 g31 g32 g33 g34 g35 g36 g37 g38 g39 g40 g41 g42 g44 g46 g47 g48 g49 g50 g51 g52 g53 g54 g55 g56 g57 g58 g59 g60 g61 g62 g63 g64 g65 g66 g67 g68 g69 g70 g71 g72 g73 g74 g75 g76 g77 g78 g79 g80 g81 g82 g83 g84 g85 g86 g87 g88 g89 g90 g91 g92 g93 g94 g95 g96 : Value} {M : Mem} {call : CallM} {K : Array Value → Mem → R} :
    opsK Try.prog (fun _ => call) (opsOf (subC (codeOf Try.f24) [1, 1, 1, 1, 0, 1, 0, 0, 1, 1, 0, 0, 0])) (opsOf (subC (codeOf Try.f24) [1, 1, 1, 1, 0, 1, 0, 0, 1, 1, 0, 0, 0])).toList 0 #[g0, g1, g2, g3, g4, g5, g6, g7, g8, g9, g10, g11, g12, g13, g14, g15, g16, g17, g18, g19, g20, g21, g22, g23, g24, g25, g26, g27, g28, g29, g30, g31, g32, g33, g34, g35, g36, g37, g38, g39, g40, g41, g42, .slice Ax43 lx43 cx43, g44, .int .i64 x45, g46, g47, g48, g49, g50, g51, g52, g53, g54, g55, g56, g57, g58, g59, g60, g61, g62, g63, g64, g65, g66, g67, g68, g69, g70, g71, g72, g73, g74, g75, g76, g77, g78, g79, g80, g81, g82, g83, g84, g85, g86, g87, g88, g89, g90, g91, g92, g93, g94, g95, g96] M K = (indexAddrP Try.prog 44 (.slice Ax43 lx43 cx43) (.int .i64 x45)).bind fun v_1 => (asP v_1).bind fun p_2 => (p_2).bind fun a_3 => (M.intAt .i64 a_3.block a_3.off).bind fun x_4 => (M.intAt .i64 a_3.block (a_3.off + 1)).bind fun x_5 => ((M.new (.cells #[.int .i64 0, .int .i64 0] 43)).put (2 * M.nb.size) 0 (.int .i64 x_4)).bind fun M_6 => (M_6.put (2 * M.nb.size) 1 (.int .i64 x_5)).bind fun M_7 => K #[g0, g1, g2, g3, g4, g5, g6, g7, g8, g9, g10, g11, g12, g13, g14, g15, g16, .pointer (some ⟨2 * M.nb.size, 0, none⟩), g18, g19, g20, g21, g22, g23, g24, g25, g26, g27, g28, g29, g30, g31, g32, g33, g34, g35, g36, g37, g38, g39, g40, g41, g42, .slice Ax43 lx43 cx43, g44, .int .i64 x45, g46, .pointer p_2, .agg #[.int .i64 x_4, .int .i64 x_5], g49, g50, g51, g52, g53, g54, g55, g56, g57, g58, g59, g60, g61, g62, g63, g64, g65, g66, g67, g68, g69, g70, g71, g72, g73, g74, g75, g76, g77, g78, g79, g80, g81, g82, g83, g84, g85, g86, g87, g88, g89, g90, g91, g92, g93, g94, g95, g96] M_7 := by kernel_rfl
theorem k24_30 : subC (codeOf Try.f24) [1, 1, 1, 1, 0, 1, 0, 0, 1, 1, 0, 0, 1] = .seq (subC (codeOf Try.f24) [1, 1, 1, 1, 0, 1, 0, 0, 1, 1, 0, 0, 1, 0]) (subC (codeOf Try.f24) [1, 1, 1, 1, 0, 1, 0, 0, 1, 1, 0, 0, 1, 1]) := by kernel_rfl
theorem k24_31 : subC (codeOf Try.f24) [1, 1, 1, 1, 0, 1, 0, 0, 1, 1, 0, 0, 1, 0] = .region 8 (opsOf (subC (codeOf Try.f24) [1, 1, 1, 1, 0, 1, 0, 0, 1, 1, 0, 0, 1, 0])) true ∧ drawOk (opsOf (subC (codeOf Try.f24) [1, 1, 1, 1, 0, 1, 0, 0, 1, 1, 0, 0, 1, 0])) = true := ⟨by kernel_rfl, by kernel_rfl⟩
theorem r24_8 {x2 : Int} {x14 : Int} {x17 : Option Addr} {g0 g1 g3 g4 g5 g6 g7 g8 g9 g10 g11 g12 g13 g15 g16 g18 g19 g20 g21 g22 g23 g24 g25 g26 g27 g28 g29 g30 g31 g32 g33 g34 g35 g36 g37 g38 g39 g40 g41 g42 g43 g44 g45 g46 g47 g48 g49 g50 g51 g52 g53 g54 g55 g56 g57 g58 g59 g60 g61 g62 g63 g64 g65 g66 g67 g68 g69 g70 g71 g72 g73 g74 g75 g76 g77 g78 g79 g80 g81 g82 g83 g84 g85 g86 g87 g88 g89 g90 g91 g92 g93 g94 g95 g96 : Value} {M : Mem} {call : CallM} {K : Array Value → Mem → R} :
    opsK Try.prog (callAt call (opsOf (subC (codeOf Try.f24) [1, 1, 1, 1, 0, 1, 0, 0, 1, 1, 0, 0, 1, 0]))) (opsOf (subC (codeOf Try.f24) [1, 1, 1, 1, 0, 1, 0, 0, 1, 1, 0, 0, 1, 0])) (opsOf (subC (codeOf Try.f24) [1, 1, 1, 1, 0, 1, 0, 0, 1, 1, 0, 0, 1, 0])).toList 0 #[g0, g1, .int .i64 x2, g3, g4, g5, g6, g7, g8, g9, g10, g11, g12, g13, .int .i64 x14, g15, g16, .pointer x17, g18, g19, g20, g21, g22, g23, g24, g25, g26, g27, g28, g29, g30, g31, g32, g33, g34, g35, g36, g37, g38, g39, g40, g41, g42, g43, g44, g45, g46, g47, g48, g49, g50, g51, g52, g53, g54, g55, g56, g57, g58, g59, g60, g61, g62, g63, g64, g65, g66, g67, g68, g69, g70, g71, g72, g73, g74, g75, g76, g77, g78, g79, g80, g81, g82, g83, g84, g85, g86, g87, g88, g89, g90, g91, g92, g93, g94, g95, g96] M K = (binV Try.prog .quo 3 3 (.int .i64 x2) (.int .i64 x14)).bind fun v_1 => (asI .i64 v_1).bind fun x_2 => (fieldAddrP Try.prog 43 (.pointer x17) 0).bind fun v_3 => (asP v_3).bind fun p_4 => (p_4).bind fun a_5 => (M.intAt .i64 a_5.block a_5.off).bind fun x_6 => (binV Try.prog .rem 3 3 (.int .i64 x2) (.int .i64 x14)).bind fun v_7 => (asI .i64 v_7).bind fun x_8 => (fieldAddrP Try.prog 43 (.pointer x17) 1).bind fun v_9 => (asP v_9).bind fun p_10 => (p_10).bind fun a_11 => (M.intAt .i64 a_11.block a_11.off).bind fun x_12 => K #[g0, g1, .int .i64 x2, g3, g4, g5, g6, g7, g8, g9, g10, g11, g12, g13, .int .i64 x14, g15, g16, .pointer x17, .int .i64 (IntKind.i64.wrap (x_2 + x_6)), .int .i64 (IntKind.i64.wrap (x_8 + x_12)), g20, g21, g22, g23, g24, g25, g26, g27, g28, g29, g30, g31, g32, g33, g34, g35, g36, g37, g38, g39, g40, g41, g42, g43, g44, g45, g46, g47, g48, .int .i64 x2, .int .i64 x14, .int .i64 x_2, .pointer p_4, .int .i64 x_6, .int .i64 (IntKind.i64.wrap (x_2 + x_6)), .int .i64 x2, .int .i64 x14, .int .i64 x_8, .pointer p_10, .int .i64 x_12, .int .i64 (IntKind.i64.wrap (x_8 + x_12)), g61, g62, g63, g64, g65, g66, g67, g68, g69, g70, g71, g72, g73, g74, g75, g76, g77, g78, g79, g80, g81, g82, g83, g84, g85, g86, g87, g88, g89, g90, g91, g92, g93, g94, g95, g96] M := by kernel_rfl
theorem k24_32 : subC (codeOf Try.f24) [1, 1, 1, 1, 0, 1, 0, 0, 1, 1, 0, 0, 1, 1] = .seq (subC (codeOf Try.f24) [1, 1, 1, 1, 0, 1, 0, 0, 1, 1, 0, 0, 1, 1, 0]) (subC (codeOf Try.f24) [1, 1, 1, 1, 0, 1, 0, 0, 1, 1, 0, 0, 1, 1, 1]) := by kernel_rfl
theorem k24_33 : subC (codeOf Try.f24) [1, 1, 1, 1, 0, 1, 0, 0, 1, 1, 0, 0, 1, 1, 0] = .seq (subC (codeOf Try.f24) [1, 1, 1, 1, 0, 1, 0, 0, 1, 1, 0, 0, 1, 1, 0, 0]) (subC (codeOf Try.f24) [1, 1, 1, 1, 0, 1, 0, 0, 1, 1, 0, 0, 1, 1, 0, 1]) := by kernel_rfl
theorem k24_34 : subC (codeOf Try.f24) [1, 1, 1, 1, 0, 1, 0, 0, 1, 1, 0, 0, 1, 1, 0, 0] = .region 9 (opsOf (subC (codeOf Try.f24) [1, 1, 1, 1, 0, 1, 0, 0, 1, 1, 0, 0, 1, 1, 0, 0])) false := by kernel_rfl
theorem r24_9 {x14 : Int} {x18 : Int} {x19 : Int} {g0 g1 g2 g3 g4 g5 g6 g7 g8 g9 g10 g11 g12 g13 g15 g16 g17 g20 g21 g22 g23 g24 g25 g26 g27 g28 g29 g30 g31 g32 g33 g34 g35 g36 g37 g38 g39 g40 g41 g42 g43 g44 g45 g46 g47 g48 g49 g50 g51 g52 g53 g54 g55 g56 g57 g58 g59 g60 g61 g62 g63 g64 g65 g66 g67 g68 g69 g70 g71 g72 g73 g74 g75 g76 g77 g78 g79 g80 g81 g82 g83 g84 g85 g86 g87 g88 g89 g90 g91 g92 g93 g94 g95 g96 : Value} {M : Mem} {call : CallM} {K : Array Value → Mem → R} :
    opsK Try.prog (fun _ => call) (opsOf (subC (codeOf Try.f24) [1, 1, 1, 1, 0, 1, 0, 0, 1, 1, 0, 0, 1, 1, 0, 0])) (opsOf (subC (codeOf Try.f24) [1, 1, 1, 1, 0, 1, 0, 0, 1, 1, 0, 0, 1, 1, 0, 0])).toList 0 #[g0, g1, g2, g3, g4, g5, g6, g7, g8, g9, g10, g11, g12, g13, .int .i64 x14, g15, g16, g17, .int .i64 x18, .int .i64 x19, g20, g21, g22, g23, g24, g25, g26, g27, g28, g29, g30, g31, g32, g33, g34, g35, g36, g37, g38, g39, g40, g41, g42, g43, g44, g45, g46, g47, g48, g49, g50, g51, g52, g53, g54, g55, g56, g57, g58, g59, g60, g61, g62, g63, g64, g65, g66, g67, g68, g69, g70, g71, g72, g73, g74, g75, g76, g77, g78, g79, g80, g81, g82, g83, g84, g85, g86, g87, g88, g89, g90, g91, g92, g93, g94, g95, g96] M K = cond (decide (x18 ≥ x14)) (K #[g0, g1, g2, g3, g4, g5, g6, g7, g8, g9, g10, g11, g12, g13, .int .i64 x14, g15, g16, g17, .int .i64 x18, .int .i64 x19, g20, g21, g22, g23, g24, g25, g26, g27, g28, g29, g30, g31, g32, g33, g34, g35, g36, g37, g38, g39, g40, g41, g42, g43, g44, g45, g46, g47, g48, g49, g50, g51, g52, g53, g54, g55, g56, g57, g58, g59, g60, .int .i64 x18, .int .i64 x14, .bool (decide (x18 ≥ x14)), .bool true, undef, undef, undef, .bool true, g69, g70, g71, g72, g73, g74, g75, g76, g77, g78, g79, g80, g81, g82, g83, g84, g85, g86, g87, g88, g89, g90, g91, g92, g93, g94, g95, g96] M) (K #[g0, g1, g2, g3, g4, g5, g6, g7, g8, g9, g10, g11, g12, g13, .int .i64 x14, g15, g16, g17, .int .i64 x18, .int .i64 x19, g20, g21, g22, g23, g24, g25, g26, g27, g28, g29, g30, g31, g32, g33, g34, g35, g36, g37, g38, g39, g40, g41, g42, g43, g44, g45, g46, g47, g48, g49, g50, g51, g52, g53, g54, g55, g56, g57, g58, g59, g60, .int .i64 x18, .int .i64 x14, .bool (decide (x18 ≥ x14)), .bool false, .int .i64 x19, .int .i64 x14, .bool (decide (x19 ≥ x14)), .bool (decide (x19 ≥ x14)), g69, g70, g71, g72, g73, g74, g75, g76, g77, g78, g79, g80, g81, g82, g83, g84, g85, g86, g87, g88, g89, g90, g91, g92, g93, g94, g95, g96] M) := by kernel_rfl
theorem k24_35 : subC (codeOf Try.f24) [1, 1, 1, 1, 0, 1, 0, 0, 1, 0, 1] = .exit 0 := by kernel_rfl
theorem k24_36 : subC (codeOf Try.f24) [1, 1, 1, 1, 1] = .seq (subC (codeOf Try.f24) [1, 1, 1, 1, 1, 0]) (subC (codeOf Try.f24) [1, 1, 1, 1, 1, 1]) := by kernel_rfl
theorem k24_37 : subC (codeOf Try.f24) [1, 1, 1, 1, 1, 0] = .region 15 (opsOf (subC (codeOf Try.f24) [1, 1, 1, 1, 1, 0])) false := by kernel_rfl
theorem r24_15 {x4 : Int} {x15 : Int} {g0 g1 g2 g3 g5 g6 g7 g8 g9 g10 g11 g12 g13 g14 g16 g17 g18 g19 g20 g21 g22 g23 g24 g25 g26 g27 g28 g29 g30 g31 g32 g33 g34 g35 g36 g37 g38 g39 g40 g41 g42 g43 g44 g45 g46 g47 g48 g49 g50 g51 g52 g53 g54 g55 g56 g57 g58 g59 g60 g61 g62 g63 g64 g65 g66 g67 g68 g69 g70 g71 g72 g73 g74 g75 g76 g77 g78 g79 g80 g81 g82 g83 g84 g85 g86 g87 g88 g89 g90 g91 g92 g93 g94 g95 g96 : Value} {M : Mem} {call : CallM} {K : Array Value → Mem → R} :
    opsK Try.prog (fun _ => call) (opsOf (subC (codeOf Try.f24) [1, 1, 1, 1, 1, 0])) (opsOf (subC (codeOf Try.f24) [1, 1, 1, 1, 1, 0])).toList 0 #[g0, g1, g2, g3, .int .i64 x4, g5, g6, g7, g8, g9, g10, g11, g12, g13, g14, .int .i64 x15, g16, g17, g18, g19, g20, g21, g22, g23, g24, g25, g26, g27, g28, g29, g30, g31, g32, g33, g34, g35, g36, g37, g38, g39, g40, g41, g42, g43, g44, g45, g46, g47, g48, g49, g50, g51, g52, g53, g54, g55, g56, g57, g58, g59, g60, g61, g62, g63, g64, g65, g66, g67, g68, g69, g70, g71, g72, g73, g74, g75, g76, g77, g78, g79, g80, g81, g82, g83, g84, g85, g86, g87, g88, g89, g90, g91, g92, g93, g94, g95, g96] M K = K #[g0, g1, g2, g3, .int .i64 x4, g5, g6, g7, g8, g9, g10, g11, .int .i64 (if x4 < IntKind.i64.wrap ((IntKind.i64.wrap (x15 + 1)).tdiv 2) then x4 else IntKind.i64.wrap ((IntKind.i64.wrap (x15 + 1)).tdiv 2)), .int .i64 0, g14, .int .i64 x15, g16, g17, g18, g19, g20, g21, g22, g23, g24, g25, g26, g27, g28, g29, g30, g31, g32, g33, g34, g35, g36, g37, g38, g39, g40, g41, g42, g43, g44, g45, g46, g47, g48, g49, g50, g51, g52, g53, g54, g55, g56, g57, g58, g59, g60, g61, g62, g63, g64, g65, g66, g67, g68, g69, g70, g71, g72, g73, g74, g75, g76, g77, g78, g79, g80, g81, g82, g83, g84, g85, g86, g87, g88, g89, g90, g91, .int .i64 x15, .int .i64 (IntKind.i64.wrap (x15 + 1)), .int .i64 (IntKind.i64.wrap ((IntKind.i64.wrap (x15 + 1)).tdiv 2)), .int .i64 x4, .int .i64 (if x4 < IntKind.i64.wrap ((IntKind.i64.wrap (x15 + 1)).tdiv 2) then x4 else IntKind.i64.wrap ((IntKind.i64.wrap (x15 + 1)).tdiv 2))] M := by kernel_rfl
theorem k24_38 : subC (codeOf Try.f24) [1, 1, 1, 1, 1, 1] = .ret := by kernel_rfl
theorem c24_39 {x68 : Bool} {g0 g1 g2 g3 g4 g5 g6 g7 g8 g9 g10 g11 g12 g13 g14 g15 g16 g17 g18 g19 g20 g21 g22 g23 g24 g25 g26 g27 g28 g29 g30 g31 g32 g33 g34 g35 g36 g37 g38 g39 g40 g41 g42 g43 g44 g45 g46 g47 g48 g49 g50 g51 g52 g53 g54 g55 g56 g57 g58 g59 g60 g61 g62 g63 g64 g65 g66 g67 g69 g70 g71 g72 g73 g74 g75 g76 g77 g78 g79 g80 g81 g82 g83 g84 g85 g86 g87 g88 g89 g90 g91 g92 g93 g94 g95 g96 : Value} : subC (codeOf Try.f24) [1, 1, 1, 1, 0, 1, 0, 0, 1, 1, 0, 0, 1, 1, 0, 1] = .cond (.tmp 68) (subC (codeOf Try.f24) [1, 1, 1, 1, 0, 1, 0, 0, 1, 1, 0, 0, 1, 1, 0, 1, 0]) (subC (codeOf Try.f24) [1, 1, 1, 1, 0, 1, 0, 0, 1, 1, 0, 0, 1, 1, 0, 1, 1]) ∧ okOperand (.tmp 68) = true ∧ evalT #[g0, g1, g2, g3, g4, g5, g6, g7, g8, g9, g10, g11, g12, g13, g14, g15, g16, g17, g18, g19, g20, g21, g22, g23, g24, g25, g26, g27, g28, g29, g30, g31, g32, g33, g34, g35, g36, g37, g38, g39, g40, g41, g42, g43, g44, g45, g46, g47, g48, g49, g50, g51, g52, g53, g54, g55, g56, g57, g58, g59, g60, g61, g62, g63, g64, g65, g66, g67, .bool x68, g69, g70, g71, g72, g73, g74, g75, g76, g77, g78, g79, g80, g81, g82, g83, g84, g85, g86, g87, g88, g89, g90, g91, g92, g93, g94, g95, g96] (.tmp 68) = .bool x68 := ⟨by kernel_rfl, by kernel_rfl, by kernel_rfl⟩
theorem k24_40 : subC (codeOf Try.f24) [1, 1, 1, 1, 0, 1, 0, 0, 1, 1, 0, 0, 1, 1, 0, 1, 0] = .exit 1 := by kernel_rfl
theorem k24_41 : subC (codeOf Try.f24) [1, 1, 1, 1, 0, 1, 0, 0, 1, 1, 0, 0, 1, 1, 0, 1, 1] = .skip := by kernel_rfl
theorem k24_42 : subC (codeOf Try.f24) [1, 1, 1, 1, 0, 1, 0, 0, 1, 1, 0, 0, 1, 1, 1] = .seq (subC (codeOf Try.f24) [1, 1, 1, 1, 0, 1, 0, 0, 1, 1, 0, 0, 1, 1, 1, 0]) (subC (codeOf Try.f24) [1, 1, 1, 1, 0, 1, 0, 0, 1, 1, 0, 0, 1, 1, 1, 1]) := by kernel_rfl
theorem k24_43 : subC (codeOf Try.f24) [1, 1, 1, 1, 0, 1, 0, 0, 1, 1, 0, 0, 1, 1, 1, 0] = .region 10 (opsOf (subC (codeOf Try.f24) [1, 1, 1, 1, 0, 1, 0, 0, 1, 1, 0, 0, 1, 1, 1, 0])) false := by kernel_rfl
theorem r24_10 {Ax0 : Option Addr} {lx0 : Nat} {cx0 : Nat} {x14 : Int} {x18 : Int} {x19 : Int} {g1 g2 g3 g4 g5 g6 g7 g8 g9 g10 g11 g12 g13 g15 g16 g17 g20 g21 g22 g23 g24 g25 g26 g27 g28 g29 g30 g31 g32 g33 g34 g35 g36 g37 g38 g39 g40 g41 g42 g43 g44 g45 g46 g47 g48 g49 g50 g51 g52 g53 g54 g55 g56 g57 g58 g59 g60 g61 g62 g63 g64 g65 g66 g67 g68 g69 g70 g71 g72 g73 g74 g75 g76 g77 g78 g79 g80 g81 g82 g83 g84 g85 g86 g87 g88 g89 g90 g91 g92 g93 g94 g95 g96 : Value} {M : Mem} {call : CallM} {K : Array Value → Mem → R} :
    opsK Try.prog (fun _ => call) (opsOf (subC (codeOf Try.f24) [1, 1, 1, 1, 0, 1, 0, 0, 1, 1, 0, 0, 1, 1, 1, 0])) (opsOf (subC (codeOf Try.f24) [1, 1, 1, 1, 0, 1, 0, 0, 1, 1, 0, 0, 1, 1, 1, 0])).toList 0 #[.slice Ax0 lx0 cx0, g1, g2, g3, g4, g5, g6, g7, g8, g9, g10, g11, g12, g13, .int .i64 x14, g15, g16, g17, .int .i64 x18, .int .i64 x19, g20, g21, g22, g23, g24, g25, g26, g27, g28, g29, g30, g31, g32, g33, g34, g35, g36, g37, g38, g39, g40, g41, g42, g43, g44, g45, g46, g47, g48, g49, g50, g51, g52, g53, g54, g55, g56, g57, g58, g59, g60, g61, g62, g63, g64, g65, g66, g67, g68, g69, g70, g71, g72, g73, g74, g75, g76, g77, g78, g79, g80, g81, g82, g83, g84, g85, g86, g87, g88, g89, g90, g91, g92, g93, g94, g95, g96] M K = (indexAddrP Try.prog 22 (.slice Ax0 lx0 cx0) (.int .i64 (IntKind.i64.wrap ((IntKind.i64.wrap (x18 * x14)) + x19)))).bind fun v_1 => (asP v_1).bind fun p_2 => (p_2).bind fun a_3 => (M.intAt .i64 a_3.block a_3.off).bind fun x_4 => K #[.slice Ax0 lx0 cx0, g1, g2, g3, g4, g5, g6, g7, g8, g9, g10, g11, g12, g13, .int .i64 x14, g15, g16, g17, .int .i64 x18, .int .i64 x19, .int .i64 x_4, g21, g22, g23, g24, g25, g26, g27, g28, g29, g30, g31, g32, g33, g34, g35, g36, g37, g38, g39, g40, g41, g42, g43, g44, g45, g46, g47, g48, g49, g50, g51, g52, g53, g54, g55, g56, g57, g58, g59, g60, g61, g62, g63, g64, g65, g66, g67, g68, .slice Ax0 lx0 cx0, .int .i64 x18, .int .i64 x14, .int .i64 (IntKind.i64.wrap (x18 * x14)), .int .i64 x19, .int .i64 (IntKind.i64.wrap ((IntKind.i64.wrap (x18 * x14)) + x19)), .pointer p_2, .int .i64 x_4, g77, g78, g79, g80, g81, g82, g83, g84, g85, g86, g87, g88, g89, g90, g91, g92, g93, g94, g95, g96] M := by kernel_rfl
theorem k24_44 : subC (codeOf Try.f24) [1, 1, 1, 1, 0, 1, 0, 0, 1, 1, 0, 0, 1, 1, 1, 1] = .seq (subC (codeOf Try.f24) [1, 1, 1, 1, 0, 1, 0, 0, 1, 1, 0, 0, 1, 1, 1, 1, 0]) (subC (codeOf Try.f24) [1, 1, 1, 1, 0, 1, 0, 0, 1, 1, 0, 0, 1, 1, 1, 1, 1]) := by kernel_rfl
theorem k24_45 : subC (codeOf Try.f24) [1, 1, 1, 1, 0, 1, 0, 0, 1, 1, 0, 0, 1, 1, 1, 1, 0] = .region 11 (opsOf (subC (codeOf Try.f24) [1, 1, 1, 1, 0, 1, 0, 0, 1, 1, 0, 0, 1, 1, 1, 1, 0])) false := by kernel_rfl
theorem r24_11 {x20 : Int} {g0 g1 g2 g3 g4 g5 g6 g7 g8 g9 g10 g11 g12 g13 g14 g15 g16 g17 g18 g19 g21 g22 g23 g24 g25 g26 g27 g28 g29 g30 g31 g32 g33 g34 g35 g36 g37 g38 g39 g40 g41 g42 g43 g44 g45 g46 g47 g48 g49 g50 g51 g52 g53 g54 g55 g56 g57 g58 g59 g60 g61 g62 g63 g64 g65 g66 g67 g68 g69 g70 g71 g72 g73 g74 g75 g76 g77 g78 g79 g80 g81 g82 g83 g84 g85 g86 g87 g88 g89 g90 g91 g92 g93 g94 g95 g96 : Value} {M : Mem} {call : CallM} {K : Array Value → Mem → R} :
    opsK Try.prog (fun _ => call) (opsOf (subC (codeOf Try.f24) [1, 1, 1, 1, 0, 1, 0, 0, 1, 1, 0, 0, 1, 1, 1, 1, 0])) (opsOf (subC (codeOf Try.f24) [1, 1, 1, 1, 0, 1, 0, 0, 1, 1, 0, 0, 1, 1, 1, 1, 0])).toList 0 #[g0, g1, g2, g3, g4, g5, g6, g7, g8, g9, g10, g11, g12, g13, g14, g15, g16, g17, g18, g19, .int .i64 x20, g21, g22, g23, g24, g25, g26, g27, g28, g29, g30, g31, g32, g33, g34, g35, g36, g37, g38, g39, g40, g41, g42, g43, g44, g45, g46, g47, g48, g49, g50, g51, g52, g53, g54, g55, g56, g57, g58, g59, g60, g61, g62, g63, g64, g65, g66, g67, g68, g69, g70, g71, g72, g73, g74, g75, g76, g77, g78, g79, g80, g81, g82, g83, g84, g85, g86, g87, g88, g89, g90, g91, g92, g93, g94, g95, g96] M K = K #[g0, g1, g2, g3, g4, g5, g6, g7, g8, g9, g10, g11, g12, g13, g14, g15, g16, g17, g18, g19, .int .i64 x20, g21, g22, g23, g24, g25, g26, g27, g28, g29, g30, g31, g32, g33, g34, g35, g36, g37, g38, g39, g40, g41, g42, g43, g44, g45, g46, g47, g48, g49, g50, g51, g52, g53, g54, g55, g56, g57, g58, g59, g60, g61, g62, g63, g64, g65, g66, g67, g68, g69, g70, g71, g72, g73, g74, g75, g76, .int .i64 x20, .bool (decide (x20 ≥ 0)), g79, g80, g81, g82, g83, g84, g85, g86, g87, g88, g89, g90, g91, g92, g93, g94, g95, g96] M := by kernel_rfl
theorem c24_46 {x78 : Bool} {g0 g1 g2 g3 g4 g5 g6 g7 g8 g9 g10 g11 g12 g13 g14 g15 g16 g17 g18 g19 g20 g21 g22 g23 g24 g25 g26 g27 g28 g29 g30 g31 g32 g33 g34 g35 g36 g37 g38 g39 g40 g41 g42 g43 g44 g45 g46 g47 g48 g49 g50 g51 g52 g53 g54 g55 g56 g57 g58 g59 g60 g61 g62 g63 g64 g65 g66 g67 g68 g69 g70 g71 g72 g73 g74 g75 g76 g77 g79 g80 g81 g82 g83 g84 g85 g86 g87 g88 g89 g90 g91 g92 g93 g94 g95 g96 : Value} : subC (codeOf Try.f24) [1, 1, 1, 1, 0, 1, 0, 0, 1, 1, 0, 0, 1, 1, 1, 1, 1] = .cond (.tmp 78) (subC (codeOf Try.f24) [1, 1, 1, 1, 0, 1, 0, 0, 1, 1, 0, 0, 1, 1, 1, 1, 1, 0]) (subC (codeOf Try.f24) [1, 1, 1, 1, 0, 1, 0, 0, 1, 1, 0, 0, 1, 1, 1, 1, 1, 1]) ∧ okOperand (.tmp 78) = true ∧ evalT #[g0, g1, g2, g3, g4, g5, g6, g7, g8, g9, g10, g11, g12, g13, g14, g15, g16, g17, g18, g19, g20, g21, g22, g23, g24, g25, g26, g27, g28, g29, g30, g31, g32, g33, g34, g35, g36, g37, g38, g39, g40, g41, g42, g43, g44, g45, g46, g47, g48, g49, g50, g51, g52, g53, g54, g55, g56, g57, g58, g59, g60, g61, g62, g63, g64, g65, g66, g67, g68, g69, g70, g71, g72, g73, g74, g75, g76, g77, .bool x78, g79, g80, g81, g82, g83, g84, g85, g86, g87, g88, g89, g90, g91, g92, g93, g94, g95, g96] (.tmp 78) = .bool x78 := ⟨by kernel_rfl, by kernel_rfl, by kernel_rfl⟩
theorem k24_47 : subC (codeOf Try.f24) [1, 1, 1, 1, 0, 1, 0, 0, 1, 1, 0, 0, 1, 1, 1, 1, 1, 0] = .region 12 (opsOf (subC (codeOf Try.f24) [1, 1, 1, 1, 0, 1, 0, 0, 1, 1, 0, 0, 1, 1, 1, 1, 1, 0])) false := by kernel_rfl
theorem r24_12 {x3 : Int} {x15 : Int} {x20 : Int} {g0 g1 g2 g4 g5 g6 g7 g8 g9 g10 g11 g12 g13 g14 g16 g17 g18 g19 g21 g22 g23 g24 g25 g26 g27 g28 g29 g30 g31 g32 g33 g34 g35 g36 g37 g38 g39 g40 g41 g42 g43 g44 g45 g46 g47 g48 g49 g50 g51 g52 g53 g54 g55 g56 g57 g58 g59 g60 g61 g62 g63 g64 g65 g66 g67 g68 g69 g70 g71 g72 g73 g74 g75 g76 g77 g78 g79 g80 g81 g82 g83 g84 g85 g86 g87 g88 g89 g90 g91 g92 g93 g94 g95 g96 : Value} {M : Mem} {call : CallM} {K : Array Value → Mem → R} :
    opsK Try.prog (fun _ => call) (opsOf (subC (codeOf Try.f24) [1, 1, 1, 1, 0, 1, 0, 0, 1, 1, 0, 0, 1, 1, 1, 1, 1, 0])) (opsOf (subC (codeOf Try.f24) [1, 1, 1, 1, 0, 1, 0, 0, 1, 1, 0, 0, 1, 1, 1, 1, 1, 0])).toList 0 #[g0, g1, g2, .int .i64 x3, g4, g5, g6, g7, g8, g9, g10, g11, g12, g13, g14, .int .i64 x15, g16, g17, g18, g19, .int .i64 x20, g21, g22, g23, g24, g25, g26, g27, g28, g29, g30, g31, g32, g33, g34, g35, g36, g37, g38, g39, g40, g41, g42, g43, g44, g45, g46, g47, g48, g49, g50, g51, g52, g53, g54, g55, g56, g57, g58, g59, g60, g61, g62, g63, g64, g65, g66, g67, g68, g69, g70, g71, g72, g73, g74, g75, g76, g77, g78, g79, g80, g81, g82, g83, g84, g85, g86, g87, g88, g89, g90, g91, g92, g93, g94, g95, g96] M K = K #[g0, g1, g2, .int .i64 x3, g4, g5, g6, g7, g8, g9, g10, g11, g12, g13, g14, .int .i64 (IntKind.i64.wrap (x15 + (if x3 < x20 then x3 else x20))), g16, g17, g18, g19, .int .i64 x20, g21, g22, g23, g24, g25, g26, g27, g28, g29, g30, g31, g32, g33, g34, g35, g36, g37, g38, g39, g40, g41, g42, g43, g44, g45, g46, g47, g48, g49, g50, g51, g52, g53, g54, g55, g56, g57, g58, g59, g60, g61, g62, g63, g64, g65, g66, g67, g68, g69, g70, g71, g72, g73, g74, g75, g76, g77, g78, .int .i64 x15, .int .i64 x20, .int .i64 x3, .int .i64 (if x3 < x20 then x3 else x20), .int .i64 (IntKind.i64.wrap (x15 + (if x3 < x20 then x3 else x20))), g84, g85, g86, g87, g88, g89, g90, g91, g92, g93, g94, g95, g96] M := by kernel_rfl
theorem k24_48 : subC (codeOf Try.f24) [1, 1, 1, 1, 0, 1, 0, 0, 1, 1, 0, 0, 1, 1, 1, 1, 1, 1] = .region 13 (opsOf (subC (codeOf Try.f24) [1, 1, 1, 1, 0, 1, 0, 0, 1, 1, 0, 0, 1, 1, 1, 1, 1, 1])) false := by kernel_rfl
theorem r24_13 {x3 : Int} {x15 : Int} {x20 : Int} {g0 g1 g2 g4 g5 g6 g7 g8 g9 g10 g11 g12 g13 g14 g16 g17 g18 g19 g21 g22 g23 g24 g25 g26 g27 g28 g29 g30 g31 g32 g33 g34 g35 g36 g37 g38 g39 g40 g41 g42 g43 g44 g45 g46 g47 g48 g49 g50 g51 g52 g53 g54 g55 g56 g57 g58 g59 g60 g61 g62 g63 g64 g65 g66 g67 g68 g69 g70 g71 g72 g73 g74 g75 g76 g77 g78 g79 g80 g81 g82 g83 g84 g85 g86 g87 g88 g89 g90 g91 g92 g93 g94 g95 g96 : Value} {M : Mem} {call : CallM} {K : Array Value → Mem → R} :
    opsK Try.prog (fun _ => call) (opsOf (subC (codeOf Try.f24) [1, 1, 1, 1, 0, 1, 0, 0, 1, 1, 0, 0, 1, 1, 1, 1, 1, 1])) (opsOf (subC (codeOf Try.f24) [1, 1, 1, 1, 0, 1, 0, 0, 1, 1, 0, 0, 1, 1, 1, 1, 1, 1])).toList 0 #[g0, g1, g2, .int .i64 x3, g4, g5, g6, g7, g8, g9, g10, g11, g12, g13, g14, .int .i64 x15, g16, g17, g18, g19, .int .i64 x20, g21, g22, g23, g24, g25, g26, g27, g28, g29, g30, g31, g32, g33, g34, g35, g36, g37, g38, g39, g40, g41, g42, g43, g44, g45, g46, g47, g48, g49, g50, g51, g52, g53, g54, g55, g56, g57, g58, g59, g60, g61, g62, g63, g64, g65, g66, g67, g68, g69, g70, g71, g72, g73, g74, g75, g76, g77, g78, g79, g80, g81, g82, g83, g84, g85, g86, g87, g88, g89, g90, g91, g92, g93, g94, g95, g96] M K = K #[g0, g1, g2, .int .i64 x3, g4, g5, g6, g7, g8, g9, g10, g11, g12, g13, g14, .int .i64 (IntKind.i64.wrap (x15 + (IntKind.i64.wrap (0 - (if IntKind.i64.wrap (0 - x3) > x20 then IntKind.i64.wrap (0 - x3) else x20))))), g16, g17, g18, g19, .int .i64 x20, g21, g22, g23, g24, g25, g26, g27, g28, g29, g30, g31, g32, g33, g34, g35, g36, g37, g38, g39, g40, g41, g42, g43, g44, g45, g46, g47, g48, g49, g50, g51, g52, g53, g54, g55, g56, g57, g58, g59, g60, g61, g62, g63, g64, g65, g66, g67, g68, g69, g70, g71, g72, g73, g74, g75, g76, g77, g78, g79, g80, g81, g82, g83, .int .i64 x15, .int .i64 x20, .int .i64 x3, .int .i64 (IntKind.i64.wrap (0 - x3)), .int .i64 (if IntKind.i64.wrap (0 - x3) > x20 then IntKind.i64.wrap (0 - x3) else x20), .int .i64 (IntKind.i64.wrap (0 - (if IntKind.i64.wrap (0 - x3) > x20 then IntKind.i64.wrap (0 - x3) else x20))), .int .i64 (IntKind.i64.wrap (x15 + (IntKind.i64.wrap (0 - (if IntKind.i64.wrap (0 - x3) > x20 then IntKind.i64.wrap (0 - x3) else x20))))), g91, g92, g93, g94, g95, g96] M := by kernel_rfl
theorem k24_49 : subC (codeOf Try.f24) [1, 1, 1, 1, 0, 1, 0, 0, 1, 1, 1] = .region 14 (opsOf (subC (codeOf Try.f24) [1, 1, 1, 1, 0, 1, 0, 0, 1, 1, 1])) false := by kernel_rfl
theorem r24_14 {x45 : Int} {g0 g1 g2 g3 g4 g5 g6 g7 g8 g9 g10 g11 g12 g13 g14 g15 g16 g17 g18 g19 g20 g21 g22 g23 g24 g25 g26 g27 g28 g29 g30 g31 g32 g33 g34 g35 g36 g37 g38 g39 g40 g41 g42 g43 g44 g46 g47 g48 g49 g50 g51 g52 g53 g54 g55 g56 g57 g58 g59 g60 g61 g62 g63 g64 g65 g66 g67 g68 g69 g70 g71 g72 g73 g74 g75 g76 g77 g78 g79 g80 g81 g82 g83 g84 g85 g86 g87 g88 g89 g90 g91 g92 g93 g94 g95 g96 : Value} {M : Mem} {call : CallM} {K : Array Value → Mem → R} :
    opsK Try.prog (fun _ => call) (opsOf (subC (codeOf Try.f24) [1, 1, 1, 1, 0, 1, 0, 0, 1, 1, 1])) (opsOf (subC (codeOf Try.f24) [1, 1, 1, 1, 0, 1, 0, 0, 1, 1, 1])).toList 0 #[g0, g1, g2, g3, g4, g5, g6, g7, g8, g9, g10, g11, g12, g13, g14, g15, g16, g17, g18, g19, g20, g21, g22, g23, g24, g25, g26, g27, g28, g29, g30, g31, g32, g33, g34, g35, g36, g37, g38, g39, g40, g41, g42, g43, g44, .int .i64 x45, g46, g47, g48, g49, g50, g51, g52, g53, g54, g55, g56, g57, g58, g59, g60, g61, g62, g63, g64, g65, g66, g67, g68, g69, g70, g71, g72, g73, g74, g75, g76, g77, g78, g79, g80, g81, g82, g83, g84, g85, g86, g87, g88, g89, g90, g91, g92, g93, g94, g95, g96] M K = K #[g0, g1, g2, g3, g4, g5, g6, g7, g8, g9, g10, g11, g12, g13, g14, g15, g16, g17, g18, g19, g20, g21, g22, g23, g24, g25, g26, g27, g28, g29, g30, g31, g32, g33, g34, g35, g36, g37, g38, g39, g40, g41, g42, g43, g44, .int .i64 (IntKind.i64.wrap (x45 + 1)), g46, g47, g48, g49, g50, g51, g52, g53, g54, g55, g56, g57, g58, g59, g60, g61, g62, g63, g64, g65, g66, g67, g68, g69, g70, g71, g72, g73, g74, g75, g76, g77, g78, g79, g80, g81, g82, g83, g84, g85, g86, g87, g88, g89, g90, .int .i64 (IntKind.i64.wrap (x45 + 1)), g92, g93, g94, g95, g96] M := by kernel_rfl
noncomputable def S24_1 : List Item := [.code (subC (codeOf Try.f24) [1, 1, 0, 1]), .code (subC (codeOf Try.f24) [1, 1, 1])]
def A24_1 (Ax0 : Option Addr) (lx0 : Nat) (cx0 : Nat) (x2 : Int) (x3 : Int) (x4 : Int) (Ax5 : Option Addr) (lx5 : Nat) (cx5 : Nat) (x14 : Int) (x33 : Bool) (M : Mem) (Q : Value → Mem → Prop) : Prop := ∀ (g1 g6 g7 g8 g9 g10 g11 g12 g13 g15 g16 g17 g18 g19 g20 g21 g22 g23 g24 g25 g26 g27 g28 g29 g30 g31 g32 g34 g35 g36 g37 g38 g39 g40 g41 g42 g43 g44 g45 g46 g47 g48 g49 g50 g51 g52 g53 g54 g55 g56 g57 g58 g59 g60 g61 g62 g63 g64 g65 g66 g67 g68 g69 g70 g71 g72 g73 g74 g75 g76 g77 g78 g79 g80 g81 g82 g83 g84 g85 g86 g87 g88 g89 g90 g91 g92 g93 g94 g95 g96 : Value), Rg Try.prog Try.f24 (opsOf (subC (codeOf Try.f24) [1, 1, 0, 0])) false 11 S24_1 #[.slice Ax0 lx0 cx0, g1, .int .i64 x2, .int .i64 x3, .int .i64 x4, .slice Ax5 lx5 cx5, g6, g7, g8, g9, g10, g11, g12, g13, .int .i64 x14, g15, g16, g17, g18, g19, g20, g21, g22, g23, g24, g25, g26, g27, g28, g29, g30, g31, g32, .bool x33, g34, g35, g36, g37, g38, g39, g40, g41, g42, g43, g44, g45, g46, g47, g48, g49, g50, g51, g52, g53, g54, g55, g56, g57, g58, g59, g60, g61, g62, g63, g64, g65, g66, g67, g68, g69, g70, g71, g72, g73, g74, g75, g76, g77, g78, g79, g80, g81, g82, g83, g84, g85, g86, g87, g88, g89, g90, g91, g92, g93, g94, g95, g96] M Q
noncomputable def S24_2 : List Item := [.code (subC (codeOf Try.f24) [1, 1, 0, 1]), .code (subC (codeOf Try.f24) [1, 1, 1])]
def A24_2 (Ax0 : Option Addr) (lx0 : Nat) (cx0 : Nat) (x2 : Int) (x3 : Int) (x4 : Int) (Ax5 : Option Addr) (lx5 : Nat) (cx5 : Nat) (x14 : Int) (x37 : Bool) (M : Mem) (Q : Value → Mem → Prop) : Prop := ∀ (g1 g6 g7 g8 g9 g10 g11 g12 g13 g15 g16 g17 g18 g19 g20 g21 g22 g23 g24 g25 g26 g27 g28 g29 g30 g31 g32 g33 g34 g35 g36 g38 g39 g40 g41 g42 g43 g44 g45 g46 g47 g48 g49 g50 g51 g52 g53 g54 g55 g56 g57 g58 g59 g60 g61 g62 g63 g64 g65 g66 g67 g68 g69 g70 g71 g72 g73 g74 g75 g76 g77 g78 g79 g80 g81 g82 g83 g84 g85 g86 g87 g88 g89 g90 g91 g92 g93 g94 g95 g96 : Value), Rg Try.prog Try.f24 (opsOf (subC (codeOf Try.f24) [1, 1, 0, 0])) false 15 S24_2 #[.slice Ax0 lx0 cx0, g1, .int .i64 x2, .int .i64 x3, .int .i64 x4, .slice Ax5 lx5 cx5, g6, g7, g8, g9, g10, g11, g12, g13, .int .i64 x14, g15, g16, g17, g18, g19, g20, g21, g22, g23, g24, g25, g26, g27, g28, g29, g30, g31, g32, g33, g34, g35, g36, .bool x37, g38, g39, g40, g41, g42, g43, g44, g45, g46, g47, g48, g49, g50, g51, g52, g53, g54, g55, g56, g57, g58, g59, g60, g61, g62, g63, g64, g65, g66, g67, g68, g69, g70, g71, g72, g73, g74, g75, g76, g77, g78, g79, g80, g81, g82, g83, g84, g85, g86, g87, g88, g89, g90, g91, g92, g93, g94, g95, g96] M Q
noncomputable def S24_3 : List Item := [.code (subC (codeOf Try.f24) [1, 1, 0, 1]), .code (subC (codeOf Try.f24) [1, 1, 1])]
def A24_3 (Ax0 : Option Addr) (lx0 : Nat) (cx0 : Nat) (x2 : Int) (x3 : Int) (x4 : Int) (Ax5 : Option Addr) (lx5 : Nat) (cx5 : Nat) (x14 : Int) (x42 : Bool) (M : Mem) (Q : Value → Mem → Prop) : Prop := ∀ (g1 g6 g7 g8 g9 g10 g11 g12 g13 g15 g16 g17 g18 g19 g20 g21 g22 g23 g24 g25 g26 g27 g28 g29 g30 g31 g32 g33 g34 g35 g36 g37 g38 g39 g40 g41 g43 g44 g45 g46 g47 g48 g49 g50 g51 g52 g53 g54 g55 g56 g57 g58 g59 g60 g61 g62 g63 g64 g65 g66 g67 g68 g69 g70 g71 g72 g73 g74 g75 g76 g77 g78 g79 g80 g81 g82 g83 g84 g85 g86 g87 g88 g89 g90 g91 g92 g93 g94 g95 g96 : Value), Rn Try.prog Try.f24 S24_3 #[.slice Ax0 lx0 cx0, g1, .int .i64 x2, .int .i64 x3, .int .i64 x4, .slice Ax5 lx5 cx5, g6, g7, g8, g9, g10, g11, g12, g13, .int .i64 x14, g15, g16, g17, g18, g19, g20, g21, g22, g23, g24, g25, g26, g27, g28, g29, g30, g31, g32, g33, g34, g35, g36, g37, g38, g39, g40, g41, .bool x42, g43, g44, g45, g46, g47, g48, g49, g50, g51, g52, g53, g54, g55, g56, g57, g58, g59, g60, g61, g62, g63, g64, g65, g66, g67, g68, g69, g70, g71, g72, g73, g74, g75, g76, g77, g78, g79, g80, g81, g82, g83, g84, g85, g86, g87, g88, g89, g90, g91, g92, g93, g94, g95, g96] M Q
noncomputable def S24_4 : List Item := [.code (subC (codeOf Try.f24) [1, 1, 1, 1, 0, 1, 0, 0]), .inLoop (subC (codeOf Try.f24) [1, 1, 1, 1, 0, 1, 0, 0]), .inBlock 0, .code (subC (codeOf Try.f24) [1, 1, 1, 1, 1])]
def A24_4 (Ax0 : Option Addr) (lx0 : Nat) (cx0 : Nat) (x2 : Int) (x3 : Int) (x4 : Int) (x14 : Int) (x15 : Int) (Ax43 : Option Addr) (lx43 : Nat) (cx43 : Nat) (x44 : Int) (x45 : Int) (M : Mem) (Q : Value → Mem → Prop) : Prop := ∀ (g1 g5 g6 g7 g8 g9 g10 g11 g12 g13 g16 g17 g18 g19 g20 g21 g22 g23 g24 g25 g26 g27 g28 g29 g30 g31 g32 g33 g34 g35 g36 g37 g38 g39 g40 g41 g42 g46 g47 g48 g49 g50 g51 g52 g53 g54 g55 g56 g57 g58 g59 g60 g61 g62 g63 g64 g65 g66 g67 g68 g69 g70 g71 g72 g73 g74 g75 g76 g77 g78 g79 g80 g81 g82 g83 g84 g85 g86 g87 g88 g89 g90 g91 g92 g93 g94 g95 g96 : Value), Rn Try.prog Try.f24 S24_4 #[.slice Ax0 lx0 cx0, g1, .int .i64 x2, .int .i64 x3, .int .i64 x4, g5, g6, g7, g8, g9, g10, g11, g12, g13, .int .i64 x14, .int .i64 x15, g16, g17, g18, g19, g20, g21, g22, g23, g24, g25, g26, g27, g28, g29, g30, g31, g32, g33, g34, g35, g36, g37, g38, g39, g40, g41, g42, .slice Ax43 lx43 cx43, .int .i64 x44, .int .i64 x45, g46, g47, g48, g49, g50, g51, g52, g53, g54, g55, g56, g57, g58, g59, g60, g61, g62, g63, g64, g65, g66, g67, g68, g69, g70, g71, g72, g73, g74, g75, g76, g77, g78, g79, g80, g81, g82, g83, g84, g85, g86, g87, g88, g89, g90, g91, g92, g93, g94, g95, g96] M Q
noncomputable def S24_5 : List Item := [.code (subC (codeOf Try.f24) [1, 1, 1, 1, 0, 1, 0, 0, 1, 1, 0, 0, 1, 1, 0, 1]), .code (subC (codeOf Try.f24) [1, 1, 1, 1, 0, 1, 0, 0, 1, 1, 0, 0, 1, 1, 1]), .inBlock 1, .code (subC (codeOf Try.f24) [1, 1, 1, 1, 0, 1, 0, 0, 1, 1, 1]), .inLoop (subC (codeOf Try.f24) [1, 1, 1, 1, 0, 1, 0, 0]), .inBlock 0, .code (subC (codeOf Try.f24) [1, 1, 1, 1, 1])]
def A24_5 (Ax0 : Option Addr) (lx0 : Nat) (cx0 : Nat) (x2 : Int) (x3 : Int) (x4 : Int) (x14 : Int) (x15 : Int) (x18 : Int) (x19 : Int) (Ax43 : Option Addr) (lx43 : Nat) (cx43 : Nat) (x44 : Int) (x45 : Int) (x68 : Bool) (M : Mem) (Q : Value → Mem → Prop) : Prop := ∀ (g1 g5 g6 g7 g8 g9 g10 g11 g12 g13 g16 g17 g20 g21 g22 g23 g24 g25 g26 g27 g28 g29 g30 g31 g32 g33 g34 g35 g36 g37 g38 g39 g40 g41 g42 g46 g47 g48 g49 g50 g51 g52 g53 g54 g55 g56 g57 g58 g59 g60 g61 g62 g63 g64 g65 g66 g67 g69 g70 g71 g72 g73 g74 g75 g76 g77 g78 g79 g80 g81 g82 g83 g84 g85 g86 g87 g88 g89 g90 g91 g92 g93 g94 g95 g96 : Value), Rn Try.prog Try.f24 S24_5 #[.slice Ax0 lx0 cx0, g1, .int .i64 x2, .int .i64 x3, .int .i64 x4, g5, g6, g7, g8, g9, g10, g11, g12, g13, .int .i64 x14, .int .i64 x15, g16, g17, .int .i64 x18, .int .i64 x19, g20, g21, g22, g23, g24, g25, g26, g27, g28, g29, g30, g31, g32, g33, g34, g35, g36, g37, g38, g39, g40, g41, g42, .slice Ax43 lx43 cx43, .int .i64 x44, .int .i64 x45, g46, g47, g48, g49, g50, g51, g52, g53, g54, g55, g56, g57, g58, g59, g60, g61, g62, g63, g64, g65, g66, g67, .bool x68, g69, g70, g71, g72, g73, g74, g75, g76, g77, g78, g79, g80, g81, g82, g83, g84, g85, g86, g87, g88, g89, g90, g91, g92, g93, g94, g95, g96] M Q
noncomputable def S24_6 : List Item := [.code (subC (codeOf Try.f24) [1, 1, 1, 1, 0, 1, 0, 0, 1, 1, 1]), .inLoop (subC (codeOf Try.f24) [1, 1, 1, 1, 0, 1, 0, 0]), .inBlock 0, .code (subC (codeOf Try.f24) [1, 1, 1, 1, 1])]
def A24_6 (Ax0 : Option Addr) (lx0 : Nat) (cx0 : Nat) (x2 : Int) (x3 : Int) (x4 : Int) (x14 : Int) (x15 : Int) (Ax43 : Option Addr) (lx43 : Nat) (cx43 : Nat) (x44 : Int) (x45 : Int) (M : Mem) (Q : Value → Mem → Prop) : Prop := ∀ (g1 g5 g6 g7 g8 g9 g10 g11 g12 g13 g16 g17 g18 g19 g20 g21 g22 g23 g24 g25 g26 g27 g28 g29 g30 g31 g32 g33 g34 g35 g36 g37 g38 g39 g40 g41 g42 g46 g47 g48 g49 g50 g51 g52 g53 g54 g55 g56 g57 g58 g59 g60 g61 g62 g63 g64 g65 g66 g67 g68 g69 g70 g71 g72 g73 g74 g75 g76 g77 g78 g79 g80 g81 g82 g83 g84 g85 g86 g87 g88 g89 g90 g91 g92 g93 g94 g95 g96 : Value), Rn Try.prog Try.f24 S24_6 #[.slice Ax0 lx0 cx0, g1, .int .i64 x2, .int .i64 x3, .int .i64 x4, g5, g6, g7, g8, g9, g10, g11, g12, g13, .int .i64 x14, .int .i64 x15, g16, g17, g18, g19, g20, g21, g22, g23, g24, g25, g26, g27, g28, g29, g30, g31, g32, g33, g34, g35, g36, g37, g38, g39, g40, g41, g42, .slice Ax43 lx43 cx43, .int .i64 x44, .int .i64 x45, g46, g47, g48, g49, g50, g51, g52, g53, g54, g55, g56, g57, g58, g59, g60, g61, g62, g63, g64, g65, g66, g67, g68, g69, g70, g71, g72, g73, g74, g75, g76, g77, g78, g79, g80, g81, g82, g83, g84, g85, g86, g87, g88, g89, g90, g91, g92, g93, g94, g95, g96] M Q
theorem w24_0 {Ax0 : Option Addr} {lx0 : Nat} {cx0 : Nat} {x1 : Int} {x2 : Int} {x3 : Int} {x4 : Int} {Ax5 : Option Addr} {lx5 : Nat} {cx5 : Nat} {M : Mem} {Q : Value → Mem → Prop} (H :
    Cn Try.prog 21 #[.int .i64 x1] M fun v1' N1' =>
     ∃ x2', asI .i64 v1' = some x2' ∧
     ((x2' = 0 →
      A24_1 Ax0 lx0 cx0 x2 x3 x4 Ax5 lx5 cx5 x2' true N1' Q) ∧
      (x2' ≠ 0 →
      A24_1 Ax0 lx0 cx0 x2 x3 x4 Ax5 lx5 cx5 x2' (((lx0 : Int)) != (IntKind.i64.wrap (x2' * x2'))) N1' Q))) :
    Cn Try.prog 24 #[.slice Ax0 lx0 cx0, .int .i64 x1, .int .i64 x2, .int .i64 x3, .int .i64 x4, .slice Ax5 lx5 cx5] M Q := by
  refine Cn.of b24 d24 t24 ?_
  refine Rn.seq k24_0 ?_
  refine Rn.region k24_1 (fun call K => r24_0) ?_
  refine Rch.leaf ?_
  refine Rn.seq k24_2 ?_
  refine Rn.region k24_3 (fun call K => r24_1) ?_
  refine Rch.call H (fun v1' N1' H => ?_)
  obtain ⟨x2', hx2', H⟩ := H
  refine Rch.bind hx2' ?_
  refine Rch.leaf ?_
  refine Rn.seq k24_4 ?_
  refine Rn.seq k24_5 ?_
  refine Rn.regionC k24_7 ?_
  refine Rg.step (d := 11) (j := 11) (fun call K => r24_2p0) rfl rfl ?_
  refine Rch.cB (fun h => ?_) (fun h => ?_)
  · replace H := H.1 (eq_of_beq h)
    refine Rch.rest ?_
    exact H _ _ _ _ _ _ _ _ _ _ _ _ _ _ _ _ _ _ _ _ _ _ _ _ _ _ _ _ _ _ _ _ _ _ _ _ _ _ _ _ _ _ _ _ _ _ _ _ _ _ _ _ _ _ _ _ _ _ _ _ _ _ _ _ _ _ _ _ _ _ _ _ _ _ _ _ _ _ _ _ _ _ _ _ _ _ _ _ _ _
  · replace H := H.2 (ne_of_beq_false h)
    refine Rch.rest ?_
    exact H _ _ _ _ _ _ _ _ _ _ _ _ _ _ _ _ _ _ _ _ _ _ _ _ _ _ _ _ _ _ _ _ _ _ _ _ _ _ _ _ _ _ _ _ _ _ _ _ _ _ _ _ _ _ _ _ _ _ _ _ _ _ _ _ _ _ _ _ _ _ _ _ _ _ _ _ _ _ _ _ _ _ _ _ _ _ _ _ _ _

theorem w24_1 {Ax0 : Option Addr} {lx0 : Nat} {cx0 : Nat} {x2 : Int} {x3 : Int} {x4 : Int} {Ax5 : Option Addr} {lx5 : Nat} {cx5 : Nat} {x14 : Int} {x33 : Bool} {M : Mem} {Q : Value → Mem → Prop} (H :
    ((x33 = true →
     A24_2 Ax0 lx0 cx0 x2 x3 x4 Ax5 lx5 cx5 x14 true M Q) ∧
     (x33 = false →
     A24_2 Ax0 lx0 cx0 x2 x3 x4 Ax5 lx5 cx5 x14 (decide (x2 < 0)) M Q))) :
    A24_1 Ax0 lx0 cx0 x2 x3 x4 Ax5 lx5 cx5 x14 x33 M Q := by
  intro g1 g6 g7 g8 g9 g10 g11 g12 g13 g15 g16 g17 g18 g19 g20 g21 g22 g23 g24 g25 g26 g27 g28 g29 g30 g31 g32 g34 g35 g36 g37 g38 g39 g40 g41 g42 g43 g44 g45 g46 g47 g48 g49 g50 g51 g52 g53 g54 g55 g56 g57 g58 g59 g60 g61 g62 g63 g64 g65 g66 g67 g68 g69 g70 g71 g72 g73 g74 g75 g76 g77 g78 g79 g80 g81 g82 g83 g84 g85 g86 g87 g88 g89 g90 g91 g92 g93 g94 g95 g96
  refine Rg.step (d := 4) (j := 15) (fun call K => r24_2p11) rfl rfl ?_
  refine Rch.cB (fun h => ?_) (fun h => ?_)
  · replace H := H.1 (h)
    refine Rch.rest ?_
    exact H _ _ _ _ _ _ _ _ _ _ _ _ _ _ _ _ _ _ _ _ _ _ _ _ _ _ _ _ _ _ _ _ _ _ _ _ _ _ _ _ _ _ _ _ _ _ _ _ _ _ _ _ _ _ _ _ _ _ _ _ _ _ _ _ _ _ _ _ _ _ _ _ _ _ _ _ _ _ _ _ _ _ _ _ _ _ _ _ _ _
  · replace H := H.2 (h)
    refine Rch.rest ?_
    exact H _ _ _ _ _ _ _ _ _ _ _ _ _ _ _ _ _ _ _ _ _ _ _ _ _ _ _ _ _ _ _ _ _ _ _ _ _ _ _ _ _ _ _ _ _ _ _ _ _ _ _ _ _ _ _ _ _ _ _ _ _ _ _ _ _ _ _ _ _ _ _ _ _ _ _ _ _ _ _ _ _ _ _ _ _ _ _ _ _ _

theorem w24_2 {Ax0 : Option Addr} {lx0 : Nat} {cx0 : Nat} {x2 : Int} {x3 : Int} {x4 : Int} {Ax5 : Option Addr} {lx5 : Nat} {cx5 : Nat} {x14 : Int} {x37 : Bool} {M : Mem} {Q : Value → Mem → Prop} (H :
    ((x37 = true →
     A24_3 Ax0 lx0 cx0 x2 x3 x4 Ax5 lx5 cx5 x14 true M Q) ∧
     (x37 = false →
     A24_3 Ax0 lx0 cx0 x2 x3 x4 Ax5 lx5 cx5 x14 (decide (x2 ≥ ((lx0 : Int)))) M Q))) :
    A24_2 Ax0 lx0 cx0 x2 x3 x4 Ax5 lx5 cx5 x14 x37 M Q := by
  intro g1 g6 g7 g8 g9 g10 g11 g12 g13 g15 g16 g17 g18 g19 g20 g21 g22 g23 g24 g25 g26 g27 g28 g29 g30 g31 g32 g33 g34 g35 g36 g38 g39 g40 g41 g42 g43 g44 g45 g46 g47 g48 g49 g50 g51 g52 g53 g54 g55 g56 g57 g58 g59 g60 g61 g62 g63 g64 g65 g66 g67 g68 g69 g70 g71 g72 g73 g74 g75 g76 g77 g78 g79 g80 g81 g82 g83 g84 g85 g86 g87 g88 g89 g90 g91 g92 g93 g94 g95 g96
  refine Rg.step (d := 5) (j := 20) (fun call K => r24_2p15) rfl rfl ?_
  refine Rch.cB (fun h => ?_) (fun h => ?_)
  · replace H := H.1 (h)
    refine Rch.rest ?_
    refine Rg.done rfl ?_
    exact H _ _ _ _ _ _ _ _ _ _ _ _ _ _ _ _ _ _ _ _ _ _ _ _ _ _ _ _ _ _ _ _ _ _ _ _ _ _ _ _ _ _ _ _ _ _ _ _ _ _ _ _ _ _ _ _ _ _ _ _ _ _ _ _ _ _ _ _ _ _ _ _ _ _ _ _ _ _ _ _ _ _ _ _ _ _ _ _ _ _
  · replace H := H.2 (h)
    refine Rch.rest ?_
    refine Rg.done rfl ?_
    exact H _ _ _ _ _ _ _ _ _ _ _ _ _ _ _ _ _ _ _ _ _ _ _ _ _ _ _ _ _ _ _ _ _ _ _ _ _ _ _ _ _ _ _ _ _ _ _ _ _ _ _ _ _ _ _ _ _ _ _ _ _ _ _ _ _ _ _ _ _ _ _ _ _ _ _ _ _ _ _ _ _ _ _ _ _ _ _ _ _ _

theorem w24_3 {Ax0 : Option Addr} {lx0 : Nat} {cx0 : Nat} {x2 : Int} {x3 : Int} {x4 : Int} {Ax5 : Option Addr} {lx5 : Nat} {cx5 : Nat} {x14 : Int} {x42 : Bool} {M : Mem} {Q : Value → Mem → Prop} (H :
    ((x42 = true →
     Q (.tuple #[.int .i64 0, .int .i64 2]) M) ∧
     (x42 = false →
     A24_4 Ax0 lx0 cx0 x2 x3 x4 x14 0 Ax5 lx5 cx5 (lx5 : Int) 0 M Q))) :
    A24_3 Ax0 lx0 cx0 x2 x3 x4 Ax5 lx5 cx5 x14 x42 M Q := by
  intro g1 g6 g7 g8 g9 g10 g11 g12 g13 g15 g16 g17 g18 g19 g20 g21 g22 g23 g24 g25 g26 g27 g28 g29 g30 g31 g32 g33 g34 g35 g36 g37 g38 g39 g40 g41 g43 g44 g45 g46 g47 g48 g49 g50 g51 g52 g53 g54 g55 g56 g57 g58 g59 g60 g61 g62 g63 g64 g65 g66 g67 g68 g69 g70 g71 g72 g73 g74 g75 g76 g77 g78 g79 g80 g81 g82 g83 g84 g85 g86 g87 g88 g89 g90 g91 g92 g93 g94 g95 g96
  refine Rn.cnd c24_8 (fun h => ?_) (fun h => ?_)
  · replace H := H.1 (h)
    refine Rn.seq k24_9 ?_
    refine Rn.region k24_10 (fun call K => r24_3) ?_
    refine Rch.leaf ?_
    exact Rn.ret k24_11 e24 H
  · replace H := H.2 (h)
    refine Rn.skip k24_13 ?_
    refine Rn.seq k24_14 ?_
    refine Rn.region k24_15 (fun call K => r24_4) ?_
    refine Rch.leaf ?_
    refine Rn.seq k24_16 ?_
    refine Rn.seq k24_17 ?_
    refine Rn.region k24_18 (fun call K => r24_5) ?_
    refine Rch.leaf ?_
    refine Rn.block k24_19 ?_
    refine Rn.loop k24_20 ?_
    exact H _ _ _ _ _ _ _ _ _ _ _ _ _ _ _ _ _ _ _ _ _ _ _ _ _ _ _ _ _ _ _ _ _ _ _ _ _ _ _ _ _ _ _ _ _ _ _ _ _ _ _ _ _ _ _ _ _ _ _ _ _ _ _ _ _ _ _ _ _ _ _ _ _ _ _ _ _ _ _ _ _ _ _ _ _ _ _ _

theorem w24_4 {Ax0 : Option Addr} {lx0 : Nat} {cx0 : Nat} {x2 : Int} {x3 : Int} {x4 : Int} {x14 : Int} {x15 : Int} {Ax43 : Option Addr} {lx43 : Nat} {cx43 : Nat} {x44 : Int} {x45 : Int} {M : Mem} {Q : Value → Mem → Prop} (H :
    ((x45 < x44 →
     ∃ v3', indexAddrP Try.prog 44 (.slice Ax43 lx43 cx43) (.int .i64 x45) = some v3' ∧
     ∃ p4', asP v3' = some p4' ∧
     ∃ a5', p4' = some a5' ∧
     ∃ x6', M.intAt .i64 a5'.block a5'.off = some x6' ∧
     ∃ x7', M.intAt .i64 a5'.block (a5'.off + 1) = some x7' ∧
     ∃ M8', (M.new (.cells #[.int .i64 0, .int .i64 0] 43)).put (2 * M.nb.size) 0 (.int .i64 x6') = some M8' ∧
     ∃ M9', M8'.put (2 * M.nb.size) 1 (.int .i64 x7') = some M9' ∧
     ∃ v10', binV Try.prog .quo 3 3 (.int .i64 x2) (.int .i64 x14) = some v10' ∧
     ∃ x11', asI .i64 v10' = some x11' ∧
     ∃ v12', fieldAddrP Try.prog 43 (.pointer (some ⟨2 * M.nb.size, 0, none⟩)) 0 = some v12' ∧
     ∃ p13', asP v12' = some p13' ∧
     ∃ a14', p13' = some a14' ∧
     ∃ x15', M9'.intAt .i64 a14'.block a14'.off = some x15' ∧
     ∃ v16', binV Try.prog .rem 3 3 (.int .i64 x2) (.int .i64 x14) = some v16' ∧
     ∃ x17', asI .i64 v16' = some x17' ∧
     ∃ v18', fieldAddrP Try.prog 43 (.pointer (some ⟨2 * M.nb.size, 0, none⟩)) 1 = some v18' ∧
     ∃ p19', asP v18' = some p19' ∧
     ∃ a20', p19' = some a20' ∧
     ∃ x21', M9'.intAt .i64 a20'.block a20'.off = some x21' ∧
     (((IntKind.i64.wrap (x11' + x15')) ≥ x14 →
      A24_5 Ax0 lx0 cx0 x2 x3 x4 x14 x15 (IntKind.i64.wrap (x11' + x15')) (IntKind.i64.wrap (x17' + x21')) Ax43 lx43 cx43 x44 x45 true M9' Q) ∧
      (¬ ((IntKind.i64.wrap (x11' + x15')) ≥ x14) →
      A24_5 Ax0 lx0 cx0 x2 x3 x4 x14 x15 (IntKind.i64.wrap (x11' + x15')) (IntKind.i64.wrap (x17' + x21')) Ax43 lx43 cx43 x44 x45 (decide ((IntKind.i64.wrap (x17' + x21')) ≥ x14)) M9' Q))) ∧
     (¬ (x45 < x44) →
     Q (.tuple #[.int .i64 (if x4 < IntKind.i64.wrap ((IntKind.i64.wrap (x15 + 1)).tdiv 2) then x4 else IntKind.i64.wrap ((IntKind.i64.wrap (x15 + 1)).tdiv 2)), .int .i64 0]) M))) :
    A24_4 Ax0 lx0 cx0 x2 x3 x4 x14 x15 Ax43 lx43 cx43 x44 x45 M Q := by
  intro g1 g5 g6 g7 g8 g9 g10 g11 g12 g13 g16 g17 g18 g19 g20 g21 g22 g23 g24 g25 g26 g27 g28 g29 g30 g31 g32 g33 g34 g35 g36 g37 g38 g39 g40 g41 g42 g46 g47 g48 g49 g50 g51 g52 g53 g54 g55 g56 g57 g58 g59 g60 g61 g62 g63 g64 g65 g66 g67 g68 g69 g70 g71 g72 g73 g74 g75 g76 g77 g78 g79 g80 g81 g82 g83 g84 g85 g86 g87 g88 g89 g90 g91 g92 g93 g94 g95 g96
  refine Rn.seq k24_21 ?_
  refine Rn.region k24_22 (fun call K => r24_6) ?_
  refine Rch.leaf ?_
  refine Rn.seq k24_23 ?_
  refine Rn.cnd c24_24 (fun h => ?_) (fun h => ?_)
  · replace H := H.1 (of_decide_eq_true h)
    refine Rn.skip k24_25 ?_
    refine Rn.seq k24_26 ?_
    refine Rn.block k24_27 ?_
    refine Rn.seq k24_28 ?_
    refine Rn.region k24_29 (fun call K => r24_7) ?_
    obtain ⟨v3', hv3', H⟩ := H
    refine Rch.bind hv3' ?_
    obtain ⟨p4', hp4', H⟩ := H
    refine Rch.bind hp4' ?_
    obtain ⟨a5', ha5', H⟩ := H
    refine Rch.bind ha5' ?_
    obtain ⟨x6', hx6', H⟩ := H
    refine Rch.bind hx6' ?_
    obtain ⟨x7', hx7', H⟩ := H
    refine Rch.bind hx7' ?_
    obtain ⟨M8', hM8', H⟩ := H
    refine Rch.bind hM8' ?_
    obtain ⟨M9', hM9', H⟩ := H
    refine Rch.bind hM9' ?_
    refine Rch.leaf ?_
    refine Rn.seq k24_30 ?_
    refine Rn.regionD k24_31 (fun call K => r24_8) ?_
    obtain ⟨v10', hv10', H⟩ := H
    refine Rch.bind hv10' ?_
    obtain ⟨x11', hx11', H⟩ := H
    refine Rch.bind hx11' ?_
    obtain ⟨v12', hv12', H⟩ := H
    refine Rch.bind hv12' ?_
    obtain ⟨p13', hp13', H⟩ := H
    refine Rch.bind hp13' ?_
    obtain ⟨a14', ha14', H⟩ := H
    refine Rch.bind ha14' ?_
    obtain ⟨x15', hx15', H⟩ := H
    refine Rch.bind hx15' ?_
    obtain ⟨v16', hv16', H⟩ := H
    refine Rch.bind hv16' ?_
    obtain ⟨x17', hx17', H⟩ := H
    refine Rch.bind hx17' ?_
    obtain ⟨v18', hv18', H⟩ := H
    refine Rch.bind hv18' ?_
    obtain ⟨p19', hp19', H⟩ := H
    refine Rch.bind hp19' ?_
    obtain ⟨a20', ha20', H⟩ := H
    refine Rch.bind ha20' ?_
    obtain ⟨x21', hx21', H⟩ := H
    refine Rch.bind hx21' ?_
    refine Rch.leaf ?_
    refine Rn.seq k24_32 ?_
    refine Rn.seq k24_33 ?_
    refine Rn.region k24_34 (fun call K => r24_9) ?_
    refine Rch.cB (fun h => ?_) (fun h => ?_)
    · replace H := H.1 (of_decide_eq_true h)
      refine Rch.leaf ?_
      exact H _ _ _ _ _ _ _ _ _ _ _ _ _ _ _ _ _ _ _ _ _ _ _ _ _ _ _ _ _ _ _ _ _ _ _ _ _ _ _ _ _ _ _ _ _ _ _ _ _ _ _ _ _ _ _ _ _ _ _ _ _ _ _ _ _ _ _ _ _ _ _ _ _ _ _ _ _ _ _ _ _ _ _ _ _
    · replace H := H.2 (of_decide_eq_false h)
      refine Rch.leaf ?_
      exact H _ _ _ _ _ _ _ _ _ _ _ _ _ _ _ _ _ _ _ _ _ _ _ _ _ _ _ _ _ _ _ _ _ _ _ _ _ _ _ _ _ _ _ _ _ _ _ _ _ _ _ _ _ _ _ _ _ _ _ _ _ _ _ _ _ _ _ _ _ _ _ _ _ _ _ _ _ _ _ _ _ _ _ _ _
  · replace H := H.2 (of_decide_eq_false h)
    refine Rn.exit k24_35 rfl ?_
    refine Rn.seq k24_36 ?_
    refine Rn.region k24_37 (fun call K => r24_15) ?_
    refine Rch.leaf ?_
    exact Rn.ret k24_38 e24 H

theorem w24_5 {Ax0 : Option Addr} {lx0 : Nat} {cx0 : Nat} {x2 : Int} {x3 : Int} {x4 : Int} {x14 : Int} {x15 : Int} {x18 : Int} {x19 : Int} {Ax43 : Option Addr} {lx43 : Nat} {cx43 : Nat} {x44 : Int} {x45 : Int} {x68 : Bool} {M : Mem} {Q : Value → Mem → Prop} (H :
    ((x68 = true →
     A24_6 Ax0 lx0 cx0 x2 x3 x4 x14 x15 Ax43 lx43 cx43 x44 x45 M Q) ∧
     (x68 = false →
     ∃ v22', indexAddrP Try.prog 22 (.slice Ax0 lx0 cx0) (.int .i64 (IntKind.i64.wrap ((IntKind.i64.wrap (x18 * x14)) + x19))) = some v22' ∧
     ∃ p23', asP v22' = some p23' ∧
     ∃ a24', p23' = some a24' ∧
     ∃ x25', M.intAt .i64 a24'.block a24'.off = some x25' ∧
     ((x25' ≥ 0 →
      A24_6 Ax0 lx0 cx0 x2 x3 x4 x14 (IntKind.i64.wrap (x15 + (if x3 < x25' then x3 else x25'))) Ax43 lx43 cx43 x44 x45 M Q) ∧
      (¬ (x25' ≥ 0) →
      A24_6 Ax0 lx0 cx0 x2 x3 x4 x14 (IntKind.i64.wrap (x15 + (IntKind.i64.wrap (0 - (if IntKind.i64.wrap (0 - x3) > x25' then IntKind.i64.wrap (0 - x3) else x25'))))) Ax43 lx43 cx43 x44 x45 M Q))))) :
    A24_5 Ax0 lx0 cx0 x2 x3 x4 x14 x15 x18 x19 Ax43 lx43 cx43 x44 x45 x68 M Q := by
  intro g1 g5 g6 g7 g8 g9 g10 g11 g12 g13 g16 g17 g20 g21 g22 g23 g24 g25 g26 g27 g28 g29 g30 g31 g32 g33 g34 g35 g36 g37 g38 g39 g40 g41 g42 g46 g47 g48 g49 g50 g51 g52 g53 g54 g55 g56 g57 g58 g59 g60 g61 g62 g63 g64 g65 g66 g67 g69 g70 g71 g72 g73 g74 g75 g76 g77 g78 g79 g80 g81 g82 g83 g84 g85 g86 g87 g88 g89 g90 g91 g92 g93 g94 g95 g96
  refine Rn.cnd c24_39 (fun h => ?_) (fun h => ?_)
  · replace H := H.1 (h)
    refine Rn.exit k24_40 rfl ?_
    exact H _ _ _ _ _ _ _ _ _ _ _ _ _ _ _ _ _ _ _ _ _ _ _ _ _ _ _ _ _ _ _ _ _ _ _ _ _ _ _ _ _ _ _ _ _ _ _ _ _ _ _ _ _ _ _ _ _ _ _ _ _ _ _ _ _ _ _ _ _ _ _ _ _ _ _ _ _ _ _ _ _ _ _ _ _ _ _ _
  · replace H := H.2 (h)
    refine Rn.skip k24_41 ?_
    refine Rn.seq k24_42 ?_
    refine Rn.region k24_43 (fun call K => r24_10) ?_
    obtain ⟨v22', hv22', H⟩ := H
    refine Rch.bind hv22' ?_
    obtain ⟨p23', hp23', H⟩ := H
    refine Rch.bind hp23' ?_
    obtain ⟨a24', ha24', H⟩ := H
    refine Rch.bind ha24' ?_
    obtain ⟨x25', hx25', H⟩ := H
    refine Rch.bind hx25' ?_
    refine Rch.leaf ?_
    refine Rn.seq k24_44 ?_
    refine Rn.region k24_45 (fun call K => r24_11) ?_
    refine Rch.leaf ?_
    refine Rn.cnd c24_46 (fun h => ?_) (fun h => ?_)
    · replace H := H.1 (of_decide_eq_true h)
      refine Rn.region k24_47 (fun call K => r24_12) ?_
      refine Rch.leaf ?_
      refine Rn.blk ?_
      exact H _ _ _ _ _ _ _ _ _ _ _ _ _ _ _ _ _ _ _ _ _ _ _ _ _ _ _ _ _ _ _ _ _ _ _ _ _ _ _ _ _ _ _ _ _ _ _ _ _ _ _ _ _ _ _ _ _ _ _ _ _ _ _ _ _ _ _ _ _ _ _ _ _ _ _ _ _ _ _ _ _ _ _ _ _ _ _ _
    · replace H := H.2 (of_decide_eq_false h)
      refine Rn.region k24_48 (fun call K => r24_13) ?_
      refine Rch.leaf ?_
      refine Rn.blk ?_
      exact H _ _ _ _ _ _ _ _ _ _ _ _ _ _ _ _ _ _ _ _ _ _ _ _ _ _ _ _ _ _ _ _ _ _ _ _ _ _ _ _ _ _ _ _ _ _ _ _ _ _ _ _ _ _ _ _ _ _ _ _ _ _ _ _ _ _ _ _ _ _ _ _ _ _ _ _ _ _ _ _ _ _ _ _ _ _ _ _

theorem w24_6 {Ax0 : Option Addr} {lx0 : Nat} {cx0 : Nat} {x2 : Int} {x3 : Int} {x4 : Int} {x14 : Int} {x15 : Int} {Ax43 : Option Addr} {lx43 : Nat} {cx43 : Nat} {x44 : Int} {x45 : Int} {M : Mem} {Q : Value → Mem → Prop} (H :
    A24_4 Ax0 lx0 cx0 x2 x3 x4 x14 x15 Ax43 lx43 cx43 x44 (IntKind.i64.wrap (x45 + 1)) M Q) :
    A24_6 Ax0 lx0 cx0 x2 x3 x4 x14 x15 Ax43 lx43 cx43 x44 x45 M Q := by
  intro g1 g5 g6 g7 g8 g9 g10 g11 g12 g13 g16 g17 g18 g19 g20 g21 g22 g23 g24 g25 g26 g27 g28 g29 g30 g31 g32 g33 g34 g35 g36 g37 g38 g39 g40 g41 g42 g46 g47 g48 g49 g50 g51 g52 g53 g54 g55 g56 g57 g58 g59 g60 g61 g62 g63 g64 g65 g66 g67 g68 g69 g70 g71 g72 g73 g74 g75 g76 g77 g78 g79 g80 g81 g82 g83 g84 g85 g86 g87 g88 g89 g90 g91 g92 g93 g94 g95 g96
  refine Rn.region k24_49 (fun call K => r24_14) ?_
  refine Rch.leaf ?_
  refine Rn.lp ?_
  exact H _ _ _ _ _ _ _ _ _ _ _ _ _ _ _ _ _ _ _ _ _ _ _ _ _ _ _ _ _ _ _ _ _ _ _ _ _ _ _ _ _ _ _ _ _ _ _ _ _ _ _ _ _ _ _ _ _ _ _ _ _ _ _ _ _ _ _ _ _ _ _ _ _ _ _ _ _ _ _ _ _ _ _ _ _ _ _ _


/-! ### zoetrope/zoetroperef10.asked: function 25 -/
theorem b25 : Try.prog.funcs[25]? = some Try.f25 := by kernel_rfl
theorem d25 : Try.f25.body = some (subC (codeOf Try.f25) []) := by kernel_rfl
theorem t25 {Ax0 : Option Addr} {lx0 : Nat} {cx0 : Nat} {x1 : Int} {x2 : Int} : #[.slice Ax0 lx0 cx0, .int .i64 x1, .int .i64 x2] ++ Array.replicate (Try.f25.ntmps - (#[.slice Ax0 lx0 cx0, .int .i64 x1, .int .i64 x2] : Array Value).size) undef = #[.slice Ax0 lx0 cx0, .int .i64 x1, .int .i64 x2, undef, undef, undef, undef, undef, undef, undef, undef, undef, undef, undef, undef, undef, undef, undef, undef, undef, undef, undef, undef, undef, undef, undef, undef, undef, undef, undef, undef] := by kernel_rfl
theorem k25_0 : subC (codeOf Try.f25) [] = .seq (subC (codeOf Try.f25) [0]) (subC (codeOf Try.f25) [1]) := by kernel_rfl
theorem k25_1 : subC (codeOf Try.f25) [0] = .region 0 (opsOf (subC (codeOf Try.f25) [0])) false := by kernel_rfl
theorem r25_0 {g0 g1 g2 g3 g4 g5 g6 g7 g8 g9 g10 g11 g12 g13 g14 g15 g16 g17 g18 g19 g20 g21 g22 g23 g24 g25 g26 g27 g28 g29 g30 : Value} {M : Mem} {call : CallM} {K : Array Value → Mem → R} :
    opsK Try.prog (fun _ => call) (opsOf (subC (codeOf Try.f25) [0])) (opsOf (subC (codeOf Try.f25) [0])).toList 0 #[g0, g1, g2, g3, g4, g5, g6, g7, g8, g9, g10, g11, g12, g13, g14, g15, g16, g17, g18, g19, g20, g21, g22, g23, g24, g25, g26, g27, g28, g29, g30] M K = K #[g0, g1, g2, g3, g4, g5, .bool false, g7, g8, g9, g10, g11, g12, g13, g14, g15, g16, g17, g18, g19, g20, g21, g22, g23, g24, g25, g26, g27, g28, g29, g30] M := by kernel_rfl
theorem k25_2 : subC (codeOf Try.f25) [1] = .seq (subC (codeOf Try.f25) [1, 0]) (subC (codeOf Try.f25) [1, 1]) := by kernel_rfl
theorem k25_3 : subC (codeOf Try.f25) [1, 0] = .region 1 (opsOf (subC (codeOf Try.f25) [1, 0])) false := by kernel_rfl
theorem r25_1 {x1 : Int} {g0 g2 g3 g4 g5 g6 g7 g8 g9 g10 g11 g12 g13 g14 g15 g16 g17 g18 g19 g20 g21 g22 g23 g24 g25 g26 g27 g28 g29 g30 : Value} {M : Mem} {call : CallM} {K : Array Value → Mem → R} :
    opsK Try.prog (fun _ => call) (opsOf (subC (codeOf Try.f25) [1, 0])) (opsOf (subC (codeOf Try.f25) [1, 0])).toList 0 #[g0, .int .i64 x1, g2, g3, g4, g5, g6, g7, g8, g9, g10, g11, g12, g13, g14, g15, g16, g17, g18, g19, g20, g21, g22, g23, g24, g25, g26, g27, g28, g29, g30] M K = (call 22 #[.int .i64 x1] M).bind fun r_1 => (asI .i64 r_1.1).bind fun x_2 => K #[g0, .int .i64 x1, g2, g3, g4, g5, g6, .int .i64 x_2, .int .i64 x1, .int .i64 x_2, g10, g11, g12, g13, g14, g15, g16, g17, g18, g19, g20, g21, g22, g23, g24, g25, g26, g27, g28, g29, g30] r_1.2 := by kernel_rfl
theorem k25_4 : subC (codeOf Try.f25) [1, 1] = .seq (subC (codeOf Try.f25) [1, 1, 0]) (subC (codeOf Try.f25) [1, 1, 1]) := by kernel_rfl
theorem k25_5 : subC (codeOf Try.f25) [1, 1, 0] = .region 2 (opsOf (subC (codeOf Try.f25) [1, 1, 0])) false := by kernel_rfl
theorem k25_6 : subC (codeOf Try.f25) [1, 1, 0] = .region 2 (opsOf (subC (codeOf Try.f25) [1, 1, 0])) false ∧ (!false || drawOk (opsOf (subC (codeOf Try.f25) [1, 1, 0]))) = true := ⟨by kernel_rfl, by kernel_rfl⟩
theorem r25_2p0 {Ax0 : Option Addr} {lx0 : Nat} {cx0 : Nat} {x7 : Int} {g1 g2 g3 g4 g5 g6 g8 g9 g10 g11 g12 g13 g14 g15 g16 g17 g18 g19 g20 g21 g22 g23 g24 g25 g26 g27 g28 g29 g30 : Value} {M : Mem} {call : CallM} {K : Array Value → Mem → R} :
    opsK Try.prog (callR false (opsOf (subC (codeOf Try.f25) [1, 1, 0])) call) (opsOf (subC (codeOf Try.f25) [1, 1, 0])) (((opsOf (subC (codeOf Try.f25) [1, 1, 0])).toList.drop 0).take 11) 0 #[.slice Ax0 lx0 cx0, g1, g2, g3, g4, g5, g6, .int .i64 x7, g8, g9, g10, g11, g12, g13, g14, g15, g16, g17, g18, g19, g20, g21, g22, g23, g24, g25, g26, g27, g28, g29, g30] M K = cond (decide (x7 > 0)) (K #[.slice Ax0 lx0 cx0, g1, g2, g3, g4, g5, g6, .int .i64 x7, g8, g9, .int .i64 x7, .bool (decide (x7 > 0)), .bool true, .slice Ax0 lx0 cx0, .int .i64 ((lx0 : Int)), .int .i64 x7, .int .i64 x7, .int .i64 (IntKind.i64.wrap (x7 * x7)), .bool (((lx0 : Int)) == (IntKind.i64.wrap (x7 * x7))), .bool (((lx0 : Int)) == (IntKind.i64.wrap (x7 * x7))), .bool (((lx0 : Int)) == (IntKind.i64.wrap (x7 * x7))), g21, g22, g23, g24, g25, g26, g27, g28, g29, g30] M) (K #[.slice Ax0 lx0 cx0, g1, g2, g3, g4, g5, g6, .int .i64 x7, g8, g9, .int .i64 x7, .bool (decide (x7 > 0)), .bool false, undef, undef, undef, undef, undef, undef, .bool false, .bool false, g21, g22, g23, g24, g25, g26, g27, g28, g29, g30] M) := by kernel_rfl
theorem r25_2p11 {x2 : Int} {x20 : Bool} {g0 g1 g3 g4 g5 g6 g7 g8 g9 g10 g11 g12 g13 g14 g15 g16 g17 g18 g19 g21 g22 g23 g24 g25 g26 g27 g28 g29 g30 : Value} {M : Mem} {call : CallM} {K : Array Value → Mem → R} :
    opsK Try.prog (callR false (opsOf (subC (codeOf Try.f25) [1, 1, 0])) call) (opsOf (subC (codeOf Try.f25) [1, 1, 0])) (((opsOf (subC (codeOf Try.f25) [1, 1, 0])).toList.drop 11).take 4) 11 #[g0, g1, .int .i64 x2, g3, g4, g5, g6, g7, g8, g9, g10, g11, g12, g13, g14, g15, g16, g17, g18, g19, .bool x20, g21, g22, g23, g24, g25, g26, g27, g28, g29, g30] M K = cond x20 (K #[g0, g1, .int .i64 x2, g3, g4, g5, g6, g7, g8, g9, g10, g11, g12, g13, g14, g15, g16, g17, g18, g19, .bool true, .int .i64 x2, .bool (decide (x2 ≥ 0)), .bool (decide (x2 ≥ 0)), .bool (decide (x2 ≥ 0)), g25, g26, g27, g28, g29, g30] M) (K #[g0, g1, .int .i64 x2, g3, g4, g5, g6, g7, g8, g9, g10, g11, g12, g13, g14, g15, g16, g17, g18, g19, .bool false, undef, undef, .bool false, .bool false, g25, g26, g27, g28, g29, g30] M) := by kernel_rfl
theorem r25_2p15 {x2 : Int} {x7 : Int} {x24 : Bool} {g0 g1 g3 g4 g5 g6 g8 g9 g10 g11 g12 g13 g14 g15 g16 g17 g18 g19 g20 g21 g22 g23 g25 g26 g27 g28 g29 g30 : Value} {M : Mem} {call : CallM} {K : Array Value → Mem → R} :
    opsK Try.prog (callR false (opsOf (subC (codeOf Try.f25) [1, 1, 0])) call) (opsOf (subC (codeOf Try.f25) [1, 1, 0])) (((opsOf (subC (codeOf Try.f25) [1, 1, 0])).toList.drop 15).take 7) 15 #[g0, g1, .int .i64 x2, g3, g4, g5, g6, .int .i64 x7, g8, g9, g10, g11, g12, g13, g14, g15, g16, g17, g18, g19, g20, g21, g22, g23, .bool x24, g25, g26, g27, g28, g29, g30] M K = cond x24 (K #[g0, g1, .int .i64 x2, g3, g4, g5, .bool (decide (x2 < (IntKind.i64.wrap (x7 * x7)))), .int .i64 x7, g8, g9, g10, g11, g12, g13, g14, g15, g16, g17, g18, g19, g20, g21, g22, g23, .bool true, .int .i64 x2, .int .i64 x7, .int .i64 x7, .int .i64 (IntKind.i64.wrap (x7 * x7)), .bool (decide (x2 < (IntKind.i64.wrap (x7 * x7)))), .bool (decide (x2 < (IntKind.i64.wrap (x7 * x7))))] M) (K #[g0, g1, .int .i64 x2, g3, g4, g5, .bool false, .int .i64 x7, g8, g9, g10, g11, g12, g13, g14, g15, g16, g17, g18, g19, g20, g21, g22, g23, .bool false, undef, undef, undef, undef, undef, .bool false] M) := by kernel_rfl
theorem k25_7 : subC (codeOf Try.f25) [1, 1, 1] = .ret := by kernel_rfl
theorem e25 {g0 g1 g2 g3 g4 g5 g6 g7 g8 g9 g10 g11 g12 g13 g14 g15 g16 g17 g18 g19 g20 g21 g22 g23 g24 g25 g26 g27 g28 g29 g30 : Value} {M : Mem} : finish Try.prog Try.f25 #[g0, g1, g2, g3, g4, g5, g6, g7, g8, g9, g10, g11, g12, g13, g14, g15, g16, g17, g18, g19, g20, g21, g22, g23, g24, g25, g26, g27, g28, g29, g30] M = some (g6, M) := by kernel_rfl
noncomputable def S25_1 : List Item := [.code (subC (codeOf Try.f25) [1, 1, 1])]
def A25_1 (x2 : Int) (x7 : Int) (x20 : Bool) (M : Mem) (Q : Value → Mem → Prop) : Prop := ∀ (g0 g1 g3 g4 g5 g6 g8 g9 g10 g11 g12 g13 g14 g15 g16 g17 g18 g19 g21 g22 g23 g24 g25 g26 g27 g28 g29 g30 : Value), Rg Try.prog Try.f25 (opsOf (subC (codeOf Try.f25) [1, 1, 0])) false 11 S25_1 #[g0, g1, .int .i64 x2, g3, g4, g5, g6, .int .i64 x7, g8, g9, g10, g11, g12, g13, g14, g15, g16, g17, g18, g19, .bool x20, g21, g22, g23, g24, g25, g26, g27, g28, g29, g30] M Q
noncomputable def S25_2 : List Item := [.code (subC (codeOf Try.f25) [1, 1, 1])]
def A25_2 (x2 : Int) (x7 : Int) (x24 : Bool) (M : Mem) (Q : Value → Mem → Prop) : Prop := ∀ (g0 g1 g3 g4 g5 g6 g8 g9 g10 g11 g12 g13 g14 g15 g16 g17 g18 g19 g20 g21 g22 g23 g25 g26 g27 g28 g29 g30 : Value), Rg Try.prog Try.f25 (opsOf (subC (codeOf Try.f25) [1, 1, 0])) false 15 S25_2 #[g0, g1, .int .i64 x2, g3, g4, g5, g6, .int .i64 x7, g8, g9, g10, g11, g12, g13, g14, g15, g16, g17, g18, g19, g20, g21, g22, g23, .bool x24, g25, g26, g27, g28, g29, g30] M Q
theorem w25_0 {Ax0 : Option Addr} {lx0 : Nat} {cx0 : Nat} {x1 : Int} {x2 : Int} {M : Mem} {Q : Value → Mem → Prop} (H :
    Cn Try.prog 22 #[.int .i64 x1] M fun v1' N1' =>
     ∃ x2', asI .i64 v1' = some x2' ∧
     ((x2' > 0 →
      A25_1 x2 x2' (((lx0 : Int)) == (IntKind.i64.wrap (x2' * x2'))) N1' Q) ∧
      (¬ (x2' > 0) →
      A25_1 x2 x2' false N1' Q))) :
    Cn Try.prog 25 #[.slice Ax0 lx0 cx0, .int .i64 x1, .int .i64 x2] M Q := by
  refine Cn.of b25 d25 t25 ?_
  refine Rn.seq k25_0 ?_
  refine Rn.region k25_1 (fun call K => r25_0) ?_
  refine Rch.leaf ?_
  refine Rn.seq k25_2 ?_
  refine Rn.region k25_3 (fun call K => r25_1) ?_
  refine Rch.call H (fun v1' N1' H => ?_)
  obtain ⟨x2', hx2', H⟩ := H
  refine Rch.bind hx2' ?_
  refine Rch.leaf ?_
  refine Rn.seq k25_4 ?_
  refine Rn.regionC k25_6 ?_
  refine Rg.step (d := 11) (j := 11) (fun call K => r25_2p0) rfl rfl ?_
  refine Rch.cB (fun h => ?_) (fun h => ?_)
  · replace H := H.1 (of_decide_eq_true h)
    refine Rch.rest ?_
    exact H _ _ _ _ _ _ _ _ _ _ _ _ _ _ _ _ _ _ _ _ _ _ _ _ _ _ _ _
  · replace H := H.2 (of_decide_eq_false h)
    refine Rch.rest ?_
    exact H _ _ _ _ _ _ _ _ _ _ _ _ _ _ _ _ _ _ _ _ _ _ _ _ _ _ _ _

theorem w25_1 {x2 : Int} {x7 : Int} {x20 : Bool} {M : Mem} {Q : Value → Mem → Prop} (H :
    ((x20 = true →
     A25_2 x2 x7 (decide (x2 ≥ 0)) M Q) ∧
     (x20 = false →
     A25_2 x2 x7 false M Q))) :
    A25_1 x2 x7 x20 M Q := by
  intro g0 g1 g3 g4 g5 g6 g8 g9 g10 g11 g12 g13 g14 g15 g16 g17 g18 g19 g21 g22 g23 g24 g25 g26 g27 g28 g29 g30
  refine Rg.step (d := 4) (j := 15) (fun call K => r25_2p11) rfl rfl ?_
  refine Rch.cB (fun h => ?_) (fun h => ?_)
  · replace H := H.1 (h)
    refine Rch.rest ?_
    exact H _ _ _ _ _ _ _ _ _ _ _ _ _ _ _ _ _ _ _ _ _ _ _ _ _ _ _ _
  · replace H := H.2 (h)
    refine Rch.rest ?_
    exact H _ _ _ _ _ _ _ _ _ _ _ _ _ _ _ _ _ _ _ _ _ _ _ _ _ _ _ _

theorem w25_2 {x2 : Int} {x7 : Int} {x24 : Bool} {M : Mem} {Q : Value → Mem → Prop} (H :
    ((x24 = true →
     Q (.bool (decide (x2 < (IntKind.i64.wrap (x7 * x7))))) M) ∧
     (x24 = false →
     Q (.bool false) M))) :
    A25_2 x2 x7 x24 M Q := by
  intro g0 g1 g3 g4 g5 g6 g8 g9 g10 g11 g12 g13 g14 g15 g16 g17 g18 g19 g20 g21 g22 g23 g25 g26 g27 g28 g29 g30
  refine Rg.step (d := 7) (j := 22) (fun call K => r25_2p15) rfl rfl ?_
  refine Rch.cB (fun h => ?_) (fun h => ?_)
  · replace H := H.1 (h)
    refine Rch.rest ?_
    refine Rg.done rfl ?_
    exact Rn.ret k25_7 e25 H
  · replace H := H.2 (h)
    refine Rch.rest ?_
    refine Rg.done rfl ?_
    exact Rn.ret k25_7 e25 H


/-! ### zoetrope/zoetroperef10.some: function 26 -/
theorem b26 : Try.prog.funcs[26]? = some Try.f26 := by kernel_rfl
theorem d26 : Try.f26.body = some (subC (codeOf Try.f26) []) := by kernel_rfl
theorem t26 {Ax0 : Option Addr} {lx0 : Nat} {cx0 : Nat} {x1 : Int} {x2 : Int} {x3 : Int} {x4 : Int} : #[.slice Ax0 lx0 cx0, .int .i64 x1, .int .i64 x2, .int .i64 x3, .int .i64 x4] ++ Array.replicate (Try.f26.ntmps - (#[.slice Ax0 lx0 cx0, .int .i64 x1, .int .i64 x2, .int .i64 x3, .int .i64 x4] : Array Value).size) undef = #[.slice Ax0 lx0 cx0, .int .i64 x1, .int .i64 x2, .int .i64 x3, .int .i64 x4, undef, undef, undef, undef, undef, undef, undef, undef, undef, undef, undef, undef, undef, undef, undef, undef, undef, undef, undef, undef, undef, undef, undef, undef, undef, undef, undef, undef, undef, undef, undef, undef, undef, undef, undef, undef, undef, undef] := by kernel_rfl
theorem k26_0 : subC (codeOf Try.f26) [] = .seq (subC (codeOf Try.f26) [0]) (subC (codeOf Try.f26) [1]) := by kernel_rfl
theorem k26_1 : subC (codeOf Try.f26) [0] = .region 0 (opsOf (subC (codeOf Try.f26) [0])) false := by kernel_rfl
theorem r26_0 {g0 g1 g2 g3 g4 g5 g6 g7 g8 g9 g10 g11 g12 g13 g14 g15 g16 g17 g18 g19 g20 g21 g22 g23 g24 g25 g26 g27 g28 g29 g30 g31 g32 g33 g34 g35 g36 g37 g38 g39 g40 g41 g42 : Value} {M : Mem} {call : CallM} {K : Array Value → Mem → R} :
    opsK Try.prog (fun _ => call) (opsOf (subC (codeOf Try.f26) [0])) (opsOf (subC (codeOf Try.f26) [0])).toList 0 #[g0, g1, g2, g3, g4, g5, g6, g7, g8, g9, g10, g11, g12, g13, g14, g15, g16, g17, g18, g19, g20, g21, g22, g23, g24, g25, g26, g27, g28, g29, g30, g31, g32, g33, g34, g35, g36, g37, g38, g39, g40, g41, g42] M K = K #[g0, g1, g2, g3, g4, g5, g6, g7, g8, g9, .int .i64 0, g11, g12, g13, g14, g15, g16, g17, g18, g19, g20, g21, g22, g23, g24, g25, g26, g27, g28, g29, g30, g31, g32, g33, g34, g35, g36, g37, g38, g39, g40, g41, g42] M := by kernel_rfl
theorem k26_2 : subC (codeOf Try.f26) [1] = .seq (subC (codeOf Try.f26) [1, 0]) (subC (codeOf Try.f26) [1, 1]) := by kernel_rfl
theorem k26_3 : subC (codeOf Try.f26) [1, 0] = .seq (subC (codeOf Try.f26) [1, 0, 0]) (subC (codeOf Try.f26) [1, 0, 1]) := by kernel_rfl
theorem k26_4 : subC (codeOf Try.f26) [1, 0, 0] = .region 1 (opsOf (subC (codeOf Try.f26) [1, 0, 0])) false := by kernel_rfl
theorem r26_1 {x1 : Int} {x2 : Int} {x3 : Int} {g0 g4 g5 g6 g7 g8 g9 g10 g11 g12 g13 g14 g15 g16 g17 g18 g19 g20 g21 g22 g23 g24 g25 g26 g27 g28 g29 g30 g31 g32 g33 g34 g35 g36 g37 g38 g39 g40 g41 g42 : Value} {M : Mem} {call : CallM} {K : Array Value → Mem → R} :
    opsK Try.prog (fun _ => call) (opsOf (subC (codeOf Try.f26) [1, 0, 0])) (opsOf (subC (codeOf Try.f26) [1, 0, 0])).toList 0 #[g0, .int .i64 x1, .int .i64 x2, .int .i64 x3, g4, g5, g6, g7, g8, g9, g10, g11, g12, g13, g14, g15, g16, g17, g18, g19, g20, g21, g22, g23, g24, g25, g26, g27, g28, g29, g30, g31, g32, g33, g34, g35, g36, g37, g38, g39, g40, g41, g42] M K = cond (decide (x2 ≥ x1)) (K #[g0, .int .i64 x1, .int .i64 x2, .int .i64 x3, g4, g5, g6, g7, g8, g9, g10, g11, .int .i64 x2, .int .i64 x1, .bool (decide (x2 ≥ x1)), .bool true, undef, undef, undef, .bool true, g20, g21, g22, g23, g24, g25, g26, g27, g28, g29, g30, g31, g32, g33, g34, g35, g36, g37, g38, g39, g40, g41, g42] M) (K #[g0, .int .i64 x1, .int .i64 x2, .int .i64 x3, g4, g5, g6, g7, g8, g9, g10, g11, .int .i64 x2, .int .i64 x1, .bool (decide (x2 ≥ x1)), .bool false, .int .i64 x3, .int .i64 x1, .bool (decide (x3 ≥ x1)), .bool (decide (x3 ≥ x1)), g20, g21, g22, g23, g24, g25, g26, g27, g28, g29, g30, g31, g32, g33, g34, g35, g36, g37, g38, g39, g40, g41, g42] M) := by kernel_rfl
theorem c26_5 {x19 : Bool} {g0 g1 g2 g3 g4 g5 g6 g7 g8 g9 g10 g11 g12 g13 g14 g15 g16 g17 g18 g20 g21 g22 g23 g24 g25 g26 g27 g28 g29 g30 g31 g32 g33 g34 g35 g36 g37 g38 g39 g40 g41 g42 : Value} : subC (codeOf Try.f26) [1, 0, 1] = .cond (.tmp 19) (subC (codeOf Try.f26) [1, 0, 1, 0]) (subC (codeOf Try.f26) [1, 0, 1, 1]) ∧ okOperand (.tmp 19) = true ∧ evalT #[g0, g1, g2, g3, g4, g5, g6, g7, g8, g9, g10, g11, g12, g13, g14, g15, g16, g17, g18, .bool x19, g20, g21, g22, g23, g24, g25, g26, g27, g28, g29, g30, g31, g32, g33, g34, g35, g36, g37, g38, g39, g40, g41, g42] (.tmp 19) = .bool x19 := ⟨by kernel_rfl, by kernel_rfl, by kernel_rfl⟩
theorem k26_6 : subC (codeOf Try.f26) [1, 0, 1, 0] = .seq (subC (codeOf Try.f26) [1, 0, 1, 0, 0]) (subC (codeOf Try.f26) [1, 0, 1, 0, 1]) := by kernel_rfl
theorem k26_7 : subC (codeOf Try.f26) [1, 0, 1, 0, 0] = .region 2 (opsOf (subC (codeOf Try.f26) [1, 0, 1, 0, 0])) false := by kernel_rfl
theorem r26_2 {g0 g1 g2 g3 g4 g5 g6 g7 g8 g9 g10 g11 g12 g13 g14 g15 g16 g17 g18 g19 g20 g21 g22 g23 g24 g25 g26 g27 g28 g29 g30 g31 g32 g33 g34 g35 g36 g37 g38 g39 g40 g41 g42 : Value} {M : Mem} {call : CallM} {K : Array Value → Mem → R} :
    opsK Try.prog (fun _ => call) (opsOf (subC (codeOf Try.f26) [1, 0, 1, 0, 0])) (opsOf (subC (codeOf Try.f26) [1, 0, 1, 0, 0])).toList 0 #[g0, g1, g2, g3, g4, g5, g6, g7, g8, g9, g10, g11, g12, g13, g14, g15, g16, g17, g18, g19, g20, g21, g22, g23, g24, g25, g26, g27, g28, g29, g30, g31, g32, g33, g34, g35, g36, g37, g38, g39, g40, g41, g42] M K = K #[g0, g1, g2, g3, g4, g5, g6, g7, g8, g9, .int .i64 0, g11, g12, g13, g14, g15, g16, g17, g18, g19, g20, g21, g22, g23, g24, g25, g26, g27, g28, g29, g30, g31, g32, g33, g34, g35, g36, g37, g38, g39, g40, g41, g42] M := by kernel_rfl
theorem k26_8 : subC (codeOf Try.f26) [1, 0, 1, 0, 1] = .ret := by kernel_rfl
theorem e26 {g0 g1 g2 g3 g4 g5 g6 g7 g8 g9 g10 g11 g12 g13 g14 g15 g16 g17 g18 g19 g20 g21 g22 g23 g24 g25 g26 g27 g28 g29 g30 g31 g32 g33 g34 g35 g36 g37 g38 g39 g40 g41 g42 : Value} {M : Mem} : finish Try.prog Try.f26 #[g0, g1, g2, g3, g4, g5, g6, g7, g8, g9, g10, g11, g12, g13, g14, g15, g16, g17, g18, g19, g20, g21, g22, g23, g24, g25, g26, g27, g28, g29, g30, g31, g32, g33, g34, g35, g36, g37, g38, g39, g40, g41, g42] M = some (g10, M) := by kernel_rfl
theorem k26_10 : subC (codeOf Try.f26) [1, 0, 1, 1] = .skip := by kernel_rfl
theorem k26_11 : subC (codeOf Try.f26) [1, 1] = .seq (subC (codeOf Try.f26) [1, 1, 0]) (subC (codeOf Try.f26) [1, 1, 1]) := by kernel_rfl
theorem k26_12 : subC (codeOf Try.f26) [1, 1, 0] = .region 3 (opsOf (subC (codeOf Try.f26) [1, 1, 0])) false := by kernel_rfl
theorem r26_3 {Ax0 : Option Addr} {lx0 : Nat} {cx0 : Nat} {x1 : Int} {x2 : Int} {x3 : Int} {g4 g5 g6 g7 g8 g9 g10 g11 g12 g13 g14 g15 g16 g17 g18 g19 g20 g21 g22 g23 g24 g25 g26 g27 g28 g29 g30 g31 g32 g33 g34 g35 g36 g37 g38 g39 g40 g41 g42 : Value} {M : Mem} {call : CallM} {K : Array Value → Mem → R} :
    opsK Try.prog (fun _ => call) (opsOf (subC (codeOf Try.f26) [1, 1, 0])) (opsOf (subC (codeOf Try.f26) [1, 1, 0])).toList 0 #[.slice Ax0 lx0 cx0, .int .i64 x1, .int .i64 x2, .int .i64 x3, g4, g5, g6, g7, g8, g9, g10, g11, g12, g13, g14, g15, g16, g17, g18, g19, g20, g21, g22, g23, g24, g25, g26, g27, g28, g29, g30, g31, g32, g33, g34, g35, g36, g37, g38, g39, g40, g41, g42] M K = (indexAddrP Try.prog 22 (.slice Ax0 lx0 cx0) (.int .i64 (IntKind.i64.wrap ((IntKind.i64.wrap (x2 * x1)) + x3)))).bind fun v_1 => (asP v_1).bind fun p_2 => (p_2).bind fun a_3 => (M.intAt .i64 a_3.block a_3.off).bind fun x_4 => K #[.slice Ax0 lx0 cx0, .int .i64 x1, .int .i64 x2, .int .i64 x3, g4, g5, g6, g7, g8, g9, g10, .int .i64 x_4, g12, g13, g14, g15, g16, g17, g18, g19, .slice Ax0 lx0 cx0, .int .i64 x2, .int .i64 x1, .int .i64 (IntKind.i64.wrap (x2 * x1)), .int .i64 x3, .int .i64 (IntKind.i64.wrap ((IntKind.i64.wrap (x2 * x1)) + x3)), .pointer p_2, .int .i64 x_4, g28, g29, g30, g31, g32, g33, g34, g35, g36, g37, g38, g39, g40, g41, g42] M := by kernel_rfl
theorem k26_13 : subC (codeOf Try.f26) [1, 1, 1] = .seq (subC (codeOf Try.f26) [1, 1, 1, 0]) (subC (codeOf Try.f26) [1, 1, 1, 1]) := by kernel_rfl
theorem k26_14 : subC (codeOf Try.f26) [1, 1, 1, 0] = .seq (subC (codeOf Try.f26) [1, 1, 1, 0, 0]) (subC (codeOf Try.f26) [1, 1, 1, 0, 1]) := by kernel_rfl
theorem k26_15 : subC (codeOf Try.f26) [1, 1, 1, 0, 0] = .region 4 (opsOf (subC (codeOf Try.f26) [1, 1, 1, 0, 0])) false := by kernel_rfl
theorem r26_4 {x4 : Int} {x11 : Int} {g0 g1 g2 g3 g5 g6 g7 g8 g9 g10 g12 g13 g14 g15 g16 g17 g18 g19 g20 g21 g22 g23 g24 g25 g26 g27 g28 g29 g30 g31 g32 g33 g34 g35 g36 g37 g38 g39 g40 g41 g42 : Value} {M : Mem} {call : CallM} {K : Array Value → Mem → R} :
    opsK Try.prog (fun _ => call) (opsOf (subC (codeOf Try.f26) [1, 1, 1, 0, 0])) (opsOf (subC (codeOf Try.f26) [1, 1, 1, 0, 0])).toList 0 #[g0, g1, g2, g3, .int .i64 x4, g5, g6, g7, g8, g9, g10, .int .i64 x11, g12, g13, g14, g15, g16, g17, g18, g19, g20, g21, g22, g23, g24, g25, g26, g27, g28, g29, g30, g31, g32, g33, g34, g35, g36, g37, g38, g39, g40, g41, g42] M K = cond (decide (x11 > x4)) (K #[g0, g1, g2, g3, .int .i64 x4, g5, g6, g7, g8, g9, g10, .int .i64 x11, g12, g13, g14, g15, g16, g17, g18, g19, g20, g21, g22, g23, g24, g25, g26, g27, .int .i64 x11, .int .i64 x4, .bool (decide (x11 > x4)), .bool true, undef, undef, undef, undef, .bool true, g37, g38, g39, g40, g41, g42] M) (K #[g0, g1, g2, g3, .int .i64 x4, g5, g6, g7, g8, g9, g10, .int .i64 x11, g12, g13, g14, g15, g16, g17, g18, g19, g20, g21, g22, g23, g24, g25, g26, g27, .int .i64 x11, .int .i64 x4, .bool (decide (x11 > x4)), .bool false, .int .i64 x11, .int .i64 x4, .int .i64 (IntKind.i64.wrap (0 - x4)), .bool (decide (x11 < (IntKind.i64.wrap (0 - x4)))), .bool (decide (x11 < (IntKind.i64.wrap (0 - x4)))), g37, g38, g39, g40, g41, g42] M) := by kernel_rfl
theorem c26_16 {x36 : Bool} {g0 g1 g2 g3 g4 g5 g6 g7 g8 g9 g10 g11 g12 g13 g14 g15 g16 g17 g18 g19 g20 g21 g22 g23 g24 g25 g26 g27 g28 g29 g30 g31 g32 g33 g34 g35 g37 g38 g39 g40 g41 g42 : Value} : subC (codeOf Try.f26) [1, 1, 1, 0, 1] = .cond (.tmp 36) (subC (codeOf Try.f26) [1, 1, 1, 0, 1, 0]) (subC (codeOf Try.f26) [1, 1, 1, 0, 1, 1]) ∧ okOperand (.tmp 36) = true ∧ evalT #[g0, g1, g2, g3, g4, g5, g6, g7, g8, g9, g10, g11, g12, g13, g14, g15, g16, g17, g18, g19, g20, g21, g22, g23, g24, g25, g26, g27, g28, g29, g30, g31, g32, g33, g34, g35, .bool x36, g37, g38, g39, g40, g41, g42] (.tmp 36) = .bool x36 := ⟨by kernel_rfl, by kernel_rfl, by kernel_rfl⟩
theorem k26_17 : subC (codeOf Try.f26) [1, 1, 1, 0, 1, 0] = .seq (subC (codeOf Try.f26) [1, 1, 1, 0, 1, 0, 0]) (subC (codeOf Try.f26) [1, 1, 1, 0, 1, 0, 1]) := by kernel_rfl
theorem k26_18 : subC (codeOf Try.f26) [1, 1, 1, 0, 1, 0, 0] = .region 5 (opsOf (subC (codeOf Try.f26) [1, 1, 1, 0, 1, 0, 0])) false := by kernel_rfl
theorem r26_5 {x4 : Int} {g0 g1 g2 g3 g5 g6 g7 g8 g9 g10 g11 g12 g13 g14 g15 g16 g17 g18 g19 g20 g21 g22 g23 g24 g25 g26 g27 g28 g29 g30 g31 g32 g33 g34 g35 g36 g37 g38 g39 g40 g41 g42 : Value} {M : Mem} {call : CallM} {K : Array Value → Mem → R} :
    opsK Try.prog (fun _ => call) (opsOf (subC (codeOf Try.f26) [1, 1, 1, 0, 1, 0, 0])) (opsOf (subC (codeOf Try.f26) [1, 1, 1, 0, 1, 0, 0])).toList 0 #[g0, g1, g2, g3, .int .i64 x4, g5, g6, g7, g8, g9, g10, g11, g12, g13, g14, g15, g16, g17, g18, g19, g20, g21, g22, g23, g24, g25, g26, g27, g28, g29, g30, g31, g32, g33, g34, g35, g36, g37, g38, g39, g40, g41, g42] M K = K #[g0, g1, g2, g3, .int .i64 x4, g5, g6, g7, g8, g9, .int .i64 x4, g11, g12, g13, g14, g15, g16, g17, g18, g19, g20, g21, g22, g23, g24, g25, g26, g27, g28, g29, g30, g31, g32, g33, g34, g35, g36, .int .i64 x4, g38, g39, g40, g41, g42] M := by kernel_rfl
theorem k26_19 : subC (codeOf Try.f26) [1, 1, 1, 0, 1, 0, 1] = .ret := by kernel_rfl
theorem k26_20 : subC (codeOf Try.f26) [1, 1, 1, 0, 1, 1] = .skip := by kernel_rfl
theorem k26_21 : subC (codeOf Try.f26) [1, 1, 1, 1] = .seq (subC (codeOf Try.f26) [1, 1, 1, 1, 0]) (subC (codeOf Try.f26) [1, 1, 1, 1, 1]) := by kernel_rfl
theorem k26_22 : subC (codeOf Try.f26) [1, 1, 1, 1, 0] = .seq (subC (codeOf Try.f26) [1, 1, 1, 1, 0, 0]) (subC (codeOf Try.f26) [1, 1, 1, 1, 0, 1]) := by kernel_rfl
theorem k26_23 : subC (codeOf Try.f26) [1, 1, 1, 1, 0, 0] = .region 6 (opsOf (subC (codeOf Try.f26) [1, 1, 1, 1, 0, 0])) false := by kernel_rfl
theorem r26_6 {x11 : Int} {g0 g1 g2 g3 g4 g5 g6 g7 g8 g9 g10 g12 g13 g14 g15 g16 g17 g18 g19 g20 g21 g22 g23 g24 g25 g26 g27 g28 g29 g30 g31 g32 g33 g34 g35 g36 g37 g38 g39 g40 g41 g42 : Value} {M : Mem} {call : CallM} {K : Array Value → Mem → R} :
    opsK Try.prog (fun _ => call) (opsOf (subC (codeOf Try.f26) [1, 1, 1, 1, 0, 0])) (opsOf (subC (codeOf Try.f26) [1, 1, 1, 1, 0, 0])).toList 0 #[g0, g1, g2, g3, g4, g5, g6, g7, g8, g9, g10, .int .i64 x11, g12, g13, g14, g15, g16, g17, g18, g19, g20, g21, g22, g23, g24, g25, g26, g27, g28, g29, g30, g31, g32, g33, g34, g35, g36, g37, g38, g39, g40, g41, g42] M K = K #[g0, g1, g2, g3, g4, g5, g6, g7, g8, g9, g10, .int .i64 x11, g12, g13, g14, g15, g16, g17, g18, g19, g20, g21, g22, g23, g24, g25, g26, g27, g28, g29, g30, g31, g32, g33, g34, g35, g36, g37, .int .i64 x11, .bool (decide (x11 < 0)), g40, g41, g42] M := by kernel_rfl
theorem c26_24 {x39 : Bool} {g0 g1 g2 g3 g4 g5 g6 g7 g8 g9 g10 g11 g12 g13 g14 g15 g16 g17 g18 g19 g20 g21 g22 g23 g24 g25 g26 g27 g28 g29 g30 g31 g32 g33 g34 g35 g36 g37 g38 g40 g41 g42 : Value} : subC (codeOf Try.f26) [1, 1, 1, 1, 0, 1] = .cond (.tmp 39) (subC (codeOf Try.f26) [1, 1, 1, 1, 0, 1, 0]) (subC (codeOf Try.f26) [1, 1, 1, 1, 0, 1, 1]) ∧ okOperand (.tmp 39) = true ∧ evalT #[g0, g1, g2, g3, g4, g5, g6, g7, g8, g9, g10, g11, g12, g13, g14, g15, g16, g17, g18, g19, g20, g21, g22, g23, g24, g25, g26, g27, g28, g29, g30, g31, g32, g33, g34, g35, g36, g37, g38, .bool x39, g40, g41, g42] (.tmp 39) = .bool x39 := ⟨by kernel_rfl, by kernel_rfl, by kernel_rfl⟩
theorem k26_25 : subC (codeOf Try.f26) [1, 1, 1, 1, 0, 1, 0] = .seq (subC (codeOf Try.f26) [1, 1, 1, 1, 0, 1, 0, 0]) (subC (codeOf Try.f26) [1, 1, 1, 1, 0, 1, 0, 1]) := by kernel_rfl
theorem k26_26 : subC (codeOf Try.f26) [1, 1, 1, 1, 0, 1, 0, 0] = .region 7 (opsOf (subC (codeOf Try.f26) [1, 1, 1, 1, 0, 1, 0, 0])) false := by kernel_rfl
theorem r26_7 {x11 : Int} {g0 g1 g2 g3 g4 g5 g6 g7 g8 g9 g10 g12 g13 g14 g15 g16 g17 g18 g19 g20 g21 g22 g23 g24 g25 g26 g27 g28 g29 g30 g31 g32 g33 g34 g35 g36 g37 g38 g39 g40 g41 g42 : Value} {M : Mem} {call : CallM} {K : Array Value → Mem → R} :
    opsK Try.prog (fun _ => call) (opsOf (subC (codeOf Try.f26) [1, 1, 1, 1, 0, 1, 0, 0])) (opsOf (subC (codeOf Try.f26) [1, 1, 1, 1, 0, 1, 0, 0])).toList 0 #[g0, g1, g2, g3, g4, g5, g6, g7, g8, g9, g10, .int .i64 x11, g12, g13, g14, g15, g16, g17, g18, g19, g20, g21, g22, g23, g24, g25, g26, g27, g28, g29, g30, g31, g32, g33, g34, g35, g36, g37, g38, g39, g40, g41, g42] M K = K #[g0, g1, g2, g3, g4, g5, g6, g7, g8, g9, .int .i64 (IntKind.i64.wrap (0 - x11)), .int .i64 x11, g12, g13, g14, g15, g16, g17, g18, g19, g20, g21, g22, g23, g24, g25, g26, g27, g28, g29, g30, g31, g32, g33, g34, g35, g36, g37, g38, g39, .int .i64 x11, .int .i64 (IntKind.i64.wrap (0 - x11)), g42] M := by kernel_rfl
theorem k26_27 : subC (codeOf Try.f26) [1, 1, 1, 1, 0, 1, 0, 1] = .ret := by kernel_rfl
theorem k26_28 : subC (codeOf Try.f26) [1, 1, 1, 1, 0, 1, 1] = .skip := by kernel_rfl
theorem k26_29 : subC (codeOf Try.f26) [1, 1, 1, 1, 1] = .seq (subC (codeOf Try.f26) [1, 1, 1, 1, 1, 0]) (subC (codeOf Try.f26) [1, 1, 1, 1, 1, 1]) := by kernel_rfl
theorem k26_30 : subC (codeOf Try.f26) [1, 1, 1, 1, 1, 0] = .region 8 (opsOf (subC (codeOf Try.f26) [1, 1, 1, 1, 1, 0])) false := by kernel_rfl
theorem r26_8 {x11 : Int} {g0 g1 g2 g3 g4 g5 g6 g7 g8 g9 g10 g12 g13 g14 g15 g16 g17 g18 g19 g20 g21 g22 g23 g24 g25 g26 g27 g28 g29 g30 g31 g32 g33 g34 g35 g36 g37 g38 g39 g40 g41 g42 : Value} {M : Mem} {call : CallM} {K : Array Value → Mem → R} :
    opsK Try.prog (fun _ => call) (opsOf (subC (codeOf Try.f26) [1, 1, 1, 1, 1, 0])) (opsOf (subC (codeOf Try.f26) [1, 1, 1, 1, 1, 0])).toList 0 #[g0, g1, g2, g3, g4, g5, g6, g7, g8, g9, g10, .int .i64 x11, g12, g13, g14, g15, g16, g17, g18, g19, g20, g21, g22, g23, g24, g25, g26, g27, g28, g29, g30, g31, g32, g33, g34, g35, g36, g37, g38, g39, g40, g41, g42] M K = K #[g0, g1, g2, g3, g4, g5, g6, g7, g8, g9, .int .i64 x11, .int .i64 x11, g12, g13, g14, g15, g16, g17, g18, g19, g20, g21, g22, g23, g24, g25, g26, g27, g28, g29, g30, g31, g32, g33, g34, g35, g36, g37, g38, g39, g40, g41, .int .i64 x11] M := by kernel_rfl
theorem k26_31 : subC (codeOf Try.f26) [1, 1, 1, 1, 1, 1] = .ret := by kernel_rfl
noncomputable def S26_1 : List Item := [.code (subC (codeOf Try.f26) [1, 0, 1]), .code (subC (codeOf Try.f26) [1, 1])]
def A26_1 (Ax0 : Option Addr) (lx0 : Nat) (cx0 : Nat) (x1 : Int) (x2 : Int) (x3 : Int) (x4 : Int) (x19 : Bool) (M : Mem) (Q : Value → Mem → Prop) : Prop := ∀ (g5 g6 g7 g8 g9 g10 g11 g12 g13 g14 g15 g16 g17 g18 g20 g21 g22 g23 g24 g25 g26 g27 g28 g29 g30 g31 g32 g33 g34 g35 g36 g37 g38 g39 g40 g41 g42 : Value), Rn Try.prog Try.f26 S26_1 #[.slice Ax0 lx0 cx0, .int .i64 x1, .int .i64 x2, .int .i64 x3, .int .i64 x4, g5, g6, g7, g8, g9, g10, g11, g12, g13, g14, g15, g16, g17, g18, .bool x19, g20, g21, g22, g23, g24, g25, g26, g27, g28, g29, g30, g31, g32, g33, g34, g35, g36, g37, g38, g39, g40, g41, g42] M Q
noncomputable def S26_2 : List Item := [.code (subC (codeOf Try.f26) [1, 1, 1, 0, 1]), .code (subC (codeOf Try.f26) [1, 1, 1, 1])]
def A26_2 (x4 : Int) (x11 : Int) (x36 : Bool) (M : Mem) (Q : Value → Mem → Prop) : Prop := ∀ (g0 g1 g2 g3 g5 g6 g7 g8 g9 g10 g12 g13 g14 g15 g16 g17 g18 g19 g20 g21 g22 g23 g24 g25 g26 g27 g28 g29 g30 g31 g32 g33 g34 g35 g37 g38 g39 g40 g41 g42 : Value), Rn Try.prog Try.f26 S26_2 #[g0, g1, g2, g3, .int .i64 x4, g5, g6, g7, g8, g9, g10, .int .i64 x11, g12, g13, g14, g15, g16, g17, g18, g19, g20, g21, g22, g23, g24, g25, g26, g27, g28, g29, g30, g31, g32, g33, g34, g35, .bool x36, g37, g38, g39, g40, g41, g42] M Q
theorem w26_0 {Ax0 : Option Addr} {lx0 : Nat} {cx0 : Nat} {x1 : Int} {x2 : Int} {x3 : Int} {x4 : Int} {M : Mem} {Q : Value → Mem → Prop} (H :
    ((x2 ≥ x1 →
     A26_1 Ax0 lx0 cx0 x1 x2 x3 x4 true M Q) ∧
     (¬ (x2 ≥ x1) →
     A26_1 Ax0 lx0 cx0 x1 x2 x3 x4 (decide (x3 ≥ x1)) M Q))) :
    Cn Try.prog 26 #[.slice Ax0 lx0 cx0, .int .i64 x1, .int .i64 x2, .int .i64 x3, .int .i64 x4] M Q := by
  refine Cn.of b26 d26 t26 ?_
  refine Rn.seq k26_0 ?_
  refine Rn.region k26_1 (fun call K => r26_0) ?_
  refine Rch.leaf ?_
  refine Rn.seq k26_2 ?_
  refine Rn.seq k26_3 ?_
  refine Rn.region k26_4 (fun call K => r26_1) ?_
  refine Rch.cB (fun h => ?_) (fun h => ?_)
  · replace H := H.1 (of_decide_eq_true h)
    refine Rch.leaf ?_
    exact H _ _ _ _ _ _ _ _ _ _ _ _ _ _ _ _ _ _ _ _ _ _ _ _ _ _ _ _ _ _ _ _ _ _ _ _ _
  · replace H := H.2 (of_decide_eq_false h)
    refine Rch.leaf ?_
    exact H _ _ _ _ _ _ _ _ _ _ _ _ _ _ _ _ _ _ _ _ _ _ _ _ _ _ _ _ _ _ _ _ _ _ _ _ _

theorem w26_1 {Ax0 : Option Addr} {lx0 : Nat} {cx0 : Nat} {x1 : Int} {x2 : Int} {x3 : Int} {x4 : Int} {x19 : Bool} {M : Mem} {Q : Value → Mem → Prop} (H :
    ((x19 = true →
     Q (.int .i64 0) M) ∧
     (x19 = false →
     ∃ v1', indexAddrP Try.prog 22 (.slice Ax0 lx0 cx0) (.int .i64 (IntKind.i64.wrap ((IntKind.i64.wrap (x2 * x1)) + x3))) = some v1' ∧
     ∃ p2', asP v1' = some p2' ∧
     ∃ a3', p2' = some a3' ∧
     ∃ x4', M.intAt .i64 a3'.block a3'.off = some x4' ∧
     ((x4' > x4 →
      A26_2 x4 x4' true M Q) ∧
      (¬ (x4' > x4) →
      A26_2 x4 x4' (decide (x4' < (IntKind.i64.wrap (0 - x4)))) M Q))))) :
    A26_1 Ax0 lx0 cx0 x1 x2 x3 x4 x19 M Q := by
  intro g5 g6 g7 g8 g9 g10 g11 g12 g13 g14 g15 g16 g17 g18 g20 g21 g22 g23 g24 g25 g26 g27 g28 g29 g30 g31 g32 g33 g34 g35 g36 g37 g38 g39 g40 g41 g42
  refine Rn.cnd c26_5 (fun h => ?_) (fun h => ?_)
  · replace H := H.1 (h)
    refine Rn.seq k26_6 ?_
    refine Rn.region k26_7 (fun call K => r26_2) ?_
    refine Rch.leaf ?_
    exact Rn.ret k26_8 e26 H
  · replace H := H.2 (h)
    refine Rn.skip k26_10 ?_
    refine Rn.seq k26_11 ?_
    refine Rn.region k26_12 (fun call K => r26_3) ?_
    obtain ⟨v1', hv1', H⟩ := H
    refine Rch.bind hv1' ?_
    obtain ⟨p2', hp2', H⟩ := H
    refine Rch.bind hp2' ?_
    obtain ⟨a3', ha3', H⟩ := H
    refine Rch.bind ha3' ?_
    obtain ⟨x4', hx4', H⟩ := H
    refine Rch.bind hx4' ?_
    refine Rch.leaf ?_
    refine Rn.seq k26_13 ?_
    refine Rn.seq k26_14 ?_
    refine Rn.region k26_15 (fun call K => r26_4) ?_
    refine Rch.cB (fun h => ?_) (fun h => ?_)
    · replace H := H.1 (of_decide_eq_true h)
      refine Rch.leaf ?_
      exact H _ _ _ _ _ _ _ _ _ _ _ _ _ _ _ _ _ _ _ _ _ _ _ _ _ _ _ _ _ _ _ _ _ _ _ _ _ _ _ _
    · replace H := H.2 (of_decide_eq_false h)
      refine Rch.leaf ?_
      exact H _ _ _ _ _ _ _ _ _ _ _ _ _ _ _ _ _ _ _ _ _ _ _ _ _ _ _ _ _ _ _ _ _ _ _ _ _ _ _ _

theorem w26_2 {x4 : Int} {x11 : Int} {x36 : Bool} {M : Mem} {Q : Value → Mem → Prop} (H :
    ((x36 = true →
     Q (.int .i64 x4) M) ∧
     (x36 = false →
     ((x11 < 0 →
      Q (.int .i64 (IntKind.i64.wrap (0 - x11))) M) ∧
      (¬ (x11 < 0) →
      Q (.int .i64 x11) M))))) :
    A26_2 x4 x11 x36 M Q := by
  intro g0 g1 g2 g3 g5 g6 g7 g8 g9 g10 g12 g13 g14 g15 g16 g17 g18 g19 g20 g21 g22 g23 g24 g25 g26 g27 g28 g29 g30 g31 g32 g33 g34 g35 g37 g38 g39 g40 g41 g42
  refine Rn.cnd c26_16 (fun h => ?_) (fun h => ?_)
  · replace H := H.1 (h)
    refine Rn.seq k26_17 ?_
    refine Rn.region k26_18 (fun call K => r26_5) ?_
    refine Rch.leaf ?_
    exact Rn.ret k26_19 e26 H
  · replace H := H.2 (h)
    refine Rn.skip k26_20 ?_
    refine Rn.seq k26_21 ?_
    refine Rn.seq k26_22 ?_
    refine Rn.region k26_23 (fun call K => r26_6) ?_
    refine Rch.leaf ?_
    refine Rn.cnd c26_24 (fun h => ?_) (fun h => ?_)
    · replace H := H.1 (of_decide_eq_true h)
      refine Rn.seq k26_25 ?_
      refine Rn.region k26_26 (fun call K => r26_7) ?_
      refine Rch.leaf ?_
      exact Rn.ret k26_27 e26 H
    · replace H := H.2 (of_decide_eq_false h)
      refine Rn.skip k26_28 ?_
      refine Rn.seq k26_29 ?_
      refine Rn.region k26_30 (fun call K => r26_8) ?_
      refine Rch.leaf ?_
      exact Rn.ret k26_31 e26 H


end Go.Zt
