/- The functions' walks: for each function and each loop a rule of what it comes to. Printed by zw.py. -/
import Derived.Test.YtfaecnhaponcdaaProg
import Derived.Test.YtfaecnhaponcdaaZfA
set_option linter.unusedVariables false
set_option maxRecDepth 100000
namespace Go.Zt
open Go Go.Sim Go.Proofs

variable {g0 g1 g2 g3 g4 g5 g6 g7 g8 g9 g10 g11 g12 g13 g14 g15 g16 g17 g18 g19 g20 g21 g22 g23 g24 g25 g26 g27 g28 g29 g30 g31 g32 g33 g34 g35 : Value}
/-! ### zoetrope/basis.kinds: function 36 -/
noncomputable abbrev P36 (p : List Nat) : Code := subC (codeOf Try.f36) p
noncomputable abbrev O36 (p : List Nat) : Array Oper := opsOf (subC (codeOf Try.f36) p)
theorem b36 : Try.prog.funcs[36]? = some Try.f36 ∧ (Orc.tab Try.prog).lookup 36 = none := ⟨by kernel_rfl, by kernel_rfl⟩
theorem d36 : Try.f36.body = some (P36 []) := by kernel_rfl
theorem t36 {x0 x1 : Int} : #[.int .i64 x0,.int .i64 x1] ++ Array.replicate (Try.f36.ntmps - (#[.int .i64 x0,.int .i64 x1] : Array Value).size) undef = #[.int .i64 x0,.int .i64 x1,undef,undef,undef,undef,undef,undef,undef,undef,undef,undef,undef,undef,undef,undef,undef,undef,undef,undef,undef,undef,undef,undef,undef,undef,undef,undef,undef] := by kernel_rfl
theorem k36_0 : P36 [] = .seq (P36 [0]) (P36 [1]) := by kernel_rfl
theorem k36_1 : P36 [0] = .region 0 (O36 [0]) false := by kernel_rfl
theorem r36_0 {x1 : Int} {M : Mem} {call : CallM} {K : Array Value → Mem → R} :
    opsK Try.prog (fun _ => call) (O36 [0]) (O36 [0]).toList 0 #[g0,.int .i64 x1,g2,g3,g4,g5,g6,g7,g8,g9,g10,g11,g12,g13,g14,g15,g16,g17,g18,g19,g20,g21,g22,g23,g24,g25,g26,g27,g28] M K = K #[g0,.int .i64 x1,g2,.pointer (some ⟨2 * M.nb.size, 0, none⟩),.pointer (some ⟨2 * (M.new (.cells #[.int .i64 x1] 3)).nb.size, 0, none⟩),g5,g6,g7,g8,g9,g10,g11,g12,g13,g14,g15,g16,g17,g18,g19,g20,g21,g22,g23,g24,g25,g26,g27,g28] ((M.new (.cells #[.int .i64 x1] 3)).new (.cells #[.int .i64 0, .nilFunc] 39)) := by kernel_rfl
theorem k36_2 : P36 [1] = .seq (P36 [1,0]) (P36 [1,1]) := by kernel_rfl
theorem k36_3 : P36 [1,0] = .region 1 (O36 [1,0]) false := by kernel_rfl
theorem r36_1 {M : Mem} {call : CallM} {K : Array Value → Mem → R} :
    opsK Try.prog (fun _ => call) (O36 [1,0]) (O36 [1,0]).toList 0 #[g0,g1,g2,g3,g4,g5,g6,g7,g8,g9,g10,g11,g12,g13,g14,g15,g16,g17,g18,g19,g20,g21,g22,g23,g24,g25,g26,g27,g28] M K = (call 30 #[] M).bind fun r_1 => (asA 65 r_1.1).bind fun cs_2 => (asI .i16 (cs_2.getD 0 undef)).bind fun x_3 => (asI .i16 (cs_2.getD 1 undef)).bind fun x_4 => (asI .i16 (cs_2.getD 2 undef)).bind fun x_5 => (asI .i16 (cs_2.getD 3 undef)).bind fun x_6 => (asI .i16 (cs_2.getD 4 undef)).bind fun x_7 => (asI .i16 (cs_2.getD 5 undef)).bind fun x_8 => (asI .i16 (cs_2.getD 6 undef)).bind fun x_9 => (asI .i16 (cs_2.getD 7 undef)).bind fun x_10 => (asI .i16 (cs_2.getD 8 undef)).bind fun x_11 => (asI .i16 (cs_2.getD 9 undef)).bind fun x_12 => (asI .i16 (cs_2.getD 10 undef)).bind fun x_13 => (asI .i16 (cs_2.getD 11 undef)).bind fun x_14 => (asI .i16 (cs_2.getD 12 undef)).bind fun x_15 => (asI .i16 (cs_2.getD 13 undef)).bind fun x_16 => (asI .i16 (cs_2.getD 14 undef)).bind fun x_17 => (asI .i16 (cs_2.getD 15 undef)).bind fun x_18 => (asI .i16 (cs_2.getD 16 undef)).bind fun x_19 => (asI .i16 (cs_2.getD 17 undef)).bind fun x_20 => (asI .i16 (cs_2.getD 18 undef)).bind fun x_21 => (asI .i16 (cs_2.getD 19 undef)).bind fun x_22 => (asI .i16 (cs_2.getD 20 undef)).bind fun x_23 => (asI .i16 (cs_2.getD 21 undef)).bind fun x_24 => (asI .i16 (cs_2.getD 22 undef)).bind fun x_25 => (asI .i16 (cs_2.getD 23 undef)).bind fun x_26 => (asI .i16 (cs_2.getD 24 undef)).bind fun x_27 => (asI .i16 (cs_2.getD 25 undef)).bind fun x_28 => (asI .i16 (cs_2.getD 26 undef)).bind fun x_29 => (asI .i16 (cs_2.getD 27 undef)).bind fun x_30 => (asI .i16 (cs_2.getD 28 undef)).bind fun x_31 => (asI .i16 (cs_2.getD 29 undef)).bind fun x_32 => (asI .i16 (cs_2.getD 30 undef)).bind fun x_33 => (asI .i16 (cs_2.getD 31 undef)).bind fun x_34 => (asI .i16 (cs_2.getD 32 undef)).bind fun x_35 => (asI .i16 (cs_2.getD 33 undef)).bind fun x_36 => (asI .i16 (cs_2.getD 34 undef)).bind fun x_37 => (asI .i16 (cs_2.getD 35 undef)).bind fun x_38 => (asI .i16 (cs_2.getD 36 undef)).bind fun x_39 => (asI .i16 (cs_2.getD 37 undef)).bind fun x_40 => (asI .i16 (cs_2.getD 38 undef)).bind fun x_41 => (asI .i16 (cs_2.getD 39 undef)).bind fun x_42 => (asI .i16 (cs_2.getD 40 undef)).bind fun x_43 => (asI .i16 (cs_2.getD 41 undef)).bind fun x_44 => (asI .i16 (cs_2.getD 42 undef)).bind fun x_45 => (asI .i16 (cs_2.getD 43 undef)).bind fun x_46 => (asI .i16 (cs_2.getD 44 undef)).bind fun x_47 => (asI .i16 (cs_2.getD 45 undef)).bind fun x_48 => (asI .i16 (cs_2.getD 46 undef)).bind fun x_49 => (asI .i16 (cs_2.getD 47 undef)).bind fun x_50 => (asI .i16 (cs_2.getD 48 undef)).bind fun x_51 => (asI .i16 (cs_2.getD 49 undef)).bind fun x_52 => (asI .i16 (cs_2.getD 50 undef)).bind fun x_53 => (asI .i16 (cs_2.getD 51 undef)).bind fun x_54 => (asI .i16 (cs_2.getD 52 undef)).bind fun x_55 => (asI .i16 (cs_2.getD 53 undef)).bind fun x_56 => (asI .i16 (cs_2.getD 54 undef)).bind fun x_57 => (asI .i16 (cs_2.getD 55 undef)).bind fun x_58 => (asI .i16 (cs_2.getD 56 undef)).bind fun x_59 => (asI .i16 (cs_2.getD 57 undef)).bind fun x_60 => (asI .i16 (cs_2.getD 58 undef)).bind fun x_61 => (asI .i16 (cs_2.getD 59 undef)).bind fun x_62 => (asI .i16 (cs_2.getD 60 undef)).bind fun x_63 => (asI .i16 (cs_2.getD 61 undef)).bind fun x_64 => (asI .i16 (cs_2.getD 62 undef)).bind fun x_65 => (asI .i16 (cs_2.getD 63 undef)).bind fun x_66 => (asI .i16 (cs_2.getD 64 undef)).bind fun x_67 => ((r_1.2.new (.cells #[.int .i16 0, .int .i16 0, .int .i16 0, .int .i16 0, .int .i16 0, .int .i16 0, .int .i16 0, .int .i16 0, .int .i16 0, .int .i16 0, .int .i16 0, .int .i16 0, .int .i16 0, .int .i16 0, .int .i16 0, .int .i16 0, .int .i16 0, .int .i16 0, .int .i16 0, .int .i16 0, .int .i16 0, .int .i16 0, .int .i16 0, .int .i16 0, .int .i16 0, .int .i16 0, .int .i16 0, .int .i16 0, .int .i16 0, .int .i16 0, .int .i16 0, .int .i16 0, .int .i16 0, .int .i16 0, .int .i16 0, .int .i16 0, .int .i16 0, .int .i16 0, .int .i16 0, .int .i16 0, .int .i16 0, .int .i16 0, .int .i16 0, .int .i16 0, .int .i16 0, .int .i16 0, .int .i16 0, .int .i16 0, .int .i16 0, .int .i16 0, .int .i16 0, .int .i16 0, .int .i16 0, .int .i16 0, .int .i16 0, .int .i16 0, .int .i16 0, .int .i16 0, .int .i16 0, .int .i16 0, .int .i16 0, .int .i16 0, .int .i16 0, .int .i16 0, .int .i16 0] 44)).put (2 * r_1.2.nb.size) 0 (.int .i16 x_3)).bind fun M_68 => (M_68.put (2 * r_1.2.nb.size) 1 (.int .i16 x_4)).bind fun M_69 => (M_69.put (2 * r_1.2.nb.size) 2 (.int .i16 x_5)).bind fun M_70 => (M_70.put (2 * r_1.2.nb.size) 3 (.int .i16 x_6)).bind fun M_71 => (M_71.put (2 * r_1.2.nb.size) 4 (.int .i16 x_7)).bind fun M_72 => (M_72.put (2 * r_1.2.nb.size) 5 (.int .i16 x_8)).bind fun M_73 => (M_73.put (2 * r_1.2.nb.size) 6 (.int .i16 x_9)).bind fun M_74 => (M_74.put (2 * r_1.2.nb.size) 7 (.int .i16 x_10)).bind fun M_75 => (M_75.put (2 * r_1.2.nb.size) 8 (.int .i16 x_11)).bind fun M_76 => (M_76.put (2 * r_1.2.nb.size) 9 (.int .i16 x_12)).bind fun M_77 => (M_77.put (2 * r_1.2.nb.size) 10 (.int .i16 x_13)).bind fun M_78 => (M_78.put (2 * r_1.2.nb.size) 11 (.int .i16 x_14)).bind fun M_79 => (M_79.put (2 * r_1.2.nb.size) 12 (.int .i16 x_15)).bind fun M_80 => (M_80.put (2 * r_1.2.nb.size) 13 (.int .i16 x_16)).bind fun M_81 => (M_81.put (2 * r_1.2.nb.size) 14 (.int .i16 x_17)).bind fun M_82 => (M_82.put (2 * r_1.2.nb.size) 15 (.int .i16 x_18)).bind fun M_83 => (M_83.put (2 * r_1.2.nb.size) 16 (.int .i16 x_19)).bind fun M_84 => (M_84.put (2 * r_1.2.nb.size) 17 (.int .i16 x_20)).bind fun M_85 => (M_85.put (2 * r_1.2.nb.size) 18 (.int .i16 x_21)).bind fun M_86 => (M_86.put (2 * r_1.2.nb.size) 19 (.int .i16 x_22)).bind fun M_87 => (M_87.put (2 * r_1.2.nb.size) 20 (.int .i16 x_23)).bind fun M_88 => (M_88.put (2 * r_1.2.nb.size) 21 (.int .i16 x_24)).bind fun M_89 => (M_89.put (2 * r_1.2.nb.size) 22 (.int .i16 x_25)).bind fun M_90 => (M_90.put (2 * r_1.2.nb.size) 23 (.int .i16 x_26)).bind fun M_91 => (M_91.put (2 * r_1.2.nb.size) 24 (.int .i16 x_27)).bind fun M_92 => (M_92.put (2 * r_1.2.nb.size) 25 (.int .i16 x_28)).bind fun M_93 => (M_93.put (2 * r_1.2.nb.size) 26 (.int .i16 x_29)).bind fun M_94 => (M_94.put (2 * r_1.2.nb.size) 27 (.int .i16 x_30)).bind fun M_95 => (M_95.put (2 * r_1.2.nb.size) 28 (.int .i16 x_31)).bind fun M_96 => (M_96.put (2 * r_1.2.nb.size) 29 (.int .i16 x_32)).bind fun M_97 => (M_97.put (2 * r_1.2.nb.size) 30 (.int .i16 x_33)).bind fun M_98 => (M_98.put (2 * r_1.2.nb.size) 31 (.int .i16 x_34)).bind fun M_99 => (M_99.put (2 * r_1.2.nb.size) 32 (.int .i16 x_35)).bind fun M_100 => (M_100.put (2 * r_1.2.nb.size) 33 (.int .i16 x_36)).bind fun M_101 => (M_101.put (2 * r_1.2.nb.size) 34 (.int .i16 x_37)).bind fun M_102 => (M_102.put (2 * r_1.2.nb.size) 35 (.int .i16 x_38)).bind fun M_103 => (M_103.put (2 * r_1.2.nb.size) 36 (.int .i16 x_39)).bind fun M_104 => (M_104.put (2 * r_1.2.nb.size) 37 (.int .i16 x_40)).bind fun M_105 => (M_105.put (2 * r_1.2.nb.size) 38 (.int .i16 x_41)).bind fun M_106 => (M_106.put (2 * r_1.2.nb.size) 39 (.int .i16 x_42)).bind fun M_107 => (M_107.put (2 * r_1.2.nb.size) 40 (.int .i16 x_43)).bind fun M_108 => (M_108.put (2 * r_1.2.nb.size) 41 (.int .i16 x_44)).bind fun M_109 => (M_109.put (2 * r_1.2.nb.size) 42 (.int .i16 x_45)).bind fun M_110 => (M_110.put (2 * r_1.2.nb.size) 43 (.int .i16 x_46)).bind fun M_111 => (M_111.put (2 * r_1.2.nb.size) 44 (.int .i16 x_47)).bind fun M_112 => (M_112.put (2 * r_1.2.nb.size) 45 (.int .i16 x_48)).bind fun M_113 => (M_113.put (2 * r_1.2.nb.size) 46 (.int .i16 x_49)).bind fun M_114 => (M_114.put (2 * r_1.2.nb.size) 47 (.int .i16 x_50)).bind fun M_115 => (M_115.put (2 * r_1.2.nb.size) 48 (.int .i16 x_51)).bind fun M_116 => (M_116.put (2 * r_1.2.nb.size) 49 (.int .i16 x_52)).bind fun M_117 => (M_117.put (2 * r_1.2.nb.size) 50 (.int .i16 x_53)).bind fun M_118 => (M_118.put (2 * r_1.2.nb.size) 51 (.int .i16 x_54)).bind fun M_119 => (M_119.put (2 * r_1.2.nb.size) 52 (.int .i16 x_55)).bind fun M_120 => (M_120.put (2 * r_1.2.nb.size) 53 (.int .i16 x_56)).bind fun M_121 => (M_121.put (2 * r_1.2.nb.size) 54 (.int .i16 x_57)).bind fun M_122 => (M_122.put (2 * r_1.2.nb.size) 55 (.int .i16 x_58)).bind fun M_123 => (M_123.put (2 * r_1.2.nb.size) 56 (.int .i16 x_59)).bind fun M_124 => (M_124.put (2 * r_1.2.nb.size) 57 (.int .i16 x_60)).bind fun M_125 => (M_125.put (2 * r_1.2.nb.size) 58 (.int .i16 x_61)).bind fun M_126 => (M_126.put (2 * r_1.2.nb.size) 59 (.int .i16 x_62)).bind fun M_127 => (M_127.put (2 * r_1.2.nb.size) 60 (.int .i16 x_63)).bind fun M_128 => (M_128.put (2 * r_1.2.nb.size) 61 (.int .i16 x_64)).bind fun M_129 => (M_129.put (2 * r_1.2.nb.size) 62 (.int .i16 x_65)).bind fun M_130 => (M_130.put (2 * r_1.2.nb.size) 63 (.int .i16 x_66)).bind fun M_131 => (M_131.put (2 * r_1.2.nb.size) 64 (.int .i16 x_67)).bind fun M_132 => K #[g0,g1,g2,g3,g4,.pointer (some ⟨2 * r_1.2.nb.size, 0, none⟩),g6,.agg #[.int .i16 x_3, .int .i16 x_4, .int .i16 x_5, .int .i16 x_6, .int .i16 x_7, .int .i16 x_8, .int .i16 x_9, .int .i16 x_10, .int .i16 x_11, .int .i16 x_12, .int .i16 x_13, .int .i16 x_14, .int .i16 x_15, .int .i16 x_16, .int .i16 x_17, .int .i16 x_18, .int .i16 x_19, .int .i16 x_20, .int .i16 x_21, .int .i16 x_22, .int .i16 x_23, .int .i16 x_24, .int .i16 x_25, .int .i16 x_26, .int .i16 x_27, .int .i16 x_28, .int .i16 x_29, .int .i16 x_30, .int .i16 x_31, .int .i16 x_32, .int .i16 x_33, .int .i16 x_34, .int .i16 x_35, .int .i16 x_36, .int .i16 x_37, .int .i16 x_38, .int .i16 x_39, .int .i16 x_40, .int .i16 x_41, .int .i16 x_42, .int .i16 x_43, .int .i16 x_44, .int .i16 x_45, .int .i16 x_46, .int .i16 x_47, .int .i16 x_48, .int .i16 x_49, .int .i16 x_50, .int .i16 x_51, .int .i16 x_52, .int .i16 x_53, .int .i16 x_54, .int .i16 x_55, .int .i16 x_56, .int .i16 x_57, .int .i16 x_58, .int .i16 x_59, .int .i16 x_60, .int .i16 x_61, .int .i16 x_62, .int .i16 x_63, .int .i16 x_64, .int .i16 x_65, .int .i16 x_66, .int .i16 x_67],g8,g9,g10,g11,g12,g13,g14,g15,g16,g17,g18,g19,g20,g21,g22,g23,g24,g25,g26,g27,g28] M_132 := by kernel_rfl
theorem k36_4 : P36 [1,1] = .seq (P36 [1,1,0]) (P36 [1,1,1]) := by kernel_rfl
theorem k36_5 : P36 [1,1,0] = .seq (P36 [1,1,0,0]) (P36 [1,1,0,1]) := by kernel_rfl
theorem k36_6 : P36 [1,1,0,0] = .region 2 (O36 [1,1,0,0]) false := by kernel_rfl
theorem r36_2 {x0 : Int} {M : Mem} {call : CallM} {K : Array Value → Mem → R} :
    opsK Try.prog (fun _ => call) (O36 [1,1,0,0]) (O36 [1,1,0,0]).toList 0 #[.int .i64 x0,g1,g2,g3,g4,g5,g6,g7,g8,g9,g10,g11,g12,g13,g14,g15,g16,g17,g18,g19,g20,g21,g22,g23,g24,g25,g26,g27,g28] M K = K #[.int .i64 x0,g1,g2,g3,g4,g5,g6,g7,.int .i64 x0,g9,g10,g11,g12,g13,g14,g15,g16,g17,g18,g19,g20,g21,g22,g23,g24,g25,g26,g27,g28] M := by kernel_rfl
theorem k36_7 : P36 [1,1,0,1] = .block 0 (P36 [1,1,0,1,0]) := by kernel_rfl
theorem k36_8 : P36 [1,1,0,1,0] = .seq (P36 [1,1,0,1,0,0]) (P36 [1,1,0,1,0,1]) := by kernel_rfl
theorem k36_9 : P36 [1,1,0,1,0,0] = .region 3 (O36 [1,1,0,1,0,0]) false := by kernel_rfl
theorem r36_3 {x8 : Int} {M : Mem} {call : CallM} {K : Array Value → Mem → R} :
    opsK Try.prog (fun _ => call) (O36 [1,1,0,1,0,0]) (O36 [1,1,0,1,0,0]).toList 0 #[g0,g1,g2,g3,g4,g5,g6,g7,.int .i64 x8,g9,g10,g11,g12,g13,g14,g15,g16,g17,g18,g19,g20,g21,g22,g23,g24,g25,g26,g27,g28] M K = K #[g0,g1,g2,g3,g4,g5,g6,g7,.int .i64 x8,.bool (x8 == 0),.bool (x8 == 0),g11,g12,g13,g14,g15,g16,g17,g18,g19,g20,g21,g22,g23,g24,g25,g26,g27,g28] M := by kernel_rfl
theorem c36_10 : P36 [1,1,0,1,0,1] = .cond (.tmp 9) (P36 [1,1,0,1,0,1,0]) (P36 [1,1,0,1,0,1,1]) := by kernel_rfl
theorem k36_11 : P36 [1,1,0,1,0,1,0] = .seq (P36 [1,1,0,1,0,1,0,0]) (P36 [1,1,0,1,0,1,0,1]) := by kernel_rfl
theorem k36_12 : P36 [1,1,0,1,0,1,0,0] = .region 4 (O36 [1,1,0,1,0,1,0,0]) false := by kernel_rfl
theorem r36_4 {x3 x4 x5 : Option Addr} {M : Mem} {call : CallM} {K : Array Value → Mem → R} :
    opsK Try.prog (fun _ => call) (O36 [1,1,0,1,0,1,0,0]) (O36 [1,1,0,1,0,1,0,0]).toList 0 #[g0,g1,g2,.pointer x3,.pointer x4,.pointer x5,g6,g7,g8,g9,g10,g11,g12,g13,g14,g15,g16,g17,g18,g19,g20,g21,g22,g23,g24,g25,g26,g27,g28] M K = (x4).bind fun a_1 => (M.put a_1.block a_1.off (.int .i64 64)).bind fun M_2 => (M_2.put a_1.block (a_1.off + 1) (.func (.func 41) #[] #[.pointer x5, .pointer x3])).bind fun M_3 => K #[g0,g1,g2,.pointer x3,.pointer x4,.pointer x5,g6,g7,g8,g9,g10,.func (.func 41) #[] #[.pointer x5, .pointer x3],.agg #[.int .i64 64, .func (.func 41) #[] #[.pointer x5, .pointer x3]],g13,g14,g15,g16,g17,g18,g19,g20,g21,g22,g23,g24,g25,g26,g27,g28] M_3 := by kernel_rfl
theorem k36_13 : P36 [1,1,0,1,0,1,0,1] = .ret := by kernel_rfl
theorem e36_0 {x4 : Option Addr} {M : Mem} {K : List Value → R} : resK Try.prog #[g0,g1,g2,g3,.pointer x4,g5,g6,g7,g8,g9,g10,g11,g12,g13,g14,g15,g16,g17,g18,g19,g20,g21,g22,g23,g24,g25,g26,g27,g28] M (Try.f36).results.toList K = (x4).bind fun a_1 => (M.intAt .i64 a_1.block a_1.off).bind fun x_2 => (M.cell a_1.block (a_1.off + 1)).bind fun v_3 => K [.agg #[.int .i64 x_2, v_3]] := by kernel_rfl
theorem k36_15 : P36 [1,1,0,1,0,1,1] = .seq (P36 [1,1,0,1,0,1,1,0]) (P36 [1,1,0,1,0,1,1,1]) := by kernel_rfl
theorem k36_16 : P36 [1,1,0,1,0,1,1,0] = .region 5 (O36 [1,1,0,1,0,1,1,0]) false := by kernel_rfl
theorem r36_5 {x8 : Int} {M : Mem} {call : CallM} {K : Array Value → Mem → R} :
    opsK Try.prog (fun _ => call) (O36 [1,1,0,1,0,1,1,0]) (O36 [1,1,0,1,0,1,1,0]).toList 0 #[g0,g1,g2,g3,g4,g5,g6,g7,.int .i64 x8,g9,g10,g11,g12,g13,g14,g15,g16,g17,g18,g19,g20,g21,g22,g23,g24,g25,g26,g27,g28] M K = K #[g0,g1,g2,g3,g4,g5,g6,g7,.int .i64 x8,g9,g10,g11,g12,.bool (x8 == 1),.bool (x8 == 1),g15,g16,g17,g18,g19,g20,g21,g22,g23,g24,g25,g26,g27,g28] M := by kernel_rfl
theorem c36_17 : P36 [1,1,0,1,0,1,1,1] = .cond (.tmp 13) (P36 [1,1,0,1,0,1,1,1,0]) (P36 [1,1,0,1,0,1,1,1,1]) := by kernel_rfl
theorem k36_18 : P36 [1,1,0,1,0,1,1,1,0] = .seq (P36 [1,1,0,1,0,1,1,1,0,0]) (P36 [1,1,0,1,0,1,1,1,0,1]) := by kernel_rfl
theorem k36_19 : P36 [1,1,0,1,0,1,1,1,0,0] = .region 6 (O36 [1,1,0,1,0,1,1,1,0,0]) false := by kernel_rfl
theorem r36_6 {x3 x4 x5 : Option Addr} {M : Mem} {call : CallM} {K : Array Value → Mem → R} :
    opsK Try.prog (fun _ => call) (O36 [1,1,0,1,0,1,1,1,0,0]) (O36 [1,1,0,1,0,1,1,1,0,0]).toList 0 #[g0,g1,g2,.pointer x3,.pointer x4,.pointer x5,g6,g7,g8,g9,g10,g11,g12,g13,g14,g15,g16,g17,g18,g19,g20,g21,g22,g23,g24,g25,g26,g27,g28] M K = (x4).bind fun a_1 => (M.put a_1.block a_1.off (.int .i64 16)).bind fun M_2 => (M_2.put a_1.block (a_1.off + 1) (.func (.func 42) #[] #[.pointer x5, .pointer x3])).bind fun M_3 => K #[g0,g1,g2,.pointer x3,.pointer x4,.pointer x5,g6,g7,g8,g9,g10,g11,g12,g13,g14,.func (.func 42) #[] #[.pointer x5, .pointer x3],.agg #[.int .i64 16, .func (.func 42) #[] #[.pointer x5, .pointer x3]],g17,g18,g19,g20,g21,g22,g23,g24,g25,g26,g27,g28] M_3 := by kernel_rfl
theorem k36_20 : P36 [1,1,0,1,0,1,1,1,0,1] = .ret := by kernel_rfl
theorem k36_21 : P36 [1,1,0,1,0,1,1,1,1] = .seq (P36 [1,1,0,1,0,1,1,1,1,0]) (P36 [1,1,0,1,0,1,1,1,1,1]) := by kernel_rfl
theorem k36_22 : P36 [1,1,0,1,0,1,1,1,1,0] = .region 7 (O36 [1,1,0,1,0,1,1,1,1,0]) false := by kernel_rfl
theorem r36_7 {x8 : Int} {M : Mem} {call : CallM} {K : Array Value → Mem → R} :
    opsK Try.prog (fun _ => call) (O36 [1,1,0,1,0,1,1,1,1,0]) (O36 [1,1,0,1,0,1,1,1,1,0]).toList 0 #[g0,g1,g2,g3,g4,g5,g6,g7,.int .i64 x8,g9,g10,g11,g12,g13,g14,g15,g16,g17,g18,g19,g20,g21,g22,g23,g24,g25,g26,g27,g28] M K = K #[g0,g1,g2,g3,g4,g5,g6,g7,.int .i64 x8,g9,g10,g11,g12,g13,g14,g15,g16,.bool (x8 == 2),.bool (x8 == 2),g19,g20,g21,g22,g23,g24,g25,g26,g27,g28] M := by kernel_rfl
theorem c36_23 : P36 [1,1,0,1,0,1,1,1,1,1] = .cond (.tmp 17) (P36 [1,1,0,1,0,1,1,1,1,1,0]) (P36 [1,1,0,1,0,1,1,1,1,1,1]) := by kernel_rfl
theorem k36_24 : P36 [1,1,0,1,0,1,1,1,1,1,0] = .seq (P36 [1,1,0,1,0,1,1,1,1,1,0,0]) (P36 [1,1,0,1,0,1,1,1,1,1,0,1]) := by kernel_rfl
theorem k36_25 : P36 [1,1,0,1,0,1,1,1,1,1,0,0] = .region 8 (O36 [1,1,0,1,0,1,1,1,1,1,0,0]) false := by kernel_rfl
theorem r36_8 {x3 : Option Addr} {M : Mem} {call : CallM} {K : Array Value → Mem → R} :
    opsK Try.prog (fun _ => call) (O36 [1,1,0,1,0,1,1,1,1,1,0,0]) (O36 [1,1,0,1,0,1,1,1,1,1,0,0]).toList 0 #[g0,g1,g2,.pointer x3,g4,g5,g6,g7,g8,g9,g10,g11,g12,g13,g14,g15,g16,g17,g18,g19,g20,g21,g22,g23,g24,g25,g26,g27,g28] M K = (mapPutV Try.prog 56 (.map (some (2 * M.nb.size))) (.int .i64 4) (.int .i64 5793) (M.new (.map #[] 0))).bind fun r_1 => (mapPutV Try.prog 56 (.map (some (2 * M.nb.size))) (.int .i64 8) (.int .i64 8192) r_1.2).bind fun r_2 => (mapPutV Try.prog 56 (.map (some (2 * M.nb.size))) (.int .i64 16) (.int .i64 11586) r_2.2).bind fun r_3 => (mapPutV Try.prog 56 (.map (some (2 * M.nb.size))) (.int .i64 32) (.int .i64 16384) r_3.2).bind fun r_4 => (x3).bind fun a_5 => (r_4.2.intAt .i64 a_5.block a_5.off).bind fun x_6 => (lookupV Try.prog 56 (.map (some (2 * M.nb.size))) (.int .i64 x_6) false r_4.2).bind fun r_7 => (asI .i64 r_7.1).bind fun x_8 => ((r_7.2.new (.cells #[.int .i64 0] 3)).put (2 * r_7.2.nb.size) 0 (.int .i64 x_8)).bind fun M_9 => K #[g0,g1,g2,.pointer x3,g4,g5,.pointer (some ⟨2 * r_7.2.nb.size, 0, none⟩),g7,g8,g9,g10,g11,g12,g13,g14,g15,g16,g17,g18,.map (some (2 * M.nb.size)),.map (some (2 * M.nb.size)),.int .i64 x_6,.int .i64 x_8,g23,g24,g25,g26,g27,g28] M_9 := by kernel_rfl
theorem k36_26 : P36 [1,1,0,1,0,1,1,1,1,1,0,1] = .seq (P36 [1,1,0,1,0,1,1,1,1,1,0,1,0]) (P36 [1,1,0,1,0,1,1,1,1,1,0,1,1]) := by kernel_rfl
theorem k36_27 : P36 [1,1,0,1,0,1,1,1,1,1,0,1,0] = .region 9 (O36 [1,1,0,1,0,1,1,1,1,1,0,1,0]) false := by kernel_rfl
theorem r36_9 {x4 x6 : Option Addr} {M : Mem} {call : CallM} {K : Array Value → Mem → R} :
    opsK Try.prog (fun _ => call) (O36 [1,1,0,1,0,1,1,1,1,1,0,1,0]) (O36 [1,1,0,1,0,1,1,1,1,1,0,1,0]).toList 0 #[g0,g1,g2,g3,.pointer x4,g5,.pointer x6,g7,g8,g9,g10,g11,g12,g13,g14,g15,g16,g17,g18,g19,g20,g21,g22,g23,g24,g25,g26,g27,g28] M K = (x4).bind fun a_1 => (M.put a_1.block a_1.off (.int .i64 32)).bind fun M_2 => (M_2.put a_1.block (a_1.off + 1) (.func (.func 43) #[] #[.pointer x6])).bind fun M_3 => K #[g0,g1,g2,g3,.pointer x4,g5,.pointer x6,g7,g8,g9,g10,g11,g12,g13,g14,g15,g16,g17,g18,g19,g20,g21,g22,.func (.func 43) #[] #[.pointer x6],.agg #[.int .i64 32, .func (.func 43) #[] #[.pointer x6]],g25,g26,g27,g28] M_3 := by kernel_rfl
theorem k36_28 : P36 [1,1,0,1,0,1,1,1,1,1,0,1,1] = .ret := by kernel_rfl
theorem k36_29 : P36 [1,1,0,1,0,1,1,1,1,1,1] = .seq (P36 [1,1,0,1,0,1,1,1,1,1,1,0]) (P36 [1,1,0,1,0,1,1,1,1,1,1,1]) := by kernel_rfl
theorem k36_30 : P36 [1,1,0,1,0,1,1,1,1,1,1,0] = .region 10 (O36 [1,1,0,1,0,1,1,1,1,1,1,0]) false := by kernel_rfl
theorem r36_10 {x8 : Int} {M : Mem} {call : CallM} {K : Array Value → Mem → R} :
    opsK Try.prog (fun _ => call) (O36 [1,1,0,1,0,1,1,1,1,1,1,0]) (O36 [1,1,0,1,0,1,1,1,1,1,1,0]).toList 0 #[g0,g1,g2,g3,g4,g5,g6,g7,.int .i64 x8,g9,g10,g11,g12,g13,g14,g15,g16,g17,g18,g19,g20,g21,g22,g23,g24,g25,g26,g27,g28] M K = K #[g0,g1,g2,g3,g4,g5,g6,g7,.int .i64 x8,g9,g10,g11,g12,g13,g14,g15,g16,g17,g18,g19,g20,g21,g22,g23,g24,.bool (x8 == 3),.bool (x8 == 3),g27,g28] M := by kernel_rfl
theorem c36_31 : P36 [1,1,0,1,0,1,1,1,1,1,1,1] = .cond (.tmp 25) (P36 [1,1,0,1,0,1,1,1,1,1,1,1,0]) (P36 [1,1,0,1,0,1,1,1,1,1,1,1,1]) := by kernel_rfl
theorem k36_32 : P36 [1,1,0,1,0,1,1,1,1,1,1,1,0] = .seq (P36 [1,1,0,1,0,1,1,1,1,1,1,1,0,0]) (P36 [1,1,0,1,0,1,1,1,1,1,1,1,0,1]) := by kernel_rfl
theorem k36_33 : P36 [1,1,0,1,0,1,1,1,1,1,1,1,0,0] = .region 11 (O36 [1,1,0,1,0,1,1,1,1,1,1,1,0,0]) false := by kernel_rfl
theorem r36_11 {x4 : Option Addr} {M : Mem} {call : CallM} {K : Array Value → Mem → R} :
    opsK Try.prog (fun _ => call) (O36 [1,1,0,1,0,1,1,1,1,1,1,1,0,0]) (O36 [1,1,0,1,0,1,1,1,1,1,1,1,0,0]).toList 0 #[g0,g1,g2,g3,.pointer x4,g5,g6,g7,g8,g9,g10,g11,g12,g13,g14,g15,g16,g17,g18,g19,g20,g21,g22,g23,g24,g25,g26,g27,g28] M K = (x4).bind fun a_1 => (M.put a_1.block a_1.off (.int .i64 4)).bind fun M_2 => (M_2.put a_1.block (a_1.off + 1) (.nilFunc)).bind fun M_3 => K #[g0,g1,g2,g3,.pointer x4,g5,g6,g7,g8,g9,g10,g11,g12,g13,g14,g15,g16,g17,g18,g19,g20,g21,g22,g23,g24,g25,g26,.agg #[.int .i64 4, .nilFunc],g28] M_3 := by kernel_rfl
theorem k36_34 : P36 [1,1,0,1,0,1,1,1,1,1,1,1,0,1] = .ret := by kernel_rfl
theorem k36_35 : P36 [1,1,0,1,0,1,1,1,1,1,1,1,1] = .skip := by kernel_rfl
theorem k36_36 : P36 [1,1,1] = .seq (P36 [1,1,1,0]) (P36 [1,1,1,1]) := by kernel_rfl
theorem k36_37 : P36 [1,1,1,0] = .region 12 (O36 [1,1,1,0]) false := by kernel_rfl
theorem r36_12 {x4 : Option Addr} {M : Mem} {call : CallM} {K : Array Value → Mem → R} :
    opsK Try.prog (fun _ => call) (O36 [1,1,1,0]) (O36 [1,1,1,0]).toList 0 #[g0,g1,g2,g3,.pointer x4,g5,g6,g7,g8,g9,g10,g11,g12,g13,g14,g15,g16,g17,g18,g19,g20,g21,g22,g23,g24,g25,g26,g27,g28] M K = (x4).bind fun a_1 => (M.put a_1.block a_1.off (.int .i64 0)).bind fun M_2 => (M_2.put a_1.block (a_1.off + 1) (.nilFunc)).bind fun M_3 => K #[g0,g1,g2,g3,.pointer x4,g5,g6,g7,g8,g9,g10,g11,g12,g13,g14,g15,g16,g17,g18,g19,g20,g21,g22,g23,g24,g25,g26,g27,.agg #[.int .i64 0, .nilFunc]] M_3 := by kernel_rfl
theorem k36_38 : P36 [1,1,1,1] = .ret := by kernel_rfl
theorem w36_0 {x0 x1 : Int} {M : Mem} {Q : Value → Mem → Prop} (H :
    Cn Try.prog 30 #[] ((M.new (.cells #[.int .i64 x1] 3)).new (.cells #[.int .i64 0, .nilFunc] 39)) fun v1' N1' =>
     ∃ cs2', asA 65 v1' = some cs2' ∧
     ∃ x3', asI .i16 (cs2'.getD 0 undef) = some x3' ∧
     ∃ x4', asI .i16 (cs2'.getD 1 undef) = some x4' ∧
     ∃ x5', asI .i16 (cs2'.getD 2 undef) = some x5' ∧
     ∃ x6', asI .i16 (cs2'.getD 3 undef) = some x6' ∧
     ∃ x7', asI .i16 (cs2'.getD 4 undef) = some x7' ∧
     ∃ x8', asI .i16 (cs2'.getD 5 undef) = some x8' ∧
     ∃ x9', asI .i16 (cs2'.getD 6 undef) = some x9' ∧
     ∃ x10', asI .i16 (cs2'.getD 7 undef) = some x10' ∧
     ∃ x11', asI .i16 (cs2'.getD 8 undef) = some x11' ∧
     ∃ x12', asI .i16 (cs2'.getD 9 undef) = some x12' ∧
     ∃ x13', asI .i16 (cs2'.getD 10 undef) = some x13' ∧
     ∃ x14', asI .i16 (cs2'.getD 11 undef) = some x14' ∧
     ∃ x15', asI .i16 (cs2'.getD 12 undef) = some x15' ∧
     ∃ x16', asI .i16 (cs2'.getD 13 undef) = some x16' ∧
     ∃ x17', asI .i16 (cs2'.getD 14 undef) = some x17' ∧
     ∃ x18', asI .i16 (cs2'.getD 15 undef) = some x18' ∧
     ∃ x19', asI .i16 (cs2'.getD 16 undef) = some x19' ∧
     ∃ x20', asI .i16 (cs2'.getD 17 undef) = some x20' ∧
     ∃ x21', asI .i16 (cs2'.getD 18 undef) = some x21' ∧
     ∃ x22', asI .i16 (cs2'.getD 19 undef) = some x22' ∧
     ∃ x23', asI .i16 (cs2'.getD 20 undef) = some x23' ∧
     ∃ x24', asI .i16 (cs2'.getD 21 undef) = some x24' ∧
     ∃ x25', asI .i16 (cs2'.getD 22 undef) = some x25' ∧
     ∃ x26', asI .i16 (cs2'.getD 23 undef) = some x26' ∧
     ∃ x27', asI .i16 (cs2'.getD 24 undef) = some x27' ∧
     ∃ x28', asI .i16 (cs2'.getD 25 undef) = some x28' ∧
     ∃ x29', asI .i16 (cs2'.getD 26 undef) = some x29' ∧
     ∃ x30', asI .i16 (cs2'.getD 27 undef) = some x30' ∧
     ∃ x31', asI .i16 (cs2'.getD 28 undef) = some x31' ∧
     ∃ x32', asI .i16 (cs2'.getD 29 undef) = some x32' ∧
     ∃ x33', asI .i16 (cs2'.getD 30 undef) = some x33' ∧
     ∃ x34', asI .i16 (cs2'.getD 31 undef) = some x34' ∧
     ∃ x35', asI .i16 (cs2'.getD 32 undef) = some x35' ∧
     ∃ x36', asI .i16 (cs2'.getD 33 undef) = some x36' ∧
     ∃ x37', asI .i16 (cs2'.getD 34 undef) = some x37' ∧
     ∃ x38', asI .i16 (cs2'.getD 35 undef) = some x38' ∧
     ∃ x39', asI .i16 (cs2'.getD 36 undef) = some x39' ∧
     ∃ x40', asI .i16 (cs2'.getD 37 undef) = some x40' ∧
     ∃ x41', asI .i16 (cs2'.getD 38 undef) = some x41' ∧
     ∃ x42', asI .i16 (cs2'.getD 39 undef) = some x42' ∧
     ∃ x43', asI .i16 (cs2'.getD 40 undef) = some x43' ∧
     ∃ x44', asI .i16 (cs2'.getD 41 undef) = some x44' ∧
     ∃ x45', asI .i16 (cs2'.getD 42 undef) = some x45' ∧
     ∃ x46', asI .i16 (cs2'.getD 43 undef) = some x46' ∧
     ∃ x47', asI .i16 (cs2'.getD 44 undef) = some x47' ∧
     ∃ x48', asI .i16 (cs2'.getD 45 undef) = some x48' ∧
     ∃ x49', asI .i16 (cs2'.getD 46 undef) = some x49' ∧
     ∃ x50', asI .i16 (cs2'.getD 47 undef) = some x50' ∧
     ∃ x51', asI .i16 (cs2'.getD 48 undef) = some x51' ∧
     ∃ x52', asI .i16 (cs2'.getD 49 undef) = some x52' ∧
     ∃ x53', asI .i16 (cs2'.getD 50 undef) = some x53' ∧
     ∃ x54', asI .i16 (cs2'.getD 51 undef) = some x54' ∧
     ∃ x55', asI .i16 (cs2'.getD 52 undef) = some x55' ∧
     ∃ x56', asI .i16 (cs2'.getD 53 undef) = some x56' ∧
     ∃ x57', asI .i16 (cs2'.getD 54 undef) = some x57' ∧
     ∃ x58', asI .i16 (cs2'.getD 55 undef) = some x58' ∧
     ∃ x59', asI .i16 (cs2'.getD 56 undef) = some x59' ∧
     ∃ x60', asI .i16 (cs2'.getD 57 undef) = some x60' ∧
     ∃ x61', asI .i16 (cs2'.getD 58 undef) = some x61' ∧
     ∃ x62', asI .i16 (cs2'.getD 59 undef) = some x62' ∧
     ∃ x63', asI .i16 (cs2'.getD 60 undef) = some x63' ∧
     ∃ x64', asI .i16 (cs2'.getD 61 undef) = some x64' ∧
     ∃ x65', asI .i16 (cs2'.getD 62 undef) = some x65' ∧
     ∃ x66', asI .i16 (cs2'.getD 63 undef) = some x66' ∧
     ∃ x67', asI .i16 (cs2'.getD 64 undef) = some x67' ∧
     ∃ M68', (N1'.new (.cells #[.int .i16 0, .int .i16 0, .int .i16 0, .int .i16 0, .int .i16 0, .int .i16 0, .int .i16 0, .int .i16 0, .int .i16 0, .int .i16 0, .int .i16 0, .int .i16 0, .int .i16 0, .int .i16 0, .int .i16 0, .int .i16 0, .int .i16 0, .int .i16 0, .int .i16 0, .int .i16 0, .int .i16 0, .int .i16 0, .int .i16 0, .int .i16 0, .int .i16 0, .int .i16 0, .int .i16 0, .int .i16 0, .int .i16 0, .int .i16 0, .int .i16 0, .int .i16 0, .int .i16 0, .int .i16 0, .int .i16 0, .int .i16 0, .int .i16 0, .int .i16 0, .int .i16 0, .int .i16 0, .int .i16 0, .int .i16 0, .int .i16 0, .int .i16 0, .int .i16 0, .int .i16 0, .int .i16 0, .int .i16 0, .int .i16 0, .int .i16 0, .int .i16 0, .int .i16 0, .int .i16 0, .int .i16 0, .int .i16 0, .int .i16 0, .int .i16 0, .int .i16 0, .int .i16 0, .int .i16 0, .int .i16 0, .int .i16 0, .int .i16 0, .int .i16 0, .int .i16 0] 44)).put (2 * N1'.nb.size) 0 (.int .i16 x3') = some M68' ∧
     ∃ M69', M68'.put (2 * N1'.nb.size) 1 (.int .i16 x4') = some M69' ∧
     ∃ M70', M69'.put (2 * N1'.nb.size) 2 (.int .i16 x5') = some M70' ∧
     ∃ M71', M70'.put (2 * N1'.nb.size) 3 (.int .i16 x6') = some M71' ∧
     ∃ M72', M71'.put (2 * N1'.nb.size) 4 (.int .i16 x7') = some M72' ∧
     ∃ M73', M72'.put (2 * N1'.nb.size) 5 (.int .i16 x8') = some M73' ∧
     ∃ M74', M73'.put (2 * N1'.nb.size) 6 (.int .i16 x9') = some M74' ∧
     ∃ M75', M74'.put (2 * N1'.nb.size) 7 (.int .i16 x10') = some M75' ∧
     ∃ M76', M75'.put (2 * N1'.nb.size) 8 (.int .i16 x11') = some M76' ∧
     ∃ M77', M76'.put (2 * N1'.nb.size) 9 (.int .i16 x12') = some M77' ∧
     ∃ M78', M77'.put (2 * N1'.nb.size) 10 (.int .i16 x13') = some M78' ∧
     ∃ M79', M78'.put (2 * N1'.nb.size) 11 (.int .i16 x14') = some M79' ∧
     ∃ M80', M79'.put (2 * N1'.nb.size) 12 (.int .i16 x15') = some M80' ∧
     ∃ M81', M80'.put (2 * N1'.nb.size) 13 (.int .i16 x16') = some M81' ∧
     ∃ M82', M81'.put (2 * N1'.nb.size) 14 (.int .i16 x17') = some M82' ∧
     ∃ M83', M82'.put (2 * N1'.nb.size) 15 (.int .i16 x18') = some M83' ∧
     ∃ M84', M83'.put (2 * N1'.nb.size) 16 (.int .i16 x19') = some M84' ∧
     ∃ M85', M84'.put (2 * N1'.nb.size) 17 (.int .i16 x20') = some M85' ∧
     ∃ M86', M85'.put (2 * N1'.nb.size) 18 (.int .i16 x21') = some M86' ∧
     ∃ M87', M86'.put (2 * N1'.nb.size) 19 (.int .i16 x22') = some M87' ∧
     ∃ M88', M87'.put (2 * N1'.nb.size) 20 (.int .i16 x23') = some M88' ∧
     ∃ M89', M88'.put (2 * N1'.nb.size) 21 (.int .i16 x24') = some M89' ∧
     ∃ M90', M89'.put (2 * N1'.nb.size) 22 (.int .i16 x25') = some M90' ∧
     ∃ M91', M90'.put (2 * N1'.nb.size) 23 (.int .i16 x26') = some M91' ∧
     ∃ M92', M91'.put (2 * N1'.nb.size) 24 (.int .i16 x27') = some M92' ∧
     ∃ M93', M92'.put (2 * N1'.nb.size) 25 (.int .i16 x28') = some M93' ∧
     ∃ M94', M93'.put (2 * N1'.nb.size) 26 (.int .i16 x29') = some M94' ∧
     ∃ M95', M94'.put (2 * N1'.nb.size) 27 (.int .i16 x30') = some M95' ∧
     ∃ M96', M95'.put (2 * N1'.nb.size) 28 (.int .i16 x31') = some M96' ∧
     ∃ M97', M96'.put (2 * N1'.nb.size) 29 (.int .i16 x32') = some M97' ∧
     ∃ M98', M97'.put (2 * N1'.nb.size) 30 (.int .i16 x33') = some M98' ∧
     ∃ M99', M98'.put (2 * N1'.nb.size) 31 (.int .i16 x34') = some M99' ∧
     ∃ M100', M99'.put (2 * N1'.nb.size) 32 (.int .i16 x35') = some M100' ∧
     ∃ M101', M100'.put (2 * N1'.nb.size) 33 (.int .i16 x36') = some M101' ∧
     ∃ M102', M101'.put (2 * N1'.nb.size) 34 (.int .i16 x37') = some M102' ∧
     ∃ M103', M102'.put (2 * N1'.nb.size) 35 (.int .i16 x38') = some M103' ∧
     ∃ M104', M103'.put (2 * N1'.nb.size) 36 (.int .i16 x39') = some M104' ∧
     ∃ M105', M104'.put (2 * N1'.nb.size) 37 (.int .i16 x40') = some M105' ∧
     ∃ M106', M105'.put (2 * N1'.nb.size) 38 (.int .i16 x41') = some M106' ∧
     ∃ M107', M106'.put (2 * N1'.nb.size) 39 (.int .i16 x42') = some M107' ∧
     ∃ M108', M107'.put (2 * N1'.nb.size) 40 (.int .i16 x43') = some M108' ∧
     ∃ M109', M108'.put (2 * N1'.nb.size) 41 (.int .i16 x44') = some M109' ∧
     ∃ M110', M109'.put (2 * N1'.nb.size) 42 (.int .i16 x45') = some M110' ∧
     ∃ M111', M110'.put (2 * N1'.nb.size) 43 (.int .i16 x46') = some M111' ∧
     ∃ M112', M111'.put (2 * N1'.nb.size) 44 (.int .i16 x47') = some M112' ∧
     ∃ M113', M112'.put (2 * N1'.nb.size) 45 (.int .i16 x48') = some M113' ∧
     ∃ M114', M113'.put (2 * N1'.nb.size) 46 (.int .i16 x49') = some M114' ∧
     ∃ M115', M114'.put (2 * N1'.nb.size) 47 (.int .i16 x50') = some M115' ∧
     ∃ M116', M115'.put (2 * N1'.nb.size) 48 (.int .i16 x51') = some M116' ∧
     ∃ M117', M116'.put (2 * N1'.nb.size) 49 (.int .i16 x52') = some M117' ∧
     ∃ M118', M117'.put (2 * N1'.nb.size) 50 (.int .i16 x53') = some M118' ∧
     ∃ M119', M118'.put (2 * N1'.nb.size) 51 (.int .i16 x54') = some M119' ∧
     ∃ M120', M119'.put (2 * N1'.nb.size) 52 (.int .i16 x55') = some M120' ∧
     ∃ M121', M120'.put (2 * N1'.nb.size) 53 (.int .i16 x56') = some M121' ∧
     ∃ M122', M121'.put (2 * N1'.nb.size) 54 (.int .i16 x57') = some M122' ∧
     ∃ M123', M122'.put (2 * N1'.nb.size) 55 (.int .i16 x58') = some M123' ∧
     ∃ M124', M123'.put (2 * N1'.nb.size) 56 (.int .i16 x59') = some M124' ∧
     ∃ M125', M124'.put (2 * N1'.nb.size) 57 (.int .i16 x60') = some M125' ∧
     ∃ M126', M125'.put (2 * N1'.nb.size) 58 (.int .i16 x61') = some M126' ∧
     ∃ M127', M126'.put (2 * N1'.nb.size) 59 (.int .i16 x62') = some M127' ∧
     ∃ M128', M127'.put (2 * N1'.nb.size) 60 (.int .i16 x63') = some M128' ∧
     ∃ M129', M128'.put (2 * N1'.nb.size) 61 (.int .i16 x64') = some M129' ∧
     ∃ M130', M129'.put (2 * N1'.nb.size) 62 (.int .i16 x65') = some M130' ∧
     ∃ M131', M130'.put (2 * N1'.nb.size) 63 (.int .i16 x66') = some M131' ∧
     ∃ M132', M131'.put (2 * N1'.nb.size) 64 (.int .i16 x67') = some M132' ∧
     ((x0 = 0 →
      ∃ M133', M132'.put (2 * (M.new (.cells #[.int .i64 x1] 3)).nb.size) 0 (.int .i64 64) = some M133' ∧
      ∃ M134', M133'.put (2 * (M.new (.cells #[.int .i64 x1] 3)).nb.size) (0 + 1) (.func (.func 41) #[] #[.pointer (some ⟨2 * N1'.nb.size, 0, none⟩), .pointer (some ⟨2 * M.nb.size, 0, none⟩)]) = some M134' ∧
      ∃ x135', M134'.intAt .i64 (2 * (M.new (.cells #[.int .i64 x1] 3)).nb.size) 0 = some x135' ∧
      ∃ v136', M134'.cell (2 * (M.new (.cells #[.int .i64 x1] 3)).nb.size) (0 + 1) = some v136' ∧
      Q (.agg #[.int .i64 (x135'), v136']) M134') ∧
      (x0 ≠ 0 →
      ((x0 = 1 →
       ∃ M137', M132'.put (2 * (M.new (.cells #[.int .i64 x1] 3)).nb.size) 0 (.int .i64 16) = some M137' ∧
       ∃ M138', M137'.put (2 * (M.new (.cells #[.int .i64 x1] 3)).nb.size) (0 + 1) (.func (.func 42) #[] #[.pointer (some ⟨2 * N1'.nb.size, 0, none⟩), .pointer (some ⟨2 * M.nb.size, 0, none⟩)]) = some M138' ∧
       ∃ x139', M138'.intAt .i64 (2 * (M.new (.cells #[.int .i64 x1] 3)).nb.size) 0 = some x139' ∧
       ∃ v140', M138'.cell (2 * (M.new (.cells #[.int .i64 x1] 3)).nb.size) (0 + 1) = some v140' ∧
       Q (.agg #[.int .i64 (x139'), v140']) M138') ∧
       (x0 ≠ 1 →
       ((x0 = 2 →
        ∃ r141', mapPutV Try.prog 56 (.map (some (2 * M132'.nb.size))) (.int .i64 4) (.int .i64 5793) (M132'.new (.map #[] 0)) = some r141' ∧
        ∃ r142', mapPutV Try.prog 56 (.map (some (2 * M132'.nb.size))) (.int .i64 8) (.int .i64 8192) r141'.2 = some r142' ∧
        ∃ r143', mapPutV Try.prog 56 (.map (some (2 * M132'.nb.size))) (.int .i64 16) (.int .i64 11586) r142'.2 = some r143' ∧
        ∃ r144', mapPutV Try.prog 56 (.map (some (2 * M132'.nb.size))) (.int .i64 32) (.int .i64 16384) r143'.2 = some r144' ∧
        ∃ x145', r144'.2.intAt .i64 (2 * M.nb.size) 0 = some x145' ∧
        ∃ r146', lookupV Try.prog 56 (.map (some (2 * M132'.nb.size))) (.int .i64 x145') false r144'.2 = some r146' ∧
        ∃ x147', asI .i64 r146'.1 = some x147' ∧
        ∃ M148', (r146'.2.new (.cells #[.int .i64 0] 3)).put (2 * r146'.2.nb.size) 0 (.int .i64 x147') = some M148' ∧
        ∃ M149', M148'.put (2 * (M.new (.cells #[.int .i64 x1] 3)).nb.size) 0 (.int .i64 32) = some M149' ∧
        ∃ M150', M149'.put (2 * (M.new (.cells #[.int .i64 x1] 3)).nb.size) (0 + 1) (.func (.func 43) #[] #[.pointer (some ⟨2 * r146'.2.nb.size, 0, none⟩)]) = some M150' ∧
        ∃ x151', M150'.intAt .i64 (2 * (M.new (.cells #[.int .i64 x1] 3)).nb.size) 0 = some x151' ∧
        ∃ v152', M150'.cell (2 * (M.new (.cells #[.int .i64 x1] 3)).nb.size) (0 + 1) = some v152' ∧
        Q (.agg #[.int .i64 (x151'), v152']) M150') ∧
        (x0 ≠ 2 →
        ((x0 = 3 →
         ∃ M153', M132'.put (2 * (M.new (.cells #[.int .i64 x1] 3)).nb.size) 0 (.int .i64 4) = some M153' ∧
         ∃ M154', M153'.put (2 * (M.new (.cells #[.int .i64 x1] 3)).nb.size) (0 + 1) (.nilFunc) = some M154' ∧
         ∃ x155', M154'.intAt .i64 (2 * (M.new (.cells #[.int .i64 x1] 3)).nb.size) 0 = some x155' ∧
         ∃ v156', M154'.cell (2 * (M.new (.cells #[.int .i64 x1] 3)).nb.size) (0 + 1) = some v156' ∧
         Q (.agg #[.int .i64 (x155'), v156']) M154') ∧
         (x0 ≠ 3 →
         ∃ M157', M132'.put (2 * (M.new (.cells #[.int .i64 x1] 3)).nb.size) 0 (.int .i64 0) = some M157' ∧
         ∃ M158', M157'.put (2 * (M.new (.cells #[.int .i64 x1] 3)).nb.size) (0 + 1) (.nilFunc) = some M158' ∧
         ∃ x159', M158'.intAt .i64 (2 * (M.new (.cells #[.int .i64 x1] 3)).nb.size) 0 = some x159' ∧
         ∃ v160', M158'.cell (2 * (M.new (.cells #[.int .i64 x1] 3)).nb.size) (0 + 1) = some v160' ∧
         Q (.agg #[.int .i64 (x159'), v160']) M158'))))))))) :
    Cn Try.prog 36 #[.int .i64 x0, .int .i64 x1] M Q := by
  refine Cn.of b36 d36 t36 ?_
  refine Rn.seq k36_0 (Rn.region k36_1 (fun call K => r36_0) (Rch.leaf (Rn.seq k36_2 (Rn.region k36_3 (fun call K => r36_1) (Rch.call H fun v1' N1' H => Rch.ex H fun cs2' H => Rch.ex H fun x3' H => Rch.ex H fun x4' H => Rch.ex H fun x5' H => Rch.ex H fun x6' H => Rch.ex H fun x7' H => ?_)))))
  refine Rch.ex H fun x8' H => Rch.ex H fun x9' H => Rch.ex H fun x10' H => Rch.ex H fun x11' H => Rch.ex H fun x12' H => Rch.ex H fun x13' H => Rch.ex H fun x14' H => Rch.ex H fun x15' H => Rch.ex H fun x16' H => Rch.ex H fun x17' H => Rch.ex H fun x18' H => Rch.ex H fun x19' H => ?_
  refine Rch.ex H fun x20' H => Rch.ex H fun x21' H => Rch.ex H fun x22' H => Rch.ex H fun x23' H => Rch.ex H fun x24' H => Rch.ex H fun x25' H => Rch.ex H fun x26' H => Rch.ex H fun x27' H => Rch.ex H fun x28' H => Rch.ex H fun x29' H => Rch.ex H fun x30' H => Rch.ex H fun x31' H => ?_
  refine Rch.ex H fun x32' H => Rch.ex H fun x33' H => Rch.ex H fun x34' H => Rch.ex H fun x35' H => Rch.ex H fun x36' H => Rch.ex H fun x37' H => Rch.ex H fun x38' H => Rch.ex H fun x39' H => Rch.ex H fun x40' H => Rch.ex H fun x41' H => Rch.ex H fun x42' H => Rch.ex H fun x43' H => ?_
  refine Rch.ex H fun x44' H => Rch.ex H fun x45' H => Rch.ex H fun x46' H => Rch.ex H fun x47' H => Rch.ex H fun x48' H => Rch.ex H fun x49' H => Rch.ex H fun x50' H => Rch.ex H fun x51' H => Rch.ex H fun x52' H => Rch.ex H fun x53' H => Rch.ex H fun x54' H => Rch.ex H fun x55' H => ?_
  refine Rch.ex H fun x56' H => Rch.ex H fun x57' H => Rch.ex H fun x58' H => Rch.ex H fun x59' H => Rch.ex H fun x60' H => Rch.ex H fun x61' H => Rch.ex H fun x62' H => Rch.ex H fun x63' H => Rch.ex H fun x64' H => Rch.ex H fun x65' H => Rch.ex H fun x66' H => Rch.ex H fun x67' H => ?_
  refine Rch.ex H fun M68' H => Rch.ex H fun M69' H => Rch.ex H fun M70' H => Rch.ex H fun M71' H => Rch.ex H fun M72' H => Rch.ex H fun M73' H => Rch.ex H fun M74' H => Rch.ex H fun M75' H => Rch.ex H fun M76' H => Rch.ex H fun M77' H => Rch.ex H fun M78' H => Rch.ex H fun M79' H => ?_
  refine Rch.ex H fun M80' H => Rch.ex H fun M81' H => Rch.ex H fun M82' H => Rch.ex H fun M83' H => Rch.ex H fun M84' H => Rch.ex H fun M85' H => Rch.ex H fun M86' H => Rch.ex H fun M87' H => Rch.ex H fun M88' H => Rch.ex H fun M89' H => Rch.ex H fun M90' H => Rch.ex H fun M91' H => ?_
  refine Rch.ex H fun M92' H => Rch.ex H fun M93' H => Rch.ex H fun M94' H => Rch.ex H fun M95' H => Rch.ex H fun M96' H => Rch.ex H fun M97' H => Rch.ex H fun M98' H => Rch.ex H fun M99' H => Rch.ex H fun M100' H => Rch.ex H fun M101' H => Rch.ex H fun M102' H => Rch.ex H fun M103' H => ?_
  refine Rch.ex H fun M104' H => Rch.ex H fun M105' H => Rch.ex H fun M106' H => Rch.ex H fun M107' H => Rch.ex H fun M108' H => Rch.ex H fun M109' H => Rch.ex H fun M110' H => Rch.ex H fun M111' H => Rch.ex H fun M112' H => Rch.ex H fun M113' H => Rch.ex H fun M114' H => Rch.ex H fun M115' H => ?_
  refine Rch.ex H fun M116' H => Rch.ex H fun M117' H => Rch.ex H fun M118' H => Rch.ex H fun M119' H => Rch.ex H fun M120' H => Rch.ex H fun M121' H => Rch.ex H fun M122' H => Rch.ex H fun M123' H => Rch.ex H fun M124' H => Rch.ex H fun M125' H => Rch.ex H fun M126' H => Rch.ex H fun M127' H => ?_
  refine Rch.ex H fun M128' H => Rch.ex H fun M129' H => Rch.ex H fun M130' H => Rch.ex H fun M131' H => Rch.ex H fun M132' H => Rch.leaf (Rn.seq k36_4 (Rn.seq k36_5 (Rn.region k36_6 (fun call K => r36_2) (Rch.leaf (Rn.block k36_7 (Rn.seq k36_8 ?_))))))
  refine Rn.region k36_9 (fun call K => r36_3) (Rch.leaf ?_)
  refine Rn.cnd (v := x0 == 0) ⟨c36_10, rfl, by kernel_rfl⟩ (fun h => ?_) (fun h => ?_)
  · replace H := H.1 (eq_of_beq h)
    refine Rn.seq k36_11 (Rn.region k36_12 (fun call K => r36_4) (Rch.bind (x := ⟨2 * (M.new (.cells #[.int .i64 x1] 3)).nb.size, 0, none⟩) rfl (Rch.ex H fun M133' H => Rch.ex H fun M134' H => Rch.leaf (Rn.retK k36_13 (fun K => e36_0) (Rch.bind (x := ⟨2 * (M.new (.cells #[.int .i64 x1] 3)).nb.size, 0, none⟩) rfl (Rch.ex H fun x135' H => Rch.ex H fun v136' H => ?_))))))
    exact Rch.fin H
  · replace H := H.2 (ne_of_beq_false h)
    refine Rn.seq k36_15 (Rn.region k36_16 (fun call K => r36_5) (Rch.leaf ?_))
    refine Rn.cnd (v := x0 == 1) ⟨c36_17, rfl, by kernel_rfl⟩ (fun h => ?_) (fun h => ?_)
    · replace H := H.1 (eq_of_beq h)
      refine Rn.seq k36_18 (Rn.region k36_19 (fun call K => r36_6) (Rch.bind (x := ⟨2 * (M.new (.cells #[.int .i64 x1] 3)).nb.size, 0, none⟩) rfl (Rch.ex H fun M137' H => Rch.ex H fun M138' H => Rch.leaf (Rn.retK k36_20 (fun K => e36_0) (Rch.bind (x := ⟨2 * (M.new (.cells #[.int .i64 x1] 3)).nb.size, 0, none⟩) rfl (Rch.ex H fun x139' H => Rch.ex H fun v140' H => ?_))))))
      exact Rch.fin H
    · replace H := H.2 (ne_of_beq_false h)
      refine Rn.seq k36_21 (Rn.region k36_22 (fun call K => r36_7) (Rch.leaf ?_))
      refine Rn.cnd (v := x0 == 2) ⟨c36_23, rfl, by kernel_rfl⟩ (fun h => ?_) (fun h => ?_)
      · replace H := H.1 (eq_of_beq h)
        refine Rn.seq k36_24 (Rn.region k36_25 (fun call K => r36_8) (Rch.ex H fun r141' H => Rch.ex H fun r142' H => Rch.ex H fun r143' H => Rch.ex H fun r144' H => Rch.bind (x := ⟨2 * M.nb.size, 0, none⟩) rfl (Rch.ex H fun x145' H => Rch.ex H fun r146' H => Rch.ex H fun x147' H => Rch.ex H fun M148' H => Rch.leaf ?_)))
        refine Rn.seq k36_26 (Rn.region k36_27 (fun call K => r36_9) (Rch.bind (x := ⟨2 * (M.new (.cells #[.int .i64 x1] 3)).nb.size, 0, none⟩) rfl (Rch.ex H fun M149' H => Rch.ex H fun M150' H => Rch.leaf (Rn.retK k36_28 (fun K => e36_0) (Rch.bind (x := ⟨2 * (M.new (.cells #[.int .i64 x1] 3)).nb.size, 0, none⟩) rfl (Rch.ex H fun x151' H => Rch.ex H fun v152' H => ?_))))))
        exact Rch.fin H
      · replace H := H.2 (ne_of_beq_false h)
        refine Rn.seq k36_29 (Rn.region k36_30 (fun call K => r36_10) (Rch.leaf ?_))
        refine Rn.cnd (v := x0 == 3) ⟨c36_31, rfl, by kernel_rfl⟩ (fun h => ?_) (fun h => ?_)
        · replace H := H.1 (eq_of_beq h)
          refine Rn.seq k36_32 (Rn.region k36_33 (fun call K => r36_11) (Rch.bind (x := ⟨2 * (M.new (.cells #[.int .i64 x1] 3)).nb.size, 0, none⟩) rfl (Rch.ex H fun M153' H => Rch.ex H fun M154' H => Rch.leaf (Rn.retK k36_34 (fun K => e36_0) (Rch.bind (x := ⟨2 * (M.new (.cells #[.int .i64 x1] 3)).nb.size, 0, none⟩) rfl (Rch.ex H fun x155' H => Rch.ex H fun v156' H => ?_))))))
          exact Rch.fin H
        · replace H := H.2 (ne_of_beq_false h)
          refine Rn.skip k36_35 (Rn.blk (Rn.seq k36_36 (Rn.region k36_37 (fun call K => r36_12) (Rch.bind (x := ⟨2 * (M.new (.cells #[.int .i64 x1] 3)).nb.size, 0, none⟩) rfl (Rch.ex H fun M157' H => Rch.ex H fun M158' H => Rch.leaf (Rn.retK k36_38 (fun K => e36_0) (Rch.bind (x := ⟨2 * (M.new (.cells #[.int .i64 x1] 3)).nb.size, 0, none⟩) rfl (Rch.ex H fun x159' H => Rch.ex H fun v160' H => ?_))))))))
          exact Rch.fin H


/-! ### zoetrope/basis.kinds$1: function 41 -/
noncomputable abbrev P41 (p : List Nat) : Code := subC (codeOf Try.f41) p
noncomputable abbrev O41 (p : List Nat) : Array Oper := opsOf (subC (codeOf Try.f41) p)
theorem b41 : Try.prog.funcs[41]? = some Try.f41 ∧ (Orc.tab Try.prog).lookup 41 = none := ⟨by kernel_rfl, by kernel_rfl⟩
theorem d41 : Try.f41.body = some (P41 []) := by kernel_rfl
theorem t41 {x0 x1 : Int} {x2 x3 : Option Addr} : #[.int .i64 x0,.int .i64 x1,.pointer x2,.pointer x3] ++ Array.replicate (Try.f41.ntmps - (#[.int .i64 x0,.int .i64 x1,.pointer x2,.pointer x3] : Array Value).size) undef = #[.int .i64 x0,.int .i64 x1,.pointer x2,.pointer x3,undef,undef,undef,undef,undef,undef,undef,undef,undef,undef,undef,undef,undef,undef,undef] := by kernel_rfl
theorem k41_0 : P41 [] = .seq (P41 [0]) (P41 [1]) := by kernel_rfl
theorem k41_1 : P41 [0] = .region 0 (O41 [0]) false := by kernel_rfl
theorem r41_0 {M : Mem} {call : CallM} {K : Array Value → Mem → R} :
    opsK Try.prog (fun _ => call) (O41 [0]) (O41 [0]).toList 0 #[g0,g1,g2,g3,g4,g5,g6,g7,g8,g9,g10,g11,g12,g13,g14,g15,g16,g17,g18] M K = K #[g0,g1,g2,g3,g4,g5,.int .i64 0,g7,g8,g9,g10,g11,g12,g13,g14,g15,g16,g17,g18] M := by kernel_rfl
theorem k41_2 : P41 [1] = .seq (P41 [1,0]) (P41 [1,1]) := by kernel_rfl
theorem k41_3 : P41 [1,0] = .seq (P41 [1,0,0]) (P41 [1,0,1]) := by kernel_rfl
theorem k41_4 : P41 [1,0,0] = .region 1 (O41 [1,0,0]) false := by kernel_rfl
theorem r41_1 {x0 : Int} {M : Mem} {call : CallM} {K : Array Value → Mem → R} :
    opsK Try.prog (fun _ => call) (O41 [1,0,0]) (O41 [1,0,0]).toList 0 #[.int .i64 x0,g1,g2,g3,g4,g5,g6,g7,g8,g9,g10,g11,g12,g13,g14,g15,g16,g17,g18] M K = K #[.int .i64 x0,g1,g2,g3,g4,g5,g6,.int .i64 x0,.bool (x0 == 0),g9,g10,g11,g12,g13,g14,g15,g16,g17,g18] M := by kernel_rfl
theorem c41_5 : P41 [1,0,1] = .cond (.tmp 8) (P41 [1,0,1,0]) (P41 [1,0,1,1]) := by kernel_rfl
theorem k41_6 : P41 [1,0,1,0] = .seq (P41 [1,0,1,0,0]) (P41 [1,0,1,0,1]) := by kernel_rfl
theorem k41_7 : P41 [1,0,1,0,0] = .region 2 (O41 [1,0,1,0,0]) false := by kernel_rfl
theorem r41_2 {x2 : Option Addr} {M : Mem} {call : CallM} {K : Array Value → Mem → R} :
    opsK Try.prog (fun _ => call) (O41 [1,0,1,0,0]) (O41 [1,0,1,0,0]).toList 0 #[g0,g1,.pointer x2,g3,g4,g5,g6,g7,g8,g9,g10,g11,g12,g13,g14,g15,g16,g17,g18] M K = (call 31 #[.pointer x2, .int .i64 32] M).bind fun r_1 => (asI .i64 r_1.1).bind fun x_2 => K #[g0,g1,.pointer x2,g3,g4,g5,.int .i64 x_2,g7,g8,.int .i64 x_2,g10,g11,g12,g13,g14,g15,g16,g17,g18] r_1.2 := by kernel_rfl
theorem k41_8 : P41 [1,0,1,0,1] = .ret := by kernel_rfl
theorem e41 {M : Mem} : finish Try.prog Try.f41 #[g0,g1,g2,g3,g4,g5,g6,g7,g8,g9,g10,g11,g12,g13,g14,g15,g16,g17,g18] M = some (g6, M) := by kernel_rfl
theorem k41_10 : P41 [1,0,1,1] = .skip := by kernel_rfl
theorem k41_11 : P41 [1,1] = .seq (P41 [1,1,0]) (P41 [1,1,1]) := by kernel_rfl
theorem k41_12 : P41 [1,1,0] = .region 3 (O41 [1,1,0]) false := by kernel_rfl
theorem r41_3 {x0 x1 : Int} {x2 x3 : Option Addr} {M : Mem} {call : CallM} {K : Array Value → Mem → R} :
    opsK Try.prog (fun _ => call) (O41 [1,1,0]) (O41 [1,1,0]).toList 0 #[.int .i64 x0,.int .i64 x1,.pointer x2,.pointer x3,g4,g5,g6,g7,g8,g9,g10,g11,g12,g13,g14,g15,g16,g17,g18] M K = (x3).bind fun a_1 => (M.intAt .i64 a_1.block a_1.off).bind fun x_2 => (binV Try.prog .quo 3 3 (.int .i64 (IntKind.i64.wrap ((IntKind.i64.wrap ((IntKind.i64.wrap ((IntKind.i64.wrap (2 * x1)) + 1)) * x0)) * 64))) (.int .i64 x_2)).bind fun v_3 => (asI .i64 v_3).bind fun x_4 => (call 31 #[.pointer x2, .int .i64 x_4] M).bind fun r_5 => (asI .i64 r_5.1).bind fun x_6 => K #[.int .i64 x0,.int .i64 x1,.pointer x2,.pointer x3,g4,g5,.int .i64 x_6,g7,g8,g9,.int .i64 x1,.int .i64 (IntKind.i64.wrap (2 * x1)),.int .i64 (IntKind.i64.wrap ((IntKind.i64.wrap (2 * x1)) + 1)),.int .i64 x0,.int .i64 (IntKind.i64.wrap ((IntKind.i64.wrap ((IntKind.i64.wrap (2 * x1)) + 1)) * x0)),.int .i64 (IntKind.i64.wrap ((IntKind.i64.wrap ((IntKind.i64.wrap ((IntKind.i64.wrap (2 * x1)) + 1)) * x0)) * 64)),.int .i64 x_2,.int .i64 x_4,.int .i64 x_6] r_5.2 := by kernel_rfl
theorem k41_13 : P41 [1,1,1] = .ret := by kernel_rfl
theorem w41_0 {x0 x1 : Int} {x2 x3 : Option Addr} {M : Mem} {Q : Value → Mem → Prop} (H :
    ((x0 = 0 →
     Cn Try.prog 31 #[.pointer x2, .int .i64 32] M fun v1' N1' =>
      ∃ x2', asI .i64 v1' = some x2' ∧
      Q (.int .i64 (x2')) N1') ∧
     (x0 ≠ 0 →
     ∃ a3', x3 = some a3' ∧
     ∃ x4', M.intAt .i64 a3'.block a3'.off = some x4' ∧
     ∃ v5', binV Try.prog .quo 3 3 (.int .i64 (IntKind.i64.wrap ((IntKind.i64.wrap ((IntKind.i64.wrap ((IntKind.i64.wrap (2 * x1)) + 1)) * x0)) * 64))) (.int .i64 x4') = some v5' ∧
     ∃ x6', asI .i64 v5' = some x6' ∧
     Cn Try.prog 31 #[.pointer x2, .int .i64 x6'] M fun v7' N7' =>
      ∃ x8', asI .i64 v7' = some x8' ∧
      Q (.int .i64 (x8')) N7'))) :
    Cn Try.prog 41 #[.int .i64 x0, .int .i64 x1, .pointer x2, .pointer x3] M Q := by
  refine Cn.of b41 d41 t41 ?_
  refine Rn.seq k41_0 (Rn.region k41_1 (fun call K => r41_0) (Rch.leaf (Rn.seq k41_2 (Rn.seq k41_3 (Rn.region k41_4 (fun call K => r41_1) (Rch.leaf ?_))))))
  refine Rn.cnd (v := x0 == 0) ⟨c41_5, rfl, by kernel_rfl⟩ (fun h => ?_) (fun h => ?_)
  · replace H := H.1 (eq_of_beq h)
    refine Rn.seq k41_6 (Rn.region k41_7 (fun call K => r41_2) (Rch.call H fun v1' N1' H => Rch.ex H fun x2' H => Rch.leaf ?_))
    exact Rn.ret k41_8 e41 H
  · replace H := H.2 (ne_of_beq_false h)
    refine Rn.skip k41_10 (Rn.seq k41_11 (Rn.region k41_12 (fun call K => r41_3) (Rch.ex H fun a3' H => Rch.ex H fun x4' H => Rch.ex H fun v5' H => Rch.ex H fun x6' H => Rch.call H fun v7' N7' H => Rch.ex H fun x8' H => Rch.leaf ?_)))
    exact Rn.ret k41_13 e41 H


/-! ### zoetrope/basis.kinds$2: function 42 -/
noncomputable abbrev P42 (p : List Nat) : Code := subC (codeOf Try.f42) p
noncomputable abbrev O42 (p : List Nat) : Array Oper := opsOf (subC (codeOf Try.f42) p)
theorem b42 : Try.prog.funcs[42]? = some Try.f42 ∧ (Orc.tab Try.prog).lookup 42 = none := ⟨by kernel_rfl, by kernel_rfl⟩
theorem d42 : Try.f42.body = some (P42 []) := by kernel_rfl
theorem t42 {x0 x1 : Int} {x2 x3 : Option Addr} : #[.int .i64 x0,.int .i64 x1,.pointer x2,.pointer x3] ++ Array.replicate (Try.f42.ntmps - (#[.int .i64 x0,.int .i64 x1,.pointer x2,.pointer x3] : Array Value).size) undef = #[.int .i64 x0,.int .i64 x1,.pointer x2,.pointer x3,undef,undef,undef,undef,undef,undef,undef,undef,undef,undef,undef,undef,undef,undef,undef] := by kernel_rfl
theorem k42_0 : P42 [] = .seq (P42 [0]) (P42 [1]) := by kernel_rfl
theorem k42_1 : P42 [0] = .region 0 (O42 [0]) false := by kernel_rfl
theorem r42_0 {M : Mem} {call : CallM} {K : Array Value → Mem → R} :
    opsK Try.prog (fun _ => call) (O42 [0]) (O42 [0]).toList 0 #[g0,g1,g2,g3,g4,g5,g6,g7,g8,g9,g10,g11,g12,g13,g14,g15,g16,g17,g18] M K = K #[g0,g1,g2,g3,g4,g5,.int .i64 0,g7,g8,g9,g10,g11,g12,g13,g14,g15,g16,g17,g18] M := by kernel_rfl
theorem k42_2 : P42 [1] = .seq (P42 [1,0]) (P42 [1,1]) := by kernel_rfl
theorem k42_3 : P42 [1,0] = .region 1 (O42 [1,0]) false := by kernel_rfl
theorem r42_1 {x0 x1 : Int} {x2 x3 : Option Addr} {M : Mem} {call : CallM} {K : Array Value → Mem → R} :
    opsK Try.prog (fun _ => call) (O42 [1,0]) (O42 [1,0]).toList 0 #[.int .i64 x0,.int .i64 x1,.pointer x2,.pointer x3,g4,g5,g6,g7,g8,g9,g10,g11,g12,g13,g14,g15,g16,g17,g18] M K = (x3).bind fun a_1 => (M.intAt .i64 a_1.block a_1.off).bind fun x_2 => (binV Try.prog .quo 3 3 (.int .i64 (IntKind.i64.wrap ((IntKind.i64.wrap ((IntKind.i64.wrap ((IntKind.i64.wrap (2 * x1)) + 1)) * (IntKind.i64.wrap ((IntKind.i64.wrap (2 * x0)) + 1)))) * 32))) (.int .i64 x_2)).bind fun v_3 => (asI .i64 v_3).bind fun x_4 => (call 31 #[.pointer x2, .int .i64 (IntKind.i64.wrap (64 - x_4))] M).bind fun r_5 => (asI .i64 r_5.1).bind fun x_6 => K #[.int .i64 x0,.int .i64 x1,.pointer x2,.pointer x3,g4,g5,.int .i64 x_6,.int .i64 x1,.int .i64 (IntKind.i64.wrap (2 * x1)),.int .i64 (IntKind.i64.wrap ((IntKind.i64.wrap (2 * x1)) + 1)),.int .i64 x0,.int .i64 (IntKind.i64.wrap (2 * x0)),.int .i64 (IntKind.i64.wrap ((IntKind.i64.wrap (2 * x0)) + 1)),.int .i64 (IntKind.i64.wrap ((IntKind.i64.wrap ((IntKind.i64.wrap (2 * x1)) + 1)) * (IntKind.i64.wrap ((IntKind.i64.wrap (2 * x0)) + 1)))),.int .i64 (IntKind.i64.wrap ((IntKind.i64.wrap ((IntKind.i64.wrap ((IntKind.i64.wrap (2 * x1)) + 1)) * (IntKind.i64.wrap ((IntKind.i64.wrap (2 * x0)) + 1)))) * 32)),.int .i64 x_2,.int .i64 x_4,.int .i64 (IntKind.i64.wrap (64 - x_4)),.int .i64 x_6] r_5.2 := by kernel_rfl
theorem k42_4 : P42 [1,1] = .ret := by kernel_rfl
theorem e42 {M : Mem} : finish Try.prog Try.f42 #[g0,g1,g2,g3,g4,g5,g6,g7,g8,g9,g10,g11,g12,g13,g14,g15,g16,g17,g18] M = some (g6, M) := by kernel_rfl
theorem w42_0 {x0 x1 : Int} {x2 x3 : Option Addr} {M : Mem} {Q : Value → Mem → Prop} (H :
    ∃ a1', x3 = some a1' ∧
    ∃ x2', M.intAt .i64 a1'.block a1'.off = some x2' ∧
    ∃ v3', binV Try.prog .quo 3 3 (.int .i64 (IntKind.i64.wrap ((IntKind.i64.wrap ((IntKind.i64.wrap ((IntKind.i64.wrap (2 * x1)) + 1)) * (IntKind.i64.wrap ((IntKind.i64.wrap (2 * x0)) + 1)))) * 32))) (.int .i64 x2') = some v3' ∧
    ∃ x4', asI .i64 v3' = some x4' ∧
    Cn Try.prog 31 #[.pointer x2, .int .i64 (IntKind.i64.wrap (64 - x4'))] M fun v5' N5' =>
     ∃ x6', asI .i64 v5' = some x6' ∧
     Q (.int .i64 (x6')) N5') :
    Cn Try.prog 42 #[.int .i64 x0, .int .i64 x1, .pointer x2, .pointer x3] M Q := by
  refine Cn.of b42 d42 t42 ?_
  refine Rn.seq k42_0 (Rn.region k42_1 (fun call K => r42_0) (Rch.leaf (Rn.seq k42_2 (Rn.region k42_3 (fun call K => r42_1) (Rch.ex H fun a1' H => Rch.ex H fun x2' H => Rch.ex H fun v3' H => Rch.ex H fun x4' H => Rch.call H fun v5' N5' H => Rch.ex H fun x6' H => Rch.leaf ?_)))))
  exact Rn.ret k42_4 e42 H


/-! ### zoetrope/basis.kinds$3: function 43 -/
noncomputable abbrev P43 (p : List Nat) : Code := subC (codeOf Try.f43) p
noncomputable abbrev O43 (p : List Nat) : Array Oper := opsOf (subC (codeOf Try.f43) p)
theorem b43 : Try.prog.funcs[43]? = some Try.f43 ∧ (Orc.tab Try.prog).lookup 43 = none := ⟨by kernel_rfl, by kernel_rfl⟩
theorem d43 : Try.f43.body = some (P43 []) := by kernel_rfl
theorem t43 {x0 x1 : Int} {x2 : Option Addr} : #[.int .i64 x0,.int .i64 x1,.pointer x2] ++ Array.replicate (Try.f43.ntmps - (#[.int .i64 x0,.int .i64 x1,.pointer x2] : Array Value).size) undef = #[.int .i64 x0,.int .i64 x1,.pointer x2,undef,undef,undef,undef,undef,undef,undef] := by kernel_rfl
theorem k43_0 : P43 [] = .seq (P43 [0]) (P43 [1]) := by kernel_rfl
theorem k43_1 : P43 [0] = .region 0 (O43 [0]) false := by kernel_rfl
theorem r43_0 {M : Mem} {call : CallM} {K : Array Value → Mem → R} :
    opsK Try.prog (fun _ => call) (O43 [0]) (O43 [0]).toList 0 #[g0,g1,g2,g3,g4,g5,g6,g7,g8,g9] M K = K #[g0,g1,g2,g3,g4,.int .i64 0,g6,g7,g8,g9] M := by kernel_rfl
theorem k43_2 : P43 [1] = .seq (P43 [1,0]) (P43 [1,1]) := by kernel_rfl
theorem k43_3 : P43 [1,0] = .seq (P43 [1,0,0]) (P43 [1,0,1]) := by kernel_rfl
theorem k43_4 : P43 [1,0,0] = .region 1 (O43 [1,0,0]) false := by kernel_rfl
theorem r43_1 {x0 x1 : Int} {M : Mem} {call : CallM} {K : Array Value → Mem → R} :
    opsK Try.prog (fun _ => call) (O43 [1,0,0]) (O43 [1,0,0]).toList 0 #[.int .i64 x0,.int .i64 x1,g2,g3,g4,g5,g6,g7,g8,g9] M K = K #[.int .i64 x0,.int .i64 x1,g2,g3,g4,g5,.int .i64 x0,.int .i64 x1,.bool (x0 != x1),g9] M := by kernel_rfl
theorem c43_5 : P43 [1,0,1] = .cond (.tmp 8) (P43 [1,0,1,0]) (P43 [1,0,1,1]) := by kernel_rfl
theorem k43_6 : P43 [1,0,1,0] = .seq (P43 [1,0,1,0,0]) (P43 [1,0,1,0,1]) := by kernel_rfl
theorem k43_7 : P43 [1,0,1,0,0] = .region 2 (O43 [1,0,1,0,0]) false := by kernel_rfl
theorem r43_2 {M : Mem} {call : CallM} {K : Array Value → Mem → R} :
    opsK Try.prog (fun _ => call) (O43 [1,0,1,0,0]) (O43 [1,0,1,0,0]).toList 0 #[g0,g1,g2,g3,g4,g5,g6,g7,g8,g9] M K = K #[g0,g1,g2,g3,g4,.int .i64 0,g6,g7,g8,g9] M := by kernel_rfl
theorem k43_8 : P43 [1,0,1,0,1] = .ret := by kernel_rfl
theorem e43 {M : Mem} : finish Try.prog Try.f43 #[g0,g1,g2,g3,g4,g5,g6,g7,g8,g9] M = some (g5, M) := by kernel_rfl
theorem k43_10 : P43 [1,0,1,1] = .skip := by kernel_rfl
theorem k43_11 : P43 [1,1] = .seq (P43 [1,1,0]) (P43 [1,1,1]) := by kernel_rfl
theorem k43_12 : P43 [1,1,0] = .region 3 (O43 [1,1,0]) false := by kernel_rfl
theorem r43_3 {x2 : Option Addr} {M : Mem} {call : CallM} {K : Array Value → Mem → R} :
    opsK Try.prog (fun _ => call) (O43 [1,1,0]) (O43 [1,1,0]).toList 0 #[g0,g1,.pointer x2,g3,g4,g5,g6,g7,g8,g9] M K = (x2).bind fun a_1 => (M.intAt .i64 a_1.block a_1.off).bind fun x_2 => K #[g0,g1,.pointer x2,g3,g4,.int .i64 x_2,g6,g7,g8,.int .i64 x_2] M := by kernel_rfl
theorem k43_13 : P43 [1,1,1] = .ret := by kernel_rfl
theorem w43_0 {x0 x1 : Int} {x2 : Option Addr} {M : Mem} {Q : Value → Mem → Prop} (H :
    ((x0 ≠ x1 →
     Q (.int .i64 0) M) ∧
     (x0 = x1 →
     ∃ a1', x2 = some a1' ∧
     ∃ x2', M.intAt .i64 a1'.block a1'.off = some x2' ∧
     Q (.int .i64 (x2')) M))) :
    Cn Try.prog 43 #[.int .i64 x0, .int .i64 x1, .pointer x2] M Q := by
  refine Cn.of b43 d43 t43 ?_
  refine Rn.seq k43_0 (Rn.region k43_1 (fun call K => r43_0) (Rch.leaf (Rn.seq k43_2 (Rn.seq k43_3 (Rn.region k43_4 (fun call K => r43_1) (Rch.leaf ?_))))))
  refine Rn.cnd (v := x0 != x1) ⟨c43_5, rfl, by kernel_rfl⟩ (fun h => ?_) (fun h => ?_)
  · replace H := H.1 (ne_of_bneT h)
    refine Rn.seq k43_6 (Rn.region k43_7 (fun call K => r43_2) (Rch.leaf ?_))
    exact Rn.ret k43_8 e43 H
  · replace H := H.2 (eq_of_bneF h)
    refine Rn.skip k43_10 (Rn.seq k43_11 (Rn.region k43_12 (fun call K => r43_3) (Rch.ex H fun a1' H => Rch.ex H fun x2' H => Rch.leaf ?_)))
    exact Rn.ret k43_13 e43 H


/-! ### zoetrope/basis.cos: function 31 -/
noncomputable abbrev P31 (p : List Nat) : Code := subC (codeOf Try.f31) p
noncomputable abbrev O31 (p : List Nat) : Array Oper := opsOf (subC (codeOf Try.f31) p)
theorem b31 : Try.prog.funcs[31]? = some Try.f31 ∧ (Orc.tab Try.prog).lookup 31 = none := ⟨by kernel_rfl, by kernel_rfl⟩
theorem d31 : Try.f31.body = some (P31 []) := by kernel_rfl
theorem t31 {x0 : Option Addr} {x1 : Int} : #[.pointer x0,.int .i64 x1] ++ Array.replicate (Try.f31.ntmps - (#[.pointer x0,.int .i64 x1] : Array Value).size) undef = #[.pointer x0,.int .i64 x1,undef,undef,undef,undef,undef,undef,undef,undef,undef,undef,undef,undef,undef,undef,undef,undef,undef,undef,undef,undef,undef,undef,undef,undef,undef] := by kernel_rfl
theorem k31_0 : P31 [] = .seq (P31 [0]) (P31 [1]) := by kernel_rfl
theorem k31_1 : P31 [0] = .region 0 (O31 [0]) false := by kernel_rfl
theorem r31_0 {M : Mem} {call : CallM} {K : Array Value → Mem → R} :
    opsK Try.prog (fun _ => call) (O31 [0]) (O31 [0]).toList 0 #[g0,g1,g2,g3,g4,g5,g6,g7,g8,g9,g10,g11,g12,g13,g14,g15,g16,g17,g18,g19,g20,g21,g22,g23,g24,g25,g26] M K = K #[g0,g1,g2,g3,.int .i64 0,g5,g6,g7,g8,g9,g10,g11,g12,g13,g14,g15,g16,g17,g18,g19,g20,g21,g22,g23,g24,g25,g26] M := by kernel_rfl
theorem k31_2 : P31 [1] = .seq (P31 [1,0]) (P31 [1,1]) := by kernel_rfl
theorem k31_3 : P31 [1,0] = .region 1 (O31 [1,0]) false := by kernel_rfl
theorem r31_1 {x1 : Int} {M : Mem} {call : CallM} {K : Array Value → Mem → R} :
    opsK Try.prog (fun _ => call) (O31 [1,0]) (O31 [1,0]).toList 0 #[g0,.int .i64 x1,g2,g3,g4,g5,g6,g7,g8,g9,g10,g11,g12,g13,g14,g15,g16,g17,g18,g19,g20,g21,g22,g23,g24,g25,g26] M K = K #[g0,.int .i64 (IntKind.i64.wrap (((BitVec.ofInt (IntKind.bits .i64) x1 &&& BitVec.ofInt (IntKind.bits .i64) 255).toNat : Int))),g2,g3,g4,.int .i64 x1,.int .i64 (IntKind.i64.wrap (((BitVec.ofInt (IntKind.bits .i64) x1 &&& BitVec.ofInt (IntKind.bits .i64) 255).toNat : Int))),g7,g8,g9,g10,g11,g12,g13,g14,g15,g16,g17,g18,g19,g20,g21,g22,g23,g24,g25,g26] M := by kernel_rfl
theorem k31_4 : P31 [1,1] = .seq (P31 [1,1,0]) (P31 [1,1,1]) := by kernel_rfl
theorem k31_5 : P31 [1,1,0] = .seq (P31 [1,1,0,0]) (P31 [1,1,0,1]) := by kernel_rfl
theorem k31_6 : P31 [1,1,0,0] = .region 2 (O31 [1,1,0,0]) false := by kernel_rfl
theorem r31_2 {x1 : Int} {M : Mem} {call : CallM} {K : Array Value → Mem → R} :
    opsK Try.prog (fun _ => call) (O31 [1,1,0,0]) (O31 [1,1,0,0]).toList 0 #[g0,.int .i64 x1,g2,g3,g4,g5,g6,g7,g8,g9,g10,g11,g12,g13,g14,g15,g16,g17,g18,g19,g20,g21,g22,g23,g24,g25,g26] M K = K #[g0,.int .i64 x1,g2,g3,g4,g5,g6,.int .i64 x1,.bool (decide (x1 > 128)),g9,g10,g11,g12,g13,g14,g15,g16,g17,g18,g19,g20,g21,g22,g23,g24,g25,g26] M := by kernel_rfl
theorem c31_7 : P31 [1,1,0,1] = .cond (.tmp 8) (P31 [1,1,0,1,0]) (P31 [1,1,0,1,1]) := by kernel_rfl
theorem k31_8 : P31 [1,1,0,1,0] = .region 3 (O31 [1,1,0,1,0]) false := by kernel_rfl
theorem r31_3 {x1 : Int} {M : Mem} {call : CallM} {K : Array Value → Mem → R} :
    opsK Try.prog (fun _ => call) (O31 [1,1,0,1,0]) (O31 [1,1,0,1,0]).toList 0 #[g0,.int .i64 x1,g2,g3,g4,g5,g6,g7,g8,g9,g10,g11,g12,g13,g14,g15,g16,g17,g18,g19,g20,g21,g22,g23,g24,g25,g26] M K = K #[g0,.int .i64 (IntKind.i64.wrap (256 - x1)),g2,g3,g4,g5,g6,g7,g8,.int .i64 x1,.int .i64 (IntKind.i64.wrap (256 - x1)),g11,g12,g13,g14,g15,g16,g17,g18,g19,g20,g21,g22,g23,g24,g25,g26] M := by kernel_rfl
theorem k31_9 : P31 [1,1,1] = .seq (P31 [1,1,1,0]) (P31 [1,1,1,1]) := by kernel_rfl
theorem k31_10 : P31 [1,1,1,0] = .seq (P31 [1,1,1,0,0]) (P31 [1,1,1,0,1]) := by kernel_rfl
theorem k31_11 : P31 [1,1,1,0,0] = .region 4 (O31 [1,1,1,0,0]) false := by kernel_rfl
theorem r31_4 {x1 : Int} {M : Mem} {call : CallM} {K : Array Value → Mem → R} :
    opsK Try.prog (fun _ => call) (O31 [1,1,1,0,0]) (O31 [1,1,1,0,0]).toList 0 #[g0,.int .i64 x1,g2,g3,g4,g5,g6,g7,g8,g9,g10,g11,g12,g13,g14,g15,g16,g17,g18,g19,g20,g21,g22,g23,g24,g25,g26] M K = K #[g0,.int .i64 x1,g2,g3,g4,g5,g6,g7,g8,g9,g10,.int .i64 x1,.bool (decide (x1 > 64)),g13,g14,g15,g16,g17,g18,g19,g20,g21,g22,g23,g24,g25,g26] M := by kernel_rfl
theorem c31_12 : P31 [1,1,1,0,1] = .cond (.tmp 12) (P31 [1,1,1,0,1,0]) (P31 [1,1,1,0,1,1]) := by kernel_rfl
theorem k31_13 : P31 [1,1,1,0,1,0] = .seq (P31 [1,1,1,0,1,0,0]) (P31 [1,1,1,0,1,0,1]) := by kernel_rfl
theorem k31_14 : P31 [1,1,1,0,1,0,0] = .region 5 (O31 [1,1,1,0,1,0,0]) false := by kernel_rfl
theorem r31_5 {x0 : Option Addr} {x1 : Int} {M : Mem} {call : CallM} {K : Array Value → Mem → R} :
    opsK Try.prog (fun _ => call) (O31 [1,1,1,0,1,0,0]) (O31 [1,1,1,0,1,0,0]).toList 0 #[.pointer x0,.int .i64 x1,g2,g3,g4,g5,g6,g7,g8,g9,g10,g11,g12,g13,g14,g15,g16,g17,g18,g19,g20,g21,g22,g23,g24,g25,g26] M K = (x0).bind fun a_1 => (idxA (some a_1) 65 1 (IntKind.i64.wrap (128 - x1))).bind fun a_2 => (M.intAt .i16 a_2.block a_2.off).bind fun x_3 => K #[.pointer x0,.int .i64 x1,g2,g3,.int .i64 (IntKind.i64.wrap (0 - (IntKind.i64.wrap (x_3)))),g5,g6,g7,g8,g9,g10,g11,g12,.pointer x0,.int .i64 x1,.int .i64 (IntKind.i64.wrap (128 - x1)),.pointer (some a_1),.pointer (some a_2),.int .i16 x_3,.int .i64 (IntKind.i64.wrap (x_3)),.int .i64 (IntKind.i64.wrap (0 - (IntKind.i64.wrap (x_3)))),g21,g22,g23,g24,g25,g26] M := by kernel_rfl
theorem k31_15 : P31 [1,1,1,0,1,0,1] = .ret := by kernel_rfl
theorem e31 {M : Mem} : finish Try.prog Try.f31 #[g0,g1,g2,g3,g4,g5,g6,g7,g8,g9,g10,g11,g12,g13,g14,g15,g16,g17,g18,g19,g20,g21,g22,g23,g24,g25,g26] M = some (g4, M) := by kernel_rfl
theorem k31_17 : P31 [1,1,1,0,1,1] = .skip := by kernel_rfl
theorem k31_18 : P31 [1,1,1,1] = .seq (P31 [1,1,1,1,0]) (P31 [1,1,1,1,1]) := by kernel_rfl
theorem k31_19 : P31 [1,1,1,1,0] = .region 6 (O31 [1,1,1,1,0]) false := by kernel_rfl
theorem r31_6 {x0 : Option Addr} {x1 : Int} {M : Mem} {call : CallM} {K : Array Value → Mem → R} :
    opsK Try.prog (fun _ => call) (O31 [1,1,1,1,0]) (O31 [1,1,1,1,0]).toList 0 #[.pointer x0,.int .i64 x1,g2,g3,g4,g5,g6,g7,g8,g9,g10,g11,g12,g13,g14,g15,g16,g17,g18,g19,g20,g21,g22,g23,g24,g25,g26] M K = (x0).bind fun a_1 => (idxA (some a_1) 65 1 x1).bind fun a_2 => (M.intAt .i16 a_2.block a_2.off).bind fun x_3 => K #[.pointer x0,.int .i64 x1,g2,g3,.int .i64 (IntKind.i64.wrap (x_3)),g5,g6,g7,g8,g9,g10,g11,g12,g13,g14,g15,g16,g17,g18,g19,g20,.pointer x0,.int .i64 x1,.pointer (some a_1),.pointer (some a_2),.int .i16 x_3,.int .i64 (IntKind.i64.wrap (x_3))] M := by kernel_rfl
theorem k31_20 : P31 [1,1,1,1,1] = .ret := by kernel_rfl
theorem k31_21 : P31 [1,1,0,1,1] = .skip := by kernel_rfl
theorem w31_0 {x0 : Option Addr} {x1 : Int} {M : Mem} {Q : Value → Mem → Prop} (H :
    (((IntKind.i64.wrap (((BitVec.ofInt (IntKind.bits .i64) x1 &&& BitVec.ofInt (IntKind.bits .i64) 255).toNat : Int))) > 128 →
     (((IntKind.i64.wrap (256 - (IntKind.i64.wrap (((BitVec.ofInt (IntKind.bits .i64) x1 &&& BitVec.ofInt (IntKind.bits .i64) 255).toNat : Int))))) > 64 →
      ∃ a1', x0 = some a1' ∧
      ∃ a2', idxA (some a1') 65 1 (IntKind.i64.wrap (128 - (IntKind.i64.wrap (256 - (IntKind.i64.wrap (((BitVec.ofInt (IntKind.bits .i64) x1 &&& BitVec.ofInt (IntKind.bits .i64) 255).toNat : Int))))))) = some a2' ∧
      ∃ x3', M.intAt .i16 a2'.block a2'.off = some x3' ∧
      Q (.int .i64 (IntKind.i64.wrap (0 - (IntKind.i64.wrap (x3'))))) M) ∧
      (¬ ((IntKind.i64.wrap (256 - (IntKind.i64.wrap (((BitVec.ofInt (IntKind.bits .i64) x1 &&& BitVec.ofInt (IntKind.bits .i64) 255).toNat : Int))))) > 64) →
      ∃ a4', x0 = some a4' ∧
      ∃ a5', idxA (some a4') 65 1 (IntKind.i64.wrap (256 - (IntKind.i64.wrap (((BitVec.ofInt (IntKind.bits .i64) x1 &&& BitVec.ofInt (IntKind.bits .i64) 255).toNat : Int))))) = some a5' ∧
      ∃ x6', M.intAt .i16 a5'.block a5'.off = some x6' ∧
      Q (.int .i64 (IntKind.i64.wrap (x6'))) M))) ∧
     (¬ ((IntKind.i64.wrap (((BitVec.ofInt (IntKind.bits .i64) x1 &&& BitVec.ofInt (IntKind.bits .i64) 255).toNat : Int))) > 128) →
     (((IntKind.i64.wrap (((BitVec.ofInt (IntKind.bits .i64) x1 &&& BitVec.ofInt (IntKind.bits .i64) 255).toNat : Int))) > 64 →
      ∃ a7', x0 = some a7' ∧
      ∃ a8', idxA (some a7') 65 1 (IntKind.i64.wrap (128 - (IntKind.i64.wrap (((BitVec.ofInt (IntKind.bits .i64) x1 &&& BitVec.ofInt (IntKind.bits .i64) 255).toNat : Int))))) = some a8' ∧
      ∃ x9', M.intAt .i16 a8'.block a8'.off = some x9' ∧
      Q (.int .i64 (IntKind.i64.wrap (0 - (IntKind.i64.wrap (x9'))))) M) ∧
      (¬ ((IntKind.i64.wrap (((BitVec.ofInt (IntKind.bits .i64) x1 &&& BitVec.ofInt (IntKind.bits .i64) 255).toNat : Int))) > 64) →
      ∃ a10', x0 = some a10' ∧
      ∃ a11', idxA (some a10') 65 1 (IntKind.i64.wrap (((BitVec.ofInt (IntKind.bits .i64) x1 &&& BitVec.ofInt (IntKind.bits .i64) 255).toNat : Int))) = some a11' ∧
      ∃ x12', M.intAt .i16 a11'.block a11'.off = some x12' ∧
      Q (.int .i64 (IntKind.i64.wrap (x12'))) M))))) :
    Cn Try.prog 31 #[.pointer x0, .int .i64 x1] M Q := by
  refine Cn.of b31 d31 t31 ?_
  refine Rn.seq k31_0 (Rn.region k31_1 (fun call K => r31_0) (Rch.leaf (Rn.seq k31_2 (Rn.region k31_3 (fun call K => r31_1) (Rch.leaf (Rn.seq k31_4 (Rn.seq k31_5 (Rn.region k31_6 (fun call K => r31_2) (Rch.leaf ?_)))))))))
  refine Rn.cnd (v := decide ((IntKind.i64.wrap (((BitVec.ofInt (IntKind.bits .i64) x1 &&& BitVec.ofInt (IntKind.bits .i64) 255).toNat : Int))) > 128)) ⟨c31_7, rfl, by kernel_rfl⟩ (fun h => ?_) (fun h => ?_)
  · replace H := H.1 (of_decide_eq_true h)
    refine Rn.region k31_8 (fun call K => r31_3) (Rch.leaf (Rn.seq k31_9 (Rn.seq k31_10 (Rn.region k31_11 (fun call K => r31_4) (Rch.leaf ?_)))))
    refine Rn.cnd (v := decide ((IntKind.i64.wrap (256 - (IntKind.i64.wrap (((BitVec.ofInt (IntKind.bits .i64) x1 &&& BitVec.ofInt (IntKind.bits .i64) 255).toNat : Int))))) > 64)) ⟨c31_12, rfl, by kernel_rfl⟩ (fun h => ?_) (fun h => ?_)
    · replace H := H.1 (of_decide_eq_true h)
      refine Rn.seq k31_13 (Rn.region k31_14 (fun call K => r31_5) (Rch.ex H fun a1' H => Rch.ex H fun a2' H => Rch.ex H fun x3' H => Rch.leaf ?_))
      exact Rn.ret k31_15 e31 H
    · replace H := H.2 (of_decide_eq_false h)
      refine Rn.skip k31_17 (Rn.seq k31_18 (Rn.region k31_19 (fun call K => r31_6) (Rch.ex H fun a4' H => Rch.ex H fun a5' H => Rch.ex H fun x6' H => Rch.leaf ?_)))
      exact Rn.ret k31_20 e31 H
  · replace H := H.2 (of_decide_eq_false h)
    refine Rn.skip k31_21 (Rn.seq k31_9 (Rn.seq k31_10 (Rn.region k31_11 (fun call K => r31_4) (Rch.leaf ?_))))
    refine Rn.cnd (v := decide ((IntKind.i64.wrap (((BitVec.ofInt (IntKind.bits .i64) x1 &&& BitVec.ofInt (IntKind.bits .i64) 255).toNat : Int))) > 64)) ⟨c31_12, rfl, by kernel_rfl⟩ (fun h => ?_) (fun h => ?_)
    · replace H := H.1 (of_decide_eq_true h)
      refine Rn.seq k31_13 (Rn.region k31_14 (fun call K => r31_5) (Rch.ex H fun a7' H => Rch.ex H fun a8' H => Rch.ex H fun x9' H => Rch.leaf ?_))
      exact Rn.ret k31_15 e31 H
    · replace H := H.2 (of_decide_eq_false h)
      refine Rn.skip k31_17 (Rn.seq k31_18 (Rn.region k31_19 (fun call K => r31_6) (Rch.ex H fun a10' H => Rch.ex H fun a11' H => Rch.ex H fun x12' H => Rch.leaf ?_)))
      exact Rn.ret k31_20 e31 H


/-! ### slices.IndexFunc[[]int,int]: function 44 -/
noncomputable abbrev P44 (p : List Nat) : Code := subC (codeOf Try.f44) p
noncomputable abbrev O44 (p : List Nat) : Array Oper := opsOf (subC (codeOf Try.f44) p)
theorem b44 : Try.prog.funcs[44]? = some Try.f44 ∧ (Orc.tab Try.prog).lookup 44 = none := ⟨by kernel_rfl, by kernel_rfl⟩
theorem d44 : Try.f44.body = some (P44 []) := by kernel_rfl
theorem t44 {Ax0 : Option Addr} {lx0 cx0 : Nat} {x1 : Value} : #[.slice Ax0 lx0 cx0,x1] ++ Array.replicate (Try.f44.ntmps - (#[.slice Ax0 lx0 cx0,x1] : Array Value).size) undef = #[.slice Ax0 lx0 cx0,x1,undef,undef,undef,undef,undef,undef,undef,undef,undef,undef,undef,undef,undef,undef,undef,undef,undef] := by kernel_rfl
theorem k44_0 : P44 [] = .seq (P44 [0]) (P44 [1]) := by kernel_rfl
theorem k44_1 : P44 [0] = .region 0 (O44 [0]) false := by kernel_rfl
theorem r44_0 {M : Mem} {call : CallM} {K : Array Value → Mem → R} :
    opsK Try.prog (fun _ => call) (O44 [0]) (O44 [0]).toList 0 #[g0,g1,g2,g3,g4,g5,g6,g7,g8,g9,g10,g11,g12,g13,g14,g15,g16,g17,g18] M K = K #[g0,g1,g2,g3,.int .i64 0,g5,g6,g7,g8,g9,g10,g11,g12,g13,g14,g15,g16,g17,g18] M := by kernel_rfl
theorem k44_2 : P44 [1] = .seq (P44 [1,0]) (P44 [1,1]) := by kernel_rfl
theorem k44_3 : P44 [1,0] = .seq (P44 [1,0,0]) (P44 [1,0,1]) := by kernel_rfl
theorem k44_4 : P44 [1,0,0] = .region 1 (O44 [1,0,0]) false := by kernel_rfl
theorem r44_1 {Ax0 : Option Addr} {lx0 cx0 : Nat} {M : Mem} {call : CallM} {K : Array Value → Mem → R} :
    opsK Try.prog (fun _ => call) (O44 [1,0,0]) (O44 [1,0,0]).toList 0 #[.slice Ax0 lx0 cx0,g1,g2,g3,g4,g5,g6,g7,g8,g9,g10,g11,g12,g13,g14,g15,g16,g17,g18] M K = K #[.slice Ax0 lx0 cx0,g1,g2,g3,g4,g5,.slice Ax0 lx0 cx0,.int .i64 ((lx0 : Int)),.int .i64 0,g9,g10,g11,g12,g13,g14,g15,g16,g17,g18] M := by kernel_rfl
theorem k44_5 : P44 [1,0,1] = .block 0 (P44 [1,0,1,0]) := by kernel_rfl
theorem k44_6 : P44 [1,0,1,0] = .loop (P44 [1,0,1,0,0]) := by kernel_rfl
theorem k44_7 : P44 [1,0,1,0,0] = .seq (P44 [1,0,1,0,0,0]) (P44 [1,0,1,0,0,1]) := by kernel_rfl
theorem k44_8 : P44 [1,0,1,0,0,0] = .region 2 (O44 [1,0,1,0,0,0]) false := by kernel_rfl
theorem r44_2 {x7 x8 : Int} {M : Mem} {call : CallM} {K : Array Value → Mem → R} :
    opsK Try.prog (fun _ => call) (O44 [1,0,1,0,0,0]) (O44 [1,0,1,0,0,0]).toList 0 #[g0,g1,g2,g3,g4,g5,g6,.int .i64 x7,.int .i64 x8,g9,g10,g11,g12,g13,g14,g15,g16,g17,g18] M K = K #[g0,g1,g2,g3,g4,g5,g6,.int .i64 x7,.int .i64 x8,.bool (decide (x8 < x7)),g10,g11,g12,g13,g14,g15,g16,g17,g18] M := by kernel_rfl
theorem k44_9 : P44 [1,0,1,0,0,1] = .seq (P44 [1,0,1,0,0,1,0]) (P44 [1,0,1,0,0,1,1]) := by kernel_rfl
theorem c44_10 : P44 [1,0,1,0,0,1,0] = .cond (.tmp 9) (P44 [1,0,1,0,0,1,0,0]) (P44 [1,0,1,0,0,1,0,1]) := by kernel_rfl
theorem k44_11 : P44 [1,0,1,0,0,1,0,0] = .skip := by kernel_rfl
theorem k44_12 : P44 [1,0,1,0,0,1,1] = .seq (P44 [1,0,1,0,0,1,1,0]) (P44 [1,0,1,0,0,1,1,1]) := by kernel_rfl
theorem k44_13 : P44 [1,0,1,0,0,1,1,0] = .block 1 (P44 [1,0,1,0,0,1,1,0,0]) := by kernel_rfl
theorem k44_14 : P44 [1,0,1,0,0,1,1,0,0] = .seq (P44 [1,0,1,0,0,1,1,0,0,0]) (P44 [1,0,1,0,0,1,1,0,0,1]) := by kernel_rfl
theorem k44_15 : P44 [1,0,1,0,0,1,1,0,0,0] = .region 3 (O44 [1,0,1,0,0,1,1,0,0,0]) false := by kernel_rfl
theorem r44_3 {x8 : Int} {M : Mem} {call : CallM} {K : Array Value → Mem → R} :
    opsK Try.prog (fun _ => call) (O44 [1,0,1,0,0,1,1,0,0,0]) (O44 [1,0,1,0,0,1,1,0,0,0]).toList 0 #[g0,g1,g2,g3,g4,g5,g6,g7,.int .i64 x8,g9,g10,g11,g12,g13,g14,g15,g16,g17,g18] M K = K #[g0,g1,g2,g3,g4,.int .i64 x8,g6,g7,.int .i64 x8,g9,.int .i64 x8,g11,g12,g13,g14,g15,g16,g17,g18] M := by kernel_rfl
theorem k44_16 : P44 [1,0,1,0,0,1,1,0,0,1] = .seq (P44 [1,0,1,0,0,1,1,0,0,1,0]) (P44 [1,0,1,0,0,1,1,0,0,1,1]) := by kernel_rfl
theorem k44_17 : P44 [1,0,1,0,0,1,1,0,0,1,0] = .region 4 (O44 [1,0,1,0,0,1,1,0,0,1,0]) false := by kernel_rfl
theorem r44_4 {Ax0 : Option Addr} {lx0 cx0 : Nat} {x1 : Value} {x5 : Int} {M : Mem} {call : CallM} {K : Array Value → Mem → R} :
    opsK Try.prog (fun _ => call) (O44 [1,0,1,0,0,1,1,0,0,1,0]) (O44 [1,0,1,0,0,1,1,0,0,1,0]).toList 0 #[.slice Ax0 lx0 cx0,x1,g2,g3,g4,.int .i64 x5,g6,g7,g8,g9,g10,g11,g12,g13,g14,g15,g16,g17,g18] M K = (idxA Ax0 lx0 1 x5).bind fun a_1 => (M.intAt .i64 a_1.block a_1.off).bind fun x_2 => (callVal Try.prog x1 #[.int .i64 x_2]).bind fun q_4 => (call q_4.1 q_4.2 M).bind fun r_3 => (asB r_3.1).bind fun b_5 => K #[.slice Ax0 lx0 cx0,x1,g2,g3,g4,.int .i64 x5,g6,g7,g8,g9,g10,x1,.slice Ax0 lx0 cx0,.int .i64 x5,.pointer (some a_1),.int .i64 x_2,.bool b_5,g17,g18] r_3.2 := by kernel_rfl
theorem c44_18 : P44 [1,0,1,0,0,1,1,0,0,1,1] = .cond (.tmp 16) (P44 [1,0,1,0,0,1,1,0,0,1,1,0]) (P44 [1,0,1,0,0,1,1,0,0,1,1,1]) := by kernel_rfl
theorem k44_19 : P44 [1,0,1,0,0,1,1,0,0,1,1,0] = .seq (P44 [1,0,1,0,0,1,1,0,0,1,1,0,0]) (P44 [1,0,1,0,0,1,1,0,0,1,1,0,1]) := by kernel_rfl
theorem k44_20 : P44 [1,0,1,0,0,1,1,0,0,1,1,0,0] = .region 5 (O44 [1,0,1,0,0,1,1,0,0,1,1,0,0]) false := by kernel_rfl
theorem r44_5 {x5 : Int} {M : Mem} {call : CallM} {K : Array Value → Mem → R} :
    opsK Try.prog (fun _ => call) (O44 [1,0,1,0,0,1,1,0,0,1,1,0,0]) (O44 [1,0,1,0,0,1,1,0,0,1,1,0,0]).toList 0 #[g0,g1,g2,g3,g4,.int .i64 x5,g6,g7,g8,g9,g10,g11,g12,g13,g14,g15,g16,g17,g18] M K = K #[g0,g1,g2,g3,.int .i64 x5,.int .i64 x5,g6,g7,g8,g9,g10,g11,g12,g13,g14,g15,g16,.int .i64 x5,g18] M := by kernel_rfl
theorem k44_21 : P44 [1,0,1,0,0,1,1,0,0,1,1,0,1] = .ret := by kernel_rfl
theorem e44 {M : Mem} : finish Try.prog Try.f44 #[g0,g1,g2,g3,g4,g5,g6,g7,g8,g9,g10,g11,g12,g13,g14,g15,g16,g17,g18] M = some (g4, M) := by kernel_rfl
theorem k44_23 : P44 [1,0,1,0,0,1,1,0,0,1,1,1] = .skip := by kernel_rfl
theorem k44_24 : P44 [1,0,1,0,0,1,1,1] = .region 6 (O44 [1,0,1,0,0,1,1,1]) false := by kernel_rfl
theorem r44_6 {x8 : Int} {M : Mem} {call : CallM} {K : Array Value → Mem → R} :
    opsK Try.prog (fun _ => call) (O44 [1,0,1,0,0,1,1,1]) (O44 [1,0,1,0,0,1,1,1]).toList 0 #[g0,g1,g2,g3,g4,g5,g6,g7,.int .i64 x8,g9,g10,g11,g12,g13,g14,g15,g16,g17,g18] M K = K #[g0,g1,g2,g3,g4,g5,g6,g7,.int .i64 (IntKind.i64.wrap (x8 + 1)),g9,g10,g11,g12,g13,g14,g15,g16,g17,.int .i64 (IntKind.i64.wrap (x8 + 1))] M := by kernel_rfl
theorem k44_25 : P44 [1,0,1,0,0,1,0,1] = .exit 0 := by kernel_rfl
theorem k44_26 : P44 [1,1] = .seq (P44 [1,1,0]) (P44 [1,1,1]) := by kernel_rfl
theorem k44_27 : P44 [1,1,0] = .region 7 (O44 [1,1,0]) false := by kernel_rfl
theorem r44_7 {M : Mem} {call : CallM} {K : Array Value → Mem → R} :
    opsK Try.prog (fun _ => call) (O44 [1,1,0]) (O44 [1,1,0]).toList 0 #[g0,g1,g2,g3,g4,g5,g6,g7,g8,g9,g10,g11,g12,g13,g14,g15,g16,g17,g18] M K = K #[g0,g1,g2,g3,.int .i64 (-1),g5,g6,g7,g8,g9,g10,g11,g12,g13,g14,g15,g16,g17,g18] M := by kernel_rfl
theorem k44_28 : P44 [1,1,1] = .ret := by kernel_rfl
noncomputable def S44_1 : List Item := [.code (P44 [1,0,1,0,0]), .inLoop (P44 [1,0,1,0,0]), .inBlock 0, .code (P44 [1,1])]
def A44_1 (Ax0 : Option Addr) (lx0 cx0 : Nat) (x1 : Value) (x7 x8 : Int) (M : Mem) (Q : Value → Mem → Prop) : Prop := ∀ (g2 g3 g4 g5 g6 g9 g10 g11 g12 g13 g14 g15 g16 g17 g18 : Value), Rn Try.prog Try.f44 S44_1 #[.slice Ax0 lx0 cx0, x1, g2, g3, g4, g5, g6, .int .i64 x7, .int .i64 x8, g9, g10, g11, g12, g13, g14, g15, g16, g17, g18] M Q
theorem w44_0 {Ax0 : Option Addr} {lx0 cx0 : Nat} {x1 : Value} {M : Mem} {Q : Value → Mem → Prop} (H :
    A44_1 Ax0 lx0 cx0 x1 (lx0 : Int) 0 M Q) :
    Cn Try.prog 44 #[.slice Ax0 lx0 cx0, x1] M Q := by
  refine Cn.of b44 d44 t44 ?_
  refine Rn.seq k44_0 (Rn.region k44_1 (fun call K => r44_0) (Rch.leaf (Rn.seq k44_2 (Rn.seq k44_3 (Rn.region k44_4 (fun call K => r44_1) (Rch.leaf (Rn.block k44_5 (Rn.loop k44_6 ?_))))))))
  exact H _ _ _ _ _ _ _ _ _ _ _ _ _ _ _

theorem w44_1 {Ax0 : Option Addr} {lx0 cx0 : Nat} {x1 : Value} {x7 x8 : Int} {M : Mem} {Q : Value → Mem → Prop} (H :
    ((x8 < x7 →
     ∃ a1', idxA Ax0 lx0 1 x8 = some a1' ∧
     ∃ x2', M.intAt .i64 a1'.block a1'.off = some x2' ∧
     ∃ q3', callVal Try.prog x1 #[.int .i64 x2'] = some q3' ∧
     Cn Try.prog q3'.1 q3'.2 M fun v4' N4' =>
      ∃ b5', asB v4' = some b5' ∧
      ((b5' = true →
       Q (.int .i64 x8) N4') ∧
       (b5' = false →
       A44_1 Ax0 lx0 cx0 x1 x7 (IntKind.i64.wrap (x8 + 1)) N4' Q))) ∧
     (¬ (x8 < x7) →
     Q (.int .i64 (-1)) M))) :
    A44_1 Ax0 lx0 cx0 x1 x7 x8 M Q := by
  intro g2 g3 g4 g5 g6 g9 g10 g11 g12 g13 g14 g15 g16 g17 g18
  refine Rn.seq k44_7 (Rn.region k44_8 (fun call K => r44_2) (Rch.leaf (Rn.seq k44_9 ?_)))
  refine Rn.cnd (v := decide (x8 < x7)) ⟨c44_10, rfl, by kernel_rfl⟩ (fun h => ?_) (fun h => ?_)
  · replace H := H.1 (of_decide_eq_true h)
    refine Rn.skip k44_11 (Rn.seq k44_12 (Rn.block k44_13 (Rn.seq k44_14 (Rn.region k44_15 (fun call K => r44_3) (Rch.leaf (Rn.seq k44_16 (Rn.region k44_17 (fun call K => r44_4) (Rch.ex H fun a1' H => Rch.ex H fun x2' H => Rch.ex H fun q3' H => Rch.call H fun v4' N4' H => ?_))))))))
    refine Rch.ex H fun b5' H => Rch.leaf ?_
    refine Rn.cnd (v := b5') ⟨c44_18, rfl, by kernel_rfl⟩ (fun h => ?_) (fun h => ?_)
    · replace H := H.1 (h)
      refine Rn.seq k44_19 (Rn.region k44_20 (fun call K => r44_5) (Rch.leaf ?_))
      exact Rn.ret k44_21 e44 H
    · replace H := H.2 (h)
      refine Rn.skip k44_23 (Rn.blk (Rn.region k44_24 (fun call K => r44_6) (Rch.leaf (Rn.lp ?_))))
      exact H _ _ _ _ _ _ _ _ _ _ _ _ _ _ _
  · replace H := H.2 (of_decide_eq_false h)
    refine Rn.exit k44_25 rfl (Rn.seq k44_26 (Rn.region k44_27 (fun call K => r44_7) (Rch.leaf ?_)))
    exact Rn.ret k44_28 e44 H


/-! ### slices.ContainsFunc[[]int,int]: function 38 -/
noncomputable abbrev P38 (p : List Nat) : Code := subC (codeOf Try.f38) p
noncomputable abbrev O38 (p : List Nat) : Array Oper := opsOf (subC (codeOf Try.f38) p)
theorem b38 : Try.prog.funcs[38]? = some Try.f38 ∧ (Orc.tab Try.prog).lookup 38 = none := ⟨by kernel_rfl, by kernel_rfl⟩
theorem d38 : Try.f38.body = some (P38 []) := by kernel_rfl
theorem t38 {Ax0 : Option Addr} {lx0 cx0 : Nat} {x1 : Value} : #[.slice Ax0 lx0 cx0,x1] ++ Array.replicate (Try.f38.ntmps - (#[.slice Ax0 lx0 cx0,x1] : Array Value).size) undef = #[.slice Ax0 lx0 cx0,x1,undef,undef,undef,undef,undef,undef,undef] := by kernel_rfl
theorem k38_0 : P38 [] = .seq (P38 [0]) (P38 [1]) := by kernel_rfl
theorem k38_1 : P38 [0] = .region 0 (O38 [0]) false := by kernel_rfl
theorem r38_0 {M : Mem} {call : CallM} {K : Array Value → Mem → R} :
    opsK Try.prog (fun _ => call) (O38 [0]) (O38 [0]).toList 0 #[g0,g1,g2,g3,g4,g5,g6,g7,g8] M K = K #[g0,g1,g2,g3,.bool false,g5,g6,g7,g8] M := by kernel_rfl
theorem k38_2 : P38 [1] = .seq (P38 [1,0]) (P38 [1,1]) := by kernel_rfl
theorem k38_3 : P38 [1,0] = .region 1 (O38 [1,0]) false := by kernel_rfl
theorem r38_1 {Ax0 : Option Addr} {lx0 cx0 : Nat} {x1 : Value} {M : Mem} {call : CallM} {K : Array Value → Mem → R} :
    opsK Try.prog (fun _ => call) (O38 [1,0]) (O38 [1,0]).toList 0 #[.slice Ax0 lx0 cx0,x1,g2,g3,g4,g5,g6,g7,g8] M K = (call 44 #[.slice Ax0 lx0 cx0, x1] M).bind fun r_1 => (asI .i64 r_1.1).bind fun x_2 => K #[.slice Ax0 lx0 cx0,x1,g2,g3,.bool (decide (x_2 ≥ 0)),.slice Ax0 lx0 cx0,x1,.int .i64 x_2,.bool (decide (x_2 ≥ 0))] r_1.2 := by kernel_rfl
theorem k38_4 : P38 [1,1] = .ret := by kernel_rfl
theorem e38 {M : Mem} : finish Try.prog Try.f38 #[g0,g1,g2,g3,g4,g5,g6,g7,g8] M = some (g4, M) := by kernel_rfl
theorem w38_0 {Ax0 : Option Addr} {lx0 cx0 : Nat} {x1 : Value} {M : Mem} {Q : Value → Mem → Prop} (H :
    Cn Try.prog 44 #[.slice Ax0 lx0 cx0, x1] M fun v1' N1' =>
     ∃ x2', asI .i64 v1' = some x2' ∧
     Q (.bool (decide (x2' ≥ 0))) N1') :
    Cn Try.prog 38 #[.slice Ax0 lx0 cx0, x1] M Q := by
  refine Cn.of b38 d38 t38 ?_
  refine Rn.seq k38_0 (Rn.region k38_1 (fun call K => r38_0) (Rch.leaf (Rn.seq k38_2 (Rn.region k38_3 (fun call K => r38_1) (Rch.call H fun v1' N1' H => Rch.ex H fun x2' H => Rch.leaf ?_)))))
  exact Rn.ret k38_4 e38 H


/-! ### zoetrope/basis.asked$1: function 37 -/
noncomputable abbrev P37 (p : List Nat) : Code := subC (codeOf Try.f37) p
noncomputable abbrev O37 (p : List Nat) : Array Oper := opsOf (subC (codeOf Try.f37) p)
theorem b37 : Try.prog.funcs[37]? = some Try.f37 ∧ (Orc.tab Try.prog).lookup 37 = none := ⟨by kernel_rfl, by kernel_rfl⟩
theorem d37 : Try.f37.body = some (P37 []) := by kernel_rfl
theorem t37 {x0 : Int} : #[.int .i64 x0] ++ Array.replicate (Try.f37.ntmps - (#[.int .i64 x0] : Array Value).size) undef = #[.int .i64 x0,undef,undef,undef,undef,undef,undef,undef,undef] := by kernel_rfl
theorem k37_0 : P37 [] = .seq (P37 [0]) (P37 [1]) := by kernel_rfl
theorem k37_1 : P37 [0] = .region 0 (O37 [0]) false := by kernel_rfl
theorem r37_0 {M : Mem} {call : CallM} {K : Array Value → Mem → R} :
    opsK Try.prog (fun _ => call) (O37 [0]) (O37 [0]).toList 0 #[g0,g1,g2,g3,g4,g5,g6,g7,g8] M K = K #[g0,g1,.bool false,g3,g4,g5,g6,g7,g8] M := by kernel_rfl
theorem k37_2 : P37 [1] = .seq (P37 [1,0]) (P37 [1,1]) := by kernel_rfl
theorem k37_3 : P37 [1,0] = .region 1 (O37 [1,0]) false := by kernel_rfl
theorem r37_1 {x0 : Int} {M : Mem} {call : CallM} {K : Array Value → Mem → R} :
    opsK Try.prog (fun _ => call) (O37 [1,0]) (O37 [1,0]).toList 0 #[.int .i64 x0,g1,g2,g3,g4,g5,g6,g7,g8] M K = withK (fun w2 w5 w6 w7 w8 M => K #[.int .i64 x0,g1,w2,.int .i64 x0,.bool (decide (x0 < (-1048576))),w5,w6,w7,w8] M) fun k => cond (decide (x0 < (-1048576))) (k (.bool true) (.bool true) undef undef (.bool true) M) (k (.bool (decide (x0 > 1048576))) (.bool false) (.int .i64 x0) (.bool (decide (x0 > 1048576))) (.bool (decide (x0 > 1048576))) M) := by kernel_rfl
theorem k37_4 : P37 [1,1] = .ret := by kernel_rfl
theorem e37 {M : Mem} : finish Try.prog Try.f37 #[g0,g1,g2,g3,g4,g5,g6,g7,g8] M = some (g2, M) := by kernel_rfl
theorem w37_0 {x0 : Int} {M : Mem} {Q : Value → Mem → Prop} (H :
    ((x0 < (-1048576) →
     Q (.bool true) M) ∧
     (¬ (x0 < (-1048576)) →
     Q (.bool (decide (x0 > 1048576))) M))) :
    Cn Try.prog 37 #[.int .i64 x0] M Q := by
  refine Cn.of b37 d37 t37 ?_
  refine Rn.seq k37_0 (Rn.region k37_1 (fun call K => r37_0) (Rch.leaf (Rn.seq k37_2 (Rn.region k37_3 (fun call K => r37_1) ?_))))
  refine Rch.cB (fun h => ?_) (fun h => ?_)
  · replace H := H.1 (of_decide_eq_true h)
    refine Rch.leaf ?_
    exact Rn.ret k37_4 e37 H
  · replace H := H.2 (of_decide_eq_false h)
    refine Rch.leaf ?_
    exact Rn.ret k37_4 e37 H


/-! ### zoetrope/basis.asked: function 26 -/
noncomputable abbrev P26 (p : List Nat) : Code := subC (codeOf Try.f26) p
noncomputable abbrev O26 (p : List Nat) : Array Oper := opsOf (subC (codeOf Try.f26) p)
theorem b26 : Try.prog.funcs[26]? = some Try.f26 ∧ (Orc.tab Try.prog).lookup 26 = none := ⟨by kernel_rfl, by kernel_rfl⟩
theorem d26 : Try.f26.body = some (P26 []) := by kernel_rfl
theorem t26 {x0 : Int} {Ax1 : Option Addr} {lx1 cx1 : Nat} : #[.int .i64 x0,.slice Ax1 lx1 cx1] ++ Array.replicate (Try.f26.ntmps - (#[.int .i64 x0,.slice Ax1 lx1 cx1] : Array Value).size) undef = #[.int .i64 x0,.slice Ax1 lx1 cx1,undef,undef,undef,undef,undef,undef,undef,undef,undef,undef,undef,undef,undef,undef,undef,undef,undef,undef,undef,undef,undef,undef,undef,undef,undef,undef,undef,undef,undef,undef,undef,undef,undef,undef] := by kernel_rfl
theorem k26_0 : P26 [] = .seq (P26 [0]) (P26 [1]) := by kernel_rfl
theorem k26_1 : P26 [0] = .region 0 (O26 [0]) false := by kernel_rfl
theorem r26_0 {M : Mem} {call : CallM} {K : Array Value → Mem → R} :
    opsK Try.prog (fun _ => call) (O26 [0]) (O26 [0]).toList 0 #[g0,g1,g2,g3,g4,g5,g6,g7,g8,g9,g10,g11,g12,g13,g14,g15,g16,g17,g18,g19,g20,g21,g22,g23,g24,g25,g26,g27,g28,g29,g30,g31,g32,g33,g34,g35] M K = K #[g0,g1,g2,g3,.pointer (some ⟨2 * M.nb.size, 0, none⟩),.bool false,g6,g7,g8,g9,g10,g11,g12,g13,g14,g15,g16,g17,g18,g19,g20,g21,g22,g23,g24,g25,g26,g27,g28,g29,g30,g31,g32,g33,g34,g35] (M.new (.cells #[.int .i64 0, .nilFunc] 39)) := by kernel_rfl
theorem k26_2 : P26 [1] = .seq (P26 [1,0]) (P26 [1,1]) := by kernel_rfl
theorem k26_3 : P26 [1,0] = .region 1 (O26 [1,0]) false := by kernel_rfl
theorem r26_1 {Ax1 : Option Addr} {lx1 cx1 : Nat} {M : Mem} {call : CallM} {K : Array Value → Mem → R} :
    opsK Try.prog (fun _ => call) (O26 [1,0]) (O26 [1,0]).toList 0 #[g0,.slice Ax1 lx1 cx1,g2,g3,g4,g5,g6,g7,g8,g9,g10,g11,g12,g13,g14,g15,g16,g17,g18,g19,g20,g21,g22,g23,g24,g25,g26,g27,g28,g29,g30,g31,g32,g33,g34,g35] M K = K #[g0,.slice Ax1 lx1 cx1,g2,g3,g4,g5,.int .i64 ((lx1 : Int)),g7,g8,.slice Ax1 lx1 cx1,.int .i64 ((lx1 : Int)),g11,g12,g13,g14,g15,g16,g17,g18,g19,g20,g21,g22,g23,g24,g25,g26,g27,g28,g29,g30,g31,g32,g33,g34,g35] M := by kernel_rfl
theorem k26_4 : P26 [1,1] = .seq (P26 [1,1,0]) (P26 [1,1,1]) := by kernel_rfl
theorem k26_5 : P26 [1,1,0] = .region 2 (O26 [1,1,0]) false := by kernel_rfl
theorem r26_2 {x0 x6 : Int} {M : Mem} {call : CallM} {K : Array Value → Mem → R} :
    opsK Try.prog (fun _ => call) (O26 [1,1,0]) (O26 [1,1,0]).toList 0 #[.int .i64 x0,g1,g2,g3,g4,g5,.int .i64 x6,g7,g8,g9,g10,g11,g12,g13,g14,g15,g16,g17,g18,g19,g20,g21,g22,g23,g24,g25,g26,g27,g28,g29,g30,g31,g32,g33,g34,g35] M K = (call 36 #[.int .i64 x0, .int .i64 (if 1 > x6 then 1 else x6)] M).bind fun r_1 => (asA 2 r_1.1).bind fun cs_2 => (asI .i64 (cs_2.getD 0 undef)).bind fun x_3 => ((r_1.2.new (.cells #[.int .i64 0, .nilFunc] 39)).put (2 * r_1.2.nb.size) 0 (.int .i64 x_3)).bind fun M_4 => (M_4.put (2 * r_1.2.nb.size) 1 (cs_2.getD 1 undef)).bind fun M_5 => K #[.int .i64 x0,g1,g2,g3,g4,g5,.int .i64 x6,.pointer (some ⟨2 * r_1.2.nb.size, 0, none⟩),g8,g9,g10,.int .i64 x0,.int .i64 x6,.int .i64 (if 1 > x6 then 1 else x6),.agg #[.int .i64 x_3, cs_2.getD 1 undef],g15,g16,g17,g18,g19,g20,g21,g22,g23,g24,g25,g26,g27,g28,g29,g30,g31,g32,g33,g34,g35] M_5 := by kernel_rfl
theorem k26_6 : P26 [1,1,1] = .seq (P26 [1,1,1,0]) (P26 [1,1,1,1]) := by kernel_rfl
theorem k26_7 : P26 [1,1,1,0] = .seq (P26 [1,1,1,0,0]) (P26 [1,1,1,0,1]) := by kernel_rfl
theorem k26_8 : P26 [1,1,1,0,0] = .region 3 (O26 [1,1,1,0,0]) false := by kernel_rfl
theorem r26_3 {x6 : Int} {x7 : Option Addr} {M : Mem} {call : CallM} {K : Array Value → Mem → R} :
    opsK Try.prog (fun _ => call) (O26 [1,1,1,0,0]) (O26 [1,1,1,0,0]).toList 0 #[g0,g1,g2,g3,g4,g5,.int .i64 x6,.pointer x7,g8,g9,g10,g11,g12,g13,g14,g15,g16,g17,g18,g19,g20,g21,g22,g23,g24,g25,g26,g27,g28,g29,g30,g31,g32,g33,g34,g35] M K = withK (fun w17 w18 w19 w20 w21 w22 w23 w24 w25 w26 w27 w28 w29 M => K #[g0,g1,g2,g3,g4,g5,.int .i64 x6,.pointer x7,g8,g9,g10,g11,g12,g13,g14,.int .i64 x6,.bool (decide (x6 < 4)),w17,w18,w19,w20,w21,w22,w23,w24,w25,w26,w27,w28,w29,g30,g31,g32,g33,g34,g35] M) fun k => cond (decide (x6 < 4)) (k (.bool true) undef undef undef undef (.bool true) (.bool true) undef undef undef undef undef (.bool true) M) ((x7).bind fun a_1 => (M.intAt .i64 a_1.block a_1.off).bind fun x_2 => cond (decide (x6 > x_2)) (k (.bool false) (.int .i64 x6) (.pointer (some ⟨a_1.block, a_1.off, none⟩)) (.int .i64 x_2) (.bool (decide (x6 > x_2))) (.bool (decide (x6 > x_2))) (.bool true) undef undef undef undef undef (.bool true) M) (k (.bool false) (.int .i64 x6) (.pointer (some ⟨a_1.block, a_1.off, none⟩)) (.int .i64 x_2) (.bool (decide (x6 > x_2))) (.bool (decide (x6 > x_2))) (.bool false) (.int .i64 x6) (.int .i64 x6) (.int .i64 (IntKind.i64.wrap (x6 - 1))) (.int .i64 (IntKind.i64.wrap (((BitVec.ofInt (IntKind.bits .i64) x6 &&& BitVec.ofInt (IntKind.bits .i64) (IntKind.i64.wrap (x6 - 1))).toNat : Int)))) (.bool ((IntKind.i64.wrap (((BitVec.ofInt (IntKind.bits .i64) x6 &&& BitVec.ofInt (IntKind.bits .i64) (IntKind.i64.wrap (x6 - 1))).toNat : Int))) != 0)) (.bool ((IntKind.i64.wrap (((BitVec.ofInt (IntKind.bits .i64) x6 &&& BitVec.ofInt (IntKind.bits .i64) (IntKind.i64.wrap (x6 - 1))).toNat : Int))) != 0)) M)) := by kernel_rfl
theorem c26_9 : P26 [1,1,1,0,1] = .cond (.tmp 29) (P26 [1,1,1,0,1,0]) (P26 [1,1,1,0,1,1]) := by kernel_rfl
theorem k26_10 : P26 [1,1,1,0,1,0] = .seq (P26 [1,1,1,0,1,0,0]) (P26 [1,1,1,0,1,0,1]) := by kernel_rfl
theorem k26_11 : P26 [1,1,1,0,1,0,0] = .region 4 (O26 [1,1,1,0,1,0,0]) false := by kernel_rfl
theorem r26_4 {x4 x7 : Option Addr} {M : Mem} {call : CallM} {K : Array Value → Mem → R} :
    opsK Try.prog (fun _ => call) (O26 [1,1,1,0,1,0,0]) (O26 [1,1,1,0,1,0,0]).toList 0 #[g0,g1,g2,g3,.pointer x4,g5,g6,.pointer x7,g8,g9,g10,g11,g12,g13,g14,g15,g16,g17,g18,g19,g20,g21,g22,g23,g24,g25,g26,g27,g28,g29,g30,g31,g32,g33,g34,g35] M K = (x7).bind fun a_1 => (M.intAt .i64 a_1.block a_1.off).bind fun x_2 => (M.cell a_1.block (a_1.off + 1)).bind fun v_3 => (x4).bind fun a_4 => (M.put a_4.block a_4.off (.int .i64 x_2)).bind fun M_5 => (M_5.put a_4.block (a_4.off + 1) v_3).bind fun M_6 => K #[g0,g1,g2,g3,.pointer x4,.bool false,g6,.pointer x7,g8,g9,g10,g11,g12,g13,g14,g15,g16,g17,g18,g19,g20,g21,g22,g23,g24,g25,g26,g27,g28,g29,.agg #[.int .i64 x_2, v_3],g31,g32,g33,g34,g35] M_6 := by kernel_rfl
theorem k26_12 : P26 [1,1,1,0,1,0,1] = .ret := by kernel_rfl
theorem e26_0 {x4 : Option Addr} {x5 : Bool} {M : Mem} {K : List Value → R} : resK Try.prog #[g0,g1,g2,g3,.pointer x4,.bool x5,g6,g7,g8,g9,g10,g11,g12,g13,g14,g15,g16,g17,g18,g19,g20,g21,g22,g23,g24,g25,g26,g27,g28,g29,g30,g31,g32,g33,g34,g35] M (Try.f26).results.toList K = (x4).bind fun a_1 => (M.intAt .i64 a_1.block a_1.off).bind fun x_2 => (M.cell a_1.block (a_1.off + 1)).bind fun v_3 => K [.agg #[.int .i64 x_2, v_3], .bool x5] := by kernel_rfl
theorem k26_14 : P26 [1,1,1,0,1,1] = .skip := by kernel_rfl
theorem k26_15 : P26 [1,1,1,1] = .seq (P26 [1,1,1,1,0]) (P26 [1,1,1,1,1]) := by kernel_rfl
theorem k26_16 : P26 [1,1,1,1,0] = .region 5 (O26 [1,1,1,1,0]) false := by kernel_rfl
theorem r26_5 {M : Mem} {call : CallM} {K : Array Value → Mem → R} :
    opsK Try.prog (fun _ => call) (O26 [1,1,1,1,0]) (O26 [1,1,1,1,0]).toList 0 #[g0,g1,g2,g3,g4,g5,g6,g7,g8,g9,g10,g11,g12,g13,g14,g15,g16,g17,g18,g19,g20,g21,g22,g23,g24,g25,g26,g27,g28,g29,g30,g31,g32,g33,g34,g35] M K = K #[g0,g1,g2,g3,g4,g5,g6,g7,.func (.func 37) #[] #[],g9,g10,g11,g12,g13,g14,g15,g16,g17,g18,g19,g20,g21,g22,g23,g24,g25,g26,g27,g28,g29,g30,g31,g32,g33,g34,g35] M := by kernel_rfl
theorem k26_17 : P26 [1,1,1,1,1] = .seq (P26 [1,1,1,1,1,0]) (P26 [1,1,1,1,1,1]) := by kernel_rfl
theorem k26_18 : P26 [1,1,1,1,1,0] = .region 6 (O26 [1,1,1,1,1,0]) true ∧ drawOk (O26 [1,1,1,1,1,0]) = true := ⟨by kernel_rfl, by kernel_rfl⟩
theorem r26_6 {Ax1 : Option Addr} {lx1 cx1 : Nat} {x4 x7 : Option Addr} {M : Mem} {call : CallM} {K : Array Value → Mem → R} :
    opsI Try.prog (callAt call (O26 [1,1,1,1,1,0])) (O26 [1,1,1,1,1,0]) (ordOf (O26 [1,1,1,1,1,0])) [] #[g0,.slice Ax1 lx1 cx1,g2,g3,.pointer x4,g5,g6,.pointer x7,.func (.func 37) #[] #[],g9,g10,g11,g12,g13,g14,g15,g16,g17,g18,g19,g20,g21,g22,g23,g24,g25,g26,g27,g28,g29,g30,g31,g32,g33,g34,g35] M K = (x7).bind fun a_1 => (M.intAt .i64 a_1.block a_1.off).bind fun x_2 => (M.cell a_1.block (a_1.off + 1)).bind fun v_3 => (floored call 38 #[.slice Ax1 lx1 cx1, .func (.func 37) #[] #[]] M).bind fun r_4 => (asB r_4.1).bind fun b_5 => (x4).bind fun a_6 => (r_4.2.put a_6.block a_6.off (.int .i64 x_2)).bind fun M_7 => (M_7.put a_6.block (a_6.off + 1) v_3).bind fun M_8 => K #[g0,.slice Ax1 lx1 cx1,g2,g3,.pointer x4,.bool (!b_5),g6,.pointer x7,.func (.func 37) #[] #[],g9,g10,g11,g12,g13,g14,g15,g16,g17,g18,g19,g20,g21,g22,g23,g24,g25,g26,g27,g28,g29,g30,.agg #[.int .i64 x_2, v_3],.slice Ax1 lx1 cx1,.func (.func 37) #[] #[],.bool b_5,.bool (!b_5)] M_8 := by kernel_rfl
theorem k26_19 : P26 [1,1,1,1,1,1] = .ret := by kernel_rfl
noncomputable def S26_1 : List Item := [.code (P26 [1,1,1,0,1]), .code (P26 [1,1,1,1])]
def A26_1 (Ax1 : Option Addr) (lx1 cx1 : Nat) (x4 x7 : Option Addr) (x29 : Bool) (M : Mem) (Q : Value → Mem → Prop) : Prop := ∀ (g0 g2 g3 g5 g6 g8 g9 g10 g11 g12 g13 g14 g15 g16 g17 g18 g19 g20 g21 g22 g23 g24 g25 g26 g27 g28 g30 g31 g32 g33 g34 g35 : Value), Rn Try.prog Try.f26 S26_1 #[g0, .slice Ax1 lx1 cx1, g2, g3, .pointer x4, g5, g6, .pointer x7, g8, g9, g10, g11, g12, g13, g14, g15, g16, g17, g18, g19, g20, g21, g22, g23, g24, g25, g26, g27, g28, .bool x29, g30, g31, g32, g33, g34, g35] M Q
theorem w26_0 {x0 : Int} {Ax1 : Option Addr} {lx1 cx1 : Nat} {M : Mem} {Q : Value → Mem → Prop} (H :
    Cn Try.prog 36 #[.int .i64 x0, .int .i64 (if 1 > (lx1 : Int) then 1 else (lx1 : Int))] (M.new (.cells #[.int .i64 0, .nilFunc] 39)) fun v1' N1' =>
     ∃ cs2', asA 2 v1' = some cs2' ∧
     ∃ x3', asI .i64 (cs2'.getD 0 undef) = some x3' ∧
     ∃ M4', (N1'.new (.cells #[.int .i64 0, .nilFunc] 39)).put (2 * N1'.nb.size) 0 (.int .i64 x3') = some M4' ∧
     ∃ M5', M4'.put (2 * N1'.nb.size) 1 (cs2'.getD 1 undef) = some M5' ∧
     (((lx1 : Int) < 4 →
      A26_1 Ax1 lx1 cx1 (some ⟨2 * M.nb.size, 0, none⟩) (some ⟨2 * N1'.nb.size, 0, none⟩) true M5' Q) ∧
      (¬ ((lx1 : Int) < 4) →
      ∃ x6', M5'.intAt .i64 (2 * N1'.nb.size) 0 = some x6' ∧
      (((lx1 : Int) > x6' →
       A26_1 Ax1 lx1 cx1 (some ⟨2 * M.nb.size, 0, none⟩) (some ⟨2 * N1'.nb.size, 0, none⟩) true M5' Q) ∧
       (¬ ((lx1 : Int) > x6') →
       A26_1 Ax1 lx1 cx1 (some ⟨2 * M.nb.size, 0, none⟩) (some ⟨2 * N1'.nb.size, 0, none⟩) ((IntKind.i64.wrap (((BitVec.ofInt (IntKind.bits .i64) (lx1 : Int) &&& BitVec.ofInt (IntKind.bits .i64) (IntKind.i64.wrap ((lx1 : Int) - 1))).toNat : Int))) != 0) M5' Q))))) :
    Cn Try.prog 26 #[.int .i64 x0, .slice Ax1 lx1 cx1] M Q := by
  refine Cn.of b26 d26 t26 ?_
  refine Rn.seq k26_0 (Rn.region k26_1 (fun call K => r26_0) (Rch.leaf (Rn.seq k26_2 (Rn.region k26_3 (fun call K => r26_1) (Rch.leaf (Rn.seq k26_4 (Rn.region k26_5 (fun call K => r26_2) (Rch.call H fun v1' N1' H => Rch.ex H fun cs2' H => Rch.ex H fun x3' H => Rch.ex H fun M4' H => ?_))))))))
  refine Rch.ex H fun M5' H => Rch.leaf (Rn.seq k26_6 (Rn.seq k26_7 (Rn.region k26_8 (fun call K => r26_3) ?_)))
  refine Rch.cB (fun h => ?_) (fun h => ?_)
  · replace H := H.1 (of_decide_eq_true h)
    refine Rch.leaf ?_
    exact H _ _ _ _ _ _ _ _ _ _ _ _ _ _ _ _ _ _ _ _ _ _ _ _ _ _ _ _ _ _ _ _
  · replace H := H.2 (of_decide_eq_false h)
    refine Rch.bind (x := ⟨2 * N1'.nb.size, 0, none⟩) rfl (Rch.ex H fun x6' H => ?_)
    refine Rch.cB (fun h => ?_) (fun h => ?_)
    · replace H := H.1 (of_decide_eq_true h)
      refine Rch.leaf ?_
      exact H _ _ _ _ _ _ _ _ _ _ _ _ _ _ _ _ _ _ _ _ _ _ _ _ _ _ _ _ _ _ _ _
    · replace H := H.2 (of_decide_eq_false h)
      refine Rch.leaf ?_
      exact H _ _ _ _ _ _ _ _ _ _ _ _ _ _ _ _ _ _ _ _ _ _ _ _ _ _ _ _ _ _ _ _

theorem w26_1 {Ax1 : Option Addr} {lx1 cx1 : Nat} {x4 x7 : Option Addr} {x29 : Bool} {M : Mem} {Q : Value → Mem → Prop} (H :
    ((x29 = true →
     ∃ a7', x7 = some a7' ∧
     ∃ x8', M.intAt .i64 a7'.block a7'.off = some x8' ∧
     ∃ v9', M.cell a7'.block (a7'.off + 1) = some v9' ∧
     ∃ a10', x4 = some a10' ∧
     ∃ M11', M.put a10'.block a10'.off (.int .i64 x8') = some M11' ∧
     ∃ M12', M11'.put a10'.block (a10'.off + 1) v9' = some M12' ∧
     ∃ a13', x4 = some a13' ∧
     ∃ x14', M12'.intAt .i64 a13'.block a13'.off = some x14' ∧
     ∃ v15', M12'.cell a13'.block (a13'.off + 1) = some v15' ∧
     Q (.tuple #[.agg #[.int .i64 (x14'), v15'], .bool false]) M12') ∧
     (x29 = false →
     ∃ a16', x7 = some a16' ∧
     ∃ x17', M.intAt .i64 a16'.block a16'.off = some x17' ∧
     ∃ v18', M.cell a16'.block (a16'.off + 1) = some v18' ∧
     Cn Try.prog 38 #[.slice Ax1 lx1 cx1, .func (.func 37) #[] #[]] { M with floor := M.nb.size } fun v19' N19' =>
      ∃ b20', asB v19' = some b20' ∧
      ∃ a21', x4 = some a21' ∧
      ∃ M22', { N19' with floor := M.floor }.put a21'.block a21'.off (.int .i64 x17') = some M22' ∧
      ∃ M23', M22'.put a21'.block (a21'.off + 1) v18' = some M23' ∧
      ∃ a24', x4 = some a24' ∧
      ∃ x25', M23'.intAt .i64 a24'.block a24'.off = some x25' ∧
      ∃ v26', M23'.cell a24'.block (a24'.off + 1) = some v26' ∧
      Q (.tuple #[.agg #[.int .i64 (x25'), v26'], .bool (!b20')]) M23'))) :
    A26_1 Ax1 lx1 cx1 x4 x7 x29 M Q := by
  intro g0 g2 g3 g5 g6 g8 g9 g10 g11 g12 g13 g14 g15 g16 g17 g18 g19 g20 g21 g22 g23 g24 g25 g26 g27 g28 g30 g31 g32 g33 g34 g35
  refine Rn.cnd (v := x29) ⟨c26_9, rfl, by kernel_rfl⟩ (fun h => ?_) (fun h => ?_)
  · replace H := H.1 (h)
    refine Rn.seq k26_10 (Rn.region k26_11 (fun call K => r26_4) (Rch.ex H fun a7' H => Rch.ex H fun x8' H => Rch.ex H fun v9' H => Rch.ex H fun a10' H => Rch.ex H fun M11' H => Rch.ex H fun M12' H => Rch.leaf (Rn.retK k26_12 (fun K => e26_0) (Rch.ex H fun a13' H => Rch.ex H fun x14' H => ?_))))
    refine Rch.ex H fun v15' H => ?_
    exact Rch.fin H
  · replace H := H.2 (h)
    refine Rn.skip k26_14 (Rn.seq k26_15 (Rn.region k26_16 (fun call K => r26_5) (Rch.leaf (Rn.seq k26_17 (Rn.regionD k26_18 (fun call K => r26_6) (Rch.ex H fun a16' H => Rch.ex H fun x17' H => Rch.ex H fun v18' H => Rch.callF H fun v19' N19' H => Rch.ex H fun b20' H => Rch.ex H fun a21' H => ?_))))))
    refine Rch.ex H fun M22' H => Rch.ex H fun M23' H => Rch.leaf (Rn.retK k26_19 (fun K => e26_0) (Rch.ex H fun a24' H => Rch.ex H fun x25' H => Rch.ex H fun v26' H => ?_))
    exact Rch.fin H


/-! ### zoetrope/basis.round: function 28 -/
noncomputable abbrev P28 (p : List Nat) : Code := subC (codeOf Try.f28) p
noncomputable abbrev O28 (p : List Nat) : Array Oper := opsOf (subC (codeOf Try.f28) p)
theorem b28 : Try.prog.funcs[28]? = some Try.f28 ∧ (Orc.tab Try.prog).lookup 28 = none := ⟨by kernel_rfl, by kernel_rfl⟩
theorem d28 : Try.f28.body = some (P28 []) := by kernel_rfl
theorem t28 {x0 : Int} : #[.int .i64 x0] ++ Array.replicate (Try.f28.ntmps - (#[.int .i64 x0] : Array Value).size) undef = #[.int .i64 x0,undef,undef,undef,undef,undef] := by kernel_rfl
theorem k28_0 : P28 [] = .seq (P28 [0]) (P28 [1]) := by kernel_rfl
theorem k28_1 : P28 [0] = .region 0 (O28 [0]) false := by kernel_rfl
theorem r28_0 {M : Mem} {call : CallM} {K : Array Value → Mem → R} :
    opsK Try.prog (fun _ => call) (O28 [0]) (O28 [0]).toList 0 #[g0,g1,g2,g3,g4,g5] M K = K #[g0,g1,.int .i64 0,g3,g4,g5] M := by kernel_rfl
theorem k28_2 : P28 [1] = .seq (P28 [1,0]) (P28 [1,1]) := by kernel_rfl
theorem k28_3 : P28 [1,0] = .region 1 (O28 [1,0]) false := by kernel_rfl
theorem r28_1 {x0 : Int} {M : Mem} {call : CallM} {K : Array Value → Mem → R} :
    opsK Try.prog (fun _ => call) (O28 [1,0]) (O28 [1,0]).toList 0 #[.int .i64 x0,g1,g2,g3,g4,g5] M K = K #[.int .i64 x0,g1,.int .i64 ((IntKind.i64.wrap (x0 + 2048)).fdiv (2 ^ 12)),.int .i64 x0,.int .i64 (IntKind.i64.wrap (x0 + 2048)),.int .i64 ((IntKind.i64.wrap (x0 + 2048)).fdiv (2 ^ 12))] M := by kernel_rfl
theorem k28_4 : P28 [1,1] = .ret := by kernel_rfl
theorem e28 {M : Mem} : finish Try.prog Try.f28 #[g0,g1,g2,g3,g4,g5] M = some (g2, M) := by kernel_rfl
theorem w28_0 {x0 : Int} {M : Mem} {Q : Value → Mem → Prop} (H :
    Q (.int .i64 ((IntKind.i64.wrap (x0 + 2048)).fdiv (2 ^ 12))) M) :
    Cn Try.prog 28 #[.int .i64 x0] M Q := by
  refine Cn.of b28 d28 t28 ?_
  refine Rn.seq k28_0 (Rn.region k28_1 (fun call K => r28_0) (Rch.leaf (Rn.seq k28_2 (Rn.region k28_3 (fun call K => r28_1) (Rch.leaf ?_)))))
  exact Rn.ret k28_4 e28 H


/-! ### zoetrope/basis.back: function 29 -/
noncomputable abbrev P29 (p : List Nat) : Code := subC (codeOf Try.f29) p
noncomputable abbrev O29 (p : List Nat) : Array Oper := opsOf (subC (codeOf Try.f29) p)
theorem b29 : Try.prog.funcs[29]? = some Try.f29 ∧ (Orc.tab Try.prog).lookup 29 = none := ⟨by kernel_rfl, by kernel_rfl⟩
theorem d29 : Try.f29.body = some (P29 []) := by kernel_rfl
theorem t29 {x0 x1 x2 x3 : Int} : #[.int .i64 x0,.int .i64 x1,.int .i64 x2,.int .i64 x3] ++ Array.replicate (Try.f29.ntmps - (#[.int .i64 x0,.int .i64 x1,.int .i64 x2,.int .i64 x3] : Array Value).size) undef = #[.int .i64 x0,.int .i64 x1,.int .i64 x2,.int .i64 x3,undef,undef,undef,undef,undef,undef,undef,undef,undef,undef,undef,undef,undef,undef,undef,undef,undef,undef,undef,undef,undef,undef,undef,undef,undef,undef,undef,undef,undef,undef,undef] := by kernel_rfl
theorem k29_0 : P29 [] = .seq (P29 [0]) (P29 [1]) := by kernel_rfl
theorem k29_1 : P29 [0] = .region 0 (O29 [0]) false := by kernel_rfl
theorem r29_0 {M : Mem} {call : CallM} {K : Array Value → Mem → R} :
    opsK Try.prog (fun _ => call) (O29 [0]) (O29 [0]).toList 0 #[g0,g1,g2,g3,g4,g5,g6,g7,g8,g9,g10,g11,g12,g13,g14,g15,g16,g17,g18,g19,g20,g21,g22,g23,g24,g25,g26,g27,g28,g29,g30,g31,g32,g33,g34] M K = K #[g0,g1,g2,g3,g4,g5,g6,g7,.slice none 0 0,g9,g10,g11,g12,g13,g14,g15,g16,g17,g18,g19,g20,g21,g22,g23,g24,g25,g26,g27,g28,g29,g30,g31,g32,g33,g34] M := by kernel_rfl
theorem k29_2 : P29 [1] = .seq (P29 [1,0]) (P29 [1,1]) := by kernel_rfl
theorem k29_3 : P29 [1,0] = .region 1 (O29 [1,0]) false := by kernel_rfl
theorem r29_1 {x0 x1 : Int} {M : Mem} {call : CallM} {K : Array Value → Mem → R} :
    opsK Try.prog (fun _ => call) (O29 [1,0]) (O29 [1,0]).toList 0 #[.int .i64 x0,.int .i64 x1,g2,g3,g4,g5,g6,g7,g8,g9,g10,g11,g12,g13,g14,g15,g16,g17,g18,g19,g20,g21,g22,g23,g24,g25,g26,g27,g28,g29,g30,g31,g32,g33,g34] M K = K #[.int .i64 (IntKind.i64.wrap (x0 + x1)),.int .i64 x1,g2,g3,g4,g5,g6,g7,g8,g9,.int .i64 x0,.int .i64 x1,.int .i64 (IntKind.i64.wrap (x0 + x1)),g13,g14,g15,g16,g17,g18,g19,g20,g21,g22,g23,g24,g25,g26,g27,g28,g29,g30,g31,g32,g33,g34] M := by kernel_rfl
theorem k29_4 : P29 [1,1] = .seq (P29 [1,1,0]) (P29 [1,1,1]) := by kernel_rfl
theorem k29_5 : P29 [1,1,0] = .region 2 (O29 [1,1,0]) false := by kernel_rfl
theorem r29_2 {x2 x3 : Int} {M : Mem} {call : CallM} {K : Array Value → Mem → R} :
    opsK Try.prog (fun _ => call) (O29 [1,1,0]) (O29 [1,1,0]).toList 0 #[g0,g1,.int .i64 x2,.int .i64 x3,g4,g5,g6,g7,g8,g9,g10,g11,g12,g13,g14,g15,g16,g17,g18,g19,g20,g21,g22,g23,g24,g25,g26,g27,g28,g29,g30,g31,g32,g33,g34] M K = K #[g0,g1,.int .i64 (IntKind.i64.wrap (x2 - x3)),.int .i64 x3,g4,g5,g6,g7,g8,g9,g10,g11,g12,.int .i64 x2,.int .i64 x3,.int .i64 (IntKind.i64.wrap (x2 - x3)),g16,g17,g18,g19,g20,g21,g22,g23,g24,g25,g26,g27,g28,g29,g30,g31,g32,g33,g34] M := by kernel_rfl
theorem k29_6 : P29 [1,1,1] = .seq (P29 [1,1,1,0]) (P29 [1,1,1,1]) := by kernel_rfl
theorem k29_7 : P29 [1,1,1,0] = .region 3 (O29 [1,1,1,0]) false := by kernel_rfl
theorem r29_3 {x0 x2 : Int} {M : Mem} {call : CallM} {K : Array Value → Mem → R} :
    opsK Try.prog (fun _ => call) (O29 [1,1,1,0]) (O29 [1,1,1,0]).toList 0 #[.int .i64 x0,g1,.int .i64 x2,g3,g4,g5,g6,g7,g8,g9,g10,g11,g12,g13,g14,g15,g16,g17,g18,g19,g20,g21,g22,g23,g24,g25,g26,g27,g28,g29,g30,g31,g32,g33,g34] M K = K #[.int .i64 x0,g1,.int .i64 x2,g3,g4,g5,g6,g7,g8,.int .i64 ((IntKind.i64.wrap (x0 - x2)).fdiv (2 ^ 1)),g10,g11,g12,g13,g14,g15,.int .i64 x0,.int .i64 x2,.int .i64 (IntKind.i64.wrap (x0 - x2)),.int .i64 ((IntKind.i64.wrap (x0 - x2)).fdiv (2 ^ 1)),g20,g21,g22,g23,g24,g25,g26,g27,g28,g29,g30,g31,g32,g33,g34] M := by kernel_rfl
theorem k29_8 : P29 [1,1,1,1] = .seq (P29 [1,1,1,1,0]) (P29 [1,1,1,1,1]) := by kernel_rfl
theorem k29_9 : P29 [1,1,1,1,0] = .region 4 (O29 [1,1,1,1,0]) false := by kernel_rfl
theorem r29_4 {x1 x3 x9 : Int} {M : Mem} {call : CallM} {K : Array Value → Mem → R} :
    opsK Try.prog (fun _ => call) (O29 [1,1,1,1,0]) (O29 [1,1,1,1,0]).toList 0 #[g0,.int .i64 x1,g2,.int .i64 x3,g4,g5,g6,g7,g8,.int .i64 x9,g10,g11,g12,g13,g14,g15,g16,g17,g18,g19,g20,g21,g22,g23,g24,g25,g26,g27,g28,g29,g30,g31,g32,g33,g34] M K = K #[g0,.int .i64 (IntKind.i64.wrap (x9 - x1)),g2,.int .i64 (IntKind.i64.wrap (x9 - x3)),g4,g5,g6,g7,g8,.int .i64 x9,g10,g11,g12,g13,g14,g15,g16,g17,g18,g19,.int .i64 x9,.int .i64 x3,.int .i64 (IntKind.i64.wrap (x9 - x3)),.int .i64 x9,.int .i64 x1,.int .i64 (IntKind.i64.wrap (x9 - x1)),g26,g27,g28,g29,g30,g31,g32,g33,g34] M := by kernel_rfl
theorem k29_10 : P29 [1,1,1,1,1] = .seq (P29 [1,1,1,1,1,0]) (P29 [1,1,1,1,1,1]) := by kernel_rfl
theorem k29_11 : P29 [1,1,1,1,1,0] = .region 5 (O29 [1,1,1,1,1,0]) false := by kernel_rfl
theorem r29_5 {x0 x1 x2 x3 : Int} {M : Mem} {call : CallM} {K : Array Value → Mem → R} :
    opsK Try.prog (fun _ => call) (O29 [1,1,1,1,1,0]) (O29 [1,1,1,1,1,0]).toList 0 #[.int .i64 x0,.int .i64 x1,.int .i64 x2,.int .i64 x3,g4,g5,g6,g7,g8,g9,g10,g11,g12,g13,g14,g15,g16,g17,g18,g19,g20,g21,g22,g23,g24,g25,g26,g27,g28,g29,g30,g31,g32,g33,g34] M K = K #[.int .i64 x0,.int .i64 x1,.int .i64 x2,.int .i64 x3,g4,g5,g6,g7,.slice (some ⟨2 * M.nb.size, 0, none⟩) 4 4,g9,g10,g11,g12,g13,g14,g15,g16,g17,g18,g19,g20,g21,g22,g23,g24,g25,.int .i64 x0,.int .i64 x3,.int .i64 (IntKind.i64.wrap (x0 - x3)),.int .i64 x3,.int .i64 x1,.int .i64 x2,.int .i64 x1,.int .i64 (IntKind.i64.wrap (x2 + x1)),.slice (some ⟨2 * M.nb.size, 0, none⟩) 4 4] (M.new (.cells #[.int .i64 (IntKind.i64.wrap (x0 - x3)), .int .i64 x3, .int .i64 x1, .int .i64 (IntKind.i64.wrap (x2 + x1))] 3)) := by kernel_rfl
theorem k29_12 : P29 [1,1,1,1,1,1] = .ret := by kernel_rfl
theorem e29 {M : Mem} : finish Try.prog Try.f29 #[g0,g1,g2,g3,g4,g5,g6,g7,g8,g9,g10,g11,g12,g13,g14,g15,g16,g17,g18,g19,g20,g21,g22,g23,g24,g25,g26,g27,g28,g29,g30,g31,g32,g33,g34] M = some (g8, M) := by kernel_rfl
theorem w29_0 {x0 x1 x2 x3 : Int} {M : Mem} {Q : Value → Mem → Prop} (H :
    Q (.slice (some ⟨2 * M.nb.size, 0, none⟩) 4 4) (M.new (.cells #[.int .i64 (IntKind.i64.wrap ((IntKind.i64.wrap (x0 + x1)) - (IntKind.i64.wrap (((IntKind.i64.wrap ((IntKind.i64.wrap (x0 + x1)) - (IntKind.i64.wrap (x2 - x3)))).fdiv (2 ^ 1)) - x3)))), .int .i64 (IntKind.i64.wrap (((IntKind.i64.wrap ((IntKind.i64.wrap (x0 + x1)) - (IntKind.i64.wrap (x2 - x3)))).fdiv (2 ^ 1)) - x3)), .int .i64 (IntKind.i64.wrap (((IntKind.i64.wrap ((IntKind.i64.wrap (x0 + x1)) - (IntKind.i64.wrap (x2 - x3)))).fdiv (2 ^ 1)) - x1)), .int .i64 (IntKind.i64.wrap ((IntKind.i64.wrap (x2 - x3)) + (IntKind.i64.wrap (((IntKind.i64.wrap ((IntKind.i64.wrap (x0 + x1)) - (IntKind.i64.wrap (x2 - x3)))).fdiv (2 ^ 1)) - x1))))] 3))) :
    Cn Try.prog 29 #[.int .i64 x0, .int .i64 x1, .int .i64 x2, .int .i64 x3] M Q := by
  refine Cn.of b29 d29 t29 ?_
  refine Rn.seq k29_0 (Rn.region k29_1 (fun call K => r29_0) (Rch.leaf (Rn.seq k29_2 (Rn.region k29_3 (fun call K => r29_1) (Rch.leaf (Rn.seq k29_4 (Rn.region k29_5 (fun call K => r29_2) (Rch.leaf (Rn.seq k29_6 (Rn.region k29_7 (fun call K => r29_3) (Rch.leaf ?_)))))))))))
  refine Rn.seq k29_8 (Rn.region k29_9 (fun call K => r29_4) (Rch.leaf (Rn.seq k29_10 (Rn.region k29_11 (fun call K => r29_5) (Rch.leaf ?_)))))
  exact Rn.ret k29_12 e29 H


/-! ### zoetrope/basis.forth: function 27 -/
noncomputable abbrev P27 (p : List Nat) : Code := subC (codeOf Try.f27) p
noncomputable abbrev O27 (p : List Nat) : Array Oper := opsOf (subC (codeOf Try.f27) p)
theorem b27 : Try.prog.funcs[27]? = some Try.f27 ∧ (Orc.tab Try.prog).lookup 27 = none := ⟨by kernel_rfl, by kernel_rfl⟩
theorem d27 : Try.f27.body = some (P27 []) := by kernel_rfl
theorem t27 {x0 x1 x2 x3 : Int} : #[.int .i64 x0,.int .i64 x1,.int .i64 x2,.int .i64 x3] ++ Array.replicate (Try.f27.ntmps - (#[.int .i64 x0,.int .i64 x1,.int .i64 x2,.int .i64 x3] : Array Value).size) undef = #[.int .i64 x0,.int .i64 x1,.int .i64 x2,.int .i64 x3,undef,undef,undef,undef,undef,undef,undef,undef,undef,undef,undef,undef,undef,undef,undef,undef,undef,undef,undef,undef,undef,undef,undef,undef,undef,undef,undef,undef,undef,undef,undef] := by kernel_rfl
theorem k27_0 : P27 [] = .seq (P27 [0]) (P27 [1]) := by kernel_rfl
theorem k27_1 : P27 [0] = .region 0 (O27 [0]) false := by kernel_rfl
theorem r27_0 {M : Mem} {call : CallM} {K : Array Value → Mem → R} :
    opsK Try.prog (fun _ => call) (O27 [0]) (O27 [0]).toList 0 #[g0,g1,g2,g3,g4,g5,g6,g7,g8,g9,g10,g11,g12,g13,g14,g15,g16,g17,g18,g19,g20,g21,g22,g23,g24,g25,g26,g27,g28,g29,g30,g31,g32,g33,g34] M K = K #[g0,g1,g2,g3,g4,g5,g6,g7,.slice none 0 0,g9,g10,g11,g12,g13,g14,g15,g16,g17,g18,g19,g20,g21,g22,g23,g24,g25,g26,g27,g28,g29,g30,g31,g32,g33,g34] M := by kernel_rfl
theorem k27_2 : P27 [1] = .seq (P27 [1,0]) (P27 [1,1]) := by kernel_rfl
theorem k27_3 : P27 [1,0] = .region 1 (O27 [1,0]) false := by kernel_rfl
theorem r27_1 {x0 x1 : Int} {M : Mem} {call : CallM} {K : Array Value → Mem → R} :
    opsK Try.prog (fun _ => call) (O27 [1,0]) (O27 [1,0]).toList 0 #[.int .i64 x0,.int .i64 x1,g2,g3,g4,g5,g6,g7,g8,g9,g10,g11,g12,g13,g14,g15,g16,g17,g18,g19,g20,g21,g22,g23,g24,g25,g26,g27,g28,g29,g30,g31,g32,g33,g34] M K = K #[.int .i64 (IntKind.i64.wrap (x0 + x1)),.int .i64 x1,g2,g3,g4,g5,g6,g7,g8,g9,.int .i64 x0,.int .i64 x1,.int .i64 (IntKind.i64.wrap (x0 + x1)),g13,g14,g15,g16,g17,g18,g19,g20,g21,g22,g23,g24,g25,g26,g27,g28,g29,g30,g31,g32,g33,g34] M := by kernel_rfl
theorem k27_4 : P27 [1,1] = .seq (P27 [1,1,0]) (P27 [1,1,1]) := by kernel_rfl
theorem k27_5 : P27 [1,1,0] = .region 2 (O27 [1,1,0]) false := by kernel_rfl
theorem r27_2 {x2 x3 : Int} {M : Mem} {call : CallM} {K : Array Value → Mem → R} :
    opsK Try.prog (fun _ => call) (O27 [1,1,0]) (O27 [1,1,0]).toList 0 #[g0,g1,.int .i64 x2,.int .i64 x3,g4,g5,g6,g7,g8,g9,g10,g11,g12,g13,g14,g15,g16,g17,g18,g19,g20,g21,g22,g23,g24,g25,g26,g27,g28,g29,g30,g31,g32,g33,g34] M K = K #[g0,g1,.int .i64 x2,.int .i64 (IntKind.i64.wrap (x3 - x2)),g4,g5,g6,g7,g8,g9,g10,g11,g12,.int .i64 x3,.int .i64 x2,.int .i64 (IntKind.i64.wrap (x3 - x2)),g16,g17,g18,g19,g20,g21,g22,g23,g24,g25,g26,g27,g28,g29,g30,g31,g32,g33,g34] M := by kernel_rfl
theorem k27_6 : P27 [1,1,1] = .seq (P27 [1,1,1,0]) (P27 [1,1,1,1]) := by kernel_rfl
theorem k27_7 : P27 [1,1,1,0] = .region 3 (O27 [1,1,1,0]) false := by kernel_rfl
theorem r27_3 {x0 x3 : Int} {M : Mem} {call : CallM} {K : Array Value → Mem → R} :
    opsK Try.prog (fun _ => call) (O27 [1,1,1,0]) (O27 [1,1,1,0]).toList 0 #[.int .i64 x0,g1,g2,.int .i64 x3,g4,g5,g6,g7,g8,g9,g10,g11,g12,g13,g14,g15,g16,g17,g18,g19,g20,g21,g22,g23,g24,g25,g26,g27,g28,g29,g30,g31,g32,g33,g34] M K = K #[.int .i64 x0,g1,g2,.int .i64 x3,g4,g5,g6,g7,g8,.int .i64 ((IntKind.i64.wrap (x0 - x3)).fdiv (2 ^ 1)),g10,g11,g12,g13,g14,g15,.int .i64 x0,.int .i64 x3,.int .i64 (IntKind.i64.wrap (x0 - x3)),.int .i64 ((IntKind.i64.wrap (x0 - x3)).fdiv (2 ^ 1)),g20,g21,g22,g23,g24,g25,g26,g27,g28,g29,g30,g31,g32,g33,g34] M := by kernel_rfl
theorem k27_8 : P27 [1,1,1,1] = .seq (P27 [1,1,1,1,0]) (P27 [1,1,1,1,1]) := by kernel_rfl
theorem k27_9 : P27 [1,1,1,1,0] = .region 4 (O27 [1,1,1,1,0]) false := by kernel_rfl
theorem r27_4 {x1 x2 x9 : Int} {M : Mem} {call : CallM} {K : Array Value → Mem → R} :
    opsK Try.prog (fun _ => call) (O27 [1,1,1,1,0]) (O27 [1,1,1,1,0]).toList 0 #[g0,.int .i64 x1,.int .i64 x2,g3,g4,g5,g6,g7,g8,.int .i64 x9,g10,g11,g12,g13,g14,g15,g16,g17,g18,g19,g20,g21,g22,g23,g24,g25,g26,g27,g28,g29,g30,g31,g32,g33,g34] M K = K #[g0,.int .i64 (IntKind.i64.wrap (x9 - x1)),.int .i64 (IntKind.i64.wrap (x9 - x2)),g3,g4,g5,g6,g7,g8,.int .i64 x9,g10,g11,g12,g13,g14,g15,g16,g17,g18,g19,.int .i64 x9,.int .i64 x1,.int .i64 (IntKind.i64.wrap (x9 - x1)),.int .i64 x9,.int .i64 x2,.int .i64 (IntKind.i64.wrap (x9 - x2)),g26,g27,g28,g29,g30,g31,g32,g33,g34] M := by kernel_rfl
theorem k27_10 : P27 [1,1,1,1,1] = .seq (P27 [1,1,1,1,1,0]) (P27 [1,1,1,1,1,1]) := by kernel_rfl
theorem k27_11 : P27 [1,1,1,1,1,0] = .region 5 (O27 [1,1,1,1,1,0]) false := by kernel_rfl
theorem r27_5 {x0 x1 x2 x3 : Int} {M : Mem} {call : CallM} {K : Array Value → Mem → R} :
    opsK Try.prog (fun _ => call) (O27 [1,1,1,1,1,0]) (O27 [1,1,1,1,1,0]).toList 0 #[.int .i64 x0,.int .i64 x1,.int .i64 x2,.int .i64 x3,g4,g5,g6,g7,g8,g9,g10,g11,g12,g13,g14,g15,g16,g17,g18,g19,g20,g21,g22,g23,g24,g25,g26,g27,g28,g29,g30,g31,g32,g33,g34] M K = K #[.int .i64 x0,.int .i64 x1,.int .i64 x2,.int .i64 x3,g4,g5,g6,g7,.slice (some ⟨2 * M.nb.size, 0, none⟩) 4 4,g9,g10,g11,g12,g13,g14,g15,g16,g17,g18,g19,g20,g21,g22,g23,g24,g25,.int .i64 x0,.int .i64 x2,.int .i64 (IntKind.i64.wrap (x0 - x2)),.int .i64 x2,.int .i64 x3,.int .i64 x1,.int .i64 (IntKind.i64.wrap (x3 + x1)),.int .i64 x1,.slice (some ⟨2 * M.nb.size, 0, none⟩) 4 4] (M.new (.cells #[.int .i64 (IntKind.i64.wrap (x0 - x2)), .int .i64 x2, .int .i64 (IntKind.i64.wrap (x3 + x1)), .int .i64 x1] 3)) := by kernel_rfl
theorem k27_12 : P27 [1,1,1,1,1,1] = .ret := by kernel_rfl
theorem e27 {M : Mem} : finish Try.prog Try.f27 #[g0,g1,g2,g3,g4,g5,g6,g7,g8,g9,g10,g11,g12,g13,g14,g15,g16,g17,g18,g19,g20,g21,g22,g23,g24,g25,g26,g27,g28,g29,g30,g31,g32,g33,g34] M = some (g8, M) := by kernel_rfl
theorem w27_0 {x0 x1 x2 x3 : Int} {M : Mem} {Q : Value → Mem → Prop} (H :
    Q (.slice (some ⟨2 * M.nb.size, 0, none⟩) 4 4) (M.new (.cells #[.int .i64 (IntKind.i64.wrap ((IntKind.i64.wrap (x0 + x1)) - (IntKind.i64.wrap (((IntKind.i64.wrap ((IntKind.i64.wrap (x0 + x1)) - (IntKind.i64.wrap (x3 - x2)))).fdiv (2 ^ 1)) - x2)))), .int .i64 (IntKind.i64.wrap (((IntKind.i64.wrap ((IntKind.i64.wrap (x0 + x1)) - (IntKind.i64.wrap (x3 - x2)))).fdiv (2 ^ 1)) - x2)), .int .i64 (IntKind.i64.wrap ((IntKind.i64.wrap (x3 - x2)) + (IntKind.i64.wrap (((IntKind.i64.wrap ((IntKind.i64.wrap (x0 + x1)) - (IntKind.i64.wrap (x3 - x2)))).fdiv (2 ^ 1)) - x1)))), .int .i64 (IntKind.i64.wrap (((IntKind.i64.wrap ((IntKind.i64.wrap (x0 + x1)) - (IntKind.i64.wrap (x3 - x2)))).fdiv (2 ^ 1)) - x1))] 3))) :
    Cn Try.prog 27 #[.int .i64 x0, .int .i64 x1, .int .i64 x2, .int .i64 x3] M Q := by
  refine Cn.of b27 d27 t27 ?_
  refine Rn.seq k27_0 (Rn.region k27_1 (fun call K => r27_0) (Rch.leaf (Rn.seq k27_2 (Rn.region k27_3 (fun call K => r27_1) (Rch.leaf (Rn.seq k27_4 (Rn.region k27_5 (fun call K => r27_2) (Rch.leaf (Rn.seq k27_6 (Rn.region k27_7 (fun call K => r27_3) (Rch.leaf ?_)))))))))))
  refine Rn.seq k27_8 (Rn.region k27_9 (fun call K => r27_4) (Rch.leaf (Rn.seq k27_10 (Rn.region k27_11 (fun call K => r27_5) (Rch.leaf ?_)))))
  exact Rn.ret k27_12 e27 H


/-! ### zoetrope/basis.quarter: function 30 -/
noncomputable abbrev P30 (p : List Nat) : Code := subC (codeOf Try.f30) p
noncomputable abbrev O30 (p : List Nat) : Array Oper := opsOf (subC (codeOf Try.f30) p)
theorem b30 : Try.prog.funcs[30]? = some Try.f30 ∧ (Orc.tab Try.prog).lookup 30 = none := ⟨by kernel_rfl, by kernel_rfl⟩
theorem d30 : Try.f30.body = some (P30 []) := by kernel_rfl
theorem t30 : #[] ++ Array.replicate (Try.f30.ntmps - (#[] : Array Value).size) undef = #[undef,undef] := by kernel_rfl
theorem k30_0 : P30 [] = .seq (P30 [0]) (P30 [1]) := by kernel_rfl
theorem k30_1 : P30 [0] = .region 0 (O30 [0]) false := by kernel_rfl
theorem r30_0 {M : Mem} {call : CallM} {K : Array Value → Mem → R} :
    opsK Try.prog (fun _ => call) (O30 [0]) (O30 [0]).toList 0 #[g0,g1] M K = K #[.pointer (some ⟨2 * M.nb.size, 0, none⟩),g1] (M.new (.cells #[.int .i16 0, .int .i16 0, .int .i16 0, .int .i16 0, .int .i16 0, .int .i16 0, .int .i16 0, .int .i16 0, .int .i16 0, .int .i16 0, .int .i16 0, .int .i16 0, .int .i16 0, .int .i16 0, .int .i16 0, .int .i16 0, .int .i16 0, .int .i16 0, .int .i16 0, .int .i16 0, .int .i16 0, .int .i16 0, .int .i16 0, .int .i16 0, .int .i16 0, .int .i16 0, .int .i16 0, .int .i16 0, .int .i16 0, .int .i16 0, .int .i16 0, .int .i16 0, .int .i16 0, .int .i16 0, .int .i16 0, .int .i16 0, .int .i16 0, .int .i16 0, .int .i16 0, .int .i16 0, .int .i16 0, .int .i16 0, .int .i16 0, .int .i16 0, .int .i16 0, .int .i16 0, .int .i16 0, .int .i16 0, .int .i16 0, .int .i16 0, .int .i16 0, .int .i16 0, .int .i16 0, .int .i16 0, .int .i16 0, .int .i16 0, .int .i16 0, .int .i16 0, .int .i16 0, .int .i16 0, .int .i16 0, .int .i16 0, .int .i16 0, .int .i16 0, .int .i16 0] 44)) := by kernel_rfl
theorem k30_2 : P30 [1] = .seq (P30 [1,0]) (P30 [1,1]) := by kernel_rfl
theorem k30_3 : P30 [1,0] = .region 1 (O30 [1,0]) false := by kernel_rfl
theorem r30_1 {x0 : Option Addr} {M : Mem} {call : CallM} {K : Array Value → Mem → R} :
    opsK Try.prog (fun _ => call) (O30 [1,0]) (O30 [1,0]).toList 0 #[.pointer x0,g1] M K = (x0).bind fun a_1 => (M.put a_1.block a_1.off (.int .i16 4096)).bind fun M_2 => (M_2.put a_1.block (a_1.off + 1) (.int .i16 4095)).bind fun M_3 => (M_3.put a_1.block (a_1.off + 2) (.int .i16 4091)).bind fun M_4 => (M_4.put a_1.block (a_1.off + 3) (.int .i16 4085)).bind fun M_5 => (M_5.put a_1.block (a_1.off + 4) (.int .i16 4076)).bind fun M_6 => (M_6.put a_1.block (a_1.off + 5) (.int .i16 4065)).bind fun M_7 => (M_7.put a_1.block (a_1.off + 6) (.int .i16 4052)).bind fun M_8 => (M_8.put a_1.block (a_1.off + 7) (.int .i16 4036)).bind fun M_9 => (M_9.put a_1.block (a_1.off + 8) (.int .i16 4017)).bind fun M_10 => (M_10.put a_1.block (a_1.off + 9) (.int .i16 3996)).bind fun M_11 => (M_11.put a_1.block (a_1.off + 10) (.int .i16 3973)).bind fun M_12 => (M_12.put a_1.block (a_1.off + 11) (.int .i16 3948)).bind fun M_13 => (M_13.put a_1.block (a_1.off + 12) (.int .i16 3920)).bind fun M_14 => (M_14.put a_1.block (a_1.off + 13) (.int .i16 3889)).bind fun M_15 => (M_15.put a_1.block (a_1.off + 14) (.int .i16 3857)).bind fun M_16 => (M_16.put a_1.block (a_1.off + 15) (.int .i16 3822)).bind fun M_17 => (M_17.put a_1.block (a_1.off + 16) (.int .i16 3784)).bind fun M_18 => (M_18.put a_1.block (a_1.off + 17) (.int .i16 3745)).bind fun M_19 => (M_19.put a_1.block (a_1.off + 18) (.int .i16 3703)).bind fun M_20 => (M_20.put a_1.block (a_1.off + 19) (.int .i16 3659)).bind fun M_21 => (M_21.put a_1.block (a_1.off + 20) (.int .i16 3612)).bind fun M_22 => (M_22.put a_1.block (a_1.off + 21) (.int .i16 3564)).bind fun M_23 => (M_23.put a_1.block (a_1.off + 22) (.int .i16 3513)).bind fun M_24 => (M_24.put a_1.block (a_1.off + 23) (.int .i16 3461)).bind fun M_25 => (M_25.put a_1.block (a_1.off + 24) (.int .i16 3406)).bind fun M_26 => (M_26.put a_1.block (a_1.off + 25) (.int .i16 3349)).bind fun M_27 => (M_27.put a_1.block (a_1.off + 26) (.int .i16 3290)).bind fun M_28 => (M_28.put a_1.block (a_1.off + 27) (.int .i16 3229)).bind fun M_29 => (M_29.put a_1.block (a_1.off + 28) (.int .i16 3166)).bind fun M_30 => (M_30.put a_1.block (a_1.off + 29) (.int .i16 3102)).bind fun M_31 => (M_31.put a_1.block (a_1.off + 30) (.int .i16 3035)).bind fun M_32 => (M_32.put a_1.block (a_1.off + 31) (.int .i16 2967)).bind fun M_33 => (M_33.put a_1.block (a_1.off + 32) (.int .i16 2896)).bind fun M_34 => (M_34.put a_1.block (a_1.off + 33) (.int .i16 2824)).bind fun M_35 => (M_35.put a_1.block (a_1.off + 34) (.int .i16 2751)).bind fun M_36 => (M_36.put a_1.block (a_1.off + 35) (.int .i16 2675)).bind fun M_37 => (M_37.put a_1.block (a_1.off + 36) (.int .i16 2598)).bind fun M_38 => (M_38.put a_1.block (a_1.off + 37) (.int .i16 2520)).bind fun M_39 => (M_39.put a_1.block (a_1.off + 38) (.int .i16 2440)).bind fun M_40 => (M_40.put a_1.block (a_1.off + 39) (.int .i16 2359)).bind fun M_41 => (M_41.put a_1.block (a_1.off + 40) (.int .i16 2276)).bind fun M_42 => (M_42.put a_1.block (a_1.off + 41) (.int .i16 2191)).bind fun M_43 => (M_43.put a_1.block (a_1.off + 42) (.int .i16 2106)).bind fun M_44 => (M_44.put a_1.block (a_1.off + 43) (.int .i16 2019)).bind fun M_45 => (M_45.put a_1.block (a_1.off + 44) (.int .i16 1931)).bind fun M_46 => (M_46.put a_1.block (a_1.off + 45) (.int .i16 1842)).bind fun M_47 => (M_47.put a_1.block (a_1.off + 46) (.int .i16 1751)).bind fun M_48 => (M_48.put a_1.block (a_1.off + 47) (.int .i16 1660)).bind fun M_49 => (M_49.put a_1.block (a_1.off + 48) (.int .i16 1567)).bind fun M_50 => (M_50.put a_1.block (a_1.off + 49) (.int .i16 1474)).bind fun M_51 => (M_51.put a_1.block (a_1.off + 50) (.int .i16 1380)).bind fun M_52 => (M_52.put a_1.block (a_1.off + 51) (.int .i16 1285)).bind fun M_53 => (M_53.put a_1.block (a_1.off + 52) (.int .i16 1189)).bind fun M_54 => (M_54.put a_1.block (a_1.off + 53) (.int .i16 1092)).bind fun M_55 => (M_55.put a_1.block (a_1.off + 54) (.int .i16 995)).bind fun M_56 => (M_56.put a_1.block (a_1.off + 55) (.int .i16 897)).bind fun M_57 => (M_57.put a_1.block (a_1.off + 56) (.int .i16 799)).bind fun M_58 => (M_58.put a_1.block (a_1.off + 57) (.int .i16 700)).bind fun M_59 => (M_59.put a_1.block (a_1.off + 58) (.int .i16 601)).bind fun M_60 => (M_60.put a_1.block (a_1.off + 59) (.int .i16 501)).bind fun M_61 => (M_61.put a_1.block (a_1.off + 60) (.int .i16 401)).bind fun M_62 => (M_62.put a_1.block (a_1.off + 61) (.int .i16 301)).bind fun M_63 => (M_63.put a_1.block (a_1.off + 62) (.int .i16 201)).bind fun M_64 => (M_64.put a_1.block (a_1.off + 63) (.int .i16 101)).bind fun M_65 => (M_65.put a_1.block (a_1.off + 64) (.int .i16 0)).bind fun M_66 => K #[.pointer x0,.agg #[.int .i16 4096, .int .i16 4095, .int .i16 4091, .int .i16 4085, .int .i16 4076, .int .i16 4065, .int .i16 4052, .int .i16 4036, .int .i16 4017, .int .i16 3996, .int .i16 3973, .int .i16 3948, .int .i16 3920, .int .i16 3889, .int .i16 3857, .int .i16 3822, .int .i16 3784, .int .i16 3745, .int .i16 3703, .int .i16 3659, .int .i16 3612, .int .i16 3564, .int .i16 3513, .int .i16 3461, .int .i16 3406, .int .i16 3349, .int .i16 3290, .int .i16 3229, .int .i16 3166, .int .i16 3102, .int .i16 3035, .int .i16 2967, .int .i16 2896, .int .i16 2824, .int .i16 2751, .int .i16 2675, .int .i16 2598, .int .i16 2520, .int .i16 2440, .int .i16 2359, .int .i16 2276, .int .i16 2191, .int .i16 2106, .int .i16 2019, .int .i16 1931, .int .i16 1842, .int .i16 1751, .int .i16 1660, .int .i16 1567, .int .i16 1474, .int .i16 1380, .int .i16 1285, .int .i16 1189, .int .i16 1092, .int .i16 995, .int .i16 897, .int .i16 799, .int .i16 700, .int .i16 601, .int .i16 501, .int .i16 401, .int .i16 301, .int .i16 201, .int .i16 101, .int .i16 0]] M_66 := by kernel_rfl
theorem k30_4 : P30 [1,1] = .ret := by kernel_rfl
theorem e30_0 {x0 : Option Addr} {M : Mem} {K : List Value → R} : resK Try.prog #[.pointer x0,g1] M (Try.f30).results.toList K = (x0).bind fun a_1 => (M.intAt .i16 a_1.block a_1.off).bind fun x_2 => (M.intAt .i16 a_1.block (a_1.off + 1)).bind fun x_3 => (M.intAt .i16 a_1.block (a_1.off + 2)).bind fun x_4 => (M.intAt .i16 a_1.block (a_1.off + 3)).bind fun x_5 => (M.intAt .i16 a_1.block (a_1.off + 4)).bind fun x_6 => (M.intAt .i16 a_1.block (a_1.off + 5)).bind fun x_7 => (M.intAt .i16 a_1.block (a_1.off + 6)).bind fun x_8 => (M.intAt .i16 a_1.block (a_1.off + 7)).bind fun x_9 => (M.intAt .i16 a_1.block (a_1.off + 8)).bind fun x_10 => (M.intAt .i16 a_1.block (a_1.off + 9)).bind fun x_11 => (M.intAt .i16 a_1.block (a_1.off + 10)).bind fun x_12 => (M.intAt .i16 a_1.block (a_1.off + 11)).bind fun x_13 => (M.intAt .i16 a_1.block (a_1.off + 12)).bind fun x_14 => (M.intAt .i16 a_1.block (a_1.off + 13)).bind fun x_15 => (M.intAt .i16 a_1.block (a_1.off + 14)).bind fun x_16 => (M.intAt .i16 a_1.block (a_1.off + 15)).bind fun x_17 => (M.intAt .i16 a_1.block (a_1.off + 16)).bind fun x_18 => (M.intAt .i16 a_1.block (a_1.off + 17)).bind fun x_19 => (M.intAt .i16 a_1.block (a_1.off + 18)).bind fun x_20 => (M.intAt .i16 a_1.block (a_1.off + 19)).bind fun x_21 => (M.intAt .i16 a_1.block (a_1.off + 20)).bind fun x_22 => (M.intAt .i16 a_1.block (a_1.off + 21)).bind fun x_23 => (M.intAt .i16 a_1.block (a_1.off + 22)).bind fun x_24 => (M.intAt .i16 a_1.block (a_1.off + 23)).bind fun x_25 => (M.intAt .i16 a_1.block (a_1.off + 24)).bind fun x_26 => (M.intAt .i16 a_1.block (a_1.off + 25)).bind fun x_27 => (M.intAt .i16 a_1.block (a_1.off + 26)).bind fun x_28 => (M.intAt .i16 a_1.block (a_1.off + 27)).bind fun x_29 => (M.intAt .i16 a_1.block (a_1.off + 28)).bind fun x_30 => (M.intAt .i16 a_1.block (a_1.off + 29)).bind fun x_31 => (M.intAt .i16 a_1.block (a_1.off + 30)).bind fun x_32 => (M.intAt .i16 a_1.block (a_1.off + 31)).bind fun x_33 => (M.intAt .i16 a_1.block (a_1.off + 32)).bind fun x_34 => (M.intAt .i16 a_1.block (a_1.off + 33)).bind fun x_35 => (M.intAt .i16 a_1.block (a_1.off + 34)).bind fun x_36 => (M.intAt .i16 a_1.block (a_1.off + 35)).bind fun x_37 => (M.intAt .i16 a_1.block (a_1.off + 36)).bind fun x_38 => (M.intAt .i16 a_1.block (a_1.off + 37)).bind fun x_39 => (M.intAt .i16 a_1.block (a_1.off + 38)).bind fun x_40 => (M.intAt .i16 a_1.block (a_1.off + 39)).bind fun x_41 => (M.intAt .i16 a_1.block (a_1.off + 40)).bind fun x_42 => (M.intAt .i16 a_1.block (a_1.off + 41)).bind fun x_43 => (M.intAt .i16 a_1.block (a_1.off + 42)).bind fun x_44 => (M.intAt .i16 a_1.block (a_1.off + 43)).bind fun x_45 => (M.intAt .i16 a_1.block (a_1.off + 44)).bind fun x_46 => (M.intAt .i16 a_1.block (a_1.off + 45)).bind fun x_47 => (M.intAt .i16 a_1.block (a_1.off + 46)).bind fun x_48 => (M.intAt .i16 a_1.block (a_1.off + 47)).bind fun x_49 => (M.intAt .i16 a_1.block (a_1.off + 48)).bind fun x_50 => (M.intAt .i16 a_1.block (a_1.off + 49)).bind fun x_51 => (M.intAt .i16 a_1.block (a_1.off + 50)).bind fun x_52 => (M.intAt .i16 a_1.block (a_1.off + 51)).bind fun x_53 => (M.intAt .i16 a_1.block (a_1.off + 52)).bind fun x_54 => (M.intAt .i16 a_1.block (a_1.off + 53)).bind fun x_55 => (M.intAt .i16 a_1.block (a_1.off + 54)).bind fun x_56 => (M.intAt .i16 a_1.block (a_1.off + 55)).bind fun x_57 => (M.intAt .i16 a_1.block (a_1.off + 56)).bind fun x_58 => (M.intAt .i16 a_1.block (a_1.off + 57)).bind fun x_59 => (M.intAt .i16 a_1.block (a_1.off + 58)).bind fun x_60 => (M.intAt .i16 a_1.block (a_1.off + 59)).bind fun x_61 => (M.intAt .i16 a_1.block (a_1.off + 60)).bind fun x_62 => (M.intAt .i16 a_1.block (a_1.off + 61)).bind fun x_63 => (M.intAt .i16 a_1.block (a_1.off + 62)).bind fun x_64 => (M.intAt .i16 a_1.block (a_1.off + 63)).bind fun x_65 => (M.intAt .i16 a_1.block (a_1.off + 64)).bind fun x_66 => K [.agg #[.int .i16 x_2, .int .i16 x_3, .int .i16 x_4, .int .i16 x_5, .int .i16 x_6, .int .i16 x_7, .int .i16 x_8, .int .i16 x_9, .int .i16 x_10, .int .i16 x_11, .int .i16 x_12, .int .i16 x_13, .int .i16 x_14, .int .i16 x_15, .int .i16 x_16, .int .i16 x_17, .int .i16 x_18, .int .i16 x_19, .int .i16 x_20, .int .i16 x_21, .int .i16 x_22, .int .i16 x_23, .int .i16 x_24, .int .i16 x_25, .int .i16 x_26, .int .i16 x_27, .int .i16 x_28, .int .i16 x_29, .int .i16 x_30, .int .i16 x_31, .int .i16 x_32, .int .i16 x_33, .int .i16 x_34, .int .i16 x_35, .int .i16 x_36, .int .i16 x_37, .int .i16 x_38, .int .i16 x_39, .int .i16 x_40, .int .i16 x_41, .int .i16 x_42, .int .i16 x_43, .int .i16 x_44, .int .i16 x_45, .int .i16 x_46, .int .i16 x_47, .int .i16 x_48, .int .i16 x_49, .int .i16 x_50, .int .i16 x_51, .int .i16 x_52, .int .i16 x_53, .int .i16 x_54, .int .i16 x_55, .int .i16 x_56, .int .i16 x_57, .int .i16 x_58, .int .i16 x_59, .int .i16 x_60, .int .i16 x_61, .int .i16 x_62, .int .i16 x_63, .int .i16 x_64, .int .i16 x_65, .int .i16 x_66]] := by kernel_rfl
theorem w30_0 {M : Mem} {Q : Value → Mem → Prop} (H :
    ∃ M1', (M.new (.cells #[.int .i16 0, .int .i16 0, .int .i16 0, .int .i16 0, .int .i16 0, .int .i16 0, .int .i16 0, .int .i16 0, .int .i16 0, .int .i16 0, .int .i16 0, .int .i16 0, .int .i16 0, .int .i16 0, .int .i16 0, .int .i16 0, .int .i16 0, .int .i16 0, .int .i16 0, .int .i16 0, .int .i16 0, .int .i16 0, .int .i16 0, .int .i16 0, .int .i16 0, .int .i16 0, .int .i16 0, .int .i16 0, .int .i16 0, .int .i16 0, .int .i16 0, .int .i16 0, .int .i16 0, .int .i16 0, .int .i16 0, .int .i16 0, .int .i16 0, .int .i16 0, .int .i16 0, .int .i16 0, .int .i16 0, .int .i16 0, .int .i16 0, .int .i16 0, .int .i16 0, .int .i16 0, .int .i16 0, .int .i16 0, .int .i16 0, .int .i16 0, .int .i16 0, .int .i16 0, .int .i16 0, .int .i16 0, .int .i16 0, .int .i16 0, .int .i16 0, .int .i16 0, .int .i16 0, .int .i16 0, .int .i16 0, .int .i16 0, .int .i16 0, .int .i16 0, .int .i16 0] 44)).put (2 * M.nb.size) 0 (.int .i16 4096) = some M1' ∧
    ∃ M2', M1'.put (2 * M.nb.size) (0 + 1) (.int .i16 4095) = some M2' ∧
    ∃ M3', M2'.put (2 * M.nb.size) (0 + 2) (.int .i16 4091) = some M3' ∧
    ∃ M4', M3'.put (2 * M.nb.size) (0 + 3) (.int .i16 4085) = some M4' ∧
    ∃ M5', M4'.put (2 * M.nb.size) (0 + 4) (.int .i16 4076) = some M5' ∧
    ∃ M6', M5'.put (2 * M.nb.size) (0 + 5) (.int .i16 4065) = some M6' ∧
    ∃ M7', M6'.put (2 * M.nb.size) (0 + 6) (.int .i16 4052) = some M7' ∧
    ∃ M8', M7'.put (2 * M.nb.size) (0 + 7) (.int .i16 4036) = some M8' ∧
    ∃ M9', M8'.put (2 * M.nb.size) (0 + 8) (.int .i16 4017) = some M9' ∧
    ∃ M10', M9'.put (2 * M.nb.size) (0 + 9) (.int .i16 3996) = some M10' ∧
    ∃ M11', M10'.put (2 * M.nb.size) (0 + 10) (.int .i16 3973) = some M11' ∧
    ∃ M12', M11'.put (2 * M.nb.size) (0 + 11) (.int .i16 3948) = some M12' ∧
    ∃ M13', M12'.put (2 * M.nb.size) (0 + 12) (.int .i16 3920) = some M13' ∧
    ∃ M14', M13'.put (2 * M.nb.size) (0 + 13) (.int .i16 3889) = some M14' ∧
    ∃ M15', M14'.put (2 * M.nb.size) (0 + 14) (.int .i16 3857) = some M15' ∧
    ∃ M16', M15'.put (2 * M.nb.size) (0 + 15) (.int .i16 3822) = some M16' ∧
    ∃ M17', M16'.put (2 * M.nb.size) (0 + 16) (.int .i16 3784) = some M17' ∧
    ∃ M18', M17'.put (2 * M.nb.size) (0 + 17) (.int .i16 3745) = some M18' ∧
    ∃ M19', M18'.put (2 * M.nb.size) (0 + 18) (.int .i16 3703) = some M19' ∧
    ∃ M20', M19'.put (2 * M.nb.size) (0 + 19) (.int .i16 3659) = some M20' ∧
    ∃ M21', M20'.put (2 * M.nb.size) (0 + 20) (.int .i16 3612) = some M21' ∧
    ∃ M22', M21'.put (2 * M.nb.size) (0 + 21) (.int .i16 3564) = some M22' ∧
    ∃ M23', M22'.put (2 * M.nb.size) (0 + 22) (.int .i16 3513) = some M23' ∧
    ∃ M24', M23'.put (2 * M.nb.size) (0 + 23) (.int .i16 3461) = some M24' ∧
    ∃ M25', M24'.put (2 * M.nb.size) (0 + 24) (.int .i16 3406) = some M25' ∧
    ∃ M26', M25'.put (2 * M.nb.size) (0 + 25) (.int .i16 3349) = some M26' ∧
    ∃ M27', M26'.put (2 * M.nb.size) (0 + 26) (.int .i16 3290) = some M27' ∧
    ∃ M28', M27'.put (2 * M.nb.size) (0 + 27) (.int .i16 3229) = some M28' ∧
    ∃ M29', M28'.put (2 * M.nb.size) (0 + 28) (.int .i16 3166) = some M29' ∧
    ∃ M30', M29'.put (2 * M.nb.size) (0 + 29) (.int .i16 3102) = some M30' ∧
    ∃ M31', M30'.put (2 * M.nb.size) (0 + 30) (.int .i16 3035) = some M31' ∧
    ∃ M32', M31'.put (2 * M.nb.size) (0 + 31) (.int .i16 2967) = some M32' ∧
    ∃ M33', M32'.put (2 * M.nb.size) (0 + 32) (.int .i16 2896) = some M33' ∧
    ∃ M34', M33'.put (2 * M.nb.size) (0 + 33) (.int .i16 2824) = some M34' ∧
    ∃ M35', M34'.put (2 * M.nb.size) (0 + 34) (.int .i16 2751) = some M35' ∧
    ∃ M36', M35'.put (2 * M.nb.size) (0 + 35) (.int .i16 2675) = some M36' ∧
    ∃ M37', M36'.put (2 * M.nb.size) (0 + 36) (.int .i16 2598) = some M37' ∧
    ∃ M38', M37'.put (2 * M.nb.size) (0 + 37) (.int .i16 2520) = some M38' ∧
    ∃ M39', M38'.put (2 * M.nb.size) (0 + 38) (.int .i16 2440) = some M39' ∧
    ∃ M40', M39'.put (2 * M.nb.size) (0 + 39) (.int .i16 2359) = some M40' ∧
    ∃ M41', M40'.put (2 * M.nb.size) (0 + 40) (.int .i16 2276) = some M41' ∧
    ∃ M42', M41'.put (2 * M.nb.size) (0 + 41) (.int .i16 2191) = some M42' ∧
    ∃ M43', M42'.put (2 * M.nb.size) (0 + 42) (.int .i16 2106) = some M43' ∧
    ∃ M44', M43'.put (2 * M.nb.size) (0 + 43) (.int .i16 2019) = some M44' ∧
    ∃ M45', M44'.put (2 * M.nb.size) (0 + 44) (.int .i16 1931) = some M45' ∧
    ∃ M46', M45'.put (2 * M.nb.size) (0 + 45) (.int .i16 1842) = some M46' ∧
    ∃ M47', M46'.put (2 * M.nb.size) (0 + 46) (.int .i16 1751) = some M47' ∧
    ∃ M48', M47'.put (2 * M.nb.size) (0 + 47) (.int .i16 1660) = some M48' ∧
    ∃ M49', M48'.put (2 * M.nb.size) (0 + 48) (.int .i16 1567) = some M49' ∧
    ∃ M50', M49'.put (2 * M.nb.size) (0 + 49) (.int .i16 1474) = some M50' ∧
    ∃ M51', M50'.put (2 * M.nb.size) (0 + 50) (.int .i16 1380) = some M51' ∧
    ∃ M52', M51'.put (2 * M.nb.size) (0 + 51) (.int .i16 1285) = some M52' ∧
    ∃ M53', M52'.put (2 * M.nb.size) (0 + 52) (.int .i16 1189) = some M53' ∧
    ∃ M54', M53'.put (2 * M.nb.size) (0 + 53) (.int .i16 1092) = some M54' ∧
    ∃ M55', M54'.put (2 * M.nb.size) (0 + 54) (.int .i16 995) = some M55' ∧
    ∃ M56', M55'.put (2 * M.nb.size) (0 + 55) (.int .i16 897) = some M56' ∧
    ∃ M57', M56'.put (2 * M.nb.size) (0 + 56) (.int .i16 799) = some M57' ∧
    ∃ M58', M57'.put (2 * M.nb.size) (0 + 57) (.int .i16 700) = some M58' ∧
    ∃ M59', M58'.put (2 * M.nb.size) (0 + 58) (.int .i16 601) = some M59' ∧
    ∃ M60', M59'.put (2 * M.nb.size) (0 + 59) (.int .i16 501) = some M60' ∧
    ∃ M61', M60'.put (2 * M.nb.size) (0 + 60) (.int .i16 401) = some M61' ∧
    ∃ M62', M61'.put (2 * M.nb.size) (0 + 61) (.int .i16 301) = some M62' ∧
    ∃ M63', M62'.put (2 * M.nb.size) (0 + 62) (.int .i16 201) = some M63' ∧
    ∃ M64', M63'.put (2 * M.nb.size) (0 + 63) (.int .i16 101) = some M64' ∧
    ∃ M65', M64'.put (2 * M.nb.size) (0 + 64) (.int .i16 0) = some M65' ∧
    ∃ x66', M65'.intAt .i16 (2 * M.nb.size) 0 = some x66' ∧
    ∃ x67', M65'.intAt .i16 (2 * M.nb.size) (0 + 1) = some x67' ∧
    ∃ x68', M65'.intAt .i16 (2 * M.nb.size) (0 + 2) = some x68' ∧
    ∃ x69', M65'.intAt .i16 (2 * M.nb.size) (0 + 3) = some x69' ∧
    ∃ x70', M65'.intAt .i16 (2 * M.nb.size) (0 + 4) = some x70' ∧
    ∃ x71', M65'.intAt .i16 (2 * M.nb.size) (0 + 5) = some x71' ∧
    ∃ x72', M65'.intAt .i16 (2 * M.nb.size) (0 + 6) = some x72' ∧
    ∃ x73', M65'.intAt .i16 (2 * M.nb.size) (0 + 7) = some x73' ∧
    ∃ x74', M65'.intAt .i16 (2 * M.nb.size) (0 + 8) = some x74' ∧
    ∃ x75', M65'.intAt .i16 (2 * M.nb.size) (0 + 9) = some x75' ∧
    ∃ x76', M65'.intAt .i16 (2 * M.nb.size) (0 + 10) = some x76' ∧
    ∃ x77', M65'.intAt .i16 (2 * M.nb.size) (0 + 11) = some x77' ∧
    ∃ x78', M65'.intAt .i16 (2 * M.nb.size) (0 + 12) = some x78' ∧
    ∃ x79', M65'.intAt .i16 (2 * M.nb.size) (0 + 13) = some x79' ∧
    ∃ x80', M65'.intAt .i16 (2 * M.nb.size) (0 + 14) = some x80' ∧
    ∃ x81', M65'.intAt .i16 (2 * M.nb.size) (0 + 15) = some x81' ∧
    ∃ x82', M65'.intAt .i16 (2 * M.nb.size) (0 + 16) = some x82' ∧
    ∃ x83', M65'.intAt .i16 (2 * M.nb.size) (0 + 17) = some x83' ∧
    ∃ x84', M65'.intAt .i16 (2 * M.nb.size) (0 + 18) = some x84' ∧
    ∃ x85', M65'.intAt .i16 (2 * M.nb.size) (0 + 19) = some x85' ∧
    ∃ x86', M65'.intAt .i16 (2 * M.nb.size) (0 + 20) = some x86' ∧
    ∃ x87', M65'.intAt .i16 (2 * M.nb.size) (0 + 21) = some x87' ∧
    ∃ x88', M65'.intAt .i16 (2 * M.nb.size) (0 + 22) = some x88' ∧
    ∃ x89', M65'.intAt .i16 (2 * M.nb.size) (0 + 23) = some x89' ∧
    ∃ x90', M65'.intAt .i16 (2 * M.nb.size) (0 + 24) = some x90' ∧
    ∃ x91', M65'.intAt .i16 (2 * M.nb.size) (0 + 25) = some x91' ∧
    ∃ x92', M65'.intAt .i16 (2 * M.nb.size) (0 + 26) = some x92' ∧
    ∃ x93', M65'.intAt .i16 (2 * M.nb.size) (0 + 27) = some x93' ∧
    ∃ x94', M65'.intAt .i16 (2 * M.nb.size) (0 + 28) = some x94' ∧
    ∃ x95', M65'.intAt .i16 (2 * M.nb.size) (0 + 29) = some x95' ∧
    ∃ x96', M65'.intAt .i16 (2 * M.nb.size) (0 + 30) = some x96' ∧
    ∃ x97', M65'.intAt .i16 (2 * M.nb.size) (0 + 31) = some x97' ∧
    ∃ x98', M65'.intAt .i16 (2 * M.nb.size) (0 + 32) = some x98' ∧
    ∃ x99', M65'.intAt .i16 (2 * M.nb.size) (0 + 33) = some x99' ∧
    ∃ x100', M65'.intAt .i16 (2 * M.nb.size) (0 + 34) = some x100' ∧
    ∃ x101', M65'.intAt .i16 (2 * M.nb.size) (0 + 35) = some x101' ∧
    ∃ x102', M65'.intAt .i16 (2 * M.nb.size) (0 + 36) = some x102' ∧
    ∃ x103', M65'.intAt .i16 (2 * M.nb.size) (0 + 37) = some x103' ∧
    ∃ x104', M65'.intAt .i16 (2 * M.nb.size) (0 + 38) = some x104' ∧
    ∃ x105', M65'.intAt .i16 (2 * M.nb.size) (0 + 39) = some x105' ∧
    ∃ x106', M65'.intAt .i16 (2 * M.nb.size) (0 + 40) = some x106' ∧
    ∃ x107', M65'.intAt .i16 (2 * M.nb.size) (0 + 41) = some x107' ∧
    ∃ x108', M65'.intAt .i16 (2 * M.nb.size) (0 + 42) = some x108' ∧
    ∃ x109', M65'.intAt .i16 (2 * M.nb.size) (0 + 43) = some x109' ∧
    ∃ x110', M65'.intAt .i16 (2 * M.nb.size) (0 + 44) = some x110' ∧
    ∃ x111', M65'.intAt .i16 (2 * M.nb.size) (0 + 45) = some x111' ∧
    ∃ x112', M65'.intAt .i16 (2 * M.nb.size) (0 + 46) = some x112' ∧
    ∃ x113', M65'.intAt .i16 (2 * M.nb.size) (0 + 47) = some x113' ∧
    ∃ x114', M65'.intAt .i16 (2 * M.nb.size) (0 + 48) = some x114' ∧
    ∃ x115', M65'.intAt .i16 (2 * M.nb.size) (0 + 49) = some x115' ∧
    ∃ x116', M65'.intAt .i16 (2 * M.nb.size) (0 + 50) = some x116' ∧
    ∃ x117', M65'.intAt .i16 (2 * M.nb.size) (0 + 51) = some x117' ∧
    ∃ x118', M65'.intAt .i16 (2 * M.nb.size) (0 + 52) = some x118' ∧
    ∃ x119', M65'.intAt .i16 (2 * M.nb.size) (0 + 53) = some x119' ∧
    ∃ x120', M65'.intAt .i16 (2 * M.nb.size) (0 + 54) = some x120' ∧
    ∃ x121', M65'.intAt .i16 (2 * M.nb.size) (0 + 55) = some x121' ∧
    ∃ x122', M65'.intAt .i16 (2 * M.nb.size) (0 + 56) = some x122' ∧
    ∃ x123', M65'.intAt .i16 (2 * M.nb.size) (0 + 57) = some x123' ∧
    ∃ x124', M65'.intAt .i16 (2 * M.nb.size) (0 + 58) = some x124' ∧
    ∃ x125', M65'.intAt .i16 (2 * M.nb.size) (0 + 59) = some x125' ∧
    ∃ x126', M65'.intAt .i16 (2 * M.nb.size) (0 + 60) = some x126' ∧
    ∃ x127', M65'.intAt .i16 (2 * M.nb.size) (0 + 61) = some x127' ∧
    ∃ x128', M65'.intAt .i16 (2 * M.nb.size) (0 + 62) = some x128' ∧
    ∃ x129', M65'.intAt .i16 (2 * M.nb.size) (0 + 63) = some x129' ∧
    ∃ x130', M65'.intAt .i16 (2 * M.nb.size) (0 + 64) = some x130' ∧
    Q (.agg #[.int .i16 (x66'), .int .i16 (x67'), .int .i16 (x68'), .int .i16 (x69'), .int .i16 (x70'), .int .i16 (x71'), .int .i16 (x72'), .int .i16 (x73'), .int .i16 (x74'), .int .i16 (x75'), .int .i16 (x76'), .int .i16 (x77'), .int .i16 (x78'), .int .i16 (x79'), .int .i16 (x80'), .int .i16 (x81'), .int .i16 (x82'), .int .i16 (x83'), .int .i16 (x84'), .int .i16 (x85'), .int .i16 (x86'), .int .i16 (x87'), .int .i16 (x88'), .int .i16 (x89'), .int .i16 (x90'), .int .i16 (x91'), .int .i16 (x92'), .int .i16 (x93'), .int .i16 (x94'), .int .i16 (x95'), .int .i16 (x96'), .int .i16 (x97'), .int .i16 (x98'), .int .i16 (x99'), .int .i16 (x100'), .int .i16 (x101'), .int .i16 (x102'), .int .i16 (x103'), .int .i16 (x104'), .int .i16 (x105'), .int .i16 (x106'), .int .i16 (x107'), .int .i16 (x108'), .int .i16 (x109'), .int .i16 (x110'), .int .i16 (x111'), .int .i16 (x112'), .int .i16 (x113'), .int .i16 (x114'), .int .i16 (x115'), .int .i16 (x116'), .int .i16 (x117'), .int .i16 (x118'), .int .i16 (x119'), .int .i16 (x120'), .int .i16 (x121'), .int .i16 (x122'), .int .i16 (x123'), .int .i16 (x124'), .int .i16 (x125'), .int .i16 (x126'), .int .i16 (x127'), .int .i16 (x128'), .int .i16 (x129'), .int .i16 (x130')]) M65') :
    Cn Try.prog 30 #[] M Q := by
  refine Cn.of b30 d30 t30 ?_
  refine Rn.seq k30_0 (Rn.region k30_1 (fun call K => r30_0) (Rch.leaf (Rn.seq k30_2 (Rn.region k30_3 (fun call K => r30_1) (Rch.bind (x := ⟨2 * M.nb.size, 0, none⟩) rfl (Rch.ex H fun M1' H => Rch.ex H fun M2' H => Rch.ex H fun M3' H => Rch.ex H fun M4' H => Rch.ex H fun M5' H => Rch.ex H fun M6' H => ?_))))))
  refine Rch.ex H fun M7' H => Rch.ex H fun M8' H => Rch.ex H fun M9' H => Rch.ex H fun M10' H => Rch.ex H fun M11' H => Rch.ex H fun M12' H => Rch.ex H fun M13' H => Rch.ex H fun M14' H => Rch.ex H fun M15' H => Rch.ex H fun M16' H => Rch.ex H fun M17' H => Rch.ex H fun M18' H => ?_
  refine Rch.ex H fun M19' H => Rch.ex H fun M20' H => Rch.ex H fun M21' H => Rch.ex H fun M22' H => Rch.ex H fun M23' H => Rch.ex H fun M24' H => Rch.ex H fun M25' H => Rch.ex H fun M26' H => Rch.ex H fun M27' H => Rch.ex H fun M28' H => Rch.ex H fun M29' H => Rch.ex H fun M30' H => ?_
  refine Rch.ex H fun M31' H => Rch.ex H fun M32' H => Rch.ex H fun M33' H => Rch.ex H fun M34' H => Rch.ex H fun M35' H => Rch.ex H fun M36' H => Rch.ex H fun M37' H => Rch.ex H fun M38' H => Rch.ex H fun M39' H => Rch.ex H fun M40' H => Rch.ex H fun M41' H => Rch.ex H fun M42' H => ?_
  refine Rch.ex H fun M43' H => Rch.ex H fun M44' H => Rch.ex H fun M45' H => Rch.ex H fun M46' H => Rch.ex H fun M47' H => Rch.ex H fun M48' H => Rch.ex H fun M49' H => Rch.ex H fun M50' H => Rch.ex H fun M51' H => Rch.ex H fun M52' H => Rch.ex H fun M53' H => Rch.ex H fun M54' H => ?_
  refine Rch.ex H fun M55' H => Rch.ex H fun M56' H => Rch.ex H fun M57' H => Rch.ex H fun M58' H => Rch.ex H fun M59' H => Rch.ex H fun M60' H => Rch.ex H fun M61' H => Rch.ex H fun M62' H => Rch.ex H fun M63' H => Rch.ex H fun M64' H => Rch.ex H fun M65' H => Rch.leaf ?_
  refine Rn.retK k30_4 (fun K => e30_0) (Rch.bind (x := ⟨2 * M.nb.size, 0, none⟩) rfl (Rch.ex H fun x66' H => Rch.ex H fun x67' H => Rch.ex H fun x68' H => Rch.ex H fun x69' H => Rch.ex H fun x70' H => Rch.ex H fun x71' H => Rch.ex H fun x72' H => Rch.ex H fun x73' H => Rch.ex H fun x74' H => Rch.ex H fun x75' H => ?_))
  refine Rch.ex H fun x76' H => Rch.ex H fun x77' H => Rch.ex H fun x78' H => Rch.ex H fun x79' H => Rch.ex H fun x80' H => Rch.ex H fun x81' H => Rch.ex H fun x82' H => Rch.ex H fun x83' H => Rch.ex H fun x84' H => Rch.ex H fun x85' H => Rch.ex H fun x86' H => Rch.ex H fun x87' H => ?_
  refine Rch.ex H fun x88' H => Rch.ex H fun x89' H => Rch.ex H fun x90' H => Rch.ex H fun x91' H => Rch.ex H fun x92' H => Rch.ex H fun x93' H => Rch.ex H fun x94' H => Rch.ex H fun x95' H => Rch.ex H fun x96' H => Rch.ex H fun x97' H => Rch.ex H fun x98' H => Rch.ex H fun x99' H => ?_
  refine Rch.ex H fun x100' H => Rch.ex H fun x101' H => Rch.ex H fun x102' H => Rch.ex H fun x103' H => Rch.ex H fun x104' H => Rch.ex H fun x105' H => Rch.ex H fun x106' H => Rch.ex H fun x107' H => Rch.ex H fun x108' H => Rch.ex H fun x109' H => Rch.ex H fun x110' H => Rch.ex H fun x111' H => ?_
  refine Rch.ex H fun x112' H => Rch.ex H fun x113' H => Rch.ex H fun x114' H => Rch.ex H fun x115' H => Rch.ex H fun x116' H => Rch.ex H fun x117' H => Rch.ex H fun x118' H => Rch.ex H fun x119' H => Rch.ex H fun x120' H => Rch.ex H fun x121' H => Rch.ex H fun x122' H => Rch.ex H fun x123' H => ?_
  refine Rch.ex H fun x124' H => Rch.ex H fun x125' H => Rch.ex H fun x126' H => Rch.ex H fun x127' H => Rch.ex H fun x128' H => Rch.ex H fun x129' H => Rch.ex H fun x130' H => ?_
  exact Rch.fin H


end Go.Zt
