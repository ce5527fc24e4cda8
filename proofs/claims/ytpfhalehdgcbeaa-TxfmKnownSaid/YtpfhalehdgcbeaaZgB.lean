/- The functions' walks: for each function and each loop a rule of what it comes to. Printed by zw.py. -/
import Derived.Test.YtpfhalehdgcbeaaProg
import Derived.Test.YtpfhalehdgcbeaaZgA
set_option linter.unusedVariables false
set_option maxRecDepth 100000
namespace Go.Zt
open Go Go.Sim Go.Proofs

variable {g0 g1 g2 g3 g4 g5 g6 g7 g8 g9 g10 g11 g12 g13 g14 g15 g16 g17 g18 g19 g20 g21 g22 g23 g24 g25 g26 g27 g28 g29 g30 g31 g32 g33 g34 g35 : Value}
/-! ### zoetrope/basis.kinds: function 64 -/
noncomputable abbrev P64 (p : List Nat) : Code := subC (codeOf Try.f64) p
noncomputable abbrev O64 (p : List Nat) : Array Oper := opsOf (subC (codeOf Try.f64) p)
theorem b64 : Try.prog.funcs[64]? = some Try.f64 ∧ (Orc.tab Try.prog).lookup 64 = none := ⟨by kernel_rfl, by kernel_rfl⟩
theorem d64 : Try.f64.body = some (P64 []) := by kernel_rfl
theorem t64 {x0 x1 : Int} : #[.int .i64 x0,.int .i64 x1] ++ Array.replicate (Try.f64.ntmps - (#[.int .i64 x0,.int .i64 x1] : Array Value).size) undef = #[.int .i64 x0,.int .i64 x1,undef,undef,undef,undef,undef,undef,undef,undef,undef,undef,undef,undef,undef,undef,undef,undef,undef,undef,undef,undef,undef,undef,undef,undef,undef,undef,undef] := by kernel_rfl
theorem k64_0 : P64 [] = .seq (P64 [0]) (P64 [1]) := by kernel_rfl
theorem k64_1 : P64 [0] = .region 0 (O64 [0]) false := by kernel_rfl
theorem r64_0 {x1 : Int} {M : Mem} {call : CallM} {K : Array Value → Mem → R} :
    opsK Try.prog (fun _ => call) (O64 [0]) (O64 [0]).toList 0 #[g0,.int .i64 x1,g2,g3,g4,g5,g6,g7,g8,g9,g10,g11,g12,g13,g14,g15,g16,g17,g18,g19,g20,g21,g22,g23,g24,g25,g26,g27,g28] M K = K #[g0,.int .i64 x1,g2,.pointer (some ⟨2 * M.nb.size, 0, none⟩),.pointer (some ⟨2 * (M.new (.cells #[.int .i64 x1] 3)).nb.size, 0, none⟩),g5,g6,g7,g8,g9,g10,g11,g12,g13,g14,g15,g16,g17,g18,g19,g20,g21,g22,g23,g24,g25,g26,g27,g28] ((M.new (.cells #[.int .i64 x1] 3)).new (.cells #[.int .i64 0, .nilFunc] 54)) := by kernel_rfl
theorem k64_2 : P64 [1] = .seq (P64 [1,0]) (P64 [1,1]) := by kernel_rfl
theorem k64_3 : P64 [1,0] = .region 1 (O64 [1,0]) false := by kernel_rfl
theorem r64_1 {M : Mem} {call : CallM} {K : Array Value → Mem → R} :
    opsK Try.prog (fun _ => call) (O64 [1,0]) (O64 [1,0]).toList 0 #[g0,g1,g2,g3,g4,g5,g6,g7,g8,g9,g10,g11,g12,g13,g14,g15,g16,g17,g18,g19,g20,g21,g22,g23,g24,g25,g26,g27,g28] M K = (call 68 #[] M).bind fun r_1 => (asA 65 r_1.1).bind fun cs_2 => (asI .i16 (cs_2.getD 0 undef)).bind fun x_3 => (asI .i16 (cs_2.getD 1 undef)).bind fun x_4 => (asI .i16 (cs_2.getD 2 undef)).bind fun x_5 => (asI .i16 (cs_2.getD 3 undef)).bind fun x_6 => (asI .i16 (cs_2.getD 4 undef)).bind fun x_7 => (asI .i16 (cs_2.getD 5 undef)).bind fun x_8 => (asI .i16 (cs_2.getD 6 undef)).bind fun x_9 => (asI .i16 (cs_2.getD 7 undef)).bind fun x_10 => (asI .i16 (cs_2.getD 8 undef)).bind fun x_11 => (asI .i16 (cs_2.getD 9 undef)).bind fun x_12 => (asI .i16 (cs_2.getD 10 undef)).bind fun x_13 => (asI .i16 (cs_2.getD 11 undef)).bind fun x_14 => (asI .i16 (cs_2.getD 12 undef)).bind fun x_15 => (asI .i16 (cs_2.getD 13 undef)).bind fun x_16 => (asI .i16 (cs_2.getD 14 undef)).bind fun x_17 => (asI .i16 (cs_2.getD 15 undef)).bind fun x_18 => (asI .i16 (cs_2.getD 16 undef)).bind fun x_19 => (asI .i16 (cs_2.getD 17 undef)).bind fun x_20 => (asI .i16 (cs_2.getD 18 undef)).bind fun x_21 => (asI .i16 (cs_2.getD 19 undef)).bind fun x_22 => (asI .i16 (cs_2.getD 20 undef)).bind fun x_23 => (asI .i16 (cs_2.getD 21 undef)).bind fun x_24 => (asI .i16 (cs_2.getD 22 undef)).bind fun x_25 => (asI .i16 (cs_2.getD 23 undef)).bind fun x_26 => (asI .i16 (cs_2.getD 24 undef)).bind fun x_27 => (asI .i16 (cs_2.getD 25 undef)).bind fun x_28 => (asI .i16 (cs_2.getD 26 undef)).bind fun x_29 => (asI .i16 (cs_2.getD 27 undef)).bind fun x_30 => (asI .i16 (cs_2.getD 28 undef)).bind fun x_31 => (asI .i16 (cs_2.getD 29 undef)).bind fun x_32 => (asI .i16 (cs_2.getD 30 undef)).bind fun x_33 => (asI .i16 (cs_2.getD 31 undef)).bind fun x_34 => (asI .i16 (cs_2.getD 32 undef)).bind fun x_35 => (asI .i16 (cs_2.getD 33 undef)).bind fun x_36 => (asI .i16 (cs_2.getD 34 undef)).bind fun x_37 => (asI .i16 (cs_2.getD 35 undef)).bind fun x_38 => (asI .i16 (cs_2.getD 36 undef)).bind fun x_39 => (asI .i16 (cs_2.getD 37 undef)).bind fun x_40 => (asI .i16 (cs_2.getD 38 undef)).bind fun x_41 => (asI .i16 (cs_2.getD 39 undef)).bind fun x_42 => (asI .i16 (cs_2.getD 40 undef)).bind fun x_43 => (asI .i16 (cs_2.getD 41 undef)).bind fun x_44 => (asI .i16 (cs_2.getD 42 undef)).bind fun x_45 => (asI .i16 (cs_2.getD 43 undef)).bind fun x_46 => (asI .i16 (cs_2.getD 44 undef)).bind fun x_47 => (asI .i16 (cs_2.getD 45 undef)).bind fun x_48 => (asI .i16 (cs_2.getD 46 undef)).bind fun x_49 => (asI .i16 (cs_2.getD 47 undef)).bind fun x_50 => (asI .i16 (cs_2.getD 48 undef)).bind fun x_51 => (asI .i16 (cs_2.getD 49 undef)).bind fun x_52 => (asI .i16 (cs_2.getD 50 undef)).bind fun x_53 => (asI .i16 (cs_2.getD 51 undef)).bind fun x_54 => (asI .i16 (cs_2.getD 52 undef)).bind fun x_55 => (asI .i16 (cs_2.getD 53 undef)).bind fun x_56 => (asI .i16 (cs_2.getD 54 undef)).bind fun x_57 => (asI .i16 (cs_2.getD 55 undef)).bind fun x_58 => (asI .i16 (cs_2.getD 56 undef)).bind fun x_59 => (asI .i16 (cs_2.getD 57 undef)).bind fun x_60 => (asI .i16 (cs_2.getD 58 undef)).bind fun x_61 => (asI .i16 (cs_2.getD 59 undef)).bind fun x_62 => (asI .i16 (cs_2.getD 60 undef)).bind fun x_63 => (asI .i16 (cs_2.getD 61 undef)).bind fun x_64 => (asI .i16 (cs_2.getD 62 undef)).bind fun x_65 => (asI .i16 (cs_2.getD 63 undef)).bind fun x_66 => (asI .i16 (cs_2.getD 64 undef)).bind fun x_67 => ((r_1.2.new (.cells #[.int .i16 0, .int .i16 0, .int .i16 0, .int .i16 0, .int .i16 0, .int .i16 0, .int .i16 0, .int .i16 0, .int .i16 0, .int .i16 0, .int .i16 0, .int .i16 0, .int .i16 0, .int .i16 0, .int .i16 0, .int .i16 0, .int .i16 0, .int .i16 0, .int .i16 0, .int .i16 0, .int .i16 0, .int .i16 0, .int .i16 0, .int .i16 0, .int .i16 0, .int .i16 0, .int .i16 0, .int .i16 0, .int .i16 0, .int .i16 0, .int .i16 0, .int .i16 0, .int .i16 0, .int .i16 0, .int .i16 0, .int .i16 0, .int .i16 0, .int .i16 0, .int .i16 0, .int .i16 0, .int .i16 0, .int .i16 0, .int .i16 0, .int .i16 0, .int .i16 0, .int .i16 0, .int .i16 0, .int .i16 0, .int .i16 0, .int .i16 0, .int .i16 0, .int .i16 0, .int .i16 0, .int .i16 0, .int .i16 0, .int .i16 0, .int .i16 0, .int .i16 0, .int .i16 0, .int .i16 0, .int .i16 0, .int .i16 0, .int .i16 0, .int .i16 0, .int .i16 0] 65)).put (2 * r_1.2.nb.size) 0 (.int .i16 x_3)).bind fun M_68 => (M_68.put (2 * r_1.2.nb.size) 1 (.int .i16 x_4)).bind fun M_69 => (M_69.put (2 * r_1.2.nb.size) 2 (.int .i16 x_5)).bind fun M_70 => (M_70.put (2 * r_1.2.nb.size) 3 (.int .i16 x_6)).bind fun M_71 => (M_71.put (2 * r_1.2.nb.size) 4 (.int .i16 x_7)).bind fun M_72 => (M_72.put (2 * r_1.2.nb.size) 5 (.int .i16 x_8)).bind fun M_73 => (M_73.put (2 * r_1.2.nb.size) 6 (.int .i16 x_9)).bind fun M_74 => (M_74.put (2 * r_1.2.nb.size) 7 (.int .i16 x_10)).bind fun M_75 => (M_75.put (2 * r_1.2.nb.size) 8 (.int .i16 x_11)).bind fun M_76 => (M_76.put (2 * r_1.2.nb.size) 9 (.int .i16 x_12)).bind fun M_77 => (M_77.put (2 * r_1.2.nb.size) 10 (.int .i16 x_13)).bind fun M_78 => (M_78.put (2 * r_1.2.nb.size) 11 (.int .i16 x_14)).bind fun M_79 => (M_79.put (2 * r_1.2.nb.size) 12 (.int .i16 x_15)).bind fun M_80 => (M_80.put (2 * r_1.2.nb.size) 13 (.int .i16 x_16)).bind fun M_81 => (M_81.put (2 * r_1.2.nb.size) 14 (.int .i16 x_17)).bind fun M_82 => (M_82.put (2 * r_1.2.nb.size) 15 (.int .i16 x_18)).bind fun M_83 => (M_83.put (2 * r_1.2.nb.size) 16 (.int .i16 x_19)).bind fun M_84 => (M_84.put (2 * r_1.2.nb.size) 17 (.int .i16 x_20)).bind fun M_85 => (M_85.put (2 * r_1.2.nb.size) 18 (.int .i16 x_21)).bind fun M_86 => (M_86.put (2 * r_1.2.nb.size) 19 (.int .i16 x_22)).bind fun M_87 => (M_87.put (2 * r_1.2.nb.size) 20 (.int .i16 x_23)).bind fun M_88 => (M_88.put (2 * r_1.2.nb.size) 21 (.int .i16 x_24)).bind fun M_89 => (M_89.put (2 * r_1.2.nb.size) 22 (.int .i16 x_25)).bind fun M_90 => (M_90.put (2 * r_1.2.nb.size) 23 (.int .i16 x_26)).bind fun M_91 => (M_91.put (2 * r_1.2.nb.size) 24 (.int .i16 x_27)).bind fun M_92 => (M_92.put (2 * r_1.2.nb.size) 25 (.int .i16 x_28)).bind fun M_93 => (M_93.put (2 * r_1.2.nb.size) 26 (.int .i16 x_29)).bind fun M_94 => (M_94.put (2 * r_1.2.nb.size) 27 (.int .i16 x_30)).bind fun M_95 => (M_95.put (2 * r_1.2.nb.size) 28 (.int .i16 x_31)).bind fun M_96 => (M_96.put (2 * r_1.2.nb.size) 29 (.int .i16 x_32)).bind fun M_97 => (M_97.put (2 * r_1.2.nb.size) 30 (.int .i16 x_33)).bind fun M_98 => (M_98.put (2 * r_1.2.nb.size) 31 (.int .i16 x_34)).bind fun M_99 => (M_99.put (2 * r_1.2.nb.size) 32 (.int .i16 x_35)).bind fun M_100 => (M_100.put (2 * r_1.2.nb.size) 33 (.int .i16 x_36)).bind fun M_101 => (M_101.put (2 * r_1.2.nb.size) 34 (.int .i16 x_37)).bind fun M_102 => (M_102.put (2 * r_1.2.nb.size) 35 (.int .i16 x_38)).bind fun M_103 => (M_103.put (2 * r_1.2.nb.size) 36 (.int .i16 x_39)).bind fun M_104 => (M_104.put (2 * r_1.2.nb.size) 37 (.int .i16 x_40)).bind fun M_105 => (M_105.put (2 * r_1.2.nb.size) 38 (.int .i16 x_41)).bind fun M_106 => (M_106.put (2 * r_1.2.nb.size) 39 (.int .i16 x_42)).bind fun M_107 => (M_107.put (2 * r_1.2.nb.size) 40 (.int .i16 x_43)).bind fun M_108 => (M_108.put (2 * r_1.2.nb.size) 41 (.int .i16 x_44)).bind fun M_109 => (M_109.put (2 * r_1.2.nb.size) 42 (.int .i16 x_45)).bind fun M_110 => (M_110.put (2 * r_1.2.nb.size) 43 (.int .i16 x_46)).bind fun M_111 => (M_111.put (2 * r_1.2.nb.size) 44 (.int .i16 x_47)).bind fun M_112 => (M_112.put (2 * r_1.2.nb.size) 45 (.int .i16 x_48)).bind fun M_113 => (M_113.put (2 * r_1.2.nb.size) 46 (.int .i16 x_49)).bind fun M_114 => (M_114.put (2 * r_1.2.nb.size) 47 (.int .i16 x_50)).bind fun M_115 => (M_115.put (2 * r_1.2.nb.size) 48 (.int .i16 x_51)).bind fun M_116 => (M_116.put (2 * r_1.2.nb.size) 49 (.int .i16 x_52)).bind fun M_117 => (M_117.put (2 * r_1.2.nb.size) 50 (.int .i16 x_53)).bind fun M_118 => (M_118.put (2 * r_1.2.nb.size) 51 (.int .i16 x_54)).bind fun M_119 => (M_119.put (2 * r_1.2.nb.size) 52 (.int .i16 x_55)).bind fun M_120 => (M_120.put (2 * r_1.2.nb.size) 53 (.int .i16 x_56)).bind fun M_121 => (M_121.put (2 * r_1.2.nb.size) 54 (.int .i16 x_57)).bind fun M_122 => (M_122.put (2 * r_1.2.nb.size) 55 (.int .i16 x_58)).bind fun M_123 => (M_123.put (2 * r_1.2.nb.size) 56 (.int .i16 x_59)).bind fun M_124 => (M_124.put (2 * r_1.2.nb.size) 57 (.int .i16 x_60)).bind fun M_125 => (M_125.put (2 * r_1.2.nb.size) 58 (.int .i16 x_61)).bind fun M_126 => (M_126.put (2 * r_1.2.nb.size) 59 (.int .i16 x_62)).bind fun M_127 => (M_127.put (2 * r_1.2.nb.size) 60 (.int .i16 x_63)).bind fun M_128 => (M_128.put (2 * r_1.2.nb.size) 61 (.int .i16 x_64)).bind fun M_129 => (M_129.put (2 * r_1.2.nb.size) 62 (.int .i16 x_65)).bind fun M_130 => (M_130.put (2 * r_1.2.nb.size) 63 (.int .i16 x_66)).bind fun M_131 => (M_131.put (2 * r_1.2.nb.size) 64 (.int .i16 x_67)).bind fun M_132 => K #[g0,g1,g2,g3,g4,.pointer (some ⟨2 * r_1.2.nb.size, 0, none⟩),g6,.agg #[.int .i16 x_3, .int .i16 x_4, .int .i16 x_5, .int .i16 x_6, .int .i16 x_7, .int .i16 x_8, .int .i16 x_9, .int .i16 x_10, .int .i16 x_11, .int .i16 x_12, .int .i16 x_13, .int .i16 x_14, .int .i16 x_15, .int .i16 x_16, .int .i16 x_17, .int .i16 x_18, .int .i16 x_19, .int .i16 x_20, .int .i16 x_21, .int .i16 x_22, .int .i16 x_23, .int .i16 x_24, .int .i16 x_25, .int .i16 x_26, .int .i16 x_27, .int .i16 x_28, .int .i16 x_29, .int .i16 x_30, .int .i16 x_31, .int .i16 x_32, .int .i16 x_33, .int .i16 x_34, .int .i16 x_35, .int .i16 x_36, .int .i16 x_37, .int .i16 x_38, .int .i16 x_39, .int .i16 x_40, .int .i16 x_41, .int .i16 x_42, .int .i16 x_43, .int .i16 x_44, .int .i16 x_45, .int .i16 x_46, .int .i16 x_47, .int .i16 x_48, .int .i16 x_49, .int .i16 x_50, .int .i16 x_51, .int .i16 x_52, .int .i16 x_53, .int .i16 x_54, .int .i16 x_55, .int .i16 x_56, .int .i16 x_57, .int .i16 x_58, .int .i16 x_59, .int .i16 x_60, .int .i16 x_61, .int .i16 x_62, .int .i16 x_63, .int .i16 x_64, .int .i16 x_65, .int .i16 x_66, .int .i16 x_67],g8,g9,g10,g11,g12,g13,g14,g15,g16,g17,g18,g19,g20,g21,g22,g23,g24,g25,g26,g27,g28] M_132 := by kernel_rfl
theorem k64_4 : P64 [1,1] = .seq (P64 [1,1,0]) (P64 [1,1,1]) := by kernel_rfl
theorem k64_5 : P64 [1,1,0] = .seq (P64 [1,1,0,0]) (P64 [1,1,0,1]) := by kernel_rfl
theorem k64_6 : P64 [1,1,0,0] = .region 2 (O64 [1,1,0,0]) false := by kernel_rfl
theorem r64_2 {x0 : Int} {M : Mem} {call : CallM} {K : Array Value → Mem → R} :
    opsK Try.prog (fun _ => call) (O64 [1,1,0,0]) (O64 [1,1,0,0]).toList 0 #[.int .i64 x0,g1,g2,g3,g4,g5,g6,g7,g8,g9,g10,g11,g12,g13,g14,g15,g16,g17,g18,g19,g20,g21,g22,g23,g24,g25,g26,g27,g28] M K = K #[.int .i64 x0,g1,g2,g3,g4,g5,g6,g7,.int .i64 x0,g9,g10,g11,g12,g13,g14,g15,g16,g17,g18,g19,g20,g21,g22,g23,g24,g25,g26,g27,g28] M := by kernel_rfl
theorem k64_7 : P64 [1,1,0,1] = .block 0 (P64 [1,1,0,1,0]) := by kernel_rfl
theorem k64_8 : P64 [1,1,0,1,0] = .seq (P64 [1,1,0,1,0,0]) (P64 [1,1,0,1,0,1]) := by kernel_rfl
theorem k64_9 : P64 [1,1,0,1,0,0] = .region 3 (O64 [1,1,0,1,0,0]) false := by kernel_rfl
theorem r64_3 {x8 : Int} {M : Mem} {call : CallM} {K : Array Value → Mem → R} :
    opsK Try.prog (fun _ => call) (O64 [1,1,0,1,0,0]) (O64 [1,1,0,1,0,0]).toList 0 #[g0,g1,g2,g3,g4,g5,g6,g7,.int .i64 x8,g9,g10,g11,g12,g13,g14,g15,g16,g17,g18,g19,g20,g21,g22,g23,g24,g25,g26,g27,g28] M K = K #[g0,g1,g2,g3,g4,g5,g6,g7,.int .i64 x8,.bool (x8 == 0),.bool (x8 == 0),g11,g12,g13,g14,g15,g16,g17,g18,g19,g20,g21,g22,g23,g24,g25,g26,g27,g28] M := by kernel_rfl
theorem c64_10 : P64 [1,1,0,1,0,1] = .cond (.tmp 9) (P64 [1,1,0,1,0,1,0]) (P64 [1,1,0,1,0,1,1]) := by kernel_rfl
theorem k64_11 : P64 [1,1,0,1,0,1,0] = .seq (P64 [1,1,0,1,0,1,0,0]) (P64 [1,1,0,1,0,1,0,1]) := by kernel_rfl
theorem k64_12 : P64 [1,1,0,1,0,1,0,0] = .region 4 (O64 [1,1,0,1,0,1,0,0]) false := by kernel_rfl
theorem r64_4 {x3 x4 x5 : Option Addr} {M : Mem} {call : CallM} {K : Array Value → Mem → R} :
    opsK Try.prog (fun _ => call) (O64 [1,1,0,1,0,1,0,0]) (O64 [1,1,0,1,0,1,0,0]).toList 0 #[g0,g1,g2,.pointer x3,.pointer x4,.pointer x5,g6,g7,g8,g9,g10,g11,g12,g13,g14,g15,g16,g17,g18,g19,g20,g21,g22,g23,g24,g25,g26,g27,g28] M K = (x4).bind fun a_1 => (M.put a_1.block a_1.off (.int .i64 64)).bind fun M_2 => (M_2.put a_1.block (a_1.off + 1) (.func (.func 69) #[] #[.pointer x5, .pointer x3])).bind fun M_3 => K #[g0,g1,g2,.pointer x3,.pointer x4,.pointer x5,g6,g7,g8,g9,g10,.func (.func 69) #[] #[.pointer x5, .pointer x3],.agg #[.int .i64 64, .func (.func 69) #[] #[.pointer x5, .pointer x3]],g13,g14,g15,g16,g17,g18,g19,g20,g21,g22,g23,g24,g25,g26,g27,g28] M_3 := by kernel_rfl
theorem k64_13 : P64 [1,1,0,1,0,1,0,1] = .ret := by kernel_rfl
theorem e64_0 {x4 : Option Addr} {M : Mem} {K : List Value → R} : resK Try.prog #[g0,g1,g2,g3,.pointer x4,g5,g6,g7,g8,g9,g10,g11,g12,g13,g14,g15,g16,g17,g18,g19,g20,g21,g22,g23,g24,g25,g26,g27,g28] M (Try.f64).results.toList K = (x4).bind fun a_1 => (M.intAt .i64 a_1.block a_1.off).bind fun x_2 => (M.cell a_1.block (a_1.off + 1)).bind fun v_3 => K [.agg #[.int .i64 x_2, v_3]] := by kernel_rfl
theorem k64_15 : P64 [1,1,0,1,0,1,1] = .seq (P64 [1,1,0,1,0,1,1,0]) (P64 [1,1,0,1,0,1,1,1]) := by kernel_rfl
theorem k64_16 : P64 [1,1,0,1,0,1,1,0] = .region 5 (O64 [1,1,0,1,0,1,1,0]) false := by kernel_rfl
theorem r64_5 {x8 : Int} {M : Mem} {call : CallM} {K : Array Value → Mem → R} :
    opsK Try.prog (fun _ => call) (O64 [1,1,0,1,0,1,1,0]) (O64 [1,1,0,1,0,1,1,0]).toList 0 #[g0,g1,g2,g3,g4,g5,g6,g7,.int .i64 x8,g9,g10,g11,g12,g13,g14,g15,g16,g17,g18,g19,g20,g21,g22,g23,g24,g25,g26,g27,g28] M K = K #[g0,g1,g2,g3,g4,g5,g6,g7,.int .i64 x8,g9,g10,g11,g12,.bool (x8 == 1),.bool (x8 == 1),g15,g16,g17,g18,g19,g20,g21,g22,g23,g24,g25,g26,g27,g28] M := by kernel_rfl
theorem c64_17 : P64 [1,1,0,1,0,1,1,1] = .cond (.tmp 13) (P64 [1,1,0,1,0,1,1,1,0]) (P64 [1,1,0,1,0,1,1,1,1]) := by kernel_rfl
theorem k64_18 : P64 [1,1,0,1,0,1,1,1,0] = .seq (P64 [1,1,0,1,0,1,1,1,0,0]) (P64 [1,1,0,1,0,1,1,1,0,1]) := by kernel_rfl
theorem k64_19 : P64 [1,1,0,1,0,1,1,1,0,0] = .region 6 (O64 [1,1,0,1,0,1,1,1,0,0]) false := by kernel_rfl
theorem r64_6 {x3 x4 x5 : Option Addr} {M : Mem} {call : CallM} {K : Array Value → Mem → R} :
    opsK Try.prog (fun _ => call) (O64 [1,1,0,1,0,1,1,1,0,0]) (O64 [1,1,0,1,0,1,1,1,0,0]).toList 0 #[g0,g1,g2,.pointer x3,.pointer x4,.pointer x5,g6,g7,g8,g9,g10,g11,g12,g13,g14,g15,g16,g17,g18,g19,g20,g21,g22,g23,g24,g25,g26,g27,g28] M K = (x4).bind fun a_1 => (M.put a_1.block a_1.off (.int .i64 16)).bind fun M_2 => (M_2.put a_1.block (a_1.off + 1) (.func (.func 71) #[] #[.pointer x5, .pointer x3])).bind fun M_3 => K #[g0,g1,g2,.pointer x3,.pointer x4,.pointer x5,g6,g7,g8,g9,g10,g11,g12,g13,g14,.func (.func 71) #[] #[.pointer x5, .pointer x3],.agg #[.int .i64 16, .func (.func 71) #[] #[.pointer x5, .pointer x3]],g17,g18,g19,g20,g21,g22,g23,g24,g25,g26,g27,g28] M_3 := by kernel_rfl
theorem k64_20 : P64 [1,1,0,1,0,1,1,1,0,1] = .ret := by kernel_rfl
theorem k64_21 : P64 [1,1,0,1,0,1,1,1,1] = .seq (P64 [1,1,0,1,0,1,1,1,1,0]) (P64 [1,1,0,1,0,1,1,1,1,1]) := by kernel_rfl
theorem k64_22 : P64 [1,1,0,1,0,1,1,1,1,0] = .region 7 (O64 [1,1,0,1,0,1,1,1,1,0]) false := by kernel_rfl
theorem r64_7 {x8 : Int} {M : Mem} {call : CallM} {K : Array Value → Mem → R} :
    opsK Try.prog (fun _ => call) (O64 [1,1,0,1,0,1,1,1,1,0]) (O64 [1,1,0,1,0,1,1,1,1,0]).toList 0 #[g0,g1,g2,g3,g4,g5,g6,g7,.int .i64 x8,g9,g10,g11,g12,g13,g14,g15,g16,g17,g18,g19,g20,g21,g22,g23,g24,g25,g26,g27,g28] M K = K #[g0,g1,g2,g3,g4,g5,g6,g7,.int .i64 x8,g9,g10,g11,g12,g13,g14,g15,g16,.bool (x8 == 2),.bool (x8 == 2),g19,g20,g21,g22,g23,g24,g25,g26,g27,g28] M := by kernel_rfl
theorem c64_23 : P64 [1,1,0,1,0,1,1,1,1,1] = .cond (.tmp 17) (P64 [1,1,0,1,0,1,1,1,1,1,0]) (P64 [1,1,0,1,0,1,1,1,1,1,1]) := by kernel_rfl
theorem k64_24 : P64 [1,1,0,1,0,1,1,1,1,1,0] = .seq (P64 [1,1,0,1,0,1,1,1,1,1,0,0]) (P64 [1,1,0,1,0,1,1,1,1,1,0,1]) := by kernel_rfl
theorem k64_25 : P64 [1,1,0,1,0,1,1,1,1,1,0,0] = .region 8 (O64 [1,1,0,1,0,1,1,1,1,1,0,0]) false := by kernel_rfl
theorem r64_8 {x3 : Option Addr} {M : Mem} {call : CallM} {K : Array Value → Mem → R} :
    opsK Try.prog (fun _ => call) (O64 [1,1,0,1,0,1,1,1,1,1,0,0]) (O64 [1,1,0,1,0,1,1,1,1,1,0,0]).toList 0 #[g0,g1,g2,.pointer x3,g4,g5,g6,g7,g8,g9,g10,g11,g12,g13,g14,g15,g16,g17,g18,g19,g20,g21,g22,g23,g24,g25,g26,g27,g28] M K = (mapPutV Try.prog 46 (.map (some (2 * M.nb.size))) (.int .i64 4) (.int .i64 5793) (M.new (.map #[] 0))).bind fun r_1 => (mapPutV Try.prog 46 (.map (some (2 * M.nb.size))) (.int .i64 8) (.int .i64 8192) r_1.2).bind fun r_2 => (mapPutV Try.prog 46 (.map (some (2 * M.nb.size))) (.int .i64 16) (.int .i64 11586) r_2.2).bind fun r_3 => (mapPutV Try.prog 46 (.map (some (2 * M.nb.size))) (.int .i64 32) (.int .i64 16384) r_3.2).bind fun r_4 => (x3).bind fun a_5 => (r_4.2.intAt .i64 a_5.block a_5.off).bind fun x_6 => (lookupV Try.prog 46 (.map (some (2 * M.nb.size))) (.int .i64 x_6) false r_4.2).bind fun r_7 => (asI .i64 r_7.1).bind fun x_8 => ((r_7.2.new (.cells #[.int .i64 0] 3)).put (2 * r_7.2.nb.size) 0 (.int .i64 x_8)).bind fun M_9 => K #[g0,g1,g2,.pointer x3,g4,g5,.pointer (some ⟨2 * r_7.2.nb.size, 0, none⟩),g7,g8,g9,g10,g11,g12,g13,g14,g15,g16,g17,g18,.map (some (2 * M.nb.size)),.map (some (2 * M.nb.size)),.int .i64 x_6,.int .i64 x_8,g23,g24,g25,g26,g27,g28] M_9 := by kernel_rfl
theorem k64_26 : P64 [1,1,0,1,0,1,1,1,1,1,0,1] = .seq (P64 [1,1,0,1,0,1,1,1,1,1,0,1,0]) (P64 [1,1,0,1,0,1,1,1,1,1,0,1,1]) := by kernel_rfl
theorem k64_27 : P64 [1,1,0,1,0,1,1,1,1,1,0,1,0] = .region 9 (O64 [1,1,0,1,0,1,1,1,1,1,0,1,0]) false := by kernel_rfl
theorem r64_9 {x4 x6 : Option Addr} {M : Mem} {call : CallM} {K : Array Value → Mem → R} :
    opsK Try.prog (fun _ => call) (O64 [1,1,0,1,0,1,1,1,1,1,0,1,0]) (O64 [1,1,0,1,0,1,1,1,1,1,0,1,0]).toList 0 #[g0,g1,g2,g3,.pointer x4,g5,.pointer x6,g7,g8,g9,g10,g11,g12,g13,g14,g15,g16,g17,g18,g19,g20,g21,g22,g23,g24,g25,g26,g27,g28] M K = (x4).bind fun a_1 => (M.put a_1.block a_1.off (.int .i64 32)).bind fun M_2 => (M_2.put a_1.block (a_1.off + 1) (.func (.func 72) #[] #[.pointer x6])).bind fun M_3 => K #[g0,g1,g2,g3,.pointer x4,g5,.pointer x6,g7,g8,g9,g10,g11,g12,g13,g14,g15,g16,g17,g18,g19,g20,g21,g22,.func (.func 72) #[] #[.pointer x6],.agg #[.int .i64 32, .func (.func 72) #[] #[.pointer x6]],g25,g26,g27,g28] M_3 := by kernel_rfl
theorem k64_28 : P64 [1,1,0,1,0,1,1,1,1,1,0,1,1] = .ret := by kernel_rfl
theorem k64_29 : P64 [1,1,0,1,0,1,1,1,1,1,1] = .seq (P64 [1,1,0,1,0,1,1,1,1,1,1,0]) (P64 [1,1,0,1,0,1,1,1,1,1,1,1]) := by kernel_rfl
theorem k64_30 : P64 [1,1,0,1,0,1,1,1,1,1,1,0] = .region 10 (O64 [1,1,0,1,0,1,1,1,1,1,1,0]) false := by kernel_rfl
theorem r64_10 {x8 : Int} {M : Mem} {call : CallM} {K : Array Value → Mem → R} :
    opsK Try.prog (fun _ => call) (O64 [1,1,0,1,0,1,1,1,1,1,1,0]) (O64 [1,1,0,1,0,1,1,1,1,1,1,0]).toList 0 #[g0,g1,g2,g3,g4,g5,g6,g7,.int .i64 x8,g9,g10,g11,g12,g13,g14,g15,g16,g17,g18,g19,g20,g21,g22,g23,g24,g25,g26,g27,g28] M K = K #[g0,g1,g2,g3,g4,g5,g6,g7,.int .i64 x8,g9,g10,g11,g12,g13,g14,g15,g16,g17,g18,g19,g20,g21,g22,g23,g24,.bool (x8 == 3),.bool (x8 == 3),g27,g28] M := by kernel_rfl
theorem c64_31 : P64 [1,1,0,1,0,1,1,1,1,1,1,1] = .cond (.tmp 25) (P64 [1,1,0,1,0,1,1,1,1,1,1,1,0]) (P64 [1,1,0,1,0,1,1,1,1,1,1,1,1]) := by kernel_rfl
theorem k64_32 : P64 [1,1,0,1,0,1,1,1,1,1,1,1,0] = .seq (P64 [1,1,0,1,0,1,1,1,1,1,1,1,0,0]) (P64 [1,1,0,1,0,1,1,1,1,1,1,1,0,1]) := by kernel_rfl
theorem k64_33 : P64 [1,1,0,1,0,1,1,1,1,1,1,1,0,0] = .region 11 (O64 [1,1,0,1,0,1,1,1,1,1,1,1,0,0]) false := by kernel_rfl
theorem r64_11 {x4 : Option Addr} {M : Mem} {call : CallM} {K : Array Value → Mem → R} :
    opsK Try.prog (fun _ => call) (O64 [1,1,0,1,0,1,1,1,1,1,1,1,0,0]) (O64 [1,1,0,1,0,1,1,1,1,1,1,1,0,0]).toList 0 #[g0,g1,g2,g3,.pointer x4,g5,g6,g7,g8,g9,g10,g11,g12,g13,g14,g15,g16,g17,g18,g19,g20,g21,g22,g23,g24,g25,g26,g27,g28] M K = (x4).bind fun a_1 => (M.put a_1.block a_1.off (.int .i64 4)).bind fun M_2 => (M_2.put a_1.block (a_1.off + 1) (.nilFunc)).bind fun M_3 => K #[g0,g1,g2,g3,.pointer x4,g5,g6,g7,g8,g9,g10,g11,g12,g13,g14,g15,g16,g17,g18,g19,g20,g21,g22,g23,g24,g25,g26,.agg #[.int .i64 4, .nilFunc],g28] M_3 := by kernel_rfl
theorem k64_34 : P64 [1,1,0,1,0,1,1,1,1,1,1,1,0,1] = .ret := by kernel_rfl
theorem k64_35 : P64 [1,1,0,1,0,1,1,1,1,1,1,1,1] = .skip := by kernel_rfl
theorem k64_36 : P64 [1,1,1] = .seq (P64 [1,1,1,0]) (P64 [1,1,1,1]) := by kernel_rfl
theorem k64_37 : P64 [1,1,1,0] = .region 12 (O64 [1,1,1,0]) false := by kernel_rfl
theorem r64_12 {x4 : Option Addr} {M : Mem} {call : CallM} {K : Array Value → Mem → R} :
    opsK Try.prog (fun _ => call) (O64 [1,1,1,0]) (O64 [1,1,1,0]).toList 0 #[g0,g1,g2,g3,.pointer x4,g5,g6,g7,g8,g9,g10,g11,g12,g13,g14,g15,g16,g17,g18,g19,g20,g21,g22,g23,g24,g25,g26,g27,g28] M K = (x4).bind fun a_1 => (M.put a_1.block a_1.off (.int .i64 0)).bind fun M_2 => (M_2.put a_1.block (a_1.off + 1) (.nilFunc)).bind fun M_3 => K #[g0,g1,g2,g3,.pointer x4,g5,g6,g7,g8,g9,g10,g11,g12,g13,g14,g15,g16,g17,g18,g19,g20,g21,g22,g23,g24,g25,g26,g27,.agg #[.int .i64 0, .nilFunc]] M_3 := by kernel_rfl
theorem k64_38 : P64 [1,1,1,1] = .ret := by kernel_rfl
theorem w64_0 {x0 x1 : Int} {M : Mem} {Q : Value → Mem → Prop} (H :
    Cn Try.prog 68 #[] ((M.new (.cells #[.int .i64 x1] 3)).new (.cells #[.int .i64 0, .nilFunc] 54)) fun v1' N1' =>
     ∃ cs2', asA 65 v1' = some cs2' ∧
     ∃ x3', asI .i16 (cs2'.getD 0 undef) = some x3' ∧
     ∃ x4', asI .i16 (cs2'.getD 1 undef) = some x4' ∧
     ∃ x5', asI .i16 (cs2'.getD 2 undef) = some x5' ∧
     ∃ x6', asI .i16 (cs2'.getD 3 undef) = some x6' ∧
     ∃ x7', asI .i16 (cs2'.getD 4 undef) = some x7' ∧
     ∃ x8', asI .i16 (cs2'.getD 5 undef) = some x8' ∧
     ∃ x9', asI .i16 (cs2'.getD 6 undef) = some x9' ∧
     ∃ x10', asI .i16 (cs2'.getD 7 undef) = some x10' ∧
     ∃ x11', asI .i16 (cs2'.getD 8 undef) = some x11' ∧
     ∃ x12', asI .i16 (cs2'.getD 9 undef) = some x12' ∧
     ∃ x13', asI .i16 (cs2'.getD 10 undef) = some x13' ∧
     ∃ x14', asI .i16 (cs2'.getD 11 undef) = some x14' ∧
     ∃ x15', asI .i16 (cs2'.getD 12 undef) = some x15' ∧
     ∃ x16', asI .i16 (cs2'.getD 13 undef) = some x16' ∧
     ∃ x17', asI .i16 (cs2'.getD 14 undef) = some x17' ∧
     ∃ x18', asI .i16 (cs2'.getD 15 undef) = some x18' ∧
     ∃ x19', asI .i16 (cs2'.getD 16 undef) = some x19' ∧
     ∃ x20', asI .i16 (cs2'.getD 17 undef) = some x20' ∧
     ∃ x21', asI .i16 (cs2'.getD 18 undef) = some x21' ∧
     ∃ x22', asI .i16 (cs2'.getD 19 undef) = some x22' ∧
     ∃ x23', asI .i16 (cs2'.getD 20 undef) = some x23' ∧
     ∃ x24', asI .i16 (cs2'.getD 21 undef) = some x24' ∧
     ∃ x25', asI .i16 (cs2'.getD 22 undef) = some x25' ∧
     ∃ x26', asI .i16 (cs2'.getD 23 undef) = some x26' ∧
     ∃ x27', asI .i16 (cs2'.getD 24 undef) = some x27' ∧
     ∃ x28', asI .i16 (cs2'.getD 25 undef) = some x28' ∧
     ∃ x29', asI .i16 (cs2'.getD 26 undef) = some x29' ∧
     ∃ x30', asI .i16 (cs2'.getD 27 undef) = some x30' ∧
     ∃ x31', asI .i16 (cs2'.getD 28 undef) = some x31' ∧
     ∃ x32', asI .i16 (cs2'.getD 29 undef) = some x32' ∧
     ∃ x33', asI .i16 (cs2'.getD 30 undef) = some x33' ∧
     ∃ x34', asI .i16 (cs2'.getD 31 undef) = some x34' ∧
     ∃ x35', asI .i16 (cs2'.getD 32 undef) = some x35' ∧
     ∃ x36', asI .i16 (cs2'.getD 33 undef) = some x36' ∧
     ∃ x37', asI .i16 (cs2'.getD 34 undef) = some x37' ∧
     ∃ x38', asI .i16 (cs2'.getD 35 undef) = some x38' ∧
     ∃ x39', asI .i16 (cs2'.getD 36 undef) = some x39' ∧
     ∃ x40', asI .i16 (cs2'.getD 37 undef) = some x40' ∧
     ∃ x41', asI .i16 (cs2'.getD 38 undef) = some x41' ∧
     ∃ x42', asI .i16 (cs2'.getD 39 undef) = some x42' ∧
     ∃ x43', asI .i16 (cs2'.getD 40 undef) = some x43' ∧
     ∃ x44', asI .i16 (cs2'.getD 41 undef) = some x44' ∧
     ∃ x45', asI .i16 (cs2'.getD 42 undef) = some x45' ∧
     ∃ x46', asI .i16 (cs2'.getD 43 undef) = some x46' ∧
     ∃ x47', asI .i16 (cs2'.getD 44 undef) = some x47' ∧
     ∃ x48', asI .i16 (cs2'.getD 45 undef) = some x48' ∧
     ∃ x49', asI .i16 (cs2'.getD 46 undef) = some x49' ∧
     ∃ x50', asI .i16 (cs2'.getD 47 undef) = some x50' ∧
     ∃ x51', asI .i16 (cs2'.getD 48 undef) = some x51' ∧
     ∃ x52', asI .i16 (cs2'.getD 49 undef) = some x52' ∧
     ∃ x53', asI .i16 (cs2'.getD 50 undef) = some x53' ∧
     ∃ x54', asI .i16 (cs2'.getD 51 undef) = some x54' ∧
     ∃ x55', asI .i16 (cs2'.getD 52 undef) = some x55' ∧
     ∃ x56', asI .i16 (cs2'.getD 53 undef) = some x56' ∧
     ∃ x57', asI .i16 (cs2'.getD 54 undef) = some x57' ∧
     ∃ x58', asI .i16 (cs2'.getD 55 undef) = some x58' ∧
     ∃ x59', asI .i16 (cs2'.getD 56 undef) = some x59' ∧
     ∃ x60', asI .i16 (cs2'.getD 57 undef) = some x60' ∧
     ∃ x61', asI .i16 (cs2'.getD 58 undef) = some x61' ∧
     ∃ x62', asI .i16 (cs2'.getD 59 undef) = some x62' ∧
     ∃ x63', asI .i16 (cs2'.getD 60 undef) = some x63' ∧
     ∃ x64', asI .i16 (cs2'.getD 61 undef) = some x64' ∧
     ∃ x65', asI .i16 (cs2'.getD 62 undef) = some x65' ∧
     ∃ x66', asI .i16 (cs2'.getD 63 undef) = some x66' ∧
     ∃ x67', asI .i16 (cs2'.getD 64 undef) = some x67' ∧
     ∃ M68', (N1'.new (.cells #[.int .i16 0, .int .i16 0, .int .i16 0, .int .i16 0, .int .i16 0, .int .i16 0, .int .i16 0, .int .i16 0, .int .i16 0, .int .i16 0, .int .i16 0, .int .i16 0, .int .i16 0, .int .i16 0, .int .i16 0, .int .i16 0, .int .i16 0, .int .i16 0, .int .i16 0, .int .i16 0, .int .i16 0, .int .i16 0, .int .i16 0, .int .i16 0, .int .i16 0, .int .i16 0, .int .i16 0, .int .i16 0, .int .i16 0, .int .i16 0, .int .i16 0, .int .i16 0, .int .i16 0, .int .i16 0, .int .i16 0, .int .i16 0, .int .i16 0, .int .i16 0, .int .i16 0, .int .i16 0, .int .i16 0, .int .i16 0, .int .i16 0, .int .i16 0, .int .i16 0, .int .i16 0, .int .i16 0, .int .i16 0, .int .i16 0, .int .i16 0, .int .i16 0, .int .i16 0, .int .i16 0, .int .i16 0, .int .i16 0, .int .i16 0, .int .i16 0, .int .i16 0, .int .i16 0, .int .i16 0, .int .i16 0, .int .i16 0, .int .i16 0, .int .i16 0, .int .i16 0] 65)).put (2 * N1'.nb.size) 0 (.int .i16 x3') = some M68' ∧
     ∃ M69', M68'.put (2 * N1'.nb.size) 1 (.int .i16 x4') = some M69' ∧
     ∃ M70', M69'.put (2 * N1'.nb.size) 2 (.int .i16 x5') = some M70' ∧
     ∃ M71', M70'.put (2 * N1'.nb.size) 3 (.int .i16 x6') = some M71' ∧
     ∃ M72', M71'.put (2 * N1'.nb.size) 4 (.int .i16 x7') = some M72' ∧
     ∃ M73', M72'.put (2 * N1'.nb.size) 5 (.int .i16 x8') = some M73' ∧
     ∃ M74', M73'.put (2 * N1'.nb.size) 6 (.int .i16 x9') = some M74' ∧
     ∃ M75', M74'.put (2 * N1'.nb.size) 7 (.int .i16 x10') = some M75' ∧
     ∃ M76', M75'.put (2 * N1'.nb.size) 8 (.int .i16 x11') = some M76' ∧
     ∃ M77', M76'.put (2 * N1'.nb.size) 9 (.int .i16 x12') = some M77' ∧
     ∃ M78', M77'.put (2 * N1'.nb.size) 10 (.int .i16 x13') = some M78' ∧
     ∃ M79', M78'.put (2 * N1'.nb.size) 11 (.int .i16 x14') = some M79' ∧
     ∃ M80', M79'.put (2 * N1'.nb.size) 12 (.int .i16 x15') = some M80' ∧
     ∃ M81', M80'.put (2 * N1'.nb.size) 13 (.int .i16 x16') = some M81' ∧
     ∃ M82', M81'.put (2 * N1'.nb.size) 14 (.int .i16 x17') = some M82' ∧
     ∃ M83', M82'.put (2 * N1'.nb.size) 15 (.int .i16 x18') = some M83' ∧
     ∃ M84', M83'.put (2 * N1'.nb.size) 16 (.int .i16 x19') = some M84' ∧
     ∃ M85', M84'.put (2 * N1'.nb.size) 17 (.int .i16 x20') = some M85' ∧
     ∃ M86', M85'.put (2 * N1'.nb.size) 18 (.int .i16 x21') = some M86' ∧
     ∃ M87', M86'.put (2 * N1'.nb.size) 19 (.int .i16 x22') = some M87' ∧
     ∃ M88', M87'.put (2 * N1'.nb.size) 20 (.int .i16 x23') = some M88' ∧
     ∃ M89', M88'.put (2 * N1'.nb.size) 21 (.int .i16 x24') = some M89' ∧
     ∃ M90', M89'.put (2 * N1'.nb.size) 22 (.int .i16 x25') = some M90' ∧
     ∃ M91', M90'.put (2 * N1'.nb.size) 23 (.int .i16 x26') = some M91' ∧
     ∃ M92', M91'.put (2 * N1'.nb.size) 24 (.int .i16 x27') = some M92' ∧
     ∃ M93', M92'.put (2 * N1'.nb.size) 25 (.int .i16 x28') = some M93' ∧
     ∃ M94', M93'.put (2 * N1'.nb.size) 26 (.int .i16 x29') = some M94' ∧
     ∃ M95', M94'.put (2 * N1'.nb.size) 27 (.int .i16 x30') = some M95' ∧
     ∃ M96', M95'.put (2 * N1'.nb.size) 28 (.int .i16 x31') = some M96' ∧
     ∃ M97', M96'.put (2 * N1'.nb.size) 29 (.int .i16 x32') = some M97' ∧
     ∃ M98', M97'.put (2 * N1'.nb.size) 30 (.int .i16 x33') = some M98' ∧
     ∃ M99', M98'.put (2 * N1'.nb.size) 31 (.int .i16 x34') = some M99' ∧
     ∃ M100', M99'.put (2 * N1'.nb.size) 32 (.int .i16 x35') = some M100' ∧
     ∃ M101', M100'.put (2 * N1'.nb.size) 33 (.int .i16 x36') = some M101' ∧
     ∃ M102', M101'.put (2 * N1'.nb.size) 34 (.int .i16 x37') = some M102' ∧
     ∃ M103', M102'.put (2 * N1'.nb.size) 35 (.int .i16 x38') = some M103' ∧
     ∃ M104', M103'.put (2 * N1'.nb.size) 36 (.int .i16 x39') = some M104' ∧
     ∃ M105', M104'.put (2 * N1'.nb.size) 37 (.int .i16 x40') = some M105' ∧
     ∃ M106', M105'.put (2 * N1'.nb.size) 38 (.int .i16 x41') = some M106' ∧
     ∃ M107', M106'.put (2 * N1'.nb.size) 39 (.int .i16 x42') = some M107' ∧
     ∃ M108', M107'.put (2 * N1'.nb.size) 40 (.int .i16 x43') = some M108' ∧
     ∃ M109', M108'.put (2 * N1'.nb.size) 41 (.int .i16 x44') = some M109' ∧
     ∃ M110', M109'.put (2 * N1'.nb.size) 42 (.int .i16 x45') = some M110' ∧
     ∃ M111', M110'.put (2 * N1'.nb.size) 43 (.int .i16 x46') = some M111' ∧
     ∃ M112', M111'.put (2 * N1'.nb.size) 44 (.int .i16 x47') = some M112' ∧
     ∃ M113', M112'.put (2 * N1'.nb.size) 45 (.int .i16 x48') = some M113' ∧
     ∃ M114', M113'.put (2 * N1'.nb.size) 46 (.int .i16 x49') = some M114' ∧
     ∃ M115', M114'.put (2 * N1'.nb.size) 47 (.int .i16 x50') = some M115' ∧
     ∃ M116', M115'.put (2 * N1'.nb.size) 48 (.int .i16 x51') = some M116' ∧
     ∃ M117', M116'.put (2 * N1'.nb.size) 49 (.int .i16 x52') = some M117' ∧
     ∃ M118', M117'.put (2 * N1'.nb.size) 50 (.int .i16 x53') = some M118' ∧
     ∃ M119', M118'.put (2 * N1'.nb.size) 51 (.int .i16 x54') = some M119' ∧
     ∃ M120', M119'.put (2 * N1'.nb.size) 52 (.int .i16 x55') = some M120' ∧
     ∃ M121', M120'.put (2 * N1'.nb.size) 53 (.int .i16 x56') = some M121' ∧
     ∃ M122', M121'.put (2 * N1'.nb.size) 54 (.int .i16 x57') = some M122' ∧
     ∃ M123', M122'.put (2 * N1'.nb.size) 55 (.int .i16 x58') = some M123' ∧
     ∃ M124', M123'.put (2 * N1'.nb.size) 56 (.int .i16 x59') = some M124' ∧
     ∃ M125', M124'.put (2 * N1'.nb.size) 57 (.int .i16 x60') = some M125' ∧
     ∃ M126', M125'.put (2 * N1'.nb.size) 58 (.int .i16 x61') = some M126' ∧
     ∃ M127', M126'.put (2 * N1'.nb.size) 59 (.int .i16 x62') = some M127' ∧
     ∃ M128', M127'.put (2 * N1'.nb.size) 60 (.int .i16 x63') = some M128' ∧
     ∃ M129', M128'.put (2 * N1'.nb.size) 61 (.int .i16 x64') = some M129' ∧
     ∃ M130', M129'.put (2 * N1'.nb.size) 62 (.int .i16 x65') = some M130' ∧
     ∃ M131', M130'.put (2 * N1'.nb.size) 63 (.int .i16 x66') = some M131' ∧
     ∃ M132', M131'.put (2 * N1'.nb.size) 64 (.int .i16 x67') = some M132' ∧
     ((x0 = 0 →
      ∃ M133', M132'.put (2 * (M.new (.cells #[.int .i64 x1] 3)).nb.size) 0 (.int .i64 64) = some M133' ∧
      ∃ M134', M133'.put (2 * (M.new (.cells #[.int .i64 x1] 3)).nb.size) (0 + 1) (.func (.func 69) #[] #[.pointer (some ⟨2 * N1'.nb.size, 0, none⟩), .pointer (some ⟨2 * M.nb.size, 0, none⟩)]) = some M134' ∧
      ∃ x135', M134'.intAt .i64 (2 * (M.new (.cells #[.int .i64 x1] 3)).nb.size) 0 = some x135' ∧
      ∃ v136', M134'.cell (2 * (M.new (.cells #[.int .i64 x1] 3)).nb.size) (0 + 1) = some v136' ∧
      Q (.agg #[.int .i64 (x135'), v136']) M134') ∧
      (x0 ≠ 0 →
      ((x0 = 1 →
       ∃ M137', M132'.put (2 * (M.new (.cells #[.int .i64 x1] 3)).nb.size) 0 (.int .i64 16) = some M137' ∧
       ∃ M138', M137'.put (2 * (M.new (.cells #[.int .i64 x1] 3)).nb.size) (0 + 1) (.func (.func 71) #[] #[.pointer (some ⟨2 * N1'.nb.size, 0, none⟩), .pointer (some ⟨2 * M.nb.size, 0, none⟩)]) = some M138' ∧
       ∃ x139', M138'.intAt .i64 (2 * (M.new (.cells #[.int .i64 x1] 3)).nb.size) 0 = some x139' ∧
       ∃ v140', M138'.cell (2 * (M.new (.cells #[.int .i64 x1] 3)).nb.size) (0 + 1) = some v140' ∧
       Q (.agg #[.int .i64 (x139'), v140']) M138') ∧
       (x0 ≠ 1 →
       ((x0 = 2 →
        ∃ r141', mapPutV Try.prog 46 (.map (some (2 * M132'.nb.size))) (.int .i64 4) (.int .i64 5793) (M132'.new (.map #[] 0)) = some r141' ∧
        ∃ r142', mapPutV Try.prog 46 (.map (some (2 * M132'.nb.size))) (.int .i64 8) (.int .i64 8192) r141'.2 = some r142' ∧
        ∃ r143', mapPutV Try.prog 46 (.map (some (2 * M132'.nb.size))) (.int .i64 16) (.int .i64 11586) r142'.2 = some r143' ∧
        ∃ r144', mapPutV Try.prog 46 (.map (some (2 * M132'.nb.size))) (.int .i64 32) (.int .i64 16384) r143'.2 = some r144' ∧
        ∃ x145', r144'.2.intAt .i64 (2 * M.nb.size) 0 = some x145' ∧
        ∃ r146', lookupV Try.prog 46 (.map (some (2 * M132'.nb.size))) (.int .i64 x145') false r144'.2 = some r146' ∧
        ∃ x147', asI .i64 r146'.1 = some x147' ∧
        ∃ M148', (r146'.2.new (.cells #[.int .i64 0] 3)).put (2 * r146'.2.nb.size) 0 (.int .i64 x147') = some M148' ∧
        ∃ M149', M148'.put (2 * (M.new (.cells #[.int .i64 x1] 3)).nb.size) 0 (.int .i64 32) = some M149' ∧
        ∃ M150', M149'.put (2 * (M.new (.cells #[.int .i64 x1] 3)).nb.size) (0 + 1) (.func (.func 72) #[] #[.pointer (some ⟨2 * r146'.2.nb.size, 0, none⟩)]) = some M150' ∧
        ∃ x151', M150'.intAt .i64 (2 * (M.new (.cells #[.int .i64 x1] 3)).nb.size) 0 = some x151' ∧
        ∃ v152', M150'.cell (2 * (M.new (.cells #[.int .i64 x1] 3)).nb.size) (0 + 1) = some v152' ∧
        Q (.agg #[.int .i64 (x151'), v152']) M150') ∧
        (x0 ≠ 2 →
        ((x0 = 3 →
         ∃ M153', M132'.put (2 * (M.new (.cells #[.int .i64 x1] 3)).nb.size) 0 (.int .i64 4) = some M153' ∧
         ∃ M154', M153'.put (2 * (M.new (.cells #[.int .i64 x1] 3)).nb.size) (0 + 1) (.nilFunc) = some M154' ∧
         ∃ x155', M154'.intAt .i64 (2 * (M.new (.cells #[.int .i64 x1] 3)).nb.size) 0 = some x155' ∧
         ∃ v156', M154'.cell (2 * (M.new (.cells #[.int .i64 x1] 3)).nb.size) (0 + 1) = some v156' ∧
         Q (.agg #[.int .i64 (x155'), v156']) M154') ∧
         (x0 ≠ 3 →
         ∃ M157', M132'.put (2 * (M.new (.cells #[.int .i64 x1] 3)).nb.size) 0 (.int .i64 0) = some M157' ∧
         ∃ M158', M157'.put (2 * (M.new (.cells #[.int .i64 x1] 3)).nb.size) (0 + 1) (.nilFunc) = some M158' ∧
         ∃ x159', M158'.intAt .i64 (2 * (M.new (.cells #[.int .i64 x1] 3)).nb.size) 0 = some x159' ∧
         ∃ v160', M158'.cell (2 * (M.new (.cells #[.int .i64 x1] 3)).nb.size) (0 + 1) = some v160' ∧
         Q (.agg #[.int .i64 (x159'), v160']) M158'))))))))) :
    Cn Try.prog 64 #[.int .i64 x0, .int .i64 x1] M Q := by
  refine Cn.of b64 d64 t64 ?_
  refine Rn.seq k64_0 (Rn.region k64_1 (fun call K => r64_0) (Rch.leaf (Rn.seq k64_2 (Rn.region k64_3 (fun call K => r64_1) (Rch.call H fun v1' N1' H => Rch.ex H fun cs2' H => Rch.ex H fun x3' H => Rch.ex H fun x4' H => Rch.ex H fun x5' H => Rch.ex H fun x6' H => Rch.ex H fun x7' H => ?_)))))
  refine Rch.ex H fun x8' H => Rch.ex H fun x9' H => Rch.ex H fun x10' H => Rch.ex H fun x11' H => Rch.ex H fun x12' H => Rch.ex H fun x13' H => Rch.ex H fun x14' H => Rch.ex H fun x15' H => Rch.ex H fun x16' H => Rch.ex H fun x17' H => Rch.ex H fun x18' H => Rch.ex H fun x19' H => ?_
  refine Rch.ex H fun x20' H => Rch.ex H fun x21' H => Rch.ex H fun x22' H => Rch.ex H fun x23' H => Rch.ex H fun x24' H => Rch.ex H fun x25' H => Rch.ex H fun x26' H => Rch.ex H fun x27' H => Rch.ex H fun x28' H => Rch.ex H fun x29' H => Rch.ex H fun x30' H => Rch.ex H fun x31' H => ?_
  refine Rch.ex H fun x32' H => Rch.ex H fun x33' H => Rch.ex H fun x34' H => Rch.ex H fun x35' H => Rch.ex H fun x36' H => Rch.ex H fun x37' H => Rch.ex H fun x38' H => Rch.ex H fun x39' H => Rch.ex H fun x40' H => Rch.ex H fun x41' H => Rch.ex H fun x42' H => Rch.ex H fun x43' H => ?_
  refine Rch.ex H fun x44' H => Rch.ex H fun x45' H => Rch.ex H fun x46' H => Rch.ex H fun x47' H => Rch.ex H fun x48' H => Rch.ex H fun x49' H => Rch.ex H fun x50' H => Rch.ex H fun x51' H => Rch.ex H fun x52' H => Rch.ex H fun x53' H => Rch.ex H fun x54' H => Rch.ex H fun x55' H => ?_
  refine Rch.ex H fun x56' H => Rch.ex H fun x57' H => Rch.ex H fun x58' H => Rch.ex H fun x59' H => Rch.ex H fun x60' H => Rch.ex H fun x61' H => Rch.ex H fun x62' H => Rch.ex H fun x63' H => Rch.ex H fun x64' H => Rch.ex H fun x65' H => Rch.ex H fun x66' H => Rch.ex H fun x67' H => ?_
  refine Rch.ex H fun M68' H => Rch.ex H fun M69' H => Rch.ex H fun M70' H => Rch.ex H fun M71' H => Rch.ex H fun M72' H => Rch.ex H fun M73' H => Rch.ex H fun M74' H => Rch.ex H fun M75' H => Rch.ex H fun M76' H => Rch.ex H fun M77' H => Rch.ex H fun M78' H => Rch.ex H fun M79' H => ?_
  refine Rch.ex H fun M80' H => Rch.ex H fun M81' H => Rch.ex H fun M82' H => Rch.ex H fun M83' H => Rch.ex H fun M84' H => Rch.ex H fun M85' H => Rch.ex H fun M86' H => Rch.ex H fun M87' H => Rch.ex H fun M88' H => Rch.ex H fun M89' H => Rch.ex H fun M90' H => Rch.ex H fun M91' H => ?_
  refine Rch.ex H fun M92' H => Rch.ex H fun M93' H => Rch.ex H fun M94' H => Rch.ex H fun M95' H => Rch.ex H fun M96' H => Rch.ex H fun M97' H => Rch.ex H fun M98' H => Rch.ex H fun M99' H => Rch.ex H fun M100' H => Rch.ex H fun M101' H => Rch.ex H fun M102' H => Rch.ex H fun M103' H => ?_
  refine Rch.ex H fun M104' H => Rch.ex H fun M105' H => Rch.ex H fun M106' H => Rch.ex H fun M107' H => Rch.ex H fun M108' H => Rch.ex H fun M109' H => Rch.ex H fun M110' H => Rch.ex H fun M111' H => Rch.ex H fun M112' H => Rch.ex H fun M113' H => Rch.ex H fun M114' H => Rch.ex H fun M115' H => ?_
  refine Rch.ex H fun M116' H => Rch.ex H fun M117' H => Rch.ex H fun M118' H => Rch.ex H fun M119' H => Rch.ex H fun M120' H => Rch.ex H fun M121' H => Rch.ex H fun M122' H => Rch.ex H fun M123' H => Rch.ex H fun M124' H => Rch.ex H fun M125' H => Rch.ex H fun M126' H => Rch.ex H fun M127' H => ?_
  refine Rch.ex H fun M128' H => Rch.ex H fun M129' H => Rch.ex H fun M130' H => Rch.ex H fun M131' H => Rch.ex H fun M132' H => Rch.leaf (Rn.seq k64_4 (Rn.seq k64_5 (Rn.region k64_6 (fun call K => r64_2) (Rch.leaf (Rn.block k64_7 (Rn.seq k64_8 ?_))))))
  refine Rn.region k64_9 (fun call K => r64_3) (Rch.leaf ?_)
  refine Rn.cnd (v := x0 == 0) ⟨c64_10, rfl, by kernel_rfl⟩ (fun h => ?_) (fun h => ?_)
  · replace H := H.1 (eq_of_beq h)
    refine Rn.seq k64_11 (Rn.region k64_12 (fun call K => r64_4) (Rch.bind (x := ⟨2 * (M.new (.cells #[.int .i64 x1] 3)).nb.size, 0, none⟩) rfl (Rch.ex H fun M133' H => Rch.ex H fun M134' H => Rch.leaf (Rn.retK k64_13 (fun K => e64_0) (Rch.bind (x := ⟨2 * (M.new (.cells #[.int .i64 x1] 3)).nb.size, 0, none⟩) rfl (Rch.ex H fun x135' H => Rch.ex H fun v136' H => ?_))))))
    exact Rch.fin H
  · replace H := H.2 (ne_of_beq_false h)
    refine Rn.seq k64_15 (Rn.region k64_16 (fun call K => r64_5) (Rch.leaf ?_))
    refine Rn.cnd (v := x0 == 1) ⟨c64_17, rfl, by kernel_rfl⟩ (fun h => ?_) (fun h => ?_)
    · replace H := H.1 (eq_of_beq h)
      refine Rn.seq k64_18 (Rn.region k64_19 (fun call K => r64_6) (Rch.bind (x := ⟨2 * (M.new (.cells #[.int .i64 x1] 3)).nb.size, 0, none⟩) rfl (Rch.ex H fun M137' H => Rch.ex H fun M138' H => Rch.leaf (Rn.retK k64_20 (fun K => e64_0) (Rch.bind (x := ⟨2 * (M.new (.cells #[.int .i64 x1] 3)).nb.size, 0, none⟩) rfl (Rch.ex H fun x139' H => Rch.ex H fun v140' H => ?_))))))
      exact Rch.fin H
    · replace H := H.2 (ne_of_beq_false h)
      refine Rn.seq k64_21 (Rn.region k64_22 (fun call K => r64_7) (Rch.leaf ?_))
      refine Rn.cnd (v := x0 == 2) ⟨c64_23, rfl, by kernel_rfl⟩ (fun h => ?_) (fun h => ?_)
      · replace H := H.1 (eq_of_beq h)
        refine Rn.seq k64_24 (Rn.region k64_25 (fun call K => r64_8) (Rch.ex H fun r141' H => Rch.ex H fun r142' H => Rch.ex H fun r143' H => Rch.ex H fun r144' H => Rch.bind (x := ⟨2 * M.nb.size, 0, none⟩) rfl (Rch.ex H fun x145' H => Rch.ex H fun r146' H => Rch.ex H fun x147' H => Rch.ex H fun M148' H => Rch.leaf ?_)))
        refine Rn.seq k64_26 (Rn.region k64_27 (fun call K => r64_9) (Rch.bind (x := ⟨2 * (M.new (.cells #[.int .i64 x1] 3)).nb.size, 0, none⟩) rfl (Rch.ex H fun M149' H => Rch.ex H fun M150' H => Rch.leaf (Rn.retK k64_28 (fun K => e64_0) (Rch.bind (x := ⟨2 * (M.new (.cells #[.int .i64 x1] 3)).nb.size, 0, none⟩) rfl (Rch.ex H fun x151' H => Rch.ex H fun v152' H => ?_))))))
        exact Rch.fin H
      · replace H := H.2 (ne_of_beq_false h)
        refine Rn.seq k64_29 (Rn.region k64_30 (fun call K => r64_10) (Rch.leaf ?_))
        refine Rn.cnd (v := x0 == 3) ⟨c64_31, rfl, by kernel_rfl⟩ (fun h => ?_) (fun h => ?_)
        · replace H := H.1 (eq_of_beq h)
          refine Rn.seq k64_32 (Rn.region k64_33 (fun call K => r64_11) (Rch.bind (x := ⟨2 * (M.new (.cells #[.int .i64 x1] 3)).nb.size, 0, none⟩) rfl (Rch.ex H fun M153' H => Rch.ex H fun M154' H => Rch.leaf (Rn.retK k64_34 (fun K => e64_0) (Rch.bind (x := ⟨2 * (M.new (.cells #[.int .i64 x1] 3)).nb.size, 0, none⟩) rfl (Rch.ex H fun x155' H => Rch.ex H fun v156' H => ?_))))))
          exact Rch.fin H
        · replace H := H.2 (ne_of_beq_false h)
          refine Rn.skip k64_35 (Rn.blk (Rn.seq k64_36 (Rn.region k64_37 (fun call K => r64_12) (Rch.bind (x := ⟨2 * (M.new (.cells #[.int .i64 x1] 3)).nb.size, 0, none⟩) rfl (Rch.ex H fun M157' H => Rch.ex H fun M158' H => Rch.leaf (Rn.retK k64_38 (fun K => e64_0) (Rch.bind (x := ⟨2 * (M.new (.cells #[.int .i64 x1] 3)).nb.size, 0, none⟩) rfl (Rch.ex H fun x159' H => Rch.ex H fun v160' H => ?_))))))))
          exact Rch.fin H


/-! ### zoetrope/basis.kinds$1: function 69 -/
noncomputable abbrev P69 (p : List Nat) : Code := subC (codeOf Try.f69) p
noncomputable abbrev O69 (p : List Nat) : Array Oper := opsOf (subC (codeOf Try.f69) p)
theorem b69 : Try.prog.funcs[69]? = some Try.f69 ∧ (Orc.tab Try.prog).lookup 69 = none := ⟨by kernel_rfl, by kernel_rfl⟩
theorem d69 : Try.f69.body = some (P69 []) := by kernel_rfl
theorem t69 {x0 x1 : Int} {x2 x3 : Option Addr} : #[.int .i64 x0,.int .i64 x1,.pointer x2,.pointer x3] ++ Array.replicate (Try.f69.ntmps - (#[.int .i64 x0,.int .i64 x1,.pointer x2,.pointer x3] : Array Value).size) undef = #[.int .i64 x0,.int .i64 x1,.pointer x2,.pointer x3,undef,undef,undef,undef,undef,undef,undef,undef,undef,undef,undef,undef,undef,undef,undef] := by kernel_rfl
theorem k69_0 : P69 [] = .seq (P69 [0]) (P69 [1]) := by kernel_rfl
theorem k69_1 : P69 [0] = .region 0 (O69 [0]) false := by kernel_rfl
theorem r69_0 {M : Mem} {call : CallM} {K : Array Value → Mem → R} :
    opsK Try.prog (fun _ => call) (O69 [0]) (O69 [0]).toList 0 #[g0,g1,g2,g3,g4,g5,g6,g7,g8,g9,g10,g11,g12,g13,g14,g15,g16,g17,g18] M K = K #[g0,g1,g2,g3,g4,g5,.int .i64 0,g7,g8,g9,g10,g11,g12,g13,g14,g15,g16,g17,g18] M := by kernel_rfl
theorem k69_2 : P69 [1] = .seq (P69 [1,0]) (P69 [1,1]) := by kernel_rfl
theorem k69_3 : P69 [1,0] = .seq (P69 [1,0,0]) (P69 [1,0,1]) := by kernel_rfl
theorem k69_4 : P69 [1,0,0] = .region 1 (O69 [1,0,0]) false := by kernel_rfl
theorem r69_1 {x0 : Int} {M : Mem} {call : CallM} {K : Array Value → Mem → R} :
    opsK Try.prog (fun _ => call) (O69 [1,0,0]) (O69 [1,0,0]).toList 0 #[.int .i64 x0,g1,g2,g3,g4,g5,g6,g7,g8,g9,g10,g11,g12,g13,g14,g15,g16,g17,g18] M K = K #[.int .i64 x0,g1,g2,g3,g4,g5,g6,.int .i64 x0,.bool (x0 == 0),g9,g10,g11,g12,g13,g14,g15,g16,g17,g18] M := by kernel_rfl
theorem c69_5 : P69 [1,0,1] = .cond (.tmp 8) (P69 [1,0,1,0]) (P69 [1,0,1,1]) := by kernel_rfl
theorem k69_6 : P69 [1,0,1,0] = .seq (P69 [1,0,1,0,0]) (P69 [1,0,1,0,1]) := by kernel_rfl
theorem k69_7 : P69 [1,0,1,0,0] = .region 2 (O69 [1,0,1,0,0]) false := by kernel_rfl
theorem r69_2 {x2 : Option Addr} {M : Mem} {call : CallM} {K : Array Value → Mem → R} :
    opsK Try.prog (fun _ => call) (O69 [1,0,1,0,0]) (O69 [1,0,1,0,0]).toList 0 #[g0,g1,.pointer x2,g3,g4,g5,g6,g7,g8,g9,g10,g11,g12,g13,g14,g15,g16,g17,g18] M K = (call 70 #[.pointer x2, .int .i64 32] M).bind fun r_1 => (asI .i64 r_1.1).bind fun x_2 => K #[g0,g1,.pointer x2,g3,g4,g5,.int .i64 x_2,g7,g8,.int .i64 x_2,g10,g11,g12,g13,g14,g15,g16,g17,g18] r_1.2 := by kernel_rfl
theorem k69_8 : P69 [1,0,1,0,1] = .ret := by kernel_rfl
theorem e69 {M : Mem} : finish Try.prog Try.f69 #[g0,g1,g2,g3,g4,g5,g6,g7,g8,g9,g10,g11,g12,g13,g14,g15,g16,g17,g18] M = some (g6, M) := by kernel_rfl
theorem k69_10 : P69 [1,0,1,1] = .skip := by kernel_rfl
theorem k69_11 : P69 [1,1] = .seq (P69 [1,1,0]) (P69 [1,1,1]) := by kernel_rfl
theorem k69_12 : P69 [1,1,0] = .region 3 (O69 [1,1,0]) false := by kernel_rfl
theorem r69_3 {x0 x1 : Int} {x2 x3 : Option Addr} {M : Mem} {call : CallM} {K : Array Value → Mem → R} :
    opsK Try.prog (fun _ => call) (O69 [1,1,0]) (O69 [1,1,0]).toList 0 #[.int .i64 x0,.int .i64 x1,.pointer x2,.pointer x3,g4,g5,g6,g7,g8,g9,g10,g11,g12,g13,g14,g15,g16,g17,g18] M K = (x3).bind fun a_1 => (M.intAt .i64 a_1.block a_1.off).bind fun x_2 => (binV Try.prog .quo 3 3 (.int .i64 (IntKind.i64.wrap ((IntKind.i64.wrap ((IntKind.i64.wrap ((IntKind.i64.wrap (2 * x1)) + 1)) * x0)) * 64))) (.int .i64 x_2)).bind fun v_3 => (asI .i64 v_3).bind fun x_4 => (call 70 #[.pointer x2, .int .i64 x_4] M).bind fun r_5 => (asI .i64 r_5.1).bind fun x_6 => K #[.int .i64 x0,.int .i64 x1,.pointer x2,.pointer x3,g4,g5,.int .i64 x_6,g7,g8,g9,.int .i64 x1,.int .i64 (IntKind.i64.wrap (2 * x1)),.int .i64 (IntKind.i64.wrap ((IntKind.i64.wrap (2 * x1)) + 1)),.int .i64 x0,.int .i64 (IntKind.i64.wrap ((IntKind.i64.wrap ((IntKind.i64.wrap (2 * x1)) + 1)) * x0)),.int .i64 (IntKind.i64.wrap ((IntKind.i64.wrap ((IntKind.i64.wrap ((IntKind.i64.wrap (2 * x1)) + 1)) * x0)) * 64)),.int .i64 x_2,.int .i64 x_4,.int .i64 x_6] r_5.2 := by kernel_rfl
theorem k69_13 : P69 [1,1,1] = .ret := by kernel_rfl
theorem w69_0 {x0 x1 : Int} {x2 x3 : Option Addr} {M : Mem} {Q : Value → Mem → Prop} (H :
    ((x0 = 0 →
     Cn Try.prog 70 #[.pointer x2, .int .i64 32] M fun v1' N1' =>
      ∃ x2', asI .i64 v1' = some x2' ∧
      Q (.int .i64 (x2')) N1') ∧
     (x0 ≠ 0 →
     ∃ a3', x3 = some a3' ∧
     ∃ x4', M.intAt .i64 a3'.block a3'.off = some x4' ∧
     ∃ v5', binV Try.prog .quo 3 3 (.int .i64 (IntKind.i64.wrap ((IntKind.i64.wrap ((IntKind.i64.wrap ((IntKind.i64.wrap (2 * x1)) + 1)) * x0)) * 64))) (.int .i64 x4') = some v5' ∧
     ∃ x6', asI .i64 v5' = some x6' ∧
     Cn Try.prog 70 #[.pointer x2, .int .i64 x6'] M fun v7' N7' =>
      ∃ x8', asI .i64 v7' = some x8' ∧
      Q (.int .i64 (x8')) N7'))) :
    Cn Try.prog 69 #[.int .i64 x0, .int .i64 x1, .pointer x2, .pointer x3] M Q := by
  refine Cn.of b69 d69 t69 ?_
  refine Rn.seq k69_0 (Rn.region k69_1 (fun call K => r69_0) (Rch.leaf (Rn.seq k69_2 (Rn.seq k69_3 (Rn.region k69_4 (fun call K => r69_1) (Rch.leaf ?_))))))
  refine Rn.cnd (v := x0 == 0) ⟨c69_5, rfl, by kernel_rfl⟩ (fun h => ?_) (fun h => ?_)
  · replace H := H.1 (eq_of_beq h)
    refine Rn.seq k69_6 (Rn.region k69_7 (fun call K => r69_2) (Rch.call H fun v1' N1' H => Rch.ex H fun x2' H => Rch.leaf ?_))
    exact Rn.ret k69_8 e69 H
  · replace H := H.2 (ne_of_beq_false h)
    refine Rn.skip k69_10 (Rn.seq k69_11 (Rn.region k69_12 (fun call K => r69_3) (Rch.ex H fun a3' H => Rch.ex H fun x4' H => Rch.ex H fun v5' H => Rch.ex H fun x6' H => Rch.call H fun v7' N7' H => Rch.ex H fun x8' H => Rch.leaf ?_)))
    exact Rn.ret k69_13 e69 H


/-! ### zoetrope/basis.kinds$2: function 71 -/
noncomputable abbrev P71 (p : List Nat) : Code := subC (codeOf Try.f71) p
noncomputable abbrev O71 (p : List Nat) : Array Oper := opsOf (subC (codeOf Try.f71) p)
theorem b71 : Try.prog.funcs[71]? = some Try.f71 ∧ (Orc.tab Try.prog).lookup 71 = none := ⟨by kernel_rfl, by kernel_rfl⟩
theorem d71 : Try.f71.body = some (P71 []) := by kernel_rfl
theorem t71 {x0 x1 : Int} {x2 x3 : Option Addr} : #[.int .i64 x0,.int .i64 x1,.pointer x2,.pointer x3] ++ Array.replicate (Try.f71.ntmps - (#[.int .i64 x0,.int .i64 x1,.pointer x2,.pointer x3] : Array Value).size) undef = #[.int .i64 x0,.int .i64 x1,.pointer x2,.pointer x3,undef,undef,undef,undef,undef,undef,undef,undef,undef,undef,undef,undef,undef,undef,undef] := by kernel_rfl
theorem k71_0 : P71 [] = .seq (P71 [0]) (P71 [1]) := by kernel_rfl
theorem k71_1 : P71 [0] = .region 0 (O71 [0]) false := by kernel_rfl
theorem r71_0 {M : Mem} {call : CallM} {K : Array Value → Mem → R} :
    opsK Try.prog (fun _ => call) (O71 [0]) (O71 [0]).toList 0 #[g0,g1,g2,g3,g4,g5,g6,g7,g8,g9,g10,g11,g12,g13,g14,g15,g16,g17,g18] M K = K #[g0,g1,g2,g3,g4,g5,.int .i64 0,g7,g8,g9,g10,g11,g12,g13,g14,g15,g16,g17,g18] M := by kernel_rfl
theorem k71_2 : P71 [1] = .seq (P71 [1,0]) (P71 [1,1]) := by kernel_rfl
theorem k71_3 : P71 [1,0] = .region 1 (O71 [1,0]) false := by kernel_rfl
theorem r71_1 {x0 x1 : Int} {x2 x3 : Option Addr} {M : Mem} {call : CallM} {K : Array Value → Mem → R} :
    opsK Try.prog (fun _ => call) (O71 [1,0]) (O71 [1,0]).toList 0 #[.int .i64 x0,.int .i64 x1,.pointer x2,.pointer x3,g4,g5,g6,g7,g8,g9,g10,g11,g12,g13,g14,g15,g16,g17,g18] M K = (x3).bind fun a_1 => (M.intAt .i64 a_1.block a_1.off).bind fun x_2 => (binV Try.prog .quo 3 3 (.int .i64 (IntKind.i64.wrap ((IntKind.i64.wrap ((IntKind.i64.wrap ((IntKind.i64.wrap (2 * x1)) + 1)) * (IntKind.i64.wrap ((IntKind.i64.wrap (2 * x0)) + 1)))) * 32))) (.int .i64 x_2)).bind fun v_3 => (asI .i64 v_3).bind fun x_4 => (call 70 #[.pointer x2, .int .i64 (IntKind.i64.wrap (64 - x_4))] M).bind fun r_5 => (asI .i64 r_5.1).bind fun x_6 => K #[.int .i64 x0,.int .i64 x1,.pointer x2,.pointer x3,g4,g5,.int .i64 x_6,.int .i64 x1,.int .i64 (IntKind.i64.wrap (2 * x1)),.int .i64 (IntKind.i64.wrap ((IntKind.i64.wrap (2 * x1)) + 1)),.int .i64 x0,.int .i64 (IntKind.i64.wrap (2 * x0)),.int .i64 (IntKind.i64.wrap ((IntKind.i64.wrap (2 * x0)) + 1)),.int .i64 (IntKind.i64.wrap ((IntKind.i64.wrap ((IntKind.i64.wrap (2 * x1)) + 1)) * (IntKind.i64.wrap ((IntKind.i64.wrap (2 * x0)) + 1)))),.int .i64 (IntKind.i64.wrap ((IntKind.i64.wrap ((IntKind.i64.wrap ((IntKind.i64.wrap (2 * x1)) + 1)) * (IntKind.i64.wrap ((IntKind.i64.wrap (2 * x0)) + 1)))) * 32)),.int .i64 x_2,.int .i64 x_4,.int .i64 (IntKind.i64.wrap (64 - x_4)),.int .i64 x_6] r_5.2 := by kernel_rfl
theorem k71_4 : P71 [1,1] = .ret := by kernel_rfl
theorem e71 {M : Mem} : finish Try.prog Try.f71 #[g0,g1,g2,g3,g4,g5,g6,g7,g8,g9,g10,g11,g12,g13,g14,g15,g16,g17,g18] M = some (g6, M) := by kernel_rfl
theorem w71_0 {x0 x1 : Int} {x2 x3 : Option Addr} {M : Mem} {Q : Value → Mem → Prop} (H :
    ∃ a1', x3 = some a1' ∧
    ∃ x2', M.intAt .i64 a1'.block a1'.off = some x2' ∧
    ∃ v3', binV Try.prog .quo 3 3 (.int .i64 (IntKind.i64.wrap ((IntKind.i64.wrap ((IntKind.i64.wrap ((IntKind.i64.wrap (2 * x1)) + 1)) * (IntKind.i64.wrap ((IntKind.i64.wrap (2 * x0)) + 1)))) * 32))) (.int .i64 x2') = some v3' ∧
    ∃ x4', asI .i64 v3' = some x4' ∧
    Cn Try.prog 70 #[.pointer x2, .int .i64 (IntKind.i64.wrap (64 - x4'))] M fun v5' N5' =>
     ∃ x6', asI .i64 v5' = some x6' ∧
     Q (.int .i64 (x6')) N5') :
    Cn Try.prog 71 #[.int .i64 x0, .int .i64 x1, .pointer x2, .pointer x3] M Q := by
  refine Cn.of b71 d71 t71 ?_
  refine Rn.seq k71_0 (Rn.region k71_1 (fun call K => r71_0) (Rch.leaf (Rn.seq k71_2 (Rn.region k71_3 (fun call K => r71_1) (Rch.ex H fun a1' H => Rch.ex H fun x2' H => Rch.ex H fun v3' H => Rch.ex H fun x4' H => Rch.call H fun v5' N5' H => Rch.ex H fun x6' H => Rch.leaf ?_)))))
  exact Rn.ret k71_4 e71 H


/-! ### zoetrope/basis.kinds$3: function 72 -/
noncomputable abbrev P72 (p : List Nat) : Code := subC (codeOf Try.f72) p
noncomputable abbrev O72 (p : List Nat) : Array Oper := opsOf (subC (codeOf Try.f72) p)
theorem b72 : Try.prog.funcs[72]? = some Try.f72 ∧ (Orc.tab Try.prog).lookup 72 = none := ⟨by kernel_rfl, by kernel_rfl⟩
theorem d72 : Try.f72.body = some (P72 []) := by kernel_rfl
theorem t72 {x0 x1 : Int} {x2 : Option Addr} : #[.int .i64 x0,.int .i64 x1,.pointer x2] ++ Array.replicate (Try.f72.ntmps - (#[.int .i64 x0,.int .i64 x1,.pointer x2] : Array Value).size) undef = #[.int .i64 x0,.int .i64 x1,.pointer x2,undef,undef,undef,undef,undef,undef,undef] := by kernel_rfl
theorem k72_0 : P72 [] = .seq (P72 [0]) (P72 [1]) := by kernel_rfl
theorem k72_1 : P72 [0] = .region 0 (O72 [0]) false := by kernel_rfl
theorem r72_0 {M : Mem} {call : CallM} {K : Array Value → Mem → R} :
    opsK Try.prog (fun _ => call) (O72 [0]) (O72 [0]).toList 0 #[g0,g1,g2,g3,g4,g5,g6,g7,g8,g9] M K = K #[g0,g1,g2,g3,g4,.int .i64 0,g6,g7,g8,g9] M := by kernel_rfl
theorem k72_2 : P72 [1] = .seq (P72 [1,0]) (P72 [1,1]) := by kernel_rfl
theorem k72_3 : P72 [1,0] = .seq (P72 [1,0,0]) (P72 [1,0,1]) := by kernel_rfl
theorem k72_4 : P72 [1,0,0] = .region 1 (O72 [1,0,0]) false := by kernel_rfl
theorem r72_1 {x0 x1 : Int} {M : Mem} {call : CallM} {K : Array Value → Mem → R} :
    opsK Try.prog (fun _ => call) (O72 [1,0,0]) (O72 [1,0,0]).toList 0 #[.int .i64 x0,.int .i64 x1,g2,g3,g4,g5,g6,g7,g8,g9] M K = K #[.int .i64 x0,.int .i64 x1,g2,g3,g4,g5,.int .i64 x0,.int .i64 x1,.bool (x0 != x1),g9] M := by kernel_rfl
theorem c72_5 : P72 [1,0,1] = .cond (.tmp 8) (P72 [1,0,1,0]) (P72 [1,0,1,1]) := by kernel_rfl
theorem k72_6 : P72 [1,0,1,0] = .seq (P72 [1,0,1,0,0]) (P72 [1,0,1,0,1]) := by kernel_rfl
theorem k72_7 : P72 [1,0,1,0,0] = .region 2 (O72 [1,0,1,0,0]) false := by kernel_rfl
theorem r72_2 {M : Mem} {call : CallM} {K : Array Value → Mem → R} :
    opsK Try.prog (fun _ => call) (O72 [1,0,1,0,0]) (O72 [1,0,1,0,0]).toList 0 #[g0,g1,g2,g3,g4,g5,g6,g7,g8,g9] M K = K #[g0,g1,g2,g3,g4,.int .i64 0,g6,g7,g8,g9] M := by kernel_rfl
theorem k72_8 : P72 [1,0,1,0,1] = .ret := by kernel_rfl
theorem e72 {M : Mem} : finish Try.prog Try.f72 #[g0,g1,g2,g3,g4,g5,g6,g7,g8,g9] M = some (g5, M) := by kernel_rfl
theorem k72_10 : P72 [1,0,1,1] = .skip := by kernel_rfl
theorem k72_11 : P72 [1,1] = .seq (P72 [1,1,0]) (P72 [1,1,1]) := by kernel_rfl
theorem k72_12 : P72 [1,1,0] = .region 3 (O72 [1,1,0]) false := by kernel_rfl
theorem r72_3 {x2 : Option Addr} {M : Mem} {call : CallM} {K : Array Value → Mem → R} :
    opsK Try.prog (fun _ => call) (O72 [1,1,0]) (O72 [1,1,0]).toList 0 #[g0,g1,.pointer x2,g3,g4,g5,g6,g7,g8,g9] M K = (x2).bind fun a_1 => (M.intAt .i64 a_1.block a_1.off).bind fun x_2 => K #[g0,g1,.pointer x2,g3,g4,.int .i64 x_2,g6,g7,g8,.int .i64 x_2] M := by kernel_rfl
theorem k72_13 : P72 [1,1,1] = .ret := by kernel_rfl
theorem w72_0 {x0 x1 : Int} {x2 : Option Addr} {M : Mem} {Q : Value → Mem → Prop} (H :
    ((x0 ≠ x1 →
     Q (.int .i64 0) M) ∧
     (x0 = x1 →
     ∃ a1', x2 = some a1' ∧
     ∃ x2', M.intAt .i64 a1'.block a1'.off = some x2' ∧
     Q (.int .i64 (x2')) M))) :
    Cn Try.prog 72 #[.int .i64 x0, .int .i64 x1, .pointer x2] M Q := by
  refine Cn.of b72 d72 t72 ?_
  refine Rn.seq k72_0 (Rn.region k72_1 (fun call K => r72_0) (Rch.leaf (Rn.seq k72_2 (Rn.seq k72_3 (Rn.region k72_4 (fun call K => r72_1) (Rch.leaf ?_))))))
  refine Rn.cnd (v := x0 != x1) ⟨c72_5, rfl, by kernel_rfl⟩ (fun h => ?_) (fun h => ?_)
  · replace H := H.1 (ne_of_bneT h)
    refine Rn.seq k72_6 (Rn.region k72_7 (fun call K => r72_2) (Rch.leaf ?_))
    exact Rn.ret k72_8 e72 H
  · replace H := H.2 (eq_of_bneF h)
    refine Rn.skip k72_10 (Rn.seq k72_11 (Rn.region k72_12 (fun call K => r72_3) (Rch.ex H fun a1' H => Rch.ex H fun x2' H => Rch.leaf ?_)))
    exact Rn.ret k72_13 e72 H


/-! ### zoetrope/basis.cos: function 70 -/
noncomputable abbrev P70 (p : List Nat) : Code := subC (codeOf Try.f70) p
noncomputable abbrev O70 (p : List Nat) : Array Oper := opsOf (subC (codeOf Try.f70) p)
theorem b70 : Try.prog.funcs[70]? = some Try.f70 ∧ (Orc.tab Try.prog).lookup 70 = none := ⟨by kernel_rfl, by kernel_rfl⟩
theorem d70 : Try.f70.body = some (P70 []) := by kernel_rfl
theorem t70 {x0 : Option Addr} {x1 : Int} : #[.pointer x0,.int .i64 x1] ++ Array.replicate (Try.f70.ntmps - (#[.pointer x0,.int .i64 x1] : Array Value).size) undef = #[.pointer x0,.int .i64 x1,undef,undef,undef,undef,undef,undef,undef,undef,undef,undef,undef,undef,undef,undef,undef,undef,undef,undef,undef,undef,undef,undef,undef,undef,undef] := by kernel_rfl
theorem k70_0 : P70 [] = .seq (P70 [0]) (P70 [1]) := by kernel_rfl
theorem k70_1 : P70 [0] = .region 0 (O70 [0]) false := by kernel_rfl
theorem r70_0 {M : Mem} {call : CallM} {K : Array Value → Mem → R} :
    opsK Try.prog (fun _ => call) (O70 [0]) (O70 [0]).toList 0 #[g0,g1,g2,g3,g4,g5,g6,g7,g8,g9,g10,g11,g12,g13,g14,g15,g16,g17,g18,g19,g20,g21,g22,g23,g24,g25,g26] M K = K #[g0,g1,g2,g3,.int .i64 0,g5,g6,g7,g8,g9,g10,g11,g12,g13,g14,g15,g16,g17,g18,g19,g20,g21,g22,g23,g24,g25,g26] M := by kernel_rfl
theorem k70_2 : P70 [1] = .seq (P70 [1,0]) (P70 [1,1]) := by kernel_rfl
theorem k70_3 : P70 [1,0] = .region 1 (O70 [1,0]) false := by kernel_rfl
theorem r70_1 {x1 : Int} {M : Mem} {call : CallM} {K : Array Value → Mem → R} :
    opsK Try.prog (fun _ => call) (O70 [1,0]) (O70 [1,0]).toList 0 #[g0,.int .i64 x1,g2,g3,g4,g5,g6,g7,g8,g9,g10,g11,g12,g13,g14,g15,g16,g17,g18,g19,g20,g21,g22,g23,g24,g25,g26] M K = K #[g0,.int .i64 (IntKind.i64.wrap (((BitVec.ofInt (IntKind.bits .i64) x1 &&& BitVec.ofInt (IntKind.bits .i64) 255).toNat : Int))),g2,g3,g4,.int .i64 x1,.int .i64 (IntKind.i64.wrap (((BitVec.ofInt (IntKind.bits .i64) x1 &&& BitVec.ofInt (IntKind.bits .i64) 255).toNat : Int))),g7,g8,g9,g10,g11,g12,g13,g14,g15,g16,g17,g18,g19,g20,g21,g22,g23,g24,g25,g26] M := by kernel_rfl
theorem k70_4 : P70 [1,1] = .seq (P70 [1,1,0]) (P70 [1,1,1]) := by kernel_rfl
theorem k70_5 : P70 [1,1,0] = .seq (P70 [1,1,0,0]) (P70 [1,1,0,1]) := by kernel_rfl
theorem k70_6 : P70 [1,1,0,0] = .region 2 (O70 [1,1,0,0]) false := by kernel_rfl
theorem r70_2 {x1 : Int} {M : Mem} {call : CallM} {K : Array Value → Mem → R} :
    opsK Try.prog (fun _ => call) (O70 [1,1,0,0]) (O70 [1,1,0,0]).toList 0 #[g0,.int .i64 x1,g2,g3,g4,g5,g6,g7,g8,g9,g10,g11,g12,g13,g14,g15,g16,g17,g18,g19,g20,g21,g22,g23,g24,g25,g26] M K = K #[g0,.int .i64 x1,g2,g3,g4,g5,g6,.int .i64 x1,.bool (decide (x1 > 128)),g9,g10,g11,g12,g13,g14,g15,g16,g17,g18,g19,g20,g21,g22,g23,g24,g25,g26] M := by kernel_rfl
theorem c70_7 : P70 [1,1,0,1] = .cond (.tmp 8) (P70 [1,1,0,1,0]) (P70 [1,1,0,1,1]) := by kernel_rfl
theorem k70_8 : P70 [1,1,0,1,0] = .region 3 (O70 [1,1,0,1,0]) false := by kernel_rfl
theorem r70_3 {x1 : Int} {M : Mem} {call : CallM} {K : Array Value → Mem → R} :
    opsK Try.prog (fun _ => call) (O70 [1,1,0,1,0]) (O70 [1,1,0,1,0]).toList 0 #[g0,.int .i64 x1,g2,g3,g4,g5,g6,g7,g8,g9,g10,g11,g12,g13,g14,g15,g16,g17,g18,g19,g20,g21,g22,g23,g24,g25,g26] M K = K #[g0,.int .i64 (IntKind.i64.wrap (256 - x1)),g2,g3,g4,g5,g6,g7,g8,.int .i64 x1,.int .i64 (IntKind.i64.wrap (256 - x1)),g11,g12,g13,g14,g15,g16,g17,g18,g19,g20,g21,g22,g23,g24,g25,g26] M := by kernel_rfl
theorem k70_9 : P70 [1,1,1] = .seq (P70 [1,1,1,0]) (P70 [1,1,1,1]) := by kernel_rfl
theorem k70_10 : P70 [1,1,1,0] = .seq (P70 [1,1,1,0,0]) (P70 [1,1,1,0,1]) := by kernel_rfl
theorem k70_11 : P70 [1,1,1,0,0] = .region 4 (O70 [1,1,1,0,0]) false := by kernel_rfl
theorem r70_4 {x1 : Int} {M : Mem} {call : CallM} {K : Array Value → Mem → R} :
    opsK Try.prog (fun _ => call) (O70 [1,1,1,0,0]) (O70 [1,1,1,0,0]).toList 0 #[g0,.int .i64 x1,g2,g3,g4,g5,g6,g7,g8,g9,g10,g11,g12,g13,g14,g15,g16,g17,g18,g19,g20,g21,g22,g23,g24,g25,g26] M K = K #[g0,.int .i64 x1,g2,g3,g4,g5,g6,g7,g8,g9,g10,.int .i64 x1,.bool (decide (x1 > 64)),g13,g14,g15,g16,g17,g18,g19,g20,g21,g22,g23,g24,g25,g26] M := by kernel_rfl
theorem c70_12 : P70 [1,1,1,0,1] = .cond (.tmp 12) (P70 [1,1,1,0,1,0]) (P70 [1,1,1,0,1,1]) := by kernel_rfl
theorem k70_13 : P70 [1,1,1,0,1,0] = .seq (P70 [1,1,1,0,1,0,0]) (P70 [1,1,1,0,1,0,1]) := by kernel_rfl
theorem k70_14 : P70 [1,1,1,0,1,0,0] = .region 5 (O70 [1,1,1,0,1,0,0]) false := by kernel_rfl
theorem r70_5 {x0 : Option Addr} {x1 : Int} {M : Mem} {call : CallM} {K : Array Value → Mem → R} :
    opsK Try.prog (fun _ => call) (O70 [1,1,1,0,1,0,0]) (O70 [1,1,1,0,1,0,0]).toList 0 #[.pointer x0,.int .i64 x1,g2,g3,g4,g5,g6,g7,g8,g9,g10,g11,g12,g13,g14,g15,g16,g17,g18,g19,g20,g21,g22,g23,g24,g25,g26] M K = (x0).bind fun a_1 => (idxA (some a_1) 65 1 (IntKind.i64.wrap (128 - x1))).bind fun a_2 => (M.intAt .i16 a_2.block a_2.off).bind fun x_3 => K #[.pointer x0,.int .i64 x1,g2,g3,.int .i64 (IntKind.i64.wrap (0 - (IntKind.i64.wrap (x_3)))),g5,g6,g7,g8,g9,g10,g11,g12,.pointer x0,.int .i64 x1,.int .i64 (IntKind.i64.wrap (128 - x1)),.pointer (some a_1),.pointer (some a_2),.int .i16 x_3,.int .i64 (IntKind.i64.wrap (x_3)),.int .i64 (IntKind.i64.wrap (0 - (IntKind.i64.wrap (x_3)))),g21,g22,g23,g24,g25,g26] M := by kernel_rfl
theorem k70_15 : P70 [1,1,1,0,1,0,1] = .ret := by kernel_rfl
theorem e70 {M : Mem} : finish Try.prog Try.f70 #[g0,g1,g2,g3,g4,g5,g6,g7,g8,g9,g10,g11,g12,g13,g14,g15,g16,g17,g18,g19,g20,g21,g22,g23,g24,g25,g26] M = some (g4, M) := by kernel_rfl
theorem k70_17 : P70 [1,1,1,0,1,1] = .skip := by kernel_rfl
theorem k70_18 : P70 [1,1,1,1] = .seq (P70 [1,1,1,1,0]) (P70 [1,1,1,1,1]) := by kernel_rfl
theorem k70_19 : P70 [1,1,1,1,0] = .region 6 (O70 [1,1,1,1,0]) false := by kernel_rfl
theorem r70_6 {x0 : Option Addr} {x1 : Int} {M : Mem} {call : CallM} {K : Array Value → Mem → R} :
    opsK Try.prog (fun _ => call) (O70 [1,1,1,1,0]) (O70 [1,1,1,1,0]).toList 0 #[.pointer x0,.int .i64 x1,g2,g3,g4,g5,g6,g7,g8,g9,g10,g11,g12,g13,g14,g15,g16,g17,g18,g19,g20,g21,g22,g23,g24,g25,g26] M K = (x0).bind fun a_1 => (idxA (some a_1) 65 1 x1).bind fun a_2 => (M.intAt .i16 a_2.block a_2.off).bind fun x_3 => K #[.pointer x0,.int .i64 x1,g2,g3,.int .i64 (IntKind.i64.wrap (x_3)),g5,g6,g7,g8,g9,g10,g11,g12,g13,g14,g15,g16,g17,g18,g19,g20,.pointer x0,.int .i64 x1,.pointer (some a_1),.pointer (some a_2),.int .i16 x_3,.int .i64 (IntKind.i64.wrap (x_3))] M := by kernel_rfl
theorem k70_20 : P70 [1,1,1,1,1] = .ret := by kernel_rfl
theorem k70_21 : P70 [1,1,0,1,1] = .skip := by kernel_rfl
theorem w70_0 {x0 : Option Addr} {x1 : Int} {M : Mem} {Q : Value → Mem → Prop} (H :
    (((IntKind.i64.wrap (((BitVec.ofInt (IntKind.bits .i64) x1 &&& BitVec.ofInt (IntKind.bits .i64) 255).toNat : Int))) > 128 →
     (((IntKind.i64.wrap (256 - (IntKind.i64.wrap (((BitVec.ofInt (IntKind.bits .i64) x1 &&& BitVec.ofInt (IntKind.bits .i64) 255).toNat : Int))))) > 64 →
      ∃ a1', x0 = some a1' ∧
      ∃ a2', idxA (some a1') 65 1 (IntKind.i64.wrap (128 - (IntKind.i64.wrap (256 - (IntKind.i64.wrap (((BitVec.ofInt (IntKind.bits .i64) x1 &&& BitVec.ofInt (IntKind.bits .i64) 255).toNat : Int))))))) = some a2' ∧
      ∃ x3', M.intAt .i16 a2'.block a2'.off = some x3' ∧
      Q (.int .i64 (IntKind.i64.wrap (0 - (IntKind.i64.wrap (x3'))))) M) ∧
      (¬ ((IntKind.i64.wrap (256 - (IntKind.i64.wrap (((BitVec.ofInt (IntKind.bits .i64) x1 &&& BitVec.ofInt (IntKind.bits .i64) 255).toNat : Int))))) > 64) →
      ∃ a4', x0 = some a4' ∧
      ∃ a5', idxA (some a4') 65 1 (IntKind.i64.wrap (256 - (IntKind.i64.wrap (((BitVec.ofInt (IntKind.bits .i64) x1 &&& BitVec.ofInt (IntKind.bits .i64) 255).toNat : Int))))) = some a5' ∧
      ∃ x6', M.intAt .i16 a5'.block a5'.off = some x6' ∧
      Q (.int .i64 (IntKind.i64.wrap (x6'))) M))) ∧
     (¬ ((IntKind.i64.wrap (((BitVec.ofInt (IntKind.bits .i64) x1 &&& BitVec.ofInt (IntKind.bits .i64) 255).toNat : Int))) > 128) →
     (((IntKind.i64.wrap (((BitVec.ofInt (IntKind.bits .i64) x1 &&& BitVec.ofInt (IntKind.bits .i64) 255).toNat : Int))) > 64 →
      ∃ a7', x0 = some a7' ∧
      ∃ a8', idxA (some a7') 65 1 (IntKind.i64.wrap (128 - (IntKind.i64.wrap (((BitVec.ofInt (IntKind.bits .i64) x1 &&& BitVec.ofInt (IntKind.bits .i64) 255).toNat : Int))))) = some a8' ∧
      ∃ x9', M.intAt .i16 a8'.block a8'.off = some x9' ∧
      Q (.int .i64 (IntKind.i64.wrap (0 - (IntKind.i64.wrap (x9'))))) M) ∧
      (¬ ((IntKind.i64.wrap (((BitVec.ofInt (IntKind.bits .i64) x1 &&& BitVec.ofInt (IntKind.bits .i64) 255).toNat : Int))) > 64) →
      ∃ a10', x0 = some a10' ∧
      ∃ a11', idxA (some a10') 65 1 (IntKind.i64.wrap (((BitVec.ofInt (IntKind.bits .i64) x1 &&& BitVec.ofInt (IntKind.bits .i64) 255).toNat : Int))) = some a11' ∧
      ∃ x12', M.intAt .i16 a11'.block a11'.off = some x12' ∧
      Q (.int .i64 (IntKind.i64.wrap (x12'))) M))))) :
    Cn Try.prog 70 #[.pointer x0, .int .i64 x1] M Q := by
  refine Cn.of b70 d70 t70 ?_
  refine Rn.seq k70_0 (Rn.region k70_1 (fun call K => r70_0) (Rch.leaf (Rn.seq k70_2 (Rn.region k70_3 (fun call K => r70_1) (Rch.leaf (Rn.seq k70_4 (Rn.seq k70_5 (Rn.region k70_6 (fun call K => r70_2) (Rch.leaf ?_)))))))))
  refine Rn.cnd (v := decide ((IntKind.i64.wrap (((BitVec.ofInt (IntKind.bits .i64) x1 &&& BitVec.ofInt (IntKind.bits .i64) 255).toNat : Int))) > 128)) ⟨c70_7, rfl, by kernel_rfl⟩ (fun h => ?_) (fun h => ?_)
  · replace H := H.1 (of_decide_eq_true h)
    refine Rn.region k70_8 (fun call K => r70_3) (Rch.leaf (Rn.seq k70_9 (Rn.seq k70_10 (Rn.region k70_11 (fun call K => r70_4) (Rch.leaf ?_)))))
    refine Rn.cnd (v := decide ((IntKind.i64.wrap (256 - (IntKind.i64.wrap (((BitVec.ofInt (IntKind.bits .i64) x1 &&& BitVec.ofInt (IntKind.bits .i64) 255).toNat : Int))))) > 64)) ⟨c70_12, rfl, by kernel_rfl⟩ (fun h => ?_) (fun h => ?_)
    · replace H := H.1 (of_decide_eq_true h)
      refine Rn.seq k70_13 (Rn.region k70_14 (fun call K => r70_5) (Rch.ex H fun a1' H => Rch.ex H fun a2' H => Rch.ex H fun x3' H => Rch.leaf ?_))
      exact Rn.ret k70_15 e70 H
    · replace H := H.2 (of_decide_eq_false h)
      refine Rn.skip k70_17 (Rn.seq k70_18 (Rn.region k70_19 (fun call K => r70_6) (Rch.ex H fun a4' H => Rch.ex H fun a5' H => Rch.ex H fun x6' H => Rch.leaf ?_)))
      exact Rn.ret k70_20 e70 H
  · replace H := H.2 (of_decide_eq_false h)
    refine Rn.skip k70_21 (Rn.seq k70_9 (Rn.seq k70_10 (Rn.region k70_11 (fun call K => r70_4) (Rch.leaf ?_))))
    refine Rn.cnd (v := decide ((IntKind.i64.wrap (((BitVec.ofInt (IntKind.bits .i64) x1 &&& BitVec.ofInt (IntKind.bits .i64) 255).toNat : Int))) > 64)) ⟨c70_12, rfl, by kernel_rfl⟩ (fun h => ?_) (fun h => ?_)
    · replace H := H.1 (of_decide_eq_true h)
      refine Rn.seq k70_13 (Rn.region k70_14 (fun call K => r70_5) (Rch.ex H fun a7' H => Rch.ex H fun a8' H => Rch.ex H fun x9' H => Rch.leaf ?_))
      exact Rn.ret k70_15 e70 H
    · replace H := H.2 (of_decide_eq_false h)
      refine Rn.skip k70_17 (Rn.seq k70_18 (Rn.region k70_19 (fun call K => r70_6) (Rch.ex H fun a10' H => Rch.ex H fun a11' H => Rch.ex H fun x12' H => Rch.leaf ?_)))
      exact Rn.ret k70_20 e70 H


/-! ### slices.IndexFunc[[]int,int]: function 73 -/
noncomputable abbrev P73 (p : List Nat) : Code := subC (codeOf Try.f73) p
noncomputable abbrev O73 (p : List Nat) : Array Oper := opsOf (subC (codeOf Try.f73) p)
theorem b73 : Try.prog.funcs[73]? = some Try.f73 ∧ (Orc.tab Try.prog).lookup 73 = none := ⟨by kernel_rfl, by kernel_rfl⟩
theorem d73 : Try.f73.body = some (P73 []) := by kernel_rfl
theorem t73 {Ax0 : Option Addr} {lx0 cx0 : Nat} {x1 : Value} : #[.slice Ax0 lx0 cx0,x1] ++ Array.replicate (Try.f73.ntmps - (#[.slice Ax0 lx0 cx0,x1] : Array Value).size) undef = #[.slice Ax0 lx0 cx0,x1,undef,undef,undef,undef,undef,undef,undef,undef,undef,undef,undef,undef,undef,undef,undef,undef,undef] := by kernel_rfl
theorem k73_0 : P73 [] = .seq (P73 [0]) (P73 [1]) := by kernel_rfl
theorem k73_1 : P73 [0] = .region 0 (O73 [0]) false := by kernel_rfl
theorem r73_0 {M : Mem} {call : CallM} {K : Array Value → Mem → R} :
    opsK Try.prog (fun _ => call) (O73 [0]) (O73 [0]).toList 0 #[g0,g1,g2,g3,g4,g5,g6,g7,g8,g9,g10,g11,g12,g13,g14,g15,g16,g17,g18] M K = K #[g0,g1,g2,g3,.int .i64 0,g5,g6,g7,g8,g9,g10,g11,g12,g13,g14,g15,g16,g17,g18] M := by kernel_rfl
theorem k73_2 : P73 [1] = .seq (P73 [1,0]) (P73 [1,1]) := by kernel_rfl
theorem k73_3 : P73 [1,0] = .seq (P73 [1,0,0]) (P73 [1,0,1]) := by kernel_rfl
theorem k73_4 : P73 [1,0,0] = .region 1 (O73 [1,0,0]) false := by kernel_rfl
theorem r73_1 {Ax0 : Option Addr} {lx0 cx0 : Nat} {M : Mem} {call : CallM} {K : Array Value → Mem → R} :
    opsK Try.prog (fun _ => call) (O73 [1,0,0]) (O73 [1,0,0]).toList 0 #[.slice Ax0 lx0 cx0,g1,g2,g3,g4,g5,g6,g7,g8,g9,g10,g11,g12,g13,g14,g15,g16,g17,g18] M K = K #[.slice Ax0 lx0 cx0,g1,g2,g3,g4,g5,.slice Ax0 lx0 cx0,.int .i64 ((lx0 : Int)),.int .i64 0,g9,g10,g11,g12,g13,g14,g15,g16,g17,g18] M := by kernel_rfl
theorem k73_5 : P73 [1,0,1] = .block 0 (P73 [1,0,1,0]) := by kernel_rfl
theorem k73_6 : P73 [1,0,1,0] = .loop (P73 [1,0,1,0,0]) := by kernel_rfl
theorem k73_7 : P73 [1,0,1,0,0] = .seq (P73 [1,0,1,0,0,0]) (P73 [1,0,1,0,0,1]) := by kernel_rfl
theorem k73_8 : P73 [1,0,1,0,0,0] = .region 2 (O73 [1,0,1,0,0,0]) false := by kernel_rfl
theorem r73_2 {x7 x8 : Int} {M : Mem} {call : CallM} {K : Array Value → Mem → R} :
    opsK Try.prog (fun _ => call) (O73 [1,0,1,0,0,0]) (O73 [1,0,1,0,0,0]).toList 0 #[g0,g1,g2,g3,g4,g5,g6,.int .i64 x7,.int .i64 x8,g9,g10,g11,g12,g13,g14,g15,g16,g17,g18] M K = K #[g0,g1,g2,g3,g4,g5,g6,.int .i64 x7,.int .i64 x8,.bool (decide (x8 < x7)),g10,g11,g12,g13,g14,g15,g16,g17,g18] M := by kernel_rfl
theorem k73_9 : P73 [1,0,1,0,0,1] = .seq (P73 [1,0,1,0,0,1,0]) (P73 [1,0,1,0,0,1,1]) := by kernel_rfl
theorem c73_10 : P73 [1,0,1,0,0,1,0] = .cond (.tmp 9) (P73 [1,0,1,0,0,1,0,0]) (P73 [1,0,1,0,0,1,0,1]) := by kernel_rfl
theorem k73_11 : P73 [1,0,1,0,0,1,0,0] = .skip := by kernel_rfl
theorem k73_12 : P73 [1,0,1,0,0,1,1] = .seq (P73 [1,0,1,0,0,1,1,0]) (P73 [1,0,1,0,0,1,1,1]) := by kernel_rfl
theorem k73_13 : P73 [1,0,1,0,0,1,1,0] = .block 1 (P73 [1,0,1,0,0,1,1,0,0]) := by kernel_rfl
theorem k73_14 : P73 [1,0,1,0,0,1,1,0,0] = .seq (P73 [1,0,1,0,0,1,1,0,0,0]) (P73 [1,0,1,0,0,1,1,0,0,1]) := by kernel_rfl
theorem k73_15 : P73 [1,0,1,0,0,1,1,0,0,0] = .region 3 (O73 [1,0,1,0,0,1,1,0,0,0]) false := by kernel_rfl
theorem r73_3 {x8 : Int} {M : Mem} {call : CallM} {K : Array Value → Mem → R} :
    opsK Try.prog (fun _ => call) (O73 [1,0,1,0,0,1,1,0,0,0]) (O73 [1,0,1,0,0,1,1,0,0,0]).toList 0 #[g0,g1,g2,g3,g4,g5,g6,g7,.int .i64 x8,g9,g10,g11,g12,g13,g14,g15,g16,g17,g18] M K = K #[g0,g1,g2,g3,g4,.int .i64 x8,g6,g7,.int .i64 x8,g9,.int .i64 x8,g11,g12,g13,g14,g15,g16,g17,g18] M := by kernel_rfl
theorem k73_16 : P73 [1,0,1,0,0,1,1,0,0,1] = .seq (P73 [1,0,1,0,0,1,1,0,0,1,0]) (P73 [1,0,1,0,0,1,1,0,0,1,1]) := by kernel_rfl
theorem k73_17 : P73 [1,0,1,0,0,1,1,0,0,1,0] = .region 4 (O73 [1,0,1,0,0,1,1,0,0,1,0]) false := by kernel_rfl
theorem r73_4 {Ax0 : Option Addr} {lx0 cx0 : Nat} {x1 : Value} {x5 : Int} {M : Mem} {call : CallM} {K : Array Value → Mem → R} :
    opsK Try.prog (fun _ => call) (O73 [1,0,1,0,0,1,1,0,0,1,0]) (O73 [1,0,1,0,0,1,1,0,0,1,0]).toList 0 #[.slice Ax0 lx0 cx0,x1,g2,g3,g4,.int .i64 x5,g6,g7,g8,g9,g10,g11,g12,g13,g14,g15,g16,g17,g18] M K = (idxA Ax0 lx0 1 x5).bind fun a_1 => (M.intAt .i64 a_1.block a_1.off).bind fun x_2 => (callVal Try.prog x1 #[.int .i64 x_2]).bind fun q_4 => (call q_4.1 q_4.2 M).bind fun r_3 => (asB r_3.1).bind fun b_5 => K #[.slice Ax0 lx0 cx0,x1,g2,g3,g4,.int .i64 x5,g6,g7,g8,g9,g10,x1,.slice Ax0 lx0 cx0,.int .i64 x5,.pointer (some a_1),.int .i64 x_2,.bool b_5,g17,g18] r_3.2 := by kernel_rfl
theorem c73_18 : P73 [1,0,1,0,0,1,1,0,0,1,1] = .cond (.tmp 16) (P73 [1,0,1,0,0,1,1,0,0,1,1,0]) (P73 [1,0,1,0,0,1,1,0,0,1,1,1]) := by kernel_rfl
theorem k73_19 : P73 [1,0,1,0,0,1,1,0,0,1,1,0] = .seq (P73 [1,0,1,0,0,1,1,0,0,1,1,0,0]) (P73 [1,0,1,0,0,1,1,0,0,1,1,0,1]) := by kernel_rfl
theorem k73_20 : P73 [1,0,1,0,0,1,1,0,0,1,1,0,0] = .region 5 (O73 [1,0,1,0,0,1,1,0,0,1,1,0,0]) false := by kernel_rfl
theorem r73_5 {x5 : Int} {M : Mem} {call : CallM} {K : Array Value → Mem → R} :
    opsK Try.prog (fun _ => call) (O73 [1,0,1,0,0,1,1,0,0,1,1,0,0]) (O73 [1,0,1,0,0,1,1,0,0,1,1,0,0]).toList 0 #[g0,g1,g2,g3,g4,.int .i64 x5,g6,g7,g8,g9,g10,g11,g12,g13,g14,g15,g16,g17,g18] M K = K #[g0,g1,g2,g3,.int .i64 x5,.int .i64 x5,g6,g7,g8,g9,g10,g11,g12,g13,g14,g15,g16,.int .i64 x5,g18] M := by kernel_rfl
theorem k73_21 : P73 [1,0,1,0,0,1,1,0,0,1,1,0,1] = .ret := by kernel_rfl
theorem e73 {M : Mem} : finish Try.prog Try.f73 #[g0,g1,g2,g3,g4,g5,g6,g7,g8,g9,g10,g11,g12,g13,g14,g15,g16,g17,g18] M = some (g4, M) := by kernel_rfl
theorem k73_23 : P73 [1,0,1,0,0,1,1,0,0,1,1,1] = .skip := by kernel_rfl
theorem k73_24 : P73 [1,0,1,0,0,1,1,1] = .region 6 (O73 [1,0,1,0,0,1,1,1]) false := by kernel_rfl
theorem r73_6 {x8 : Int} {M : Mem} {call : CallM} {K : Array Value → Mem → R} :
    opsK Try.prog (fun _ => call) (O73 [1,0,1,0,0,1,1,1]) (O73 [1,0,1,0,0,1,1,1]).toList 0 #[g0,g1,g2,g3,g4,g5,g6,g7,.int .i64 x8,g9,g10,g11,g12,g13,g14,g15,g16,g17,g18] M K = K #[g0,g1,g2,g3,g4,g5,g6,g7,.int .i64 (IntKind.i64.wrap (x8 + 1)),g9,g10,g11,g12,g13,g14,g15,g16,g17,.int .i64 (IntKind.i64.wrap (x8 + 1))] M := by kernel_rfl
theorem k73_25 : P73 [1,0,1,0,0,1,0,1] = .exit 0 := by kernel_rfl
theorem k73_26 : P73 [1,1] = .seq (P73 [1,1,0]) (P73 [1,1,1]) := by kernel_rfl
theorem k73_27 : P73 [1,1,0] = .region 7 (O73 [1,1,0]) false := by kernel_rfl
theorem r73_7 {M : Mem} {call : CallM} {K : Array Value → Mem → R} :
    opsK Try.prog (fun _ => call) (O73 [1,1,0]) (O73 [1,1,0]).toList 0 #[g0,g1,g2,g3,g4,g5,g6,g7,g8,g9,g10,g11,g12,g13,g14,g15,g16,g17,g18] M K = K #[g0,g1,g2,g3,.int .i64 (-1),g5,g6,g7,g8,g9,g10,g11,g12,g13,g14,g15,g16,g17,g18] M := by kernel_rfl
theorem k73_28 : P73 [1,1,1] = .ret := by kernel_rfl
noncomputable def S73_1 : List Item := [.code (P73 [1,0,1,0,0]), .inLoop (P73 [1,0,1,0,0]), .inBlock 0, .code (P73 [1,1])]
def A73_1 (Ax0 : Option Addr) (lx0 cx0 : Nat) (x1 : Value) (x7 x8 : Int) (M : Mem) (Q : Value → Mem → Prop) : Prop := ∀ (g2 g3 g4 g5 g6 g9 g10 g11 g12 g13 g14 g15 g16 g17 g18 : Value), Rn Try.prog Try.f73 S73_1 #[.slice Ax0 lx0 cx0, x1, g2, g3, g4, g5, g6, .int .i64 x7, .int .i64 x8, g9, g10, g11, g12, g13, g14, g15, g16, g17, g18] M Q
theorem w73_0 {Ax0 : Option Addr} {lx0 cx0 : Nat} {x1 : Value} {M : Mem} {Q : Value → Mem → Prop} (H :
    A73_1 Ax0 lx0 cx0 x1 (lx0 : Int) 0 M Q) :
    Cn Try.prog 73 #[.slice Ax0 lx0 cx0, x1] M Q := by
  refine Cn.of b73 d73 t73 ?_
  refine Rn.seq k73_0 (Rn.region k73_1 (fun call K => r73_0) (Rch.leaf (Rn.seq k73_2 (Rn.seq k73_3 (Rn.region k73_4 (fun call K => r73_1) (Rch.leaf (Rn.block k73_5 (Rn.loop k73_6 ?_))))))))
  exact H _ _ _ _ _ _ _ _ _ _ _ _ _ _ _

theorem w73_1 {Ax0 : Option Addr} {lx0 cx0 : Nat} {x1 : Value} {x7 x8 : Int} {M : Mem} {Q : Value → Mem → Prop} (H :
    ((x8 < x7 →
     ∃ a1', idxA Ax0 lx0 1 x8 = some a1' ∧
     ∃ x2', M.intAt .i64 a1'.block a1'.off = some x2' ∧
     ∃ q3', callVal Try.prog x1 #[.int .i64 x2'] = some q3' ∧
     Cn Try.prog q3'.1 q3'.2 M fun v4' N4' =>
      ∃ b5', asB v4' = some b5' ∧
      ((b5' = true →
       Q (.int .i64 x8) N4') ∧
       (b5' = false →
       A73_1 Ax0 lx0 cx0 x1 x7 (IntKind.i64.wrap (x8 + 1)) N4' Q))) ∧
     (¬ (x8 < x7) →
     Q (.int .i64 (-1)) M))) :
    A73_1 Ax0 lx0 cx0 x1 x7 x8 M Q := by
  intro g2 g3 g4 g5 g6 g9 g10 g11 g12 g13 g14 g15 g16 g17 g18
  refine Rn.seq k73_7 (Rn.region k73_8 (fun call K => r73_2) (Rch.leaf (Rn.seq k73_9 ?_)))
  refine Rn.cnd (v := decide (x8 < x7)) ⟨c73_10, rfl, by kernel_rfl⟩ (fun h => ?_) (fun h => ?_)
  · replace H := H.1 (of_decide_eq_true h)
    refine Rn.skip k73_11 (Rn.seq k73_12 (Rn.block k73_13 (Rn.seq k73_14 (Rn.region k73_15 (fun call K => r73_3) (Rch.leaf (Rn.seq k73_16 (Rn.region k73_17 (fun call K => r73_4) (Rch.ex H fun a1' H => Rch.ex H fun x2' H => Rch.ex H fun q3' H => Rch.call H fun v4' N4' H => ?_))))))))
    refine Rch.ex H fun b5' H => Rch.leaf ?_
    refine Rn.cnd (v := b5') ⟨c73_18, rfl, by kernel_rfl⟩ (fun h => ?_) (fun h => ?_)
    · replace H := H.1 (h)
      refine Rn.seq k73_19 (Rn.region k73_20 (fun call K => r73_5) (Rch.leaf ?_))
      exact Rn.ret k73_21 e73 H
    · replace H := H.2 (h)
      refine Rn.skip k73_23 (Rn.blk (Rn.region k73_24 (fun call K => r73_6) (Rch.leaf (Rn.lp ?_))))
      exact H _ _ _ _ _ _ _ _ _ _ _ _ _ _ _
  · replace H := H.2 (of_decide_eq_false h)
    refine Rn.exit k73_25 rfl (Rn.seq k73_26 (Rn.region k73_27 (fun call K => r73_7) (Rch.leaf ?_)))
    exact Rn.ret k73_28 e73 H


/-! ### slices.ContainsFunc[[]int,int]: function 66 -/
noncomputable abbrev P66 (p : List Nat) : Code := subC (codeOf Try.f66) p
noncomputable abbrev O66 (p : List Nat) : Array Oper := opsOf (subC (codeOf Try.f66) p)
theorem b66 : Try.prog.funcs[66]? = some Try.f66 ∧ (Orc.tab Try.prog).lookup 66 = none := ⟨by kernel_rfl, by kernel_rfl⟩
theorem d66 : Try.f66.body = some (P66 []) := by kernel_rfl
theorem t66 {Ax0 : Option Addr} {lx0 cx0 : Nat} {x1 : Value} : #[.slice Ax0 lx0 cx0,x1] ++ Array.replicate (Try.f66.ntmps - (#[.slice Ax0 lx0 cx0,x1] : Array Value).size) undef = #[.slice Ax0 lx0 cx0,x1,undef,undef,undef,undef,undef,undef,undef] := by kernel_rfl
theorem k66_0 : P66 [] = .seq (P66 [0]) (P66 [1]) := by kernel_rfl
theorem k66_1 : P66 [0] = .region 0 (O66 [0]) false := by kernel_rfl
theorem r66_0 {M : Mem} {call : CallM} {K : Array Value → Mem → R} :
    opsK Try.prog (fun _ => call) (O66 [0]) (O66 [0]).toList 0 #[g0,g1,g2,g3,g4,g5,g6,g7,g8] M K = K #[g0,g1,g2,g3,.bool false,g5,g6,g7,g8] M := by kernel_rfl
theorem k66_2 : P66 [1] = .seq (P66 [1,0]) (P66 [1,1]) := by kernel_rfl
theorem k66_3 : P66 [1,0] = .region 1 (O66 [1,0]) false := by kernel_rfl
theorem r66_1 {Ax0 : Option Addr} {lx0 cx0 : Nat} {x1 : Value} {M : Mem} {call : CallM} {K : Array Value → Mem → R} :
    opsK Try.prog (fun _ => call) (O66 [1,0]) (O66 [1,0]).toList 0 #[.slice Ax0 lx0 cx0,x1,g2,g3,g4,g5,g6,g7,g8] M K = (call 73 #[.slice Ax0 lx0 cx0, x1] M).bind fun r_1 => (asI .i64 r_1.1).bind fun x_2 => K #[.slice Ax0 lx0 cx0,x1,g2,g3,.bool (decide (x_2 ≥ 0)),.slice Ax0 lx0 cx0,x1,.int .i64 x_2,.bool (decide (x_2 ≥ 0))] r_1.2 := by kernel_rfl
theorem k66_4 : P66 [1,1] = .ret := by kernel_rfl
theorem e66 {M : Mem} : finish Try.prog Try.f66 #[g0,g1,g2,g3,g4,g5,g6,g7,g8] M = some (g4, M) := by kernel_rfl
theorem w66_0 {Ax0 : Option Addr} {lx0 cx0 : Nat} {x1 : Value} {M : Mem} {Q : Value → Mem → Prop} (H :
    Cn Try.prog 73 #[.slice Ax0 lx0 cx0, x1] M fun v1' N1' =>
     ∃ x2', asI .i64 v1' = some x2' ∧
     Q (.bool (decide (x2' ≥ 0))) N1') :
    Cn Try.prog 66 #[.slice Ax0 lx0 cx0, x1] M Q := by
  refine Cn.of b66 d66 t66 ?_
  refine Rn.seq k66_0 (Rn.region k66_1 (fun call K => r66_0) (Rch.leaf (Rn.seq k66_2 (Rn.region k66_3 (fun call K => r66_1) (Rch.call H fun v1' N1' H => Rch.ex H fun x2' H => Rch.leaf ?_)))))
  exact Rn.ret k66_4 e66 H


/-! ### zoetrope/basis.asked$1: function 65 -/
noncomputable abbrev P65 (p : List Nat) : Code := subC (codeOf Try.f65) p
noncomputable abbrev O65 (p : List Nat) : Array Oper := opsOf (subC (codeOf Try.f65) p)
theorem b65 : Try.prog.funcs[65]? = some Try.f65 ∧ (Orc.tab Try.prog).lookup 65 = none := ⟨by kernel_rfl, by kernel_rfl⟩
theorem d65 : Try.f65.body = some (P65 []) := by kernel_rfl
theorem t65 {x0 : Int} : #[.int .i64 x0] ++ Array.replicate (Try.f65.ntmps - (#[.int .i64 x0] : Array Value).size) undef = #[.int .i64 x0,undef,undef,undef,undef,undef,undef,undef,undef] := by kernel_rfl
theorem k65_0 : P65 [] = .seq (P65 [0]) (P65 [1]) := by kernel_rfl
theorem k65_1 : P65 [0] = .region 0 (O65 [0]) false := by kernel_rfl
theorem r65_0 {M : Mem} {call : CallM} {K : Array Value → Mem → R} :
    opsK Try.prog (fun _ => call) (O65 [0]) (O65 [0]).toList 0 #[g0,g1,g2,g3,g4,g5,g6,g7,g8] M K = K #[g0,g1,.bool false,g3,g4,g5,g6,g7,g8] M := by kernel_rfl
theorem k65_2 : P65 [1] = .seq (P65 [1,0]) (P65 [1,1]) := by kernel_rfl
theorem k65_3 : P65 [1,0] = .region 1 (O65 [1,0]) false := by kernel_rfl
theorem r65_1 {x0 : Int} {M : Mem} {call : CallM} {K : Array Value → Mem → R} :
    opsK Try.prog (fun _ => call) (O65 [1,0]) (O65 [1,0]).toList 0 #[.int .i64 x0,g1,g2,g3,g4,g5,g6,g7,g8] M K = withK (fun w2 w5 w6 w7 w8 M => K #[.int .i64 x0,g1,w2,.int .i64 x0,.bool (decide (x0 < (-1048576))),w5,w6,w7,w8] M) fun k => cond (decide (x0 < (-1048576))) (k (.bool true) (.bool true) undef undef (.bool true) M) (k (.bool (decide (x0 > 1048576))) (.bool false) (.int .i64 x0) (.bool (decide (x0 > 1048576))) (.bool (decide (x0 > 1048576))) M) := by kernel_rfl
theorem k65_4 : P65 [1,1] = .ret := by kernel_rfl
theorem e65 {M : Mem} : finish Try.prog Try.f65 #[g0,g1,g2,g3,g4,g5,g6,g7,g8] M = some (g2, M) := by kernel_rfl
theorem w65_0 {x0 : Int} {M : Mem} {Q : Value → Mem → Prop} (H :
    ((x0 < (-1048576) →
     Q (.bool true) M) ∧
     (¬ (x0 < (-1048576)) →
     Q (.bool (decide (x0 > 1048576))) M))) :
    Cn Try.prog 65 #[.int .i64 x0] M Q := by
  refine Cn.of b65 d65 t65 ?_
  refine Rn.seq k65_0 (Rn.region k65_1 (fun call K => r65_0) (Rch.leaf (Rn.seq k65_2 (Rn.region k65_3 (fun call K => r65_1) ?_))))
  refine Rch.cB (fun h => ?_) (fun h => ?_)
  · replace H := H.1 (of_decide_eq_true h)
    refine Rch.leaf ?_
    exact Rn.ret k65_4 e65 H
  · replace H := H.2 (of_decide_eq_false h)
    refine Rch.leaf ?_
    exact Rn.ret k65_4 e65 H


/-! ### zoetrope/basis.asked: function 52 -/
noncomputable abbrev P52 (p : List Nat) : Code := subC (codeOf Try.f52) p
noncomputable abbrev O52 (p : List Nat) : Array Oper := opsOf (subC (codeOf Try.f52) p)
theorem b52 : Try.prog.funcs[52]? = some Try.f52 ∧ (Orc.tab Try.prog).lookup 52 = none := ⟨by kernel_rfl, by kernel_rfl⟩
theorem d52 : Try.f52.body = some (P52 []) := by kernel_rfl
theorem t52 {x0 : Int} {Ax1 : Option Addr} {lx1 cx1 : Nat} : #[.int .i64 x0,.slice Ax1 lx1 cx1] ++ Array.replicate (Try.f52.ntmps - (#[.int .i64 x0,.slice Ax1 lx1 cx1] : Array Value).size) undef = #[.int .i64 x0,.slice Ax1 lx1 cx1,undef,undef,undef,undef,undef,undef,undef,undef,undef,undef,undef,undef,undef,undef,undef,undef,undef,undef,undef,undef,undef,undef,undef,undef,undef,undef,undef,undef,undef,undef,undef,undef,undef,undef] := by kernel_rfl
theorem k52_0 : P52 [] = .seq (P52 [0]) (P52 [1]) := by kernel_rfl
theorem k52_1 : P52 [0] = .region 0 (O52 [0]) false := by kernel_rfl
theorem r52_0 {M : Mem} {call : CallM} {K : Array Value → Mem → R} :
    opsK Try.prog (fun _ => call) (O52 [0]) (O52 [0]).toList 0 #[g0,g1,g2,g3,g4,g5,g6,g7,g8,g9,g10,g11,g12,g13,g14,g15,g16,g17,g18,g19,g20,g21,g22,g23,g24,g25,g26,g27,g28,g29,g30,g31,g32,g33,g34,g35] M K = K #[g0,g1,g2,g3,.pointer (some ⟨2 * M.nb.size, 0, none⟩),.bool false,g6,g7,g8,g9,g10,g11,g12,g13,g14,g15,g16,g17,g18,g19,g20,g21,g22,g23,g24,g25,g26,g27,g28,g29,g30,g31,g32,g33,g34,g35] (M.new (.cells #[.int .i64 0, .nilFunc] 54)) := by kernel_rfl
theorem k52_2 : P52 [1] = .seq (P52 [1,0]) (P52 [1,1]) := by kernel_rfl
theorem k52_3 : P52 [1,0] = .region 1 (O52 [1,0]) false := by kernel_rfl
theorem r52_1 {Ax1 : Option Addr} {lx1 cx1 : Nat} {M : Mem} {call : CallM} {K : Array Value → Mem → R} :
    opsK Try.prog (fun _ => call) (O52 [1,0]) (O52 [1,0]).toList 0 #[g0,.slice Ax1 lx1 cx1,g2,g3,g4,g5,g6,g7,g8,g9,g10,g11,g12,g13,g14,g15,g16,g17,g18,g19,g20,g21,g22,g23,g24,g25,g26,g27,g28,g29,g30,g31,g32,g33,g34,g35] M K = K #[g0,.slice Ax1 lx1 cx1,g2,g3,g4,g5,.int .i64 ((lx1 : Int)),g7,g8,.slice Ax1 lx1 cx1,.int .i64 ((lx1 : Int)),g11,g12,g13,g14,g15,g16,g17,g18,g19,g20,g21,g22,g23,g24,g25,g26,g27,g28,g29,g30,g31,g32,g33,g34,g35] M := by kernel_rfl
theorem k52_4 : P52 [1,1] = .seq (P52 [1,1,0]) (P52 [1,1,1]) := by kernel_rfl
theorem k52_5 : P52 [1,1,0] = .region 2 (O52 [1,1,0]) false := by kernel_rfl
theorem r52_2 {x0 x6 : Int} {M : Mem} {call : CallM} {K : Array Value → Mem → R} :
    opsK Try.prog (fun _ => call) (O52 [1,1,0]) (O52 [1,1,0]).toList 0 #[.int .i64 x0,g1,g2,g3,g4,g5,.int .i64 x6,g7,g8,g9,g10,g11,g12,g13,g14,g15,g16,g17,g18,g19,g20,g21,g22,g23,g24,g25,g26,g27,g28,g29,g30,g31,g32,g33,g34,g35] M K = (call 64 #[.int .i64 x0, .int .i64 (if 1 > x6 then 1 else x6)] M).bind fun r_1 => (asA 2 r_1.1).bind fun cs_2 => (asI .i64 (cs_2.getD 0 undef)).bind fun x_3 => ((r_1.2.new (.cells #[.int .i64 0, .nilFunc] 54)).put (2 * r_1.2.nb.size) 0 (.int .i64 x_3)).bind fun M_4 => (M_4.put (2 * r_1.2.nb.size) 1 (cs_2.getD 1 undef)).bind fun M_5 => K #[.int .i64 x0,g1,g2,g3,g4,g5,.int .i64 x6,.pointer (some ⟨2 * r_1.2.nb.size, 0, none⟩),g8,g9,g10,.int .i64 x0,.int .i64 x6,.int .i64 (if 1 > x6 then 1 else x6),.agg #[.int .i64 x_3, cs_2.getD 1 undef],g15,g16,g17,g18,g19,g20,g21,g22,g23,g24,g25,g26,g27,g28,g29,g30,g31,g32,g33,g34,g35] M_5 := by kernel_rfl
theorem k52_6 : P52 [1,1,1] = .seq (P52 [1,1,1,0]) (P52 [1,1,1,1]) := by kernel_rfl
theorem k52_7 : P52 [1,1,1,0] = .seq (P52 [1,1,1,0,0]) (P52 [1,1,1,0,1]) := by kernel_rfl
theorem k52_8 : P52 [1,1,1,0,0] = .region 3 (O52 [1,1,1,0,0]) false := by kernel_rfl
theorem r52_3 {x6 : Int} {x7 : Option Addr} {M : Mem} {call : CallM} {K : Array Value → Mem → R} :
    opsK Try.prog (fun _ => call) (O52 [1,1,1,0,0]) (O52 [1,1,1,0,0]).toList 0 #[g0,g1,g2,g3,g4,g5,.int .i64 x6,.pointer x7,g8,g9,g10,g11,g12,g13,g14,g15,g16,g17,g18,g19,g20,g21,g22,g23,g24,g25,g26,g27,g28,g29,g30,g31,g32,g33,g34,g35] M K = withK (fun w17 w18 w19 w20 w21 w22 w23 w24 w25 w26 w27 w28 w29 M => K #[g0,g1,g2,g3,g4,g5,.int .i64 x6,.pointer x7,g8,g9,g10,g11,g12,g13,g14,.int .i64 x6,.bool (decide (x6 < 4)),w17,w18,w19,w20,w21,w22,w23,w24,w25,w26,w27,w28,w29,g30,g31,g32,g33,g34,g35] M) fun k => cond (decide (x6 < 4)) (k (.bool true) undef undef undef undef (.bool true) (.bool true) undef undef undef undef undef (.bool true) M) ((x7).bind fun a_1 => (M.intAt .i64 a_1.block a_1.off).bind fun x_2 => cond (decide (x6 > x_2)) (k (.bool false) (.int .i64 x6) (.pointer (some ⟨a_1.block, a_1.off, none⟩)) (.int .i64 x_2) (.bool (decide (x6 > x_2))) (.bool (decide (x6 > x_2))) (.bool true) undef undef undef undef undef (.bool true) M) (k (.bool false) (.int .i64 x6) (.pointer (some ⟨a_1.block, a_1.off, none⟩)) (.int .i64 x_2) (.bool (decide (x6 > x_2))) (.bool (decide (x6 > x_2))) (.bool false) (.int .i64 x6) (.int .i64 x6) (.int .i64 (IntKind.i64.wrap (x6 - 1))) (.int .i64 (IntKind.i64.wrap (((BitVec.ofInt (IntKind.bits .i64) x6 &&& BitVec.ofInt (IntKind.bits .i64) (IntKind.i64.wrap (x6 - 1))).toNat : Int)))) (.bool ((IntKind.i64.wrap (((BitVec.ofInt (IntKind.bits .i64) x6 &&& BitVec.ofInt (IntKind.bits .i64) (IntKind.i64.wrap (x6 - 1))).toNat : Int))) != 0)) (.bool ((IntKind.i64.wrap (((BitVec.ofInt (IntKind.bits .i64) x6 &&& BitVec.ofInt (IntKind.bits .i64) (IntKind.i64.wrap (x6 - 1))).toNat : Int))) != 0)) M)) := by kernel_rfl
theorem c52_9 : P52 [1,1,1,0,1] = .cond (.tmp 29) (P52 [1,1,1,0,1,0]) (P52 [1,1,1,0,1,1]) := by kernel_rfl
theorem k52_10 : P52 [1,1,1,0,1,0] = .seq (P52 [1,1,1,0,1,0,0]) (P52 [1,1,1,0,1,0,1]) := by kernel_rfl
theorem k52_11 : P52 [1,1,1,0,1,0,0] = .region 4 (O52 [1,1,1,0,1,0,0]) false := by kernel_rfl
theorem r52_4 {x4 x7 : Option Addr} {M : Mem} {call : CallM} {K : Array Value → Mem → R} :
    opsK Try.prog (fun _ => call) (O52 [1,1,1,0,1,0,0]) (O52 [1,1,1,0,1,0,0]).toList 0 #[g0,g1,g2,g3,.pointer x4,g5,g6,.pointer x7,g8,g9,g10,g11,g12,g13,g14,g15,g16,g17,g18,g19,g20,g21,g22,g23,g24,g25,g26,g27,g28,g29,g30,g31,g32,g33,g34,g35] M K = (x7).bind fun a_1 => (M.intAt .i64 a_1.block a_1.off).bind fun x_2 => (M.cell a_1.block (a_1.off + 1)).bind fun v_3 => (x4).bind fun a_4 => (M.put a_4.block a_4.off (.int .i64 x_2)).bind fun M_5 => (M_5.put a_4.block (a_4.off + 1) v_3).bind fun M_6 => K #[g0,g1,g2,g3,.pointer x4,.bool false,g6,.pointer x7,g8,g9,g10,g11,g12,g13,g14,g15,g16,g17,g18,g19,g20,g21,g22,g23,g24,g25,g26,g27,g28,g29,.agg #[.int .i64 x_2, v_3],g31,g32,g33,g34,g35] M_6 := by kernel_rfl
theorem k52_12 : P52 [1,1,1,0,1,0,1] = .ret := by kernel_rfl
theorem e52_0 {x4 : Option Addr} {x5 : Bool} {M : Mem} {K : List Value → R} : resK Try.prog #[g0,g1,g2,g3,.pointer x4,.bool x5,g6,g7,g8,g9,g10,g11,g12,g13,g14,g15,g16,g17,g18,g19,g20,g21,g22,g23,g24,g25,g26,g27,g28,g29,g30,g31,g32,g33,g34,g35] M (Try.f52).results.toList K = (x4).bind fun a_1 => (M.intAt .i64 a_1.block a_1.off).bind fun x_2 => (M.cell a_1.block (a_1.off + 1)).bind fun v_3 => K [.agg #[.int .i64 x_2, v_3], .bool x5] := by kernel_rfl
theorem k52_14 : P52 [1,1,1,0,1,1] = .skip := by kernel_rfl
theorem k52_15 : P52 [1,1,1,1] = .seq (P52 [1,1,1,1,0]) (P52 [1,1,1,1,1]) := by kernel_rfl
theorem k52_16 : P52 [1,1,1,1,0] = .region 5 (O52 [1,1,1,1,0]) false := by kernel_rfl
theorem r52_5 {M : Mem} {call : CallM} {K : Array Value → Mem → R} :
    opsK Try.prog (fun _ => call) (O52 [1,1,1,1,0]) (O52 [1,1,1,1,0]).toList 0 #[g0,g1,g2,g3,g4,g5,g6,g7,g8,g9,g10,g11,g12,g13,g14,g15,g16,g17,g18,g19,g20,g21,g22,g23,g24,g25,g26,g27,g28,g29,g30,g31,g32,g33,g34,g35] M K = K #[g0,g1,g2,g3,g4,g5,g6,g7,.func (.func 65) #[] #[],g9,g10,g11,g12,g13,g14,g15,g16,g17,g18,g19,g20,g21,g22,g23,g24,g25,g26,g27,g28,g29,g30,g31,g32,g33,g34,g35] M := by kernel_rfl
theorem k52_17 : P52 [1,1,1,1,1] = .seq (P52 [1,1,1,1,1,0]) (P52 [1,1,1,1,1,1]) := by kernel_rfl
theorem k52_18 : P52 [1,1,1,1,1,0] = .region 6 (O52 [1,1,1,1,1,0]) true ∧ drawOk (O52 [1,1,1,1,1,0]) = true := ⟨by kernel_rfl, by kernel_rfl⟩
theorem r52_6 {Ax1 : Option Addr} {lx1 cx1 : Nat} {x4 x7 : Option Addr} {M : Mem} {call : CallM} {K : Array Value → Mem → R} :
    opsI Try.prog (callAt call (O52 [1,1,1,1,1,0])) (O52 [1,1,1,1,1,0]) (ordOf (O52 [1,1,1,1,1,0])) [] #[g0,.slice Ax1 lx1 cx1,g2,g3,.pointer x4,g5,g6,.pointer x7,.func (.func 65) #[] #[],g9,g10,g11,g12,g13,g14,g15,g16,g17,g18,g19,g20,g21,g22,g23,g24,g25,g26,g27,g28,g29,g30,g31,g32,g33,g34,g35] M K = (x7).bind fun a_1 => (M.intAt .i64 a_1.block a_1.off).bind fun x_2 => (M.cell a_1.block (a_1.off + 1)).bind fun v_3 => (floored call 66 #[.slice Ax1 lx1 cx1, .func (.func 65) #[] #[]] M).bind fun r_4 => (asB r_4.1).bind fun b_5 => (x4).bind fun a_6 => (r_4.2.put a_6.block a_6.off (.int .i64 x_2)).bind fun M_7 => (M_7.put a_6.block (a_6.off + 1) v_3).bind fun M_8 => K #[g0,.slice Ax1 lx1 cx1,g2,g3,.pointer x4,.bool (!b_5),g6,.pointer x7,.func (.func 65) #[] #[],g9,g10,g11,g12,g13,g14,g15,g16,g17,g18,g19,g20,g21,g22,g23,g24,g25,g26,g27,g28,g29,g30,.agg #[.int .i64 x_2, v_3],.slice Ax1 lx1 cx1,.func (.func 65) #[] #[],.bool b_5,.bool (!b_5)] M_8 := by kernel_rfl
theorem k52_19 : P52 [1,1,1,1,1,1] = .ret := by kernel_rfl
noncomputable def S52_1 : List Item := [.code (P52 [1,1,1,0,1]), .code (P52 [1,1,1,1])]
def A52_1 (Ax1 : Option Addr) (lx1 cx1 : Nat) (x4 x7 : Option Addr) (x29 : Bool) (M : Mem) (Q : Value → Mem → Prop) : Prop := ∀ (g0 g2 g3 g5 g6 g8 g9 g10 g11 g12 g13 g14 g15 g16 g17 g18 g19 g20 g21 g22 g23 g24 g25 g26 g27 g28 g30 g31 g32 g33 g34 g35 : Value), Rn Try.prog Try.f52 S52_1 #[g0, .slice Ax1 lx1 cx1, g2, g3, .pointer x4, g5, g6, .pointer x7, g8, g9, g10, g11, g12, g13, g14, g15, g16, g17, g18, g19, g20, g21, g22, g23, g24, g25, g26, g27, g28, .bool x29, g30, g31, g32, g33, g34, g35] M Q
theorem w52_0 {x0 : Int} {Ax1 : Option Addr} {lx1 cx1 : Nat} {M : Mem} {Q : Value → Mem → Prop} (H :
    Cn Try.prog 64 #[.int .i64 x0, .int .i64 (if 1 > (lx1 : Int) then 1 else (lx1 : Int))] (M.new (.cells #[.int .i64 0, .nilFunc] 54)) fun v1' N1' =>
     ∃ cs2', asA 2 v1' = some cs2' ∧
     ∃ x3', asI .i64 (cs2'.getD 0 undef) = some x3' ∧
     ∃ M4', (N1'.new (.cells #[.int .i64 0, .nilFunc] 54)).put (2 * N1'.nb.size) 0 (.int .i64 x3') = some M4' ∧
     ∃ M5', M4'.put (2 * N1'.nb.size) 1 (cs2'.getD 1 undef) = some M5' ∧
     (((lx1 : Int) < 4 →
      A52_1 Ax1 lx1 cx1 (some ⟨2 * M.nb.size, 0, none⟩) (some ⟨2 * N1'.nb.size, 0, none⟩) true M5' Q) ∧
      (¬ ((lx1 : Int) < 4) →
      ∃ x6', M5'.intAt .i64 (2 * N1'.nb.size) 0 = some x6' ∧
      (((lx1 : Int) > x6' →
       A52_1 Ax1 lx1 cx1 (some ⟨2 * M.nb.size, 0, none⟩) (some ⟨2 * N1'.nb.size, 0, none⟩) true M5' Q) ∧
       (¬ ((lx1 : Int) > x6') →
       A52_1 Ax1 lx1 cx1 (some ⟨2 * M.nb.size, 0, none⟩) (some ⟨2 * N1'.nb.size, 0, none⟩) ((IntKind.i64.wrap (((BitVec.ofInt (IntKind.bits .i64) (lx1 : Int) &&& BitVec.ofInt (IntKind.bits .i64) (IntKind.i64.wrap ((lx1 : Int) - 1))).toNat : Int))) != 0) M5' Q))))) :
    Cn Try.prog 52 #[.int .i64 x0, .slice Ax1 lx1 cx1] M Q := by
  refine Cn.of b52 d52 t52 ?_
  refine Rn.seq k52_0 (Rn.region k52_1 (fun call K => r52_0) (Rch.leaf (Rn.seq k52_2 (Rn.region k52_3 (fun call K => r52_1) (Rch.leaf (Rn.seq k52_4 (Rn.region k52_5 (fun call K => r52_2) (Rch.call H fun v1' N1' H => Rch.ex H fun cs2' H => Rch.ex H fun x3' H => Rch.ex H fun M4' H => ?_))))))))
  refine Rch.ex H fun M5' H => Rch.leaf (Rn.seq k52_6 (Rn.seq k52_7 (Rn.region k52_8 (fun call K => r52_3) ?_)))
  refine Rch.cB (fun h => ?_) (fun h => ?_)
  · replace H := H.1 (of_decide_eq_true h)
    refine Rch.leaf ?_
    exact H _ _ _ _ _ _ _ _ _ _ _ _ _ _ _ _ _ _ _ _ _ _ _ _ _ _ _ _ _ _ _ _
  · replace H := H.2 (of_decide_eq_false h)
    refine Rch.bind (x := ⟨2 * N1'.nb.size, 0, none⟩) rfl (Rch.ex H fun x6' H => ?_)
    refine Rch.cB (fun h => ?_) (fun h => ?_)
    · replace H := H.1 (of_decide_eq_true h)
      refine Rch.leaf ?_
      exact H _ _ _ _ _ _ _ _ _ _ _ _ _ _ _ _ _ _ _ _ _ _ _ _ _ _ _ _ _ _ _ _
    · replace H := H.2 (of_decide_eq_false h)
      refine Rch.leaf ?_
      exact H _ _ _ _ _ _ _ _ _ _ _ _ _ _ _ _ _ _ _ _ _ _ _ _ _ _ _ _ _ _ _ _

theorem w52_1 {Ax1 : Option Addr} {lx1 cx1 : Nat} {x4 x7 : Option Addr} {x29 : Bool} {M : Mem} {Q : Value → Mem → Prop} (H :
    ((x29 = true →
     ∃ a7', x7 = some a7' ∧
     ∃ x8', M.intAt .i64 a7'.block a7'.off = some x8' ∧
     ∃ v9', M.cell a7'.block (a7'.off + 1) = some v9' ∧
     ∃ a10', x4 = some a10' ∧
     ∃ M11', M.put a10'.block a10'.off (.int .i64 x8') = some M11' ∧
     ∃ M12', M11'.put a10'.block (a10'.off + 1) v9' = some M12' ∧
     ∃ a13', x4 = some a13' ∧
     ∃ x14', M12'.intAt .i64 a13'.block a13'.off = some x14' ∧
     ∃ v15', M12'.cell a13'.block (a13'.off + 1) = some v15' ∧
     Q (.tuple #[.agg #[.int .i64 (x14'), v15'], .bool false]) M12') ∧
     (x29 = false →
     ∃ a16', x7 = some a16' ∧
     ∃ x17', M.intAt .i64 a16'.block a16'.off = some x17' ∧
     ∃ v18', M.cell a16'.block (a16'.off + 1) = some v18' ∧
     Cn Try.prog 66 #[.slice Ax1 lx1 cx1, .func (.func 65) #[] #[]] { M with floor := M.nb.size } fun v19' N19' =>
      ∃ b20', asB v19' = some b20' ∧
      ∃ a21', x4 = some a21' ∧
      ∃ M22', { N19' with floor := M.floor }.put a21'.block a21'.off (.int .i64 x17') = some M22' ∧
      ∃ M23', M22'.put a21'.block (a21'.off + 1) v18' = some M23' ∧
      ∃ a24', x4 = some a24' ∧
      ∃ x25', M23'.intAt .i64 a24'.block a24'.off = some x25' ∧
      ∃ v26', M23'.cell a24'.block (a24'.off + 1) = some v26' ∧
      Q (.tuple #[.agg #[.int .i64 (x25'), v26'], .bool (!b20')]) M23'))) :
    A52_1 Ax1 lx1 cx1 x4 x7 x29 M Q := by
  intro g0 g2 g3 g5 g6 g8 g9 g10 g11 g12 g13 g14 g15 g16 g17 g18 g19 g20 g21 g22 g23 g24 g25 g26 g27 g28 g30 g31 g32 g33 g34 g35
  refine Rn.cnd (v := x29) ⟨c52_9, rfl, by kernel_rfl⟩ (fun h => ?_) (fun h => ?_)
  · replace H := H.1 (h)
    refine Rn.seq k52_10 (Rn.region k52_11 (fun call K => r52_4) (Rch.ex H fun a7' H => Rch.ex H fun x8' H => Rch.ex H fun v9' H => Rch.ex H fun a10' H => Rch.ex H fun M11' H => Rch.ex H fun M12' H => Rch.leaf (Rn.retK k52_12 (fun K => e52_0) (Rch.ex H fun a13' H => Rch.ex H fun x14' H => ?_))))
    refine Rch.ex H fun v15' H => ?_
    exact Rch.fin H
  · replace H := H.2 (h)
    refine Rn.skip k52_14 (Rn.seq k52_15 (Rn.region k52_16 (fun call K => r52_5) (Rch.leaf (Rn.seq k52_17 (Rn.regionD k52_18 (fun call K => r52_6) (Rch.ex H fun a16' H => Rch.ex H fun x17' H => Rch.ex H fun v18' H => Rch.callF H fun v19' N19' H => Rch.ex H fun b20' H => Rch.ex H fun a21' H => ?_))))))
    refine Rch.ex H fun M22' H => Rch.ex H fun M23' H => Rch.leaf (Rn.retK k52_19 (fun K => e52_0) (Rch.ex H fun a24' H => Rch.ex H fun x25' H => Rch.ex H fun v26' H => ?_))
    exact Rch.fin H


/-! ### zoetrope/basis.round: function 54 -/
noncomputable abbrev P54 (p : List Nat) : Code := subC (codeOf Try.f54) p
noncomputable abbrev O54 (p : List Nat) : Array Oper := opsOf (subC (codeOf Try.f54) p)
theorem b54 : Try.prog.funcs[54]? = some Try.f54 ∧ (Orc.tab Try.prog).lookup 54 = none := ⟨by kernel_rfl, by kernel_rfl⟩
theorem d54 : Try.f54.body = some (P54 []) := by kernel_rfl
theorem t54 {x0 : Int} : #[.int .i64 x0] ++ Array.replicate (Try.f54.ntmps - (#[.int .i64 x0] : Array Value).size) undef = #[.int .i64 x0,undef,undef,undef,undef,undef] := by kernel_rfl
theorem k54_0 : P54 [] = .seq (P54 [0]) (P54 [1]) := by kernel_rfl
theorem k54_1 : P54 [0] = .region 0 (O54 [0]) false := by kernel_rfl
theorem r54_0 {M : Mem} {call : CallM} {K : Array Value → Mem → R} :
    opsK Try.prog (fun _ => call) (O54 [0]) (O54 [0]).toList 0 #[g0,g1,g2,g3,g4,g5] M K = K #[g0,g1,.int .i64 0,g3,g4,g5] M := by kernel_rfl
theorem k54_2 : P54 [1] = .seq (P54 [1,0]) (P54 [1,1]) := by kernel_rfl
theorem k54_3 : P54 [1,0] = .region 1 (O54 [1,0]) false := by kernel_rfl
theorem r54_1 {x0 : Int} {M : Mem} {call : CallM} {K : Array Value → Mem → R} :
    opsK Try.prog (fun _ => call) (O54 [1,0]) (O54 [1,0]).toList 0 #[.int .i64 x0,g1,g2,g3,g4,g5] M K = K #[.int .i64 x0,g1,.int .i64 ((IntKind.i64.wrap (x0 + 2048)).fdiv (2 ^ 12)),.int .i64 x0,.int .i64 (IntKind.i64.wrap (x0 + 2048)),.int .i64 ((IntKind.i64.wrap (x0 + 2048)).fdiv (2 ^ 12))] M := by kernel_rfl
theorem k54_4 : P54 [1,1] = .ret := by kernel_rfl
theorem e54 {M : Mem} : finish Try.prog Try.f54 #[g0,g1,g2,g3,g4,g5] M = some (g2, M) := by kernel_rfl
theorem w54_0 {x0 : Int} {M : Mem} {Q : Value → Mem → Prop} (H :
    Q (.int .i64 ((IntKind.i64.wrap (x0 + 2048)).fdiv (2 ^ 12))) M) :
    Cn Try.prog 54 #[.int .i64 x0] M Q := by
  refine Cn.of b54 d54 t54 ?_
  refine Rn.seq k54_0 (Rn.region k54_1 (fun call K => r54_0) (Rch.leaf (Rn.seq k54_2 (Rn.region k54_3 (fun call K => r54_1) (Rch.leaf ?_)))))
  exact Rn.ret k54_4 e54 H


/-! ### zoetrope/basis.forth: function 57 -/
noncomputable abbrev P57 (p : List Nat) : Code := subC (codeOf Try.f57) p
noncomputable abbrev O57 (p : List Nat) : Array Oper := opsOf (subC (codeOf Try.f57) p)
theorem b57 : Try.prog.funcs[57]? = some Try.f57 ∧ (Orc.tab Try.prog).lookup 57 = none := ⟨by kernel_rfl, by kernel_rfl⟩
theorem d57 : Try.f57.body = some (P57 []) := by kernel_rfl
theorem t57 {x0 x1 x2 x3 : Int} : #[.int .i64 x0,.int .i64 x1,.int .i64 x2,.int .i64 x3] ++ Array.replicate (Try.f57.ntmps - (#[.int .i64 x0,.int .i64 x1,.int .i64 x2,.int .i64 x3] : Array Value).size) undef = #[.int .i64 x0,.int .i64 x1,.int .i64 x2,.int .i64 x3,undef,undef,undef,undef,undef,undef,undef,undef,undef,undef,undef,undef,undef,undef,undef,undef,undef,undef,undef,undef,undef,undef,undef,undef,undef,undef,undef,undef,undef,undef,undef] := by kernel_rfl
theorem k57_0 : P57 [] = .seq (P57 [0]) (P57 [1]) := by kernel_rfl
theorem k57_1 : P57 [0] = .region 0 (O57 [0]) false := by kernel_rfl
theorem r57_0 {M : Mem} {call : CallM} {K : Array Value → Mem → R} :
    opsK Try.prog (fun _ => call) (O57 [0]) (O57 [0]).toList 0 #[g0,g1,g2,g3,g4,g5,g6,g7,g8,g9,g10,g11,g12,g13,g14,g15,g16,g17,g18,g19,g20,g21,g22,g23,g24,g25,g26,g27,g28,g29,g30,g31,g32,g33,g34] M K = K #[g0,g1,g2,g3,g4,g5,g6,g7,.slice none 0 0,g9,g10,g11,g12,g13,g14,g15,g16,g17,g18,g19,g20,g21,g22,g23,g24,g25,g26,g27,g28,g29,g30,g31,g32,g33,g34] M := by kernel_rfl
theorem k57_2 : P57 [1] = .seq (P57 [1,0]) (P57 [1,1]) := by kernel_rfl
theorem k57_3 : P57 [1,0] = .region 1 (O57 [1,0]) false := by kernel_rfl
theorem r57_1 {x0 x1 : Int} {M : Mem} {call : CallM} {K : Array Value → Mem → R} :
    opsK Try.prog (fun _ => call) (O57 [1,0]) (O57 [1,0]).toList 0 #[.int .i64 x0,.int .i64 x1,g2,g3,g4,g5,g6,g7,g8,g9,g10,g11,g12,g13,g14,g15,g16,g17,g18,g19,g20,g21,g22,g23,g24,g25,g26,g27,g28,g29,g30,g31,g32,g33,g34] M K = K #[.int .i64 (IntKind.i64.wrap (x0 + x1)),.int .i64 x1,g2,g3,g4,g5,g6,g7,g8,g9,.int .i64 x0,.int .i64 x1,.int .i64 (IntKind.i64.wrap (x0 + x1)),g13,g14,g15,g16,g17,g18,g19,g20,g21,g22,g23,g24,g25,g26,g27,g28,g29,g30,g31,g32,g33,g34] M := by kernel_rfl
theorem k57_4 : P57 [1,1] = .seq (P57 [1,1,0]) (P57 [1,1,1]) := by kernel_rfl
theorem k57_5 : P57 [1,1,0] = .region 2 (O57 [1,1,0]) false := by kernel_rfl
theorem r57_2 {x2 x3 : Int} {M : Mem} {call : CallM} {K : Array Value → Mem → R} :
    opsK Try.prog (fun _ => call) (O57 [1,1,0]) (O57 [1,1,0]).toList 0 #[g0,g1,.int .i64 x2,.int .i64 x3,g4,g5,g6,g7,g8,g9,g10,g11,g12,g13,g14,g15,g16,g17,g18,g19,g20,g21,g22,g23,g24,g25,g26,g27,g28,g29,g30,g31,g32,g33,g34] M K = K #[g0,g1,.int .i64 x2,.int .i64 (IntKind.i64.wrap (x3 - x2)),g4,g5,g6,g7,g8,g9,g10,g11,g12,.int .i64 x3,.int .i64 x2,.int .i64 (IntKind.i64.wrap (x3 - x2)),g16,g17,g18,g19,g20,g21,g22,g23,g24,g25,g26,g27,g28,g29,g30,g31,g32,g33,g34] M := by kernel_rfl
theorem k57_6 : P57 [1,1,1] = .seq (P57 [1,1,1,0]) (P57 [1,1,1,1]) := by kernel_rfl
theorem k57_7 : P57 [1,1,1,0] = .region 3 (O57 [1,1,1,0]) false := by kernel_rfl
theorem r57_3 {x0 x3 : Int} {M : Mem} {call : CallM} {K : Array Value → Mem → R} :
    opsK Try.prog (fun _ => call) (O57 [1,1,1,0]) (O57 [1,1,1,0]).toList 0 #[.int .i64 x0,g1,g2,.int .i64 x3,g4,g5,g6,g7,g8,g9,g10,g11,g12,g13,g14,g15,g16,g17,g18,g19,g20,g21,g22,g23,g24,g25,g26,g27,g28,g29,g30,g31,g32,g33,g34] M K = K #[.int .i64 x0,g1,g2,.int .i64 x3,g4,g5,g6,g7,g8,.int .i64 ((IntKind.i64.wrap (x0 - x3)).fdiv (2 ^ 1)),g10,g11,g12,g13,g14,g15,.int .i64 x0,.int .i64 x3,.int .i64 (IntKind.i64.wrap (x0 - x3)),.int .i64 ((IntKind.i64.wrap (x0 - x3)).fdiv (2 ^ 1)),g20,g21,g22,g23,g24,g25,g26,g27,g28,g29,g30,g31,g32,g33,g34] M := by kernel_rfl
theorem k57_8 : P57 [1,1,1,1] = .seq (P57 [1,1,1,1,0]) (P57 [1,1,1,1,1]) := by kernel_rfl
theorem k57_9 : P57 [1,1,1,1,0] = .region 4 (O57 [1,1,1,1,0]) false := by kernel_rfl
theorem r57_4 {x1 x2 x9 : Int} {M : Mem} {call : CallM} {K : Array Value → Mem → R} :
    opsK Try.prog (fun _ => call) (O57 [1,1,1,1,0]) (O57 [1,1,1,1,0]).toList 0 #[g0,.int .i64 x1,.int .i64 x2,g3,g4,g5,g6,g7,g8,.int .i64 x9,g10,g11,g12,g13,g14,g15,g16,g17,g18,g19,g20,g21,g22,g23,g24,g25,g26,g27,g28,g29,g30,g31,g32,g33,g34] M K = K #[g0,.int .i64 (IntKind.i64.wrap (x9 - x1)),.int .i64 (IntKind.i64.wrap (x9 - x2)),g3,g4,g5,g6,g7,g8,.int .i64 x9,g10,g11,g12,g13,g14,g15,g16,g17,g18,g19,.int .i64 x9,.int .i64 x1,.int .i64 (IntKind.i64.wrap (x9 - x1)),.int .i64 x9,.int .i64 x2,.int .i64 (IntKind.i64.wrap (x9 - x2)),g26,g27,g28,g29,g30,g31,g32,g33,g34] M := by kernel_rfl
theorem k57_10 : P57 [1,1,1,1,1] = .seq (P57 [1,1,1,1,1,0]) (P57 [1,1,1,1,1,1]) := by kernel_rfl
theorem k57_11 : P57 [1,1,1,1,1,0] = .region 5 (O57 [1,1,1,1,1,0]) false := by kernel_rfl
theorem r57_5 {x0 x1 x2 x3 : Int} {M : Mem} {call : CallM} {K : Array Value → Mem → R} :
    opsK Try.prog (fun _ => call) (O57 [1,1,1,1,1,0]) (O57 [1,1,1,1,1,0]).toList 0 #[.int .i64 x0,.int .i64 x1,.int .i64 x2,.int .i64 x3,g4,g5,g6,g7,g8,g9,g10,g11,g12,g13,g14,g15,g16,g17,g18,g19,g20,g21,g22,g23,g24,g25,g26,g27,g28,g29,g30,g31,g32,g33,g34] M K = K #[.int .i64 x0,.int .i64 x1,.int .i64 x2,.int .i64 x3,g4,g5,g6,g7,.slice (some ⟨2 * M.nb.size, 0, none⟩) 4 4,g9,g10,g11,g12,g13,g14,g15,g16,g17,g18,g19,g20,g21,g22,g23,g24,g25,.int .i64 x0,.int .i64 x2,.int .i64 (IntKind.i64.wrap (x0 - x2)),.int .i64 x2,.int .i64 x3,.int .i64 x1,.int .i64 (IntKind.i64.wrap (x3 + x1)),.int .i64 x1,.slice (some ⟨2 * M.nb.size, 0, none⟩) 4 4] (M.new (.cells #[.int .i64 (IntKind.i64.wrap (x0 - x2)), .int .i64 x2, .int .i64 (IntKind.i64.wrap (x3 + x1)), .int .i64 x1] 3)) := by kernel_rfl
theorem k57_12 : P57 [1,1,1,1,1,1] = .ret := by kernel_rfl
theorem e57 {M : Mem} : finish Try.prog Try.f57 #[g0,g1,g2,g3,g4,g5,g6,g7,g8,g9,g10,g11,g12,g13,g14,g15,g16,g17,g18,g19,g20,g21,g22,g23,g24,g25,g26,g27,g28,g29,g30,g31,g32,g33,g34] M = some (g8, M) := by kernel_rfl
theorem w57_0 {x0 x1 x2 x3 : Int} {M : Mem} {Q : Value → Mem → Prop} (H :
    Q (.slice (some ⟨2 * M.nb.size, 0, none⟩) 4 4) (M.new (.cells #[.int .i64 (IntKind.i64.wrap ((IntKind.i64.wrap (x0 + x1)) - (IntKind.i64.wrap (((IntKind.i64.wrap ((IntKind.i64.wrap (x0 + x1)) - (IntKind.i64.wrap (x3 - x2)))).fdiv (2 ^ 1)) - x2)))), .int .i64 (IntKind.i64.wrap (((IntKind.i64.wrap ((IntKind.i64.wrap (x0 + x1)) - (IntKind.i64.wrap (x3 - x2)))).fdiv (2 ^ 1)) - x2)), .int .i64 (IntKind.i64.wrap ((IntKind.i64.wrap (x3 - x2)) + (IntKind.i64.wrap (((IntKind.i64.wrap ((IntKind.i64.wrap (x0 + x1)) - (IntKind.i64.wrap (x3 - x2)))).fdiv (2 ^ 1)) - x1)))), .int .i64 (IntKind.i64.wrap (((IntKind.i64.wrap ((IntKind.i64.wrap (x0 + x1)) - (IntKind.i64.wrap (x3 - x2)))).fdiv (2 ^ 1)) - x1))] 3))) :
    Cn Try.prog 57 #[.int .i64 x0, .int .i64 x1, .int .i64 x2, .int .i64 x3] M Q := by
  refine Cn.of b57 d57 t57 ?_
  refine Rn.seq k57_0 (Rn.region k57_1 (fun call K => r57_0) (Rch.leaf (Rn.seq k57_2 (Rn.region k57_3 (fun call K => r57_1) (Rch.leaf (Rn.seq k57_4 (Rn.region k57_5 (fun call K => r57_2) (Rch.leaf (Rn.seq k57_6 (Rn.region k57_7 (fun call K => r57_3) (Rch.leaf ?_)))))))))))
  refine Rn.seq k57_8 (Rn.region k57_9 (fun call K => r57_4) (Rch.leaf (Rn.seq k57_10 (Rn.region k57_11 (fun call K => r57_5) (Rch.leaf ?_)))))
  exact Rn.ret k57_12 e57 H


/-! ### zoetrope/basis.back: function 53 -/
noncomputable abbrev P53 (p : List Nat) : Code := subC (codeOf Try.f53) p
noncomputable abbrev O53 (p : List Nat) : Array Oper := opsOf (subC (codeOf Try.f53) p)
theorem b53 : Try.prog.funcs[53]? = some Try.f53 ∧ (Orc.tab Try.prog).lookup 53 = none := ⟨by kernel_rfl, by kernel_rfl⟩
theorem d53 : Try.f53.body = some (P53 []) := by kernel_rfl
theorem t53 {x0 x1 x2 x3 : Int} : #[.int .i64 x0,.int .i64 x1,.int .i64 x2,.int .i64 x3] ++ Array.replicate (Try.f53.ntmps - (#[.int .i64 x0,.int .i64 x1,.int .i64 x2,.int .i64 x3] : Array Value).size) undef = #[.int .i64 x0,.int .i64 x1,.int .i64 x2,.int .i64 x3,undef,undef,undef,undef,undef,undef,undef,undef,undef,undef,undef,undef,undef,undef,undef,undef,undef,undef,undef,undef,undef,undef,undef,undef,undef,undef,undef,undef,undef,undef,undef] := by kernel_rfl
theorem k53_0 : P53 [] = .seq (P53 [0]) (P53 [1]) := by kernel_rfl
theorem k53_1 : P53 [0] = .region 0 (O53 [0]) false := by kernel_rfl
theorem r53_0 {M : Mem} {call : CallM} {K : Array Value → Mem → R} :
    opsK Try.prog (fun _ => call) (O53 [0]) (O53 [0]).toList 0 #[g0,g1,g2,g3,g4,g5,g6,g7,g8,g9,g10,g11,g12,g13,g14,g15,g16,g17,g18,g19,g20,g21,g22,g23,g24,g25,g26,g27,g28,g29,g30,g31,g32,g33,g34] M K = K #[g0,g1,g2,g3,g4,g5,g6,g7,.slice none 0 0,g9,g10,g11,g12,g13,g14,g15,g16,g17,g18,g19,g20,g21,g22,g23,g24,g25,g26,g27,g28,g29,g30,g31,g32,g33,g34] M := by kernel_rfl
theorem k53_2 : P53 [1] = .seq (P53 [1,0]) (P53 [1,1]) := by kernel_rfl
theorem k53_3 : P53 [1,0] = .region 1 (O53 [1,0]) false := by kernel_rfl
theorem r53_1 {x0 x1 : Int} {M : Mem} {call : CallM} {K : Array Value → Mem → R} :
    opsK Try.prog (fun _ => call) (O53 [1,0]) (O53 [1,0]).toList 0 #[.int .i64 x0,.int .i64 x1,g2,g3,g4,g5,g6,g7,g8,g9,g10,g11,g12,g13,g14,g15,g16,g17,g18,g19,g20,g21,g22,g23,g24,g25,g26,g27,g28,g29,g30,g31,g32,g33,g34] M K = K #[.int .i64 (IntKind.i64.wrap (x0 + x1)),.int .i64 x1,g2,g3,g4,g5,g6,g7,g8,g9,.int .i64 x0,.int .i64 x1,.int .i64 (IntKind.i64.wrap (x0 + x1)),g13,g14,g15,g16,g17,g18,g19,g20,g21,g22,g23,g24,g25,g26,g27,g28,g29,g30,g31,g32,g33,g34] M := by kernel_rfl
theorem k53_4 : P53 [1,1] = .seq (P53 [1,1,0]) (P53 [1,1,1]) := by kernel_rfl
theorem k53_5 : P53 [1,1,0] = .region 2 (O53 [1,1,0]) false := by kernel_rfl
theorem r53_2 {x2 x3 : Int} {M : Mem} {call : CallM} {K : Array Value → Mem → R} :
    opsK Try.prog (fun _ => call) (O53 [1,1,0]) (O53 [1,1,0]).toList 0 #[g0,g1,.int .i64 x2,.int .i64 x3,g4,g5,g6,g7,g8,g9,g10,g11,g12,g13,g14,g15,g16,g17,g18,g19,g20,g21,g22,g23,g24,g25,g26,g27,g28,g29,g30,g31,g32,g33,g34] M K = K #[g0,g1,.int .i64 (IntKind.i64.wrap (x2 - x3)),.int .i64 x3,g4,g5,g6,g7,g8,g9,g10,g11,g12,.int .i64 x2,.int .i64 x3,.int .i64 (IntKind.i64.wrap (x2 - x3)),g16,g17,g18,g19,g20,g21,g22,g23,g24,g25,g26,g27,g28,g29,g30,g31,g32,g33,g34] M := by kernel_rfl
theorem k53_6 : P53 [1,1,1] = .seq (P53 [1,1,1,0]) (P53 [1,1,1,1]) := by kernel_rfl
theorem k53_7 : P53 [1,1,1,0] = .region 3 (O53 [1,1,1,0]) false := by kernel_rfl
theorem r53_3 {x0 x2 : Int} {M : Mem} {call : CallM} {K : Array Value → Mem → R} :
    opsK Try.prog (fun _ => call) (O53 [1,1,1,0]) (O53 [1,1,1,0]).toList 0 #[.int .i64 x0,g1,.int .i64 x2,g3,g4,g5,g6,g7,g8,g9,g10,g11,g12,g13,g14,g15,g16,g17,g18,g19,g20,g21,g22,g23,g24,g25,g26,g27,g28,g29,g30,g31,g32,g33,g34] M K = K #[.int .i64 x0,g1,.int .i64 x2,g3,g4,g5,g6,g7,g8,.int .i64 ((IntKind.i64.wrap (x0 - x2)).fdiv (2 ^ 1)),g10,g11,g12,g13,g14,g15,.int .i64 x0,.int .i64 x2,.int .i64 (IntKind.i64.wrap (x0 - x2)),.int .i64 ((IntKind.i64.wrap (x0 - x2)).fdiv (2 ^ 1)),g20,g21,g22,g23,g24,g25,g26,g27,g28,g29,g30,g31,g32,g33,g34] M := by kernel_rfl
theorem k53_8 : P53 [1,1,1,1] = .seq (P53 [1,1,1,1,0]) (P53 [1,1,1,1,1]) := by kernel_rfl
theorem k53_9 : P53 [1,1,1,1,0] = .region 4 (O53 [1,1,1,1,0]) false := by kernel_rfl
theorem r53_4 {x1 x3 x9 : Int} {M : Mem} {call : CallM} {K : Array Value → Mem → R} :
    opsK Try.prog (fun _ => call) (O53 [1,1,1,1,0]) (O53 [1,1,1,1,0]).toList 0 #[g0,.int .i64 x1,g2,.int .i64 x3,g4,g5,g6,g7,g8,.int .i64 x9,g10,g11,g12,g13,g14,g15,g16,g17,g18,g19,g20,g21,g22,g23,g24,g25,g26,g27,g28,g29,g30,g31,g32,g33,g34] M K = K #[g0,.int .i64 (IntKind.i64.wrap (x9 - x1)),g2,.int .i64 (IntKind.i64.wrap (x9 - x3)),g4,g5,g6,g7,g8,.int .i64 x9,g10,g11,g12,g13,g14,g15,g16,g17,g18,g19,.int .i64 x9,.int .i64 x3,.int .i64 (IntKind.i64.wrap (x9 - x3)),.int .i64 x9,.int .i64 x1,.int .i64 (IntKind.i64.wrap (x9 - x1)),g26,g27,g28,g29,g30,g31,g32,g33,g34] M := by kernel_rfl
theorem k53_10 : P53 [1,1,1,1,1] = .seq (P53 [1,1,1,1,1,0]) (P53 [1,1,1,1,1,1]) := by kernel_rfl
theorem k53_11 : P53 [1,1,1,1,1,0] = .region 5 (O53 [1,1,1,1,1,0]) false := by kernel_rfl
theorem r53_5 {x0 x1 x2 x3 : Int} {M : Mem} {call : CallM} {K : Array Value → Mem → R} :
    opsK Try.prog (fun _ => call) (O53 [1,1,1,1,1,0]) (O53 [1,1,1,1,1,0]).toList 0 #[.int .i64 x0,.int .i64 x1,.int .i64 x2,.int .i64 x3,g4,g5,g6,g7,g8,g9,g10,g11,g12,g13,g14,g15,g16,g17,g18,g19,g20,g21,g22,g23,g24,g25,g26,g27,g28,g29,g30,g31,g32,g33,g34] M K = K #[.int .i64 x0,.int .i64 x1,.int .i64 x2,.int .i64 x3,g4,g5,g6,g7,.slice (some ⟨2 * M.nb.size, 0, none⟩) 4 4,g9,g10,g11,g12,g13,g14,g15,g16,g17,g18,g19,g20,g21,g22,g23,g24,g25,.int .i64 x0,.int .i64 x3,.int .i64 (IntKind.i64.wrap (x0 - x3)),.int .i64 x3,.int .i64 x1,.int .i64 x2,.int .i64 x1,.int .i64 (IntKind.i64.wrap (x2 + x1)),.slice (some ⟨2 * M.nb.size, 0, none⟩) 4 4] (M.new (.cells #[.int .i64 (IntKind.i64.wrap (x0 - x3)), .int .i64 x3, .int .i64 x1, .int .i64 (IntKind.i64.wrap (x2 + x1))] 3)) := by kernel_rfl
theorem k53_12 : P53 [1,1,1,1,1,1] = .ret := by kernel_rfl
theorem e53 {M : Mem} : finish Try.prog Try.f53 #[g0,g1,g2,g3,g4,g5,g6,g7,g8,g9,g10,g11,g12,g13,g14,g15,g16,g17,g18,g19,g20,g21,g22,g23,g24,g25,g26,g27,g28,g29,g30,g31,g32,g33,g34] M = some (g8, M) := by kernel_rfl
theorem w53_0 {x0 x1 x2 x3 : Int} {M : Mem} {Q : Value → Mem → Prop} (H :
    Q (.slice (some ⟨2 * M.nb.size, 0, none⟩) 4 4) (M.new (.cells #[.int .i64 (IntKind.i64.wrap ((IntKind.i64.wrap (x0 + x1)) - (IntKind.i64.wrap (((IntKind.i64.wrap ((IntKind.i64.wrap (x0 + x1)) - (IntKind.i64.wrap (x2 - x3)))).fdiv (2 ^ 1)) - x3)))), .int .i64 (IntKind.i64.wrap (((IntKind.i64.wrap ((IntKind.i64.wrap (x0 + x1)) - (IntKind.i64.wrap (x2 - x3)))).fdiv (2 ^ 1)) - x3)), .int .i64 (IntKind.i64.wrap (((IntKind.i64.wrap ((IntKind.i64.wrap (x0 + x1)) - (IntKind.i64.wrap (x2 - x3)))).fdiv (2 ^ 1)) - x1)), .int .i64 (IntKind.i64.wrap ((IntKind.i64.wrap (x2 - x3)) + (IntKind.i64.wrap (((IntKind.i64.wrap ((IntKind.i64.wrap (x0 + x1)) - (IntKind.i64.wrap (x2 - x3)))).fdiv (2 ^ 1)) - x1))))] 3))) :
    Cn Try.prog 53 #[.int .i64 x0, .int .i64 x1, .int .i64 x2, .int .i64 x3] M Q := by
  refine Cn.of b53 d53 t53 ?_
  refine Rn.seq k53_0 (Rn.region k53_1 (fun call K => r53_0) (Rch.leaf (Rn.seq k53_2 (Rn.region k53_3 (fun call K => r53_1) (Rch.leaf (Rn.seq k53_4 (Rn.region k53_5 (fun call K => r53_2) (Rch.leaf (Rn.seq k53_6 (Rn.region k53_7 (fun call K => r53_3) (Rch.leaf ?_)))))))))))
  refine Rn.seq k53_8 (Rn.region k53_9 (fun call K => r53_4) (Rch.leaf (Rn.seq k53_10 (Rn.region k53_11 (fun call K => r53_5) (Rch.leaf ?_)))))
  exact Rn.ret k53_12 e53 H


/-! ### zoetrope/basis.quarter: function 68 -/
noncomputable abbrev P68 (p : List Nat) : Code := subC (codeOf Try.f68) p
noncomputable abbrev O68 (p : List Nat) : Array Oper := opsOf (subC (codeOf Try.f68) p)
theorem b68 : Try.prog.funcs[68]? = some Try.f68 ∧ (Orc.tab Try.prog).lookup 68 = none := ⟨by kernel_rfl, by kernel_rfl⟩
theorem d68 : Try.f68.body = some (P68 []) := by kernel_rfl
theorem t68 : #[] ++ Array.replicate (Try.f68.ntmps - (#[] : Array Value).size) undef = #[undef,undef] := by kernel_rfl
theorem k68_0 : P68 [] = .seq (P68 [0]) (P68 [1]) := by kernel_rfl
theorem k68_1 : P68 [0] = .region 0 (O68 [0]) false := by kernel_rfl
theorem r68_0 {M : Mem} {call : CallM} {K : Array Value → Mem → R} :
    opsK Try.prog (fun _ => call) (O68 [0]) (O68 [0]).toList 0 #[g0,g1] M K = K #[.pointer (some ⟨2 * M.nb.size, 0, none⟩),g1] (M.new (.cells #[.int .i16 0, .int .i16 0, .int .i16 0, .int .i16 0, .int .i16 0, .int .i16 0, .int .i16 0, .int .i16 0, .int .i16 0, .int .i16 0, .int .i16 0, .int .i16 0, .int .i16 0, .int .i16 0, .int .i16 0, .int .i16 0, .int .i16 0, .int .i16 0, .int .i16 0, .int .i16 0, .int .i16 0, .int .i16 0, .int .i16 0, .int .i16 0, .int .i16 0, .int .i16 0, .int .i16 0, .int .i16 0, .int .i16 0, .int .i16 0, .int .i16 0, .int .i16 0, .int .i16 0, .int .i16 0, .int .i16 0, .int .i16 0, .int .i16 0, .int .i16 0, .int .i16 0, .int .i16 0, .int .i16 0, .int .i16 0, .int .i16 0, .int .i16 0, .int .i16 0, .int .i16 0, .int .i16 0, .int .i16 0, .int .i16 0, .int .i16 0, .int .i16 0, .int .i16 0, .int .i16 0, .int .i16 0, .int .i16 0, .int .i16 0, .int .i16 0, .int .i16 0, .int .i16 0, .int .i16 0, .int .i16 0, .int .i16 0, .int .i16 0, .int .i16 0, .int .i16 0] 65)) := by kernel_rfl
theorem k68_2 : P68 [1] = .seq (P68 [1,0]) (P68 [1,1]) := by kernel_rfl
theorem k68_3 : P68 [1,0] = .region 1 (O68 [1,0]) false := by kernel_rfl
theorem r68_1 {x0 : Option Addr} {M : Mem} {call : CallM} {K : Array Value → Mem → R} :
    opsK Try.prog (fun _ => call) (O68 [1,0]) (O68 [1,0]).toList 0 #[.pointer x0,g1] M K = (x0).bind fun a_1 => (M.put a_1.block a_1.off (.int .i16 4096)).bind fun M_2 => (M_2.put a_1.block (a_1.off + 1) (.int .i16 4095)).bind fun M_3 => (M_3.put a_1.block (a_1.off + 2) (.int .i16 4091)).bind fun M_4 => (M_4.put a_1.block (a_1.off + 3) (.int .i16 4085)).bind fun M_5 => (M_5.put a_1.block (a_1.off + 4) (.int .i16 4076)).bind fun M_6 => (M_6.put a_1.block (a_1.off + 5) (.int .i16 4065)).bind fun M_7 => (M_7.put a_1.block (a_1.off + 6) (.int .i16 4052)).bind fun M_8 => (M_8.put a_1.block (a_1.off + 7) (.int .i16 4036)).bind fun M_9 => (M_9.put a_1.block (a_1.off + 8) (.int .i16 4017)).bind fun M_10 => (M_10.put a_1.block (a_1.off + 9) (.int .i16 3996)).bind fun M_11 => (M_11.put a_1.block (a_1.off + 10) (.int .i16 3973)).bind fun M_12 => (M_12.put a_1.block (a_1.off + 11) (.int .i16 3948)).bind fun M_13 => (M_13.put a_1.block (a_1.off + 12) (.int .i16 3920)).bind fun M_14 => (M_14.put a_1.block (a_1.off + 13) (.int .i16 3889)).bind fun M_15 => (M_15.put a_1.block (a_1.off + 14) (.int .i16 3857)).bind fun M_16 => (M_16.put a_1.block (a_1.off + 15) (.int .i16 3822)).bind fun M_17 => (M_17.put a_1.block (a_1.off + 16) (.int .i16 3784)).bind fun M_18 => (M_18.put a_1.block (a_1.off + 17) (.int .i16 3745)).bind fun M_19 => (M_19.put a_1.block (a_1.off + 18) (.int .i16 3703)).bind fun M_20 => (M_20.put a_1.block (a_1.off + 19) (.int .i16 3659)).bind fun M_21 => (M_21.put a_1.block (a_1.off + 20) (.int .i16 3612)).bind fun M_22 => (M_22.put a_1.block (a_1.off + 21) (.int .i16 3564)).bind fun M_23 => (M_23.put a_1.block (a_1.off + 22) (.int .i16 3513)).bind fun M_24 => (M_24.put a_1.block (a_1.off + 23) (.int .i16 3461)).bind fun M_25 => (M_25.put a_1.block (a_1.off + 24) (.int .i16 3406)).bind fun M_26 => (M_26.put a_1.block (a_1.off + 25) (.int .i16 3349)).bind fun M_27 => (M_27.put a_1.block (a_1.off + 26) (.int .i16 3290)).bind fun M_28 => (M_28.put a_1.block (a_1.off + 27) (.int .i16 3229)).bind fun M_29 => (M_29.put a_1.block (a_1.off + 28) (.int .i16 3166)).bind fun M_30 => (M_30.put a_1.block (a_1.off + 29) (.int .i16 3102)).bind fun M_31 => (M_31.put a_1.block (a_1.off + 30) (.int .i16 3035)).bind fun M_32 => (M_32.put a_1.block (a_1.off + 31) (.int .i16 2967)).bind fun M_33 => (M_33.put a_1.block (a_1.off + 32) (.int .i16 2896)).bind fun M_34 => (M_34.put a_1.block (a_1.off + 33) (.int .i16 2824)).bind fun M_35 => (M_35.put a_1.block (a_1.off + 34) (.int .i16 2751)).bind fun M_36 => (M_36.put a_1.block (a_1.off + 35) (.int .i16 2675)).bind fun M_37 => (M_37.put a_1.block (a_1.off + 36) (.int .i16 2598)).bind fun M_38 => (M_38.put a_1.block (a_1.off + 37) (.int .i16 2520)).bind fun M_39 => (M_39.put a_1.block (a_1.off + 38) (.int .i16 2440)).bind fun M_40 => (M_40.put a_1.block (a_1.off + 39) (.int .i16 2359)).bind fun M_41 => (M_41.put a_1.block (a_1.off + 40) (.int .i16 2276)).bind fun M_42 => (M_42.put a_1.block (a_1.off + 41) (.int .i16 2191)).bind fun M_43 => (M_43.put a_1.block (a_1.off + 42) (.int .i16 2106)).bind fun M_44 => (M_44.put a_1.block (a_1.off + 43) (.int .i16 2019)).bind fun M_45 => (M_45.put a_1.block (a_1.off + 44) (.int .i16 1931)).bind fun M_46 => (M_46.put a_1.block (a_1.off + 45) (.int .i16 1842)).bind fun M_47 => (M_47.put a_1.block (a_1.off + 46) (.int .i16 1751)).bind fun M_48 => (M_48.put a_1.block (a_1.off + 47) (.int .i16 1660)).bind fun M_49 => (M_49.put a_1.block (a_1.off + 48) (.int .i16 1567)).bind fun M_50 => (M_50.put a_1.block (a_1.off + 49) (.int .i16 1474)).bind fun M_51 => (M_51.put a_1.block (a_1.off + 50) (.int .i16 1380)).bind fun M_52 => (M_52.put a_1.block (a_1.off + 51) (.int .i16 1285)).bind fun M_53 => (M_53.put a_1.block (a_1.off + 52) (.int .i16 1189)).bind fun M_54 => (M_54.put a_1.block (a_1.off + 53) (.int .i16 1092)).bind fun M_55 => (M_55.put a_1.block (a_1.off + 54) (.int .i16 995)).bind fun M_56 => (M_56.put a_1.block (a_1.off + 55) (.int .i16 897)).bind fun M_57 => (M_57.put a_1.block (a_1.off + 56) (.int .i16 799)).bind fun M_58 => (M_58.put a_1.block (a_1.off + 57) (.int .i16 700)).bind fun M_59 => (M_59.put a_1.block (a_1.off + 58) (.int .i16 601)).bind fun M_60 => (M_60.put a_1.block (a_1.off + 59) (.int .i16 501)).bind fun M_61 => (M_61.put a_1.block (a_1.off + 60) (.int .i16 401)).bind fun M_62 => (M_62.put a_1.block (a_1.off + 61) (.int .i16 301)).bind fun M_63 => (M_63.put a_1.block (a_1.off + 62) (.int .i16 201)).bind fun M_64 => (M_64.put a_1.block (a_1.off + 63) (.int .i16 101)).bind fun M_65 => (M_65.put a_1.block (a_1.off + 64) (.int .i16 0)).bind fun M_66 => K #[.pointer x0,.agg #[.int .i16 4096, .int .i16 4095, .int .i16 4091, .int .i16 4085, .int .i16 4076, .int .i16 4065, .int .i16 4052, .int .i16 4036, .int .i16 4017, .int .i16 3996, .int .i16 3973, .int .i16 3948, .int .i16 3920, .int .i16 3889, .int .i16 3857, .int .i16 3822, .int .i16 3784, .int .i16 3745, .int .i16 3703, .int .i16 3659, .int .i16 3612, .int .i16 3564, .int .i16 3513, .int .i16 3461, .int .i16 3406, .int .i16 3349, .int .i16 3290, .int .i16 3229, .int .i16 3166, .int .i16 3102, .int .i16 3035, .int .i16 2967, .int .i16 2896, .int .i16 2824, .int .i16 2751, .int .i16 2675, .int .i16 2598, .int .i16 2520, .int .i16 2440, .int .i16 2359, .int .i16 2276, .int .i16 2191, .int .i16 2106, .int .i16 2019, .int .i16 1931, .int .i16 1842, .int .i16 1751, .int .i16 1660, .int .i16 1567, .int .i16 1474, .int .i16 1380, .int .i16 1285, .int .i16 1189, .int .i16 1092, .int .i16 995, .int .i16 897, .int .i16 799, .int .i16 700, .int .i16 601, .int .i16 501, .int .i16 401, .int .i16 301, .int .i16 201, .int .i16 101, .int .i16 0]] M_66 := by kernel_rfl
theorem k68_4 : P68 [1,1] = .ret := by kernel_rfl
theorem e68_0 {x0 : Option Addr} {M : Mem} {K : List Value → R} : resK Try.prog #[.pointer x0,g1] M (Try.f68).results.toList K = (x0).bind fun a_1 => (M.intAt .i16 a_1.block a_1.off).bind fun x_2 => (M.intAt .i16 a_1.block (a_1.off + 1)).bind fun x_3 => (M.intAt .i16 a_1.block (a_1.off + 2)).bind fun x_4 => (M.intAt .i16 a_1.block (a_1.off + 3)).bind fun x_5 => (M.intAt .i16 a_1.block (a_1.off + 4)).bind fun x_6 => (M.intAt .i16 a_1.block (a_1.off + 5)).bind fun x_7 => (M.intAt .i16 a_1.block (a_1.off + 6)).bind fun x_8 => (M.intAt .i16 a_1.block (a_1.off + 7)).bind fun x_9 => (M.intAt .i16 a_1.block (a_1.off + 8)).bind fun x_10 => (M.intAt .i16 a_1.block (a_1.off + 9)).bind fun x_11 => (M.intAt .i16 a_1.block (a_1.off + 10)).bind fun x_12 => (M.intAt .i16 a_1.block (a_1.off + 11)).bind fun x_13 => (M.intAt .i16 a_1.block (a_1.off + 12)).bind fun x_14 => (M.intAt .i16 a_1.block (a_1.off + 13)).bind fun x_15 => (M.intAt .i16 a_1.block (a_1.off + 14)).bind fun x_16 => (M.intAt .i16 a_1.block (a_1.off + 15)).bind fun x_17 => (M.intAt .i16 a_1.block (a_1.off + 16)).bind fun x_18 => (M.intAt .i16 a_1.block (a_1.off + 17)).bind fun x_19 => (M.intAt .i16 a_1.block (a_1.off + 18)).bind fun x_20 => (M.intAt .i16 a_1.block (a_1.off + 19)).bind fun x_21 => (M.intAt .i16 a_1.block (a_1.off + 20)).bind fun x_22 => (M.intAt .i16 a_1.block (a_1.off + 21)).bind fun x_23 => (M.intAt .i16 a_1.block (a_1.off + 22)).bind fun x_24 => (M.intAt .i16 a_1.block (a_1.off + 23)).bind fun x_25 => (M.intAt .i16 a_1.block (a_1.off + 24)).bind fun x_26 => (M.intAt .i16 a_1.block (a_1.off + 25)).bind fun x_27 => (M.intAt .i16 a_1.block (a_1.off + 26)).bind fun x_28 => (M.intAt .i16 a_1.block (a_1.off + 27)).bind fun x_29 => (M.intAt .i16 a_1.block (a_1.off + 28)).bind fun x_30 => (M.intAt .i16 a_1.block (a_1.off + 29)).bind fun x_31 => (M.intAt .i16 a_1.block (a_1.off + 30)).bind fun x_32 => (M.intAt .i16 a_1.block (a_1.off + 31)).bind fun x_33 => (M.intAt .i16 a_1.block (a_1.off + 32)).bind fun x_34 => (M.intAt .i16 a_1.block (a_1.off + 33)).bind fun x_35 => (M.intAt .i16 a_1.block (a_1.off + 34)).bind fun x_36 => (M.intAt .i16 a_1.block (a_1.off + 35)).bind fun x_37 => (M.intAt .i16 a_1.block (a_1.off + 36)).bind fun x_38 => (M.intAt .i16 a_1.block (a_1.off + 37)).bind fun x_39 => (M.intAt .i16 a_1.block (a_1.off + 38)).bind fun x_40 => (M.intAt .i16 a_1.block (a_1.off + 39)).bind fun x_41 => (M.intAt .i16 a_1.block (a_1.off + 40)).bind fun x_42 => (M.intAt .i16 a_1.block (a_1.off + 41)).bind fun x_43 => (M.intAt .i16 a_1.block (a_1.off + 42)).bind fun x_44 => (M.intAt .i16 a_1.block (a_1.off + 43)).bind fun x_45 => (M.intAt .i16 a_1.block (a_1.off + 44)).bind fun x_46 => (M.intAt .i16 a_1.block (a_1.off + 45)).bind fun x_47 => (M.intAt .i16 a_1.block (a_1.off + 46)).bind fun x_48 => (M.intAt .i16 a_1.block (a_1.off + 47)).bind fun x_49 => (M.intAt .i16 a_1.block (a_1.off + 48)).bind fun x_50 => (M.intAt .i16 a_1.block (a_1.off + 49)).bind fun x_51 => (M.intAt .i16 a_1.block (a_1.off + 50)).bind fun x_52 => (M.intAt .i16 a_1.block (a_1.off + 51)).bind fun x_53 => (M.intAt .i16 a_1.block (a_1.off + 52)).bind fun x_54 => (M.intAt .i16 a_1.block (a_1.off + 53)).bind fun x_55 => (M.intAt .i16 a_1.block (a_1.off + 54)).bind fun x_56 => (M.intAt .i16 a_1.block (a_1.off + 55)).bind fun x_57 => (M.intAt .i16 a_1.block (a_1.off + 56)).bind fun x_58 => (M.intAt .i16 a_1.block (a_1.off + 57)).bind fun x_59 => (M.intAt .i16 a_1.block (a_1.off + 58)).bind fun x_60 => (M.intAt .i16 a_1.block (a_1.off + 59)).bind fun x_61 => (M.intAt .i16 a_1.block (a_1.off + 60)).bind fun x_62 => (M.intAt .i16 a_1.block (a_1.off + 61)).bind fun x_63 => (M.intAt .i16 a_1.block (a_1.off + 62)).bind fun x_64 => (M.intAt .i16 a_1.block (a_1.off + 63)).bind fun x_65 => (M.intAt .i16 a_1.block (a_1.off + 64)).bind fun x_66 => K [.agg #[.int .i16 x_2, .int .i16 x_3, .int .i16 x_4, .int .i16 x_5, .int .i16 x_6, .int .i16 x_7, .int .i16 x_8, .int .i16 x_9, .int .i16 x_10, .int .i16 x_11, .int .i16 x_12, .int .i16 x_13, .int .i16 x_14, .int .i16 x_15, .int .i16 x_16, .int .i16 x_17, .int .i16 x_18, .int .i16 x_19, .int .i16 x_20, .int .i16 x_21, .int .i16 x_22, .int .i16 x_23, .int .i16 x_24, .int .i16 x_25, .int .i16 x_26, .int .i16 x_27, .int .i16 x_28, .int .i16 x_29, .int .i16 x_30, .int .i16 x_31, .int .i16 x_32, .int .i16 x_33, .int .i16 x_34, .int .i16 x_35, .int .i16 x_36, .int .i16 x_37, .int .i16 x_38, .int .i16 x_39, .int .i16 x_40, .int .i16 x_41, .int .i16 x_42, .int .i16 x_43, .int .i16 x_44, .int .i16 x_45, .int .i16 x_46, .int .i16 x_47, .int .i16 x_48, .int .i16 x_49, .int .i16 x_50, .int .i16 x_51, .int .i16 x_52, .int .i16 x_53, .int .i16 x_54, .int .i16 x_55, .int .i16 x_56, .int .i16 x_57, .int .i16 x_58, .int .i16 x_59, .int .i16 x_60, .int .i16 x_61, .int .i16 x_62, .int .i16 x_63, .int .i16 x_64, .int .i16 x_65, .int .i16 x_66]] := by kernel_rfl
theorem w68_0 {M : Mem} {Q : Value → Mem → Prop} (H :
    ∃ M1', (M.new (.cells #[.int .i16 0, .int .i16 0, .int .i16 0, .int .i16 0, .int .i16 0, .int .i16 0, .int .i16 0, .int .i16 0, .int .i16 0, .int .i16 0, .int .i16 0, .int .i16 0, .int .i16 0, .int .i16 0, .int .i16 0, .int .i16 0, .int .i16 0, .int .i16 0, .int .i16 0, .int .i16 0, .int .i16 0, .int .i16 0, .int .i16 0, .int .i16 0, .int .i16 0, .int .i16 0, .int .i16 0, .int .i16 0, .int .i16 0, .int .i16 0, .int .i16 0, .int .i16 0, .int .i16 0, .int .i16 0, .int .i16 0, .int .i16 0, .int .i16 0, .int .i16 0, .int .i16 0, .int .i16 0, .int .i16 0, .int .i16 0, .int .i16 0, .int .i16 0, .int .i16 0, .int .i16 0, .int .i16 0, .int .i16 0, .int .i16 0, .int .i16 0, .int .i16 0, .int .i16 0, .int .i16 0, .int .i16 0, .int .i16 0, .int .i16 0, .int .i16 0, .int .i16 0, .int .i16 0, .int .i16 0, .int .i16 0, .int .i16 0, .int .i16 0, .int .i16 0, .int .i16 0] 65)).put (2 * M.nb.size) 0 (.int .i16 4096) = some M1' ∧
    ∃ M2', M1'.put (2 * M.nb.size) (0 + 1) (.int .i16 4095) = some M2' ∧
    ∃ M3', M2'.put (2 * M.nb.size) (0 + 2) (.int .i16 4091) = some M3' ∧
    ∃ M4', M3'.put (2 * M.nb.size) (0 + 3) (.int .i16 4085) = some M4' ∧
    ∃ M5', M4'.put (2 * M.nb.size) (0 + 4) (.int .i16 4076) = some M5' ∧
    ∃ M6', M5'.put (2 * M.nb.size) (0 + 5) (.int .i16 4065) = some M6' ∧
    ∃ M7', M6'.put (2 * M.nb.size) (0 + 6) (.int .i16 4052) = some M7' ∧
    ∃ M8', M7'.put (2 * M.nb.size) (0 + 7) (.int .i16 4036) = some M8' ∧
    ∃ M9', M8'.put (2 * M.nb.size) (0 + 8) (.int .i16 4017) = some M9' ∧
    ∃ M10', M9'.put (2 * M.nb.size) (0 + 9) (.int .i16 3996) = some M10' ∧
    ∃ M11', M10'.put (2 * M.nb.size) (0 + 10) (.int .i16 3973) = some M11' ∧
    ∃ M12', M11'.put (2 * M.nb.size) (0 + 11) (.int .i16 3948) = some M12' ∧
    ∃ M13', M12'.put (2 * M.nb.size) (0 + 12) (.int .i16 3920) = some M13' ∧
    ∃ M14', M13'.put (2 * M.nb.size) (0 + 13) (.int .i16 3889) = some M14' ∧
    ∃ M15', M14'.put (2 * M.nb.size) (0 + 14) (.int .i16 3857) = some M15' ∧
    ∃ M16', M15'.put (2 * M.nb.size) (0 + 15) (.int .i16 3822) = some M16' ∧
    ∃ M17', M16'.put (2 * M.nb.size) (0 + 16) (.int .i16 3784) = some M17' ∧
    ∃ M18', M17'.put (2 * M.nb.size) (0 + 17) (.int .i16 3745) = some M18' ∧
    ∃ M19', M18'.put (2 * M.nb.size) (0 + 18) (.int .i16 3703) = some M19' ∧
    ∃ M20', M19'.put (2 * M.nb.size) (0 + 19) (.int .i16 3659) = some M20' ∧
    ∃ M21', M20'.put (2 * M.nb.size) (0 + 20) (.int .i16 3612) = some M21' ∧
    ∃ M22', M21'.put (2 * M.nb.size) (0 + 21) (.int .i16 3564) = some M22' ∧
    ∃ M23', M22'.put (2 * M.nb.size) (0 + 22) (.int .i16 3513) = some M23' ∧
    ∃ M24', M23'.put (2 * M.nb.size) (0 + 23) (.int .i16 3461) = some M24' ∧
    ∃ M25', M24'.put (2 * M.nb.size) (0 + 24) (.int .i16 3406) = some M25' ∧
    ∃ M26', M25'.put (2 * M.nb.size) (0 + 25) (.int .i16 3349) = some M26' ∧
    ∃ M27', M26'.put (2 * M.nb.size) (0 + 26) (.int .i16 3290) = some M27' ∧
    ∃ M28', M27'.put (2 * M.nb.size) (0 + 27) (.int .i16 3229) = some M28' ∧
    ∃ M29', M28'.put (2 * M.nb.size) (0 + 28) (.int .i16 3166) = some M29' ∧
    ∃ M30', M29'.put (2 * M.nb.size) (0 + 29) (.int .i16 3102) = some M30' ∧
    ∃ M31', M30'.put (2 * M.nb.size) (0 + 30) (.int .i16 3035) = some M31' ∧
    ∃ M32', M31'.put (2 * M.nb.size) (0 + 31) (.int .i16 2967) = some M32' ∧
    ∃ M33', M32'.put (2 * M.nb.size) (0 + 32) (.int .i16 2896) = some M33' ∧
    ∃ M34', M33'.put (2 * M.nb.size) (0 + 33) (.int .i16 2824) = some M34' ∧
    ∃ M35', M34'.put (2 * M.nb.size) (0 + 34) (.int .i16 2751) = some M35' ∧
    ∃ M36', M35'.put (2 * M.nb.size) (0 + 35) (.int .i16 2675) = some M36' ∧
    ∃ M37', M36'.put (2 * M.nb.size) (0 + 36) (.int .i16 2598) = some M37' ∧
    ∃ M38', M37'.put (2 * M.nb.size) (0 + 37) (.int .i16 2520) = some M38' ∧
    ∃ M39', M38'.put (2 * M.nb.size) (0 + 38) (.int .i16 2440) = some M39' ∧
    ∃ M40', M39'.put (2 * M.nb.size) (0 + 39) (.int .i16 2359) = some M40' ∧
    ∃ M41', M40'.put (2 * M.nb.size) (0 + 40) (.int .i16 2276) = some M41' ∧
    ∃ M42', M41'.put (2 * M.nb.size) (0 + 41) (.int .i16 2191) = some M42' ∧
    ∃ M43', M42'.put (2 * M.nb.size) (0 + 42) (.int .i16 2106) = some M43' ∧
    ∃ M44', M43'.put (2 * M.nb.size) (0 + 43) (.int .i16 2019) = some M44' ∧
    ∃ M45', M44'.put (2 * M.nb.size) (0 + 44) (.int .i16 1931) = some M45' ∧
    ∃ M46', M45'.put (2 * M.nb.size) (0 + 45) (.int .i16 1842) = some M46' ∧
    ∃ M47', M46'.put (2 * M.nb.size) (0 + 46) (.int .i16 1751) = some M47' ∧
    ∃ M48', M47'.put (2 * M.nb.size) (0 + 47) (.int .i16 1660) = some M48' ∧
    ∃ M49', M48'.put (2 * M.nb.size) (0 + 48) (.int .i16 1567) = some M49' ∧
    ∃ M50', M49'.put (2 * M.nb.size) (0 + 49) (.int .i16 1474) = some M50' ∧
    ∃ M51', M50'.put (2 * M.nb.size) (0 + 50) (.int .i16 1380) = some M51' ∧
    ∃ M52', M51'.put (2 * M.nb.size) (0 + 51) (.int .i16 1285) = some M52' ∧
    ∃ M53', M52'.put (2 * M.nb.size) (0 + 52) (.int .i16 1189) = some M53' ∧
    ∃ M54', M53'.put (2 * M.nb.size) (0 + 53) (.int .i16 1092) = some M54' ∧
    ∃ M55', M54'.put (2 * M.nb.size) (0 + 54) (.int .i16 995) = some M55' ∧
    ∃ M56', M55'.put (2 * M.nb.size) (0 + 55) (.int .i16 897) = some M56' ∧
    ∃ M57', M56'.put (2 * M.nb.size) (0 + 56) (.int .i16 799) = some M57' ∧
    ∃ M58', M57'.put (2 * M.nb.size) (0 + 57) (.int .i16 700) = some M58' ∧
    ∃ M59', M58'.put (2 * M.nb.size) (0 + 58) (.int .i16 601) = some M59' ∧
    ∃ M60', M59'.put (2 * M.nb.size) (0 + 59) (.int .i16 501) = some M60' ∧
    ∃ M61', M60'.put (2 * M.nb.size) (0 + 60) (.int .i16 401) = some M61' ∧
    ∃ M62', M61'.put (2 * M.nb.size) (0 + 61) (.int .i16 301) = some M62' ∧
    ∃ M63', M62'.put (2 * M.nb.size) (0 + 62) (.int .i16 201) = some M63' ∧
    ∃ M64', M63'.put (2 * M.nb.size) (0 + 63) (.int .i16 101) = some M64' ∧
    ∃ M65', M64'.put (2 * M.nb.size) (0 + 64) (.int .i16 0) = some M65' ∧
    ∃ x66', M65'.intAt .i16 (2 * M.nb.size) 0 = some x66' ∧
    ∃ x67', M65'.intAt .i16 (2 * M.nb.size) (0 + 1) = some x67' ∧
    ∃ x68', M65'.intAt .i16 (2 * M.nb.size) (0 + 2) = some x68' ∧
    ∃ x69', M65'.intAt .i16 (2 * M.nb.size) (0 + 3) = some x69' ∧
    ∃ x70', M65'.intAt .i16 (2 * M.nb.size) (0 + 4) = some x70' ∧
    ∃ x71', M65'.intAt .i16 (2 * M.nb.size) (0 + 5) = some x71' ∧
    ∃ x72', M65'.intAt .i16 (2 * M.nb.size) (0 + 6) = some x72' ∧
    ∃ x73', M65'.intAt .i16 (2 * M.nb.size) (0 + 7) = some x73' ∧
    ∃ x74', M65'.intAt .i16 (2 * M.nb.size) (0 + 8) = some x74' ∧
    ∃ x75', M65'.intAt .i16 (2 * M.nb.size) (0 + 9) = some x75' ∧
    ∃ x76', M65'.intAt .i16 (2 * M.nb.size) (0 + 10) = some x76' ∧
    ∃ x77', M65'.intAt .i16 (2 * M.nb.size) (0 + 11) = some x77' ∧
    ∃ x78', M65'.intAt .i16 (2 * M.nb.size) (0 + 12) = some x78' ∧
    ∃ x79', M65'.intAt .i16 (2 * M.nb.size) (0 + 13) = some x79' ∧
    ∃ x80', M65'.intAt .i16 (2 * M.nb.size) (0 + 14) = some x80' ∧
    ∃ x81', M65'.intAt .i16 (2 * M.nb.size) (0 + 15) = some x81' ∧
    ∃ x82', M65'.intAt .i16 (2 * M.nb.size) (0 + 16) = some x82' ∧
    ∃ x83', M65'.intAt .i16 (2 * M.nb.size) (0 + 17) = some x83' ∧
    ∃ x84', M65'.intAt .i16 (2 * M.nb.size) (0 + 18) = some x84' ∧
    ∃ x85', M65'.intAt .i16 (2 * M.nb.size) (0 + 19) = some x85' ∧
    ∃ x86', M65'.intAt .i16 (2 * M.nb.size) (0 + 20) = some x86' ∧
    ∃ x87', M65'.intAt .i16 (2 * M.nb.size) (0 + 21) = some x87' ∧
    ∃ x88', M65'.intAt .i16 (2 * M.nb.size) (0 + 22) = some x88' ∧
    ∃ x89', M65'.intAt .i16 (2 * M.nb.size) (0 + 23) = some x89' ∧
    ∃ x90', M65'.intAt .i16 (2 * M.nb.size) (0 + 24) = some x90' ∧
    ∃ x91', M65'.intAt .i16 (2 * M.nb.size) (0 + 25) = some x91' ∧
    ∃ x92', M65'.intAt .i16 (2 * M.nb.size) (0 + 26) = some x92' ∧
    ∃ x93', M65'.intAt .i16 (2 * M.nb.size) (0 + 27) = some x93' ∧
    ∃ x94', M65'.intAt .i16 (2 * M.nb.size) (0 + 28) = some x94' ∧
    ∃ x95', M65'.intAt .i16 (2 * M.nb.size) (0 + 29) = some x95' ∧
    ∃ x96', M65'.intAt .i16 (2 * M.nb.size) (0 + 30) = some x96' ∧
    ∃ x97', M65'.intAt .i16 (2 * M.nb.size) (0 + 31) = some x97' ∧
    ∃ x98', M65'.intAt .i16 (2 * M.nb.size) (0 + 32) = some x98' ∧
    ∃ x99', M65'.intAt .i16 (2 * M.nb.size) (0 + 33) = some x99' ∧
    ∃ x100', M65'.intAt .i16 (2 * M.nb.size) (0 + 34) = some x100' ∧
    ∃ x101', M65'.intAt .i16 (2 * M.nb.size) (0 + 35) = some x101' ∧
    ∃ x102', M65'.intAt .i16 (2 * M.nb.size) (0 + 36) = some x102' ∧
    ∃ x103', M65'.intAt .i16 (2 * M.nb.size) (0 + 37) = some x103' ∧
    ∃ x104', M65'.intAt .i16 (2 * M.nb.size) (0 + 38) = some x104' ∧
    ∃ x105', M65'.intAt .i16 (2 * M.nb.size) (0 + 39) = some x105' ∧
    ∃ x106', M65'.intAt .i16 (2 * M.nb.size) (0 + 40) = some x106' ∧
    ∃ x107', M65'.intAt .i16 (2 * M.nb.size) (0 + 41) = some x107' ∧
    ∃ x108', M65'.intAt .i16 (2 * M.nb.size) (0 + 42) = some x108' ∧
    ∃ x109', M65'.intAt .i16 (2 * M.nb.size) (0 + 43) = some x109' ∧
    ∃ x110', M65'.intAt .i16 (2 * M.nb.size) (0 + 44) = some x110' ∧
    ∃ x111', M65'.intAt .i16 (2 * M.nb.size) (0 + 45) = some x111' ∧
    ∃ x112', M65'.intAt .i16 (2 * M.nb.size) (0 + 46) = some x112' ∧
    ∃ x113', M65'.intAt .i16 (2 * M.nb.size) (0 + 47) = some x113' ∧
    ∃ x114', M65'.intAt .i16 (2 * M.nb.size) (0 + 48) = some x114' ∧
    ∃ x115', M65'.intAt .i16 (2 * M.nb.size) (0 + 49) = some x115' ∧
    ∃ x116', M65'.intAt .i16 (2 * M.nb.size) (0 + 50) = some x116' ∧
    ∃ x117', M65'.intAt .i16 (2 * M.nb.size) (0 + 51) = some x117' ∧
    ∃ x118', M65'.intAt .i16 (2 * M.nb.size) (0 + 52) = some x118' ∧
    ∃ x119', M65'.intAt .i16 (2 * M.nb.size) (0 + 53) = some x119' ∧
    ∃ x120', M65'.intAt .i16 (2 * M.nb.size) (0 + 54) = some x120' ∧
    ∃ x121', M65'.intAt .i16 (2 * M.nb.size) (0 + 55) = some x121' ∧
    ∃ x122', M65'.intAt .i16 (2 * M.nb.size) (0 + 56) = some x122' ∧
    ∃ x123', M65'.intAt .i16 (2 * M.nb.size) (0 + 57) = some x123' ∧
    ∃ x124', M65'.intAt .i16 (2 * M.nb.size) (0 + 58) = some x124' ∧
    ∃ x125', M65'.intAt .i16 (2 * M.nb.size) (0 + 59) = some x125' ∧
    ∃ x126', M65'.intAt .i16 (2 * M.nb.size) (0 + 60) = some x126' ∧
    ∃ x127', M65'.intAt .i16 (2 * M.nb.size) (0 + 61) = some x127' ∧
    ∃ x128', M65'.intAt .i16 (2 * M.nb.size) (0 + 62) = some x128' ∧
    ∃ x129', M65'.intAt .i16 (2 * M.nb.size) (0 + 63) = some x129' ∧
    ∃ x130', M65'.intAt .i16 (2 * M.nb.size) (0 + 64) = some x130' ∧
    Q (.agg #[.int .i16 (x66'), .int .i16 (x67'), .int .i16 (x68'), .int .i16 (x69'), .int .i16 (x70'), .int .i16 (x71'), .int .i16 (x72'), .int .i16 (x73'), .int .i16 (x74'), .int .i16 (x75'), .int .i16 (x76'), .int .i16 (x77'), .int .i16 (x78'), .int .i16 (x79'), .int .i16 (x80'), .int .i16 (x81'), .int .i16 (x82'), .int .i16 (x83'), .int .i16 (x84'), .int .i16 (x85'), .int .i16 (x86'), .int .i16 (x87'), .int .i16 (x88'), .int .i16 (x89'), .int .i16 (x90'), .int .i16 (x91'), .int .i16 (x92'), .int .i16 (x93'), .int .i16 (x94'), .int .i16 (x95'), .int .i16 (x96'), .int .i16 (x97'), .int .i16 (x98'), .int .i16 (x99'), .int .i16 (x100'), .int .i16 (x101'), .int .i16 (x102'), .int .i16 (x103'), .int .i16 (x104'), .int .i16 (x105'), .int .i16 (x106'), .int .i16 (x107'), .int .i16 (x108'), .int .i16 (x109'), .int .i16 (x110'), .int .i16 (x111'), .int .i16 (x112'), .int .i16 (x113'), .int .i16 (x114'), .int .i16 (x115'), .int .i16 (x116'), .int .i16 (x117'), .int .i16 (x118'), .int .i16 (x119'), .int .i16 (x120'), .int .i16 (x121'), .int .i16 (x122'), .int .i16 (x123'), .int .i16 (x124'), .int .i16 (x125'), .int .i16 (x126'), .int .i16 (x127'), .int .i16 (x128'), .int .i16 (x129'), .int .i16 (x130')]) M65') :
    Cn Try.prog 68 #[] M Q := by
  refine Cn.of b68 d68 t68 ?_
  refine Rn.seq k68_0 (Rn.region k68_1 (fun call K => r68_0) (Rch.leaf (Rn.seq k68_2 (Rn.region k68_3 (fun call K => r68_1) (Rch.bind (x := ⟨2 * M.nb.size, 0, none⟩) rfl (Rch.ex H fun M1' H => Rch.ex H fun M2' H => Rch.ex H fun M3' H => Rch.ex H fun M4' H => Rch.ex H fun M5' H => Rch.ex H fun M6' H => ?_))))))
  refine Rch.ex H fun M7' H => Rch.ex H fun M8' H => Rch.ex H fun M9' H => Rch.ex H fun M10' H => Rch.ex H fun M11' H => Rch.ex H fun M12' H => Rch.ex H fun M13' H => Rch.ex H fun M14' H => Rch.ex H fun M15' H => Rch.ex H fun M16' H => Rch.ex H fun M17' H => Rch.ex H fun M18' H => ?_
  refine Rch.ex H fun M19' H => Rch.ex H fun M20' H => Rch.ex H fun M21' H => Rch.ex H fun M22' H => Rch.ex H fun M23' H => Rch.ex H fun M24' H => Rch.ex H fun M25' H => Rch.ex H fun M26' H => Rch.ex H fun M27' H => Rch.ex H fun M28' H => Rch.ex H fun M29' H => Rch.ex H fun M30' H => ?_
  refine Rch.ex H fun M31' H => Rch.ex H fun M32' H => Rch.ex H fun M33' H => Rch.ex H fun M34' H => Rch.ex H fun M35' H => Rch.ex H fun M36' H => Rch.ex H fun M37' H => Rch.ex H fun M38' H => Rch.ex H fun M39' H => Rch.ex H fun M40' H => Rch.ex H fun M41' H => Rch.ex H fun M42' H => ?_
  refine Rch.ex H fun M43' H => Rch.ex H fun M44' H => Rch.ex H fun M45' H => Rch.ex H fun M46' H => Rch.ex H fun M47' H => Rch.ex H fun M48' H => Rch.ex H fun M49' H => Rch.ex H fun M50' H => Rch.ex H fun M51' H => Rch.ex H fun M52' H => Rch.ex H fun M53' H => Rch.ex H fun M54' H => ?_
  refine Rch.ex H fun M55' H => Rch.ex H fun M56' H => Rch.ex H fun M57' H => Rch.ex H fun M58' H => Rch.ex H fun M59' H => Rch.ex H fun M60' H => Rch.ex H fun M61' H => Rch.ex H fun M62' H => Rch.ex H fun M63' H => Rch.ex H fun M64' H => Rch.ex H fun M65' H => Rch.leaf ?_
  refine Rn.retK k68_4 (fun K => e68_0) (Rch.bind (x := ⟨2 * M.nb.size, 0, none⟩) rfl (Rch.ex H fun x66' H => Rch.ex H fun x67' H => Rch.ex H fun x68' H => Rch.ex H fun x69' H => Rch.ex H fun x70' H => Rch.ex H fun x71' H => Rch.ex H fun x72' H => Rch.ex H fun x73' H => Rch.ex H fun x74' H => Rch.ex H fun x75' H => ?_))
  refine Rch.ex H fun x76' H => Rch.ex H fun x77' H => Rch.ex H fun x78' H => Rch.ex H fun x79' H => Rch.ex H fun x80' H => Rch.ex H fun x81' H => Rch.ex H fun x82' H => Rch.ex H fun x83' H => Rch.ex H fun x84' H => Rch.ex H fun x85' H => Rch.ex H fun x86' H => Rch.ex H fun x87' H => ?_
  refine Rch.ex H fun x88' H => Rch.ex H fun x89' H => Rch.ex H fun x90' H => Rch.ex H fun x91' H => Rch.ex H fun x92' H => Rch.ex H fun x93' H => Rch.ex H fun x94' H => Rch.ex H fun x95' H => Rch.ex H fun x96' H => Rch.ex H fun x97' H => Rch.ex H fun x98' H => Rch.ex H fun x99' H => ?_
  refine Rch.ex H fun x100' H => Rch.ex H fun x101' H => Rch.ex H fun x102' H => Rch.ex H fun x103' H => Rch.ex H fun x104' H => Rch.ex H fun x105' H => Rch.ex H fun x106' H => Rch.ex H fun x107' H => Rch.ex H fun x108' H => Rch.ex H fun x109' H => Rch.ex H fun x110' H => Rch.ex H fun x111' H => ?_
  refine Rch.ex H fun x112' H => Rch.ex H fun x113' H => Rch.ex H fun x114' H => Rch.ex H fun x115' H => Rch.ex H fun x116' H => Rch.ex H fun x117' H => Rch.ex H fun x118' H => Rch.ex H fun x119' H => Rch.ex H fun x120' H => Rch.ex H fun x121' H => Rch.ex H fun x122' H => Rch.ex H fun x123' H => ?_
  refine Rch.ex H fun x124' H => Rch.ex H fun x125' H => Rch.ex H fun x126' H => Rch.ex H fun x127' H => Rch.ex H fun x128' H => Rch.ex H fun x129' H => Rch.ex H fun x130' H => ?_
  exact Rch.fin H


end Go.Zt

