/- The functions' walks: for each function and each loop a rule of what it comes to. Printed by zw.py. -/
import Derived.Test.YtbnhbmkoghnjhaaProg
import Derived.Test.YtbnhbmkoghnjhaaZhA
set_option linter.unusedVariables false
set_option maxRecDepth 100000
namespace Go.Zt
open Go Go.Sim Go.Proofs

variable {g0 g1 g2 g3 g4 g5 g6 g7 g8 g9 g10 g11 g12 g13 g14 g15 g16 g17 g18 g19 g20 g21 g22 g23 g24 g25 g26 g27 g28 g29 g30 g31 g32 g33 g34 g35 g36 g37 g38 g39 g40 g41 g42 g43 g44 g45 g46 g47 g48 g49 g50 g51 g52 g53 g54 g55 g56 g57 g58 g59 g60 g61 g62 g63 g64 g65 g66 g67 g68 g69 g70 g71 g72 g73 g74 g75 g76 g77 g78 g79 g80 g81 g82 g83 g84 g85 g86 g87 g88 g89 g90 g91 g92 g93 g94 g95 g96 g97 g98 g99 : Value}
/-! ### zoetrope/cdf.Flat: function 25 -/
noncomputable abbrev P25 (p : List Nat) : Code := subC (codeOf Try.f25) p
noncomputable abbrev O25 (p : List Nat) : Array Oper := opsOf (subC (codeOf Try.f25) p)
theorem b25 : Try.prog.funcs[25]? = some Try.f25 ∧ (Orc.tab Try.prog).lookup 25 = none := ⟨by kernel_rfl, by kernel_rfl⟩
theorem d25 : Try.f25.body = some (P25 []) := by kernel_rfl
theorem t25 {x0 : Int} : #[.int .i64 x0] ++ Array.replicate (Try.f25.ntmps - (#[.int .i64 x0] : Array Value).size) undef = #[.int .i64 x0,undef,undef,undef,undef,undef,undef,undef,undef,undef,undef,undef,undef,undef,undef,undef,undef,undef,undef,undef,undef,undef,undef,undef,undef,undef,undef,undef,undef,undef,undef] := by kernel_rfl
theorem k25_0 : P25 [] = .seq (P25 [0]) (P25 [1]) := by kernel_rfl
theorem k25_1 : P25 [0] = .region 0 (O25 [0]) false := by kernel_rfl
theorem r25_0 {M : Mem} {call : CallM} {K : Array Value → Mem → R} :
    opsK Try.prog (fun _ => call) (O25 [0]) (O25 [0]).toList 0 #[g0,g1,g2,g3,g4,g5,g6,g7,g8,g9,g10,g11,g12,g13,g14,g15,g16,g17,g18,g19,g20,g21,g22,g23,g24,g25,g26,g27,g28,g29,g30] M K = K #[g0,g1,.pointer (some ⟨2 * M.nb.size, 0, none⟩),.int .i64 0,g4,g5,g6,g7,g8,g9,g10,g11,g12,g13,g14,g15,g16,g17,g18,g19,g20,g21,g22,g23,g24,g25,g26,g27,g28,g29,g30] (M.new (.cells #[.slice none 0 0, .int .i64 0] 24)) := by kernel_rfl
theorem k25_2 : P25 [1] = .seq (P25 [1,0]) (P25 [1,1]) := by kernel_rfl
theorem k25_3 : P25 [1,0] = .seq (P25 [1,0,0]) (P25 [1,0,1]) := by kernel_rfl
theorem k25_4 : P25 [1,0,0] = .region 1 (O25 [1,0,0]) false := by kernel_rfl
theorem r25_1 {x0 : Int} {M : Mem} {call : CallM} {K : Array Value → Mem → R} :
    opsK Try.prog (fun _ => call) (O25 [1,0,0]) (O25 [1,0,0]).toList 0 #[.int .i64 x0,g1,g2,g3,g4,g5,g6,g7,g8,g9,g10,g11,g12,g13,g14,g15,g16,g17,g18,g19,g20,g21,g22,g23,g24,g25,g26,g27,g28,g29,g30] M K = (call 36 #[.int .i64 x0] M).bind fun r_1 => (asB r_1.1).bind fun b_2 => K #[.int .i64 x0,g1,g2,g3,g4,g5,.int .i64 x0,.bool b_2,.bool (!b_2),g9,g10,g11,g12,g13,g14,g15,g16,g17,g18,g19,g20,g21,g22,g23,g24,g25,g26,g27,g28,g29,g30] r_1.2 := by kernel_rfl
theorem c25_5 : P25 [1,0,1] = .cond (.tmp 8) (P25 [1,0,1,0]) (P25 [1,0,1,1]) := by kernel_rfl
theorem k25_6 : P25 [1,0,1,0] = .seq (P25 [1,0,1,0,0]) (P25 [1,0,1,0,1]) := by kernel_rfl
theorem k25_7 : P25 [1,0,1,0,0] = .region 2 (O25 [1,0,1,0,0]) false := by kernel_rfl
theorem r25_2 {x2 : Option Addr} {M : Mem} {call : CallM} {K : Array Value → Mem → R} :
    opsK Try.prog (fun _ => call) (O25 [1,0,1,0,0]) (O25 [1,0,1,0,0]).toList 0 #[g0,g1,.pointer x2,g3,g4,g5,g6,g7,g8,g9,g10,g11,g12,g13,g14,g15,g16,g17,g18,g19,g20,g21,g22,g23,g24,g25,g26,g27,g28,g29,g30] M K = (x2).bind fun a_1 => (M.put a_1.block a_1.off (.slice none 0 0)).bind fun M_2 => (M_2.put a_1.block (a_1.off + 1) (.int .i64 0)).bind fun M_3 => K #[g0,g1,.pointer x2,.int .i64 2,g4,g5,g6,g7,g8,.agg #[.slice none 0 0, .int .i64 0],g10,g11,g12,g13,g14,g15,g16,g17,g18,g19,g20,g21,g22,g23,g24,g25,g26,g27,g28,g29,g30] M_3 := by kernel_rfl
theorem k25_8 : P25 [1,0,1,0,1] = .ret := by kernel_rfl
theorem e25_0 {x2 : Option Addr} {x3 : Int} {M : Mem} {K : List Value → R} : resK Try.prog #[g0,g1,.pointer x2,.int .i64 x3,g4,g5,g6,g7,g8,g9,g10,g11,g12,g13,g14,g15,g16,g17,g18,g19,g20,g21,g22,g23,g24,g25,g26,g27,g28,g29,g30] M (Try.f25).results.toList K = (x2).bind fun a_1 => (M.slAt a_1.block a_1.off).bind fun s_2 => (M.intAt .i64 a_1.block (a_1.off + 1)).bind fun x_3 => K [.agg #[.slice s_2.1 (s_2.2.1) (s_2.2.2), .int .i64 x_3], .int .i64 x3] := by kernel_rfl
theorem k25_10 : P25 [1,0,1,1] = .skip := by kernel_rfl
theorem k25_11 : P25 [1,1] = .seq (P25 [1,1,0]) (P25 [1,1,1]) := by kernel_rfl
theorem k25_12 : P25 [1,1,0] = .region 3 (O25 [1,1,0]) false := by kernel_rfl
theorem r25_3 {x0 : Int} {M : Mem} {call : CallM} {K : Array Value → Mem → R} :
    opsK Try.prog (fun _ => call) (O25 [1,1,0]) (O25 [1,1,0]).toList 0 #[.int .i64 x0,g1,g2,g3,g4,g5,g6,g7,g8,g9,g10,g11,g12,g13,g14,g15,g16,g17,g18,g19,g20,g21,g22,g23,g24,g25,g26,g27,g28,g29,g30] M K = (makeP Try.prog 22 (.int .i64 x0) (.int .i64 x0) M).bind fun r_1 => (asS r_1.1).bind fun s_2 => ((r_1.2.new (.cells #[.slice none 0 0, .int .i64 0] 24)).put (2 * r_1.2.nb.size) 0 (.slice s_2.1 (s_2.2.1) (s_2.2.2))).bind fun M_3 => (M_3.put (2 * r_1.2.nb.size) 1 (.int .i64 0)).bind fun M_4 => K #[.int .i64 x0,g1,g2,g3,.pointer (some ⟨2 * r_1.2.nb.size, 0, none⟩),g5,g6,g7,g8,g9,.int .i64 x0,.slice s_2.1 (s_2.2.1) (s_2.2.2),.agg #[.slice s_2.1 (s_2.2.1) (s_2.2.2), .int .i64 0],g13,g14,g15,g16,g17,g18,g19,g20,g21,g22,g23,g24,g25,g26,g27,g28,g29,g30] M_4 := by kernel_rfl
theorem k25_13 : P25 [1,1,1] = .seq (P25 [1,1,1,0]) (P25 [1,1,1,1]) := by kernel_rfl
theorem k25_14 : P25 [1,1,1,0] = .seq (P25 [1,1,1,0,0]) (P25 [1,1,1,0,1]) := by kernel_rfl
theorem k25_15 : P25 [1,1,1,0,0] = .region 4 (O25 [1,1,1,0,0]) false := by kernel_rfl
theorem r25_4 {x4 : Option Addr} {M : Mem} {call : CallM} {K : Array Value → Mem → R} :
    opsK Try.prog (fun _ => call) (O25 [1,1,1,0,0]) (O25 [1,1,1,0,0]).toList 0 #[g0,g1,g2,g3,.pointer x4,g5,g6,g7,g8,g9,g10,g11,g12,g13,g14,g15,g16,g17,g18,g19,g20,g21,g22,g23,g24,g25,g26,g27,g28,g29,g30] M K = (x4).bind fun a_1 => (M.slAt a_1.block a_1.off).bind fun s_2 => K #[g0,g1,g2,g3,.pointer x4,g5,g6,g7,g8,g9,g10,g11,g12,.pointer (some ⟨a_1.block, a_1.off, none⟩),.slice s_2.1 (s_2.2.1) (s_2.2.2),.int .i64 ((s_2.2.1 : Int)),.int .i64 0,g17,g18,g19,g20,g21,g22,g23,g24,g25,g26,g27,g28,g29,g30] M := by kernel_rfl
theorem k25_16 : P25 [1,1,1,0,1] = .block 0 (P25 [1,1,1,0,1,0]) := by kernel_rfl
theorem k25_17 : P25 [1,1,1,0,1,0] = .loop (P25 [1,1,1,0,1,0,0]) := by kernel_rfl
theorem k25_18 : P25 [1,1,1,0,1,0,0] = .seq (P25 [1,1,1,0,1,0,0,0]) (P25 [1,1,1,0,1,0,0,1]) := by kernel_rfl
theorem k25_19 : P25 [1,1,1,0,1,0,0,0] = .region 5 (O25 [1,1,1,0,1,0,0,0]) false := by kernel_rfl
theorem r25_5 {x15 x16 : Int} {M : Mem} {call : CallM} {K : Array Value → Mem → R} :
    opsK Try.prog (fun _ => call) (O25 [1,1,1,0,1,0,0,0]) (O25 [1,1,1,0,1,0,0,0]).toList 0 #[g0,g1,g2,g3,g4,g5,g6,g7,g8,g9,g10,g11,g12,g13,g14,.int .i64 x15,.int .i64 x16,g17,g18,g19,g20,g21,g22,g23,g24,g25,g26,g27,g28,g29,g30] M K = K #[g0,g1,g2,g3,g4,g5,g6,g7,g8,g9,g10,g11,g12,g13,g14,.int .i64 x15,.int .i64 x16,.bool (decide (x16 < x15)),g18,g19,g20,g21,g22,g23,g24,g25,g26,g27,g28,g29,g30] M := by kernel_rfl
theorem k25_20 : P25 [1,1,1,0,1,0,0,1] = .seq (P25 [1,1,1,0,1,0,0,1,0]) (P25 [1,1,1,0,1,0,0,1,1]) := by kernel_rfl
theorem c25_21 : P25 [1,1,1,0,1,0,0,1,0] = .cond (.tmp 17) (P25 [1,1,1,0,1,0,0,1,0,0]) (P25 [1,1,1,0,1,0,0,1,0,1]) := by kernel_rfl
theorem k25_22 : P25 [1,1,1,0,1,0,0,1,0,0] = .skip := by kernel_rfl
theorem k25_23 : P25 [1,1,1,0,1,0,0,1,1] = .seq (P25 [1,1,1,0,1,0,0,1,1,0]) (P25 [1,1,1,0,1,0,0,1,1,1]) := by kernel_rfl
theorem k25_24 : P25 [1,1,1,0,1,0,0,1,1,0] = .block 1 (P25 [1,1,1,0,1,0,0,1,1,0,0]) := by kernel_rfl
theorem k25_25 : P25 [1,1,1,0,1,0,0,1,1,0,0] = .seq (P25 [1,1,1,0,1,0,0,1,1,0,0,0]) (P25 [1,1,1,0,1,0,0,1,1,0,0,1]) := by kernel_rfl
theorem k25_26 : P25 [1,1,1,0,1,0,0,1,1,0,0,0] = .region 6 (O25 [1,1,1,0,1,0,0,1,1,0,0,0]) false := by kernel_rfl
theorem r25_6 {x16 : Int} {M : Mem} {call : CallM} {K : Array Value → Mem → R} :
    opsK Try.prog (fun _ => call) (O25 [1,1,1,0,1,0,0,1,1,0,0,0]) (O25 [1,1,1,0,1,0,0,1,1,0,0,0]).toList 0 #[g0,g1,g2,g3,g4,g5,g6,g7,g8,g9,g10,g11,g12,g13,g14,g15,.int .i64 x16,g17,g18,g19,g20,g21,g22,g23,g24,g25,g26,g27,g28,g29,g30] M K = K #[g0,g1,g2,g3,g4,.int .i64 x16,g6,g7,g8,g9,g10,g11,g12,g13,g14,g15,.int .i64 x16,g17,.int .i64 x16,g19,g20,g21,g22,g23,g24,g25,g26,g27,g28,g29,g30] M := by kernel_rfl
theorem k25_27 : P25 [1,1,1,0,1,0,0,1,1,0,0,1] = .region 7 (O25 [1,1,1,0,1,0,0,1,1,0,0,1]) true ∧ drawOk (O25 [1,1,1,0,1,0,0,1,1,0,0,1]) = true := ⟨by kernel_rfl, by kernel_rfl⟩
theorem r25_7 {x0 : Int} {x4 : Option Addr} {x5 : Int} {M : Mem} {call : CallM} {K : Array Value → Mem → R} :
    opsI Try.prog (callAt call (O25 [1,1,1,0,1,0,0,1,1,0,0,1])) (O25 [1,1,1,0,1,0,0,1,1,0,0,1]) (ordOf (O25 [1,1,1,0,1,0,0,1,1,0,0,1])) [] #[.int .i64 x0,g1,g2,g3,.pointer x4,.int .i64 x5,g6,g7,g8,g9,g10,g11,g12,g13,g14,g15,g16,g17,g18,g19,g20,g21,g22,g23,g24,g25,g26,g27,g28,g29,g30] M K = (x4).bind fun a_1 => (M.slAt a_1.block a_1.off).bind fun s_2 => (binV Try.prog .quo 3 3 (.int .i64 (IntKind.i64.wrap (32768 * (IntKind.i64.wrap (x5 + 1))))) (.int .i64 x0)).bind fun v_3 => (asI .i64 v_3).bind fun x_4 => (idxA s_2.1 (s_2.2.1) 1 x5).bind fun a_5 => (M.put a_5.block a_5.off (.int .u16 (IntKind.u16.wrap (x_4)))).bind fun M_6 => K #[.int .i64 x0,g1,g2,g3,.pointer x4,.int .i64 x5,g6,g7,g8,g9,g10,g11,g12,g13,g14,g15,g16,g17,g18,.pointer (some ⟨a_1.block, a_1.off, none⟩),.slice s_2.1 (s_2.2.1) (s_2.2.2),.int .i64 x5,.int .i64 x5,.int .i64 (IntKind.i64.wrap (x5 + 1)),.int .i64 (IntKind.i64.wrap (32768 * (IntKind.i64.wrap (x5 + 1)))),.int .i64 x0,.int .i64 x_4,.int .u16 (IntKind.u16.wrap (x_4)),.pointer (some a_5),g29,g30] M_6 := by kernel_rfl
theorem k25_28 : P25 [1,1,1,0,1,0,0,1,1,1] = .region 8 (O25 [1,1,1,0,1,0,0,1,1,1]) false := by kernel_rfl
theorem r25_8 {x16 : Int} {M : Mem} {call : CallM} {K : Array Value → Mem → R} :
    opsK Try.prog (fun _ => call) (O25 [1,1,1,0,1,0,0,1,1,1]) (O25 [1,1,1,0,1,0,0,1,1,1]).toList 0 #[g0,g1,g2,g3,g4,g5,g6,g7,g8,g9,g10,g11,g12,g13,g14,g15,.int .i64 x16,g17,g18,g19,g20,g21,g22,g23,g24,g25,g26,g27,g28,g29,g30] M K = K #[g0,g1,g2,g3,g4,g5,g6,g7,g8,g9,g10,g11,g12,g13,g14,g15,.int .i64 (IntKind.i64.wrap (x16 + 1)),g17,g18,g19,g20,g21,g22,g23,g24,g25,g26,g27,g28,.int .i64 (IntKind.i64.wrap (x16 + 1)),g30] M := by kernel_rfl
theorem k25_29 : P25 [1,1,1,0,1,0,0,1,0,1] = .exit 0 := by kernel_rfl
theorem k25_30 : P25 [1,1,1,1] = .seq (P25 [1,1,1,1,0]) (P25 [1,1,1,1,1]) := by kernel_rfl
theorem k25_31 : P25 [1,1,1,1,0] = .region 9 (O25 [1,1,1,1,0]) false := by kernel_rfl
theorem r25_9 {x2 x4 : Option Addr} {M : Mem} {call : CallM} {K : Array Value → Mem → R} :
    opsK Try.prog (fun _ => call) (O25 [1,1,1,1,0]) (O25 [1,1,1,1,0]).toList 0 #[g0,g1,.pointer x2,g3,.pointer x4,g5,g6,g7,g8,g9,g10,g11,g12,g13,g14,g15,g16,g17,g18,g19,g20,g21,g22,g23,g24,g25,g26,g27,g28,g29,g30] M K = (x4).bind fun a_1 => (M.slAt a_1.block a_1.off).bind fun s_2 => (M.intAt .i64 a_1.block (a_1.off + 1)).bind fun x_3 => (x2).bind fun a_4 => (M.put a_4.block a_4.off (.slice s_2.1 (s_2.2.1) (s_2.2.2))).bind fun M_5 => (M_5.put a_4.block (a_4.off + 1) (.int .i64 x_3)).bind fun M_6 => K #[g0,g1,.pointer x2,.int .i64 0,.pointer x4,g5,g6,g7,g8,g9,g10,g11,g12,g13,g14,g15,g16,g17,g18,g19,g20,g21,g22,g23,g24,g25,g26,g27,g28,g29,.agg #[.slice s_2.1 (s_2.2.1) (s_2.2.2), .int .i64 x_3]] M_6 := by kernel_rfl
theorem k25_32 : P25 [1,1,1,1,1] = .ret := by kernel_rfl
noncomputable def S25_1 : List Item := [.code (P25 [1,1,1,0,1,0,0]), .inLoop (P25 [1,1,1,0,1,0,0]), .inBlock 0, .code (P25 [1,1,1,1])]
def A25_1 (x0 : Int) (x2 x4 : Option Addr) (x15 x16 : Int) (M : Mem) (Q : Value → Mem → Prop) : Prop := ∀ (g1 g3 g5 g6 g7 g8 g9 g10 g11 g12 g13 g14 g17 g18 g19 g20 g21 g22 g23 g24 g25 g26 g27 g28 g29 g30 : Value), Rn Try.prog Try.f25 S25_1 #[.int .i64 x0, g1, .pointer x2, g3, .pointer x4, g5, g6, g7, g8, g9, g10, g11, g12, g13, g14, .int .i64 x15, .int .i64 x16, g17, g18, g19, g20, g21, g22, g23, g24, g25, g26, g27, g28, g29, g30] M Q
theorem w25_0 {x0 : Int} {M : Mem} {Q : Value → Mem → Prop} (H :
    Cn Try.prog 36 #[.int .i64 x0] (M.new (.cells #[.slice none 0 0, .int .i64 0] 24)) fun v1' N1' =>
     ∃ b2', asB v1' = some b2' ∧
     (((!b2') = true →
      ∃ M3', N1'.put (2 * M.nb.size) 0 (.slice none 0 0) = some M3' ∧
      ∃ M4', M3'.put (2 * M.nb.size) (0 + 1) (.int .i64 0) = some M4' ∧
      ∃ s5', M4'.slAt (2 * M.nb.size) 0 = some s5' ∧
      ∃ x6', M4'.intAt .i64 (2 * M.nb.size) (0 + 1) = some x6' ∧
      Q (.tuple #[.agg #[.slice s5'.1 (s5'.2.1) (s5'.2.2), .int .i64 (x6')], .int .i64 2]) M4') ∧
      ((!b2') = false →
      ∃ r7', makeP Try.prog 22 (.int .i64 x0) (.int .i64 x0) N1' = some r7' ∧
      ∃ s8', asS r7'.1 = some s8' ∧
      ∃ M9', (r7'.2.new (.cells #[.slice none 0 0, .int .i64 0] 24)).put (2 * r7'.2.nb.size) 0 (.slice s8'.1 (s8'.2.1) (s8'.2.2)) = some M9' ∧
      ∃ M10', M9'.put (2 * r7'.2.nb.size) 1 (.int .i64 0) = some M10' ∧
      ∃ s11', M10'.slAt (2 * r7'.2.nb.size) 0 = some s11' ∧
      A25_1 x0 (some ⟨2 * M.nb.size, 0, none⟩) (some ⟨2 * r7'.2.nb.size, 0, none⟩) (s11'.2.1 : Int) 0 M10' Q))) :
    Cn Try.prog 25 #[.int .i64 x0] M Q := by
  refine Cn.of b25 d25 t25 ?_
  refine Rn.seq k25_0 (Rn.region k25_1 (fun call K => r25_0) (Rch.leaf (Rn.seq k25_2 (Rn.seq k25_3 (Rn.region k25_4 (fun call K => r25_1) (Rch.call H fun v1' N1' H => Rch.ex H fun b2' H => Rch.leaf ?_))))))
  refine Rn.cnd (v := !b2') ⟨c25_5, rfl, by kernel_rfl⟩ (fun h => ?_) (fun h => ?_)
  · replace H := H.1 (h)
    refine Rn.seq k25_6 (Rn.region k25_7 (fun call K => r25_2) (Rch.bind (x := ⟨2 * M.nb.size, 0, none⟩) rfl (Rch.ex H fun M3' H => Rch.ex H fun M4' H => Rch.leaf (Rn.retK k25_8 (fun K => e25_0) (Rch.bind (x := ⟨2 * M.nb.size, 0, none⟩) rfl (Rch.ex H fun s5' H => Rch.ex H fun x6' H => ?_))))))
    exact Rch.fin H
  · replace H := H.2 (h)
    refine Rn.skip k25_10 (Rn.seq k25_11 (Rn.region k25_12 (fun call K => r25_3) (Rch.ex H fun r7' H => Rch.ex H fun s8' H => Rch.ex H fun M9' H => Rch.ex H fun M10' H => Rch.leaf (Rn.seq k25_13 (Rn.seq k25_14 (Rn.region k25_15 (fun call K => r25_4) (Rch.bind (x := ⟨2 * r7'.2.nb.size, 0, none⟩) rfl ?_)))))))
    refine Rch.ex H fun s11' H => Rch.leaf (Rn.block k25_16 (Rn.loop k25_17 ?_))
    exact H _ _ _ _ _ _ _ _ _ _ _ _ _ _ _ _ _ _ _ _ _ _ _ _ _ _

theorem w25_1 {x0 : Int} {x2 x4 : Option Addr} {x15 x16 : Int} {M : Mem} {Q : Value → Mem → Prop} (H :
    ((x16 < x15 →
     ∃ a12', x4 = some a12' ∧
     ∃ s13', M.slAt a12'.block a12'.off = some s13' ∧
     ∃ v14', binV Try.prog .quo 3 3 (.int .i64 (IntKind.i64.wrap (32768 * (IntKind.i64.wrap (x16 + 1))))) (.int .i64 x0) = some v14' ∧
     ∃ x15', asI .i64 v14' = some x15' ∧
     ∃ a16', idxA s13'.1 (s13'.2.1) 1 x16 = some a16' ∧
     ∃ M17', M.put a16'.block a16'.off (.int .u16 (IntKind.u16.wrap (x15'))) = some M17' ∧
     A25_1 x0 x2 x4 x15 (IntKind.i64.wrap (x16 + 1)) M17' Q) ∧
     (¬ (x16 < x15) →
     ∃ a18', x4 = some a18' ∧
     ∃ s19', M.slAt a18'.block a18'.off = some s19' ∧
     ∃ x20', M.intAt .i64 a18'.block (a18'.off + 1) = some x20' ∧
     ∃ a21', x2 = some a21' ∧
     ∃ M22', M.put a21'.block a21'.off (.slice s19'.1 (s19'.2.1) (s19'.2.2)) = some M22' ∧
     ∃ M23', M22'.put a21'.block (a21'.off + 1) (.int .i64 x20') = some M23' ∧
     ∃ a24', x2 = some a24' ∧
     ∃ s25', M23'.slAt a24'.block a24'.off = some s25' ∧
     ∃ x26', M23'.intAt .i64 a24'.block (a24'.off + 1) = some x26' ∧
     Q (.tuple #[.agg #[.slice s25'.1 (s25'.2.1) (s25'.2.2), .int .i64 (x26')], .int .i64 0]) M23'))) :
    A25_1 x0 x2 x4 x15 x16 M Q := by
  intro g1 g3 g5 g6 g7 g8 g9 g10 g11 g12 g13 g14 g17 g18 g19 g20 g21 g22 g23 g24 g25 g26 g27 g28 g29 g30
  refine Rn.seq k25_18 (Rn.region k25_19 (fun call K => r25_5) (Rch.leaf (Rn.seq k25_20 ?_)))
  refine Rn.cnd (v := decide (x16 < x15)) ⟨c25_21, rfl, by kernel_rfl⟩ (fun h => ?_) (fun h => ?_)
  · replace H := H.1 (of_decide_eq_true h)
    refine Rn.skip k25_22 (Rn.seq k25_23 (Rn.block k25_24 (Rn.seq k25_25 (Rn.region k25_26 (fun call K => r25_6) (Rch.leaf (Rn.regionD k25_27 (fun call K => r25_7) (Rch.ex H fun a12' H => Rch.ex H fun s13' H => Rch.ex H fun v14' H => Rch.ex H fun x15' H => Rch.ex H fun a16' H => ?_)))))))
    refine Rch.ex H fun M17' H => Rch.leaf (Rn.blk (Rn.region k25_28 (fun call K => r25_8) (Rch.leaf (Rn.lp ?_))))
    exact H _ _ _ _ _ _ _ _ _ _ _ _ _ _ _ _ _ _ _ _ _ _ _ _ _ _
  · replace H := H.2 (of_decide_eq_false h)
    refine Rn.exit k25_29 rfl (Rn.seq k25_30 (Rn.region k25_31 (fun call K => r25_9) (Rch.ex H fun a18' H => Rch.ex H fun s19' H => Rch.ex H fun x20' H => Rch.ex H fun a21' H => Rch.ex H fun M22' H => Rch.ex H fun M23' H => Rch.leaf (Rn.retK k25_32 (fun K => e25_0) (Rch.ex H fun a24' H => ?_)))))
    refine Rch.ex H fun s25' H => Rch.ex H fun x26' H => ?_
    exact Rch.fin H


/-! ### zoetrope/zoetroperef03.Flat: function 26 -/
noncomputable abbrev P26 (p : List Nat) : Code := subC (codeOf Try.f26) p
noncomputable abbrev O26 (p : List Nat) : Array Oper := opsOf (subC (codeOf Try.f26) p)
theorem b26 : Try.prog.funcs[26]? = some Try.f26 ∧ (Orc.tab Try.prog).lookup 26 = none := ⟨by kernel_rfl, by kernel_rfl⟩
theorem d26 : Try.f26.body = some (P26 []) := by kernel_rfl
theorem t26 {x0 : Int} : #[.int .i64 x0] ++ Array.replicate (Try.f26.ntmps - (#[.int .i64 x0] : Array Value).size) undef = #[.int .i64 x0,undef,undef,undef,undef,undef,undef,undef,undef,undef,undef,undef,undef,undef,undef,undef,undef,undef,undef,undef,undef,undef,undef,undef,undef,undef,undef,undef,undef,undef] := by kernel_rfl
theorem k26_0 : P26 [] = .seq (P26 [0]) (P26 [1]) := by kernel_rfl
theorem k26_1 : P26 [0] = .region 0 (O26 [0]) false := by kernel_rfl
theorem r26_0 {M : Mem} {call : CallM} {K : Array Value → Mem → R} :
    opsK Try.prog (fun _ => call) (O26 [0]) (O26 [0]).toList 0 #[g0,g1,g2,g3,g4,g5,g6,g7,g8,g9,g10,g11,g12,g13,g14,g15,g16,g17,g18,g19,g20,g21,g22,g23,g24,g25,g26,g27,g28,g29] M K = K #[g0,g1,.pointer (some ⟨2 * M.nb.size, 0, none⟩),.int .i64 0,g4,g5,g6,g7,g8,g9,g10,g11,g12,g13,g14,g15,g16,g17,g18,g19,g20,g21,g22,g23,g24,g25,g26,g27,g28,g29] (M.new (.cells #[.slice none 0 0, .int .i64 0] 24)) := by kernel_rfl
theorem k26_2 : P26 [1] = .seq (P26 [1,0]) (P26 [1,1]) := by kernel_rfl
theorem k26_3 : P26 [1,0] = .seq (P26 [1,0,0]) (P26 [1,0,1]) := by kernel_rfl
theorem k26_4 : P26 [1,0,0] = .region 1 (O26 [1,0,0]) false := by kernel_rfl
theorem r26_1 {x0 : Int} {M : Mem} {call : CallM} {K : Array Value → Mem → R} :
    opsK Try.prog (fun _ => call) (O26 [1,0,0]) (O26 [1,0,0]).toList 0 #[.int .i64 x0,g1,g2,g3,g4,g5,g6,g7,g8,g9,g10,g11,g12,g13,g14,g15,g16,g17,g18,g19,g20,g21,g22,g23,g24,g25,g26,g27,g28,g29] M K = withK (fun w8 w9 w10 w11 M => K #[.int .i64 x0,g1,g2,g3,g4,g5,.int .i64 x0,.bool (decide (x0 < 2)),w8,w9,w10,w11,g12,g13,g14,g15,g16,g17,g18,g19,g20,g21,g22,g23,g24,g25,g26,g27,g28,g29] M) fun k => cond (decide (x0 < 2)) (k (.bool true) undef undef (.bool true) M) (k (.bool false) (.int .i64 x0) (.bool (decide (x0 > 16))) (.bool (decide (x0 > 16))) M) := by kernel_rfl
theorem c26_5 : P26 [1,0,1] = .cond (.tmp 11) (P26 [1,0,1,0]) (P26 [1,0,1,1]) := by kernel_rfl
theorem k26_6 : P26 [1,0,1,0] = .seq (P26 [1,0,1,0,0]) (P26 [1,0,1,0,1]) := by kernel_rfl
theorem k26_7 : P26 [1,0,1,0,0] = .region 2 (O26 [1,0,1,0,0]) false := by kernel_rfl
theorem r26_2 {x2 : Option Addr} {M : Mem} {call : CallM} {K : Array Value → Mem → R} :
    opsK Try.prog (fun _ => call) (O26 [1,0,1,0,0]) (O26 [1,0,1,0,0]).toList 0 #[g0,g1,.pointer x2,g3,g4,g5,g6,g7,g8,g9,g10,g11,g12,g13,g14,g15,g16,g17,g18,g19,g20,g21,g22,g23,g24,g25,g26,g27,g28,g29] M K = (x2).bind fun a_1 => (M.put a_1.block a_1.off (.slice none 0 0)).bind fun M_2 => (M_2.put a_1.block (a_1.off + 1) (.int .i64 0)).bind fun M_3 => K #[g0,g1,.pointer x2,.int .i64 2,g4,g5,g6,g7,g8,g9,g10,g11,.agg #[.slice none 0 0, .int .i64 0],g13,g14,g15,g16,g17,g18,g19,g20,g21,g22,g23,g24,g25,g26,g27,g28,g29] M_3 := by kernel_rfl
theorem k26_8 : P26 [1,0,1,0,1] = .ret := by kernel_rfl
theorem e26_0 {x2 : Option Addr} {x3 : Int} {M : Mem} {K : List Value → R} : resK Try.prog #[g0,g1,.pointer x2,.int .i64 x3,g4,g5,g6,g7,g8,g9,g10,g11,g12,g13,g14,g15,g16,g17,g18,g19,g20,g21,g22,g23,g24,g25,g26,g27,g28,g29] M (Try.f26).results.toList K = (x2).bind fun a_1 => (M.slAt a_1.block a_1.off).bind fun s_2 => (M.intAt .i64 a_1.block (a_1.off + 1)).bind fun x_3 => K [.agg #[.slice s_2.1 (s_2.2.1) (s_2.2.2), .int .i64 x_3], .int .i64 x3] := by kernel_rfl
theorem k26_10 : P26 [1,0,1,1] = .skip := by kernel_rfl
theorem k26_11 : P26 [1,1] = .seq (P26 [1,1,0]) (P26 [1,1,1]) := by kernel_rfl
theorem k26_12 : P26 [1,1,0] = .region 3 (O26 [1,1,0]) false := by kernel_rfl
theorem r26_3 {M : Mem} {call : CallM} {K : Array Value → Mem → R} :
    opsK Try.prog (fun _ => call) (O26 [1,1,0]) (O26 [1,1,0]).toList 0 #[g0,g1,g2,g3,g4,g5,g6,g7,g8,g9,g10,g11,g12,g13,g14,g15,g16,g17,g18,g19,g20,g21,g22,g23,g24,g25,g26,g27,g28,g29] M K = K #[g0,g1,g2,g3,.pointer (some ⟨2 * M.nb.size, 0, none⟩),g5,g6,g7,g8,g9,g10,g11,g12,g13,g14,g15,g16,g17,g18,g19,g20,g21,g22,g23,g24,g25,g26,g27,g28,g29] (M.new (.cells #[.slice none 0 0, .int .i64 0] 24)) := by kernel_rfl
theorem k26_13 : P26 [1,1,1] = .seq (P26 [1,1,1,0]) (P26 [1,1,1,1]) := by kernel_rfl
theorem k26_14 : P26 [1,1,1,0] = .seq (P26 [1,1,1,0,0]) (P26 [1,1,1,0,1]) := by kernel_rfl
theorem k26_15 : P26 [1,1,1,0,0] = .region 4 (O26 [1,1,1,0,0]) false := by kernel_rfl
theorem r26_4 {M : Mem} {call : CallM} {K : Array Value → Mem → R} :
    opsK Try.prog (fun _ => call) (O26 [1,1,1,0,0]) (O26 [1,1,1,0,0]).toList 0 #[g0,g1,g2,g3,g4,g5,g6,g7,g8,g9,g10,g11,g12,g13,g14,g15,g16,g17,g18,g19,g20,g21,g22,g23,g24,g25,g26,g27,g28,g29] M K = K #[g0,g1,g2,g3,g4,.int .i64 0,g6,g7,g8,g9,g10,g11,g12,g13,g14,g15,g16,g17,g18,g19,g20,g21,g22,g23,g24,g25,g26,g27,g28,g29] M := by kernel_rfl
theorem k26_16 : P26 [1,1,1,0,1] = .block 0 (P26 [1,1,1,0,1,0]) := by kernel_rfl
theorem k26_17 : P26 [1,1,1,0,1,0] = .loop (P26 [1,1,1,0,1,0,0]) := by kernel_rfl
theorem k26_18 : P26 [1,1,1,0,1,0,0] = .seq (P26 [1,1,1,0,1,0,0,0]) (P26 [1,1,1,0,1,0,0,1]) := by kernel_rfl
theorem k26_19 : P26 [1,1,1,0,1,0,0,0] = .seq (P26 [1,1,1,0,1,0,0,0,0]) (P26 [1,1,1,0,1,0,0,0,1]) := by kernel_rfl
theorem k26_20 : P26 [1,1,1,0,1,0,0,0,0] = .region 5 (O26 [1,1,1,0,1,0,0,0,0]) false := by kernel_rfl
theorem r26_5 {x0 x5 : Int} {M : Mem} {call : CallM} {K : Array Value → Mem → R} :
    opsK Try.prog (fun _ => call) (O26 [1,1,1,0,1,0,0,0,0]) (O26 [1,1,1,0,1,0,0,0,0]).toList 0 #[.int .i64 x0,g1,g2,g3,g4,.int .i64 x5,g6,g7,g8,g9,g10,g11,g12,g13,g14,g15,g16,g17,g18,g19,g20,g21,g22,g23,g24,g25,g26,g27,g28,g29] M K = K #[.int .i64 x0,g1,g2,g3,g4,.int .i64 x5,g6,g7,g8,g9,g10,g11,g12,.int .i64 x5,.int .i64 x0,.bool (decide (x5 < x0)),g16,g17,g18,g19,g20,g21,g22,g23,g24,g25,g26,g27,g28,g29] M := by kernel_rfl
theorem c26_21 : P26 [1,1,1,0,1,0,0,0,1] = .cond (.tmp 15) (P26 [1,1,1,0,1,0,0,0,1,0]) (P26 [1,1,1,0,1,0,0,0,1,1]) := by kernel_rfl
theorem k26_22 : P26 [1,1,1,0,1,0,0,0,1,0] = .skip := by kernel_rfl
theorem k26_23 : P26 [1,1,1,0,1,0,0,1] = .seq (P26 [1,1,1,0,1,0,0,1,0]) (P26 [1,1,1,0,1,0,0,1,1]) := by kernel_rfl
theorem k26_24 : P26 [1,1,1,0,1,0,0,1,0] = .block 1 (P26 [1,1,1,0,1,0,0,1,0,0]) := by kernel_rfl
theorem k26_25 : P26 [1,1,1,0,1,0,0,1,0,0] = .region 7 (O26 [1,1,1,0,1,0,0,1,0,0]) true ∧ drawOk (O26 [1,1,1,0,1,0,0,1,0,0]) = true := ⟨by kernel_rfl, by kernel_rfl⟩
theorem r26_7 {x0 : Int} {x4 : Option Addr} {x5 : Int} {M : Mem} {call : CallM} {K : Array Value → Mem → R} :
    opsI Try.prog (callAt call (O26 [1,1,1,0,1,0,0,1,0,0])) (O26 [1,1,1,0,1,0,0,1,0,0]) (ordOf (O26 [1,1,1,0,1,0,0,1,0,0])) [] #[.int .i64 x0,g1,g2,g3,.pointer x4,.int .i64 x5,g6,g7,g8,g9,g10,g11,g12,g13,g14,g15,g16,g17,g18,g19,g20,g21,g22,g23,g24,g25,g26,g27,g28,g29] M K = (x4).bind fun a_1 => (M.slAt a_1.block a_1.off).bind fun s_2 => (binV Try.prog .quo 3 3 (.int .i64 (IntKind.i64.wrap (32768 * (IntKind.i64.wrap (x5 + 1))))) (.int .i64 x0)).bind fun v_3 => (asI .i64 v_3).bind fun x_4 => (appendP Try.prog #[22, 22] (.slice s_2.1 (s_2.2.1) (s_2.2.2)) (.slice (some ⟨2 * M.nb.size, 0, none⟩) 1 1) (M.new (.cells #[.int .u16 (IntKind.u16.wrap (x_4))] 47))).bind fun r_5 => (asS r_5.1).bind fun s_6 => (x4).bind fun a_7 => (r_5.2.put a_7.block a_7.off (.slice s_6.1 (s_6.2.1) (s_6.2.2))).bind fun M_8 => K #[.int .i64 x0,g1,g2,g3,.pointer x4,.int .i64 x5,g6,g7,g8,g9,g10,g11,g12,g13,g14,g15,g16,g17,.pointer (some ⟨a_1.block, a_1.off, none⟩),.slice s_2.1 (s_2.2.1) (s_2.2.2),.int .i64 x5,.int .i64 (IntKind.i64.wrap (x5 + 1)),.int .i64 (IntKind.i64.wrap (32768 * (IntKind.i64.wrap (x5 + 1)))),.int .i64 x0,.int .i64 x_4,.int .u16 (IntKind.u16.wrap (x_4)),.slice (some ⟨2 * M.nb.size, 0, none⟩) 1 1,.slice s_6.1 (s_6.2.1) (s_6.2.2),.pointer (some ⟨a_7.block, a_7.off, none⟩),g29] M_8 := by kernel_rfl
theorem k26_26 : P26 [1,1,1,0,1,0,0,1,1] = .region 6 (O26 [1,1,1,0,1,0,0,1,1]) false := by kernel_rfl
theorem r26_6 {x5 : Int} {M : Mem} {call : CallM} {K : Array Value → Mem → R} :
    opsK Try.prog (fun _ => call) (O26 [1,1,1,0,1,0,0,1,1]) (O26 [1,1,1,0,1,0,0,1,1]).toList 0 #[g0,g1,g2,g3,g4,.int .i64 x5,g6,g7,g8,g9,g10,g11,g12,g13,g14,g15,g16,g17,g18,g19,g20,g21,g22,g23,g24,g25,g26,g27,g28,g29] M K = K #[g0,g1,g2,g3,g4,.int .i64 (IntKind.i64.wrap (x5 + 1)),g6,g7,g8,g9,g10,g11,g12,g13,g14,g15,.int .i64 x5,.int .i64 (IntKind.i64.wrap (x5 + 1)),g18,g19,g20,g21,g22,g23,g24,g25,g26,g27,g28,g29] M := by kernel_rfl
theorem k26_27 : P26 [1,1,1,0,1,0,0,0,1,1] = .exit 0 := by kernel_rfl
theorem k26_28 : P26 [1,1,1,1] = .seq (P26 [1,1,1,1,0]) (P26 [1,1,1,1,1]) := by kernel_rfl
theorem k26_29 : P26 [1,1,1,1,0] = .region 8 (O26 [1,1,1,1,0]) false := by kernel_rfl
theorem r26_8 {x2 x4 : Option Addr} {M : Mem} {call : CallM} {K : Array Value → Mem → R} :
    opsK Try.prog (fun _ => call) (O26 [1,1,1,1,0]) (O26 [1,1,1,1,0]).toList 0 #[g0,g1,.pointer x2,g3,.pointer x4,g5,g6,g7,g8,g9,g10,g11,g12,g13,g14,g15,g16,g17,g18,g19,g20,g21,g22,g23,g24,g25,g26,g27,g28,g29] M K = (x4).bind fun a_1 => (M.slAt a_1.block a_1.off).bind fun s_2 => (M.intAt .i64 a_1.block (a_1.off + 1)).bind fun x_3 => (x2).bind fun a_4 => (M.put a_4.block a_4.off (.slice s_2.1 (s_2.2.1) (s_2.2.2))).bind fun M_5 => (M_5.put a_4.block (a_4.off + 1) (.int .i64 x_3)).bind fun M_6 => K #[g0,g1,.pointer x2,.int .i64 0,.pointer x4,g5,g6,g7,g8,g9,g10,g11,g12,g13,g14,g15,g16,g17,g18,g19,g20,g21,g22,g23,g24,g25,g26,g27,g28,.agg #[.slice s_2.1 (s_2.2.1) (s_2.2.2), .int .i64 x_3]] M_6 := by kernel_rfl
theorem k26_30 : P26 [1,1,1,1,1] = .ret := by kernel_rfl
noncomputable def S26_1 : List Item := [.code (P26 [1,0,1]), .code (P26 [1,1])]
def A26_1 (x0 : Int) (x2 : Option Addr) (x11 : Bool) (M : Mem) (Q : Value → Mem → Prop) : Prop := ∀ (g1 g3 g4 g5 g6 g7 g8 g9 g10 g12 g13 g14 g15 g16 g17 g18 g19 g20 g21 g22 g23 g24 g25 g26 g27 g28 g29 : Value), Rn Try.prog Try.f26 S26_1 #[.int .i64 x0, g1, .pointer x2, g3, g4, g5, g6, g7, g8, g9, g10, .bool x11, g12, g13, g14, g15, g16, g17, g18, g19, g20, g21, g22, g23, g24, g25, g26, g27, g28, g29] M Q
noncomputable def S26_2 : List Item := [.code (P26 [1,1,1,0,1,0,0]), .inLoop (P26 [1,1,1,0,1,0,0]), .inBlock 0, .code (P26 [1,1,1,1])]
def A26_2 (x0 : Int) (x2 x4 : Option Addr) (x5 : Int) (M : Mem) (Q : Value → Mem → Prop) : Prop := ∀ (g1 g3 g6 g7 g8 g9 g10 g11 g12 g13 g14 g15 g16 g17 g18 g19 g20 g21 g22 g23 g24 g25 g26 g27 g28 g29 : Value), Rn Try.prog Try.f26 S26_2 #[.int .i64 x0, g1, .pointer x2, g3, .pointer x4, .int .i64 x5, g6, g7, g8, g9, g10, g11, g12, g13, g14, g15, g16, g17, g18, g19, g20, g21, g22, g23, g24, g25, g26, g27, g28, g29] M Q
theorem w26_0 {x0 : Int} {M : Mem} {Q : Value → Mem → Prop} (H :
    ((x0 < 2 →
     A26_1 x0 (some ⟨2 * M.nb.size, 0, none⟩) true (M.new (.cells #[.slice none 0 0, .int .i64 0] 24)) Q) ∧
     (¬ (x0 < 2) →
     A26_1 x0 (some ⟨2 * M.nb.size, 0, none⟩) (decide (x0 > 16)) (M.new (.cells #[.slice none 0 0, .int .i64 0] 24)) Q))) :
    Cn Try.prog 26 #[.int .i64 x0] M Q := by
  refine Cn.of b26 d26 t26 ?_
  refine Rn.seq k26_0 (Rn.region k26_1 (fun call K => r26_0) (Rch.leaf (Rn.seq k26_2 (Rn.seq k26_3 (Rn.region k26_4 (fun call K => r26_1) ?_)))))
  refine Rch.cB (fun h => ?_) (fun h => ?_)
  · replace H := H.1 (of_decide_eq_true h)
    refine Rch.leaf ?_
    exact H _ _ _ _ _ _ _ _ _ _ _ _ _ _ _ _ _ _ _ _ _ _ _ _ _ _ _
  · replace H := H.2 (of_decide_eq_false h)
    refine Rch.leaf ?_
    exact H _ _ _ _ _ _ _ _ _ _ _ _ _ _ _ _ _ _ _ _ _ _ _ _ _ _ _

theorem w26_1 {x0 : Int} {x2 : Option Addr} {x11 : Bool} {M : Mem} {Q : Value → Mem → Prop} (H :
    ((x11 = true →
     ∃ a1', x2 = some a1' ∧
     ∃ M2', M.put a1'.block a1'.off (.slice none 0 0) = some M2' ∧
     ∃ M3', M2'.put a1'.block (a1'.off + 1) (.int .i64 0) = some M3' ∧
     ∃ a4', x2 = some a4' ∧
     ∃ s5', M3'.slAt a4'.block a4'.off = some s5' ∧
     ∃ x6', M3'.intAt .i64 a4'.block (a4'.off + 1) = some x6' ∧
     Q (.tuple #[.agg #[.slice s5'.1 (s5'.2.1) (s5'.2.2), .int .i64 (x6')], .int .i64 2]) M3') ∧
     (x11 = false →
     A26_2 x0 x2 (some ⟨2 * M.nb.size, 0, none⟩) 0 (M.new (.cells #[.slice none 0 0, .int .i64 0] 24)) Q))) :
    A26_1 x0 x2 x11 M Q := by
  intro g1 g3 g4 g5 g6 g7 g8 g9 g10 g12 g13 g14 g15 g16 g17 g18 g19 g20 g21 g22 g23 g24 g25 g26 g27 g28 g29
  refine Rn.cnd (v := x11) ⟨c26_5, rfl, by kernel_rfl⟩ (fun h => ?_) (fun h => ?_)
  · replace H := H.1 (h)
    refine Rn.seq k26_6 (Rn.region k26_7 (fun call K => r26_2) (Rch.ex H fun a1' H => Rch.ex H fun M2' H => Rch.ex H fun M3' H => Rch.leaf (Rn.retK k26_8 (fun K => e26_0) (Rch.ex H fun a4' H => Rch.ex H fun s5' H => Rch.ex H fun x6' H => ?_))))
    exact Rch.fin H
  · replace H := H.2 (h)
    refine Rn.skip k26_10 (Rn.seq k26_11 (Rn.region k26_12 (fun call K => r26_3) (Rch.leaf (Rn.seq k26_13 (Rn.seq k26_14 (Rn.region k26_15 (fun call K => r26_4) (Rch.leaf (Rn.block k26_16 (Rn.loop k26_17 ?_)))))))))
    exact H _ _ _ _ _ _ _ _ _ _ _ _ _ _ _ _ _ _ _ _ _ _ _ _ _ _

theorem w26_2 {x0 : Int} {x2 x4 : Option Addr} {x5 : Int} {M : Mem} {Q : Value → Mem → Prop} (H :
    ((x5 < x0 →
     ∃ a7', x4 = some a7' ∧
     ∃ s8', M.slAt a7'.block a7'.off = some s8' ∧
     ∃ v9', binV Try.prog .quo 3 3 (.int .i64 (IntKind.i64.wrap (32768 * (IntKind.i64.wrap (x5 + 1))))) (.int .i64 x0) = some v9' ∧
     ∃ x10', asI .i64 v9' = some x10' ∧
     ∃ r11', appendP Try.prog #[22, 22] (.slice s8'.1 (s8'.2.1) (s8'.2.2)) (.slice (some ⟨2 * M.nb.size, 0, none⟩) 1 1) (M.new (.cells #[.int .u16 (IntKind.u16.wrap (x10'))] 47)) = some r11' ∧
     ∃ s12', asS r11'.1 = some s12' ∧
     ∃ a13', x4 = some a13' ∧
     ∃ M14', r11'.2.put a13'.block a13'.off (.slice s12'.1 (s12'.2.1) (s12'.2.2)) = some M14' ∧
     A26_2 x0 x2 x4 (IntKind.i64.wrap (x5 + 1)) M14' Q) ∧
     (¬ (x5 < x0) →
     ∃ a15', x4 = some a15' ∧
     ∃ s16', M.slAt a15'.block a15'.off = some s16' ∧
     ∃ x17', M.intAt .i64 a15'.block (a15'.off + 1) = some x17' ∧
     ∃ a18', x2 = some a18' ∧
     ∃ M19', M.put a18'.block a18'.off (.slice s16'.1 (s16'.2.1) (s16'.2.2)) = some M19' ∧
     ∃ M20', M19'.put a18'.block (a18'.off + 1) (.int .i64 x17') = some M20' ∧
     ∃ a21', x2 = some a21' ∧
     ∃ s22', M20'.slAt a21'.block a21'.off = some s22' ∧
     ∃ x23', M20'.intAt .i64 a21'.block (a21'.off + 1) = some x23' ∧
     Q (.tuple #[.agg #[.slice s22'.1 (s22'.2.1) (s22'.2.2), .int .i64 (x23')], .int .i64 0]) M20'))) :
    A26_2 x0 x2 x4 x5 M Q := by
  intro g1 g3 g6 g7 g8 g9 g10 g11 g12 g13 g14 g15 g16 g17 g18 g19 g20 g21 g22 g23 g24 g25 g26 g27 g28 g29
  refine Rn.seq k26_18 (Rn.seq k26_19 (Rn.region k26_20 (fun call K => r26_5) (Rch.leaf ?_)))
  refine Rn.cnd (v := decide (x5 < x0)) ⟨c26_21, rfl, by kernel_rfl⟩ (fun h => ?_) (fun h => ?_)
  · replace H := H.1 (of_decide_eq_true h)
    refine Rn.skip k26_22 (Rn.seq k26_23 (Rn.block k26_24 (Rn.regionD k26_25 (fun call K => r26_7) (Rch.ex H fun a7' H => Rch.ex H fun s8' H => Rch.ex H fun v9' H => Rch.ex H fun x10' H => Rch.ex H fun r11' H => Rch.ex H fun s12' H => Rch.ex H fun a13' H => Rch.ex H fun M14' H => ?_))))
    refine Rch.leaf (Rn.blk (Rn.region k26_26 (fun call K => r26_6) (Rch.leaf (Rn.lp ?_))))
    exact H _ _ _ _ _ _ _ _ _ _ _ _ _ _ _ _ _ _ _ _ _ _ _ _ _ _
  · replace H := H.2 (of_decide_eq_false h)
    refine Rn.exit k26_27 rfl (Rn.seq k26_28 (Rn.region k26_29 (fun call K => r26_8) (Rch.ex H fun a15' H => Rch.ex H fun s16' H => Rch.ex H fun x17' H => Rch.ex H fun a18' H => Rch.ex H fun M19' H => Rch.ex H fun M20' H => Rch.leaf (Rn.retK k26_30 (fun K => e26_0) (Rch.ex H fun a21' H => ?_)))))
    refine Rch.ex H fun s22' H => Rch.ex H fun x23' H => ?_
    exact Rch.fin H


/-! ### zoetrope/cdf.Steep: function 27 -/
noncomputable abbrev P27 (p : List Nat) : Code := subC (codeOf Try.f27) p
noncomputable abbrev O27 (p : List Nat) : Array Oper := opsOf (subC (codeOf Try.f27) p)
theorem b27 : Try.prog.funcs[27]? = some Try.f27 ∧ (Orc.tab Try.prog).lookup 27 = none := ⟨by kernel_rfl, by kernel_rfl⟩
theorem d27 : Try.f27.body = some (P27 []) := by kernel_rfl
theorem t27 {x0 : Int} : #[.int .i64 x0] ++ Array.replicate (Try.f27.ntmps - (#[.int .i64 x0] : Array Value).size) undef = #[.int .i64 x0,undef,undef,undef,undef,undef,undef,undef,undef,undef,undef,undef,undef,undef,undef,undef,undef,undef,undef,undef,undef,undef,undef,undef,undef,undef,undef,undef,undef,undef,undef,undef,undef,undef] := by kernel_rfl
theorem k27_0 : P27 [] = .seq (P27 [0]) (P27 [1]) := by kernel_rfl
theorem k27_1 : P27 [0] = .region 0 (O27 [0]) false := by kernel_rfl
theorem r27_0 {M : Mem} {call : CallM} {K : Array Value → Mem → R} :
    opsK Try.prog (fun _ => call) (O27 [0]) (O27 [0]).toList 0 #[g0,g1,g2,g3,g4,g5,g6,g7,g8,g9,g10,g11,g12,g13,g14,g15,g16,g17,g18,g19,g20,g21,g22,g23,g24,g25,g26,g27,g28,g29,g30,g31,g32,g33] M K = K #[g0,g1,.pointer (some ⟨2 * M.nb.size, 0, none⟩),.int .i64 0,g4,g5,g6,g7,g8,g9,g10,g11,g12,g13,g14,g15,g16,g17,g18,g19,g20,g21,g22,g23,g24,g25,g26,g27,g28,g29,g30,g31,g32,g33] (M.new (.cells #[.slice none 0 0, .int .i64 0] 24)) := by kernel_rfl
theorem k27_2 : P27 [1] = .seq (P27 [1,0]) (P27 [1,1]) := by kernel_rfl
theorem k27_3 : P27 [1,0] = .seq (P27 [1,0,0]) (P27 [1,0,1]) := by kernel_rfl
theorem k27_4 : P27 [1,0,0] = .region 1 (O27 [1,0,0]) false := by kernel_rfl
theorem r27_1 {x0 : Int} {M : Mem} {call : CallM} {K : Array Value → Mem → R} :
    opsK Try.prog (fun _ => call) (O27 [1,0,0]) (O27 [1,0,0]).toList 0 #[.int .i64 x0,g1,g2,g3,g4,g5,g6,g7,g8,g9,g10,g11,g12,g13,g14,g15,g16,g17,g18,g19,g20,g21,g22,g23,g24,g25,g26,g27,g28,g29,g30,g31,g32,g33] M K = (call 36 #[.int .i64 x0] M).bind fun r_1 => (asB r_1.1).bind fun b_2 => K #[.int .i64 x0,g1,g2,g3,g4,g5,.int .i64 x0,.bool b_2,.bool (!b_2),g9,g10,g11,g12,g13,g14,g15,g16,g17,g18,g19,g20,g21,g22,g23,g24,g25,g26,g27,g28,g29,g30,g31,g32,g33] r_1.2 := by kernel_rfl
theorem c27_5 : P27 [1,0,1] = .cond (.tmp 8) (P27 [1,0,1,0]) (P27 [1,0,1,1]) := by kernel_rfl
theorem k27_6 : P27 [1,0,1,0] = .seq (P27 [1,0,1,0,0]) (P27 [1,0,1,0,1]) := by kernel_rfl
theorem k27_7 : P27 [1,0,1,0,0] = .region 2 (O27 [1,0,1,0,0]) false := by kernel_rfl
theorem r27_2 {x2 : Option Addr} {M : Mem} {call : CallM} {K : Array Value → Mem → R} :
    opsK Try.prog (fun _ => call) (O27 [1,0,1,0,0]) (O27 [1,0,1,0,0]).toList 0 #[g0,g1,.pointer x2,g3,g4,g5,g6,g7,g8,g9,g10,g11,g12,g13,g14,g15,g16,g17,g18,g19,g20,g21,g22,g23,g24,g25,g26,g27,g28,g29,g30,g31,g32,g33] M K = (x2).bind fun a_1 => (M.put a_1.block a_1.off (.slice none 0 0)).bind fun M_2 => (M_2.put a_1.block (a_1.off + 1) (.int .i64 0)).bind fun M_3 => K #[g0,g1,.pointer x2,.int .i64 2,g4,g5,g6,g7,g8,.agg #[.slice none 0 0, .int .i64 0],g10,g11,g12,g13,g14,g15,g16,g17,g18,g19,g20,g21,g22,g23,g24,g25,g26,g27,g28,g29,g30,g31,g32,g33] M_3 := by kernel_rfl
theorem k27_8 : P27 [1,0,1,0,1] = .ret := by kernel_rfl
theorem e27_0 {x2 : Option Addr} {x3 : Int} {M : Mem} {K : List Value → R} : resK Try.prog #[g0,g1,.pointer x2,.int .i64 x3,g4,g5,g6,g7,g8,g9,g10,g11,g12,g13,g14,g15,g16,g17,g18,g19,g20,g21,g22,g23,g24,g25,g26,g27,g28,g29,g30,g31,g32,g33] M (Try.f27).results.toList K = (x2).bind fun a_1 => (M.slAt a_1.block a_1.off).bind fun s_2 => (M.intAt .i64 a_1.block (a_1.off + 1)).bind fun x_3 => K [.agg #[.slice s_2.1 (s_2.2.1) (s_2.2.2), .int .i64 x_3], .int .i64 x3] := by kernel_rfl
theorem k27_10 : P27 [1,0,1,1] = .skip := by kernel_rfl
theorem k27_11 : P27 [1,1] = .seq (P27 [1,1,0]) (P27 [1,1,1]) := by kernel_rfl
theorem k27_12 : P27 [1,1,0] = .region 3 (O27 [1,1,0]) false := by kernel_rfl
theorem r27_3 {x0 : Int} {M : Mem} {call : CallM} {K : Array Value → Mem → R} :
    opsK Try.prog (fun _ => call) (O27 [1,1,0]) (O27 [1,1,0]).toList 0 #[.int .i64 x0,g1,g2,g3,g4,g5,g6,g7,g8,g9,g10,g11,g12,g13,g14,g15,g16,g17,g18,g19,g20,g21,g22,g23,g24,g25,g26,g27,g28,g29,g30,g31,g32,g33] M K = (makeP Try.prog 22 (.int .i64 x0) (.int .i64 x0) M).bind fun r_1 => (asS r_1.1).bind fun s_2 => ((r_1.2.new (.cells #[.slice none 0 0, .int .i64 0] 24)).put (2 * r_1.2.nb.size) 0 (.slice s_2.1 (s_2.2.1) (s_2.2.2))).bind fun M_3 => (M_3.put (2 * r_1.2.nb.size) 1 (.int .i64 0)).bind fun M_4 => K #[.int .i64 x0,g1,g2,g3,.pointer (some ⟨2 * r_1.2.nb.size, 0, none⟩),g5,g6,g7,g8,g9,.int .i64 x0,.slice s_2.1 (s_2.2.1) (s_2.2.2),.agg #[.slice s_2.1 (s_2.2.1) (s_2.2.2), .int .i64 0],g13,g14,g15,g16,g17,g18,g19,g20,g21,g22,g23,g24,g25,g26,g27,g28,g29,g30,g31,g32,g33] M_4 := by kernel_rfl
theorem k27_13 : P27 [1,1,1] = .seq (P27 [1,1,1,0]) (P27 [1,1,1,1]) := by kernel_rfl
theorem k27_14 : P27 [1,1,1,0] = .seq (P27 [1,1,1,0,0]) (P27 [1,1,1,0,1]) := by kernel_rfl
theorem k27_15 : P27 [1,1,1,0,0] = .region 4 (O27 [1,1,1,0,0]) false := by kernel_rfl
theorem r27_4 {x4 : Option Addr} {M : Mem} {call : CallM} {K : Array Value → Mem → R} :
    opsK Try.prog (fun _ => call) (O27 [1,1,1,0,0]) (O27 [1,1,1,0,0]).toList 0 #[g0,g1,g2,g3,.pointer x4,g5,g6,g7,g8,g9,g10,g11,g12,g13,g14,g15,g16,g17,g18,g19,g20,g21,g22,g23,g24,g25,g26,g27,g28,g29,g30,g31,g32,g33] M K = (x4).bind fun a_1 => (M.slAt a_1.block a_1.off).bind fun s_2 => K #[g0,g1,g2,g3,.pointer x4,g5,g6,g7,g8,g9,g10,g11,g12,.pointer (some ⟨a_1.block, a_1.off, none⟩),.slice s_2.1 (s_2.2.1) (s_2.2.2),.int .i64 ((s_2.2.1 : Int)),.int .i64 0,g17,g18,g19,g20,g21,g22,g23,g24,g25,g26,g27,g28,g29,g30,g31,g32,g33] M := by kernel_rfl
theorem k27_16 : P27 [1,1,1,0,1] = .block 0 (P27 [1,1,1,0,1,0]) := by kernel_rfl
theorem k27_17 : P27 [1,1,1,0,1,0] = .loop (P27 [1,1,1,0,1,0,0]) := by kernel_rfl
theorem k27_18 : P27 [1,1,1,0,1,0,0] = .seq (P27 [1,1,1,0,1,0,0,0]) (P27 [1,1,1,0,1,0,0,1]) := by kernel_rfl
theorem k27_19 : P27 [1,1,1,0,1,0,0,0] = .region 5 (O27 [1,1,1,0,1,0,0,0]) false := by kernel_rfl
theorem r27_5 {x15 x16 : Int} {M : Mem} {call : CallM} {K : Array Value → Mem → R} :
    opsK Try.prog (fun _ => call) (O27 [1,1,1,0,1,0,0,0]) (O27 [1,1,1,0,1,0,0,0]).toList 0 #[g0,g1,g2,g3,g4,g5,g6,g7,g8,g9,g10,g11,g12,g13,g14,.int .i64 x15,.int .i64 x16,g17,g18,g19,g20,g21,g22,g23,g24,g25,g26,g27,g28,g29,g30,g31,g32,g33] M K = K #[g0,g1,g2,g3,g4,g5,g6,g7,g8,g9,g10,g11,g12,g13,g14,.int .i64 x15,.int .i64 x16,.bool (decide (x16 < x15)),g18,g19,g20,g21,g22,g23,g24,g25,g26,g27,g28,g29,g30,g31,g32,g33] M := by kernel_rfl
theorem k27_20 : P27 [1,1,1,0,1,0,0,1] = .seq (P27 [1,1,1,0,1,0,0,1,0]) (P27 [1,1,1,0,1,0,0,1,1]) := by kernel_rfl
theorem c27_21 : P27 [1,1,1,0,1,0,0,1,0] = .cond (.tmp 17) (P27 [1,1,1,0,1,0,0,1,0,0]) (P27 [1,1,1,0,1,0,0,1,0,1]) := by kernel_rfl
theorem k27_22 : P27 [1,1,1,0,1,0,0,1,0,0] = .skip := by kernel_rfl
theorem k27_23 : P27 [1,1,1,0,1,0,0,1,1] = .seq (P27 [1,1,1,0,1,0,0,1,1,0]) (P27 [1,1,1,0,1,0,0,1,1,1]) := by kernel_rfl
theorem k27_24 : P27 [1,1,1,0,1,0,0,1,1,0] = .block 1 (P27 [1,1,1,0,1,0,0,1,1,0,0]) := by kernel_rfl
theorem k27_25 : P27 [1,1,1,0,1,0,0,1,1,0,0] = .seq (P27 [1,1,1,0,1,0,0,1,1,0,0,0]) (P27 [1,1,1,0,1,0,0,1,1,0,0,1]) := by kernel_rfl
theorem k27_26 : P27 [1,1,1,0,1,0,0,1,1,0,0,0] = .region 6 (O27 [1,1,1,0,1,0,0,1,1,0,0,0]) false := by kernel_rfl
theorem r27_6 {x16 : Int} {M : Mem} {call : CallM} {K : Array Value → Mem → R} :
    opsK Try.prog (fun _ => call) (O27 [1,1,1,0,1,0,0,1,1,0,0,0]) (O27 [1,1,1,0,1,0,0,1,1,0,0,0]).toList 0 #[g0,g1,g2,g3,g4,g5,g6,g7,g8,g9,g10,g11,g12,g13,g14,g15,.int .i64 x16,g17,g18,g19,g20,g21,g22,g23,g24,g25,g26,g27,g28,g29,g30,g31,g32,g33] M K = K #[g0,g1,g2,g3,g4,.int .i64 x16,g6,g7,g8,g9,g10,g11,g12,g13,g14,g15,.int .i64 x16,g17,.int .i64 x16,g19,g20,g21,g22,g23,g24,g25,g26,g27,g28,g29,g30,g31,g32,g33] M := by kernel_rfl
theorem k27_27 : P27 [1,1,1,0,1,0,0,1,1,0,0,1] = .region 7 (O27 [1,1,1,0,1,0,0,1,1,0,0,1]) true ∧ drawOk (O27 [1,1,1,0,1,0,0,1,1,0,0,1]) = true := ⟨by kernel_rfl, by kernel_rfl⟩
theorem r27_7 {x4 : Option Addr} {x5 : Int} {M : Mem} {call : CallM} {K : Array Value → Mem → R} :
    opsI Try.prog (callAt call (O27 [1,1,1,0,1,0,0,1,1,0,0,1])) (O27 [1,1,1,0,1,0,0,1,1,0,0,1]) (ordOf (O27 [1,1,1,0,1,0,0,1,1,0,0,1])) [] #[g0,g1,g2,g3,.pointer x4,.int .i64 x5,g6,g7,g8,g9,g10,g11,g12,g13,g14,g15,g16,g17,g18,g19,g20,g21,g22,g23,g24,g25,g26,g27,g28,g29,g30,g31,g32,g33] M K = (x4).bind fun a_1 => (M.slAt a_1.block a_1.off).bind fun s_2 => (binV Try.prog .shr 47 3 (.int .u16 32768) (.int .i64 (IntKind.i64.wrap (x5 + 1)))).bind fun v_3 => (asI .u16 v_3).bind fun x_4 => (idxA s_2.1 (s_2.2.1) 1 x5).bind fun a_5 => (M.put a_5.block a_5.off (.int .u16 (IntKind.u16.wrap (32768 - x_4)))).bind fun M_6 => K #[g0,g1,g2,g3,.pointer x4,.int .i64 x5,g6,g7,g8,g9,g10,g11,g12,g13,g14,g15,g16,g17,g18,.pointer (some ⟨a_1.block, a_1.off, none⟩),.slice s_2.1 (s_2.2.1) (s_2.2.2),.int .i64 x5,.int .i64 x5,.int .i64 (IntKind.i64.wrap (x5 + 1)),.int .u16 x_4,.int .u16 (IntKind.u16.wrap (32768 - x_4)),.pointer (some a_5),g27,g28,g29,g30,g31,g32,g33] M_6 := by kernel_rfl
theorem k27_28 : P27 [1,1,1,0,1,0,0,1,1,1] = .region 8 (O27 [1,1,1,0,1,0,0,1,1,1]) false := by kernel_rfl
theorem r27_8 {x16 : Int} {M : Mem} {call : CallM} {K : Array Value → Mem → R} :
    opsK Try.prog (fun _ => call) (O27 [1,1,1,0,1,0,0,1,1,1]) (O27 [1,1,1,0,1,0,0,1,1,1]).toList 0 #[g0,g1,g2,g3,g4,g5,g6,g7,g8,g9,g10,g11,g12,g13,g14,g15,.int .i64 x16,g17,g18,g19,g20,g21,g22,g23,g24,g25,g26,g27,g28,g29,g30,g31,g32,g33] M K = K #[g0,g1,g2,g3,g4,g5,g6,g7,g8,g9,g10,g11,g12,g13,g14,g15,.int .i64 (IntKind.i64.wrap (x16 + 1)),g17,g18,g19,g20,g21,g22,g23,g24,g25,g26,.int .i64 (IntKind.i64.wrap (x16 + 1)),g28,g29,g30,g31,g32,g33] M := by kernel_rfl
theorem k27_29 : P27 [1,1,1,0,1,0,0,1,0,1] = .exit 0 := by kernel_rfl
theorem k27_30 : P27 [1,1,1,1] = .seq (P27 [1,1,1,1,0]) (P27 [1,1,1,1,1]) := by kernel_rfl
theorem k27_31 : P27 [1,1,1,1,0] = .region 9 (O27 [1,1,1,1,0]) false := by kernel_rfl
theorem r27_9 {x0 : Int} {x4 : Option Addr} {M : Mem} {call : CallM} {K : Array Value → Mem → R} :
    opsK Try.prog (fun _ => call) (O27 [1,1,1,1,0]) (O27 [1,1,1,1,0]).toList 0 #[.int .i64 x0,g1,g2,g3,.pointer x4,g5,g6,g7,g8,g9,g10,g11,g12,g13,g14,g15,g16,g17,g18,g19,g20,g21,g22,g23,g24,g25,g26,g27,g28,g29,g30,g31,g32,g33] M K = (x4).bind fun a_1 => (M.slAt a_1.block a_1.off).bind fun s_2 => (idxA s_2.1 (s_2.2.1) 1 (IntKind.i64.wrap (x0 - 1))).bind fun a_3 => (M.put a_3.block a_3.off (.int .u16 32768)).bind fun M_4 => K #[.int .i64 x0,g1,g2,g3,.pointer x4,g5,g6,g7,g8,g9,g10,g11,g12,g13,g14,g15,g16,g17,g18,g19,g20,g21,g22,g23,g24,g25,g26,g27,.pointer (some ⟨a_1.block, a_1.off, none⟩),.slice s_2.1 (s_2.2.1) (s_2.2.2),.int .i64 x0,.int .i64 (IntKind.i64.wrap (x0 - 1)),.pointer (some a_3),g33] M_4 := by kernel_rfl
theorem k27_32 : P27 [1,1,1,1,1] = .seq (P27 [1,1,1,1,1,0]) (P27 [1,1,1,1,1,1]) := by kernel_rfl
theorem k27_33 : P27 [1,1,1,1,1,0] = .region 10 (O27 [1,1,1,1,1,0]) false := by kernel_rfl
theorem r27_10 {x2 x4 : Option Addr} {M : Mem} {call : CallM} {K : Array Value → Mem → R} :
    opsK Try.prog (fun _ => call) (O27 [1,1,1,1,1,0]) (O27 [1,1,1,1,1,0]).toList 0 #[g0,g1,.pointer x2,g3,.pointer x4,g5,g6,g7,g8,g9,g10,g11,g12,g13,g14,g15,g16,g17,g18,g19,g20,g21,g22,g23,g24,g25,g26,g27,g28,g29,g30,g31,g32,g33] M K = (x4).bind fun a_1 => (M.slAt a_1.block a_1.off).bind fun s_2 => (M.intAt .i64 a_1.block (a_1.off + 1)).bind fun x_3 => (x2).bind fun a_4 => (M.put a_4.block a_4.off (.slice s_2.1 (s_2.2.1) (s_2.2.2))).bind fun M_5 => (M_5.put a_4.block (a_4.off + 1) (.int .i64 x_3)).bind fun M_6 => K #[g0,g1,.pointer x2,.int .i64 0,.pointer x4,g5,g6,g7,g8,g9,g10,g11,g12,g13,g14,g15,g16,g17,g18,g19,g20,g21,g22,g23,g24,g25,g26,g27,g28,g29,g30,g31,g32,.agg #[.slice s_2.1 (s_2.2.1) (s_2.2.2), .int .i64 x_3]] M_6 := by kernel_rfl
theorem k27_34 : P27 [1,1,1,1,1,1] = .ret := by kernel_rfl
noncomputable def S27_1 : List Item := [.code (P27 [1,1,1,0,1,0,0]), .inLoop (P27 [1,1,1,0,1,0,0]), .inBlock 0, .code (P27 [1,1,1,1])]
def A27_1 (x0 : Int) (x2 x4 : Option Addr) (x15 x16 : Int) (M : Mem) (Q : Value → Mem → Prop) : Prop := ∀ (g1 g3 g5 g6 g7 g8 g9 g10 g11 g12 g13 g14 g17 g18 g19 g20 g21 g22 g23 g24 g25 g26 g27 g28 g29 g30 g31 g32 g33 : Value), Rn Try.prog Try.f27 S27_1 #[.int .i64 x0, g1, .pointer x2, g3, .pointer x4, g5, g6, g7, g8, g9, g10, g11, g12, g13, g14, .int .i64 x15, .int .i64 x16, g17, g18, g19, g20, g21, g22, g23, g24, g25, g26, g27, g28, g29, g30, g31, g32, g33] M Q
theorem w27_0 {x0 : Int} {M : Mem} {Q : Value → Mem → Prop} (H :
    Cn Try.prog 36 #[.int .i64 x0] (M.new (.cells #[.slice none 0 0, .int .i64 0] 24)) fun v1' N1' =>
     ∃ b2', asB v1' = some b2' ∧
     (((!b2') = true →
      ∃ M3', N1'.put (2 * M.nb.size) 0 (.slice none 0 0) = some M3' ∧
      ∃ M4', M3'.put (2 * M.nb.size) (0 + 1) (.int .i64 0) = some M4' ∧
      ∃ s5', M4'.slAt (2 * M.nb.size) 0 = some s5' ∧
      ∃ x6', M4'.intAt .i64 (2 * M.nb.size) (0 + 1) = some x6' ∧
      Q (.tuple #[.agg #[.slice s5'.1 (s5'.2.1) (s5'.2.2), .int .i64 (x6')], .int .i64 2]) M4') ∧
      ((!b2') = false →
      ∃ r7', makeP Try.prog 22 (.int .i64 x0) (.int .i64 x0) N1' = some r7' ∧
      ∃ s8', asS r7'.1 = some s8' ∧
      ∃ M9', (r7'.2.new (.cells #[.slice none 0 0, .int .i64 0] 24)).put (2 * r7'.2.nb.size) 0 (.slice s8'.1 (s8'.2.1) (s8'.2.2)) = some M9' ∧
      ∃ M10', M9'.put (2 * r7'.2.nb.size) 1 (.int .i64 0) = some M10' ∧
      ∃ s11', M10'.slAt (2 * r7'.2.nb.size) 0 = some s11' ∧
      A27_1 x0 (some ⟨2 * M.nb.size, 0, none⟩) (some ⟨2 * r7'.2.nb.size, 0, none⟩) (s11'.2.1 : Int) 0 M10' Q))) :
    Cn Try.prog 27 #[.int .i64 x0] M Q := by
  refine Cn.of b27 d27 t27 ?_
  refine Rn.seq k27_0 (Rn.region k27_1 (fun call K => r27_0) (Rch.leaf (Rn.seq k27_2 (Rn.seq k27_3 (Rn.region k27_4 (fun call K => r27_1) (Rch.call H fun v1' N1' H => Rch.ex H fun b2' H => Rch.leaf ?_))))))
  refine Rn.cnd (v := !b2') ⟨c27_5, rfl, by kernel_rfl⟩ (fun h => ?_) (fun h => ?_)
  · replace H := H.1 (h)
    refine Rn.seq k27_6 (Rn.region k27_7 (fun call K => r27_2) (Rch.bind (x := ⟨2 * M.nb.size, 0, none⟩) rfl (Rch.ex H fun M3' H => Rch.ex H fun M4' H => Rch.leaf (Rn.retK k27_8 (fun K => e27_0) (Rch.bind (x := ⟨2 * M.nb.size, 0, none⟩) rfl (Rch.ex H fun s5' H => Rch.ex H fun x6' H => ?_))))))
    exact Rch.fin H
  · replace H := H.2 (h)
    refine Rn.skip k27_10 (Rn.seq k27_11 (Rn.region k27_12 (fun call K => r27_3) (Rch.ex H fun r7' H => Rch.ex H fun s8' H => Rch.ex H fun M9' H => Rch.ex H fun M10' H => Rch.leaf (Rn.seq k27_13 (Rn.seq k27_14 (Rn.region k27_15 (fun call K => r27_4) (Rch.bind (x := ⟨2 * r7'.2.nb.size, 0, none⟩) rfl ?_)))))))
    refine Rch.ex H fun s11' H => Rch.leaf (Rn.block k27_16 (Rn.loop k27_17 ?_))
    exact H _ _ _ _ _ _ _ _ _ _ _ _ _ _ _ _ _ _ _ _ _ _ _ _ _ _ _ _ _

theorem w27_1 {x0 : Int} {x2 x4 : Option Addr} {x15 x16 : Int} {M : Mem} {Q : Value → Mem → Prop} (H :
    ((x16 < x15 →
     ∃ a12', x4 = some a12' ∧
     ∃ s13', M.slAt a12'.block a12'.off = some s13' ∧
     ∃ v14', binV Try.prog .shr 47 3 (.int .u16 32768) (.int .i64 (IntKind.i64.wrap (x16 + 1))) = some v14' ∧
     ∃ x15', asI .u16 v14' = some x15' ∧
     ∃ a16', idxA s13'.1 (s13'.2.1) 1 x16 = some a16' ∧
     ∃ M17', M.put a16'.block a16'.off (.int .u16 (IntKind.u16.wrap (32768 - x15'))) = some M17' ∧
     A27_1 x0 x2 x4 x15 (IntKind.i64.wrap (x16 + 1)) M17' Q) ∧
     (¬ (x16 < x15) →
     ∃ a18', x4 = some a18' ∧
     ∃ s19', M.slAt a18'.block a18'.off = some s19' ∧
     ∃ a20', idxA s19'.1 (s19'.2.1) 1 (IntKind.i64.wrap (x0 - 1)) = some a20' ∧
     ∃ M21', M.put a20'.block a20'.off (.int .u16 32768) = some M21' ∧
     ∃ a22', x4 = some a22' ∧
     ∃ s23', M21'.slAt a22'.block a22'.off = some s23' ∧
     ∃ x24', M21'.intAt .i64 a22'.block (a22'.off + 1) = some x24' ∧
     ∃ a25', x2 = some a25' ∧
     ∃ M26', M21'.put a25'.block a25'.off (.slice s23'.1 (s23'.2.1) (s23'.2.2)) = some M26' ∧
     ∃ M27', M26'.put a25'.block (a25'.off + 1) (.int .i64 x24') = some M27' ∧
     ∃ a28', x2 = some a28' ∧
     ∃ s29', M27'.slAt a28'.block a28'.off = some s29' ∧
     ∃ x30', M27'.intAt .i64 a28'.block (a28'.off + 1) = some x30' ∧
     Q (.tuple #[.agg #[.slice s29'.1 (s29'.2.1) (s29'.2.2), .int .i64 (x30')], .int .i64 0]) M27'))) :
    A27_1 x0 x2 x4 x15 x16 M Q := by
  intro g1 g3 g5 g6 g7 g8 g9 g10 g11 g12 g13 g14 g17 g18 g19 g20 g21 g22 g23 g24 g25 g26 g27 g28 g29 g30 g31 g32 g33
  refine Rn.seq k27_18 (Rn.region k27_19 (fun call K => r27_5) (Rch.leaf (Rn.seq k27_20 ?_)))
  refine Rn.cnd (v := decide (x16 < x15)) ⟨c27_21, rfl, by kernel_rfl⟩ (fun h => ?_) (fun h => ?_)
  · replace H := H.1 (of_decide_eq_true h)
    refine Rn.skip k27_22 (Rn.seq k27_23 (Rn.block k27_24 (Rn.seq k27_25 (Rn.region k27_26 (fun call K => r27_6) (Rch.leaf (Rn.regionD k27_27 (fun call K => r27_7) (Rch.ex H fun a12' H => Rch.ex H fun s13' H => Rch.ex H fun v14' H => Rch.ex H fun x15' H => Rch.ex H fun a16' H => ?_)))))))
    refine Rch.ex H fun M17' H => Rch.leaf (Rn.blk (Rn.region k27_28 (fun call K => r27_8) (Rch.leaf (Rn.lp ?_))))
    exact H _ _ _ _ _ _ _ _ _ _ _ _ _ _ _ _ _ _ _ _ _ _ _ _ _ _ _ _ _
  · replace H := H.2 (of_decide_eq_false h)
    refine Rn.exit k27_29 rfl (Rn.seq k27_30 (Rn.region k27_31 (fun call K => r27_9) (Rch.ex H fun a18' H => Rch.ex H fun s19' H => Rch.ex H fun a20' H => Rch.ex H fun M21' H => Rch.leaf (Rn.seq k27_32 (Rn.region k27_33 (fun call K => r27_10) (Rch.ex H fun a22' H => Rch.ex H fun s23' H => ?_))))))
    refine Rch.ex H fun x24' H => Rch.ex H fun a25' H => Rch.ex H fun M26' H => Rch.ex H fun M27' H => Rch.leaf (Rn.retK k27_34 (fun K => e27_0) (Rch.ex H fun a28' H => Rch.ex H fun s29' H => Rch.ex H fun x30' H => ?_))
    exact Rch.fin H


/-! ### zoetrope/zoetroperef03.Steep: function 28 -/
noncomputable abbrev P28 (p : List Nat) : Code := subC (codeOf Try.f28) p
noncomputable abbrev O28 (p : List Nat) : Array Oper := opsOf (subC (codeOf Try.f28) p)
theorem b28 : Try.prog.funcs[28]? = some Try.f28 ∧ (Orc.tab Try.prog).lookup 28 = none := ⟨by kernel_rfl, by kernel_rfl⟩
theorem d28 : Try.f28.body = some (P28 []) := by kernel_rfl
theorem t28 {x0 : Int} : #[.int .i64 x0] ++ Array.replicate (Try.f28.ntmps - (#[.int .i64 x0] : Array Value).size) undef = #[.int .i64 x0,undef,undef,undef,undef,undef,undef,undef,undef,undef,undef,undef,undef,undef,undef,undef,undef,undef,undef,undef,undef,undef,undef,undef,undef,undef,undef,undef,undef,undef,undef,undef,undef,undef,undef,undef] := by kernel_rfl
theorem k28_0 : P28 [] = .seq (P28 [0]) (P28 [1]) := by kernel_rfl
theorem k28_1 : P28 [0] = .region 0 (O28 [0]) false := by kernel_rfl
theorem r28_0 {M : Mem} {call : CallM} {K : Array Value → Mem → R} :
    opsK Try.prog (fun _ => call) (O28 [0]) (O28 [0]).toList 0 #[g0,g1,g2,g3,g4,g5,g6,g7,g8,g9,g10,g11,g12,g13,g14,g15,g16,g17,g18,g19,g20,g21,g22,g23,g24,g25,g26,g27,g28,g29,g30,g31,g32,g33,g34,g35] M K = K #[g0,g1,.pointer (some ⟨2 * M.nb.size, 0, none⟩),.int .i64 0,g4,g5,g6,g7,g8,g9,g10,g11,g12,g13,g14,g15,g16,g17,g18,g19,g20,g21,g22,g23,g24,g25,g26,g27,g28,g29,g30,g31,g32,g33,g34,g35] (M.new (.cells #[.slice none 0 0, .int .i64 0] 24)) := by kernel_rfl
theorem k28_2 : P28 [1] = .seq (P28 [1,0]) (P28 [1,1]) := by kernel_rfl
theorem k28_3 : P28 [1,0] = .seq (P28 [1,0,0]) (P28 [1,0,1]) := by kernel_rfl
theorem k28_4 : P28 [1,0,0] = .region 1 (O28 [1,0,0]) false := by kernel_rfl
theorem r28_1 {x0 : Int} {M : Mem} {call : CallM} {K : Array Value → Mem → R} :
    opsK Try.prog (fun _ => call) (O28 [1,0,0]) (O28 [1,0,0]).toList 0 #[.int .i64 x0,g1,g2,g3,g4,g5,g6,g7,g8,g9,g10,g11,g12,g13,g14,g15,g16,g17,g18,g19,g20,g21,g22,g23,g24,g25,g26,g27,g28,g29,g30,g31,g32,g33,g34,g35] M K = withK (fun w9 w10 w11 w12 M => K #[.int .i64 x0,g1,g2,g3,g4,g5,g6,.int .i64 x0,.bool (decide (x0 < 2)),w9,w10,w11,w12,g13,g14,g15,g16,g17,g18,g19,g20,g21,g22,g23,g24,g25,g26,g27,g28,g29,g30,g31,g32,g33,g34,g35] M) fun k => cond (decide (x0 < 2)) (k (.bool true) undef undef (.bool true) M) (k (.bool false) (.int .i64 x0) (.bool (decide (x0 > 16))) (.bool (decide (x0 > 16))) M) := by kernel_rfl
theorem c28_5 : P28 [1,0,1] = .cond (.tmp 12) (P28 [1,0,1,0]) (P28 [1,0,1,1]) := by kernel_rfl
theorem k28_6 : P28 [1,0,1,0] = .seq (P28 [1,0,1,0,0]) (P28 [1,0,1,0,1]) := by kernel_rfl
theorem k28_7 : P28 [1,0,1,0,0] = .region 2 (O28 [1,0,1,0,0]) false := by kernel_rfl
theorem r28_2 {x2 : Option Addr} {M : Mem} {call : CallM} {K : Array Value → Mem → R} :
    opsK Try.prog (fun _ => call) (O28 [1,0,1,0,0]) (O28 [1,0,1,0,0]).toList 0 #[g0,g1,.pointer x2,g3,g4,g5,g6,g7,g8,g9,g10,g11,g12,g13,g14,g15,g16,g17,g18,g19,g20,g21,g22,g23,g24,g25,g26,g27,g28,g29,g30,g31,g32,g33,g34,g35] M K = (x2).bind fun a_1 => (M.put a_1.block a_1.off (.slice none 0 0)).bind fun M_2 => (M_2.put a_1.block (a_1.off + 1) (.int .i64 0)).bind fun M_3 => K #[g0,g1,.pointer x2,.int .i64 2,g4,g5,g6,g7,g8,g9,g10,g11,g12,.agg #[.slice none 0 0, .int .i64 0],g14,g15,g16,g17,g18,g19,g20,g21,g22,g23,g24,g25,g26,g27,g28,g29,g30,g31,g32,g33,g34,g35] M_3 := by kernel_rfl
theorem k28_8 : P28 [1,0,1,0,1] = .ret := by kernel_rfl
theorem e28_0 {x2 : Option Addr} {x3 : Int} {M : Mem} {K : List Value → R} : resK Try.prog #[g0,g1,.pointer x2,.int .i64 x3,g4,g5,g6,g7,g8,g9,g10,g11,g12,g13,g14,g15,g16,g17,g18,g19,g20,g21,g22,g23,g24,g25,g26,g27,g28,g29,g30,g31,g32,g33,g34,g35] M (Try.f28).results.toList K = (x2).bind fun a_1 => (M.slAt a_1.block a_1.off).bind fun s_2 => (M.intAt .i64 a_1.block (a_1.off + 1)).bind fun x_3 => K [.agg #[.slice s_2.1 (s_2.2.1) (s_2.2.2), .int .i64 x_3], .int .i64 x3] := by kernel_rfl
theorem k28_10 : P28 [1,0,1,1] = .skip := by kernel_rfl
theorem k28_11 : P28 [1,1] = .seq (P28 [1,1,0]) (P28 [1,1,1]) := by kernel_rfl
theorem k28_12 : P28 [1,1,0] = .region 3 (O28 [1,1,0]) false := by kernel_rfl
theorem r28_3 {M : Mem} {call : CallM} {K : Array Value → Mem → R} :
    opsK Try.prog (fun _ => call) (O28 [1,1,0]) (O28 [1,1,0]).toList 0 #[g0,g1,g2,g3,g4,g5,g6,g7,g8,g9,g10,g11,g12,g13,g14,g15,g16,g17,g18,g19,g20,g21,g22,g23,g24,g25,g26,g27,g28,g29,g30,g31,g32,g33,g34,g35] M K = K #[g0,g1,g2,g3,.pointer (some ⟨2 * M.nb.size, 0, none⟩),g5,g6,g7,g8,g9,g10,g11,g12,g13,g14,g15,g16,g17,g18,g19,g20,g21,g22,g23,g24,g25,g26,g27,g28,g29,g30,g31,g32,g33,g34,g35] (M.new (.cells #[.slice none 0 0, .int .i64 0] 24)) := by kernel_rfl
theorem k28_13 : P28 [1,1,1] = .seq (P28 [1,1,1,0]) (P28 [1,1,1,1]) := by kernel_rfl
theorem k28_14 : P28 [1,1,1,0] = .region 4 (O28 [1,1,1,0]) false := by kernel_rfl
theorem r28_4 {M : Mem} {call : CallM} {K : Array Value → Mem → R} :
    opsK Try.prog (fun _ => call) (O28 [1,1,1,0]) (O28 [1,1,1,0]).toList 0 #[g0,g1,g2,g3,g4,g5,g6,g7,g8,g9,g10,g11,g12,g13,g14,g15,g16,g17,g18,g19,g20,g21,g22,g23,g24,g25,g26,g27,g28,g29,g30,g31,g32,g33,g34,g35] M K = K #[g0,g1,g2,g3,g4,.int .i64 32768,g6,g7,g8,g9,g10,g11,g12,g13,g14,g15,g16,g17,g18,g19,g20,g21,g22,g23,g24,g25,g26,g27,g28,g29,g30,g31,g32,g33,g34,g35] M := by kernel_rfl
theorem k28_15 : P28 [1,1,1,1] = .seq (P28 [1,1,1,1,0]) (P28 [1,1,1,1,1]) := by kernel_rfl
theorem k28_16 : P28 [1,1,1,1,0] = .seq (P28 [1,1,1,1,0,0]) (P28 [1,1,1,1,0,1]) := by kernel_rfl
theorem k28_17 : P28 [1,1,1,1,0,0] = .region 5 (O28 [1,1,1,1,0,0]) false := by kernel_rfl
theorem r28_5 {M : Mem} {call : CallM} {K : Array Value → Mem → R} :
    opsK Try.prog (fun _ => call) (O28 [1,1,1,1,0,0]) (O28 [1,1,1,1,0,0]).toList 0 #[g0,g1,g2,g3,g4,g5,g6,g7,g8,g9,g10,g11,g12,g13,g14,g15,g16,g17,g18,g19,g20,g21,g22,g23,g24,g25,g26,g27,g28,g29,g30,g31,g32,g33,g34,g35] M K = K #[g0,g1,g2,g3,g4,g5,.int .i64 0,g7,g8,g9,g10,g11,g12,g13,g14,g15,g16,g17,g18,g19,g20,g21,g22,g23,g24,g25,g26,g27,g28,g29,g30,g31,g32,g33,g34,g35] M := by kernel_rfl
theorem k28_18 : P28 [1,1,1,1,0,1] = .block 0 (P28 [1,1,1,1,0,1,0]) := by kernel_rfl
theorem k28_19 : P28 [1,1,1,1,0,1,0] = .loop (P28 [1,1,1,1,0,1,0,0]) := by kernel_rfl
theorem k28_20 : P28 [1,1,1,1,0,1,0,0] = .seq (P28 [1,1,1,1,0,1,0,0,0]) (P28 [1,1,1,1,0,1,0,0,1]) := by kernel_rfl
theorem k28_21 : P28 [1,1,1,1,0,1,0,0,0] = .seq (P28 [1,1,1,1,0,1,0,0,0,0]) (P28 [1,1,1,1,0,1,0,0,0,1]) := by kernel_rfl
theorem k28_22 : P28 [1,1,1,1,0,1,0,0,0,0] = .region 6 (O28 [1,1,1,1,0,1,0,0,0,0]) false := by kernel_rfl
theorem r28_6 {x0 x6 : Int} {M : Mem} {call : CallM} {K : Array Value → Mem → R} :
    opsK Try.prog (fun _ => call) (O28 [1,1,1,1,0,1,0,0,0,0]) (O28 [1,1,1,1,0,1,0,0,0,0]).toList 0 #[.int .i64 x0,g1,g2,g3,g4,g5,.int .i64 x6,g7,g8,g9,g10,g11,g12,g13,g14,g15,g16,g17,g18,g19,g20,g21,g22,g23,g24,g25,g26,g27,g28,g29,g30,g31,g32,g33,g34,g35] M K = K #[.int .i64 x0,g1,g2,g3,g4,g5,.int .i64 x6,g7,g8,g9,g10,g11,g12,g13,.int .i64 x6,.int .i64 x0,.int .i64 (IntKind.i64.wrap (x0 - 1)),.bool (decide (x6 < (IntKind.i64.wrap (x0 - 1)))),g18,g19,g20,g21,g22,g23,g24,g25,g26,g27,g28,g29,g30,g31,g32,g33,g34,g35] M := by kernel_rfl
theorem c28_23 : P28 [1,1,1,1,0,1,0,0,0,1] = .cond (.tmp 17) (P28 [1,1,1,1,0,1,0,0,0,1,0]) (P28 [1,1,1,1,0,1,0,0,0,1,1]) := by kernel_rfl
theorem k28_24 : P28 [1,1,1,1,0,1,0,0,0,1,0] = .skip := by kernel_rfl
theorem k28_25 : P28 [1,1,1,1,0,1,0,0,1] = .seq (P28 [1,1,1,1,0,1,0,0,1,0]) (P28 [1,1,1,1,0,1,0,0,1,1]) := by kernel_rfl
theorem k28_26 : P28 [1,1,1,1,0,1,0,0,1,0] = .block 1 (P28 [1,1,1,1,0,1,0,0,1,0,0]) := by kernel_rfl
theorem k28_27 : P28 [1,1,1,1,0,1,0,0,1,0,0] = .seq (P28 [1,1,1,1,0,1,0,0,1,0,0,0]) (P28 [1,1,1,1,0,1,0,0,1,0,0,1]) := by kernel_rfl
theorem k28_28 : P28 [1,1,1,1,0,1,0,0,1,0,0,0] = .region 8 (O28 [1,1,1,1,0,1,0,0,1,0,0,0]) false := by kernel_rfl
theorem r28_8 {x5 : Int} {M : Mem} {call : CallM} {K : Array Value → Mem → R} :
    opsK Try.prog (fun _ => call) (O28 [1,1,1,1,0,1,0,0,1,0,0,0]) (O28 [1,1,1,1,0,1,0,0,1,0,0,0]).toList 0 #[g0,g1,g2,g3,g4,.int .i64 x5,g6,g7,g8,g9,g10,g11,g12,g13,g14,g15,g16,g17,g18,g19,g20,g21,g22,g23,g24,g25,g26,g27,g28,g29,g30,g31,g32,g33,g34,g35] M K = K #[g0,g1,g2,g3,g4,.int .i64 (IntKind.i64.wrap (x5.tdiv 2)),g6,g7,g8,g9,g10,g11,g12,g13,g14,g15,g16,g17,g18,g19,.int .i64 x5,.int .i64 (IntKind.i64.wrap (x5.tdiv 2)),g22,g23,g24,g25,g26,g27,g28,g29,g30,g31,g32,g33,g34,g35] M := by kernel_rfl
theorem k28_29 : P28 [1,1,1,1,0,1,0,0,1,0,0,1] = .region 9 (O28 [1,1,1,1,0,1,0,0,1,0,0,1]) false := by kernel_rfl
theorem r28_9 {x4 : Option Addr} {x5 : Int} {M : Mem} {call : CallM} {K : Array Value → Mem → R} :
    opsK Try.prog (fun _ => call) (O28 [1,1,1,1,0,1,0,0,1,0,0,1]) (O28 [1,1,1,1,0,1,0,0,1,0,0,1]).toList 0 #[g0,g1,g2,g3,.pointer x4,.int .i64 x5,g6,g7,g8,g9,g10,g11,g12,g13,g14,g15,g16,g17,g18,g19,g20,g21,g22,g23,g24,g25,g26,g27,g28,g29,g30,g31,g32,g33,g34,g35] M K = (x4).bind fun a_1 => (M.slAt a_1.block a_1.off).bind fun s_2 => (appendP Try.prog #[22, 22] (.slice s_2.1 (s_2.2.1) (s_2.2.2)) (.slice (some ⟨2 * M.nb.size, 0, none⟩) 1 1) (M.new (.cells #[.int .u16 (IntKind.u16.wrap (IntKind.i64.wrap (32768 - x5)))] 47))).bind fun r_3 => (asS r_3.1).bind fun s_4 => (x4).bind fun a_5 => (r_3.2.put a_5.block a_5.off (.slice s_4.1 (s_4.2.1) (s_4.2.2))).bind fun M_6 => K #[g0,g1,g2,g3,.pointer x4,.int .i64 x5,g6,g7,g8,g9,g10,g11,g12,g13,g14,g15,g16,g17,g18,g19,g20,g21,.pointer (some ⟨a_1.block, a_1.off, none⟩),.slice s_2.1 (s_2.2.1) (s_2.2.2),.int .i64 x5,.int .i64 (IntKind.i64.wrap (32768 - x5)),.int .u16 (IntKind.u16.wrap (IntKind.i64.wrap (32768 - x5))),.slice (some ⟨2 * M.nb.size, 0, none⟩) 1 1,.slice s_4.1 (s_4.2.1) (s_4.2.2),.pointer (some ⟨a_5.block, a_5.off, none⟩),g30,g31,g32,g33,g34,g35] M_6 := by kernel_rfl
theorem k28_30 : P28 [1,1,1,1,0,1,0,0,1,1] = .region 7 (O28 [1,1,1,1,0,1,0,0,1,1]) false := by kernel_rfl
theorem r28_7 {x6 : Int} {M : Mem} {call : CallM} {K : Array Value → Mem → R} :
    opsK Try.prog (fun _ => call) (O28 [1,1,1,1,0,1,0,0,1,1]) (O28 [1,1,1,1,0,1,0,0,1,1]).toList 0 #[g0,g1,g2,g3,g4,g5,.int .i64 x6,g7,g8,g9,g10,g11,g12,g13,g14,g15,g16,g17,g18,g19,g20,g21,g22,g23,g24,g25,g26,g27,g28,g29,g30,g31,g32,g33,g34,g35] M K = K #[g0,g1,g2,g3,g4,g5,.int .i64 (IntKind.i64.wrap (x6 + 1)),g7,g8,g9,g10,g11,g12,g13,g14,g15,g16,g17,.int .i64 x6,.int .i64 (IntKind.i64.wrap (x6 + 1)),g20,g21,g22,g23,g24,g25,g26,g27,g28,g29,g30,g31,g32,g33,g34,g35] M := by kernel_rfl
theorem k28_31 : P28 [1,1,1,1,0,1,0,0,0,1,1] = .exit 0 := by kernel_rfl
theorem k28_32 : P28 [1,1,1,1,1] = .seq (P28 [1,1,1,1,1,0]) (P28 [1,1,1,1,1,1]) := by kernel_rfl
theorem k28_33 : P28 [1,1,1,1,1,0] = .region 10 (O28 [1,1,1,1,1,0]) false := by kernel_rfl
theorem r28_10 {x4 : Option Addr} {M : Mem} {call : CallM} {K : Array Value → Mem → R} :
    opsK Try.prog (fun _ => call) (O28 [1,1,1,1,1,0]) (O28 [1,1,1,1,1,0]).toList 0 #[g0,g1,g2,g3,.pointer x4,g5,g6,g7,g8,g9,g10,g11,g12,g13,g14,g15,g16,g17,g18,g19,g20,g21,g22,g23,g24,g25,g26,g27,g28,g29,g30,g31,g32,g33,g34,g35] M K = (x4).bind fun a_1 => (M.slAt a_1.block a_1.off).bind fun s_2 => (appendP Try.prog #[22, 22] (.slice s_2.1 (s_2.2.1) (s_2.2.2)) (.slice (some ⟨2 * M.nb.size, 0, none⟩) 1 1) (M.new (.cells #[.int .u16 32768] 47))).bind fun r_3 => (asS r_3.1).bind fun s_4 => (x4).bind fun a_5 => (r_3.2.put a_5.block a_5.off (.slice s_4.1 (s_4.2.1) (s_4.2.2))).bind fun M_6 => K #[g0,g1,g2,g3,.pointer x4,g5,g6,g7,g8,g9,g10,g11,g12,g13,g14,g15,g16,g17,g18,g19,g20,g21,g22,g23,g24,g25,g26,g27,g28,g29,.pointer (some ⟨a_1.block, a_1.off, none⟩),.slice s_2.1 (s_2.2.1) (s_2.2.2),.slice (some ⟨2 * M.nb.size, 0, none⟩) 1 1,.slice s_4.1 (s_4.2.1) (s_4.2.2),.pointer (some ⟨a_5.block, a_5.off, none⟩),g35] M_6 := by kernel_rfl
theorem k28_34 : P28 [1,1,1,1,1,1] = .seq (P28 [1,1,1,1,1,1,0]) (P28 [1,1,1,1,1,1,1]) := by kernel_rfl
theorem k28_35 : P28 [1,1,1,1,1,1,0] = .region 11 (O28 [1,1,1,1,1,1,0]) false := by kernel_rfl
theorem r28_11 {x2 x4 : Option Addr} {M : Mem} {call : CallM} {K : Array Value → Mem → R} :
    opsK Try.prog (fun _ => call) (O28 [1,1,1,1,1,1,0]) (O28 [1,1,1,1,1,1,0]).toList 0 #[g0,g1,.pointer x2,g3,.pointer x4,g5,g6,g7,g8,g9,g10,g11,g12,g13,g14,g15,g16,g17,g18,g19,g20,g21,g22,g23,g24,g25,g26,g27,g28,g29,g30,g31,g32,g33,g34,g35] M K = (x4).bind fun a_1 => (M.slAt a_1.block a_1.off).bind fun s_2 => (M.intAt .i64 a_1.block (a_1.off + 1)).bind fun x_3 => (x2).bind fun a_4 => (M.put a_4.block a_4.off (.slice s_2.1 (s_2.2.1) (s_2.2.2))).bind fun M_5 => (M_5.put a_4.block (a_4.off + 1) (.int .i64 x_3)).bind fun M_6 => K #[g0,g1,.pointer x2,.int .i64 0,.pointer x4,g5,g6,g7,g8,g9,g10,g11,g12,g13,g14,g15,g16,g17,g18,g19,g20,g21,g22,g23,g24,g25,g26,g27,g28,g29,g30,g31,g32,g33,g34,.agg #[.slice s_2.1 (s_2.2.1) (s_2.2.2), .int .i64 x_3]] M_6 := by kernel_rfl
theorem k28_36 : P28 [1,1,1,1,1,1,1] = .ret := by kernel_rfl
noncomputable def S28_1 : List Item := [.code (P28 [1,0,1]), .code (P28 [1,1])]
def A28_1 (x0 : Int) (x2 : Option Addr) (x12 : Bool) (M : Mem) (Q : Value → Mem → Prop) : Prop := ∀ (g1 g3 g4 g5 g6 g7 g8 g9 g10 g11 g13 g14 g15 g16 g17 g18 g19 g20 g21 g22 g23 g24 g25 g26 g27 g28 g29 g30 g31 g32 g33 g34 g35 : Value), Rn Try.prog Try.f28 S28_1 #[.int .i64 x0, g1, .pointer x2, g3, g4, g5, g6, g7, g8, g9, g10, g11, .bool x12, g13, g14, g15, g16, g17, g18, g19, g20, g21, g22, g23, g24, g25, g26, g27, g28, g29, g30, g31, g32, g33, g34, g35] M Q
noncomputable def S28_2 : List Item := [.code (P28 [1,1,1,1,0,1,0,0]), .inLoop (P28 [1,1,1,1,0,1,0,0]), .inBlock 0, .code (P28 [1,1,1,1,1])]
def A28_2 (x0 : Int) (x2 x4 : Option Addr) (x5 x6 : Int) (M : Mem) (Q : Value → Mem → Prop) : Prop := ∀ (g1 g3 g7 g8 g9 g10 g11 g12 g13 g14 g15 g16 g17 g18 g19 g20 g21 g22 g23 g24 g25 g26 g27 g28 g29 g30 g31 g32 g33 g34 g35 : Value), Rn Try.prog Try.f28 S28_2 #[.int .i64 x0, g1, .pointer x2, g3, .pointer x4, .int .i64 x5, .int .i64 x6, g7, g8, g9, g10, g11, g12, g13, g14, g15, g16, g17, g18, g19, g20, g21, g22, g23, g24, g25, g26, g27, g28, g29, g30, g31, g32, g33, g34, g35] M Q
theorem w28_0 {x0 : Int} {M : Mem} {Q : Value → Mem → Prop} (H :
    ((x0 < 2 →
     A28_1 x0 (some ⟨2 * M.nb.size, 0, none⟩) true (M.new (.cells #[.slice none 0 0, .int .i64 0] 24)) Q) ∧
     (¬ (x0 < 2) →
     A28_1 x0 (some ⟨2 * M.nb.size, 0, none⟩) (decide (x0 > 16)) (M.new (.cells #[.slice none 0 0, .int .i64 0] 24)) Q))) :
    Cn Try.prog 28 #[.int .i64 x0] M Q := by
  refine Cn.of b28 d28 t28 ?_
  refine Rn.seq k28_0 (Rn.region k28_1 (fun call K => r28_0) (Rch.leaf (Rn.seq k28_2 (Rn.seq k28_3 (Rn.region k28_4 (fun call K => r28_1) ?_)))))
  refine Rch.cB (fun h => ?_) (fun h => ?_)
  · replace H := H.1 (of_decide_eq_true h)
    refine Rch.leaf ?_
    exact H _ _ _ _ _ _ _ _ _ _ _ _ _ _ _ _ _ _ _ _ _ _ _ _ _ _ _ _ _ _ _ _ _
  · replace H := H.2 (of_decide_eq_false h)
    refine Rch.leaf ?_
    exact H _ _ _ _ _ _ _ _ _ _ _ _ _ _ _ _ _ _ _ _ _ _ _ _ _ _ _ _ _ _ _ _ _

theorem w28_1 {x0 : Int} {x2 : Option Addr} {x12 : Bool} {M : Mem} {Q : Value → Mem → Prop} (H :
    ((x12 = true →
     ∃ a1', x2 = some a1' ∧
     ∃ M2', M.put a1'.block a1'.off (.slice none 0 0) = some M2' ∧
     ∃ M3', M2'.put a1'.block (a1'.off + 1) (.int .i64 0) = some M3' ∧
     ∃ a4', x2 = some a4' ∧
     ∃ s5', M3'.slAt a4'.block a4'.off = some s5' ∧
     ∃ x6', M3'.intAt .i64 a4'.block (a4'.off + 1) = some x6' ∧
     Q (.tuple #[.agg #[.slice s5'.1 (s5'.2.1) (s5'.2.2), .int .i64 (x6')], .int .i64 2]) M3') ∧
     (x12 = false →
     A28_2 x0 x2 (some ⟨2 * M.nb.size, 0, none⟩) 32768 0 (M.new (.cells #[.slice none 0 0, .int .i64 0] 24)) Q))) :
    A28_1 x0 x2 x12 M Q := by
  intro g1 g3 g4 g5 g6 g7 g8 g9 g10 g11 g13 g14 g15 g16 g17 g18 g19 g20 g21 g22 g23 g24 g25 g26 g27 g28 g29 g30 g31 g32 g33 g34 g35
  refine Rn.cnd (v := x12) ⟨c28_5, rfl, by kernel_rfl⟩ (fun h => ?_) (fun h => ?_)
  · replace H := H.1 (h)
    refine Rn.seq k28_6 (Rn.region k28_7 (fun call K => r28_2) (Rch.ex H fun a1' H => Rch.ex H fun M2' H => Rch.ex H fun M3' H => Rch.leaf (Rn.retK k28_8 (fun K => e28_0) (Rch.ex H fun a4' H => Rch.ex H fun s5' H => Rch.ex H fun x6' H => ?_))))
    exact Rch.fin H
  · replace H := H.2 (h)
    refine Rn.skip k28_10 (Rn.seq k28_11 (Rn.region k28_12 (fun call K => r28_3) (Rch.leaf (Rn.seq k28_13 (Rn.region k28_14 (fun call K => r28_4) (Rch.leaf (Rn.seq k28_15 (Rn.seq k28_16 (Rn.region k28_17 (fun call K => r28_5) (Rch.leaf (Rn.block k28_18 ?_)))))))))))
    refine Rn.loop k28_19 ?_
    exact H _ _ _ _ _ _ _ _ _ _ _ _ _ _ _ _ _ _ _ _ _ _ _ _ _ _ _ _ _ _ _

theorem w28_2 {x0 : Int} {x2 x4 : Option Addr} {x5 x6 : Int} {M : Mem} {Q : Value → Mem → Prop} (H :
    ((x6 < (IntKind.i64.wrap (x0 - 1)) →
     ∃ a7', x4 = some a7' ∧
     ∃ s8', M.slAt a7'.block a7'.off = some s8' ∧
     ∃ r9', appendP Try.prog #[22, 22] (.slice s8'.1 (s8'.2.1) (s8'.2.2)) (.slice (some ⟨2 * M.nb.size, 0, none⟩) 1 1) (M.new (.cells #[.int .u16 (IntKind.u16.wrap (IntKind.i64.wrap (32768 - (IntKind.i64.wrap (x5.tdiv 2)))))] 47)) = some r9' ∧
     ∃ s10', asS r9'.1 = some s10' ∧
     ∃ a11', x4 = some a11' ∧
     ∃ M12', r9'.2.put a11'.block a11'.off (.slice s10'.1 (s10'.2.1) (s10'.2.2)) = some M12' ∧
     A28_2 x0 x2 x4 (IntKind.i64.wrap (x5.tdiv 2)) (IntKind.i64.wrap (x6 + 1)) M12' Q) ∧
     (¬ (x6 < (IntKind.i64.wrap (x0 - 1))) →
     ∃ a13', x4 = some a13' ∧
     ∃ s14', M.slAt a13'.block a13'.off = some s14' ∧
     ∃ r15', appendP Try.prog #[22, 22] (.slice s14'.1 (s14'.2.1) (s14'.2.2)) (.slice (some ⟨2 * M.nb.size, 0, none⟩) 1 1) (M.new (.cells #[.int .u16 32768] 47)) = some r15' ∧
     ∃ s16', asS r15'.1 = some s16' ∧
     ∃ a17', x4 = some a17' ∧
     ∃ M18', r15'.2.put a17'.block a17'.off (.slice s16'.1 (s16'.2.1) (s16'.2.2)) = some M18' ∧
     ∃ a19', x4 = some a19' ∧
     ∃ s20', M18'.slAt a19'.block a19'.off = some s20' ∧
     ∃ x21', M18'.intAt .i64 a19'.block (a19'.off + 1) = some x21' ∧
     ∃ a22', x2 = some a22' ∧
     ∃ M23', M18'.put a22'.block a22'.off (.slice s20'.1 (s20'.2.1) (s20'.2.2)) = some M23' ∧
     ∃ M24', M23'.put a22'.block (a22'.off + 1) (.int .i64 x21') = some M24' ∧
     ∃ a25', x2 = some a25' ∧
     ∃ s26', M24'.slAt a25'.block a25'.off = some s26' ∧
     ∃ x27', M24'.intAt .i64 a25'.block (a25'.off + 1) = some x27' ∧
     Q (.tuple #[.agg #[.slice s26'.1 (s26'.2.1) (s26'.2.2), .int .i64 (x27')], .int .i64 0]) M24'))) :
    A28_2 x0 x2 x4 x5 x6 M Q := by
  intro g1 g3 g7 g8 g9 g10 g11 g12 g13 g14 g15 g16 g17 g18 g19 g20 g21 g22 g23 g24 g25 g26 g27 g28 g29 g30 g31 g32 g33 g34 g35
  refine Rn.seq k28_20 (Rn.seq k28_21 (Rn.region k28_22 (fun call K => r28_6) (Rch.leaf ?_)))
  refine Rn.cnd (v := decide (x6 < (IntKind.i64.wrap (x0 - 1)))) ⟨c28_23, rfl, by kernel_rfl⟩ (fun h => ?_) (fun h => ?_)
  · replace H := H.1 (of_decide_eq_true h)
    refine Rn.skip k28_24 (Rn.seq k28_25 (Rn.block k28_26 (Rn.seq k28_27 (Rn.region k28_28 (fun call K => r28_8) (Rch.leaf (Rn.region k28_29 (fun call K => r28_9) (Rch.ex H fun a7' H => Rch.ex H fun s8' H => Rch.ex H fun r9' H => Rch.ex H fun s10' H => Rch.ex H fun a11' H => ?_)))))))
    refine Rch.ex H fun M12' H => Rch.leaf (Rn.blk (Rn.region k28_30 (fun call K => r28_7) (Rch.leaf (Rn.lp ?_))))
    exact H _ _ _ _ _ _ _ _ _ _ _ _ _ _ _ _ _ _ _ _ _ _ _ _ _ _ _ _ _ _ _
  · replace H := H.2 (of_decide_eq_false h)
    refine Rn.exit k28_31 rfl (Rn.seq k28_32 (Rn.region k28_33 (fun call K => r28_10) (Rch.ex H fun a13' H => Rch.ex H fun s14' H => Rch.ex H fun r15' H => Rch.ex H fun s16' H => Rch.ex H fun a17' H => Rch.ex H fun M18' H => Rch.leaf (Rn.seq k28_34 (Rn.region k28_35 (fun call K => r28_11) ?_)))))
    refine Rch.ex H fun a19' H => Rch.ex H fun s20' H => Rch.ex H fun x21' H => Rch.ex H fun a22' H => Rch.ex H fun M23' H => Rch.ex H fun M24' H => Rch.leaf (Rn.retK k28_36 (fun K => e28_0) (Rch.ex H fun a25' H => Rch.ex H fun s26' H => Rch.ex H fun x27' H => ?_))
    exact Rch.fin H


/-! ### zoetrope/cdf.Adapt: function 11 -/
noncomputable abbrev P11 (p : List Nat) : Code := subC (codeOf Try.f11) p
noncomputable abbrev O11 (p : List Nat) : Array Oper := opsOf (subC (codeOf Try.f11) p)
theorem b11 : Try.prog.funcs[11]? = some Try.f11 ∧ (Orc.tab Try.prog).lookup 11 = none := ⟨by kernel_rfl, by kernel_rfl⟩
theorem d11 : Try.f11.body = some (P11 []) := by kernel_rfl
theorem t11 {Ax0_0 : Option Addr} {lx0_0 cx0_0 : Nat} {x0_1 x1 : Int} : #[.agg #[.slice Ax0_0 lx0_0 cx0_0, .int .i64 x0_1],.int .i64 x1] ++ Array.replicate (Try.f11.ntmps - (#[.agg #[.slice Ax0_0 lx0_0 cx0_0, .int .i64 x0_1],.int .i64 x1] : Array Value).size) undef = #[.agg #[.slice Ax0_0 lx0_0 cx0_0, .int .i64 x0_1],.int .i64 x1,undef,undef,undef,undef,undef,undef,undef,undef,undef,undef,undef,undef,undef,undef,undef,undef,undef,undef,undef,undef,undef,undef,undef,undef,undef,undef,undef,undef,undef,undef,undef,undef,undef,undef,undef,undef,undef,undef,undef,undef,undef,undef,undef,undef,undef,undef,undef,undef,undef,undef,undef,undef,undef,undef,undef,undef,undef,undef,undef,undef,undef,undef] := by kernel_rfl
theorem k11_0 : P11 [] = .seq (P11 [0]) (P11 [1]) := by kernel_rfl
theorem k11_1 : P11 [0] = .region 0 (O11 [0]) false := by kernel_rfl
theorem r11_0 {Ax0_0 : Option Addr} {lx0_0 cx0_0 : Nat} {x0_1 : Int} {M : Mem} {call : CallM} {K : Array Value → Mem → R} :
    opsK Try.prog (fun _ => call) (O11 [0]) (O11 [0]).toList 0 #[.agg #[.slice Ax0_0 lx0_0 cx0_0, .int .i64 x0_1],g1,g2,g3,g4,g5,g6,g7,g8,g9,g10,g11,g12,g13,g14,g15,g16,g17,g18,g19,g20,g21,g22,g23,g24,g25,g26,g27,g28,g29,g30,g31,g32,g33,g34,g35,g36,g37,g38,g39,g40,g41,g42,g43,g44,g45,g46,g47,g48,g49,g50,g51,g52,g53,g54,g55,g56,g57,g58,g59,g60,g61,g62,g63] M K = K #[.agg #[.slice Ax0_0 lx0_0 cx0_0, .int .i64 x0_1],g1,.pointer (some ⟨2 * M.nb.size, 0, none⟩),g3,.pointer (some ⟨2 * (M.new (.cells #[.slice Ax0_0 lx0_0 cx0_0, .int .i64 x0_1] 24)).nb.size, 0, none⟩),.int .i64 0,g6,g7,g8,g9,g10,g11,g12,g13,g14,g15,g16,g17,g18,g19,g20,g21,g22,g23,g24,g25,g26,g27,g28,g29,g30,g31,g32,g33,g34,g35,g36,g37,g38,g39,g40,g41,g42,g43,g44,g45,g46,g47,g48,g49,g50,g51,g52,g53,g54,g55,g56,g57,g58,g59,g60,g61,g62,g63] ((M.new (.cells #[.slice Ax0_0 lx0_0 cx0_0, .int .i64 x0_1] 24)).new (.cells #[.slice none 0 0, .int .i64 0] 24)) := by kernel_rfl
theorem k11_2 : P11 [1] = .seq (P11 [1,0]) (P11 [1,1]) := by kernel_rfl
theorem k11_3 : P11 [1,0] = .seq (P11 [1,0,0]) (P11 [1,0,1]) := by kernel_rfl
theorem k11_4 : P11 [1,0,0] = .region 1 (O11 [1,0,0]) false := by kernel_rfl
theorem r11_1 {x1 : Int} {x2 : Option Addr} {M : Mem} {call : CallM} {K : Array Value → Mem → R} :
    opsK Try.prog (fun _ => call) (O11 [1,0,0]) (O11 [1,0,0]).toList 0 #[g0,.int .i64 x1,.pointer x2,g3,g4,g5,g6,g7,g8,g9,g10,g11,g12,g13,g14,g15,g16,g17,g18,g19,g20,g21,g22,g23,g24,g25,g26,g27,g28,g29,g30,g31,g32,g33,g34,g35,g36,g37,g38,g39,g40,g41,g42,g43,g44,g45,g46,g47,g48,g49,g50,g51,g52,g53,g54,g55,g56,g57,g58,g59,g60,g61,g62,g63] M K = (x2).bind fun a_1 => (M.slAt a_1.block a_1.off).bind fun s_2 => (M.intAt .i64 a_1.block (a_1.off + 1)).bind fun x_3 => (call 32 #[.agg #[.slice s_2.1 (s_2.2.1) (s_2.2.2), .int .i64 x_3], .int .i64 x1] M).bind fun r_4 => (asB r_4.1).bind fun b_5 => K #[g0,.int .i64 x1,.pointer x2,g3,g4,g5,g6,g7,g8,g9,.agg #[.slice s_2.1 (s_2.2.1) (s_2.2.2), .int .i64 x_3],.int .i64 x1,.bool b_5,.bool (!b_5),g14,g15,g16,g17,g18,g19,g20,g21,g22,g23,g24,g25,g26,g27,g28,g29,g30,g31,g32,g33,g34,g35,g36,g37,g38,g39,g40,g41,g42,g43,g44,g45,g46,g47,g48,g49,g50,g51,g52,g53,g54,g55,g56,g57,g58,g59,g60,g61,g62,g63] r_4.2 := by kernel_rfl
theorem c11_5 : P11 [1,0,1] = .cond (.tmp 13) (P11 [1,0,1,0]) (P11 [1,0,1,1]) := by kernel_rfl
theorem k11_6 : P11 [1,0,1,0] = .seq (P11 [1,0,1,0,0]) (P11 [1,0,1,0,1]) := by kernel_rfl
theorem k11_7 : P11 [1,0,1,0,0] = .region 2 (O11 [1,0,1,0,0]) false := by kernel_rfl
theorem r11_2 {x4 : Option Addr} {M : Mem} {call : CallM} {K : Array Value → Mem → R} :
    opsK Try.prog (fun _ => call) (O11 [1,0,1,0,0]) (O11 [1,0,1,0,0]).toList 0 #[g0,g1,g2,g3,.pointer x4,g5,g6,g7,g8,g9,g10,g11,g12,g13,g14,g15,g16,g17,g18,g19,g20,g21,g22,g23,g24,g25,g26,g27,g28,g29,g30,g31,g32,g33,g34,g35,g36,g37,g38,g39,g40,g41,g42,g43,g44,g45,g46,g47,g48,g49,g50,g51,g52,g53,g54,g55,g56,g57,g58,g59,g60,g61,g62,g63] M K = (x4).bind fun a_1 => (M.put a_1.block a_1.off (.slice none 0 0)).bind fun M_2 => (M_2.put a_1.block (a_1.off + 1) (.int .i64 0)).bind fun M_3 => K #[g0,g1,g2,g3,.pointer x4,.int .i64 2,g6,g7,g8,g9,g10,g11,g12,g13,.agg #[.slice none 0 0, .int .i64 0],g15,g16,g17,g18,g19,g20,g21,g22,g23,g24,g25,g26,g27,g28,g29,g30,g31,g32,g33,g34,g35,g36,g37,g38,g39,g40,g41,g42,g43,g44,g45,g46,g47,g48,g49,g50,g51,g52,g53,g54,g55,g56,g57,g58,g59,g60,g61,g62,g63] M_3 := by kernel_rfl
theorem k11_8 : P11 [1,0,1,0,1] = .ret := by kernel_rfl
theorem e11_0 {x4 : Option Addr} {x5 : Int} {M : Mem} {K : List Value → R} : resK Try.prog #[g0,g1,g2,g3,.pointer x4,.int .i64 x5,g6,g7,g8,g9,g10,g11,g12,g13,g14,g15,g16,g17,g18,g19,g20,g21,g22,g23,g24,g25,g26,g27,g28,g29,g30,g31,g32,g33,g34,g35,g36,g37,g38,g39,g40,g41,g42,g43,g44,g45,g46,g47,g48,g49,g50,g51,g52,g53,g54,g55,g56,g57,g58,g59,g60,g61,g62,g63] M (Try.f11).results.toList K = (x4).bind fun a_1 => (M.slAt a_1.block a_1.off).bind fun s_2 => (M.intAt .i64 a_1.block (a_1.off + 1)).bind fun x_3 => K [.agg #[.slice s_2.1 (s_2.2.1) (s_2.2.2), .int .i64 x_3], .int .i64 x5] := by kernel_rfl
theorem k11_10 : P11 [1,0,1,1] = .skip := by kernel_rfl
theorem k11_11 : P11 [1,1] = .seq (P11 [1,1,0]) (P11 [1,1,1]) := by kernel_rfl
theorem k11_12 : P11 [1,1,0] = .region 3 (O11 [1,1,0]) false := by kernel_rfl
theorem r11_3 {x2 : Option Addr} {M : Mem} {call : CallM} {K : Array Value → Mem → R} :
    opsK Try.prog (fun _ => call) (O11 [1,1,0]) (O11 [1,1,0]).toList 0 #[g0,g1,.pointer x2,g3,g4,g5,g6,g7,g8,g9,g10,g11,g12,g13,g14,g15,g16,g17,g18,g19,g20,g21,g22,g23,g24,g25,g26,g27,g28,g29,g30,g31,g32,g33,g34,g35,g36,g37,g38,g39,g40,g41,g42,g43,g44,g45,g46,g47,g48,g49,g50,g51,g52,g53,g54,g55,g56,g57,g58,g59,g60,g61,g62,g63] M K = (x2).bind fun a_1 => (M.slAt a_1.block a_1.off).bind fun s_2 => (M.intAt .i64 a_1.block (a_1.off + 1)).bind fun x_3 => (call 33 #[.agg #[.slice s_2.1 (s_2.2.1) (s_2.2.2), .int .i64 x_3]] M).bind fun r_4 => (asI .i64 r_4.1).bind fun x_5 => K #[g0,g1,.pointer x2,g3,g4,g5,.int .i64 x_5,g7,g8,g9,g10,g11,g12,g13,g14,.agg #[.slice s_2.1 (s_2.2.1) (s_2.2.2), .int .i64 x_3],.int .i64 x_5,g17,g18,g19,g20,g21,g22,g23,g24,g25,g26,g27,g28,g29,g30,g31,g32,g33,g34,g35,g36,g37,g38,g39,g40,g41,g42,g43,g44,g45,g46,g47,g48,g49,g50,g51,g52,g53,g54,g55,g56,g57,g58,g59,g60,g61,g62,g63] r_4.2 := by kernel_rfl
theorem k11_13 : P11 [1,1,1] = .seq (P11 [1,1,1,0]) (P11 [1,1,1,1]) := by kernel_rfl
theorem k11_14 : P11 [1,1,1,0] = .region 4 (O11 [1,1,1,0]) true ∧ drawOk (O11 [1,1,1,0]) = false ∧ drawJ (O11 [1,1,1,0]) = true := ⟨by kernel_rfl, by kernel_rfl, by kernel_rfl⟩
theorem r11_4 {x2 : Option Addr} {M : Mem} {call : CallM} {K : Array Value → Mem → R} :
    opsJ Try.prog (callAt call (O11 [1,1,1,0])) (O11 [1,1,1,0]) M.nb.size (ordJ (O11 [1,1,1,0])) [] #[g0,g1,.pointer x2,g3,g4,g5,g6,g7,g8,g9,g10,g11,g12,g13,g14,g15,g16,g17,g18,g19,g20,g21,g22,g23,g24,g25,g26,g27,g28,g29,g30,g31,g32,g33,g34,g35,g36,g37,g38,g39,g40,g41,g42,g43,g44,g45,g46,g47,g48,g49,g50,g51,g52,g53,g54,g55,g56,g57,g58,g59,g60,g61,g62,g63] (M.res (slots (O11 [1,1,1,0]))) K = (x2).bind fun a_1 => ((M.res 1).slAt a_1.block a_1.off).bind fun s_2 => (x2).bind fun a_3 => ((M.res 1).intAt .i64 a_3.block (a_3.off + 1)).bind fun x_4 => (floored call 34 #[.slice s_2.1 (s_2.2.1) (s_2.2.2)] (M.res 1)).bind fun r_5 => (asS r_5.1).bind fun s_6 => ((r_5.2.upd (M.nb.size + 0) (.cells #[.slice none 0 0, .int .i64 0] 24)).put (2 * (M.nb.size + 0)) 0 (.slice s_6.1 (s_6.2.1) (s_6.2.2))).bind fun M_7 => (M_7.put (2 * (M.nb.size + 0)) 1 (.int .i64 (if 32 < IntKind.i64.wrap (x_4 + 1) then 32 else IntKind.i64.wrap (x_4 + 1)))).bind fun M_8 => K #[g0,g1,.pointer x2,g3,g4,g5,g6,.pointer (some ⟨2 * (M.nb.size + 0), 0, none⟩),g8,g9,g10,g11,g12,g13,g14,g15,g16,.pointer (some ⟨a_1.block, a_1.off, none⟩),.slice s_2.1 (s_2.2.1) (s_2.2.2),.slice s_6.1 (s_6.2.1) (s_6.2.2),.pointer (some ⟨a_3.block, a_3.off + 1, none⟩),.int .i64 x_4,.int .i64 (IntKind.i64.wrap (x_4 + 1)),.int .i64 (if 32 < IntKind.i64.wrap (x_4 + 1) then 32 else IntKind.i64.wrap (x_4 + 1)),.agg #[.slice s_6.1 (s_6.2.1) (s_6.2.2), .int .i64 (if 32 < IntKind.i64.wrap (x_4 + 1) then 32 else IntKind.i64.wrap (x_4 + 1))],g25,g26,g27,g28,g29,g30,g31,g32,g33,g34,g35,g36,g37,g38,g39,g40,g41,g42,g43,g44,g45,g46,g47,g48,g49,g50,g51,g52,g53,g54,g55,g56,g57,g58,g59,g60,g61,g62,g63] M_8 := by kernel_rfl
theorem k11_15 : P11 [1,1,1,1] = .seq (P11 [1,1,1,1,0]) (P11 [1,1,1,1,1]) := by kernel_rfl
theorem k11_16 : P11 [1,1,1,1,0] = .seq (P11 [1,1,1,1,0,0]) (P11 [1,1,1,1,0,1]) := by kernel_rfl
theorem k11_17 : P11 [1,1,1,1,0,0] = .region 5 (O11 [1,1,1,1,0,0]) false := by kernel_rfl
theorem r11_5 {x2 x7 : Option Addr} {M : Mem} {call : CallM} {K : Array Value → Mem → R} :
    opsK Try.prog (fun _ => call) (O11 [1,1,1,1,0,0]) (O11 [1,1,1,1,0,0]).toList 0 #[g0,g1,.pointer x2,g3,g4,g5,g6,.pointer x7,g8,g9,g10,g11,g12,g13,g14,g15,g16,g17,g18,g19,g20,g21,g22,g23,g24,g25,g26,g27,g28,g29,g30,g31,g32,g33,g34,g35,g36,g37,g38,g39,g40,g41,g42,g43,g44,g45,g46,g47,g48,g49,g50,g51,g52,g53,g54,g55,g56,g57,g58,g59,g60,g61,g62,g63] M K = (x7).bind fun a_1 => (M.slAt a_1.block a_1.off).bind fun s_2 => (x2).bind fun a_3 => (M.slAt a_3.block a_3.off).bind fun s_4 => (sliceP Try.prog 22 (.slice s_2.1 (s_2.2.1) (s_2.2.2)) none (some (.int .i64 (IntKind.i64.wrap (((s_4.2.1 : Int)) - 1)))) none).bind fun v_5 => (asS v_5).bind fun s_6 => K #[g0,g1,.pointer x2,g3,g4,g5,g6,.pointer x7,g8,g9,g10,g11,g12,g13,g14,g15,g16,g17,g18,g19,g20,g21,g22,g23,g24,.pointer (some ⟨a_1.block, a_1.off, none⟩),.slice s_2.1 (s_2.2.1) (s_2.2.2),.pointer (some ⟨a_3.block, a_3.off, none⟩),.slice s_4.1 (s_4.2.1) (s_4.2.2),.int .i64 ((s_4.2.1 : Int)),.int .i64 (IntKind.i64.wrap (((s_4.2.1 : Int)) - 1)),.slice s_6.1 (s_6.2.1) (s_6.2.2),.int .i64 ((s_6.2.1 : Int)),.int .i64 0,g34,g35,g36,g37,g38,g39,g40,g41,g42,g43,g44,g45,g46,g47,g48,g49,g50,g51,g52,g53,g54,g55,g56,g57,g58,g59,g60,g61,g62,g63] M := by kernel_rfl
theorem k11_18 : P11 [1,1,1,1,0,1] = .block 0 (P11 [1,1,1,1,0,1,0]) := by kernel_rfl
theorem k11_19 : P11 [1,1,1,1,0,1,0] = .loop (P11 [1,1,1,1,0,1,0,0]) := by kernel_rfl
theorem k11_20 : P11 [1,1,1,1,0,1,0,0] = .seq (P11 [1,1,1,1,0,1,0,0,0]) (P11 [1,1,1,1,0,1,0,0,1]) := by kernel_rfl
theorem k11_21 : P11 [1,1,1,1,0,1,0,0,0] = .region 6 (O11 [1,1,1,1,0,1,0,0,0]) false := by kernel_rfl
theorem r11_6 {x32 x33 : Int} {M : Mem} {call : CallM} {K : Array Value → Mem → R} :
    opsK Try.prog (fun _ => call) (O11 [1,1,1,1,0,1,0,0,0]) (O11 [1,1,1,1,0,1,0,0,0]).toList 0 #[g0,g1,g2,g3,g4,g5,g6,g7,g8,g9,g10,g11,g12,g13,g14,g15,g16,g17,g18,g19,g20,g21,g22,g23,g24,g25,g26,g27,g28,g29,g30,g31,.int .i64 x32,.int .i64 x33,g34,g35,g36,g37,g38,g39,g40,g41,g42,g43,g44,g45,g46,g47,g48,g49,g50,g51,g52,g53,g54,g55,g56,g57,g58,g59,g60,g61,g62,g63] M K = K #[g0,g1,g2,g3,g4,g5,g6,g7,g8,g9,g10,g11,g12,g13,g14,g15,g16,g17,g18,g19,g20,g21,g22,g23,g24,g25,g26,g27,g28,g29,g30,g31,.int .i64 x32,.int .i64 x33,.bool (decide (x33 < x32)),g35,g36,g37,g38,g39,g40,g41,g42,g43,g44,g45,g46,g47,g48,g49,g50,g51,g52,g53,g54,g55,g56,g57,g58,g59,g60,g61,g62,g63] M := by kernel_rfl
theorem k11_22 : P11 [1,1,1,1,0,1,0,0,1] = .seq (P11 [1,1,1,1,0,1,0,0,1,0]) (P11 [1,1,1,1,0,1,0,0,1,1]) := by kernel_rfl
theorem c11_23 : P11 [1,1,1,1,0,1,0,0,1,0] = .cond (.tmp 34) (P11 [1,1,1,1,0,1,0,0,1,0,0]) (P11 [1,1,1,1,0,1,0,0,1,0,1]) := by kernel_rfl
theorem k11_24 : P11 [1,1,1,1,0,1,0,0,1,0,0] = .skip := by kernel_rfl
theorem k11_25 : P11 [1,1,1,1,0,1,0,0,1,1] = .seq (P11 [1,1,1,1,0,1,0,0,1,1,0]) (P11 [1,1,1,1,0,1,0,0,1,1,1]) := by kernel_rfl
theorem k11_26 : P11 [1,1,1,1,0,1,0,0,1,1,0] = .block 1 (P11 [1,1,1,1,0,1,0,0,1,1,0,0]) := by kernel_rfl
theorem k11_27 : P11 [1,1,1,1,0,1,0,0,1,1,0,0] = .seq (P11 [1,1,1,1,0,1,0,0,1,1,0,0,0]) (P11 [1,1,1,1,0,1,0,0,1,1,0,0,1]) := by kernel_rfl
theorem k11_28 : P11 [1,1,1,1,0,1,0,0,1,1,0,0,0] = .region 7 (O11 [1,1,1,1,0,1,0,0,1,1,0,0,0]) false := by kernel_rfl
theorem r11_7 {Ax31 : Option Addr} {lx31 cx31 : Nat} {x33 : Int} {M : Mem} {call : CallM} {K : Array Value → Mem → R} :
    opsK Try.prog (fun _ => call) (O11 [1,1,1,1,0,1,0,0,1,1,0,0,0]) (O11 [1,1,1,1,0,1,0,0,1,1,0,0,0]).toList 0 #[g0,g1,g2,g3,g4,g5,g6,g7,g8,g9,g10,g11,g12,g13,g14,g15,g16,g17,g18,g19,g20,g21,g22,g23,g24,g25,g26,g27,g28,g29,g30,.slice Ax31 lx31 cx31,g32,.int .i64 x33,g34,g35,g36,g37,g38,g39,g40,g41,g42,g43,g44,g45,g46,g47,g48,g49,g50,g51,g52,g53,g54,g55,g56,g57,g58,g59,g60,g61,g62,g63] M K = (idxA Ax31 lx31 1 x33).bind fun a_1 => (M.intAt .u16 a_1.block a_1.off).bind fun x_2 => K #[g0,g1,g2,g3,g4,g5,g6,g7,.int .i64 x33,.int .u16 x_2,g10,g11,g12,g13,g14,g15,g16,g17,g18,g19,g20,g21,g22,g23,g24,g25,g26,g27,g28,g29,g30,.slice Ax31 lx31 cx31,g32,.int .i64 x33,g34,.int .i64 x33,.pointer (some a_1),.int .u16 x_2,g38,g39,g40,g41,g42,g43,g44,g45,g46,g47,g48,g49,g50,g51,g52,g53,g54,g55,g56,g57,g58,g59,g60,g61,g62,g63] M := by kernel_rfl
theorem k11_29 : P11 [1,1,1,1,0,1,0,0,1,1,0,0,1] = .seq (P11 [1,1,1,1,0,1,0,0,1,1,0,0,1,0]) (P11 [1,1,1,1,0,1,0,0,1,1,0,0,1,1]) := by kernel_rfl
theorem k11_30 : P11 [1,1,1,1,0,1,0,0,1,1,0,0,1,0] = .region 8 (O11 [1,1,1,1,0,1,0,0,1,1,0,0,1,0]) false := by kernel_rfl
theorem r11_8 {x1 x8 : Int} {M : Mem} {call : CallM} {K : Array Value → Mem → R} :
    opsK Try.prog (fun _ => call) (O11 [1,1,1,1,0,1,0,0,1,1,0,0,1,0]) (O11 [1,1,1,1,0,1,0,0,1,1,0,0,1,0]).toList 0 #[g0,.int .i64 x1,g2,g3,g4,g5,g6,g7,.int .i64 x8,g9,g10,g11,g12,g13,g14,g15,g16,g17,g18,g19,g20,g21,g22,g23,g24,g25,g26,g27,g28,g29,g30,g31,g32,g33,g34,g35,g36,g37,g38,g39,g40,g41,g42,g43,g44,g45,g46,g47,g48,g49,g50,g51,g52,g53,g54,g55,g56,g57,g58,g59,g60,g61,g62,g63] M K = K #[g0,.int .i64 x1,g2,g3,g4,g5,g6,g7,.int .i64 x8,g9,g10,g11,g12,g13,g14,g15,g16,g17,g18,g19,g20,g21,g22,g23,g24,g25,g26,g27,g28,g29,g30,g31,g32,g33,g34,g35,g36,g37,.int .i64 x8,.int .i64 x1,.bool (decide (x8 < x1)),g41,g42,g43,g44,g45,g46,g47,g48,g49,g50,g51,g52,g53,g54,g55,g56,g57,g58,g59,g60,g61,g62,g63] M := by kernel_rfl
theorem c11_31 : P11 [1,1,1,1,0,1,0,0,1,1,0,0,1,1] = .cond (.tmp 40) (P11 [1,1,1,1,0,1,0,0,1,1,0,0,1,1,0]) (P11 [1,1,1,1,0,1,0,0,1,1,0,0,1,1,1]) := by kernel_rfl
theorem k11_32 : P11 [1,1,1,1,0,1,0,0,1,1,0,0,1,1,0] = .region 9 (O11 [1,1,1,1,0,1,0,0,1,1,0,0,1,1,0]) true ∧ drawOk (O11 [1,1,1,1,0,1,0,0,1,1,0,0,1,1,0]) = true := ⟨by kernel_rfl, by kernel_rfl⟩
theorem r11_9 {x6 : Int} {x7 : Option Addr} {x8 x9 : Int} {M : Mem} {call : CallM} {K : Array Value → Mem → R} :
    opsI Try.prog (callAt call (O11 [1,1,1,1,0,1,0,0,1,1,0,0,1,1,0])) (O11 [1,1,1,1,0,1,0,0,1,1,0,0,1,1,0]) (ordOf (O11 [1,1,1,1,0,1,0,0,1,1,0,0,1,1,0])) [] #[g0,g1,g2,g3,g4,g5,.int .i64 x6,.pointer x7,.int .i64 x8,.int .u16 x9,g10,g11,g12,g13,g14,g15,g16,g17,g18,g19,g20,g21,g22,g23,g24,g25,g26,g27,g28,g29,g30,g31,g32,g33,g34,g35,g36,g37,g38,g39,g40,g41,g42,g43,g44,g45,g46,g47,g48,g49,g50,g51,g52,g53,g54,g55,g56,g57,g58,g59,g60,g61,g62,g63] M K = (x7).bind fun a_1 => (M.slAt a_1.block a_1.off).bind fun s_2 => (idxA s_2.1 (s_2.2.1) 1 x8).bind fun a_3 => (M.intAt .u16 a_3.block a_3.off).bind fun x_4 => (binV Try.prog .shr 47 3 (.int .u16 x9) (.int .i64 x6)).bind fun v_5 => (asI .u16 v_5).bind fun x_6 => (idxA s_2.1 (s_2.2.1) 1 x8).bind fun a_7 => (M.put a_7.block a_7.off (.int .u16 (IntKind.u16.wrap (x_4 - x_6)))).bind fun M_8 => K #[g0,g1,g2,g3,g4,g5,.int .i64 x6,.pointer x7,.int .i64 x8,.int .u16 x9,g10,g11,g12,g13,g14,g15,g16,g17,g18,g19,g20,g21,g22,g23,g24,g25,g26,g27,g28,g29,g30,g31,g32,g33,g34,g35,g36,g37,g38,g39,g40,.pointer (some ⟨a_1.block, a_1.off, none⟩),.slice s_2.1 (s_2.2.1) (s_2.2.2),.int .i64 x8,.pointer (some a_3),.int .u16 x_4,.int .u16 x9,.int .i64 x6,.int .u16 x_6,.int .u16 (IntKind.u16.wrap (x_4 - x_6)),.pointer (some a_7),g51,g52,g53,g54,g55,g56,g57,g58,g59,g60,g61,g62,g63] M_8 := by kernel_rfl
theorem k11_33 : P11 [1,1,1,1,0,1,0,0,1,1,0,0,1,1,1] = .region 10 (O11 [1,1,1,1,0,1,0,0,1,1,0,0,1,1,1]) true ∧ drawOk (O11 [1,1,1,1,0,1,0,0,1,1,0,0,1,1,1]) = true := ⟨by kernel_rfl, by kernel_rfl⟩
theorem r11_10 {x6 : Int} {x7 : Option Addr} {x8 x9 : Int} {M : Mem} {call : CallM} {K : Array Value → Mem → R} :
    opsI Try.prog (callAt call (O11 [1,1,1,1,0,1,0,0,1,1,0,0,1,1,1])) (O11 [1,1,1,1,0,1,0,0,1,1,0,0,1,1,1]) (ordOf (O11 [1,1,1,1,0,1,0,0,1,1,0,0,1,1,1])) [] #[g0,g1,g2,g3,g4,g5,.int .i64 x6,.pointer x7,.int .i64 x8,.int .u16 x9,g10,g11,g12,g13,g14,g15,g16,g17,g18,g19,g20,g21,g22,g23,g24,g25,g26,g27,g28,g29,g30,g31,g32,g33,g34,g35,g36,g37,g38,g39,g40,g41,g42,g43,g44,g45,g46,g47,g48,g49,g50,g51,g52,g53,g54,g55,g56,g57,g58,g59,g60,g61,g62,g63] M K = (x7).bind fun a_1 => (M.slAt a_1.block a_1.off).bind fun s_2 => (idxA s_2.1 (s_2.2.1) 1 x8).bind fun a_3 => (M.intAt .u16 a_3.block a_3.off).bind fun x_4 => (binV Try.prog .shr 47 3 (.int .u16 (IntKind.u16.wrap (32768 - x9))) (.int .i64 x6)).bind fun v_5 => (asI .u16 v_5).bind fun x_6 => (idxA s_2.1 (s_2.2.1) 1 x8).bind fun a_7 => (M.put a_7.block a_7.off (.int .u16 (IntKind.u16.wrap (x_4 + x_6)))).bind fun M_8 => K #[g0,g1,g2,g3,g4,g5,.int .i64 x6,.pointer x7,.int .i64 x8,.int .u16 x9,g10,g11,g12,g13,g14,g15,g16,g17,g18,g19,g20,g21,g22,g23,g24,g25,g26,g27,g28,g29,g30,g31,g32,g33,g34,g35,g36,g37,g38,g39,g40,g41,g42,g43,g44,g45,g46,g47,g48,g49,g50,.pointer (some ⟨a_1.block, a_1.off, none⟩),.slice s_2.1 (s_2.2.1) (s_2.2.2),.int .i64 x8,.pointer (some a_3),.int .u16 x_4,.int .u16 x9,.int .u16 (IntKind.u16.wrap (32768 - x9)),.int .i64 x6,.int .u16 x_6,.int .u16 (IntKind.u16.wrap (x_4 + x_6)),.pointer (some a_7),g62,g63] M_8 := by kernel_rfl
theorem k11_34 : P11 [1,1,1,1,0,1,0,0,1,0,1] = .exit 0 := by kernel_rfl
theorem k11_35 : P11 [1,1,1,1,1] = .seq (P11 [1,1,1,1,1,0]) (P11 [1,1,1,1,1,1]) := by kernel_rfl
theorem k11_36 : P11 [1,1,1,1,1,0] = .region 12 (O11 [1,1,1,1,1,0]) false := by kernel_rfl
theorem r11_12 {x4 x7 : Option Addr} {M : Mem} {call : CallM} {K : Array Value → Mem → R} :
    opsK Try.prog (fun _ => call) (O11 [1,1,1,1,1,0]) (O11 [1,1,1,1,1,0]).toList 0 #[g0,g1,g2,g3,.pointer x4,g5,g6,.pointer x7,g8,g9,g10,g11,g12,g13,g14,g15,g16,g17,g18,g19,g20,g21,g22,g23,g24,g25,g26,g27,g28,g29,g30,g31,g32,g33,g34,g35,g36,g37,g38,g39,g40,g41,g42,g43,g44,g45,g46,g47,g48,g49,g50,g51,g52,g53,g54,g55,g56,g57,g58,g59,g60,g61,g62,g63] M K = (x7).bind fun a_1 => (M.slAt a_1.block a_1.off).bind fun s_2 => (M.intAt .i64 a_1.block (a_1.off + 1)).bind fun x_3 => (x4).bind fun a_4 => (M.put a_4.block a_4.off (.slice s_2.1 (s_2.2.1) (s_2.2.2))).bind fun M_5 => (M_5.put a_4.block (a_4.off + 1) (.int .i64 x_3)).bind fun M_6 => K #[g0,g1,g2,g3,.pointer x4,.int .i64 0,g6,.pointer x7,g8,g9,g10,g11,g12,g13,g14,g15,g16,g17,g18,g19,g20,g21,g22,g23,g24,g25,g26,g27,g28,g29,g30,g31,g32,g33,g34,g35,g36,g37,g38,g39,g40,g41,g42,g43,g44,g45,g46,g47,g48,g49,g50,g51,g52,g53,g54,g55,g56,g57,g58,g59,g60,g61,g62,.agg #[.slice s_2.1 (s_2.2.1) (s_2.2.2), .int .i64 x_3]] M_6 := by kernel_rfl
theorem k11_37 : P11 [1,1,1,1,1,1] = .ret := by kernel_rfl
theorem k11_38 : P11 [1,1,1,1,0,1,0,0,1,1,1] = .region 11 (O11 [1,1,1,1,0,1,0,0,1,1,1]) false := by kernel_rfl
theorem r11_11 {x33 : Int} {M : Mem} {call : CallM} {K : Array Value → Mem → R} :
    opsK Try.prog (fun _ => call) (O11 [1,1,1,1,0,1,0,0,1,1,1]) (O11 [1,1,1,1,0,1,0,0,1,1,1]).toList 0 #[g0,g1,g2,g3,g4,g5,g6,g7,g8,g9,g10,g11,g12,g13,g14,g15,g16,g17,g18,g19,g20,g21,g22,g23,g24,g25,g26,g27,g28,g29,g30,g31,g32,.int .i64 x33,g34,g35,g36,g37,g38,g39,g40,g41,g42,g43,g44,g45,g46,g47,g48,g49,g50,g51,g52,g53,g54,g55,g56,g57,g58,g59,g60,g61,g62,g63] M K = K #[g0,g1,g2,g3,g4,g5,g6,g7,g8,g9,g10,g11,g12,g13,g14,g15,g16,g17,g18,g19,g20,g21,g22,g23,g24,g25,g26,g27,g28,g29,g30,g31,g32,.int .i64 (IntKind.i64.wrap (x33 + 1)),g34,g35,g36,g37,g38,g39,g40,g41,g42,g43,g44,g45,g46,g47,g48,g49,g50,g51,g52,g53,g54,g55,g56,g57,g58,g59,g60,g61,.int .i64 (IntKind.i64.wrap (x33 + 1)),g63] M := by kernel_rfl
noncomputable def S11_1 : List Item := [.code (P11 [1,1,1,1,0,1,0,0]), .inLoop (P11 [1,1,1,1,0,1,0,0]), .inBlock 0, .code (P11 [1,1,1,1,1])]
def A11_1 (x1 : Int) (x4 : Option Addr) (x6 : Int) (x7 Ax31 : Option Addr) (lx31 cx31 : Nat) (x32 x33 : Int) (M : Mem) (Q : Value → Mem → Prop) : Prop := ∀ (g0 g2 g3 g5 g8 g9 g10 g11 g12 g13 g14 g15 g16 g17 g18 g19 g20 g21 g22 g23 g24 g25 g26 g27 g28 g29 g30 g34 g35 g36 g37 g38 g39 g40 g41 g42 g43 g44 g45 g46 g47 g48 g49 g50 g51 g52 g53 g54 g55 g56 g57 g58 g59 g60 g61 g62 g63 : Value), Rn Try.prog Try.f11 S11_1 #[g0, .int .i64 x1, g2, g3, .pointer x4, g5, .int .i64 x6, .pointer x7, g8, g9, g10, g11, g12, g13, g14, g15, g16, g17, g18, g19, g20, g21, g22, g23, g24, g25, g26, g27, g28, g29, g30, .slice Ax31 lx31 cx31, .int .i64 x32, .int .i64 x33, g34, g35, g36, g37, g38, g39, g40, g41, g42, g43, g44, g45, g46, g47, g48, g49, g50, g51, g52, g53, g54, g55, g56, g57, g58, g59, g60, g61, g62, g63] M Q
noncomputable def S11_2 : List Item := [.code (P11 [1,1,1,1,0,1,0,0,1,1,1]), .inLoop (P11 [1,1,1,1,0,1,0,0]), .inBlock 0, .code (P11 [1,1,1,1,1])]
def A11_2 (x1 : Int) (x4 : Option Addr) (x6 : Int) (x7 Ax31 : Option Addr) (lx31 cx31 : Nat) (x32 x33 : Int) (M : Mem) (Q : Value → Mem → Prop) : Prop := ∀ (g0 g2 g3 g5 g8 g9 g10 g11 g12 g13 g14 g15 g16 g17 g18 g19 g20 g21 g22 g23 g24 g25 g26 g27 g28 g29 g30 g34 g35 g36 g37 g38 g39 g40 g41 g42 g43 g44 g45 g46 g47 g48 g49 g50 g51 g52 g53 g54 g55 g56 g57 g58 g59 g60 g61 g62 g63 : Value), Rn Try.prog Try.f11 S11_2 #[g0, .int .i64 x1, g2, g3, .pointer x4, g5, .int .i64 x6, .pointer x7, g8, g9, g10, g11, g12, g13, g14, g15, g16, g17, g18, g19, g20, g21, g22, g23, g24, g25, g26, g27, g28, g29, g30, .slice Ax31 lx31 cx31, .int .i64 x32, .int .i64 x33, g34, g35, g36, g37, g38, g39, g40, g41, g42, g43, g44, g45, g46, g47, g48, g49, g50, g51, g52, g53, g54, g55, g56, g57, g58, g59, g60, g61, g62, g63] M Q
theorem w11_0 {Ax0_0 : Option Addr} {lx0_0 cx0_0 : Nat} {x0_1 x1 : Int} {M : Mem} {Q : Value → Mem → Prop} (H :
    ∃ s1', ((M.new (.cells #[.slice Ax0_0 lx0_0 cx0_0, .int .i64 x0_1] 24)).new (.cells #[.slice none 0 0, .int .i64 0] 24)).slAt (2 * M.nb.size) 0 = some s1' ∧
    ∃ x2', ((M.new (.cells #[.slice Ax0_0 lx0_0 cx0_0, .int .i64 x0_1] 24)).new (.cells #[.slice none 0 0, .int .i64 0] 24)).intAt .i64 (2 * M.nb.size) (0 + 1) = some x2' ∧
    Cn Try.prog 32 #[.agg #[.slice s1'.1 (s1'.2.1) (s1'.2.2), .int .i64 x2'], .int .i64 x1] ((M.new (.cells #[.slice Ax0_0 lx0_0 cx0_0, .int .i64 x0_1] 24)).new (.cells #[.slice none 0 0, .int .i64 0] 24)) fun v3' N3' =>
     ∃ b4', asB v3' = some b4' ∧
     (((!b4') = true →
      ∃ M5', N3'.put (2 * (M.new (.cells #[.slice Ax0_0 lx0_0 cx0_0, .int .i64 x0_1] 24)).nb.size) 0 (.slice none 0 0) = some M5' ∧
      ∃ M6', M5'.put (2 * (M.new (.cells #[.slice Ax0_0 lx0_0 cx0_0, .int .i64 x0_1] 24)).nb.size) (0 + 1) (.int .i64 0) = some M6' ∧
      ∃ s7', M6'.slAt (2 * (M.new (.cells #[.slice Ax0_0 lx0_0 cx0_0, .int .i64 x0_1] 24)).nb.size) 0 = some s7' ∧
      ∃ x8', M6'.intAt .i64 (2 * (M.new (.cells #[.slice Ax0_0 lx0_0 cx0_0, .int .i64 x0_1] 24)).nb.size) (0 + 1) = some x8' ∧
      Q (.tuple #[.agg #[.slice s7'.1 (s7'.2.1) (s7'.2.2), .int .i64 (x8')], .int .i64 2]) M6') ∧
      ((!b4') = false →
      ∃ s9', N3'.slAt (2 * M.nb.size) 0 = some s9' ∧
      ∃ x10', N3'.intAt .i64 (2 * M.nb.size) (0 + 1) = some x10' ∧
      Cn Try.prog 33 #[.agg #[.slice s9'.1 (s9'.2.1) (s9'.2.2), .int .i64 x10']] N3' fun v11' N11' =>
       ∃ x12', asI .i64 v11' = some x12' ∧
       ∃ s13', (N11'.res 1).slAt (2 * M.nb.size) 0 = some s13' ∧
       ∃ x14', (N11'.res 1).intAt .i64 (2 * M.nb.size) (0 + 1) = some x14' ∧
       Cn Try.prog 34 #[.slice s13'.1 (s13'.2.1) (s13'.2.2)] { (N11'.res 1) with floor := (N11'.res 1).nb.size } fun v15' N15' =>
        ∃ s16', asS v15' = some s16' ∧
        ∃ M17', ({ N15' with floor := (N11'.res 1).floor }.upd (N11'.nb.size + 0) (.cells #[.slice none 0 0, .int .i64 0] 24)).put (2 * (N11'.nb.size + 0)) 0 (.slice s16'.1 (s16'.2.1) (s16'.2.2)) = some M17' ∧
        ∃ M18', M17'.put (2 * (N11'.nb.size + 0)) 1 (.int .i64 (if 32 < IntKind.i64.wrap (x14' + 1) then 32 else IntKind.i64.wrap (x14' + 1))) = some M18' ∧
        ∃ s19', M18'.slAt (2 * (N11'.nb.size + 0)) 0 = some s19' ∧
        ∃ s20', M18'.slAt (2 * M.nb.size) 0 = some s20' ∧
        ∃ v21', sliceP Try.prog 22 (.slice s19'.1 (s19'.2.1) (s19'.2.2)) none (some (.int .i64 (IntKind.i64.wrap (((s20'.2.1 : Int)) - 1)))) none = some v21' ∧
        ∃ s22', asS v21' = some s22' ∧
        A11_1 x1 (some ⟨2 * (M.new (.cells #[.slice Ax0_0 lx0_0 cx0_0, .int .i64 x0_1] 24)).nb.size, 0, none⟩) x12' (some ⟨2 * (N11'.nb.size + 0), 0, none⟩) s22'.1 s22'.2.1 s22'.2.2 (s22'.2.1 : Int) 0 M18' Q))) :
    Cn Try.prog 11 #[.agg #[.slice Ax0_0 lx0_0 cx0_0, .int .i64 x0_1], .int .i64 x1] M Q := by
  refine Cn.of b11 d11 t11 ?_
  refine Rn.seq k11_0 (Rn.region k11_1 (fun call K => r11_0) (Rch.leaf (Rn.seq k11_2 (Rn.seq k11_3 (Rn.region k11_4 (fun call K => r11_1) (Rch.bind (x := ⟨2 * M.nb.size, 0, none⟩) rfl (Rch.ex H fun s1' H => Rch.ex H fun x2' H => Rch.call H fun v3' N3' H => Rch.ex H fun b4' H => Rch.leaf ?_)))))))
  refine Rn.cnd (v := !b4') ⟨c11_5, rfl, by kernel_rfl⟩ (fun h => ?_) (fun h => ?_)
  · replace H := H.1 (h)
    refine Rn.seq k11_6 (Rn.region k11_7 (fun call K => r11_2) (Rch.bind (x := ⟨2 * (M.new (.cells #[.slice Ax0_0 lx0_0 cx0_0, .int .i64 x0_1] 24)).nb.size, 0, none⟩) rfl (Rch.ex H fun M5' H => Rch.ex H fun M6' H => Rch.leaf (Rn.retK k11_8 (fun K => e11_0) (Rch.bind (x := ⟨2 * (M.new (.cells #[.slice Ax0_0 lx0_0 cx0_0, .int .i64 x0_1] 24)).nb.size, 0, none⟩) rfl (Rch.ex H fun s7' H => Rch.ex H fun x8' H => ?_))))))
    exact Rch.fin H
  · replace H := H.2 (h)
    refine Rn.skip k11_10 (Rn.seq k11_11 (Rn.region k11_12 (fun call K => r11_3) (Rch.bind (x := ⟨2 * M.nb.size, 0, none⟩) rfl (Rch.ex H fun s9' H => Rch.ex H fun x10' H => Rch.call H fun v11' N11' H => Rch.ex H fun x12' H => Rch.leaf (Rn.seq k11_13 (Rn.regionJ k11_14 (fun call K => r11_4) (Rch.bind (x := ⟨2 * M.nb.size, 0, none⟩) rfl ?_)))))))
    refine Rch.ex H fun s13' H => Rch.bind (x := ⟨2 * M.nb.size, 0, none⟩) rfl (Rch.ex H fun x14' H => Rch.callF H fun v15' N15' H => Rch.ex H fun s16' H => Rch.ex H fun M17' H => Rch.ex H fun M18' H => Rch.leaf (Rn.seq k11_15 (Rn.seq k11_16 (Rn.region k11_17 (fun call K => r11_5) (Rch.bind (x := ⟨2 * (N11'.nb.size + 0), 0, none⟩) rfl ?_)))))
    refine Rch.ex H fun s19' H => Rch.bind (x := ⟨2 * M.nb.size, 0, none⟩) rfl (Rch.ex H fun s20' H => Rch.ex H fun v21' H => Rch.ex H fun s22' H => Rch.leaf (Rn.block k11_18 (Rn.loop k11_19 ?_)))
    exact H _ _ _ _ _ _ _ _ _ _ _ _ _ _ _ _ _ _ _ _ _ _ _ _ _ _ _ _ _ _ _ _ _ _ _ _ _ _ _ _ _ _ _ _ _ _ _ _ _ _ _ _ _ _ _ _ _

theorem w11_1 {x1 : Int} {x4 : Option Addr} {x6 : Int} {x7 Ax31 : Option Addr} {lx31 cx31 : Nat} {x32 x33 : Int} {M : Mem} {Q : Value → Mem → Prop} (H :
    ((x33 < x32 →
     ∃ a23', idxA Ax31 lx31 1 x33 = some a23' ∧
     ∃ x24', M.intAt .u16 a23'.block a23'.off = some x24' ∧
     ((x33 < x1 →
      ∃ a25', x7 = some a25' ∧
      ∃ s26', M.slAt a25'.block a25'.off = some s26' ∧
      ∃ a27', idxA s26'.1 (s26'.2.1) 1 x33 = some a27' ∧
      ∃ x28', M.intAt .u16 a27'.block a27'.off = some x28' ∧
      ∃ v29', binV Try.prog .shr 47 3 (.int .u16 x24') (.int .i64 x6) = some v29' ∧
      ∃ x30', asI .u16 v29' = some x30' ∧
      ∃ a31', idxA s26'.1 (s26'.2.1) 1 x33 = some a31' ∧
      ∃ M32', M.put a31'.block a31'.off (.int .u16 (IntKind.u16.wrap (x28' - x30'))) = some M32' ∧
      A11_2 x1 x4 x6 x7 Ax31 lx31 cx31 x32 x33 M32' Q) ∧
      (¬ (x33 < x1) →
      ∃ a33', x7 = some a33' ∧
      ∃ s34', M.slAt a33'.block a33'.off = some s34' ∧
      ∃ a35', idxA s34'.1 (s34'.2.1) 1 x33 = some a35' ∧
      ∃ x36', M.intAt .u16 a35'.block a35'.off = some x36' ∧
      ∃ v37', binV Try.prog .shr 47 3 (.int .u16 (IntKind.u16.wrap (32768 - x24'))) (.int .i64 x6) = some v37' ∧
      ∃ x38', asI .u16 v37' = some x38' ∧
      ∃ a39', idxA s34'.1 (s34'.2.1) 1 x33 = some a39' ∧
      ∃ M40', M.put a39'.block a39'.off (.int .u16 (IntKind.u16.wrap (x36' + x38'))) = some M40' ∧
      A11_2 x1 x4 x6 x7 Ax31 lx31 cx31 x32 x33 M40' Q))) ∧
     (¬ (x33 < x32) →
     ∃ a41', x7 = some a41' ∧
     ∃ s42', M.slAt a41'.block a41'.off = some s42' ∧
     ∃ x43', M.intAt .i64 a41'.block (a41'.off + 1) = some x43' ∧
     ∃ a44', x4 = some a44' ∧
     ∃ M45', M.put a44'.block a44'.off (.slice s42'.1 (s42'.2.1) (s42'.2.2)) = some M45' ∧
     ∃ M46', M45'.put a44'.block (a44'.off + 1) (.int .i64 x43') = some M46' ∧
     ∃ a47', x4 = some a47' ∧
     ∃ s48', M46'.slAt a47'.block a47'.off = some s48' ∧
     ∃ x49', M46'.intAt .i64 a47'.block (a47'.off + 1) = some x49' ∧
     Q (.tuple #[.agg #[.slice s48'.1 (s48'.2.1) (s48'.2.2), .int .i64 (x49')], .int .i64 0]) M46'))) :
    A11_1 x1 x4 x6 x7 Ax31 lx31 cx31 x32 x33 M Q := by
  intro g0 g2 g3 g5 g8 g9 g10 g11 g12 g13 g14 g15 g16 g17 g18 g19 g20 g21 g22 g23 g24 g25 g26 g27 g28 g29 g30 g34 g35 g36 g37 g38 g39 g40 g41 g42 g43 g44 g45 g46 g47 g48 g49 g50 g51 g52 g53 g54 g55 g56 g57 g58 g59 g60 g61 g62 g63
  refine Rn.seq k11_20 (Rn.region k11_21 (fun call K => r11_6) (Rch.leaf (Rn.seq k11_22 ?_)))
  refine Rn.cnd (v := decide (x33 < x32)) ⟨c11_23, rfl, by kernel_rfl⟩ (fun h => ?_) (fun h => ?_)
  · replace H := H.1 (of_decide_eq_true h)
    refine Rn.skip k11_24 (Rn.seq k11_25 (Rn.block k11_26 (Rn.seq k11_27 (Rn.region k11_28 (fun call K => r11_7) (Rch.ex H fun a23' H => Rch.ex H fun x24' H => Rch.leaf (Rn.seq k11_29 (Rn.region k11_30 (fun call K => r11_8) (Rch.leaf ?_))))))))
    refine Rn.cnd (v := decide (x33 < x1)) ⟨c11_31, rfl, by kernel_rfl⟩ (fun h => ?_) (fun h => ?_)
    · replace H := H.1 (of_decide_eq_true h)
      refine Rn.regionD k11_32 (fun call K => r11_9) (Rch.ex H fun a25' H => Rch.ex H fun s26' H => Rch.ex H fun a27' H => Rch.ex H fun x28' H => Rch.ex H fun v29' H => Rch.ex H fun x30' H => Rch.ex H fun a31' H => Rch.ex H fun M32' H => Rch.leaf (Rn.blk ?_))
      exact H _ _ _ _ _ _ _ _ _ _ _ _ _ _ _ _ _ _ _ _ _ _ _ _ _ _ _ _ _ _ _ _ _ _ _ _ _ _ _ _ _ _ _ _ _ _ _ _ _ _ _ _ _ _ _ _ _
    · replace H := H.2 (of_decide_eq_false h)
      refine Rn.regionD k11_33 (fun call K => r11_10) (Rch.ex H fun a33' H => Rch.ex H fun s34' H => Rch.ex H fun a35' H => Rch.ex H fun x36' H => Rch.ex H fun v37' H => Rch.ex H fun x38' H => Rch.ex H fun a39' H => Rch.ex H fun M40' H => Rch.leaf (Rn.blk ?_))
      exact H _ _ _ _ _ _ _ _ _ _ _ _ _ _ _ _ _ _ _ _ _ _ _ _ _ _ _ _ _ _ _ _ _ _ _ _ _ _ _ _ _ _ _ _ _ _ _ _ _ _ _ _ _ _ _ _ _
  · replace H := H.2 (of_decide_eq_false h)
    refine Rn.exit k11_34 rfl (Rn.seq k11_35 (Rn.region k11_36 (fun call K => r11_12) (Rch.ex H fun a41' H => Rch.ex H fun s42' H => Rch.ex H fun x43' H => Rch.ex H fun a44' H => Rch.ex H fun M45' H => Rch.ex H fun M46' H => Rch.leaf (Rn.retK k11_37 (fun K => e11_0) (Rch.ex H fun a47' H => ?_)))))
    refine Rch.ex H fun s48' H => Rch.ex H fun x49' H => ?_
    exact Rch.fin H

theorem w11_2 {x1 : Int} {x4 : Option Addr} {x6 : Int} {x7 Ax31 : Option Addr} {lx31 cx31 : Nat} {x32 x33 : Int} {M : Mem} {Q : Value → Mem → Prop} (H :
    A11_1 x1 x4 x6 x7 Ax31 lx31 cx31 x32 (IntKind.i64.wrap (x33 + 1)) M Q) :
    A11_2 x1 x4 x6 x7 Ax31 lx31 cx31 x32 x33 M Q := by
  intro g0 g2 g3 g5 g8 g9 g10 g11 g12 g13 g14 g15 g16 g17 g18 g19 g20 g21 g22 g23 g24 g25 g26 g27 g28 g29 g30 g34 g35 g36 g37 g38 g39 g40 g41 g42 g43 g44 g45 g46 g47 g48 g49 g50 g51 g52 g53 g54 g55 g56 g57 g58 g59 g60 g61 g62 g63
  refine Rn.region k11_38 (fun call K => r11_11) (Rch.leaf (Rn.lp ?_))
  exact H _ _ _ _ _ _ _ _ _ _ _ _ _ _ _ _ _ _ _ _ _ _ _ _ _ _ _ _ _ _ _ _ _ _ _ _ _ _ _ _ _ _ _ _ _ _ _ _ _ _ _ _ _ _ _ _ _


/-! ### zoetrope/zoetroperef03.Adapt: function 12 -/
noncomputable abbrev P12 (p : List Nat) : Code := subC (codeOf Try.f12) p
noncomputable abbrev O12 (p : List Nat) : Array Oper := opsOf (subC (codeOf Try.f12) p)
theorem b12 : Try.prog.funcs[12]? = some Try.f12 ∧ (Orc.tab Try.prog).lookup 12 = none := ⟨by kernel_rfl, by kernel_rfl⟩
theorem d12 : Try.f12.body = some (P12 []) := by kernel_rfl
theorem t12 {Ax0_0 : Option Addr} {lx0_0 cx0_0 : Nat} {x0_1 x1 : Int} : #[.agg #[.slice Ax0_0 lx0_0 cx0_0, .int .i64 x0_1],.int .i64 x1] ++ Array.replicate (Try.f12.ntmps - (#[.agg #[.slice Ax0_0 lx0_0 cx0_0, .int .i64 x0_1],.int .i64 x1] : Array Value).size) undef = #[.agg #[.slice Ax0_0 lx0_0 cx0_0, .int .i64 x0_1],.int .i64 x1,undef,undef,undef,undef,undef,undef,undef,undef,undef,undef,undef,undef,undef,undef,undef,undef,undef,undef,undef,undef,undef,undef,undef,undef,undef,undef,undef,undef,undef,undef,undef,undef,undef,undef,undef,undef,undef,undef,undef,undef,undef,undef,undef,undef,undef,undef,undef,undef,undef,undef,undef,undef,undef,undef,undef,undef,undef,undef,undef,undef,undef,undef,undef,undef,undef,undef,undef,undef,undef,undef,undef,undef,undef,undef,undef,undef,undef,undef,undef,undef,undef,undef,undef,undef,undef,undef,undef,undef,undef,undef,undef,undef,undef,undef,undef,undef,undef,undef] := by kernel_rfl
theorem k12_0 : P12 [] = .seq (P12 [0]) (P12 [1]) := by kernel_rfl
theorem k12_1 : P12 [0] = .region 0 (O12 [0]) false := by kernel_rfl
theorem r12_0 {Ax0_0 : Option Addr} {lx0_0 cx0_0 : Nat} {x0_1 : Int} {M : Mem} {call : CallM} {K : Array Value → Mem → R} :
    opsK Try.prog (fun _ => call) (O12 [0]) (O12 [0]).toList 0 #[.agg #[.slice Ax0_0 lx0_0 cx0_0, .int .i64 x0_1],g1,g2,g3,g4,g5,g6,g7,g8,g9,g10,g11,g12,g13,g14,g15,g16,g17,g18,g19,g20,g21,g22,g23,g24,g25,g26,g27,g28,g29,g30,g31,g32,g33,g34,g35,g36,g37,g38,g39,g40,g41,g42,g43,g44,g45,g46,g47,g48,g49,g50,g51,g52,g53,g54,g55,g56,g57,g58,g59,g60,g61,g62,g63,g64,g65,g66,g67,g68,g69,g70,g71,g72,g73,g74,g75,g76,g77,g78,g79,g80,g81,g82,g83,g84,g85,g86,g87,g88,g89,g90,g91,g92,g93,g94,g95,g96,g97,g98,g99] M K = K #[.agg #[.slice Ax0_0 lx0_0 cx0_0, .int .i64 x0_1],g1,.pointer (some ⟨2 * M.nb.size, 0, none⟩),g3,.pointer (some ⟨2 * (M.new (.cells #[.slice Ax0_0 lx0_0 cx0_0, .int .i64 x0_1] 24)).nb.size, 0, none⟩),.int .i64 0,g6,g7,g8,g9,g10,g11,g12,g13,g14,g15,g16,g17,g18,g19,g20,g21,g22,g23,g24,g25,g26,g27,g28,g29,g30,g31,g32,g33,g34,g35,g36,g37,g38,g39,g40,g41,g42,g43,g44,g45,g46,g47,g48,g49,g50,g51,g52,g53,g54,g55,g56,g57,g58,g59,g60,g61,g62,g63,g64,g65,g66,g67,g68,g69,g70,g71,g72,g73,g74,g75,g76,g77,g78,g79,g80,g81,g82,g83,g84,g85,g86,g87,g88,g89,g90,g91,g92,g93,g94,g95,g96,g97,g98,g99] ((M.new (.cells #[.slice Ax0_0 lx0_0 cx0_0, .int .i64 x0_1] 24)).new (.cells #[.slice none 0 0, .int .i64 0] 24)) := by kernel_rfl
theorem k12_2 : P12 [1] = .seq (P12 [1,0]) (P12 [1,1]) := by kernel_rfl
theorem k12_3 : P12 [1,0] = .seq (P12 [1,0,0]) (P12 [1,0,1]) := by kernel_rfl
theorem k12_4 : P12 [1,0,0] = .region 1 (O12 [1,0,0]) false := by kernel_rfl
theorem r12_1 {x1 : Int} {x2 : Option Addr} {M : Mem} {call : CallM} {K : Array Value → Mem → R} :
    opsK Try.prog (fun _ => call) (O12 [1,0,0]) (O12 [1,0,0]).toList 0 #[g0,.int .i64 x1,.pointer x2,g3,g4,g5,g6,g7,g8,g9,g10,g11,g12,g13,g14,g15,g16,g17,g18,g19,g20,g21,g22,g23,g24,g25,g26,g27,g28,g29,g30,g31,g32,g33,g34,g35,g36,g37,g38,g39,g40,g41,g42,g43,g44,g45,g46,g47,g48,g49,g50,g51,g52,g53,g54,g55,g56,g57,g58,g59,g60,g61,g62,g63,g64,g65,g66,g67,g68,g69,g70,g71,g72,g73,g74,g75,g76,g77,g78,g79,g80,g81,g82,g83,g84,g85,g86,g87,g88,g89,g90,g91,g92,g93,g94,g95,g96,g97,g98,g99] M K = withK (fun w13 w14 w15 w16 w17 w18 w19 w20 w21 w22 w23 w24 w25 w26 M => K #[g0,.int .i64 x1,.pointer x2,g3,g4,g5,g6,g7,g8,g9,g10,g11,g12,w13,w14,w15,w16,w17,w18,w19,w20,w21,w22,w23,w24,w25,w26,g27,g28,g29,g30,g31,g32,g33,g34,g35,g36,g37,g38,g39,g40,g41,g42,g43,g44,g45,g46,g47,g48,g49,g50,g51,g52,g53,g54,g55,g56,g57,g58,g59,g60,g61,g62,g63,g64,g65,g66,g67,g68,g69,g70,g71,g72,g73,g74,g75,g76,g77,g78,g79,g80,g81,g82,g83,g84,g85,g86,g87,g88,g89,g90,g91,g92,g93,g94,g95,g96,g97,g98,g99] M) fun k => (x2).bind fun a_1 => (M.slAt a_1.block a_1.off).bind fun s_2 => (M.intAt .i64 a_1.block (a_1.off + 1)).bind fun x_3 => (call 29 #[.agg #[.slice s_2.1 (s_2.2.1) (s_2.2.2), .int .i64 x_3]] M).bind fun r_4 => (asI .i64 r_4.1).bind fun x_5 => cond (x_5 != 0) (k (.agg #[.slice s_2.1 (s_2.2.1) (s_2.2.2), .int .i64 x_3]) (.int .i64 x_5) (.bool (x_5 != 0)) (.bool true) undef undef (.bool true) (.bool true) undef undef undef undef undef (.bool true) r_4.2) (cond (decide (x1 < 0)) (k (.agg #[.slice s_2.1 (s_2.2.1) (s_2.2.2), .int .i64 x_3]) (.int .i64 x_5) (.bool (x_5 != 0)) (.bool false) (.int .i64 x1) (.bool (decide (x1 < 0))) (.bool (decide (x1 < 0))) (.bool true) undef undef undef undef undef (.bool true) r_4.2) ((x2).bind fun a_6 => (r_4.2.slAt a_6.block a_6.off).bind fun s_7 => k (.agg #[.slice s_2.1 (s_2.2.1) (s_2.2.2), .int .i64 x_3]) (.int .i64 x_5) (.bool (x_5 != 0)) (.bool false) (.int .i64 x1) (.bool (decide (x1 < 0))) (.bool (decide (x1 < 0))) (.bool false) (.int .i64 x1) (.pointer (some ⟨a_6.block, a_6.off, none⟩)) (.slice s_7.1 (s_7.2.1) (s_7.2.2)) (.int .i64 ((s_7.2.1 : Int))) (.bool (decide (x1 ≥ ((s_7.2.1 : Int))))) (.bool (decide (x1 ≥ ((s_7.2.1 : Int))))) r_4.2)) := by kernel_rfl
theorem c12_5 : P12 [1,0,1] = .cond (.tmp 26) (P12 [1,0,1,0]) (P12 [1,0,1,1]) := by kernel_rfl
theorem k12_6 : P12 [1,0,1,0] = .seq (P12 [1,0,1,0,0]) (P12 [1,0,1,0,1]) := by kernel_rfl
theorem k12_7 : P12 [1,0,1,0,0] = .region 2 (O12 [1,0,1,0,0]) false := by kernel_rfl
theorem r12_2 {x4 : Option Addr} {M : Mem} {call : CallM} {K : Array Value → Mem → R} :
    opsK Try.prog (fun _ => call) (O12 [1,0,1,0,0]) (O12 [1,0,1,0,0]).toList 0 #[g0,g1,g2,g3,.pointer x4,g5,g6,g7,g8,g9,g10,g11,g12,g13,g14,g15,g16,g17,g18,g19,g20,g21,g22,g23,g24,g25,g26,g27,g28,g29,g30,g31,g32,g33,g34,g35,g36,g37,g38,g39,g40,g41,g42,g43,g44,g45,g46,g47,g48,g49,g50,g51,g52,g53,g54,g55,g56,g57,g58,g59,g60,g61,g62,g63,g64,g65,g66,g67,g68,g69,g70,g71,g72,g73,g74,g75,g76,g77,g78,g79,g80,g81,g82,g83,g84,g85,g86,g87,g88,g89,g90,g91,g92,g93,g94,g95,g96,g97,g98,g99] M K = (x4).bind fun a_1 => (M.put a_1.block a_1.off (.slice none 0 0)).bind fun M_2 => (M_2.put a_1.block (a_1.off + 1) (.int .i64 0)).bind fun M_3 => K #[g0,g1,g2,g3,.pointer x4,.int .i64 2,g6,g7,g8,g9,g10,g11,g12,g13,g14,g15,g16,g17,g18,g19,g20,g21,g22,g23,g24,g25,g26,.agg #[.slice none 0 0, .int .i64 0],g28,g29,g30,g31,g32,g33,g34,g35,g36,g37,g38,g39,g40,g41,g42,g43,g44,g45,g46,g47,g48,g49,g50,g51,g52,g53,g54,g55,g56,g57,g58,g59,g60,g61,g62,g63,g64,g65,g66,g67,g68,g69,g70,g71,g72,g73,g74,g75,g76,g77,g78,g79,g80,g81,g82,g83,g84,g85,g86,g87,g88,g89,g90,g91,g92,g93,g94,g95,g96,g97,g98,g99] M_3 := by kernel_rfl
theorem k12_8 : P12 [1,0,1,0,1] = .ret := by kernel_rfl
theorem e12_0 {x4 : Option Addr} {x5 : Int} {M : Mem} {K : List Value → R} : resK Try.prog #[g0,g1,g2,g3,.pointer x4,.int .i64 x5,g6,g7,g8,g9,g10,g11,g12,g13,g14,g15,g16,g17,g18,g19,g20,g21,g22,g23,g24,g25,g26,g27,g28,g29,g30,g31,g32,g33,g34,g35,g36,g37,g38,g39,g40,g41,g42,g43,g44,g45,g46,g47,g48,g49,g50,g51,g52,g53,g54,g55,g56,g57,g58,g59,g60,g61,g62,g63,g64,g65,g66,g67,g68,g69,g70,g71,g72,g73,g74,g75,g76,g77,g78,g79,g80,g81,g82,g83,g84,g85,g86,g87,g88,g89,g90,g91,g92,g93,g94,g95,g96,g97,g98,g99] M (Try.f12).results.toList K = (x4).bind fun a_1 => (M.slAt a_1.block a_1.off).bind fun s_2 => (M.intAt .i64 a_1.block (a_1.off + 1)).bind fun x_3 => K [.agg #[.slice s_2.1 (s_2.2.1) (s_2.2.2), .int .i64 x_3], .int .i64 x5] := by kernel_rfl
theorem k12_10 : P12 [1,0,1,1] = .skip := by kernel_rfl
theorem k12_11 : P12 [1,1] = .seq (P12 [1,1,0]) (P12 [1,1,1]) := by kernel_rfl
theorem k12_12 : P12 [1,1,0] = .region 3 (O12 [1,1,0]) false := by kernel_rfl
theorem r12_3 {x2 : Option Addr} {M : Mem} {call : CallM} {K : Array Value → Mem → R} :
    opsK Try.prog (fun _ => call) (O12 [1,1,0]) (O12 [1,1,0]).toList 0 #[g0,g1,.pointer x2,g3,g4,g5,g6,g7,g8,g9,g10,g11,g12,g13,g14,g15,g16,g17,g18,g19,g20,g21,g22,g23,g24,g25,g26,g27,g28,g29,g30,g31,g32,g33,g34,g35,g36,g37,g38,g39,g40,g41,g42,g43,g44,g45,g46,g47,g48,g49,g50,g51,g52,g53,g54,g55,g56,g57,g58,g59,g60,g61,g62,g63,g64,g65,g66,g67,g68,g69,g70,g71,g72,g73,g74,g75,g76,g77,g78,g79,g80,g81,g82,g83,g84,g85,g86,g87,g88,g89,g90,g91,g92,g93,g94,g95,g96,g97,g98,g99] M K = (x2).bind fun a_1 => (M.slAt a_1.block a_1.off).bind fun s_2 => K #[g0,g1,.pointer x2,g3,g4,g5,.int .i64 ((s_2.2.1 : Int)),g7,g8,g9,g10,g11,g12,g13,g14,g15,g16,g17,g18,g19,g20,g21,g22,g23,g24,g25,g26,g27,.pointer (some ⟨a_1.block, a_1.off, none⟩),.slice s_2.1 (s_2.2.1) (s_2.2.2),.int .i64 ((s_2.2.1 : Int)),g31,g32,g33,g34,g35,g36,g37,g38,g39,g40,g41,g42,g43,g44,g45,g46,g47,g48,g49,g50,g51,g52,g53,g54,g55,g56,g57,g58,g59,g60,g61,g62,g63,g64,g65,g66,g67,g68,g69,g70,g71,g72,g73,g74,g75,g76,g77,g78,g79,g80,g81,g82,g83,g84,g85,g86,g87,g88,g89,g90,g91,g92,g93,g94,g95,g96,g97,g98,g99] M := by kernel_rfl
theorem k12_13 : P12 [1,1,1] = .seq (P12 [1,1,1,0]) (P12 [1,1,1,1]) := by kernel_rfl
theorem k12_14 : P12 [1,1,1,0] = .region 4 (O12 [1,1,1,0]) false := by kernel_rfl
theorem r12_4 {x6 : Int} {M : Mem} {call : CallM} {K : Array Value → Mem → R} :
    opsK Try.prog (fun _ => call) (O12 [1,1,1,0]) (O12 [1,1,1,0]).toList 0 #[g0,g1,g2,g3,g4,g5,.int .i64 x6,g7,g8,g9,g10,g11,g12,g13,g14,g15,g16,g17,g18,g19,g20,g21,g22,g23,g24,g25,g26,g27,g28,g29,g30,g31,g32,g33,g34,g35,g36,g37,g38,g39,g40,g41,g42,g43,g44,g45,g46,g47,g48,g49,g50,g51,g52,g53,g54,g55,g56,g57,g58,g59,g60,g61,g62,g63,g64,g65,g66,g67,g68,g69,g70,g71,g72,g73,g74,g75,g76,g77,g78,g79,g80,g81,g82,g83,g84,g85,g86,g87,g88,g89,g90,g91,g92,g93,g94,g95,g96,g97,g98,g99] M K = (call 35 #[.int .i64 x6] M).bind fun r_1 => (asI .i64 r_1.1).bind fun x_2 => K #[g0,g1,g2,g3,g4,g5,.int .i64 x6,.int .i64 (IntKind.i64.wrap (3 + (if 2 < x_2 then 2 else x_2))),g8,g9,g10,g11,g12,g13,g14,g15,g16,g17,g18,g19,g20,g21,g22,g23,g24,g25,g26,g27,g28,g29,g30,.int .i64 x6,.int .i64 x_2,.int .i64 (if 2 < x_2 then 2 else x_2),.int .i64 (IntKind.i64.wrap (3 + (if 2 < x_2 then 2 else x_2))),g35,g36,g37,g38,g39,g40,g41,g42,g43,g44,g45,g46,g47,g48,g49,g50,g51,g52,g53,g54,g55,g56,g57,g58,g59,g60,g61,g62,g63,g64,g65,g66,g67,g68,g69,g70,g71,g72,g73,g74,g75,g76,g77,g78,g79,g80,g81,g82,g83,g84,g85,g86,g87,g88,g89,g90,g91,g92,g93,g94,g95,g96,g97,g98,g99] r_1.2 := by kernel_rfl
theorem k12_15 : P12 [1,1,1,1] = .seq (P12 [1,1,1,1,0]) (P12 [1,1,1,1,1]) := by kernel_rfl
theorem k12_16 : P12 [1,1,1,1,0] = .seq (P12 [1,1,1,1,0,0]) (P12 [1,1,1,1,0,1]) := by kernel_rfl
theorem k12_17 : P12 [1,1,1,1,0,0] = .region 5 (O12 [1,1,1,1,0,0]) false := by kernel_rfl
theorem r12_5 {x2 : Option Addr} {M : Mem} {call : CallM} {K : Array Value → Mem → R} :
    opsK Try.prog (fun _ => call) (O12 [1,1,1,1,0,0]) (O12 [1,1,1,1,0,0]).toList 0 #[g0,g1,.pointer x2,g3,g4,g5,g6,g7,g8,g9,g10,g11,g12,g13,g14,g15,g16,g17,g18,g19,g20,g21,g22,g23,g24,g25,g26,g27,g28,g29,g30,g31,g32,g33,g34,g35,g36,g37,g38,g39,g40,g41,g42,g43,g44,g45,g46,g47,g48,g49,g50,g51,g52,g53,g54,g55,g56,g57,g58,g59,g60,g61,g62,g63,g64,g65,g66,g67,g68,g69,g70,g71,g72,g73,g74,g75,g76,g77,g78,g79,g80,g81,g82,g83,g84,g85,g86,g87,g88,g89,g90,g91,g92,g93,g94,g95,g96,g97,g98,g99] M K = (x2).bind fun a_1 => (M.intAt .i64 a_1.block (a_1.off + 1)).bind fun x_2 => K #[g0,g1,.pointer x2,g3,g4,g5,g6,g7,g8,g9,g10,g11,g12,g13,g14,g15,g16,g17,g18,g19,g20,g21,g22,g23,g24,g25,g26,g27,g28,g29,g30,g31,g32,g33,g34,.pointer (some ⟨a_1.block, a_1.off + 1, none⟩),.int .i64 x_2,.bool (decide (x_2 > 15)),g38,g39,g40,g41,g42,g43,g44,g45,g46,g47,g48,g49,g50,g51,g52,g53,g54,g55,g56,g57,g58,g59,g60,g61,g62,g63,g64,g65,g66,g67,g68,g69,g70,g71,g72,g73,g74,g75,g76,g77,g78,g79,g80,g81,g82,g83,g84,g85,g86,g87,g88,g89,g90,g91,g92,g93,g94,g95,g96,g97,g98,g99] M := by kernel_rfl
theorem c12_18 : P12 [1,1,1,1,0,1] = .cond (.tmp 37) (P12 [1,1,1,1,0,1,0]) (P12 [1,1,1,1,0,1,1]) := by kernel_rfl
theorem k12_19 : P12 [1,1,1,1,0,1,0] = .region 6 (O12 [1,1,1,1,0,1,0]) false := by kernel_rfl
theorem r12_6 {x7 : Int} {M : Mem} {call : CallM} {K : Array Value → Mem → R} :
    opsK Try.prog (fun _ => call) (O12 [1,1,1,1,0,1,0]) (O12 [1,1,1,1,0,1,0]).toList 0 #[g0,g1,g2,g3,g4,g5,g6,.int .i64 x7,g8,g9,g10,g11,g12,g13,g14,g15,g16,g17,g18,g19,g20,g21,g22,g23,g24,g25,g26,g27,g28,g29,g30,g31,g32,g33,g34,g35,g36,g37,g38,g39,g40,g41,g42,g43,g44,g45,g46,g47,g48,g49,g50,g51,g52,g53,g54,g55,g56,g57,g58,g59,g60,g61,g62,g63,g64,g65,g66,g67,g68,g69,g70,g71,g72,g73,g74,g75,g76,g77,g78,g79,g80,g81,g82,g83,g84,g85,g86,g87,g88,g89,g90,g91,g92,g93,g94,g95,g96,g97,g98,g99] M K = K #[g0,g1,g2,g3,g4,g5,g6,.int .i64 (IntKind.i64.wrap (x7 + 1)),g8,g9,g10,g11,g12,g13,g14,g15,g16,g17,g18,g19,g20,g21,g22,g23,g24,g25,g26,g27,g28,g29,g30,g31,g32,g33,g34,g35,g36,g37,.int .i64 x7,.int .i64 (IntKind.i64.wrap (x7 + 1)),g40,g41,g42,g43,g44,g45,g46,g47,g48,g49,g50,g51,g52,g53,g54,g55,g56,g57,g58,g59,g60,g61,g62,g63,g64,g65,g66,g67,g68,g69,g70,g71,g72,g73,g74,g75,g76,g77,g78,g79,g80,g81,g82,g83,g84,g85,g86,g87,g88,g89,g90,g91,g92,g93,g94,g95,g96,g97,g98,g99] M := by kernel_rfl
theorem k12_20 : P12 [1,1,1,1,1] = .seq (P12 [1,1,1,1,1,0]) (P12 [1,1,1,1,1,1]) := by kernel_rfl
theorem k12_21 : P12 [1,1,1,1,1,0] = .seq (P12 [1,1,1,1,1,0,0]) (P12 [1,1,1,1,1,0,1]) := by kernel_rfl
theorem k12_22 : P12 [1,1,1,1,1,0,0] = .region 7 (O12 [1,1,1,1,1,0,0]) false := by kernel_rfl
theorem r12_7 {x2 : Option Addr} {M : Mem} {call : CallM} {K : Array Value → Mem → R} :
    opsK Try.prog (fun _ => call) (O12 [1,1,1,1,1,0,0]) (O12 [1,1,1,1,1,0,0]).toList 0 #[g0,g1,.pointer x2,g3,g4,g5,g6,g7,g8,g9,g10,g11,g12,g13,g14,g15,g16,g17,g18,g19,g20,g21,g22,g23,g24,g25,g26,g27,g28,g29,g30,g31,g32,g33,g34,g35,g36,g37,g38,g39,g40,g41,g42,g43,g44,g45,g46,g47,g48,g49,g50,g51,g52,g53,g54,g55,g56,g57,g58,g59,g60,g61,g62,g63,g64,g65,g66,g67,g68,g69,g70,g71,g72,g73,g74,g75,g76,g77,g78,g79,g80,g81,g82,g83,g84,g85,g86,g87,g88,g89,g90,g91,g92,g93,g94,g95,g96,g97,g98,g99] M K = (x2).bind fun a_1 => (M.intAt .i64 a_1.block (a_1.off + 1)).bind fun x_2 => K #[g0,g1,.pointer x2,g3,g4,g5,g6,g7,g8,g9,g10,g11,g12,g13,g14,g15,g16,g17,g18,g19,g20,g21,g22,g23,g24,g25,g26,g27,g28,g29,g30,g31,g32,g33,g34,g35,g36,g37,g38,g39,.pointer (some ⟨a_1.block, a_1.off + 1, none⟩),.int .i64 x_2,.bool (decide (x_2 > 31)),g43,g44,g45,g46,g47,g48,g49,g50,g51,g52,g53,g54,g55,g56,g57,g58,g59,g60,g61,g62,g63,g64,g65,g66,g67,g68,g69,g70,g71,g72,g73,g74,g75,g76,g77,g78,g79,g80,g81,g82,g83,g84,g85,g86,g87,g88,g89,g90,g91,g92,g93,g94,g95,g96,g97,g98,g99] M := by kernel_rfl
theorem c12_23 : P12 [1,1,1,1,1,0,1] = .cond (.tmp 42) (P12 [1,1,1,1,1,0,1,0]) (P12 [1,1,1,1,1,0,1,1]) := by kernel_rfl
theorem k12_24 : P12 [1,1,1,1,1,0,1,0] = .region 8 (O12 [1,1,1,1,1,0,1,0]) false := by kernel_rfl
theorem r12_8 {x7 : Int} {M : Mem} {call : CallM} {K : Array Value → Mem → R} :
    opsK Try.prog (fun _ => call) (O12 [1,1,1,1,1,0,1,0]) (O12 [1,1,1,1,1,0,1,0]).toList 0 #[g0,g1,g2,g3,g4,g5,g6,.int .i64 x7,g8,g9,g10,g11,g12,g13,g14,g15,g16,g17,g18,g19,g20,g21,g22,g23,g24,g25,g26,g27,g28,g29,g30,g31,g32,g33,g34,g35,g36,g37,g38,g39,g40,g41,g42,g43,g44,g45,g46,g47,g48,g49,g50,g51,g52,g53,g54,g55,g56,g57,g58,g59,g60,g61,g62,g63,g64,g65,g66,g67,g68,g69,g70,g71,g72,g73,g74,g75,g76,g77,g78,g79,g80,g81,g82,g83,g84,g85,g86,g87,g88,g89,g90,g91,g92,g93,g94,g95,g96,g97,g98,g99] M K = K #[g0,g1,g2,g3,g4,g5,g6,.int .i64 (IntKind.i64.wrap (x7 + 1)),g8,g9,g10,g11,g12,g13,g14,g15,g16,g17,g18,g19,g20,g21,g22,g23,g24,g25,g26,g27,g28,g29,g30,g31,g32,g33,g34,g35,g36,g37,g38,g39,g40,g41,g42,.int .i64 x7,.int .i64 (IntKind.i64.wrap (x7 + 1)),g45,g46,g47,g48,g49,g50,g51,g52,g53,g54,g55,g56,g57,g58,g59,g60,g61,g62,g63,g64,g65,g66,g67,g68,g69,g70,g71,g72,g73,g74,g75,g76,g77,g78,g79,g80,g81,g82,g83,g84,g85,g86,g87,g88,g89,g90,g91,g92,g93,g94,g95,g96,g97,g98,g99] M := by kernel_rfl
theorem k12_25 : P12 [1,1,1,1,1,1] = .seq (P12 [1,1,1,1,1,1,0]) (P12 [1,1,1,1,1,1,1]) := by kernel_rfl
theorem k12_26 : P12 [1,1,1,1,1,1,0] = .region 9 (O12 [1,1,1,1,1,1,0]) false := by kernel_rfl
theorem r12_9 {M : Mem} {call : CallM} {K : Array Value → Mem → R} :
    opsK Try.prog (fun _ => call) (O12 [1,1,1,1,1,1,0]) (O12 [1,1,1,1,1,1,0]).toList 0 #[g0,g1,g2,g3,g4,g5,g6,g7,g8,g9,g10,g11,g12,g13,g14,g15,g16,g17,g18,g19,g20,g21,g22,g23,g24,g25,g26,g27,g28,g29,g30,g31,g32,g33,g34,g35,g36,g37,g38,g39,g40,g41,g42,g43,g44,g45,g46,g47,g48,g49,g50,g51,g52,g53,g54,g55,g56,g57,g58,g59,g60,g61,g62,g63,g64,g65,g66,g67,g68,g69,g70,g71,g72,g73,g74,g75,g76,g77,g78,g79,g80,g81,g82,g83,g84,g85,g86,g87,g88,g89,g90,g91,g92,g93,g94,g95,g96,g97,g98,g99] M K = K #[g0,g1,g2,g3,g4,g5,g6,g7,.int .i64 1,g9,g10,g11,g12,g13,g14,g15,g16,g17,g18,g19,g20,g21,g22,g23,g24,g25,g26,g27,g28,g29,g30,g31,g32,g33,g34,g35,g36,g37,g38,g39,g40,g41,g42,g43,g44,g45,g46,g47,g48,g49,g50,g51,g52,g53,g54,g55,g56,g57,g58,g59,g60,g61,g62,g63,g64,g65,g66,g67,g68,g69,g70,g71,g72,g73,g74,g75,g76,g77,g78,g79,g80,g81,g82,g83,g84,g85,g86,g87,g88,g89,g90,g91,g92,g93,g94,g95,g96,g97,g98,g99] M := by kernel_rfl
theorem k12_27 : P12 [1,1,1,1,1,1,1] = .seq (P12 [1,1,1,1,1,1,1,0]) (P12 [1,1,1,1,1,1,1,1]) := by kernel_rfl
theorem k12_28 : P12 [1,1,1,1,1,1,1,0] = .seq (P12 [1,1,1,1,1,1,1,0,0]) (P12 [1,1,1,1,1,1,1,0,1]) := by kernel_rfl
theorem k12_29 : P12 [1,1,1,1,1,1,1,0,0] = .region 10 (O12 [1,1,1,1,1,1,1,0,0]) false := by kernel_rfl
theorem r12_10 {M : Mem} {call : CallM} {K : Array Value → Mem → R} :
    opsK Try.prog (fun _ => call) (O12 [1,1,1,1,1,1,1,0,0]) (O12 [1,1,1,1,1,1,1,0,0]).toList 0 #[g0,g1,g2,g3,g4,g5,g6,g7,g8,g9,g10,g11,g12,g13,g14,g15,g16,g17,g18,g19,g20,g21,g22,g23,g24,g25,g26,g27,g28,g29,g30,g31,g32,g33,g34,g35,g36,g37,g38,g39,g40,g41,g42,g43,g44,g45,g46,g47,g48,g49,g50,g51,g52,g53,g54,g55,g56,g57,g58,g59,g60,g61,g62,g63,g64,g65,g66,g67,g68,g69,g70,g71,g72,g73,g74,g75,g76,g77,g78,g79,g80,g81,g82,g83,g84,g85,g86,g87,g88,g89,g90,g91,g92,g93,g94,g95,g96,g97,g98,g99] M K = K #[g0,g1,g2,g3,g4,g5,g6,g7,g8,.int .i64 0,g10,g11,g12,g13,g14,g15,g16,g17,g18,g19,g20,g21,g22,g23,g24,g25,g26,g27,g28,g29,g30,g31,g32,g33,g34,g35,g36,g37,g38,g39,g40,g41,g42,g43,g44,g45,g46,g47,g48,g49,g50,g51,g52,g53,g54,g55,g56,g57,g58,g59,g60,g61,g62,g63,g64,g65,g66,g67,g68,g69,g70,g71,g72,g73,g74,g75,g76,g77,g78,g79,g80,g81,g82,g83,g84,g85,g86,g87,g88,g89,g90,g91,g92,g93,g94,g95,g96,g97,g98,g99] M := by kernel_rfl
theorem k12_30 : P12 [1,1,1,1,1,1,1,0,1] = .block 0 (P12 [1,1,1,1,1,1,1,0,1,0]) := by kernel_rfl
theorem k12_31 : P12 [1,1,1,1,1,1,1,0,1,0] = .loop (P12 [1,1,1,1,1,1,1,0,1,0,0]) := by kernel_rfl
theorem k12_32 : P12 [1,1,1,1,1,0,1,1] = .skip := by kernel_rfl
theorem k12_33 : P12 [1,1,1,1,0,1,1] = .skip := by kernel_rfl
theorem k12_34 : P12 [1,1,1,1,1,1,1,0,1,0,0] = .seq (P12 [1,1,1,1,1,1,1,0,1,0,0,0]) (P12 [1,1,1,1,1,1,1,0,1,0,0,1]) := by kernel_rfl
theorem k12_35 : P12 [1,1,1,1,1,1,1,0,1,0,0,0] = .seq (P12 [1,1,1,1,1,1,1,0,1,0,0,0,0]) (P12 [1,1,1,1,1,1,1,0,1,0,0,0,1]) := by kernel_rfl
theorem k12_36 : P12 [1,1,1,1,1,1,1,0,1,0,0,0,0] = .region 11 (O12 [1,1,1,1,1,1,1,0,1,0,0,0,0]) false := by kernel_rfl
theorem r12_11 {x7 x9 : Int} {M : Mem} {call : CallM} {K : Array Value → Mem → R} :
    opsK Try.prog (fun _ => call) (O12 [1,1,1,1,1,1,1,0,1,0,0,0,0]) (O12 [1,1,1,1,1,1,1,0,1,0,0,0,0]).toList 0 #[g0,g1,g2,g3,g4,g5,g6,.int .i64 x7,g8,.int .i64 x9,g10,g11,g12,g13,g14,g15,g16,g17,g18,g19,g20,g21,g22,g23,g24,g25,g26,g27,g28,g29,g30,g31,g32,g33,g34,g35,g36,g37,g38,g39,g40,g41,g42,g43,g44,g45,g46,g47,g48,g49,g50,g51,g52,g53,g54,g55,g56,g57,g58,g59,g60,g61,g62,g63,g64,g65,g66,g67,g68,g69,g70,g71,g72,g73,g74,g75,g76,g77,g78,g79,g80,g81,g82,g83,g84,g85,g86,g87,g88,g89,g90,g91,g92,g93,g94,g95,g96,g97,g98,g99] M K = K #[g0,g1,g2,g3,g4,g5,g6,.int .i64 x7,g8,.int .i64 x9,g10,g11,g12,g13,g14,g15,g16,g17,g18,g19,g20,g21,g22,g23,g24,g25,g26,g27,g28,g29,g30,g31,g32,g33,g34,g35,g36,g37,g38,g39,g40,g41,g42,g43,g44,.int .i64 x9,.int .i64 x7,.bool (decide (x9 < x7)),g48,g49,g50,g51,g52,g53,g54,g55,g56,g57,g58,g59,g60,g61,g62,g63,g64,g65,g66,g67,g68,g69,g70,g71,g72,g73,g74,g75,g76,g77,g78,g79,g80,g81,g82,g83,g84,g85,g86,g87,g88,g89,g90,g91,g92,g93,g94,g95,g96,g97,g98,g99] M := by kernel_rfl
theorem c12_37 : P12 [1,1,1,1,1,1,1,0,1,0,0,0,1] = .cond (.tmp 47) (P12 [1,1,1,1,1,1,1,0,1,0,0,0,1,0]) (P12 [1,1,1,1,1,1,1,0,1,0,0,0,1,1]) := by kernel_rfl
theorem k12_38 : P12 [1,1,1,1,1,1,1,0,1,0,0,0,1,0] = .skip := by kernel_rfl
theorem k12_39 : P12 [1,1,1,1,1,1,1,0,1,0,0,1] = .seq (P12 [1,1,1,1,1,1,1,0,1,0,0,1,0]) (P12 [1,1,1,1,1,1,1,0,1,0,0,1,1]) := by kernel_rfl
theorem k12_40 : P12 [1,1,1,1,1,1,1,0,1,0,0,1,0] = .block 1 (P12 [1,1,1,1,1,1,1,0,1,0,0,1,0,0]) := by kernel_rfl
theorem k12_41 : P12 [1,1,1,1,1,1,1,0,1,0,0,1,0,0] = .region 13 (O12 [1,1,1,1,1,1,1,0,1,0,0,1,0,0]) false := by kernel_rfl
theorem r12_13 {x8 : Int} {M : Mem} {call : CallM} {K : Array Value → Mem → R} :
    opsK Try.prog (fun _ => call) (O12 [1,1,1,1,1,1,1,0,1,0,0,1,0,0]) (O12 [1,1,1,1,1,1,1,0,1,0,0,1,0,0]).toList 0 #[g0,g1,g2,g3,g4,g5,g6,g7,.int .i64 x8,g9,g10,g11,g12,g13,g14,g15,g16,g17,g18,g19,g20,g21,g22,g23,g24,g25,g26,g27,g28,g29,g30,g31,g32,g33,g34,g35,g36,g37,g38,g39,g40,g41,g42,g43,g44,g45,g46,g47,g48,g49,g50,g51,g52,g53,g54,g55,g56,g57,g58,g59,g60,g61,g62,g63,g64,g65,g66,g67,g68,g69,g70,g71,g72,g73,g74,g75,g76,g77,g78,g79,g80,g81,g82,g83,g84,g85,g86,g87,g88,g89,g90,g91,g92,g93,g94,g95,g96,g97,g98,g99] M K = K #[g0,g1,g2,g3,g4,g5,g6,g7,.int .i64 (IntKind.i64.wrap (x8 * 2)),g9,g10,g11,g12,g13,g14,g15,g16,g17,g18,g19,g20,g21,g22,g23,g24,g25,g26,g27,g28,g29,g30,g31,g32,g33,g34,g35,g36,g37,g38,g39,g40,g41,g42,g43,g44,g45,g46,g47,g48,g49,.int .i64 x8,.int .i64 (IntKind.i64.wrap (x8 * 2)),g52,g53,g54,g55,g56,g57,g58,g59,g60,g61,g62,g63,g64,g65,g66,g67,g68,g69,g70,g71,g72,g73,g74,g75,g76,g77,g78,g79,g80,g81,g82,g83,g84,g85,g86,g87,g88,g89,g90,g91,g92,g93,g94,g95,g96,g97,g98,g99] M := by kernel_rfl
theorem k12_42 : P12 [1,1,1,1,1,1,1,0,1,0,0,1,1] = .region 12 (O12 [1,1,1,1,1,1,1,0,1,0,0,1,1]) false := by kernel_rfl
theorem r12_12 {x9 : Int} {M : Mem} {call : CallM} {K : Array Value → Mem → R} :
    opsK Try.prog (fun _ => call) (O12 [1,1,1,1,1,1,1,0,1,0,0,1,1]) (O12 [1,1,1,1,1,1,1,0,1,0,0,1,1]).toList 0 #[g0,g1,g2,g3,g4,g5,g6,g7,g8,.int .i64 x9,g10,g11,g12,g13,g14,g15,g16,g17,g18,g19,g20,g21,g22,g23,g24,g25,g26,g27,g28,g29,g30,g31,g32,g33,g34,g35,g36,g37,g38,g39,g40,g41,g42,g43,g44,g45,g46,g47,g48,g49,g50,g51,g52,g53,g54,g55,g56,g57,g58,g59,g60,g61,g62,g63,g64,g65,g66,g67,g68,g69,g70,g71,g72,g73,g74,g75,g76,g77,g78,g79,g80,g81,g82,g83,g84,g85,g86,g87,g88,g89,g90,g91,g92,g93,g94,g95,g96,g97,g98,g99] M K = K #[g0,g1,g2,g3,g4,g5,g6,g7,g8,.int .i64 (IntKind.i64.wrap (x9 + 1)),g10,g11,g12,g13,g14,g15,g16,g17,g18,g19,g20,g21,g22,g23,g24,g25,g26,g27,g28,g29,g30,g31,g32,g33,g34,g35,g36,g37,g38,g39,g40,g41,g42,g43,g44,g45,g46,g47,.int .i64 x9,.int .i64 (IntKind.i64.wrap (x9 + 1)),g50,g51,g52,g53,g54,g55,g56,g57,g58,g59,g60,g61,g62,g63,g64,g65,g66,g67,g68,g69,g70,g71,g72,g73,g74,g75,g76,g77,g78,g79,g80,g81,g82,g83,g84,g85,g86,g87,g88,g89,g90,g91,g92,g93,g94,g95,g96,g97,g98,g99] M := by kernel_rfl
theorem k12_43 : P12 [1,1,1,1,1,1,1,0,1,0,0,0,1,1] = .exit 0 := by kernel_rfl
theorem k12_44 : P12 [1,1,1,1,1,1,1,1] = .seq (P12 [1,1,1,1,1,1,1,1,0]) (P12 [1,1,1,1,1,1,1,1,1]) := by kernel_rfl
theorem k12_45 : P12 [1,1,1,1,1,1,1,1,0] = .region 14 (O12 [1,1,1,1,1,1,1,1,0]) false := by kernel_rfl
theorem r12_14 {x2 : Option Addr} {M : Mem} {call : CallM} {K : Array Value → Mem → R} :
    opsK Try.prog (fun _ => call) (O12 [1,1,1,1,1,1,1,1,0]) (O12 [1,1,1,1,1,1,1,1,0]).toList 0 #[g0,g1,.pointer x2,g3,g4,g5,g6,g7,g8,g9,g10,g11,g12,g13,g14,g15,g16,g17,g18,g19,g20,g21,g22,g23,g24,g25,g26,g27,g28,g29,g30,g31,g32,g33,g34,g35,g36,g37,g38,g39,g40,g41,g42,g43,g44,g45,g46,g47,g48,g49,g50,g51,g52,g53,g54,g55,g56,g57,g58,g59,g60,g61,g62,g63,g64,g65,g66,g67,g68,g69,g70,g71,g72,g73,g74,g75,g76,g77,g78,g79,g80,g81,g82,g83,g84,g85,g86,g87,g88,g89,g90,g91,g92,g93,g94,g95,g96,g97,g98,g99] M K = (x2).bind fun a_1 => (M.intAt .i64 a_1.block (a_1.off + 1)).bind fun x_2 => ((M.new (.cells #[.slice none 0 0, .int .i64 0] 24)).put (2 * M.nb.size) 0 (.slice none 0 0)).bind fun M_3 => (M_3.put (2 * M.nb.size) 1 (.int .i64 (if 32 < IntKind.i64.wrap (x_2 + 1) then 32 else IntKind.i64.wrap (x_2 + 1)))).bind fun M_4 => K #[g0,g1,.pointer x2,g3,g4,g5,g6,g7,g8,g9,.pointer (some ⟨2 * M.nb.size, 0, none⟩),g11,g12,g13,g14,g15,g16,g17,g18,g19,g20,g21,g22,g23,g24,g25,g26,g27,g28,g29,g30,g31,g32,g33,g34,g35,g36,g37,g38,g39,g40,g41,g42,g43,g44,g45,g46,g47,g48,g49,g50,g51,.pointer (some ⟨a_1.block, a_1.off + 1, none⟩),.int .i64 x_2,.int .i64 (IntKind.i64.wrap (x_2 + 1)),.int .i64 (if 32 < IntKind.i64.wrap (x_2 + 1) then 32 else IntKind.i64.wrap (x_2 + 1)),.agg #[.slice none 0 0, .int .i64 (if 32 < IntKind.i64.wrap (x_2 + 1) then 32 else IntKind.i64.wrap (x_2 + 1))],g57,g58,g59,g60,g61,g62,g63,g64,g65,g66,g67,g68,g69,g70,g71,g72,g73,g74,g75,g76,g77,g78,g79,g80,g81,g82,g83,g84,g85,g86,g87,g88,g89,g90,g91,g92,g93,g94,g95,g96,g97,g98,g99] M_4 := by kernel_rfl
theorem k12_46 : P12 [1,1,1,1,1,1,1,1,1] = .seq (P12 [1,1,1,1,1,1,1,1,1,0]) (P12 [1,1,1,1,1,1,1,1,1,1]) := by kernel_rfl
theorem k12_47 : P12 [1,1,1,1,1,1,1,1,1,0] = .seq (P12 [1,1,1,1,1,1,1,1,1,0,0]) (P12 [1,1,1,1,1,1,1,1,1,0,1]) := by kernel_rfl
theorem k12_48 : P12 [1,1,1,1,1,1,1,1,1,0,0] = .region 15 (O12 [1,1,1,1,1,1,1,1,1,0,0]) false := by kernel_rfl
theorem r12_15 {M : Mem} {call : CallM} {K : Array Value → Mem → R} :
    opsK Try.prog (fun _ => call) (O12 [1,1,1,1,1,1,1,1,1,0,0]) (O12 [1,1,1,1,1,1,1,1,1,0,0]).toList 0 #[g0,g1,g2,g3,g4,g5,g6,g7,g8,g9,g10,g11,g12,g13,g14,g15,g16,g17,g18,g19,g20,g21,g22,g23,g24,g25,g26,g27,g28,g29,g30,g31,g32,g33,g34,g35,g36,g37,g38,g39,g40,g41,g42,g43,g44,g45,g46,g47,g48,g49,g50,g51,g52,g53,g54,g55,g56,g57,g58,g59,g60,g61,g62,g63,g64,g65,g66,g67,g68,g69,g70,g71,g72,g73,g74,g75,g76,g77,g78,g79,g80,g81,g82,g83,g84,g85,g86,g87,g88,g89,g90,g91,g92,g93,g94,g95,g96,g97,g98,g99] M K = K #[g0,g1,g2,g3,g4,g5,g6,g7,g8,g9,g10,.int .i64 0,g12,g13,g14,g15,g16,g17,g18,g19,g20,g21,g22,g23,g24,g25,g26,g27,g28,g29,g30,g31,g32,g33,g34,g35,g36,g37,g38,g39,g40,g41,g42,g43,g44,g45,g46,g47,g48,g49,g50,g51,g52,g53,g54,g55,g56,g57,g58,g59,g60,g61,g62,g63,g64,g65,g66,g67,g68,g69,g70,g71,g72,g73,g74,g75,g76,g77,g78,g79,g80,g81,g82,g83,g84,g85,g86,g87,g88,g89,g90,g91,g92,g93,g94,g95,g96,g97,g98,g99] M := by kernel_rfl
theorem k12_49 : P12 [1,1,1,1,1,1,1,1,1,0,1] = .block 2 (P12 [1,1,1,1,1,1,1,1,1,0,1,0]) := by kernel_rfl
theorem k12_50 : P12 [1,1,1,1,1,1,1,1,1,0,1,0] = .loop (P12 [1,1,1,1,1,1,1,1,1,0,1,0,0]) := by kernel_rfl
theorem k12_51 : P12 [1,1,1,1,1,1,1,1,1,0,1,0,0] = .seq (P12 [1,1,1,1,1,1,1,1,1,0,1,0,0,0]) (P12 [1,1,1,1,1,1,1,1,1,0,1,0,0,1]) := by kernel_rfl
theorem k12_52 : P12 [1,1,1,1,1,1,1,1,1,0,1,0,0,0] = .seq (P12 [1,1,1,1,1,1,1,1,1,0,1,0,0,0,0]) (P12 [1,1,1,1,1,1,1,1,1,0,1,0,0,0,1]) := by kernel_rfl
theorem k12_53 : P12 [1,1,1,1,1,1,1,1,1,0,1,0,0,0,0] = .region 16 (O12 [1,1,1,1,1,1,1,1,1,0,1,0,0,0,0]) false := by kernel_rfl
theorem r12_16 {x6 x11 : Int} {M : Mem} {call : CallM} {K : Array Value → Mem → R} :
    opsK Try.prog (fun _ => call) (O12 [1,1,1,1,1,1,1,1,1,0,1,0,0,0,0]) (O12 [1,1,1,1,1,1,1,1,1,0,1,0,0,0,0]).toList 0 #[g0,g1,g2,g3,g4,g5,.int .i64 x6,g7,g8,g9,g10,.int .i64 x11,g12,g13,g14,g15,g16,g17,g18,g19,g20,g21,g22,g23,g24,g25,g26,g27,g28,g29,g30,g31,g32,g33,g34,g35,g36,g37,g38,g39,g40,g41,g42,g43,g44,g45,g46,g47,g48,g49,g50,g51,g52,g53,g54,g55,g56,g57,g58,g59,g60,g61,g62,g63,g64,g65,g66,g67,g68,g69,g70,g71,g72,g73,g74,g75,g76,g77,g78,g79,g80,g81,g82,g83,g84,g85,g86,g87,g88,g89,g90,g91,g92,g93,g94,g95,g96,g97,g98,g99] M K = K #[g0,g1,g2,g3,g4,g5,.int .i64 x6,g7,g8,g9,g10,.int .i64 x11,g12,g13,g14,g15,g16,g17,g18,g19,g20,g21,g22,g23,g24,g25,g26,g27,g28,g29,g30,g31,g32,g33,g34,g35,g36,g37,g38,g39,g40,g41,g42,g43,g44,g45,g46,g47,g48,g49,g50,g51,g52,g53,g54,g55,g56,.int .i64 x11,.int .i64 x6,.bool (decide (x11 < x6)),g60,g61,g62,g63,g64,g65,g66,g67,g68,g69,g70,g71,g72,g73,g74,g75,g76,g77,g78,g79,g80,g81,g82,g83,g84,g85,g86,g87,g88,g89,g90,g91,g92,g93,g94,g95,g96,g97,g98,g99] M := by kernel_rfl
theorem c12_54 : P12 [1,1,1,1,1,1,1,1,1,0,1,0,0,0,1] = .cond (.tmp 59) (P12 [1,1,1,1,1,1,1,1,1,0,1,0,0,0,1,0]) (P12 [1,1,1,1,1,1,1,1,1,0,1,0,0,0,1,1]) := by kernel_rfl
theorem k12_55 : P12 [1,1,1,1,1,1,1,1,1,0,1,0,0,0,1,0] = .skip := by kernel_rfl
theorem k12_56 : P12 [1,1,1,1,1,1,1,1,1,0,1,0,0,1] = .seq (P12 [1,1,1,1,1,1,1,1,1,0,1,0,0,1,0]) (P12 [1,1,1,1,1,1,1,1,1,0,1,0,0,1,1]) := by kernel_rfl
theorem k12_57 : P12 [1,1,1,1,1,1,1,1,1,0,1,0,0,1,0] = .block 3 (P12 [1,1,1,1,1,1,1,1,1,0,1,0,0,1,0,0]) := by kernel_rfl
theorem k12_58 : P12 [1,1,1,1,1,1,1,1,1,0,1,0,0,1,0,0] = .seq (P12 [1,1,1,1,1,1,1,1,1,0,1,0,0,1,0,0,0]) (P12 [1,1,1,1,1,1,1,1,1,0,1,0,0,1,0,0,1]) := by kernel_rfl
theorem k12_59 : P12 [1,1,1,1,1,1,1,1,1,0,1,0,0,1,0,0,0] = .region 18 (O12 [1,1,1,1,1,1,1,1,1,0,1,0,0,1,0,0,0]) false := by kernel_rfl
theorem r12_18 {x2 : Option Addr} {x11 : Int} {M : Mem} {call : CallM} {K : Array Value → Mem → R} :
    opsK Try.prog (fun _ => call) (O12 [1,1,1,1,1,1,1,1,1,0,1,0,0,1,0,0,0]) (O12 [1,1,1,1,1,1,1,1,1,0,1,0,0,1,0,0,0]).toList 0 #[g0,g1,.pointer x2,g3,g4,g5,g6,g7,g8,g9,g10,.int .i64 x11,g12,g13,g14,g15,g16,g17,g18,g19,g20,g21,g22,g23,g24,g25,g26,g27,g28,g29,g30,g31,g32,g33,g34,g35,g36,g37,g38,g39,g40,g41,g42,g43,g44,g45,g46,g47,g48,g49,g50,g51,g52,g53,g54,g55,g56,g57,g58,g59,g60,g61,g62,g63,g64,g65,g66,g67,g68,g69,g70,g71,g72,g73,g74,g75,g76,g77,g78,g79,g80,g81,g82,g83,g84,g85,g86,g87,g88,g89,g90,g91,g92,g93,g94,g95,g96,g97,g98,g99] M K = (x2).bind fun a_1 => (M.slAt a_1.block a_1.off).bind fun s_2 => (idxA s_2.1 (s_2.2.1) 1 x11).bind fun a_3 => (M.intAt .u16 a_3.block a_3.off).bind fun x_4 => K #[g0,g1,.pointer x2,g3,g4,g5,g6,g7,g8,g9,g10,.int .i64 x11,.int .i64 (IntKind.i64.wrap (x_4)),g13,g14,g15,g16,g17,g18,g19,g20,g21,g22,g23,g24,g25,g26,g27,g28,g29,g30,g31,g32,g33,g34,g35,g36,g37,g38,g39,g40,g41,g42,g43,g44,g45,g46,g47,g48,g49,g50,g51,g52,g53,g54,g55,g56,g57,g58,g59,g60,g61,.pointer (some ⟨a_1.block, a_1.off, none⟩),.slice s_2.1 (s_2.2.1) (s_2.2.2),.int .i64 x11,.pointer (some a_3),.int .u16 x_4,.int .i64 (IntKind.i64.wrap (x_4)),g68,g69,g70,g71,g72,g73,g74,g75,g76,g77,g78,g79,g80,g81,g82,g83,g84,g85,g86,g87,g88,g89,g90,g91,g92,g93,g94,g95,g96,g97,g98,g99] M := by kernel_rfl
theorem k12_60 : P12 [1,1,1,1,1,1,1,1,1,0,1,0,0,1,0,0,1] = .seq (P12 [1,1,1,1,1,1,1,1,1,0,1,0,0,1,0,0,1,0]) (P12 [1,1,1,1,1,1,1,1,1,0,1,0,0,1,0,0,1,1]) := by kernel_rfl
theorem k12_61 : P12 [1,1,1,1,1,1,1,1,1,0,1,0,0,1,0,0,1,0] = .seq (P12 [1,1,1,1,1,1,1,1,1,0,1,0,0,1,0,0,1,0,0]) (P12 [1,1,1,1,1,1,1,1,1,0,1,0,0,1,0,0,1,0,1]) := by kernel_rfl
theorem k12_62 : P12 [1,1,1,1,1,1,1,1,1,0,1,0,0,1,0,0,1,0,0] = .region 19 (O12 [1,1,1,1,1,1,1,1,1,0,1,0,0,1,0,0,1,0,0]) false := by kernel_rfl
theorem r12_19 {x1 x6 x11 : Int} {M : Mem} {call : CallM} {K : Array Value → Mem → R} :
    opsK Try.prog (fun _ => call) (O12 [1,1,1,1,1,1,1,1,1,0,1,0,0,1,0,0,1,0,0]) (O12 [1,1,1,1,1,1,1,1,1,0,1,0,0,1,0,0,1,0,0]).toList 0 #[g0,.int .i64 x1,g2,g3,g4,g5,.int .i64 x6,g7,g8,g9,g10,.int .i64 x11,g12,g13,g14,g15,g16,g17,g18,g19,g20,g21,g22,g23,g24,g25,g26,g27,g28,g29,g30,g31,g32,g33,g34,g35,g36,g37,g38,g39,g40,g41,g42,g43,g44,g45,g46,g47,g48,g49,g50,g51,g52,g53,g54,g55,g56,g57,g58,g59,g60,g61,g62,g63,g64,g65,g66,g67,g68,g69,g70,g71,g72,g73,g74,g75,g76,g77,g78,g79,g80,g81,g82,g83,g84,g85,g86,g87,g88,g89,g90,g91,g92,g93,g94,g95,g96,g97,g98,g99] M K = withK (fun w72 w73 w74 w75 w76 M => K #[g0,.int .i64 x1,g2,g3,g4,g5,.int .i64 x6,g7,g8,g9,g10,.int .i64 x11,g12,g13,g14,g15,g16,g17,g18,g19,g20,g21,g22,g23,g24,g25,g26,g27,g28,g29,g30,g31,g32,g33,g34,g35,g36,g37,g38,g39,g40,g41,g42,g43,g44,g45,g46,g47,g48,g49,g50,g51,g52,g53,g54,g55,g56,g57,g58,g59,g60,g61,g62,g63,g64,g65,g66,g67,.int .i64 x11,.int .i64 x6,.int .i64 (IntKind.i64.wrap (x6 - 1)),.bool (decide (x11 < (IntKind.i64.wrap (x6 - 1)))),w72,w73,w74,w75,w76,g77,g78,g79,g80,g81,g82,g83,g84,g85,g86,g87,g88,g89,g90,g91,g92,g93,g94,g95,g96,g97,g98,g99] M) fun k => cond (decide (x11 < (IntKind.i64.wrap (x6 - 1)))) (k (.bool true) (.int .i64 x11) (.int .i64 x1) (.bool (decide (x11 ≥ x1))) (.bool (decide (x11 ≥ x1))) M) (k (.bool false) undef undef undef (.bool false) M) := by kernel_rfl
theorem k12_63 : P12 [1,1,1,1,1,1,1,1,1,0,1,0,0,0,1,1] = .exit 2 := by kernel_rfl
theorem k12_64 : P12 [1,1,1,1,1,1,1,1,1,1] = .seq (P12 [1,1,1,1,1,1,1,1,1,1,0]) (P12 [1,1,1,1,1,1,1,1,1,1,1]) := by kernel_rfl
theorem k12_65 : P12 [1,1,1,1,1,1,1,1,1,1,0] = .region 24 (O12 [1,1,1,1,1,1,1,1,1,1,0]) false := by kernel_rfl
theorem r12_24 {x4 x10 : Option Addr} {M : Mem} {call : CallM} {K : Array Value → Mem → R} :
    opsK Try.prog (fun _ => call) (O12 [1,1,1,1,1,1,1,1,1,1,0]) (O12 [1,1,1,1,1,1,1,1,1,1,0]).toList 0 #[g0,g1,g2,g3,.pointer x4,g5,g6,g7,g8,g9,.pointer x10,g11,g12,g13,g14,g15,g16,g17,g18,g19,g20,g21,g22,g23,g24,g25,g26,g27,g28,g29,g30,g31,g32,g33,g34,g35,g36,g37,g38,g39,g40,g41,g42,g43,g44,g45,g46,g47,g48,g49,g50,g51,g52,g53,g54,g55,g56,g57,g58,g59,g60,g61,g62,g63,g64,g65,g66,g67,g68,g69,g70,g71,g72,g73,g74,g75,g76,g77,g78,g79,g80,g81,g82,g83,g84,g85,g86,g87,g88,g89,g90,g91,g92,g93,g94,g95,g96,g97,g98,g99] M K = (x10).bind fun a_1 => (M.slAt a_1.block a_1.off).bind fun s_2 => (M.intAt .i64 a_1.block (a_1.off + 1)).bind fun x_3 => (x4).bind fun a_4 => (M.put a_4.block a_4.off (.slice s_2.1 (s_2.2.1) (s_2.2.2))).bind fun M_5 => (M_5.put a_4.block (a_4.off + 1) (.int .i64 x_3)).bind fun M_6 => K #[g0,g1,g2,g3,.pointer x4,.int .i64 0,g6,g7,g8,g9,.pointer x10,g11,g12,g13,g14,g15,g16,g17,g18,g19,g20,g21,g22,g23,g24,g25,g26,g27,g28,g29,g30,g31,g32,g33,g34,g35,g36,g37,g38,g39,g40,g41,g42,g43,g44,g45,g46,g47,g48,g49,g50,g51,g52,g53,g54,g55,g56,g57,g58,g59,g60,g61,g62,g63,g64,g65,g66,g67,g68,g69,g70,g71,g72,g73,g74,g75,g76,g77,g78,g79,g80,g81,g82,g83,g84,g85,g86,g87,g88,g89,g90,g91,g92,g93,g94,g95,g96,g97,g98,.agg #[.slice s_2.1 (s_2.2.1) (s_2.2.2), .int .i64 x_3]] M_6 := by kernel_rfl
theorem k12_66 : P12 [1,1,1,1,1,1,1,1,1,1,1] = .ret := by kernel_rfl
theorem c12_67 : P12 [1,1,1,1,1,1,1,1,1,0,1,0,0,1,0,0,1,0,1] = .cond (.tmp 76) (P12 [1,1,1,1,1,1,1,1,1,0,1,0,0,1,0,0,1,0,1,0]) (P12 [1,1,1,1,1,1,1,1,1,0,1,0,0,1,0,0,1,0,1,1]) := by kernel_rfl
theorem k12_68 : P12 [1,1,1,1,1,1,1,1,1,0,1,0,0,1,0,0,1,0,1,0] = .region 20 (O12 [1,1,1,1,1,1,1,1,1,0,1,0,0,1,0,0,1,0,1,0]) false := by kernel_rfl
theorem r12_20 {x8 x12 : Int} {M : Mem} {call : CallM} {K : Array Value → Mem → R} :
    opsK Try.prog (fun _ => call) (O12 [1,1,1,1,1,1,1,1,1,0,1,0,0,1,0,0,1,0,1,0]) (O12 [1,1,1,1,1,1,1,1,1,0,1,0,0,1,0,0,1,0,1,0]).toList 0 #[g0,g1,g2,g3,g4,g5,g6,g7,.int .i64 x8,g9,g10,g11,.int .i64 x12,g13,g14,g15,g16,g17,g18,g19,g20,g21,g22,g23,g24,g25,g26,g27,g28,g29,g30,g31,g32,g33,g34,g35,g36,g37,g38,g39,g40,g41,g42,g43,g44,g45,g46,g47,g48,g49,g50,g51,g52,g53,g54,g55,g56,g57,g58,g59,g60,g61,g62,g63,g64,g65,g66,g67,g68,g69,g70,g71,g72,g73,g74,g75,g76,g77,g78,g79,g80,g81,g82,g83,g84,g85,g86,g87,g88,g89,g90,g91,g92,g93,g94,g95,g96,g97,g98,g99] M K = (binV Try.prog .quo 3 3 (.int .i64 (IntKind.i64.wrap (32768 - x12))) (.int .i64 x8)).bind fun v_1 => (asI .i64 v_1).bind fun x_2 => K #[g0,g1,g2,g3,g4,g5,g6,g7,.int .i64 x8,g9,g10,g11,.int .i64 (IntKind.i64.wrap (x12 + x_2)),g13,g14,g15,g16,g17,g18,g19,g20,g21,g22,g23,g24,g25,g26,g27,g28,g29,g30,g31,g32,g33,g34,g35,g36,g37,g38,g39,g40,g41,g42,g43,g44,g45,g46,g47,g48,g49,g50,g51,g52,g53,g54,g55,g56,g57,g58,g59,g60,g61,g62,g63,g64,g65,g66,g67,g68,g69,g70,g71,g72,g73,g74,g75,g76,.int .i64 x12,.int .i64 x12,.int .i64 (IntKind.i64.wrap (32768 - x12)),.int .i64 x8,.int .i64 x_2,.int .i64 (IntKind.i64.wrap (x12 + x_2)),g83,g84,g85,g86,g87,g88,g89,g90,g91,g92,g93,g94,g95,g96,g97,g98,g99] M := by kernel_rfl
theorem k12_69 : P12 [1,1,1,1,1,1,1,1,1,0,1,0,0,1,0,0,1,1] = .region 23 (O12 [1,1,1,1,1,1,1,1,1,0,1,0,0,1,0,0,1,1]) false := by kernel_rfl
theorem r12_23 {x10 : Option Addr} {x12 : Int} {M : Mem} {call : CallM} {K : Array Value → Mem → R} :
    opsK Try.prog (fun _ => call) (O12 [1,1,1,1,1,1,1,1,1,0,1,0,0,1,0,0,1,1]) (O12 [1,1,1,1,1,1,1,1,1,0,1,0,0,1,0,0,1,1]).toList 0 #[g0,g1,g2,g3,g4,g5,g6,g7,g8,g9,.pointer x10,g11,.int .i64 x12,g13,g14,g15,g16,g17,g18,g19,g20,g21,g22,g23,g24,g25,g26,g27,g28,g29,g30,g31,g32,g33,g34,g35,g36,g37,g38,g39,g40,g41,g42,g43,g44,g45,g46,g47,g48,g49,g50,g51,g52,g53,g54,g55,g56,g57,g58,g59,g60,g61,g62,g63,g64,g65,g66,g67,g68,g69,g70,g71,g72,g73,g74,g75,g76,g77,g78,g79,g80,g81,g82,g83,g84,g85,g86,g87,g88,g89,g90,g91,g92,g93,g94,g95,g96,g97,g98,g99] M K = (x10).bind fun a_1 => (M.slAt a_1.block a_1.off).bind fun s_2 => (appendP Try.prog #[22, 22] (.slice s_2.1 (s_2.2.1) (s_2.2.2)) (.slice (some ⟨2 * M.nb.size, 0, none⟩) 1 1) (M.new (.cells #[.int .u16 (IntKind.u16.wrap (x12))] 47))).bind fun r_3 => (asS r_3.1).bind fun s_4 => (x10).bind fun a_5 => (r_3.2.put a_5.block a_5.off (.slice s_4.1 (s_4.2.1) (s_4.2.2))).bind fun M_6 => K #[g0,g1,g2,g3,g4,g5,g6,g7,g8,g9,.pointer x10,g11,.int .i64 x12,g13,g14,g15,g16,g17,g18,g19,g20,g21,g22,g23,g24,g25,g26,g27,g28,g29,g30,g31,g32,g33,g34,g35,g36,g37,g38,g39,g40,g41,g42,g43,g44,g45,g46,g47,g48,g49,g50,g51,g52,g53,g54,g55,g56,g57,g58,g59,g60,g61,g62,g63,g64,g65,g66,g67,g68,g69,g70,g71,g72,g73,g74,g75,g76,g77,g78,g79,g80,g81,g82,g83,g84,g85,g86,g87,g88,g89,g90,g91,.pointer (some ⟨a_1.block, a_1.off, none⟩),.slice s_2.1 (s_2.2.1) (s_2.2.2),.int .i64 x12,.int .u16 (IntKind.u16.wrap (x12)),.slice (some ⟨2 * M.nb.size, 0, none⟩) 1 1,.slice s_4.1 (s_4.2.1) (s_4.2.2),.pointer (some ⟨a_5.block, a_5.off, none⟩),g99] M_6 := by kernel_rfl
theorem k12_70 : P12 [1,1,1,1,1,1,1,1,1,0,1,0,0,1,1] = .region 17 (O12 [1,1,1,1,1,1,1,1,1,0,1,0,0,1,1]) false := by kernel_rfl
theorem r12_17 {x11 : Int} {M : Mem} {call : CallM} {K : Array Value → Mem → R} :
    opsK Try.prog (fun _ => call) (O12 [1,1,1,1,1,1,1,1,1,0,1,0,0,1,1]) (O12 [1,1,1,1,1,1,1,1,1,0,1,0,0,1,1]).toList 0 #[g0,g1,g2,g3,g4,g5,g6,g7,g8,g9,g10,.int .i64 x11,g12,g13,g14,g15,g16,g17,g18,g19,g20,g21,g22,g23,g24,g25,g26,g27,g28,g29,g30,g31,g32,g33,g34,g35,g36,g37,g38,g39,g40,g41,g42,g43,g44,g45,g46,g47,g48,g49,g50,g51,g52,g53,g54,g55,g56,g57,g58,g59,g60,g61,g62,g63,g64,g65,g66,g67,g68,g69,g70,g71,g72,g73,g74,g75,g76,g77,g78,g79,g80,g81,g82,g83,g84,g85,g86,g87,g88,g89,g90,g91,g92,g93,g94,g95,g96,g97,g98,g99] M K = K #[g0,g1,g2,g3,g4,g5,g6,g7,g8,g9,g10,.int .i64 (IntKind.i64.wrap (x11 + 1)),g12,g13,g14,g15,g16,g17,g18,g19,g20,g21,g22,g23,g24,g25,g26,g27,g28,g29,g30,g31,g32,g33,g34,g35,g36,g37,g38,g39,g40,g41,g42,g43,g44,g45,g46,g47,g48,g49,g50,g51,g52,g53,g54,g55,g56,g57,g58,g59,.int .i64 x11,.int .i64 (IntKind.i64.wrap (x11 + 1)),g62,g63,g64,g65,g66,g67,g68,g69,g70,g71,g72,g73,g74,g75,g76,g77,g78,g79,g80,g81,g82,g83,g84,g85,g86,g87,g88,g89,g90,g91,g92,g93,g94,g95,g96,g97,g98,g99] M := by kernel_rfl
theorem k12_71 : P12 [1,1,1,1,1,1,1,1,1,0,1,0,0,1,0,0,1,0,1,1] = .seq (P12 [1,1,1,1,1,1,1,1,1,0,1,0,0,1,0,0,1,0,1,1,0]) (P12 [1,1,1,1,1,1,1,1,1,0,1,0,0,1,0,0,1,0,1,1,1]) := by kernel_rfl
theorem k12_72 : P12 [1,1,1,1,1,1,1,1,1,0,1,0,0,1,0,0,1,0,1,1,0] = .region 21 (O12 [1,1,1,1,1,1,1,1,1,0,1,0,0,1,0,0,1,0,1,1,0]) false := by kernel_rfl
theorem r12_21 {x6 x11 : Int} {M : Mem} {call : CallM} {K : Array Value → Mem → R} :
    opsK Try.prog (fun _ => call) (O12 [1,1,1,1,1,1,1,1,1,0,1,0,0,1,0,0,1,0,1,1,0]) (O12 [1,1,1,1,1,1,1,1,1,0,1,0,0,1,0,0,1,0,1,1,0]).toList 0 #[g0,g1,g2,g3,g4,g5,.int .i64 x6,g7,g8,g9,g10,.int .i64 x11,g12,g13,g14,g15,g16,g17,g18,g19,g20,g21,g22,g23,g24,g25,g26,g27,g28,g29,g30,g31,g32,g33,g34,g35,g36,g37,g38,g39,g40,g41,g42,g43,g44,g45,g46,g47,g48,g49,g50,g51,g52,g53,g54,g55,g56,g57,g58,g59,g60,g61,g62,g63,g64,g65,g66,g67,g68,g69,g70,g71,g72,g73,g74,g75,g76,g77,g78,g79,g80,g81,g82,g83,g84,g85,g86,g87,g88,g89,g90,g91,g92,g93,g94,g95,g96,g97,g98,g99] M K = K #[g0,g1,g2,g3,g4,g5,.int .i64 x6,g7,g8,g9,g10,.int .i64 x11,g12,g13,g14,g15,g16,g17,g18,g19,g20,g21,g22,g23,g24,g25,g26,g27,g28,g29,g30,g31,g32,g33,g34,g35,g36,g37,g38,g39,g40,g41,g42,g43,g44,g45,g46,g47,g48,g49,g50,g51,g52,g53,g54,g55,g56,g57,g58,g59,g60,g61,g62,g63,g64,g65,g66,g67,g68,g69,g70,g71,g72,g73,g74,g75,g76,g77,g78,g79,g80,g81,g82,.int .i64 x11,.int .i64 x6,.int .i64 (IntKind.i64.wrap (x6 - 1)),.bool (decide (x11 < (IntKind.i64.wrap (x6 - 1)))),g87,g88,g89,g90,g91,g92,g93,g94,g95,g96,g97,g98,g99] M := by kernel_rfl
theorem c12_73 : P12 [1,1,1,1,1,1,1,1,1,0,1,0,0,1,0,0,1,0,1,1,1] = .cond (.tmp 86) (P12 [1,1,1,1,1,1,1,1,1,0,1,0,0,1,0,0,1,0,1,1,1,0]) (P12 [1,1,1,1,1,1,1,1,1,0,1,0,0,1,0,0,1,0,1,1,1,1]) := by kernel_rfl
theorem k12_74 : P12 [1,1,1,1,1,1,1,1,1,0,1,0,0,1,0,0,1,0,1,1,1,0] = .region 22 (O12 [1,1,1,1,1,1,1,1,1,0,1,0,0,1,0,0,1,0,1,1,1,0]) false := by kernel_rfl
theorem r12_22 {x8 x12 : Int} {M : Mem} {call : CallM} {K : Array Value → Mem → R} :
    opsK Try.prog (fun _ => call) (O12 [1,1,1,1,1,1,1,1,1,0,1,0,0,1,0,0,1,0,1,1,1,0]) (O12 [1,1,1,1,1,1,1,1,1,0,1,0,0,1,0,0,1,0,1,1,1,0]).toList 0 #[g0,g1,g2,g3,g4,g5,g6,g7,.int .i64 x8,g9,g10,g11,.int .i64 x12,g13,g14,g15,g16,g17,g18,g19,g20,g21,g22,g23,g24,g25,g26,g27,g28,g29,g30,g31,g32,g33,g34,g35,g36,g37,g38,g39,g40,g41,g42,g43,g44,g45,g46,g47,g48,g49,g50,g51,g52,g53,g54,g55,g56,g57,g58,g59,g60,g61,g62,g63,g64,g65,g66,g67,g68,g69,g70,g71,g72,g73,g74,g75,g76,g77,g78,g79,g80,g81,g82,g83,g84,g85,g86,g87,g88,g89,g90,g91,g92,g93,g94,g95,g96,g97,g98,g99] M K = (binV Try.prog .quo 3 3 (.int .i64 x12) (.int .i64 x8)).bind fun v_1 => (asI .i64 v_1).bind fun x_2 => K #[g0,g1,g2,g3,g4,g5,g6,g7,.int .i64 x8,g9,g10,g11,.int .i64 (IntKind.i64.wrap (x12 - x_2)),g13,g14,g15,g16,g17,g18,g19,g20,g21,g22,g23,g24,g25,g26,g27,g28,g29,g30,g31,g32,g33,g34,g35,g36,g37,g38,g39,g40,g41,g42,g43,g44,g45,g46,g47,g48,g49,g50,g51,g52,g53,g54,g55,g56,g57,g58,g59,g60,g61,g62,g63,g64,g65,g66,g67,g68,g69,g70,g71,g72,g73,g74,g75,g76,g77,g78,g79,g80,g81,g82,g83,g84,g85,g86,.int .i64 x12,.int .i64 x12,.int .i64 x8,.int .i64 x_2,.int .i64 (IntKind.i64.wrap (x12 - x_2)),g92,g93,g94,g95,g96,g97,g98,g99] M := by kernel_rfl
theorem k12_75 : P12 [1,1,1,1,1,1,1,1,1,0,1,0,0,1,0,0,1,0,1,1,1,1] = .skip := by kernel_rfl
noncomputable def S12_1 : List Item := [.code (P12 [1,0,1]), .code (P12 [1,1])]
def A12_1 (x1 : Int) (x2 x4 : Option Addr) (x26 : Bool) (M : Mem) (Q : Value → Mem → Prop) : Prop := ∀ (g0 g3 g5 g6 g7 g8 g9 g10 g11 g12 g13 g14 g15 g16 g17 g18 g19 g20 g21 g22 g23 g24 g25 g27 g28 g29 g30 g31 g32 g33 g34 g35 g36 g37 g38 g39 g40 g41 g42 g43 g44 g45 g46 g47 g48 g49 g50 g51 g52 g53 g54 g55 g56 g57 g58 g59 g60 g61 g62 g63 g64 g65 g66 g67 g68 g69 g70 g71 g72 g73 g74 g75 g76 g77 g78 g79 g80 g81 g82 g83 g84 g85 g86 g87 g88 g89 g90 g91 g92 g93 g94 g95 g96 g97 g98 g99 : Value), Rn Try.prog Try.f12 S12_1 #[g0, .int .i64 x1, .pointer x2, g3, .pointer x4, g5, g6, g7, g8, g9, g10, g11, g12, g13, g14, g15, g16, g17, g18, g19, g20, g21, g22, g23, g24, g25, .bool x26, g27, g28, g29, g30, g31, g32, g33, g34, g35, g36, g37, g38, g39, g40, g41, g42, g43, g44, g45, g46, g47, g48, g49, g50, g51, g52, g53, g54, g55, g56, g57, g58, g59, g60, g61, g62, g63, g64, g65, g66, g67, g68, g69, g70, g71, g72, g73, g74, g75, g76, g77, g78, g79, g80, g81, g82, g83, g84, g85, g86, g87, g88, g89, g90, g91, g92, g93, g94, g95, g96, g97, g98, g99] M Q
noncomputable def S12_2 : List Item := [.code (P12 [1,1,1,1,1,1,1,0,1,0,0]), .inLoop (P12 [1,1,1,1,1,1,1,0,1,0,0]), .inBlock 0, .code (P12 [1,1,1,1,1,1,1,1])]
def A12_2 (x1 : Int) (x2 x4 : Option Addr) (x6 x7 x8 x9 : Int) (M : Mem) (Q : Value → Mem → Prop) : Prop := ∀ (g0 g3 g5 g10 g11 g12 g13 g14 g15 g16 g17 g18 g19 g20 g21 g22 g23 g24 g25 g26 g27 g28 g29 g30 g31 g32 g33 g34 g35 g36 g37 g38 g39 g40 g41 g42 g43 g44 g45 g46 g47 g48 g49 g50 g51 g52 g53 g54 g55 g56 g57 g58 g59 g60 g61 g62 g63 g64 g65 g66 g67 g68 g69 g70 g71 g72 g73 g74 g75 g76 g77 g78 g79 g80 g81 g82 g83 g84 g85 g86 g87 g88 g89 g90 g91 g92 g93 g94 g95 g96 g97 g98 g99 : Value), Rn Try.prog Try.f12 S12_2 #[g0, .int .i64 x1, .pointer x2, g3, .pointer x4, g5, .int .i64 x6, .int .i64 x7, .int .i64 x8, .int .i64 x9, g10, g11, g12, g13, g14, g15, g16, g17, g18, g19, g20, g21, g22, g23, g24, g25, g26, g27, g28, g29, g30, g31, g32, g33, g34, g35, g36, g37, g38, g39, g40, g41, g42, g43, g44, g45, g46, g47, g48, g49, g50, g51, g52, g53, g54, g55, g56, g57, g58, g59, g60, g61, g62, g63, g64, g65, g66, g67, g68, g69, g70, g71, g72, g73, g74, g75, g76, g77, g78, g79, g80, g81, g82, g83, g84, g85, g86, g87, g88, g89, g90, g91, g92, g93, g94, g95, g96, g97, g98, g99] M Q
noncomputable def S12_3 : List Item := [.code (P12 [1,1,1,1,1,1,1,1,1,0,1,0,0]), .inLoop (P12 [1,1,1,1,1,1,1,1,1,0,1,0,0]), .inBlock 2, .code (P12 [1,1,1,1,1,1,1,1,1,1])]
def A12_3 (x1 : Int) (x2 x4 : Option Addr) (x6 x8 : Int) (x10 : Option Addr) (x11 : Int) (M : Mem) (Q : Value → Mem → Prop) : Prop := ∀ (g0 g3 g5 g7 g9 g12 g13 g14 g15 g16 g17 g18 g19 g20 g21 g22 g23 g24 g25 g26 g27 g28 g29 g30 g31 g32 g33 g34 g35 g36 g37 g38 g39 g40 g41 g42 g43 g44 g45 g46 g47 g48 g49 g50 g51 g52 g53 g54 g55 g56 g57 g58 g59 g60 g61 g62 g63 g64 g65 g66 g67 g68 g69 g70 g71 g72 g73 g74 g75 g76 g77 g78 g79 g80 g81 g82 g83 g84 g85 g86 g87 g88 g89 g90 g91 g92 g93 g94 g95 g96 g97 g98 g99 : Value), Rn Try.prog Try.f12 S12_3 #[g0, .int .i64 x1, .pointer x2, g3, .pointer x4, g5, .int .i64 x6, g7, .int .i64 x8, g9, .pointer x10, .int .i64 x11, g12, g13, g14, g15, g16, g17, g18, g19, g20, g21, g22, g23, g24, g25, g26, g27, g28, g29, g30, g31, g32, g33, g34, g35, g36, g37, g38, g39, g40, g41, g42, g43, g44, g45, g46, g47, g48, g49, g50, g51, g52, g53, g54, g55, g56, g57, g58, g59, g60, g61, g62, g63, g64, g65, g66, g67, g68, g69, g70, g71, g72, g73, g74, g75, g76, g77, g78, g79, g80, g81, g82, g83, g84, g85, g86, g87, g88, g89, g90, g91, g92, g93, g94, g95, g96, g97, g98, g99] M Q
noncomputable def S12_4 : List Item := [.code (P12 [1,1,1,1,1,1,1,1,1,0,1,0,0,1,0,0,1,0,1]), .code (P12 [1,1,1,1,1,1,1,1,1,0,1,0,0,1,0,0,1,1]), .inBlock 3, .code (P12 [1,1,1,1,1,1,1,1,1,0,1,0,0,1,1]), .inLoop (P12 [1,1,1,1,1,1,1,1,1,0,1,0,0]), .inBlock 2, .code (P12 [1,1,1,1,1,1,1,1,1,1])]
def A12_4 (x1 : Int) (x2 x4 : Option Addr) (x6 x8 : Int) (x10 : Option Addr) (x11 x12 : Int) (x76 : Bool) (M : Mem) (Q : Value → Mem → Prop) : Prop := ∀ (g0 g3 g5 g7 g9 g13 g14 g15 g16 g17 g18 g19 g20 g21 g22 g23 g24 g25 g26 g27 g28 g29 g30 g31 g32 g33 g34 g35 g36 g37 g38 g39 g40 g41 g42 g43 g44 g45 g46 g47 g48 g49 g50 g51 g52 g53 g54 g55 g56 g57 g58 g59 g60 g61 g62 g63 g64 g65 g66 g67 g68 g69 g70 g71 g72 g73 g74 g75 g77 g78 g79 g80 g81 g82 g83 g84 g85 g86 g87 g88 g89 g90 g91 g92 g93 g94 g95 g96 g97 g98 g99 : Value), Rn Try.prog Try.f12 S12_4 #[g0, .int .i64 x1, .pointer x2, g3, .pointer x4, g5, .int .i64 x6, g7, .int .i64 x8, g9, .pointer x10, .int .i64 x11, .int .i64 x12, g13, g14, g15, g16, g17, g18, g19, g20, g21, g22, g23, g24, g25, g26, g27, g28, g29, g30, g31, g32, g33, g34, g35, g36, g37, g38, g39, g40, g41, g42, g43, g44, g45, g46, g47, g48, g49, g50, g51, g52, g53, g54, g55, g56, g57, g58, g59, g60, g61, g62, g63, g64, g65, g66, g67, g68, g69, g70, g71, g72, g73, g74, g75, .bool x76, g77, g78, g79, g80, g81, g82, g83, g84, g85, g86, g87, g88, g89, g90, g91, g92, g93, g94, g95, g96, g97, g98, g99] M Q
theorem w12_0 {Ax0_0 : Option Addr} {lx0_0 cx0_0 : Nat} {x0_1 x1 : Int} {M : Mem} {Q : Value → Mem → Prop} (H :
    ∃ s1', ((M.new (.cells #[.slice Ax0_0 lx0_0 cx0_0, .int .i64 x0_1] 24)).new (.cells #[.slice none 0 0, .int .i64 0] 24)).slAt (2 * M.nb.size) 0 = some s1' ∧
    ∃ x2', ((M.new (.cells #[.slice Ax0_0 lx0_0 cx0_0, .int .i64 x0_1] 24)).new (.cells #[.slice none 0 0, .int .i64 0] 24)).intAt .i64 (2 * M.nb.size) (0 + 1) = some x2' ∧
    Cn Try.prog 29 #[.agg #[.slice s1'.1 (s1'.2.1) (s1'.2.2), .int .i64 x2']] ((M.new (.cells #[.slice Ax0_0 lx0_0 cx0_0, .int .i64 x0_1] 24)).new (.cells #[.slice none 0 0, .int .i64 0] 24)) fun v3' N3' =>
     ∃ x4', asI .i64 v3' = some x4' ∧
     ((x4' ≠ 0 →
      A12_1 x1 (some ⟨2 * M.nb.size, 0, none⟩) (some ⟨2 * (M.new (.cells #[.slice Ax0_0 lx0_0 cx0_0, .int .i64 x0_1] 24)).nb.size, 0, none⟩) true N3' Q) ∧
      (x4' = 0 →
      ((x1 < 0 →
       A12_1 x1 (some ⟨2 * M.nb.size, 0, none⟩) (some ⟨2 * (M.new (.cells #[.slice Ax0_0 lx0_0 cx0_0, .int .i64 x0_1] 24)).nb.size, 0, none⟩) true N3' Q) ∧
       (¬ (x1 < 0) →
       ∃ s5', N3'.slAt (2 * M.nb.size) 0 = some s5' ∧
       A12_1 x1 (some ⟨2 * M.nb.size, 0, none⟩) (some ⟨2 * (M.new (.cells #[.slice Ax0_0 lx0_0 cx0_0, .int .i64 x0_1] 24)).nb.size, 0, none⟩) (decide (x1 ≥ ((s5'.2.1 : Int)))) N3' Q))))) :
    Cn Try.prog 12 #[.agg #[.slice Ax0_0 lx0_0 cx0_0, .int .i64 x0_1], .int .i64 x1] M Q := by
  refine Cn.of b12 d12 t12 ?_
  refine Rn.seq k12_0 (Rn.region k12_1 (fun call K => r12_0) (Rch.leaf (Rn.seq k12_2 (Rn.seq k12_3 (Rn.region k12_4 (fun call K => r12_1) (Rch.bind (x := ⟨2 * M.nb.size, 0, none⟩) rfl (Rch.ex H fun s1' H => Rch.ex H fun x2' H => Rch.call H fun v3' N3' H => Rch.ex H fun x4' H => ?_)))))))
  refine Rch.cB (fun h => ?_) (fun h => ?_)
  · replace H := H.1 (ne_of_bneT h)
    refine Rch.leaf ?_
    exact H _ _ _ _ _ _ _ _ _ _ _ _ _ _ _ _ _ _ _ _ _ _ _ _ _ _ _ _ _ _ _ _ _ _ _ _ _ _ _ _ _ _ _ _ _ _ _ _ _ _ _ _ _ _ _ _ _ _ _ _ _ _ _ _ _ _ _ _ _ _ _ _ _ _ _ _ _ _ _ _ _ _ _ _ _ _ _ _ _ _ _ _ _ _ _ _
  · replace H := H.2 (eq_of_bneF h)
    refine Rch.cB (fun h => ?_) (fun h => ?_)
    · replace H := H.1 (of_decide_eq_true h)
      refine Rch.leaf ?_
      exact H _ _ _ _ _ _ _ _ _ _ _ _ _ _ _ _ _ _ _ _ _ _ _ _ _ _ _ _ _ _ _ _ _ _ _ _ _ _ _ _ _ _ _ _ _ _ _ _ _ _ _ _ _ _ _ _ _ _ _ _ _ _ _ _ _ _ _ _ _ _ _ _ _ _ _ _ _ _ _ _ _ _ _ _ _ _ _ _ _ _ _ _ _ _ _ _
    · replace H := H.2 (of_decide_eq_false h)
      refine Rch.bind (x := ⟨2 * M.nb.size, 0, none⟩) rfl (Rch.ex H fun s5' H => Rch.leaf ?_)
      exact H _ _ _ _ _ _ _ _ _ _ _ _ _ _ _ _ _ _ _ _ _ _ _ _ _ _ _ _ _ _ _ _ _ _ _ _ _ _ _ _ _ _ _ _ _ _ _ _ _ _ _ _ _ _ _ _ _ _ _ _ _ _ _ _ _ _ _ _ _ _ _ _ _ _ _ _ _ _ _ _ _ _ _ _ _ _ _ _ _ _ _ _ _ _ _ _

theorem w12_1 {x1 : Int} {x2 x4 : Option Addr} {x26 : Bool} {M : Mem} {Q : Value → Mem → Prop} (H :
    ((x26 = true →
     ∃ a6', x4 = some a6' ∧
     ∃ M7', M.put a6'.block a6'.off (.slice none 0 0) = some M7' ∧
     ∃ M8', M7'.put a6'.block (a6'.off + 1) (.int .i64 0) = some M8' ∧
     ∃ a9', x4 = some a9' ∧
     ∃ s10', M8'.slAt a9'.block a9'.off = some s10' ∧
     ∃ x11', M8'.intAt .i64 a9'.block (a9'.off + 1) = some x11' ∧
     Q (.tuple #[.agg #[.slice s10'.1 (s10'.2.1) (s10'.2.2), .int .i64 (x11')], .int .i64 2]) M8') ∧
     (x26 = false →
     ∃ a12', x2 = some a12' ∧
     ∃ s13', M.slAt a12'.block a12'.off = some s13' ∧
     Cn Try.prog 35 #[.int .i64 (s13'.2.1 : Int)] M fun v14' N14' =>
      ∃ x15', asI .i64 v14' = some x15' ∧
      ∃ a16', x2 = some a16' ∧
      ∃ x17', N14'.intAt .i64 a16'.block (a16'.off + 1) = some x17' ∧
      ((x17' > 15 →
       ∃ a18', x2 = some a18' ∧
       ∃ x19', N14'.intAt .i64 a18'.block (a18'.off + 1) = some x19' ∧
       ((x19' > 31 →
        A12_2 x1 x2 x4 (s13'.2.1 : Int) (IntKind.i64.wrap ((IntKind.i64.wrap ((IntKind.i64.wrap (3 + (if 2 < x15' then 2 else x15'))) + 1)) + 1)) 1 0 N14' Q) ∧
        (¬ (x19' > 31) →
        A12_2 x1 x2 x4 (s13'.2.1 : Int) (IntKind.i64.wrap ((IntKind.i64.wrap (3 + (if 2 < x15' then 2 else x15'))) + 1)) 1 0 N14' Q))) ∧
       (¬ (x17' > 15) →
       ∃ a20', x2 = some a20' ∧
       ∃ x21', N14'.intAt .i64 a20'.block (a20'.off + 1) = some x21' ∧
       ((x21' > 31 →
        A12_2 x1 x2 x4 (s13'.2.1 : Int) (IntKind.i64.wrap ((IntKind.i64.wrap (3 + (if 2 < x15' then 2 else x15'))) + 1)) 1 0 N14' Q) ∧
        (¬ (x21' > 31) →
        A12_2 x1 x2 x4 (s13'.2.1 : Int) (IntKind.i64.wrap (3 + (if 2 < x15' then 2 else x15'))) 1 0 N14' Q))))))) :
    A12_1 x1 x2 x4 x26 M Q := by
  intro g0 g3 g5 g6 g7 g8 g9 g10 g11 g12 g13 g14 g15 g16 g17 g18 g19 g20 g21 g22 g23 g24 g25 g27 g28 g29 g30 g31 g32 g33 g34 g35 g36 g37 g38 g39 g40 g41 g42 g43 g44 g45 g46 g47 g48 g49 g50 g51 g52 g53 g54 g55 g56 g57 g58 g59 g60 g61 g62 g63 g64 g65 g66 g67 g68 g69 g70 g71 g72 g73 g74 g75 g76 g77 g78 g79 g80 g81 g82 g83 g84 g85 g86 g87 g88 g89 g90 g91 g92 g93 g94 g95 g96 g97 g98 g99
  refine Rn.cnd (v := x26) ⟨c12_5, rfl, by kernel_rfl⟩ (fun h => ?_) (fun h => ?_)
  · replace H := H.1 (h)
    refine Rn.seq k12_6 (Rn.region k12_7 (fun call K => r12_2) (Rch.ex H fun a6' H => Rch.ex H fun M7' H => Rch.ex H fun M8' H => Rch.leaf (Rn.retK k12_8 (fun K => e12_0) (Rch.ex H fun a9' H => Rch.ex H fun s10' H => Rch.ex H fun x11' H => ?_))))
    exact Rch.fin H
  · replace H := H.2 (h)
    refine Rn.skip k12_10 (Rn.seq k12_11 (Rn.region k12_12 (fun call K => r12_3) (Rch.ex H fun a12' H => Rch.ex H fun s13' H => Rch.leaf (Rn.seq k12_13 (Rn.region k12_14 (fun call K => r12_4) (Rch.call H fun v14' N14' H => Rch.ex H fun x15' H => Rch.leaf (Rn.seq k12_15 ?_)))))))
    refine Rn.seq k12_16 (Rn.region k12_17 (fun call K => r12_5) (Rch.ex H fun a16' H => Rch.ex H fun x17' H => Rch.leaf ?_))
    refine Rn.cnd (v := decide (x17' > 15)) ⟨c12_18, rfl, by kernel_rfl⟩ (fun h => ?_) (fun h => ?_)
    · replace H := H.1 (of_decide_eq_true h)
      refine Rn.region k12_19 (fun call K => r12_6) (Rch.leaf (Rn.seq k12_20 (Rn.seq k12_21 (Rn.region k12_22 (fun call K => r12_7) (Rch.ex H fun a18' H => Rch.ex H fun x19' H => Rch.leaf ?_)))))
      refine Rn.cnd (v := decide (x19' > 31)) ⟨c12_23, rfl, by kernel_rfl⟩ (fun h => ?_) (fun h => ?_)
      · replace H := H.1 (of_decide_eq_true h)
        refine Rn.region k12_24 (fun call K => r12_8) (Rch.leaf (Rn.seq k12_25 (Rn.region k12_26 (fun call K => r12_9) (Rch.leaf (Rn.seq k12_27 (Rn.seq k12_28 (Rn.region k12_29 (fun call K => r12_10) (Rch.leaf (Rn.block k12_30 (Rn.loop k12_31 ?_))))))))))
        exact H _ _ _ _ _ _ _ _ _ _ _ _ _ _ _ _ _ _ _ _ _ _ _ _ _ _ _ _ _ _ _ _ _ _ _ _ _ _ _ _ _ _ _ _ _ _ _ _ _ _ _ _ _ _ _ _ _ _ _ _ _ _ _ _ _ _ _ _ _ _ _ _ _ _ _ _ _ _ _ _ _ _ _ _ _ _ _ _ _ _ _ _ _
      · replace H := H.2 (of_decide_eq_false h)
        refine Rn.skip k12_32 (Rn.seq k12_25 (Rn.region k12_26 (fun call K => r12_9) (Rch.leaf (Rn.seq k12_27 (Rn.seq k12_28 (Rn.region k12_29 (fun call K => r12_10) (Rch.leaf (Rn.block k12_30 (Rn.loop k12_31 ?_)))))))))
        exact H _ _ _ _ _ _ _ _ _ _ _ _ _ _ _ _ _ _ _ _ _ _ _ _ _ _ _ _ _ _ _ _ _ _ _ _ _ _ _ _ _ _ _ _ _ _ _ _ _ _ _ _ _ _ _ _ _ _ _ _ _ _ _ _ _ _ _ _ _ _ _ _ _ _ _ _ _ _ _ _ _ _ _ _ _ _ _ _ _ _ _ _ _
    · replace H := H.2 (of_decide_eq_false h)
      refine Rn.skip k12_33 (Rn.seq k12_20 (Rn.seq k12_21 (Rn.region k12_22 (fun call K => r12_7) (Rch.ex H fun a20' H => Rch.ex H fun x21' H => Rch.leaf ?_))))
      refine Rn.cnd (v := decide (x21' > 31)) ⟨c12_23, rfl, by kernel_rfl⟩ (fun h => ?_) (fun h => ?_)
      · replace H := H.1 (of_decide_eq_true h)
        refine Rn.region k12_24 (fun call K => r12_8) (Rch.leaf (Rn.seq k12_25 (Rn.region k12_26 (fun call K => r12_9) (Rch.leaf (Rn.seq k12_27 (Rn.seq k12_28 (Rn.region k12_29 (fun call K => r12_10) (Rch.leaf (Rn.block k12_30 (Rn.loop k12_31 ?_))))))))))
        exact H _ _ _ _ _ _ _ _ _ _ _ _ _ _ _ _ _ _ _ _ _ _ _ _ _ _ _ _ _ _ _ _ _ _ _ _ _ _ _ _ _ _ _ _ _ _ _ _ _ _ _ _ _ _ _ _ _ _ _ _ _ _ _ _ _ _ _ _ _ _ _ _ _ _ _ _ _ _ _ _ _ _ _ _ _ _ _ _ _ _ _ _ _
      · replace H := H.2 (of_decide_eq_false h)
        refine Rn.skip k12_32 (Rn.seq k12_25 (Rn.region k12_26 (fun call K => r12_9) (Rch.leaf (Rn.seq k12_27 (Rn.seq k12_28 (Rn.region k12_29 (fun call K => r12_10) (Rch.leaf (Rn.block k12_30 (Rn.loop k12_31 ?_)))))))))
        exact H _ _ _ _ _ _ _ _ _ _ _ _ _ _ _ _ _ _ _ _ _ _ _ _ _ _ _ _ _ _ _ _ _ _ _ _ _ _ _ _ _ _ _ _ _ _ _ _ _ _ _ _ _ _ _ _ _ _ _ _ _ _ _ _ _ _ _ _ _ _ _ _ _ _ _ _ _ _ _ _ _ _ _ _ _ _ _ _ _ _ _ _ _

theorem w12_2 {x1 : Int} {x2 x4 : Option Addr} {x6 x7 x8 x9 : Int} {M : Mem} {Q : Value → Mem → Prop} (H :
    ((x9 < x7 →
     A12_2 x1 x2 x4 x6 x7 (IntKind.i64.wrap (x8 * 2)) (IntKind.i64.wrap (x9 + 1)) M Q) ∧
     (¬ (x9 < x7) →
     ∃ a22', x2 = some a22' ∧
     ∃ x23', M.intAt .i64 a22'.block (a22'.off + 1) = some x23' ∧
     ∃ M24', (M.new (.cells #[.slice none 0 0, .int .i64 0] 24)).put (2 * M.nb.size) 0 (.slice none 0 0) = some M24' ∧
     ∃ M25', M24'.put (2 * M.nb.size) 1 (.int .i64 (if 32 < IntKind.i64.wrap (x23' + 1) then 32 else IntKind.i64.wrap (x23' + 1))) = some M25' ∧
     A12_3 x1 x2 x4 x6 x8 (some ⟨2 * M.nb.size, 0, none⟩) 0 M25' Q))) :
    A12_2 x1 x2 x4 x6 x7 x8 x9 M Q := by
  intro g0 g3 g5 g10 g11 g12 g13 g14 g15 g16 g17 g18 g19 g20 g21 g22 g23 g24 g25 g26 g27 g28 g29 g30 g31 g32 g33 g34 g35 g36 g37 g38 g39 g40 g41 g42 g43 g44 g45 g46 g47 g48 g49 g50 g51 g52 g53 g54 g55 g56 g57 g58 g59 g60 g61 g62 g63 g64 g65 g66 g67 g68 g69 g70 g71 g72 g73 g74 g75 g76 g77 g78 g79 g80 g81 g82 g83 g84 g85 g86 g87 g88 g89 g90 g91 g92 g93 g94 g95 g96 g97 g98 g99
  refine Rn.seq k12_34 (Rn.seq k12_35 (Rn.region k12_36 (fun call K => r12_11) (Rch.leaf ?_)))
  refine Rn.cnd (v := decide (x9 < x7)) ⟨c12_37, rfl, by kernel_rfl⟩ (fun h => ?_) (fun h => ?_)
  · replace H := H.1 (of_decide_eq_true h)
    refine Rn.skip k12_38 (Rn.seq k12_39 (Rn.block k12_40 (Rn.region k12_41 (fun call K => r12_13) (Rch.leaf (Rn.blk (Rn.region k12_42 (fun call K => r12_12) (Rch.leaf (Rn.lp ?_))))))))
    exact H _ _ _ _ _ _ _ _ _ _ _ _ _ _ _ _ _ _ _ _ _ _ _ _ _ _ _ _ _ _ _ _ _ _ _ _ _ _ _ _ _ _ _ _ _ _ _ _ _ _ _ _ _ _ _ _ _ _ _ _ _ _ _ _ _ _ _ _ _ _ _ _ _ _ _ _ _ _ _ _ _ _ _ _ _ _ _ _ _ _ _ _ _
  · replace H := H.2 (of_decide_eq_false h)
    refine Rn.exit k12_43 rfl (Rn.seq k12_44 (Rn.region k12_45 (fun call K => r12_14) (Rch.ex H fun a22' H => Rch.ex H fun x23' H => Rch.ex H fun M24' H => Rch.ex H fun M25' H => Rch.leaf (Rn.seq k12_46 (Rn.seq k12_47 (Rn.region k12_48 (fun call K => r12_15) (Rch.leaf ?_)))))))
    refine Rn.block k12_49 (Rn.loop k12_50 ?_)
    exact H _ _ _ _ _ _ _ _ _ _ _ _ _ _ _ _ _ _ _ _ _ _ _ _ _ _ _ _ _ _ _ _ _ _ _ _ _ _ _ _ _ _ _ _ _ _ _ _ _ _ _ _ _ _ _ _ _ _ _ _ _ _ _ _ _ _ _ _ _ _ _ _ _ _ _ _ _ _ _ _ _ _ _ _ _ _ _ _ _ _ _ _ _

theorem w12_3 {x1 : Int} {x2 x4 : Option Addr} {x6 x8 : Int} {x10 : Option Addr} {x11 : Int} {M : Mem} {Q : Value → Mem → Prop} (H :
    ((x11 < x6 →
     ∃ a26', x2 = some a26' ∧
     ∃ s27', M.slAt a26'.block a26'.off = some s27' ∧
     ∃ a28', idxA s27'.1 (s27'.2.1) 1 x11 = some a28' ∧
     ∃ x29', M.intAt .u16 a28'.block a28'.off = some x29' ∧
     ((x11 < (IntKind.i64.wrap (x6 - 1)) →
      A12_4 x1 x2 x4 x6 x8 x10 x11 (IntKind.i64.wrap (x29')) (decide (x11 ≥ x1)) M Q) ∧
      (¬ (x11 < (IntKind.i64.wrap (x6 - 1))) →
      A12_4 x1 x2 x4 x6 x8 x10 x11 (IntKind.i64.wrap (x29')) false M Q))) ∧
     (¬ (x11 < x6) →
     ∃ a30', x10 = some a30' ∧
     ∃ s31', M.slAt a30'.block a30'.off = some s31' ∧
     ∃ x32', M.intAt .i64 a30'.block (a30'.off + 1) = some x32' ∧
     ∃ a33', x4 = some a33' ∧
     ∃ M34', M.put a33'.block a33'.off (.slice s31'.1 (s31'.2.1) (s31'.2.2)) = some M34' ∧
     ∃ M35', M34'.put a33'.block (a33'.off + 1) (.int .i64 x32') = some M35' ∧
     ∃ a36', x4 = some a36' ∧
     ∃ s37', M35'.slAt a36'.block a36'.off = some s37' ∧
     ∃ x38', M35'.intAt .i64 a36'.block (a36'.off + 1) = some x38' ∧
     Q (.tuple #[.agg #[.slice s37'.1 (s37'.2.1) (s37'.2.2), .int .i64 (x38')], .int .i64 0]) M35'))) :
    A12_3 x1 x2 x4 x6 x8 x10 x11 M Q := by
  intro g0 g3 g5 g7 g9 g12 g13 g14 g15 g16 g17 g18 g19 g20 g21 g22 g23 g24 g25 g26 g27 g28 g29 g30 g31 g32 g33 g34 g35 g36 g37 g38 g39 g40 g41 g42 g43 g44 g45 g46 g47 g48 g49 g50 g51 g52 g53 g54 g55 g56 g57 g58 g59 g60 g61 g62 g63 g64 g65 g66 g67 g68 g69 g70 g71 g72 g73 g74 g75 g76 g77 g78 g79 g80 g81 g82 g83 g84 g85 g86 g87 g88 g89 g90 g91 g92 g93 g94 g95 g96 g97 g98 g99
  refine Rn.seq k12_51 (Rn.seq k12_52 (Rn.region k12_53 (fun call K => r12_16) (Rch.leaf ?_)))
  refine Rn.cnd (v := decide (x11 < x6)) ⟨c12_54, rfl, by kernel_rfl⟩ (fun h => ?_) (fun h => ?_)
  · replace H := H.1 (of_decide_eq_true h)
    refine Rn.skip k12_55 (Rn.seq k12_56 (Rn.block k12_57 (Rn.seq k12_58 (Rn.region k12_59 (fun call K => r12_18) (Rch.ex H fun a26' H => Rch.ex H fun s27' H => Rch.ex H fun a28' H => Rch.ex H fun x29' H => Rch.leaf (Rn.seq k12_60 (Rn.seq k12_61 ?_)))))))
    refine Rn.region k12_62 (fun call K => r12_19) ?_
    refine Rch.cB (fun h => ?_) (fun h => ?_)
    · replace H := H.1 (of_decide_eq_true h)
      refine Rch.leaf ?_
      exact H _ _ _ _ _ _ _ _ _ _ _ _ _ _ _ _ _ _ _ _ _ _ _ _ _ _ _ _ _ _ _ _ _ _ _ _ _ _ _ _ _ _ _ _ _ _ _ _ _ _ _ _ _ _ _ _ _ _ _ _ _ _ _ _ _ _ _ _ _ _ _ _ _ _ _ _ _ _ _ _ _ _ _ _ _ _ _ _ _ _ _
    · replace H := H.2 (of_decide_eq_false h)
      refine Rch.leaf ?_
      exact H _ _ _ _ _ _ _ _ _ _ _ _ _ _ _ _ _ _ _ _ _ _ _ _ _ _ _ _ _ _ _ _ _ _ _ _ _ _ _ _ _ _ _ _ _ _ _ _ _ _ _ _ _ _ _ _ _ _ _ _ _ _ _ _ _ _ _ _ _ _ _ _ _ _ _ _ _ _ _ _ _ _ _ _ _ _ _ _ _ _ _
  · replace H := H.2 (of_decide_eq_false h)
    refine Rn.exit k12_63 rfl (Rn.seq k12_64 (Rn.region k12_65 (fun call K => r12_24) (Rch.ex H fun a30' H => Rch.ex H fun s31' H => Rch.ex H fun x32' H => Rch.ex H fun a33' H => Rch.ex H fun M34' H => Rch.ex H fun M35' H => Rch.leaf (Rn.retK k12_66 (fun K => e12_0) (Rch.ex H fun a36' H => ?_)))))
    refine Rch.ex H fun s37' H => Rch.ex H fun x38' H => ?_
    exact Rch.fin H

theorem w12_4 {x1 : Int} {x2 x4 : Option Addr} {x6 x8 : Int} {x10 : Option Addr} {x11 x12 : Int} {x76 : Bool} {M : Mem} {Q : Value → Mem → Prop} (H :
    ((x76 = true →
     ∃ v39', binV Try.prog .quo 3 3 (.int .i64 (IntKind.i64.wrap (32768 - x12))) (.int .i64 x8) = some v39' ∧
     ∃ x40', asI .i64 v39' = some x40' ∧
     ∃ a41', x10 = some a41' ∧
     ∃ s42', M.slAt a41'.block a41'.off = some s42' ∧
     ∃ r43', appendP Try.prog #[22, 22] (.slice s42'.1 (s42'.2.1) (s42'.2.2)) (.slice (some ⟨2 * M.nb.size, 0, none⟩) 1 1) (M.new (.cells #[.int .u16 (IntKind.u16.wrap ((IntKind.i64.wrap (x12 + x40'))))] 47)) = some r43' ∧
     ∃ s44', asS r43'.1 = some s44' ∧
     ∃ a45', x10 = some a45' ∧
     ∃ M46', r43'.2.put a45'.block a45'.off (.slice s44'.1 (s44'.2.1) (s44'.2.2)) = some M46' ∧
     A12_3 x1 x2 x4 x6 x8 x10 (IntKind.i64.wrap (x11 + 1)) M46' Q) ∧
     (x76 = false →
     ((x11 < (IntKind.i64.wrap (x6 - 1)) →
      ∃ v47', binV Try.prog .quo 3 3 (.int .i64 x12) (.int .i64 x8) = some v47' ∧
      ∃ x48', asI .i64 v47' = some x48' ∧
      ∃ a49', x10 = some a49' ∧
      ∃ s50', M.slAt a49'.block a49'.off = some s50' ∧
      ∃ r51', appendP Try.prog #[22, 22] (.slice s50'.1 (s50'.2.1) (s50'.2.2)) (.slice (some ⟨2 * M.nb.size, 0, none⟩) 1 1) (M.new (.cells #[.int .u16 (IntKind.u16.wrap ((IntKind.i64.wrap (x12 - x48'))))] 47)) = some r51' ∧
      ∃ s52', asS r51'.1 = some s52' ∧
      ∃ a53', x10 = some a53' ∧
      ∃ M54', r51'.2.put a53'.block a53'.off (.slice s52'.1 (s52'.2.1) (s52'.2.2)) = some M54' ∧
      A12_3 x1 x2 x4 x6 x8 x10 (IntKind.i64.wrap (x11 + 1)) M54' Q) ∧
      (¬ (x11 < (IntKind.i64.wrap (x6 - 1))) →
      ∃ a55', x10 = some a55' ∧
      ∃ s56', M.slAt a55'.block a55'.off = some s56' ∧
      ∃ r57', appendP Try.prog #[22, 22] (.slice s56'.1 (s56'.2.1) (s56'.2.2)) (.slice (some ⟨2 * M.nb.size, 0, none⟩) 1 1) (M.new (.cells #[.int .u16 (IntKind.u16.wrap (x12))] 47)) = some r57' ∧
      ∃ s58', asS r57'.1 = some s58' ∧
      ∃ a59', x10 = some a59' ∧
      ∃ M60', r57'.2.put a59'.block a59'.off (.slice s58'.1 (s58'.2.1) (s58'.2.2)) = some M60' ∧
      A12_3 x1 x2 x4 x6 x8 x10 (IntKind.i64.wrap (x11 + 1)) M60' Q))))) :
    A12_4 x1 x2 x4 x6 x8 x10 x11 x12 x76 M Q := by
  intro g0 g3 g5 g7 g9 g13 g14 g15 g16 g17 g18 g19 g20 g21 g22 g23 g24 g25 g26 g27 g28 g29 g30 g31 g32 g33 g34 g35 g36 g37 g38 g39 g40 g41 g42 g43 g44 g45 g46 g47 g48 g49 g50 g51 g52 g53 g54 g55 g56 g57 g58 g59 g60 g61 g62 g63 g64 g65 g66 g67 g68 g69 g70 g71 g72 g73 g74 g75 g77 g78 g79 g80 g81 g82 g83 g84 g85 g86 g87 g88 g89 g90 g91 g92 g93 g94 g95 g96 g97 g98 g99
  refine Rn.cnd (v := x76) ⟨c12_67, rfl, by kernel_rfl⟩ (fun h => ?_) (fun h => ?_)
  · replace H := H.1 (h)
    refine Rn.region k12_68 (fun call K => r12_20) (Rch.ex H fun v39' H => Rch.ex H fun x40' H => Rch.leaf (Rn.region k12_69 (fun call K => r12_23) (Rch.ex H fun a41' H => Rch.ex H fun s42' H => Rch.ex H fun r43' H => Rch.ex H fun s44' H => Rch.ex H fun a45' H => Rch.ex H fun M46' H => Rch.leaf ?_)))
    refine Rn.blk (Rn.region k12_70 (fun call K => r12_17) (Rch.leaf (Rn.lp ?_)))
    exact H _ _ _ _ _ _ _ _ _ _ _ _ _ _ _ _ _ _ _ _ _ _ _ _ _ _ _ _ _ _ _ _ _ _ _ _ _ _ _ _ _ _ _ _ _ _ _ _ _ _ _ _ _ _ _ _ _ _ _ _ _ _ _ _ _ _ _ _ _ _ _ _ _ _ _ _ _ _ _ _ _ _ _ _ _ _ _ _ _ _ _ _ _
  · replace H := H.2 (h)
    refine Rn.seq k12_71 (Rn.region k12_72 (fun call K => r12_21) (Rch.leaf ?_))
    refine Rn.cnd (v := decide (x11 < (IntKind.i64.wrap (x6 - 1)))) ⟨c12_73, rfl, by kernel_rfl⟩ (fun h => ?_) (fun h => ?_)
    · replace H := H.1 (of_decide_eq_true h)
      refine Rn.region k12_74 (fun call K => r12_22) (Rch.ex H fun v47' H => Rch.ex H fun x48' H => Rch.leaf (Rn.region k12_69 (fun call K => r12_23) (Rch.ex H fun a49' H => Rch.ex H fun s50' H => Rch.ex H fun r51' H => Rch.ex H fun s52' H => Rch.ex H fun a53' H => Rch.ex H fun M54' H => Rch.leaf ?_)))
      refine Rn.blk (Rn.region k12_70 (fun call K => r12_17) (Rch.leaf (Rn.lp ?_)))
      exact H _ _ _ _ _ _ _ _ _ _ _ _ _ _ _ _ _ _ _ _ _ _ _ _ _ _ _ _ _ _ _ _ _ _ _ _ _ _ _ _ _ _ _ _ _ _ _ _ _ _ _ _ _ _ _ _ _ _ _ _ _ _ _ _ _ _ _ _ _ _ _ _ _ _ _ _ _ _ _ _ _ _ _ _ _ _ _ _ _ _ _ _ _
    · replace H := H.2 (of_decide_eq_false h)
      refine Rn.skip k12_75 (Rn.region k12_69 (fun call K => r12_23) (Rch.ex H fun a55' H => Rch.ex H fun s56' H => Rch.ex H fun r57' H => Rch.ex H fun s58' H => Rch.ex H fun a59' H => Rch.ex H fun M60' H => Rch.leaf (Rn.blk (Rn.region k12_70 (fun call K => r12_17) (Rch.leaf ?_)))))
      refine Rn.lp ?_
      exact H _ _ _ _ _ _ _ _ _ _ _ _ _ _ _ _ _ _ _ _ _ _ _ _ _ _ _ _ _ _ _ _ _ _ _ _ _ _ _ _ _ _ _ _ _ _ _ _ _ _ _ _ _ _ _ _ _ _ _ _ _ _ _ _ _ _ _ _ _ _ _ _ _ _ _ _ _ _ _ _ _ _ _ _ _ _ _ _ _ _ _ _ _


end Go.Zt
