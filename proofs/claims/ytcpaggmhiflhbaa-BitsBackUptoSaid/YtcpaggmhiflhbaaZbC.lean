/- The functions' walks: for each function and each loop a rule of what it comes to. Printed by zw.py. -/
import Derived.Test.YtcpaggmhiflhbaaProg
import Derived.Test.YtcpaggmhiflhbaaZbA
set_option linter.unusedVariables false
set_option maxRecDepth 100000
namespace Go.Zt
open Go Go.Sim Go.Proofs

variable {g0 g1 g2 g3 g4 g5 g6 g7 g8 g9 g10 g11 g12 g13 g14 g15 g16 g17 g18 g19 g20 g21 g22 g23 g24 g25 g26 g27 g28 g29 g30 g31 g32 g33 g34 g35 g36 g37 g38 g39 g40 g41 g42 g43 g44 g45 g46 g47 g48 g49 g50 g51 g52 g53 g54 g55 g56 g57 g58 g59 g60 g61 g62 g63 g64 g65 g66 g67 g68 : Value}
/-! ### zoetrope/zoetroperef01.spread: function 48 -/
noncomputable abbrev P48 (p : List Nat) : Code := subC (codeOf Try.f48) p
noncomputable abbrev O48 (p : List Nat) : Array Oper := opsOf (subC (codeOf Try.f48) p)
theorem b48 : Try.prog.funcs[48]? = some Try.f48 ∧ (Orc.tab Try.prog).lookup 48 = none := ⟨by kernel_rfl, by kernel_rfl⟩
theorem d48 : Try.f48.body = some (P48 []) := by kernel_rfl
theorem t48 {Ax0 : Option Addr} {lx0 cx0 : Nat} : #[.slice Ax0 lx0 cx0] ++ Array.replicate (Try.f48.ntmps - (#[.slice Ax0 lx0 cx0] : Array Value).size) undef = #[.slice Ax0 lx0 cx0,undef,undef,undef,undef,undef,undef,undef,undef,undef,undef,undef,undef,undef,undef,undef,undef,undef,undef,undef,undef,undef,undef,undef,undef,undef,undef,undef,undef,undef,undef,undef] := by kernel_rfl
theorem k48_0 : P48 [] = .seq (P48 [0]) (P48 [1]) := by kernel_rfl
theorem k48_1 : P48 [0] = .region 0 (O48 [0]) false := by kernel_rfl
theorem r48_0 {M : Mem} {call : CallM} {K : Array Value → Mem → R} :
    opsK Try.prog (fun _ => call) (O48 [0]) (O48 [0]).toList 0 #[g0,g1,g2,g3,g4,g5,g6,g7,g8,g9,g10,g11,g12,g13,g14,g15,g16,g17,g18,g19,g20,g21,g22,g23,g24,g25,g26,g27,g28,g29,g30,g31] M K = K #[g0,g1,.slice none 0 0,g3,g4,g5,g6,g7,g8,g9,g10,g11,g12,g13,g14,g15,g16,g17,g18,g19,g20,g21,g22,g23,g24,g25,g26,g27,g28,g29,g30,g31] M := by kernel_rfl
theorem k48_2 : P48 [1] = .seq (P48 [1,0]) (P48 [1,1]) := by kernel_rfl
theorem k48_3 : P48 [1,0] = .region 1 (O48 [1,0]) false := by kernel_rfl
theorem r48_1 {Ax0 : Option Addr} {lx0 cx0 : Nat} {M : Mem} {call : CallM} {K : Array Value → Mem → R} :
    opsK Try.prog (fun _ => call) (O48 [1,0]) (O48 [1,0]).toList 0 #[.slice Ax0 lx0 cx0,g1,g2,g3,g4,g5,g6,g7,g8,g9,g10,g11,g12,g13,g14,g15,g16,g17,g18,g19,g20,g21,g22,g23,g24,g25,g26,g27,g28,g29,g30,g31] M K = (makeP Try.prog 61 (.int .i64 0) (.int .i64 (IntKind.i64.wrap (8 * ((lx0 : Int))))) M).bind fun r_1 => (asS r_1.1).bind fun s_2 => K #[.slice Ax0 lx0 cx0,g1,g2,.slice s_2.1 (s_2.2.1) (s_2.2.2),g4,g5,.slice Ax0 lx0 cx0,.int .i64 ((lx0 : Int)),.int .i64 (IntKind.i64.wrap (8 * ((lx0 : Int)))),.slice s_2.1 (s_2.2.1) (s_2.2.2),g10,g11,g12,g13,g14,g15,g16,g17,g18,g19,g20,g21,g22,g23,g24,g25,g26,g27,g28,g29,g30,g31] r_1.2 := by kernel_rfl
theorem k48_4 : P48 [1,1] = .seq (P48 [1,1,0]) (P48 [1,1,1]) := by kernel_rfl
theorem k48_5 : P48 [1,1,0] = .seq (P48 [1,1,0,0]) (P48 [1,1,0,1]) := by kernel_rfl
theorem k48_6 : P48 [1,1,0,0] = .region 2 (O48 [1,1,0,0]) false := by kernel_rfl
theorem r48_2 {M : Mem} {call : CallM} {K : Array Value → Mem → R} :
    opsK Try.prog (fun _ => call) (O48 [1,1,0,0]) (O48 [1,1,0,0]).toList 0 #[g0,g1,g2,g3,g4,g5,g6,g7,g8,g9,g10,g11,g12,g13,g14,g15,g16,g17,g18,g19,g20,g21,g22,g23,g24,g25,g26,g27,g28,g29,g30,g31] M K = K #[g0,g1,g2,g3,.int .i64 0,g5,g6,g7,g8,g9,g10,g11,g12,g13,g14,g15,g16,g17,g18,g19,g20,g21,g22,g23,g24,g25,g26,g27,g28,g29,g30,g31] M := by kernel_rfl
theorem k48_7 : P48 [1,1,0,1] = .block 0 (P48 [1,1,0,1,0]) := by kernel_rfl
theorem k48_8 : P48 [1,1,0,1,0] = .loop (P48 [1,1,0,1,0,0]) := by kernel_rfl
theorem k48_9 : P48 [1,1,0,1,0,0] = .seq (P48 [1,1,0,1,0,0,0]) (P48 [1,1,0,1,0,0,1]) := by kernel_rfl
theorem k48_10 : P48 [1,1,0,1,0,0,0] = .seq (P48 [1,1,0,1,0,0,0,0]) (P48 [1,1,0,1,0,0,0,1]) := by kernel_rfl
theorem k48_11 : P48 [1,1,0,1,0,0,0,0] = .region 3 (O48 [1,1,0,1,0,0,0,0]) false := by kernel_rfl
theorem r48_3 {Ax0 : Option Addr} {lx0 cx0 : Nat} {x4 : Int} {M : Mem} {call : CallM} {K : Array Value → Mem → R} :
    opsK Try.prog (fun _ => call) (O48 [1,1,0,1,0,0,0,0]) (O48 [1,1,0,1,0,0,0,0]).toList 0 #[.slice Ax0 lx0 cx0,g1,g2,g3,.int .i64 x4,g5,g6,g7,g8,g9,g10,g11,g12,g13,g14,g15,g16,g17,g18,g19,g20,g21,g22,g23,g24,g25,g26,g27,g28,g29,g30,g31] M K = K #[.slice Ax0 lx0 cx0,g1,g2,g3,.int .i64 x4,g5,g6,g7,g8,g9,.int .i64 x4,.slice Ax0 lx0 cx0,.int .i64 ((lx0 : Int)),.bool (decide (x4 < ((lx0 : Int)))),g14,g15,g16,g17,g18,g19,g20,g21,g22,g23,g24,g25,g26,g27,g28,g29,g30,g31] M := by kernel_rfl
theorem c48_12 : P48 [1,1,0,1,0,0,0,1] = .cond (.tmp 13) (P48 [1,1,0,1,0,0,0,1,0]) (P48 [1,1,0,1,0,0,0,1,1]) := by kernel_rfl
theorem k48_13 : P48 [1,1,0,1,0,0,0,1,0] = .skip := by kernel_rfl
theorem k48_14 : P48 [1,1,0,1,0,0,1] = .seq (P48 [1,1,0,1,0,0,1,0]) (P48 [1,1,0,1,0,0,1,1]) := by kernel_rfl
theorem k48_15 : P48 [1,1,0,1,0,0,1,0] = .block 1 (P48 [1,1,0,1,0,0,1,0,0]) := by kernel_rfl
theorem k48_16 : P48 [1,1,0,1,0,0,1,0,0] = .seq (P48 [1,1,0,1,0,0,1,0,0,0]) (P48 [1,1,0,1,0,0,1,0,0,1]) := by kernel_rfl
theorem k48_17 : P48 [1,1,0,1,0,0,1,0,0,0] = .region 5 (O48 [1,1,0,1,0,0,1,0,0,0]) false := by kernel_rfl
theorem r48_5 {M : Mem} {call : CallM} {K : Array Value → Mem → R} :
    opsK Try.prog (fun _ => call) (O48 [1,1,0,1,0,0,1,0,0,0]) (O48 [1,1,0,1,0,0,1,0,0,0]).toList 0 #[g0,g1,g2,g3,g4,g5,g6,g7,g8,g9,g10,g11,g12,g13,g14,g15,g16,g17,g18,g19,g20,g21,g22,g23,g24,g25,g26,g27,g28,g29,g30,g31] M K = K #[g0,g1,g2,g3,g4,.int .i64 7,g6,g7,g8,g9,g10,g11,g12,g13,g14,g15,g16,g17,g18,g19,g20,g21,g22,g23,g24,g25,g26,g27,g28,g29,g30,g31] M := by kernel_rfl
theorem k48_18 : P48 [1,1,0,1,0,0,1,0,0,1] = .block 2 (P48 [1,1,0,1,0,0,1,0,0,1,0]) := by kernel_rfl
theorem k48_19 : P48 [1,1,0,1,0,0,1,0,0,1,0] = .loop (P48 [1,1,0,1,0,0,1,0,0,1,0,0]) := by kernel_rfl
theorem k48_20 : P48 [1,1,0,1,0,0,0,1,1] = .exit 0 := by kernel_rfl
theorem k48_21 : P48 [1,1,1] = .seq (P48 [1,1,1,0]) (P48 [1,1,1,1]) := by kernel_rfl
theorem k48_22 : P48 [1,1,1,0] = .region 9 (O48 [1,1,1,0]) false := by kernel_rfl
theorem r48_9 {Ax3 : Option Addr} {lx3 cx3 : Nat} {M : Mem} {call : CallM} {K : Array Value → Mem → R} :
    opsK Try.prog (fun _ => call) (O48 [1,1,1,0]) (O48 [1,1,1,0]).toList 0 #[g0,g1,g2,.slice Ax3 lx3 cx3,g4,g5,g6,g7,g8,g9,g10,g11,g12,g13,g14,g15,g16,g17,g18,g19,g20,g21,g22,g23,g24,g25,g26,g27,g28,g29,g30,g31] M K = K #[g0,g1,.slice Ax3 lx3 cx3,.slice Ax3 lx3 cx3,g4,g5,g6,g7,g8,g9,g10,g11,g12,g13,g14,g15,g16,g17,g18,g19,g20,g21,g22,g23,g24,g25,g26,g27,g28,g29,g30,.slice Ax3 lx3 cx3] M := by kernel_rfl
theorem k48_23 : P48 [1,1,1,1] = .ret := by kernel_rfl
theorem e48 {M : Mem} : finish Try.prog Try.f48 #[g0,g1,g2,g3,g4,g5,g6,g7,g8,g9,g10,g11,g12,g13,g14,g15,g16,g17,g18,g19,g20,g21,g22,g23,g24,g25,g26,g27,g28,g29,g30,g31] M = some (g2, M) := by kernel_rfl
theorem k48_25 : P48 [1,1,0,1,0,0,1,0,0,1,0,0] = .seq (P48 [1,1,0,1,0,0,1,0,0,1,0,0,0]) (P48 [1,1,0,1,0,0,1,0,0,1,0,0,1]) := by kernel_rfl
theorem k48_26 : P48 [1,1,0,1,0,0,1,0,0,1,0,0,0] = .seq (P48 [1,1,0,1,0,0,1,0,0,1,0,0,0,0]) (P48 [1,1,0,1,0,0,1,0,0,1,0,0,0,1]) := by kernel_rfl
theorem k48_27 : P48 [1,1,0,1,0,0,1,0,0,1,0,0,0,0] = .region 6 (O48 [1,1,0,1,0,0,1,0,0,1,0,0,0,0]) false := by kernel_rfl
theorem r48_6 {x5 : Int} {M : Mem} {call : CallM} {K : Array Value → Mem → R} :
    opsK Try.prog (fun _ => call) (O48 [1,1,0,1,0,0,1,0,0,1,0,0,0,0]) (O48 [1,1,0,1,0,0,1,0,0,1,0,0,0,0]).toList 0 #[g0,g1,g2,g3,g4,.int .i64 x5,g6,g7,g8,g9,g10,g11,g12,g13,g14,g15,g16,g17,g18,g19,g20,g21,g22,g23,g24,g25,g26,g27,g28,g29,g30,g31] M K = K #[g0,g1,g2,g3,g4,.int .i64 x5,g6,g7,g8,g9,g10,g11,g12,g13,g14,g15,.int .i64 x5,.bool (decide (x5 ≥ 0)),g18,g19,g20,g21,g22,g23,g24,g25,g26,g27,g28,g29,g30,g31] M := by kernel_rfl
theorem c48_28 : P48 [1,1,0,1,0,0,1,0,0,1,0,0,0,1] = .cond (.tmp 17) (P48 [1,1,0,1,0,0,1,0,0,1,0,0,0,1,0]) (P48 [1,1,0,1,0,0,1,0,0,1,0,0,0,1,1]) := by kernel_rfl
theorem k48_29 : P48 [1,1,0,1,0,0,1,0,0,1,0,0,0,1,0] = .skip := by kernel_rfl
theorem k48_30 : P48 [1,1,0,1,0,0,1,0,0,1,0,0,1] = .seq (P48 [1,1,0,1,0,0,1,0,0,1,0,0,1,0]) (P48 [1,1,0,1,0,0,1,0,0,1,0,0,1,1]) := by kernel_rfl
theorem k48_31 : P48 [1,1,0,1,0,0,1,0,0,1,0,0,1,0] = .block 3 (P48 [1,1,0,1,0,0,1,0,0,1,0,0,1,0,0]) := by kernel_rfl
theorem k48_32 : P48 [1,1,0,1,0,0,1,0,0,1,0,0,1,0,0] = .region 8 (O48 [1,1,0,1,0,0,1,0,0,1,0,0,1,0,0]) false := by kernel_rfl
theorem r48_8 {Ax0 : Option Addr} {lx0 cx0 : Nat} {Ax3 : Option Addr} {lx3 cx3 : Nat} {x4 x5 : Int} {M : Mem} {call : CallM} {K : Array Value → Mem → R} :
    opsK Try.prog (fun _ => call) (O48 [1,1,0,1,0,0,1,0,0,1,0,0,1,0,0]) (O48 [1,1,0,1,0,0,1,0,0,1,0,0,1,0,0]).toList 0 #[.slice Ax0 lx0 cx0,g1,g2,.slice Ax3 lx3 cx3,.int .i64 x4,.int .i64 x5,g6,g7,g8,g9,g10,g11,g12,g13,g14,g15,g16,g17,g18,g19,g20,g21,g22,g23,g24,g25,g26,g27,g28,g29,g30,g31] M K = (idxA Ax0 lx0 1 x4).bind fun a_1 => (M.intAt .u8 a_1.block a_1.off).bind fun x_2 => (binV Try.prog .shr 5 3 (.int .u8 x_2) (.int .i64 x5)).bind fun v_3 => (asI .u8 v_3).bind fun x_4 => (appendP Try.prog #[61, 61] (.slice Ax3 lx3 cx3) (.slice (some ⟨2 * M.nb.size, 0, none⟩) 1 1) (M.new (.cells #[.int .i64 ((IntKind.i64.wrap (x_4)).tmod 2)] 3))).bind fun r_5 => (asS r_5.1).bind fun s_6 => K #[.slice Ax0 lx0 cx0,g1,g2,.slice s_6.1 (s_6.2.1) (s_6.2.2),.int .i64 x4,.int .i64 x5,g6,g7,g8,g9,g10,g11,g12,g13,g14,g15,g16,g17,g18,g19,.slice Ax3 lx3 cx3,.slice Ax0 lx0 cx0,.int .i64 x4,.pointer (some a_1),.int .u8 x_2,.int .i64 x5,.int .u8 x_4,.int .i64 (IntKind.i64.wrap (x_4)),.int .i64 ((IntKind.i64.wrap (x_4)).tmod 2),.slice (some ⟨2 * M.nb.size, 0, none⟩) 1 1,.slice s_6.1 (s_6.2.1) (s_6.2.2),g31] r_5.2 := by kernel_rfl
theorem k48_33 : P48 [1,1,0,1,0,0,1,0,0,1,0,0,1,1] = .region 7 (O48 [1,1,0,1,0,0,1,0,0,1,0,0,1,1]) false := by kernel_rfl
theorem r48_7 {x5 : Int} {M : Mem} {call : CallM} {K : Array Value → Mem → R} :
    opsK Try.prog (fun _ => call) (O48 [1,1,0,1,0,0,1,0,0,1,0,0,1,1]) (O48 [1,1,0,1,0,0,1,0,0,1,0,0,1,1]).toList 0 #[g0,g1,g2,g3,g4,.int .i64 x5,g6,g7,g8,g9,g10,g11,g12,g13,g14,g15,g16,g17,g18,g19,g20,g21,g22,g23,g24,g25,g26,g27,g28,g29,g30,g31] M K = K #[g0,g1,g2,g3,g4,.int .i64 (IntKind.i64.wrap (x5 - 1)),g6,g7,g8,g9,g10,g11,g12,g13,g14,g15,g16,g17,.int .i64 x5,.int .i64 (IntKind.i64.wrap (x5 - 1)),g20,g21,g22,g23,g24,g25,g26,g27,g28,g29,g30,g31] M := by kernel_rfl
theorem k48_34 : P48 [1,1,0,1,0,0,1,0,0,1,0,0,0,1,1] = .exit 2 := by kernel_rfl
theorem k48_35 : P48 [1,1,0,1,0,0,1,1] = .region 4 (O48 [1,1,0,1,0,0,1,1]) false := by kernel_rfl
theorem r48_4 {x4 : Int} {M : Mem} {call : CallM} {K : Array Value → Mem → R} :
    opsK Try.prog (fun _ => call) (O48 [1,1,0,1,0,0,1,1]) (O48 [1,1,0,1,0,0,1,1]).toList 0 #[g0,g1,g2,g3,.int .i64 x4,g5,g6,g7,g8,g9,g10,g11,g12,g13,g14,g15,g16,g17,g18,g19,g20,g21,g22,g23,g24,g25,g26,g27,g28,g29,g30,g31] M K = K #[g0,g1,g2,g3,.int .i64 (IntKind.i64.wrap (x4 + 1)),g5,g6,g7,g8,g9,g10,g11,g12,g13,.int .i64 x4,.int .i64 (IntKind.i64.wrap (x4 + 1)),g16,g17,g18,g19,g20,g21,g22,g23,g24,g25,g26,g27,g28,g29,g30,g31] M := by kernel_rfl
noncomputable def S48_1 : List Item := [.code (P48 [1,1,0,1,0,0]), .inLoop (P48 [1,1,0,1,0,0]), .inBlock 0, .code (P48 [1,1,1])]
def A48_1 (Ax0 : Option Addr) (lx0 cx0 : Nat) (Ax3 : Option Addr) (lx3 cx3 : Nat) (x4 : Int) (M : Mem) (Q : Value → Mem → Prop) : Prop := ∀ (g1 g2 g5 g6 g7 g8 g9 g10 g11 g12 g13 g14 g15 g16 g17 g18 g19 g20 g21 g22 g23 g24 g25 g26 g27 g28 g29 g30 g31 : Value), Rn Try.prog Try.f48 S48_1 #[.slice Ax0 lx0 cx0, g1, g2, .slice Ax3 lx3 cx3, .int .i64 x4, g5, g6, g7, g8, g9, g10, g11, g12, g13, g14, g15, g16, g17, g18, g19, g20, g21, g22, g23, g24, g25, g26, g27, g28, g29, g30, g31] M Q
noncomputable def S48_2 : List Item := [.code (P48 [1,1,0,1,0,0,1,0,0,1,0,0]), .inLoop (P48 [1,1,0,1,0,0,1,0,0,1,0,0]), .inBlock 2, .inBlock 1, .code (P48 [1,1,0,1,0,0,1,1]), .inLoop (P48 [1,1,0,1,0,0]), .inBlock 0, .code (P48 [1,1,1])]
def A48_2 (Ax0 : Option Addr) (lx0 cx0 : Nat) (Ax3 : Option Addr) (lx3 cx3 : Nat) (x4 x5 : Int) (M : Mem) (Q : Value → Mem → Prop) : Prop := ∀ (g1 g2 g6 g7 g8 g9 g10 g11 g12 g13 g14 g15 g16 g17 g18 g19 g20 g21 g22 g23 g24 g25 g26 g27 g28 g29 g30 g31 : Value), Rn Try.prog Try.f48 S48_2 #[.slice Ax0 lx0 cx0, g1, g2, .slice Ax3 lx3 cx3, .int .i64 x4, .int .i64 x5, g6, g7, g8, g9, g10, g11, g12, g13, g14, g15, g16, g17, g18, g19, g20, g21, g22, g23, g24, g25, g26, g27, g28, g29, g30, g31] M Q
theorem w48_0 {Ax0 : Option Addr} {lx0 cx0 : Nat} {M : Mem} {Q : Value → Mem → Prop} (H :
    ∃ r1', makeP Try.prog 61 (.int .i64 0) (.int .i64 (IntKind.i64.wrap (8 * ((lx0 : Int))))) M = some r1' ∧
    ∃ s2', asS r1'.1 = some s2' ∧
    A48_1 Ax0 lx0 cx0 s2'.1 s2'.2.1 s2'.2.2 0 r1'.2 Q) :
    Cn Try.prog 48 #[.slice Ax0 lx0 cx0] M Q := by
  refine Cn.of b48 d48 t48 ?_
  refine Rn.seq k48_0 (Rn.region k48_1 (fun call K => r48_0) (Rch.leaf (Rn.seq k48_2 (Rn.region k48_3 (fun call K => r48_1) (Rch.ex H fun r1' H => Rch.ex H fun s2' H => Rch.leaf (Rn.seq k48_4 (Rn.seq k48_5 (Rn.region k48_6 (fun call K => r48_2) (Rch.leaf ?_)))))))))
  refine Rn.block k48_7 (Rn.loop k48_8 ?_)
  exact H _ _ _ _ _ _ _ _ _ _ _ _ _ _ _ _ _ _ _ _ _ _ _ _ _ _ _ _ _

theorem w48_1 {Ax0 : Option Addr} {lx0 cx0 : Nat} {Ax3 : Option Addr} {lx3 cx3 : Nat} {x4 : Int} {M : Mem} {Q : Value → Mem → Prop} (H :
    ((x4 < ((lx0 : Int)) →
     A48_2 Ax0 lx0 cx0 Ax3 lx3 cx3 x4 7 M Q) ∧
     (¬ (x4 < ((lx0 : Int))) →
     Q (.slice Ax3 lx3 cx3) M))) :
    A48_1 Ax0 lx0 cx0 Ax3 lx3 cx3 x4 M Q := by
  intro g1 g2 g5 g6 g7 g8 g9 g10 g11 g12 g13 g14 g15 g16 g17 g18 g19 g20 g21 g22 g23 g24 g25 g26 g27 g28 g29 g30 g31
  refine Rn.seq k48_9 (Rn.seq k48_10 (Rn.region k48_11 (fun call K => r48_3) (Rch.leaf ?_)))
  refine Rn.cnd (v := decide (x4 < ((lx0 : Int)))) ⟨c48_12, rfl, by kernel_rfl⟩ (fun h => ?_) (fun h => ?_)
  · replace H := H.1 (of_decide_eq_true h)
    refine Rn.skip k48_13 (Rn.seq k48_14 (Rn.block k48_15 (Rn.seq k48_16 (Rn.region k48_17 (fun call K => r48_5) (Rch.leaf (Rn.block k48_18 (Rn.loop k48_19 ?_)))))))
    exact H _ _ _ _ _ _ _ _ _ _ _ _ _ _ _ _ _ _ _ _ _ _ _ _ _ _ _ _
  · replace H := H.2 (of_decide_eq_false h)
    refine Rn.exit k48_20 rfl (Rn.seq k48_21 (Rn.region k48_22 (fun call K => r48_9) (Rch.leaf ?_)))
    exact Rn.ret k48_23 e48 H

theorem w48_2 {Ax0 : Option Addr} {lx0 cx0 : Nat} {Ax3 : Option Addr} {lx3 cx3 : Nat} {x4 x5 : Int} {M : Mem} {Q : Value → Mem → Prop} (H :
    ((x5 ≥ 0 →
     ∃ a3', idxA Ax0 lx0 1 x4 = some a3' ∧
     ∃ x4', M.intAt .u8 a3'.block a3'.off = some x4' ∧
     ∃ v5', binV Try.prog .shr 5 3 (.int .u8 x4') (.int .i64 x5) = some v5' ∧
     ∃ x6', asI .u8 v5' = some x6' ∧
     ∃ r7', appendP Try.prog #[61, 61] (.slice Ax3 lx3 cx3) (.slice (some ⟨2 * M.nb.size, 0, none⟩) 1 1) (M.new (.cells #[.int .i64 ((IntKind.i64.wrap (x6')).tmod 2)] 3)) = some r7' ∧
     ∃ s8', asS r7'.1 = some s8' ∧
     A48_2 Ax0 lx0 cx0 s8'.1 s8'.2.1 s8'.2.2 x4 (IntKind.i64.wrap (x5 - 1)) r7'.2 Q) ∧
     (¬ (x5 ≥ 0) →
     A48_1 Ax0 lx0 cx0 Ax3 lx3 cx3 (IntKind.i64.wrap (x4 + 1)) M Q))) :
    A48_2 Ax0 lx0 cx0 Ax3 lx3 cx3 x4 x5 M Q := by
  intro g1 g2 g6 g7 g8 g9 g10 g11 g12 g13 g14 g15 g16 g17 g18 g19 g20 g21 g22 g23 g24 g25 g26 g27 g28 g29 g30 g31
  refine Rn.seq k48_25 (Rn.seq k48_26 (Rn.region k48_27 (fun call K => r48_6) (Rch.leaf ?_)))
  refine Rn.cnd (v := decide (x5 ≥ 0)) ⟨c48_28, rfl, by kernel_rfl⟩ (fun h => ?_) (fun h => ?_)
  · replace H := H.1 (of_decide_eq_true h)
    refine Rn.skip k48_29 (Rn.seq k48_30 (Rn.block k48_31 (Rn.region k48_32 (fun call K => r48_8) (Rch.ex H fun a3' H => Rch.ex H fun x4' H => Rch.ex H fun v5' H => Rch.ex H fun x6' H => Rch.ex H fun r7' H => Rch.ex H fun s8' H => Rch.leaf (Rn.blk ?_)))))
    refine Rn.region k48_33 (fun call K => r48_7) (Rch.leaf (Rn.lp ?_))
    exact H _ _ _ _ _ _ _ _ _ _ _ _ _ _ _ _ _ _ _ _ _ _ _ _ _ _ _ _
  · replace H := H.2 (of_decide_eq_false h)
    refine Rn.exit k48_34 rfl (Rn.blk (Rn.region k48_35 (fun call K => r48_4) (Rch.leaf (Rn.lp ?_))))
    exact H _ _ _ _ _ _ _ _ _ _ _ _ _ _ _ _ _ _ _ _ _ _ _ _ _ _ _ _ _


/-! ### zoetrope/zoetroperef01.gather: function 45 -/
noncomputable abbrev P45 (p : List Nat) : Code := subC (codeOf Try.f45) p
noncomputable abbrev O45 (p : List Nat) : Array Oper := opsOf (subC (codeOf Try.f45) p)
theorem b45 : Try.prog.funcs[45]? = some Try.f45 ∧ (Orc.tab Try.prog).lookup 45 = none := ⟨by kernel_rfl, by kernel_rfl⟩
theorem d45 : Try.f45.body = some (P45 []) := by kernel_rfl
theorem t45 {Ax0 : Option Addr} {lx0 cx0 : Nat} : #[.slice Ax0 lx0 cx0] ++ Array.replicate (Try.f45.ntmps - (#[.slice Ax0 lx0 cx0] : Array Value).size) undef = #[.slice Ax0 lx0 cx0,undef,undef,undef,undef,undef,undef,undef,undef,undef,undef,undef,undef,undef,undef,undef,undef,undef,undef,undef,undef,undef,undef,undef,undef,undef,undef,undef,undef,undef,undef,undef,undef,undef,undef,undef,undef,undef,undef] := by kernel_rfl
theorem k45_0 : P45 [] = .seq (P45 [0]) (P45 [1]) := by kernel_rfl
theorem k45_1 : P45 [0] = .region 0 (O45 [0]) false := by kernel_rfl
theorem r45_0 {M : Mem} {call : CallM} {K : Array Value → Mem → R} :
    opsK Try.prog (fun _ => call) (O45 [0]) (O45 [0]).toList 0 #[g0,g1,g2,g3,g4,g5,g6,g7,g8,g9,g10,g11,g12,g13,g14,g15,g16,g17,g18,g19,g20,g21,g22,g23,g24,g25,g26,g27,g28,g29,g30,g31,g32,g33,g34,g35,g36,g37,g38] M K = K #[g0,g1,.slice none 0 0,g3,g4,g5,g6,g7,g8,g9,g10,g11,g12,g13,g14,g15,g16,g17,g18,g19,g20,g21,g22,g23,g24,g25,g26,g27,g28,g29,g30,g31,g32,g33,g34,g35,g36,g37,g38] M := by kernel_rfl
theorem k45_2 : P45 [1] = .seq (P45 [1,0]) (P45 [1,1]) := by kernel_rfl
theorem k45_3 : P45 [1,0] = .region 1 (O45 [1,0]) false := by kernel_rfl
theorem r45_1 {M : Mem} {call : CallM} {K : Array Value → Mem → R} :
    opsK Try.prog (fun _ => call) (O45 [1,0]) (O45 [1,0]).toList 0 #[g0,g1,g2,g3,g4,g5,g6,g7,g8,g9,g10,g11,g12,g13,g14,g15,g16,g17,g18,g19,g20,g21,g22,g23,g24,g25,g26,g27,g28,g29,g30,g31,g32,g33,g34,g35,g36,g37,g38] M K = K #[g0,g1,g2,.slice none 0 0,g4,g5,g6,g7,g8,g9,g10,g11,g12,g13,g14,g15,g16,g17,g18,g19,g20,g21,g22,g23,g24,g25,g26,g27,g28,g29,g30,g31,g32,g33,g34,g35,g36,g37,g38] M := by kernel_rfl
theorem k45_4 : P45 [1,1] = .seq (P45 [1,1,0]) (P45 [1,1,1]) := by kernel_rfl
theorem k45_5 : P45 [1,1,0] = .seq (P45 [1,1,0,0]) (P45 [1,1,0,1]) := by kernel_rfl
theorem k45_6 : P45 [1,1,0,0] = .region 2 (O45 [1,1,0,0]) false := by kernel_rfl
theorem r45_2 {M : Mem} {call : CallM} {K : Array Value → Mem → R} :
    opsK Try.prog (fun _ => call) (O45 [1,1,0,0]) (O45 [1,1,0,0]).toList 0 #[g0,g1,g2,g3,g4,g5,g6,g7,g8,g9,g10,g11,g12,g13,g14,g15,g16,g17,g18,g19,g20,g21,g22,g23,g24,g25,g26,g27,g28,g29,g30,g31,g32,g33,g34,g35,g36,g37,g38] M K = K #[g0,g1,g2,g3,.int .i64 0,g5,g6,g7,g8,g9,g10,g11,g12,g13,g14,g15,g16,g17,g18,g19,g20,g21,g22,g23,g24,g25,g26,g27,g28,g29,g30,g31,g32,g33,g34,g35,g36,g37,g38] M := by kernel_rfl
theorem k45_7 : P45 [1,1,0,1] = .block 0 (P45 [1,1,0,1,0]) := by kernel_rfl
theorem k45_8 : P45 [1,1,0,1,0] = .loop (P45 [1,1,0,1,0,0]) := by kernel_rfl
theorem k45_9 : P45 [1,1,0,1,0,0] = .seq (P45 [1,1,0,1,0,0,0]) (P45 [1,1,0,1,0,0,1]) := by kernel_rfl
theorem k45_10 : P45 [1,1,0,1,0,0,0] = .seq (P45 [1,1,0,1,0,0,0,0]) (P45 [1,1,0,1,0,0,0,1]) := by kernel_rfl
theorem k45_11 : P45 [1,1,0,1,0,0,0,0] = .region 3 (O45 [1,1,0,1,0,0,0,0]) false := by kernel_rfl
theorem r45_3 {Ax0 : Option Addr} {lx0 cx0 : Nat} {x4 : Int} {M : Mem} {call : CallM} {K : Array Value → Mem → R} :
    opsK Try.prog (fun _ => call) (O45 [1,1,0,1,0,0,0,0]) (O45 [1,1,0,1,0,0,0,0]).toList 0 #[.slice Ax0 lx0 cx0,g1,g2,g3,.int .i64 x4,g5,g6,g7,g8,g9,g10,g11,g12,g13,g14,g15,g16,g17,g18,g19,g20,g21,g22,g23,g24,g25,g26,g27,g28,g29,g30,g31,g32,g33,g34,g35,g36,g37,g38] M K = K #[.slice Ax0 lx0 cx0,g1,g2,g3,.int .i64 x4,g5,g6,.int .i64 x4,.slice Ax0 lx0 cx0,.int .i64 ((lx0 : Int)),.bool (decide (x4 < ((lx0 : Int)))),g11,g12,g13,g14,g15,g16,g17,g18,g19,g20,g21,g22,g23,g24,g25,g26,g27,g28,g29,g30,g31,g32,g33,g34,g35,g36,g37,g38] M := by kernel_rfl
theorem c45_12 : P45 [1,1,0,1,0,0,0,1] = .cond (.tmp 10) (P45 [1,1,0,1,0,0,0,1,0]) (P45 [1,1,0,1,0,0,0,1,1]) := by kernel_rfl
theorem k45_13 : P45 [1,1,0,1,0,0,0,1,0] = .skip := by kernel_rfl
theorem k45_14 : P45 [1,1,0,1,0,0,1] = .seq (P45 [1,1,0,1,0,0,1,0]) (P45 [1,1,0,1,0,0,1,1]) := by kernel_rfl
theorem k45_15 : P45 [1,1,0,1,0,0,1,0] = .block 1 (P45 [1,1,0,1,0,0,1,0,0]) := by kernel_rfl
theorem k45_16 : P45 [1,1,0,1,0,0,1,0,0] = .seq (P45 [1,1,0,1,0,0,1,0,0,0]) (P45 [1,1,0,1,0,0,1,0,0,1]) := by kernel_rfl
theorem k45_17 : P45 [1,1,0,1,0,0,1,0,0,0] = .region 5 (O45 [1,1,0,1,0,0,1,0,0,0]) false := by kernel_rfl
theorem r45_5 {M : Mem} {call : CallM} {K : Array Value → Mem → R} :
    opsK Try.prog (fun _ => call) (O45 [1,1,0,1,0,0,1,0,0,0]) (O45 [1,1,0,1,0,0,1,0,0,0]).toList 0 #[g0,g1,g2,g3,g4,g5,g6,g7,g8,g9,g10,g11,g12,g13,g14,g15,g16,g17,g18,g19,g20,g21,g22,g23,g24,g25,g26,g27,g28,g29,g30,g31,g32,g33,g34,g35,g36,g37,g38] M K = K #[g0,g1,g2,g3,g4,.int .i64 0,g6,g7,g8,g9,g10,g11,g12,g13,g14,g15,g16,g17,g18,g19,g20,g21,g22,g23,g24,g25,g26,g27,g28,g29,g30,g31,g32,g33,g34,g35,g36,g37,g38] M := by kernel_rfl
theorem k45_18 : P45 [1,1,0,1,0,0,1,0,0,1] = .seq (P45 [1,1,0,1,0,0,1,0,0,1,0]) (P45 [1,1,0,1,0,0,1,0,0,1,1]) := by kernel_rfl
theorem k45_19 : P45 [1,1,0,1,0,0,1,0,0,1,0] = .seq (P45 [1,1,0,1,0,0,1,0,0,1,0,0]) (P45 [1,1,0,1,0,0,1,0,0,1,0,1]) := by kernel_rfl
theorem k45_20 : P45 [1,1,0,1,0,0,1,0,0,1,0,0] = .region 6 (O45 [1,1,0,1,0,0,1,0,0,1,0,0]) false := by kernel_rfl
theorem r45_6 {M : Mem} {call : CallM} {K : Array Value → Mem → R} :
    opsK Try.prog (fun _ => call) (O45 [1,1,0,1,0,0,1,0,0,1,0,0]) (O45 [1,1,0,1,0,0,1,0,0,1,0,0]).toList 0 #[g0,g1,g2,g3,g4,g5,g6,g7,g8,g9,g10,g11,g12,g13,g14,g15,g16,g17,g18,g19,g20,g21,g22,g23,g24,g25,g26,g27,g28,g29,g30,g31,g32,g33,g34,g35,g36,g37,g38] M K = K #[g0,g1,g2,g3,g4,g5,.int .i64 0,g7,g8,g9,g10,g11,g12,g13,g14,g15,g16,g17,g18,g19,g20,g21,g22,g23,g24,g25,g26,g27,g28,g29,g30,g31,g32,g33,g34,g35,g36,g37,g38] M := by kernel_rfl
theorem k45_21 : P45 [1,1,0,1,0,0,1,0,0,1,0,1] = .block 2 (P45 [1,1,0,1,0,0,1,0,0,1,0,1,0]) := by kernel_rfl
theorem k45_22 : P45 [1,1,0,1,0,0,1,0,0,1,0,1,0] = .loop (P45 [1,1,0,1,0,0,1,0,0,1,0,1,0,0]) := by kernel_rfl
theorem k45_23 : P45 [1,1,0,1,0,0,0,1,1] = .exit 0 := by kernel_rfl
theorem k45_24 : P45 [1,1,1] = .seq (P45 [1,1,1,0]) (P45 [1,1,1,1]) := by kernel_rfl
theorem k45_25 : P45 [1,1,1,0] = .region 13 (O45 [1,1,1,0]) false := by kernel_rfl
theorem r45_13 {Ax3 : Option Addr} {lx3 cx3 : Nat} {M : Mem} {call : CallM} {K : Array Value → Mem → R} :
    opsK Try.prog (fun _ => call) (O45 [1,1,1,0]) (O45 [1,1,1,0]).toList 0 #[g0,g1,g2,.slice Ax3 lx3 cx3,g4,g5,g6,g7,g8,g9,g10,g11,g12,g13,g14,g15,g16,g17,g18,g19,g20,g21,g22,g23,g24,g25,g26,g27,g28,g29,g30,g31,g32,g33,g34,g35,g36,g37,g38] M K = K #[g0,g1,.slice Ax3 lx3 cx3,.slice Ax3 lx3 cx3,g4,g5,g6,g7,g8,g9,g10,g11,g12,g13,g14,g15,g16,g17,g18,g19,g20,g21,g22,g23,g24,g25,g26,g27,g28,g29,g30,g31,g32,g33,g34,g35,g36,g37,.slice Ax3 lx3 cx3] M := by kernel_rfl
theorem k45_26 : P45 [1,1,1,1] = .ret := by kernel_rfl
theorem e45 {M : Mem} : finish Try.prog Try.f45 #[g0,g1,g2,g3,g4,g5,g6,g7,g8,g9,g10,g11,g12,g13,g14,g15,g16,g17,g18,g19,g20,g21,g22,g23,g24,g25,g26,g27,g28,g29,g30,g31,g32,g33,g34,g35,g36,g37,g38] M = some (g2, M) := by kernel_rfl
theorem k45_28 : P45 [1,1,0,1,0,0,1,0,0,1,0,1,0,0] = .seq (P45 [1,1,0,1,0,0,1,0,0,1,0,1,0,0,0]) (P45 [1,1,0,1,0,0,1,0,0,1,0,1,0,0,1]) := by kernel_rfl
theorem k45_29 : P45 [1,1,0,1,0,0,1,0,0,1,0,1,0,0,0] = .seq (P45 [1,1,0,1,0,0,1,0,0,1,0,1,0,0,0,0]) (P45 [1,1,0,1,0,0,1,0,0,1,0,1,0,0,0,1]) := by kernel_rfl
theorem k45_30 : P45 [1,1,0,1,0,0,1,0,0,1,0,1,0,0,0,0] = .region 7 (O45 [1,1,0,1,0,0,1,0,0,1,0,1,0,0,0,0]) false := by kernel_rfl
theorem r45_7 {x6 : Int} {M : Mem} {call : CallM} {K : Array Value → Mem → R} :
    opsK Try.prog (fun _ => call) (O45 [1,1,0,1,0,0,1,0,0,1,0,1,0,0,0,0]) (O45 [1,1,0,1,0,0,1,0,0,1,0,1,0,0,0,0]).toList 0 #[g0,g1,g2,g3,g4,g5,.int .i64 x6,g7,g8,g9,g10,g11,g12,g13,g14,g15,g16,g17,g18,g19,g20,g21,g22,g23,g24,g25,g26,g27,g28,g29,g30,g31,g32,g33,g34,g35,g36,g37,g38] M K = K #[g0,g1,g2,g3,g4,g5,.int .i64 x6,g7,g8,g9,g10,g11,g12,.int .i64 x6,.bool (decide (x6 < 8)),g15,g16,g17,g18,g19,g20,g21,g22,g23,g24,g25,g26,g27,g28,g29,g30,g31,g32,g33,g34,g35,g36,g37,g38] M := by kernel_rfl
theorem c45_31 : P45 [1,1,0,1,0,0,1,0,0,1,0,1,0,0,0,1] = .cond (.tmp 14) (P45 [1,1,0,1,0,0,1,0,0,1,0,1,0,0,0,1,0]) (P45 [1,1,0,1,0,0,1,0,0,1,0,1,0,0,0,1,1]) := by kernel_rfl
theorem k45_32 : P45 [1,1,0,1,0,0,1,0,0,1,0,1,0,0,0,1,0] = .skip := by kernel_rfl
theorem k45_33 : P45 [1,1,0,1,0,0,1,0,0,1,0,1,0,0,1] = .seq (P45 [1,1,0,1,0,0,1,0,0,1,0,1,0,0,1,0]) (P45 [1,1,0,1,0,0,1,0,0,1,0,1,0,0,1,1]) := by kernel_rfl
theorem k45_34 : P45 [1,1,0,1,0,0,1,0,0,1,0,1,0,0,1,0] = .block 3 (P45 [1,1,0,1,0,0,1,0,0,1,0,1,0,0,1,0,0]) := by kernel_rfl
theorem k45_35 : P45 [1,1,0,1,0,0,1,0,0,1,0,1,0,0,1,0,0] = .seq (P45 [1,1,0,1,0,0,1,0,0,1,0,1,0,0,1,0,0,0]) (P45 [1,1,0,1,0,0,1,0,0,1,0,1,0,0,1,0,0,1]) := by kernel_rfl
theorem k45_36 : P45 [1,1,0,1,0,0,1,0,0,1,0,1,0,0,1,0,0,0] = .region 9 (O45 [1,1,0,1,0,0,1,0,0,1,0,1,0,0,1,0,0,0]) false := by kernel_rfl
theorem r45_9 {x5 : Int} {M : Mem} {call : CallM} {K : Array Value → Mem → R} :
    opsK Try.prog (fun _ => call) (O45 [1,1,0,1,0,0,1,0,0,1,0,1,0,0,1,0,0,0]) (O45 [1,1,0,1,0,0,1,0,0,1,0,1,0,0,1,0,0,0]).toList 0 #[g0,g1,g2,g3,g4,.int .i64 x5,g6,g7,g8,g9,g10,g11,g12,g13,g14,g15,g16,g17,g18,g19,g20,g21,g22,g23,g24,g25,g26,g27,g28,g29,g30,g31,g32,g33,g34,g35,g36,g37,g38] M K = K #[g0,g1,g2,g3,g4,.int .i64 (IntKind.i64.wrap (x5 * 2)),g6,g7,g8,g9,g10,g11,g12,g13,g14,g15,g16,.int .i64 x5,.int .i64 (IntKind.i64.wrap (x5 * 2)),g19,g20,g21,g22,g23,g24,g25,g26,g27,g28,g29,g30,g31,g32,g33,g34,g35,g36,g37,g38] M := by kernel_rfl
theorem k45_37 : P45 [1,1,0,1,0,0,1,0,0,1,0,1,0,0,1,0,0,1] = .seq (P45 [1,1,0,1,0,0,1,0,0,1,0,1,0,0,1,0,0,1,0]) (P45 [1,1,0,1,0,0,1,0,0,1,0,1,0,0,1,0,0,1,1]) := by kernel_rfl
theorem k45_38 : P45 [1,1,0,1,0,0,1,0,0,1,0,1,0,0,1,0,0,1,0] = .region 10 (O45 [1,1,0,1,0,0,1,0,0,1,0,1,0,0,1,0,0,1,0]) false := by kernel_rfl
theorem r45_10 {Ax0 : Option Addr} {lx0 cx0 : Nat} {x4 x6 : Int} {M : Mem} {call : CallM} {K : Array Value → Mem → R} :
    opsK Try.prog (fun _ => call) (O45 [1,1,0,1,0,0,1,0,0,1,0,1,0,0,1,0,0,1,0]) (O45 [1,1,0,1,0,0,1,0,0,1,0,1,0,0,1,0,0,1,0]).toList 0 #[.slice Ax0 lx0 cx0,g1,g2,g3,.int .i64 x4,g5,.int .i64 x6,g7,g8,g9,g10,g11,g12,g13,g14,g15,g16,g17,g18,g19,g20,g21,g22,g23,g24,g25,g26,g27,g28,g29,g30,g31,g32,g33,g34,g35,g36,g37,g38] M K = K #[.slice Ax0 lx0 cx0,g1,g2,g3,.int .i64 x4,g5,.int .i64 x6,g7,g8,g9,g10,g11,g12,g13,g14,g15,g16,g17,g18,.int .i64 x4,.int .i64 x6,.int .i64 (IntKind.i64.wrap (x4 + x6)),.slice Ax0 lx0 cx0,.int .i64 ((lx0 : Int)),.bool (decide ((IntKind.i64.wrap (x4 + x6)) < ((lx0 : Int)))),g25,g26,g27,g28,g29,g30,g31,g32,g33,g34,g35,g36,g37,g38] M := by kernel_rfl
theorem c45_39 : P45 [1,1,0,1,0,0,1,0,0,1,0,1,0,0,1,0,0,1,1] = .cond (.tmp 24) (P45 [1,1,0,1,0,0,1,0,0,1,0,1,0,0,1,0,0,1,1,0]) (P45 [1,1,0,1,0,0,1,0,0,1,0,1,0,0,1,0,0,1,1,1]) := by kernel_rfl
theorem k45_40 : P45 [1,1,0,1,0,0,1,0,0,1,0,1,0,0,1,0,0,1,1,0] = .region 11 (O45 [1,1,0,1,0,0,1,0,0,1,0,1,0,0,1,0,0,1,1,0]) false := by kernel_rfl
theorem r45_11 {Ax0 : Option Addr} {lx0 cx0 : Nat} {x4 x5 x6 : Int} {M : Mem} {call : CallM} {K : Array Value → Mem → R} :
    opsK Try.prog (fun _ => call) (O45 [1,1,0,1,0,0,1,0,0,1,0,1,0,0,1,0,0,1,1,0]) (O45 [1,1,0,1,0,0,1,0,0,1,0,1,0,0,1,0,0,1,1,0]).toList 0 #[.slice Ax0 lx0 cx0,g1,g2,g3,.int .i64 x4,.int .i64 x5,.int .i64 x6,g7,g8,g9,g10,g11,g12,g13,g14,g15,g16,g17,g18,g19,g20,g21,g22,g23,g24,g25,g26,g27,g28,g29,g30,g31,g32,g33,g34,g35,g36,g37,g38] M K = (idxA Ax0 lx0 1 (IntKind.i64.wrap (x4 + x6))).bind fun a_1 => (M.intAt .i64 a_1.block a_1.off).bind fun x_2 => K #[.slice Ax0 lx0 cx0,g1,g2,g3,.int .i64 x4,.int .i64 (IntKind.i64.wrap (x5 + x_2)),.int .i64 x6,g7,g8,g9,g10,g11,g12,g13,g14,g15,g16,g17,g18,g19,g20,g21,g22,g23,g24,.int .i64 x5,.slice Ax0 lx0 cx0,.int .i64 x4,.int .i64 x6,.int .i64 (IntKind.i64.wrap (x4 + x6)),.pointer (some a_1),.int .i64 x_2,.int .i64 (IntKind.i64.wrap (x5 + x_2)),g33,g34,g35,g36,g37,g38] M := by kernel_rfl
theorem k45_41 : P45 [1,1,0,1,0,0,1,0,0,1,0,1,0,0,1,0,0,1,1,1] = .skip := by kernel_rfl
theorem k45_42 : P45 [1,1,0,1,0,0,1,0,0,1,0,1,0,0,0,1,1] = .exit 2 := by kernel_rfl
theorem k45_43 : P45 [1,1,0,1,0,0,1,0,0,1,1] = .region 12 (O45 [1,1,0,1,0,0,1,0,0,1,1]) false := by kernel_rfl
theorem r45_12 {Ax3 : Option Addr} {lx3 cx3 : Nat} {x5 : Int} {M : Mem} {call : CallM} {K : Array Value → Mem → R} :
    opsK Try.prog (fun _ => call) (O45 [1,1,0,1,0,0,1,0,0,1,1]) (O45 [1,1,0,1,0,0,1,0,0,1,1]).toList 0 #[g0,g1,g2,.slice Ax3 lx3 cx3,g4,.int .i64 x5,g6,g7,g8,g9,g10,g11,g12,g13,g14,g15,g16,g17,g18,g19,g20,g21,g22,g23,g24,g25,g26,g27,g28,g29,g30,g31,g32,g33,g34,g35,g36,g37,g38] M K = (appendP Try.prog #[37, 37] (.slice Ax3 lx3 cx3) (.slice (some ⟨2 * M.nb.size, 0, none⟩) 1 1) (M.new (.cells #[.int .u8 (IntKind.u8.wrap (x5))] 5))).bind fun r_1 => (asS r_1.1).bind fun s_2 => K #[g0,g1,g2,.slice s_2.1 (s_2.2.1) (s_2.2.2),g4,.int .i64 x5,g6,g7,g8,g9,g10,g11,g12,g13,g14,g15,g16,g17,g18,g19,g20,g21,g22,g23,g24,g25,g26,g27,g28,g29,g30,g31,g32,.slice Ax3 lx3 cx3,.int .i64 x5,.int .u8 (IntKind.u8.wrap (x5)),.slice (some ⟨2 * M.nb.size, 0, none⟩) 1 1,.slice s_2.1 (s_2.2.1) (s_2.2.2),g38] r_1.2 := by kernel_rfl
theorem k45_44 : P45 [1,1,0,1,0,0,1,1] = .region 4 (O45 [1,1,0,1,0,0,1,1]) false := by kernel_rfl
theorem r45_4 {x4 : Int} {M : Mem} {call : CallM} {K : Array Value → Mem → R} :
    opsK Try.prog (fun _ => call) (O45 [1,1,0,1,0,0,1,1]) (O45 [1,1,0,1,0,0,1,1]).toList 0 #[g0,g1,g2,g3,.int .i64 x4,g5,g6,g7,g8,g9,g10,g11,g12,g13,g14,g15,g16,g17,g18,g19,g20,g21,g22,g23,g24,g25,g26,g27,g28,g29,g30,g31,g32,g33,g34,g35,g36,g37,g38] M K = K #[g0,g1,g2,g3,.int .i64 (IntKind.i64.wrap (x4 + 8)),g5,g6,g7,g8,g9,g10,.int .i64 x4,.int .i64 (IntKind.i64.wrap (x4 + 8)),g13,g14,g15,g16,g17,g18,g19,g20,g21,g22,g23,g24,g25,g26,g27,g28,g29,g30,g31,g32,g33,g34,g35,g36,g37,g38] M := by kernel_rfl
theorem k45_45 : P45 [1,1,0,1,0,0,1,0,0,1,0,1,0,0,1,1] = .region 8 (O45 [1,1,0,1,0,0,1,0,0,1,0,1,0,0,1,1]) false := by kernel_rfl
theorem r45_8 {x6 : Int} {M : Mem} {call : CallM} {K : Array Value → Mem → R} :
    opsK Try.prog (fun _ => call) (O45 [1,1,0,1,0,0,1,0,0,1,0,1,0,0,1,1]) (O45 [1,1,0,1,0,0,1,0,0,1,0,1,0,0,1,1]).toList 0 #[g0,g1,g2,g3,g4,g5,.int .i64 x6,g7,g8,g9,g10,g11,g12,g13,g14,g15,g16,g17,g18,g19,g20,g21,g22,g23,g24,g25,g26,g27,g28,g29,g30,g31,g32,g33,g34,g35,g36,g37,g38] M K = K #[g0,g1,g2,g3,g4,g5,.int .i64 (IntKind.i64.wrap (x6 + 1)),g7,g8,g9,g10,g11,g12,g13,g14,.int .i64 x6,.int .i64 (IntKind.i64.wrap (x6 + 1)),g17,g18,g19,g20,g21,g22,g23,g24,g25,g26,g27,g28,g29,g30,g31,g32,g33,g34,g35,g36,g37,g38] M := by kernel_rfl
noncomputable def S45_1 : List Item := [.code (P45 [1,1,0,1,0,0]), .inLoop (P45 [1,1,0,1,0,0]), .inBlock 0, .code (P45 [1,1,1])]
def A45_1 (Ax0 : Option Addr) (lx0 cx0 : Nat) (Ax3 : Option Addr) (lx3 cx3 : Nat) (x4 : Int) (M : Mem) (Q : Value → Mem → Prop) : Prop := ∀ (g1 g2 g5 g6 g7 g8 g9 g10 g11 g12 g13 g14 g15 g16 g17 g18 g19 g20 g21 g22 g23 g24 g25 g26 g27 g28 g29 g30 g31 g32 g33 g34 g35 g36 g37 g38 : Value), Rn Try.prog Try.f45 S45_1 #[.slice Ax0 lx0 cx0, g1, g2, .slice Ax3 lx3 cx3, .int .i64 x4, g5, g6, g7, g8, g9, g10, g11, g12, g13, g14, g15, g16, g17, g18, g19, g20, g21, g22, g23, g24, g25, g26, g27, g28, g29, g30, g31, g32, g33, g34, g35, g36, g37, g38] M Q
noncomputable def S45_2 : List Item := [.code (P45 [1,1,0,1,0,0,1,0,0,1,0,1,0,0]), .inLoop (P45 [1,1,0,1,0,0,1,0,0,1,0,1,0,0]), .inBlock 2, .code (P45 [1,1,0,1,0,0,1,0,0,1,1]), .inBlock 1, .code (P45 [1,1,0,1,0,0,1,1]), .inLoop (P45 [1,1,0,1,0,0]), .inBlock 0, .code (P45 [1,1,1])]
def A45_2 (Ax0 : Option Addr) (lx0 cx0 : Nat) (Ax3 : Option Addr) (lx3 cx3 : Nat) (x4 x5 x6 : Int) (M : Mem) (Q : Value → Mem → Prop) : Prop := ∀ (g1 g2 g7 g8 g9 g10 g11 g12 g13 g14 g15 g16 g17 g18 g19 g20 g21 g22 g23 g24 g25 g26 g27 g28 g29 g30 g31 g32 g33 g34 g35 g36 g37 g38 : Value), Rn Try.prog Try.f45 S45_2 #[.slice Ax0 lx0 cx0, g1, g2, .slice Ax3 lx3 cx3, .int .i64 x4, .int .i64 x5, .int .i64 x6, g7, g8, g9, g10, g11, g12, g13, g14, g15, g16, g17, g18, g19, g20, g21, g22, g23, g24, g25, g26, g27, g28, g29, g30, g31, g32, g33, g34, g35, g36, g37, g38] M Q
noncomputable def S45_3 : List Item := [.code (P45 [1,1,0,1,0,0,1,0,0,1,0,1,0,0,1,1]), .inLoop (P45 [1,1,0,1,0,0,1,0,0,1,0,1,0,0]), .inBlock 2, .code (P45 [1,1,0,1,0,0,1,0,0,1,1]), .inBlock 1, .code (P45 [1,1,0,1,0,0,1,1]), .inLoop (P45 [1,1,0,1,0,0]), .inBlock 0, .code (P45 [1,1,1])]
def A45_3 (Ax0 : Option Addr) (lx0 cx0 : Nat) (Ax3 : Option Addr) (lx3 cx3 : Nat) (x4 x5 x6 : Int) (M : Mem) (Q : Value → Mem → Prop) : Prop := ∀ (g1 g2 g7 g8 g9 g10 g11 g12 g13 g14 g15 g16 g17 g18 g19 g20 g21 g22 g23 g24 g25 g26 g27 g28 g29 g30 g31 g32 g33 g34 g35 g36 g37 g38 : Value), Rn Try.prog Try.f45 S45_3 #[.slice Ax0 lx0 cx0, g1, g2, .slice Ax3 lx3 cx3, .int .i64 x4, .int .i64 x5, .int .i64 x6, g7, g8, g9, g10, g11, g12, g13, g14, g15, g16, g17, g18, g19, g20, g21, g22, g23, g24, g25, g26, g27, g28, g29, g30, g31, g32, g33, g34, g35, g36, g37, g38] M Q
theorem w45_0 {Ax0 : Option Addr} {lx0 cx0 : Nat} {M : Mem} {Q : Value → Mem → Prop} (H :
    A45_1 Ax0 lx0 cx0 none 0 0 0 M Q) :
    Cn Try.prog 45 #[.slice Ax0 lx0 cx0] M Q := by
  refine Cn.of b45 d45 t45 ?_
  refine Rn.seq k45_0 (Rn.region k45_1 (fun call K => r45_0) (Rch.leaf (Rn.seq k45_2 (Rn.region k45_3 (fun call K => r45_1) (Rch.leaf (Rn.seq k45_4 (Rn.seq k45_5 (Rn.region k45_6 (fun call K => r45_2) (Rch.leaf (Rn.block k45_7 (Rn.loop k45_8 ?_)))))))))))
  exact H _ _ _ _ _ _ _ _ _ _ _ _ _ _ _ _ _ _ _ _ _ _ _ _ _ _ _ _ _ _ _ _ _ _ _ _

theorem w45_1 {Ax0 : Option Addr} {lx0 cx0 : Nat} {Ax3 : Option Addr} {lx3 cx3 : Nat} {x4 : Int} {M : Mem} {Q : Value → Mem → Prop} (H :
    ((x4 < ((lx0 : Int)) →
     A45_2 Ax0 lx0 cx0 Ax3 lx3 cx3 x4 0 0 M Q) ∧
     (¬ (x4 < ((lx0 : Int))) →
     Q (.slice Ax3 lx3 cx3) M))) :
    A45_1 Ax0 lx0 cx0 Ax3 lx3 cx3 x4 M Q := by
  intro g1 g2 g5 g6 g7 g8 g9 g10 g11 g12 g13 g14 g15 g16 g17 g18 g19 g20 g21 g22 g23 g24 g25 g26 g27 g28 g29 g30 g31 g32 g33 g34 g35 g36 g37 g38
  refine Rn.seq k45_9 (Rn.seq k45_10 (Rn.region k45_11 (fun call K => r45_3) (Rch.leaf ?_)))
  refine Rn.cnd (v := decide (x4 < ((lx0 : Int)))) ⟨c45_12, rfl, by kernel_rfl⟩ (fun h => ?_) (fun h => ?_)
  · replace H := H.1 (of_decide_eq_true h)
    refine Rn.skip k45_13 (Rn.seq k45_14 (Rn.block k45_15 (Rn.seq k45_16 (Rn.region k45_17 (fun call K => r45_5) (Rch.leaf (Rn.seq k45_18 (Rn.seq k45_19 (Rn.region k45_20 (fun call K => r45_6) (Rch.leaf (Rn.block k45_21 (Rn.loop k45_22 ?_)))))))))))
    exact H _ _ _ _ _ _ _ _ _ _ _ _ _ _ _ _ _ _ _ _ _ _ _ _ _ _ _ _ _ _ _ _ _ _
  · replace H := H.2 (of_decide_eq_false h)
    refine Rn.exit k45_23 rfl (Rn.seq k45_24 (Rn.region k45_25 (fun call K => r45_13) (Rch.leaf ?_)))
    exact Rn.ret k45_26 e45 H

theorem w45_2 {Ax0 : Option Addr} {lx0 cx0 : Nat} {Ax3 : Option Addr} {lx3 cx3 : Nat} {x4 x5 x6 : Int} {M : Mem} {Q : Value → Mem → Prop} (H :
    ((x6 < 8 →
     (((IntKind.i64.wrap (x4 + x6)) < ((lx0 : Int)) →
      ∃ a1', idxA Ax0 lx0 1 (IntKind.i64.wrap (x4 + x6)) = some a1' ∧
      ∃ x2', M.intAt .i64 a1'.block a1'.off = some x2' ∧
      A45_3 Ax0 lx0 cx0 Ax3 lx3 cx3 x4 (IntKind.i64.wrap ((IntKind.i64.wrap (x5 * 2)) + x2')) x6 M Q) ∧
      (¬ ((IntKind.i64.wrap (x4 + x6)) < ((lx0 : Int))) →
      A45_3 Ax0 lx0 cx0 Ax3 lx3 cx3 x4 (IntKind.i64.wrap (x5 * 2)) x6 M Q))) ∧
     (¬ (x6 < 8) →
     ∃ r3', appendP Try.prog #[37, 37] (.slice Ax3 lx3 cx3) (.slice (some ⟨2 * M.nb.size, 0, none⟩) 1 1) (M.new (.cells #[.int .u8 (IntKind.u8.wrap (x5))] 5)) = some r3' ∧
     ∃ s4', asS r3'.1 = some s4' ∧
     A45_1 Ax0 lx0 cx0 s4'.1 s4'.2.1 s4'.2.2 (IntKind.i64.wrap (x4 + 8)) r3'.2 Q))) :
    A45_2 Ax0 lx0 cx0 Ax3 lx3 cx3 x4 x5 x6 M Q := by
  intro g1 g2 g7 g8 g9 g10 g11 g12 g13 g14 g15 g16 g17 g18 g19 g20 g21 g22 g23 g24 g25 g26 g27 g28 g29 g30 g31 g32 g33 g34 g35 g36 g37 g38
  refine Rn.seq k45_28 (Rn.seq k45_29 (Rn.region k45_30 (fun call K => r45_7) (Rch.leaf ?_)))
  refine Rn.cnd (v := decide (x6 < 8)) ⟨c45_31, rfl, by kernel_rfl⟩ (fun h => ?_) (fun h => ?_)
  · replace H := H.1 (of_decide_eq_true h)
    refine Rn.skip k45_32 (Rn.seq k45_33 (Rn.block k45_34 (Rn.seq k45_35 (Rn.region k45_36 (fun call K => r45_9) (Rch.leaf (Rn.seq k45_37 (Rn.region k45_38 (fun call K => r45_10) (Rch.leaf ?_))))))))
    refine Rn.cnd (v := decide ((IntKind.i64.wrap (x4 + x6)) < ((lx0 : Int)))) ⟨c45_39, rfl, by kernel_rfl⟩ (fun h => ?_) (fun h => ?_)
    · replace H := H.1 (of_decide_eq_true h)
      refine Rn.region k45_40 (fun call K => r45_11) (Rch.ex H fun a1' H => Rch.ex H fun x2' H => Rch.leaf (Rn.blk ?_))
      exact H _ _ _ _ _ _ _ _ _ _ _ _ _ _ _ _ _ _ _ _ _ _ _ _ _ _ _ _ _ _ _ _ _ _
    · replace H := H.2 (of_decide_eq_false h)
      refine Rn.skip k45_41 (Rn.blk ?_)
      exact H _ _ _ _ _ _ _ _ _ _ _ _ _ _ _ _ _ _ _ _ _ _ _ _ _ _ _ _ _ _ _ _ _ _
  · replace H := H.2 (of_decide_eq_false h)
    refine Rn.exit k45_42 rfl (Rn.region k45_43 (fun call K => r45_12) (Rch.ex H fun r3' H => Rch.ex H fun s4' H => Rch.leaf (Rn.blk (Rn.region k45_44 (fun call K => r45_4) (Rch.leaf (Rn.lp ?_))))))
    exact H _ _ _ _ _ _ _ _ _ _ _ _ _ _ _ _ _ _ _ _ _ _ _ _ _ _ _ _ _ _ _ _ _ _ _ _

theorem w45_3 {Ax0 : Option Addr} {lx0 cx0 : Nat} {Ax3 : Option Addr} {lx3 cx3 : Nat} {x4 x5 x6 : Int} {M : Mem} {Q : Value → Mem → Prop} (H :
    A45_2 Ax0 lx0 cx0 Ax3 lx3 cx3 x4 x5 (IntKind.i64.wrap (x6 + 1)) M Q) :
    A45_3 Ax0 lx0 cx0 Ax3 lx3 cx3 x4 x5 x6 M Q := by
  intro g1 g2 g7 g8 g9 g10 g11 g12 g13 g14 g15 g16 g17 g18 g19 g20 g21 g22 g23 g24 g25 g26 g27 g28 g29 g30 g31 g32 g33 g34 g35 g36 g37 g38
  refine Rn.region k45_45 (fun call K => r45_8) (Rch.leaf (Rn.lp ?_))
  exact H _ _ _ _ _ _ _ _ _ _ _ _ _ _ _ _ _ _ _ _ _ _ _ _ _ _ _ _ _ _ _ _ _ _


/-! ### zoetrope/zoetroperef01.New: function 26 -/
noncomputable abbrev P26 (p : List Nat) : Code := subC (codeOf Try.f26) p
noncomputable abbrev O26 (p : List Nat) : Array Oper := opsOf (subC (codeOf Try.f26) p)
theorem b26 : Try.prog.funcs[26]? = some Try.f26 ∧ (Orc.tab Try.prog).lookup 26 = none := ⟨by kernel_rfl, by kernel_rfl⟩
theorem d26 : Try.f26.body = some (P26 []) := by kernel_rfl
theorem t26 {Ax0 : Option Addr} {lx0 cx0 : Nat} : #[.slice Ax0 lx0 cx0] ++ Array.replicate (Try.f26.ntmps - (#[.slice Ax0 lx0 cx0] : Array Value).size) undef = #[.slice Ax0 lx0 cx0,undef,undef,undef,undef,undef,undef] := by kernel_rfl
theorem k26_0 : P26 [] = .seq (P26 [0]) (P26 [1]) := by kernel_rfl
theorem k26_1 : P26 [0] = .region 0 (O26 [0]) false := by kernel_rfl
theorem r26_0 {M : Mem} {call : CallM} {K : Array Value → Mem → R} :
    opsK Try.prog (fun _ => call) (O26 [0]) (O26 [0]).toList 0 #[g0,g1,g2,g3,g4,g5,g6] M K = K #[g0,g1,.pointer none,g3,g4,g5,g6] M := by kernel_rfl
theorem k26_2 : P26 [1] = .seq (P26 [1,0]) (P26 [1,1]) := by kernel_rfl
theorem k26_3 : P26 [1,0] = .region 1 (O26 [1,0]) false := by kernel_rfl
theorem r26_1 {Ax0 : Option Addr} {lx0 cx0 : Nat} {M : Mem} {call : CallM} {K : Array Value → Mem → R} :
    opsK Try.prog (fun _ => call) (O26 [1,0]) (O26 [1,0]).toList 0 #[.slice Ax0 lx0 cx0,g1,g2,g3,g4,g5,g6] M K = (call 48 #[.slice Ax0 lx0 cx0] M).bind fun r_1 => (asS r_1.1).bind fun s_2 => K #[.slice Ax0 lx0 cx0,g1,.pointer (some ⟨2 * r_1.2.nb.size, 0, none⟩),.slice Ax0 lx0 cx0,.slice s_2.1 (s_2.2.1) (s_2.2.2),.agg #[.slice s_2.1 (s_2.2.1) (s_2.2.2), .int .i64 0],.pointer (some ⟨2 * r_1.2.nb.size, 0, none⟩)] (r_1.2.new (.cells #[.slice s_2.1 (s_2.2.1) (s_2.2.2), .int .i64 0] 69)) := by kernel_rfl
theorem k26_4 : P26 [1,1] = .ret := by kernel_rfl
theorem e26 {M : Mem} : finish Try.prog Try.f26 #[g0,g1,g2,g3,g4,g5,g6] M = some (g2, M) := by kernel_rfl
theorem w26_0 {Ax0 : Option Addr} {lx0 cx0 : Nat} {M : Mem} {Q : Value → Mem → Prop} (H :
    Cn Try.prog 48 #[.slice Ax0 lx0 cx0] M fun v1' N1' =>
     ∃ s2', asS v1' = some s2' ∧
     Q (.pointer (some ⟨2 * N1'.nb.size, 0, none⟩)) (N1'.new (.cells #[.slice s2'.1 (s2'.2.1) (s2'.2.2), .int .i64 0] 69))) :
    Cn Try.prog 26 #[.slice Ax0 lx0 cx0] M Q := by
  refine Cn.of b26 d26 t26 ?_
  refine Rn.seq k26_0 (Rn.region k26_1 (fun call K => r26_0) (Rch.leaf (Rn.seq k26_2 (Rn.region k26_3 (fun call K => r26_1) (Rch.call H fun v1' N1' H => Rch.ex H fun s2' H => Rch.leaf ?_)))))
  exact Rn.ret k26_4 e26 H


/-! ### (*zoetrope/zoetroperef01.Reader).Left: function 28 -/
noncomputable abbrev P28 (p : List Nat) : Code := subC (codeOf Try.f28) p
noncomputable abbrev O28 (p : List Nat) : Array Oper := opsOf (subC (codeOf Try.f28) p)
theorem b28 : Try.prog.funcs[28]? = some Try.f28 ∧ (Orc.tab Try.prog).lookup 28 = none := ⟨by kernel_rfl, by kernel_rfl⟩
theorem d28 : Try.f28.body = some (P28 []) := by kernel_rfl
theorem t28 {x0 : Option Addr} : #[.pointer x0] ++ Array.replicate (Try.f28.ntmps - (#[.pointer x0] : Array Value).size) undef = #[.pointer x0,undef,undef,undef,undef,undef,undef,undef,undef,undef,undef,undef,undef] := by kernel_rfl
theorem k28_0 : P28 [] = .seq (P28 [0]) (P28 [1]) := by kernel_rfl
theorem k28_1 : P28 [0] = .region 0 (O28 [0]) false := by kernel_rfl
theorem r28_0 {M : Mem} {call : CallM} {K : Array Value → Mem → R} :
    opsK Try.prog (fun _ => call) (O28 [0]) (O28 [0]).toList 0 #[g0,g1,g2,g3,g4,g5,g6,g7,g8,g9,g10,g11,g12] M K = K #[g0,g1,.int .i64 0,g3,g4,g5,g6,g7,g8,g9,g10,g11,g12] M := by kernel_rfl
theorem k28_2 : P28 [1] = .seq (P28 [1,0]) (P28 [1,1]) := by kernel_rfl
theorem k28_3 : P28 [1,0] = .region 1 (O28 [1,0]) true ∧ drawOk (O28 [1,0]) = true := ⟨by kernel_rfl, by kernel_rfl⟩
theorem r28_1 {x0 : Option Addr} {M : Mem} {call : CallM} {K : Array Value → Mem → R} :
    opsI Try.prog (callAt call (O28 [1,0])) (O28 [1,0]) (ordOf (O28 [1,0])) [] #[.pointer x0,g1,g2,g3,g4,g5,g6,g7,g8,g9,g10,g11,g12] M K = (x0).bind fun a_1 => (M.slAt a_1.block a_1.off).bind fun s_2 => (x0).bind fun a_3 => (M.intAt .i64 a_3.block (a_3.off + 1)).bind fun x_4 => K #[.pointer x0,g1,.int .i64 (IntKind.i64.wrap (((s_2.2.1 : Int)) - x_4)),.pointer x0,.pointer (some a_1),.pointer (some ⟨a_1.block, a_1.off, none⟩),.slice s_2.1 (s_2.2.1) (s_2.2.2),.int .i64 ((s_2.2.1 : Int)),.pointer x0,.pointer (some a_3),.pointer (some ⟨a_3.block, a_3.off + 1, none⟩),.int .i64 x_4,.int .i64 (IntKind.i64.wrap (((s_2.2.1 : Int)) - x_4))] M := by kernel_rfl
theorem k28_4 : P28 [1,1] = .ret := by kernel_rfl
theorem e28 {M : Mem} : finish Try.prog Try.f28 #[g0,g1,g2,g3,g4,g5,g6,g7,g8,g9,g10,g11,g12] M = some (g2, M) := by kernel_rfl
theorem w28_0 {x0 : Option Addr} {M : Mem} {Q : Value → Mem → Prop} (H :
    ∃ a1', x0 = some a1' ∧
    ∃ s2', M.slAt a1'.block a1'.off = some s2' ∧
    ∃ a3', x0 = some a3' ∧
    ∃ x4', M.intAt .i64 a3'.block (a3'.off + 1) = some x4' ∧
    Q (.int .i64 (IntKind.i64.wrap (((s2'.2.1 : Int)) - x4'))) M) :
    Cn Try.prog 28 #[.pointer x0] M Q := by
  refine Cn.of b28 d28 t28 ?_
  refine Rn.seq k28_0 (Rn.region k28_1 (fun call K => r28_0) (Rch.leaf (Rn.seq k28_2 (Rn.regionD k28_3 (fun call K => r28_1) (Rch.ex H fun a1' H => Rch.ex H fun s2' H => Rch.ex H fun a3' H => Rch.ex H fun x4' H => Rch.leaf ?_)))))
  exact Rn.ret k28_4 e28 H


/-! ### (*zoetrope/zoetroperef01.Reader).Rest: function 30 -/
noncomputable abbrev P30 (p : List Nat) : Code := subC (codeOf Try.f30) p
noncomputable abbrev O30 (p : List Nat) : Array Oper := opsOf (subC (codeOf Try.f30) p)
theorem b30 : Try.prog.funcs[30]? = some Try.f30 ∧ (Orc.tab Try.prog).lookup 30 = none := ⟨by kernel_rfl, by kernel_rfl⟩
theorem d30 : Try.f30.body = some (P30 []) := by kernel_rfl
theorem t30 {x0 : Option Addr} : #[.pointer x0] ++ Array.replicate (Try.f30.ntmps - (#[.pointer x0] : Array Value).size) undef = #[.pointer x0,undef,undef,undef,undef,undef,undef,undef,undef,undef,undef,undef,undef,undef,undef,undef] := by kernel_rfl
theorem k30_0 : P30 [] = .seq (P30 [0]) (P30 [1]) := by kernel_rfl
theorem k30_1 : P30 [0] = .region 0 (O30 [0]) false := by kernel_rfl
theorem r30_0 {M : Mem} {call : CallM} {K : Array Value → Mem → R} :
    opsK Try.prog (fun _ => call) (O30 [0]) (O30 [0]).toList 0 #[g0,g1,g2,g3,g4,g5,g6,g7,g8,g9,g10,g11,g12,g13,g14,g15] M K = K #[g0,g1,.slice none 0 0,g3,g4,g5,g6,g7,g8,g9,g10,g11,g12,g13,g14,g15] M := by kernel_rfl
theorem k30_2 : P30 [1] = .seq (P30 [1,0]) (P30 [1,1]) := by kernel_rfl
theorem k30_3 : P30 [1,0] = .region 1 (O30 [1,0]) true ∧ drawOk (O30 [1,0]) = true := ⟨by kernel_rfl, by kernel_rfl⟩
theorem r30_1 {x0 : Option Addr} {M : Mem} {call : CallM} {K : Array Value → Mem → R} :
    opsI Try.prog (callAt call (O30 [1,0])) (O30 [1,0]) (ordOf (O30 [1,0])) [] #[.pointer x0,g1,g2,g3,g4,g5,g6,g7,g8,g9,g10,g11,g12,g13,g14,g15] M K = (x0).bind fun a_1 => (M.slAt a_1.block a_1.off).bind fun s_2 => (x0).bind fun a_3 => (M.intAt .i64 a_3.block (a_3.off + 1)).bind fun x_4 => (sliceP Try.prog 61 (.slice s_2.1 (s_2.2.1) (s_2.2.2)) (some (.int .i64 (IntKind.i64.wrap ((IntKind.i64.wrap ((IntKind.i64.wrap (x_4 + 7)).tdiv 8)) * 8)))) none none).bind fun v_5 => (asS v_5).bind fun s_6 => (call 45 #[.slice s_6.1 (s_6.2.1) (s_6.2.2)] M).bind fun r_7 => (asS r_7.1).bind fun s_8 => K #[.pointer x0,g1,.slice s_8.1 (s_8.2.1) (s_8.2.2),.pointer x0,.pointer (some a_1),.pointer (some ⟨a_1.block, a_1.off, none⟩),.slice s_2.1 (s_2.2.1) (s_2.2.2),.pointer x0,.pointer (some a_3),.pointer (some ⟨a_3.block, a_3.off + 1, none⟩),.int .i64 x_4,.int .i64 (IntKind.i64.wrap (x_4 + 7)),.int .i64 (IntKind.i64.wrap ((IntKind.i64.wrap (x_4 + 7)).tdiv 8)),.int .i64 (IntKind.i64.wrap ((IntKind.i64.wrap ((IntKind.i64.wrap (x_4 + 7)).tdiv 8)) * 8)),.slice s_6.1 (s_6.2.1) (s_6.2.2),.slice s_8.1 (s_8.2.1) (s_8.2.2)] r_7.2 := by kernel_rfl
theorem k30_4 : P30 [1,1] = .ret := by kernel_rfl
theorem e30 {M : Mem} : finish Try.prog Try.f30 #[g0,g1,g2,g3,g4,g5,g6,g7,g8,g9,g10,g11,g12,g13,g14,g15] M = some (g2, M) := by kernel_rfl
theorem w30_0 {x0 : Option Addr} {M : Mem} {Q : Value → Mem → Prop} (H :
    ∃ a1', x0 = some a1' ∧
    ∃ s2', M.slAt a1'.block a1'.off = some s2' ∧
    ∃ a3', x0 = some a3' ∧
    ∃ x4', M.intAt .i64 a3'.block (a3'.off + 1) = some x4' ∧
    ∃ v5', sliceP Try.prog 61 (.slice s2'.1 (s2'.2.1) (s2'.2.2)) (some (.int .i64 (IntKind.i64.wrap ((IntKind.i64.wrap ((IntKind.i64.wrap (x4' + 7)).tdiv 8)) * 8)))) none none = some v5' ∧
    ∃ s6', asS v5' = some s6' ∧
    Cn Try.prog 45 #[.slice s6'.1 (s6'.2.1) (s6'.2.2)] M fun v7' N7' =>
     ∃ s8', asS v7' = some s8' ∧
     Q (.slice s8'.1 (s8'.2.1) (s8'.2.2)) N7') :
    Cn Try.prog 30 #[.pointer x0] M Q := by
  refine Cn.of b30 d30 t30 ?_
  refine Rn.seq k30_0 (Rn.region k30_1 (fun call K => r30_0) (Rch.leaf (Rn.seq k30_2 (Rn.regionD k30_3 (fun call K => r30_1) (Rch.ex H fun a1' H => Rch.ex H fun s2' H => Rch.ex H fun a3' H => Rch.ex H fun x4' H => Rch.ex H fun v5' H => Rch.ex H fun s6' H => Rch.call H fun v7' N7' H => ?_)))))
  refine Rch.ex H fun s8' H => Rch.leaf ?_
  exact Rn.ret k30_4 e30 H


/-! ### (*zoetrope/zoetroperef01.Reader).number: function 62 -/
noncomputable abbrev P62 (p : List Nat) : Code := subC (codeOf Try.f62) p
noncomputable abbrev O62 (p : List Nat) : Array Oper := opsOf (subC (codeOf Try.f62) p)
theorem b62 : Try.prog.funcs[62]? = some Try.f62 ∧ (Orc.tab Try.prog).lookup 62 = none := ⟨by kernel_rfl, by kernel_rfl⟩
theorem d62 : Try.f62.body = some (P62 []) := by kernel_rfl
theorem t62 {x0 : Option Addr} {x1 x2 : Int} : #[.pointer x0,.int .i64 x1,.int .i64 x2] ++ Array.replicate (Try.f62.ntmps - (#[.pointer x0,.int .i64 x1,.int .i64 x2] : Array Value).size) undef = #[.pointer x0,.int .i64 x1,.int .i64 x2,undef,undef,undef,undef,undef,undef,undef,undef,undef,undef,undef,undef,undef,undef,undef,undef,undef,undef,undef,undef,undef,undef,undef,undef,undef] := by kernel_rfl
theorem k62_0 : P62 [] = .seq (P62 [0]) (P62 [1]) := by kernel_rfl
theorem k62_1 : P62 [0] = .region 0 (O62 [0]) false := by kernel_rfl
theorem r62_0 {M : Mem} {call : CallM} {K : Array Value → Mem → R} :
    opsK Try.prog (fun _ => call) (O62 [0]) (O62 [0]).toList 0 #[g0,g1,g2,g3,g4,g5,g6,g7,g8,g9,g10,g11,g12,g13,g14,g15,g16,g17,g18,g19,g20,g21,g22,g23,g24,g25,g26,g27] M K = K #[g0,g1,g2,g3,g4,g5,.int .u64 0,g7,g8,g9,g10,g11,g12,g13,g14,g15,g16,g17,g18,g19,g20,g21,g22,g23,g24,g25,g26,g27] M := by kernel_rfl
theorem k62_2 : P62 [1] = .seq (P62 [1,0]) (P62 [1,1]) := by kernel_rfl
theorem k62_3 : P62 [1,0] = .region 1 (O62 [1,0]) false := by kernel_rfl
theorem r62_1 {M : Mem} {call : CallM} {K : Array Value → Mem → R} :
    opsK Try.prog (fun _ => call) (O62 [1,0]) (O62 [1,0]).toList 0 #[g0,g1,g2,g3,g4,g5,g6,g7,g8,g9,g10,g11,g12,g13,g14,g15,g16,g17,g18,g19,g20,g21,g22,g23,g24,g25,g26,g27] M K = K #[g0,g1,g2,g3,g4,g5,g6,.int .u64 0,g8,g9,g10,g11,g12,g13,g14,g15,g16,g17,g18,g19,g20,g21,g22,g23,g24,g25,g26,g27] M := by kernel_rfl
theorem k62_4 : P62 [1,1] = .seq (P62 [1,1,0]) (P62 [1,1,1]) := by kernel_rfl
theorem k62_5 : P62 [1,1,0] = .seq (P62 [1,1,0,0]) (P62 [1,1,0,1]) := by kernel_rfl
theorem k62_6 : P62 [1,1,0,0] = .region 2 (O62 [1,1,0,0]) false := by kernel_rfl
theorem r62_2 {M : Mem} {call : CallM} {K : Array Value → Mem → R} :
    opsK Try.prog (fun _ => call) (O62 [1,1,0,0]) (O62 [1,1,0,0]).toList 0 #[g0,g1,g2,g3,g4,g5,g6,g7,g8,g9,g10,g11,g12,g13,g14,g15,g16,g17,g18,g19,g20,g21,g22,g23,g24,g25,g26,g27] M K = K #[g0,g1,g2,g3,g4,g5,g6,g7,.int .i64 0,g9,g10,g11,g12,g13,g14,g15,g16,g17,g18,g19,g20,g21,g22,g23,g24,g25,g26,g27] M := by kernel_rfl
theorem k62_7 : P62 [1,1,0,1] = .block 0 (P62 [1,1,0,1,0]) := by kernel_rfl
theorem k62_8 : P62 [1,1,0,1,0] = .loop (P62 [1,1,0,1,0,0]) := by kernel_rfl
theorem k62_9 : P62 [1,1,0,1,0,0] = .seq (P62 [1,1,0,1,0,0,0]) (P62 [1,1,0,1,0,0,1]) := by kernel_rfl
theorem k62_10 : P62 [1,1,0,1,0,0,0] = .seq (P62 [1,1,0,1,0,0,0,0]) (P62 [1,1,0,1,0,0,0,1]) := by kernel_rfl
theorem k62_11 : P62 [1,1,0,1,0,0,0,0] = .region 3 (O62 [1,1,0,1,0,0,0,0]) false := by kernel_rfl
theorem r62_3 {x2 x8 : Int} {M : Mem} {call : CallM} {K : Array Value → Mem → R} :
    opsK Try.prog (fun _ => call) (O62 [1,1,0,1,0,0,0,0]) (O62 [1,1,0,1,0,0,0,0]).toList 0 #[g0,g1,.int .i64 x2,g3,g4,g5,g6,g7,.int .i64 x8,g9,g10,g11,g12,g13,g14,g15,g16,g17,g18,g19,g20,g21,g22,g23,g24,g25,g26,g27] M K = K #[g0,g1,.int .i64 x2,g3,g4,g5,g6,g7,.int .i64 x8,.int .i64 x8,.int .i64 x2,.bool (decide (x8 < x2)),g12,g13,g14,g15,g16,g17,g18,g19,g20,g21,g22,g23,g24,g25,g26,g27] M := by kernel_rfl
theorem c62_12 : P62 [1,1,0,1,0,0,0,1] = .cond (.tmp 11) (P62 [1,1,0,1,0,0,0,1,0]) (P62 [1,1,0,1,0,0,0,1,1]) := by kernel_rfl
theorem k62_13 : P62 [1,1,0,1,0,0,0,1,0] = .skip := by kernel_rfl
theorem k62_14 : P62 [1,1,0,1,0,0,1] = .seq (P62 [1,1,0,1,0,0,1,0]) (P62 [1,1,0,1,0,0,1,1]) := by kernel_rfl
theorem k62_15 : P62 [1,1,0,1,0,0,1,0] = .block 1 (P62 [1,1,0,1,0,0,1,0,0]) := by kernel_rfl
theorem k62_16 : P62 [1,1,0,1,0,0,1,0,0] = .region 5 (O62 [1,1,0,1,0,0,1,0,0]) false := by kernel_rfl
theorem r62_5 {x0 : Option Addr} {x1 x7 x8 : Int} {M : Mem} {call : CallM} {K : Array Value → Mem → R} :
    opsK Try.prog (fun _ => call) (O62 [1,1,0,1,0,0,1,0,0]) (O62 [1,1,0,1,0,0,1,0,0]).toList 0 #[.pointer x0,.int .i64 x1,g2,g3,g4,g5,g6,.int .u64 x7,.int .i64 x8,g9,g10,g11,g12,g13,g14,g15,g16,g17,g18,g19,g20,g21,g22,g23,g24,g25,g26,g27] M K = (x0).bind fun a_1 => (M.slAt a_1.block a_1.off).bind fun s_2 => (idxA s_2.1 (s_2.2.1) 1 (IntKind.i64.wrap (x1 + x8))).bind fun a_3 => (M.intAt .i64 a_3.block a_3.off).bind fun x_4 => K #[.pointer x0,.int .i64 x1,g2,g3,g4,g5,g6,.int .u64 (IntKind.u64.wrap ((IntKind.u64.wrap (x7 * 2)) + (IntKind.u64.wrap (x_4)))),.int .i64 x8,g9,g10,g11,g12,g13,.int .u64 x7,.int .u64 (IntKind.u64.wrap (x7 * 2)),.pointer x0,.pointer (some a_1),.pointer (some ⟨a_1.block, a_1.off, none⟩),.slice s_2.1 (s_2.2.1) (s_2.2.2),.int .i64 x1,.int .i64 x8,.int .i64 (IntKind.i64.wrap (x1 + x8)),.pointer (some a_3),.int .i64 x_4,.int .u64 (IntKind.u64.wrap (x_4)),.int .u64 (IntKind.u64.wrap ((IntKind.u64.wrap (x7 * 2)) + (IntKind.u64.wrap (x_4)))),g27] M := by kernel_rfl
theorem k62_17 : P62 [1,1,0,1,0,0,1,1] = .region 4 (O62 [1,1,0,1,0,0,1,1]) false := by kernel_rfl
theorem r62_4 {x8 : Int} {M : Mem} {call : CallM} {K : Array Value → Mem → R} :
    opsK Try.prog (fun _ => call) (O62 [1,1,0,1,0,0,1,1]) (O62 [1,1,0,1,0,0,1,1]).toList 0 #[g0,g1,g2,g3,g4,g5,g6,g7,.int .i64 x8,g9,g10,g11,g12,g13,g14,g15,g16,g17,g18,g19,g20,g21,g22,g23,g24,g25,g26,g27] M K = K #[g0,g1,g2,g3,g4,g5,g6,g7,.int .i64 (IntKind.i64.wrap (x8 + 1)),g9,g10,g11,.int .i64 x8,.int .i64 (IntKind.i64.wrap (x8 + 1)),g14,g15,g16,g17,g18,g19,g20,g21,g22,g23,g24,g25,g26,g27] M := by kernel_rfl
theorem k62_18 : P62 [1,1,0,1,0,0,0,1,1] = .exit 0 := by kernel_rfl
theorem k62_19 : P62 [1,1,1] = .seq (P62 [1,1,1,0]) (P62 [1,1,1,1]) := by kernel_rfl
theorem k62_20 : P62 [1,1,1,0] = .region 6 (O62 [1,1,1,0]) false := by kernel_rfl
theorem r62_6 {x7 : Int} {M : Mem} {call : CallM} {K : Array Value → Mem → R} :
    opsK Try.prog (fun _ => call) (O62 [1,1,1,0]) (O62 [1,1,1,0]).toList 0 #[g0,g1,g2,g3,g4,g5,g6,.int .u64 x7,g8,g9,g10,g11,g12,g13,g14,g15,g16,g17,g18,g19,g20,g21,g22,g23,g24,g25,g26,g27] M K = K #[g0,g1,g2,g3,g4,g5,.int .u64 x7,.int .u64 x7,g8,g9,g10,g11,g12,g13,g14,g15,g16,g17,g18,g19,g20,g21,g22,g23,g24,g25,g26,.int .u64 x7] M := by kernel_rfl
theorem k62_21 : P62 [1,1,1,1] = .ret := by kernel_rfl
theorem e62 {M : Mem} : finish Try.prog Try.f62 #[g0,g1,g2,g3,g4,g5,g6,g7,g8,g9,g10,g11,g12,g13,g14,g15,g16,g17,g18,g19,g20,g21,g22,g23,g24,g25,g26,g27] M = some (g6, M) := by kernel_rfl
noncomputable def S62_1 : List Item := [.code (P62 [1,1,0,1,0,0]), .inLoop (P62 [1,1,0,1,0,0]), .inBlock 0, .code (P62 [1,1,1])]
def A62_1 (x0 : Option Addr) (x1 x2 x7 x8 : Int) (M : Mem) (Q : Value → Mem → Prop) : Prop := ∀ (g3 g4 g5 g6 g9 g10 g11 g12 g13 g14 g15 g16 g17 g18 g19 g20 g21 g22 g23 g24 g25 g26 g27 : Value), Rn Try.prog Try.f62 S62_1 #[.pointer x0, .int .i64 x1, .int .i64 x2, g3, g4, g5, g6, .int .u64 x7, .int .i64 x8, g9, g10, g11, g12, g13, g14, g15, g16, g17, g18, g19, g20, g21, g22, g23, g24, g25, g26, g27] M Q
theorem w62_0 {x0 : Option Addr} {x1 x2 : Int} {M : Mem} {Q : Value → Mem → Prop} (H :
    A62_1 x0 x1 x2 0 0 M Q) :
    Cn Try.prog 62 #[.pointer x0, .int .i64 x1, .int .i64 x2] M Q := by
  refine Cn.of b62 d62 t62 ?_
  refine Rn.seq k62_0 (Rn.region k62_1 (fun call K => r62_0) (Rch.leaf (Rn.seq k62_2 (Rn.region k62_3 (fun call K => r62_1) (Rch.leaf (Rn.seq k62_4 (Rn.seq k62_5 (Rn.region k62_6 (fun call K => r62_2) (Rch.leaf (Rn.block k62_7 (Rn.loop k62_8 ?_)))))))))))
  exact H _ _ _ _ _ _ _ _ _ _ _ _ _ _ _ _ _ _ _ _ _ _ _

theorem w62_1 {x0 : Option Addr} {x1 x2 x7 x8 : Int} {M : Mem} {Q : Value → Mem → Prop} (H :
    ((x8 < x2 →
     ∃ a1', x0 = some a1' ∧
     ∃ s2', M.slAt a1'.block a1'.off = some s2' ∧
     ∃ a3', idxA s2'.1 (s2'.2.1) 1 (IntKind.i64.wrap (x1 + x8)) = some a3' ∧
     ∃ x4', M.intAt .i64 a3'.block a3'.off = some x4' ∧
     A62_1 x0 x1 x2 (IntKind.u64.wrap ((IntKind.u64.wrap (x7 * 2)) + (IntKind.u64.wrap (x4')))) (IntKind.i64.wrap (x8 + 1)) M Q) ∧
     (¬ (x8 < x2) →
     Q (.int .u64 x7) M))) :
    A62_1 x0 x1 x2 x7 x8 M Q := by
  intro g3 g4 g5 g6 g9 g10 g11 g12 g13 g14 g15 g16 g17 g18 g19 g20 g21 g22 g23 g24 g25 g26 g27
  refine Rn.seq k62_9 (Rn.seq k62_10 (Rn.region k62_11 (fun call K => r62_3) (Rch.leaf ?_)))
  refine Rn.cnd (v := decide (x8 < x2)) ⟨c62_12, rfl, by kernel_rfl⟩ (fun h => ?_) (fun h => ?_)
  · replace H := H.1 (of_decide_eq_true h)
    refine Rn.skip k62_13 (Rn.seq k62_14 (Rn.block k62_15 (Rn.region k62_16 (fun call K => r62_5) (Rch.ex H fun a1' H => Rch.ex H fun s2' H => Rch.ex H fun a3' H => Rch.ex H fun x4' H => Rch.leaf (Rn.blk (Rn.region k62_17 (fun call K => r62_4) (Rch.leaf ?_)))))))
    refine Rn.lp ?_
    exact H _ _ _ _ _ _ _ _ _ _ _ _ _ _ _ _ _ _ _ _ _ _ _
  · replace H := H.2 (of_decide_eq_false h)
    refine Rn.exit k62_18 rfl (Rn.seq k62_19 (Rn.region k62_20 (fun call K => r62_6) (Rch.leaf ?_)))
    exact Rn.ret k62_21 e62 H


/-! ### (*zoetrope/zoetroperef01.Reader).Fixed: function 49 -/
noncomputable abbrev P49 (p : List Nat) : Code := subC (codeOf Try.f49) p
noncomputable abbrev O49 (p : List Nat) : Array Oper := opsOf (subC (codeOf Try.f49) p)
theorem b49 : Try.prog.funcs[49]? = some Try.f49 ∧ (Orc.tab Try.prog).lookup 49 = none := ⟨by kernel_rfl, by kernel_rfl⟩
theorem d49 : Try.f49.body = some (P49 []) := by kernel_rfl
theorem t49 {x0 : Option Addr} {x1 : Int} : #[.pointer x0,.int .i64 x1] ++ Array.replicate (Try.f49.ntmps - (#[.pointer x0,.int .i64 x1] : Array Value).size) undef = #[.pointer x0,.int .i64 x1,undef,undef,undef,undef,undef,undef,undef,undef,undef,undef,undef,undef,undef,undef,undef,undef,undef,undef,undef,undef,undef,undef,undef,undef,undef,undef,undef,undef,undef,undef,undef,undef,undef] := by kernel_rfl
theorem k49_0 : P49 [] = .seq (P49 [0]) (P49 [1]) := by kernel_rfl
theorem k49_1 : P49 [0] = .region 0 (O49 [0]) false := by kernel_rfl
theorem r49_0 {M : Mem} {call : CallM} {K : Array Value → Mem → R} :
    opsK Try.prog (fun _ => call) (O49 [0]) (O49 [0]).toList 0 #[g0,g1,g2,g3,g4,g5,g6,g7,g8,g9,g10,g11,g12,g13,g14,g15,g16,g17,g18,g19,g20,g21,g22,g23,g24,g25,g26,g27,g28,g29,g30,g31,g32,g33,g34] M K = K #[g0,g1,g2,g3,.int .u32 0,.int .i64 0,g6,g7,g8,g9,g10,g11,g12,g13,g14,g15,g16,g17,g18,g19,g20,g21,g22,g23,g24,g25,g26,g27,g28,g29,g30,g31,g32,g33,g34] M := by kernel_rfl
theorem k49_2 : P49 [1] = .seq (P49 [1,0]) (P49 [1,1]) := by kernel_rfl
theorem k49_3 : P49 [1,0] = .seq (P49 [1,0,0]) (P49 [1,0,1]) := by kernel_rfl
theorem k49_4 : P49 [1,0,0] = .region 1 (O49 [1,0,0]) false := by kernel_rfl
theorem r49_1 {x1 : Int} {M : Mem} {call : CallM} {K : Array Value → Mem → R} :
    opsK Try.prog (fun _ => call) (O49 [1,0,0]) (O49 [1,0,0]).toList 0 #[g0,.int .i64 x1,g2,g3,g4,g5,g6,g7,g8,g9,g10,g11,g12,g13,g14,g15,g16,g17,g18,g19,g20,g21,g22,g23,g24,g25,g26,g27,g28,g29,g30,g31,g32,g33,g34] M K = withK (fun w9 w10 w11 w12 M => K #[g0,.int .i64 x1,g2,g3,g4,g5,g6,.int .i64 x1,.bool (decide (x1 < 0)),w9,w10,w11,w12,g13,g14,g15,g16,g17,g18,g19,g20,g21,g22,g23,g24,g25,g26,g27,g28,g29,g30,g31,g32,g33,g34] M) fun k => cond (decide (x1 < 0)) (k (.bool true) undef undef (.bool true) M) (k (.bool false) (.int .i64 x1) (.bool (decide (x1 > 32))) (.bool (decide (x1 > 32))) M) := by kernel_rfl
theorem c49_5 : P49 [1,0,1] = .cond (.tmp 12) (P49 [1,0,1,0]) (P49 [1,0,1,1]) := by kernel_rfl
theorem k49_6 : P49 [1,0,1,0] = .seq (P49 [1,0,1,0,0]) (P49 [1,0,1,0,1]) := by kernel_rfl
theorem k49_7 : P49 [1,0,1,0,0] = .region 2 (O49 [1,0,1,0,0]) false := by kernel_rfl
theorem r49_2 {M : Mem} {call : CallM} {K : Array Value → Mem → R} :
    opsK Try.prog (fun _ => call) (O49 [1,0,1,0,0]) (O49 [1,0,1,0,0]).toList 0 #[g0,g1,g2,g3,g4,g5,g6,g7,g8,g9,g10,g11,g12,g13,g14,g15,g16,g17,g18,g19,g20,g21,g22,g23,g24,g25,g26,g27,g28,g29,g30,g31,g32,g33,g34] M K = K #[g0,g1,g2,g3,.int .u32 0,.int .i64 2,g6,g7,g8,g9,g10,g11,g12,g13,g14,g15,g16,g17,g18,g19,g20,g21,g22,g23,g24,g25,g26,g27,g28,g29,g30,g31,g32,g33,g34] M := by kernel_rfl
theorem k49_8 : P49 [1,0,1,0,1] = .ret := by kernel_rfl
theorem e49 {M : Mem} : finish Try.prog Try.f49 #[g0,g1,g2,g3,g4,g5,g6,g7,g8,g9,g10,g11,g12,g13,g14,g15,g16,g17,g18,g19,g20,g21,g22,g23,g24,g25,g26,g27,g28,g29,g30,g31,g32,g33,g34] M = some (.tuple #[g4, g5], M) := by kernel_rfl
theorem k49_10 : P49 [1,0,1,1] = .skip := by kernel_rfl
theorem k49_11 : P49 [1,1] = .seq (P49 [1,1,0]) (P49 [1,1,1]) := by kernel_rfl
theorem k49_12 : P49 [1,1,0] = .seq (P49 [1,1,0,0]) (P49 [1,1,0,1]) := by kernel_rfl
theorem k49_13 : P49 [1,1,0,0] = .region 3 (O49 [1,1,0,0]) false := by kernel_rfl
theorem r49_3 {x0 : Option Addr} {x1 : Int} {M : Mem} {call : CallM} {K : Array Value → Mem → R} :
    opsK Try.prog (fun _ => call) (O49 [1,1,0,0]) (O49 [1,1,0,0]).toList 0 #[.pointer x0,.int .i64 x1,g2,g3,g4,g5,g6,g7,g8,g9,g10,g11,g12,g13,g14,g15,g16,g17,g18,g19,g20,g21,g22,g23,g24,g25,g26,g27,g28,g29,g30,g31,g32,g33,g34] M K = (call 28 #[.pointer x0] M).bind fun r_1 => (asI .i64 r_1.1).bind fun x_2 => K #[.pointer x0,.int .i64 x1,g2,g3,g4,g5,g6,g7,g8,g9,g10,g11,g12,.int .i64 x1,.pointer x0,.int .i64 x_2,.bool (decide (x1 > x_2)),g17,g18,g19,g20,g21,g22,g23,g24,g25,g26,g27,g28,g29,g30,g31,g32,g33,g34] r_1.2 := by kernel_rfl
theorem c49_14 : P49 [1,1,0,1] = .cond (.tmp 16) (P49 [1,1,0,1,0]) (P49 [1,1,0,1,1]) := by kernel_rfl
theorem k49_15 : P49 [1,1,0,1,0] = .seq (P49 [1,1,0,1,0,0]) (P49 [1,1,0,1,0,1]) := by kernel_rfl
theorem k49_16 : P49 [1,1,0,1,0,0] = .region 4 (O49 [1,1,0,1,0,0]) false := by kernel_rfl
theorem r49_4 {M : Mem} {call : CallM} {K : Array Value → Mem → R} :
    opsK Try.prog (fun _ => call) (O49 [1,1,0,1,0,0]) (O49 [1,1,0,1,0,0]).toList 0 #[g0,g1,g2,g3,g4,g5,g6,g7,g8,g9,g10,g11,g12,g13,g14,g15,g16,g17,g18,g19,g20,g21,g22,g23,g24,g25,g26,g27,g28,g29,g30,g31,g32,g33,g34] M K = K #[g0,g1,g2,g3,.int .u32 0,.int .i64 3,g6,g7,g8,g9,g10,g11,g12,g13,g14,g15,g16,g17,g18,g19,g20,g21,g22,g23,g24,g25,g26,g27,g28,g29,g30,g31,g32,g33,g34] M := by kernel_rfl
theorem k49_17 : P49 [1,1,0,1,0,1] = .ret := by kernel_rfl
theorem k49_18 : P49 [1,1,0,1,1] = .skip := by kernel_rfl
theorem k49_19 : P49 [1,1,1] = .seq (P49 [1,1,1,0]) (P49 [1,1,1,1]) := by kernel_rfl
theorem k49_20 : P49 [1,1,1,0] = .region 5 (O49 [1,1,1,0]) false := by kernel_rfl
theorem r49_5 {x0 : Option Addr} {x1 : Int} {M : Mem} {call : CallM} {K : Array Value → Mem → R} :
    opsK Try.prog (fun _ => call) (O49 [1,1,1,0]) (O49 [1,1,1,0]).toList 0 #[.pointer x0,.int .i64 x1,g2,g3,g4,g5,g6,g7,g8,g9,g10,g11,g12,g13,g14,g15,g16,g17,g18,g19,g20,g21,g22,g23,g24,g25,g26,g27,g28,g29,g30,g31,g32,g33,g34] M K = (x0).bind fun a_1 => (M.intAt .i64 a_1.block (a_1.off + 1)).bind fun x_2 => (call 62 #[.pointer x0, .int .i64 x_2, .int .i64 x1] M).bind fun r_3 => (asI .u64 r_3.1).bind fun x_4 => K #[.pointer x0,.int .i64 x1,g2,g3,g4,g5,.int .u64 x_4,g7,g8,g9,g10,g11,g12,g13,g14,g15,g16,.pointer x0,.pointer x0,.pointer (some a_1),.pointer (some ⟨a_1.block, a_1.off + 1, none⟩),.int .i64 x_2,.int .i64 x1,.int .u64 x_4,g24,g25,g26,g27,g28,g29,g30,g31,g32,g33,g34] r_3.2 := by kernel_rfl
theorem k49_21 : P49 [1,1,1,1] = .seq (P49 [1,1,1,1,0]) (P49 [1,1,1,1,1]) := by kernel_rfl
theorem k49_22 : P49 [1,1,1,1,0] = .region 6 (O49 [1,1,1,1,0]) false := by kernel_rfl
theorem r49_6 {x0 : Option Addr} {x1 : Int} {M : Mem} {call : CallM} {K : Array Value → Mem → R} :
    opsK Try.prog (fun _ => call) (O49 [1,1,1,1,0]) (O49 [1,1,1,1,0]).toList 0 #[.pointer x0,.int .i64 x1,g2,g3,g4,g5,g6,g7,g8,g9,g10,g11,g12,g13,g14,g15,g16,g17,g18,g19,g20,g21,g22,g23,g24,g25,g26,g27,g28,g29,g30,g31,g32,g33,g34] M K = (x0).bind fun a_1 => (M.intAt .i64 a_1.block (a_1.off + 1)).bind fun x_2 => (x0).bind fun a_3 => (M.put a_3.block (a_3.off + 1) (.int .i64 (IntKind.i64.wrap (x_2 + x1)))).bind fun M_4 => K #[.pointer x0,.int .i64 x1,g2,g3,g4,g5,g6,g7,g8,g9,g10,g11,g12,g13,g14,g15,g16,g17,g18,g19,g20,g21,g22,g23,.pointer x0,.pointer x0,.pointer (some a_1),.pointer (some ⟨a_1.block, a_1.off + 1, none⟩),.int .i64 x_2,.int .i64 x1,.int .i64 (IntKind.i64.wrap (x_2 + x1)),.pointer (some a_3),.pointer (some ⟨a_3.block, a_3.off + 1, none⟩),g33,g34] M_4 := by kernel_rfl
theorem k49_23 : P49 [1,1,1,1,1] = .seq (P49 [1,1,1,1,1,0]) (P49 [1,1,1,1,1,1]) := by kernel_rfl
theorem k49_24 : P49 [1,1,1,1,1,0] = .region 7 (O49 [1,1,1,1,1,0]) false := by kernel_rfl
theorem r49_7 {x6 : Int} {M : Mem} {call : CallM} {K : Array Value → Mem → R} :
    opsK Try.prog (fun _ => call) (O49 [1,1,1,1,1,0]) (O49 [1,1,1,1,1,0]).toList 0 #[g0,g1,g2,g3,g4,g5,.int .u64 x6,g7,g8,g9,g10,g11,g12,g13,g14,g15,g16,g17,g18,g19,g20,g21,g22,g23,g24,g25,g26,g27,g28,g29,g30,g31,g32,g33,g34] M K = K #[g0,g1,g2,g3,.int .u32 (IntKind.u32.wrap (x6)),.int .i64 0,.int .u64 x6,g7,g8,g9,g10,g11,g12,g13,g14,g15,g16,g17,g18,g19,g20,g21,g22,g23,g24,g25,g26,g27,g28,g29,g30,g31,g32,.int .u64 x6,.int .u32 (IntKind.u32.wrap (x6))] M := by kernel_rfl
theorem k49_25 : P49 [1,1,1,1,1,1] = .ret := by kernel_rfl
noncomputable def S49_1 : List Item := [.code (P49 [1,0,1]), .code (P49 [1,1])]
def A49_1 (x0 : Option Addr) (x1 : Int) (x12 : Bool) (M : Mem) (Q : Value → Mem → Prop) : Prop := ∀ (g2 g3 g4 g5 g6 g7 g8 g9 g10 g11 g13 g14 g15 g16 g17 g18 g19 g20 g21 g22 g23 g24 g25 g26 g27 g28 g29 g30 g31 g32 g33 g34 : Value), Rn Try.prog Try.f49 S49_1 #[.pointer x0, .int .i64 x1, g2, g3, g4, g5, g6, g7, g8, g9, g10, g11, .bool x12, g13, g14, g15, g16, g17, g18, g19, g20, g21, g22, g23, g24, g25, g26, g27, g28, g29, g30, g31, g32, g33, g34] M Q
theorem w49_0 {x0 : Option Addr} {x1 : Int} {M : Mem} {Q : Value → Mem → Prop} (H :
    ((x1 < 0 →
     A49_1 x0 x1 true M Q) ∧
     (¬ (x1 < 0) →
     A49_1 x0 x1 (decide (x1 > 32)) M Q))) :
    Cn Try.prog 49 #[.pointer x0, .int .i64 x1] M Q := by
  refine Cn.of b49 d49 t49 ?_
  refine Rn.seq k49_0 (Rn.region k49_1 (fun call K => r49_0) (Rch.leaf (Rn.seq k49_2 (Rn.seq k49_3 (Rn.region k49_4 (fun call K => r49_1) ?_)))))
  refine Rch.cB (fun h => ?_) (fun h => ?_)
  · replace H := H.1 (of_decide_eq_true h)
    refine Rch.leaf ?_
    exact H _ _ _ _ _ _ _ _ _ _ _ _ _ _ _ _ _ _ _ _ _ _ _ _ _ _ _ _ _ _ _ _
  · replace H := H.2 (of_decide_eq_false h)
    refine Rch.leaf ?_
    exact H _ _ _ _ _ _ _ _ _ _ _ _ _ _ _ _ _ _ _ _ _ _ _ _ _ _ _ _ _ _ _ _

theorem w49_1 {x0 : Option Addr} {x1 : Int} {x12 : Bool} {M : Mem} {Q : Value → Mem → Prop} (H :
    ((x12 = true →
     Q (.tuple #[.int .u32 0, .int .i64 2]) M) ∧
     (x12 = false →
     Cn Try.prog 28 #[.pointer x0] M fun v1' N1' =>
      ∃ x2', asI .i64 v1' = some x2' ∧
      ((x1 > x2' →
       Q (.tuple #[.int .u32 0, .int .i64 3]) N1') ∧
       (¬ (x1 > x2') →
       ∃ a3', x0 = some a3' ∧
       ∃ x4', N1'.intAt .i64 a3'.block (a3'.off + 1) = some x4' ∧
       Cn Try.prog 62 #[.pointer x0, .int .i64 x4', .int .i64 x1] N1' fun v5' N5' =>
        ∃ x6', asI .u64 v5' = some x6' ∧
        ∃ a7', x0 = some a7' ∧
        ∃ x8', N5'.intAt .i64 a7'.block (a7'.off + 1) = some x8' ∧
        ∃ a9', x0 = some a9' ∧
        ∃ M10', N5'.put a9'.block (a9'.off + 1) (.int .i64 (IntKind.i64.wrap (x8' + x1))) = some M10' ∧
        Q (.tuple #[.int .u32 (IntKind.u32.wrap (x6')), .int .i64 0]) M10'))))) :
    A49_1 x0 x1 x12 M Q := by
  intro g2 g3 g4 g5 g6 g7 g8 g9 g10 g11 g13 g14 g15 g16 g17 g18 g19 g20 g21 g22 g23 g24 g25 g26 g27 g28 g29 g30 g31 g32 g33 g34
  refine Rn.cnd (v := x12) ⟨c49_5, rfl, by kernel_rfl⟩ (fun h => ?_) (fun h => ?_)
  · replace H := H.1 (h)
    refine Rn.seq k49_6 (Rn.region k49_7 (fun call K => r49_2) (Rch.leaf ?_))
    exact Rn.ret k49_8 e49 H
  · replace H := H.2 (h)
    refine Rn.skip k49_10 (Rn.seq k49_11 (Rn.seq k49_12 (Rn.region k49_13 (fun call K => r49_3) (Rch.call H fun v1' N1' H => Rch.ex H fun x2' H => Rch.leaf ?_))))
    refine Rn.cnd (v := decide (x1 > x2')) ⟨c49_14, rfl, by kernel_rfl⟩ (fun h => ?_) (fun h => ?_)
    · replace H := H.1 (of_decide_eq_true h)
      refine Rn.seq k49_15 (Rn.region k49_16 (fun call K => r49_4) (Rch.leaf ?_))
      exact Rn.ret k49_17 e49 H
    · replace H := H.2 (of_decide_eq_false h)
      refine Rn.skip k49_18 (Rn.seq k49_19 (Rn.region k49_20 (fun call K => r49_5) (Rch.ex H fun a3' H => Rch.ex H fun x4' H => Rch.call H fun v5' N5' H => Rch.ex H fun x6' H => Rch.leaf (Rn.seq k49_21 (Rn.region k49_22 (fun call K => r49_6) (Rch.ex H fun a7' H => Rch.ex H fun x8' H => ?_))))))
      refine Rch.ex H fun a9' H => Rch.ex H fun M10' H => Rch.leaf (Rn.seq k49_23 (Rn.region k49_24 (fun call K => r49_7) (Rch.leaf ?_)))
      exact Rn.ret k49_25 e49 H


/-! ### (*zoetrope/zoetroperef01.Reader).Signed: function 50 -/
noncomputable abbrev P50 (p : List Nat) : Code := subC (codeOf Try.f50) p
noncomputable abbrev O50 (p : List Nat) : Array Oper := opsOf (subC (codeOf Try.f50) p)
theorem b50 : Try.prog.funcs[50]? = some Try.f50 ∧ (Orc.tab Try.prog).lookup 50 = none := ⟨by kernel_rfl, by kernel_rfl⟩
theorem d50 : Try.f50.body = some (P50 []) := by kernel_rfl
theorem t50 {x0 : Option Addr} {x1 : Int} : #[.pointer x0,.int .i64 x1] ++ Array.replicate (Try.f50.ntmps - (#[.pointer x0,.int .i64 x1] : Array Value).size) undef = #[.pointer x0,.int .i64 x1,undef,undef,undef,undef,undef,undef,undef,undef,undef,undef,undef,undef,undef,undef,undef,undef,undef,undef,undef,undef,undef,undef,undef,undef,undef,undef,undef,undef,undef,undef,undef,undef,undef,undef,undef,undef,undef,undef,undef,undef,undef,undef,undef,undef,undef,undef,undef,undef,undef,undef,undef,undef] := by kernel_rfl
theorem k50_0 : P50 [] = .seq (P50 [0]) (P50 [1]) := by kernel_rfl
theorem k50_1 : P50 [0] = .region 0 (O50 [0]) false := by kernel_rfl
theorem r50_0 {M : Mem} {call : CallM} {K : Array Value → Mem → R} :
    opsK Try.prog (fun _ => call) (O50 [0]) (O50 [0]).toList 0 #[g0,g1,g2,g3,g4,g5,g6,g7,g8,g9,g10,g11,g12,g13,g14,g15,g16,g17,g18,g19,g20,g21,g22,g23,g24,g25,g26,g27,g28,g29,g30,g31,g32,g33,g34,g35,g36,g37,g38,g39,g40,g41,g42,g43,g44,g45,g46,g47,g48,g49,g50,g51,g52,g53] M K = K #[g0,g1,g2,g3,.int .i32 0,.int .i64 0,g6,g7,g8,g9,g10,g11,g12,g13,g14,g15,g16,g17,g18,g19,g20,g21,g22,g23,g24,g25,g26,g27,g28,g29,g30,g31,g32,g33,g34,g35,g36,g37,g38,g39,g40,g41,g42,g43,g44,g45,g46,g47,g48,g49,g50,g51,g52,g53] M := by kernel_rfl
theorem k50_2 : P50 [1] = .seq (P50 [1,0]) (P50 [1,1]) := by kernel_rfl
theorem k50_3 : P50 [1,0] = .seq (P50 [1,0,0]) (P50 [1,0,1]) := by kernel_rfl
theorem k50_4 : P50 [1,0,0] = .region 1 (O50 [1,0,0]) false := by kernel_rfl
theorem r50_1 {x1 : Int} {M : Mem} {call : CallM} {K : Array Value → Mem → R} :
    opsK Try.prog (fun _ => call) (O50 [1,0,0]) (O50 [1,0,0]).toList 0 #[g0,.int .i64 x1,g2,g3,g4,g5,g6,g7,g8,g9,g10,g11,g12,g13,g14,g15,g16,g17,g18,g19,g20,g21,g22,g23,g24,g25,g26,g27,g28,g29,g30,g31,g32,g33,g34,g35,g36,g37,g38,g39,g40,g41,g42,g43,g44,g45,g46,g47,g48,g49,g50,g51,g52,g53] M K = withK (fun w9 w10 w11 w12 M => K #[g0,.int .i64 x1,g2,g3,g4,g5,g6,.int .i64 x1,.bool (decide (x1 < 1)),w9,w10,w11,w12,g13,g14,g15,g16,g17,g18,g19,g20,g21,g22,g23,g24,g25,g26,g27,g28,g29,g30,g31,g32,g33,g34,g35,g36,g37,g38,g39,g40,g41,g42,g43,g44,g45,g46,g47,g48,g49,g50,g51,g52,g53] M) fun k => cond (decide (x1 < 1)) (k (.bool true) undef undef (.bool true) M) (k (.bool false) (.int .i64 x1) (.bool (decide (x1 > 31))) (.bool (decide (x1 > 31))) M) := by kernel_rfl
theorem c50_5 : P50 [1,0,1] = .cond (.tmp 12) (P50 [1,0,1,0]) (P50 [1,0,1,1]) := by kernel_rfl
theorem k50_6 : P50 [1,0,1,0] = .seq (P50 [1,0,1,0,0]) (P50 [1,0,1,0,1]) := by kernel_rfl
theorem k50_7 : P50 [1,0,1,0,0] = .region 2 (O50 [1,0,1,0,0]) false := by kernel_rfl
theorem r50_2 {M : Mem} {call : CallM} {K : Array Value → Mem → R} :
    opsK Try.prog (fun _ => call) (O50 [1,0,1,0,0]) (O50 [1,0,1,0,0]).toList 0 #[g0,g1,g2,g3,g4,g5,g6,g7,g8,g9,g10,g11,g12,g13,g14,g15,g16,g17,g18,g19,g20,g21,g22,g23,g24,g25,g26,g27,g28,g29,g30,g31,g32,g33,g34,g35,g36,g37,g38,g39,g40,g41,g42,g43,g44,g45,g46,g47,g48,g49,g50,g51,g52,g53] M K = K #[g0,g1,g2,g3,.int .i32 0,.int .i64 2,g6,g7,g8,g9,g10,g11,g12,g13,g14,g15,g16,g17,g18,g19,g20,g21,g22,g23,g24,g25,g26,g27,g28,g29,g30,g31,g32,g33,g34,g35,g36,g37,g38,g39,g40,g41,g42,g43,g44,g45,g46,g47,g48,g49,g50,g51,g52,g53] M := by kernel_rfl
theorem k50_8 : P50 [1,0,1,0,1] = .ret := by kernel_rfl
theorem e50 {M : Mem} : finish Try.prog Try.f50 #[g0,g1,g2,g3,g4,g5,g6,g7,g8,g9,g10,g11,g12,g13,g14,g15,g16,g17,g18,g19,g20,g21,g22,g23,g24,g25,g26,g27,g28,g29,g30,g31,g32,g33,g34,g35,g36,g37,g38,g39,g40,g41,g42,g43,g44,g45,g46,g47,g48,g49,g50,g51,g52,g53] M = some (.tuple #[g4, g5], M) := by kernel_rfl
theorem k50_10 : P50 [1,0,1,1] = .skip := by kernel_rfl
theorem k50_11 : P50 [1,1] = .seq (P50 [1,1,0]) (P50 [1,1,1]) := by kernel_rfl
theorem k50_12 : P50 [1,1,0] = .seq (P50 [1,1,0,0]) (P50 [1,1,0,1]) := by kernel_rfl
theorem k50_13 : P50 [1,1,0,0] = .region 3 (O50 [1,1,0,0]) false := by kernel_rfl
theorem r50_3 {x0 : Option Addr} {x1 : Int} {M : Mem} {call : CallM} {K : Array Value → Mem → R} :
    opsK Try.prog (fun _ => call) (O50 [1,1,0,0]) (O50 [1,1,0,0]).toList 0 #[.pointer x0,.int .i64 x1,g2,g3,g4,g5,g6,g7,g8,g9,g10,g11,g12,g13,g14,g15,g16,g17,g18,g19,g20,g21,g22,g23,g24,g25,g26,g27,g28,g29,g30,g31,g32,g33,g34,g35,g36,g37,g38,g39,g40,g41,g42,g43,g44,g45,g46,g47,g48,g49,g50,g51,g52,g53] M K = (call 28 #[.pointer x0] M).bind fun r_1 => (asI .i64 r_1.1).bind fun x_2 => K #[.pointer x0,.int .i64 x1,g2,g3,g4,g5,g6,g7,g8,g9,g10,g11,g12,.int .i64 x1,.int .i64 (IntKind.i64.wrap (x1 + 1)),.pointer x0,.int .i64 x_2,.bool (decide ((IntKind.i64.wrap (x1 + 1)) > x_2)),g18,g19,g20,g21,g22,g23,g24,g25,g26,g27,g28,g29,g30,g31,g32,g33,g34,g35,g36,g37,g38,g39,g40,g41,g42,g43,g44,g45,g46,g47,g48,g49,g50,g51,g52,g53] r_1.2 := by kernel_rfl
theorem c50_14 : P50 [1,1,0,1] = .cond (.tmp 17) (P50 [1,1,0,1,0]) (P50 [1,1,0,1,1]) := by kernel_rfl
theorem k50_15 : P50 [1,1,0,1,0] = .seq (P50 [1,1,0,1,0,0]) (P50 [1,1,0,1,0,1]) := by kernel_rfl
theorem k50_16 : P50 [1,1,0,1,0,0] = .region 4 (O50 [1,1,0,1,0,0]) false := by kernel_rfl
theorem r50_4 {M : Mem} {call : CallM} {K : Array Value → Mem → R} :
    opsK Try.prog (fun _ => call) (O50 [1,1,0,1,0,0]) (O50 [1,1,0,1,0,0]).toList 0 #[g0,g1,g2,g3,g4,g5,g6,g7,g8,g9,g10,g11,g12,g13,g14,g15,g16,g17,g18,g19,g20,g21,g22,g23,g24,g25,g26,g27,g28,g29,g30,g31,g32,g33,g34,g35,g36,g37,g38,g39,g40,g41,g42,g43,g44,g45,g46,g47,g48,g49,g50,g51,g52,g53] M K = K #[g0,g1,g2,g3,.int .i32 0,.int .i64 3,g6,g7,g8,g9,g10,g11,g12,g13,g14,g15,g16,g17,g18,g19,g20,g21,g22,g23,g24,g25,g26,g27,g28,g29,g30,g31,g32,g33,g34,g35,g36,g37,g38,g39,g40,g41,g42,g43,g44,g45,g46,g47,g48,g49,g50,g51,g52,g53] M := by kernel_rfl
theorem k50_17 : P50 [1,1,0,1,0,1] = .ret := by kernel_rfl
theorem k50_18 : P50 [1,1,0,1,1] = .skip := by kernel_rfl
theorem k50_19 : P50 [1,1,1] = .seq (P50 [1,1,1,0]) (P50 [1,1,1,1]) := by kernel_rfl
theorem k50_20 : P50 [1,1,1,0] = .region 5 (O50 [1,1,1,0]) false := by kernel_rfl
theorem r50_5 {x0 : Option Addr} {x1 : Int} {M : Mem} {call : CallM} {K : Array Value → Mem → R} :
    opsK Try.prog (fun _ => call) (O50 [1,1,1,0]) (O50 [1,1,1,0]).toList 0 #[.pointer x0,.int .i64 x1,g2,g3,g4,g5,g6,g7,g8,g9,g10,g11,g12,g13,g14,g15,g16,g17,g18,g19,g20,g21,g22,g23,g24,g25,g26,g27,g28,g29,g30,g31,g32,g33,g34,g35,g36,g37,g38,g39,g40,g41,g42,g43,g44,g45,g46,g47,g48,g49,g50,g51,g52,g53] M K = (x0).bind fun a_1 => (M.intAt .i64 a_1.block (a_1.off + 1)).bind fun x_2 => (call 62 #[.pointer x0, .int .i64 (IntKind.i64.wrap (x_2 + 1)), .int .i64 x1] M).bind fun r_3 => (asI .u64 r_3.1).bind fun x_4 => K #[.pointer x0,.int .i64 x1,g2,g3,g4,g5,.int .i64 (IntKind.i64.wrap (x_4)),g7,g8,g9,g10,g11,g12,g13,g14,g15,g16,g17,.pointer x0,.pointer x0,.pointer (some a_1),.pointer (some ⟨a_1.block, a_1.off + 1, none⟩),.int .i64 x_2,.int .i64 (IntKind.i64.wrap (x_2 + 1)),.int .i64 x1,.int .u64 x_4,.int .i64 (IntKind.i64.wrap (x_4)),g27,g28,g29,g30,g31,g32,g33,g34,g35,g36,g37,g38,g39,g40,g41,g42,g43,g44,g45,g46,g47,g48,g49,g50,g51,g52,g53] r_3.2 := by kernel_rfl
theorem k50_21 : P50 [1,1,1,1] = .seq (P50 [1,1,1,1,0]) (P50 [1,1,1,1,1]) := by kernel_rfl
theorem k50_22 : P50 [1,1,1,1,0] = .seq (P50 [1,1,1,1,0,0]) (P50 [1,1,1,1,0,1]) := by kernel_rfl
theorem k50_23 : P50 [1,1,1,1,0,0] = .region 6 (O50 [1,1,1,1,0,0]) true ∧ drawOk (O50 [1,1,1,1,0,0]) = true := ⟨by kernel_rfl, by kernel_rfl⟩
theorem r50_6 {x0 : Option Addr} {M : Mem} {call : CallM} {K : Array Value → Mem → R} :
    opsI Try.prog (callAt call (O50 [1,1,1,1,0,0])) (O50 [1,1,1,1,0,0]) (ordOf (O50 [1,1,1,1,0,0])) [] #[.pointer x0,g1,g2,g3,g4,g5,g6,g7,g8,g9,g10,g11,g12,g13,g14,g15,g16,g17,g18,g19,g20,g21,g22,g23,g24,g25,g26,g27,g28,g29,g30,g31,g32,g33,g34,g35,g36,g37,g38,g39,g40,g41,g42,g43,g44,g45,g46,g47,g48,g49,g50,g51,g52,g53] M K = (x0).bind fun a_1 => (M.slAt a_1.block a_1.off).bind fun s_2 => (x0).bind fun a_3 => (M.intAt .i64 a_3.block (a_3.off + 1)).bind fun x_4 => (idxA s_2.1 (s_2.2.1) 1 x_4).bind fun a_5 => (M.intAt .i64 a_5.block a_5.off).bind fun x_6 => K #[.pointer x0,g1,g2,g3,g4,g5,g6,g7,g8,g9,g10,g11,g12,g13,g14,g15,g16,g17,g18,g19,g20,g21,g22,g23,g24,g25,g26,.pointer x0,.pointer (some a_1),.pointer (some ⟨a_1.block, a_1.off, none⟩),.slice s_2.1 (s_2.2.1) (s_2.2.2),.pointer x0,.pointer (some a_3),.pointer (some ⟨a_3.block, a_3.off + 1, none⟩),.int .i64 x_4,.pointer (some a_5),.int .i64 x_6,.bool (x_6 == 1),g38,g39,g40,g41,g42,g43,g44,g45,g46,g47,g48,g49,g50,g51,g52,g53] M := by kernel_rfl
theorem c50_24 : P50 [1,1,1,1,0,1] = .cond (.tmp 37) (P50 [1,1,1,1,0,1,0]) (P50 [1,1,1,1,0,1,1]) := by kernel_rfl
theorem k50_25 : P50 [1,1,1,1,0,1,0] = .seq (P50 [1,1,1,1,0,1,0,0]) (P50 [1,1,1,1,0,1,0,1]) := by kernel_rfl
theorem k50_26 : P50 [1,1,1,1,0,1,0,0] = .seq (P50 [1,1,1,1,0,1,0,0,0]) (P50 [1,1,1,1,0,1,0,0,1]) := by kernel_rfl
theorem k50_27 : P50 [1,1,1,1,0,1,0,0,0] = .region 7 (O50 [1,1,1,1,0,1,0,0,0]) false := by kernel_rfl
theorem r50_7 {x6 : Int} {M : Mem} {call : CallM} {K : Array Value → Mem → R} :
    opsK Try.prog (fun _ => call) (O50 [1,1,1,1,0,1,0,0,0]) (O50 [1,1,1,1,0,1,0,0,0]).toList 0 #[g0,g1,g2,g3,g4,g5,.int .i64 x6,g7,g8,g9,g10,g11,g12,g13,g14,g15,g16,g17,g18,g19,g20,g21,g22,g23,g24,g25,g26,g27,g28,g29,g30,g31,g32,g33,g34,g35,g36,g37,g38,g39,g40,g41,g42,g43,g44,g45,g46,g47,g48,g49,g50,g51,g52,g53] M K = K #[g0,g1,g2,g3,g4,g5,.int .i64 x6,g7,g8,g9,g10,g11,g12,g13,g14,g15,g16,g17,g18,g19,g20,g21,g22,g23,g24,g25,g26,g27,g28,g29,g30,g31,g32,g33,g34,g35,g36,g37,.int .i64 x6,.bool (x6 == 0),g40,g41,g42,g43,g44,g45,g46,g47,g48,g49,g50,g51,g52,g53] M := by kernel_rfl
theorem c50_28 : P50 [1,1,1,1,0,1,0,0,1] = .cond (.tmp 39) (P50 [1,1,1,1,0,1,0,0,1,0]) (P50 [1,1,1,1,0,1,0,0,1,1]) := by kernel_rfl
theorem k50_29 : P50 [1,1,1,1,0,1,0,0,1,0] = .seq (P50 [1,1,1,1,0,1,0,0,1,0,0]) (P50 [1,1,1,1,0,1,0,0,1,0,1]) := by kernel_rfl
theorem k50_30 : P50 [1,1,1,1,0,1,0,0,1,0,0] = .region 8 (O50 [1,1,1,1,0,1,0,0,1,0,0]) false := by kernel_rfl
theorem r50_8 {M : Mem} {call : CallM} {K : Array Value → Mem → R} :
    opsK Try.prog (fun _ => call) (O50 [1,1,1,1,0,1,0,0,1,0,0]) (O50 [1,1,1,1,0,1,0,0,1,0,0]).toList 0 #[g0,g1,g2,g3,g4,g5,g6,g7,g8,g9,g10,g11,g12,g13,g14,g15,g16,g17,g18,g19,g20,g21,g22,g23,g24,g25,g26,g27,g28,g29,g30,g31,g32,g33,g34,g35,g36,g37,g38,g39,g40,g41,g42,g43,g44,g45,g46,g47,g48,g49,g50,g51,g52,g53] M K = K #[g0,g1,g2,g3,.int .i32 0,.int .i64 4,g6,g7,g8,g9,g10,g11,g12,g13,g14,g15,g16,g17,g18,g19,g20,g21,g22,g23,g24,g25,g26,g27,g28,g29,g30,g31,g32,g33,g34,g35,g36,g37,g38,g39,g40,g41,g42,g43,g44,g45,g46,g47,g48,g49,g50,g51,g52,g53] M := by kernel_rfl
theorem k50_31 : P50 [1,1,1,1,0,1,0,0,1,0,1] = .ret := by kernel_rfl
theorem k50_32 : P50 [1,1,1,1,0,1,0,0,1,1] = .skip := by kernel_rfl
theorem k50_33 : P50 [1,1,1,1,0,1,0,1] = .region 9 (O50 [1,1,1,1,0,1,0,1]) false := by kernel_rfl
theorem r50_9 {x6 : Int} {M : Mem} {call : CallM} {K : Array Value → Mem → R} :
    opsK Try.prog (fun _ => call) (O50 [1,1,1,1,0,1,0,1]) (O50 [1,1,1,1,0,1,0,1]).toList 0 #[g0,g1,g2,g3,g4,g5,.int .i64 x6,g7,g8,g9,g10,g11,g12,g13,g14,g15,g16,g17,g18,g19,g20,g21,g22,g23,g24,g25,g26,g27,g28,g29,g30,g31,g32,g33,g34,g35,g36,g37,g38,g39,g40,g41,g42,g43,g44,g45,g46,g47,g48,g49,g50,g51,g52,g53] M K = K #[g0,g1,g2,g3,g4,g5,.int .i64 (IntKind.i64.wrap (0 - x6)),g7,g8,g9,g10,g11,g12,g13,g14,g15,g16,g17,g18,g19,g20,g21,g22,g23,g24,g25,g26,g27,g28,g29,g30,g31,g32,g33,g34,g35,g36,g37,g38,g39,.int .i64 x6,.int .i64 (IntKind.i64.wrap (0 - x6)),g42,g43,g44,g45,g46,g47,g48,g49,g50,g51,g52,g53] M := by kernel_rfl
theorem k50_34 : P50 [1,1,1,1,1] = .seq (P50 [1,1,1,1,1,0]) (P50 [1,1,1,1,1,1]) := by kernel_rfl
theorem k50_35 : P50 [1,1,1,1,1,0] = .region 10 (O50 [1,1,1,1,1,0]) false := by kernel_rfl
theorem r50_10 {x0 : Option Addr} {x1 : Int} {M : Mem} {call : CallM} {K : Array Value → Mem → R} :
    opsK Try.prog (fun _ => call) (O50 [1,1,1,1,1,0]) (O50 [1,1,1,1,1,0]).toList 0 #[.pointer x0,.int .i64 x1,g2,g3,g4,g5,g6,g7,g8,g9,g10,g11,g12,g13,g14,g15,g16,g17,g18,g19,g20,g21,g22,g23,g24,g25,g26,g27,g28,g29,g30,g31,g32,g33,g34,g35,g36,g37,g38,g39,g40,g41,g42,g43,g44,g45,g46,g47,g48,g49,g50,g51,g52,g53] M K = (x0).bind fun a_1 => (M.intAt .i64 a_1.block (a_1.off + 1)).bind fun x_2 => (x0).bind fun a_3 => (M.put a_3.block (a_3.off + 1) (.int .i64 (IntKind.i64.wrap ((IntKind.i64.wrap (x_2 + x1)) + 1)))).bind fun M_4 => K #[.pointer x0,.int .i64 x1,g2,g3,g4,g5,g6,g7,g8,g9,g10,g11,g12,g13,g14,g15,g16,g17,g18,g19,g20,g21,g22,g23,g24,g25,g26,g27,g28,g29,g30,g31,g32,g33,g34,g35,g36,g37,g38,g39,g40,g41,.pointer x0,.pointer x0,.pointer (some a_1),.pointer (some ⟨a_1.block, a_1.off + 1, none⟩),.int .i64 x_2,.int .i64 x1,.int .i64 (IntKind.i64.wrap (x_2 + x1)),.int .i64 (IntKind.i64.wrap ((IntKind.i64.wrap (x_2 + x1)) + 1)),.pointer (some a_3),.pointer (some ⟨a_3.block, a_3.off + 1, none⟩),g52,g53] M_4 := by kernel_rfl
theorem k50_36 : P50 [1,1,1,1,1,1] = .seq (P50 [1,1,1,1,1,1,0]) (P50 [1,1,1,1,1,1,1]) := by kernel_rfl
theorem k50_37 : P50 [1,1,1,1,1,1,0] = .region 11 (O50 [1,1,1,1,1,1,0]) false := by kernel_rfl
theorem r50_11 {x6 : Int} {M : Mem} {call : CallM} {K : Array Value → Mem → R} :
    opsK Try.prog (fun _ => call) (O50 [1,1,1,1,1,1,0]) (O50 [1,1,1,1,1,1,0]).toList 0 #[g0,g1,g2,g3,g4,g5,.int .i64 x6,g7,g8,g9,g10,g11,g12,g13,g14,g15,g16,g17,g18,g19,g20,g21,g22,g23,g24,g25,g26,g27,g28,g29,g30,g31,g32,g33,g34,g35,g36,g37,g38,g39,g40,g41,g42,g43,g44,g45,g46,g47,g48,g49,g50,g51,g52,g53] M K = K #[g0,g1,g2,g3,.int .i32 (IntKind.i32.wrap (x6)),.int .i64 0,.int .i64 x6,g7,g8,g9,g10,g11,g12,g13,g14,g15,g16,g17,g18,g19,g20,g21,g22,g23,g24,g25,g26,g27,g28,g29,g30,g31,g32,g33,g34,g35,g36,g37,g38,g39,g40,g41,g42,g43,g44,g45,g46,g47,g48,g49,g50,g51,.int .i64 x6,.int .i32 (IntKind.i32.wrap (x6))] M := by kernel_rfl
theorem k50_38 : P50 [1,1,1,1,1,1,1] = .ret := by kernel_rfl
theorem k50_39 : P50 [1,1,1,1,0,1,1] = .skip := by kernel_rfl
noncomputable def S50_1 : List Item := [.code (P50 [1,0,1]), .code (P50 [1,1])]
def A50_1 (x0 : Option Addr) (x1 : Int) (x12 : Bool) (M : Mem) (Q : Value → Mem → Prop) : Prop := ∀ (g2 g3 g4 g5 g6 g7 g8 g9 g10 g11 g13 g14 g15 g16 g17 g18 g19 g20 g21 g22 g23 g24 g25 g26 g27 g28 g29 g30 g31 g32 g33 g34 g35 g36 g37 g38 g39 g40 g41 g42 g43 g44 g45 g46 g47 g48 g49 g50 g51 g52 g53 : Value), Rn Try.prog Try.f50 S50_1 #[.pointer x0, .int .i64 x1, g2, g3, g4, g5, g6, g7, g8, g9, g10, g11, .bool x12, g13, g14, g15, g16, g17, g18, g19, g20, g21, g22, g23, g24, g25, g26, g27, g28, g29, g30, g31, g32, g33, g34, g35, g36, g37, g38, g39, g40, g41, g42, g43, g44, g45, g46, g47, g48, g49, g50, g51, g52, g53] M Q
theorem w50_0 {x0 : Option Addr} {x1 : Int} {M : Mem} {Q : Value → Mem → Prop} (H :
    ((x1 < 1 →
     A50_1 x0 x1 true M Q) ∧
     (¬ (x1 < 1) →
     A50_1 x0 x1 (decide (x1 > 31)) M Q))) :
    Cn Try.prog 50 #[.pointer x0, .int .i64 x1] M Q := by
  refine Cn.of b50 d50 t50 ?_
  refine Rn.seq k50_0 (Rn.region k50_1 (fun call K => r50_0) (Rch.leaf (Rn.seq k50_2 (Rn.seq k50_3 (Rn.region k50_4 (fun call K => r50_1) ?_)))))
  refine Rch.cB (fun h => ?_) (fun h => ?_)
  · replace H := H.1 (of_decide_eq_true h)
    refine Rch.leaf ?_
    exact H _ _ _ _ _ _ _ _ _ _ _ _ _ _ _ _ _ _ _ _ _ _ _ _ _ _ _ _ _ _ _ _ _ _ _ _ _ _ _ _ _ _ _ _ _ _ _ _ _ _ _
  · replace H := H.2 (of_decide_eq_false h)
    refine Rch.leaf ?_
    exact H _ _ _ _ _ _ _ _ _ _ _ _ _ _ _ _ _ _ _ _ _ _ _ _ _ _ _ _ _ _ _ _ _ _ _ _ _ _ _ _ _ _ _ _ _ _ _ _ _ _ _

theorem w50_1 {x0 : Option Addr} {x1 : Int} {x12 : Bool} {M : Mem} {Q : Value → Mem → Prop} (H :
    ((x12 = true →
     Q (.tuple #[.int .i32 0, .int .i64 2]) M) ∧
     (x12 = false →
     Cn Try.prog 28 #[.pointer x0] M fun v1' N1' =>
      ∃ x2', asI .i64 v1' = some x2' ∧
      (((IntKind.i64.wrap (x1 + 1)) > x2' →
       Q (.tuple #[.int .i32 0, .int .i64 3]) N1') ∧
       (¬ ((IntKind.i64.wrap (x1 + 1)) > x2') →
       ∃ a3', x0 = some a3' ∧
       ∃ x4', N1'.intAt .i64 a3'.block (a3'.off + 1) = some x4' ∧
       Cn Try.prog 62 #[.pointer x0, .int .i64 (IntKind.i64.wrap (x4' + 1)), .int .i64 x1] N1' fun v5' N5' =>
        ∃ x6', asI .u64 v5' = some x6' ∧
        ∃ a7', x0 = some a7' ∧
        ∃ s8', N5'.slAt a7'.block a7'.off = some s8' ∧
        ∃ a9', x0 = some a9' ∧
        ∃ x10', N5'.intAt .i64 a9'.block (a9'.off + 1) = some x10' ∧
        ∃ a11', idxA s8'.1 (s8'.2.1) 1 x10' = some a11' ∧
        ∃ x12', N5'.intAt .i64 a11'.block a11'.off = some x12' ∧
        ((x12' = 1 →
         (((IntKind.i64.wrap (x6')) = 0 →
          Q (.tuple #[.int .i32 0, .int .i64 4]) N5') ∧
          ((IntKind.i64.wrap (x6')) ≠ 0 →
          ∃ a13', x0 = some a13' ∧
          ∃ x14', N5'.intAt .i64 a13'.block (a13'.off + 1) = some x14' ∧
          ∃ a15', x0 = some a15' ∧
          ∃ M16', N5'.put a15'.block (a15'.off + 1) (.int .i64 (IntKind.i64.wrap ((IntKind.i64.wrap (x14' + x1)) + 1))) = some M16' ∧
          Q (.tuple #[.int .i32 (IntKind.i32.wrap ((IntKind.i64.wrap (0 - (IntKind.i64.wrap (x6')))))), .int .i64 0]) M16'))) ∧
         (x12' ≠ 1 →
         ∃ a17', x0 = some a17' ∧
         ∃ x18', N5'.intAt .i64 a17'.block (a17'.off + 1) = some x18' ∧
         ∃ a19', x0 = some a19' ∧
         ∃ M20', N5'.put a19'.block (a19'.off + 1) (.int .i64 (IntKind.i64.wrap ((IntKind.i64.wrap (x18' + x1)) + 1))) = some M20' ∧
         Q (.tuple #[.int .i32 (IntKind.i32.wrap ((IntKind.i64.wrap (x6')))), .int .i64 0]) M20'))))))) :
    A50_1 x0 x1 x12 M Q := by
  intro g2 g3 g4 g5 g6 g7 g8 g9 g10 g11 g13 g14 g15 g16 g17 g18 g19 g20 g21 g22 g23 g24 g25 g26 g27 g28 g29 g30 g31 g32 g33 g34 g35 g36 g37 g38 g39 g40 g41 g42 g43 g44 g45 g46 g47 g48 g49 g50 g51 g52 g53
  refine Rn.cnd (v := x12) ⟨c50_5, rfl, by kernel_rfl⟩ (fun h => ?_) (fun h => ?_)
  · replace H := H.1 (h)
    refine Rn.seq k50_6 (Rn.region k50_7 (fun call K => r50_2) (Rch.leaf ?_))
    exact Rn.ret k50_8 e50 H
  · replace H := H.2 (h)
    refine Rn.skip k50_10 (Rn.seq k50_11 (Rn.seq k50_12 (Rn.region k50_13 (fun call K => r50_3) (Rch.call H fun v1' N1' H => Rch.ex H fun x2' H => Rch.leaf ?_))))
    refine Rn.cnd (v := decide ((IntKind.i64.wrap (x1 + 1)) > x2')) ⟨c50_14, rfl, by kernel_rfl⟩ (fun h => ?_) (fun h => ?_)
    · replace H := H.1 (of_decide_eq_true h)
      refine Rn.seq k50_15 (Rn.region k50_16 (fun call K => r50_4) (Rch.leaf ?_))
      exact Rn.ret k50_17 e50 H
    · replace H := H.2 (of_decide_eq_false h)
      refine Rn.skip k50_18 (Rn.seq k50_19 (Rn.region k50_20 (fun call K => r50_5) (Rch.ex H fun a3' H => Rch.ex H fun x4' H => Rch.call H fun v5' N5' H => Rch.ex H fun x6' H => Rch.leaf (Rn.seq k50_21 (Rn.seq k50_22 (Rn.regionD k50_23 (fun call K => r50_6) (Rch.ex H fun a7' H => ?_)))))))
      refine Rch.ex H fun s8' H => Rch.ex H fun a9' H => Rch.ex H fun x10' H => Rch.ex H fun a11' H => Rch.ex H fun x12' H => Rch.leaf ?_
      refine Rn.cnd (v := x12' == 1) ⟨c50_24, rfl, by kernel_rfl⟩ (fun h => ?_) (fun h => ?_)
      · replace H := H.1 (eq_of_beq h)
        refine Rn.seq k50_25 (Rn.seq k50_26 (Rn.region k50_27 (fun call K => r50_7) (Rch.leaf ?_)))
        refine Rn.cnd (v := (IntKind.i64.wrap (x6')) == 0) ⟨c50_28, rfl, by kernel_rfl⟩ (fun h => ?_) (fun h => ?_)
        · replace H := H.1 (eq_of_beq h)
          refine Rn.seq k50_29 (Rn.region k50_30 (fun call K => r50_8) (Rch.leaf ?_))
          exact Rn.ret k50_31 e50 H
        · replace H := H.2 (ne_of_beq_false h)
          refine Rn.skip k50_32 (Rn.region k50_33 (fun call K => r50_9) (Rch.leaf (Rn.seq k50_34 (Rn.region k50_35 (fun call K => r50_10) (Rch.ex H fun a13' H => Rch.ex H fun x14' H => Rch.ex H fun a15' H => Rch.ex H fun M16' H => Rch.leaf (Rn.seq k50_36 (Rn.region k50_37 (fun call K => r50_11) ?_)))))))
          refine Rch.leaf ?_
          exact Rn.ret k50_38 e50 H
      · replace H := H.2 (ne_of_beq_false h)
        refine Rn.skip k50_39 (Rn.seq k50_34 (Rn.region k50_35 (fun call K => r50_10) (Rch.ex H fun a17' H => Rch.ex H fun x18' H => Rch.ex H fun a19' H => Rch.ex H fun M20' H => Rch.leaf (Rn.seq k50_36 (Rn.region k50_37 (fun call K => r50_11) (Rch.leaf ?_))))))
        exact Rn.ret k50_38 e50 H


/-! ### (*zoetrope/zoetroperef01.Reader).Uvlc: function 51 -/
noncomputable abbrev P51 (p : List Nat) : Code := subC (codeOf Try.f51) p
noncomputable abbrev O51 (p : List Nat) : Array Oper := opsOf (subC (codeOf Try.f51) p)
theorem b51 : Try.prog.funcs[51]? = some Try.f51 ∧ (Orc.tab Try.prog).lookup 51 = none := ⟨by kernel_rfl, by kernel_rfl⟩
theorem d51 : Try.f51.body = some (P51 []) := by kernel_rfl
theorem t51 {x0 : Option Addr} : #[.pointer x0] ++ Array.replicate (Try.f51.ntmps - (#[.pointer x0] : Array Value).size) undef = #[.pointer x0,undef,undef,undef,undef,undef,undef,undef,undef,undef,undef,undef,undef,undef,undef,undef,undef,undef,undef,undef,undef,undef,undef,undef,undef,undef,undef,undef,undef,undef,undef,undef,undef,undef,undef,undef,undef,undef,undef,undef,undef,undef,undef,undef,undef,undef,undef,undef,undef,undef,undef,undef,undef,undef,undef,undef,undef,undef,undef,undef,undef,undef,undef,undef,undef,undef,undef,undef,undef] := by kernel_rfl
theorem k51_0 : P51 [] = .seq (P51 [0]) (P51 [1]) := by kernel_rfl
theorem k51_1 : P51 [0] = .region 0 (O51 [0]) false := by kernel_rfl
theorem r51_0 {M : Mem} {call : CallM} {K : Array Value → Mem → R} :
    opsK Try.prog (fun _ => call) (O51 [0]) (O51 [0]).toList 0 #[g0,g1,g2,g3,g4,g5,g6,g7,g8,g9,g10,g11,g12,g13,g14,g15,g16,g17,g18,g19,g20,g21,g22,g23,g24,g25,g26,g27,g28,g29,g30,g31,g32,g33,g34,g35,g36,g37,g38,g39,g40,g41,g42,g43,g44,g45,g46,g47,g48,g49,g50,g51,g52,g53,g54,g55,g56,g57,g58,g59,g60,g61,g62,g63,g64,g65,g66,g67,g68] M K = K #[g0,g1,.int .u32 0,.int .i64 0,g4,g5,g6,g7,g8,g9,g10,g11,g12,g13,g14,g15,g16,g17,g18,g19,g20,g21,g22,g23,g24,g25,g26,g27,g28,g29,g30,g31,g32,g33,g34,g35,g36,g37,g38,g39,g40,g41,g42,g43,g44,g45,g46,g47,g48,g49,g50,g51,g52,g53,g54,g55,g56,g57,g58,g59,g60,g61,g62,g63,g64,g65,g66,g67,g68] M := by kernel_rfl
theorem k51_2 : P51 [1] = .seq (P51 [1,0]) (P51 [1,1]) := by kernel_rfl
theorem k51_3 : P51 [1,0] = .region 1 (O51 [1,0]) false := by kernel_rfl
theorem r51_1 {M : Mem} {call : CallM} {K : Array Value → Mem → R} :
    opsK Try.prog (fun _ => call) (O51 [1,0]) (O51 [1,0]).toList 0 #[g0,g1,g2,g3,g4,g5,g6,g7,g8,g9,g10,g11,g12,g13,g14,g15,g16,g17,g18,g19,g20,g21,g22,g23,g24,g25,g26,g27,g28,g29,g30,g31,g32,g33,g34,g35,g36,g37,g38,g39,g40,g41,g42,g43,g44,g45,g46,g47,g48,g49,g50,g51,g52,g53,g54,g55,g56,g57,g58,g59,g60,g61,g62,g63,g64,g65,g66,g67,g68] M K = K #[g0,g1,g2,g3,.int .i64 0,g5,g6,g7,g8,g9,g10,g11,g12,g13,g14,g15,g16,g17,g18,g19,g20,g21,g22,g23,g24,g25,g26,g27,g28,g29,g30,g31,g32,g33,g34,g35,g36,g37,g38,g39,g40,g41,g42,g43,g44,g45,g46,g47,g48,g49,g50,g51,g52,g53,g54,g55,g56,g57,g58,g59,g60,g61,g62,g63,g64,g65,g66,g67,g68] M := by kernel_rfl
theorem k51_4 : P51 [1,1] = .seq (P51 [1,1,0]) (P51 [1,1,1]) := by kernel_rfl
theorem k51_5 : P51 [1,1,0] = .block 0 (P51 [1,1,0,0]) := by kernel_rfl
theorem k51_6 : P51 [1,1,0,0] = .loop (P51 [1,1,0,0,0]) := by kernel_rfl
theorem k51_7 : P51 [1,1,0,0,0] = .seq (P51 [1,1,0,0,0,0]) (P51 [1,1,0,0,0,1]) := by kernel_rfl
theorem k51_8 : P51 [1,1,0,0,0,0] = .seq (P51 [1,1,0,0,0,0,0]) (P51 [1,1,0,0,0,0,1]) := by kernel_rfl
theorem k51_9 : P51 [1,1,0,0,0,0,0] = .region 2 (O51 [1,1,0,0,0,0,0]) true ∧ drawOk (O51 [1,1,0,0,0,0,0]) = true := ⟨by kernel_rfl, by kernel_rfl⟩
theorem r51_2 {x0 : Option Addr} {x4 : Int} {M : Mem} {call : CallM} {K : Array Value → Mem → R} :
    opsI Try.prog (callAt call (O51 [1,1,0,0,0,0,0])) (O51 [1,1,0,0,0,0,0]) (ordOf (O51 [1,1,0,0,0,0,0])) [] #[.pointer x0,g1,g2,g3,.int .i64 x4,g5,g6,g7,g8,g9,g10,g11,g12,g13,g14,g15,g16,g17,g18,g19,g20,g21,g22,g23,g24,g25,g26,g27,g28,g29,g30,g31,g32,g33,g34,g35,g36,g37,g38,g39,g40,g41,g42,g43,g44,g45,g46,g47,g48,g49,g50,g51,g52,g53,g54,g55,g56,g57,g58,g59,g60,g61,g62,g63,g64,g65,g66,g67,g68] M K = withK (fun w8 w9 w10 w11 w12 w13 w14 w15 w16 w17 w18 w19 w20 w21 w22 w23 w24 w25 w26 w27 w28 M => K #[.pointer x0,g1,g2,g3,.int .i64 x4,g5,.int .i64 x4,.bool (decide (x4 < 32)),w8,w9,w10,w11,w12,w13,w14,w15,w16,w17,w18,w19,w20,w21,w22,w23,w24,w25,w26,w27,w28,g29,g30,g31,g32,g33,g34,g35,g36,g37,g38,g39,g40,g41,g42,g43,g44,g45,g46,g47,g48,g49,g50,g51,g52,g53,g54,g55,g56,g57,g58,g59,g60,g61,g62,g63,g64,g65,g66,g67,g68] M) fun k => cond (decide (x4 < 32)) ((call 28 #[.pointer x0] M).bind fun r_1 => (asI .i64 r_1.1).bind fun x_2 => cond (decide (x4 < x_2)) ((x0).bind fun a_3 => (r_1.2.slAt a_3.block a_3.off).bind fun s_4 => (x0).bind fun a_5 => (r_1.2.intAt .i64 a_5.block (a_5.off + 1)).bind fun x_6 => (idxA s_4.1 (s_4.2.1) 1 (IntKind.i64.wrap (x_6 + x4))).bind fun a_7 => (r_1.2.intAt .i64 a_7.block a_7.off).bind fun x_8 => k (.bool true) (.int .i64 x4) (.pointer x0) (.int .i64 x_2) (.bool (decide (x4 < x_2))) (.bool (decide (x4 < x_2))) (.bool true) (.pointer x0) (.pointer (some a_3)) (.pointer (some ⟨a_3.block, a_3.off, none⟩)) (.slice s_4.1 (s_4.2.1) (s_4.2.2)) (.pointer x0) (.pointer (some a_5)) (.pointer (some ⟨a_5.block, a_5.off + 1, none⟩)) (.int .i64 x_6) (.int .i64 x4) (.int .i64 (IntKind.i64.wrap (x_6 + x4))) (.pointer (some a_7)) (.int .i64 x_8) (.bool (x_8 == 0)) (.bool (x_8 == 0)) r_1.2) (k (.bool true) (.int .i64 x4) (.pointer x0) (.int .i64 x_2) (.bool (decide (x4 < x_2))) (.bool (decide (x4 < x_2))) (.bool false) undef undef undef undef undef undef undef undef undef undef undef undef undef (.bool false) r_1.2)) (k (.bool false) undef undef undef undef (.bool false) (.bool false) undef undef undef undef undef undef undef undef undef undef undef undef undef (.bool false) M) := by kernel_rfl
theorem c51_10 : P51 [1,1,0,0,0,0,1] = .cond (.tmp 28) (P51 [1,1,0,0,0,0,1,0]) (P51 [1,1,0,0,0,0,1,1]) := by kernel_rfl
theorem k51_11 : P51 [1,1,0,0,0,0,1,0] = .skip := by kernel_rfl
theorem k51_12 : P51 [1,1,0,0,0,1] = .block 1 (P51 [1,1,0,0,0,1,0]) := by kernel_rfl
theorem k51_13 : P51 [1,1,0,0,0,1,0] = .region 3 (O51 [1,1,0,0,0,1,0]) false := by kernel_rfl
theorem r51_3 {x4 : Int} {M : Mem} {call : CallM} {K : Array Value → Mem → R} :
    opsK Try.prog (fun _ => call) (O51 [1,1,0,0,0,1,0]) (O51 [1,1,0,0,0,1,0]).toList 0 #[g0,g1,g2,g3,.int .i64 x4,g5,g6,g7,g8,g9,g10,g11,g12,g13,g14,g15,g16,g17,g18,g19,g20,g21,g22,g23,g24,g25,g26,g27,g28,g29,g30,g31,g32,g33,g34,g35,g36,g37,g38,g39,g40,g41,g42,g43,g44,g45,g46,g47,g48,g49,g50,g51,g52,g53,g54,g55,g56,g57,g58,g59,g60,g61,g62,g63,g64,g65,g66,g67,g68] M K = K #[g0,g1,g2,g3,.int .i64 (IntKind.i64.wrap (x4 + 1)),g5,g6,g7,g8,g9,g10,g11,g12,g13,g14,g15,g16,g17,g18,g19,g20,g21,g22,g23,g24,g25,g26,g27,g28,.int .i64 x4,.int .i64 (IntKind.i64.wrap (x4 + 1)),g31,g32,g33,g34,g35,g36,g37,g38,g39,g40,g41,g42,g43,g44,g45,g46,g47,g48,g49,g50,g51,g52,g53,g54,g55,g56,g57,g58,g59,g60,g61,g62,g63,g64,g65,g66,g67,g68] M := by kernel_rfl
theorem k51_14 : P51 [1,1,0,0,0,0,1,1] = .exit 0 := by kernel_rfl
theorem k51_15 : P51 [1,1,1] = .seq (P51 [1,1,1,0]) (P51 [1,1,1,1]) := by kernel_rfl
theorem k51_16 : P51 [1,1,1,0] = .seq (P51 [1,1,1,0,0]) (P51 [1,1,1,0,1]) := by kernel_rfl
theorem k51_17 : P51 [1,1,1,0,0] = .region 4 (O51 [1,1,1,0,0]) false := by kernel_rfl
theorem r51_4 {x4 : Int} {M : Mem} {call : CallM} {K : Array Value → Mem → R} :
    opsK Try.prog (fun _ => call) (O51 [1,1,1,0,0]) (O51 [1,1,1,0,0]).toList 0 #[g0,g1,g2,g3,.int .i64 x4,g5,g6,g7,g8,g9,g10,g11,g12,g13,g14,g15,g16,g17,g18,g19,g20,g21,g22,g23,g24,g25,g26,g27,g28,g29,g30,g31,g32,g33,g34,g35,g36,g37,g38,g39,g40,g41,g42,g43,g44,g45,g46,g47,g48,g49,g50,g51,g52,g53,g54,g55,g56,g57,g58,g59,g60,g61,g62,g63,g64,g65,g66,g67,g68] M K = K #[g0,g1,g2,g3,.int .i64 x4,g5,g6,g7,g8,g9,g10,g11,g12,g13,g14,g15,g16,g17,g18,g19,g20,g21,g22,g23,g24,g25,g26,g27,g28,g29,g30,.int .i64 x4,.bool (x4 == 32),g33,g34,g35,g36,g37,g38,g39,g40,g41,g42,g43,g44,g45,g46,g47,g48,g49,g50,g51,g52,g53,g54,g55,g56,g57,g58,g59,g60,g61,g62,g63,g64,g65,g66,g67,g68] M := by kernel_rfl
theorem c51_18 : P51 [1,1,1,0,1] = .cond (.tmp 32) (P51 [1,1,1,0,1,0]) (P51 [1,1,1,0,1,1]) := by kernel_rfl
theorem k51_19 : P51 [1,1,1,0,1,0] = .seq (P51 [1,1,1,0,1,0,0]) (P51 [1,1,1,0,1,0,1]) := by kernel_rfl
theorem k51_20 : P51 [1,1,1,0,1,0,0] = .region 5 (O51 [1,1,1,0,1,0,0]) false := by kernel_rfl
theorem r51_5 {M : Mem} {call : CallM} {K : Array Value → Mem → R} :
    opsK Try.prog (fun _ => call) (O51 [1,1,1,0,1,0,0]) (O51 [1,1,1,0,1,0,0]).toList 0 #[g0,g1,g2,g3,g4,g5,g6,g7,g8,g9,g10,g11,g12,g13,g14,g15,g16,g17,g18,g19,g20,g21,g22,g23,g24,g25,g26,g27,g28,g29,g30,g31,g32,g33,g34,g35,g36,g37,g38,g39,g40,g41,g42,g43,g44,g45,g46,g47,g48,g49,g50,g51,g52,g53,g54,g55,g56,g57,g58,g59,g60,g61,g62,g63,g64,g65,g66,g67,g68] M K = K #[g0,g1,.int .u32 0,.int .i64 4,g4,g5,g6,g7,g8,g9,g10,g11,g12,g13,g14,g15,g16,g17,g18,g19,g20,g21,g22,g23,g24,g25,g26,g27,g28,g29,g30,g31,g32,g33,g34,g35,g36,g37,g38,g39,g40,g41,g42,g43,g44,g45,g46,g47,g48,g49,g50,g51,g52,g53,g54,g55,g56,g57,g58,g59,g60,g61,g62,g63,g64,g65,g66,g67,g68] M := by kernel_rfl
theorem k51_21 : P51 [1,1,1,0,1,0,1] = .ret := by kernel_rfl
theorem e51 {M : Mem} : finish Try.prog Try.f51 #[g0,g1,g2,g3,g4,g5,g6,g7,g8,g9,g10,g11,g12,g13,g14,g15,g16,g17,g18,g19,g20,g21,g22,g23,g24,g25,g26,g27,g28,g29,g30,g31,g32,g33,g34,g35,g36,g37,g38,g39,g40,g41,g42,g43,g44,g45,g46,g47,g48,g49,g50,g51,g52,g53,g54,g55,g56,g57,g58,g59,g60,g61,g62,g63,g64,g65,g66,g67,g68] M = some (.tuple #[g2, g3], M) := by kernel_rfl
theorem k51_23 : P51 [1,1,1,0,1,1] = .skip := by kernel_rfl
theorem k51_24 : P51 [1,1,1,1] = .seq (P51 [1,1,1,1,0]) (P51 [1,1,1,1,1]) := by kernel_rfl
theorem k51_25 : P51 [1,1,1,1,0] = .seq (P51 [1,1,1,1,0,0]) (P51 [1,1,1,1,0,1]) := by kernel_rfl
theorem k51_26 : P51 [1,1,1,1,0,0] = .region 6 (O51 [1,1,1,1,0,0]) false := by kernel_rfl
theorem r51_6 {x0 : Option Addr} {x4 : Int} {M : Mem} {call : CallM} {K : Array Value → Mem → R} :
    opsK Try.prog (fun _ => call) (O51 [1,1,1,1,0,0]) (O51 [1,1,1,1,0,0]).toList 0 #[.pointer x0,g1,g2,g3,.int .i64 x4,g5,g6,g7,g8,g9,g10,g11,g12,g13,g14,g15,g16,g17,g18,g19,g20,g21,g22,g23,g24,g25,g26,g27,g28,g29,g30,g31,g32,g33,g34,g35,g36,g37,g38,g39,g40,g41,g42,g43,g44,g45,g46,g47,g48,g49,g50,g51,g52,g53,g54,g55,g56,g57,g58,g59,g60,g61,g62,g63,g64,g65,g66,g67,g68] M K = withK (fun w35 w36 w37 w38 w39 w40 w41 w42 w43 w44 M => K #[.pointer x0,g1,g2,g3,.int .i64 x4,g5,g6,g7,g8,g9,g10,g11,g12,g13,g14,g15,g16,g17,g18,g19,g20,g21,g22,g23,g24,g25,g26,g27,g28,g29,g30,g31,g32,.int .i64 x4,.pointer x0,w35,w36,w37,w38,w39,w40,w41,w42,w43,w44,g45,g46,g47,g48,g49,g50,g51,g52,g53,g54,g55,g56,g57,g58,g59,g60,g61,g62,g63,g64,g65,g66,g67,g68] M) fun k => (call 28 #[.pointer x0] M).bind fun r_1 => (asI .i64 r_1.1).bind fun x_2 => cond (x4 == x_2) (k (.int .i64 x_2) (.bool (x4 == x_2)) (.bool true) undef undef undef undef undef undef (.bool true) r_1.2) ((call 28 #[.pointer x0] r_1.2).bind fun r_3 => (asI .i64 r_3.1).bind fun x_4 => k (.int .i64 x_2) (.bool (x4 == x_2)) (.bool false) (.int .i64 x4) (.int .i64 (IntKind.i64.wrap (2 * x4))) (.int .i64 (IntKind.i64.wrap ((IntKind.i64.wrap (2 * x4)) + 1))) (.pointer x0) (.int .i64 x_4) (.bool (decide ((IntKind.i64.wrap ((IntKind.i64.wrap (2 * x4)) + 1)) > x_4))) (.bool (decide ((IntKind.i64.wrap ((IntKind.i64.wrap (2 * x4)) + 1)) > x_4))) r_3.2) := by kernel_rfl
theorem c51_27 : P51 [1,1,1,1,0,1] = .cond (.tmp 44) (P51 [1,1,1,1,0,1,0]) (P51 [1,1,1,1,0,1,1]) := by kernel_rfl
theorem k51_28 : P51 [1,1,1,1,0,1,0] = .seq (P51 [1,1,1,1,0,1,0,0]) (P51 [1,1,1,1,0,1,0,1]) := by kernel_rfl
theorem k51_29 : P51 [1,1,1,1,0,1,0,0] = .region 7 (O51 [1,1,1,1,0,1,0,0]) false := by kernel_rfl
theorem r51_7 {M : Mem} {call : CallM} {K : Array Value → Mem → R} :
    opsK Try.prog (fun _ => call) (O51 [1,1,1,1,0,1,0,0]) (O51 [1,1,1,1,0,1,0,0]).toList 0 #[g0,g1,g2,g3,g4,g5,g6,g7,g8,g9,g10,g11,g12,g13,g14,g15,g16,g17,g18,g19,g20,g21,g22,g23,g24,g25,g26,g27,g28,g29,g30,g31,g32,g33,g34,g35,g36,g37,g38,g39,g40,g41,g42,g43,g44,g45,g46,g47,g48,g49,g50,g51,g52,g53,g54,g55,g56,g57,g58,g59,g60,g61,g62,g63,g64,g65,g66,g67,g68] M K = K #[g0,g1,.int .u32 0,.int .i64 3,g4,g5,g6,g7,g8,g9,g10,g11,g12,g13,g14,g15,g16,g17,g18,g19,g20,g21,g22,g23,g24,g25,g26,g27,g28,g29,g30,g31,g32,g33,g34,g35,g36,g37,g38,g39,g40,g41,g42,g43,g44,g45,g46,g47,g48,g49,g50,g51,g52,g53,g54,g55,g56,g57,g58,g59,g60,g61,g62,g63,g64,g65,g66,g67,g68] M := by kernel_rfl
theorem k51_30 : P51 [1,1,1,1,0,1,0,1] = .ret := by kernel_rfl
theorem k51_31 : P51 [1,1,1,1,0,1,1] = .skip := by kernel_rfl
theorem k51_32 : P51 [1,1,1,1,1] = .seq (P51 [1,1,1,1,1,0]) (P51 [1,1,1,1,1,1]) := by kernel_rfl
theorem k51_33 : P51 [1,1,1,1,1,0] = .region 8 (O51 [1,1,1,1,1,0]) false := by kernel_rfl
theorem r51_8 {x0 : Option Addr} {x4 : Int} {M : Mem} {call : CallM} {K : Array Value → Mem → R} :
    opsK Try.prog (fun _ => call) (O51 [1,1,1,1,1,0]) (O51 [1,1,1,1,1,0]).toList 0 #[.pointer x0,g1,g2,g3,.int .i64 x4,g5,g6,g7,g8,g9,g10,g11,g12,g13,g14,g15,g16,g17,g18,g19,g20,g21,g22,g23,g24,g25,g26,g27,g28,g29,g30,g31,g32,g33,g34,g35,g36,g37,g38,g39,g40,g41,g42,g43,g44,g45,g46,g47,g48,g49,g50,g51,g52,g53,g54,g55,g56,g57,g58,g59,g60,g61,g62,g63,g64,g65,g66,g67,g68] M K = (x0).bind fun a_1 => (M.intAt .i64 a_1.block (a_1.off + 1)).bind fun x_2 => (call 62 #[.pointer x0, .int .i64 (IntKind.i64.wrap (x_2 + x4)), .int .i64 (IntKind.i64.wrap (x4 + 1))] M).bind fun r_3 => (asI .u64 r_3.1).bind fun x_4 => K #[.pointer x0,g1,g2,g3,.int .i64 x4,.int .u64 (IntKind.u64.wrap (x_4 - 1)),g6,g7,g8,g9,g10,g11,g12,g13,g14,g15,g16,g17,g18,g19,g20,g21,g22,g23,g24,g25,g26,g27,g28,g29,g30,g31,g32,g33,g34,g35,g36,g37,g38,g39,g40,g41,g42,g43,g44,.pointer x0,.pointer x0,.pointer (some a_1),.pointer (some ⟨a_1.block, a_1.off + 1, none⟩),.int .i64 x_2,.int .i64 x4,.int .i64 (IntKind.i64.wrap (x_2 + x4)),.int .i64 x4,.int .i64 (IntKind.i64.wrap (x4 + 1)),.int .u64 x_4,.int .u64 (IntKind.u64.wrap (x_4 - 1)),g56,g57,g58,g59,g60,g61,g62,g63,g64,g65,g66,g67,g68] r_3.2 := by kernel_rfl
theorem k51_34 : P51 [1,1,1,1,1,1] = .seq (P51 [1,1,1,1,1,1,0]) (P51 [1,1,1,1,1,1,1]) := by kernel_rfl
theorem k51_35 : P51 [1,1,1,1,1,1,0] = .region 9 (O51 [1,1,1,1,1,1,0]) false := by kernel_rfl
theorem r51_9 {x0 : Option Addr} {x4 : Int} {M : Mem} {call : CallM} {K : Array Value → Mem → R} :
    opsK Try.prog (fun _ => call) (O51 [1,1,1,1,1,1,0]) (O51 [1,1,1,1,1,1,0]).toList 0 #[.pointer x0,g1,g2,g3,.int .i64 x4,g5,g6,g7,g8,g9,g10,g11,g12,g13,g14,g15,g16,g17,g18,g19,g20,g21,g22,g23,g24,g25,g26,g27,g28,g29,g30,g31,g32,g33,g34,g35,g36,g37,g38,g39,g40,g41,g42,g43,g44,g45,g46,g47,g48,g49,g50,g51,g52,g53,g54,g55,g56,g57,g58,g59,g60,g61,g62,g63,g64,g65,g66,g67,g68] M K = (x0).bind fun a_1 => (M.intAt .i64 a_1.block (a_1.off + 1)).bind fun x_2 => (x0).bind fun a_3 => (M.put a_3.block (a_3.off + 1) (.int .i64 (IntKind.i64.wrap ((IntKind.i64.wrap (x_2 + (IntKind.i64.wrap (2 * x4)))) + 1)))).bind fun M_4 => K #[.pointer x0,g1,g2,g3,.int .i64 x4,g5,g6,g7,g8,g9,g10,g11,g12,g13,g14,g15,g16,g17,g18,g19,g20,g21,g22,g23,g24,g25,g26,g27,g28,g29,g30,g31,g32,g33,g34,g35,g36,g37,g38,g39,g40,g41,g42,g43,g44,g45,g46,g47,g48,g49,g50,g51,g52,g53,g54,g55,.pointer x0,.pointer x0,.pointer (some a_1),.pointer (some ⟨a_1.block, a_1.off + 1, none⟩),.int .i64 x_2,.int .i64 x4,.int .i64 (IntKind.i64.wrap (2 * x4)),.int .i64 (IntKind.i64.wrap (x_2 + (IntKind.i64.wrap (2 * x4)))),.int .i64 (IntKind.i64.wrap ((IntKind.i64.wrap (x_2 + (IntKind.i64.wrap (2 * x4)))) + 1)),.pointer (some a_3),.pointer (some ⟨a_3.block, a_3.off + 1, none⟩),g67,g68] M_4 := by kernel_rfl
theorem k51_36 : P51 [1,1,1,1,1,1,1] = .seq (P51 [1,1,1,1,1,1,1,0]) (P51 [1,1,1,1,1,1,1,1]) := by kernel_rfl
theorem k51_37 : P51 [1,1,1,1,1,1,1,0] = .region 10 (O51 [1,1,1,1,1,1,1,0]) false := by kernel_rfl
theorem r51_10 {x5 : Int} {M : Mem} {call : CallM} {K : Array Value → Mem → R} :
    opsK Try.prog (fun _ => call) (O51 [1,1,1,1,1,1,1,0]) (O51 [1,1,1,1,1,1,1,0]).toList 0 #[g0,g1,g2,g3,g4,.int .u64 x5,g6,g7,g8,g9,g10,g11,g12,g13,g14,g15,g16,g17,g18,g19,g20,g21,g22,g23,g24,g25,g26,g27,g28,g29,g30,g31,g32,g33,g34,g35,g36,g37,g38,g39,g40,g41,g42,g43,g44,g45,g46,g47,g48,g49,g50,g51,g52,g53,g54,g55,g56,g57,g58,g59,g60,g61,g62,g63,g64,g65,g66,g67,g68] M K = K #[g0,g1,.int .u32 (IntKind.u32.wrap (x5)),.int .i64 0,g4,.int .u64 x5,g6,g7,g8,g9,g10,g11,g12,g13,g14,g15,g16,g17,g18,g19,g20,g21,g22,g23,g24,g25,g26,g27,g28,g29,g30,g31,g32,g33,g34,g35,g36,g37,g38,g39,g40,g41,g42,g43,g44,g45,g46,g47,g48,g49,g50,g51,g52,g53,g54,g55,g56,g57,g58,g59,g60,g61,g62,g63,g64,g65,g66,.int .u64 x5,.int .u32 (IntKind.u32.wrap (x5))] M := by kernel_rfl
theorem k51_38 : P51 [1,1,1,1,1,1,1,1] = .ret := by kernel_rfl
noncomputable def S51_1 : List Item := [.code (P51 [1,1,0,0,0]), .inLoop (P51 [1,1,0,0,0]), .inBlock 0, .code (P51 [1,1,1])]
def A51_1 (x0 : Option Addr) (x4 : Int) (M : Mem) (Q : Value → Mem → Prop) : Prop := ∀ (g1 g2 g3 g5 g6 g7 g8 g9 g10 g11 g12 g13 g14 g15 g16 g17 g18 g19 g20 g21 g22 g23 g24 g25 g26 g27 g28 g29 g30 g31 g32 g33 g34 g35 g36 g37 g38 g39 g40 g41 g42 g43 g44 g45 g46 g47 g48 g49 g50 g51 g52 g53 g54 g55 g56 g57 g58 g59 g60 g61 g62 g63 g64 g65 g66 g67 g68 : Value), Rn Try.prog Try.f51 S51_1 #[.pointer x0, g1, g2, g3, .int .i64 x4, g5, g6, g7, g8, g9, g10, g11, g12, g13, g14, g15, g16, g17, g18, g19, g20, g21, g22, g23, g24, g25, g26, g27, g28, g29, g30, g31, g32, g33, g34, g35, g36, g37, g38, g39, g40, g41, g42, g43, g44, g45, g46, g47, g48, g49, g50, g51, g52, g53, g54, g55, g56, g57, g58, g59, g60, g61, g62, g63, g64, g65, g66, g67, g68] M Q
noncomputable def S51_2 : List Item := [.code (P51 [1,1,0,0,0,0,1]), .code (P51 [1,1,0,0,0,1]), .inLoop (P51 [1,1,0,0,0]), .inBlock 0, .code (P51 [1,1,1])]
def A51_2 (x0 : Option Addr) (x4 : Int) (x28 : Bool) (M : Mem) (Q : Value → Mem → Prop) : Prop := ∀ (g1 g2 g3 g5 g6 g7 g8 g9 g10 g11 g12 g13 g14 g15 g16 g17 g18 g19 g20 g21 g22 g23 g24 g25 g26 g27 g29 g30 g31 g32 g33 g34 g35 g36 g37 g38 g39 g40 g41 g42 g43 g44 g45 g46 g47 g48 g49 g50 g51 g52 g53 g54 g55 g56 g57 g58 g59 g60 g61 g62 g63 g64 g65 g66 g67 g68 : Value), Rn Try.prog Try.f51 S51_2 #[.pointer x0, g1, g2, g3, .int .i64 x4, g5, g6, g7, g8, g9, g10, g11, g12, g13, g14, g15, g16, g17, g18, g19, g20, g21, g22, g23, g24, g25, g26, g27, .bool x28, g29, g30, g31, g32, g33, g34, g35, g36, g37, g38, g39, g40, g41, g42, g43, g44, g45, g46, g47, g48, g49, g50, g51, g52, g53, g54, g55, g56, g57, g58, g59, g60, g61, g62, g63, g64, g65, g66, g67, g68] M Q
noncomputable def S51_3 : List Item := [.code (P51 [1,1,1,1,0,1]), .code (P51 [1,1,1,1,1])]
def A51_3 (x0 : Option Addr) (x4 : Int) (x44 : Bool) (M : Mem) (Q : Value → Mem → Prop) : Prop := ∀ (g1 g2 g3 g5 g6 g7 g8 g9 g10 g11 g12 g13 g14 g15 g16 g17 g18 g19 g20 g21 g22 g23 g24 g25 g26 g27 g28 g29 g30 g31 g32 g33 g34 g35 g36 g37 g38 g39 g40 g41 g42 g43 g45 g46 g47 g48 g49 g50 g51 g52 g53 g54 g55 g56 g57 g58 g59 g60 g61 g62 g63 g64 g65 g66 g67 g68 : Value), Rn Try.prog Try.f51 S51_3 #[.pointer x0, g1, g2, g3, .int .i64 x4, g5, g6, g7, g8, g9, g10, g11, g12, g13, g14, g15, g16, g17, g18, g19, g20, g21, g22, g23, g24, g25, g26, g27, g28, g29, g30, g31, g32, g33, g34, g35, g36, g37, g38, g39, g40, g41, g42, g43, .bool x44, g45, g46, g47, g48, g49, g50, g51, g52, g53, g54, g55, g56, g57, g58, g59, g60, g61, g62, g63, g64, g65, g66, g67, g68] M Q
theorem w51_0 {x0 : Option Addr} {M : Mem} {Q : Value → Mem → Prop} (H :
    A51_1 x0 0 M Q) :
    Cn Try.prog 51 #[.pointer x0] M Q := by
  refine Cn.of b51 d51 t51 ?_
  refine Rn.seq k51_0 (Rn.region k51_1 (fun call K => r51_0) (Rch.leaf (Rn.seq k51_2 (Rn.region k51_3 (fun call K => r51_1) (Rch.leaf (Rn.seq k51_4 (Rn.block k51_5 (Rn.loop k51_6 ?_))))))))
  exact H _ _ _ _ _ _ _ _ _ _ _ _ _ _ _ _ _ _ _ _ _ _ _ _ _ _ _ _ _ _ _ _ _ _ _ _ _ _ _ _ _ _ _ _ _ _ _ _ _ _ _ _ _ _ _ _ _ _ _ _ _ _ _ _ _ _ _

theorem w51_1 {x0 : Option Addr} {x4 : Int} {M : Mem} {Q : Value → Mem → Prop} (H :
    ((x4 < 32 →
     Cn Try.prog 28 #[.pointer x0] M fun v1' N1' =>
      ∃ x2', asI .i64 v1' = some x2' ∧
      ((x4 < x2' →
       ∃ a3', x0 = some a3' ∧
       ∃ s4', N1'.slAt a3'.block a3'.off = some s4' ∧
       ∃ a5', x0 = some a5' ∧
       ∃ x6', N1'.intAt .i64 a5'.block (a5'.off + 1) = some x6' ∧
       ∃ a7', idxA s4'.1 (s4'.2.1) 1 (IntKind.i64.wrap (x6' + x4)) = some a7' ∧
       ∃ x8', N1'.intAt .i64 a7'.block a7'.off = some x8' ∧
       A51_2 x0 x4 (x8' == 0) N1' Q) ∧
       (¬ (x4 < x2') →
       A51_2 x0 x4 false N1' Q))) ∧
     (¬ (x4 < 32) →
     A51_2 x0 x4 false M Q))) :
    A51_1 x0 x4 M Q := by
  intro g1 g2 g3 g5 g6 g7 g8 g9 g10 g11 g12 g13 g14 g15 g16 g17 g18 g19 g20 g21 g22 g23 g24 g25 g26 g27 g28 g29 g30 g31 g32 g33 g34 g35 g36 g37 g38 g39 g40 g41 g42 g43 g44 g45 g46 g47 g48 g49 g50 g51 g52 g53 g54 g55 g56 g57 g58 g59 g60 g61 g62 g63 g64 g65 g66 g67 g68
  refine Rn.seq k51_7 (Rn.seq k51_8 (Rn.regionD k51_9 (fun call K => r51_2) ?_))
  refine Rch.cB (fun h => ?_) (fun h => ?_)
  · replace H := H.1 (of_decide_eq_true h)
    refine Rch.call H fun v1' N1' H => Rch.ex H fun x2' H => ?_
    refine Rch.cB (fun h => ?_) (fun h => ?_)
    · replace H := H.1 (of_decide_eq_true h)
      refine Rch.ex H fun a3' H => Rch.ex H fun s4' H => Rch.ex H fun a5' H => Rch.ex H fun x6' H => Rch.ex H fun a7' H => Rch.ex H fun x8' H => Rch.leaf ?_
      exact H _ _ _ _ _ _ _ _ _ _ _ _ _ _ _ _ _ _ _ _ _ _ _ _ _ _ _ _ _ _ _ _ _ _ _ _ _ _ _ _ _ _ _ _ _ _ _ _ _ _ _ _ _ _ _ _ _ _ _ _ _ _ _ _ _ _
    · replace H := H.2 (of_decide_eq_false h)
      refine Rch.leaf ?_
      exact H _ _ _ _ _ _ _ _ _ _ _ _ _ _ _ _ _ _ _ _ _ _ _ _ _ _ _ _ _ _ _ _ _ _ _ _ _ _ _ _ _ _ _ _ _ _ _ _ _ _ _ _ _ _ _ _ _ _ _ _ _ _ _ _ _ _
  · replace H := H.2 (of_decide_eq_false h)
    refine Rch.leaf ?_
    exact H _ _ _ _ _ _ _ _ _ _ _ _ _ _ _ _ _ _ _ _ _ _ _ _ _ _ _ _ _ _ _ _ _ _ _ _ _ _ _ _ _ _ _ _ _ _ _ _ _ _ _ _ _ _ _ _ _ _ _ _ _ _ _ _ _ _

theorem w51_2 {x0 : Option Addr} {x4 : Int} {x28 : Bool} {M : Mem} {Q : Value → Mem → Prop} (H :
    ((x28 = true →
     A51_1 x0 (IntKind.i64.wrap (x4 + 1)) M Q) ∧
     (x28 = false →
     ((x4 = 32 →
      Q (.tuple #[.int .u32 0, .int .i64 4]) M) ∧
      (x4 ≠ 32 →
      Cn Try.prog 28 #[.pointer x0] M fun v9' N9' =>
       ∃ x10', asI .i64 v9' = some x10' ∧
       ((x4 = x10' →
        A51_3 x0 x4 true N9' Q) ∧
        (x4 ≠ x10' →
        Cn Try.prog 28 #[.pointer x0] N9' fun v11' N11' =>
         ∃ x12', asI .i64 v11' = some x12' ∧
         A51_3 x0 x4 (decide ((IntKind.i64.wrap ((IntKind.i64.wrap (2 * x4)) + 1)) > x12')) N11' Q))))))) :
    A51_2 x0 x4 x28 M Q := by
  intro g1 g2 g3 g5 g6 g7 g8 g9 g10 g11 g12 g13 g14 g15 g16 g17 g18 g19 g20 g21 g22 g23 g24 g25 g26 g27 g29 g30 g31 g32 g33 g34 g35 g36 g37 g38 g39 g40 g41 g42 g43 g44 g45 g46 g47 g48 g49 g50 g51 g52 g53 g54 g55 g56 g57 g58 g59 g60 g61 g62 g63 g64 g65 g66 g67 g68
  refine Rn.cnd (v := x28) ⟨c51_10, rfl, by kernel_rfl⟩ (fun h => ?_) (fun h => ?_)
  · replace H := H.1 (h)
    refine Rn.skip k51_11 (Rn.block k51_12 (Rn.region k51_13 (fun call K => r51_3) (Rch.leaf (Rn.blk (Rn.lp ?_)))))
    exact H _ _ _ _ _ _ _ _ _ _ _ _ _ _ _ _ _ _ _ _ _ _ _ _ _ _ _ _ _ _ _ _ _ _ _ _ _ _ _ _ _ _ _ _ _ _ _ _ _ _ _ _ _ _ _ _ _ _ _ _ _ _ _ _ _ _ _
  · replace H := H.2 (h)
    refine Rn.exit k51_14 rfl (Rn.seq k51_15 (Rn.seq k51_16 (Rn.region k51_17 (fun call K => r51_4) (Rch.leaf ?_))))
    refine Rn.cnd (v := x4 == 32) ⟨c51_18, rfl, by kernel_rfl⟩ (fun h => ?_) (fun h => ?_)
    · replace H := H.1 (eq_of_beq h)
      refine Rn.seq k51_19 (Rn.region k51_20 (fun call K => r51_5) (Rch.leaf ?_))
      exact Rn.ret k51_21 e51 H
    · replace H := H.2 (ne_of_beq_false h)
      refine Rn.skip k51_23 (Rn.seq k51_24 (Rn.seq k51_25 (Rn.region k51_26 (fun call K => r51_6) (Rch.call H fun v9' N9' H => Rch.ex H fun x10' H => ?_))))
      refine Rch.cB (fun h => ?_) (fun h => ?_)
      · replace H := H.1 (eq_of_beq h)
        refine Rch.leaf ?_
        exact H _ _ _ _ _ _ _ _ _ _ _ _ _ _ _ _ _ _ _ _ _ _ _ _ _ _ _ _ _ _ _ _ _ _ _ _ _ _ _ _ _ _ _ _ _ _ _ _ _ _ _ _ _ _ _ _ _ _ _ _ _ _ _ _ _ _
      · replace H := H.2 (ne_of_beq_false h)
        refine Rch.call H fun v11' N11' H => Rch.ex H fun x12' H => Rch.leaf ?_
        exact H _ _ _ _ _ _ _ _ _ _ _ _ _ _ _ _ _ _ _ _ _ _ _ _ _ _ _ _ _ _ _ _ _ _ _ _ _ _ _ _ _ _ _ _ _ _ _ _ _ _ _ _ _ _ _ _ _ _ _ _ _ _ _ _ _ _

theorem w51_3 {x0 : Option Addr} {x4 : Int} {x44 : Bool} {M : Mem} {Q : Value → Mem → Prop} (H :
    ((x44 = true →
     Q (.tuple #[.int .u32 0, .int .i64 3]) M) ∧
     (x44 = false →
     ∃ a13', x0 = some a13' ∧
     ∃ x14', M.intAt .i64 a13'.block (a13'.off + 1) = some x14' ∧
     Cn Try.prog 62 #[.pointer x0, .int .i64 (IntKind.i64.wrap (x14' + x4)), .int .i64 (IntKind.i64.wrap (x4 + 1))] M fun v15' N15' =>
      ∃ x16', asI .u64 v15' = some x16' ∧
      ∃ a17', x0 = some a17' ∧
      ∃ x18', N15'.intAt .i64 a17'.block (a17'.off + 1) = some x18' ∧
      ∃ a19', x0 = some a19' ∧
      ∃ M20', N15'.put a19'.block (a19'.off + 1) (.int .i64 (IntKind.i64.wrap ((IntKind.i64.wrap (x18' + (IntKind.i64.wrap (2 * x4)))) + 1))) = some M20' ∧
      Q (.tuple #[.int .u32 (IntKind.u32.wrap ((IntKind.u64.wrap (x16' - 1)))), .int .i64 0]) M20'))) :
    A51_3 x0 x4 x44 M Q := by
  intro g1 g2 g3 g5 g6 g7 g8 g9 g10 g11 g12 g13 g14 g15 g16 g17 g18 g19 g20 g21 g22 g23 g24 g25 g26 g27 g28 g29 g30 g31 g32 g33 g34 g35 g36 g37 g38 g39 g40 g41 g42 g43 g45 g46 g47 g48 g49 g50 g51 g52 g53 g54 g55 g56 g57 g58 g59 g60 g61 g62 g63 g64 g65 g66 g67 g68
  refine Rn.cnd (v := x44) ⟨c51_27, rfl, by kernel_rfl⟩ (fun h => ?_) (fun h => ?_)
  · replace H := H.1 (h)
    refine Rn.seq k51_28 (Rn.region k51_29 (fun call K => r51_7) (Rch.leaf ?_))
    exact Rn.ret k51_30 e51 H
  · replace H := H.2 (h)
    refine Rn.skip k51_31 (Rn.seq k51_32 (Rn.region k51_33 (fun call K => r51_8) (Rch.ex H fun a13' H => Rch.ex H fun x14' H => Rch.call H fun v15' N15' H => Rch.ex H fun x16' H => Rch.leaf (Rn.seq k51_34 (Rn.region k51_35 (fun call K => r51_9) (Rch.ex H fun a17' H => Rch.ex H fun x18' H => ?_))))))
    refine Rch.ex H fun a19' H => Rch.ex H fun M20' H => Rch.leaf (Rn.seq k51_36 (Rn.region k51_37 (fun call K => r51_10) (Rch.leaf ?_)))
    exact Rn.ret k51_38 e51 H


/-! ### (*zoetrope/zoetroperef01.Reader).Leb: function 52 -/
noncomputable abbrev P52 (p : List Nat) : Code := subC (codeOf Try.f52) p
noncomputable abbrev O52 (p : List Nat) : Array Oper := opsOf (subC (codeOf Try.f52) p)
theorem b52 : Try.prog.funcs[52]? = some Try.f52 ∧ (Orc.tab Try.prog).lookup 52 = none := ⟨by kernel_rfl, by kernel_rfl⟩
theorem d52 : Try.f52.body = some (P52 []) := by kernel_rfl
theorem t52 {x0 : Option Addr} : #[.pointer x0] ++ Array.replicate (Try.f52.ntmps - (#[.pointer x0] : Array Value).size) undef = #[.pointer x0,undef,undef,undef,undef,undef,undef,undef,undef,undef,undef,undef,undef,undef,undef,undef,undef,undef,undef,undef,undef,undef,undef,undef,undef,undef,undef,undef,undef,undef,undef,undef,undef,undef,undef,undef,undef,undef,undef,undef,undef,undef,undef,undef,undef,undef,undef,undef,undef,undef,undef,undef,undef,undef,undef,undef,undef,undef,undef,undef,undef,undef,undef,undef,undef,undef,undef,undef] := by kernel_rfl
theorem k52_0 : P52 [] = .seq (P52 [0]) (P52 [1]) := by kernel_rfl
theorem k52_1 : P52 [0] = .region 0 (O52 [0]) false := by kernel_rfl
theorem r52_0 {M : Mem} {call : CallM} {K : Array Value → Mem → R} :
    opsK Try.prog (fun _ => call) (O52 [0]) (O52 [0]).toList 0 #[g0,g1,g2,g3,g4,g5,g6,g7,g8,g9,g10,g11,g12,g13,g14,g15,g16,g17,g18,g19,g20,g21,g22,g23,g24,g25,g26,g27,g28,g29,g30,g31,g32,g33,g34,g35,g36,g37,g38,g39,g40,g41,g42,g43,g44,g45,g46,g47,g48,g49,g50,g51,g52,g53,g54,g55,g56,g57,g58,g59,g60,g61,g62,g63,g64,g65,g66,g67] M K = K #[g0,g1,.int .u32 0,.int .i64 0,g4,g5,g6,g7,g8,g9,g10,g11,g12,g13,g14,g15,g16,g17,g18,g19,g20,g21,g22,g23,g24,g25,g26,g27,g28,g29,g30,g31,g32,g33,g34,g35,g36,g37,g38,g39,g40,g41,g42,g43,g44,g45,g46,g47,g48,g49,g50,g51,g52,g53,g54,g55,g56,g57,g58,g59,g60,g61,g62,g63,g64,g65,g66,g67] M := by kernel_rfl
theorem k52_2 : P52 [1] = .seq (P52 [1,0]) (P52 [1,1]) := by kernel_rfl
theorem k52_3 : P52 [1,0] = .seq (P52 [1,0,0]) (P52 [1,0,1]) := by kernel_rfl
theorem k52_4 : P52 [1,0,0] = .region 1 (O52 [1,0,0]) false := by kernel_rfl
theorem r52_1 {x0 : Option Addr} {M : Mem} {call : CallM} {K : Array Value → Mem → R} :
    opsK Try.prog (fun _ => call) (O52 [1,0,0]) (O52 [1,0,0]).toList 0 #[.pointer x0,g1,g2,g3,g4,g5,g6,g7,g8,g9,g10,g11,g12,g13,g14,g15,g16,g17,g18,g19,g20,g21,g22,g23,g24,g25,g26,g27,g28,g29,g30,g31,g32,g33,g34,g35,g36,g37,g38,g39,g40,g41,g42,g43,g44,g45,g46,g47,g48,g49,g50,g51,g52,g53,g54,g55,g56,g57,g58,g59,g60,g61,g62,g63,g64,g65,g66,g67] M K = (x0).bind fun a_1 => (M.intAt .i64 a_1.block (a_1.off + 1)).bind fun x_2 => K #[.pointer x0,g1,g2,g3,g4,g5,g6,g7,g8,.pointer x0,.pointer (some a_1),.pointer (some ⟨a_1.block, a_1.off + 1, none⟩),.int .i64 x_2,.int .i64 (x_2.tmod 8),.bool ((x_2.tmod 8) != 0),g15,g16,g17,g18,g19,g20,g21,g22,g23,g24,g25,g26,g27,g28,g29,g30,g31,g32,g33,g34,g35,g36,g37,g38,g39,g40,g41,g42,g43,g44,g45,g46,g47,g48,g49,g50,g51,g52,g53,g54,g55,g56,g57,g58,g59,g60,g61,g62,g63,g64,g65,g66,g67] M := by kernel_rfl
theorem c52_5 : P52 [1,0,1] = .cond (.tmp 14) (P52 [1,0,1,0]) (P52 [1,0,1,1]) := by kernel_rfl
theorem k52_6 : P52 [1,0,1,0] = .seq (P52 [1,0,1,0,0]) (P52 [1,0,1,0,1]) := by kernel_rfl
theorem k52_7 : P52 [1,0,1,0,0] = .region 2 (O52 [1,0,1,0,0]) false := by kernel_rfl
theorem r52_2 {M : Mem} {call : CallM} {K : Array Value → Mem → R} :
    opsK Try.prog (fun _ => call) (O52 [1,0,1,0,0]) (O52 [1,0,1,0,0]).toList 0 #[g0,g1,g2,g3,g4,g5,g6,g7,g8,g9,g10,g11,g12,g13,g14,g15,g16,g17,g18,g19,g20,g21,g22,g23,g24,g25,g26,g27,g28,g29,g30,g31,g32,g33,g34,g35,g36,g37,g38,g39,g40,g41,g42,g43,g44,g45,g46,g47,g48,g49,g50,g51,g52,g53,g54,g55,g56,g57,g58,g59,g60,g61,g62,g63,g64,g65,g66,g67] M K = K #[g0,g1,.int .u32 0,.int .i64 2,g4,g5,g6,g7,g8,g9,g10,g11,g12,g13,g14,g15,g16,g17,g18,g19,g20,g21,g22,g23,g24,g25,g26,g27,g28,g29,g30,g31,g32,g33,g34,g35,g36,g37,g38,g39,g40,g41,g42,g43,g44,g45,g46,g47,g48,g49,g50,g51,g52,g53,g54,g55,g56,g57,g58,g59,g60,g61,g62,g63,g64,g65,g66,g67] M := by kernel_rfl
theorem k52_8 : P52 [1,0,1,0,1] = .ret := by kernel_rfl
theorem e52 {M : Mem} : finish Try.prog Try.f52 #[g0,g1,g2,g3,g4,g5,g6,g7,g8,g9,g10,g11,g12,g13,g14,g15,g16,g17,g18,g19,g20,g21,g22,g23,g24,g25,g26,g27,g28,g29,g30,g31,g32,g33,g34,g35,g36,g37,g38,g39,g40,g41,g42,g43,g44,g45,g46,g47,g48,g49,g50,g51,g52,g53,g54,g55,g56,g57,g58,g59,g60,g61,g62,g63,g64,g65,g66,g67] M = some (.tuple #[g2, g3], M) := by kernel_rfl
theorem k52_10 : P52 [1,0,1,1] = .skip := by kernel_rfl
theorem k52_11 : P52 [1,1] = .seq (P52 [1,1,0]) (P52 [1,1,1]) := by kernel_rfl
theorem k52_12 : P52 [1,1,0] = .region 3 (O52 [1,1,0]) false := by kernel_rfl
theorem r52_3 {M : Mem} {call : CallM} {K : Array Value → Mem → R} :
    opsK Try.prog (fun _ => call) (O52 [1,1,0]) (O52 [1,1,0]).toList 0 #[g0,g1,g2,g3,g4,g5,g6,g7,g8,g9,g10,g11,g12,g13,g14,g15,g16,g17,g18,g19,g20,g21,g22,g23,g24,g25,g26,g27,g28,g29,g30,g31,g32,g33,g34,g35,g36,g37,g38,g39,g40,g41,g42,g43,g44,g45,g46,g47,g48,g49,g50,g51,g52,g53,g54,g55,g56,g57,g58,g59,g60,g61,g62,g63,g64,g65,g66,g67] M K = K #[g0,g1,g2,g3,.int .u64 0,g5,g6,g7,g8,g9,g10,g11,g12,g13,g14,g15,g16,g17,g18,g19,g20,g21,g22,g23,g24,g25,g26,g27,g28,g29,g30,g31,g32,g33,g34,g35,g36,g37,g38,g39,g40,g41,g42,g43,g44,g45,g46,g47,g48,g49,g50,g51,g52,g53,g54,g55,g56,g57,g58,g59,g60,g61,g62,g63,g64,g65,g66,g67] M := by kernel_rfl
theorem k52_13 : P52 [1,1,1] = .seq (P52 [1,1,1,0]) (P52 [1,1,1,1]) := by kernel_rfl
theorem k52_14 : P52 [1,1,1,0] = .region 4 (O52 [1,1,1,0]) false := by kernel_rfl
theorem r52_4 {M : Mem} {call : CallM} {K : Array Value → Mem → R} :
    opsK Try.prog (fun _ => call) (O52 [1,1,1,0]) (O52 [1,1,1,0]).toList 0 #[g0,g1,g2,g3,g4,g5,g6,g7,g8,g9,g10,g11,g12,g13,g14,g15,g16,g17,g18,g19,g20,g21,g22,g23,g24,g25,g26,g27,g28,g29,g30,g31,g32,g33,g34,g35,g36,g37,g38,g39,g40,g41,g42,g43,g44,g45,g46,g47,g48,g49,g50,g51,g52,g53,g54,g55,g56,g57,g58,g59,g60,g61,g62,g63,g64,g65,g66,g67] M K = K #[g0,g1,g2,g3,g4,.int .u64 1,g6,g7,g8,g9,g10,g11,g12,g13,g14,g15,g16,g17,g18,g19,g20,g21,g22,g23,g24,g25,g26,g27,g28,g29,g30,g31,g32,g33,g34,g35,g36,g37,g38,g39,g40,g41,g42,g43,g44,g45,g46,g47,g48,g49,g50,g51,g52,g53,g54,g55,g56,g57,g58,g59,g60,g61,g62,g63,g64,g65,g66,g67] M := by kernel_rfl
theorem k52_15 : P52 [1,1,1,1] = .seq (P52 [1,1,1,1,0]) (P52 [1,1,1,1,1]) := by kernel_rfl
theorem k52_16 : P52 [1,1,1,1,0] = .seq (P52 [1,1,1,1,0,0]) (P52 [1,1,1,1,0,1]) := by kernel_rfl
theorem k52_17 : P52 [1,1,1,1,0,0] = .region 5 (O52 [1,1,1,1,0,0]) false := by kernel_rfl
theorem r52_5 {M : Mem} {call : CallM} {K : Array Value → Mem → R} :
    opsK Try.prog (fun _ => call) (O52 [1,1,1,1,0,0]) (O52 [1,1,1,1,0,0]).toList 0 #[g0,g1,g2,g3,g4,g5,g6,g7,g8,g9,g10,g11,g12,g13,g14,g15,g16,g17,g18,g19,g20,g21,g22,g23,g24,g25,g26,g27,g28,g29,g30,g31,g32,g33,g34,g35,g36,g37,g38,g39,g40,g41,g42,g43,g44,g45,g46,g47,g48,g49,g50,g51,g52,g53,g54,g55,g56,g57,g58,g59,g60,g61,g62,g63,g64,g65,g66,g67] M K = K #[g0,g1,g2,g3,g4,g5,.int .i64 0,g7,g8,g9,g10,g11,g12,g13,g14,g15,g16,g17,g18,g19,g20,g21,g22,g23,g24,g25,g26,g27,g28,g29,g30,g31,g32,g33,g34,g35,g36,g37,g38,g39,g40,g41,g42,g43,g44,g45,g46,g47,g48,g49,g50,g51,g52,g53,g54,g55,g56,g57,g58,g59,g60,g61,g62,g63,g64,g65,g66,g67] M := by kernel_rfl
theorem k52_18 : P52 [1,1,1,1,0,1] = .block 0 (P52 [1,1,1,1,0,1,0]) := by kernel_rfl
theorem k52_19 : P52 [1,1,1,1,0,1,0] = .loop (P52 [1,1,1,1,0,1,0,0]) := by kernel_rfl
theorem k52_20 : P52 [1,1,1,1,0,1,0,0] = .seq (P52 [1,1,1,1,0,1,0,0,0]) (P52 [1,1,1,1,0,1,0,0,1]) := by kernel_rfl
theorem k52_21 : P52 [1,1,1,1,0,1,0,0,0] = .seq (P52 [1,1,1,1,0,1,0,0,0,0]) (P52 [1,1,1,1,0,1,0,0,0,1]) := by kernel_rfl
theorem k52_22 : P52 [1,1,1,1,0,1,0,0,0,0] = .region 6 (O52 [1,1,1,1,0,1,0,0,0,0]) false := by kernel_rfl
theorem r52_6 {x6 : Int} {M : Mem} {call : CallM} {K : Array Value → Mem → R} :
    opsK Try.prog (fun _ => call) (O52 [1,1,1,1,0,1,0,0,0,0]) (O52 [1,1,1,1,0,1,0,0,0,0]).toList 0 #[g0,g1,g2,g3,g4,g5,.int .i64 x6,g7,g8,g9,g10,g11,g12,g13,g14,g15,g16,g17,g18,g19,g20,g21,g22,g23,g24,g25,g26,g27,g28,g29,g30,g31,g32,g33,g34,g35,g36,g37,g38,g39,g40,g41,g42,g43,g44,g45,g46,g47,g48,g49,g50,g51,g52,g53,g54,g55,g56,g57,g58,g59,g60,g61,g62,g63,g64,g65,g66,g67] M K = K #[g0,g1,g2,g3,g4,g5,.int .i64 x6,g7,g8,g9,g10,g11,g12,g13,g14,.int .i64 x6,.bool (decide (x6 < 5)),g17,g18,g19,g20,g21,g22,g23,g24,g25,g26,g27,g28,g29,g30,g31,g32,g33,g34,g35,g36,g37,g38,g39,g40,g41,g42,g43,g44,g45,g46,g47,g48,g49,g50,g51,g52,g53,g54,g55,g56,g57,g58,g59,g60,g61,g62,g63,g64,g65,g66,g67] M := by kernel_rfl
theorem c52_23 : P52 [1,1,1,1,0,1,0,0,0,1] = .cond (.tmp 16) (P52 [1,1,1,1,0,1,0,0,0,1,0]) (P52 [1,1,1,1,0,1,0,0,0,1,1]) := by kernel_rfl
theorem k52_24 : P52 [1,1,1,1,0,1,0,0,0,1,0] = .skip := by kernel_rfl
theorem k52_25 : P52 [1,1,1,1,0,1,0,0,1] = .seq (P52 [1,1,1,1,0,1,0,0,1,0]) (P52 [1,1,1,1,0,1,0,0,1,1]) := by kernel_rfl
theorem k52_26 : P52 [1,1,1,1,0,1,0,0,1,0] = .block 1 (P52 [1,1,1,1,0,1,0,0,1,0,0]) := by kernel_rfl
theorem k52_27 : P52 [1,1,1,1,0,1,0,0,1,0,0] = .seq (P52 [1,1,1,1,0,1,0,0,1,0,0,0]) (P52 [1,1,1,1,0,1,0,0,1,0,0,1]) := by kernel_rfl
theorem k52_28 : P52 [1,1,1,1,0,1,0,0,1,0,0,0] = .region 8 (O52 [1,1,1,1,0,1,0,0,1,0,0,0]) false := by kernel_rfl
theorem r52_8 {x0 : Option Addr} {x6 : Int} {M : Mem} {call : CallM} {K : Array Value → Mem → R} :
    opsK Try.prog (fun _ => call) (O52 [1,1,1,1,0,1,0,0,1,0,0,0]) (O52 [1,1,1,1,0,1,0,0,1,0,0,0]).toList 0 #[.pointer x0,g1,g2,g3,g4,g5,.int .i64 x6,g7,g8,g9,g10,g11,g12,g13,g14,g15,g16,g17,g18,g19,g20,g21,g22,g23,g24,g25,g26,g27,g28,g29,g30,g31,g32,g33,g34,g35,g36,g37,g38,g39,g40,g41,g42,g43,g44,g45,g46,g47,g48,g49,g50,g51,g52,g53,g54,g55,g56,g57,g58,g59,g60,g61,g62,g63,g64,g65,g66,g67] M K = (x0).bind fun a_1 => (M.intAt .i64 a_1.block (a_1.off + 1)).bind fun x_2 => K #[.pointer x0,g1,g2,g3,g4,g5,.int .i64 x6,.int .i64 (IntKind.i64.wrap (x_2 + (IntKind.i64.wrap (8 * x6)))),g8,g9,g10,g11,g12,g13,g14,g15,g16,g17,g18,.pointer x0,.pointer (some a_1),.pointer (some ⟨a_1.block, a_1.off + 1, none⟩),.int .i64 x_2,.int .i64 x6,.int .i64 (IntKind.i64.wrap (8 * x6)),.int .i64 (IntKind.i64.wrap (x_2 + (IntKind.i64.wrap (8 * x6)))),g26,g27,g28,g29,g30,g31,g32,g33,g34,g35,g36,g37,g38,g39,g40,g41,g42,g43,g44,g45,g46,g47,g48,g49,g50,g51,g52,g53,g54,g55,g56,g57,g58,g59,g60,g61,g62,g63,g64,g65,g66,g67] M := by kernel_rfl
theorem k52_29 : P52 [1,1,1,1,0,1,0,0,1,0,0,1] = .seq (P52 [1,1,1,1,0,1,0,0,1,0,0,1,0]) (P52 [1,1,1,1,0,1,0,0,1,0,0,1,1]) := by kernel_rfl
theorem k52_30 : P52 [1,1,1,1,0,1,0,0,1,0,0,1,0] = .seq (P52 [1,1,1,1,0,1,0,0,1,0,0,1,0,0]) (P52 [1,1,1,1,0,1,0,0,1,0,0,1,0,1]) := by kernel_rfl
theorem k52_31 : P52 [1,1,1,1,0,1,0,0,1,0,0,1,0,0] = .region 9 (O52 [1,1,1,1,0,1,0,0,1,0,0,1,0,0]) false := by kernel_rfl
theorem r52_9 {x0 : Option Addr} {x7 : Int} {M : Mem} {call : CallM} {K : Array Value → Mem → R} :
    opsK Try.prog (fun _ => call) (O52 [1,1,1,1,0,1,0,0,1,0,0,1,0,0]) (O52 [1,1,1,1,0,1,0,0,1,0,0,1,0,0]).toList 0 #[.pointer x0,g1,g2,g3,g4,g5,g6,.int .i64 x7,g8,g9,g10,g11,g12,g13,g14,g15,g16,g17,g18,g19,g20,g21,g22,g23,g24,g25,g26,g27,g28,g29,g30,g31,g32,g33,g34,g35,g36,g37,g38,g39,g40,g41,g42,g43,g44,g45,g46,g47,g48,g49,g50,g51,g52,g53,g54,g55,g56,g57,g58,g59,g60,g61,g62,g63,g64,g65,g66,g67] M K = (x0).bind fun a_1 => (M.slAt a_1.block a_1.off).bind fun s_2 => K #[.pointer x0,g1,g2,g3,g4,g5,g6,.int .i64 x7,g8,g9,g10,g11,g12,g13,g14,g15,g16,g17,g18,g19,g20,g21,g22,g23,g24,g25,.int .i64 x7,.int .i64 (IntKind.i64.wrap (x7 + 8)),.pointer x0,.pointer (some a_1),.pointer (some ⟨a_1.block, a_1.off, none⟩),.slice s_2.1 (s_2.2.1) (s_2.2.2),.int .i64 ((s_2.2.1 : Int)),.bool (decide ((IntKind.i64.wrap (x7 + 8)) > ((s_2.2.1 : Int)))),g34,g35,g36,g37,g38,g39,g40,g41,g42,g43,g44,g45,g46,g47,g48,g49,g50,g51,g52,g53,g54,g55,g56,g57,g58,g59,g60,g61,g62,g63,g64,g65,g66,g67] M := by kernel_rfl
theorem c52_32 : P52 [1,1,1,1,0,1,0,0,1,0,0,1,0,1] = .cond (.tmp 33) (P52 [1,1,1,1,0,1,0,0,1,0,0,1,0,1,0]) (P52 [1,1,1,1,0,1,0,0,1,0,0,1,0,1,1]) := by kernel_rfl
theorem k52_33 : P52 [1,1,1,1,0,1,0,0,1,0,0,1,0,1,0] = .seq (P52 [1,1,1,1,0,1,0,0,1,0,0,1,0,1,0,0]) (P52 [1,1,1,1,0,1,0,0,1,0,0,1,0,1,0,1]) := by kernel_rfl
theorem k52_34 : P52 [1,1,1,1,0,1,0,0,1,0,0,1,0,1,0,0] = .region 10 (O52 [1,1,1,1,0,1,0,0,1,0,0,1,0,1,0,0]) false := by kernel_rfl
theorem r52_10 {M : Mem} {call : CallM} {K : Array Value → Mem → R} :
    opsK Try.prog (fun _ => call) (O52 [1,1,1,1,0,1,0,0,1,0,0,1,0,1,0,0]) (O52 [1,1,1,1,0,1,0,0,1,0,0,1,0,1,0,0]).toList 0 #[g0,g1,g2,g3,g4,g5,g6,g7,g8,g9,g10,g11,g12,g13,g14,g15,g16,g17,g18,g19,g20,g21,g22,g23,g24,g25,g26,g27,g28,g29,g30,g31,g32,g33,g34,g35,g36,g37,g38,g39,g40,g41,g42,g43,g44,g45,g46,g47,g48,g49,g50,g51,g52,g53,g54,g55,g56,g57,g58,g59,g60,g61,g62,g63,g64,g65,g66,g67] M K = K #[g0,g1,.int .u32 0,.int .i64 3,g4,g5,g6,g7,g8,g9,g10,g11,g12,g13,g14,g15,g16,g17,g18,g19,g20,g21,g22,g23,g24,g25,g26,g27,g28,g29,g30,g31,g32,g33,g34,g35,g36,g37,g38,g39,g40,g41,g42,g43,g44,g45,g46,g47,g48,g49,g50,g51,g52,g53,g54,g55,g56,g57,g58,g59,g60,g61,g62,g63,g64,g65,g66,g67] M := by kernel_rfl
theorem k52_35 : P52 [1,1,1,1,0,1,0,0,1,0,0,1,0,1,0,1] = .ret := by kernel_rfl
theorem k52_36 : P52 [1,1,1,1,0,1,0,0,1,0,0,1,0,1,1] = .skip := by kernel_rfl
theorem k52_37 : P52 [1,1,1,1,0,1,0,0,1,0,0,1,1] = .seq (P52 [1,1,1,1,0,1,0,0,1,0,0,1,1,0]) (P52 [1,1,1,1,0,1,0,0,1,0,0,1,1,1]) := by kernel_rfl
theorem k52_38 : P52 [1,1,1,1,0,1,0,0,1,0,0,1,1,0] = .region 11 (O52 [1,1,1,1,0,1,0,0,1,0,0,1,1,0]) false := by kernel_rfl
theorem r52_11 {x0 : Option Addr} {x7 : Int} {M : Mem} {call : CallM} {K : Array Value → Mem → R} :
    opsK Try.prog (fun _ => call) (O52 [1,1,1,1,0,1,0,0,1,0,0,1,1,0]) (O52 [1,1,1,1,0,1,0,0,1,0,0,1,1,0]).toList 0 #[.pointer x0,g1,g2,g3,g4,g5,g6,.int .i64 x7,g8,g9,g10,g11,g12,g13,g14,g15,g16,g17,g18,g19,g20,g21,g22,g23,g24,g25,g26,g27,g28,g29,g30,g31,g32,g33,g34,g35,g36,g37,g38,g39,g40,g41,g42,g43,g44,g45,g46,g47,g48,g49,g50,g51,g52,g53,g54,g55,g56,g57,g58,g59,g60,g61,g62,g63,g64,g65,g66,g67] M K = (call 62 #[.pointer x0, .int .i64 x7, .int .i64 8] M).bind fun r_1 => (asI .u64 r_1.1).bind fun x_2 => K #[.pointer x0,g1,g2,g3,g4,g5,g6,.int .i64 x7,.int .u64 x_2,g9,g10,g11,g12,g13,g14,g15,g16,g17,g18,g19,g20,g21,g22,g23,g24,g25,g26,g27,g28,g29,g30,g31,g32,g33,.pointer x0,.int .i64 x7,.int .u64 x_2,g37,g38,g39,g40,g41,g42,g43,g44,g45,g46,g47,g48,g49,g50,g51,g52,g53,g54,g55,g56,g57,g58,g59,g60,g61,g62,g63,g64,g65,g66,g67] r_1.2 := by kernel_rfl
theorem k52_39 : P52 [1,1,1,1,0,1,0,0,1,0,0,1,1,1] = .seq (P52 [1,1,1,1,0,1,0,0,1,0,0,1,1,1,0]) (P52 [1,1,1,1,0,1,0,0,1,0,0,1,1,1,1]) := by kernel_rfl
theorem k52_40 : P52 [1,1,1,1,0,1,0,0,1,0,0,1,1,1,0] = .seq (P52 [1,1,1,1,0,1,0,0,1,0,0,1,1,1,0,0]) (P52 [1,1,1,1,0,1,0,0,1,0,0,1,1,1,0,1]) := by kernel_rfl
theorem k52_41 : P52 [1,1,1,1,0,1,0,0,1,0,0,1,1,1,0,0] = .region 12 (O52 [1,1,1,1,0,1,0,0,1,0,0,1,1,1,0,0]) false := by kernel_rfl
theorem r52_12 {x6 x8 : Int} {M : Mem} {call : CallM} {K : Array Value → Mem → R} :
    opsK Try.prog (fun _ => call) (O52 [1,1,1,1,0,1,0,0,1,0,0,1,1,1,0,0]) (O52 [1,1,1,1,0,1,0,0,1,0,0,1,1,1,0,0]).toList 0 #[g0,g1,g2,g3,g4,g5,.int .i64 x6,g7,.int .u64 x8,g9,g10,g11,g12,g13,g14,g15,g16,g17,g18,g19,g20,g21,g22,g23,g24,g25,g26,g27,g28,g29,g30,g31,g32,g33,g34,g35,g36,g37,g38,g39,g40,g41,g42,g43,g44,g45,g46,g47,g48,g49,g50,g51,g52,g53,g54,g55,g56,g57,g58,g59,g60,g61,g62,g63,g64,g65,g66,g67] M K = withK (fun w39 w40 w41 w42 w43 w44 w45 w46 w47 w48 w49 w50 M => K #[g0,g1,g2,g3,g4,g5,.int .i64 x6,g7,.int .u64 x8,g9,g10,g11,g12,g13,g14,g15,g16,g17,g18,g19,g20,g21,g22,g23,g24,g25,g26,g27,g28,g29,g30,g31,g32,g33,g34,g35,g36,.int .i64 x6,.bool (x6 == 4),w39,w40,w41,w42,w43,w44,w45,w46,w47,w48,w49,w50,g51,g52,g53,g54,g55,g56,g57,g58,g59,g60,g61,g62,g63,g64,g65,g66,g67] M) fun k => cond (x6 == 4) (cond (decide (x8 > 15)) (k (.bool true) (.int .u64 x8) (.bool (decide (x8 > 15))) (.bool (decide (x8 > 15))) (.bool true) undef undef undef undef undef undef (.bool true) M) (cond (decide (x6 > 0)) (k (.bool true) (.int .u64 x8) (.bool (decide (x8 > 15))) (.bool (decide (x8 > 15))) (.bool false) (.int .i64 x6) (.bool (decide (x6 > 0))) (.bool true) (.int .u64 x8) (.bool (x8 == 0)) (.bool (x8 == 0)) (.bool (x8 == 0)) M) (k (.bool true) (.int .u64 x8) (.bool (decide (x8 > 15))) (.bool (decide (x8 > 15))) (.bool false) (.int .i64 x6) (.bool (decide (x6 > 0))) (.bool false) undef undef (.bool false) (.bool false) M))) (cond (decide (x6 > 0)) (k (.bool false) undef undef (.bool false) (.bool false) (.int .i64 x6) (.bool (decide (x6 > 0))) (.bool true) (.int .u64 x8) (.bool (x8 == 0)) (.bool (x8 == 0)) (.bool (x8 == 0)) M) (k (.bool false) undef undef (.bool false) (.bool false) (.int .i64 x6) (.bool (decide (x6 > 0))) (.bool false) undef undef (.bool false) (.bool false) M)) := by kernel_rfl
theorem k52_42 : P52 [1,1,1,1,0,1,0,0,0,1,1] = .exit 0 := by kernel_rfl
theorem c52_43 : P52 [1,1,1,1,0,1,0,0,1,0,0,1,1,1,0,1] = .cond (.tmp 50) (P52 [1,1,1,1,0,1,0,0,1,0,0,1,1,1,0,1,0]) (P52 [1,1,1,1,0,1,0,0,1,0,0,1,1,1,0,1,1]) := by kernel_rfl
theorem k52_44 : P52 [1,1,1,1,0,1,0,0,1,0,0,1,1,1,0,1,0] = .seq (P52 [1,1,1,1,0,1,0,0,1,0,0,1,1,1,0,1,0,0]) (P52 [1,1,1,1,0,1,0,0,1,0,0,1,1,1,0,1,0,1]) := by kernel_rfl
theorem k52_45 : P52 [1,1,1,1,0,1,0,0,1,0,0,1,1,1,0,1,0,0] = .region 13 (O52 [1,1,1,1,0,1,0,0,1,0,0,1,1,1,0,1,0,0]) false := by kernel_rfl
theorem r52_13 {M : Mem} {call : CallM} {K : Array Value → Mem → R} :
    opsK Try.prog (fun _ => call) (O52 [1,1,1,1,0,1,0,0,1,0,0,1,1,1,0,1,0,0]) (O52 [1,1,1,1,0,1,0,0,1,0,0,1,1,1,0,1,0,0]).toList 0 #[g0,g1,g2,g3,g4,g5,g6,g7,g8,g9,g10,g11,g12,g13,g14,g15,g16,g17,g18,g19,g20,g21,g22,g23,g24,g25,g26,g27,g28,g29,g30,g31,g32,g33,g34,g35,g36,g37,g38,g39,g40,g41,g42,g43,g44,g45,g46,g47,g48,g49,g50,g51,g52,g53,g54,g55,g56,g57,g58,g59,g60,g61,g62,g63,g64,g65,g66,g67] M K = K #[g0,g1,.int .u32 0,.int .i64 4,g4,g5,g6,g7,g8,g9,g10,g11,g12,g13,g14,g15,g16,g17,g18,g19,g20,g21,g22,g23,g24,g25,g26,g27,g28,g29,g30,g31,g32,g33,g34,g35,g36,g37,g38,g39,g40,g41,g42,g43,g44,g45,g46,g47,g48,g49,g50,g51,g52,g53,g54,g55,g56,g57,g58,g59,g60,g61,g62,g63,g64,g65,g66,g67] M := by kernel_rfl
theorem k52_46 : P52 [1,1,1,1,0,1,0,0,1,0,0,1,1,1,0,1,0,1] = .ret := by kernel_rfl
theorem k52_47 : P52 [1,1,1,1,0,1,0,0,1,0,0,1,1,1,0,1,1] = .skip := by kernel_rfl
theorem k52_48 : P52 [1,1,1,1,0,1,0,0,1,0,0,1,1,1,1] = .seq (P52 [1,1,1,1,0,1,0,0,1,0,0,1,1,1,1,0]) (P52 [1,1,1,1,0,1,0,0,1,0,0,1,1,1,1,1]) := by kernel_rfl
theorem k52_49 : P52 [1,1,1,1,0,1,0,0,1,0,0,1,1,1,1,0] = .region 14 (O52 [1,1,1,1,0,1,0,0,1,0,0,1,1,1,1,0]) false := by kernel_rfl
theorem r52_14 {x4 x5 x8 : Int} {M : Mem} {call : CallM} {K : Array Value → Mem → R} :
    opsK Try.prog (fun _ => call) (O52 [1,1,1,1,0,1,0,0,1,0,0,1,1,1,1,0]) (O52 [1,1,1,1,0,1,0,0,1,0,0,1,1,1,1,0]).toList 0 #[g0,g1,g2,g3,.int .u64 x4,.int .u64 x5,g6,g7,.int .u64 x8,g9,g10,g11,g12,g13,g14,g15,g16,g17,g18,g19,g20,g21,g22,g23,g24,g25,g26,g27,g28,g29,g30,g31,g32,g33,g34,g35,g36,g37,g38,g39,g40,g41,g42,g43,g44,g45,g46,g47,g48,g49,g50,g51,g52,g53,g54,g55,g56,g57,g58,g59,g60,g61,g62,g63,g64,g65,g66,g67] M K = K #[g0,g1,g2,g3,.int .u64 (IntKind.u64.wrap (x4 + (IntKind.u64.wrap ((x8.tmod 128) * x5)))),.int .u64 x5,g6,g7,.int .u64 x8,g9,g10,g11,g12,g13,g14,g15,g16,g17,g18,g19,g20,g21,g22,g23,g24,g25,g26,g27,g28,g29,g30,g31,g32,g33,g34,g35,g36,g37,g38,g39,g40,g41,g42,g43,g44,g45,g46,g47,g48,g49,g50,.int .u64 x4,.int .u64 x8,.int .u64 (x8.tmod 128),.int .u64 x5,.int .u64 (IntKind.u64.wrap ((x8.tmod 128) * x5)),.int .u64 (IntKind.u64.wrap (x4 + (IntKind.u64.wrap ((x8.tmod 128) * x5)))),g57,g58,g59,g60,g61,g62,g63,g64,g65,g66,g67] M := by kernel_rfl
theorem k52_50 : P52 [1,1,1,1,0,1,0,0,1,0,0,1,1,1,1,1] = .seq (P52 [1,1,1,1,0,1,0,0,1,0,0,1,1,1,1,1,0]) (P52 [1,1,1,1,0,1,0,0,1,0,0,1,1,1,1,1,1]) := by kernel_rfl
theorem k52_51 : P52 [1,1,1,1,0,1,0,0,1,0,0,1,1,1,1,1,0] = .region 15 (O52 [1,1,1,1,0,1,0,0,1,0,0,1,1,1,1,1,0]) false := by kernel_rfl
theorem r52_15 {x5 : Int} {M : Mem} {call : CallM} {K : Array Value → Mem → R} :
    opsK Try.prog (fun _ => call) (O52 [1,1,1,1,0,1,0,0,1,0,0,1,1,1,1,1,0]) (O52 [1,1,1,1,0,1,0,0,1,0,0,1,1,1,1,1,0]).toList 0 #[g0,g1,g2,g3,g4,.int .u64 x5,g6,g7,g8,g9,g10,g11,g12,g13,g14,g15,g16,g17,g18,g19,g20,g21,g22,g23,g24,g25,g26,g27,g28,g29,g30,g31,g32,g33,g34,g35,g36,g37,g38,g39,g40,g41,g42,g43,g44,g45,g46,g47,g48,g49,g50,g51,g52,g53,g54,g55,g56,g57,g58,g59,g60,g61,g62,g63,g64,g65,g66,g67] M K = K #[g0,g1,g2,g3,g4,.int .u64 (IntKind.u64.wrap (x5 * 128)),g6,g7,g8,g9,g10,g11,g12,g13,g14,g15,g16,g17,g18,g19,g20,g21,g22,g23,g24,g25,g26,g27,g28,g29,g30,g31,g32,g33,g34,g35,g36,g37,g38,g39,g40,g41,g42,g43,g44,g45,g46,g47,g48,g49,g50,g51,g52,g53,g54,g55,g56,.int .u64 x5,.int .u64 (IntKind.u64.wrap (x5 * 128)),g59,g60,g61,g62,g63,g64,g65,g66,g67] M := by kernel_rfl
theorem k52_52 : P52 [1,1,1,1,0,1,0,0,1,0,0,1,1,1,1,1,1] = .seq (P52 [1,1,1,1,0,1,0,0,1,0,0,1,1,1,1,1,1,0]) (P52 [1,1,1,1,0,1,0,0,1,0,0,1,1,1,1,1,1,1]) := by kernel_rfl
theorem k52_53 : P52 [1,1,1,1,0,1,0,0,1,0,0,1,1,1,1,1,1,0] = .region 16 (O52 [1,1,1,1,0,1,0,0,1,0,0,1,1,1,1,1,1,0]) false := by kernel_rfl
theorem r52_16 {x8 : Int} {M : Mem} {call : CallM} {K : Array Value → Mem → R} :
    opsK Try.prog (fun _ => call) (O52 [1,1,1,1,0,1,0,0,1,0,0,1,1,1,1,1,1,0]) (O52 [1,1,1,1,0,1,0,0,1,0,0,1,1,1,1,1,1,0]).toList 0 #[g0,g1,g2,g3,g4,g5,g6,g7,.int .u64 x8,g9,g10,g11,g12,g13,g14,g15,g16,g17,g18,g19,g20,g21,g22,g23,g24,g25,g26,g27,g28,g29,g30,g31,g32,g33,g34,g35,g36,g37,g38,g39,g40,g41,g42,g43,g44,g45,g46,g47,g48,g49,g50,g51,g52,g53,g54,g55,g56,g57,g58,g59,g60,g61,g62,g63,g64,g65,g66,g67] M K = K #[g0,g1,g2,g3,g4,g5,g6,g7,.int .u64 x8,g9,g10,g11,g12,g13,g14,g15,g16,g17,g18,g19,g20,g21,g22,g23,g24,g25,g26,g27,g28,g29,g30,g31,g32,g33,g34,g35,g36,g37,g38,g39,g40,g41,g42,g43,g44,g45,g46,g47,g48,g49,g50,g51,g52,g53,g54,g55,g56,g57,g58,.int .u64 x8,.bool (decide (x8 < 128)),g61,g62,g63,g64,g65,g66,g67] M := by kernel_rfl
theorem c52_54 : P52 [1,1,1,1,0,1,0,0,1,0,0,1,1,1,1,1,1,1] = .cond (.tmp 60) (P52 [1,1,1,1,0,1,0,0,1,0,0,1,1,1,1,1,1,1,0]) (P52 [1,1,1,1,0,1,0,0,1,0,0,1,1,1,1,1,1,1,1]) := by kernel_rfl
theorem k52_55 : P52 [1,1,1,1,0,1,0,0,1,0,0,1,1,1,1,1,1,1,0] = .seq (P52 [1,1,1,1,0,1,0,0,1,0,0,1,1,1,1,1,1,1,0,0]) (P52 [1,1,1,1,0,1,0,0,1,0,0,1,1,1,1,1,1,1,0,1]) := by kernel_rfl
theorem k52_56 : P52 [1,1,1,1,0,1,0,0,1,0,0,1,1,1,1,1,1,1,0,0] = .region 17 (O52 [1,1,1,1,0,1,0,0,1,0,0,1,1,1,1,1,1,1,0,0]) false := by kernel_rfl
theorem r52_17 {x0 : Option Addr} {x7 : Int} {M : Mem} {call : CallM} {K : Array Value → Mem → R} :
    opsK Try.prog (fun _ => call) (O52 [1,1,1,1,0,1,0,0,1,0,0,1,1,1,1,1,1,1,0,0]) (O52 [1,1,1,1,0,1,0,0,1,0,0,1,1,1,1,1,1,1,0,0]).toList 0 #[.pointer x0,g1,g2,g3,g4,g5,g6,.int .i64 x7,g8,g9,g10,g11,g12,g13,g14,g15,g16,g17,g18,g19,g20,g21,g22,g23,g24,g25,g26,g27,g28,g29,g30,g31,g32,g33,g34,g35,g36,g37,g38,g39,g40,g41,g42,g43,g44,g45,g46,g47,g48,g49,g50,g51,g52,g53,g54,g55,g56,g57,g58,g59,g60,g61,g62,g63,g64,g65,g66,g67] M K = (x0).bind fun a_1 => (M.put a_1.block (a_1.off + 1) (.int .i64 (IntKind.i64.wrap (x7 + 8)))).bind fun M_2 => K #[.pointer x0,g1,g2,g3,g4,g5,g6,.int .i64 x7,g8,g9,g10,g11,g12,g13,g14,g15,g16,g17,g18,g19,g20,g21,g22,g23,g24,g25,g26,g27,g28,g29,g30,g31,g32,g33,g34,g35,g36,g37,g38,g39,g40,g41,g42,g43,g44,g45,g46,g47,g48,g49,g50,g51,g52,g53,g54,g55,g56,g57,g58,g59,g60,.pointer x0,.int .i64 x7,.int .i64 (IntKind.i64.wrap (x7 + 8)),.pointer (some a_1),.pointer (some ⟨a_1.block, a_1.off + 1, none⟩),g66,g67] M_2 := by kernel_rfl
theorem k52_57 : P52 [1,1,1,1,0,1,0,0,1,0,0,1,1,1,1,1,1,1,0,1] = .exit 0 := by kernel_rfl
theorem k52_58 : P52 [1,1,1,1,0,1,0,0,1,0,0,1,1,1,1,1,1,1,1] = .skip := by kernel_rfl
theorem k52_59 : P52 [1,1,1,1,0,1,0,0,1,1] = .region 7 (O52 [1,1,1,1,0,1,0,0,1,1]) false := by kernel_rfl
theorem r52_7 {x6 : Int} {M : Mem} {call : CallM} {K : Array Value → Mem → R} :
    opsK Try.prog (fun _ => call) (O52 [1,1,1,1,0,1,0,0,1,1]) (O52 [1,1,1,1,0,1,0,0,1,1]).toList 0 #[g0,g1,g2,g3,g4,g5,.int .i64 x6,g7,g8,g9,g10,g11,g12,g13,g14,g15,g16,g17,g18,g19,g20,g21,g22,g23,g24,g25,g26,g27,g28,g29,g30,g31,g32,g33,g34,g35,g36,g37,g38,g39,g40,g41,g42,g43,g44,g45,g46,g47,g48,g49,g50,g51,g52,g53,g54,g55,g56,g57,g58,g59,g60,g61,g62,g63,g64,g65,g66,g67] M K = K #[g0,g1,g2,g3,g4,g5,.int .i64 (IntKind.i64.wrap (x6 + 1)),g7,g8,g9,g10,g11,g12,g13,g14,g15,g16,.int .i64 x6,.int .i64 (IntKind.i64.wrap (x6 + 1)),g19,g20,g21,g22,g23,g24,g25,g26,g27,g28,g29,g30,g31,g32,g33,g34,g35,g36,g37,g38,g39,g40,g41,g42,g43,g44,g45,g46,g47,g48,g49,g50,g51,g52,g53,g54,g55,g56,g57,g58,g59,g60,g61,g62,g63,g64,g65,g66,g67] M := by kernel_rfl
theorem k52_60 : P52 [1,1,1,1,1] = .seq (P52 [1,1,1,1,1,0]) (P52 [1,1,1,1,1,1]) := by kernel_rfl
theorem k52_61 : P52 [1,1,1,1,1,0] = .region 18 (O52 [1,1,1,1,1,0]) false := by kernel_rfl
theorem r52_18 {x4 : Int} {M : Mem} {call : CallM} {K : Array Value → Mem → R} :
    opsK Try.prog (fun _ => call) (O52 [1,1,1,1,1,0]) (O52 [1,1,1,1,1,0]).toList 0 #[g0,g1,g2,g3,.int .u64 x4,g5,g6,g7,g8,g9,g10,g11,g12,g13,g14,g15,g16,g17,g18,g19,g20,g21,g22,g23,g24,g25,g26,g27,g28,g29,g30,g31,g32,g33,g34,g35,g36,g37,g38,g39,g40,g41,g42,g43,g44,g45,g46,g47,g48,g49,g50,g51,g52,g53,g54,g55,g56,g57,g58,g59,g60,g61,g62,g63,g64,g65,g66,g67] M K = K #[g0,g1,.int .u32 (IntKind.u32.wrap (x4)),.int .i64 0,.int .u64 x4,g5,g6,g7,g8,g9,g10,g11,g12,g13,g14,g15,g16,g17,g18,g19,g20,g21,g22,g23,g24,g25,g26,g27,g28,g29,g30,g31,g32,g33,g34,g35,g36,g37,g38,g39,g40,g41,g42,g43,g44,g45,g46,g47,g48,g49,g50,g51,g52,g53,g54,g55,g56,g57,g58,g59,g60,g61,g62,g63,g64,g65,.int .u64 x4,.int .u32 (IntKind.u32.wrap (x4))] M := by kernel_rfl
theorem k52_62 : P52 [1,1,1,1,1,1] = .ret := by kernel_rfl
noncomputable def S52_1 : List Item := [.code (P52 [1,1,1,1,0,1,0,0]), .inLoop (P52 [1,1,1,1,0,1,0,0]), .inBlock 0, .code (P52 [1,1,1,1,1])]
def A52_1 (x0 : Option Addr) (x4 x5 x6 : Int) (M : Mem) (Q : Value → Mem → Prop) : Prop := ∀ (g1 g2 g3 g7 g8 g9 g10 g11 g12 g13 g14 g15 g16 g17 g18 g19 g20 g21 g22 g23 g24 g25 g26 g27 g28 g29 g30 g31 g32 g33 g34 g35 g36 g37 g38 g39 g40 g41 g42 g43 g44 g45 g46 g47 g48 g49 g50 g51 g52 g53 g54 g55 g56 g57 g58 g59 g60 g61 g62 g63 g64 g65 g66 g67 : Value), Rn Try.prog Try.f52 S52_1 #[.pointer x0, g1, g2, g3, .int .u64 x4, .int .u64 x5, .int .i64 x6, g7, g8, g9, g10, g11, g12, g13, g14, g15, g16, g17, g18, g19, g20, g21, g22, g23, g24, g25, g26, g27, g28, g29, g30, g31, g32, g33, g34, g35, g36, g37, g38, g39, g40, g41, g42, g43, g44, g45, g46, g47, g48, g49, g50, g51, g52, g53, g54, g55, g56, g57, g58, g59, g60, g61, g62, g63, g64, g65, g66, g67] M Q
noncomputable def S52_2 : List Item := [.code (P52 [1,1,1,1,0,1,0,0,1,0,0,1,1,1,0,1]), .code (P52 [1,1,1,1,0,1,0,0,1,0,0,1,1,1,1]), .inBlock 1, .code (P52 [1,1,1,1,0,1,0,0,1,1]), .inLoop (P52 [1,1,1,1,0,1,0,0]), .inBlock 0, .code (P52 [1,1,1,1,1])]
def A52_2 (x0 : Option Addr) (x4 x5 x6 x7 x8 : Int) (x50 : Bool) (M : Mem) (Q : Value → Mem → Prop) : Prop := ∀ (g1 g2 g3 g9 g10 g11 g12 g13 g14 g15 g16 g17 g18 g19 g20 g21 g22 g23 g24 g25 g26 g27 g28 g29 g30 g31 g32 g33 g34 g35 g36 g37 g38 g39 g40 g41 g42 g43 g44 g45 g46 g47 g48 g49 g51 g52 g53 g54 g55 g56 g57 g58 g59 g60 g61 g62 g63 g64 g65 g66 g67 : Value), Rn Try.prog Try.f52 S52_2 #[.pointer x0, g1, g2, g3, .int .u64 x4, .int .u64 x5, .int .i64 x6, .int .i64 x7, .int .u64 x8, g9, g10, g11, g12, g13, g14, g15, g16, g17, g18, g19, g20, g21, g22, g23, g24, g25, g26, g27, g28, g29, g30, g31, g32, g33, g34, g35, g36, g37, g38, g39, g40, g41, g42, g43, g44, g45, g46, g47, g48, g49, .bool x50, g51, g52, g53, g54, g55, g56, g57, g58, g59, g60, g61, g62, g63, g64, g65, g66, g67] M Q
noncomputable def S52_3 : List Item := [.code (P52 [1,1,1,1,1])]
def A52_3 (x4 : Int) (M : Mem) (Q : Value → Mem → Prop) : Prop := ∀ (g0 g1 g2 g3 g5 g6 g7 g8 g9 g10 g11 g12 g13 g14 g15 g16 g17 g18 g19 g20 g21 g22 g23 g24 g25 g26 g27 g28 g29 g30 g31 g32 g33 g34 g35 g36 g37 g38 g39 g40 g41 g42 g43 g44 g45 g46 g47 g48 g49 g50 g51 g52 g53 g54 g55 g56 g57 g58 g59 g60 g61 g62 g63 g64 g65 g66 g67 : Value), Rn Try.prog Try.f52 S52_3 #[g0, g1, g2, g3, .int .u64 x4, g5, g6, g7, g8, g9, g10, g11, g12, g13, g14, g15, g16, g17, g18, g19, g20, g21, g22, g23, g24, g25, g26, g27, g28, g29, g30, g31, g32, g33, g34, g35, g36, g37, g38, g39, g40, g41, g42, g43, g44, g45, g46, g47, g48, g49, g50, g51, g52, g53, g54, g55, g56, g57, g58, g59, g60, g61, g62, g63, g64, g65, g66, g67] M Q
theorem w52_0 {x0 : Option Addr} {M : Mem} {Q : Value → Mem → Prop} (H :
    ∃ a1', x0 = some a1' ∧
    ∃ x2', M.intAt .i64 a1'.block (a1'.off + 1) = some x2' ∧
    (((x2'.tmod 8) ≠ 0 →
     Q (.tuple #[.int .u32 0, .int .i64 2]) M) ∧
     ((x2'.tmod 8) = 0 →
     A52_1 x0 0 1 0 M Q))) :
    Cn Try.prog 52 #[.pointer x0] M Q := by
  refine Cn.of b52 d52 t52 ?_
  refine Rn.seq k52_0 (Rn.region k52_1 (fun call K => r52_0) (Rch.leaf (Rn.seq k52_2 (Rn.seq k52_3 (Rn.region k52_4 (fun call K => r52_1) (Rch.ex H fun a1' H => Rch.ex H fun x2' H => Rch.leaf ?_))))))
  refine Rn.cnd (v := (x2'.tmod 8) != 0) ⟨c52_5, rfl, by kernel_rfl⟩ (fun h => ?_) (fun h => ?_)
  · replace H := H.1 (ne_of_bneT h)
    refine Rn.seq k52_6 (Rn.region k52_7 (fun call K => r52_2) (Rch.leaf ?_))
    exact Rn.ret k52_8 e52 H
  · replace H := H.2 (eq_of_bneF h)
    refine Rn.skip k52_10 (Rn.seq k52_11 (Rn.region k52_12 (fun call K => r52_3) (Rch.leaf (Rn.seq k52_13 (Rn.region k52_14 (fun call K => r52_4) (Rch.leaf (Rn.seq k52_15 (Rn.seq k52_16 (Rn.region k52_17 (fun call K => r52_5) (Rch.leaf (Rn.block k52_18 ?_)))))))))))
    refine Rn.loop k52_19 ?_
    exact H _ _ _ _ _ _ _ _ _ _ _ _ _ _ _ _ _ _ _ _ _ _ _ _ _ _ _ _ _ _ _ _ _ _ _ _ _ _ _ _ _ _ _ _ _ _ _ _ _ _ _ _ _ _ _ _ _ _ _ _ _ _ _ _

theorem w52_1 {x0 : Option Addr} {x4 x5 x6 : Int} {M : Mem} {Q : Value → Mem → Prop} (H :
    ((x6 < 5 →
     ∃ a3', x0 = some a3' ∧
     ∃ x4', M.intAt .i64 a3'.block (a3'.off + 1) = some x4' ∧
     ∃ a5', x0 = some a5' ∧
     ∃ s6', M.slAt a5'.block a5'.off = some s6' ∧
     (((IntKind.i64.wrap ((IntKind.i64.wrap (x4' + (IntKind.i64.wrap (8 * x6)))) + 8)) > ((s6'.2.1 : Int)) →
      Q (.tuple #[.int .u32 0, .int .i64 3]) M) ∧
      (¬ ((IntKind.i64.wrap ((IntKind.i64.wrap (x4' + (IntKind.i64.wrap (8 * x6)))) + 8)) > ((s6'.2.1 : Int))) →
      Cn Try.prog 62 #[.pointer x0, .int .i64 (IntKind.i64.wrap (x4' + (IntKind.i64.wrap (8 * x6)))), .int .i64 8] M fun v7' N7' =>
       ∃ x8', asI .u64 v7' = some x8' ∧
       ((x6 = 4 →
        ((x8' > 15 →
         A52_2 x0 x4 x5 x6 (IntKind.i64.wrap (x4' + (IntKind.i64.wrap (8 * x6)))) x8' true N7' Q) ∧
         (¬ (x8' > 15) →
         ((x6 > 0 →
          A52_2 x0 x4 x5 x6 (IntKind.i64.wrap (x4' + (IntKind.i64.wrap (8 * x6)))) x8' (x8' == 0) N7' Q) ∧
          (¬ (x6 > 0) →
          A52_2 x0 x4 x5 x6 (IntKind.i64.wrap (x4' + (IntKind.i64.wrap (8 * x6)))) x8' false N7' Q))))) ∧
        (x6 ≠ 4 →
        ((x6 > 0 →
         A52_2 x0 x4 x5 x6 (IntKind.i64.wrap (x4' + (IntKind.i64.wrap (8 * x6)))) x8' (x8' == 0) N7' Q) ∧
         (¬ (x6 > 0) →
         A52_2 x0 x4 x5 x6 (IntKind.i64.wrap (x4' + (IntKind.i64.wrap (8 * x6)))) x8' false N7' Q))))))) ∧
     (¬ (x6 < 5) →
     A52_3 x4 M Q))) :
    A52_1 x0 x4 x5 x6 M Q := by
  intro g1 g2 g3 g7 g8 g9 g10 g11 g12 g13 g14 g15 g16 g17 g18 g19 g20 g21 g22 g23 g24 g25 g26 g27 g28 g29 g30 g31 g32 g33 g34 g35 g36 g37 g38 g39 g40 g41 g42 g43 g44 g45 g46 g47 g48 g49 g50 g51 g52 g53 g54 g55 g56 g57 g58 g59 g60 g61 g62 g63 g64 g65 g66 g67
  refine Rn.seq k52_20 (Rn.seq k52_21 (Rn.region k52_22 (fun call K => r52_6) (Rch.leaf ?_)))
  refine Rn.cnd (v := decide (x6 < 5)) ⟨c52_23, rfl, by kernel_rfl⟩ (fun h => ?_) (fun h => ?_)
  · replace H := H.1 (of_decide_eq_true h)
    refine Rn.skip k52_24 (Rn.seq k52_25 (Rn.block k52_26 (Rn.seq k52_27 (Rn.region k52_28 (fun call K => r52_8) (Rch.ex H fun a3' H => Rch.ex H fun x4' H => Rch.leaf (Rn.seq k52_29 (Rn.seq k52_30 (Rn.region k52_31 (fun call K => r52_9) (Rch.ex H fun a5' H => ?_)))))))))
    refine Rch.ex H fun s6' H => Rch.leaf ?_
    refine Rn.cnd (v := decide ((IntKind.i64.wrap ((IntKind.i64.wrap (x4' + (IntKind.i64.wrap (8 * x6)))) + 8)) > ((s6'.2.1 : Int)))) ⟨c52_32, rfl, by kernel_rfl⟩ (fun h => ?_) (fun h => ?_)
    · replace H := H.1 (of_decide_eq_true h)
      refine Rn.seq k52_33 (Rn.region k52_34 (fun call K => r52_10) (Rch.leaf ?_))
      exact Rn.ret k52_35 e52 H
    · replace H := H.2 (of_decide_eq_false h)
      refine Rn.skip k52_36 (Rn.seq k52_37 (Rn.region k52_38 (fun call K => r52_11) (Rch.call H fun v7' N7' H => Rch.ex H fun x8' H => Rch.leaf (Rn.seq k52_39 (Rn.seq k52_40 (Rn.region k52_41 (fun call K => r52_12) ?_))))))
      refine Rch.cB (fun h => ?_) (fun h => ?_)
      · replace H := H.1 (eq_of_beq h)
        refine Rch.cB (fun h => ?_) (fun h => ?_)
        · replace H := H.1 (of_decide_eq_true h)
          refine Rch.leaf ?_
          exact H _ _ _ _ _ _ _ _ _ _ _ _ _ _ _ _ _ _ _ _ _ _ _ _ _ _ _ _ _ _ _ _ _ _ _ _ _ _ _ _ _ _ _ _ _ _ _ _ _ _ _ _ _ _ _ _ _ _ _ _ _
        · replace H := H.2 (of_decide_eq_false h)
          refine Rch.cB (fun h => ?_) (fun h => ?_)
          · replace H := H.1 (of_decide_eq_true h)
            refine Rch.leaf ?_
            exact H _ _ _ _ _ _ _ _ _ _ _ _ _ _ _ _ _ _ _ _ _ _ _ _ _ _ _ _ _ _ _ _ _ _ _ _ _ _ _ _ _ _ _ _ _ _ _ _ _ _ _ _ _ _ _ _ _ _ _ _ _
          · replace H := H.2 (of_decide_eq_false h)
            refine Rch.leaf ?_
            exact H _ _ _ _ _ _ _ _ _ _ _ _ _ _ _ _ _ _ _ _ _ _ _ _ _ _ _ _ _ _ _ _ _ _ _ _ _ _ _ _ _ _ _ _ _ _ _ _ _ _ _ _ _ _ _ _ _ _ _ _ _
      · replace H := H.2 (ne_of_beq_false h)
        refine Rch.cB (fun h => ?_) (fun h => ?_)
        · replace H := H.1 (of_decide_eq_true h)
          refine Rch.leaf ?_
          exact H _ _ _ _ _ _ _ _ _ _ _ _ _ _ _ _ _ _ _ _ _ _ _ _ _ _ _ _ _ _ _ _ _ _ _ _ _ _ _ _ _ _ _ _ _ _ _ _ _ _ _ _ _ _ _ _ _ _ _ _ _
        · replace H := H.2 (of_decide_eq_false h)
          refine Rch.leaf ?_
          exact H _ _ _ _ _ _ _ _ _ _ _ _ _ _ _ _ _ _ _ _ _ _ _ _ _ _ _ _ _ _ _ _ _ _ _ _ _ _ _ _ _ _ _ _ _ _ _ _ _ _ _ _ _ _ _ _ _ _ _ _ _
  · replace H := H.2 (of_decide_eq_false h)
    refine Rn.exit k52_42 rfl ?_
    exact H _ _ _ _ _ _ _ _ _ _ _ _ _ _ _ _ _ _ _ _ _ _ _ _ _ _ _ _ _ _ _ _ _ _ _ _ _ _ _ _ _ _ _ _ _ _ _ _ _ _ _ _ _ _ _ _ _ _ _ _ _ _ _ _ _ _ _

theorem w52_2 {x0 : Option Addr} {x4 x5 x6 x7 x8 : Int} {x50 : Bool} {M : Mem} {Q : Value → Mem → Prop} (H :
    ((x50 = true →
     Q (.tuple #[.int .u32 0, .int .i64 4]) M) ∧
     (x50 = false →
     ((x8 < 128 →
      ∃ a9', x0 = some a9' ∧
      ∃ M10', M.put a9'.block (a9'.off + 1) (.int .i64 (IntKind.i64.wrap (x7 + 8))) = some M10' ∧
      A52_3 (IntKind.u64.wrap (x4 + (IntKind.u64.wrap ((x8.tmod 128) * x5)))) M10' Q) ∧
      (¬ (x8 < 128) →
      A52_1 x0 (IntKind.u64.wrap (x4 + (IntKind.u64.wrap ((x8.tmod 128) * x5)))) (IntKind.u64.wrap (x5 * 128)) (IntKind.i64.wrap (x6 + 1)) M Q))))) :
    A52_2 x0 x4 x5 x6 x7 x8 x50 M Q := by
  intro g1 g2 g3 g9 g10 g11 g12 g13 g14 g15 g16 g17 g18 g19 g20 g21 g22 g23 g24 g25 g26 g27 g28 g29 g30 g31 g32 g33 g34 g35 g36 g37 g38 g39 g40 g41 g42 g43 g44 g45 g46 g47 g48 g49 g51 g52 g53 g54 g55 g56 g57 g58 g59 g60 g61 g62 g63 g64 g65 g66 g67
  refine Rn.cnd (v := x50) ⟨c52_43, rfl, by kernel_rfl⟩ (fun h => ?_) (fun h => ?_)
  · replace H := H.1 (h)
    refine Rn.seq k52_44 (Rn.region k52_45 (fun call K => r52_13) (Rch.leaf ?_))
    exact Rn.ret k52_46 e52 H
  · replace H := H.2 (h)
    refine Rn.skip k52_47 (Rn.seq k52_48 (Rn.region k52_49 (fun call K => r52_14) (Rch.leaf (Rn.seq k52_50 (Rn.region k52_51 (fun call K => r52_15) (Rch.leaf (Rn.seq k52_52 (Rn.region k52_53 (fun call K => r52_16) (Rch.leaf ?_)))))))))
    refine Rn.cnd (v := decide (x8 < 128)) ⟨c52_54, rfl, by kernel_rfl⟩ (fun h => ?_) (fun h => ?_)
    · replace H := H.1 (of_decide_eq_true h)
      refine Rn.seq k52_55 (Rn.region k52_56 (fun call K => r52_17) (Rch.ex H fun a9' H => Rch.ex H fun M10' H => Rch.leaf (Rn.exit k52_57 rfl ?_)))
      exact H _ _ _ _ _ _ _ _ _ _ _ _ _ _ _ _ _ _ _ _ _ _ _ _ _ _ _ _ _ _ _ _ _ _ _ _ _ _ _ _ _ _ _ _ _ _ _ _ _ _ _ _ _ _ _ _ _ _ _ _ _ _ _ _ _ _ _
    · replace H := H.2 (of_decide_eq_false h)
      refine Rn.skip k52_58 (Rn.blk (Rn.region k52_59 (fun call K => r52_7) (Rch.leaf (Rn.lp ?_))))
      exact H _ _ _ _ _ _ _ _ _ _ _ _ _ _ _ _ _ _ _ _ _ _ _ _ _ _ _ _ _ _ _ _ _ _ _ _ _ _ _ _ _ _ _ _ _ _ _ _ _ _ _ _ _ _ _ _ _ _ _ _ _ _ _ _

theorem w52_3 {x4 : Int} {M : Mem} {Q : Value → Mem → Prop} (H :
    Q (.tuple #[.int .u32 (IntKind.u32.wrap (x4)), .int .i64 0]) M) :
    A52_3 x4 M Q := by
  intro g0 g1 g2 g3 g5 g6 g7 g8 g9 g10 g11 g12 g13 g14 g15 g16 g17 g18 g19 g20 g21 g22 g23 g24 g25 g26 g27 g28 g29 g30 g31 g32 g33 g34 g35 g36 g37 g38 g39 g40 g41 g42 g43 g44 g45 g46 g47 g48 g49 g50 g51 g52 g53 g54 g55 g56 g57 g58 g59 g60 g61 g62 g63 g64 g65 g66 g67
  refine Rn.seq k52_60 (Rn.region k52_61 (fun call K => r52_18) (Rch.leaf ?_))
  exact Rn.ret k52_62 e52 H


/-! ### (*zoetrope/zoetroperef01.Reader).Align: function 53 -/
noncomputable abbrev P53 (p : List Nat) : Code := subC (codeOf Try.f53) p
noncomputable abbrev O53 (p : List Nat) : Array Oper := opsOf (subC (codeOf Try.f53) p)
theorem b53 : Try.prog.funcs[53]? = some Try.f53 ∧ (Orc.tab Try.prog).lookup 53 = none := ⟨by kernel_rfl, by kernel_rfl⟩
theorem d53 : Try.f53.body = some (P53 []) := by kernel_rfl
theorem t53 {x0 : Option Addr} : #[.pointer x0] ++ Array.replicate (Try.f53.ntmps - (#[.pointer x0] : Array Value).size) undef = #[.pointer x0,undef,undef,undef,undef,undef,undef,undef,undef,undef,undef,undef,undef,undef,undef,undef,undef,undef,undef,undef,undef,undef,undef,undef,undef] := by kernel_rfl
theorem k53_0 : P53 [] = .seq (P53 [0]) (P53 [1]) := by kernel_rfl
theorem k53_1 : P53 [0] = .region 0 (O53 [0]) false := by kernel_rfl
theorem r53_0 {M : Mem} {call : CallM} {K : Array Value → Mem → R} :
    opsK Try.prog (fun _ => call) (O53 [0]) (O53 [0]).toList 0 #[g0,g1,g2,g3,g4,g5,g6,g7,g8,g9,g10,g11,g12,g13,g14,g15,g16,g17,g18,g19,g20,g21,g22,g23,g24] M K = K #[g0,g1,.int .i64 0,g3,g4,g5,g6,g7,g8,g9,g10,g11,g12,g13,g14,g15,g16,g17,g18,g19,g20,g21,g22,g23,g24] M := by kernel_rfl
theorem k53_2 : P53 [1] = .seq (P53 [1,0]) (P53 [1,1]) := by kernel_rfl
theorem k53_3 : P53 [1,0] = .region 1 (O53 [1,0]) false := by kernel_rfl
theorem r53_1 {x0 : Option Addr} {M : Mem} {call : CallM} {K : Array Value → Mem → R} :
    opsK Try.prog (fun _ => call) (O53 [1,0]) (O53 [1,0]).toList 0 #[.pointer x0,g1,g2,g3,g4,g5,g6,g7,g8,g9,g10,g11,g12,g13,g14,g15,g16,g17,g18,g19,g20,g21,g22,g23,g24] M K = (x0).bind fun a_1 => (M.intAt .i64 a_1.block (a_1.off + 1)).bind fun x_2 => K #[.pointer x0,g1,g2,.int .i64 x_2,.pointer x0,.pointer (some a_1),.pointer (some ⟨a_1.block, a_1.off + 1, none⟩),.int .i64 x_2,g8,g9,g10,g11,g12,g13,g14,g15,g16,g17,g18,g19,g20,g21,g22,g23,g24] M := by kernel_rfl
theorem k53_4 : P53 [1,1] = .seq (P53 [1,1,0]) (P53 [1,1,1]) := by kernel_rfl
theorem k53_5 : P53 [1,1,0] = .block 0 (P53 [1,1,0,0]) := by kernel_rfl
theorem k53_6 : P53 [1,1,0,0] = .loop (P53 [1,1,0,0,0]) := by kernel_rfl
theorem k53_7 : P53 [1,1,0,0,0] = .seq (P53 [1,1,0,0,0,0]) (P53 [1,1,0,0,0,1]) := by kernel_rfl
theorem k53_8 : P53 [1,1,0,0,0,0] = .seq (P53 [1,1,0,0,0,0,0]) (P53 [1,1,0,0,0,0,1]) := by kernel_rfl
theorem k53_9 : P53 [1,1,0,0,0,0,0] = .region 2 (O53 [1,1,0,0,0,0,0]) false := by kernel_rfl
theorem r53_2 {x3 : Int} {M : Mem} {call : CallM} {K : Array Value → Mem → R} :
    opsK Try.prog (fun _ => call) (O53 [1,1,0,0,0,0,0]) (O53 [1,1,0,0,0,0,0]).toList 0 #[g0,g1,g2,.int .i64 x3,g4,g5,g6,g7,g8,g9,g10,g11,g12,g13,g14,g15,g16,g17,g18,g19,g20,g21,g22,g23,g24] M K = K #[g0,g1,g2,.int .i64 x3,g4,g5,g6,g7,.int .i64 x3,.int .i64 (x3.tmod 8),.bool ((x3.tmod 8) != 0),g11,g12,g13,g14,g15,g16,g17,g18,g19,g20,g21,g22,g23,g24] M := by kernel_rfl
theorem c53_10 : P53 [1,1,0,0,0,0,1] = .cond (.tmp 10) (P53 [1,1,0,0,0,0,1,0]) (P53 [1,1,0,0,0,0,1,1]) := by kernel_rfl
theorem k53_11 : P53 [1,1,0,0,0,0,1,0] = .skip := by kernel_rfl
theorem k53_12 : P53 [1,1,0,0,0,1] = .block 1 (P53 [1,1,0,0,0,1,0]) := by kernel_rfl
theorem k53_13 : P53 [1,1,0,0,0,1,0] = .seq (P53 [1,1,0,0,0,1,0,0]) (P53 [1,1,0,0,0,1,0,1]) := by kernel_rfl
theorem k53_14 : P53 [1,1,0,0,0,1,0,0] = .seq (P53 [1,1,0,0,0,1,0,0,0]) (P53 [1,1,0,0,0,1,0,0,1]) := by kernel_rfl
theorem k53_15 : P53 [1,1,0,0,0,1,0,0,0] = .region 3 (O53 [1,1,0,0,0,1,0,0,0]) false := by kernel_rfl
theorem r53_3 {x0 : Option Addr} {x3 : Int} {M : Mem} {call : CallM} {K : Array Value → Mem → R} :
    opsK Try.prog (fun _ => call) (O53 [1,1,0,0,0,1,0,0,0]) (O53 [1,1,0,0,0,1,0,0,0]).toList 0 #[.pointer x0,g1,g2,.int .i64 x3,g4,g5,g6,g7,g8,g9,g10,g11,g12,g13,g14,g15,g16,g17,g18,g19,g20,g21,g22,g23,g24] M K = (x0).bind fun a_1 => (M.slAt a_1.block a_1.off).bind fun s_2 => (idxA s_2.1 (s_2.2.1) 1 x3).bind fun a_3 => (M.intAt .i64 a_3.block a_3.off).bind fun x_4 => K #[.pointer x0,g1,g2,.int .i64 x3,g4,g5,g6,g7,g8,g9,g10,.pointer x0,.pointer (some a_1),.pointer (some ⟨a_1.block, a_1.off, none⟩),.slice s_2.1 (s_2.2.1) (s_2.2.2),.int .i64 x3,.pointer (some a_3),.int .i64 x_4,.bool (x_4 == 1),g19,g20,g21,g22,g23,g24] M := by kernel_rfl
theorem c53_16 : P53 [1,1,0,0,0,1,0,0,1] = .cond (.tmp 18) (P53 [1,1,0,0,0,1,0,0,1,0]) (P53 [1,1,0,0,0,1,0,0,1,1]) := by kernel_rfl
theorem k53_17 : P53 [1,1,0,0,0,1,0,0,1,0] = .seq (P53 [1,1,0,0,0,1,0,0,1,0,0]) (P53 [1,1,0,0,0,1,0,0,1,0,1]) := by kernel_rfl
theorem k53_18 : P53 [1,1,0,0,0,1,0,0,1,0,0] = .region 4 (O53 [1,1,0,0,0,1,0,0,1,0,0]) false := by kernel_rfl
theorem r53_4 {M : Mem} {call : CallM} {K : Array Value → Mem → R} :
    opsK Try.prog (fun _ => call) (O53 [1,1,0,0,0,1,0,0,1,0,0]) (O53 [1,1,0,0,0,1,0,0,1,0,0]).toList 0 #[g0,g1,g2,g3,g4,g5,g6,g7,g8,g9,g10,g11,g12,g13,g14,g15,g16,g17,g18,g19,g20,g21,g22,g23,g24] M K = K #[g0,g1,.int .i64 4,g3,g4,g5,g6,g7,g8,g9,g10,g11,g12,g13,g14,g15,g16,g17,g18,g19,g20,g21,g22,g23,g24] M := by kernel_rfl
theorem k53_19 : P53 [1,1,0,0,0,1,0,0,1,0,1] = .ret := by kernel_rfl
theorem e53 {M : Mem} : finish Try.prog Try.f53 #[g0,g1,g2,g3,g4,g5,g6,g7,g8,g9,g10,g11,g12,g13,g14,g15,g16,g17,g18,g19,g20,g21,g22,g23,g24] M = some (g2, M) := by kernel_rfl
theorem k53_21 : P53 [1,1,0,0,0,1,0,0,1,1] = .skip := by kernel_rfl
theorem k53_22 : P53 [1,1,0,0,0,1,0,1] = .region 5 (O53 [1,1,0,0,0,1,0,1]) false := by kernel_rfl
theorem r53_5 {x3 : Int} {M : Mem} {call : CallM} {K : Array Value → Mem → R} :
    opsK Try.prog (fun _ => call) (O53 [1,1,0,0,0,1,0,1]) (O53 [1,1,0,0,0,1,0,1]).toList 0 #[g0,g1,g2,.int .i64 x3,g4,g5,g6,g7,g8,g9,g10,g11,g12,g13,g14,g15,g16,g17,g18,g19,g20,g21,g22,g23,g24] M K = K #[g0,g1,g2,.int .i64 (IntKind.i64.wrap (x3 + 1)),g4,g5,g6,g7,g8,g9,g10,g11,g12,g13,g14,g15,g16,g17,g18,.int .i64 x3,.int .i64 (IntKind.i64.wrap (x3 + 1)),g21,g22,g23,g24] M := by kernel_rfl
theorem k53_23 : P53 [1,1,0,0,0,0,1,1] = .exit 0 := by kernel_rfl
theorem k53_24 : P53 [1,1,1] = .seq (P53 [1,1,1,0]) (P53 [1,1,1,1]) := by kernel_rfl
theorem k53_25 : P53 [1,1,1,0] = .region 6 (O53 [1,1,1,0]) false := by kernel_rfl
theorem r53_6 {x0 : Option Addr} {x3 : Int} {M : Mem} {call : CallM} {K : Array Value → Mem → R} :
    opsK Try.prog (fun _ => call) (O53 [1,1,1,0]) (O53 [1,1,1,0]).toList 0 #[.pointer x0,g1,g2,.int .i64 x3,g4,g5,g6,g7,g8,g9,g10,g11,g12,g13,g14,g15,g16,g17,g18,g19,g20,g21,g22,g23,g24] M K = (x0).bind fun a_1 => (M.put a_1.block (a_1.off + 1) (.int .i64 x3)).bind fun M_2 => K #[.pointer x0,g1,g2,.int .i64 x3,g4,g5,g6,g7,g8,g9,g10,g11,g12,g13,g14,g15,g16,g17,g18,g19,g20,.pointer x0,.int .i64 x3,.pointer (some a_1),.pointer (some ⟨a_1.block, a_1.off + 1, none⟩)] M_2 := by kernel_rfl
theorem k53_26 : P53 [1,1,1,1] = .seq (P53 [1,1,1,1,0]) (P53 [1,1,1,1,1]) := by kernel_rfl
theorem k53_27 : P53 [1,1,1,1,0] = .region 7 (O53 [1,1,1,1,0]) false := by kernel_rfl
theorem r53_7 {M : Mem} {call : CallM} {K : Array Value → Mem → R} :
    opsK Try.prog (fun _ => call) (O53 [1,1,1,1,0]) (O53 [1,1,1,1,0]).toList 0 #[g0,g1,g2,g3,g4,g5,g6,g7,g8,g9,g10,g11,g12,g13,g14,g15,g16,g17,g18,g19,g20,g21,g22,g23,g24] M K = K #[g0,g1,.int .i64 0,g3,g4,g5,g6,g7,g8,g9,g10,g11,g12,g13,g14,g15,g16,g17,g18,g19,g20,g21,g22,g23,g24] M := by kernel_rfl
theorem k53_28 : P53 [1,1,1,1,1] = .ret := by kernel_rfl
noncomputable def S53_1 : List Item := [.code (P53 [1,1,0,0,0]), .inLoop (P53 [1,1,0,0,0]), .inBlock 0, .code (P53 [1,1,1])]
def A53_1 (x0 : Option Addr) (x3 : Int) (M : Mem) (Q : Value → Mem → Prop) : Prop := ∀ (g1 g2 g4 g5 g6 g7 g8 g9 g10 g11 g12 g13 g14 g15 g16 g17 g18 g19 g20 g21 g22 g23 g24 : Value), Rn Try.prog Try.f53 S53_1 #[.pointer x0, g1, g2, .int .i64 x3, g4, g5, g6, g7, g8, g9, g10, g11, g12, g13, g14, g15, g16, g17, g18, g19, g20, g21, g22, g23, g24] M Q
theorem w53_0 {x0 : Option Addr} {M : Mem} {Q : Value → Mem → Prop} (H :
    ∃ a1', x0 = some a1' ∧
    ∃ x2', M.intAt .i64 a1'.block (a1'.off + 1) = some x2' ∧
    A53_1 x0 x2' M Q) :
    Cn Try.prog 53 #[.pointer x0] M Q := by
  refine Cn.of b53 d53 t53 ?_
  refine Rn.seq k53_0 (Rn.region k53_1 (fun call K => r53_0) (Rch.leaf (Rn.seq k53_2 (Rn.region k53_3 (fun call K => r53_1) (Rch.ex H fun a1' H => Rch.ex H fun x2' H => Rch.leaf (Rn.seq k53_4 (Rn.block k53_5 (Rn.loop k53_6 ?_))))))))
  exact H _ _ _ _ _ _ _ _ _ _ _ _ _ _ _ _ _ _ _ _ _ _ _

theorem w53_1 {x0 : Option Addr} {x3 : Int} {M : Mem} {Q : Value → Mem → Prop} (H :
    (((x3.tmod 8) ≠ 0 →
     ∃ a3', x0 = some a3' ∧
     ∃ s4', M.slAt a3'.block a3'.off = some s4' ∧
     ∃ a5', idxA s4'.1 (s4'.2.1) 1 x3 = some a5' ∧
     ∃ x6', M.intAt .i64 a5'.block a5'.off = some x6' ∧
     ((x6' = 1 →
      Q (.int .i64 4) M) ∧
      (x6' ≠ 1 →
      A53_1 x0 (IntKind.i64.wrap (x3 + 1)) M Q))) ∧
     ((x3.tmod 8) = 0 →
     ∃ a7', x0 = some a7' ∧
     ∃ M8', M.put a7'.block (a7'.off + 1) (.int .i64 x3) = some M8' ∧
     Q (.int .i64 0) M8'))) :
    A53_1 x0 x3 M Q := by
  intro g1 g2 g4 g5 g6 g7 g8 g9 g10 g11 g12 g13 g14 g15 g16 g17 g18 g19 g20 g21 g22 g23 g24
  refine Rn.seq k53_7 (Rn.seq k53_8 (Rn.region k53_9 (fun call K => r53_2) (Rch.leaf ?_)))
  refine Rn.cnd (v := (x3.tmod 8) != 0) ⟨c53_10, rfl, by kernel_rfl⟩ (fun h => ?_) (fun h => ?_)
  · replace H := H.1 (ne_of_bneT h)
    refine Rn.skip k53_11 (Rn.block k53_12 (Rn.seq k53_13 (Rn.seq k53_14 (Rn.region k53_15 (fun call K => r53_3) (Rch.ex H fun a3' H => Rch.ex H fun s4' H => Rch.ex H fun a5' H => Rch.ex H fun x6' H => Rch.leaf ?_)))))
    refine Rn.cnd (v := x6' == 1) ⟨c53_16, rfl, by kernel_rfl⟩ (fun h => ?_) (fun h => ?_)
    · replace H := H.1 (eq_of_beq h)
      refine Rn.seq k53_17 (Rn.region k53_18 (fun call K => r53_4) (Rch.leaf ?_))
      exact Rn.ret k53_19 e53 H
    · replace H := H.2 (ne_of_beq_false h)
      refine Rn.skip k53_21 (Rn.region k53_22 (fun call K => r53_5) (Rch.leaf (Rn.blk (Rn.lp ?_))))
      exact H _ _ _ _ _ _ _ _ _ _ _ _ _ _ _ _ _ _ _ _ _ _ _
  · replace H := H.2 (eq_of_bneF h)
    refine Rn.exit k53_23 rfl (Rn.seq k53_24 (Rn.region k53_25 (fun call K => r53_6) (Rch.ex H fun a7' H => Rch.ex H fun M8' H => Rch.leaf (Rn.seq k53_26 (Rn.region k53_27 (fun call K => r53_7) (Rch.leaf ?_))))))
    exact Rn.ret k53_28 e53 H


/-! ### zoetrope/zoetroperef01.Write: function 10 -/
noncomputable abbrev P10 (p : List Nat) : Code := subC (codeOf Try.f10) p
noncomputable abbrev O10 (p : List Nat) : Array Oper := opsOf (subC (codeOf Try.f10) p)
theorem b10 : Try.prog.funcs[10]? = some Try.f10 ∧ (Orc.tab Try.prog).lookup 10 = none := ⟨by kernel_rfl, by kernel_rfl⟩
theorem d10 : Try.f10.body = some (P10 []) := by kernel_rfl
theorem t10 : #[] ++ Array.replicate (Try.f10.ntmps - (#[] : Array Value).size) undef = #[undef,undef,undef] := by kernel_rfl
theorem k10_0 : P10 [] = .seq (P10 [0]) (P10 [1]) := by kernel_rfl
theorem k10_1 : P10 [0] = .region 0 (O10 [0]) false := by kernel_rfl
theorem r10_0 {M : Mem} {call : CallM} {K : Array Value → Mem → R} :
    opsK Try.prog (fun _ => call) (O10 [0]) (O10 [0]).toList 0 #[g0,g1,g2] M K = K #[.pointer none,g1,g2] M := by kernel_rfl
theorem k10_2 : P10 [1] = .seq (P10 [1,0]) (P10 [1,1]) := by kernel_rfl
theorem k10_3 : P10 [1,0] = .region 1 (O10 [1,0]) false := by kernel_rfl
theorem r10_1 {M : Mem} {call : CallM} {K : Array Value → Mem → R} :
    opsK Try.prog (fun _ => call) (O10 [1,0]) (O10 [1,0]).toList 0 #[g0,g1,g2] M K = K #[.pointer (some ⟨2 * M.nb.size, 0, none⟩),.agg #[.slice none 0 0],.pointer (some ⟨2 * M.nb.size, 0, none⟩)] (M.new (.cells #[.slice none 0 0] 63)) := by kernel_rfl
theorem k10_4 : P10 [1,1] = .ret := by kernel_rfl
theorem e10 {M : Mem} : finish Try.prog Try.f10 #[g0,g1,g2] M = some (g0, M) := by kernel_rfl
theorem w10_0 {M : Mem} {Q : Value → Mem → Prop} (H :
    Q (.pointer (some ⟨2 * M.nb.size, 0, none⟩)) (M.new (.cells #[.slice none 0 0] 63))) :
    Cn Try.prog 10 #[] M Q := by
  refine Cn.of b10 d10 t10 ?_
  refine Rn.seq k10_0 (Rn.region k10_1 (fun call K => r10_0) (Rch.leaf (Rn.seq k10_2 (Rn.region k10_3 (fun call K => r10_1) (Rch.leaf ?_)))))
  exact Rn.ret k10_4 e10 H


/-! ### (*zoetrope/zoetroperef01.Writer).put: function 42 -/
noncomputable abbrev P42 (p : List Nat) : Code := subC (codeOf Try.f42) p
noncomputable abbrev O42 (p : List Nat) : Array Oper := opsOf (subC (codeOf Try.f42) p)
theorem b42 : Try.prog.funcs[42]? = some Try.f42 ∧ (Orc.tab Try.prog).lookup 42 = none := ⟨by kernel_rfl, by kernel_rfl⟩
theorem d42 : Try.f42.body = some (P42 []) := by kernel_rfl
theorem t42 {x0 : Option Addr} {x1 x2 : Int} : #[.pointer x0,.int .u64 x1,.int .i64 x2] ++ Array.replicate (Try.f42.ntmps - (#[.pointer x0,.int .u64 x1,.int .i64 x2] : Array Value).size) undef = #[.pointer x0,.int .u64 x1,.int .i64 x2,undef,undef,undef,undef,undef,undef,undef,undef,undef,undef,undef,undef,undef,undef,undef,undef,undef,undef,undef,undef,undef,undef,undef,undef] := by kernel_rfl
theorem k42_0 : P42 [] = .seq (P42 [0]) (P42 [1]) := by kernel_rfl
theorem k42_1 : P42 [0] = .region 0 (O42 [0]) false := by kernel_rfl
theorem r42_0 {x2 : Int} {M : Mem} {call : CallM} {K : Array Value → Mem → R} :
    opsK Try.prog (fun _ => call) (O42 [0]) (O42 [0]).toList 0 #[g0,g1,.int .i64 x2,g3,g4,g5,g6,g7,g8,g9,g10,g11,g12,g13,g14,g15,g16,g17,g18,g19,g20,g21,g22,g23,g24,g25,g26] M K = K #[g0,g1,.int .i64 x2,g3,g4,g5,.int .i64 (IntKind.i64.wrap (x2 - 1)),.int .i64 x2,.int .i64 (IntKind.i64.wrap (x2 - 1)),g9,g10,g11,g12,g13,g14,g15,g16,g17,g18,g19,g20,g21,g22,g23,g24,g25,g26] M := by kernel_rfl
theorem k42_2 : P42 [1] = .block 0 (P42 [1,0]) := by kernel_rfl
theorem k42_3 : P42 [1,0] = .loop (P42 [1,0,0]) := by kernel_rfl
theorem k42_4 : P42 [1,0,0] = .seq (P42 [1,0,0,0]) (P42 [1,0,0,1]) := by kernel_rfl
theorem k42_5 : P42 [1,0,0,0] = .seq (P42 [1,0,0,0,0]) (P42 [1,0,0,0,1]) := by kernel_rfl
theorem k42_6 : P42 [1,0,0,0,0] = .region 1 (O42 [1,0,0,0,0]) false := by kernel_rfl
theorem r42_1 {x6 : Int} {M : Mem} {call : CallM} {K : Array Value → Mem → R} :
    opsK Try.prog (fun _ => call) (O42 [1,0,0,0,0]) (O42 [1,0,0,0,0]).toList 0 #[g0,g1,g2,g3,g4,g5,.int .i64 x6,g7,g8,g9,g10,g11,g12,g13,g14,g15,g16,g17,g18,g19,g20,g21,g22,g23,g24,g25,g26] M K = K #[g0,g1,g2,g3,g4,g5,.int .i64 x6,g7,g8,.int .i64 x6,.bool (decide (x6 ≥ 0)),g11,g12,g13,g14,g15,g16,g17,g18,g19,g20,g21,g22,g23,g24,g25,g26] M := by kernel_rfl
theorem c42_7 : P42 [1,0,0,0,1] = .cond (.tmp 10) (P42 [1,0,0,0,1,0]) (P42 [1,0,0,0,1,1]) := by kernel_rfl
theorem k42_8 : P42 [1,0,0,0,1,0] = .skip := by kernel_rfl
theorem k42_9 : P42 [1,0,0,1] = .seq (P42 [1,0,0,1,0]) (P42 [1,0,0,1,1]) := by kernel_rfl
theorem k42_10 : P42 [1,0,0,1,0] = .block 1 (P42 [1,0,0,1,0,0]) := by kernel_rfl
theorem k42_11 : P42 [1,0,0,1,0,0] = .region 3 (O42 [1,0,0,1,0,0]) true ∧ drawOk (O42 [1,0,0,1,0,0]) = true := ⟨by kernel_rfl, by kernel_rfl⟩
theorem r42_3 {x0 : Option Addr} {x1 x6 : Int} {M : Mem} {call : CallM} {K : Array Value → Mem → R} :
    opsI Try.prog (callAt call (O42 [1,0,0,1,0,0])) (O42 [1,0,0,1,0,0]) (ordOf (O42 [1,0,0,1,0,0])) [] #[.pointer x0,.int .u64 x1,g2,g3,g4,g5,.int .i64 x6,g7,g8,g9,g10,g11,g12,g13,g14,g15,g16,g17,g18,g19,g20,g21,g22,g23,g24,g25,g26] M K = (x0).bind fun a_1 => (M.slAt a_1.block a_1.off).bind fun s_2 => (binV Try.prog .shr 64 3 (.int .u64 x1) (.int .i64 x6)).bind fun v_3 => (asI .u64 v_3).bind fun x_4 => (appendP Try.prog #[61, 61] (.slice s_2.1 (s_2.2.1) (s_2.2.2)) (.slice (some ⟨2 * M.nb.size, 0, none⟩) 1 1) (M.new (.cells #[.int .i64 ((IntKind.i64.wrap (x_4)).tmod 2)] 3))).bind fun r_5 => (asS r_5.1).bind fun s_6 => (x0).bind fun a_7 => (r_5.2.put a_7.block a_7.off (.slice s_6.1 (s_6.2.1) (s_6.2.2))).bind fun M_8 => K #[.pointer x0,.int .u64 x1,g2,g3,g4,g5,.int .i64 x6,g7,g8,g9,g10,g11,g12,.pointer x0,.pointer x0,.pointer (some a_1),.pointer (some ⟨a_1.block, a_1.off, none⟩),.slice s_2.1 (s_2.2.1) (s_2.2.2),.int .u64 x1,.int .i64 x6,.int .u64 x_4,.int .i64 (IntKind.i64.wrap (x_4)),.int .i64 ((IntKind.i64.wrap (x_4)).tmod 2),.slice (some ⟨2 * M.nb.size, 0, none⟩) 1 1,.slice s_6.1 (s_6.2.1) (s_6.2.2),.pointer (some a_7),.pointer (some ⟨a_7.block, a_7.off, none⟩)] M_8 := by kernel_rfl
theorem k42_12 : P42 [1,0,0,1,1] = .region 2 (O42 [1,0,0,1,1]) false := by kernel_rfl
theorem r42_2 {x6 : Int} {M : Mem} {call : CallM} {K : Array Value → Mem → R} :
    opsK Try.prog (fun _ => call) (O42 [1,0,0,1,1]) (O42 [1,0,0,1,1]).toList 0 #[g0,g1,g2,g3,g4,g5,.int .i64 x6,g7,g8,g9,g10,g11,g12,g13,g14,g15,g16,g17,g18,g19,g20,g21,g22,g23,g24,g25,g26] M K = K #[g0,g1,g2,g3,g4,g5,.int .i64 (IntKind.i64.wrap (x6 - 1)),g7,g8,g9,g10,.int .i64 x6,.int .i64 (IntKind.i64.wrap (x6 - 1)),g13,g14,g15,g16,g17,g18,g19,g20,g21,g22,g23,g24,g25,g26] M := by kernel_rfl
theorem k42_13 : P42 [1,0,0,0,1,1] = .exit 0 := by kernel_rfl
theorem e42 {M : Mem} : finish Try.prog Try.f42 #[g0,g1,g2,g3,g4,g5,g6,g7,g8,g9,g10,g11,g12,g13,g14,g15,g16,g17,g18,g19,g20,g21,g22,g23,g24,g25,g26] M = some (.tuple #[], M) := by kernel_rfl
noncomputable def S42_1 : List Item := [.code (P42 [1,0,0]), .inLoop (P42 [1,0,0]), .inBlock 0]
def A42_1 (x0 : Option Addr) (x1 x6 : Int) (M : Mem) (Q : Value → Mem → Prop) : Prop := ∀ (g2 g3 g4 g5 g7 g8 g9 g10 g11 g12 g13 g14 g15 g16 g17 g18 g19 g20 g21 g22 g23 g24 g25 g26 : Value), Rn Try.prog Try.f42 S42_1 #[.pointer x0, .int .u64 x1, g2, g3, g4, g5, .int .i64 x6, g7, g8, g9, g10, g11, g12, g13, g14, g15, g16, g17, g18, g19, g20, g21, g22, g23, g24, g25, g26] M Q
theorem w42_0 {x0 : Option Addr} {x1 x2 : Int} {M : Mem} {Q : Value → Mem → Prop} (H :
    A42_1 x0 x1 (IntKind.i64.wrap (x2 - 1)) M Q) :
    Cn Try.prog 42 #[.pointer x0, .int .u64 x1, .int .i64 x2] M Q := by
  refine Cn.of b42 d42 t42 ?_
  refine Rn.seq k42_0 (Rn.region k42_1 (fun call K => r42_0) (Rch.leaf (Rn.block k42_2 (Rn.loop k42_3 ?_))))
  exact H _ _ _ _ _ _ _ _ _ _ _ _ _ _ _ _ _ _ _ _ _ _ _ _

theorem w42_1 {x0 : Option Addr} {x1 x6 : Int} {M : Mem} {Q : Value → Mem → Prop} (H :
    ((x6 ≥ 0 →
     ∃ a1', x0 = some a1' ∧
     ∃ s2', M.slAt a1'.block a1'.off = some s2' ∧
     ∃ v3', binV Try.prog .shr 64 3 (.int .u64 x1) (.int .i64 x6) = some v3' ∧
     ∃ x4', asI .u64 v3' = some x4' ∧
     ∃ r5', appendP Try.prog #[61, 61] (.slice s2'.1 (s2'.2.1) (s2'.2.2)) (.slice (some ⟨2 * M.nb.size, 0, none⟩) 1 1) (M.new (.cells #[.int .i64 ((IntKind.i64.wrap (x4')).tmod 2)] 3)) = some r5' ∧
     ∃ s6', asS r5'.1 = some s6' ∧
     ∃ a7', x0 = some a7' ∧
     ∃ M8', r5'.2.put a7'.block a7'.off (.slice s6'.1 (s6'.2.1) (s6'.2.2)) = some M8' ∧
     A42_1 x0 x1 (IntKind.i64.wrap (x6 - 1)) M8' Q) ∧
     (¬ (x6 ≥ 0) →
     Q (.tuple #[]) M))) :
    A42_1 x0 x1 x6 M Q := by
  intro g2 g3 g4 g5 g7 g8 g9 g10 g11 g12 g13 g14 g15 g16 g17 g18 g19 g20 g21 g22 g23 g24 g25 g26
  refine Rn.seq k42_4 (Rn.seq k42_5 (Rn.region k42_6 (fun call K => r42_1) (Rch.leaf ?_)))
  refine Rn.cnd (v := decide (x6 ≥ 0)) ⟨c42_7, rfl, by kernel_rfl⟩ (fun h => ?_) (fun h => ?_)
  · replace H := H.1 (of_decide_eq_true h)
    refine Rn.skip k42_8 (Rn.seq k42_9 (Rn.block k42_10 (Rn.regionD k42_11 (fun call K => r42_3) (Rch.ex H fun a1' H => Rch.ex H fun s2' H => Rch.ex H fun v3' H => Rch.ex H fun x4' H => Rch.ex H fun r5' H => Rch.ex H fun s6' H => Rch.ex H fun a7' H => Rch.ex H fun M8' H => ?_))))
    refine Rch.leaf (Rn.blk (Rn.region k42_12 (fun call K => r42_2) (Rch.leaf (Rn.lp ?_))))
    exact H _ _ _ _ _ _ _ _ _ _ _ _ _ _ _ _ _ _ _ _ _ _ _ _
  · replace H := H.2 (of_decide_eq_false h)
    refine Rn.exit k42_13 rfl ?_
    exact Rn.fin e42 H


/-! ### (*zoetrope/zoetroperef01.Writer).Fixed: function 13 -/
noncomputable abbrev P13 (p : List Nat) : Code := subC (codeOf Try.f13) p
noncomputable abbrev O13 (p : List Nat) : Array Oper := opsOf (subC (codeOf Try.f13) p)
theorem b13 : Try.prog.funcs[13]? = some Try.f13 ∧ (Orc.tab Try.prog).lookup 13 = none := ⟨by kernel_rfl, by kernel_rfl⟩
theorem d13 : Try.f13.body = some (P13 []) := by kernel_rfl
theorem t13 {x0 : Option Addr} {x1 x2 : Int} : #[.pointer x0,.int .u32 x1,.int .i64 x2] ++ Array.replicate (Try.f13.ntmps - (#[.pointer x0,.int .u32 x1,.int .i64 x2] : Array Value).size) undef = #[.pointer x0,.int .u32 x1,.int .i64 x2,undef,undef,undef,undef,undef,undef,undef,undef,undef,undef,undef,undef,undef,undef,undef,undef,undef,undef,undef,undef,undef,undef] := by kernel_rfl
theorem k13_0 : P13 [] = .seq (P13 [0]) (P13 [1]) := by kernel_rfl
theorem k13_1 : P13 [0] = .region 0 (O13 [0]) false := by kernel_rfl
theorem r13_0 {M : Mem} {call : CallM} {K : Array Value → Mem → R} :
    opsK Try.prog (fun _ => call) (O13 [0]) (O13 [0]).toList 0 #[g0,g1,g2,g3,g4,g5,g6,g7,g8,g9,g10,g11,g12,g13,g14,g15,g16,g17,g18,g19,g20,g21,g22,g23,g24] M K = K #[g0,g1,g2,g3,g4,g5,.int .i64 0,g7,g8,g9,g10,g11,g12,g13,g14,g15,g16,g17,g18,g19,g20,g21,g22,g23,g24] M := by kernel_rfl
theorem k13_2 : P13 [1] = .seq (P13 [1,0]) (P13 [1,1]) := by kernel_rfl
theorem k13_3 : P13 [1,0] = .seq (P13 [1,0,0]) (P13 [1,0,1]) := by kernel_rfl
theorem k13_4 : P13 [1,0,0] = .region 1 (O13 [1,0,0]) false := by kernel_rfl
theorem r13_1 {x1 x2 : Int} {M : Mem} {call : CallM} {K : Array Value → Mem → R} :
    opsK Try.prog (fun _ => call) (O13 [1,0,0]) (O13 [1,0,0]).toList 0 #[g0,.int .u32 x1,.int .i64 x2,g3,g4,g5,g6,g7,g8,g9,g10,g11,g12,g13,g14,g15,g16,g17,g18,g19,g20,g21,g22,g23,g24] M K = withK (fun w9 w10 w11 w12 w13 w14 w15 w16 w17 w18 w19 M => K #[g0,.int .u32 x1,.int .i64 x2,g3,g4,g5,g6,.int .i64 x2,.bool (decide (x2 < 0)),w9,w10,w11,w12,w13,w14,w15,w16,w17,w18,w19,g20,g21,g22,g23,g24] M) fun k => cond (decide (x2 < 0)) (k (.bool true) undef undef (.bool true) (.bool true) undef undef undef undef undef (.bool true) M) (cond (decide (x2 > 32)) (k (.bool false) (.int .i64 x2) (.bool (decide (x2 > 32))) (.bool (decide (x2 > 32))) (.bool true) undef undef undef undef undef (.bool true) M) ((binV Try.prog .shl 64 3 (.int .u64 1) (.int .i64 x2)).bind fun v_1 => (asI .u64 v_1).bind fun x_2 => k (.bool false) (.int .i64 x2) (.bool (decide (x2 > 32))) (.bool (decide (x2 > 32))) (.bool false) (.int .u32 x1) (.int .u64 (IntKind.u64.wrap (x1))) (.int .i64 x2) (.int .u64 x_2) (.bool (decide ((IntKind.u64.wrap (x1)) ≥ x_2))) (.bool (decide ((IntKind.u64.wrap (x1)) ≥ x_2))) M)) := by kernel_rfl
theorem c13_5 : P13 [1,0,1] = .cond (.tmp 19) (P13 [1,0,1,0]) (P13 [1,0,1,1]) := by kernel_rfl
theorem k13_6 : P13 [1,0,1,0] = .seq (P13 [1,0,1,0,0]) (P13 [1,0,1,0,1]) := by kernel_rfl
theorem k13_7 : P13 [1,0,1,0,0] = .region 2 (O13 [1,0,1,0,0]) false := by kernel_rfl
theorem r13_2 {M : Mem} {call : CallM} {K : Array Value → Mem → R} :
    opsK Try.prog (fun _ => call) (O13 [1,0,1,0,0]) (O13 [1,0,1,0,0]).toList 0 #[g0,g1,g2,g3,g4,g5,g6,g7,g8,g9,g10,g11,g12,g13,g14,g15,g16,g17,g18,g19,g20,g21,g22,g23,g24] M K = K #[g0,g1,g2,g3,g4,g5,.int .i64 2,g7,g8,g9,g10,g11,g12,g13,g14,g15,g16,g17,g18,g19,g20,g21,g22,g23,g24] M := by kernel_rfl
theorem k13_8 : P13 [1,0,1,0,1] = .ret := by kernel_rfl
theorem e13 {M : Mem} : finish Try.prog Try.f13 #[g0,g1,g2,g3,g4,g5,g6,g7,g8,g9,g10,g11,g12,g13,g14,g15,g16,g17,g18,g19,g20,g21,g22,g23,g24] M = some (g6, M) := by kernel_rfl
theorem k13_10 : P13 [1,0,1,1] = .skip := by kernel_rfl
theorem k13_11 : P13 [1,1] = .seq (P13 [1,1,0]) (P13 [1,1,1]) := by kernel_rfl
theorem k13_12 : P13 [1,1,0] = .region 3 (O13 [1,1,0]) false := by kernel_rfl
theorem r13_3 {x0 : Option Addr} {x1 x2 : Int} {M : Mem} {call : CallM} {K : Array Value → Mem → R} :
    opsK Try.prog (fun _ => call) (O13 [1,1,0]) (O13 [1,1,0]).toList 0 #[.pointer x0,.int .u32 x1,.int .i64 x2,g3,g4,g5,g6,g7,g8,g9,g10,g11,g12,g13,g14,g15,g16,g17,g18,g19,g20,g21,g22,g23,g24] M K = (call 42 #[.pointer x0, .int .u64 (IntKind.u64.wrap (x1)), .int .i64 x2] M).bind fun r_1 => K #[.pointer x0,.int .u32 x1,.int .i64 x2,g3,g4,g5,g6,g7,g8,g9,g10,g11,g12,g13,g14,g15,g16,g17,g18,g19,.pointer x0,.int .u32 x1,.int .u64 (IntKind.u64.wrap (x1)),.int .i64 x2,r_1.1] r_1.2 := by kernel_rfl
theorem k13_13 : P13 [1,1,1] = .seq (P13 [1,1,1,0]) (P13 [1,1,1,1]) := by kernel_rfl
theorem k13_14 : P13 [1,1,1,0] = .region 4 (O13 [1,1,1,0]) false := by kernel_rfl
theorem r13_4 {M : Mem} {call : CallM} {K : Array Value → Mem → R} :
    opsK Try.prog (fun _ => call) (O13 [1,1,1,0]) (O13 [1,1,1,0]).toList 0 #[g0,g1,g2,g3,g4,g5,g6,g7,g8,g9,g10,g11,g12,g13,g14,g15,g16,g17,g18,g19,g20,g21,g22,g23,g24] M K = K #[g0,g1,g2,g3,g4,g5,.int .i64 0,g7,g8,g9,g10,g11,g12,g13,g14,g15,g16,g17,g18,g19,g20,g21,g22,g23,g24] M := by kernel_rfl
theorem k13_15 : P13 [1,1,1,1] = .ret := by kernel_rfl
noncomputable def S13_1 : List Item := [.code (P13 [1,0,1]), .code (P13 [1,1])]
def A13_1 (x0 : Option Addr) (x1 x2 : Int) (x19 : Bool) (M : Mem) (Q : Value → Mem → Prop) : Prop := ∀ (g3 g4 g5 g6 g7 g8 g9 g10 g11 g12 g13 g14 g15 g16 g17 g18 g20 g21 g22 g23 g24 : Value), Rn Try.prog Try.f13 S13_1 #[.pointer x0, .int .u32 x1, .int .i64 x2, g3, g4, g5, g6, g7, g8, g9, g10, g11, g12, g13, g14, g15, g16, g17, g18, .bool x19, g20, g21, g22, g23, g24] M Q
theorem w13_0 {x0 : Option Addr} {x1 x2 : Int} {M : Mem} {Q : Value → Mem → Prop} (H :
    ((x2 < 0 →
     A13_1 x0 x1 x2 true M Q) ∧
     (¬ (x2 < 0) →
     ((x2 > 32 →
      A13_1 x0 x1 x2 true M Q) ∧
      (¬ (x2 > 32) →
      ∃ v1', binV Try.prog .shl 64 3 (.int .u64 1) (.int .i64 x2) = some v1' ∧
      ∃ x2', asI .u64 v1' = some x2' ∧
      A13_1 x0 x1 x2 (decide ((IntKind.u64.wrap (x1)) ≥ x2')) M Q))))) :
    Cn Try.prog 13 #[.pointer x0, .int .u32 x1, .int .i64 x2] M Q := by
  refine Cn.of b13 d13 t13 ?_
  refine Rn.seq k13_0 (Rn.region k13_1 (fun call K => r13_0) (Rch.leaf (Rn.seq k13_2 (Rn.seq k13_3 (Rn.region k13_4 (fun call K => r13_1) ?_)))))
  refine Rch.cB (fun h => ?_) (fun h => ?_)
  · replace H := H.1 (of_decide_eq_true h)
    refine Rch.leaf ?_
    exact H _ _ _ _ _ _ _ _ _ _ _ _ _ _ _ _ _ _ _ _ _
  · replace H := H.2 (of_decide_eq_false h)
    refine Rch.cB (fun h => ?_) (fun h => ?_)
    · replace H := H.1 (of_decide_eq_true h)
      refine Rch.leaf ?_
      exact H _ _ _ _ _ _ _ _ _ _ _ _ _ _ _ _ _ _ _ _ _
    · replace H := H.2 (of_decide_eq_false h)
      refine Rch.ex H fun v1' H => Rch.ex H fun x2' H => Rch.leaf ?_
      exact H _ _ _ _ _ _ _ _ _ _ _ _ _ _ _ _ _ _ _ _ _

theorem w13_1 {x0 : Option Addr} {x1 x2 : Int} {x19 : Bool} {M : Mem} {Q : Value → Mem → Prop} (H :
    ((x19 = true →
     Q (.int .i64 2) M) ∧
     (x19 = false →
     Cn Try.prog 42 #[.pointer x0, .int .u64 (IntKind.u64.wrap (x1)), .int .i64 x2] M fun v3' N3' =>
      Q (.int .i64 0) N3'))) :
    A13_1 x0 x1 x2 x19 M Q := by
  intro g3 g4 g5 g6 g7 g8 g9 g10 g11 g12 g13 g14 g15 g16 g17 g18 g20 g21 g22 g23 g24
  refine Rn.cnd (v := x19) ⟨c13_5, rfl, by kernel_rfl⟩ (fun h => ?_) (fun h => ?_)
  · replace H := H.1 (h)
    refine Rn.seq k13_6 (Rn.region k13_7 (fun call K => r13_2) (Rch.leaf ?_))
    exact Rn.ret k13_8 e13 H
  · replace H := H.2 (h)
    refine Rn.skip k13_10 (Rn.seq k13_11 (Rn.region k13_12 (fun call K => r13_3) (Rch.call H fun v3' N3' H => Rch.leaf (Rn.seq k13_13 (Rn.region k13_14 (fun call K => r13_4) (Rch.leaf ?_))))))
    exact Rn.ret k13_15 e13 H


/-! ### (*zoetrope/zoetroperef01.Writer).Signed: function 14 -/
noncomputable abbrev P14 (p : List Nat) : Code := subC (codeOf Try.f14) p
noncomputable abbrev O14 (p : List Nat) : Array Oper := opsOf (subC (codeOf Try.f14) p)
theorem b14 : Try.prog.funcs[14]? = some Try.f14 ∧ (Orc.tab Try.prog).lookup 14 = none := ⟨by kernel_rfl, by kernel_rfl⟩
theorem d14 : Try.f14.body = some (P14 []) := by kernel_rfl
theorem t14 {x0 : Option Addr} {x1 x2 : Int} : #[.pointer x0,.int .i32 x1,.int .i64 x2] ++ Array.replicate (Try.f14.ntmps - (#[.pointer x0,.int .i32 x1,.int .i64 x2] : Array Value).size) undef = #[.pointer x0,.int .i32 x1,.int .i64 x2,undef,undef,undef,undef,undef,undef,undef,undef,undef,undef,undef,undef,undef,undef,undef,undef,undef,undef,undef,undef,undef,undef,undef,undef,undef,undef,undef,undef,undef,undef,undef,undef,undef,undef] := by kernel_rfl
theorem k14_0 : P14 [] = .seq (P14 [0]) (P14 [1]) := by kernel_rfl
theorem k14_1 : P14 [0] = .region 0 (O14 [0]) false := by kernel_rfl
theorem r14_0 {M : Mem} {call : CallM} {K : Array Value → Mem → R} :
    opsK Try.prog (fun _ => call) (O14 [0]) (O14 [0]).toList 0 #[g0,g1,g2,g3,g4,g5,g6,g7,g8,g9,g10,g11,g12,g13,g14,g15,g16,g17,g18,g19,g20,g21,g22,g23,g24,g25,g26,g27,g28,g29,g30,g31,g32,g33,g34,g35,g36] M K = K #[g0,g1,g2,g3,g4,g5,.int .i64 0,g7,g8,g9,g10,g11,g12,g13,g14,g15,g16,g17,g18,g19,g20,g21,g22,g23,g24,g25,g26,g27,g28,g29,g30,g31,g32,g33,g34,g35,g36] M := by kernel_rfl
theorem k14_2 : P14 [1] = .seq (P14 [1,0]) (P14 [1,1]) := by kernel_rfl
theorem k14_3 : P14 [1,0] = .region 1 (O14 [1,0]) false := by kernel_rfl
theorem r14_1 {x1 : Int} {M : Mem} {call : CallM} {K : Array Value → Mem → R} :
    opsK Try.prog (fun _ => call) (O14 [1,0]) (O14 [1,0]).toList 0 #[g0,.int .i32 x1,g2,g3,g4,g5,g6,g7,g8,g9,g10,g11,g12,g13,g14,g15,g16,g17,g18,g19,g20,g21,g22,g23,g24,g25,g26,g27,g28,g29,g30,g31,g32,g33,g34,g35,g36] M K = K #[g0,.int .i32 x1,g2,g3,g4,g5,g6,.int .i64 (IntKind.i64.wrap (x1)),.int .i32 x1,.int .i64 (IntKind.i64.wrap (x1)),g10,g11,g12,g13,g14,g15,g16,g17,g18,g19,g20,g21,g22,g23,g24,g25,g26,g27,g28,g29,g30,g31,g32,g33,g34,g35,g36] M := by kernel_rfl
theorem k14_4 : P14 [1,1] = .seq (P14 [1,1,0]) (P14 [1,1,1]) := by kernel_rfl
theorem k14_5 : P14 [1,1,0] = .seq (P14 [1,1,0,0]) (P14 [1,1,0,1]) := by kernel_rfl
theorem k14_6 : P14 [1,1,0,0] = .region 2 (O14 [1,1,0,0]) false := by kernel_rfl
theorem r14_2 {x7 : Int} {M : Mem} {call : CallM} {K : Array Value → Mem → R} :
    opsK Try.prog (fun _ => call) (O14 [1,1,0,0]) (O14 [1,1,0,0]).toList 0 #[g0,g1,g2,g3,g4,g5,g6,.int .i64 x7,g8,g9,g10,g11,g12,g13,g14,g15,g16,g17,g18,g19,g20,g21,g22,g23,g24,g25,g26,g27,g28,g29,g30,g31,g32,g33,g34,g35,g36] M K = K #[g0,g1,g2,g3,g4,g5,g6,.int .i64 x7,g8,g9,.int .i64 x7,.bool (decide (x7 < 0)),g12,g13,g14,g15,g16,g17,g18,g19,g20,g21,g22,g23,g24,g25,g26,g27,g28,g29,g30,g31,g32,g33,g34,g35,g36] M := by kernel_rfl
theorem c14_7 : P14 [1,1,0,1] = .cond (.tmp 11) (P14 [1,1,0,1,0]) (P14 [1,1,0,1,1]) := by kernel_rfl
theorem k14_8 : P14 [1,1,0,1,0] = .region 3 (O14 [1,1,0,1,0]) false := by kernel_rfl
theorem r14_3 {x7 : Int} {M : Mem} {call : CallM} {K : Array Value → Mem → R} :
    opsK Try.prog (fun _ => call) (O14 [1,1,0,1,0]) (O14 [1,1,0,1,0]).toList 0 #[g0,g1,g2,g3,g4,g5,g6,.int .i64 x7,g8,g9,g10,g11,g12,g13,g14,g15,g16,g17,g18,g19,g20,g21,g22,g23,g24,g25,g26,g27,g28,g29,g30,g31,g32,g33,g34,g35,g36] M K = K #[g0,g1,g2,g3,g4,g5,g6,.int .i64 (IntKind.i64.wrap (0 - x7)),g8,g9,g10,g11,.int .i64 x7,.int .i64 (IntKind.i64.wrap (0 - x7)),g14,g15,g16,g17,g18,g19,g20,g21,g22,g23,g24,g25,g26,g27,g28,g29,g30,g31,g32,g33,g34,g35,g36] M := by kernel_rfl
theorem k14_9 : P14 [1,1,1] = .seq (P14 [1,1,1,0]) (P14 [1,1,1,1]) := by kernel_rfl
theorem k14_10 : P14 [1,1,1,0] = .seq (P14 [1,1,1,0,0]) (P14 [1,1,1,0,1]) := by kernel_rfl
theorem k14_11 : P14 [1,1,1,0,0] = .region 4 (O14 [1,1,1,0,0]) false := by kernel_rfl
theorem r14_4 {x2 x7 : Int} {M : Mem} {call : CallM} {K : Array Value → Mem → R} :
    opsK Try.prog (fun _ => call) (O14 [1,1,1,0,0]) (O14 [1,1,1,0,0]).toList 0 #[g0,g1,.int .i64 x2,g3,g4,g5,g6,.int .i64 x7,g8,g9,g10,g11,g12,g13,g14,g15,g16,g17,g18,g19,g20,g21,g22,g23,g24,g25,g26,g27,g28,g29,g30,g31,g32,g33,g34,g35,g36] M K = withK (fun w16 w17 w18 w19 w20 w21 w22 w23 w24 w25 M => K #[g0,g1,.int .i64 x2,g3,g4,g5,g6,.int .i64 x7,g8,g9,g10,g11,g12,g13,.int .i64 x2,.bool (decide (x2 < 1)),w16,w17,w18,w19,w20,w21,w22,w23,w24,w25,g26,g27,g28,g29,g30,g31,g32,g33,g34,g35,g36] M) fun k => cond (decide (x2 < 1)) (k (.bool true) undef undef (.bool true) (.bool true) undef undef undef undef (.bool true) M) (cond (decide (x2 > 31)) (k (.bool false) (.int .i64 x2) (.bool (decide (x2 > 31))) (.bool (decide (x2 > 31))) (.bool true) undef undef undef undef (.bool true) M) ((binV Try.prog .shl 2 3 (.int .i64 1) (.int .i64 x2)).bind fun v_1 => (asI .i64 v_1).bind fun x_2 => k (.bool false) (.int .i64 x2) (.bool (decide (x2 > 31))) (.bool (decide (x2 > 31))) (.bool false) (.int .i64 x7) (.int .i64 x2) (.int .i64 x_2) (.bool (decide (x7 ≥ x_2))) (.bool (decide (x7 ≥ x_2))) M)) := by kernel_rfl
theorem k14_12 : P14 [1,1,0,1,1] = .skip := by kernel_rfl
theorem c14_13 : P14 [1,1,1,0,1] = .cond (.tmp 25) (P14 [1,1,1,0,1,0]) (P14 [1,1,1,0,1,1]) := by kernel_rfl
theorem k14_14 : P14 [1,1,1,0,1,0] = .seq (P14 [1,1,1,0,1,0,0]) (P14 [1,1,1,0,1,0,1]) := by kernel_rfl
theorem k14_15 : P14 [1,1,1,0,1,0,0] = .region 5 (O14 [1,1,1,0,1,0,0]) false := by kernel_rfl
theorem r14_5 {M : Mem} {call : CallM} {K : Array Value → Mem → R} :
    opsK Try.prog (fun _ => call) (O14 [1,1,1,0,1,0,0]) (O14 [1,1,1,0,1,0,0]).toList 0 #[g0,g1,g2,g3,g4,g5,g6,g7,g8,g9,g10,g11,g12,g13,g14,g15,g16,g17,g18,g19,g20,g21,g22,g23,g24,g25,g26,g27,g28,g29,g30,g31,g32,g33,g34,g35,g36] M K = K #[g0,g1,g2,g3,g4,g5,.int .i64 2,g7,g8,g9,g10,g11,g12,g13,g14,g15,g16,g17,g18,g19,g20,g21,g22,g23,g24,g25,g26,g27,g28,g29,g30,g31,g32,g33,g34,g35,g36] M := by kernel_rfl
theorem k14_16 : P14 [1,1,1,0,1,0,1] = .ret := by kernel_rfl
theorem e14 {M : Mem} : finish Try.prog Try.f14 #[g0,g1,g2,g3,g4,g5,g6,g7,g8,g9,g10,g11,g12,g13,g14,g15,g16,g17,g18,g19,g20,g21,g22,g23,g24,g25,g26,g27,g28,g29,g30,g31,g32,g33,g34,g35,g36] M = some (g6, M) := by kernel_rfl
theorem k14_18 : P14 [1,1,1,0,1,1] = .skip := by kernel_rfl
theorem k14_19 : P14 [1,1,1,1] = .seq (P14 [1,1,1,1,0]) (P14 [1,1,1,1,1]) := by kernel_rfl
theorem k14_20 : P14 [1,1,1,1,0] = .seq (P14 [1,1,1,1,0,0]) (P14 [1,1,1,1,0,1]) := by kernel_rfl
theorem k14_21 : P14 [1,1,1,1,0,0] = .region 6 (O14 [1,1,1,1,0,0]) false := by kernel_rfl
theorem r14_6 {x1 : Int} {M : Mem} {call : CallM} {K : Array Value → Mem → R} :
    opsK Try.prog (fun _ => call) (O14 [1,1,1,1,0,0]) (O14 [1,1,1,1,0,0]).toList 0 #[g0,.int .i32 x1,g2,g3,g4,g5,g6,g7,g8,g9,g10,g11,g12,g13,g14,g15,g16,g17,g18,g19,g20,g21,g22,g23,g24,g25,g26,g27,g28,g29,g30,g31,g32,g33,g34,g35,g36] M K = K #[g0,.int .i32 x1,g2,g3,g4,g5,g6,g7,g8,g9,g10,g11,g12,g13,g14,g15,g16,g17,g18,g19,g20,g21,g22,g23,g24,g25,.int .i32 x1,.bool (decide (x1 < 0)),g28,g29,g30,g31,g32,g33,g34,g35,g36] M := by kernel_rfl
theorem c14_22 : P14 [1,1,1,1,0,1] = .cond (.tmp 27) (P14 [1,1,1,1,0,1,0]) (P14 [1,1,1,1,0,1,1]) := by kernel_rfl
theorem k14_23 : P14 [1,1,1,1,0,1,0] = .region 7 (O14 [1,1,1,1,0,1,0]) false := by kernel_rfl
theorem r14_7 {x0 : Option Addr} {M : Mem} {call : CallM} {K : Array Value → Mem → R} :
    opsK Try.prog (fun _ => call) (O14 [1,1,1,1,0,1,0]) (O14 [1,1,1,1,0,1,0]).toList 0 #[.pointer x0,g1,g2,g3,g4,g5,g6,g7,g8,g9,g10,g11,g12,g13,g14,g15,g16,g17,g18,g19,g20,g21,g22,g23,g24,g25,g26,g27,g28,g29,g30,g31,g32,g33,g34,g35,g36] M K = (call 42 #[.pointer x0, .int .u64 1, .int .i64 1] M).bind fun r_1 => K #[.pointer x0,g1,g2,g3,g4,g5,g6,g7,g8,g9,g10,g11,g12,g13,g14,g15,g16,g17,g18,g19,g20,g21,g22,g23,g24,g25,g26,g27,.pointer x0,r_1.1,g30,g31,g32,g33,g34,g35,g36] r_1.2 := by kernel_rfl
theorem k14_24 : P14 [1,1,1,1,1] = .seq (P14 [1,1,1,1,1,0]) (P14 [1,1,1,1,1,1]) := by kernel_rfl
theorem k14_25 : P14 [1,1,1,1,1,0] = .region 9 (O14 [1,1,1,1,1,0]) false := by kernel_rfl
theorem r14_9 {x0 : Option Addr} {x2 x7 : Int} {M : Mem} {call : CallM} {K : Array Value → Mem → R} :
    opsK Try.prog (fun _ => call) (O14 [1,1,1,1,1,0]) (O14 [1,1,1,1,1,0]).toList 0 #[.pointer x0,g1,.int .i64 x2,g3,g4,g5,g6,.int .i64 x7,g8,g9,g10,g11,g12,g13,g14,g15,g16,g17,g18,g19,g20,g21,g22,g23,g24,g25,g26,g27,g28,g29,g30,g31,g32,g33,g34,g35,g36] M K = (call 42 #[.pointer x0, .int .u64 (IntKind.u64.wrap (x7)), .int .i64 x2] M).bind fun r_1 => K #[.pointer x0,g1,.int .i64 x2,g3,g4,g5,g6,.int .i64 x7,g8,g9,g10,g11,g12,g13,g14,g15,g16,g17,g18,g19,g20,g21,g22,g23,g24,g25,g26,g27,g28,g29,g30,g31,.pointer x0,.int .i64 x7,.int .u64 (IntKind.u64.wrap (x7)),.int .i64 x2,r_1.1] r_1.2 := by kernel_rfl
theorem k14_26 : P14 [1,1,1,1,1,1] = .seq (P14 [1,1,1,1,1,1,0]) (P14 [1,1,1,1,1,1,1]) := by kernel_rfl
theorem k14_27 : P14 [1,1,1,1,1,1,0] = .region 10 (O14 [1,1,1,1,1,1,0]) false := by kernel_rfl
theorem r14_10 {M : Mem} {call : CallM} {K : Array Value → Mem → R} :
    opsK Try.prog (fun _ => call) (O14 [1,1,1,1,1,1,0]) (O14 [1,1,1,1,1,1,0]).toList 0 #[g0,g1,g2,g3,g4,g5,g6,g7,g8,g9,g10,g11,g12,g13,g14,g15,g16,g17,g18,g19,g20,g21,g22,g23,g24,g25,g26,g27,g28,g29,g30,g31,g32,g33,g34,g35,g36] M K = K #[g0,g1,g2,g3,g4,g5,.int .i64 0,g7,g8,g9,g10,g11,g12,g13,g14,g15,g16,g17,g18,g19,g20,g21,g22,g23,g24,g25,g26,g27,g28,g29,g30,g31,g32,g33,g34,g35,g36] M := by kernel_rfl
theorem k14_28 : P14 [1,1,1,1,1,1,1] = .ret := by kernel_rfl
theorem k14_29 : P14 [1,1,1,1,0,1,1] = .region 8 (O14 [1,1,1,1,0,1,1]) false := by kernel_rfl
theorem r14_8 {x0 : Option Addr} {M : Mem} {call : CallM} {K : Array Value → Mem → R} :
    opsK Try.prog (fun _ => call) (O14 [1,1,1,1,0,1,1]) (O14 [1,1,1,1,0,1,1]).toList 0 #[.pointer x0,g1,g2,g3,g4,g5,g6,g7,g8,g9,g10,g11,g12,g13,g14,g15,g16,g17,g18,g19,g20,g21,g22,g23,g24,g25,g26,g27,g28,g29,g30,g31,g32,g33,g34,g35,g36] M K = (call 42 #[.pointer x0, .int .u64 0, .int .i64 1] M).bind fun r_1 => K #[.pointer x0,g1,g2,g3,g4,g5,g6,g7,g8,g9,g10,g11,g12,g13,g14,g15,g16,g17,g18,g19,g20,g21,g22,g23,g24,g25,g26,g27,g28,g29,.pointer x0,r_1.1,g32,g33,g34,g35,g36] r_1.2 := by kernel_rfl
noncomputable def S14_1 : List Item := [.code (P14 [1,1,1,0,1]), .code (P14 [1,1,1,1])]
def A14_1 (x0 : Option Addr) (x1 x2 x7 : Int) (x25 : Bool) (M : Mem) (Q : Value → Mem → Prop) : Prop := ∀ (g3 g4 g5 g6 g8 g9 g10 g11 g12 g13 g14 g15 g16 g17 g18 g19 g20 g21 g22 g23 g24 g26 g27 g28 g29 g30 g31 g32 g33 g34 g35 g36 : Value), Rn Try.prog Try.f14 S14_1 #[.pointer x0, .int .i32 x1, .int .i64 x2, g3, g4, g5, g6, .int .i64 x7, g8, g9, g10, g11, g12, g13, g14, g15, g16, g17, g18, g19, g20, g21, g22, g23, g24, .bool x25, g26, g27, g28, g29, g30, g31, g32, g33, g34, g35, g36] M Q
theorem w14_0 {x0 : Option Addr} {x1 x2 : Int} {M : Mem} {Q : Value → Mem → Prop} (H :
    (((IntKind.i64.wrap (x1)) < 0 →
     ((x2 < 1 →
      A14_1 x0 x1 x2 (IntKind.i64.wrap (0 - (IntKind.i64.wrap (x1)))) true M Q) ∧
      (¬ (x2 < 1) →
      ((x2 > 31 →
       A14_1 x0 x1 x2 (IntKind.i64.wrap (0 - (IntKind.i64.wrap (x1)))) true M Q) ∧
       (¬ (x2 > 31) →
       ∃ v1', binV Try.prog .shl 2 3 (.int .i64 1) (.int .i64 x2) = some v1' ∧
       ∃ x2', asI .i64 v1' = some x2' ∧
       A14_1 x0 x1 x2 (IntKind.i64.wrap (0 - (IntKind.i64.wrap (x1)))) (decide ((IntKind.i64.wrap (0 - (IntKind.i64.wrap (x1)))) ≥ x2')) M Q))))) ∧
     (¬ ((IntKind.i64.wrap (x1)) < 0) →
     ((x2 < 1 →
      A14_1 x0 x1 x2 (IntKind.i64.wrap (x1)) true M Q) ∧
      (¬ (x2 < 1) →
      ((x2 > 31 →
       A14_1 x0 x1 x2 (IntKind.i64.wrap (x1)) true M Q) ∧
       (¬ (x2 > 31) →
       ∃ v3', binV Try.prog .shl 2 3 (.int .i64 1) (.int .i64 x2) = some v3' ∧
       ∃ x4', asI .i64 v3' = some x4' ∧
       A14_1 x0 x1 x2 (IntKind.i64.wrap (x1)) (decide ((IntKind.i64.wrap (x1)) ≥ x4')) M Q))))))) :
    Cn Try.prog 14 #[.pointer x0, .int .i32 x1, .int .i64 x2] M Q := by
  refine Cn.of b14 d14 t14 ?_
  refine Rn.seq k14_0 (Rn.region k14_1 (fun call K => r14_0) (Rch.leaf (Rn.seq k14_2 (Rn.region k14_3 (fun call K => r14_1) (Rch.leaf (Rn.seq k14_4 (Rn.seq k14_5 (Rn.region k14_6 (fun call K => r14_2) (Rch.leaf ?_)))))))))
  refine Rn.cnd (v := decide ((IntKind.i64.wrap (x1)) < 0)) ⟨c14_7, rfl, by kernel_rfl⟩ (fun h => ?_) (fun h => ?_)
  · replace H := H.1 (of_decide_eq_true h)
    refine Rn.region k14_8 (fun call K => r14_3) (Rch.leaf (Rn.seq k14_9 (Rn.seq k14_10 (Rn.region k14_11 (fun call K => r14_4) ?_))))
    refine Rch.cB (fun h => ?_) (fun h => ?_)
    · replace H := H.1 (of_decide_eq_true h)
      refine Rch.leaf ?_
      exact H _ _ _ _ _ _ _ _ _ _ _ _ _ _ _ _ _ _ _ _ _ _ _ _ _ _ _ _ _ _ _ _
    · replace H := H.2 (of_decide_eq_false h)
      refine Rch.cB (fun h => ?_) (fun h => ?_)
      · replace H := H.1 (of_decide_eq_true h)
        refine Rch.leaf ?_
        exact H _ _ _ _ _ _ _ _ _ _ _ _ _ _ _ _ _ _ _ _ _ _ _ _ _ _ _ _ _ _ _ _
      · replace H := H.2 (of_decide_eq_false h)
        refine Rch.ex H fun v1' H => Rch.ex H fun x2' H => Rch.leaf ?_
        exact H _ _ _ _ _ _ _ _ _ _ _ _ _ _ _ _ _ _ _ _ _ _ _ _ _ _ _ _ _ _ _ _
  · replace H := H.2 (of_decide_eq_false h)
    refine Rn.skip k14_12 (Rn.seq k14_9 (Rn.seq k14_10 (Rn.region k14_11 (fun call K => r14_4) ?_)))
    refine Rch.cB (fun h => ?_) (fun h => ?_)
    · replace H := H.1 (of_decide_eq_true h)
      refine Rch.leaf ?_
      exact H _ _ _ _ _ _ _ _ _ _ _ _ _ _ _ _ _ _ _ _ _ _ _ _ _ _ _ _ _ _ _ _
    · replace H := H.2 (of_decide_eq_false h)
      refine Rch.cB (fun h => ?_) (fun h => ?_)
      · replace H := H.1 (of_decide_eq_true h)
        refine Rch.leaf ?_
        exact H _ _ _ _ _ _ _ _ _ _ _ _ _ _ _ _ _ _ _ _ _ _ _ _ _ _ _ _ _ _ _ _
      · replace H := H.2 (of_decide_eq_false h)
        refine Rch.ex H fun v3' H => Rch.ex H fun x4' H => Rch.leaf ?_
        exact H _ _ _ _ _ _ _ _ _ _ _ _ _ _ _ _ _ _ _ _ _ _ _ _ _ _ _ _ _ _ _ _

theorem w14_1 {x0 : Option Addr} {x1 x2 x7 : Int} {x25 : Bool} {M : Mem} {Q : Value → Mem → Prop} (H :
    ((x25 = true →
     Q (.int .i64 2) M) ∧
     (x25 = false →
     ((x1 < 0 →
      Cn Try.prog 42 #[.pointer x0, .int .u64 1, .int .i64 1] M fun v5' N5' =>
       Cn Try.prog 42 #[.pointer x0, .int .u64 (IntKind.u64.wrap (x7)), .int .i64 x2] N5' fun v6' N6' =>
        Q (.int .i64 0) N6') ∧
      (¬ (x1 < 0) →
      Cn Try.prog 42 #[.pointer x0, .int .u64 0, .int .i64 1] M fun v7' N7' =>
       Cn Try.prog 42 #[.pointer x0, .int .u64 (IntKind.u64.wrap (x7)), .int .i64 x2] N7' fun v8' N8' =>
        Q (.int .i64 0) N8'))))) :
    A14_1 x0 x1 x2 x7 x25 M Q := by
  intro g3 g4 g5 g6 g8 g9 g10 g11 g12 g13 g14 g15 g16 g17 g18 g19 g20 g21 g22 g23 g24 g26 g27 g28 g29 g30 g31 g32 g33 g34 g35 g36
  refine Rn.cnd (v := x25) ⟨c14_13, rfl, by kernel_rfl⟩ (fun h => ?_) (fun h => ?_)
  · replace H := H.1 (h)
    refine Rn.seq k14_14 (Rn.region k14_15 (fun call K => r14_5) (Rch.leaf ?_))
    exact Rn.ret k14_16 e14 H
  · replace H := H.2 (h)
    refine Rn.skip k14_18 (Rn.seq k14_19 (Rn.seq k14_20 (Rn.region k14_21 (fun call K => r14_6) (Rch.leaf ?_))))
    refine Rn.cnd (v := decide (x1 < 0)) ⟨c14_22, rfl, by kernel_rfl⟩ (fun h => ?_) (fun h => ?_)
    · replace H := H.1 (of_decide_eq_true h)
      refine Rn.region k14_23 (fun call K => r14_7) (Rch.call H fun v5' N5' H => Rch.leaf (Rn.seq k14_24 (Rn.region k14_25 (fun call K => r14_9) (Rch.call H fun v6' N6' H => Rch.leaf (Rn.seq k14_26 (Rn.region k14_27 (fun call K => r14_10) (Rch.leaf ?_)))))))
      exact Rn.ret k14_28 e14 H
    · replace H := H.2 (of_decide_eq_false h)
      refine Rn.region k14_29 (fun call K => r14_8) (Rch.call H fun v7' N7' H => Rch.leaf (Rn.seq k14_24 (Rn.region k14_25 (fun call K => r14_9) (Rch.call H fun v8' N8' H => Rch.leaf (Rn.seq k14_26 (Rn.region k14_27 (fun call K => r14_10) (Rch.leaf ?_)))))))
      exact Rn.ret k14_28 e14 H


/-! ### (*zoetrope/zoetroperef01.Writer).Uvlc: function 15 -/
noncomputable abbrev P15 (p : List Nat) : Code := subC (codeOf Try.f15) p
noncomputable abbrev O15 (p : List Nat) : Array Oper := opsOf (subC (codeOf Try.f15) p)
theorem b15 : Try.prog.funcs[15]? = some Try.f15 ∧ (Orc.tab Try.prog).lookup 15 = none := ⟨by kernel_rfl, by kernel_rfl⟩
theorem d15 : Try.f15.body = some (P15 []) := by kernel_rfl
theorem t15 {x0 : Option Addr} {x1 : Int} : #[.pointer x0,.int .u32 x1] ++ Array.replicate (Try.f15.ntmps - (#[.pointer x0,.int .u32 x1] : Array Value).size) undef = #[.pointer x0,.int .u32 x1,undef,undef,undef,undef,undef,undef,undef,undef,undef,undef,undef,undef,undef,undef,undef,undef,undef,undef,undef,undef,undef,undef,undef,undef] := by kernel_rfl
theorem k15_0 : P15 [] = .seq (P15 [0]) (P15 [1]) := by kernel_rfl
theorem k15_1 : P15 [0] = .region 0 (O15 [0]) false := by kernel_rfl
theorem r15_0 {M : Mem} {call : CallM} {K : Array Value → Mem → R} :
    opsK Try.prog (fun _ => call) (O15 [0]) (O15 [0]).toList 0 #[g0,g1,g2,g3,g4,g5,g6,g7,g8,g9,g10,g11,g12,g13,g14,g15,g16,g17,g18,g19,g20,g21,g22,g23,g24,g25] M K = K #[g0,g1,g2,g3,.int .i64 0,g5,g6,g7,g8,g9,g10,g11,g12,g13,g14,g15,g16,g17,g18,g19,g20,g21,g22,g23,g24,g25] M := by kernel_rfl
theorem k15_2 : P15 [1] = .seq (P15 [1,0]) (P15 [1,1]) := by kernel_rfl
theorem k15_3 : P15 [1,0] = .seq (P15 [1,0,0]) (P15 [1,0,1]) := by kernel_rfl
theorem k15_4 : P15 [1,0,0] = .region 1 (O15 [1,0,0]) false := by kernel_rfl
theorem r15_1 {x1 : Int} {M : Mem} {call : CallM} {K : Array Value → Mem → R} :
    opsK Try.prog (fun _ => call) (O15 [1,0,0]) (O15 [1,0,0]).toList 0 #[g0,.int .u32 x1,g2,g3,g4,g5,g6,g7,g8,g9,g10,g11,g12,g13,g14,g15,g16,g17,g18,g19,g20,g21,g22,g23,g24,g25] M K = K #[g0,.int .u32 x1,g2,g3,g4,g5,.int .u32 x1,.bool (x1 == 4294967295),g8,g9,g10,g11,g12,g13,g14,g15,g16,g17,g18,g19,g20,g21,g22,g23,g24,g25] M := by kernel_rfl
theorem c15_5 : P15 [1,0,1] = .cond (.tmp 7) (P15 [1,0,1,0]) (P15 [1,0,1,1]) := by kernel_rfl
theorem k15_6 : P15 [1,0,1,0] = .seq (P15 [1,0,1,0,0]) (P15 [1,0,1,0,1]) := by kernel_rfl
theorem k15_7 : P15 [1,0,1,0,0] = .region 2 (O15 [1,0,1,0,0]) false := by kernel_rfl
theorem r15_2 {M : Mem} {call : CallM} {K : Array Value → Mem → R} :
    opsK Try.prog (fun _ => call) (O15 [1,0,1,0,0]) (O15 [1,0,1,0,0]).toList 0 #[g0,g1,g2,g3,g4,g5,g6,g7,g8,g9,g10,g11,g12,g13,g14,g15,g16,g17,g18,g19,g20,g21,g22,g23,g24,g25] M K = K #[g0,g1,g2,g3,.int .i64 2,g5,g6,g7,g8,g9,g10,g11,g12,g13,g14,g15,g16,g17,g18,g19,g20,g21,g22,g23,g24,g25] M := by kernel_rfl
theorem k15_8 : P15 [1,0,1,0,1] = .ret := by kernel_rfl
theorem e15 {M : Mem} : finish Try.prog Try.f15 #[g0,g1,g2,g3,g4,g5,g6,g7,g8,g9,g10,g11,g12,g13,g14,g15,g16,g17,g18,g19,g20,g21,g22,g23,g24,g25] M = some (g4, M) := by kernel_rfl
theorem k15_10 : P15 [1,0,1,1] = .skip := by kernel_rfl
theorem k15_11 : P15 [1,1] = .seq (P15 [1,1,0]) (P15 [1,1,1]) := by kernel_rfl
theorem k15_12 : P15 [1,1,0] = .region 3 (O15 [1,1,0]) false := by kernel_rfl
theorem r15_3 {M : Mem} {call : CallM} {K : Array Value → Mem → R} :
    opsK Try.prog (fun _ => call) (O15 [1,1,0]) (O15 [1,1,0]).toList 0 #[g0,g1,g2,g3,g4,g5,g6,g7,g8,g9,g10,g11,g12,g13,g14,g15,g16,g17,g18,g19,g20,g21,g22,g23,g24,g25] M K = K #[g0,g1,g2,g3,g4,.int .i64 0,g6,g7,g8,g9,g10,g11,g12,g13,g14,g15,g16,g17,g18,g19,g20,g21,g22,g23,g24,g25] M := by kernel_rfl
theorem k15_13 : P15 [1,1,1] = .seq (P15 [1,1,1,0]) (P15 [1,1,1,1]) := by kernel_rfl
theorem k15_14 : P15 [1,1,1,0] = .block 0 (P15 [1,1,1,0,0]) := by kernel_rfl
theorem k15_15 : P15 [1,1,1,0,0] = .loop (P15 [1,1,1,0,0,0]) := by kernel_rfl
theorem k15_16 : P15 [1,1,1,0,0,0] = .seq (P15 [1,1,1,0,0,0,0]) (P15 [1,1,1,0,0,0,1]) := by kernel_rfl
theorem k15_17 : P15 [1,1,1,0,0,0,0] = .seq (P15 [1,1,1,0,0,0,0,0]) (P15 [1,1,1,0,0,0,0,1]) := by kernel_rfl
theorem k15_18 : P15 [1,1,1,0,0,0,0,0] = .region 4 (O15 [1,1,1,0,0,0,0,0]) false := by kernel_rfl
theorem r15_4 {x1 x5 : Int} {M : Mem} {call : CallM} {K : Array Value → Mem → R} :
    opsK Try.prog (fun _ => call) (O15 [1,1,1,0,0,0,0,0]) (O15 [1,1,1,0,0,0,0,0]).toList 0 #[g0,.int .u32 x1,g2,g3,g4,.int .i64 x5,g6,g7,g8,g9,g10,g11,g12,g13,g14,g15,g16,g17,g18,g19,g20,g21,g22,g23,g24,g25] M K = (binV Try.prog .shl 64 3 (.int .u64 2) (.int .i64 x5)).bind fun v_1 => (asI .u64 v_1).bind fun x_2 => K #[g0,.int .u32 x1,g2,g3,g4,.int .i64 x5,g6,g7,.int .i64 x5,.int .u64 x_2,.int .u32 x1,.int .u64 (IntKind.u64.wrap (x1)),.int .u64 (IntKind.u64.wrap ((IntKind.u64.wrap (x1)) + 1)),.bool (decide (x_2 ≤ (IntKind.u64.wrap ((IntKind.u64.wrap (x1)) + 1)))),g14,g15,g16,g17,g18,g19,g20,g21,g22,g23,g24,g25] M := by kernel_rfl
theorem c15_19 : P15 [1,1,1,0,0,0,0,1] = .cond (.tmp 13) (P15 [1,1,1,0,0,0,0,1,0]) (P15 [1,1,1,0,0,0,0,1,1]) := by kernel_rfl
theorem k15_20 : P15 [1,1,1,0,0,0,0,1,0] = .skip := by kernel_rfl
theorem k15_21 : P15 [1,1,1,0,0,0,1] = .block 1 (P15 [1,1,1,0,0,0,1,0]) := by kernel_rfl
theorem k15_22 : P15 [1,1,1,0,0,0,1,0] = .region 5 (O15 [1,1,1,0,0,0,1,0]) false := by kernel_rfl
theorem r15_5 {x5 : Int} {M : Mem} {call : CallM} {K : Array Value → Mem → R} :
    opsK Try.prog (fun _ => call) (O15 [1,1,1,0,0,0,1,0]) (O15 [1,1,1,0,0,0,1,0]).toList 0 #[g0,g1,g2,g3,g4,.int .i64 x5,g6,g7,g8,g9,g10,g11,g12,g13,g14,g15,g16,g17,g18,g19,g20,g21,g22,g23,g24,g25] M K = K #[g0,g1,g2,g3,g4,.int .i64 (IntKind.i64.wrap (x5 + 1)),g6,g7,g8,g9,g10,g11,g12,g13,.int .i64 x5,.int .i64 (IntKind.i64.wrap (x5 + 1)),g16,g17,g18,g19,g20,g21,g22,g23,g24,g25] M := by kernel_rfl
theorem k15_23 : P15 [1,1,1,0,0,0,0,1,1] = .exit 0 := by kernel_rfl
theorem k15_24 : P15 [1,1,1,1] = .seq (P15 [1,1,1,1,0]) (P15 [1,1,1,1,1]) := by kernel_rfl
theorem k15_25 : P15 [1,1,1,1,0] = .region 6 (O15 [1,1,1,1,0]) false := by kernel_rfl
theorem r15_6 {x0 : Option Addr} {x5 : Int} {M : Mem} {call : CallM} {K : Array Value → Mem → R} :
    opsK Try.prog (fun _ => call) (O15 [1,1,1,1,0]) (O15 [1,1,1,1,0]).toList 0 #[.pointer x0,g1,g2,g3,g4,.int .i64 x5,g6,g7,g8,g9,g10,g11,g12,g13,g14,g15,g16,g17,g18,g19,g20,g21,g22,g23,g24,g25] M K = (call 42 #[.pointer x0, .int .u64 0, .int .i64 x5] M).bind fun r_1 => K #[.pointer x0,g1,g2,g3,g4,.int .i64 x5,g6,g7,g8,g9,g10,g11,g12,g13,g14,g15,.pointer x0,.int .i64 x5,r_1.1,g19,g20,g21,g22,g23,g24,g25] r_1.2 := by kernel_rfl
theorem k15_26 : P15 [1,1,1,1,1] = .seq (P15 [1,1,1,1,1,0]) (P15 [1,1,1,1,1,1]) := by kernel_rfl
theorem k15_27 : P15 [1,1,1,1,1,0] = .region 7 (O15 [1,1,1,1,1,0]) false := by kernel_rfl
theorem r15_7 {x0 : Option Addr} {x1 x5 : Int} {M : Mem} {call : CallM} {K : Array Value → Mem → R} :
    opsK Try.prog (fun _ => call) (O15 [1,1,1,1,1,0]) (O15 [1,1,1,1,1,0]).toList 0 #[.pointer x0,.int .u32 x1,g2,g3,g4,.int .i64 x5,g6,g7,g8,g9,g10,g11,g12,g13,g14,g15,g16,g17,g18,g19,g20,g21,g22,g23,g24,g25] M K = (call 42 #[.pointer x0, .int .u64 (IntKind.u64.wrap ((IntKind.u64.wrap (x1)) + 1)), .int .i64 (IntKind.i64.wrap (x5 + 1))] M).bind fun r_1 => K #[.pointer x0,.int .u32 x1,g2,g3,g4,.int .i64 x5,g6,g7,g8,g9,g10,g11,g12,g13,g14,g15,g16,g17,g18,.pointer x0,.int .u32 x1,.int .u64 (IntKind.u64.wrap (x1)),.int .u64 (IntKind.u64.wrap ((IntKind.u64.wrap (x1)) + 1)),.int .i64 x5,.int .i64 (IntKind.i64.wrap (x5 + 1)),r_1.1] r_1.2 := by kernel_rfl
theorem k15_28 : P15 [1,1,1,1,1,1] = .seq (P15 [1,1,1,1,1,1,0]) (P15 [1,1,1,1,1,1,1]) := by kernel_rfl
theorem k15_29 : P15 [1,1,1,1,1,1,0] = .region 8 (O15 [1,1,1,1,1,1,0]) false := by kernel_rfl
theorem r15_8 {M : Mem} {call : CallM} {K : Array Value → Mem → R} :
    opsK Try.prog (fun _ => call) (O15 [1,1,1,1,1,1,0]) (O15 [1,1,1,1,1,1,0]).toList 0 #[g0,g1,g2,g3,g4,g5,g6,g7,g8,g9,g10,g11,g12,g13,g14,g15,g16,g17,g18,g19,g20,g21,g22,g23,g24,g25] M K = K #[g0,g1,g2,g3,.int .i64 0,g5,g6,g7,g8,g9,g10,g11,g12,g13,g14,g15,g16,g17,g18,g19,g20,g21,g22,g23,g24,g25] M := by kernel_rfl
theorem k15_30 : P15 [1,1,1,1,1,1,1] = .ret := by kernel_rfl
noncomputable def S15_1 : List Item := [.code (P15 [1,1,1,0,0,0]), .inLoop (P15 [1,1,1,0,0,0]), .inBlock 0, .code (P15 [1,1,1,1])]
def A15_1 (x0 : Option Addr) (x1 x5 : Int) (M : Mem) (Q : Value → Mem → Prop) : Prop := ∀ (g2 g3 g4 g6 g7 g8 g9 g10 g11 g12 g13 g14 g15 g16 g17 g18 g19 g20 g21 g22 g23 g24 g25 : Value), Rn Try.prog Try.f15 S15_1 #[.pointer x0, .int .u32 x1, g2, g3, g4, .int .i64 x5, g6, g7, g8, g9, g10, g11, g12, g13, g14, g15, g16, g17, g18, g19, g20, g21, g22, g23, g24, g25] M Q
theorem w15_0 {x0 : Option Addr} {x1 : Int} {M : Mem} {Q : Value → Mem → Prop} (H :
    ((x1 = 4294967295 →
     Q (.int .i64 2) M) ∧
     (x1 ≠ 4294967295 →
     A15_1 x0 x1 0 M Q))) :
    Cn Try.prog 15 #[.pointer x0, .int .u32 x1] M Q := by
  refine Cn.of b15 d15 t15 ?_
  refine Rn.seq k15_0 (Rn.region k15_1 (fun call K => r15_0) (Rch.leaf (Rn.seq k15_2 (Rn.seq k15_3 (Rn.region k15_4 (fun call K => r15_1) (Rch.leaf ?_))))))
  refine Rn.cnd (v := x1 == 4294967295) ⟨c15_5, rfl, by kernel_rfl⟩ (fun h => ?_) (fun h => ?_)
  · replace H := H.1 (eq_of_beq h)
    refine Rn.seq k15_6 (Rn.region k15_7 (fun call K => r15_2) (Rch.leaf ?_))
    exact Rn.ret k15_8 e15 H
  · replace H := H.2 (ne_of_beq_false h)
    refine Rn.skip k15_10 (Rn.seq k15_11 (Rn.region k15_12 (fun call K => r15_3) (Rch.leaf (Rn.seq k15_13 (Rn.block k15_14 (Rn.loop k15_15 ?_))))))
    exact H _ _ _ _ _ _ _ _ _ _ _ _ _ _ _ _ _ _ _ _ _ _ _

theorem w15_1 {x0 : Option Addr} {x1 x5 : Int} {M : Mem} {Q : Value → Mem → Prop} (H :
    ∃ v1', binV Try.prog .shl 64 3 (.int .u64 2) (.int .i64 x5) = some v1' ∧
    ∃ x2', asI .u64 v1' = some x2' ∧
    ((x2' ≤ (IntKind.u64.wrap ((IntKind.u64.wrap (x1)) + 1)) →
     A15_1 x0 x1 (IntKind.i64.wrap (x5 + 1)) M Q) ∧
     (¬ (x2' ≤ (IntKind.u64.wrap ((IntKind.u64.wrap (x1)) + 1))) →
     Cn Try.prog 42 #[.pointer x0, .int .u64 0, .int .i64 x5] M fun v3' N3' =>
      Cn Try.prog 42 #[.pointer x0, .int .u64 (IntKind.u64.wrap ((IntKind.u64.wrap (x1)) + 1)), .int .i64 (IntKind.i64.wrap (x5 + 1))] N3' fun v4' N4' =>
       Q (.int .i64 0) N4'))) :
    A15_1 x0 x1 x5 M Q := by
  intro g2 g3 g4 g6 g7 g8 g9 g10 g11 g12 g13 g14 g15 g16 g17 g18 g19 g20 g21 g22 g23 g24 g25
  refine Rn.seq k15_16 (Rn.seq k15_17 (Rn.region k15_18 (fun call K => r15_4) (Rch.ex H fun v1' H => Rch.ex H fun x2' H => Rch.leaf ?_)))
  refine Rn.cnd (v := decide (x2' ≤ (IntKind.u64.wrap ((IntKind.u64.wrap (x1)) + 1)))) ⟨c15_19, rfl, by kernel_rfl⟩ (fun h => ?_) (fun h => ?_)
  · replace H := H.1 (of_decide_eq_true h)
    refine Rn.skip k15_20 (Rn.block k15_21 (Rn.region k15_22 (fun call K => r15_5) (Rch.leaf (Rn.blk (Rn.lp ?_)))))
    exact H _ _ _ _ _ _ _ _ _ _ _ _ _ _ _ _ _ _ _ _ _ _ _
  · replace H := H.2 (of_decide_eq_false h)
    refine Rn.exit k15_23 rfl (Rn.seq k15_24 (Rn.region k15_25 (fun call K => r15_6) (Rch.call H fun v3' N3' H => Rch.leaf (Rn.seq k15_26 (Rn.region k15_27 (fun call K => r15_7) (Rch.call H fun v4' N4' H => Rch.leaf (Rn.seq k15_28 (Rn.region k15_29 (fun call K => r15_8) (Rch.leaf ?_)))))))))
    exact Rn.ret k15_30 e15 H


/-! ### (*zoetrope/zoetroperef01.Writer).Leb: function 16 -/
noncomputable abbrev P16 (p : List Nat) : Code := subC (codeOf Try.f16) p
noncomputable abbrev O16 (p : List Nat) : Array Oper := opsOf (subC (codeOf Try.f16) p)
theorem b16 : Try.prog.funcs[16]? = some Try.f16 ∧ (Orc.tab Try.prog).lookup 16 = none := ⟨by kernel_rfl, by kernel_rfl⟩
theorem d16 : Try.f16.body = some (P16 []) := by kernel_rfl
theorem t16 {x0 : Option Addr} {x1 : Int} : #[.pointer x0,.int .u32 x1] ++ Array.replicate (Try.f16.ntmps - (#[.pointer x0,.int .u32 x1] : Array Value).size) undef = #[.pointer x0,.int .u32 x1,undef,undef,undef,undef,undef,undef,undef,undef,undef,undef,undef,undef,undef,undef,undef,undef,undef,undef,undef,undef,undef,undef,undef,undef] := by kernel_rfl
theorem k16_0 : P16 [] = .seq (P16 [0]) (P16 [1]) := by kernel_rfl
theorem k16_1 : P16 [0] = .region 0 (O16 [0]) false := by kernel_rfl
theorem r16_0 {M : Mem} {call : CallM} {K : Array Value → Mem → R} :
    opsK Try.prog (fun _ => call) (O16 [0]) (O16 [0]).toList 0 #[g0,g1,g2,g3,g4,g5,g6,g7,g8,g9,g10,g11,g12,g13,g14,g15,g16,g17,g18,g19,g20,g21,g22,g23,g24,g25] M K = K #[g0,g1,g2,g3,.int .i64 0,g5,g6,g7,g8,g9,g10,g11,g12,g13,g14,g15,g16,g17,g18,g19,g20,g21,g22,g23,g24,g25] M := by kernel_rfl
theorem k16_2 : P16 [1] = .seq (P16 [1,0]) (P16 [1,1]) := by kernel_rfl
theorem k16_3 : P16 [1,0] = .seq (P16 [1,0,0]) (P16 [1,0,1]) := by kernel_rfl
theorem k16_4 : P16 [1,0,0] = .region 1 (O16 [1,0,0]) false := by kernel_rfl
theorem r16_1 {x0 : Option Addr} {M : Mem} {call : CallM} {K : Array Value → Mem → R} :
    opsK Try.prog (fun _ => call) (O16 [1,0,0]) (O16 [1,0,0]).toList 0 #[.pointer x0,g1,g2,g3,g4,g5,g6,g7,g8,g9,g10,g11,g12,g13,g14,g15,g16,g17,g18,g19,g20,g21,g22,g23,g24,g25] M K = (x0).bind fun a_1 => (M.slAt a_1.block a_1.off).bind fun s_2 => K #[.pointer x0,g1,g2,g3,g4,.pointer x0,.pointer (some a_1),.pointer (some ⟨a_1.block, a_1.off, none⟩),.slice s_2.1 (s_2.2.1) (s_2.2.2),.int .i64 ((s_2.2.1 : Int)),.int .i64 (((s_2.2.1 : Int)).tmod 8),.bool ((((s_2.2.1 : Int)).tmod 8) != 0),g12,g13,g14,g15,g16,g17,g18,g19,g20,g21,g22,g23,g24,g25] M := by kernel_rfl
theorem c16_5 : P16 [1,0,1] = .cond (.tmp 11) (P16 [1,0,1,0]) (P16 [1,0,1,1]) := by kernel_rfl
theorem k16_6 : P16 [1,0,1,0] = .seq (P16 [1,0,1,0,0]) (P16 [1,0,1,0,1]) := by kernel_rfl
theorem k16_7 : P16 [1,0,1,0,0] = .region 2 (O16 [1,0,1,0,0]) false := by kernel_rfl
theorem r16_2 {M : Mem} {call : CallM} {K : Array Value → Mem → R} :
    opsK Try.prog (fun _ => call) (O16 [1,0,1,0,0]) (O16 [1,0,1,0,0]).toList 0 #[g0,g1,g2,g3,g4,g5,g6,g7,g8,g9,g10,g11,g12,g13,g14,g15,g16,g17,g18,g19,g20,g21,g22,g23,g24,g25] M K = K #[g0,g1,g2,g3,.int .i64 2,g5,g6,g7,g8,g9,g10,g11,g12,g13,g14,g15,g16,g17,g18,g19,g20,g21,g22,g23,g24,g25] M := by kernel_rfl
theorem k16_8 : P16 [1,0,1,0,1] = .ret := by kernel_rfl
theorem e16 {M : Mem} : finish Try.prog Try.f16 #[g0,g1,g2,g3,g4,g5,g6,g7,g8,g9,g10,g11,g12,g13,g14,g15,g16,g17,g18,g19,g20,g21,g22,g23,g24,g25] M = some (g4, M) := by kernel_rfl
theorem k16_10 : P16 [1,0,1,1] = .skip := by kernel_rfl
theorem k16_11 : P16 [1,1] = .seq (P16 [1,1,0]) (P16 [1,1,1]) := by kernel_rfl
theorem k16_12 : P16 [1,1,0] = .block 0 (P16 [1,1,0,0]) := by kernel_rfl
theorem k16_13 : P16 [1,1,0,0] = .loop (P16 [1,1,0,0,0]) := by kernel_rfl
theorem k16_14 : P16 [1,1,0,0,0] = .seq (P16 [1,1,0,0,0,0]) (P16 [1,1,0,0,0,1]) := by kernel_rfl
theorem k16_15 : P16 [1,1,0,0,0,0] = .seq (P16 [1,1,0,0,0,0,0]) (P16 [1,1,0,0,0,0,1]) := by kernel_rfl
theorem k16_16 : P16 [1,1,0,0,0,0,0] = .region 3 (O16 [1,1,0,0,0,0,0]) false := by kernel_rfl
theorem r16_3 {x1 : Int} {M : Mem} {call : CallM} {K : Array Value → Mem → R} :
    opsK Try.prog (fun _ => call) (O16 [1,1,0,0,0,0,0]) (O16 [1,1,0,0,0,0,0]).toList 0 #[g0,.int .u32 x1,g2,g3,g4,g5,g6,g7,g8,g9,g10,g11,g12,g13,g14,g15,g16,g17,g18,g19,g20,g21,g22,g23,g24,g25] M K = K #[g0,.int .u32 x1,g2,g3,g4,g5,g6,g7,g8,g9,g10,g11,.int .u32 x1,.bool (decide (x1 ≥ 128)),g14,g15,g16,g17,g18,g19,g20,g21,g22,g23,g24,g25] M := by kernel_rfl
theorem c16_17 : P16 [1,1,0,0,0,0,1] = .cond (.tmp 13) (P16 [1,1,0,0,0,0,1,0]) (P16 [1,1,0,0,0,0,1,1]) := by kernel_rfl
theorem k16_18 : P16 [1,1,0,0,0,0,1,0] = .skip := by kernel_rfl
theorem k16_19 : P16 [1,1,0,0,0,1] = .block 1 (P16 [1,1,0,0,0,1,0]) := by kernel_rfl
theorem k16_20 : P16 [1,1,0,0,0,1,0] = .seq (P16 [1,1,0,0,0,1,0,0]) (P16 [1,1,0,0,0,1,0,1]) := by kernel_rfl
theorem k16_21 : P16 [1,1,0,0,0,1,0,0] = .region 4 (O16 [1,1,0,0,0,1,0,0]) false := by kernel_rfl
theorem r16_4 {x0 : Option Addr} {x1 : Int} {M : Mem} {call : CallM} {K : Array Value → Mem → R} :
    opsK Try.prog (fun _ => call) (O16 [1,1,0,0,0,1,0,0]) (O16 [1,1,0,0,0,1,0,0]).toList 0 #[.pointer x0,.int .u32 x1,g2,g3,g4,g5,g6,g7,g8,g9,g10,g11,g12,g13,g14,g15,g16,g17,g18,g19,g20,g21,g22,g23,g24,g25] M K = (call 42 #[.pointer x0, .int .u64 (IntKind.u64.wrap (IntKind.u32.wrap (128 + (x1.tmod 128)))), .int .i64 8] M).bind fun r_1 => K #[.pointer x0,.int .u32 x1,g2,g3,g4,g5,g6,g7,g8,g9,g10,g11,g12,g13,.pointer x0,.int .u32 x1,.int .u32 (x1.tmod 128),.int .u32 (IntKind.u32.wrap (128 + (x1.tmod 128))),.int .u64 (IntKind.u64.wrap (IntKind.u32.wrap (128 + (x1.tmod 128)))),r_1.1,g20,g21,g22,g23,g24,g25] r_1.2 := by kernel_rfl
theorem k16_22 : P16 [1,1,0,0,0,1,0,1] = .region 5 (O16 [1,1,0,0,0,1,0,1]) false := by kernel_rfl
theorem r16_5 {x1 : Int} {M : Mem} {call : CallM} {K : Array Value → Mem → R} :
    opsK Try.prog (fun _ => call) (O16 [1,1,0,0,0,1,0,1]) (O16 [1,1,0,0,0,1,0,1]).toList 0 #[g0,.int .u32 x1,g2,g3,g4,g5,g6,g7,g8,g9,g10,g11,g12,g13,g14,g15,g16,g17,g18,g19,g20,g21,g22,g23,g24,g25] M K = K #[g0,.int .u32 (IntKind.u32.wrap (x1.tdiv 128)),g2,g3,g4,g5,g6,g7,g8,g9,g10,g11,g12,g13,g14,g15,g16,g17,g18,g19,.int .u32 x1,.int .u32 (IntKind.u32.wrap (x1.tdiv 128)),g22,g23,g24,g25] M := by kernel_rfl
theorem k16_23 : P16 [1,1,0,0,0,0,1,1] = .exit 0 := by kernel_rfl
theorem k16_24 : P16 [1,1,1] = .seq (P16 [1,1,1,0]) (P16 [1,1,1,1]) := by kernel_rfl
theorem k16_25 : P16 [1,1,1,0] = .region 6 (O16 [1,1,1,0]) false := by kernel_rfl
theorem r16_6 {x0 : Option Addr} {x1 : Int} {M : Mem} {call : CallM} {K : Array Value → Mem → R} :
    opsK Try.prog (fun _ => call) (O16 [1,1,1,0]) (O16 [1,1,1,0]).toList 0 #[.pointer x0,.int .u32 x1,g2,g3,g4,g5,g6,g7,g8,g9,g10,g11,g12,g13,g14,g15,g16,g17,g18,g19,g20,g21,g22,g23,g24,g25] M K = (call 42 #[.pointer x0, .int .u64 (IntKind.u64.wrap (x1)), .int .i64 8] M).bind fun r_1 => K #[.pointer x0,.int .u32 x1,g2,g3,g4,g5,g6,g7,g8,g9,g10,g11,g12,g13,g14,g15,g16,g17,g18,g19,g20,g21,.pointer x0,.int .u32 x1,.int .u64 (IntKind.u64.wrap (x1)),r_1.1] r_1.2 := by kernel_rfl
theorem k16_26 : P16 [1,1,1,1] = .seq (P16 [1,1,1,1,0]) (P16 [1,1,1,1,1]) := by kernel_rfl
theorem k16_27 : P16 [1,1,1,1,0] = .region 7 (O16 [1,1,1,1,0]) false := by kernel_rfl
theorem r16_7 {M : Mem} {call : CallM} {K : Array Value → Mem → R} :
    opsK Try.prog (fun _ => call) (O16 [1,1,1,1,0]) (O16 [1,1,1,1,0]).toList 0 #[g0,g1,g2,g3,g4,g5,g6,g7,g8,g9,g10,g11,g12,g13,g14,g15,g16,g17,g18,g19,g20,g21,g22,g23,g24,g25] M K = K #[g0,g1,g2,g3,.int .i64 0,g5,g6,g7,g8,g9,g10,g11,g12,g13,g14,g15,g16,g17,g18,g19,g20,g21,g22,g23,g24,g25] M := by kernel_rfl
theorem k16_28 : P16 [1,1,1,1,1] = .ret := by kernel_rfl
noncomputable def S16_1 : List Item := [.code (P16 [1,1,0,0,0]), .inLoop (P16 [1,1,0,0,0]), .inBlock 0, .code (P16 [1,1,1])]
def A16_1 (x0 : Option Addr) (x1 : Int) (M : Mem) (Q : Value → Mem → Prop) : Prop := ∀ (g2 g3 g4 g5 g6 g7 g8 g9 g10 g11 g12 g13 g14 g15 g16 g17 g18 g19 g20 g21 g22 g23 g24 g25 : Value), Rn Try.prog Try.f16 S16_1 #[.pointer x0, .int .u32 x1, g2, g3, g4, g5, g6, g7, g8, g9, g10, g11, g12, g13, g14, g15, g16, g17, g18, g19, g20, g21, g22, g23, g24, g25] M Q
theorem w16_0 {x0 : Option Addr} {x1 : Int} {M : Mem} {Q : Value → Mem → Prop} (H :
    ∃ a1', x0 = some a1' ∧
    ∃ s2', M.slAt a1'.block a1'.off = some s2' ∧
    (((((s2'.2.1 : Int)).tmod 8) ≠ 0 →
     Q (.int .i64 2) M) ∧
     ((((s2'.2.1 : Int)).tmod 8) = 0 →
     A16_1 x0 x1 M Q))) :
    Cn Try.prog 16 #[.pointer x0, .int .u32 x1] M Q := by
  refine Cn.of b16 d16 t16 ?_
  refine Rn.seq k16_0 (Rn.region k16_1 (fun call K => r16_0) (Rch.leaf (Rn.seq k16_2 (Rn.seq k16_3 (Rn.region k16_4 (fun call K => r16_1) (Rch.ex H fun a1' H => Rch.ex H fun s2' H => Rch.leaf ?_))))))
  refine Rn.cnd (v := (((s2'.2.1 : Int)).tmod 8) != 0) ⟨c16_5, rfl, by kernel_rfl⟩ (fun h => ?_) (fun h => ?_)
  · replace H := H.1 (ne_of_bneT h)
    refine Rn.seq k16_6 (Rn.region k16_7 (fun call K => r16_2) (Rch.leaf ?_))
    exact Rn.ret k16_8 e16 H
  · replace H := H.2 (eq_of_bneF h)
    refine Rn.skip k16_10 (Rn.seq k16_11 (Rn.block k16_12 (Rn.loop k16_13 ?_)))
    exact H _ _ _ _ _ _ _ _ _ _ _ _ _ _ _ _ _ _ _ _ _ _ _ _

theorem w16_1 {x0 : Option Addr} {x1 : Int} {M : Mem} {Q : Value → Mem → Prop} (H :
    ((x1 ≥ 128 →
     Cn Try.prog 42 #[.pointer x0, .int .u64 (IntKind.u64.wrap (IntKind.u32.wrap (128 + (x1.tmod 128)))), .int .i64 8] M fun v3' N3' =>
      A16_1 x0 (IntKind.u32.wrap (x1.tdiv 128)) N3' Q) ∧
     (¬ (x1 ≥ 128) →
     Cn Try.prog 42 #[.pointer x0, .int .u64 (IntKind.u64.wrap (x1)), .int .i64 8] M fun v4' N4' =>
      Q (.int .i64 0) N4'))) :
    A16_1 x0 x1 M Q := by
  intro g2 g3 g4 g5 g6 g7 g8 g9 g10 g11 g12 g13 g14 g15 g16 g17 g18 g19 g20 g21 g22 g23 g24 g25
  refine Rn.seq k16_14 (Rn.seq k16_15 (Rn.region k16_16 (fun call K => r16_3) (Rch.leaf ?_)))
  refine Rn.cnd (v := decide (x1 ≥ 128)) ⟨c16_17, rfl, by kernel_rfl⟩ (fun h => ?_) (fun h => ?_)
  · replace H := H.1 (of_decide_eq_true h)
    refine Rn.skip k16_18 (Rn.block k16_19 (Rn.seq k16_20 (Rn.region k16_21 (fun call K => r16_4) (Rch.call H fun v3' N3' H => Rch.leaf (Rn.region k16_22 (fun call K => r16_5) (Rch.leaf (Rn.blk (Rn.lp ?_))))))))
    exact H _ _ _ _ _ _ _ _ _ _ _ _ _ _ _ _ _ _ _ _ _ _ _ _
  · replace H := H.2 (of_decide_eq_false h)
    refine Rn.exit k16_23 rfl (Rn.seq k16_24 (Rn.region k16_25 (fun call K => r16_6) (Rch.call H fun v4' N4' H => Rch.leaf (Rn.seq k16_26 (Rn.region k16_27 (fun call K => r16_7) (Rch.leaf ?_))))))
    exact Rn.ret k16_28 e16 H


/-! ### (*zoetrope/zoetroperef01.Writer).Align: function 17 -/
noncomputable abbrev P17 (p : List Nat) : Code := subC (codeOf Try.f17) p
noncomputable abbrev O17 (p : List Nat) : Array Oper := opsOf (subC (codeOf Try.f17) p)
theorem b17 : Try.prog.funcs[17]? = some Try.f17 ∧ (Orc.tab Try.prog).lookup 17 = none := ⟨by kernel_rfl, by kernel_rfl⟩
theorem d17 : Try.f17.body = some (P17 []) := by kernel_rfl
theorem t17 {x0 : Option Addr} : #[.pointer x0] ++ Array.replicate (Try.f17.ntmps - (#[.pointer x0] : Array Value).size) undef = #[.pointer x0,undef,undef,undef,undef,undef,undef,undef,undef,undef,undef,undef,undef,undef,undef,undef,undef,undef,undef] := by kernel_rfl
theorem k17_0 : P17 [] = .seq (P17 [0]) (P17 [1]) := by kernel_rfl
theorem k17_1 : P17 [0] = .region 0 (O17 [0]) false := by kernel_rfl
theorem r17_0 {M : Mem} {call : CallM} {K : Array Value → Mem → R} :
    opsK Try.prog (fun _ => call) (O17 [0]) (O17 [0]).toList 0 #[g0,g1,g2,g3,g4,g5,g6,g7,g8,g9,g10,g11,g12,g13,g14,g15,g16,g17,g18] M K = K #[g0,g1,.int .i64 0,g3,g4,g5,g6,g7,g8,g9,g10,g11,g12,g13,g14,g15,g16,g17,g18] M := by kernel_rfl
theorem k17_2 : P17 [1] = .seq (P17 [1,0]) (P17 [1,1]) := by kernel_rfl
theorem k17_3 : P17 [1,0] = .block 0 (P17 [1,0,0]) := by kernel_rfl
theorem k17_4 : P17 [1,0,0] = .loop (P17 [1,0,0,0]) := by kernel_rfl
theorem k17_5 : P17 [1,0,0,0] = .seq (P17 [1,0,0,0,0]) (P17 [1,0,0,0,1]) := by kernel_rfl
theorem k17_6 : P17 [1,0,0,0,0] = .seq (P17 [1,0,0,0,0,0]) (P17 [1,0,0,0,0,1]) := by kernel_rfl
theorem k17_7 : P17 [1,0,0,0,0,0] = .region 1 (O17 [1,0,0,0,0,0]) false := by kernel_rfl
theorem r17_1 {x0 : Option Addr} {M : Mem} {call : CallM} {K : Array Value → Mem → R} :
    opsK Try.prog (fun _ => call) (O17 [1,0,0,0,0,0]) (O17 [1,0,0,0,0,0]).toList 0 #[.pointer x0,g1,g2,g3,g4,g5,g6,g7,g8,g9,g10,g11,g12,g13,g14,g15,g16,g17,g18] M K = (x0).bind fun a_1 => (M.slAt a_1.block a_1.off).bind fun s_2 => K #[.pointer x0,g1,g2,.pointer x0,.pointer (some a_1),.pointer (some ⟨a_1.block, a_1.off, none⟩),.slice s_2.1 (s_2.2.1) (s_2.2.2),.int .i64 ((s_2.2.1 : Int)),.int .i64 (((s_2.2.1 : Int)).tmod 8),.bool ((((s_2.2.1 : Int)).tmod 8) != 0),g10,g11,g12,g13,g14,g15,g16,g17,g18] M := by kernel_rfl
theorem c17_8 : P17 [1,0,0,0,0,1] = .cond (.tmp 9) (P17 [1,0,0,0,0,1,0]) (P17 [1,0,0,0,0,1,1]) := by kernel_rfl
theorem k17_9 : P17 [1,0,0,0,0,1,0] = .skip := by kernel_rfl
theorem k17_10 : P17 [1,0,0,0,1] = .block 1 (P17 [1,0,0,0,1,0]) := by kernel_rfl
theorem k17_11 : P17 [1,0,0,0,1,0] = .region 2 (O17 [1,0,0,0,1,0]) false := by kernel_rfl
theorem r17_2 {x0 : Option Addr} {M : Mem} {call : CallM} {K : Array Value → Mem → R} :
    opsK Try.prog (fun _ => call) (O17 [1,0,0,0,1,0]) (O17 [1,0,0,0,1,0]).toList 0 #[.pointer x0,g1,g2,g3,g4,g5,g6,g7,g8,g9,g10,g11,g12,g13,g14,g15,g16,g17,g18] M K = (x0).bind fun a_1 => (M.slAt a_1.block a_1.off).bind fun s_2 => (appendP Try.prog #[61, 61] (.slice s_2.1 (s_2.2.1) (s_2.2.2)) (.slice (some ⟨2 * M.nb.size, 0, none⟩) 1 1) (M.new (.cells #[.int .i64 0] 3))).bind fun r_3 => (asS r_3.1).bind fun s_4 => (x0).bind fun a_5 => (r_3.2.put a_5.block a_5.off (.slice s_4.1 (s_4.2.1) (s_4.2.2))).bind fun M_6 => K #[.pointer x0,g1,g2,g3,g4,g5,g6,g7,g8,g9,.pointer x0,.pointer x0,.pointer (some a_1),.pointer (some ⟨a_1.block, a_1.off, none⟩),.slice s_2.1 (s_2.2.1) (s_2.2.2),.slice (some ⟨2 * M.nb.size, 0, none⟩) 1 1,.slice s_4.1 (s_4.2.1) (s_4.2.2),.pointer (some a_5),.pointer (some ⟨a_5.block, a_5.off, none⟩)] M_6 := by kernel_rfl
theorem k17_12 : P17 [1,0,0,0,0,1,1] = .exit 0 := by kernel_rfl
theorem k17_13 : P17 [1,1] = .seq (P17 [1,1,0]) (P17 [1,1,1]) := by kernel_rfl
theorem k17_14 : P17 [1,1,0] = .region 3 (O17 [1,1,0]) false := by kernel_rfl
theorem r17_3 {M : Mem} {call : CallM} {K : Array Value → Mem → R} :
    opsK Try.prog (fun _ => call) (O17 [1,1,0]) (O17 [1,1,0]).toList 0 #[g0,g1,g2,g3,g4,g5,g6,g7,g8,g9,g10,g11,g12,g13,g14,g15,g16,g17,g18] M K = K #[g0,g1,.int .i64 0,g3,g4,g5,g6,g7,g8,g9,g10,g11,g12,g13,g14,g15,g16,g17,g18] M := by kernel_rfl
theorem k17_15 : P17 [1,1,1] = .ret := by kernel_rfl
theorem e17 {M : Mem} : finish Try.prog Try.f17 #[g0,g1,g2,g3,g4,g5,g6,g7,g8,g9,g10,g11,g12,g13,g14,g15,g16,g17,g18] M = some (g2, M) := by kernel_rfl
noncomputable def S17_1 : List Item := [.code (P17 [1,0,0,0]), .inLoop (P17 [1,0,0,0]), .inBlock 0, .code (P17 [1,1])]
def A17_1 (x0 : Option Addr) (M : Mem) (Q : Value → Mem → Prop) : Prop := ∀ (g1 g2 g3 g4 g5 g6 g7 g8 g9 g10 g11 g12 g13 g14 g15 g16 g17 g18 : Value), Rn Try.prog Try.f17 S17_1 #[.pointer x0, g1, g2, g3, g4, g5, g6, g7, g8, g9, g10, g11, g12, g13, g14, g15, g16, g17, g18] M Q
theorem w17_0 {x0 : Option Addr} {M : Mem} {Q : Value → Mem → Prop} (H :
    A17_1 x0 M Q) :
    Cn Try.prog 17 #[.pointer x0] M Q := by
  refine Cn.of b17 d17 t17 ?_
  refine Rn.seq k17_0 (Rn.region k17_1 (fun call K => r17_0) (Rch.leaf (Rn.seq k17_2 (Rn.block k17_3 (Rn.loop k17_4 ?_)))))
  exact H _ _ _ _ _ _ _ _ _ _ _ _ _ _ _ _ _ _

theorem w17_1 {x0 : Option Addr} {M : Mem} {Q : Value → Mem → Prop} (H :
    ∃ a1', x0 = some a1' ∧
    ∃ s2', M.slAt a1'.block a1'.off = some s2' ∧
    (((((s2'.2.1 : Int)).tmod 8) ≠ 0 →
     ∃ a3', x0 = some a3' ∧
     ∃ s4', M.slAt a3'.block a3'.off = some s4' ∧
     ∃ r5', appendP Try.prog #[61, 61] (.slice s4'.1 (s4'.2.1) (s4'.2.2)) (.slice (some ⟨2 * M.nb.size, 0, none⟩) 1 1) (M.new (.cells #[.int .i64 0] 3)) = some r5' ∧
     ∃ s6', asS r5'.1 = some s6' ∧
     ∃ a7', x0 = some a7' ∧
     ∃ M8', r5'.2.put a7'.block a7'.off (.slice s6'.1 (s6'.2.1) (s6'.2.2)) = some M8' ∧
     A17_1 x0 M8' Q) ∧
     ((((s2'.2.1 : Int)).tmod 8) = 0 →
     Q (.int .i64 0) M))) :
    A17_1 x0 M Q := by
  intro g1 g2 g3 g4 g5 g6 g7 g8 g9 g10 g11 g12 g13 g14 g15 g16 g17 g18
  refine Rn.seq k17_5 (Rn.seq k17_6 (Rn.region k17_7 (fun call K => r17_1) (Rch.ex H fun a1' H => Rch.ex H fun s2' H => Rch.leaf ?_)))
  refine Rn.cnd (v := (((s2'.2.1 : Int)).tmod 8) != 0) ⟨c17_8, rfl, by kernel_rfl⟩ (fun h => ?_) (fun h => ?_)
  · replace H := H.1 (ne_of_bneT h)
    refine Rn.skip k17_9 (Rn.block k17_10 (Rn.region k17_11 (fun call K => r17_2) (Rch.ex H fun a3' H => Rch.ex H fun s4' H => Rch.ex H fun r5' H => Rch.ex H fun s6' H => Rch.ex H fun a7' H => Rch.ex H fun M8' H => Rch.leaf (Rn.blk (Rn.lp ?_)))))
    exact H _ _ _ _ _ _ _ _ _ _ _ _ _ _ _ _ _ _
  · replace H := H.2 (eq_of_bneF h)
    refine Rn.exit k17_12 rfl (Rn.seq k17_13 (Rn.region k17_14 (fun call K => r17_3) (Rch.leaf ?_)))
    exact Rn.ret k17_15 e17 H


/-! ### (*zoetrope/zoetroperef01.Writer).Bytes: function 20 -/
noncomputable abbrev P20 (p : List Nat) : Code := subC (codeOf Try.f20) p
noncomputable abbrev O20 (p : List Nat) : Array Oper := opsOf (subC (codeOf Try.f20) p)
theorem b20 : Try.prog.funcs[20]? = some Try.f20 ∧ (Orc.tab Try.prog).lookup 20 = none := ⟨by kernel_rfl, by kernel_rfl⟩
theorem d20 : Try.f20.body = some (P20 []) := by kernel_rfl
theorem t20 {x0 : Option Addr} : #[.pointer x0] ++ Array.replicate (Try.f20.ntmps - (#[.pointer x0] : Array Value).size) undef = #[.pointer x0,undef,undef,undef,undef,undef,undef,undef] := by kernel_rfl
theorem k20_0 : P20 [] = .seq (P20 [0]) (P20 [1]) := by kernel_rfl
theorem k20_1 : P20 [0] = .region 0 (O20 [0]) false := by kernel_rfl
theorem r20_0 {M : Mem} {call : CallM} {K : Array Value → Mem → R} :
    opsK Try.prog (fun _ => call) (O20 [0]) (O20 [0]).toList 0 #[g0,g1,g2,g3,g4,g5,g6,g7] M K = K #[g0,g1,.slice none 0 0,g3,g4,g5,g6,g7] M := by kernel_rfl
theorem k20_2 : P20 [1] = .seq (P20 [1,0]) (P20 [1,1]) := by kernel_rfl
theorem k20_3 : P20 [1,0] = .region 1 (O20 [1,0]) false := by kernel_rfl
theorem r20_1 {x0 : Option Addr} {M : Mem} {call : CallM} {K : Array Value → Mem → R} :
    opsK Try.prog (fun _ => call) (O20 [1,0]) (O20 [1,0]).toList 0 #[.pointer x0,g1,g2,g3,g4,g5,g6,g7] M K = (x0).bind fun a_1 => (M.slAt a_1.block a_1.off).bind fun s_2 => (call 45 #[.slice s_2.1 (s_2.2.1) (s_2.2.2)] M).bind fun r_3 => (asS r_3.1).bind fun s_4 => K #[.pointer x0,g1,.slice s_4.1 (s_4.2.1) (s_4.2.2),.pointer x0,.pointer (some a_1),.pointer (some ⟨a_1.block, a_1.off, none⟩),.slice s_2.1 (s_2.2.1) (s_2.2.2),.slice s_4.1 (s_4.2.1) (s_4.2.2)] r_3.2 := by kernel_rfl
theorem k20_4 : P20 [1,1] = .ret := by kernel_rfl
theorem e20 {M : Mem} : finish Try.prog Try.f20 #[g0,g1,g2,g3,g4,g5,g6,g7] M = some (g2, M) := by kernel_rfl
theorem w20_0 {x0 : Option Addr} {M : Mem} {Q : Value → Mem → Prop} (H :
    ∃ a1', x0 = some a1' ∧
    ∃ s2', M.slAt a1'.block a1'.off = some s2' ∧
    Cn Try.prog 45 #[.slice s2'.1 (s2'.2.1) (s2'.2.2)] M fun v3' N3' =>
     ∃ s4', asS v3' = some s4' ∧
     Q (.slice s4'.1 (s4'.2.1) (s4'.2.2)) N3') :
    Cn Try.prog 20 #[.pointer x0] M Q := by
  refine Cn.of b20 d20 t20 ?_
  refine Rn.seq k20_0 (Rn.region k20_1 (fun call K => r20_0) (Rch.leaf (Rn.seq k20_2 (Rn.region k20_3 (fun call K => r20_1) (Rch.ex H fun a1' H => Rch.ex H fun s2' H => Rch.call H fun v3' N3' H => Rch.ex H fun s4' H => Rch.leaf ?_)))))
  exact Rn.ret k20_4 e20 H


end Go.Zt
