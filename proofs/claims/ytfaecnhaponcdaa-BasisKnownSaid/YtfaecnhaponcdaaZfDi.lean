/- The functions' walks: for each function and each loop a rule of what it comes to. Printed by zw.py. -/
import Derived.Test.YtfaecnhaponcdaaProg
import Derived.Test.YtfaecnhaponcdaaZfA
set_option linter.unusedVariables false
set_option maxRecDepth 100000
namespace Go.Zt
open Go Go.Sim Go.Proofs

variable {g0 g1 g2 g3 g4 g5 g6 g7 g8 g9 g10 g11 g12 g13 g14 g15 g16 g17 g18 g19 g20 g21 g22 g23 g24 g25 g26 g27 g28 g29 g30 g31 g32 g33 g34 g35 g36 g37 g38 g39 g40 g41 g42 g43 g44 g45 g46 g47 g48 g49 g50 g51 g52 g53 g54 g55 g56 g57 g58 g59 g60 g61 g62 : Value}
/-! ### zoetrope/zoetropelaw07.works: function 11 -/
noncomputable abbrev P11 (p : List Nat) : Code := subC (codeOf Try.f11) p
noncomputable abbrev O11 (p : List Nat) : Array Oper := opsOf (subC (codeOf Try.f11) p)
theorem b11 : Try.prog.funcs[11]? = some Try.f11 ∧ (Orc.tab Try.prog).lookup 11 = none := ⟨by kernel_rfl, by kernel_rfl⟩
theorem d11 : Try.f11.body = some (P11 []) := by kernel_rfl
theorem t11 : #[] ++ Array.replicate (Try.f11.ntmps - (#[] : Array Value).size) undef = #[undef,undef,undef,undef,undef,undef,undef,undef,undef,undef,undef,undef,undef,undef,undef,undef,undef,undef,undef,undef,undef,undef,undef,undef,undef,undef,undef,undef,undef,undef,undef,undef,undef,undef,undef,undef,undef,undef,undef,undef,undef,undef,undef,undef,undef,undef,undef,undef,undef,undef,undef,undef,undef,undef,undef,undef,undef,undef,undef,undef,undef,undef,undef] := by kernel_rfl
theorem k11_0 : P11 [] = .seq (P11 [0]) (P11 [1]) := by kernel_rfl
theorem k11_1 : P11 [0] = .region 0 (O11 [0]) false := by kernel_rfl
theorem r11_0 {M : Mem} {call : CallM} {K : Array Value → Mem → R} :
    opsK Try.prog (fun _ => call) (O11 [0]) (O11 [0]).toList 0 #[g0,g1,g2,g3,g4,g5,g6,g7,g8,g9,g10,g11,g12,g13,g14,g15,g16,g17,g18,g19,g20,g21,g22,g23,g24,g25,g26,g27,g28,g29,g30,g31,g32,g33,g34,g35,g36,g37,g38,g39,g40,g41,g42,g43,g44,g45,g46,g47,g48,g49,g50,g51,g52,g53,g54,g55,g56,g57,g58,g59,g60,g61,g62] M K = K #[.bool false,g1,g2,g3,g4,g5,g6,g7,g8,g9,g10,g11,g12,g13,g14,g15,g16,g17,g18,g19,g20,g21,g22,g23,g24,g25,g26,g27,g28,g29,g30,g31,g32,g33,g34,g35,g36,g37,g38,g39,g40,g41,g42,g43,g44,g45,g46,g47,g48,g49,g50,g51,g52,g53,g54,g55,g56,g57,g58,g59,g60,g61,g62] M := by kernel_rfl
theorem k11_2 : P11 [1] = .seq (P11 [1,0]) (P11 [1,1]) := by kernel_rfl
theorem k11_3 : P11 [1,0] = .region 1 (O11 [1,0]) false := by kernel_rfl
theorem r11_1 {M : Mem} {call : CallM} {K : Array Value → Mem → R} :
    opsK Try.prog (fun _ => call) (O11 [1,0]) (O11 [1,0]).toList 0 #[g0,g1,g2,g3,g4,g5,g6,g7,g8,g9,g10,g11,g12,g13,g14,g15,g16,g17,g18,g19,g20,g21,g22,g23,g24,g25,g26,g27,g28,g29,g30,g31,g32,g33,g34,g35,g36,g37,g38,g39,g40,g41,g42,g43,g44,g45,g46,g47,g48,g49,g50,g51,g52,g53,g54,g55,g56,g57,g58,g59,g60,g61,g62] M K = (call 14 #[.int .i64 0, .slice (some ⟨2 * M.nb.size, 0, none⟩) 4 4] (M.new (.cells #[.int .i64 0, .int .i64 4096, .int .i64 0, .int .i64 0] 3))).bind fun r_1 => (asU 2 r_1.1).bind fun cs_2 => (asS (cs_2.getD 0 undef)).bind fun s_3 => (asI .i64 (cs_2.getD 1 undef)).bind fun x_4 => K #[g0,.slice s_3.1 (s_3.2.1) (s_3.2.2),.int .i64 x_4,g3,g4,g5,g6,g7,g8,.tuple #[.slice s_3.1 (s_3.2.1) (s_3.2.2), .int .i64 x_4],.slice (some ⟨2 * M.nb.size, 0, none⟩) 4 4,.tuple #[.slice s_3.1 (s_3.2.1) (s_3.2.2), .int .i64 x_4],.slice s_3.1 (s_3.2.1) (s_3.2.2),.int .i64 x_4,g14,g15,g16,g17,g18,g19,g20,g21,g22,g23,g24,g25,g26,g27,g28,g29,g30,g31,g32,g33,g34,g35,g36,g37,g38,g39,g40,g41,g42,g43,g44,g45,g46,g47,g48,g49,g50,g51,g52,g53,g54,g55,g56,g57,g58,g59,g60,g61,g62] r_1.2 := by kernel_rfl
theorem k11_4 : P11 [1,1] = .seq (P11 [1,1,0]) (P11 [1,1,1]) := by kernel_rfl
theorem k11_5 : P11 [1,1,0] = .region 2 (O11 [1,1,0]) false := by kernel_rfl
theorem r11_2 {M : Mem} {call : CallM} {K : Array Value → Mem → R} :
    opsK Try.prog (fun _ => call) (O11 [1,1,0]) (O11 [1,1,0]).toList 0 #[g0,g1,g2,g3,g4,g5,g6,g7,g8,g9,g10,g11,g12,g13,g14,g15,g16,g17,g18,g19,g20,g21,g22,g23,g24,g25,g26,g27,g28,g29,g30,g31,g32,g33,g34,g35,g36,g37,g38,g39,g40,g41,g42,g43,g44,g45,g46,g47,g48,g49,g50,g51,g52,g53,g54,g55,g56,g57,g58,g59,g60,g61,g62] M K = (call 14 #[.int .i64 1, .slice (some ⟨2 * M.nb.size, 0, none⟩) 4 4] (M.new (.cells #[.int .i64 4096, .int .i64 0, .int .i64 0, .int .i64 0] 3))).bind fun r_1 => (asU 2 r_1.1).bind fun cs_2 => (asS (cs_2.getD 0 undef)).bind fun s_3 => (asI .i64 (cs_2.getD 1 undef)).bind fun x_4 => K #[g0,g1,g2,.slice s_3.1 (s_3.2.1) (s_3.2.2),.int .i64 x_4,g5,g6,g7,g8,g9,g10,g11,g12,g13,.tuple #[.slice s_3.1 (s_3.2.1) (s_3.2.2), .int .i64 x_4],.slice (some ⟨2 * M.nb.size, 0, none⟩) 4 4,.tuple #[.slice s_3.1 (s_3.2.1) (s_3.2.2), .int .i64 x_4],.slice s_3.1 (s_3.2.1) (s_3.2.2),.int .i64 x_4,g19,g20,g21,g22,g23,g24,g25,g26,g27,g28,g29,g30,g31,g32,g33,g34,g35,g36,g37,g38,g39,g40,g41,g42,g43,g44,g45,g46,g47,g48,g49,g50,g51,g52,g53,g54,g55,g56,g57,g58,g59,g60,g61,g62] r_1.2 := by kernel_rfl
theorem k11_6 : P11 [1,1,1] = .seq (P11 [1,1,1,0]) (P11 [1,1,1,1]) := by kernel_rfl
theorem k11_7 : P11 [1,1,1,0] = .region 3 (O11 [1,1,1,0]) false := by kernel_rfl
theorem r11_3 {M : Mem} {call : CallM} {K : Array Value → Mem → R} :
    opsK Try.prog (fun _ => call) (O11 [1,1,1,0]) (O11 [1,1,1,0]).toList 0 #[g0,g1,g2,g3,g4,g5,g6,g7,g8,g9,g10,g11,g12,g13,g14,g15,g16,g17,g18,g19,g20,g21,g22,g23,g24,g25,g26,g27,g28,g29,g30,g31,g32,g33,g34,g35,g36,g37,g38,g39,g40,g41,g42,g43,g44,g45,g46,g47,g48,g49,g50,g51,g52,g53,g54,g55,g56,g57,g58,g59,g60,g61,g62] M K = (call 13 #[.int .i64 3, .slice (some ⟨2 * M.nb.size, 0, none⟩) 4 4] (M.new (.cells #[.int .i64 1, .int .i64 2, .int .i64 3, .int .i64 4] 3))).bind fun r_1 => (asU 2 r_1.1).bind fun cs_2 => (asS (cs_2.getD 0 undef)).bind fun s_3 => (asI .i64 (cs_2.getD 1 undef)).bind fun x_4 => K #[g0,g1,g2,g3,g4,.slice s_3.1 (s_3.2.1) (s_3.2.2),.int .i64 x_4,g7,g8,g9,g10,g11,g12,g13,g14,g15,g16,g17,g18,.tuple #[.slice s_3.1 (s_3.2.1) (s_3.2.2), .int .i64 x_4],.slice (some ⟨2 * M.nb.size, 0, none⟩) 4 4,.tuple #[.slice s_3.1 (s_3.2.1) (s_3.2.2), .int .i64 x_4],.slice s_3.1 (s_3.2.1) (s_3.2.2),.int .i64 x_4,g24,g25,g26,g27,g28,g29,g30,g31,g32,g33,g34,g35,g36,g37,g38,g39,g40,g41,g42,g43,g44,g45,g46,g47,g48,g49,g50,g51,g52,g53,g54,g55,g56,g57,g58,g59,g60,g61,g62] r_1.2 := by kernel_rfl
theorem k11_8 : P11 [1,1,1,1] = .seq (P11 [1,1,1,1,0]) (P11 [1,1,1,1,1]) := by kernel_rfl
theorem k11_9 : P11 [1,1,1,1,0] = .region 4 (O11 [1,1,1,1,0]) false := by kernel_rfl
theorem r11_4 {M : Mem} {call : CallM} {K : Array Value → Mem → R} :
    opsK Try.prog (fun _ => call) (O11 [1,1,1,1,0]) (O11 [1,1,1,1,0]).toList 0 #[g0,g1,g2,g3,g4,g5,g6,g7,g8,g9,g10,g11,g12,g13,g14,g15,g16,g17,g18,g19,g20,g21,g22,g23,g24,g25,g26,g27,g28,g29,g30,g31,g32,g33,g34,g35,g36,g37,g38,g39,g40,g41,g42,g43,g44,g45,g46,g47,g48,g49,g50,g51,g52,g53,g54,g55,g56,g57,g58,g59,g60,g61,g62] M K = (call 13 #[.int .i64 2, .slice (some ⟨2 * M.nb.size, 0, none⟩) 8 8] (M.new (.cells #[.int .i64 5, .int .i64 5, .int .i64 5, .int .i64 5, .int .i64 5, .int .i64 5, .int .i64 5, .int .i64 5] 3))).bind fun r_1 => (asU 2 r_1.1).bind fun cs_2 => (asS (cs_2.getD 0 undef)).bind fun s_3 => (asI .i64 (cs_2.getD 1 undef)).bind fun x_4 => K #[g0,g1,g2,g3,g4,g5,g6,.slice s_3.1 (s_3.2.1) (s_3.2.2),.int .i64 x_4,g9,g10,g11,g12,g13,g14,g15,g16,g17,g18,g19,g20,g21,g22,g23,.tuple #[.slice s_3.1 (s_3.2.1) (s_3.2.2), .int .i64 x_4],.slice (some ⟨2 * M.nb.size, 0, none⟩) 8 8,.tuple #[.slice s_3.1 (s_3.2.1) (s_3.2.2), .int .i64 x_4],.slice s_3.1 (s_3.2.1) (s_3.2.2),.int .i64 x_4,g29,g30,g31,g32,g33,g34,g35,g36,g37,g38,g39,g40,g41,g42,g43,g44,g45,g46,g47,g48,g49,g50,g51,g52,g53,g54,g55,g56,g57,g58,g59,g60,g61,g62] r_1.2 := by kernel_rfl
theorem k11_10 : P11 [1,1,1,1,1] = .seq (P11 [1,1,1,1,1,0]) (P11 [1,1,1,1,1,1]) := by kernel_rfl
theorem k11_11 : P11 [1,1,1,1,1,0] = .region 5 (O11 [1,1,1,1,1,0]) false := by kernel_rfl
theorem k11_12 : P11 [1,1,1,1,1,0] = .region 5 (O11 [1,1,1,1,1,0]) false ∧ (!false || drawOk (O11 [1,1,1,1,1,0])) = true := ⟨by kernel_rfl, by kernel_rfl⟩
theorem r11_5p0 {x2 x4 : Int} {M : Mem} {call : CallM} {K : Array Value → Mem → R} :
    segK Try.prog false call (O11 [1,1,1,1,1,0]) 0 7 #[g0,g1,.int .i64 x2,g3,.int .i64 x4,g5,g6,g7,g8,g9,g10,g11,g12,g13,g14,g15,g16,g17,g18,g19,g20,g21,g22,g23,g24,g25,g26,g27,g28,g29,g30,g31,g32,g33,g34,g35,g36,g37,g38,g39,g40,g41,g42,g43,g44,g45,g46,g47,g48,g49,g50,g51,g52,g53,g54,g55,g56,g57,g58,g59,g60,g61,g62] M K = withK (fun w31 w32 w33 w34 w35 M => K #[g0,g1,.int .i64 x2,g3,.int .i64 x4,g5,g6,g7,g8,g9,g10,g11,g12,g13,g14,g15,g16,g17,g18,g19,g20,g21,g22,g23,g24,g25,g26,g27,g28,.int .i64 x2,.bool (x2 == 0),w31,w32,w33,w34,w35,g36,g37,g38,g39,g40,g41,g42,g43,g44,g45,g46,g47,g48,g49,g50,g51,g52,g53,g54,g55,g56,g57,g58,g59,g60,g61,g62] M) fun k => cond (x2 == 0) (k (.bool true) (.int .i64 x4) (.bool (x4 == 0)) (.bool (x4 == 0)) (.bool (x4 == 0)) M) (k (.bool false) undef undef (.bool false) (.bool false) M) := by kernel_rfl
theorem r11_5p7 {x6 : Int} {x35 : Bool} {M : Mem} {call : CallM} {K : Array Value → Mem → R} :
    segK Try.prog false call (O11 [1,1,1,1,1,0]) 7 4 #[g0,g1,g2,g3,g4,g5,.int .i64 x6,g7,g8,g9,g10,g11,g12,g13,g14,g15,g16,g17,g18,g19,g20,g21,g22,g23,g24,g25,g26,g27,g28,g29,g30,g31,g32,g33,g34,.bool x35,g36,g37,g38,g39,g40,g41,g42,g43,g44,g45,g46,g47,g48,g49,g50,g51,g52,g53,g54,g55,g56,g57,g58,g59,g60,g61,g62] M K = withK (fun w35 w36 w37 w38 w39 M => K #[g0,g1,g2,g3,g4,g5,.int .i64 x6,g7,g8,g9,g10,g11,g12,g13,g14,g15,g16,g17,g18,g19,g20,g21,g22,g23,g24,g25,g26,g27,g28,g29,g30,g31,g32,g33,g34,w35,w36,w37,w38,w39,g40,g41,g42,g43,g44,g45,g46,g47,g48,g49,g50,g51,g52,g53,g54,g55,g56,g57,g58,g59,g60,g61,g62] M) fun k => cond x35 (k (.bool true) (.int .i64 x6) (.bool (x6 == 0)) (.bool (x6 == 0)) (.bool (x6 == 0)) M) (k (.bool false) undef undef (.bool false) (.bool false) M) := by kernel_rfl
theorem r11_5p11 {x8 : Int} {x39 : Bool} {M : Mem} {call : CallM} {K : Array Value → Mem → R} :
    segK Try.prog false call (O11 [1,1,1,1,1,0]) 11 4 #[g0,g1,g2,g3,g4,g5,g6,g7,.int .i64 x8,g9,g10,g11,g12,g13,g14,g15,g16,g17,g18,g19,g20,g21,g22,g23,g24,g25,g26,g27,g28,g29,g30,g31,g32,g33,g34,g35,g36,g37,g38,.bool x39,g40,g41,g42,g43,g44,g45,g46,g47,g48,g49,g50,g51,g52,g53,g54,g55,g56,g57,g58,g59,g60,g61,g62] M K = withK (fun w39 w40 w41 w42 w43 M => K #[g0,g1,g2,g3,g4,g5,g6,g7,.int .i64 x8,g9,g10,g11,g12,g13,g14,g15,g16,g17,g18,g19,g20,g21,g22,g23,g24,g25,g26,g27,g28,g29,g30,g31,g32,g33,g34,g35,g36,g37,g38,w39,w40,w41,w42,w43,g44,g45,g46,g47,g48,g49,g50,g51,g52,g53,g54,g55,g56,g57,g58,g59,g60,g61,g62] M) fun k => cond x39 (k (.bool true) (.int .i64 x8) (.bool (x8 == 0)) (.bool (x8 == 0)) (.bool (x8 == 0)) M) (k (.bool false) undef undef (.bool false) (.bool false) M) := by kernel_rfl
theorem r11_5p15 {Ax1 : Option Addr} {lx1 cx1 : Nat} {x43 : Bool} {M : Mem} {call : CallM} {K : Array Value → Mem → R} :
    segK Try.prog false call (O11 [1,1,1,1,1,0]) 15 5 #[g0,.slice Ax1 lx1 cx1,g2,g3,g4,g5,g6,g7,g8,g9,g10,g11,g12,g13,g14,g15,g16,g17,g18,g19,g20,g21,g22,g23,g24,g25,g26,g27,g28,g29,g30,g31,g32,g33,g34,g35,g36,g37,g38,g39,g40,g41,g42,.bool x43,g44,g45,g46,g47,g48,g49,g50,g51,g52,g53,g54,g55,g56,g57,g58,g59,g60,g61,g62] M K = withK (fun w43 w44 w45 w46 w47 w48 M => K #[g0,.slice Ax1 lx1 cx1,g2,g3,g4,g5,g6,g7,g8,g9,g10,g11,g12,g13,g14,g15,g16,g17,g18,g19,g20,g21,g22,g23,g24,g25,g26,g27,g28,g29,g30,g31,g32,g33,g34,g35,g36,g37,g38,g39,g40,g41,g42,w43,w44,w45,w46,w47,w48,g49,g50,g51,g52,g53,g54,g55,g56,g57,g58,g59,g60,g61,g62] M) fun k => cond x43 ((call 15 #[.slice Ax1 lx1 cx1, .slice (some ⟨2 * M.nb.size, 0, none⟩) 4 4] (M.new (.cells #[.int .i64 3784, .int .i64 1567, .int .i64 (-1567), .int .i64 (-3784)] 3))).bind fun r_1 => (asB r_1.1).bind fun b_2 => k (.bool true) (.slice Ax1 lx1 cx1) (.slice (some ⟨2 * M.nb.size, 0, none⟩) 4 4) (.bool b_2) (.bool b_2) (.bool b_2) r_1.2) (k (.bool false) undef undef undef (.bool false) (.bool false) M) := by kernel_rfl
theorem r11_5p20 {Ax3 : Option Addr} {lx3 cx3 : Nat} {x48 : Bool} {M : Mem} {call : CallM} {K : Array Value → Mem → R} :
    segK Try.prog false call (O11 [1,1,1,1,1,0]) 20 5 #[g0,g1,g2,.slice Ax3 lx3 cx3,g4,g5,g6,g7,g8,g9,g10,g11,g12,g13,g14,g15,g16,g17,g18,g19,g20,g21,g22,g23,g24,g25,g26,g27,g28,g29,g30,g31,g32,g33,g34,g35,g36,g37,g38,g39,g40,g41,g42,g43,g44,g45,g46,g47,.bool x48,g49,g50,g51,g52,g53,g54,g55,g56,g57,g58,g59,g60,g61,g62] M K = withK (fun w48 w49 w50 w51 w52 w53 M => K #[g0,g1,g2,.slice Ax3 lx3 cx3,g4,g5,g6,g7,g8,g9,g10,g11,g12,g13,g14,g15,g16,g17,g18,g19,g20,g21,g22,g23,g24,g25,g26,g27,g28,g29,g30,g31,g32,g33,g34,g35,g36,g37,g38,g39,g40,g41,g42,g43,g44,g45,g46,g47,w48,w49,w50,w51,w52,w53,g54,g55,g56,g57,g58,g59,g60,g61,g62] M) fun k => cond x48 ((call 15 #[.slice Ax3 lx3 cx3, .slice (some ⟨2 * M.nb.size, 0, none⟩) 4 4] (M.new (.cells #[.int .i64 799, .int .i64 2276, .int .i64 3406, .int .i64 4017] 3))).bind fun r_1 => (asB r_1.1).bind fun b_2 => k (.bool true) (.slice Ax3 lx3 cx3) (.slice (some ⟨2 * M.nb.size, 0, none⟩) 4 4) (.bool b_2) (.bool b_2) (.bool b_2) r_1.2) (k (.bool false) undef undef undef (.bool false) (.bool false) M) := by kernel_rfl
theorem r11_5p25 {Ax5 : Option Addr} {lx5 cx5 : Nat} {x53 : Bool} {M : Mem} {call : CallM} {K : Array Value → Mem → R} :
    segK Try.prog false call (O11 [1,1,1,1,1,0]) 25 5 #[g0,g1,g2,g3,g4,.slice Ax5 lx5 cx5,g6,g7,g8,g9,g10,g11,g12,g13,g14,g15,g16,g17,g18,g19,g20,g21,g22,g23,g24,g25,g26,g27,g28,g29,g30,g31,g32,g33,g34,g35,g36,g37,g38,g39,g40,g41,g42,g43,g44,g45,g46,g47,g48,g49,g50,g51,g52,.bool x53,g54,g55,g56,g57,g58,g59,g60,g61,g62] M K = withK (fun w53 w54 w55 w56 w57 w58 M => K #[g0,g1,g2,g3,g4,.slice Ax5 lx5 cx5,g6,g7,g8,g9,g10,g11,g12,g13,g14,g15,g16,g17,g18,g19,g20,g21,g22,g23,g24,g25,g26,g27,g28,g29,g30,g31,g32,g33,g34,g35,g36,g37,g38,g39,g40,g41,g42,g43,g44,g45,g46,g47,g48,g49,g50,g51,g52,w53,w54,w55,w56,w57,w58,g59,g60,g61,g62] M) fun k => cond x53 ((call 15 #[.slice Ax5 lx5 cx5, .slice (some ⟨2 * M.nb.size, 0, none⟩) 4 4] (M.new (.cells #[.int .i64 5, .int .i64 (-2), .int .i64 0, .int .i64 (-1)] 3))).bind fun r_1 => (asB r_1.1).bind fun b_2 => k (.bool true) (.slice Ax5 lx5 cx5) (.slice (some ⟨2 * M.nb.size, 0, none⟩) 4 4) (.bool b_2) (.bool b_2) (.bool b_2) r_1.2) (k (.bool false) undef undef undef (.bool false) (.bool false) M) := by kernel_rfl
theorem r11_5p30 {Ax7 : Option Addr} {lx7 cx7 : Nat} {x58 : Bool} {M : Mem} {call : CallM} {K : Array Value → Mem → R} :
    segK Try.prog false call (O11 [1,1,1,1,1,0]) 30 5 #[g0,g1,g2,g3,g4,g5,g6,.slice Ax7 lx7 cx7,g8,g9,g10,g11,g12,g13,g14,g15,g16,g17,g18,g19,g20,g21,g22,g23,g24,g25,g26,g27,g28,g29,g30,g31,g32,g33,g34,g35,g36,g37,g38,g39,g40,g41,g42,g43,g44,g45,g46,g47,g48,g49,g50,g51,g52,g53,g54,g55,g56,g57,.bool x58,g59,g60,g61,g62] M K = withK (fun w0 w58 w59 w60 w61 w62 M => K #[w0,g1,g2,g3,g4,g5,g6,.slice Ax7 lx7 cx7,g8,g9,g10,g11,g12,g13,g14,g15,g16,g17,g18,g19,g20,g21,g22,g23,g24,g25,g26,g27,g28,g29,g30,g31,g32,g33,g34,g35,g36,g37,g38,g39,g40,g41,g42,g43,g44,g45,g46,g47,g48,g49,g50,g51,g52,g53,g54,g55,g56,g57,w58,w59,w60,w61,w62] M) fun k => cond x58 ((call 15 #[.slice Ax7 lx7 cx7, .slice (some ⟨2 * M.nb.size, 0, none⟩) 8 8] (M.new (.cells #[.int .i64 10, .int .i64 10, .int .i64 10, .int .i64 10, .int .i64 10, .int .i64 10, .int .i64 10, .int .i64 10] 3))).bind fun r_1 => (asB r_1.1).bind fun b_2 => k (.bool b_2) (.bool true) (.slice Ax7 lx7 cx7) (.slice (some ⟨2 * M.nb.size, 0, none⟩) 8 8) (.bool b_2) (.bool b_2) r_1.2) (k (.bool false) (.bool false) undef undef undef (.bool false) M) := by kernel_rfl
theorem k11_13 : P11 [1,1,1,1,1,1] = .ret := by kernel_rfl
theorem e11 {M : Mem} : finish Try.prog Try.f11 #[g0,g1,g2,g3,g4,g5,g6,g7,g8,g9,g10,g11,g12,g13,g14,g15,g16,g17,g18,g19,g20,g21,g22,g23,g24,g25,g26,g27,g28,g29,g30,g31,g32,g33,g34,g35,g36,g37,g38,g39,g40,g41,g42,g43,g44,g45,g46,g47,g48,g49,g50,g51,g52,g53,g54,g55,g56,g57,g58,g59,g60,g61,g62] M = some (g0, M) := by kernel_rfl
noncomputable def S11_1 : List Item := [.code (P11 [1,1,1,1,1,1])]
def A11_1 (Ax1 : Option Addr) (lx1 cx1 : Nat) (Ax3 : Option Addr) (lx3 cx3 : Nat) (Ax5 : Option Addr) (lx5 cx5 : Nat) (x6 : Int) (Ax7 : Option Addr) (lx7 cx7 : Nat) (x8 : Int) (x35 : Bool) (M : Mem) (Q : Value → Mem → Prop) : Prop := ∀ (g0 g2 g4 g9 g10 g11 g12 g13 g14 g15 g16 g17 g18 g19 g20 g21 g22 g23 g24 g25 g26 g27 g28 g29 g30 g31 g32 g33 g34 g36 g37 g38 g39 g40 g41 g42 g43 g44 g45 g46 g47 g48 g49 g50 g51 g52 g53 g54 g55 g56 g57 g58 g59 g60 g61 g62 : Value), Rg Try.prog Try.f11 (O11 [1,1,1,1,1,0]) false 7 S11_1 #[g0, .slice Ax1 lx1 cx1, g2, .slice Ax3 lx3 cx3, g4, .slice Ax5 lx5 cx5, .int .i64 x6, .slice Ax7 lx7 cx7, .int .i64 x8, g9, g10, g11, g12, g13, g14, g15, g16, g17, g18, g19, g20, g21, g22, g23, g24, g25, g26, g27, g28, g29, g30, g31, g32, g33, g34, .bool x35, g36, g37, g38, g39, g40, g41, g42, g43, g44, g45, g46, g47, g48, g49, g50, g51, g52, g53, g54, g55, g56, g57, g58, g59, g60, g61, g62] M Q
noncomputable def S11_2 : List Item := [.code (P11 [1,1,1,1,1,1])]
def A11_2 (Ax1 : Option Addr) (lx1 cx1 : Nat) (Ax3 : Option Addr) (lx3 cx3 : Nat) (Ax5 : Option Addr) (lx5 cx5 : Nat) (Ax7 : Option Addr) (lx7 cx7 : Nat) (x8 : Int) (x39 : Bool) (M : Mem) (Q : Value → Mem → Prop) : Prop := ∀ (g0 g2 g4 g6 g9 g10 g11 g12 g13 g14 g15 g16 g17 g18 g19 g20 g21 g22 g23 g24 g25 g26 g27 g28 g29 g30 g31 g32 g33 g34 g35 g36 g37 g38 g40 g41 g42 g43 g44 g45 g46 g47 g48 g49 g50 g51 g52 g53 g54 g55 g56 g57 g58 g59 g60 g61 g62 : Value), Rg Try.prog Try.f11 (O11 [1,1,1,1,1,0]) false 11 S11_2 #[g0, .slice Ax1 lx1 cx1, g2, .slice Ax3 lx3 cx3, g4, .slice Ax5 lx5 cx5, g6, .slice Ax7 lx7 cx7, .int .i64 x8, g9, g10, g11, g12, g13, g14, g15, g16, g17, g18, g19, g20, g21, g22, g23, g24, g25, g26, g27, g28, g29, g30, g31, g32, g33, g34, g35, g36, g37, g38, .bool x39, g40, g41, g42, g43, g44, g45, g46, g47, g48, g49, g50, g51, g52, g53, g54, g55, g56, g57, g58, g59, g60, g61, g62] M Q
noncomputable def S11_3 : List Item := [.code (P11 [1,1,1,1,1,1])]
def A11_3 (Ax1 : Option Addr) (lx1 cx1 : Nat) (Ax3 : Option Addr) (lx3 cx3 : Nat) (Ax5 : Option Addr) (lx5 cx5 : Nat) (Ax7 : Option Addr) (lx7 cx7 : Nat) (x43 : Bool) (M : Mem) (Q : Value → Mem → Prop) : Prop := ∀ (g0 g2 g4 g6 g8 g9 g10 g11 g12 g13 g14 g15 g16 g17 g18 g19 g20 g21 g22 g23 g24 g25 g26 g27 g28 g29 g30 g31 g32 g33 g34 g35 g36 g37 g38 g39 g40 g41 g42 g44 g45 g46 g47 g48 g49 g50 g51 g52 g53 g54 g55 g56 g57 g58 g59 g60 g61 g62 : Value), Rg Try.prog Try.f11 (O11 [1,1,1,1,1,0]) false 15 S11_3 #[g0, .slice Ax1 lx1 cx1, g2, .slice Ax3 lx3 cx3, g4, .slice Ax5 lx5 cx5, g6, .slice Ax7 lx7 cx7, g8, g9, g10, g11, g12, g13, g14, g15, g16, g17, g18, g19, g20, g21, g22, g23, g24, g25, g26, g27, g28, g29, g30, g31, g32, g33, g34, g35, g36, g37, g38, g39, g40, g41, g42, .bool x43, g44, g45, g46, g47, g48, g49, g50, g51, g52, g53, g54, g55, g56, g57, g58, g59, g60, g61, g62] M Q
noncomputable def S11_4 : List Item := [.code (P11 [1,1,1,1,1,1])]
def A11_4 (Ax3 : Option Addr) (lx3 cx3 : Nat) (Ax5 : Option Addr) (lx5 cx5 : Nat) (Ax7 : Option Addr) (lx7 cx7 : Nat) (x48 : Bool) (M : Mem) (Q : Value → Mem → Prop) : Prop := ∀ (g0 g1 g2 g4 g6 g8 g9 g10 g11 g12 g13 g14 g15 g16 g17 g18 g19 g20 g21 g22 g23 g24 g25 g26 g27 g28 g29 g30 g31 g32 g33 g34 g35 g36 g37 g38 g39 g40 g41 g42 g43 g44 g45 g46 g47 g49 g50 g51 g52 g53 g54 g55 g56 g57 g58 g59 g60 g61 g62 : Value), Rg Try.prog Try.f11 (O11 [1,1,1,1,1,0]) false 20 S11_4 #[g0, g1, g2, .slice Ax3 lx3 cx3, g4, .slice Ax5 lx5 cx5, g6, .slice Ax7 lx7 cx7, g8, g9, g10, g11, g12, g13, g14, g15, g16, g17, g18, g19, g20, g21, g22, g23, g24, g25, g26, g27, g28, g29, g30, g31, g32, g33, g34, g35, g36, g37, g38, g39, g40, g41, g42, g43, g44, g45, g46, g47, .bool x48, g49, g50, g51, g52, g53, g54, g55, g56, g57, g58, g59, g60, g61, g62] M Q
noncomputable def S11_5 : List Item := [.code (P11 [1,1,1,1,1,1])]
def A11_5 (Ax5 : Option Addr) (lx5 cx5 : Nat) (Ax7 : Option Addr) (lx7 cx7 : Nat) (x53 : Bool) (M : Mem) (Q : Value → Mem → Prop) : Prop := ∀ (g0 g1 g2 g3 g4 g6 g8 g9 g10 g11 g12 g13 g14 g15 g16 g17 g18 g19 g20 g21 g22 g23 g24 g25 g26 g27 g28 g29 g30 g31 g32 g33 g34 g35 g36 g37 g38 g39 g40 g41 g42 g43 g44 g45 g46 g47 g48 g49 g50 g51 g52 g54 g55 g56 g57 g58 g59 g60 g61 g62 : Value), Rg Try.prog Try.f11 (O11 [1,1,1,1,1,0]) false 25 S11_5 #[g0, g1, g2, g3, g4, .slice Ax5 lx5 cx5, g6, .slice Ax7 lx7 cx7, g8, g9, g10, g11, g12, g13, g14, g15, g16, g17, g18, g19, g20, g21, g22, g23, g24, g25, g26, g27, g28, g29, g30, g31, g32, g33, g34, g35, g36, g37, g38, g39, g40, g41, g42, g43, g44, g45, g46, g47, g48, g49, g50, g51, g52, .bool x53, g54, g55, g56, g57, g58, g59, g60, g61, g62] M Q
noncomputable def S11_6 : List Item := [.code (P11 [1,1,1,1,1,1])]
def A11_6 (Ax7 : Option Addr) (lx7 cx7 : Nat) (x58 : Bool) (M : Mem) (Q : Value → Mem → Prop) : Prop := ∀ (g0 g1 g2 g3 g4 g5 g6 g8 g9 g10 g11 g12 g13 g14 g15 g16 g17 g18 g19 g20 g21 g22 g23 g24 g25 g26 g27 g28 g29 g30 g31 g32 g33 g34 g35 g36 g37 g38 g39 g40 g41 g42 g43 g44 g45 g46 g47 g48 g49 g50 g51 g52 g53 g54 g55 g56 g57 g59 g60 g61 g62 : Value), Rg Try.prog Try.f11 (O11 [1,1,1,1,1,0]) false 30 S11_6 #[g0, g1, g2, g3, g4, g5, g6, .slice Ax7 lx7 cx7, g8, g9, g10, g11, g12, g13, g14, g15, g16, g17, g18, g19, g20, g21, g22, g23, g24, g25, g26, g27, g28, g29, g30, g31, g32, g33, g34, g35, g36, g37, g38, g39, g40, g41, g42, g43, g44, g45, g46, g47, g48, g49, g50, g51, g52, g53, g54, g55, g56, g57, .bool x58, g59, g60, g61, g62] M Q
theorem w11_0 {M : Mem} {Q : Value → Mem → Prop} (H :
    Cn Try.prog 14 #[.int .i64 0, .slice (some ⟨2 * M.nb.size, 0, none⟩) 4 4] (M.new (.cells #[.int .i64 0, .int .i64 4096, .int .i64 0, .int .i64 0] 3)) fun v1' N1' =>
     ∃ cs2', asU 2 v1' = some cs2' ∧
     ∃ s3', asS (cs2'.getD 0 undef) = some s3' ∧
     ∃ x4', asI .i64 (cs2'.getD 1 undef) = some x4' ∧
     Cn Try.prog 14 #[.int .i64 1, .slice (some ⟨2 * N1'.nb.size, 0, none⟩) 4 4] (N1'.new (.cells #[.int .i64 4096, .int .i64 0, .int .i64 0, .int .i64 0] 3)) fun v5' N5' =>
      ∃ cs6', asU 2 v5' = some cs6' ∧
      ∃ s7', asS (cs6'.getD 0 undef) = some s7' ∧
      ∃ x8', asI .i64 (cs6'.getD 1 undef) = some x8' ∧
      Cn Try.prog 13 #[.int .i64 3, .slice (some ⟨2 * N5'.nb.size, 0, none⟩) 4 4] (N5'.new (.cells #[.int .i64 1, .int .i64 2, .int .i64 3, .int .i64 4] 3)) fun v9' N9' =>
       ∃ cs10', asU 2 v9' = some cs10' ∧
       ∃ s11', asS (cs10'.getD 0 undef) = some s11' ∧
       ∃ x12', asI .i64 (cs10'.getD 1 undef) = some x12' ∧
       Cn Try.prog 13 #[.int .i64 2, .slice (some ⟨2 * N9'.nb.size, 0, none⟩) 8 8] (N9'.new (.cells #[.int .i64 5, .int .i64 5, .int .i64 5, .int .i64 5, .int .i64 5, .int .i64 5, .int .i64 5, .int .i64 5] 3)) fun v13' N13' =>
        ∃ cs14', asU 2 v13' = some cs14' ∧
        ∃ s15', asS (cs14'.getD 0 undef) = some s15' ∧
        ∃ x16', asI .i64 (cs14'.getD 1 undef) = some x16' ∧
        ((x4' = 0 →
         A11_1 s3'.1 s3'.2.1 s3'.2.2 s7'.1 s7'.2.1 s7'.2.2 s11'.1 s11'.2.1 s11'.2.2 x12' s15'.1 s15'.2.1 s15'.2.2 x16' (x8' == 0) N13' Q) ∧
         (x4' ≠ 0 →
         A11_1 s3'.1 s3'.2.1 s3'.2.2 s7'.1 s7'.2.1 s7'.2.2 s11'.1 s11'.2.1 s11'.2.2 x12' s15'.1 s15'.2.1 s15'.2.2 x16' false N13' Q))) :
    Cn Try.prog 11 #[] M Q := by
  refine Cn.of b11 d11 t11 ?_
  refine Rn.seq k11_0 (Rn.region k11_1 (fun call K => r11_0) (Rch.leaf (Rn.seq k11_2 (Rn.region k11_3 (fun call K => r11_1) (Rch.call H fun v1' N1' H => Rch.ex H fun cs2' H => Rch.ex H fun s3' H => Rch.ex H fun x4' H => Rch.leaf (Rn.seq k11_4 (Rn.region k11_5 (fun call K => r11_2) ?_)))))))
  refine Rch.call H fun v5' N5' H => Rch.ex H fun cs6' H => Rch.ex H fun s7' H => Rch.ex H fun x8' H => Rch.leaf (Rn.seq k11_6 (Rn.region k11_7 (fun call K => r11_3) (Rch.call H fun v9' N9' H => Rch.ex H fun cs10' H => Rch.ex H fun s11' H => Rch.ex H fun x12' H => Rch.leaf ?_)))
  refine Rn.seq k11_8 (Rn.region k11_9 (fun call K => r11_4) (Rch.call H fun v13' N13' H => Rch.ex H fun cs14' H => Rch.ex H fun s15' H => Rch.ex H fun x16' H => Rch.leaf (Rn.seq k11_10 (Rn.regionC k11_12 (Rg.step (d := 7) (j := 7) (fun call K => r11_5p0) rfl rfl ?_)))))
  refine Rch.cB (fun h => ?_) (fun h => ?_)
  · replace H := H.1 (eq_of_beq h)
    refine Rch.rest ?_
    exact H _ _ _ _ _ _ _ _ _ _ _ _ _ _ _ _ _ _ _ _ _ _ _ _ _ _ _ _ _ _ _ _ _ _ _ _ _ _ _ _ _ _ _ _ _ _ _ _ _ _ _ _ _ _ _ _
  · replace H := H.2 (ne_of_beq_false h)
    refine Rch.rest ?_
    exact H _ _ _ _ _ _ _ _ _ _ _ _ _ _ _ _ _ _ _ _ _ _ _ _ _ _ _ _ _ _ _ _ _ _ _ _ _ _ _ _ _ _ _ _ _ _ _ _ _ _ _ _ _ _ _ _

theorem w11_1 {Ax1 : Option Addr} {lx1 cx1 : Nat} {Ax3 : Option Addr} {lx3 cx3 : Nat} {Ax5 : Option Addr} {lx5 cx5 : Nat} {x6 : Int} {Ax7 : Option Addr} {lx7 cx7 : Nat} {x8 : Int} {x35 : Bool} {M : Mem} {Q : Value → Mem → Prop} (H :
    ((x35 = true →
     A11_2 Ax1 lx1 cx1 Ax3 lx3 cx3 Ax5 lx5 cx5 Ax7 lx7 cx7 x8 (x6 == 0) M Q) ∧
     (x35 = false →
     A11_2 Ax1 lx1 cx1 Ax3 lx3 cx3 Ax5 lx5 cx5 Ax7 lx7 cx7 x8 false M Q))) :
    A11_1 Ax1 lx1 cx1 Ax3 lx3 cx3 Ax5 lx5 cx5 x6 Ax7 lx7 cx7 x8 x35 M Q := by
  intro g0 g2 g4 g9 g10 g11 g12 g13 g14 g15 g16 g17 g18 g19 g20 g21 g22 g23 g24 g25 g26 g27 g28 g29 g30 g31 g32 g33 g34 g36 g37 g38 g39 g40 g41 g42 g43 g44 g45 g46 g47 g48 g49 g50 g51 g52 g53 g54 g55 g56 g57 g58 g59 g60 g61 g62
  refine Rg.step (d := 4) (j := 11) (fun call K => r11_5p7) rfl rfl ?_
  refine Rch.cB (fun h => ?_) (fun h => ?_)
  · replace H := H.1 (h)
    refine Rch.rest ?_
    exact H _ _ _ _ _ _ _ _ _ _ _ _ _ _ _ _ _ _ _ _ _ _ _ _ _ _ _ _ _ _ _ _ _ _ _ _ _ _ _ _ _ _ _ _ _ _ _ _ _ _ _ _ _ _ _ _ _
  · replace H := H.2 (h)
    refine Rch.rest ?_
    exact H _ _ _ _ _ _ _ _ _ _ _ _ _ _ _ _ _ _ _ _ _ _ _ _ _ _ _ _ _ _ _ _ _ _ _ _ _ _ _ _ _ _ _ _ _ _ _ _ _ _ _ _ _ _ _ _ _

theorem w11_2 {Ax1 : Option Addr} {lx1 cx1 : Nat} {Ax3 : Option Addr} {lx3 cx3 : Nat} {Ax5 : Option Addr} {lx5 cx5 : Nat} {Ax7 : Option Addr} {lx7 cx7 : Nat} {x8 : Int} {x39 : Bool} {M : Mem} {Q : Value → Mem → Prop} (H :
    ((x39 = true →
     A11_3 Ax1 lx1 cx1 Ax3 lx3 cx3 Ax5 lx5 cx5 Ax7 lx7 cx7 (x8 == 0) M Q) ∧
     (x39 = false →
     A11_3 Ax1 lx1 cx1 Ax3 lx3 cx3 Ax5 lx5 cx5 Ax7 lx7 cx7 false M Q))) :
    A11_2 Ax1 lx1 cx1 Ax3 lx3 cx3 Ax5 lx5 cx5 Ax7 lx7 cx7 x8 x39 M Q := by
  intro g0 g2 g4 g6 g9 g10 g11 g12 g13 g14 g15 g16 g17 g18 g19 g20 g21 g22 g23 g24 g25 g26 g27 g28 g29 g30 g31 g32 g33 g34 g35 g36 g37 g38 g40 g41 g42 g43 g44 g45 g46 g47 g48 g49 g50 g51 g52 g53 g54 g55 g56 g57 g58 g59 g60 g61 g62
  refine Rg.step (d := 4) (j := 15) (fun call K => r11_5p11) rfl rfl ?_
  refine Rch.cB (fun h => ?_) (fun h => ?_)
  · replace H := H.1 (h)
    refine Rch.rest ?_
    exact H _ _ _ _ _ _ _ _ _ _ _ _ _ _ _ _ _ _ _ _ _ _ _ _ _ _ _ _ _ _ _ _ _ _ _ _ _ _ _ _ _ _ _ _ _ _ _ _ _ _ _ _ _ _ _ _ _ _
  · replace H := H.2 (h)
    refine Rch.rest ?_
    exact H _ _ _ _ _ _ _ _ _ _ _ _ _ _ _ _ _ _ _ _ _ _ _ _ _ _ _ _ _ _ _ _ _ _ _ _ _ _ _ _ _ _ _ _ _ _ _ _ _ _ _ _ _ _ _ _ _ _

theorem w11_3 {Ax1 : Option Addr} {lx1 cx1 : Nat} {Ax3 : Option Addr} {lx3 cx3 : Nat} {Ax5 : Option Addr} {lx5 cx5 : Nat} {Ax7 : Option Addr} {lx7 cx7 : Nat} {x43 : Bool} {M : Mem} {Q : Value → Mem → Prop} (H :
    ((x43 = true →
     Cn Try.prog 15 #[.slice Ax1 lx1 cx1, .slice (some ⟨2 * M.nb.size, 0, none⟩) 4 4] (M.new (.cells #[.int .i64 3784, .int .i64 1567, .int .i64 (-1567), .int .i64 (-3784)] 3)) fun v17' N17' =>
      ∃ b18', asB v17' = some b18' ∧
      A11_4 Ax3 lx3 cx3 Ax5 lx5 cx5 Ax7 lx7 cx7 b18' N17' Q) ∧
     (x43 = false →
     A11_4 Ax3 lx3 cx3 Ax5 lx5 cx5 Ax7 lx7 cx7 false M Q))) :
    A11_3 Ax1 lx1 cx1 Ax3 lx3 cx3 Ax5 lx5 cx5 Ax7 lx7 cx7 x43 M Q := by
  intro g0 g2 g4 g6 g8 g9 g10 g11 g12 g13 g14 g15 g16 g17 g18 g19 g20 g21 g22 g23 g24 g25 g26 g27 g28 g29 g30 g31 g32 g33 g34 g35 g36 g37 g38 g39 g40 g41 g42 g44 g45 g46 g47 g48 g49 g50 g51 g52 g53 g54 g55 g56 g57 g58 g59 g60 g61 g62
  refine Rg.step (d := 5) (j := 20) (fun call K => r11_5p15) rfl rfl ?_
  refine Rch.cB (fun h => ?_) (fun h => ?_)
  · replace H := H.1 (h)
    refine Rch.call H fun v17' N17' H => Rch.ex H fun b18' H => Rch.rest ?_
    exact H _ _ _ _ _ _ _ _ _ _ _ _ _ _ _ _ _ _ _ _ _ _ _ _ _ _ _ _ _ _ _ _ _ _ _ _ _ _ _ _ _ _ _ _ _ _ _ _ _ _ _ _ _ _ _ _ _ _ _
  · replace H := H.2 (h)
    refine Rch.rest ?_
    exact H _ _ _ _ _ _ _ _ _ _ _ _ _ _ _ _ _ _ _ _ _ _ _ _ _ _ _ _ _ _ _ _ _ _ _ _ _ _ _ _ _ _ _ _ _ _ _ _ _ _ _ _ _ _ _ _ _ _ _

theorem w11_4 {Ax3 : Option Addr} {lx3 cx3 : Nat} {Ax5 : Option Addr} {lx5 cx5 : Nat} {Ax7 : Option Addr} {lx7 cx7 : Nat} {x48 : Bool} {M : Mem} {Q : Value → Mem → Prop} (H :
    ((x48 = true →
     Cn Try.prog 15 #[.slice Ax3 lx3 cx3, .slice (some ⟨2 * M.nb.size, 0, none⟩) 4 4] (M.new (.cells #[.int .i64 799, .int .i64 2276, .int .i64 3406, .int .i64 4017] 3)) fun v19' N19' =>
      ∃ b20', asB v19' = some b20' ∧
      A11_5 Ax5 lx5 cx5 Ax7 lx7 cx7 b20' N19' Q) ∧
     (x48 = false →
     A11_5 Ax5 lx5 cx5 Ax7 lx7 cx7 false M Q))) :
    A11_4 Ax3 lx3 cx3 Ax5 lx5 cx5 Ax7 lx7 cx7 x48 M Q := by
  intro g0 g1 g2 g4 g6 g8 g9 g10 g11 g12 g13 g14 g15 g16 g17 g18 g19 g20 g21 g22 g23 g24 g25 g26 g27 g28 g29 g30 g31 g32 g33 g34 g35 g36 g37 g38 g39 g40 g41 g42 g43 g44 g45 g46 g47 g49 g50 g51 g52 g53 g54 g55 g56 g57 g58 g59 g60 g61 g62
  refine Rg.step (d := 5) (j := 25) (fun call K => r11_5p20) rfl rfl ?_
  refine Rch.cB (fun h => ?_) (fun h => ?_)
  · replace H := H.1 (h)
    refine Rch.call H fun v19' N19' H => Rch.ex H fun b20' H => Rch.rest ?_
    exact H _ _ _ _ _ _ _ _ _ _ _ _ _ _ _ _ _ _ _ _ _ _ _ _ _ _ _ _ _ _ _ _ _ _ _ _ _ _ _ _ _ _ _ _ _ _ _ _ _ _ _ _ _ _ _ _ _ _ _ _
  · replace H := H.2 (h)
    refine Rch.rest ?_
    exact H _ _ _ _ _ _ _ _ _ _ _ _ _ _ _ _ _ _ _ _ _ _ _ _ _ _ _ _ _ _ _ _ _ _ _ _ _ _ _ _ _ _ _ _ _ _ _ _ _ _ _ _ _ _ _ _ _ _ _ _

theorem w11_5 {Ax5 : Option Addr} {lx5 cx5 : Nat} {Ax7 : Option Addr} {lx7 cx7 : Nat} {x53 : Bool} {M : Mem} {Q : Value → Mem → Prop} (H :
    ((x53 = true →
     Cn Try.prog 15 #[.slice Ax5 lx5 cx5, .slice (some ⟨2 * M.nb.size, 0, none⟩) 4 4] (M.new (.cells #[.int .i64 5, .int .i64 (-2), .int .i64 0, .int .i64 (-1)] 3)) fun v21' N21' =>
      ∃ b22', asB v21' = some b22' ∧
      A11_6 Ax7 lx7 cx7 b22' N21' Q) ∧
     (x53 = false →
     A11_6 Ax7 lx7 cx7 false M Q))) :
    A11_5 Ax5 lx5 cx5 Ax7 lx7 cx7 x53 M Q := by
  intro g0 g1 g2 g3 g4 g6 g8 g9 g10 g11 g12 g13 g14 g15 g16 g17 g18 g19 g20 g21 g22 g23 g24 g25 g26 g27 g28 g29 g30 g31 g32 g33 g34 g35 g36 g37 g38 g39 g40 g41 g42 g43 g44 g45 g46 g47 g48 g49 g50 g51 g52 g54 g55 g56 g57 g58 g59 g60 g61 g62
  refine Rg.step (d := 5) (j := 30) (fun call K => r11_5p25) rfl rfl ?_
  refine Rch.cB (fun h => ?_) (fun h => ?_)
  · replace H := H.1 (h)
    refine Rch.call H fun v21' N21' H => Rch.ex H fun b22' H => Rch.rest ?_
    exact H _ _ _ _ _ _ _ _ _ _ _ _ _ _ _ _ _ _ _ _ _ _ _ _ _ _ _ _ _ _ _ _ _ _ _ _ _ _ _ _ _ _ _ _ _ _ _ _ _ _ _ _ _ _ _ _ _ _ _ _ _
  · replace H := H.2 (h)
    refine Rch.rest ?_
    exact H _ _ _ _ _ _ _ _ _ _ _ _ _ _ _ _ _ _ _ _ _ _ _ _ _ _ _ _ _ _ _ _ _ _ _ _ _ _ _ _ _ _ _ _ _ _ _ _ _ _ _ _ _ _ _ _ _ _ _ _ _

theorem w11_6 {Ax7 : Option Addr} {lx7 cx7 : Nat} {x58 : Bool} {M : Mem} {Q : Value → Mem → Prop} (H :
    ((x58 = true →
     Cn Try.prog 15 #[.slice Ax7 lx7 cx7, .slice (some ⟨2 * M.nb.size, 0, none⟩) 8 8] (M.new (.cells #[.int .i64 10, .int .i64 10, .int .i64 10, .int .i64 10, .int .i64 10, .int .i64 10, .int .i64 10, .int .i64 10] 3)) fun v23' N23' =>
      ∃ b24', asB v23' = some b24' ∧
      Q (.bool b24') N23') ∧
     (x58 = false →
     Q (.bool false) M))) :
    A11_6 Ax7 lx7 cx7 x58 M Q := by
  intro g0 g1 g2 g3 g4 g5 g6 g8 g9 g10 g11 g12 g13 g14 g15 g16 g17 g18 g19 g20 g21 g22 g23 g24 g25 g26 g27 g28 g29 g30 g31 g32 g33 g34 g35 g36 g37 g38 g39 g40 g41 g42 g43 g44 g45 g46 g47 g48 g49 g50 g51 g52 g53 g54 g55 g56 g57 g59 g60 g61 g62
  refine Rg.step (d := 5) (j := 35) (fun call K => r11_5p30) rfl rfl ?_
  refine Rch.cB (fun h => ?_) (fun h => ?_)
  · replace H := H.1 (h)
    refine Rch.call H fun v23' N23' H => Rch.ex H fun b24' H => Rch.rest (Rg.done rfl ?_)
    exact Rn.ret k11_13 e11 H
  · replace H := H.2 (h)
    refine Rch.rest (Rg.done rfl ?_)
    exact Rn.ret k11_13 e11 H


end Go.Zt
