/- The functions' walks: for each function and each loop a rule of what it comes to. Printed by zw.py. -/
import Derived.Test.YtbbdggpfhcgbpaaProg
import Derived.Test.YtbbdggpfhcgbpaaZcA
set_option linter.unusedVariables false
set_option maxRecDepth 100000
namespace Go.Zt
open Go Go.Sim Go.Proofs

variable {g0 g1 g2 g3 g4 g5 g6 g7 g8 g9 g10 g11 g12 g13 g14 g15 g16 g17 g18 g19 g20 g21 g22 g23 g24 g25 g26 g27 g28 g29 g30 g31 g32 g33 g34 g35 g36 g37 g38 g39 g40 g41 g42 g43 g44 g45 g46 g47 g48 g49 g50 g51 g52 g53 g54 g55 g56 g57 g58 g59 g60 g61 g62 g63 g64 g65 g66 g67 g68 g69 g70 g71 g72 g73 g74 g75 g76 g77 g78 g79 g80 g81 g82 g83 g84 g85 g86 g87 g88 g89 g90 g91 g92 g93 g94 g95 : Value}
/-! ### zoetrope/zoetroperef19.one: function 34 -/
noncomputable abbrev P34 (p : List Nat) : Code := subC (codeOf Try.f34) p
noncomputable abbrev O34 (p : List Nat) : Array Oper := opsOf (subC (codeOf Try.f34) p)
theorem b34 : Try.prog.funcs[34]? = some Try.f34 ∧ (Orc.tab Try.prog).lookup 34 = none := ⟨by kernel_rfl, by kernel_rfl⟩
theorem d34 : Try.f34.body = some (P34 []) := by kernel_rfl
theorem t34 {x0 : Int} : #[.int .i64 x0] ++ Array.replicate (Try.f34.ntmps - (#[.int .i64 x0] : Array Value).size) undef = #[.int .i64 x0,undef,undef,undef,undef,undef,undef,undef,undef,undef,undef,undef,undef] := by kernel_rfl
theorem k34_0 : P34 [] = .seq (P34 [0]) (P34 [1]) := by kernel_rfl
theorem k34_1 : P34 [0] = .region 0 (O34 [0]) false := by kernel_rfl
theorem r34_0 {M : Mem} {call : CallM} {K : Array Value → Mem → R} :
    opsK Try.prog (fun _ => call) (O34 [0]) (O34 [0]).toList 0 #[g0,g1,g2,g3,g4,g5,g6,g7,g8,g9,g10,g11,g12] M K = K #[g0,g1,.bool false,g3,g4,g5,g6,g7,g8,g9,g10,g11,g12] M := by kernel_rfl
theorem k34_2 : P34 [1] = .seq (P34 [1,0]) (P34 [1,1]) := by kernel_rfl
theorem k34_3 : P34 [1,0] = .region 1 (O34 [1,0]) false := by kernel_rfl
theorem r34_1 {x0 : Int} {M : Mem} {call : CallM} {K : Array Value → Mem → R} :
    opsK Try.prog (fun _ => call) (O34 [1,0]) (O34 [1,0]).toList 0 #[.int .i64 x0,g1,g2,g3,g4,g5,g6,g7,g8,g9,g10,g11,g12] M K = withK (fun w2 w5 w6 w7 w8 w9 w10 w11 w12 M => K #[.int .i64 x0,g1,w2,.int .i64 x0,.bool (x0 == 1),w5,w6,w7,w8,w9,w10,w11,w12] M) fun k => cond (x0 == 1) (k (.bool true) (.bool true) undef undef (.bool true) (.bool true) undef undef (.bool true) M) (cond (x0 == 2) (k (.bool true) (.bool false) (.int .i64 x0) (.bool (x0 == 2)) (.bool (x0 == 2)) (.bool true) undef undef (.bool true) M) (k (.bool (x0 == 3)) (.bool false) (.int .i64 x0) (.bool (x0 == 2)) (.bool (x0 == 2)) (.bool false) (.int .i64 x0) (.bool (x0 == 3)) (.bool (x0 == 3)) M)) := by kernel_rfl
theorem k34_4 : P34 [1,1] = .ret := by kernel_rfl
theorem e34 {M : Mem} : finish Try.prog Try.f34 #[g0,g1,g2,g3,g4,g5,g6,g7,g8,g9,g10,g11,g12] M = some (g2, M) := by kernel_rfl
theorem w34_0 {x0 : Int} {M : Mem} {Q : Value → Mem → Prop} (H :
    ((x0 = 1 →
     Q (.bool true) M) ∧
     (x0 ≠ 1 →
     ((x0 = 2 →
      Q (.bool true) M) ∧
      (x0 ≠ 2 →
      Q (.bool (x0 == 3)) M))))) :
    Cn Try.prog 34 #[.int .i64 x0] M Q := by
  refine Cn.of b34 d34 t34 ?_
  refine Rn.seq k34_0 (Rn.region k34_1 (fun call K => r34_0) (Rch.leaf (Rn.seq k34_2 (Rn.region k34_3 (fun call K => r34_1) ?_))))
  refine Rch.cB (fun h => ?_) (fun h => ?_)
  · replace H := H.1 (eq_of_beq h)
    refine Rch.leaf ?_
    exact Rn.ret k34_4 e34 H
  · replace H := H.2 (ne_of_beq_false h)
    refine Rch.cB (fun h => ?_) (fun h => ?_)
    · replace H := H.1 (eq_of_beq h)
      refine Rch.leaf ?_
      exact Rn.ret k34_4 e34 H
    · replace H := H.2 (ne_of_beq_false h)
      refine Rch.leaf ?_
      exact Rn.ret k34_4 e34 H


/-! ### zoetrope/zoetroperef19.read: function 28 -/
noncomputable abbrev P28 (p : List Nat) : Code := subC (codeOf Try.f28) p
noncomputable abbrev O28 (p : List Nat) : Array Oper := opsOf (subC (codeOf Try.f28) p)
theorem b28 : Try.prog.funcs[28]? = some Try.f28 ∧ (Orc.tab Try.prog).lookup 28 = none := ⟨by kernel_rfl, by kernel_rfl⟩
theorem d28 : Try.f28.body = some (P28 []) := by kernel_rfl
theorem t28 {Ax0 : Option Addr} {lx0 cx0 : Nat} {x1 : Int} : #[.slice Ax0 lx0 cx0,.int .i64 x1] ++ Array.replicate (Try.f28.ntmps - (#[.slice Ax0 lx0 cx0,.int .i64 x1] : Array Value).size) undef = #[.slice Ax0 lx0 cx0,.int .i64 x1,undef,undef,undef,undef,undef,undef,undef,undef,undef,undef,undef,undef,undef,undef,undef,undef,undef,undef,undef,undef,undef,undef,undef,undef,undef,undef,undef,undef,undef,undef,undef,undef,undef,undef,undef,undef,undef,undef,undef,undef,undef,undef,undef,undef,undef,undef,undef,undef,undef,undef,undef,undef,undef,undef,undef,undef,undef,undef,undef,undef,undef,undef,undef,undef,undef,undef,undef,undef,undef,undef,undef,undef,undef,undef,undef,undef,undef,undef,undef,undef,undef,undef,undef,undef,undef,undef,undef,undef,undef,undef,undef,undef,undef,undef] := by kernel_rfl
theorem k28_0 : P28 [] = .seq (P28 [0]) (P28 [1]) := by kernel_rfl
theorem k28_1 : P28 [0] = .region 0 (O28 [0]) false := by kernel_rfl
theorem r28_0 {M : Mem} {call : CallM} {K : Array Value → Mem → R} :
    opsK Try.prog (fun _ => call) (O28 [0]) (O28 [0]).toList 0 #[g0,g1,g2,g3,g4,g5,g6,g7,g8,g9,g10,g11,g12,g13,g14,g15,g16,g17,g18,g19,g20,g21,g22,g23,g24,g25,g26,g27,g28,g29,g30,g31,g32,g33,g34,g35,g36,g37,g38,g39,g40,g41,g42,g43,g44,g45,g46,g47,g48,g49,g50,g51,g52,g53,g54,g55,g56,g57,g58,g59,g60,g61,g62,g63,g64,g65,g66,g67,g68,g69,g70,g71,g72,g73,g74,g75,g76,g77,g78,g79,g80,g81,g82,g83,g84,g85,g86,g87,g88,g89,g90,g91,g92,g93,g94,g95] M K = K #[g0,g1,g2,g3,.pointer (some ⟨2 * M.nb.size, 0, none⟩),.int .i64 0,.int .i64 0,g7,g8,g9,g10,g11,g12,g13,g14,g15,g16,g17,g18,g19,g20,g21,g22,g23,g24,g25,g26,g27,g28,g29,g30,g31,g32,g33,g34,g35,g36,g37,g38,g39,g40,g41,g42,g43,g44,g45,g46,g47,g48,g49,g50,g51,g52,g53,g54,g55,g56,g57,g58,g59,g60,g61,g62,g63,g64,g65,g66,g67,g68,g69,g70,g71,g72,g73,g74,g75,g76,g77,g78,g79,g80,g81,g82,g83,g84,g85,g86,g87,g88,g89,g90,g91,g92,g93,g94,g95] (M.new (.cells #[.int .i64 0, .slice none 0 0] 44)) := by kernel_rfl
theorem k28_2 : P28 [1] = .seq (P28 [1,0]) (P28 [1,1]) := by kernel_rfl
theorem k28_3 : P28 [1,0] = .seq (P28 [1,0,0]) (P28 [1,0,1]) := by kernel_rfl
theorem k28_4 : P28 [1,0,0] = .region 1 (O28 [1,0,0]) false := by kernel_rfl
theorem r28_1 {Ax0 : Option Addr} {lx0 cx0 : Nat} {x1 : Int} {M : Mem} {call : CallM} {K : Array Value → Mem → R} :
    opsK Try.prog (fun _ => call) (O28 [1,0,0]) (O28 [1,0,0]).toList 0 #[.slice Ax0 lx0 cx0,.int .i64 x1,g2,g3,g4,g5,g6,g7,g8,g9,g10,g11,g12,g13,g14,g15,g16,g17,g18,g19,g20,g21,g22,g23,g24,g25,g26,g27,g28,g29,g30,g31,g32,g33,g34,g35,g36,g37,g38,g39,g40,g41,g42,g43,g44,g45,g46,g47,g48,g49,g50,g51,g52,g53,g54,g55,g56,g57,g58,g59,g60,g61,g62,g63,g64,g65,g66,g67,g68,g69,g70,g71,g72,g73,g74,g75,g76,g77,g78,g79,g80,g81,g82,g83,g84,g85,g86,g87,g88,g89,g90,g91,g92,g93,g94,g95] M K = K #[.slice Ax0 lx0 cx0,.int .i64 x1,g2,g3,g4,g5,g6,g7,g8,g9,g10,g11,.int .i64 x1,.slice Ax0 lx0 cx0,.int .i64 ((lx0 : Int)),.bool (decide (x1 ≥ ((lx0 : Int)))),g16,g17,g18,g19,g20,g21,g22,g23,g24,g25,g26,g27,g28,g29,g30,g31,g32,g33,g34,g35,g36,g37,g38,g39,g40,g41,g42,g43,g44,g45,g46,g47,g48,g49,g50,g51,g52,g53,g54,g55,g56,g57,g58,g59,g60,g61,g62,g63,g64,g65,g66,g67,g68,g69,g70,g71,g72,g73,g74,g75,g76,g77,g78,g79,g80,g81,g82,g83,g84,g85,g86,g87,g88,g89,g90,g91,g92,g93,g94,g95] M := by kernel_rfl
theorem c28_5 : P28 [1,0,1] = .cond (.tmp 15) (P28 [1,0,1,0]) (P28 [1,0,1,1]) := by kernel_rfl
theorem k28_6 : P28 [1,0,1,0] = .seq (P28 [1,0,1,0,0]) (P28 [1,0,1,0,1]) := by kernel_rfl
theorem k28_7 : P28 [1,0,1,0,0] = .region 2 (O28 [1,0,1,0,0]) false := by kernel_rfl
theorem r28_2 {x4 : Option Addr} {M : Mem} {call : CallM} {K : Array Value → Mem → R} :
    opsK Try.prog (fun _ => call) (O28 [1,0,1,0,0]) (O28 [1,0,1,0,0]).toList 0 #[g0,g1,g2,g3,.pointer x4,g5,g6,g7,g8,g9,g10,g11,g12,g13,g14,g15,g16,g17,g18,g19,g20,g21,g22,g23,g24,g25,g26,g27,g28,g29,g30,g31,g32,g33,g34,g35,g36,g37,g38,g39,g40,g41,g42,g43,g44,g45,g46,g47,g48,g49,g50,g51,g52,g53,g54,g55,g56,g57,g58,g59,g60,g61,g62,g63,g64,g65,g66,g67,g68,g69,g70,g71,g72,g73,g74,g75,g76,g77,g78,g79,g80,g81,g82,g83,g84,g85,g86,g87,g88,g89,g90,g91,g92,g93,g94,g95] M K = (x4).bind fun a_1 => (M.put a_1.block a_1.off (.int .i64 0)).bind fun M_2 => (M_2.put a_1.block (a_1.off + 1) (.slice none 0 0)).bind fun M_3 => K #[g0,g1,g2,g3,.pointer x4,.int .i64 0,.int .i64 3,g7,g8,g9,g10,g11,g12,g13,g14,g15,.agg #[.int .i64 0, .slice none 0 0],g17,g18,g19,g20,g21,g22,g23,g24,g25,g26,g27,g28,g29,g30,g31,g32,g33,g34,g35,g36,g37,g38,g39,g40,g41,g42,g43,g44,g45,g46,g47,g48,g49,g50,g51,g52,g53,g54,g55,g56,g57,g58,g59,g60,g61,g62,g63,g64,g65,g66,g67,g68,g69,g70,g71,g72,g73,g74,g75,g76,g77,g78,g79,g80,g81,g82,g83,g84,g85,g86,g87,g88,g89,g90,g91,g92,g93,g94,g95] M_3 := by kernel_rfl
theorem k28_8 : P28 [1,0,1,0,1] = .ret := by kernel_rfl
theorem e28_0 {x4 : Option Addr} {x5 x6 : Int} {M : Mem} {K : List Value → R} : resK Try.prog #[g0,g1,g2,g3,.pointer x4,.int .i64 x5,.int .i64 x6,g7,g8,g9,g10,g11,g12,g13,g14,g15,g16,g17,g18,g19,g20,g21,g22,g23,g24,g25,g26,g27,g28,g29,g30,g31,g32,g33,g34,g35,g36,g37,g38,g39,g40,g41,g42,g43,g44,g45,g46,g47,g48,g49,g50,g51,g52,g53,g54,g55,g56,g57,g58,g59,g60,g61,g62,g63,g64,g65,g66,g67,g68,g69,g70,g71,g72,g73,g74,g75,g76,g77,g78,g79,g80,g81,g82,g83,g84,g85,g86,g87,g88,g89,g90,g91,g92,g93,g94,g95] M (Try.f28).results.toList K = (x4).bind fun a_1 => (M.intAt .i64 a_1.block a_1.off).bind fun x_2 => (M.slAt a_1.block (a_1.off + 1)).bind fun s_3 => K [.agg #[.int .i64 x_2, .slice s_3.1 (s_3.2.1) (s_3.2.2)], .int .i64 x5, .int .i64 x6] := by kernel_rfl
theorem k28_10 : P28 [1,0,1,1] = .skip := by kernel_rfl
theorem k28_11 : P28 [1,1] = .seq (P28 [1,1,0]) (P28 [1,1,1]) := by kernel_rfl
theorem k28_12 : P28 [1,1,0] = .seq (P28 [1,1,0,0]) (P28 [1,1,0,1]) := by kernel_rfl
theorem k28_13 : P28 [1,1,0,0] = .region 3 (O28 [1,1,0,0]) false := by kernel_rfl
theorem r28_3 {Ax0 : Option Addr} {lx0 cx0 : Nat} {x1 : Int} {M : Mem} {call : CallM} {K : Array Value → Mem → R} :
    opsK Try.prog (fun _ => call) (O28 [1,1,0,0]) (O28 [1,1,0,0]).toList 0 #[.slice Ax0 lx0 cx0,.int .i64 x1,g2,g3,g4,g5,g6,g7,g8,g9,g10,g11,g12,g13,g14,g15,g16,g17,g18,g19,g20,g21,g22,g23,g24,g25,g26,g27,g28,g29,g30,g31,g32,g33,g34,g35,g36,g37,g38,g39,g40,g41,g42,g43,g44,g45,g46,g47,g48,g49,g50,g51,g52,g53,g54,g55,g56,g57,g58,g59,g60,g61,g62,g63,g64,g65,g66,g67,g68,g69,g70,g71,g72,g73,g74,g75,g76,g77,g78,g79,g80,g81,g82,g83,g84,g85,g86,g87,g88,g89,g90,g91,g92,g93,g94,g95] M K = withK (fun w19 w20 w21 w22 w23 w24 w25 w26 w27 w28 w29 w30 w31 w32 w33 w34 w35 M => K #[.slice Ax0 lx0 cx0,.int .i64 x1,g2,g3,g4,g5,g6,g7,g8,g9,g10,g11,g12,g13,g14,g15,g16,.slice Ax0 lx0 cx0,.int .i64 x1,w19,w20,w21,w22,w23,w24,w25,w26,w27,w28,w29,w30,w31,w32,w33,w34,w35,g36,g37,g38,g39,g40,g41,g42,g43,g44,g45,g46,g47,g48,g49,g50,g51,g52,g53,g54,g55,g56,g57,g58,g59,g60,g61,g62,g63,g64,g65,g66,g67,g68,g69,g70,g71,g72,g73,g74,g75,g76,g77,g78,g79,g80,g81,g82,g83,g84,g85,g86,g87,g88,g89,g90,g91,g92,g93,g94,g95] M) fun k => (idxA Ax0 lx0 1 x1).bind fun a_1 => (M.intAt .u8 a_1.block a_1.off).bind fun x_2 => cond (x_2 != 16) ((idxA Ax0 lx0 1 x1).bind fun a_3 => (M.intAt .u8 a_3.block a_3.off).bind fun x_4 => cond (x_4 != 32) ((idxA Ax0 lx0 1 x1).bind fun a_5 => (M.intAt .u8 a_5.block a_5.off).bind fun x_6 => k (.pointer (some a_1)) (.int .u8 x_2) (.bool (x_2 != 16)) (.bool true) (.slice Ax0 lx0 cx0) (.int .i64 x1) (.pointer (some a_3)) (.int .u8 x_4) (.bool (x_4 != 32)) (.bool (x_4 != 32)) (.bool true) (.slice Ax0 lx0 cx0) (.int .i64 x1) (.pointer (some a_5)) (.int .u8 x_6) (.bool (x_6 != 48)) (.bool (x_6 != 48)) M) (k (.pointer (some a_1)) (.int .u8 x_2) (.bool (x_2 != 16)) (.bool true) (.slice Ax0 lx0 cx0) (.int .i64 x1) (.pointer (some a_3)) (.int .u8 x_4) (.bool (x_4 != 32)) (.bool (x_4 != 32)) (.bool false) undef undef undef undef undef (.bool false) M)) (k (.pointer (some a_1)) (.int .u8 x_2) (.bool (x_2 != 16)) (.bool false) undef undef undef undef undef (.bool false) (.bool false) undef undef undef undef undef (.bool false) M) := by kernel_rfl
theorem c28_14 : P28 [1,1,0,1] = .cond (.tmp 35) (P28 [1,1,0,1,0]) (P28 [1,1,0,1,1]) := by kernel_rfl
theorem k28_15 : P28 [1,1,0,1,0] = .seq (P28 [1,1,0,1,0,0]) (P28 [1,1,0,1,0,1]) := by kernel_rfl
theorem k28_16 : P28 [1,1,0,1,0,0] = .region 4 (O28 [1,1,0,1,0,0]) false := by kernel_rfl
theorem r28_4 {x4 : Option Addr} {M : Mem} {call : CallM} {K : Array Value → Mem → R} :
    opsK Try.prog (fun _ => call) (O28 [1,1,0,1,0,0]) (O28 [1,1,0,1,0,0]).toList 0 #[g0,g1,g2,g3,.pointer x4,g5,g6,g7,g8,g9,g10,g11,g12,g13,g14,g15,g16,g17,g18,g19,g20,g21,g22,g23,g24,g25,g26,g27,g28,g29,g30,g31,g32,g33,g34,g35,g36,g37,g38,g39,g40,g41,g42,g43,g44,g45,g46,g47,g48,g49,g50,g51,g52,g53,g54,g55,g56,g57,g58,g59,g60,g61,g62,g63,g64,g65,g66,g67,g68,g69,g70,g71,g72,g73,g74,g75,g76,g77,g78,g79,g80,g81,g82,g83,g84,g85,g86,g87,g88,g89,g90,g91,g92,g93,g94,g95] M K = (x4).bind fun a_1 => (M.put a_1.block a_1.off (.int .i64 0)).bind fun M_2 => (M_2.put a_1.block (a_1.off + 1) (.slice none 0 0)).bind fun M_3 => K #[g0,g1,g2,g3,.pointer x4,.int .i64 0,.int .i64 4,g7,g8,g9,g10,g11,g12,g13,g14,g15,g16,g17,g18,g19,g20,g21,g22,g23,g24,g25,g26,g27,g28,g29,g30,g31,g32,g33,g34,g35,.agg #[.int .i64 0, .slice none 0 0],g37,g38,g39,g40,g41,g42,g43,g44,g45,g46,g47,g48,g49,g50,g51,g52,g53,g54,g55,g56,g57,g58,g59,g60,g61,g62,g63,g64,g65,g66,g67,g68,g69,g70,g71,g72,g73,g74,g75,g76,g77,g78,g79,g80,g81,g82,g83,g84,g85,g86,g87,g88,g89,g90,g91,g92,g93,g94,g95] M_3 := by kernel_rfl
theorem k28_17 : P28 [1,1,0,1,0,1] = .ret := by kernel_rfl
theorem k28_18 : P28 [1,1,0,1,1] = .skip := by kernel_rfl
theorem k28_19 : P28 [1,1,1] = .seq (P28 [1,1,1,0]) (P28 [1,1,1,1]) := by kernel_rfl
theorem k28_20 : P28 [1,1,1,0] = .region 5 (O28 [1,1,1,0]) false := by kernel_rfl
theorem r28_5 {Ax0 : Option Addr} {lx0 cx0 : Nat} {x1 : Int} {M : Mem} {call : CallM} {K : Array Value → Mem → R} :
    opsK Try.prog (fun _ => call) (O28 [1,1,1,0]) (O28 [1,1,1,0]).toList 0 #[.slice Ax0 lx0 cx0,.int .i64 x1,g2,g3,g4,g5,g6,g7,g8,g9,g10,g11,g12,g13,g14,g15,g16,g17,g18,g19,g20,g21,g22,g23,g24,g25,g26,g27,g28,g29,g30,g31,g32,g33,g34,g35,g36,g37,g38,g39,g40,g41,g42,g43,g44,g45,g46,g47,g48,g49,g50,g51,g52,g53,g54,g55,g56,g57,g58,g59,g60,g61,g62,g63,g64,g65,g66,g67,g68,g69,g70,g71,g72,g73,g74,g75,g76,g77,g78,g79,g80,g81,g82,g83,g84,g85,g86,g87,g88,g89,g90,g91,g92,g93,g94,g95] M K = (sliceP Try.prog 22 (.slice Ax0 lx0 cx0) (some (.int .i64 (IntKind.i64.wrap (x1 + 1)))) (some (.int .i64 (if (lx0 : Int) < IntKind.i64.wrap (x1 + 6) then (lx0 : Int) else IntKind.i64.wrap (x1 + 6)))) none).bind fun v_1 => (asS v_1).bind fun s_2 => K #[.slice Ax0 lx0 cx0,.int .i64 x1,g2,g3,g4,g5,g6,.slice s_2.1 (s_2.2.1) (s_2.2.2),g8,g9,g10,g11,g12,g13,g14,g15,g16,g17,g18,g19,g20,g21,g22,g23,g24,g25,g26,g27,g28,g29,g30,g31,g32,g33,g34,g35,g36,.slice Ax0 lx0 cx0,.int .i64 x1,.int .i64 (IntKind.i64.wrap (x1 + 1)),.int .i64 x1,.int .i64 (IntKind.i64.wrap (x1 + 6)),.slice Ax0 lx0 cx0,.int .i64 ((lx0 : Int)),.int .i64 (if (lx0 : Int) < IntKind.i64.wrap (x1 + 6) then (lx0 : Int) else IntKind.i64.wrap (x1 + 6)),.slice s_2.1 (s_2.2.1) (s_2.2.2),g46,g47,g48,g49,g50,g51,g52,g53,g54,g55,g56,g57,g58,g59,g60,g61,g62,g63,g64,g65,g66,g67,g68,g69,g70,g71,g72,g73,g74,g75,g76,g77,g78,g79,g80,g81,g82,g83,g84,g85,g86,g87,g88,g89,g90,g91,g92,g93,g94,g95] M := by kernel_rfl
theorem k28_21 : P28 [1,1,1,1] = .seq (P28 [1,1,1,1,0]) (P28 [1,1,1,1,1]) := by kernel_rfl
theorem k28_22 : P28 [1,1,1,1,0] = .region 6 (O28 [1,1,1,1,0]) false := by kernel_rfl
theorem r28_6 {Ax7 : Option Addr} {lx7 cx7 : Nat} {M : Mem} {call : CallM} {K : Array Value → Mem → R} :
    opsK Try.prog (fun _ => call) (O28 [1,1,1,1,0]) (O28 [1,1,1,1,0]).toList 0 #[g0,g1,g2,g3,g4,g5,g6,.slice Ax7 lx7 cx7,g8,g9,g10,g11,g12,g13,g14,g15,g16,g17,g18,g19,g20,g21,g22,g23,g24,g25,g26,g27,g28,g29,g30,g31,g32,g33,g34,g35,g36,g37,g38,g39,g40,g41,g42,g43,g44,g45,g46,g47,g48,g49,g50,g51,g52,g53,g54,g55,g56,g57,g58,g59,g60,g61,g62,g63,g64,g65,g66,g67,g68,g69,g70,g71,g72,g73,g74,g75,g76,g77,g78,g79,g80,g81,g82,g83,g84,g85,g86,g87,g88,g89,g90,g91,g92,g93,g94,g95] M K = (call 42 #[.slice Ax7 lx7 cx7] M).bind fun r_1 => (asP r_1.1).bind fun p_2 => K #[g0,g1,g2,g3,g4,g5,g6,.slice Ax7 lx7 cx7,.pointer p_2,g9,g10,g11,g12,g13,g14,g15,g16,g17,g18,g19,g20,g21,g22,g23,g24,g25,g26,g27,g28,g29,g30,g31,g32,g33,g34,g35,g36,g37,g38,g39,g40,g41,g42,g43,g44,g45,.slice Ax7 lx7 cx7,.pointer p_2,g48,g49,g50,g51,g52,g53,g54,g55,g56,g57,g58,g59,g60,g61,g62,g63,g64,g65,g66,g67,g68,g69,g70,g71,g72,g73,g74,g75,g76,g77,g78,g79,g80,g81,g82,g83,g84,g85,g86,g87,g88,g89,g90,g91,g92,g93,g94,g95] r_1.2 := by kernel_rfl
theorem k28_23 : P28 [1,1,1,1,1] = .seq (P28 [1,1,1,1,1,0]) (P28 [1,1,1,1,1,1]) := by kernel_rfl
theorem k28_24 : P28 [1,1,1,1,1,0] = .region 7 (O28 [1,1,1,1,1,0]) false := by kernel_rfl
theorem r28_7 {x8 : Option Addr} {M : Mem} {call : CallM} {K : Array Value → Mem → R} :
    opsK Try.prog (fun _ => call) (O28 [1,1,1,1,1,0]) (O28 [1,1,1,1,1,0]).toList 0 #[g0,g1,g2,g3,g4,g5,g6,g7,.pointer x8,g9,g10,g11,g12,g13,g14,g15,g16,g17,g18,g19,g20,g21,g22,g23,g24,g25,g26,g27,g28,g29,g30,g31,g32,g33,g34,g35,g36,g37,g38,g39,g40,g41,g42,g43,g44,g45,g46,g47,g48,g49,g50,g51,g52,g53,g54,g55,g56,g57,g58,g59,g60,g61,g62,g63,g64,g65,g66,g67,g68,g69,g70,g71,g72,g73,g74,g75,g76,g77,g78,g79,g80,g81,g82,g83,g84,g85,g86,g87,g88,g89,g90,g91,g92,g93,g94,g95] M K = (call 43 #[.pointer x8] M).bind fun r_1 => (asU 2 r_1.1).bind fun cs_2 => (asI .u32 (cs_2.getD 0 undef)).bind fun x_3 => (asI .i64 (cs_2.getD 1 undef)).bind fun x_4 => K #[g0,g1,g2,g3,g4,g5,g6,g7,.pointer x8,.int .u32 x_3,.int .i64 x_4,g11,g12,g13,g14,g15,g16,g17,g18,g19,g20,g21,g22,g23,g24,g25,g26,g27,g28,g29,g30,g31,g32,g33,g34,g35,g36,g37,g38,g39,g40,g41,g42,g43,g44,g45,g46,g47,.tuple #[.int .u32 x_3, .int .i64 x_4],.pointer x8,.tuple #[.int .u32 x_3, .int .i64 x_4],.int .u32 x_3,.int .i64 x_4,g53,g54,g55,g56,g57,g58,g59,g60,g61,g62,g63,g64,g65,g66,g67,g68,g69,g70,g71,g72,g73,g74,g75,g76,g77,g78,g79,g80,g81,g82,g83,g84,g85,g86,g87,g88,g89,g90,g91,g92,g93,g94,g95] r_1.2 := by kernel_rfl
theorem k28_25 : P28 [1,1,1,1,1,1] = .seq (P28 [1,1,1,1,1,1,0]) (P28 [1,1,1,1,1,1,1]) := by kernel_rfl
theorem k28_26 : P28 [1,1,1,1,1,1,0] = .seq (P28 [1,1,1,1,1,1,0,0]) (P28 [1,1,1,1,1,1,0,1]) := by kernel_rfl
theorem k28_27 : P28 [1,1,1,1,1,1,0,0] = .region 8 (O28 [1,1,1,1,1,1,0,0]) false := by kernel_rfl
theorem r28_8 {x10 : Int} {M : Mem} {call : CallM} {K : Array Value → Mem → R} :
    opsK Try.prog (fun _ => call) (O28 [1,1,1,1,1,1,0,0]) (O28 [1,1,1,1,1,1,0,0]).toList 0 #[g0,g1,g2,g3,g4,g5,g6,g7,g8,g9,.int .i64 x10,g11,g12,g13,g14,g15,g16,g17,g18,g19,g20,g21,g22,g23,g24,g25,g26,g27,g28,g29,g30,g31,g32,g33,g34,g35,g36,g37,g38,g39,g40,g41,g42,g43,g44,g45,g46,g47,g48,g49,g50,g51,g52,g53,g54,g55,g56,g57,g58,g59,g60,g61,g62,g63,g64,g65,g66,g67,g68,g69,g70,g71,g72,g73,g74,g75,g76,g77,g78,g79,g80,g81,g82,g83,g84,g85,g86,g87,g88,g89,g90,g91,g92,g93,g94,g95] M K = K #[g0,g1,g2,g3,g4,g5,g6,g7,g8,g9,.int .i64 x10,g11,g12,g13,g14,g15,g16,g17,g18,g19,g20,g21,g22,g23,g24,g25,g26,g27,g28,g29,g30,g31,g32,g33,g34,g35,g36,g37,g38,g39,g40,g41,g42,g43,g44,g45,g46,g47,g48,g49,g50,g51,g52,.int .i64 x10,.bool (x10 != 0),g55,g56,g57,g58,g59,g60,g61,g62,g63,g64,g65,g66,g67,g68,g69,g70,g71,g72,g73,g74,g75,g76,g77,g78,g79,g80,g81,g82,g83,g84,g85,g86,g87,g88,g89,g90,g91,g92,g93,g94,g95] M := by kernel_rfl
theorem c28_28 : P28 [1,1,1,1,1,1,0,1] = .cond (.tmp 54) (P28 [1,1,1,1,1,1,0,1,0]) (P28 [1,1,1,1,1,1,0,1,1]) := by kernel_rfl
theorem k28_29 : P28 [1,1,1,1,1,1,0,1,0] = .seq (P28 [1,1,1,1,1,1,0,1,0,0]) (P28 [1,1,1,1,1,1,0,1,0,1]) := by kernel_rfl
theorem k28_30 : P28 [1,1,1,1,1,1,0,1,0,0] = .region 9 (O28 [1,1,1,1,1,1,0,1,0,0]) false := by kernel_rfl
theorem r28_9 {x4 : Option Addr} {x10 : Int} {M : Mem} {call : CallM} {K : Array Value → Mem → R} :
    opsK Try.prog (fun _ => call) (O28 [1,1,1,1,1,1,0,1,0,0]) (O28 [1,1,1,1,1,1,0,1,0,0]).toList 0 #[g0,g1,g2,g3,.pointer x4,g5,g6,g7,g8,g9,.int .i64 x10,g11,g12,g13,g14,g15,g16,g17,g18,g19,g20,g21,g22,g23,g24,g25,g26,g27,g28,g29,g30,g31,g32,g33,g34,g35,g36,g37,g38,g39,g40,g41,g42,g43,g44,g45,g46,g47,g48,g49,g50,g51,g52,g53,g54,g55,g56,g57,g58,g59,g60,g61,g62,g63,g64,g65,g66,g67,g68,g69,g70,g71,g72,g73,g74,g75,g76,g77,g78,g79,g80,g81,g82,g83,g84,g85,g86,g87,g88,g89,g90,g91,g92,g93,g94,g95] M K = (x4).bind fun a_1 => (M.put a_1.block a_1.off (.int .i64 0)).bind fun M_2 => (M_2.put a_1.block (a_1.off + 1) (.slice none 0 0)).bind fun M_3 => K #[g0,g1,g2,g3,.pointer x4,.int .i64 0,.int .i64 x10,g7,g8,g9,.int .i64 x10,g11,g12,g13,g14,g15,g16,g17,g18,g19,g20,g21,g22,g23,g24,g25,g26,g27,g28,g29,g30,g31,g32,g33,g34,g35,g36,g37,g38,g39,g40,g41,g42,g43,g44,g45,g46,g47,g48,g49,g50,g51,g52,g53,g54,.agg #[.int .i64 0, .slice none 0 0],.int .i64 x10,g57,g58,g59,g60,g61,g62,g63,g64,g65,g66,g67,g68,g69,g70,g71,g72,g73,g74,g75,g76,g77,g78,g79,g80,g81,g82,g83,g84,g85,g86,g87,g88,g89,g90,g91,g92,g93,g94,g95] M_3 := by kernel_rfl
theorem k28_31 : P28 [1,1,1,1,1,1,0,1,0,1] = .ret := by kernel_rfl
theorem k28_32 : P28 [1,1,1,1,1,1,0,1,1] = .skip := by kernel_rfl
theorem k28_33 : P28 [1,1,1,1,1,1,1] = .seq (P28 [1,1,1,1,1,1,1,0]) (P28 [1,1,1,1,1,1,1,1]) := by kernel_rfl
theorem k28_34 : P28 [1,1,1,1,1,1,1,0] = .seq (P28 [1,1,1,1,1,1,1,0,0]) (P28 [1,1,1,1,1,1,1,0,1]) := by kernel_rfl
theorem k28_35 : P28 [1,1,1,1,1,1,1,0,0] = .region 10 (O28 [1,1,1,1,1,1,1,0,0]) false := by kernel_rfl
theorem r28_10 {x9 : Int} {M : Mem} {call : CallM} {K : Array Value → Mem → R} :
    opsK Try.prog (fun _ => call) (O28 [1,1,1,1,1,1,1,0,0]) (O28 [1,1,1,1,1,1,1,0,0]).toList 0 #[g0,g1,g2,g3,g4,g5,g6,g7,g8,.int .u32 x9,g10,g11,g12,g13,g14,g15,g16,g17,g18,g19,g20,g21,g22,g23,g24,g25,g26,g27,g28,g29,g30,g31,g32,g33,g34,g35,g36,g37,g38,g39,g40,g41,g42,g43,g44,g45,g46,g47,g48,g49,g50,g51,g52,g53,g54,g55,g56,g57,g58,g59,g60,g61,g62,g63,g64,g65,g66,g67,g68,g69,g70,g71,g72,g73,g74,g75,g76,g77,g78,g79,g80,g81,g82,g83,g84,g85,g86,g87,g88,g89,g90,g91,g92,g93,g94,g95] M K = K #[g0,g1,g2,g3,g4,g5,g6,g7,g8,.int .u32 x9,g10,g11,g12,g13,g14,g15,g16,g17,g18,g19,g20,g21,g22,g23,g24,g25,g26,g27,g28,g29,g30,g31,g32,g33,g34,g35,g36,g37,g38,g39,g40,g41,g42,g43,g44,g45,g46,g47,g48,g49,g50,g51,g52,g53,g54,g55,g56,.int .u32 x9,.bool (decide (x9 > 16777216)),g59,g60,g61,g62,g63,g64,g65,g66,g67,g68,g69,g70,g71,g72,g73,g74,g75,g76,g77,g78,g79,g80,g81,g82,g83,g84,g85,g86,g87,g88,g89,g90,g91,g92,g93,g94,g95] M := by kernel_rfl
theorem c28_36 : P28 [1,1,1,1,1,1,1,0,1] = .cond (.tmp 58) (P28 [1,1,1,1,1,1,1,0,1,0]) (P28 [1,1,1,1,1,1,1,0,1,1]) := by kernel_rfl
theorem k28_37 : P28 [1,1,1,1,1,1,1,0,1,0] = .seq (P28 [1,1,1,1,1,1,1,0,1,0,0]) (P28 [1,1,1,1,1,1,1,0,1,0,1]) := by kernel_rfl
theorem k28_38 : P28 [1,1,1,1,1,1,1,0,1,0,0] = .region 11 (O28 [1,1,1,1,1,1,1,0,1,0,0]) false := by kernel_rfl
theorem r28_11 {x4 : Option Addr} {M : Mem} {call : CallM} {K : Array Value → Mem → R} :
    opsK Try.prog (fun _ => call) (O28 [1,1,1,1,1,1,1,0,1,0,0]) (O28 [1,1,1,1,1,1,1,0,1,0,0]).toList 0 #[g0,g1,g2,g3,.pointer x4,g5,g6,g7,g8,g9,g10,g11,g12,g13,g14,g15,g16,g17,g18,g19,g20,g21,g22,g23,g24,g25,g26,g27,g28,g29,g30,g31,g32,g33,g34,g35,g36,g37,g38,g39,g40,g41,g42,g43,g44,g45,g46,g47,g48,g49,g50,g51,g52,g53,g54,g55,g56,g57,g58,g59,g60,g61,g62,g63,g64,g65,g66,g67,g68,g69,g70,g71,g72,g73,g74,g75,g76,g77,g78,g79,g80,g81,g82,g83,g84,g85,g86,g87,g88,g89,g90,g91,g92,g93,g94,g95] M K = (x4).bind fun a_1 => (M.put a_1.block a_1.off (.int .i64 0)).bind fun M_2 => (M_2.put a_1.block (a_1.off + 1) (.slice none 0 0)).bind fun M_3 => K #[g0,g1,g2,g3,.pointer x4,.int .i64 0,.int .i64 5,g7,g8,g9,g10,g11,g12,g13,g14,g15,g16,g17,g18,g19,g20,g21,g22,g23,g24,g25,g26,g27,g28,g29,g30,g31,g32,g33,g34,g35,g36,g37,g38,g39,g40,g41,g42,g43,g44,g45,g46,g47,g48,g49,g50,g51,g52,g53,g54,g55,g56,g57,g58,.agg #[.int .i64 0, .slice none 0 0],g60,g61,g62,g63,g64,g65,g66,g67,g68,g69,g70,g71,g72,g73,g74,g75,g76,g77,g78,g79,g80,g81,g82,g83,g84,g85,g86,g87,g88,g89,g90,g91,g92,g93,g94,g95] M_3 := by kernel_rfl
theorem k28_39 : P28 [1,1,1,1,1,1,1,0,1,0,1] = .ret := by kernel_rfl
theorem k28_40 : P28 [1,1,1,1,1,1,1,0,1,1] = .skip := by kernel_rfl
theorem k28_41 : P28 [1,1,1,1,1,1,1,1] = .seq (P28 [1,1,1,1,1,1,1,1,0]) (P28 [1,1,1,1,1,1,1,1,1]) := by kernel_rfl
theorem k28_42 : P28 [1,1,1,1,1,1,1,1,0] = .region 12 (O28 [1,1,1,1,1,1,1,1,0]) false := by kernel_rfl
theorem r28_12 {x1 : Int} {Ax7 : Option Addr} {lx7 cx7 : Nat} {x8 : Option Addr} {M : Mem} {call : CallM} {K : Array Value → Mem → R} :
    opsK Try.prog (fun _ => call) (O28 [1,1,1,1,1,1,1,1,0]) (O28 [1,1,1,1,1,1,1,1,0]).toList 0 #[g0,.int .i64 x1,g2,g3,g4,g5,g6,.slice Ax7 lx7 cx7,.pointer x8,g9,g10,g11,g12,g13,g14,g15,g16,g17,g18,g19,g20,g21,g22,g23,g24,g25,g26,g27,g28,g29,g30,g31,g32,g33,g34,g35,g36,g37,g38,g39,g40,g41,g42,g43,g44,g45,g46,g47,g48,g49,g50,g51,g52,g53,g54,g55,g56,g57,g58,g59,g60,g61,g62,g63,g64,g65,g66,g67,g68,g69,g70,g71,g72,g73,g74,g75,g76,g77,g78,g79,g80,g81,g82,g83,g84,g85,g86,g87,g88,g89,g90,g91,g92,g93,g94,g95] M K = (call 44 #[.pointer x8] M).bind fun r_1 => (asI .i64 r_1.1).bind fun x_2 => K #[g0,.int .i64 x1,g2,g3,g4,g5,g6,.slice Ax7 lx7 cx7,.pointer x8,g9,g10,.int .i64 (IntKind.i64.wrap ((IntKind.i64.wrap ((IntKind.i64.wrap (x1 + 1)) + ((lx7 : Int)))) - (IntKind.i64.wrap (x_2.tdiv 8)))),g12,g13,g14,g15,g16,g17,g18,g19,g20,g21,g22,g23,g24,g25,g26,g27,g28,g29,g30,g31,g32,g33,g34,g35,g36,g37,g38,g39,g40,g41,g42,g43,g44,g45,g46,g47,g48,g49,g50,g51,g52,g53,g54,g55,g56,g57,g58,g59,.int .i64 x1,.int .i64 (IntKind.i64.wrap (x1 + 1)),.slice Ax7 lx7 cx7,.int .i64 ((lx7 : Int)),.int .i64 (IntKind.i64.wrap ((IntKind.i64.wrap (x1 + 1)) + ((lx7 : Int)))),.pointer x8,.int .i64 x_2,.int .i64 (IntKind.i64.wrap (x_2.tdiv 8)),.int .i64 (IntKind.i64.wrap ((IntKind.i64.wrap ((IntKind.i64.wrap (x1 + 1)) + ((lx7 : Int)))) - (IntKind.i64.wrap (x_2.tdiv 8)))),g69,g70,g71,g72,g73,g74,g75,g76,g77,g78,g79,g80,g81,g82,g83,g84,g85,g86,g87,g88,g89,g90,g91,g92,g93,g94,g95] r_1.2 := by kernel_rfl
theorem k28_43 : P28 [1,1,1,1,1,1,1,1,1] = .seq (P28 [1,1,1,1,1,1,1,1,1,0]) (P28 [1,1,1,1,1,1,1,1,1,1]) := by kernel_rfl
theorem k28_44 : P28 [1,1,1,1,1,1,1,1,1,0] = .seq (P28 [1,1,1,1,1,1,1,1,1,0,0]) (P28 [1,1,1,1,1,1,1,1,1,0,1]) := by kernel_rfl
theorem k28_45 : P28 [1,1,1,1,1,1,1,1,1,0,0] = .region 13 (O28 [1,1,1,1,1,1,1,1,1,0,0]) false := by kernel_rfl
theorem r28_13 {Ax0 : Option Addr} {lx0 cx0 : Nat} {x9 x11 : Int} {M : Mem} {call : CallM} {K : Array Value → Mem → R} :
    opsK Try.prog (fun _ => call) (O28 [1,1,1,1,1,1,1,1,1,0,0]) (O28 [1,1,1,1,1,1,1,1,1,0,0]).toList 0 #[.slice Ax0 lx0 cx0,g1,g2,g3,g4,g5,g6,g7,g8,.int .u32 x9,g10,.int .i64 x11,g12,g13,g14,g15,g16,g17,g18,g19,g20,g21,g22,g23,g24,g25,g26,g27,g28,g29,g30,g31,g32,g33,g34,g35,g36,g37,g38,g39,g40,g41,g42,g43,g44,g45,g46,g47,g48,g49,g50,g51,g52,g53,g54,g55,g56,g57,g58,g59,g60,g61,g62,g63,g64,g65,g66,g67,g68,g69,g70,g71,g72,g73,g74,g75,g76,g77,g78,g79,g80,g81,g82,g83,g84,g85,g86,g87,g88,g89,g90,g91,g92,g93,g94,g95] M K = K #[.slice Ax0 lx0 cx0,g1,g2,g3,g4,g5,g6,g7,g8,.int .u32 x9,g10,.int .i64 x11,g12,g13,g14,g15,g16,g17,g18,g19,g20,g21,g22,g23,g24,g25,g26,g27,g28,g29,g30,g31,g32,g33,g34,g35,g36,g37,g38,g39,g40,g41,g42,g43,g44,g45,g46,g47,g48,g49,g50,g51,g52,g53,g54,g55,g56,g57,g58,g59,g60,g61,g62,g63,g64,g65,g66,g67,g68,.int .u32 x9,.int .i64 (IntKind.i64.wrap (x9)),.slice Ax0 lx0 cx0,.int .i64 ((lx0 : Int)),.int .i64 x11,.int .i64 (IntKind.i64.wrap (((lx0 : Int)) - x11)),.bool (decide ((IntKind.i64.wrap (x9)) > (IntKind.i64.wrap (((lx0 : Int)) - x11)))),g76,g77,g78,g79,g80,g81,g82,g83,g84,g85,g86,g87,g88,g89,g90,g91,g92,g93,g94,g95] M := by kernel_rfl
theorem c28_46 : P28 [1,1,1,1,1,1,1,1,1,0,1] = .cond (.tmp 75) (P28 [1,1,1,1,1,1,1,1,1,0,1,0]) (P28 [1,1,1,1,1,1,1,1,1,0,1,1]) := by kernel_rfl
theorem k28_47 : P28 [1,1,1,1,1,1,1,1,1,0,1,0] = .seq (P28 [1,1,1,1,1,1,1,1,1,0,1,0,0]) (P28 [1,1,1,1,1,1,1,1,1,0,1,0,1]) := by kernel_rfl
theorem k28_48 : P28 [1,1,1,1,1,1,1,1,1,0,1,0,0] = .region 14 (O28 [1,1,1,1,1,1,1,1,1,0,1,0,0]) false := by kernel_rfl
theorem r28_14 {x4 : Option Addr} {M : Mem} {call : CallM} {K : Array Value → Mem → R} :
    opsK Try.prog (fun _ => call) (O28 [1,1,1,1,1,1,1,1,1,0,1,0,0]) (O28 [1,1,1,1,1,1,1,1,1,0,1,0,0]).toList 0 #[g0,g1,g2,g3,.pointer x4,g5,g6,g7,g8,g9,g10,g11,g12,g13,g14,g15,g16,g17,g18,g19,g20,g21,g22,g23,g24,g25,g26,g27,g28,g29,g30,g31,g32,g33,g34,g35,g36,g37,g38,g39,g40,g41,g42,g43,g44,g45,g46,g47,g48,g49,g50,g51,g52,g53,g54,g55,g56,g57,g58,g59,g60,g61,g62,g63,g64,g65,g66,g67,g68,g69,g70,g71,g72,g73,g74,g75,g76,g77,g78,g79,g80,g81,g82,g83,g84,g85,g86,g87,g88,g89,g90,g91,g92,g93,g94,g95] M K = (x4).bind fun a_1 => (M.put a_1.block a_1.off (.int .i64 0)).bind fun M_2 => (M_2.put a_1.block (a_1.off + 1) (.slice none 0 0)).bind fun M_3 => K #[g0,g1,g2,g3,.pointer x4,.int .i64 0,.int .i64 3,g7,g8,g9,g10,g11,g12,g13,g14,g15,g16,g17,g18,g19,g20,g21,g22,g23,g24,g25,g26,g27,g28,g29,g30,g31,g32,g33,g34,g35,g36,g37,g38,g39,g40,g41,g42,g43,g44,g45,g46,g47,g48,g49,g50,g51,g52,g53,g54,g55,g56,g57,g58,g59,g60,g61,g62,g63,g64,g65,g66,g67,g68,g69,g70,g71,g72,g73,g74,g75,.agg #[.int .i64 0, .slice none 0 0],g77,g78,g79,g80,g81,g82,g83,g84,g85,g86,g87,g88,g89,g90,g91,g92,g93,g94,g95] M_3 := by kernel_rfl
theorem k28_49 : P28 [1,1,1,1,1,1,1,1,1,0,1,0,1] = .ret := by kernel_rfl
theorem k28_50 : P28 [1,1,1,1,1,1,1,1,1,0,1,1] = .skip := by kernel_rfl
theorem k28_51 : P28 [1,1,1,1,1,1,1,1,1,1] = .seq (P28 [1,1,1,1,1,1,1,1,1,1,0]) (P28 [1,1,1,1,1,1,1,1,1,1,1]) := by kernel_rfl
theorem k28_52 : P28 [1,1,1,1,1,1,1,1,1,1,0] = .region 15 (O28 [1,1,1,1,1,1,1,1,1,1,0]) true ∧ drawOk (O28 [1,1,1,1,1,1,1,1,1,1,0]) = true := ⟨by kernel_rfl, by kernel_rfl⟩
theorem r28_15 {Ax0 : Option Addr} {lx0 cx0 : Nat} {x1 : Int} {x4 : Option Addr} {x9 x11 : Int} {M : Mem} {call : CallM} {K : Array Value → Mem → R} :
    opsI Try.prog (callAt call (O28 [1,1,1,1,1,1,1,1,1,1,0])) (O28 [1,1,1,1,1,1,1,1,1,1,0]) (ordOf (O28 [1,1,1,1,1,1,1,1,1,1,0])) [] #[.slice Ax0 lx0 cx0,.int .i64 x1,g2,g3,.pointer x4,g5,g6,g7,g8,.int .u32 x9,g10,.int .i64 x11,g12,g13,g14,g15,g16,g17,g18,g19,g20,g21,g22,g23,g24,g25,g26,g27,g28,g29,g30,g31,g32,g33,g34,g35,g36,g37,g38,g39,g40,g41,g42,g43,g44,g45,g46,g47,g48,g49,g50,g51,g52,g53,g54,g55,g56,g57,g58,g59,g60,g61,g62,g63,g64,g65,g66,g67,g68,g69,g70,g71,g72,g73,g74,g75,g76,g77,g78,g79,g80,g81,g82,g83,g84,g85,g86,g87,g88,g89,g90,g91,g92,g93,g94,g95] M K = (idxA Ax0 lx0 1 x1).bind fun a_1 => (M.intAt .u8 a_1.block a_1.off).bind fun x_2 => (sliceP Try.prog 22 (.slice Ax0 lx0 cx0) (some (.int .i64 x11)) (some (.int .i64 (IntKind.i64.wrap (x11 + (IntKind.i64.wrap (x9)))))) none).bind fun v_3 => (asS v_3).bind fun s_4 => (floored call 10 #[.slice s_4.1 (s_4.2.1) (s_4.2.2)] M).bind fun r_5 => (asS r_5.1).bind fun s_6 => (x4).bind fun a_7 => (r_5.2.put a_7.block a_7.off (.int .i64 (IntKind.i64.wrap (IntKind.u8.wrap (x_2.tdiv 16))))).bind fun M_8 => (M_8.put a_7.block (a_7.off + 1) (.slice s_6.1 (s_6.2.1) (s_6.2.2))).bind fun M_9 => K #[.slice Ax0 lx0 cx0,.int .i64 x1,g2,g3,.pointer x4,.int .i64 (IntKind.i64.wrap (x11 + (IntKind.i64.wrap (x9)))),.int .i64 0,g7,g8,.int .u32 x9,g10,.int .i64 x11,g12,g13,g14,g15,g16,g17,g18,g19,g20,g21,g22,g23,g24,g25,g26,g27,g28,g29,g30,g31,g32,g33,g34,g35,g36,g37,g38,g39,g40,g41,g42,g43,g44,g45,g46,g47,g48,g49,g50,g51,g52,g53,g54,g55,g56,g57,g58,g59,g60,g61,g62,g63,g64,g65,g66,g67,g68,g69,g70,g71,g72,g73,g74,g75,g76,.slice Ax0 lx0 cx0,.int .i64 x1,.pointer (some a_1),.int .u8 x_2,.int .u8 (IntKind.u8.wrap (x_2.tdiv 16)),.int .i64 (IntKind.i64.wrap (IntKind.u8.wrap (x_2.tdiv 16))),.slice Ax0 lx0 cx0,.int .i64 x11,.int .i64 x11,.int .u32 x9,.int .i64 (IntKind.i64.wrap (x9)),.int .i64 (IntKind.i64.wrap (x11 + (IntKind.i64.wrap (x9)))),.slice s_4.1 (s_4.2.1) (s_4.2.2),.slice s_6.1 (s_6.2.1) (s_6.2.2),.agg #[.int .i64 (IntKind.i64.wrap (IntKind.u8.wrap (x_2.tdiv 16))), .slice s_6.1 (s_6.2.1) (s_6.2.2)],.int .i64 x11,.int .u32 x9,.int .i64 (IntKind.i64.wrap (x9)),.int .i64 (IntKind.i64.wrap (x11 + (IntKind.i64.wrap (x9))))] M_9 := by kernel_rfl
theorem k28_53 : P28 [1,1,1,1,1,1,1,1,1,1,1] = .ret := by kernel_rfl
noncomputable def S28_1 : List Item := [.code (P28 [1,1,0,1]), .code (P28 [1,1,1])]
def A28_1 (Ax0 : Option Addr) (lx0 cx0 : Nat) (x1 : Int) (x4 : Option Addr) (x35 : Bool) (M : Mem) (Q : Value → Mem → Prop) : Prop := ∀ (g2 g3 g5 g6 g7 g8 g9 g10 g11 g12 g13 g14 g15 g16 g17 g18 g19 g20 g21 g22 g23 g24 g25 g26 g27 g28 g29 g30 g31 g32 g33 g34 g36 g37 g38 g39 g40 g41 g42 g43 g44 g45 g46 g47 g48 g49 g50 g51 g52 g53 g54 g55 g56 g57 g58 g59 g60 g61 g62 g63 g64 g65 g66 g67 g68 g69 g70 g71 g72 g73 g74 g75 g76 g77 g78 g79 g80 g81 g82 g83 g84 g85 g86 g87 g88 g89 g90 g91 g92 g93 g94 g95 : Value), Rn Try.prog Try.f28 S28_1 #[.slice Ax0 lx0 cx0, .int .i64 x1, g2, g3, .pointer x4, g5, g6, g7, g8, g9, g10, g11, g12, g13, g14, g15, g16, g17, g18, g19, g20, g21, g22, g23, g24, g25, g26, g27, g28, g29, g30, g31, g32, g33, g34, .bool x35, g36, g37, g38, g39, g40, g41, g42, g43, g44, g45, g46, g47, g48, g49, g50, g51, g52, g53, g54, g55, g56, g57, g58, g59, g60, g61, g62, g63, g64, g65, g66, g67, g68, g69, g70, g71, g72, g73, g74, g75, g76, g77, g78, g79, g80, g81, g82, g83, g84, g85, g86, g87, g88, g89, g90, g91, g92, g93, g94, g95] M Q
theorem w28_0 {Ax0 : Option Addr} {lx0 cx0 : Nat} {x1 : Int} {M : Mem} {Q : Value → Mem → Prop} (H :
    ((x1 ≥ ((lx0 : Int)) →
     ∃ M1', (M.new (.cells #[.int .i64 0, .slice none 0 0] 44)).put (2 * M.nb.size) 0 (.int .i64 0) = some M1' ∧
     ∃ M2', M1'.put (2 * M.nb.size) (0 + 1) (.slice none 0 0) = some M2' ∧
     ∃ x3', M2'.intAt .i64 (2 * M.nb.size) 0 = some x3' ∧
     ∃ s4', M2'.slAt (2 * M.nb.size) (0 + 1) = some s4' ∧
     Q (.tuple #[.agg #[.int .i64 (x3'), .slice s4'.1 (s4'.2.1) (s4'.2.2)], .int .i64 0, .int .i64 3]) M2') ∧
     (¬ (x1 ≥ ((lx0 : Int))) →
     ∃ a5', idxA Ax0 lx0 1 x1 = some a5' ∧
     ∃ x6', (M.new (.cells #[.int .i64 0, .slice none 0 0] 44)).intAt .u8 a5'.block a5'.off = some x6' ∧
     ((x6' ≠ 16 →
      ∃ a7', idxA Ax0 lx0 1 x1 = some a7' ∧
      ∃ x8', (M.new (.cells #[.int .i64 0, .slice none 0 0] 44)).intAt .u8 a7'.block a7'.off = some x8' ∧
      ((x8' ≠ 32 →
       ∃ a9', idxA Ax0 lx0 1 x1 = some a9' ∧
       ∃ x10', (M.new (.cells #[.int .i64 0, .slice none 0 0] 44)).intAt .u8 a9'.block a9'.off = some x10' ∧
       A28_1 Ax0 lx0 cx0 x1 (some ⟨2 * M.nb.size, 0, none⟩) (x10' != 48) (M.new (.cells #[.int .i64 0, .slice none 0 0] 44)) Q) ∧
       (x8' = 32 →
       A28_1 Ax0 lx0 cx0 x1 (some ⟨2 * M.nb.size, 0, none⟩) false (M.new (.cells #[.int .i64 0, .slice none 0 0] 44)) Q))) ∧
      (x6' = 16 →
      A28_1 Ax0 lx0 cx0 x1 (some ⟨2 * M.nb.size, 0, none⟩) false (M.new (.cells #[.int .i64 0, .slice none 0 0] 44)) Q))))) :
    Cn Try.prog 28 #[.slice Ax0 lx0 cx0, .int .i64 x1] M Q := by
  refine Cn.of b28 d28 t28 ?_
  refine Rn.seq k28_0 (Rn.region k28_1 (fun call K => r28_0) (Rch.leaf (Rn.seq k28_2 (Rn.seq k28_3 (Rn.region k28_4 (fun call K => r28_1) (Rch.leaf ?_))))))
  refine Rn.cnd (v := decide (x1 ≥ ((lx0 : Int)))) ⟨c28_5, rfl, by kernel_rfl⟩ (fun h => ?_) (fun h => ?_)
  · replace H := H.1 (of_decide_eq_true h)
    refine Rn.seq k28_6 (Rn.region k28_7 (fun call K => r28_2) (Rch.bind (x := ⟨2 * M.nb.size, 0, none⟩) rfl (Rch.ex H fun M1' H => Rch.ex H fun M2' H => Rch.leaf (Rn.retK k28_8 (fun K => e28_0) (Rch.bind (x := ⟨2 * M.nb.size, 0, none⟩) rfl (Rch.ex H fun x3' H => Rch.ex H fun s4' H => ?_))))))
    exact Rch.fin H
  · replace H := H.2 (of_decide_eq_false h)
    refine Rn.skip k28_10 (Rn.seq k28_11 (Rn.seq k28_12 (Rn.region k28_13 (fun call K => r28_3) (Rch.ex H fun a5' H => Rch.ex H fun x6' H => ?_))))
    refine Rch.cB (fun h => ?_) (fun h => ?_)
    · replace H := H.1 (ne_of_bneT h)
      refine Rch.ex H fun a7' H => Rch.ex H fun x8' H => ?_
      refine Rch.cB (fun h => ?_) (fun h => ?_)
      · replace H := H.1 (ne_of_bneT h)
        refine Rch.ex H fun a9' H => Rch.ex H fun x10' H => Rch.leaf ?_
        exact H _ _ _ _ _ _ _ _ _ _ _ _ _ _ _ _ _ _ _ _ _ _ _ _ _ _ _ _ _ _ _ _ _ _ _ _ _ _ _ _ _ _ _ _ _ _ _ _ _ _ _ _ _ _ _ _ _ _ _ _ _ _ _ _ _ _ _ _ _ _ _ _ _ _ _ _ _ _ _ _ _ _ _ _ _ _ _ _ _ _ _ _
      · replace H := H.2 (eq_of_bneF h)
        refine Rch.leaf ?_
        exact H _ _ _ _ _ _ _ _ _ _ _ _ _ _ _ _ _ _ _ _ _ _ _ _ _ _ _ _ _ _ _ _ _ _ _ _ _ _ _ _ _ _ _ _ _ _ _ _ _ _ _ _ _ _ _ _ _ _ _ _ _ _ _ _ _ _ _ _ _ _ _ _ _ _ _ _ _ _ _ _ _ _ _ _ _ _ _ _ _ _ _ _
    · replace H := H.2 (eq_of_bneF h)
      refine Rch.leaf ?_
      exact H _ _ _ _ _ _ _ _ _ _ _ _ _ _ _ _ _ _ _ _ _ _ _ _ _ _ _ _ _ _ _ _ _ _ _ _ _ _ _ _ _ _ _ _ _ _ _ _ _ _ _ _ _ _ _ _ _ _ _ _ _ _ _ _ _ _ _ _ _ _ _ _ _ _ _ _ _ _ _ _ _ _ _ _ _ _ _ _ _ _ _ _

theorem w28_1 {Ax0 : Option Addr} {lx0 cx0 : Nat} {x1 : Int} {x4 : Option Addr} {x35 : Bool} {M : Mem} {Q : Value → Mem → Prop} (H :
    ((x35 = true →
     ∃ a11', x4 = some a11' ∧
     ∃ M12', M.put a11'.block a11'.off (.int .i64 0) = some M12' ∧
     ∃ M13', M12'.put a11'.block (a11'.off + 1) (.slice none 0 0) = some M13' ∧
     ∃ a14', x4 = some a14' ∧
     ∃ x15', M13'.intAt .i64 a14'.block a14'.off = some x15' ∧
     ∃ s16', M13'.slAt a14'.block (a14'.off + 1) = some s16' ∧
     Q (.tuple #[.agg #[.int .i64 (x15'), .slice s16'.1 (s16'.2.1) (s16'.2.2)], .int .i64 0, .int .i64 4]) M13') ∧
     (x35 = false →
     ∃ v17', sliceP Try.prog 22 (.slice Ax0 lx0 cx0) (some (.int .i64 (IntKind.i64.wrap (x1 + 1)))) (some (.int .i64 (if (lx0 : Int) < IntKind.i64.wrap (x1 + 6) then (lx0 : Int) else IntKind.i64.wrap (x1 + 6)))) none = some v17' ∧
     ∃ s18', asS v17' = some s18' ∧
     Cn Try.prog 42 #[.slice s18'.1 s18'.2.1 s18'.2.2] M fun v19' N19' =>
      ∃ p20', asP v19' = some p20' ∧
      Cn Try.prog 43 #[.pointer p20'] N19' fun v21' N21' =>
       ∃ cs22', asU 2 v21' = some cs22' ∧
       ∃ x23', asI .u32 (cs22'.getD 0 undef) = some x23' ∧
       ∃ x24', asI .i64 (cs22'.getD 1 undef) = some x24' ∧
       ((x24' ≠ 0 →
        ∃ a25', x4 = some a25' ∧
        ∃ M26', N21'.put a25'.block a25'.off (.int .i64 0) = some M26' ∧
        ∃ M27', M26'.put a25'.block (a25'.off + 1) (.slice none 0 0) = some M27' ∧
        ∃ a28', x4 = some a28' ∧
        ∃ x29', M27'.intAt .i64 a28'.block a28'.off = some x29' ∧
        ∃ s30', M27'.slAt a28'.block (a28'.off + 1) = some s30' ∧
        Q (.tuple #[.agg #[.int .i64 (x29'), .slice s30'.1 (s30'.2.1) (s30'.2.2)], .int .i64 0, .int .i64 (x24')]) M27') ∧
        (x24' = 0 →
        ((x23' > 16777216 →
         ∃ a31', x4 = some a31' ∧
         ∃ M32', N21'.put a31'.block a31'.off (.int .i64 0) = some M32' ∧
         ∃ M33', M32'.put a31'.block (a31'.off + 1) (.slice none 0 0) = some M33' ∧
         ∃ a34', x4 = some a34' ∧
         ∃ x35', M33'.intAt .i64 a34'.block a34'.off = some x35' ∧
         ∃ s36', M33'.slAt a34'.block (a34'.off + 1) = some s36' ∧
         Q (.tuple #[.agg #[.int .i64 (x35'), .slice s36'.1 (s36'.2.1) (s36'.2.2)], .int .i64 0, .int .i64 5]) M33') ∧
         (¬ (x23' > 16777216) →
         Cn Try.prog 44 #[.pointer p20'] N21' fun v37' N37' =>
          ∃ x38', asI .i64 v37' = some x38' ∧
          (((IntKind.i64.wrap (x23')) > (IntKind.i64.wrap (((lx0 : Int)) - (IntKind.i64.wrap ((IntKind.i64.wrap ((IntKind.i64.wrap (x1 + 1)) + ((s18'.2.1 : Int)))) - (IntKind.i64.wrap (x38'.tdiv 8)))))) →
           ∃ a39', x4 = some a39' ∧
           ∃ M40', N37'.put a39'.block a39'.off (.int .i64 0) = some M40' ∧
           ∃ M41', M40'.put a39'.block (a39'.off + 1) (.slice none 0 0) = some M41' ∧
           ∃ a42', x4 = some a42' ∧
           ∃ x43', M41'.intAt .i64 a42'.block a42'.off = some x43' ∧
           ∃ s44', M41'.slAt a42'.block (a42'.off + 1) = some s44' ∧
           Q (.tuple #[.agg #[.int .i64 (x43'), .slice s44'.1 (s44'.2.1) (s44'.2.2)], .int .i64 0, .int .i64 3]) M41') ∧
           (¬ ((IntKind.i64.wrap (x23')) > (IntKind.i64.wrap (((lx0 : Int)) - (IntKind.i64.wrap ((IntKind.i64.wrap ((IntKind.i64.wrap (x1 + 1)) + ((s18'.2.1 : Int)))) - (IntKind.i64.wrap (x38'.tdiv 8))))))) →
           ∃ a45', idxA Ax0 lx0 1 x1 = some a45' ∧
           ∃ x46', N37'.intAt .u8 a45'.block a45'.off = some x46' ∧
           ∃ v47', sliceP Try.prog 22 (.slice Ax0 lx0 cx0) (some (.int .i64 (IntKind.i64.wrap ((IntKind.i64.wrap ((IntKind.i64.wrap (x1 + 1)) + ((s18'.2.1 : Int)))) - (IntKind.i64.wrap (x38'.tdiv 8)))))) (some (.int .i64 (IntKind.i64.wrap ((IntKind.i64.wrap ((IntKind.i64.wrap ((IntKind.i64.wrap (x1 + 1)) + ((s18'.2.1 : Int)))) - (IntKind.i64.wrap (x38'.tdiv 8)))) + (IntKind.i64.wrap (x23')))))) none = some v47' ∧
           ∃ s48', asS v47' = some s48' ∧
           Cn Try.prog 10 #[.slice s48'.1 (s48'.2.1) (s48'.2.2)] { N37' with floor := N37'.nb.size } fun v49' N49' =>
            ∃ s50', asS v49' = some s50' ∧
            ∃ a51', x4 = some a51' ∧
            ∃ M52', { N49' with floor := N37'.floor }.put a51'.block a51'.off (.int .i64 (IntKind.i64.wrap (IntKind.u8.wrap (x46'.tdiv 16)))) = some M52' ∧
            ∃ M53', M52'.put a51'.block (a51'.off + 1) (.slice s50'.1 (s50'.2.1) (s50'.2.2)) = some M53' ∧
            ∃ a54', x4 = some a54' ∧
            ∃ x55', M53'.intAt .i64 a54'.block a54'.off = some x55' ∧
            ∃ s56', M53'.slAt a54'.block (a54'.off + 1) = some s56' ∧
            Q (.tuple #[.agg #[.int .i64 (x55'), .slice s56'.1 (s56'.2.1) (s56'.2.2)], .int .i64 (IntKind.i64.wrap ((IntKind.i64.wrap ((IntKind.i64.wrap ((IntKind.i64.wrap (x1 + 1)) + ((s18'.2.1 : Int)))) - (IntKind.i64.wrap (x38'.tdiv 8)))) + (IntKind.i64.wrap (x23')))), .int .i64 0]) M53'))))))))) :
    A28_1 Ax0 lx0 cx0 x1 x4 x35 M Q := by
  intro g2 g3 g5 g6 g7 g8 g9 g10 g11 g12 g13 g14 g15 g16 g17 g18 g19 g20 g21 g22 g23 g24 g25 g26 g27 g28 g29 g30 g31 g32 g33 g34 g36 g37 g38 g39 g40 g41 g42 g43 g44 g45 g46 g47 g48 g49 g50 g51 g52 g53 g54 g55 g56 g57 g58 g59 g60 g61 g62 g63 g64 g65 g66 g67 g68 g69 g70 g71 g72 g73 g74 g75 g76 g77 g78 g79 g80 g81 g82 g83 g84 g85 g86 g87 g88 g89 g90 g91 g92 g93 g94 g95
  refine Rn.cnd (v := x35) ⟨c28_14, rfl, by kernel_rfl⟩ (fun h => ?_) (fun h => ?_)
  · replace H := H.1 (h)
    refine Rn.seq k28_15 (Rn.region k28_16 (fun call K => r28_4) (Rch.ex H fun a11' H => Rch.ex H fun M12' H => Rch.ex H fun M13' H => Rch.leaf (Rn.retK k28_17 (fun K => e28_0) (Rch.ex H fun a14' H => Rch.ex H fun x15' H => Rch.ex H fun s16' H => ?_))))
    exact Rch.fin H
  · replace H := H.2 (h)
    refine Rn.skip k28_18 (Rn.seq k28_19 (Rn.region k28_20 (fun call K => r28_5) (Rch.ex H fun v17' H => Rch.ex H fun s18' H => Rch.leaf (Rn.seq k28_21 (Rn.region k28_22 (fun call K => r28_6) (Rch.call H fun v19' N19' H => Rch.ex H fun p20' H => Rch.leaf (Rn.seq k28_23 ?_)))))))
    refine Rn.region k28_24 (fun call K => r28_7) (Rch.call H fun v21' N21' H => Rch.ex H fun cs22' H => Rch.ex H fun x23' H => Rch.ex H fun x24' H => Rch.leaf (Rn.seq k28_25 (Rn.seq k28_26 (Rn.region k28_27 (fun call K => r28_8) (Rch.leaf ?_)))))
    refine Rn.cnd (v := x24' != 0) ⟨c28_28, rfl, by kernel_rfl⟩ (fun h => ?_) (fun h => ?_)
    · replace H := H.1 (ne_of_bneT h)
      refine Rn.seq k28_29 (Rn.region k28_30 (fun call K => r28_9) (Rch.ex H fun a25' H => Rch.ex H fun M26' H => Rch.ex H fun M27' H => Rch.leaf (Rn.retK k28_31 (fun K => e28_0) (Rch.ex H fun a28' H => Rch.ex H fun x29' H => Rch.ex H fun s30' H => ?_))))
      exact Rch.fin H
    · replace H := H.2 (eq_of_bneF h)
      refine Rn.skip k28_32 (Rn.seq k28_33 (Rn.seq k28_34 (Rn.region k28_35 (fun call K => r28_10) (Rch.leaf ?_))))
      refine Rn.cnd (v := decide (x23' > 16777216)) ⟨c28_36, rfl, by kernel_rfl⟩ (fun h => ?_) (fun h => ?_)
      · replace H := H.1 (of_decide_eq_true h)
        refine Rn.seq k28_37 (Rn.region k28_38 (fun call K => r28_11) (Rch.ex H fun a31' H => Rch.ex H fun M32' H => Rch.ex H fun M33' H => Rch.leaf (Rn.retK k28_39 (fun K => e28_0) (Rch.ex H fun a34' H => Rch.ex H fun x35' H => Rch.ex H fun s36' H => ?_))))
        exact Rch.fin H
      · replace H := H.2 (of_decide_eq_false h)
        refine Rn.skip k28_40 (Rn.seq k28_41 (Rn.region k28_42 (fun call K => r28_12) (Rch.call H fun v37' N37' H => Rch.ex H fun x38' H => Rch.leaf (Rn.seq k28_43 (Rn.seq k28_44 (Rn.region k28_45 (fun call K => r28_13) (Rch.leaf ?_)))))))
        refine Rn.cnd (v := decide ((IntKind.i64.wrap (x23')) > (IntKind.i64.wrap (((lx0 : Int)) - (IntKind.i64.wrap ((IntKind.i64.wrap ((IntKind.i64.wrap (x1 + 1)) + ((s18'.2.1 : Int)))) - (IntKind.i64.wrap (x38'.tdiv 8)))))))) ⟨c28_46, rfl, by kernel_rfl⟩ (fun h => ?_) (fun h => ?_)
        · replace H := H.1 (of_decide_eq_true h)
          refine Rn.seq k28_47 (Rn.region k28_48 (fun call K => r28_14) (Rch.ex H fun a39' H => Rch.ex H fun M40' H => Rch.ex H fun M41' H => Rch.leaf (Rn.retK k28_49 (fun K => e28_0) (Rch.ex H fun a42' H => Rch.ex H fun x43' H => Rch.ex H fun s44' H => ?_))))
          exact Rch.fin H
        · replace H := H.2 (of_decide_eq_false h)
          refine Rn.skip k28_50 (Rn.seq k28_51 (Rn.regionD k28_52 (fun call K => r28_15) (Rch.ex H fun a45' H => Rch.ex H fun x46' H => Rch.ex H fun v47' H => Rch.ex H fun s48' H => Rch.callF H fun v49' N49' H => Rch.ex H fun s50' H => Rch.ex H fun a51' H => Rch.ex H fun M52' H => Rch.ex H fun M53' H => ?_)))
          refine Rch.leaf (Rn.retK k28_53 (fun K => e28_0) (Rch.ex H fun a54' H => Rch.ex H fun x55' H => Rch.ex H fun s56' H => ?_))
          exact Rch.fin H


/-! ### zoetrope/zoetroperef19.Split: function 12 -/
noncomputable abbrev P12 (p : List Nat) : Code := subC (codeOf Try.f12) p
noncomputable abbrev O12 (p : List Nat) : Array Oper := opsOf (subC (codeOf Try.f12) p)
theorem b12 : Try.prog.funcs[12]? = some Try.f12 ∧ (Orc.tab Try.prog).lookup 12 = none := ⟨by kernel_rfl, by kernel_rfl⟩
theorem d12 : Try.f12.body = some (P12 []) := by kernel_rfl
theorem t12 {Ax0 : Option Addr} {lx0 cx0 : Nat} : #[.slice Ax0 lx0 cx0] ++ Array.replicate (Try.f12.ntmps - (#[.slice Ax0 lx0 cx0] : Array Value).size) undef = #[.slice Ax0 lx0 cx0,undef,undef,undef,undef,undef,undef,undef,undef,undef,undef,undef,undef,undef,undef,undef,undef,undef,undef,undef,undef,undef,undef,undef,undef,undef,undef,undef,undef,undef,undef,undef,undef] := by kernel_rfl
theorem k12_0 : P12 [] = .seq (P12 [0]) (P12 [1]) := by kernel_rfl
theorem k12_1 : P12 [0] = .region 0 (O12 [0]) false := by kernel_rfl
theorem r12_0 {M : Mem} {call : CallM} {K : Array Value → Mem → R} :
    opsK Try.prog (fun _ => call) (O12 [0]) (O12 [0]).toList 0 #[g0,g1,g2,g3,g4,g5,g6,g7,g8,g9,g10,g11,g12,g13,g14,g15,g16,g17,g18,g19,g20,g21,g22,g23,g24,g25,g26,g27,g28,g29,g30,g31,g32] M K = K #[g0,g1,.slice none 0 0,.int .i64 0,.int .i64 0,g5,g6,g7,g8,g9,g10,g11,g12,g13,g14,g15,g16,g17,g18,g19,g20,g21,g22,g23,g24,g25,g26,g27,g28,g29,g30,g31,g32] M := by kernel_rfl
theorem k12_2 : P12 [1] = .seq (P12 [1,0]) (P12 [1,1]) := by kernel_rfl
theorem k12_3 : P12 [1,0] = .region 1 (O12 [1,0]) false := by kernel_rfl
theorem r12_1 {M : Mem} {call : CallM} {K : Array Value → Mem → R} :
    opsK Try.prog (fun _ => call) (O12 [1,0]) (O12 [1,0]).toList 0 #[g0,g1,g2,g3,g4,g5,g6,g7,g8,g9,g10,g11,g12,g13,g14,g15,g16,g17,g18,g19,g20,g21,g22,g23,g24,g25,g26,g27,g28,g29,g30,g31,g32] M K = K #[g0,g1,g2,g3,g4,.slice none 0 0,g6,g7,g8,g9,g10,g11,g12,g13,g14,g15,g16,g17,g18,g19,g20,g21,g22,g23,g24,g25,g26,g27,g28,g29,g30,g31,g32] M := by kernel_rfl
theorem k12_4 : P12 [1,1] = .seq (P12 [1,1,0]) (P12 [1,1,1]) := by kernel_rfl
theorem k12_5 : P12 [1,1,0] = .region 2 (O12 [1,1,0]) false := by kernel_rfl
theorem r12_2 {M : Mem} {call : CallM} {K : Array Value → Mem → R} :
    opsK Try.prog (fun _ => call) (O12 [1,1,0]) (O12 [1,1,0]).toList 0 #[g0,g1,g2,g3,g4,g5,g6,g7,g8,g9,g10,g11,g12,g13,g14,g15,g16,g17,g18,g19,g20,g21,g22,g23,g24,g25,g26,g27,g28,g29,g30,g31,g32] M K = K #[g0,g1,g2,g3,g4,g5,.int .i64 0,g7,g8,g9,g10,g11,g12,g13,g14,g15,g16,g17,g18,g19,g20,g21,g22,g23,g24,g25,g26,g27,g28,g29,g30,g31,g32] M := by kernel_rfl
theorem k12_6 : P12 [1,1,1] = .seq (P12 [1,1,1,0]) (P12 [1,1,1,1]) := by kernel_rfl
theorem k12_7 : P12 [1,1,1,0] = .block 0 (P12 [1,1,1,0,0]) := by kernel_rfl
theorem k12_8 : P12 [1,1,1,0,0] = .loop (P12 [1,1,1,0,0,0]) := by kernel_rfl
theorem k12_9 : P12 [1,1,1,0,0,0] = .seq (P12 [1,1,1,0,0,0,0]) (P12 [1,1,1,0,0,0,1]) := by kernel_rfl
theorem k12_10 : P12 [1,1,1,0,0,0,0] = .seq (P12 [1,1,1,0,0,0,0,0]) (P12 [1,1,1,0,0,0,0,1]) := by kernel_rfl
theorem k12_11 : P12 [1,1,1,0,0,0,0,0] = .region 3 (O12 [1,1,1,0,0,0,0,0]) false := by kernel_rfl
theorem r12_3 {Ax0 : Option Addr} {lx0 cx0 : Nat} {x6 : Int} {M : Mem} {call : CallM} {K : Array Value → Mem → R} :
    opsK Try.prog (fun _ => call) (O12 [1,1,1,0,0,0,0,0]) (O12 [1,1,1,0,0,0,0,0]).toList 0 #[.slice Ax0 lx0 cx0,g1,g2,g3,g4,g5,.int .i64 x6,g7,g8,g9,g10,g11,g12,g13,g14,g15,g16,g17,g18,g19,g20,g21,g22,g23,g24,g25,g26,g27,g28,g29,g30,g31,g32] M K = K #[.slice Ax0 lx0 cx0,g1,g2,g3,g4,g5,.int .i64 x6,g7,g8,g9,.int .i64 x6,.slice Ax0 lx0 cx0,.int .i64 ((lx0 : Int)),.bool (decide (x6 < ((lx0 : Int)))),g14,g15,g16,g17,g18,g19,g20,g21,g22,g23,g24,g25,g26,g27,g28,g29,g30,g31,g32] M := by kernel_rfl
theorem c12_12 : P12 [1,1,1,0,0,0,0,1] = .cond (.tmp 13) (P12 [1,1,1,0,0,0,0,1,0]) (P12 [1,1,1,0,0,0,0,1,1]) := by kernel_rfl
theorem k12_13 : P12 [1,1,1,0,0,0,0,1,0] = .skip := by kernel_rfl
theorem k12_14 : P12 [1,1,1,0,0,0,1] = .block 1 (P12 [1,1,1,0,0,0,1,0]) := by kernel_rfl
theorem k12_15 : P12 [1,1,1,0,0,0,1,0] = .seq (P12 [1,1,1,0,0,0,1,0,0]) (P12 [1,1,1,0,0,0,1,0,1]) := by kernel_rfl
theorem k12_16 : P12 [1,1,1,0,0,0,1,0,0] = .region 4 (O12 [1,1,1,0,0,0,1,0,0]) false := by kernel_rfl
theorem r12_4 {Ax0 : Option Addr} {lx0 cx0 : Nat} {x6 : Int} {M : Mem} {call : CallM} {K : Array Value → Mem → R} :
    opsK Try.prog (fun _ => call) (O12 [1,1,1,0,0,0,1,0,0]) (O12 [1,1,1,0,0,0,1,0,0]).toList 0 #[.slice Ax0 lx0 cx0,g1,g2,g3,g4,g5,.int .i64 x6,g7,g8,g9,g10,g11,g12,g13,g14,g15,g16,g17,g18,g19,g20,g21,g22,g23,g24,g25,g26,g27,g28,g29,g30,g31,g32] M K = (call 28 #[.slice Ax0 lx0 cx0, .int .i64 x6] M).bind fun r_1 => (asU 3 r_1.1).bind fun cs_2 => (asA 2 (cs_2.getD 0 undef)).bind fun cs_3 => (asI .i64 (cs_3.getD 0 undef)).bind fun x_4 => (asS (cs_3.getD 1 undef)).bind fun s_5 => (asI .i64 (cs_2.getD 1 undef)).bind fun x_6 => (asI .i64 (cs_2.getD 2 undef)).bind fun x_7 => ((r_1.2.new (.cells #[.int .i64 0, .slice none 0 0] 44)).put (2 * r_1.2.nb.size) 0 (.int .i64 x_4)).bind fun M_8 => (M_8.put (2 * r_1.2.nb.size) 1 (.slice s_5.1 (s_5.2.1) (s_5.2.2))).bind fun M_9 => K #[.slice Ax0 lx0 cx0,g1,g2,g3,g4,g5,.int .i64 x6,.pointer (some ⟨2 * r_1.2.nb.size, 0, none⟩),.int .i64 x_6,.int .i64 x_7,g10,g11,g12,g13,.tuple #[.agg #[.int .i64 x_4, .slice s_5.1 (s_5.2.1) (s_5.2.2)], .int .i64 x_6, .int .i64 x_7],.slice Ax0 lx0 cx0,.int .i64 x6,.tuple #[.agg #[.int .i64 x_4, .slice s_5.1 (s_5.2.1) (s_5.2.2)], .int .i64 x_6, .int .i64 x_7],.agg #[.int .i64 x_4, .slice s_5.1 (s_5.2.1) (s_5.2.2)],.int .i64 x_6,.int .i64 x_7,g21,g22,g23,g24,g25,g26,g27,g28,g29,g30,g31,g32] M_9 := by kernel_rfl
theorem k12_17 : P12 [1,1,1,0,0,0,1,0,1] = .seq (P12 [1,1,1,0,0,0,1,0,1,0]) (P12 [1,1,1,0,0,0,1,0,1,1]) := by kernel_rfl
theorem k12_18 : P12 [1,1,1,0,0,0,1,0,1,0] = .seq (P12 [1,1,1,0,0,0,1,0,1,0,0]) (P12 [1,1,1,0,0,0,1,0,1,0,1]) := by kernel_rfl
theorem k12_19 : P12 [1,1,1,0,0,0,1,0,1,0,0] = .region 5 (O12 [1,1,1,0,0,0,1,0,1,0,0]) false := by kernel_rfl
theorem r12_5 {x9 : Int} {M : Mem} {call : CallM} {K : Array Value → Mem → R} :
    opsK Try.prog (fun _ => call) (O12 [1,1,1,0,0,0,1,0,1,0,0]) (O12 [1,1,1,0,0,0,1,0,1,0,0]).toList 0 #[g0,g1,g2,g3,g4,g5,g6,g7,g8,.int .i64 x9,g10,g11,g12,g13,g14,g15,g16,g17,g18,g19,g20,g21,g22,g23,g24,g25,g26,g27,g28,g29,g30,g31,g32] M K = K #[g0,g1,g2,g3,g4,g5,g6,g7,g8,.int .i64 x9,g10,g11,g12,g13,g14,g15,g16,g17,g18,g19,g20,.int .i64 x9,.bool (x9 != 0),g23,g24,g25,g26,g27,g28,g29,g30,g31,g32] M := by kernel_rfl
theorem c12_20 : P12 [1,1,1,0,0,0,1,0,1,0,1] = .cond (.tmp 22) (P12 [1,1,1,0,0,0,1,0,1,0,1,0]) (P12 [1,1,1,0,0,0,1,0,1,0,1,1]) := by kernel_rfl
theorem k12_21 : P12 [1,1,1,0,0,0,1,0,1,0,1,0] = .seq (P12 [1,1,1,0,0,0,1,0,1,0,1,0,0]) (P12 [1,1,1,0,0,0,1,0,1,0,1,0,1]) := by kernel_rfl
theorem k12_22 : P12 [1,1,1,0,0,0,1,0,1,0,1,0,0] = .region 6 (O12 [1,1,1,0,0,0,1,0,1,0,1,0,0]) false := by kernel_rfl
theorem r12_6 {Ax5 : Option Addr} {lx5 cx5 : Nat} {x6 x9 : Int} {M : Mem} {call : CallM} {K : Array Value → Mem → R} :
    opsK Try.prog (fun _ => call) (O12 [1,1,1,0,0,0,1,0,1,0,1,0,0]) (O12 [1,1,1,0,0,0,1,0,1,0,1,0,0]).toList 0 #[g0,g1,g2,g3,g4,.slice Ax5 lx5 cx5,.int .i64 x6,g7,g8,.int .i64 x9,g10,g11,g12,g13,g14,g15,g16,g17,g18,g19,g20,g21,g22,g23,g24,g25,g26,g27,g28,g29,g30,g31,g32] M K = K #[g0,g1,.slice Ax5 lx5 cx5,.int .i64 x6,.int .i64 x9,.slice Ax5 lx5 cx5,.int .i64 x6,g7,g8,.int .i64 x9,g10,g11,g12,g13,g14,g15,g16,g17,g18,g19,g20,g21,g22,.slice Ax5 lx5 cx5,.int .i64 x6,.int .i64 x9,g26,g27,g28,g29,g30,g31,g32] M := by kernel_rfl
theorem k12_23 : P12 [1,1,1,0,0,0,1,0,1,0,1,0,1] = .ret := by kernel_rfl
theorem e12 {M : Mem} : finish Try.prog Try.f12 #[g0,g1,g2,g3,g4,g5,g6,g7,g8,g9,g10,g11,g12,g13,g14,g15,g16,g17,g18,g19,g20,g21,g22,g23,g24,g25,g26,g27,g28,g29,g30,g31,g32] M = some (.tuple #[g2, g3, g4], M) := by kernel_rfl
theorem k12_25 : P12 [1,1,1,0,0,0,1,0,1,0,1,1] = .skip := by kernel_rfl
theorem k12_26 : P12 [1,1,1,0,0,0,1,0,1,1] = .seq (P12 [1,1,1,0,0,0,1,0,1,1,0]) (P12 [1,1,1,0,0,0,1,0,1,1,1]) := by kernel_rfl
theorem k12_27 : P12 [1,1,1,0,0,0,1,0,1,1,0] = .region 7 (O12 [1,1,1,0,0,0,1,0,1,1,0]) false := by kernel_rfl
theorem r12_7 {Ax5 : Option Addr} {lx5 cx5 : Nat} {x7 : Option Addr} {M : Mem} {call : CallM} {K : Array Value → Mem → R} :
    opsK Try.prog (fun _ => call) (O12 [1,1,1,0,0,0,1,0,1,1,0]) (O12 [1,1,1,0,0,0,1,0,1,1,0]).toList 0 #[g0,g1,g2,g3,g4,.slice Ax5 lx5 cx5,g6,.pointer x7,g8,g9,g10,g11,g12,g13,g14,g15,g16,g17,g18,g19,g20,g21,g22,g23,g24,g25,g26,g27,g28,g29,g30,g31,g32] M K = (x7).bind fun a_1 => (M.intAt .i64 a_1.block a_1.off).bind fun x_2 => (M.slAt a_1.block (a_1.off + 1)).bind fun s_3 => (appendP Try.prog #[24, 24] (.slice Ax5 lx5 cx5) (.slice (some ⟨2 * M.nb.size, 0, none⟩) 1 1) (M.new (.cells #[.int .i64 x_2, .slice s_3.1 (s_3.2.1) (s_3.2.2)] 44))).bind fun r_4 => (asS r_4.1).bind fun s_5 => K #[g0,g1,g2,g3,g4,.slice s_5.1 (s_5.2.1) (s_5.2.2),g6,.pointer x7,g8,g9,g10,g11,g12,g13,g14,g15,g16,g17,g18,g19,g20,g21,g22,g23,g24,g25,.slice Ax5 lx5 cx5,.agg #[.int .i64 x_2, .slice s_3.1 (s_3.2.1) (s_3.2.2)],.slice (some ⟨2 * M.nb.size, 0, none⟩) 1 1,.slice s_5.1 (s_5.2.1) (s_5.2.2),g30,g31,g32] r_4.2 := by kernel_rfl
theorem k12_28 : P12 [1,1,1,0,0,0,1,0,1,1,1] = .region 8 (O12 [1,1,1,0,0,0,1,0,1,1,1]) false := by kernel_rfl
theorem r12_8 {x8 : Int} {M : Mem} {call : CallM} {K : Array Value → Mem → R} :
    opsK Try.prog (fun _ => call) (O12 [1,1,1,0,0,0,1,0,1,1,1]) (O12 [1,1,1,0,0,0,1,0,1,1,1]).toList 0 #[g0,g1,g2,g3,g4,g5,g6,g7,.int .i64 x8,g9,g10,g11,g12,g13,g14,g15,g16,g17,g18,g19,g20,g21,g22,g23,g24,g25,g26,g27,g28,g29,g30,g31,g32] M K = K #[g0,g1,g2,g3,g4,g5,.int .i64 x8,g7,.int .i64 x8,g9,g10,g11,g12,g13,g14,g15,g16,g17,g18,g19,g20,g21,g22,g23,g24,g25,g26,g27,g28,g29,.int .i64 x8,g31,g32] M := by kernel_rfl
theorem k12_29 : P12 [1,1,1,0,0,0,0,1,1] = .exit 0 := by kernel_rfl
theorem k12_30 : P12 [1,1,1,1] = .seq (P12 [1,1,1,1,0]) (P12 [1,1,1,1,1]) := by kernel_rfl
theorem k12_31 : P12 [1,1,1,1,0] = .region 9 (O12 [1,1,1,1,0]) false := by kernel_rfl
theorem r12_9 {Ax5 : Option Addr} {lx5 cx5 : Nat} {x6 : Int} {M : Mem} {call : CallM} {K : Array Value → Mem → R} :
    opsK Try.prog (fun _ => call) (O12 [1,1,1,1,0]) (O12 [1,1,1,1,0]).toList 0 #[g0,g1,g2,g3,g4,.slice Ax5 lx5 cx5,.int .i64 x6,g7,g8,g9,g10,g11,g12,g13,g14,g15,g16,g17,g18,g19,g20,g21,g22,g23,g24,g25,g26,g27,g28,g29,g30,g31,g32] M K = K #[g0,g1,.slice Ax5 lx5 cx5,.int .i64 x6,.int .i64 0,.slice Ax5 lx5 cx5,.int .i64 x6,g7,g8,g9,g10,g11,g12,g13,g14,g15,g16,g17,g18,g19,g20,g21,g22,g23,g24,g25,g26,g27,g28,g29,g30,.slice Ax5 lx5 cx5,.int .i64 x6] M := by kernel_rfl
theorem k12_32 : P12 [1,1,1,1,1] = .ret := by kernel_rfl
noncomputable def S12_1 : List Item := [.code (P12 [1,1,1,0,0,0]), .inLoop (P12 [1,1,1,0,0,0]), .inBlock 0, .code (P12 [1,1,1,1])]
def A12_1 (Ax0 : Option Addr) (lx0 cx0 : Nat) (Ax5 : Option Addr) (lx5 cx5 : Nat) (x6 : Int) (M : Mem) (Q : Value → Mem → Prop) : Prop := ∀ (g1 g2 g3 g4 g7 g8 g9 g10 g11 g12 g13 g14 g15 g16 g17 g18 g19 g20 g21 g22 g23 g24 g25 g26 g27 g28 g29 g30 g31 g32 : Value), Rn Try.prog Try.f12 S12_1 #[.slice Ax0 lx0 cx0, g1, g2, g3, g4, .slice Ax5 lx5 cx5, .int .i64 x6, g7, g8, g9, g10, g11, g12, g13, g14, g15, g16, g17, g18, g19, g20, g21, g22, g23, g24, g25, g26, g27, g28, g29, g30, g31, g32] M Q
theorem w12_0 {Ax0 : Option Addr} {lx0 cx0 : Nat} {M : Mem} {Q : Value → Mem → Prop} (H :
    A12_1 Ax0 lx0 cx0 none 0 0 0 M Q) :
    Cn Try.prog 12 #[.slice Ax0 lx0 cx0] M Q := by
  refine Cn.of b12 d12 t12 ?_
  refine Rn.seq k12_0 (Rn.region k12_1 (fun call K => r12_0) (Rch.leaf (Rn.seq k12_2 (Rn.region k12_3 (fun call K => r12_1) (Rch.leaf (Rn.seq k12_4 (Rn.region k12_5 (fun call K => r12_2) (Rch.leaf (Rn.seq k12_6 (Rn.block k12_7 (Rn.loop k12_8 ?_)))))))))))
  exact H _ _ _ _ _ _ _ _ _ _ _ _ _ _ _ _ _ _ _ _ _ _ _ _ _ _ _ _ _ _

theorem w12_1 {Ax0 : Option Addr} {lx0 cx0 : Nat} {Ax5 : Option Addr} {lx5 cx5 : Nat} {x6 : Int} {M : Mem} {Q : Value → Mem → Prop} (H :
    ((x6 < ((lx0 : Int)) →
     Cn Try.prog 28 #[.slice Ax0 lx0 cx0, .int .i64 x6] M fun v1' N1' =>
      ∃ cs2', asU 3 v1' = some cs2' ∧
      ∃ cs3', asA 2 (cs2'.getD 0 undef) = some cs3' ∧
      ∃ x4', asI .i64 (cs3'.getD 0 undef) = some x4' ∧
      ∃ s5', asS (cs3'.getD 1 undef) = some s5' ∧
      ∃ x6', asI .i64 (cs2'.getD 1 undef) = some x6' ∧
      ∃ x7', asI .i64 (cs2'.getD 2 undef) = some x7' ∧
      ∃ M8', (N1'.new (.cells #[.int .i64 0, .slice none 0 0] 44)).put (2 * N1'.nb.size) 0 (.int .i64 x4') = some M8' ∧
      ∃ M9', M8'.put (2 * N1'.nb.size) 1 (.slice s5'.1 (s5'.2.1) (s5'.2.2)) = some M9' ∧
      ((x7' ≠ 0 →
       Q (.tuple #[.slice Ax5 lx5 cx5, .int .i64 x6, .int .i64 (x7')]) M9') ∧
       (x7' = 0 →
       ∃ x10', M9'.intAt .i64 (2 * N1'.nb.size) 0 = some x10' ∧
       ∃ s11', M9'.slAt (2 * N1'.nb.size) (0 + 1) = some s11' ∧
       ∃ r12', appendP Try.prog #[24, 24] (.slice Ax5 lx5 cx5) (.slice (some ⟨2 * M9'.nb.size, 0, none⟩) 1 1) (M9'.new (.cells #[.int .i64 x10', .slice s11'.1 (s11'.2.1) (s11'.2.2)] 44)) = some r12' ∧
       ∃ s13', asS r12'.1 = some s13' ∧
       A12_1 Ax0 lx0 cx0 s13'.1 s13'.2.1 s13'.2.2 x6' r12'.2 Q))) ∧
     (¬ (x6 < ((lx0 : Int))) →
     Q (.tuple #[.slice Ax5 lx5 cx5, .int .i64 x6, .int .i64 0]) M))) :
    A12_1 Ax0 lx0 cx0 Ax5 lx5 cx5 x6 M Q := by
  intro g1 g2 g3 g4 g7 g8 g9 g10 g11 g12 g13 g14 g15 g16 g17 g18 g19 g20 g21 g22 g23 g24 g25 g26 g27 g28 g29 g30 g31 g32
  refine Rn.seq k12_9 (Rn.seq k12_10 (Rn.region k12_11 (fun call K => r12_3) (Rch.leaf ?_)))
  refine Rn.cnd (v := decide (x6 < ((lx0 : Int)))) ⟨c12_12, rfl, by kernel_rfl⟩ (fun h => ?_) (fun h => ?_)
  · replace H := H.1 (of_decide_eq_true h)
    refine Rn.skip k12_13 (Rn.block k12_14 (Rn.seq k12_15 (Rn.region k12_16 (fun call K => r12_4) (Rch.call H fun v1' N1' H => Rch.ex H fun cs2' H => Rch.ex H fun cs3' H => Rch.ex H fun x4' H => Rch.ex H fun s5' H => Rch.ex H fun x6' H => Rch.ex H fun x7' H => Rch.ex H fun M8' H => ?_))))
    refine Rch.ex H fun M9' H => Rch.leaf (Rn.seq k12_17 (Rn.seq k12_18 (Rn.region k12_19 (fun call K => r12_5) (Rch.leaf ?_))))
    refine Rn.cnd (v := x7' != 0) ⟨c12_20, rfl, by kernel_rfl⟩ (fun h => ?_) (fun h => ?_)
    · replace H := H.1 (ne_of_bneT h)
      refine Rn.seq k12_21 (Rn.region k12_22 (fun call K => r12_6) (Rch.leaf ?_))
      exact Rn.ret k12_23 e12 H
    · replace H := H.2 (eq_of_bneF h)
      refine Rn.skip k12_25 (Rn.seq k12_26 (Rn.region k12_27 (fun call K => r12_7) (Rch.bind (x := ⟨2 * N1'.nb.size, 0, none⟩) rfl (Rch.ex H fun x10' H => Rch.ex H fun s11' H => Rch.ex H fun r12' H => Rch.ex H fun s13' H => Rch.leaf (Rn.region k12_28 (fun call K => r12_8) (Rch.leaf (Rn.blk ?_)))))))
      refine Rn.lp ?_
      exact H _ _ _ _ _ _ _ _ _ _ _ _ _ _ _ _ _ _ _ _ _ _ _ _ _ _ _ _ _ _
  · replace H := H.2 (of_decide_eq_false h)
    refine Rn.exit k12_29 rfl (Rn.seq k12_30 (Rn.region k12_31 (fun call K => r12_9) (Rch.leaf ?_)))
    exact Rn.ret k12_32 e12 H


/-! ### zoetrope/zoetroperef19.Join: function 19 -/
noncomputable abbrev P19 (p : List Nat) : Code := subC (codeOf Try.f19) p
noncomputable abbrev O19 (p : List Nat) : Array Oper := opsOf (subC (codeOf Try.f19) p)
theorem b19 : Try.prog.funcs[19]? = some Try.f19 ∧ (Orc.tab Try.prog).lookup 19 = none := ⟨by kernel_rfl, by kernel_rfl⟩
theorem d19 : Try.f19.body = some (P19 []) := by kernel_rfl
theorem t19 {Ax0 : Option Addr} {lx0 cx0 : Nat} : #[.slice Ax0 lx0 cx0] ++ Array.replicate (Try.f19.ntmps - (#[.slice Ax0 lx0 cx0] : Array Value).size) undef = #[.slice Ax0 lx0 cx0,undef,undef,undef,undef,undef,undef,undef,undef,undef,undef,undef,undef,undef,undef,undef,undef,undef,undef,undef,undef,undef,undef,undef,undef,undef,undef,undef,undef,undef,undef,undef,undef,undef,undef,undef,undef,undef,undef,undef,undef,undef,undef,undef,undef,undef,undef,undef,undef,undef,undef,undef,undef,undef,undef,undef,undef,undef,undef] := by kernel_rfl
theorem k19_0 : P19 [] = .seq (P19 [0]) (P19 [1]) := by kernel_rfl
theorem k19_1 : P19 [0] = .region 0 (O19 [0]) false := by kernel_rfl
theorem r19_0 {M : Mem} {call : CallM} {K : Array Value → Mem → R} :
    opsK Try.prog (fun _ => call) (O19 [0]) (O19 [0]).toList 0 #[g0,g1,g2,g3,g4,g5,g6,g7,g8,g9,g10,g11,g12,g13,g14,g15,g16,g17,g18,g19,g20,g21,g22,g23,g24,g25,g26,g27,g28,g29,g30,g31,g32,g33,g34,g35,g36,g37,g38,g39,g40,g41,g42,g43,g44,g45,g46,g47,g48,g49,g50,g51,g52,g53,g54,g55,g56,g57,g58] M K = K #[g0,g1,.slice none 0 0,.int .i64 0,g4,g5,g6,g7,g8,g9,g10,g11,g12,g13,g14,g15,g16,g17,g18,g19,g20,g21,g22,g23,g24,g25,g26,g27,g28,g29,g30,g31,g32,g33,g34,g35,g36,g37,g38,g39,g40,g41,g42,g43,g44,g45,g46,g47,g48,g49,g50,g51,g52,g53,g54,g55,g56,g57,g58] M := by kernel_rfl
theorem k19_2 : P19 [1] = .seq (P19 [1,0]) (P19 [1,1]) := by kernel_rfl
theorem k19_3 : P19 [1,0] = .region 1 (O19 [1,0]) false := by kernel_rfl
theorem r19_1 {M : Mem} {call : CallM} {K : Array Value → Mem → R} :
    opsK Try.prog (fun _ => call) (O19 [1,0]) (O19 [1,0]).toList 0 #[g0,g1,g2,g3,g4,g5,g6,g7,g8,g9,g10,g11,g12,g13,g14,g15,g16,g17,g18,g19,g20,g21,g22,g23,g24,g25,g26,g27,g28,g29,g30,g31,g32,g33,g34,g35,g36,g37,g38,g39,g40,g41,g42,g43,g44,g45,g46,g47,g48,g49,g50,g51,g52,g53,g54,g55,g56,g57,g58] M K = K #[g0,g1,g2,g3,.slice none 0 0,g5,g6,g7,g8,g9,g10,g11,g12,g13,g14,g15,g16,g17,g18,g19,g20,g21,g22,g23,g24,g25,g26,g27,g28,g29,g30,g31,g32,g33,g34,g35,g36,g37,g38,g39,g40,g41,g42,g43,g44,g45,g46,g47,g48,g49,g50,g51,g52,g53,g54,g55,g56,g57,g58] M := by kernel_rfl
theorem k19_4 : P19 [1,1] = .seq (P19 [1,1,0]) (P19 [1,1,1]) := by kernel_rfl
theorem k19_5 : P19 [1,1,0] = .seq (P19 [1,1,0,0]) (P19 [1,1,0,1]) := by kernel_rfl
theorem k19_6 : P19 [1,1,0,0] = .region 2 (O19 [1,1,0,0]) false := by kernel_rfl
theorem r19_2 {M : Mem} {call : CallM} {K : Array Value → Mem → R} :
    opsK Try.prog (fun _ => call) (O19 [1,1,0,0]) (O19 [1,1,0,0]).toList 0 #[g0,g1,g2,g3,g4,g5,g6,g7,g8,g9,g10,g11,g12,g13,g14,g15,g16,g17,g18,g19,g20,g21,g22,g23,g24,g25,g26,g27,g28,g29,g30,g31,g32,g33,g34,g35,g36,g37,g38,g39,g40,g41,g42,g43,g44,g45,g46,g47,g48,g49,g50,g51,g52,g53,g54,g55,g56,g57,g58] M K = K #[g0,g1,g2,g3,g4,.int .i64 0,g6,g7,g8,g9,g10,g11,g12,g13,g14,g15,g16,g17,g18,g19,g20,g21,g22,g23,g24,g25,g26,g27,g28,g29,g30,g31,g32,g33,g34,g35,g36,g37,g38,g39,g40,g41,g42,g43,g44,g45,g46,g47,g48,g49,g50,g51,g52,g53,g54,g55,g56,g57,g58] M := by kernel_rfl
theorem k19_7 : P19 [1,1,0,1] = .block 0 (P19 [1,1,0,1,0]) := by kernel_rfl
theorem k19_8 : P19 [1,1,0,1,0] = .loop (P19 [1,1,0,1,0,0]) := by kernel_rfl
theorem k19_9 : P19 [1,1,0,1,0,0] = .seq (P19 [1,1,0,1,0,0,0]) (P19 [1,1,0,1,0,0,1]) := by kernel_rfl
theorem k19_10 : P19 [1,1,0,1,0,0,0] = .seq (P19 [1,1,0,1,0,0,0,0]) (P19 [1,1,0,1,0,0,0,1]) := by kernel_rfl
theorem k19_11 : P19 [1,1,0,1,0,0,0,0] = .region 3 (O19 [1,1,0,1,0,0,0,0]) false := by kernel_rfl
theorem r19_3 {Ax0 : Option Addr} {lx0 cx0 : Nat} {x5 : Int} {M : Mem} {call : CallM} {K : Array Value → Mem → R} :
    opsK Try.prog (fun _ => call) (O19 [1,1,0,1,0,0,0,0]) (O19 [1,1,0,1,0,0,0,0]).toList 0 #[.slice Ax0 lx0 cx0,g1,g2,g3,g4,.int .i64 x5,g6,g7,g8,g9,g10,g11,g12,g13,g14,g15,g16,g17,g18,g19,g20,g21,g22,g23,g24,g25,g26,g27,g28,g29,g30,g31,g32,g33,g34,g35,g36,g37,g38,g39,g40,g41,g42,g43,g44,g45,g46,g47,g48,g49,g50,g51,g52,g53,g54,g55,g56,g57,g58] M K = K #[.slice Ax0 lx0 cx0,g1,g2,g3,g4,.int .i64 x5,g6,.int .i64 x5,.slice Ax0 lx0 cx0,.int .i64 ((lx0 : Int)),.bool (decide (x5 < ((lx0 : Int)))),g11,g12,g13,g14,g15,g16,g17,g18,g19,g20,g21,g22,g23,g24,g25,g26,g27,g28,g29,g30,g31,g32,g33,g34,g35,g36,g37,g38,g39,g40,g41,g42,g43,g44,g45,g46,g47,g48,g49,g50,g51,g52,g53,g54,g55,g56,g57,g58] M := by kernel_rfl
theorem c19_12 : P19 [1,1,0,1,0,0,0,1] = .cond (.tmp 10) (P19 [1,1,0,1,0,0,0,1,0]) (P19 [1,1,0,1,0,0,0,1,1]) := by kernel_rfl
theorem k19_13 : P19 [1,1,0,1,0,0,0,1,0] = .skip := by kernel_rfl
theorem k19_14 : P19 [1,1,0,1,0,0,1] = .seq (P19 [1,1,0,1,0,0,1,0]) (P19 [1,1,0,1,0,0,1,1]) := by kernel_rfl
theorem k19_15 : P19 [1,1,0,1,0,0,1,0] = .block 1 (P19 [1,1,0,1,0,0,1,0,0]) := by kernel_rfl
theorem k19_16 : P19 [1,1,0,1,0,0,1,0,0] = .seq (P19 [1,1,0,1,0,0,1,0,0,0]) (P19 [1,1,0,1,0,0,1,0,0,1]) := by kernel_rfl
theorem k19_17 : P19 [1,1,0,1,0,0,1,0,0,0] = .seq (P19 [1,1,0,1,0,0,1,0,0,0,0]) (P19 [1,1,0,1,0,0,1,0,0,0,1]) := by kernel_rfl
theorem k19_18 : P19 [1,1,0,1,0,0,1,0,0,0,0] = .region 5 (O19 [1,1,0,1,0,0,1,0,0,0,0]) false := by kernel_rfl
theorem r19_5 {Ax0 : Option Addr} {lx0 cx0 : Nat} {x5 : Int} {M : Mem} {call : CallM} {K : Array Value → Mem → R} :
    opsK Try.prog (fun _ => call) (O19 [1,1,0,1,0,0,1,0,0,0,0]) (O19 [1,1,0,1,0,0,1,0,0,0,0]).toList 0 #[.slice Ax0 lx0 cx0,g1,g2,g3,g4,.int .i64 x5,g6,g7,g8,g9,g10,g11,g12,g13,g14,g15,g16,g17,g18,g19,g20,g21,g22,g23,g24,g25,g26,g27,g28,g29,g30,g31,g32,g33,g34,g35,g36,g37,g38,g39,g40,g41,g42,g43,g44,g45,g46,g47,g48,g49,g50,g51,g52,g53,g54,g55,g56,g57,g58] M K = (idxA Ax0 lx0 2 x5).bind fun a_1 => (M.intAt .i64 a_1.block a_1.off).bind fun x_2 => (call 34 #[.int .i64 x_2] M).bind fun r_3 => (asB r_3.1).bind fun b_4 => K #[.slice Ax0 lx0 cx0,g1,g2,g3,g4,.int .i64 x5,g6,g7,g8,g9,g10,g11,g12,.slice Ax0 lx0 cx0,.int .i64 x5,.pointer (some a_1),.pointer (some ⟨a_1.block, a_1.off, none⟩),.int .i64 x_2,.bool b_4,.bool (!b_4),g20,g21,g22,g23,g24,g25,g26,g27,g28,g29,g30,g31,g32,g33,g34,g35,g36,g37,g38,g39,g40,g41,g42,g43,g44,g45,g46,g47,g48,g49,g50,g51,g52,g53,g54,g55,g56,g57,g58] r_3.2 := by kernel_rfl
theorem c19_19 : P19 [1,1,0,1,0,0,1,0,0,0,1] = .cond (.tmp 19) (P19 [1,1,0,1,0,0,1,0,0,0,1,0]) (P19 [1,1,0,1,0,0,1,0,0,0,1,1]) := by kernel_rfl
theorem k19_20 : P19 [1,1,0,1,0,0,1,0,0,0,1,0] = .seq (P19 [1,1,0,1,0,0,1,0,0,0,1,0,0]) (P19 [1,1,0,1,0,0,1,0,0,0,1,0,1]) := by kernel_rfl
theorem k19_21 : P19 [1,1,0,1,0,0,1,0,0,0,1,0,0] = .region 6 (O19 [1,1,0,1,0,0,1,0,0,0,1,0,0]) false := by kernel_rfl
theorem r19_6 {M : Mem} {call : CallM} {K : Array Value → Mem → R} :
    opsK Try.prog (fun _ => call) (O19 [1,1,0,1,0,0,1,0,0,0,1,0,0]) (O19 [1,1,0,1,0,0,1,0,0,0,1,0,0]).toList 0 #[g0,g1,g2,g3,g4,g5,g6,g7,g8,g9,g10,g11,g12,g13,g14,g15,g16,g17,g18,g19,g20,g21,g22,g23,g24,g25,g26,g27,g28,g29,g30,g31,g32,g33,g34,g35,g36,g37,g38,g39,g40,g41,g42,g43,g44,g45,g46,g47,g48,g49,g50,g51,g52,g53,g54,g55,g56,g57,g58] M K = K #[g0,g1,.slice none 0 0,.int .i64 2,g4,g5,g6,g7,g8,g9,g10,g11,g12,g13,g14,g15,g16,g17,g18,g19,g20,g21,g22,g23,g24,g25,g26,g27,g28,g29,g30,g31,g32,g33,g34,g35,g36,g37,g38,g39,g40,g41,g42,g43,g44,g45,g46,g47,g48,g49,g50,g51,g52,g53,g54,g55,g56,g57,g58] M := by kernel_rfl
theorem k19_22 : P19 [1,1,0,1,0,0,1,0,0,0,1,0,1] = .ret := by kernel_rfl
theorem e19 {M : Mem} : finish Try.prog Try.f19 #[g0,g1,g2,g3,g4,g5,g6,g7,g8,g9,g10,g11,g12,g13,g14,g15,g16,g17,g18,g19,g20,g21,g22,g23,g24,g25,g26,g27,g28,g29,g30,g31,g32,g33,g34,g35,g36,g37,g38,g39,g40,g41,g42,g43,g44,g45,g46,g47,g48,g49,g50,g51,g52,g53,g54,g55,g56,g57,g58] M = some (.tuple #[g2, g3], M) := by kernel_rfl
theorem k19_24 : P19 [1,1,0,1,0,0,1,0,0,0,1,1] = .skip := by kernel_rfl
theorem k19_25 : P19 [1,1,0,1,0,0,1,0,0,1] = .seq (P19 [1,1,0,1,0,0,1,0,0,1,0]) (P19 [1,1,0,1,0,0,1,0,0,1,1]) := by kernel_rfl
theorem k19_26 : P19 [1,1,0,1,0,0,1,0,0,1,0] = .seq (P19 [1,1,0,1,0,0,1,0,0,1,0,0]) (P19 [1,1,0,1,0,0,1,0,0,1,0,1]) := by kernel_rfl
theorem k19_27 : P19 [1,1,0,1,0,0,1,0,0,1,0,0] = .region 7 (O19 [1,1,0,1,0,0,1,0,0,1,0,0]) false := by kernel_rfl
theorem r19_7 {Ax0 : Option Addr} {lx0 cx0 : Nat} {x5 : Int} {M : Mem} {call : CallM} {K : Array Value → Mem → R} :
    opsK Try.prog (fun _ => call) (O19 [1,1,0,1,0,0,1,0,0,1,0,0]) (O19 [1,1,0,1,0,0,1,0,0,1,0,0]).toList 0 #[.slice Ax0 lx0 cx0,g1,g2,g3,g4,.int .i64 x5,g6,g7,g8,g9,g10,g11,g12,g13,g14,g15,g16,g17,g18,g19,g20,g21,g22,g23,g24,g25,g26,g27,g28,g29,g30,g31,g32,g33,g34,g35,g36,g37,g38,g39,g40,g41,g42,g43,g44,g45,g46,g47,g48,g49,g50,g51,g52,g53,g54,g55,g56,g57,g58] M K = (idxA Ax0 lx0 2 x5).bind fun a_1 => (M.slAt a_1.block (a_1.off + 1)).bind fun s_2 => K #[.slice Ax0 lx0 cx0,g1,g2,g3,g4,.int .i64 x5,g6,g7,g8,g9,g10,g11,g12,g13,g14,g15,g16,g17,g18,g19,.slice Ax0 lx0 cx0,.int .i64 x5,.pointer (some a_1),.pointer (some ⟨a_1.block, a_1.off + 1, none⟩),.slice s_2.1 (s_2.2.1) (s_2.2.2),.int .i64 ((s_2.2.1 : Int)),.bool (decide (((s_2.2.1 : Int)) > 16777216)),g27,g28,g29,g30,g31,g32,g33,g34,g35,g36,g37,g38,g39,g40,g41,g42,g43,g44,g45,g46,g47,g48,g49,g50,g51,g52,g53,g54,g55,g56,g57,g58] M := by kernel_rfl
theorem c19_28 : P19 [1,1,0,1,0,0,1,0,0,1,0,1] = .cond (.tmp 26) (P19 [1,1,0,1,0,0,1,0,0,1,0,1,0]) (P19 [1,1,0,1,0,0,1,0,0,1,0,1,1]) := by kernel_rfl
theorem k19_29 : P19 [1,1,0,1,0,0,1,0,0,1,0,1,0] = .seq (P19 [1,1,0,1,0,0,1,0,0,1,0,1,0,0]) (P19 [1,1,0,1,0,0,1,0,0,1,0,1,0,1]) := by kernel_rfl
theorem k19_30 : P19 [1,1,0,1,0,0,1,0,0,1,0,1,0,0] = .region 8 (O19 [1,1,0,1,0,0,1,0,0,1,0,1,0,0]) false := by kernel_rfl
theorem r19_8 {M : Mem} {call : CallM} {K : Array Value → Mem → R} :
    opsK Try.prog (fun _ => call) (O19 [1,1,0,1,0,0,1,0,0,1,0,1,0,0]) (O19 [1,1,0,1,0,0,1,0,0,1,0,1,0,0]).toList 0 #[g0,g1,g2,g3,g4,g5,g6,g7,g8,g9,g10,g11,g12,g13,g14,g15,g16,g17,g18,g19,g20,g21,g22,g23,g24,g25,g26,g27,g28,g29,g30,g31,g32,g33,g34,g35,g36,g37,g38,g39,g40,g41,g42,g43,g44,g45,g46,g47,g48,g49,g50,g51,g52,g53,g54,g55,g56,g57,g58] M K = K #[g0,g1,.slice none 0 0,.int .i64 5,g4,g5,g6,g7,g8,g9,g10,g11,g12,g13,g14,g15,g16,g17,g18,g19,g20,g21,g22,g23,g24,g25,g26,g27,g28,g29,g30,g31,g32,g33,g34,g35,g36,g37,g38,g39,g40,g41,g42,g43,g44,g45,g46,g47,g48,g49,g50,g51,g52,g53,g54,g55,g56,g57,g58] M := by kernel_rfl
theorem k19_31 : P19 [1,1,0,1,0,0,1,0,0,1,0,1,0,1] = .ret := by kernel_rfl
theorem k19_32 : P19 [1,1,0,1,0,0,1,0,0,1,0,1,1] = .skip := by kernel_rfl
theorem k19_33 : P19 [1,1,0,1,0,0,1,0,0,1,1] = .seq (P19 [1,1,0,1,0,0,1,0,0,1,1,0]) (P19 [1,1,0,1,0,0,1,0,0,1,1,1]) := by kernel_rfl
theorem k19_34 : P19 [1,1,0,1,0,0,1,0,0,1,1,0] = .region 9 (O19 [1,1,0,1,0,0,1,0,0,1,1,0]) false := by kernel_rfl
theorem r19_9 {M : Mem} {call : CallM} {K : Array Value → Mem → R} :
    opsK Try.prog (fun _ => call) (O19 [1,1,0,1,0,0,1,0,0,1,1,0]) (O19 [1,1,0,1,0,0,1,0,0,1,1,0]).toList 0 #[g0,g1,g2,g3,g4,g5,g6,g7,g8,g9,g10,g11,g12,g13,g14,g15,g16,g17,g18,g19,g20,g21,g22,g23,g24,g25,g26,g27,g28,g29,g30,g31,g32,g33,g34,g35,g36,g37,g38,g39,g40,g41,g42,g43,g44,g45,g46,g47,g48,g49,g50,g51,g52,g53,g54,g55,g56,g57,g58] M K = (call 35 #[] M).bind fun r_1 => (asP r_1.1).bind fun p_2 => K #[g0,g1,g2,g3,g4,g5,.pointer p_2,g7,g8,g9,g10,g11,g12,g13,g14,g15,g16,g17,g18,g19,g20,g21,g22,g23,g24,g25,g26,.pointer p_2,g28,g29,g30,g31,g32,g33,g34,g35,g36,g37,g38,g39,g40,g41,g42,g43,g44,g45,g46,g47,g48,g49,g50,g51,g52,g53,g54,g55,g56,g57,g58] r_1.2 := by kernel_rfl
theorem k19_35 : P19 [1,1,0,1,0,0,1,0,0,1,1,1] = .seq (P19 [1,1,0,1,0,0,1,0,0,1,1,1,0]) (P19 [1,1,0,1,0,0,1,0,0,1,1,1,1]) := by kernel_rfl
theorem k19_36 : P19 [1,1,0,1,0,0,1,0,0,1,1,1,0] = .region 10 (O19 [1,1,0,1,0,0,1,0,0,1,1,1,0]) false := by kernel_rfl
theorem r19_10 {Ax0 : Option Addr} {lx0 cx0 : Nat} {x5 : Int} {x6 : Option Addr} {M : Mem} {call : CallM} {K : Array Value → Mem → R} :
    opsK Try.prog (fun _ => call) (O19 [1,1,0,1,0,0,1,0,0,1,1,1,0]) (O19 [1,1,0,1,0,0,1,0,0,1,1,1,0]).toList 0 #[.slice Ax0 lx0 cx0,g1,g2,g3,g4,.int .i64 x5,.pointer x6,g7,g8,g9,g10,g11,g12,g13,g14,g15,g16,g17,g18,g19,g20,g21,g22,g23,g24,g25,g26,g27,g28,g29,g30,g31,g32,g33,g34,g35,g36,g37,g38,g39,g40,g41,g42,g43,g44,g45,g46,g47,g48,g49,g50,g51,g52,g53,g54,g55,g56,g57,g58] M K = (idxA Ax0 lx0 2 x5).bind fun a_1 => (M.slAt a_1.block (a_1.off + 1)).bind fun s_2 => (call 36 #[.pointer x6, .int .u32 (IntKind.u32.wrap ((s_2.2.1 : Int)))] M).bind fun r_3 => (asI .i64 r_3.1).bind fun x_4 => K #[.slice Ax0 lx0 cx0,g1,g2,g3,g4,.int .i64 x5,.pointer x6,g7,g8,g9,g10,g11,g12,g13,g14,g15,g16,g17,g18,g19,g20,g21,g22,g23,g24,g25,g26,g27,.pointer x6,.slice Ax0 lx0 cx0,.int .i64 x5,.pointer (some a_1),.pointer (some ⟨a_1.block, a_1.off + 1, none⟩),.slice s_2.1 (s_2.2.1) (s_2.2.2),.int .i64 ((s_2.2.1 : Int)),.int .u32 (IntKind.u32.wrap ((s_2.2.1 : Int))),.int .i64 x_4,g37,g38,g39,g40,g41,g42,g43,g44,g45,g46,g47,g48,g49,g50,g51,g52,g53,g54,g55,g56,g57,g58] r_3.2 := by kernel_rfl
theorem k19_37 : P19 [1,1,0,1,0,0,1,0,0,1,1,1,1] = .seq (P19 [1,1,0,1,0,0,1,0,0,1,1,1,1,0]) (P19 [1,1,0,1,0,0,1,0,0,1,1,1,1,1]) := by kernel_rfl
theorem k19_38 : P19 [1,1,0,1,0,0,1,0,0,1,1,1,1,0] = .region 11 (O19 [1,1,0,1,0,0,1,0,0,1,1,1,1,0]) false := by kernel_rfl
theorem r19_11 {Ax0 : Option Addr} {lx0 cx0 : Nat} {Ax4 : Option Addr} {lx4 cx4 : Nat} {x5 : Int} {M : Mem} {call : CallM} {K : Array Value → Mem → R} :
    opsK Try.prog (fun _ => call) (O19 [1,1,0,1,0,0,1,0,0,1,1,1,1,0]) (O19 [1,1,0,1,0,0,1,0,0,1,1,1,1,0]).toList 0 #[.slice Ax0 lx0 cx0,g1,g2,g3,.slice Ax4 lx4 cx4,.int .i64 x5,g6,g7,g8,g9,g10,g11,g12,g13,g14,g15,g16,g17,g18,g19,g20,g21,g22,g23,g24,g25,g26,g27,g28,g29,g30,g31,g32,g33,g34,g35,g36,g37,g38,g39,g40,g41,g42,g43,g44,g45,g46,g47,g48,g49,g50,g51,g52,g53,g54,g55,g56,g57,g58] M K = (idxA Ax0 lx0 2 x5).bind fun a_1 => (M.intAt .i64 a_1.block a_1.off).bind fun x_2 => (appendP Try.prog #[22, 22] (.slice Ax4 lx4 cx4) (.slice (some ⟨2 * M.nb.size, 0, none⟩) 1 1) (M.new (.cells #[.int .u8 (IntKind.u8.wrap (IntKind.i64.wrap (16 * x_2)))] 5))).bind fun r_3 => (asS r_3.1).bind fun s_4 => K #[.slice Ax0 lx0 cx0,g1,g2,g3,.slice s_4.1 (s_4.2.1) (s_4.2.2),.int .i64 x5,g6,g7,g8,g9,g10,g11,g12,g13,g14,g15,g16,g17,g18,g19,g20,g21,g22,g23,g24,g25,g26,g27,g28,g29,g30,g31,g32,g33,g34,g35,g36,.slice Ax4 lx4 cx4,.slice Ax0 lx0 cx0,.int .i64 x5,.pointer (some a_1),.pointer (some ⟨a_1.block, a_1.off, none⟩),.int .i64 x_2,.int .i64 (IntKind.i64.wrap (16 * x_2)),.int .u8 (IntKind.u8.wrap (IntKind.i64.wrap (16 * x_2))),.slice (some ⟨2 * M.nb.size, 0, none⟩) 1 1,.slice s_4.1 (s_4.2.1) (s_4.2.2),g47,g48,g49,g50,g51,g52,g53,g54,g55,g56,g57,g58] r_3.2 := by kernel_rfl
theorem k19_39 : P19 [1,1,0,1,0,0,1,0,0,1,1,1,1,1] = .seq (P19 [1,1,0,1,0,0,1,0,0,1,1,1,1,1,0]) (P19 [1,1,0,1,0,0,1,0,0,1,1,1,1,1,1]) := by kernel_rfl
theorem k19_40 : P19 [1,1,0,1,0,0,1,0,0,1,1,1,1,1,0] = .region 12 (O19 [1,1,0,1,0,0,1,0,0,1,1,1,1,1,0]) false := by kernel_rfl
theorem r19_12 {Ax4 : Option Addr} {lx4 cx4 : Nat} {x6 : Option Addr} {M : Mem} {call : CallM} {K : Array Value → Mem → R} :
    opsK Try.prog (fun _ => call) (O19 [1,1,0,1,0,0,1,0,0,1,1,1,1,1,0]) (O19 [1,1,0,1,0,0,1,0,0,1,1,1,1,1,0]).toList 0 #[g0,g1,g2,g3,.slice Ax4 lx4 cx4,g5,.pointer x6,g7,g8,g9,g10,g11,g12,g13,g14,g15,g16,g17,g18,g19,g20,g21,g22,g23,g24,g25,g26,g27,g28,g29,g30,g31,g32,g33,g34,g35,g36,g37,g38,g39,g40,g41,g42,g43,g44,g45,g46,g47,g48,g49,g50,g51,g52,g53,g54,g55,g56,g57,g58] M K = (call 37 #[.pointer x6] M).bind fun r_1 => (asS r_1.1).bind fun s_2 => (appendP Try.prog #[22, 22] (.slice Ax4 lx4 cx4) (.slice s_2.1 (s_2.2.1) (s_2.2.2)) r_1.2).bind fun r_3 => (asS r_3.1).bind fun s_4 => K #[g0,g1,g2,g3,.slice s_4.1 (s_4.2.1) (s_4.2.2),g5,.pointer x6,g7,g8,g9,g10,g11,g12,g13,g14,g15,g16,g17,g18,g19,g20,g21,g22,g23,g24,g25,g26,g27,g28,g29,g30,g31,g32,g33,g34,g35,g36,g37,g38,g39,g40,g41,g42,g43,g44,g45,g46,.slice Ax4 lx4 cx4,.pointer x6,.slice s_2.1 (s_2.2.1) (s_2.2.2),.slice s_4.1 (s_4.2.1) (s_4.2.2),g51,g52,g53,g54,g55,g56,g57,g58] r_3.2 := by kernel_rfl
theorem k19_41 : P19 [1,1,0,1,0,0,1,0,0,1,1,1,1,1,1] = .region 13 (O19 [1,1,0,1,0,0,1,0,0,1,1,1,1,1,1]) false := by kernel_rfl
theorem r19_13 {Ax0 : Option Addr} {lx0 cx0 : Nat} {Ax4 : Option Addr} {lx4 cx4 : Nat} {x5 : Int} {M : Mem} {call : CallM} {K : Array Value → Mem → R} :
    opsK Try.prog (fun _ => call) (O19 [1,1,0,1,0,0,1,0,0,1,1,1,1,1,1]) (O19 [1,1,0,1,0,0,1,0,0,1,1,1,1,1,1]).toList 0 #[.slice Ax0 lx0 cx0,g1,g2,g3,.slice Ax4 lx4 cx4,.int .i64 x5,g6,g7,g8,g9,g10,g11,g12,g13,g14,g15,g16,g17,g18,g19,g20,g21,g22,g23,g24,g25,g26,g27,g28,g29,g30,g31,g32,g33,g34,g35,g36,g37,g38,g39,g40,g41,g42,g43,g44,g45,g46,g47,g48,g49,g50,g51,g52,g53,g54,g55,g56,g57,g58] M K = (idxA Ax0 lx0 2 x5).bind fun a_1 => (M.slAt a_1.block (a_1.off + 1)).bind fun s_2 => (appendP Try.prog #[22, 22] (.slice Ax4 lx4 cx4) (.slice s_2.1 (s_2.2.1) (s_2.2.2)) M).bind fun r_3 => (asS r_3.1).bind fun s_4 => K #[.slice Ax0 lx0 cx0,g1,g2,g3,.slice s_4.1 (s_4.2.1) (s_4.2.2),.int .i64 x5,g6,g7,g8,g9,g10,g11,g12,g13,g14,g15,g16,g17,g18,g19,g20,g21,g22,g23,g24,g25,g26,g27,g28,g29,g30,g31,g32,g33,g34,g35,g36,g37,g38,g39,g40,g41,g42,g43,g44,g45,g46,g47,g48,g49,g50,.slice Ax4 lx4 cx4,.slice Ax0 lx0 cx0,.int .i64 x5,.pointer (some a_1),.pointer (some ⟨a_1.block, a_1.off + 1, none⟩),.slice s_2.1 (s_2.2.1) (s_2.2.2),.slice s_4.1 (s_4.2.1) (s_4.2.2),g58] r_3.2 := by kernel_rfl
theorem k19_42 : P19 [1,1,0,1,0,0,1,1] = .region 4 (O19 [1,1,0,1,0,0,1,1]) false := by kernel_rfl
theorem r19_4 {x5 : Int} {M : Mem} {call : CallM} {K : Array Value → Mem → R} :
    opsK Try.prog (fun _ => call) (O19 [1,1,0,1,0,0,1,1]) (O19 [1,1,0,1,0,0,1,1]).toList 0 #[g0,g1,g2,g3,g4,.int .i64 x5,g6,g7,g8,g9,g10,g11,g12,g13,g14,g15,g16,g17,g18,g19,g20,g21,g22,g23,g24,g25,g26,g27,g28,g29,g30,g31,g32,g33,g34,g35,g36,g37,g38,g39,g40,g41,g42,g43,g44,g45,g46,g47,g48,g49,g50,g51,g52,g53,g54,g55,g56,g57,g58] M K = K #[g0,g1,g2,g3,g4,.int .i64 (IntKind.i64.wrap (x5 + 1)),g6,g7,g8,g9,g10,.int .i64 x5,.int .i64 (IntKind.i64.wrap (x5 + 1)),g13,g14,g15,g16,g17,g18,g19,g20,g21,g22,g23,g24,g25,g26,g27,g28,g29,g30,g31,g32,g33,g34,g35,g36,g37,g38,g39,g40,g41,g42,g43,g44,g45,g46,g47,g48,g49,g50,g51,g52,g53,g54,g55,g56,g57,g58] M := by kernel_rfl
theorem k19_43 : P19 [1,1,0,1,0,0,0,1,1] = .exit 0 := by kernel_rfl
theorem k19_44 : P19 [1,1,1] = .seq (P19 [1,1,1,0]) (P19 [1,1,1,1]) := by kernel_rfl
theorem k19_45 : P19 [1,1,1,0] = .region 14 (O19 [1,1,1,0]) false := by kernel_rfl
theorem r19_14 {Ax4 : Option Addr} {lx4 cx4 : Nat} {M : Mem} {call : CallM} {K : Array Value → Mem → R} :
    opsK Try.prog (fun _ => call) (O19 [1,1,1,0]) (O19 [1,1,1,0]).toList 0 #[g0,g1,g2,g3,.slice Ax4 lx4 cx4,g5,g6,g7,g8,g9,g10,g11,g12,g13,g14,g15,g16,g17,g18,g19,g20,g21,g22,g23,g24,g25,g26,g27,g28,g29,g30,g31,g32,g33,g34,g35,g36,g37,g38,g39,g40,g41,g42,g43,g44,g45,g46,g47,g48,g49,g50,g51,g52,g53,g54,g55,g56,g57,g58] M K = K #[g0,g1,.slice Ax4 lx4 cx4,.int .i64 0,.slice Ax4 lx4 cx4,g5,g6,g7,g8,g9,g10,g11,g12,g13,g14,g15,g16,g17,g18,g19,g20,g21,g22,g23,g24,g25,g26,g27,g28,g29,g30,g31,g32,g33,g34,g35,g36,g37,g38,g39,g40,g41,g42,g43,g44,g45,g46,g47,g48,g49,g50,g51,g52,g53,g54,g55,g56,g57,.slice Ax4 lx4 cx4] M := by kernel_rfl
theorem k19_46 : P19 [1,1,1,1] = .ret := by kernel_rfl
noncomputable def S19_1 : List Item := [.code (P19 [1,1,0,1,0,0]), .inLoop (P19 [1,1,0,1,0,0]), .inBlock 0, .code (P19 [1,1,1])]
def A19_1 (Ax0 : Option Addr) (lx0 cx0 : Nat) (Ax4 : Option Addr) (lx4 cx4 : Nat) (x5 : Int) (M : Mem) (Q : Value → Mem → Prop) : Prop := ∀ (g1 g2 g3 g6 g7 g8 g9 g10 g11 g12 g13 g14 g15 g16 g17 g18 g19 g20 g21 g22 g23 g24 g25 g26 g27 g28 g29 g30 g31 g32 g33 g34 g35 g36 g37 g38 g39 g40 g41 g42 g43 g44 g45 g46 g47 g48 g49 g50 g51 g52 g53 g54 g55 g56 g57 g58 : Value), Rn Try.prog Try.f19 S19_1 #[.slice Ax0 lx0 cx0, g1, g2, g3, .slice Ax4 lx4 cx4, .int .i64 x5, g6, g7, g8, g9, g10, g11, g12, g13, g14, g15, g16, g17, g18, g19, g20, g21, g22, g23, g24, g25, g26, g27, g28, g29, g30, g31, g32, g33, g34, g35, g36, g37, g38, g39, g40, g41, g42, g43, g44, g45, g46, g47, g48, g49, g50, g51, g52, g53, g54, g55, g56, g57, g58] M Q
theorem w19_0 {Ax0 : Option Addr} {lx0 cx0 : Nat} {M : Mem} {Q : Value → Mem → Prop} (H :
    A19_1 Ax0 lx0 cx0 none 0 0 0 M Q) :
    Cn Try.prog 19 #[.slice Ax0 lx0 cx0] M Q := by
  refine Cn.of b19 d19 t19 ?_
  refine Rn.seq k19_0 (Rn.region k19_1 (fun call K => r19_0) (Rch.leaf (Rn.seq k19_2 (Rn.region k19_3 (fun call K => r19_1) (Rch.leaf (Rn.seq k19_4 (Rn.seq k19_5 (Rn.region k19_6 (fun call K => r19_2) (Rch.leaf (Rn.block k19_7 (Rn.loop k19_8 ?_)))))))))))
  exact H _ _ _ _ _ _ _ _ _ _ _ _ _ _ _ _ _ _ _ _ _ _ _ _ _ _ _ _ _ _ _ _ _ _ _ _ _ _ _ _ _ _ _ _ _ _ _ _ _ _ _ _ _ _ _ _

theorem w19_1 {Ax0 : Option Addr} {lx0 cx0 : Nat} {Ax4 : Option Addr} {lx4 cx4 : Nat} {x5 : Int} {M : Mem} {Q : Value → Mem → Prop} (H :
    ((x5 < ((lx0 : Int)) →
     ∃ a1', idxA Ax0 lx0 2 x5 = some a1' ∧
     ∃ x2', M.intAt .i64 a1'.block a1'.off = some x2' ∧
     Cn Try.prog 34 #[.int .i64 x2'] M fun v3' N3' =>
      ∃ b4', asB v3' = some b4' ∧
      (((!b4') = true →
       Q (.tuple #[.slice none 0 0, .int .i64 2]) N3') ∧
       ((!b4') = false →
       ∃ a5', idxA Ax0 lx0 2 x5 = some a5' ∧
       ∃ s6', N3'.slAt a5'.block (a5'.off + 1) = some s6' ∧
       ((((s6'.2.1 : Int)) > 16777216 →
        Q (.tuple #[.slice none 0 0, .int .i64 5]) N3') ∧
        (¬ (((s6'.2.1 : Int)) > 16777216) →
        Cn Try.prog 35 #[] N3' fun v7' N7' =>
         ∃ p8', asP v7' = some p8' ∧
         ∃ a9', idxA Ax0 lx0 2 x5 = some a9' ∧
         ∃ s10', N7'.slAt a9'.block (a9'.off + 1) = some s10' ∧
         Cn Try.prog 36 #[.pointer p8', .int .u32 (IntKind.u32.wrap ((s10'.2.1 : Int)))] N7' fun v11' N11' =>
          ∃ x12', asI .i64 v11' = some x12' ∧
          ∃ a13', idxA Ax0 lx0 2 x5 = some a13' ∧
          ∃ x14', N11'.intAt .i64 a13'.block a13'.off = some x14' ∧
          ∃ r15', appendP Try.prog #[22, 22] (.slice Ax4 lx4 cx4) (.slice (some ⟨2 * N11'.nb.size, 0, none⟩) 1 1) (N11'.new (.cells #[.int .u8 (IntKind.u8.wrap (IntKind.i64.wrap (16 * x14')))] 5)) = some r15' ∧
          ∃ s16', asS r15'.1 = some s16' ∧
          Cn Try.prog 37 #[.pointer p8'] r15'.2 fun v17' N17' =>
           ∃ s18', asS v17' = some s18' ∧
           ∃ r19', appendP Try.prog #[22, 22] (.slice s16'.1 s16'.2.1 s16'.2.2) (.slice s18'.1 (s18'.2.1) (s18'.2.2)) N17' = some r19' ∧
           ∃ s20', asS r19'.1 = some s20' ∧
           ∃ a21', idxA Ax0 lx0 2 x5 = some a21' ∧
           ∃ s22', r19'.2.slAt a21'.block (a21'.off + 1) = some s22' ∧
           ∃ r23', appendP Try.prog #[22, 22] (.slice s20'.1 s20'.2.1 s20'.2.2) (.slice s22'.1 (s22'.2.1) (s22'.2.2)) r19'.2 = some r23' ∧
           ∃ s24', asS r23'.1 = some s24' ∧
           A19_1 Ax0 lx0 cx0 s24'.1 s24'.2.1 s24'.2.2 (IntKind.i64.wrap (x5 + 1)) r23'.2 Q))))) ∧
     (¬ (x5 < ((lx0 : Int))) →
     Q (.tuple #[.slice Ax4 lx4 cx4, .int .i64 0]) M))) :
    A19_1 Ax0 lx0 cx0 Ax4 lx4 cx4 x5 M Q := by
  intro g1 g2 g3 g6 g7 g8 g9 g10 g11 g12 g13 g14 g15 g16 g17 g18 g19 g20 g21 g22 g23 g24 g25 g26 g27 g28 g29 g30 g31 g32 g33 g34 g35 g36 g37 g38 g39 g40 g41 g42 g43 g44 g45 g46 g47 g48 g49 g50 g51 g52 g53 g54 g55 g56 g57 g58
  refine Rn.seq k19_9 (Rn.seq k19_10 (Rn.region k19_11 (fun call K => r19_3) (Rch.leaf ?_)))
  refine Rn.cnd (v := decide (x5 < ((lx0 : Int)))) ⟨c19_12, rfl, by kernel_rfl⟩ (fun h => ?_) (fun h => ?_)
  · replace H := H.1 (of_decide_eq_true h)
    refine Rn.skip k19_13 (Rn.seq k19_14 (Rn.block k19_15 (Rn.seq k19_16 (Rn.seq k19_17 (Rn.region k19_18 (fun call K => r19_5) (Rch.ex H fun a1' H => Rch.ex H fun x2' H => Rch.call H fun v3' N3' H => Rch.ex H fun b4' H => Rch.leaf ?_))))))
    refine Rn.cnd (v := !b4') ⟨c19_19, rfl, by kernel_rfl⟩ (fun h => ?_) (fun h => ?_)
    · replace H := H.1 (h)
      refine Rn.seq k19_20 (Rn.region k19_21 (fun call K => r19_6) (Rch.leaf ?_))
      exact Rn.ret k19_22 e19 H
    · replace H := H.2 (h)
      refine Rn.skip k19_24 (Rn.seq k19_25 (Rn.seq k19_26 (Rn.region k19_27 (fun call K => r19_7) (Rch.ex H fun a5' H => Rch.ex H fun s6' H => Rch.leaf ?_))))
      refine Rn.cnd (v := decide (((s6'.2.1 : Int)) > 16777216)) ⟨c19_28, rfl, by kernel_rfl⟩ (fun h => ?_) (fun h => ?_)
      · replace H := H.1 (of_decide_eq_true h)
        refine Rn.seq k19_29 (Rn.region k19_30 (fun call K => r19_8) (Rch.leaf ?_))
        exact Rn.ret k19_31 e19 H
      · replace H := H.2 (of_decide_eq_false h)
        refine Rn.skip k19_32 (Rn.seq k19_33 (Rn.region k19_34 (fun call K => r19_9) (Rch.call H fun v7' N7' H => Rch.ex H fun p8' H => Rch.leaf (Rn.seq k19_35 (Rn.region k19_36 (fun call K => r19_10) (Rch.ex H fun a9' H => Rch.ex H fun s10' H => Rch.call H fun v11' N11' H => Rch.ex H fun x12' H => ?_))))))
        refine Rch.leaf (Rn.seq k19_37 (Rn.region k19_38 (fun call K => r19_11) (Rch.ex H fun a13' H => Rch.ex H fun x14' H => Rch.ex H fun r15' H => Rch.ex H fun s16' H => Rch.leaf (Rn.seq k19_39 (Rn.region k19_40 (fun call K => r19_12) (Rch.call H fun v17' N17' H => Rch.ex H fun s18' H => ?_))))))
        refine Rch.ex H fun r19' H => Rch.ex H fun s20' H => Rch.leaf (Rn.region k19_41 (fun call K => r19_13) (Rch.ex H fun a21' H => Rch.ex H fun s22' H => Rch.ex H fun r23' H => Rch.ex H fun s24' H => Rch.leaf (Rn.blk (Rn.region k19_42 (fun call K => r19_4) (Rch.leaf ?_)))))
        refine Rn.lp ?_
        exact H _ _ _ _ _ _ _ _ _ _ _ _ _ _ _ _ _ _ _ _ _ _ _ _ _ _ _ _ _ _ _ _ _ _ _ _ _ _ _ _ _ _ _ _ _ _ _ _ _ _ _ _ _ _ _ _
  · replace H := H.2 (of_decide_eq_false h)
    refine Rn.exit k19_43 rfl (Rn.seq k19_44 (Rn.region k19_45 (fun call K => r19_14) (Rch.leaf ?_)))
    exact Rn.ret k19_46 e19 H


/-! ### zoetrope/zoetroperef19.Units: function 21 -/
noncomputable abbrev P21 (p : List Nat) : Code := subC (codeOf Try.f21) p
noncomputable abbrev O21 (p : List Nat) : Array Oper := opsOf (subC (codeOf Try.f21) p)
theorem b21 : Try.prog.funcs[21]? = some Try.f21 ∧ (Orc.tab Try.prog).lookup 21 = none := ⟨by kernel_rfl, by kernel_rfl⟩
theorem d21 : Try.f21.body = some (P21 []) := by kernel_rfl
theorem t21 {Ax0 : Option Addr} {lx0 cx0 : Nat} : #[.slice Ax0 lx0 cx0] ++ Array.replicate (Try.f21.ntmps - (#[.slice Ax0 lx0 cx0] : Array Value).size) undef = #[.slice Ax0 lx0 cx0,undef,undef,undef,undef,undef,undef,undef,undef,undef,undef,undef,undef,undef,undef,undef,undef,undef,undef,undef,undef,undef,undef,undef,undef,undef,undef,undef,undef,undef,undef,undef,undef,undef,undef,undef,undef,undef,undef,undef,undef,undef,undef,undef,undef,undef,undef,undef,undef,undef,undef,undef,undef,undef,undef,undef,undef,undef,undef,undef,undef,undef,undef,undef,undef,undef,undef,undef,undef,undef,undef,undef,undef,undef,undef,undef] := by kernel_rfl
theorem k21_0 : P21 [] = .seq (P21 [0]) (P21 [1]) := by kernel_rfl
theorem k21_1 : P21 [0] = .region 0 (O21 [0]) false := by kernel_rfl
theorem r21_0 {M : Mem} {call : CallM} {K : Array Value → Mem → R} :
    opsK Try.prog (fun _ => call) (O21 [0]) (O21 [0]).toList 0 #[g0,g1,g2,g3,g4,g5,g6,g7,g8,g9,g10,g11,g12,g13,g14,g15,g16,g17,g18,g19,g20,g21,g22,g23,g24,g25,g26,g27,g28,g29,g30,g31,g32,g33,g34,g35,g36,g37,g38,g39,g40,g41,g42,g43,g44,g45,g46,g47,g48,g49,g50,g51,g52,g53,g54,g55,g56,g57,g58,g59,g60,g61,g62,g63,g64,g65,g66,g67,g68,g69,g70,g71,g72,g73,g74,g75] M K = K #[g0,g1,.slice none 0 0,.int .i64 0,g4,g5,g6,g7,g8,g9,g10,g11,g12,g13,g14,g15,g16,g17,g18,g19,g20,g21,g22,g23,g24,g25,g26,g27,g28,g29,g30,g31,g32,g33,g34,g35,g36,g37,g38,g39,g40,g41,g42,g43,g44,g45,g46,g47,g48,g49,g50,g51,g52,g53,g54,g55,g56,g57,g58,g59,g60,g61,g62,g63,g64,g65,g66,g67,g68,g69,g70,g71,g72,g73,g74,g75] M := by kernel_rfl
theorem k21_2 : P21 [1] = .seq (P21 [1,0]) (P21 [1,1]) := by kernel_rfl
theorem k21_3 : P21 [1,0] = .region 1 (O21 [1,0]) false := by kernel_rfl
theorem r21_1 {M : Mem} {call : CallM} {K : Array Value → Mem → R} :
    opsK Try.prog (fun _ => call) (O21 [1,0]) (O21 [1,0]).toList 0 #[g0,g1,g2,g3,g4,g5,g6,g7,g8,g9,g10,g11,g12,g13,g14,g15,g16,g17,g18,g19,g20,g21,g22,g23,g24,g25,g26,g27,g28,g29,g30,g31,g32,g33,g34,g35,g36,g37,g38,g39,g40,g41,g42,g43,g44,g45,g46,g47,g48,g49,g50,g51,g52,g53,g54,g55,g56,g57,g58,g59,g60,g61,g62,g63,g64,g65,g66,g67,g68,g69,g70,g71,g72,g73,g74,g75] M K = K #[g0,g1,g2,g3,.slice none 0 0,g5,g6,g7,g8,g9,g10,g11,g12,g13,g14,g15,g16,g17,g18,g19,g20,g21,g22,g23,g24,g25,g26,g27,g28,g29,g30,g31,g32,g33,g34,g35,g36,g37,g38,g39,g40,g41,g42,g43,g44,g45,g46,g47,g48,g49,g50,g51,g52,g53,g54,g55,g56,g57,g58,g59,g60,g61,g62,g63,g64,g65,g66,g67,g68,g69,g70,g71,g72,g73,g74,g75] M := by kernel_rfl
theorem k21_4 : P21 [1,1] = .seq (P21 [1,1,0]) (P21 [1,1,1]) := by kernel_rfl
theorem k21_5 : P21 [1,1,0] = .seq (P21 [1,1,0,0]) (P21 [1,1,0,1]) := by kernel_rfl
theorem k21_6 : P21 [1,1,0,0] = .region 2 (O21 [1,1,0,0]) false := by kernel_rfl
theorem r21_2 {M : Mem} {call : CallM} {K : Array Value → Mem → R} :
    opsK Try.prog (fun _ => call) (O21 [1,1,0,0]) (O21 [1,1,0,0]).toList 0 #[g0,g1,g2,g3,g4,g5,g6,g7,g8,g9,g10,g11,g12,g13,g14,g15,g16,g17,g18,g19,g20,g21,g22,g23,g24,g25,g26,g27,g28,g29,g30,g31,g32,g33,g34,g35,g36,g37,g38,g39,g40,g41,g42,g43,g44,g45,g46,g47,g48,g49,g50,g51,g52,g53,g54,g55,g56,g57,g58,g59,g60,g61,g62,g63,g64,g65,g66,g67,g68,g69,g70,g71,g72,g73,g74,g75] M K = K #[g0,g1,g2,g3,g4,.int .i64 0,g6,g7,g8,g9,g10,g11,g12,g13,g14,g15,g16,g17,g18,g19,g20,g21,g22,g23,g24,g25,g26,g27,g28,g29,g30,g31,g32,g33,g34,g35,g36,g37,g38,g39,g40,g41,g42,g43,g44,g45,g46,g47,g48,g49,g50,g51,g52,g53,g54,g55,g56,g57,g58,g59,g60,g61,g62,g63,g64,g65,g66,g67,g68,g69,g70,g71,g72,g73,g74,g75] M := by kernel_rfl
theorem k21_7 : P21 [1,1,0,1] = .block 0 (P21 [1,1,0,1,0]) := by kernel_rfl
theorem k21_8 : P21 [1,1,0,1,0] = .loop (P21 [1,1,0,1,0,0]) := by kernel_rfl
theorem k21_9 : P21 [1,1,0,1,0,0] = .seq (P21 [1,1,0,1,0,0,0]) (P21 [1,1,0,1,0,0,1]) := by kernel_rfl
theorem k21_10 : P21 [1,1,0,1,0,0,0] = .seq (P21 [1,1,0,1,0,0,0,0]) (P21 [1,1,0,1,0,0,0,1]) := by kernel_rfl
theorem k21_11 : P21 [1,1,0,1,0,0,0,0] = .region 3 (O21 [1,1,0,1,0,0,0,0]) false := by kernel_rfl
theorem r21_3 {Ax0 : Option Addr} {lx0 cx0 : Nat} {x5 : Int} {M : Mem} {call : CallM} {K : Array Value → Mem → R} :
    opsK Try.prog (fun _ => call) (O21 [1,1,0,1,0,0,0,0]) (O21 [1,1,0,1,0,0,0,0]).toList 0 #[.slice Ax0 lx0 cx0,g1,g2,g3,g4,.int .i64 x5,g6,g7,g8,g9,g10,g11,g12,g13,g14,g15,g16,g17,g18,g19,g20,g21,g22,g23,g24,g25,g26,g27,g28,g29,g30,g31,g32,g33,g34,g35,g36,g37,g38,g39,g40,g41,g42,g43,g44,g45,g46,g47,g48,g49,g50,g51,g52,g53,g54,g55,g56,g57,g58,g59,g60,g61,g62,g63,g64,g65,g66,g67,g68,g69,g70,g71,g72,g73,g74,g75] M K = K #[.slice Ax0 lx0 cx0,g1,g2,g3,g4,.int .i64 x5,g6,g7,.int .i64 x5,.slice Ax0 lx0 cx0,.int .i64 ((lx0 : Int)),.bool (decide (x5 < ((lx0 : Int)))),g12,g13,g14,g15,g16,g17,g18,g19,g20,g21,g22,g23,g24,g25,g26,g27,g28,g29,g30,g31,g32,g33,g34,g35,g36,g37,g38,g39,g40,g41,g42,g43,g44,g45,g46,g47,g48,g49,g50,g51,g52,g53,g54,g55,g56,g57,g58,g59,g60,g61,g62,g63,g64,g65,g66,g67,g68,g69,g70,g71,g72,g73,g74,g75] M := by kernel_rfl
theorem c21_12 : P21 [1,1,0,1,0,0,0,1] = .cond (.tmp 11) (P21 [1,1,0,1,0,0,0,1,0]) (P21 [1,1,0,1,0,0,0,1,1]) := by kernel_rfl
theorem k21_13 : P21 [1,1,0,1,0,0,0,1,0] = .skip := by kernel_rfl
theorem k21_14 : P21 [1,1,0,1,0,0,1] = .seq (P21 [1,1,0,1,0,0,1,0]) (P21 [1,1,0,1,0,0,1,1]) := by kernel_rfl
theorem k21_15 : P21 [1,1,0,1,0,0,1,0] = .block 1 (P21 [1,1,0,1,0,0,1,0,0]) := by kernel_rfl
theorem k21_16 : P21 [1,1,0,1,0,0,1,0,0] = .seq (P21 [1,1,0,1,0,0,1,0,0,0]) (P21 [1,1,0,1,0,0,1,0,0,1]) := by kernel_rfl
theorem k21_17 : P21 [1,1,0,1,0,0,1,0,0,0] = .region 5 (O21 [1,1,0,1,0,0,1,0,0,0]) false := by kernel_rfl
theorem r21_5 {Ax0 : Option Addr} {lx0 cx0 : Nat} {x5 : Int} {M : Mem} {call : CallM} {K : Array Value → Mem → R} :
    opsK Try.prog (fun _ => call) (O21 [1,1,0,1,0,0,1,0,0,0]) (O21 [1,1,0,1,0,0,1,0,0,0]).toList 0 #[.slice Ax0 lx0 cx0,g1,g2,g3,g4,.int .i64 x5,g6,g7,g8,g9,g10,g11,g12,g13,g14,g15,g16,g17,g18,g19,g20,g21,g22,g23,g24,g25,g26,g27,g28,g29,g30,g31,g32,g33,g34,g35,g36,g37,g38,g39,g40,g41,g42,g43,g44,g45,g46,g47,g48,g49,g50,g51,g52,g53,g54,g55,g56,g57,g58,g59,g60,g61,g62,g63,g64,g65,g66,g67,g68,g69,g70,g71,g72,g73,g74,g75] M K = (idxA Ax0 lx0 2 x5).bind fun a_1 => (M.intAt .i64 a_1.block a_1.off).bind fun x_2 => K #[.slice Ax0 lx0 cx0,g1,g2,g3,g4,.int .i64 x5,.bool (x_2 == 2),g7,g8,g9,g10,g11,g12,g13,.slice Ax0 lx0 cx0,.int .i64 x5,.pointer (some a_1),.pointer (some ⟨a_1.block, a_1.off, none⟩),.int .i64 x_2,.bool (x_2 == 2),g20,g21,g22,g23,g24,g25,g26,g27,g28,g29,g30,g31,g32,g33,g34,g35,g36,g37,g38,g39,g40,g41,g42,g43,g44,g45,g46,g47,g48,g49,g50,g51,g52,g53,g54,g55,g56,g57,g58,g59,g60,g61,g62,g63,g64,g65,g66,g67,g68,g69,g70,g71,g72,g73,g74,g75] M := by kernel_rfl
theorem k21_18 : P21 [1,1,0,1,0,0,1,0,0,1] = .seq (P21 [1,1,0,1,0,0,1,0,0,1,0]) (P21 [1,1,0,1,0,0,1,0,0,1,1]) := by kernel_rfl
theorem k21_19 : P21 [1,1,0,1,0,0,1,0,0,1,0] = .seq (P21 [1,1,0,1,0,0,1,0,0,1,0,0]) (P21 [1,1,0,1,0,0,1,0,0,1,0,1]) := by kernel_rfl
theorem k21_20 : P21 [1,1,0,1,0,0,1,0,0,1,0,0] = .region 6 (O21 [1,1,0,1,0,0,1,0,0,1,0,0]) false := by kernel_rfl
theorem r21_6 {Ax0 : Option Addr} {lx0 cx0 : Nat} {x5 : Int} {x6 : Bool} {M : Mem} {call : CallM} {K : Array Value → Mem → R} :
    opsK Try.prog (fun _ => call) (O21 [1,1,0,1,0,0,1,0,0,1,0,0]) (O21 [1,1,0,1,0,0,1,0,0,1,0,0]).toList 0 #[.slice Ax0 lx0 cx0,g1,g2,g3,g4,.int .i64 x5,.bool x6,g7,g8,g9,g10,g11,g12,g13,g14,g15,g16,g17,g18,g19,g20,g21,g22,g23,g24,g25,g26,g27,g28,g29,g30,g31,g32,g33,g34,g35,g36,g37,g38,g39,g40,g41,g42,g43,g44,g45,g46,g47,g48,g49,g50,g51,g52,g53,g54,g55,g56,g57,g58,g59,g60,g61,g62,g63,g64,g65,g66,g67,g68,g69,g70,g71,g72,g73,g74,g75] M K = withK (fun w22 w23 w24 w25 w26 w27 w28 w29 w30 w31 w32 w33 w34 w35 w36 w37 w38 w39 w40 w41 w42 w43 w44 w45 w46 M => K #[.slice Ax0 lx0 cx0,g1,g2,g3,g4,.int .i64 x5,.bool x6,g7,g8,g9,g10,g11,g12,g13,g14,g15,g16,g17,g18,g19,.slice Ax0 lx0 cx0,.int .i64 x5,w22,w23,w24,w25,w26,w27,w28,w29,w30,w31,w32,w33,w34,w35,w36,w37,w38,w39,w40,w41,w42,w43,w44,w45,w46,g47,g48,g49,g50,g51,g52,g53,g54,g55,g56,g57,g58,g59,g60,g61,g62,g63,g64,g65,g66,g67,g68,g69,g70,g71,g72,g73,g74,g75] M) fun k => (idxA Ax0 lx0 2 x5).bind fun a_1 => (M.intAt .i64 a_1.block a_1.off).bind fun x_2 => (call 34 #[.int .i64 x_2] M).bind fun r_3 => (asB r_3.1).bind fun b_4 => cond (!b_4) (k (.pointer (some a_1)) (.pointer (some ⟨a_1.block, a_1.off, none⟩)) (.int .i64 x_2) (.bool b_4) (.bool (!b_4)) (.bool true) undef undef undef undef undef undef (.bool true) (.bool true) undef undef undef undef undef undef undef undef undef undef (.bool true) r_3.2) (cond (x5 == 0) (cond (!x6) (k (.pointer (some a_1)) (.pointer (some ⟨a_1.block, a_1.off, none⟩)) (.int .i64 x_2) (.bool b_4) (.bool (!b_4)) (.bool false) (.int .i64 x5) (.bool (x5 == 0)) (.bool true) (.bool x6) (.bool (!x6)) (.bool (!x6)) (.bool (!x6)) (.bool true) undef undef undef undef undef undef undef undef undef undef (.bool true) r_3.2) (cond x6 ((idxA Ax0 lx0 2 x5).bind fun a_5 => (r_3.2.slAt a_5.block (a_5.off + 1)).bind fun s_6 => k (.pointer (some a_1)) (.pointer (some ⟨a_1.block, a_1.off, none⟩)) (.int .i64 x_2) (.bool b_4) (.bool (!b_4)) (.bool false) (.int .i64 x5) (.bool (x5 == 0)) (.bool true) (.bool x6) (.bool (!x6)) (.bool (!x6)) (.bool (!x6)) (.bool false) (.bool x6) (.bool true) (.slice Ax0 lx0 cx0) (.int .i64 x5) (.pointer (some a_5)) (.pointer (some ⟨a_5.block, a_5.off + 1, none⟩)) (.slice s_6.1 (s_6.2.1) (s_6.2.2)) (.int .i64 ((s_6.2.1 : Int))) (.bool (decide (((s_6.2.1 : Int)) > 0))) (.bool (decide (((s_6.2.1 : Int)) > 0))) (.bool (decide (((s_6.2.1 : Int)) > 0))) r_3.2) (k (.pointer (some a_1)) (.pointer (some ⟨a_1.block, a_1.off, none⟩)) (.int .i64 x_2) (.bool b_4) (.bool (!b_4)) (.bool false) (.int .i64 x5) (.bool (x5 == 0)) (.bool true) (.bool x6) (.bool (!x6)) (.bool (!x6)) (.bool (!x6)) (.bool false) (.bool x6) (.bool false) undef undef undef undef undef undef undef (.bool false) (.bool false) r_3.2))) (cond x6 ((idxA Ax0 lx0 2 x5).bind fun a_7 => (r_3.2.slAt a_7.block (a_7.off + 1)).bind fun s_8 => k (.pointer (some a_1)) (.pointer (some ⟨a_1.block, a_1.off, none⟩)) (.int .i64 x_2) (.bool b_4) (.bool (!b_4)) (.bool false) (.int .i64 x5) (.bool (x5 == 0)) (.bool false) undef undef (.bool false) (.bool false) (.bool false) (.bool x6) (.bool true) (.slice Ax0 lx0 cx0) (.int .i64 x5) (.pointer (some a_7)) (.pointer (some ⟨a_7.block, a_7.off + 1, none⟩)) (.slice s_8.1 (s_8.2.1) (s_8.2.2)) (.int .i64 ((s_8.2.1 : Int))) (.bool (decide (((s_8.2.1 : Int)) > 0))) (.bool (decide (((s_8.2.1 : Int)) > 0))) (.bool (decide (((s_8.2.1 : Int)) > 0))) r_3.2) (k (.pointer (some a_1)) (.pointer (some ⟨a_1.block, a_1.off, none⟩)) (.int .i64 x_2) (.bool b_4) (.bool (!b_4)) (.bool false) (.int .i64 x5) (.bool (x5 == 0)) (.bool false) undef undef (.bool false) (.bool false) (.bool false) (.bool x6) (.bool false) undef undef undef undef undef undef undef (.bool false) (.bool false) r_3.2))) := by kernel_rfl
theorem k21_21 : P21 [1,1,0,1,0,0,0,1,1] = .exit 0 := by kernel_rfl
theorem k21_22 : P21 [1,1,1] = .seq (P21 [1,1,1,0]) (P21 [1,1,1,1]) := by kernel_rfl
theorem k21_23 : P21 [1,1,1,0] = .region 12 (O21 [1,1,1,0]) false := by kernel_rfl
theorem r21_12 {Ax4 : Option Addr} {lx4 cx4 : Nat} {M : Mem} {call : CallM} {K : Array Value → Mem → R} :
    opsK Try.prog (fun _ => call) (O21 [1,1,1,0]) (O21 [1,1,1,0]).toList 0 #[g0,g1,g2,g3,.slice Ax4 lx4 cx4,g5,g6,g7,g8,g9,g10,g11,g12,g13,g14,g15,g16,g17,g18,g19,g20,g21,g22,g23,g24,g25,g26,g27,g28,g29,g30,g31,g32,g33,g34,g35,g36,g37,g38,g39,g40,g41,g42,g43,g44,g45,g46,g47,g48,g49,g50,g51,g52,g53,g54,g55,g56,g57,g58,g59,g60,g61,g62,g63,g64,g65,g66,g67,g68,g69,g70,g71,g72,g73,g74,g75] M K = K #[g0,g1,.slice Ax4 lx4 cx4,.int .i64 0,.slice Ax4 lx4 cx4,g5,g6,g7,g8,g9,g10,g11,g12,g13,g14,g15,g16,g17,g18,g19,g20,g21,g22,g23,g24,g25,g26,g27,g28,g29,g30,g31,g32,g33,g34,g35,g36,g37,g38,g39,g40,g41,g42,g43,g44,g45,g46,g47,g48,g49,g50,g51,g52,g53,g54,g55,g56,g57,g58,g59,g60,g61,g62,g63,g64,g65,g66,g67,g68,g69,g70,g71,g72,g73,g74,.slice Ax4 lx4 cx4] M := by kernel_rfl
theorem k21_24 : P21 [1,1,1,1] = .ret := by kernel_rfl
theorem e21 {M : Mem} : finish Try.prog Try.f21 #[g0,g1,g2,g3,g4,g5,g6,g7,g8,g9,g10,g11,g12,g13,g14,g15,g16,g17,g18,g19,g20,g21,g22,g23,g24,g25,g26,g27,g28,g29,g30,g31,g32,g33,g34,g35,g36,g37,g38,g39,g40,g41,g42,g43,g44,g45,g46,g47,g48,g49,g50,g51,g52,g53,g54,g55,g56,g57,g58,g59,g60,g61,g62,g63,g64,g65,g66,g67,g68,g69,g70,g71,g72,g73,g74,g75] M = some (.tuple #[g2, g3], M) := by kernel_rfl
theorem c21_26 : P21 [1,1,0,1,0,0,1,0,0,1,0,1] = .cond (.tmp 46) (P21 [1,1,0,1,0,0,1,0,0,1,0,1,0]) (P21 [1,1,0,1,0,0,1,0,0,1,0,1,1]) := by kernel_rfl
theorem k21_27 : P21 [1,1,0,1,0,0,1,0,0,1,0,1,0] = .seq (P21 [1,1,0,1,0,0,1,0,0,1,0,1,0,0]) (P21 [1,1,0,1,0,0,1,0,0,1,0,1,0,1]) := by kernel_rfl
theorem k21_28 : P21 [1,1,0,1,0,0,1,0,0,1,0,1,0,0] = .region 7 (O21 [1,1,0,1,0,0,1,0,0,1,0,1,0,0]) false := by kernel_rfl
theorem r21_7 {M : Mem} {call : CallM} {K : Array Value → Mem → R} :
    opsK Try.prog (fun _ => call) (O21 [1,1,0,1,0,0,1,0,0,1,0,1,0,0]) (O21 [1,1,0,1,0,0,1,0,0,1,0,1,0,0]).toList 0 #[g0,g1,g2,g3,g4,g5,g6,g7,g8,g9,g10,g11,g12,g13,g14,g15,g16,g17,g18,g19,g20,g21,g22,g23,g24,g25,g26,g27,g28,g29,g30,g31,g32,g33,g34,g35,g36,g37,g38,g39,g40,g41,g42,g43,g44,g45,g46,g47,g48,g49,g50,g51,g52,g53,g54,g55,g56,g57,g58,g59,g60,g61,g62,g63,g64,g65,g66,g67,g68,g69,g70,g71,g72,g73,g74,g75] M K = K #[g0,g1,.slice none 0 0,.int .i64 4,g4,g5,g6,g7,g8,g9,g10,g11,g12,g13,g14,g15,g16,g17,g18,g19,g20,g21,g22,g23,g24,g25,g26,g27,g28,g29,g30,g31,g32,g33,g34,g35,g36,g37,g38,g39,g40,g41,g42,g43,g44,g45,g46,g47,g48,g49,g50,g51,g52,g53,g54,g55,g56,g57,g58,g59,g60,g61,g62,g63,g64,g65,g66,g67,g68,g69,g70,g71,g72,g73,g74,g75] M := by kernel_rfl
theorem k21_29 : P21 [1,1,0,1,0,0,1,0,0,1,0,1,0,1] = .ret := by kernel_rfl
theorem k21_30 : P21 [1,1,0,1,0,0,1,0,0,1,0,1,1] = .skip := by kernel_rfl
theorem k21_31 : P21 [1,1,0,1,0,0,1,0,0,1,1] = .seq (P21 [1,1,0,1,0,0,1,0,0,1,1,0]) (P21 [1,1,0,1,0,0,1,0,0,1,1,1]) := by kernel_rfl
theorem k21_32 : P21 [1,1,0,1,0,0,1,0,0,1,1,0] = .region 8 (O21 [1,1,0,1,0,0,1,0,0,1,1,0]) false := by kernel_rfl
theorem r21_8 {x6 : Bool} {M : Mem} {call : CallM} {K : Array Value → Mem → R} :
    opsK Try.prog (fun _ => call) (O21 [1,1,0,1,0,0,1,0,0,1,1,0]) (O21 [1,1,0,1,0,0,1,0,0,1,1,0]).toList 0 #[g0,g1,g2,g3,g4,g5,.bool x6,g7,g8,g9,g10,g11,g12,g13,g14,g15,g16,g17,g18,g19,g20,g21,g22,g23,g24,g25,g26,g27,g28,g29,g30,g31,g32,g33,g34,g35,g36,g37,g38,g39,g40,g41,g42,g43,g44,g45,g46,g47,g48,g49,g50,g51,g52,g53,g54,g55,g56,g57,g58,g59,g60,g61,g62,g63,g64,g65,g66,g67,g68,g69,g70,g71,g72,g73,g74,g75] M K = K #[g0,g1,g2,g3,g4,g5,.bool x6,g7,g8,g9,g10,g11,g12,g13,g14,g15,g16,g17,g18,g19,g20,g21,g22,g23,g24,g25,g26,g27,g28,g29,g30,g31,g32,g33,g34,g35,g36,g37,g38,g39,g40,g41,g42,g43,g44,g45,g46,.bool x6,g48,g49,g50,g51,g52,g53,g54,g55,g56,g57,g58,g59,g60,g61,g62,g63,g64,g65,g66,g67,g68,g69,g70,g71,g72,g73,g74,g75] M := by kernel_rfl
theorem c21_33 : P21 [1,1,0,1,0,0,1,0,0,1,1,1] = .cond (.tmp 47) (P21 [1,1,0,1,0,0,1,0,0,1,1,1,0]) (P21 [1,1,0,1,0,0,1,0,0,1,1,1,1]) := by kernel_rfl
theorem k21_34 : P21 [1,1,0,1,0,0,1,0,0,1,1,1,0] = .region 9 (O21 [1,1,0,1,0,0,1,0,0,1,1,1,0]) false := by kernel_rfl
theorem r21_9 {Ax4 : Option Addr} {lx4 cx4 : Nat} {M : Mem} {call : CallM} {K : Array Value → Mem → R} :
    opsK Try.prog (fun _ => call) (O21 [1,1,0,1,0,0,1,0,0,1,1,1,0]) (O21 [1,1,0,1,0,0,1,0,0,1,1,1,0]).toList 0 #[g0,g1,g2,g3,.slice Ax4 lx4 cx4,g5,g6,g7,g8,g9,g10,g11,g12,g13,g14,g15,g16,g17,g18,g19,g20,g21,g22,g23,g24,g25,g26,g27,g28,g29,g30,g31,g32,g33,g34,g35,g36,g37,g38,g39,g40,g41,g42,g43,g44,g45,g46,g47,g48,g49,g50,g51,g52,g53,g54,g55,g56,g57,g58,g59,g60,g61,g62,g63,g64,g65,g66,g67,g68,g69,g70,g71,g72,g73,g74,g75] M K = (appendP Try.prog #[37, 37] (.slice Ax4 lx4 cx4) (.slice (some ⟨2 * M.nb.size, 0, none⟩) 1 1) (M.new (.cells #[.slice none 0 0] 24))).bind fun r_1 => (asS r_1.1).bind fun s_2 => K #[g0,g1,g2,g3,.slice s_2.1 (s_2.2.1) (s_2.2.2),g5,g6,g7,g8,g9,g10,g11,g12,g13,g14,g15,g16,g17,g18,g19,g20,g21,g22,g23,g24,g25,g26,g27,g28,g29,g30,g31,g32,g33,g34,g35,g36,g37,g38,g39,g40,g41,g42,g43,g44,g45,g46,g47,.slice Ax4 lx4 cx4,.slice (some ⟨2 * M.nb.size, 0, none⟩) 1 1,.slice s_2.1 (s_2.2.1) (s_2.2.2),g51,g52,g53,g54,g55,g56,g57,g58,g59,g60,g61,g62,g63,g64,g65,g66,g67,g68,g69,g70,g71,g72,g73,g74,g75] r_1.2 := by kernel_rfl
theorem k21_35 : P21 [1,1,0,1,0,0,1,0,0,1,1,1,1] = .seq (P21 [1,1,0,1,0,0,1,0,0,1,1,1,1,0]) (P21 [1,1,0,1,0,0,1,0,0,1,1,1,1,1]) := by kernel_rfl
theorem k21_36 : P21 [1,1,0,1,0,0,1,0,0,1,1,1,1,0] = .region 10 (O21 [1,1,0,1,0,0,1,0,0,1,1,1,1,0]) false := by kernel_rfl
theorem r21_10 {Ax4 : Option Addr} {lx4 cx4 : Nat} {M : Mem} {call : CallM} {K : Array Value → Mem → R} :
    opsK Try.prog (fun _ => call) (O21 [1,1,0,1,0,0,1,0,0,1,1,1,1,0]) (O21 [1,1,0,1,0,0,1,0,0,1,1,1,1,0]).toList 0 #[g0,g1,g2,g3,.slice Ax4 lx4 cx4,g5,g6,g7,g8,g9,g10,g11,g12,g13,g14,g15,g16,g17,g18,g19,g20,g21,g22,g23,g24,g25,g26,g27,g28,g29,g30,g31,g32,g33,g34,g35,g36,g37,g38,g39,g40,g41,g42,g43,g44,g45,g46,g47,g48,g49,g50,g51,g52,g53,g54,g55,g56,g57,g58,g59,g60,g61,g62,g63,g64,g65,g66,g67,g68,g69,g70,g71,g72,g73,g74,g75] M K = K #[g0,g1,g2,g3,.slice Ax4 lx4 cx4,g5,g6,.int .i64 (IntKind.i64.wrap (((lx4 : Int)) - 1)),g8,g9,g10,g11,g12,g13,g14,g15,g16,g17,g18,g19,g20,g21,g22,g23,g24,g25,g26,g27,g28,g29,g30,g31,g32,g33,g34,g35,g36,g37,g38,g39,g40,g41,g42,g43,g44,g45,g46,g47,g48,g49,g50,.slice Ax4 lx4 cx4,.int .i64 ((lx4 : Int)),.int .i64 (IntKind.i64.wrap (((lx4 : Int)) - 1)),g54,g55,g56,g57,g58,g59,g60,g61,g62,g63,g64,g65,g66,g67,g68,g69,g70,g71,g72,g73,g74,g75] M := by kernel_rfl
theorem k21_37 : P21 [1,1,0,1,0,0,1,0,0,1,1,1,1,1] = .region 11 (O21 [1,1,0,1,0,0,1,0,0,1,1,1,1,1]) true ∧ drawOk (O21 [1,1,0,1,0,0,1,0,0,1,1,1,1,1]) = true := ⟨by kernel_rfl, by kernel_rfl⟩
theorem r21_11 {Ax0 : Option Addr} {lx0 cx0 : Nat} {Ax4 : Option Addr} {lx4 cx4 : Nat} {x5 x7 : Int} {M : Mem} {call : CallM} {K : Array Value → Mem → R} :
    opsI Try.prog (callAt call (O21 [1,1,0,1,0,0,1,0,0,1,1,1,1,1])) (O21 [1,1,0,1,0,0,1,0,0,1,1,1,1,1]) (ordOf (O21 [1,1,0,1,0,0,1,0,0,1,1,1,1,1])) [] #[.slice Ax0 lx0 cx0,g1,g2,g3,.slice Ax4 lx4 cx4,.int .i64 x5,g6,.int .i64 x7,g8,g9,g10,g11,g12,g13,g14,g15,g16,g17,g18,g19,g20,g21,g22,g23,g24,g25,g26,g27,g28,g29,g30,g31,g32,g33,g34,g35,g36,g37,g38,g39,g40,g41,g42,g43,g44,g45,g46,g47,g48,g49,g50,g51,g52,g53,g54,g55,g56,g57,g58,g59,g60,g61,g62,g63,g64,g65,g66,g67,g68,g69,g70,g71,g72,g73,g74,g75] M K = (idxA Ax4 lx4 1 x7).bind fun a_1 => (M.slAt a_1.block a_1.off).bind fun s_2 => (idxA Ax0 lx0 2 x5).bind fun a_3 => (M.intAt .i64 a_3.block a_3.off).bind fun x_4 => (idxA Ax0 lx0 2 x5).bind fun a_5 => (M.slAt a_5.block (a_5.off + 1)).bind fun s_6 => (floored call 10 #[.slice s_6.1 (s_6.2.1) (s_6.2.2)] M).bind fun r_7 => (asS r_7.1).bind fun s_8 => (appendP Try.prog #[24, 24] (.slice s_2.1 (s_2.2.1) (s_2.2.2)) (.slice (some ⟨2 * r_7.2.nb.size, 0, none⟩) 1 1) (r_7.2.new (.cells #[.int .i64 x_4, .slice s_8.1 (s_8.2.1) (s_8.2.2)] 44))).bind fun r_9 => (asS r_9.1).bind fun s_10 => (idxA Ax4 lx4 1 x7).bind fun a_11 => (r_9.2.put a_11.block a_11.off (.slice s_10.1 (s_10.2.1) (s_10.2.2))).bind fun M_12 => K #[.slice Ax0 lx0 cx0,g1,g2,g3,.slice Ax4 lx4 cx4,.int .i64 x5,g6,.int .i64 x7,g8,g9,g10,g11,g12,g13,g14,g15,g16,g17,g18,g19,g20,g21,g22,g23,g24,g25,g26,g27,g28,g29,g30,g31,g32,g33,g34,g35,g36,g37,g38,g39,g40,g41,g42,g43,g44,g45,g46,g47,g48,g49,g50,g51,g52,g53,.slice Ax4 lx4 cx4,.int .i64 x7,.slice Ax4 lx4 cx4,.int .i64 x7,.pointer (some a_1),.slice s_2.1 (s_2.2.1) (s_2.2.2),.slice Ax0 lx0 cx0,.int .i64 x5,.pointer (some a_3),.pointer (some ⟨a_3.block, a_3.off, none⟩),.int .i64 x_4,.slice Ax0 lx0 cx0,.int .i64 x5,.pointer (some a_5),.pointer (some ⟨a_5.block, a_5.off + 1, none⟩),.slice s_6.1 (s_6.2.1) (s_6.2.2),.slice s_8.1 (s_8.2.1) (s_8.2.2),.agg #[.int .i64 x_4, .slice s_8.1 (s_8.2.1) (s_8.2.2)],.slice (some ⟨2 * r_7.2.nb.size, 0, none⟩) 1 1,.slice s_10.1 (s_10.2.1) (s_10.2.2),.pointer (some a_11),g75] M_12 := by kernel_rfl
theorem k21_38 : P21 [1,1,0,1,0,0,1,1] = .region 4 (O21 [1,1,0,1,0,0,1,1]) false := by kernel_rfl
theorem r21_4 {x5 : Int} {M : Mem} {call : CallM} {K : Array Value → Mem → R} :
    opsK Try.prog (fun _ => call) (O21 [1,1,0,1,0,0,1,1]) (O21 [1,1,0,1,0,0,1,1]).toList 0 #[g0,g1,g2,g3,g4,.int .i64 x5,g6,g7,g8,g9,g10,g11,g12,g13,g14,g15,g16,g17,g18,g19,g20,g21,g22,g23,g24,g25,g26,g27,g28,g29,g30,g31,g32,g33,g34,g35,g36,g37,g38,g39,g40,g41,g42,g43,g44,g45,g46,g47,g48,g49,g50,g51,g52,g53,g54,g55,g56,g57,g58,g59,g60,g61,g62,g63,g64,g65,g66,g67,g68,g69,g70,g71,g72,g73,g74,g75] M K = K #[g0,g1,g2,g3,g4,.int .i64 (IntKind.i64.wrap (x5 + 1)),g6,g7,g8,g9,g10,g11,.int .i64 x5,.int .i64 (IntKind.i64.wrap (x5 + 1)),g14,g15,g16,g17,g18,g19,g20,g21,g22,g23,g24,g25,g26,g27,g28,g29,g30,g31,g32,g33,g34,g35,g36,g37,g38,g39,g40,g41,g42,g43,g44,g45,g46,g47,g48,g49,g50,g51,g52,g53,g54,g55,g56,g57,g58,g59,g60,g61,g62,g63,g64,g65,g66,g67,g68,g69,g70,g71,g72,g73,g74,g75] M := by kernel_rfl
noncomputable def S21_1 : List Item := [.code (P21 [1,1,0,1,0,0]), .inLoop (P21 [1,1,0,1,0,0]), .inBlock 0, .code (P21 [1,1,1])]
def A21_1 (Ax0 : Option Addr) (lx0 cx0 : Nat) (Ax4 : Option Addr) (lx4 cx4 : Nat) (x5 : Int) (M : Mem) (Q : Value → Mem → Prop) : Prop := ∀ (g1 g2 g3 g6 g7 g8 g9 g10 g11 g12 g13 g14 g15 g16 g17 g18 g19 g20 g21 g22 g23 g24 g25 g26 g27 g28 g29 g30 g31 g32 g33 g34 g35 g36 g37 g38 g39 g40 g41 g42 g43 g44 g45 g46 g47 g48 g49 g50 g51 g52 g53 g54 g55 g56 g57 g58 g59 g60 g61 g62 g63 g64 g65 g66 g67 g68 g69 g70 g71 g72 g73 g74 g75 : Value), Rn Try.prog Try.f21 S21_1 #[.slice Ax0 lx0 cx0, g1, g2, g3, .slice Ax4 lx4 cx4, .int .i64 x5, g6, g7, g8, g9, g10, g11, g12, g13, g14, g15, g16, g17, g18, g19, g20, g21, g22, g23, g24, g25, g26, g27, g28, g29, g30, g31, g32, g33, g34, g35, g36, g37, g38, g39, g40, g41, g42, g43, g44, g45, g46, g47, g48, g49, g50, g51, g52, g53, g54, g55, g56, g57, g58, g59, g60, g61, g62, g63, g64, g65, g66, g67, g68, g69, g70, g71, g72, g73, g74, g75] M Q
noncomputable def S21_2 : List Item := [.code (P21 [1,1,0,1,0,0,1,0,0,1,0,1]), .code (P21 [1,1,0,1,0,0,1,0,0,1,1]), .inBlock 1, .code (P21 [1,1,0,1,0,0,1,1]), .inLoop (P21 [1,1,0,1,0,0]), .inBlock 0, .code (P21 [1,1,1])]
def A21_2 (Ax0 : Option Addr) (lx0 cx0 : Nat) (Ax4 : Option Addr) (lx4 cx4 : Nat) (x5 : Int) (x6 x46 : Bool) (M : Mem) (Q : Value → Mem → Prop) : Prop := ∀ (g1 g2 g3 g7 g8 g9 g10 g11 g12 g13 g14 g15 g16 g17 g18 g19 g20 g21 g22 g23 g24 g25 g26 g27 g28 g29 g30 g31 g32 g33 g34 g35 g36 g37 g38 g39 g40 g41 g42 g43 g44 g45 g47 g48 g49 g50 g51 g52 g53 g54 g55 g56 g57 g58 g59 g60 g61 g62 g63 g64 g65 g66 g67 g68 g69 g70 g71 g72 g73 g74 g75 : Value), Rn Try.prog Try.f21 S21_2 #[.slice Ax0 lx0 cx0, g1, g2, g3, .slice Ax4 lx4 cx4, .int .i64 x5, .bool x6, g7, g8, g9, g10, g11, g12, g13, g14, g15, g16, g17, g18, g19, g20, g21, g22, g23, g24, g25, g26, g27, g28, g29, g30, g31, g32, g33, g34, g35, g36, g37, g38, g39, g40, g41, g42, g43, g44, g45, .bool x46, g47, g48, g49, g50, g51, g52, g53, g54, g55, g56, g57, g58, g59, g60, g61, g62, g63, g64, g65, g66, g67, g68, g69, g70, g71, g72, g73, g74, g75] M Q
noncomputable def S21_3 : List Item := [.code (P21 [1,1,0,1,0,0,1,1]), .inLoop (P21 [1,1,0,1,0,0]), .inBlock 0, .code (P21 [1,1,1])]
def A21_3 (Ax0 : Option Addr) (lx0 cx0 : Nat) (Ax4 : Option Addr) (lx4 cx4 : Nat) (x5 : Int) (M : Mem) (Q : Value → Mem → Prop) : Prop := ∀ (g1 g2 g3 g6 g7 g8 g9 g10 g11 g12 g13 g14 g15 g16 g17 g18 g19 g20 g21 g22 g23 g24 g25 g26 g27 g28 g29 g30 g31 g32 g33 g34 g35 g36 g37 g38 g39 g40 g41 g42 g43 g44 g45 g46 g47 g48 g49 g50 g51 g52 g53 g54 g55 g56 g57 g58 g59 g60 g61 g62 g63 g64 g65 g66 g67 g68 g69 g70 g71 g72 g73 g74 g75 : Value), Rn Try.prog Try.f21 S21_3 #[.slice Ax0 lx0 cx0, g1, g2, g3, .slice Ax4 lx4 cx4, .int .i64 x5, g6, g7, g8, g9, g10, g11, g12, g13, g14, g15, g16, g17, g18, g19, g20, g21, g22, g23, g24, g25, g26, g27, g28, g29, g30, g31, g32, g33, g34, g35, g36, g37, g38, g39, g40, g41, g42, g43, g44, g45, g46, g47, g48, g49, g50, g51, g52, g53, g54, g55, g56, g57, g58, g59, g60, g61, g62, g63, g64, g65, g66, g67, g68, g69, g70, g71, g72, g73, g74, g75] M Q
theorem w21_0 {Ax0 : Option Addr} {lx0 cx0 : Nat} {M : Mem} {Q : Value → Mem → Prop} (H :
    A21_1 Ax0 lx0 cx0 none 0 0 0 M Q) :
    Cn Try.prog 21 #[.slice Ax0 lx0 cx0] M Q := by
  refine Cn.of b21 d21 t21 ?_
  refine Rn.seq k21_0 (Rn.region k21_1 (fun call K => r21_0) (Rch.leaf (Rn.seq k21_2 (Rn.region k21_3 (fun call K => r21_1) (Rch.leaf (Rn.seq k21_4 (Rn.seq k21_5 (Rn.region k21_6 (fun call K => r21_2) (Rch.leaf (Rn.block k21_7 (Rn.loop k21_8 ?_)))))))))))
  exact H _ _ _ _ _ _ _ _ _ _ _ _ _ _ _ _ _ _ _ _ _ _ _ _ _ _ _ _ _ _ _ _ _ _ _ _ _ _ _ _ _ _ _ _ _ _ _ _ _ _ _ _ _ _ _ _ _ _ _ _ _ _ _ _ _ _ _ _ _ _ _ _ _

theorem w21_1 {Ax0 : Option Addr} {lx0 cx0 : Nat} {Ax4 : Option Addr} {lx4 cx4 : Nat} {x5 : Int} {M : Mem} {Q : Value → Mem → Prop} (H :
    ((x5 < ((lx0 : Int)) →
     ∃ a1', idxA Ax0 lx0 2 x5 = some a1' ∧
     ∃ x2', M.intAt .i64 a1'.block a1'.off = some x2' ∧
     ∃ a3', idxA Ax0 lx0 2 x5 = some a3' ∧
     ∃ x4', M.intAt .i64 a3'.block a3'.off = some x4' ∧
     Cn Try.prog 34 #[.int .i64 x4'] M fun v5' N5' =>
      ∃ b6', asB v5' = some b6' ∧
      (((!b6') = true →
       A21_2 Ax0 lx0 cx0 Ax4 lx4 cx4 x5 (x2' == 2) true N5' Q) ∧
       ((!b6') = false →
       ((x5 = 0 →
        (((!(x2' == 2)) = true →
         A21_2 Ax0 lx0 cx0 Ax4 lx4 cx4 x5 (x2' == 2) true N5' Q) ∧
         ((!(x2' == 2)) = false →
         ((x2' = 2 →
          ∃ a7', idxA Ax0 lx0 2 x5 = some a7' ∧
          ∃ s8', N5'.slAt a7'.block (a7'.off + 1) = some s8' ∧
          A21_2 Ax0 lx0 cx0 Ax4 lx4 cx4 x5 (x2' == 2) (decide (((s8'.2.1 : Int)) > 0)) N5' Q) ∧
          (x2' ≠ 2 →
          A21_2 Ax0 lx0 cx0 Ax4 lx4 cx4 x5 (x2' == 2) false N5' Q))))) ∧
        (x5 ≠ 0 →
        ((x2' = 2 →
         ∃ a9', idxA Ax0 lx0 2 x5 = some a9' ∧
         ∃ s10', N5'.slAt a9'.block (a9'.off + 1) = some s10' ∧
         A21_2 Ax0 lx0 cx0 Ax4 lx4 cx4 x5 (x2' == 2) (decide (((s10'.2.1 : Int)) > 0)) N5' Q) ∧
         (x2' ≠ 2 →
         A21_2 Ax0 lx0 cx0 Ax4 lx4 cx4 x5 (x2' == 2) false N5' Q))))))) ∧
     (¬ (x5 < ((lx0 : Int))) →
     Q (.tuple #[.slice Ax4 lx4 cx4, .int .i64 0]) M))) :
    A21_1 Ax0 lx0 cx0 Ax4 lx4 cx4 x5 M Q := by
  intro g1 g2 g3 g6 g7 g8 g9 g10 g11 g12 g13 g14 g15 g16 g17 g18 g19 g20 g21 g22 g23 g24 g25 g26 g27 g28 g29 g30 g31 g32 g33 g34 g35 g36 g37 g38 g39 g40 g41 g42 g43 g44 g45 g46 g47 g48 g49 g50 g51 g52 g53 g54 g55 g56 g57 g58 g59 g60 g61 g62 g63 g64 g65 g66 g67 g68 g69 g70 g71 g72 g73 g74 g75
  refine Rn.seq k21_9 (Rn.seq k21_10 (Rn.region k21_11 (fun call K => r21_3) (Rch.leaf ?_)))
  refine Rn.cnd (v := decide (x5 < ((lx0 : Int)))) ⟨c21_12, rfl, by kernel_rfl⟩ (fun h => ?_) (fun h => ?_)
  · replace H := H.1 (of_decide_eq_true h)
    refine Rn.skip k21_13 (Rn.seq k21_14 (Rn.block k21_15 (Rn.seq k21_16 (Rn.region k21_17 (fun call K => r21_5) (Rch.ex H fun a1' H => Rch.ex H fun x2' H => Rch.leaf (Rn.seq k21_18 (Rn.seq k21_19 (Rn.region k21_20 (fun call K => r21_6) (Rch.ex H fun a3' H => ?_)))))))))
    refine Rch.ex H fun x4' H => Rch.call H fun v5' N5' H => Rch.ex H fun b6' H => ?_
    refine Rch.cB (fun h => ?_) (fun h => ?_)
    · replace H := H.1 (h)
      refine Rch.leaf ?_
      exact H _ _ _ _ _ _ _ _ _ _ _ _ _ _ _ _ _ _ _ _ _ _ _ _ _ _ _ _ _ _ _ _ _ _ _ _ _ _ _ _ _ _ _ _ _ _ _ _ _ _ _ _ _ _ _ _ _ _ _ _ _ _ _ _ _ _ _ _ _ _ _
    · replace H := H.2 (h)
      refine Rch.cB (fun h => ?_) (fun h => ?_)
      · replace H := H.1 (eq_of_beq h)
        refine Rch.cB (fun h => ?_) (fun h => ?_)
        · replace H := H.1 (h)
          refine Rch.leaf ?_
          exact H _ _ _ _ _ _ _ _ _ _ _ _ _ _ _ _ _ _ _ _ _ _ _ _ _ _ _ _ _ _ _ _ _ _ _ _ _ _ _ _ _ _ _ _ _ _ _ _ _ _ _ _ _ _ _ _ _ _ _ _ _ _ _ _ _ _ _ _ _ _ _
        · replace H := H.2 (h)
          refine Rch.cB (fun h => ?_) (fun h => ?_)
          · replace H := H.1 (eq_of_beq h)
            refine Rch.ex H fun a7' H => Rch.ex H fun s8' H => Rch.leaf ?_
            exact H _ _ _ _ _ _ _ _ _ _ _ _ _ _ _ _ _ _ _ _ _ _ _ _ _ _ _ _ _ _ _ _ _ _ _ _ _ _ _ _ _ _ _ _ _ _ _ _ _ _ _ _ _ _ _ _ _ _ _ _ _ _ _ _ _ _ _ _ _ _ _
          · replace H := H.2 (ne_of_beq_false h)
            refine Rch.leaf ?_
            exact H _ _ _ _ _ _ _ _ _ _ _ _ _ _ _ _ _ _ _ _ _ _ _ _ _ _ _ _ _ _ _ _ _ _ _ _ _ _ _ _ _ _ _ _ _ _ _ _ _ _ _ _ _ _ _ _ _ _ _ _ _ _ _ _ _ _ _ _ _ _ _
      · replace H := H.2 (ne_of_beq_false h)
        refine Rch.cB (fun h => ?_) (fun h => ?_)
        · replace H := H.1 (eq_of_beq h)
          refine Rch.ex H fun a9' H => Rch.ex H fun s10' H => Rch.leaf ?_
          exact H _ _ _ _ _ _ _ _ _ _ _ _ _ _ _ _ _ _ _ _ _ _ _ _ _ _ _ _ _ _ _ _ _ _ _ _ _ _ _ _ _ _ _ _ _ _ _ _ _ _ _ _ _ _ _ _ _ _ _ _ _ _ _ _ _ _ _ _ _ _ _
        · replace H := H.2 (ne_of_beq_false h)
          refine Rch.leaf ?_
          exact H _ _ _ _ _ _ _ _ _ _ _ _ _ _ _ _ _ _ _ _ _ _ _ _ _ _ _ _ _ _ _ _ _ _ _ _ _ _ _ _ _ _ _ _ _ _ _ _ _ _ _ _ _ _ _ _ _ _ _ _ _ _ _ _ _ _ _ _ _ _ _
  · replace H := H.2 (of_decide_eq_false h)
    refine Rn.exit k21_21 rfl (Rn.seq k21_22 (Rn.region k21_23 (fun call K => r21_12) (Rch.leaf ?_)))
    exact Rn.ret k21_24 e21 H

theorem w21_2 {Ax0 : Option Addr} {lx0 cx0 : Nat} {Ax4 : Option Addr} {lx4 cx4 : Nat} {x5 : Int} {x6 x46 : Bool} {M : Mem} {Q : Value → Mem → Prop} (H :
    ((x46 = true →
     Q (.tuple #[.slice none 0 0, .int .i64 4]) M) ∧
     (x46 = false →
     ((x6 = true →
      ∃ r11', appendP Try.prog #[37, 37] (.slice Ax4 lx4 cx4) (.slice (some ⟨2 * M.nb.size, 0, none⟩) 1 1) (M.new (.cells #[.slice none 0 0] 24)) = some r11' ∧
      ∃ s12', asS r11'.1 = some s12' ∧
      A21_3 Ax0 lx0 cx0 s12'.1 s12'.2.1 s12'.2.2 x5 r11'.2 Q) ∧
      (x6 = false →
      ∃ a13', idxA Ax4 lx4 1 (IntKind.i64.wrap (((lx4 : Int)) - 1)) = some a13' ∧
      ∃ s14', M.slAt a13'.block a13'.off = some s14' ∧
      ∃ a15', idxA Ax0 lx0 2 x5 = some a15' ∧
      ∃ x16', M.intAt .i64 a15'.block a15'.off = some x16' ∧
      ∃ a17', idxA Ax0 lx0 2 x5 = some a17' ∧
      ∃ s18', M.slAt a17'.block (a17'.off + 1) = some s18' ∧
      Cn Try.prog 10 #[.slice s18'.1 (s18'.2.1) (s18'.2.2)] { M with floor := M.nb.size } fun v19' N19' =>
       ∃ s20', asS v19' = some s20' ∧
       ∃ r21', appendP Try.prog #[24, 24] (.slice s14'.1 (s14'.2.1) (s14'.2.2)) (.slice (some ⟨2 * { N19' with floor := M.floor }.nb.size, 0, none⟩) 1 1) ({ N19' with floor := M.floor }.new (.cells #[.int .i64 x16', .slice s20'.1 (s20'.2.1) (s20'.2.2)] 44)) = some r21' ∧
       ∃ s22', asS r21'.1 = some s22' ∧
       ∃ a23', idxA Ax4 lx4 1 (IntKind.i64.wrap (((lx4 : Int)) - 1)) = some a23' ∧
       ∃ M24', r21'.2.put a23'.block a23'.off (.slice s22'.1 (s22'.2.1) (s22'.2.2)) = some M24' ∧
       A21_3 Ax0 lx0 cx0 Ax4 lx4 cx4 x5 M24' Q))))) :
    A21_2 Ax0 lx0 cx0 Ax4 lx4 cx4 x5 x6 x46 M Q := by
  intro g1 g2 g3 g7 g8 g9 g10 g11 g12 g13 g14 g15 g16 g17 g18 g19 g20 g21 g22 g23 g24 g25 g26 g27 g28 g29 g30 g31 g32 g33 g34 g35 g36 g37 g38 g39 g40 g41 g42 g43 g44 g45 g47 g48 g49 g50 g51 g52 g53 g54 g55 g56 g57 g58 g59 g60 g61 g62 g63 g64 g65 g66 g67 g68 g69 g70 g71 g72 g73 g74 g75
  refine Rn.cnd (v := x46) ⟨c21_26, rfl, by kernel_rfl⟩ (fun h => ?_) (fun h => ?_)
  · replace H := H.1 (h)
    refine Rn.seq k21_27 (Rn.region k21_28 (fun call K => r21_7) (Rch.leaf ?_))
    exact Rn.ret k21_29 e21 H
  · replace H := H.2 (h)
    refine Rn.skip k21_30 (Rn.seq k21_31 (Rn.region k21_32 (fun call K => r21_8) (Rch.leaf ?_)))
    refine Rn.cnd (v := x6) ⟨c21_33, rfl, by kernel_rfl⟩ (fun h => ?_) (fun h => ?_)
    · replace H := H.1 (h)
      refine Rn.region k21_34 (fun call K => r21_9) (Rch.ex H fun r11' H => Rch.ex H fun s12' H => Rch.leaf (Rn.blk ?_))
      exact H _ _ _ _ _ _ _ _ _ _ _ _ _ _ _ _ _ _ _ _ _ _ _ _ _ _ _ _ _ _ _ _ _ _ _ _ _ _ _ _ _ _ _ _ _ _ _ _ _ _ _ _ _ _ _ _ _ _ _ _ _ _ _ _ _ _ _ _ _ _ _ _ _
    · replace H := H.2 (h)
      refine Rn.seq k21_35 (Rn.region k21_36 (fun call K => r21_10) (Rch.leaf (Rn.regionD k21_37 (fun call K => r21_11) (Rch.ex H fun a13' H => Rch.ex H fun s14' H => Rch.ex H fun a15' H => Rch.ex H fun x16' H => Rch.ex H fun a17' H => Rch.ex H fun s18' H => Rch.callF H fun v19' N19' H => Rch.ex H fun s20' H => ?_))))
      refine Rch.ex H fun r21' H => Rch.ex H fun s22' H => Rch.ex H fun a23' H => Rch.ex H fun M24' H => Rch.leaf (Rn.blk ?_)
      exact H _ _ _ _ _ _ _ _ _ _ _ _ _ _ _ _ _ _ _ _ _ _ _ _ _ _ _ _ _ _ _ _ _ _ _ _ _ _ _ _ _ _ _ _ _ _ _ _ _ _ _ _ _ _ _ _ _ _ _ _ _ _ _ _ _ _ _ _ _ _ _ _ _

theorem w21_3 {Ax0 : Option Addr} {lx0 cx0 : Nat} {Ax4 : Option Addr} {lx4 cx4 : Nat} {x5 : Int} {M : Mem} {Q : Value → Mem → Prop} (H :
    A21_1 Ax0 lx0 cx0 Ax4 lx4 cx4 (IntKind.i64.wrap (x5 + 1)) M Q) :
    A21_3 Ax0 lx0 cx0 Ax4 lx4 cx4 x5 M Q := by
  intro g1 g2 g3 g6 g7 g8 g9 g10 g11 g12 g13 g14 g15 g16 g17 g18 g19 g20 g21 g22 g23 g24 g25 g26 g27 g28 g29 g30 g31 g32 g33 g34 g35 g36 g37 g38 g39 g40 g41 g42 g43 g44 g45 g46 g47 g48 g49 g50 g51 g52 g53 g54 g55 g56 g57 g58 g59 g60 g61 g62 g63 g64 g65 g66 g67 g68 g69 g70 g71 g72 g73 g74 g75
  refine Rn.region k21_38 (fun call K => r21_4) (Rch.leaf (Rn.lp ?_))
  exact H _ _ _ _ _ _ _ _ _ _ _ _ _ _ _ _ _ _ _ _ _ _ _ _ _ _ _ _ _ _ _ _ _ _ _ _ _ _ _ _ _ _ _ _ _ _ _ _ _ _ _ _ _ _ _ _ _ _ _ _ _ _ _ _ _ _ _ _ _ _ _ _ _


/-! ### zoetrope/zoetroperef19.Same: function 13 -/
noncomputable abbrev P13 (p : List Nat) : Code := subC (codeOf Try.f13) p
noncomputable abbrev O13 (p : List Nat) : Array Oper := opsOf (subC (codeOf Try.f13) p)
theorem b13 : Try.prog.funcs[13]? = some Try.f13 ∧ (Orc.tab Try.prog).lookup 13 = none := ⟨by kernel_rfl, by kernel_rfl⟩
theorem d13 : Try.f13.body = some (P13 []) := by kernel_rfl
theorem t13 {Ax0 : Option Addr} {lx0 cx0 : Nat} {Ax1 : Option Addr} {lx1 cx1 : Nat} : #[.slice Ax0 lx0 cx0,.slice Ax1 lx1 cx1] ++ Array.replicate (Try.f13.ntmps - (#[.slice Ax0 lx0 cx0,.slice Ax1 lx1 cx1] : Array Value).size) undef = #[.slice Ax0 lx0 cx0,.slice Ax1 lx1 cx1,undef,undef,undef,undef,undef,undef,undef,undef,undef,undef,undef,undef,undef,undef,undef,undef,undef,undef,undef,undef,undef,undef,undef,undef,undef,undef,undef,undef,undef,undef,undef,undef,undef,undef,undef,undef,undef,undef,undef,undef] := by kernel_rfl
theorem k13_0 : P13 [] = .seq (P13 [0]) (P13 [1]) := by kernel_rfl
theorem k13_1 : P13 [0] = .region 0 (O13 [0]) false := by kernel_rfl
theorem r13_0 {M : Mem} {call : CallM} {K : Array Value → Mem → R} :
    opsK Try.prog (fun _ => call) (O13 [0]) (O13 [0]).toList 0 #[g0,g1,g2,g3,g4,g5,g6,g7,g8,g9,g10,g11,g12,g13,g14,g15,g16,g17,g18,g19,g20,g21,g22,g23,g24,g25,g26,g27,g28,g29,g30,g31,g32,g33,g34,g35,g36,g37,g38,g39,g40,g41] M K = K #[g0,g1,g2,g3,.bool false,g5,g6,g7,g8,g9,g10,g11,g12,g13,g14,g15,g16,g17,g18,g19,g20,g21,g22,g23,g24,g25,g26,g27,g28,g29,g30,g31,g32,g33,g34,g35,g36,g37,g38,g39,g40,g41] M := by kernel_rfl
theorem k13_2 : P13 [1] = .seq (P13 [1,0]) (P13 [1,1]) := by kernel_rfl
theorem k13_3 : P13 [1,0] = .seq (P13 [1,0,0]) (P13 [1,0,1]) := by kernel_rfl
theorem k13_4 : P13 [1,0,0] = .region 1 (O13 [1,0,0]) false := by kernel_rfl
theorem r13_1 {Ax0 : Option Addr} {lx0 cx0 : Nat} {Ax1 : Option Addr} {lx1 cx1 : Nat} {M : Mem} {call : CallM} {K : Array Value → Mem → R} :
    opsK Try.prog (fun _ => call) (O13 [1,0,0]) (O13 [1,0,0]).toList 0 #[.slice Ax0 lx0 cx0,.slice Ax1 lx1 cx1,g2,g3,g4,g5,g6,g7,g8,g9,g10,g11,g12,g13,g14,g15,g16,g17,g18,g19,g20,g21,g22,g23,g24,g25,g26,g27,g28,g29,g30,g31,g32,g33,g34,g35,g36,g37,g38,g39,g40,g41] M K = K #[.slice Ax0 lx0 cx0,.slice Ax1 lx1 cx1,g2,g3,g4,g5,.slice Ax0 lx0 cx0,.int .i64 ((lx0 : Int)),.slice Ax1 lx1 cx1,.int .i64 ((lx1 : Int)),.bool (((lx0 : Int)) != ((lx1 : Int))),g11,g12,g13,g14,g15,g16,g17,g18,g19,g20,g21,g22,g23,g24,g25,g26,g27,g28,g29,g30,g31,g32,g33,g34,g35,g36,g37,g38,g39,g40,g41] M := by kernel_rfl
theorem c13_5 : P13 [1,0,1] = .cond (.tmp 10) (P13 [1,0,1,0]) (P13 [1,0,1,1]) := by kernel_rfl
theorem k13_6 : P13 [1,0,1,0] = .seq (P13 [1,0,1,0,0]) (P13 [1,0,1,0,1]) := by kernel_rfl
theorem k13_7 : P13 [1,0,1,0,0] = .region 2 (O13 [1,0,1,0,0]) false := by kernel_rfl
theorem r13_2 {M : Mem} {call : CallM} {K : Array Value → Mem → R} :
    opsK Try.prog (fun _ => call) (O13 [1,0,1,0,0]) (O13 [1,0,1,0,0]).toList 0 #[g0,g1,g2,g3,g4,g5,g6,g7,g8,g9,g10,g11,g12,g13,g14,g15,g16,g17,g18,g19,g20,g21,g22,g23,g24,g25,g26,g27,g28,g29,g30,g31,g32,g33,g34,g35,g36,g37,g38,g39,g40,g41] M K = K #[g0,g1,g2,g3,.bool false,g5,g6,g7,g8,g9,g10,g11,g12,g13,g14,g15,g16,g17,g18,g19,g20,g21,g22,g23,g24,g25,g26,g27,g28,g29,g30,g31,g32,g33,g34,g35,g36,g37,g38,g39,g40,g41] M := by kernel_rfl
theorem k13_8 : P13 [1,0,1,0,1] = .ret := by kernel_rfl
theorem e13 {M : Mem} : finish Try.prog Try.f13 #[g0,g1,g2,g3,g4,g5,g6,g7,g8,g9,g10,g11,g12,g13,g14,g15,g16,g17,g18,g19,g20,g21,g22,g23,g24,g25,g26,g27,g28,g29,g30,g31,g32,g33,g34,g35,g36,g37,g38,g39,g40,g41] M = some (g4, M) := by kernel_rfl
theorem k13_10 : P13 [1,0,1,1] = .skip := by kernel_rfl
theorem k13_11 : P13 [1,1] = .seq (P13 [1,1,0]) (P13 [1,1,1]) := by kernel_rfl
theorem k13_12 : P13 [1,1,0] = .seq (P13 [1,1,0,0]) (P13 [1,1,0,1]) := by kernel_rfl
theorem k13_13 : P13 [1,1,0,0] = .region 3 (O13 [1,1,0,0]) false := by kernel_rfl
theorem r13_3 {M : Mem} {call : CallM} {K : Array Value → Mem → R} :
    opsK Try.prog (fun _ => call) (O13 [1,1,0,0]) (O13 [1,1,0,0]).toList 0 #[g0,g1,g2,g3,g4,g5,g6,g7,g8,g9,g10,g11,g12,g13,g14,g15,g16,g17,g18,g19,g20,g21,g22,g23,g24,g25,g26,g27,g28,g29,g30,g31,g32,g33,g34,g35,g36,g37,g38,g39,g40,g41] M K = K #[g0,g1,g2,g3,g4,.int .i64 0,g6,g7,g8,g9,g10,g11,g12,g13,g14,g15,g16,g17,g18,g19,g20,g21,g22,g23,g24,g25,g26,g27,g28,g29,g30,g31,g32,g33,g34,g35,g36,g37,g38,g39,g40,g41] M := by kernel_rfl
theorem k13_14 : P13 [1,1,0,1] = .block 0 (P13 [1,1,0,1,0]) := by kernel_rfl
theorem k13_15 : P13 [1,1,0,1,0] = .loop (P13 [1,1,0,1,0,0]) := by kernel_rfl
theorem k13_16 : P13 [1,1,0,1,0,0] = .seq (P13 [1,1,0,1,0,0,0]) (P13 [1,1,0,1,0,0,1]) := by kernel_rfl
theorem k13_17 : P13 [1,1,0,1,0,0,0] = .seq (P13 [1,1,0,1,0,0,0,0]) (P13 [1,1,0,1,0,0,0,1]) := by kernel_rfl
theorem k13_18 : P13 [1,1,0,1,0,0,0,0] = .region 4 (O13 [1,1,0,1,0,0,0,0]) false := by kernel_rfl
theorem r13_4 {Ax0 : Option Addr} {lx0 cx0 : Nat} {x5 : Int} {M : Mem} {call : CallM} {K : Array Value → Mem → R} :
    opsK Try.prog (fun _ => call) (O13 [1,1,0,1,0,0,0,0]) (O13 [1,1,0,1,0,0,0,0]).toList 0 #[.slice Ax0 lx0 cx0,g1,g2,g3,g4,.int .i64 x5,g6,g7,g8,g9,g10,g11,g12,g13,g14,g15,g16,g17,g18,g19,g20,g21,g22,g23,g24,g25,g26,g27,g28,g29,g30,g31,g32,g33,g34,g35,g36,g37,g38,g39,g40,g41] M K = K #[.slice Ax0 lx0 cx0,g1,g2,g3,g4,.int .i64 x5,g6,g7,g8,g9,g10,.int .i64 x5,.slice Ax0 lx0 cx0,.int .i64 ((lx0 : Int)),.bool (decide (x5 < ((lx0 : Int)))),g15,g16,g17,g18,g19,g20,g21,g22,g23,g24,g25,g26,g27,g28,g29,g30,g31,g32,g33,g34,g35,g36,g37,g38,g39,g40,g41] M := by kernel_rfl
theorem c13_19 : P13 [1,1,0,1,0,0,0,1] = .cond (.tmp 14) (P13 [1,1,0,1,0,0,0,1,0]) (P13 [1,1,0,1,0,0,0,1,1]) := by kernel_rfl
theorem k13_20 : P13 [1,1,0,1,0,0,0,1,0] = .skip := by kernel_rfl
theorem k13_21 : P13 [1,1,0,1,0,0,1] = .seq (P13 [1,1,0,1,0,0,1,0]) (P13 [1,1,0,1,0,0,1,1]) := by kernel_rfl
theorem k13_22 : P13 [1,1,0,1,0,0,1,0] = .block 1 (P13 [1,1,0,1,0,0,1,0,0]) := by kernel_rfl
theorem k13_23 : P13 [1,1,0,1,0,0,1,0,0] = .seq (P13 [1,1,0,1,0,0,1,0,0,0]) (P13 [1,1,0,1,0,0,1,0,0,1]) := by kernel_rfl
theorem k13_24 : P13 [1,1,0,1,0,0,1,0,0,0] = .region 6 (O13 [1,1,0,1,0,0,1,0,0,0]) true ∧ drawOk (O13 [1,1,0,1,0,0,1,0,0,0]) = true := ⟨by kernel_rfl, by kernel_rfl⟩
theorem r13_6 {Ax0 : Option Addr} {lx0 cx0 : Nat} {Ax1 : Option Addr} {lx1 cx1 : Nat} {x5 : Int} {M : Mem} {call : CallM} {K : Array Value → Mem → R} :
    opsI Try.prog (callAt call (O13 [1,1,0,1,0,0,1,0,0,0])) (O13 [1,1,0,1,0,0,1,0,0,0]) (ordOf (O13 [1,1,0,1,0,0,1,0,0,0])) [] #[.slice Ax0 lx0 cx0,.slice Ax1 lx1 cx1,g2,g3,g4,.int .i64 x5,g6,g7,g8,g9,g10,g11,g12,g13,g14,g15,g16,g17,g18,g19,g20,g21,g22,g23,g24,g25,g26,g27,g28,g29,g30,g31,g32,g33,g34,g35,g36,g37,g38,g39,g40,g41] M K = withK (fun w19 w20 w21 w24 w25 w26 w27 w28 w29 w30 w31 w32 w33 w34 w35 w36 w37 w38 w39 w40 w41 M => K #[.slice Ax0 lx0 cx0,.slice Ax1 lx1 cx1,g2,g3,g4,.int .i64 x5,g6,g7,g8,g9,g10,g11,g12,g13,g14,g15,g16,.slice Ax0 lx0 cx0,.int .i64 x5,w19,w20,w21,.slice Ax1 lx1 cx1,.int .i64 x5,w24,w25,w26,w27,w28,w29,w30,w31,w32,w33,w34,w35,w36,w37,w38,w39,w40,w41] M) fun k => (idxA Ax0 lx0 2 x5).bind fun a_1 => (M.intAt .i64 a_1.block a_1.off).bind fun x_2 => (idxA Ax1 lx1 2 x5).bind fun a_3 => (M.intAt .i64 a_3.block a_3.off).bind fun x_4 => cond (x_2 != x_4) (k (.pointer (some a_1)) (.pointer (some ⟨a_1.block, a_1.off, none⟩)) (.int .i64 x_2) (.pointer (some a_3)) (.pointer (some ⟨a_3.block, a_3.off, none⟩)) (.int .i64 x_4) (.bool (x_2 != x_4)) (.bool true) undef undef undef undef undef undef undef undef undef undef undef undef (.bool true) M) ((idxA Ax0 lx0 2 x5).bind fun a_5 => (M.slAt a_5.block (a_5.off + 1)).bind fun s_6 => (idxA Ax1 lx1 2 x5).bind fun a_7 => (M.slAt a_7.block (a_7.off + 1)).bind fun s_8 => (call 15 #[.slice s_6.1 (s_6.2.1) (s_6.2.2), .slice s_8.1 (s_8.2.1) (s_8.2.2)] M).bind fun r_9 => (asB r_9.1).bind fun b_10 => k (.pointer (some a_1)) (.pointer (some ⟨a_1.block, a_1.off, none⟩)) (.int .i64 x_2) (.pointer (some a_3)) (.pointer (some ⟨a_3.block, a_3.off, none⟩)) (.int .i64 x_4) (.bool (x_2 != x_4)) (.bool false) (.slice Ax0 lx0 cx0) (.int .i64 x5) (.pointer (some a_5)) (.pointer (some ⟨a_5.block, a_5.off + 1, none⟩)) (.slice s_6.1 (s_6.2.1) (s_6.2.2)) (.slice Ax1 lx1 cx1) (.int .i64 x5) (.pointer (some a_7)) (.pointer (some ⟨a_7.block, a_7.off + 1, none⟩)) (.slice s_8.1 (s_8.2.1) (s_8.2.2)) (.bool b_10) (.bool (!b_10)) (.bool (!b_10)) r_9.2) := by kernel_rfl
theorem k13_25 : P13 [1,1,0,1,0,0,0,1,1] = .exit 0 := by kernel_rfl
theorem k13_26 : P13 [1,1,1] = .seq (P13 [1,1,1,0]) (P13 [1,1,1,1]) := by kernel_rfl
theorem k13_27 : P13 [1,1,1,0] = .region 8 (O13 [1,1,1,0]) false := by kernel_rfl
theorem r13_8 {M : Mem} {call : CallM} {K : Array Value → Mem → R} :
    opsK Try.prog (fun _ => call) (O13 [1,1,1,0]) (O13 [1,1,1,0]).toList 0 #[g0,g1,g2,g3,g4,g5,g6,g7,g8,g9,g10,g11,g12,g13,g14,g15,g16,g17,g18,g19,g20,g21,g22,g23,g24,g25,g26,g27,g28,g29,g30,g31,g32,g33,g34,g35,g36,g37,g38,g39,g40,g41] M K = K #[g0,g1,g2,g3,.bool true,g5,g6,g7,g8,g9,g10,g11,g12,g13,g14,g15,g16,g17,g18,g19,g20,g21,g22,g23,g24,g25,g26,g27,g28,g29,g30,g31,g32,g33,g34,g35,g36,g37,g38,g39,g40,g41] M := by kernel_rfl
theorem k13_28 : P13 [1,1,1,1] = .ret := by kernel_rfl
theorem c13_29 : P13 [1,1,0,1,0,0,1,0,0,1] = .cond (.tmp 41) (P13 [1,1,0,1,0,0,1,0,0,1,0]) (P13 [1,1,0,1,0,0,1,0,0,1,1]) := by kernel_rfl
theorem k13_30 : P13 [1,1,0,1,0,0,1,0,0,1,0] = .seq (P13 [1,1,0,1,0,0,1,0,0,1,0,0]) (P13 [1,1,0,1,0,0,1,0,0,1,0,1]) := by kernel_rfl
theorem k13_31 : P13 [1,1,0,1,0,0,1,0,0,1,0,0] = .region 7 (O13 [1,1,0,1,0,0,1,0,0,1,0,0]) false := by kernel_rfl
theorem r13_7 {M : Mem} {call : CallM} {K : Array Value → Mem → R} :
    opsK Try.prog (fun _ => call) (O13 [1,1,0,1,0,0,1,0,0,1,0,0]) (O13 [1,1,0,1,0,0,1,0,0,1,0,0]).toList 0 #[g0,g1,g2,g3,g4,g5,g6,g7,g8,g9,g10,g11,g12,g13,g14,g15,g16,g17,g18,g19,g20,g21,g22,g23,g24,g25,g26,g27,g28,g29,g30,g31,g32,g33,g34,g35,g36,g37,g38,g39,g40,g41] M K = K #[g0,g1,g2,g3,.bool false,g5,g6,g7,g8,g9,g10,g11,g12,g13,g14,g15,g16,g17,g18,g19,g20,g21,g22,g23,g24,g25,g26,g27,g28,g29,g30,g31,g32,g33,g34,g35,g36,g37,g38,g39,g40,g41] M := by kernel_rfl
theorem k13_32 : P13 [1,1,0,1,0,0,1,0,0,1,0,1] = .ret := by kernel_rfl
theorem k13_33 : P13 [1,1,0,1,0,0,1,0,0,1,1] = .skip := by kernel_rfl
theorem k13_34 : P13 [1,1,0,1,0,0,1,1] = .region 5 (O13 [1,1,0,1,0,0,1,1]) false := by kernel_rfl
theorem r13_5 {x5 : Int} {M : Mem} {call : CallM} {K : Array Value → Mem → R} :
    opsK Try.prog (fun _ => call) (O13 [1,1,0,1,0,0,1,1]) (O13 [1,1,0,1,0,0,1,1]).toList 0 #[g0,g1,g2,g3,g4,.int .i64 x5,g6,g7,g8,g9,g10,g11,g12,g13,g14,g15,g16,g17,g18,g19,g20,g21,g22,g23,g24,g25,g26,g27,g28,g29,g30,g31,g32,g33,g34,g35,g36,g37,g38,g39,g40,g41] M K = K #[g0,g1,g2,g3,g4,.int .i64 (IntKind.i64.wrap (x5 + 1)),g6,g7,g8,g9,g10,g11,g12,g13,g14,.int .i64 x5,.int .i64 (IntKind.i64.wrap (x5 + 1)),g17,g18,g19,g20,g21,g22,g23,g24,g25,g26,g27,g28,g29,g30,g31,g32,g33,g34,g35,g36,g37,g38,g39,g40,g41] M := by kernel_rfl
noncomputable def S13_1 : List Item := [.code (P13 [1,1,0,1,0,0]), .inLoop (P13 [1,1,0,1,0,0]), .inBlock 0, .code (P13 [1,1,1])]
def A13_1 (Ax0 : Option Addr) (lx0 cx0 : Nat) (Ax1 : Option Addr) (lx1 cx1 : Nat) (x5 : Int) (M : Mem) (Q : Value → Mem → Prop) : Prop := ∀ (g2 g3 g4 g6 g7 g8 g9 g10 g11 g12 g13 g14 g15 g16 g17 g18 g19 g20 g21 g22 g23 g24 g25 g26 g27 g28 g29 g30 g31 g32 g33 g34 g35 g36 g37 g38 g39 g40 g41 : Value), Rn Try.prog Try.f13 S13_1 #[.slice Ax0 lx0 cx0, .slice Ax1 lx1 cx1, g2, g3, g4, .int .i64 x5, g6, g7, g8, g9, g10, g11, g12, g13, g14, g15, g16, g17, g18, g19, g20, g21, g22, g23, g24, g25, g26, g27, g28, g29, g30, g31, g32, g33, g34, g35, g36, g37, g38, g39, g40, g41] M Q
noncomputable def S13_2 : List Item := [.code (P13 [1,1,0,1,0,0,1,0,0,1]), .inBlock 1, .code (P13 [1,1,0,1,0,0,1,1]), .inLoop (P13 [1,1,0,1,0,0]), .inBlock 0, .code (P13 [1,1,1])]
def A13_2 (Ax0 : Option Addr) (lx0 cx0 : Nat) (Ax1 : Option Addr) (lx1 cx1 : Nat) (x5 : Int) (x41 : Bool) (M : Mem) (Q : Value → Mem → Prop) : Prop := ∀ (g2 g3 g4 g6 g7 g8 g9 g10 g11 g12 g13 g14 g15 g16 g17 g18 g19 g20 g21 g22 g23 g24 g25 g26 g27 g28 g29 g30 g31 g32 g33 g34 g35 g36 g37 g38 g39 g40 : Value), Rn Try.prog Try.f13 S13_2 #[.slice Ax0 lx0 cx0, .slice Ax1 lx1 cx1, g2, g3, g4, .int .i64 x5, g6, g7, g8, g9, g10, g11, g12, g13, g14, g15, g16, g17, g18, g19, g20, g21, g22, g23, g24, g25, g26, g27, g28, g29, g30, g31, g32, g33, g34, g35, g36, g37, g38, g39, g40, .bool x41] M Q
theorem w13_0 {Ax0 : Option Addr} {lx0 cx0 : Nat} {Ax1 : Option Addr} {lx1 cx1 : Nat} {M : Mem} {Q : Value → Mem → Prop} (H :
    ((((lx0 : Int)) ≠ ((lx1 : Int)) →
     Q (.bool false) M) ∧
     (((lx0 : Int)) = ((lx1 : Int)) →
     A13_1 Ax0 lx0 cx0 Ax1 lx1 cx1 0 M Q))) :
    Cn Try.prog 13 #[.slice Ax0 lx0 cx0, .slice Ax1 lx1 cx1] M Q := by
  refine Cn.of b13 d13 t13 ?_
  refine Rn.seq k13_0 (Rn.region k13_1 (fun call K => r13_0) (Rch.leaf (Rn.seq k13_2 (Rn.seq k13_3 (Rn.region k13_4 (fun call K => r13_1) (Rch.leaf ?_))))))
  refine Rn.cnd (v := ((lx0 : Int)) != ((lx1 : Int))) ⟨c13_5, rfl, by kernel_rfl⟩ (fun h => ?_) (fun h => ?_)
  · replace H := H.1 (ne_of_bneT h)
    refine Rn.seq k13_6 (Rn.region k13_7 (fun call K => r13_2) (Rch.leaf ?_))
    exact Rn.ret k13_8 e13 H
  · replace H := H.2 (eq_of_bneF h)
    refine Rn.skip k13_10 (Rn.seq k13_11 (Rn.seq k13_12 (Rn.region k13_13 (fun call K => r13_3) (Rch.leaf (Rn.block k13_14 (Rn.loop k13_15 ?_))))))
    exact H _ _ _ _ _ _ _ _ _ _ _ _ _ _ _ _ _ _ _ _ _ _ _ _ _ _ _ _ _ _ _ _ _ _ _ _ _ _ _

theorem w13_1 {Ax0 : Option Addr} {lx0 cx0 : Nat} {Ax1 : Option Addr} {lx1 cx1 : Nat} {x5 : Int} {M : Mem} {Q : Value → Mem → Prop} (H :
    ((x5 < ((lx0 : Int)) →
     ∃ a1', idxA Ax0 lx0 2 x5 = some a1' ∧
     ∃ x2', M.intAt .i64 a1'.block a1'.off = some x2' ∧
     ∃ a3', idxA Ax1 lx1 2 x5 = some a3' ∧
     ∃ x4', M.intAt .i64 a3'.block a3'.off = some x4' ∧
     ((x2' ≠ x4' →
      A13_2 Ax0 lx0 cx0 Ax1 lx1 cx1 x5 true M Q) ∧
      (x2' = x4' →
      ∃ a5', idxA Ax0 lx0 2 x5 = some a5' ∧
      ∃ s6', M.slAt a5'.block (a5'.off + 1) = some s6' ∧
      ∃ a7', idxA Ax1 lx1 2 x5 = some a7' ∧
      ∃ s8', M.slAt a7'.block (a7'.off + 1) = some s8' ∧
      Cn Try.prog 15 #[.slice s6'.1 (s6'.2.1) (s6'.2.2), .slice s8'.1 (s8'.2.1) (s8'.2.2)] M fun v9' N9' =>
       ∃ b10', asB v9' = some b10' ∧
       A13_2 Ax0 lx0 cx0 Ax1 lx1 cx1 x5 (!b10') N9' Q))) ∧
     (¬ (x5 < ((lx0 : Int))) →
     Q (.bool true) M))) :
    A13_1 Ax0 lx0 cx0 Ax1 lx1 cx1 x5 M Q := by
  intro g2 g3 g4 g6 g7 g8 g9 g10 g11 g12 g13 g14 g15 g16 g17 g18 g19 g20 g21 g22 g23 g24 g25 g26 g27 g28 g29 g30 g31 g32 g33 g34 g35 g36 g37 g38 g39 g40 g41
  refine Rn.seq k13_16 (Rn.seq k13_17 (Rn.region k13_18 (fun call K => r13_4) (Rch.leaf ?_)))
  refine Rn.cnd (v := decide (x5 < ((lx0 : Int)))) ⟨c13_19, rfl, by kernel_rfl⟩ (fun h => ?_) (fun h => ?_)
  · replace H := H.1 (of_decide_eq_true h)
    refine Rn.skip k13_20 (Rn.seq k13_21 (Rn.block k13_22 (Rn.seq k13_23 (Rn.regionD k13_24 (fun call K => r13_6) (Rch.ex H fun a1' H => Rch.ex H fun x2' H => Rch.ex H fun a3' H => Rch.ex H fun x4' H => ?_)))))
    refine Rch.cB (fun h => ?_) (fun h => ?_)
    · replace H := H.1 (ne_of_bneT h)
      refine Rch.leaf ?_
      exact H _ _ _ _ _ _ _ _ _ _ _ _ _ _ _ _ _ _ _ _ _ _ _ _ _ _ _ _ _ _ _ _ _ _ _ _ _ _
    · replace H := H.2 (eq_of_bneF h)
      refine Rch.ex H fun a5' H => Rch.ex H fun s6' H => Rch.ex H fun a7' H => Rch.ex H fun s8' H => Rch.call H fun v9' N9' H => Rch.ex H fun b10' H => Rch.leaf ?_
      exact H _ _ _ _ _ _ _ _ _ _ _ _ _ _ _ _ _ _ _ _ _ _ _ _ _ _ _ _ _ _ _ _ _ _ _ _ _ _
  · replace H := H.2 (of_decide_eq_false h)
    refine Rn.exit k13_25 rfl (Rn.seq k13_26 (Rn.region k13_27 (fun call K => r13_8) (Rch.leaf ?_)))
    exact Rn.ret k13_28 e13 H

theorem w13_2 {Ax0 : Option Addr} {lx0 cx0 : Nat} {Ax1 : Option Addr} {lx1 cx1 : Nat} {x5 : Int} {x41 : Bool} {M : Mem} {Q : Value → Mem → Prop} (H :
    ((x41 = true →
     Q (.bool false) M) ∧
     (x41 = false →
     A13_1 Ax0 lx0 cx0 Ax1 lx1 cx1 (IntKind.i64.wrap (x5 + 1)) M Q))) :
    A13_2 Ax0 lx0 cx0 Ax1 lx1 cx1 x5 x41 M Q := by
  intro g2 g3 g4 g6 g7 g8 g9 g10 g11 g12 g13 g14 g15 g16 g17 g18 g19 g20 g21 g22 g23 g24 g25 g26 g27 g28 g29 g30 g31 g32 g33 g34 g35 g36 g37 g38 g39 g40
  refine Rn.cnd (v := x41) ⟨c13_29, rfl, by kernel_rfl⟩ (fun h => ?_) (fun h => ?_)
  · replace H := H.1 (h)
    refine Rn.seq k13_30 (Rn.region k13_31 (fun call K => r13_7) (Rch.leaf ?_))
    exact Rn.ret k13_32 e13 H
  · replace H := H.2 (h)
    refine Rn.skip k13_33 (Rn.blk (Rn.region k13_34 (fun call K => r13_5) (Rch.leaf (Rn.lp ?_))))
    exact H _ _ _ _ _ _ _ _ _ _ _ _ _ _ _ _ _ _ _ _ _ _ _ _ _ _ _ _ _ _ _ _ _ _ _ _ _ _ _


/-! ### zoetrope/zoetroperef19.Copy: function 17 -/
noncomputable abbrev P17 (p : List Nat) : Code := subC (codeOf Try.f17) p
noncomputable abbrev O17 (p : List Nat) : Array Oper := opsOf (subC (codeOf Try.f17) p)
theorem b17 : Try.prog.funcs[17]? = some Try.f17 ∧ (Orc.tab Try.prog).lookup 17 = none := ⟨by kernel_rfl, by kernel_rfl⟩
theorem d17 : Try.f17.body = some (P17 []) := by kernel_rfl
theorem t17 {Ax0 : Option Addr} {lx0 cx0 : Nat} : #[.slice Ax0 lx0 cx0] ++ Array.replicate (Try.f17.ntmps - (#[.slice Ax0 lx0 cx0] : Array Value).size) undef = #[.slice Ax0 lx0 cx0,undef,undef,undef,undef,undef,undef,undef,undef,undef,undef,undef,undef,undef,undef,undef,undef,undef,undef,undef,undef,undef,undef,undef,undef,undef,undef] := by kernel_rfl
theorem k17_0 : P17 [] = .seq (P17 [0]) (P17 [1]) := by kernel_rfl
theorem k17_1 : P17 [0] = .region 0 (O17 [0]) false := by kernel_rfl
theorem r17_0 {M : Mem} {call : CallM} {K : Array Value → Mem → R} :
    opsK Try.prog (fun _ => call) (O17 [0]) (O17 [0]).toList 0 #[g0,g1,g2,g3,g4,g5,g6,g7,g8,g9,g10,g11,g12,g13,g14,g15,g16,g17,g18,g19,g20,g21,g22,g23,g24,g25,g26] M K = K #[g0,g1,.slice none 0 0,g3,g4,g5,g6,g7,g8,g9,g10,g11,g12,g13,g14,g15,g16,g17,g18,g19,g20,g21,g22,g23,g24,g25,g26] M := by kernel_rfl
theorem k17_2 : P17 [1] = .seq (P17 [1,0]) (P17 [1,1]) := by kernel_rfl
theorem k17_3 : P17 [1,0] = .region 1 (O17 [1,0]) false := by kernel_rfl
theorem r17_1 {M : Mem} {call : CallM} {K : Array Value → Mem → R} :
    opsK Try.prog (fun _ => call) (O17 [1,0]) (O17 [1,0]).toList 0 #[g0,g1,g2,g3,g4,g5,g6,g7,g8,g9,g10,g11,g12,g13,g14,g15,g16,g17,g18,g19,g20,g21,g22,g23,g24,g25,g26] M K = K #[g0,g1,g2,.slice none 0 0,g4,g5,g6,g7,g8,g9,g10,g11,g12,g13,g14,g15,g16,g17,g18,g19,g20,g21,g22,g23,g24,g25,g26] M := by kernel_rfl
theorem k17_4 : P17 [1,1] = .seq (P17 [1,1,0]) (P17 [1,1,1]) := by kernel_rfl
theorem k17_5 : P17 [1,1,0] = .seq (P17 [1,1,0,0]) (P17 [1,1,0,1]) := by kernel_rfl
theorem k17_6 : P17 [1,1,0,0] = .region 2 (O17 [1,1,0,0]) false := by kernel_rfl
theorem r17_2 {M : Mem} {call : CallM} {K : Array Value → Mem → R} :
    opsK Try.prog (fun _ => call) (O17 [1,1,0,0]) (O17 [1,1,0,0]).toList 0 #[g0,g1,g2,g3,g4,g5,g6,g7,g8,g9,g10,g11,g12,g13,g14,g15,g16,g17,g18,g19,g20,g21,g22,g23,g24,g25,g26] M K = K #[g0,g1,g2,g3,.int .i64 0,g5,g6,g7,g8,g9,g10,g11,g12,g13,g14,g15,g16,g17,g18,g19,g20,g21,g22,g23,g24,g25,g26] M := by kernel_rfl
theorem k17_7 : P17 [1,1,0,1] = .block 0 (P17 [1,1,0,1,0]) := by kernel_rfl
theorem k17_8 : P17 [1,1,0,1,0] = .loop (P17 [1,1,0,1,0,0]) := by kernel_rfl
theorem k17_9 : P17 [1,1,0,1,0,0] = .seq (P17 [1,1,0,1,0,0,0]) (P17 [1,1,0,1,0,0,1]) := by kernel_rfl
theorem k17_10 : P17 [1,1,0,1,0,0,0] = .seq (P17 [1,1,0,1,0,0,0,0]) (P17 [1,1,0,1,0,0,0,1]) := by kernel_rfl
theorem k17_11 : P17 [1,1,0,1,0,0,0,0] = .region 3 (O17 [1,1,0,1,0,0,0,0]) false := by kernel_rfl
theorem r17_3 {Ax0 : Option Addr} {lx0 cx0 : Nat} {x4 : Int} {M : Mem} {call : CallM} {K : Array Value → Mem → R} :
    opsK Try.prog (fun _ => call) (O17 [1,1,0,1,0,0,0,0]) (O17 [1,1,0,1,0,0,0,0]).toList 0 #[.slice Ax0 lx0 cx0,g1,g2,g3,.int .i64 x4,g5,g6,g7,g8,g9,g10,g11,g12,g13,g14,g15,g16,g17,g18,g19,g20,g21,g22,g23,g24,g25,g26] M K = K #[.slice Ax0 lx0 cx0,g1,g2,g3,.int .i64 x4,.int .i64 x4,.slice Ax0 lx0 cx0,.int .i64 ((lx0 : Int)),.bool (decide (x4 < ((lx0 : Int)))),g9,g10,g11,g12,g13,g14,g15,g16,g17,g18,g19,g20,g21,g22,g23,g24,g25,g26] M := by kernel_rfl
theorem c17_12 : P17 [1,1,0,1,0,0,0,1] = .cond (.tmp 8) (P17 [1,1,0,1,0,0,0,1,0]) (P17 [1,1,0,1,0,0,0,1,1]) := by kernel_rfl
theorem k17_13 : P17 [1,1,0,1,0,0,0,1,0] = .skip := by kernel_rfl
theorem k17_14 : P17 [1,1,0,1,0,0,1] = .seq (P17 [1,1,0,1,0,0,1,0]) (P17 [1,1,0,1,0,0,1,1]) := by kernel_rfl
theorem k17_15 : P17 [1,1,0,1,0,0,1,0] = .block 1 (P17 [1,1,0,1,0,0,1,0,0]) := by kernel_rfl
theorem k17_16 : P17 [1,1,0,1,0,0,1,0,0] = .region 5 (O17 [1,1,0,1,0,0,1,0,0]) true ∧ drawOk (O17 [1,1,0,1,0,0,1,0,0]) = true := ⟨by kernel_rfl, by kernel_rfl⟩
theorem r17_5 {Ax0 : Option Addr} {lx0 cx0 : Nat} {Ax3 : Option Addr} {lx3 cx3 : Nat} {x4 : Int} {M : Mem} {call : CallM} {K : Array Value → Mem → R} :
    opsI Try.prog (callAt call (O17 [1,1,0,1,0,0,1,0,0])) (O17 [1,1,0,1,0,0,1,0,0]) (ordOf (O17 [1,1,0,1,0,0,1,0,0])) [] #[.slice Ax0 lx0 cx0,g1,g2,.slice Ax3 lx3 cx3,.int .i64 x4,g5,g6,g7,g8,g9,g10,g11,g12,g13,g14,g15,g16,g17,g18,g19,g20,g21,g22,g23,g24,g25,g26] M K = (idxA Ax0 lx0 2 x4).bind fun a_1 => (M.intAt .i64 a_1.block a_1.off).bind fun x_2 => (idxA Ax0 lx0 2 x4).bind fun a_3 => (M.slAt a_3.block (a_3.off + 1)).bind fun s_4 => (floored call 10 #[.slice s_4.1 (s_4.2.1) (s_4.2.2)] M).bind fun r_5 => (asS r_5.1).bind fun s_6 => (appendP Try.prog #[24, 24] (.slice Ax3 lx3 cx3) (.slice (some ⟨2 * r_5.2.nb.size, 0, none⟩) 1 1) (r_5.2.new (.cells #[.int .i64 x_2, .slice s_6.1 (s_6.2.1) (s_6.2.2)] 44))).bind fun r_7 => (asS r_7.1).bind fun s_8 => K #[.slice Ax0 lx0 cx0,g1,g2,.slice s_8.1 (s_8.2.1) (s_8.2.2),.int .i64 x4,g5,g6,g7,g8,g9,g10,.slice Ax3 lx3 cx3,.slice Ax0 lx0 cx0,.int .i64 x4,.pointer (some a_1),.pointer (some ⟨a_1.block, a_1.off, none⟩),.int .i64 x_2,.slice Ax0 lx0 cx0,.int .i64 x4,.pointer (some a_3),.pointer (some ⟨a_3.block, a_3.off + 1, none⟩),.slice s_4.1 (s_4.2.1) (s_4.2.2),.slice s_6.1 (s_6.2.1) (s_6.2.2),.agg #[.int .i64 x_2, .slice s_6.1 (s_6.2.1) (s_6.2.2)],.slice (some ⟨2 * r_5.2.nb.size, 0, none⟩) 1 1,.slice s_8.1 (s_8.2.1) (s_8.2.2),g26] r_7.2 := by kernel_rfl
theorem k17_17 : P17 [1,1,0,1,0,0,1,1] = .region 4 (O17 [1,1,0,1,0,0,1,1]) false := by kernel_rfl
theorem r17_4 {x4 : Int} {M : Mem} {call : CallM} {K : Array Value → Mem → R} :
    opsK Try.prog (fun _ => call) (O17 [1,1,0,1,0,0,1,1]) (O17 [1,1,0,1,0,0,1,1]).toList 0 #[g0,g1,g2,g3,.int .i64 x4,g5,g6,g7,g8,g9,g10,g11,g12,g13,g14,g15,g16,g17,g18,g19,g20,g21,g22,g23,g24,g25,g26] M K = K #[g0,g1,g2,g3,.int .i64 (IntKind.i64.wrap (x4 + 1)),g5,g6,g7,g8,.int .i64 x4,.int .i64 (IntKind.i64.wrap (x4 + 1)),g11,g12,g13,g14,g15,g16,g17,g18,g19,g20,g21,g22,g23,g24,g25,g26] M := by kernel_rfl
theorem k17_18 : P17 [1,1,0,1,0,0,0,1,1] = .exit 0 := by kernel_rfl
theorem k17_19 : P17 [1,1,1] = .seq (P17 [1,1,1,0]) (P17 [1,1,1,1]) := by kernel_rfl
theorem k17_20 : P17 [1,1,1,0] = .region 6 (O17 [1,1,1,0]) false := by kernel_rfl
theorem r17_6 {Ax3 : Option Addr} {lx3 cx3 : Nat} {M : Mem} {call : CallM} {K : Array Value → Mem → R} :
    opsK Try.prog (fun _ => call) (O17 [1,1,1,0]) (O17 [1,1,1,0]).toList 0 #[g0,g1,g2,.slice Ax3 lx3 cx3,g4,g5,g6,g7,g8,g9,g10,g11,g12,g13,g14,g15,g16,g17,g18,g19,g20,g21,g22,g23,g24,g25,g26] M K = K #[g0,g1,.slice Ax3 lx3 cx3,.slice Ax3 lx3 cx3,g4,g5,g6,g7,g8,g9,g10,g11,g12,g13,g14,g15,g16,g17,g18,g19,g20,g21,g22,g23,g24,g25,.slice Ax3 lx3 cx3] M := by kernel_rfl
theorem k17_21 : P17 [1,1,1,1] = .ret := by kernel_rfl
theorem e17 {M : Mem} : finish Try.prog Try.f17 #[g0,g1,g2,g3,g4,g5,g6,g7,g8,g9,g10,g11,g12,g13,g14,g15,g16,g17,g18,g19,g20,g21,g22,g23,g24,g25,g26] M = some (g2, M) := by kernel_rfl
noncomputable def S17_1 : List Item := [.code (P17 [1,1,0,1,0,0]), .inLoop (P17 [1,1,0,1,0,0]), .inBlock 0, .code (P17 [1,1,1])]
def A17_1 (Ax0 : Option Addr) (lx0 cx0 : Nat) (Ax3 : Option Addr) (lx3 cx3 : Nat) (x4 : Int) (M : Mem) (Q : Value → Mem → Prop) : Prop := ∀ (g1 g2 g5 g6 g7 g8 g9 g10 g11 g12 g13 g14 g15 g16 g17 g18 g19 g20 g21 g22 g23 g24 g25 g26 : Value), Rn Try.prog Try.f17 S17_1 #[.slice Ax0 lx0 cx0, g1, g2, .slice Ax3 lx3 cx3, .int .i64 x4, g5, g6, g7, g8, g9, g10, g11, g12, g13, g14, g15, g16, g17, g18, g19, g20, g21, g22, g23, g24, g25, g26] M Q
theorem w17_0 {Ax0 : Option Addr} {lx0 cx0 : Nat} {M : Mem} {Q : Value → Mem → Prop} (H :
    A17_1 Ax0 lx0 cx0 none 0 0 0 M Q) :
    Cn Try.prog 17 #[.slice Ax0 lx0 cx0] M Q := by
  refine Cn.of b17 d17 t17 ?_
  refine Rn.seq k17_0 (Rn.region k17_1 (fun call K => r17_0) (Rch.leaf (Rn.seq k17_2 (Rn.region k17_3 (fun call K => r17_1) (Rch.leaf (Rn.seq k17_4 (Rn.seq k17_5 (Rn.region k17_6 (fun call K => r17_2) (Rch.leaf (Rn.block k17_7 (Rn.loop k17_8 ?_)))))))))))
  exact H _ _ _ _ _ _ _ _ _ _ _ _ _ _ _ _ _ _ _ _ _ _ _ _

theorem w17_1 {Ax0 : Option Addr} {lx0 cx0 : Nat} {Ax3 : Option Addr} {lx3 cx3 : Nat} {x4 : Int} {M : Mem} {Q : Value → Mem → Prop} (H :
    ((x4 < ((lx0 : Int)) →
     ∃ a1', idxA Ax0 lx0 2 x4 = some a1' ∧
     ∃ x2', M.intAt .i64 a1'.block a1'.off = some x2' ∧
     ∃ a3', idxA Ax0 lx0 2 x4 = some a3' ∧
     ∃ s4', M.slAt a3'.block (a3'.off + 1) = some s4' ∧
     Cn Try.prog 10 #[.slice s4'.1 (s4'.2.1) (s4'.2.2)] { M with floor := M.nb.size } fun v5' N5' =>
      ∃ s6', asS v5' = some s6' ∧
      ∃ r7', appendP Try.prog #[24, 24] (.slice Ax3 lx3 cx3) (.slice (some ⟨2 * { N5' with floor := M.floor }.nb.size, 0, none⟩) 1 1) ({ N5' with floor := M.floor }.new (.cells #[.int .i64 x2', .slice s6'.1 (s6'.2.1) (s6'.2.2)] 44)) = some r7' ∧
      ∃ s8', asS r7'.1 = some s8' ∧
      A17_1 Ax0 lx0 cx0 s8'.1 s8'.2.1 s8'.2.2 (IntKind.i64.wrap (x4 + 1)) r7'.2 Q) ∧
     (¬ (x4 < ((lx0 : Int))) →
     Q (.slice Ax3 lx3 cx3) M))) :
    A17_1 Ax0 lx0 cx0 Ax3 lx3 cx3 x4 M Q := by
  intro g1 g2 g5 g6 g7 g8 g9 g10 g11 g12 g13 g14 g15 g16 g17 g18 g19 g20 g21 g22 g23 g24 g25 g26
  refine Rn.seq k17_9 (Rn.seq k17_10 (Rn.region k17_11 (fun call K => r17_3) (Rch.leaf ?_)))
  refine Rn.cnd (v := decide (x4 < ((lx0 : Int)))) ⟨c17_12, rfl, by kernel_rfl⟩ (fun h => ?_) (fun h => ?_)
  · replace H := H.1 (of_decide_eq_true h)
    refine Rn.skip k17_13 (Rn.seq k17_14 (Rn.block k17_15 (Rn.regionD k17_16 (fun call K => r17_5) (Rch.ex H fun a1' H => Rch.ex H fun x2' H => Rch.ex H fun a3' H => Rch.ex H fun s4' H => Rch.callF H fun v5' N5' H => Rch.ex H fun s6' H => Rch.ex H fun r7' H => Rch.ex H fun s8' H => ?_))))
    refine Rch.leaf (Rn.blk (Rn.region k17_17 (fun call K => r17_4) (Rch.leaf (Rn.lp ?_))))
    exact H _ _ _ _ _ _ _ _ _ _ _ _ _ _ _ _ _ _ _ _ _ _ _ _
  · replace H := H.2 (of_decide_eq_false h)
    refine Rn.exit k17_18 rfl (Rn.seq k17_19 (Rn.region k17_20 (fun call K => r17_6) (Rch.leaf ?_)))
    exact Rn.ret k17_21 e17 H


end Go.Zt
