/- The functions' walks: for each function and each loop a rule of what it comes to. Printed by zw.py. -/
import Derived.Test.YtbbdggpfhcgbpaaProg
import Derived.Test.YtbbdggpfhcgbpaaZcA
set_option linter.unusedVariables false
set_option maxRecDepth 100000
namespace Go.Zt
open Go Go.Sim Go.Proofs

variable {g0 g1 g2 g3 g4 g5 g6 g7 g8 g9 g10 g11 g12 g13 g14 g15 g16 g17 g18 g19 g20 g21 g22 g23 g24 g25 g26 g27 g28 g29 g30 g31 g32 g33 g34 g35 g36 g37 g38 g39 : Value}
/-! ### zoetrope/zoetropelaw19.spoil: function 14 -/
noncomputable abbrev P14 (p : List Nat) : Code := subC (codeOf Try.f14) p
noncomputable abbrev O14 (p : List Nat) : Array Oper := opsOf (subC (codeOf Try.f14) p)
theorem b14 : Try.prog.funcs[14]? = some Try.f14 ∧ (Orc.tab Try.prog).lookup 14 = none := ⟨by kernel_rfl, by kernel_rfl⟩
theorem d14 : Try.f14.body = some (P14 []) := by kernel_rfl
theorem t14 {Ax0 : Option Addr} {lx0 cx0 : Nat} : #[.slice Ax0 lx0 cx0] ++ Array.replicate (Try.f14.ntmps - (#[.slice Ax0 lx0 cx0] : Array Value).size) undef = #[.slice Ax0 lx0 cx0,undef,undef,undef,undef,undef,undef,undef,undef,undef,undef,undef,undef,undef,undef,undef,undef,undef,undef,undef,undef,undef,undef,undef,undef,undef,undef,undef,undef,undef,undef,undef,undef,undef,undef,undef,undef,undef,undef,undef] := by kernel_rfl
theorem k14_0 : P14 [] = .seq (P14 [0]) (P14 [1]) := by kernel_rfl
theorem k14_1 : P14 [0] = .region 0 (O14 [0]) false := by kernel_rfl
theorem r14_0 {M : Mem} {call : CallM} {K : Array Value → Mem → R} :
    opsK Try.prog (fun _ => call) (O14 [0]) (O14 [0]).toList 0 #[g0,g1,g2,g3,g4,g5,g6,g7,g8,g9,g10,g11,g12,g13,g14,g15,g16,g17,g18,g19,g20,g21,g22,g23,g24,g25,g26,g27,g28,g29,g30,g31,g32,g33,g34,g35,g36,g37,g38,g39] M K = K #[g0,g1,.int .i64 0,g3,g4,g5,g6,g7,g8,g9,g10,g11,g12,g13,g14,g15,g16,g17,g18,g19,g20,g21,g22,g23,g24,g25,g26,g27,g28,g29,g30,g31,g32,g33,g34,g35,g36,g37,g38,g39] M := by kernel_rfl
theorem k14_2 : P14 [1] = .block 0 (P14 [1,0]) := by kernel_rfl
theorem k14_3 : P14 [1,0] = .loop (P14 [1,0,0]) := by kernel_rfl
theorem k14_4 : P14 [1,0,0] = .seq (P14 [1,0,0,0]) (P14 [1,0,0,1]) := by kernel_rfl
theorem k14_5 : P14 [1,0,0,0] = .seq (P14 [1,0,0,0,0]) (P14 [1,0,0,0,1]) := by kernel_rfl
theorem k14_6 : P14 [1,0,0,0,0] = .region 1 (O14 [1,0,0,0,0]) false := by kernel_rfl
theorem r14_1 {Ax0 : Option Addr} {lx0 cx0 : Nat} {x2 : Int} {M : Mem} {call : CallM} {K : Array Value → Mem → R} :
    opsK Try.prog (fun _ => call) (O14 [1,0,0,0,0]) (O14 [1,0,0,0,0]).toList 0 #[.slice Ax0 lx0 cx0,g1,.int .i64 x2,g3,g4,g5,g6,g7,g8,g9,g10,g11,g12,g13,g14,g15,g16,g17,g18,g19,g20,g21,g22,g23,g24,g25,g26,g27,g28,g29,g30,g31,g32,g33,g34,g35,g36,g37,g38,g39] M K = K #[.slice Ax0 lx0 cx0,g1,.int .i64 x2,g3,.int .i64 x2,.slice Ax0 lx0 cx0,.int .i64 ((lx0 : Int)),.bool (decide (x2 < ((lx0 : Int)))),g8,g9,g10,g11,g12,g13,g14,g15,g16,g17,g18,g19,g20,g21,g22,g23,g24,g25,g26,g27,g28,g29,g30,g31,g32,g33,g34,g35,g36,g37,g38,g39] M := by kernel_rfl
theorem c14_7 : P14 [1,0,0,0,1] = .cond (.tmp 7) (P14 [1,0,0,0,1,0]) (P14 [1,0,0,0,1,1]) := by kernel_rfl
theorem k14_8 : P14 [1,0,0,0,1,0] = .skip := by kernel_rfl
theorem k14_9 : P14 [1,0,0,1] = .seq (P14 [1,0,0,1,0]) (P14 [1,0,0,1,1]) := by kernel_rfl
theorem k14_10 : P14 [1,0,0,1,0] = .block 1 (P14 [1,0,0,1,0,0]) := by kernel_rfl
theorem k14_11 : P14 [1,0,0,1,0,0] = .seq (P14 [1,0,0,1,0,0,0]) (P14 [1,0,0,1,0,0,1]) := by kernel_rfl
theorem k14_12 : P14 [1,0,0,1,0,0,0] = .seq (P14 [1,0,0,1,0,0,0,0]) (P14 [1,0,0,1,0,0,0,1]) := by kernel_rfl
theorem k14_13 : P14 [1,0,0,1,0,0,0,0] = .region 3 (O14 [1,0,0,1,0,0,0,0]) false := by kernel_rfl
theorem r14_3 {M : Mem} {call : CallM} {K : Array Value → Mem → R} :
    opsK Try.prog (fun _ => call) (O14 [1,0,0,1,0,0,0,0]) (O14 [1,0,0,1,0,0,0,0]).toList 0 #[g0,g1,g2,g3,g4,g5,g6,g7,g8,g9,g10,g11,g12,g13,g14,g15,g16,g17,g18,g19,g20,g21,g22,g23,g24,g25,g26,g27,g28,g29,g30,g31,g32,g33,g34,g35,g36,g37,g38,g39] M K = K #[g0,g1,g2,.int .i64 0,g4,g5,g6,g7,g8,g9,g10,g11,g12,g13,g14,g15,g16,g17,g18,g19,g20,g21,g22,g23,g24,g25,g26,g27,g28,g29,g30,g31,g32,g33,g34,g35,g36,g37,g38,g39] M := by kernel_rfl
theorem k14_14 : P14 [1,0,0,1,0,0,0,1] = .block 2 (P14 [1,0,0,1,0,0,0,1,0]) := by kernel_rfl
theorem k14_15 : P14 [1,0,0,1,0,0,0,1,0] = .loop (P14 [1,0,0,1,0,0,0,1,0,0]) := by kernel_rfl
theorem k14_16 : P14 [1,0,0,0,1,1] = .exit 0 := by kernel_rfl
theorem e14 {M : Mem} : finish Try.prog Try.f14 #[g0,g1,g2,g3,g4,g5,g6,g7,g8,g9,g10,g11,g12,g13,g14,g15,g16,g17,g18,g19,g20,g21,g22,g23,g24,g25,g26,g27,g28,g29,g30,g31,g32,g33,g34,g35,g36,g37,g38,g39] M = some (.tuple #[], M) := by kernel_rfl
theorem k14_18 : P14 [1,0,0,1,0,0,0,1,0,0] = .seq (P14 [1,0,0,1,0,0,0,1,0,0,0]) (P14 [1,0,0,1,0,0,0,1,0,0,1]) := by kernel_rfl
theorem k14_19 : P14 [1,0,0,1,0,0,0,1,0,0,0] = .seq (P14 [1,0,0,1,0,0,0,1,0,0,0,0]) (P14 [1,0,0,1,0,0,0,1,0,0,0,1]) := by kernel_rfl
theorem k14_20 : P14 [1,0,0,1,0,0,0,1,0,0,0,0] = .region 4 (O14 [1,0,0,1,0,0,0,1,0,0,0,0]) false := by kernel_rfl
theorem r14_4 {Ax0 : Option Addr} {lx0 cx0 : Nat} {x2 x3 : Int} {M : Mem} {call : CallM} {K : Array Value → Mem → R} :
    opsK Try.prog (fun _ => call) (O14 [1,0,0,1,0,0,0,1,0,0,0,0]) (O14 [1,0,0,1,0,0,0,1,0,0,0,0]).toList 0 #[.slice Ax0 lx0 cx0,g1,.int .i64 x2,.int .i64 x3,g4,g5,g6,g7,g8,g9,g10,g11,g12,g13,g14,g15,g16,g17,g18,g19,g20,g21,g22,g23,g24,g25,g26,g27,g28,g29,g30,g31,g32,g33,g34,g35,g36,g37,g38,g39] M K = (idxA Ax0 lx0 2 x2).bind fun a_1 => (M.slAt a_1.block (a_1.off + 1)).bind fun s_2 => K #[.slice Ax0 lx0 cx0,g1,.int .i64 x2,.int .i64 x3,g4,g5,g6,g7,g8,g9,.int .i64 x3,.slice Ax0 lx0 cx0,.int .i64 x2,.pointer (some a_1),.pointer (some ⟨a_1.block, a_1.off + 1, none⟩),.slice s_2.1 (s_2.2.1) (s_2.2.2),.int .i64 ((s_2.2.1 : Int)),.bool (decide (x3 < ((s_2.2.1 : Int)))),g18,g19,g20,g21,g22,g23,g24,g25,g26,g27,g28,g29,g30,g31,g32,g33,g34,g35,g36,g37,g38,g39] M := by kernel_rfl
theorem c14_21 : P14 [1,0,0,1,0,0,0,1,0,0,0,1] = .cond (.tmp 17) (P14 [1,0,0,1,0,0,0,1,0,0,0,1,0]) (P14 [1,0,0,1,0,0,0,1,0,0,0,1,1]) := by kernel_rfl
theorem k14_22 : P14 [1,0,0,1,0,0,0,1,0,0,0,1,0] = .skip := by kernel_rfl
theorem k14_23 : P14 [1,0,0,1,0,0,0,1,0,0,1] = .seq (P14 [1,0,0,1,0,0,0,1,0,0,1,0]) (P14 [1,0,0,1,0,0,0,1,0,0,1,1]) := by kernel_rfl
theorem k14_24 : P14 [1,0,0,1,0,0,0,1,0,0,1,0] = .block 3 (P14 [1,0,0,1,0,0,0,1,0,0,1,0,0]) := by kernel_rfl
theorem k14_25 : P14 [1,0,0,1,0,0,0,1,0,0,1,0,0] = .region 6 (O14 [1,0,0,1,0,0,0,1,0,0,1,0,0]) true ∧ drawOk (O14 [1,0,0,1,0,0,0,1,0,0,1,0,0]) = true := ⟨by kernel_rfl, by kernel_rfl⟩
theorem r14_6 {Ax0 : Option Addr} {lx0 cx0 : Nat} {x2 x3 : Int} {M : Mem} {call : CallM} {K : Array Value → Mem → R} :
    opsI Try.prog (callAt call (O14 [1,0,0,1,0,0,0,1,0,0,1,0,0])) (O14 [1,0,0,1,0,0,0,1,0,0,1,0,0]) (ordOf (O14 [1,0,0,1,0,0,0,1,0,0,1,0,0])) [] #[.slice Ax0 lx0 cx0,g1,.int .i64 x2,.int .i64 x3,g4,g5,g6,g7,g8,g9,g10,g11,g12,g13,g14,g15,g16,g17,g18,g19,g20,g21,g22,g23,g24,g25,g26,g27,g28,g29,g30,g31,g32,g33,g34,g35,g36,g37,g38,g39] M K = (idxA Ax0 lx0 2 x2).bind fun a_1 => (M.slAt a_1.block (a_1.off + 1)).bind fun s_2 => (idxA Ax0 lx0 2 x2).bind fun a_3 => (M.slAt a_3.block (a_3.off + 1)).bind fun s_4 => (idxA s_4.1 (s_4.2.1) 1 x3).bind fun a_5 => (M.intAt .u8 a_5.block a_5.off).bind fun x_6 => (idxA s_2.1 (s_2.2.1) 1 x3).bind fun a_7 => (M.put a_7.block a_7.off (.int .u8 (IntKind.u8.wrap (((BitVec.ofInt (IntKind.bits .u8) x_6 ^^^ BitVec.ofInt (IntKind.bits .u8) 255).toNat : Int))))).bind fun M_8 => K #[.slice Ax0 lx0 cx0,g1,.int .i64 x2,.int .i64 x3,g4,g5,g6,g7,g8,g9,g10,g11,g12,g13,g14,g15,g16,g17,g18,g19,.slice Ax0 lx0 cx0,.int .i64 x2,.pointer (some a_1),.pointer (some ⟨a_1.block, a_1.off + 1, none⟩),.slice s_2.1 (s_2.2.1) (s_2.2.2),.int .i64 x3,.slice Ax0 lx0 cx0,.int .i64 x2,.pointer (some a_3),.pointer (some ⟨a_3.block, a_3.off + 1, none⟩),.slice s_4.1 (s_4.2.1) (s_4.2.2),.int .i64 x3,.pointer (some a_5),.int .u8 x_6,.int .u8 (IntKind.u8.wrap (((BitVec.ofInt (IntKind.bits .u8) x_6 ^^^ BitVec.ofInt (IntKind.bits .u8) 255).toNat : Int))),.pointer (some a_7),g36,g37,g38,g39] M_8 := by kernel_rfl
theorem k14_26 : P14 [1,0,0,1,0,0,0,1,0,0,1,1] = .region 5 (O14 [1,0,0,1,0,0,0,1,0,0,1,1]) false := by kernel_rfl
theorem r14_5 {x3 : Int} {M : Mem} {call : CallM} {K : Array Value → Mem → R} :
    opsK Try.prog (fun _ => call) (O14 [1,0,0,1,0,0,0,1,0,0,1,1]) (O14 [1,0,0,1,0,0,0,1,0,0,1,1]).toList 0 #[g0,g1,g2,.int .i64 x3,g4,g5,g6,g7,g8,g9,g10,g11,g12,g13,g14,g15,g16,g17,g18,g19,g20,g21,g22,g23,g24,g25,g26,g27,g28,g29,g30,g31,g32,g33,g34,g35,g36,g37,g38,g39] M K = K #[g0,g1,g2,.int .i64 (IntKind.i64.wrap (x3 + 1)),g4,g5,g6,g7,g8,g9,g10,g11,g12,g13,g14,g15,g16,g17,.int .i64 x3,.int .i64 (IntKind.i64.wrap (x3 + 1)),g20,g21,g22,g23,g24,g25,g26,g27,g28,g29,g30,g31,g32,g33,g34,g35,g36,g37,g38,g39] M := by kernel_rfl
theorem k14_27 : P14 [1,0,0,1,0,0,0,1,0,0,0,1,1] = .exit 2 := by kernel_rfl
theorem k14_28 : P14 [1,0,0,1,0,0,1] = .region 7 (O14 [1,0,0,1,0,0,1]) false := by kernel_rfl
theorem r14_7 {Ax0 : Option Addr} {lx0 cx0 : Nat} {x2 : Int} {M : Mem} {call : CallM} {K : Array Value → Mem → R} :
    opsK Try.prog (fun _ => call) (O14 [1,0,0,1,0,0,1]) (O14 [1,0,0,1,0,0,1]).toList 0 #[.slice Ax0 lx0 cx0,g1,.int .i64 x2,g3,g4,g5,g6,g7,g8,g9,g10,g11,g12,g13,g14,g15,g16,g17,g18,g19,g20,g21,g22,g23,g24,g25,g26,g27,g28,g29,g30,g31,g32,g33,g34,g35,g36,g37,g38,g39] M K = (idxA Ax0 lx0 2 x2).bind fun a_1 => (M.put a_1.block a_1.off (.int .i64 9)).bind fun M_2 => K #[.slice Ax0 lx0 cx0,g1,.int .i64 x2,g3,g4,g5,g6,g7,g8,g9,g10,g11,g12,g13,g14,g15,g16,g17,g18,g19,g20,g21,g22,g23,g24,g25,g26,g27,g28,g29,g30,g31,g32,g33,g34,g35,.slice Ax0 lx0 cx0,.int .i64 x2,.pointer (some a_1),.pointer (some ⟨a_1.block, a_1.off, none⟩)] M_2 := by kernel_rfl
theorem k14_29 : P14 [1,0,0,1,1] = .region 2 (O14 [1,0,0,1,1]) false := by kernel_rfl
theorem r14_2 {x2 : Int} {M : Mem} {call : CallM} {K : Array Value → Mem → R} :
    opsK Try.prog (fun _ => call) (O14 [1,0,0,1,1]) (O14 [1,0,0,1,1]).toList 0 #[g0,g1,.int .i64 x2,g3,g4,g5,g6,g7,g8,g9,g10,g11,g12,g13,g14,g15,g16,g17,g18,g19,g20,g21,g22,g23,g24,g25,g26,g27,g28,g29,g30,g31,g32,g33,g34,g35,g36,g37,g38,g39] M K = K #[g0,g1,.int .i64 (IntKind.i64.wrap (x2 + 1)),g3,g4,g5,g6,g7,.int .i64 x2,.int .i64 (IntKind.i64.wrap (x2 + 1)),g10,g11,g12,g13,g14,g15,g16,g17,g18,g19,g20,g21,g22,g23,g24,g25,g26,g27,g28,g29,g30,g31,g32,g33,g34,g35,g36,g37,g38,g39] M := by kernel_rfl
noncomputable def S14_1 : List Item := [.code (P14 [1,0,0]), .inLoop (P14 [1,0,0]), .inBlock 0]
def A14_1 (Ax0 : Option Addr) (lx0 cx0 : Nat) (x2 : Int) (M : Mem) (Q : Value → Mem → Prop) : Prop := ∀ (g1 g3 g4 g5 g6 g7 g8 g9 g10 g11 g12 g13 g14 g15 g16 g17 g18 g19 g20 g21 g22 g23 g24 g25 g26 g27 g28 g29 g30 g31 g32 g33 g34 g35 g36 g37 g38 g39 : Value), Rn Try.prog Try.f14 S14_1 #[.slice Ax0 lx0 cx0, g1, .int .i64 x2, g3, g4, g5, g6, g7, g8, g9, g10, g11, g12, g13, g14, g15, g16, g17, g18, g19, g20, g21, g22, g23, g24, g25, g26, g27, g28, g29, g30, g31, g32, g33, g34, g35, g36, g37, g38, g39] M Q
noncomputable def S14_2 : List Item := [.code (P14 [1,0,0,1,0,0,0,1,0,0]), .inLoop (P14 [1,0,0,1,0,0,0,1,0,0]), .inBlock 2, .code (P14 [1,0,0,1,0,0,1]), .inBlock 1, .code (P14 [1,0,0,1,1]), .inLoop (P14 [1,0,0]), .inBlock 0]
def A14_2 (Ax0 : Option Addr) (lx0 cx0 : Nat) (x2 x3 : Int) (M : Mem) (Q : Value → Mem → Prop) : Prop := ∀ (g1 g4 g5 g6 g7 g8 g9 g10 g11 g12 g13 g14 g15 g16 g17 g18 g19 g20 g21 g22 g23 g24 g25 g26 g27 g28 g29 g30 g31 g32 g33 g34 g35 g36 g37 g38 g39 : Value), Rn Try.prog Try.f14 S14_2 #[.slice Ax0 lx0 cx0, g1, .int .i64 x2, .int .i64 x3, g4, g5, g6, g7, g8, g9, g10, g11, g12, g13, g14, g15, g16, g17, g18, g19, g20, g21, g22, g23, g24, g25, g26, g27, g28, g29, g30, g31, g32, g33, g34, g35, g36, g37, g38, g39] M Q
theorem w14_0 {Ax0 : Option Addr} {lx0 cx0 : Nat} {M : Mem} {Q : Value → Mem → Prop} (H :
    A14_1 Ax0 lx0 cx0 0 M Q) :
    Cn Try.prog 14 #[.slice Ax0 lx0 cx0] M Q := by
  refine Cn.of b14 d14 t14 ?_
  refine Rn.seq k14_0 (Rn.region k14_1 (fun call K => r14_0) (Rch.leaf (Rn.block k14_2 (Rn.loop k14_3 ?_))))
  exact H _ _ _ _ _ _ _ _ _ _ _ _ _ _ _ _ _ _ _ _ _ _ _ _ _ _ _ _ _ _ _ _ _ _ _ _ _ _

theorem w14_1 {Ax0 : Option Addr} {lx0 cx0 : Nat} {x2 : Int} {M : Mem} {Q : Value → Mem → Prop} (H :
    ((x2 < ((lx0 : Int)) →
     A14_2 Ax0 lx0 cx0 x2 0 M Q) ∧
     (¬ (x2 < ((lx0 : Int))) →
     Q (.tuple #[]) M))) :
    A14_1 Ax0 lx0 cx0 x2 M Q := by
  intro g1 g3 g4 g5 g6 g7 g8 g9 g10 g11 g12 g13 g14 g15 g16 g17 g18 g19 g20 g21 g22 g23 g24 g25 g26 g27 g28 g29 g30 g31 g32 g33 g34 g35 g36 g37 g38 g39
  refine Rn.seq k14_4 (Rn.seq k14_5 (Rn.region k14_6 (fun call K => r14_1) (Rch.leaf ?_)))
  refine Rn.cnd (v := decide (x2 < ((lx0 : Int)))) ⟨c14_7, rfl, by kernel_rfl⟩ (fun h => ?_) (fun h => ?_)
  · replace H := H.1 (of_decide_eq_true h)
    refine Rn.skip k14_8 (Rn.seq k14_9 (Rn.block k14_10 (Rn.seq k14_11 (Rn.seq k14_12 (Rn.region k14_13 (fun call K => r14_3) (Rch.leaf (Rn.block k14_14 (Rn.loop k14_15 ?_))))))))
    exact H _ _ _ _ _ _ _ _ _ _ _ _ _ _ _ _ _ _ _ _ _ _ _ _ _ _ _ _ _ _ _ _ _ _ _ _ _
  · replace H := H.2 (of_decide_eq_false h)
    refine Rn.exit k14_16 rfl ?_
    exact Rn.fin e14 H

theorem w14_2 {Ax0 : Option Addr} {lx0 cx0 : Nat} {x2 x3 : Int} {M : Mem} {Q : Value → Mem → Prop} (H :
    ∃ a1', idxA Ax0 lx0 2 x2 = some a1' ∧
    ∃ s2', M.slAt a1'.block (a1'.off + 1) = some s2' ∧
    ((x3 < ((s2'.2.1 : Int)) →
     ∃ a3', idxA Ax0 lx0 2 x2 = some a3' ∧
     ∃ s4', M.slAt a3'.block (a3'.off + 1) = some s4' ∧
     ∃ a5', idxA Ax0 lx0 2 x2 = some a5' ∧
     ∃ s6', M.slAt a5'.block (a5'.off + 1) = some s6' ∧
     ∃ a7', idxA s6'.1 (s6'.2.1) 1 x3 = some a7' ∧
     ∃ x8', M.intAt .u8 a7'.block a7'.off = some x8' ∧
     ∃ a9', idxA s4'.1 (s4'.2.1) 1 x3 = some a9' ∧
     ∃ M10', M.put a9'.block a9'.off (.int .u8 (IntKind.u8.wrap (((BitVec.ofInt (IntKind.bits .u8) x8' ^^^ BitVec.ofInt (IntKind.bits .u8) 255).toNat : Int)))) = some M10' ∧
     A14_2 Ax0 lx0 cx0 x2 (IntKind.i64.wrap (x3 + 1)) M10' Q) ∧
     (¬ (x3 < ((s2'.2.1 : Int))) →
     ∃ a11', idxA Ax0 lx0 2 x2 = some a11' ∧
     ∃ M12', M.put a11'.block a11'.off (.int .i64 9) = some M12' ∧
     A14_1 Ax0 lx0 cx0 (IntKind.i64.wrap (x2 + 1)) M12' Q))) :
    A14_2 Ax0 lx0 cx0 x2 x3 M Q := by
  intro g1 g4 g5 g6 g7 g8 g9 g10 g11 g12 g13 g14 g15 g16 g17 g18 g19 g20 g21 g22 g23 g24 g25 g26 g27 g28 g29 g30 g31 g32 g33 g34 g35 g36 g37 g38 g39
  refine Rn.seq k14_18 (Rn.seq k14_19 (Rn.region k14_20 (fun call K => r14_4) (Rch.ex H fun a1' H => Rch.ex H fun s2' H => Rch.leaf ?_)))
  refine Rn.cnd (v := decide (x3 < ((s2'.2.1 : Int)))) ⟨c14_21, rfl, by kernel_rfl⟩ (fun h => ?_) (fun h => ?_)
  · replace H := H.1 (of_decide_eq_true h)
    refine Rn.skip k14_22 (Rn.seq k14_23 (Rn.block k14_24 (Rn.regionD k14_25 (fun call K => r14_6) (Rch.ex H fun a3' H => Rch.ex H fun s4' H => Rch.ex H fun a5' H => Rch.ex H fun s6' H => Rch.ex H fun a7' H => Rch.ex H fun x8' H => Rch.ex H fun a9' H => Rch.ex H fun M10' H => ?_))))
    refine Rch.leaf (Rn.blk (Rn.region k14_26 (fun call K => r14_5) (Rch.leaf (Rn.lp ?_))))
    exact H _ _ _ _ _ _ _ _ _ _ _ _ _ _ _ _ _ _ _ _ _ _ _ _ _ _ _ _ _ _ _ _ _ _ _ _ _
  · replace H := H.2 (of_decide_eq_false h)
    refine Rn.exit k14_27 rfl (Rn.region k14_28 (fun call K => r14_7) (Rch.ex H fun a11' H => Rch.ex H fun M12' H => Rch.leaf (Rn.blk (Rn.region k14_29 (fun call K => r14_2) (Rch.leaf (Rn.lp ?_))))))
    exact H _ _ _ _ _ _ _ _ _ _ _ _ _ _ _ _ _ _ _ _ _ _ _ _ _ _ _ _ _ _ _ _ _ _ _ _ _ _


/-! ### zoetrope/zoetropelaw19.may: function 22 -/
noncomputable abbrev P22 (p : List Nat) : Code := subC (codeOf Try.f22) p
noncomputable abbrev O22 (p : List Nat) : Array Oper := opsOf (subC (codeOf Try.f22) p)
theorem b22 : Try.prog.funcs[22]? = some Try.f22 ∧ (Orc.tab Try.prog).lookup 22 = none := ⟨by kernel_rfl, by kernel_rfl⟩
theorem d22 : Try.f22.body = some (P22 []) := by kernel_rfl
theorem t22 {Ax0 : Option Addr} {lx0 cx0 : Nat} : #[.slice Ax0 lx0 cx0] ++ Array.replicate (Try.f22.ntmps - (#[.slice Ax0 lx0 cx0] : Array Value).size) undef = #[.slice Ax0 lx0 cx0,undef,undef,undef,undef,undef,undef,undef,undef,undef,undef,undef,undef,undef,undef,undef,undef,undef,undef,undef,undef,undef,undef,undef,undef,undef,undef,undef,undef,undef,undef,undef,undef,undef,undef,undef] := by kernel_rfl
theorem k22_0 : P22 [] = .seq (P22 [0]) (P22 [1]) := by kernel_rfl
theorem k22_1 : P22 [0] = .region 0 (O22 [0]) false := by kernel_rfl
theorem r22_0 {M : Mem} {call : CallM} {K : Array Value → Mem → R} :
    opsK Try.prog (fun _ => call) (O22 [0]) (O22 [0]).toList 0 #[g0,g1,g2,g3,g4,g5,g6,g7,g8,g9,g10,g11,g12,g13,g14,g15,g16,g17,g18,g19,g20,g21,g22,g23,g24,g25,g26,g27,g28,g29,g30,g31,g32,g33,g34,g35] M K = K #[g0,g1,.slice none 0 0,g3,g4,g5,g6,g7,g8,g9,g10,g11,g12,g13,g14,g15,g16,g17,g18,g19,g20,g21,g22,g23,g24,g25,g26,g27,g28,g29,g30,g31,g32,g33,g34,g35] M := by kernel_rfl
theorem k22_2 : P22 [1] = .seq (P22 [1,0]) (P22 [1,1]) := by kernel_rfl
theorem k22_3 : P22 [1,0] = .region 1 (O22 [1,0]) false := by kernel_rfl
theorem r22_1 {M : Mem} {call : CallM} {K : Array Value → Mem → R} :
    opsK Try.prog (fun _ => call) (O22 [1,0]) (O22 [1,0]).toList 0 #[g0,g1,g2,g3,g4,g5,g6,g7,g8,g9,g10,g11,g12,g13,g14,g15,g16,g17,g18,g19,g20,g21,g22,g23,g24,g25,g26,g27,g28,g29,g30,g31,g32,g33,g34,g35] M K = K #[g0,g1,g2,.slice none 0 0,g4,g5,g6,g7,g8,g9,g10,g11,g12,g13,g14,g15,g16,g17,g18,g19,g20,g21,g22,g23,g24,g25,g26,g27,g28,g29,g30,g31,g32,g33,g34,g35] M := by kernel_rfl
theorem k22_4 : P22 [1,1] = .seq (P22 [1,1,0]) (P22 [1,1,1]) := by kernel_rfl
theorem k22_5 : P22 [1,1,0] = .seq (P22 [1,1,0,0]) (P22 [1,1,0,1]) := by kernel_rfl
theorem k22_6 : P22 [1,1,0,0] = .region 2 (O22 [1,1,0,0]) false := by kernel_rfl
theorem r22_2 {M : Mem} {call : CallM} {K : Array Value → Mem → R} :
    opsK Try.prog (fun _ => call) (O22 [1,1,0,0]) (O22 [1,1,0,0]).toList 0 #[g0,g1,g2,g3,g4,g5,g6,g7,g8,g9,g10,g11,g12,g13,g14,g15,g16,g17,g18,g19,g20,g21,g22,g23,g24,g25,g26,g27,g28,g29,g30,g31,g32,g33,g34,g35] M K = K #[g0,g1,g2,g3,.int .i64 0,g5,g6,g7,g8,g9,g10,g11,g12,g13,g14,g15,g16,g17,g18,g19,g20,g21,g22,g23,g24,g25,g26,g27,g28,g29,g30,g31,g32,g33,g34,g35] M := by kernel_rfl
theorem k22_7 : P22 [1,1,0,1] = .block 0 (P22 [1,1,0,1,0]) := by kernel_rfl
theorem k22_8 : P22 [1,1,0,1,0] = .loop (P22 [1,1,0,1,0,0]) := by kernel_rfl
theorem k22_9 : P22 [1,1,0,1,0,0] = .seq (P22 [1,1,0,1,0,0,0]) (P22 [1,1,0,1,0,0,1]) := by kernel_rfl
theorem k22_10 : P22 [1,1,0,1,0,0,0] = .seq (P22 [1,1,0,1,0,0,0,0]) (P22 [1,1,0,1,0,0,0,1]) := by kernel_rfl
theorem k22_11 : P22 [1,1,0,1,0,0,0,0] = .region 3 (O22 [1,1,0,1,0,0,0,0]) false := by kernel_rfl
theorem r22_3 {Ax0 : Option Addr} {lx0 cx0 : Nat} {x4 : Int} {M : Mem} {call : CallM} {K : Array Value → Mem → R} :
    opsK Try.prog (fun _ => call) (O22 [1,1,0,1,0,0,0,0]) (O22 [1,1,0,1,0,0,0,0]).toList 0 #[.slice Ax0 lx0 cx0,g1,g2,g3,.int .i64 x4,g5,g6,g7,g8,g9,g10,g11,g12,g13,g14,g15,g16,g17,g18,g19,g20,g21,g22,g23,g24,g25,g26,g27,g28,g29,g30,g31,g32,g33,g34,g35] M K = K #[.slice Ax0 lx0 cx0,g1,g2,g3,.int .i64 x4,.int .i64 x4,.slice Ax0 lx0 cx0,.int .i64 ((lx0 : Int)),.bool (decide (x4 < ((lx0 : Int)))),g9,g10,g11,g12,g13,g14,g15,g16,g17,g18,g19,g20,g21,g22,g23,g24,g25,g26,g27,g28,g29,g30,g31,g32,g33,g34,g35] M := by kernel_rfl
theorem c22_12 : P22 [1,1,0,1,0,0,0,1] = .cond (.tmp 8) (P22 [1,1,0,1,0,0,0,1,0]) (P22 [1,1,0,1,0,0,0,1,1]) := by kernel_rfl
theorem k22_13 : P22 [1,1,0,1,0,0,0,1,0] = .skip := by kernel_rfl
theorem k22_14 : P22 [1,1,0,1,0,0,1] = .seq (P22 [1,1,0,1,0,0,1,0]) (P22 [1,1,0,1,0,0,1,1]) := by kernel_rfl
theorem k22_15 : P22 [1,1,0,1,0,0,1,0] = .block 1 (P22 [1,1,0,1,0,0,1,0,0]) := by kernel_rfl
theorem k22_16 : P22 [1,1,0,1,0,0,1,0,0] = .region 5 (O22 [1,1,0,1,0,0,1,0,0]) true ∧ drawOk (O22 [1,1,0,1,0,0,1,0,0]) = true := ⟨by kernel_rfl, by kernel_rfl⟩
theorem r22_5 {Ax0 : Option Addr} {lx0 cx0 : Nat} {Ax3 : Option Addr} {lx3 cx3 : Nat} {x4 : Int} {M : Mem} {call : CallM} {K : Array Value → Mem → R} :
    opsI Try.prog (callAt call (O22 [1,1,0,1,0,0,1,0,0])) (O22 [1,1,0,1,0,0,1,0,0]) (ordOf (O22 [1,1,0,1,0,0,1,0,0])) [] #[.slice Ax0 lx0 cx0,g1,g2,.slice Ax3 lx3 cx3,.int .i64 x4,g5,g6,g7,g8,g9,g10,g11,g12,g13,g14,g15,g16,g17,g18,g19,g20,g21,g22,g23,g24,g25,g26,g27,g28,g29,g30,g31,g32,g33,g34,g35] M K = (idxA Ax0 lx0 2 x4).bind fun a_1 => (M.intAt .i64 a_1.block a_1.off).bind fun x_2 => (idxA Ax0 lx0 2 x4).bind fun a_3 => (M.slAt a_3.block (a_3.off + 1)).bind fun s_4 => (idxA Ax0 lx0 2 x4).bind fun a_5 => (M.slAt a_5.block (a_5.off + 1)).bind fun s_6 => (sliceP Try.prog 22 (.slice s_4.1 (s_4.2.1) (s_4.2.2)) none (some (.int .i64 (if 1048576 < (s_6.2.1 : Int) then 1048576 else (s_6.2.1 : Int)))) none).bind fun v_7 => (asS v_7).bind fun s_8 => (floored call 23 #[.int .i64 x_2, .int .i64 3] M).bind fun r_9 => (asI .i64 r_9.1).bind fun x_10 => (appendP Try.prog #[24, 24] (.slice Ax3 lx3 cx3) (.slice (some ⟨2 * r_9.2.nb.size, 0, none⟩) 1 1) (r_9.2.new (.cells #[.int .i64 (IntKind.i64.wrap (1 + x_10)), .slice s_8.1 (s_8.2.1) (s_8.2.2)] 44))).bind fun r_11 => (asS r_11.1).bind fun s_12 => K #[.slice Ax0 lx0 cx0,g1,g2,.slice s_12.1 (s_12.2.1) (s_12.2.2),.int .i64 x4,g5,g6,g7,g8,g9,g10,.slice Ax3 lx3 cx3,.slice Ax0 lx0 cx0,.int .i64 x4,.pointer (some a_1),.pointer (some ⟨a_1.block, a_1.off, none⟩),.int .i64 x_2,.int .i64 x_10,.int .i64 (IntKind.i64.wrap (1 + x_10)),.slice Ax0 lx0 cx0,.int .i64 x4,.pointer (some a_3),.pointer (some ⟨a_3.block, a_3.off + 1, none⟩),.slice s_4.1 (s_4.2.1) (s_4.2.2),.slice Ax0 lx0 cx0,.int .i64 x4,.pointer (some a_5),.pointer (some ⟨a_5.block, a_5.off + 1, none⟩),.slice s_6.1 (s_6.2.1) (s_6.2.2),.int .i64 ((s_6.2.1 : Int)),.int .i64 (if 1048576 < (s_6.2.1 : Int) then 1048576 else (s_6.2.1 : Int)),.slice s_8.1 (s_8.2.1) (s_8.2.2),.agg #[.int .i64 (IntKind.i64.wrap (1 + x_10)), .slice s_8.1 (s_8.2.1) (s_8.2.2)],.slice (some ⟨2 * r_9.2.nb.size, 0, none⟩) 1 1,.slice s_12.1 (s_12.2.1) (s_12.2.2),g35] r_11.2 := by kernel_rfl
theorem k22_17 : P22 [1,1,0,1,0,0,1,1] = .region 4 (O22 [1,1,0,1,0,0,1,1]) false := by kernel_rfl
theorem r22_4 {x4 : Int} {M : Mem} {call : CallM} {K : Array Value → Mem → R} :
    opsK Try.prog (fun _ => call) (O22 [1,1,0,1,0,0,1,1]) (O22 [1,1,0,1,0,0,1,1]).toList 0 #[g0,g1,g2,g3,.int .i64 x4,g5,g6,g7,g8,g9,g10,g11,g12,g13,g14,g15,g16,g17,g18,g19,g20,g21,g22,g23,g24,g25,g26,g27,g28,g29,g30,g31,g32,g33,g34,g35] M K = K #[g0,g1,g2,g3,.int .i64 (IntKind.i64.wrap (x4 + 1)),g5,g6,g7,g8,.int .i64 x4,.int .i64 (IntKind.i64.wrap (x4 + 1)),g11,g12,g13,g14,g15,g16,g17,g18,g19,g20,g21,g22,g23,g24,g25,g26,g27,g28,g29,g30,g31,g32,g33,g34,g35] M := by kernel_rfl
theorem k22_18 : P22 [1,1,0,1,0,0,0,1,1] = .exit 0 := by kernel_rfl
theorem k22_19 : P22 [1,1,1] = .seq (P22 [1,1,1,0]) (P22 [1,1,1,1]) := by kernel_rfl
theorem k22_20 : P22 [1,1,1,0] = .region 6 (O22 [1,1,1,0]) false := by kernel_rfl
theorem r22_6 {Ax3 : Option Addr} {lx3 cx3 : Nat} {M : Mem} {call : CallM} {K : Array Value → Mem → R} :
    opsK Try.prog (fun _ => call) (O22 [1,1,1,0]) (O22 [1,1,1,0]).toList 0 #[g0,g1,g2,.slice Ax3 lx3 cx3,g4,g5,g6,g7,g8,g9,g10,g11,g12,g13,g14,g15,g16,g17,g18,g19,g20,g21,g22,g23,g24,g25,g26,g27,g28,g29,g30,g31,g32,g33,g34,g35] M K = K #[g0,g1,.slice Ax3 lx3 cx3,.slice Ax3 lx3 cx3,g4,g5,g6,g7,g8,g9,g10,g11,g12,g13,g14,g15,g16,g17,g18,g19,g20,g21,g22,g23,g24,g25,g26,g27,g28,g29,g30,g31,g32,g33,g34,.slice Ax3 lx3 cx3] M := by kernel_rfl
theorem k22_21 : P22 [1,1,1,1] = .ret := by kernel_rfl
theorem e22 {M : Mem} : finish Try.prog Try.f22 #[g0,g1,g2,g3,g4,g5,g6,g7,g8,g9,g10,g11,g12,g13,g14,g15,g16,g17,g18,g19,g20,g21,g22,g23,g24,g25,g26,g27,g28,g29,g30,g31,g32,g33,g34,g35] M = some (g2, M) := by kernel_rfl
noncomputable def S22_1 : List Item := [.code (P22 [1,1,0,1,0,0]), .inLoop (P22 [1,1,0,1,0,0]), .inBlock 0, .code (P22 [1,1,1])]
def A22_1 (Ax0 : Option Addr) (lx0 cx0 : Nat) (Ax3 : Option Addr) (lx3 cx3 : Nat) (x4 : Int) (M : Mem) (Q : Value → Mem → Prop) : Prop := ∀ (g1 g2 g5 g6 g7 g8 g9 g10 g11 g12 g13 g14 g15 g16 g17 g18 g19 g20 g21 g22 g23 g24 g25 g26 g27 g28 g29 g30 g31 g32 g33 g34 g35 : Value), Rn Try.prog Try.f22 S22_1 #[.slice Ax0 lx0 cx0, g1, g2, .slice Ax3 lx3 cx3, .int .i64 x4, g5, g6, g7, g8, g9, g10, g11, g12, g13, g14, g15, g16, g17, g18, g19, g20, g21, g22, g23, g24, g25, g26, g27, g28, g29, g30, g31, g32, g33, g34, g35] M Q
theorem w22_0 {Ax0 : Option Addr} {lx0 cx0 : Nat} {M : Mem} {Q : Value → Mem → Prop} (H :
    A22_1 Ax0 lx0 cx0 none 0 0 0 M Q) :
    Cn Try.prog 22 #[.slice Ax0 lx0 cx0] M Q := by
  refine Cn.of b22 d22 t22 ?_
  refine Rn.seq k22_0 (Rn.region k22_1 (fun call K => r22_0) (Rch.leaf (Rn.seq k22_2 (Rn.region k22_3 (fun call K => r22_1) (Rch.leaf (Rn.seq k22_4 (Rn.seq k22_5 (Rn.region k22_6 (fun call K => r22_2) (Rch.leaf (Rn.block k22_7 (Rn.loop k22_8 ?_)))))))))))
  exact H _ _ _ _ _ _ _ _ _ _ _ _ _ _ _ _ _ _ _ _ _ _ _ _ _ _ _ _ _ _ _ _ _

theorem w22_1 {Ax0 : Option Addr} {lx0 cx0 : Nat} {Ax3 : Option Addr} {lx3 cx3 : Nat} {x4 : Int} {M : Mem} {Q : Value → Mem → Prop} (H :
    ((x4 < ((lx0 : Int)) →
     ∃ a1', idxA Ax0 lx0 2 x4 = some a1' ∧
     ∃ x2', M.intAt .i64 a1'.block a1'.off = some x2' ∧
     ∃ a3', idxA Ax0 lx0 2 x4 = some a3' ∧
     ∃ s4', M.slAt a3'.block (a3'.off + 1) = some s4' ∧
     ∃ a5', idxA Ax0 lx0 2 x4 = some a5' ∧
     ∃ s6', M.slAt a5'.block (a5'.off + 1) = some s6' ∧
     ∃ v7', sliceP Try.prog 22 (.slice s4'.1 (s4'.2.1) (s4'.2.2)) none (some (.int .i64 (if 1048576 < (s6'.2.1 : Int) then 1048576 else (s6'.2.1 : Int)))) none = some v7' ∧
     ∃ s8', asS v7' = some s8' ∧
     Cn Try.prog 23 #[.int .i64 x2', .int .i64 3] { M with floor := M.nb.size } fun v9' N9' =>
      ∃ x10', asI .i64 v9' = some x10' ∧
      ∃ r11', appendP Try.prog #[24, 24] (.slice Ax3 lx3 cx3) (.slice (some ⟨2 * { N9' with floor := M.floor }.nb.size, 0, none⟩) 1 1) ({ N9' with floor := M.floor }.new (.cells #[.int .i64 (IntKind.i64.wrap (1 + x10')), .slice s8'.1 (s8'.2.1) (s8'.2.2)] 44)) = some r11' ∧
      ∃ s12', asS r11'.1 = some s12' ∧
      A22_1 Ax0 lx0 cx0 s12'.1 s12'.2.1 s12'.2.2 (IntKind.i64.wrap (x4 + 1)) r11'.2 Q) ∧
     (¬ (x4 < ((lx0 : Int))) →
     Q (.slice Ax3 lx3 cx3) M))) :
    A22_1 Ax0 lx0 cx0 Ax3 lx3 cx3 x4 M Q := by
  intro g1 g2 g5 g6 g7 g8 g9 g10 g11 g12 g13 g14 g15 g16 g17 g18 g19 g20 g21 g22 g23 g24 g25 g26 g27 g28 g29 g30 g31 g32 g33 g34 g35
  refine Rn.seq k22_9 (Rn.seq k22_10 (Rn.region k22_11 (fun call K => r22_3) (Rch.leaf ?_)))
  refine Rn.cnd (v := decide (x4 < ((lx0 : Int)))) ⟨c22_12, rfl, by kernel_rfl⟩ (fun h => ?_) (fun h => ?_)
  · replace H := H.1 (of_decide_eq_true h)
    refine Rn.skip k22_13 (Rn.seq k22_14 (Rn.block k22_15 (Rn.regionD k22_16 (fun call K => r22_5) (Rch.ex H fun a1' H => Rch.ex H fun x2' H => Rch.ex H fun a3' H => Rch.ex H fun s4' H => Rch.ex H fun a5' H => Rch.ex H fun s6' H => Rch.ex H fun v7' H => Rch.ex H fun s8' H => ?_))))
    refine Rch.callF H fun v9' N9' H => Rch.ex H fun x10' H => Rch.ex H fun r11' H => Rch.ex H fun s12' H => Rch.leaf (Rn.blk (Rn.region k22_17 (fun call K => r22_4) (Rch.leaf (Rn.lp ?_))))
    exact H _ _ _ _ _ _ _ _ _ _ _ _ _ _ _ _ _ _ _ _ _ _ _ _ _ _ _ _ _ _ _ _ _
  · replace H := H.2 (of_decide_eq_false h)
    refine Rn.exit k22_18 rfl (Rn.seq k22_19 (Rn.region k22_20 (fun call K => r22_6) (Rch.leaf ?_)))
    exact Rn.ret k22_21 e22 H


end Go.Zt
