/- The functions' walks: for each function and each loop a rule of what it comes to. Printed by zw.py. -/
import Derived.Test.YtpfhalehdgcbeaaProg
import Derived.Test.YtpfhalehdgcbeaaZgA
set_option linter.unusedVariables false
set_option maxRecDepth 100000
namespace Go.Zt
open Go Go.Sim Go.Proofs

variable {g0 g1 g2 g3 g4 g5 g6 g7 g8 g9 g10 g11 g12 g13 g14 g15 g16 g17 g18 g19 g20 g21 g22 g23 g24 g25 g26 g27 g28 g29 g30 g31 g32 g33 g34 g35 g36 g37 g38 g39 g40 g41 g42 g43 g44 g45 g46 g47 g48 g49 g50 g51 g52 g53 g54 g55 g56 g57 g58 g59 g60 g61 g62 g63 g64 g65 g66 g67 g68 g69 g70 g71 g72 g73 g74 g75 g76 g77 g78 g79 g80 g81 g82 : Value}
/-! ### slices.Clone[[]int,int]: function 44 -/
noncomputable abbrev P44 (p : List Nat) : Code := subC (codeOf Try.f44) p
noncomputable abbrev O44 (p : List Nat) : Array Oper := opsOf (subC (codeOf Try.f44) p)
theorem b44 : Try.prog.funcs[44]? = some Try.f44 ∧ (Orc.tab Try.prog).lookup 44 = none := ⟨by kernel_rfl, by kernel_rfl⟩
theorem d44 : Try.f44.body = some (P44 []) := by kernel_rfl
theorem t44 {Ax0 : Option Addr} {lx0 cx0 : Nat} : #[.slice Ax0 lx0 cx0] ++ Array.replicate (Try.f44.ntmps - (#[.slice Ax0 lx0 cx0] : Array Value).size) undef = #[.slice Ax0 lx0 cx0,undef,undef,undef,undef,undef,undef,undef] := by kernel_rfl
theorem k44_0 : P44 [] = .seq (P44 [0]) (P44 [1]) := by kernel_rfl
theorem k44_1 : P44 [0] = .region 0 (O44 [0]) false := by kernel_rfl
theorem r44_0 {M : Mem} {call : CallM} {K : Array Value → Mem → R} :
    opsK Try.prog (fun _ => call) (O44 [0]) (O44 [0]).toList 0 #[g0,g1,g2,g3,g4,g5,g6,g7] M K = K #[g0,g1,.slice none 0 0,g3,g4,g5,g6,g7] M := by kernel_rfl
theorem k44_2 : P44 [1] = .seq (P44 [1,0]) (P44 [1,1]) := by kernel_rfl
theorem k44_3 : P44 [1,0] = .seq (P44 [1,0,0]) (P44 [1,0,1]) := by kernel_rfl
theorem k44_4 : P44 [1,0,0] = .region 1 (O44 [1,0,0]) false := by kernel_rfl
theorem r44_1 {Ax0 : Option Addr} {lx0 cx0 : Nat} {M : Mem} {call : CallM} {K : Array Value → Mem → R} :
    opsK Try.prog (fun _ => call) (O44 [1,0,0]) (O44 [1,0,0]).toList 0 #[.slice Ax0 lx0 cx0,g1,g2,g3,g4,g5,g6,g7] M K = K #[.slice Ax0 lx0 cx0,g1,g2,.slice Ax0 lx0 cx0,.bool Ax0.isNone,g5,g6,g7] M := by kernel_rfl
theorem c44_5 : P44 [1,0,1] = .cond (.tmp 4) (P44 [1,0,1,0]) (P44 [1,0,1,1]) := by kernel_rfl
theorem k44_6 : P44 [1,0,1,0] = .seq (P44 [1,0,1,0,0]) (P44 [1,0,1,0,1]) := by kernel_rfl
theorem k44_7 : P44 [1,0,1,0,0] = .region 2 (O44 [1,0,1,0,0]) false := by kernel_rfl
theorem r44_2 {M : Mem} {call : CallM} {K : Array Value → Mem → R} :
    opsK Try.prog (fun _ => call) (O44 [1,0,1,0,0]) (O44 [1,0,1,0,0]).toList 0 #[g0,g1,g2,g3,g4,g5,g6,g7] M K = K #[g0,g1,.slice none 0 0,g3,g4,g5,g6,g7] M := by kernel_rfl
theorem k44_8 : P44 [1,0,1,0,1] = .ret := by kernel_rfl
theorem e44 {M : Mem} : finish Try.prog Try.f44 #[g0,g1,g2,g3,g4,g5,g6,g7] M = some (g2, M) := by kernel_rfl
theorem k44_10 : P44 [1,0,1,1] = .skip := by kernel_rfl
theorem k44_11 : P44 [1,1] = .seq (P44 [1,1,0]) (P44 [1,1,1]) := by kernel_rfl
theorem k44_12 : P44 [1,1,0] = .region 3 (O44 [1,1,0]) false := by kernel_rfl
theorem r44_3 {Ax0 : Option Addr} {lx0 cx0 : Nat} {M : Mem} {call : CallM} {K : Array Value → Mem → R} :
    opsK Try.prog (fun _ => call) (O44 [1,1,0]) (O44 [1,1,0]).toList 0 #[.slice Ax0 lx0 cx0,g1,g2,g3,g4,g5,g6,g7] M K = (appendP Try.prog #[22, 22] (.slice (some ⟨2 * M.nb.size, 0, none⟩) 0 0) (.slice Ax0 lx0 cx0) (M.new (.cells #[] 3))).bind fun r_1 => (asS r_1.1).bind fun s_2 => K #[.slice Ax0 lx0 cx0,g1,.slice s_2.1 (s_2.2.1) (s_2.2.2),g3,g4,.slice (some ⟨2 * M.nb.size, 0, none⟩) 0 0,.slice Ax0 lx0 cx0,.slice s_2.1 (s_2.2.1) (s_2.2.2)] r_1.2 := by kernel_rfl
theorem k44_13 : P44 [1,1,1] = .ret := by kernel_rfl
theorem w44_0 {Ax0 : Option Addr} {lx0 cx0 : Nat} {M : Mem} {Q : Value → Mem → Prop} (H :
    ((Ax0.isNone = true →
     Q (.slice none 0 0) M) ∧
     (Ax0.isNone = false →
     ∃ r1', appendP Try.prog #[22, 22] (.slice (some ⟨2 * M.nb.size, 0, none⟩) 0 0) (.slice Ax0 lx0 cx0) (M.new (.cells #[] 3)) = some r1' ∧
     ∃ s2', asS r1'.1 = some s2' ∧
     Q (.slice s2'.1 (s2'.2.1) (s2'.2.2)) r1'.2))) :
    Cn Try.prog 44 #[.slice Ax0 lx0 cx0] M Q := by
  refine Cn.of b44 d44 t44 ?_
  refine Rn.seq k44_0 (Rn.region k44_1 (fun call K => r44_0) (Rch.leaf (Rn.seq k44_2 (Rn.seq k44_3 (Rn.region k44_4 (fun call K => r44_1) (Rch.leaf ?_))))))
  refine Rn.cnd (v := Ax0.isNone) ⟨c44_5, rfl, by kernel_rfl⟩ (fun h => ?_) (fun h => ?_)
  · replace H := H.1 (h)
    refine Rn.seq k44_6 (Rn.region k44_7 (fun call K => r44_2) (Rch.leaf ?_))
    exact Rn.ret k44_8 e44 H
  · replace H := H.2 (h)
    refine Rn.skip k44_10 (Rn.seq k44_11 (Rn.region k44_12 (fun call K => r44_3) (Rch.ex H fun r1' H => Rch.ex H fun s2' H => Rch.leaf ?_)))
    exact Rn.ret k44_13 e44 H


/-! ### (zoetrope/txfm.block).row: function 32 -/
noncomputable abbrev P32 (p : List Nat) : Code := subC (codeOf Try.f32) p
noncomputable abbrev O32 (p : List Nat) : Array Oper := opsOf (subC (codeOf Try.f32) p)
theorem b32 : Try.prog.funcs[32]? = some Try.f32 ∧ (Orc.tab Try.prog).lookup 32 = none := ⟨by kernel_rfl, by kernel_rfl⟩
theorem d32 : Try.f32.body = some (P32 []) := by kernel_rfl
theorem t32 {x0_0 : Int} {Ax0_1 : Option Addr} {lx0_1 cx0_1 : Nat} {x1 : Int} : #[.agg #[.int .i64 x0_0, .slice Ax0_1 lx0_1 cx0_1],.int .i64 x1] ++ Array.replicate (Try.f32.ntmps - (#[.agg #[.int .i64 x0_0, .slice Ax0_1 lx0_1 cx0_1],.int .i64 x1] : Array Value).size) undef = #[.agg #[.int .i64 x0_0, .slice Ax0_1 lx0_1 cx0_1],.int .i64 x1,undef,undef,undef,undef,undef,undef,undef,undef] := by kernel_rfl
theorem k32_0 : P32 [] = .seq (P32 [0]) (P32 [1]) := by kernel_rfl
theorem k32_1 : P32 [0] = .region 0 (O32 [0]) false := by kernel_rfl
theorem r32_0 {x0_0 : Int} {Ax0_1 : Option Addr} {lx0_1 cx0_1 : Nat} {M : Mem} {call : CallM} {K : Array Value → Mem → R} :
    opsK Try.prog (fun _ => call) (O32 [0]) (O32 [0]).toList 0 #[.agg #[.int .i64 x0_0, .slice Ax0_1 lx0_1 cx0_1],g1,g2,g3,g4,g5,g6,g7,g8,g9] M K = K #[.agg #[.int .i64 x0_0, .slice Ax0_1 lx0_1 cx0_1],g1,.pointer (some ⟨2 * M.nb.size, 0, none⟩),g3,.int .i64 0,.int .i64 0,g6,g7,g8,g9] (M.new (.cells #[.int .i64 x0_0, .slice Ax0_1 lx0_1 cx0_1] 43)) := by kernel_rfl
theorem k32_2 : P32 [1] = .seq (P32 [1,0]) (P32 [1,1]) := by kernel_rfl
theorem k32_3 : P32 [1,0] = .region 1 (O32 [1,0]) false := by kernel_rfl
theorem r32_1 {x1 : Int} {x2 : Option Addr} {M : Mem} {call : CallM} {K : Array Value → Mem → R} :
    opsK Try.prog (fun _ => call) (O32 [1,0]) (O32 [1,0]).toList 0 #[g0,.int .i64 x1,.pointer x2,g3,g4,g5,g6,g7,g8,g9] M K = (x2).bind fun a_1 => (M.intAt .i64 a_1.block a_1.off).bind fun x_2 => K #[g0,.int .i64 x1,.pointer x2,g3,.int .i64 (IntKind.i64.wrap (x1 * x_2)),.int .i64 1,.int .i64 x1,.pointer (some ⟨a_1.block, a_1.off, none⟩),.int .i64 x_2,.int .i64 (IntKind.i64.wrap (x1 * x_2))] M := by kernel_rfl
theorem k32_4 : P32 [1,1] = .ret := by kernel_rfl
theorem e32 {M : Mem} : finish Try.prog Try.f32 #[g0,g1,g2,g3,g4,g5,g6,g7,g8,g9] M = some (.tuple #[g4, g5], M) := by kernel_rfl
theorem w32_0 {x0_0 : Int} {Ax0_1 : Option Addr} {lx0_1 cx0_1 : Nat} {x1 : Int} {M : Mem} {Q : Value → Mem → Prop} (H :
    ∃ x1', (M.new (.cells #[.int .i64 x0_0, .slice Ax0_1 lx0_1 cx0_1] 43)).intAt .i64 (2 * M.nb.size) 0 = some x1' ∧
    Q (.tuple #[.int .i64 (IntKind.i64.wrap (x1 * x1')), .int .i64 1]) (M.new (.cells #[.int .i64 x0_0, .slice Ax0_1 lx0_1 cx0_1] 43))) :
    Cn Try.prog 32 #[.agg #[.int .i64 x0_0, .slice Ax0_1 lx0_1 cx0_1], .int .i64 x1] M Q := by
  refine Cn.of b32 d32 t32 ?_
  refine Rn.seq k32_0 (Rn.region k32_1 (fun call K => r32_0) (Rch.leaf (Rn.seq k32_2 (Rn.region k32_3 (fun call K => r32_1) (Rch.bind (x := ⟨2 * M.nb.size, 0, none⟩) rfl (Rch.ex H fun x1' H => Rch.leaf ?_))))))
  exact Rn.ret k32_4 e32 H


/-! ### (zoetrope/txfm.block).column: function 36 -/
noncomputable abbrev P36 (p : List Nat) : Code := subC (codeOf Try.f36) p
noncomputable abbrev O36 (p : List Nat) : Array Oper := opsOf (subC (codeOf Try.f36) p)
theorem b36 : Try.prog.funcs[36]? = some Try.f36 ∧ (Orc.tab Try.prog).lookup 36 = none := ⟨by kernel_rfl, by kernel_rfl⟩
theorem d36 : Try.f36.body = some (P36 []) := by kernel_rfl
theorem t36 {x0_0 : Int} {Ax0_1 : Option Addr} {lx0_1 cx0_1 : Nat} {x1 : Int} : #[.agg #[.int .i64 x0_0, .slice Ax0_1 lx0_1 cx0_1],.int .i64 x1] ++ Array.replicate (Try.f36.ntmps - (#[.agg #[.int .i64 x0_0, .slice Ax0_1 lx0_1 cx0_1],.int .i64 x1] : Array Value).size) undef = #[.agg #[.int .i64 x0_0, .slice Ax0_1 lx0_1 cx0_1],.int .i64 x1,undef,undef,undef,undef,undef,undef,undef] := by kernel_rfl
theorem k36_0 : P36 [] = .seq (P36 [0]) (P36 [1]) := by kernel_rfl
theorem k36_1 : P36 [0] = .region 0 (O36 [0]) false := by kernel_rfl
theorem r36_0 {x0_0 : Int} {Ax0_1 : Option Addr} {lx0_1 cx0_1 : Nat} {M : Mem} {call : CallM} {K : Array Value → Mem → R} :
    opsK Try.prog (fun _ => call) (O36 [0]) (O36 [0]).toList 0 #[.agg #[.int .i64 x0_0, .slice Ax0_1 lx0_1 cx0_1],g1,g2,g3,g4,g5,g6,g7,g8] M K = K #[.agg #[.int .i64 x0_0, .slice Ax0_1 lx0_1 cx0_1],g1,.pointer (some ⟨2 * M.nb.size, 0, none⟩),g3,.int .i64 0,.int .i64 0,g6,g7,g8] (M.new (.cells #[.int .i64 x0_0, .slice Ax0_1 lx0_1 cx0_1] 43)) := by kernel_rfl
theorem k36_2 : P36 [1] = .seq (P36 [1,0]) (P36 [1,1]) := by kernel_rfl
theorem k36_3 : P36 [1,0] = .region 1 (O36 [1,0]) true ∧ drawOk (O36 [1,0]) = true := ⟨by kernel_rfl, by kernel_rfl⟩
theorem r36_1 {x1 : Int} {x2 : Option Addr} {M : Mem} {call : CallM} {K : Array Value → Mem → R} :
    opsI Try.prog (callAt call (O36 [1,0])) (O36 [1,0]) (ordOf (O36 [1,0])) [] #[g0,.int .i64 x1,.pointer x2,g3,g4,g5,g6,g7,g8] M K = (x2).bind fun a_1 => (M.intAt .i64 a_1.block a_1.off).bind fun x_2 => K #[g0,.int .i64 x1,.pointer x2,g3,.int .i64 x1,.int .i64 x_2,.int .i64 x1,.pointer (some ⟨a_1.block, a_1.off, none⟩),.int .i64 x_2] M := by kernel_rfl
theorem k36_4 : P36 [1,1] = .ret := by kernel_rfl
theorem e36 {M : Mem} : finish Try.prog Try.f36 #[g0,g1,g2,g3,g4,g5,g6,g7,g8] M = some (.tuple #[g4, g5], M) := by kernel_rfl
theorem w36_0 {x0_0 : Int} {Ax0_1 : Option Addr} {lx0_1 cx0_1 : Nat} {x1 : Int} {M : Mem} {Q : Value → Mem → Prop} (H :
    ∃ x1', (M.new (.cells #[.int .i64 x0_0, .slice Ax0_1 lx0_1 cx0_1] 43)).intAt .i64 (2 * M.nb.size) 0 = some x1' ∧
    Q (.tuple #[.int .i64 x1, .int .i64 (x1')]) (M.new (.cells #[.int .i64 x0_0, .slice Ax0_1 lx0_1 cx0_1] 43))) :
    Cn Try.prog 36 #[.agg #[.int .i64 x0_0, .slice Ax0_1 lx0_1 cx0_1], .int .i64 x1] M Q := by
  refine Cn.of b36 d36 t36 ?_
  refine Rn.seq k36_0 (Rn.region k36_1 (fun call K => r36_0) (Rch.leaf (Rn.seq k36_2 (Rn.regionD k36_3 (fun call K => r36_1) (Rch.bind (x := ⟨2 * M.nb.size, 0, none⟩) rfl (Rch.ex H fun x1' H => Rch.leaf ?_))))))
  exact Rn.ret k36_4 e36 H


/-! ### (zoetrope/txfm.block).turn: function 31 -/
noncomputable abbrev P31 (p : List Nat) : Code := subC (codeOf Try.f31) p
noncomputable abbrev O31 (p : List Nat) : Array Oper := opsOf (subC (codeOf Try.f31) p)
theorem b31 : Try.prog.funcs[31]? = some Try.f31 ∧ (Orc.tab Try.prog).lookup 31 = none := ⟨by kernel_rfl, by kernel_rfl⟩
theorem d31 : Try.f31.body = some (P31 []) := by kernel_rfl
theorem t31 {x0_0 : Int} {Ax0_1 : Option Addr} {lx0_1 cx0_1 : Nat} {x1 : Value} {x2 x3 : Int} {x4 x5 : Value} : #[.agg #[.int .i64 x0_0, .slice Ax0_1 lx0_1 cx0_1],x1,.int .i64 x2,.int .i64 x3,x4,x5] ++ Array.replicate (Try.f31.ntmps - (#[.agg #[.int .i64 x0_0, .slice Ax0_1 lx0_1 cx0_1],x1,.int .i64 x2,.int .i64 x3,x4,x5] : Array Value).size) undef = #[.agg #[.int .i64 x0_0, .slice Ax0_1 lx0_1 cx0_1],x1,.int .i64 x2,.int .i64 x3,x4,x5,undef,undef,undef,undef,undef,undef,undef,undef,undef,undef,undef,undef,undef,undef,undef,undef,undef,undef,undef,undef,undef,undef,undef,undef,undef,undef,undef,undef,undef,undef,undef,undef,undef,undef,undef,undef,undef,undef,undef,undef,undef,undef,undef,undef,undef,undef,undef,undef,undef,undef,undef,undef,undef,undef,undef,undef,undef,undef,undef,undef,undef,undef,undef,undef,undef,undef,undef,undef,undef,undef,undef,undef,undef,undef,undef,undef,undef] := by kernel_rfl
theorem k31_0 : P31 [] = .seq (P31 [0]) (P31 [1]) := by kernel_rfl
theorem k31_1 : P31 [0] = .region 0 (O31 [0]) false := by kernel_rfl
theorem r31_0 {x0_0 : Int} {Ax0_1 : Option Addr} {lx0_1 cx0_1 : Nat} {M : Mem} {call : CallM} {K : Array Value → Mem → R} :
    opsK Try.prog (fun _ => call) (O31 [0]) (O31 [0]).toList 0 #[.agg #[.int .i64 x0_0, .slice Ax0_1 lx0_1 cx0_1],g1,g2,g3,g4,g5,g6,g7,g8,g9,g10,g11,g12,g13,g14,g15,g16,g17,g18,g19,g20,g21,g22,g23,g24,g25,g26,g27,g28,g29,g30,g31,g32,g33,g34,g35,g36,g37,g38,g39,g40,g41,g42,g43,g44,g45,g46,g47,g48,g49,g50,g51,g52,g53,g54,g55,g56,g57,g58,g59,g60,g61,g62,g63,g64,g65,g66,g67,g68,g69,g70,g71,g72,g73,g74,g75,g76,g77,g78,g79,g80,g81,g82] M K = K #[.agg #[.int .i64 x0_0, .slice Ax0_1 lx0_1 cx0_1],g1,g2,g3,g4,g5,.pointer (some ⟨2 * M.nb.size, 0, none⟩),g7,g8,g9,g10,g11,.int .i64 0,g13,g14,g15,g16,g17,g18,g19,g20,g21,g22,g23,g24,g25,g26,g27,g28,g29,g30,g31,g32,g33,g34,g35,g36,g37,g38,g39,g40,g41,g42,g43,g44,g45,g46,g47,g48,g49,g50,g51,g52,g53,g54,g55,g56,g57,g58,g59,g60,g61,g62,g63,g64,g65,g66,g67,g68,g69,g70,g71,g72,g73,g74,g75,g76,g77,g78,g79,g80,g81,g82] (M.new (.cells #[.int .i64 x0_0, .slice Ax0_1 lx0_1 cx0_1] 43)) := by kernel_rfl
theorem k31_2 : P31 [1] = .seq (P31 [1,0]) (P31 [1,1]) := by kernel_rfl
theorem k31_3 : P31 [1,0] = .region 1 (O31 [1,0]) false := by kernel_rfl
theorem r31_1 {x6 : Option Addr} {M : Mem} {call : CallM} {K : Array Value → Mem → R} :
    opsK Try.prog (fun _ => call) (O31 [1,0]) (O31 [1,0]).toList 0 #[g0,g1,g2,g3,g4,g5,.pointer x6,g7,g8,g9,g10,g11,g12,g13,g14,g15,g16,g17,g18,g19,g20,g21,g22,g23,g24,g25,g26,g27,g28,g29,g30,g31,g32,g33,g34,g35,g36,g37,g38,g39,g40,g41,g42,g43,g44,g45,g46,g47,g48,g49,g50,g51,g52,g53,g54,g55,g56,g57,g58,g59,g60,g61,g62,g63,g64,g65,g66,g67,g68,g69,g70,g71,g72,g73,g74,g75,g76,g77,g78,g79,g80,g81,g82] M K = (x6).bind fun a_1 => (M.intAt .i64 a_1.block a_1.off).bind fun x_2 => (makeP Try.prog 22 (.int .i64 x_2) (.int .i64 x_2) M).bind fun r_3 => (asS r_3.1).bind fun s_4 => K #[g0,g1,g2,g3,g4,g5,.pointer x6,g7,g8,g9,g10,g11,g12,.slice s_4.1 (s_4.2.1) (s_4.2.2),g14,g15,g16,g17,g18,g19,g20,g21,.pointer (some ⟨a_1.block, a_1.off, none⟩),.int .i64 x_2,.slice s_4.1 (s_4.2.1) (s_4.2.2),g25,g26,g27,g28,g29,g30,g31,g32,g33,g34,g35,g36,g37,g38,g39,g40,g41,g42,g43,g44,g45,g46,g47,g48,g49,g50,g51,g52,g53,g54,g55,g56,g57,g58,g59,g60,g61,g62,g63,g64,g65,g66,g67,g68,g69,g70,g71,g72,g73,g74,g75,g76,g77,g78,g79,g80,g81,g82] r_3.2 := by kernel_rfl
theorem k31_4 : P31 [1,1] = .seq (P31 [1,1,0]) (P31 [1,1,1]) := by kernel_rfl
theorem k31_5 : P31 [1,1,0] = .seq (P31 [1,1,0,0]) (P31 [1,1,0,1]) := by kernel_rfl
theorem k31_6 : P31 [1,1,0,0] = .region 2 (O31 [1,1,0,0]) false := by kernel_rfl
theorem r31_2 {x2 : Int} {M : Mem} {call : CallM} {K : Array Value → Mem → R} :
    opsK Try.prog (fun _ => call) (O31 [1,1,0,0]) (O31 [1,1,0,0]).toList 0 #[g0,g1,.int .i64 x2,g3,g4,g5,g6,g7,g8,g9,g10,g11,g12,g13,g14,g15,g16,g17,g18,g19,g20,g21,g22,g23,g24,g25,g26,g27,g28,g29,g30,g31,g32,g33,g34,g35,g36,g37,g38,g39,g40,g41,g42,g43,g44,g45,g46,g47,g48,g49,g50,g51,g52,g53,g54,g55,g56,g57,g58,g59,g60,g61,g62,g63,g64,g65,g66,g67,g68,g69,g70,g71,g72,g73,g74,g75,g76,g77,g78,g79,g80,g81,g82] M K = K #[g0,g1,.int .i64 x2,g3,g4,g5,g6,g7,g8,g9,g10,g11,g12,g13,g14,g15,g16,g17,g18,g19,g20,g21,g22,g23,g24,.int .i64 x2,.int .i64 0,g27,g28,g29,g30,g31,g32,g33,g34,g35,g36,g37,g38,g39,g40,g41,g42,g43,g44,g45,g46,g47,g48,g49,g50,g51,g52,g53,g54,g55,g56,g57,g58,g59,g60,g61,g62,g63,g64,g65,g66,g67,g68,g69,g70,g71,g72,g73,g74,g75,g76,g77,g78,g79,g80,g81,g82] M := by kernel_rfl
theorem k31_7 : P31 [1,1,0,1] = .block 0 (P31 [1,1,0,1,0]) := by kernel_rfl
theorem k31_8 : P31 [1,1,0,1,0] = .loop (P31 [1,1,0,1,0,0]) := by kernel_rfl
theorem k31_9 : P31 [1,1,0,1,0,0] = .seq (P31 [1,1,0,1,0,0,0]) (P31 [1,1,0,1,0,0,1]) := by kernel_rfl
theorem k31_10 : P31 [1,1,0,1,0,0,0] = .region 3 (O31 [1,1,0,1,0,0,0]) false := by kernel_rfl
theorem r31_3 {x25 x26 : Int} {M : Mem} {call : CallM} {K : Array Value → Mem → R} :
    opsK Try.prog (fun _ => call) (O31 [1,1,0,1,0,0,0]) (O31 [1,1,0,1,0,0,0]).toList 0 #[g0,g1,g2,g3,g4,g5,g6,g7,g8,g9,g10,g11,g12,g13,g14,g15,g16,g17,g18,g19,g20,g21,g22,g23,g24,.int .i64 x25,.int .i64 x26,g27,g28,g29,g30,g31,g32,g33,g34,g35,g36,g37,g38,g39,g40,g41,g42,g43,g44,g45,g46,g47,g48,g49,g50,g51,g52,g53,g54,g55,g56,g57,g58,g59,g60,g61,g62,g63,g64,g65,g66,g67,g68,g69,g70,g71,g72,g73,g74,g75,g76,g77,g78,g79,g80,g81,g82] M K = K #[g0,g1,g2,g3,g4,g5,g6,g7,g8,g9,g10,g11,g12,g13,g14,g15,g16,g17,g18,g19,g20,g21,g22,g23,g24,.int .i64 x25,.int .i64 x26,.bool (decide (x26 < x25)),g28,g29,g30,g31,g32,g33,g34,g35,g36,g37,g38,g39,g40,g41,g42,g43,g44,g45,g46,g47,g48,g49,g50,g51,g52,g53,g54,g55,g56,g57,g58,g59,g60,g61,g62,g63,g64,g65,g66,g67,g68,g69,g70,g71,g72,g73,g74,g75,g76,g77,g78,g79,g80,g81,g82] M := by kernel_rfl
theorem k31_11 : P31 [1,1,0,1,0,0,1] = .seq (P31 [1,1,0,1,0,0,1,0]) (P31 [1,1,0,1,0,0,1,1]) := by kernel_rfl
theorem c31_12 : P31 [1,1,0,1,0,0,1,0] = .cond (.tmp 27) (P31 [1,1,0,1,0,0,1,0,0]) (P31 [1,1,0,1,0,0,1,0,1]) := by kernel_rfl
theorem k31_13 : P31 [1,1,0,1,0,0,1,0,0] = .skip := by kernel_rfl
theorem k31_14 : P31 [1,1,0,1,0,0,1,1] = .seq (P31 [1,1,0,1,0,0,1,1,0]) (P31 [1,1,0,1,0,0,1,1,1]) := by kernel_rfl
theorem k31_15 : P31 [1,1,0,1,0,0,1,1,0] = .block 1 (P31 [1,1,0,1,0,0,1,1,0,0]) := by kernel_rfl
theorem k31_16 : P31 [1,1,0,1,0,0,1,1,0,0] = .seq (P31 [1,1,0,1,0,0,1,1,0,0,0]) (P31 [1,1,0,1,0,0,1,1,0,0,1]) := by kernel_rfl
theorem k31_17 : P31 [1,1,0,1,0,0,1,1,0,0,0] = .region 4 (O31 [1,1,0,1,0,0,1,1,0,0,0]) false := by kernel_rfl
theorem r31_4 {x26 : Int} {M : Mem} {call : CallM} {K : Array Value → Mem → R} :
    opsK Try.prog (fun _ => call) (O31 [1,1,0,1,0,0,1,1,0,0,0]) (O31 [1,1,0,1,0,0,1,1,0,0,0]).toList 0 #[g0,g1,g2,g3,g4,g5,g6,g7,g8,g9,g10,g11,g12,g13,g14,g15,g16,g17,g18,g19,g20,g21,g22,g23,g24,g25,.int .i64 x26,g27,g28,g29,g30,g31,g32,g33,g34,g35,g36,g37,g38,g39,g40,g41,g42,g43,g44,g45,g46,g47,g48,g49,g50,g51,g52,g53,g54,g55,g56,g57,g58,g59,g60,g61,g62,g63,g64,g65,g66,g67,g68,g69,g70,g71,g72,g73,g74,g75,g76,g77,g78,g79,g80,g81,g82] M K = K #[g0,g1,g2,g3,g4,g5,g6,g7,g8,g9,g10,g11,g12,g13,.int .i64 x26,g15,g16,g17,g18,g19,g20,g21,g22,g23,g24,g25,.int .i64 x26,g27,.int .i64 x26,g29,g30,g31,g32,g33,g34,g35,g36,g37,g38,g39,g40,g41,g42,g43,g44,g45,g46,g47,g48,g49,g50,g51,g52,g53,g54,g55,g56,g57,g58,g59,g60,g61,g62,g63,g64,g65,g66,g67,g68,g69,g70,g71,g72,g73,g74,g75,g76,g77,g78,g79,g80,g81,g82] M := by kernel_rfl
theorem k31_18 : P31 [1,1,0,1,0,0,1,1,0,0,1] = .seq (P31 [1,1,0,1,0,0,1,1,0,0,1,0]) (P31 [1,1,0,1,0,0,1,1,0,0,1,1]) := by kernel_rfl
theorem k31_19 : P31 [1,1,0,1,0,0,1,1,0,0,1,0] = .region 5 (O31 [1,1,0,1,0,0,1,1,0,0,1,0]) false := by kernel_rfl
theorem r31_5 {x1 : Value} {x14 : Int} {M : Mem} {call : CallM} {K : Array Value → Mem → R} :
    opsK Try.prog (fun _ => call) (O31 [1,1,0,1,0,0,1,1,0,0,1,0]) (O31 [1,1,0,1,0,0,1,1,0,0,1,0]).toList 0 #[g0,x1,g2,g3,g4,g5,g6,g7,g8,g9,g10,g11,g12,g13,.int .i64 x14,g15,g16,g17,g18,g19,g20,g21,g22,g23,g24,g25,g26,g27,g28,g29,g30,g31,g32,g33,g34,g35,g36,g37,g38,g39,g40,g41,g42,g43,g44,g45,g46,g47,g48,g49,g50,g51,g52,g53,g54,g55,g56,g57,g58,g59,g60,g61,g62,g63,g64,g65,g66,g67,g68,g69,g70,g71,g72,g73,g74,g75,g76,g77,g78,g79,g80,g81,g82] M K = (callVal Try.prog x1 #[.int .i64 x14]).bind fun q_2 => (call q_2.1 q_2.2 M).bind fun r_1 => (asU 2 r_1.1).bind fun cs_3 => (asI .i64 (cs_3.getD 0 undef)).bind fun x_4 => (asI .i64 (cs_3.getD 1 undef)).bind fun x_5 => K #[g0,x1,g2,g3,g4,g5,g6,g7,g8,g9,g10,g11,g12,g13,.int .i64 x14,.int .i64 x_4,.int .i64 x_5,g17,g18,g19,g20,g21,g22,g23,g24,g25,g26,g27,g28,.tuple #[.int .i64 x_4, .int .i64 x_5],x1,.int .i64 x14,.tuple #[.int .i64 x_4, .int .i64 x_5],.int .i64 x_4,.int .i64 x_5,g35,g36,g37,g38,g39,g40,g41,g42,g43,g44,g45,g46,g47,g48,g49,g50,g51,g52,g53,g54,g55,g56,g57,g58,g59,g60,g61,g62,g63,g64,g65,g66,g67,g68,g69,g70,g71,g72,g73,g74,g75,g76,g77,g78,g79,g80,g81,g82] r_1.2 := by kernel_rfl
theorem k31_20 : P31 [1,1,0,1,0,0,1,1,0,0,1,1] = .seq (P31 [1,1,0,1,0,0,1,1,0,0,1,1,0]) (P31 [1,1,0,1,0,0,1,1,0,0,1,1,1]) := by kernel_rfl
theorem k31_21 : P31 [1,1,0,1,0,0,1,1,0,0,1,1,0] = .seq (P31 [1,1,0,1,0,0,1,1,0,0,1,1,0,0]) (P31 [1,1,0,1,0,0,1,1,0,0,1,1,0,1]) := by kernel_rfl
theorem k31_22 : P31 [1,1,0,1,0,0,1,1,0,0,1,1,0,0] = .region 6 (O31 [1,1,0,1,0,0,1,1,0,0,1,1,0,0]) false := by kernel_rfl
theorem r31_6 {Ax13 : Option Addr} {lx13 cx13 : Nat} {M : Mem} {call : CallM} {K : Array Value → Mem → R} :
    opsK Try.prog (fun _ => call) (O31 [1,1,0,1,0,0,1,1,0,0,1,1,0,0]) (O31 [1,1,0,1,0,0,1,1,0,0,1,1,0,0]).toList 0 #[g0,g1,g2,g3,g4,g5,g6,g7,g8,g9,g10,g11,g12,.slice Ax13 lx13 cx13,g14,g15,g16,g17,g18,g19,g20,g21,g22,g23,g24,g25,g26,g27,g28,g29,g30,g31,g32,g33,g34,g35,g36,g37,g38,g39,g40,g41,g42,g43,g44,g45,g46,g47,g48,g49,g50,g51,g52,g53,g54,g55,g56,g57,g58,g59,g60,g61,g62,g63,g64,g65,g66,g67,g68,g69,g70,g71,g72,g73,g74,g75,g76,g77,g78,g79,g80,g81,g82] M K = K #[g0,g1,g2,g3,g4,g5,g6,g7,g8,g9,g10,g11,g12,.slice Ax13 lx13 cx13,g14,g15,g16,g17,g18,g19,g20,g21,g22,g23,g24,g25,g26,g27,g28,g29,g30,g31,g32,g33,g34,.slice Ax13 lx13 cx13,.int .i64 ((lx13 : Int)),.int .i64 0,g38,g39,g40,g41,g42,g43,g44,g45,g46,g47,g48,g49,g50,g51,g52,g53,g54,g55,g56,g57,g58,g59,g60,g61,g62,g63,g64,g65,g66,g67,g68,g69,g70,g71,g72,g73,g74,g75,g76,g77,g78,g79,g80,g81,g82] M := by kernel_rfl
theorem k31_23 : P31 [1,1,0,1,0,0,1,1,0,0,1,1,0,1] = .block 2 (P31 [1,1,0,1,0,0,1,1,0,0,1,1,0,1,0]) := by kernel_rfl
theorem k31_24 : P31 [1,1,0,1,0,0,1,1,0,0,1,1,0,1,0] = .loop (P31 [1,1,0,1,0,0,1,1,0,0,1,1,0,1,0,0]) := by kernel_rfl
theorem k31_25 : P31 [1,1,0,1,0,0,1,0,1] = .exit 0 := by kernel_rfl
theorem k31_26 : P31 [1,1,1] = .seq (P31 [1,1,1,0]) (P31 [1,1,1,1]) := by kernel_rfl
theorem k31_27 : P31 [1,1,1,0] = .region 20 (O31 [1,1,1,0]) false := by kernel_rfl
theorem r31_20 {M : Mem} {call : CallM} {K : Array Value → Mem → R} :
    opsK Try.prog (fun _ => call) (O31 [1,1,1,0]) (O31 [1,1,1,0]).toList 0 #[g0,g1,g2,g3,g4,g5,g6,g7,g8,g9,g10,g11,g12,g13,g14,g15,g16,g17,g18,g19,g20,g21,g22,g23,g24,g25,g26,g27,g28,g29,g30,g31,g32,g33,g34,g35,g36,g37,g38,g39,g40,g41,g42,g43,g44,g45,g46,g47,g48,g49,g50,g51,g52,g53,g54,g55,g56,g57,g58,g59,g60,g61,g62,g63,g64,g65,g66,g67,g68,g69,g70,g71,g72,g73,g74,g75,g76,g77,g78,g79,g80,g81,g82] M K = K #[g0,g1,g2,g3,g4,g5,g6,g7,g8,g9,g10,g11,.int .i64 0,g13,g14,g15,g16,g17,g18,g19,g20,g21,g22,g23,g24,g25,g26,g27,g28,g29,g30,g31,g32,g33,g34,g35,g36,g37,g38,g39,g40,g41,g42,g43,g44,g45,g46,g47,g48,g49,g50,g51,g52,g53,g54,g55,g56,g57,g58,g59,g60,g61,g62,g63,g64,g65,g66,g67,g68,g69,g70,g71,g72,g73,g74,g75,g76,g77,g78,g79,g80,g81,g82] M := by kernel_rfl
theorem k31_28 : P31 [1,1,1,1] = .ret := by kernel_rfl
theorem e31 {M : Mem} : finish Try.prog Try.f31 #[g0,g1,g2,g3,g4,g5,g6,g7,g8,g9,g10,g11,g12,g13,g14,g15,g16,g17,g18,g19,g20,g21,g22,g23,g24,g25,g26,g27,g28,g29,g30,g31,g32,g33,g34,g35,g36,g37,g38,g39,g40,g41,g42,g43,g44,g45,g46,g47,g48,g49,g50,g51,g52,g53,g54,g55,g56,g57,g58,g59,g60,g61,g62,g63,g64,g65,g66,g67,g68,g69,g70,g71,g72,g73,g74,g75,g76,g77,g78,g79,g80,g81,g82] M = some (g12, M) := by kernel_rfl
theorem k31_30 : P31 [1,1,0,1,0,0,1,1,0,0,1,1,0,1,0,0] = .seq (P31 [1,1,0,1,0,0,1,1,0,0,1,1,0,1,0,0,0]) (P31 [1,1,0,1,0,0,1,1,0,0,1,1,0,1,0,0,1]) := by kernel_rfl
theorem k31_31 : P31 [1,1,0,1,0,0,1,1,0,0,1,1,0,1,0,0,0] = .region 7 (O31 [1,1,0,1,0,0,1,1,0,0,1,1,0,1,0,0,0]) false := by kernel_rfl
theorem r31_7 {x36 x37 : Int} {M : Mem} {call : CallM} {K : Array Value → Mem → R} :
    opsK Try.prog (fun _ => call) (O31 [1,1,0,1,0,0,1,1,0,0,1,1,0,1,0,0,0]) (O31 [1,1,0,1,0,0,1,1,0,0,1,1,0,1,0,0,0]).toList 0 #[g0,g1,g2,g3,g4,g5,g6,g7,g8,g9,g10,g11,g12,g13,g14,g15,g16,g17,g18,g19,g20,g21,g22,g23,g24,g25,g26,g27,g28,g29,g30,g31,g32,g33,g34,g35,.int .i64 x36,.int .i64 x37,g38,g39,g40,g41,g42,g43,g44,g45,g46,g47,g48,g49,g50,g51,g52,g53,g54,g55,g56,g57,g58,g59,g60,g61,g62,g63,g64,g65,g66,g67,g68,g69,g70,g71,g72,g73,g74,g75,g76,g77,g78,g79,g80,g81,g82] M K = K #[g0,g1,g2,g3,g4,g5,g6,g7,g8,g9,g10,g11,g12,g13,g14,g15,g16,g17,g18,g19,g20,g21,g22,g23,g24,g25,g26,g27,g28,g29,g30,g31,g32,g33,g34,g35,.int .i64 x36,.int .i64 x37,.bool (decide (x37 < x36)),g39,g40,g41,g42,g43,g44,g45,g46,g47,g48,g49,g50,g51,g52,g53,g54,g55,g56,g57,g58,g59,g60,g61,g62,g63,g64,g65,g66,g67,g68,g69,g70,g71,g72,g73,g74,g75,g76,g77,g78,g79,g80,g81,g82] M := by kernel_rfl
theorem k31_32 : P31 [1,1,0,1,0,0,1,1,0,0,1,1,0,1,0,0,1] = .seq (P31 [1,1,0,1,0,0,1,1,0,0,1,1,0,1,0,0,1,0]) (P31 [1,1,0,1,0,0,1,1,0,0,1,1,0,1,0,0,1,1]) := by kernel_rfl
theorem c31_33 : P31 [1,1,0,1,0,0,1,1,0,0,1,1,0,1,0,0,1,0] = .cond (.tmp 38) (P31 [1,1,0,1,0,0,1,1,0,0,1,1,0,1,0,0,1,0,0]) (P31 [1,1,0,1,0,0,1,1,0,0,1,1,0,1,0,0,1,0,1]) := by kernel_rfl
theorem k31_34 : P31 [1,1,0,1,0,0,1,1,0,0,1,1,0,1,0,0,1,0,0] = .skip := by kernel_rfl
theorem k31_35 : P31 [1,1,0,1,0,0,1,1,0,0,1,1,0,1,0,0,1,1] = .seq (P31 [1,1,0,1,0,0,1,1,0,0,1,1,0,1,0,0,1,1,0]) (P31 [1,1,0,1,0,0,1,1,0,0,1,1,0,1,0,0,1,1,1]) := by kernel_rfl
theorem k31_36 : P31 [1,1,0,1,0,0,1,1,0,0,1,1,0,1,0,0,1,1,0] = .block 3 (P31 [1,1,0,1,0,0,1,1,0,0,1,1,0,1,0,0,1,1,0,0]) := by kernel_rfl
theorem k31_37 : P31 [1,1,0,1,0,0,1,1,0,0,1,1,0,1,0,0,1,1,0,0] = .seq (P31 [1,1,0,1,0,0,1,1,0,0,1,1,0,1,0,0,1,1,0,0,0]) (P31 [1,1,0,1,0,0,1,1,0,0,1,1,0,1,0,0,1,1,0,0,1]) := by kernel_rfl
theorem k31_38 : P31 [1,1,0,1,0,0,1,1,0,0,1,1,0,1,0,0,1,1,0,0,0] = .region 8 (O31 [1,1,0,1,0,0,1,1,0,0,1,1,0,1,0,0,1,1,0,0,0]) false := by kernel_rfl
theorem r31_8 {x37 : Int} {M : Mem} {call : CallM} {K : Array Value → Mem → R} :
    opsK Try.prog (fun _ => call) (O31 [1,1,0,1,0,0,1,1,0,0,1,1,0,1,0,0,1,1,0,0,0]) (O31 [1,1,0,1,0,0,1,1,0,0,1,1,0,1,0,0,1,1,0,0,0]).toList 0 #[g0,g1,g2,g3,g4,g5,g6,g7,g8,g9,g10,g11,g12,g13,g14,g15,g16,g17,g18,g19,g20,g21,g22,g23,g24,g25,g26,g27,g28,g29,g30,g31,g32,g33,g34,g35,g36,.int .i64 x37,g38,g39,g40,g41,g42,g43,g44,g45,g46,g47,g48,g49,g50,g51,g52,g53,g54,g55,g56,g57,g58,g59,g60,g61,g62,g63,g64,g65,g66,g67,g68,g69,g70,g71,g72,g73,g74,g75,g76,g77,g78,g79,g80,g81,g82] M K = K #[g0,g1,g2,g3,g4,g5,g6,g7,g8,g9,g10,g11,g12,g13,g14,g15,g16,.int .i64 x37,g18,g19,g20,g21,g22,g23,g24,g25,g26,g27,g28,g29,g30,g31,g32,g33,g34,g35,g36,.int .i64 x37,g38,.int .i64 x37,g40,g41,g42,g43,g44,g45,g46,g47,g48,g49,g50,g51,g52,g53,g54,g55,g56,g57,g58,g59,g60,g61,g62,g63,g64,g65,g66,g67,g68,g69,g70,g71,g72,g73,g74,g75,g76,g77,g78,g79,g80,g81,g82] M := by kernel_rfl
theorem k31_39 : P31 [1,1,0,1,0,0,1,1,0,0,1,1,0,1,0,0,1,1,0,0,1] = .region 9 (O31 [1,1,0,1,0,0,1,1,0,0,1,1,0,1,0,0,1,1,0,0,1]) false := by kernel_rfl
theorem r31_9 {x6 Ax13 : Option Addr} {lx13 cx13 : Nat} {x15 x16 x17 : Int} {M : Mem} {call : CallM} {K : Array Value → Mem → R} :
    opsK Try.prog (fun _ => call) (O31 [1,1,0,1,0,0,1,1,0,0,1,1,0,1,0,0,1,1,0,0,1]) (O31 [1,1,0,1,0,0,1,1,0,0,1,1,0,1,0,0,1,1,0,0,1]).toList 0 #[g0,g1,g2,g3,g4,g5,.pointer x6,g7,g8,g9,g10,g11,g12,.slice Ax13 lx13 cx13,g14,.int .i64 x15,.int .i64 x16,.int .i64 x17,g18,g19,g20,g21,g22,g23,g24,g25,g26,g27,g28,g29,g30,g31,g32,g33,g34,g35,g36,g37,g38,g39,g40,g41,g42,g43,g44,g45,g46,g47,g48,g49,g50,g51,g52,g53,g54,g55,g56,g57,g58,g59,g60,g61,g62,g63,g64,g65,g66,g67,g68,g69,g70,g71,g72,g73,g74,g75,g76,g77,g78,g79,g80,g81,g82] M K = (x6).bind fun a_1 => (M.slAt a_1.block (a_1.off + 1)).bind fun s_2 => (idxA s_2.1 (s_2.2.1) 1 (IntKind.i64.wrap (x15 + (IntKind.i64.wrap (x17 * x16))))).bind fun a_3 => (M.intAt .i64 a_3.block a_3.off).bind fun x_4 => (idxA Ax13 lx13 1 x17).bind fun a_5 => (M.put a_5.block a_5.off (.int .i64 x_4)).bind fun M_6 => K #[g0,g1,g2,g3,g4,g5,.pointer x6,g7,g8,g9,g10,g11,g12,.slice Ax13 lx13 cx13,g14,.int .i64 x15,.int .i64 x16,.int .i64 x17,g18,g19,g20,g21,g22,g23,g24,g25,g26,g27,g28,g29,g30,g31,g32,g33,g34,g35,g36,g37,g38,g39,.slice Ax13 lx13 cx13,.int .i64 x17,.pointer (some ⟨a_1.block, a_1.off + 1, none⟩),.slice s_2.1 (s_2.2.1) (s_2.2.2),.int .i64 x15,.int .i64 x17,.int .i64 x16,.int .i64 (IntKind.i64.wrap (x17 * x16)),.int .i64 (IntKind.i64.wrap (x15 + (IntKind.i64.wrap (x17 * x16)))),.pointer (some a_3),.int .i64 x_4,.pointer (some a_5),g52,g53,g54,g55,g56,g57,g58,g59,g60,g61,g62,g63,g64,g65,g66,g67,g68,g69,g70,g71,g72,g73,g74,g75,g76,g77,g78,g79,g80,g81,g82] M_6 := by kernel_rfl
theorem k31_40 : P31 [1,1,0,1,0,0,1,1,0,0,1,1,0,1,0,0,1,1,1] = .region 10 (O31 [1,1,0,1,0,0,1,1,0,0,1,1,0,1,0,0,1,1,1]) false := by kernel_rfl
theorem r31_10 {x37 : Int} {M : Mem} {call : CallM} {K : Array Value → Mem → R} :
    opsK Try.prog (fun _ => call) (O31 [1,1,0,1,0,0,1,1,0,0,1,1,0,1,0,0,1,1,1]) (O31 [1,1,0,1,0,0,1,1,0,0,1,1,0,1,0,0,1,1,1]).toList 0 #[g0,g1,g2,g3,g4,g5,g6,g7,g8,g9,g10,g11,g12,g13,g14,g15,g16,g17,g18,g19,g20,g21,g22,g23,g24,g25,g26,g27,g28,g29,g30,g31,g32,g33,g34,g35,g36,.int .i64 x37,g38,g39,g40,g41,g42,g43,g44,g45,g46,g47,g48,g49,g50,g51,g52,g53,g54,g55,g56,g57,g58,g59,g60,g61,g62,g63,g64,g65,g66,g67,g68,g69,g70,g71,g72,g73,g74,g75,g76,g77,g78,g79,g80,g81,g82] M K = K #[g0,g1,g2,g3,g4,g5,g6,g7,g8,g9,g10,g11,g12,g13,g14,g15,g16,g17,g18,g19,g20,g21,g22,g23,g24,g25,g26,g27,g28,g29,g30,g31,g32,g33,g34,g35,g36,.int .i64 (IntKind.i64.wrap (x37 + 1)),g38,g39,g40,g41,g42,g43,g44,g45,g46,g47,g48,g49,g50,g51,.int .i64 (IntKind.i64.wrap (x37 + 1)),g53,g54,g55,g56,g57,g58,g59,g60,g61,g62,g63,g64,g65,g66,g67,g68,g69,g70,g71,g72,g73,g74,g75,g76,g77,g78,g79,g80,g81,g82] M := by kernel_rfl
theorem k31_41 : P31 [1,1,0,1,0,0,1,1,0,0,1,1,0,1,0,0,1,0,1] = .exit 2 := by kernel_rfl
theorem k31_42 : P31 [1,1,0,1,0,0,1,1,0,0,1,1,1] = .seq (P31 [1,1,0,1,0,0,1,1,0,0,1,1,1,0]) (P31 [1,1,0,1,0,0,1,1,0,0,1,1,1,1]) := by kernel_rfl
theorem k31_43 : P31 [1,1,0,1,0,0,1,1,0,0,1,1,1,0] = .region 11 (O31 [1,1,0,1,0,0,1,1,0,0,1,1,1,0]) false := by kernel_rfl
theorem r31_11 {x3 : Int} {x4 : Value} {Ax13 : Option Addr} {lx13 cx13 : Nat} {M : Mem} {call : CallM} {K : Array Value → Mem → R} :
    opsK Try.prog (fun _ => call) (O31 [1,1,0,1,0,0,1,1,0,0,1,1,1,0]) (O31 [1,1,0,1,0,0,1,1,0,0,1,1,1,0]).toList 0 #[g0,g1,g2,.int .i64 x3,x4,g5,g6,g7,g8,g9,g10,g11,g12,.slice Ax13 lx13 cx13,g14,g15,g16,g17,g18,g19,g20,g21,g22,g23,g24,g25,g26,g27,g28,g29,g30,g31,g32,g33,g34,g35,g36,g37,g38,g39,g40,g41,g42,g43,g44,g45,g46,g47,g48,g49,g50,g51,g52,g53,g54,g55,g56,g57,g58,g59,g60,g61,g62,g63,g64,g65,g66,g67,g68,g69,g70,g71,g72,g73,g74,g75,g76,g77,g78,g79,g80,g81,g82] M K = (callVal Try.prog x4 #[.int .i64 x3, .slice Ax13 lx13 cx13]).bind fun q_2 => (call q_2.1 q_2.2 M).bind fun r_1 => (asU 2 r_1.1).bind fun cs_3 => (asS (cs_3.getD 0 undef)).bind fun s_4 => (asI .i64 (cs_3.getD 1 undef)).bind fun x_5 => K #[g0,g1,g2,.int .i64 x3,x4,g5,g6,g7,g8,g9,g10,g11,g12,.slice Ax13 lx13 cx13,g14,g15,g16,g17,.slice s_4.1 (s_4.2.1) (s_4.2.2),.int .i64 x_5,g20,g21,g22,g23,g24,g25,g26,g27,g28,g29,g30,g31,g32,g33,g34,g35,g36,g37,g38,g39,g40,g41,g42,g43,g44,g45,g46,g47,g48,g49,g50,g51,g52,.tuple #[.slice s_4.1 (s_4.2.1) (s_4.2.2), .int .i64 x_5],x4,.int .i64 x3,.slice Ax13 lx13 cx13,.tuple #[.slice s_4.1 (s_4.2.1) (s_4.2.2), .int .i64 x_5],.slice s_4.1 (s_4.2.1) (s_4.2.2),.int .i64 x_5,g60,g61,g62,g63,g64,g65,g66,g67,g68,g69,g70,g71,g72,g73,g74,g75,g76,g77,g78,g79,g80,g81,g82] r_1.2 := by kernel_rfl
theorem k31_44 : P31 [1,1,0,1,0,0,1,1,0,0,1,1,1,1] = .seq (P31 [1,1,0,1,0,0,1,1,0,0,1,1,1,1,0]) (P31 [1,1,0,1,0,0,1,1,0,0,1,1,1,1,1]) := by kernel_rfl
theorem k31_45 : P31 [1,1,0,1,0,0,1,1,0,0,1,1,1,1,0] = .seq (P31 [1,1,0,1,0,0,1,1,0,0,1,1,1,1,0,0]) (P31 [1,1,0,1,0,0,1,1,0,0,1,1,1,1,0,1]) := by kernel_rfl
theorem k31_46 : P31 [1,1,0,1,0,0,1,1,0,0,1,1,1,1,0,0] = .region 12 (O31 [1,1,0,1,0,0,1,1,0,0,1,1,1,1,0,0]) false := by kernel_rfl
theorem r31_12 {x19 : Int} {M : Mem} {call : CallM} {K : Array Value → Mem → R} :
    opsK Try.prog (fun _ => call) (O31 [1,1,0,1,0,0,1,1,0,0,1,1,1,1,0,0]) (O31 [1,1,0,1,0,0,1,1,0,0,1,1,1,1,0,0]).toList 0 #[g0,g1,g2,g3,g4,g5,g6,g7,g8,g9,g10,g11,g12,g13,g14,g15,g16,g17,g18,.int .i64 x19,g20,g21,g22,g23,g24,g25,g26,g27,g28,g29,g30,g31,g32,g33,g34,g35,g36,g37,g38,g39,g40,g41,g42,g43,g44,g45,g46,g47,g48,g49,g50,g51,g52,g53,g54,g55,g56,g57,g58,g59,g60,g61,g62,g63,g64,g65,g66,g67,g68,g69,g70,g71,g72,g73,g74,g75,g76,g77,g78,g79,g80,g81,g82] M K = K #[g0,g1,g2,g3,g4,g5,g6,g7,g8,g9,g10,g11,g12,g13,g14,g15,g16,g17,g18,.int .i64 x19,g20,g21,g22,g23,g24,g25,g26,g27,g28,g29,g30,g31,g32,g33,g34,g35,g36,g37,g38,g39,g40,g41,g42,g43,g44,g45,g46,g47,g48,g49,g50,g51,g52,g53,g54,g55,g56,g57,g58,g59,.int .i64 x19,.bool (x19 != 0),g62,g63,g64,g65,g66,g67,g68,g69,g70,g71,g72,g73,g74,g75,g76,g77,g78,g79,g80,g81,g82] M := by kernel_rfl
theorem c31_47 : P31 [1,1,0,1,0,0,1,1,0,0,1,1,1,1,0,1] = .cond (.tmp 61) (P31 [1,1,0,1,0,0,1,1,0,0,1,1,1,1,0,1,0]) (P31 [1,1,0,1,0,0,1,1,0,0,1,1,1,1,0,1,1]) := by kernel_rfl
theorem k31_48 : P31 [1,1,0,1,0,0,1,1,0,0,1,1,1,1,0,1,0] = .seq (P31 [1,1,0,1,0,0,1,1,0,0,1,1,1,1,0,1,0,0]) (P31 [1,1,0,1,0,0,1,1,0,0,1,1,1,1,0,1,0,1]) := by kernel_rfl
theorem k31_49 : P31 [1,1,0,1,0,0,1,1,0,0,1,1,1,1,0,1,0,0] = .region 13 (O31 [1,1,0,1,0,0,1,1,0,0,1,1,1,1,0,1,0,0]) false := by kernel_rfl
theorem r31_13 {x19 : Int} {M : Mem} {call : CallM} {K : Array Value → Mem → R} :
    opsK Try.prog (fun _ => call) (O31 [1,1,0,1,0,0,1,1,0,0,1,1,1,1,0,1,0,0]) (O31 [1,1,0,1,0,0,1,1,0,0,1,1,1,1,0,1,0,0]).toList 0 #[g0,g1,g2,g3,g4,g5,g6,g7,g8,g9,g10,g11,g12,g13,g14,g15,g16,g17,g18,.int .i64 x19,g20,g21,g22,g23,g24,g25,g26,g27,g28,g29,g30,g31,g32,g33,g34,g35,g36,g37,g38,g39,g40,g41,g42,g43,g44,g45,g46,g47,g48,g49,g50,g51,g52,g53,g54,g55,g56,g57,g58,g59,g60,g61,g62,g63,g64,g65,g66,g67,g68,g69,g70,g71,g72,g73,g74,g75,g76,g77,g78,g79,g80,g81,g82] M K = K #[g0,g1,g2,g3,g4,g5,g6,g7,g8,g9,g10,g11,.int .i64 x19,g13,g14,g15,g16,g17,g18,.int .i64 x19,g20,g21,g22,g23,g24,g25,g26,g27,g28,g29,g30,g31,g32,g33,g34,g35,g36,g37,g38,g39,g40,g41,g42,g43,g44,g45,g46,g47,g48,g49,g50,g51,g52,g53,g54,g55,g56,g57,g58,g59,g60,g61,.int .i64 x19,g63,g64,g65,g66,g67,g68,g69,g70,g71,g72,g73,g74,g75,g76,g77,g78,g79,g80,g81,g82] M := by kernel_rfl
theorem k31_50 : P31 [1,1,0,1,0,0,1,1,0,0,1,1,1,1,0,1,0,1] = .ret := by kernel_rfl
theorem k31_51 : P31 [1,1,0,1,0,0,1,1,0,0,1,1,1,1,0,1,1] = .skip := by kernel_rfl
theorem k31_52 : P31 [1,1,0,1,0,0,1,1,0,0,1,1,1,1,1] = .seq (P31 [1,1,0,1,0,0,1,1,0,0,1,1,1,1,1,0]) (P31 [1,1,0,1,0,0,1,1,0,0,1,1,1,1,1,1]) := by kernel_rfl
theorem k31_53 : P31 [1,1,0,1,0,0,1,1,0,0,1,1,1,1,1,0] = .region 14 (O31 [1,1,0,1,0,0,1,1,0,0,1,1,1,1,1,0]) false := by kernel_rfl
theorem r31_14 {Ax18 : Option Addr} {lx18 cx18 : Nat} {M : Mem} {call : CallM} {K : Array Value → Mem → R} :
    opsK Try.prog (fun _ => call) (O31 [1,1,0,1,0,0,1,1,0,0,1,1,1,1,1,0]) (O31 [1,1,0,1,0,0,1,1,0,0,1,1,1,1,1,0]).toList 0 #[g0,g1,g2,g3,g4,g5,g6,g7,g8,g9,g10,g11,g12,g13,g14,g15,g16,g17,.slice Ax18 lx18 cx18,g19,g20,g21,g22,g23,g24,g25,g26,g27,g28,g29,g30,g31,g32,g33,g34,g35,g36,g37,g38,g39,g40,g41,g42,g43,g44,g45,g46,g47,g48,g49,g50,g51,g52,g53,g54,g55,g56,g57,g58,g59,g60,g61,g62,g63,g64,g65,g66,g67,g68,g69,g70,g71,g72,g73,g74,g75,g76,g77,g78,g79,g80,g81,g82] M K = K #[g0,g1,g2,g3,g4,g5,g6,g7,g8,g9,g10,g11,g12,g13,g14,g15,g16,g17,.slice Ax18 lx18 cx18,g19,g20,g21,g22,g23,g24,g25,g26,g27,g28,g29,g30,g31,g32,g33,g34,g35,g36,g37,g38,g39,g40,g41,g42,g43,g44,g45,g46,g47,g48,g49,g50,g51,g52,g53,g54,g55,g56,g57,g58,g59,g60,g61,g62,.slice Ax18 lx18 cx18,.int .i64 ((lx18 : Int)),.int .i64 0,g66,g67,g68,g69,g70,g71,g72,g73,g74,g75,g76,g77,g78,g79,g80,g81,g82] M := by kernel_rfl
theorem k31_54 : P31 [1,1,0,1,0,0,1,1,0,0,1,1,1,1,1,1] = .block 4 (P31 [1,1,0,1,0,0,1,1,0,0,1,1,1,1,1,1,0]) := by kernel_rfl
theorem k31_55 : P31 [1,1,0,1,0,0,1,1,0,0,1,1,1,1,1,1,0] = .loop (P31 [1,1,0,1,0,0,1,1,0,0,1,1,1,1,1,1,0,0]) := by kernel_rfl
theorem k31_56 : P31 [1,1,0,1,0,0,1,1,0,0,1,1,1,1,1,1,0,0] = .seq (P31 [1,1,0,1,0,0,1,1,0,0,1,1,1,1,1,1,0,0,0]) (P31 [1,1,0,1,0,0,1,1,0,0,1,1,1,1,1,1,0,0,1]) := by kernel_rfl
theorem k31_57 : P31 [1,1,0,1,0,0,1,1,0,0,1,1,1,1,1,1,0,0,0] = .region 15 (O31 [1,1,0,1,0,0,1,1,0,0,1,1,1,1,1,1,0,0,0]) false := by kernel_rfl
theorem r31_15 {x64 x65 : Int} {M : Mem} {call : CallM} {K : Array Value → Mem → R} :
    opsK Try.prog (fun _ => call) (O31 [1,1,0,1,0,0,1,1,0,0,1,1,1,1,1,1,0,0,0]) (O31 [1,1,0,1,0,0,1,1,0,0,1,1,1,1,1,1,0,0,0]).toList 0 #[g0,g1,g2,g3,g4,g5,g6,g7,g8,g9,g10,g11,g12,g13,g14,g15,g16,g17,g18,g19,g20,g21,g22,g23,g24,g25,g26,g27,g28,g29,g30,g31,g32,g33,g34,g35,g36,g37,g38,g39,g40,g41,g42,g43,g44,g45,g46,g47,g48,g49,g50,g51,g52,g53,g54,g55,g56,g57,g58,g59,g60,g61,g62,g63,.int .i64 x64,.int .i64 x65,g66,g67,g68,g69,g70,g71,g72,g73,g74,g75,g76,g77,g78,g79,g80,g81,g82] M K = K #[g0,g1,g2,g3,g4,g5,g6,g7,g8,g9,g10,g11,g12,g13,g14,g15,g16,g17,g18,g19,g20,g21,g22,g23,g24,g25,g26,g27,g28,g29,g30,g31,g32,g33,g34,g35,g36,g37,g38,g39,g40,g41,g42,g43,g44,g45,g46,g47,g48,g49,g50,g51,g52,g53,g54,g55,g56,g57,g58,g59,g60,g61,g62,g63,.int .i64 x64,.int .i64 x65,.bool (decide (x65 < x64)),g67,g68,g69,g70,g71,g72,g73,g74,g75,g76,g77,g78,g79,g80,g81,g82] M := by kernel_rfl
theorem k31_58 : P31 [1,1,0,1,0,0,1,1,0,0,1,1,1,1,1,1,0,0,1] = .seq (P31 [1,1,0,1,0,0,1,1,0,0,1,1,1,1,1,1,0,0,1,0]) (P31 [1,1,0,1,0,0,1,1,0,0,1,1,1,1,1,1,0,0,1,1]) := by kernel_rfl
theorem c31_59 : P31 [1,1,0,1,0,0,1,1,0,0,1,1,1,1,1,1,0,0,1,0] = .cond (.tmp 66) (P31 [1,1,0,1,0,0,1,1,0,0,1,1,1,1,1,1,0,0,1,0,0]) (P31 [1,1,0,1,0,0,1,1,0,0,1,1,1,1,1,1,0,0,1,0,1]) := by kernel_rfl
theorem k31_60 : P31 [1,1,0,1,0,0,1,1,0,0,1,1,1,1,1,1,0,0,1,0,0] = .skip := by kernel_rfl
theorem k31_61 : P31 [1,1,0,1,0,0,1,1,0,0,1,1,1,1,1,1,0,0,1,1] = .seq (P31 [1,1,0,1,0,0,1,1,0,0,1,1,1,1,1,1,0,0,1,1,0]) (P31 [1,1,0,1,0,0,1,1,0,0,1,1,1,1,1,1,0,0,1,1,1]) := by kernel_rfl
theorem k31_62 : P31 [1,1,0,1,0,0,1,1,0,0,1,1,1,1,1,1,0,0,1,1,0] = .block 5 (P31 [1,1,0,1,0,0,1,1,0,0,1,1,1,1,1,1,0,0,1,1,0,0]) := by kernel_rfl
theorem k31_63 : P31 [1,1,0,1,0,0,1,1,0,0,1,1,1,1,1,1,0,0,1,1,0,0] = .seq (P31 [1,1,0,1,0,0,1,1,0,0,1,1,1,1,1,1,0,0,1,1,0,0,0]) (P31 [1,1,0,1,0,0,1,1,0,0,1,1,1,1,1,1,0,0,1,1,0,0,1]) := by kernel_rfl
theorem k31_64 : P31 [1,1,0,1,0,0,1,1,0,0,1,1,1,1,1,1,0,0,1,1,0,0,0] = .region 16 (O31 [1,1,0,1,0,0,1,1,0,0,1,1,1,1,1,1,0,0,1,1,0,0,0]) false := by kernel_rfl
theorem r31_16 {Ax63 : Option Addr} {lx63 cx63 : Nat} {x65 : Int} {M : Mem} {call : CallM} {K : Array Value → Mem → R} :
    opsK Try.prog (fun _ => call) (O31 [1,1,0,1,0,0,1,1,0,0,1,1,1,1,1,1,0,0,1,1,0,0,0]) (O31 [1,1,0,1,0,0,1,1,0,0,1,1,1,1,1,1,0,0,1,1,0,0,0]).toList 0 #[g0,g1,g2,g3,g4,g5,g6,g7,g8,g9,g10,g11,g12,g13,g14,g15,g16,g17,g18,g19,g20,g21,g22,g23,g24,g25,g26,g27,g28,g29,g30,g31,g32,g33,g34,g35,g36,g37,g38,g39,g40,g41,g42,g43,g44,g45,g46,g47,g48,g49,g50,g51,g52,g53,g54,g55,g56,g57,g58,g59,g60,g61,g62,.slice Ax63 lx63 cx63,g64,.int .i64 x65,g66,g67,g68,g69,g70,g71,g72,g73,g74,g75,g76,g77,g78,g79,g80,g81,g82] M K = (idxA Ax63 lx63 1 x65).bind fun a_1 => (M.intAt .i64 a_1.block a_1.off).bind fun x_2 => K #[g0,g1,g2,g3,g4,g5,g6,g7,g8,g9,g10,g11,g12,g13,g14,g15,g16,g17,g18,g19,.int .i64 x65,.int .i64 x_2,g22,g23,g24,g25,g26,g27,g28,g29,g30,g31,g32,g33,g34,g35,g36,g37,g38,g39,g40,g41,g42,g43,g44,g45,g46,g47,g48,g49,g50,g51,g52,g53,g54,g55,g56,g57,g58,g59,g60,g61,g62,.slice Ax63 lx63 cx63,g64,.int .i64 x65,g66,.int .i64 x65,.pointer (some a_1),.int .i64 x_2,g70,g71,g72,g73,g74,g75,g76,g77,g78,g79,g80,g81,g82] M := by kernel_rfl
theorem k31_65 : P31 [1,1,0,1,0,0,1,1,0,0,1,1,1,1,1,1,0,0,1,1,0,0,1] = .region 17 (O31 [1,1,0,1,0,0,1,1,0,0,1,1,1,1,1,1,0,0,1,1,0,0,1]) true ∧ drawOk (O31 [1,1,0,1,0,0,1,1,0,0,1,1,1,1,1,1,0,0,1,1,0,0,1]) = true := ⟨by kernel_rfl, by kernel_rfl⟩
theorem r31_17 {x5 : Value} {x6 : Option Addr} {x15 x16 x20 x21 : Int} {M : Mem} {call : CallM} {K : Array Value → Mem → R} :
    opsI Try.prog (callAt call (O31 [1,1,0,1,0,0,1,1,0,0,1,1,1,1,1,1,0,0,1,1,0,0,1])) (O31 [1,1,0,1,0,0,1,1,0,0,1,1,1,1,1,1,0,0,1,1,0,0,1]) (ordOf (O31 [1,1,0,1,0,0,1,1,0,0,1,1,1,1,1,1,0,0,1,1,0,0,1])) [] #[g0,g1,g2,g3,g4,x5,.pointer x6,g7,g8,g9,g10,g11,g12,g13,g14,.int .i64 x15,.int .i64 x16,g17,g18,g19,.int .i64 x20,.int .i64 x21,g22,g23,g24,g25,g26,g27,g28,g29,g30,g31,g32,g33,g34,g35,g36,g37,g38,g39,g40,g41,g42,g43,g44,g45,g46,g47,g48,g49,g50,g51,g52,g53,g54,g55,g56,g57,g58,g59,g60,g61,g62,g63,g64,g65,g66,g67,g68,g69,g70,g71,g72,g73,g74,g75,g76,g77,g78,g79,g80,g81,g82] M K = (x6).bind fun a_1 => (M.slAt a_1.block (a_1.off + 1)).bind fun s_2 => (callVal Try.prog x5 #[.int .i64 x21]).bind fun q_4 => (floored call q_4.1 q_4.2 M).bind fun r_3 => (asI .i64 r_3.1).bind fun x_5 => (idxA s_2.1 (s_2.2.1) 1 (IntKind.i64.wrap (x15 + (IntKind.i64.wrap (x20 * x16))))).bind fun a_6 => (r_3.2.put a_6.block a_6.off (.int .i64 x_5)).bind fun M_7 => K #[g0,g1,g2,g3,g4,x5,.pointer x6,g7,g8,g9,g10,g11,g12,g13,g14,.int .i64 x15,.int .i64 x16,g17,g18,g19,.int .i64 x20,.int .i64 x21,g22,g23,g24,g25,g26,g27,g28,g29,g30,g31,g32,g33,g34,g35,g36,g37,g38,g39,g40,g41,g42,g43,g44,g45,g46,g47,g48,g49,g50,g51,g52,g53,g54,g55,g56,g57,g58,g59,g60,g61,g62,g63,g64,g65,g66,g67,g68,g69,.pointer (some ⟨a_1.block, a_1.off + 1, none⟩),.slice s_2.1 (s_2.2.1) (s_2.2.2),.int .i64 x15,.int .i64 x20,.int .i64 x16,.int .i64 (IntKind.i64.wrap (x20 * x16)),.int .i64 (IntKind.i64.wrap (x15 + (IntKind.i64.wrap (x20 * x16)))),x5,.int .i64 x21,.int .i64 x_5,.pointer (some a_6),g81,g82] M_7 := by kernel_rfl
theorem k31_66 : P31 [1,1,0,1,0,0,1,1,0,0,1,1,1,1,1,1,0,0,1,1,1] = .region 18 (O31 [1,1,0,1,0,0,1,1,0,0,1,1,1,1,1,1,0,0,1,1,1]) false := by kernel_rfl
theorem r31_18 {x65 : Int} {M : Mem} {call : CallM} {K : Array Value → Mem → R} :
    opsK Try.prog (fun _ => call) (O31 [1,1,0,1,0,0,1,1,0,0,1,1,1,1,1,1,0,0,1,1,1]) (O31 [1,1,0,1,0,0,1,1,0,0,1,1,1,1,1,1,0,0,1,1,1]).toList 0 #[g0,g1,g2,g3,g4,g5,g6,g7,g8,g9,g10,g11,g12,g13,g14,g15,g16,g17,g18,g19,g20,g21,g22,g23,g24,g25,g26,g27,g28,g29,g30,g31,g32,g33,g34,g35,g36,g37,g38,g39,g40,g41,g42,g43,g44,g45,g46,g47,g48,g49,g50,g51,g52,g53,g54,g55,g56,g57,g58,g59,g60,g61,g62,g63,g64,.int .i64 x65,g66,g67,g68,g69,g70,g71,g72,g73,g74,g75,g76,g77,g78,g79,g80,g81,g82] M K = K #[g0,g1,g2,g3,g4,g5,g6,g7,g8,g9,g10,g11,g12,g13,g14,g15,g16,g17,g18,g19,g20,g21,g22,g23,g24,g25,g26,g27,g28,g29,g30,g31,g32,g33,g34,g35,g36,g37,g38,g39,g40,g41,g42,g43,g44,g45,g46,g47,g48,g49,g50,g51,g52,g53,g54,g55,g56,g57,g58,g59,g60,g61,g62,g63,g64,.int .i64 (IntKind.i64.wrap (x65 + 1)),g66,g67,g68,g69,g70,g71,g72,g73,g74,g75,g76,g77,g78,g79,g80,.int .i64 (IntKind.i64.wrap (x65 + 1)),g82] M := by kernel_rfl
theorem k31_67 : P31 [1,1,0,1,0,0,1,1,0,0,1,1,1,1,1,1,0,0,1,0,1] = .exit 4 := by kernel_rfl
theorem k31_68 : P31 [1,1,0,1,0,0,1,1,1] = .region 19 (O31 [1,1,0,1,0,0,1,1,1]) false := by kernel_rfl
theorem r31_19 {x26 : Int} {M : Mem} {call : CallM} {K : Array Value → Mem → R} :
    opsK Try.prog (fun _ => call) (O31 [1,1,0,1,0,0,1,1,1]) (O31 [1,1,0,1,0,0,1,1,1]).toList 0 #[g0,g1,g2,g3,g4,g5,g6,g7,g8,g9,g10,g11,g12,g13,g14,g15,g16,g17,g18,g19,g20,g21,g22,g23,g24,g25,.int .i64 x26,g27,g28,g29,g30,g31,g32,g33,g34,g35,g36,g37,g38,g39,g40,g41,g42,g43,g44,g45,g46,g47,g48,g49,g50,g51,g52,g53,g54,g55,g56,g57,g58,g59,g60,g61,g62,g63,g64,g65,g66,g67,g68,g69,g70,g71,g72,g73,g74,g75,g76,g77,g78,g79,g80,g81,g82] M K = K #[g0,g1,g2,g3,g4,g5,g6,g7,g8,g9,g10,g11,g12,g13,g14,g15,g16,g17,g18,g19,g20,g21,g22,g23,g24,g25,.int .i64 (IntKind.i64.wrap (x26 + 1)),g27,g28,g29,g30,g31,g32,g33,g34,g35,g36,g37,g38,g39,g40,g41,g42,g43,g44,g45,g46,g47,g48,g49,g50,g51,g52,g53,g54,g55,g56,g57,g58,g59,g60,g61,g62,g63,g64,g65,g66,g67,g68,g69,g70,g71,g72,g73,g74,g75,g76,g77,g78,g79,g80,g81,.int .i64 (IntKind.i64.wrap (x26 + 1))] M := by kernel_rfl
noncomputable def S31_1 : List Item := [.code (P31 [1,1,0,1,0,0]), .inLoop (P31 [1,1,0,1,0,0]), .inBlock 0, .code (P31 [1,1,1])]
def A31_1 (x1 : Value) (x3 : Int) (x4 x5 : Value) (x6 Ax13 : Option Addr) (lx13 cx13 : Nat) (x25 x26 : Int) (M : Mem) (Q : Value → Mem → Prop) : Prop := ∀ (g0 g2 g7 g8 g9 g10 g11 g12 g14 g15 g16 g17 g18 g19 g20 g21 g22 g23 g24 g27 g28 g29 g30 g31 g32 g33 g34 g35 g36 g37 g38 g39 g40 g41 g42 g43 g44 g45 g46 g47 g48 g49 g50 g51 g52 g53 g54 g55 g56 g57 g58 g59 g60 g61 g62 g63 g64 g65 g66 g67 g68 g69 g70 g71 g72 g73 g74 g75 g76 g77 g78 g79 g80 g81 g82 : Value), Rn Try.prog Try.f31 S31_1 #[g0, x1, g2, .int .i64 x3, x4, x5, .pointer x6, g7, g8, g9, g10, g11, g12, .slice Ax13 lx13 cx13, g14, g15, g16, g17, g18, g19, g20, g21, g22, g23, g24, .int .i64 x25, .int .i64 x26, g27, g28, g29, g30, g31, g32, g33, g34, g35, g36, g37, g38, g39, g40, g41, g42, g43, g44, g45, g46, g47, g48, g49, g50, g51, g52, g53, g54, g55, g56, g57, g58, g59, g60, g61, g62, g63, g64, g65, g66, g67, g68, g69, g70, g71, g72, g73, g74, g75, g76, g77, g78, g79, g80, g81, g82] M Q
noncomputable def S31_2 : List Item := [.code (P31 [1,1,0,1,0,0,1,1,0,0,1,1,0,1,0,0]), .inLoop (P31 [1,1,0,1,0,0,1,1,0,0,1,1,0,1,0,0]), .inBlock 2, .code (P31 [1,1,0,1,0,0,1,1,0,0,1,1,1]), .inBlock 1, .code (P31 [1,1,0,1,0,0,1,1,1]), .inLoop (P31 [1,1,0,1,0,0]), .inBlock 0, .code (P31 [1,1,1])]
def A31_2 (x1 : Value) (x3 : Int) (x4 x5 : Value) (x6 Ax13 : Option Addr) (lx13 cx13 : Nat) (x15 x16 x25 x26 x36 x37 : Int) (M : Mem) (Q : Value → Mem → Prop) : Prop := ∀ (g0 g2 g7 g8 g9 g10 g11 g12 g14 g17 g18 g19 g20 g21 g22 g23 g24 g27 g28 g29 g30 g31 g32 g33 g34 g35 g38 g39 g40 g41 g42 g43 g44 g45 g46 g47 g48 g49 g50 g51 g52 g53 g54 g55 g56 g57 g58 g59 g60 g61 g62 g63 g64 g65 g66 g67 g68 g69 g70 g71 g72 g73 g74 g75 g76 g77 g78 g79 g80 g81 g82 : Value), Rn Try.prog Try.f31 S31_2 #[g0, x1, g2, .int .i64 x3, x4, x5, .pointer x6, g7, g8, g9, g10, g11, g12, .slice Ax13 lx13 cx13, g14, .int .i64 x15, .int .i64 x16, g17, g18, g19, g20, g21, g22, g23, g24, .int .i64 x25, .int .i64 x26, g27, g28, g29, g30, g31, g32, g33, g34, g35, .int .i64 x36, .int .i64 x37, g38, g39, g40, g41, g42, g43, g44, g45, g46, g47, g48, g49, g50, g51, g52, g53, g54, g55, g56, g57, g58, g59, g60, g61, g62, g63, g64, g65, g66, g67, g68, g69, g70, g71, g72, g73, g74, g75, g76, g77, g78, g79, g80, g81, g82] M Q
noncomputable def S31_3 : List Item := [.code (P31 [1,1,0,1,0,0,1,1,0,0,1,1,1,1,1,1,0,0]), .inLoop (P31 [1,1,0,1,0,0,1,1,0,0,1,1,1,1,1,1,0,0]), .inBlock 4, .inBlock 1, .code (P31 [1,1,0,1,0,0,1,1,1]), .inLoop (P31 [1,1,0,1,0,0]), .inBlock 0, .code (P31 [1,1,1])]
def A31_3 (x1 : Value) (x3 : Int) (x4 x5 : Value) (x6 Ax13 : Option Addr) (lx13 cx13 : Nat) (x15 x16 x25 x26 : Int) (Ax63 : Option Addr) (lx63 cx63 : Nat) (x64 x65 : Int) (M : Mem) (Q : Value → Mem → Prop) : Prop := ∀ (g0 g2 g7 g8 g9 g10 g11 g12 g14 g17 g18 g19 g20 g21 g22 g23 g24 g27 g28 g29 g30 g31 g32 g33 g34 g35 g36 g37 g38 g39 g40 g41 g42 g43 g44 g45 g46 g47 g48 g49 g50 g51 g52 g53 g54 g55 g56 g57 g58 g59 g60 g61 g62 g66 g67 g68 g69 g70 g71 g72 g73 g74 g75 g76 g77 g78 g79 g80 g81 g82 : Value), Rn Try.prog Try.f31 S31_3 #[g0, x1, g2, .int .i64 x3, x4, x5, .pointer x6, g7, g8, g9, g10, g11, g12, .slice Ax13 lx13 cx13, g14, .int .i64 x15, .int .i64 x16, g17, g18, g19, g20, g21, g22, g23, g24, .int .i64 x25, .int .i64 x26, g27, g28, g29, g30, g31, g32, g33, g34, g35, g36, g37, g38, g39, g40, g41, g42, g43, g44, g45, g46, g47, g48, g49, g50, g51, g52, g53, g54, g55, g56, g57, g58, g59, g60, g61, g62, .slice Ax63 lx63 cx63, .int .i64 x64, .int .i64 x65, g66, g67, g68, g69, g70, g71, g72, g73, g74, g75, g76, g77, g78, g79, g80, g81, g82] M Q
theorem w31_0 {x0_0 : Int} {Ax0_1 : Option Addr} {lx0_1 cx0_1 : Nat} {x1 : Value} {x2 x3 : Int} {x4 x5 : Value} {M : Mem} {Q : Value → Mem → Prop} (H :
    ∃ x1', (M.new (.cells #[.int .i64 x0_0, .slice Ax0_1 lx0_1 cx0_1] 43)).intAt .i64 (2 * M.nb.size) 0 = some x1' ∧
    ∃ r2', makeP Try.prog 22 (.int .i64 x1') (.int .i64 x1') (M.new (.cells #[.int .i64 x0_0, .slice Ax0_1 lx0_1 cx0_1] 43)) = some r2' ∧
    ∃ s3', asS r2'.1 = some s3' ∧
    A31_1 x1 x3 x4 x5 (some ⟨2 * M.nb.size, 0, none⟩) s3'.1 s3'.2.1 s3'.2.2 x2 0 r2'.2 Q) :
    Cn Try.prog 31 #[.agg #[.int .i64 x0_0, .slice Ax0_1 lx0_1 cx0_1], x1, .int .i64 x2, .int .i64 x3, x4, x5] M Q := by
  refine Cn.of b31 d31 t31 ?_
  refine Rn.seq k31_0 (Rn.region k31_1 (fun call K => r31_0) (Rch.leaf (Rn.seq k31_2 (Rn.region k31_3 (fun call K => r31_1) (Rch.bind (x := ⟨2 * M.nb.size, 0, none⟩) rfl (Rch.ex H fun x1' H => Rch.ex H fun r2' H => Rch.ex H fun s3' H => Rch.leaf (Rn.seq k31_4 (Rn.seq k31_5 ?_))))))))
  refine Rn.region k31_6 (fun call K => r31_2) (Rch.leaf (Rn.block k31_7 (Rn.loop k31_8 ?_)))
  exact H _ _ _ _ _ _ _ _ _ _ _ _ _ _ _ _ _ _ _ _ _ _ _ _ _ _ _ _ _ _ _ _ _ _ _ _ _ _ _ _ _ _ _ _ _ _ _ _ _ _ _ _ _ _ _ _ _ _ _ _ _ _ _ _ _ _ _ _ _ _ _ _ _ _ _

theorem w31_1 {x1 : Value} {x3 : Int} {x4 x5 : Value} {x6 Ax13 : Option Addr} {lx13 cx13 : Nat} {x25 x26 : Int} {M : Mem} {Q : Value → Mem → Prop} (H :
    ((x26 < x25 →
     ∃ q4', callVal Try.prog x1 #[.int .i64 x26] = some q4' ∧
     Cn Try.prog q4'.1 q4'.2 M fun v5' N5' =>
      ∃ cs6', asU 2 v5' = some cs6' ∧
      ∃ x7', asI .i64 (cs6'.getD 0 undef) = some x7' ∧
      ∃ x8', asI .i64 (cs6'.getD 1 undef) = some x8' ∧
      A31_2 x1 x3 x4 x5 x6 Ax13 lx13 cx13 x7' x8' x25 x26 (lx13 : Int) 0 N5' Q) ∧
     (¬ (x26 < x25) →
     Q (.int .i64 0) M))) :
    A31_1 x1 x3 x4 x5 x6 Ax13 lx13 cx13 x25 x26 M Q := by
  intro g0 g2 g7 g8 g9 g10 g11 g12 g14 g15 g16 g17 g18 g19 g20 g21 g22 g23 g24 g27 g28 g29 g30 g31 g32 g33 g34 g35 g36 g37 g38 g39 g40 g41 g42 g43 g44 g45 g46 g47 g48 g49 g50 g51 g52 g53 g54 g55 g56 g57 g58 g59 g60 g61 g62 g63 g64 g65 g66 g67 g68 g69 g70 g71 g72 g73 g74 g75 g76 g77 g78 g79 g80 g81 g82
  refine Rn.seq k31_9 (Rn.region k31_10 (fun call K => r31_3) (Rch.leaf (Rn.seq k31_11 ?_)))
  refine Rn.cnd (v := decide (x26 < x25)) ⟨c31_12, rfl, by kernel_rfl⟩ (fun h => ?_) (fun h => ?_)
  · replace H := H.1 (of_decide_eq_true h)
    refine Rn.skip k31_13 (Rn.seq k31_14 (Rn.block k31_15 (Rn.seq k31_16 (Rn.region k31_17 (fun call K => r31_4) (Rch.leaf (Rn.seq k31_18 (Rn.region k31_19 (fun call K => r31_5) (Rch.ex H fun q4' H => Rch.call H fun v5' N5' H => Rch.ex H fun cs6' H => Rch.ex H fun x7' H => ?_))))))))
    refine Rch.ex H fun x8' H => Rch.leaf (Rn.seq k31_20 (Rn.seq k31_21 (Rn.region k31_22 (fun call K => r31_6) (Rch.leaf (Rn.block k31_23 (Rn.loop k31_24 ?_))))))
    exact H _ _ _ _ _ _ _ _ _ _ _ _ _ _ _ _ _ _ _ _ _ _ _ _ _ _ _ _ _ _ _ _ _ _ _ _ _ _ _ _ _ _ _ _ _ _ _ _ _ _ _ _ _ _ _ _ _ _ _ _ _ _ _ _ _ _ _ _ _ _ _
  · replace H := H.2 (of_decide_eq_false h)
    refine Rn.exit k31_25 rfl (Rn.seq k31_26 (Rn.region k31_27 (fun call K => r31_20) (Rch.leaf ?_)))
    exact Rn.ret k31_28 e31 H

theorem w31_2 {x1 : Value} {x3 : Int} {x4 x5 : Value} {x6 Ax13 : Option Addr} {lx13 cx13 : Nat} {x15 x16 x25 x26 x36 x37 : Int} {M : Mem} {Q : Value → Mem → Prop} (H :
    ((x37 < x36 →
     ∃ a9', x6 = some a9' ∧
     ∃ s10', M.slAt a9'.block (a9'.off + 1) = some s10' ∧
     ∃ a11', idxA s10'.1 (s10'.2.1) 1 (IntKind.i64.wrap (x15 + (IntKind.i64.wrap (x37 * x16)))) = some a11' ∧
     ∃ x12', M.intAt .i64 a11'.block a11'.off = some x12' ∧
     ∃ a13', idxA Ax13 lx13 1 x37 = some a13' ∧
     ∃ M14', M.put a13'.block a13'.off (.int .i64 x12') = some M14' ∧
     A31_2 x1 x3 x4 x5 x6 Ax13 lx13 cx13 x15 x16 x25 x26 x36 (IntKind.i64.wrap (x37 + 1)) M14' Q) ∧
     (¬ (x37 < x36) →
     ∃ q15', callVal Try.prog x4 #[.int .i64 x3, .slice Ax13 lx13 cx13] = some q15' ∧
     Cn Try.prog q15'.1 q15'.2 M fun v16' N16' =>
      ∃ cs17', asU 2 v16' = some cs17' ∧
      ∃ s18', asS (cs17'.getD 0 undef) = some s18' ∧
      ∃ x19', asI .i64 (cs17'.getD 1 undef) = some x19' ∧
      ((x19' ≠ 0 →
       Q (.int .i64 (x19')) N16') ∧
       (x19' = 0 →
       A31_3 x1 x3 x4 x5 x6 Ax13 lx13 cx13 x15 x16 x25 x26 s18'.1 s18'.2.1 s18'.2.2 (s18'.2.1 : Int) 0 N16' Q))))) :
    A31_2 x1 x3 x4 x5 x6 Ax13 lx13 cx13 x15 x16 x25 x26 x36 x37 M Q := by
  intro g0 g2 g7 g8 g9 g10 g11 g12 g14 g17 g18 g19 g20 g21 g22 g23 g24 g27 g28 g29 g30 g31 g32 g33 g34 g35 g38 g39 g40 g41 g42 g43 g44 g45 g46 g47 g48 g49 g50 g51 g52 g53 g54 g55 g56 g57 g58 g59 g60 g61 g62 g63 g64 g65 g66 g67 g68 g69 g70 g71 g72 g73 g74 g75 g76 g77 g78 g79 g80 g81 g82
  refine Rn.seq k31_30 (Rn.region k31_31 (fun call K => r31_7) (Rch.leaf (Rn.seq k31_32 ?_)))
  refine Rn.cnd (v := decide (x37 < x36)) ⟨c31_33, rfl, by kernel_rfl⟩ (fun h => ?_) (fun h => ?_)
  · replace H := H.1 (of_decide_eq_true h)
    refine Rn.skip k31_34 (Rn.seq k31_35 (Rn.block k31_36 (Rn.seq k31_37 (Rn.region k31_38 (fun call K => r31_8) (Rch.leaf (Rn.region k31_39 (fun call K => r31_9) (Rch.ex H fun a9' H => Rch.ex H fun s10' H => Rch.ex H fun a11' H => Rch.ex H fun x12' H => Rch.ex H fun a13' H => ?_)))))))
    refine Rch.ex H fun M14' H => Rch.leaf (Rn.blk (Rn.region k31_40 (fun call K => r31_10) (Rch.leaf (Rn.lp ?_))))
    exact H _ _ _ _ _ _ _ _ _ _ _ _ _ _ _ _ _ _ _ _ _ _ _ _ _ _ _ _ _ _ _ _ _ _ _ _ _ _ _ _ _ _ _ _ _ _ _ _ _ _ _ _ _ _ _ _ _ _ _ _ _ _ _ _ _ _ _ _ _ _ _
  · replace H := H.2 (of_decide_eq_false h)
    refine Rn.exit k31_41 rfl (Rn.seq k31_42 (Rn.region k31_43 (fun call K => r31_11) (Rch.ex H fun q15' H => Rch.call H fun v16' N16' H => Rch.ex H fun cs17' H => Rch.ex H fun s18' H => Rch.ex H fun x19' H => Rch.leaf (Rn.seq k31_44 (Rn.seq k31_45 (Rn.region k31_46 (fun call K => r31_12) ?_))))))
    refine Rch.leaf ?_
    refine Rn.cnd (v := x19' != 0) ⟨c31_47, rfl, by kernel_rfl⟩ (fun h => ?_) (fun h => ?_)
    · replace H := H.1 (ne_of_bneT h)
      refine Rn.seq k31_48 (Rn.region k31_49 (fun call K => r31_13) (Rch.leaf ?_))
      exact Rn.ret k31_50 e31 H
    · replace H := H.2 (eq_of_bneF h)
      refine Rn.skip k31_51 (Rn.seq k31_52 (Rn.region k31_53 (fun call K => r31_14) (Rch.leaf (Rn.block k31_54 (Rn.loop k31_55 ?_)))))
      exact H _ _ _ _ _ _ _ _ _ _ _ _ _ _ _ _ _ _ _ _ _ _ _ _ _ _ _ _ _ _ _ _ _ _ _ _ _ _ _ _ _ _ _ _ _ _ _ _ _ _ _ _ _ _ _ _ _ _ _ _ _ _ _ _ _ _ _ _ _ _

theorem w31_3 {x1 : Value} {x3 : Int} {x4 x5 : Value} {x6 Ax13 : Option Addr} {lx13 cx13 : Nat} {x15 x16 x25 x26 : Int} {Ax63 : Option Addr} {lx63 cx63 : Nat} {x64 x65 : Int} {M : Mem} {Q : Value → Mem → Prop} (H :
    ((x65 < x64 →
     ∃ a20', idxA Ax63 lx63 1 x65 = some a20' ∧
     ∃ x21', M.intAt .i64 a20'.block a20'.off = some x21' ∧
     ∃ a22', x6 = some a22' ∧
     ∃ s23', M.slAt a22'.block (a22'.off + 1) = some s23' ∧
     ∃ q24', callVal Try.prog x5 #[.int .i64 x21'] = some q24' ∧
     Cn Try.prog q24'.1 q24'.2 { M with floor := M.nb.size } fun v25' N25' =>
      ∃ x26', asI .i64 v25' = some x26' ∧
      ∃ a27', idxA s23'.1 (s23'.2.1) 1 (IntKind.i64.wrap (x15 + (IntKind.i64.wrap (x65 * x16)))) = some a27' ∧
      ∃ M28', { N25' with floor := M.floor }.put a27'.block a27'.off (.int .i64 x26') = some M28' ∧
      A31_3 x1 x3 x4 x5 x6 Ax13 lx13 cx13 x15 x16 x25 x26 Ax63 lx63 cx63 x64 (IntKind.i64.wrap (x65 + 1)) M28' Q) ∧
     (¬ (x65 < x64) →
     A31_1 x1 x3 x4 x5 x6 Ax13 lx13 cx13 x25 (IntKind.i64.wrap (x26 + 1)) M Q))) :
    A31_3 x1 x3 x4 x5 x6 Ax13 lx13 cx13 x15 x16 x25 x26 Ax63 lx63 cx63 x64 x65 M Q := by
  intro g0 g2 g7 g8 g9 g10 g11 g12 g14 g17 g18 g19 g20 g21 g22 g23 g24 g27 g28 g29 g30 g31 g32 g33 g34 g35 g36 g37 g38 g39 g40 g41 g42 g43 g44 g45 g46 g47 g48 g49 g50 g51 g52 g53 g54 g55 g56 g57 g58 g59 g60 g61 g62 g66 g67 g68 g69 g70 g71 g72 g73 g74 g75 g76 g77 g78 g79 g80 g81 g82
  refine Rn.seq k31_56 (Rn.region k31_57 (fun call K => r31_15) (Rch.leaf (Rn.seq k31_58 ?_)))
  refine Rn.cnd (v := decide (x65 < x64)) ⟨c31_59, rfl, by kernel_rfl⟩ (fun h => ?_) (fun h => ?_)
  · replace H := H.1 (of_decide_eq_true h)
    refine Rn.skip k31_60 (Rn.seq k31_61 (Rn.block k31_62 (Rn.seq k31_63 (Rn.region k31_64 (fun call K => r31_16) (Rch.ex H fun a20' H => Rch.ex H fun x21' H => Rch.leaf (Rn.regionD k31_65 (fun call K => r31_17) (Rch.ex H fun a22' H => Rch.ex H fun s23' H => Rch.ex H fun q24' H => ?_)))))))
    refine Rch.callF H fun v25' N25' H => Rch.ex H fun x26' H => Rch.ex H fun a27' H => Rch.ex H fun M28' H => Rch.leaf (Rn.blk (Rn.region k31_66 (fun call K => r31_18) (Rch.leaf (Rn.lp ?_))))
    exact H _ _ _ _ _ _ _ _ _ _ _ _ _ _ _ _ _ _ _ _ _ _ _ _ _ _ _ _ _ _ _ _ _ _ _ _ _ _ _ _ _ _ _ _ _ _ _ _ _ _ _ _ _ _ _ _ _ _ _ _ _ _ _ _ _ _ _ _ _ _
  · replace H := H.2 (of_decide_eq_false h)
    refine Rn.exit k31_67 rfl (Rn.blk (Rn.region k31_68 (fun call K => r31_19) (Rch.leaf (Rn.lp ?_))))
    exact H _ _ _ _ _ _ _ _ _ _ _ _ _ _ _ _ _ _ _ _ _ _ _ _ _ _ _ _ _ _ _ _ _ _ _ _ _ _ _ _ _ _ _ _ _ _ _ _ _ _ _ _ _ _ _ _ _ _ _ _ _ _ _ _ _ _ _ _ _ _ _ _ _ _ _


/-! ### zoetrope/txfm.scaled: function 46 -/
noncomputable abbrev P46 (p : List Nat) : Code := subC (codeOf Try.f46) p
noncomputable abbrev O46 (p : List Nat) : Array Oper := opsOf (subC (codeOf Try.f46) p)
theorem b46 : Try.prog.funcs[46]? = some Try.f46 ∧ (Orc.tab Try.prog).lookup 46 = none := ⟨by kernel_rfl, by kernel_rfl⟩
theorem d46 : Try.f46.body = some (P46 []) := by kernel_rfl
theorem t46 {x0 x1 : Int} : #[.int .i64 x0,.int .i64 x1] ++ Array.replicate (Try.f46.ntmps - (#[.int .i64 x0,.int .i64 x1] : Array Value).size) undef = #[.int .i64 x0,.int .i64 x1,undef,undef,undef,undef,undef,undef,undef,undef,undef,undef,undef,undef,undef,undef,undef,undef] := by kernel_rfl
theorem k46_0 : P46 [] = .seq (P46 [0]) (P46 [1]) := by kernel_rfl
theorem k46_1 : P46 [0] = .region 0 (O46 [0]) false := by kernel_rfl
theorem r46_0 {x1 : Int} {M : Mem} {call : CallM} {K : Array Value → Mem → R} :
    opsK Try.prog (fun _ => call) (O46 [0]) (O46 [0]).toList 0 #[g0,.int .i64 x1,g2,g3,g4,g5,g6,g7,g8,g9,g10,g11,g12,g13,g14,g15,g16,g17] M K = K #[g0,.int .i64 x1,g2,.pointer (some ⟨2 * M.nb.size, 0, none⟩),.nilFunc,g5,g6,g7,g8,g9,g10,g11,g12,g13,g14,g15,g16,g17] (M.new (.cells #[.int .i64 x1] 3)) := by kernel_rfl
theorem k46_2 : P46 [1] = .seq (P46 [1,0]) (P46 [1,1]) := by kernel_rfl
theorem k46_3 : P46 [1,0] = .seq (P46 [1,0,0]) (P46 [1,0,1]) := by kernel_rfl
theorem k46_4 : P46 [1,0,0] = .region 1 (O46 [1,0,0]) false := by kernel_rfl
theorem r46_1 {x3 : Option Addr} {M : Mem} {call : CallM} {K : Array Value → Mem → R} :
    opsK Try.prog (fun _ => call) (O46 [1,0,0]) (O46 [1,0,0]).toList 0 #[g0,g1,g2,.pointer x3,g4,g5,g6,g7,g8,g9,g10,g11,g12,g13,g14,g15,g16,g17] M K = (x3).bind fun a_1 => (M.intAt .i64 a_1.block a_1.off).bind fun x_2 => K #[g0,g1,g2,.pointer x3,g4,.int .i64 x_2,.bool (x_2 == 9),g7,g8,g9,g10,g11,g12,g13,g14,g15,g16,g17] M := by kernel_rfl
theorem c46_5 : P46 [1,0,1] = .cond (.tmp 6) (P46 [1,0,1,0]) (P46 [1,0,1,1]) := by kernel_rfl
theorem k46_6 : P46 [1,0,1,0] = .seq (P46 [1,0,1,0,0]) (P46 [1,0,1,0,1]) := by kernel_rfl
theorem k46_7 : P46 [1,0,1,0,0] = .region 2 (O46 [1,0,1,0,0]) false := by kernel_rfl
theorem r46_2 {M : Mem} {call : CallM} {K : Array Value → Mem → R} :
    opsK Try.prog (fun _ => call) (O46 [1,0,1,0,0]) (O46 [1,0,1,0,0]).toList 0 #[g0,g1,g2,g3,g4,g5,g6,g7,g8,g9,g10,g11,g12,g13,g14,g15,g16,g17] M K = K #[g0,g1,g2,g3,.func (.func 58) #[] #[],g5,g6,g7,g8,g9,g10,g11,g12,g13,g14,g15,g16,g17] M := by kernel_rfl
theorem k46_8 : P46 [1,0,1,0,1] = .ret := by kernel_rfl
theorem e46 {M : Mem} : finish Try.prog Try.f46 #[g0,g1,g2,g3,g4,g5,g6,g7,g8,g9,g10,g11,g12,g13,g14,g15,g16,g17] M = some (g4, M) := by kernel_rfl
theorem k46_10 : P46 [1,0,1,1] = .skip := by kernel_rfl
theorem k46_11 : P46 [1,1] = .seq (P46 [1,1,0]) (P46 [1,1,1]) := by kernel_rfl
theorem k46_12 : P46 [1,1,0] = .seq (P46 [1,1,0,0]) (P46 [1,1,0,1]) := by kernel_rfl
theorem k46_13 : P46 [1,1,0,0] = .region 3 (O46 [1,1,0,0]) false := by kernel_rfl
theorem r46_3 {x0 : Int} {M : Mem} {call : CallM} {K : Array Value → Mem → R} :
    opsK Try.prog (fun _ => call) (O46 [1,1,0,0]) (O46 [1,1,0,0]).toList 0 #[.int .i64 x0,g1,g2,g3,g4,g5,g6,g7,g8,g9,g10,g11,g12,g13,g14,g15,g16,g17] M K = K #[.int .i64 x0,g1,g2,g3,g4,g5,g6,.int .i64 x0,g8,g9,g10,g11,g12,g13,g14,g15,g16,g17] M := by kernel_rfl
theorem k46_14 : P46 [1,1,0,1] = .block 0 (P46 [1,1,0,1,0]) := by kernel_rfl
theorem k46_15 : P46 [1,1,0,1,0] = .seq (P46 [1,1,0,1,0,0]) (P46 [1,1,0,1,0,1]) := by kernel_rfl
theorem k46_16 : P46 [1,1,0,1,0,0] = .region 4 (O46 [1,1,0,1,0,0]) false := by kernel_rfl
theorem r46_4 {x7 : Int} {M : Mem} {call : CallM} {K : Array Value → Mem → R} :
    opsK Try.prog (fun _ => call) (O46 [1,1,0,1,0,0]) (O46 [1,1,0,1,0,0]).toList 0 #[g0,g1,g2,g3,g4,g5,g6,.int .i64 x7,g8,g9,g10,g11,g12,g13,g14,g15,g16,g17] M K = K #[g0,g1,g2,g3,g4,g5,g6,.int .i64 x7,.bool (x7 == 4),.bool (x7 == 4),g10,g11,g12,g13,g14,g15,g16,g17] M := by kernel_rfl
theorem c46_17 : P46 [1,1,0,1,0,1] = .cond (.tmp 8) (P46 [1,1,0,1,0,1,0]) (P46 [1,1,0,1,0,1,1]) := by kernel_rfl
theorem k46_18 : P46 [1,1,0,1,0,1,0] = .seq (P46 [1,1,0,1,0,1,0,0]) (P46 [1,1,0,1,0,1,0,1]) := by kernel_rfl
theorem k46_19 : P46 [1,1,0,1,0,1,0,0] = .region 5 (O46 [1,1,0,1,0,1,0,0]) false := by kernel_rfl
theorem r46_5 {M : Mem} {call : CallM} {K : Array Value → Mem → R} :
    opsK Try.prog (fun _ => call) (O46 [1,1,0,1,0,1,0,0]) (O46 [1,1,0,1,0,1,0,0]).toList 0 #[g0,g1,g2,g3,g4,g5,g6,g7,g8,g9,g10,g11,g12,g13,g14,g15,g16,g17] M K = K #[g0,g1,g2,g3,.func (.func 59) #[] #[],g5,g6,g7,g8,g9,g10,g11,g12,g13,g14,g15,g16,g17] M := by kernel_rfl
theorem k46_20 : P46 [1,1,0,1,0,1,0,1] = .ret := by kernel_rfl
theorem k46_21 : P46 [1,1,0,1,0,1,1] = .seq (P46 [1,1,0,1,0,1,1,0]) (P46 [1,1,0,1,0,1,1,1]) := by kernel_rfl
theorem k46_22 : P46 [1,1,0,1,0,1,1,0] = .region 6 (O46 [1,1,0,1,0,1,1,0]) false := by kernel_rfl
theorem r46_6 {x7 : Int} {M : Mem} {call : CallM} {K : Array Value → Mem → R} :
    opsK Try.prog (fun _ => call) (O46 [1,1,0,1,0,1,1,0]) (O46 [1,1,0,1,0,1,1,0]).toList 0 #[g0,g1,g2,g3,g4,g5,g6,.int .i64 x7,g8,g9,g10,g11,g12,g13,g14,g15,g16,g17] M K = K #[g0,g1,g2,g3,g4,g5,g6,.int .i64 x7,g8,g9,.bool (x7 == 8),.bool (x7 == 8),g12,g13,g14,g15,g16,g17] M := by kernel_rfl
theorem c46_23 : P46 [1,1,0,1,0,1,1,1] = .cond (.tmp 10) (P46 [1,1,0,1,0,1,1,1,0]) (P46 [1,1,0,1,0,1,1,1,1]) := by kernel_rfl
theorem k46_24 : P46 [1,1,0,1,0,1,1,1,0] = .seq (P46 [1,1,0,1,0,1,1,1,0,0]) (P46 [1,1,0,1,0,1,1,1,0,1]) := by kernel_rfl
theorem k46_25 : P46 [1,1,0,1,0,1,1,1,0,0] = .region 7 (O46 [1,1,0,1,0,1,1,1,0,0]) false := by kernel_rfl
theorem r46_7 {M : Mem} {call : CallM} {K : Array Value → Mem → R} :
    opsK Try.prog (fun _ => call) (O46 [1,1,0,1,0,1,1,1,0,0]) (O46 [1,1,0,1,0,1,1,1,0,0]).toList 0 #[g0,g1,g2,g3,g4,g5,g6,g7,g8,g9,g10,g11,g12,g13,g14,g15,g16,g17] M K = K #[g0,g1,g2,g3,.func (.func 60) #[] #[],g5,g6,g7,g8,g9,g10,g11,g12,g13,g14,g15,g16,g17] M := by kernel_rfl
theorem k46_26 : P46 [1,1,0,1,0,1,1,1,0,1] = .ret := by kernel_rfl
theorem k46_27 : P46 [1,1,0,1,0,1,1,1,1] = .seq (P46 [1,1,0,1,0,1,1,1,1,0]) (P46 [1,1,0,1,0,1,1,1,1,1]) := by kernel_rfl
theorem k46_28 : P46 [1,1,0,1,0,1,1,1,1,0] = .region 8 (O46 [1,1,0,1,0,1,1,1,1,0]) false := by kernel_rfl
theorem r46_8 {x7 : Int} {M : Mem} {call : CallM} {K : Array Value → Mem → R} :
    opsK Try.prog (fun _ => call) (O46 [1,1,0,1,0,1,1,1,1,0]) (O46 [1,1,0,1,0,1,1,1,1,0]).toList 0 #[g0,g1,g2,g3,g4,g5,g6,.int .i64 x7,g8,g9,g10,g11,g12,g13,g14,g15,g16,g17] M K = K #[g0,g1,g2,g3,g4,g5,g6,.int .i64 x7,g8,g9,g10,g11,.bool (x7 == 32),.bool (x7 == 32),g14,g15,g16,g17] M := by kernel_rfl
theorem c46_29 : P46 [1,1,0,1,0,1,1,1,1,1] = .cond (.tmp 12) (P46 [1,1,0,1,0,1,1,1,1,1,0]) (P46 [1,1,0,1,0,1,1,1,1,1,1]) := by kernel_rfl
theorem k46_30 : P46 [1,1,0,1,0,1,1,1,1,1,0] = .seq (P46 [1,1,0,1,0,1,1,1,1,1,0,0]) (P46 [1,1,0,1,0,1,1,1,1,1,0,1]) := by kernel_rfl
theorem k46_31 : P46 [1,1,0,1,0,1,1,1,1,1,0,0] = .region 9 (O46 [1,1,0,1,0,1,1,1,1,1,0,0]) false := by kernel_rfl
theorem r46_9 {x3 : Option Addr} {M : Mem} {call : CallM} {K : Array Value → Mem → R} :
    opsK Try.prog (fun _ => call) (O46 [1,1,0,1,0,1,1,1,1,1,0,0]) (O46 [1,1,0,1,0,1,1,1,1,1,0,0]).toList 0 #[g0,g1,g2,.pointer x3,g4,g5,g6,g7,g8,g9,g10,g11,g12,g13,g14,g15,g16,g17] M K = K #[g0,g1,g2,.pointer x3,.func (.func 61) #[] #[.pointer x3],g5,g6,g7,g8,g9,g10,g11,g12,g13,.func (.func 61) #[] #[.pointer x3],g15,g16,g17] M := by kernel_rfl
theorem k46_32 : P46 [1,1,0,1,0,1,1,1,1,1,0,1] = .ret := by kernel_rfl
theorem k46_33 : P46 [1,1,0,1,0,1,1,1,1,1,1] = .seq (P46 [1,1,0,1,0,1,1,1,1,1,1,0]) (P46 [1,1,0,1,0,1,1,1,1,1,1,1]) := by kernel_rfl
theorem k46_34 : P46 [1,1,0,1,0,1,1,1,1,1,1,0] = .region 10 (O46 [1,1,0,1,0,1,1,1,1,1,1,0]) false := by kernel_rfl
theorem r46_10 {x7 : Int} {M : Mem} {call : CallM} {K : Array Value → Mem → R} :
    opsK Try.prog (fun _ => call) (O46 [1,1,0,1,0,1,1,1,1,1,1,0]) (O46 [1,1,0,1,0,1,1,1,1,1,1,0]).toList 0 #[g0,g1,g2,g3,g4,g5,g6,.int .i64 x7,g8,g9,g10,g11,g12,g13,g14,g15,g16,g17] M K = K #[g0,g1,g2,g3,g4,g5,g6,.int .i64 x7,g8,g9,g10,g11,g12,g13,g14,.bool (x7 == 64),.bool (x7 == 64),g17] M := by kernel_rfl
theorem c46_35 : P46 [1,1,0,1,0,1,1,1,1,1,1,1] = .cond (.tmp 15) (P46 [1,1,0,1,0,1,1,1,1,1,1,1,0]) (P46 [1,1,0,1,0,1,1,1,1,1,1,1,1]) := by kernel_rfl
theorem k46_36 : P46 [1,1,0,1,0,1,1,1,1,1,1,1,0] = .seq (P46 [1,1,0,1,0,1,1,1,1,1,1,1,0,0]) (P46 [1,1,0,1,0,1,1,1,1,1,1,1,0,1]) := by kernel_rfl
theorem k46_37 : P46 [1,1,0,1,0,1,1,1,1,1,1,1,0,0] = .region 11 (O46 [1,1,0,1,0,1,1,1,1,1,1,1,0,0]) false := by kernel_rfl
theorem r46_11 {x3 : Option Addr} {M : Mem} {call : CallM} {K : Array Value → Mem → R} :
    opsK Try.prog (fun _ => call) (O46 [1,1,0,1,0,1,1,1,1,1,1,1,0,0]) (O46 [1,1,0,1,0,1,1,1,1,1,1,1,0,0]).toList 0 #[g0,g1,g2,.pointer x3,g4,g5,g6,g7,g8,g9,g10,g11,g12,g13,g14,g15,g16,g17] M K = K #[g0,g1,g2,.pointer x3,.func (.func 62) #[] #[.pointer x3],g5,g6,g7,g8,g9,g10,g11,g12,g13,g14,g15,g16,.func (.func 62) #[] #[.pointer x3]] M := by kernel_rfl
theorem k46_38 : P46 [1,1,0,1,0,1,1,1,1,1,1,1,0,1] = .ret := by kernel_rfl
theorem k46_39 : P46 [1,1,0,1,0,1,1,1,1,1,1,1,1] = .skip := by kernel_rfl
theorem k46_40 : P46 [1,1,1] = .seq (P46 [1,1,1,0]) (P46 [1,1,1,1]) := by kernel_rfl
theorem k46_41 : P46 [1,1,1,0] = .region 12 (O46 [1,1,1,0]) false := by kernel_rfl
theorem r46_12 {M : Mem} {call : CallM} {K : Array Value → Mem → R} :
    opsK Try.prog (fun _ => call) (O46 [1,1,1,0]) (O46 [1,1,1,0]).toList 0 #[g0,g1,g2,g3,g4,g5,g6,g7,g8,g9,g10,g11,g12,g13,g14,g15,g16,g17] M K = K #[g0,g1,g2,g3,.func (.func 28) #[] #[],g5,g6,g7,g8,g9,g10,g11,g12,g13,g14,g15,g16,g17] M := by kernel_rfl
theorem k46_42 : P46 [1,1,1,1] = .ret := by kernel_rfl
theorem w46_0 {x0 x1 : Int} {M : Mem} {Q : Value → Mem → Prop} (H :
    ∃ x1', (M.new (.cells #[.int .i64 x1] 3)).intAt .i64 (2 * M.nb.size) 0 = some x1' ∧
    ((x1' = 9 →
     Q (.func (.func 58) #[] #[]) (M.new (.cells #[.int .i64 x1] 3))) ∧
     (x1' ≠ 9 →
     ((x0 = 4 →
      Q (.func (.func 59) #[] #[]) (M.new (.cells #[.int .i64 x1] 3))) ∧
      (x0 ≠ 4 →
      ((x0 = 8 →
       Q (.func (.func 60) #[] #[]) (M.new (.cells #[.int .i64 x1] 3))) ∧
       (x0 ≠ 8 →
       ((x0 = 32 →
        Q (.func (.func 61) #[] #[.pointer (some ⟨2 * M.nb.size, 0, none⟩)]) (M.new (.cells #[.int .i64 x1] 3))) ∧
        (x0 ≠ 32 →
        ((x0 = 64 →
         Q (.func (.func 62) #[] #[.pointer (some ⟨2 * M.nb.size, 0, none⟩)]) (M.new (.cells #[.int .i64 x1] 3))) ∧
         (x0 ≠ 64 →
         Q (.func (.func 28) #[] #[]) (M.new (.cells #[.int .i64 x1] 3))))))))))))) :
    Cn Try.prog 46 #[.int .i64 x0, .int .i64 x1] M Q := by
  refine Cn.of b46 d46 t46 ?_
  refine Rn.seq k46_0 (Rn.region k46_1 (fun call K => r46_0) (Rch.leaf (Rn.seq k46_2 (Rn.seq k46_3 (Rn.region k46_4 (fun call K => r46_1) (Rch.bind (x := ⟨2 * M.nb.size, 0, none⟩) rfl (Rch.ex H fun x1' H => Rch.leaf ?_)))))))
  refine Rn.cnd (v := x1' == 9) ⟨c46_5, rfl, by kernel_rfl⟩ (fun h => ?_) (fun h => ?_)
  · replace H := H.1 (eq_of_beq h)
    refine Rn.seq k46_6 (Rn.region k46_7 (fun call K => r46_2) (Rch.leaf ?_))
    exact Rn.ret k46_8 e46 H
  · replace H := H.2 (ne_of_beq_false h)
    refine Rn.skip k46_10 (Rn.seq k46_11 (Rn.seq k46_12 (Rn.region k46_13 (fun call K => r46_3) (Rch.leaf (Rn.block k46_14 (Rn.seq k46_15 (Rn.region k46_16 (fun call K => r46_4) (Rch.leaf ?_))))))))
    refine Rn.cnd (v := x0 == 4) ⟨c46_17, rfl, by kernel_rfl⟩ (fun h => ?_) (fun h => ?_)
    · replace H := H.1 (eq_of_beq h)
      refine Rn.seq k46_18 (Rn.region k46_19 (fun call K => r46_5) (Rch.leaf ?_))
      exact Rn.ret k46_20 e46 H
    · replace H := H.2 (ne_of_beq_false h)
      refine Rn.seq k46_21 (Rn.region k46_22 (fun call K => r46_6) (Rch.leaf ?_))
      refine Rn.cnd (v := x0 == 8) ⟨c46_23, rfl, by kernel_rfl⟩ (fun h => ?_) (fun h => ?_)
      · replace H := H.1 (eq_of_beq h)
        refine Rn.seq k46_24 (Rn.region k46_25 (fun call K => r46_7) (Rch.leaf ?_))
        exact Rn.ret k46_26 e46 H
      · replace H := H.2 (ne_of_beq_false h)
        refine Rn.seq k46_27 (Rn.region k46_28 (fun call K => r46_8) (Rch.leaf ?_))
        refine Rn.cnd (v := x0 == 32) ⟨c46_29, rfl, by kernel_rfl⟩ (fun h => ?_) (fun h => ?_)
        · replace H := H.1 (eq_of_beq h)
          refine Rn.seq k46_30 (Rn.region k46_31 (fun call K => r46_9) (Rch.leaf ?_))
          exact Rn.ret k46_32 e46 H
        · replace H := H.2 (ne_of_beq_false h)
          refine Rn.seq k46_33 (Rn.region k46_34 (fun call K => r46_10) (Rch.leaf ?_))
          refine Rn.cnd (v := x0 == 64) ⟨c46_35, rfl, by kernel_rfl⟩ (fun h => ?_) (fun h => ?_)
          · replace H := H.1 (eq_of_beq h)
            refine Rn.seq k46_36 (Rn.region k46_37 (fun call K => r46_11) (Rch.leaf ?_))
            exact Rn.ret k46_38 e46 H
          · replace H := H.2 (ne_of_beq_false h)
            refine Rn.skip k46_39 (Rn.blk (Rn.seq k46_40 (Rn.region k46_41 (fun call K => r46_12) (Rch.leaf ?_))))
            exact Rn.ret k46_42 e46 H


/-! ### zoetrope/txfm.scaled$1: function 58 -/
noncomputable abbrev P58 (p : List Nat) : Code := subC (codeOf Try.f58) p
noncomputable abbrev O58 (p : List Nat) : Array Oper := opsOf (subC (codeOf Try.f58) p)
theorem b58 : Try.prog.funcs[58]? = some Try.f58 ∧ (Orc.tab Try.prog).lookup 58 = none := ⟨by kernel_rfl, by kernel_rfl⟩
theorem d58 : Try.f58.body = some (P58 []) := by kernel_rfl
theorem t58 {x0 : Int} : #[.int .i64 x0] ++ Array.replicate (Try.f58.ntmps - (#[.int .i64 x0] : Array Value).size) undef = #[.int .i64 x0,undef,undef,undef] := by kernel_rfl
theorem k58_0 : P58 [] = .seq (P58 [0]) (P58 [1]) := by kernel_rfl
theorem k58_1 : P58 [0] = .region 0 (O58 [0]) false := by kernel_rfl
theorem r58_0 {M : Mem} {call : CallM} {K : Array Value → Mem → R} :
    opsK Try.prog (fun _ => call) (O58 [0]) (O58 [0]).toList 0 #[g0,g1,g2,g3] M K = K #[g0,g1,.int .i64 0,g3] M := by kernel_rfl
theorem k58_2 : P58 [1] = .seq (P58 [1,0]) (P58 [1,1]) := by kernel_rfl
theorem k58_3 : P58 [1,0] = .region 1 (O58 [1,0]) false := by kernel_rfl
theorem r58_1 {x0 : Int} {M : Mem} {call : CallM} {K : Array Value → Mem → R} :
    opsK Try.prog (fun _ => call) (O58 [1,0]) (O58 [1,0]).toList 0 #[.int .i64 x0,g1,g2,g3] M K = K #[.int .i64 x0,g1,.int .i64 x0,.int .i64 x0] M := by kernel_rfl
theorem k58_4 : P58 [1,1] = .ret := by kernel_rfl
theorem e58 {M : Mem} : finish Try.prog Try.f58 #[g0,g1,g2,g3] M = some (g2, M) := by kernel_rfl
theorem w58_0 {x0 : Int} {M : Mem} {Q : Value → Mem → Prop} (H :
    Q (.int .i64 x0) M) :
    Cn Try.prog 58 #[.int .i64 x0] M Q := by
  refine Cn.of b58 d58 t58 ?_
  refine Rn.seq k58_0 (Rn.region k58_1 (fun call K => r58_0) (Rch.leaf (Rn.seq k58_2 (Rn.region k58_3 (fun call K => r58_1) (Rch.leaf ?_)))))
  exact Rn.ret k58_4 e58 H


/-! ### zoetrope/txfm.scaled$2: function 59 -/
noncomputable abbrev P59 (p : List Nat) : Code := subC (codeOf Try.f59) p
noncomputable abbrev O59 (p : List Nat) : Array Oper := opsOf (subC (codeOf Try.f59) p)
theorem b59 : Try.prog.funcs[59]? = some Try.f59 ∧ (Orc.tab Try.prog).lookup 59 = none := ⟨by kernel_rfl, by kernel_rfl⟩
theorem d59 : Try.f59.body = some (P59 []) := by kernel_rfl
theorem t59 {x0 : Int} : #[.int .i64 x0] ++ Array.replicate (Try.f59.ntmps - (#[.int .i64 x0] : Array Value).size) undef = #[.int .i64 x0,undef,undef,undef,undef,undef] := by kernel_rfl
theorem k59_0 : P59 [] = .seq (P59 [0]) (P59 [1]) := by kernel_rfl
theorem k59_1 : P59 [0] = .region 0 (O59 [0]) false := by kernel_rfl
theorem r59_0 {M : Mem} {call : CallM} {K : Array Value → Mem → R} :
    opsK Try.prog (fun _ => call) (O59 [0]) (O59 [0]).toList 0 #[g0,g1,g2,g3,g4,g5] M K = K #[g0,g1,.int .i64 0,g3,g4,g5] M := by kernel_rfl
theorem k59_2 : P59 [1] = .seq (P59 [1,0]) (P59 [1,1]) := by kernel_rfl
theorem k59_3 : P59 [1,0] = .region 1 (O59 [1,0]) false := by kernel_rfl
theorem r59_1 {x0 : Int} {M : Mem} {call : CallM} {K : Array Value → Mem → R} :
    opsK Try.prog (fun _ => call) (O59 [1,0]) (O59 [1,0]).toList 0 #[.int .i64 x0,g1,g2,g3,g4,g5] M K = (call 28 #[.int .i64 (IntKind.i64.wrap (4 * x0))] M).bind fun r_1 => (asI .i64 r_1.1).bind fun x_2 => K #[.int .i64 x0,g1,.int .i64 x_2,.int .i64 x0,.int .i64 (IntKind.i64.wrap (4 * x0)),.int .i64 x_2] r_1.2 := by kernel_rfl
theorem k59_4 : P59 [1,1] = .ret := by kernel_rfl
theorem e59 {M : Mem} : finish Try.prog Try.f59 #[g0,g1,g2,g3,g4,g5] M = some (g2, M) := by kernel_rfl
theorem w59_0 {x0 : Int} {M : Mem} {Q : Value → Mem → Prop} (H :
    Cn Try.prog 28 #[.int .i64 (IntKind.i64.wrap (4 * x0))] M fun v1' N1' =>
     ∃ x2', asI .i64 v1' = some x2' ∧
     Q (.int .i64 (x2')) N1') :
    Cn Try.prog 59 #[.int .i64 x0] M Q := by
  refine Cn.of b59 d59 t59 ?_
  refine Rn.seq k59_0 (Rn.region k59_1 (fun call K => r59_0) (Rch.leaf (Rn.seq k59_2 (Rn.region k59_3 (fun call K => r59_1) (Rch.call H fun v1' N1' H => Rch.ex H fun x2' H => Rch.leaf ?_)))))
  exact Rn.ret k59_4 e59 H


/-! ### zoetrope/txfm.scaled$3: function 60 -/
noncomputable abbrev P60 (p : List Nat) : Code := subC (codeOf Try.f60) p
noncomputable abbrev O60 (p : List Nat) : Array Oper := opsOf (subC (codeOf Try.f60) p)
theorem b60 : Try.prog.funcs[60]? = some Try.f60 ∧ (Orc.tab Try.prog).lookup 60 = none := ⟨by kernel_rfl, by kernel_rfl⟩
theorem d60 : Try.f60.body = some (P60 []) := by kernel_rfl
theorem t60 {x0 : Int} : #[.int .i64 x0] ++ Array.replicate (Try.f60.ntmps - (#[.int .i64 x0] : Array Value).size) undef = #[.int .i64 x0,undef,undef,undef,undef,undef] := by kernel_rfl
theorem k60_0 : P60 [] = .seq (P60 [0]) (P60 [1]) := by kernel_rfl
theorem k60_1 : P60 [0] = .region 0 (O60 [0]) false := by kernel_rfl
theorem r60_0 {M : Mem} {call : CallM} {K : Array Value → Mem → R} :
    opsK Try.prog (fun _ => call) (O60 [0]) (O60 [0]).toList 0 #[g0,g1,g2,g3,g4,g5] M K = K #[g0,g1,.int .i64 0,g3,g4,g5] M := by kernel_rfl
theorem k60_2 : P60 [1] = .seq (P60 [1,0]) (P60 [1,1]) := by kernel_rfl
theorem k60_3 : P60 [1,0] = .region 1 (O60 [1,0]) false := by kernel_rfl
theorem r60_1 {x0 : Int} {M : Mem} {call : CallM} {K : Array Value → Mem → R} :
    opsK Try.prog (fun _ => call) (O60 [1,0]) (O60 [1,0]).toList 0 #[.int .i64 x0,g1,g2,g3,g4,g5] M K = (call 28 #[.int .i64 (IntKind.i64.wrap (2 * x0))] M).bind fun r_1 => (asI .i64 r_1.1).bind fun x_2 => K #[.int .i64 x0,g1,.int .i64 x_2,.int .i64 x0,.int .i64 (IntKind.i64.wrap (2 * x0)),.int .i64 x_2] r_1.2 := by kernel_rfl
theorem k60_4 : P60 [1,1] = .ret := by kernel_rfl
theorem e60 {M : Mem} : finish Try.prog Try.f60 #[g0,g1,g2,g3,g4,g5] M = some (g2, M) := by kernel_rfl
theorem w60_0 {x0 : Int} {M : Mem} {Q : Value → Mem → Prop} (H :
    Cn Try.prog 28 #[.int .i64 (IntKind.i64.wrap (2 * x0))] M fun v1' N1' =>
     ∃ x2', asI .i64 v1' = some x2' ∧
     Q (.int .i64 (x2')) N1') :
    Cn Try.prog 60 #[.int .i64 x0] M Q := by
  refine Cn.of b60 d60 t60 ?_
  refine Rn.seq k60_0 (Rn.region k60_1 (fun call K => r60_0) (Rch.leaf (Rn.seq k60_2 (Rn.region k60_3 (fun call K => r60_1) (Rch.call H fun v1' N1' H => Rch.ex H fun x2' H => Rch.leaf ?_)))))
  exact Rn.ret k60_4 e60 H


/-! ### zoetrope/txfm.scaled$4: function 61 -/
noncomputable abbrev P61 (p : List Nat) : Code := subC (codeOf Try.f61) p
noncomputable abbrev O61 (p : List Nat) : Array Oper := opsOf (subC (codeOf Try.f61) p)
theorem b61 : Try.prog.funcs[61]? = some Try.f61 ∧ (Orc.tab Try.prog).lookup 61 = none := ⟨by kernel_rfl, by kernel_rfl⟩
theorem d61 : Try.f61.body = some (P61 []) := by kernel_rfl
theorem t61 {x0 : Int} {x1 : Option Addr} : #[.int .i64 x0,.pointer x1] ++ Array.replicate (Try.f61.ntmps - (#[.int .i64 x0,.pointer x1] : Array Value).size) undef = #[.int .i64 x0,.pointer x1,undef,undef,undef,undef,undef,undef,undef] := by kernel_rfl
theorem k61_0 : P61 [] = .seq (P61 [0]) (P61 [1]) := by kernel_rfl
theorem k61_1 : P61 [0] = .region 0 (O61 [0]) false := by kernel_rfl
theorem r61_0 {M : Mem} {call : CallM} {K : Array Value → Mem → R} :
    opsK Try.prog (fun _ => call) (O61 [0]) (O61 [0]).toList 0 #[g0,g1,g2,g3,g4,g5,g6,g7,g8] M K = K #[g0,g1,g2,.int .i64 0,g4,g5,g6,g7,g8] M := by kernel_rfl
theorem k61_2 : P61 [1] = .seq (P61 [1,0]) (P61 [1,1]) := by kernel_rfl
theorem k61_3 : P61 [1,0] = .region 1 (O61 [1,0]) false := by kernel_rfl
theorem r61_1 {x0 : Int} {x1 : Option Addr} {M : Mem} {call : CallM} {K : Array Value → Mem → R} :
    opsK Try.prog (fun _ => call) (O61 [1,0]) (O61 [1,0]).toList 0 #[.int .i64 x0,.pointer x1,g2,g3,g4,g5,g6,g7,g8] M K = (x1).bind fun a_1 => (M.intAt .i64 a_1.block a_1.off).bind fun x_2 => (call 30 #[.int .i64 2, .int .i64 x_2] M).bind fun r_3 => (callVal Try.prog (r_3.1) #[.int .i64 x0]).bind fun q_5 => (call q_5.1 q_5.2 r_3.2).bind fun r_4 => (asI .i64 r_4.1).bind fun x_6 => (call 28 #[.int .i64 x_6] r_4.2).bind fun r_7 => (asI .i64 r_7.1).bind fun x_8 => K #[.int .i64 x0,.pointer x1,g2,.int .i64 x_8,.int .i64 x_2,r_3.1,.int .i64 x0,.int .i64 x_6,.int .i64 x_8] r_7.2 := by kernel_rfl
theorem k61_4 : P61 [1,1] = .ret := by kernel_rfl
theorem e61 {M : Mem} : finish Try.prog Try.f61 #[g0,g1,g2,g3,g4,g5,g6,g7,g8] M = some (g3, M) := by kernel_rfl
theorem w61_0 {x0 : Int} {x1 : Option Addr} {M : Mem} {Q : Value → Mem → Prop} (H :
    ∃ a1', x1 = some a1' ∧
    ∃ x2', M.intAt .i64 a1'.block a1'.off = some x2' ∧
    Cn Try.prog 30 #[.int .i64 2, .int .i64 x2'] M fun v3' N3' =>
     ∃ q4', callVal Try.prog (v3') #[.int .i64 x0] = some q4' ∧
     Cn Try.prog q4'.1 q4'.2 N3' fun v5' N5' =>
      ∃ x6', asI .i64 v5' = some x6' ∧
      Cn Try.prog 28 #[.int .i64 x6'] N5' fun v7' N7' =>
       ∃ x8', asI .i64 v7' = some x8' ∧
       Q (.int .i64 (x8')) N7') :
    Cn Try.prog 61 #[.int .i64 x0, .pointer x1] M Q := by
  refine Cn.of b61 d61 t61 ?_
  refine Rn.seq k61_0 (Rn.region k61_1 (fun call K => r61_0) (Rch.leaf (Rn.seq k61_2 (Rn.region k61_3 (fun call K => r61_1) (Rch.ex H fun a1' H => Rch.ex H fun x2' H => Rch.call H fun v3' N3' H => Rch.ex H fun q4' H => Rch.call H fun v5' N5' H => Rch.ex H fun x6' H => Rch.call H fun v7' N7' H => ?_)))))
  refine Rch.ex H fun x8' H => Rch.leaf ?_
  exact Rn.ret k61_4 e61 H


/-! ### zoetrope/txfm.scaled$5: function 62 -/
noncomputable abbrev P62 (p : List Nat) : Code := subC (codeOf Try.f62) p
noncomputable abbrev O62 (p : List Nat) : Array Oper := opsOf (subC (codeOf Try.f62) p)
theorem b62 : Try.prog.funcs[62]? = some Try.f62 ∧ (Orc.tab Try.prog).lookup 62 = none := ⟨by kernel_rfl, by kernel_rfl⟩
theorem d62 : Try.f62.body = some (P62 []) := by kernel_rfl
theorem t62 {x0 : Int} {x1 : Option Addr} : #[.int .i64 x0,.pointer x1] ++ Array.replicate (Try.f62.ntmps - (#[.int .i64 x0,.pointer x1] : Array Value).size) undef = #[.int .i64 x0,.pointer x1,undef,undef,undef,undef,undef,undef,undef] := by kernel_rfl
theorem k62_0 : P62 [] = .seq (P62 [0]) (P62 [1]) := by kernel_rfl
theorem k62_1 : P62 [0] = .region 0 (O62 [0]) false := by kernel_rfl
theorem r62_0 {M : Mem} {call : CallM} {K : Array Value → Mem → R} :
    opsK Try.prog (fun _ => call) (O62 [0]) (O62 [0]).toList 0 #[g0,g1,g2,g3,g4,g5,g6,g7,g8] M K = K #[g0,g1,g2,.int .i64 0,g4,g5,g6,g7,g8] M := by kernel_rfl
theorem k62_2 : P62 [1] = .seq (P62 [1,0]) (P62 [1,1]) := by kernel_rfl
theorem k62_3 : P62 [1,0] = .region 1 (O62 [1,0]) false := by kernel_rfl
theorem r62_1 {x0 : Int} {x1 : Option Addr} {M : Mem} {call : CallM} {K : Array Value → Mem → R} :
    opsK Try.prog (fun _ => call) (O62 [1,0]) (O62 [1,0]).toList 0 #[.int .i64 x0,.pointer x1,g2,g3,g4,g5,g6,g7,g8] M K = (x1).bind fun a_1 => (M.intAt .i64 a_1.block a_1.off).bind fun x_2 => (call 30 #[.int .i64 4, .int .i64 x_2] M).bind fun r_3 => (callVal Try.prog (r_3.1) #[.int .i64 x0]).bind fun q_5 => (call q_5.1 q_5.2 r_3.2).bind fun r_4 => (asI .i64 r_4.1).bind fun x_6 => (call 28 #[.int .i64 x_6] r_4.2).bind fun r_7 => (asI .i64 r_7.1).bind fun x_8 => K #[.int .i64 x0,.pointer x1,g2,.int .i64 x_8,.int .i64 x_2,r_3.1,.int .i64 x0,.int .i64 x_6,.int .i64 x_8] r_7.2 := by kernel_rfl
theorem k62_4 : P62 [1,1] = .ret := by kernel_rfl
theorem e62 {M : Mem} : finish Try.prog Try.f62 #[g0,g1,g2,g3,g4,g5,g6,g7,g8] M = some (g3, M) := by kernel_rfl
theorem w62_0 {x0 : Int} {x1 : Option Addr} {M : Mem} {Q : Value → Mem → Prop} (H :
    ∃ a1', x1 = some a1' ∧
    ∃ x2', M.intAt .i64 a1'.block a1'.off = some x2' ∧
    Cn Try.prog 30 #[.int .i64 4, .int .i64 x2'] M fun v3' N3' =>
     ∃ q4', callVal Try.prog (v3') #[.int .i64 x0] = some q4' ∧
     Cn Try.prog q4'.1 q4'.2 N3' fun v5' N5' =>
      ∃ x6', asI .i64 v5' = some x6' ∧
      Cn Try.prog 28 #[.int .i64 x6'] N5' fun v7' N7' =>
       ∃ x8', asI .i64 v7' = some x8' ∧
       Q (.int .i64 (x8')) N7') :
    Cn Try.prog 62 #[.int .i64 x0, .pointer x1] M Q := by
  refine Cn.of b62 d62 t62 ?_
  refine Rn.seq k62_0 (Rn.region k62_1 (fun call K => r62_0) (Rch.leaf (Rn.seq k62_2 (Rn.region k62_3 (fun call K => r62_1) (Rch.ex H fun a1' H => Rch.ex H fun x2' H => Rch.call H fun v3' N3' H => Rch.ex H fun q4' H => Rch.call H fun v5' N5' H => Rch.ex H fun x6' H => Rch.call H fun v7' N7' H => ?_)))))
  refine Rch.ex H fun x8' H => Rch.leaf ?_
  exact Rn.ret k62_4 e62 H


end Go.Zt

