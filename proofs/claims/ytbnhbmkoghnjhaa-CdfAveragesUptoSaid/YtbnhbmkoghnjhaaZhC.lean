/- The functions' walks: for each function and each loop a rule of what it comes to. Printed by zw.py. -/
import Derived.Test.YtbnhbmkoghnjhaaProg
import Derived.Test.YtbnhbmkoghnjhaaZhA
set_option linter.unusedVariables false
set_option maxRecDepth 100000
namespace Go.Zt
open Go Go.Sim Go.Proofs

variable {g0 g1 g2 g3 g4 g5 g6 g7 g8 g9 g10 g11 g12 g13 g14 g15 g16 g17 g18 g19 g20 g21 g22 g23 g24 g25 g26 g27 g28 g29 g30 g31 g32 g33 g34 g35 g36 g37 g38 g39 g40 g41 g42 g43 g44 : Value}
/-! ### zoetrope/cdf.rate: function 33 -/
noncomputable abbrev P33 (p : List Nat) : Code := subC (codeOf Try.f33) p
noncomputable abbrev O33 (p : List Nat) : Array Oper := opsOf (subC (codeOf Try.f33) p)
theorem b33 : Try.prog.funcs[33]? = some Try.f33 ∧ (Orc.tab Try.prog).lookup 33 = none := ⟨by kernel_rfl, by kernel_rfl⟩
theorem d33 : Try.f33.body = some (P33 []) := by kernel_rfl
theorem t33 {Ax0_0 : Option Addr} {lx0_0 cx0_0 : Nat} {x0_1 : Int} : #[.agg #[.slice Ax0_0 lx0_0 cx0_0, .int .i64 x0_1]] ++ Array.replicate (Try.f33.ntmps - (#[.agg #[.slice Ax0_0 lx0_0 cx0_0, .int .i64 x0_1]] : Array Value).size) undef = #[.agg #[.slice Ax0_0 lx0_0 cx0_0, .int .i64 x0_1],undef,undef,undef,undef,undef,undef,undef,undef,undef,undef,undef,undef,undef,undef,undef,undef,undef,undef,undef,undef,undef,undef] := by kernel_rfl
theorem k33_0 : P33 [] = .seq (P33 [0]) (P33 [1]) := by kernel_rfl
theorem k33_1 : P33 [0] = .region 0 (O33 [0]) false := by kernel_rfl
theorem r33_0 {Ax0_0 : Option Addr} {lx0_0 cx0_0 : Nat} {x0_1 : Int} {M : Mem} {call : CallM} {K : Array Value → Mem → R} :
    opsK Try.prog (fun _ => call) (O33 [0]) (O33 [0]).toList 0 #[.agg #[.slice Ax0_0 lx0_0 cx0_0, .int .i64 x0_1],g1,g2,g3,g4,g5,g6,g7,g8,g9,g10,g11,g12,g13,g14,g15,g16,g17,g18,g19,g20,g21,g22] M K = K #[.agg #[.slice Ax0_0 lx0_0 cx0_0, .int .i64 x0_1],.pointer (some ⟨2 * M.nb.size, 0, none⟩),.int .i64 0,g3,g4,g5,g6,g7,g8,g9,g10,g11,g12,g13,g14,g15,g16,g17,g18,g19,g20,g21,g22] (M.new (.cells #[.slice Ax0_0 lx0_0 cx0_0, .int .i64 x0_1] 24)) := by kernel_rfl
theorem k33_2 : P33 [1] = .seq (P33 [1,0]) (P33 [1,1]) := by kernel_rfl
theorem k33_3 : P33 [1,0] = .region 1 (O33 [1,0]) false := by kernel_rfl
theorem r33_1 {x1 : Option Addr} {M : Mem} {call : CallM} {K : Array Value → Mem → R} :
    opsK Try.prog (fun _ => call) (O33 [1,0]) (O33 [1,0]).toList 0 #[g0,.pointer x1,g2,g3,g4,g5,g6,g7,g8,g9,g10,g11,g12,g13,g14,g15,g16,g17,g18,g19,g20,g21,g22] M K = (x1).bind fun a_1 => (M.slAt a_1.block a_1.off).bind fun s_2 => (call 40 #[.int .u64 (IntKind.u64.wrap ((s_2.2.1 : Int)))] M).bind fun r_3 => (asI .i64 r_3.1).bind fun x_4 => K #[g0,.pointer x1,g2,.int .i64 (IntKind.i64.wrap (3 + (if 2 < IntKind.i64.wrap (x_4 - 1) then 2 else IntKind.i64.wrap (x_4 - 1)))),.pointer (some ⟨a_1.block, a_1.off, none⟩),.slice s_2.1 (s_2.2.1) (s_2.2.2),.int .i64 ((s_2.2.1 : Int)),.int .u64 (IntKind.u64.wrap ((s_2.2.1 : Int))),.int .i64 x_4,.int .i64 (IntKind.i64.wrap (x_4 - 1)),.int .i64 (if 2 < IntKind.i64.wrap (x_4 - 1) then 2 else IntKind.i64.wrap (x_4 - 1)),.int .i64 (IntKind.i64.wrap (3 + (if 2 < IntKind.i64.wrap (x_4 - 1) then 2 else IntKind.i64.wrap (x_4 - 1)))),g12,g13,g14,g15,g16,g17,g18,g19,g20,g21,g22] r_3.2 := by kernel_rfl
theorem k33_4 : P33 [1,1] = .seq (P33 [1,1,0]) (P33 [1,1,1]) := by kernel_rfl
theorem k33_5 : P33 [1,1,0] = .seq (P33 [1,1,0,0]) (P33 [1,1,0,1]) := by kernel_rfl
theorem k33_6 : P33 [1,1,0,0] = .region 2 (O33 [1,1,0,0]) false := by kernel_rfl
theorem r33_2 {x1 : Option Addr} {M : Mem} {call : CallM} {K : Array Value → Mem → R} :
    opsK Try.prog (fun _ => call) (O33 [1,1,0,0]) (O33 [1,1,0,0]).toList 0 #[g0,.pointer x1,g2,g3,g4,g5,g6,g7,g8,g9,g10,g11,g12,g13,g14,g15,g16,g17,g18,g19,g20,g21,g22] M K = (x1).bind fun a_1 => (M.intAt .i64 a_1.block (a_1.off + 1)).bind fun x_2 => K #[g0,.pointer x1,g2,g3,g4,g5,g6,g7,g8,g9,g10,g11,.pointer (some ⟨a_1.block, a_1.off + 1, none⟩),.int .i64 x_2,.bool (decide (x_2 > 15)),g15,g16,g17,g18,g19,g20,g21,g22] M := by kernel_rfl
theorem c33_7 : P33 [1,1,0,1] = .cond (.tmp 14) (P33 [1,1,0,1,0]) (P33 [1,1,0,1,1]) := by kernel_rfl
theorem k33_8 : P33 [1,1,0,1,0] = .region 3 (O33 [1,1,0,1,0]) false := by kernel_rfl
theorem r33_3 {x3 : Int} {M : Mem} {call : CallM} {K : Array Value → Mem → R} :
    opsK Try.prog (fun _ => call) (O33 [1,1,0,1,0]) (O33 [1,1,0,1,0]).toList 0 #[g0,g1,g2,.int .i64 x3,g4,g5,g6,g7,g8,g9,g10,g11,g12,g13,g14,g15,g16,g17,g18,g19,g20,g21,g22] M K = K #[g0,g1,g2,.int .i64 (IntKind.i64.wrap (x3 + 1)),g4,g5,g6,g7,g8,g9,g10,g11,g12,g13,g14,.int .i64 x3,.int .i64 (IntKind.i64.wrap (x3 + 1)),g17,g18,g19,g20,g21,g22] M := by kernel_rfl
theorem k33_9 : P33 [1,1,1] = .seq (P33 [1,1,1,0]) (P33 [1,1,1,1]) := by kernel_rfl
theorem k33_10 : P33 [1,1,1,0] = .seq (P33 [1,1,1,0,0]) (P33 [1,1,1,0,1]) := by kernel_rfl
theorem k33_11 : P33 [1,1,1,0,0] = .region 4 (O33 [1,1,1,0,0]) false := by kernel_rfl
theorem r33_4 {x1 : Option Addr} {M : Mem} {call : CallM} {K : Array Value → Mem → R} :
    opsK Try.prog (fun _ => call) (O33 [1,1,1,0,0]) (O33 [1,1,1,0,0]).toList 0 #[g0,.pointer x1,g2,g3,g4,g5,g6,g7,g8,g9,g10,g11,g12,g13,g14,g15,g16,g17,g18,g19,g20,g21,g22] M K = (x1).bind fun a_1 => (M.intAt .i64 a_1.block (a_1.off + 1)).bind fun x_2 => K #[g0,.pointer x1,g2,g3,g4,g5,g6,g7,g8,g9,g10,g11,g12,g13,g14,g15,g16,.pointer (some ⟨a_1.block, a_1.off + 1, none⟩),.int .i64 x_2,.bool (decide (x_2 > 31)),g20,g21,g22] M := by kernel_rfl
theorem c33_12 : P33 [1,1,1,0,1] = .cond (.tmp 19) (P33 [1,1,1,0,1,0]) (P33 [1,1,1,0,1,1]) := by kernel_rfl
theorem k33_13 : P33 [1,1,1,0,1,0] = .region 5 (O33 [1,1,1,0,1,0]) false := by kernel_rfl
theorem r33_5 {x3 : Int} {M : Mem} {call : CallM} {K : Array Value → Mem → R} :
    opsK Try.prog (fun _ => call) (O33 [1,1,1,0,1,0]) (O33 [1,1,1,0,1,0]).toList 0 #[g0,g1,g2,.int .i64 x3,g4,g5,g6,g7,g8,g9,g10,g11,g12,g13,g14,g15,g16,g17,g18,g19,g20,g21,g22] M K = K #[g0,g1,g2,.int .i64 (IntKind.i64.wrap (x3 + 1)),g4,g5,g6,g7,g8,g9,g10,g11,g12,g13,g14,g15,g16,g17,g18,g19,.int .i64 x3,.int .i64 (IntKind.i64.wrap (x3 + 1)),g22] M := by kernel_rfl
theorem k33_14 : P33 [1,1,1,1] = .seq (P33 [1,1,1,1,0]) (P33 [1,1,1,1,1]) := by kernel_rfl
theorem k33_15 : P33 [1,1,1,1,0] = .region 6 (O33 [1,1,1,1,0]) false := by kernel_rfl
theorem r33_6 {x3 : Int} {M : Mem} {call : CallM} {K : Array Value → Mem → R} :
    opsK Try.prog (fun _ => call) (O33 [1,1,1,1,0]) (O33 [1,1,1,1,0]).toList 0 #[g0,g1,g2,.int .i64 x3,g4,g5,g6,g7,g8,g9,g10,g11,g12,g13,g14,g15,g16,g17,g18,g19,g20,g21,g22] M K = K #[g0,g1,.int .i64 x3,.int .i64 x3,g4,g5,g6,g7,g8,g9,g10,g11,g12,g13,g14,g15,g16,g17,g18,g19,g20,g21,.int .i64 x3] M := by kernel_rfl
theorem k33_16 : P33 [1,1,1,1,1] = .ret := by kernel_rfl
theorem e33 {M : Mem} : finish Try.prog Try.f33 #[g0,g1,g2,g3,g4,g5,g6,g7,g8,g9,g10,g11,g12,g13,g14,g15,g16,g17,g18,g19,g20,g21,g22] M = some (g2, M) := by kernel_rfl
theorem k33_18 : P33 [1,1,1,0,1,1] = .skip := by kernel_rfl
theorem k33_19 : P33 [1,1,0,1,1] = .skip := by kernel_rfl
theorem w33_0 {Ax0_0 : Option Addr} {lx0_0 cx0_0 : Nat} {x0_1 : Int} {M : Mem} {Q : Value → Mem → Prop} (H :
    ∃ s1', (M.new (.cells #[.slice Ax0_0 lx0_0 cx0_0, .int .i64 x0_1] 24)).slAt (2 * M.nb.size) 0 = some s1' ∧
    Cn Try.prog 40 #[.int .u64 (IntKind.u64.wrap ((s1'.2.1 : Int)))] (M.new (.cells #[.slice Ax0_0 lx0_0 cx0_0, .int .i64 x0_1] 24)) fun v2' N2' =>
     ∃ x3', asI .i64 v2' = some x3' ∧
     ∃ x4', N2'.intAt .i64 (2 * M.nb.size) (0 + 1) = some x4' ∧
     ((x4' > 15 →
      ∃ x5', N2'.intAt .i64 (2 * M.nb.size) (0 + 1) = some x5' ∧
      ((x5' > 31 →
       Q (.int .i64 (IntKind.i64.wrap ((IntKind.i64.wrap ((IntKind.i64.wrap (3 + (if 2 < IntKind.i64.wrap (x3' - 1) then 2 else IntKind.i64.wrap (x3' - 1)))) + 1)) + 1))) N2') ∧
       (¬ (x5' > 31) →
       Q (.int .i64 (IntKind.i64.wrap ((IntKind.i64.wrap (3 + (if 2 < IntKind.i64.wrap (x3' - 1) then 2 else IntKind.i64.wrap (x3' - 1)))) + 1))) N2'))) ∧
      (¬ (x4' > 15) →
      ∃ x6', N2'.intAt .i64 (2 * M.nb.size) (0 + 1) = some x6' ∧
      ((x6' > 31 →
       Q (.int .i64 (IntKind.i64.wrap ((IntKind.i64.wrap (3 + (if 2 < IntKind.i64.wrap (x3' - 1) then 2 else IntKind.i64.wrap (x3' - 1)))) + 1))) N2') ∧
       (¬ (x6' > 31) →
       Q (.int .i64 (IntKind.i64.wrap (3 + (if 2 < IntKind.i64.wrap (x3' - 1) then 2 else IntKind.i64.wrap (x3' - 1))))) N2'))))) :
    Cn Try.prog 33 #[.agg #[.slice Ax0_0 lx0_0 cx0_0, .int .i64 x0_1]] M Q := by
  refine Cn.of b33 d33 t33 ?_
  refine Rn.seq k33_0 (Rn.region k33_1 (fun call K => r33_0) (Rch.leaf (Rn.seq k33_2 (Rn.region k33_3 (fun call K => r33_1) (Rch.bind (x := ⟨2 * M.nb.size, 0, none⟩) rfl (Rch.ex H fun s1' H => Rch.call H fun v2' N2' H => Rch.ex H fun x3' H => Rch.leaf (Rn.seq k33_4 (Rn.seq k33_5 ?_))))))))
  refine Rn.region k33_6 (fun call K => r33_2) (Rch.bind (x := ⟨2 * M.nb.size, 0, none⟩) rfl (Rch.ex H fun x4' H => Rch.leaf ?_))
  refine Rn.cnd (v := decide (x4' > 15)) ⟨c33_7, rfl, by kernel_rfl⟩ (fun h => ?_) (fun h => ?_)
  · replace H := H.1 (of_decide_eq_true h)
    refine Rn.region k33_8 (fun call K => r33_3) (Rch.leaf (Rn.seq k33_9 (Rn.seq k33_10 (Rn.region k33_11 (fun call K => r33_4) (Rch.bind (x := ⟨2 * M.nb.size, 0, none⟩) rfl (Rch.ex H fun x5' H => Rch.leaf ?_))))))
    refine Rn.cnd (v := decide (x5' > 31)) ⟨c33_12, rfl, by kernel_rfl⟩ (fun h => ?_) (fun h => ?_)
    · replace H := H.1 (of_decide_eq_true h)
      refine Rn.region k33_13 (fun call K => r33_5) (Rch.leaf (Rn.seq k33_14 (Rn.region k33_15 (fun call K => r33_6) (Rch.leaf ?_))))
      exact Rn.ret k33_16 e33 H
    · replace H := H.2 (of_decide_eq_false h)
      refine Rn.skip k33_18 (Rn.seq k33_14 (Rn.region k33_15 (fun call K => r33_6) (Rch.leaf ?_)))
      exact Rn.ret k33_16 e33 H
  · replace H := H.2 (of_decide_eq_false h)
    refine Rn.skip k33_19 (Rn.seq k33_9 (Rn.seq k33_10 (Rn.region k33_11 (fun call K => r33_4) (Rch.bind (x := ⟨2 * M.nb.size, 0, none⟩) rfl (Rch.ex H fun x6' H => Rch.leaf ?_)))))
    refine Rn.cnd (v := decide (x6' > 31)) ⟨c33_12, rfl, by kernel_rfl⟩ (fun h => ?_) (fun h => ?_)
    · replace H := H.1 (of_decide_eq_true h)
      refine Rn.region k33_13 (fun call K => r33_5) (Rch.leaf (Rn.seq k33_14 (Rn.region k33_15 (fun call K => r33_6) (Rch.leaf ?_))))
      exact Rn.ret k33_16 e33 H
    · replace H := H.2 (of_decide_eq_false h)
      refine Rn.skip k33_18 (Rn.seq k33_14 (Rn.region k33_15 (fun call K => r33_6) (Rch.leaf ?_)))
      exact Rn.ret k33_16 e33 H


/-! ### zoetrope/cdf.Bounds: function 20 -/
noncomputable abbrev P20 (p : List Nat) : Code := subC (codeOf Try.f20) p
noncomputable abbrev O20 (p : List Nat) : Array Oper := opsOf (subC (codeOf Try.f20) p)
theorem b20 : Try.prog.funcs[20]? = some Try.f20 ∧ (Orc.tab Try.prog).lookup 20 = none := ⟨by kernel_rfl, by kernel_rfl⟩
theorem d20 : Try.f20.body = some (P20 []) := by kernel_rfl
theorem t20 {Ax0_0 : Option Addr} {lx0_0 cx0_0 : Nat} {x0_1 x1 : Int} : #[.agg #[.slice Ax0_0 lx0_0 cx0_0, .int .i64 x0_1],.int .i64 x1] ++ Array.replicate (Try.f20.ntmps - (#[.agg #[.slice Ax0_0 lx0_0 cx0_0, .int .i64 x0_1],.int .i64 x1] : Array Value).size) undef = #[.agg #[.slice Ax0_0 lx0_0 cx0_0, .int .i64 x0_1],.int .i64 x1,undef,undef,undef,undef,undef,undef,undef,undef,undef,undef,undef,undef,undef,undef,undef,undef] := by kernel_rfl
theorem k20_0 : P20 [] = .seq (P20 [0]) (P20 [1]) := by kernel_rfl
theorem k20_1 : P20 [0] = .region 0 (O20 [0]) false := by kernel_rfl
theorem r20_0 {Ax0_0 : Option Addr} {lx0_0 cx0_0 : Nat} {x0_1 : Int} {M : Mem} {call : CallM} {K : Array Value → Mem → R} :
    opsK Try.prog (fun _ => call) (O20 [0]) (O20 [0]).toList 0 #[.agg #[.slice Ax0_0 lx0_0 cx0_0, .int .i64 x0_1],g1,g2,g3,g4,g5,g6,g7,g8,g9,g10,g11,g12,g13,g14,g15,g16,g17] M K = K #[.agg #[.slice Ax0_0 lx0_0 cx0_0, .int .i64 x0_1],g1,.pointer (some ⟨2 * M.nb.size, 0, none⟩),g3,.int .u32 0,.int .u32 0,.int .i64 0,g7,g8,g9,g10,g11,g12,g13,g14,g15,g16,g17] (M.new (.cells #[.slice Ax0_0 lx0_0 cx0_0, .int .i64 x0_1] 24)) := by kernel_rfl
theorem k20_2 : P20 [1] = .seq (P20 [1,0]) (P20 [1,1]) := by kernel_rfl
theorem k20_3 : P20 [1,0] = .seq (P20 [1,0,0]) (P20 [1,0,1]) := by kernel_rfl
theorem k20_4 : P20 [1,0,0] = .region 1 (O20 [1,0,0]) false := by kernel_rfl
theorem r20_1 {x1 : Int} {x2 : Option Addr} {M : Mem} {call : CallM} {K : Array Value → Mem → R} :
    opsK Try.prog (fun _ => call) (O20 [1,0,0]) (O20 [1,0,0]).toList 0 #[g0,.int .i64 x1,.pointer x2,g3,g4,g5,g6,g7,g8,g9,g10,g11,g12,g13,g14,g15,g16,g17] M K = (x2).bind fun a_1 => (M.slAt a_1.block a_1.off).bind fun s_2 => (M.intAt .i64 a_1.block (a_1.off + 1)).bind fun x_3 => (call 32 #[.agg #[.slice s_2.1 (s_2.2.1) (s_2.2.2), .int .i64 x_3], .int .i64 x1] M).bind fun r_4 => (asB r_4.1).bind fun b_5 => K #[g0,.int .i64 x1,.pointer x2,g3,g4,g5,g6,.agg #[.slice s_2.1 (s_2.2.1) (s_2.2.2), .int .i64 x_3],.int .i64 x1,.bool b_5,.bool (!b_5),g11,g12,g13,g14,g15,g16,g17] r_4.2 := by kernel_rfl
theorem c20_5 : P20 [1,0,1] = .cond (.tmp 10) (P20 [1,0,1,0]) (P20 [1,0,1,1]) := by kernel_rfl
theorem k20_6 : P20 [1,0,1,0] = .seq (P20 [1,0,1,0,0]) (P20 [1,0,1,0,1]) := by kernel_rfl
theorem k20_7 : P20 [1,0,1,0,0] = .region 2 (O20 [1,0,1,0,0]) false := by kernel_rfl
theorem r20_2 {M : Mem} {call : CallM} {K : Array Value → Mem → R} :
    opsK Try.prog (fun _ => call) (O20 [1,0,1,0,0]) (O20 [1,0,1,0,0]).toList 0 #[g0,g1,g2,g3,g4,g5,g6,g7,g8,g9,g10,g11,g12,g13,g14,g15,g16,g17] M K = K #[g0,g1,g2,g3,.int .u32 0,.int .u32 0,.int .i64 2,g7,g8,g9,g10,g11,g12,g13,g14,g15,g16,g17] M := by kernel_rfl
theorem k20_8 : P20 [1,0,1,0,1] = .ret := by kernel_rfl
theorem e20 {M : Mem} : finish Try.prog Try.f20 #[g0,g1,g2,g3,g4,g5,g6,g7,g8,g9,g10,g11,g12,g13,g14,g15,g16,g17] M = some (.tuple #[g4, g5, g6], M) := by kernel_rfl
theorem k20_10 : P20 [1,0,1,1] = .skip := by kernel_rfl
theorem k20_11 : P20 [1,1] = .seq (P20 [1,1,0]) (P20 [1,1,1]) := by kernel_rfl
theorem k20_12 : P20 [1,1,0] = .region 3 (O20 [1,1,0]) true ∧ drawOk (O20 [1,1,0]) = true := ⟨by kernel_rfl, by kernel_rfl⟩
theorem r20_3 {x1 : Int} {x2 : Option Addr} {M : Mem} {call : CallM} {K : Array Value → Mem → R} :
    opsI Try.prog (callAt call (O20 [1,1,0])) (O20 [1,1,0]) (ordOf (O20 [1,1,0])) [] #[g0,.int .i64 x1,.pointer x2,g3,g4,g5,g6,g7,g8,g9,g10,g11,g12,g13,g14,g15,g16,g17] M K = (x2).bind fun a_1 => (M.slAt a_1.block a_1.off).bind fun s_2 => (M.intAt .i64 a_1.block (a_1.off + 1)).bind fun x_3 => (x2).bind fun a_4 => (M.slAt a_4.block a_4.off).bind fun s_5 => (M.intAt .i64 a_4.block (a_4.off + 1)).bind fun x_6 => (floored call 38 #[.agg #[.slice s_2.1 (s_2.2.1) (s_2.2.2), .int .i64 x_3], .int .i64 (IntKind.i64.wrap (x1 - 1))] M).bind fun r_7 => (asI .u32 r_7.1).bind fun x_8 => (call 38 #[.agg #[.slice s_5.1 (s_5.2.1) (s_5.2.2), .int .i64 x_6], .int .i64 x1] r_7.2).bind fun r_9 => (asI .u32 r_9.1).bind fun x_10 => K #[g0,.int .i64 x1,.pointer x2,g3,.int .u32 x_8,.int .u32 x_10,.int .i64 0,g7,g8,g9,g10,.agg #[.slice s_2.1 (s_2.2.1) (s_2.2.2), .int .i64 x_3],.int .i64 x1,.int .i64 (IntKind.i64.wrap (x1 - 1)),.int .u32 x_8,.agg #[.slice s_5.1 (s_5.2.1) (s_5.2.2), .int .i64 x_6],.int .i64 x1,.int .u32 x_10] r_9.2 := by kernel_rfl
theorem k20_13 : P20 [1,1,1] = .ret := by kernel_rfl
theorem w20_0 {Ax0_0 : Option Addr} {lx0_0 cx0_0 : Nat} {x0_1 x1 : Int} {M : Mem} {Q : Value → Mem → Prop} (H :
    ∃ s1', (M.new (.cells #[.slice Ax0_0 lx0_0 cx0_0, .int .i64 x0_1] 24)).slAt (2 * M.nb.size) 0 = some s1' ∧
    ∃ x2', (M.new (.cells #[.slice Ax0_0 lx0_0 cx0_0, .int .i64 x0_1] 24)).intAt .i64 (2 * M.nb.size) (0 + 1) = some x2' ∧
    Cn Try.prog 32 #[.agg #[.slice s1'.1 (s1'.2.1) (s1'.2.2), .int .i64 x2'], .int .i64 x1] (M.new (.cells #[.slice Ax0_0 lx0_0 cx0_0, .int .i64 x0_1] 24)) fun v3' N3' =>
     ∃ b4', asB v3' = some b4' ∧
     (((!b4') = true →
      Q (.tuple #[.int .u32 0, .int .u32 0, .int .i64 2]) N3') ∧
      ((!b4') = false →
      ∃ s5', N3'.slAt (2 * M.nb.size) 0 = some s5' ∧
      ∃ x6', N3'.intAt .i64 (2 * M.nb.size) (0 + 1) = some x6' ∧
      ∃ s7', N3'.slAt (2 * M.nb.size) 0 = some s7' ∧
      ∃ x8', N3'.intAt .i64 (2 * M.nb.size) (0 + 1) = some x8' ∧
      Cn Try.prog 38 #[.agg #[.slice s5'.1 (s5'.2.1) (s5'.2.2), .int .i64 x6'], .int .i64 (IntKind.i64.wrap (x1 - 1))] { N3' with floor := N3'.nb.size } fun v9' N9' =>
       ∃ x10', asI .u32 v9' = some x10' ∧
       Cn Try.prog 38 #[.agg #[.slice s7'.1 (s7'.2.1) (s7'.2.2), .int .i64 x8'], .int .i64 x1] { N9' with floor := N3'.floor } fun v11' N11' =>
        ∃ x12', asI .u32 v11' = some x12' ∧
        Q (.tuple #[.int .u32 (x10'), .int .u32 (x12'), .int .i64 0]) N11'))) :
    Cn Try.prog 20 #[.agg #[.slice Ax0_0 lx0_0 cx0_0, .int .i64 x0_1], .int .i64 x1] M Q := by
  refine Cn.of b20 d20 t20 ?_
  refine Rn.seq k20_0 (Rn.region k20_1 (fun call K => r20_0) (Rch.leaf (Rn.seq k20_2 (Rn.seq k20_3 (Rn.region k20_4 (fun call K => r20_1) (Rch.bind (x := ⟨2 * M.nb.size, 0, none⟩) rfl (Rch.ex H fun s1' H => Rch.ex H fun x2' H => Rch.call H fun v3' N3' H => Rch.ex H fun b4' H => Rch.leaf ?_)))))))
  refine Rn.cnd (v := !b4') ⟨c20_5, rfl, by kernel_rfl⟩ (fun h => ?_) (fun h => ?_)
  · replace H := H.1 (h)
    refine Rn.seq k20_6 (Rn.region k20_7 (fun call K => r20_2) (Rch.leaf ?_))
    exact Rn.ret k20_8 e20 H
  · replace H := H.2 (h)
    refine Rn.skip k20_10 (Rn.seq k20_11 (Rn.regionD k20_12 (fun call K => r20_3) (Rch.bind (x := ⟨2 * M.nb.size, 0, none⟩) rfl (Rch.ex H fun s5' H => Rch.ex H fun x6' H => Rch.bind (x := ⟨2 * M.nb.size, 0, none⟩) rfl (Rch.ex H fun s7' H => Rch.ex H fun x8' H => Rch.callF H fun v9' N9' H => Rch.ex H fun x10' H => Rch.call H fun v11' N11' H => ?_)))))
    refine Rch.ex H fun x12' H => Rch.leaf ?_
    exact Rn.ret k20_13 e20 H


/-! ### zoetrope/zoetroperef03.Bounds: function 30 -/
noncomputable abbrev P30 (p : List Nat) : Code := subC (codeOf Try.f30) p
noncomputable abbrev O30 (p : List Nat) : Array Oper := opsOf (subC (codeOf Try.f30) p)
theorem b30 : Try.prog.funcs[30]? = some Try.f30 ∧ (Orc.tab Try.prog).lookup 30 = none := ⟨by kernel_rfl, by kernel_rfl⟩
theorem d30 : Try.f30.body = some (P30 []) := by kernel_rfl
theorem t30 {Ax0_0 : Option Addr} {lx0_0 cx0_0 : Nat} {x0_1 x1 : Int} : #[.agg #[.slice Ax0_0 lx0_0 cx0_0, .int .i64 x0_1],.int .i64 x1] ++ Array.replicate (Try.f30.ntmps - (#[.agg #[.slice Ax0_0 lx0_0 cx0_0, .int .i64 x0_1],.int .i64 x1] : Array Value).size) undef = #[.agg #[.slice Ax0_0 lx0_0 cx0_0, .int .i64 x0_1],.int .i64 x1,undef,undef,undef,undef,undef,undef,undef,undef,undef,undef,undef,undef,undef,undef,undef,undef,undef,undef,undef,undef,undef,undef,undef,undef,undef,undef,undef,undef] := by kernel_rfl
theorem k30_0 : P30 [] = .seq (P30 [0]) (P30 [1]) := by kernel_rfl
theorem k30_1 : P30 [0] = .region 0 (O30 [0]) false := by kernel_rfl
theorem r30_0 {Ax0_0 : Option Addr} {lx0_0 cx0_0 : Nat} {x0_1 : Int} {M : Mem} {call : CallM} {K : Array Value → Mem → R} :
    opsK Try.prog (fun _ => call) (O30 [0]) (O30 [0]).toList 0 #[.agg #[.slice Ax0_0 lx0_0 cx0_0, .int .i64 x0_1],g1,g2,g3,g4,g5,g6,g7,g8,g9,g10,g11,g12,g13,g14,g15,g16,g17,g18,g19,g20,g21,g22,g23,g24,g25,g26,g27,g28,g29] M K = K #[.agg #[.slice Ax0_0 lx0_0 cx0_0, .int .i64 x0_1],g1,.pointer (some ⟨2 * M.nb.size, 0, none⟩),g3,.int .u32 0,.int .u32 0,.int .i64 0,g7,g8,g9,g10,g11,g12,g13,g14,g15,g16,g17,g18,g19,g20,g21,g22,g23,g24,g25,g26,g27,g28,g29] (M.new (.cells #[.slice Ax0_0 lx0_0 cx0_0, .int .i64 x0_1] 24)) := by kernel_rfl
theorem k30_2 : P30 [1] = .seq (P30 [1,0]) (P30 [1,1]) := by kernel_rfl
theorem k30_3 : P30 [1,0] = .seq (P30 [1,0,0]) (P30 [1,0,1]) := by kernel_rfl
theorem k30_4 : P30 [1,0,0] = .region 1 (O30 [1,0,0]) false := by kernel_rfl
theorem r30_1 {x1 : Int} {x2 : Option Addr} {M : Mem} {call : CallM} {K : Array Value → Mem → R} :
    opsK Try.prog (fun _ => call) (O30 [1,0,0]) (O30 [1,0,0]).toList 0 #[g0,.int .i64 x1,.pointer x2,g3,g4,g5,g6,g7,g8,g9,g10,g11,g12,g13,g14,g15,g16,g17,g18,g19,g20,g21,g22,g23,g24,g25,g26,g27,g28,g29] M K = withK (fun w7 w8 w9 w10 w11 w12 w13 w14 w15 w16 w17 w18 w19 w20 M => K #[g0,.int .i64 x1,.pointer x2,g3,g4,g5,g6,w7,w8,w9,w10,w11,w12,w13,w14,w15,w16,w17,w18,w19,w20,g21,g22,g23,g24,g25,g26,g27,g28,g29] M) fun k => (x2).bind fun a_1 => (M.slAt a_1.block a_1.off).bind fun s_2 => (M.intAt .i64 a_1.block (a_1.off + 1)).bind fun x_3 => (call 29 #[.agg #[.slice s_2.1 (s_2.2.1) (s_2.2.2), .int .i64 x_3]] M).bind fun r_4 => (asI .i64 r_4.1).bind fun x_5 => cond (x_5 != 0) (k (.agg #[.slice s_2.1 (s_2.2.1) (s_2.2.2), .int .i64 x_3]) (.int .i64 x_5) (.bool (x_5 != 0)) (.bool true) undef undef (.bool true) (.bool true) undef undef undef undef undef (.bool true) r_4.2) (cond (decide (x1 < 0)) (k (.agg #[.slice s_2.1 (s_2.2.1) (s_2.2.2), .int .i64 x_3]) (.int .i64 x_5) (.bool (x_5 != 0)) (.bool false) (.int .i64 x1) (.bool (decide (x1 < 0))) (.bool (decide (x1 < 0))) (.bool true) undef undef undef undef undef (.bool true) r_4.2) ((x2).bind fun a_6 => (r_4.2.slAt a_6.block a_6.off).bind fun s_7 => k (.agg #[.slice s_2.1 (s_2.2.1) (s_2.2.2), .int .i64 x_3]) (.int .i64 x_5) (.bool (x_5 != 0)) (.bool false) (.int .i64 x1) (.bool (decide (x1 < 0))) (.bool (decide (x1 < 0))) (.bool false) (.int .i64 x1) (.pointer (some ⟨a_6.block, a_6.off, none⟩)) (.slice s_7.1 (s_7.2.1) (s_7.2.2)) (.int .i64 ((s_7.2.1 : Int))) (.bool (decide (x1 ≥ ((s_7.2.1 : Int))))) (.bool (decide (x1 ≥ ((s_7.2.1 : Int))))) r_4.2)) := by kernel_rfl
theorem c30_5 : P30 [1,0,1] = .cond (.tmp 20) (P30 [1,0,1,0]) (P30 [1,0,1,1]) := by kernel_rfl
theorem k30_6 : P30 [1,0,1,0] = .seq (P30 [1,0,1,0,0]) (P30 [1,0,1,0,1]) := by kernel_rfl
theorem k30_7 : P30 [1,0,1,0,0] = .region 2 (O30 [1,0,1,0,0]) false := by kernel_rfl
theorem r30_2 {M : Mem} {call : CallM} {K : Array Value → Mem → R} :
    opsK Try.prog (fun _ => call) (O30 [1,0,1,0,0]) (O30 [1,0,1,0,0]).toList 0 #[g0,g1,g2,g3,g4,g5,g6,g7,g8,g9,g10,g11,g12,g13,g14,g15,g16,g17,g18,g19,g20,g21,g22,g23,g24,g25,g26,g27,g28,g29] M K = K #[g0,g1,g2,g3,.int .u32 0,.int .u32 0,.int .i64 2,g7,g8,g9,g10,g11,g12,g13,g14,g15,g16,g17,g18,g19,g20,g21,g22,g23,g24,g25,g26,g27,g28,g29] M := by kernel_rfl
theorem k30_8 : P30 [1,0,1,0,1] = .ret := by kernel_rfl
theorem e30 {M : Mem} : finish Try.prog Try.f30 #[g0,g1,g2,g3,g4,g5,g6,g7,g8,g9,g10,g11,g12,g13,g14,g15,g16,g17,g18,g19,g20,g21,g22,g23,g24,g25,g26,g27,g28,g29] M = some (.tuple #[g4, g5, g6], M) := by kernel_rfl
theorem k30_10 : P30 [1,0,1,1] = .skip := by kernel_rfl
theorem k30_11 : P30 [1,1] = .seq (P30 [1,1,0]) (P30 [1,1,1]) := by kernel_rfl
theorem k30_12 : P30 [1,1,0] = .region 3 (O30 [1,1,0]) true ∧ drawOk (O30 [1,1,0]) = true := ⟨by kernel_rfl, by kernel_rfl⟩
theorem r30_3 {x1 : Int} {x2 : Option Addr} {M : Mem} {call : CallM} {K : Array Value → Mem → R} :
    opsI Try.prog (callAt call (O30 [1,1,0])) (O30 [1,1,0]) (ordOf (O30 [1,1,0])) [] #[g0,.int .i64 x1,.pointer x2,g3,g4,g5,g6,g7,g8,g9,g10,g11,g12,g13,g14,g15,g16,g17,g18,g19,g20,g21,g22,g23,g24,g25,g26,g27,g28,g29] M K = (x2).bind fun a_1 => (M.slAt a_1.block a_1.off).bind fun s_2 => (M.intAt .i64 a_1.block (a_1.off + 1)).bind fun x_3 => (x2).bind fun a_4 => (M.slAt a_4.block a_4.off).bind fun s_5 => (M.intAt .i64 a_4.block (a_4.off + 1)).bind fun x_6 => (floored call 39 #[.agg #[.slice s_2.1 (s_2.2.1) (s_2.2.2), .int .i64 x_3], .int .i64 (IntKind.i64.wrap (x1 - 1))] M).bind fun r_7 => (asI .i64 r_7.1).bind fun x_8 => (call 39 #[.agg #[.slice s_5.1 (s_5.2.1) (s_5.2.2), .int .i64 x_6], .int .i64 x1] r_7.2).bind fun r_9 => (asI .i64 r_9.1).bind fun x_10 => K #[g0,.int .i64 x1,.pointer x2,g3,.int .u32 (IntKind.u32.wrap (x_8)),.int .u32 (IntKind.u32.wrap (x_10)),.int .i64 0,g7,g8,g9,g10,g11,g12,g13,g14,g15,g16,g17,g18,g19,g20,.agg #[.slice s_2.1 (s_2.2.1) (s_2.2.2), .int .i64 x_3],.int .i64 x1,.int .i64 (IntKind.i64.wrap (x1 - 1)),.int .i64 x_8,.int .u32 (IntKind.u32.wrap (x_8)),.agg #[.slice s_5.1 (s_5.2.1) (s_5.2.2), .int .i64 x_6],.int .i64 x1,.int .i64 x_10,.int .u32 (IntKind.u32.wrap (x_10))] r_9.2 := by kernel_rfl
theorem k30_13 : P30 [1,1,1] = .ret := by kernel_rfl
noncomputable def S30_1 : List Item := [.code (P30 [1,0,1]), .code (P30 [1,1])]
def A30_1 (x1 : Int) (x2 : Option Addr) (x20 : Bool) (M : Mem) (Q : Value → Mem → Prop) : Prop := ∀ (g0 g3 g4 g5 g6 g7 g8 g9 g10 g11 g12 g13 g14 g15 g16 g17 g18 g19 g21 g22 g23 g24 g25 g26 g27 g28 g29 : Value), Rn Try.prog Try.f30 S30_1 #[g0, .int .i64 x1, .pointer x2, g3, g4, g5, g6, g7, g8, g9, g10, g11, g12, g13, g14, g15, g16, g17, g18, g19, .bool x20, g21, g22, g23, g24, g25, g26, g27, g28, g29] M Q
theorem w30_0 {Ax0_0 : Option Addr} {lx0_0 cx0_0 : Nat} {x0_1 x1 : Int} {M : Mem} {Q : Value → Mem → Prop} (H :
    ∃ s1', (M.new (.cells #[.slice Ax0_0 lx0_0 cx0_0, .int .i64 x0_1] 24)).slAt (2 * M.nb.size) 0 = some s1' ∧
    ∃ x2', (M.new (.cells #[.slice Ax0_0 lx0_0 cx0_0, .int .i64 x0_1] 24)).intAt .i64 (2 * M.nb.size) (0 + 1) = some x2' ∧
    Cn Try.prog 29 #[.agg #[.slice s1'.1 (s1'.2.1) (s1'.2.2), .int .i64 x2']] (M.new (.cells #[.slice Ax0_0 lx0_0 cx0_0, .int .i64 x0_1] 24)) fun v3' N3' =>
     ∃ x4', asI .i64 v3' = some x4' ∧
     ((x4' ≠ 0 →
      A30_1 x1 (some ⟨2 * M.nb.size, 0, none⟩) true N3' Q) ∧
      (x4' = 0 →
      ((x1 < 0 →
       A30_1 x1 (some ⟨2 * M.nb.size, 0, none⟩) true N3' Q) ∧
       (¬ (x1 < 0) →
       ∃ s5', N3'.slAt (2 * M.nb.size) 0 = some s5' ∧
       A30_1 x1 (some ⟨2 * M.nb.size, 0, none⟩) (decide (x1 ≥ ((s5'.2.1 : Int)))) N3' Q))))) :
    Cn Try.prog 30 #[.agg #[.slice Ax0_0 lx0_0 cx0_0, .int .i64 x0_1], .int .i64 x1] M Q := by
  refine Cn.of b30 d30 t30 ?_
  refine Rn.seq k30_0 (Rn.region k30_1 (fun call K => r30_0) (Rch.leaf (Rn.seq k30_2 (Rn.seq k30_3 (Rn.region k30_4 (fun call K => r30_1) (Rch.bind (x := ⟨2 * M.nb.size, 0, none⟩) rfl (Rch.ex H fun s1' H => Rch.ex H fun x2' H => Rch.call H fun v3' N3' H => Rch.ex H fun x4' H => ?_)))))))
  refine Rch.cB (fun h => ?_) (fun h => ?_)
  · replace H := H.1 (ne_of_bneT h)
    refine Rch.leaf ?_
    exact H _ _ _ _ _ _ _ _ _ _ _ _ _ _ _ _ _ _ _ _ _ _ _ _ _ _ _
  · replace H := H.2 (eq_of_bneF h)
    refine Rch.cB (fun h => ?_) (fun h => ?_)
    · replace H := H.1 (of_decide_eq_true h)
      refine Rch.leaf ?_
      exact H _ _ _ _ _ _ _ _ _ _ _ _ _ _ _ _ _ _ _ _ _ _ _ _ _ _ _
    · replace H := H.2 (of_decide_eq_false h)
      refine Rch.bind (x := ⟨2 * M.nb.size, 0, none⟩) rfl (Rch.ex H fun s5' H => Rch.leaf ?_)
      exact H _ _ _ _ _ _ _ _ _ _ _ _ _ _ _ _ _ _ _ _ _ _ _ _ _ _ _

theorem w30_1 {x1 : Int} {x2 : Option Addr} {x20 : Bool} {M : Mem} {Q : Value → Mem → Prop} (H :
    ((x20 = true →
     Q (.tuple #[.int .u32 0, .int .u32 0, .int .i64 2]) M) ∧
     (x20 = false →
     ∃ a6', x2 = some a6' ∧
     ∃ s7', M.slAt a6'.block a6'.off = some s7' ∧
     ∃ x8', M.intAt .i64 a6'.block (a6'.off + 1) = some x8' ∧
     ∃ a9', x2 = some a9' ∧
     ∃ s10', M.slAt a9'.block a9'.off = some s10' ∧
     ∃ x11', M.intAt .i64 a9'.block (a9'.off + 1) = some x11' ∧
     Cn Try.prog 39 #[.agg #[.slice s7'.1 (s7'.2.1) (s7'.2.2), .int .i64 x8'], .int .i64 (IntKind.i64.wrap (x1 - 1))] { M with floor := M.nb.size } fun v12' N12' =>
      ∃ x13', asI .i64 v12' = some x13' ∧
      Cn Try.prog 39 #[.agg #[.slice s10'.1 (s10'.2.1) (s10'.2.2), .int .i64 x11'], .int .i64 x1] { N12' with floor := M.floor } fun v14' N14' =>
       ∃ x15', asI .i64 v14' = some x15' ∧
       Q (.tuple #[.int .u32 (IntKind.u32.wrap (x13')), .int .u32 (IntKind.u32.wrap (x15')), .int .i64 0]) N14'))) :
    A30_1 x1 x2 x20 M Q := by
  intro g0 g3 g4 g5 g6 g7 g8 g9 g10 g11 g12 g13 g14 g15 g16 g17 g18 g19 g21 g22 g23 g24 g25 g26 g27 g28 g29
  refine Rn.cnd (v := x20) ⟨c30_5, rfl, by kernel_rfl⟩ (fun h => ?_) (fun h => ?_)
  · replace H := H.1 (h)
    refine Rn.seq k30_6 (Rn.region k30_7 (fun call K => r30_2) (Rch.leaf ?_))
    exact Rn.ret k30_8 e30 H
  · replace H := H.2 (h)
    refine Rn.skip k30_10 (Rn.seq k30_11 (Rn.regionD k30_12 (fun call K => r30_3) (Rch.ex H fun a6' H => Rch.ex H fun s7' H => Rch.ex H fun x8' H => Rch.ex H fun a9' H => Rch.ex H fun s10' H => Rch.ex H fun x11' H => Rch.callF H fun v12' N12' H => Rch.ex H fun x13' H => Rch.call H fun v14' N14' H => ?_)))
    refine Rch.ex H fun x15' H => Rch.leaf ?_
    exact Rn.ret k30_13 e30 H


/-! ### zoetrope/cdf.Find: function 21 -/
noncomputable abbrev P21 (p : List Nat) : Code := subC (codeOf Try.f21) p
noncomputable abbrev O21 (p : List Nat) : Array Oper := opsOf (subC (codeOf Try.f21) p)
theorem b21 : Try.prog.funcs[21]? = some Try.f21 ∧ (Orc.tab Try.prog).lookup 21 = none := ⟨by kernel_rfl, by kernel_rfl⟩
theorem d21 : Try.f21.body = some (P21 []) := by kernel_rfl
theorem t21 {Ax0_0 : Option Addr} {lx0_0 cx0_0 : Nat} {x0_1 x1 : Int} : #[.agg #[.slice Ax0_0 lx0_0 cx0_0, .int .i64 x0_1],.int .u32 x1] ++ Array.replicate (Try.f21.ntmps - (#[.agg #[.slice Ax0_0 lx0_0 cx0_0, .int .i64 x0_1],.int .u32 x1] : Array Value).size) undef = #[.agg #[.slice Ax0_0 lx0_0 cx0_0, .int .i64 x0_1],.int .u32 x1,undef,undef,undef,undef,undef,undef,undef,undef,undef,undef,undef,undef,undef,undef,undef,undef,undef,undef,undef,undef] := by kernel_rfl
theorem k21_0 : P21 [] = .seq (P21 [0]) (P21 [1]) := by kernel_rfl
theorem k21_1 : P21 [0] = .region 0 (O21 [0]) false := by kernel_rfl
theorem r21_0 {Ax0_0 : Option Addr} {lx0_0 cx0_0 : Nat} {x0_1 : Int} {M : Mem} {call : CallM} {K : Array Value → Mem → R} :
    opsK Try.prog (fun _ => call) (O21 [0]) (O21 [0]).toList 0 #[.agg #[.slice Ax0_0 lx0_0 cx0_0, .int .i64 x0_1],g1,g2,g3,g4,g5,g6,g7,g8,g9,g10,g11,g12,g13,g14,g15,g16,g17,g18,g19,g20,g21] M K = K #[.agg #[.slice Ax0_0 lx0_0 cx0_0, .int .i64 x0_1],g1,.pointer (some ⟨2 * M.nb.size, 0, none⟩),g3,.int .i64 0,.int .i64 0,g6,g7,g8,g9,g10,g11,g12,g13,g14,g15,g16,g17,g18,g19,g20,g21] (M.new (.cells #[.slice Ax0_0 lx0_0 cx0_0, .int .i64 x0_1] 24)) := by kernel_rfl
theorem k21_2 : P21 [1] = .seq (P21 [1,0]) (P21 [1,1]) := by kernel_rfl
theorem k21_3 : P21 [1,0] = .seq (P21 [1,0,0]) (P21 [1,0,1]) := by kernel_rfl
theorem k21_4 : P21 [1,0,0] = .region 1 (O21 [1,0,0]) false := by kernel_rfl
theorem r21_1 {x1 : Int} {x2 : Option Addr} {M : Mem} {call : CallM} {K : Array Value → Mem → R} :
    opsK Try.prog (fun _ => call) (O21 [1,0,0]) (O21 [1,0,0]).toList 0 #[g0,.int .u32 x1,.pointer x2,g3,g4,g5,g6,g7,g8,g9,g10,g11,g12,g13,g14,g15,g16,g17,g18,g19,g20,g21] M K = withK (fun w7 w8 w9 w10 w11 w12 w13 M => K #[g0,.int .u32 x1,.pointer x2,g3,g4,g5,g6,w7,w8,w9,w10,w11,w12,w13,g14,g15,g16,g17,g18,g19,g20,g21] M) fun k => (x2).bind fun a_1 => (M.slAt a_1.block a_1.off).bind fun s_2 => (M.intAt .i64 a_1.block (a_1.off + 1)).bind fun x_3 => (call 19 #[.agg #[.slice s_2.1 (s_2.2.1) (s_2.2.2), .int .i64 x_3]] M).bind fun r_4 => (asI .i64 r_4.1).bind fun x_5 => cond (x_5 != 0) (k (.agg #[.slice s_2.1 (s_2.2.1) (s_2.2.2), .int .i64 x_3]) (.int .i64 x_5) (.bool (x_5 != 0)) (.bool true) undef undef (.bool true) r_4.2) (k (.agg #[.slice s_2.1 (s_2.2.1) (s_2.2.2), .int .i64 x_3]) (.int .i64 x_5) (.bool (x_5 != 0)) (.bool false) (.int .u32 x1) (.bool (decide (x1 ≥ 32768))) (.bool (decide (x1 ≥ 32768))) r_4.2) := by kernel_rfl
theorem c21_5 : P21 [1,0,1] = .cond (.tmp 13) (P21 [1,0,1,0]) (P21 [1,0,1,1]) := by kernel_rfl
theorem k21_6 : P21 [1,0,1,0] = .seq (P21 [1,0,1,0,0]) (P21 [1,0,1,0,1]) := by kernel_rfl
theorem k21_7 : P21 [1,0,1,0,0] = .region 2 (O21 [1,0,1,0,0]) false := by kernel_rfl
theorem r21_2 {M : Mem} {call : CallM} {K : Array Value → Mem → R} :
    opsK Try.prog (fun _ => call) (O21 [1,0,1,0,0]) (O21 [1,0,1,0,0]).toList 0 #[g0,g1,g2,g3,g4,g5,g6,g7,g8,g9,g10,g11,g12,g13,g14,g15,g16,g17,g18,g19,g20,g21] M K = K #[g0,g1,g2,g3,.int .i64 0,.int .i64 2,g6,g7,g8,g9,g10,g11,g12,g13,g14,g15,g16,g17,g18,g19,g20,g21] M := by kernel_rfl
theorem k21_8 : P21 [1,0,1,0,1] = .ret := by kernel_rfl
theorem e21 {M : Mem} : finish Try.prog Try.f21 #[g0,g1,g2,g3,g4,g5,g6,g7,g8,g9,g10,g11,g12,g13,g14,g15,g16,g17,g18,g19,g20,g21] M = some (.tuple #[g4, g5], M) := by kernel_rfl
theorem k21_10 : P21 [1,0,1,1] = .skip := by kernel_rfl
theorem k21_11 : P21 [1,1] = .seq (P21 [1,1,0]) (P21 [1,1,1]) := by kernel_rfl
theorem k21_12 : P21 [1,1,0] = .region 3 (O21 [1,1,0]) false := by kernel_rfl
theorem r21_3 {M : Mem} {call : CallM} {K : Array Value → Mem → R} :
    opsK Try.prog (fun _ => call) (O21 [1,1,0]) (O21 [1,1,0]).toList 0 #[g0,g1,g2,g3,g4,g5,g6,g7,g8,g9,g10,g11,g12,g13,g14,g15,g16,g17,g18,g19,g20,g21] M K = K #[g0,g1,g2,g3,g4,g5,.int .i64 0,g7,g8,g9,g10,g11,g12,g13,g14,g15,g16,g17,g18,g19,g20,g21] M := by kernel_rfl
theorem k21_13 : P21 [1,1,1] = .seq (P21 [1,1,1,0]) (P21 [1,1,1,1]) := by kernel_rfl
theorem k21_14 : P21 [1,1,1,0] = .block 0 (P21 [1,1,1,0,0]) := by kernel_rfl
theorem k21_15 : P21 [1,1,1,0,0] = .loop (P21 [1,1,1,0,0,0]) := by kernel_rfl
theorem k21_16 : P21 [1,1,1,0,0,0] = .seq (P21 [1,1,1,0,0,0,0]) (P21 [1,1,1,0,0,0,1]) := by kernel_rfl
theorem k21_17 : P21 [1,1,1,0,0,0,0] = .seq (P21 [1,1,1,0,0,0,0,0]) (P21 [1,1,1,0,0,0,0,1]) := by kernel_rfl
theorem k21_18 : P21 [1,1,1,0,0,0,0,0] = .region 4 (O21 [1,1,1,0,0,0,0,0]) false := by kernel_rfl
theorem r21_4 {x1 : Int} {x2 : Option Addr} {x6 : Int} {M : Mem} {call : CallM} {K : Array Value → Mem → R} :
    opsK Try.prog (fun _ => call) (O21 [1,1,1,0,0,0,0,0]) (O21 [1,1,1,0,0,0,0,0]).toList 0 #[g0,.int .u32 x1,.pointer x2,g3,g4,g5,.int .i64 x6,g7,g8,g9,g10,g11,g12,g13,g14,g15,g16,g17,g18,g19,g20,g21] M K = (x2).bind fun a_1 => (M.slAt a_1.block a_1.off).bind fun s_2 => (M.intAt .i64 a_1.block (a_1.off + 1)).bind fun x_3 => (call 38 #[.agg #[.slice s_2.1 (s_2.2.1) (s_2.2.2), .int .i64 x_3], .int .i64 x6] M).bind fun r_4 => (asI .u32 r_4.1).bind fun x_5 => K #[g0,.int .u32 x1,.pointer x2,g3,g4,g5,.int .i64 x6,g7,g8,g9,g10,g11,g12,g13,.agg #[.slice s_2.1 (s_2.2.1) (s_2.2.2), .int .i64 x_3],.int .i64 x6,.int .u32 x_5,.int .u32 x1,.bool (decide (x_5 ≤ x1)),g19,g20,g21] r_4.2 := by kernel_rfl
theorem c21_19 : P21 [1,1,1,0,0,0,0,1] = .cond (.tmp 18) (P21 [1,1,1,0,0,0,0,1,0]) (P21 [1,1,1,0,0,0,0,1,1]) := by kernel_rfl
theorem k21_20 : P21 [1,1,1,0,0,0,0,1,0] = .skip := by kernel_rfl
theorem k21_21 : P21 [1,1,1,0,0,0,1] = .block 1 (P21 [1,1,1,0,0,0,1,0]) := by kernel_rfl
theorem k21_22 : P21 [1,1,1,0,0,0,1,0] = .region 5 (O21 [1,1,1,0,0,0,1,0]) false := by kernel_rfl
theorem r21_5 {x6 : Int} {M : Mem} {call : CallM} {K : Array Value → Mem → R} :
    opsK Try.prog (fun _ => call) (O21 [1,1,1,0,0,0,1,0]) (O21 [1,1,1,0,0,0,1,0]).toList 0 #[g0,g1,g2,g3,g4,g5,.int .i64 x6,g7,g8,g9,g10,g11,g12,g13,g14,g15,g16,g17,g18,g19,g20,g21] M K = K #[g0,g1,g2,g3,g4,g5,.int .i64 (IntKind.i64.wrap (x6 + 1)),g7,g8,g9,g10,g11,g12,g13,g14,g15,g16,g17,g18,.int .i64 x6,.int .i64 (IntKind.i64.wrap (x6 + 1)),g21] M := by kernel_rfl
theorem k21_23 : P21 [1,1,1,0,0,0,0,1,1] = .exit 0 := by kernel_rfl
theorem k21_24 : P21 [1,1,1,1] = .seq (P21 [1,1,1,1,0]) (P21 [1,1,1,1,1]) := by kernel_rfl
theorem k21_25 : P21 [1,1,1,1,0] = .region 6 (O21 [1,1,1,1,0]) false := by kernel_rfl
theorem r21_6 {x6 : Int} {M : Mem} {call : CallM} {K : Array Value → Mem → R} :
    opsK Try.prog (fun _ => call) (O21 [1,1,1,1,0]) (O21 [1,1,1,1,0]).toList 0 #[g0,g1,g2,g3,g4,g5,.int .i64 x6,g7,g8,g9,g10,g11,g12,g13,g14,g15,g16,g17,g18,g19,g20,g21] M K = K #[g0,g1,g2,g3,.int .i64 x6,.int .i64 0,.int .i64 x6,g7,g8,g9,g10,g11,g12,g13,g14,g15,g16,g17,g18,g19,g20,.int .i64 x6] M := by kernel_rfl
theorem k21_26 : P21 [1,1,1,1,1] = .ret := by kernel_rfl
noncomputable def S21_1 : List Item := [.code (P21 [1,0,1]), .code (P21 [1,1])]
def A21_1 (x1 : Int) (x2 : Option Addr) (x13 : Bool) (M : Mem) (Q : Value → Mem → Prop) : Prop := ∀ (g0 g3 g4 g5 g6 g7 g8 g9 g10 g11 g12 g14 g15 g16 g17 g18 g19 g20 g21 : Value), Rn Try.prog Try.f21 S21_1 #[g0, .int .u32 x1, .pointer x2, g3, g4, g5, g6, g7, g8, g9, g10, g11, g12, .bool x13, g14, g15, g16, g17, g18, g19, g20, g21] M Q
noncomputable def S21_2 : List Item := [.code (P21 [1,1,1,0,0,0]), .inLoop (P21 [1,1,1,0,0,0]), .inBlock 0, .code (P21 [1,1,1,1])]
def A21_2 (x1 : Int) (x2 : Option Addr) (x6 : Int) (M : Mem) (Q : Value → Mem → Prop) : Prop := ∀ (g0 g3 g4 g5 g7 g8 g9 g10 g11 g12 g13 g14 g15 g16 g17 g18 g19 g20 g21 : Value), Rn Try.prog Try.f21 S21_2 #[g0, .int .u32 x1, .pointer x2, g3, g4, g5, .int .i64 x6, g7, g8, g9, g10, g11, g12, g13, g14, g15, g16, g17, g18, g19, g20, g21] M Q
theorem w21_0 {Ax0_0 : Option Addr} {lx0_0 cx0_0 : Nat} {x0_1 x1 : Int} {M : Mem} {Q : Value → Mem → Prop} (H :
    ∃ s1', (M.new (.cells #[.slice Ax0_0 lx0_0 cx0_0, .int .i64 x0_1] 24)).slAt (2 * M.nb.size) 0 = some s1' ∧
    ∃ x2', (M.new (.cells #[.slice Ax0_0 lx0_0 cx0_0, .int .i64 x0_1] 24)).intAt .i64 (2 * M.nb.size) (0 + 1) = some x2' ∧
    Cn Try.prog 19 #[.agg #[.slice s1'.1 (s1'.2.1) (s1'.2.2), .int .i64 x2']] (M.new (.cells #[.slice Ax0_0 lx0_0 cx0_0, .int .i64 x0_1] 24)) fun v3' N3' =>
     ∃ x4', asI .i64 v3' = some x4' ∧
     ((x4' ≠ 0 →
      A21_1 x1 (some ⟨2 * M.nb.size, 0, none⟩) true N3' Q) ∧
      (x4' = 0 →
      A21_1 x1 (some ⟨2 * M.nb.size, 0, none⟩) (decide (x1 ≥ 32768)) N3' Q))) :
    Cn Try.prog 21 #[.agg #[.slice Ax0_0 lx0_0 cx0_0, .int .i64 x0_1], .int .u32 x1] M Q := by
  refine Cn.of b21 d21 t21 ?_
  refine Rn.seq k21_0 (Rn.region k21_1 (fun call K => r21_0) (Rch.leaf (Rn.seq k21_2 (Rn.seq k21_3 (Rn.region k21_4 (fun call K => r21_1) (Rch.bind (x := ⟨2 * M.nb.size, 0, none⟩) rfl (Rch.ex H fun s1' H => Rch.ex H fun x2' H => Rch.call H fun v3' N3' H => Rch.ex H fun x4' H => ?_)))))))
  refine Rch.cB (fun h => ?_) (fun h => ?_)
  · replace H := H.1 (ne_of_bneT h)
    refine Rch.leaf ?_
    exact H _ _ _ _ _ _ _ _ _ _ _ _ _ _ _ _ _ _ _
  · replace H := H.2 (eq_of_bneF h)
    refine Rch.leaf ?_
    exact H _ _ _ _ _ _ _ _ _ _ _ _ _ _ _ _ _ _ _

theorem w21_1 {x1 : Int} {x2 : Option Addr} {x13 : Bool} {M : Mem} {Q : Value → Mem → Prop} (H :
    ((x13 = true →
     Q (.tuple #[.int .i64 0, .int .i64 2]) M) ∧
     (x13 = false →
     A21_2 x1 x2 0 M Q))) :
    A21_1 x1 x2 x13 M Q := by
  intro g0 g3 g4 g5 g6 g7 g8 g9 g10 g11 g12 g14 g15 g16 g17 g18 g19 g20 g21
  refine Rn.cnd (v := x13) ⟨c21_5, rfl, by kernel_rfl⟩ (fun h => ?_) (fun h => ?_)
  · replace H := H.1 (h)
    refine Rn.seq k21_6 (Rn.region k21_7 (fun call K => r21_2) (Rch.leaf ?_))
    exact Rn.ret k21_8 e21 H
  · replace H := H.2 (h)
    refine Rn.skip k21_10 (Rn.seq k21_11 (Rn.region k21_12 (fun call K => r21_3) (Rch.leaf (Rn.seq k21_13 (Rn.block k21_14 (Rn.loop k21_15 ?_))))))
    exact H _ _ _ _ _ _ _ _ _ _ _ _ _ _ _ _ _ _ _

theorem w21_2 {x1 : Int} {x2 : Option Addr} {x6 : Int} {M : Mem} {Q : Value → Mem → Prop} (H :
    ∃ a5', x2 = some a5' ∧
    ∃ s6', M.slAt a5'.block a5'.off = some s6' ∧
    ∃ x7', M.intAt .i64 a5'.block (a5'.off + 1) = some x7' ∧
    Cn Try.prog 38 #[.agg #[.slice s6'.1 (s6'.2.1) (s6'.2.2), .int .i64 x7'], .int .i64 x6] M fun v8' N8' =>
     ∃ x9', asI .u32 v8' = some x9' ∧
     ((x9' ≤ x1 →
      A21_2 x1 x2 (IntKind.i64.wrap (x6 + 1)) N8' Q) ∧
      (¬ (x9' ≤ x1) →
      Q (.tuple #[.int .i64 x6, .int .i64 0]) N8'))) :
    A21_2 x1 x2 x6 M Q := by
  intro g0 g3 g4 g5 g7 g8 g9 g10 g11 g12 g13 g14 g15 g16 g17 g18 g19 g20 g21
  refine Rn.seq k21_16 (Rn.seq k21_17 (Rn.region k21_18 (fun call K => r21_4) (Rch.ex H fun a5' H => Rch.ex H fun s6' H => Rch.ex H fun x7' H => Rch.call H fun v8' N8' H => Rch.ex H fun x9' H => Rch.leaf ?_)))
  refine Rn.cnd (v := decide (x9' ≤ x1)) ⟨c21_19, rfl, by kernel_rfl⟩ (fun h => ?_) (fun h => ?_)
  · replace H := H.1 (of_decide_eq_true h)
    refine Rn.skip k21_20 (Rn.block k21_21 (Rn.region k21_22 (fun call K => r21_5) (Rch.leaf (Rn.blk (Rn.lp ?_)))))
    exact H _ _ _ _ _ _ _ _ _ _ _ _ _ _ _ _ _ _ _
  · replace H := H.2 (of_decide_eq_false h)
    refine Rn.exit k21_23 rfl (Rn.seq k21_24 (Rn.region k21_25 (fun call K => r21_6) (Rch.leaf ?_)))
    exact Rn.ret k21_26 e21 H


/-! ### zoetrope/zoetroperef03.Find: function 31 -/
noncomputable abbrev P31 (p : List Nat) : Code := subC (codeOf Try.f31) p
noncomputable abbrev O31 (p : List Nat) : Array Oper := opsOf (subC (codeOf Try.f31) p)
theorem b31 : Try.prog.funcs[31]? = some Try.f31 ∧ (Orc.tab Try.prog).lookup 31 = none := ⟨by kernel_rfl, by kernel_rfl⟩
theorem d31 : Try.f31.body = some (P31 []) := by kernel_rfl
theorem t31 {Ax0_0 : Option Addr} {lx0_0 cx0_0 : Nat} {x0_1 x1 : Int} : #[.agg #[.slice Ax0_0 lx0_0 cx0_0, .int .i64 x0_1],.int .u32 x1] ++ Array.replicate (Try.f31.ntmps - (#[.agg #[.slice Ax0_0 lx0_0 cx0_0, .int .i64 x0_1],.int .u32 x1] : Array Value).size) undef = #[.agg #[.slice Ax0_0 lx0_0 cx0_0, .int .i64 x0_1],.int .u32 x1,undef,undef,undef,undef,undef,undef,undef,undef,undef,undef,undef,undef,undef,undef,undef,undef,undef,undef,undef,undef,undef] := by kernel_rfl
theorem k31_0 : P31 [] = .seq (P31 [0]) (P31 [1]) := by kernel_rfl
theorem k31_1 : P31 [0] = .region 0 (O31 [0]) false := by kernel_rfl
theorem r31_0 {Ax0_0 : Option Addr} {lx0_0 cx0_0 : Nat} {x0_1 : Int} {M : Mem} {call : CallM} {K : Array Value → Mem → R} :
    opsK Try.prog (fun _ => call) (O31 [0]) (O31 [0]).toList 0 #[.agg #[.slice Ax0_0 lx0_0 cx0_0, .int .i64 x0_1],g1,g2,g3,g4,g5,g6,g7,g8,g9,g10,g11,g12,g13,g14,g15,g16,g17,g18,g19,g20,g21,g22] M K = K #[.agg #[.slice Ax0_0 lx0_0 cx0_0, .int .i64 x0_1],g1,.pointer (some ⟨2 * M.nb.size, 0, none⟩),g3,.int .i64 0,.int .i64 0,g6,g7,g8,g9,g10,g11,g12,g13,g14,g15,g16,g17,g18,g19,g20,g21,g22] (M.new (.cells #[.slice Ax0_0 lx0_0 cx0_0, .int .i64 x0_1] 24)) := by kernel_rfl
theorem k31_2 : P31 [1] = .seq (P31 [1,0]) (P31 [1,1]) := by kernel_rfl
theorem k31_3 : P31 [1,0] = .seq (P31 [1,0,0]) (P31 [1,0,1]) := by kernel_rfl
theorem k31_4 : P31 [1,0,0] = .region 1 (O31 [1,0,0]) false := by kernel_rfl
theorem r31_1 {x1 : Int} {x2 : Option Addr} {M : Mem} {call : CallM} {K : Array Value → Mem → R} :
    opsK Try.prog (fun _ => call) (O31 [1,0,0]) (O31 [1,0,0]).toList 0 #[g0,.int .u32 x1,.pointer x2,g3,g4,g5,g6,g7,g8,g9,g10,g11,g12,g13,g14,g15,g16,g17,g18,g19,g20,g21,g22] M K = withK (fun w7 w8 w9 w10 w11 w12 w13 M => K #[g0,.int .u32 x1,.pointer x2,g3,g4,g5,g6,w7,w8,w9,w10,w11,w12,w13,g14,g15,g16,g17,g18,g19,g20,g21,g22] M) fun k => (x2).bind fun a_1 => (M.slAt a_1.block a_1.off).bind fun s_2 => (M.intAt .i64 a_1.block (a_1.off + 1)).bind fun x_3 => (call 29 #[.agg #[.slice s_2.1 (s_2.2.1) (s_2.2.2), .int .i64 x_3]] M).bind fun r_4 => (asI .i64 r_4.1).bind fun x_5 => cond (x_5 != 0) (k (.agg #[.slice s_2.1 (s_2.2.1) (s_2.2.2), .int .i64 x_3]) (.int .i64 x_5) (.bool (x_5 != 0)) (.bool true) undef undef (.bool true) r_4.2) (k (.agg #[.slice s_2.1 (s_2.2.1) (s_2.2.2), .int .i64 x_3]) (.int .i64 x_5) (.bool (x_5 != 0)) (.bool false) (.int .u32 x1) (.bool (decide (x1 > 32767))) (.bool (decide (x1 > 32767))) r_4.2) := by kernel_rfl
theorem c31_5 : P31 [1,0,1] = .cond (.tmp 13) (P31 [1,0,1,0]) (P31 [1,0,1,1]) := by kernel_rfl
theorem k31_6 : P31 [1,0,1,0] = .seq (P31 [1,0,1,0,0]) (P31 [1,0,1,0,1]) := by kernel_rfl
theorem k31_7 : P31 [1,0,1,0,0] = .region 2 (O31 [1,0,1,0,0]) false := by kernel_rfl
theorem r31_2 {M : Mem} {call : CallM} {K : Array Value → Mem → R} :
    opsK Try.prog (fun _ => call) (O31 [1,0,1,0,0]) (O31 [1,0,1,0,0]).toList 0 #[g0,g1,g2,g3,g4,g5,g6,g7,g8,g9,g10,g11,g12,g13,g14,g15,g16,g17,g18,g19,g20,g21,g22] M K = K #[g0,g1,g2,g3,.int .i64 0,.int .i64 2,g6,g7,g8,g9,g10,g11,g12,g13,g14,g15,g16,g17,g18,g19,g20,g21,g22] M := by kernel_rfl
theorem k31_8 : P31 [1,0,1,0,1] = .ret := by kernel_rfl
theorem e31 {M : Mem} : finish Try.prog Try.f31 #[g0,g1,g2,g3,g4,g5,g6,g7,g8,g9,g10,g11,g12,g13,g14,g15,g16,g17,g18,g19,g20,g21,g22] M = some (.tuple #[g4, g5], M) := by kernel_rfl
theorem k31_10 : P31 [1,0,1,1] = .skip := by kernel_rfl
theorem k31_11 : P31 [1,1] = .seq (P31 [1,1,0]) (P31 [1,1,1]) := by kernel_rfl
theorem k31_12 : P31 [1,1,0] = .region 3 (O31 [1,1,0]) false := by kernel_rfl
theorem r31_3 {M : Mem} {call : CallM} {K : Array Value → Mem → R} :
    opsK Try.prog (fun _ => call) (O31 [1,1,0]) (O31 [1,1,0]).toList 0 #[g0,g1,g2,g3,g4,g5,g6,g7,g8,g9,g10,g11,g12,g13,g14,g15,g16,g17,g18,g19,g20,g21,g22] M K = K #[g0,g1,g2,g3,g4,g5,.int .i64 0,g7,g8,g9,g10,g11,g12,g13,g14,g15,g16,g17,g18,g19,g20,g21,g22] M := by kernel_rfl
theorem k31_13 : P31 [1,1,1] = .seq (P31 [1,1,1,0]) (P31 [1,1,1,1]) := by kernel_rfl
theorem k31_14 : P31 [1,1,1,0] = .block 0 (P31 [1,1,1,0,0]) := by kernel_rfl
theorem k31_15 : P31 [1,1,1,0,0] = .loop (P31 [1,1,1,0,0,0]) := by kernel_rfl
theorem k31_16 : P31 [1,1,1,0,0,0] = .seq (P31 [1,1,1,0,0,0,0]) (P31 [1,1,1,0,0,0,1]) := by kernel_rfl
theorem k31_17 : P31 [1,1,1,0,0,0,0] = .seq (P31 [1,1,1,0,0,0,0,0]) (P31 [1,1,1,0,0,0,0,1]) := by kernel_rfl
theorem k31_18 : P31 [1,1,1,0,0,0,0,0] = .region 4 (O31 [1,1,1,0,0,0,0,0]) false := by kernel_rfl
theorem r31_4 {x1 : Int} {x2 : Option Addr} {x6 : Int} {M : Mem} {call : CallM} {K : Array Value → Mem → R} :
    opsK Try.prog (fun _ => call) (O31 [1,1,1,0,0,0,0,0]) (O31 [1,1,1,0,0,0,0,0]).toList 0 #[g0,.int .u32 x1,.pointer x2,g3,g4,g5,.int .i64 x6,g7,g8,g9,g10,g11,g12,g13,g14,g15,g16,g17,g18,g19,g20,g21,g22] M K = (x2).bind fun a_1 => (M.slAt a_1.block a_1.off).bind fun s_2 => (M.intAt .i64 a_1.block (a_1.off + 1)).bind fun x_3 => (call 39 #[.agg #[.slice s_2.1 (s_2.2.1) (s_2.2.2), .int .i64 x_3], .int .i64 x6] M).bind fun r_4 => (asI .i64 r_4.1).bind fun x_5 => K #[g0,.int .u32 x1,.pointer x2,g3,g4,g5,.int .i64 x6,g7,g8,g9,g10,g11,g12,g13,.agg #[.slice s_2.1 (s_2.2.1) (s_2.2.2), .int .i64 x_3],.int .i64 x6,.int .i64 x_5,.int .u32 x1,.int .i64 (IntKind.i64.wrap (x1)),.bool (decide (x_5 ≤ (IntKind.i64.wrap (x1)))),g20,g21,g22] r_4.2 := by kernel_rfl
theorem c31_19 : P31 [1,1,1,0,0,0,0,1] = .cond (.tmp 19) (P31 [1,1,1,0,0,0,0,1,0]) (P31 [1,1,1,0,0,0,0,1,1]) := by kernel_rfl
theorem k31_20 : P31 [1,1,1,0,0,0,0,1,0] = .skip := by kernel_rfl
theorem k31_21 : P31 [1,1,1,0,0,0,1] = .block 1 (P31 [1,1,1,0,0,0,1,0]) := by kernel_rfl
theorem k31_22 : P31 [1,1,1,0,0,0,1,0] = .region 5 (O31 [1,1,1,0,0,0,1,0]) false := by kernel_rfl
theorem r31_5 {x6 : Int} {M : Mem} {call : CallM} {K : Array Value → Mem → R} :
    opsK Try.prog (fun _ => call) (O31 [1,1,1,0,0,0,1,0]) (O31 [1,1,1,0,0,0,1,0]).toList 0 #[g0,g1,g2,g3,g4,g5,.int .i64 x6,g7,g8,g9,g10,g11,g12,g13,g14,g15,g16,g17,g18,g19,g20,g21,g22] M K = K #[g0,g1,g2,g3,g4,g5,.int .i64 (IntKind.i64.wrap (x6 + 1)),g7,g8,g9,g10,g11,g12,g13,g14,g15,g16,g17,g18,g19,.int .i64 x6,.int .i64 (IntKind.i64.wrap (x6 + 1)),g22] M := by kernel_rfl
theorem k31_23 : P31 [1,1,1,0,0,0,0,1,1] = .exit 0 := by kernel_rfl
theorem k31_24 : P31 [1,1,1,1] = .seq (P31 [1,1,1,1,0]) (P31 [1,1,1,1,1]) := by kernel_rfl
theorem k31_25 : P31 [1,1,1,1,0] = .region 6 (O31 [1,1,1,1,0]) false := by kernel_rfl
theorem r31_6 {x6 : Int} {M : Mem} {call : CallM} {K : Array Value → Mem → R} :
    opsK Try.prog (fun _ => call) (O31 [1,1,1,1,0]) (O31 [1,1,1,1,0]).toList 0 #[g0,g1,g2,g3,g4,g5,.int .i64 x6,g7,g8,g9,g10,g11,g12,g13,g14,g15,g16,g17,g18,g19,g20,g21,g22] M K = K #[g0,g1,g2,g3,.int .i64 x6,.int .i64 0,.int .i64 x6,g7,g8,g9,g10,g11,g12,g13,g14,g15,g16,g17,g18,g19,g20,g21,.int .i64 x6] M := by kernel_rfl
theorem k31_26 : P31 [1,1,1,1,1] = .ret := by kernel_rfl
noncomputable def S31_1 : List Item := [.code (P31 [1,0,1]), .code (P31 [1,1])]
def A31_1 (x1 : Int) (x2 : Option Addr) (x13 : Bool) (M : Mem) (Q : Value → Mem → Prop) : Prop := ∀ (g0 g3 g4 g5 g6 g7 g8 g9 g10 g11 g12 g14 g15 g16 g17 g18 g19 g20 g21 g22 : Value), Rn Try.prog Try.f31 S31_1 #[g0, .int .u32 x1, .pointer x2, g3, g4, g5, g6, g7, g8, g9, g10, g11, g12, .bool x13, g14, g15, g16, g17, g18, g19, g20, g21, g22] M Q
noncomputable def S31_2 : List Item := [.code (P31 [1,1,1,0,0,0]), .inLoop (P31 [1,1,1,0,0,0]), .inBlock 0, .code (P31 [1,1,1,1])]
def A31_2 (x1 : Int) (x2 : Option Addr) (x6 : Int) (M : Mem) (Q : Value → Mem → Prop) : Prop := ∀ (g0 g3 g4 g5 g7 g8 g9 g10 g11 g12 g13 g14 g15 g16 g17 g18 g19 g20 g21 g22 : Value), Rn Try.prog Try.f31 S31_2 #[g0, .int .u32 x1, .pointer x2, g3, g4, g5, .int .i64 x6, g7, g8, g9, g10, g11, g12, g13, g14, g15, g16, g17, g18, g19, g20, g21, g22] M Q
theorem w31_0 {Ax0_0 : Option Addr} {lx0_0 cx0_0 : Nat} {x0_1 x1 : Int} {M : Mem} {Q : Value → Mem → Prop} (H :
    ∃ s1', (M.new (.cells #[.slice Ax0_0 lx0_0 cx0_0, .int .i64 x0_1] 24)).slAt (2 * M.nb.size) 0 = some s1' ∧
    ∃ x2', (M.new (.cells #[.slice Ax0_0 lx0_0 cx0_0, .int .i64 x0_1] 24)).intAt .i64 (2 * M.nb.size) (0 + 1) = some x2' ∧
    Cn Try.prog 29 #[.agg #[.slice s1'.1 (s1'.2.1) (s1'.2.2), .int .i64 x2']] (M.new (.cells #[.slice Ax0_0 lx0_0 cx0_0, .int .i64 x0_1] 24)) fun v3' N3' =>
     ∃ x4', asI .i64 v3' = some x4' ∧
     ((x4' ≠ 0 →
      A31_1 x1 (some ⟨2 * M.nb.size, 0, none⟩) true N3' Q) ∧
      (x4' = 0 →
      A31_1 x1 (some ⟨2 * M.nb.size, 0, none⟩) (decide (x1 > 32767)) N3' Q))) :
    Cn Try.prog 31 #[.agg #[.slice Ax0_0 lx0_0 cx0_0, .int .i64 x0_1], .int .u32 x1] M Q := by
  refine Cn.of b31 d31 t31 ?_
  refine Rn.seq k31_0 (Rn.region k31_1 (fun call K => r31_0) (Rch.leaf (Rn.seq k31_2 (Rn.seq k31_3 (Rn.region k31_4 (fun call K => r31_1) (Rch.bind (x := ⟨2 * M.nb.size, 0, none⟩) rfl (Rch.ex H fun s1' H => Rch.ex H fun x2' H => Rch.call H fun v3' N3' H => Rch.ex H fun x4' H => ?_)))))))
  refine Rch.cB (fun h => ?_) (fun h => ?_)
  · replace H := H.1 (ne_of_bneT h)
    refine Rch.leaf ?_
    exact H _ _ _ _ _ _ _ _ _ _ _ _ _ _ _ _ _ _ _ _
  · replace H := H.2 (eq_of_bneF h)
    refine Rch.leaf ?_
    exact H _ _ _ _ _ _ _ _ _ _ _ _ _ _ _ _ _ _ _ _

theorem w31_1 {x1 : Int} {x2 : Option Addr} {x13 : Bool} {M : Mem} {Q : Value → Mem → Prop} (H :
    ((x13 = true →
     Q (.tuple #[.int .i64 0, .int .i64 2]) M) ∧
     (x13 = false →
     A31_2 x1 x2 0 M Q))) :
    A31_1 x1 x2 x13 M Q := by
  intro g0 g3 g4 g5 g6 g7 g8 g9 g10 g11 g12 g14 g15 g16 g17 g18 g19 g20 g21 g22
  refine Rn.cnd (v := x13) ⟨c31_5, rfl, by kernel_rfl⟩ (fun h => ?_) (fun h => ?_)
  · replace H := H.1 (h)
    refine Rn.seq k31_6 (Rn.region k31_7 (fun call K => r31_2) (Rch.leaf ?_))
    exact Rn.ret k31_8 e31 H
  · replace H := H.2 (h)
    refine Rn.skip k31_10 (Rn.seq k31_11 (Rn.region k31_12 (fun call K => r31_3) (Rch.leaf (Rn.seq k31_13 (Rn.block k31_14 (Rn.loop k31_15 ?_))))))
    exact H _ _ _ _ _ _ _ _ _ _ _ _ _ _ _ _ _ _ _ _

theorem w31_2 {x1 : Int} {x2 : Option Addr} {x6 : Int} {M : Mem} {Q : Value → Mem → Prop} (H :
    ∃ a5', x2 = some a5' ∧
    ∃ s6', M.slAt a5'.block a5'.off = some s6' ∧
    ∃ x7', M.intAt .i64 a5'.block (a5'.off + 1) = some x7' ∧
    Cn Try.prog 39 #[.agg #[.slice s6'.1 (s6'.2.1) (s6'.2.2), .int .i64 x7'], .int .i64 x6] M fun v8' N8' =>
     ∃ x9', asI .i64 v8' = some x9' ∧
     ((x9' ≤ (IntKind.i64.wrap (x1)) →
      A31_2 x1 x2 (IntKind.i64.wrap (x6 + 1)) N8' Q) ∧
      (¬ (x9' ≤ (IntKind.i64.wrap (x1))) →
      Q (.tuple #[.int .i64 x6, .int .i64 0]) N8'))) :
    A31_2 x1 x2 x6 M Q := by
  intro g0 g3 g4 g5 g7 g8 g9 g10 g11 g12 g13 g14 g15 g16 g17 g18 g19 g20 g21 g22
  refine Rn.seq k31_16 (Rn.seq k31_17 (Rn.region k31_18 (fun call K => r31_4) (Rch.ex H fun a5' H => Rch.ex H fun s6' H => Rch.ex H fun x7' H => Rch.call H fun v8' N8' H => Rch.ex H fun x9' H => Rch.leaf ?_)))
  refine Rn.cnd (v := decide (x9' ≤ (IntKind.i64.wrap (x1)))) ⟨c31_19, rfl, by kernel_rfl⟩ (fun h => ?_) (fun h => ?_)
  · replace H := H.1 (of_decide_eq_true h)
    refine Rn.skip k31_20 (Rn.block k31_21 (Rn.region k31_22 (fun call K => r31_5) (Rch.leaf (Rn.blk (Rn.lp ?_)))))
    exact H _ _ _ _ _ _ _ _ _ _ _ _ _ _ _ _ _ _ _ _
  · replace H := H.2 (of_decide_eq_false h)
    refine Rn.exit k31_23 rfl (Rn.seq k31_24 (Rn.region k31_25 (fun call K => r31_6) (Rch.leaf ?_)))
    exact Rn.ret k31_26 e31 H


/-! ### zoetrope/zoetropelaw03.has: function 24 -/
noncomputable abbrev P24 (p : List Nat) : Code := subC (codeOf Try.f24) p
noncomputable abbrev O24 (p : List Nat) : Array Oper := opsOf (subC (codeOf Try.f24) p)
theorem b24 : Try.prog.funcs[24]? = some Try.f24 ∧ (Orc.tab Try.prog).lookup 24 = none := ⟨by kernel_rfl, by kernel_rfl⟩
theorem d24 : Try.f24.body = some (P24 []) := by kernel_rfl
theorem t24 {Ax0_0 : Option Addr} {lx0_0 cx0_0 : Nat} {x0_1 x1 : Int} {Ax2 : Option Addr} {lx2 cx2 : Nat} : #[.agg #[.slice Ax0_0 lx0_0 cx0_0, .int .i64 x0_1],.int .i64 x1,.slice Ax2 lx2 cx2] ++ Array.replicate (Try.f24.ntmps - (#[.agg #[.slice Ax0_0 lx0_0 cx0_0, .int .i64 x0_1],.int .i64 x1,.slice Ax2 lx2 cx2] : Array Value).size) undef = #[.agg #[.slice Ax0_0 lx0_0 cx0_0, .int .i64 x0_1],.int .i64 x1,.slice Ax2 lx2 cx2,undef,undef,undef,undef,undef,undef,undef,undef,undef,undef,undef,undef,undef,undef,undef,undef,undef,undef,undef,undef,undef,undef,undef,undef,undef,undef,undef,undef,undef,undef,undef,undef,undef] := by kernel_rfl
theorem k24_0 : P24 [] = .seq (P24 [0]) (P24 [1]) := by kernel_rfl
theorem k24_1 : P24 [0] = .region 0 (O24 [0]) false := by kernel_rfl
theorem r24_0 {Ax0_0 : Option Addr} {lx0_0 cx0_0 : Nat} {x0_1 : Int} {M : Mem} {call : CallM} {K : Array Value → Mem → R} :
    opsK Try.prog (fun _ => call) (O24 [0]) (O24 [0]).toList 0 #[.agg #[.slice Ax0_0 lx0_0 cx0_0, .int .i64 x0_1],g1,g2,g3,g4,g5,g6,g7,g8,g9,g10,g11,g12,g13,g14,g15,g16,g17,g18,g19,g20,g21,g22,g23,g24,g25,g26,g27,g28,g29,g30,g31,g32,g33,g34,g35] M K = K #[.agg #[.slice Ax0_0 lx0_0 cx0_0, .int .i64 x0_1],g1,g2,.pointer (some ⟨2 * M.nb.size, 0, none⟩),g4,g5,.bool false,g7,g8,g9,g10,g11,g12,g13,g14,g15,g16,g17,g18,g19,g20,g21,g22,g23,g24,g25,g26,g27,g28,g29,g30,g31,g32,g33,g34,g35] (M.new (.cells #[.slice Ax0_0 lx0_0 cx0_0, .int .i64 x0_1] 24)) := by kernel_rfl
theorem k24_2 : P24 [1] = .seq (P24 [1,0]) (P24 [1,1]) := by kernel_rfl
theorem k24_3 : P24 [1,0] = .seq (P24 [1,0,0]) (P24 [1,0,1]) := by kernel_rfl
theorem k24_4 : P24 [1,0,0] = .region 1 (O24 [1,0,0]) false := by kernel_rfl
theorem r24_1 {x1 : Int} {Ax2 : Option Addr} {lx2 cx2 : Nat} {x3 : Option Addr} {M : Mem} {call : CallM} {K : Array Value → Mem → R} :
    opsK Try.prog (fun _ => call) (O24 [1,0,0]) (O24 [1,0,0]).toList 0 #[g0,.int .i64 x1,.slice Ax2 lx2 cx2,.pointer x3,g4,g5,g6,g7,g8,g9,g10,g11,g12,g13,g14,g15,g16,g17,g18,g19,g20,g21,g22,g23,g24,g25,g26,g27,g28,g29,g30,g31,g32,g33,g34,g35] M K = withK (fun w8 w9 w10 w13 w14 w15 w16 w17 w18 w19 M => K #[g0,.int .i64 x1,.slice Ax2 lx2 cx2,.pointer x3,g4,g5,g6,g7,w8,w9,w10,.slice Ax2 lx2 cx2,.int .i64 ((lx2 : Int)),w13,w14,w15,w16,w17,w18,w19,g20,g21,g22,g23,g24,g25,g26,g27,g28,g29,g30,g31,g32,g33,g34,g35] M) fun k => (x3).bind fun a_1 => (M.slAt a_1.block a_1.off).bind fun s_2 => cond (((s_2.2.1 : Int)) != ((lx2 : Int))) (k (.pointer (some ⟨a_1.block, a_1.off, none⟩)) (.slice s_2.1 (s_2.2.1) (s_2.2.2)) (.int .i64 ((s_2.2.1 : Int))) (.bool (((s_2.2.1 : Int)) != ((lx2 : Int)))) (.bool true) undef undef undef undef (.bool true) M) ((x3).bind fun a_3 => (M.intAt .i64 a_3.block (a_3.off + 1)).bind fun x_4 => k (.pointer (some ⟨a_1.block, a_1.off, none⟩)) (.slice s_2.1 (s_2.2.1) (s_2.2.2)) (.int .i64 ((s_2.2.1 : Int))) (.bool (((s_2.2.1 : Int)) != ((lx2 : Int)))) (.bool false) (.pointer (some ⟨a_3.block, a_3.off + 1, none⟩)) (.int .i64 x_4) (.int .i64 x1) (.bool (x_4 != x1)) (.bool (x_4 != x1)) M) := by kernel_rfl
theorem c24_5 : P24 [1,0,1] = .cond (.tmp 19) (P24 [1,0,1,0]) (P24 [1,0,1,1]) := by kernel_rfl
theorem k24_6 : P24 [1,0,1,0] = .seq (P24 [1,0,1,0,0]) (P24 [1,0,1,0,1]) := by kernel_rfl
theorem k24_7 : P24 [1,0,1,0,0] = .region 2 (O24 [1,0,1,0,0]) false := by kernel_rfl
theorem r24_2 {M : Mem} {call : CallM} {K : Array Value → Mem → R} :
    opsK Try.prog (fun _ => call) (O24 [1,0,1,0,0]) (O24 [1,0,1,0,0]).toList 0 #[g0,g1,g2,g3,g4,g5,g6,g7,g8,g9,g10,g11,g12,g13,g14,g15,g16,g17,g18,g19,g20,g21,g22,g23,g24,g25,g26,g27,g28,g29,g30,g31,g32,g33,g34,g35] M K = K #[g0,g1,g2,g3,g4,g5,.bool false,g7,g8,g9,g10,g11,g12,g13,g14,g15,g16,g17,g18,g19,g20,g21,g22,g23,g24,g25,g26,g27,g28,g29,g30,g31,g32,g33,g34,g35] M := by kernel_rfl
theorem k24_8 : P24 [1,0,1,0,1] = .ret := by kernel_rfl
theorem e24 {M : Mem} : finish Try.prog Try.f24 #[g0,g1,g2,g3,g4,g5,g6,g7,g8,g9,g10,g11,g12,g13,g14,g15,g16,g17,g18,g19,g20,g21,g22,g23,g24,g25,g26,g27,g28,g29,g30,g31,g32,g33,g34,g35] M = some (g6, M) := by kernel_rfl
theorem k24_10 : P24 [1,0,1,1] = .skip := by kernel_rfl
theorem k24_11 : P24 [1,1] = .seq (P24 [1,1,0]) (P24 [1,1,1]) := by kernel_rfl
theorem k24_12 : P24 [1,1,0] = .seq (P24 [1,1,0,0]) (P24 [1,1,0,1]) := by kernel_rfl
theorem k24_13 : P24 [1,1,0,0] = .region 3 (O24 [1,1,0,0]) false := by kernel_rfl
theorem r24_3 {M : Mem} {call : CallM} {K : Array Value → Mem → R} :
    opsK Try.prog (fun _ => call) (O24 [1,1,0,0]) (O24 [1,1,0,0]).toList 0 #[g0,g1,g2,g3,g4,g5,g6,g7,g8,g9,g10,g11,g12,g13,g14,g15,g16,g17,g18,g19,g20,g21,g22,g23,g24,g25,g26,g27,g28,g29,g30,g31,g32,g33,g34,g35] M K = K #[g0,g1,g2,g3,g4,g5,g6,.int .i64 0,g8,g9,g10,g11,g12,g13,g14,g15,g16,g17,g18,g19,g20,g21,g22,g23,g24,g25,g26,g27,g28,g29,g30,g31,g32,g33,g34,g35] M := by kernel_rfl
theorem k24_14 : P24 [1,1,0,1] = .block 0 (P24 [1,1,0,1,0]) := by kernel_rfl
theorem k24_15 : P24 [1,1,0,1,0] = .loop (P24 [1,1,0,1,0,0]) := by kernel_rfl
theorem k24_16 : P24 [1,1,0,1,0,0] = .seq (P24 [1,1,0,1,0,0,0]) (P24 [1,1,0,1,0,0,1]) := by kernel_rfl
theorem k24_17 : P24 [1,1,0,1,0,0,0] = .seq (P24 [1,1,0,1,0,0,0,0]) (P24 [1,1,0,1,0,0,0,1]) := by kernel_rfl
theorem k24_18 : P24 [1,1,0,1,0,0,0,0] = .region 4 (O24 [1,1,0,1,0,0,0,0]) false := by kernel_rfl
theorem r24_4 {Ax2 : Option Addr} {lx2 cx2 : Nat} {x7 : Int} {M : Mem} {call : CallM} {K : Array Value → Mem → R} :
    opsK Try.prog (fun _ => call) (O24 [1,1,0,1,0,0,0,0]) (O24 [1,1,0,1,0,0,0,0]).toList 0 #[g0,g1,.slice Ax2 lx2 cx2,g3,g4,g5,g6,.int .i64 x7,g8,g9,g10,g11,g12,g13,g14,g15,g16,g17,g18,g19,g20,g21,g22,g23,g24,g25,g26,g27,g28,g29,g30,g31,g32,g33,g34,g35] M K = K #[g0,g1,.slice Ax2 lx2 cx2,g3,g4,g5,g6,.int .i64 x7,g8,g9,g10,g11,g12,g13,g14,g15,g16,g17,g18,g19,.int .i64 x7,.slice Ax2 lx2 cx2,.int .i64 ((lx2 : Int)),.bool (decide (x7 < ((lx2 : Int)))),g24,g25,g26,g27,g28,g29,g30,g31,g32,g33,g34,g35] M := by kernel_rfl
theorem c24_19 : P24 [1,1,0,1,0,0,0,1] = .cond (.tmp 23) (P24 [1,1,0,1,0,0,0,1,0]) (P24 [1,1,0,1,0,0,0,1,1]) := by kernel_rfl
theorem k24_20 : P24 [1,1,0,1,0,0,0,1,0] = .skip := by kernel_rfl
theorem k24_21 : P24 [1,1,0,1,0,0,1] = .seq (P24 [1,1,0,1,0,0,1,0]) (P24 [1,1,0,1,0,0,1,1]) := by kernel_rfl
theorem k24_22 : P24 [1,1,0,1,0,0,1,0] = .block 1 (P24 [1,1,0,1,0,0,1,0,0]) := by kernel_rfl
theorem k24_23 : P24 [1,1,0,1,0,0,1,0,0] = .seq (P24 [1,1,0,1,0,0,1,0,0,0]) (P24 [1,1,0,1,0,0,1,0,0,1]) := by kernel_rfl
theorem k24_24 : P24 [1,1,0,1,0,0,1,0,0,0] = .region 6 (O24 [1,1,0,1,0,0,1,0,0,0]) true ∧ drawOk (O24 [1,1,0,1,0,0,1,0,0,0]) = true := ⟨by kernel_rfl, by kernel_rfl⟩
theorem r24_6 {Ax2 : Option Addr} {lx2 cx2 : Nat} {x3 : Option Addr} {x7 : Int} {M : Mem} {call : CallM} {K : Array Value → Mem → R} :
    opsI Try.prog (callAt call (O24 [1,1,0,1,0,0,1,0,0,0])) (O24 [1,1,0,1,0,0,1,0,0,0]) (ordOf (O24 [1,1,0,1,0,0,1,0,0,0])) [] #[g0,g1,.slice Ax2 lx2 cx2,.pointer x3,g4,g5,g6,.int .i64 x7,g8,g9,g10,g11,g12,g13,g14,g15,g16,g17,g18,g19,g20,g21,g22,g23,g24,g25,g26,g27,g28,g29,g30,g31,g32,g33,g34,g35] M K = (x3).bind fun a_1 => (M.slAt a_1.block a_1.off).bind fun s_2 => (idxA s_2.1 (s_2.2.1) 1 x7).bind fun a_3 => (M.intAt .u16 a_3.block a_3.off).bind fun x_4 => (idxA Ax2 lx2 1 x7).bind fun a_5 => (M.intAt .u16 a_5.block a_5.off).bind fun x_6 => K #[g0,g1,.slice Ax2 lx2 cx2,.pointer x3,g4,g5,g6,.int .i64 x7,g8,g9,g10,g11,g12,g13,g14,g15,g16,g17,g18,g19,g20,g21,g22,g23,g24,g25,.pointer (some ⟨a_1.block, a_1.off, none⟩),.slice s_2.1 (s_2.2.1) (s_2.2.2),.int .i64 x7,.pointer (some a_3),.int .u16 x_4,.slice Ax2 lx2 cx2,.int .i64 x7,.pointer (some a_5),.int .u16 x_6,.bool (x_4 != x_6)] M := by kernel_rfl
theorem c24_25 : P24 [1,1,0,1,0,0,1,0,0,1] = .cond (.tmp 35) (P24 [1,1,0,1,0,0,1,0,0,1,0]) (P24 [1,1,0,1,0,0,1,0,0,1,1]) := by kernel_rfl
theorem k24_26 : P24 [1,1,0,1,0,0,1,0,0,1,0] = .seq (P24 [1,1,0,1,0,0,1,0,0,1,0,0]) (P24 [1,1,0,1,0,0,1,0,0,1,0,1]) := by kernel_rfl
theorem k24_27 : P24 [1,1,0,1,0,0,1,0,0,1,0,0] = .region 7 (O24 [1,1,0,1,0,0,1,0,0,1,0,0]) false := by kernel_rfl
theorem r24_7 {M : Mem} {call : CallM} {K : Array Value → Mem → R} :
    opsK Try.prog (fun _ => call) (O24 [1,1,0,1,0,0,1,0,0,1,0,0]) (O24 [1,1,0,1,0,0,1,0,0,1,0,0]).toList 0 #[g0,g1,g2,g3,g4,g5,g6,g7,g8,g9,g10,g11,g12,g13,g14,g15,g16,g17,g18,g19,g20,g21,g22,g23,g24,g25,g26,g27,g28,g29,g30,g31,g32,g33,g34,g35] M K = K #[g0,g1,g2,g3,g4,g5,.bool false,g7,g8,g9,g10,g11,g12,g13,g14,g15,g16,g17,g18,g19,g20,g21,g22,g23,g24,g25,g26,g27,g28,g29,g30,g31,g32,g33,g34,g35] M := by kernel_rfl
theorem k24_28 : P24 [1,1,0,1,0,0,1,0,0,1,0,1] = .ret := by kernel_rfl
theorem k24_29 : P24 [1,1,0,1,0,0,1,0,0,1,1] = .skip := by kernel_rfl
theorem k24_30 : P24 [1,1,0,1,0,0,1,1] = .region 5 (O24 [1,1,0,1,0,0,1,1]) false := by kernel_rfl
theorem r24_5 {x7 : Int} {M : Mem} {call : CallM} {K : Array Value → Mem → R} :
    opsK Try.prog (fun _ => call) (O24 [1,1,0,1,0,0,1,1]) (O24 [1,1,0,1,0,0,1,1]).toList 0 #[g0,g1,g2,g3,g4,g5,g6,.int .i64 x7,g8,g9,g10,g11,g12,g13,g14,g15,g16,g17,g18,g19,g20,g21,g22,g23,g24,g25,g26,g27,g28,g29,g30,g31,g32,g33,g34,g35] M K = K #[g0,g1,g2,g3,g4,g5,g6,.int .i64 (IntKind.i64.wrap (x7 + 1)),g8,g9,g10,g11,g12,g13,g14,g15,g16,g17,g18,g19,g20,g21,g22,g23,.int .i64 x7,.int .i64 (IntKind.i64.wrap (x7 + 1)),g26,g27,g28,g29,g30,g31,g32,g33,g34,g35] M := by kernel_rfl
theorem k24_31 : P24 [1,1,0,1,0,0,0,1,1] = .exit 0 := by kernel_rfl
theorem k24_32 : P24 [1,1,1] = .seq (P24 [1,1,1,0]) (P24 [1,1,1,1]) := by kernel_rfl
theorem k24_33 : P24 [1,1,1,0] = .region 8 (O24 [1,1,1,0]) false := by kernel_rfl
theorem r24_8 {M : Mem} {call : CallM} {K : Array Value → Mem → R} :
    opsK Try.prog (fun _ => call) (O24 [1,1,1,0]) (O24 [1,1,1,0]).toList 0 #[g0,g1,g2,g3,g4,g5,g6,g7,g8,g9,g10,g11,g12,g13,g14,g15,g16,g17,g18,g19,g20,g21,g22,g23,g24,g25,g26,g27,g28,g29,g30,g31,g32,g33,g34,g35] M K = K #[g0,g1,g2,g3,g4,g5,.bool true,g7,g8,g9,g10,g11,g12,g13,g14,g15,g16,g17,g18,g19,g20,g21,g22,g23,g24,g25,g26,g27,g28,g29,g30,g31,g32,g33,g34,g35] M := by kernel_rfl
theorem k24_34 : P24 [1,1,1,1] = .ret := by kernel_rfl
noncomputable def S24_1 : List Item := [.code (P24 [1,0,1]), .code (P24 [1,1])]
def A24_1 (Ax2 : Option Addr) (lx2 cx2 : Nat) (x3 : Option Addr) (x19 : Bool) (M : Mem) (Q : Value → Mem → Prop) : Prop := ∀ (g0 g1 g4 g5 g6 g7 g8 g9 g10 g11 g12 g13 g14 g15 g16 g17 g18 g20 g21 g22 g23 g24 g25 g26 g27 g28 g29 g30 g31 g32 g33 g34 g35 : Value), Rn Try.prog Try.f24 S24_1 #[g0, g1, .slice Ax2 lx2 cx2, .pointer x3, g4, g5, g6, g7, g8, g9, g10, g11, g12, g13, g14, g15, g16, g17, g18, .bool x19, g20, g21, g22, g23, g24, g25, g26, g27, g28, g29, g30, g31, g32, g33, g34, g35] M Q
noncomputable def S24_2 : List Item := [.code (P24 [1,1,0,1,0,0]), .inLoop (P24 [1,1,0,1,0,0]), .inBlock 0, .code (P24 [1,1,1])]
def A24_2 (Ax2 : Option Addr) (lx2 cx2 : Nat) (x3 : Option Addr) (x7 : Int) (M : Mem) (Q : Value → Mem → Prop) : Prop := ∀ (g0 g1 g4 g5 g6 g8 g9 g10 g11 g12 g13 g14 g15 g16 g17 g18 g19 g20 g21 g22 g23 g24 g25 g26 g27 g28 g29 g30 g31 g32 g33 g34 g35 : Value), Rn Try.prog Try.f24 S24_2 #[g0, g1, .slice Ax2 lx2 cx2, .pointer x3, g4, g5, g6, .int .i64 x7, g8, g9, g10, g11, g12, g13, g14, g15, g16, g17, g18, g19, g20, g21, g22, g23, g24, g25, g26, g27, g28, g29, g30, g31, g32, g33, g34, g35] M Q
theorem w24_0 {Ax0_0 : Option Addr} {lx0_0 cx0_0 : Nat} {x0_1 x1 : Int} {Ax2 : Option Addr} {lx2 cx2 : Nat} {M : Mem} {Q : Value → Mem → Prop} (H :
    ∃ s1', (M.new (.cells #[.slice Ax0_0 lx0_0 cx0_0, .int .i64 x0_1] 24)).slAt (2 * M.nb.size) 0 = some s1' ∧
    ((((s1'.2.1 : Int)) ≠ ((lx2 : Int)) →
     A24_1 Ax2 lx2 cx2 (some ⟨2 * M.nb.size, 0, none⟩) true (M.new (.cells #[.slice Ax0_0 lx0_0 cx0_0, .int .i64 x0_1] 24)) Q) ∧
     (((s1'.2.1 : Int)) = ((lx2 : Int)) →
     ∃ x2', (M.new (.cells #[.slice Ax0_0 lx0_0 cx0_0, .int .i64 x0_1] 24)).intAt .i64 (2 * M.nb.size) (0 + 1) = some x2' ∧
     A24_1 Ax2 lx2 cx2 (some ⟨2 * M.nb.size, 0, none⟩) (x2' != x1) (M.new (.cells #[.slice Ax0_0 lx0_0 cx0_0, .int .i64 x0_1] 24)) Q))) :
    Cn Try.prog 24 #[.agg #[.slice Ax0_0 lx0_0 cx0_0, .int .i64 x0_1], .int .i64 x1, .slice Ax2 lx2 cx2] M Q := by
  refine Cn.of b24 d24 t24 ?_
  refine Rn.seq k24_0 (Rn.region k24_1 (fun call K => r24_0) (Rch.leaf (Rn.seq k24_2 (Rn.seq k24_3 (Rn.region k24_4 (fun call K => r24_1) (Rch.bind (x := ⟨2 * M.nb.size, 0, none⟩) rfl (Rch.ex H fun s1' H => ?_)))))))
  refine Rch.cB (fun h => ?_) (fun h => ?_)
  · replace H := H.1 (ne_of_bneT h)
    refine Rch.leaf ?_
    exact H _ _ _ _ _ _ _ _ _ _ _ _ _ _ _ _ _ _ _ _ _ _ _ _ _ _ _ _ _ _ _ _ _
  · replace H := H.2 (eq_of_bneF h)
    refine Rch.bind (x := ⟨2 * M.nb.size, 0, none⟩) rfl (Rch.ex H fun x2' H => Rch.leaf ?_)
    exact H _ _ _ _ _ _ _ _ _ _ _ _ _ _ _ _ _ _ _ _ _ _ _ _ _ _ _ _ _ _ _ _ _

theorem w24_1 {Ax2 : Option Addr} {lx2 cx2 : Nat} {x3 : Option Addr} {x19 : Bool} {M : Mem} {Q : Value → Mem → Prop} (H :
    ((x19 = true →
     Q (.bool false) M) ∧
     (x19 = false →
     A24_2 Ax2 lx2 cx2 x3 0 M Q))) :
    A24_1 Ax2 lx2 cx2 x3 x19 M Q := by
  intro g0 g1 g4 g5 g6 g7 g8 g9 g10 g11 g12 g13 g14 g15 g16 g17 g18 g20 g21 g22 g23 g24 g25 g26 g27 g28 g29 g30 g31 g32 g33 g34 g35
  refine Rn.cnd (v := x19) ⟨c24_5, rfl, by kernel_rfl⟩ (fun h => ?_) (fun h => ?_)
  · replace H := H.1 (h)
    refine Rn.seq k24_6 (Rn.region k24_7 (fun call K => r24_2) (Rch.leaf ?_))
    exact Rn.ret k24_8 e24 H
  · replace H := H.2 (h)
    refine Rn.skip k24_10 (Rn.seq k24_11 (Rn.seq k24_12 (Rn.region k24_13 (fun call K => r24_3) (Rch.leaf (Rn.block k24_14 (Rn.loop k24_15 ?_))))))
    exact H _ _ _ _ _ _ _ _ _ _ _ _ _ _ _ _ _ _ _ _ _ _ _ _ _ _ _ _ _ _ _ _ _

theorem w24_2 {Ax2 : Option Addr} {lx2 cx2 : Nat} {x3 : Option Addr} {x7 : Int} {M : Mem} {Q : Value → Mem → Prop} (H :
    ((x7 < ((lx2 : Int)) →
     ∃ a3', x3 = some a3' ∧
     ∃ s4', M.slAt a3'.block a3'.off = some s4' ∧
     ∃ a5', idxA s4'.1 (s4'.2.1) 1 x7 = some a5' ∧
     ∃ x6', M.intAt .u16 a5'.block a5'.off = some x6' ∧
     ∃ a7', idxA Ax2 lx2 1 x7 = some a7' ∧
     ∃ x8', M.intAt .u16 a7'.block a7'.off = some x8' ∧
     ((x6' ≠ x8' →
      Q (.bool false) M) ∧
      (x6' = x8' →
      A24_2 Ax2 lx2 cx2 x3 (IntKind.i64.wrap (x7 + 1)) M Q))) ∧
     (¬ (x7 < ((lx2 : Int))) →
     Q (.bool true) M))) :
    A24_2 Ax2 lx2 cx2 x3 x7 M Q := by
  intro g0 g1 g4 g5 g6 g8 g9 g10 g11 g12 g13 g14 g15 g16 g17 g18 g19 g20 g21 g22 g23 g24 g25 g26 g27 g28 g29 g30 g31 g32 g33 g34 g35
  refine Rn.seq k24_16 (Rn.seq k24_17 (Rn.region k24_18 (fun call K => r24_4) (Rch.leaf ?_)))
  refine Rn.cnd (v := decide (x7 < ((lx2 : Int)))) ⟨c24_19, rfl, by kernel_rfl⟩ (fun h => ?_) (fun h => ?_)
  · replace H := H.1 (of_decide_eq_true h)
    refine Rn.skip k24_20 (Rn.seq k24_21 (Rn.block k24_22 (Rn.seq k24_23 (Rn.regionD k24_24 (fun call K => r24_6) (Rch.ex H fun a3' H => Rch.ex H fun s4' H => Rch.ex H fun a5' H => Rch.ex H fun x6' H => Rch.ex H fun a7' H => Rch.ex H fun x8' H => Rch.leaf ?_)))))
    refine Rn.cnd (v := x6' != x8') ⟨c24_25, rfl, by kernel_rfl⟩ (fun h => ?_) (fun h => ?_)
    · replace H := H.1 (ne_of_bneT h)
      refine Rn.seq k24_26 (Rn.region k24_27 (fun call K => r24_7) (Rch.leaf ?_))
      exact Rn.ret k24_28 e24 H
    · replace H := H.2 (eq_of_bneF h)
      refine Rn.skip k24_29 (Rn.blk (Rn.region k24_30 (fun call K => r24_5) (Rch.leaf (Rn.lp ?_))))
      exact H _ _ _ _ _ _ _ _ _ _ _ _ _ _ _ _ _ _ _ _ _ _ _ _ _ _ _ _ _ _ _ _ _
  · replace H := H.2 (of_decide_eq_false h)
    refine Rn.exit k24_31 rfl (Rn.seq k24_32 (Rn.region k24_33 (fun call K => r24_8) (Rch.leaf ?_)))
    exact Rn.ret k24_34 e24 H


/-! ### zoetrope/zoetroperef03.Same: function 13 -/
noncomputable abbrev P13 (p : List Nat) : Code := subC (codeOf Try.f13) p
noncomputable abbrev O13 (p : List Nat) : Array Oper := opsOf (subC (codeOf Try.f13) p)
theorem b13 : Try.prog.funcs[13]? = some Try.f13 ∧ (Orc.tab Try.prog).lookup 13 = none := ⟨by kernel_rfl, by kernel_rfl⟩
theorem d13 : Try.f13.body = some (P13 []) := by kernel_rfl
theorem t13 {Ax0_0 : Option Addr} {lx0_0 cx0_0 : Nat} {x0_1 : Int} {Ax1_0 : Option Addr} {lx1_0 cx1_0 : Nat} {x1_1 : Int} : #[.agg #[.slice Ax0_0 lx0_0 cx0_0, .int .i64 x0_1],.agg #[.slice Ax1_0 lx1_0 cx1_0, .int .i64 x1_1]] ++ Array.replicate (Try.f13.ntmps - (#[.agg #[.slice Ax0_0 lx0_0 cx0_0, .int .i64 x0_1],.agg #[.slice Ax1_0 lx1_0 cx1_0, .int .i64 x1_1]] : Array Value).size) undef = #[.agg #[.slice Ax0_0 lx0_0 cx0_0, .int .i64 x0_1],.agg #[.slice Ax1_0 lx1_0 cx1_0, .int .i64 x1_1],undef,undef,undef,undef,undef,undef,undef,undef,undef,undef,undef,undef,undef,undef,undef,undef,undef,undef,undef,undef,undef,undef,undef,undef,undef,undef,undef,undef,undef,undef,undef,undef,undef,undef,undef,undef] := by kernel_rfl
theorem k13_0 : P13 [] = .seq (P13 [0]) (P13 [1]) := by kernel_rfl
theorem k13_1 : P13 [0] = .region 0 (O13 [0]) false := by kernel_rfl
theorem r13_0 {Ax0_0 : Option Addr} {lx0_0 cx0_0 : Nat} {x0_1 : Int} {Ax1_0 : Option Addr} {lx1_0 cx1_0 : Nat} {x1_1 : Int} {M : Mem} {call : CallM} {K : Array Value → Mem → R} :
    opsK Try.prog (fun _ => call) (O13 [0]) (O13 [0]).toList 0 #[.agg #[.slice Ax0_0 lx0_0 cx0_0, .int .i64 x0_1],.agg #[.slice Ax1_0 lx1_0 cx1_0, .int .i64 x1_1],g2,g3,g4,g5,g6,g7,g8,g9,g10,g11,g12,g13,g14,g15,g16,g17,g18,g19,g20,g21,g22,g23,g24,g25,g26,g27,g28,g29,g30,g31,g32,g33,g34,g35,g36,g37] M K = K #[.agg #[.slice Ax0_0 lx0_0 cx0_0, .int .i64 x0_1],.agg #[.slice Ax1_0 lx1_0 cx1_0, .int .i64 x1_1],.pointer (some ⟨2 * M.nb.size, 0, none⟩),.pointer (some ⟨2 * (M.new (.cells #[.slice Ax0_0 lx0_0 cx0_0, .int .i64 x0_1] 24)).nb.size, 0, none⟩),.bool false,g5,g6,g7,g8,g9,g10,g11,g12,g13,g14,g15,g16,g17,g18,g19,g20,g21,g22,g23,g24,g25,g26,g27,g28,g29,g30,g31,g32,g33,g34,g35,g36,g37] ((M.new (.cells #[.slice Ax0_0 lx0_0 cx0_0, .int .i64 x0_1] 24)).new (.cells #[.slice Ax1_0 lx1_0 cx1_0, .int .i64 x1_1] 24)) := by kernel_rfl
theorem k13_2 : P13 [1] = .seq (P13 [1,0]) (P13 [1,1]) := by kernel_rfl
theorem k13_3 : P13 [1,0] = .seq (P13 [1,0,0]) (P13 [1,0,1]) := by kernel_rfl
theorem k13_4 : P13 [1,0,0] = .region 1 (O13 [1,0,0]) false := by kernel_rfl
theorem r13_1 {x2 x3 : Option Addr} {M : Mem} {call : CallM} {K : Array Value → Mem → R} :
    opsK Try.prog (fun _ => call) (O13 [1,0,0]) (O13 [1,0,0]).toList 0 #[g0,g1,.pointer x2,.pointer x3,g4,g5,g6,g7,g8,g9,g10,g11,g12,g13,g14,g15,g16,g17,g18,g19,g20,g21,g22,g23,g24,g25,g26,g27,g28,g29,g30,g31,g32,g33,g34,g35,g36,g37] M K = withK (fun w6 w7 w8 w9 w10 w11 w12 w13 w14 w15 w16 w17 w18 w19 M => K #[g0,g1,.pointer x2,.pointer x3,g4,g5,w6,w7,w8,w9,w10,w11,w12,w13,w14,w15,w16,w17,w18,w19,g20,g21,g22,g23,g24,g25,g26,g27,g28,g29,g30,g31,g32,g33,g34,g35,g36,g37] M) fun k => (x2).bind fun a_1 => (M.slAt a_1.block a_1.off).bind fun s_2 => (x3).bind fun a_3 => (M.slAt a_3.block a_3.off).bind fun s_4 => cond (((s_2.2.1 : Int)) != ((s_4.2.1 : Int))) (k (.pointer (some ⟨a_1.block, a_1.off, none⟩)) (.slice s_2.1 (s_2.2.1) (s_2.2.2)) (.int .i64 ((s_2.2.1 : Int))) (.pointer (some ⟨a_3.block, a_3.off, none⟩)) (.slice s_4.1 (s_4.2.1) (s_4.2.2)) (.int .i64 ((s_4.2.1 : Int))) (.bool (((s_2.2.1 : Int)) != ((s_4.2.1 : Int)))) (.bool true) undef undef undef undef undef (.bool true) M) ((x2).bind fun a_5 => (M.intAt .i64 a_5.block (a_5.off + 1)).bind fun x_6 => (x3).bind fun a_7 => (M.intAt .i64 a_7.block (a_7.off + 1)).bind fun x_8 => k (.pointer (some ⟨a_1.block, a_1.off, none⟩)) (.slice s_2.1 (s_2.2.1) (s_2.2.2)) (.int .i64 ((s_2.2.1 : Int))) (.pointer (some ⟨a_3.block, a_3.off, none⟩)) (.slice s_4.1 (s_4.2.1) (s_4.2.2)) (.int .i64 ((s_4.2.1 : Int))) (.bool (((s_2.2.1 : Int)) != ((s_4.2.1 : Int)))) (.bool false) (.pointer (some ⟨a_5.block, a_5.off + 1, none⟩)) (.int .i64 x_6) (.pointer (some ⟨a_7.block, a_7.off + 1, none⟩)) (.int .i64 x_8) (.bool (x_6 != x_8)) (.bool (x_6 != x_8)) M) := by kernel_rfl
theorem c13_5 : P13 [1,0,1] = .cond (.tmp 19) (P13 [1,0,1,0]) (P13 [1,0,1,1]) := by kernel_rfl
theorem k13_6 : P13 [1,0,1,0] = .seq (P13 [1,0,1,0,0]) (P13 [1,0,1,0,1]) := by kernel_rfl
theorem k13_7 : P13 [1,0,1,0,0] = .region 2 (O13 [1,0,1,0,0]) false := by kernel_rfl
theorem r13_2 {M : Mem} {call : CallM} {K : Array Value → Mem → R} :
    opsK Try.prog (fun _ => call) (O13 [1,0,1,0,0]) (O13 [1,0,1,0,0]).toList 0 #[g0,g1,g2,g3,g4,g5,g6,g7,g8,g9,g10,g11,g12,g13,g14,g15,g16,g17,g18,g19,g20,g21,g22,g23,g24,g25,g26,g27,g28,g29,g30,g31,g32,g33,g34,g35,g36,g37] M K = K #[g0,g1,g2,g3,.bool false,g5,g6,g7,g8,g9,g10,g11,g12,g13,g14,g15,g16,g17,g18,g19,g20,g21,g22,g23,g24,g25,g26,g27,g28,g29,g30,g31,g32,g33,g34,g35,g36,g37] M := by kernel_rfl
theorem k13_8 : P13 [1,0,1,0,1] = .ret := by kernel_rfl
theorem e13 {M : Mem} : finish Try.prog Try.f13 #[g0,g1,g2,g3,g4,g5,g6,g7,g8,g9,g10,g11,g12,g13,g14,g15,g16,g17,g18,g19,g20,g21,g22,g23,g24,g25,g26,g27,g28,g29,g30,g31,g32,g33,g34,g35,g36,g37] M = some (g4, M) := by kernel_rfl
theorem k13_10 : P13 [1,0,1,1] = .skip := by kernel_rfl
theorem k13_11 : P13 [1,1] = .seq (P13 [1,1,0]) (P13 [1,1,1]) := by kernel_rfl
theorem k13_12 : P13 [1,1,0] = .seq (P13 [1,1,0,0]) (P13 [1,1,0,1]) := by kernel_rfl
theorem k13_13 : P13 [1,1,0,0] = .region 3 (O13 [1,1,0,0]) false := by kernel_rfl
theorem r13_3 {M : Mem} {call : CallM} {K : Array Value → Mem → R} :
    opsK Try.prog (fun _ => call) (O13 [1,1,0,0]) (O13 [1,1,0,0]).toList 0 #[g0,g1,g2,g3,g4,g5,g6,g7,g8,g9,g10,g11,g12,g13,g14,g15,g16,g17,g18,g19,g20,g21,g22,g23,g24,g25,g26,g27,g28,g29,g30,g31,g32,g33,g34,g35,g36,g37] M K = K #[g0,g1,g2,g3,g4,.int .i64 0,g6,g7,g8,g9,g10,g11,g12,g13,g14,g15,g16,g17,g18,g19,g20,g21,g22,g23,g24,g25,g26,g27,g28,g29,g30,g31,g32,g33,g34,g35,g36,g37] M := by kernel_rfl
theorem k13_14 : P13 [1,1,0,1] = .block 0 (P13 [1,1,0,1,0]) := by kernel_rfl
theorem k13_15 : P13 [1,1,0,1,0] = .loop (P13 [1,1,0,1,0,0]) := by kernel_rfl
theorem k13_16 : P13 [1,1,0,1,0,0] = .seq (P13 [1,1,0,1,0,0,0]) (P13 [1,1,0,1,0,0,1]) := by kernel_rfl
theorem k13_17 : P13 [1,1,0,1,0,0,0] = .seq (P13 [1,1,0,1,0,0,0,0]) (P13 [1,1,0,1,0,0,0,1]) := by kernel_rfl
theorem k13_18 : P13 [1,1,0,1,0,0,0,0] = .region 4 (O13 [1,1,0,1,0,0,0,0]) false := by kernel_rfl
theorem r13_4 {x2 : Option Addr} {x5 : Int} {M : Mem} {call : CallM} {K : Array Value → Mem → R} :
    opsK Try.prog (fun _ => call) (O13 [1,1,0,1,0,0,0,0]) (O13 [1,1,0,1,0,0,0,0]).toList 0 #[g0,g1,.pointer x2,g3,g4,.int .i64 x5,g6,g7,g8,g9,g10,g11,g12,g13,g14,g15,g16,g17,g18,g19,g20,g21,g22,g23,g24,g25,g26,g27,g28,g29,g30,g31,g32,g33,g34,g35,g36,g37] M K = (x2).bind fun a_1 => (M.slAt a_1.block a_1.off).bind fun s_2 => K #[g0,g1,.pointer x2,g3,g4,.int .i64 x5,g6,g7,g8,g9,g10,g11,g12,g13,g14,g15,g16,g17,g18,g19,.int .i64 x5,.pointer (some ⟨a_1.block, a_1.off, none⟩),.slice s_2.1 (s_2.2.1) (s_2.2.2),.int .i64 ((s_2.2.1 : Int)),.bool (decide (x5 < ((s_2.2.1 : Int)))),g25,g26,g27,g28,g29,g30,g31,g32,g33,g34,g35,g36,g37] M := by kernel_rfl
theorem c13_19 : P13 [1,1,0,1,0,0,0,1] = .cond (.tmp 24) (P13 [1,1,0,1,0,0,0,1,0]) (P13 [1,1,0,1,0,0,0,1,1]) := by kernel_rfl
theorem k13_20 : P13 [1,1,0,1,0,0,0,1,0] = .skip := by kernel_rfl
theorem k13_21 : P13 [1,1,0,1,0,0,1] = .seq (P13 [1,1,0,1,0,0,1,0]) (P13 [1,1,0,1,0,0,1,1]) := by kernel_rfl
theorem k13_22 : P13 [1,1,0,1,0,0,1,0] = .block 1 (P13 [1,1,0,1,0,0,1,0,0]) := by kernel_rfl
theorem k13_23 : P13 [1,1,0,1,0,0,1,0,0] = .seq (P13 [1,1,0,1,0,0,1,0,0,0]) (P13 [1,1,0,1,0,0,1,0,0,1]) := by kernel_rfl
theorem k13_24 : P13 [1,1,0,1,0,0,1,0,0,0] = .region 6 (O13 [1,1,0,1,0,0,1,0,0,0]) true ∧ drawOk (O13 [1,1,0,1,0,0,1,0,0,0]) = true := ⟨by kernel_rfl, by kernel_rfl⟩
theorem r13_6 {x2 x3 : Option Addr} {x5 : Int} {M : Mem} {call : CallM} {K : Array Value → Mem → R} :
    opsI Try.prog (callAt call (O13 [1,1,0,1,0,0,1,0,0,0])) (O13 [1,1,0,1,0,0,1,0,0,0]) (ordOf (O13 [1,1,0,1,0,0,1,0,0,0])) [] #[g0,g1,.pointer x2,.pointer x3,g4,.int .i64 x5,g6,g7,g8,g9,g10,g11,g12,g13,g14,g15,g16,g17,g18,g19,g20,g21,g22,g23,g24,g25,g26,g27,g28,g29,g30,g31,g32,g33,g34,g35,g36,g37] M K = (x2).bind fun a_1 => (M.slAt a_1.block a_1.off).bind fun s_2 => (idxA s_2.1 (s_2.2.1) 1 x5).bind fun a_3 => (M.intAt .u16 a_3.block a_3.off).bind fun x_4 => (x3).bind fun a_5 => (M.slAt a_5.block a_5.off).bind fun s_6 => (idxA s_6.1 (s_6.2.1) 1 x5).bind fun a_7 => (M.intAt .u16 a_7.block a_7.off).bind fun x_8 => K #[g0,g1,.pointer x2,.pointer x3,g4,.int .i64 x5,g6,g7,g8,g9,g10,g11,g12,g13,g14,g15,g16,g17,g18,g19,g20,g21,g22,g23,g24,g25,g26,.pointer (some ⟨a_1.block, a_1.off, none⟩),.slice s_2.1 (s_2.2.1) (s_2.2.2),.int .i64 x5,.pointer (some a_3),.int .u16 x_4,.pointer (some ⟨a_5.block, a_5.off, none⟩),.slice s_6.1 (s_6.2.1) (s_6.2.2),.int .i64 x5,.pointer (some a_7),.int .u16 x_8,.bool (x_4 != x_8)] M := by kernel_rfl
theorem c13_25 : P13 [1,1,0,1,0,0,1,0,0,1] = .cond (.tmp 37) (P13 [1,1,0,1,0,0,1,0,0,1,0]) (P13 [1,1,0,1,0,0,1,0,0,1,1]) := by kernel_rfl
theorem k13_26 : P13 [1,1,0,1,0,0,1,0,0,1,0] = .seq (P13 [1,1,0,1,0,0,1,0,0,1,0,0]) (P13 [1,1,0,1,0,0,1,0,0,1,0,1]) := by kernel_rfl
theorem k13_27 : P13 [1,1,0,1,0,0,1,0,0,1,0,0] = .region 7 (O13 [1,1,0,1,0,0,1,0,0,1,0,0]) false := by kernel_rfl
theorem r13_7 {M : Mem} {call : CallM} {K : Array Value → Mem → R} :
    opsK Try.prog (fun _ => call) (O13 [1,1,0,1,0,0,1,0,0,1,0,0]) (O13 [1,1,0,1,0,0,1,0,0,1,0,0]).toList 0 #[g0,g1,g2,g3,g4,g5,g6,g7,g8,g9,g10,g11,g12,g13,g14,g15,g16,g17,g18,g19,g20,g21,g22,g23,g24,g25,g26,g27,g28,g29,g30,g31,g32,g33,g34,g35,g36,g37] M K = K #[g0,g1,g2,g3,.bool false,g5,g6,g7,g8,g9,g10,g11,g12,g13,g14,g15,g16,g17,g18,g19,g20,g21,g22,g23,g24,g25,g26,g27,g28,g29,g30,g31,g32,g33,g34,g35,g36,g37] M := by kernel_rfl
theorem k13_28 : P13 [1,1,0,1,0,0,1,0,0,1,0,1] = .ret := by kernel_rfl
theorem k13_29 : P13 [1,1,0,1,0,0,1,0,0,1,1] = .skip := by kernel_rfl
theorem k13_30 : P13 [1,1,0,1,0,0,1,1] = .region 5 (O13 [1,1,0,1,0,0,1,1]) false := by kernel_rfl
theorem r13_5 {x5 : Int} {M : Mem} {call : CallM} {K : Array Value → Mem → R} :
    opsK Try.prog (fun _ => call) (O13 [1,1,0,1,0,0,1,1]) (O13 [1,1,0,1,0,0,1,1]).toList 0 #[g0,g1,g2,g3,g4,.int .i64 x5,g6,g7,g8,g9,g10,g11,g12,g13,g14,g15,g16,g17,g18,g19,g20,g21,g22,g23,g24,g25,g26,g27,g28,g29,g30,g31,g32,g33,g34,g35,g36,g37] M K = K #[g0,g1,g2,g3,g4,.int .i64 (IntKind.i64.wrap (x5 + 1)),g6,g7,g8,g9,g10,g11,g12,g13,g14,g15,g16,g17,g18,g19,g20,g21,g22,g23,g24,.int .i64 x5,.int .i64 (IntKind.i64.wrap (x5 + 1)),g27,g28,g29,g30,g31,g32,g33,g34,g35,g36,g37] M := by kernel_rfl
theorem k13_31 : P13 [1,1,0,1,0,0,0,1,1] = .exit 0 := by kernel_rfl
theorem k13_32 : P13 [1,1,1] = .seq (P13 [1,1,1,0]) (P13 [1,1,1,1]) := by kernel_rfl
theorem k13_33 : P13 [1,1,1,0] = .region 8 (O13 [1,1,1,0]) false := by kernel_rfl
theorem r13_8 {M : Mem} {call : CallM} {K : Array Value → Mem → R} :
    opsK Try.prog (fun _ => call) (O13 [1,1,1,0]) (O13 [1,1,1,0]).toList 0 #[g0,g1,g2,g3,g4,g5,g6,g7,g8,g9,g10,g11,g12,g13,g14,g15,g16,g17,g18,g19,g20,g21,g22,g23,g24,g25,g26,g27,g28,g29,g30,g31,g32,g33,g34,g35,g36,g37] M K = K #[g0,g1,g2,g3,.bool true,g5,g6,g7,g8,g9,g10,g11,g12,g13,g14,g15,g16,g17,g18,g19,g20,g21,g22,g23,g24,g25,g26,g27,g28,g29,g30,g31,g32,g33,g34,g35,g36,g37] M := by kernel_rfl
theorem k13_34 : P13 [1,1,1,1] = .ret := by kernel_rfl
noncomputable def S13_1 : List Item := [.code (P13 [1,0,1]), .code (P13 [1,1])]
def A13_1 (x2 x3 : Option Addr) (x19 : Bool) (M : Mem) (Q : Value → Mem → Prop) : Prop := ∀ (g0 g1 g4 g5 g6 g7 g8 g9 g10 g11 g12 g13 g14 g15 g16 g17 g18 g20 g21 g22 g23 g24 g25 g26 g27 g28 g29 g30 g31 g32 g33 g34 g35 g36 g37 : Value), Rn Try.prog Try.f13 S13_1 #[g0, g1, .pointer x2, .pointer x3, g4, g5, g6, g7, g8, g9, g10, g11, g12, g13, g14, g15, g16, g17, g18, .bool x19, g20, g21, g22, g23, g24, g25, g26, g27, g28, g29, g30, g31, g32, g33, g34, g35, g36, g37] M Q
noncomputable def S13_2 : List Item := [.code (P13 [1,1,0,1,0,0]), .inLoop (P13 [1,1,0,1,0,0]), .inBlock 0, .code (P13 [1,1,1])]
def A13_2 (x2 x3 : Option Addr) (x5 : Int) (M : Mem) (Q : Value → Mem → Prop) : Prop := ∀ (g0 g1 g4 g6 g7 g8 g9 g10 g11 g12 g13 g14 g15 g16 g17 g18 g19 g20 g21 g22 g23 g24 g25 g26 g27 g28 g29 g30 g31 g32 g33 g34 g35 g36 g37 : Value), Rn Try.prog Try.f13 S13_2 #[g0, g1, .pointer x2, .pointer x3, g4, .int .i64 x5, g6, g7, g8, g9, g10, g11, g12, g13, g14, g15, g16, g17, g18, g19, g20, g21, g22, g23, g24, g25, g26, g27, g28, g29, g30, g31, g32, g33, g34, g35, g36, g37] M Q
theorem w13_0 {Ax0_0 : Option Addr} {lx0_0 cx0_0 : Nat} {x0_1 : Int} {Ax1_0 : Option Addr} {lx1_0 cx1_0 : Nat} {x1_1 : Int} {M : Mem} {Q : Value → Mem → Prop} (H :
    ∃ s1', ((M.new (.cells #[.slice Ax0_0 lx0_0 cx0_0, .int .i64 x0_1] 24)).new (.cells #[.slice Ax1_0 lx1_0 cx1_0, .int .i64 x1_1] 24)).slAt (2 * M.nb.size) 0 = some s1' ∧
    ∃ s2', ((M.new (.cells #[.slice Ax0_0 lx0_0 cx0_0, .int .i64 x0_1] 24)).new (.cells #[.slice Ax1_0 lx1_0 cx1_0, .int .i64 x1_1] 24)).slAt (2 * (M.new (.cells #[.slice Ax0_0 lx0_0 cx0_0, .int .i64 x0_1] 24)).nb.size) 0 = some s2' ∧
    ((((s1'.2.1 : Int)) ≠ ((s2'.2.1 : Int)) →
     A13_1 (some ⟨2 * M.nb.size, 0, none⟩) (some ⟨2 * (M.new (.cells #[.slice Ax0_0 lx0_0 cx0_0, .int .i64 x0_1] 24)).nb.size, 0, none⟩) true ((M.new (.cells #[.slice Ax0_0 lx0_0 cx0_0, .int .i64 x0_1] 24)).new (.cells #[.slice Ax1_0 lx1_0 cx1_0, .int .i64 x1_1] 24)) Q) ∧
     (((s1'.2.1 : Int)) = ((s2'.2.1 : Int)) →
     ∃ x3', ((M.new (.cells #[.slice Ax0_0 lx0_0 cx0_0, .int .i64 x0_1] 24)).new (.cells #[.slice Ax1_0 lx1_0 cx1_0, .int .i64 x1_1] 24)).intAt .i64 (2 * M.nb.size) (0 + 1) = some x3' ∧
     ∃ x4', ((M.new (.cells #[.slice Ax0_0 lx0_0 cx0_0, .int .i64 x0_1] 24)).new (.cells #[.slice Ax1_0 lx1_0 cx1_0, .int .i64 x1_1] 24)).intAt .i64 (2 * (M.new (.cells #[.slice Ax0_0 lx0_0 cx0_0, .int .i64 x0_1] 24)).nb.size) (0 + 1) = some x4' ∧
     A13_1 (some ⟨2 * M.nb.size, 0, none⟩) (some ⟨2 * (M.new (.cells #[.slice Ax0_0 lx0_0 cx0_0, .int .i64 x0_1] 24)).nb.size, 0, none⟩) (x3' != x4') ((M.new (.cells #[.slice Ax0_0 lx0_0 cx0_0, .int .i64 x0_1] 24)).new (.cells #[.slice Ax1_0 lx1_0 cx1_0, .int .i64 x1_1] 24)) Q))) :
    Cn Try.prog 13 #[.agg #[.slice Ax0_0 lx0_0 cx0_0, .int .i64 x0_1], .agg #[.slice Ax1_0 lx1_0 cx1_0, .int .i64 x1_1]] M Q := by
  refine Cn.of b13 d13 t13 ?_
  refine Rn.seq k13_0 (Rn.region k13_1 (fun call K => r13_0) (Rch.leaf (Rn.seq k13_2 (Rn.seq k13_3 (Rn.region k13_4 (fun call K => r13_1) (Rch.bind (x := ⟨2 * M.nb.size, 0, none⟩) rfl (Rch.ex H fun s1' H => Rch.bind (x := ⟨2 * (M.new (.cells #[.slice Ax0_0 lx0_0 cx0_0, .int .i64 x0_1] 24)).nb.size, 0, none⟩) rfl (Rch.ex H fun s2' H => ?_))))))))
  refine Rch.cB (fun h => ?_) (fun h => ?_)
  · replace H := H.1 (ne_of_bneT h)
    refine Rch.leaf ?_
    exact H _ _ _ _ _ _ _ _ _ _ _ _ _ _ _ _ _ _ _ _ _ _ _ _ _ _ _ _ _ _ _ _ _ _ _
  · replace H := H.2 (eq_of_bneF h)
    refine Rch.bind (x := ⟨2 * M.nb.size, 0, none⟩) rfl (Rch.ex H fun x3' H => Rch.bind (x := ⟨2 * (M.new (.cells #[.slice Ax0_0 lx0_0 cx0_0, .int .i64 x0_1] 24)).nb.size, 0, none⟩) rfl (Rch.ex H fun x4' H => Rch.leaf ?_))
    exact H _ _ _ _ _ _ _ _ _ _ _ _ _ _ _ _ _ _ _ _ _ _ _ _ _ _ _ _ _ _ _ _ _ _ _

theorem w13_1 {x2 x3 : Option Addr} {x19 : Bool} {M : Mem} {Q : Value → Mem → Prop} (H :
    ((x19 = true →
     Q (.bool false) M) ∧
     (x19 = false →
     A13_2 x2 x3 0 M Q))) :
    A13_1 x2 x3 x19 M Q := by
  intro g0 g1 g4 g5 g6 g7 g8 g9 g10 g11 g12 g13 g14 g15 g16 g17 g18 g20 g21 g22 g23 g24 g25 g26 g27 g28 g29 g30 g31 g32 g33 g34 g35 g36 g37
  refine Rn.cnd (v := x19) ⟨c13_5, rfl, by kernel_rfl⟩ (fun h => ?_) (fun h => ?_)
  · replace H := H.1 (h)
    refine Rn.seq k13_6 (Rn.region k13_7 (fun call K => r13_2) (Rch.leaf ?_))
    exact Rn.ret k13_8 e13 H
  · replace H := H.2 (h)
    refine Rn.skip k13_10 (Rn.seq k13_11 (Rn.seq k13_12 (Rn.region k13_13 (fun call K => r13_3) (Rch.leaf (Rn.block k13_14 (Rn.loop k13_15 ?_))))))
    exact H _ _ _ _ _ _ _ _ _ _ _ _ _ _ _ _ _ _ _ _ _ _ _ _ _ _ _ _ _ _ _ _ _ _ _

theorem w13_2 {x2 x3 : Option Addr} {x5 : Int} {M : Mem} {Q : Value → Mem → Prop} (H :
    ∃ a5', x2 = some a5' ∧
    ∃ s6', M.slAt a5'.block a5'.off = some s6' ∧
    ((x5 < ((s6'.2.1 : Int)) →
     ∃ a7', x2 = some a7' ∧
     ∃ s8', M.slAt a7'.block a7'.off = some s8' ∧
     ∃ a9', idxA s8'.1 (s8'.2.1) 1 x5 = some a9' ∧
     ∃ x10', M.intAt .u16 a9'.block a9'.off = some x10' ∧
     ∃ a11', x3 = some a11' ∧
     ∃ s12', M.slAt a11'.block a11'.off = some s12' ∧
     ∃ a13', idxA s12'.1 (s12'.2.1) 1 x5 = some a13' ∧
     ∃ x14', M.intAt .u16 a13'.block a13'.off = some x14' ∧
     ((x10' ≠ x14' →
      Q (.bool false) M) ∧
      (x10' = x14' →
      A13_2 x2 x3 (IntKind.i64.wrap (x5 + 1)) M Q))) ∧
     (¬ (x5 < ((s6'.2.1 : Int))) →
     Q (.bool true) M))) :
    A13_2 x2 x3 x5 M Q := by
  intro g0 g1 g4 g6 g7 g8 g9 g10 g11 g12 g13 g14 g15 g16 g17 g18 g19 g20 g21 g22 g23 g24 g25 g26 g27 g28 g29 g30 g31 g32 g33 g34 g35 g36 g37
  refine Rn.seq k13_16 (Rn.seq k13_17 (Rn.region k13_18 (fun call K => r13_4) (Rch.ex H fun a5' H => Rch.ex H fun s6' H => Rch.leaf ?_)))
  refine Rn.cnd (v := decide (x5 < ((s6'.2.1 : Int)))) ⟨c13_19, rfl, by kernel_rfl⟩ (fun h => ?_) (fun h => ?_)
  · replace H := H.1 (of_decide_eq_true h)
    refine Rn.skip k13_20 (Rn.seq k13_21 (Rn.block k13_22 (Rn.seq k13_23 (Rn.regionD k13_24 (fun call K => r13_6) (Rch.ex H fun a7' H => Rch.ex H fun s8' H => Rch.ex H fun a9' H => Rch.ex H fun x10' H => Rch.ex H fun a11' H => Rch.ex H fun s12' H => Rch.ex H fun a13' H => ?_)))))
    refine Rch.ex H fun x14' H => Rch.leaf ?_
    refine Rn.cnd (v := x10' != x14') ⟨c13_25, rfl, by kernel_rfl⟩ (fun h => ?_) (fun h => ?_)
    · replace H := H.1 (ne_of_bneT h)
      refine Rn.seq k13_26 (Rn.region k13_27 (fun call K => r13_7) (Rch.leaf ?_))
      exact Rn.ret k13_28 e13 H
    · replace H := H.2 (eq_of_bneF h)
      refine Rn.skip k13_29 (Rn.blk (Rn.region k13_30 (fun call K => r13_5) (Rch.leaf (Rn.lp ?_))))
      exact H _ _ _ _ _ _ _ _ _ _ _ _ _ _ _ _ _ _ _ _ _ _ _ _ _ _ _ _ _ _ _ _ _ _ _
  · replace H := H.2 (of_decide_eq_false h)
    refine Rn.exit k13_31 rfl (Rn.seq k13_32 (Rn.region k13_33 (fun call K => r13_8) (Rch.leaf ?_)))
    exact Rn.ret k13_34 e13 H


/-! ### zoetrope/zoetropelaw03.share: function 23 -/
noncomputable abbrev P23 (p : List Nat) : Code := subC (codeOf Try.f23) p
noncomputable abbrev O23 (p : List Nat) : Array Oper := opsOf (subC (codeOf Try.f23) p)
theorem b23 : Try.prog.funcs[23]? = some Try.f23 ∧ (Orc.tab Try.prog).lookup 23 = none := ⟨by kernel_rfl, by kernel_rfl⟩
theorem d23 : Try.f23.body = some (P23 []) := by kernel_rfl
theorem t23 {Ax0_0 : Option Addr} {lx0_0 cx0_0 : Nat} {x0_1 x1 : Int} : #[.agg #[.slice Ax0_0 lx0_0 cx0_0, .int .i64 x0_1],.int .i64 x1] ++ Array.replicate (Try.f23.ntmps - (#[.agg #[.slice Ax0_0 lx0_0 cx0_0, .int .i64 x0_1],.int .i64 x1] : Array Value).size) undef = #[.agg #[.slice Ax0_0 lx0_0 cx0_0, .int .i64 x0_1],.int .i64 x1,undef,undef,undef,undef,undef,undef,undef,undef,undef,undef,undef,undef,undef,undef,undef,undef,undef,undef,undef,undef,undef,undef,undef,undef] := by kernel_rfl
theorem k23_0 : P23 [] = .seq (P23 [0]) (P23 [1]) := by kernel_rfl
theorem k23_1 : P23 [0] = .region 0 (O23 [0]) false := by kernel_rfl
theorem r23_0 {Ax0_0 : Option Addr} {lx0_0 cx0_0 : Nat} {x0_1 : Int} {M : Mem} {call : CallM} {K : Array Value → Mem → R} :
    opsK Try.prog (fun _ => call) (O23 [0]) (O23 [0]).toList 0 #[.agg #[.slice Ax0_0 lx0_0 cx0_0, .int .i64 x0_1],g1,g2,g3,g4,g5,g6,g7,g8,g9,g10,g11,g12,g13,g14,g15,g16,g17,g18,g19,g20,g21,g22,g23,g24,g25] M K = K #[.agg #[.slice Ax0_0 lx0_0 cx0_0, .int .i64 x0_1],g1,.pointer (some ⟨2 * M.nb.size, 0, none⟩),g3,.int .i64 0,g5,g6,g7,g8,g9,g10,g11,g12,g13,g14,g15,g16,g17,g18,g19,g20,g21,g22,g23,g24,g25] (M.new (.cells #[.slice Ax0_0 lx0_0 cx0_0, .int .i64 x0_1] 24)) := by kernel_rfl
theorem k23_2 : P23 [1] = .seq (P23 [1,0]) (P23 [1,1]) := by kernel_rfl
theorem k23_3 : P23 [1,0] = .seq (P23 [1,0,0]) (P23 [1,0,1]) := by kernel_rfl
theorem k23_4 : P23 [1,0,0] = .region 1 (O23 [1,0,0]) false := by kernel_rfl
theorem r23_1 {x1 : Int} {M : Mem} {call : CallM} {K : Array Value → Mem → R} :
    opsK Try.prog (fun _ => call) (O23 [1,0,0]) (O23 [1,0,0]).toList 0 #[g0,.int .i64 x1,g2,g3,g4,g5,g6,g7,g8,g9,g10,g11,g12,g13,g14,g15,g16,g17,g18,g19,g20,g21,g22,g23,g24,g25] M K = K #[g0,.int .i64 x1,g2,g3,g4,.int .i64 x1,.bool (x1 == 0),g7,g8,g9,g10,g11,g12,g13,g14,g15,g16,g17,g18,g19,g20,g21,g22,g23,g24,g25] M := by kernel_rfl
theorem c23_5 : P23 [1,0,1] = .cond (.tmp 6) (P23 [1,0,1,0]) (P23 [1,0,1,1]) := by kernel_rfl
theorem k23_6 : P23 [1,0,1,0] = .seq (P23 [1,0,1,0,0]) (P23 [1,0,1,0,1]) := by kernel_rfl
theorem k23_7 : P23 [1,0,1,0,0] = .region 2 (O23 [1,0,1,0,0]) false := by kernel_rfl
theorem r23_2 {x2 : Option Addr} {M : Mem} {call : CallM} {K : Array Value → Mem → R} :
    opsK Try.prog (fun _ => call) (O23 [1,0,1,0,0]) (O23 [1,0,1,0,0]).toList 0 #[g0,g1,.pointer x2,g3,g4,g5,g6,g7,g8,g9,g10,g11,g12,g13,g14,g15,g16,g17,g18,g19,g20,g21,g22,g23,g24,g25] M K = (x2).bind fun a_1 => (M.slAt a_1.block a_1.off).bind fun s_2 => (idxA s_2.1 (s_2.2.1) 1 0).bind fun a_3 => (M.intAt .u16 a_3.block a_3.off).bind fun x_4 => K #[g0,g1,.pointer x2,g3,.int .i64 (IntKind.i64.wrap (x_4)),g5,g6,.pointer (some ⟨a_1.block, a_1.off, none⟩),.slice s_2.1 (s_2.2.1) (s_2.2.2),.pointer (some a_3),.int .u16 x_4,.int .i64 (IntKind.i64.wrap (x_4)),g12,g13,g14,g15,g16,g17,g18,g19,g20,g21,g22,g23,g24,g25] M := by kernel_rfl
theorem k23_8 : P23 [1,0,1,0,1] = .ret := by kernel_rfl
theorem e23 {M : Mem} : finish Try.prog Try.f23 #[g0,g1,g2,g3,g4,g5,g6,g7,g8,g9,g10,g11,g12,g13,g14,g15,g16,g17,g18,g19,g20,g21,g22,g23,g24,g25] M = some (g4, M) := by kernel_rfl
theorem k23_10 : P23 [1,0,1,1] = .skip := by kernel_rfl
theorem k23_11 : P23 [1,1] = .seq (P23 [1,1,0]) (P23 [1,1,1]) := by kernel_rfl
theorem k23_12 : P23 [1,1,0] = .region 3 (O23 [1,1,0]) true ∧ drawOk (O23 [1,1,0]) = true := ⟨by kernel_rfl, by kernel_rfl⟩
theorem r23_3 {x1 : Int} {x2 : Option Addr} {M : Mem} {call : CallM} {K : Array Value → Mem → R} :
    opsI Try.prog (callAt call (O23 [1,1,0])) (O23 [1,1,0]) (ordOf (O23 [1,1,0])) [] #[g0,.int .i64 x1,.pointer x2,g3,g4,g5,g6,g7,g8,g9,g10,g11,g12,g13,g14,g15,g16,g17,g18,g19,g20,g21,g22,g23,g24,g25] M K = (x2).bind fun a_1 => (M.slAt a_1.block a_1.off).bind fun s_2 => (idxA s_2.1 (s_2.2.1) 1 x1).bind fun a_3 => (M.intAt .u16 a_3.block a_3.off).bind fun x_4 => (x2).bind fun a_5 => (M.slAt a_5.block a_5.off).bind fun s_6 => (idxA s_6.1 (s_6.2.1) 1 (IntKind.i64.wrap (x1 - 1))).bind fun a_7 => (M.intAt .u16 a_7.block a_7.off).bind fun x_8 => K #[g0,.int .i64 x1,.pointer x2,g3,.int .i64 (IntKind.i64.wrap ((IntKind.i64.wrap (x_4)) - (IntKind.i64.wrap (x_8)))),g5,g6,g7,g8,g9,g10,g11,.pointer (some ⟨a_1.block, a_1.off, none⟩),.slice s_2.1 (s_2.2.1) (s_2.2.2),.int .i64 x1,.pointer (some a_3),.int .u16 x_4,.int .i64 (IntKind.i64.wrap (x_4)),.pointer (some ⟨a_5.block, a_5.off, none⟩),.slice s_6.1 (s_6.2.1) (s_6.2.2),.int .i64 x1,.int .i64 (IntKind.i64.wrap (x1 - 1)),.pointer (some a_7),.int .u16 x_8,.int .i64 (IntKind.i64.wrap (x_8)),.int .i64 (IntKind.i64.wrap ((IntKind.i64.wrap (x_4)) - (IntKind.i64.wrap (x_8))))] M := by kernel_rfl
theorem k23_13 : P23 [1,1,1] = .ret := by kernel_rfl
theorem w23_0 {Ax0_0 : Option Addr} {lx0_0 cx0_0 : Nat} {x0_1 x1 : Int} {M : Mem} {Q : Value → Mem → Prop} (H :
    ((x1 = 0 →
     ∃ s1', (M.new (.cells #[.slice Ax0_0 lx0_0 cx0_0, .int .i64 x0_1] 24)).slAt (2 * M.nb.size) 0 = some s1' ∧
     ∃ a2', idxA s1'.1 (s1'.2.1) 1 0 = some a2' ∧
     ∃ x3', (M.new (.cells #[.slice Ax0_0 lx0_0 cx0_0, .int .i64 x0_1] 24)).intAt .u16 a2'.block a2'.off = some x3' ∧
     Q (.int .i64 (IntKind.i64.wrap (x3'))) (M.new (.cells #[.slice Ax0_0 lx0_0 cx0_0, .int .i64 x0_1] 24))) ∧
     (x1 ≠ 0 →
     ∃ s4', (M.new (.cells #[.slice Ax0_0 lx0_0 cx0_0, .int .i64 x0_1] 24)).slAt (2 * M.nb.size) 0 = some s4' ∧
     ∃ a5', idxA s4'.1 (s4'.2.1) 1 x1 = some a5' ∧
     ∃ x6', (M.new (.cells #[.slice Ax0_0 lx0_0 cx0_0, .int .i64 x0_1] 24)).intAt .u16 a5'.block a5'.off = some x6' ∧
     ∃ s7', (M.new (.cells #[.slice Ax0_0 lx0_0 cx0_0, .int .i64 x0_1] 24)).slAt (2 * M.nb.size) 0 = some s7' ∧
     ∃ a8', idxA s7'.1 (s7'.2.1) 1 (IntKind.i64.wrap (x1 - 1)) = some a8' ∧
     ∃ x9', (M.new (.cells #[.slice Ax0_0 lx0_0 cx0_0, .int .i64 x0_1] 24)).intAt .u16 a8'.block a8'.off = some x9' ∧
     Q (.int .i64 (IntKind.i64.wrap ((IntKind.i64.wrap (x6')) - (IntKind.i64.wrap (x9'))))) (M.new (.cells #[.slice Ax0_0 lx0_0 cx0_0, .int .i64 x0_1] 24))))) :
    Cn Try.prog 23 #[.agg #[.slice Ax0_0 lx0_0 cx0_0, .int .i64 x0_1], .int .i64 x1] M Q := by
  refine Cn.of b23 d23 t23 ?_
  refine Rn.seq k23_0 (Rn.region k23_1 (fun call K => r23_0) (Rch.leaf (Rn.seq k23_2 (Rn.seq k23_3 (Rn.region k23_4 (fun call K => r23_1) (Rch.leaf ?_))))))
  refine Rn.cnd (v := x1 == 0) ⟨c23_5, rfl, by kernel_rfl⟩ (fun h => ?_) (fun h => ?_)
  · replace H := H.1 (eq_of_beq h)
    refine Rn.seq k23_6 (Rn.region k23_7 (fun call K => r23_2) (Rch.bind (x := ⟨2 * M.nb.size, 0, none⟩) rfl (Rch.ex H fun s1' H => Rch.ex H fun a2' H => Rch.ex H fun x3' H => Rch.leaf ?_)))
    exact Rn.ret k23_8 e23 H
  · replace H := H.2 (ne_of_beq_false h)
    refine Rn.skip k23_10 (Rn.seq k23_11 (Rn.regionD k23_12 (fun call K => r23_3) (Rch.bind (x := ⟨2 * M.nb.size, 0, none⟩) rfl (Rch.ex H fun s4' H => Rch.ex H fun a5' H => Rch.ex H fun x6' H => Rch.bind (x := ⟨2 * M.nb.size, 0, none⟩) rfl (Rch.ex H fun s7' H => Rch.ex H fun a8' H => Rch.ex H fun x9' H => Rch.leaf ?_)))))
    exact Rn.ret k23_13 e23 H


/-! ### zoetrope/zoetropelaw03.copied: function 10 -/
noncomputable abbrev P10 (p : List Nat) : Code := subC (codeOf Try.f10) p
noncomputable abbrev O10 (p : List Nat) : Array Oper := opsOf (subC (codeOf Try.f10) p)
theorem b10 : Try.prog.funcs[10]? = some Try.f10 ∧ (Orc.tab Try.prog).lookup 10 = none := ⟨by kernel_rfl, by kernel_rfl⟩
theorem d10 : Try.f10.body = some (P10 []) := by kernel_rfl
theorem t10 {Ax0_0 : Option Addr} {lx0_0 cx0_0 : Nat} {x0_1 : Int} : #[.agg #[.slice Ax0_0 lx0_0 cx0_0, .int .i64 x0_1]] ++ Array.replicate (Try.f10.ntmps - (#[.agg #[.slice Ax0_0 lx0_0 cx0_0, .int .i64 x0_1]] : Array Value).size) undef = #[.agg #[.slice Ax0_0 lx0_0 cx0_0, .int .i64 x0_1],undef,undef,undef,undef,undef,undef,undef,undef,undef,undef,undef,undef,undef,undef,undef,undef,undef,undef,undef,undef,undef,undef,undef] := by kernel_rfl
theorem k10_0 : P10 [] = .seq (P10 [0]) (P10 [1]) := by kernel_rfl
theorem k10_1 : P10 [0] = .region 0 (O10 [0]) false := by kernel_rfl
theorem r10_0 {Ax0_0 : Option Addr} {lx0_0 cx0_0 : Nat} {x0_1 : Int} {M : Mem} {call : CallM} {K : Array Value → Mem → R} :
    opsK Try.prog (fun _ => call) (O10 [0]) (O10 [0]).toList 0 #[.agg #[.slice Ax0_0 lx0_0 cx0_0, .int .i64 x0_1],g1,g2,g3,g4,g5,g6,g7,g8,g9,g10,g11,g12,g13,g14,g15,g16,g17,g18,g19,g20,g21,g22,g23] M K = K #[.agg #[.slice Ax0_0 lx0_0 cx0_0, .int .i64 x0_1],.pointer (some ⟨2 * M.nb.size, 0, none⟩),.pointer (some ⟨2 * (M.new (.cells #[.slice Ax0_0 lx0_0 cx0_0, .int .i64 x0_1] 24)).nb.size, 0, none⟩),g3,g4,g5,g6,g7,g8,g9,g10,g11,g12,g13,g14,g15,g16,g17,g18,g19,g20,g21,g22,g23] ((M.new (.cells #[.slice Ax0_0 lx0_0 cx0_0, .int .i64 x0_1] 24)).new (.cells #[.slice none 0 0, .int .i64 0] 24)) := by kernel_rfl
theorem k10_2 : P10 [1] = .seq (P10 [1,0]) (P10 [1,1]) := by kernel_rfl
theorem k10_3 : P10 [1,0] = .region 1 (O10 [1,0]) false := by kernel_rfl
theorem r10_1 {M : Mem} {call : CallM} {K : Array Value → Mem → R} :
    opsK Try.prog (fun _ => call) (O10 [1,0]) (O10 [1,0]).toList 0 #[g0,g1,g2,g3,g4,g5,g6,g7,g8,g9,g10,g11,g12,g13,g14,g15,g16,g17,g18,g19,g20,g21,g22,g23] M K = K #[g0,g1,g2,.slice none 0 0,g4,g5,g6,g7,g8,g9,g10,g11,g12,g13,g14,g15,g16,g17,g18,g19,g20,g21,g22,g23] M := by kernel_rfl
theorem k10_4 : P10 [1,1] = .seq (P10 [1,1,0]) (P10 [1,1,1]) := by kernel_rfl
theorem k10_5 : P10 [1,1,0] = .region 2 (O10 [1,1,0]) false := by kernel_rfl
theorem r10_2 {x1 Ax3 : Option Addr} {lx3 cx3 : Nat} {M : Mem} {call : CallM} {K : Array Value → Mem → R} :
    opsK Try.prog (fun _ => call) (O10 [1,1,0]) (O10 [1,1,0]).toList 0 #[g0,.pointer x1,g2,.slice Ax3 lx3 cx3,g4,g5,g6,g7,g8,g9,g10,g11,g12,g13,g14,g15,g16,g17,g18,g19,g20,g21,g22,g23] M K = (x1).bind fun a_1 => (M.slAt a_1.block a_1.off).bind fun s_2 => (appendP Try.prog #[22, 22] (.slice Ax3 lx3 cx3) (.slice s_2.1 (s_2.2.1) (s_2.2.2)) M).bind fun r_3 => (asS r_3.1).bind fun s_4 => K #[g0,.pointer x1,g2,.slice s_4.1 (s_4.2.1) (s_4.2.2),g4,.slice Ax3 lx3 cx3,.pointer (some ⟨a_1.block, a_1.off, none⟩),.slice s_2.1 (s_2.2.1) (s_2.2.2),.slice s_4.1 (s_4.2.1) (s_4.2.2),g9,g10,g11,g12,g13,g14,g15,g16,g17,g18,g19,g20,g21,g22,g23] r_3.2 := by kernel_rfl
theorem k10_6 : P10 [1,1,1] = .seq (P10 [1,1,1,0]) (P10 [1,1,1,1]) := by kernel_rfl
theorem k10_7 : P10 [1,1,1,0] = .seq (P10 [1,1,1,0,0]) (P10 [1,1,1,0,1]) := by kernel_rfl
theorem k10_8 : P10 [1,1,1,0,0] = .region 3 (O10 [1,1,1,0,0]) false := by kernel_rfl
theorem r10_3 {M : Mem} {call : CallM} {K : Array Value → Mem → R} :
    opsK Try.prog (fun _ => call) (O10 [1,1,1,0,0]) (O10 [1,1,1,0,0]).toList 0 #[g0,g1,g2,g3,g4,g5,g6,g7,g8,g9,g10,g11,g12,g13,g14,g15,g16,g17,g18,g19,g20,g21,g22,g23] M K = K #[g0,g1,g2,g3,.int .i64 0,g5,g6,g7,g8,g9,g10,g11,g12,g13,g14,g15,g16,g17,g18,g19,g20,g21,g22,g23] M := by kernel_rfl
theorem k10_9 : P10 [1,1,1,0,1] = .block 0 (P10 [1,1,1,0,1,0]) := by kernel_rfl
theorem k10_10 : P10 [1,1,1,0,1,0] = .loop (P10 [1,1,1,0,1,0,0]) := by kernel_rfl
theorem k10_11 : P10 [1,1,1,0,1,0,0] = .seq (P10 [1,1,1,0,1,0,0,0]) (P10 [1,1,1,0,1,0,0,1]) := by kernel_rfl
theorem k10_12 : P10 [1,1,1,0,1,0,0,0] = .seq (P10 [1,1,1,0,1,0,0,0,0]) (P10 [1,1,1,0,1,0,0,0,1]) := by kernel_rfl
theorem k10_13 : P10 [1,1,1,0,1,0,0,0,0] = .region 4 (O10 [1,1,1,0,1,0,0,0,0]) false := by kernel_rfl
theorem r10_4 {x4 : Int} {M : Mem} {call : CallM} {K : Array Value → Mem → R} :
    opsK Try.prog (fun _ => call) (O10 [1,1,1,0,1,0,0,0,0]) (O10 [1,1,1,0,1,0,0,0,0]).toList 0 #[g0,g1,g2,g3,.int .i64 x4,g5,g6,g7,g8,g9,g10,g11,g12,g13,g14,g15,g16,g17,g18,g19,g20,g21,g22,g23] M K = K #[g0,g1,g2,g3,.int .i64 x4,g5,g6,g7,g8,.int .i64 x4,.bool (decide (x4 < 3)),g11,g12,g13,g14,g15,g16,g17,g18,g19,g20,g21,g22,g23] M := by kernel_rfl
theorem c10_14 : P10 [1,1,1,0,1,0,0,0,1] = .cond (.tmp 10) (P10 [1,1,1,0,1,0,0,0,1,0]) (P10 [1,1,1,0,1,0,0,0,1,1]) := by kernel_rfl
theorem k10_15 : P10 [1,1,1,0,1,0,0,0,1,0] = .skip := by kernel_rfl
theorem k10_16 : P10 [1,1,1,0,1,0,0,1] = .seq (P10 [1,1,1,0,1,0,0,1,0]) (P10 [1,1,1,0,1,0,0,1,1]) := by kernel_rfl
theorem k10_17 : P10 [1,1,1,0,1,0,0,1,0] = .block 1 (P10 [1,1,1,0,1,0,0,1,0,0]) := by kernel_rfl
theorem k10_18 : P10 [1,1,1,0,1,0,0,1,0,0] = .region 6 (O10 [1,1,1,0,1,0,0,1,0,0]) false := by kernel_rfl
theorem r10_6 {Ax3 : Option Addr} {lx3 cx3 : Nat} {M : Mem} {call : CallM} {K : Array Value → Mem → R} :
    opsK Try.prog (fun _ => call) (O10 [1,1,1,0,1,0,0,1,0,0]) (O10 [1,1,1,0,1,0,0,1,0,0]).toList 0 #[g0,g1,g2,.slice Ax3 lx3 cx3,g4,g5,g6,g7,g8,g9,g10,g11,g12,g13,g14,g15,g16,g17,g18,g19,g20,g21,g22,g23] M K = (appendP Try.prog #[22, 22] (.slice Ax3 lx3 cx3) (.slice (some ⟨2 * M.nb.size, 0, none⟩) 1 1) (M.new (.cells #[.int .u16 7777] 47))).bind fun r_1 => (asS r_1.1).bind fun s_2 => K #[g0,g1,g2,.slice s_2.1 (s_2.2.1) (s_2.2.2),g4,g5,g6,g7,g8,g9,g10,g11,g12,.slice Ax3 lx3 cx3,.slice (some ⟨2 * M.nb.size, 0, none⟩) 1 1,.slice s_2.1 (s_2.2.1) (s_2.2.2),g16,g17,g18,g19,g20,g21,g22,g23] r_1.2 := by kernel_rfl
theorem k10_19 : P10 [1,1,1,0,1,0,0,1,1] = .region 5 (O10 [1,1,1,0,1,0,0,1,1]) false := by kernel_rfl
theorem r10_5 {x4 : Int} {M : Mem} {call : CallM} {K : Array Value → Mem → R} :
    opsK Try.prog (fun _ => call) (O10 [1,1,1,0,1,0,0,1,1]) (O10 [1,1,1,0,1,0,0,1,1]).toList 0 #[g0,g1,g2,g3,.int .i64 x4,g5,g6,g7,g8,g9,g10,g11,g12,g13,g14,g15,g16,g17,g18,g19,g20,g21,g22,g23] M K = K #[g0,g1,g2,g3,.int .i64 (IntKind.i64.wrap (x4 + 1)),g5,g6,g7,g8,g9,g10,.int .i64 x4,.int .i64 (IntKind.i64.wrap (x4 + 1)),g13,g14,g15,g16,g17,g18,g19,g20,g21,g22,g23] M := by kernel_rfl
theorem k10_20 : P10 [1,1,1,0,1,0,0,0,1,1] = .exit 0 := by kernel_rfl
theorem k10_21 : P10 [1,1,1,1] = .seq (P10 [1,1,1,1,0]) (P10 [1,1,1,1,1]) := by kernel_rfl
theorem k10_22 : P10 [1,1,1,1,0] = .region 7 (O10 [1,1,1,1,0]) true ∧ drawOk (O10 [1,1,1,1,0]) = true := ⟨by kernel_rfl, by kernel_rfl⟩
theorem r10_7 {x1 x2 Ax3 : Option Addr} {lx3 cx3 : Nat} {M : Mem} {call : CallM} {K : Array Value → Mem → R} :
    opsI Try.prog (callAt call (O10 [1,1,1,1,0])) (O10 [1,1,1,1,0]) (ordOf (O10 [1,1,1,1,0])) [] #[g0,.pointer x1,.pointer x2,.slice Ax3 lx3 cx3,g4,g5,g6,g7,g8,g9,g10,g11,g12,g13,g14,g15,g16,g17,g18,g19,g20,g21,g22,g23] M K = (x1).bind fun a_1 => (M.slAt a_1.block a_1.off).bind fun s_2 => (sliceP Try.prog 22 (.slice Ax3 lx3 cx3) none (some (.int .i64 ((s_2.2.1 : Int)))) none).bind fun v_3 => (asS v_3).bind fun s_4 => (x1).bind fun a_5 => (M.intAt .i64 a_5.block (a_5.off + 1)).bind fun x_6 => (x2).bind fun a_7 => (M.put a_7.block a_7.off (.slice s_4.1 (s_4.2.1) (s_4.2.2))).bind fun M_8 => (M_8.put a_7.block (a_7.off + 1) (.int .i64 x_6)).bind fun M_9 => K #[g0,.pointer x1,.pointer x2,.slice Ax3 lx3 cx3,g4,g5,g6,g7,g8,g9,g10,g11,g12,g13,g14,g15,.slice Ax3 lx3 cx3,.pointer (some ⟨a_1.block, a_1.off, none⟩),.slice s_2.1 (s_2.2.1) (s_2.2.2),.int .i64 ((s_2.2.1 : Int)),.slice s_4.1 (s_4.2.1) (s_4.2.2),.pointer (some ⟨a_5.block, a_5.off + 1, none⟩),.int .i64 x_6,.agg #[.slice s_4.1 (s_4.2.1) (s_4.2.2), .int .i64 x_6]] M_9 := by kernel_rfl
theorem k10_23 : P10 [1,1,1,1,1] = .ret := by kernel_rfl
theorem e10_0 {x2 : Option Addr} {M : Mem} {K : List Value → R} : resK Try.prog #[g0,g1,.pointer x2,g3,g4,g5,g6,g7,g8,g9,g10,g11,g12,g13,g14,g15,g16,g17,g18,g19,g20,g21,g22,g23] M (Try.f10).results.toList K = (x2).bind fun a_1 => (M.slAt a_1.block a_1.off).bind fun s_2 => (M.intAt .i64 a_1.block (a_1.off + 1)).bind fun x_3 => K [.agg #[.slice s_2.1 (s_2.2.1) (s_2.2.2), .int .i64 x_3]] := by kernel_rfl
noncomputable def S10_1 : List Item := [.code (P10 [1,1,1,0,1,0,0]), .inLoop (P10 [1,1,1,0,1,0,0]), .inBlock 0, .code (P10 [1,1,1,1])]
def A10_1 (x1 x2 Ax3 : Option Addr) (lx3 cx3 : Nat) (x4 : Int) (M : Mem) (Q : Value → Mem → Prop) : Prop := ∀ (g0 g5 g6 g7 g8 g9 g10 g11 g12 g13 g14 g15 g16 g17 g18 g19 g20 g21 g22 g23 : Value), Rn Try.prog Try.f10 S10_1 #[g0, .pointer x1, .pointer x2, .slice Ax3 lx3 cx3, .int .i64 x4, g5, g6, g7, g8, g9, g10, g11, g12, g13, g14, g15, g16, g17, g18, g19, g20, g21, g22, g23] M Q
theorem w10_0 {Ax0_0 : Option Addr} {lx0_0 cx0_0 : Nat} {x0_1 : Int} {M : Mem} {Q : Value → Mem → Prop} (H :
    ∃ s1', ((M.new (.cells #[.slice Ax0_0 lx0_0 cx0_0, .int .i64 x0_1] 24)).new (.cells #[.slice none 0 0, .int .i64 0] 24)).slAt (2 * M.nb.size) 0 = some s1' ∧
    ∃ r2', appendP Try.prog #[22, 22] (.slice none 0 0) (.slice s1'.1 (s1'.2.1) (s1'.2.2)) ((M.new (.cells #[.slice Ax0_0 lx0_0 cx0_0, .int .i64 x0_1] 24)).new (.cells #[.slice none 0 0, .int .i64 0] 24)) = some r2' ∧
    ∃ s3', asS r2'.1 = some s3' ∧
    A10_1 (some ⟨2 * M.nb.size, 0, none⟩) (some ⟨2 * (M.new (.cells #[.slice Ax0_0 lx0_0 cx0_0, .int .i64 x0_1] 24)).nb.size, 0, none⟩) s3'.1 s3'.2.1 s3'.2.2 0 r2'.2 Q) :
    Cn Try.prog 10 #[.agg #[.slice Ax0_0 lx0_0 cx0_0, .int .i64 x0_1]] M Q := by
  refine Cn.of b10 d10 t10 ?_
  refine Rn.seq k10_0 (Rn.region k10_1 (fun call K => r10_0) (Rch.leaf (Rn.seq k10_2 (Rn.region k10_3 (fun call K => r10_1) (Rch.leaf (Rn.seq k10_4 (Rn.region k10_5 (fun call K => r10_2) (Rch.bind (x := ⟨2 * M.nb.size, 0, none⟩) rfl (Rch.ex H fun s1' H => Rch.ex H fun r2' H => Rch.ex H fun s3' H => ?_)))))))))
  refine Rch.leaf (Rn.seq k10_6 (Rn.seq k10_7 (Rn.region k10_8 (fun call K => r10_3) (Rch.leaf (Rn.block k10_9 (Rn.loop k10_10 ?_))))))
  exact H _ _ _ _ _ _ _ _ _ _ _ _ _ _ _ _ _ _ _ _

theorem w10_1 {x1 x2 Ax3 : Option Addr} {lx3 cx3 : Nat} {x4 : Int} {M : Mem} {Q : Value → Mem → Prop} (H :
    ((x4 < 3 →
     ∃ r4', appendP Try.prog #[22, 22] (.slice Ax3 lx3 cx3) (.slice (some ⟨2 * M.nb.size, 0, none⟩) 1 1) (M.new (.cells #[.int .u16 7777] 47)) = some r4' ∧
     ∃ s5', asS r4'.1 = some s5' ∧
     A10_1 x1 x2 s5'.1 s5'.2.1 s5'.2.2 (IntKind.i64.wrap (x4 + 1)) r4'.2 Q) ∧
     (¬ (x4 < 3) →
     ∃ a6', x1 = some a6' ∧
     ∃ s7', M.slAt a6'.block a6'.off = some s7' ∧
     ∃ v8', sliceP Try.prog 22 (.slice Ax3 lx3 cx3) none (some (.int .i64 ((s7'.2.1 : Int)))) none = some v8' ∧
     ∃ s9', asS v8' = some s9' ∧
     ∃ a10', x1 = some a10' ∧
     ∃ x11', M.intAt .i64 a10'.block (a10'.off + 1) = some x11' ∧
     ∃ a12', x2 = some a12' ∧
     ∃ M13', M.put a12'.block a12'.off (.slice s9'.1 (s9'.2.1) (s9'.2.2)) = some M13' ∧
     ∃ M14', M13'.put a12'.block (a12'.off + 1) (.int .i64 x11') = some M14' ∧
     ∃ a15', x2 = some a15' ∧
     ∃ s16', M14'.slAt a15'.block a15'.off = some s16' ∧
     ∃ x17', M14'.intAt .i64 a15'.block (a15'.off + 1) = some x17' ∧
     Q (.agg #[.slice s16'.1 (s16'.2.1) (s16'.2.2), .int .i64 (x17')]) M14'))) :
    A10_1 x1 x2 Ax3 lx3 cx3 x4 M Q := by
  intro g0 g5 g6 g7 g8 g9 g10 g11 g12 g13 g14 g15 g16 g17 g18 g19 g20 g21 g22 g23
  refine Rn.seq k10_11 (Rn.seq k10_12 (Rn.region k10_13 (fun call K => r10_4) (Rch.leaf ?_)))
  refine Rn.cnd (v := decide (x4 < 3)) ⟨c10_14, rfl, by kernel_rfl⟩ (fun h => ?_) (fun h => ?_)
  · replace H := H.1 (of_decide_eq_true h)
    refine Rn.skip k10_15 (Rn.seq k10_16 (Rn.block k10_17 (Rn.region k10_18 (fun call K => r10_6) (Rch.ex H fun r4' H => Rch.ex H fun s5' H => Rch.leaf (Rn.blk (Rn.region k10_19 (fun call K => r10_5) (Rch.leaf (Rn.lp ?_))))))))
    exact H _ _ _ _ _ _ _ _ _ _ _ _ _ _ _ _ _ _ _ _
  · replace H := H.2 (of_decide_eq_false h)
    refine Rn.exit k10_20 rfl (Rn.seq k10_21 (Rn.regionD k10_22 (fun call K => r10_7) (Rch.ex H fun a6' H => Rch.ex H fun s7' H => Rch.ex H fun v8' H => Rch.ex H fun s9' H => Rch.ex H fun a10' H => Rch.ex H fun x11' H => Rch.ex H fun a12' H => Rch.ex H fun M13' H => Rch.ex H fun M14' H => ?_)))
    refine Rch.leaf (Rn.retK k10_23 (fun K => e10_0) (Rch.ex H fun a15' H => Rch.ex H fun s16' H => Rch.ex H fun x17' H => ?_))
    exact Rch.fin H


/-! ### zoetrope/zoetropelaw03.kept: function 14 -/
noncomputable abbrev P14 (p : List Nat) : Code := subC (codeOf Try.f14) p
noncomputable abbrev O14 (p : List Nat) : Array Oper := opsOf (subC (codeOf Try.f14) p)
theorem b14 : Try.prog.funcs[14]? = some Try.f14 ∧ (Orc.tab Try.prog).lookup 14 = none := ⟨by kernel_rfl, by kernel_rfl⟩
theorem d14 : Try.f14.body = some (P14 []) := by kernel_rfl
theorem t14 {Ax0_0 : Option Addr} {lx0_0 cx0_0 : Nat} {x0_1 : Int} {Ax1_0 : Option Addr} {lx1_0 cx1_0 : Nat} {x1_1 : Int} : #[.agg #[.slice Ax0_0 lx0_0 cx0_0, .int .i64 x0_1],.agg #[.slice Ax1_0 lx1_0 cx1_0, .int .i64 x1_1]] ++ Array.replicate (Try.f14.ntmps - (#[.agg #[.slice Ax0_0 lx0_0 cx0_0, .int .i64 x0_1],.agg #[.slice Ax1_0 lx1_0 cx1_0, .int .i64 x1_1]] : Array Value).size) undef = #[.agg #[.slice Ax0_0 lx0_0 cx0_0, .int .i64 x0_1],.agg #[.slice Ax1_0 lx1_0 cx1_0, .int .i64 x1_1],undef,undef,undef,undef,undef,undef,undef,undef,undef,undef,undef,undef,undef,undef,undef,undef,undef,undef,undef,undef,undef,undef,undef,undef,undef,undef,undef,undef,undef,undef,undef,undef,undef,undef,undef,undef,undef,undef,undef,undef,undef,undef,undef] := by kernel_rfl
theorem k14_0 : P14 [] = .seq (P14 [0]) (P14 [1]) := by kernel_rfl
theorem k14_1 : P14 [0] = .region 0 (O14 [0]) false := by kernel_rfl
theorem r14_0 {Ax0_0 : Option Addr} {lx0_0 cx0_0 : Nat} {x0_1 : Int} {Ax1_0 : Option Addr} {lx1_0 cx1_0 : Nat} {x1_1 : Int} {M : Mem} {call : CallM} {K : Array Value → Mem → R} :
    opsK Try.prog (fun _ => call) (O14 [0]) (O14 [0]).toList 0 #[.agg #[.slice Ax0_0 lx0_0 cx0_0, .int .i64 x0_1],.agg #[.slice Ax1_0 lx1_0 cx1_0, .int .i64 x1_1],g2,g3,g4,g5,g6,g7,g8,g9,g10,g11,g12,g13,g14,g15,g16,g17,g18,g19,g20,g21,g22,g23,g24,g25,g26,g27,g28,g29,g30,g31,g32,g33,g34,g35,g36,g37,g38,g39,g40,g41,g42,g43,g44] M K = K #[.agg #[.slice Ax0_0 lx0_0 cx0_0, .int .i64 x0_1],.agg #[.slice Ax1_0 lx1_0 cx1_0, .int .i64 x1_1],.pointer (some ⟨2 * M.nb.size, 0, none⟩),.pointer (some ⟨2 * (M.new (.cells #[.slice Ax0_0 lx0_0 cx0_0, .int .i64 x0_1] 24)).nb.size, 0, none⟩),.bool false,g5,g6,g7,g8,g9,g10,g11,g12,g13,g14,g15,g16,g17,g18,g19,g20,g21,g22,g23,g24,g25,g26,g27,g28,g29,g30,g31,g32,g33,g34,g35,g36,g37,g38,g39,g40,g41,g42,g43,g44] ((M.new (.cells #[.slice Ax0_0 lx0_0 cx0_0, .int .i64 x0_1] 24)).new (.cells #[.slice Ax1_0 lx1_0 cx1_0, .int .i64 x1_1] 24)) := by kernel_rfl
theorem k14_2 : P14 [1] = .seq (P14 [1,0]) (P14 [1,1]) := by kernel_rfl
theorem k14_3 : P14 [1,0] = .region 1 (O14 [1,0]) false := by kernel_rfl
theorem r14_1 {x2 x3 : Option Addr} {M : Mem} {call : CallM} {K : Array Value → Mem → R} :
    opsK Try.prog (fun _ => call) (O14 [1,0]) (O14 [1,0]).toList 0 #[g0,g1,.pointer x2,.pointer x3,g4,g5,g6,g7,g8,g9,g10,g11,g12,g13,g14,g15,g16,g17,g18,g19,g20,g21,g22,g23,g24,g25,g26,g27,g28,g29,g30,g31,g32,g33,g34,g35,g36,g37,g38,g39,g40,g41,g42,g43,g44] M K = (x2).bind fun a_1 => (M.slAt a_1.block a_1.off).bind fun s_2 => (x3).bind fun a_3 => (M.slAt a_3.block a_3.off).bind fun s_4 => (sliceP Try.prog 22 (.slice s_2.1 (s_2.2.1) (s_2.2.2)) none (some (.int .i64 (IntKind.i64.wrap (((s_4.2.1 : Int)) + 3)))) none).bind fun v_5 => (asS v_5).bind fun s_6 => K #[g0,g1,.pointer x2,.pointer x3,g4,.slice s_6.1 (s_6.2.1) (s_6.2.2),.pointer (some ⟨a_1.block, a_1.off, none⟩),.slice s_2.1 (s_2.2.1) (s_2.2.2),.pointer (some ⟨a_3.block, a_3.off, none⟩),.slice s_4.1 (s_4.2.1) (s_4.2.2),.int .i64 ((s_4.2.1 : Int)),.int .i64 (IntKind.i64.wrap (((s_4.2.1 : Int)) + 3)),.slice s_6.1 (s_6.2.1) (s_6.2.2),g13,g14,g15,g16,g17,g18,g19,g20,g21,g22,g23,g24,g25,g26,g27,g28,g29,g30,g31,g32,g33,g34,g35,g36,g37,g38,g39,g40,g41,g42,g43,g44] M := by kernel_rfl
theorem k14_4 : P14 [1,1] = .seq (P14 [1,1,0]) (P14 [1,1,1]) := by kernel_rfl
theorem k14_5 : P14 [1,1,0] = .region 2 (O14 [1,1,0]) false := by kernel_rfl
theorem k14_6 : P14 [1,1,0] = .region 2 (O14 [1,1,0]) false ∧ (!false || drawOk (O14 [1,1,0])) = true := ⟨by kernel_rfl, by kernel_rfl⟩
theorem r14_2p0 {x2 x3 Ax5 : Option Addr} {lx5 cx5 : Nat} {M : Mem} {call : CallM} {K : Array Value → Mem → R} :
    segK Try.prog false call (O14 [1,1,0]) 0 13 #[g0,g1,.pointer x2,.pointer x3,g4,.slice Ax5 lx5 cx5,g6,g7,g8,g9,g10,g11,g12,g13,g14,g15,g16,g17,g18,g19,g20,g21,g22,g23,g24,g25,g26,g27,g28,g29,g30,g31,g32,g33,g34,g35,g36,g37,g38,g39,g40,g41,g42,g43,g44] M K = withK (fun w13 w14 w15 w16 w17 w18 w19 w20 w21 w22 w23 w24 w25 M => K #[g0,g1,.pointer x2,.pointer x3,g4,.slice Ax5 lx5 cx5,g6,g7,g8,g9,g10,g11,g12,w13,w14,w15,w16,w17,w18,w19,w20,w21,w22,w23,w24,w25,g26,g27,g28,g29,g30,g31,g32,g33,g34,g35,g36,g37,g38,g39,g40,g41,g42,g43,g44] M) fun k => (x2).bind fun a_1 => (M.slAt a_1.block a_1.off).bind fun s_2 => (M.intAt .i64 a_1.block (a_1.off + 1)).bind fun x_3 => (x3).bind fun a_4 => (M.slAt a_4.block a_4.off).bind fun s_5 => (M.intAt .i64 a_4.block (a_4.off + 1)).bind fun x_6 => (call 13 #[.agg #[.slice s_2.1 (s_2.2.1) (s_2.2.2), .int .i64 x_3], .agg #[.slice s_5.1 (s_5.2.1) (s_5.2.2), .int .i64 x_6]] M).bind fun r_7 => (asB r_7.1).bind fun b_8 => cond b_8 ((x3).bind fun a_9 => (r_7.2.slAt a_9.block a_9.off).bind fun s_10 => (idxA Ax5 lx5 1 ((s_10.2.1 : Int))).bind fun a_11 => (r_7.2.intAt .u16 a_11.block a_11.off).bind fun x_12 => k (.agg #[.slice s_2.1 (s_2.2.1) (s_2.2.2), .int .i64 x_3]) (.agg #[.slice s_5.1 (s_5.2.1) (s_5.2.2), .int .i64 x_6]) (.bool b_8) (.bool true) (.slice Ax5 lx5 cx5) (.pointer (some ⟨a_9.block, a_9.off, none⟩)) (.slice s_10.1 (s_10.2.1) (s_10.2.2)) (.int .i64 ((s_10.2.1 : Int))) (.pointer (some a_11)) (.int .u16 x_12) (.bool (x_12 == 7777)) (.bool (x_12 == 7777)) (.bool (x_12 == 7777)) r_7.2) (k (.agg #[.slice s_2.1 (s_2.2.1) (s_2.2.2), .int .i64 x_3]) (.agg #[.slice s_5.1 (s_5.2.1) (s_5.2.2), .int .i64 x_6]) (.bool b_8) (.bool false) undef undef undef undef undef undef undef (.bool false) (.bool false) r_7.2) := by kernel_rfl
theorem r14_2p13 {x3 Ax5 : Option Addr} {lx5 cx5 : Nat} {x25 : Bool} {M : Mem} {call : CallM} {K : Array Value → Mem → R} :
    segK Try.prog false call (O14 [1,1,0]) 13 10 #[g0,g1,g2,.pointer x3,g4,.slice Ax5 lx5 cx5,g6,g7,g8,g9,g10,g11,g12,g13,g14,g15,g16,g17,g18,g19,g20,g21,g22,g23,g24,.bool x25,g26,g27,g28,g29,g30,g31,g32,g33,g34,g35,g36,g37,g38,g39,g40,g41,g42,g43,g44] M K = withK (fun w25 w26 w27 w28 w29 w30 w31 w32 w33 w34 w35 M => K #[g0,g1,g2,.pointer x3,g4,.slice Ax5 lx5 cx5,g6,g7,g8,g9,g10,g11,g12,g13,g14,g15,g16,g17,g18,g19,g20,g21,g22,g23,g24,w25,w26,w27,w28,w29,w30,w31,w32,w33,w34,w35,g36,g37,g38,g39,g40,g41,g42,g43,g44] M) fun k => cond x25 ((x3).bind fun a_1 => (M.slAt a_1.block a_1.off).bind fun s_2 => (idxA Ax5 lx5 1 (IntKind.i64.wrap (((s_2.2.1 : Int)) + 1))).bind fun a_3 => (M.intAt .u16 a_3.block a_3.off).bind fun x_4 => k (.bool true) (.slice Ax5 lx5 cx5) (.pointer (some ⟨a_1.block, a_1.off, none⟩)) (.slice s_2.1 (s_2.2.1) (s_2.2.2)) (.int .i64 ((s_2.2.1 : Int))) (.int .i64 (IntKind.i64.wrap (((s_2.2.1 : Int)) + 1))) (.pointer (some a_3)) (.int .u16 x_4) (.bool (x_4 == 7777)) (.bool (x_4 == 7777)) (.bool (x_4 == 7777)) M) (k (.bool false) undef undef undef undef undef undef undef undef (.bool false) (.bool false) M) := by kernel_rfl
theorem r14_2p23 {x3 Ax5 : Option Addr} {lx5 cx5 : Nat} {x35 : Bool} {M : Mem} {call : CallM} {K : Array Value → Mem → R} :
    segK Try.prog false call (O14 [1,1,0]) 23 10 #[g0,g1,g2,.pointer x3,g4,.slice Ax5 lx5 cx5,g6,g7,g8,g9,g10,g11,g12,g13,g14,g15,g16,g17,g18,g19,g20,g21,g22,g23,g24,g25,g26,g27,g28,g29,g30,g31,g32,g33,g34,.bool x35,g36,g37,g38,g39,g40,g41,g42,g43,g44] M K = withK (fun w4 w35 w36 w37 w38 w39 w40 w41 w42 w43 w44 M => K #[g0,g1,g2,.pointer x3,w4,.slice Ax5 lx5 cx5,g6,g7,g8,g9,g10,g11,g12,g13,g14,g15,g16,g17,g18,g19,g20,g21,g22,g23,g24,g25,g26,g27,g28,g29,g30,g31,g32,g33,g34,w35,w36,w37,w38,w39,w40,w41,w42,w43,w44] M) fun k => cond x35 ((x3).bind fun a_1 => (M.slAt a_1.block a_1.off).bind fun s_2 => (idxA Ax5 lx5 1 (IntKind.i64.wrap (((s_2.2.1 : Int)) + 2))).bind fun a_3 => (M.intAt .u16 a_3.block a_3.off).bind fun x_4 => k (.bool (x_4 == 7777)) (.bool true) (.slice Ax5 lx5 cx5) (.pointer (some ⟨a_1.block, a_1.off, none⟩)) (.slice s_2.1 (s_2.2.1) (s_2.2.2)) (.int .i64 ((s_2.2.1 : Int))) (.int .i64 (IntKind.i64.wrap (((s_2.2.1 : Int)) + 2))) (.pointer (some a_3)) (.int .u16 x_4) (.bool (x_4 == 7777)) (.bool (x_4 == 7777)) M) (k (.bool false) (.bool false) undef undef undef undef undef undef undef undef (.bool false) M) := by kernel_rfl
theorem k14_7 : P14 [1,1,1] = .ret := by kernel_rfl
theorem e14 {M : Mem} : finish Try.prog Try.f14 #[g0,g1,g2,g3,g4,g5,g6,g7,g8,g9,g10,g11,g12,g13,g14,g15,g16,g17,g18,g19,g20,g21,g22,g23,g24,g25,g26,g27,g28,g29,g30,g31,g32,g33,g34,g35,g36,g37,g38,g39,g40,g41,g42,g43,g44] M = some (g4, M) := by kernel_rfl
noncomputable def S14_1 : List Item := [.code (P14 [1,1,1])]
def A14_1 (x3 Ax5 : Option Addr) (lx5 cx5 : Nat) (x25 : Bool) (M : Mem) (Q : Value → Mem → Prop) : Prop := ∀ (g0 g1 g2 g4 g6 g7 g8 g9 g10 g11 g12 g13 g14 g15 g16 g17 g18 g19 g20 g21 g22 g23 g24 g26 g27 g28 g29 g30 g31 g32 g33 g34 g35 g36 g37 g38 g39 g40 g41 g42 g43 g44 : Value), Rg Try.prog Try.f14 (O14 [1,1,0]) false 13 S14_1 #[g0, g1, g2, .pointer x3, g4, .slice Ax5 lx5 cx5, g6, g7, g8, g9, g10, g11, g12, g13, g14, g15, g16, g17, g18, g19, g20, g21, g22, g23, g24, .bool x25, g26, g27, g28, g29, g30, g31, g32, g33, g34, g35, g36, g37, g38, g39, g40, g41, g42, g43, g44] M Q
noncomputable def S14_2 : List Item := [.code (P14 [1,1,1])]
def A14_2 (x3 Ax5 : Option Addr) (lx5 cx5 : Nat) (x35 : Bool) (M : Mem) (Q : Value → Mem → Prop) : Prop := ∀ (g0 g1 g2 g4 g6 g7 g8 g9 g10 g11 g12 g13 g14 g15 g16 g17 g18 g19 g20 g21 g22 g23 g24 g25 g26 g27 g28 g29 g30 g31 g32 g33 g34 g36 g37 g38 g39 g40 g41 g42 g43 g44 : Value), Rg Try.prog Try.f14 (O14 [1,1,0]) false 23 S14_2 #[g0, g1, g2, .pointer x3, g4, .slice Ax5 lx5 cx5, g6, g7, g8, g9, g10, g11, g12, g13, g14, g15, g16, g17, g18, g19, g20, g21, g22, g23, g24, g25, g26, g27, g28, g29, g30, g31, g32, g33, g34, .bool x35, g36, g37, g38, g39, g40, g41, g42, g43, g44] M Q
theorem w14_0 {Ax0_0 : Option Addr} {lx0_0 cx0_0 : Nat} {x0_1 : Int} {Ax1_0 : Option Addr} {lx1_0 cx1_0 : Nat} {x1_1 : Int} {M : Mem} {Q : Value → Mem → Prop} (H :
    ∃ s1', ((M.new (.cells #[.slice Ax0_0 lx0_0 cx0_0, .int .i64 x0_1] 24)).new (.cells #[.slice Ax1_0 lx1_0 cx1_0, .int .i64 x1_1] 24)).slAt (2 * M.nb.size) 0 = some s1' ∧
    ∃ s2', ((M.new (.cells #[.slice Ax0_0 lx0_0 cx0_0, .int .i64 x0_1] 24)).new (.cells #[.slice Ax1_0 lx1_0 cx1_0, .int .i64 x1_1] 24)).slAt (2 * (M.new (.cells #[.slice Ax0_0 lx0_0 cx0_0, .int .i64 x0_1] 24)).nb.size) 0 = some s2' ∧
    ∃ v3', sliceP Try.prog 22 (.slice s1'.1 (s1'.2.1) (s1'.2.2)) none (some (.int .i64 (IntKind.i64.wrap (((s2'.2.1 : Int)) + 3)))) none = some v3' ∧
    ∃ s4', asS v3' = some s4' ∧
    ∃ s5', ((M.new (.cells #[.slice Ax0_0 lx0_0 cx0_0, .int .i64 x0_1] 24)).new (.cells #[.slice Ax1_0 lx1_0 cx1_0, .int .i64 x1_1] 24)).slAt (2 * M.nb.size) 0 = some s5' ∧
    ∃ x6', ((M.new (.cells #[.slice Ax0_0 lx0_0 cx0_0, .int .i64 x0_1] 24)).new (.cells #[.slice Ax1_0 lx1_0 cx1_0, .int .i64 x1_1] 24)).intAt .i64 (2 * M.nb.size) (0 + 1) = some x6' ∧
    ∃ s7', ((M.new (.cells #[.slice Ax0_0 lx0_0 cx0_0, .int .i64 x0_1] 24)).new (.cells #[.slice Ax1_0 lx1_0 cx1_0, .int .i64 x1_1] 24)).slAt (2 * (M.new (.cells #[.slice Ax0_0 lx0_0 cx0_0, .int .i64 x0_1] 24)).nb.size) 0 = some s7' ∧
    ∃ x8', ((M.new (.cells #[.slice Ax0_0 lx0_0 cx0_0, .int .i64 x0_1] 24)).new (.cells #[.slice Ax1_0 lx1_0 cx1_0, .int .i64 x1_1] 24)).intAt .i64 (2 * (M.new (.cells #[.slice Ax0_0 lx0_0 cx0_0, .int .i64 x0_1] 24)).nb.size) (0 + 1) = some x8' ∧
    Cn Try.prog 13 #[.agg #[.slice s5'.1 (s5'.2.1) (s5'.2.2), .int .i64 x6'], .agg #[.slice s7'.1 (s7'.2.1) (s7'.2.2), .int .i64 x8']] ((M.new (.cells #[.slice Ax0_0 lx0_0 cx0_0, .int .i64 x0_1] 24)).new (.cells #[.slice Ax1_0 lx1_0 cx1_0, .int .i64 x1_1] 24)) fun v9' N9' =>
     ∃ b10', asB v9' = some b10' ∧
     ((b10' = true →
      ∃ s11', N9'.slAt (2 * (M.new (.cells #[.slice Ax0_0 lx0_0 cx0_0, .int .i64 x0_1] 24)).nb.size) 0 = some s11' ∧
      ∃ a12', idxA s4'.1 s4'.2.1 1 ((s11'.2.1 : Int)) = some a12' ∧
      ∃ x13', N9'.intAt .u16 a12'.block a12'.off = some x13' ∧
      A14_1 (some ⟨2 * (M.new (.cells #[.slice Ax0_0 lx0_0 cx0_0, .int .i64 x0_1] 24)).nb.size, 0, none⟩) s4'.1 s4'.2.1 s4'.2.2 (x13' == 7777) N9' Q) ∧
      (b10' = false →
      A14_1 (some ⟨2 * (M.new (.cells #[.slice Ax0_0 lx0_0 cx0_0, .int .i64 x0_1] 24)).nb.size, 0, none⟩) s4'.1 s4'.2.1 s4'.2.2 false N9' Q))) :
    Cn Try.prog 14 #[.agg #[.slice Ax0_0 lx0_0 cx0_0, .int .i64 x0_1], .agg #[.slice Ax1_0 lx1_0 cx1_0, .int .i64 x1_1]] M Q := by
  refine Cn.of b14 d14 t14 ?_
  refine Rn.seq k14_0 (Rn.region k14_1 (fun call K => r14_0) (Rch.leaf (Rn.seq k14_2 (Rn.region k14_3 (fun call K => r14_1) (Rch.bind (x := ⟨2 * M.nb.size, 0, none⟩) rfl (Rch.ex H fun s1' H => Rch.bind (x := ⟨2 * (M.new (.cells #[.slice Ax0_0 lx0_0 cx0_0, .int .i64 x0_1] 24)).nb.size, 0, none⟩) rfl (Rch.ex H fun s2' H => Rch.ex H fun v3' H => Rch.ex H fun s4' H => Rch.leaf ?_)))))))
  refine Rn.seq k14_4 (Rn.regionC k14_6 (Rg.step (d := 13) (j := 13) (fun call K => r14_2p0) rfl rfl (Rch.bind (x := ⟨2 * M.nb.size, 0, none⟩) rfl (Rch.ex H fun s5' H => Rch.ex H fun x6' H => Rch.bind (x := ⟨2 * (M.new (.cells #[.slice Ax0_0 lx0_0 cx0_0, .int .i64 x0_1] 24)).nb.size, 0, none⟩) rfl (Rch.ex H fun s7' H => Rch.ex H fun x8' H => Rch.call H fun v9' N9' H => Rch.ex H fun b10' H => ?_)))))
  refine Rch.cB (fun h => ?_) (fun h => ?_)
  · replace H := H.1 (h)
    refine Rch.bind (x := ⟨2 * (M.new (.cells #[.slice Ax0_0 lx0_0 cx0_0, .int .i64 x0_1] 24)).nb.size, 0, none⟩) rfl (Rch.ex H fun s11' H => Rch.ex H fun a12' H => Rch.ex H fun x13' H => Rch.rest ?_)
    exact H _ _ _ _ _ _ _ _ _ _ _ _ _ _ _ _ _ _ _ _ _ _ _ _ _ _ _ _ _ _ _ _ _ _ _ _ _ _ _ _ _ _
  · replace H := H.2 (h)
    refine Rch.rest ?_
    exact H _ _ _ _ _ _ _ _ _ _ _ _ _ _ _ _ _ _ _ _ _ _ _ _ _ _ _ _ _ _ _ _ _ _ _ _ _ _ _ _ _ _

theorem w14_1 {x3 Ax5 : Option Addr} {lx5 cx5 : Nat} {x25 : Bool} {M : Mem} {Q : Value → Mem → Prop} (H :
    ((x25 = true →
     ∃ a14', x3 = some a14' ∧
     ∃ s15', M.slAt a14'.block a14'.off = some s15' ∧
     ∃ a16', idxA Ax5 lx5 1 (IntKind.i64.wrap (((s15'.2.1 : Int)) + 1)) = some a16' ∧
     ∃ x17', M.intAt .u16 a16'.block a16'.off = some x17' ∧
     A14_2 x3 Ax5 lx5 cx5 (x17' == 7777) M Q) ∧
     (x25 = false →
     A14_2 x3 Ax5 lx5 cx5 false M Q))) :
    A14_1 x3 Ax5 lx5 cx5 x25 M Q := by
  intro g0 g1 g2 g4 g6 g7 g8 g9 g10 g11 g12 g13 g14 g15 g16 g17 g18 g19 g20 g21 g22 g23 g24 g26 g27 g28 g29 g30 g31 g32 g33 g34 g35 g36 g37 g38 g39 g40 g41 g42 g43 g44
  refine Rg.step (d := 10) (j := 23) (fun call K => r14_2p13) rfl rfl ?_
  refine Rch.cB (fun h => ?_) (fun h => ?_)
  · replace H := H.1 (h)
    refine Rch.ex H fun a14' H => Rch.ex H fun s15' H => Rch.ex H fun a16' H => Rch.ex H fun x17' H => Rch.rest ?_
    exact H _ _ _ _ _ _ _ _ _ _ _ _ _ _ _ _ _ _ _ _ _ _ _ _ _ _ _ _ _ _ _ _ _ _ _ _ _ _ _ _ _ _
  · replace H := H.2 (h)
    refine Rch.rest ?_
    exact H _ _ _ _ _ _ _ _ _ _ _ _ _ _ _ _ _ _ _ _ _ _ _ _ _ _ _ _ _ _ _ _ _ _ _ _ _ _ _ _ _ _

theorem w14_2 {x3 Ax5 : Option Addr} {lx5 cx5 : Nat} {x35 : Bool} {M : Mem} {Q : Value → Mem → Prop} (H :
    ((x35 = true →
     ∃ a18', x3 = some a18' ∧
     ∃ s19', M.slAt a18'.block a18'.off = some s19' ∧
     ∃ a20', idxA Ax5 lx5 1 (IntKind.i64.wrap (((s19'.2.1 : Int)) + 2)) = some a20' ∧
     ∃ x21', M.intAt .u16 a20'.block a20'.off = some x21' ∧
     Q (.bool (x21' == 7777)) M) ∧
     (x35 = false →
     Q (.bool false) M))) :
    A14_2 x3 Ax5 lx5 cx5 x35 M Q := by
  intro g0 g1 g2 g4 g6 g7 g8 g9 g10 g11 g12 g13 g14 g15 g16 g17 g18 g19 g20 g21 g22 g23 g24 g25 g26 g27 g28 g29 g30 g31 g32 g33 g34 g36 g37 g38 g39 g40 g41 g42 g43 g44
  refine Rg.step (d := 10) (j := 33) (fun call K => r14_2p23) rfl rfl ?_
  refine Rch.cB (fun h => ?_) (fun h => ?_)
  · replace H := H.1 (h)
    refine Rch.ex H fun a18' H => Rch.ex H fun s19' H => Rch.ex H fun a20' H => Rch.ex H fun x21' H => Rch.rest (Rg.done rfl ?_)
    exact Rn.ret k14_7 e14 H
  · replace H := H.2 (h)
    refine Rch.rest (Rg.done rfl ?_)
    exact Rn.ret k14_7 e14 H


/-! ### zoetrope/zoetropelaw03.told: function 15 -/
noncomputable abbrev P15 (p : List Nat) : Code := subC (codeOf Try.f15) p
noncomputable abbrev O15 (p : List Nat) : Array Oper := opsOf (subC (codeOf Try.f15) p)
theorem b15 : Try.prog.funcs[15]? = some Try.f15 ∧ (Orc.tab Try.prog).lookup 15 = none := ⟨by kernel_rfl, by kernel_rfl⟩
theorem d15 : Try.f15.body = some (P15 []) := by kernel_rfl
theorem t15 {Ax0_0 : Option Addr} {lx0_0 cx0_0 : Nat} {x0_1 x1 : Int} {Ax2_0 : Option Addr} {lx2_0 cx2_0 : Nat} {x2_1 x3 : Int} : #[.agg #[.slice Ax0_0 lx0_0 cx0_0, .int .i64 x0_1],.int .i64 x1,.agg #[.slice Ax2_0 lx2_0 cx2_0, .int .i64 x2_1],.int .i64 x3] ++ Array.replicate (Try.f15.ntmps - (#[.agg #[.slice Ax0_0 lx0_0 cx0_0, .int .i64 x0_1],.int .i64 x1,.agg #[.slice Ax2_0 lx2_0 cx2_0, .int .i64 x2_1],.int .i64 x3] : Array Value).size) undef = #[.agg #[.slice Ax0_0 lx0_0 cx0_0, .int .i64 x0_1],.int .i64 x1,.agg #[.slice Ax2_0 lx2_0 cx2_0, .int .i64 x2_1],.int .i64 x3,undef,undef,undef,undef,undef,undef,undef,undef,undef,undef,undef,undef,undef,undef,undef,undef,undef,undef,undef,undef,undef,undef,undef,undef,undef,undef,undef,undef,undef,undef,undef,undef,undef,undef,undef,undef] := by kernel_rfl
theorem k15_0 : P15 [] = .seq (P15 [0]) (P15 [1]) := by kernel_rfl
theorem k15_1 : P15 [0] = .region 0 (O15 [0]) false := by kernel_rfl
theorem r15_0 {Ax0_0 : Option Addr} {lx0_0 cx0_0 : Nat} {x0_1 : Int} {Ax2_0 : Option Addr} {lx2_0 cx2_0 : Nat} {x2_1 : Int} {M : Mem} {call : CallM} {K : Array Value → Mem → R} :
    opsK Try.prog (fun _ => call) (O15 [0]) (O15 [0]).toList 0 #[.agg #[.slice Ax0_0 lx0_0 cx0_0, .int .i64 x0_1],g1,.agg #[.slice Ax2_0 lx2_0 cx2_0, .int .i64 x2_1],g3,g4,g5,g6,g7,g8,g9,g10,g11,g12,g13,g14,g15,g16,g17,g18,g19,g20,g21,g22,g23,g24,g25,g26,g27,g28,g29,g30,g31,g32,g33,g34,g35,g36,g37,g38,g39] M K = K #[.agg #[.slice Ax0_0 lx0_0 cx0_0, .int .i64 x0_1],g1,.agg #[.slice Ax2_0 lx2_0 cx2_0, .int .i64 x2_1],g3,.pointer (some ⟨2 * M.nb.size, 0, none⟩),g5,.pointer (some ⟨2 * (M.new (.cells #[.slice Ax0_0 lx0_0 cx0_0, .int .i64 x0_1] 24)).nb.size, 0, none⟩),g7,.bool false,g9,g10,g11,g12,g13,g14,g15,g16,g17,g18,g19,g20,g21,g22,g23,g24,g25,g26,g27,g28,g29,g30,g31,g32,g33,g34,g35,g36,g37,g38,g39] ((M.new (.cells #[.slice Ax0_0 lx0_0 cx0_0, .int .i64 x0_1] 24)).new (.cells #[.slice Ax2_0 lx2_0 cx2_0, .int .i64 x2_1] 24)) := by kernel_rfl
theorem k15_2 : P15 [1] = .seq (P15 [1,0]) (P15 [1,1]) := by kernel_rfl
theorem k15_3 : P15 [1,0] = .region 1 (O15 [1,0]) false := by kernel_rfl
theorem r15_1 {x1 x3 : Int} {x4 x6 : Option Addr} {M : Mem} {call : CallM} {K : Array Value → Mem → R} :
    opsK Try.prog (fun _ => call) (O15 [1,0]) (O15 [1,0]).toList 0 #[g0,.int .i64 x1,g2,.int .i64 x3,.pointer x4,g5,.pointer x6,g7,g8,g9,g10,g11,g12,g13,g14,g15,g16,g17,g18,g19,g20,g21,g22,g23,g24,g25,g26,g27,g28,g29,g30,g31,g32,g33,g34,g35,g36,g37,g38,g39] M K = withK (fun w9 w16 w17 w18 w19 w20 M => K #[g0,.int .i64 x1,g2,.int .i64 x3,.pointer x4,g5,.pointer x6,g7,g8,w9,g10,g11,g12,.int .i64 x1,.int .i64 x3,.bool (x1 == x3),w16,w17,w18,w19,w20,g21,g22,g23,g24,g25,g26,g27,g28,g29,g30,g31,g32,g33,g34,g35,g36,g37,g38,g39] M) fun k => cond (x1 == x3) ((x4).bind fun a_1 => (M.slAt a_1.block a_1.off).bind fun s_2 => (M.intAt .i64 a_1.block (a_1.off + 1)).bind fun x_3 => (x6).bind fun a_4 => (M.slAt a_4.block a_4.off).bind fun s_5 => (M.intAt .i64 a_4.block (a_4.off + 1)).bind fun x_6 => (call 13 #[.agg #[.slice s_2.1 (s_2.2.1) (s_2.2.2), .int .i64 x_3], .agg #[.slice s_5.1 (s_5.2.1) (s_5.2.2), .int .i64 x_6]] M).bind fun r_7 => (asB r_7.1).bind fun b_8 => k (.bool b_8) (.bool true) (.agg #[.slice s_2.1 (s_2.2.1) (s_2.2.2), .int .i64 x_3]) (.agg #[.slice s_5.1 (s_5.2.1) (s_5.2.2), .int .i64 x_6]) (.bool b_8) (.bool b_8) r_7.2) (k (.bool false) (.bool false) undef undef undef (.bool false) M) := by kernel_rfl
theorem k15_4 : P15 [1,1] = .seq (P15 [1,1,0]) (P15 [1,1,1]) := by kernel_rfl
theorem k15_5 : P15 [1,1,0] = .region 2 (O15 [1,1,0]) false := by kernel_rfl
theorem r15_2 {x4 : Option Addr} {M : Mem} {call : CallM} {K : Array Value → Mem → R} :
    opsK Try.prog (fun _ => call) (O15 [1,1,0]) (O15 [1,1,0]).toList 0 #[g0,g1,g2,g3,.pointer x4,g5,g6,g7,g8,g9,g10,g11,g12,g13,g14,g15,g16,g17,g18,g19,g20,g21,g22,g23,g24,g25,g26,g27,g28,g29,g30,g31,g32,g33,g34,g35,g36,g37,g38,g39] M K = (x4).bind fun a_1 => (M.slAt a_1.block a_1.off).bind fun s_2 => K #[g0,g1,g2,g3,.pointer x4,g5,g6,g7,g8,g9,.slice s_2.1 (s_2.2.1) (s_2.2.2),g11,g12,g13,g14,g15,g16,g17,g18,g19,g20,.pointer (some ⟨a_1.block, a_1.off, none⟩),.slice s_2.1 (s_2.2.1) (s_2.2.2),g23,g24,g25,g26,g27,g28,g29,g30,g31,g32,g33,g34,g35,g36,g37,g38,g39] M := by kernel_rfl
theorem k15_6 : P15 [1,1,1] = .seq (P15 [1,1,1,0]) (P15 [1,1,1,1]) := by kernel_rfl
theorem k15_7 : P15 [1,1,1,0] = .seq (P15 [1,1,1,0,0]) (P15 [1,1,1,0,1]) := by kernel_rfl
theorem k15_8 : P15 [1,1,1,0,0] = .region 3 (O15 [1,1,1,0,0]) false := by kernel_rfl
theorem r15_3 {M : Mem} {call : CallM} {K : Array Value → Mem → R} :
    opsK Try.prog (fun _ => call) (O15 [1,1,1,0,0]) (O15 [1,1,1,0,0]).toList 0 #[g0,g1,g2,g3,g4,g5,g6,g7,g8,g9,g10,g11,g12,g13,g14,g15,g16,g17,g18,g19,g20,g21,g22,g23,g24,g25,g26,g27,g28,g29,g30,g31,g32,g33,g34,g35,g36,g37,g38,g39] M K = K #[g0,g1,g2,g3,g4,g5,g6,g7,g8,g9,g10,.int .i64 0,g12,g13,g14,g15,g16,g17,g18,g19,g20,g21,g22,g23,g24,g25,g26,g27,g28,g29,g30,g31,g32,g33,g34,g35,g36,g37,g38,g39] M := by kernel_rfl
theorem k15_9 : P15 [1,1,1,0,1] = .block 0 (P15 [1,1,1,0,1,0]) := by kernel_rfl
theorem k15_10 : P15 [1,1,1,0,1,0] = .loop (P15 [1,1,1,0,1,0,0]) := by kernel_rfl
theorem k15_11 : P15 [1,1,1,0,1,0,0] = .seq (P15 [1,1,1,0,1,0,0,0]) (P15 [1,1,1,0,1,0,0,1]) := by kernel_rfl
theorem k15_12 : P15 [1,1,1,0,1,0,0,0] = .seq (P15 [1,1,1,0,1,0,0,0,0]) (P15 [1,1,1,0,1,0,0,0,1]) := by kernel_rfl
theorem k15_13 : P15 [1,1,1,0,1,0,0,0,0] = .region 4 (O15 [1,1,1,0,1,0,0,0,0]) false := by kernel_rfl
theorem r15_4 {Ax10 : Option Addr} {lx10 cx10 : Nat} {x11 : Int} {M : Mem} {call : CallM} {K : Array Value → Mem → R} :
    opsK Try.prog (fun _ => call) (O15 [1,1,1,0,1,0,0,0,0]) (O15 [1,1,1,0,1,0,0,0,0]).toList 0 #[g0,g1,g2,g3,g4,g5,g6,g7,g8,g9,.slice Ax10 lx10 cx10,.int .i64 x11,g12,g13,g14,g15,g16,g17,g18,g19,g20,g21,g22,g23,g24,g25,g26,g27,g28,g29,g30,g31,g32,g33,g34,g35,g36,g37,g38,g39] M K = K #[g0,g1,g2,g3,g4,g5,g6,g7,g8,g9,.slice Ax10 lx10 cx10,.int .i64 x11,g12,g13,g14,g15,g16,g17,g18,g19,g20,g21,g22,.int .i64 x11,.slice Ax10 lx10 cx10,.int .i64 ((lx10 : Int)),.bool (decide (x11 < ((lx10 : Int)))),g27,g28,g29,g30,g31,g32,g33,g34,g35,g36,g37,g38,g39] M := by kernel_rfl
theorem c15_14 : P15 [1,1,1,0,1,0,0,0,1] = .cond (.tmp 26) (P15 [1,1,1,0,1,0,0,0,1,0]) (P15 [1,1,1,0,1,0,0,0,1,1]) := by kernel_rfl
theorem k15_15 : P15 [1,1,1,0,1,0,0,0,1,0] = .skip := by kernel_rfl
theorem k15_16 : P15 [1,1,1,0,1,0,0,1] = .seq (P15 [1,1,1,0,1,0,0,1,0]) (P15 [1,1,1,0,1,0,0,1,1]) := by kernel_rfl
theorem k15_17 : P15 [1,1,1,0,1,0,0,1,0] = .block 1 (P15 [1,1,1,0,1,0,0,1,0,0]) := by kernel_rfl
theorem k15_18 : P15 [1,1,1,0,1,0,0,1,0,0] = .region 6 (O15 [1,1,1,0,1,0,0,1,0,0]) false := by kernel_rfl
theorem r15_6 {Ax10 : Option Addr} {lx10 cx10 : Nat} {x11 : Int} {M : Mem} {call : CallM} {K : Array Value → Mem → R} :
    opsK Try.prog (fun _ => call) (O15 [1,1,1,0,1,0,0,1,0,0]) (O15 [1,1,1,0,1,0,0,1,0,0]).toList 0 #[g0,g1,g2,g3,g4,g5,g6,g7,g8,g9,.slice Ax10 lx10 cx10,.int .i64 x11,g12,g13,g14,g15,g16,g17,g18,g19,g20,g21,g22,g23,g24,g25,g26,g27,g28,g29,g30,g31,g32,g33,g34,g35,g36,g37,g38,g39] M K = (idxA Ax10 lx10 1 x11).bind fun a_1 => (M.put a_1.block a_1.off (.int .u16 1)).bind fun M_2 => K #[g0,g1,g2,g3,g4,g5,g6,g7,g8,g9,.slice Ax10 lx10 cx10,.int .i64 x11,g12,g13,g14,g15,g16,g17,g18,g19,g20,g21,g22,g23,g24,g25,g26,g27,g28,.slice Ax10 lx10 cx10,.int .i64 x11,.pointer (some a_1),g32,g33,g34,g35,g36,g37,g38,g39] M_2 := by kernel_rfl
theorem k15_19 : P15 [1,1,1,0,1,0,0,1,1] = .region 5 (O15 [1,1,1,0,1,0,0,1,1]) false := by kernel_rfl
theorem r15_5 {x11 : Int} {M : Mem} {call : CallM} {K : Array Value → Mem → R} :
    opsK Try.prog (fun _ => call) (O15 [1,1,1,0,1,0,0,1,1]) (O15 [1,1,1,0,1,0,0,1,1]).toList 0 #[g0,g1,g2,g3,g4,g5,g6,g7,g8,g9,g10,.int .i64 x11,g12,g13,g14,g15,g16,g17,g18,g19,g20,g21,g22,g23,g24,g25,g26,g27,g28,g29,g30,g31,g32,g33,g34,g35,g36,g37,g38,g39] M K = K #[g0,g1,g2,g3,g4,g5,g6,g7,g8,g9,g10,.int .i64 (IntKind.i64.wrap (x11 + 1)),g12,g13,g14,g15,g16,g17,g18,g19,g20,g21,g22,g23,g24,g25,g26,.int .i64 x11,.int .i64 (IntKind.i64.wrap (x11 + 1)),g29,g30,g31,g32,g33,g34,g35,g36,g37,g38,g39] M := by kernel_rfl
theorem k15_20 : P15 [1,1,1,0,1,0,0,0,1,1] = .exit 0 := by kernel_rfl
theorem k15_21 : P15 [1,1,1,1] = .seq (P15 [1,1,1,1,0]) (P15 [1,1,1,1,1]) := by kernel_rfl
theorem k15_22 : P15 [1,1,1,1,0] = .seq (P15 [1,1,1,1,0,0]) (P15 [1,1,1,1,0,1]) := by kernel_rfl
theorem k15_23 : P15 [1,1,1,1,0,0] = .region 7 (O15 [1,1,1,1,0,0]) false := by kernel_rfl
theorem r15_7 {M : Mem} {call : CallM} {K : Array Value → Mem → R} :
    opsK Try.prog (fun _ => call) (O15 [1,1,1,1,0,0]) (O15 [1,1,1,1,0,0]).toList 0 #[g0,g1,g2,g3,g4,g5,g6,g7,g8,g9,g10,g11,g12,g13,g14,g15,g16,g17,g18,g19,g20,g21,g22,g23,g24,g25,g26,g27,g28,g29,g30,g31,g32,g33,g34,g35,g36,g37,g38,g39] M K = K #[g0,g1,g2,g3,g4,g5,g6,g7,g8,g9,g10,g11,.int .i64 0,g13,g14,g15,g16,g17,g18,g19,g20,g21,g22,g23,g24,g25,g26,g27,g28,g29,g30,g31,g32,g33,g34,g35,g36,g37,g38,g39] M := by kernel_rfl
theorem k15_24 : P15 [1,1,1,1,0,1] = .block 2 (P15 [1,1,1,1,0,1,0]) := by kernel_rfl
theorem k15_25 : P15 [1,1,1,1,0,1,0] = .loop (P15 [1,1,1,1,0,1,0,0]) := by kernel_rfl
theorem k15_26 : P15 [1,1,1,1,0,1,0,0] = .seq (P15 [1,1,1,1,0,1,0,0,0]) (P15 [1,1,1,1,0,1,0,0,1]) := by kernel_rfl
theorem k15_27 : P15 [1,1,1,1,0,1,0,0,0] = .seq (P15 [1,1,1,1,0,1,0,0,0,0]) (P15 [1,1,1,1,0,1,0,0,0,1]) := by kernel_rfl
theorem k15_28 : P15 [1,1,1,1,0,1,0,0,0,0] = .region 8 (O15 [1,1,1,1,0,1,0,0,0,0]) false := by kernel_rfl
theorem r15_8 {x12 : Int} {M : Mem} {call : CallM} {K : Array Value → Mem → R} :
    opsK Try.prog (fun _ => call) (O15 [1,1,1,1,0,1,0,0,0,0]) (O15 [1,1,1,1,0,1,0,0,0,0]).toList 0 #[g0,g1,g2,g3,g4,g5,g6,g7,g8,g9,g10,g11,.int .i64 x12,g13,g14,g15,g16,g17,g18,g19,g20,g21,g22,g23,g24,g25,g26,g27,g28,g29,g30,g31,g32,g33,g34,g35,g36,g37,g38,g39] M K = K #[g0,g1,g2,g3,g4,g5,g6,g7,g8,g9,g10,g11,.int .i64 x12,g13,g14,g15,g16,g17,g18,g19,g20,g21,g22,g23,g24,g25,g26,g27,g28,g29,g30,g31,.int .i64 x12,.bool (decide (x12 < 4)),g34,g35,g36,g37,g38,g39] M := by kernel_rfl
theorem c15_29 : P15 [1,1,1,1,0,1,0,0,0,1] = .cond (.tmp 33) (P15 [1,1,1,1,0,1,0,0,0,1,0]) (P15 [1,1,1,1,0,1,0,0,0,1,1]) := by kernel_rfl
theorem k15_30 : P15 [1,1,1,1,0,1,0,0,0,1,0] = .skip := by kernel_rfl
theorem k15_31 : P15 [1,1,1,1,0,1,0,0,1] = .seq (P15 [1,1,1,1,0,1,0,0,1,0]) (P15 [1,1,1,1,0,1,0,0,1,1]) := by kernel_rfl
theorem k15_32 : P15 [1,1,1,1,0,1,0,0,1,0] = .block 3 (P15 [1,1,1,1,0,1,0,0,1,0,0]) := by kernel_rfl
theorem k15_33 : P15 [1,1,1,1,0,1,0,0,1,0,0] = .region 10 (O15 [1,1,1,1,0,1,0,0,1,0,0]) false := by kernel_rfl
theorem r15_10 {Ax10 : Option Addr} {lx10 cx10 : Nat} {M : Mem} {call : CallM} {K : Array Value → Mem → R} :
    opsK Try.prog (fun _ => call) (O15 [1,1,1,1,0,1,0,0,1,0,0]) (O15 [1,1,1,1,0,1,0,0,1,0,0]).toList 0 #[g0,g1,g2,g3,g4,g5,g6,g7,g8,g9,.slice Ax10 lx10 cx10,g11,g12,g13,g14,g15,g16,g17,g18,g19,g20,g21,g22,g23,g24,g25,g26,g27,g28,g29,g30,g31,g32,g33,g34,g35,g36,g37,g38,g39] M K = (appendP Try.prog #[22, 22] (.slice Ax10 lx10 cx10) (.slice (some ⟨2 * M.nb.size, 0, none⟩) 1 1) (M.new (.cells #[.int .u16 2] 47))).bind fun r_1 => (asS r_1.1).bind fun s_2 => K #[g0,g1,g2,g3,g4,g5,g6,g7,g8,g9,.slice s_2.1 (s_2.2.1) (s_2.2.2),g11,g12,g13,g14,g15,g16,g17,g18,g19,g20,g21,g22,g23,g24,g25,g26,g27,g28,g29,g30,g31,g32,g33,g34,g35,.slice Ax10 lx10 cx10,.slice (some ⟨2 * M.nb.size, 0, none⟩) 1 1,.slice s_2.1 (s_2.2.1) (s_2.2.2),g39] r_1.2 := by kernel_rfl
theorem k15_34 : P15 [1,1,1,1,0,1,0,0,1,1] = .region 9 (O15 [1,1,1,1,0,1,0,0,1,1]) false := by kernel_rfl
theorem r15_9 {x12 : Int} {M : Mem} {call : CallM} {K : Array Value → Mem → R} :
    opsK Try.prog (fun _ => call) (O15 [1,1,1,1,0,1,0,0,1,1]) (O15 [1,1,1,1,0,1,0,0,1,1]).toList 0 #[g0,g1,g2,g3,g4,g5,g6,g7,g8,g9,g10,g11,.int .i64 x12,g13,g14,g15,g16,g17,g18,g19,g20,g21,g22,g23,g24,g25,g26,g27,g28,g29,g30,g31,g32,g33,g34,g35,g36,g37,g38,g39] M K = K #[g0,g1,g2,g3,g4,g5,g6,g7,g8,g9,g10,g11,.int .i64 (IntKind.i64.wrap (x12 + 1)),g13,g14,g15,g16,g17,g18,g19,g20,g21,g22,g23,g24,g25,g26,g27,g28,g29,g30,g31,g32,g33,.int .i64 x12,.int .i64 (IntKind.i64.wrap (x12 + 1)),g36,g37,g38,g39] M := by kernel_rfl
theorem k15_35 : P15 [1,1,1,1,0,1,0,0,0,1,1] = .exit 2 := by kernel_rfl
theorem k15_36 : P15 [1,1,1,1,1] = .seq (P15 [1,1,1,1,1,0]) (P15 [1,1,1,1,1,1]) := by kernel_rfl
theorem k15_37 : P15 [1,1,1,1,1,0] = .region 11 (O15 [1,1,1,1,1,0]) false := by kernel_rfl
theorem r15_11 {x9 : Bool} {M : Mem} {call : CallM} {K : Array Value → Mem → R} :
    opsK Try.prog (fun _ => call) (O15 [1,1,1,1,1,0]) (O15 [1,1,1,1,1,0]).toList 0 #[g0,g1,g2,g3,g4,g5,g6,g7,g8,.bool x9,g10,g11,g12,g13,g14,g15,g16,g17,g18,g19,g20,g21,g22,g23,g24,g25,g26,g27,g28,g29,g30,g31,g32,g33,g34,g35,g36,g37,g38,g39] M K = K #[g0,g1,g2,g3,g4,g5,g6,g7,.bool x9,.bool x9,g10,g11,g12,g13,g14,g15,g16,g17,g18,g19,g20,g21,g22,g23,g24,g25,g26,g27,g28,g29,g30,g31,g32,g33,g34,g35,g36,g37,g38,.bool x9] M := by kernel_rfl
theorem k15_38 : P15 [1,1,1,1,1,1] = .ret := by kernel_rfl
theorem e15 {M : Mem} : finish Try.prog Try.f15 #[g0,g1,g2,g3,g4,g5,g6,g7,g8,g9,g10,g11,g12,g13,g14,g15,g16,g17,g18,g19,g20,g21,g22,g23,g24,g25,g26,g27,g28,g29,g30,g31,g32,g33,g34,g35,g36,g37,g38,g39] M = some (g8, M) := by kernel_rfl
noncomputable def S15_1 : List Item := [.code (P15 [1,1])]
def A15_1 (x4 : Option Addr) (x9 : Bool) (M : Mem) (Q : Value → Mem → Prop) : Prop := ∀ (g0 g1 g2 g3 g5 g6 g7 g8 g10 g11 g12 g13 g14 g15 g16 g17 g18 g19 g20 g21 g22 g23 g24 g25 g26 g27 g28 g29 g30 g31 g32 g33 g34 g35 g36 g37 g38 g39 : Value), Rn Try.prog Try.f15 S15_1 #[g0, g1, g2, g3, .pointer x4, g5, g6, g7, g8, .bool x9, g10, g11, g12, g13, g14, g15, g16, g17, g18, g19, g20, g21, g22, g23, g24, g25, g26, g27, g28, g29, g30, g31, g32, g33, g34, g35, g36, g37, g38, g39] M Q
noncomputable def S15_2 : List Item := [.code (P15 [1,1,1,0,1,0,0]), .inLoop (P15 [1,1,1,0,1,0,0]), .inBlock 0, .code (P15 [1,1,1,1])]
def A15_2 (x9 : Bool) (Ax10 : Option Addr) (lx10 cx10 : Nat) (x11 : Int) (M : Mem) (Q : Value → Mem → Prop) : Prop := ∀ (g0 g1 g2 g3 g4 g5 g6 g7 g8 g12 g13 g14 g15 g16 g17 g18 g19 g20 g21 g22 g23 g24 g25 g26 g27 g28 g29 g30 g31 g32 g33 g34 g35 g36 g37 g38 g39 : Value), Rn Try.prog Try.f15 S15_2 #[g0, g1, g2, g3, g4, g5, g6, g7, g8, .bool x9, .slice Ax10 lx10 cx10, .int .i64 x11, g12, g13, g14, g15, g16, g17, g18, g19, g20, g21, g22, g23, g24, g25, g26, g27, g28, g29, g30, g31, g32, g33, g34, g35, g36, g37, g38, g39] M Q
noncomputable def S15_3 : List Item := [.code (P15 [1,1,1,1,0,1,0,0]), .inLoop (P15 [1,1,1,1,0,1,0,0]), .inBlock 2, .code (P15 [1,1,1,1,1])]
def A15_3 (x9 : Bool) (Ax10 : Option Addr) (lx10 cx10 : Nat) (x12 : Int) (M : Mem) (Q : Value → Mem → Prop) : Prop := ∀ (g0 g1 g2 g3 g4 g5 g6 g7 g8 g11 g13 g14 g15 g16 g17 g18 g19 g20 g21 g22 g23 g24 g25 g26 g27 g28 g29 g30 g31 g32 g33 g34 g35 g36 g37 g38 g39 : Value), Rn Try.prog Try.f15 S15_3 #[g0, g1, g2, g3, g4, g5, g6, g7, g8, .bool x9, .slice Ax10 lx10 cx10, g11, .int .i64 x12, g13, g14, g15, g16, g17, g18, g19, g20, g21, g22, g23, g24, g25, g26, g27, g28, g29, g30, g31, g32, g33, g34, g35, g36, g37, g38, g39] M Q
theorem w15_0 {Ax0_0 : Option Addr} {lx0_0 cx0_0 : Nat} {x0_1 x1 : Int} {Ax2_0 : Option Addr} {lx2_0 cx2_0 : Nat} {x2_1 x3 : Int} {M : Mem} {Q : Value → Mem → Prop} (H :
    ((x1 = x3 →
     ∃ s1', ((M.new (.cells #[.slice Ax0_0 lx0_0 cx0_0, .int .i64 x0_1] 24)).new (.cells #[.slice Ax2_0 lx2_0 cx2_0, .int .i64 x2_1] 24)).slAt (2 * M.nb.size) 0 = some s1' ∧
     ∃ x2', ((M.new (.cells #[.slice Ax0_0 lx0_0 cx0_0, .int .i64 x0_1] 24)).new (.cells #[.slice Ax2_0 lx2_0 cx2_0, .int .i64 x2_1] 24)).intAt .i64 (2 * M.nb.size) (0 + 1) = some x2' ∧
     ∃ s3', ((M.new (.cells #[.slice Ax0_0 lx0_0 cx0_0, .int .i64 x0_1] 24)).new (.cells #[.slice Ax2_0 lx2_0 cx2_0, .int .i64 x2_1] 24)).slAt (2 * (M.new (.cells #[.slice Ax0_0 lx0_0 cx0_0, .int .i64 x0_1] 24)).nb.size) 0 = some s3' ∧
     ∃ x4', ((M.new (.cells #[.slice Ax0_0 lx0_0 cx0_0, .int .i64 x0_1] 24)).new (.cells #[.slice Ax2_0 lx2_0 cx2_0, .int .i64 x2_1] 24)).intAt .i64 (2 * (M.new (.cells #[.slice Ax0_0 lx0_0 cx0_0, .int .i64 x0_1] 24)).nb.size) (0 + 1) = some x4' ∧
     Cn Try.prog 13 #[.agg #[.slice s1'.1 (s1'.2.1) (s1'.2.2), .int .i64 x2'], .agg #[.slice s3'.1 (s3'.2.1) (s3'.2.2), .int .i64 x4']] ((M.new (.cells #[.slice Ax0_0 lx0_0 cx0_0, .int .i64 x0_1] 24)).new (.cells #[.slice Ax2_0 lx2_0 cx2_0, .int .i64 x2_1] 24)) fun v5' N5' =>
      ∃ b6', asB v5' = some b6' ∧
      A15_1 (some ⟨2 * M.nb.size, 0, none⟩) b6' N5' Q) ∧
     (x1 ≠ x3 →
     A15_1 (some ⟨2 * M.nb.size, 0, none⟩) false ((M.new (.cells #[.slice Ax0_0 lx0_0 cx0_0, .int .i64 x0_1] 24)).new (.cells #[.slice Ax2_0 lx2_0 cx2_0, .int .i64 x2_1] 24)) Q))) :
    Cn Try.prog 15 #[.agg #[.slice Ax0_0 lx0_0 cx0_0, .int .i64 x0_1], .int .i64 x1, .agg #[.slice Ax2_0 lx2_0 cx2_0, .int .i64 x2_1], .int .i64 x3] M Q := by
  refine Cn.of b15 d15 t15 ?_
  refine Rn.seq k15_0 (Rn.region k15_1 (fun call K => r15_0) (Rch.leaf (Rn.seq k15_2 (Rn.region k15_3 (fun call K => r15_1) ?_))))
  refine Rch.cB (fun h => ?_) (fun h => ?_)
  · replace H := H.1 (eq_of_beq h)
    refine Rch.bind (x := ⟨2 * M.nb.size, 0, none⟩) rfl (Rch.ex H fun s1' H => Rch.ex H fun x2' H => Rch.bind (x := ⟨2 * (M.new (.cells #[.slice Ax0_0 lx0_0 cx0_0, .int .i64 x0_1] 24)).nb.size, 0, none⟩) rfl (Rch.ex H fun s3' H => Rch.ex H fun x4' H => Rch.call H fun v5' N5' H => Rch.ex H fun b6' H => Rch.leaf ?_))
    exact H _ _ _ _ _ _ _ _ _ _ _ _ _ _ _ _ _ _ _ _ _ _ _ _ _ _ _ _ _ _ _ _ _ _ _ _ _ _
  · replace H := H.2 (ne_of_beq_false h)
    refine Rch.leaf ?_
    exact H _ _ _ _ _ _ _ _ _ _ _ _ _ _ _ _ _ _ _ _ _ _ _ _ _ _ _ _ _ _ _ _ _ _ _ _ _ _

theorem w15_1 {x4 : Option Addr} {x9 : Bool} {M : Mem} {Q : Value → Mem → Prop} (H :
    ∃ a7', x4 = some a7' ∧
    ∃ s8', M.slAt a7'.block a7'.off = some s8' ∧
    A15_2 x9 s8'.1 s8'.2.1 s8'.2.2 0 M Q) :
    A15_1 x4 x9 M Q := by
  intro g0 g1 g2 g3 g5 g6 g7 g8 g10 g11 g12 g13 g14 g15 g16 g17 g18 g19 g20 g21 g22 g23 g24 g25 g26 g27 g28 g29 g30 g31 g32 g33 g34 g35 g36 g37 g38 g39
  refine Rn.seq k15_4 (Rn.region k15_5 (fun call K => r15_2) (Rch.ex H fun a7' H => Rch.ex H fun s8' H => Rch.leaf (Rn.seq k15_6 (Rn.seq k15_7 (Rn.region k15_8 (fun call K => r15_3) (Rch.leaf (Rn.block k15_9 (Rn.loop k15_10 ?_))))))))
  exact H _ _ _ _ _ _ _ _ _ _ _ _ _ _ _ _ _ _ _ _ _ _ _ _ _ _ _ _ _ _ _ _ _ _ _ _ _

theorem w15_2 {x9 : Bool} {Ax10 : Option Addr} {lx10 cx10 : Nat} {x11 : Int} {M : Mem} {Q : Value → Mem → Prop} (H :
    ((x11 < ((lx10 : Int)) →
     ∃ a9', idxA Ax10 lx10 1 x11 = some a9' ∧
     ∃ M10', M.put a9'.block a9'.off (.int .u16 1) = some M10' ∧
     A15_2 x9 Ax10 lx10 cx10 (IntKind.i64.wrap (x11 + 1)) M10' Q) ∧
     (¬ (x11 < ((lx10 : Int))) →
     A15_3 x9 Ax10 lx10 cx10 0 M Q))) :
    A15_2 x9 Ax10 lx10 cx10 x11 M Q := by
  intro g0 g1 g2 g3 g4 g5 g6 g7 g8 g12 g13 g14 g15 g16 g17 g18 g19 g20 g21 g22 g23 g24 g25 g26 g27 g28 g29 g30 g31 g32 g33 g34 g35 g36 g37 g38 g39
  refine Rn.seq k15_11 (Rn.seq k15_12 (Rn.region k15_13 (fun call K => r15_4) (Rch.leaf ?_)))
  refine Rn.cnd (v := decide (x11 < ((lx10 : Int)))) ⟨c15_14, rfl, by kernel_rfl⟩ (fun h => ?_) (fun h => ?_)
  · replace H := H.1 (of_decide_eq_true h)
    refine Rn.skip k15_15 (Rn.seq k15_16 (Rn.block k15_17 (Rn.region k15_18 (fun call K => r15_6) (Rch.ex H fun a9' H => Rch.ex H fun M10' H => Rch.leaf (Rn.blk (Rn.region k15_19 (fun call K => r15_5) (Rch.leaf (Rn.lp ?_))))))))
    exact H _ _ _ _ _ _ _ _ _ _ _ _ _ _ _ _ _ _ _ _ _ _ _ _ _ _ _ _ _ _ _ _ _ _ _ _ _
  · replace H := H.2 (of_decide_eq_false h)
    refine Rn.exit k15_20 rfl (Rn.seq k15_21 (Rn.seq k15_22 (Rn.region k15_23 (fun call K => r15_7) (Rch.leaf (Rn.block k15_24 (Rn.loop k15_25 ?_))))))
    exact H _ _ _ _ _ _ _ _ _ _ _ _ _ _ _ _ _ _ _ _ _ _ _ _ _ _ _ _ _ _ _ _ _ _ _ _ _

theorem w15_3 {x9 : Bool} {Ax10 : Option Addr} {lx10 cx10 : Nat} {x12 : Int} {M : Mem} {Q : Value → Mem → Prop} (H :
    ((x12 < 4 →
     ∃ r11', appendP Try.prog #[22, 22] (.slice Ax10 lx10 cx10) (.slice (some ⟨2 * M.nb.size, 0, none⟩) 1 1) (M.new (.cells #[.int .u16 2] 47)) = some r11' ∧
     ∃ s12', asS r11'.1 = some s12' ∧
     A15_3 x9 s12'.1 s12'.2.1 s12'.2.2 (IntKind.i64.wrap (x12 + 1)) r11'.2 Q) ∧
     (¬ (x12 < 4) →
     Q (.bool x9) M))) :
    A15_3 x9 Ax10 lx10 cx10 x12 M Q := by
  intro g0 g1 g2 g3 g4 g5 g6 g7 g8 g11 g13 g14 g15 g16 g17 g18 g19 g20 g21 g22 g23 g24 g25 g26 g27 g28 g29 g30 g31 g32 g33 g34 g35 g36 g37 g38 g39
  refine Rn.seq k15_26 (Rn.seq k15_27 (Rn.region k15_28 (fun call K => r15_8) (Rch.leaf ?_)))
  refine Rn.cnd (v := decide (x12 < 4)) ⟨c15_29, rfl, by kernel_rfl⟩ (fun h => ?_) (fun h => ?_)
  · replace H := H.1 (of_decide_eq_true h)
    refine Rn.skip k15_30 (Rn.seq k15_31 (Rn.block k15_32 (Rn.region k15_33 (fun call K => r15_10) (Rch.ex H fun r11' H => Rch.ex H fun s12' H => Rch.leaf (Rn.blk (Rn.region k15_34 (fun call K => r15_9) (Rch.leaf (Rn.lp ?_))))))))
    exact H _ _ _ _ _ _ _ _ _ _ _ _ _ _ _ _ _ _ _ _ _ _ _ _ _ _ _ _ _ _ _ _ _ _ _ _ _
  · replace H := H.2 (of_decide_eq_false h)
    refine Rn.exit k15_35 rfl (Rn.seq k15_36 (Rn.region k15_37 (fun call K => r15_11) (Rch.leaf ?_)))
    exact Rn.ret k15_38 e15 H


end Go.Zt
