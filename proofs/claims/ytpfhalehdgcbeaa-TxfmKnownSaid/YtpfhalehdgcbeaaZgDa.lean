/- The functions' walks: for each function and each loop a rule of what it comes to. Printed by zw.py. -/
import Derived.Test.YtpfhalehdgcbeaaProg
import Derived.Test.YtpfhalehdgcbeaaZgA
set_option linter.unusedVariables false
set_option maxRecDepth 100000
namespace Go.Zt
open Go Go.Sim Go.Proofs

variable {g0 g1 g2 g3 g4 g5 g6 g7 g8 g9 g10 g11 g12 g13 g14 g15 g16 g17 g18 g19 g20 g21 g22 g23 g24 g25 g26 g27 g28 g29 g30 g31 g32 g33 g34 g35 g36 g37 g38 g39 g40 g41 g42 g43 g44 g45 g46 g47 : Value}
/-! ### slices.Index[[]int,int]: function 63 -/
noncomputable abbrev P63 (p : List Nat) : Code := subC (codeOf Try.f63) p
noncomputable abbrev O63 (p : List Nat) : Array Oper := opsOf (subC (codeOf Try.f63) p)
theorem b63 : Try.prog.funcs[63]? = some Try.f63 ∧ (Orc.tab Try.prog).lookup 63 = none := ⟨by kernel_rfl, by kernel_rfl⟩
theorem d63 : Try.f63.body = some (P63 []) := by kernel_rfl
theorem t63 {Ax0 : Option Addr} {lx0 cx0 : Nat} {x1 : Int} : #[.slice Ax0 lx0 cx0,.int .i64 x1] ++ Array.replicate (Try.f63.ntmps - (#[.slice Ax0 lx0 cx0,.int .i64 x1] : Array Value).size) undef = #[.slice Ax0 lx0 cx0,.int .i64 x1,undef,undef,undef,undef,undef,undef,undef,undef,undef,undef,undef,undef,undef,undef,undef,undef,undef] := by kernel_rfl
theorem k63_0 : P63 [] = .seq (P63 [0]) (P63 [1]) := by kernel_rfl
theorem k63_1 : P63 [0] = .region 0 (O63 [0]) false := by kernel_rfl
theorem r63_0 {M : Mem} {call : CallM} {K : Array Value → Mem → R} :
    opsK Try.prog (fun _ => call) (O63 [0]) (O63 [0]).toList 0 #[g0,g1,g2,g3,g4,g5,g6,g7,g8,g9,g10,g11,g12,g13,g14,g15,g16,g17,g18] M K = K #[g0,g1,g2,g3,.int .i64 0,g5,g6,g7,g8,g9,g10,g11,g12,g13,g14,g15,g16,g17,g18] M := by kernel_rfl
theorem k63_2 : P63 [1] = .seq (P63 [1,0]) (P63 [1,1]) := by kernel_rfl
theorem k63_3 : P63 [1,0] = .seq (P63 [1,0,0]) (P63 [1,0,1]) := by kernel_rfl
theorem k63_4 : P63 [1,0,0] = .region 1 (O63 [1,0,0]) false := by kernel_rfl
theorem r63_1 {Ax0 : Option Addr} {lx0 cx0 : Nat} {M : Mem} {call : CallM} {K : Array Value → Mem → R} :
    opsK Try.prog (fun _ => call) (O63 [1,0,0]) (O63 [1,0,0]).toList 0 #[.slice Ax0 lx0 cx0,g1,g2,g3,g4,g5,g6,g7,g8,g9,g10,g11,g12,g13,g14,g15,g16,g17,g18] M K = K #[.slice Ax0 lx0 cx0,g1,g2,g3,g4,g5,.slice Ax0 lx0 cx0,.int .i64 ((lx0 : Int)),.int .i64 0,g9,g10,g11,g12,g13,g14,g15,g16,g17,g18] M := by kernel_rfl
theorem k63_5 : P63 [1,0,1] = .block 0 (P63 [1,0,1,0]) := by kernel_rfl
theorem k63_6 : P63 [1,0,1,0] = .loop (P63 [1,0,1,0,0]) := by kernel_rfl
theorem k63_7 : P63 [1,0,1,0,0] = .seq (P63 [1,0,1,0,0,0]) (P63 [1,0,1,0,0,1]) := by kernel_rfl
theorem k63_8 : P63 [1,0,1,0,0,0] = .region 2 (O63 [1,0,1,0,0,0]) false := by kernel_rfl
theorem r63_2 {x7 x8 : Int} {M : Mem} {call : CallM} {K : Array Value → Mem → R} :
    opsK Try.prog (fun _ => call) (O63 [1,0,1,0,0,0]) (O63 [1,0,1,0,0,0]).toList 0 #[g0,g1,g2,g3,g4,g5,g6,.int .i64 x7,.int .i64 x8,g9,g10,g11,g12,g13,g14,g15,g16,g17,g18] M K = K #[g0,g1,g2,g3,g4,g5,g6,.int .i64 x7,.int .i64 x8,.bool (decide (x8 < x7)),g10,g11,g12,g13,g14,g15,g16,g17,g18] M := by kernel_rfl
theorem k63_9 : P63 [1,0,1,0,0,1] = .seq (P63 [1,0,1,0,0,1,0]) (P63 [1,0,1,0,0,1,1]) := by kernel_rfl
theorem c63_10 : P63 [1,0,1,0,0,1,0] = .cond (.tmp 9) (P63 [1,0,1,0,0,1,0,0]) (P63 [1,0,1,0,0,1,0,1]) := by kernel_rfl
theorem k63_11 : P63 [1,0,1,0,0,1,0,0] = .skip := by kernel_rfl
theorem k63_12 : P63 [1,0,1,0,0,1,1] = .seq (P63 [1,0,1,0,0,1,1,0]) (P63 [1,0,1,0,0,1,1,1]) := by kernel_rfl
theorem k63_13 : P63 [1,0,1,0,0,1,1,0] = .block 1 (P63 [1,0,1,0,0,1,1,0,0]) := by kernel_rfl
theorem k63_14 : P63 [1,0,1,0,0,1,1,0,0] = .seq (P63 [1,0,1,0,0,1,1,0,0,0]) (P63 [1,0,1,0,0,1,1,0,0,1]) := by kernel_rfl
theorem k63_15 : P63 [1,0,1,0,0,1,1,0,0,0] = .region 3 (O63 [1,0,1,0,0,1,1,0,0,0]) false := by kernel_rfl
theorem r63_3 {x8 : Int} {M : Mem} {call : CallM} {K : Array Value → Mem → R} :
    opsK Try.prog (fun _ => call) (O63 [1,0,1,0,0,1,1,0,0,0]) (O63 [1,0,1,0,0,1,1,0,0,0]).toList 0 #[g0,g1,g2,g3,g4,g5,g6,g7,.int .i64 x8,g9,g10,g11,g12,g13,g14,g15,g16,g17,g18] M K = K #[g0,g1,g2,g3,g4,.int .i64 x8,g6,g7,.int .i64 x8,g9,.int .i64 x8,g11,g12,g13,g14,g15,g16,g17,g18] M := by kernel_rfl
theorem k63_16 : P63 [1,0,1,0,0,1,1,0,0,1] = .seq (P63 [1,0,1,0,0,1,1,0,0,1,0]) (P63 [1,0,1,0,0,1,1,0,0,1,1]) := by kernel_rfl
theorem k63_17 : P63 [1,0,1,0,0,1,1,0,0,1,0] = .region 4 (O63 [1,0,1,0,0,1,1,0,0,1,0]) false := by kernel_rfl
theorem r63_4 {Ax0 : Option Addr} {lx0 cx0 : Nat} {x1 x5 : Int} {M : Mem} {call : CallM} {K : Array Value → Mem → R} :
    opsK Try.prog (fun _ => call) (O63 [1,0,1,0,0,1,1,0,0,1,0]) (O63 [1,0,1,0,0,1,1,0,0,1,0]).toList 0 #[.slice Ax0 lx0 cx0,.int .i64 x1,g2,g3,g4,.int .i64 x5,g6,g7,g8,g9,g10,g11,g12,g13,g14,g15,g16,g17,g18] M K = (idxA Ax0 lx0 1 x5).bind fun a_1 => (M.intAt .i64 a_1.block a_1.off).bind fun x_2 => K #[.slice Ax0 lx0 cx0,.int .i64 x1,g2,g3,g4,.int .i64 x5,g6,g7,g8,g9,g10,.int .i64 x1,.slice Ax0 lx0 cx0,.int .i64 x5,.pointer (some a_1),.int .i64 x_2,.bool (x1 == x_2),g17,g18] M := by kernel_rfl
theorem c63_18 : P63 [1,0,1,0,0,1,1,0,0,1,1] = .cond (.tmp 16) (P63 [1,0,1,0,0,1,1,0,0,1,1,0]) (P63 [1,0,1,0,0,1,1,0,0,1,1,1]) := by kernel_rfl
theorem k63_19 : P63 [1,0,1,0,0,1,1,0,0,1,1,0] = .seq (P63 [1,0,1,0,0,1,1,0,0,1,1,0,0]) (P63 [1,0,1,0,0,1,1,0,0,1,1,0,1]) := by kernel_rfl
theorem k63_20 : P63 [1,0,1,0,0,1,1,0,0,1,1,0,0] = .region 5 (O63 [1,0,1,0,0,1,1,0,0,1,1,0,0]) false := by kernel_rfl
theorem r63_5 {x5 : Int} {M : Mem} {call : CallM} {K : Array Value → Mem → R} :
    opsK Try.prog (fun _ => call) (O63 [1,0,1,0,0,1,1,0,0,1,1,0,0]) (O63 [1,0,1,0,0,1,1,0,0,1,1,0,0]).toList 0 #[g0,g1,g2,g3,g4,.int .i64 x5,g6,g7,g8,g9,g10,g11,g12,g13,g14,g15,g16,g17,g18] M K = K #[g0,g1,g2,g3,.int .i64 x5,.int .i64 x5,g6,g7,g8,g9,g10,g11,g12,g13,g14,g15,g16,.int .i64 x5,g18] M := by kernel_rfl
theorem k63_21 : P63 [1,0,1,0,0,1,1,0,0,1,1,0,1] = .ret := by kernel_rfl
theorem e63 {M : Mem} : finish Try.prog Try.f63 #[g0,g1,g2,g3,g4,g5,g6,g7,g8,g9,g10,g11,g12,g13,g14,g15,g16,g17,g18] M = some (g4, M) := by kernel_rfl
theorem k63_23 : P63 [1,0,1,0,0,1,1,0,0,1,1,1] = .skip := by kernel_rfl
theorem k63_24 : P63 [1,0,1,0,0,1,1,1] = .region 6 (O63 [1,0,1,0,0,1,1,1]) false := by kernel_rfl
theorem r63_6 {x8 : Int} {M : Mem} {call : CallM} {K : Array Value → Mem → R} :
    opsK Try.prog (fun _ => call) (O63 [1,0,1,0,0,1,1,1]) (O63 [1,0,1,0,0,1,1,1]).toList 0 #[g0,g1,g2,g3,g4,g5,g6,g7,.int .i64 x8,g9,g10,g11,g12,g13,g14,g15,g16,g17,g18] M K = K #[g0,g1,g2,g3,g4,g5,g6,g7,.int .i64 (IntKind.i64.wrap (x8 + 1)),g9,g10,g11,g12,g13,g14,g15,g16,g17,.int .i64 (IntKind.i64.wrap (x8 + 1))] M := by kernel_rfl
theorem k63_25 : P63 [1,0,1,0,0,1,0,1] = .exit 0 := by kernel_rfl
theorem k63_26 : P63 [1,1] = .seq (P63 [1,1,0]) (P63 [1,1,1]) := by kernel_rfl
theorem k63_27 : P63 [1,1,0] = .region 7 (O63 [1,1,0]) false := by kernel_rfl
theorem r63_7 {M : Mem} {call : CallM} {K : Array Value → Mem → R} :
    opsK Try.prog (fun _ => call) (O63 [1,1,0]) (O63 [1,1,0]).toList 0 #[g0,g1,g2,g3,g4,g5,g6,g7,g8,g9,g10,g11,g12,g13,g14,g15,g16,g17,g18] M K = K #[g0,g1,g2,g3,.int .i64 (-1),g5,g6,g7,g8,g9,g10,g11,g12,g13,g14,g15,g16,g17,g18] M := by kernel_rfl
theorem k63_28 : P63 [1,1,1] = .ret := by kernel_rfl
noncomputable def S63_1 : List Item := [.code (P63 [1,0,1,0,0]), .inLoop (P63 [1,0,1,0,0]), .inBlock 0, .code (P63 [1,1])]
def A63_1 (Ax0 : Option Addr) (lx0 cx0 : Nat) (x1 x7 x8 : Int) (M : Mem) (Q : Value → Mem → Prop) : Prop := ∀ (g2 g3 g4 g5 g6 g9 g10 g11 g12 g13 g14 g15 g16 g17 g18 : Value), Rn Try.prog Try.f63 S63_1 #[.slice Ax0 lx0 cx0, .int .i64 x1, g2, g3, g4, g5, g6, .int .i64 x7, .int .i64 x8, g9, g10, g11, g12, g13, g14, g15, g16, g17, g18] M Q
theorem w63_0 {Ax0 : Option Addr} {lx0 cx0 : Nat} {x1 : Int} {M : Mem} {Q : Value → Mem → Prop} (H :
    A63_1 Ax0 lx0 cx0 x1 (lx0 : Int) 0 M Q) :
    Cn Try.prog 63 #[.slice Ax0 lx0 cx0, .int .i64 x1] M Q := by
  refine Cn.of b63 d63 t63 ?_
  refine Rn.seq k63_0 (Rn.region k63_1 (fun call K => r63_0) (Rch.leaf (Rn.seq k63_2 (Rn.seq k63_3 (Rn.region k63_4 (fun call K => r63_1) (Rch.leaf (Rn.block k63_5 (Rn.loop k63_6 ?_))))))))
  exact H _ _ _ _ _ _ _ _ _ _ _ _ _ _ _

theorem w63_1 {Ax0 : Option Addr} {lx0 cx0 : Nat} {x1 x7 x8 : Int} {M : Mem} {Q : Value → Mem → Prop} (H :
    ((x8 < x7 →
     ∃ a1', idxA Ax0 lx0 1 x8 = some a1' ∧
     ∃ x2', M.intAt .i64 a1'.block a1'.off = some x2' ∧
     ((x1 = x2' →
      Q (.int .i64 x8) M) ∧
      (x1 ≠ x2' →
      A63_1 Ax0 lx0 cx0 x1 x7 (IntKind.i64.wrap (x8 + 1)) M Q))) ∧
     (¬ (x8 < x7) →
     Q (.int .i64 (-1)) M))) :
    A63_1 Ax0 lx0 cx0 x1 x7 x8 M Q := by
  intro g2 g3 g4 g5 g6 g9 g10 g11 g12 g13 g14 g15 g16 g17 g18
  refine Rn.seq k63_7 (Rn.region k63_8 (fun call K => r63_2) (Rch.leaf (Rn.seq k63_9 ?_)))
  refine Rn.cnd (v := decide (x8 < x7)) ⟨c63_10, rfl, by kernel_rfl⟩ (fun h => ?_) (fun h => ?_)
  · replace H := H.1 (of_decide_eq_true h)
    refine Rn.skip k63_11 (Rn.seq k63_12 (Rn.block k63_13 (Rn.seq k63_14 (Rn.region k63_15 (fun call K => r63_3) (Rch.leaf (Rn.seq k63_16 (Rn.region k63_17 (fun call K => r63_4) (Rch.ex H fun a1' H => Rch.ex H fun x2' H => Rch.leaf ?_))))))))
    refine Rn.cnd (v := x1 == x2') ⟨c63_18, rfl, by kernel_rfl⟩ (fun h => ?_) (fun h => ?_)
    · replace H := H.1 (eq_of_beq h)
      refine Rn.seq k63_19 (Rn.region k63_20 (fun call K => r63_5) (Rch.leaf ?_))
      exact Rn.ret k63_21 e63 H
    · replace H := H.2 (ne_of_beq_false h)
      refine Rn.skip k63_23 (Rn.blk (Rn.region k63_24 (fun call K => r63_6) (Rch.leaf (Rn.lp ?_))))
      exact H _ _ _ _ _ _ _ _ _ _ _ _ _ _ _
  · replace H := H.2 (of_decide_eq_false h)
    refine Rn.exit k63_25 rfl (Rn.seq k63_26 (Rn.region k63_27 (fun call K => r63_7) (Rch.leaf ?_)))
    exact Rn.ret k63_28 e63 H


/-! ### slices.Contains[[]int,int]: function 49 -/
noncomputable abbrev P49 (p : List Nat) : Code := subC (codeOf Try.f49) p
noncomputable abbrev O49 (p : List Nat) : Array Oper := opsOf (subC (codeOf Try.f49) p)
theorem b49 : Try.prog.funcs[49]? = some Try.f49 ∧ (Orc.tab Try.prog).lookup 49 = none := ⟨by kernel_rfl, by kernel_rfl⟩
theorem d49 : Try.f49.body = some (P49 []) := by kernel_rfl
theorem t49 {Ax0 : Option Addr} {lx0 cx0 : Nat} {x1 : Int} : #[.slice Ax0 lx0 cx0,.int .i64 x1] ++ Array.replicate (Try.f49.ntmps - (#[.slice Ax0 lx0 cx0,.int .i64 x1] : Array Value).size) undef = #[.slice Ax0 lx0 cx0,.int .i64 x1,undef,undef,undef,undef,undef,undef,undef] := by kernel_rfl
theorem k49_0 : P49 [] = .seq (P49 [0]) (P49 [1]) := by kernel_rfl
theorem k49_1 : P49 [0] = .region 0 (O49 [0]) false := by kernel_rfl
theorem r49_0 {M : Mem} {call : CallM} {K : Array Value → Mem → R} :
    opsK Try.prog (fun _ => call) (O49 [0]) (O49 [0]).toList 0 #[g0,g1,g2,g3,g4,g5,g6,g7,g8] M K = K #[g0,g1,g2,g3,.bool false,g5,g6,g7,g8] M := by kernel_rfl
theorem k49_2 : P49 [1] = .seq (P49 [1,0]) (P49 [1,1]) := by kernel_rfl
theorem k49_3 : P49 [1,0] = .region 1 (O49 [1,0]) false := by kernel_rfl
theorem r49_1 {Ax0 : Option Addr} {lx0 cx0 : Nat} {x1 : Int} {M : Mem} {call : CallM} {K : Array Value → Mem → R} :
    opsK Try.prog (fun _ => call) (O49 [1,0]) (O49 [1,0]).toList 0 #[.slice Ax0 lx0 cx0,.int .i64 x1,g2,g3,g4,g5,g6,g7,g8] M K = (call 63 #[.slice Ax0 lx0 cx0, .int .i64 x1] M).bind fun r_1 => (asI .i64 r_1.1).bind fun x_2 => K #[.slice Ax0 lx0 cx0,.int .i64 x1,g2,g3,.bool (decide (x_2 ≥ 0)),.slice Ax0 lx0 cx0,.int .i64 x1,.int .i64 x_2,.bool (decide (x_2 ≥ 0))] r_1.2 := by kernel_rfl
theorem k49_4 : P49 [1,1] = .ret := by kernel_rfl
theorem e49 {M : Mem} : finish Try.prog Try.f49 #[g0,g1,g2,g3,g4,g5,g6,g7,g8] M = some (g4, M) := by kernel_rfl
theorem w49_0 {Ax0 : Option Addr} {lx0 cx0 : Nat} {x1 : Int} {M : Mem} {Q : Value → Mem → Prop} (H :
    Cn Try.prog 63 #[.slice Ax0 lx0 cx0, .int .i64 x1] M fun v1' N1' =>
     ∃ x2', asI .i64 v1' = some x2' ∧
     Q (.bool (decide (x2' ≥ 0))) N1') :
    Cn Try.prog 49 #[.slice Ax0 lx0 cx0, .int .i64 x1] M Q := by
  refine Cn.of b49 d49 t49 ?_
  refine Rn.seq k49_0 (Rn.region k49_1 (fun call K => r49_0) (Rch.leaf (Rn.seq k49_2 (Rn.region k49_3 (fun call K => r49_1) (Rch.call H fun v1' N1' H => Rch.ex H fun x2' H => Rch.leaf ?_)))))
  exact Rn.ret k49_4 e49 H


/-! ### zoetrope/txfm.Types: function 23 -/
noncomputable abbrev P23 (p : List Nat) : Code := subC (codeOf Try.f23) p
noncomputable abbrev O23 (p : List Nat) : Array Oper := opsOf (subC (codeOf Try.f23) p)
theorem b23 : Try.prog.funcs[23]? = some Try.f23 ∧ (Orc.tab Try.prog).lookup 23 = none := ⟨by kernel_rfl, by kernel_rfl⟩
theorem d23 : Try.f23.body = some (P23 []) := by kernel_rfl
theorem t23 {x0 : Int} : #[.int .i64 x0] ++ Array.replicate (Try.f23.ntmps - (#[.int .i64 x0] : Array Value).size) undef = #[.int .i64 x0,undef,undef,undef,undef,undef,undef,undef,undef,undef,undef,undef,undef,undef,undef,undef,undef,undef,undef,undef,undef,undef,undef,undef,undef,undef,undef,undef] := by kernel_rfl
theorem k23_0 : P23 [] = .seq (P23 [0]) (P23 [1]) := by kernel_rfl
theorem k23_1 : P23 [0] = .region 0 (O23 [0]) false := by kernel_rfl
theorem r23_0 {M : Mem} {call : CallM} {K : Array Value → Mem → R} :
    opsK Try.prog (fun _ => call) (O23 [0]) (O23 [0]).toList 0 #[g0,g1,g2,g3,g4,g5,g6,g7,g8,g9,g10,g11,g12,g13,g14,g15,g16,g17,g18,g19,g20,g21,g22,g23,g24,g25,g26,g27] M K = K #[g0,g1,.slice none 0 0,g3,g4,g5,g6,g7,g8,g9,g10,g11,g12,g13,g14,g15,g16,g17,g18,g19,g20,g21,g22,g23,g24,g25,g26,g27] M := by kernel_rfl
theorem k23_2 : P23 [1] = .seq (P23 [1,0]) (P23 [1,1]) := by kernel_rfl
theorem k23_3 : P23 [1,0] = .region 1 (O23 [1,0]) false := by kernel_rfl
theorem r23_1 {M : Mem} {call : CallM} {K : Array Value → Mem → R} :
    opsK Try.prog (fun _ => call) (O23 [1,0]) (O23 [1,0]).toList 0 #[g0,g1,g2,g3,g4,g5,g6,g7,g8,g9,g10,g11,g12,g13,g14,g15,g16,g17,g18,g19,g20,g21,g22,g23,g24,g25,g26,g27] M K = K #[g0,g1,g2,.int .i64 0,g4,g5,g6,g7,g8,g9,g10,g11,g12,g13,g14,g15,g16,g17,g18,g19,g20,g21,g22,g23,g24,g25,g26,g27] M := by kernel_rfl
theorem k23_4 : P23 [1,1] = .seq (P23 [1,1,0]) (P23 [1,1,1]) := by kernel_rfl
theorem k23_5 : P23 [1,1,0] = .seq (P23 [1,1,0,0]) (P23 [1,1,0,1]) := by kernel_rfl
theorem k23_6 : P23 [1,1,0,0] = .region 2 (O23 [1,1,0,0]) false := by kernel_rfl
theorem r23_2 {x0 : Int} {M : Mem} {call : CallM} {K : Array Value → Mem → R} :
    opsK Try.prog (fun _ => call) (O23 [1,1,0,0]) (O23 [1,1,0,0]).toList 0 #[.int .i64 x0,g1,g2,g3,g4,g5,g6,g7,g8,g9,g10,g11,g12,g13,g14,g15,g16,g17,g18,g19,g20,g21,g22,g23,g24,g25,g26,g27] M K = K #[.int .i64 x0,g1,g2,g3,g4,g5,.int .i64 x0,g7,g8,g9,g10,g11,g12,g13,g14,g15,g16,g17,g18,g19,g20,g21,g22,g23,g24,g25,g26,g27] M := by kernel_rfl
theorem k23_7 : P23 [1,1,0,1] = .block 0 (P23 [1,1,0,1,0]) := by kernel_rfl
theorem k23_8 : P23 [1,1,0,1,0] = .seq (P23 [1,1,0,1,0,0]) (P23 [1,1,0,1,0,1]) := by kernel_rfl
theorem k23_9 : P23 [1,1,0,1,0,0] = .region 3 (O23 [1,1,0,1,0,0]) false := by kernel_rfl
theorem r23_3 {x6 : Int} {M : Mem} {call : CallM} {K : Array Value → Mem → R} :
    opsK Try.prog (fun _ => call) (O23 [1,1,0,1,0,0]) (O23 [1,1,0,1,0,0]).toList 0 #[g0,g1,g2,g3,g4,g5,.int .i64 x6,g7,g8,g9,g10,g11,g12,g13,g14,g15,g16,g17,g18,g19,g20,g21,g22,g23,g24,g25,g26,g27] M K = K #[g0,g1,g2,g3,g4,g5,.int .i64 x6,.bool (x6 == 4),.bool (x6 == 4),g9,g10,g11,g12,g13,g14,g15,g16,g17,g18,g19,g20,g21,g22,g23,g24,g25,g26,g27] M := by kernel_rfl
theorem c23_10 : P23 [1,1,0,1,0,1] = .cond (.tmp 7) (P23 [1,1,0,1,0,1,0]) (P23 [1,1,0,1,0,1,1]) := by kernel_rfl
theorem k23_11 : P23 [1,1,0,1,0,1,0] = .region 4 (O23 [1,1,0,1,0,1,0]) false := by kernel_rfl
theorem r23_4 {M : Mem} {call : CallM} {K : Array Value → Mem → R} :
    opsK Try.prog (fun _ => call) (O23 [1,1,0,1,0,1,0]) (O23 [1,1,0,1,0,1,0]).toList 0 #[g0,g1,g2,g3,g4,g5,g6,g7,g8,g9,g10,g11,g12,g13,g14,g15,g16,g17,g18,g19,g20,g21,g22,g23,g24,g25,g26,g27] M K = K #[g0,g1,g2,.int .i64 10,g4,g5,g6,g7,g8,g9,g10,g11,g12,g13,g14,g15,g16,g17,g18,g19,g20,g21,g22,g23,g24,g25,g26,g27] M := by kernel_rfl
theorem k23_12 : P23 [1,1,0,1,0,1,1] = .seq (P23 [1,1,0,1,0,1,1,0]) (P23 [1,1,0,1,0,1,1,1]) := by kernel_rfl
theorem k23_13 : P23 [1,1,0,1,0,1,1,0] = .seq (P23 [1,1,0,1,0,1,1,0,0]) (P23 [1,1,0,1,0,1,1,0,1]) := by kernel_rfl
theorem k23_14 : P23 [1,1,0,1,0,1,1,0,0] = .region 5 (O23 [1,1,0,1,0,1,1,0,0]) false := by kernel_rfl
theorem r23_5 {x6 : Int} {M : Mem} {call : CallM} {K : Array Value → Mem → R} :
    opsK Try.prog (fun _ => call) (O23 [1,1,0,1,0,1,1,0,0]) (O23 [1,1,0,1,0,1,1,0,0]).toList 0 #[g0,g1,g2,g3,g4,g5,.int .i64 x6,g7,g8,g9,g10,g11,g12,g13,g14,g15,g16,g17,g18,g19,g20,g21,g22,g23,g24,g25,g26,g27] M K = K #[g0,g1,g2,g3,g4,g5,.int .i64 x6,g7,g8,.bool (x6 == 8),.bool (x6 == 8),g11,g12,g13,g14,g15,g16,g17,g18,g19,g20,g21,g22,g23,g24,g25,g26,g27] M := by kernel_rfl
theorem c23_15 : P23 [1,1,0,1,0,1,1,0,1] = .cond (.tmp 9) (P23 [1,1,0,1,0,1,1,0,1,0]) (P23 [1,1,0,1,0,1,1,0,1,1]) := by kernel_rfl
theorem k23_16 : P23 [1,1,0,1,0,1,1,0,1,0] = .skip := by kernel_rfl
theorem c23_17 : P23 [1,1,0,1,0,1,1,1] = .cond (.tmp 9) (P23 [1,1,0,1,0,1,1,1,0]) (P23 [1,1,0,1,0,1,1,1,1]) := by kernel_rfl
theorem k23_18 : P23 [1,1,0,1,0,1,1,1,0] = .region 7 (O23 [1,1,0,1,0,1,1,1,0]) false := by kernel_rfl
theorem r23_7 {M : Mem} {call : CallM} {K : Array Value → Mem → R} :
    opsK Try.prog (fun _ => call) (O23 [1,1,0,1,0,1,1,1,0]) (O23 [1,1,0,1,0,1,1,1,0]).toList 0 #[g0,g1,g2,g3,g4,g5,g6,g7,g8,g9,g10,g11,g12,g13,g14,g15,g16,g17,g18,g19,g20,g21,g22,g23,g24,g25,g26,g27] M K = K #[g0,g1,g2,.int .i64 9,g4,g5,g6,g7,g8,g9,g10,g11,g12,g13,g14,g15,g16,g17,g18,g19,g20,g21,g22,g23,g24,g25,g26,g27] M := by kernel_rfl
theorem k23_19 : P23 [1,1,0,1,0,1,1,1,1] = .seq (P23 [1,1,0,1,0,1,1,1,1,0]) (P23 [1,1,0,1,0,1,1,1,1,1]) := by kernel_rfl
theorem k23_20 : P23 [1,1,0,1,0,1,1,1,1,0] = .region 8 (O23 [1,1,0,1,0,1,1,1,1,0]) false := by kernel_rfl
theorem r23_8 {x6 : Int} {M : Mem} {call : CallM} {K : Array Value → Mem → R} :
    opsK Try.prog (fun _ => call) (O23 [1,1,0,1,0,1,1,1,1,0]) (O23 [1,1,0,1,0,1,1,1,1,0]).toList 0 #[g0,g1,g2,g3,g4,g5,.int .i64 x6,g7,g8,g9,g10,g11,g12,g13,g14,g15,g16,g17,g18,g19,g20,g21,g22,g23,g24,g25,g26,g27] M K = K #[g0,g1,g2,g3,g4,g5,.int .i64 x6,g7,g8,g9,g10,g11,.bool (x6 == 32),.bool (x6 == 32),g14,g15,g16,g17,g18,g19,g20,g21,g22,g23,g24,g25,g26,g27] M := by kernel_rfl
theorem c23_21 : P23 [1,1,0,1,0,1,1,1,1,1] = .cond (.tmp 12) (P23 [1,1,0,1,0,1,1,1,1,1,0]) (P23 [1,1,0,1,0,1,1,1,1,1,1]) := by kernel_rfl
theorem k23_22 : P23 [1,1,0,1,0,1,1,1,1,1,0] = .seq (P23 [1,1,0,1,0,1,1,1,1,1,0,0]) (P23 [1,1,0,1,0,1,1,1,1,1,0,1]) := by kernel_rfl
theorem k23_23 : P23 [1,1,0,1,0,1,1,1,1,1,0,0] = .region 9 (O23 [1,1,0,1,0,1,1,1,1,1,0,0]) false := by kernel_rfl
theorem r23_9 {M : Mem} {call : CallM} {K : Array Value → Mem → R} :
    opsK Try.prog (fun _ => call) (O23 [1,1,0,1,0,1,1,1,1,1,0,0]) (O23 [1,1,0,1,0,1,1,1,1,1,0,0]).toList 0 #[g0,g1,g2,g3,g4,g5,g6,g7,g8,g9,g10,g11,g12,g13,g14,g15,g16,g17,g18,g19,g20,g21,g22,g23,g24,g25,g26,g27] M K = K #[g0,g1,.slice (some ⟨2 * M.nb.size, 0, none⟩) 2 2,g3,g4,g5,g6,g7,g8,g9,g10,g11,g12,g13,.slice (some ⟨2 * M.nb.size, 0, none⟩) 2 2,g15,g16,g17,g18,g19,g20,g21,g22,g23,g24,g25,g26,g27] (M.new (.cells #[.int .i64 0, .int .i64 8] 3)) := by kernel_rfl
theorem k23_24 : P23 [1,1,0,1,0,1,1,1,1,1,0,1] = .ret := by kernel_rfl
theorem e23 {M : Mem} : finish Try.prog Try.f23 #[g0,g1,g2,g3,g4,g5,g6,g7,g8,g9,g10,g11,g12,g13,g14,g15,g16,g17,g18,g19,g20,g21,g22,g23,g24,g25,g26,g27] M = some (g2, M) := by kernel_rfl
theorem k23_26 : P23 [1,1,0,1,0,1,1,1,1,1,1] = .seq (P23 [1,1,0,1,0,1,1,1,1,1,1,0]) (P23 [1,1,0,1,0,1,1,1,1,1,1,1]) := by kernel_rfl
theorem k23_27 : P23 [1,1,0,1,0,1,1,1,1,1,1,0] = .region 10 (O23 [1,1,0,1,0,1,1,1,1,1,1,0]) false := by kernel_rfl
theorem r23_10 {x6 : Int} {M : Mem} {call : CallM} {K : Array Value → Mem → R} :
    opsK Try.prog (fun _ => call) (O23 [1,1,0,1,0,1,1,1,1,1,1,0]) (O23 [1,1,0,1,0,1,1,1,1,1,1,0]).toList 0 #[g0,g1,g2,g3,g4,g5,.int .i64 x6,g7,g8,g9,g10,g11,g12,g13,g14,g15,g16,g17,g18,g19,g20,g21,g22,g23,g24,g25,g26,g27] M K = K #[g0,g1,g2,g3,g4,g5,.int .i64 x6,g7,g8,g9,g10,g11,g12,g13,g14,.bool (x6 == 64),.bool (x6 == 64),g17,g18,g19,g20,g21,g22,g23,g24,g25,g26,g27] M := by kernel_rfl
theorem c23_28 : P23 [1,1,0,1,0,1,1,1,1,1,1,1] = .cond (.tmp 15) (P23 [1,1,0,1,0,1,1,1,1,1,1,1,0]) (P23 [1,1,0,1,0,1,1,1,1,1,1,1,1]) := by kernel_rfl
theorem k23_29 : P23 [1,1,0,1,0,1,1,1,1,1,1,1,0] = .seq (P23 [1,1,0,1,0,1,1,1,1,1,1,1,0,0]) (P23 [1,1,0,1,0,1,1,1,1,1,1,1,0,1]) := by kernel_rfl
theorem k23_30 : P23 [1,1,0,1,0,1,1,1,1,1,1,1,0,0] = .region 11 (O23 [1,1,0,1,0,1,1,1,1,1,1,1,0,0]) false := by kernel_rfl
theorem r23_11 {M : Mem} {call : CallM} {K : Array Value → Mem → R} :
    opsK Try.prog (fun _ => call) (O23 [1,1,0,1,0,1,1,1,1,1,1,1,0,0]) (O23 [1,1,0,1,0,1,1,1,1,1,1,1,0,0]).toList 0 #[g0,g1,g2,g3,g4,g5,g6,g7,g8,g9,g10,g11,g12,g13,g14,g15,g16,g17,g18,g19,g20,g21,g22,g23,g24,g25,g26,g27] M K = K #[g0,g1,.slice (some ⟨2 * M.nb.size, 0, none⟩) 1 1,g3,g4,g5,g6,g7,g8,g9,g10,g11,g12,g13,g14,g15,g16,.slice (some ⟨2 * M.nb.size, 0, none⟩) 1 1,g18,g19,g20,g21,g22,g23,g24,g25,g26,g27] (M.new (.cells #[.int .i64 0] 3)) := by kernel_rfl
theorem k23_31 : P23 [1,1,0,1,0,1,1,1,1,1,1,1,0,1] = .ret := by kernel_rfl
theorem k23_32 : P23 [1,1,0,1,0,1,1,1,1,1,1,1,1] = .skip := by kernel_rfl
theorem k23_33 : P23 [1,1,0,1,0,1,1,0,1,1] = .region 6 (O23 [1,1,0,1,0,1,1,0,1,1]) false := by kernel_rfl
theorem r23_6 {x6 : Int} {M : Mem} {call : CallM} {K : Array Value → Mem → R} :
    opsK Try.prog (fun _ => call) (O23 [1,1,0,1,0,1,1,0,1,1]) (O23 [1,1,0,1,0,1,1,0,1,1]).toList 0 #[g0,g1,g2,g3,g4,g5,.int .i64 x6,g7,g8,g9,g10,g11,g12,g13,g14,g15,g16,g17,g18,g19,g20,g21,g22,g23,g24,g25,g26,g27] M K = K #[g0,g1,g2,g3,g4,g5,.int .i64 x6,g7,g8,.bool (x6 == 16),g10,.bool (x6 == 16),g12,g13,g14,g15,g16,g17,g18,g19,g20,g21,g22,g23,g24,g25,g26,g27] M := by kernel_rfl
theorem k23_34 : P23 [1,1,1] = .seq (P23 [1,1,1,0]) (P23 [1,1,1,1]) := by kernel_rfl
theorem k23_35 : P23 [1,1,1,0] = .region 12 (O23 [1,1,1,0]) false := by kernel_rfl
theorem r23_12 {M : Mem} {call : CallM} {K : Array Value → Mem → R} :
    opsK Try.prog (fun _ => call) (O23 [1,1,1,0]) (O23 [1,1,1,0]).toList 0 #[g0,g1,g2,g3,g4,g5,g6,g7,g8,g9,g10,g11,g12,g13,g14,g15,g16,g17,g18,g19,g20,g21,g22,g23,g24,g25,g26,g27] M K = K #[g0,g1,g2,g3,.slice none 0 0,g5,g6,g7,g8,g9,g10,g11,g12,g13,g14,g15,g16,g17,g18,g19,g20,g21,g22,g23,g24,g25,g26,g27] M := by kernel_rfl
theorem k23_36 : P23 [1,1,1,1] = .seq (P23 [1,1,1,1,0]) (P23 [1,1,1,1,1]) := by kernel_rfl
theorem k23_37 : P23 [1,1,1,1,0] = .seq (P23 [1,1,1,1,0,0]) (P23 [1,1,1,1,0,1]) := by kernel_rfl
theorem k23_38 : P23 [1,1,1,1,0,0] = .region 13 (O23 [1,1,1,1,0,0]) false := by kernel_rfl
theorem r23_13 {x3 : Int} {M : Mem} {call : CallM} {K : Array Value → Mem → R} :
    opsK Try.prog (fun _ => call) (O23 [1,1,1,1,0,0]) (O23 [1,1,1,1,0,0]).toList 0 #[g0,g1,g2,.int .i64 x3,g4,g5,g6,g7,g8,g9,g10,g11,g12,g13,g14,g15,g16,g17,g18,g19,g20,g21,g22,g23,g24,g25,g26,g27] M K = K #[g0,g1,g2,.int .i64 x3,g4,g5,g6,g7,g8,g9,g10,g11,g12,g13,g14,g15,g16,g17,.int .i64 x3,.int .i64 0,g20,g21,g22,g23,g24,g25,g26,g27] M := by kernel_rfl
theorem k23_39 : P23 [1,1,1,1,0,1] = .block 1 (P23 [1,1,1,1,0,1,0]) := by kernel_rfl
theorem k23_40 : P23 [1,1,1,1,0,1,0] = .loop (P23 [1,1,1,1,0,1,0,0]) := by kernel_rfl
theorem k23_41 : P23 [1,1,1,1,0,1,0,0] = .seq (P23 [1,1,1,1,0,1,0,0,0]) (P23 [1,1,1,1,0,1,0,0,1]) := by kernel_rfl
theorem k23_42 : P23 [1,1,1,1,0,1,0,0,0] = .region 14 (O23 [1,1,1,1,0,1,0,0,0]) false := by kernel_rfl
theorem r23_14 {x18 x19 : Int} {M : Mem} {call : CallM} {K : Array Value → Mem → R} :
    opsK Try.prog (fun _ => call) (O23 [1,1,1,1,0,1,0,0,0]) (O23 [1,1,1,1,0,1,0,0,0]).toList 0 #[g0,g1,g2,g3,g4,g5,g6,g7,g8,g9,g10,g11,g12,g13,g14,g15,g16,g17,.int .i64 x18,.int .i64 x19,g20,g21,g22,g23,g24,g25,g26,g27] M K = K #[g0,g1,g2,g3,g4,g5,g6,g7,g8,g9,g10,g11,g12,g13,g14,g15,g16,g17,.int .i64 x18,.int .i64 x19,.bool (decide (x19 < x18)),g21,g22,g23,g24,g25,g26,g27] M := by kernel_rfl
theorem k23_43 : P23 [1,1,1,1,0,1,0,0,1] = .seq (P23 [1,1,1,1,0,1,0,0,1,0]) (P23 [1,1,1,1,0,1,0,0,1,1]) := by kernel_rfl
theorem c23_44 : P23 [1,1,1,1,0,1,0,0,1,0] = .cond (.tmp 20) (P23 [1,1,1,1,0,1,0,0,1,0,0]) (P23 [1,1,1,1,0,1,0,0,1,0,1]) := by kernel_rfl
theorem k23_45 : P23 [1,1,1,1,0,1,0,0,1,0,0] = .skip := by kernel_rfl
theorem k23_46 : P23 [1,1,1,1,0,1,0,0,1,1] = .seq (P23 [1,1,1,1,0,1,0,0,1,1,0]) (P23 [1,1,1,1,0,1,0,0,1,1,1]) := by kernel_rfl
theorem k23_47 : P23 [1,1,1,1,0,1,0,0,1,1,0] = .block 2 (P23 [1,1,1,1,0,1,0,0,1,1,0,0]) := by kernel_rfl
theorem k23_48 : P23 [1,1,1,1,0,1,0,0,1,1,0,0] = .seq (P23 [1,1,1,1,0,1,0,0,1,1,0,0,0]) (P23 [1,1,1,1,0,1,0,0,1,1,0,0,1]) := by kernel_rfl
theorem k23_49 : P23 [1,1,1,1,0,1,0,0,1,1,0,0,0] = .region 15 (O23 [1,1,1,1,0,1,0,0,1,1,0,0,0]) false := by kernel_rfl
theorem r23_15 {x19 : Int} {M : Mem} {call : CallM} {K : Array Value → Mem → R} :
    opsK Try.prog (fun _ => call) (O23 [1,1,1,1,0,1,0,0,1,1,0,0,0]) (O23 [1,1,1,1,0,1,0,0,1,1,0,0,0]).toList 0 #[g0,g1,g2,g3,g4,g5,g6,g7,g8,g9,g10,g11,g12,g13,g14,g15,g16,g17,g18,.int .i64 x19,g20,g21,g22,g23,g24,g25,g26,g27] M K = K #[g0,g1,g2,g3,g4,.int .i64 x19,g6,g7,g8,g9,g10,g11,g12,g13,g14,g15,g16,g17,g18,.int .i64 x19,g20,.int .i64 x19,g22,g23,g24,g25,g26,g27] M := by kernel_rfl
theorem k23_50 : P23 [1,1,1,1,0,1,0,0,1,1,0,0,1] = .region 16 (O23 [1,1,1,1,0,1,0,0,1,1,0,0,1]) false := by kernel_rfl
theorem r23_16 {Ax4 : Option Addr} {lx4 cx4 : Nat} {x5 : Int} {M : Mem} {call : CallM} {K : Array Value → Mem → R} :
    opsK Try.prog (fun _ => call) (O23 [1,1,1,1,0,1,0,0,1,1,0,0,1]) (O23 [1,1,1,1,0,1,0,0,1,1,0,0,1]).toList 0 #[g0,g1,g2,g3,.slice Ax4 lx4 cx4,.int .i64 x5,g6,g7,g8,g9,g10,g11,g12,g13,g14,g15,g16,g17,g18,g19,g20,g21,g22,g23,g24,g25,g26,g27] M K = (appendP Try.prog #[22, 22] (.slice Ax4 lx4 cx4) (.slice (some ⟨2 * M.nb.size, 0, none⟩) 1 1) (M.new (.cells #[.int .i64 x5] 3))).bind fun r_1 => (asS r_1.1).bind fun s_2 => K #[g0,g1,g2,g3,.slice s_2.1 (s_2.2.1) (s_2.2.2),.int .i64 x5,g6,g7,g8,g9,g10,g11,g12,g13,g14,g15,g16,g17,g18,g19,g20,g21,.slice Ax4 lx4 cx4,.int .i64 x5,.slice (some ⟨2 * M.nb.size, 0, none⟩) 1 1,.slice s_2.1 (s_2.2.1) (s_2.2.2),g26,g27] r_1.2 := by kernel_rfl
theorem k23_51 : P23 [1,1,1,1,0,1,0,0,1,1,1] = .region 17 (O23 [1,1,1,1,0,1,0,0,1,1,1]) false := by kernel_rfl
theorem r23_17 {x19 : Int} {M : Mem} {call : CallM} {K : Array Value → Mem → R} :
    opsK Try.prog (fun _ => call) (O23 [1,1,1,1,0,1,0,0,1,1,1]) (O23 [1,1,1,1,0,1,0,0,1,1,1]).toList 0 #[g0,g1,g2,g3,g4,g5,g6,g7,g8,g9,g10,g11,g12,g13,g14,g15,g16,g17,g18,.int .i64 x19,g20,g21,g22,g23,g24,g25,g26,g27] M K = K #[g0,g1,g2,g3,g4,g5,g6,g7,g8,g9,g10,g11,g12,g13,g14,g15,g16,g17,g18,.int .i64 (IntKind.i64.wrap (x19 + 1)),g20,g21,g22,g23,g24,g25,.int .i64 (IntKind.i64.wrap (x19 + 1)),g27] M := by kernel_rfl
theorem k23_52 : P23 [1,1,1,1,0,1,0,0,1,0,1] = .exit 1 := by kernel_rfl
theorem k23_53 : P23 [1,1,1,1,1] = .seq (P23 [1,1,1,1,1,0]) (P23 [1,1,1,1,1,1]) := by kernel_rfl
theorem k23_54 : P23 [1,1,1,1,1,0] = .region 18 (O23 [1,1,1,1,1,0]) false := by kernel_rfl
theorem r23_18 {Ax4 : Option Addr} {lx4 cx4 : Nat} {M : Mem} {call : CallM} {K : Array Value → Mem → R} :
    opsK Try.prog (fun _ => call) (O23 [1,1,1,1,1,0]) (O23 [1,1,1,1,1,0]).toList 0 #[g0,g1,g2,g3,.slice Ax4 lx4 cx4,g5,g6,g7,g8,g9,g10,g11,g12,g13,g14,g15,g16,g17,g18,g19,g20,g21,g22,g23,g24,g25,g26,g27] M K = K #[g0,g1,.slice Ax4 lx4 cx4,g3,.slice Ax4 lx4 cx4,g5,g6,g7,g8,g9,g10,g11,g12,g13,g14,g15,g16,g17,g18,g19,g20,g21,g22,g23,g24,g25,g26,.slice Ax4 lx4 cx4] M := by kernel_rfl
theorem k23_55 : P23 [1,1,1,1,1,1] = .ret := by kernel_rfl
noncomputable def S23_1 : List Item := [.code (P23 [1,1,1])]
def A23_1 (x3 : Int) (M : Mem) (Q : Value → Mem → Prop) : Prop := ∀ (g0 g1 g2 g4 g5 g6 g7 g8 g9 g10 g11 g12 g13 g14 g15 g16 g17 g18 g19 g20 g21 g22 g23 g24 g25 g26 g27 : Value), Rn Try.prog Try.f23 S23_1 #[g0, g1, g2, .int .i64 x3, g4, g5, g6, g7, g8, g9, g10, g11, g12, g13, g14, g15, g16, g17, g18, g19, g20, g21, g22, g23, g24, g25, g26, g27] M Q
noncomputable def S23_2 : List Item := [.code (P23 [1,1,1,1,0,1,0,0]), .inLoop (P23 [1,1,1,1,0,1,0,0]), .inBlock 1, .code (P23 [1,1,1,1,1])]
def A23_2 (Ax4 : Option Addr) (lx4 cx4 : Nat) (x18 x19 : Int) (M : Mem) (Q : Value → Mem → Prop) : Prop := ∀ (g0 g1 g2 g3 g5 g6 g7 g8 g9 g10 g11 g12 g13 g14 g15 g16 g17 g20 g21 g22 g23 g24 g25 g26 g27 : Value), Rn Try.prog Try.f23 S23_2 #[g0, g1, g2, g3, .slice Ax4 lx4 cx4, g5, g6, g7, g8, g9, g10, g11, g12, g13, g14, g15, g16, g17, .int .i64 x18, .int .i64 x19, g20, g21, g22, g23, g24, g25, g26, g27] M Q
theorem w23_0 {x0 : Int} {M : Mem} {Q : Value → Mem → Prop} (H :
    ((x0 = 4 →
     A23_1 10 M Q) ∧
     (x0 ≠ 4 →
     ((x0 = 8 →
      ((x0 = 8 →
       A23_1 9 M Q) ∧
       (x0 ≠ 8 →
       ((x0 = 32 →
        Q (.slice (some ⟨2 * M.nb.size, 0, none⟩) 2 2) (M.new (.cells #[.int .i64 0, .int .i64 8] 3))) ∧
        (x0 ≠ 32 →
        ((x0 = 64 →
         Q (.slice (some ⟨2 * M.nb.size, 0, none⟩) 1 1) (M.new (.cells #[.int .i64 0] 3))) ∧
         (x0 ≠ 64 →
         A23_1 0 M Q))))))) ∧
      (x0 ≠ 8 →
      ((x0 = 16 →
       A23_1 9 M Q) ∧
       (x0 ≠ 16 →
       ((x0 = 32 →
        Q (.slice (some ⟨2 * M.nb.size, 0, none⟩) 2 2) (M.new (.cells #[.int .i64 0, .int .i64 8] 3))) ∧
        (x0 ≠ 32 →
        ((x0 = 64 →
         Q (.slice (some ⟨2 * M.nb.size, 0, none⟩) 1 1) (M.new (.cells #[.int .i64 0] 3))) ∧
         (x0 ≠ 64 →
         A23_1 0 M Q))))))))))) :
    Cn Try.prog 23 #[.int .i64 x0] M Q := by
  refine Cn.of b23 d23 t23 ?_
  refine Rn.seq k23_0 (Rn.region k23_1 (fun call K => r23_0) (Rch.leaf (Rn.seq k23_2 (Rn.region k23_3 (fun call K => r23_1) (Rch.leaf (Rn.seq k23_4 (Rn.seq k23_5 (Rn.region k23_6 (fun call K => r23_2) (Rch.leaf (Rn.block k23_7 (Rn.seq k23_8 ?_)))))))))))
  refine Rn.region k23_9 (fun call K => r23_3) (Rch.leaf ?_)
  refine Rn.cnd (v := x0 == 4) ⟨c23_10, rfl, by kernel_rfl⟩ (fun h => ?_) (fun h => ?_)
  · replace H := H.1 (eq_of_beq h)
    refine Rn.region k23_11 (fun call K => r23_4) (Rch.leaf (Rn.blk ?_))
    exact H _ _ _ _ _ _ _ _ _ _ _ _ _ _ _ _ _ _ _ _ _ _ _ _ _ _ _
  · replace H := H.2 (ne_of_beq_false h)
    refine Rn.seq k23_12 (Rn.seq k23_13 (Rn.region k23_14 (fun call K => r23_5) (Rch.leaf ?_)))
    refine Rn.cnd (v := x0 == 8) ⟨c23_15, rfl, by kernel_rfl⟩ (fun h => ?_) (fun h => ?_)
    · replace H := H.1 (eq_of_beq h)
      refine Rn.skip k23_16 ?_
      refine Rn.cnd (v := x0 == 8) ⟨c23_17, rfl, by kernel_rfl⟩ (fun h => ?_) (fun h => ?_)
      · replace H := H.1 (eq_of_beq h)
        refine Rn.region k23_18 (fun call K => r23_7) (Rch.leaf (Rn.blk ?_))
        exact H _ _ _ _ _ _ _ _ _ _ _ _ _ _ _ _ _ _ _ _ _ _ _ _ _ _ _
      · replace H := H.2 (ne_of_beq_false h)
        refine Rn.seq k23_19 (Rn.region k23_20 (fun call K => r23_8) (Rch.leaf ?_))
        refine Rn.cnd (v := x0 == 32) ⟨c23_21, rfl, by kernel_rfl⟩ (fun h => ?_) (fun h => ?_)
        · replace H := H.1 (eq_of_beq h)
          refine Rn.seq k23_22 (Rn.region k23_23 (fun call K => r23_9) (Rch.leaf ?_))
          exact Rn.ret k23_24 e23 H
        · replace H := H.2 (ne_of_beq_false h)
          refine Rn.seq k23_26 (Rn.region k23_27 (fun call K => r23_10) (Rch.leaf ?_))
          refine Rn.cnd (v := x0 == 64) ⟨c23_28, rfl, by kernel_rfl⟩ (fun h => ?_) (fun h => ?_)
          · replace H := H.1 (eq_of_beq h)
            refine Rn.seq k23_29 (Rn.region k23_30 (fun call K => r23_11) (Rch.leaf ?_))
            exact Rn.ret k23_31 e23 H
          · replace H := H.2 (ne_of_beq_false h)
            refine Rn.skip k23_32 (Rn.blk ?_)
            exact H _ _ _ _ _ _ _ _ _ _ _ _ _ _ _ _ _ _ _ _ _ _ _ _ _ _ _
    · replace H := H.2 (ne_of_beq_false h)
      refine Rn.region k23_33 (fun call K => r23_6) (Rch.leaf ?_)
      refine Rn.cnd (v := x0 == 16) ⟨c23_17, rfl, by kernel_rfl⟩ (fun h => ?_) (fun h => ?_)
      · replace H := H.1 (eq_of_beq h)
        refine Rn.region k23_18 (fun call K => r23_7) (Rch.leaf (Rn.blk ?_))
        exact H _ _ _ _ _ _ _ _ _ _ _ _ _ _ _ _ _ _ _ _ _ _ _ _ _ _ _
      · replace H := H.2 (ne_of_beq_false h)
        refine Rn.seq k23_19 (Rn.region k23_20 (fun call K => r23_8) (Rch.leaf ?_))
        refine Rn.cnd (v := x0 == 32) ⟨c23_21, rfl, by kernel_rfl⟩ (fun h => ?_) (fun h => ?_)
        · replace H := H.1 (eq_of_beq h)
          refine Rn.seq k23_22 (Rn.region k23_23 (fun call K => r23_9) (Rch.leaf ?_))
          exact Rn.ret k23_24 e23 H
        · replace H := H.2 (ne_of_beq_false h)
          refine Rn.seq k23_26 (Rn.region k23_27 (fun call K => r23_10) (Rch.leaf ?_))
          refine Rn.cnd (v := x0 == 64) ⟨c23_28, rfl, by kernel_rfl⟩ (fun h => ?_) (fun h => ?_)
          · replace H := H.1 (eq_of_beq h)
            refine Rn.seq k23_29 (Rn.region k23_30 (fun call K => r23_11) (Rch.leaf ?_))
            exact Rn.ret k23_31 e23 H
          · replace H := H.2 (ne_of_beq_false h)
            refine Rn.skip k23_32 (Rn.blk ?_)
            exact H _ _ _ _ _ _ _ _ _ _ _ _ _ _ _ _ _ _ _ _ _ _ _ _ _ _ _

theorem w23_1 {x3 : Int} {M : Mem} {Q : Value → Mem → Prop} (H :
    A23_2 none 0 0 x3 0 M Q) :
    A23_1 x3 M Q := by
  intro g0 g1 g2 g4 g5 g6 g7 g8 g9 g10 g11 g12 g13 g14 g15 g16 g17 g18 g19 g20 g21 g22 g23 g24 g25 g26 g27
  refine Rn.seq k23_34 (Rn.region k23_35 (fun call K => r23_12) (Rch.leaf (Rn.seq k23_36 (Rn.seq k23_37 (Rn.region k23_38 (fun call K => r23_13) (Rch.leaf (Rn.block k23_39 (Rn.loop k23_40 ?_))))))))
  exact H _ _ _ _ _ _ _ _ _ _ _ _ _ _ _ _ _ _ _ _ _ _ _ _ _

theorem w23_2 {Ax4 : Option Addr} {lx4 cx4 : Nat} {x18 x19 : Int} {M : Mem} {Q : Value → Mem → Prop} (H :
    ((x19 < x18 →
     ∃ r1', appendP Try.prog #[22, 22] (.slice Ax4 lx4 cx4) (.slice (some ⟨2 * M.nb.size, 0, none⟩) 1 1) (M.new (.cells #[.int .i64 x19] 3)) = some r1' ∧
     ∃ s2', asS r1'.1 = some s2' ∧
     A23_2 s2'.1 s2'.2.1 s2'.2.2 x18 (IntKind.i64.wrap (x19 + 1)) r1'.2 Q) ∧
     (¬ (x19 < x18) →
     Q (.slice Ax4 lx4 cx4) M))) :
    A23_2 Ax4 lx4 cx4 x18 x19 M Q := by
  intro g0 g1 g2 g3 g5 g6 g7 g8 g9 g10 g11 g12 g13 g14 g15 g16 g17 g20 g21 g22 g23 g24 g25 g26 g27
  refine Rn.seq k23_41 (Rn.region k23_42 (fun call K => r23_14) (Rch.leaf (Rn.seq k23_43 ?_)))
  refine Rn.cnd (v := decide (x19 < x18)) ⟨c23_44, rfl, by kernel_rfl⟩ (fun h => ?_) (fun h => ?_)
  · replace H := H.1 (of_decide_eq_true h)
    refine Rn.skip k23_45 (Rn.seq k23_46 (Rn.block k23_47 (Rn.seq k23_48 (Rn.region k23_49 (fun call K => r23_15) (Rch.leaf (Rn.region k23_50 (fun call K => r23_16) (Rch.ex H fun r1' H => Rch.ex H fun s2' H => Rch.leaf (Rn.blk (Rn.region k23_51 (fun call K => r23_17) ?_)))))))))
    refine Rch.leaf (Rn.lp ?_)
    exact H _ _ _ _ _ _ _ _ _ _ _ _ _ _ _ _ _ _ _ _ _ _ _ _ _
  · replace H := H.2 (of_decide_eq_false h)
    refine Rn.exit k23_52 rfl (Rn.seq k23_53 (Rn.region k23_54 (fun call K => r23_18) (Rch.leaf ?_)))
    exact Rn.ret k23_55 e23 H


/-! ### zoetrope/txfm.asked: function 27 -/
noncomputable abbrev P27 (p : List Nat) : Code := subC (codeOf Try.f27) p
noncomputable abbrev O27 (p : List Nat) : Array Oper := opsOf (subC (codeOf Try.f27) p)
theorem b27 : Try.prog.funcs[27]? = some Try.f27 ∧ (Orc.tab Try.prog).lookup 27 = none := ⟨by kernel_rfl, by kernel_rfl⟩
theorem d27 : Try.f27.body = some (P27 []) := by kernel_rfl
theorem t27 {x0 x1 : Int} {Ax2 : Option Addr} {lx2 cx2 : Nat} {x3 x4 : Int} : #[.int .i64 x0,.int .i64 x1,.slice Ax2 lx2 cx2,.int .i64 x3,.int .i64 x4] ++ Array.replicate (Try.f27.ntmps - (#[.int .i64 x0,.int .i64 x1,.slice Ax2 lx2 cx2,.int .i64 x3,.int .i64 x4] : Array Value).size) undef = #[.int .i64 x0,.int .i64 x1,.slice Ax2 lx2 cx2,.int .i64 x3,.int .i64 x4,undef,undef,undef,undef,undef,undef,undef,undef,undef,undef,undef,undef,undef,undef,undef,undef,undef,undef,undef,undef,undef,undef,undef,undef,undef,undef,undef,undef,undef,undef,undef,undef,undef,undef,undef,undef,undef,undef,undef,undef,undef,undef,undef] := by kernel_rfl
theorem k27_0 : P27 [] = .seq (P27 [0]) (P27 [1]) := by kernel_rfl
theorem k27_1 : P27 [0] = .region 0 (O27 [0]) false := by kernel_rfl
theorem r27_0 {M : Mem} {call : CallM} {K : Array Value → Mem → R} :
    opsK Try.prog (fun _ => call) (O27 [0]) (O27 [0]).toList 0 #[g0,g1,g2,g3,g4,g5,g6,g7,g8,g9,g10,g11,g12,g13,g14,g15,g16,g17,g18,g19,g20,g21,g22,g23,g24,g25,g26,g27,g28,g29,g30,g31,g32,g33,g34,g35,g36,g37,g38,g39,g40,g41,g42,g43,g44,g45,g46,g47] M K = K #[g0,g1,g2,g3,g4,g5,g6,g7,g8,g9,.int .i64 0,g11,g12,g13,g14,g15,g16,g17,g18,g19,g20,g21,g22,g23,g24,g25,g26,g27,g28,g29,g30,g31,g32,g33,g34,g35,g36,g37,g38,g39,g40,g41,g42,g43,g44,g45,g46,g47] M := by kernel_rfl
theorem k27_2 : P27 [1] = .seq (P27 [1,0]) (P27 [1,1]) := by kernel_rfl
theorem k27_3 : P27 [1,0] = .region 1 (O27 [1,0]) false := by kernel_rfl
theorem r27_1 {x0 : Int} {M : Mem} {call : CallM} {K : Array Value → Mem → R} :
    opsK Try.prog (fun _ => call) (O27 [1,0]) (O27 [1,0]).toList 0 #[.int .i64 x0,g1,g2,g3,g4,g5,g6,g7,g8,g9,g10,g11,g12,g13,g14,g15,g16,g17,g18,g19,g20,g21,g22,g23,g24,g25,g26,g27,g28,g29,g30,g31,g32,g33,g34,g35,g36,g37,g38,g39,g40,g41,g42,g43,g44,g45,g46,g47] M K = (call 23 #[.int .i64 x0] M).bind fun r_1 => (asS r_1.1).bind fun s_2 => K #[.int .i64 x0,g1,g2,g3,g4,g5,g6,g7,g8,g9,g10,.slice s_2.1 (s_2.2.1) (s_2.2.2),g12,g13,.int .i64 x0,.slice s_2.1 (s_2.2.1) (s_2.2.2),g16,g17,g18,g19,g20,g21,g22,g23,g24,g25,g26,g27,g28,g29,g30,g31,g32,g33,g34,g35,g36,g37,g38,g39,g40,g41,g42,g43,g44,g45,g46,g47] r_1.2 := by kernel_rfl
theorem k27_4 : P27 [1,1] = .seq (P27 [1,1,0]) (P27 [1,1,1]) := by kernel_rfl
theorem k27_5 : P27 [1,1,0] = .block 0 (P27 [1,1,0,0]) := by kernel_rfl
theorem k27_6 : P27 [1,1,0,0] = .seq (P27 [1,1,0,0,0]) (P27 [1,1,0,0,1]) := by kernel_rfl
theorem k27_7 : P27 [1,1,0,0,0] = .region 2 (O27 [1,1,0,0,0]) false := by kernel_rfl
theorem r27_2 {Ax11 : Option Addr} {lx11 cx11 : Nat} {M : Mem} {call : CallM} {K : Array Value → Mem → R} :
    opsK Try.prog (fun _ => call) (O27 [1,1,0,0,0]) (O27 [1,1,0,0,0]).toList 0 #[g0,g1,g2,g3,g4,g5,g6,g7,g8,g9,g10,.slice Ax11 lx11 cx11,g12,g13,g14,g15,g16,g17,g18,g19,g20,g21,g22,g23,g24,g25,g26,g27,g28,g29,g30,g31,g32,g33,g34,g35,g36,g37,g38,g39,g40,g41,g42,g43,g44,g45,g46,g47] M K = K #[g0,g1,g2,g3,g4,g5,g6,g7,g8,g9,g10,.slice Ax11 lx11 cx11,g12,g13,g14,g15,.bool (((lx11 : Int)) == 0),.slice Ax11 lx11 cx11,.int .i64 ((lx11 : Int)),.bool (((lx11 : Int)) == 0),g20,g21,g22,g23,g24,g25,g26,g27,g28,g29,g30,g31,g32,g33,g34,g35,g36,g37,g38,g39,g40,g41,g42,g43,g44,g45,g46,g47] M := by kernel_rfl
theorem c27_8 : P27 [1,1,0,0,1] = .cond (.tmp 16) (P27 [1,1,0,0,1,0]) (P27 [1,1,0,0,1,1]) := by kernel_rfl
theorem k27_9 : P27 [1,1,0,0,1,0] = .seq (P27 [1,1,0,0,1,0,0]) (P27 [1,1,0,0,1,0,1]) := by kernel_rfl
theorem k27_10 : P27 [1,1,0,0,1,0,0] = .region 3 (O27 [1,1,0,0,1,0,0]) false := by kernel_rfl
theorem r27_3 {M : Mem} {call : CallM} {K : Array Value → Mem → R} :
    opsK Try.prog (fun _ => call) (O27 [1,1,0,0,1,0,0]) (O27 [1,1,0,0,1,0,0]).toList 0 #[g0,g1,g2,g3,g4,g5,g6,g7,g8,g9,g10,g11,g12,g13,g14,g15,g16,g17,g18,g19,g20,g21,g22,g23,g24,g25,g26,g27,g28,g29,g30,g31,g32,g33,g34,g35,g36,g37,g38,g39,g40,g41,g42,g43,g44,g45,g46,g47] M K = K #[g0,g1,g2,g3,g4,g5,g6,g7,g8,g9,.int .i64 2,g11,g12,g13,g14,g15,g16,g17,g18,g19,g20,g21,g22,g23,g24,g25,g26,g27,g28,g29,g30,g31,g32,g33,g34,g35,g36,g37,g38,g39,g40,g41,g42,g43,g44,g45,g46,g47] M := by kernel_rfl
theorem k27_11 : P27 [1,1,0,0,1,0,1] = .ret := by kernel_rfl
theorem e27 {M : Mem} : finish Try.prog Try.f27 #[g0,g1,g2,g3,g4,g5,g6,g7,g8,g9,g10,g11,g12,g13,g14,g15,g16,g17,g18,g19,g20,g21,g22,g23,g24,g25,g26,g27,g28,g29,g30,g31,g32,g33,g34,g35,g36,g37,g38,g39,g40,g41,g42,g43,g44,g45,g46,g47] M = some (g10, M) := by kernel_rfl
theorem k27_13 : P27 [1,1,0,0,1,1] = .seq (P27 [1,1,0,0,1,1,0]) (P27 [1,1,0,0,1,1,1]) := by kernel_rfl
theorem k27_14 : P27 [1,1,0,0,1,1,0] = .region 4 (O27 [1,1,0,0,1,1,0]) false := by kernel_rfl
theorem r27_4 {x1 : Int} {Ax11 : Option Addr} {lx11 cx11 : Nat} {M : Mem} {call : CallM} {K : Array Value → Mem → R} :
    opsK Try.prog (fun _ => call) (O27 [1,1,0,0,1,1,0]) (O27 [1,1,0,0,1,1,0]).toList 0 #[g0,.int .i64 x1,g2,g3,g4,g5,g6,g7,g8,g9,g10,.slice Ax11 lx11 cx11,g12,g13,g14,g15,g16,g17,g18,g19,g20,g21,g22,g23,g24,g25,g26,g27,g28,g29,g30,g31,g32,g33,g34,g35,g36,g37,g38,g39,g40,g41,g42,g43,g44,g45,g46,g47] M K = (call 49 #[.slice Ax11 lx11 cx11, .int .i64 x1] M).bind fun r_1 => (asB r_1.1).bind fun b_2 => K #[g0,.int .i64 x1,g2,g3,g4,g5,g6,g7,g8,g9,g10,.slice Ax11 lx11 cx11,g12,g13,g14,g15,g16,g17,g18,g19,.bool (!b_2),.slice Ax11 lx11 cx11,.int .i64 x1,.bool b_2,.bool (!b_2),g25,g26,g27,g28,g29,g30,g31,g32,g33,g34,g35,g36,g37,g38,g39,g40,g41,g42,g43,g44,g45,g46,g47] r_1.2 := by kernel_rfl
theorem c27_15 : P27 [1,1,0,0,1,1,1] = .cond (.tmp 20) (P27 [1,1,0,0,1,1,1,0]) (P27 [1,1,0,0,1,1,1,1]) := by kernel_rfl
theorem k27_16 : P27 [1,1,0,0,1,1,1,0] = .seq (P27 [1,1,0,0,1,1,1,0,0]) (P27 [1,1,0,0,1,1,1,0,1]) := by kernel_rfl
theorem k27_17 : P27 [1,1,0,0,1,1,1,0,0] = .region 5 (O27 [1,1,0,0,1,1,1,0,0]) false := by kernel_rfl
theorem r27_5 {M : Mem} {call : CallM} {K : Array Value → Mem → R} :
    opsK Try.prog (fun _ => call) (O27 [1,1,0,0,1,1,1,0,0]) (O27 [1,1,0,0,1,1,1,0,0]).toList 0 #[g0,g1,g2,g3,g4,g5,g6,g7,g8,g9,g10,g11,g12,g13,g14,g15,g16,g17,g18,g19,g20,g21,g22,g23,g24,g25,g26,g27,g28,g29,g30,g31,g32,g33,g34,g35,g36,g37,g38,g39,g40,g41,g42,g43,g44,g45,g46,g47] M K = K #[g0,g1,g2,g3,g4,g5,g6,g7,g8,g9,.int .i64 80,g11,g12,g13,g14,g15,g16,g17,g18,g19,g20,g21,g22,g23,g24,g25,g26,g27,g28,g29,g30,g31,g32,g33,g34,g35,g36,g37,g38,g39,g40,g41,g42,g43,g44,g45,g46,g47] M := by kernel_rfl
theorem k27_18 : P27 [1,1,0,0,1,1,1,0,1] = .ret := by kernel_rfl
theorem k27_19 : P27 [1,1,0,0,1,1,1,1] = .seq (P27 [1,1,0,0,1,1,1,1,0]) (P27 [1,1,0,0,1,1,1,1,1]) := by kernel_rfl
theorem k27_20 : P27 [1,1,0,0,1,1,1,1,0] = .region 6 (O27 [1,1,0,0,1,1,1,1,0]) false := by kernel_rfl
theorem r27_6 {Ax2 : Option Addr} {lx2 cx2 : Nat} {x3 : Int} {M : Mem} {call : CallM} {K : Array Value → Mem → R} :
    opsK Try.prog (fun _ => call) (O27 [1,1,0,0,1,1,1,1,0]) (O27 [1,1,0,0,1,1,1,1,0]).toList 0 #[g0,g1,.slice Ax2 lx2 cx2,.int .i64 x3,g4,g5,g6,g7,g8,g9,g10,g11,g12,g13,g14,g15,g16,g17,g18,g19,g20,g21,g22,g23,g24,g25,g26,g27,g28,g29,g30,g31,g32,g33,g34,g35,g36,g37,g38,g39,g40,g41,g42,g43,g44,g45,g46,g47] M K = K #[g0,g1,.slice Ax2 lx2 cx2,.int .i64 x3,g4,g5,g6,g7,g8,g9,g10,g11,g12,g13,g14,g15,g16,g17,g18,g19,g20,g21,g22,g23,g24,.bool (((lx2 : Int)) != (IntKind.i64.wrap (x3 * x3))),.slice Ax2 lx2 cx2,.int .i64 ((lx2 : Int)),.int .i64 x3,.int .i64 x3,.int .i64 (IntKind.i64.wrap (x3 * x3)),.bool (((lx2 : Int)) != (IntKind.i64.wrap (x3 * x3))),g32,g33,g34,g35,g36,g37,g38,g39,g40,g41,g42,g43,g44,g45,g46,g47] M := by kernel_rfl
theorem c27_21 : P27 [1,1,0,0,1,1,1,1,1] = .cond (.tmp 25) (P27 [1,1,0,0,1,1,1,1,1,0]) (P27 [1,1,0,0,1,1,1,1,1,1]) := by kernel_rfl
theorem k27_22 : P27 [1,1,0,0,1,1,1,1,1,0] = .seq (P27 [1,1,0,0,1,1,1,1,1,0,0]) (P27 [1,1,0,0,1,1,1,1,1,0,1]) := by kernel_rfl
theorem k27_23 : P27 [1,1,0,0,1,1,1,1,1,0,0] = .region 7 (O27 [1,1,0,0,1,1,1,1,1,0,0]) false := by kernel_rfl
theorem r27_7 {M : Mem} {call : CallM} {K : Array Value → Mem → R} :
    opsK Try.prog (fun _ => call) (O27 [1,1,0,0,1,1,1,1,1,0,0]) (O27 [1,1,0,0,1,1,1,1,1,0,0]).toList 0 #[g0,g1,g2,g3,g4,g5,g6,g7,g8,g9,g10,g11,g12,g13,g14,g15,g16,g17,g18,g19,g20,g21,g22,g23,g24,g25,g26,g27,g28,g29,g30,g31,g32,g33,g34,g35,g36,g37,g38,g39,g40,g41,g42,g43,g44,g45,g46,g47] M K = K #[g0,g1,g2,g3,g4,g5,g6,g7,g8,g9,.int .i64 2,g11,g12,g13,g14,g15,g16,g17,g18,g19,g20,g21,g22,g23,g24,g25,g26,g27,g28,g29,g30,g31,g32,g33,g34,g35,g36,g37,g38,g39,g40,g41,g42,g43,g44,g45,g46,g47] M := by kernel_rfl
theorem k27_24 : P27 [1,1,0,0,1,1,1,1,1,0,1] = .ret := by kernel_rfl
theorem k27_25 : P27 [1,1,0,0,1,1,1,1,1,1] = .skip := by kernel_rfl
theorem k27_26 : P27 [1,1,1] = .seq (P27 [1,1,1,0]) (P27 [1,1,1,1]) := by kernel_rfl
theorem k27_27 : P27 [1,1,1,0] = .seq (P27 [1,1,1,0,0]) (P27 [1,1,1,0,1]) := by kernel_rfl
theorem k27_28 : P27 [1,1,1,0,0] = .region 8 (O27 [1,1,1,0,0]) false := by kernel_rfl
theorem r27_8 {Ax2 : Option Addr} {lx2 cx2 : Nat} {M : Mem} {call : CallM} {K : Array Value → Mem → R} :
    opsK Try.prog (fun _ => call) (O27 [1,1,1,0,0]) (O27 [1,1,1,0,0]).toList 0 #[g0,g1,.slice Ax2 lx2 cx2,g3,g4,g5,g6,g7,g8,g9,g10,g11,g12,g13,g14,g15,g16,g17,g18,g19,g20,g21,g22,g23,g24,g25,g26,g27,g28,g29,g30,g31,g32,g33,g34,g35,g36,g37,g38,g39,g40,g41,g42,g43,g44,g45,g46,g47] M K = K #[g0,g1,.slice Ax2 lx2 cx2,g3,g4,g5,g6,g7,g8,g9,g10,g11,g12,g13,g14,g15,g16,g17,g18,g19,g20,g21,g22,g23,g24,g25,g26,g27,g28,g29,g30,g31,.slice Ax2 lx2 cx2,.int .i64 ((lx2 : Int)),.int .i64 0,g35,g36,g37,g38,g39,g40,g41,g42,g43,g44,g45,g46,g47] M := by kernel_rfl
theorem k27_29 : P27 [1,1,1,0,1] = .block 1 (P27 [1,1,1,0,1,0]) := by kernel_rfl
theorem k27_30 : P27 [1,1,1,0,1,0] = .loop (P27 [1,1,1,0,1,0,0]) := by kernel_rfl
theorem k27_31 : P27 [1,1,1,0,1,0,0] = .seq (P27 [1,1,1,0,1,0,0,0]) (P27 [1,1,1,0,1,0,0,1]) := by kernel_rfl
theorem k27_32 : P27 [1,1,1,0,1,0,0,0] = .region 9 (O27 [1,1,1,0,1,0,0,0]) false := by kernel_rfl
theorem r27_9 {x33 x34 : Int} {M : Mem} {call : CallM} {K : Array Value → Mem → R} :
    opsK Try.prog (fun _ => call) (O27 [1,1,1,0,1,0,0,0]) (O27 [1,1,1,0,1,0,0,0]).toList 0 #[g0,g1,g2,g3,g4,g5,g6,g7,g8,g9,g10,g11,g12,g13,g14,g15,g16,g17,g18,g19,g20,g21,g22,g23,g24,g25,g26,g27,g28,g29,g30,g31,g32,.int .i64 x33,.int .i64 x34,g35,g36,g37,g38,g39,g40,g41,g42,g43,g44,g45,g46,g47] M K = K #[g0,g1,g2,g3,g4,g5,g6,g7,g8,g9,g10,g11,g12,g13,g14,g15,g16,g17,g18,g19,g20,g21,g22,g23,g24,g25,g26,g27,g28,g29,g30,g31,g32,.int .i64 x33,.int .i64 x34,.bool (decide (x34 < x33)),g36,g37,g38,g39,g40,g41,g42,g43,g44,g45,g46,g47] M := by kernel_rfl
theorem k27_33 : P27 [1,1,1,0,1,0,0,1] = .seq (P27 [1,1,1,0,1,0,0,1,0]) (P27 [1,1,1,0,1,0,0,1,1]) := by kernel_rfl
theorem c27_34 : P27 [1,1,1,0,1,0,0,1,0] = .cond (.tmp 35) (P27 [1,1,1,0,1,0,0,1,0,0]) (P27 [1,1,1,0,1,0,0,1,0,1]) := by kernel_rfl
theorem k27_35 : P27 [1,1,1,0,1,0,0,1,0,0] = .skip := by kernel_rfl
theorem k27_36 : P27 [1,1,1,0,1,0,0,1,1] = .seq (P27 [1,1,1,0,1,0,0,1,1,0]) (P27 [1,1,1,0,1,0,0,1,1,1]) := by kernel_rfl
theorem k27_37 : P27 [1,1,1,0,1,0,0,1,1,0] = .block 2 (P27 [1,1,1,0,1,0,0,1,1,0,0]) := by kernel_rfl
theorem k27_38 : P27 [1,1,1,0,1,0,0,1,1,0,0] = .seq (P27 [1,1,1,0,1,0,0,1,1,0,0,0]) (P27 [1,1,1,0,1,0,0,1,1,0,0,1]) := by kernel_rfl
theorem k27_39 : P27 [1,1,1,0,1,0,0,1,1,0,0,0] = .region 10 (O27 [1,1,1,0,1,0,0,1,1,0,0,0]) false := by kernel_rfl
theorem r27_10 {Ax32 : Option Addr} {lx32 cx32 : Nat} {x34 : Int} {M : Mem} {call : CallM} {K : Array Value → Mem → R} :
    opsK Try.prog (fun _ => call) (O27 [1,1,1,0,1,0,0,1,1,0,0,0]) (O27 [1,1,1,0,1,0,0,1,1,0,0,0]).toList 0 #[g0,g1,g2,g3,g4,g5,g6,g7,g8,g9,g10,g11,g12,g13,g14,g15,g16,g17,g18,g19,g20,g21,g22,g23,g24,g25,g26,g27,g28,g29,g30,g31,.slice Ax32 lx32 cx32,g33,.int .i64 x34,g35,g36,g37,g38,g39,g40,g41,g42,g43,g44,g45,g46,g47] M K = (idxA Ax32 lx32 1 x34).bind fun a_1 => (M.intAt .i64 a_1.block a_1.off).bind fun x_2 => K #[g0,g1,g2,g3,g4,g5,g6,g7,g8,g9,g10,g11,g12,.int .i64 x_2,g14,g15,g16,g17,g18,g19,g20,g21,g22,g23,g24,g25,g26,g27,g28,g29,g30,g31,.slice Ax32 lx32 cx32,g33,.int .i64 x34,g35,.pointer (some a_1),.int .i64 x_2,g38,g39,g40,g41,g42,g43,g44,g45,g46,g47] M := by kernel_rfl
theorem k27_40 : P27 [1,1,1,0,1,0,0,1,1,0,0,1] = .seq (P27 [1,1,1,0,1,0,0,1,1,0,0,1,0]) (P27 [1,1,1,0,1,0,0,1,1,0,0,1,1]) := by kernel_rfl
theorem k27_41 : P27 [1,1,1,0,1,0,0,1,1,0,0,1,0] = .region 11 (O27 [1,1,1,0,1,0,0,1,1,0,0,1,0]) false := by kernel_rfl
theorem r27_11 {x4 x13 : Int} {M : Mem} {call : CallM} {K : Array Value → Mem → R} :
    opsK Try.prog (fun _ => call) (O27 [1,1,1,0,1,0,0,1,1,0,0,1,0]) (O27 [1,1,1,0,1,0,0,1,1,0,0,1,0]).toList 0 #[g0,g1,g2,g3,.int .i64 x4,g5,g6,g7,g8,g9,g10,g11,g12,.int .i64 x13,g14,g15,g16,g17,g18,g19,g20,g21,g22,g23,g24,g25,g26,g27,g28,g29,g30,g31,g32,g33,g34,g35,g36,g37,g38,g39,g40,g41,g42,g43,g44,g45,g46,g47] M K = withK (fun w42 w43 w44 w45 w46 M => K #[g0,g1,g2,g3,.int .i64 x4,g5,g6,g7,g8,g9,g10,g11,g12,.int .i64 x13,g14,g15,g16,g17,g18,g19,g20,g21,g22,g23,g24,g25,g26,g27,g28,g29,g30,g31,g32,g33,g34,g35,g36,g37,.int .i64 x13,.int .i64 x4,.int .i64 (IntKind.i64.wrap (0 - x4)),.bool (decide (x13 < (IntKind.i64.wrap (0 - x4)))),w42,w43,w44,w45,w46,g47] M) fun k => cond (decide (x13 < (IntKind.i64.wrap (0 - x4)))) (k (.bool true) undef undef undef (.bool true) M) (k (.bool false) (.int .i64 x13) (.int .i64 x4) (.bool (decide (x13 > x4))) (.bool (decide (x13 > x4))) M) := by kernel_rfl
theorem k27_42 : P27 [1,1,1,0,1,0,0,1,0,1] = .exit 1 := by kernel_rfl
theorem k27_43 : P27 [1,1,1,1] = .seq (P27 [1,1,1,1,0]) (P27 [1,1,1,1,1]) := by kernel_rfl
theorem k27_44 : P27 [1,1,1,1,0] = .region 14 (O27 [1,1,1,1,0]) false := by kernel_rfl
theorem r27_14 {M : Mem} {call : CallM} {K : Array Value → Mem → R} :
    opsK Try.prog (fun _ => call) (O27 [1,1,1,1,0]) (O27 [1,1,1,1,0]).toList 0 #[g0,g1,g2,g3,g4,g5,g6,g7,g8,g9,g10,g11,g12,g13,g14,g15,g16,g17,g18,g19,g20,g21,g22,g23,g24,g25,g26,g27,g28,g29,g30,g31,g32,g33,g34,g35,g36,g37,g38,g39,g40,g41,g42,g43,g44,g45,g46,g47] M K = K #[g0,g1,g2,g3,g4,g5,g6,g7,g8,g9,.int .i64 0,g11,g12,g13,g14,g15,g16,g17,g18,g19,g20,g21,g22,g23,g24,g25,g26,g27,g28,g29,g30,g31,g32,g33,g34,g35,g36,g37,g38,g39,g40,g41,g42,g43,g44,g45,g46,g47] M := by kernel_rfl
theorem k27_45 : P27 [1,1,1,1,1] = .ret := by kernel_rfl
theorem c27_46 : P27 [1,1,1,0,1,0,0,1,1,0,0,1,1] = .cond (.tmp 46) (P27 [1,1,1,0,1,0,0,1,1,0,0,1,1,0]) (P27 [1,1,1,0,1,0,0,1,1,0,0,1,1,1]) := by kernel_rfl
theorem k27_47 : P27 [1,1,1,0,1,0,0,1,1,0,0,1,1,0] = .seq (P27 [1,1,1,0,1,0,0,1,1,0,0,1,1,0,0]) (P27 [1,1,1,0,1,0,0,1,1,0,0,1,1,0,1]) := by kernel_rfl
theorem k27_48 : P27 [1,1,1,0,1,0,0,1,1,0,0,1,1,0,0] = .region 12 (O27 [1,1,1,0,1,0,0,1,1,0,0,1,1,0,0]) false := by kernel_rfl
theorem r27_12 {M : Mem} {call : CallM} {K : Array Value → Mem → R} :
    opsK Try.prog (fun _ => call) (O27 [1,1,1,0,1,0,0,1,1,0,0,1,1,0,0]) (O27 [1,1,1,0,1,0,0,1,1,0,0,1,1,0,0]).toList 0 #[g0,g1,g2,g3,g4,g5,g6,g7,g8,g9,g10,g11,g12,g13,g14,g15,g16,g17,g18,g19,g20,g21,g22,g23,g24,g25,g26,g27,g28,g29,g30,g31,g32,g33,g34,g35,g36,g37,g38,g39,g40,g41,g42,g43,g44,g45,g46,g47] M K = K #[g0,g1,g2,g3,g4,g5,g6,g7,g8,g9,.int .i64 2,g11,g12,g13,g14,g15,g16,g17,g18,g19,g20,g21,g22,g23,g24,g25,g26,g27,g28,g29,g30,g31,g32,g33,g34,g35,g36,g37,g38,g39,g40,g41,g42,g43,g44,g45,g46,g47] M := by kernel_rfl
theorem k27_49 : P27 [1,1,1,0,1,0,0,1,1,0,0,1,1,0,1] = .ret := by kernel_rfl
theorem k27_50 : P27 [1,1,1,0,1,0,0,1,1,0,0,1,1,1] = .skip := by kernel_rfl
theorem k27_51 : P27 [1,1,1,0,1,0,0,1,1,1] = .region 13 (O27 [1,1,1,0,1,0,0,1,1,1]) false := by kernel_rfl
theorem r27_13 {x34 : Int} {M : Mem} {call : CallM} {K : Array Value → Mem → R} :
    opsK Try.prog (fun _ => call) (O27 [1,1,1,0,1,0,0,1,1,1]) (O27 [1,1,1,0,1,0,0,1,1,1]).toList 0 #[g0,g1,g2,g3,g4,g5,g6,g7,g8,g9,g10,g11,g12,g13,g14,g15,g16,g17,g18,g19,g20,g21,g22,g23,g24,g25,g26,g27,g28,g29,g30,g31,g32,g33,.int .i64 x34,g35,g36,g37,g38,g39,g40,g41,g42,g43,g44,g45,g46,g47] M K = K #[g0,g1,g2,g3,g4,g5,g6,g7,g8,g9,g10,g11,g12,g13,g14,g15,g16,g17,g18,g19,g20,g21,g22,g23,g24,g25,g26,g27,g28,g29,g30,g31,g32,g33,.int .i64 (IntKind.i64.wrap (x34 + 1)),g35,g36,g37,g38,g39,g40,g41,g42,g43,g44,g45,g46,.int .i64 (IntKind.i64.wrap (x34 + 1))] M := by kernel_rfl
noncomputable def S27_1 : List Item := [.code (P27 [1,1,1,0,1,0,0]), .inLoop (P27 [1,1,1,0,1,0,0]), .inBlock 1, .code (P27 [1,1,1,1])]
def A27_1 (x4 : Int) (Ax32 : Option Addr) (lx32 cx32 : Nat) (x33 x34 : Int) (M : Mem) (Q : Value → Mem → Prop) : Prop := ∀ (g0 g1 g2 g3 g5 g6 g7 g8 g9 g10 g11 g12 g13 g14 g15 g16 g17 g18 g19 g20 g21 g22 g23 g24 g25 g26 g27 g28 g29 g30 g31 g35 g36 g37 g38 g39 g40 g41 g42 g43 g44 g45 g46 g47 : Value), Rn Try.prog Try.f27 S27_1 #[g0, g1, g2, g3, .int .i64 x4, g5, g6, g7, g8, g9, g10, g11, g12, g13, g14, g15, g16, g17, g18, g19, g20, g21, g22, g23, g24, g25, g26, g27, g28, g29, g30, g31, .slice Ax32 lx32 cx32, .int .i64 x33, .int .i64 x34, g35, g36, g37, g38, g39, g40, g41, g42, g43, g44, g45, g46, g47] M Q
noncomputable def S27_2 : List Item := [.code (P27 [1,1,1,0,1,0,0,1,1,0,0,1,1]), .inBlock 2, .code (P27 [1,1,1,0,1,0,0,1,1,1]), .inLoop (P27 [1,1,1,0,1,0,0]), .inBlock 1, .code (P27 [1,1,1,1])]
def A27_2 (x4 : Int) (Ax32 : Option Addr) (lx32 cx32 : Nat) (x33 x34 : Int) (x46 : Bool) (M : Mem) (Q : Value → Mem → Prop) : Prop := ∀ (g0 g1 g2 g3 g5 g6 g7 g8 g9 g10 g11 g12 g13 g14 g15 g16 g17 g18 g19 g20 g21 g22 g23 g24 g25 g26 g27 g28 g29 g30 g31 g35 g36 g37 g38 g39 g40 g41 g42 g43 g44 g45 g47 : Value), Rn Try.prog Try.f27 S27_2 #[g0, g1, g2, g3, .int .i64 x4, g5, g6, g7, g8, g9, g10, g11, g12, g13, g14, g15, g16, g17, g18, g19, g20, g21, g22, g23, g24, g25, g26, g27, g28, g29, g30, g31, .slice Ax32 lx32 cx32, .int .i64 x33, .int .i64 x34, g35, g36, g37, g38, g39, g40, g41, g42, g43, g44, g45, .bool x46, g47] M Q
theorem w27_0 {x0 x1 : Int} {Ax2 : Option Addr} {lx2 cx2 : Nat} {x3 x4 : Int} {M : Mem} {Q : Value → Mem → Prop} (H :
    Cn Try.prog 23 #[.int .i64 x0] M fun v1' N1' =>
     ∃ s2', asS v1' = some s2' ∧
     ((((s2'.2.1 : Int)) = 0 →
      Q (.int .i64 2) N1') ∧
      (((s2'.2.1 : Int)) ≠ 0 →
      Cn Try.prog 49 #[.slice s2'.1 s2'.2.1 s2'.2.2, .int .i64 x1] N1' fun v3' N3' =>
       ∃ b4', asB v3' = some b4' ∧
       (((!b4') = true →
        Q (.int .i64 80) N3') ∧
        ((!b4') = false →
        ((((lx2 : Int)) ≠ (IntKind.i64.wrap (x3 * x3)) →
         Q (.int .i64 2) N3') ∧
         (((lx2 : Int)) = (IntKind.i64.wrap (x3 * x3)) →
         A27_1 x4 Ax2 lx2 cx2 (lx2 : Int) 0 N3' Q))))))) :
    Cn Try.prog 27 #[.int .i64 x0, .int .i64 x1, .slice Ax2 lx2 cx2, .int .i64 x3, .int .i64 x4] M Q := by
  refine Cn.of b27 d27 t27 ?_
  refine Rn.seq k27_0 (Rn.region k27_1 (fun call K => r27_0) (Rch.leaf (Rn.seq k27_2 (Rn.region k27_3 (fun call K => r27_1) (Rch.call H fun v1' N1' H => Rch.ex H fun s2' H => Rch.leaf (Rn.seq k27_4 (Rn.block k27_5 (Rn.seq k27_6 (Rn.region k27_7 (fun call K => r27_2) ?_)))))))))
  refine Rch.leaf ?_
  refine Rn.cnd (v := ((s2'.2.1 : Int)) == 0) ⟨c27_8, rfl, by kernel_rfl⟩ (fun h => ?_) (fun h => ?_)
  · replace H := H.1 (eq_of_beq h)
    refine Rn.seq k27_9 (Rn.region k27_10 (fun call K => r27_3) (Rch.leaf ?_))
    exact Rn.ret k27_11 e27 H
  · replace H := H.2 (ne_of_beq_false h)
    refine Rn.seq k27_13 (Rn.region k27_14 (fun call K => r27_4) (Rch.call H fun v3' N3' H => Rch.ex H fun b4' H => Rch.leaf ?_))
    refine Rn.cnd (v := !b4') ⟨c27_15, rfl, by kernel_rfl⟩ (fun h => ?_) (fun h => ?_)
    · replace H := H.1 (h)
      refine Rn.seq k27_16 (Rn.region k27_17 (fun call K => r27_5) (Rch.leaf ?_))
      exact Rn.ret k27_18 e27 H
    · replace H := H.2 (h)
      refine Rn.seq k27_19 (Rn.region k27_20 (fun call K => r27_6) (Rch.leaf ?_))
      refine Rn.cnd (v := ((lx2 : Int)) != (IntKind.i64.wrap (x3 * x3))) ⟨c27_21, rfl, by kernel_rfl⟩ (fun h => ?_) (fun h => ?_)
      · replace H := H.1 (ne_of_bneT h)
        refine Rn.seq k27_22 (Rn.region k27_23 (fun call K => r27_7) (Rch.leaf ?_))
        exact Rn.ret k27_24 e27 H
      · replace H := H.2 (eq_of_bneF h)
        refine Rn.skip k27_25 (Rn.blk (Rn.seq k27_26 (Rn.seq k27_27 (Rn.region k27_28 (fun call K => r27_8) (Rch.leaf (Rn.block k27_29 (Rn.loop k27_30 ?_)))))))
        exact H _ _ _ _ _ _ _ _ _ _ _ _ _ _ _ _ _ _ _ _ _ _ _ _ _ _ _ _ _ _ _ _ _ _ _ _ _ _ _ _ _ _ _ _

theorem w27_1 {x4 : Int} {Ax32 : Option Addr} {lx32 cx32 : Nat} {x33 x34 : Int} {M : Mem} {Q : Value → Mem → Prop} (H :
    ((x34 < x33 →
     ∃ a5', idxA Ax32 lx32 1 x34 = some a5' ∧
     ∃ x6', M.intAt .i64 a5'.block a5'.off = some x6' ∧
     ((x6' < (IntKind.i64.wrap (0 - x4)) →
      A27_2 x4 Ax32 lx32 cx32 x33 x34 true M Q) ∧
      (¬ (x6' < (IntKind.i64.wrap (0 - x4))) →
      A27_2 x4 Ax32 lx32 cx32 x33 x34 (decide (x6' > x4)) M Q))) ∧
     (¬ (x34 < x33) →
     Q (.int .i64 0) M))) :
    A27_1 x4 Ax32 lx32 cx32 x33 x34 M Q := by
  intro g0 g1 g2 g3 g5 g6 g7 g8 g9 g10 g11 g12 g13 g14 g15 g16 g17 g18 g19 g20 g21 g22 g23 g24 g25 g26 g27 g28 g29 g30 g31 g35 g36 g37 g38 g39 g40 g41 g42 g43 g44 g45 g46 g47
  refine Rn.seq k27_31 (Rn.region k27_32 (fun call K => r27_9) (Rch.leaf (Rn.seq k27_33 ?_)))
  refine Rn.cnd (v := decide (x34 < x33)) ⟨c27_34, rfl, by kernel_rfl⟩ (fun h => ?_) (fun h => ?_)
  · replace H := H.1 (of_decide_eq_true h)
    refine Rn.skip k27_35 (Rn.seq k27_36 (Rn.block k27_37 (Rn.seq k27_38 (Rn.region k27_39 (fun call K => r27_10) (Rch.ex H fun a5' H => Rch.ex H fun x6' H => Rch.leaf (Rn.seq k27_40 (Rn.region k27_41 (fun call K => r27_11) ?_)))))))
    refine Rch.cB (fun h => ?_) (fun h => ?_)
    · replace H := H.1 (of_decide_eq_true h)
      refine Rch.leaf ?_
      exact H _ _ _ _ _ _ _ _ _ _ _ _ _ _ _ _ _ _ _ _ _ _ _ _ _ _ _ _ _ _ _ _ _ _ _ _ _ _ _ _ _ _ _
    · replace H := H.2 (of_decide_eq_false h)
      refine Rch.leaf ?_
      exact H _ _ _ _ _ _ _ _ _ _ _ _ _ _ _ _ _ _ _ _ _ _ _ _ _ _ _ _ _ _ _ _ _ _ _ _ _ _ _ _ _ _ _
  · replace H := H.2 (of_decide_eq_false h)
    refine Rn.exit k27_42 rfl (Rn.seq k27_43 (Rn.region k27_44 (fun call K => r27_14) (Rch.leaf ?_)))
    exact Rn.ret k27_45 e27 H

theorem w27_2 {x4 : Int} {Ax32 : Option Addr} {lx32 cx32 : Nat} {x33 x34 : Int} {x46 : Bool} {M : Mem} {Q : Value → Mem → Prop} (H :
    ((x46 = true →
     Q (.int .i64 2) M) ∧
     (x46 = false →
     A27_1 x4 Ax32 lx32 cx32 x33 (IntKind.i64.wrap (x34 + 1)) M Q))) :
    A27_2 x4 Ax32 lx32 cx32 x33 x34 x46 M Q := by
  intro g0 g1 g2 g3 g5 g6 g7 g8 g9 g10 g11 g12 g13 g14 g15 g16 g17 g18 g19 g20 g21 g22 g23 g24 g25 g26 g27 g28 g29 g30 g31 g35 g36 g37 g38 g39 g40 g41 g42 g43 g44 g45 g47
  refine Rn.cnd (v := x46) ⟨c27_46, rfl, by kernel_rfl⟩ (fun h => ?_) (fun h => ?_)
  · replace H := H.1 (h)
    refine Rn.seq k27_47 (Rn.region k27_48 (fun call K => r27_12) (Rch.leaf ?_))
    exact Rn.ret k27_49 e27 H
  · replace H := H.2 (h)
    refine Rn.skip k27_50 (Rn.blk (Rn.region k27_51 (fun call K => r27_13) (Rch.leaf (Rn.lp ?_))))
    exact H _ _ _ _ _ _ _ _ _ _ _ _ _ _ _ _ _ _ _ _ _ _ _ _ _ _ _ _ _ _ _ _ _ _ _ _ _ _ _ _ _ _ _ _


/-! ### zoetrope/txfm.clip: function 28 -/
noncomputable abbrev P28 (p : List Nat) : Code := subC (codeOf Try.f28) p
noncomputable abbrev O28 (p : List Nat) : Array Oper := opsOf (subC (codeOf Try.f28) p)
theorem b28 : Try.prog.funcs[28]? = some Try.f28 ∧ (Orc.tab Try.prog).lookup 28 = none := ⟨by kernel_rfl, by kernel_rfl⟩
theorem d28 : Try.f28.body = some (P28 []) := by kernel_rfl
theorem t28 {x0 : Int} : #[.int .i64 x0] ++ Array.replicate (Try.f28.ntmps - (#[.int .i64 x0] : Array Value).size) undef = #[.int .i64 x0,undef,undef,undef,undef,undef] := by kernel_rfl
theorem k28_0 : P28 [] = .seq (P28 [0]) (P28 [1]) := by kernel_rfl
theorem k28_1 : P28 [0] = .region 0 (O28 [0]) false := by kernel_rfl
theorem r28_0 {M : Mem} {call : CallM} {K : Array Value → Mem → R} :
    opsK Try.prog (fun _ => call) (O28 [0]) (O28 [0]).toList 0 #[g0,g1,g2,g3,g4,g5] M K = K #[g0,g1,.int .i64 0,g3,g4,g5] M := by kernel_rfl
theorem k28_2 : P28 [1] = .seq (P28 [1,0]) (P28 [1,1]) := by kernel_rfl
theorem k28_3 : P28 [1,0] = .region 1 (O28 [1,0]) false := by kernel_rfl
theorem r28_1 {x0 : Int} {M : Mem} {call : CallM} {K : Array Value → Mem → R} :
    opsK Try.prog (fun _ => call) (O28 [1,0]) (O28 [1,0]).toList 0 #[.int .i64 x0,g1,g2,g3,g4,g5] M K = K #[.int .i64 x0,g1,.int .i64 (if 32767 < if -32768 > x0 then -32768 else x0 then 32767 else if -32768 > x0 then -32768 else x0),.int .i64 x0,.int .i64 (if -32768 > x0 then -32768 else x0),.int .i64 (if 32767 < if -32768 > x0 then -32768 else x0 then 32767 else if -32768 > x0 then -32768 else x0)] M := by kernel_rfl
theorem k28_4 : P28 [1,1] = .ret := by kernel_rfl
theorem e28 {M : Mem} : finish Try.prog Try.f28 #[g0,g1,g2,g3,g4,g5] M = some (g2, M) := by kernel_rfl
theorem w28_0 {x0 : Int} {M : Mem} {Q : Value → Mem → Prop} (H :
    Q (.int .i64 (if 32767 < if -32768 > x0 then -32768 else x0 then 32767 else if -32768 > x0 then -32768 else x0)) M) :
    Cn Try.prog 28 #[.int .i64 x0] M Q := by
  refine Cn.of b28 d28 t28 ?_
  refine Rn.seq k28_0 (Rn.region k28_1 (fun call K => r28_0) (Rch.leaf (Rn.seq k28_2 (Rn.region k28_3 (fun call K => r28_1) (Rch.leaf ?_)))))
  exact Rn.ret k28_4 e28 H


/-! ### zoetrope/txfm.kinds: function 29 -/
noncomputable abbrev P29 (p : List Nat) : Code := subC (codeOf Try.f29) p
noncomputable abbrev O29 (p : List Nat) : Array Oper := opsOf (subC (codeOf Try.f29) p)
theorem b29 : Try.prog.funcs[29]? = some Try.f29 ∧ (Orc.tab Try.prog).lookup 29 = none := ⟨by kernel_rfl, by kernel_rfl⟩
theorem d29 : Try.f29.body = some (P29 []) := by kernel_rfl
theorem t29 {x0 : Int} : #[.int .i64 x0] ++ Array.replicate (Try.f29.ntmps - (#[.int .i64 x0] : Array Value).size) undef = #[.int .i64 x0,undef,undef,undef,undef,undef,undef,undef,undef,undef] := by kernel_rfl
theorem k29_0 : P29 [] = .seq (P29 [0]) (P29 [1]) := by kernel_rfl
theorem k29_1 : P29 [0] = .region 0 (O29 [0]) false := by kernel_rfl
theorem r29_0 {M : Mem} {call : CallM} {K : Array Value → Mem → R} :
    opsK Try.prog (fun _ => call) (O29 [0]) (O29 [0]).toList 0 #[g0,g1,g2,g3,g4,g5,g6,g7,g8,g9] M K = K #[g0,g1,.int .i64 0,.int .i64 0,g4,g5,g6,g7,g8,g9] M := by kernel_rfl
theorem k29_2 : P29 [1] = .seq (P29 [1,0]) (P29 [1,1]) := by kernel_rfl
theorem k29_3 : P29 [1,0] = .seq (P29 [1,0,0]) (P29 [1,0,1]) := by kernel_rfl
theorem k29_4 : P29 [1,0,0] = .region 1 (O29 [1,0,0]) false := by kernel_rfl
theorem r29_1 {x0 : Int} {M : Mem} {call : CallM} {K : Array Value → Mem → R} :
    opsK Try.prog (fun _ => call) (O29 [1,0,0]) (O29 [1,0,0]).toList 0 #[.int .i64 x0,g1,g2,g3,g4,g5,g6,g7,g8,g9] M K = K #[.int .i64 x0,g1,g2,g3,.int .i64 x0,.bool (x0 == 9),g6,g7,g8,g9] M := by kernel_rfl
theorem c29_5 : P29 [1,0,1] = .cond (.tmp 5) (P29 [1,0,1,0]) (P29 [1,0,1,1]) := by kernel_rfl
theorem k29_6 : P29 [1,0,1,0] = .seq (P29 [1,0,1,0,0]) (P29 [1,0,1,0,1]) := by kernel_rfl
theorem k29_7 : P29 [1,0,1,0,0] = .region 2 (O29 [1,0,1,0,0]) false := by kernel_rfl
theorem r29_2 {M : Mem} {call : CallM} {K : Array Value → Mem → R} :
    opsK Try.prog (fun _ => call) (O29 [1,0,1,0,0]) (O29 [1,0,1,0,0]).toList 0 #[g0,g1,g2,g3,g4,g5,g6,g7,g8,g9] M K = K #[g0,g1,.int .i64 3,.int .i64 3,g4,g5,g6,g7,g8,g9] M := by kernel_rfl
theorem k29_8 : P29 [1,0,1,0,1] = .ret := by kernel_rfl
theorem e29 {M : Mem} : finish Try.prog Try.f29 #[g0,g1,g2,g3,g4,g5,g6,g7,g8,g9] M = some (.tuple #[g2, g3], M) := by kernel_rfl
theorem k29_10 : P29 [1,0,1,1] = .skip := by kernel_rfl
theorem k29_11 : P29 [1,1] = .seq (P29 [1,1,0]) (P29 [1,1,1]) := by kernel_rfl
theorem k29_12 : P29 [1,1,0] = .region 3 (O29 [1,1,0]) false := by kernel_rfl
theorem r29_3 {x0 : Int} {M : Mem} {call : CallM} {K : Array Value → Mem → R} :
    opsK Try.prog (fun _ => call) (O29 [1,1,0]) (O29 [1,1,0]).toList 0 #[.int .i64 x0,g1,g2,g3,g4,g5,g6,g7,g8,g9] M K = K #[.int .i64 x0,g1,.int .i64 (x0.tmod 3),.int .i64 (IntKind.i64.wrap (x0.tdiv 3)),g4,g5,.int .i64 x0,.int .i64 (x0.tmod 3),.int .i64 x0,.int .i64 (IntKind.i64.wrap (x0.tdiv 3))] M := by kernel_rfl
theorem k29_13 : P29 [1,1,1] = .ret := by kernel_rfl
theorem w29_0 {x0 : Int} {M : Mem} {Q : Value → Mem → Prop} (H :
    ((x0 = 9 →
     Q (.tuple #[.int .i64 3, .int .i64 3]) M) ∧
     (x0 ≠ 9 →
     Q (.tuple #[.int .i64 (x0.tmod 3), .int .i64 (IntKind.i64.wrap (x0.tdiv 3))]) M))) :
    Cn Try.prog 29 #[.int .i64 x0] M Q := by
  refine Cn.of b29 d29 t29 ?_
  refine Rn.seq k29_0 (Rn.region k29_1 (fun call K => r29_0) (Rch.leaf (Rn.seq k29_2 (Rn.seq k29_3 (Rn.region k29_4 (fun call K => r29_1) (Rch.leaf ?_))))))
  refine Rn.cnd (v := x0 == 9) ⟨c29_5, rfl, by kernel_rfl⟩ (fun h => ?_) (fun h => ?_)
  · replace H := H.1 (eq_of_beq h)
    refine Rn.seq k29_6 (Rn.region k29_7 (fun call K => r29_2) (Rch.leaf ?_))
    exact Rn.ret k29_8 e29 H
  · replace H := H.2 (ne_of_beq_false h)
    refine Rn.skip k29_10 (Rn.seq k29_11 (Rn.region k29_12 (fun call K => r29_3) (Rch.leaf ?_)))
    exact Rn.ret k29_13 e29 H


/-! ### zoetrope/txfm.round: function 30 -/
noncomputable abbrev P30 (p : List Nat) : Code := subC (codeOf Try.f30) p
noncomputable abbrev O30 (p : List Nat) : Array Oper := opsOf (subC (codeOf Try.f30) p)
theorem b30 : Try.prog.funcs[30]? = some Try.f30 ∧ (Orc.tab Try.prog).lookup 30 = none := ⟨by kernel_rfl, by kernel_rfl⟩
theorem d30 : Try.f30.body = some (P30 []) := by kernel_rfl
theorem t30 {x0 x1 : Int} : #[.int .i64 x0,.int .i64 x1] ++ Array.replicate (Try.f30.ntmps - (#[.int .i64 x0,.int .i64 x1] : Array Value).size) undef = #[.int .i64 x0,.int .i64 x1,undef,undef,undef,undef,undef,undef,undef,undef,undef,undef] := by kernel_rfl
theorem k30_0 : P30 [] = .seq (P30 [0]) (P30 [1]) := by kernel_rfl
theorem k30_1 : P30 [0] = .region 0 (O30 [0]) false := by kernel_rfl
theorem r30_0 {x0 : Int} {M : Mem} {call : CallM} {K : Array Value → Mem → R} :
    opsK Try.prog (fun _ => call) (O30 [0]) (O30 [0]).toList 0 #[.int .i64 x0,g1,g2,g3,g4,g5,g6,g7,g8,g9,g10,g11] M K = K #[.int .i64 x0,g1,.pointer (some ⟨2 * M.nb.size, 0, none⟩),g3,.nilFunc,g5,g6,g7,g8,g9,g10,g11] (M.new (.cells #[.int .i64 x0] 3)) := by kernel_rfl
theorem k30_2 : P30 [1] = .seq (P30 [1,0]) (P30 [1,1]) := by kernel_rfl
theorem k30_3 : P30 [1,0] = .seq (P30 [1,0,0]) (P30 [1,0,1]) := by kernel_rfl
theorem k30_4 : P30 [1,0,0] = .region 1 (O30 [1,0,0]) false := by kernel_rfl
theorem r30_1 {x1 : Int} {x2 : Option Addr} {M : Mem} {call : CallM} {K : Array Value → Mem → R} :
    opsK Try.prog (fun _ => call) (O30 [1,0,0]) (O30 [1,0,0]).toList 0 #[g0,.int .i64 x1,.pointer x2,g3,g4,g5,g6,g7,g8,g9,g10,g11] M K = withK (fun w5 w6 w7 w8 w9 w10 M => K #[g0,.int .i64 x1,.pointer x2,g3,g4,w5,w6,w7,w8,w9,w10,g11] M) fun k => (x2).bind fun a_1 => (M.intAt .i64 a_1.block a_1.off).bind fun x_2 => cond (x_2 == 0) (k (.int .i64 x_2) (.bool (x_2 == 0)) (.bool true) undef undef (.bool true) M) (k (.int .i64 x_2) (.bool (x_2 == 0)) (.bool false) (.int .i64 x1) (.bool (x1 == 9)) (.bool (x1 == 9)) M) := by kernel_rfl
theorem c30_5 : P30 [1,0,1] = .cond (.tmp 10) (P30 [1,0,1,0]) (P30 [1,0,1,1]) := by kernel_rfl
theorem k30_6 : P30 [1,0,1,0] = .seq (P30 [1,0,1,0,0]) (P30 [1,0,1,0,1]) := by kernel_rfl
theorem k30_7 : P30 [1,0,1,0,0] = .region 2 (O30 [1,0,1,0,0]) false := by kernel_rfl
theorem r30_2 {M : Mem} {call : CallM} {K : Array Value → Mem → R} :
    opsK Try.prog (fun _ => call) (O30 [1,0,1,0,0]) (O30 [1,0,1,0,0]).toList 0 #[g0,g1,g2,g3,g4,g5,g6,g7,g8,g9,g10,g11] M K = K #[g0,g1,g2,g3,.func (.func 50) #[] #[],g5,g6,g7,g8,g9,g10,g11] M := by kernel_rfl
theorem k30_8 : P30 [1,0,1,0,1] = .ret := by kernel_rfl
theorem e30 {M : Mem} : finish Try.prog Try.f30 #[g0,g1,g2,g3,g4,g5,g6,g7,g8,g9,g10,g11] M = some (g4, M) := by kernel_rfl
theorem k30_10 : P30 [1,0,1,1] = .skip := by kernel_rfl
theorem k30_11 : P30 [1,1] = .seq (P30 [1,1,0]) (P30 [1,1,1]) := by kernel_rfl
theorem k30_12 : P30 [1,1,0] = .region 3 (O30 [1,1,0]) false := by kernel_rfl
theorem r30_3 {x2 : Option Addr} {M : Mem} {call : CallM} {K : Array Value → Mem → R} :
    opsK Try.prog (fun _ => call) (O30 [1,1,0]) (O30 [1,1,0]).toList 0 #[g0,g1,.pointer x2,g3,g4,g5,g6,g7,g8,g9,g10,g11] M K = K #[g0,g1,.pointer x2,g3,.func (.func 51) #[] #[.pointer x2],g5,g6,g7,g8,g9,g10,.func (.func 51) #[] #[.pointer x2]] M := by kernel_rfl
theorem k30_13 : P30 [1,1,1] = .ret := by kernel_rfl
noncomputable def S30_1 : List Item := [.code (P30 [1,0,1]), .code (P30 [1,1])]
def A30_1 (x2 : Option Addr) (x10 : Bool) (M : Mem) (Q : Value → Mem → Prop) : Prop := ∀ (g0 g1 g3 g4 g5 g6 g7 g8 g9 g11 : Value), Rn Try.prog Try.f30 S30_1 #[g0, g1, .pointer x2, g3, g4, g5, g6, g7, g8, g9, .bool x10, g11] M Q
theorem w30_0 {x0 x1 : Int} {M : Mem} {Q : Value → Mem → Prop} (H :
    ∃ x1', (M.new (.cells #[.int .i64 x0] 3)).intAt .i64 (2 * M.nb.size) 0 = some x1' ∧
    ((x1' = 0 →
     A30_1 (some ⟨2 * M.nb.size, 0, none⟩) true (M.new (.cells #[.int .i64 x0] 3)) Q) ∧
     (x1' ≠ 0 →
     A30_1 (some ⟨2 * M.nb.size, 0, none⟩) (x1 == 9) (M.new (.cells #[.int .i64 x0] 3)) Q))) :
    Cn Try.prog 30 #[.int .i64 x0, .int .i64 x1] M Q := by
  refine Cn.of b30 d30 t30 ?_
  refine Rn.seq k30_0 (Rn.region k30_1 (fun call K => r30_0) (Rch.leaf (Rn.seq k30_2 (Rn.seq k30_3 (Rn.region k30_4 (fun call K => r30_1) (Rch.bind (x := ⟨2 * M.nb.size, 0, none⟩) rfl (Rch.ex H fun x1' H => ?_)))))))
  refine Rch.cB (fun h => ?_) (fun h => ?_)
  · replace H := H.1 (eq_of_beq h)
    refine Rch.leaf ?_
    exact H _ _ _ _ _ _ _ _ _ _
  · replace H := H.2 (ne_of_beq_false h)
    refine Rch.leaf ?_
    exact H _ _ _ _ _ _ _ _ _ _

theorem w30_1 {x2 : Option Addr} {x10 : Bool} {M : Mem} {Q : Value → Mem → Prop} (H :
    ((x10 = true →
     Q (.func (.func 50) #[] #[]) M) ∧
     (x10 = false →
     Q (.func (.func 51) #[] #[.pointer x2]) M))) :
    A30_1 x2 x10 M Q := by
  intro g0 g1 g3 g4 g5 g6 g7 g8 g9 g11
  refine Rn.cnd (v := x10) ⟨c30_5, rfl, by kernel_rfl⟩ (fun h => ?_) (fun h => ?_)
  · replace H := H.1 (h)
    refine Rn.seq k30_6 (Rn.region k30_7 (fun call K => r30_2) (Rch.leaf ?_))
    exact Rn.ret k30_8 e30 H
  · replace H := H.2 (h)
    refine Rn.skip k30_10 (Rn.seq k30_11 (Rn.region k30_12 (fun call K => r30_3) (Rch.leaf ?_)))
    exact Rn.ret k30_13 e30 H


/-! ### zoetrope/txfm.clipped: function 35 -/
noncomputable abbrev P35 (p : List Nat) : Code := subC (codeOf Try.f35) p
noncomputable abbrev O35 (p : List Nat) : Array Oper := opsOf (subC (codeOf Try.f35) p)
theorem b35 : Try.prog.funcs[35]? = some Try.f35 ∧ (Orc.tab Try.prog).lookup 35 = none := ⟨by kernel_rfl, by kernel_rfl⟩
theorem d35 : Try.f35.body = some (P35 []) := by kernel_rfl
theorem t35 {x0 x1 : Int} : #[.int .i64 x0,.int .i64 x1] ++ Array.replicate (Try.f35.ntmps - (#[.int .i64 x0,.int .i64 x1] : Array Value).size) undef = #[.int .i64 x0,.int .i64 x1,undef,undef,undef,undef,undef,undef,undef,undef] := by kernel_rfl
theorem k35_0 : P35 [] = .seq (P35 [0]) (P35 [1]) := by kernel_rfl
theorem k35_1 : P35 [0] = .region 0 (O35 [0]) false := by kernel_rfl
theorem r35_0 {M : Mem} {call : CallM} {K : Array Value → Mem → R} :
    opsK Try.prog (fun _ => call) (O35 [0]) (O35 [0]).toList 0 #[g0,g1,g2,g3,g4,g5,g6,g7,g8,g9] M K = K #[g0,g1,g2,g3,.int .i64 0,g5,g6,g7,g8,g9] M := by kernel_rfl
theorem k35_2 : P35 [1] = .seq (P35 [1,0]) (P35 [1,1]) := by kernel_rfl
theorem k35_3 : P35 [1,0] = .seq (P35 [1,0,0]) (P35 [1,0,1]) := by kernel_rfl
theorem k35_4 : P35 [1,0,0] = .region 1 (O35 [1,0,0]) false := by kernel_rfl
theorem r35_1 {x1 : Int} {M : Mem} {call : CallM} {K : Array Value → Mem → R} :
    opsK Try.prog (fun _ => call) (O35 [1,0,0]) (O35 [1,0,0]).toList 0 #[g0,.int .i64 x1,g2,g3,g4,g5,g6,g7,g8,g9] M K = K #[g0,.int .i64 x1,g2,g3,g4,.int .i64 x1,.bool (x1 == 9),g7,g8,g9] M := by kernel_rfl
theorem c35_5 : P35 [1,0,1] = .cond (.tmp 6) (P35 [1,0,1,0]) (P35 [1,0,1,1]) := by kernel_rfl
theorem k35_6 : P35 [1,0,1,0] = .seq (P35 [1,0,1,0,0]) (P35 [1,0,1,0,1]) := by kernel_rfl
theorem k35_7 : P35 [1,0,1,0,0] = .region 2 (O35 [1,0,1,0,0]) false := by kernel_rfl
theorem r35_2 {x0 : Int} {M : Mem} {call : CallM} {K : Array Value → Mem → R} :
    opsK Try.prog (fun _ => call) (O35 [1,0,1,0,0]) (O35 [1,0,1,0,0]).toList 0 #[.int .i64 x0,g1,g2,g3,g4,g5,g6,g7,g8,g9] M K = K #[.int .i64 x0,g1,g2,g3,.int .i64 x0,g5,g6,.int .i64 x0,g8,g9] M := by kernel_rfl
theorem k35_8 : P35 [1,0,1,0,1] = .ret := by kernel_rfl
theorem e35 {M : Mem} : finish Try.prog Try.f35 #[g0,g1,g2,g3,g4,g5,g6,g7,g8,g9] M = some (g4, M) := by kernel_rfl
theorem k35_10 : P35 [1,0,1,1] = .skip := by kernel_rfl
theorem k35_11 : P35 [1,1] = .seq (P35 [1,1,0]) (P35 [1,1,1]) := by kernel_rfl
theorem k35_12 : P35 [1,1,0] = .region 3 (O35 [1,1,0]) false := by kernel_rfl
theorem r35_3 {x0 : Int} {M : Mem} {call : CallM} {K : Array Value → Mem → R} :
    opsK Try.prog (fun _ => call) (O35 [1,1,0]) (O35 [1,1,0]).toList 0 #[.int .i64 x0,g1,g2,g3,g4,g5,g6,g7,g8,g9] M K = (call 28 #[.int .i64 x0] M).bind fun r_1 => (asI .i64 r_1.1).bind fun x_2 => K #[.int .i64 x0,g1,g2,g3,.int .i64 x_2,g5,g6,g7,.int .i64 x0,.int .i64 x_2] r_1.2 := by kernel_rfl
theorem k35_13 : P35 [1,1,1] = .ret := by kernel_rfl
theorem w35_0 {x0 x1 : Int} {M : Mem} {Q : Value → Mem → Prop} (H :
    ((x1 = 9 →
     Q (.int .i64 x0) M) ∧
     (x1 ≠ 9 →
     Cn Try.prog 28 #[.int .i64 x0] M fun v1' N1' =>
      ∃ x2', asI .i64 v1' = some x2' ∧
      Q (.int .i64 (x2')) N1'))) :
    Cn Try.prog 35 #[.int .i64 x0, .int .i64 x1] M Q := by
  refine Cn.of b35 d35 t35 ?_
  refine Rn.seq k35_0 (Rn.region k35_1 (fun call K => r35_0) (Rch.leaf (Rn.seq k35_2 (Rn.seq k35_3 (Rn.region k35_4 (fun call K => r35_1) (Rch.leaf ?_))))))
  refine Rn.cnd (v := x1 == 9) ⟨c35_5, rfl, by kernel_rfl⟩ (fun h => ?_) (fun h => ?_)
  · replace H := H.1 (eq_of_beq h)
    refine Rn.seq k35_6 (Rn.region k35_7 (fun call K => r35_2) (Rch.leaf ?_))
    exact Rn.ret k35_8 e35 H
  · replace H := H.2 (ne_of_beq_false h)
    refine Rn.skip k35_10 (Rn.seq k35_11 (Rn.region k35_12 (fun call K => r35_3) (Rch.call H fun v1' N1' H => Rch.ex H fun x2' H => Rch.leaf ?_)))
    exact Rn.ret k35_13 e35 H


/-! ### zoetrope/txfm.round$1: function 50 -/
noncomputable abbrev P50 (p : List Nat) : Code := subC (codeOf Try.f50) p
noncomputable abbrev O50 (p : List Nat) : Array Oper := opsOf (subC (codeOf Try.f50) p)
theorem b50 : Try.prog.funcs[50]? = some Try.f50 ∧ (Orc.tab Try.prog).lookup 50 = none := ⟨by kernel_rfl, by kernel_rfl⟩
theorem d50 : Try.f50.body = some (P50 []) := by kernel_rfl
theorem t50 {x0 : Int} : #[.int .i64 x0] ++ Array.replicate (Try.f50.ntmps - (#[.int .i64 x0] : Array Value).size) undef = #[.int .i64 x0,undef,undef,undef] := by kernel_rfl
theorem k50_0 : P50 [] = .seq (P50 [0]) (P50 [1]) := by kernel_rfl
theorem k50_1 : P50 [0] = .region 0 (O50 [0]) false := by kernel_rfl
theorem r50_0 {M : Mem} {call : CallM} {K : Array Value → Mem → R} :
    opsK Try.prog (fun _ => call) (O50 [0]) (O50 [0]).toList 0 #[g0,g1,g2,g3] M K = K #[g0,g1,.int .i64 0,g3] M := by kernel_rfl
theorem k50_2 : P50 [1] = .seq (P50 [1,0]) (P50 [1,1]) := by kernel_rfl
theorem k50_3 : P50 [1,0] = .region 1 (O50 [1,0]) false := by kernel_rfl
theorem r50_1 {x0 : Int} {M : Mem} {call : CallM} {K : Array Value → Mem → R} :
    opsK Try.prog (fun _ => call) (O50 [1,0]) (O50 [1,0]).toList 0 #[.int .i64 x0,g1,g2,g3] M K = K #[.int .i64 x0,g1,.int .i64 x0,.int .i64 x0] M := by kernel_rfl
theorem k50_4 : P50 [1,1] = .ret := by kernel_rfl
theorem e50 {M : Mem} : finish Try.prog Try.f50 #[g0,g1,g2,g3] M = some (g2, M) := by kernel_rfl
theorem w50_0 {x0 : Int} {M : Mem} {Q : Value → Mem → Prop} (H :
    Q (.int .i64 x0) M) :
    Cn Try.prog 50 #[.int .i64 x0] M Q := by
  refine Cn.of b50 d50 t50 ?_
  refine Rn.seq k50_0 (Rn.region k50_1 (fun call K => r50_0) (Rch.leaf (Rn.seq k50_2 (Rn.region k50_3 (fun call K => r50_1) (Rch.leaf ?_)))))
  exact Rn.ret k50_4 e50 H


/-! ### zoetrope/txfm.round$2: function 51 -/
noncomputable abbrev P51 (p : List Nat) : Code := subC (codeOf Try.f51) p
noncomputable abbrev O51 (p : List Nat) : Array Oper := opsOf (subC (codeOf Try.f51) p)
theorem b51 : Try.prog.funcs[51]? = some Try.f51 ∧ (Orc.tab Try.prog).lookup 51 = none := ⟨by kernel_rfl, by kernel_rfl⟩
theorem d51 : Try.f51.body = some (P51 []) := by kernel_rfl
theorem t51 {x0 : Int} {x1 : Option Addr} : #[.int .i64 x0,.pointer x1] ++ Array.replicate (Try.f51.ntmps - (#[.int .i64 x0,.pointer x1] : Array Value).size) undef = #[.int .i64 x0,.pointer x1,undef,undef,undef,undef,undef,undef,undef,undef,undef] := by kernel_rfl
theorem k51_0 : P51 [] = .seq (P51 [0]) (P51 [1]) := by kernel_rfl
theorem k51_1 : P51 [0] = .region 0 (O51 [0]) false := by kernel_rfl
theorem r51_0 {M : Mem} {call : CallM} {K : Array Value → Mem → R} :
    opsK Try.prog (fun _ => call) (O51 [0]) (O51 [0]).toList 0 #[g0,g1,g2,g3,g4,g5,g6,g7,g8,g9,g10] M K = K #[g0,g1,g2,.int .i64 0,g4,g5,g6,g7,g8,g9,g10] M := by kernel_rfl
theorem k51_2 : P51 [1] = .seq (P51 [1,0]) (P51 [1,1]) := by kernel_rfl
theorem k51_3 : P51 [1,0] = .region 1 (O51 [1,0]) true ∧ drawOk (O51 [1,0]) = true := ⟨by kernel_rfl, by kernel_rfl⟩
theorem r51_1 {x0 : Int} {x1 : Option Addr} {M : Mem} {call : CallM} {K : Array Value → Mem → R} :
    opsI Try.prog (callAt call (O51 [1,0])) (O51 [1,0]) (ordOf (O51 [1,0])) [] #[.int .i64 x0,.pointer x1,g2,g3,g4,g5,g6,g7,g8,g9,g10] M K = (x1).bind fun a_1 => (M.intAt .i64 a_1.block a_1.off).bind fun x_2 => (binV Try.prog .shl 3 3 (.int .i64 1) (.int .i64 (IntKind.i64.wrap (x_2 - 1)))).bind fun v_3 => (asI .i64 v_3).bind fun x_4 => (x1).bind fun a_5 => (M.intAt .i64 a_5.block a_5.off).bind fun x_6 => (binV Try.prog .shr 3 3 (.int .i64 (IntKind.i64.wrap (x0 + x_4))) (.int .i64 x_6)).bind fun v_7 => (asI .i64 v_7).bind fun x_8 => K #[.int .i64 x0,.pointer x1,g2,.int .i64 x_8,.int .i64 x0,.int .i64 x_2,.int .i64 (IntKind.i64.wrap (x_2 - 1)),.int .i64 x_4,.int .i64 (IntKind.i64.wrap (x0 + x_4)),.int .i64 x_6,.int .i64 x_8] M := by kernel_rfl
theorem k51_4 : P51 [1,1] = .ret := by kernel_rfl
theorem e51 {M : Mem} : finish Try.prog Try.f51 #[g0,g1,g2,g3,g4,g5,g6,g7,g8,g9,g10] M = some (g3, M) := by kernel_rfl
theorem w51_0 {x0 : Int} {x1 : Option Addr} {M : Mem} {Q : Value → Mem → Prop} (H :
    ∃ a1', x1 = some a1' ∧
    ∃ x2', M.intAt .i64 a1'.block a1'.off = some x2' ∧
    ∃ v3', binV Try.prog .shl 3 3 (.int .i64 1) (.int .i64 (IntKind.i64.wrap (x2' - 1))) = some v3' ∧
    ∃ x4', asI .i64 v3' = some x4' ∧
    ∃ a5', x1 = some a5' ∧
    ∃ x6', M.intAt .i64 a5'.block a5'.off = some x6' ∧
    ∃ v7', binV Try.prog .shr 3 3 (.int .i64 (IntKind.i64.wrap (x0 + x4'))) (.int .i64 x6') = some v7' ∧
    ∃ x8', asI .i64 v7' = some x8' ∧
    Q (.int .i64 (x8')) M) :
    Cn Try.prog 51 #[.int .i64 x0, .pointer x1] M Q := by
  refine Cn.of b51 d51 t51 ?_
  refine Rn.seq k51_0 (Rn.region k51_1 (fun call K => r51_0) (Rch.leaf (Rn.seq k51_2 (Rn.regionD k51_3 (fun call K => r51_1) (Rch.ex H fun a1' H => Rch.ex H fun x2' H => Rch.ex H fun v3' H => Rch.ex H fun x4' H => Rch.ex H fun a5' H => Rch.ex H fun x6' H => Rch.ex H fun v7' H => ?_)))))
  refine Rch.ex H fun x8' H => Rch.leaf ?_
  exact Rn.ret k51_4 e51 H


/-! ### zoetrope/txfm.Inverse$1: function 34 -/
noncomputable abbrev P34 (p : List Nat) : Code := subC (codeOf Try.f34) p
noncomputable abbrev O34 (p : List Nat) : Array Oper := opsOf (subC (codeOf Try.f34) p)
theorem b34 : Try.prog.funcs[34]? = some Try.f34 ∧ (Orc.tab Try.prog).lookup 34 = none := ⟨by kernel_rfl, by kernel_rfl⟩
theorem d34 : Try.f34.body = some (P34 []) := by kernel_rfl
theorem t34 {x0 : Int} {x1 x2 : Option Addr} : #[.int .i64 x0,.pointer x1,.pointer x2] ++ Array.replicate (Try.f34.ntmps - (#[.int .i64 x0,.pointer x1,.pointer x2] : Array Value).size) undef = #[.int .i64 x0,.pointer x1,.pointer x2,undef,undef,undef,undef,undef,undef,undef] := by kernel_rfl
theorem k34_0 : P34 [] = .seq (P34 [0]) (P34 [1]) := by kernel_rfl
theorem k34_1 : P34 [0] = .region 0 (O34 [0]) false := by kernel_rfl
theorem r34_0 {M : Mem} {call : CallM} {K : Array Value → Mem → R} :
    opsK Try.prog (fun _ => call) (O34 [0]) (O34 [0]).toList 0 #[g0,g1,g2,g3,g4,g5,g6,g7,g8,g9] M K = K #[g0,g1,g2,g3,.int .i64 0,g5,g6,g7,g8,g9] M := by kernel_rfl
theorem k34_2 : P34 [1] = .seq (P34 [1,0]) (P34 [1,1]) := by kernel_rfl
theorem k34_3 : P34 [1,0] = .region 1 (O34 [1,0]) true ∧ drawOk (O34 [1,0]) = true := ⟨by kernel_rfl, by kernel_rfl⟩
theorem r34_1 {x0 : Int} {x1 x2 : Option Addr} {M : Mem} {call : CallM} {K : Array Value → Mem → R} :
    opsI Try.prog (callAt call (O34 [1,0])) (O34 [1,0]) (ordOf (O34 [1,0])) [] #[.int .i64 x0,.pointer x1,.pointer x2,g3,g4,g5,g6,g7,g8,g9] M K = (x1).bind fun a_1 => (M.cell a_1.block a_1.off).bind fun v_2 => (x2).bind fun a_3 => (M.intAt .i64 a_3.block a_3.off).bind fun x_4 => (callVal Try.prog v_2 #[.int .i64 x0]).bind fun q_6 => (floored call q_6.1 q_6.2 M).bind fun r_5 => (asI .i64 r_5.1).bind fun x_7 => (call 35 #[.int .i64 x_7, .int .i64 x_4] r_5.2).bind fun r_8 => (asI .i64 r_8.1).bind fun x_9 => K #[.int .i64 x0,.pointer x1,.pointer x2,g3,.int .i64 x_9,v_2,.int .i64 x0,.int .i64 x_7,.int .i64 x_4,.int .i64 x_9] r_8.2 := by kernel_rfl
theorem k34_4 : P34 [1,1] = .ret := by kernel_rfl
theorem e34 {M : Mem} : finish Try.prog Try.f34 #[g0,g1,g2,g3,g4,g5,g6,g7,g8,g9] M = some (g4, M) := by kernel_rfl
theorem w34_0 {x0 : Int} {x1 x2 : Option Addr} {M : Mem} {Q : Value → Mem → Prop} (H :
    ∃ a1', x1 = some a1' ∧
    ∃ v2', M.cell a1'.block a1'.off = some v2' ∧
    ∃ a3', x2 = some a3' ∧
    ∃ x4', M.intAt .i64 a3'.block a3'.off = some x4' ∧
    ∃ q5', callVal Try.prog v2' #[.int .i64 x0] = some q5' ∧
    Cn Try.prog q5'.1 q5'.2 { M with floor := M.nb.size } fun v6' N6' =>
     ∃ x7', asI .i64 v6' = some x7' ∧
     Cn Try.prog 35 #[.int .i64 x7', .int .i64 x4'] { N6' with floor := M.floor } fun v8' N8' =>
      ∃ x9', asI .i64 v8' = some x9' ∧
      Q (.int .i64 (x9')) N8') :
    Cn Try.prog 34 #[.int .i64 x0, .pointer x1, .pointer x2] M Q := by
  refine Cn.of b34 d34 t34 ?_
  refine Rn.seq k34_0 (Rn.region k34_1 (fun call K => r34_0) (Rch.leaf (Rn.seq k34_2 (Rn.regionD k34_3 (fun call K => r34_1) (Rch.ex H fun a1' H => Rch.ex H fun v2' H => Rch.ex H fun a3' H => Rch.ex H fun x4' H => Rch.ex H fun q5' H => Rch.callF H fun v6' N6' H => Rch.ex H fun x7' H => ?_)))))
  refine Rch.call H fun v8' N8' H => Rch.ex H fun x9' H => Rch.leaf ?_
  exact Rn.ret k34_4 e34 H


end Go.Zt

