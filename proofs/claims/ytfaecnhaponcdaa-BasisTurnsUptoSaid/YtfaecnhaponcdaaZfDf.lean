/- The functions' walks: for each function and each loop a rule of what it comes to. Printed by zw.py. -/
import Derived.Test.YtfaecnhaponcdaaProg
import Derived.Test.YtfaecnhaponcdaaZfA
set_option linter.unusedVariables false
set_option maxRecDepth 100000
namespace Go.Zt
open Go Go.Sim Go.Proofs

variable {g0 g1 g2 g3 g4 g5 g6 g7 g8 g9 g10 g11 g12 g13 g14 g15 g16 g17 g18 g19 g20 : Value}
/-! ### zoetrope/zoetropelaw07.BasisCos: function 8 -/
noncomputable abbrev P8 (p : List Nat) : Code := subC (codeOf Try.f8) p
noncomputable abbrev O8 (p : List Nat) : Array Oper := opsOf (subC (codeOf Try.f8) p)
theorem b8 : Try.prog.funcs[8]? = some Try.f8 ∧ (Orc.tab Try.prog).lookup 8 = none := ⟨by kernel_rfl, by kernel_rfl⟩
theorem d8 : Try.f8.body = some (P8 []) := by kernel_rfl
theorem t8 {x0 : Int} : #[.int .i64 x0] ++ Array.replicate (Try.f8.ntmps - (#[.int .i64 x0] : Array Value).size) undef = #[.int .i64 x0,undef,undef,undef,undef,undef,undef,undef,undef,undef,undef,undef,undef,undef,undef,undef,undef,undef,undef,undef,undef] := by kernel_rfl
theorem k8_0 : P8 [] = .seq (P8 [0]) (P8 [1]) := by kernel_rfl
theorem k8_1 : P8 [0] = .region 0 (O8 [0]) false := by kernel_rfl
theorem r8_0 {M : Mem} {call : CallM} {K : Array Value → Mem → R} :
    opsK Try.prog (fun _ => call) (O8 [0]) (O8 [0]).toList 0 #[g0,g1,g2,g3,g4,g5,g6,g7,g8,g9,g10,g11,g12,g13,g14,g15,g16,g17,g18,g19,g20] M K = K #[g0,g1,.bool false,g3,g4,g5,g6,g7,g8,g9,g10,g11,g12,g13,g14,g15,g16,g17,g18,g19,g20] M := by kernel_rfl
theorem k8_2 : P8 [1] = .seq (P8 [1,0]) (P8 [1,1]) := by kernel_rfl
theorem k8_3 : P8 [1,0] = .seq (P8 [1,0,0]) (P8 [1,0,1]) := by kernel_rfl
theorem k8_4 : P8 [1,0,0] = .region 1 (O8 [1,0,0]) false := by kernel_rfl
theorem r8_1 {M : Mem} {call : CallM} {K : Array Value → Mem → R} :
    opsK Try.prog (fun _ => call) (O8 [1,0,0]) (O8 [1,0,0]).toList 0 #[g0,g1,g2,g3,g4,g5,g6,g7,g8,g9,g10,g11,g12,g13,g14,g15,g16,g17,g18,g19,g20] M K = K #[g0,g1,g2,.int .i64 (-300),g4,g5,g6,g7,g8,g9,g10,g11,g12,g13,g14,g15,g16,g17,g18,g19,g20] M := by kernel_rfl
theorem k8_5 : P8 [1,0,1] = .block 0 (P8 [1,0,1,0]) := by kernel_rfl
theorem k8_6 : P8 [1,0,1,0] = .loop (P8 [1,0,1,0,0]) := by kernel_rfl
theorem k8_7 : P8 [1,0,1,0,0] = .seq (P8 [1,0,1,0,0,0]) (P8 [1,0,1,0,0,1]) := by kernel_rfl
theorem k8_8 : P8 [1,0,1,0,0,0] = .seq (P8 [1,0,1,0,0,0,0]) (P8 [1,0,1,0,0,0,1]) := by kernel_rfl
theorem k8_9 : P8 [1,0,1,0,0,0,0] = .region 2 (O8 [1,0,1,0,0,0,0]) false := by kernel_rfl
theorem r8_2 {x3 : Int} {M : Mem} {call : CallM} {K : Array Value → Mem → R} :
    opsK Try.prog (fun _ => call) (O8 [1,0,1,0,0,0,0]) (O8 [1,0,1,0,0,0,0]).toList 0 #[g0,g1,g2,.int .i64 x3,g4,g5,g6,g7,g8,g9,g10,g11,g12,g13,g14,g15,g16,g17,g18,g19,g20] M K = K #[g0,g1,g2,.int .i64 x3,.int .i64 x3,.bool (decide (x3 < 600)),g6,g7,g8,g9,g10,g11,g12,g13,g14,g15,g16,g17,g18,g19,g20] M := by kernel_rfl
theorem c8_10 : P8 [1,0,1,0,0,0,1] = .cond (.tmp 5) (P8 [1,0,1,0,0,0,1,0]) (P8 [1,0,1,0,0,0,1,1]) := by kernel_rfl
theorem k8_11 : P8 [1,0,1,0,0,0,1,0] = .skip := by kernel_rfl
theorem k8_12 : P8 [1,0,1,0,0,1] = .seq (P8 [1,0,1,0,0,1,0]) (P8 [1,0,1,0,0,1,1]) := by kernel_rfl
theorem k8_13 : P8 [1,0,1,0,0,1,0] = .block 1 (P8 [1,0,1,0,0,1,0,0]) := by kernel_rfl
theorem k8_14 : P8 [1,0,1,0,0,1,0,0] = .seq (P8 [1,0,1,0,0,1,0,0,0]) (P8 [1,0,1,0,0,1,0,0,1]) := by kernel_rfl
theorem k8_15 : P8 [1,0,1,0,0,1,0,0,0] = .region 4 (O8 [1,0,1,0,0,1,0,0,0]) false := by kernel_rfl
theorem r8_4 {x3 : Int} {M : Mem} {call : CallM} {K : Array Value → Mem → R} :
    opsK Try.prog (fun _ => call) (O8 [1,0,1,0,0,1,0,0,0]) (O8 [1,0,1,0,0,1,0,0,0]).toList 0 #[g0,g1,g2,.int .i64 x3,g4,g5,g6,g7,g8,g9,g10,g11,g12,g13,g14,g15,g16,g17,g18,g19,g20] M K = (call 21 #[.int .i64 x3] M).bind fun r_1 => (asI .i64 r_1.1).bind fun x_2 => (call 22 #[.int .i64 x3] r_1.2).bind fun r_3 => (asI .i64 r_3.1).bind fun x_4 => K #[g0,g1,g2,.int .i64 x3,g4,g5,g6,g7,.int .i64 x3,.int .i64 x_2,.int .i64 x3,.int .i64 x_4,.bool (x_2 != x_4),g13,g14,g15,g16,g17,g18,g19,g20] r_3.2 := by kernel_rfl
theorem c8_16 : P8 [1,0,1,0,0,1,0,0,1] = .cond (.tmp 12) (P8 [1,0,1,0,0,1,0,0,1,0]) (P8 [1,0,1,0,0,1,0,0,1,1]) := by kernel_rfl
theorem k8_17 : P8 [1,0,1,0,0,1,0,0,1,0] = .seq (P8 [1,0,1,0,0,1,0,0,1,0,0]) (P8 [1,0,1,0,0,1,0,0,1,0,1]) := by kernel_rfl
theorem k8_18 : P8 [1,0,1,0,0,1,0,0,1,0,0] = .region 5 (O8 [1,0,1,0,0,1,0,0,1,0,0]) false := by kernel_rfl
theorem r8_5 {M : Mem} {call : CallM} {K : Array Value → Mem → R} :
    opsK Try.prog (fun _ => call) (O8 [1,0,1,0,0,1,0,0,1,0,0]) (O8 [1,0,1,0,0,1,0,0,1,0,0]).toList 0 #[g0,g1,g2,g3,g4,g5,g6,g7,g8,g9,g10,g11,g12,g13,g14,g15,g16,g17,g18,g19,g20] M K = K #[g0,g1,.bool false,g3,g4,g5,g6,g7,g8,g9,g10,g11,g12,g13,g14,g15,g16,g17,g18,g19,g20] M := by kernel_rfl
theorem k8_19 : P8 [1,0,1,0,0,1,0,0,1,0,1] = .ret := by kernel_rfl
theorem e8 {M : Mem} : finish Try.prog Try.f8 #[g0,g1,g2,g3,g4,g5,g6,g7,g8,g9,g10,g11,g12,g13,g14,g15,g16,g17,g18,g19,g20] M = some (g2, M) := by kernel_rfl
theorem k8_21 : P8 [1,0,1,0,0,1,0,0,1,1] = .skip := by kernel_rfl
theorem k8_22 : P8 [1,0,1,0,0,1,1] = .region 3 (O8 [1,0,1,0,0,1,1]) false := by kernel_rfl
theorem r8_3 {x3 : Int} {M : Mem} {call : CallM} {K : Array Value → Mem → R} :
    opsK Try.prog (fun _ => call) (O8 [1,0,1,0,0,1,1]) (O8 [1,0,1,0,0,1,1]).toList 0 #[g0,g1,g2,.int .i64 x3,g4,g5,g6,g7,g8,g9,g10,g11,g12,g13,g14,g15,g16,g17,g18,g19,g20] M K = K #[g0,g1,g2,.int .i64 (IntKind.i64.wrap (x3 + 1)),g4,g5,.int .i64 x3,.int .i64 (IntKind.i64.wrap (x3 + 1)),g8,g9,g10,g11,g12,g13,g14,g15,g16,g17,g18,g19,g20] M := by kernel_rfl
theorem k8_23 : P8 [1,0,1,0,0,0,1,1] = .exit 0 := by kernel_rfl
theorem k8_24 : P8 [1,1] = .seq (P8 [1,1,0]) (P8 [1,1,1]) := by kernel_rfl
theorem k8_25 : P8 [1,1,0] = .region 6 (O8 [1,1,0]) false := by kernel_rfl
theorem r8_6 {x0 : Int} {M : Mem} {call : CallM} {K : Array Value → Mem → R} :
    opsK Try.prog (fun _ => call) (O8 [1,1,0]) (O8 [1,1,0]).toList 0 #[.int .i64 x0,g1,g2,g3,g4,g5,g6,g7,g8,g9,g10,g11,g12,g13,g14,g15,g16,g17,g18,g19,g20] M K = withK (fun w2 w14 w16 w17 w18 w19 w20 M => K #[.int .i64 x0,g1,w2,g3,g4,g5,g6,g7,g8,g9,g10,g11,g12,.int .i64 x0,w14,.int .i64 x0,w16,w17,w18,w19,w20] M) fun k => (call 21 #[.int .i64 x0] M).bind fun r_1 => (asI .i64 r_1.1).bind fun x_2 => (call 22 #[.int .i64 x0] r_1.2).bind fun r_3 => (asI .i64 r_3.1).bind fun x_4 => cond (x_2 == x_4) ((call 11 #[] r_3.2).bind fun r_5 => (asB r_5.1).bind fun b_6 => k (.bool b_6) (.int .i64 x_2) (.int .i64 x_4) (.bool (x_2 == x_4)) (.bool true) (.bool b_6) (.bool b_6) r_5.2) (k (.bool false) (.int .i64 x_2) (.int .i64 x_4) (.bool (x_2 == x_4)) (.bool false) undef (.bool false) r_3.2) := by kernel_rfl
theorem k8_26 : P8 [1,1,1] = .ret := by kernel_rfl
noncomputable def S8_1 : List Item := [.code (P8 [1,0,1,0,0]), .inLoop (P8 [1,0,1,0,0]), .inBlock 0, .code (P8 [1,1])]
def A8_1 (x0 x3 : Int) (M : Mem) (Q : Value → Mem → Prop) : Prop := ∀ (g1 g2 g4 g5 g6 g7 g8 g9 g10 g11 g12 g13 g14 g15 g16 g17 g18 g19 g20 : Value), Rn Try.prog Try.f8 S8_1 #[.int .i64 x0, g1, g2, .int .i64 x3, g4, g5, g6, g7, g8, g9, g10, g11, g12, g13, g14, g15, g16, g17, g18, g19, g20] M Q
theorem w8_0 {x0 : Int} {M : Mem} {Q : Value → Mem → Prop} (H :
    A8_1 x0 (-300) M Q) :
    Cn Try.prog 8 #[.int .i64 x0] M Q := by
  refine Cn.of b8 d8 t8 ?_
  refine Rn.seq k8_0 (Rn.region k8_1 (fun call K => r8_0) (Rch.leaf (Rn.seq k8_2 (Rn.seq k8_3 (Rn.region k8_4 (fun call K => r8_1) (Rch.leaf (Rn.block k8_5 (Rn.loop k8_6 ?_))))))))
  exact H _ _ _ _ _ _ _ _ _ _ _ _ _ _ _ _ _ _ _

theorem w8_1 {x0 x3 : Int} {M : Mem} {Q : Value → Mem → Prop} (H :
    ((x3 < 600 →
     Cn Try.prog 21 #[.int .i64 x3] M fun v1' N1' =>
      ∃ x2', asI .i64 v1' = some x2' ∧
      Cn Try.prog 22 #[.int .i64 x3] N1' fun v3' N3' =>
       ∃ x4', asI .i64 v3' = some x4' ∧
       ((x2' ≠ x4' →
        Q (.bool false) N3') ∧
        (x2' = x4' →
        A8_1 x0 (IntKind.i64.wrap (x3 + 1)) N3' Q))) ∧
     (¬ (x3 < 600) →
     Cn Try.prog 21 #[.int .i64 x0] M fun v5' N5' =>
      ∃ x6', asI .i64 v5' = some x6' ∧
      Cn Try.prog 22 #[.int .i64 x0] N5' fun v7' N7' =>
       ∃ x8', asI .i64 v7' = some x8' ∧
       ((x6' = x8' →
        Cn Try.prog 11 #[] N7' fun v9' N9' =>
         ∃ b10', asB v9' = some b10' ∧
         Q (.bool b10') N9') ∧
        (x6' ≠ x8' →
        Q (.bool false) N7'))))) :
    A8_1 x0 x3 M Q := by
  intro g1 g2 g4 g5 g6 g7 g8 g9 g10 g11 g12 g13 g14 g15 g16 g17 g18 g19 g20
  refine Rn.seq k8_7 (Rn.seq k8_8 (Rn.region k8_9 (fun call K => r8_2) (Rch.leaf ?_)))
  refine Rn.cnd (v := decide (x3 < 600)) ⟨c8_10, rfl, by kernel_rfl⟩ (fun h => ?_) (fun h => ?_)
  · replace H := H.1 (of_decide_eq_true h)
    refine Rn.skip k8_11 (Rn.seq k8_12 (Rn.block k8_13 (Rn.seq k8_14 (Rn.region k8_15 (fun call K => r8_4) (Rch.call H fun v1' N1' H => Rch.ex H fun x2' H => Rch.call H fun v3' N3' H => Rch.ex H fun x4' H => Rch.leaf ?_)))))
    refine Rn.cnd (v := x2' != x4') ⟨c8_16, rfl, by kernel_rfl⟩ (fun h => ?_) (fun h => ?_)
    · replace H := H.1 (ne_of_bneT h)
      refine Rn.seq k8_17 (Rn.region k8_18 (fun call K => r8_5) (Rch.leaf ?_))
      exact Rn.ret k8_19 e8 H
    · replace H := H.2 (eq_of_bneF h)
      refine Rn.skip k8_21 (Rn.blk (Rn.region k8_22 (fun call K => r8_3) (Rch.leaf (Rn.lp ?_))))
      exact H _ _ _ _ _ _ _ _ _ _ _ _ _ _ _ _ _ _ _
  · replace H := H.2 (of_decide_eq_false h)
    refine Rn.exit k8_23 rfl (Rn.seq k8_24 (Rn.region k8_25 (fun call K => r8_6) (Rch.call H fun v5' N5' H => Rch.ex H fun x6' H => Rch.call H fun v7' N7' H => Rch.ex H fun x8' H => ?_)))
    refine Rch.cB (fun h => ?_) (fun h => ?_)
    · replace H := H.1 (eq_of_beq h)
      refine Rch.call H fun v9' N9' H => Rch.ex H fun b10' H => Rch.leaf ?_
      exact Rn.ret k8_26 e8 H
    · replace H := H.2 (ne_of_beq_false h)
      refine Rch.leaf ?_
      exact Rn.ret k8_26 e8 H


end Go.Zt
