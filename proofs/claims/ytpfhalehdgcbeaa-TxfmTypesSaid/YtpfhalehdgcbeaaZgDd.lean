/- The functions' walks: for each function and each loop a rule of what it comes to. Printed by zw.py. -/
import Derived.Test.YtpfhalehdgcbeaaProg
import Derived.Test.YtpfhalehdgcbeaaZgA
set_option linter.unusedVariables false
set_option maxRecDepth 100000
namespace Go.Zt
open Go Go.Sim Go.Proofs

variable {g0 g1 g2 g3 g4 g5 g6 g7 g8 g9 g10 g11 g12 g13 g14 g15 g16 g17 g18 g19 g20 g21 g22 g23 g24 g25 g26 g27 g28 g29 g30 g31 g32 g33 g34 g35 g36 g37 g38 g39 g40 g41 g42 g43 g44 g45 g46 g47 g48 g49 g50 g51 g52 g53 g54 g55 g56 g57 g58 g59 g60 g61 g62 g63 : Value}
/-! ### zoetrope/zoetroperef08.Types: function 26 -/
noncomputable abbrev P26 (p : List Nat) : Code := subC (codeOf Try.f26) p
noncomputable abbrev O26 (p : List Nat) : Array Oper := opsOf (subC (codeOf Try.f26) p)
theorem b26 : Try.prog.funcs[26]? = some Try.f26 ∧ (Orc.tab Try.prog).lookup 26 = none := ⟨by kernel_rfl, by kernel_rfl⟩
theorem d26 : Try.f26.body = some (P26 []) := by kernel_rfl
theorem t26 {x0 : Int} : #[.int .i64 x0] ++ Array.replicate (Try.f26.ntmps - (#[.int .i64 x0] : Array Value).size) undef = #[.int .i64 x0,undef,undef,undef,undef,undef,undef,undef,undef,undef,undef,undef,undef,undef,undef,undef,undef] := by kernel_rfl
theorem k26_0 : P26 [] = .seq (P26 [0]) (P26 [1]) := by kernel_rfl
theorem k26_1 : P26 [0] = .region 0 (O26 [0]) false := by kernel_rfl
theorem r26_0 {M : Mem} {call : CallM} {K : Array Value → Mem → R} :
    opsK Try.prog (fun _ => call) (O26 [0]) (O26 [0]).toList 0 #[g0,g1,g2,g3,g4,g5,g6,g7,g8,g9,g10,g11,g12,g13,g14,g15,g16] M K = K #[g0,g1,.slice none 0 0,g3,g4,g5,g6,g7,g8,g9,g10,g11,g12,g13,g14,g15,g16] M := by kernel_rfl
theorem k26_2 : P26 [1] = .seq (P26 [1,0]) (P26 [1,1]) := by kernel_rfl
theorem k26_3 : P26 [1,0] = .seq (P26 [1,0,0]) (P26 [1,0,1]) := by kernel_rfl
theorem k26_4 : P26 [1,0,0] = .region 1 (O26 [1,0,0]) false := by kernel_rfl
theorem r26_1 {x0 : Int} {M : Mem} {call : CallM} {K : Array Value → Mem → R} :
    opsK Try.prog (fun _ => call) (O26 [1,0,0]) (O26 [1,0,0]).toList 0 #[.int .i64 x0,g1,g2,g3,g4,g5,g6,g7,g8,g9,g10,g11,g12,g13,g14,g15,g16] M K = K #[.int .i64 x0,g1,g2,.int .i64 x0,g4,g5,g6,g7,g8,g9,g10,g11,g12,g13,g14,g15,g16] M := by kernel_rfl
theorem k26_5 : P26 [1,0,1] = .block 0 (P26 [1,0,1,0]) := by kernel_rfl
theorem k26_6 : P26 [1,0,1,0] = .seq (P26 [1,0,1,0,0]) (P26 [1,0,1,0,1]) := by kernel_rfl
theorem k26_7 : P26 [1,0,1,0,0] = .region 2 (O26 [1,0,1,0,0]) false := by kernel_rfl
theorem r26_2 {x3 : Int} {M : Mem} {call : CallM} {K : Array Value → Mem → R} :
    opsK Try.prog (fun _ => call) (O26 [1,0,1,0,0]) (O26 [1,0,1,0,0]).toList 0 #[g0,g1,g2,.int .i64 x3,g4,g5,g6,g7,g8,g9,g10,g11,g12,g13,g14,g15,g16] M K = K #[g0,g1,g2,.int .i64 x3,.bool (x3 == 4),.bool (x3 == 4),g6,g7,g8,g9,g10,g11,g12,g13,g14,g15,g16] M := by kernel_rfl
theorem c26_8 : P26 [1,0,1,0,1] = .cond (.tmp 4) (P26 [1,0,1,0,1,0]) (P26 [1,0,1,0,1,1]) := by kernel_rfl
theorem k26_9 : P26 [1,0,1,0,1,0] = .seq (P26 [1,0,1,0,1,0,0]) (P26 [1,0,1,0,1,0,1]) := by kernel_rfl
theorem k26_10 : P26 [1,0,1,0,1,0,0] = .region 3 (O26 [1,0,1,0,1,0,0]) false := by kernel_rfl
theorem r26_3 {M : Mem} {call : CallM} {K : Array Value → Mem → R} :
    opsK Try.prog (fun _ => call) (O26 [1,0,1,0,1,0,0]) (O26 [1,0,1,0,1,0,0]).toList 0 #[g0,g1,g2,g3,g4,g5,g6,g7,g8,g9,g10,g11,g12,g13,g14,g15,g16] M K = K #[g0,g1,.slice (some ⟨2 * M.nb.size, 0, none⟩) 10 10,g3,g4,g5,.slice (some ⟨2 * M.nb.size, 0, none⟩) 10 10,g7,g8,g9,g10,g11,g12,g13,g14,g15,g16] (M.new (.cells #[.int .i64 0, .int .i64 1, .int .i64 2, .int .i64 3, .int .i64 4, .int .i64 5, .int .i64 6, .int .i64 7, .int .i64 8, .int .i64 9] 3)) := by kernel_rfl
theorem k26_11 : P26 [1,0,1,0,1,0,1] = .ret := by kernel_rfl
theorem e26 {M : Mem} : finish Try.prog Try.f26 #[g0,g1,g2,g3,g4,g5,g6,g7,g8,g9,g10,g11,g12,g13,g14,g15,g16] M = some (g2, M) := by kernel_rfl
theorem k26_13 : P26 [1,0,1,0,1,1] = .seq (P26 [1,0,1,0,1,1,0]) (P26 [1,0,1,0,1,1,1]) := by kernel_rfl
theorem k26_14 : P26 [1,0,1,0,1,1,0] = .seq (P26 [1,0,1,0,1,1,0,0]) (P26 [1,0,1,0,1,1,0,1]) := by kernel_rfl
theorem k26_15 : P26 [1,0,1,0,1,1,0,0] = .region 4 (O26 [1,0,1,0,1,1,0,0]) false := by kernel_rfl
theorem r26_4 {x3 : Int} {M : Mem} {call : CallM} {K : Array Value → Mem → R} :
    opsK Try.prog (fun _ => call) (O26 [1,0,1,0,1,1,0,0]) (O26 [1,0,1,0,1,1,0,0]).toList 0 #[g0,g1,g2,.int .i64 x3,g4,g5,g6,g7,g8,g9,g10,g11,g12,g13,g14,g15,g16] M K = K #[g0,g1,g2,.int .i64 x3,g4,g5,g6,.bool (x3 == 8),.bool (x3 == 8),g9,g10,g11,g12,g13,g14,g15,g16] M := by kernel_rfl
theorem c26_16 : P26 [1,0,1,0,1,1,0,1] = .cond (.tmp 7) (P26 [1,0,1,0,1,1,0,1,0]) (P26 [1,0,1,0,1,1,0,1,1]) := by kernel_rfl
theorem k26_17 : P26 [1,0,1,0,1,1,0,1,0] = .skip := by kernel_rfl
theorem c26_18 : P26 [1,0,1,0,1,1,1] = .cond (.tmp 7) (P26 [1,0,1,0,1,1,1,0]) (P26 [1,0,1,0,1,1,1,1]) := by kernel_rfl
theorem k26_19 : P26 [1,0,1,0,1,1,1,0] = .seq (P26 [1,0,1,0,1,1,1,0,0]) (P26 [1,0,1,0,1,1,1,0,1]) := by kernel_rfl
theorem k26_20 : P26 [1,0,1,0,1,1,1,0,0] = .region 6 (O26 [1,0,1,0,1,1,1,0,0]) false := by kernel_rfl
theorem r26_6 {M : Mem} {call : CallM} {K : Array Value → Mem → R} :
    opsK Try.prog (fun _ => call) (O26 [1,0,1,0,1,1,1,0,0]) (O26 [1,0,1,0,1,1,1,0,0]).toList 0 #[g0,g1,g2,g3,g4,g5,g6,g7,g8,g9,g10,g11,g12,g13,g14,g15,g16] M K = K #[g0,g1,.slice (some ⟨2 * M.nb.size, 0, none⟩) 9 9,g3,g4,g5,g6,g7,g8,g9,.slice (some ⟨2 * M.nb.size, 0, none⟩) 9 9,g11,g12,g13,g14,g15,g16] (M.new (.cells #[.int .i64 0, .int .i64 1, .int .i64 2, .int .i64 3, .int .i64 4, .int .i64 5, .int .i64 6, .int .i64 7, .int .i64 8] 3)) := by kernel_rfl
theorem k26_21 : P26 [1,0,1,0,1,1,1,0,1] = .ret := by kernel_rfl
theorem k26_22 : P26 [1,0,1,0,1,1,1,1] = .seq (P26 [1,0,1,0,1,1,1,1,0]) (P26 [1,0,1,0,1,1,1,1,1]) := by kernel_rfl
theorem k26_23 : P26 [1,0,1,0,1,1,1,1,0] = .region 7 (O26 [1,0,1,0,1,1,1,1,0]) false := by kernel_rfl
theorem r26_7 {x3 : Int} {M : Mem} {call : CallM} {K : Array Value → Mem → R} :
    opsK Try.prog (fun _ => call) (O26 [1,0,1,0,1,1,1,1,0]) (O26 [1,0,1,0,1,1,1,1,0]).toList 0 #[g0,g1,g2,.int .i64 x3,g4,g5,g6,g7,g8,g9,g10,g11,g12,g13,g14,g15,g16] M K = K #[g0,g1,g2,.int .i64 x3,g4,g5,g6,g7,g8,g9,g10,.bool (x3 == 32),.bool (x3 == 32),g13,g14,g15,g16] M := by kernel_rfl
theorem c26_24 : P26 [1,0,1,0,1,1,1,1,1] = .cond (.tmp 11) (P26 [1,0,1,0,1,1,1,1,1,0]) (P26 [1,0,1,0,1,1,1,1,1,1]) := by kernel_rfl
theorem k26_25 : P26 [1,0,1,0,1,1,1,1,1,0] = .seq (P26 [1,0,1,0,1,1,1,1,1,0,0]) (P26 [1,0,1,0,1,1,1,1,1,0,1]) := by kernel_rfl
theorem k26_26 : P26 [1,0,1,0,1,1,1,1,1,0,0] = .region 8 (O26 [1,0,1,0,1,1,1,1,1,0,0]) false := by kernel_rfl
theorem r26_8 {M : Mem} {call : CallM} {K : Array Value → Mem → R} :
    opsK Try.prog (fun _ => call) (O26 [1,0,1,0,1,1,1,1,1,0,0]) (O26 [1,0,1,0,1,1,1,1,1,0,0]).toList 0 #[g0,g1,g2,g3,g4,g5,g6,g7,g8,g9,g10,g11,g12,g13,g14,g15,g16] M K = K #[g0,g1,.slice (some ⟨2 * M.nb.size, 0, none⟩) 2 2,g3,g4,g5,g6,g7,g8,g9,g10,g11,g12,.slice (some ⟨2 * M.nb.size, 0, none⟩) 2 2,g14,g15,g16] (M.new (.cells #[.int .i64 0, .int .i64 8] 3)) := by kernel_rfl
theorem k26_27 : P26 [1,0,1,0,1,1,1,1,1,0,1] = .ret := by kernel_rfl
theorem k26_28 : P26 [1,0,1,0,1,1,1,1,1,1] = .seq (P26 [1,0,1,0,1,1,1,1,1,1,0]) (P26 [1,0,1,0,1,1,1,1,1,1,1]) := by kernel_rfl
theorem k26_29 : P26 [1,0,1,0,1,1,1,1,1,1,0] = .region 9 (O26 [1,0,1,0,1,1,1,1,1,1,0]) false := by kernel_rfl
theorem r26_9 {x3 : Int} {M : Mem} {call : CallM} {K : Array Value → Mem → R} :
    opsK Try.prog (fun _ => call) (O26 [1,0,1,0,1,1,1,1,1,1,0]) (O26 [1,0,1,0,1,1,1,1,1,1,0]).toList 0 #[g0,g1,g2,.int .i64 x3,g4,g5,g6,g7,g8,g9,g10,g11,g12,g13,g14,g15,g16] M K = K #[g0,g1,g2,.int .i64 x3,g4,g5,g6,g7,g8,g9,g10,g11,g12,g13,.bool (x3 == 64),.bool (x3 == 64),g16] M := by kernel_rfl
theorem c26_30 : P26 [1,0,1,0,1,1,1,1,1,1,1] = .cond (.tmp 14) (P26 [1,0,1,0,1,1,1,1,1,1,1,0]) (P26 [1,0,1,0,1,1,1,1,1,1,1,1]) := by kernel_rfl
theorem k26_31 : P26 [1,0,1,0,1,1,1,1,1,1,1,0] = .seq (P26 [1,0,1,0,1,1,1,1,1,1,1,0,0]) (P26 [1,0,1,0,1,1,1,1,1,1,1,0,1]) := by kernel_rfl
theorem k26_32 : P26 [1,0,1,0,1,1,1,1,1,1,1,0,0] = .region 10 (O26 [1,0,1,0,1,1,1,1,1,1,1,0,0]) false := by kernel_rfl
theorem r26_10 {M : Mem} {call : CallM} {K : Array Value → Mem → R} :
    opsK Try.prog (fun _ => call) (O26 [1,0,1,0,1,1,1,1,1,1,1,0,0]) (O26 [1,0,1,0,1,1,1,1,1,1,1,0,0]).toList 0 #[g0,g1,g2,g3,g4,g5,g6,g7,g8,g9,g10,g11,g12,g13,g14,g15,g16] M K = K #[g0,g1,.slice (some ⟨2 * M.nb.size, 0, none⟩) 1 1,g3,g4,g5,g6,g7,g8,g9,g10,g11,g12,g13,g14,g15,.slice (some ⟨2 * M.nb.size, 0, none⟩) 1 1] (M.new (.cells #[.int .i64 0] 3)) := by kernel_rfl
theorem k26_33 : P26 [1,0,1,0,1,1,1,1,1,1,1,0,1] = .ret := by kernel_rfl
theorem k26_34 : P26 [1,0,1,0,1,1,1,1,1,1,1,1] = .skip := by kernel_rfl
theorem k26_35 : P26 [1,1] = .seq (P26 [1,1,0]) (P26 [1,1,1]) := by kernel_rfl
theorem k26_36 : P26 [1,1,0] = .region 11 (O26 [1,1,0]) false := by kernel_rfl
theorem r26_11 {M : Mem} {call : CallM} {K : Array Value → Mem → R} :
    opsK Try.prog (fun _ => call) (O26 [1,1,0]) (O26 [1,1,0]).toList 0 #[g0,g1,g2,g3,g4,g5,g6,g7,g8,g9,g10,g11,g12,g13,g14,g15,g16] M K = K #[g0,g1,.slice none 0 0,g3,g4,g5,g6,g7,g8,g9,g10,g11,g12,g13,g14,g15,g16] M := by kernel_rfl
theorem k26_37 : P26 [1,1,1] = .ret := by kernel_rfl
theorem k26_38 : P26 [1,0,1,0,1,1,0,1,1] = .region 5 (O26 [1,0,1,0,1,1,0,1,1]) false := by kernel_rfl
theorem r26_5 {x3 : Int} {M : Mem} {call : CallM} {K : Array Value → Mem → R} :
    opsK Try.prog (fun _ => call) (O26 [1,0,1,0,1,1,0,1,1]) (O26 [1,0,1,0,1,1,0,1,1]).toList 0 #[g0,g1,g2,.int .i64 x3,g4,g5,g6,g7,g8,g9,g10,g11,g12,g13,g14,g15,g16] M K = K #[g0,g1,g2,.int .i64 x3,g4,g5,g6,.bool (x3 == 16),g8,.bool (x3 == 16),g10,g11,g12,g13,g14,g15,g16] M := by kernel_rfl
theorem w26_0 {x0 : Int} {M : Mem} {Q : Value → Mem → Prop} (H :
    ((x0 = 4 →
     Q (.slice (some ⟨2 * M.nb.size, 0, none⟩) 10 10) (M.new (.cells #[.int .i64 0, .int .i64 1, .int .i64 2, .int .i64 3, .int .i64 4, .int .i64 5, .int .i64 6, .int .i64 7, .int .i64 8, .int .i64 9] 3))) ∧
     (x0 ≠ 4 →
     ((x0 = 8 →
      ((x0 = 8 →
       Q (.slice (some ⟨2 * M.nb.size, 0, none⟩) 9 9) (M.new (.cells #[.int .i64 0, .int .i64 1, .int .i64 2, .int .i64 3, .int .i64 4, .int .i64 5, .int .i64 6, .int .i64 7, .int .i64 8] 3))) ∧
       (x0 ≠ 8 →
       ((x0 = 32 →
        Q (.slice (some ⟨2 * M.nb.size, 0, none⟩) 2 2) (M.new (.cells #[.int .i64 0, .int .i64 8] 3))) ∧
        (x0 ≠ 32 →
        ((x0 = 64 →
         Q (.slice (some ⟨2 * M.nb.size, 0, none⟩) 1 1) (M.new (.cells #[.int .i64 0] 3))) ∧
         (x0 ≠ 64 →
         Q (.slice none 0 0) M))))))) ∧
      (x0 ≠ 8 →
      ((x0 = 16 →
       Q (.slice (some ⟨2 * M.nb.size, 0, none⟩) 9 9) (M.new (.cells #[.int .i64 0, .int .i64 1, .int .i64 2, .int .i64 3, .int .i64 4, .int .i64 5, .int .i64 6, .int .i64 7, .int .i64 8] 3))) ∧
       (x0 ≠ 16 →
       ((x0 = 32 →
        Q (.slice (some ⟨2 * M.nb.size, 0, none⟩) 2 2) (M.new (.cells #[.int .i64 0, .int .i64 8] 3))) ∧
        (x0 ≠ 32 →
        ((x0 = 64 →
         Q (.slice (some ⟨2 * M.nb.size, 0, none⟩) 1 1) (M.new (.cells #[.int .i64 0] 3))) ∧
         (x0 ≠ 64 →
         Q (.slice none 0 0) M))))))))))) :
    Cn Try.prog 26 #[.int .i64 x0] M Q := by
  refine Cn.of b26 d26 t26 ?_
  refine Rn.seq k26_0 (Rn.region k26_1 (fun call K => r26_0) (Rch.leaf (Rn.seq k26_2 (Rn.seq k26_3 (Rn.region k26_4 (fun call K => r26_1) (Rch.leaf (Rn.block k26_5 (Rn.seq k26_6 (Rn.region k26_7 (fun call K => r26_2) (Rch.leaf ?_))))))))))
  refine Rn.cnd (v := x0 == 4) ⟨c26_8, rfl, by kernel_rfl⟩ (fun h => ?_) (fun h => ?_)
  · replace H := H.1 (eq_of_beq h)
    refine Rn.seq k26_9 (Rn.region k26_10 (fun call K => r26_3) (Rch.leaf ?_))
    exact Rn.ret k26_11 e26 H
  · replace H := H.2 (ne_of_beq_false h)
    refine Rn.seq k26_13 (Rn.seq k26_14 (Rn.region k26_15 (fun call K => r26_4) (Rch.leaf ?_)))
    refine Rn.cnd (v := x0 == 8) ⟨c26_16, rfl, by kernel_rfl⟩ (fun h => ?_) (fun h => ?_)
    · replace H := H.1 (eq_of_beq h)
      refine Rn.skip k26_17 ?_
      refine Rn.cnd (v := x0 == 8) ⟨c26_18, rfl, by kernel_rfl⟩ (fun h => ?_) (fun h => ?_)
      · replace H := H.1 (eq_of_beq h)
        refine Rn.seq k26_19 (Rn.region k26_20 (fun call K => r26_6) (Rch.leaf ?_))
        exact Rn.ret k26_21 e26 H
      · replace H := H.2 (ne_of_beq_false h)
        refine Rn.seq k26_22 (Rn.region k26_23 (fun call K => r26_7) (Rch.leaf ?_))
        refine Rn.cnd (v := x0 == 32) ⟨c26_24, rfl, by kernel_rfl⟩ (fun h => ?_) (fun h => ?_)
        · replace H := H.1 (eq_of_beq h)
          refine Rn.seq k26_25 (Rn.region k26_26 (fun call K => r26_8) (Rch.leaf ?_))
          exact Rn.ret k26_27 e26 H
        · replace H := H.2 (ne_of_beq_false h)
          refine Rn.seq k26_28 (Rn.region k26_29 (fun call K => r26_9) (Rch.leaf ?_))
          refine Rn.cnd (v := x0 == 64) ⟨c26_30, rfl, by kernel_rfl⟩ (fun h => ?_) (fun h => ?_)
          · replace H := H.1 (eq_of_beq h)
            refine Rn.seq k26_31 (Rn.region k26_32 (fun call K => r26_10) (Rch.leaf ?_))
            exact Rn.ret k26_33 e26 H
          · replace H := H.2 (ne_of_beq_false h)
            refine Rn.skip k26_34 (Rn.blk (Rn.seq k26_35 (Rn.region k26_36 (fun call K => r26_11) (Rch.leaf ?_))))
            exact Rn.ret k26_37 e26 H
    · replace H := H.2 (ne_of_beq_false h)
      refine Rn.region k26_38 (fun call K => r26_5) (Rch.leaf ?_)
      refine Rn.cnd (v := x0 == 16) ⟨c26_18, rfl, by kernel_rfl⟩ (fun h => ?_) (fun h => ?_)
      · replace H := H.1 (eq_of_beq h)
        refine Rn.seq k26_19 (Rn.region k26_20 (fun call K => r26_6) (Rch.leaf ?_))
        exact Rn.ret k26_21 e26 H
      · replace H := H.2 (ne_of_beq_false h)
        refine Rn.seq k26_22 (Rn.region k26_23 (fun call K => r26_7) (Rch.leaf ?_))
        refine Rn.cnd (v := x0 == 32) ⟨c26_24, rfl, by kernel_rfl⟩ (fun h => ?_) (fun h => ?_)
        · replace H := H.1 (eq_of_beq h)
          refine Rn.seq k26_25 (Rn.region k26_26 (fun call K => r26_8) (Rch.leaf ?_))
          exact Rn.ret k26_27 e26 H
        · replace H := H.2 (ne_of_beq_false h)
          refine Rn.seq k26_28 (Rn.region k26_29 (fun call K => r26_9) (Rch.leaf ?_))
          refine Rn.cnd (v := x0 == 64) ⟨c26_30, rfl, by kernel_rfl⟩ (fun h => ?_) (fun h => ?_)
          · replace H := H.1 (eq_of_beq h)
            refine Rn.seq k26_31 (Rn.region k26_32 (fun call K => r26_10) (Rch.leaf ?_))
            exact Rn.ret k26_33 e26 H
          · replace H := H.2 (ne_of_beq_false h)
            refine Rn.skip k26_34 (Rn.blk (Rn.seq k26_35 (Rn.region k26_36 (fun call K => r26_11) (Rch.leaf ?_))))
            exact Rn.ret k26_37 e26 H


/-! ### zoetrope/zoetroperef08.Side: function 25 -/
noncomputable abbrev P25 (p : List Nat) : Code := subC (codeOf Try.f25) p
noncomputable abbrev O25 (p : List Nat) : Array Oper := opsOf (subC (codeOf Try.f25) p)
theorem b25 : Try.prog.funcs[25]? = some Try.f25 ∧ (Orc.tab Try.prog).lookup 25 = none := ⟨by kernel_rfl, by kernel_rfl⟩
theorem d25 : Try.f25.body = some (P25 []) := by kernel_rfl
theorem t25 {x0 : Int} : #[.int .i64 x0] ++ Array.replicate (Try.f25.ntmps - (#[.int .i64 x0] : Array Value).size) undef = #[.int .i64 x0,undef,undef,undef,undef,undef,undef,undef,undef,undef] := by kernel_rfl
theorem k25_0 : P25 [] = .seq (P25 [0]) (P25 [1]) := by kernel_rfl
theorem k25_1 : P25 [0] = .region 0 (O25 [0]) false := by kernel_rfl
theorem r25_0 {M : Mem} {call : CallM} {K : Array Value → Mem → R} :
    opsK Try.prog (fun _ => call) (O25 [0]) (O25 [0]).toList 0 #[g0,g1,g2,g3,g4,g5,g6,g7,g8,g9] M K = K #[g0,g1,.int .i64 0,.int .i64 0,g4,g5,g6,g7,g8,g9] M := by kernel_rfl
theorem k25_2 : P25 [1] = .seq (P25 [1,0]) (P25 [1,1]) := by kernel_rfl
theorem k25_3 : P25 [1,0] = .seq (P25 [1,0,0]) (P25 [1,0,1]) := by kernel_rfl
theorem k25_4 : P25 [1,0,0] = .region 1 (O25 [1,0,0]) false := by kernel_rfl
theorem r25_1 {x0 : Int} {M : Mem} {call : CallM} {K : Array Value → Mem → R} :
    opsK Try.prog (fun _ => call) (O25 [1,0,0]) (O25 [1,0,0]).toList 0 #[.int .i64 x0,g1,g2,g3,g4,g5,g6,g7,g8,g9] M K = (call 26 #[.int .i64 x0] M).bind fun r_1 => (asS r_1.1).bind fun s_2 => K #[.int .i64 x0,g1,g2,g3,.int .i64 x0,.slice s_2.1 (s_2.2.1) (s_2.2.2),.int .i64 ((s_2.2.1 : Int)),.bool (((s_2.2.1 : Int)) == 0),g8,g9] r_1.2 := by kernel_rfl
theorem c25_5 : P25 [1,0,1] = .cond (.tmp 7) (P25 [1,0,1,0]) (P25 [1,0,1,1]) := by kernel_rfl
theorem k25_6 : P25 [1,0,1,0] = .seq (P25 [1,0,1,0,0]) (P25 [1,0,1,0,1]) := by kernel_rfl
theorem k25_7 : P25 [1,0,1,0,0] = .region 2 (O25 [1,0,1,0,0]) false := by kernel_rfl
theorem r25_2 {M : Mem} {call : CallM} {K : Array Value → Mem → R} :
    opsK Try.prog (fun _ => call) (O25 [1,0,1,0,0]) (O25 [1,0,1,0,0]).toList 0 #[g0,g1,g2,g3,g4,g5,g6,g7,g8,g9] M K = K #[g0,g1,.int .i64 0,.int .i64 2,g4,g5,g6,g7,g8,g9] M := by kernel_rfl
theorem k25_8 : P25 [1,0,1,0,1] = .ret := by kernel_rfl
theorem e25 {M : Mem} : finish Try.prog Try.f25 #[g0,g1,g2,g3,g4,g5,g6,g7,g8,g9] M = some (.tuple #[g2, g3], M) := by kernel_rfl
theorem k25_10 : P25 [1,0,1,1] = .skip := by kernel_rfl
theorem k25_11 : P25 [1,1] = .seq (P25 [1,1,0]) (P25 [1,1,1]) := by kernel_rfl
theorem k25_12 : P25 [1,1,0] = .region 3 (O25 [1,1,0]) false := by kernel_rfl
theorem r25_3 {x0 : Int} {M : Mem} {call : CallM} {K : Array Value → Mem → R} :
    opsK Try.prog (fun _ => call) (O25 [1,1,0]) (O25 [1,1,0]).toList 0 #[.int .i64 x0,g1,g2,g3,g4,g5,g6,g7,g8,g9] M K = K #[.int .i64 x0,g1,.int .i64 (if 32 < x0 then 32 else x0),.int .i64 0,g4,g5,g6,g7,.int .i64 x0,.int .i64 (if 32 < x0 then 32 else x0)] M := by kernel_rfl
theorem k25_13 : P25 [1,1,1] = .ret := by kernel_rfl
theorem w25_0 {x0 : Int} {M : Mem} {Q : Value → Mem → Prop} (H :
    Cn Try.prog 26 #[.int .i64 x0] M fun v1' N1' =>
     ∃ s2', asS v1' = some s2' ∧
     ((((s2'.2.1 : Int)) = 0 →
      Q (.tuple #[.int .i64 0, .int .i64 2]) N1') ∧
      (((s2'.2.1 : Int)) ≠ 0 →
      Q (.tuple #[.int .i64 (if 32 < x0 then 32 else x0), .int .i64 0]) N1'))) :
    Cn Try.prog 25 #[.int .i64 x0] M Q := by
  refine Cn.of b25 d25 t25 ?_
  refine Rn.seq k25_0 (Rn.region k25_1 (fun call K => r25_0) (Rch.leaf (Rn.seq k25_2 (Rn.seq k25_3 (Rn.region k25_4 (fun call K => r25_1) (Rch.call H fun v1' N1' H => Rch.ex H fun s2' H => Rch.leaf ?_))))))
  refine Rn.cnd (v := ((s2'.2.1 : Int)) == 0) ⟨c25_5, rfl, by kernel_rfl⟩ (fun h => ?_) (fun h => ?_)
  · replace H := H.1 (eq_of_beq h)
    refine Rn.seq k25_6 (Rn.region k25_7 (fun call K => r25_2) (Rch.leaf ?_))
    exact Rn.ret k25_8 e25 H
  · replace H := H.2 (ne_of_beq_false h)
    refine Rn.skip k25_10 (Rn.seq k25_11 (Rn.region k25_12 (fun call K => r25_3) (Rch.leaf ?_)))
    exact Rn.ret k25_13 e25 H


end Go.Zt

