/- The functions' walks: for each function and each loop a rule of what it comes to. Printed by zw.py. -/
import Derived.Test.YtpfhalehdgcbeaaProg
import Derived.Test.YtpfhalehdgcbeaaZgA
set_option linter.unusedVariables false
set_option maxRecDepth 100000
namespace Go.Zt
open Go Go.Sim Go.Proofs

variable {g0 g1 g2 g3 g4 g5 g6 g7 g8 g9 gA gB gC gD gE gF gG gH gI gJ gK gL gM gN gO gP gQ gR gS gT gU gV gW gX gY gZ hA hB hC hD hE hF hG hH hI hJ hK hL hM hN hO hP hQ hR hS hT hU hV hW hX hY hZ h0 h1 : Value}
/-! ### zoetrope/zoetroperef08.Types: function 26 -/
noncomputable abbrev P26 (p : List Nat) : Code := subC (codeOf Try.f26) p
noncomputable abbrev O26 (p : List Nat) : Array Oper := opsOf (subC (codeOf Try.f26) p)
theorem b26 : Try.prog.funcs[26]? = some Try.f26 ∧ (Orc.tab Try.prog).lookup 26 = none := ⟨by kernel_rfl, by kernel_rfl⟩
theorem d26 : Try.f26.body = some (P26 []) := by kernel_rfl
theorem t26 {x0 : Int} : #[.int .i64 x0] ++ Array.replicate (Try.f26.ntmps - (#[.int .i64 x0] : Array Value).size) undef = #[.int .i64 x0,undef,undef,undef,undef,undef,undef,undef,undef,undef,undef,undef,undef,undef,undef,undef,undef] := by kernel_rfl
theorem k26_0 : P26 [] = .seq (P26 [0]) (P26 [1]) := by kernel_rfl
theorem k26_1 : P26 [0] = .region 0 (O26 [0]) false := by kernel_rfl
theorem r26_0 {M : Mem} {call : CallM} {K : Array Value → Mem → R} :
    opsK Try.prog (fun _ => call) (O26 [0]) (O26 [0]).toList 0 #[g0,g1,g2,g3,g4,g5,g6,g7,g8,g9,gA,gB,gC,gD,gE,gF,gG] M K = K #[g0,g1,.slice none 0 0,g3,g4,g5,g6,g7,g8,g9,gA,gB,gC,gD,gE,gF,gG] M := by kernel_rfl
theorem k26_2 : P26 [1] = .seq (P26 [1,0]) (P26 [1,1]) := by kernel_rfl
theorem k26_3 : P26 [1,0] = .seq (P26 [1,0,0]) (P26 [1,0,1]) := by kernel_rfl
theorem k26_4 : P26 [1,0,0] = .region 1 (O26 [1,0,0]) false := by kernel_rfl
theorem r26_1 {x0 : Int} {M : Mem} {call : CallM} {K : Array Value → Mem → R} :
    opsK Try.prog (fun _ => call) (O26 [1,0,0]) (O26 [1,0,0]).toList 0 #[.int .i64 x0,g1,g2,g3,g4,g5,g6,g7,g8,g9,gA,gB,gC,gD,gE,gF,gG] M K = K #[.int .i64 x0,g1,g2,.int .i64 x0,g4,g5,g6,g7,g8,g9,gA,gB,gC,gD,gE,gF,gG] M := by kernel_rfl
theorem k26_5 : P26 [1,0,1] = .block 0 (P26 [1,0,1,0]) := by kernel_rfl
theorem k26_6 : P26 [1,0,1,0] = .seq (P26 [1,0,1,0,0]) (P26 [1,0,1,0,1]) := by kernel_rfl
theorem k26_7 : P26 [1,0,1,0,0] = .region 2 (O26 [1,0,1,0,0]) false := by kernel_rfl
theorem r26_2 {x3 : Int} {M : Mem} {call : CallM} {K : Array Value → Mem → R} :
    opsK Try.prog (fun _ => call) (O26 [1,0,1,0,0]) (O26 [1,0,1,0,0]).toList 0 #[g0,g1,g2,.int .i64 x3,g4,g5,g6,g7,g8,g9,gA,gB,gC,gD,gE,gF,gG] M K = K #[g0,g1,g2,.int .i64 x3,.bool (x3 == 4),.bool (x3 == 4),g6,g7,g8,g9,gA,gB,gC,gD,gE,gF,gG] M := by kernel_rfl
theorem c26_8 : P26 [1,0,1,0,1] = .cond (.tmp 4) (P26 [1,0,1,0,1,0]) (P26 [1,0,1,0,1,1]) := by kernel_rfl
theorem k26_9 : P26 [1,0,1,0,1,0] = .seq (P26 [1,0,1,0,1,0,0]) (P26 [1,0,1,0,1,0,1]) := by kernel_rfl
theorem k26_10 : P26 [1,0,1,0,1,0,0] = .region 3 (O26 [1,0,1,0,1,0,0]) false := by kernel_rfl
theorem r26_3 {M : Mem} {call : CallM} {K : Array Value → Mem → R} :
    opsK Try.prog (fun _ => call) (O26 [1,0,1,0,1,0,0]) (O26 [1,0,1,0,1,0,0]).toList 0 #[g0,g1,g2,g3,g4,g5,g6,g7,g8,g9,gA,gB,gC,gD,gE,gF,gG] M K = K #[g0,g1,.slice (some ⟨2 * M.nb.size, 0, none⟩) 10 10,g3,g4,g5,.slice (some ⟨2 * M.nb.size, 0, none⟩) 10 10,g7,g8,g9,gA,gB,gC,gD,gE,gF,gG] (M.new (.cells #[.int .i64 0, .int .i64 1, .int .i64 2, .int .i64 3, .int .i64 4, .int .i64 5, .int .i64 6, .int .i64 7, .int .i64 8, .int .i64 9] 3)) := by kernel_rfl
theorem k26_11 : P26 [1,0,1,0,1,0,1] = .ret := by kernel_rfl
theorem e26 {M : Mem} : finish Try.prog Try.f26 #[g0,g1,g2,g3,g4,g5,g6,g7,g8,g9,gA,gB,gC,gD,gE,gF,gG] M = some (g2, M) := by kernel_rfl
theorem k26_13 : P26 [1,0,1,0,1,1] = .seq (P26 [1,0,1,0,1,1,0]) (P26 [1,0,1,0,1,1,1]) := by kernel_rfl
theorem k26_14 : P26 [1,0,1,0,1,1,0] = .seq (P26 [1,0,1,0,1,1,0,0]) (P26 [1,0,1,0,1,1,0,1]) := by kernel_rfl
theorem k26_15 : P26 [1,0,1,0,1,1,0,0] = .region 4 (O26 [1,0,1,0,1,1,0,0]) false := by kernel_rfl
theorem r26_4 {x3 : Int} {M : Mem} {call : CallM} {K : Array Value → Mem → R} :
    opsK Try.prog (fun _ => call) (O26 [1,0,1,0,1,1,0,0]) (O26 [1,0,1,0,1,1,0,0]).toList 0 #[g0,g1,g2,.int .i64 x3,g4,g5,g6,g7,g8,g9,gA,gB,gC,gD,gE,gF,gG] M K = K #[g0,g1,g2,.int .i64 x3,g4,g5,g6,.bool (x3 == 8),.bool (x3 == 8),g9,gA,gB,gC,gD,gE,gF,gG] M := by kernel_rfl
theorem c26_16 : P26 [1,0,1,0,1,1,0,1] = .cond (.tmp 7) (P26 [1,0,1,0,1,1,0,1,0]) (P26 [1,0,1,0,1,1,0,1,1]) := by kernel_rfl
theorem k26_17 : P26 [1,0,1,0,1,1,0,1,0] = .skip := by kernel_rfl
theorem c26_18 : P26 [1,0,1,0,1,1,1] = .cond (.tmp 7) (P26 [1,0,1,0,1,1,1,0]) (P26 [1,0,1,0,1,1,1,1]) := by kernel_rfl
theorem k26_19 : P26 [1,0,1,0,1,1,1,0] = .seq (P26 [1,0,1,0,1,1,1,0,0]) (P26 [1,0,1,0,1,1,1,0,1]) := by kernel_rfl
theorem k26_20 : P26 [1,0,1,0,1,1,1,0,0] = .region 6 (O26 [1,0,1,0,1,1,1,0,0]) false := by kernel_rfl
theorem r26_6 {M : Mem} {call : CallM} {K : Array Value → Mem → R} :
    opsK Try.prog (fun _ => call) (O26 [1,0,1,0,1,1,1,0,0]) (O26 [1,0,1,0,1,1,1,0,0]).toList 0 #[g0,g1,g2,g3,g4,g5,g6,g7,g8,g9,gA,gB,gC,gD,gE,gF,gG] M K = K #[g0,g1,.slice (some ⟨2 * M.nb.size, 0, none⟩) 9 9,g3,g4,g5,g6,g7,g8,g9,.slice (some ⟨2 * M.nb.size, 0, none⟩) 9 9,gB,gC,gD,gE,gF,gG] (M.new (.cells #[.int .i64 0, .int .i64 1, .int .i64 2, .int .i64 3, .int .i64 4, .int .i64 5, .int .i64 6, .int .i64 7, .int .i64 8] 3)) := by kernel_rfl
theorem k26_21 : P26 [1,0,1,0,1,1,1,0,1] = .ret := by kernel_rfl
theorem k26_22 : P26 [1,0,1,0,1,1,1,1] = .seq (P26 [1,0,1,0,1,1,1,1,0]) (P26 [1,0,1,0,1,1,1,1,1]) := by kernel_rfl
theorem k26_23 : P26 [1,0,1,0,1,1,1,1,0] = .region 7 (O26 [1,0,1,0,1,1,1,1,0]) false := by kernel_rfl
theorem r26_7 {x3 : Int} {M : Mem} {call : CallM} {K : Array Value → Mem → R} :
    opsK Try.prog (fun _ => call) (O26 [1,0,1,0,1,1,1,1,0]) (O26 [1,0,1,0,1,1,1,1,0]).toList 0 #[g0,g1,g2,.int .i64 x3,g4,g5,g6,g7,g8,g9,gA,gB,gC,gD,gE,gF,gG] M K = K #[g0,g1,g2,.int .i64 x3,g4,g5,g6,g7,g8,g9,gA,.bool (x3 == 32),.bool (x3 == 32),gD,gE,gF,gG] M := by kernel_rfl
theorem c26_24 : P26 [1,0,1,0,1,1,1,1,1] = .cond (.tmp 11) (P26 [1,0,1,0,1,1,1,1,1,0]) (P26 [1,0,1,0,1,1,1,1,1,1]) := by kernel_rfl
theorem k26_25 : P26 [1,0,1,0,1,1,1,1,1,0] = .seq (P26 [1,0,1,0,1,1,1,1,1,0,0]) (P26 [1,0,1,0,1,1,1,1,1,0,1]) := by kernel_rfl
theorem k26_26 : P26 [1,0,1,0,1,1,1,1,1,0,0] = .region 8 (O26 [1,0,1,0,1,1,1,1,1,0,0]) false := by kernel_rfl
theorem r26_8 {M : Mem} {call : CallM} {K : Array Value → Mem → R} :
    opsK Try.prog (fun _ => call) (O26 [1,0,1,0,1,1,1,1,1,0,0]) (O26 [1,0,1,0,1,1,1,1,1,0,0]).toList 0 #[g0,g1,g2,g3,g4,g5,g6,g7,g8,g9,gA,gB,gC,gD,gE,gF,gG] M K = K #[g0,g1,.slice (some ⟨2 * M.nb.size, 0, none⟩) 2 2,g3,g4,g5,g6,g7,g8,g9,gA,gB,gC,.slice (some ⟨2 * M.nb.size, 0, none⟩) 2 2,gE,gF,gG] (M.new (.cells #[.int .i64 0, .int .i64 8] 3)) := by kernel_rfl
theorem k26_27 : P26 [1,0,1,0,1,1,1,1,1,0,1] = .ret := by kernel_rfl
theorem k26_28 : P26 [1,0,1,0,1,1,1,1,1,1] = .seq (P26 [1,0,1,0,1,1,1,1,1,1,0]) (P26 [1,0,1,0,1,1,1,1,1,1,1]) := by kernel_rfl
theorem k26_29 : P26 [1,0,1,0,1,1,1,1,1,1,0] = .region 9 (O26 [1,0,1,0,1,1,1,1,1,1,0]) false := by kernel_rfl
theorem r26_9 {x3 : Int} {M : Mem} {call : CallM} {K : Array Value → Mem → R} :
    opsK Try.prog (fun _ => call) (O26 [1,0,1,0,1,1,1,1,1,1,0]) (O26 [1,0,1,0,1,1,1,1,1,1,0]).toList 0 #[g0,g1,g2,.int .i64 x3,g4,g5,g6,g7,g8,g9,gA,gB,gC,gD,gE,gF,gG] M K = K #[g0,g1,g2,.int .i64 x3,g4,g5,g6,g7,g8,g9,gA,gB,gC,gD,.bool (x3 == 64),.bool (x3 == 64),gG] M := by kernel_rfl
theorem c26_30 : P26 [1,0,1,0,1,1,1,1,1,1,1] = .cond (.tmp 14) (P26 [1,0,1,0,1,1,1,1,1,1,1,0]) (P26 [1,0,1,0,1,1,1,1,1,1,1,1]) := by kernel_rfl
theorem k26_31 : P26 [1,0,1,0,1,1,1,1,1,1,1,0] = .seq (P26 [1,0,1,0,1,1,1,1,1,1,1,0,0]) (P26 [1,0,1,0,1,1,1,1,1,1,1,0,1]) := by kernel_rfl
theorem k26_32 : P26 [1,0,1,0,1,1,1,1,1,1,1,0,0] = .region 10 (O26 [1,0,1,0,1,1,1,1,1,1,1,0,0]) false := by kernel_rfl
theorem r26_10 {M : Mem} {call : CallM} {K : Array Value → Mem → R} :
    opsK Try.prog (fun _ => call) (O26 [1,0,1,0,1,1,1,1,1,1,1,0,0]) (O26 [1,0,1,0,1,1,1,1,1,1,1,0,0]).toList 0 #[g0,g1,g2,g3,g4,g5,g6,g7,g8,g9,gA,gB,gC,gD,gE,gF,gG] M K = K #[g0,g1,.slice (some ⟨2 * M.nb.size, 0, none⟩) 1 1,g3,g4,g5,g6,g7,g8,g9,gA,gB,gC,gD,gE,gF,.slice (some ⟨2 * M.nb.size, 0, none⟩) 1 1] (M.new (.cells #[.int .i64 0] 3)) := by kernel_rfl
theorem k26_33 : P26 [1,0,1,0,1,1,1,1,1,1,1,0,1] = .ret := by kernel_rfl
theorem k26_34 : P26 [1,0,1,0,1,1,1,1,1,1,1,1] = .skip := by kernel_rfl
theorem k26_35 : P26 [1,1] = .seq (P26 [1,1,0]) (P26 [1,1,1]) := by kernel_rfl
theorem k26_36 : P26 [1,1,0] = .region 11 (O26 [1,1,0]) false := by kernel_rfl
theorem r26_11 {M : Mem} {call : CallM} {K : Array Value → Mem → R} :
    opsK Try.prog (fun _ => call) (O26 [1,1,0]) (O26 [1,1,0]).toList 0 #[g0,g1,g2,g3,g4,g5,g6,g7,g8,g9,gA,gB,gC,gD,gE,gF,gG] M K = K #[g0,g1,.slice none 0 0,g3,g4,g5,g6,g7,g8,g9,gA,gB,gC,gD,gE,gF,gG] M := by kernel_rfl
theorem k26_37 : P26 [1,1,1] = .ret := by kernel_rfl
theorem k26_38 : P26 [1,0,1,0,1,1,0,1,1] = .region 5 (O26 [1,0,1,0,1,1,0,1,1]) false := by kernel_rfl
theorem r26_5 {x3 : Int} {M : Mem} {call : CallM} {K : Array Value → Mem → R} :
    opsK Try.prog (fun _ => call) (O26 [1,0,1,0,1,1,0,1,1]) (O26 [1,0,1,0,1,1,0,1,1]).toList 0 #[g0,g1,g2,.int .i64 x3,g4,g5,g6,g7,g8,g9,gA,gB,gC,gD,gE,gF,gG] M K = K #[g0,g1,g2,.int .i64 x3,g4,g5,g6,.bool (x3 == 16),g8,.bool (x3 == 16),gA,gB,gC,gD,gE,gF,gG] M := by kernel_rfl
theorem w26_0 {x0 : Int} {M : Mem} {Q : Value → Mem → Prop} (H :
    ((x0 = 4 →
     Q (.slice (some ⟨2 * M.nb.size, 0, none⟩) 10 10) (M.new (.cells #[.int .i64 0, .int .i64 1, .int .i64 2, .int .i64 3, .int .i64 4, .int .i64 5, .int .i64 6, .int .i64 7, .int .i64 8, .int .i64 9] 3))) ∧
     (x0 ≠ 4 →
     ((x0 = 8 →
      ((x0 = 8 →
       Q (.slice (some ⟨2 * M.nb.size, 0, none⟩) 9 9) (M.new (.cells #[.int .i64 0, .int .i64 1, .int .i64 2, .int .i64 3, .int .i64 4, .int .i64 5, .int .i64 6, .int .i64 7, .int .i64 8] 3))) ∧
       (x0 ≠ 8 →
       ((x0 = 32 →
        Q (.slice (some ⟨2 * M.nb.size, 0, none⟩) 2 2) (M.new (.cells #[.int .i64 0, .int .i64 8] 3))) ∧
        (x0 ≠ 32 →
        ((x0 = 64 →
         Q (.slice (some ⟨2 * M.nb.size, 0, none⟩) 1 1) (M.new (.cells #[.int .i64 0] 3))) ∧
         (x0 ≠ 64 →
         Q (.slice none 0 0) M))))))) ∧
      (x0 ≠ 8 →
      ((x0 = 16 →
       Q (.slice (some ⟨2 * M.nb.size, 0, none⟩) 9 9) (M.new (.cells #[.int .i64 0, .int .i64 1, .int .i64 2, .int .i64 3, .int .i64 4, .int .i64 5, .int .i64 6, .int .i64 7, .int .i64 8] 3))) ∧
       (x0 ≠ 16 →
       ((x0 = 32 →
        Q (.slice (some ⟨2 * M.nb.size, 0, none⟩) 2 2) (M.new (.cells #[.int .i64 0, .int .i64 8] 3))) ∧
        (x0 ≠ 32 →
        ((x0 = 64 →
         Q (.slice (some ⟨2 * M.nb.size, 0, none⟩) 1 1) (M.new (.cells #[.int .i64 0] 3))) ∧
         (x0 ≠ 64 →
         Q (.slice none 0 0) M))))))))))) :
    Cn Try.prog 26 #[.int .i64 x0] M Q := by
  refine Cn.of b26 d26 t26 ?_
  refine Rn.seq k26_0 (Rn.region k26_1 (fun call K => r26_0) (Rch.leaf (Rn.seq k26_2 (Rn.seq k26_3 (Rn.region k26_4 (fun call K => r26_1) (Rch.leaf (Rn.block k26_5 (Rn.seq k26_6 (Rn.region k26_7 (fun call K => r26_2) (Rch.leaf ?_))))))))))
  refine Rn.cnd (v := x0 == 4) ⟨c26_8, rfl, by kernel_rfl⟩ (fun h => ?_) (fun h => ?_)
  · replace H := H.1 (eq_of_beq h)
    refine Rn.seq k26_9 (Rn.region k26_10 (fun call K => r26_3) (Rch.leaf ?_))
    exact Rn.ret k26_11 e26 H
  · replace H := H.2 (ne_of_beq_false h)
    refine Rn.seq k26_13 (Rn.seq k26_14 (Rn.region k26_15 (fun call K => r26_4) (Rch.leaf ?_)))
    refine Rn.cnd (v := x0 == 8) ⟨c26_16, rfl, by kernel_rfl⟩ (fun h => ?_) (fun h => ?_)
    · replace H := H.1 (eq_of_beq h)
      refine Rn.skip k26_17 ?_
      refine Rn.cnd (v := x0 == 8) ⟨c26_18, rfl, by kernel_rfl⟩ (fun h => ?_) (fun h => ?_)
      · replace H := H.1 (eq_of_beq h)
        refine Rn.seq k26_19 (Rn.region k26_20 (fun call K => r26_6) (Rch.leaf ?_))
        exact Rn.ret k26_21 e26 H
      · replace H := H.2 (ne_of_beq_false h)
        refine Rn.seq k26_22 (Rn.region k26_23 (fun call K => r26_7) (Rch.leaf ?_))
        refine Rn.cnd (v := x0 == 32) ⟨c26_24, rfl, by kernel_rfl⟩ (fun h => ?_) (fun h => ?_)
        · replace H := H.1 (eq_of_beq h)
          refine Rn.seq k26_25 (Rn.region k26_26 (fun call K => r26_8) (Rch.leaf ?_))
          exact Rn.ret k26_27 e26 H
        · replace H := H.2 (ne_of_beq_false h)
          refine Rn.seq k26_28 (Rn.region k26_29 (fun call K => r26_9) (Rch.leaf ?_))
          refine Rn.cnd (v := x0 == 64) ⟨c26_30, rfl, by kernel_rfl⟩ (fun h => ?_) (fun h => ?_)
          · replace H := H.1 (eq_of_beq h)
            refine Rn.seq k26_31 (Rn.region k26_32 (fun call K => r26_10) (Rch.leaf ?_))
            exact Rn.ret k26_33 e26 H
          · replace H := H.2 (ne_of_beq_false h)
            refine Rn.skip k26_34 (Rn.blk (Rn.seq k26_35 (Rn.region k26_36 (fun call K => r26_11) (Rch.leaf ?_))))
            exact Rn.ret k26_37 e26 H
    · replace H := H.2 (ne_of_beq_false h)
      refine Rn.region k26_38 (fun call K => r26_5) (Rch.leaf ?_)
      refine Rn.cnd (v := x0 == 16) ⟨c26_18, rfl, by kernel_rfl⟩ (fun h => ?_) (fun h => ?_)
      · replace H := H.1 (eq_of_beq h)
        refine Rn.seq k26_19 (Rn.region k26_20 (fun call K => r26_6) (Rch.leaf ?_))
        exact Rn.ret k26_21 e26 H
      · replace H := H.2 (ne_of_beq_false h)
        refine Rn.seq k26_22 (Rn.region k26_23 (fun call K => r26_7) (Rch.leaf ?_))
        refine Rn.cnd (v := x0 == 32) ⟨c26_24, rfl, by kernel_rfl⟩ (fun h => ?_) (fun h => ?_)
        · replace H := H.1 (eq_of_beq h)
          refine Rn.seq k26_25 (Rn.region k26_26 (fun call K => r26_8) (Rch.leaf ?_))
          exact Rn.ret k26_27 e26 H
        · replace H := H.2 (ne_of_beq_false h)
          refine Rn.seq k26_28 (Rn.region k26_29 (fun call K => r26_9) (Rch.leaf ?_))
          refine Rn.cnd (v := x0 == 64) ⟨c26_30, rfl, by kernel_rfl⟩ (fun h => ?_) (fun h => ?_)
          · replace H := H.1 (eq_of_beq h)
            refine Rn.seq k26_31 (Rn.region k26_32 (fun call K => r26_10) (Rch.leaf ?_))
            exact Rn.ret k26_33 e26 H
          · replace H := H.2 (ne_of_beq_false h)
            refine Rn.skip k26_34 (Rn.blk (Rn.seq k26_35 (Rn.region k26_36 (fun call K => r26_11) (Rch.leaf ?_))))
            exact Rn.ret k26_37 e26 H


/-! ### zoetrope/zoetroperef08.Side: function 25 -/
noncomputable abbrev P25 (p : List Nat) : Code := subC (codeOf Try.f25) p
noncomputable abbrev O25 (p : List Nat) : Array Oper := opsOf (subC (codeOf Try.f25) p)
theorem b25 : Try.prog.funcs[25]? = some Try.f25 ∧ (Orc.tab Try.prog).lookup 25 = none := ⟨by kernel_rfl, by kernel_rfl⟩
theorem d25 : Try.f25.body = some (P25 []) := by kernel_rfl
theorem t25 {x0 : Int} : #[.int .i64 x0] ++ Array.replicate (Try.f25.ntmps - (#[.int .i64 x0] : Array Value).size) undef = #[.int .i64 x0,undef,undef,undef,undef,undef,undef,undef,undef,undef] := by kernel_rfl
theorem k25_0 : P25 [] = .seq (P25 [0]) (P25 [1]) := by kernel_rfl
theorem k25_1 : P25 [0] = .region 0 (O25 [0]) false := by kernel_rfl
theorem r25_0 {M : Mem} {call : CallM} {K : Array Value → Mem → R} :
    opsK Try.prog (fun _ => call) (O25 [0]) (O25 [0]).toList 0 #[g0,g1,g2,g3,g4,g5,g6,g7,g8,g9] M K = K #[g0,g1,.int .i64 0,.int .i64 0,g4,g5,g6,g7,g8,g9] M := by kernel_rfl
theorem k25_2 : P25 [1] = .seq (P25 [1,0]) (P25 [1,1]) := by kernel_rfl
theorem k25_3 : P25 [1,0] = .seq (P25 [1,0,0]) (P25 [1,0,1]) := by kernel_rfl
theorem k25_4 : P25 [1,0,0] = .region 1 (O25 [1,0,0]) false := by kernel_rfl
theorem r25_1 {x0 : Int} {M : Mem} {call : CallM} {K : Array Value → Mem → R} :
    opsK Try.prog (fun _ => call) (O25 [1,0,0]) (O25 [1,0,0]).toList 0 #[.int .i64 x0,g1,g2,g3,g4,g5,g6,g7,g8,g9] M K = (call 26 #[.int .i64 x0] M).bind fun r_1 => (asS r_1.1).bind fun s_2 => K #[.int .i64 x0,g1,g2,g3,.int .i64 x0,.slice s_2.1 (s_2.2.1) (s_2.2.2),.int .i64 ((s_2.2.1 : Int)),.bool (((s_2.2.1 : Int)) == 0),g8,g9] r_1.2 := by kernel_rfl
theorem c25_5 : P25 [1,0,1] = .cond (.tmp 7) (P25 [1,0,1,0]) (P25 [1,0,1,1]) := by kernel_rfl
theorem k25_6 : P25 [1,0,1,0] = .seq (P25 [1,0,1,0,0]) (P25 [1,0,1,0,1]) := by kernel_rfl
theorem k25_7 : P25 [1,0,1,0,0] = .region 2 (O25 [1,0,1,0,0]) false := by kernel_rfl
theorem r25_2 {M : Mem} {call : CallM} {K : Array Value → Mem → R} :
    opsK Try.prog (fun _ => call) (O25 [1,0,1,0,0]) (O25 [1,0,1,0,0]).toList 0 #[g0,g1,g2,g3,g4,g5,g6,g7,g8,g9] M K = K #[g0,g1,.int .i64 0,.int .i64 2,g4,g5,g6,g7,g8,g9] M := by kernel_rfl
theorem k25_8 : P25 [1,0,1,0,1] = .ret := by kernel_rfl
theorem e25 {M : Mem} : finish Try.prog Try.f25 #[g0,g1,g2,g3,g4,g5,g6,g7,g8,g9] M = some (.tuple #[g2, g3], M) := by kernel_rfl
theorem k25_10 : P25 [1,0,1,1] = .skip := by kernel_rfl
theorem k25_11 : P25 [1,1] = .seq (P25 [1,1,0]) (P25 [1,1,1]) := by kernel_rfl
theorem k25_12 : P25 [1,1,0] = .region 3 (O25 [1,1,0]) false := by kernel_rfl
theorem r25_3 {x0 : Int} {M : Mem} {call : CallM} {K : Array Value → Mem → R} :
    opsK Try.prog (fun _ => call) (O25 [1,1,0]) (O25 [1,1,0]).toList 0 #[.int .i64 x0,g1,g2,g3,g4,g5,g6,g7,g8,g9] M K = K #[.int .i64 x0,g1,.int .i64 (if 32 < x0 then 32 else x0),.int .i64 0,g4,g5,g6,g7,.int .i64 x0,.int .i64 (if 32 < x0 then 32 else x0)] M := by kernel_rfl
theorem k25_13 : P25 [1,1,1] = .ret := by kernel_rfl
theorem w25_0 {x0 : Int} {M : Mem} {Q : Value → Mem → Prop} (H :
    Cn Try.prog 26 #[.int .i64 x0] M fun v1' N1' =>
     ∃ s2', asS v1' = some s2' ∧
     ((((s2'.2.1 : Int)) = 0 →
      Q (.tuple #[.int .i64 0, .int .i64 2]) N1') ∧
      (((s2'.2.1 : Int)) ≠ 0 →
      Q (.tuple #[.int .i64 (if 32 < x0 then 32 else x0), .int .i64 0]) N1'))) :
    Cn Try.prog 25 #[.int .i64 x0] M Q := by
  refine Cn.of b25 d25 t25 ?_
  refine Rn.seq k25_0 (Rn.region k25_1 (fun call K => r25_0) (Rch.leaf (Rn.seq k25_2 (Rn.seq k25_3 (Rn.region k25_4 (fun call K => r25_1) (Rch.call H fun v1' N1' H => Rch.ex H fun s2' H => Rch.leaf ?_))))))
  refine Rn.cnd (v := ((s2'.2.1 : Int)) == 0) ⟨c25_5, rfl, by kernel_rfl⟩ (fun h => ?_) (fun h => ?_)
  · replace H := H.1 (eq_of_beq h)
    refine Rn.seq k25_6 (Rn.region k25_7 (fun call K => r25_2) (Rch.leaf ?_))
    exact Rn.ret k25_8 e25 H
  · replace H := H.2 (ne_of_beq_false h)
    refine Rn.skip k25_10 (Rn.seq k25_11 (Rn.region k25_12 (fun call K => r25_3) (Rch.leaf ?_)))
    exact Rn.ret k25_13 e25 H


/-! ### zoetrope/zoetroperef08.asked: function 37 -/
noncomputable abbrev P37 (p : List Nat) : Code := subC (codeOf Try.f37) p
noncomputable abbrev O37 (p : List Nat) : Array Oper := opsOf (subC (codeOf Try.f37) p)
theorem b37 : Try.prog.funcs[37]? = some Try.f37 ∧ (Orc.tab Try.prog).lookup 37 = none := ⟨by kernel_rfl, by kernel_rfl⟩
theorem d37 : Try.f37.body = some (P37 []) := by kernel_rfl
theorem t37 {x0 x1 : Int} {Ax2 : Option Addr} {lx2 cx2 : Nat} {x3 x4 : Int} : #[.int .i64 x0,.int .i64 x1,.slice Ax2 lx2 cx2,.int .i64 x3,.int .i64 x4] ++ Array.replicate (Try.f37.ntmps - (#[.int .i64 x0,.int .i64 x1,.slice Ax2 lx2 cx2,.int .i64 x3,.int .i64 x4] : Array Value).size) undef = #[.int .i64 x0,.int .i64 x1,.slice Ax2 lx2 cx2,.int .i64 x3,.int .i64 x4,undef,undef,undef,undef,undef,undef,undef,undef,undef,undef,undef,undef,undef,undef,undef,undef,undef,undef,undef,undef,undef,undef,undef,undef,undef,undef,undef,undef,undef,undef,undef,undef,undef,undef,undef,undef,undef,undef,undef,undef,undef,undef,undef,undef,undef,undef,undef,undef,undef,undef,undef,undef,undef,undef,undef,undef,undef,undef,undef] := by kernel_rfl
theorem k37_0 : P37 [] = .seq (P37 [0]) (P37 [1]) := by kernel_rfl
theorem k37_1 : P37 [0] = .region 0 (O37 [0]) false := by kernel_rfl
theorem r37_0 {M : Mem} {call : CallM} {K : Array Value → Mem → R} :
    opsK Try.prog (fun _ => call) (O37 [0]) (O37 [0]).toList 0 #[g0,g1,g2,g3,g4,g5,g6,g7,g8,g9,gA,gB,gC,gD,gE,gF,gG,gH,gI,gJ,gK,gL,gM,gN,gO,gP,gQ,gR,gS,gT,gU,gV,gW,gX,gY,gZ,hA,hB,hC,hD,hE,hF,hG,hH,hI,hJ,hK,hL,hM,hN,hO,hP,hQ,hR,hS,hT,hU,hV,hW,hX,hY,hZ,h0,h1] M K = K #[g0,g1,g2,g3,g4,g5,g6,g7,g8,g9,.int .i64 0,gB,gC,gD,gE,gF,gG,gH,gI,gJ,gK,gL,gM,gN,gO,gP,gQ,gR,gS,gT,gU,gV,gW,gX,gY,gZ,hA,hB,hC,hD,hE,hF,hG,hH,hI,hJ,hK,hL,hM,hN,hO,hP,hQ,hR,hS,hT,hU,hV,hW,hX,hY,hZ,h0,h1] M := by kernel_rfl
theorem k37_2 : P37 [1] = .seq (P37 [1,0]) (P37 [1,1]) := by kernel_rfl
theorem k37_3 : P37 [1,0] = .region 1 (O37 [1,0]) false := by kernel_rfl
theorem r37_1 {x0 : Int} {M : Mem} {call : CallM} {K : Array Value → Mem → R} :
    opsK Try.prog (fun _ => call) (O37 [1,0]) (O37 [1,0]).toList 0 #[.int .i64 x0,g1,g2,g3,g4,g5,g6,g7,g8,g9,gA,gB,gC,gD,gE,gF,gG,gH,gI,gJ,gK,gL,gM,gN,gO,gP,gQ,gR,gS,gT,gU,gV,gW,gX,gY,gZ,hA,hB,hC,hD,hE,hF,hG,hH,hI,hJ,hK,hL,hM,hN,hO,hP,hQ,hR,hS,hT,hU,hV,hW,hX,hY,hZ,h0,h1] M K = (call 26 #[.int .i64 x0] M).bind fun r_1 => (asS r_1.1).bind fun s_2 => K #[.int .i64 x0,g1,g2,g3,g4,g5,g6,g7,g8,g9,gA,.slice s_2.1 (s_2.2.1) (s_2.2.2),gC,gD,gE,.int .i64 x0,.slice s_2.1 (s_2.2.1) (s_2.2.2),gH,gI,gJ,gK,gL,gM,gN,gO,gP,gQ,gR,gS,gT,gU,gV,gW,gX,gY,gZ,hA,hB,hC,hD,hE,hF,hG,hH,hI,hJ,hK,hL,hM,hN,hO,hP,hQ,hR,hS,hT,hU,hV,hW,hX,hY,hZ,h0,h1] r_1.2 := by kernel_rfl
theorem k37_4 : P37 [1,1] = .seq (P37 [1,1,0]) (P37 [1,1,1]) := by kernel_rfl
theorem k37_5 : P37 [1,1,0] = .seq (P37 [1,1,0,0]) (P37 [1,1,0,1]) := by kernel_rfl
theorem k37_6 : P37 [1,1,0,0] = .region 2 (O37 [1,1,0,0]) false := by kernel_rfl
theorem r37_2 {Ax11 : Option Addr} {lx11 cx11 : Nat} {M : Mem} {call : CallM} {K : Array Value → Mem → R} :
    opsK Try.prog (fun _ => call) (O37 [1,1,0,0]) (O37 [1,1,0,0]).toList 0 #[g0,g1,g2,g3,g4,g5,g6,g7,g8,g9,gA,.slice Ax11 lx11 cx11,gC,gD,gE,gF,gG,gH,gI,gJ,gK,gL,gM,gN,gO,gP,gQ,gR,gS,gT,gU,gV,gW,gX,gY,gZ,hA,hB,hC,hD,hE,hF,hG,hH,hI,hJ,hK,hL,hM,hN,hO,hP,hQ,hR,hS,hT,hU,hV,hW,hX,hY,hZ,h0,h1] M K = K #[g0,g1,g2,g3,g4,g5,g6,g7,g8,g9,gA,.slice Ax11 lx11 cx11,gC,gD,gE,gF,gG,.slice Ax11 lx11 cx11,.int .i64 ((lx11 : Int)),.bool (((lx11 : Int)) == 0),gK,gL,gM,gN,gO,gP,gQ,gR,gS,gT,gU,gV,gW,gX,gY,gZ,hA,hB,hC,hD,hE,hF,hG,hH,hI,hJ,hK,hL,hM,hN,hO,hP,hQ,hR,hS,hT,hU,hV,hW,hX,hY,hZ,h0,h1] M := by kernel_rfl
theorem c37_7 : P37 [1,1,0,1] = .cond (.tmp 19) (P37 [1,1,0,1,0]) (P37 [1,1,0,1,1]) := by kernel_rfl
theorem k37_8 : P37 [1,1,0,1,0] = .seq (P37 [1,1,0,1,0,0]) (P37 [1,1,0,1,0,1]) := by kernel_rfl
theorem k37_9 : P37 [1,1,0,1,0,0] = .region 3 (O37 [1,1,0,1,0,0]) false := by kernel_rfl
theorem r37_3 {M : Mem} {call : CallM} {K : Array Value → Mem → R} :
    opsK Try.prog (fun _ => call) (O37 [1,1,0,1,0,0]) (O37 [1,1,0,1,0,0]).toList 0 #[g0,g1,g2,g3,g4,g5,g6,g7,g8,g9,gA,gB,gC,gD,gE,gF,gG,gH,gI,gJ,gK,gL,gM,gN,gO,gP,gQ,gR,gS,gT,gU,gV,gW,gX,gY,gZ,hA,hB,hC,hD,hE,hF,hG,hH,hI,hJ,hK,hL,hM,hN,hO,hP,hQ,hR,hS,hT,hU,hV,hW,hX,hY,hZ,h0,h1] M K = K #[g0,g1,g2,g3,g4,g5,g6,g7,g8,g9,.int .i64 2,gB,gC,gD,gE,gF,gG,gH,gI,gJ,gK,gL,gM,gN,gO,gP,gQ,gR,gS,gT,gU,gV,gW,gX,gY,gZ,hA,hB,hC,hD,hE,hF,hG,hH,hI,hJ,hK,hL,hM,hN,hO,hP,hQ,hR,hS,hT,hU,hV,hW,hX,hY,hZ,h0,h1] M := by kernel_rfl
theorem k37_10 : P37 [1,1,0,1,0,1] = .ret := by kernel_rfl
theorem e37 {M : Mem} : finish Try.prog Try.f37 #[g0,g1,g2,g3,g4,g5,g6,g7,g8,g9,gA,gB,gC,gD,gE,gF,gG,gH,gI,gJ,gK,gL,gM,gN,gO,gP,gQ,gR,gS,gT,gU,gV,gW,gX,gY,gZ,hA,hB,hC,hD,hE,hF,hG,hH,hI,hJ,hK,hL,hM,hN,hO,hP,hQ,hR,hS,hT,hU,hV,hW,hX,hY,hZ,h0,h1] M = some (gA, M) := by kernel_rfl
theorem k37_12 : P37 [1,1,0,1,1] = .skip := by kernel_rfl
theorem k37_13 : P37 [1,1,1] = .seq (P37 [1,1,1,0]) (P37 [1,1,1,1]) := by kernel_rfl
theorem k37_14 : P37 [1,1,1,0] = .region 4 (O37 [1,1,1,0]) false := by kernel_rfl
theorem r37_4 {M : Mem} {call : CallM} {K : Array Value → Mem → R} :
    opsK Try.prog (fun _ => call) (O37 [1,1,1,0]) (O37 [1,1,1,0]).toList 0 #[g0,g1,g2,g3,g4,g5,g6,g7,g8,g9,gA,gB,gC,gD,gE,gF,gG,gH,gI,gJ,gK,gL,gM,gN,gO,gP,gQ,gR,gS,gT,gU,gV,gW,gX,gY,gZ,hA,hB,hC,hD,hE,hF,hG,hH,hI,hJ,hK,hL,hM,hN,hO,hP,hQ,hR,hS,hT,hU,hV,hW,hX,hY,hZ,h0,h1] M K = K #[g0,g1,g2,g3,g4,g5,g6,g7,g8,g9,gA,gB,.bool false,gD,gE,gF,gG,gH,gI,gJ,gK,gL,gM,gN,gO,gP,gQ,gR,gS,gT,gU,gV,gW,gX,gY,gZ,hA,hB,hC,hD,hE,hF,hG,hH,hI,hJ,hK,hL,hM,hN,hO,hP,hQ,hR,hS,hT,hU,hV,hW,hX,hY,hZ,h0,h1] M := by kernel_rfl
theorem k37_15 : P37 [1,1,1,1] = .seq (P37 [1,1,1,1,0]) (P37 [1,1,1,1,1]) := by kernel_rfl
theorem k37_16 : P37 [1,1,1,1,0] = .seq (P37 [1,1,1,1,0,0]) (P37 [1,1,1,1,0,1]) := by kernel_rfl
theorem k37_17 : P37 [1,1,1,1,0,0] = .region 5 (O37 [1,1,1,1,0,0]) false := by kernel_rfl
theorem r37_5 {M : Mem} {call : CallM} {K : Array Value → Mem → R} :
    opsK Try.prog (fun _ => call) (O37 [1,1,1,1,0,0]) (O37 [1,1,1,1,0,0]).toList 0 #[g0,g1,g2,g3,g4,g5,g6,g7,g8,g9,gA,gB,gC,gD,gE,gF,gG,gH,gI,gJ,gK,gL,gM,gN,gO,gP,gQ,gR,gS,gT,gU,gV,gW,gX,gY,gZ,hA,hB,hC,hD,hE,hF,hG,hH,hI,hJ,hK,hL,hM,hN,hO,hP,hQ,hR,hS,hT,hU,hV,hW,hX,hY,hZ,h0,h1] M K = K #[g0,g1,g2,g3,g4,g5,g6,g7,g8,g9,gA,gB,gC,.int .i64 0,gE,gF,gG,gH,gI,gJ,gK,gL,gM,gN,gO,gP,gQ,gR,gS,gT,gU,gV,gW,gX,gY,gZ,hA,hB,hC,hD,hE,hF,hG,hH,hI,hJ,hK,hL,hM,hN,hO,hP,hQ,hR,hS,hT,hU,hV,hW,hX,hY,hZ,h0,h1] M := by kernel_rfl
theorem k37_18 : P37 [1,1,1,1,0,1] = .block 0 (P37 [1,1,1,1,0,1,0]) := by kernel_rfl
theorem k37_19 : P37 [1,1,1,1,0,1,0] = .loop (P37 [1,1,1,1,0,1,0,0]) := by kernel_rfl
theorem k37_20 : P37 [1,1,1,1,0,1,0,0] = .seq (P37 [1,1,1,1,0,1,0,0,0]) (P37 [1,1,1,1,0,1,0,0,1]) := by kernel_rfl
theorem k37_21 : P37 [1,1,1,1,0,1,0,0,0] = .seq (P37 [1,1,1,1,0,1,0,0,0,0]) (P37 [1,1,1,1,0,1,0,0,0,1]) := by kernel_rfl
theorem k37_22 : P37 [1,1,1,1,0,1,0,0,0,0] = .region 6 (O37 [1,1,1,1,0,1,0,0,0,0]) false := by kernel_rfl
theorem r37_6 {Ax11 : Option Addr} {lx11 cx11 : Nat} {x13 : Int} {M : Mem} {call : CallM} {K : Array Value → Mem → R} :
    opsK Try.prog (fun _ => call) (O37 [1,1,1,1,0,1,0,0,0,0]) (O37 [1,1,1,1,0,1,0,0,0,0]).toList 0 #[g0,g1,g2,g3,g4,g5,g6,g7,g8,g9,gA,.slice Ax11 lx11 cx11,gC,.int .i64 x13,gE,gF,gG,gH,gI,gJ,gK,gL,gM,gN,gO,gP,gQ,gR,gS,gT,gU,gV,gW,gX,gY,gZ,hA,hB,hC,hD,hE,hF,hG,hH,hI,hJ,hK,hL,hM,hN,hO,hP,hQ,hR,hS,hT,hU,hV,hW,hX,hY,hZ,h0,h1] M K = K #[g0,g1,g2,g3,g4,g5,g6,g7,g8,g9,gA,.slice Ax11 lx11 cx11,gC,.int .i64 x13,gE,gF,gG,gH,gI,gJ,.int .i64 x13,.slice Ax11 lx11 cx11,.int .i64 ((lx11 : Int)),.bool (decide (x13 < ((lx11 : Int)))),gO,gP,gQ,gR,gS,gT,gU,gV,gW,gX,gY,gZ,hA,hB,hC,hD,hE,hF,hG,hH,hI,hJ,hK,hL,hM,hN,hO,hP,hQ,hR,hS,hT,hU,hV,hW,hX,hY,hZ,h0,h1] M := by kernel_rfl
theorem c37_23 : P37 [1,1,1,1,0,1,0,0,0,1] = .cond (.tmp 23) (P37 [1,1,1,1,0,1,0,0,0,1,0]) (P37 [1,1,1,1,0,1,0,0,0,1,1]) := by kernel_rfl
theorem k37_24 : P37 [1,1,1,1,0,1,0,0,0,1,0] = .skip := by kernel_rfl
theorem k37_25 : P37 [1,1,1,1,0,1,0,0,1] = .seq (P37 [1,1,1,1,0,1,0,0,1,0]) (P37 [1,1,1,1,0,1,0,0,1,1]) := by kernel_rfl
theorem k37_26 : P37 [1,1,1,1,0,1,0,0,1,0] = .block 1 (P37 [1,1,1,1,0,1,0,0,1,0,0]) := by kernel_rfl
theorem k37_27 : P37 [1,1,1,1,0,1,0,0,1,0,0] = .region 8 (O37 [1,1,1,1,0,1,0,0,1,0,0]) false := by kernel_rfl
theorem r37_8 {x1 : Int} {Ax11 : Option Addr} {lx11 cx11 : Nat} {x12 : Bool} {x13 : Int} {M : Mem} {call : CallM} {K : Array Value → Mem → R} :
    opsK Try.prog (fun _ => call) (O37 [1,1,1,1,0,1,0,0,1,0,0]) (O37 [1,1,1,1,0,1,0,0,1,0,0]).toList 0 #[g0,.int .i64 x1,g2,g3,g4,g5,g6,g7,g8,g9,gA,.slice Ax11 lx11 cx11,.bool x12,.int .i64 x13,gE,gF,gG,gH,gI,gJ,gK,gL,gM,gN,gO,gP,gQ,gR,gS,gT,gU,gV,gW,gX,gY,gZ,hA,hB,hC,hD,hE,hF,hG,hH,hI,hJ,hK,hL,hM,hN,hO,hP,hQ,hR,hS,hT,hU,hV,hW,hX,hY,hZ,h0,h1] M K = withK (fun w12 w27 w28 w29 w30 w31 w32 w33 w34 M => K #[g0,.int .i64 x1,g2,g3,g4,g5,g6,g7,g8,g9,gA,.slice Ax11 lx11 cx11,w12,.int .i64 x13,gE,gF,gG,gH,gI,gJ,gK,gL,gM,gN,gO,gP,.bool x12,w27,w28,w29,w30,w31,w32,w33,w34,gZ,hA,hB,hC,hD,hE,hF,hG,hH,hI,hJ,hK,hL,hM,hN,hO,hP,hQ,hR,hS,hT,hU,hV,hW,hX,hY,hZ,h0,h1] M) fun k => cond x12 (k (.bool true) (.bool true) undef undef undef undef undef undef (.bool true) M) ((idxA Ax11 lx11 1 x13).bind fun a_1 => (M.intAt .i64 a_1.block a_1.off).bind fun x_2 => k (.bool (x_2 == x1)) (.bool false) (.slice Ax11 lx11 cx11) (.int .i64 x13) (.pointer (some a_1)) (.int .i64 x_2) (.int .i64 x1) (.bool (x_2 == x1)) (.bool (x_2 == x1)) M) := by kernel_rfl
theorem k37_28 : P37 [1,1,1,1,0,1,0,0,0,1,1] = .exit 0 := by kernel_rfl
theorem k37_29 : P37 [1,1,1,1,1] = .seq (P37 [1,1,1,1,1,0]) (P37 [1,1,1,1,1,1]) := by kernel_rfl
theorem k37_30 : P37 [1,1,1,1,1,0] = .seq (P37 [1,1,1,1,1,0,0]) (P37 [1,1,1,1,1,0,1]) := by kernel_rfl
theorem k37_31 : P37 [1,1,1,1,1,0,0] = .region 9 (O37 [1,1,1,1,1,0,0]) false := by kernel_rfl
theorem r37_9 {x12 : Bool} {M : Mem} {call : CallM} {K : Array Value → Mem → R} :
    opsK Try.prog (fun _ => call) (O37 [1,1,1,1,1,0,0]) (O37 [1,1,1,1,1,0,0]).toList 0 #[g0,g1,g2,g3,g4,g5,g6,g7,g8,g9,gA,gB,.bool x12,gD,gE,gF,gG,gH,gI,gJ,gK,gL,gM,gN,gO,gP,gQ,gR,gS,gT,gU,gV,gW,gX,gY,gZ,hA,hB,hC,hD,hE,hF,hG,hH,hI,hJ,hK,hL,hM,hN,hO,hP,hQ,hR,hS,hT,hU,hV,hW,hX,hY,hZ,h0,h1] M K = K #[g0,g1,g2,g3,g4,g5,g6,g7,g8,g9,gA,gB,.bool x12,gD,gE,gF,gG,gH,gI,gJ,gK,gL,gM,gN,gO,gP,gQ,gR,gS,gT,gU,gV,gW,gX,gY,.bool x12,.bool (!x12),hB,hC,hD,hE,hF,hG,hH,hI,hJ,hK,hL,hM,hN,hO,hP,hQ,hR,hS,hT,hU,hV,hW,hX,hY,hZ,h0,h1] M := by kernel_rfl
theorem c37_32 : P37 [1,1,1,1,1,0,1] = .cond (.tmp 36) (P37 [1,1,1,1,1,0,1,0]) (P37 [1,1,1,1,1,0,1,1]) := by kernel_rfl
theorem k37_33 : P37 [1,1,1,1,1,0,1,0] = .seq (P37 [1,1,1,1,1,0,1,0,0]) (P37 [1,1,1,1,1,0,1,0,1]) := by kernel_rfl
theorem k37_34 : P37 [1,1,1,1,1,0,1,0,0] = .region 10 (O37 [1,1,1,1,1,0,1,0,0]) false := by kernel_rfl
theorem r37_10 {M : Mem} {call : CallM} {K : Array Value → Mem → R} :
    opsK Try.prog (fun _ => call) (O37 [1,1,1,1,1,0,1,0,0]) (O37 [1,1,1,1,1,0,1,0,0]).toList 0 #[g0,g1,g2,g3,g4,g5,g6,g7,g8,g9,gA,gB,gC,gD,gE,gF,gG,gH,gI,gJ,gK,gL,gM,gN,gO,gP,gQ,gR,gS,gT,gU,gV,gW,gX,gY,gZ,hA,hB,hC,hD,hE,hF,hG,hH,hI,hJ,hK,hL,hM,hN,hO,hP,hQ,hR,hS,hT,hU,hV,hW,hX,hY,hZ,h0,h1] M K = K #[g0,g1,g2,g3,g4,g5,g6,g7,g8,g9,.int .i64 80,gB,gC,gD,gE,gF,gG,gH,gI,gJ,gK,gL,gM,gN,gO,gP,gQ,gR,gS,gT,gU,gV,gW,gX,gY,gZ,hA,hB,hC,hD,hE,hF,hG,hH,hI,hJ,hK,hL,hM,hN,hO,hP,hQ,hR,hS,hT,hU,hV,hW,hX,hY,hZ,h0,h1] M := by kernel_rfl
theorem k37_35 : P37 [1,1,1,1,1,0,1,0,1] = .ret := by kernel_rfl
theorem k37_36 : P37 [1,1,1,1,1,0,1,1] = .skip := by kernel_rfl
theorem k37_37 : P37 [1,1,1,1,1,1] = .seq (P37 [1,1,1,1,1,1,0]) (P37 [1,1,1,1,1,1,1]) := by kernel_rfl
theorem k37_38 : P37 [1,1,1,1,1,1,0] = .seq (P37 [1,1,1,1,1,1,0,0]) (P37 [1,1,1,1,1,1,0,1]) := by kernel_rfl
theorem k37_39 : P37 [1,1,1,1,1,1,0,0] = .region 11 (O37 [1,1,1,1,1,1,0,0]) false := by kernel_rfl
theorem r37_11 {Ax2 : Option Addr} {lx2 cx2 : Nat} {x3 : Int} {M : Mem} {call : CallM} {K : Array Value → Mem → R} :
    opsK Try.prog (fun _ => call) (O37 [1,1,1,1,1,1,0,0]) (O37 [1,1,1,1,1,1,0,0]).toList 0 #[g0,g1,.slice Ax2 lx2 cx2,.int .i64 x3,g4,g5,g6,g7,g8,g9,gA,gB,gC,gD,gE,gF,gG,gH,gI,gJ,gK,gL,gM,gN,gO,gP,gQ,gR,gS,gT,gU,gV,gW,gX,gY,gZ,hA,hB,hC,hD,hE,hF,hG,hH,hI,hJ,hK,hL,hM,hN,hO,hP,hQ,hR,hS,hT,hU,hV,hW,hX,hY,hZ,h0,h1] M K = K #[g0,g1,.slice Ax2 lx2 cx2,.int .i64 x3,g4,g5,g6,g7,g8,g9,gA,gB,gC,gD,gE,gF,gG,gH,gI,gJ,gK,gL,gM,gN,gO,gP,gQ,gR,gS,gT,gU,gV,gW,gX,gY,gZ,hA,.slice Ax2 lx2 cx2,.int .i64 ((lx2 : Int)),.int .i64 x3,.int .i64 x3,.int .i64 (IntKind.i64.wrap (x3 * x3)),.bool (((lx2 : Int)) != (IntKind.i64.wrap (x3 * x3))),hH,hI,hJ,hK,hL,hM,hN,hO,hP,hQ,hR,hS,hT,hU,hV,hW,hX,hY,hZ,h0,h1] M := by kernel_rfl
theorem c37_40 : P37 [1,1,1,1,1,1,0,1] = .cond (.tmp 42) (P37 [1,1,1,1,1,1,0,1,0]) (P37 [1,1,1,1,1,1,0,1,1]) := by kernel_rfl
theorem k37_41 : P37 [1,1,1,1,1,1,0,1,0] = .seq (P37 [1,1,1,1,1,1,0,1,0,0]) (P37 [1,1,1,1,1,1,0,1,0,1]) := by kernel_rfl
theorem k37_42 : P37 [1,1,1,1,1,1,0,1,0,0] = .region 12 (O37 [1,1,1,1,1,1,0,1,0,0]) false := by kernel_rfl
theorem r37_12 {M : Mem} {call : CallM} {K : Array Value → Mem → R} :
    opsK Try.prog (fun _ => call) (O37 [1,1,1,1,1,1,0,1,0,0]) (O37 [1,1,1,1,1,1,0,1,0,0]).toList 0 #[g0,g1,g2,g3,g4,g5,g6,g7,g8,g9,gA,gB,gC,gD,gE,gF,gG,gH,gI,gJ,gK,gL,gM,gN,gO,gP,gQ,gR,gS,gT,gU,gV,gW,gX,gY,gZ,hA,hB,hC,hD,hE,hF,hG,hH,hI,hJ,hK,hL,hM,hN,hO,hP,hQ,hR,hS,hT,hU,hV,hW,hX,hY,hZ,h0,h1] M K = K #[g0,g1,g2,g3,g4,g5,g6,g7,g8,g9,.int .i64 2,gB,gC,gD,gE,gF,gG,gH,gI,gJ,gK,gL,gM,gN,gO,gP,gQ,gR,gS,gT,gU,gV,gW,gX,gY,gZ,hA,hB,hC,hD,hE,hF,hG,hH,hI,hJ,hK,hL,hM,hN,hO,hP,hQ,hR,hS,hT,hU,hV,hW,hX,hY,hZ,h0,h1] M := by kernel_rfl
theorem k37_43 : P37 [1,1,1,1,1,1,0,1,0,1] = .ret := by kernel_rfl
theorem k37_44 : P37 [1,1,1,1,1,1,0,1,1] = .skip := by kernel_rfl
theorem k37_45 : P37 [1,1,1,1,1,1,1] = .seq (P37 [1,1,1,1,1,1,1,0]) (P37 [1,1,1,1,1,1,1,1]) := by kernel_rfl
theorem k37_46 : P37 [1,1,1,1,1,1,1,0] = .seq (P37 [1,1,1,1,1,1,1,0,0]) (P37 [1,1,1,1,1,1,1,0,1]) := by kernel_rfl
theorem k37_47 : P37 [1,1,1,1,1,1,1,0,0] = .region 13 (O37 [1,1,1,1,1,1,1,0,0]) false := by kernel_rfl
theorem r37_13 {M : Mem} {call : CallM} {K : Array Value → Mem → R} :
    opsK Try.prog (fun _ => call) (O37 [1,1,1,1,1,1,1,0,0]) (O37 [1,1,1,1,1,1,1,0,0]).toList 0 #[g0,g1,g2,g3,g4,g5,g6,g7,g8,g9,gA,gB,gC,gD,gE,gF,gG,gH,gI,gJ,gK,gL,gM,gN,gO,gP,gQ,gR,gS,gT,gU,gV,gW,gX,gY,gZ,hA,hB,hC,hD,hE,hF,hG,hH,hI,hJ,hK,hL,hM,hN,hO,hP,hQ,hR,hS,hT,hU,hV,hW,hX,hY,hZ,h0,h1] M K = K #[g0,g1,g2,g3,g4,g5,g6,g7,g8,g9,gA,gB,gC,gD,.int .i64 0,gF,gG,gH,gI,gJ,gK,gL,gM,gN,gO,gP,gQ,gR,gS,gT,gU,gV,gW,gX,gY,gZ,hA,hB,hC,hD,hE,hF,hG,hH,hI,hJ,hK,hL,hM,hN,hO,hP,hQ,hR,hS,hT,hU,hV,hW,hX,hY,hZ,h0,h1] M := by kernel_rfl
theorem k37_48 : P37 [1,1,1,1,1,1,1,0,1] = .block 2 (P37 [1,1,1,1,1,1,1,0,1,0]) := by kernel_rfl
theorem k37_49 : P37 [1,1,1,1,1,1,1,0,1,0] = .loop (P37 [1,1,1,1,1,1,1,0,1,0,0]) := by kernel_rfl
theorem k37_50 : P37 [1,1,1,1,1,1,1,0,1,0,0] = .seq (P37 [1,1,1,1,1,1,1,0,1,0,0,0]) (P37 [1,1,1,1,1,1,1,0,1,0,0,1]) := by kernel_rfl
theorem k37_51 : P37 [1,1,1,1,1,1,1,0,1,0,0,0] = .seq (P37 [1,1,1,1,1,1,1,0,1,0,0,0,0]) (P37 [1,1,1,1,1,1,1,0,1,0,0,0,1]) := by kernel_rfl
theorem k37_52 : P37 [1,1,1,1,1,1,1,0,1,0,0,0,0] = .region 14 (O37 [1,1,1,1,1,1,1,0,1,0,0,0,0]) false := by kernel_rfl
theorem r37_14 {Ax2 : Option Addr} {lx2 cx2 : Nat} {x14 : Int} {M : Mem} {call : CallM} {K : Array Value → Mem → R} :
    opsK Try.prog (fun _ => call) (O37 [1,1,1,1,1,1,1,0,1,0,0,0,0]) (O37 [1,1,1,1,1,1,1,0,1,0,0,0,0]).toList 0 #[g0,g1,.slice Ax2 lx2 cx2,g3,g4,g5,g6,g7,g8,g9,gA,gB,gC,gD,.int .i64 x14,gF,gG,gH,gI,gJ,gK,gL,gM,gN,gO,gP,gQ,gR,gS,gT,gU,gV,gW,gX,gY,gZ,hA,hB,hC,hD,hE,hF,hG,hH,hI,hJ,hK,hL,hM,hN,hO,hP,hQ,hR,hS,hT,hU,hV,hW,hX,hY,hZ,h0,h1] M K = K #[g0,g1,.slice Ax2 lx2 cx2,g3,g4,g5,g6,g7,g8,g9,gA,gB,gC,gD,.int .i64 x14,gF,gG,gH,gI,gJ,gK,gL,gM,gN,gO,gP,gQ,gR,gS,gT,gU,gV,gW,gX,gY,gZ,hA,hB,hC,hD,hE,hF,hG,.int .i64 x14,.slice Ax2 lx2 cx2,.int .i64 ((lx2 : Int)),.bool (decide (x14 < ((lx2 : Int)))),hL,hM,hN,hO,hP,hQ,hR,hS,hT,hU,hV,hW,hX,hY,hZ,h0,h1] M := by kernel_rfl
theorem c37_53 : P37 [1,1,1,1,1,1,1,0,1,0,0,0,1] = .cond (.tmp 46) (P37 [1,1,1,1,1,1,1,0,1,0,0,0,1,0]) (P37 [1,1,1,1,1,1,1,0,1,0,0,0,1,1]) := by kernel_rfl
theorem k37_54 : P37 [1,1,1,1,1,1,1,0,1,0,0,0,1,0] = .skip := by kernel_rfl
theorem k37_55 : P37 [1,1,1,1,1,1,1,0,1,0,0,1] = .seq (P37 [1,1,1,1,1,1,1,0,1,0,0,1,0]) (P37 [1,1,1,1,1,1,1,0,1,0,0,1,1]) := by kernel_rfl
theorem k37_56 : P37 [1,1,1,1,1,1,1,0,1,0,0,1,0] = .block 3 (P37 [1,1,1,1,1,1,1,0,1,0,0,1,0,0]) := by kernel_rfl
theorem k37_57 : P37 [1,1,1,1,1,1,1,0,1,0,0,1,0,0] = .seq (P37 [1,1,1,1,1,1,1,0,1,0,0,1,0,0,0]) (P37 [1,1,1,1,1,1,1,0,1,0,0,1,0,0,1]) := by kernel_rfl
theorem k37_58 : P37 [1,1,1,1,1,1,1,0,1,0,0,1,0,0,0] = .region 16 (O37 [1,1,1,1,1,1,1,0,1,0,0,1,0,0,0]) false := by kernel_rfl
theorem r37_16 {Ax2 : Option Addr} {lx2 cx2 : Nat} {x4 x14 : Int} {M : Mem} {call : CallM} {K : Array Value → Mem → R} :
    opsK Try.prog (fun _ => call) (O37 [1,1,1,1,1,1,1,0,1,0,0,1,0,0,0]) (O37 [1,1,1,1,1,1,1,0,1,0,0,1,0,0,0]).toList 0 #[g0,g1,.slice Ax2 lx2 cx2,g3,.int .i64 x4,g5,g6,g7,g8,g9,gA,gB,gC,gD,.int .i64 x14,gF,gG,gH,gI,gJ,gK,gL,gM,gN,gO,gP,gQ,gR,gS,gT,gU,gV,gW,gX,gY,gZ,hA,hB,hC,hD,hE,hF,hG,hH,hI,hJ,hK,hL,hM,hN,hO,hP,hQ,hR,hS,hT,hU,hV,hW,hX,hY,hZ,h0,h1] M K = withK (fun w51 w52 w55 w56 w57 w58 w59 w60 w61 w62 w63 M => K #[g0,g1,.slice Ax2 lx2 cx2,g3,.int .i64 x4,g5,g6,g7,g8,g9,gA,gB,gC,gD,.int .i64 x14,gF,gG,gH,gI,gJ,gK,gL,gM,gN,gO,gP,gQ,gR,gS,gT,gU,gV,gW,gX,gY,gZ,hA,hB,hC,hD,hE,hF,hG,hH,hI,hJ,hK,hL,hM,.slice Ax2 lx2 cx2,.int .i64 x14,w51,w52,.int .i64 x4,.int .i64 (IntKind.i64.wrap (0 - x4)),w55,w56,w57,w58,w59,w60,w61,w62,w63] M) fun k => (idxA Ax2 lx2 1 x14).bind fun a_1 => (M.intAt .i64 a_1.block a_1.off).bind fun x_2 => cond (decide (x_2 < (IntKind.i64.wrap (0 - x4)))) (k (.pointer (some a_1)) (.int .i64 x_2) (.bool (decide (x_2 < (IntKind.i64.wrap (0 - x4))))) (.bool true) undef undef undef undef undef undef (.bool true) M) ((idxA Ax2 lx2 1 x14).bind fun a_3 => (M.intAt .i64 a_3.block a_3.off).bind fun x_4 => k (.pointer (some a_1)) (.int .i64 x_2) (.bool (decide (x_2 < (IntKind.i64.wrap (0 - x4))))) (.bool false) (.slice Ax2 lx2 cx2) (.int .i64 x14) (.pointer (some a_3)) (.int .i64 x_4) (.int .i64 x4) (.bool (decide (x_4 > x4))) (.bool (decide (x_4 > x4))) M) := by kernel_rfl
theorem k37_59 : P37 [1,1,1,1,1,1,1,0,1,0,0,0,1,1] = .exit 2 := by kernel_rfl
theorem k37_60 : P37 [1,1,1,1,1,1,1,1] = .seq (P37 [1,1,1,1,1,1,1,1,0]) (P37 [1,1,1,1,1,1,1,1,1]) := by kernel_rfl
theorem k37_61 : P37 [1,1,1,1,1,1,1,1,0] = .region 18 (O37 [1,1,1,1,1,1,1,1,0]) false := by kernel_rfl
theorem r37_18 {M : Mem} {call : CallM} {K : Array Value → Mem → R} :
    opsK Try.prog (fun _ => call) (O37 [1,1,1,1,1,1,1,1,0]) (O37 [1,1,1,1,1,1,1,1,0]).toList 0 #[g0,g1,g2,g3,g4,g5,g6,g7,g8,g9,gA,gB,gC,gD,gE,gF,gG,gH,gI,gJ,gK,gL,gM,gN,gO,gP,gQ,gR,gS,gT,gU,gV,gW,gX,gY,gZ,hA,hB,hC,hD,hE,hF,hG,hH,hI,hJ,hK,hL,hM,hN,hO,hP,hQ,hR,hS,hT,hU,hV,hW,hX,hY,hZ,h0,h1] M K = K #[g0,g1,g2,g3,g4,g5,g6,g7,g8,g9,.int .i64 0,gB,gC,gD,gE,gF,gG,gH,gI,gJ,gK,gL,gM,gN,gO,gP,gQ,gR,gS,gT,gU,gV,gW,gX,gY,gZ,hA,hB,hC,hD,hE,hF,hG,hH,hI,hJ,hK,hL,hM,hN,hO,hP,hQ,hR,hS,hT,hU,hV,hW,hX,hY,hZ,h0,h1] M := by kernel_rfl
theorem k37_62 : P37 [1,1,1,1,1,1,1,1,1] = .ret := by kernel_rfl
theorem k37_63 : P37 [1,1,1,1,0,1,0,0,1,1] = .region 7 (O37 [1,1,1,1,0,1,0,0,1,1]) false := by kernel_rfl
theorem r37_7 {x13 : Int} {M : Mem} {call : CallM} {K : Array Value → Mem → R} :
    opsK Try.prog (fun _ => call) (O37 [1,1,1,1,0,1,0,0,1,1]) (O37 [1,1,1,1,0,1,0,0,1,1]).toList 0 #[g0,g1,g2,g3,g4,g5,g6,g7,g8,g9,gA,gB,gC,.int .i64 x13,gE,gF,gG,gH,gI,gJ,gK,gL,gM,gN,gO,gP,gQ,gR,gS,gT,gU,gV,gW,gX,gY,gZ,hA,hB,hC,hD,hE,hF,hG,hH,hI,hJ,hK,hL,hM,hN,hO,hP,hQ,hR,hS,hT,hU,hV,hW,hX,hY,hZ,h0,h1] M K = K #[g0,g1,g2,g3,g4,g5,g6,g7,g8,g9,gA,gB,gC,.int .i64 (IntKind.i64.wrap (x13 + 1)),gE,gF,gG,gH,gI,gJ,gK,gL,gM,gN,.int .i64 x13,.int .i64 (IntKind.i64.wrap (x13 + 1)),gQ,gR,gS,gT,gU,gV,gW,gX,gY,gZ,hA,hB,hC,hD,hE,hF,hG,hH,hI,hJ,hK,hL,hM,hN,hO,hP,hQ,hR,hS,hT,hU,hV,hW,hX,hY,hZ,h0,h1] M := by kernel_rfl
theorem c37_64 : P37 [1,1,1,1,1,1,1,0,1,0,0,1,0,0,1] = .cond (.tmp 63) (P37 [1,1,1,1,1,1,1,0,1,0,0,1,0,0,1,0]) (P37 [1,1,1,1,1,1,1,0,1,0,0,1,0,0,1,1]) := by kernel_rfl
theorem k37_65 : P37 [1,1,1,1,1,1,1,0,1,0,0,1,0,0,1,0] = .seq (P37 [1,1,1,1,1,1,1,0,1,0,0,1,0,0,1,0,0]) (P37 [1,1,1,1,1,1,1,0,1,0,0,1,0,0,1,0,1]) := by kernel_rfl
theorem k37_66 : P37 [1,1,1,1,1,1,1,0,1,0,0,1,0,0,1,0,0] = .region 17 (O37 [1,1,1,1,1,1,1,0,1,0,0,1,0,0,1,0,0]) false := by kernel_rfl
theorem r37_17 {M : Mem} {call : CallM} {K : Array Value → Mem → R} :
    opsK Try.prog (fun _ => call) (O37 [1,1,1,1,1,1,1,0,1,0,0,1,0,0,1,0,0]) (O37 [1,1,1,1,1,1,1,0,1,0,0,1,0,0,1,0,0]).toList 0 #[g0,g1,g2,g3,g4,g5,g6,g7,g8,g9,gA,gB,gC,gD,gE,gF,gG,gH,gI,gJ,gK,gL,gM,gN,gO,gP,gQ,gR,gS,gT,gU,gV,gW,gX,gY,gZ,hA,hB,hC,hD,hE,hF,hG,hH,hI,hJ,hK,hL,hM,hN,hO,hP,hQ,hR,hS,hT,hU,hV,hW,hX,hY,hZ,h0,h1] M K = K #[g0,g1,g2,g3,g4,g5,g6,g7,g8,g9,.int .i64 2,gB,gC,gD,gE,gF,gG,gH,gI,gJ,gK,gL,gM,gN,gO,gP,gQ,gR,gS,gT,gU,gV,gW,gX,gY,gZ,hA,hB,hC,hD,hE,hF,hG,hH,hI,hJ,hK,hL,hM,hN,hO,hP,hQ,hR,hS,hT,hU,hV,hW,hX,hY,hZ,h0,h1] M := by kernel_rfl
theorem k37_67 : P37 [1,1,1,1,1,1,1,0,1,0,0,1,0,0,1,0,1] = .ret := by kernel_rfl
theorem k37_68 : P37 [1,1,1,1,1,1,1,0,1,0,0,1,0,0,1,1] = .skip := by kernel_rfl
theorem k37_69 : P37 [1,1,1,1,1,1,1,0,1,0,0,1,1] = .region 15 (O37 [1,1,1,1,1,1,1,0,1,0,0,1,1]) false := by kernel_rfl
theorem r37_15 {x14 : Int} {M : Mem} {call : CallM} {K : Array Value → Mem → R} :
    opsK Try.prog (fun _ => call) (O37 [1,1,1,1,1,1,1,0,1,0,0,1,1]) (O37 [1,1,1,1,1,1,1,0,1,0,0,1,1]).toList 0 #[g0,g1,g2,g3,g4,g5,g6,g7,g8,g9,gA,gB,gC,gD,.int .i64 x14,gF,gG,gH,gI,gJ,gK,gL,gM,gN,gO,gP,gQ,gR,gS,gT,gU,gV,gW,gX,gY,gZ,hA,hB,hC,hD,hE,hF,hG,hH,hI,hJ,hK,hL,hM,hN,hO,hP,hQ,hR,hS,hT,hU,hV,hW,hX,hY,hZ,h0,h1] M K = K #[g0,g1,g2,g3,g4,g5,g6,g7,g8,g9,gA,gB,gC,gD,.int .i64 (IntKind.i64.wrap (x14 + 1)),gF,gG,gH,gI,gJ,gK,gL,gM,gN,gO,gP,gQ,gR,gS,gT,gU,gV,gW,gX,gY,gZ,hA,hB,hC,hD,hE,hF,hG,hH,hI,hJ,hK,.int .i64 x14,.int .i64 (IntKind.i64.wrap (x14 + 1)),hN,hO,hP,hQ,hR,hS,hT,hU,hV,hW,hX,hY,hZ,h0,h1] M := by kernel_rfl
noncomputable def S37_1 : List Item := [.code (P37 [1,1,1,1,0,1,0,0]), .inLoop (P37 [1,1,1,1,0,1,0,0]), .inBlock 0, .code (P37 [1,1,1,1,1])]
def A37_1 (x1 : Int) (Ax2 : Option Addr) (lx2 cx2 : Nat) (x3 x4 : Int) (Ax11 : Option Addr) (lx11 cx11 : Nat) (x12 : Bool) (x13 : Int) (M : Mem) (Q : Value → Mem → Prop) : Prop := ∀ (g0 g5 g6 g7 g8 g9 gA gE gF gG gH gI gJ gK gL gM gN gO gP gQ gR gS gT gU gV gW gX gY gZ hA hB hC hD hE hF hG hH hI hJ hK hL hM hN hO hP hQ hR hS hT hU hV hW hX hY hZ h0 h1 : Value), Rn Try.prog Try.f37 S37_1 #[g0, .int .i64 x1, .slice Ax2 lx2 cx2, .int .i64 x3, .int .i64 x4, g5, g6, g7, g8, g9, gA, .slice Ax11 lx11 cx11, .bool x12, .int .i64 x13, gE, gF, gG, gH, gI, gJ, gK, gL, gM, gN, gO, gP, gQ, gR, gS, gT, gU, gV, gW, gX, gY, gZ, hA, hB, hC, hD, hE, hF, hG, hH, hI, hJ, hK, hL, hM, hN, hO, hP, hQ, hR, hS, hT, hU, hV, hW, hX, hY, hZ, h0, h1] M Q
noncomputable def S37_2 : List Item := [.inBlock 1, .code (P37 [1,1,1,1,0,1,0,0,1,1]), .inLoop (P37 [1,1,1,1,0,1,0,0]), .inBlock 0, .code (P37 [1,1,1,1,1])]
def A37_2 (x1 : Int) (Ax2 : Option Addr) (lx2 cx2 : Nat) (x3 x4 : Int) (Ax11 : Option Addr) (lx11 cx11 : Nat) (x12 : Bool) (x13 : Int) (M : Mem) (Q : Value → Mem → Prop) : Prop := ∀ (g0 g5 g6 g7 g8 g9 gA gE gF gG gH gI gJ gK gL gM gN gO gP gQ gR gS gT gU gV gW gX gY gZ hA hB hC hD hE hF hG hH hI hJ hK hL hM hN hO hP hQ hR hS hT hU hV hW hX hY hZ h0 h1 : Value), Rn Try.prog Try.f37 S37_2 #[g0, .int .i64 x1, .slice Ax2 lx2 cx2, .int .i64 x3, .int .i64 x4, g5, g6, g7, g8, g9, gA, .slice Ax11 lx11 cx11, .bool x12, .int .i64 x13, gE, gF, gG, gH, gI, gJ, gK, gL, gM, gN, gO, gP, gQ, gR, gS, gT, gU, gV, gW, gX, gY, gZ, hA, hB, hC, hD, hE, hF, hG, hH, hI, hJ, hK, hL, hM, hN, hO, hP, hQ, hR, hS, hT, hU, hV, hW, hX, hY, hZ, h0, h1] M Q
noncomputable def S37_3 : List Item := [.code (P37 [1,1,1,1,1,1,1,0,1,0,0]), .inLoop (P37 [1,1,1,1,1,1,1,0,1,0,0]), .inBlock 2, .code (P37 [1,1,1,1,1,1,1,1])]
def A37_3 (Ax2 : Option Addr) (lx2 cx2 : Nat) (x4 x14 : Int) (M : Mem) (Q : Value → Mem → Prop) : Prop := ∀ (g0 g1 g3 g5 g6 g7 g8 g9 gA gB gC gD gF gG gH gI gJ gK gL gM gN gO gP gQ gR gS gT gU gV gW gX gY gZ hA hB hC hD hE hF hG hH hI hJ hK hL hM hN hO hP hQ hR hS hT hU hV hW hX hY hZ h0 h1 : Value), Rn Try.prog Try.f37 S37_3 #[g0, g1, .slice Ax2 lx2 cx2, g3, .int .i64 x4, g5, g6, g7, g8, g9, gA, gB, gC, gD, .int .i64 x14, gF, gG, gH, gI, gJ, gK, gL, gM, gN, gO, gP, gQ, gR, gS, gT, gU, gV, gW, gX, gY, gZ, hA, hB, hC, hD, hE, hF, hG, hH, hI, hJ, hK, hL, hM, hN, hO, hP, hQ, hR, hS, hT, hU, hV, hW, hX, hY, hZ, h0, h1] M Q
noncomputable def S37_4 : List Item := [.code (P37 [1,1,1,1,0,1,0,0,1,1]), .inLoop (P37 [1,1,1,1,0,1,0,0]), .inBlock 0, .code (P37 [1,1,1,1,1])]
def A37_4 (x1 : Int) (Ax2 : Option Addr) (lx2 cx2 : Nat) (x3 x4 : Int) (Ax11 : Option Addr) (lx11 cx11 : Nat) (x12 : Bool) (x13 : Int) (M : Mem) (Q : Value → Mem → Prop) : Prop := ∀ (g0 g5 g6 g7 g8 g9 gA gE gF gG gH gI gJ gK gL gM gN gO gP gQ gR gS gT gU gV gW gX gY gZ hA hB hC hD hE hF hG hH hI hJ hK hL hM hN hO hP hQ hR hS hT hU hV hW hX hY hZ h0 h1 : Value), Rn Try.prog Try.f37 S37_4 #[g0, .int .i64 x1, .slice Ax2 lx2 cx2, .int .i64 x3, .int .i64 x4, g5, g6, g7, g8, g9, gA, .slice Ax11 lx11 cx11, .bool x12, .int .i64 x13, gE, gF, gG, gH, gI, gJ, gK, gL, gM, gN, gO, gP, gQ, gR, gS, gT, gU, gV, gW, gX, gY, gZ, hA, hB, hC, hD, hE, hF, hG, hH, hI, hJ, hK, hL, hM, hN, hO, hP, hQ, hR, hS, hT, hU, hV, hW, hX, hY, hZ, h0, h1] M Q
noncomputable def S37_5 : List Item := [.code (P37 [1,1,1,1,1,1,1,0,1,0,0,1,0,0,1]), .inBlock 3, .code (P37 [1,1,1,1,1,1,1,0,1,0,0,1,1]), .inLoop (P37 [1,1,1,1,1,1,1,0,1,0,0]), .inBlock 2, .code (P37 [1,1,1,1,1,1,1,1])]
def A37_5 (Ax2 : Option Addr) (lx2 cx2 : Nat) (x4 x14 : Int) (x63 : Bool) (M : Mem) (Q : Value → Mem → Prop) : Prop := ∀ (g0 g1 g3 g5 g6 g7 g8 g9 gA gB gC gD gF gG gH gI gJ gK gL gM gN gO gP gQ gR gS gT gU gV gW gX gY gZ hA hB hC hD hE hF hG hH hI hJ hK hL hM hN hO hP hQ hR hS hT hU hV hW hX hY hZ h0 : Value), Rn Try.prog Try.f37 S37_5 #[g0, g1, .slice Ax2 lx2 cx2, g3, .int .i64 x4, g5, g6, g7, g8, g9, gA, gB, gC, gD, .int .i64 x14, gF, gG, gH, gI, gJ, gK, gL, gM, gN, gO, gP, gQ, gR, gS, gT, gU, gV, gW, gX, gY, gZ, hA, hB, hC, hD, hE, hF, hG, hH, hI, hJ, hK, hL, hM, hN, hO, hP, hQ, hR, hS, hT, hU, hV, hW, hX, hY, hZ, h0, .bool x63] M Q
theorem w37_0 {x0 x1 : Int} {Ax2 : Option Addr} {lx2 cx2 : Nat} {x3 x4 : Int} {M : Mem} {Q : Value → Mem → Prop} (H :
    Cn Try.prog 26 #[.int .i64 x0] M fun v1' N1' =>
     ∃ s2', asS v1' = some s2' ∧
     ((((s2'.2.1 : Int)) = 0 →
      Q (.int .i64 2) N1') ∧
      (((s2'.2.1 : Int)) ≠ 0 →
      A37_1 x1 Ax2 lx2 cx2 x3 x4 s2'.1 s2'.2.1 s2'.2.2 false 0 N1' Q))) :
    Cn Try.prog 37 #[.int .i64 x0, .int .i64 x1, .slice Ax2 lx2 cx2, .int .i64 x3, .int .i64 x4] M Q := by
  refine Cn.of b37 d37 t37 ?_
  refine Rn.seq k37_0 (Rn.region k37_1 (fun call K => r37_0) (Rch.leaf (Rn.seq k37_2 (Rn.region k37_3 (fun call K => r37_1) (Rch.call H fun v1' N1' H => Rch.ex H fun s2' H => Rch.leaf (Rn.seq k37_4 (Rn.seq k37_5 (Rn.region k37_6 (fun call K => r37_2) (Rch.leaf ?_)))))))))
  refine Rn.cnd (v := ((s2'.2.1 : Int)) == 0) ⟨c37_7, rfl, by kernel_rfl⟩ (fun h => ?_) (fun h => ?_)
  · replace H := H.1 (eq_of_beq h)
    refine Rn.seq k37_8 (Rn.region k37_9 (fun call K => r37_3) (Rch.leaf ?_))
    exact Rn.ret k37_10 e37 H
  · replace H := H.2 (ne_of_beq_false h)
    refine Rn.skip k37_12 (Rn.seq k37_13 (Rn.region k37_14 (fun call K => r37_4) (Rch.leaf (Rn.seq k37_15 (Rn.seq k37_16 (Rn.region k37_17 (fun call K => r37_5) (Rch.leaf (Rn.block k37_18 (Rn.loop k37_19 ?_)))))))))
    exact H _ _ _ _ _ _ _ _ _ _ _ _ _ _ _ _ _ _ _ _ _ _ _ _ _ _ _ _ _ _ _ _ _ _ _ _ _ _ _ _ _ _ _ _ _ _ _ _ _ _ _ _ _ _ _ _ _

theorem w37_1 {x1 : Int} {Ax2 : Option Addr} {lx2 cx2 : Nat} {x3 x4 : Int} {Ax11 : Option Addr} {lx11 cx11 : Nat} {x12 : Bool} {x13 : Int} {M : Mem} {Q : Value → Mem → Prop} (H :
    ((x13 < ((lx11 : Int)) →
     ((x12 = true →
      A37_2 x1 Ax2 lx2 cx2 x3 x4 Ax11 lx11 cx11 true x13 M Q) ∧
      (x12 = false →
      ∃ a3', idxA Ax11 lx11 1 x13 = some a3' ∧
      ∃ x4', M.intAt .i64 a3'.block a3'.off = some x4' ∧
      A37_2 x1 Ax2 lx2 cx2 x3 x4 Ax11 lx11 cx11 (x4' == x1) x13 M Q))) ∧
     (¬ (x13 < ((lx11 : Int))) →
     (((!x12) = true →
      Q (.int .i64 80) M) ∧
      ((!x12) = false →
      ((((lx2 : Int)) ≠ (IntKind.i64.wrap (x3 * x3)) →
       Q (.int .i64 2) M) ∧
       (((lx2 : Int)) = (IntKind.i64.wrap (x3 * x3)) →
       A37_3 Ax2 lx2 cx2 x4 0 M Q))))))) :
    A37_1 x1 Ax2 lx2 cx2 x3 x4 Ax11 lx11 cx11 x12 x13 M Q := by
  intro g0 g5 g6 g7 g8 g9 gA gE gF gG gH gI gJ gK gL gM gN gO gP gQ gR gS gT gU gV gW gX gY gZ hA hB hC hD hE hF hG hH hI hJ hK hL hM hN hO hP hQ hR hS hT hU hV hW hX hY hZ h0 h1
  refine Rn.seq k37_20 (Rn.seq k37_21 (Rn.region k37_22 (fun call K => r37_6) (Rch.leaf ?_)))
  refine Rn.cnd (v := decide (x13 < ((lx11 : Int)))) ⟨c37_23, rfl, by kernel_rfl⟩ (fun h => ?_) (fun h => ?_)
  · replace H := H.1 (of_decide_eq_true h)
    refine Rn.skip k37_24 (Rn.seq k37_25 (Rn.block k37_26 (Rn.region k37_27 (fun call K => r37_8) ?_)))
    refine Rch.cB (fun h => ?_) (fun h => ?_)
    · replace H := H.1 (h)
      refine Rch.leaf ?_
      exact H _ _ _ _ _ _ _ _ _ _ _ _ _ _ _ _ _ _ _ _ _ _ _ _ _ _ _ _ _ _ _ _ _ _ _ _ _ _ _ _ _ _ _ _ _ _ _ _ _ _ _ _ _ _ _ _ _
    · replace H := H.2 (h)
      refine Rch.ex H fun a3' H => Rch.ex H fun x4' H => Rch.leaf ?_
      exact H _ _ _ _ _ _ _ _ _ _ _ _ _ _ _ _ _ _ _ _ _ _ _ _ _ _ _ _ _ _ _ _ _ _ _ _ _ _ _ _ _ _ _ _ _ _ _ _ _ _ _ _ _ _ _ _ _
  · replace H := H.2 (of_decide_eq_false h)
    refine Rn.exit k37_28 rfl (Rn.seq k37_29 (Rn.seq k37_30 (Rn.region k37_31 (fun call K => r37_9) (Rch.leaf ?_))))
    refine Rn.cnd (v := !x12) ⟨c37_32, rfl, by kernel_rfl⟩ (fun h => ?_) (fun h => ?_)
    · replace H := H.1 (h)
      refine Rn.seq k37_33 (Rn.region k37_34 (fun call K => r37_10) (Rch.leaf ?_))
      exact Rn.ret k37_35 e37 H
    · replace H := H.2 (h)
      refine Rn.skip k37_36 (Rn.seq k37_37 (Rn.seq k37_38 (Rn.region k37_39 (fun call K => r37_11) (Rch.leaf ?_))))
      refine Rn.cnd (v := ((lx2 : Int)) != (IntKind.i64.wrap (x3 * x3))) ⟨c37_40, rfl, by kernel_rfl⟩ (fun h => ?_) (fun h => ?_)
      · replace H := H.1 (ne_of_bneT h)
        refine Rn.seq k37_41 (Rn.region k37_42 (fun call K => r37_12) (Rch.leaf ?_))
        exact Rn.ret k37_43 e37 H
      · replace H := H.2 (eq_of_bneF h)
        refine Rn.skip k37_44 (Rn.seq k37_45 (Rn.seq k37_46 (Rn.region k37_47 (fun call K => r37_13) (Rch.leaf (Rn.block k37_48 (Rn.loop k37_49 ?_))))))
        exact H _ _ _ _ _ _ _ _ _ _ _ _ _ _ _ _ _ _ _ _ _ _ _ _ _ _ _ _ _ _ _ _ _ _ _ _ _ _ _ _ _ _ _ _ _ _ _ _ _ _ _ _ _ _ _ _ _ _ _ _ _

theorem w37_2 {x1 : Int} {Ax2 : Option Addr} {lx2 cx2 : Nat} {x3 x4 : Int} {Ax11 : Option Addr} {lx11 cx11 : Nat} {x12 : Bool} {x13 : Int} {M : Mem} {Q : Value → Mem → Prop} (H :
    A37_4 x1 Ax2 lx2 cx2 x3 x4 Ax11 lx11 cx11 x12 x13 M Q) :
    A37_2 x1 Ax2 lx2 cx2 x3 x4 Ax11 lx11 cx11 x12 x13 M Q := by
  intro g0 g5 g6 g7 g8 g9 gA gE gF gG gH gI gJ gK gL gM gN gO gP gQ gR gS gT gU gV gW gX gY gZ hA hB hC hD hE hF hG hH hI hJ hK hL hM hN hO hP hQ hR hS hT hU hV hW hX hY hZ h0 h1
  refine Rn.blk ?_
  exact H _ _ _ _ _ _ _ _ _ _ _ _ _ _ _ _ _ _ _ _ _ _ _ _ _ _ _ _ _ _ _ _ _ _ _ _ _ _ _ _ _ _ _ _ _ _ _ _ _ _ _ _ _ _ _ _ _

theorem w37_3 {Ax2 : Option Addr} {lx2 cx2 : Nat} {x4 x14 : Int} {M : Mem} {Q : Value → Mem → Prop} (H :
    ((x14 < ((lx2 : Int)) →
     ∃ a5', idxA Ax2 lx2 1 x14 = some a5' ∧
     ∃ x6', M.intAt .i64 a5'.block a5'.off = some x6' ∧
     ((x6' < (IntKind.i64.wrap (0 - x4)) →
      A37_5 Ax2 lx2 cx2 x4 x14 true M Q) ∧
      (¬ (x6' < (IntKind.i64.wrap (0 - x4))) →
      ∃ a7', idxA Ax2 lx2 1 x14 = some a7' ∧
      ∃ x8', M.intAt .i64 a7'.block a7'.off = some x8' ∧
      A37_5 Ax2 lx2 cx2 x4 x14 (decide (x8' > x4)) M Q))) ∧
     (¬ (x14 < ((lx2 : Int))) →
     Q (.int .i64 0) M))) :
    A37_3 Ax2 lx2 cx2 x4 x14 M Q := by
  intro g0 g1 g3 g5 g6 g7 g8 g9 gA gB gC gD gF gG gH gI gJ gK gL gM gN gO gP gQ gR gS gT gU gV gW gX gY gZ hA hB hC hD hE hF hG hH hI hJ hK hL hM hN hO hP hQ hR hS hT hU hV hW hX hY hZ h0 h1
  refine Rn.seq k37_50 (Rn.seq k37_51 (Rn.region k37_52 (fun call K => r37_14) (Rch.leaf ?_)))
  refine Rn.cnd (v := decide (x14 < ((lx2 : Int)))) ⟨c37_53, rfl, by kernel_rfl⟩ (fun h => ?_) (fun h => ?_)
  · replace H := H.1 (of_decide_eq_true h)
    refine Rn.skip k37_54 (Rn.seq k37_55 (Rn.block k37_56 (Rn.seq k37_57 (Rn.region k37_58 (fun call K => r37_16) (Rch.ex H fun a5' H => Rch.ex H fun x6' H => ?_)))))
    refine Rch.cB (fun h => ?_) (fun h => ?_)
    · replace H := H.1 (of_decide_eq_true h)
      refine Rch.leaf ?_
      exact H _ _ _ _ _ _ _ _ _ _ _ _ _ _ _ _ _ _ _ _ _ _ _ _ _ _ _ _ _ _ _ _ _ _ _ _ _ _ _ _ _ _ _ _ _ _ _ _ _ _ _ _ _ _ _ _ _ _ _ _
    · replace H := H.2 (of_decide_eq_false h)
      refine Rch.ex H fun a7' H => Rch.ex H fun x8' H => Rch.leaf ?_
      exact H _ _ _ _ _ _ _ _ _ _ _ _ _ _ _ _ _ _ _ _ _ _ _ _ _ _ _ _ _ _ _ _ _ _ _ _ _ _ _ _ _ _ _ _ _ _ _ _ _ _ _ _ _ _ _ _ _ _ _ _
  · replace H := H.2 (of_decide_eq_false h)
    refine Rn.exit k37_59 rfl (Rn.seq k37_60 (Rn.region k37_61 (fun call K => r37_18) (Rch.leaf ?_)))
    exact Rn.ret k37_62 e37 H

theorem w37_4 {x1 : Int} {Ax2 : Option Addr} {lx2 cx2 : Nat} {x3 x4 : Int} {Ax11 : Option Addr} {lx11 cx11 : Nat} {x12 : Bool} {x13 : Int} {M : Mem} {Q : Value → Mem → Prop} (H :
    A37_1 x1 Ax2 lx2 cx2 x3 x4 Ax11 lx11 cx11 x12 (IntKind.i64.wrap (x13 + 1)) M Q) :
    A37_4 x1 Ax2 lx2 cx2 x3 x4 Ax11 lx11 cx11 x12 x13 M Q := by
  intro g0 g5 g6 g7 g8 g9 gA gE gF gG gH gI gJ gK gL gM gN gO gP gQ gR gS gT gU gV gW gX gY gZ hA hB hC hD hE hF hG hH hI hJ hK hL hM hN hO hP hQ hR hS hT hU hV hW hX hY hZ h0 h1
  refine Rn.region k37_63 (fun call K => r37_7) (Rch.leaf (Rn.lp ?_))
  exact H _ _ _ _ _ _ _ _ _ _ _ _ _ _ _ _ _ _ _ _ _ _ _ _ _ _ _ _ _ _ _ _ _ _ _ _ _ _ _ _ _ _ _ _ _ _ _ _ _ _ _ _ _ _ _ _ _

theorem w37_5 {Ax2 : Option Addr} {lx2 cx2 : Nat} {x4 x14 : Int} {x63 : Bool} {M : Mem} {Q : Value → Mem → Prop} (H :
    ((x63 = true →
     Q (.int .i64 2) M) ∧
     (x63 = false →
     A37_3 Ax2 lx2 cx2 x4 (IntKind.i64.wrap (x14 + 1)) M Q))) :
    A37_5 Ax2 lx2 cx2 x4 x14 x63 M Q := by
  intro g0 g1 g3 g5 g6 g7 g8 g9 gA gB gC gD gF gG gH gI gJ gK gL gM gN gO gP gQ gR gS gT gU gV gW gX gY gZ hA hB hC hD hE hF hG hH hI hJ hK hL hM hN hO hP hQ hR hS hT hU hV hW hX hY hZ h0
  refine Rn.cnd (v := x63) ⟨c37_64, rfl, by kernel_rfl⟩ (fun h => ?_) (fun h => ?_)
  · replace H := H.1 (h)
    refine Rn.seq k37_65 (Rn.region k37_66 (fun call K => r37_17) (Rch.leaf ?_))
    exact Rn.ret k37_67 e37 H
  · replace H := H.2 (h)
    refine Rn.skip k37_68 (Rn.blk (Rn.region k37_69 (fun call K => r37_15) (Rch.leaf (Rn.lp ?_))))
    exact H _ _ _ _ _ _ _ _ _ _ _ _ _ _ _ _ _ _ _ _ _ _ _ _ _ _ _ _ _ _ _ _ _ _ _ _ _ _ _ _ _ _ _ _ _ _ _ _ _ _ _ _ _ _ _ _ _ _ _ _ _


/-! ### zoetrope/zoetroperef08.kinds: function 38 -/
noncomputable abbrev P38 (p : List Nat) : Code := subC (codeOf Try.f38) p
noncomputable abbrev O38 (p : List Nat) : Array Oper := opsOf (subC (codeOf Try.f38) p)
theorem b38 : Try.prog.funcs[38]? = some Try.f38 ∧ (Orc.tab Try.prog).lookup 38 = none := ⟨by kernel_rfl, by kernel_rfl⟩
theorem d38 : Try.f38.body = some (P38 []) := by kernel_rfl
theorem t38 {x0 : Int} : #[.int .i64 x0] ++ Array.replicate (Try.f38.ntmps - (#[.int .i64 x0] : Array Value).size) undef = #[.int .i64 x0,undef,undef,undef,undef,undef,undef,undef,undef,undef] := by kernel_rfl
theorem k38_0 : P38 [] = .seq (P38 [0]) (P38 [1]) := by kernel_rfl
theorem k38_1 : P38 [0] = .region 0 (O38 [0]) false := by kernel_rfl
theorem r38_0 {M : Mem} {call : CallM} {K : Array Value → Mem → R} :
    opsK Try.prog (fun _ => call) (O38 [0]) (O38 [0]).toList 0 #[g0,g1,g2,g3,g4,g5,g6,g7,g8,g9] M K = K #[g0,g1,.int .i64 0,.int .i64 0,g4,g5,g6,g7,g8,g9] M := by kernel_rfl
theorem k38_2 : P38 [1] = .seq (P38 [1,0]) (P38 [1,1]) := by kernel_rfl
theorem k38_3 : P38 [1,0] = .seq (P38 [1,0,0]) (P38 [1,0,1]) := by kernel_rfl
theorem k38_4 : P38 [1,0,0] = .region 1 (O38 [1,0,0]) false := by kernel_rfl
theorem r38_1 {x0 : Int} {M : Mem} {call : CallM} {K : Array Value → Mem → R} :
    opsK Try.prog (fun _ => call) (O38 [1,0,0]) (O38 [1,0,0]).toList 0 #[.int .i64 x0,g1,g2,g3,g4,g5,g6,g7,g8,g9] M K = K #[.int .i64 x0,g1,g2,g3,.int .i64 x0,.bool (x0 == 9),g6,g7,g8,g9] M := by kernel_rfl
theorem c38_5 : P38 [1,0,1] = .cond (.tmp 5) (P38 [1,0,1,0]) (P38 [1,0,1,1]) := by kernel_rfl
theorem k38_6 : P38 [1,0,1,0] = .seq (P38 [1,0,1,0,0]) (P38 [1,0,1,0,1]) := by kernel_rfl
theorem k38_7 : P38 [1,0,1,0,0] = .region 2 (O38 [1,0,1,0,0]) false := by kernel_rfl
theorem r38_2 {M : Mem} {call : CallM} {K : Array Value → Mem → R} :
    opsK Try.prog (fun _ => call) (O38 [1,0,1,0,0]) (O38 [1,0,1,0,0]).toList 0 #[g0,g1,g2,g3,g4,g5,g6,g7,g8,g9] M K = K #[g0,g1,.int .i64 3,.int .i64 3,g4,g5,g6,g7,g8,g9] M := by kernel_rfl
theorem k38_8 : P38 [1,0,1,0,1] = .ret := by kernel_rfl
theorem e38 {M : Mem} : finish Try.prog Try.f38 #[g0,g1,g2,g3,g4,g5,g6,g7,g8,g9] M = some (.tuple #[g2, g3], M) := by kernel_rfl
theorem k38_10 : P38 [1,0,1,1] = .skip := by kernel_rfl
theorem k38_11 : P38 [1,1] = .seq (P38 [1,1,0]) (P38 [1,1,1]) := by kernel_rfl
theorem k38_12 : P38 [1,1,0] = .region 3 (O38 [1,1,0]) false := by kernel_rfl
theorem r38_3 {x0 : Int} {M : Mem} {call : CallM} {K : Array Value → Mem → R} :
    opsK Try.prog (fun _ => call) (O38 [1,1,0]) (O38 [1,1,0]).toList 0 #[.int .i64 x0,g1,g2,g3,g4,g5,g6,g7,g8,g9] M K = K #[.int .i64 x0,g1,.int .i64 (x0.tmod 3),.int .i64 (IntKind.i64.wrap (x0.tdiv 3)),g4,g5,.int .i64 x0,.int .i64 (x0.tmod 3),.int .i64 x0,.int .i64 (IntKind.i64.wrap (x0.tdiv 3))] M := by kernel_rfl
theorem k38_13 : P38 [1,1,1] = .ret := by kernel_rfl
theorem w38_0 {x0 : Int} {M : Mem} {Q : Value → Mem → Prop} (H :
    ((x0 = 9 →
     Q (.tuple #[.int .i64 3, .int .i64 3]) M) ∧
     (x0 ≠ 9 →
     Q (.tuple #[.int .i64 (x0.tmod 3), .int .i64 (IntKind.i64.wrap (x0.tdiv 3))]) M))) :
    Cn Try.prog 38 #[.int .i64 x0] M Q := by
  refine Cn.of b38 d38 t38 ?_
  refine Rn.seq k38_0 (Rn.region k38_1 (fun call K => r38_0) (Rch.leaf (Rn.seq k38_2 (Rn.seq k38_3 (Rn.region k38_4 (fun call K => r38_1) (Rch.leaf ?_))))))
  refine Rn.cnd (v := x0 == 9) ⟨c38_5, rfl, by kernel_rfl⟩ (fun h => ?_) (fun h => ?_)
  · replace H := H.1 (eq_of_beq h)
    refine Rn.seq k38_6 (Rn.region k38_7 (fun call K => r38_2) (Rch.leaf ?_))
    exact Rn.ret k38_8 e38 H
  · replace H := H.2 (ne_of_beq_false h)
    refine Rn.skip k38_10 (Rn.seq k38_11 (Rn.region k38_12 (fun call K => r38_3) (Rch.leaf ?_)))
    exact Rn.ret k38_13 e38 H


/-! ### zoetrope/zoetroperef00.Clip: function 56 -/
noncomputable abbrev P56 (p : List Nat) : Code := subC (codeOf Try.f56) p
noncomputable abbrev O56 (p : List Nat) : Array Oper := opsOf (subC (codeOf Try.f56) p)
theorem b56 : Try.prog.funcs[56]? = some Try.f56 ∧ (Orc.tab Try.prog).lookup 56 = none := ⟨by kernel_rfl, by kernel_rfl⟩
theorem d56 : Try.f56.body = some (P56 []) := by kernel_rfl
theorem t56 {x0 x1 x2 : Int} : #[.int .i64 x0,.int .i64 x1,.int .i64 x2] ++ Array.replicate (Try.f56.ntmps - (#[.int .i64 x0,.int .i64 x1,.int .i64 x2] : Array Value).size) undef = #[.int .i64 x0,.int .i64 x1,.int .i64 x2,undef,undef,undef,undef,undef,undef,undef,undef,undef,undef,undef,undef,undef] := by kernel_rfl
theorem k56_0 : P56 [] = .seq (P56 [0]) (P56 [1]) := by kernel_rfl
theorem k56_1 : P56 [0] = .region 0 (O56 [0]) false := by kernel_rfl
theorem r56_0 {M : Mem} {call : CallM} {K : Array Value → Mem → R} :
    opsK Try.prog (fun _ => call) (O56 [0]) (O56 [0]).toList 0 #[g0,g1,g2,g3,g4,g5,g6,g7,g8,g9,gA,gB,gC,gD,gE,gF] M K = K #[g0,g1,g2,g3,g4,g5,.int .i64 0,g7,g8,g9,gA,gB,gC,gD,gE,gF] M := by kernel_rfl
theorem k56_2 : P56 [1] = .seq (P56 [1,0]) (P56 [1,1]) := by kernel_rfl
theorem k56_3 : P56 [1,0] = .seq (P56 [1,0,0]) (P56 [1,0,1]) := by kernel_rfl
theorem k56_4 : P56 [1,0,0] = .region 1 (O56 [1,0,0]) false := by kernel_rfl
theorem r56_1 {x0 x1 : Int} {M : Mem} {call : CallM} {K : Array Value → Mem → R} :
    opsK Try.prog (fun _ => call) (O56 [1,0,0]) (O56 [1,0,0]).toList 0 #[.int .i64 x0,.int .i64 x1,g2,g3,g4,g5,g6,g7,g8,g9,gA,gB,gC,gD,gE,gF] M K = K #[.int .i64 x0,.int .i64 x1,g2,g3,g4,g5,g6,.int .i64 x0,.int .i64 x1,.bool (decide (x0 < x1)),gA,gB,gC,gD,gE,gF] M := by kernel_rfl
theorem c56_5 : P56 [1,0,1] = .cond (.tmp 9) (P56 [1,0,1,0]) (P56 [1,0,1,1]) := by kernel_rfl
theorem k56_6 : P56 [1,0,1,0] = .seq (P56 [1,0,1,0,0]) (P56 [1,0,1,0,1]) := by kernel_rfl
theorem k56_7 : P56 [1,0,1,0,0] = .region 2 (O56 [1,0,1,0,0]) false := by kernel_rfl
theorem r56_2 {x1 : Int} {M : Mem} {call : CallM} {K : Array Value → Mem → R} :
    opsK Try.prog (fun _ => call) (O56 [1,0,1,0,0]) (O56 [1,0,1,0,0]).toList 0 #[g0,.int .i64 x1,g2,g3,g4,g5,g6,g7,g8,g9,gA,gB,gC,gD,gE,gF] M K = K #[g0,.int .i64 x1,g2,g3,g4,g5,.int .i64 x1,g7,g8,g9,.int .i64 x1,gB,gC,gD,gE,gF] M := by kernel_rfl
theorem k56_8 : P56 [1,0,1,0,1] = .ret := by kernel_rfl
theorem e56 {M : Mem} : finish Try.prog Try.f56 #[g0,g1,g2,g3,g4,g5,g6,g7,g8,g9,gA,gB,gC,gD,gE,gF] M = some (g6, M) := by kernel_rfl
theorem k56_10 : P56 [1,0,1,1] = .skip := by kernel_rfl
theorem k56_11 : P56 [1,1] = .seq (P56 [1,1,0]) (P56 [1,1,1]) := by kernel_rfl
theorem k56_12 : P56 [1,1,0] = .seq (P56 [1,1,0,0]) (P56 [1,1,0,1]) := by kernel_rfl
theorem k56_13 : P56 [1,1,0,0] = .region 3 (O56 [1,1,0,0]) false := by kernel_rfl
theorem r56_3 {x0 x2 : Int} {M : Mem} {call : CallM} {K : Array Value → Mem → R} :
    opsK Try.prog (fun _ => call) (O56 [1,1,0,0]) (O56 [1,1,0,0]).toList 0 #[.int .i64 x0,g1,.int .i64 x2,g3,g4,g5,g6,g7,g8,g9,gA,gB,gC,gD,gE,gF] M K = K #[.int .i64 x0,g1,.int .i64 x2,g3,g4,g5,g6,g7,g8,g9,gA,.int .i64 x0,.int .i64 x2,.bool (decide (x0 > x2)),gE,gF] M := by kernel_rfl
theorem c56_14 : P56 [1,1,0,1] = .cond (.tmp 13) (P56 [1,1,0,1,0]) (P56 [1,1,0,1,1]) := by kernel_rfl
theorem k56_15 : P56 [1,1,0,1,0] = .seq (P56 [1,1,0,1,0,0]) (P56 [1,1,0,1,0,1]) := by kernel_rfl
theorem k56_16 : P56 [1,1,0,1,0,0] = .region 4 (O56 [1,1,0,1,0,0]) false := by kernel_rfl
theorem r56_4 {x2 : Int} {M : Mem} {call : CallM} {K : Array Value → Mem → R} :
    opsK Try.prog (fun _ => call) (O56 [1,1,0,1,0,0]) (O56 [1,1,0,1,0,0]).toList 0 #[g0,g1,.int .i64 x2,g3,g4,g5,g6,g7,g8,g9,gA,gB,gC,gD,gE,gF] M K = K #[g0,g1,.int .i64 x2,g3,g4,g5,.int .i64 x2,g7,g8,g9,gA,gB,gC,gD,.int .i64 x2,gF] M := by kernel_rfl
theorem k56_17 : P56 [1,1,0,1,0,1] = .ret := by kernel_rfl
theorem k56_18 : P56 [1,1,0,1,1] = .skip := by kernel_rfl
theorem k56_19 : P56 [1,1,1] = .seq (P56 [1,1,1,0]) (P56 [1,1,1,1]) := by kernel_rfl
theorem k56_20 : P56 [1,1,1,0] = .region 5 (O56 [1,1,1,0]) false := by kernel_rfl
theorem r56_5 {x0 : Int} {M : Mem} {call : CallM} {K : Array Value → Mem → R} :
    opsK Try.prog (fun _ => call) (O56 [1,1,1,0]) (O56 [1,1,1,0]).toList 0 #[.int .i64 x0,g1,g2,g3,g4,g5,g6,g7,g8,g9,gA,gB,gC,gD,gE,gF] M K = K #[.int .i64 x0,g1,g2,g3,g4,g5,.int .i64 x0,g7,g8,g9,gA,gB,gC,gD,gE,.int .i64 x0] M := by kernel_rfl
theorem k56_21 : P56 [1,1,1,1] = .ret := by kernel_rfl
theorem w56_0 {x0 x1 x2 : Int} {M : Mem} {Q : Value → Mem → Prop} (H :
    ((x0 < x1 →
     Q (.int .i64 x1) M) ∧
     (¬ (x0 < x1) →
     ((x0 > x2 →
      Q (.int .i64 x2) M) ∧
      (¬ (x0 > x2) →
      Q (.int .i64 x0) M))))) :
    Cn Try.prog 56 #[.int .i64 x0, .int .i64 x1, .int .i64 x2] M Q := by
  refine Cn.of b56 d56 t56 ?_
  refine Rn.seq k56_0 (Rn.region k56_1 (fun call K => r56_0) (Rch.leaf (Rn.seq k56_2 (Rn.seq k56_3 (Rn.region k56_4 (fun call K => r56_1) (Rch.leaf ?_))))))
  refine Rn.cnd (v := decide (x0 < x1)) ⟨c56_5, rfl, by kernel_rfl⟩ (fun h => ?_) (fun h => ?_)
  · replace H := H.1 (of_decide_eq_true h)
    refine Rn.seq k56_6 (Rn.region k56_7 (fun call K => r56_2) (Rch.leaf ?_))
    exact Rn.ret k56_8 e56 H
  · replace H := H.2 (of_decide_eq_false h)
    refine Rn.skip k56_10 (Rn.seq k56_11 (Rn.seq k56_12 (Rn.region k56_13 (fun call K => r56_3) (Rch.leaf ?_))))
    refine Rn.cnd (v := decide (x0 > x2)) ⟨c56_14, rfl, by kernel_rfl⟩ (fun h => ?_) (fun h => ?_)
    · replace H := H.1 (of_decide_eq_true h)
      refine Rn.seq k56_15 (Rn.region k56_16 (fun call K => r56_4) (Rch.leaf ?_))
      exact Rn.ret k56_17 e56 H
    · replace H := H.2 (of_decide_eq_false h)
      refine Rn.skip k56_18 (Rn.seq k56_19 (Rn.region k56_20 (fun call K => r56_5) (Rch.leaf ?_)))
      exact Rn.ret k56_21 e56 H


/-! ### zoetrope/zoetroperef08.clipped: function 40 -/
noncomputable abbrev P40 (p : List Nat) : Code := subC (codeOf Try.f40) p
noncomputable abbrev O40 (p : List Nat) : Array Oper := opsOf (subC (codeOf Try.f40) p)
theorem b40 : Try.prog.funcs[40]? = some Try.f40 ∧ (Orc.tab Try.prog).lookup 40 = none := ⟨by kernel_rfl, by kernel_rfl⟩
theorem d40 : Try.f40.body = some (P40 []) := by kernel_rfl
theorem t40 {x0 : Int} : #[.int .i64 x0] ++ Array.replicate (Try.f40.ntmps - (#[.int .i64 x0] : Array Value).size) undef = #[.int .i64 x0,undef,undef,undef,undef] := by kernel_rfl
theorem k40_0 : P40 [] = .seq (P40 [0]) (P40 [1]) := by kernel_rfl
theorem k40_1 : P40 [0] = .region 0 (O40 [0]) false := by kernel_rfl
theorem r40_0 {M : Mem} {call : CallM} {K : Array Value → Mem → R} :
    opsK Try.prog (fun _ => call) (O40 [0]) (O40 [0]).toList 0 #[g0,g1,g2,g3,g4] M K = K #[g0,g1,.int .i64 0,g3,g4] M := by kernel_rfl
theorem k40_2 : P40 [1] = .seq (P40 [1,0]) (P40 [1,1]) := by kernel_rfl
theorem k40_3 : P40 [1,0] = .region 1 (O40 [1,0]) false := by kernel_rfl
theorem r40_1 {x0 : Int} {M : Mem} {call : CallM} {K : Array Value → Mem → R} :
    opsK Try.prog (fun _ => call) (O40 [1,0]) (O40 [1,0]).toList 0 #[.int .i64 x0,g1,g2,g3,g4] M K = (call 56 #[.int .i64 x0, .int .i64 (-32768), .int .i64 32767] M).bind fun r_1 => (asI .i64 r_1.1).bind fun x_2 => K #[.int .i64 x0,g1,.int .i64 x_2,.int .i64 x0,.int .i64 x_2] r_1.2 := by kernel_rfl
theorem k40_4 : P40 [1,1] = .ret := by kernel_rfl
theorem e40 {M : Mem} : finish Try.prog Try.f40 #[g0,g1,g2,g3,g4] M = some (g2, M) := by kernel_rfl
theorem w40_0 {x0 : Int} {M : Mem} {Q : Value → Mem → Prop} (H :
    Cn Try.prog 56 #[.int .i64 x0, .int .i64 (-32768), .int .i64 32767] M fun v1' N1' =>
     ∃ x2', asI .i64 v1' = some x2' ∧
     Q (.int .i64 (x2')) N1') :
    Cn Try.prog 40 #[.int .i64 x0] M Q := by
  refine Cn.of b40 d40 t40 ?_
  refine Rn.seq k40_0 (Rn.region k40_1 (fun call K => r40_0) (Rch.leaf (Rn.seq k40_2 (Rn.region k40_3 (fun call K => r40_1) (Rch.call H fun v1' N1' H => Rch.ex H fun x2' H => Rch.leaf ?_)))))
  exact Rn.ret k40_4 e40 H


/-! ### zoetrope/zoetroperef08.round: function 42 -/
noncomputable abbrev P42 (p : List Nat) : Code := subC (codeOf Try.f42) p
noncomputable abbrev O42 (p : List Nat) : Array Oper := opsOf (subC (codeOf Try.f42) p)
theorem b42 : Try.prog.funcs[42]? = some Try.f42 ∧ (Orc.tab Try.prog).lookup 42 = none := ⟨by kernel_rfl, by kernel_rfl⟩
theorem d42 : Try.f42.body = some (P42 []) := by kernel_rfl
theorem t42 {x0 x1 : Int} : #[.int .i64 x0,.int .i64 x1] ++ Array.replicate (Try.f42.ntmps - (#[.int .i64 x0,.int .i64 x1] : Array Value).size) undef = #[.int .i64 x0,.int .i64 x1,undef,undef,undef,undef,undef,undef,undef,undef,undef,undef,undef,undef,undef] := by kernel_rfl
theorem k42_0 : P42 [] = .seq (P42 [0]) (P42 [1]) := by kernel_rfl
theorem k42_1 : P42 [0] = .region 0 (O42 [0]) false := by kernel_rfl
theorem r42_0 {M : Mem} {call : CallM} {K : Array Value → Mem → R} :
    opsK Try.prog (fun _ => call) (O42 [0]) (O42 [0]).toList 0 #[g0,g1,g2,g3,g4,g5,g6,g7,g8,g9,gA,gB,gC,gD,gE] M K = K #[g0,g1,g2,g3,.int .i64 0,g5,g6,g7,g8,g9,gA,gB,gC,gD,gE] M := by kernel_rfl
theorem k42_2 : P42 [1] = .seq (P42 [1,0]) (P42 [1,1]) := by kernel_rfl
theorem k42_3 : P42 [1,0] = .seq (P42 [1,0,0]) (P42 [1,0,1]) := by kernel_rfl
theorem k42_4 : P42 [1,0,0] = .region 1 (O42 [1,0,0]) false := by kernel_rfl
theorem r42_1 {x1 : Int} {M : Mem} {call : CallM} {K : Array Value → Mem → R} :
    opsK Try.prog (fun _ => call) (O42 [1,0,0]) (O42 [1,0,0]).toList 0 #[g0,.int .i64 x1,g2,g3,g4,g5,g6,g7,g8,g9,gA,gB,gC,gD,gE] M K = K #[g0,.int .i64 x1,g2,g3,g4,.int .i64 x1,.bool (x1 == 0),g7,g8,g9,gA,gB,gC,gD,gE] M := by kernel_rfl
theorem c42_5 : P42 [1,0,1] = .cond (.tmp 6) (P42 [1,0,1,0]) (P42 [1,0,1,1]) := by kernel_rfl
theorem k42_6 : P42 [1,0,1,0] = .seq (P42 [1,0,1,0,0]) (P42 [1,0,1,0,1]) := by kernel_rfl
theorem k42_7 : P42 [1,0,1,0,0] = .region 2 (O42 [1,0,1,0,0]) false := by kernel_rfl
theorem r42_2 {x0 : Int} {M : Mem} {call : CallM} {K : Array Value → Mem → R} :
    opsK Try.prog (fun _ => call) (O42 [1,0,1,0,0]) (O42 [1,0,1,0,0]).toList 0 #[.int .i64 x0,g1,g2,g3,g4,g5,g6,g7,g8,g9,gA,gB,gC,gD,gE] M K = K #[.int .i64 x0,g1,g2,g3,.int .i64 x0,g5,g6,.int .i64 x0,g8,g9,gA,gB,gC,gD,gE] M := by kernel_rfl
theorem k42_8 : P42 [1,0,1,0,1] = .ret := by kernel_rfl
theorem e42 {M : Mem} : finish Try.prog Try.f42 #[g0,g1,g2,g3,g4,g5,g6,g7,g8,g9,gA,gB,gC,gD,gE] M = some (g4, M) := by kernel_rfl
theorem k42_10 : P42 [1,0,1,1] = .skip := by kernel_rfl
theorem k42_11 : P42 [1,1] = .seq (P42 [1,1,0]) (P42 [1,1,1]) := by kernel_rfl
theorem k42_12 : P42 [1,1,0] = .region 3 (O42 [1,1,0]) false := by kernel_rfl
theorem r42_3 {x0 x1 : Int} {M : Mem} {call : CallM} {K : Array Value → Mem → R} :
    opsK Try.prog (fun _ => call) (O42 [1,1,0]) (O42 [1,1,0]).toList 0 #[.int .i64 x0,.int .i64 x1,g2,g3,g4,g5,g6,g7,g8,g9,gA,gB,gC,gD,gE] M K = (binV Try.prog .shl 3 3 (.int .i64 1) (.int .i64 (IntKind.i64.wrap (x1 - 1)))).bind fun v_1 => (asI .i64 v_1).bind fun x_2 => (binV Try.prog .shr 3 3 (.int .i64 (IntKind.i64.wrap (x0 + x_2))) (.int .i64 x1)).bind fun v_3 => (asI .i64 v_3).bind fun x_4 => K #[.int .i64 x0,.int .i64 x1,g2,g3,.int .i64 x_4,g5,g6,g7,.int .i64 x0,.int .i64 x1,.int .i64 (IntKind.i64.wrap (x1 - 1)),.int .i64 x_2,.int .i64 (IntKind.i64.wrap (x0 + x_2)),.int .i64 x1,.int .i64 x_4] M := by kernel_rfl
theorem k42_13 : P42 [1,1,1] = .ret := by kernel_rfl
theorem w42_0 {x0 x1 : Int} {M : Mem} {Q : Value → Mem → Prop} (H :
    ((x1 = 0 →
     Q (.int .i64 x0) M) ∧
     (x1 ≠ 0 →
     ∃ v1', binV Try.prog .shl 3 3 (.int .i64 1) (.int .i64 (IntKind.i64.wrap (x1 - 1))) = some v1' ∧
     ∃ x2', asI .i64 v1' = some x2' ∧
     ∃ v3', binV Try.prog .shr 3 3 (.int .i64 (IntKind.i64.wrap (x0 + x2'))) (.int .i64 x1) = some v3' ∧
     ∃ x4', asI .i64 v3' = some x4' ∧
     Q (.int .i64 (x4')) M))) :
    Cn Try.prog 42 #[.int .i64 x0, .int .i64 x1] M Q := by
  refine Cn.of b42 d42 t42 ?_
  refine Rn.seq k42_0 (Rn.region k42_1 (fun call K => r42_0) (Rch.leaf (Rn.seq k42_2 (Rn.seq k42_3 (Rn.region k42_4 (fun call K => r42_1) (Rch.leaf ?_))))))
  refine Rn.cnd (v := x1 == 0) ⟨c42_5, rfl, by kernel_rfl⟩ (fun h => ?_) (fun h => ?_)
  · replace H := H.1 (eq_of_beq h)
    refine Rn.seq k42_6 (Rn.region k42_7 (fun call K => r42_2) (Rch.leaf ?_))
    exact Rn.ret k42_8 e42 H
  · replace H := H.2 (ne_of_beq_false h)
    refine Rn.skip k42_10 (Rn.seq k42_11 (Rn.region k42_12 (fun call K => r42_3) (Rch.ex H fun v1' H => Rch.ex H fun x2' H => Rch.ex H fun v3' H => Rch.ex H fun x4' H => Rch.leaf ?_)))
    exact Rn.ret k42_13 e42 H


/-! ### zoetrope/zoetroperef08.column: function 43 -/
noncomputable abbrev P43 (p : List Nat) : Code := subC (codeOf Try.f43) p
noncomputable abbrev O43 (p : List Nat) : Array Oper := opsOf (subC (codeOf Try.f43) p)
theorem b43 : Try.prog.funcs[43]? = some Try.f43 ∧ (Orc.tab Try.prog).lookup 43 = none := ⟨by kernel_rfl, by kernel_rfl⟩
theorem d43 : Try.f43.body = some (P43 []) := by kernel_rfl
theorem t43 {Ax0 : Option Addr} {lx0 cx0 : Nat} {x1 x2 : Int} : #[.slice Ax0 lx0 cx0,.int .i64 x1,.int .i64 x2] ++ Array.replicate (Try.f43.ntmps - (#[.slice Ax0 lx0 cx0,.int .i64 x1,.int .i64 x2] : Array Value).size) undef = #[.slice Ax0 lx0 cx0,.int .i64 x1,.int .i64 x2,undef,undef,undef,undef,undef,undef,undef,undef,undef,undef,undef,undef,undef,undef,undef,undef,undef,undef,undef,undef,undef,undef,undef] := by kernel_rfl
theorem k43_0 : P43 [] = .seq (P43 [0]) (P43 [1]) := by kernel_rfl
theorem k43_1 : P43 [0] = .region 0 (O43 [0]) false := by kernel_rfl
theorem r43_0 {M : Mem} {call : CallM} {K : Array Value → Mem → R} :
    opsK Try.prog (fun _ => call) (O43 [0]) (O43 [0]).toList 0 #[g0,g1,g2,g3,g4,g5,g6,g7,g8,g9,gA,gB,gC,gD,gE,gF,gG,gH,gI,gJ,gK,gL,gM,gN,gO,gP] M K = K #[g0,g1,g2,g3,g4,g5,.slice none 0 0,g7,g8,g9,gA,gB,gC,gD,gE,gF,gG,gH,gI,gJ,gK,gL,gM,gN,gO,gP] M := by kernel_rfl
theorem k43_2 : P43 [1] = .seq (P43 [1,0]) (P43 [1,1]) := by kernel_rfl
theorem k43_3 : P43 [1,0] = .region 1 (O43 [1,0]) false := by kernel_rfl
theorem r43_1 {M : Mem} {call : CallM} {K : Array Value → Mem → R} :
    opsK Try.prog (fun _ => call) (O43 [1,0]) (O43 [1,0]).toList 0 #[g0,g1,g2,g3,g4,g5,g6,g7,g8,g9,gA,gB,gC,gD,gE,gF,gG,gH,gI,gJ,gK,gL,gM,gN,gO,gP] M K = K #[g0,g1,g2,g3,g4,g5,g6,.slice none 0 0,g8,g9,gA,gB,gC,gD,gE,gF,gG,gH,gI,gJ,gK,gL,gM,gN,gO,gP] M := by kernel_rfl
theorem k43_4 : P43 [1,1] = .seq (P43 [1,1,0]) (P43 [1,1,1]) := by kernel_rfl
theorem k43_5 : P43 [1,1,0] = .seq (P43 [1,1,0,0]) (P43 [1,1,0,1]) := by kernel_rfl
theorem k43_6 : P43 [1,1,0,0] = .region 2 (O43 [1,1,0,0]) false := by kernel_rfl
theorem r43_2 {M : Mem} {call : CallM} {K : Array Value → Mem → R} :
    opsK Try.prog (fun _ => call) (O43 [1,1,0,0]) (O43 [1,1,0,0]).toList 0 #[g0,g1,g2,g3,g4,g5,g6,g7,g8,g9,gA,gB,gC,gD,gE,gF,gG,gH,gI,gJ,gK,gL,gM,gN,gO,gP] M K = K #[g0,g1,g2,g3,g4,g5,g6,g7,.int .i64 0,g9,gA,gB,gC,gD,gE,gF,gG,gH,gI,gJ,gK,gL,gM,gN,gO,gP] M := by kernel_rfl
theorem k43_7 : P43 [1,1,0,1] = .block 0 (P43 [1,1,0,1,0]) := by kernel_rfl
theorem k43_8 : P43 [1,1,0,1,0] = .loop (P43 [1,1,0,1,0,0]) := by kernel_rfl
theorem k43_9 : P43 [1,1,0,1,0,0] = .seq (P43 [1,1,0,1,0,0,0]) (P43 [1,1,0,1,0,0,1]) := by kernel_rfl
theorem k43_10 : P43 [1,1,0,1,0,0,0] = .seq (P43 [1,1,0,1,0,0,0,0]) (P43 [1,1,0,1,0,0,0,1]) := by kernel_rfl
theorem k43_11 : P43 [1,1,0,1,0,0,0,0] = .region 3 (O43 [1,1,0,1,0,0,0,0]) false := by kernel_rfl
theorem r43_3 {x1 x8 : Int} {M : Mem} {call : CallM} {K : Array Value → Mem → R} :
    opsK Try.prog (fun _ => call) (O43 [1,1,0,1,0,0,0,0]) (O43 [1,1,0,1,0,0,0,0]).toList 0 #[g0,.int .i64 x1,g2,g3,g4,g5,g6,g7,.int .i64 x8,g9,gA,gB,gC,gD,gE,gF,gG,gH,gI,gJ,gK,gL,gM,gN,gO,gP] M K = K #[g0,.int .i64 x1,g2,g3,g4,g5,g6,g7,.int .i64 x8,.int .i64 x8,.int .i64 x1,.bool (decide (x8 < x1)),gC,gD,gE,gF,gG,gH,gI,gJ,gK,gL,gM,gN,gO,gP] M := by kernel_rfl
theorem c43_12 : P43 [1,1,0,1,0,0,0,1] = .cond (.tmp 11) (P43 [1,1,0,1,0,0,0,1,0]) (P43 [1,1,0,1,0,0,0,1,1]) := by kernel_rfl
theorem k43_13 : P43 [1,1,0,1,0,0,0,1,0] = .skip := by kernel_rfl
theorem k43_14 : P43 [1,1,0,1,0,0,1] = .seq (P43 [1,1,0,1,0,0,1,0]) (P43 [1,1,0,1,0,0,1,1]) := by kernel_rfl
theorem k43_15 : P43 [1,1,0,1,0,0,1,0] = .block 1 (P43 [1,1,0,1,0,0,1,0,0]) := by kernel_rfl
theorem k43_16 : P43 [1,1,0,1,0,0,1,0,0] = .region 5 (O43 [1,1,0,1,0,0,1,0,0]) false := by kernel_rfl
theorem r43_5 {Ax0 : Option Addr} {lx0 cx0 : Nat} {x1 x2 : Int} {Ax7 : Option Addr} {lx7 cx7 : Nat} {x8 : Int} {M : Mem} {call : CallM} {K : Array Value → Mem → R} :
    opsK Try.prog (fun _ => call) (O43 [1,1,0,1,0,0,1,0,0]) (O43 [1,1,0,1,0,0,1,0,0]).toList 0 #[.slice Ax0 lx0 cx0,.int .i64 x1,.int .i64 x2,g3,g4,g5,g6,.slice Ax7 lx7 cx7,.int .i64 x8,g9,gA,gB,gC,gD,gE,gF,gG,gH,gI,gJ,gK,gL,gM,gN,gO,gP] M K = (idxA Ax0 lx0 1 (IntKind.i64.wrap ((IntKind.i64.wrap (x8 * x1)) + x2))).bind fun a_1 => (M.intAt .i64 a_1.block a_1.off).bind fun x_2 => (appendP Try.prog #[22, 22] (.slice Ax7 lx7 cx7) (.slice (some ⟨2 * M.nb.size, 0, none⟩) 1 1) (M.new (.cells #[.int .i64 x_2] 3))).bind fun r_3 => (asS r_3.1).bind fun s_4 => K #[.slice Ax0 lx0 cx0,.int .i64 x1,.int .i64 x2,g3,g4,g5,g6,.slice s_4.1 (s_4.2.1) (s_4.2.2),.int .i64 x8,g9,gA,gB,gC,gD,.slice Ax7 lx7 cx7,.slice Ax0 lx0 cx0,.int .i64 x8,.int .i64 x1,.int .i64 (IntKind.i64.wrap (x8 * x1)),.int .i64 x2,.int .i64 (IntKind.i64.wrap ((IntKind.i64.wrap (x8 * x1)) + x2)),.pointer (some a_1),.int .i64 x_2,.slice (some ⟨2 * M.nb.size, 0, none⟩) 1 1,.slice s_4.1 (s_4.2.1) (s_4.2.2),gP] r_3.2 := by kernel_rfl
theorem k43_17 : P43 [1,1,0,1,0,0,1,1] = .region 4 (O43 [1,1,0,1,0,0,1,1]) false := by kernel_rfl
theorem r43_4 {x8 : Int} {M : Mem} {call : CallM} {K : Array Value → Mem → R} :
    opsK Try.prog (fun _ => call) (O43 [1,1,0,1,0,0,1,1]) (O43 [1,1,0,1,0,0,1,1]).toList 0 #[g0,g1,g2,g3,g4,g5,g6,g7,.int .i64 x8,g9,gA,gB,gC,gD,gE,gF,gG,gH,gI,gJ,gK,gL,gM,gN,gO,gP] M K = K #[g0,g1,g2,g3,g4,g5,g6,g7,.int .i64 (IntKind.i64.wrap (x8 + 1)),g9,gA,gB,.int .i64 x8,.int .i64 (IntKind.i64.wrap (x8 + 1)),gE,gF,gG,gH,gI,gJ,gK,gL,gM,gN,gO,gP] M := by kernel_rfl
theorem k43_18 : P43 [1,1,0,1,0,0,0,1,1] = .exit 0 := by kernel_rfl
theorem k43_19 : P43 [1,1,1] = .seq (P43 [1,1,1,0]) (P43 [1,1,1,1]) := by kernel_rfl
theorem k43_20 : P43 [1,1,1,0] = .region 6 (O43 [1,1,1,0]) false := by kernel_rfl
theorem r43_6 {Ax7 : Option Addr} {lx7 cx7 : Nat} {M : Mem} {call : CallM} {K : Array Value → Mem → R} :
    opsK Try.prog (fun _ => call) (O43 [1,1,1,0]) (O43 [1,1,1,0]).toList 0 #[g0,g1,g2,g3,g4,g5,g6,.slice Ax7 lx7 cx7,g8,g9,gA,gB,gC,gD,gE,gF,gG,gH,gI,gJ,gK,gL,gM,gN,gO,gP] M K = K #[g0,g1,g2,g3,g4,g5,.slice Ax7 lx7 cx7,.slice Ax7 lx7 cx7,g8,g9,gA,gB,gC,gD,gE,gF,gG,gH,gI,gJ,gK,gL,gM,gN,gO,.slice Ax7 lx7 cx7] M := by kernel_rfl
theorem k43_21 : P43 [1,1,1,1] = .ret := by kernel_rfl
theorem e43 {M : Mem} : finish Try.prog Try.f43 #[g0,g1,g2,g3,g4,g5,g6,g7,g8,g9,gA,gB,gC,gD,gE,gF,gG,gH,gI,gJ,gK,gL,gM,gN,gO,gP] M = some (g6, M) := by kernel_rfl
noncomputable def S43_1 : List Item := [.code (P43 [1,1,0,1,0,0]), .inLoop (P43 [1,1,0,1,0,0]), .inBlock 0, .code (P43 [1,1,1])]
def A43_1 (Ax0 : Option Addr) (lx0 cx0 : Nat) (x1 x2 : Int) (Ax7 : Option Addr) (lx7 cx7 : Nat) (x8 : Int) (M : Mem) (Q : Value → Mem → Prop) : Prop := ∀ (g3 g4 g5 g6 g9 gA gB gC gD gE gF gG gH gI gJ gK gL gM gN gO gP : Value), Rn Try.prog Try.f43 S43_1 #[.slice Ax0 lx0 cx0, .int .i64 x1, .int .i64 x2, g3, g4, g5, g6, .slice Ax7 lx7 cx7, .int .i64 x8, g9, gA, gB, gC, gD, gE, gF, gG, gH, gI, gJ, gK, gL, gM, gN, gO, gP] M Q
theorem w43_0 {Ax0 : Option Addr} {lx0 cx0 : Nat} {x1 x2 : Int} {M : Mem} {Q : Value → Mem → Prop} (H :
    A43_1 Ax0 lx0 cx0 x1 x2 none 0 0 0 M Q) :
    Cn Try.prog 43 #[.slice Ax0 lx0 cx0, .int .i64 x1, .int .i64 x2] M Q := by
  refine Cn.of b43 d43 t43 ?_
  refine Rn.seq k43_0 (Rn.region k43_1 (fun call K => r43_0) (Rch.leaf (Rn.seq k43_2 (Rn.region k43_3 (fun call K => r43_1) (Rch.leaf (Rn.seq k43_4 (Rn.seq k43_5 (Rn.region k43_6 (fun call K => r43_2) (Rch.leaf (Rn.block k43_7 (Rn.loop k43_8 ?_)))))))))))
  exact H _ _ _ _ _ _ _ _ _ _ _ _ _ _ _ _ _ _ _ _ _

theorem w43_1 {Ax0 : Option Addr} {lx0 cx0 : Nat} {x1 x2 : Int} {Ax7 : Option Addr} {lx7 cx7 : Nat} {x8 : Int} {M : Mem} {Q : Value → Mem → Prop} (H :
    ((x8 < x1 →
     ∃ a1', idxA Ax0 lx0 1 (IntKind.i64.wrap ((IntKind.i64.wrap (x8 * x1)) + x2)) = some a1' ∧
     ∃ x2', M.intAt .i64 a1'.block a1'.off = some x2' ∧
     ∃ r3', appendP Try.prog #[22, 22] (.slice Ax7 lx7 cx7) (.slice (some ⟨2 * M.nb.size, 0, none⟩) 1 1) (M.new (.cells #[.int .i64 x2'] 3)) = some r3' ∧
     ∃ s4', asS r3'.1 = some s4' ∧
     A43_1 Ax0 lx0 cx0 x1 x2 s4'.1 s4'.2.1 s4'.2.2 (IntKind.i64.wrap (x8 + 1)) r3'.2 Q) ∧
     (¬ (x8 < x1) →
     Q (.slice Ax7 lx7 cx7) M))) :
    A43_1 Ax0 lx0 cx0 x1 x2 Ax7 lx7 cx7 x8 M Q := by
  intro g3 g4 g5 g6 g9 gA gB gC gD gE gF gG gH gI gJ gK gL gM gN gO gP
  refine Rn.seq k43_9 (Rn.seq k43_10 (Rn.region k43_11 (fun call K => r43_3) (Rch.leaf ?_)))
  refine Rn.cnd (v := decide (x8 < x1)) ⟨c43_12, rfl, by kernel_rfl⟩ (fun h => ?_) (fun h => ?_)
  · replace H := H.1 (of_decide_eq_true h)
    refine Rn.skip k43_13 (Rn.seq k43_14 (Rn.block k43_15 (Rn.region k43_16 (fun call K => r43_5) (Rch.ex H fun a1' H => Rch.ex H fun x2' H => Rch.ex H fun r3' H => Rch.ex H fun s4' H => Rch.leaf (Rn.blk (Rn.region k43_17 (fun call K => r43_4) (Rch.leaf ?_)))))))
    refine Rn.lp ?_
    exact H _ _ _ _ _ _ _ _ _ _ _ _ _ _ _ _ _ _ _ _ _
  · replace H := H.2 (of_decide_eq_false h)
    refine Rn.exit k43_18 rfl (Rn.seq k43_19 (Rn.region k43_20 (fun call K => r43_6) (Rch.leaf ?_)))
    exact Rn.ret k43_21 e43 H


/-! ### zoetrope/zoetroperef08.scaled: function 48 -/
noncomputable abbrev P48 (p : List Nat) : Code := subC (codeOf Try.f48) p
noncomputable abbrev O48 (p : List Nat) : Array Oper := opsOf (subC (codeOf Try.f48) p)
theorem b48 : Try.prog.funcs[48]? = some Try.f48 ∧ (Orc.tab Try.prog).lookup 48 = none := ⟨by kernel_rfl, by kernel_rfl⟩
theorem d48 : Try.f48.body = some (P48 []) := by kernel_rfl
theorem t48 {x0 x1 : Int} : #[.int .i64 x0,.int .i64 x1] ++ Array.replicate (Try.f48.ntmps - (#[.int .i64 x0,.int .i64 x1] : Array Value).size) undef = #[.int .i64 x0,.int .i64 x1,undef,undef,undef,undef,undef,undef,undef,undef,undef,undef,undef,undef,undef,undef,undef,undef,undef,undef,undef,undef,undef,undef] := by kernel_rfl
theorem k48_0 : P48 [] = .seq (P48 [0]) (P48 [1]) := by kernel_rfl
theorem k48_1 : P48 [0] = .region 0 (O48 [0]) false := by kernel_rfl
theorem r48_0 {M : Mem} {call : CallM} {K : Array Value → Mem → R} :
    opsK Try.prog (fun _ => call) (O48 [0]) (O48 [0]).toList 0 #[g0,g1,g2,g3,g4,g5,g6,g7,g8,g9,gA,gB,gC,gD,gE,gF,gG,gH,gI,gJ,gK,gL,gM,gN] M K = K #[g0,g1,g2,g3,.int .i64 0,g5,g6,g7,g8,g9,gA,gB,gC,gD,gE,gF,gG,gH,gI,gJ,gK,gL,gM,gN] M := by kernel_rfl
theorem k48_2 : P48 [1] = .seq (P48 [1,0]) (P48 [1,1]) := by kernel_rfl
theorem k48_3 : P48 [1,0] = .seq (P48 [1,0,0]) (P48 [1,0,1]) := by kernel_rfl
theorem k48_4 : P48 [1,0,0] = .region 1 (O48 [1,0,0]) false := by kernel_rfl
theorem r48_1 {x1 : Int} {M : Mem} {call : CallM} {K : Array Value → Mem → R} :
    opsK Try.prog (fun _ => call) (O48 [1,0,0]) (O48 [1,0,0]).toList 0 #[g0,.int .i64 x1,g2,g3,g4,g5,g6,g7,g8,g9,gA,gB,gC,gD,gE,gF,gG,gH,gI,gJ,gK,gL,gM,gN] M K = K #[g0,.int .i64 x1,g2,g3,g4,.int .i64 x1,g6,g7,g8,g9,gA,gB,gC,gD,gE,gF,gG,gH,gI,gJ,gK,gL,gM,gN] M := by kernel_rfl
theorem k48_5 : P48 [1,0,1] = .block 0 (P48 [1,0,1,0]) := by kernel_rfl
theorem k48_6 : P48 [1,0,1,0] = .seq (P48 [1,0,1,0,0]) (P48 [1,0,1,0,1]) := by kernel_rfl
theorem k48_7 : P48 [1,0,1,0,0] = .region 2 (O48 [1,0,1,0,0]) false := by kernel_rfl
theorem r48_2 {x5 : Int} {M : Mem} {call : CallM} {K : Array Value → Mem → R} :
    opsK Try.prog (fun _ => call) (O48 [1,0,1,0,0]) (O48 [1,0,1,0,0]).toList 0 #[g0,g1,g2,g3,g4,.int .i64 x5,g6,g7,g8,g9,gA,gB,gC,gD,gE,gF,gG,gH,gI,gJ,gK,gL,gM,gN] M K = K #[g0,g1,g2,g3,g4,.int .i64 x5,.bool (x5 == 4),.bool (x5 == 4),g8,g9,gA,gB,gC,gD,gE,gF,gG,gH,gI,gJ,gK,gL,gM,gN] M := by kernel_rfl
theorem c48_8 : P48 [1,0,1,0,1] = .cond (.tmp 6) (P48 [1,0,1,0,1,0]) (P48 [1,0,1,0,1,1]) := by kernel_rfl
theorem k48_9 : P48 [1,0,1,0,1,0] = .region 3 (O48 [1,0,1,0,1,0]) false := by kernel_rfl
theorem r48_3 {x0 : Int} {M : Mem} {call : CallM} {K : Array Value → Mem → R} :
    opsK Try.prog (fun _ => call) (O48 [1,0,1,0,1,0]) (O48 [1,0,1,0,1,0]).toList 0 #[.int .i64 x0,g1,g2,g3,g4,g5,g6,g7,g8,g9,gA,gB,gC,gD,gE,gF,gG,gH,gI,gJ,gK,gL,gM,gN] M K = K #[.int .i64 (IntKind.i64.wrap (4 * x0)),g1,g2,g3,g4,g5,g6,g7,.int .i64 x0,.int .i64 (IntKind.i64.wrap (4 * x0)),gA,gB,gC,gD,gE,gF,gG,gH,gI,gJ,gK,gL,gM,gN] M := by kernel_rfl
theorem k48_10 : P48 [1,0,1,0,1,1] = .seq (P48 [1,0,1,0,1,1,0]) (P48 [1,0,1,0,1,1,1]) := by kernel_rfl
theorem k48_11 : P48 [1,0,1,0,1,1,0] = .region 4 (O48 [1,0,1,0,1,1,0]) false := by kernel_rfl
theorem r48_4 {x5 : Int} {M : Mem} {call : CallM} {K : Array Value → Mem → R} :
    opsK Try.prog (fun _ => call) (O48 [1,0,1,0,1,1,0]) (O48 [1,0,1,0,1,1,0]).toList 0 #[g0,g1,g2,g3,g4,.int .i64 x5,g6,g7,g8,g9,gA,gB,gC,gD,gE,gF,gG,gH,gI,gJ,gK,gL,gM,gN] M K = K #[g0,g1,g2,g3,g4,.int .i64 x5,g6,g7,g8,g9,.bool (x5 == 8),.bool (x5 == 8),gC,gD,gE,gF,gG,gH,gI,gJ,gK,gL,gM,gN] M := by kernel_rfl
theorem c48_12 : P48 [1,0,1,0,1,1,1] = .cond (.tmp 10) (P48 [1,0,1,0,1,1,1,0]) (P48 [1,0,1,0,1,1,1,1]) := by kernel_rfl
theorem k48_13 : P48 [1,0,1,0,1,1,1,0] = .region 5 (O48 [1,0,1,0,1,1,1,0]) false := by kernel_rfl
theorem r48_5 {x0 : Int} {M : Mem} {call : CallM} {K : Array Value → Mem → R} :
    opsK Try.prog (fun _ => call) (O48 [1,0,1,0,1,1,1,0]) (O48 [1,0,1,0,1,1,1,0]).toList 0 #[.int .i64 x0,g1,g2,g3,g4,g5,g6,g7,g8,g9,gA,gB,gC,gD,gE,gF,gG,gH,gI,gJ,gK,gL,gM,gN] M K = K #[.int .i64 (IntKind.i64.wrap (2 * x0)),g1,g2,g3,g4,g5,g6,g7,g8,g9,gA,gB,.int .i64 x0,.int .i64 (IntKind.i64.wrap (2 * x0)),gE,gF,gG,gH,gI,gJ,gK,gL,gM,gN] M := by kernel_rfl
theorem k48_14 : P48 [1,0,1,0,1,1,1,1] = .seq (P48 [1,0,1,0,1,1,1,1,0]) (P48 [1,0,1,0,1,1,1,1,1]) := by kernel_rfl
theorem k48_15 : P48 [1,0,1,0,1,1,1,1,0] = .region 6 (O48 [1,0,1,0,1,1,1,1,0]) false := by kernel_rfl
theorem r48_6 {x5 : Int} {M : Mem} {call : CallM} {K : Array Value → Mem → R} :
    opsK Try.prog (fun _ => call) (O48 [1,0,1,0,1,1,1,1,0]) (O48 [1,0,1,0,1,1,1,1,0]).toList 0 #[g0,g1,g2,g3,g4,.int .i64 x5,g6,g7,g8,g9,gA,gB,gC,gD,gE,gF,gG,gH,gI,gJ,gK,gL,gM,gN] M K = K #[g0,g1,g2,g3,g4,.int .i64 x5,g6,g7,g8,g9,gA,gB,gC,gD,.bool (x5 == 32),.bool (x5 == 32),gG,gH,gI,gJ,gK,gL,gM,gN] M := by kernel_rfl
theorem c48_16 : P48 [1,0,1,0,1,1,1,1,1] = .cond (.tmp 14) (P48 [1,0,1,0,1,1,1,1,1,0]) (P48 [1,0,1,0,1,1,1,1,1,1]) := by kernel_rfl
theorem k48_17 : P48 [1,0,1,0,1,1,1,1,1,0] = .region 7 (O48 [1,0,1,0,1,1,1,1,1,0]) false := by kernel_rfl
theorem r48_7 {x0 : Int} {M : Mem} {call : CallM} {K : Array Value → Mem → R} :
    opsK Try.prog (fun _ => call) (O48 [1,0,1,0,1,1,1,1,1,0]) (O48 [1,0,1,0,1,1,1,1,1,0]).toList 0 #[.int .i64 x0,g1,g2,g3,g4,g5,g6,g7,g8,g9,gA,gB,gC,gD,gE,gF,gG,gH,gI,gJ,gK,gL,gM,gN] M K = (call 42 #[.int .i64 x0, .int .i64 2] M).bind fun r_1 => (asI .i64 r_1.1).bind fun x_2 => K #[.int .i64 x_2,g1,g2,g3,g4,g5,g6,g7,g8,g9,gA,gB,gC,gD,gE,gF,.int .i64 x0,.int .i64 x_2,gI,gJ,gK,gL,gM,gN] r_1.2 := by kernel_rfl
theorem k48_18 : P48 [1,0,1,0,1,1,1,1,1,1] = .seq (P48 [1,0,1,0,1,1,1,1,1,1,0]) (P48 [1,0,1,0,1,1,1,1,1,1,1]) := by kernel_rfl
theorem k48_19 : P48 [1,0,1,0,1,1,1,1,1,1,0] = .region 8 (O48 [1,0,1,0,1,1,1,1,1,1,0]) false := by kernel_rfl
theorem r48_8 {x5 : Int} {M : Mem} {call : CallM} {K : Array Value → Mem → R} :
    opsK Try.prog (fun _ => call) (O48 [1,0,1,0,1,1,1,1,1,1,0]) (O48 [1,0,1,0,1,1,1,1,1,1,0]).toList 0 #[g0,g1,g2,g3,g4,.int .i64 x5,g6,g7,g8,g9,gA,gB,gC,gD,gE,gF,gG,gH,gI,gJ,gK,gL,gM,gN] M K = K #[g0,g1,g2,g3,g4,.int .i64 x5,g6,g7,g8,g9,gA,gB,gC,gD,gE,gF,gG,gH,.bool (x5 == 64),.bool (x5 == 64),gK,gL,gM,gN] M := by kernel_rfl
theorem c48_20 : P48 [1,0,1,0,1,1,1,1,1,1,1] = .cond (.tmp 18) (P48 [1,0,1,0,1,1,1,1,1,1,1,0]) (P48 [1,0,1,0,1,1,1,1,1,1,1,1]) := by kernel_rfl
theorem k48_21 : P48 [1,0,1,0,1,1,1,1,1,1,1,0] = .region 9 (O48 [1,0,1,0,1,1,1,1,1,1,1,0]) false := by kernel_rfl
theorem r48_9 {x0 : Int} {M : Mem} {call : CallM} {K : Array Value → Mem → R} :
    opsK Try.prog (fun _ => call) (O48 [1,0,1,0,1,1,1,1,1,1,1,0]) (O48 [1,0,1,0,1,1,1,1,1,1,1,0]).toList 0 #[.int .i64 x0,g1,g2,g3,g4,g5,g6,g7,g8,g9,gA,gB,gC,gD,gE,gF,gG,gH,gI,gJ,gK,gL,gM,gN] M K = (call 42 #[.int .i64 x0, .int .i64 4] M).bind fun r_1 => (asI .i64 r_1.1).bind fun x_2 => K #[.int .i64 x_2,g1,g2,g3,g4,g5,g6,g7,g8,g9,gA,gB,gC,gD,gE,gF,gG,gH,gI,gJ,.int .i64 x0,.int .i64 x_2,gM,gN] r_1.2 := by kernel_rfl
theorem k48_22 : P48 [1,0,1,0,1,1,1,1,1,1,1,1] = .skip := by kernel_rfl
theorem k48_23 : P48 [1,1] = .seq (P48 [1,1,0]) (P48 [1,1,1]) := by kernel_rfl
theorem k48_24 : P48 [1,1,0] = .region 10 (O48 [1,1,0]) false := by kernel_rfl
theorem r48_10 {x0 : Int} {M : Mem} {call : CallM} {K : Array Value → Mem → R} :
    opsK Try.prog (fun _ => call) (O48 [1,1,0]) (O48 [1,1,0]).toList 0 #[.int .i64 x0,g1,g2,g3,g4,g5,g6,g7,g8,g9,gA,gB,gC,gD,gE,gF,gG,gH,gI,gJ,gK,gL,gM,gN] M K = (call 40 #[.int .i64 x0] M).bind fun r_1 => (asI .i64 r_1.1).bind fun x_2 => K #[.int .i64 x0,g1,g2,g3,.int .i64 x_2,g5,g6,g7,g8,g9,gA,gB,gC,gD,gE,gF,gG,gH,gI,gJ,gK,gL,.int .i64 x0,.int .i64 x_2] r_1.2 := by kernel_rfl
theorem k48_25 : P48 [1,1,1] = .ret := by kernel_rfl
theorem e48 {M : Mem} : finish Try.prog Try.f48 #[g0,g1,g2,g3,g4,g5,g6,g7,g8,g9,gA,gB,gC,gD,gE,gF,gG,gH,gI,gJ,gK,gL,gM,gN] M = some (g4, M) := by kernel_rfl
noncomputable def S48_1 : List Item := [.code (P48 [1,1])]
def A48_1 (x0 : Int) (M : Mem) (Q : Value → Mem → Prop) : Prop := ∀ (g1 g2 g3 g4 g5 g6 g7 g8 g9 gA gB gC gD gE gF gG gH gI gJ gK gL gM gN : Value), Rn Try.prog Try.f48 S48_1 #[.int .i64 x0, g1, g2, g3, g4, g5, g6, g7, g8, g9, gA, gB, gC, gD, gE, gF, gG, gH, gI, gJ, gK, gL, gM, gN] M Q
theorem w48_0 {x0 x1 : Int} {M : Mem} {Q : Value → Mem → Prop} (H :
    ((x1 = 4 →
     A48_1 (IntKind.i64.wrap (4 * x0)) M Q) ∧
     (x1 ≠ 4 →
     ((x1 = 8 →
      A48_1 (IntKind.i64.wrap (2 * x0)) M Q) ∧
      (x1 ≠ 8 →
      ((x1 = 32 →
       Cn Try.prog 42 #[.int .i64 x0, .int .i64 2] M fun v1' N1' =>
        ∃ x2', asI .i64 v1' = some x2' ∧
        A48_1 x2' N1' Q) ∧
       (x1 ≠ 32 →
       ((x1 = 64 →
        Cn Try.prog 42 #[.int .i64 x0, .int .i64 4] M fun v3' N3' =>
         ∃ x4', asI .i64 v3' = some x4' ∧
         A48_1 x4' N3' Q) ∧
        (x1 ≠ 64 →
        A48_1 x0 M Q))))))))) :
    Cn Try.prog 48 #[.int .i64 x0, .int .i64 x1] M Q := by
  refine Cn.of b48 d48 t48 ?_
  refine Rn.seq k48_0 (Rn.region k48_1 (fun call K => r48_0) (Rch.leaf (Rn.seq k48_2 (Rn.seq k48_3 (Rn.region k48_4 (fun call K => r48_1) (Rch.leaf (Rn.block k48_5 (Rn.seq k48_6 (Rn.region k48_7 (fun call K => r48_2) (Rch.leaf ?_))))))))))
  refine Rn.cnd (v := x1 == 4) ⟨c48_8, rfl, by kernel_rfl⟩ (fun h => ?_) (fun h => ?_)
  · replace H := H.1 (eq_of_beq h)
    refine Rn.region k48_9 (fun call K => r48_3) (Rch.leaf (Rn.blk ?_))
    exact H _ _ _ _ _ _ _ _ _ _ _ _ _ _ _ _ _ _ _ _ _ _ _
  · replace H := H.2 (ne_of_beq_false h)
    refine Rn.seq k48_10 (Rn.region k48_11 (fun call K => r48_4) (Rch.leaf ?_))
    refine Rn.cnd (v := x1 == 8) ⟨c48_12, rfl, by kernel_rfl⟩ (fun h => ?_) (fun h => ?_)
    · replace H := H.1 (eq_of_beq h)
      refine Rn.region k48_13 (fun call K => r48_5) (Rch.leaf (Rn.blk ?_))
      exact H _ _ _ _ _ _ _ _ _ _ _ _ _ _ _ _ _ _ _ _ _ _ _
    · replace H := H.2 (ne_of_beq_false h)
      refine Rn.seq k48_14 (Rn.region k48_15 (fun call K => r48_6) (Rch.leaf ?_))
      refine Rn.cnd (v := x1 == 32) ⟨c48_16, rfl, by kernel_rfl⟩ (fun h => ?_) (fun h => ?_)
      · replace H := H.1 (eq_of_beq h)
        refine Rn.region k48_17 (fun call K => r48_7) (Rch.call H fun v1' N1' H => Rch.ex H fun x2' H => Rch.leaf (Rn.blk ?_))
        exact H _ _ _ _ _ _ _ _ _ _ _ _ _ _ _ _ _ _ _ _ _ _ _
      · replace H := H.2 (ne_of_beq_false h)
        refine Rn.seq k48_18 (Rn.region k48_19 (fun call K => r48_8) (Rch.leaf ?_))
        refine Rn.cnd (v := x1 == 64) ⟨c48_20, rfl, by kernel_rfl⟩ (fun h => ?_) (fun h => ?_)
        · replace H := H.1 (eq_of_beq h)
          refine Rn.region k48_21 (fun call K => r48_9) (Rch.call H fun v3' N3' H => Rch.ex H fun x4' H => Rch.leaf (Rn.blk ?_))
          exact H _ _ _ _ _ _ _ _ _ _ _ _ _ _ _ _ _ _ _ _ _ _ _
        · replace H := H.2 (ne_of_beq_false h)
          refine Rn.skip k48_22 (Rn.blk ?_)
          exact H _ _ _ _ _ _ _ _ _ _ _ _ _ _ _ _ _ _ _ _ _ _ _

theorem w48_1 {x0 : Int} {M : Mem} {Q : Value → Mem → Prop} (H :
    Cn Try.prog 40 #[.int .i64 x0] M fun v5' N5' =>
     ∃ x6', asI .i64 v5' = some x6' ∧
     Q (.int .i64 (x6')) N5') :
    A48_1 x0 M Q := by
  intro g1 g2 g3 g4 g5 g6 g7 g8 g9 gA gB gC gD gE gF gG gH gI gJ gK gL gM gN
  refine Rn.seq k48_23 (Rn.region k48_24 (fun call K => r48_10) (Rch.call H fun v5' N5' H => Rch.ex H fun x6' H => Rch.leaf ?_))
  exact Rn.ret k48_25 e48 H


end Go.Zt

