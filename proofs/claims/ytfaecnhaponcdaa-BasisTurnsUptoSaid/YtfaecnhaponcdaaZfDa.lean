/- The functions' walks: for each function and each loop a rule of what it comes to. Printed by zw.py. -/
import Derived.Test.YtfaecnhaponcdaaProg
import Derived.Test.YtfaecnhaponcdaaZfA
set_option linter.unusedVariables false
set_option maxRecDepth 100000
namespace Go.Zt
open Go Go.Sim Go.Proofs

variable {g0 g1 g2 g3 g4 g5 g6 g7 g8 g9 g10 g11 g12 g13 g14 g15 g16 g17 g18 g19 g20 g21 g22 g23 g24 g25 g26 g27 g28 g29 g30 g31 g32 g33 g34 g35 g36 g37 g38 g39 g40 g41 g42 g43 g44 g45 g46 g47 g48 g49 g50 g51 g52 g53 g54 g55 g56 g57 g58 g59 g60 g61 g62 g63 g64 g65 g66 g67 g68 g69 g70 g71 g72 g73 g74 g75 g76 g77 g78 g79 g80 g81 g82 g83 g84 g85 g86 g87 g88 g89 g90 g91 g92 g93 g94 g95 g96 g97 g98 g99 g100 g101 : Value}
/-! ### zoetrope/zoetropelaw07.BasisTurns: function 3 -/
noncomputable abbrev P3 (p : List Nat) : Code := subC (codeOf Try.f3) p
noncomputable abbrev O3 (p : List Nat) : Array Oper := opsOf (subC (codeOf Try.f3) p)
theorem b3 : Try.prog.funcs[3]? = some Try.f3 ∧ (Orc.tab Try.prog).lookup 3 = none := ⟨by kernel_rfl, by kernel_rfl⟩
theorem d3 : Try.f3.body = some (P3 []) := by kernel_rfl
theorem t3 {x0 : Int} {Ax1 : Option Addr} {lx1 cx1 : Nat} : #[.int .i64 x0,.slice Ax1 lx1 cx1] ++ Array.replicate (Try.f3.ntmps - (#[.int .i64 x0,.slice Ax1 lx1 cx1] : Array Value).size) undef = #[.int .i64 x0,.slice Ax1 lx1 cx1,undef,undef,undef,undef,undef,undef,undef,undef,undef,undef,undef,undef,undef,undef,undef,undef,undef,undef] := by kernel_rfl
theorem k3_0 : P3 [] = .seq (P3 [0]) (P3 [1]) := by kernel_rfl
theorem k3_1 : P3 [0] = .region 0 (O3 [0]) false := by kernel_rfl
theorem r3_0 {M : Mem} {call : CallM} {K : Array Value → Mem → R} :
    opsK Try.prog (fun _ => call) (O3 [0]) (O3 [0]).toList 0 #[g0,g1,g2,g3,g4,g5,g6,g7,g8,g9,g10,g11,g12,g13,g14,g15,g16,g17,g18,g19] M K = K #[g0,g1,g2,g3,.bool false,g5,g6,g7,g8,g9,g10,g11,g12,g13,g14,g15,g16,g17,g18,g19] M := by kernel_rfl
theorem k3_2 : P3 [1] = .seq (P3 [1,0]) (P3 [1,1]) := by kernel_rfl
theorem k3_3 : P3 [1,0] = .seq (P3 [1,0,0]) (P3 [1,0,1]) := by kernel_rfl
theorem k3_4 : P3 [1,0,0] = .region 1 (O3 [1,0,0]) false := by kernel_rfl
theorem r3_1 {M : Mem} {call : CallM} {K : Array Value → Mem → R} :
    opsK Try.prog (fun _ => call) (O3 [1,0,0]) (O3 [1,0,0]).toList 0 #[g0,g1,g2,g3,g4,g5,g6,g7,g8,g9,g10,g11,g12,g13,g14,g15,g16,g17,g18,g19] M K = K #[g0,g1,g2,g3,g4,.int .i64 (-1),g6,g7,g8,g9,g10,g11,g12,g13,g14,g15,g16,g17,g18,g19] M := by kernel_rfl
theorem k3_5 : P3 [1,0,1] = .block 0 (P3 [1,0,1,0]) := by kernel_rfl
theorem k3_6 : P3 [1,0,1,0] = .loop (P3 [1,0,1,0,0]) := by kernel_rfl
theorem k3_7 : P3 [1,0,1,0,0] = .seq (P3 [1,0,1,0,0,0]) (P3 [1,0,1,0,0,1]) := by kernel_rfl
theorem k3_8 : P3 [1,0,1,0,0,0] = .seq (P3 [1,0,1,0,0,0,0]) (P3 [1,0,1,0,0,0,1]) := by kernel_rfl
theorem k3_9 : P3 [1,0,1,0,0,0,0] = .region 2 (O3 [1,0,1,0,0,0,0]) false := by kernel_rfl
theorem r3_2 {x5 : Int} {M : Mem} {call : CallM} {K : Array Value → Mem → R} :
    opsK Try.prog (fun _ => call) (O3 [1,0,1,0,0,0,0]) (O3 [1,0,1,0,0,0,0]).toList 0 #[g0,g1,g2,g3,g4,.int .i64 x5,g6,g7,g8,g9,g10,g11,g12,g13,g14,g15,g16,g17,g18,g19] M K = K #[g0,g1,g2,g3,g4,.int .i64 x5,.int .i64 x5,.bool (decide (x5 < 5)),g8,g9,g10,g11,g12,g13,g14,g15,g16,g17,g18,g19] M := by kernel_rfl
theorem c3_10 : P3 [1,0,1,0,0,0,1] = .cond (.tmp 7) (P3 [1,0,1,0,0,0,1,0]) (P3 [1,0,1,0,0,0,1,1]) := by kernel_rfl
theorem k3_11 : P3 [1,0,1,0,0,0,1,0] = .skip := by kernel_rfl
theorem k3_12 : P3 [1,0,1,0,0,1] = .seq (P3 [1,0,1,0,0,1,0]) (P3 [1,0,1,0,0,1,1]) := by kernel_rfl
theorem k3_13 : P3 [1,0,1,0,0,1,0] = .block 1 (P3 [1,0,1,0,0,1,0,0]) := by kernel_rfl
theorem k3_14 : P3 [1,0,1,0,0,1,0,0] = .seq (P3 [1,0,1,0,0,1,0,0,0]) (P3 [1,0,1,0,0,1,0,0,1]) := by kernel_rfl
theorem k3_15 : P3 [1,0,1,0,0,1,0,0,0] = .region 4 (O3 [1,0,1,0,0,1,0,0,0]) false := by kernel_rfl
theorem r3_4 {Ax1 : Option Addr} {lx1 cx1 : Nat} {x5 : Int} {M : Mem} {call : CallM} {K : Array Value → Mem → R} :
    opsK Try.prog (fun _ => call) (O3 [1,0,1,0,0,1,0,0,0]) (O3 [1,0,1,0,0,1,0,0,0]).toList 0 #[g0,.slice Ax1 lx1 cx1,g2,g3,g4,.int .i64 x5,g6,g7,g8,g9,g10,g11,g12,g13,g14,g15,g16,g17,g18,g19] M K = (call 10 #[.int .i64 x5, .slice Ax1 lx1 cx1] M).bind fun r_1 => (asB r_1.1).bind fun b_2 => K #[g0,.slice Ax1 lx1 cx1,g2,g3,g4,.int .i64 x5,g6,g7,g8,g9,.int .i64 x5,.slice Ax1 lx1 cx1,.bool b_2,.bool (!b_2),g14,g15,g16,g17,g18,g19] r_1.2 := by kernel_rfl
theorem c3_16 : P3 [1,0,1,0,0,1,0,0,1] = .cond (.tmp 13) (P3 [1,0,1,0,0,1,0,0,1,0]) (P3 [1,0,1,0,0,1,0,0,1,1]) := by kernel_rfl
theorem k3_17 : P3 [1,0,1,0,0,1,0,0,1,0] = .seq (P3 [1,0,1,0,0,1,0,0,1,0,0]) (P3 [1,0,1,0,0,1,0,0,1,0,1]) := by kernel_rfl
theorem k3_18 : P3 [1,0,1,0,0,1,0,0,1,0,0] = .region 5 (O3 [1,0,1,0,0,1,0,0,1,0,0]) false := by kernel_rfl
theorem r3_5 {M : Mem} {call : CallM} {K : Array Value → Mem → R} :
    opsK Try.prog (fun _ => call) (O3 [1,0,1,0,0,1,0,0,1,0,0]) (O3 [1,0,1,0,0,1,0,0,1,0,0]).toList 0 #[g0,g1,g2,g3,g4,g5,g6,g7,g8,g9,g10,g11,g12,g13,g14,g15,g16,g17,g18,g19] M K = K #[g0,g1,g2,g3,.bool false,g5,g6,g7,g8,g9,g10,g11,g12,g13,g14,g15,g16,g17,g18,g19] M := by kernel_rfl
theorem k3_19 : P3 [1,0,1,0,0,1,0,0,1,0,1] = .ret := by kernel_rfl
theorem e3 {M : Mem} : finish Try.prog Try.f3 #[g0,g1,g2,g3,g4,g5,g6,g7,g8,g9,g10,g11,g12,g13,g14,g15,g16,g17,g18,g19] M = some (g4, M) := by kernel_rfl
theorem k3_21 : P3 [1,0,1,0,0,1,0,0,1,1] = .skip := by kernel_rfl
theorem k3_22 : P3 [1,0,1,0,0,1,1] = .region 3 (O3 [1,0,1,0,0,1,1]) false := by kernel_rfl
theorem r3_3 {x5 : Int} {M : Mem} {call : CallM} {K : Array Value → Mem → R} :
    opsK Try.prog (fun _ => call) (O3 [1,0,1,0,0,1,1]) (O3 [1,0,1,0,0,1,1]).toList 0 #[g0,g1,g2,g3,g4,.int .i64 x5,g6,g7,g8,g9,g10,g11,g12,g13,g14,g15,g16,g17,g18,g19] M K = K #[g0,g1,g2,g3,g4,.int .i64 (IntKind.i64.wrap (x5 + 1)),g6,g7,.int .i64 x5,.int .i64 (IntKind.i64.wrap (x5 + 1)),g10,g11,g12,g13,g14,g15,g16,g17,g18,g19] M := by kernel_rfl
theorem k3_23 : P3 [1,0,1,0,0,0,1,1] = .exit 0 := by kernel_rfl
theorem k3_24 : P3 [1,1] = .seq (P3 [1,1,0]) (P3 [1,1,1]) := by kernel_rfl
theorem k3_25 : P3 [1,1,0] = .region 6 (O3 [1,1,0]) false := by kernel_rfl
theorem r3_6 {x0 : Int} {Ax1 : Option Addr} {lx1 cx1 : Nat} {M : Mem} {call : CallM} {K : Array Value → Mem → R} :
    opsK Try.prog (fun _ => call) (O3 [1,1,0]) (O3 [1,1,0]).toList 0 #[.int .i64 x0,.slice Ax1 lx1 cx1,g2,g3,g4,g5,g6,g7,g8,g9,g10,g11,g12,g13,g14,g15,g16,g17,g18,g19] M K = withK (fun w4 w16 w17 w18 w19 M => K #[.int .i64 x0,.slice Ax1 lx1 cx1,g2,g3,w4,g5,g6,g7,g8,g9,g10,g11,g12,g13,.int .i64 x0,.slice Ax1 lx1 cx1,w16,w17,w18,w19] M) fun k => (call 10 #[.int .i64 x0, .slice Ax1 lx1 cx1] M).bind fun r_1 => (asB r_1.1).bind fun b_2 => cond b_2 ((call 11 #[] r_1.2).bind fun r_3 => (asB r_3.1).bind fun b_4 => k (.bool b_4) (.bool b_2) (.bool true) (.bool b_4) (.bool b_4) r_3.2) (k (.bool false) (.bool b_2) (.bool false) undef (.bool false) r_1.2) := by kernel_rfl
theorem k3_26 : P3 [1,1,1] = .ret := by kernel_rfl
noncomputable def S3_1 : List Item := [.code (P3 [1,0,1,0,0]), .inLoop (P3 [1,0,1,0,0]), .inBlock 0, .code (P3 [1,1])]
def A3_1 (x0 : Int) (Ax1 : Option Addr) (lx1 cx1 : Nat) (x5 : Int) (M : Mem) (Q : Value → Mem → Prop) : Prop := ∀ (g2 g3 g4 g6 g7 g8 g9 g10 g11 g12 g13 g14 g15 g16 g17 g18 g19 : Value), Rn Try.prog Try.f3 S3_1 #[.int .i64 x0, .slice Ax1 lx1 cx1, g2, g3, g4, .int .i64 x5, g6, g7, g8, g9, g10, g11, g12, g13, g14, g15, g16, g17, g18, g19] M Q
theorem w3_0 {x0 : Int} {Ax1 : Option Addr} {lx1 cx1 : Nat} {M : Mem} {Q : Value → Mem → Prop} (H :
    A3_1 x0 Ax1 lx1 cx1 (-1) M Q) :
    Cn Try.prog 3 #[.int .i64 x0, .slice Ax1 lx1 cx1] M Q := by
  refine Cn.of b3 d3 t3 ?_
  refine Rn.seq k3_0 (Rn.region k3_1 (fun call K => r3_0) (Rch.leaf (Rn.seq k3_2 (Rn.seq k3_3 (Rn.region k3_4 (fun call K => r3_1) (Rch.leaf (Rn.block k3_5 (Rn.loop k3_6 ?_))))))))
  exact H _ _ _ _ _ _ _ _ _ _ _ _ _ _ _ _ _

theorem w3_1 {x0 : Int} {Ax1 : Option Addr} {lx1 cx1 : Nat} {x5 : Int} {M : Mem} {Q : Value → Mem → Prop} (H :
    ((x5 < 5 →
     Cn Try.prog 10 #[.int .i64 x5, .slice Ax1 lx1 cx1] M fun v1' N1' =>
      ∃ b2', asB v1' = some b2' ∧
      (((!b2') = true →
       Q (.bool false) N1') ∧
       ((!b2') = false →
       A3_1 x0 Ax1 lx1 cx1 (IntKind.i64.wrap (x5 + 1)) N1' Q))) ∧
     (¬ (x5 < 5) →
     Cn Try.prog 10 #[.int .i64 x0, .slice Ax1 lx1 cx1] M fun v3' N3' =>
      ∃ b4', asB v3' = some b4' ∧
      ((b4' = true →
       Cn Try.prog 11 #[] N3' fun v5' N5' =>
        ∃ b6', asB v5' = some b6' ∧
        Q (.bool b6') N5') ∧
       (b4' = false →
       Q (.bool false) N3'))))) :
    A3_1 x0 Ax1 lx1 cx1 x5 M Q := by
  intro g2 g3 g4 g6 g7 g8 g9 g10 g11 g12 g13 g14 g15 g16 g17 g18 g19
  refine Rn.seq k3_7 (Rn.seq k3_8 (Rn.region k3_9 (fun call K => r3_2) (Rch.leaf ?_)))
  refine Rn.cnd (v := decide (x5 < 5)) ⟨c3_10, rfl, by kernel_rfl⟩ (fun h => ?_) (fun h => ?_)
  · replace H := H.1 (of_decide_eq_true h)
    refine Rn.skip k3_11 (Rn.seq k3_12 (Rn.block k3_13 (Rn.seq k3_14 (Rn.region k3_15 (fun call K => r3_4) (Rch.call H fun v1' N1' H => Rch.ex H fun b2' H => Rch.leaf ?_)))))
    refine Rn.cnd (v := !b2') ⟨c3_16, rfl, by kernel_rfl⟩ (fun h => ?_) (fun h => ?_)
    · replace H := H.1 (h)
      refine Rn.seq k3_17 (Rn.region k3_18 (fun call K => r3_5) (Rch.leaf ?_))
      exact Rn.ret k3_19 e3 H
    · replace H := H.2 (h)
      refine Rn.skip k3_21 (Rn.blk (Rn.region k3_22 (fun call K => r3_3) (Rch.leaf (Rn.lp ?_))))
      exact H _ _ _ _ _ _ _ _ _ _ _ _ _ _ _ _ _
  · replace H := H.2 (of_decide_eq_false h)
    refine Rn.exit k3_23 rfl (Rn.seq k3_24 (Rn.region k3_25 (fun call K => r3_6) (Rch.call H fun v3' N3' H => Rch.ex H fun b4' H => ?_)))
    refine Rch.cB (fun h => ?_) (fun h => ?_)
    · replace H := H.1 (h)
      refine Rch.call H fun v5' N5' H => Rch.ex H fun b6' H => Rch.leaf ?_
      exact Rn.ret k3_26 e3 H
    · replace H := H.2 (h)
      refine Rch.leaf ?_
      exact Rn.ret k3_26 e3 H


/-! ### zoetrope/zoetropelaw07.one: function 10 -/
noncomputable abbrev P10 (p : List Nat) : Code := subC (codeOf Try.f10) p
noncomputable abbrev O10 (p : List Nat) : Array Oper := opsOf (subC (codeOf Try.f10) p)
theorem b10 : Try.prog.funcs[10]? = some Try.f10 ∧ (Orc.tab Try.prog).lookup 10 = none := ⟨by kernel_rfl, by kernel_rfl⟩
theorem d10 : Try.f10.body = some (P10 []) := by kernel_rfl
theorem t10 {x0 : Int} {Ax1 : Option Addr} {lx1 cx1 : Nat} : #[.int .i64 x0,.slice Ax1 lx1 cx1] ++ Array.replicate (Try.f10.ntmps - (#[.int .i64 x0,.slice Ax1 lx1 cx1] : Array Value).size) undef = #[.int .i64 x0,.slice Ax1 lx1 cx1,undef,undef,undef,undef,undef,undef,undef,undef,undef,undef,undef,undef,undef,undef,undef,undef,undef,undef,undef,undef,undef,undef,undef,undef,undef,undef,undef,undef,undef,undef,undef,undef,undef,undef,undef,undef,undef,undef,undef,undef,undef,undef,undef,undef,undef,undef,undef,undef,undef,undef,undef,undef,undef,undef,undef,undef,undef,undef,undef,undef,undef,undef,undef,undef,undef,undef,undef,undef,undef,undef,undef,undef,undef,undef,undef,undef,undef,undef,undef,undef,undef,undef,undef,undef,undef,undef,undef,undef,undef,undef,undef,undef,undef,undef,undef,undef,undef,undef,undef,undef] := by kernel_rfl
theorem k10_0 : P10 [] = .seq (P10 [0]) (P10 [1]) := by kernel_rfl
theorem k10_1 : P10 [0] = .region 0 (O10 [0]) false := by kernel_rfl
theorem r10_0 {M : Mem} {call : CallM} {K : Array Value → Mem → R} :
    opsK Try.prog (fun _ => call) (O10 [0]) (O10 [0]).toList 0 #[g0,g1,g2,g3,g4,g5,g6,g7,g8,g9,g10,g11,g12,g13,g14,g15,g16,g17,g18,g19,g20,g21,g22,g23,g24,g25,g26,g27,g28,g29,g30,g31,g32,g33,g34,g35,g36,g37,g38,g39,g40,g41,g42,g43,g44,g45,g46,g47,g48,g49,g50,g51,g52,g53,g54,g55,g56,g57,g58,g59,g60,g61,g62,g63,g64,g65,g66,g67,g68,g69,g70,g71,g72,g73,g74,g75,g76,g77,g78,g79,g80,g81,g82,g83,g84,g85,g86,g87,g88,g89,g90,g91,g92,g93,g94,g95,g96,g97,g98,g99,g100,g101] M K = K #[g0,g1,g2,g3,.bool false,g5,g6,g7,g8,g9,g10,g11,g12,g13,g14,g15,g16,g17,g18,g19,g20,g21,g22,g23,g24,g25,g26,g27,g28,g29,g30,g31,g32,g33,g34,g35,g36,g37,g38,g39,g40,g41,g42,g43,g44,g45,g46,g47,g48,g49,g50,g51,g52,g53,g54,g55,g56,g57,g58,g59,g60,g61,g62,g63,g64,g65,g66,g67,g68,g69,g70,g71,g72,g73,g74,g75,g76,g77,g78,g79,g80,g81,g82,g83,g84,g85,g86,g87,g88,g89,g90,g91,g92,g93,g94,g95,g96,g97,g98,g99,g100,g101] M := by kernel_rfl
theorem k10_2 : P10 [1] = .seq (P10 [1,0]) (P10 [1,1]) := by kernel_rfl
theorem k10_3 : P10 [1,0] = .region 1 (O10 [1,0]) false := by kernel_rfl
theorem r10_1 {Ax1 : Option Addr} {lx1 cx1 : Nat} {M : Mem} {call : CallM} {K : Array Value → Mem → R} :
    opsK Try.prog (fun _ => call) (O10 [1,0]) (O10 [1,0]).toList 0 #[g0,.slice Ax1 lx1 cx1,g2,g3,g4,g5,g6,g7,g8,g9,g10,g11,g12,g13,g14,g15,g16,g17,g18,g19,g20,g21,g22,g23,g24,g25,g26,g27,g28,g29,g30,g31,g32,g33,g34,g35,g36,g37,g38,g39,g40,g41,g42,g43,g44,g45,g46,g47,g48,g49,g50,g51,g52,g53,g54,g55,g56,g57,g58,g59,g60,g61,g62,g63,g64,g65,g66,g67,g68,g69,g70,g71,g72,g73,g74,g75,g76,g77,g78,g79,g80,g81,g82,g83,g84,g85,g86,g87,g88,g89,g90,g91,g92,g93,g94,g95,g96,g97,g98,g99,g100,g101] M K = (call 23 #[.slice Ax1 lx1 cx1] M).bind fun r_1 => (asS r_1.1).bind fun s_2 => (appendP Try.prog #[22, 22] (.slice s_2.1 (s_2.2.1) (s_2.2.2)) (.slice (some ⟨2 * r_1.2.nb.size, 0, none⟩) 2 2) (r_1.2.new (.cells #[.int .i64 77, .int .i64 78] 3))).bind fun r_3 => (asS r_3.1).bind fun s_4 => (sliceP Try.prog 22 (.slice s_4.1 (s_4.2.1) (s_4.2.2)) none (some (.int .i64 ((lx1 : Int)))) none).bind fun v_5 => (asS v_5).bind fun s_6 => K #[g0,.slice Ax1 lx1 cx1,g2,g3,g4,.slice s_6.1 (s_6.2.1) (s_6.2.2),g6,g7,g8,g9,g10,g11,g12,g13,g14,.slice Ax1 lx1 cx1,.slice s_2.1 (s_2.2.1) (s_2.2.2),.slice (some ⟨2 * r_1.2.nb.size, 0, none⟩) 2 2,.slice s_4.1 (s_4.2.1) (s_4.2.2),.slice Ax1 lx1 cx1,.int .i64 ((lx1 : Int)),.slice s_6.1 (s_6.2.1) (s_6.2.2),g22,g23,g24,g25,g26,g27,g28,g29,g30,g31,g32,g33,g34,g35,g36,g37,g38,g39,g40,g41,g42,g43,g44,g45,g46,g47,g48,g49,g50,g51,g52,g53,g54,g55,g56,g57,g58,g59,g60,g61,g62,g63,g64,g65,g66,g67,g68,g69,g70,g71,g72,g73,g74,g75,g76,g77,g78,g79,g80,g81,g82,g83,g84,g85,g86,g87,g88,g89,g90,g91,g92,g93,g94,g95,g96,g97,g98,g99,g100,g101] r_3.2 := by kernel_rfl
theorem k10_4 : P10 [1,1] = .seq (P10 [1,1,0]) (P10 [1,1,1]) := by kernel_rfl
theorem k10_5 : P10 [1,1,0] = .region 2 (O10 [1,1,0]) false := by kernel_rfl
theorem r10_2 {x0 : Int} {Ax5 : Option Addr} {lx5 cx5 : Nat} {M : Mem} {call : CallM} {K : Array Value → Mem → R} :
    opsK Try.prog (fun _ => call) (O10 [1,1,0]) (O10 [1,1,0]).toList 0 #[.int .i64 x0,g1,g2,g3,g4,.slice Ax5 lx5 cx5,g6,g7,g8,g9,g10,g11,g12,g13,g14,g15,g16,g17,g18,g19,g20,g21,g22,g23,g24,g25,g26,g27,g28,g29,g30,g31,g32,g33,g34,g35,g36,g37,g38,g39,g40,g41,g42,g43,g44,g45,g46,g47,g48,g49,g50,g51,g52,g53,g54,g55,g56,g57,g58,g59,g60,g61,g62,g63,g64,g65,g66,g67,g68,g69,g70,g71,g72,g73,g74,g75,g76,g77,g78,g79,g80,g81,g82,g83,g84,g85,g86,g87,g88,g89,g90,g91,g92,g93,g94,g95,g96,g97,g98,g99,g100,g101] M K = (call 14 #[.int .i64 x0, .slice Ax5 lx5 cx5] M).bind fun r_1 => (asU 2 r_1.1).bind fun cs_2 => (asS (cs_2.getD 0 undef)).bind fun s_3 => (asI .i64 (cs_2.getD 1 undef)).bind fun x_4 => K #[.int .i64 x0,g1,g2,g3,g4,.slice Ax5 lx5 cx5,.slice s_3.1 (s_3.2.1) (s_3.2.2),.int .i64 x_4,g8,g9,g10,g11,g12,g13,g14,g15,g16,g17,g18,g19,g20,g21,.tuple #[.slice s_3.1 (s_3.2.1) (s_3.2.2), .int .i64 x_4],.int .i64 x0,.slice Ax5 lx5 cx5,.tuple #[.slice s_3.1 (s_3.2.1) (s_3.2.2), .int .i64 x_4],.slice s_3.1 (s_3.2.1) (s_3.2.2),.int .i64 x_4,g28,g29,g30,g31,g32,g33,g34,g35,g36,g37,g38,g39,g40,g41,g42,g43,g44,g45,g46,g47,g48,g49,g50,g51,g52,g53,g54,g55,g56,g57,g58,g59,g60,g61,g62,g63,g64,g65,g66,g67,g68,g69,g70,g71,g72,g73,g74,g75,g76,g77,g78,g79,g80,g81,g82,g83,g84,g85,g86,g87,g88,g89,g90,g91,g92,g93,g94,g95,g96,g97,g98,g99,g100,g101] r_1.2 := by kernel_rfl
theorem k10_6 : P10 [1,1,1] = .seq (P10 [1,1,1,0]) (P10 [1,1,1,1]) := by kernel_rfl
theorem k10_7 : P10 [1,1,1,0] = .region 3 (O10 [1,1,1,0]) false := by kernel_rfl
theorem r10_3 {x0 : Int} {Ax1 : Option Addr} {lx1 cx1 : Nat} {M : Mem} {call : CallM} {K : Array Value → Mem → R} :
    opsK Try.prog (fun _ => call) (O10 [1,1,1,0]) (O10 [1,1,1,0]).toList 0 #[.int .i64 x0,.slice Ax1 lx1 cx1,g2,g3,g4,g5,g6,g7,g8,g9,g10,g11,g12,g13,g14,g15,g16,g17,g18,g19,g20,g21,g22,g23,g24,g25,g26,g27,g28,g29,g30,g31,g32,g33,g34,g35,g36,g37,g38,g39,g40,g41,g42,g43,g44,g45,g46,g47,g48,g49,g50,g51,g52,g53,g54,g55,g56,g57,g58,g59,g60,g61,g62,g63,g64,g65,g66,g67,g68,g69,g70,g71,g72,g73,g74,g75,g76,g77,g78,g79,g80,g81,g82,g83,g84,g85,g86,g87,g88,g89,g90,g91,g92,g93,g94,g95,g96,g97,g98,g99,g100,g101] M K = (call 24 #[.int .i64 x0, .slice Ax1 lx1 cx1] M).bind fun r_1 => (asU 2 r_1.1).bind fun cs_2 => (asS (cs_2.getD 0 undef)).bind fun s_3 => (asI .i64 (cs_2.getD 1 undef)).bind fun x_4 => K #[.int .i64 x0,.slice Ax1 lx1 cx1,g2,g3,g4,g5,g6,g7,.slice s_3.1 (s_3.2.1) (s_3.2.2),.int .i64 x_4,g10,g11,g12,g13,g14,g15,g16,g17,g18,g19,g20,g21,g22,g23,g24,g25,g26,g27,.tuple #[.slice s_3.1 (s_3.2.1) (s_3.2.2), .int .i64 x_4],.int .i64 x0,.slice Ax1 lx1 cx1,.tuple #[.slice s_3.1 (s_3.2.1) (s_3.2.2), .int .i64 x_4],.slice s_3.1 (s_3.2.1) (s_3.2.2),.int .i64 x_4,g34,g35,g36,g37,g38,g39,g40,g41,g42,g43,g44,g45,g46,g47,g48,g49,g50,g51,g52,g53,g54,g55,g56,g57,g58,g59,g60,g61,g62,g63,g64,g65,g66,g67,g68,g69,g70,g71,g72,g73,g74,g75,g76,g77,g78,g79,g80,g81,g82,g83,g84,g85,g86,g87,g88,g89,g90,g91,g92,g93,g94,g95,g96,g97,g98,g99,g100,g101] r_1.2 := by kernel_rfl
theorem k10_8 : P10 [1,1,1,1] = .seq (P10 [1,1,1,1,0]) (P10 [1,1,1,1,1]) := by kernel_rfl
theorem k10_9 : P10 [1,1,1,1,0] = .region 4 (O10 [1,1,1,1,0]) false := by kernel_rfl
theorem r10_4 {x0 : Int} {Ax5 : Option Addr} {lx5 cx5 : Nat} {M : Mem} {call : CallM} {K : Array Value → Mem → R} :
    opsK Try.prog (fun _ => call) (O10 [1,1,1,1,0]) (O10 [1,1,1,1,0]).toList 0 #[.int .i64 x0,g1,g2,g3,g4,.slice Ax5 lx5 cx5,g6,g7,g8,g9,g10,g11,g12,g13,g14,g15,g16,g17,g18,g19,g20,g21,g22,g23,g24,g25,g26,g27,g28,g29,g30,g31,g32,g33,g34,g35,g36,g37,g38,g39,g40,g41,g42,g43,g44,g45,g46,g47,g48,g49,g50,g51,g52,g53,g54,g55,g56,g57,g58,g59,g60,g61,g62,g63,g64,g65,g66,g67,g68,g69,g70,g71,g72,g73,g74,g75,g76,g77,g78,g79,g80,g81,g82,g83,g84,g85,g86,g87,g88,g89,g90,g91,g92,g93,g94,g95,g96,g97,g98,g99,g100,g101] M K = (call 13 #[.int .i64 x0, .slice Ax5 lx5 cx5] M).bind fun r_1 => (asU 2 r_1.1).bind fun cs_2 => (asS (cs_2.getD 0 undef)).bind fun s_3 => (asI .i64 (cs_2.getD 1 undef)).bind fun x_4 => K #[.int .i64 x0,g1,g2,g3,g4,.slice Ax5 lx5 cx5,g6,g7,g8,g9,.slice s_3.1 (s_3.2.1) (s_3.2.2),.int .i64 x_4,g12,g13,g14,g15,g16,g17,g18,g19,g20,g21,g22,g23,g24,g25,g26,g27,g28,g29,g30,g31,g32,g33,.tuple #[.slice s_3.1 (s_3.2.1) (s_3.2.2), .int .i64 x_4],.int .i64 x0,.slice Ax5 lx5 cx5,.tuple #[.slice s_3.1 (s_3.2.1) (s_3.2.2), .int .i64 x_4],.slice s_3.1 (s_3.2.1) (s_3.2.2),.int .i64 x_4,g40,g41,g42,g43,g44,g45,g46,g47,g48,g49,g50,g51,g52,g53,g54,g55,g56,g57,g58,g59,g60,g61,g62,g63,g64,g65,g66,g67,g68,g69,g70,g71,g72,g73,g74,g75,g76,g77,g78,g79,g80,g81,g82,g83,g84,g85,g86,g87,g88,g89,g90,g91,g92,g93,g94,g95,g96,g97,g98,g99,g100,g101] r_1.2 := by kernel_rfl
theorem k10_10 : P10 [1,1,1,1,1] = .seq (P10 [1,1,1,1,1,0]) (P10 [1,1,1,1,1,1]) := by kernel_rfl
theorem k10_11 : P10 [1,1,1,1,1,0] = .region 5 (O10 [1,1,1,1,1,0]) false := by kernel_rfl
theorem r10_5 {x0 : Int} {Ax1 : Option Addr} {lx1 cx1 : Nat} {M : Mem} {call : CallM} {K : Array Value → Mem → R} :
    opsK Try.prog (fun _ => call) (O10 [1,1,1,1,1,0]) (O10 [1,1,1,1,1,0]).toList 0 #[.int .i64 x0,.slice Ax1 lx1 cx1,g2,g3,g4,g5,g6,g7,g8,g9,g10,g11,g12,g13,g14,g15,g16,g17,g18,g19,g20,g21,g22,g23,g24,g25,g26,g27,g28,g29,g30,g31,g32,g33,g34,g35,g36,g37,g38,g39,g40,g41,g42,g43,g44,g45,g46,g47,g48,g49,g50,g51,g52,g53,g54,g55,g56,g57,g58,g59,g60,g61,g62,g63,g64,g65,g66,g67,g68,g69,g70,g71,g72,g73,g74,g75,g76,g77,g78,g79,g80,g81,g82,g83,g84,g85,g86,g87,g88,g89,g90,g91,g92,g93,g94,g95,g96,g97,g98,g99,g100,g101] M K = (call 25 #[.int .i64 x0, .slice Ax1 lx1 cx1] M).bind fun r_1 => (asU 2 r_1.1).bind fun cs_2 => (asS (cs_2.getD 0 undef)).bind fun s_3 => (asI .i64 (cs_2.getD 1 undef)).bind fun x_4 => K #[.int .i64 x0,.slice Ax1 lx1 cx1,g2,g3,g4,g5,g6,g7,g8,g9,g10,g11,.slice s_3.1 (s_3.2.1) (s_3.2.2),.int .i64 x_4,g14,g15,g16,g17,g18,g19,g20,g21,g22,g23,g24,g25,g26,g27,g28,g29,g30,g31,g32,g33,g34,g35,g36,g37,g38,g39,.tuple #[.slice s_3.1 (s_3.2.1) (s_3.2.2), .int .i64 x_4],.int .i64 x0,.slice Ax1 lx1 cx1,.tuple #[.slice s_3.1 (s_3.2.1) (s_3.2.2), .int .i64 x_4],.slice s_3.1 (s_3.2.1) (s_3.2.2),.int .i64 x_4,g46,g47,g48,g49,g50,g51,g52,g53,g54,g55,g56,g57,g58,g59,g60,g61,g62,g63,g64,g65,g66,g67,g68,g69,g70,g71,g72,g73,g74,g75,g76,g77,g78,g79,g80,g81,g82,g83,g84,g85,g86,g87,g88,g89,g90,g91,g92,g93,g94,g95,g96,g97,g98,g99,g100,g101] r_1.2 := by kernel_rfl
theorem k10_12 : P10 [1,1,1,1,1,1] = .seq (P10 [1,1,1,1,1,1,0]) (P10 [1,1,1,1,1,1,1]) := by kernel_rfl
theorem k10_13 : P10 [1,1,1,1,1,1,0] = .seq (P10 [1,1,1,1,1,1,0,0]) (P10 [1,1,1,1,1,1,0,1]) := by kernel_rfl
theorem k10_14 : P10 [1,1,1,1,1,1,0,0] = .region 6 (O10 [1,1,1,1,1,1,0,0]) false := by kernel_rfl
theorem k10_15 : P10 [1,1,1,1,1,1,0,0] = .region 6 (O10 [1,1,1,1,1,1,0,0]) false ∧ (!false || drawOk (O10 [1,1,1,1,1,1,0,0])) = true := ⟨by kernel_rfl, by kernel_rfl⟩
theorem r10_6p0 {Ax6 : Option Addr} {lx6 cx6 : Nat} {x7 : Int} {Ax8 : Option Addr} {lx8 cx8 : Nat} {x9 : Int} {M : Mem} {call : CallM} {K : Array Value → Mem → R} :
    segK Try.prog false call (O10 [1,1,1,1,1,1,0,0]) 0 10 #[g0,g1,g2,g3,g4,g5,.slice Ax6 lx6 cx6,.int .i64 x7,.slice Ax8 lx8 cx8,.int .i64 x9,g10,g11,g12,g13,g14,g15,g16,g17,g18,g19,g20,g21,g22,g23,g24,g25,g26,g27,g28,g29,g30,g31,g32,g33,g34,g35,g36,g37,g38,g39,g40,g41,g42,g43,g44,g45,g46,g47,g48,g49,g50,g51,g52,g53,g54,g55,g56,g57,g58,g59,g60,g61,g62,g63,g64,g65,g66,g67,g68,g69,g70,g71,g72,g73,g74,g75,g76,g77,g78,g79,g80,g81,g82,g83,g84,g85,g86,g87,g88,g89,g90,g91,g92,g93,g94,g95,g96,g97,g98,g99,g100,g101] M K = withK (fun w48 w49 w50 w51 w52 w53 w54 w55 M => K #[g0,g1,g2,g3,g4,g5,.slice Ax6 lx6 cx6,.int .i64 x7,.slice Ax8 lx8 cx8,.int .i64 x9,g10,g11,g12,g13,g14,g15,g16,g17,g18,g19,g20,g21,g22,g23,g24,g25,g26,g27,g28,g29,g30,g31,g32,g33,g34,g35,g36,g37,g38,g39,g40,g41,g42,g43,g44,g45,.slice Ax6 lx6 cx6,.slice Ax8 lx8 cx8,w48,w49,w50,w51,w52,w53,w54,w55,g56,g57,g58,g59,g60,g61,g62,g63,g64,g65,g66,g67,g68,g69,g70,g71,g72,g73,g74,g75,g76,g77,g78,g79,g80,g81,g82,g83,g84,g85,g86,g87,g88,g89,g90,g91,g92,g93,g94,g95,g96,g97,g98,g99,g100,g101] M) fun k => (call 15 #[.slice Ax6 lx6 cx6, .slice Ax8 lx8 cx8] M).bind fun r_1 => (asB r_1.1).bind fun b_2 => cond (!b_2) (k (.bool b_2) (.bool (!b_2)) (.bool true) undef undef undef (.bool true) (.bool true) r_1.2) (k (.bool b_2) (.bool (!b_2)) (.bool false) (.int .i64 x7) (.int .i64 x9) (.bool (x7 != x9)) (.bool (x7 != x9)) (.bool (x7 != x9)) r_1.2) := by kernel_rfl
theorem r10_6p10 {Ax10 : Option Addr} {lx10 cx10 : Nat} {Ax12 : Option Addr} {lx12 cx12 : Nat} {x55 : Bool} {M : Mem} {call : CallM} {K : Array Value → Mem → R} :
    segK Try.prog false call (O10 [1,1,1,1,1,1,0,0]) 10 6 #[g0,g1,g2,g3,g4,g5,g6,g7,g8,g9,.slice Ax10 lx10 cx10,g11,.slice Ax12 lx12 cx12,g13,g14,g15,g16,g17,g18,g19,g20,g21,g22,g23,g24,g25,g26,g27,g28,g29,g30,g31,g32,g33,g34,g35,g36,g37,g38,g39,g40,g41,g42,g43,g44,g45,g46,g47,g48,g49,g50,g51,g52,g53,g54,.bool x55,g56,g57,g58,g59,g60,g61,g62,g63,g64,g65,g66,g67,g68,g69,g70,g71,g72,g73,g74,g75,g76,g77,g78,g79,g80,g81,g82,g83,g84,g85,g86,g87,g88,g89,g90,g91,g92,g93,g94,g95,g96,g97,g98,g99,g100,g101] M K = withK (fun w55 w56 w57 w58 w59 w60 w61 M => K #[g0,g1,g2,g3,g4,g5,g6,g7,g8,g9,.slice Ax10 lx10 cx10,g11,.slice Ax12 lx12 cx12,g13,g14,g15,g16,g17,g18,g19,g20,g21,g22,g23,g24,g25,g26,g27,g28,g29,g30,g31,g32,g33,g34,g35,g36,g37,g38,g39,g40,g41,g42,g43,g44,g45,g46,g47,g48,g49,g50,g51,g52,g53,g54,w55,w56,w57,w58,w59,w60,w61,g62,g63,g64,g65,g66,g67,g68,g69,g70,g71,g72,g73,g74,g75,g76,g77,g78,g79,g80,g81,g82,g83,g84,g85,g86,g87,g88,g89,g90,g91,g92,g93,g94,g95,g96,g97,g98,g99,g100,g101] M) fun k => cond x55 (k (.bool true) undef undef undef undef (.bool true) (.bool true) M) ((call 15 #[.slice Ax10 lx10 cx10, .slice Ax12 lx12 cx12] M).bind fun r_1 => (asB r_1.1).bind fun b_2 => k (.bool false) (.slice Ax10 lx10 cx10) (.slice Ax12 lx12 cx12) (.bool b_2) (.bool (!b_2)) (.bool (!b_2)) (.bool (!b_2)) r_1.2) := by kernel_rfl
theorem r10_6p16 {x11 x13 : Int} {x61 : Bool} {M : Mem} {call : CallM} {K : Array Value → Mem → R} :
    segK Try.prog false call (O10 [1,1,1,1,1,1,0,0]) 16 4 #[g0,g1,g2,g3,g4,g5,g6,g7,g8,g9,g10,.int .i64 x11,g12,.int .i64 x13,g14,g15,g16,g17,g18,g19,g20,g21,g22,g23,g24,g25,g26,g27,g28,g29,g30,g31,g32,g33,g34,g35,g36,g37,g38,g39,g40,g41,g42,g43,g44,g45,g46,g47,g48,g49,g50,g51,g52,g53,g54,g55,g56,g57,g58,g59,g60,.bool x61,g62,g63,g64,g65,g66,g67,g68,g69,g70,g71,g72,g73,g74,g75,g76,g77,g78,g79,g80,g81,g82,g83,g84,g85,g86,g87,g88,g89,g90,g91,g92,g93,g94,g95,g96,g97,g98,g99,g100,g101] M K = withK (fun w61 w62 w63 w64 w65 M => K #[g0,g1,g2,g3,g4,g5,g6,g7,g8,g9,g10,.int .i64 x11,g12,.int .i64 x13,g14,g15,g16,g17,g18,g19,g20,g21,g22,g23,g24,g25,g26,g27,g28,g29,g30,g31,g32,g33,g34,g35,g36,g37,g38,g39,g40,g41,g42,g43,g44,g45,g46,g47,g48,g49,g50,g51,g52,g53,g54,g55,g56,g57,g58,g59,g60,w61,w62,w63,w64,w65,g66,g67,g68,g69,g70,g71,g72,g73,g74,g75,g76,g77,g78,g79,g80,g81,g82,g83,g84,g85,g86,g87,g88,g89,g90,g91,g92,g93,g94,g95,g96,g97,g98,g99,g100,g101] M) fun k => cond x61 (k (.bool true) undef undef undef (.bool true) M) (k (.bool false) (.int .i64 x11) (.int .i64 x13) (.bool (x11 != x13)) (.bool (x11 != x13)) M) := by kernel_rfl
theorem c10_16 : P10 [1,1,1,1,1,1,0,1] = .cond (.tmp 65) (P10 [1,1,1,1,1,1,0,1,0]) (P10 [1,1,1,1,1,1,0,1,1]) := by kernel_rfl
theorem k10_17 : P10 [1,1,1,1,1,1,0,1,0] = .seq (P10 [1,1,1,1,1,1,0,1,0,0]) (P10 [1,1,1,1,1,1,0,1,0,1]) := by kernel_rfl
theorem k10_18 : P10 [1,1,1,1,1,1,0,1,0,0] = .region 7 (O10 [1,1,1,1,1,1,0,1,0,0]) false := by kernel_rfl
theorem r10_7 {M : Mem} {call : CallM} {K : Array Value → Mem → R} :
    opsK Try.prog (fun _ => call) (O10 [1,1,1,1,1,1,0,1,0,0]) (O10 [1,1,1,1,1,1,0,1,0,0]).toList 0 #[g0,g1,g2,g3,g4,g5,g6,g7,g8,g9,g10,g11,g12,g13,g14,g15,g16,g17,g18,g19,g20,g21,g22,g23,g24,g25,g26,g27,g28,g29,g30,g31,g32,g33,g34,g35,g36,g37,g38,g39,g40,g41,g42,g43,g44,g45,g46,g47,g48,g49,g50,g51,g52,g53,g54,g55,g56,g57,g58,g59,g60,g61,g62,g63,g64,g65,g66,g67,g68,g69,g70,g71,g72,g73,g74,g75,g76,g77,g78,g79,g80,g81,g82,g83,g84,g85,g86,g87,g88,g89,g90,g91,g92,g93,g94,g95,g96,g97,g98,g99,g100,g101] M K = K #[g0,g1,g2,g3,.bool false,g5,g6,g7,g8,g9,g10,g11,g12,g13,g14,g15,g16,g17,g18,g19,g20,g21,g22,g23,g24,g25,g26,g27,g28,g29,g30,g31,g32,g33,g34,g35,g36,g37,g38,g39,g40,g41,g42,g43,g44,g45,g46,g47,g48,g49,g50,g51,g52,g53,g54,g55,g56,g57,g58,g59,g60,g61,g62,g63,g64,g65,g66,g67,g68,g69,g70,g71,g72,g73,g74,g75,g76,g77,g78,g79,g80,g81,g82,g83,g84,g85,g86,g87,g88,g89,g90,g91,g92,g93,g94,g95,g96,g97,g98,g99,g100,g101] M := by kernel_rfl
theorem k10_19 : P10 [1,1,1,1,1,1,0,1,0,1] = .ret := by kernel_rfl
theorem e10 {M : Mem} : finish Try.prog Try.f10 #[g0,g1,g2,g3,g4,g5,g6,g7,g8,g9,g10,g11,g12,g13,g14,g15,g16,g17,g18,g19,g20,g21,g22,g23,g24,g25,g26,g27,g28,g29,g30,g31,g32,g33,g34,g35,g36,g37,g38,g39,g40,g41,g42,g43,g44,g45,g46,g47,g48,g49,g50,g51,g52,g53,g54,g55,g56,g57,g58,g59,g60,g61,g62,g63,g64,g65,g66,g67,g68,g69,g70,g71,g72,g73,g74,g75,g76,g77,g78,g79,g80,g81,g82,g83,g84,g85,g86,g87,g88,g89,g90,g91,g92,g93,g94,g95,g96,g97,g98,g99,g100,g101] M = some (g4, M) := by kernel_rfl
theorem k10_21 : P10 [1,1,1,1,1,1,0,1,1] = .skip := by kernel_rfl
theorem k10_22 : P10 [1,1,1,1,1,1,1] = .seq (P10 [1,1,1,1,1,1,1,0]) (P10 [1,1,1,1,1,1,1,1]) := by kernel_rfl
theorem k10_23 : P10 [1,1,1,1,1,1,1,0] = .seq (P10 [1,1,1,1,1,1,1,0,0]) (P10 [1,1,1,1,1,1,1,0,1]) := by kernel_rfl
theorem k10_24 : P10 [1,1,1,1,1,1,1,0,0] = .region 8 (O10 [1,1,1,1,1,1,1,0,0]) false := by kernel_rfl
theorem r10_8 {M : Mem} {call : CallM} {K : Array Value → Mem → R} :
    opsK Try.prog (fun _ => call) (O10 [1,1,1,1,1,1,1,0,0]) (O10 [1,1,1,1,1,1,1,0,0]).toList 0 #[g0,g1,g2,g3,g4,g5,g6,g7,g8,g9,g10,g11,g12,g13,g14,g15,g16,g17,g18,g19,g20,g21,g22,g23,g24,g25,g26,g27,g28,g29,g30,g31,g32,g33,g34,g35,g36,g37,g38,g39,g40,g41,g42,g43,g44,g45,g46,g47,g48,g49,g50,g51,g52,g53,g54,g55,g56,g57,g58,g59,g60,g61,g62,g63,g64,g65,g66,g67,g68,g69,g70,g71,g72,g73,g74,g75,g76,g77,g78,g79,g80,g81,g82,g83,g84,g85,g86,g87,g88,g89,g90,g91,g92,g93,g94,g95,g96,g97,g98,g99,g100,g101] M K = K #[g0,g1,g2,g3,g4,g5,g6,g7,g8,g9,g10,g11,g12,g13,.int .i64 0,g15,g16,g17,g18,g19,g20,g21,g22,g23,g24,g25,g26,g27,g28,g29,g30,g31,g32,g33,g34,g35,g36,g37,g38,g39,g40,g41,g42,g43,g44,g45,g46,g47,g48,g49,g50,g51,g52,g53,g54,g55,g56,g57,g58,g59,g60,g61,g62,g63,g64,g65,g66,g67,g68,g69,g70,g71,g72,g73,g74,g75,g76,g77,g78,g79,g80,g81,g82,g83,g84,g85,g86,g87,g88,g89,g90,g91,g92,g93,g94,g95,g96,g97,g98,g99,g100,g101] M := by kernel_rfl
theorem k10_25 : P10 [1,1,1,1,1,1,1,0,1] = .block 0 (P10 [1,1,1,1,1,1,1,0,1,0]) := by kernel_rfl
theorem k10_26 : P10 [1,1,1,1,1,1,1,0,1,0] = .loop (P10 [1,1,1,1,1,1,1,0,1,0,0]) := by kernel_rfl
theorem k10_27 : P10 [1,1,1,1,1,1,1,0,1,0,0] = .seq (P10 [1,1,1,1,1,1,1,0,1,0,0,0]) (P10 [1,1,1,1,1,1,1,0,1,0,0,1]) := by kernel_rfl
theorem k10_28 : P10 [1,1,1,1,1,1,1,0,1,0,0,0] = .seq (P10 [1,1,1,1,1,1,1,0,1,0,0,0,0]) (P10 [1,1,1,1,1,1,1,0,1,0,0,0,1]) := by kernel_rfl
theorem k10_29 : P10 [1,1,1,1,1,1,1,0,1,0,0,0,0] = .region 9 (O10 [1,1,1,1,1,1,1,0,1,0,0,0,0]) false := by kernel_rfl
theorem r10_9 {Ax6 : Option Addr} {lx6 cx6 : Nat} {Ax10 : Option Addr} {lx10 cx10 : Nat} {x14 : Int} {M : Mem} {call : CallM} {K : Array Value → Mem → R} :
    opsK Try.prog (fun _ => call) (O10 [1,1,1,1,1,1,1,0,1,0,0,0,0]) (O10 [1,1,1,1,1,1,1,0,1,0,0,0,0]).toList 0 #[g0,g1,g2,g3,g4,g5,.slice Ax6 lx6 cx6,g7,g8,g9,.slice Ax10 lx10 cx10,g11,g12,g13,.int .i64 x14,g15,g16,g17,g18,g19,g20,g21,g22,g23,g24,g25,g26,g27,g28,g29,g30,g31,g32,g33,g34,g35,g36,g37,g38,g39,g40,g41,g42,g43,g44,g45,g46,g47,g48,g49,g50,g51,g52,g53,g54,g55,g56,g57,g58,g59,g60,g61,g62,g63,g64,g65,g66,g67,g68,g69,g70,g71,g72,g73,g74,g75,g76,g77,g78,g79,g80,g81,g82,g83,g84,g85,g86,g87,g88,g89,g90,g91,g92,g93,g94,g95,g96,g97,g98,g99,g100,g101] M K = withK (fun w70 w71 w72 w73 w74 w75 M => K #[g0,g1,g2,g3,g4,g5,.slice Ax6 lx6 cx6,g7,g8,g9,.slice Ax10 lx10 cx10,g11,g12,g13,.int .i64 x14,g15,g16,g17,g18,g19,g20,g21,g22,g23,g24,g25,g26,g27,g28,g29,g30,g31,g32,g33,g34,g35,g36,g37,g38,g39,g40,g41,g42,g43,g44,g45,g46,g47,g48,g49,g50,g51,g52,g53,g54,g55,g56,g57,g58,g59,g60,g61,g62,g63,g64,g65,.int .i64 x14,.slice Ax6 lx6 cx6,.int .i64 ((lx6 : Int)),.bool (decide (x14 < ((lx6 : Int)))),w70,w71,w72,w73,w74,w75,g76,g77,g78,g79,g80,g81,g82,g83,g84,g85,g86,g87,g88,g89,g90,g91,g92,g93,g94,g95,g96,g97,g98,g99,g100,g101] M) fun k => cond (decide (x14 < ((lx6 : Int)))) (k (.bool true) (.int .i64 x14) (.slice Ax10 lx10 cx10) (.int .i64 ((lx10 : Int))) (.bool (decide (x14 < ((lx10 : Int))))) (.bool (decide (x14 < ((lx10 : Int))))) M) (k (.bool false) undef undef undef undef (.bool false) M) := by kernel_rfl
theorem c10_30 : P10 [1,1,1,1,1,1,1,0,1,0,0,0,1] = .cond (.tmp 75) (P10 [1,1,1,1,1,1,1,0,1,0,0,0,1,0]) (P10 [1,1,1,1,1,1,1,0,1,0,0,0,1,1]) := by kernel_rfl
theorem k10_31 : P10 [1,1,1,1,1,1,1,0,1,0,0,0,1,0] = .skip := by kernel_rfl
theorem k10_32 : P10 [1,1,1,1,1,1,1,0,1,0,0,1] = .seq (P10 [1,1,1,1,1,1,1,0,1,0,0,1,0]) (P10 [1,1,1,1,1,1,1,0,1,0,0,1,1]) := by kernel_rfl
theorem k10_33 : P10 [1,1,1,1,1,1,1,0,1,0,0,1,0] = .block 1 (P10 [1,1,1,1,1,1,1,0,1,0,0,1,0,0]) := by kernel_rfl
theorem k10_34 : P10 [1,1,1,1,1,1,1,0,1,0,0,1,0,0] = .seq (P10 [1,1,1,1,1,1,1,0,1,0,0,1,0,0,0]) (P10 [1,1,1,1,1,1,1,0,1,0,0,1,0,0,1]) := by kernel_rfl
theorem k10_35 : P10 [1,1,1,1,1,1,1,0,1,0,0,1,0,0,0] = .region 11 (O10 [1,1,1,1,1,1,1,0,1,0,0,1,0,0,0]) false := by kernel_rfl
theorem r10_11 {Ax6 : Option Addr} {lx6 cx6 : Nat} {x14 : Int} {M : Mem} {call : CallM} {K : Array Value → Mem → R} :
    opsK Try.prog (fun _ => call) (O10 [1,1,1,1,1,1,1,0,1,0,0,1,0,0,0]) (O10 [1,1,1,1,1,1,1,0,1,0,0,1,0,0,0]).toList 0 #[g0,g1,g2,g3,g4,g5,.slice Ax6 lx6 cx6,g7,g8,g9,g10,g11,g12,g13,.int .i64 x14,g15,g16,g17,g18,g19,g20,g21,g22,g23,g24,g25,g26,g27,g28,g29,g30,g31,g32,g33,g34,g35,g36,g37,g38,g39,g40,g41,g42,g43,g44,g45,g46,g47,g48,g49,g50,g51,g52,g53,g54,g55,g56,g57,g58,g59,g60,g61,g62,g63,g64,g65,g66,g67,g68,g69,g70,g71,g72,g73,g74,g75,g76,g77,g78,g79,g80,g81,g82,g83,g84,g85,g86,g87,g88,g89,g90,g91,g92,g93,g94,g95,g96,g97,g98,g99,g100,g101] M K = (idxA Ax6 lx6 1 x14).bind fun a_1 => (M.put a_1.block a_1.off (.int .i64 (-1))).bind fun M_2 => K #[g0,g1,g2,g3,g4,g5,.slice Ax6 lx6 cx6,g7,g8,g9,g10,g11,g12,g13,.int .i64 x14,g15,g16,g17,g18,g19,g20,g21,g22,g23,g24,g25,g26,g27,g28,g29,g30,g31,g32,g33,g34,g35,g36,g37,g38,g39,g40,g41,g42,g43,g44,g45,g46,g47,g48,g49,g50,g51,g52,g53,g54,g55,g56,g57,g58,g59,g60,g61,g62,g63,g64,g65,g66,g67,g68,g69,g70,g71,g72,g73,g74,g75,g76,g77,.slice Ax6 lx6 cx6,.int .i64 x14,.pointer (some a_1),g81,g82,g83,g84,g85,g86,g87,g88,g89,g90,g91,g92,g93,g94,g95,g96,g97,g98,g99,g100,g101] M_2 := by kernel_rfl
theorem k10_36 : P10 [1,1,1,1,1,1,1,0,1,0,0,1,0,0,1] = .region 12 (O10 [1,1,1,1,1,1,1,0,1,0,0,1,0,0,1]) false := by kernel_rfl
theorem r10_12 {Ax10 : Option Addr} {lx10 cx10 : Nat} {x14 : Int} {M : Mem} {call : CallM} {K : Array Value → Mem → R} :
    opsK Try.prog (fun _ => call) (O10 [1,1,1,1,1,1,1,0,1,0,0,1,0,0,1]) (O10 [1,1,1,1,1,1,1,0,1,0,0,1,0,0,1]).toList 0 #[g0,g1,g2,g3,g4,g5,g6,g7,g8,g9,.slice Ax10 lx10 cx10,g11,g12,g13,.int .i64 x14,g15,g16,g17,g18,g19,g20,g21,g22,g23,g24,g25,g26,g27,g28,g29,g30,g31,g32,g33,g34,g35,g36,g37,g38,g39,g40,g41,g42,g43,g44,g45,g46,g47,g48,g49,g50,g51,g52,g53,g54,g55,g56,g57,g58,g59,g60,g61,g62,g63,g64,g65,g66,g67,g68,g69,g70,g71,g72,g73,g74,g75,g76,g77,g78,g79,g80,g81,g82,g83,g84,g85,g86,g87,g88,g89,g90,g91,g92,g93,g94,g95,g96,g97,g98,g99,g100,g101] M K = (idxA Ax10 lx10 1 x14).bind fun a_1 => (M.put a_1.block a_1.off (.int .i64 (-1))).bind fun M_2 => K #[g0,g1,g2,g3,g4,g5,g6,g7,g8,g9,.slice Ax10 lx10 cx10,g11,g12,g13,.int .i64 x14,g15,g16,g17,g18,g19,g20,g21,g22,g23,g24,g25,g26,g27,g28,g29,g30,g31,g32,g33,g34,g35,g36,g37,g38,g39,g40,g41,g42,g43,g44,g45,g46,g47,g48,g49,g50,g51,g52,g53,g54,g55,g56,g57,g58,g59,g60,g61,g62,g63,g64,g65,g66,g67,g68,g69,g70,g71,g72,g73,g74,g75,g76,g77,g78,g79,g80,.slice Ax10 lx10 cx10,.int .i64 x14,.pointer (some a_1),g84,g85,g86,g87,g88,g89,g90,g91,g92,g93,g94,g95,g96,g97,g98,g99,g100,g101] M_2 := by kernel_rfl
theorem k10_37 : P10 [1,1,1,1,1,1,1,0,1,0,0,1,1] = .region 10 (O10 [1,1,1,1,1,1,1,0,1,0,0,1,1]) false := by kernel_rfl
theorem r10_10 {x14 : Int} {M : Mem} {call : CallM} {K : Array Value → Mem → R} :
    opsK Try.prog (fun _ => call) (O10 [1,1,1,1,1,1,1,0,1,0,0,1,1]) (O10 [1,1,1,1,1,1,1,0,1,0,0,1,1]).toList 0 #[g0,g1,g2,g3,g4,g5,g6,g7,g8,g9,g10,g11,g12,g13,.int .i64 x14,g15,g16,g17,g18,g19,g20,g21,g22,g23,g24,g25,g26,g27,g28,g29,g30,g31,g32,g33,g34,g35,g36,g37,g38,g39,g40,g41,g42,g43,g44,g45,g46,g47,g48,g49,g50,g51,g52,g53,g54,g55,g56,g57,g58,g59,g60,g61,g62,g63,g64,g65,g66,g67,g68,g69,g70,g71,g72,g73,g74,g75,g76,g77,g78,g79,g80,g81,g82,g83,g84,g85,g86,g87,g88,g89,g90,g91,g92,g93,g94,g95,g96,g97,g98,g99,g100,g101] M K = K #[g0,g1,g2,g3,g4,g5,g6,g7,g8,g9,g10,g11,g12,g13,.int .i64 (IntKind.i64.wrap (x14 + 1)),g15,g16,g17,g18,g19,g20,g21,g22,g23,g24,g25,g26,g27,g28,g29,g30,g31,g32,g33,g34,g35,g36,g37,g38,g39,g40,g41,g42,g43,g44,g45,g46,g47,g48,g49,g50,g51,g52,g53,g54,g55,g56,g57,g58,g59,g60,g61,g62,g63,g64,g65,g66,g67,g68,g69,g70,g71,g72,g73,g74,g75,.int .i64 x14,.int .i64 (IntKind.i64.wrap (x14 + 1)),g78,g79,g80,g81,g82,g83,g84,g85,g86,g87,g88,g89,g90,g91,g92,g93,g94,g95,g96,g97,g98,g99,g100,g101] M := by kernel_rfl
theorem k10_38 : P10 [1,1,1,1,1,1,1,0,1,0,0,0,1,1] = .exit 0 := by kernel_rfl
theorem k10_39 : P10 [1,1,1,1,1,1,1,1] = .seq (P10 [1,1,1,1,1,1,1,1,0]) (P10 [1,1,1,1,1,1,1,1,1]) := by kernel_rfl
theorem k10_40 : P10 [1,1,1,1,1,1,1,1,0] = .region 13 (O10 [1,1,1,1,1,1,1,1,0]) false := by kernel_rfl
theorem r10_13 {Ax6 : Option Addr} {lx6 cx6 : Nat} {M : Mem} {call : CallM} {K : Array Value → Mem → R} :
    opsK Try.prog (fun _ => call) (O10 [1,1,1,1,1,1,1,1,0]) (O10 [1,1,1,1,1,1,1,1,0]).toList 0 #[g0,g1,g2,g3,g4,g5,.slice Ax6 lx6 cx6,g7,g8,g9,g10,g11,g12,g13,g14,g15,g16,g17,g18,g19,g20,g21,g22,g23,g24,g25,g26,g27,g28,g29,g30,g31,g32,g33,g34,g35,g36,g37,g38,g39,g40,g41,g42,g43,g44,g45,g46,g47,g48,g49,g50,g51,g52,g53,g54,g55,g56,g57,g58,g59,g60,g61,g62,g63,g64,g65,g66,g67,g68,g69,g70,g71,g72,g73,g74,g75,g76,g77,g78,g79,g80,g81,g82,g83,g84,g85,g86,g87,g88,g89,g90,g91,g92,g93,g94,g95,g96,g97,g98,g99,g100,g101] M K = (appendP Try.prog #[22, 22] (.slice Ax6 lx6 cx6) (.slice (some ⟨2 * M.nb.size, 0, none⟩) 1 1) (M.new (.cells #[.int .i64 5] 3))).bind fun r_1 => (asS r_1.1).bind fun s_2 => K #[g0,g1,g2,g3,g4,g5,.slice s_2.1 (s_2.2.1) (s_2.2.2),g7,g8,g9,g10,g11,g12,g13,g14,g15,g16,g17,g18,g19,g20,g21,g22,g23,g24,g25,g26,g27,g28,g29,g30,g31,g32,g33,g34,g35,g36,g37,g38,g39,g40,g41,g42,g43,g44,g45,g46,g47,g48,g49,g50,g51,g52,g53,g54,g55,g56,g57,g58,g59,g60,g61,g62,g63,g64,g65,g66,g67,g68,g69,g70,g71,g72,g73,g74,g75,g76,g77,g78,g79,g80,g81,g82,g83,.slice Ax6 lx6 cx6,.slice (some ⟨2 * M.nb.size, 0, none⟩) 1 1,.slice s_2.1 (s_2.2.1) (s_2.2.2),g87,g88,g89,g90,g91,g92,g93,g94,g95,g96,g97,g98,g99,g100,g101] r_1.2 := by kernel_rfl
theorem k10_41 : P10 [1,1,1,1,1,1,1,1,1] = .seq (P10 [1,1,1,1,1,1,1,1,1,0]) (P10 [1,1,1,1,1,1,1,1,1,1]) := by kernel_rfl
theorem k10_42 : P10 [1,1,1,1,1,1,1,1,1,0] = .region 14 (O10 [1,1,1,1,1,1,1,1,1,0]) false := by kernel_rfl
theorem r10_14 {Ax1 : Option Addr} {lx1 cx1 : Nat} {Ax5 : Option Addr} {lx5 cx5 : Nat} {M : Mem} {call : CallM} {K : Array Value → Mem → R} :
    opsK Try.prog (fun _ => call) (O10 [1,1,1,1,1,1,1,1,1,0]) (O10 [1,1,1,1,1,1,1,1,1,0]).toList 0 #[g0,.slice Ax1 lx1 cx1,g2,g3,g4,.slice Ax5 lx5 cx5,g6,g7,g8,g9,g10,g11,g12,g13,g14,g15,g16,g17,g18,g19,g20,g21,g22,g23,g24,g25,g26,g27,g28,g29,g30,g31,g32,g33,g34,g35,g36,g37,g38,g39,g40,g41,g42,g43,g44,g45,g46,g47,g48,g49,g50,g51,g52,g53,g54,g55,g56,g57,g58,g59,g60,g61,g62,g63,g64,g65,g66,g67,g68,g69,g70,g71,g72,g73,g74,g75,g76,g77,g78,g79,g80,g81,g82,g83,g84,g85,g86,g87,g88,g89,g90,g91,g92,g93,g94,g95,g96,g97,g98,g99,g100,g101] M K = withK (fun w4 w89 w90 w91 w92 w93 w94 w95 w96 w97 w98 w99 w100 w101 M => K #[g0,.slice Ax1 lx1 cx1,g2,g3,w4,.slice Ax5 lx5 cx5,g6,g7,g8,g9,g10,g11,g12,g13,g14,g15,g16,g17,g18,g19,g20,g21,g22,g23,g24,g25,g26,g27,g28,g29,g30,g31,g32,g33,g34,g35,g36,g37,g38,g39,g40,g41,g42,g43,g44,g45,g46,g47,g48,g49,g50,g51,g52,g53,g54,g55,g56,g57,g58,g59,g60,g61,g62,g63,g64,g65,g66,g67,g68,g69,g70,g71,g72,g73,g74,g75,g76,g77,g78,g79,g80,g81,g82,g83,g84,g85,g86,.slice Ax5 lx5 cx5,.slice Ax1 lx1 cx1,w89,w90,w91,w92,w93,w94,w95,w96,w97,w98,w99,w100,w101] M) fun k => (call 15 #[.slice Ax5 lx5 cx5, .slice Ax1 lx1 cx1] M).bind fun r_1 => (asB r_1.1).bind fun b_2 => cond b_2 ((sliceP Try.prog 22 (.slice Ax5 lx5 cx5) none (some (.int .i64 (IntKind.i64.wrap (((lx1 : Int)) + 2)))) none).bind fun v_3 => (asS v_3).bind fun s_4 => (sliceP Try.prog 22 (.slice s_4.1 (s_4.2.1) (s_4.2.2)) (some (.int .i64 ((lx1 : Int)))) none none).bind fun v_5 => (asS v_5).bind fun s_6 => (call 15 #[.slice s_6.1 (s_6.2.1) (s_6.2.2), .slice (some ⟨2 * r_1.2.nb.size, 0, none⟩) 2 2] (r_1.2.new (.cells #[.int .i64 77, .int .i64 78] 3))).bind fun r_7 => (asB r_7.1).bind fun b_8 => k (.bool b_8) (.bool b_2) (.bool true) (.slice Ax5 lx5 cx5) (.slice Ax1 lx1 cx1) (.int .i64 ((lx1 : Int))) (.int .i64 (IntKind.i64.wrap (((lx1 : Int)) + 2))) (.slice s_4.1 (s_4.2.1) (s_4.2.2)) (.slice Ax1 lx1 cx1) (.int .i64 ((lx1 : Int))) (.slice s_6.1 (s_6.2.1) (s_6.2.2)) (.slice (some ⟨2 * r_1.2.nb.size, 0, none⟩) 2 2) (.bool b_8) (.bool b_8) r_7.2) (k (.bool false) (.bool b_2) (.bool false) undef undef undef undef undef undef undef undef undef undef (.bool false) r_1.2) := by kernel_rfl
theorem k10_43 : P10 [1,1,1,1,1,1,1,1,1,1] = .ret := by kernel_rfl
noncomputable def S10_1 : List Item := [.code (P10 [1,1,1,1,1,1,0,1]), .code (P10 [1,1,1,1,1,1,1])]
def A10_1 (Ax1 : Option Addr) (lx1 cx1 : Nat) (Ax5 : Option Addr) (lx5 cx5 : Nat) (Ax6 : Option Addr) (lx6 cx6 : Nat) (Ax10 : Option Addr) (lx10 cx10 : Nat) (x11 : Int) (Ax12 : Option Addr) (lx12 cx12 : Nat) (x13 : Int) (x55 : Bool) (M : Mem) (Q : Value → Mem → Prop) : Prop := ∀ (g0 g2 g3 g4 g7 g8 g9 g14 g15 g16 g17 g18 g19 g20 g21 g22 g23 g24 g25 g26 g27 g28 g29 g30 g31 g32 g33 g34 g35 g36 g37 g38 g39 g40 g41 g42 g43 g44 g45 g46 g47 g48 g49 g50 g51 g52 g53 g54 g56 g57 g58 g59 g60 g61 g62 g63 g64 g65 g66 g67 g68 g69 g70 g71 g72 g73 g74 g75 g76 g77 g78 g79 g80 g81 g82 g83 g84 g85 g86 g87 g88 g89 g90 g91 g92 g93 g94 g95 g96 g97 g98 g99 g100 g101 : Value), Rg Try.prog Try.f10 (O10 [1,1,1,1,1,1,0,0]) false 10 S10_1 #[g0, .slice Ax1 lx1 cx1, g2, g3, g4, .slice Ax5 lx5 cx5, .slice Ax6 lx6 cx6, g7, g8, g9, .slice Ax10 lx10 cx10, .int .i64 x11, .slice Ax12 lx12 cx12, .int .i64 x13, g14, g15, g16, g17, g18, g19, g20, g21, g22, g23, g24, g25, g26, g27, g28, g29, g30, g31, g32, g33, g34, g35, g36, g37, g38, g39, g40, g41, g42, g43, g44, g45, g46, g47, g48, g49, g50, g51, g52, g53, g54, .bool x55, g56, g57, g58, g59, g60, g61, g62, g63, g64, g65, g66, g67, g68, g69, g70, g71, g72, g73, g74, g75, g76, g77, g78, g79, g80, g81, g82, g83, g84, g85, g86, g87, g88, g89, g90, g91, g92, g93, g94, g95, g96, g97, g98, g99, g100, g101] M Q
noncomputable def S10_2 : List Item := [.code (P10 [1,1,1,1,1,1,0,1]), .code (P10 [1,1,1,1,1,1,1])]
def A10_2 (Ax1 : Option Addr) (lx1 cx1 : Nat) (Ax5 : Option Addr) (lx5 cx5 : Nat) (Ax6 : Option Addr) (lx6 cx6 : Nat) (Ax10 : Option Addr) (lx10 cx10 : Nat) (x11 x13 : Int) (x61 : Bool) (M : Mem) (Q : Value → Mem → Prop) : Prop := ∀ (g0 g2 g3 g4 g7 g8 g9 g12 g14 g15 g16 g17 g18 g19 g20 g21 g22 g23 g24 g25 g26 g27 g28 g29 g30 g31 g32 g33 g34 g35 g36 g37 g38 g39 g40 g41 g42 g43 g44 g45 g46 g47 g48 g49 g50 g51 g52 g53 g54 g55 g56 g57 g58 g59 g60 g62 g63 g64 g65 g66 g67 g68 g69 g70 g71 g72 g73 g74 g75 g76 g77 g78 g79 g80 g81 g82 g83 g84 g85 g86 g87 g88 g89 g90 g91 g92 g93 g94 g95 g96 g97 g98 g99 g100 g101 : Value), Rg Try.prog Try.f10 (O10 [1,1,1,1,1,1,0,0]) false 16 S10_2 #[g0, .slice Ax1 lx1 cx1, g2, g3, g4, .slice Ax5 lx5 cx5, .slice Ax6 lx6 cx6, g7, g8, g9, .slice Ax10 lx10 cx10, .int .i64 x11, g12, .int .i64 x13, g14, g15, g16, g17, g18, g19, g20, g21, g22, g23, g24, g25, g26, g27, g28, g29, g30, g31, g32, g33, g34, g35, g36, g37, g38, g39, g40, g41, g42, g43, g44, g45, g46, g47, g48, g49, g50, g51, g52, g53, g54, g55, g56, g57, g58, g59, g60, .bool x61, g62, g63, g64, g65, g66, g67, g68, g69, g70, g71, g72, g73, g74, g75, g76, g77, g78, g79, g80, g81, g82, g83, g84, g85, g86, g87, g88, g89, g90, g91, g92, g93, g94, g95, g96, g97, g98, g99, g100, g101] M Q
noncomputable def S10_3 : List Item := [.code (P10 [1,1,1,1,1,1,0,1]), .code (P10 [1,1,1,1,1,1,1])]
def A10_3 (Ax1 : Option Addr) (lx1 cx1 : Nat) (Ax5 : Option Addr) (lx5 cx5 : Nat) (Ax6 : Option Addr) (lx6 cx6 : Nat) (Ax10 : Option Addr) (lx10 cx10 : Nat) (x65 : Bool) (M : Mem) (Q : Value → Mem → Prop) : Prop := ∀ (g0 g2 g3 g4 g7 g8 g9 g11 g12 g13 g14 g15 g16 g17 g18 g19 g20 g21 g22 g23 g24 g25 g26 g27 g28 g29 g30 g31 g32 g33 g34 g35 g36 g37 g38 g39 g40 g41 g42 g43 g44 g45 g46 g47 g48 g49 g50 g51 g52 g53 g54 g55 g56 g57 g58 g59 g60 g61 g62 g63 g64 g66 g67 g68 g69 g70 g71 g72 g73 g74 g75 g76 g77 g78 g79 g80 g81 g82 g83 g84 g85 g86 g87 g88 g89 g90 g91 g92 g93 g94 g95 g96 g97 g98 g99 g100 g101 : Value), Rn Try.prog Try.f10 S10_3 #[g0, .slice Ax1 lx1 cx1, g2, g3, g4, .slice Ax5 lx5 cx5, .slice Ax6 lx6 cx6, g7, g8, g9, .slice Ax10 lx10 cx10, g11, g12, g13, g14, g15, g16, g17, g18, g19, g20, g21, g22, g23, g24, g25, g26, g27, g28, g29, g30, g31, g32, g33, g34, g35, g36, g37, g38, g39, g40, g41, g42, g43, g44, g45, g46, g47, g48, g49, g50, g51, g52, g53, g54, g55, g56, g57, g58, g59, g60, g61, g62, g63, g64, .bool x65, g66, g67, g68, g69, g70, g71, g72, g73, g74, g75, g76, g77, g78, g79, g80, g81, g82, g83, g84, g85, g86, g87, g88, g89, g90, g91, g92, g93, g94, g95, g96, g97, g98, g99, g100, g101] M Q
noncomputable def S10_4 : List Item := [.code (P10 [1,1,1,1,1,1,1,0,1,0,0]), .inLoop (P10 [1,1,1,1,1,1,1,0,1,0,0]), .inBlock 0, .code (P10 [1,1,1,1,1,1,1,1])]
def A10_4 (Ax1 : Option Addr) (lx1 cx1 : Nat) (Ax5 : Option Addr) (lx5 cx5 : Nat) (Ax6 : Option Addr) (lx6 cx6 : Nat) (Ax10 : Option Addr) (lx10 cx10 : Nat) (x14 : Int) (M : Mem) (Q : Value → Mem → Prop) : Prop := ∀ (g0 g2 g3 g4 g7 g8 g9 g11 g12 g13 g15 g16 g17 g18 g19 g20 g21 g22 g23 g24 g25 g26 g27 g28 g29 g30 g31 g32 g33 g34 g35 g36 g37 g38 g39 g40 g41 g42 g43 g44 g45 g46 g47 g48 g49 g50 g51 g52 g53 g54 g55 g56 g57 g58 g59 g60 g61 g62 g63 g64 g65 g66 g67 g68 g69 g70 g71 g72 g73 g74 g75 g76 g77 g78 g79 g80 g81 g82 g83 g84 g85 g86 g87 g88 g89 g90 g91 g92 g93 g94 g95 g96 g97 g98 g99 g100 g101 : Value), Rn Try.prog Try.f10 S10_4 #[g0, .slice Ax1 lx1 cx1, g2, g3, g4, .slice Ax5 lx5 cx5, .slice Ax6 lx6 cx6, g7, g8, g9, .slice Ax10 lx10 cx10, g11, g12, g13, .int .i64 x14, g15, g16, g17, g18, g19, g20, g21, g22, g23, g24, g25, g26, g27, g28, g29, g30, g31, g32, g33, g34, g35, g36, g37, g38, g39, g40, g41, g42, g43, g44, g45, g46, g47, g48, g49, g50, g51, g52, g53, g54, g55, g56, g57, g58, g59, g60, g61, g62, g63, g64, g65, g66, g67, g68, g69, g70, g71, g72, g73, g74, g75, g76, g77, g78, g79, g80, g81, g82, g83, g84, g85, g86, g87, g88, g89, g90, g91, g92, g93, g94, g95, g96, g97, g98, g99, g100, g101] M Q
noncomputable def S10_5 : List Item := [.code (P10 [1,1,1,1,1,1,1,0,1,0,0,0,1]), .code (P10 [1,1,1,1,1,1,1,0,1,0,0,1]), .inLoop (P10 [1,1,1,1,1,1,1,0,1,0,0]), .inBlock 0, .code (P10 [1,1,1,1,1,1,1,1])]
def A10_5 (Ax1 : Option Addr) (lx1 cx1 : Nat) (Ax5 : Option Addr) (lx5 cx5 : Nat) (Ax6 : Option Addr) (lx6 cx6 : Nat) (Ax10 : Option Addr) (lx10 cx10 : Nat) (x14 : Int) (x75 : Bool) (M : Mem) (Q : Value → Mem → Prop) : Prop := ∀ (g0 g2 g3 g4 g7 g8 g9 g11 g12 g13 g15 g16 g17 g18 g19 g20 g21 g22 g23 g24 g25 g26 g27 g28 g29 g30 g31 g32 g33 g34 g35 g36 g37 g38 g39 g40 g41 g42 g43 g44 g45 g46 g47 g48 g49 g50 g51 g52 g53 g54 g55 g56 g57 g58 g59 g60 g61 g62 g63 g64 g65 g66 g67 g68 g69 g70 g71 g72 g73 g74 g76 g77 g78 g79 g80 g81 g82 g83 g84 g85 g86 g87 g88 g89 g90 g91 g92 g93 g94 g95 g96 g97 g98 g99 g100 g101 : Value), Rn Try.prog Try.f10 S10_5 #[g0, .slice Ax1 lx1 cx1, g2, g3, g4, .slice Ax5 lx5 cx5, .slice Ax6 lx6 cx6, g7, g8, g9, .slice Ax10 lx10 cx10, g11, g12, g13, .int .i64 x14, g15, g16, g17, g18, g19, g20, g21, g22, g23, g24, g25, g26, g27, g28, g29, g30, g31, g32, g33, g34, g35, g36, g37, g38, g39, g40, g41, g42, g43, g44, g45, g46, g47, g48, g49, g50, g51, g52, g53, g54, g55, g56, g57, g58, g59, g60, g61, g62, g63, g64, g65, g66, g67, g68, g69, g70, g71, g72, g73, g74, .bool x75, g76, g77, g78, g79, g80, g81, g82, g83, g84, g85, g86, g87, g88, g89, g90, g91, g92, g93, g94, g95, g96, g97, g98, g99, g100, g101] M Q
theorem w10_0 {x0 : Int} {Ax1 : Option Addr} {lx1 cx1 : Nat} {M : Mem} {Q : Value → Mem → Prop} (H :
    Cn Try.prog 23 #[.slice Ax1 lx1 cx1] M fun v1' N1' =>
     ∃ s2', asS v1' = some s2' ∧
     ∃ r3', appendP Try.prog #[22, 22] (.slice s2'.1 (s2'.2.1) (s2'.2.2)) (.slice (some ⟨2 * N1'.nb.size, 0, none⟩) 2 2) (N1'.new (.cells #[.int .i64 77, .int .i64 78] 3)) = some r3' ∧
     ∃ s4', asS r3'.1 = some s4' ∧
     ∃ v5', sliceP Try.prog 22 (.slice s4'.1 (s4'.2.1) (s4'.2.2)) none (some (.int .i64 ((lx1 : Int)))) none = some v5' ∧
     ∃ s6', asS v5' = some s6' ∧
     Cn Try.prog 14 #[.int .i64 x0, .slice s6'.1 s6'.2.1 s6'.2.2] r3'.2 fun v7' N7' =>
      ∃ cs8', asU 2 v7' = some cs8' ∧
      ∃ s9', asS (cs8'.getD 0 undef) = some s9' ∧
      ∃ x10', asI .i64 (cs8'.getD 1 undef) = some x10' ∧
      Cn Try.prog 24 #[.int .i64 x0, .slice Ax1 lx1 cx1] N7' fun v11' N11' =>
       ∃ cs12', asU 2 v11' = some cs12' ∧
       ∃ s13', asS (cs12'.getD 0 undef) = some s13' ∧
       ∃ x14', asI .i64 (cs12'.getD 1 undef) = some x14' ∧
       Cn Try.prog 13 #[.int .i64 x0, .slice s6'.1 s6'.2.1 s6'.2.2] N11' fun v15' N15' =>
        ∃ cs16', asU 2 v15' = some cs16' ∧
        ∃ s17', asS (cs16'.getD 0 undef) = some s17' ∧
        ∃ x18', asI .i64 (cs16'.getD 1 undef) = some x18' ∧
        Cn Try.prog 25 #[.int .i64 x0, .slice Ax1 lx1 cx1] N15' fun v19' N19' =>
         ∃ cs20', asU 2 v19' = some cs20' ∧
         ∃ s21', asS (cs20'.getD 0 undef) = some s21' ∧
         ∃ x22', asI .i64 (cs20'.getD 1 undef) = some x22' ∧
         Cn Try.prog 15 #[.slice s9'.1 s9'.2.1 s9'.2.2, .slice s13'.1 s13'.2.1 s13'.2.2] N19' fun v23' N23' =>
          ∃ b24', asB v23' = some b24' ∧
          (((!b24') = true →
           A10_1 Ax1 lx1 cx1 s6'.1 s6'.2.1 s6'.2.2 s9'.1 s9'.2.1 s9'.2.2 s17'.1 s17'.2.1 s17'.2.2 x18' s21'.1 s21'.2.1 s21'.2.2 x22' true N23' Q) ∧
           ((!b24') = false →
           A10_1 Ax1 lx1 cx1 s6'.1 s6'.2.1 s6'.2.2 s9'.1 s9'.2.1 s9'.2.2 s17'.1 s17'.2.1 s17'.2.2 x18' s21'.1 s21'.2.1 s21'.2.2 x22' (x10' != x14') N23' Q))) :
    Cn Try.prog 10 #[.int .i64 x0, .slice Ax1 lx1 cx1] M Q := by
  refine Cn.of b10 d10 t10 ?_
  refine Rn.seq k10_0 (Rn.region k10_1 (fun call K => r10_0) (Rch.leaf (Rn.seq k10_2 (Rn.region k10_3 (fun call K => r10_1) (Rch.call H fun v1' N1' H => Rch.ex H fun s2' H => Rch.ex H fun r3' H => Rch.ex H fun s4' H => Rch.ex H fun v5' H => Rch.ex H fun s6' H => Rch.leaf ?_)))))
  refine Rn.seq k10_4 (Rn.region k10_5 (fun call K => r10_2) (Rch.call H fun v7' N7' H => Rch.ex H fun cs8' H => Rch.ex H fun s9' H => Rch.ex H fun x10' H => Rch.leaf (Rn.seq k10_6 (Rn.region k10_7 (fun call K => r10_3) (Rch.call H fun v11' N11' H => Rch.ex H fun cs12' H => Rch.ex H fun s13' H => ?_)))))
  refine Rch.ex H fun x14' H => Rch.leaf (Rn.seq k10_8 (Rn.region k10_9 (fun call K => r10_4) (Rch.call H fun v15' N15' H => Rch.ex H fun cs16' H => Rch.ex H fun s17' H => Rch.ex H fun x18' H => Rch.leaf (Rn.seq k10_10 (Rn.region k10_11 (fun call K => r10_5) (Rch.call H fun v19' N19' H => ?_))))))
  refine Rch.ex H fun cs20' H => Rch.ex H fun s21' H => Rch.ex H fun x22' H => Rch.leaf (Rn.seq k10_12 (Rn.seq k10_13 (Rn.regionC k10_15 (Rg.step (d := 10) (j := 10) (fun call K => r10_6p0) rfl rfl (Rch.call H fun v23' N23' H => Rch.ex H fun b24' H => ?_)))))
  refine Rch.cB (fun h => ?_) (fun h => ?_)
  · replace H := H.1 (h)
    refine Rch.rest ?_
    exact H _ _ _ _ _ _ _ _ _ _ _ _ _ _ _ _ _ _ _ _ _ _ _ _ _ _ _ _ _ _ _ _ _ _ _ _ _ _ _ _ _ _ _ _ _ _ _ _ _ _ _ _ _ _ _ _ _ _ _ _ _ _ _ _ _ _ _ _ _ _ _ _ _ _ _ _ _ _ _ _ _ _ _ _ _ _ _ _ _ _ _ _ _ _
  · replace H := H.2 (h)
    refine Rch.rest ?_
    exact H _ _ _ _ _ _ _ _ _ _ _ _ _ _ _ _ _ _ _ _ _ _ _ _ _ _ _ _ _ _ _ _ _ _ _ _ _ _ _ _ _ _ _ _ _ _ _ _ _ _ _ _ _ _ _ _ _ _ _ _ _ _ _ _ _ _ _ _ _ _ _ _ _ _ _ _ _ _ _ _ _ _ _ _ _ _ _ _ _ _ _ _ _ _

theorem w10_1 {Ax1 : Option Addr} {lx1 cx1 : Nat} {Ax5 : Option Addr} {lx5 cx5 : Nat} {Ax6 : Option Addr} {lx6 cx6 : Nat} {Ax10 : Option Addr} {lx10 cx10 : Nat} {x11 : Int} {Ax12 : Option Addr} {lx12 cx12 : Nat} {x13 : Int} {x55 : Bool} {M : Mem} {Q : Value → Mem → Prop} (H :
    ((x55 = true →
     A10_2 Ax1 lx1 cx1 Ax5 lx5 cx5 Ax6 lx6 cx6 Ax10 lx10 cx10 x11 x13 true M Q) ∧
     (x55 = false →
     Cn Try.prog 15 #[.slice Ax10 lx10 cx10, .slice Ax12 lx12 cx12] M fun v25' N25' =>
      ∃ b26', asB v25' = some b26' ∧
      A10_2 Ax1 lx1 cx1 Ax5 lx5 cx5 Ax6 lx6 cx6 Ax10 lx10 cx10 x11 x13 (!b26') N25' Q))) :
    A10_1 Ax1 lx1 cx1 Ax5 lx5 cx5 Ax6 lx6 cx6 Ax10 lx10 cx10 x11 Ax12 lx12 cx12 x13 x55 M Q := by
  intro g0 g2 g3 g4 g7 g8 g9 g14 g15 g16 g17 g18 g19 g20 g21 g22 g23 g24 g25 g26 g27 g28 g29 g30 g31 g32 g33 g34 g35 g36 g37 g38 g39 g40 g41 g42 g43 g44 g45 g46 g47 g48 g49 g50 g51 g52 g53 g54 g56 g57 g58 g59 g60 g61 g62 g63 g64 g65 g66 g67 g68 g69 g70 g71 g72 g73 g74 g75 g76 g77 g78 g79 g80 g81 g82 g83 g84 g85 g86 g87 g88 g89 g90 g91 g92 g93 g94 g95 g96 g97 g98 g99 g100 g101
  refine Rg.step (d := 6) (j := 16) (fun call K => r10_6p10) rfl rfl ?_
  refine Rch.cB (fun h => ?_) (fun h => ?_)
  · replace H := H.1 (h)
    refine Rch.rest ?_
    exact H _ _ _ _ _ _ _ _ _ _ _ _ _ _ _ _ _ _ _ _ _ _ _ _ _ _ _ _ _ _ _ _ _ _ _ _ _ _ _ _ _ _ _ _ _ _ _ _ _ _ _ _ _ _ _ _ _ _ _ _ _ _ _ _ _ _ _ _ _ _ _ _ _ _ _ _ _ _ _ _ _ _ _ _ _ _ _ _ _ _ _ _ _ _ _
  · replace H := H.2 (h)
    refine Rch.call H fun v25' N25' H => Rch.ex H fun b26' H => Rch.rest ?_
    exact H _ _ _ _ _ _ _ _ _ _ _ _ _ _ _ _ _ _ _ _ _ _ _ _ _ _ _ _ _ _ _ _ _ _ _ _ _ _ _ _ _ _ _ _ _ _ _ _ _ _ _ _ _ _ _ _ _ _ _ _ _ _ _ _ _ _ _ _ _ _ _ _ _ _ _ _ _ _ _ _ _ _ _ _ _ _ _ _ _ _ _ _ _ _ _

theorem w10_2 {Ax1 : Option Addr} {lx1 cx1 : Nat} {Ax5 : Option Addr} {lx5 cx5 : Nat} {Ax6 : Option Addr} {lx6 cx6 : Nat} {Ax10 : Option Addr} {lx10 cx10 : Nat} {x11 x13 : Int} {x61 : Bool} {M : Mem} {Q : Value → Mem → Prop} (H :
    ((x61 = true →
     A10_3 Ax1 lx1 cx1 Ax5 lx5 cx5 Ax6 lx6 cx6 Ax10 lx10 cx10 true M Q) ∧
     (x61 = false →
     A10_3 Ax1 lx1 cx1 Ax5 lx5 cx5 Ax6 lx6 cx6 Ax10 lx10 cx10 (x11 != x13) M Q))) :
    A10_2 Ax1 lx1 cx1 Ax5 lx5 cx5 Ax6 lx6 cx6 Ax10 lx10 cx10 x11 x13 x61 M Q := by
  intro g0 g2 g3 g4 g7 g8 g9 g12 g14 g15 g16 g17 g18 g19 g20 g21 g22 g23 g24 g25 g26 g27 g28 g29 g30 g31 g32 g33 g34 g35 g36 g37 g38 g39 g40 g41 g42 g43 g44 g45 g46 g47 g48 g49 g50 g51 g52 g53 g54 g55 g56 g57 g58 g59 g60 g62 g63 g64 g65 g66 g67 g68 g69 g70 g71 g72 g73 g74 g75 g76 g77 g78 g79 g80 g81 g82 g83 g84 g85 g86 g87 g88 g89 g90 g91 g92 g93 g94 g95 g96 g97 g98 g99 g100 g101
  refine Rg.step (d := 4) (j := 20) (fun call K => r10_6p16) rfl rfl ?_
  refine Rch.cB (fun h => ?_) (fun h => ?_)
  · replace H := H.1 (h)
    refine Rch.rest (Rg.done rfl ?_)
    exact H _ _ _ _ _ _ _ _ _ _ _ _ _ _ _ _ _ _ _ _ _ _ _ _ _ _ _ _ _ _ _ _ _ _ _ _ _ _ _ _ _ _ _ _ _ _ _ _ _ _ _ _ _ _ _ _ _ _ _ _ _ _ _ _ _ _ _ _ _ _ _ _ _ _ _ _ _ _ _ _ _ _ _ _ _ _ _ _ _ _ _ _ _ _ _ _ _
  · replace H := H.2 (h)
    refine Rch.rest (Rg.done rfl ?_)
    exact H _ _ _ _ _ _ _ _ _ _ _ _ _ _ _ _ _ _ _ _ _ _ _ _ _ _ _ _ _ _ _ _ _ _ _ _ _ _ _ _ _ _ _ _ _ _ _ _ _ _ _ _ _ _ _ _ _ _ _ _ _ _ _ _ _ _ _ _ _ _ _ _ _ _ _ _ _ _ _ _ _ _ _ _ _ _ _ _ _ _ _ _ _ _ _ _ _

theorem w10_3 {Ax1 : Option Addr} {lx1 cx1 : Nat} {Ax5 : Option Addr} {lx5 cx5 : Nat} {Ax6 : Option Addr} {lx6 cx6 : Nat} {Ax10 : Option Addr} {lx10 cx10 : Nat} {x65 : Bool} {M : Mem} {Q : Value → Mem → Prop} (H :
    ((x65 = true →
     Q (.bool false) M) ∧
     (x65 = false →
     A10_4 Ax1 lx1 cx1 Ax5 lx5 cx5 Ax6 lx6 cx6 Ax10 lx10 cx10 0 M Q))) :
    A10_3 Ax1 lx1 cx1 Ax5 lx5 cx5 Ax6 lx6 cx6 Ax10 lx10 cx10 x65 M Q := by
  intro g0 g2 g3 g4 g7 g8 g9 g11 g12 g13 g14 g15 g16 g17 g18 g19 g20 g21 g22 g23 g24 g25 g26 g27 g28 g29 g30 g31 g32 g33 g34 g35 g36 g37 g38 g39 g40 g41 g42 g43 g44 g45 g46 g47 g48 g49 g50 g51 g52 g53 g54 g55 g56 g57 g58 g59 g60 g61 g62 g63 g64 g66 g67 g68 g69 g70 g71 g72 g73 g74 g75 g76 g77 g78 g79 g80 g81 g82 g83 g84 g85 g86 g87 g88 g89 g90 g91 g92 g93 g94 g95 g96 g97 g98 g99 g100 g101
  refine Rn.cnd (v := x65) ⟨c10_16, rfl, by kernel_rfl⟩ (fun h => ?_) (fun h => ?_)
  · replace H := H.1 (h)
    refine Rn.seq k10_17 (Rn.region k10_18 (fun call K => r10_7) (Rch.leaf ?_))
    exact Rn.ret k10_19 e10 H
  · replace H := H.2 (h)
    refine Rn.skip k10_21 (Rn.seq k10_22 (Rn.seq k10_23 (Rn.region k10_24 (fun call K => r10_8) (Rch.leaf (Rn.block k10_25 (Rn.loop k10_26 ?_))))))
    exact H _ _ _ _ _ _ _ _ _ _ _ _ _ _ _ _ _ _ _ _ _ _ _ _ _ _ _ _ _ _ _ _ _ _ _ _ _ _ _ _ _ _ _ _ _ _ _ _ _ _ _ _ _ _ _ _ _ _ _ _ _ _ _ _ _ _ _ _ _ _ _ _ _ _ _ _ _ _ _ _ _ _ _ _ _ _ _ _ _ _ _ _ _ _ _ _ _

theorem w10_4 {Ax1 : Option Addr} {lx1 cx1 : Nat} {Ax5 : Option Addr} {lx5 cx5 : Nat} {Ax6 : Option Addr} {lx6 cx6 : Nat} {Ax10 : Option Addr} {lx10 cx10 : Nat} {x14 : Int} {M : Mem} {Q : Value → Mem → Prop} (H :
    ((x14 < ((lx6 : Int)) →
     A10_5 Ax1 lx1 cx1 Ax5 lx5 cx5 Ax6 lx6 cx6 Ax10 lx10 cx10 x14 (decide (x14 < ((lx10 : Int)))) M Q) ∧
     (¬ (x14 < ((lx6 : Int))) →
     A10_5 Ax1 lx1 cx1 Ax5 lx5 cx5 Ax6 lx6 cx6 Ax10 lx10 cx10 x14 false M Q))) :
    A10_4 Ax1 lx1 cx1 Ax5 lx5 cx5 Ax6 lx6 cx6 Ax10 lx10 cx10 x14 M Q := by
  intro g0 g2 g3 g4 g7 g8 g9 g11 g12 g13 g15 g16 g17 g18 g19 g20 g21 g22 g23 g24 g25 g26 g27 g28 g29 g30 g31 g32 g33 g34 g35 g36 g37 g38 g39 g40 g41 g42 g43 g44 g45 g46 g47 g48 g49 g50 g51 g52 g53 g54 g55 g56 g57 g58 g59 g60 g61 g62 g63 g64 g65 g66 g67 g68 g69 g70 g71 g72 g73 g74 g75 g76 g77 g78 g79 g80 g81 g82 g83 g84 g85 g86 g87 g88 g89 g90 g91 g92 g93 g94 g95 g96 g97 g98 g99 g100 g101
  refine Rn.seq k10_27 (Rn.seq k10_28 (Rn.region k10_29 (fun call K => r10_9) ?_))
  refine Rch.cB (fun h => ?_) (fun h => ?_)
  · replace H := H.1 (of_decide_eq_true h)
    refine Rch.leaf ?_
    exact H _ _ _ _ _ _ _ _ _ _ _ _ _ _ _ _ _ _ _ _ _ _ _ _ _ _ _ _ _ _ _ _ _ _ _ _ _ _ _ _ _ _ _ _ _ _ _ _ _ _ _ _ _ _ _ _ _ _ _ _ _ _ _ _ _ _ _ _ _ _ _ _ _ _ _ _ _ _ _ _ _ _ _ _ _ _ _ _ _ _ _ _ _ _ _ _
  · replace H := H.2 (of_decide_eq_false h)
    refine Rch.leaf ?_
    exact H _ _ _ _ _ _ _ _ _ _ _ _ _ _ _ _ _ _ _ _ _ _ _ _ _ _ _ _ _ _ _ _ _ _ _ _ _ _ _ _ _ _ _ _ _ _ _ _ _ _ _ _ _ _ _ _ _ _ _ _ _ _ _ _ _ _ _ _ _ _ _ _ _ _ _ _ _ _ _ _ _ _ _ _ _ _ _ _ _ _ _ _ _ _ _ _

theorem w10_5 {Ax1 : Option Addr} {lx1 cx1 : Nat} {Ax5 : Option Addr} {lx5 cx5 : Nat} {Ax6 : Option Addr} {lx6 cx6 : Nat} {Ax10 : Option Addr} {lx10 cx10 : Nat} {x14 : Int} {x75 : Bool} {M : Mem} {Q : Value → Mem → Prop} (H :
    ((x75 = true →
     ∃ a27', idxA Ax6 lx6 1 x14 = some a27' ∧
     ∃ M28', M.put a27'.block a27'.off (.int .i64 (-1)) = some M28' ∧
     ∃ a29', idxA Ax10 lx10 1 x14 = some a29' ∧
     ∃ M30', M28'.put a29'.block a29'.off (.int .i64 (-1)) = some M30' ∧
     A10_4 Ax1 lx1 cx1 Ax5 lx5 cx5 Ax6 lx6 cx6 Ax10 lx10 cx10 (IntKind.i64.wrap (x14 + 1)) M30' Q) ∧
     (x75 = false →
     ∃ r31', appendP Try.prog #[22, 22] (.slice Ax6 lx6 cx6) (.slice (some ⟨2 * M.nb.size, 0, none⟩) 1 1) (M.new (.cells #[.int .i64 5] 3)) = some r31' ∧
     ∃ s32', asS r31'.1 = some s32' ∧
     Cn Try.prog 15 #[.slice Ax5 lx5 cx5, .slice Ax1 lx1 cx1] r31'.2 fun v33' N33' =>
      ∃ b34', asB v33' = some b34' ∧
      ((b34' = true →
       ∃ v35', sliceP Try.prog 22 (.slice Ax5 lx5 cx5) none (some (.int .i64 (IntKind.i64.wrap (((lx1 : Int)) + 2)))) none = some v35' ∧
       ∃ s36', asS v35' = some s36' ∧
       ∃ v37', sliceP Try.prog 22 (.slice s36'.1 (s36'.2.1) (s36'.2.2)) (some (.int .i64 ((lx1 : Int)))) none none = some v37' ∧
       ∃ s38', asS v37' = some s38' ∧
       Cn Try.prog 15 #[.slice s38'.1 (s38'.2.1) (s38'.2.2), .slice (some ⟨2 * N33'.nb.size, 0, none⟩) 2 2] (N33'.new (.cells #[.int .i64 77, .int .i64 78] 3)) fun v39' N39' =>
        ∃ b40', asB v39' = some b40' ∧
        Q (.bool b40') N39') ∧
       (b34' = false →
       Q (.bool false) N33'))))) :
    A10_5 Ax1 lx1 cx1 Ax5 lx5 cx5 Ax6 lx6 cx6 Ax10 lx10 cx10 x14 x75 M Q := by
  intro g0 g2 g3 g4 g7 g8 g9 g11 g12 g13 g15 g16 g17 g18 g19 g20 g21 g22 g23 g24 g25 g26 g27 g28 g29 g30 g31 g32 g33 g34 g35 g36 g37 g38 g39 g40 g41 g42 g43 g44 g45 g46 g47 g48 g49 g50 g51 g52 g53 g54 g55 g56 g57 g58 g59 g60 g61 g62 g63 g64 g65 g66 g67 g68 g69 g70 g71 g72 g73 g74 g76 g77 g78 g79 g80 g81 g82 g83 g84 g85 g86 g87 g88 g89 g90 g91 g92 g93 g94 g95 g96 g97 g98 g99 g100 g101
  refine Rn.cnd (v := x75) ⟨c10_30, rfl, by kernel_rfl⟩ (fun h => ?_) (fun h => ?_)
  · replace H := H.1 (h)
    refine Rn.skip k10_31 (Rn.seq k10_32 (Rn.block k10_33 (Rn.seq k10_34 (Rn.region k10_35 (fun call K => r10_11) (Rch.ex H fun a27' H => Rch.ex H fun M28' H => Rch.leaf (Rn.region k10_36 (fun call K => r10_12) (Rch.ex H fun a29' H => Rch.ex H fun M30' H => Rch.leaf ?_)))))))
    refine Rn.blk (Rn.region k10_37 (fun call K => r10_10) (Rch.leaf (Rn.lp ?_)))
    exact H _ _ _ _ _ _ _ _ _ _ _ _ _ _ _ _ _ _ _ _ _ _ _ _ _ _ _ _ _ _ _ _ _ _ _ _ _ _ _ _ _ _ _ _ _ _ _ _ _ _ _ _ _ _ _ _ _ _ _ _ _ _ _ _ _ _ _ _ _ _ _ _ _ _ _ _ _ _ _ _ _ _ _ _ _ _ _ _ _ _ _ _ _ _ _ _ _
  · replace H := H.2 (h)
    refine Rn.exit k10_38 rfl (Rn.seq k10_39 (Rn.region k10_40 (fun call K => r10_13) (Rch.ex H fun r31' H => Rch.ex H fun s32' H => Rch.leaf (Rn.seq k10_41 (Rn.region k10_42 (fun call K => r10_14) (Rch.call H fun v33' N33' H => Rch.ex H fun b34' H => ?_))))))
    refine Rch.cB (fun h => ?_) (fun h => ?_)
    · replace H := H.1 (h)
      refine Rch.ex H fun v35' H => Rch.ex H fun s36' H => Rch.ex H fun v37' H => Rch.ex H fun s38' H => Rch.call H fun v39' N39' H => Rch.ex H fun b40' H => Rch.leaf ?_
      exact Rn.ret k10_43 e10 H
    · replace H := H.2 (h)
      refine Rch.leaf ?_
      exact Rn.ret k10_43 e10 H


end Go.Zt
