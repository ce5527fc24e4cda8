/- The functions' walks: for each function and each loop a rule of what it comes to. Printed by zw.py. -/
import Derived.Test.YtfaecnhaponcdaaProg
import Derived.Test.YtfaecnhaponcdaaZfA
set_option linter.unusedVariables false
set_option maxRecDepth 100000
namespace Go.Zt
open Go Go.Sim Go.Proofs

variable {g0 g1 g2 g3 g4 g5 g6 g7 g8 g9 g10 g11 g12 g13 g14 g15 g16 g17 g18 g19 g20 g21 g22 g23 g24 g25 g26 g27 g28 g29 g30 g31 g32 g33 g34 g35 g36 g37 g38 g39 g40 g41 g42 g43 g44 g45 g46 g47 g48 g49 g50 g51 g52 g53 g54 g55 g56 g57 g58 g59 g60 g61 g62 g63 g64 g65 g66 g67 g68 g69 g70 g71 g72 g73 g74 g75 g76 g77 g78 g79 g80 g81 g82 g83 g84 g85 g86 g87 g88 g89 g90 g91 g92 g93 g94 g95 g96 g97 g98 g99 g100 g101 g102 g103 g104 g105 g106 g107 g108 : Value}
/-! ### zoetrope/zoetroperef07.Inverse: function 24 -/
noncomputable abbrev P24 (p : List Nat) : Code := subC (codeOf Try.f24) p
noncomputable abbrev O24 (p : List Nat) : Array Oper := opsOf (subC (codeOf Try.f24) p)
theorem b24 : Try.prog.funcs[24]? = some Try.f24 ∧ (Orc.tab Try.prog).lookup 24 = none := ⟨by kernel_rfl, by kernel_rfl⟩
theorem d24 : Try.f24.body = some (P24 []) := by kernel_rfl
theorem t24 {x0 : Int} {Ax1 : Option Addr} {lx1 cx1 : Nat} : #[.int .i64 x0,.slice Ax1 lx1 cx1] ++ Array.replicate (Try.f24.ntmps - (#[.int .i64 x0,.slice Ax1 lx1 cx1] : Array Value).size) undef = #[.int .i64 x0,.slice Ax1 lx1 cx1,undef,undef,undef,undef,undef,undef,undef,undef,undef,undef,undef,undef,undef,undef] := by kernel_rfl
theorem k24_0 : P24 [] = .seq (P24 [0]) (P24 [1]) := by kernel_rfl
theorem k24_1 : P24 [0] = .region 0 (O24 [0]) false := by kernel_rfl
theorem r24_0 {M : Mem} {call : CallM} {K : Array Value → Mem → R} :
    opsK Try.prog (fun _ => call) (O24 [0]) (O24 [0]).toList 0 #[g0,g1,g2,g3,g4,g5,g6,g7,g8,g9,g10,g11,g12,g13,g14,g15] M K = K #[g0,g1,g2,g3,.slice none 0 0,.int .i64 0,g6,g7,g8,g9,g10,g11,g12,g13,g14,g15] M := by kernel_rfl
theorem k24_2 : P24 [1] = .seq (P24 [1,0]) (P24 [1,1]) := by kernel_rfl
theorem k24_3 : P24 [1,0] = .seq (P24 [1,0,0]) (P24 [1,0,1]) := by kernel_rfl
theorem k24_4 : P24 [1,0,0] = .region 1 (O24 [1,0,0]) false := by kernel_rfl
theorem r24_1 {x0 : Int} {Ax1 : Option Addr} {lx1 cx1 : Nat} {M : Mem} {call : CallM} {K : Array Value → Mem → R} :
    opsK Try.prog (fun _ => call) (O24 [1,0,0]) (O24 [1,0,0]).toList 0 #[.int .i64 x0,.slice Ax1 lx1 cx1,g2,g3,g4,g5,g6,g7,g8,g9,g10,g11,g12,g13,g14,g15] M K = (call 32 #[.int .i64 x0, .slice Ax1 lx1 cx1] M).bind fun r_1 => (asB r_1.1).bind fun b_2 => K #[.int .i64 x0,.slice Ax1 lx1 cx1,g2,g3,g4,g5,.int .i64 x0,.slice Ax1 lx1 cx1,.bool b_2,.bool (!b_2),g10,g11,g12,g13,g14,g15] r_1.2 := by kernel_rfl
theorem c24_5 : P24 [1,0,1] = .cond (.tmp 9) (P24 [1,0,1,0]) (P24 [1,0,1,1]) := by kernel_rfl
theorem k24_6 : P24 [1,0,1,0] = .seq (P24 [1,0,1,0,0]) (P24 [1,0,1,0,1]) := by kernel_rfl
theorem k24_7 : P24 [1,0,1,0,0] = .region 2 (O24 [1,0,1,0,0]) false := by kernel_rfl
theorem r24_2 {M : Mem} {call : CallM} {K : Array Value → Mem → R} :
    opsK Try.prog (fun _ => call) (O24 [1,0,1,0,0]) (O24 [1,0,1,0,0]).toList 0 #[g0,g1,g2,g3,g4,g5,g6,g7,g8,g9,g10,g11,g12,g13,g14,g15] M K = K #[g0,g1,g2,g3,.slice none 0 0,.int .i64 2,g6,g7,g8,g9,g10,g11,g12,g13,g14,g15] M := by kernel_rfl
theorem k24_8 : P24 [1,0,1,0,1] = .ret := by kernel_rfl
theorem e24 {M : Mem} : finish Try.prog Try.f24 #[g0,g1,g2,g3,g4,g5,g6,g7,g8,g9,g10,g11,g12,g13,g14,g15] M = some (.tuple #[g4, g5], M) := by kernel_rfl
theorem k24_10 : P24 [1,0,1,1] = .skip := by kernel_rfl
theorem k24_11 : P24 [1,1] = .seq (P24 [1,1,0]) (P24 [1,1,1]) := by kernel_rfl
theorem k24_12 : P24 [1,1,0] = .region 3 (O24 [1,1,0]) false := by kernel_rfl
theorem r24_3 {x0 : Int} {Ax1 : Option Addr} {lx1 cx1 : Nat} {M : Mem} {call : CallM} {K : Array Value → Mem → R} :
    opsK Try.prog (fun _ => call) (O24 [1,1,0]) (O24 [1,1,0]).toList 0 #[.int .i64 x0,.slice Ax1 lx1 cx1,g2,g3,g4,g5,g6,g7,g8,g9,g10,g11,g12,g13,g14,g15] M K = (call 34 #[.int .i64 x0, .int .i64 ((lx1 : Int))] M).bind fun r_1 => (asS r_1.1).bind fun s_2 => (call 33 #[.slice s_2.1 (s_2.2.1) (s_2.2.2), .slice Ax1 lx1 cx1] r_1.2).bind fun r_3 => (asS r_3.1).bind fun s_4 => K #[.int .i64 x0,.slice Ax1 lx1 cx1,g2,g3,.slice s_4.1 (s_4.2.1) (s_4.2.2),.int .i64 0,g6,g7,g8,g9,.int .i64 x0,.slice Ax1 lx1 cx1,.int .i64 ((lx1 : Int)),.slice s_2.1 (s_2.2.1) (s_2.2.2),.slice Ax1 lx1 cx1,.slice s_4.1 (s_4.2.1) (s_4.2.2)] r_3.2 := by kernel_rfl
theorem k24_13 : P24 [1,1,1] = .ret := by kernel_rfl
theorem w24_0 {x0 : Int} {Ax1 : Option Addr} {lx1 cx1 : Nat} {M : Mem} {Q : Value → Mem → Prop} (H :
    Cn Try.prog 32 #[.int .i64 x0, .slice Ax1 lx1 cx1] M fun v1' N1' =>
     ∃ b2', asB v1' = some b2' ∧
     (((!b2') = true →
      Q (.tuple #[.slice none 0 0, .int .i64 2]) N1') ∧
      ((!b2') = false →
      Cn Try.prog 34 #[.int .i64 x0, .int .i64 ((lx1 : Int))] N1' fun v3' N3' =>
       ∃ s4', asS v3' = some s4' ∧
       Cn Try.prog 33 #[.slice s4'.1 (s4'.2.1) (s4'.2.2), .slice Ax1 lx1 cx1] N3' fun v5' N5' =>
        ∃ s6', asS v5' = some s6' ∧
        Q (.tuple #[.slice s6'.1 (s6'.2.1) (s6'.2.2), .int .i64 0]) N5'))) :
    Cn Try.prog 24 #[.int .i64 x0, .slice Ax1 lx1 cx1] M Q := by
  refine Cn.of b24 d24 t24 ?_
  refine Rn.seq k24_0 (Rn.region k24_1 (fun call K => r24_0) (Rch.leaf (Rn.seq k24_2 (Rn.seq k24_3 (Rn.region k24_4 (fun call K => r24_1) (Rch.call H fun v1' N1' H => Rch.ex H fun b2' H => Rch.leaf ?_))))))
  refine Rn.cnd (v := !b2') ⟨c24_5, rfl, by kernel_rfl⟩ (fun h => ?_) (fun h => ?_)
  · replace H := H.1 (h)
    refine Rn.seq k24_6 (Rn.region k24_7 (fun call K => r24_2) (Rch.leaf ?_))
    exact Rn.ret k24_8 e24 H
  · replace H := H.2 (h)
    refine Rn.skip k24_10 (Rn.seq k24_11 (Rn.region k24_12 (fun call K => r24_3) (Rch.call H fun v3' N3' H => Rch.ex H fun s4' H => Rch.call H fun v5' N5' H => Rch.ex H fun s6' H => Rch.leaf ?_)))
    exact Rn.ret k24_13 e24 H


/-! ### zoetrope/zoetroperef07.Forward: function 25 -/
noncomputable abbrev P25 (p : List Nat) : Code := subC (codeOf Try.f25) p
noncomputable abbrev O25 (p : List Nat) : Array Oper := opsOf (subC (codeOf Try.f25) p)
theorem b25 : Try.prog.funcs[25]? = some Try.f25 ∧ (Orc.tab Try.prog).lookup 25 = none := ⟨by kernel_rfl, by kernel_rfl⟩
theorem d25 : Try.f25.body = some (P25 []) := by kernel_rfl
theorem t25 {x0 : Int} {Ax1 : Option Addr} {lx1 cx1 : Nat} : #[.int .i64 x0,.slice Ax1 lx1 cx1] ++ Array.replicate (Try.f25.ntmps - (#[.int .i64 x0,.slice Ax1 lx1 cx1] : Array Value).size) undef = #[.int .i64 x0,.slice Ax1 lx1 cx1,undef,undef,undef,undef,undef,undef,undef,undef,undef,undef,undef,undef,undef,undef] := by kernel_rfl
theorem k25_0 : P25 [] = .seq (P25 [0]) (P25 [1]) := by kernel_rfl
theorem k25_1 : P25 [0] = .region 0 (O25 [0]) false := by kernel_rfl
theorem r25_0 {M : Mem} {call : CallM} {K : Array Value → Mem → R} :
    opsK Try.prog (fun _ => call) (O25 [0]) (O25 [0]).toList 0 #[g0,g1,g2,g3,g4,g5,g6,g7,g8,g9,g10,g11,g12,g13,g14,g15] M K = K #[g0,g1,g2,g3,.slice none 0 0,.int .i64 0,g6,g7,g8,g9,g10,g11,g12,g13,g14,g15] M := by kernel_rfl
theorem k25_2 : P25 [1] = .seq (P25 [1,0]) (P25 [1,1]) := by kernel_rfl
theorem k25_3 : P25 [1,0] = .seq (P25 [1,0,0]) (P25 [1,0,1]) := by kernel_rfl
theorem k25_4 : P25 [1,0,0] = .region 1 (O25 [1,0,0]) false := by kernel_rfl
theorem r25_1 {x0 : Int} {Ax1 : Option Addr} {lx1 cx1 : Nat} {M : Mem} {call : CallM} {K : Array Value → Mem → R} :
    opsK Try.prog (fun _ => call) (O25 [1,0,0]) (O25 [1,0,0]).toList 0 #[.int .i64 x0,.slice Ax1 lx1 cx1,g2,g3,g4,g5,g6,g7,g8,g9,g10,g11,g12,g13,g14,g15] M K = (call 32 #[.int .i64 x0, .slice Ax1 lx1 cx1] M).bind fun r_1 => (asB r_1.1).bind fun b_2 => K #[.int .i64 x0,.slice Ax1 lx1 cx1,g2,g3,g4,g5,.int .i64 x0,.slice Ax1 lx1 cx1,.bool b_2,.bool (!b_2),g10,g11,g12,g13,g14,g15] r_1.2 := by kernel_rfl
theorem c25_5 : P25 [1,0,1] = .cond (.tmp 9) (P25 [1,0,1,0]) (P25 [1,0,1,1]) := by kernel_rfl
theorem k25_6 : P25 [1,0,1,0] = .seq (P25 [1,0,1,0,0]) (P25 [1,0,1,0,1]) := by kernel_rfl
theorem k25_7 : P25 [1,0,1,0,0] = .region 2 (O25 [1,0,1,0,0]) false := by kernel_rfl
theorem r25_2 {M : Mem} {call : CallM} {K : Array Value → Mem → R} :
    opsK Try.prog (fun _ => call) (O25 [1,0,1,0,0]) (O25 [1,0,1,0,0]).toList 0 #[g0,g1,g2,g3,g4,g5,g6,g7,g8,g9,g10,g11,g12,g13,g14,g15] M K = K #[g0,g1,g2,g3,.slice none 0 0,.int .i64 2,g6,g7,g8,g9,g10,g11,g12,g13,g14,g15] M := by kernel_rfl
theorem k25_8 : P25 [1,0,1,0,1] = .ret := by kernel_rfl
theorem e25 {M : Mem} : finish Try.prog Try.f25 #[g0,g1,g2,g3,g4,g5,g6,g7,g8,g9,g10,g11,g12,g13,g14,g15] M = some (.tuple #[g4, g5], M) := by kernel_rfl
theorem k25_10 : P25 [1,0,1,1] = .skip := by kernel_rfl
theorem k25_11 : P25 [1,1] = .seq (P25 [1,1,0]) (P25 [1,1,1]) := by kernel_rfl
theorem k25_12 : P25 [1,1,0] = .region 3 (O25 [1,1,0]) false := by kernel_rfl
theorem r25_3 {x0 : Int} {Ax1 : Option Addr} {lx1 cx1 : Nat} {M : Mem} {call : CallM} {K : Array Value → Mem → R} :
    opsK Try.prog (fun _ => call) (O25 [1,1,0]) (O25 [1,1,0]).toList 0 #[.int .i64 x0,.slice Ax1 lx1 cx1,g2,g3,g4,g5,g6,g7,g8,g9,g10,g11,g12,g13,g14,g15] M K = (call 34 #[.int .i64 x0, .int .i64 ((lx1 : Int))] M).bind fun r_1 => (asS r_1.1).bind fun s_2 => (call 35 #[.slice s_2.1 (s_2.2.1) (s_2.2.2), .slice Ax1 lx1 cx1] r_1.2).bind fun r_3 => (asS r_3.1).bind fun s_4 => K #[.int .i64 x0,.slice Ax1 lx1 cx1,g2,g3,.slice s_4.1 (s_4.2.1) (s_4.2.2),.int .i64 0,g6,g7,g8,g9,.int .i64 x0,.slice Ax1 lx1 cx1,.int .i64 ((lx1 : Int)),.slice s_2.1 (s_2.2.1) (s_2.2.2),.slice Ax1 lx1 cx1,.slice s_4.1 (s_4.2.1) (s_4.2.2)] r_3.2 := by kernel_rfl
theorem k25_13 : P25 [1,1,1] = .ret := by kernel_rfl
theorem w25_0 {x0 : Int} {Ax1 : Option Addr} {lx1 cx1 : Nat} {M : Mem} {Q : Value → Mem → Prop} (H :
    Cn Try.prog 32 #[.int .i64 x0, .slice Ax1 lx1 cx1] M fun v1' N1' =>
     ∃ b2', asB v1' = some b2' ∧
     (((!b2') = true →
      Q (.tuple #[.slice none 0 0, .int .i64 2]) N1') ∧
      ((!b2') = false →
      Cn Try.prog 34 #[.int .i64 x0, .int .i64 ((lx1 : Int))] N1' fun v3' N3' =>
       ∃ s4', asS v3' = some s4' ∧
       Cn Try.prog 35 #[.slice s4'.1 (s4'.2.1) (s4'.2.2), .slice Ax1 lx1 cx1] N3' fun v5' N5' =>
        ∃ s6', asS v5' = some s6' ∧
        Q (.tuple #[.slice s6'.1 (s6'.2.1) (s6'.2.2), .int .i64 0]) N5'))) :
    Cn Try.prog 25 #[.int .i64 x0, .slice Ax1 lx1 cx1] M Q := by
  refine Cn.of b25 d25 t25 ?_
  refine Rn.seq k25_0 (Rn.region k25_1 (fun call K => r25_0) (Rch.leaf (Rn.seq k25_2 (Rn.seq k25_3 (Rn.region k25_4 (fun call K => r25_1) (Rch.call H fun v1' N1' H => Rch.ex H fun b2' H => Rch.leaf ?_))))))
  refine Rn.cnd (v := !b2') ⟨c25_5, rfl, by kernel_rfl⟩ (fun h => ?_) (fun h => ?_)
  · replace H := H.1 (h)
    refine Rn.seq k25_6 (Rn.region k25_7 (fun call K => r25_2) (Rch.leaf ?_))
    exact Rn.ret k25_8 e25 H
  · replace H := H.2 (h)
    refine Rn.skip k25_10 (Rn.seq k25_11 (Rn.region k25_12 (fun call K => r25_3) (Rch.call H fun v3' N3' H => Rch.ex H fun s4' H => Rch.call H fun v5' N5' H => Rch.ex H fun s6' H => Rch.leaf ?_)))
    exact Rn.ret k25_13 e25 H


/-! ### zoetrope/zoetroperef07.May: function 32 -/
noncomputable abbrev P32 (p : List Nat) : Code := subC (codeOf Try.f32) p
noncomputable abbrev O32 (p : List Nat) : Array Oper := opsOf (subC (codeOf Try.f32) p)
theorem b32 : Try.prog.funcs[32]? = some Try.f32 ∧ (Orc.tab Try.prog).lookup 32 = none := ⟨by kernel_rfl, by kernel_rfl⟩
theorem d32 : Try.f32.body = some (P32 []) := by kernel_rfl
theorem t32 {x0 : Int} {Ax1 : Option Addr} {lx1 cx1 : Nat} : #[.int .i64 x0,.slice Ax1 lx1 cx1] ++ Array.replicate (Try.f32.ntmps - (#[.int .i64 x0,.slice Ax1 lx1 cx1] : Array Value).size) undef = #[.int .i64 x0,.slice Ax1 lx1 cx1,undef,undef,undef,undef,undef,undef,undef,undef,undef,undef,undef,undef,undef,undef,undef,undef,undef,undef,undef,undef,undef,undef,undef,undef,undef,undef,undef] := by kernel_rfl
theorem k32_0 : P32 [] = .seq (P32 [0]) (P32 [1]) := by kernel_rfl
theorem k32_1 : P32 [0] = .region 0 (O32 [0]) false := by kernel_rfl
theorem r32_0 {M : Mem} {call : CallM} {K : Array Value → Mem → R} :
    opsK Try.prog (fun _ => call) (O32 [0]) (O32 [0]).toList 0 #[g0,g1,g2,g3,g4,g5,g6,g7,g8,g9,g10,g11,g12,g13,g14,g15,g16,g17,g18,g19,g20,g21,g22,g23,g24,g25,g26,g27,g28] M K = K #[g0,g1,g2,g3,.bool false,g5,g6,g7,g8,g9,g10,g11,g12,g13,g14,g15,g16,g17,g18,g19,g20,g21,g22,g23,g24,g25,g26,g27,g28] M := by kernel_rfl
theorem k32_2 : P32 [1] = .seq (P32 [1,0]) (P32 [1,1]) := by kernel_rfl
theorem k32_3 : P32 [1,0] = .seq (P32 [1,0,0]) (P32 [1,0,1]) := by kernel_rfl
theorem k32_4 : P32 [1,0,0] = .region 1 (O32 [1,0,0]) false := by kernel_rfl
theorem r32_1 {x0 : Int} {Ax1 : Option Addr} {lx1 cx1 : Nat} {M : Mem} {call : CallM} {K : Array Value → Mem → R} :
    opsK Try.prog (fun _ => call) (O32 [1,0,0]) (O32 [1,0,0]).toList 0 #[.int .i64 x0,.slice Ax1 lx1 cx1,g2,g3,g4,g5,g6,g7,g8,g9,g10,g11,g12,g13,g14,g15,g16,g17,g18,g19,g20,g21,g22,g23,g24,g25,g26,g27,g28] M K = (call 39 #[.int .i64 x0, .int .i64 ((lx1 : Int))] M).bind fun r_1 => (asB r_1.1).bind fun b_2 => K #[.int .i64 x0,.slice Ax1 lx1 cx1,g2,g3,g4,g5,.int .i64 x0,.slice Ax1 lx1 cx1,.int .i64 ((lx1 : Int)),.bool b_2,.bool (!b_2),g11,g12,g13,g14,g15,g16,g17,g18,g19,g20,g21,g22,g23,g24,g25,g26,g27,g28] r_1.2 := by kernel_rfl
theorem c32_5 : P32 [1,0,1] = .cond (.tmp 10) (P32 [1,0,1,0]) (P32 [1,0,1,1]) := by kernel_rfl
theorem k32_6 : P32 [1,0,1,0] = .seq (P32 [1,0,1,0,0]) (P32 [1,0,1,0,1]) := by kernel_rfl
theorem k32_7 : P32 [1,0,1,0,0] = .region 2 (O32 [1,0,1,0,0]) false := by kernel_rfl
theorem r32_2 {M : Mem} {call : CallM} {K : Array Value → Mem → R} :
    opsK Try.prog (fun _ => call) (O32 [1,0,1,0,0]) (O32 [1,0,1,0,0]).toList 0 #[g0,g1,g2,g3,g4,g5,g6,g7,g8,g9,g10,g11,g12,g13,g14,g15,g16,g17,g18,g19,g20,g21,g22,g23,g24,g25,g26,g27,g28] M K = K #[g0,g1,g2,g3,.bool false,g5,g6,g7,g8,g9,g10,g11,g12,g13,g14,g15,g16,g17,g18,g19,g20,g21,g22,g23,g24,g25,g26,g27,g28] M := by kernel_rfl
theorem k32_8 : P32 [1,0,1,0,1] = .ret := by kernel_rfl
theorem e32 {M : Mem} : finish Try.prog Try.f32 #[g0,g1,g2,g3,g4,g5,g6,g7,g8,g9,g10,g11,g12,g13,g14,g15,g16,g17,g18,g19,g20,g21,g22,g23,g24,g25,g26,g27,g28] M = some (g4, M) := by kernel_rfl
theorem k32_10 : P32 [1,0,1,1] = .skip := by kernel_rfl
theorem k32_11 : P32 [1,1] = .seq (P32 [1,1,0]) (P32 [1,1,1]) := by kernel_rfl
theorem k32_12 : P32 [1,1,0] = .seq (P32 [1,1,0,0]) (P32 [1,1,0,1]) := by kernel_rfl
theorem k32_13 : P32 [1,1,0,0] = .region 3 (O32 [1,1,0,0]) false := by kernel_rfl
theorem r32_3 {M : Mem} {call : CallM} {K : Array Value → Mem → R} :
    opsK Try.prog (fun _ => call) (O32 [1,1,0,0]) (O32 [1,1,0,0]).toList 0 #[g0,g1,g2,g3,g4,g5,g6,g7,g8,g9,g10,g11,g12,g13,g14,g15,g16,g17,g18,g19,g20,g21,g22,g23,g24,g25,g26,g27,g28] M K = K #[g0,g1,g2,g3,g4,.int .i64 0,g6,g7,g8,g9,g10,g11,g12,g13,g14,g15,g16,g17,g18,g19,g20,g21,g22,g23,g24,g25,g26,g27,g28] M := by kernel_rfl
theorem k32_14 : P32 [1,1,0,1] = .block 0 (P32 [1,1,0,1,0]) := by kernel_rfl
theorem k32_15 : P32 [1,1,0,1,0] = .loop (P32 [1,1,0,1,0,0]) := by kernel_rfl
theorem k32_16 : P32 [1,1,0,1,0,0] = .seq (P32 [1,1,0,1,0,0,0]) (P32 [1,1,0,1,0,0,1]) := by kernel_rfl
theorem k32_17 : P32 [1,1,0,1,0,0,0] = .seq (P32 [1,1,0,1,0,0,0,0]) (P32 [1,1,0,1,0,0,0,1]) := by kernel_rfl
theorem k32_18 : P32 [1,1,0,1,0,0,0,0] = .region 4 (O32 [1,1,0,1,0,0,0,0]) false := by kernel_rfl
theorem r32_4 {Ax1 : Option Addr} {lx1 cx1 : Nat} {x5 : Int} {M : Mem} {call : CallM} {K : Array Value → Mem → R} :
    opsK Try.prog (fun _ => call) (O32 [1,1,0,1,0,0,0,0]) (O32 [1,1,0,1,0,0,0,0]).toList 0 #[g0,.slice Ax1 lx1 cx1,g2,g3,g4,.int .i64 x5,g6,g7,g8,g9,g10,g11,g12,g13,g14,g15,g16,g17,g18,g19,g20,g21,g22,g23,g24,g25,g26,g27,g28] M K = K #[g0,.slice Ax1 lx1 cx1,g2,g3,g4,.int .i64 x5,g6,g7,g8,g9,g10,.int .i64 x5,.slice Ax1 lx1 cx1,.int .i64 ((lx1 : Int)),.bool (decide (x5 < ((lx1 : Int)))),g15,g16,g17,g18,g19,g20,g21,g22,g23,g24,g25,g26,g27,g28] M := by kernel_rfl
theorem c32_19 : P32 [1,1,0,1,0,0,0,1] = .cond (.tmp 14) (P32 [1,1,0,1,0,0,0,1,0]) (P32 [1,1,0,1,0,0,0,1,1]) := by kernel_rfl
theorem k32_20 : P32 [1,1,0,1,0,0,0,1,0] = .skip := by kernel_rfl
theorem k32_21 : P32 [1,1,0,1,0,0,1] = .seq (P32 [1,1,0,1,0,0,1,0]) (P32 [1,1,0,1,0,0,1,1]) := by kernel_rfl
theorem k32_22 : P32 [1,1,0,1,0,0,1,0] = .block 1 (P32 [1,1,0,1,0,0,1,0,0]) := by kernel_rfl
theorem k32_23 : P32 [1,1,0,1,0,0,1,0,0] = .seq (P32 [1,1,0,1,0,0,1,0,0,0]) (P32 [1,1,0,1,0,0,1,0,0,1]) := by kernel_rfl
theorem k32_24 : P32 [1,1,0,1,0,0,1,0,0,0] = .region 6 (O32 [1,1,0,1,0,0,1,0,0,0]) false := by kernel_rfl
theorem r32_6 {Ax1 : Option Addr} {lx1 cx1 : Nat} {x5 : Int} {M : Mem} {call : CallM} {K : Array Value → Mem → R} :
    opsK Try.prog (fun _ => call) (O32 [1,1,0,1,0,0,1,0,0,0]) (O32 [1,1,0,1,0,0,1,0,0,0]).toList 0 #[g0,.slice Ax1 lx1 cx1,g2,g3,g4,.int .i64 x5,g6,g7,g8,g9,g10,g11,g12,g13,g14,g15,g16,g17,g18,g19,g20,g21,g22,g23,g24,g25,g26,g27,g28] M K = withK (fun w19 w20 w21 w22 w23 w24 w25 w26 w27 w28 M => K #[g0,.slice Ax1 lx1 cx1,g2,g3,g4,.int .i64 x5,g6,g7,g8,g9,g10,g11,g12,g13,g14,g15,g16,.slice Ax1 lx1 cx1,.int .i64 x5,w19,w20,w21,w22,w23,w24,w25,w26,w27,w28] M) fun k => (idxA Ax1 lx1 1 x5).bind fun a_1 => (M.intAt .i64 a_1.block a_1.off).bind fun x_2 => cond (decide (x_2 < (-1048576))) (k (.pointer (some a_1)) (.int .i64 x_2) (.bool (decide (x_2 < (-1048576)))) (.bool true) undef undef undef undef undef (.bool true) M) ((idxA Ax1 lx1 1 x5).bind fun a_3 => (M.intAt .i64 a_3.block a_3.off).bind fun x_4 => k (.pointer (some a_1)) (.int .i64 x_2) (.bool (decide (x_2 < (-1048576)))) (.bool false) (.slice Ax1 lx1 cx1) (.int .i64 x5) (.pointer (some a_3)) (.int .i64 x_4) (.bool (decide (x_4 > 1048576))) (.bool (decide (x_4 > 1048576))) M) := by kernel_rfl
theorem k32_25 : P32 [1,1,0,1,0,0,0,1,1] = .exit 0 := by kernel_rfl
theorem k32_26 : P32 [1,1,1] = .seq (P32 [1,1,1,0]) (P32 [1,1,1,1]) := by kernel_rfl
theorem k32_27 : P32 [1,1,1,0] = .region 8 (O32 [1,1,1,0]) false := by kernel_rfl
theorem r32_8 {M : Mem} {call : CallM} {K : Array Value → Mem → R} :
    opsK Try.prog (fun _ => call) (O32 [1,1,1,0]) (O32 [1,1,1,0]).toList 0 #[g0,g1,g2,g3,g4,g5,g6,g7,g8,g9,g10,g11,g12,g13,g14,g15,g16,g17,g18,g19,g20,g21,g22,g23,g24,g25,g26,g27,g28] M K = K #[g0,g1,g2,g3,.bool true,g5,g6,g7,g8,g9,g10,g11,g12,g13,g14,g15,g16,g17,g18,g19,g20,g21,g22,g23,g24,g25,g26,g27,g28] M := by kernel_rfl
theorem k32_28 : P32 [1,1,1,1] = .ret := by kernel_rfl
theorem c32_29 : P32 [1,1,0,1,0,0,1,0,0,1] = .cond (.tmp 28) (P32 [1,1,0,1,0,0,1,0,0,1,0]) (P32 [1,1,0,1,0,0,1,0,0,1,1]) := by kernel_rfl
theorem k32_30 : P32 [1,1,0,1,0,0,1,0,0,1,0] = .seq (P32 [1,1,0,1,0,0,1,0,0,1,0,0]) (P32 [1,1,0,1,0,0,1,0,0,1,0,1]) := by kernel_rfl
theorem k32_31 : P32 [1,1,0,1,0,0,1,0,0,1,0,0] = .region 7 (O32 [1,1,0,1,0,0,1,0,0,1,0,0]) false := by kernel_rfl
theorem r32_7 {M : Mem} {call : CallM} {K : Array Value → Mem → R} :
    opsK Try.prog (fun _ => call) (O32 [1,1,0,1,0,0,1,0,0,1,0,0]) (O32 [1,1,0,1,0,0,1,0,0,1,0,0]).toList 0 #[g0,g1,g2,g3,g4,g5,g6,g7,g8,g9,g10,g11,g12,g13,g14,g15,g16,g17,g18,g19,g20,g21,g22,g23,g24,g25,g26,g27,g28] M K = K #[g0,g1,g2,g3,.bool false,g5,g6,g7,g8,g9,g10,g11,g12,g13,g14,g15,g16,g17,g18,g19,g20,g21,g22,g23,g24,g25,g26,g27,g28] M := by kernel_rfl
theorem k32_32 : P32 [1,1,0,1,0,0,1,0,0,1,0,1] = .ret := by kernel_rfl
theorem k32_33 : P32 [1,1,0,1,0,0,1,0,0,1,1] = .skip := by kernel_rfl
theorem k32_34 : P32 [1,1,0,1,0,0,1,1] = .region 5 (O32 [1,1,0,1,0,0,1,1]) false := by kernel_rfl
theorem r32_5 {x5 : Int} {M : Mem} {call : CallM} {K : Array Value → Mem → R} :
    opsK Try.prog (fun _ => call) (O32 [1,1,0,1,0,0,1,1]) (O32 [1,1,0,1,0,0,1,1]).toList 0 #[g0,g1,g2,g3,g4,.int .i64 x5,g6,g7,g8,g9,g10,g11,g12,g13,g14,g15,g16,g17,g18,g19,g20,g21,g22,g23,g24,g25,g26,g27,g28] M K = K #[g0,g1,g2,g3,g4,.int .i64 (IntKind.i64.wrap (x5 + 1)),g6,g7,g8,g9,g10,g11,g12,g13,g14,.int .i64 x5,.int .i64 (IntKind.i64.wrap (x5 + 1)),g17,g18,g19,g20,g21,g22,g23,g24,g25,g26,g27,g28] M := by kernel_rfl
noncomputable def S32_1 : List Item := [.code (P32 [1,1,0,1,0,0]), .inLoop (P32 [1,1,0,1,0,0]), .inBlock 0, .code (P32 [1,1,1])]
def A32_1 (Ax1 : Option Addr) (lx1 cx1 : Nat) (x5 : Int) (M : Mem) (Q : Value → Mem → Prop) : Prop := ∀ (g0 g2 g3 g4 g6 g7 g8 g9 g10 g11 g12 g13 g14 g15 g16 g17 g18 g19 g20 g21 g22 g23 g24 g25 g26 g27 g28 : Value), Rn Try.prog Try.f32 S32_1 #[g0, .slice Ax1 lx1 cx1, g2, g3, g4, .int .i64 x5, g6, g7, g8, g9, g10, g11, g12, g13, g14, g15, g16, g17, g18, g19, g20, g21, g22, g23, g24, g25, g26, g27, g28] M Q
noncomputable def S32_2 : List Item := [.code (P32 [1,1,0,1,0,0,1,0,0,1]), .inBlock 1, .code (P32 [1,1,0,1,0,0,1,1]), .inLoop (P32 [1,1,0,1,0,0]), .inBlock 0, .code (P32 [1,1,1])]
def A32_2 (Ax1 : Option Addr) (lx1 cx1 : Nat) (x5 : Int) (x28 : Bool) (M : Mem) (Q : Value → Mem → Prop) : Prop := ∀ (g0 g2 g3 g4 g6 g7 g8 g9 g10 g11 g12 g13 g14 g15 g16 g17 g18 g19 g20 g21 g22 g23 g24 g25 g26 g27 : Value), Rn Try.prog Try.f32 S32_2 #[g0, .slice Ax1 lx1 cx1, g2, g3, g4, .int .i64 x5, g6, g7, g8, g9, g10, g11, g12, g13, g14, g15, g16, g17, g18, g19, g20, g21, g22, g23, g24, g25, g26, g27, .bool x28] M Q
theorem w32_0 {x0 : Int} {Ax1 : Option Addr} {lx1 cx1 : Nat} {M : Mem} {Q : Value → Mem → Prop} (H :
    Cn Try.prog 39 #[.int .i64 x0, .int .i64 ((lx1 : Int))] M fun v1' N1' =>
     ∃ b2', asB v1' = some b2' ∧
     (((!b2') = true →
      Q (.bool false) N1') ∧
      ((!b2') = false →
      A32_1 Ax1 lx1 cx1 0 N1' Q))) :
    Cn Try.prog 32 #[.int .i64 x0, .slice Ax1 lx1 cx1] M Q := by
  refine Cn.of b32 d32 t32 ?_
  refine Rn.seq k32_0 (Rn.region k32_1 (fun call K => r32_0) (Rch.leaf (Rn.seq k32_2 (Rn.seq k32_3 (Rn.region k32_4 (fun call K => r32_1) (Rch.call H fun v1' N1' H => Rch.ex H fun b2' H => Rch.leaf ?_))))))
  refine Rn.cnd (v := !b2') ⟨c32_5, rfl, by kernel_rfl⟩ (fun h => ?_) (fun h => ?_)
  · replace H := H.1 (h)
    refine Rn.seq k32_6 (Rn.region k32_7 (fun call K => r32_2) (Rch.leaf ?_))
    exact Rn.ret k32_8 e32 H
  · replace H := H.2 (h)
    refine Rn.skip k32_10 (Rn.seq k32_11 (Rn.seq k32_12 (Rn.region k32_13 (fun call K => r32_3) (Rch.leaf (Rn.block k32_14 (Rn.loop k32_15 ?_))))))
    exact H _ _ _ _ _ _ _ _ _ _ _ _ _ _ _ _ _ _ _ _ _ _ _ _ _ _ _

theorem w32_1 {Ax1 : Option Addr} {lx1 cx1 : Nat} {x5 : Int} {M : Mem} {Q : Value → Mem → Prop} (H :
    ((x5 < ((lx1 : Int)) →
     ∃ a3', idxA Ax1 lx1 1 x5 = some a3' ∧
     ∃ x4', M.intAt .i64 a3'.block a3'.off = some x4' ∧
     ((x4' < (-1048576) →
      A32_2 Ax1 lx1 cx1 x5 true M Q) ∧
      (¬ (x4' < (-1048576)) →
      ∃ a5', idxA Ax1 lx1 1 x5 = some a5' ∧
      ∃ x6', M.intAt .i64 a5'.block a5'.off = some x6' ∧
      A32_2 Ax1 lx1 cx1 x5 (decide (x6' > 1048576)) M Q))) ∧
     (¬ (x5 < ((lx1 : Int))) →
     Q (.bool true) M))) :
    A32_1 Ax1 lx1 cx1 x5 M Q := by
  intro g0 g2 g3 g4 g6 g7 g8 g9 g10 g11 g12 g13 g14 g15 g16 g17 g18 g19 g20 g21 g22 g23 g24 g25 g26 g27 g28
  refine Rn.seq k32_16 (Rn.seq k32_17 (Rn.region k32_18 (fun call K => r32_4) (Rch.leaf ?_)))
  refine Rn.cnd (v := decide (x5 < ((lx1 : Int)))) ⟨c32_19, rfl, by kernel_rfl⟩ (fun h => ?_) (fun h => ?_)
  · replace H := H.1 (of_decide_eq_true h)
    refine Rn.skip k32_20 (Rn.seq k32_21 (Rn.block k32_22 (Rn.seq k32_23 (Rn.region k32_24 (fun call K => r32_6) (Rch.ex H fun a3' H => Rch.ex H fun x4' H => ?_)))))
    refine Rch.cB (fun h => ?_) (fun h => ?_)
    · replace H := H.1 (of_decide_eq_true h)
      refine Rch.leaf ?_
      exact H _ _ _ _ _ _ _ _ _ _ _ _ _ _ _ _ _ _ _ _ _ _ _ _ _ _
    · replace H := H.2 (of_decide_eq_false h)
      refine Rch.ex H fun a5' H => Rch.ex H fun x6' H => Rch.leaf ?_
      exact H _ _ _ _ _ _ _ _ _ _ _ _ _ _ _ _ _ _ _ _ _ _ _ _ _ _
  · replace H := H.2 (of_decide_eq_false h)
    refine Rn.exit k32_25 rfl (Rn.seq k32_26 (Rn.region k32_27 (fun call K => r32_8) (Rch.leaf ?_)))
    exact Rn.ret k32_28 e32 H

theorem w32_2 {Ax1 : Option Addr} {lx1 cx1 : Nat} {x5 : Int} {x28 : Bool} {M : Mem} {Q : Value → Mem → Prop} (H :
    ((x28 = true →
     Q (.bool false) M) ∧
     (x28 = false →
     A32_1 Ax1 lx1 cx1 (IntKind.i64.wrap (x5 + 1)) M Q))) :
    A32_2 Ax1 lx1 cx1 x5 x28 M Q := by
  intro g0 g2 g3 g4 g6 g7 g8 g9 g10 g11 g12 g13 g14 g15 g16 g17 g18 g19 g20 g21 g22 g23 g24 g25 g26 g27
  refine Rn.cnd (v := x28) ⟨c32_29, rfl, by kernel_rfl⟩ (fun h => ?_) (fun h => ?_)
  · replace H := H.1 (h)
    refine Rn.seq k32_30 (Rn.region k32_31 (fun call K => r32_7) (Rch.leaf ?_))
    exact Rn.ret k32_32 e32 H
  · replace H := H.2 (h)
    refine Rn.skip k32_33 (Rn.blk (Rn.region k32_34 (fun call K => r32_5) (Rch.leaf (Rn.lp ?_))))
    exact H _ _ _ _ _ _ _ _ _ _ _ _ _ _ _ _ _ _ _ _ _ _ _ _ _ _ _


/-! ### zoetrope/zoetroperef07.Back: function 33 -/
noncomputable abbrev P33 (p : List Nat) : Code := subC (codeOf Try.f33) p
noncomputable abbrev O33 (p : List Nat) : Array Oper := opsOf (subC (codeOf Try.f33) p)
theorem b33 : Try.prog.funcs[33]? = some Try.f33 ∧ (Orc.tab Try.prog).lookup 33 = none := ⟨by kernel_rfl, by kernel_rfl⟩
theorem d33 : Try.f33.body = some (P33 []) := by kernel_rfl
theorem t33 {Ax0 : Option Addr} {lx0 cx0 : Nat} {Ax1 : Option Addr} {lx1 cx1 : Nat} : #[.slice Ax0 lx0 cx0,.slice Ax1 lx1 cx1] ++ Array.replicate (Try.f33.ntmps - (#[.slice Ax0 lx0 cx0,.slice Ax1 lx1 cx1] : Array Value).size) undef = #[.slice Ax0 lx0 cx0,.slice Ax1 lx1 cx1,undef,undef,undef,undef,undef,undef,undef,undef,undef,undef,undef,undef,undef,undef,undef,undef,undef,undef,undef,undef,undef,undef,undef,undef,undef,undef,undef,undef,undef,undef,undef,undef,undef,undef,undef,undef,undef,undef,undef,undef,undef,undef,undef,undef,undef,undef,undef,undef,undef,undef,undef,undef,undef,undef,undef,undef,undef,undef,undef,undef,undef,undef,undef,undef,undef,undef,undef,undef,undef,undef,undef,undef,undef,undef,undef,undef,undef,undef,undef,undef,undef,undef,undef,undef,undef,undef,undef,undef,undef,undef,undef,undef,undef,undef,undef,undef,undef,undef,undef,undef,undef,undef,undef,undef,undef,undef,undef] := by kernel_rfl
theorem k33_0 : P33 [] = .seq (P33 [0]) (P33 [1]) := by kernel_rfl
theorem k33_1 : P33 [0] = .region 0 (O33 [0]) false := by kernel_rfl
theorem r33_0 {M : Mem} {call : CallM} {K : Array Value → Mem → R} :
    opsK Try.prog (fun _ => call) (O33 [0]) (O33 [0]).toList 0 #[g0,g1,g2,g3,g4,g5,g6,g7,g8,g9,g10,g11,g12,g13,g14,g15,g16,g17,g18,g19,g20,g21,g22,g23,g24,g25,g26,g27,g28,g29,g30,g31,g32,g33,g34,g35,g36,g37,g38,g39,g40,g41,g42,g43,g44,g45,g46,g47,g48,g49,g50,g51,g52,g53,g54,g55,g56,g57,g58,g59,g60,g61,g62,g63,g64,g65,g66,g67,g68,g69,g70,g71,g72,g73,g74,g75,g76,g77,g78,g79,g80,g81,g82,g83,g84,g85,g86,g87,g88,g89,g90,g91,g92,g93,g94,g95,g96,g97,g98,g99,g100,g101,g102,g103,g104,g105,g106,g107,g108] M K = K #[g0,g1,g2,g3,.slice none 0 0,g5,g6,g7,g8,g9,g10,g11,g12,g13,g14,g15,g16,g17,g18,g19,g20,g21,g22,g23,g24,g25,g26,g27,g28,g29,g30,g31,g32,g33,g34,g35,g36,g37,g38,g39,g40,g41,g42,g43,g44,g45,g46,g47,g48,g49,g50,g51,g52,g53,g54,g55,g56,g57,g58,g59,g60,g61,g62,g63,g64,g65,g66,g67,g68,g69,g70,g71,g72,g73,g74,g75,g76,g77,g78,g79,g80,g81,g82,g83,g84,g85,g86,g87,g88,g89,g90,g91,g92,g93,g94,g95,g96,g97,g98,g99,g100,g101,g102,g103,g104,g105,g106,g107,g108] M := by kernel_rfl
theorem k33_2 : P33 [1] = .seq (P33 [1,0]) (P33 [1,1]) := by kernel_rfl
theorem k33_3 : P33 [1,0] = .seq (P33 [1,0,0]) (P33 [1,0,1]) := by kernel_rfl
theorem k33_4 : P33 [1,0,0] = .region 1 (O33 [1,0,0]) false := by kernel_rfl
theorem r33_1 {Ax0 : Option Addr} {lx0 cx0 : Nat} {M : Mem} {call : CallM} {K : Array Value → Mem → R} :
    opsK Try.prog (fun _ => call) (O33 [1,0,0]) (O33 [1,0,0]).toList 0 #[.slice Ax0 lx0 cx0,g1,g2,g3,g4,g5,g6,g7,g8,g9,g10,g11,g12,g13,g14,g15,g16,g17,g18,g19,g20,g21,g22,g23,g24,g25,g26,g27,g28,g29,g30,g31,g32,g33,g34,g35,g36,g37,g38,g39,g40,g41,g42,g43,g44,g45,g46,g47,g48,g49,g50,g51,g52,g53,g54,g55,g56,g57,g58,g59,g60,g61,g62,g63,g64,g65,g66,g67,g68,g69,g70,g71,g72,g73,g74,g75,g76,g77,g78,g79,g80,g81,g82,g83,g84,g85,g86,g87,g88,g89,g90,g91,g92,g93,g94,g95,g96,g97,g98,g99,g100,g101,g102,g103,g104,g105,g106,g107,g108] M K = K #[.slice Ax0 lx0 cx0,g1,g2,g3,g4,g5,g6,g7,g8,g9,g10,g11,g12,g13,g14,.slice Ax0 lx0 cx0,.int .i64 ((lx0 : Int)),.bool (((lx0 : Int)) == 0),g18,g19,g20,g21,g22,g23,g24,g25,g26,g27,g28,g29,g30,g31,g32,g33,g34,g35,g36,g37,g38,g39,g40,g41,g42,g43,g44,g45,g46,g47,g48,g49,g50,g51,g52,g53,g54,g55,g56,g57,g58,g59,g60,g61,g62,g63,g64,g65,g66,g67,g68,g69,g70,g71,g72,g73,g74,g75,g76,g77,g78,g79,g80,g81,g82,g83,g84,g85,g86,g87,g88,g89,g90,g91,g92,g93,g94,g95,g96,g97,g98,g99,g100,g101,g102,g103,g104,g105,g106,g107,g108] M := by kernel_rfl
theorem c33_5 : P33 [1,0,1] = .cond (.tmp 17) (P33 [1,0,1,0]) (P33 [1,0,1,1]) := by kernel_rfl
theorem k33_6 : P33 [1,0,1,0] = .seq (P33 [1,0,1,0,0]) (P33 [1,0,1,0,1]) := by kernel_rfl
theorem k33_7 : P33 [1,0,1,0,0] = .region 2 (O33 [1,0,1,0,0]) true ∧ drawOk (O33 [1,0,1,0,0]) = true := ⟨by kernel_rfl, by kernel_rfl⟩
theorem r33_2 {Ax1 : Option Addr} {lx1 cx1 : Nat} {M : Mem} {call : CallM} {K : Array Value → Mem → R} :
    opsI Try.prog (callAt call (O33 [1,0,1,0,0])) (O33 [1,0,1,0,0]) (ordOf (O33 [1,0,1,0,0])) [] #[g0,.slice Ax1 lx1 cx1,g2,g3,g4,g5,g6,g7,g8,g9,g10,g11,g12,g13,g14,g15,g16,g17,g18,g19,g20,g21,g22,g23,g24,g25,g26,g27,g28,g29,g30,g31,g32,g33,g34,g35,g36,g37,g38,g39,g40,g41,g42,g43,g44,g45,g46,g47,g48,g49,g50,g51,g52,g53,g54,g55,g56,g57,g58,g59,g60,g61,g62,g63,g64,g65,g66,g67,g68,g69,g70,g71,g72,g73,g74,g75,g76,g77,g78,g79,g80,g81,g82,g83,g84,g85,g86,g87,g88,g89,g90,g91,g92,g93,g94,g95,g96,g97,g98,g99,g100,g101,g102,g103,g104,g105,g106,g107,g108] M K = (idxA Ax1 lx1 1 0).bind fun a_1 => (M.intAt .i64 a_1.block a_1.off).bind fun x_2 => (idxA Ax1 lx1 1 1).bind fun a_3 => (M.intAt .i64 a_3.block a_3.off).bind fun x_4 => (idxA Ax1 lx1 1 2).bind fun a_5 => (M.intAt .i64 a_5.block a_5.off).bind fun x_6 => (idxA Ax1 lx1 1 3).bind fun a_7 => (M.intAt .i64 a_7.block a_7.off).bind fun x_8 => K #[g0,.slice Ax1 lx1 cx1,g2,g3,g4,.int .i64 x_2,.int .i64 x_4,.int .i64 x_6,.int .i64 x_8,g9,g10,g11,g12,g13,g14,g15,g16,g17,.slice Ax1 lx1 cx1,.pointer (some a_1),.int .i64 x_2,.slice Ax1 lx1 cx1,.pointer (some a_3),.int .i64 x_4,.slice Ax1 lx1 cx1,.pointer (some a_5),.int .i64 x_6,.slice Ax1 lx1 cx1,.pointer (some a_7),.int .i64 x_8,g30,g31,g32,g33,g34,g35,g36,g37,g38,g39,g40,g41,g42,g43,g44,g45,g46,g47,g48,g49,g50,g51,g52,g53,g54,g55,g56,g57,g58,g59,g60,g61,g62,g63,g64,g65,g66,g67,g68,g69,g70,g71,g72,g73,g74,g75,g76,g77,g78,g79,g80,g81,g82,g83,g84,g85,g86,g87,g88,g89,g90,g91,g92,g93,g94,g95,g96,g97,g98,g99,g100,g101,g102,g103,g104,g105,g106,g107,g108] M := by kernel_rfl
theorem k33_8 : P33 [1,0,1,0,1] = .seq (P33 [1,0,1,0,1,0]) (P33 [1,0,1,0,1,1]) := by kernel_rfl
theorem k33_9 : P33 [1,0,1,0,1,0] = .region 3 (O33 [1,0,1,0,1,0]) false := by kernel_rfl
theorem r33_3 {x5 x6 : Int} {M : Mem} {call : CallM} {K : Array Value → Mem → R} :
    opsK Try.prog (fun _ => call) (O33 [1,0,1,0,1,0]) (O33 [1,0,1,0,1,0]).toList 0 #[g0,g1,g2,g3,g4,.int .i64 x5,.int .i64 x6,g7,g8,g9,g10,g11,g12,g13,g14,g15,g16,g17,g18,g19,g20,g21,g22,g23,g24,g25,g26,g27,g28,g29,g30,g31,g32,g33,g34,g35,g36,g37,g38,g39,g40,g41,g42,g43,g44,g45,g46,g47,g48,g49,g50,g51,g52,g53,g54,g55,g56,g57,g58,g59,g60,g61,g62,g63,g64,g65,g66,g67,g68,g69,g70,g71,g72,g73,g74,g75,g76,g77,g78,g79,g80,g81,g82,g83,g84,g85,g86,g87,g88,g89,g90,g91,g92,g93,g94,g95,g96,g97,g98,g99,g100,g101,g102,g103,g104,g105,g106,g107,g108] M K = K #[g0,g1,g2,g3,g4,.int .i64 (IntKind.i64.wrap (x5 + x6)),.int .i64 x6,g7,g8,g9,g10,g11,g12,g13,g14,g15,g16,g17,g18,g19,g20,g21,g22,g23,g24,g25,g26,g27,g28,g29,.int .i64 x5,.int .i64 x6,.int .i64 (IntKind.i64.wrap (x5 + x6)),g33,g34,g35,g36,g37,g38,g39,g40,g41,g42,g43,g44,g45,g46,g47,g48,g49,g50,g51,g52,g53,g54,g55,g56,g57,g58,g59,g60,g61,g62,g63,g64,g65,g66,g67,g68,g69,g70,g71,g72,g73,g74,g75,g76,g77,g78,g79,g80,g81,g82,g83,g84,g85,g86,g87,g88,g89,g90,g91,g92,g93,g94,g95,g96,g97,g98,g99,g100,g101,g102,g103,g104,g105,g106,g107,g108] M := by kernel_rfl
theorem k33_10 : P33 [1,0,1,0,1,1] = .seq (P33 [1,0,1,0,1,1,0]) (P33 [1,0,1,0,1,1,1]) := by kernel_rfl
theorem k33_11 : P33 [1,0,1,0,1,1,0] = .region 4 (O33 [1,0,1,0,1,1,0]) false := by kernel_rfl
theorem r33_4 {x7 x8 : Int} {M : Mem} {call : CallM} {K : Array Value → Mem → R} :
    opsK Try.prog (fun _ => call) (O33 [1,0,1,0,1,1,0]) (O33 [1,0,1,0,1,1,0]).toList 0 #[g0,g1,g2,g3,g4,g5,g6,.int .i64 x7,.int .i64 x8,g9,g10,g11,g12,g13,g14,g15,g16,g17,g18,g19,g20,g21,g22,g23,g24,g25,g26,g27,g28,g29,g30,g31,g32,g33,g34,g35,g36,g37,g38,g39,g40,g41,g42,g43,g44,g45,g46,g47,g48,g49,g50,g51,g52,g53,g54,g55,g56,g57,g58,g59,g60,g61,g62,g63,g64,g65,g66,g67,g68,g69,g70,g71,g72,g73,g74,g75,g76,g77,g78,g79,g80,g81,g82,g83,g84,g85,g86,g87,g88,g89,g90,g91,g92,g93,g94,g95,g96,g97,g98,g99,g100,g101,g102,g103,g104,g105,g106,g107,g108] M K = K #[g0,g1,g2,g3,g4,g5,g6,.int .i64 (IntKind.i64.wrap (x7 - x8)),.int .i64 x8,g9,g10,g11,g12,g13,g14,g15,g16,g17,g18,g19,g20,g21,g22,g23,g24,g25,g26,g27,g28,g29,g30,g31,g32,.int .i64 x7,.int .i64 x8,.int .i64 (IntKind.i64.wrap (x7 - x8)),g36,g37,g38,g39,g40,g41,g42,g43,g44,g45,g46,g47,g48,g49,g50,g51,g52,g53,g54,g55,g56,g57,g58,g59,g60,g61,g62,g63,g64,g65,g66,g67,g68,g69,g70,g71,g72,g73,g74,g75,g76,g77,g78,g79,g80,g81,g82,g83,g84,g85,g86,g87,g88,g89,g90,g91,g92,g93,g94,g95,g96,g97,g98,g99,g100,g101,g102,g103,g104,g105,g106,g107,g108] M := by kernel_rfl
theorem k33_12 : P33 [1,0,1,0,1,1,1] = .seq (P33 [1,0,1,0,1,1,1,0]) (P33 [1,0,1,0,1,1,1,1]) := by kernel_rfl
theorem k33_13 : P33 [1,0,1,0,1,1,1,0] = .region 5 (O33 [1,0,1,0,1,1,1,0]) false := by kernel_rfl
theorem r33_5 {x5 x7 : Int} {M : Mem} {call : CallM} {K : Array Value → Mem → R} :
    opsK Try.prog (fun _ => call) (O33 [1,0,1,0,1,1,1,0]) (O33 [1,0,1,0,1,1,1,0]).toList 0 #[g0,g1,g2,g3,g4,.int .i64 x5,g6,.int .i64 x7,g8,g9,g10,g11,g12,g13,g14,g15,g16,g17,g18,g19,g20,g21,g22,g23,g24,g25,g26,g27,g28,g29,g30,g31,g32,g33,g34,g35,g36,g37,g38,g39,g40,g41,g42,g43,g44,g45,g46,g47,g48,g49,g50,g51,g52,g53,g54,g55,g56,g57,g58,g59,g60,g61,g62,g63,g64,g65,g66,g67,g68,g69,g70,g71,g72,g73,g74,g75,g76,g77,g78,g79,g80,g81,g82,g83,g84,g85,g86,g87,g88,g89,g90,g91,g92,g93,g94,g95,g96,g97,g98,g99,g100,g101,g102,g103,g104,g105,g106,g107,g108] M K = K #[g0,g1,g2,g3,g4,.int .i64 x5,g6,.int .i64 x7,g8,.int .i64 ((IntKind.i64.wrap (x5 - x7)).fdiv (2 ^ 1)),g10,g11,g12,g13,g14,g15,g16,g17,g18,g19,g20,g21,g22,g23,g24,g25,g26,g27,g28,g29,g30,g31,g32,g33,g34,g35,.int .i64 x5,.int .i64 x7,.int .i64 (IntKind.i64.wrap (x5 - x7)),.int .i64 ((IntKind.i64.wrap (x5 - x7)).fdiv (2 ^ 1)),g40,g41,g42,g43,g44,g45,g46,g47,g48,g49,g50,g51,g52,g53,g54,g55,g56,g57,g58,g59,g60,g61,g62,g63,g64,g65,g66,g67,g68,g69,g70,g71,g72,g73,g74,g75,g76,g77,g78,g79,g80,g81,g82,g83,g84,g85,g86,g87,g88,g89,g90,g91,g92,g93,g94,g95,g96,g97,g98,g99,g100,g101,g102,g103,g104,g105,g106,g107,g108] M := by kernel_rfl
theorem k33_14 : P33 [1,0,1,0,1,1,1,1] = .seq (P33 [1,0,1,0,1,1,1,1,0]) (P33 [1,0,1,0,1,1,1,1,1]) := by kernel_rfl
theorem k33_15 : P33 [1,0,1,0,1,1,1,1,0] = .region 6 (O33 [1,0,1,0,1,1,1,1,0]) false := by kernel_rfl
theorem r33_6 {x8 x9 : Int} {M : Mem} {call : CallM} {K : Array Value → Mem → R} :
    opsK Try.prog (fun _ => call) (O33 [1,0,1,0,1,1,1,1,0]) (O33 [1,0,1,0,1,1,1,1,0]).toList 0 #[g0,g1,g2,g3,g4,g5,g6,g7,.int .i64 x8,.int .i64 x9,g10,g11,g12,g13,g14,g15,g16,g17,g18,g19,g20,g21,g22,g23,g24,g25,g26,g27,g28,g29,g30,g31,g32,g33,g34,g35,g36,g37,g38,g39,g40,g41,g42,g43,g44,g45,g46,g47,g48,g49,g50,g51,g52,g53,g54,g55,g56,g57,g58,g59,g60,g61,g62,g63,g64,g65,g66,g67,g68,g69,g70,g71,g72,g73,g74,g75,g76,g77,g78,g79,g80,g81,g82,g83,g84,g85,g86,g87,g88,g89,g90,g91,g92,g93,g94,g95,g96,g97,g98,g99,g100,g101,g102,g103,g104,g105,g106,g107,g108] M K = K #[g0,g1,g2,g3,g4,g5,g6,g7,.int .i64 (IntKind.i64.wrap (x9 - x8)),.int .i64 x9,g10,g11,g12,g13,g14,g15,g16,g17,g18,g19,g20,g21,g22,g23,g24,g25,g26,g27,g28,g29,g30,g31,g32,g33,g34,g35,g36,g37,g38,g39,.int .i64 x9,.int .i64 x8,.int .i64 (IntKind.i64.wrap (x9 - x8)),g43,g44,g45,g46,g47,g48,g49,g50,g51,g52,g53,g54,g55,g56,g57,g58,g59,g60,g61,g62,g63,g64,g65,g66,g67,g68,g69,g70,g71,g72,g73,g74,g75,g76,g77,g78,g79,g80,g81,g82,g83,g84,g85,g86,g87,g88,g89,g90,g91,g92,g93,g94,g95,g96,g97,g98,g99,g100,g101,g102,g103,g104,g105,g106,g107,g108] M := by kernel_rfl
theorem k33_16 : P33 [1,0,1,0,1,1,1,1,1] = .seq (P33 [1,0,1,0,1,1,1,1,1,0]) (P33 [1,0,1,0,1,1,1,1,1,1]) := by kernel_rfl
theorem k33_17 : P33 [1,0,1,0,1,1,1,1,1,0] = .region 7 (O33 [1,0,1,0,1,1,1,1,1,0]) false := by kernel_rfl
theorem r33_7 {x6 x9 : Int} {M : Mem} {call : CallM} {K : Array Value → Mem → R} :
    opsK Try.prog (fun _ => call) (O33 [1,0,1,0,1,1,1,1,1,0]) (O33 [1,0,1,0,1,1,1,1,1,0]).toList 0 #[g0,g1,g2,g3,g4,g5,.int .i64 x6,g7,g8,.int .i64 x9,g10,g11,g12,g13,g14,g15,g16,g17,g18,g19,g20,g21,g22,g23,g24,g25,g26,g27,g28,g29,g30,g31,g32,g33,g34,g35,g36,g37,g38,g39,g40,g41,g42,g43,g44,g45,g46,g47,g48,g49,g50,g51,g52,g53,g54,g55,g56,g57,g58,g59,g60,g61,g62,g63,g64,g65,g66,g67,g68,g69,g70,g71,g72,g73,g74,g75,g76,g77,g78,g79,g80,g81,g82,g83,g84,g85,g86,g87,g88,g89,g90,g91,g92,g93,g94,g95,g96,g97,g98,g99,g100,g101,g102,g103,g104,g105,g106,g107,g108] M K = K #[g0,g1,g2,g3,g4,g5,.int .i64 (IntKind.i64.wrap (x9 - x6)),g7,g8,.int .i64 x9,g10,g11,g12,g13,g14,g15,g16,g17,g18,g19,g20,g21,g22,g23,g24,g25,g26,g27,g28,g29,g30,g31,g32,g33,g34,g35,g36,g37,g38,g39,g40,g41,g42,.int .i64 x9,.int .i64 x6,.int .i64 (IntKind.i64.wrap (x9 - x6)),g46,g47,g48,g49,g50,g51,g52,g53,g54,g55,g56,g57,g58,g59,g60,g61,g62,g63,g64,g65,g66,g67,g68,g69,g70,g71,g72,g73,g74,g75,g76,g77,g78,g79,g80,g81,g82,g83,g84,g85,g86,g87,g88,g89,g90,g91,g92,g93,g94,g95,g96,g97,g98,g99,g100,g101,g102,g103,g104,g105,g106,g107,g108] M := by kernel_rfl
theorem k33_18 : P33 [1,0,1,0,1,1,1,1,1,1] = .seq (P33 [1,0,1,0,1,1,1,1,1,1,0]) (P33 [1,0,1,0,1,1,1,1,1,1,1]) := by kernel_rfl
theorem k33_19 : P33 [1,0,1,0,1,1,1,1,1,1,0] = .region 8 (O33 [1,0,1,0,1,1,1,1,1,1,0]) false := by kernel_rfl
theorem r33_8 {x5 x6 x7 x8 : Int} {M : Mem} {call : CallM} {K : Array Value → Mem → R} :
    opsK Try.prog (fun _ => call) (O33 [1,0,1,0,1,1,1,1,1,1,0]) (O33 [1,0,1,0,1,1,1,1,1,1,0]).toList 0 #[g0,g1,g2,g3,g4,.int .i64 x5,.int .i64 x6,.int .i64 x7,.int .i64 x8,g9,g10,g11,g12,g13,g14,g15,g16,g17,g18,g19,g20,g21,g22,g23,g24,g25,g26,g27,g28,g29,g30,g31,g32,g33,g34,g35,g36,g37,g38,g39,g40,g41,g42,g43,g44,g45,g46,g47,g48,g49,g50,g51,g52,g53,g54,g55,g56,g57,g58,g59,g60,g61,g62,g63,g64,g65,g66,g67,g68,g69,g70,g71,g72,g73,g74,g75,g76,g77,g78,g79,g80,g81,g82,g83,g84,g85,g86,g87,g88,g89,g90,g91,g92,g93,g94,g95,g96,g97,g98,g99,g100,g101,g102,g103,g104,g105,g106,g107,g108] M K = K #[g0,g1,g2,g3,.slice (some ⟨2 * M.nb.size, 0, none⟩) 4 4,.int .i64 x5,.int .i64 x6,.int .i64 x7,.int .i64 x8,g9,g10,g11,g12,g13,g14,g15,g16,g17,g18,g19,g20,g21,g22,g23,g24,g25,g26,g27,g28,g29,g30,g31,g32,g33,g34,g35,g36,g37,g38,g39,g40,g41,g42,g43,g44,g45,.int .i64 x5,.int .i64 x8,.int .i64 (IntKind.i64.wrap (x5 - x8)),.int .i64 x8,.int .i64 x6,.int .i64 x7,.int .i64 x6,.int .i64 (IntKind.i64.wrap (x7 + x6)),.slice (some ⟨2 * M.nb.size, 0, none⟩) 4 4,g55,g56,g57,g58,g59,g60,g61,g62,g63,g64,g65,g66,g67,g68,g69,g70,g71,g72,g73,g74,g75,g76,g77,g78,g79,g80,g81,g82,g83,g84,g85,g86,g87,g88,g89,g90,g91,g92,g93,g94,g95,g96,g97,g98,g99,g100,g101,g102,g103,g104,g105,g106,g107,g108] (M.new (.cells #[.int .i64 (IntKind.i64.wrap (x5 - x8)), .int .i64 x8, .int .i64 x6, .int .i64 (IntKind.i64.wrap (x7 + x6))] 3)) := by kernel_rfl
theorem k33_20 : P33 [1,0,1,0,1,1,1,1,1,1,1] = .ret := by kernel_rfl
theorem e33 {M : Mem} : finish Try.prog Try.f33 #[g0,g1,g2,g3,g4,g5,g6,g7,g8,g9,g10,g11,g12,g13,g14,g15,g16,g17,g18,g19,g20,g21,g22,g23,g24,g25,g26,g27,g28,g29,g30,g31,g32,g33,g34,g35,g36,g37,g38,g39,g40,g41,g42,g43,g44,g45,g46,g47,g48,g49,g50,g51,g52,g53,g54,g55,g56,g57,g58,g59,g60,g61,g62,g63,g64,g65,g66,g67,g68,g69,g70,g71,g72,g73,g74,g75,g76,g77,g78,g79,g80,g81,g82,g83,g84,g85,g86,g87,g88,g89,g90,g91,g92,g93,g94,g95,g96,g97,g98,g99,g100,g101,g102,g103,g104,g105,g106,g107,g108] M = some (g4, M) := by kernel_rfl
theorem k33_22 : P33 [1,0,1,1] = .skip := by kernel_rfl
theorem k33_23 : P33 [1,1] = .seq (P33 [1,1,0]) (P33 [1,1,1]) := by kernel_rfl
theorem k33_24 : P33 [1,1,0] = .region 9 (O33 [1,1,0]) false := by kernel_rfl
theorem r33_9 {Ax1 : Option Addr} {lx1 cx1 : Nat} {M : Mem} {call : CallM} {K : Array Value → Mem → R} :
    opsK Try.prog (fun _ => call) (O33 [1,1,0]) (O33 [1,1,0]).toList 0 #[g0,.slice Ax1 lx1 cx1,g2,g3,g4,g5,g6,g7,g8,g9,g10,g11,g12,g13,g14,g15,g16,g17,g18,g19,g20,g21,g22,g23,g24,g25,g26,g27,g28,g29,g30,g31,g32,g33,g34,g35,g36,g37,g38,g39,g40,g41,g42,g43,g44,g45,g46,g47,g48,g49,g50,g51,g52,g53,g54,g55,g56,g57,g58,g59,g60,g61,g62,g63,g64,g65,g66,g67,g68,g69,g70,g71,g72,g73,g74,g75,g76,g77,g78,g79,g80,g81,g82,g83,g84,g85,g86,g87,g88,g89,g90,g91,g92,g93,g94,g95,g96,g97,g98,g99,g100,g101,g102,g103,g104,g105,g106,g107,g108] M K = K #[g0,.slice Ax1 lx1 cx1,g2,g3,g4,g5,g6,g7,g8,g9,.int .i64 ((lx1 : Int)),g11,g12,g13,g14,g15,g16,g17,g18,g19,g20,g21,g22,g23,g24,g25,g26,g27,g28,g29,g30,g31,g32,g33,g34,g35,g36,g37,g38,g39,g40,g41,g42,g43,g44,g45,g46,g47,g48,g49,g50,g51,g52,g53,g54,.slice Ax1 lx1 cx1,.int .i64 ((lx1 : Int)),g57,g58,g59,g60,g61,g62,g63,g64,g65,g66,g67,g68,g69,g70,g71,g72,g73,g74,g75,g76,g77,g78,g79,g80,g81,g82,g83,g84,g85,g86,g87,g88,g89,g90,g91,g92,g93,g94,g95,g96,g97,g98,g99,g100,g101,g102,g103,g104,g105,g106,g107,g108] M := by kernel_rfl
theorem k33_25 : P33 [1,1,1] = .seq (P33 [1,1,1,0]) (P33 [1,1,1,1]) := by kernel_rfl
theorem k33_26 : P33 [1,1,1,0] = .region 10 (O33 [1,1,1,0]) false := by kernel_rfl
theorem r33_10 {x10 : Int} {M : Mem} {call : CallM} {K : Array Value → Mem → R} :
    opsK Try.prog (fun _ => call) (O33 [1,1,1,0]) (O33 [1,1,1,0]).toList 0 #[g0,g1,g2,g3,g4,g5,g6,g7,g8,g9,.int .i64 x10,g11,g12,g13,g14,g15,g16,g17,g18,g19,g20,g21,g22,g23,g24,g25,g26,g27,g28,g29,g30,g31,g32,g33,g34,g35,g36,g37,g38,g39,g40,g41,g42,g43,g44,g45,g46,g47,g48,g49,g50,g51,g52,g53,g54,g55,g56,g57,g58,g59,g60,g61,g62,g63,g64,g65,g66,g67,g68,g69,g70,g71,g72,g73,g74,g75,g76,g77,g78,g79,g80,g81,g82,g83,g84,g85,g86,g87,g88,g89,g90,g91,g92,g93,g94,g95,g96,g97,g98,g99,g100,g101,g102,g103,g104,g105,g106,g107,g108] M K = (makeP Try.prog 22 (.int .i64 x10) (.int .i64 x10) M).bind fun r_1 => (asS r_1.1).bind fun s_2 => K #[g0,g1,g2,g3,g4,g5,g6,g7,g8,g9,.int .i64 x10,.slice s_2.1 (s_2.2.1) (s_2.2.2),g12,g13,g14,g15,g16,g17,g18,g19,g20,g21,g22,g23,g24,g25,g26,g27,g28,g29,g30,g31,g32,g33,g34,g35,g36,g37,g38,g39,g40,g41,g42,g43,g44,g45,g46,g47,g48,g49,g50,g51,g52,g53,g54,g55,g56,.int .i64 x10,.slice s_2.1 (s_2.2.1) (s_2.2.2),g59,g60,g61,g62,g63,g64,g65,g66,g67,g68,g69,g70,g71,g72,g73,g74,g75,g76,g77,g78,g79,g80,g81,g82,g83,g84,g85,g86,g87,g88,g89,g90,g91,g92,g93,g94,g95,g96,g97,g98,g99,g100,g101,g102,g103,g104,g105,g106,g107,g108] r_1.2 := by kernel_rfl
theorem k33_27 : P33 [1,1,1,1] = .seq (P33 [1,1,1,1,0]) (P33 [1,1,1,1,1]) := by kernel_rfl
theorem k33_28 : P33 [1,1,1,1,0] = .seq (P33 [1,1,1,1,0,0]) (P33 [1,1,1,1,0,1]) := by kernel_rfl
theorem k33_29 : P33 [1,1,1,1,0,0] = .region 11 (O33 [1,1,1,1,0,0]) false := by kernel_rfl
theorem r33_11 {M : Mem} {call : CallM} {K : Array Value → Mem → R} :
    opsK Try.prog (fun _ => call) (O33 [1,1,1,1,0,0]) (O33 [1,1,1,1,0,0]).toList 0 #[g0,g1,g2,g3,g4,g5,g6,g7,g8,g9,g10,g11,g12,g13,g14,g15,g16,g17,g18,g19,g20,g21,g22,g23,g24,g25,g26,g27,g28,g29,g30,g31,g32,g33,g34,g35,g36,g37,g38,g39,g40,g41,g42,g43,g44,g45,g46,g47,g48,g49,g50,g51,g52,g53,g54,g55,g56,g57,g58,g59,g60,g61,g62,g63,g64,g65,g66,g67,g68,g69,g70,g71,g72,g73,g74,g75,g76,g77,g78,g79,g80,g81,g82,g83,g84,g85,g86,g87,g88,g89,g90,g91,g92,g93,g94,g95,g96,g97,g98,g99,g100,g101,g102,g103,g104,g105,g106,g107,g108] M K = K #[g0,g1,g2,g3,g4,g5,g6,g7,g8,g9,g10,g11,.int .i64 0,g13,g14,g15,g16,g17,g18,g19,g20,g21,g22,g23,g24,g25,g26,g27,g28,g29,g30,g31,g32,g33,g34,g35,g36,g37,g38,g39,g40,g41,g42,g43,g44,g45,g46,g47,g48,g49,g50,g51,g52,g53,g54,g55,g56,g57,g58,g59,g60,g61,g62,g63,g64,g65,g66,g67,g68,g69,g70,g71,g72,g73,g74,g75,g76,g77,g78,g79,g80,g81,g82,g83,g84,g85,g86,g87,g88,g89,g90,g91,g92,g93,g94,g95,g96,g97,g98,g99,g100,g101,g102,g103,g104,g105,g106,g107,g108] M := by kernel_rfl
theorem k33_30 : P33 [1,1,1,1,0,1] = .block 0 (P33 [1,1,1,1,0,1,0]) := by kernel_rfl
theorem k33_31 : P33 [1,1,1,1,0,1,0] = .loop (P33 [1,1,1,1,0,1,0,0]) := by kernel_rfl
theorem k33_32 : P33 [1,1,1,1,0,1,0,0] = .seq (P33 [1,1,1,1,0,1,0,0,0]) (P33 [1,1,1,1,0,1,0,0,1]) := by kernel_rfl
theorem k33_33 : P33 [1,1,1,1,0,1,0,0,0] = .seq (P33 [1,1,1,1,0,1,0,0,0,0]) (P33 [1,1,1,1,0,1,0,0,0,1]) := by kernel_rfl
theorem k33_34 : P33 [1,1,1,1,0,1,0,0,0,0] = .region 12 (O33 [1,1,1,1,0,1,0,0,0,0]) false := by kernel_rfl
theorem r33_12 {x10 x12 : Int} {M : Mem} {call : CallM} {K : Array Value → Mem → R} :
    opsK Try.prog (fun _ => call) (O33 [1,1,1,1,0,1,0,0,0,0]) (O33 [1,1,1,1,0,1,0,0,0,0]).toList 0 #[g0,g1,g2,g3,g4,g5,g6,g7,g8,g9,.int .i64 x10,g11,.int .i64 x12,g13,g14,g15,g16,g17,g18,g19,g20,g21,g22,g23,g24,g25,g26,g27,g28,g29,g30,g31,g32,g33,g34,g35,g36,g37,g38,g39,g40,g41,g42,g43,g44,g45,g46,g47,g48,g49,g50,g51,g52,g53,g54,g55,g56,g57,g58,g59,g60,g61,g62,g63,g64,g65,g66,g67,g68,g69,g70,g71,g72,g73,g74,g75,g76,g77,g78,g79,g80,g81,g82,g83,g84,g85,g86,g87,g88,g89,g90,g91,g92,g93,g94,g95,g96,g97,g98,g99,g100,g101,g102,g103,g104,g105,g106,g107,g108] M K = K #[g0,g1,g2,g3,g4,g5,g6,g7,g8,g9,.int .i64 x10,g11,.int .i64 x12,g13,g14,g15,g16,g17,g18,g19,g20,g21,g22,g23,g24,g25,g26,g27,g28,g29,g30,g31,g32,g33,g34,g35,g36,g37,g38,g39,g40,g41,g42,g43,g44,g45,g46,g47,g48,g49,g50,g51,g52,g53,g54,g55,g56,g57,g58,.int .i64 x12,.int .i64 x10,.bool (decide (x12 < x10)),g62,g63,g64,g65,g66,g67,g68,g69,g70,g71,g72,g73,g74,g75,g76,g77,g78,g79,g80,g81,g82,g83,g84,g85,g86,g87,g88,g89,g90,g91,g92,g93,g94,g95,g96,g97,g98,g99,g100,g101,g102,g103,g104,g105,g106,g107,g108] M := by kernel_rfl
theorem c33_35 : P33 [1,1,1,1,0,1,0,0,0,1] = .cond (.tmp 61) (P33 [1,1,1,1,0,1,0,0,0,1,0]) (P33 [1,1,1,1,0,1,0,0,0,1,1]) := by kernel_rfl
theorem k33_36 : P33 [1,1,1,1,0,1,0,0,0,1,0] = .skip := by kernel_rfl
theorem k33_37 : P33 [1,1,1,1,0,1,0,0,1] = .seq (P33 [1,1,1,1,0,1,0,0,1,0]) (P33 [1,1,1,1,0,1,0,0,1,1]) := by kernel_rfl
theorem k33_38 : P33 [1,1,1,1,0,1,0,0,1,0] = .block 1 (P33 [1,1,1,1,0,1,0,0,1,0,0]) := by kernel_rfl
theorem k33_39 : P33 [1,1,1,1,0,1,0,0,1,0,0] = .seq (P33 [1,1,1,1,0,1,0,0,1,0,0,0]) (P33 [1,1,1,1,0,1,0,0,1,0,0,1]) := by kernel_rfl
theorem k33_40 : P33 [1,1,1,1,0,1,0,0,1,0,0,0] = .seq (P33 [1,1,1,1,0,1,0,0,1,0,0,0,0]) (P33 [1,1,1,1,0,1,0,0,1,0,0,0,1]) := by kernel_rfl
theorem k33_41 : P33 [1,1,1,1,0,1,0,0,1,0,0,0,0] = .region 14 (O33 [1,1,1,1,0,1,0,0,1,0,0,0,0]) false := by kernel_rfl
theorem r33_14 {Ax1 : Option Addr} {lx1 cx1 : Nat} {x12 : Int} {M : Mem} {call : CallM} {K : Array Value → Mem → R} :
    opsK Try.prog (fun _ => call) (O33 [1,1,1,1,0,1,0,0,1,0,0,0,0]) (O33 [1,1,1,1,0,1,0,0,1,0,0,0,0]).toList 0 #[g0,.slice Ax1 lx1 cx1,g2,g3,g4,g5,g6,g7,g8,g9,g10,g11,.int .i64 x12,g13,g14,g15,g16,g17,g18,g19,g20,g21,g22,g23,g24,g25,g26,g27,g28,g29,g30,g31,g32,g33,g34,g35,g36,g37,g38,g39,g40,g41,g42,g43,g44,g45,g46,g47,g48,g49,g50,g51,g52,g53,g54,g55,g56,g57,g58,g59,g60,g61,g62,g63,g64,g65,g66,g67,g68,g69,g70,g71,g72,g73,g74,g75,g76,g77,g78,g79,g80,g81,g82,g83,g84,g85,g86,g87,g88,g89,g90,g91,g92,g93,g94,g95,g96,g97,g98,g99,g100,g101,g102,g103,g104,g105,g106,g107,g108] M K = (idxA Ax1 lx1 1 x12).bind fun a_1 => (M.intAt .i64 a_1.block a_1.off).bind fun x_2 => K #[g0,.slice Ax1 lx1 cx1,g2,g3,g4,g5,g6,g7,g8,g9,g10,g11,.int .i64 x12,g13,g14,g15,g16,g17,g18,g19,g20,g21,g22,g23,g24,g25,g26,g27,g28,g29,g30,g31,g32,g33,g34,g35,g36,g37,g38,g39,g40,g41,g42,g43,g44,g45,g46,g47,g48,g49,g50,g51,g52,g53,g54,g55,g56,g57,g58,g59,g60,g61,g62,g63,.slice Ax1 lx1 cx1,.int .i64 x12,.pointer (some a_1),.int .i64 x_2,.bool (x_2 == 0),g69,g70,g71,g72,g73,g74,g75,g76,g77,g78,g79,g80,g81,g82,g83,g84,g85,g86,g87,g88,g89,g90,g91,g92,g93,g94,g95,g96,g97,g98,g99,g100,g101,g102,g103,g104,g105,g106,g107,g108] M := by kernel_rfl
theorem c33_42 : P33 [1,1,1,1,0,1,0,0,1,0,0,0,1] = .cond (.tmp 68) (P33 [1,1,1,1,0,1,0,0,1,0,0,0,1,0]) (P33 [1,1,1,1,0,1,0,0,1,0,0,0,1,1]) := by kernel_rfl
theorem k33_43 : P33 [1,1,1,1,0,1,0,0,1,0,0,0,1,0] = .exit 1 := by kernel_rfl
theorem k33_44 : P33 [1,1,1,1,0,1,0,0,1,0,0,0,1,1] = .skip := by kernel_rfl
theorem k33_45 : P33 [1,1,1,1,0,1,0,0,1,0,0,1] = .seq (P33 [1,1,1,1,0,1,0,0,1,0,0,1,0]) (P33 [1,1,1,1,0,1,0,0,1,0,0,1,1]) := by kernel_rfl
theorem k33_46 : P33 [1,1,1,1,0,1,0,0,1,0,0,1,0] = .region 15 (O33 [1,1,1,1,0,1,0,0,1,0,0,1,0]) false := by kernel_rfl
theorem r33_15 {M : Mem} {call : CallM} {K : Array Value → Mem → R} :
    opsK Try.prog (fun _ => call) (O33 [1,1,1,1,0,1,0,0,1,0,0,1,0]) (O33 [1,1,1,1,0,1,0,0,1,0,0,1,0]).toList 0 #[g0,g1,g2,g3,g4,g5,g6,g7,g8,g9,g10,g11,g12,g13,g14,g15,g16,g17,g18,g19,g20,g21,g22,g23,g24,g25,g26,g27,g28,g29,g30,g31,g32,g33,g34,g35,g36,g37,g38,g39,g40,g41,g42,g43,g44,g45,g46,g47,g48,g49,g50,g51,g52,g53,g54,g55,g56,g57,g58,g59,g60,g61,g62,g63,g64,g65,g66,g67,g68,g69,g70,g71,g72,g73,g74,g75,g76,g77,g78,g79,g80,g81,g82,g83,g84,g85,g86,g87,g88,g89,g90,g91,g92,g93,g94,g95,g96,g97,g98,g99,g100,g101,g102,g103,g104,g105,g106,g107,g108] M K = K #[g0,g1,g2,g3,g4,g5,g6,g7,g8,g9,g10,g11,g12,.int .i64 0,g14,g15,g16,g17,g18,g19,g20,g21,g22,g23,g24,g25,g26,g27,g28,g29,g30,g31,g32,g33,g34,g35,g36,g37,g38,g39,g40,g41,g42,g43,g44,g45,g46,g47,g48,g49,g50,g51,g52,g53,g54,g55,g56,g57,g58,g59,g60,g61,g62,g63,g64,g65,g66,g67,g68,g69,g70,g71,g72,g73,g74,g75,g76,g77,g78,g79,g80,g81,g82,g83,g84,g85,g86,g87,g88,g89,g90,g91,g92,g93,g94,g95,g96,g97,g98,g99,g100,g101,g102,g103,g104,g105,g106,g107,g108] M := by kernel_rfl
theorem k33_47 : P33 [1,1,1,1,0,1,0,0,1,0,0,1,1] = .block 2 (P33 [1,1,1,1,0,1,0,0,1,0,0,1,1,0]) := by kernel_rfl
theorem k33_48 : P33 [1,1,1,1,0,1,0,0,1,0,0,1,1,0] = .loop (P33 [1,1,1,1,0,1,0,0,1,0,0,1,1,0,0]) := by kernel_rfl
theorem k33_49 : P33 [1,1,1,1,0,1,0,0,0,1,1] = .exit 0 := by kernel_rfl
theorem k33_50 : P33 [1,1,1,1,1] = .seq (P33 [1,1,1,1,1,0]) (P33 [1,1,1,1,1,1]) := by kernel_rfl
theorem k33_51 : P33 [1,1,1,1,1,0] = .seq (P33 [1,1,1,1,1,0,0]) (P33 [1,1,1,1,1,0,1]) := by kernel_rfl
theorem k33_52 : P33 [1,1,1,1,1,0,0] = .region 19 (O33 [1,1,1,1,1,0,0]) false := by kernel_rfl
theorem r33_19 {M : Mem} {call : CallM} {K : Array Value → Mem → R} :
    opsK Try.prog (fun _ => call) (O33 [1,1,1,1,1,0,0]) (O33 [1,1,1,1,1,0,0]).toList 0 #[g0,g1,g2,g3,g4,g5,g6,g7,g8,g9,g10,g11,g12,g13,g14,g15,g16,g17,g18,g19,g20,g21,g22,g23,g24,g25,g26,g27,g28,g29,g30,g31,g32,g33,g34,g35,g36,g37,g38,g39,g40,g41,g42,g43,g44,g45,g46,g47,g48,g49,g50,g51,g52,g53,g54,g55,g56,g57,g58,g59,g60,g61,g62,g63,g64,g65,g66,g67,g68,g69,g70,g71,g72,g73,g74,g75,g76,g77,g78,g79,g80,g81,g82,g83,g84,g85,g86,g87,g88,g89,g90,g91,g92,g93,g94,g95,g96,g97,g98,g99,g100,g101,g102,g103,g104,g105,g106,g107,g108] M K = K #[g0,g1,g2,g3,g4,g5,g6,g7,g8,g9,g10,g11,g12,g13,.int .i64 0,g15,g16,g17,g18,g19,g20,g21,g22,g23,g24,g25,g26,g27,g28,g29,g30,g31,g32,g33,g34,g35,g36,g37,g38,g39,g40,g41,g42,g43,g44,g45,g46,g47,g48,g49,g50,g51,g52,g53,g54,g55,g56,g57,g58,g59,g60,g61,g62,g63,g64,g65,g66,g67,g68,g69,g70,g71,g72,g73,g74,g75,g76,g77,g78,g79,g80,g81,g82,g83,g84,g85,g86,g87,g88,g89,g90,g91,g92,g93,g94,g95,g96,g97,g98,g99,g100,g101,g102,g103,g104,g105,g106,g107,g108] M := by kernel_rfl
theorem k33_53 : P33 [1,1,1,1,1,0,1] = .block 4 (P33 [1,1,1,1,1,0,1,0]) := by kernel_rfl
theorem k33_54 : P33 [1,1,1,1,1,0,1,0] = .loop (P33 [1,1,1,1,1,0,1,0,0]) := by kernel_rfl
theorem k33_55 : P33 [1,1,1,1,0,1,0,0,1,1] = .region 13 (O33 [1,1,1,1,0,1,0,0,1,1]) false := by kernel_rfl
theorem r33_13 {x12 : Int} {M : Mem} {call : CallM} {K : Array Value → Mem → R} :
    opsK Try.prog (fun _ => call) (O33 [1,1,1,1,0,1,0,0,1,1]) (O33 [1,1,1,1,0,1,0,0,1,1]).toList 0 #[g0,g1,g2,g3,g4,g5,g6,g7,g8,g9,g10,g11,.int .i64 x12,g13,g14,g15,g16,g17,g18,g19,g20,g21,g22,g23,g24,g25,g26,g27,g28,g29,g30,g31,g32,g33,g34,g35,g36,g37,g38,g39,g40,g41,g42,g43,g44,g45,g46,g47,g48,g49,g50,g51,g52,g53,g54,g55,g56,g57,g58,g59,g60,g61,g62,g63,g64,g65,g66,g67,g68,g69,g70,g71,g72,g73,g74,g75,g76,g77,g78,g79,g80,g81,g82,g83,g84,g85,g86,g87,g88,g89,g90,g91,g92,g93,g94,g95,g96,g97,g98,g99,g100,g101,g102,g103,g104,g105,g106,g107,g108] M K = K #[g0,g1,g2,g3,g4,g5,g6,g7,g8,g9,g10,g11,.int .i64 (IntKind.i64.wrap (x12 + 1)),g13,g14,g15,g16,g17,g18,g19,g20,g21,g22,g23,g24,g25,g26,g27,g28,g29,g30,g31,g32,g33,g34,g35,g36,g37,g38,g39,g40,g41,g42,g43,g44,g45,g46,g47,g48,g49,g50,g51,g52,g53,g54,g55,g56,g57,g58,g59,g60,g61,.int .i64 x12,.int .i64 (IntKind.i64.wrap (x12 + 1)),g64,g65,g66,g67,g68,g69,g70,g71,g72,g73,g74,g75,g76,g77,g78,g79,g80,g81,g82,g83,g84,g85,g86,g87,g88,g89,g90,g91,g92,g93,g94,g95,g96,g97,g98,g99,g100,g101,g102,g103,g104,g105,g106,g107,g108] M := by kernel_rfl
theorem k33_56 : P33 [1,1,1,1,0,1,0,0,1,0,0,1,1,0,0] = .seq (P33 [1,1,1,1,0,1,0,0,1,0,0,1,1,0,0,0]) (P33 [1,1,1,1,0,1,0,0,1,0,0,1,1,0,0,1]) := by kernel_rfl
theorem k33_57 : P33 [1,1,1,1,0,1,0,0,1,0,0,1,1,0,0,0] = .seq (P33 [1,1,1,1,0,1,0,0,1,0,0,1,1,0,0,0,0]) (P33 [1,1,1,1,0,1,0,0,1,0,0,1,1,0,0,0,1]) := by kernel_rfl
theorem k33_58 : P33 [1,1,1,1,0,1,0,0,1,0,0,1,1,0,0,0,0] = .region 16 (O33 [1,1,1,1,0,1,0,0,1,0,0,1,1,0,0,0,0]) false := by kernel_rfl
theorem r33_16 {x10 x13 : Int} {M : Mem} {call : CallM} {K : Array Value → Mem → R} :
    opsK Try.prog (fun _ => call) (O33 [1,1,1,1,0,1,0,0,1,0,0,1,1,0,0,0,0]) (O33 [1,1,1,1,0,1,0,0,1,0,0,1,1,0,0,0,0]).toList 0 #[g0,g1,g2,g3,g4,g5,g6,g7,g8,g9,.int .i64 x10,g11,g12,.int .i64 x13,g14,g15,g16,g17,g18,g19,g20,g21,g22,g23,g24,g25,g26,g27,g28,g29,g30,g31,g32,g33,g34,g35,g36,g37,g38,g39,g40,g41,g42,g43,g44,g45,g46,g47,g48,g49,g50,g51,g52,g53,g54,g55,g56,g57,g58,g59,g60,g61,g62,g63,g64,g65,g66,g67,g68,g69,g70,g71,g72,g73,g74,g75,g76,g77,g78,g79,g80,g81,g82,g83,g84,g85,g86,g87,g88,g89,g90,g91,g92,g93,g94,g95,g96,g97,g98,g99,g100,g101,g102,g103,g104,g105,g106,g107,g108] M K = K #[g0,g1,g2,g3,g4,g5,g6,g7,g8,g9,.int .i64 x10,g11,g12,.int .i64 x13,g14,g15,g16,g17,g18,g19,g20,g21,g22,g23,g24,g25,g26,g27,g28,g29,g30,g31,g32,g33,g34,g35,g36,g37,g38,g39,g40,g41,g42,g43,g44,g45,g46,g47,g48,g49,g50,g51,g52,g53,g54,g55,g56,g57,g58,g59,g60,g61,g62,g63,g64,g65,g66,g67,g68,.int .i64 x13,.int .i64 x10,.bool (decide (x13 < x10)),g72,g73,g74,g75,g76,g77,g78,g79,g80,g81,g82,g83,g84,g85,g86,g87,g88,g89,g90,g91,g92,g93,g94,g95,g96,g97,g98,g99,g100,g101,g102,g103,g104,g105,g106,g107,g108] M := by kernel_rfl
theorem c33_59 : P33 [1,1,1,1,0,1,0,0,1,0,0,1,1,0,0,0,1] = .cond (.tmp 71) (P33 [1,1,1,1,0,1,0,0,1,0,0,1,1,0,0,0,1,0]) (P33 [1,1,1,1,0,1,0,0,1,0,0,1,1,0,0,0,1,1]) := by kernel_rfl
theorem k33_60 : P33 [1,1,1,1,0,1,0,0,1,0,0,1,1,0,0,0,1,0] = .skip := by kernel_rfl
theorem k33_61 : P33 [1,1,1,1,0,1,0,0,1,0,0,1,1,0,0,1] = .seq (P33 [1,1,1,1,0,1,0,0,1,0,0,1,1,0,0,1,0]) (P33 [1,1,1,1,0,1,0,0,1,0,0,1,1,0,0,1,1]) := by kernel_rfl
theorem k33_62 : P33 [1,1,1,1,0,1,0,0,1,0,0,1,1,0,0,1,0] = .block 3 (P33 [1,1,1,1,0,1,0,0,1,0,0,1,1,0,0,1,0,0]) := by kernel_rfl
theorem k33_63 : P33 [1,1,1,1,0,1,0,0,1,0,0,1,1,0,0,1,0,0] = .region 18 (O33 [1,1,1,1,0,1,0,0,1,0,0,1,1,0,0,1,0,0]) true ∧ drawOk (O33 [1,1,1,1,0,1,0,0,1,0,0,1,1,0,0,1,0,0]) = true := ⟨by kernel_rfl, by kernel_rfl⟩
theorem r33_18 {Ax0 : Option Addr} {lx0 cx0 : Nat} {Ax1 : Option Addr} {lx1 cx1 : Nat} {Ax11 : Option Addr} {lx11 cx11 : Nat} {x12 x13 : Int} {M : Mem} {call : CallM} {K : Array Value → Mem → R} :
    opsI Try.prog (callAt call (O33 [1,1,1,1,0,1,0,0,1,0,0,1,1,0,0,1,0,0])) (O33 [1,1,1,1,0,1,0,0,1,0,0,1,1,0,0,1,0,0]) (ordOf (O33 [1,1,1,1,0,1,0,0,1,0,0,1,1,0,0,1,0,0])) [] #[.slice Ax0 lx0 cx0,.slice Ax1 lx1 cx1,g2,g3,g4,g5,g6,g7,g8,g9,g10,.slice Ax11 lx11 cx11,.int .i64 x12,.int .i64 x13,g14,g15,g16,g17,g18,g19,g20,g21,g22,g23,g24,g25,g26,g27,g28,g29,g30,g31,g32,g33,g34,g35,g36,g37,g38,g39,g40,g41,g42,g43,g44,g45,g46,g47,g48,g49,g50,g51,g52,g53,g54,g55,g56,g57,g58,g59,g60,g61,g62,g63,g64,g65,g66,g67,g68,g69,g70,g71,g72,g73,g74,g75,g76,g77,g78,g79,g80,g81,g82,g83,g84,g85,g86,g87,g88,g89,g90,g91,g92,g93,g94,g95,g96,g97,g98,g99,g100,g101,g102,g103,g104,g105,g106,g107,g108] M K = (idxA Ax11 lx11 1 x13).bind fun a_1 => (M.intAt .i64 a_1.block a_1.off).bind fun x_2 => (idxA Ax1 lx1 1 x12).bind fun a_3 => (M.intAt .i64 a_3.block a_3.off).bind fun x_4 => (idxA Ax0 lx0 1 x12).bind fun a_5 => (M.slAt a_5.block a_5.off).bind fun s_6 => (idxA s_6.1 (s_6.2.1) 1 x13).bind fun a_7 => (M.intAt .i64 a_7.block a_7.off).bind fun x_8 => (idxA Ax11 lx11 1 x13).bind fun a_9 => (M.put a_9.block a_9.off (.int .i64 (IntKind.i64.wrap (x_2 + (IntKind.i64.wrap (x_4 * x_8)))))).bind fun M_10 => K #[.slice Ax0 lx0 cx0,.slice Ax1 lx1 cx1,g2,g3,g4,g5,g6,g7,g8,g9,g10,.slice Ax11 lx11 cx11,.int .i64 x12,.int .i64 x13,g14,g15,g16,g17,g18,g19,g20,g21,g22,g23,g24,g25,g26,g27,g28,g29,g30,g31,g32,g33,g34,g35,g36,g37,g38,g39,g40,g41,g42,g43,g44,g45,g46,g47,g48,g49,g50,g51,g52,g53,g54,g55,g56,g57,g58,g59,g60,g61,g62,g63,g64,g65,g66,g67,g68,g69,g70,g71,g72,g73,.slice Ax11 lx11 cx11,.int .i64 x13,.slice Ax11 lx11 cx11,.int .i64 x13,.pointer (some a_1),.int .i64 x_2,.slice Ax1 lx1 cx1,.int .i64 x12,.pointer (some a_3),.int .i64 x_4,.slice Ax0 lx0 cx0,.int .i64 x12,.pointer (some a_5),.slice s_6.1 (s_6.2.1) (s_6.2.2),.int .i64 x13,.pointer (some a_7),.int .i64 x_8,.int .i64 (IntKind.i64.wrap (x_4 * x_8)),.int .i64 (IntKind.i64.wrap (x_2 + (IntKind.i64.wrap (x_4 * x_8)))),.pointer (some a_9),g94,g95,g96,g97,g98,g99,g100,g101,g102,g103,g104,g105,g106,g107,g108] M_10 := by kernel_rfl
theorem k33_64 : P33 [1,1,1,1,0,1,0,0,1,0,0,1,1,0,0,1,1] = .region 17 (O33 [1,1,1,1,0,1,0,0,1,0,0,1,1,0,0,1,1]) false := by kernel_rfl
theorem r33_17 {x13 : Int} {M : Mem} {call : CallM} {K : Array Value → Mem → R} :
    opsK Try.prog (fun _ => call) (O33 [1,1,1,1,0,1,0,0,1,0,0,1,1,0,0,1,1]) (O33 [1,1,1,1,0,1,0,0,1,0,0,1,1,0,0,1,1]).toList 0 #[g0,g1,g2,g3,g4,g5,g6,g7,g8,g9,g10,g11,g12,.int .i64 x13,g14,g15,g16,g17,g18,g19,g20,g21,g22,g23,g24,g25,g26,g27,g28,g29,g30,g31,g32,g33,g34,g35,g36,g37,g38,g39,g40,g41,g42,g43,g44,g45,g46,g47,g48,g49,g50,g51,g52,g53,g54,g55,g56,g57,g58,g59,g60,g61,g62,g63,g64,g65,g66,g67,g68,g69,g70,g71,g72,g73,g74,g75,g76,g77,g78,g79,g80,g81,g82,g83,g84,g85,g86,g87,g88,g89,g90,g91,g92,g93,g94,g95,g96,g97,g98,g99,g100,g101,g102,g103,g104,g105,g106,g107,g108] M K = K #[g0,g1,g2,g3,g4,g5,g6,g7,g8,g9,g10,g11,g12,.int .i64 (IntKind.i64.wrap (x13 + 1)),g14,g15,g16,g17,g18,g19,g20,g21,g22,g23,g24,g25,g26,g27,g28,g29,g30,g31,g32,g33,g34,g35,g36,g37,g38,g39,g40,g41,g42,g43,g44,g45,g46,g47,g48,g49,g50,g51,g52,g53,g54,g55,g56,g57,g58,g59,g60,g61,g62,g63,g64,g65,g66,g67,g68,g69,g70,g71,.int .i64 x13,.int .i64 (IntKind.i64.wrap (x13 + 1)),g74,g75,g76,g77,g78,g79,g80,g81,g82,g83,g84,g85,g86,g87,g88,g89,g90,g91,g92,g93,g94,g95,g96,g97,g98,g99,g100,g101,g102,g103,g104,g105,g106,g107,g108] M := by kernel_rfl
theorem k33_65 : P33 [1,1,1,1,0,1,0,0,1,0,0,1,1,0,0,0,1,1] = .exit 2 := by kernel_rfl
theorem k33_66 : P33 [1,1,1,1,1,0,1,0,0] = .seq (P33 [1,1,1,1,1,0,1,0,0,0]) (P33 [1,1,1,1,1,0,1,0,0,1]) := by kernel_rfl
theorem k33_67 : P33 [1,1,1,1,1,0,1,0,0,0] = .seq (P33 [1,1,1,1,1,0,1,0,0,0,0]) (P33 [1,1,1,1,1,0,1,0,0,0,1]) := by kernel_rfl
theorem k33_68 : P33 [1,1,1,1,1,0,1,0,0,0,0] = .region 20 (O33 [1,1,1,1,1,0,1,0,0,0,0]) false := by kernel_rfl
theorem r33_20 {x10 x14 : Int} {M : Mem} {call : CallM} {K : Array Value → Mem → R} :
    opsK Try.prog (fun _ => call) (O33 [1,1,1,1,1,0,1,0,0,0,0]) (O33 [1,1,1,1,1,0,1,0,0,0,0]).toList 0 #[g0,g1,g2,g3,g4,g5,g6,g7,g8,g9,.int .i64 x10,g11,g12,g13,.int .i64 x14,g15,g16,g17,g18,g19,g20,g21,g22,g23,g24,g25,g26,g27,g28,g29,g30,g31,g32,g33,g34,g35,g36,g37,g38,g39,g40,g41,g42,g43,g44,g45,g46,g47,g48,g49,g50,g51,g52,g53,g54,g55,g56,g57,g58,g59,g60,g61,g62,g63,g64,g65,g66,g67,g68,g69,g70,g71,g72,g73,g74,g75,g76,g77,g78,g79,g80,g81,g82,g83,g84,g85,g86,g87,g88,g89,g90,g91,g92,g93,g94,g95,g96,g97,g98,g99,g100,g101,g102,g103,g104,g105,g106,g107,g108] M K = K #[g0,g1,g2,g3,g4,g5,g6,g7,g8,g9,.int .i64 x10,g11,g12,g13,.int .i64 x14,g15,g16,g17,g18,g19,g20,g21,g22,g23,g24,g25,g26,g27,g28,g29,g30,g31,g32,g33,g34,g35,g36,g37,g38,g39,g40,g41,g42,g43,g44,g45,g46,g47,g48,g49,g50,g51,g52,g53,g54,g55,g56,g57,g58,g59,g60,g61,g62,g63,g64,g65,g66,g67,g68,g69,g70,g71,g72,g73,g74,g75,g76,g77,g78,g79,g80,g81,g82,g83,g84,g85,g86,g87,g88,g89,g90,g91,g92,g93,.int .i64 x14,.int .i64 x10,.bool (decide (x14 < x10)),g97,g98,g99,g100,g101,g102,g103,g104,g105,g106,g107,g108] M := by kernel_rfl
theorem c33_69 : P33 [1,1,1,1,1,0,1,0,0,0,1] = .cond (.tmp 96) (P33 [1,1,1,1,1,0,1,0,0,0,1,0]) (P33 [1,1,1,1,1,0,1,0,0,0,1,1]) := by kernel_rfl
theorem k33_70 : P33 [1,1,1,1,1,0,1,0,0,0,1,0] = .skip := by kernel_rfl
theorem k33_71 : P33 [1,1,1,1,1,0,1,0,0,1] = .seq (P33 [1,1,1,1,1,0,1,0,0,1,0]) (P33 [1,1,1,1,1,0,1,0,0,1,1]) := by kernel_rfl
theorem k33_72 : P33 [1,1,1,1,1,0,1,0,0,1,0] = .block 5 (P33 [1,1,1,1,1,0,1,0,0,1,0,0]) := by kernel_rfl
theorem k33_73 : P33 [1,1,1,1,1,0,1,0,0,1,0,0] = .region 22 (O33 [1,1,1,1,1,0,1,0,0,1,0,0]) false := by kernel_rfl
theorem r33_22 {Ax11 : Option Addr} {lx11 cx11 : Nat} {x14 : Int} {M : Mem} {call : CallM} {K : Array Value → Mem → R} :
    opsK Try.prog (fun _ => call) (O33 [1,1,1,1,1,0,1,0,0,1,0,0]) (O33 [1,1,1,1,1,0,1,0,0,1,0,0]).toList 0 #[g0,g1,g2,g3,g4,g5,g6,g7,g8,g9,g10,.slice Ax11 lx11 cx11,g12,g13,.int .i64 x14,g15,g16,g17,g18,g19,g20,g21,g22,g23,g24,g25,g26,g27,g28,g29,g30,g31,g32,g33,g34,g35,g36,g37,g38,g39,g40,g41,g42,g43,g44,g45,g46,g47,g48,g49,g50,g51,g52,g53,g54,g55,g56,g57,g58,g59,g60,g61,g62,g63,g64,g65,g66,g67,g68,g69,g70,g71,g72,g73,g74,g75,g76,g77,g78,g79,g80,g81,g82,g83,g84,g85,g86,g87,g88,g89,g90,g91,g92,g93,g94,g95,g96,g97,g98,g99,g100,g101,g102,g103,g104,g105,g106,g107,g108] M K = (idxA Ax11 lx11 1 x14).bind fun a_1 => (M.intAt .i64 a_1.block a_1.off).bind fun x_2 => (idxA Ax11 lx11 1 x14).bind fun a_3 => (M.put a_3.block a_3.off (.int .i64 ((IntKind.i64.wrap (x_2 + 2048)).fdiv (2 ^ 12)))).bind fun M_4 => K #[g0,g1,g2,g3,g4,g5,g6,g7,g8,g9,g10,.slice Ax11 lx11 cx11,g12,g13,.int .i64 x14,g15,g16,g17,g18,g19,g20,g21,g22,g23,g24,g25,g26,g27,g28,g29,g30,g31,g32,g33,g34,g35,g36,g37,g38,g39,g40,g41,g42,g43,g44,g45,g46,g47,g48,g49,g50,g51,g52,g53,g54,g55,g56,g57,g58,g59,g60,g61,g62,g63,g64,g65,g66,g67,g68,g69,g70,g71,g72,g73,g74,g75,g76,g77,g78,g79,g80,g81,g82,g83,g84,g85,g86,g87,g88,g89,g90,g91,g92,g93,g94,g95,g96,g97,g98,.slice Ax11 lx11 cx11,.int .i64 x14,.slice Ax11 lx11 cx11,.int .i64 x14,.pointer (some a_1),.int .i64 x_2,.int .i64 (IntKind.i64.wrap (x_2 + 2048)),.int .i64 ((IntKind.i64.wrap (x_2 + 2048)).fdiv (2 ^ 12)),.pointer (some a_3),g108] M_4 := by kernel_rfl
theorem k33_74 : P33 [1,1,1,1,1,0,1,0,0,1,1] = .region 21 (O33 [1,1,1,1,1,0,1,0,0,1,1]) false := by kernel_rfl
theorem r33_21 {x14 : Int} {M : Mem} {call : CallM} {K : Array Value → Mem → R} :
    opsK Try.prog (fun _ => call) (O33 [1,1,1,1,1,0,1,0,0,1,1]) (O33 [1,1,1,1,1,0,1,0,0,1,1]).toList 0 #[g0,g1,g2,g3,g4,g5,g6,g7,g8,g9,g10,g11,g12,g13,.int .i64 x14,g15,g16,g17,g18,g19,g20,g21,g22,g23,g24,g25,g26,g27,g28,g29,g30,g31,g32,g33,g34,g35,g36,g37,g38,g39,g40,g41,g42,g43,g44,g45,g46,g47,g48,g49,g50,g51,g52,g53,g54,g55,g56,g57,g58,g59,g60,g61,g62,g63,g64,g65,g66,g67,g68,g69,g70,g71,g72,g73,g74,g75,g76,g77,g78,g79,g80,g81,g82,g83,g84,g85,g86,g87,g88,g89,g90,g91,g92,g93,g94,g95,g96,g97,g98,g99,g100,g101,g102,g103,g104,g105,g106,g107,g108] M K = K #[g0,g1,g2,g3,g4,g5,g6,g7,g8,g9,g10,g11,g12,g13,.int .i64 (IntKind.i64.wrap (x14 + 1)),g15,g16,g17,g18,g19,g20,g21,g22,g23,g24,g25,g26,g27,g28,g29,g30,g31,g32,g33,g34,g35,g36,g37,g38,g39,g40,g41,g42,g43,g44,g45,g46,g47,g48,g49,g50,g51,g52,g53,g54,g55,g56,g57,g58,g59,g60,g61,g62,g63,g64,g65,g66,g67,g68,g69,g70,g71,g72,g73,g74,g75,g76,g77,g78,g79,g80,g81,g82,g83,g84,g85,g86,g87,g88,g89,g90,g91,g92,g93,g94,g95,g96,.int .i64 x14,.int .i64 (IntKind.i64.wrap (x14 + 1)),g99,g100,g101,g102,g103,g104,g105,g106,g107,g108] M := by kernel_rfl
theorem k33_75 : P33 [1,1,1,1,1,0,1,0,0,0,1,1] = .exit 4 := by kernel_rfl
theorem k33_76 : P33 [1,1,1,1,1,1] = .seq (P33 [1,1,1,1,1,1,0]) (P33 [1,1,1,1,1,1,1]) := by kernel_rfl
theorem k33_77 : P33 [1,1,1,1,1,1,0] = .region 23 (O33 [1,1,1,1,1,1,0]) false := by kernel_rfl
theorem r33_23 {Ax11 : Option Addr} {lx11 cx11 : Nat} {M : Mem} {call : CallM} {K : Array Value → Mem → R} :
    opsK Try.prog (fun _ => call) (O33 [1,1,1,1,1,1,0]) (O33 [1,1,1,1,1,1,0]).toList 0 #[g0,g1,g2,g3,g4,g5,g6,g7,g8,g9,g10,.slice Ax11 lx11 cx11,g12,g13,g14,g15,g16,g17,g18,g19,g20,g21,g22,g23,g24,g25,g26,g27,g28,g29,g30,g31,g32,g33,g34,g35,g36,g37,g38,g39,g40,g41,g42,g43,g44,g45,g46,g47,g48,g49,g50,g51,g52,g53,g54,g55,g56,g57,g58,g59,g60,g61,g62,g63,g64,g65,g66,g67,g68,g69,g70,g71,g72,g73,g74,g75,g76,g77,g78,g79,g80,g81,g82,g83,g84,g85,g86,g87,g88,g89,g90,g91,g92,g93,g94,g95,g96,g97,g98,g99,g100,g101,g102,g103,g104,g105,g106,g107,g108] M K = K #[g0,g1,g2,g3,.slice Ax11 lx11 cx11,g5,g6,g7,g8,g9,g10,.slice Ax11 lx11 cx11,g12,g13,g14,g15,g16,g17,g18,g19,g20,g21,g22,g23,g24,g25,g26,g27,g28,g29,g30,g31,g32,g33,g34,g35,g36,g37,g38,g39,g40,g41,g42,g43,g44,g45,g46,g47,g48,g49,g50,g51,g52,g53,g54,g55,g56,g57,g58,g59,g60,g61,g62,g63,g64,g65,g66,g67,g68,g69,g70,g71,g72,g73,g74,g75,g76,g77,g78,g79,g80,g81,g82,g83,g84,g85,g86,g87,g88,g89,g90,g91,g92,g93,g94,g95,g96,g97,g98,g99,g100,g101,g102,g103,g104,g105,g106,g107,.slice Ax11 lx11 cx11] M := by kernel_rfl
theorem k33_78 : P33 [1,1,1,1,1,1,1] = .ret := by kernel_rfl
noncomputable def S33_1 : List Item := [.code (P33 [1,1,1,1,0,1,0,0]), .inLoop (P33 [1,1,1,1,0,1,0,0]), .inBlock 0, .code (P33 [1,1,1,1,1])]
def A33_1 (Ax0 : Option Addr) (lx0 cx0 : Nat) (Ax1 : Option Addr) (lx1 cx1 : Nat) (x10 : Int) (Ax11 : Option Addr) (lx11 cx11 : Nat) (x12 : Int) (M : Mem) (Q : Value → Mem → Prop) : Prop := ∀ (g2 g3 g4 g5 g6 g7 g8 g9 g13 g14 g15 g16 g17 g18 g19 g20 g21 g22 g23 g24 g25 g26 g27 g28 g29 g30 g31 g32 g33 g34 g35 g36 g37 g38 g39 g40 g41 g42 g43 g44 g45 g46 g47 g48 g49 g50 g51 g52 g53 g54 g55 g56 g57 g58 g59 g60 g61 g62 g63 g64 g65 g66 g67 g68 g69 g70 g71 g72 g73 g74 g75 g76 g77 g78 g79 g80 g81 g82 g83 g84 g85 g86 g87 g88 g89 g90 g91 g92 g93 g94 g95 g96 g97 g98 g99 g100 g101 g102 g103 g104 g105 g106 g107 g108 : Value), Rn Try.prog Try.f33 S33_1 #[.slice Ax0 lx0 cx0, .slice Ax1 lx1 cx1, g2, g3, g4, g5, g6, g7, g8, g9, .int .i64 x10, .slice Ax11 lx11 cx11, .int .i64 x12, g13, g14, g15, g16, g17, g18, g19, g20, g21, g22, g23, g24, g25, g26, g27, g28, g29, g30, g31, g32, g33, g34, g35, g36, g37, g38, g39, g40, g41, g42, g43, g44, g45, g46, g47, g48, g49, g50, g51, g52, g53, g54, g55, g56, g57, g58, g59, g60, g61, g62, g63, g64, g65, g66, g67, g68, g69, g70, g71, g72, g73, g74, g75, g76, g77, g78, g79, g80, g81, g82, g83, g84, g85, g86, g87, g88, g89, g90, g91, g92, g93, g94, g95, g96, g97, g98, g99, g100, g101, g102, g103, g104, g105, g106, g107, g108] M Q
noncomputable def S33_2 : List Item := [.code (P33 [1,1,1,1,0,1,0,0,1,1]), .inLoop (P33 [1,1,1,1,0,1,0,0]), .inBlock 0, .code (P33 [1,1,1,1,1])]
def A33_2 (Ax0 : Option Addr) (lx0 cx0 : Nat) (Ax1 : Option Addr) (lx1 cx1 : Nat) (x10 : Int) (Ax11 : Option Addr) (lx11 cx11 : Nat) (x12 : Int) (M : Mem) (Q : Value → Mem → Prop) : Prop := ∀ (g2 g3 g4 g5 g6 g7 g8 g9 g13 g14 g15 g16 g17 g18 g19 g20 g21 g22 g23 g24 g25 g26 g27 g28 g29 g30 g31 g32 g33 g34 g35 g36 g37 g38 g39 g40 g41 g42 g43 g44 g45 g46 g47 g48 g49 g50 g51 g52 g53 g54 g55 g56 g57 g58 g59 g60 g61 g62 g63 g64 g65 g66 g67 g68 g69 g70 g71 g72 g73 g74 g75 g76 g77 g78 g79 g80 g81 g82 g83 g84 g85 g86 g87 g88 g89 g90 g91 g92 g93 g94 g95 g96 g97 g98 g99 g100 g101 g102 g103 g104 g105 g106 g107 g108 : Value), Rn Try.prog Try.f33 S33_2 #[.slice Ax0 lx0 cx0, .slice Ax1 lx1 cx1, g2, g3, g4, g5, g6, g7, g8, g9, .int .i64 x10, .slice Ax11 lx11 cx11, .int .i64 x12, g13, g14, g15, g16, g17, g18, g19, g20, g21, g22, g23, g24, g25, g26, g27, g28, g29, g30, g31, g32, g33, g34, g35, g36, g37, g38, g39, g40, g41, g42, g43, g44, g45, g46, g47, g48, g49, g50, g51, g52, g53, g54, g55, g56, g57, g58, g59, g60, g61, g62, g63, g64, g65, g66, g67, g68, g69, g70, g71, g72, g73, g74, g75, g76, g77, g78, g79, g80, g81, g82, g83, g84, g85, g86, g87, g88, g89, g90, g91, g92, g93, g94, g95, g96, g97, g98, g99, g100, g101, g102, g103, g104, g105, g106, g107, g108] M Q
noncomputable def S33_3 : List Item := [.code (P33 [1,1,1,1,0,1,0,0,1,0,0,1,1,0,0]), .inLoop (P33 [1,1,1,1,0,1,0,0,1,0,0,1,1,0,0]), .inBlock 2, .inBlock 1, .code (P33 [1,1,1,1,0,1,0,0,1,1]), .inLoop (P33 [1,1,1,1,0,1,0,0]), .inBlock 0, .code (P33 [1,1,1,1,1])]
def A33_3 (Ax0 : Option Addr) (lx0 cx0 : Nat) (Ax1 : Option Addr) (lx1 cx1 : Nat) (x10 : Int) (Ax11 : Option Addr) (lx11 cx11 : Nat) (x12 x13 : Int) (M : Mem) (Q : Value → Mem → Prop) : Prop := ∀ (g2 g3 g4 g5 g6 g7 g8 g9 g14 g15 g16 g17 g18 g19 g20 g21 g22 g23 g24 g25 g26 g27 g28 g29 g30 g31 g32 g33 g34 g35 g36 g37 g38 g39 g40 g41 g42 g43 g44 g45 g46 g47 g48 g49 g50 g51 g52 g53 g54 g55 g56 g57 g58 g59 g60 g61 g62 g63 g64 g65 g66 g67 g68 g69 g70 g71 g72 g73 g74 g75 g76 g77 g78 g79 g80 g81 g82 g83 g84 g85 g86 g87 g88 g89 g90 g91 g92 g93 g94 g95 g96 g97 g98 g99 g100 g101 g102 g103 g104 g105 g106 g107 g108 : Value), Rn Try.prog Try.f33 S33_3 #[.slice Ax0 lx0 cx0, .slice Ax1 lx1 cx1, g2, g3, g4, g5, g6, g7, g8, g9, .int .i64 x10, .slice Ax11 lx11 cx11, .int .i64 x12, .int .i64 x13, g14, g15, g16, g17, g18, g19, g20, g21, g22, g23, g24, g25, g26, g27, g28, g29, g30, g31, g32, g33, g34, g35, g36, g37, g38, g39, g40, g41, g42, g43, g44, g45, g46, g47, g48, g49, g50, g51, g52, g53, g54, g55, g56, g57, g58, g59, g60, g61, g62, g63, g64, g65, g66, g67, g68, g69, g70, g71, g72, g73, g74, g75, g76, g77, g78, g79, g80, g81, g82, g83, g84, g85, g86, g87, g88, g89, g90, g91, g92, g93, g94, g95, g96, g97, g98, g99, g100, g101, g102, g103, g104, g105, g106, g107, g108] M Q
noncomputable def S33_4 : List Item := [.code (P33 [1,1,1,1,1,0,1,0,0]), .inLoop (P33 [1,1,1,1,1,0,1,0,0]), .inBlock 4, .code (P33 [1,1,1,1,1,1])]
def A33_4 (x10 : Int) (Ax11 : Option Addr) (lx11 cx11 : Nat) (x14 : Int) (M : Mem) (Q : Value → Mem → Prop) : Prop := ∀ (g0 g1 g2 g3 g4 g5 g6 g7 g8 g9 g12 g13 g15 g16 g17 g18 g19 g20 g21 g22 g23 g24 g25 g26 g27 g28 g29 g30 g31 g32 g33 g34 g35 g36 g37 g38 g39 g40 g41 g42 g43 g44 g45 g46 g47 g48 g49 g50 g51 g52 g53 g54 g55 g56 g57 g58 g59 g60 g61 g62 g63 g64 g65 g66 g67 g68 g69 g70 g71 g72 g73 g74 g75 g76 g77 g78 g79 g80 g81 g82 g83 g84 g85 g86 g87 g88 g89 g90 g91 g92 g93 g94 g95 g96 g97 g98 g99 g100 g101 g102 g103 g104 g105 g106 g107 g108 : Value), Rn Try.prog Try.f33 S33_4 #[g0, g1, g2, g3, g4, g5, g6, g7, g8, g9, .int .i64 x10, .slice Ax11 lx11 cx11, g12, g13, .int .i64 x14, g15, g16, g17, g18, g19, g20, g21, g22, g23, g24, g25, g26, g27, g28, g29, g30, g31, g32, g33, g34, g35, g36, g37, g38, g39, g40, g41, g42, g43, g44, g45, g46, g47, g48, g49, g50, g51, g52, g53, g54, g55, g56, g57, g58, g59, g60, g61, g62, g63, g64, g65, g66, g67, g68, g69, g70, g71, g72, g73, g74, g75, g76, g77, g78, g79, g80, g81, g82, g83, g84, g85, g86, g87, g88, g89, g90, g91, g92, g93, g94, g95, g96, g97, g98, g99, g100, g101, g102, g103, g104, g105, g106, g107, g108] M Q
theorem w33_0 {Ax0 : Option Addr} {lx0 cx0 : Nat} {Ax1 : Option Addr} {lx1 cx1 : Nat} {M : Mem} {Q : Value → Mem → Prop} (H :
    ((((lx0 : Int)) = 0 →
     ∃ a1', idxA Ax1 lx1 1 0 = some a1' ∧
     ∃ x2', M.intAt .i64 a1'.block a1'.off = some x2' ∧
     ∃ a3', idxA Ax1 lx1 1 1 = some a3' ∧
     ∃ x4', M.intAt .i64 a3'.block a3'.off = some x4' ∧
     ∃ a5', idxA Ax1 lx1 1 2 = some a5' ∧
     ∃ x6', M.intAt .i64 a5'.block a5'.off = some x6' ∧
     ∃ a7', idxA Ax1 lx1 1 3 = some a7' ∧
     ∃ x8', M.intAt .i64 a7'.block a7'.off = some x8' ∧
     Q (.slice (some ⟨2 * M.nb.size, 0, none⟩) 4 4) (M.new (.cells #[.int .i64 (IntKind.i64.wrap ((IntKind.i64.wrap (x2' + x4')) - (IntKind.i64.wrap (((IntKind.i64.wrap ((IntKind.i64.wrap (x2' + x4')) - (IntKind.i64.wrap (x6' - x8')))).fdiv (2 ^ 1)) - x8')))), .int .i64 (IntKind.i64.wrap (((IntKind.i64.wrap ((IntKind.i64.wrap (x2' + x4')) - (IntKind.i64.wrap (x6' - x8')))).fdiv (2 ^ 1)) - x8')), .int .i64 (IntKind.i64.wrap (((IntKind.i64.wrap ((IntKind.i64.wrap (x2' + x4')) - (IntKind.i64.wrap (x6' - x8')))).fdiv (2 ^ 1)) - x4')), .int .i64 (IntKind.i64.wrap ((IntKind.i64.wrap (x6' - x8')) + (IntKind.i64.wrap (((IntKind.i64.wrap ((IntKind.i64.wrap (x2' + x4')) - (IntKind.i64.wrap (x6' - x8')))).fdiv (2 ^ 1)) - x4'))))] 3))) ∧
     (((lx0 : Int)) ≠ 0 →
     ∃ r9', makeP Try.prog 22 (.int .i64 (lx1 : Int)) (.int .i64 (lx1 : Int)) M = some r9' ∧
     ∃ s10', asS r9'.1 = some s10' ∧
     A33_1 Ax0 lx0 cx0 Ax1 lx1 cx1 (lx1 : Int) s10'.1 s10'.2.1 s10'.2.2 0 r9'.2 Q))) :
    Cn Try.prog 33 #[.slice Ax0 lx0 cx0, .slice Ax1 lx1 cx1] M Q := by
  refine Cn.of b33 d33 t33 ?_
  refine Rn.seq k33_0 (Rn.region k33_1 (fun call K => r33_0) (Rch.leaf (Rn.seq k33_2 (Rn.seq k33_3 (Rn.region k33_4 (fun call K => r33_1) (Rch.leaf ?_))))))
  refine Rn.cnd (v := ((lx0 : Int)) == 0) ⟨c33_5, rfl, by kernel_rfl⟩ (fun h => ?_) (fun h => ?_)
  · replace H := H.1 (eq_of_beq h)
    refine Rn.seq k33_6 (Rn.regionD k33_7 (fun call K => r33_2) (Rch.ex H fun a1' H => Rch.ex H fun x2' H => Rch.ex H fun a3' H => Rch.ex H fun x4' H => Rch.ex H fun a5' H => Rch.ex H fun x6' H => Rch.ex H fun a7' H => Rch.ex H fun x8' H => Rch.leaf (Rn.seq k33_8 ?_)))
    refine Rn.region k33_9 (fun call K => r33_3) (Rch.leaf (Rn.seq k33_10 (Rn.region k33_11 (fun call K => r33_4) (Rch.leaf (Rn.seq k33_12 (Rn.region k33_13 (fun call K => r33_5) (Rch.leaf (Rn.seq k33_14 (Rn.region k33_15 (fun call K => r33_6) (Rch.leaf (Rn.seq k33_16 ?_)))))))))))
    refine Rn.region k33_17 (fun call K => r33_7) (Rch.leaf (Rn.seq k33_18 (Rn.region k33_19 (fun call K => r33_8) (Rch.leaf ?_))))
    exact Rn.ret k33_20 e33 H
  · replace H := H.2 (ne_of_beq_false h)
    refine Rn.skip k33_22 (Rn.seq k33_23 (Rn.region k33_24 (fun call K => r33_9) (Rch.leaf (Rn.seq k33_25 (Rn.region k33_26 (fun call K => r33_10) (Rch.ex H fun r9' H => Rch.ex H fun s10' H => Rch.leaf (Rn.seq k33_27 (Rn.seq k33_28 (Rn.region k33_29 (fun call K => r33_11) ?_)))))))))
    refine Rch.leaf (Rn.block k33_30 (Rn.loop k33_31 ?_))
    exact H _ _ _ _ _ _ _ _ _ _ _ _ _ _ _ _ _ _ _ _ _ _ _ _ _ _ _ _ _ _ _ _ _ _ _ _ _ _ _ _ _ _ _ _ _ _ _ _ _ _ _ _ _ _ _ _ _ _ _ _ _ _ _ _ _ _ _ _ _ _ _ _ _ _ _ _ _ _ _ _ _ _ _ _ _ _ _ _ _ _ _ _ _ _ _ _ _ _ _ _ _ _ _ _

theorem w33_1 {Ax0 : Option Addr} {lx0 cx0 : Nat} {Ax1 : Option Addr} {lx1 cx1 : Nat} {x10 : Int} {Ax11 : Option Addr} {lx11 cx11 : Nat} {x12 : Int} {M : Mem} {Q : Value → Mem → Prop} (H :
    ((x12 < x10 →
     ∃ a11', idxA Ax1 lx1 1 x12 = some a11' ∧
     ∃ x12', M.intAt .i64 a11'.block a11'.off = some x12' ∧
     ((x12' = 0 →
      A33_2 Ax0 lx0 cx0 Ax1 lx1 cx1 x10 Ax11 lx11 cx11 x12 M Q) ∧
      (x12' ≠ 0 →
      A33_3 Ax0 lx0 cx0 Ax1 lx1 cx1 x10 Ax11 lx11 cx11 x12 0 M Q))) ∧
     (¬ (x12 < x10) →
     A33_4 x10 Ax11 lx11 cx11 0 M Q))) :
    A33_1 Ax0 lx0 cx0 Ax1 lx1 cx1 x10 Ax11 lx11 cx11 x12 M Q := by
  intro g2 g3 g4 g5 g6 g7 g8 g9 g13 g14 g15 g16 g17 g18 g19 g20 g21 g22 g23 g24 g25 g26 g27 g28 g29 g30 g31 g32 g33 g34 g35 g36 g37 g38 g39 g40 g41 g42 g43 g44 g45 g46 g47 g48 g49 g50 g51 g52 g53 g54 g55 g56 g57 g58 g59 g60 g61 g62 g63 g64 g65 g66 g67 g68 g69 g70 g71 g72 g73 g74 g75 g76 g77 g78 g79 g80 g81 g82 g83 g84 g85 g86 g87 g88 g89 g90 g91 g92 g93 g94 g95 g96 g97 g98 g99 g100 g101 g102 g103 g104 g105 g106 g107 g108
  refine Rn.seq k33_32 (Rn.seq k33_33 (Rn.region k33_34 (fun call K => r33_12) (Rch.leaf ?_)))
  refine Rn.cnd (v := decide (x12 < x10)) ⟨c33_35, rfl, by kernel_rfl⟩ (fun h => ?_) (fun h => ?_)
  · replace H := H.1 (of_decide_eq_true h)
    refine Rn.skip k33_36 (Rn.seq k33_37 (Rn.block k33_38 (Rn.seq k33_39 (Rn.seq k33_40 (Rn.region k33_41 (fun call K => r33_14) (Rch.ex H fun a11' H => Rch.ex H fun x12' H => Rch.leaf ?_))))))
    refine Rn.cnd (v := x12' == 0) ⟨c33_42, rfl, by kernel_rfl⟩ (fun h => ?_) (fun h => ?_)
    · replace H := H.1 (eq_of_beq h)
      refine Rn.exit k33_43 rfl ?_
      exact H _ _ _ _ _ _ _ _ _ _ _ _ _ _ _ _ _ _ _ _ _ _ _ _ _ _ _ _ _ _ _ _ _ _ _ _ _ _ _ _ _ _ _ _ _ _ _ _ _ _ _ _ _ _ _ _ _ _ _ _ _ _ _ _ _ _ _ _ _ _ _ _ _ _ _ _ _ _ _ _ _ _ _ _ _ _ _ _ _ _ _ _ _ _ _ _ _ _ _ _ _ _ _ _
    · replace H := H.2 (ne_of_beq_false h)
      refine Rn.skip k33_44 (Rn.seq k33_45 (Rn.region k33_46 (fun call K => r33_15) (Rch.leaf (Rn.block k33_47 (Rn.loop k33_48 ?_)))))
      exact H _ _ _ _ _ _ _ _ _ _ _ _ _ _ _ _ _ _ _ _ _ _ _ _ _ _ _ _ _ _ _ _ _ _ _ _ _ _ _ _ _ _ _ _ _ _ _ _ _ _ _ _ _ _ _ _ _ _ _ _ _ _ _ _ _ _ _ _ _ _ _ _ _ _ _ _ _ _ _ _ _ _ _ _ _ _ _ _ _ _ _ _ _ _ _ _ _ _ _ _ _ _ _
  · replace H := H.2 (of_decide_eq_false h)
    refine Rn.exit k33_49 rfl (Rn.seq k33_50 (Rn.seq k33_51 (Rn.region k33_52 (fun call K => r33_19) (Rch.leaf (Rn.block k33_53 (Rn.loop k33_54 ?_))))))
    exact H _ _ _ _ _ _ _ _ _ _ _ _ _ _ _ _ _ _ _ _ _ _ _ _ _ _ _ _ _ _ _ _ _ _ _ _ _ _ _ _ _ _ _ _ _ _ _ _ _ _ _ _ _ _ _ _ _ _ _ _ _ _ _ _ _ _ _ _ _ _ _ _ _ _ _ _ _ _ _ _ _ _ _ _ _ _ _ _ _ _ _ _ _ _ _ _ _ _ _ _ _ _ _ _ _ _

theorem w33_2 {Ax0 : Option Addr} {lx0 cx0 : Nat} {Ax1 : Option Addr} {lx1 cx1 : Nat} {x10 : Int} {Ax11 : Option Addr} {lx11 cx11 : Nat} {x12 : Int} {M : Mem} {Q : Value → Mem → Prop} (H :
    A33_1 Ax0 lx0 cx0 Ax1 lx1 cx1 x10 Ax11 lx11 cx11 (IntKind.i64.wrap (x12 + 1)) M Q) :
    A33_2 Ax0 lx0 cx0 Ax1 lx1 cx1 x10 Ax11 lx11 cx11 x12 M Q := by
  intro g2 g3 g4 g5 g6 g7 g8 g9 g13 g14 g15 g16 g17 g18 g19 g20 g21 g22 g23 g24 g25 g26 g27 g28 g29 g30 g31 g32 g33 g34 g35 g36 g37 g38 g39 g40 g41 g42 g43 g44 g45 g46 g47 g48 g49 g50 g51 g52 g53 g54 g55 g56 g57 g58 g59 g60 g61 g62 g63 g64 g65 g66 g67 g68 g69 g70 g71 g72 g73 g74 g75 g76 g77 g78 g79 g80 g81 g82 g83 g84 g85 g86 g87 g88 g89 g90 g91 g92 g93 g94 g95 g96 g97 g98 g99 g100 g101 g102 g103 g104 g105 g106 g107 g108
  refine Rn.region k33_55 (fun call K => r33_13) (Rch.leaf (Rn.lp ?_))
  exact H _ _ _ _ _ _ _ _ _ _ _ _ _ _ _ _ _ _ _ _ _ _ _ _ _ _ _ _ _ _ _ _ _ _ _ _ _ _ _ _ _ _ _ _ _ _ _ _ _ _ _ _ _ _ _ _ _ _ _ _ _ _ _ _ _ _ _ _ _ _ _ _ _ _ _ _ _ _ _ _ _ _ _ _ _ _ _ _ _ _ _ _ _ _ _ _ _ _ _ _ _ _ _ _

theorem w33_3 {Ax0 : Option Addr} {lx0 cx0 : Nat} {Ax1 : Option Addr} {lx1 cx1 : Nat} {x10 : Int} {Ax11 : Option Addr} {lx11 cx11 : Nat} {x12 x13 : Int} {M : Mem} {Q : Value → Mem → Prop} (H :
    ((x13 < x10 →
     ∃ a13', idxA Ax11 lx11 1 x13 = some a13' ∧
     ∃ x14', M.intAt .i64 a13'.block a13'.off = some x14' ∧
     ∃ a15', idxA Ax1 lx1 1 x12 = some a15' ∧
     ∃ x16', M.intAt .i64 a15'.block a15'.off = some x16' ∧
     ∃ a17', idxA Ax0 lx0 1 x12 = some a17' ∧
     ∃ s18', M.slAt a17'.block a17'.off = some s18' ∧
     ∃ a19', idxA s18'.1 (s18'.2.1) 1 x13 = some a19' ∧
     ∃ x20', M.intAt .i64 a19'.block a19'.off = some x20' ∧
     ∃ a21', idxA Ax11 lx11 1 x13 = some a21' ∧
     ∃ M22', M.put a21'.block a21'.off (.int .i64 (IntKind.i64.wrap (x14' + (IntKind.i64.wrap (x16' * x20'))))) = some M22' ∧
     A33_3 Ax0 lx0 cx0 Ax1 lx1 cx1 x10 Ax11 lx11 cx11 x12 (IntKind.i64.wrap (x13 + 1)) M22' Q) ∧
     (¬ (x13 < x10) →
     A33_2 Ax0 lx0 cx0 Ax1 lx1 cx1 x10 Ax11 lx11 cx11 x12 M Q))) :
    A33_3 Ax0 lx0 cx0 Ax1 lx1 cx1 x10 Ax11 lx11 cx11 x12 x13 M Q := by
  intro g2 g3 g4 g5 g6 g7 g8 g9 g14 g15 g16 g17 g18 g19 g20 g21 g22 g23 g24 g25 g26 g27 g28 g29 g30 g31 g32 g33 g34 g35 g36 g37 g38 g39 g40 g41 g42 g43 g44 g45 g46 g47 g48 g49 g50 g51 g52 g53 g54 g55 g56 g57 g58 g59 g60 g61 g62 g63 g64 g65 g66 g67 g68 g69 g70 g71 g72 g73 g74 g75 g76 g77 g78 g79 g80 g81 g82 g83 g84 g85 g86 g87 g88 g89 g90 g91 g92 g93 g94 g95 g96 g97 g98 g99 g100 g101 g102 g103 g104 g105 g106 g107 g108
  refine Rn.seq k33_56 (Rn.seq k33_57 (Rn.region k33_58 (fun call K => r33_16) (Rch.leaf ?_)))
  refine Rn.cnd (v := decide (x13 < x10)) ⟨c33_59, rfl, by kernel_rfl⟩ (fun h => ?_) (fun h => ?_)
  · replace H := H.1 (of_decide_eq_true h)
    refine Rn.skip k33_60 (Rn.seq k33_61 (Rn.block k33_62 (Rn.regionD k33_63 (fun call K => r33_18) (Rch.ex H fun a13' H => Rch.ex H fun x14' H => Rch.ex H fun a15' H => Rch.ex H fun x16' H => Rch.ex H fun a17' H => Rch.ex H fun s18' H => Rch.ex H fun a19' H => Rch.ex H fun x20' H => ?_))))
    refine Rch.ex H fun a21' H => Rch.ex H fun M22' H => Rch.leaf (Rn.blk (Rn.region k33_64 (fun call K => r33_17) (Rch.leaf (Rn.lp ?_))))
    exact H _ _ _ _ _ _ _ _ _ _ _ _ _ _ _ _ _ _ _ _ _ _ _ _ _ _ _ _ _ _ _ _ _ _ _ _ _ _ _ _ _ _ _ _ _ _ _ _ _ _ _ _ _ _ _ _ _ _ _ _ _ _ _ _ _ _ _ _ _ _ _ _ _ _ _ _ _ _ _ _ _ _ _ _ _ _ _ _ _ _ _ _ _ _ _ _ _ _ _ _ _ _ _
  · replace H := H.2 (of_decide_eq_false h)
    refine Rn.exit k33_65 rfl (Rn.blk ?_)
    exact H _ _ _ _ _ _ _ _ _ _ _ _ _ _ _ _ _ _ _ _ _ _ _ _ _ _ _ _ _ _ _ _ _ _ _ _ _ _ _ _ _ _ _ _ _ _ _ _ _ _ _ _ _ _ _ _ _ _ _ _ _ _ _ _ _ _ _ _ _ _ _ _ _ _ _ _ _ _ _ _ _ _ _ _ _ _ _ _ _ _ _ _ _ _ _ _ _ _ _ _ _ _ _ _

theorem w33_4 {x10 : Int} {Ax11 : Option Addr} {lx11 cx11 : Nat} {x14 : Int} {M : Mem} {Q : Value → Mem → Prop} (H :
    ((x14 < x10 →
     ∃ a23', idxA Ax11 lx11 1 x14 = some a23' ∧
     ∃ x24', M.intAt .i64 a23'.block a23'.off = some x24' ∧
     ∃ a25', idxA Ax11 lx11 1 x14 = some a25' ∧
     ∃ M26', M.put a25'.block a25'.off (.int .i64 ((IntKind.i64.wrap (x24' + 2048)).fdiv (2 ^ 12))) = some M26' ∧
     A33_4 x10 Ax11 lx11 cx11 (IntKind.i64.wrap (x14 + 1)) M26' Q) ∧
     (¬ (x14 < x10) →
     Q (.slice Ax11 lx11 cx11) M))) :
    A33_4 x10 Ax11 lx11 cx11 x14 M Q := by
  intro g0 g1 g2 g3 g4 g5 g6 g7 g8 g9 g12 g13 g15 g16 g17 g18 g19 g20 g21 g22 g23 g24 g25 g26 g27 g28 g29 g30 g31 g32 g33 g34 g35 g36 g37 g38 g39 g40 g41 g42 g43 g44 g45 g46 g47 g48 g49 g50 g51 g52 g53 g54 g55 g56 g57 g58 g59 g60 g61 g62 g63 g64 g65 g66 g67 g68 g69 g70 g71 g72 g73 g74 g75 g76 g77 g78 g79 g80 g81 g82 g83 g84 g85 g86 g87 g88 g89 g90 g91 g92 g93 g94 g95 g96 g97 g98 g99 g100 g101 g102 g103 g104 g105 g106 g107 g108
  refine Rn.seq k33_66 (Rn.seq k33_67 (Rn.region k33_68 (fun call K => r33_20) (Rch.leaf ?_)))
  refine Rn.cnd (v := decide (x14 < x10)) ⟨c33_69, rfl, by kernel_rfl⟩ (fun h => ?_) (fun h => ?_)
  · replace H := H.1 (of_decide_eq_true h)
    refine Rn.skip k33_70 (Rn.seq k33_71 (Rn.block k33_72 (Rn.region k33_73 (fun call K => r33_22) (Rch.ex H fun a23' H => Rch.ex H fun x24' H => Rch.ex H fun a25' H => Rch.ex H fun M26' H => Rch.leaf (Rn.blk (Rn.region k33_74 (fun call K => r33_21) (Rch.leaf ?_)))))))
    refine Rn.lp ?_
    exact H _ _ _ _ _ _ _ _ _ _ _ _ _ _ _ _ _ _ _ _ _ _ _ _ _ _ _ _ _ _ _ _ _ _ _ _ _ _ _ _ _ _ _ _ _ _ _ _ _ _ _ _ _ _ _ _ _ _ _ _ _ _ _ _ _ _ _ _ _ _ _ _ _ _ _ _ _ _ _ _ _ _ _ _ _ _ _ _ _ _ _ _ _ _ _ _ _ _ _ _ _ _ _ _ _ _
  · replace H := H.2 (of_decide_eq_false h)
    refine Rn.exit k33_75 rfl (Rn.seq k33_76 (Rn.region k33_77 (fun call K => r33_23) (Rch.leaf ?_)))
    exact Rn.ret k33_78 e33 H


/-! ### zoetrope/zoetroperef07.Weights: function 34 -/
noncomputable abbrev P34 (p : List Nat) : Code := subC (codeOf Try.f34) p
noncomputable abbrev O34 (p : List Nat) : Array Oper := opsOf (subC (codeOf Try.f34) p)
theorem b34 : Try.prog.funcs[34]? = some Try.f34 ∧ (Orc.tab Try.prog).lookup 34 = none := ⟨by kernel_rfl, by kernel_rfl⟩
theorem d34 : Try.f34.body = some (P34 []) := by kernel_rfl
theorem t34 {x0 x1 : Int} : #[.int .i64 x0,.int .i64 x1] ++ Array.replicate (Try.f34.ntmps - (#[.int .i64 x0,.int .i64 x1] : Array Value).size) undef = #[.int .i64 x0,.int .i64 x1,undef,undef,undef,undef,undef,undef,undef,undef] := by kernel_rfl
theorem k34_0 : P34 [] = .seq (P34 [0]) (P34 [1]) := by kernel_rfl
theorem k34_1 : P34 [0] = .region 0 (O34 [0]) false := by kernel_rfl
theorem r34_0 {M : Mem} {call : CallM} {K : Array Value → Mem → R} :
    opsK Try.prog (fun _ => call) (O34 [0]) (O34 [0]).toList 0 #[g0,g1,g2,g3,g4,g5,g6,g7,g8,g9] M K = K #[g0,g1,g2,g3,.slice none 0 0,g5,g6,g7,g8,g9] M := by kernel_rfl
theorem k34_2 : P34 [1] = .seq (P34 [1,0]) (P34 [1,1]) := by kernel_rfl
theorem k34_3 : P34 [1,0] = .seq (P34 [1,0,0]) (P34 [1,0,1]) := by kernel_rfl
theorem k34_4 : P34 [1,0,0] = .region 1 (O34 [1,0,0]) false := by kernel_rfl
theorem r34_1 {x0 : Int} {M : Mem} {call : CallM} {K : Array Value → Mem → R} :
    opsK Try.prog (fun _ => call) (O34 [1,0,0]) (O34 [1,0,0]).toList 0 #[.int .i64 x0,g1,g2,g3,g4,g5,g6,g7,g8,g9] M K = K #[.int .i64 x0,g1,g2,g3,g4,.int .i64 x0,.bool (x0 == 3),g7,g8,g9] M := by kernel_rfl
theorem c34_5 : P34 [1,0,1] = .cond (.tmp 6) (P34 [1,0,1,0]) (P34 [1,0,1,1]) := by kernel_rfl
theorem k34_6 : P34 [1,0,1,0] = .seq (P34 [1,0,1,0,0]) (P34 [1,0,1,0,1]) := by kernel_rfl
theorem k34_7 : P34 [1,0,1,0,0] = .region 2 (O34 [1,0,1,0,0]) false := by kernel_rfl
theorem r34_2 {M : Mem} {call : CallM} {K : Array Value → Mem → R} :
    opsK Try.prog (fun _ => call) (O34 [1,0,1,0,0]) (O34 [1,0,1,0,0]).toList 0 #[g0,g1,g2,g3,g4,g5,g6,g7,g8,g9] M K = K #[g0,g1,g2,g3,.slice none 0 0,g5,g6,g7,g8,g9] M := by kernel_rfl
theorem k34_8 : P34 [1,0,1,0,1] = .ret := by kernel_rfl
theorem e34 {M : Mem} : finish Try.prog Try.f34 #[g0,g1,g2,g3,g4,g5,g6,g7,g8,g9] M = some (g4, M) := by kernel_rfl
theorem k34_10 : P34 [1,0,1,1] = .skip := by kernel_rfl
theorem k34_11 : P34 [1,1] = .seq (P34 [1,1,0]) (P34 [1,1,1]) := by kernel_rfl
theorem k34_12 : P34 [1,1,0] = .region 3 (O34 [1,1,0]) false := by kernel_rfl
theorem r34_3 {x0 x1 : Int} {M : Mem} {call : CallM} {K : Array Value → Mem → R} :
    opsK Try.prog (fun _ => call) (O34 [1,1,0]) (O34 [1,1,0]).toList 0 #[.int .i64 x0,.int .i64 x1,g2,g3,g4,g5,g6,g7,g8,g9] M K = (call 40 #[.int .i64 x0, .int .i64 x1] M).bind fun r_1 => (asS r_1.1).bind fun s_2 => K #[.int .i64 x0,.int .i64 x1,g2,g3,.slice s_2.1 (s_2.2.1) (s_2.2.2),g5,g6,.int .i64 x0,.int .i64 x1,.slice s_2.1 (s_2.2.1) (s_2.2.2)] r_1.2 := by kernel_rfl
theorem k34_13 : P34 [1,1,1] = .ret := by kernel_rfl
theorem w34_0 {x0 x1 : Int} {M : Mem} {Q : Value → Mem → Prop} (H :
    ((x0 = 3 →
     Q (.slice none 0 0) M) ∧
     (x0 ≠ 3 →
     Cn Try.prog 40 #[.int .i64 x0, .int .i64 x1] M fun v1' N1' =>
      ∃ s2', asS v1' = some s2' ∧
      Q (.slice s2'.1 (s2'.2.1) (s2'.2.2)) N1'))) :
    Cn Try.prog 34 #[.int .i64 x0, .int .i64 x1] M Q := by
  refine Cn.of b34 d34 t34 ?_
  refine Rn.seq k34_0 (Rn.region k34_1 (fun call K => r34_0) (Rch.leaf (Rn.seq k34_2 (Rn.seq k34_3 (Rn.region k34_4 (fun call K => r34_1) (Rch.leaf ?_))))))
  refine Rn.cnd (v := x0 == 3) ⟨c34_5, rfl, by kernel_rfl⟩ (fun h => ?_) (fun h => ?_)
  · replace H := H.1 (eq_of_beq h)
    refine Rn.seq k34_6 (Rn.region k34_7 (fun call K => r34_2) (Rch.leaf ?_))
    exact Rn.ret k34_8 e34 H
  · replace H := H.2 (ne_of_beq_false h)
    refine Rn.skip k34_10 (Rn.seq k34_11 (Rn.region k34_12 (fun call K => r34_3) (Rch.call H fun v1' N1' H => Rch.ex H fun s2' H => Rch.leaf ?_)))
    exact Rn.ret k34_13 e34 H


/-! ### zoetrope/zoetroperef07.On: function 35 -/
noncomputable abbrev P35 (p : List Nat) : Code := subC (codeOf Try.f35) p
noncomputable abbrev O35 (p : List Nat) : Array Oper := opsOf (subC (codeOf Try.f35) p)
theorem b35 : Try.prog.funcs[35]? = some Try.f35 ∧ (Orc.tab Try.prog).lookup 35 = none := ⟨by kernel_rfl, by kernel_rfl⟩
theorem d35 : Try.f35.body = some (P35 []) := by kernel_rfl
theorem t35 {Ax0 : Option Addr} {lx0 cx0 : Nat} {Ax1 : Option Addr} {lx1 cx1 : Nat} : #[.slice Ax0 lx0 cx0,.slice Ax1 lx1 cx1] ++ Array.replicate (Try.f35.ntmps - (#[.slice Ax0 lx0 cx0,.slice Ax1 lx1 cx1] : Array Value).size) undef = #[.slice Ax0 lx0 cx0,.slice Ax1 lx1 cx1,undef,undef,undef,undef,undef,undef,undef,undef,undef,undef,undef,undef,undef,undef,undef,undef,undef,undef,undef,undef,undef,undef,undef,undef,undef,undef,undef,undef,undef,undef,undef,undef,undef,undef,undef,undef,undef,undef,undef,undef,undef,undef,undef,undef,undef,undef,undef,undef,undef,undef,undef,undef,undef,undef,undef,undef,undef,undef,undef,undef,undef,undef,undef,undef,undef,undef,undef,undef,undef,undef,undef,undef,undef,undef,undef,undef,undef,undef,undef,undef,undef,undef,undef,undef,undef,undef,undef] := by kernel_rfl
theorem k35_0 : P35 [] = .seq (P35 [0]) (P35 [1]) := by kernel_rfl
theorem k35_1 : P35 [0] = .region 0 (O35 [0]) false := by kernel_rfl
theorem r35_0 {M : Mem} {call : CallM} {K : Array Value → Mem → R} :
    opsK Try.prog (fun _ => call) (O35 [0]) (O35 [0]).toList 0 #[g0,g1,g2,g3,g4,g5,g6,g7,g8,g9,g10,g11,g12,g13,g14,g15,g16,g17,g18,g19,g20,g21,g22,g23,g24,g25,g26,g27,g28,g29,g30,g31,g32,g33,g34,g35,g36,g37,g38,g39,g40,g41,g42,g43,g44,g45,g46,g47,g48,g49,g50,g51,g52,g53,g54,g55,g56,g57,g58,g59,g60,g61,g62,g63,g64,g65,g66,g67,g68,g69,g70,g71,g72,g73,g74,g75,g76,g77,g78,g79,g80,g81,g82,g83,g84,g85,g86,g87,g88] M K = K #[g0,g1,g2,g3,.slice none 0 0,g5,g6,g7,g8,g9,g10,g11,g12,g13,g14,g15,g16,g17,g18,g19,g20,g21,g22,g23,g24,g25,g26,g27,g28,g29,g30,g31,g32,g33,g34,g35,g36,g37,g38,g39,g40,g41,g42,g43,g44,g45,g46,g47,g48,g49,g50,g51,g52,g53,g54,g55,g56,g57,g58,g59,g60,g61,g62,g63,g64,g65,g66,g67,g68,g69,g70,g71,g72,g73,g74,g75,g76,g77,g78,g79,g80,g81,g82,g83,g84,g85,g86,g87,g88] M := by kernel_rfl
theorem k35_2 : P35 [1] = .seq (P35 [1,0]) (P35 [1,1]) := by kernel_rfl
theorem k35_3 : P35 [1,0] = .seq (P35 [1,0,0]) (P35 [1,0,1]) := by kernel_rfl
theorem k35_4 : P35 [1,0,0] = .region 1 (O35 [1,0,0]) false := by kernel_rfl
theorem r35_1 {Ax0 : Option Addr} {lx0 cx0 : Nat} {M : Mem} {call : CallM} {K : Array Value → Mem → R} :
    opsK Try.prog (fun _ => call) (O35 [1,0,0]) (O35 [1,0,0]).toList 0 #[.slice Ax0 lx0 cx0,g1,g2,g3,g4,g5,g6,g7,g8,g9,g10,g11,g12,g13,g14,g15,g16,g17,g18,g19,g20,g21,g22,g23,g24,g25,g26,g27,g28,g29,g30,g31,g32,g33,g34,g35,g36,g37,g38,g39,g40,g41,g42,g43,g44,g45,g46,g47,g48,g49,g50,g51,g52,g53,g54,g55,g56,g57,g58,g59,g60,g61,g62,g63,g64,g65,g66,g67,g68,g69,g70,g71,g72,g73,g74,g75,g76,g77,g78,g79,g80,g81,g82,g83,g84,g85,g86,g87,g88] M K = K #[.slice Ax0 lx0 cx0,g1,g2,g3,g4,g5,g6,g7,g8,g9,g10,g11,g12,g13,g14,.slice Ax0 lx0 cx0,.int .i64 ((lx0 : Int)),.bool (((lx0 : Int)) == 0),g18,g19,g20,g21,g22,g23,g24,g25,g26,g27,g28,g29,g30,g31,g32,g33,g34,g35,g36,g37,g38,g39,g40,g41,g42,g43,g44,g45,g46,g47,g48,g49,g50,g51,g52,g53,g54,g55,g56,g57,g58,g59,g60,g61,g62,g63,g64,g65,g66,g67,g68,g69,g70,g71,g72,g73,g74,g75,g76,g77,g78,g79,g80,g81,g82,g83,g84,g85,g86,g87,g88] M := by kernel_rfl
theorem c35_5 : P35 [1,0,1] = .cond (.tmp 17) (P35 [1,0,1,0]) (P35 [1,0,1,1]) := by kernel_rfl
theorem k35_6 : P35 [1,0,1,0] = .seq (P35 [1,0,1,0,0]) (P35 [1,0,1,0,1]) := by kernel_rfl
theorem k35_7 : P35 [1,0,1,0,0] = .region 2 (O35 [1,0,1,0,0]) true ∧ drawOk (O35 [1,0,1,0,0]) = true := ⟨by kernel_rfl, by kernel_rfl⟩
theorem r35_2 {Ax1 : Option Addr} {lx1 cx1 : Nat} {M : Mem} {call : CallM} {K : Array Value → Mem → R} :
    opsI Try.prog (callAt call (O35 [1,0,1,0,0])) (O35 [1,0,1,0,0]) (ordOf (O35 [1,0,1,0,0])) [] #[g0,.slice Ax1 lx1 cx1,g2,g3,g4,g5,g6,g7,g8,g9,g10,g11,g12,g13,g14,g15,g16,g17,g18,g19,g20,g21,g22,g23,g24,g25,g26,g27,g28,g29,g30,g31,g32,g33,g34,g35,g36,g37,g38,g39,g40,g41,g42,g43,g44,g45,g46,g47,g48,g49,g50,g51,g52,g53,g54,g55,g56,g57,g58,g59,g60,g61,g62,g63,g64,g65,g66,g67,g68,g69,g70,g71,g72,g73,g74,g75,g76,g77,g78,g79,g80,g81,g82,g83,g84,g85,g86,g87,g88] M K = (idxA Ax1 lx1 1 0).bind fun a_1 => (M.intAt .i64 a_1.block a_1.off).bind fun x_2 => (idxA Ax1 lx1 1 1).bind fun a_3 => (M.intAt .i64 a_3.block a_3.off).bind fun x_4 => (idxA Ax1 lx1 1 2).bind fun a_5 => (M.intAt .i64 a_5.block a_5.off).bind fun x_6 => (idxA Ax1 lx1 1 3).bind fun a_7 => (M.intAt .i64 a_7.block a_7.off).bind fun x_8 => K #[g0,.slice Ax1 lx1 cx1,g2,g3,g4,.int .i64 x_2,.int .i64 x_4,.int .i64 x_6,.int .i64 x_8,g9,g10,g11,g12,g13,g14,g15,g16,g17,.slice Ax1 lx1 cx1,.pointer (some a_1),.int .i64 x_2,.slice Ax1 lx1 cx1,.pointer (some a_3),.int .i64 x_4,.slice Ax1 lx1 cx1,.pointer (some a_5),.int .i64 x_6,.slice Ax1 lx1 cx1,.pointer (some a_7),.int .i64 x_8,g30,g31,g32,g33,g34,g35,g36,g37,g38,g39,g40,g41,g42,g43,g44,g45,g46,g47,g48,g49,g50,g51,g52,g53,g54,g55,g56,g57,g58,g59,g60,g61,g62,g63,g64,g65,g66,g67,g68,g69,g70,g71,g72,g73,g74,g75,g76,g77,g78,g79,g80,g81,g82,g83,g84,g85,g86,g87,g88] M := by kernel_rfl
theorem k35_8 : P35 [1,0,1,0,1] = .seq (P35 [1,0,1,0,1,0]) (P35 [1,0,1,0,1,1]) := by kernel_rfl
theorem k35_9 : P35 [1,0,1,0,1,0] = .region 3 (O35 [1,0,1,0,1,0]) false := by kernel_rfl
theorem r35_3 {x5 x6 : Int} {M : Mem} {call : CallM} {K : Array Value → Mem → R} :
    opsK Try.prog (fun _ => call) (O35 [1,0,1,0,1,0]) (O35 [1,0,1,0,1,0]).toList 0 #[g0,g1,g2,g3,g4,.int .i64 x5,.int .i64 x6,g7,g8,g9,g10,g11,g12,g13,g14,g15,g16,g17,g18,g19,g20,g21,g22,g23,g24,g25,g26,g27,g28,g29,g30,g31,g32,g33,g34,g35,g36,g37,g38,g39,g40,g41,g42,g43,g44,g45,g46,g47,g48,g49,g50,g51,g52,g53,g54,g55,g56,g57,g58,g59,g60,g61,g62,g63,g64,g65,g66,g67,g68,g69,g70,g71,g72,g73,g74,g75,g76,g77,g78,g79,g80,g81,g82,g83,g84,g85,g86,g87,g88] M K = K #[g0,g1,g2,g3,g4,.int .i64 (IntKind.i64.wrap (x5 + x6)),.int .i64 x6,g7,g8,g9,g10,g11,g12,g13,g14,g15,g16,g17,g18,g19,g20,g21,g22,g23,g24,g25,g26,g27,g28,g29,.int .i64 x5,.int .i64 x6,.int .i64 (IntKind.i64.wrap (x5 + x6)),g33,g34,g35,g36,g37,g38,g39,g40,g41,g42,g43,g44,g45,g46,g47,g48,g49,g50,g51,g52,g53,g54,g55,g56,g57,g58,g59,g60,g61,g62,g63,g64,g65,g66,g67,g68,g69,g70,g71,g72,g73,g74,g75,g76,g77,g78,g79,g80,g81,g82,g83,g84,g85,g86,g87,g88] M := by kernel_rfl
theorem k35_10 : P35 [1,0,1,0,1,1] = .seq (P35 [1,0,1,0,1,1,0]) (P35 [1,0,1,0,1,1,1]) := by kernel_rfl
theorem k35_11 : P35 [1,0,1,0,1,1,0] = .region 4 (O35 [1,0,1,0,1,1,0]) false := by kernel_rfl
theorem r35_4 {x7 x8 : Int} {M : Mem} {call : CallM} {K : Array Value → Mem → R} :
    opsK Try.prog (fun _ => call) (O35 [1,0,1,0,1,1,0]) (O35 [1,0,1,0,1,1,0]).toList 0 #[g0,g1,g2,g3,g4,g5,g6,.int .i64 x7,.int .i64 x8,g9,g10,g11,g12,g13,g14,g15,g16,g17,g18,g19,g20,g21,g22,g23,g24,g25,g26,g27,g28,g29,g30,g31,g32,g33,g34,g35,g36,g37,g38,g39,g40,g41,g42,g43,g44,g45,g46,g47,g48,g49,g50,g51,g52,g53,g54,g55,g56,g57,g58,g59,g60,g61,g62,g63,g64,g65,g66,g67,g68,g69,g70,g71,g72,g73,g74,g75,g76,g77,g78,g79,g80,g81,g82,g83,g84,g85,g86,g87,g88] M K = K #[g0,g1,g2,g3,g4,g5,g6,.int .i64 x7,.int .i64 (IntKind.i64.wrap (x8 - x7)),g9,g10,g11,g12,g13,g14,g15,g16,g17,g18,g19,g20,g21,g22,g23,g24,g25,g26,g27,g28,g29,g30,g31,g32,.int .i64 x8,.int .i64 x7,.int .i64 (IntKind.i64.wrap (x8 - x7)),g36,g37,g38,g39,g40,g41,g42,g43,g44,g45,g46,g47,g48,g49,g50,g51,g52,g53,g54,g55,g56,g57,g58,g59,g60,g61,g62,g63,g64,g65,g66,g67,g68,g69,g70,g71,g72,g73,g74,g75,g76,g77,g78,g79,g80,g81,g82,g83,g84,g85,g86,g87,g88] M := by kernel_rfl
theorem k35_12 : P35 [1,0,1,0,1,1,1] = .seq (P35 [1,0,1,0,1,1,1,0]) (P35 [1,0,1,0,1,1,1,1]) := by kernel_rfl
theorem k35_13 : P35 [1,0,1,0,1,1,1,0] = .region 5 (O35 [1,0,1,0,1,1,1,0]) false := by kernel_rfl
theorem r35_5 {x5 x8 : Int} {M : Mem} {call : CallM} {K : Array Value → Mem → R} :
    opsK Try.prog (fun _ => call) (O35 [1,0,1,0,1,1,1,0]) (O35 [1,0,1,0,1,1,1,0]).toList 0 #[g0,g1,g2,g3,g4,.int .i64 x5,g6,g7,.int .i64 x8,g9,g10,g11,g12,g13,g14,g15,g16,g17,g18,g19,g20,g21,g22,g23,g24,g25,g26,g27,g28,g29,g30,g31,g32,g33,g34,g35,g36,g37,g38,g39,g40,g41,g42,g43,g44,g45,g46,g47,g48,g49,g50,g51,g52,g53,g54,g55,g56,g57,g58,g59,g60,g61,g62,g63,g64,g65,g66,g67,g68,g69,g70,g71,g72,g73,g74,g75,g76,g77,g78,g79,g80,g81,g82,g83,g84,g85,g86,g87,g88] M K = K #[g0,g1,g2,g3,g4,.int .i64 x5,g6,g7,.int .i64 x8,.int .i64 ((IntKind.i64.wrap (x5 - x8)).fdiv (2 ^ 1)),g10,g11,g12,g13,g14,g15,g16,g17,g18,g19,g20,g21,g22,g23,g24,g25,g26,g27,g28,g29,g30,g31,g32,g33,g34,g35,.int .i64 x5,.int .i64 x8,.int .i64 (IntKind.i64.wrap (x5 - x8)),.int .i64 ((IntKind.i64.wrap (x5 - x8)).fdiv (2 ^ 1)),g40,g41,g42,g43,g44,g45,g46,g47,g48,g49,g50,g51,g52,g53,g54,g55,g56,g57,g58,g59,g60,g61,g62,g63,g64,g65,g66,g67,g68,g69,g70,g71,g72,g73,g74,g75,g76,g77,g78,g79,g80,g81,g82,g83,g84,g85,g86,g87,g88] M := by kernel_rfl
theorem k35_14 : P35 [1,0,1,0,1,1,1,1] = .seq (P35 [1,0,1,0,1,1,1,1,0]) (P35 [1,0,1,0,1,1,1,1,1]) := by kernel_rfl
theorem k35_15 : P35 [1,0,1,0,1,1,1,1,0] = .region 6 (O35 [1,0,1,0,1,1,1,1,0]) false := by kernel_rfl
theorem r35_6 {x6 x9 : Int} {M : Mem} {call : CallM} {K : Array Value → Mem → R} :
    opsK Try.prog (fun _ => call) (O35 [1,0,1,0,1,1,1,1,0]) (O35 [1,0,1,0,1,1,1,1,0]).toList 0 #[g0,g1,g2,g3,g4,g5,.int .i64 x6,g7,g8,.int .i64 x9,g10,g11,g12,g13,g14,g15,g16,g17,g18,g19,g20,g21,g22,g23,g24,g25,g26,g27,g28,g29,g30,g31,g32,g33,g34,g35,g36,g37,g38,g39,g40,g41,g42,g43,g44,g45,g46,g47,g48,g49,g50,g51,g52,g53,g54,g55,g56,g57,g58,g59,g60,g61,g62,g63,g64,g65,g66,g67,g68,g69,g70,g71,g72,g73,g74,g75,g76,g77,g78,g79,g80,g81,g82,g83,g84,g85,g86,g87,g88] M K = K #[g0,g1,g2,g3,g4,g5,.int .i64 (IntKind.i64.wrap (x9 - x6)),g7,g8,.int .i64 x9,g10,g11,g12,g13,g14,g15,g16,g17,g18,g19,g20,g21,g22,g23,g24,g25,g26,g27,g28,g29,g30,g31,g32,g33,g34,g35,g36,g37,g38,g39,.int .i64 x9,.int .i64 x6,.int .i64 (IntKind.i64.wrap (x9 - x6)),g43,g44,g45,g46,g47,g48,g49,g50,g51,g52,g53,g54,g55,g56,g57,g58,g59,g60,g61,g62,g63,g64,g65,g66,g67,g68,g69,g70,g71,g72,g73,g74,g75,g76,g77,g78,g79,g80,g81,g82,g83,g84,g85,g86,g87,g88] M := by kernel_rfl
theorem k35_16 : P35 [1,0,1,0,1,1,1,1,1] = .seq (P35 [1,0,1,0,1,1,1,1,1,0]) (P35 [1,0,1,0,1,1,1,1,1,1]) := by kernel_rfl
theorem k35_17 : P35 [1,0,1,0,1,1,1,1,1,0] = .region 7 (O35 [1,0,1,0,1,1,1,1,1,0]) false := by kernel_rfl
theorem r35_7 {x7 x9 : Int} {M : Mem} {call : CallM} {K : Array Value → Mem → R} :
    opsK Try.prog (fun _ => call) (O35 [1,0,1,0,1,1,1,1,1,0]) (O35 [1,0,1,0,1,1,1,1,1,0]).toList 0 #[g0,g1,g2,g3,g4,g5,g6,.int .i64 x7,g8,.int .i64 x9,g10,g11,g12,g13,g14,g15,g16,g17,g18,g19,g20,g21,g22,g23,g24,g25,g26,g27,g28,g29,g30,g31,g32,g33,g34,g35,g36,g37,g38,g39,g40,g41,g42,g43,g44,g45,g46,g47,g48,g49,g50,g51,g52,g53,g54,g55,g56,g57,g58,g59,g60,g61,g62,g63,g64,g65,g66,g67,g68,g69,g70,g71,g72,g73,g74,g75,g76,g77,g78,g79,g80,g81,g82,g83,g84,g85,g86,g87,g88] M K = K #[g0,g1,g2,g3,g4,g5,g6,.int .i64 (IntKind.i64.wrap (x9 - x7)),g8,.int .i64 x9,g10,g11,g12,g13,g14,g15,g16,g17,g18,g19,g20,g21,g22,g23,g24,g25,g26,g27,g28,g29,g30,g31,g32,g33,g34,g35,g36,g37,g38,g39,g40,g41,g42,.int .i64 x9,.int .i64 x7,.int .i64 (IntKind.i64.wrap (x9 - x7)),g46,g47,g48,g49,g50,g51,g52,g53,g54,g55,g56,g57,g58,g59,g60,g61,g62,g63,g64,g65,g66,g67,g68,g69,g70,g71,g72,g73,g74,g75,g76,g77,g78,g79,g80,g81,g82,g83,g84,g85,g86,g87,g88] M := by kernel_rfl
theorem k35_18 : P35 [1,0,1,0,1,1,1,1,1,1] = .seq (P35 [1,0,1,0,1,1,1,1,1,1,0]) (P35 [1,0,1,0,1,1,1,1,1,1,1]) := by kernel_rfl
theorem k35_19 : P35 [1,0,1,0,1,1,1,1,1,1,0] = .region 8 (O35 [1,0,1,0,1,1,1,1,1,1,0]) false := by kernel_rfl
theorem r35_8 {x5 x6 x7 x8 : Int} {M : Mem} {call : CallM} {K : Array Value → Mem → R} :
    opsK Try.prog (fun _ => call) (O35 [1,0,1,0,1,1,1,1,1,1,0]) (O35 [1,0,1,0,1,1,1,1,1,1,0]).toList 0 #[g0,g1,g2,g3,g4,.int .i64 x5,.int .i64 x6,.int .i64 x7,.int .i64 x8,g9,g10,g11,g12,g13,g14,g15,g16,g17,g18,g19,g20,g21,g22,g23,g24,g25,g26,g27,g28,g29,g30,g31,g32,g33,g34,g35,g36,g37,g38,g39,g40,g41,g42,g43,g44,g45,g46,g47,g48,g49,g50,g51,g52,g53,g54,g55,g56,g57,g58,g59,g60,g61,g62,g63,g64,g65,g66,g67,g68,g69,g70,g71,g72,g73,g74,g75,g76,g77,g78,g79,g80,g81,g82,g83,g84,g85,g86,g87,g88] M K = K #[g0,g1,g2,g3,.slice (some ⟨2 * M.nb.size, 0, none⟩) 4 4,.int .i64 x5,.int .i64 x6,.int .i64 x7,.int .i64 x8,g9,g10,g11,g12,g13,g14,g15,g16,g17,g18,g19,g20,g21,g22,g23,g24,g25,g26,g27,g28,g29,g30,g31,g32,g33,g34,g35,g36,g37,g38,g39,g40,g41,g42,g43,g44,g45,.int .i64 x5,.int .i64 x7,.int .i64 (IntKind.i64.wrap (x5 - x7)),.int .i64 x7,.int .i64 x8,.int .i64 x6,.int .i64 (IntKind.i64.wrap (x8 + x6)),.int .i64 x6,.slice (some ⟨2 * M.nb.size, 0, none⟩) 4 4,g55,g56,g57,g58,g59,g60,g61,g62,g63,g64,g65,g66,g67,g68,g69,g70,g71,g72,g73,g74,g75,g76,g77,g78,g79,g80,g81,g82,g83,g84,g85,g86,g87,g88] (M.new (.cells #[.int .i64 (IntKind.i64.wrap (x5 - x7)), .int .i64 x7, .int .i64 (IntKind.i64.wrap (x8 + x6)), .int .i64 x6] 3)) := by kernel_rfl
theorem k35_20 : P35 [1,0,1,0,1,1,1,1,1,1,1] = .ret := by kernel_rfl
theorem e35 {M : Mem} : finish Try.prog Try.f35 #[g0,g1,g2,g3,g4,g5,g6,g7,g8,g9,g10,g11,g12,g13,g14,g15,g16,g17,g18,g19,g20,g21,g22,g23,g24,g25,g26,g27,g28,g29,g30,g31,g32,g33,g34,g35,g36,g37,g38,g39,g40,g41,g42,g43,g44,g45,g46,g47,g48,g49,g50,g51,g52,g53,g54,g55,g56,g57,g58,g59,g60,g61,g62,g63,g64,g65,g66,g67,g68,g69,g70,g71,g72,g73,g74,g75,g76,g77,g78,g79,g80,g81,g82,g83,g84,g85,g86,g87,g88] M = some (g4, M) := by kernel_rfl
theorem k35_22 : P35 [1,0,1,1] = .skip := by kernel_rfl
theorem k35_23 : P35 [1,1] = .seq (P35 [1,1,0]) (P35 [1,1,1]) := by kernel_rfl
theorem k35_24 : P35 [1,1,0] = .region 9 (O35 [1,1,0]) false := by kernel_rfl
theorem r35_9 {Ax1 : Option Addr} {lx1 cx1 : Nat} {M : Mem} {call : CallM} {K : Array Value → Mem → R} :
    opsK Try.prog (fun _ => call) (O35 [1,1,0]) (O35 [1,1,0]).toList 0 #[g0,.slice Ax1 lx1 cx1,g2,g3,g4,g5,g6,g7,g8,g9,g10,g11,g12,g13,g14,g15,g16,g17,g18,g19,g20,g21,g22,g23,g24,g25,g26,g27,g28,g29,g30,g31,g32,g33,g34,g35,g36,g37,g38,g39,g40,g41,g42,g43,g44,g45,g46,g47,g48,g49,g50,g51,g52,g53,g54,g55,g56,g57,g58,g59,g60,g61,g62,g63,g64,g65,g66,g67,g68,g69,g70,g71,g72,g73,g74,g75,g76,g77,g78,g79,g80,g81,g82,g83,g84,g85,g86,g87,g88] M K = K #[g0,.slice Ax1 lx1 cx1,g2,g3,g4,g5,g6,g7,g8,g9,.int .i64 ((lx1 : Int)),g11,g12,g13,g14,g15,g16,g17,g18,g19,g20,g21,g22,g23,g24,g25,g26,g27,g28,g29,g30,g31,g32,g33,g34,g35,g36,g37,g38,g39,g40,g41,g42,g43,g44,g45,g46,g47,g48,g49,g50,g51,g52,g53,g54,.slice Ax1 lx1 cx1,.int .i64 ((lx1 : Int)),g57,g58,g59,g60,g61,g62,g63,g64,g65,g66,g67,g68,g69,g70,g71,g72,g73,g74,g75,g76,g77,g78,g79,g80,g81,g82,g83,g84,g85,g86,g87,g88] M := by kernel_rfl
theorem k35_25 : P35 [1,1,1] = .seq (P35 [1,1,1,0]) (P35 [1,1,1,1]) := by kernel_rfl
theorem k35_26 : P35 [1,1,1,0] = .region 10 (O35 [1,1,1,0]) false := by kernel_rfl
theorem r35_10 {x10 : Int} {M : Mem} {call : CallM} {K : Array Value → Mem → R} :
    opsK Try.prog (fun _ => call) (O35 [1,1,1,0]) (O35 [1,1,1,0]).toList 0 #[g0,g1,g2,g3,g4,g5,g6,g7,g8,g9,.int .i64 x10,g11,g12,g13,g14,g15,g16,g17,g18,g19,g20,g21,g22,g23,g24,g25,g26,g27,g28,g29,g30,g31,g32,g33,g34,g35,g36,g37,g38,g39,g40,g41,g42,g43,g44,g45,g46,g47,g48,g49,g50,g51,g52,g53,g54,g55,g56,g57,g58,g59,g60,g61,g62,g63,g64,g65,g66,g67,g68,g69,g70,g71,g72,g73,g74,g75,g76,g77,g78,g79,g80,g81,g82,g83,g84,g85,g86,g87,g88] M K = (makeP Try.prog 22 (.int .i64 x10) (.int .i64 x10) M).bind fun r_1 => (asS r_1.1).bind fun s_2 => K #[g0,g1,g2,g3,g4,g5,g6,g7,g8,g9,.int .i64 x10,.slice s_2.1 (s_2.2.1) (s_2.2.2),g12,g13,g14,g15,g16,g17,g18,g19,g20,g21,g22,g23,g24,g25,g26,g27,g28,g29,g30,g31,g32,g33,g34,g35,g36,g37,g38,g39,g40,g41,g42,g43,g44,g45,g46,g47,g48,g49,g50,g51,g52,g53,g54,g55,g56,.int .i64 x10,.slice s_2.1 (s_2.2.1) (s_2.2.2),g59,g60,g61,g62,g63,g64,g65,g66,g67,g68,g69,g70,g71,g72,g73,g74,g75,g76,g77,g78,g79,g80,g81,g82,g83,g84,g85,g86,g87,g88] r_1.2 := by kernel_rfl
theorem k35_27 : P35 [1,1,1,1] = .seq (P35 [1,1,1,1,0]) (P35 [1,1,1,1,1]) := by kernel_rfl
theorem k35_28 : P35 [1,1,1,1,0] = .seq (P35 [1,1,1,1,0,0]) (P35 [1,1,1,1,0,1]) := by kernel_rfl
theorem k35_29 : P35 [1,1,1,1,0,0] = .region 11 (O35 [1,1,1,1,0,0]) false := by kernel_rfl
theorem r35_11 {M : Mem} {call : CallM} {K : Array Value → Mem → R} :
    opsK Try.prog (fun _ => call) (O35 [1,1,1,1,0,0]) (O35 [1,1,1,1,0,0]).toList 0 #[g0,g1,g2,g3,g4,g5,g6,g7,g8,g9,g10,g11,g12,g13,g14,g15,g16,g17,g18,g19,g20,g21,g22,g23,g24,g25,g26,g27,g28,g29,g30,g31,g32,g33,g34,g35,g36,g37,g38,g39,g40,g41,g42,g43,g44,g45,g46,g47,g48,g49,g50,g51,g52,g53,g54,g55,g56,g57,g58,g59,g60,g61,g62,g63,g64,g65,g66,g67,g68,g69,g70,g71,g72,g73,g74,g75,g76,g77,g78,g79,g80,g81,g82,g83,g84,g85,g86,g87,g88] M K = K #[g0,g1,g2,g3,g4,g5,g6,g7,g8,g9,g10,g11,.int .i64 0,g13,g14,g15,g16,g17,g18,g19,g20,g21,g22,g23,g24,g25,g26,g27,g28,g29,g30,g31,g32,g33,g34,g35,g36,g37,g38,g39,g40,g41,g42,g43,g44,g45,g46,g47,g48,g49,g50,g51,g52,g53,g54,g55,g56,g57,g58,g59,g60,g61,g62,g63,g64,g65,g66,g67,g68,g69,g70,g71,g72,g73,g74,g75,g76,g77,g78,g79,g80,g81,g82,g83,g84,g85,g86,g87,g88] M := by kernel_rfl
theorem k35_30 : P35 [1,1,1,1,0,1] = .block 0 (P35 [1,1,1,1,0,1,0]) := by kernel_rfl
theorem k35_31 : P35 [1,1,1,1,0,1,0] = .loop (P35 [1,1,1,1,0,1,0,0]) := by kernel_rfl
theorem k35_32 : P35 [1,1,1,1,0,1,0,0] = .seq (P35 [1,1,1,1,0,1,0,0,0]) (P35 [1,1,1,1,0,1,0,0,1]) := by kernel_rfl
theorem k35_33 : P35 [1,1,1,1,0,1,0,0,0] = .seq (P35 [1,1,1,1,0,1,0,0,0,0]) (P35 [1,1,1,1,0,1,0,0,0,1]) := by kernel_rfl
theorem k35_34 : P35 [1,1,1,1,0,1,0,0,0,0] = .region 12 (O35 [1,1,1,1,0,1,0,0,0,0]) false := by kernel_rfl
theorem r35_12 {x10 x12 : Int} {M : Mem} {call : CallM} {K : Array Value → Mem → R} :
    opsK Try.prog (fun _ => call) (O35 [1,1,1,1,0,1,0,0,0,0]) (O35 [1,1,1,1,0,1,0,0,0,0]).toList 0 #[g0,g1,g2,g3,g4,g5,g6,g7,g8,g9,.int .i64 x10,g11,.int .i64 x12,g13,g14,g15,g16,g17,g18,g19,g20,g21,g22,g23,g24,g25,g26,g27,g28,g29,g30,g31,g32,g33,g34,g35,g36,g37,g38,g39,g40,g41,g42,g43,g44,g45,g46,g47,g48,g49,g50,g51,g52,g53,g54,g55,g56,g57,g58,g59,g60,g61,g62,g63,g64,g65,g66,g67,g68,g69,g70,g71,g72,g73,g74,g75,g76,g77,g78,g79,g80,g81,g82,g83,g84,g85,g86,g87,g88] M K = K #[g0,g1,g2,g3,g4,g5,g6,g7,g8,g9,.int .i64 x10,g11,.int .i64 x12,g13,g14,g15,g16,g17,g18,g19,g20,g21,g22,g23,g24,g25,g26,g27,g28,g29,g30,g31,g32,g33,g34,g35,g36,g37,g38,g39,g40,g41,g42,g43,g44,g45,g46,g47,g48,g49,g50,g51,g52,g53,g54,g55,g56,g57,g58,.int .i64 x12,.int .i64 x10,.bool (decide (x12 < x10)),g62,g63,g64,g65,g66,g67,g68,g69,g70,g71,g72,g73,g74,g75,g76,g77,g78,g79,g80,g81,g82,g83,g84,g85,g86,g87,g88] M := by kernel_rfl
theorem c35_35 : P35 [1,1,1,1,0,1,0,0,0,1] = .cond (.tmp 61) (P35 [1,1,1,1,0,1,0,0,0,1,0]) (P35 [1,1,1,1,0,1,0,0,0,1,1]) := by kernel_rfl
theorem k35_36 : P35 [1,1,1,1,0,1,0,0,0,1,0] = .skip := by kernel_rfl
theorem k35_37 : P35 [1,1,1,1,0,1,0,0,1] = .seq (P35 [1,1,1,1,0,1,0,0,1,0]) (P35 [1,1,1,1,0,1,0,0,1,1]) := by kernel_rfl
theorem k35_38 : P35 [1,1,1,1,0,1,0,0,1,0] = .block 1 (P35 [1,1,1,1,0,1,0,0,1,0,0]) := by kernel_rfl
theorem k35_39 : P35 [1,1,1,1,0,1,0,0,1,0,0] = .seq (P35 [1,1,1,1,0,1,0,0,1,0,0,0]) (P35 [1,1,1,1,0,1,0,0,1,0,0,1]) := by kernel_rfl
theorem k35_40 : P35 [1,1,1,1,0,1,0,0,1,0,0,0] = .region 14 (O35 [1,1,1,1,0,1,0,0,1,0,0,0]) false := by kernel_rfl
theorem r35_14 {M : Mem} {call : CallM} {K : Array Value → Mem → R} :
    opsK Try.prog (fun _ => call) (O35 [1,1,1,1,0,1,0,0,1,0,0,0]) (O35 [1,1,1,1,0,1,0,0,1,0,0,0]).toList 0 #[g0,g1,g2,g3,g4,g5,g6,g7,g8,g9,g10,g11,g12,g13,g14,g15,g16,g17,g18,g19,g20,g21,g22,g23,g24,g25,g26,g27,g28,g29,g30,g31,g32,g33,g34,g35,g36,g37,g38,g39,g40,g41,g42,g43,g44,g45,g46,g47,g48,g49,g50,g51,g52,g53,g54,g55,g56,g57,g58,g59,g60,g61,g62,g63,g64,g65,g66,g67,g68,g69,g70,g71,g72,g73,g74,g75,g76,g77,g78,g79,g80,g81,g82,g83,g84,g85,g86,g87,g88] M K = K #[g0,g1,g2,g3,g4,g5,g6,g7,g8,g9,g10,g11,g12,.int .i64 2048,g14,g15,g16,g17,g18,g19,g20,g21,g22,g23,g24,g25,g26,g27,g28,g29,g30,g31,g32,g33,g34,g35,g36,g37,g38,g39,g40,g41,g42,g43,g44,g45,g46,g47,g48,g49,g50,g51,g52,g53,g54,g55,g56,g57,g58,g59,g60,g61,g62,g63,g64,g65,g66,g67,g68,g69,g70,g71,g72,g73,g74,g75,g76,g77,g78,g79,g80,g81,g82,g83,g84,g85,g86,g87,g88] M := by kernel_rfl
theorem k35_41 : P35 [1,1,1,1,0,1,0,0,1,0,0,1] = .seq (P35 [1,1,1,1,0,1,0,0,1,0,0,1,0]) (P35 [1,1,1,1,0,1,0,0,1,0,0,1,1]) := by kernel_rfl
theorem k35_42 : P35 [1,1,1,1,0,1,0,0,1,0,0,1,0] = .seq (P35 [1,1,1,1,0,1,0,0,1,0,0,1,0,0]) (P35 [1,1,1,1,0,1,0,0,1,0,0,1,0,1]) := by kernel_rfl
theorem k35_43 : P35 [1,1,1,1,0,1,0,0,1,0,0,1,0,0] = .region 15 (O35 [1,1,1,1,0,1,0,0,1,0,0,1,0,0]) false := by kernel_rfl
theorem r35_15 {M : Mem} {call : CallM} {K : Array Value → Mem → R} :
    opsK Try.prog (fun _ => call) (O35 [1,1,1,1,0,1,0,0,1,0,0,1,0,0]) (O35 [1,1,1,1,0,1,0,0,1,0,0,1,0,0]).toList 0 #[g0,g1,g2,g3,g4,g5,g6,g7,g8,g9,g10,g11,g12,g13,g14,g15,g16,g17,g18,g19,g20,g21,g22,g23,g24,g25,g26,g27,g28,g29,g30,g31,g32,g33,g34,g35,g36,g37,g38,g39,g40,g41,g42,g43,g44,g45,g46,g47,g48,g49,g50,g51,g52,g53,g54,g55,g56,g57,g58,g59,g60,g61,g62,g63,g64,g65,g66,g67,g68,g69,g70,g71,g72,g73,g74,g75,g76,g77,g78,g79,g80,g81,g82,g83,g84,g85,g86,g87,g88] M K = K #[g0,g1,g2,g3,g4,g5,g6,g7,g8,g9,g10,g11,g12,g13,.int .i64 0,g15,g16,g17,g18,g19,g20,g21,g22,g23,g24,g25,g26,g27,g28,g29,g30,g31,g32,g33,g34,g35,g36,g37,g38,g39,g40,g41,g42,g43,g44,g45,g46,g47,g48,g49,g50,g51,g52,g53,g54,g55,g56,g57,g58,g59,g60,g61,g62,g63,g64,g65,g66,g67,g68,g69,g70,g71,g72,g73,g74,g75,g76,g77,g78,g79,g80,g81,g82,g83,g84,g85,g86,g87,g88] M := by kernel_rfl
theorem k35_44 : P35 [1,1,1,1,0,1,0,0,1,0,0,1,0,1] = .block 2 (P35 [1,1,1,1,0,1,0,0,1,0,0,1,0,1,0]) := by kernel_rfl
theorem k35_45 : P35 [1,1,1,1,0,1,0,0,1,0,0,1,0,1,0] = .loop (P35 [1,1,1,1,0,1,0,0,1,0,0,1,0,1,0,0]) := by kernel_rfl
theorem k35_46 : P35 [1,1,1,1,0,1,0,0,0,1,1] = .exit 0 := by kernel_rfl
theorem k35_47 : P35 [1,1,1,1,1] = .seq (P35 [1,1,1,1,1,0]) (P35 [1,1,1,1,1,1]) := by kernel_rfl
theorem k35_48 : P35 [1,1,1,1,1,0] = .region 20 (O35 [1,1,1,1,1,0]) false := by kernel_rfl
theorem r35_20 {Ax11 : Option Addr} {lx11 cx11 : Nat} {M : Mem} {call : CallM} {K : Array Value → Mem → R} :
    opsK Try.prog (fun _ => call) (O35 [1,1,1,1,1,0]) (O35 [1,1,1,1,1,0]).toList 0 #[g0,g1,g2,g3,g4,g5,g6,g7,g8,g9,g10,.slice Ax11 lx11 cx11,g12,g13,g14,g15,g16,g17,g18,g19,g20,g21,g22,g23,g24,g25,g26,g27,g28,g29,g30,g31,g32,g33,g34,g35,g36,g37,g38,g39,g40,g41,g42,g43,g44,g45,g46,g47,g48,g49,g50,g51,g52,g53,g54,g55,g56,g57,g58,g59,g60,g61,g62,g63,g64,g65,g66,g67,g68,g69,g70,g71,g72,g73,g74,g75,g76,g77,g78,g79,g80,g81,g82,g83,g84,g85,g86,g87,g88] M K = K #[g0,g1,g2,g3,.slice Ax11 lx11 cx11,g5,g6,g7,g8,g9,g10,.slice Ax11 lx11 cx11,g12,g13,g14,g15,g16,g17,g18,g19,g20,g21,g22,g23,g24,g25,g26,g27,g28,g29,g30,g31,g32,g33,g34,g35,g36,g37,g38,g39,g40,g41,g42,g43,g44,g45,g46,g47,g48,g49,g50,g51,g52,g53,g54,g55,g56,g57,g58,g59,g60,g61,g62,g63,g64,g65,g66,g67,g68,g69,g70,g71,g72,g73,g74,g75,g76,g77,g78,g79,g80,g81,g82,g83,g84,g85,g86,g87,.slice Ax11 lx11 cx11] M := by kernel_rfl
theorem k35_49 : P35 [1,1,1,1,1,1] = .ret := by kernel_rfl
theorem k35_50 : P35 [1,1,1,1,0,1,0,0,1,0,0,1,0,1,0,0] = .seq (P35 [1,1,1,1,0,1,0,0,1,0,0,1,0,1,0,0,0]) (P35 [1,1,1,1,0,1,0,0,1,0,0,1,0,1,0,0,1]) := by kernel_rfl
theorem k35_51 : P35 [1,1,1,1,0,1,0,0,1,0,0,1,0,1,0,0,0] = .seq (P35 [1,1,1,1,0,1,0,0,1,0,0,1,0,1,0,0,0,0]) (P35 [1,1,1,1,0,1,0,0,1,0,0,1,0,1,0,0,0,1]) := by kernel_rfl
theorem k35_52 : P35 [1,1,1,1,0,1,0,0,1,0,0,1,0,1,0,0,0,0] = .region 16 (O35 [1,1,1,1,0,1,0,0,1,0,0,1,0,1,0,0,0,0]) false := by kernel_rfl
theorem r35_16 {x10 x14 : Int} {M : Mem} {call : CallM} {K : Array Value → Mem → R} :
    opsK Try.prog (fun _ => call) (O35 [1,1,1,1,0,1,0,0,1,0,0,1,0,1,0,0,0,0]) (O35 [1,1,1,1,0,1,0,0,1,0,0,1,0,1,0,0,0,0]).toList 0 #[g0,g1,g2,g3,g4,g5,g6,g7,g8,g9,.int .i64 x10,g11,g12,g13,.int .i64 x14,g15,g16,g17,g18,g19,g20,g21,g22,g23,g24,g25,g26,g27,g28,g29,g30,g31,g32,g33,g34,g35,g36,g37,g38,g39,g40,g41,g42,g43,g44,g45,g46,g47,g48,g49,g50,g51,g52,g53,g54,g55,g56,g57,g58,g59,g60,g61,g62,g63,g64,g65,g66,g67,g68,g69,g70,g71,g72,g73,g74,g75,g76,g77,g78,g79,g80,g81,g82,g83,g84,g85,g86,g87,g88] M K = K #[g0,g1,g2,g3,g4,g5,g6,g7,g8,g9,.int .i64 x10,g11,g12,g13,.int .i64 x14,g15,g16,g17,g18,g19,g20,g21,g22,g23,g24,g25,g26,g27,g28,g29,g30,g31,g32,g33,g34,g35,g36,g37,g38,g39,g40,g41,g42,g43,g44,g45,g46,g47,g48,g49,g50,g51,g52,g53,g54,g55,g56,g57,g58,g59,g60,g61,g62,g63,.int .i64 x14,.int .i64 x10,.bool (decide (x14 < x10)),g67,g68,g69,g70,g71,g72,g73,g74,g75,g76,g77,g78,g79,g80,g81,g82,g83,g84,g85,g86,g87,g88] M := by kernel_rfl
theorem c35_53 : P35 [1,1,1,1,0,1,0,0,1,0,0,1,0,1,0,0,0,1] = .cond (.tmp 66) (P35 [1,1,1,1,0,1,0,0,1,0,0,1,0,1,0,0,0,1,0]) (P35 [1,1,1,1,0,1,0,0,1,0,0,1,0,1,0,0,0,1,1]) := by kernel_rfl
theorem k35_54 : P35 [1,1,1,1,0,1,0,0,1,0,0,1,0,1,0,0,0,1,0] = .skip := by kernel_rfl
theorem k35_55 : P35 [1,1,1,1,0,1,0,0,1,0,0,1,0,1,0,0,1] = .seq (P35 [1,1,1,1,0,1,0,0,1,0,0,1,0,1,0,0,1,0]) (P35 [1,1,1,1,0,1,0,0,1,0,0,1,0,1,0,0,1,1]) := by kernel_rfl
theorem k35_56 : P35 [1,1,1,1,0,1,0,0,1,0,0,1,0,1,0,0,1,0] = .block 3 (P35 [1,1,1,1,0,1,0,0,1,0,0,1,0,1,0,0,1,0,0]) := by kernel_rfl
theorem k35_57 : P35 [1,1,1,1,0,1,0,0,1,0,0,1,0,1,0,0,1,0,0] = .region 18 (O35 [1,1,1,1,0,1,0,0,1,0,0,1,0,1,0,0,1,0,0]) true ∧ drawOk (O35 [1,1,1,1,0,1,0,0,1,0,0,1,0,1,0,0,1,0,0]) = true := ⟨by kernel_rfl, by kernel_rfl⟩
theorem r35_18 {Ax0 : Option Addr} {lx0 cx0 : Nat} {Ax1 : Option Addr} {lx1 cx1 : Nat} {x12 x13 x14 : Int} {M : Mem} {call : CallM} {K : Array Value → Mem → R} :
    opsI Try.prog (callAt call (O35 [1,1,1,1,0,1,0,0,1,0,0,1,0,1,0,0,1,0,0])) (O35 [1,1,1,1,0,1,0,0,1,0,0,1,0,1,0,0,1,0,0]) (ordOf (O35 [1,1,1,1,0,1,0,0,1,0,0,1,0,1,0,0,1,0,0])) [] #[.slice Ax0 lx0 cx0,.slice Ax1 lx1 cx1,g2,g3,g4,g5,g6,g7,g8,g9,g10,g11,.int .i64 x12,.int .i64 x13,.int .i64 x14,g15,g16,g17,g18,g19,g20,g21,g22,g23,g24,g25,g26,g27,g28,g29,g30,g31,g32,g33,g34,g35,g36,g37,g38,g39,g40,g41,g42,g43,g44,g45,g46,g47,g48,g49,g50,g51,g52,g53,g54,g55,g56,g57,g58,g59,g60,g61,g62,g63,g64,g65,g66,g67,g68,g69,g70,g71,g72,g73,g74,g75,g76,g77,g78,g79,g80,g81,g82,g83,g84,g85,g86,g87,g88] M K = (idxA Ax1 lx1 1 x14).bind fun a_1 => (M.intAt .i64 a_1.block a_1.off).bind fun x_2 => (idxA Ax0 lx0 1 x12).bind fun a_3 => (M.slAt a_3.block a_3.off).bind fun s_4 => (idxA s_4.1 (s_4.2.1) 1 x14).bind fun a_5 => (M.intAt .i64 a_5.block a_5.off).bind fun x_6 => K #[.slice Ax0 lx0 cx0,.slice Ax1 lx1 cx1,g2,g3,g4,g5,g6,g7,g8,g9,g10,g11,.int .i64 x12,.int .i64 (IntKind.i64.wrap (x13 + (IntKind.i64.wrap (x_2 * x_6)))),.int .i64 x14,g15,g16,g17,g18,g19,g20,g21,g22,g23,g24,g25,g26,g27,g28,g29,g30,g31,g32,g33,g34,g35,g36,g37,g38,g39,g40,g41,g42,g43,g44,g45,g46,g47,g48,g49,g50,g51,g52,g53,g54,g55,g56,g57,g58,g59,g60,g61,g62,g63,g64,g65,g66,g67,g68,.int .i64 x13,.slice Ax1 lx1 cx1,.int .i64 x14,.pointer (some a_1),.int .i64 x_2,.slice Ax0 lx0 cx0,.int .i64 x12,.pointer (some a_3),.slice s_4.1 (s_4.2.1) (s_4.2.2),.int .i64 x14,.pointer (some a_5),.int .i64 x_6,.int .i64 (IntKind.i64.wrap (x_2 * x_6)),.int .i64 (IntKind.i64.wrap (x13 + (IntKind.i64.wrap (x_2 * x_6)))),g83,g84,g85,g86,g87,g88] M := by kernel_rfl
theorem k35_58 : P35 [1,1,1,1,0,1,0,0,1,0,0,1,0,1,0,0,1,1] = .region 17 (O35 [1,1,1,1,0,1,0,0,1,0,0,1,0,1,0,0,1,1]) false := by kernel_rfl
theorem r35_17 {x14 : Int} {M : Mem} {call : CallM} {K : Array Value → Mem → R} :
    opsK Try.prog (fun _ => call) (O35 [1,1,1,1,0,1,0,0,1,0,0,1,0,1,0,0,1,1]) (O35 [1,1,1,1,0,1,0,0,1,0,0,1,0,1,0,0,1,1]).toList 0 #[g0,g1,g2,g3,g4,g5,g6,g7,g8,g9,g10,g11,g12,g13,.int .i64 x14,g15,g16,g17,g18,g19,g20,g21,g22,g23,g24,g25,g26,g27,g28,g29,g30,g31,g32,g33,g34,g35,g36,g37,g38,g39,g40,g41,g42,g43,g44,g45,g46,g47,g48,g49,g50,g51,g52,g53,g54,g55,g56,g57,g58,g59,g60,g61,g62,g63,g64,g65,g66,g67,g68,g69,g70,g71,g72,g73,g74,g75,g76,g77,g78,g79,g80,g81,g82,g83,g84,g85,g86,g87,g88] M K = K #[g0,g1,g2,g3,g4,g5,g6,g7,g8,g9,g10,g11,g12,g13,.int .i64 (IntKind.i64.wrap (x14 + 1)),g15,g16,g17,g18,g19,g20,g21,g22,g23,g24,g25,g26,g27,g28,g29,g30,g31,g32,g33,g34,g35,g36,g37,g38,g39,g40,g41,g42,g43,g44,g45,g46,g47,g48,g49,g50,g51,g52,g53,g54,g55,g56,g57,g58,g59,g60,g61,g62,g63,g64,g65,g66,.int .i64 x14,.int .i64 (IntKind.i64.wrap (x14 + 1)),g69,g70,g71,g72,g73,g74,g75,g76,g77,g78,g79,g80,g81,g82,g83,g84,g85,g86,g87,g88] M := by kernel_rfl
theorem k35_59 : P35 [1,1,1,1,0,1,0,0,1,0,0,1,0,1,0,0,0,1,1] = .exit 2 := by kernel_rfl
theorem k35_60 : P35 [1,1,1,1,0,1,0,0,1,0,0,1,1] = .region 19 (O35 [1,1,1,1,0,1,0,0,1,0,0,1,1]) false := by kernel_rfl
theorem r35_19 {Ax11 : Option Addr} {lx11 cx11 : Nat} {x12 x13 : Int} {M : Mem} {call : CallM} {K : Array Value → Mem → R} :
    opsK Try.prog (fun _ => call) (O35 [1,1,1,1,0,1,0,0,1,0,0,1,1]) (O35 [1,1,1,1,0,1,0,0,1,0,0,1,1]).toList 0 #[g0,g1,g2,g3,g4,g5,g6,g7,g8,g9,g10,.slice Ax11 lx11 cx11,.int .i64 x12,.int .i64 x13,g14,g15,g16,g17,g18,g19,g20,g21,g22,g23,g24,g25,g26,g27,g28,g29,g30,g31,g32,g33,g34,g35,g36,g37,g38,g39,g40,g41,g42,g43,g44,g45,g46,g47,g48,g49,g50,g51,g52,g53,g54,g55,g56,g57,g58,g59,g60,g61,g62,g63,g64,g65,g66,g67,g68,g69,g70,g71,g72,g73,g74,g75,g76,g77,g78,g79,g80,g81,g82,g83,g84,g85,g86,g87,g88] M K = (idxA Ax11 lx11 1 x12).bind fun a_1 => (M.put a_1.block a_1.off (.int .i64 (x13.fdiv (2 ^ 12)))).bind fun M_2 => K #[g0,g1,g2,g3,g4,g5,g6,g7,g8,g9,g10,.slice Ax11 lx11 cx11,.int .i64 x12,.int .i64 x13,g14,g15,g16,g17,g18,g19,g20,g21,g22,g23,g24,g25,g26,g27,g28,g29,g30,g31,g32,g33,g34,g35,g36,g37,g38,g39,g40,g41,g42,g43,g44,g45,g46,g47,g48,g49,g50,g51,g52,g53,g54,g55,g56,g57,g58,g59,g60,g61,g62,g63,g64,g65,g66,g67,g68,g69,g70,g71,g72,g73,g74,g75,g76,g77,g78,g79,g80,g81,g82,.slice Ax11 lx11 cx11,.int .i64 x12,.int .i64 x13,.int .i64 (x13.fdiv (2 ^ 12)),.pointer (some a_1),g88] M_2 := by kernel_rfl
theorem k35_61 : P35 [1,1,1,1,0,1,0,0,1,1] = .region 13 (O35 [1,1,1,1,0,1,0,0,1,1]) false := by kernel_rfl
theorem r35_13 {x12 : Int} {M : Mem} {call : CallM} {K : Array Value → Mem → R} :
    opsK Try.prog (fun _ => call) (O35 [1,1,1,1,0,1,0,0,1,1]) (O35 [1,1,1,1,0,1,0,0,1,1]).toList 0 #[g0,g1,g2,g3,g4,g5,g6,g7,g8,g9,g10,g11,.int .i64 x12,g13,g14,g15,g16,g17,g18,g19,g20,g21,g22,g23,g24,g25,g26,g27,g28,g29,g30,g31,g32,g33,g34,g35,g36,g37,g38,g39,g40,g41,g42,g43,g44,g45,g46,g47,g48,g49,g50,g51,g52,g53,g54,g55,g56,g57,g58,g59,g60,g61,g62,g63,g64,g65,g66,g67,g68,g69,g70,g71,g72,g73,g74,g75,g76,g77,g78,g79,g80,g81,g82,g83,g84,g85,g86,g87,g88] M K = K #[g0,g1,g2,g3,g4,g5,g6,g7,g8,g9,g10,g11,.int .i64 (IntKind.i64.wrap (x12 + 1)),g13,g14,g15,g16,g17,g18,g19,g20,g21,g22,g23,g24,g25,g26,g27,g28,g29,g30,g31,g32,g33,g34,g35,g36,g37,g38,g39,g40,g41,g42,g43,g44,g45,g46,g47,g48,g49,g50,g51,g52,g53,g54,g55,g56,g57,g58,g59,g60,g61,.int .i64 x12,.int .i64 (IntKind.i64.wrap (x12 + 1)),g64,g65,g66,g67,g68,g69,g70,g71,g72,g73,g74,g75,g76,g77,g78,g79,g80,g81,g82,g83,g84,g85,g86,g87,g88] M := by kernel_rfl
noncomputable def S35_1 : List Item := [.code (P35 [1,1,1,1,0,1,0,0]), .inLoop (P35 [1,1,1,1,0,1,0,0]), .inBlock 0, .code (P35 [1,1,1,1,1])]
def A35_1 (Ax0 : Option Addr) (lx0 cx0 : Nat) (Ax1 : Option Addr) (lx1 cx1 : Nat) (x10 : Int) (Ax11 : Option Addr) (lx11 cx11 : Nat) (x12 : Int) (M : Mem) (Q : Value → Mem → Prop) : Prop := ∀ (g2 g3 g4 g5 g6 g7 g8 g9 g13 g14 g15 g16 g17 g18 g19 g20 g21 g22 g23 g24 g25 g26 g27 g28 g29 g30 g31 g32 g33 g34 g35 g36 g37 g38 g39 g40 g41 g42 g43 g44 g45 g46 g47 g48 g49 g50 g51 g52 g53 g54 g55 g56 g57 g58 g59 g60 g61 g62 g63 g64 g65 g66 g67 g68 g69 g70 g71 g72 g73 g74 g75 g76 g77 g78 g79 g80 g81 g82 g83 g84 g85 g86 g87 g88 : Value), Rn Try.prog Try.f35 S35_1 #[.slice Ax0 lx0 cx0, .slice Ax1 lx1 cx1, g2, g3, g4, g5, g6, g7, g8, g9, .int .i64 x10, .slice Ax11 lx11 cx11, .int .i64 x12, g13, g14, g15, g16, g17, g18, g19, g20, g21, g22, g23, g24, g25, g26, g27, g28, g29, g30, g31, g32, g33, g34, g35, g36, g37, g38, g39, g40, g41, g42, g43, g44, g45, g46, g47, g48, g49, g50, g51, g52, g53, g54, g55, g56, g57, g58, g59, g60, g61, g62, g63, g64, g65, g66, g67, g68, g69, g70, g71, g72, g73, g74, g75, g76, g77, g78, g79, g80, g81, g82, g83, g84, g85, g86, g87, g88] M Q
noncomputable def S35_2 : List Item := [.code (P35 [1,1,1,1,0,1,0,0,1,0,0,1,0,1,0,0]), .inLoop (P35 [1,1,1,1,0,1,0,0,1,0,0,1,0,1,0,0]), .inBlock 2, .code (P35 [1,1,1,1,0,1,0,0,1,0,0,1,1]), .inBlock 1, .code (P35 [1,1,1,1,0,1,0,0,1,1]), .inLoop (P35 [1,1,1,1,0,1,0,0]), .inBlock 0, .code (P35 [1,1,1,1,1])]
def A35_2 (Ax0 : Option Addr) (lx0 cx0 : Nat) (Ax1 : Option Addr) (lx1 cx1 : Nat) (x10 : Int) (Ax11 : Option Addr) (lx11 cx11 : Nat) (x12 x13 x14 : Int) (M : Mem) (Q : Value → Mem → Prop) : Prop := ∀ (g2 g3 g4 g5 g6 g7 g8 g9 g15 g16 g17 g18 g19 g20 g21 g22 g23 g24 g25 g26 g27 g28 g29 g30 g31 g32 g33 g34 g35 g36 g37 g38 g39 g40 g41 g42 g43 g44 g45 g46 g47 g48 g49 g50 g51 g52 g53 g54 g55 g56 g57 g58 g59 g60 g61 g62 g63 g64 g65 g66 g67 g68 g69 g70 g71 g72 g73 g74 g75 g76 g77 g78 g79 g80 g81 g82 g83 g84 g85 g86 g87 g88 : Value), Rn Try.prog Try.f35 S35_2 #[.slice Ax0 lx0 cx0, .slice Ax1 lx1 cx1, g2, g3, g4, g5, g6, g7, g8, g9, .int .i64 x10, .slice Ax11 lx11 cx11, .int .i64 x12, .int .i64 x13, .int .i64 x14, g15, g16, g17, g18, g19, g20, g21, g22, g23, g24, g25, g26, g27, g28, g29, g30, g31, g32, g33, g34, g35, g36, g37, g38, g39, g40, g41, g42, g43, g44, g45, g46, g47, g48, g49, g50, g51, g52, g53, g54, g55, g56, g57, g58, g59, g60, g61, g62, g63, g64, g65, g66, g67, g68, g69, g70, g71, g72, g73, g74, g75, g76, g77, g78, g79, g80, g81, g82, g83, g84, g85, g86, g87, g88] M Q
theorem w35_0 {Ax0 : Option Addr} {lx0 cx0 : Nat} {Ax1 : Option Addr} {lx1 cx1 : Nat} {M : Mem} {Q : Value → Mem → Prop} (H :
    ((((lx0 : Int)) = 0 →
     ∃ a1', idxA Ax1 lx1 1 0 = some a1' ∧
     ∃ x2', M.intAt .i64 a1'.block a1'.off = some x2' ∧
     ∃ a3', idxA Ax1 lx1 1 1 = some a3' ∧
     ∃ x4', M.intAt .i64 a3'.block a3'.off = some x4' ∧
     ∃ a5', idxA Ax1 lx1 1 2 = some a5' ∧
     ∃ x6', M.intAt .i64 a5'.block a5'.off = some x6' ∧
     ∃ a7', idxA Ax1 lx1 1 3 = some a7' ∧
     ∃ x8', M.intAt .i64 a7'.block a7'.off = some x8' ∧
     Q (.slice (some ⟨2 * M.nb.size, 0, none⟩) 4 4) (M.new (.cells #[.int .i64 (IntKind.i64.wrap ((IntKind.i64.wrap (x2' + x4')) - (IntKind.i64.wrap (((IntKind.i64.wrap ((IntKind.i64.wrap (x2' + x4')) - (IntKind.i64.wrap (x8' - x6')))).fdiv (2 ^ 1)) - x6')))), .int .i64 (IntKind.i64.wrap (((IntKind.i64.wrap ((IntKind.i64.wrap (x2' + x4')) - (IntKind.i64.wrap (x8' - x6')))).fdiv (2 ^ 1)) - x6')), .int .i64 (IntKind.i64.wrap ((IntKind.i64.wrap (x8' - x6')) + (IntKind.i64.wrap (((IntKind.i64.wrap ((IntKind.i64.wrap (x2' + x4')) - (IntKind.i64.wrap (x8' - x6')))).fdiv (2 ^ 1)) - x4')))), .int .i64 (IntKind.i64.wrap (((IntKind.i64.wrap ((IntKind.i64.wrap (x2' + x4')) - (IntKind.i64.wrap (x8' - x6')))).fdiv (2 ^ 1)) - x4'))] 3))) ∧
     (((lx0 : Int)) ≠ 0 →
     ∃ r9', makeP Try.prog 22 (.int .i64 (lx1 : Int)) (.int .i64 (lx1 : Int)) M = some r9' ∧
     ∃ s10', asS r9'.1 = some s10' ∧
     A35_1 Ax0 lx0 cx0 Ax1 lx1 cx1 (lx1 : Int) s10'.1 s10'.2.1 s10'.2.2 0 r9'.2 Q))) :
    Cn Try.prog 35 #[.slice Ax0 lx0 cx0, .slice Ax1 lx1 cx1] M Q := by
  refine Cn.of b35 d35 t35 ?_
  refine Rn.seq k35_0 (Rn.region k35_1 (fun call K => r35_0) (Rch.leaf (Rn.seq k35_2 (Rn.seq k35_3 (Rn.region k35_4 (fun call K => r35_1) (Rch.leaf ?_))))))
  refine Rn.cnd (v := ((lx0 : Int)) == 0) ⟨c35_5, rfl, by kernel_rfl⟩ (fun h => ?_) (fun h => ?_)
  · replace H := H.1 (eq_of_beq h)
    refine Rn.seq k35_6 (Rn.regionD k35_7 (fun call K => r35_2) (Rch.ex H fun a1' H => Rch.ex H fun x2' H => Rch.ex H fun a3' H => Rch.ex H fun x4' H => Rch.ex H fun a5' H => Rch.ex H fun x6' H => Rch.ex H fun a7' H => Rch.ex H fun x8' H => Rch.leaf (Rn.seq k35_8 ?_)))
    refine Rn.region k35_9 (fun call K => r35_3) (Rch.leaf (Rn.seq k35_10 (Rn.region k35_11 (fun call K => r35_4) (Rch.leaf (Rn.seq k35_12 (Rn.region k35_13 (fun call K => r35_5) (Rch.leaf (Rn.seq k35_14 (Rn.region k35_15 (fun call K => r35_6) (Rch.leaf (Rn.seq k35_16 ?_)))))))))))
    refine Rn.region k35_17 (fun call K => r35_7) (Rch.leaf (Rn.seq k35_18 (Rn.region k35_19 (fun call K => r35_8) (Rch.leaf ?_))))
    exact Rn.ret k35_20 e35 H
  · replace H := H.2 (ne_of_beq_false h)
    refine Rn.skip k35_22 (Rn.seq k35_23 (Rn.region k35_24 (fun call K => r35_9) (Rch.leaf (Rn.seq k35_25 (Rn.region k35_26 (fun call K => r35_10) (Rch.ex H fun r9' H => Rch.ex H fun s10' H => Rch.leaf (Rn.seq k35_27 (Rn.seq k35_28 (Rn.region k35_29 (fun call K => r35_11) ?_)))))))))
    refine Rch.leaf (Rn.block k35_30 (Rn.loop k35_31 ?_))
    exact H _ _ _ _ _ _ _ _ _ _ _ _ _ _ _ _ _ _ _ _ _ _ _ _ _ _ _ _ _ _ _ _ _ _ _ _ _ _ _ _ _ _ _ _ _ _ _ _ _ _ _ _ _ _ _ _ _ _ _ _ _ _ _ _ _ _ _ _ _ _ _ _ _ _ _ _ _ _ _ _ _ _ _ _

theorem w35_1 {Ax0 : Option Addr} {lx0 cx0 : Nat} {Ax1 : Option Addr} {lx1 cx1 : Nat} {x10 : Int} {Ax11 : Option Addr} {lx11 cx11 : Nat} {x12 : Int} {M : Mem} {Q : Value → Mem → Prop} (H :
    ((x12 < x10 →
     A35_2 Ax0 lx0 cx0 Ax1 lx1 cx1 x10 Ax11 lx11 cx11 x12 2048 0 M Q) ∧
     (¬ (x12 < x10) →
     Q (.slice Ax11 lx11 cx11) M))) :
    A35_1 Ax0 lx0 cx0 Ax1 lx1 cx1 x10 Ax11 lx11 cx11 x12 M Q := by
  intro g2 g3 g4 g5 g6 g7 g8 g9 g13 g14 g15 g16 g17 g18 g19 g20 g21 g22 g23 g24 g25 g26 g27 g28 g29 g30 g31 g32 g33 g34 g35 g36 g37 g38 g39 g40 g41 g42 g43 g44 g45 g46 g47 g48 g49 g50 g51 g52 g53 g54 g55 g56 g57 g58 g59 g60 g61 g62 g63 g64 g65 g66 g67 g68 g69 g70 g71 g72 g73 g74 g75 g76 g77 g78 g79 g80 g81 g82 g83 g84 g85 g86 g87 g88
  refine Rn.seq k35_32 (Rn.seq k35_33 (Rn.region k35_34 (fun call K => r35_12) (Rch.leaf ?_)))
  refine Rn.cnd (v := decide (x12 < x10)) ⟨c35_35, rfl, by kernel_rfl⟩ (fun h => ?_) (fun h => ?_)
  · replace H := H.1 (of_decide_eq_true h)
    refine Rn.skip k35_36 (Rn.seq k35_37 (Rn.block k35_38 (Rn.seq k35_39 (Rn.region k35_40 (fun call K => r35_14) (Rch.leaf (Rn.seq k35_41 (Rn.seq k35_42 (Rn.region k35_43 (fun call K => r35_15) (Rch.leaf (Rn.block k35_44 (Rn.loop k35_45 ?_)))))))))))
    exact H _ _ _ _ _ _ _ _ _ _ _ _ _ _ _ _ _ _ _ _ _ _ _ _ _ _ _ _ _ _ _ _ _ _ _ _ _ _ _ _ _ _ _ _ _ _ _ _ _ _ _ _ _ _ _ _ _ _ _ _ _ _ _ _ _ _ _ _ _ _ _ _ _ _ _ _ _ _ _ _ _ _
  · replace H := H.2 (of_decide_eq_false h)
    refine Rn.exit k35_46 rfl (Rn.seq k35_47 (Rn.region k35_48 (fun call K => r35_20) (Rch.leaf ?_)))
    exact Rn.ret k35_49 e35 H

theorem w35_2 {Ax0 : Option Addr} {lx0 cx0 : Nat} {Ax1 : Option Addr} {lx1 cx1 : Nat} {x10 : Int} {Ax11 : Option Addr} {lx11 cx11 : Nat} {x12 x13 x14 : Int} {M : Mem} {Q : Value → Mem → Prop} (H :
    ((x14 < x10 →
     ∃ a11', idxA Ax1 lx1 1 x14 = some a11' ∧
     ∃ x12', M.intAt .i64 a11'.block a11'.off = some x12' ∧
     ∃ a13', idxA Ax0 lx0 1 x12 = some a13' ∧
     ∃ s14', M.slAt a13'.block a13'.off = some s14' ∧
     ∃ a15', idxA s14'.1 (s14'.2.1) 1 x14 = some a15' ∧
     ∃ x16', M.intAt .i64 a15'.block a15'.off = some x16' ∧
     A35_2 Ax0 lx0 cx0 Ax1 lx1 cx1 x10 Ax11 lx11 cx11 x12 (IntKind.i64.wrap (x13 + (IntKind.i64.wrap (x12' * x16')))) (IntKind.i64.wrap (x14 + 1)) M Q) ∧
     (¬ (x14 < x10) →
     ∃ a17', idxA Ax11 lx11 1 x12 = some a17' ∧
     ∃ M18', M.put a17'.block a17'.off (.int .i64 (x13.fdiv (2 ^ 12))) = some M18' ∧
     A35_1 Ax0 lx0 cx0 Ax1 lx1 cx1 x10 Ax11 lx11 cx11 (IntKind.i64.wrap (x12 + 1)) M18' Q))) :
    A35_2 Ax0 lx0 cx0 Ax1 lx1 cx1 x10 Ax11 lx11 cx11 x12 x13 x14 M Q := by
  intro g2 g3 g4 g5 g6 g7 g8 g9 g15 g16 g17 g18 g19 g20 g21 g22 g23 g24 g25 g26 g27 g28 g29 g30 g31 g32 g33 g34 g35 g36 g37 g38 g39 g40 g41 g42 g43 g44 g45 g46 g47 g48 g49 g50 g51 g52 g53 g54 g55 g56 g57 g58 g59 g60 g61 g62 g63 g64 g65 g66 g67 g68 g69 g70 g71 g72 g73 g74 g75 g76 g77 g78 g79 g80 g81 g82 g83 g84 g85 g86 g87 g88
  refine Rn.seq k35_50 (Rn.seq k35_51 (Rn.region k35_52 (fun call K => r35_16) (Rch.leaf ?_)))
  refine Rn.cnd (v := decide (x14 < x10)) ⟨c35_53, rfl, by kernel_rfl⟩ (fun h => ?_) (fun h => ?_)
  · replace H := H.1 (of_decide_eq_true h)
    refine Rn.skip k35_54 (Rn.seq k35_55 (Rn.block k35_56 (Rn.regionD k35_57 (fun call K => r35_18) (Rch.ex H fun a11' H => Rch.ex H fun x12' H => Rch.ex H fun a13' H => Rch.ex H fun s14' H => Rch.ex H fun a15' H => Rch.ex H fun x16' H => Rch.leaf (Rn.blk ?_)))))
    refine Rn.region k35_58 (fun call K => r35_17) (Rch.leaf (Rn.lp ?_))
    exact H _ _ _ _ _ _ _ _ _ _ _ _ _ _ _ _ _ _ _ _ _ _ _ _ _ _ _ _ _ _ _ _ _ _ _ _ _ _ _ _ _ _ _ _ _ _ _ _ _ _ _ _ _ _ _ _ _ _ _ _ _ _ _ _ _ _ _ _ _ _ _ _ _ _ _ _ _ _ _ _ _ _
  · replace H := H.2 (of_decide_eq_false h)
    refine Rn.exit k35_59 rfl (Rn.region k35_60 (fun call K => r35_19) (Rch.ex H fun a17' H => Rch.ex H fun M18' H => Rch.leaf (Rn.blk (Rn.region k35_61 (fun call K => r35_13) (Rch.leaf (Rn.lp ?_))))))
    exact H _ _ _ _ _ _ _ _ _ _ _ _ _ _ _ _ _ _ _ _ _ _ _ _ _ _ _ _ _ _ _ _ _ _ _ _ _ _ _ _ _ _ _ _ _ _ _ _ _ _ _ _ _ _ _ _ _ _ _ _ _ _ _ _ _ _ _ _ _ _ _ _ _ _ _ _ _ _ _ _ _ _ _ _


/-! ### zoetrope/zoetroperef07.Rows: function 39 -/
noncomputable abbrev P39 (p : List Nat) : Code := subC (codeOf Try.f39) p
noncomputable abbrev O39 (p : List Nat) : Array Oper := opsOf (subC (codeOf Try.f39) p)
theorem b39 : Try.prog.funcs[39]? = some Try.f39 ∧ (Orc.tab Try.prog).lookup 39 = none := ⟨by kernel_rfl, by kernel_rfl⟩
theorem d39 : Try.f39.body = some (P39 []) := by kernel_rfl
theorem t39 {x0 x1 : Int} : #[.int .i64 x0,.int .i64 x1] ++ Array.replicate (Try.f39.ntmps - (#[.int .i64 x0,.int .i64 x1] : Array Value).size) undef = #[.int .i64 x0,.int .i64 x1,undef,undef,undef,undef,undef,undef,undef,undef,undef,undef,undef,undef,undef,undef,undef,undef,undef,undef,undef,undef,undef,undef,undef,undef,undef,undef,undef,undef,undef,undef,undef,undef,undef,undef,undef,undef,undef,undef,undef,undef,undef,undef,undef,undef,undef,undef,undef,undef,undef,undef,undef,undef,undef,undef,undef,undef] := by kernel_rfl
theorem k39_0 : P39 [] = .seq (P39 [0]) (P39 [1]) := by kernel_rfl
theorem k39_1 : P39 [0] = .region 0 (O39 [0]) false := by kernel_rfl
theorem r39_0 {M : Mem} {call : CallM} {K : Array Value → Mem → R} :
    opsK Try.prog (fun _ => call) (O39 [0]) (O39 [0]).toList 0 #[g0,g1,g2,g3,g4,g5,g6,g7,g8,g9,g10,g11,g12,g13,g14,g15,g16,g17,g18,g19,g20,g21,g22,g23,g24,g25,g26,g27,g28,g29,g30,g31,g32,g33,g34,g35,g36,g37,g38,g39,g40,g41,g42,g43,g44,g45,g46,g47,g48,g49,g50,g51,g52,g53,g54,g55,g56,g57] M K = K #[g0,g1,g2,g3,.bool false,g5,g6,g7,g8,g9,g10,g11,g12,g13,g14,g15,g16,g17,g18,g19,g20,g21,g22,g23,g24,g25,g26,g27,g28,g29,g30,g31,g32,g33,g34,g35,g36,g37,g38,g39,g40,g41,g42,g43,g44,g45,g46,g47,g48,g49,g50,g51,g52,g53,g54,g55,g56,g57] M := by kernel_rfl
theorem k39_2 : P39 [1] = .seq (P39 [1,0]) (P39 [1,1]) := by kernel_rfl
theorem k39_3 : P39 [1,0] = .seq (P39 [1,0,0]) (P39 [1,0,1]) := by kernel_rfl
theorem k39_4 : P39 [1,0,0] = .region 1 (O39 [1,0,0]) false := by kernel_rfl
theorem r39_1 {x0 : Int} {M : Mem} {call : CallM} {K : Array Value → Mem → R} :
    opsK Try.prog (fun _ => call) (O39 [1,0,0]) (O39 [1,0,0]).toList 0 #[.int .i64 x0,g1,g2,g3,g4,g5,g6,g7,g8,g9,g10,g11,g12,g13,g14,g15,g16,g17,g18,g19,g20,g21,g22,g23,g24,g25,g26,g27,g28,g29,g30,g31,g32,g33,g34,g35,g36,g37,g38,g39,g40,g41,g42,g43,g44,g45,g46,g47,g48,g49,g50,g51,g52,g53,g54,g55,g56,g57] M K = K #[.int .i64 x0,g1,g2,g3,g4,.int .i64 x0,g6,g7,g8,g9,g10,g11,g12,g13,g14,g15,g16,g17,g18,g19,g20,g21,g22,g23,g24,g25,g26,g27,g28,g29,g30,g31,g32,g33,g34,g35,g36,g37,g38,g39,g40,g41,g42,g43,g44,g45,g46,g47,g48,g49,g50,g51,g52,g53,g54,g55,g56,g57] M := by kernel_rfl
theorem k39_5 : P39 [1,0,1] = .block 0 (P39 [1,0,1,0]) := by kernel_rfl
theorem k39_6 : P39 [1,0,1,0] = .seq (P39 [1,0,1,0,0]) (P39 [1,0,1,0,1]) := by kernel_rfl
theorem k39_7 : P39 [1,0,1,0,0] = .region 2 (O39 [1,0,1,0,0]) false := by kernel_rfl
theorem r39_2 {x5 : Int} {M : Mem} {call : CallM} {K : Array Value → Mem → R} :
    opsK Try.prog (fun _ => call) (O39 [1,0,1,0,0]) (O39 [1,0,1,0,0]).toList 0 #[g0,g1,g2,g3,g4,.int .i64 x5,g6,g7,g8,g9,g10,g11,g12,g13,g14,g15,g16,g17,g18,g19,g20,g21,g22,g23,g24,g25,g26,g27,g28,g29,g30,g31,g32,g33,g34,g35,g36,g37,g38,g39,g40,g41,g42,g43,g44,g45,g46,g47,g48,g49,g50,g51,g52,g53,g54,g55,g56,g57] M K = K #[g0,g1,g2,g3,g4,.int .i64 x5,.bool (x5 == 0),.bool (x5 == 0),g8,g9,g10,g11,g12,g13,g14,g15,g16,g17,g18,g19,g20,g21,g22,g23,g24,g25,g26,g27,g28,g29,g30,g31,g32,g33,g34,g35,g36,g37,g38,g39,g40,g41,g42,g43,g44,g45,g46,g47,g48,g49,g50,g51,g52,g53,g54,g55,g56,g57] M := by kernel_rfl
theorem c39_8 : P39 [1,0,1,0,1] = .cond (.tmp 6) (P39 [1,0,1,0,1,0]) (P39 [1,0,1,0,1,1]) := by kernel_rfl
theorem k39_9 : P39 [1,0,1,0,1,0] = .seq (P39 [1,0,1,0,1,0,0]) (P39 [1,0,1,0,1,0,1]) := by kernel_rfl
theorem k39_10 : P39 [1,0,1,0,1,0,0] = .region 3 (O39 [1,0,1,0,1,0,0]) false := by kernel_rfl
theorem k39_11 : P39 [1,0,1,0,1,0,0] = .region 3 (O39 [1,0,1,0,1,0,0]) false ∧ (!false || drawOk (O39 [1,0,1,0,1,0,0])) = true := ⟨by kernel_rfl, by kernel_rfl⟩
theorem r39_3p0 {x1 : Int} {M : Mem} {call : CallM} {K : Array Value → Mem → R} :
    segK Try.prog false call (O39 [1,0,1,0,1,0,0]) 0 7 #[g0,.int .i64 x1,g2,g3,g4,g5,g6,g7,g8,g9,g10,g11,g12,g13,g14,g15,g16,g17,g18,g19,g20,g21,g22,g23,g24,g25,g26,g27,g28,g29,g30,g31,g32,g33,g34,g35,g36,g37,g38,g39,g40,g41,g42,g43,g44,g45,g46,g47,g48,g49,g50,g51,g52,g53,g54,g55,g56,g57] M K = withK (fun w10 w11 w12 w13 w14 M => K #[g0,.int .i64 x1,g2,g3,g4,g5,g6,g7,.int .i64 x1,.bool (x1 == 4),w10,w11,w12,w13,w14,g15,g16,g17,g18,g19,g20,g21,g22,g23,g24,g25,g26,g27,g28,g29,g30,g31,g32,g33,g34,g35,g36,g37,g38,g39,g40,g41,g42,g43,g44,g45,g46,g47,g48,g49,g50,g51,g52,g53,g54,g55,g56,g57] M) fun k => cond (x1 == 4) (k (.bool true) undef undef (.bool true) (.bool true) M) (k (.bool false) (.int .i64 x1) (.bool (x1 == 8)) (.bool (x1 == 8)) (.bool (x1 == 8)) M) := by kernel_rfl
theorem k39_12 : P39 [1,0,1,0,1,1] = .seq (P39 [1,0,1,0,1,1,0]) (P39 [1,0,1,0,1,1,1]) := by kernel_rfl
theorem k39_13 : P39 [1,0,1,0,1,1,0] = .region 4 (O39 [1,0,1,0,1,1,0]) false := by kernel_rfl
theorem r39_4 {x5 : Int} {M : Mem} {call : CallM} {K : Array Value → Mem → R} :
    opsK Try.prog (fun _ => call) (O39 [1,0,1,0,1,1,0]) (O39 [1,0,1,0,1,1,0]).toList 0 #[g0,g1,g2,g3,g4,.int .i64 x5,g6,g7,g8,g9,g10,g11,g12,g13,g14,g15,g16,g17,g18,g19,g20,g21,g22,g23,g24,g25,g26,g27,g28,g29,g30,g31,g32,g33,g34,g35,g36,g37,g38,g39,g40,g41,g42,g43,g44,g45,g46,g47,g48,g49,g50,g51,g52,g53,g54,g55,g56,g57] M K = K #[g0,g1,g2,g3,g4,.int .i64 x5,g6,g7,g8,g9,g10,g11,g12,g13,g14,g15,g16,g17,g18,g19,g20,g21,g22,g23,g24,g25,.bool (x5 == 1),.bool (x5 == 1),g28,g29,g30,g31,g32,g33,g34,g35,g36,g37,g38,g39,g40,g41,g42,g43,g44,g45,g46,g47,g48,g49,g50,g51,g52,g53,g54,g55,g56,g57] M := by kernel_rfl
theorem c39_14 : P39 [1,0,1,0,1,1,1] = .cond (.tmp 26) (P39 [1,0,1,0,1,1,1,0]) (P39 [1,0,1,0,1,1,1,1]) := by kernel_rfl
theorem k39_15 : P39 [1,0,1,0,1,1,1,0] = .seq (P39 [1,0,1,0,1,1,1,0,0]) (P39 [1,0,1,0,1,1,1,0,1]) := by kernel_rfl
theorem k39_16 : P39 [1,0,1,0,1,1,1,0,0] = .region 5 (O39 [1,0,1,0,1,1,1,0,0]) false := by kernel_rfl
theorem r39_5 {x1 : Int} {M : Mem} {call : CallM} {K : Array Value → Mem → R} :
    opsK Try.prog (fun _ => call) (O39 [1,0,1,0,1,1,1,0,0]) (O39 [1,0,1,0,1,1,1,0,0]).toList 0 #[g0,.int .i64 x1,g2,g3,g4,g5,g6,g7,g8,g9,g10,g11,g12,g13,g14,g15,g16,g17,g18,g19,g20,g21,g22,g23,g24,g25,g26,g27,g28,g29,g30,g31,g32,g33,g34,g35,g36,g37,g38,g39,g40,g41,g42,g43,g44,g45,g46,g47,g48,g49,g50,g51,g52,g53,g54,g55,g56,g57] M K = withK (fun w4 w30 w31 w32 w33 w34 w35 w36 w37 M => K #[g0,.int .i64 x1,g2,g3,w4,g5,g6,g7,g8,g9,g10,g11,g12,g13,g14,g15,g16,g17,g18,g19,g20,g21,g22,g23,g24,g25,g26,g27,.int .i64 x1,.bool (x1 == 4),w30,w31,w32,w33,w34,w35,w36,w37,g38,g39,g40,g41,g42,g43,g44,g45,g46,g47,g48,g49,g50,g51,g52,g53,g54,g55,g56,g57] M) fun k => cond (x1 == 4) (k (.bool true) (.bool true) undef undef (.bool true) (.bool true) undef undef (.bool true) M) (cond (x1 == 8) (k (.bool true) (.bool false) (.int .i64 x1) (.bool (x1 == 8)) (.bool (x1 == 8)) (.bool true) undef undef (.bool true) M) (k (.bool (x1 == 16)) (.bool false) (.int .i64 x1) (.bool (x1 == 8)) (.bool (x1 == 8)) (.bool false) (.int .i64 x1) (.bool (x1 == 16)) (.bool (x1 == 16)) M)) := by kernel_rfl
theorem k39_17 : P39 [1,0,1,0,1,1,1,0,1] = .ret := by kernel_rfl
theorem e39 {M : Mem} : finish Try.prog Try.f39 #[g0,g1,g2,g3,g4,g5,g6,g7,g8,g9,g10,g11,g12,g13,g14,g15,g16,g17,g18,g19,g20,g21,g22,g23,g24,g25,g26,g27,g28,g29,g30,g31,g32,g33,g34,g35,g36,g37,g38,g39,g40,g41,g42,g43,g44,g45,g46,g47,g48,g49,g50,g51,g52,g53,g54,g55,g56,g57] M = some (g4, M) := by kernel_rfl
theorem k39_19 : P39 [1,0,1,0,1,1,1,1] = .seq (P39 [1,0,1,0,1,1,1,1,0]) (P39 [1,0,1,0,1,1,1,1,1]) := by kernel_rfl
theorem k39_20 : P39 [1,0,1,0,1,1,1,1,0] = .region 6 (O39 [1,0,1,0,1,1,1,1,0]) false := by kernel_rfl
theorem r39_6 {x5 : Int} {M : Mem} {call : CallM} {K : Array Value → Mem → R} :
    opsK Try.prog (fun _ => call) (O39 [1,0,1,0,1,1,1,1,0]) (O39 [1,0,1,0,1,1,1,1,0]).toList 0 #[g0,g1,g2,g3,g4,.int .i64 x5,g6,g7,g8,g9,g10,g11,g12,g13,g14,g15,g16,g17,g18,g19,g20,g21,g22,g23,g24,g25,g26,g27,g28,g29,g30,g31,g32,g33,g34,g35,g36,g37,g38,g39,g40,g41,g42,g43,g44,g45,g46,g47,g48,g49,g50,g51,g52,g53,g54,g55,g56,g57] M K = K #[g0,g1,g2,g3,g4,.int .i64 x5,g6,g7,g8,g9,g10,g11,g12,g13,g14,g15,g16,g17,g18,g19,g20,g21,g22,g23,g24,g25,g26,g27,g28,g29,g30,g31,g32,g33,g34,g35,g36,g37,.bool (x5 == 2),.bool (x5 == 2),g40,g41,g42,g43,g44,g45,g46,g47,g48,g49,g50,g51,g52,g53,g54,g55,g56,g57] M := by kernel_rfl
theorem c39_21 : P39 [1,0,1,0,1,1,1,1,1] = .cond (.tmp 38) (P39 [1,0,1,0,1,1,1,1,1,0]) (P39 [1,0,1,0,1,1,1,1,1,1]) := by kernel_rfl
theorem k39_22 : P39 [1,0,1,0,1,1,1,1,1,0] = .seq (P39 [1,0,1,0,1,1,1,1,1,0,0]) (P39 [1,0,1,0,1,1,1,1,1,0,1]) := by kernel_rfl
theorem k39_23 : P39 [1,0,1,0,1,1,1,1,1,0,0] = .region 7 (O39 [1,0,1,0,1,1,1,1,1,0,0]) false := by kernel_rfl
theorem k39_24 : P39 [1,0,1,0,1,1,1,1,1,0,0] = .region 7 (O39 [1,0,1,0,1,1,1,1,1,0,0]) false ∧ (!false || drawOk (O39 [1,0,1,0,1,1,1,1,1,0,0])) = true := ⟨by kernel_rfl, by kernel_rfl⟩
theorem r39_7p0 {x1 : Int} {M : Mem} {call : CallM} {K : Array Value → Mem → R} :
    segK Try.prog false call (O39 [1,0,1,0,1,1,1,1,1,0,0]) 0 7 #[g0,.int .i64 x1,g2,g3,g4,g5,g6,g7,g8,g9,g10,g11,g12,g13,g14,g15,g16,g17,g18,g19,g20,g21,g22,g23,g24,g25,g26,g27,g28,g29,g30,g31,g32,g33,g34,g35,g36,g37,g38,g39,g40,g41,g42,g43,g44,g45,g46,g47,g48,g49,g50,g51,g52,g53,g54,g55,g56,g57] M K = withK (fun w42 w43 w44 w45 w46 M => K #[g0,.int .i64 x1,g2,g3,g4,g5,g6,g7,g8,g9,g10,g11,g12,g13,g14,g15,g16,g17,g18,g19,g20,g21,g22,g23,g24,g25,g26,g27,g28,g29,g30,g31,g32,g33,g34,g35,g36,g37,g38,g39,.int .i64 x1,.bool (x1 == 4),w42,w43,w44,w45,w46,g47,g48,g49,g50,g51,g52,g53,g54,g55,g56,g57] M) fun k => cond (x1 == 4) (k (.bool true) undef undef (.bool true) (.bool true) M) (k (.bool false) (.int .i64 x1) (.bool (x1 == 8)) (.bool (x1 == 8)) (.bool (x1 == 8)) M) := by kernel_rfl
theorem k39_25 : P39 [1,0,1,0,1,1,1,1,1,1] = .seq (P39 [1,0,1,0,1,1,1,1,1,1,0]) (P39 [1,0,1,0,1,1,1,1,1,1,1]) := by kernel_rfl
theorem k39_26 : P39 [1,0,1,0,1,1,1,1,1,1,0] = .region 8 (O39 [1,0,1,0,1,1,1,1,1,1,0]) false := by kernel_rfl
theorem r39_8 {x5 : Int} {M : Mem} {call : CallM} {K : Array Value → Mem → R} :
    opsK Try.prog (fun _ => call) (O39 [1,0,1,0,1,1,1,1,1,1,0]) (O39 [1,0,1,0,1,1,1,1,1,1,0]).toList 0 #[g0,g1,g2,g3,g4,.int .i64 x5,g6,g7,g8,g9,g10,g11,g12,g13,g14,g15,g16,g17,g18,g19,g20,g21,g22,g23,g24,g25,g26,g27,g28,g29,g30,g31,g32,g33,g34,g35,g36,g37,g38,g39,g40,g41,g42,g43,g44,g45,g46,g47,g48,g49,g50,g51,g52,g53,g54,g55,g56,g57] M K = K #[g0,g1,g2,g3,g4,.int .i64 x5,g6,g7,g8,g9,g10,g11,g12,g13,g14,g15,g16,g17,g18,g19,g20,g21,g22,g23,g24,g25,g26,g27,g28,g29,g30,g31,g32,g33,g34,g35,g36,g37,g38,g39,g40,g41,g42,g43,g44,g45,g46,g47,g48,g49,g50,g51,g52,g53,.bool (x5 == 3),.bool (x5 == 3),g56,g57] M := by kernel_rfl
theorem c39_27 : P39 [1,0,1,0,1,1,1,1,1,1,1] = .cond (.tmp 54) (P39 [1,0,1,0,1,1,1,1,1,1,1,0]) (P39 [1,0,1,0,1,1,1,1,1,1,1,1]) := by kernel_rfl
theorem k39_28 : P39 [1,0,1,0,1,1,1,1,1,1,1,0] = .seq (P39 [1,0,1,0,1,1,1,1,1,1,1,0,0]) (P39 [1,0,1,0,1,1,1,1,1,1,1,0,1]) := by kernel_rfl
theorem k39_29 : P39 [1,0,1,0,1,1,1,1,1,1,1,0,0] = .region 9 (O39 [1,0,1,0,1,1,1,1,1,1,1,0,0]) false := by kernel_rfl
theorem r39_9 {x1 : Int} {M : Mem} {call : CallM} {K : Array Value → Mem → R} :
    opsK Try.prog (fun _ => call) (O39 [1,0,1,0,1,1,1,1,1,1,1,0,0]) (O39 [1,0,1,0,1,1,1,1,1,1,1,0,0]).toList 0 #[g0,.int .i64 x1,g2,g3,g4,g5,g6,g7,g8,g9,g10,g11,g12,g13,g14,g15,g16,g17,g18,g19,g20,g21,g22,g23,g24,g25,g26,g27,g28,g29,g30,g31,g32,g33,g34,g35,g36,g37,g38,g39,g40,g41,g42,g43,g44,g45,g46,g47,g48,g49,g50,g51,g52,g53,g54,g55,g56,g57] M K = K #[g0,.int .i64 x1,g2,g3,.bool (x1 == 4),g5,g6,g7,g8,g9,g10,g11,g12,g13,g14,g15,g16,g17,g18,g19,g20,g21,g22,g23,g24,g25,g26,g27,g28,g29,g30,g31,g32,g33,g34,g35,g36,g37,g38,g39,g40,g41,g42,g43,g44,g45,g46,g47,g48,g49,g50,g51,g52,g53,g54,g55,.int .i64 x1,.bool (x1 == 4)] M := by kernel_rfl
theorem k39_30 : P39 [1,0,1,0,1,1,1,1,1,1,1,0,1] = .ret := by kernel_rfl
theorem k39_31 : P39 [1,0,1,0,1,1,1,1,1,1,1,1] = .skip := by kernel_rfl
theorem k39_32 : P39 [1,1] = .seq (P39 [1,1,0]) (P39 [1,1,1]) := by kernel_rfl
theorem k39_33 : P39 [1,1,0] = .region 10 (O39 [1,1,0]) false := by kernel_rfl
theorem r39_10 {M : Mem} {call : CallM} {K : Array Value → Mem → R} :
    opsK Try.prog (fun _ => call) (O39 [1,1,0]) (O39 [1,1,0]).toList 0 #[g0,g1,g2,g3,g4,g5,g6,g7,g8,g9,g10,g11,g12,g13,g14,g15,g16,g17,g18,g19,g20,g21,g22,g23,g24,g25,g26,g27,g28,g29,g30,g31,g32,g33,g34,g35,g36,g37,g38,g39,g40,g41,g42,g43,g44,g45,g46,g47,g48,g49,g50,g51,g52,g53,g54,g55,g56,g57] M K = K #[g0,g1,g2,g3,.bool false,g5,g6,g7,g8,g9,g10,g11,g12,g13,g14,g15,g16,g17,g18,g19,g20,g21,g22,g23,g24,g25,g26,g27,g28,g29,g30,g31,g32,g33,g34,g35,g36,g37,g38,g39,g40,g41,g42,g43,g44,g45,g46,g47,g48,g49,g50,g51,g52,g53,g54,g55,g56,g57] M := by kernel_rfl
theorem k39_34 : P39 [1,1,1] = .ret := by kernel_rfl
theorem r39_3p7 {x1 : Int} {x14 : Bool} {M : Mem} {call : CallM} {K : Array Value → Mem → R} :
    segK Try.prog false call (O39 [1,0,1,0,1,0,0]) 7 4 #[g0,.int .i64 x1,g2,g3,g4,g5,g6,g7,g8,g9,g10,g11,g12,g13,.bool x14,g15,g16,g17,g18,g19,g20,g21,g22,g23,g24,g25,g26,g27,g28,g29,g30,g31,g32,g33,g34,g35,g36,g37,g38,g39,g40,g41,g42,g43,g44,g45,g46,g47,g48,g49,g50,g51,g52,g53,g54,g55,g56,g57] M K = withK (fun w14 w15 w16 w17 w18 M => K #[g0,.int .i64 x1,g2,g3,g4,g5,g6,g7,g8,g9,g10,g11,g12,g13,w14,w15,w16,w17,w18,g19,g20,g21,g22,g23,g24,g25,g26,g27,g28,g29,g30,g31,g32,g33,g34,g35,g36,g37,g38,g39,g40,g41,g42,g43,g44,g45,g46,g47,g48,g49,g50,g51,g52,g53,g54,g55,g56,g57] M) fun k => cond x14 (k (.bool true) undef undef (.bool true) (.bool true) M) (k (.bool false) (.int .i64 x1) (.bool (x1 == 16)) (.bool (x1 == 16)) (.bool (x1 == 16)) M) := by kernel_rfl
theorem r39_7p7 {x1 : Int} {x46 : Bool} {M : Mem} {call : CallM} {K : Array Value → Mem → R} :
    segK Try.prog false call (O39 [1,0,1,0,1,1,1,1,1,0,0]) 7 4 #[g0,.int .i64 x1,g2,g3,g4,g5,g6,g7,g8,g9,g10,g11,g12,g13,g14,g15,g16,g17,g18,g19,g20,g21,g22,g23,g24,g25,g26,g27,g28,g29,g30,g31,g32,g33,g34,g35,g36,g37,g38,g39,g40,g41,g42,g43,g44,g45,.bool x46,g47,g48,g49,g50,g51,g52,g53,g54,g55,g56,g57] M K = withK (fun w46 w47 w48 w49 w50 M => K #[g0,.int .i64 x1,g2,g3,g4,g5,g6,g7,g8,g9,g10,g11,g12,g13,g14,g15,g16,g17,g18,g19,g20,g21,g22,g23,g24,g25,g26,g27,g28,g29,g30,g31,g32,g33,g34,g35,g36,g37,g38,g39,g40,g41,g42,g43,g44,g45,w46,w47,w48,w49,w50,g51,g52,g53,g54,g55,g56,g57] M) fun k => cond x46 (k (.bool true) undef undef (.bool true) (.bool true) M) (k (.bool false) (.int .i64 x1) (.bool (x1 == 16)) (.bool (x1 == 16)) (.bool (x1 == 16)) M) := by kernel_rfl
theorem r39_3p11 {x1 : Int} {x18 : Bool} {M : Mem} {call : CallM} {K : Array Value → Mem → R} :
    segK Try.prog false call (O39 [1,0,1,0,1,0,0]) 11 4 #[g0,.int .i64 x1,g2,g3,g4,g5,g6,g7,g8,g9,g10,g11,g12,g13,g14,g15,g16,g17,.bool x18,g19,g20,g21,g22,g23,g24,g25,g26,g27,g28,g29,g30,g31,g32,g33,g34,g35,g36,g37,g38,g39,g40,g41,g42,g43,g44,g45,g46,g47,g48,g49,g50,g51,g52,g53,g54,g55,g56,g57] M K = withK (fun w18 w19 w20 w21 w22 M => K #[g0,.int .i64 x1,g2,g3,g4,g5,g6,g7,g8,g9,g10,g11,g12,g13,g14,g15,g16,g17,w18,w19,w20,w21,w22,g23,g24,g25,g26,g27,g28,g29,g30,g31,g32,g33,g34,g35,g36,g37,g38,g39,g40,g41,g42,g43,g44,g45,g46,g47,g48,g49,g50,g51,g52,g53,g54,g55,g56,g57] M) fun k => cond x18 (k (.bool true) undef undef (.bool true) (.bool true) M) (k (.bool false) (.int .i64 x1) (.bool (x1 == 32)) (.bool (x1 == 32)) (.bool (x1 == 32)) M) := by kernel_rfl
theorem r39_7p11 {x1 : Int} {x50 : Bool} {M : Mem} {call : CallM} {K : Array Value → Mem → R} :
    segK Try.prog false call (O39 [1,0,1,0,1,1,1,1,1,0,0]) 11 4 #[g0,.int .i64 x1,g2,g3,g4,g5,g6,g7,g8,g9,g10,g11,g12,g13,g14,g15,g16,g17,g18,g19,g20,g21,g22,g23,g24,g25,g26,g27,g28,g29,g30,g31,g32,g33,g34,g35,g36,g37,g38,g39,g40,g41,g42,g43,g44,g45,g46,g47,g48,g49,.bool x50,g51,g52,g53,g54,g55,g56,g57] M K = withK (fun w4 w50 w51 w52 w53 M => K #[g0,.int .i64 x1,g2,g3,w4,g5,g6,g7,g8,g9,g10,g11,g12,g13,g14,g15,g16,g17,g18,g19,g20,g21,g22,g23,g24,g25,g26,g27,g28,g29,g30,g31,g32,g33,g34,g35,g36,g37,g38,g39,g40,g41,g42,g43,g44,g45,g46,g47,g48,g49,w50,w51,w52,w53,g54,g55,g56,g57] M) fun k => cond x50 (k (.bool true) (.bool true) undef undef (.bool true) M) (k (.bool (x1 == 32)) (.bool false) (.int .i64 x1) (.bool (x1 == 32)) (.bool (x1 == 32)) M) := by kernel_rfl
theorem k39_35 : P39 [1,0,1,0,1,1,1,1,1,0,1] = .ret := by kernel_rfl
theorem r39_3p15 {x1 : Int} {x22 : Bool} {M : Mem} {call : CallM} {K : Array Value → Mem → R} :
    segK Try.prog false call (O39 [1,0,1,0,1,0,0]) 15 4 #[g0,.int .i64 x1,g2,g3,g4,g5,g6,g7,g8,g9,g10,g11,g12,g13,g14,g15,g16,g17,g18,g19,g20,g21,.bool x22,g23,g24,g25,g26,g27,g28,g29,g30,g31,g32,g33,g34,g35,g36,g37,g38,g39,g40,g41,g42,g43,g44,g45,g46,g47,g48,g49,g50,g51,g52,g53,g54,g55,g56,g57] M K = withK (fun w4 w22 w23 w24 w25 M => K #[g0,.int .i64 x1,g2,g3,w4,g5,g6,g7,g8,g9,g10,g11,g12,g13,g14,g15,g16,g17,g18,g19,g20,g21,w22,w23,w24,w25,g26,g27,g28,g29,g30,g31,g32,g33,g34,g35,g36,g37,g38,g39,g40,g41,g42,g43,g44,g45,g46,g47,g48,g49,g50,g51,g52,g53,g54,g55,g56,g57] M) fun k => cond x22 (k (.bool true) (.bool true) undef undef (.bool true) M) (k (.bool (x1 == 64)) (.bool false) (.int .i64 x1) (.bool (x1 == 64)) (.bool (x1 == 64)) M) := by kernel_rfl
theorem k39_36 : P39 [1,0,1,0,1,0,1] = .ret := by kernel_rfl
noncomputable def S39_1 : List Item := [.code (P39 [1,0,1,0,1,0,1]), .inBlock 0, .code (P39 [1,1])]
def A39_1 (x1 : Int) (x14 : Bool) (M : Mem) (Q : Value → Mem → Prop) : Prop := ∀ (g0 g2 g3 g4 g5 g6 g7 g8 g9 g10 g11 g12 g13 g15 g16 g17 g18 g19 g20 g21 g22 g23 g24 g25 g26 g27 g28 g29 g30 g31 g32 g33 g34 g35 g36 g37 g38 g39 g40 g41 g42 g43 g44 g45 g46 g47 g48 g49 g50 g51 g52 g53 g54 g55 g56 g57 : Value), Rg Try.prog Try.f39 (O39 [1,0,1,0,1,0,0]) false 7 S39_1 #[g0, .int .i64 x1, g2, g3, g4, g5, g6, g7, g8, g9, g10, g11, g12, g13, .bool x14, g15, g16, g17, g18, g19, g20, g21, g22, g23, g24, g25, g26, g27, g28, g29, g30, g31, g32, g33, g34, g35, g36, g37, g38, g39, g40, g41, g42, g43, g44, g45, g46, g47, g48, g49, g50, g51, g52, g53, g54, g55, g56, g57] M Q
noncomputable def S39_2 : List Item := [.code (P39 [1,0,1,0,1,1,1,1,1,0,1]), .inBlock 0, .code (P39 [1,1])]
def A39_2 (x1 : Int) (x46 : Bool) (M : Mem) (Q : Value → Mem → Prop) : Prop := ∀ (g0 g2 g3 g4 g5 g6 g7 g8 g9 g10 g11 g12 g13 g14 g15 g16 g17 g18 g19 g20 g21 g22 g23 g24 g25 g26 g27 g28 g29 g30 g31 g32 g33 g34 g35 g36 g37 g38 g39 g40 g41 g42 g43 g44 g45 g47 g48 g49 g50 g51 g52 g53 g54 g55 g56 g57 : Value), Rg Try.prog Try.f39 (O39 [1,0,1,0,1,1,1,1,1,0,0]) false 7 S39_2 #[g0, .int .i64 x1, g2, g3, g4, g5, g6, g7, g8, g9, g10, g11, g12, g13, g14, g15, g16, g17, g18, g19, g20, g21, g22, g23, g24, g25, g26, g27, g28, g29, g30, g31, g32, g33, g34, g35, g36, g37, g38, g39, g40, g41, g42, g43, g44, g45, .bool x46, g47, g48, g49, g50, g51, g52, g53, g54, g55, g56, g57] M Q
noncomputable def S39_3 : List Item := [.code (P39 [1,0,1,0,1,0,1]), .inBlock 0, .code (P39 [1,1])]
def A39_3 (x1 : Int) (x18 : Bool) (M : Mem) (Q : Value → Mem → Prop) : Prop := ∀ (g0 g2 g3 g4 g5 g6 g7 g8 g9 g10 g11 g12 g13 g14 g15 g16 g17 g19 g20 g21 g22 g23 g24 g25 g26 g27 g28 g29 g30 g31 g32 g33 g34 g35 g36 g37 g38 g39 g40 g41 g42 g43 g44 g45 g46 g47 g48 g49 g50 g51 g52 g53 g54 g55 g56 g57 : Value), Rg Try.prog Try.f39 (O39 [1,0,1,0,1,0,0]) false 11 S39_3 #[g0, .int .i64 x1, g2, g3, g4, g5, g6, g7, g8, g9, g10, g11, g12, g13, g14, g15, g16, g17, .bool x18, g19, g20, g21, g22, g23, g24, g25, g26, g27, g28, g29, g30, g31, g32, g33, g34, g35, g36, g37, g38, g39, g40, g41, g42, g43, g44, g45, g46, g47, g48, g49, g50, g51, g52, g53, g54, g55, g56, g57] M Q
noncomputable def S39_4 : List Item := [.code (P39 [1,0,1,0,1,1,1,1,1,0,1]), .inBlock 0, .code (P39 [1,1])]
def A39_4 (x1 : Int) (x50 : Bool) (M : Mem) (Q : Value → Mem → Prop) : Prop := ∀ (g0 g2 g3 g4 g5 g6 g7 g8 g9 g10 g11 g12 g13 g14 g15 g16 g17 g18 g19 g20 g21 g22 g23 g24 g25 g26 g27 g28 g29 g30 g31 g32 g33 g34 g35 g36 g37 g38 g39 g40 g41 g42 g43 g44 g45 g46 g47 g48 g49 g51 g52 g53 g54 g55 g56 g57 : Value), Rg Try.prog Try.f39 (O39 [1,0,1,0,1,1,1,1,1,0,0]) false 11 S39_4 #[g0, .int .i64 x1, g2, g3, g4, g5, g6, g7, g8, g9, g10, g11, g12, g13, g14, g15, g16, g17, g18, g19, g20, g21, g22, g23, g24, g25, g26, g27, g28, g29, g30, g31, g32, g33, g34, g35, g36, g37, g38, g39, g40, g41, g42, g43, g44, g45, g46, g47, g48, g49, .bool x50, g51, g52, g53, g54, g55, g56, g57] M Q
noncomputable def S39_5 : List Item := [.code (P39 [1,0,1,0,1,0,1]), .inBlock 0, .code (P39 [1,1])]
def A39_5 (x1 : Int) (x22 : Bool) (M : Mem) (Q : Value → Mem → Prop) : Prop := ∀ (g0 g2 g3 g4 g5 g6 g7 g8 g9 g10 g11 g12 g13 g14 g15 g16 g17 g18 g19 g20 g21 g23 g24 g25 g26 g27 g28 g29 g30 g31 g32 g33 g34 g35 g36 g37 g38 g39 g40 g41 g42 g43 g44 g45 g46 g47 g48 g49 g50 g51 g52 g53 g54 g55 g56 g57 : Value), Rg Try.prog Try.f39 (O39 [1,0,1,0,1,0,0]) false 15 S39_5 #[g0, .int .i64 x1, g2, g3, g4, g5, g6, g7, g8, g9, g10, g11, g12, g13, g14, g15, g16, g17, g18, g19, g20, g21, .bool x22, g23, g24, g25, g26, g27, g28, g29, g30, g31, g32, g33, g34, g35, g36, g37, g38, g39, g40, g41, g42, g43, g44, g45, g46, g47, g48, g49, g50, g51, g52, g53, g54, g55, g56, g57] M Q
theorem w39_0 {x0 x1 : Int} {M : Mem} {Q : Value → Mem → Prop} (H :
    ((x0 = 0 →
     ((x1 = 4 →
      A39_1 x1 true M Q) ∧
      (x1 ≠ 4 →
      A39_1 x1 (x1 == 8) M Q))) ∧
     (x0 ≠ 0 →
     ((x0 = 1 →
      ((x1 = 4 →
       Q (.bool true) M) ∧
       (x1 ≠ 4 →
       ((x1 = 8 →
        Q (.bool true) M) ∧
        (x1 ≠ 8 →
        Q (.bool (x1 == 16)) M))))) ∧
      (x0 ≠ 1 →
      ((x0 = 2 →
       ((x1 = 4 →
        A39_2 x1 true M Q) ∧
        (x1 ≠ 4 →
        A39_2 x1 (x1 == 8) M Q))) ∧
       (x0 ≠ 2 →
       ((x0 = 3 →
        Q (.bool (x1 == 4)) M) ∧
        (x0 ≠ 3 →
        Q (.bool false) M))))))))) :
    Cn Try.prog 39 #[.int .i64 x0, .int .i64 x1] M Q := by
  refine Cn.of b39 d39 t39 ?_
  refine Rn.seq k39_0 (Rn.region k39_1 (fun call K => r39_0) (Rch.leaf (Rn.seq k39_2 (Rn.seq k39_3 (Rn.region k39_4 (fun call K => r39_1) (Rch.leaf (Rn.block k39_5 (Rn.seq k39_6 (Rn.region k39_7 (fun call K => r39_2) (Rch.leaf ?_))))))))))
  refine Rn.cnd (v := x0 == 0) ⟨c39_8, rfl, by kernel_rfl⟩ (fun h => ?_) (fun h => ?_)
  · replace H := H.1 (eq_of_beq h)
    refine Rn.seq k39_9 (Rn.regionC k39_11 (Rg.step (d := 7) (j := 7) (fun call K => r39_3p0) rfl rfl ?_))
    refine Rch.cB (fun h => ?_) (fun h => ?_)
    · replace H := H.1 (eq_of_beq h)
      refine Rch.rest ?_
      exact H _ _ _ _ _ _ _ _ _ _ _ _ _ _ _ _ _ _ _ _ _ _ _ _ _ _ _ _ _ _ _ _ _ _ _ _ _ _ _ _ _ _ _ _ _ _ _ _ _ _ _ _ _ _ _ _
    · replace H := H.2 (ne_of_beq_false h)
      refine Rch.rest ?_
      exact H _ _ _ _ _ _ _ _ _ _ _ _ _ _ _ _ _ _ _ _ _ _ _ _ _ _ _ _ _ _ _ _ _ _ _ _ _ _ _ _ _ _ _ _ _ _ _ _ _ _ _ _ _ _ _ _
  · replace H := H.2 (ne_of_beq_false h)
    refine Rn.seq k39_12 (Rn.region k39_13 (fun call K => r39_4) (Rch.leaf ?_))
    refine Rn.cnd (v := x0 == 1) ⟨c39_14, rfl, by kernel_rfl⟩ (fun h => ?_) (fun h => ?_)
    · replace H := H.1 (eq_of_beq h)
      refine Rn.seq k39_15 (Rn.region k39_16 (fun call K => r39_5) ?_)
      refine Rch.cB (fun h => ?_) (fun h => ?_)
      · replace H := H.1 (eq_of_beq h)
        refine Rch.leaf ?_
        exact Rn.ret k39_17 e39 H
      · replace H := H.2 (ne_of_beq_false h)
        refine Rch.cB (fun h => ?_) (fun h => ?_)
        · replace H := H.1 (eq_of_beq h)
          refine Rch.leaf ?_
          exact Rn.ret k39_17 e39 H
        · replace H := H.2 (ne_of_beq_false h)
          refine Rch.leaf ?_
          exact Rn.ret k39_17 e39 H
    · replace H := H.2 (ne_of_beq_false h)
      refine Rn.seq k39_19 (Rn.region k39_20 (fun call K => r39_6) (Rch.leaf ?_))
      refine Rn.cnd (v := x0 == 2) ⟨c39_21, rfl, by kernel_rfl⟩ (fun h => ?_) (fun h => ?_)
      · replace H := H.1 (eq_of_beq h)
        refine Rn.seq k39_22 (Rn.regionC k39_24 (Rg.step (d := 7) (j := 7) (fun call K => r39_7p0) rfl rfl ?_))
        refine Rch.cB (fun h => ?_) (fun h => ?_)
        · replace H := H.1 (eq_of_beq h)
          refine Rch.rest ?_
          exact H _ _ _ _ _ _ _ _ _ _ _ _ _ _ _ _ _ _ _ _ _ _ _ _ _ _ _ _ _ _ _ _ _ _ _ _ _ _ _ _ _ _ _ _ _ _ _ _ _ _ _ _ _ _ _ _
        · replace H := H.2 (ne_of_beq_false h)
          refine Rch.rest ?_
          exact H _ _ _ _ _ _ _ _ _ _ _ _ _ _ _ _ _ _ _ _ _ _ _ _ _ _ _ _ _ _ _ _ _ _ _ _ _ _ _ _ _ _ _ _ _ _ _ _ _ _ _ _ _ _ _ _
      · replace H := H.2 (ne_of_beq_false h)
        refine Rn.seq k39_25 (Rn.region k39_26 (fun call K => r39_8) (Rch.leaf ?_))
        refine Rn.cnd (v := x0 == 3) ⟨c39_27, rfl, by kernel_rfl⟩ (fun h => ?_) (fun h => ?_)
        · replace H := H.1 (eq_of_beq h)
          refine Rn.seq k39_28 (Rn.region k39_29 (fun call K => r39_9) (Rch.leaf ?_))
          exact Rn.ret k39_30 e39 H
        · replace H := H.2 (ne_of_beq_false h)
          refine Rn.skip k39_31 (Rn.blk (Rn.seq k39_32 (Rn.region k39_33 (fun call K => r39_10) (Rch.leaf ?_))))
          exact Rn.ret k39_34 e39 H

theorem w39_1 {x1 : Int} {x14 : Bool} {M : Mem} {Q : Value → Mem → Prop} (H :
    ((x14 = true →
     A39_3 x1 true M Q) ∧
     (x14 = false →
     A39_3 x1 (x1 == 16) M Q))) :
    A39_1 x1 x14 M Q := by
  intro g0 g2 g3 g4 g5 g6 g7 g8 g9 g10 g11 g12 g13 g15 g16 g17 g18 g19 g20 g21 g22 g23 g24 g25 g26 g27 g28 g29 g30 g31 g32 g33 g34 g35 g36 g37 g38 g39 g40 g41 g42 g43 g44 g45 g46 g47 g48 g49 g50 g51 g52 g53 g54 g55 g56 g57
  refine Rg.step (d := 4) (j := 11) (fun call K => r39_3p7) rfl rfl ?_
  refine Rch.cB (fun h => ?_) (fun h => ?_)
  · replace H := H.1 (h)
    refine Rch.rest ?_
    exact H _ _ _ _ _ _ _ _ _ _ _ _ _ _ _ _ _ _ _ _ _ _ _ _ _ _ _ _ _ _ _ _ _ _ _ _ _ _ _ _ _ _ _ _ _ _ _ _ _ _ _ _ _ _ _ _
  · replace H := H.2 (h)
    refine Rch.rest ?_
    exact H _ _ _ _ _ _ _ _ _ _ _ _ _ _ _ _ _ _ _ _ _ _ _ _ _ _ _ _ _ _ _ _ _ _ _ _ _ _ _ _ _ _ _ _ _ _ _ _ _ _ _ _ _ _ _ _

theorem w39_2 {x1 : Int} {x46 : Bool} {M : Mem} {Q : Value → Mem → Prop} (H :
    ((x46 = true →
     A39_4 x1 true M Q) ∧
     (x46 = false →
     A39_4 x1 (x1 == 16) M Q))) :
    A39_2 x1 x46 M Q := by
  intro g0 g2 g3 g4 g5 g6 g7 g8 g9 g10 g11 g12 g13 g14 g15 g16 g17 g18 g19 g20 g21 g22 g23 g24 g25 g26 g27 g28 g29 g30 g31 g32 g33 g34 g35 g36 g37 g38 g39 g40 g41 g42 g43 g44 g45 g47 g48 g49 g50 g51 g52 g53 g54 g55 g56 g57
  refine Rg.step (d := 4) (j := 11) (fun call K => r39_7p7) rfl rfl ?_
  refine Rch.cB (fun h => ?_) (fun h => ?_)
  · replace H := H.1 (h)
    refine Rch.rest ?_
    exact H _ _ _ _ _ _ _ _ _ _ _ _ _ _ _ _ _ _ _ _ _ _ _ _ _ _ _ _ _ _ _ _ _ _ _ _ _ _ _ _ _ _ _ _ _ _ _ _ _ _ _ _ _ _ _ _
  · replace H := H.2 (h)
    refine Rch.rest ?_
    exact H _ _ _ _ _ _ _ _ _ _ _ _ _ _ _ _ _ _ _ _ _ _ _ _ _ _ _ _ _ _ _ _ _ _ _ _ _ _ _ _ _ _ _ _ _ _ _ _ _ _ _ _ _ _ _ _

theorem w39_3 {x1 : Int} {x18 : Bool} {M : Mem} {Q : Value → Mem → Prop} (H :
    ((x18 = true →
     A39_5 x1 true M Q) ∧
     (x18 = false →
     A39_5 x1 (x1 == 32) M Q))) :
    A39_3 x1 x18 M Q := by
  intro g0 g2 g3 g4 g5 g6 g7 g8 g9 g10 g11 g12 g13 g14 g15 g16 g17 g19 g20 g21 g22 g23 g24 g25 g26 g27 g28 g29 g30 g31 g32 g33 g34 g35 g36 g37 g38 g39 g40 g41 g42 g43 g44 g45 g46 g47 g48 g49 g50 g51 g52 g53 g54 g55 g56 g57
  refine Rg.step (d := 4) (j := 15) (fun call K => r39_3p11) rfl rfl ?_
  refine Rch.cB (fun h => ?_) (fun h => ?_)
  · replace H := H.1 (h)
    refine Rch.rest ?_
    exact H _ _ _ _ _ _ _ _ _ _ _ _ _ _ _ _ _ _ _ _ _ _ _ _ _ _ _ _ _ _ _ _ _ _ _ _ _ _ _ _ _ _ _ _ _ _ _ _ _ _ _ _ _ _ _ _
  · replace H := H.2 (h)
    refine Rch.rest ?_
    exact H _ _ _ _ _ _ _ _ _ _ _ _ _ _ _ _ _ _ _ _ _ _ _ _ _ _ _ _ _ _ _ _ _ _ _ _ _ _ _ _ _ _ _ _ _ _ _ _ _ _ _ _ _ _ _ _

theorem w39_4 {x1 : Int} {x50 : Bool} {M : Mem} {Q : Value → Mem → Prop} (H :
    ((x50 = true →
     Q (.bool true) M) ∧
     (x50 = false →
     Q (.bool (x1 == 32)) M))) :
    A39_4 x1 x50 M Q := by
  intro g0 g2 g3 g4 g5 g6 g7 g8 g9 g10 g11 g12 g13 g14 g15 g16 g17 g18 g19 g20 g21 g22 g23 g24 g25 g26 g27 g28 g29 g30 g31 g32 g33 g34 g35 g36 g37 g38 g39 g40 g41 g42 g43 g44 g45 g46 g47 g48 g49 g51 g52 g53 g54 g55 g56 g57
  refine Rg.step (d := 4) (j := 15) (fun call K => r39_7p11) rfl rfl ?_
  refine Rch.cB (fun h => ?_) (fun h => ?_)
  · replace H := H.1 (h)
    refine Rch.rest (Rg.done rfl ?_)
    exact Rn.ret k39_35 e39 H
  · replace H := H.2 (h)
    refine Rch.rest (Rg.done rfl ?_)
    exact Rn.ret k39_35 e39 H

theorem w39_5 {x1 : Int} {x22 : Bool} {M : Mem} {Q : Value → Mem → Prop} (H :
    ((x22 = true →
     Q (.bool true) M) ∧
     (x22 = false →
     Q (.bool (x1 == 64)) M))) :
    A39_5 x1 x22 M Q := by
  intro g0 g2 g3 g4 g5 g6 g7 g8 g9 g10 g11 g12 g13 g14 g15 g16 g17 g18 g19 g20 g21 g23 g24 g25 g26 g27 g28 g29 g30 g31 g32 g33 g34 g35 g36 g37 g38 g39 g40 g41 g42 g43 g44 g45 g46 g47 g48 g49 g50 g51 g52 g53 g54 g55 g56 g57
  refine Rg.step (d := 4) (j := 19) (fun call K => r39_3p15) rfl rfl ?_
  refine Rch.cB (fun h => ?_) (fun h => ?_)
  · replace H := H.1 (h)
    refine Rch.rest (Rg.done rfl ?_)
    exact Rn.ret k39_36 e39 H
  · replace H := H.2 (h)
    refine Rch.rest (Rg.done rfl ?_)
    exact Rn.ret k39_36 e39 H


/-! ### zoetrope/zoetroperef07.Matrix: function 40 -/
noncomputable abbrev P40 (p : List Nat) : Code := subC (codeOf Try.f40) p
noncomputable abbrev O40 (p : List Nat) : Array Oper := opsOf (subC (codeOf Try.f40) p)
theorem b40 : Try.prog.funcs[40]? = some Try.f40 ∧ (Orc.tab Try.prog).lookup 40 = none := ⟨by kernel_rfl, by kernel_rfl⟩
theorem d40 : Try.f40.body = some (P40 []) := by kernel_rfl
theorem t40 {x0 x1 : Int} : #[.int .i64 x0,.int .i64 x1] ++ Array.replicate (Try.f40.ntmps - (#[.int .i64 x0,.int .i64 x1] : Array Value).size) undef = #[.int .i64 x0,.int .i64 x1,undef,undef,undef,undef,undef,undef,undef,undef,undef,undef,undef,undef,undef,undef,undef,undef,undef,undef,undef,undef,undef,undef,undef,undef,undef,undef,undef,undef,undef,undef,undef,undef] := by kernel_rfl
theorem k40_0 : P40 [] = .seq (P40 [0]) (P40 [1]) := by kernel_rfl
theorem k40_1 : P40 [0] = .region 0 (O40 [0]) false := by kernel_rfl
theorem r40_0 {M : Mem} {call : CallM} {K : Array Value → Mem → R} :
    opsK Try.prog (fun _ => call) (O40 [0]) (O40 [0]).toList 0 #[g0,g1,g2,g3,g4,g5,g6,g7,g8,g9,g10,g11,g12,g13,g14,g15,g16,g17,g18,g19,g20,g21,g22,g23,g24,g25,g26,g27,g28,g29,g30,g31,g32,g33] M K = K #[g0,g1,g2,g3,.slice none 0 0,g5,g6,g7,g8,g9,g10,g11,g12,g13,g14,g15,g16,g17,g18,g19,g20,g21,g22,g23,g24,g25,g26,g27,g28,g29,g30,g31,g32,g33] M := by kernel_rfl
theorem k40_2 : P40 [1] = .seq (P40 [1,0]) (P40 [1,1]) := by kernel_rfl
theorem k40_3 : P40 [1,0] = .region 1 (O40 [1,0]) false := by kernel_rfl
theorem r40_1 {M : Mem} {call : CallM} {K : Array Value → Mem → R} :
    opsK Try.prog (fun _ => call) (O40 [1,0]) (O40 [1,0]).toList 0 #[g0,g1,g2,g3,g4,g5,g6,g7,g8,g9,g10,g11,g12,g13,g14,g15,g16,g17,g18,g19,g20,g21,g22,g23,g24,g25,g26,g27,g28,g29,g30,g31,g32,g33] M K = K #[g0,g1,g2,g3,g4,.slice none 0 0,g6,g7,g8,g9,g10,g11,g12,g13,g14,g15,g16,g17,g18,g19,g20,g21,g22,g23,g24,g25,g26,g27,g28,g29,g30,g31,g32,g33] M := by kernel_rfl
theorem k40_4 : P40 [1,1] = .seq (P40 [1,1,0]) (P40 [1,1,1]) := by kernel_rfl
theorem k40_5 : P40 [1,1,0] = .seq (P40 [1,1,0,0]) (P40 [1,1,0,1]) := by kernel_rfl
theorem k40_6 : P40 [1,1,0,0] = .region 2 (O40 [1,1,0,0]) false := by kernel_rfl
theorem r40_2 {M : Mem} {call : CallM} {K : Array Value → Mem → R} :
    opsK Try.prog (fun _ => call) (O40 [1,1,0,0]) (O40 [1,1,0,0]).toList 0 #[g0,g1,g2,g3,g4,g5,g6,g7,g8,g9,g10,g11,g12,g13,g14,g15,g16,g17,g18,g19,g20,g21,g22,g23,g24,g25,g26,g27,g28,g29,g30,g31,g32,g33] M K = K #[g0,g1,g2,g3,g4,g5,.int .i64 0,g7,g8,g9,g10,g11,g12,g13,g14,g15,g16,g17,g18,g19,g20,g21,g22,g23,g24,g25,g26,g27,g28,g29,g30,g31,g32,g33] M := by kernel_rfl
theorem k40_7 : P40 [1,1,0,1] = .block 0 (P40 [1,1,0,1,0]) := by kernel_rfl
theorem k40_8 : P40 [1,1,0,1,0] = .loop (P40 [1,1,0,1,0,0]) := by kernel_rfl
theorem k40_9 : P40 [1,1,0,1,0,0] = .seq (P40 [1,1,0,1,0,0,0]) (P40 [1,1,0,1,0,0,1]) := by kernel_rfl
theorem k40_10 : P40 [1,1,0,1,0,0,0] = .seq (P40 [1,1,0,1,0,0,0,0]) (P40 [1,1,0,1,0,0,0,1]) := by kernel_rfl
theorem k40_11 : P40 [1,1,0,1,0,0,0,0] = .region 3 (O40 [1,1,0,1,0,0,0,0]) false := by kernel_rfl
theorem r40_3 {x1 x6 : Int} {M : Mem} {call : CallM} {K : Array Value → Mem → R} :
    opsK Try.prog (fun _ => call) (O40 [1,1,0,1,0,0,0,0]) (O40 [1,1,0,1,0,0,0,0]).toList 0 #[g0,.int .i64 x1,g2,g3,g4,g5,.int .i64 x6,g7,g8,g9,g10,g11,g12,g13,g14,g15,g16,g17,g18,g19,g20,g21,g22,g23,g24,g25,g26,g27,g28,g29,g30,g31,g32,g33] M K = K #[g0,.int .i64 x1,g2,g3,g4,g5,.int .i64 x6,g7,g8,.int .i64 x6,.int .i64 x1,.bool (decide (x6 < x1)),g12,g13,g14,g15,g16,g17,g18,g19,g20,g21,g22,g23,g24,g25,g26,g27,g28,g29,g30,g31,g32,g33] M := by kernel_rfl
theorem c40_12 : P40 [1,1,0,1,0,0,0,1] = .cond (.tmp 11) (P40 [1,1,0,1,0,0,0,1,0]) (P40 [1,1,0,1,0,0,0,1,1]) := by kernel_rfl
theorem k40_13 : P40 [1,1,0,1,0,0,0,1,0] = .skip := by kernel_rfl
theorem k40_14 : P40 [1,1,0,1,0,0,1] = .seq (P40 [1,1,0,1,0,0,1,0]) (P40 [1,1,0,1,0,0,1,1]) := by kernel_rfl
theorem k40_15 : P40 [1,1,0,1,0,0,1,0] = .block 1 (P40 [1,1,0,1,0,0,1,0,0]) := by kernel_rfl
theorem k40_16 : P40 [1,1,0,1,0,0,1,0,0] = .seq (P40 [1,1,0,1,0,0,1,0,0,0]) (P40 [1,1,0,1,0,0,1,0,0,1]) := by kernel_rfl
theorem k40_17 : P40 [1,1,0,1,0,0,1,0,0,0] = .region 5 (O40 [1,1,0,1,0,0,1,0,0,0]) false := by kernel_rfl
theorem r40_5 {x1 : Int} {M : Mem} {call : CallM} {K : Array Value → Mem → R} :
    opsK Try.prog (fun _ => call) (O40 [1,1,0,1,0,0,1,0,0,0]) (O40 [1,1,0,1,0,0,1,0,0,0]).toList 0 #[g0,.int .i64 x1,g2,g3,g4,g5,g6,g7,g8,g9,g10,g11,g12,g13,g14,g15,g16,g17,g18,g19,g20,g21,g22,g23,g24,g25,g26,g27,g28,g29,g30,g31,g32,g33] M K = (makeP Try.prog 22 (.int .i64 x1) (.int .i64 x1) M).bind fun r_1 => (asS r_1.1).bind fun s_2 => K #[g0,.int .i64 x1,g2,g3,g4,g5,g6,.slice s_2.1 (s_2.2.1) (s_2.2.2),g8,g9,g10,g11,g12,g13,.int .i64 x1,.slice s_2.1 (s_2.2.1) (s_2.2.2),g16,g17,g18,g19,g20,g21,g22,g23,g24,g25,g26,g27,g28,g29,g30,g31,g32,g33] r_1.2 := by kernel_rfl
theorem k40_18 : P40 [1,1,0,1,0,0,1,0,0,1] = .seq (P40 [1,1,0,1,0,0,1,0,0,1,0]) (P40 [1,1,0,1,0,0,1,0,0,1,1]) := by kernel_rfl
theorem k40_19 : P40 [1,1,0,1,0,0,1,0,0,1,0] = .seq (P40 [1,1,0,1,0,0,1,0,0,1,0,0]) (P40 [1,1,0,1,0,0,1,0,0,1,0,1]) := by kernel_rfl
theorem k40_20 : P40 [1,1,0,1,0,0,1,0,0,1,0,0] = .region 6 (O40 [1,1,0,1,0,0,1,0,0,1,0,0]) false := by kernel_rfl
theorem r40_6 {M : Mem} {call : CallM} {K : Array Value → Mem → R} :
    opsK Try.prog (fun _ => call) (O40 [1,1,0,1,0,0,1,0,0,1,0,0]) (O40 [1,1,0,1,0,0,1,0,0,1,0,0]).toList 0 #[g0,g1,g2,g3,g4,g5,g6,g7,g8,g9,g10,g11,g12,g13,g14,g15,g16,g17,g18,g19,g20,g21,g22,g23,g24,g25,g26,g27,g28,g29,g30,g31,g32,g33] M K = K #[g0,g1,g2,g3,g4,g5,g6,g7,.int .i64 0,g9,g10,g11,g12,g13,g14,g15,g16,g17,g18,g19,g20,g21,g22,g23,g24,g25,g26,g27,g28,g29,g30,g31,g32,g33] M := by kernel_rfl
theorem k40_21 : P40 [1,1,0,1,0,0,1,0,0,1,0,1] = .block 2 (P40 [1,1,0,1,0,0,1,0,0,1,0,1,0]) := by kernel_rfl
theorem k40_22 : P40 [1,1,0,1,0,0,1,0,0,1,0,1,0] = .loop (P40 [1,1,0,1,0,0,1,0,0,1,0,1,0,0]) := by kernel_rfl
theorem k40_23 : P40 [1,1,0,1,0,0,0,1,1] = .exit 0 := by kernel_rfl
theorem k40_24 : P40 [1,1,1] = .seq (P40 [1,1,1,0]) (P40 [1,1,1,1]) := by kernel_rfl
theorem k40_25 : P40 [1,1,1,0] = .region 11 (O40 [1,1,1,0]) false := by kernel_rfl
theorem r40_11 {Ax5 : Option Addr} {lx5 cx5 : Nat} {M : Mem} {call : CallM} {K : Array Value → Mem → R} :
    opsK Try.prog (fun _ => call) (O40 [1,1,1,0]) (O40 [1,1,1,0]).toList 0 #[g0,g1,g2,g3,g4,.slice Ax5 lx5 cx5,g6,g7,g8,g9,g10,g11,g12,g13,g14,g15,g16,g17,g18,g19,g20,g21,g22,g23,g24,g25,g26,g27,g28,g29,g30,g31,g32,g33] M K = K #[g0,g1,g2,g3,.slice Ax5 lx5 cx5,.slice Ax5 lx5 cx5,g6,g7,g8,g9,g10,g11,g12,g13,g14,g15,g16,g17,g18,g19,g20,g21,g22,g23,g24,g25,g26,g27,g28,g29,g30,g31,g32,.slice Ax5 lx5 cx5] M := by kernel_rfl
theorem k40_26 : P40 [1,1,1,1] = .ret := by kernel_rfl
theorem e40 {M : Mem} : finish Try.prog Try.f40 #[g0,g1,g2,g3,g4,g5,g6,g7,g8,g9,g10,g11,g12,g13,g14,g15,g16,g17,g18,g19,g20,g21,g22,g23,g24,g25,g26,g27,g28,g29,g30,g31,g32,g33] M = some (g4, M) := by kernel_rfl
theorem k40_28 : P40 [1,1,0,1,0,0,1,0,0,1,0,1,0,0] = .seq (P40 [1,1,0,1,0,0,1,0,0,1,0,1,0,0,0]) (P40 [1,1,0,1,0,0,1,0,0,1,0,1,0,0,1]) := by kernel_rfl
theorem k40_29 : P40 [1,1,0,1,0,0,1,0,0,1,0,1,0,0,0] = .seq (P40 [1,1,0,1,0,0,1,0,0,1,0,1,0,0,0,0]) (P40 [1,1,0,1,0,0,1,0,0,1,0,1,0,0,0,1]) := by kernel_rfl
theorem k40_30 : P40 [1,1,0,1,0,0,1,0,0,1,0,1,0,0,0,0] = .region 7 (O40 [1,1,0,1,0,0,1,0,0,1,0,1,0,0,0,0]) false := by kernel_rfl
theorem r40_7 {x1 x8 : Int} {M : Mem} {call : CallM} {K : Array Value → Mem → R} :
    opsK Try.prog (fun _ => call) (O40 [1,1,0,1,0,0,1,0,0,1,0,1,0,0,0,0]) (O40 [1,1,0,1,0,0,1,0,0,1,0,1,0,0,0,0]).toList 0 #[g0,.int .i64 x1,g2,g3,g4,g5,g6,g7,.int .i64 x8,g9,g10,g11,g12,g13,g14,g15,g16,g17,g18,g19,g20,g21,g22,g23,g24,g25,g26,g27,g28,g29,g30,g31,g32,g33] M K = K #[g0,.int .i64 x1,g2,g3,g4,g5,g6,g7,.int .i64 x8,g9,g10,g11,g12,g13,g14,g15,.int .i64 x8,.int .i64 x1,.bool (decide (x8 < x1)),g19,g20,g21,g22,g23,g24,g25,g26,g27,g28,g29,g30,g31,g32,g33] M := by kernel_rfl
theorem c40_31 : P40 [1,1,0,1,0,0,1,0,0,1,0,1,0,0,0,1] = .cond (.tmp 18) (P40 [1,1,0,1,0,0,1,0,0,1,0,1,0,0,0,1,0]) (P40 [1,1,0,1,0,0,1,0,0,1,0,1,0,0,0,1,1]) := by kernel_rfl
theorem k40_32 : P40 [1,1,0,1,0,0,1,0,0,1,0,1,0,0,0,1,0] = .skip := by kernel_rfl
theorem k40_33 : P40 [1,1,0,1,0,0,1,0,0,1,0,1,0,0,1] = .seq (P40 [1,1,0,1,0,0,1,0,0,1,0,1,0,0,1,0]) (P40 [1,1,0,1,0,0,1,0,0,1,0,1,0,0,1,1]) := by kernel_rfl
theorem k40_34 : P40 [1,1,0,1,0,0,1,0,0,1,0,1,0,0,1,0] = .block 3 (P40 [1,1,0,1,0,0,1,0,0,1,0,1,0,0,1,0,0]) := by kernel_rfl
theorem k40_35 : P40 [1,1,0,1,0,0,1,0,0,1,0,1,0,0,1,0,0] = .region 9 (O40 [1,1,0,1,0,0,1,0,0,1,0,1,0,0,1,0,0]) false := by kernel_rfl
theorem r40_9 {x0 x1 x6 : Int} {Ax7 : Option Addr} {lx7 cx7 : Nat} {x8 : Int} {M : Mem} {call : CallM} {K : Array Value → Mem → R} :
    opsK Try.prog (fun _ => call) (O40 [1,1,0,1,0,0,1,0,0,1,0,1,0,0,1,0,0]) (O40 [1,1,0,1,0,0,1,0,0,1,0,1,0,0,1,0,0]).toList 0 #[.int .i64 x0,.int .i64 x1,g2,g3,g4,g5,.int .i64 x6,.slice Ax7 lx7 cx7,.int .i64 x8,g9,g10,g11,g12,g13,g14,g15,g16,g17,g18,g19,g20,g21,g22,g23,g24,g25,g26,g27,g28,g29,g30,g31,g32,g33] M K = (call 45 #[.int .i64 x0, .int .i64 x1, .int .i64 x6, .int .i64 x8] M).bind fun r_1 => (asI .i64 r_1.1).bind fun x_2 => (idxA Ax7 lx7 1 x8).bind fun a_3 => (r_1.2.put a_3.block a_3.off (.int .i64 x_2)).bind fun M_4 => K #[.int .i64 x0,.int .i64 x1,g2,g3,g4,g5,.int .i64 x6,.slice Ax7 lx7 cx7,.int .i64 x8,g9,g10,g11,g12,g13,g14,g15,g16,g17,g18,g19,g20,.slice Ax7 lx7 cx7,.int .i64 x8,.int .i64 x0,.int .i64 x1,.int .i64 x6,.int .i64 x8,.int .i64 x_2,.pointer (some a_3),g29,g30,g31,g32,g33] M_4 := by kernel_rfl
theorem k40_36 : P40 [1,1,0,1,0,0,1,0,0,1,0,1,0,0,1,1] = .region 8 (O40 [1,1,0,1,0,0,1,0,0,1,0,1,0,0,1,1]) false := by kernel_rfl
theorem r40_8 {x8 : Int} {M : Mem} {call : CallM} {K : Array Value → Mem → R} :
    opsK Try.prog (fun _ => call) (O40 [1,1,0,1,0,0,1,0,0,1,0,1,0,0,1,1]) (O40 [1,1,0,1,0,0,1,0,0,1,0,1,0,0,1,1]).toList 0 #[g0,g1,g2,g3,g4,g5,g6,g7,.int .i64 x8,g9,g10,g11,g12,g13,g14,g15,g16,g17,g18,g19,g20,g21,g22,g23,g24,g25,g26,g27,g28,g29,g30,g31,g32,g33] M K = K #[g0,g1,g2,g3,g4,g5,g6,g7,.int .i64 (IntKind.i64.wrap (x8 + 1)),g9,g10,g11,g12,g13,g14,g15,g16,g17,g18,.int .i64 x8,.int .i64 (IntKind.i64.wrap (x8 + 1)),g21,g22,g23,g24,g25,g26,g27,g28,g29,g30,g31,g32,g33] M := by kernel_rfl
theorem k40_37 : P40 [1,1,0,1,0,0,1,0,0,1,0,1,0,0,0,1,1] = .exit 2 := by kernel_rfl
theorem k40_38 : P40 [1,1,0,1,0,0,1,0,0,1,1] = .region 10 (O40 [1,1,0,1,0,0,1,0,0,1,1]) false := by kernel_rfl
theorem r40_10 {Ax5 : Option Addr} {lx5 cx5 : Nat} {Ax7 : Option Addr} {lx7 cx7 : Nat} {M : Mem} {call : CallM} {K : Array Value → Mem → R} :
    opsK Try.prog (fun _ => call) (O40 [1,1,0,1,0,0,1,0,0,1,1]) (O40 [1,1,0,1,0,0,1,0,0,1,1]).toList 0 #[g0,g1,g2,g3,g4,.slice Ax5 lx5 cx5,g6,.slice Ax7 lx7 cx7,g8,g9,g10,g11,g12,g13,g14,g15,g16,g17,g18,g19,g20,g21,g22,g23,g24,g25,g26,g27,g28,g29,g30,g31,g32,g33] M K = (appendP Try.prog #[50, 50] (.slice Ax5 lx5 cx5) (.slice (some ⟨2 * M.nb.size, 0, none⟩) 1 1) (M.new (.cells #[.slice Ax7 lx7 cx7] 22))).bind fun r_1 => (asS r_1.1).bind fun s_2 => K #[g0,g1,g2,g3,g4,.slice s_2.1 (s_2.2.1) (s_2.2.2),g6,.slice Ax7 lx7 cx7,g8,g9,g10,g11,g12,g13,g14,g15,g16,g17,g18,g19,g20,g21,g22,g23,g24,g25,g26,g27,g28,.slice Ax5 lx5 cx5,.slice Ax7 lx7 cx7,.slice (some ⟨2 * M.nb.size, 0, none⟩) 1 1,.slice s_2.1 (s_2.2.1) (s_2.2.2),g33] r_1.2 := by kernel_rfl
theorem k40_39 : P40 [1,1,0,1,0,0,1,1] = .region 4 (O40 [1,1,0,1,0,0,1,1]) false := by kernel_rfl
theorem r40_4 {x6 : Int} {M : Mem} {call : CallM} {K : Array Value → Mem → R} :
    opsK Try.prog (fun _ => call) (O40 [1,1,0,1,0,0,1,1]) (O40 [1,1,0,1,0,0,1,1]).toList 0 #[g0,g1,g2,g3,g4,g5,.int .i64 x6,g7,g8,g9,g10,g11,g12,g13,g14,g15,g16,g17,g18,g19,g20,g21,g22,g23,g24,g25,g26,g27,g28,g29,g30,g31,g32,g33] M K = K #[g0,g1,g2,g3,g4,g5,.int .i64 (IntKind.i64.wrap (x6 + 1)),g7,g8,g9,g10,g11,.int .i64 x6,.int .i64 (IntKind.i64.wrap (x6 + 1)),g14,g15,g16,g17,g18,g19,g20,g21,g22,g23,g24,g25,g26,g27,g28,g29,g30,g31,g32,g33] M := by kernel_rfl
noncomputable def S40_1 : List Item := [.code (P40 [1,1,0,1,0,0]), .inLoop (P40 [1,1,0,1,0,0]), .inBlock 0, .code (P40 [1,1,1])]
def A40_1 (x0 x1 : Int) (Ax5 : Option Addr) (lx5 cx5 : Nat) (x6 : Int) (M : Mem) (Q : Value → Mem → Prop) : Prop := ∀ (g2 g3 g4 g7 g8 g9 g10 g11 g12 g13 g14 g15 g16 g17 g18 g19 g20 g21 g22 g23 g24 g25 g26 g27 g28 g29 g30 g31 g32 g33 : Value), Rn Try.prog Try.f40 S40_1 #[.int .i64 x0, .int .i64 x1, g2, g3, g4, .slice Ax5 lx5 cx5, .int .i64 x6, g7, g8, g9, g10, g11, g12, g13, g14, g15, g16, g17, g18, g19, g20, g21, g22, g23, g24, g25, g26, g27, g28, g29, g30, g31, g32, g33] M Q
noncomputable def S40_2 : List Item := [.code (P40 [1,1,0,1,0,0,1,0,0,1,0,1,0,0]), .inLoop (P40 [1,1,0,1,0,0,1,0,0,1,0,1,0,0]), .inBlock 2, .code (P40 [1,1,0,1,0,0,1,0,0,1,1]), .inBlock 1, .code (P40 [1,1,0,1,0,0,1,1]), .inLoop (P40 [1,1,0,1,0,0]), .inBlock 0, .code (P40 [1,1,1])]
def A40_2 (x0 x1 : Int) (Ax5 : Option Addr) (lx5 cx5 : Nat) (x6 : Int) (Ax7 : Option Addr) (lx7 cx7 : Nat) (x8 : Int) (M : Mem) (Q : Value → Mem → Prop) : Prop := ∀ (g2 g3 g4 g9 g10 g11 g12 g13 g14 g15 g16 g17 g18 g19 g20 g21 g22 g23 g24 g25 g26 g27 g28 g29 g30 g31 g32 g33 : Value), Rn Try.prog Try.f40 S40_2 #[.int .i64 x0, .int .i64 x1, g2, g3, g4, .slice Ax5 lx5 cx5, .int .i64 x6, .slice Ax7 lx7 cx7, .int .i64 x8, g9, g10, g11, g12, g13, g14, g15, g16, g17, g18, g19, g20, g21, g22, g23, g24, g25, g26, g27, g28, g29, g30, g31, g32, g33] M Q
theorem w40_0 {x0 x1 : Int} {M : Mem} {Q : Value → Mem → Prop} (H :
    A40_1 x0 x1 none 0 0 0 M Q) :
    Cn Try.prog 40 #[.int .i64 x0, .int .i64 x1] M Q := by
  refine Cn.of b40 d40 t40 ?_
  refine Rn.seq k40_0 (Rn.region k40_1 (fun call K => r40_0) (Rch.leaf (Rn.seq k40_2 (Rn.region k40_3 (fun call K => r40_1) (Rch.leaf (Rn.seq k40_4 (Rn.seq k40_5 (Rn.region k40_6 (fun call K => r40_2) (Rch.leaf (Rn.block k40_7 (Rn.loop k40_8 ?_)))))))))))
  exact H _ _ _ _ _ _ _ _ _ _ _ _ _ _ _ _ _ _ _ _ _ _ _ _ _ _ _ _ _ _

theorem w40_1 {x0 x1 : Int} {Ax5 : Option Addr} {lx5 cx5 : Nat} {x6 : Int} {M : Mem} {Q : Value → Mem → Prop} (H :
    ((x6 < x1 →
     ∃ r1', makeP Try.prog 22 (.int .i64 x1) (.int .i64 x1) M = some r1' ∧
     ∃ s2', asS r1'.1 = some s2' ∧
     A40_2 x0 x1 Ax5 lx5 cx5 x6 s2'.1 s2'.2.1 s2'.2.2 0 r1'.2 Q) ∧
     (¬ (x6 < x1) →
     Q (.slice Ax5 lx5 cx5) M))) :
    A40_1 x0 x1 Ax5 lx5 cx5 x6 M Q := by
  intro g2 g3 g4 g7 g8 g9 g10 g11 g12 g13 g14 g15 g16 g17 g18 g19 g20 g21 g22 g23 g24 g25 g26 g27 g28 g29 g30 g31 g32 g33
  refine Rn.seq k40_9 (Rn.seq k40_10 (Rn.region k40_11 (fun call K => r40_3) (Rch.leaf ?_)))
  refine Rn.cnd (v := decide (x6 < x1)) ⟨c40_12, rfl, by kernel_rfl⟩ (fun h => ?_) (fun h => ?_)
  · replace H := H.1 (of_decide_eq_true h)
    refine Rn.skip k40_13 (Rn.seq k40_14 (Rn.block k40_15 (Rn.seq k40_16 (Rn.region k40_17 (fun call K => r40_5) (Rch.ex H fun r1' H => Rch.ex H fun s2' H => Rch.leaf (Rn.seq k40_18 (Rn.seq k40_19 (Rn.region k40_20 (fun call K => r40_6) (Rch.leaf ?_)))))))))
    refine Rn.block k40_21 (Rn.loop k40_22 ?_)
    exact H _ _ _ _ _ _ _ _ _ _ _ _ _ _ _ _ _ _ _ _ _ _ _ _ _ _ _ _
  · replace H := H.2 (of_decide_eq_false h)
    refine Rn.exit k40_23 rfl (Rn.seq k40_24 (Rn.region k40_25 (fun call K => r40_11) (Rch.leaf ?_)))
    exact Rn.ret k40_26 e40 H

theorem w40_2 {x0 x1 : Int} {Ax5 : Option Addr} {lx5 cx5 : Nat} {x6 : Int} {Ax7 : Option Addr} {lx7 cx7 : Nat} {x8 : Int} {M : Mem} {Q : Value → Mem → Prop} (H :
    ((x8 < x1 →
     Cn Try.prog 45 #[.int .i64 x0, .int .i64 x1, .int .i64 x6, .int .i64 x8] M fun v3' N3' =>
      ∃ x4', asI .i64 v3' = some x4' ∧
      ∃ a5', idxA Ax7 lx7 1 x8 = some a5' ∧
      ∃ M6', N3'.put a5'.block a5'.off (.int .i64 x4') = some M6' ∧
      A40_2 x0 x1 Ax5 lx5 cx5 x6 Ax7 lx7 cx7 (IntKind.i64.wrap (x8 + 1)) M6' Q) ∧
     (¬ (x8 < x1) →
     ∃ r7', appendP Try.prog #[50, 50] (.slice Ax5 lx5 cx5) (.slice (some ⟨2 * M.nb.size, 0, none⟩) 1 1) (M.new (.cells #[.slice Ax7 lx7 cx7] 22)) = some r7' ∧
     ∃ s8', asS r7'.1 = some s8' ∧
     A40_1 x0 x1 s8'.1 s8'.2.1 s8'.2.2 (IntKind.i64.wrap (x6 + 1)) r7'.2 Q))) :
    A40_2 x0 x1 Ax5 lx5 cx5 x6 Ax7 lx7 cx7 x8 M Q := by
  intro g2 g3 g4 g9 g10 g11 g12 g13 g14 g15 g16 g17 g18 g19 g20 g21 g22 g23 g24 g25 g26 g27 g28 g29 g30 g31 g32 g33
  refine Rn.seq k40_28 (Rn.seq k40_29 (Rn.region k40_30 (fun call K => r40_7) (Rch.leaf ?_)))
  refine Rn.cnd (v := decide (x8 < x1)) ⟨c40_31, rfl, by kernel_rfl⟩ (fun h => ?_) (fun h => ?_)
  · replace H := H.1 (of_decide_eq_true h)
    refine Rn.skip k40_32 (Rn.seq k40_33 (Rn.block k40_34 (Rn.region k40_35 (fun call K => r40_9) (Rch.call H fun v3' N3' H => Rch.ex H fun x4' H => Rch.ex H fun a5' H => Rch.ex H fun M6' H => Rch.leaf (Rn.blk (Rn.region k40_36 (fun call K => r40_8) (Rch.leaf ?_)))))))
    refine Rn.lp ?_
    exact H _ _ _ _ _ _ _ _ _ _ _ _ _ _ _ _ _ _ _ _ _ _ _ _ _ _ _ _
  · replace H := H.2 (of_decide_eq_false h)
    refine Rn.exit k40_37 rfl (Rn.region k40_38 (fun call K => r40_10) (Rch.ex H fun r7' H => Rch.ex H fun s8' H => Rch.leaf (Rn.blk (Rn.region k40_39 (fun call K => r40_4) (Rch.leaf (Rn.lp ?_))))))
    exact H _ _ _ _ _ _ _ _ _ _ _ _ _ _ _ _ _ _ _ _ _ _ _ _ _ _ _ _ _ _


/-! ### zoetrope/zoetroperef07.weight: function 45 -/
noncomputable abbrev P45 (p : List Nat) : Code := subC (codeOf Try.f45) p
noncomputable abbrev O45 (p : List Nat) : Array Oper := opsOf (subC (codeOf Try.f45) p)
theorem b45 : Try.prog.funcs[45]? = some Try.f45 ∧ (Orc.tab Try.prog).lookup 45 = none := ⟨by kernel_rfl, by kernel_rfl⟩
theorem d45 : Try.f45.body = some (P45 []) := by kernel_rfl
theorem t45 {x0 x1 x2 x3 : Int} : #[.int .i64 x0,.int .i64 x1,.int .i64 x2,.int .i64 x3] ++ Array.replicate (Try.f45.ntmps - (#[.int .i64 x0,.int .i64 x1,.int .i64 x2,.int .i64 x3] : Array Value).size) undef = #[.int .i64 x0,.int .i64 x1,.int .i64 x2,.int .i64 x3,undef,undef,undef,undef,undef,undef,undef,undef,undef,undef,undef,undef,undef,undef,undef,undef,undef,undef,undef,undef,undef,undef,undef,undef,undef,undef,undef,undef,undef,undef,undef,undef,undef,undef,undef,undef,undef,undef,undef,undef,undef,undef,undef,undef,undef,undef,undef,undef,undef,undef,undef,undef,undef] := by kernel_rfl
theorem k45_0 : P45 [] = .seq (P45 [0]) (P45 [1]) := by kernel_rfl
theorem k45_1 : P45 [0] = .region 0 (O45 [0]) false := by kernel_rfl
theorem r45_0 {M : Mem} {call : CallM} {K : Array Value → Mem → R} :
    opsK Try.prog (fun _ => call) (O45 [0]) (O45 [0]).toList 0 #[g0,g1,g2,g3,g4,g5,g6,g7,g8,g9,g10,g11,g12,g13,g14,g15,g16,g17,g18,g19,g20,g21,g22,g23,g24,g25,g26,g27,g28,g29,g30,g31,g32,g33,g34,g35,g36,g37,g38,g39,g40,g41,g42,g43,g44,g45,g46,g47,g48,g49,g50,g51,g52,g53,g54,g55,g56] M K = K #[g0,g1,g2,g3,g4,g5,g6,g7,.int .i64 0,g9,g10,g11,g12,g13,g14,g15,g16,g17,g18,g19,g20,g21,g22,g23,g24,g25,g26,g27,g28,g29,g30,g31,g32,g33,g34,g35,g36,g37,g38,g39,g40,g41,g42,g43,g44,g45,g46,g47,g48,g49,g50,g51,g52,g53,g54,g55,g56] M := by kernel_rfl
theorem k45_2 : P45 [1] = .seq (P45 [1,0]) (P45 [1,1]) := by kernel_rfl
theorem k45_3 : P45 [1,0] = .block 0 (P45 [1,0,0]) := by kernel_rfl
theorem k45_4 : P45 [1,0,0] = .seq (P45 [1,0,0,0]) (P45 [1,0,0,1]) := by kernel_rfl
theorem k45_5 : P45 [1,0,0,0] = .region 1 (O45 [1,0,0,0]) false := by kernel_rfl
theorem r45_1 {x0 : Int} {M : Mem} {call : CallM} {K : Array Value → Mem → R} :
    opsK Try.prog (fun _ => call) (O45 [1,0,0,0]) (O45 [1,0,0,0]).toList 0 #[.int .i64 x0,g1,g2,g3,g4,g5,g6,g7,g8,g9,g10,g11,g12,g13,g14,g15,g16,g17,g18,g19,g20,g21,g22,g23,g24,g25,g26,g27,g28,g29,g30,g31,g32,g33,g34,g35,g36,g37,g38,g39,g40,g41,g42,g43,g44,g45,g46,g47,g48,g49,g50,g51,g52,g53,g54,g55,g56] M K = K #[.int .i64 x0,g1,g2,g3,g4,g5,g6,g7,g8,.bool (x0 == 1),.int .i64 x0,.bool (x0 == 1),g12,g13,g14,g15,g16,g17,g18,g19,g20,g21,g22,g23,g24,g25,g26,g27,g28,g29,g30,g31,g32,g33,g34,g35,g36,g37,g38,g39,g40,g41,g42,g43,g44,g45,g46,g47,g48,g49,g50,g51,g52,g53,g54,g55,g56] M := by kernel_rfl
theorem c45_6 : P45 [1,0,0,1] = .cond (.tmp 9) (P45 [1,0,0,1,0]) (P45 [1,0,0,1,1]) := by kernel_rfl
theorem k45_7 : P45 [1,0,0,1,0] = .seq (P45 [1,0,0,1,0,0]) (P45 [1,0,0,1,0,1]) := by kernel_rfl
theorem k45_8 : P45 [1,0,0,1,0,0] = .region 2 (O45 [1,0,0,1,0,0]) false := by kernel_rfl
theorem r45_2 {x1 x2 x3 : Int} {M : Mem} {call : CallM} {K : Array Value → Mem → R} :
    opsK Try.prog (fun _ => call) (O45 [1,0,0,1,0,0]) (O45 [1,0,0,1,0,0]).toList 0 #[g0,.int .i64 x1,.int .i64 x2,.int .i64 x3,g4,g5,g6,g7,g8,g9,g10,g11,g12,g13,g14,g15,g16,g17,g18,g19,g20,g21,g22,g23,g24,g25,g26,g27,g28,g29,g30,g31,g32,g33,g34,g35,g36,g37,g38,g39,g40,g41,g42,g43,g44,g45,g46,g47,g48,g49,g50,g51,g52,g53,g54,g55,g56] M K = (binV Try.prog .quo 3 3 (.int .i64 (IntKind.i64.wrap ((IntKind.i64.wrap ((IntKind.i64.wrap ((IntKind.i64.wrap (2 * x3)) + 1)) * (IntKind.i64.wrap ((IntKind.i64.wrap (2 * x2)) + 1)))) * 32))) (.int .i64 x1)).bind fun v_1 => (asI .i64 v_1).bind fun x_2 => (call 22 #[.int .i64 (IntKind.i64.wrap (64 - x_2))] M).bind fun r_3 => (asI .i64 r_3.1).bind fun x_4 => K #[g0,.int .i64 x1,.int .i64 x2,.int .i64 x3,g4,g5,g6,g7,.int .i64 x_4,g9,g10,g11,.int .i64 x3,.int .i64 (IntKind.i64.wrap (2 * x3)),.int .i64 (IntKind.i64.wrap ((IntKind.i64.wrap (2 * x3)) + 1)),.int .i64 x2,.int .i64 (IntKind.i64.wrap (2 * x2)),.int .i64 (IntKind.i64.wrap ((IntKind.i64.wrap (2 * x2)) + 1)),.int .i64 (IntKind.i64.wrap ((IntKind.i64.wrap ((IntKind.i64.wrap (2 * x3)) + 1)) * (IntKind.i64.wrap ((IntKind.i64.wrap (2 * x2)) + 1)))),.int .i64 (IntKind.i64.wrap ((IntKind.i64.wrap ((IntKind.i64.wrap ((IntKind.i64.wrap (2 * x3)) + 1)) * (IntKind.i64.wrap ((IntKind.i64.wrap (2 * x2)) + 1)))) * 32)),.int .i64 x1,.int .i64 x_2,.int .i64 (IntKind.i64.wrap (64 - x_2)),.int .i64 x_4,g24,g25,g26,g27,g28,g29,g30,g31,g32,g33,g34,g35,g36,g37,g38,g39,g40,g41,g42,g43,g44,g45,g46,g47,g48,g49,g50,g51,g52,g53,g54,g55,g56] r_3.2 := by kernel_rfl
theorem k45_9 : P45 [1,0,0,1,0,1] = .ret := by kernel_rfl
theorem e45 {M : Mem} : finish Try.prog Try.f45 #[g0,g1,g2,g3,g4,g5,g6,g7,g8,g9,g10,g11,g12,g13,g14,g15,g16,g17,g18,g19,g20,g21,g22,g23,g24,g25,g26,g27,g28,g29,g30,g31,g32,g33,g34,g35,g36,g37,g38,g39,g40,g41,g42,g43,g44,g45,g46,g47,g48,g49,g50,g51,g52,g53,g54,g55,g56] M = some (g8, M) := by kernel_rfl
theorem k45_11 : P45 [1,0,0,1,1] = .seq (P45 [1,0,0,1,1,0]) (P45 [1,0,0,1,1,1]) := by kernel_rfl
theorem k45_12 : P45 [1,0,0,1,1,0] = .region 3 (O45 [1,0,0,1,1,0]) false := by kernel_rfl
theorem r45_3 {x0 x2 : Int} {M : Mem} {call : CallM} {K : Array Value → Mem → R} :
    opsK Try.prog (fun _ => call) (O45 [1,0,0,1,1,0]) (O45 [1,0,0,1,1,0]).toList 0 #[.int .i64 x0,g1,.int .i64 x2,g3,g4,g5,g6,g7,g8,g9,g10,g11,g12,g13,g14,g15,g16,g17,g18,g19,g20,g21,g22,g23,g24,g25,g26,g27,g28,g29,g30,g31,g32,g33,g34,g35,g36,g37,g38,g39,g40,g41,g42,g43,g44,g45,g46,g47,g48,g49,g50,g51,g52,g53,g54,g55,g56] M K = withK (fun w24 w27 w28 w29 w30 M => K #[.int .i64 x0,g1,.int .i64 x2,g3,g4,g5,g6,g7,g8,g9,g10,g11,g12,g13,g14,g15,g16,g17,g18,g19,g20,g21,g22,g23,w24,.int .i64 x0,.bool (x0 == 0),w27,w28,w29,w30,g31,g32,g33,g34,g35,g36,g37,g38,g39,g40,g41,g42,g43,g44,g45,g46,g47,g48,g49,g50,g51,g52,g53,g54,g55,g56] M) fun k => cond (x0 == 0) (k (.bool (x2 == 0)) (.bool true) (.int .i64 x2) (.bool (x2 == 0)) (.bool (x2 == 0)) M) (k (.bool false) (.bool false) undef undef (.bool false) M) := by kernel_rfl
theorem c45_13 : P45 [1,0,0,1,1,1] = .cond (.tmp 24) (P45 [1,0,0,1,1,1,0]) (P45 [1,0,0,1,1,1,1]) := by kernel_rfl
theorem k45_14 : P45 [1,0,0,1,1,1,0] = .seq (P45 [1,0,0,1,1,1,0,0]) (P45 [1,0,0,1,1,1,0,1]) := by kernel_rfl
theorem k45_15 : P45 [1,0,0,1,1,1,0,0] = .region 4 (O45 [1,0,0,1,1,1,0,0]) false := by kernel_rfl
theorem r45_4 {M : Mem} {call : CallM} {K : Array Value → Mem → R} :
    opsK Try.prog (fun _ => call) (O45 [1,0,0,1,1,1,0,0]) (O45 [1,0,0,1,1,1,0,0]).toList 0 #[g0,g1,g2,g3,g4,g5,g6,g7,g8,g9,g10,g11,g12,g13,g14,g15,g16,g17,g18,g19,g20,g21,g22,g23,g24,g25,g26,g27,g28,g29,g30,g31,g32,g33,g34,g35,g36,g37,g38,g39,g40,g41,g42,g43,g44,g45,g46,g47,g48,g49,g50,g51,g52,g53,g54,g55,g56] M K = (call 22 #[.int .i64 32] M).bind fun r_1 => (asI .i64 r_1.1).bind fun x_2 => K #[g0,g1,g2,g3,g4,g5,g6,g7,.int .i64 x_2,g9,g10,g11,g12,g13,g14,g15,g16,g17,g18,g19,g20,g21,g22,g23,g24,g25,g26,g27,g28,g29,g30,.int .i64 x_2,g32,g33,g34,g35,g36,g37,g38,g39,g40,g41,g42,g43,g44,g45,g46,g47,g48,g49,g50,g51,g52,g53,g54,g55,g56] r_1.2 := by kernel_rfl
theorem k45_16 : P45 [1,0,0,1,1,1,0,1] = .ret := by kernel_rfl
theorem k45_17 : P45 [1,0,0,1,1,1,1] = .seq (P45 [1,0,0,1,1,1,1,0]) (P45 [1,0,0,1,1,1,1,1]) := by kernel_rfl
theorem k45_18 : P45 [1,0,0,1,1,1,1,0] = .region 5 (O45 [1,0,0,1,1,1,1,0]) false := by kernel_rfl
theorem r45_5 {x0 : Int} {M : Mem} {call : CallM} {K : Array Value → Mem → R} :
    opsK Try.prog (fun _ => call) (O45 [1,0,0,1,1,1,1,0]) (O45 [1,0,0,1,1,1,1,0]).toList 0 #[.int .i64 x0,g1,g2,g3,g4,g5,g6,g7,g8,g9,g10,g11,g12,g13,g14,g15,g16,g17,g18,g19,g20,g21,g22,g23,g24,g25,g26,g27,g28,g29,g30,g31,g32,g33,g34,g35,g36,g37,g38,g39,g40,g41,g42,g43,g44,g45,g46,g47,g48,g49,g50,g51,g52,g53,g54,g55,g56] M K = K #[.int .i64 x0,g1,g2,g3,g4,g5,g6,g7,g8,g9,g10,g11,g12,g13,g14,g15,g16,g17,g18,g19,g20,g21,g22,g23,g24,g25,g26,g27,g28,g29,g30,g31,.bool (x0 == 0),.int .i64 x0,.bool (x0 == 0),g35,g36,g37,g38,g39,g40,g41,g42,g43,g44,g45,g46,g47,g48,g49,g50,g51,g52,g53,g54,g55,g56] M := by kernel_rfl
theorem c45_19 : P45 [1,0,0,1,1,1,1,1] = .cond (.tmp 32) (P45 [1,0,0,1,1,1,1,1,0]) (P45 [1,0,0,1,1,1,1,1,1]) := by kernel_rfl
theorem k45_20 : P45 [1,0,0,1,1,1,1,1,0] = .seq (P45 [1,0,0,1,1,1,1,1,0,0]) (P45 [1,0,0,1,1,1,1,1,0,1]) := by kernel_rfl
theorem k45_21 : P45 [1,0,0,1,1,1,1,1,0,0] = .region 6 (O45 [1,0,0,1,1,1,1,1,0,0]) false := by kernel_rfl
theorem r45_6 {x1 x2 x3 : Int} {M : Mem} {call : CallM} {K : Array Value → Mem → R} :
    opsK Try.prog (fun _ => call) (O45 [1,0,0,1,1,1,1,1,0,0]) (O45 [1,0,0,1,1,1,1,1,0,0]).toList 0 #[g0,.int .i64 x1,.int .i64 x2,.int .i64 x3,g4,g5,g6,g7,g8,g9,g10,g11,g12,g13,g14,g15,g16,g17,g18,g19,g20,g21,g22,g23,g24,g25,g26,g27,g28,g29,g30,g31,g32,g33,g34,g35,g36,g37,g38,g39,g40,g41,g42,g43,g44,g45,g46,g47,g48,g49,g50,g51,g52,g53,g54,g55,g56] M K = (binV Try.prog .quo 3 3 (.int .i64 (IntKind.i64.wrap ((IntKind.i64.wrap ((IntKind.i64.wrap ((IntKind.i64.wrap (2 * x3)) + 1)) * x2)) * 64))) (.int .i64 x1)).bind fun v_1 => (asI .i64 v_1).bind fun x_2 => (call 22 #[.int .i64 x_2] M).bind fun r_3 => (asI .i64 r_3.1).bind fun x_4 => K #[g0,.int .i64 x1,.int .i64 x2,.int .i64 x3,g4,g5,g6,g7,.int .i64 x_4,g9,g10,g11,g12,g13,g14,g15,g16,g17,g18,g19,g20,g21,g22,g23,g24,g25,g26,g27,g28,g29,g30,g31,g32,g33,g34,.int .i64 x3,.int .i64 (IntKind.i64.wrap (2 * x3)),.int .i64 (IntKind.i64.wrap ((IntKind.i64.wrap (2 * x3)) + 1)),.int .i64 x2,.int .i64 (IntKind.i64.wrap ((IntKind.i64.wrap ((IntKind.i64.wrap (2 * x3)) + 1)) * x2)),.int .i64 (IntKind.i64.wrap ((IntKind.i64.wrap ((IntKind.i64.wrap ((IntKind.i64.wrap (2 * x3)) + 1)) * x2)) * 64)),.int .i64 x1,.int .i64 x_2,.int .i64 x_4,g44,g45,g46,g47,g48,g49,g50,g51,g52,g53,g54,g55,g56] r_3.2 := by kernel_rfl
theorem k45_22 : P45 [1,0,0,1,1,1,1,1,0,1] = .ret := by kernel_rfl
theorem k45_23 : P45 [1,0,0,1,1,1,1,1,1] = .seq (P45 [1,0,0,1,1,1,1,1,1,0]) (P45 [1,0,0,1,1,1,1,1,1,1]) := by kernel_rfl
theorem k45_24 : P45 [1,0,0,1,1,1,1,1,1,0] = .region 7 (O45 [1,0,0,1,1,1,1,1,1,0]) false := by kernel_rfl
theorem r45_7 {x2 x3 : Int} {M : Mem} {call : CallM} {K : Array Value → Mem → R} :
    opsK Try.prog (fun _ => call) (O45 [1,0,0,1,1,1,1,1,1,0]) (O45 [1,0,0,1,1,1,1,1,1,0]).toList 0 #[g0,g1,.int .i64 x2,.int .i64 x3,g4,g5,g6,g7,g8,g9,g10,g11,g12,g13,g14,g15,g16,g17,g18,g19,g20,g21,g22,g23,g24,g25,g26,g27,g28,g29,g30,g31,g32,g33,g34,g35,g36,g37,g38,g39,g40,g41,g42,g43,g44,g45,g46,g47,g48,g49,g50,g51,g52,g53,g54,g55,g56] M K = K #[g0,g1,.int .i64 x2,.int .i64 x3,g4,g5,g6,g7,g8,g9,g10,g11,g12,g13,g14,g15,g16,g17,g18,g19,g20,g21,g22,g23,g24,g25,g26,g27,g28,g29,g30,g31,g32,g33,g34,g35,g36,g37,g38,g39,g40,g41,g42,g43,.bool (x2 != x3),.int .i64 x2,.int .i64 x3,.bool (x2 != x3),g48,g49,g50,g51,g52,g53,g54,g55,g56] M := by kernel_rfl
theorem c45_25 : P45 [1,0,0,1,1,1,1,1,1,1] = .cond (.tmp 44) (P45 [1,0,0,1,1,1,1,1,1,1,0]) (P45 [1,0,0,1,1,1,1,1,1,1,1]) := by kernel_rfl
theorem k45_26 : P45 [1,0,0,1,1,1,1,1,1,1,0] = .seq (P45 [1,0,0,1,1,1,1,1,1,1,0,0]) (P45 [1,0,0,1,1,1,1,1,1,1,0,1]) := by kernel_rfl
theorem k45_27 : P45 [1,0,0,1,1,1,1,1,1,1,0,0] = .region 8 (O45 [1,0,0,1,1,1,1,1,1,1,0,0]) false := by kernel_rfl
theorem r45_8 {M : Mem} {call : CallM} {K : Array Value → Mem → R} :
    opsK Try.prog (fun _ => call) (O45 [1,0,0,1,1,1,1,1,1,1,0,0]) (O45 [1,0,0,1,1,1,1,1,1,1,0,0]).toList 0 #[g0,g1,g2,g3,g4,g5,g6,g7,g8,g9,g10,g11,g12,g13,g14,g15,g16,g17,g18,g19,g20,g21,g22,g23,g24,g25,g26,g27,g28,g29,g30,g31,g32,g33,g34,g35,g36,g37,g38,g39,g40,g41,g42,g43,g44,g45,g46,g47,g48,g49,g50,g51,g52,g53,g54,g55,g56] M K = K #[g0,g1,g2,g3,g4,g5,g6,g7,.int .i64 0,g9,g10,g11,g12,g13,g14,g15,g16,g17,g18,g19,g20,g21,g22,g23,g24,g25,g26,g27,g28,g29,g30,g31,g32,g33,g34,g35,g36,g37,g38,g39,g40,g41,g42,g43,g44,g45,g46,g47,g48,g49,g50,g51,g52,g53,g54,g55,g56] M := by kernel_rfl
theorem k45_28 : P45 [1,0,0,1,1,1,1,1,1,1,0,1] = .ret := by kernel_rfl
theorem k45_29 : P45 [1,0,0,1,1,1,1,1,1,1,1] = .seq (P45 [1,0,0,1,1,1,1,1,1,1,1,0]) (P45 [1,0,0,1,1,1,1,1,1,1,1,1]) := by kernel_rfl
theorem k45_30 : P45 [1,0,0,1,1,1,1,1,1,1,1,0] = .region 9 (O45 [1,0,0,1,1,1,1,1,1,1,1,0]) false := by kernel_rfl
theorem r45_9 {x1 : Int} {M : Mem} {call : CallM} {K : Array Value → Mem → R} :
    opsK Try.prog (fun _ => call) (O45 [1,0,0,1,1,1,1,1,1,1,1,0]) (O45 [1,0,0,1,1,1,1,1,1,1,1,0]).toList 0 #[g0,.int .i64 x1,g2,g3,g4,g5,g6,g7,g8,g9,g10,g11,g12,g13,g14,g15,g16,g17,g18,g19,g20,g21,g22,g23,g24,g25,g26,g27,g28,g29,g30,g31,g32,g33,g34,g35,g36,g37,g38,g39,g40,g41,g42,g43,g44,g45,g46,g47,g48,g49,g50,g51,g52,g53,g54,g55,g56] M K = K #[g0,.int .i64 x1,g2,g3,g4,g5,g6,g7,g8,g9,g10,g11,g12,g13,g14,g15,g16,g17,g18,g19,g20,g21,g22,g23,g24,g25,g26,g27,g28,g29,g30,g31,g32,g33,g34,g35,g36,g37,g38,g39,g40,g41,g42,g43,g44,g45,g46,g47,.bool (x1 == 4),.int .i64 x1,.bool (x1 == 4),g51,g52,g53,g54,g55,g56] M := by kernel_rfl
theorem c45_31 : P45 [1,0,0,1,1,1,1,1,1,1,1,1] = .cond (.tmp 48) (P45 [1,0,0,1,1,1,1,1,1,1,1,1,0]) (P45 [1,0,0,1,1,1,1,1,1,1,1,1,1]) := by kernel_rfl
theorem k45_32 : P45 [1,0,0,1,1,1,1,1,1,1,1,1,0] = .seq (P45 [1,0,0,1,1,1,1,1,1,1,1,1,0,0]) (P45 [1,0,0,1,1,1,1,1,1,1,1,1,0,1]) := by kernel_rfl
theorem k45_33 : P45 [1,0,0,1,1,1,1,1,1,1,1,1,0,0] = .region 10 (O45 [1,0,0,1,1,1,1,1,1,1,1,1,0,0]) false := by kernel_rfl
theorem r45_10 {M : Mem} {call : CallM} {K : Array Value → Mem → R} :
    opsK Try.prog (fun _ => call) (O45 [1,0,0,1,1,1,1,1,1,1,1,1,0,0]) (O45 [1,0,0,1,1,1,1,1,1,1,1,1,0,0]).toList 0 #[g0,g1,g2,g3,g4,g5,g6,g7,g8,g9,g10,g11,g12,g13,g14,g15,g16,g17,g18,g19,g20,g21,g22,g23,g24,g25,g26,g27,g28,g29,g30,g31,g32,g33,g34,g35,g36,g37,g38,g39,g40,g41,g42,g43,g44,g45,g46,g47,g48,g49,g50,g51,g52,g53,g54,g55,g56] M K = K #[g0,g1,g2,g3,g4,g5,g6,g7,.int .i64 5793,g9,g10,g11,g12,g13,g14,g15,g16,g17,g18,g19,g20,g21,g22,g23,g24,g25,g26,g27,g28,g29,g30,g31,g32,g33,g34,g35,g36,g37,g38,g39,g40,g41,g42,g43,g44,g45,g46,g47,g48,g49,g50,g51,g52,g53,g54,g55,g56] M := by kernel_rfl
theorem k45_34 : P45 [1,0,0,1,1,1,1,1,1,1,1,1,0,1] = .ret := by kernel_rfl
theorem k45_35 : P45 [1,0,0,1,1,1,1,1,1,1,1,1,1] = .seq (P45 [1,0,0,1,1,1,1,1,1,1,1,1,1,0]) (P45 [1,0,0,1,1,1,1,1,1,1,1,1,1,1]) := by kernel_rfl
theorem k45_36 : P45 [1,0,0,1,1,1,1,1,1,1,1,1,1,0] = .region 11 (O45 [1,0,0,1,1,1,1,1,1,1,1,1,1,0]) false := by kernel_rfl
theorem r45_11 {x1 : Int} {M : Mem} {call : CallM} {K : Array Value → Mem → R} :
    opsK Try.prog (fun _ => call) (O45 [1,0,0,1,1,1,1,1,1,1,1,1,1,0]) (O45 [1,0,0,1,1,1,1,1,1,1,1,1,1,0]).toList 0 #[g0,.int .i64 x1,g2,g3,g4,g5,g6,g7,g8,g9,g10,g11,g12,g13,g14,g15,g16,g17,g18,g19,g20,g21,g22,g23,g24,g25,g26,g27,g28,g29,g30,g31,g32,g33,g34,g35,g36,g37,g38,g39,g40,g41,g42,g43,g44,g45,g46,g47,g48,g49,g50,g51,g52,g53,g54,g55,g56] M K = K #[g0,.int .i64 x1,g2,g3,g4,g5,g6,g7,g8,g9,g10,g11,g12,g13,g14,g15,g16,g17,g18,g19,g20,g21,g22,g23,g24,g25,g26,g27,g28,g29,g30,g31,g32,g33,g34,g35,g36,g37,g38,g39,g40,g41,g42,g43,g44,g45,g46,g47,g48,g49,g50,.bool (x1 == 8),.int .i64 x1,.bool (x1 == 8),g54,g55,g56] M := by kernel_rfl
theorem c45_37 : P45 [1,0,0,1,1,1,1,1,1,1,1,1,1,1] = .cond (.tmp 51) (P45 [1,0,0,1,1,1,1,1,1,1,1,1,1,1,0]) (P45 [1,0,0,1,1,1,1,1,1,1,1,1,1,1,1]) := by kernel_rfl
theorem k45_38 : P45 [1,0,0,1,1,1,1,1,1,1,1,1,1,1,0] = .seq (P45 [1,0,0,1,1,1,1,1,1,1,1,1,1,1,0,0]) (P45 [1,0,0,1,1,1,1,1,1,1,1,1,1,1,0,1]) := by kernel_rfl
theorem k45_39 : P45 [1,0,0,1,1,1,1,1,1,1,1,1,1,1,0,0] = .region 12 (O45 [1,0,0,1,1,1,1,1,1,1,1,1,1,1,0,0]) false := by kernel_rfl
theorem r45_12 {M : Mem} {call : CallM} {K : Array Value → Mem → R} :
    opsK Try.prog (fun _ => call) (O45 [1,0,0,1,1,1,1,1,1,1,1,1,1,1,0,0]) (O45 [1,0,0,1,1,1,1,1,1,1,1,1,1,1,0,0]).toList 0 #[g0,g1,g2,g3,g4,g5,g6,g7,g8,g9,g10,g11,g12,g13,g14,g15,g16,g17,g18,g19,g20,g21,g22,g23,g24,g25,g26,g27,g28,g29,g30,g31,g32,g33,g34,g35,g36,g37,g38,g39,g40,g41,g42,g43,g44,g45,g46,g47,g48,g49,g50,g51,g52,g53,g54,g55,g56] M K = K #[g0,g1,g2,g3,g4,g5,g6,g7,.int .i64 8192,g9,g10,g11,g12,g13,g14,g15,g16,g17,g18,g19,g20,g21,g22,g23,g24,g25,g26,g27,g28,g29,g30,g31,g32,g33,g34,g35,g36,g37,g38,g39,g40,g41,g42,g43,g44,g45,g46,g47,g48,g49,g50,g51,g52,g53,g54,g55,g56] M := by kernel_rfl
theorem k45_40 : P45 [1,0,0,1,1,1,1,1,1,1,1,1,1,1,0,1] = .ret := by kernel_rfl
theorem k45_41 : P45 [1,0,0,1,1,1,1,1,1,1,1,1,1,1,1] = .seq (P45 [1,0,0,1,1,1,1,1,1,1,1,1,1,1,1,0]) (P45 [1,0,0,1,1,1,1,1,1,1,1,1,1,1,1,1]) := by kernel_rfl
theorem k45_42 : P45 [1,0,0,1,1,1,1,1,1,1,1,1,1,1,1,0] = .region 13 (O45 [1,0,0,1,1,1,1,1,1,1,1,1,1,1,1,0]) false := by kernel_rfl
theorem r45_13 {x1 : Int} {M : Mem} {call : CallM} {K : Array Value → Mem → R} :
    opsK Try.prog (fun _ => call) (O45 [1,0,0,1,1,1,1,1,1,1,1,1,1,1,1,0]) (O45 [1,0,0,1,1,1,1,1,1,1,1,1,1,1,1,0]).toList 0 #[g0,.int .i64 x1,g2,g3,g4,g5,g6,g7,g8,g9,g10,g11,g12,g13,g14,g15,g16,g17,g18,g19,g20,g21,g22,g23,g24,g25,g26,g27,g28,g29,g30,g31,g32,g33,g34,g35,g36,g37,g38,g39,g40,g41,g42,g43,g44,g45,g46,g47,g48,g49,g50,g51,g52,g53,g54,g55,g56] M K = K #[g0,.int .i64 x1,g2,g3,g4,g5,g6,g7,g8,g9,g10,g11,g12,g13,g14,g15,g16,g17,g18,g19,g20,g21,g22,g23,g24,g25,g26,g27,g28,g29,g30,g31,g32,g33,g34,g35,g36,g37,g38,g39,g40,g41,g42,g43,g44,g45,g46,g47,g48,g49,g50,g51,g52,g53,.bool (x1 == 16),.int .i64 x1,.bool (x1 == 16)] M := by kernel_rfl
theorem c45_43 : P45 [1,0,0,1,1,1,1,1,1,1,1,1,1,1,1,1] = .cond (.tmp 54) (P45 [1,0,0,1,1,1,1,1,1,1,1,1,1,1,1,1,0]) (P45 [1,0,0,1,1,1,1,1,1,1,1,1,1,1,1,1,1]) := by kernel_rfl
theorem k45_44 : P45 [1,0,0,1,1,1,1,1,1,1,1,1,1,1,1,1,0] = .seq (P45 [1,0,0,1,1,1,1,1,1,1,1,1,1,1,1,1,0,0]) (P45 [1,0,0,1,1,1,1,1,1,1,1,1,1,1,1,1,0,1]) := by kernel_rfl
theorem k45_45 : P45 [1,0,0,1,1,1,1,1,1,1,1,1,1,1,1,1,0,0] = .region 14 (O45 [1,0,0,1,1,1,1,1,1,1,1,1,1,1,1,1,0,0]) false := by kernel_rfl
theorem r45_14 {M : Mem} {call : CallM} {K : Array Value → Mem → R} :
    opsK Try.prog (fun _ => call) (O45 [1,0,0,1,1,1,1,1,1,1,1,1,1,1,1,1,0,0]) (O45 [1,0,0,1,1,1,1,1,1,1,1,1,1,1,1,1,0,0]).toList 0 #[g0,g1,g2,g3,g4,g5,g6,g7,g8,g9,g10,g11,g12,g13,g14,g15,g16,g17,g18,g19,g20,g21,g22,g23,g24,g25,g26,g27,g28,g29,g30,g31,g32,g33,g34,g35,g36,g37,g38,g39,g40,g41,g42,g43,g44,g45,g46,g47,g48,g49,g50,g51,g52,g53,g54,g55,g56] M K = K #[g0,g1,g2,g3,g4,g5,g6,g7,.int .i64 11586,g9,g10,g11,g12,g13,g14,g15,g16,g17,g18,g19,g20,g21,g22,g23,g24,g25,g26,g27,g28,g29,g30,g31,g32,g33,g34,g35,g36,g37,g38,g39,g40,g41,g42,g43,g44,g45,g46,g47,g48,g49,g50,g51,g52,g53,g54,g55,g56] M := by kernel_rfl
theorem k45_46 : P45 [1,0,0,1,1,1,1,1,1,1,1,1,1,1,1,1,0,1] = .ret := by kernel_rfl
theorem k45_47 : P45 [1,0,0,1,1,1,1,1,1,1,1,1,1,1,1,1,1] = .skip := by kernel_rfl
theorem k45_48 : P45 [1,1] = .seq (P45 [1,1,0]) (P45 [1,1,1]) := by kernel_rfl
theorem k45_49 : P45 [1,1,0] = .region 15 (O45 [1,1,0]) false := by kernel_rfl
theorem r45_15 {M : Mem} {call : CallM} {K : Array Value → Mem → R} :
    opsK Try.prog (fun _ => call) (O45 [1,1,0]) (O45 [1,1,0]).toList 0 #[g0,g1,g2,g3,g4,g5,g6,g7,g8,g9,g10,g11,g12,g13,g14,g15,g16,g17,g18,g19,g20,g21,g22,g23,g24,g25,g26,g27,g28,g29,g30,g31,g32,g33,g34,g35,g36,g37,g38,g39,g40,g41,g42,g43,g44,g45,g46,g47,g48,g49,g50,g51,g52,g53,g54,g55,g56] M K = K #[g0,g1,g2,g3,g4,g5,g6,g7,.int .i64 16384,g9,g10,g11,g12,g13,g14,g15,g16,g17,g18,g19,g20,g21,g22,g23,g24,g25,g26,g27,g28,g29,g30,g31,g32,g33,g34,g35,g36,g37,g38,g39,g40,g41,g42,g43,g44,g45,g46,g47,g48,g49,g50,g51,g52,g53,g54,g55,g56] M := by kernel_rfl
theorem k45_50 : P45 [1,1,1] = .ret := by kernel_rfl
noncomputable def S45_1 : List Item := [.code (P45 [1,0,0,1,1,1]), .inBlock 0, .code (P45 [1,1])]
def A45_1 (x0 x1 x2 x3 : Int) (x24 : Bool) (M : Mem) (Q : Value → Mem → Prop) : Prop := ∀ (g4 g5 g6 g7 g8 g9 g10 g11 g12 g13 g14 g15 g16 g17 g18 g19 g20 g21 g22 g23 g25 g26 g27 g28 g29 g30 g31 g32 g33 g34 g35 g36 g37 g38 g39 g40 g41 g42 g43 g44 g45 g46 g47 g48 g49 g50 g51 g52 g53 g54 g55 g56 : Value), Rn Try.prog Try.f45 S45_1 #[.int .i64 x0, .int .i64 x1, .int .i64 x2, .int .i64 x3, g4, g5, g6, g7, g8, g9, g10, g11, g12, g13, g14, g15, g16, g17, g18, g19, g20, g21, g22, g23, .bool x24, g25, g26, g27, g28, g29, g30, g31, g32, g33, g34, g35, g36, g37, g38, g39, g40, g41, g42, g43, g44, g45, g46, g47, g48, g49, g50, g51, g52, g53, g54, g55, g56] M Q
theorem w45_0 {x0 x1 x2 x3 : Int} {M : Mem} {Q : Value → Mem → Prop} (H :
    ((x0 = 1 →
     ∃ v1', binV Try.prog .quo 3 3 (.int .i64 (IntKind.i64.wrap ((IntKind.i64.wrap ((IntKind.i64.wrap ((IntKind.i64.wrap (2 * x3)) + 1)) * (IntKind.i64.wrap ((IntKind.i64.wrap (2 * x2)) + 1)))) * 32))) (.int .i64 x1) = some v1' ∧
     ∃ x2', asI .i64 v1' = some x2' ∧
     Cn Try.prog 22 #[.int .i64 (IntKind.i64.wrap (64 - x2'))] M fun v3' N3' =>
      ∃ x4', asI .i64 v3' = some x4' ∧
      Q (.int .i64 (x4')) N3') ∧
     (x0 ≠ 1 →
     ((x0 = 0 →
      A45_1 x0 x1 x2 x3 (x2 == 0) M Q) ∧
      (x0 ≠ 0 →
      A45_1 x0 x1 x2 x3 false M Q))))) :
    Cn Try.prog 45 #[.int .i64 x0, .int .i64 x1, .int .i64 x2, .int .i64 x3] M Q := by
  refine Cn.of b45 d45 t45 ?_
  refine Rn.seq k45_0 (Rn.region k45_1 (fun call K => r45_0) (Rch.leaf (Rn.seq k45_2 (Rn.block k45_3 (Rn.seq k45_4 (Rn.region k45_5 (fun call K => r45_1) (Rch.leaf ?_)))))))
  refine Rn.cnd (v := x0 == 1) ⟨c45_6, rfl, by kernel_rfl⟩ (fun h => ?_) (fun h => ?_)
  · replace H := H.1 (eq_of_beq h)
    refine Rn.seq k45_7 (Rn.region k45_8 (fun call K => r45_2) (Rch.ex H fun v1' H => Rch.ex H fun x2' H => Rch.call H fun v3' N3' H => Rch.ex H fun x4' H => Rch.leaf ?_))
    exact Rn.ret k45_9 e45 H
  · replace H := H.2 (ne_of_beq_false h)
    refine Rn.seq k45_11 (Rn.region k45_12 (fun call K => r45_3) ?_)
    refine Rch.cB (fun h => ?_) (fun h => ?_)
    · replace H := H.1 (eq_of_beq h)
      refine Rch.leaf ?_
      exact H _ _ _ _ _ _ _ _ _ _ _ _ _ _ _ _ _ _ _ _ _ _ _ _ _ _ _ _ _ _ _ _ _ _ _ _ _ _ _ _ _ _ _ _ _ _ _ _ _ _ _ _
    · replace H := H.2 (ne_of_beq_false h)
      refine Rch.leaf ?_
      exact H _ _ _ _ _ _ _ _ _ _ _ _ _ _ _ _ _ _ _ _ _ _ _ _ _ _ _ _ _ _ _ _ _ _ _ _ _ _ _ _ _ _ _ _ _ _ _ _ _ _ _ _

theorem w45_1 {x0 x1 x2 x3 : Int} {x24 : Bool} {M : Mem} {Q : Value → Mem → Prop} (H :
    ((x24 = true →
     Cn Try.prog 22 #[.int .i64 32] M fun v5' N5' =>
      ∃ x6', asI .i64 v5' = some x6' ∧
      Q (.int .i64 (x6')) N5') ∧
     (x24 = false →
     ((x0 = 0 →
      ∃ v7', binV Try.prog .quo 3 3 (.int .i64 (IntKind.i64.wrap ((IntKind.i64.wrap ((IntKind.i64.wrap ((IntKind.i64.wrap (2 * x3)) + 1)) * x2)) * 64))) (.int .i64 x1) = some v7' ∧
      ∃ x8', asI .i64 v7' = some x8' ∧
      Cn Try.prog 22 #[.int .i64 x8'] M fun v9' N9' =>
       ∃ x10', asI .i64 v9' = some x10' ∧
       Q (.int .i64 (x10')) N9') ∧
      (x0 ≠ 0 →
      ((x2 ≠ x3 →
       Q (.int .i64 0) M) ∧
       (x2 = x3 →
       ((x1 = 4 →
        Q (.int .i64 5793) M) ∧
        (x1 ≠ 4 →
        ((x1 = 8 →
         Q (.int .i64 8192) M) ∧
         (x1 ≠ 8 →
         ((x1 = 16 →
          Q (.int .i64 11586) M) ∧
          (x1 ≠ 16 →
          Q (.int .i64 16384) M))))))))))))) :
    A45_1 x0 x1 x2 x3 x24 M Q := by
  intro g4 g5 g6 g7 g8 g9 g10 g11 g12 g13 g14 g15 g16 g17 g18 g19 g20 g21 g22 g23 g25 g26 g27 g28 g29 g30 g31 g32 g33 g34 g35 g36 g37 g38 g39 g40 g41 g42 g43 g44 g45 g46 g47 g48 g49 g50 g51 g52 g53 g54 g55 g56
  refine Rn.cnd (v := x24) ⟨c45_13, rfl, by kernel_rfl⟩ (fun h => ?_) (fun h => ?_)
  · replace H := H.1 (h)
    refine Rn.seq k45_14 (Rn.region k45_15 (fun call K => r45_4) (Rch.call H fun v5' N5' H => Rch.ex H fun x6' H => Rch.leaf ?_))
    exact Rn.ret k45_16 e45 H
  · replace H := H.2 (h)
    refine Rn.seq k45_17 (Rn.region k45_18 (fun call K => r45_5) (Rch.leaf ?_))
    refine Rn.cnd (v := x0 == 0) ⟨c45_19, rfl, by kernel_rfl⟩ (fun h => ?_) (fun h => ?_)
    · replace H := H.1 (eq_of_beq h)
      refine Rn.seq k45_20 (Rn.region k45_21 (fun call K => r45_6) (Rch.ex H fun v7' H => Rch.ex H fun x8' H => Rch.call H fun v9' N9' H => Rch.ex H fun x10' H => Rch.leaf ?_))
      exact Rn.ret k45_22 e45 H
    · replace H := H.2 (ne_of_beq_false h)
      refine Rn.seq k45_23 (Rn.region k45_24 (fun call K => r45_7) (Rch.leaf ?_))
      refine Rn.cnd (v := x2 != x3) ⟨c45_25, rfl, by kernel_rfl⟩ (fun h => ?_) (fun h => ?_)
      · replace H := H.1 (ne_of_bneT h)
        refine Rn.seq k45_26 (Rn.region k45_27 (fun call K => r45_8) (Rch.leaf ?_))
        exact Rn.ret k45_28 e45 H
      · replace H := H.2 (eq_of_bneF h)
        refine Rn.seq k45_29 (Rn.region k45_30 (fun call K => r45_9) (Rch.leaf ?_))
        refine Rn.cnd (v := x1 == 4) ⟨c45_31, rfl, by kernel_rfl⟩ (fun h => ?_) (fun h => ?_)
        · replace H := H.1 (eq_of_beq h)
          refine Rn.seq k45_32 (Rn.region k45_33 (fun call K => r45_10) (Rch.leaf ?_))
          exact Rn.ret k45_34 e45 H
        · replace H := H.2 (ne_of_beq_false h)
          refine Rn.seq k45_35 (Rn.region k45_36 (fun call K => r45_11) (Rch.leaf ?_))
          refine Rn.cnd (v := x1 == 8) ⟨c45_37, rfl, by kernel_rfl⟩ (fun h => ?_) (fun h => ?_)
          · replace H := H.1 (eq_of_beq h)
            refine Rn.seq k45_38 (Rn.region k45_39 (fun call K => r45_12) (Rch.leaf ?_))
            exact Rn.ret k45_40 e45 H
          · replace H := H.2 (ne_of_beq_false h)
            refine Rn.seq k45_41 (Rn.region k45_42 (fun call K => r45_13) (Rch.leaf ?_))
            refine Rn.cnd (v := x1 == 16) ⟨c45_43, rfl, by kernel_rfl⟩ (fun h => ?_) (fun h => ?_)
            · replace H := H.1 (eq_of_beq h)
              refine Rn.seq k45_44 (Rn.region k45_45 (fun call K => r45_14) (Rch.leaf ?_))
              exact Rn.ret k45_46 e45 H
            · replace H := H.2 (ne_of_beq_false h)
              refine Rn.skip k45_47 (Rn.blk (Rn.seq k45_48 (Rn.region k45_49 (fun call K => r45_15) (Rch.leaf ?_))))
              exact Rn.ret k45_50 e45 H


/-! ### zoetrope/zoetropelaw07.works: function 11 -/
noncomputable abbrev P11 (p : List Nat) : Code := subC (codeOf Try.f11) p
noncomputable abbrev O11 (p : List Nat) : Array Oper := opsOf (subC (codeOf Try.f11) p)
theorem b11 : Try.prog.funcs[11]? = some Try.f11 ∧ (Orc.tab Try.prog).lookup 11 = none := ⟨by kernel_rfl, by kernel_rfl⟩
theorem d11 : Try.f11.body = some (P11 []) := by kernel_rfl
theorem t11 : #[] ++ Array.replicate (Try.f11.ntmps - (#[] : Array Value).size) undef = #[undef,undef,undef,undef,undef,undef,undef,undef,undef,undef,undef,undef,undef,undef,undef,undef,undef,undef,undef,undef,undef,undef,undef,undef,undef,undef,undef,undef,undef,undef,undef,undef,undef,undef,undef,undef,undef,undef,undef,undef,undef,undef,undef,undef,undef,undef,undef,undef,undef,undef,undef,undef,undef,undef,undef,undef,undef,undef,undef,undef,undef,undef,undef] := by kernel_rfl
theorem k11_0 : P11 [] = .seq (P11 [0]) (P11 [1]) := by kernel_rfl
theorem k11_1 : P11 [0] = .region 0 (O11 [0]) false := by kernel_rfl
theorem r11_0 {M : Mem} {call : CallM} {K : Array Value → Mem → R} :
    opsK Try.prog (fun _ => call) (O11 [0]) (O11 [0]).toList 0 #[g0,g1,g2,g3,g4,g5,g6,g7,g8,g9,g10,g11,g12,g13,g14,g15,g16,g17,g18,g19,g20,g21,g22,g23,g24,g25,g26,g27,g28,g29,g30,g31,g32,g33,g34,g35,g36,g37,g38,g39,g40,g41,g42,g43,g44,g45,g46,g47,g48,g49,g50,g51,g52,g53,g54,g55,g56,g57,g58,g59,g60,g61,g62] M K = K #[.bool false,g1,g2,g3,g4,g5,g6,g7,g8,g9,g10,g11,g12,g13,g14,g15,g16,g17,g18,g19,g20,g21,g22,g23,g24,g25,g26,g27,g28,g29,g30,g31,g32,g33,g34,g35,g36,g37,g38,g39,g40,g41,g42,g43,g44,g45,g46,g47,g48,g49,g50,g51,g52,g53,g54,g55,g56,g57,g58,g59,g60,g61,g62] M := by kernel_rfl
theorem k11_2 : P11 [1] = .seq (P11 [1,0]) (P11 [1,1]) := by kernel_rfl
theorem k11_3 : P11 [1,0] = .region 1 (O11 [1,0]) false := by kernel_rfl
theorem r11_1 {M : Mem} {call : CallM} {K : Array Value → Mem → R} :
    opsK Try.prog (fun _ => call) (O11 [1,0]) (O11 [1,0]).toList 0 #[g0,g1,g2,g3,g4,g5,g6,g7,g8,g9,g10,g11,g12,g13,g14,g15,g16,g17,g18,g19,g20,g21,g22,g23,g24,g25,g26,g27,g28,g29,g30,g31,g32,g33,g34,g35,g36,g37,g38,g39,g40,g41,g42,g43,g44,g45,g46,g47,g48,g49,g50,g51,g52,g53,g54,g55,g56,g57,g58,g59,g60,g61,g62] M K = (call 14 #[.int .i64 0, .slice (some ⟨2 * M.nb.size, 0, none⟩) 4 4] (M.new (.cells #[.int .i64 0, .int .i64 4096, .int .i64 0, .int .i64 0] 3))).bind fun r_1 => (asU 2 r_1.1).bind fun cs_2 => (asS (cs_2.getD 0 undef)).bind fun s_3 => (asI .i64 (cs_2.getD 1 undef)).bind fun x_4 => K #[g0,.slice s_3.1 (s_3.2.1) (s_3.2.2),.int .i64 x_4,g3,g4,g5,g6,g7,g8,.tuple #[.slice s_3.1 (s_3.2.1) (s_3.2.2), .int .i64 x_4],.slice (some ⟨2 * M.nb.size, 0, none⟩) 4 4,.tuple #[.slice s_3.1 (s_3.2.1) (s_3.2.2), .int .i64 x_4],.slice s_3.1 (s_3.2.1) (s_3.2.2),.int .i64 x_4,g14,g15,g16,g17,g18,g19,g20,g21,g22,g23,g24,g25,g26,g27,g28,g29,g30,g31,g32,g33,g34,g35,g36,g37,g38,g39,g40,g41,g42,g43,g44,g45,g46,g47,g48,g49,g50,g51,g52,g53,g54,g55,g56,g57,g58,g59,g60,g61,g62] r_1.2 := by kernel_rfl
theorem k11_4 : P11 [1,1] = .seq (P11 [1,1,0]) (P11 [1,1,1]) := by kernel_rfl
theorem k11_5 : P11 [1,1,0] = .region 2 (O11 [1,1,0]) false := by kernel_rfl
theorem r11_2 {M : Mem} {call : CallM} {K : Array Value → Mem → R} :
    opsK Try.prog (fun _ => call) (O11 [1,1,0]) (O11 [1,1,0]).toList 0 #[g0,g1,g2,g3,g4,g5,g6,g7,g8,g9,g10,g11,g12,g13,g14,g15,g16,g17,g18,g19,g20,g21,g22,g23,g24,g25,g26,g27,g28,g29,g30,g31,g32,g33,g34,g35,g36,g37,g38,g39,g40,g41,g42,g43,g44,g45,g46,g47,g48,g49,g50,g51,g52,g53,g54,g55,g56,g57,g58,g59,g60,g61,g62] M K = (call 14 #[.int .i64 1, .slice (some ⟨2 * M.nb.size, 0, none⟩) 4 4] (M.new (.cells #[.int .i64 4096, .int .i64 0, .int .i64 0, .int .i64 0] 3))).bind fun r_1 => (asU 2 r_1.1).bind fun cs_2 => (asS (cs_2.getD 0 undef)).bind fun s_3 => (asI .i64 (cs_2.getD 1 undef)).bind fun x_4 => K #[g0,g1,g2,.slice s_3.1 (s_3.2.1) (s_3.2.2),.int .i64 x_4,g5,g6,g7,g8,g9,g10,g11,g12,g13,.tuple #[.slice s_3.1 (s_3.2.1) (s_3.2.2), .int .i64 x_4],.slice (some ⟨2 * M.nb.size, 0, none⟩) 4 4,.tuple #[.slice s_3.1 (s_3.2.1) (s_3.2.2), .int .i64 x_4],.slice s_3.1 (s_3.2.1) (s_3.2.2),.int .i64 x_4,g19,g20,g21,g22,g23,g24,g25,g26,g27,g28,g29,g30,g31,g32,g33,g34,g35,g36,g37,g38,g39,g40,g41,g42,g43,g44,g45,g46,g47,g48,g49,g50,g51,g52,g53,g54,g55,g56,g57,g58,g59,g60,g61,g62] r_1.2 := by kernel_rfl
theorem k11_6 : P11 [1,1,1] = .seq (P11 [1,1,1,0]) (P11 [1,1,1,1]) := by kernel_rfl
theorem k11_7 : P11 [1,1,1,0] = .region 3 (O11 [1,1,1,0]) false := by kernel_rfl
theorem r11_3 {M : Mem} {call : CallM} {K : Array Value → Mem → R} :
    opsK Try.prog (fun _ => call) (O11 [1,1,1,0]) (O11 [1,1,1,0]).toList 0 #[g0,g1,g2,g3,g4,g5,g6,g7,g8,g9,g10,g11,g12,g13,g14,g15,g16,g17,g18,g19,g20,g21,g22,g23,g24,g25,g26,g27,g28,g29,g30,g31,g32,g33,g34,g35,g36,g37,g38,g39,g40,g41,g42,g43,g44,g45,g46,g47,g48,g49,g50,g51,g52,g53,g54,g55,g56,g57,g58,g59,g60,g61,g62] M K = (call 13 #[.int .i64 3, .slice (some ⟨2 * M.nb.size, 0, none⟩) 4 4] (M.new (.cells #[.int .i64 1, .int .i64 2, .int .i64 3, .int .i64 4] 3))).bind fun r_1 => (asU 2 r_1.1).bind fun cs_2 => (asS (cs_2.getD 0 undef)).bind fun s_3 => (asI .i64 (cs_2.getD 1 undef)).bind fun x_4 => K #[g0,g1,g2,g3,g4,.slice s_3.1 (s_3.2.1) (s_3.2.2),.int .i64 x_4,g7,g8,g9,g10,g11,g12,g13,g14,g15,g16,g17,g18,.tuple #[.slice s_3.1 (s_3.2.1) (s_3.2.2), .int .i64 x_4],.slice (some ⟨2 * M.nb.size, 0, none⟩) 4 4,.tuple #[.slice s_3.1 (s_3.2.1) (s_3.2.2), .int .i64 x_4],.slice s_3.1 (s_3.2.1) (s_3.2.2),.int .i64 x_4,g24,g25,g26,g27,g28,g29,g30,g31,g32,g33,g34,g35,g36,g37,g38,g39,g40,g41,g42,g43,g44,g45,g46,g47,g48,g49,g50,g51,g52,g53,g54,g55,g56,g57,g58,g59,g60,g61,g62] r_1.2 := by kernel_rfl
theorem k11_8 : P11 [1,1,1,1] = .seq (P11 [1,1,1,1,0]) (P11 [1,1,1,1,1]) := by kernel_rfl
theorem k11_9 : P11 [1,1,1,1,0] = .region 4 (O11 [1,1,1,1,0]) false := by kernel_rfl
theorem r11_4 {M : Mem} {call : CallM} {K : Array Value → Mem → R} :
    opsK Try.prog (fun _ => call) (O11 [1,1,1,1,0]) (O11 [1,1,1,1,0]).toList 0 #[g0,g1,g2,g3,g4,g5,g6,g7,g8,g9,g10,g11,g12,g13,g14,g15,g16,g17,g18,g19,g20,g21,g22,g23,g24,g25,g26,g27,g28,g29,g30,g31,g32,g33,g34,g35,g36,g37,g38,g39,g40,g41,g42,g43,g44,g45,g46,g47,g48,g49,g50,g51,g52,g53,g54,g55,g56,g57,g58,g59,g60,g61,g62] M K = (call 13 #[.int .i64 2, .slice (some ⟨2 * M.nb.size, 0, none⟩) 8 8] (M.new (.cells #[.int .i64 5, .int .i64 5, .int .i64 5, .int .i64 5, .int .i64 5, .int .i64 5, .int .i64 5, .int .i64 5] 3))).bind fun r_1 => (asU 2 r_1.1).bind fun cs_2 => (asS (cs_2.getD 0 undef)).bind fun s_3 => (asI .i64 (cs_2.getD 1 undef)).bind fun x_4 => K #[g0,g1,g2,g3,g4,g5,g6,.slice s_3.1 (s_3.2.1) (s_3.2.2),.int .i64 x_4,g9,g10,g11,g12,g13,g14,g15,g16,g17,g18,g19,g20,g21,g22,g23,.tuple #[.slice s_3.1 (s_3.2.1) (s_3.2.2), .int .i64 x_4],.slice (some ⟨2 * M.nb.size, 0, none⟩) 8 8,.tuple #[.slice s_3.1 (s_3.2.1) (s_3.2.2), .int .i64 x_4],.slice s_3.1 (s_3.2.1) (s_3.2.2),.int .i64 x_4,g29,g30,g31,g32,g33,g34,g35,g36,g37,g38,g39,g40,g41,g42,g43,g44,g45,g46,g47,g48,g49,g50,g51,g52,g53,g54,g55,g56,g57,g58,g59,g60,g61,g62] r_1.2 := by kernel_rfl
theorem k11_10 : P11 [1,1,1,1,1] = .seq (P11 [1,1,1,1,1,0]) (P11 [1,1,1,1,1,1]) := by kernel_rfl
theorem k11_11 : P11 [1,1,1,1,1,0] = .region 5 (O11 [1,1,1,1,1,0]) false := by kernel_rfl
theorem k11_12 : P11 [1,1,1,1,1,0] = .region 5 (O11 [1,1,1,1,1,0]) false ∧ (!false || drawOk (O11 [1,1,1,1,1,0])) = true := ⟨by kernel_rfl, by kernel_rfl⟩
theorem r11_5p0 {x2 x4 : Int} {M : Mem} {call : CallM} {K : Array Value → Mem → R} :
    segK Try.prog false call (O11 [1,1,1,1,1,0]) 0 7 #[g0,g1,.int .i64 x2,g3,.int .i64 x4,g5,g6,g7,g8,g9,g10,g11,g12,g13,g14,g15,g16,g17,g18,g19,g20,g21,g22,g23,g24,g25,g26,g27,g28,g29,g30,g31,g32,g33,g34,g35,g36,g37,g38,g39,g40,g41,g42,g43,g44,g45,g46,g47,g48,g49,g50,g51,g52,g53,g54,g55,g56,g57,g58,g59,g60,g61,g62] M K = withK (fun w31 w32 w33 w34 w35 M => K #[g0,g1,.int .i64 x2,g3,.int .i64 x4,g5,g6,g7,g8,g9,g10,g11,g12,g13,g14,g15,g16,g17,g18,g19,g20,g21,g22,g23,g24,g25,g26,g27,g28,.int .i64 x2,.bool (x2 == 0),w31,w32,w33,w34,w35,g36,g37,g38,g39,g40,g41,g42,g43,g44,g45,g46,g47,g48,g49,g50,g51,g52,g53,g54,g55,g56,g57,g58,g59,g60,g61,g62] M) fun k => cond (x2 == 0) (k (.bool true) (.int .i64 x4) (.bool (x4 == 0)) (.bool (x4 == 0)) (.bool (x4 == 0)) M) (k (.bool false) undef undef (.bool false) (.bool false) M) := by kernel_rfl
theorem r11_5p7 {x6 : Int} {x35 : Bool} {M : Mem} {call : CallM} {K : Array Value → Mem → R} :
    segK Try.prog false call (O11 [1,1,1,1,1,0]) 7 4 #[g0,g1,g2,g3,g4,g5,.int .i64 x6,g7,g8,g9,g10,g11,g12,g13,g14,g15,g16,g17,g18,g19,g20,g21,g22,g23,g24,g25,g26,g27,g28,g29,g30,g31,g32,g33,g34,.bool x35,g36,g37,g38,g39,g40,g41,g42,g43,g44,g45,g46,g47,g48,g49,g50,g51,g52,g53,g54,g55,g56,g57,g58,g59,g60,g61,g62] M K = withK (fun w35 w36 w37 w38 w39 M => K #[g0,g1,g2,g3,g4,g5,.int .i64 x6,g7,g8,g9,g10,g11,g12,g13,g14,g15,g16,g17,g18,g19,g20,g21,g22,g23,g24,g25,g26,g27,g28,g29,g30,g31,g32,g33,g34,w35,w36,w37,w38,w39,g40,g41,g42,g43,g44,g45,g46,g47,g48,g49,g50,g51,g52,g53,g54,g55,g56,g57,g58,g59,g60,g61,g62] M) fun k => cond x35 (k (.bool true) (.int .i64 x6) (.bool (x6 == 0)) (.bool (x6 == 0)) (.bool (x6 == 0)) M) (k (.bool false) undef undef (.bool false) (.bool false) M) := by kernel_rfl
theorem r11_5p11 {x8 : Int} {x39 : Bool} {M : Mem} {call : CallM} {K : Array Value → Mem → R} :
    segK Try.prog false call (O11 [1,1,1,1,1,0]) 11 4 #[g0,g1,g2,g3,g4,g5,g6,g7,.int .i64 x8,g9,g10,g11,g12,g13,g14,g15,g16,g17,g18,g19,g20,g21,g22,g23,g24,g25,g26,g27,g28,g29,g30,g31,g32,g33,g34,g35,g36,g37,g38,.bool x39,g40,g41,g42,g43,g44,g45,g46,g47,g48,g49,g50,g51,g52,g53,g54,g55,g56,g57,g58,g59,g60,g61,g62] M K = withK (fun w39 w40 w41 w42 w43 M => K #[g0,g1,g2,g3,g4,g5,g6,g7,.int .i64 x8,g9,g10,g11,g12,g13,g14,g15,g16,g17,g18,g19,g20,g21,g22,g23,g24,g25,g26,g27,g28,g29,g30,g31,g32,g33,g34,g35,g36,g37,g38,w39,w40,w41,w42,w43,g44,g45,g46,g47,g48,g49,g50,g51,g52,g53,g54,g55,g56,g57,g58,g59,g60,g61,g62] M) fun k => cond x39 (k (.bool true) (.int .i64 x8) (.bool (x8 == 0)) (.bool (x8 == 0)) (.bool (x8 == 0)) M) (k (.bool false) undef undef (.bool false) (.bool false) M) := by kernel_rfl
theorem r11_5p15 {Ax1 : Option Addr} {lx1 cx1 : Nat} {x43 : Bool} {M : Mem} {call : CallM} {K : Array Value → Mem → R} :
    segK Try.prog false call (O11 [1,1,1,1,1,0]) 15 5 #[g0,.slice Ax1 lx1 cx1,g2,g3,g4,g5,g6,g7,g8,g9,g10,g11,g12,g13,g14,g15,g16,g17,g18,g19,g20,g21,g22,g23,g24,g25,g26,g27,g28,g29,g30,g31,g32,g33,g34,g35,g36,g37,g38,g39,g40,g41,g42,.bool x43,g44,g45,g46,g47,g48,g49,g50,g51,g52,g53,g54,g55,g56,g57,g58,g59,g60,g61,g62] M K = withK (fun w43 w44 w45 w46 w47 w48 M => K #[g0,.slice Ax1 lx1 cx1,g2,g3,g4,g5,g6,g7,g8,g9,g10,g11,g12,g13,g14,g15,g16,g17,g18,g19,g20,g21,g22,g23,g24,g25,g26,g27,g28,g29,g30,g31,g32,g33,g34,g35,g36,g37,g38,g39,g40,g41,g42,w43,w44,w45,w46,w47,w48,g49,g50,g51,g52,g53,g54,g55,g56,g57,g58,g59,g60,g61,g62] M) fun k => cond x43 ((call 15 #[.slice Ax1 lx1 cx1, .slice (some ⟨2 * M.nb.size, 0, none⟩) 4 4] (M.new (.cells #[.int .i64 3784, .int .i64 1567, .int .i64 (-1567), .int .i64 (-3784)] 3))).bind fun r_1 => (asB r_1.1).bind fun b_2 => k (.bool true) (.slice Ax1 lx1 cx1) (.slice (some ⟨2 * M.nb.size, 0, none⟩) 4 4) (.bool b_2) (.bool b_2) (.bool b_2) r_1.2) (k (.bool false) undef undef undef (.bool false) (.bool false) M) := by kernel_rfl
theorem r11_5p20 {Ax3 : Option Addr} {lx3 cx3 : Nat} {x48 : Bool} {M : Mem} {call : CallM} {K : Array Value → Mem → R} :
    segK Try.prog false call (O11 [1,1,1,1,1,0]) 20 5 #[g0,g1,g2,.slice Ax3 lx3 cx3,g4,g5,g6,g7,g8,g9,g10,g11,g12,g13,g14,g15,g16,g17,g18,g19,g20,g21,g22,g23,g24,g25,g26,g27,g28,g29,g30,g31,g32,g33,g34,g35,g36,g37,g38,g39,g40,g41,g42,g43,g44,g45,g46,g47,.bool x48,g49,g50,g51,g52,g53,g54,g55,g56,g57,g58,g59,g60,g61,g62] M K = withK (fun w48 w49 w50 w51 w52 w53 M => K #[g0,g1,g2,.slice Ax3 lx3 cx3,g4,g5,g6,g7,g8,g9,g10,g11,g12,g13,g14,g15,g16,g17,g18,g19,g20,g21,g22,g23,g24,g25,g26,g27,g28,g29,g30,g31,g32,g33,g34,g35,g36,g37,g38,g39,g40,g41,g42,g43,g44,g45,g46,g47,w48,w49,w50,w51,w52,w53,g54,g55,g56,g57,g58,g59,g60,g61,g62] M) fun k => cond x48 ((call 15 #[.slice Ax3 lx3 cx3, .slice (some ⟨2 * M.nb.size, 0, none⟩) 4 4] (M.new (.cells #[.int .i64 799, .int .i64 2276, .int .i64 3406, .int .i64 4017] 3))).bind fun r_1 => (asB r_1.1).bind fun b_2 => k (.bool true) (.slice Ax3 lx3 cx3) (.slice (some ⟨2 * M.nb.size, 0, none⟩) 4 4) (.bool b_2) (.bool b_2) (.bool b_2) r_1.2) (k (.bool false) undef undef undef (.bool false) (.bool false) M) := by kernel_rfl
theorem r11_5p25 {Ax5 : Option Addr} {lx5 cx5 : Nat} {x53 : Bool} {M : Mem} {call : CallM} {K : Array Value → Mem → R} :
    segK Try.prog false call (O11 [1,1,1,1,1,0]) 25 5 #[g0,g1,g2,g3,g4,.slice Ax5 lx5 cx5,g6,g7,g8,g9,g10,g11,g12,g13,g14,g15,g16,g17,g18,g19,g20,g21,g22,g23,g24,g25,g26,g27,g28,g29,g30,g31,g32,g33,g34,g35,g36,g37,g38,g39,g40,g41,g42,g43,g44,g45,g46,g47,g48,g49,g50,g51,g52,.bool x53,g54,g55,g56,g57,g58,g59,g60,g61,g62] M K = withK (fun w53 w54 w55 w56 w57 w58 M => K #[g0,g1,g2,g3,g4,.slice Ax5 lx5 cx5,g6,g7,g8,g9,g10,g11,g12,g13,g14,g15,g16,g17,g18,g19,g20,g21,g22,g23,g24,g25,g26,g27,g28,g29,g30,g31,g32,g33,g34,g35,g36,g37,g38,g39,g40,g41,g42,g43,g44,g45,g46,g47,g48,g49,g50,g51,g52,w53,w54,w55,w56,w57,w58,g59,g60,g61,g62] M) fun k => cond x53 ((call 15 #[.slice Ax5 lx5 cx5, .slice (some ⟨2 * M.nb.size, 0, none⟩) 4 4] (M.new (.cells #[.int .i64 5, .int .i64 (-2), .int .i64 0, .int .i64 (-1)] 3))).bind fun r_1 => (asB r_1.1).bind fun b_2 => k (.bool true) (.slice Ax5 lx5 cx5) (.slice (some ⟨2 * M.nb.size, 0, none⟩) 4 4) (.bool b_2) (.bool b_2) (.bool b_2) r_1.2) (k (.bool false) undef undef undef (.bool false) (.bool false) M) := by kernel_rfl
theorem r11_5p30 {Ax7 : Option Addr} {lx7 cx7 : Nat} {x58 : Bool} {M : Mem} {call : CallM} {K : Array Value → Mem → R} :
    segK Try.prog false call (O11 [1,1,1,1,1,0]) 30 5 #[g0,g1,g2,g3,g4,g5,g6,.slice Ax7 lx7 cx7,g8,g9,g10,g11,g12,g13,g14,g15,g16,g17,g18,g19,g20,g21,g22,g23,g24,g25,g26,g27,g28,g29,g30,g31,g32,g33,g34,g35,g36,g37,g38,g39,g40,g41,g42,g43,g44,g45,g46,g47,g48,g49,g50,g51,g52,g53,g54,g55,g56,g57,.bool x58,g59,g60,g61,g62] M K = withK (fun w0 w58 w59 w60 w61 w62 M => K #[w0,g1,g2,g3,g4,g5,g6,.slice Ax7 lx7 cx7,g8,g9,g10,g11,g12,g13,g14,g15,g16,g17,g18,g19,g20,g21,g22,g23,g24,g25,g26,g27,g28,g29,g30,g31,g32,g33,g34,g35,g36,g37,g38,g39,g40,g41,g42,g43,g44,g45,g46,g47,g48,g49,g50,g51,g52,g53,g54,g55,g56,g57,w58,w59,w60,w61,w62] M) fun k => cond x58 ((call 15 #[.slice Ax7 lx7 cx7, .slice (some ⟨2 * M.nb.size, 0, none⟩) 8 8] (M.new (.cells #[.int .i64 10, .int .i64 10, .int .i64 10, .int .i64 10, .int .i64 10, .int .i64 10, .int .i64 10, .int .i64 10] 3))).bind fun r_1 => (asB r_1.1).bind fun b_2 => k (.bool b_2) (.bool true) (.slice Ax7 lx7 cx7) (.slice (some ⟨2 * M.nb.size, 0, none⟩) 8 8) (.bool b_2) (.bool b_2) r_1.2) (k (.bool false) (.bool false) undef undef undef (.bool false) M) := by kernel_rfl
theorem k11_13 : P11 [1,1,1,1,1,1] = .ret := by kernel_rfl
theorem e11 {M : Mem} : finish Try.prog Try.f11 #[g0,g1,g2,g3,g4,g5,g6,g7,g8,g9,g10,g11,g12,g13,g14,g15,g16,g17,g18,g19,g20,g21,g22,g23,g24,g25,g26,g27,g28,g29,g30,g31,g32,g33,g34,g35,g36,g37,g38,g39,g40,g41,g42,g43,g44,g45,g46,g47,g48,g49,g50,g51,g52,g53,g54,g55,g56,g57,g58,g59,g60,g61,g62] M = some (g0, M) := by kernel_rfl
noncomputable def S11_1 : List Item := [.code (P11 [1,1,1,1,1,1])]
def A11_1 (Ax1 : Option Addr) (lx1 cx1 : Nat) (Ax3 : Option Addr) (lx3 cx3 : Nat) (Ax5 : Option Addr) (lx5 cx5 : Nat) (x6 : Int) (Ax7 : Option Addr) (lx7 cx7 : Nat) (x8 : Int) (x35 : Bool) (M : Mem) (Q : Value → Mem → Prop) : Prop := ∀ (g0 g2 g4 g9 g10 g11 g12 g13 g14 g15 g16 g17 g18 g19 g20 g21 g22 g23 g24 g25 g26 g27 g28 g29 g30 g31 g32 g33 g34 g36 g37 g38 g39 g40 g41 g42 g43 g44 g45 g46 g47 g48 g49 g50 g51 g52 g53 g54 g55 g56 g57 g58 g59 g60 g61 g62 : Value), Rg Try.prog Try.f11 (O11 [1,1,1,1,1,0]) false 7 S11_1 #[g0, .slice Ax1 lx1 cx1, g2, .slice Ax3 lx3 cx3, g4, .slice Ax5 lx5 cx5, .int .i64 x6, .slice Ax7 lx7 cx7, .int .i64 x8, g9, g10, g11, g12, g13, g14, g15, g16, g17, g18, g19, g20, g21, g22, g23, g24, g25, g26, g27, g28, g29, g30, g31, g32, g33, g34, .bool x35, g36, g37, g38, g39, g40, g41, g42, g43, g44, g45, g46, g47, g48, g49, g50, g51, g52, g53, g54, g55, g56, g57, g58, g59, g60, g61, g62] M Q
noncomputable def S11_2 : List Item := [.code (P11 [1,1,1,1,1,1])]
def A11_2 (Ax1 : Option Addr) (lx1 cx1 : Nat) (Ax3 : Option Addr) (lx3 cx3 : Nat) (Ax5 : Option Addr) (lx5 cx5 : Nat) (Ax7 : Option Addr) (lx7 cx7 : Nat) (x8 : Int) (x39 : Bool) (M : Mem) (Q : Value → Mem → Prop) : Prop := ∀ (g0 g2 g4 g6 g9 g10 g11 g12 g13 g14 g15 g16 g17 g18 g19 g20 g21 g22 g23 g24 g25 g26 g27 g28 g29 g30 g31 g32 g33 g34 g35 g36 g37 g38 g40 g41 g42 g43 g44 g45 g46 g47 g48 g49 g50 g51 g52 g53 g54 g55 g56 g57 g58 g59 g60 g61 g62 : Value), Rg Try.prog Try.f11 (O11 [1,1,1,1,1,0]) false 11 S11_2 #[g0, .slice Ax1 lx1 cx1, g2, .slice Ax3 lx3 cx3, g4, .slice Ax5 lx5 cx5, g6, .slice Ax7 lx7 cx7, .int .i64 x8, g9, g10, g11, g12, g13, g14, g15, g16, g17, g18, g19, g20, g21, g22, g23, g24, g25, g26, g27, g28, g29, g30, g31, g32, g33, g34, g35, g36, g37, g38, .bool x39, g40, g41, g42, g43, g44, g45, g46, g47, g48, g49, g50, g51, g52, g53, g54, g55, g56, g57, g58, g59, g60, g61, g62] M Q
noncomputable def S11_3 : List Item := [.code (P11 [1,1,1,1,1,1])]
def A11_3 (Ax1 : Option Addr) (lx1 cx1 : Nat) (Ax3 : Option Addr) (lx3 cx3 : Nat) (Ax5 : Option Addr) (lx5 cx5 : Nat) (Ax7 : Option Addr) (lx7 cx7 : Nat) (x43 : Bool) (M : Mem) (Q : Value → Mem → Prop) : Prop := ∀ (g0 g2 g4 g6 g8 g9 g10 g11 g12 g13 g14 g15 g16 g17 g18 g19 g20 g21 g22 g23 g24 g25 g26 g27 g28 g29 g30 g31 g32 g33 g34 g35 g36 g37 g38 g39 g40 g41 g42 g44 g45 g46 g47 g48 g49 g50 g51 g52 g53 g54 g55 g56 g57 g58 g59 g60 g61 g62 : Value), Rg Try.prog Try.f11 (O11 [1,1,1,1,1,0]) false 15 S11_3 #[g0, .slice Ax1 lx1 cx1, g2, .slice Ax3 lx3 cx3, g4, .slice Ax5 lx5 cx5, g6, .slice Ax7 lx7 cx7, g8, g9, g10, g11, g12, g13, g14, g15, g16, g17, g18, g19, g20, g21, g22, g23, g24, g25, g26, g27, g28, g29, g30, g31, g32, g33, g34, g35, g36, g37, g38, g39, g40, g41, g42, .bool x43, g44, g45, g46, g47, g48, g49, g50, g51, g52, g53, g54, g55, g56, g57, g58, g59, g60, g61, g62] M Q
noncomputable def S11_4 : List Item := [.code (P11 [1,1,1,1,1,1])]
def A11_4 (Ax3 : Option Addr) (lx3 cx3 : Nat) (Ax5 : Option Addr) (lx5 cx5 : Nat) (Ax7 : Option Addr) (lx7 cx7 : Nat) (x48 : Bool) (M : Mem) (Q : Value → Mem → Prop) : Prop := ∀ (g0 g1 g2 g4 g6 g8 g9 g10 g11 g12 g13 g14 g15 g16 g17 g18 g19 g20 g21 g22 g23 g24 g25 g26 g27 g28 g29 g30 g31 g32 g33 g34 g35 g36 g37 g38 g39 g40 g41 g42 g43 g44 g45 g46 g47 g49 g50 g51 g52 g53 g54 g55 g56 g57 g58 g59 g60 g61 g62 : Value), Rg Try.prog Try.f11 (O11 [1,1,1,1,1,0]) false 20 S11_4 #[g0, g1, g2, .slice Ax3 lx3 cx3, g4, .slice Ax5 lx5 cx5, g6, .slice Ax7 lx7 cx7, g8, g9, g10, g11, g12, g13, g14, g15, g16, g17, g18, g19, g20, g21, g22, g23, g24, g25, g26, g27, g28, g29, g30, g31, g32, g33, g34, g35, g36, g37, g38, g39, g40, g41, g42, g43, g44, g45, g46, g47, .bool x48, g49, g50, g51, g52, g53, g54, g55, g56, g57, g58, g59, g60, g61, g62] M Q
noncomputable def S11_5 : List Item := [.code (P11 [1,1,1,1,1,1])]
def A11_5 (Ax5 : Option Addr) (lx5 cx5 : Nat) (Ax7 : Option Addr) (lx7 cx7 : Nat) (x53 : Bool) (M : Mem) (Q : Value → Mem → Prop) : Prop := ∀ (g0 g1 g2 g3 g4 g6 g8 g9 g10 g11 g12 g13 g14 g15 g16 g17 g18 g19 g20 g21 g22 g23 g24 g25 g26 g27 g28 g29 g30 g31 g32 g33 g34 g35 g36 g37 g38 g39 g40 g41 g42 g43 g44 g45 g46 g47 g48 g49 g50 g51 g52 g54 g55 g56 g57 g58 g59 g60 g61 g62 : Value), Rg Try.prog Try.f11 (O11 [1,1,1,1,1,0]) false 25 S11_5 #[g0, g1, g2, g3, g4, .slice Ax5 lx5 cx5, g6, .slice Ax7 lx7 cx7, g8, g9, g10, g11, g12, g13, g14, g15, g16, g17, g18, g19, g20, g21, g22, g23, g24, g25, g26, g27, g28, g29, g30, g31, g32, g33, g34, g35, g36, g37, g38, g39, g40, g41, g42, g43, g44, g45, g46, g47, g48, g49, g50, g51, g52, .bool x53, g54, g55, g56, g57, g58, g59, g60, g61, g62] M Q
noncomputable def S11_6 : List Item := [.code (P11 [1,1,1,1,1,1])]
def A11_6 (Ax7 : Option Addr) (lx7 cx7 : Nat) (x58 : Bool) (M : Mem) (Q : Value → Mem → Prop) : Prop := ∀ (g0 g1 g2 g3 g4 g5 g6 g8 g9 g10 g11 g12 g13 g14 g15 g16 g17 g18 g19 g20 g21 g22 g23 g24 g25 g26 g27 g28 g29 g30 g31 g32 g33 g34 g35 g36 g37 g38 g39 g40 g41 g42 g43 g44 g45 g46 g47 g48 g49 g50 g51 g52 g53 g54 g55 g56 g57 g59 g60 g61 g62 : Value), Rg Try.prog Try.f11 (O11 [1,1,1,1,1,0]) false 30 S11_6 #[g0, g1, g2, g3, g4, g5, g6, .slice Ax7 lx7 cx7, g8, g9, g10, g11, g12, g13, g14, g15, g16, g17, g18, g19, g20, g21, g22, g23, g24, g25, g26, g27, g28, g29, g30, g31, g32, g33, g34, g35, g36, g37, g38, g39, g40, g41, g42, g43, g44, g45, g46, g47, g48, g49, g50, g51, g52, g53, g54, g55, g56, g57, .bool x58, g59, g60, g61, g62] M Q
theorem w11_0 {M : Mem} {Q : Value → Mem → Prop} (H :
    Cn Try.prog 14 #[.int .i64 0, .slice (some ⟨2 * M.nb.size, 0, none⟩) 4 4] (M.new (.cells #[.int .i64 0, .int .i64 4096, .int .i64 0, .int .i64 0] 3)) fun v1' N1' =>
     ∃ cs2', asU 2 v1' = some cs2' ∧
     ∃ s3', asS (cs2'.getD 0 undef) = some s3' ∧
     ∃ x4', asI .i64 (cs2'.getD 1 undef) = some x4' ∧
     Cn Try.prog 14 #[.int .i64 1, .slice (some ⟨2 * N1'.nb.size, 0, none⟩) 4 4] (N1'.new (.cells #[.int .i64 4096, .int .i64 0, .int .i64 0, .int .i64 0] 3)) fun v5' N5' =>
      ∃ cs6', asU 2 v5' = some cs6' ∧
      ∃ s7', asS (cs6'.getD 0 undef) = some s7' ∧
      ∃ x8', asI .i64 (cs6'.getD 1 undef) = some x8' ∧
      Cn Try.prog 13 #[.int .i64 3, .slice (some ⟨2 * N5'.nb.size, 0, none⟩) 4 4] (N5'.new (.cells #[.int .i64 1, .int .i64 2, .int .i64 3, .int .i64 4] 3)) fun v9' N9' =>
       ∃ cs10', asU 2 v9' = some cs10' ∧
       ∃ s11', asS (cs10'.getD 0 undef) = some s11' ∧
       ∃ x12', asI .i64 (cs10'.getD 1 undef) = some x12' ∧
       Cn Try.prog 13 #[.int .i64 2, .slice (some ⟨2 * N9'.nb.size, 0, none⟩) 8 8] (N9'.new (.cells #[.int .i64 5, .int .i64 5, .int .i64 5, .int .i64 5, .int .i64 5, .int .i64 5, .int .i64 5, .int .i64 5] 3)) fun v13' N13' =>
        ∃ cs14', asU 2 v13' = some cs14' ∧
        ∃ s15', asS (cs14'.getD 0 undef) = some s15' ∧
        ∃ x16', asI .i64 (cs14'.getD 1 undef) = some x16' ∧
        ((x4' = 0 →
         A11_1 s3'.1 s3'.2.1 s3'.2.2 s7'.1 s7'.2.1 s7'.2.2 s11'.1 s11'.2.1 s11'.2.2 x12' s15'.1 s15'.2.1 s15'.2.2 x16' (x8' == 0) N13' Q) ∧
         (x4' ≠ 0 →
         A11_1 s3'.1 s3'.2.1 s3'.2.2 s7'.1 s7'.2.1 s7'.2.2 s11'.1 s11'.2.1 s11'.2.2 x12' s15'.1 s15'.2.1 s15'.2.2 x16' false N13' Q))) :
    Cn Try.prog 11 #[] M Q := by
  refine Cn.of b11 d11 t11 ?_
  refine Rn.seq k11_0 (Rn.region k11_1 (fun call K => r11_0) (Rch.leaf (Rn.seq k11_2 (Rn.region k11_3 (fun call K => r11_1) (Rch.call H fun v1' N1' H => Rch.ex H fun cs2' H => Rch.ex H fun s3' H => Rch.ex H fun x4' H => Rch.leaf (Rn.seq k11_4 (Rn.region k11_5 (fun call K => r11_2) ?_)))))))
  refine Rch.call H fun v5' N5' H => Rch.ex H fun cs6' H => Rch.ex H fun s7' H => Rch.ex H fun x8' H => Rch.leaf (Rn.seq k11_6 (Rn.region k11_7 (fun call K => r11_3) (Rch.call H fun v9' N9' H => Rch.ex H fun cs10' H => Rch.ex H fun s11' H => Rch.ex H fun x12' H => Rch.leaf ?_)))
  refine Rn.seq k11_8 (Rn.region k11_9 (fun call K => r11_4) (Rch.call H fun v13' N13' H => Rch.ex H fun cs14' H => Rch.ex H fun s15' H => Rch.ex H fun x16' H => Rch.leaf (Rn.seq k11_10 (Rn.regionC k11_12 (Rg.step (d := 7) (j := 7) (fun call K => r11_5p0) rfl rfl ?_)))))
  refine Rch.cB (fun h => ?_) (fun h => ?_)
  · replace H := H.1 (eq_of_beq h)
    refine Rch.rest ?_
    exact H _ _ _ _ _ _ _ _ _ _ _ _ _ _ _ _ _ _ _ _ _ _ _ _ _ _ _ _ _ _ _ _ _ _ _ _ _ _ _ _ _ _ _ _ _ _ _ _ _ _ _ _ _ _ _ _
  · replace H := H.2 (ne_of_beq_false h)
    refine Rch.rest ?_
    exact H _ _ _ _ _ _ _ _ _ _ _ _ _ _ _ _ _ _ _ _ _ _ _ _ _ _ _ _ _ _ _ _ _ _ _ _ _ _ _ _ _ _ _ _ _ _ _ _ _ _ _ _ _ _ _ _

theorem w11_1 {Ax1 : Option Addr} {lx1 cx1 : Nat} {Ax3 : Option Addr} {lx3 cx3 : Nat} {Ax5 : Option Addr} {lx5 cx5 : Nat} {x6 : Int} {Ax7 : Option Addr} {lx7 cx7 : Nat} {x8 : Int} {x35 : Bool} {M : Mem} {Q : Value → Mem → Prop} (H :
    ((x35 = true →
     A11_2 Ax1 lx1 cx1 Ax3 lx3 cx3 Ax5 lx5 cx5 Ax7 lx7 cx7 x8 (x6 == 0) M Q) ∧
     (x35 = false →
     A11_2 Ax1 lx1 cx1 Ax3 lx3 cx3 Ax5 lx5 cx5 Ax7 lx7 cx7 x8 false M Q))) :
    A11_1 Ax1 lx1 cx1 Ax3 lx3 cx3 Ax5 lx5 cx5 x6 Ax7 lx7 cx7 x8 x35 M Q := by
  intro g0 g2 g4 g9 g10 g11 g12 g13 g14 g15 g16 g17 g18 g19 g20 g21 g22 g23 g24 g25 g26 g27 g28 g29 g30 g31 g32 g33 g34 g36 g37 g38 g39 g40 g41 g42 g43 g44 g45 g46 g47 g48 g49 g50 g51 g52 g53 g54 g55 g56 g57 g58 g59 g60 g61 g62
  refine Rg.step (d := 4) (j := 11) (fun call K => r11_5p7) rfl rfl ?_
  refine Rch.cB (fun h => ?_) (fun h => ?_)
  · replace H := H.1 (h)
    refine Rch.rest ?_
    exact H _ _ _ _ _ _ _ _ _ _ _ _ _ _ _ _ _ _ _ _ _ _ _ _ _ _ _ _ _ _ _ _ _ _ _ _ _ _ _ _ _ _ _ _ _ _ _ _ _ _ _ _ _ _ _ _ _
  · replace H := H.2 (h)
    refine Rch.rest ?_
    exact H _ _ _ _ _ _ _ _ _ _ _ _ _ _ _ _ _ _ _ _ _ _ _ _ _ _ _ _ _ _ _ _ _ _ _ _ _ _ _ _ _ _ _ _ _ _ _ _ _ _ _ _ _ _ _ _ _

theorem w11_2 {Ax1 : Option Addr} {lx1 cx1 : Nat} {Ax3 : Option Addr} {lx3 cx3 : Nat} {Ax5 : Option Addr} {lx5 cx5 : Nat} {Ax7 : Option Addr} {lx7 cx7 : Nat} {x8 : Int} {x39 : Bool} {M : Mem} {Q : Value → Mem → Prop} (H :
    ((x39 = true →
     A11_3 Ax1 lx1 cx1 Ax3 lx3 cx3 Ax5 lx5 cx5 Ax7 lx7 cx7 (x8 == 0) M Q) ∧
     (x39 = false →
     A11_3 Ax1 lx1 cx1 Ax3 lx3 cx3 Ax5 lx5 cx5 Ax7 lx7 cx7 false M Q))) :
    A11_2 Ax1 lx1 cx1 Ax3 lx3 cx3 Ax5 lx5 cx5 Ax7 lx7 cx7 x8 x39 M Q := by
  intro g0 g2 g4 g6 g9 g10 g11 g12 g13 g14 g15 g16 g17 g18 g19 g20 g21 g22 g23 g24 g25 g26 g27 g28 g29 g30 g31 g32 g33 g34 g35 g36 g37 g38 g40 g41 g42 g43 g44 g45 g46 g47 g48 g49 g50 g51 g52 g53 g54 g55 g56 g57 g58 g59 g60 g61 g62
  refine Rg.step (d := 4) (j := 15) (fun call K => r11_5p11) rfl rfl ?_
  refine Rch.cB (fun h => ?_) (fun h => ?_)
  · replace H := H.1 (h)
    refine Rch.rest ?_
    exact H _ _ _ _ _ _ _ _ _ _ _ _ _ _ _ _ _ _ _ _ _ _ _ _ _ _ _ _ _ _ _ _ _ _ _ _ _ _ _ _ _ _ _ _ _ _ _ _ _ _ _ _ _ _ _ _ _ _
  · replace H := H.2 (h)
    refine Rch.rest ?_
    exact H _ _ _ _ _ _ _ _ _ _ _ _ _ _ _ _ _ _ _ _ _ _ _ _ _ _ _ _ _ _ _ _ _ _ _ _ _ _ _ _ _ _ _ _ _ _ _ _ _ _ _ _ _ _ _ _ _ _

theorem w11_3 {Ax1 : Option Addr} {lx1 cx1 : Nat} {Ax3 : Option Addr} {lx3 cx3 : Nat} {Ax5 : Option Addr} {lx5 cx5 : Nat} {Ax7 : Option Addr} {lx7 cx7 : Nat} {x43 : Bool} {M : Mem} {Q : Value → Mem → Prop} (H :
    ((x43 = true →
     Cn Try.prog 15 #[.slice Ax1 lx1 cx1, .slice (some ⟨2 * M.nb.size, 0, none⟩) 4 4] (M.new (.cells #[.int .i64 3784, .int .i64 1567, .int .i64 (-1567), .int .i64 (-3784)] 3)) fun v17' N17' =>
      ∃ b18', asB v17' = some b18' ∧
      A11_4 Ax3 lx3 cx3 Ax5 lx5 cx5 Ax7 lx7 cx7 b18' N17' Q) ∧
     (x43 = false →
     A11_4 Ax3 lx3 cx3 Ax5 lx5 cx5 Ax7 lx7 cx7 false M Q))) :
    A11_3 Ax1 lx1 cx1 Ax3 lx3 cx3 Ax5 lx5 cx5 Ax7 lx7 cx7 x43 M Q := by
  intro g0 g2 g4 g6 g8 g9 g10 g11 g12 g13 g14 g15 g16 g17 g18 g19 g20 g21 g22 g23 g24 g25 g26 g27 g28 g29 g30 g31 g32 g33 g34 g35 g36 g37 g38 g39 g40 g41 g42 g44 g45 g46 g47 g48 g49 g50 g51 g52 g53 g54 g55 g56 g57 g58 g59 g60 g61 g62
  refine Rg.step (d := 5) (j := 20) (fun call K => r11_5p15) rfl rfl ?_
  refine Rch.cB (fun h => ?_) (fun h => ?_)
  · replace H := H.1 (h)
    refine Rch.call H fun v17' N17' H => Rch.ex H fun b18' H => Rch.rest ?_
    exact H _ _ _ _ _ _ _ _ _ _ _ _ _ _ _ _ _ _ _ _ _ _ _ _ _ _ _ _ _ _ _ _ _ _ _ _ _ _ _ _ _ _ _ _ _ _ _ _ _ _ _ _ _ _ _ _ _ _ _
  · replace H := H.2 (h)
    refine Rch.rest ?_
    exact H _ _ _ _ _ _ _ _ _ _ _ _ _ _ _ _ _ _ _ _ _ _ _ _ _ _ _ _ _ _ _ _ _ _ _ _ _ _ _ _ _ _ _ _ _ _ _ _ _ _ _ _ _ _ _ _ _ _ _

theorem w11_4 {Ax3 : Option Addr} {lx3 cx3 : Nat} {Ax5 : Option Addr} {lx5 cx5 : Nat} {Ax7 : Option Addr} {lx7 cx7 : Nat} {x48 : Bool} {M : Mem} {Q : Value → Mem → Prop} (H :
    ((x48 = true →
     Cn Try.prog 15 #[.slice Ax3 lx3 cx3, .slice (some ⟨2 * M.nb.size, 0, none⟩) 4 4] (M.new (.cells #[.int .i64 799, .int .i64 2276, .int .i64 3406, .int .i64 4017] 3)) fun v19' N19' =>
      ∃ b20', asB v19' = some b20' ∧
      A11_5 Ax5 lx5 cx5 Ax7 lx7 cx7 b20' N19' Q) ∧
     (x48 = false →
     A11_5 Ax5 lx5 cx5 Ax7 lx7 cx7 false M Q))) :
    A11_4 Ax3 lx3 cx3 Ax5 lx5 cx5 Ax7 lx7 cx7 x48 M Q := by
  intro g0 g1 g2 g4 g6 g8 g9 g10 g11 g12 g13 g14 g15 g16 g17 g18 g19 g20 g21 g22 g23 g24 g25 g26 g27 g28 g29 g30 g31 g32 g33 g34 g35 g36 g37 g38 g39 g40 g41 g42 g43 g44 g45 g46 g47 g49 g50 g51 g52 g53 g54 g55 g56 g57 g58 g59 g60 g61 g62
  refine Rg.step (d := 5) (j := 25) (fun call K => r11_5p20) rfl rfl ?_
  refine Rch.cB (fun h => ?_) (fun h => ?_)
  · replace H := H.1 (h)
    refine Rch.call H fun v19' N19' H => Rch.ex H fun b20' H => Rch.rest ?_
    exact H _ _ _ _ _ _ _ _ _ _ _ _ _ _ _ _ _ _ _ _ _ _ _ _ _ _ _ _ _ _ _ _ _ _ _ _ _ _ _ _ _ _ _ _ _ _ _ _ _ _ _ _ _ _ _ _ _ _ _ _
  · replace H := H.2 (h)
    refine Rch.rest ?_
    exact H _ _ _ _ _ _ _ _ _ _ _ _ _ _ _ _ _ _ _ _ _ _ _ _ _ _ _ _ _ _ _ _ _ _ _ _ _ _ _ _ _ _ _ _ _ _ _ _ _ _ _ _ _ _ _ _ _ _ _ _

theorem w11_5 {Ax5 : Option Addr} {lx5 cx5 : Nat} {Ax7 : Option Addr} {lx7 cx7 : Nat} {x53 : Bool} {M : Mem} {Q : Value → Mem → Prop} (H :
    ((x53 = true →
     Cn Try.prog 15 #[.slice Ax5 lx5 cx5, .slice (some ⟨2 * M.nb.size, 0, none⟩) 4 4] (M.new (.cells #[.int .i64 5, .int .i64 (-2), .int .i64 0, .int .i64 (-1)] 3)) fun v21' N21' =>
      ∃ b22', asB v21' = some b22' ∧
      A11_6 Ax7 lx7 cx7 b22' N21' Q) ∧
     (x53 = false →
     A11_6 Ax7 lx7 cx7 false M Q))) :
    A11_5 Ax5 lx5 cx5 Ax7 lx7 cx7 x53 M Q := by
  intro g0 g1 g2 g3 g4 g6 g8 g9 g10 g11 g12 g13 g14 g15 g16 g17 g18 g19 g20 g21 g22 g23 g24 g25 g26 g27 g28 g29 g30 g31 g32 g33 g34 g35 g36 g37 g38 g39 g40 g41 g42 g43 g44 g45 g46 g47 g48 g49 g50 g51 g52 g54 g55 g56 g57 g58 g59 g60 g61 g62
  refine Rg.step (d := 5) (j := 30) (fun call K => r11_5p25) rfl rfl ?_
  refine Rch.cB (fun h => ?_) (fun h => ?_)
  · replace H := H.1 (h)
    refine Rch.call H fun v21' N21' H => Rch.ex H fun b22' H => Rch.rest ?_
    exact H _ _ _ _ _ _ _ _ _ _ _ _ _ _ _ _ _ _ _ _ _ _ _ _ _ _ _ _ _ _ _ _ _ _ _ _ _ _ _ _ _ _ _ _ _ _ _ _ _ _ _ _ _ _ _ _ _ _ _ _ _
  · replace H := H.2 (h)
    refine Rch.rest ?_
    exact H _ _ _ _ _ _ _ _ _ _ _ _ _ _ _ _ _ _ _ _ _ _ _ _ _ _ _ _ _ _ _ _ _ _ _ _ _ _ _ _ _ _ _ _ _ _ _ _ _ _ _ _ _ _ _ _ _ _ _ _ _

theorem w11_6 {Ax7 : Option Addr} {lx7 cx7 : Nat} {x58 : Bool} {M : Mem} {Q : Value → Mem → Prop} (H :
    ((x58 = true →
     Cn Try.prog 15 #[.slice Ax7 lx7 cx7, .slice (some ⟨2 * M.nb.size, 0, none⟩) 8 8] (M.new (.cells #[.int .i64 10, .int .i64 10, .int .i64 10, .int .i64 10, .int .i64 10, .int .i64 10, .int .i64 10, .int .i64 10] 3)) fun v23' N23' =>
      ∃ b24', asB v23' = some b24' ∧
      Q (.bool b24') N23') ∧
     (x58 = false →
     Q (.bool false) M))) :
    A11_6 Ax7 lx7 cx7 x58 M Q := by
  intro g0 g1 g2 g3 g4 g5 g6 g8 g9 g10 g11 g12 g13 g14 g15 g16 g17 g18 g19 g20 g21 g22 g23 g24 g25 g26 g27 g28 g29 g30 g31 g32 g33 g34 g35 g36 g37 g38 g39 g40 g41 g42 g43 g44 g45 g46 g47 g48 g49 g50 g51 g52 g53 g54 g55 g56 g57 g59 g60 g61 g62
  refine Rg.step (d := 5) (j := 35) (fun call K => r11_5p30) rfl rfl ?_
  refine Rch.cB (fun h => ?_) (fun h => ?_)
  · replace H := H.1 (h)
    refine Rch.call H fun v23' N23' H => Rch.ex H fun b24' H => Rch.rest (Rg.done rfl ?_)
    exact Rn.ret k11_13 e11 H
  · replace H := H.2 (h)
    refine Rch.rest (Rg.done rfl ?_)
    exact Rn.ret k11_13 e11 H


end Go.Zt
