/- The functions' walks: for each function and each loop a rule of what it comes to. Printed by zw.py. -/
import Derived.Test.YtbbdggpfhcgbpaaProg
import Derived.Test.YtbbdggpfhcgbpaaZcA
set_option linter.unusedVariables false
set_option maxRecDepth 100000
namespace Go.Zt
open Go Go.Sim Go.Proofs

variable {g0 g1 g2 g3 g4 g5 g6 g7 g8 g9 g10 g11 g12 g13 g14 g15 g16 g17 g18 g19 g20 g21 g22 g23 g24 g25 g26 g27 g28 g29 g30 g31 g32 g33 g34 g35 g36 g37 g38 g39 g40 g41 g42 g43 g44 g45 g46 g47 g48 g49 g50 g51 g52 g53 g54 g55 g56 g57 g58 g59 g60 g61 g62 g63 g64 g65 g66 g67 : Value}
def str0 : ByteArray := ⟨#[0, 1, 2, 2, 3, 3, 3, 3, 4, 4, 4, 4, 4, 4, 4, 4, 5, 5, 5, 5, 5, 5, 5, 5, 5, 5, 5, 5, 5, 5, 5, 5, 6, 6, 6, 6, 6, 6, 6, 6, 6, 6, 6, 6, 6, 6, 6, 6, 6, 6, 6, 6, 6, 6, 6, 6, 6, 6, 6, 6, 6, 6, 6, 6, 7, 7, 7, 7, 7, 7, 7, 7, 7, 7, 7, 7, 7, 7, 7, 7, 7, 7, 7, 7, 7, 7, 7, 7, 7, 7, 7, 7, 7, 7, 7, 7, 7, 7, 7, 7, 7, 7, 7, 7, 7, 7, 7, 7, 7, 7, 7, 7, 7, 7, 7, 7, 7, 7, 7, 7, 7, 7, 7, 7, 7, 7, 7, 7, 8, 8, 8, 8, 8, 8, 8, 8, 8, 8, 8, 8, 8, 8, 8, 8, 8, 8, 8, 8, 8, 8, 8, 8, 8, 8, 8, 8, 8, 8, 8, 8, 8, 8, 8, 8, 8, 8, 8, 8, 8, 8, 8, 8, 8, 8, 8, 8, 8, 8, 8, 8, 8, 8, 8, 8, 8, 8, 8, 8, 8, 8, 8, 8, 8, 8, 8, 8, 8, 8, 8, 8, 8, 8, 8, 8, 8, 8, 8, 8, 8, 8, 8, 8, 8, 8, 8, 8, 8, 8, 8, 8, 8, 8, 8, 8, 8, 8, 8, 8, 8, 8, 8, 8, 8, 8, 8, 8, 8, 8, 8, 8, 8, 8, 8, 8, 8, 8, 8, 8, 8, 8, 8, 8, 8, 8, 8, 8]⟩
/-! ### (*zoetrope/bits.Reader).there: function 50 -/
noncomputable abbrev P50 (p : List Nat) : Code := subC (codeOf Try.f50) p
noncomputable abbrev O50 (p : List Nat) : Array Oper := opsOf (subC (codeOf Try.f50) p)
theorem b50 : Try.prog.funcs[50]? = some Try.f50 ∧ (Orc.tab Try.prog).lookup 50 = none := ⟨by kernel_rfl, by kernel_rfl⟩
theorem d50 : Try.f50.body = some (P50 []) := by kernel_rfl
theorem t50 {x0 : Option Addr} : #[.pointer x0] ++ Array.replicate (Try.f50.ntmps - (#[.pointer x0] : Array Value).size) undef = #[.pointer x0,undef,undef,undef,undef,undef,undef,undef,undef,undef,undef] := by kernel_rfl
theorem k50_0 : P50 [] = .seq (P50 [0]) (P50 [1]) := by kernel_rfl
theorem k50_1 : P50 [0] = .region 0 (O50 [0]) false := by kernel_rfl
theorem r50_0 {M : Mem} {call : CallM} {K : Array Value → Mem → R} :
    opsK Try.prog (fun _ => call) (O50 [0]) (O50 [0]).toList 0 #[g0,g1,g2,g3,g4,g5,g6,g7,g8,g9,g10] M K = K #[g0,g1,.bool false,g3,g4,g5,g6,g7,g8,g9,g10] M := by kernel_rfl
theorem k50_2 : P50 [1] = .seq (P50 [1,0]) (P50 [1,1]) := by kernel_rfl
theorem k50_3 : P50 [1,0] = .region 1 (O50 [1,0]) false := by kernel_rfl
theorem r50_1 {x0 : Option Addr} {M : Mem} {call : CallM} {K : Array Value → Mem → R} :
    opsK Try.prog (fun _ => call) (O50 [1,0]) (O50 [1,0]).toList 0 #[.pointer x0,g1,g2,g3,g4,g5,g6,g7,g8,g9,g10] M K = withK (fun w2 w5 w6 w7 w8 w9 w10 M => K #[.pointer x0,g1,w2,.pointer x0,.bool x0.isSome,w5,w6,w7,w8,w9,w10] M) fun k => cond x0.isSome ((x0).bind fun a_1 => (M.boolAt a_1.block (a_1.off + 2)).bind fun b_2 => k (.bool b_2) (.bool true) (.pointer x0) (.pointer (some a_1)) (.pointer (some ⟨a_1.block, a_1.off + 2, none⟩)) (.bool b_2) (.bool b_2) M) (k (.bool false) (.bool false) undef undef undef undef (.bool false) M) := by kernel_rfl
theorem k50_4 : P50 [1,1] = .ret := by kernel_rfl
theorem e50 {M : Mem} : finish Try.prog Try.f50 #[g0,g1,g2,g3,g4,g5,g6,g7,g8,g9,g10] M = some (g2, M) := by kernel_rfl
theorem w50_0 {x0 : Option Addr} {M : Mem} {Q : Value → Mem → Prop} (H :
    ((x0.isSome = true →
     ∃ a1', x0 = some a1' ∧
     ∃ b2', M.boolAt a1'.block (a1'.off + 2) = some b2' ∧
     Q (.bool b2') M) ∧
     (x0.isSome = false →
     Q (.bool false) M))) :
    Cn Try.prog 50 #[.pointer x0] M Q := by
  refine Cn.of b50 d50 t50 ?_
  refine Rn.seq k50_0 (Rn.region k50_1 (fun call K => r50_0) (Rch.leaf (Rn.seq k50_2 (Rn.region k50_3 (fun call K => r50_1) ?_))))
  refine Rch.cB (fun h => ?_) (fun h => ?_)
  · replace H := H.1 (h)
    refine Rch.ex H fun a1' H => Rch.ex H fun b2' H => Rch.leaf ?_
    exact Rn.ret k50_4 e50 H
  · replace H := H.2 (h)
    refine Rch.leaf ?_
    exact Rn.ret k50_4 e50 H


/-! ### (*zoetrope/bits.Reader).left: function 51 -/
noncomputable abbrev P51 (p : List Nat) : Code := subC (codeOf Try.f51) p
noncomputable abbrev O51 (p : List Nat) : Array Oper := opsOf (subC (codeOf Try.f51) p)
theorem b51 : Try.prog.funcs[51]? = some Try.f51 ∧ (Orc.tab Try.prog).lookup 51 = none := ⟨by kernel_rfl, by kernel_rfl⟩
theorem d51 : Try.f51.body = some (P51 []) := by kernel_rfl
theorem t51 {x0 : Option Addr} : #[.pointer x0] ++ Array.replicate (Try.f51.ntmps - (#[.pointer x0] : Array Value).size) undef = #[.pointer x0,undef,undef,undef,undef,undef,undef,undef,undef,undef,undef,undef,undef,undef] := by kernel_rfl
theorem k51_0 : P51 [] = .seq (P51 [0]) (P51 [1]) := by kernel_rfl
theorem k51_1 : P51 [0] = .region 0 (O51 [0]) false := by kernel_rfl
theorem r51_0 {M : Mem} {call : CallM} {K : Array Value → Mem → R} :
    opsK Try.prog (fun _ => call) (O51 [0]) (O51 [0]).toList 0 #[g0,g1,g2,g3,g4,g5,g6,g7,g8,g9,g10,g11,g12,g13] M K = K #[g0,g1,.int .i64 0,g3,g4,g5,g6,g7,g8,g9,g10,g11,g12,g13] M := by kernel_rfl
theorem k51_2 : P51 [1] = .seq (P51 [1,0]) (P51 [1,1]) := by kernel_rfl
theorem k51_3 : P51 [1,0] = .region 1 (O51 [1,0]) true ∧ drawOk (O51 [1,0]) = true := ⟨by kernel_rfl, by kernel_rfl⟩
theorem r51_1 {x0 : Option Addr} {M : Mem} {call : CallM} {K : Array Value → Mem → R} :
    opsI Try.prog (callAt call (O51 [1,0])) (O51 [1,0]) (ordOf (O51 [1,0])) [] #[.pointer x0,g1,g2,g3,g4,g5,g6,g7,g8,g9,g10,g11,g12,g13] M K = (x0).bind fun a_1 => (M.slAt a_1.block a_1.off).bind fun s_2 => (x0).bind fun a_3 => (M.intAt .i64 a_3.block (a_3.off + 1)).bind fun x_4 => K #[.pointer x0,g1,.int .i64 (IntKind.i64.wrap ((IntKind.i64.wrap (8 * ((s_2.2.1 : Int)))) - x_4)),.pointer x0,.pointer (some a_1),.pointer (some ⟨a_1.block, a_1.off, none⟩),.slice s_2.1 (s_2.2.1) (s_2.2.2),.int .i64 ((s_2.2.1 : Int)),.int .i64 (IntKind.i64.wrap (8 * ((s_2.2.1 : Int)))),.pointer x0,.pointer (some a_3),.pointer (some ⟨a_3.block, a_3.off + 1, none⟩),.int .i64 x_4,.int .i64 (IntKind.i64.wrap ((IntKind.i64.wrap (8 * ((s_2.2.1 : Int)))) - x_4))] M := by kernel_rfl
theorem k51_4 : P51 [1,1] = .ret := by kernel_rfl
theorem e51 {M : Mem} : finish Try.prog Try.f51 #[g0,g1,g2,g3,g4,g5,g6,g7,g8,g9,g10,g11,g12,g13] M = some (g2, M) := by kernel_rfl
theorem w51_0 {x0 : Option Addr} {M : Mem} {Q : Value → Mem → Prop} (H :
    ∃ a1', x0 = some a1' ∧
    ∃ s2', M.slAt a1'.block a1'.off = some s2' ∧
    ∃ a3', x0 = some a3' ∧
    ∃ x4', M.intAt .i64 a3'.block (a3'.off + 1) = some x4' ∧
    Q (.int .i64 (IntKind.i64.wrap ((IntKind.i64.wrap (8 * ((s2'.2.1 : Int)))) - x4'))) M) :
    Cn Try.prog 51 #[.pointer x0] M Q := by
  refine Cn.of b51 d51 t51 ?_
  refine Rn.seq k51_0 (Rn.region k51_1 (fun call K => r51_0) (Rch.leaf (Rn.seq k51_2 (Rn.regionD k51_3 (fun call K => r51_1) (Rch.ex H fun a1' H => Rch.ex H fun s2' H => Rch.ex H fun a3' H => Rch.ex H fun x4' H => Rch.leaf ?_)))))
  exact Rn.ret k51_4 e51 H


/-! ### (*zoetrope/bits.Reader).Left: function 41 -/
noncomputable abbrev P41 (p : List Nat) : Code := subC (codeOf Try.f41) p
noncomputable abbrev O41 (p : List Nat) : Array Oper := opsOf (subC (codeOf Try.f41) p)
theorem b41 : Try.prog.funcs[41]? = some Try.f41 ∧ (Orc.tab Try.prog).lookup 41 = none := ⟨by kernel_rfl, by kernel_rfl⟩
theorem d41 : Try.f41.body = some (P41 []) := by kernel_rfl
theorem t41 {x0 : Option Addr} : #[.pointer x0] ++ Array.replicate (Try.f41.ntmps - (#[.pointer x0] : Array Value).size) undef = #[.pointer x0,undef,undef,undef,undef,undef,undef,undef] := by kernel_rfl
theorem k41_0 : P41 [] = .seq (P41 [0]) (P41 [1]) := by kernel_rfl
theorem k41_1 : P41 [0] = .region 0 (O41 [0]) false := by kernel_rfl
theorem r41_0 {M : Mem} {call : CallM} {K : Array Value → Mem → R} :
    opsK Try.prog (fun _ => call) (O41 [0]) (O41 [0]).toList 0 #[g0,g1,g2,g3,g4,g5,g6,g7] M K = K #[g0,g1,.int .i64 0,g3,g4,g5,g6,g7] M := by kernel_rfl
theorem k41_2 : P41 [1] = .seq (P41 [1,0]) (P41 [1,1]) := by kernel_rfl
theorem k41_3 : P41 [1,0] = .seq (P41 [1,0,0]) (P41 [1,0,1]) := by kernel_rfl
theorem k41_4 : P41 [1,0,0] = .region 1 (O41 [1,0,0]) false := by kernel_rfl
theorem r41_1 {x0 : Option Addr} {M : Mem} {call : CallM} {K : Array Value → Mem → R} :
    opsK Try.prog (fun _ => call) (O41 [1,0,0]) (O41 [1,0,0]).toList 0 #[.pointer x0,g1,g2,g3,g4,g5,g6,g7] M K = (call 50 #[.pointer x0] M).bind fun r_1 => (asB r_1.1).bind fun b_2 => K #[.pointer x0,g1,g2,.pointer x0,.bool b_2,.bool (!b_2),g6,g7] r_1.2 := by kernel_rfl
theorem c41_5 : P41 [1,0,1] = .cond (.tmp 5) (P41 [1,0,1,0]) (P41 [1,0,1,1]) := by kernel_rfl
theorem k41_6 : P41 [1,0,1,0] = .seq (P41 [1,0,1,0,0]) (P41 [1,0,1,0,1]) := by kernel_rfl
theorem k41_7 : P41 [1,0,1,0,0] = .region 2 (O41 [1,0,1,0,0]) false := by kernel_rfl
theorem r41_2 {M : Mem} {call : CallM} {K : Array Value → Mem → R} :
    opsK Try.prog (fun _ => call) (O41 [1,0,1,0,0]) (O41 [1,0,1,0,0]).toList 0 #[g0,g1,g2,g3,g4,g5,g6,g7] M K = K #[g0,g1,.int .i64 0,g3,g4,g5,g6,g7] M := by kernel_rfl
theorem k41_8 : P41 [1,0,1,0,1] = .ret := by kernel_rfl
theorem e41 {M : Mem} : finish Try.prog Try.f41 #[g0,g1,g2,g3,g4,g5,g6,g7] M = some (g2, M) := by kernel_rfl
theorem k41_10 : P41 [1,0,1,1] = .skip := by kernel_rfl
theorem k41_11 : P41 [1,1] = .seq (P41 [1,1,0]) (P41 [1,1,1]) := by kernel_rfl
theorem k41_12 : P41 [1,1,0] = .region 3 (O41 [1,1,0]) false := by kernel_rfl
theorem r41_3 {x0 : Option Addr} {M : Mem} {call : CallM} {K : Array Value → Mem → R} :
    opsK Try.prog (fun _ => call) (O41 [1,1,0]) (O41 [1,1,0]).toList 0 #[.pointer x0,g1,g2,g3,g4,g5,g6,g7] M K = (call 51 #[.pointer x0] M).bind fun r_1 => (asI .i64 r_1.1).bind fun x_2 => K #[.pointer x0,g1,.int .i64 x_2,g3,g4,g5,.pointer x0,.int .i64 x_2] r_1.2 := by kernel_rfl
theorem k41_13 : P41 [1,1,1] = .ret := by kernel_rfl
theorem w41_0 {x0 : Option Addr} {M : Mem} {Q : Value → Mem → Prop} (H :
    Cn Try.prog 50 #[.pointer x0] M fun v1' N1' =>
     ∃ b2', asB v1' = some b2' ∧
     (((!b2') = true →
      Q (.int .i64 0) N1') ∧
      ((!b2') = false →
      Cn Try.prog 51 #[.pointer x0] N1' fun v3' N3' =>
       ∃ x4', asI .i64 v3' = some x4' ∧
       Q (.int .i64 (x4')) N3'))) :
    Cn Try.prog 41 #[.pointer x0] M Q := by
  refine Cn.of b41 d41 t41 ?_
  refine Rn.seq k41_0 (Rn.region k41_1 (fun call K => r41_0) (Rch.leaf (Rn.seq k41_2 (Rn.seq k41_3 (Rn.region k41_4 (fun call K => r41_1) (Rch.call H fun v1' N1' H => Rch.ex H fun b2' H => Rch.leaf ?_))))))
  refine Rn.cnd (v := !b2') ⟨c41_5, rfl, by kernel_rfl⟩ (fun h => ?_) (fun h => ?_)
  · replace H := H.1 (h)
    refine Rn.seq k41_6 (Rn.region k41_7 (fun call K => r41_2) (Rch.leaf ?_))
    exact Rn.ret k41_8 e41 H
  · replace H := H.2 (h)
    refine Rn.skip k41_10 (Rn.seq k41_11 (Rn.region k41_12 (fun call K => r41_3) (Rch.call H fun v3' N3' H => Rch.ex H fun x4' H => Rch.leaf ?_)))
    exact Rn.ret k41_13 e41 H


/-! ### (*zoetrope/bits.Reader).Leb: function 40 -/
noncomputable abbrev P40 (p : List Nat) : Code := subC (codeOf Try.f40) p
noncomputable abbrev O40 (p : List Nat) : Array Oper := opsOf (subC (codeOf Try.f40) p)
theorem b40 : Try.prog.funcs[40]? = some Try.f40 ∧ (Orc.tab Try.prog).lookup 40 = none := ⟨by kernel_rfl, by kernel_rfl⟩
theorem d40 : Try.f40.body = some (P40 []) := by kernel_rfl
theorem t40 {x0 : Option Addr} : #[.pointer x0] ++ Array.replicate (Try.f40.ntmps - (#[.pointer x0] : Array Value).size) undef = #[.pointer x0,undef,undef,undef,undef,undef,undef,undef,undef,undef,undef,undef,undef,undef,undef,undef,undef,undef,undef,undef,undef,undef,undef,undef,undef,undef,undef,undef,undef,undef,undef,undef,undef,undef,undef,undef,undef,undef,undef,undef,undef,undef,undef,undef,undef,undef,undef,undef,undef,undef,undef,undef,undef,undef,undef,undef,undef,undef,undef,undef,undef,undef,undef,undef,undef,undef,undef,undef] := by kernel_rfl
theorem k40_0 : P40 [] = .seq (P40 [0]) (P40 [1]) := by kernel_rfl
theorem k40_1 : P40 [0] = .region 0 (O40 [0]) false := by kernel_rfl
theorem r40_0 {M : Mem} {call : CallM} {K : Array Value → Mem → R} :
    opsK Try.prog (fun _ => call) (O40 [0]) (O40 [0]).toList 0 #[g0,g1,g2,g3,g4,g5,g6,g7,g8,g9,g10,g11,g12,g13,g14,g15,g16,g17,g18,g19,g20,g21,g22,g23,g24,g25,g26,g27,g28,g29,g30,g31,g32,g33,g34,g35,g36,g37,g38,g39,g40,g41,g42,g43,g44,g45,g46,g47,g48,g49,g50,g51,g52,g53,g54,g55,g56,g57,g58,g59,g60,g61,g62,g63,g64,g65,g66,g67] M K = K #[g0,g1,.int .u32 0,.int .i64 0,g4,g5,g6,g7,g8,g9,g10,g11,g12,g13,g14,g15,g16,g17,g18,g19,g20,g21,g22,g23,g24,g25,g26,g27,g28,g29,g30,g31,g32,g33,g34,g35,g36,g37,g38,g39,g40,g41,g42,g43,g44,g45,g46,g47,g48,g49,g50,g51,g52,g53,g54,g55,g56,g57,g58,g59,g60,g61,g62,g63,g64,g65,g66,g67] M := by kernel_rfl
theorem k40_2 : P40 [1] = .seq (P40 [1,0]) (P40 [1,1]) := by kernel_rfl
theorem k40_3 : P40 [1,0] = .seq (P40 [1,0,0]) (P40 [1,0,1]) := by kernel_rfl
theorem k40_4 : P40 [1,0,0] = .region 1 (O40 [1,0,0]) false := by kernel_rfl
theorem r40_1 {x0 : Option Addr} {M : Mem} {call : CallM} {K : Array Value → Mem → R} :
    opsK Try.prog (fun _ => call) (O40 [1,0,0]) (O40 [1,0,0]).toList 0 #[.pointer x0,g1,g2,g3,g4,g5,g6,g7,g8,g9,g10,g11,g12,g13,g14,g15,g16,g17,g18,g19,g20,g21,g22,g23,g24,g25,g26,g27,g28,g29,g30,g31,g32,g33,g34,g35,g36,g37,g38,g39,g40,g41,g42,g43,g44,g45,g46,g47,g48,g49,g50,g51,g52,g53,g54,g55,g56,g57,g58,g59,g60,g61,g62,g63,g64,g65,g66,g67] M K = (call 50 #[.pointer x0] M).bind fun r_1 => (asB r_1.1).bind fun b_2 => K #[.pointer x0,g1,g2,g3,g4,g5,g6,.pointer x0,.bool b_2,.bool (!b_2),g10,g11,g12,g13,g14,g15,g16,g17,g18,g19,g20,g21,g22,g23,g24,g25,g26,g27,g28,g29,g30,g31,g32,g33,g34,g35,g36,g37,g38,g39,g40,g41,g42,g43,g44,g45,g46,g47,g48,g49,g50,g51,g52,g53,g54,g55,g56,g57,g58,g59,g60,g61,g62,g63,g64,g65,g66,g67] r_1.2 := by kernel_rfl
theorem c40_5 : P40 [1,0,1] = .cond (.tmp 9) (P40 [1,0,1,0]) (P40 [1,0,1,1]) := by kernel_rfl
theorem k40_6 : P40 [1,0,1,0] = .seq (P40 [1,0,1,0,0]) (P40 [1,0,1,0,1]) := by kernel_rfl
theorem k40_7 : P40 [1,0,1,0,0] = .region 2 (O40 [1,0,1,0,0]) false := by kernel_rfl
theorem r40_2 {M : Mem} {call : CallM} {K : Array Value → Mem → R} :
    opsK Try.prog (fun _ => call) (O40 [1,0,1,0,0]) (O40 [1,0,1,0,0]).toList 0 #[g0,g1,g2,g3,g4,g5,g6,g7,g8,g9,g10,g11,g12,g13,g14,g15,g16,g17,g18,g19,g20,g21,g22,g23,g24,g25,g26,g27,g28,g29,g30,g31,g32,g33,g34,g35,g36,g37,g38,g39,g40,g41,g42,g43,g44,g45,g46,g47,g48,g49,g50,g51,g52,g53,g54,g55,g56,g57,g58,g59,g60,g61,g62,g63,g64,g65,g66,g67] M K = K #[g0,g1,.int .u32 0,.int .i64 1,g4,g5,g6,g7,g8,g9,g10,g11,g12,g13,g14,g15,g16,g17,g18,g19,g20,g21,g22,g23,g24,g25,g26,g27,g28,g29,g30,g31,g32,g33,g34,g35,g36,g37,g38,g39,g40,g41,g42,g43,g44,g45,g46,g47,g48,g49,g50,g51,g52,g53,g54,g55,g56,g57,g58,g59,g60,g61,g62,g63,g64,g65,g66,g67] M := by kernel_rfl
theorem k40_8 : P40 [1,0,1,0,1] = .ret := by kernel_rfl
theorem e40 {M : Mem} : finish Try.prog Try.f40 #[g0,g1,g2,g3,g4,g5,g6,g7,g8,g9,g10,g11,g12,g13,g14,g15,g16,g17,g18,g19,g20,g21,g22,g23,g24,g25,g26,g27,g28,g29,g30,g31,g32,g33,g34,g35,g36,g37,g38,g39,g40,g41,g42,g43,g44,g45,g46,g47,g48,g49,g50,g51,g52,g53,g54,g55,g56,g57,g58,g59,g60,g61,g62,g63,g64,g65,g66,g67] M = some (.tuple #[g2, g3], M) := by kernel_rfl
theorem k40_10 : P40 [1,0,1,1] = .skip := by kernel_rfl
theorem k40_11 : P40 [1,1] = .seq (P40 [1,1,0]) (P40 [1,1,1]) := by kernel_rfl
theorem k40_12 : P40 [1,1,0] = .seq (P40 [1,1,0,0]) (P40 [1,1,0,1]) := by kernel_rfl
theorem k40_13 : P40 [1,1,0,0] = .region 3 (O40 [1,1,0,0]) false := by kernel_rfl
theorem r40_3 {x0 : Option Addr} {M : Mem} {call : CallM} {K : Array Value → Mem → R} :
    opsK Try.prog (fun _ => call) (O40 [1,1,0,0]) (O40 [1,1,0,0]).toList 0 #[.pointer x0,g1,g2,g3,g4,g5,g6,g7,g8,g9,g10,g11,g12,g13,g14,g15,g16,g17,g18,g19,g20,g21,g22,g23,g24,g25,g26,g27,g28,g29,g30,g31,g32,g33,g34,g35,g36,g37,g38,g39,g40,g41,g42,g43,g44,g45,g46,g47,g48,g49,g50,g51,g52,g53,g54,g55,g56,g57,g58,g59,g60,g61,g62,g63,g64,g65,g66,g67] M K = (x0).bind fun a_1 => (M.intAt .i64 a_1.block (a_1.off + 1)).bind fun x_2 => K #[.pointer x0,g1,g2,g3,g4,g5,g6,g7,g8,g9,.pointer x0,.pointer (some a_1),.pointer (some ⟨a_1.block, a_1.off + 1, none⟩),.int .i64 x_2,.int .i64 (x_2.tmod 8),.bool ((x_2.tmod 8) != 0),g16,g17,g18,g19,g20,g21,g22,g23,g24,g25,g26,g27,g28,g29,g30,g31,g32,g33,g34,g35,g36,g37,g38,g39,g40,g41,g42,g43,g44,g45,g46,g47,g48,g49,g50,g51,g52,g53,g54,g55,g56,g57,g58,g59,g60,g61,g62,g63,g64,g65,g66,g67] M := by kernel_rfl
theorem c40_14 : P40 [1,1,0,1] = .cond (.tmp 15) (P40 [1,1,0,1,0]) (P40 [1,1,0,1,1]) := by kernel_rfl
theorem k40_15 : P40 [1,1,0,1,0] = .seq (P40 [1,1,0,1,0,0]) (P40 [1,1,0,1,0,1]) := by kernel_rfl
theorem k40_16 : P40 [1,1,0,1,0,0] = .region 4 (O40 [1,1,0,1,0,0]) false := by kernel_rfl
theorem r40_4 {M : Mem} {call : CallM} {K : Array Value → Mem → R} :
    opsK Try.prog (fun _ => call) (O40 [1,1,0,1,0,0]) (O40 [1,1,0,1,0,0]).toList 0 #[g0,g1,g2,g3,g4,g5,g6,g7,g8,g9,g10,g11,g12,g13,g14,g15,g16,g17,g18,g19,g20,g21,g22,g23,g24,g25,g26,g27,g28,g29,g30,g31,g32,g33,g34,g35,g36,g37,g38,g39,g40,g41,g42,g43,g44,g45,g46,g47,g48,g49,g50,g51,g52,g53,g54,g55,g56,g57,g58,g59,g60,g61,g62,g63,g64,g65,g66,g67] M K = K #[g0,g1,.int .u32 0,.int .i64 2,g4,g5,g6,g7,g8,g9,g10,g11,g12,g13,g14,g15,g16,g17,g18,g19,g20,g21,g22,g23,g24,g25,g26,g27,g28,g29,g30,g31,g32,g33,g34,g35,g36,g37,g38,g39,g40,g41,g42,g43,g44,g45,g46,g47,g48,g49,g50,g51,g52,g53,g54,g55,g56,g57,g58,g59,g60,g61,g62,g63,g64,g65,g66,g67] M := by kernel_rfl
theorem k40_17 : P40 [1,1,0,1,0,1] = .ret := by kernel_rfl
theorem k40_18 : P40 [1,1,0,1,1] = .skip := by kernel_rfl
theorem k40_19 : P40 [1,1,1] = .seq (P40 [1,1,1,0]) (P40 [1,1,1,1]) := by kernel_rfl
theorem k40_20 : P40 [1,1,1,0] = .region 5 (O40 [1,1,1,0]) false := by kernel_rfl
theorem r40_5 {M : Mem} {call : CallM} {K : Array Value → Mem → R} :
    opsK Try.prog (fun _ => call) (O40 [1,1,1,0]) (O40 [1,1,1,0]).toList 0 #[g0,g1,g2,g3,g4,g5,g6,g7,g8,g9,g10,g11,g12,g13,g14,g15,g16,g17,g18,g19,g20,g21,g22,g23,g24,g25,g26,g27,g28,g29,g30,g31,g32,g33,g34,g35,g36,g37,g38,g39,g40,g41,g42,g43,g44,g45,g46,g47,g48,g49,g50,g51,g52,g53,g54,g55,g56,g57,g58,g59,g60,g61,g62,g63,g64,g65,g66,g67] M K = K #[g0,g1,g2,g3,.int .u32 0,g5,g6,g7,g8,g9,g10,g11,g12,g13,g14,g15,g16,g17,g18,g19,g20,g21,g22,g23,g24,g25,g26,g27,g28,g29,g30,g31,g32,g33,g34,g35,g36,g37,g38,g39,g40,g41,g42,g43,g44,g45,g46,g47,g48,g49,g50,g51,g52,g53,g54,g55,g56,g57,g58,g59,g60,g61,g62,g63,g64,g65,g66,g67] M := by kernel_rfl
theorem k40_21 : P40 [1,1,1,1] = .seq (P40 [1,1,1,1,0]) (P40 [1,1,1,1,1]) := by kernel_rfl
theorem k40_22 : P40 [1,1,1,1,0] = .seq (P40 [1,1,1,1,0,0]) (P40 [1,1,1,1,0,1]) := by kernel_rfl
theorem k40_23 : P40 [1,1,1,1,0,0] = .region 6 (O40 [1,1,1,1,0,0]) true ∧ drawOk (O40 [1,1,1,1,0,0]) = true := ⟨by kernel_rfl, by kernel_rfl⟩
theorem r40_6 {x0 : Option Addr} {M : Mem} {call : CallM} {K : Array Value → Mem → R} :
    opsI Try.prog (callAt call (O40 [1,1,1,1,0,0])) (O40 [1,1,1,1,0,0]) (ordOf (O40 [1,1,1,1,0,0])) [] #[.pointer x0,g1,g2,g3,g4,g5,g6,g7,g8,g9,g10,g11,g12,g13,g14,g15,g16,g17,g18,g19,g20,g21,g22,g23,g24,g25,g26,g27,g28,g29,g30,g31,g32,g33,g34,g35,g36,g37,g38,g39,g40,g41,g42,g43,g44,g45,g46,g47,g48,g49,g50,g51,g52,g53,g54,g55,g56,g57,g58,g59,g60,g61,g62,g63,g64,g65,g66,g67] M K = (x0).bind fun a_1 => (M.slAt a_1.block a_1.off).bind fun s_2 => (x0).bind fun a_3 => (M.intAt .i64 a_3.block (a_3.off + 1)).bind fun x_4 => (sliceP Try.prog 22 (.slice s_2.1 (s_2.2.1) (s_2.2.2)) (some (.int .i64 (IntKind.i64.wrap (x_4.tdiv 8)))) none none).bind fun v_5 => (asS v_5).bind fun s_6 => K #[.pointer x0,g1,g2,g3,g4,g5,g6,g7,g8,g9,g10,g11,g12,g13,g14,g15,.pointer x0,.pointer (some a_1),.pointer (some ⟨a_1.block, a_1.off, none⟩),.slice s_2.1 (s_2.2.1) (s_2.2.2),.pointer x0,.pointer (some a_3),.pointer (some ⟨a_3.block, a_3.off + 1, none⟩),.int .i64 x_4,.int .i64 (IntKind.i64.wrap (x_4.tdiv 8)),.slice s_6.1 (s_6.2.1) (s_6.2.2),.int .i64 ((s_6.2.1 : Int)),.int .i64 0,g28,g29,g30,g31,g32,g33,g34,g35,g36,g37,g38,g39,g40,g41,g42,g43,g44,g45,g46,g47,g48,g49,g50,g51,g52,g53,g54,g55,g56,g57,g58,g59,g60,g61,g62,g63,g64,g65,g66,g67] M := by kernel_rfl
theorem k40_24 : P40 [1,1,1,1,0,1] = .block 0 (P40 [1,1,1,1,0,1,0]) := by kernel_rfl
theorem k40_25 : P40 [1,1,1,1,0,1,0] = .loop (P40 [1,1,1,1,0,1,0,0]) := by kernel_rfl
theorem k40_26 : P40 [1,1,1,1,0,1,0,0] = .seq (P40 [1,1,1,1,0,1,0,0,0]) (P40 [1,1,1,1,0,1,0,0,1]) := by kernel_rfl
theorem k40_27 : P40 [1,1,1,1,0,1,0,0,0] = .region 7 (O40 [1,1,1,1,0,1,0,0,0]) false := by kernel_rfl
theorem r40_7 {x26 x27 : Int} {M : Mem} {call : CallM} {K : Array Value → Mem → R} :
    opsK Try.prog (fun _ => call) (O40 [1,1,1,1,0,1,0,0,0]) (O40 [1,1,1,1,0,1,0,0,0]).toList 0 #[g0,g1,g2,g3,g4,g5,g6,g7,g8,g9,g10,g11,g12,g13,g14,g15,g16,g17,g18,g19,g20,g21,g22,g23,g24,g25,.int .i64 x26,.int .i64 x27,g28,g29,g30,g31,g32,g33,g34,g35,g36,g37,g38,g39,g40,g41,g42,g43,g44,g45,g46,g47,g48,g49,g50,g51,g52,g53,g54,g55,g56,g57,g58,g59,g60,g61,g62,g63,g64,g65,g66,g67] M K = K #[g0,g1,g2,g3,g4,g5,g6,g7,g8,g9,g10,g11,g12,g13,g14,g15,g16,g17,g18,g19,g20,g21,g22,g23,g24,g25,.int .i64 x26,.int .i64 x27,.bool (decide (x27 < x26)),g29,g30,g31,g32,g33,g34,g35,g36,g37,g38,g39,g40,g41,g42,g43,g44,g45,g46,g47,g48,g49,g50,g51,g52,g53,g54,g55,g56,g57,g58,g59,g60,g61,g62,g63,g64,g65,g66,g67] M := by kernel_rfl
theorem k40_28 : P40 [1,1,1,1,0,1,0,0,1] = .seq (P40 [1,1,1,1,0,1,0,0,1,0]) (P40 [1,1,1,1,0,1,0,0,1,1]) := by kernel_rfl
theorem c40_29 : P40 [1,1,1,1,0,1,0,0,1,0] = .cond (.tmp 28) (P40 [1,1,1,1,0,1,0,0,1,0,0]) (P40 [1,1,1,1,0,1,0,0,1,0,1]) := by kernel_rfl
theorem k40_30 : P40 [1,1,1,1,0,1,0,0,1,0,0] = .skip := by kernel_rfl
theorem k40_31 : P40 [1,1,1,1,0,1,0,0,1,1] = .seq (P40 [1,1,1,1,0,1,0,0,1,1,0]) (P40 [1,1,1,1,0,1,0,0,1,1,1]) := by kernel_rfl
theorem k40_32 : P40 [1,1,1,1,0,1,0,0,1,1,0] = .block 1 (P40 [1,1,1,1,0,1,0,0,1,1,0,0]) := by kernel_rfl
theorem k40_33 : P40 [1,1,1,1,0,1,0,0,1,1,0,0] = .seq (P40 [1,1,1,1,0,1,0,0,1,1,0,0,0]) (P40 [1,1,1,1,0,1,0,0,1,1,0,0,1]) := by kernel_rfl
theorem k40_34 : P40 [1,1,1,1,0,1,0,0,1,1,0,0,0] = .region 8 (O40 [1,1,1,1,0,1,0,0,1,1,0,0,0]) false := by kernel_rfl
theorem r40_8 {Ax25 : Option Addr} {lx25 cx25 : Nat} {x27 : Int} {M : Mem} {call : CallM} {K : Array Value → Mem → R} :
    opsK Try.prog (fun _ => call) (O40 [1,1,1,1,0,1,0,0,1,1,0,0,0]) (O40 [1,1,1,1,0,1,0,0,1,1,0,0,0]).toList 0 #[g0,g1,g2,g3,g4,g5,g6,g7,g8,g9,g10,g11,g12,g13,g14,g15,g16,g17,g18,g19,g20,g21,g22,g23,g24,.slice Ax25 lx25 cx25,g26,.int .i64 x27,g28,g29,g30,g31,g32,g33,g34,g35,g36,g37,g38,g39,g40,g41,g42,g43,g44,g45,g46,g47,g48,g49,g50,g51,g52,g53,g54,g55,g56,g57,g58,g59,g60,g61,g62,g63,g64,g65,g66,g67] M K = (idxA Ax25 lx25 1 x27).bind fun a_1 => (M.intAt .u8 a_1.block a_1.off).bind fun x_2 => K #[g0,g1,g2,g3,g4,.int .i64 x27,.int .u8 x_2,g7,g8,g9,g10,g11,g12,g13,g14,g15,g16,g17,g18,g19,g20,g21,g22,g23,g24,.slice Ax25 lx25 cx25,g26,.int .i64 x27,g28,.int .i64 x27,.pointer (some a_1),.int .u8 x_2,g32,g33,g34,g35,g36,g37,g38,g39,g40,g41,g42,g43,g44,g45,g46,g47,g48,g49,g50,g51,g52,g53,g54,g55,g56,g57,g58,g59,g60,g61,g62,g63,g64,g65,g66,g67] M := by kernel_rfl
theorem k40_35 : P40 [1,1,1,1,0,1,0,0,1,1,0,0,1] = .seq (P40 [1,1,1,1,0,1,0,0,1,1,0,0,1,0]) (P40 [1,1,1,1,0,1,0,0,1,1,0,0,1,1]) := by kernel_rfl
theorem k40_36 : P40 [1,1,1,1,0,1,0,0,1,1,0,0,1,0] = .seq (P40 [1,1,1,1,0,1,0,0,1,1,0,0,1,0,0]) (P40 [1,1,1,1,0,1,0,0,1,1,0,0,1,0,1]) := by kernel_rfl
theorem k40_37 : P40 [1,1,1,1,0,1,0,0,1,1,0,0,1,0,0] = .region 9 (O40 [1,1,1,1,0,1,0,0,1,1,0,0,1,0,0]) false := by kernel_rfl
theorem r40_9 {x5 x6 : Int} {M : Mem} {call : CallM} {K : Array Value → Mem → R} :
    opsK Try.prog (fun _ => call) (O40 [1,1,1,1,0,1,0,0,1,1,0,0,1,0,0]) (O40 [1,1,1,1,0,1,0,0,1,1,0,0,1,0,0]).toList 0 #[g0,g1,g2,g3,g4,.int .i64 x5,.int .u8 x6,g7,g8,g9,g10,g11,g12,g13,g14,g15,g16,g17,g18,g19,g20,g21,g22,g23,g24,g25,g26,g27,g28,g29,g30,g31,g32,g33,g34,g35,g36,g37,g38,g39,g40,g41,g42,g43,g44,g45,g46,g47,g48,g49,g50,g51,g52,g53,g54,g55,g56,g57,g58,g59,g60,g61,g62,g63,g64,g65,g66,g67] M K = withK (fun w34 w35 w36 w37 w38 w39 w40 w41 w42 w43 w44 w45 M => K #[g0,g1,g2,g3,g4,.int .i64 x5,.int .u8 x6,g7,g8,g9,g10,g11,g12,g13,g14,g15,g16,g17,g18,g19,g20,g21,g22,g23,g24,g25,g26,g27,g28,g29,g30,g31,.int .i64 x5,.bool (x5 == 4),w34,w35,w36,w37,w38,w39,w40,w41,w42,w43,w44,w45,g46,g47,g48,g49,g50,g51,g52,g53,g54,g55,g56,g57,g58,g59,g60,g61,g62,g63,g64,g65,g66,g67] M) fun k => cond (x5 == 4) (cond (decide (x6 > 15)) (k (.bool true) (.int .u8 x6) (.bool (decide (x6 > 15))) (.bool (decide (x6 > 15))) (.bool true) undef undef undef undef undef undef (.bool true) M) (cond (decide (x5 > 0)) (k (.bool true) (.int .u8 x6) (.bool (decide (x6 > 15))) (.bool (decide (x6 > 15))) (.bool false) (.int .i64 x5) (.bool (decide (x5 > 0))) (.bool true) (.int .u8 x6) (.bool (x6 == 0)) (.bool (x6 == 0)) (.bool (x6 == 0)) M) (k (.bool true) (.int .u8 x6) (.bool (decide (x6 > 15))) (.bool (decide (x6 > 15))) (.bool false) (.int .i64 x5) (.bool (decide (x5 > 0))) (.bool false) undef undef (.bool false) (.bool false) M))) (cond (decide (x5 > 0)) (k (.bool false) undef undef (.bool false) (.bool false) (.int .i64 x5) (.bool (decide (x5 > 0))) (.bool true) (.int .u8 x6) (.bool (x6 == 0)) (.bool (x6 == 0)) (.bool (x6 == 0)) M) (k (.bool false) undef undef (.bool false) (.bool false) (.int .i64 x5) (.bool (decide (x5 > 0))) (.bool false) undef undef (.bool false) (.bool false) M)) := by kernel_rfl
theorem k40_38 : P40 [1,1,1,1,0,1,0,0,1,0,1] = .exit 0 := by kernel_rfl
theorem k40_39 : P40 [1,1,1,1,1] = .seq (P40 [1,1,1,1,1,0]) (P40 [1,1,1,1,1,1]) := by kernel_rfl
theorem k40_40 : P40 [1,1,1,1,1,0] = .region 16 (O40 [1,1,1,1,1,0]) false := by kernel_rfl
theorem r40_16 {M : Mem} {call : CallM} {K : Array Value → Mem → R} :
    opsK Try.prog (fun _ => call) (O40 [1,1,1,1,1,0]) (O40 [1,1,1,1,1,0]).toList 0 #[g0,g1,g2,g3,g4,g5,g6,g7,g8,g9,g10,g11,g12,g13,g14,g15,g16,g17,g18,g19,g20,g21,g22,g23,g24,g25,g26,g27,g28,g29,g30,g31,g32,g33,g34,g35,g36,g37,g38,g39,g40,g41,g42,g43,g44,g45,g46,g47,g48,g49,g50,g51,g52,g53,g54,g55,g56,g57,g58,g59,g60,g61,g62,g63,g64,g65,g66,g67] M K = K #[g0,g1,.int .u32 0,.int .i64 3,g4,g5,g6,g7,g8,g9,g10,g11,g12,g13,g14,g15,g16,g17,g18,g19,g20,g21,g22,g23,g24,g25,g26,g27,g28,g29,g30,g31,g32,g33,g34,g35,g36,g37,g38,g39,g40,g41,g42,g43,g44,g45,g46,g47,g48,g49,g50,g51,g52,g53,g54,g55,g56,g57,g58,g59,g60,g61,g62,g63,g64,g65,g66,g67] M := by kernel_rfl
theorem k40_41 : P40 [1,1,1,1,1,1] = .ret := by kernel_rfl
theorem c40_42 : P40 [1,1,1,1,0,1,0,0,1,1,0,0,1,0,1] = .cond (.tmp 45) (P40 [1,1,1,1,0,1,0,0,1,1,0,0,1,0,1,0]) (P40 [1,1,1,1,0,1,0,0,1,1,0,0,1,0,1,1]) := by kernel_rfl
theorem k40_43 : P40 [1,1,1,1,0,1,0,0,1,1,0,0,1,0,1,0] = .seq (P40 [1,1,1,1,0,1,0,0,1,1,0,0,1,0,1,0,0]) (P40 [1,1,1,1,0,1,0,0,1,1,0,0,1,0,1,0,1]) := by kernel_rfl
theorem k40_44 : P40 [1,1,1,1,0,1,0,0,1,1,0,0,1,0,1,0,0] = .region 10 (O40 [1,1,1,1,0,1,0,0,1,1,0,0,1,0,1,0,0]) false := by kernel_rfl
theorem r40_10 {M : Mem} {call : CallM} {K : Array Value → Mem → R} :
    opsK Try.prog (fun _ => call) (O40 [1,1,1,1,0,1,0,0,1,1,0,0,1,0,1,0,0]) (O40 [1,1,1,1,0,1,0,0,1,1,0,0,1,0,1,0,0]).toList 0 #[g0,g1,g2,g3,g4,g5,g6,g7,g8,g9,g10,g11,g12,g13,g14,g15,g16,g17,g18,g19,g20,g21,g22,g23,g24,g25,g26,g27,g28,g29,g30,g31,g32,g33,g34,g35,g36,g37,g38,g39,g40,g41,g42,g43,g44,g45,g46,g47,g48,g49,g50,g51,g52,g53,g54,g55,g56,g57,g58,g59,g60,g61,g62,g63,g64,g65,g66,g67] M K = K #[g0,g1,.int .u32 0,.int .i64 4,g4,g5,g6,g7,g8,g9,g10,g11,g12,g13,g14,g15,g16,g17,g18,g19,g20,g21,g22,g23,g24,g25,g26,g27,g28,g29,g30,g31,g32,g33,g34,g35,g36,g37,g38,g39,g40,g41,g42,g43,g44,g45,g46,g47,g48,g49,g50,g51,g52,g53,g54,g55,g56,g57,g58,g59,g60,g61,g62,g63,g64,g65,g66,g67] M := by kernel_rfl
theorem k40_45 : P40 [1,1,1,1,0,1,0,0,1,1,0,0,1,0,1,0,1] = .ret := by kernel_rfl
theorem k40_46 : P40 [1,1,1,1,0,1,0,0,1,1,0,0,1,0,1,1] = .skip := by kernel_rfl
theorem k40_47 : P40 [1,1,1,1,0,1,0,0,1,1,0,0,1,1] = .seq (P40 [1,1,1,1,0,1,0,0,1,1,0,0,1,1,0]) (P40 [1,1,1,1,0,1,0,0,1,1,0,0,1,1,1]) := by kernel_rfl
theorem k40_48 : P40 [1,1,1,1,0,1,0,0,1,1,0,0,1,1,0] = .region 11 (O40 [1,1,1,1,0,1,0,0,1,1,0,0,1,1,0]) false := by kernel_rfl
theorem r40_11 {x4 x5 x6 : Int} {M : Mem} {call : CallM} {K : Array Value → Mem → R} :
    opsK Try.prog (fun _ => call) (O40 [1,1,1,1,0,1,0,0,1,1,0,0,1,1,0]) (O40 [1,1,1,1,0,1,0,0,1,1,0,0,1,1,0]).toList 0 #[g0,g1,g2,g3,.int .u32 x4,.int .i64 x5,.int .u8 x6,g7,g8,g9,g10,g11,g12,g13,g14,g15,g16,g17,g18,g19,g20,g21,g22,g23,g24,g25,g26,g27,g28,g29,g30,g31,g32,g33,g34,g35,g36,g37,g38,g39,g40,g41,g42,g43,g44,g45,g46,g47,g48,g49,g50,g51,g52,g53,g54,g55,g56,g57,g58,g59,g60,g61,g62,g63,g64,g65,g66,g67] M K = (binV Try.prog .shl 57 3 (.int .u32 (IntKind.u32.wrap (IntKind.u8.wrap (((BitVec.ofInt (IntKind.bits .u8) x6 &&& BitVec.ofInt (IntKind.bits .u8) 127).toNat : Int))))) (.int .i64 (IntKind.i64.wrap (7 * x5)))).bind fun v_1 => (asI .u32 v_1).bind fun x_2 => K #[g0,g1,g2,g3,.int .u32 (IntKind.u32.wrap (((BitVec.ofInt (IntKind.bits .u32) x4 ||| BitVec.ofInt (IntKind.bits .u32) x_2).toNat : Int))),.int .i64 x5,.int .u8 x6,g7,g8,g9,g10,g11,g12,g13,g14,g15,g16,g17,g18,g19,g20,g21,g22,g23,g24,g25,g26,g27,g28,g29,g30,g31,g32,g33,g34,g35,g36,g37,g38,g39,g40,g41,g42,g43,g44,g45,.int .u32 x4,.int .u8 x6,.int .u8 (IntKind.u8.wrap (((BitVec.ofInt (IntKind.bits .u8) x6 &&& BitVec.ofInt (IntKind.bits .u8) 127).toNat : Int))),.int .u32 (IntKind.u32.wrap (IntKind.u8.wrap (((BitVec.ofInt (IntKind.bits .u8) x6 &&& BitVec.ofInt (IntKind.bits .u8) 127).toNat : Int)))),.int .i64 x5,.int .i64 (IntKind.i64.wrap (7 * x5)),.int .u32 x_2,.int .u32 (IntKind.u32.wrap (((BitVec.ofInt (IntKind.bits .u32) x4 ||| BitVec.ofInt (IntKind.bits .u32) x_2).toNat : Int))),g54,g55,g56,g57,g58,g59,g60,g61,g62,g63,g64,g65,g66,g67] M := by kernel_rfl
theorem k40_49 : P40 [1,1,1,1,0,1,0,0,1,1,0,0,1,1,1] = .seq (P40 [1,1,1,1,0,1,0,0,1,1,0,0,1,1,1,0]) (P40 [1,1,1,1,0,1,0,0,1,1,0,0,1,1,1,1]) := by kernel_rfl
theorem k40_50 : P40 [1,1,1,1,0,1,0,0,1,1,0,0,1,1,1,0] = .region 12 (O40 [1,1,1,1,0,1,0,0,1,1,0,0,1,1,1,0]) false := by kernel_rfl
theorem r40_12 {x6 : Int} {M : Mem} {call : CallM} {K : Array Value → Mem → R} :
    opsK Try.prog (fun _ => call) (O40 [1,1,1,1,0,1,0,0,1,1,0,0,1,1,1,0]) (O40 [1,1,1,1,0,1,0,0,1,1,0,0,1,1,1,0]).toList 0 #[g0,g1,g2,g3,g4,g5,.int .u8 x6,g7,g8,g9,g10,g11,g12,g13,g14,g15,g16,g17,g18,g19,g20,g21,g22,g23,g24,g25,g26,g27,g28,g29,g30,g31,g32,g33,g34,g35,g36,g37,g38,g39,g40,g41,g42,g43,g44,g45,g46,g47,g48,g49,g50,g51,g52,g53,g54,g55,g56,g57,g58,g59,g60,g61,g62,g63,g64,g65,g66,g67] M K = K #[g0,g1,g2,g3,g4,g5,.int .u8 x6,g7,g8,g9,g10,g11,g12,g13,g14,g15,g16,g17,g18,g19,g20,g21,g22,g23,g24,g25,g26,g27,g28,g29,g30,g31,g32,g33,g34,g35,g36,g37,g38,g39,g40,g41,g42,g43,g44,g45,g46,g47,g48,g49,g50,g51,g52,g53,.int .u8 x6,.bool (decide (x6 < 128)),g56,g57,g58,g59,g60,g61,g62,g63,g64,g65,g66,g67] M := by kernel_rfl
theorem c40_51 : P40 [1,1,1,1,0,1,0,0,1,1,0,0,1,1,1,1] = .cond (.tmp 55) (P40 [1,1,1,1,0,1,0,0,1,1,0,0,1,1,1,1,0]) (P40 [1,1,1,1,0,1,0,0,1,1,0,0,1,1,1,1,1]) := by kernel_rfl
theorem k40_52 : P40 [1,1,1,1,0,1,0,0,1,1,0,0,1,1,1,1,0] = .seq (P40 [1,1,1,1,0,1,0,0,1,1,0,0,1,1,1,1,0,0]) (P40 [1,1,1,1,0,1,0,0,1,1,0,0,1,1,1,1,0,1]) := by kernel_rfl
theorem k40_53 : P40 [1,1,1,1,0,1,0,0,1,1,0,0,1,1,1,1,0,0] = .region 13 (O40 [1,1,1,1,0,1,0,0,1,1,0,0,1,1,1,1,0,0]) false := by kernel_rfl
theorem r40_13 {x0 : Option Addr} {x5 : Int} {M : Mem} {call : CallM} {K : Array Value → Mem → R} :
    opsK Try.prog (fun _ => call) (O40 [1,1,1,1,0,1,0,0,1,1,0,0,1,1,1,1,0,0]) (O40 [1,1,1,1,0,1,0,0,1,1,0,0,1,1,1,1,0,0]).toList 0 #[.pointer x0,g1,g2,g3,g4,.int .i64 x5,g6,g7,g8,g9,g10,g11,g12,g13,g14,g15,g16,g17,g18,g19,g20,g21,g22,g23,g24,g25,g26,g27,g28,g29,g30,g31,g32,g33,g34,g35,g36,g37,g38,g39,g40,g41,g42,g43,g44,g45,g46,g47,g48,g49,g50,g51,g52,g53,g54,g55,g56,g57,g58,g59,g60,g61,g62,g63,g64,g65,g66,g67] M K = (x0).bind fun a_1 => (M.intAt .i64 a_1.block (a_1.off + 1)).bind fun x_2 => (x0).bind fun a_3 => (M.put a_3.block (a_3.off + 1) (.int .i64 (IntKind.i64.wrap (x_2 + (IntKind.i64.wrap (8 * (IntKind.i64.wrap (x5 + 1)))))))).bind fun M_4 => K #[.pointer x0,g1,g2,g3,g4,.int .i64 x5,g6,g7,g8,g9,g10,g11,g12,g13,g14,g15,g16,g17,g18,g19,g20,g21,g22,g23,g24,g25,g26,g27,g28,g29,g30,g31,g32,g33,g34,g35,g36,g37,g38,g39,g40,g41,g42,g43,g44,g45,g46,g47,g48,g49,g50,g51,g52,g53,g54,g55,.pointer x0,.pointer (some a_1),.pointer (some ⟨a_1.block, a_1.off + 1, none⟩),.int .i64 x_2,.int .i64 x5,.int .i64 (IntKind.i64.wrap (x5 + 1)),.int .i64 (IntKind.i64.wrap (8 * (IntKind.i64.wrap (x5 + 1)))),.int .i64 (IntKind.i64.wrap (x_2 + (IntKind.i64.wrap (8 * (IntKind.i64.wrap (x5 + 1)))))),.pointer (some a_3),.pointer (some ⟨a_3.block, a_3.off + 1, none⟩),g66,g67] M_4 := by kernel_rfl
theorem k40_54 : P40 [1,1,1,1,0,1,0,0,1,1,0,0,1,1,1,1,0,1] = .seq (P40 [1,1,1,1,0,1,0,0,1,1,0,0,1,1,1,1,0,1,0]) (P40 [1,1,1,1,0,1,0,0,1,1,0,0,1,1,1,1,0,1,1]) := by kernel_rfl
theorem k40_55 : P40 [1,1,1,1,0,1,0,0,1,1,0,0,1,1,1,1,0,1,0] = .region 14 (O40 [1,1,1,1,0,1,0,0,1,1,0,0,1,1,1,1,0,1,0]) false := by kernel_rfl
theorem r40_14 {x4 : Int} {M : Mem} {call : CallM} {K : Array Value → Mem → R} :
    opsK Try.prog (fun _ => call) (O40 [1,1,1,1,0,1,0,0,1,1,0,0,1,1,1,1,0,1,0]) (O40 [1,1,1,1,0,1,0,0,1,1,0,0,1,1,1,1,0,1,0]).toList 0 #[g0,g1,g2,g3,.int .u32 x4,g5,g6,g7,g8,g9,g10,g11,g12,g13,g14,g15,g16,g17,g18,g19,g20,g21,g22,g23,g24,g25,g26,g27,g28,g29,g30,g31,g32,g33,g34,g35,g36,g37,g38,g39,g40,g41,g42,g43,g44,g45,g46,g47,g48,g49,g50,g51,g52,g53,g54,g55,g56,g57,g58,g59,g60,g61,g62,g63,g64,g65,g66,g67] M K = K #[g0,g1,.int .u32 x4,.int .i64 0,.int .u32 x4,g5,g6,g7,g8,g9,g10,g11,g12,g13,g14,g15,g16,g17,g18,g19,g20,g21,g22,g23,g24,g25,g26,g27,g28,g29,g30,g31,g32,g33,g34,g35,g36,g37,g38,g39,g40,g41,g42,g43,g44,g45,g46,g47,g48,g49,g50,g51,g52,g53,g54,g55,g56,g57,g58,g59,g60,g61,g62,g63,g64,g65,.int .u32 x4,g67] M := by kernel_rfl
theorem k40_56 : P40 [1,1,1,1,0,1,0,0,1,1,0,0,1,1,1,1,0,1,1] = .ret := by kernel_rfl
theorem k40_57 : P40 [1,1,1,1,0,1,0,0,1,1,0,0,1,1,1,1,1] = .skip := by kernel_rfl
theorem k40_58 : P40 [1,1,1,1,0,1,0,0,1,1,1] = .region 15 (O40 [1,1,1,1,0,1,0,0,1,1,1]) false := by kernel_rfl
theorem r40_15 {x27 : Int} {M : Mem} {call : CallM} {K : Array Value → Mem → R} :
    opsK Try.prog (fun _ => call) (O40 [1,1,1,1,0,1,0,0,1,1,1]) (O40 [1,1,1,1,0,1,0,0,1,1,1]).toList 0 #[g0,g1,g2,g3,g4,g5,g6,g7,g8,g9,g10,g11,g12,g13,g14,g15,g16,g17,g18,g19,g20,g21,g22,g23,g24,g25,g26,.int .i64 x27,g28,g29,g30,g31,g32,g33,g34,g35,g36,g37,g38,g39,g40,g41,g42,g43,g44,g45,g46,g47,g48,g49,g50,g51,g52,g53,g54,g55,g56,g57,g58,g59,g60,g61,g62,g63,g64,g65,g66,g67] M K = K #[g0,g1,g2,g3,g4,g5,g6,g7,g8,g9,g10,g11,g12,g13,g14,g15,g16,g17,g18,g19,g20,g21,g22,g23,g24,g25,g26,.int .i64 (IntKind.i64.wrap (x27 + 1)),g28,g29,g30,g31,g32,g33,g34,g35,g36,g37,g38,g39,g40,g41,g42,g43,g44,g45,g46,g47,g48,g49,g50,g51,g52,g53,g54,g55,g56,g57,g58,g59,g60,g61,g62,g63,g64,g65,g66,.int .i64 (IntKind.i64.wrap (x27 + 1))] M := by kernel_rfl
noncomputable def S40_1 : List Item := [.code (P40 [1,1,1,1,0,1,0,0]), .inLoop (P40 [1,1,1,1,0,1,0,0]), .inBlock 0, .code (P40 [1,1,1,1,1])]
def A40_1 (x0 : Option Addr) (x4 : Int) (Ax25 : Option Addr) (lx25 cx25 : Nat) (x26 x27 : Int) (M : Mem) (Q : Value → Mem → Prop) : Prop := ∀ (g1 g2 g3 g5 g6 g7 g8 g9 g10 g11 g12 g13 g14 g15 g16 g17 g18 g19 g20 g21 g22 g23 g24 g28 g29 g30 g31 g32 g33 g34 g35 g36 g37 g38 g39 g40 g41 g42 g43 g44 g45 g46 g47 g48 g49 g50 g51 g52 g53 g54 g55 g56 g57 g58 g59 g60 g61 g62 g63 g64 g65 g66 g67 : Value), Rn Try.prog Try.f40 S40_1 #[.pointer x0, g1, g2, g3, .int .u32 x4, g5, g6, g7, g8, g9, g10, g11, g12, g13, g14, g15, g16, g17, g18, g19, g20, g21, g22, g23, g24, .slice Ax25 lx25 cx25, .int .i64 x26, .int .i64 x27, g28, g29, g30, g31, g32, g33, g34, g35, g36, g37, g38, g39, g40, g41, g42, g43, g44, g45, g46, g47, g48, g49, g50, g51, g52, g53, g54, g55, g56, g57, g58, g59, g60, g61, g62, g63, g64, g65, g66, g67] M Q
noncomputable def S40_2 : List Item := [.code (P40 [1,1,1,1,0,1,0,0,1,1,0,0,1,0,1]), .code (P40 [1,1,1,1,0,1,0,0,1,1,0,0,1,1]), .inBlock 1, .code (P40 [1,1,1,1,0,1,0,0,1,1,1]), .inLoop (P40 [1,1,1,1,0,1,0,0]), .inBlock 0, .code (P40 [1,1,1,1,1])]
def A40_2 (x0 : Option Addr) (x4 x5 x6 : Int) (Ax25 : Option Addr) (lx25 cx25 : Nat) (x26 x27 : Int) (x45 : Bool) (M : Mem) (Q : Value → Mem → Prop) : Prop := ∀ (g1 g2 g3 g7 g8 g9 g10 g11 g12 g13 g14 g15 g16 g17 g18 g19 g20 g21 g22 g23 g24 g28 g29 g30 g31 g32 g33 g34 g35 g36 g37 g38 g39 g40 g41 g42 g43 g44 g46 g47 g48 g49 g50 g51 g52 g53 g54 g55 g56 g57 g58 g59 g60 g61 g62 g63 g64 g65 g66 g67 : Value), Rn Try.prog Try.f40 S40_2 #[.pointer x0, g1, g2, g3, .int .u32 x4, .int .i64 x5, .int .u8 x6, g7, g8, g9, g10, g11, g12, g13, g14, g15, g16, g17, g18, g19, g20, g21, g22, g23, g24, .slice Ax25 lx25 cx25, .int .i64 x26, .int .i64 x27, g28, g29, g30, g31, g32, g33, g34, g35, g36, g37, g38, g39, g40, g41, g42, g43, g44, .bool x45, g46, g47, g48, g49, g50, g51, g52, g53, g54, g55, g56, g57, g58, g59, g60, g61, g62, g63, g64, g65, g66, g67] M Q
theorem w40_0 {x0 : Option Addr} {M : Mem} {Q : Value → Mem → Prop} (H :
    Cn Try.prog 50 #[.pointer x0] M fun v1' N1' =>
     ∃ b2', asB v1' = some b2' ∧
     (((!b2') = true →
      Q (.tuple #[.int .u32 0, .int .i64 1]) N1') ∧
      ((!b2') = false →
      ∃ a3', x0 = some a3' ∧
      ∃ x4', N1'.intAt .i64 a3'.block (a3'.off + 1) = some x4' ∧
      (((x4'.tmod 8) ≠ 0 →
       Q (.tuple #[.int .u32 0, .int .i64 2]) N1') ∧
       ((x4'.tmod 8) = 0 →
       ∃ a5', x0 = some a5' ∧
       ∃ s6', N1'.slAt a5'.block a5'.off = some s6' ∧
       ∃ a7', x0 = some a7' ∧
       ∃ x8', N1'.intAt .i64 a7'.block (a7'.off + 1) = some x8' ∧
       ∃ v9', sliceP Try.prog 22 (.slice s6'.1 (s6'.2.1) (s6'.2.2)) (some (.int .i64 (IntKind.i64.wrap (x8'.tdiv 8)))) none none = some v9' ∧
       ∃ s10', asS v9' = some s10' ∧
       A40_1 x0 0 s10'.1 s10'.2.1 s10'.2.2 (s10'.2.1 : Int) 0 N1' Q))))) :
    Cn Try.prog 40 #[.pointer x0] M Q := by
  refine Cn.of b40 d40 t40 ?_
  refine Rn.seq k40_0 (Rn.region k40_1 (fun call K => r40_0) (Rch.leaf (Rn.seq k40_2 (Rn.seq k40_3 (Rn.region k40_4 (fun call K => r40_1) (Rch.call H fun v1' N1' H => Rch.ex H fun b2' H => Rch.leaf ?_))))))
  refine Rn.cnd (v := !b2') ⟨c40_5, rfl, by kernel_rfl⟩ (fun h => ?_) (fun h => ?_)
  · replace H := H.1 (h)
    refine Rn.seq k40_6 (Rn.region k40_7 (fun call K => r40_2) (Rch.leaf ?_))
    exact Rn.ret k40_8 e40 H
  · replace H := H.2 (h)
    refine Rn.skip k40_10 (Rn.seq k40_11 (Rn.seq k40_12 (Rn.region k40_13 (fun call K => r40_3) (Rch.ex H fun a3' H => Rch.ex H fun x4' H => Rch.leaf ?_))))
    refine Rn.cnd (v := (x4'.tmod 8) != 0) ⟨c40_14, rfl, by kernel_rfl⟩ (fun h => ?_) (fun h => ?_)
    · replace H := H.1 (ne_of_bneT h)
      refine Rn.seq k40_15 (Rn.region k40_16 (fun call K => r40_4) (Rch.leaf ?_))
      exact Rn.ret k40_17 e40 H
    · replace H := H.2 (eq_of_bneF h)
      refine Rn.skip k40_18 (Rn.seq k40_19 (Rn.region k40_20 (fun call K => r40_5) (Rch.leaf (Rn.seq k40_21 (Rn.seq k40_22 (Rn.regionD k40_23 (fun call K => r40_6) (Rch.ex H fun a5' H => Rch.ex H fun s6' H => Rch.ex H fun a7' H => Rch.ex H fun x8' H => Rch.ex H fun v9' H => ?_)))))))
      refine Rch.ex H fun s10' H => Rch.leaf (Rn.block k40_24 (Rn.loop k40_25 ?_))
      exact H _ _ _ _ _ _ _ _ _ _ _ _ _ _ _ _ _ _ _ _ _ _ _ _ _ _ _ _ _ _ _ _ _ _ _ _ _ _ _ _ _ _ _ _ _ _ _ _ _ _ _ _ _ _ _ _ _ _ _ _ _ _ _

theorem w40_1 {x0 : Option Addr} {x4 : Int} {Ax25 : Option Addr} {lx25 cx25 : Nat} {x26 x27 : Int} {M : Mem} {Q : Value → Mem → Prop} (H :
    ((x27 < x26 →
     ∃ a11', idxA Ax25 lx25 1 x27 = some a11' ∧
     ∃ x12', M.intAt .u8 a11'.block a11'.off = some x12' ∧
     ((x27 = 4 →
      ((x12' > 15 →
       A40_2 x0 x4 x27 x12' Ax25 lx25 cx25 x26 x27 true M Q) ∧
       (¬ (x12' > 15) →
       ((x27 > 0 →
        A40_2 x0 x4 x27 x12' Ax25 lx25 cx25 x26 x27 (x12' == 0) M Q) ∧
        (¬ (x27 > 0) →
        A40_2 x0 x4 x27 x12' Ax25 lx25 cx25 x26 x27 false M Q))))) ∧
      (x27 ≠ 4 →
      ((x27 > 0 →
       A40_2 x0 x4 x27 x12' Ax25 lx25 cx25 x26 x27 (x12' == 0) M Q) ∧
       (¬ (x27 > 0) →
       A40_2 x0 x4 x27 x12' Ax25 lx25 cx25 x26 x27 false M Q))))) ∧
     (¬ (x27 < x26) →
     Q (.tuple #[.int .u32 0, .int .i64 3]) M))) :
    A40_1 x0 x4 Ax25 lx25 cx25 x26 x27 M Q := by
  intro g1 g2 g3 g5 g6 g7 g8 g9 g10 g11 g12 g13 g14 g15 g16 g17 g18 g19 g20 g21 g22 g23 g24 g28 g29 g30 g31 g32 g33 g34 g35 g36 g37 g38 g39 g40 g41 g42 g43 g44 g45 g46 g47 g48 g49 g50 g51 g52 g53 g54 g55 g56 g57 g58 g59 g60 g61 g62 g63 g64 g65 g66 g67
  refine Rn.seq k40_26 (Rn.region k40_27 (fun call K => r40_7) (Rch.leaf (Rn.seq k40_28 ?_)))
  refine Rn.cnd (v := decide (x27 < x26)) ⟨c40_29, rfl, by kernel_rfl⟩ (fun h => ?_) (fun h => ?_)
  · replace H := H.1 (of_decide_eq_true h)
    refine Rn.skip k40_30 (Rn.seq k40_31 (Rn.block k40_32 (Rn.seq k40_33 (Rn.region k40_34 (fun call K => r40_8) (Rch.ex H fun a11' H => Rch.ex H fun x12' H => Rch.leaf (Rn.seq k40_35 (Rn.seq k40_36 (Rn.region k40_37 (fun call K => r40_9) ?_))))))))
    refine Rch.cB (fun h => ?_) (fun h => ?_)
    · replace H := H.1 (eq_of_beq h)
      refine Rch.cB (fun h => ?_) (fun h => ?_)
      · replace H := H.1 (of_decide_eq_true h)
        refine Rch.leaf ?_
        exact H _ _ _ _ _ _ _ _ _ _ _ _ _ _ _ _ _ _ _ _ _ _ _ _ _ _ _ _ _ _ _ _ _ _ _ _ _ _ _ _ _ _ _ _ _ _ _ _ _ _ _ _ _ _ _ _ _ _ _ _
      · replace H := H.2 (of_decide_eq_false h)
        refine Rch.cB (fun h => ?_) (fun h => ?_)
        · replace H := H.1 (of_decide_eq_true h)
          refine Rch.leaf ?_
          exact H _ _ _ _ _ _ _ _ _ _ _ _ _ _ _ _ _ _ _ _ _ _ _ _ _ _ _ _ _ _ _ _ _ _ _ _ _ _ _ _ _ _ _ _ _ _ _ _ _ _ _ _ _ _ _ _ _ _ _ _
        · replace H := H.2 (of_decide_eq_false h)
          refine Rch.leaf ?_
          exact H _ _ _ _ _ _ _ _ _ _ _ _ _ _ _ _ _ _ _ _ _ _ _ _ _ _ _ _ _ _ _ _ _ _ _ _ _ _ _ _ _ _ _ _ _ _ _ _ _ _ _ _ _ _ _ _ _ _ _ _
    · replace H := H.2 (ne_of_beq_false h)
      refine Rch.cB (fun h => ?_) (fun h => ?_)
      · replace H := H.1 (of_decide_eq_true h)
        refine Rch.leaf ?_
        exact H _ _ _ _ _ _ _ _ _ _ _ _ _ _ _ _ _ _ _ _ _ _ _ _ _ _ _ _ _ _ _ _ _ _ _ _ _ _ _ _ _ _ _ _ _ _ _ _ _ _ _ _ _ _ _ _ _ _ _ _
      · replace H := H.2 (of_decide_eq_false h)
        refine Rch.leaf ?_
        exact H _ _ _ _ _ _ _ _ _ _ _ _ _ _ _ _ _ _ _ _ _ _ _ _ _ _ _ _ _ _ _ _ _ _ _ _ _ _ _ _ _ _ _ _ _ _ _ _ _ _ _ _ _ _ _ _ _ _ _ _
  · replace H := H.2 (of_decide_eq_false h)
    refine Rn.exit k40_38 rfl (Rn.seq k40_39 (Rn.region k40_40 (fun call K => r40_16) (Rch.leaf ?_)))
    exact Rn.ret k40_41 e40 H

theorem w40_2 {x0 : Option Addr} {x4 x5 x6 : Int} {Ax25 : Option Addr} {lx25 cx25 : Nat} {x26 x27 : Int} {x45 : Bool} {M : Mem} {Q : Value → Mem → Prop} (H :
    ((x45 = true →
     Q (.tuple #[.int .u32 0, .int .i64 4]) M) ∧
     (x45 = false →
     ∃ v13', binV Try.prog .shl 57 3 (.int .u32 (IntKind.u32.wrap (IntKind.u8.wrap (((BitVec.ofInt (IntKind.bits .u8) x6 &&& BitVec.ofInt (IntKind.bits .u8) 127).toNat : Int))))) (.int .i64 (IntKind.i64.wrap (7 * x5))) = some v13' ∧
     ∃ x14', asI .u32 v13' = some x14' ∧
     ((x6 < 128 →
      ∃ a15', x0 = some a15' ∧
      ∃ x16', M.intAt .i64 a15'.block (a15'.off + 1) = some x16' ∧
      ∃ a17', x0 = some a17' ∧
      ∃ M18', M.put a17'.block (a17'.off + 1) (.int .i64 (IntKind.i64.wrap (x16' + (IntKind.i64.wrap (8 * (IntKind.i64.wrap (x5 + 1))))))) = some M18' ∧
      Q (.tuple #[.int .u32 (IntKind.u32.wrap (((BitVec.ofInt (IntKind.bits .u32) x4 ||| BitVec.ofInt (IntKind.bits .u32) x14').toNat : Int))), .int .i64 0]) M18') ∧
      (¬ (x6 < 128) →
      A40_1 x0 (IntKind.u32.wrap (((BitVec.ofInt (IntKind.bits .u32) x4 ||| BitVec.ofInt (IntKind.bits .u32) x14').toNat : Int))) Ax25 lx25 cx25 x26 (IntKind.i64.wrap (x27 + 1)) M Q))))) :
    A40_2 x0 x4 x5 x6 Ax25 lx25 cx25 x26 x27 x45 M Q := by
  intro g1 g2 g3 g7 g8 g9 g10 g11 g12 g13 g14 g15 g16 g17 g18 g19 g20 g21 g22 g23 g24 g28 g29 g30 g31 g32 g33 g34 g35 g36 g37 g38 g39 g40 g41 g42 g43 g44 g46 g47 g48 g49 g50 g51 g52 g53 g54 g55 g56 g57 g58 g59 g60 g61 g62 g63 g64 g65 g66 g67
  refine Rn.cnd (v := x45) ⟨c40_42, rfl, by kernel_rfl⟩ (fun h => ?_) (fun h => ?_)
  · replace H := H.1 (h)
    refine Rn.seq k40_43 (Rn.region k40_44 (fun call K => r40_10) (Rch.leaf ?_))
    exact Rn.ret k40_45 e40 H
  · replace H := H.2 (h)
    refine Rn.skip k40_46 (Rn.seq k40_47 (Rn.region k40_48 (fun call K => r40_11) (Rch.ex H fun v13' H => Rch.ex H fun x14' H => Rch.leaf (Rn.seq k40_49 (Rn.region k40_50 (fun call K => r40_12) (Rch.leaf ?_))))))
    refine Rn.cnd (v := decide (x6 < 128)) ⟨c40_51, rfl, by kernel_rfl⟩ (fun h => ?_) (fun h => ?_)
    · replace H := H.1 (of_decide_eq_true h)
      refine Rn.seq k40_52 (Rn.region k40_53 (fun call K => r40_13) (Rch.ex H fun a15' H => Rch.ex H fun x16' H => Rch.ex H fun a17' H => Rch.ex H fun M18' H => Rch.leaf (Rn.seq k40_54 (Rn.region k40_55 (fun call K => r40_14) (Rch.leaf ?_)))))
      exact Rn.ret k40_56 e40 H
    · replace H := H.2 (of_decide_eq_false h)
      refine Rn.skip k40_57 (Rn.blk (Rn.region k40_58 (fun call K => r40_15) (Rch.leaf (Rn.lp ?_))))
      exact H _ _ _ _ _ _ _ _ _ _ _ _ _ _ _ _ _ _ _ _ _ _ _ _ _ _ _ _ _ _ _ _ _ _ _ _ _ _ _ _ _ _ _ _ _ _ _ _ _ _ _ _ _ _ _ _ _ _ _ _ _ _ _


/-! ### slices.Clone[[]byte,byte]: function 38 -/
noncomputable abbrev P38 (p : List Nat) : Code := subC (codeOf Try.f38) p
noncomputable abbrev O38 (p : List Nat) : Array Oper := opsOf (subC (codeOf Try.f38) p)
theorem b38 : Try.prog.funcs[38]? = some Try.f38 ∧ (Orc.tab Try.prog).lookup 38 = none := ⟨by kernel_rfl, by kernel_rfl⟩
theorem d38 : Try.f38.body = some (P38 []) := by kernel_rfl
theorem t38 {Ax0 : Option Addr} {lx0 cx0 : Nat} : #[.slice Ax0 lx0 cx0] ++ Array.replicate (Try.f38.ntmps - (#[.slice Ax0 lx0 cx0] : Array Value).size) undef = #[.slice Ax0 lx0 cx0,undef,undef,undef,undef,undef,undef,undef] := by kernel_rfl
theorem k38_0 : P38 [] = .seq (P38 [0]) (P38 [1]) := by kernel_rfl
theorem k38_1 : P38 [0] = .region 0 (O38 [0]) false := by kernel_rfl
theorem r38_0 {M : Mem} {call : CallM} {K : Array Value → Mem → R} :
    opsK Try.prog (fun _ => call) (O38 [0]) (O38 [0]).toList 0 #[g0,g1,g2,g3,g4,g5,g6,g7] M K = K #[g0,g1,.slice none 0 0,g3,g4,g5,g6,g7] M := by kernel_rfl
theorem k38_2 : P38 [1] = .seq (P38 [1,0]) (P38 [1,1]) := by kernel_rfl
theorem k38_3 : P38 [1,0] = .seq (P38 [1,0,0]) (P38 [1,0,1]) := by kernel_rfl
theorem k38_4 : P38 [1,0,0] = .region 1 (O38 [1,0,0]) false := by kernel_rfl
theorem r38_1 {Ax0 : Option Addr} {lx0 cx0 : Nat} {M : Mem} {call : CallM} {K : Array Value → Mem → R} :
    opsK Try.prog (fun _ => call) (O38 [1,0,0]) (O38 [1,0,0]).toList 0 #[.slice Ax0 lx0 cx0,g1,g2,g3,g4,g5,g6,g7] M K = K #[.slice Ax0 lx0 cx0,g1,g2,.slice Ax0 lx0 cx0,.bool Ax0.isNone,g5,g6,g7] M := by kernel_rfl
theorem c38_5 : P38 [1,0,1] = .cond (.tmp 4) (P38 [1,0,1,0]) (P38 [1,0,1,1]) := by kernel_rfl
theorem k38_6 : P38 [1,0,1,0] = .seq (P38 [1,0,1,0,0]) (P38 [1,0,1,0,1]) := by kernel_rfl
theorem k38_7 : P38 [1,0,1,0,0] = .region 2 (O38 [1,0,1,0,0]) false := by kernel_rfl
theorem r38_2 {M : Mem} {call : CallM} {K : Array Value → Mem → R} :
    opsK Try.prog (fun _ => call) (O38 [1,0,1,0,0]) (O38 [1,0,1,0,0]).toList 0 #[g0,g1,g2,g3,g4,g5,g6,g7] M K = K #[g0,g1,.slice none 0 0,g3,g4,g5,g6,g7] M := by kernel_rfl
theorem k38_8 : P38 [1,0,1,0,1] = .ret := by kernel_rfl
theorem e38 {M : Mem} : finish Try.prog Try.f38 #[g0,g1,g2,g3,g4,g5,g6,g7] M = some (g2, M) := by kernel_rfl
theorem k38_10 : P38 [1,0,1,1] = .skip := by kernel_rfl
theorem k38_11 : P38 [1,1] = .seq (P38 [1,1,0]) (P38 [1,1,1]) := by kernel_rfl
theorem k38_12 : P38 [1,1,0] = .region 3 (O38 [1,1,0]) false := by kernel_rfl
theorem r38_3 {Ax0 : Option Addr} {lx0 cx0 : Nat} {M : Mem} {call : CallM} {K : Array Value → Mem → R} :
    opsK Try.prog (fun _ => call) (O38 [1,1,0]) (O38 [1,1,0]).toList 0 #[.slice Ax0 lx0 cx0,g1,g2,g3,g4,g5,g6,g7] M K = (appendP Try.prog #[22, 22] (.slice (some ⟨2 * M.nb.size, 0, none⟩) 0 0) (.slice Ax0 lx0 cx0) (M.new (.cells #[] 5))).bind fun r_1 => (asS r_1.1).bind fun s_2 => K #[.slice Ax0 lx0 cx0,g1,.slice s_2.1 (s_2.2.1) (s_2.2.2),g3,g4,.slice (some ⟨2 * M.nb.size, 0, none⟩) 0 0,.slice Ax0 lx0 cx0,.slice s_2.1 (s_2.2.1) (s_2.2.2)] r_1.2 := by kernel_rfl
theorem k38_13 : P38 [1,1,1] = .ret := by kernel_rfl
theorem w38_0 {Ax0 : Option Addr} {lx0 cx0 : Nat} {M : Mem} {Q : Value → Mem → Prop} (H :
    ((Ax0.isNone = true →
     Q (.slice none 0 0) M) ∧
     (Ax0.isNone = false →
     ∃ r1', appendP Try.prog #[22, 22] (.slice (some ⟨2 * M.nb.size, 0, none⟩) 0 0) (.slice Ax0 lx0 cx0) (M.new (.cells #[] 5)) = some r1' ∧
     ∃ s2', asS r1'.1 = some s2' ∧
     Q (.slice s2'.1 (s2'.2.1) (s2'.2.2)) r1'.2))) :
    Cn Try.prog 38 #[.slice Ax0 lx0 cx0] M Q := by
  refine Cn.of b38 d38 t38 ?_
  refine Rn.seq k38_0 (Rn.region k38_1 (fun call K => r38_0) (Rch.leaf (Rn.seq k38_2 (Rn.seq k38_3 (Rn.region k38_4 (fun call K => r38_1) (Rch.leaf ?_))))))
  refine Rn.cnd (v := Ax0.isNone) ⟨c38_5, rfl, by kernel_rfl⟩ (fun h => ?_) (fun h => ?_)
  · replace H := H.1 (h)
    refine Rn.seq k38_6 (Rn.region k38_7 (fun call K => r38_2) (Rch.leaf ?_))
    exact Rn.ret k38_8 e38 H
  · replace H := H.2 (h)
    refine Rn.skip k38_10 (Rn.seq k38_11 (Rn.region k38_12 (fun call K => r38_3) (Rch.ex H fun r1' H => Rch.ex H fun s2' H => Rch.leaf ?_)))
    exact Rn.ret k38_13 e38 H


/-! ### zoetrope/bits.New: function 39 -/
noncomputable abbrev P39 (p : List Nat) : Code := subC (codeOf Try.f39) p
noncomputable abbrev O39 (p : List Nat) : Array Oper := opsOf (subC (codeOf Try.f39) p)
theorem b39 : Try.prog.funcs[39]? = some Try.f39 ∧ (Orc.tab Try.prog).lookup 39 = none := ⟨by kernel_rfl, by kernel_rfl⟩
theorem d39 : Try.f39.body = some (P39 []) := by kernel_rfl
theorem t39 {Ax0 : Option Addr} {lx0 cx0 : Nat} : #[.slice Ax0 lx0 cx0] ++ Array.replicate (Try.f39.ntmps - (#[.slice Ax0 lx0 cx0] : Array Value).size) undef = #[.slice Ax0 lx0 cx0,undef,undef,undef,undef,undef,undef] := by kernel_rfl
theorem k39_0 : P39 [] = .seq (P39 [0]) (P39 [1]) := by kernel_rfl
theorem k39_1 : P39 [0] = .region 0 (O39 [0]) false := by kernel_rfl
theorem r39_0 {M : Mem} {call : CallM} {K : Array Value → Mem → R} :
    opsK Try.prog (fun _ => call) (O39 [0]) (O39 [0]).toList 0 #[g0,g1,g2,g3,g4,g5,g6] M K = K #[g0,g1,.pointer none,g3,g4,g5,g6] M := by kernel_rfl
theorem k39_2 : P39 [1] = .seq (P39 [1,0]) (P39 [1,1]) := by kernel_rfl
theorem k39_3 : P39 [1,0] = .region 1 (O39 [1,0]) false := by kernel_rfl
theorem r39_1 {Ax0 : Option Addr} {lx0 cx0 : Nat} {M : Mem} {call : CallM} {K : Array Value → Mem → R} :
    opsK Try.prog (fun _ => call) (O39 [1,0]) (O39 [1,0]).toList 0 #[.slice Ax0 lx0 cx0,g1,g2,g3,g4,g5,g6] M K = (call 38 #[.slice Ax0 lx0 cx0] M).bind fun r_1 => (asS r_1.1).bind fun s_2 => K #[.slice Ax0 lx0 cx0,g1,.pointer (some ⟨2 * r_1.2.nb.size, 0, none⟩),.slice Ax0 lx0 cx0,.slice s_2.1 (s_2.2.1) (s_2.2.2),.agg #[.slice s_2.1 (s_2.2.1) (s_2.2.2), .int .i64 0, .bool true],.pointer (some ⟨2 * r_1.2.nb.size, 0, none⟩)] (r_1.2.new (.cells #[.slice s_2.1 (s_2.2.1) (s_2.2.2), .int .i64 0, .bool true] 80)) := by kernel_rfl
theorem k39_4 : P39 [1,1] = .ret := by kernel_rfl
theorem e39 {M : Mem} : finish Try.prog Try.f39 #[g0,g1,g2,g3,g4,g5,g6] M = some (g2, M) := by kernel_rfl
theorem w39_0 {Ax0 : Option Addr} {lx0 cx0 : Nat} {M : Mem} {Q : Value → Mem → Prop} (H :
    Cn Try.prog 38 #[.slice Ax0 lx0 cx0] M fun v1' N1' =>
     ∃ s2', asS v1' = some s2' ∧
     Q (.pointer (some ⟨2 * N1'.nb.size, 0, none⟩)) (N1'.new (.cells #[.slice s2'.1 (s2'.2.1) (s2'.2.2), .int .i64 0, .bool true] 80))) :
    Cn Try.prog 39 #[.slice Ax0 lx0 cx0] M Q := by
  refine Cn.of b39 d39 t39 ?_
  refine Rn.seq k39_0 (Rn.region k39_1 (fun call K => r39_0) (Rch.leaf (Rn.seq k39_2 (Rn.region k39_3 (fun call K => r39_1) (Rch.call H fun v1' N1' H => Rch.ex H fun s2' H => Rch.leaf ?_)))))
  exact Rn.ret k39_4 e39 H


/-! ### zoetrope/bits.Write: function 30 -/
noncomputable abbrev P30 (p : List Nat) : Code := subC (codeOf Try.f30) p
noncomputable abbrev O30 (p : List Nat) : Array Oper := opsOf (subC (codeOf Try.f30) p)
theorem b30 : Try.prog.funcs[30]? = some Try.f30 ∧ (Orc.tab Try.prog).lookup 30 = none := ⟨by kernel_rfl, by kernel_rfl⟩
theorem d30 : Try.f30.body = some (P30 []) := by kernel_rfl
theorem t30 : #[] ++ Array.replicate (Try.f30.ntmps - (#[] : Array Value).size) undef = #[undef,undef,undef] := by kernel_rfl
theorem k30_0 : P30 [] = .seq (P30 [0]) (P30 [1]) := by kernel_rfl
theorem k30_1 : P30 [0] = .region 0 (O30 [0]) false := by kernel_rfl
theorem r30_0 {M : Mem} {call : CallM} {K : Array Value → Mem → R} :
    opsK Try.prog (fun _ => call) (O30 [0]) (O30 [0]).toList 0 #[g0,g1,g2] M K = K #[.pointer none,g1,g2] M := by kernel_rfl
theorem k30_2 : P30 [1] = .seq (P30 [1,0]) (P30 [1,1]) := by kernel_rfl
theorem k30_3 : P30 [1,0] = .region 1 (O30 [1,0]) false := by kernel_rfl
theorem r30_1 {M : Mem} {call : CallM} {K : Array Value → Mem → R} :
    opsK Try.prog (fun _ => call) (O30 [1,0]) (O30 [1,0]).toList 0 #[g0,g1,g2] M K = K #[.pointer (some ⟨2 * M.nb.size, 0, none⟩),.agg #[.slice none 0 0, .int .i64 0, .bool true],.pointer (some ⟨2 * M.nb.size, 0, none⟩)] (M.new (.cells #[.slice none 0 0, .int .i64 0, .bool true] 71)) := by kernel_rfl
theorem k30_4 : P30 [1,1] = .ret := by kernel_rfl
theorem e30 {M : Mem} : finish Try.prog Try.f30 #[g0,g1,g2] M = some (g0, M) := by kernel_rfl
theorem w30_0 {M : Mem} {Q : Value → Mem → Prop} (H :
    Q (.pointer (some ⟨2 * M.nb.size, 0, none⟩)) (M.new (.cells #[.slice none 0 0, .int .i64 0, .bool true] 71))) :
    Cn Try.prog 30 #[] M Q := by
  refine Cn.of b30 d30 t30 ?_
  refine Rn.seq k30_0 (Rn.region k30_1 (fun call K => r30_0) (Rch.leaf (Rn.seq k30_2 (Rn.region k30_3 (fun call K => r30_1) (Rch.leaf ?_)))))
  exact Rn.ret k30_4 e30 H


/-! ### (*zoetrope/bits.Writer).there: function 45 -/
noncomputable abbrev P45 (p : List Nat) : Code := subC (codeOf Try.f45) p
noncomputable abbrev O45 (p : List Nat) : Array Oper := opsOf (subC (codeOf Try.f45) p)
theorem b45 : Try.prog.funcs[45]? = some Try.f45 ∧ (Orc.tab Try.prog).lookup 45 = none := ⟨by kernel_rfl, by kernel_rfl⟩
theorem d45 : Try.f45.body = some (P45 []) := by kernel_rfl
theorem t45 {x0 : Option Addr} : #[.pointer x0] ++ Array.replicate (Try.f45.ntmps - (#[.pointer x0] : Array Value).size) undef = #[.pointer x0,undef,undef,undef,undef,undef,undef,undef,undef,undef,undef] := by kernel_rfl
theorem k45_0 : P45 [] = .seq (P45 [0]) (P45 [1]) := by kernel_rfl
theorem k45_1 : P45 [0] = .region 0 (O45 [0]) false := by kernel_rfl
theorem r45_0 {M : Mem} {call : CallM} {K : Array Value → Mem → R} :
    opsK Try.prog (fun _ => call) (O45 [0]) (O45 [0]).toList 0 #[g0,g1,g2,g3,g4,g5,g6,g7,g8,g9,g10] M K = K #[g0,g1,.bool false,g3,g4,g5,g6,g7,g8,g9,g10] M := by kernel_rfl
theorem k45_2 : P45 [1] = .seq (P45 [1,0]) (P45 [1,1]) := by kernel_rfl
theorem k45_3 : P45 [1,0] = .region 1 (O45 [1,0]) false := by kernel_rfl
theorem r45_1 {x0 : Option Addr} {M : Mem} {call : CallM} {K : Array Value → Mem → R} :
    opsK Try.prog (fun _ => call) (O45 [1,0]) (O45 [1,0]).toList 0 #[.pointer x0,g1,g2,g3,g4,g5,g6,g7,g8,g9,g10] M K = withK (fun w2 w5 w6 w7 w8 w9 w10 M => K #[.pointer x0,g1,w2,.pointer x0,.bool x0.isSome,w5,w6,w7,w8,w9,w10] M) fun k => cond x0.isSome ((x0).bind fun a_1 => (M.boolAt a_1.block (a_1.off + 2)).bind fun b_2 => k (.bool b_2) (.bool true) (.pointer x0) (.pointer (some a_1)) (.pointer (some ⟨a_1.block, a_1.off + 2, none⟩)) (.bool b_2) (.bool b_2) M) (k (.bool false) (.bool false) undef undef undef undef (.bool false) M) := by kernel_rfl
theorem k45_4 : P45 [1,1] = .ret := by kernel_rfl
theorem e45 {M : Mem} : finish Try.prog Try.f45 #[g0,g1,g2,g3,g4,g5,g6,g7,g8,g9,g10] M = some (g2, M) := by kernel_rfl
theorem w45_0 {x0 : Option Addr} {M : Mem} {Q : Value → Mem → Prop} (H :
    ((x0.isSome = true →
     ∃ a1', x0 = some a1' ∧
     ∃ b2', M.boolAt a1'.block (a1'.off + 2) = some b2' ∧
     Q (.bool b2') M) ∧
     (x0.isSome = false →
     Q (.bool false) M))) :
    Cn Try.prog 45 #[.pointer x0] M Q := by
  refine Cn.of b45 d45 t45 ?_
  refine Rn.seq k45_0 (Rn.region k45_1 (fun call K => r45_0) (Rch.leaf (Rn.seq k45_2 (Rn.region k45_3 (fun call K => r45_1) ?_))))
  refine Rch.cB (fun h => ?_) (fun h => ?_)
  · replace H := H.1 (h)
    refine Rch.ex H fun a1' H => Rch.ex H fun b2' H => Rch.leaf ?_
    exact Rn.ret k45_4 e45 H
  · replace H := H.2 (h)
    refine Rch.leaf ?_
    exact Rn.ret k45_4 e45 H


/-! ### (*zoetrope/bits.Writer).Bytes: function 33 -/
noncomputable abbrev P33 (p : List Nat) : Code := subC (codeOf Try.f33) p
noncomputable abbrev O33 (p : List Nat) : Array Oper := opsOf (subC (codeOf Try.f33) p)
theorem b33 : Try.prog.funcs[33]? = some Try.f33 ∧ (Orc.tab Try.prog).lookup 33 = none := ⟨by kernel_rfl, by kernel_rfl⟩
theorem d33 : Try.f33.body = some (P33 []) := by kernel_rfl
theorem t33 {x0 : Option Addr} : #[.pointer x0] ++ Array.replicate (Try.f33.ntmps - (#[.pointer x0] : Array Value).size) undef = #[.pointer x0,undef,undef,undef,undef,undef,undef,undef,undef,undef,undef] := by kernel_rfl
theorem k33_0 : P33 [] = .seq (P33 [0]) (P33 [1]) := by kernel_rfl
theorem k33_1 : P33 [0] = .region 0 (O33 [0]) false := by kernel_rfl
theorem r33_0 {M : Mem} {call : CallM} {K : Array Value → Mem → R} :
    opsK Try.prog (fun _ => call) (O33 [0]) (O33 [0]).toList 0 #[g0,g1,g2,g3,g4,g5,g6,g7,g8,g9,g10] M K = K #[g0,g1,.slice none 0 0,g3,g4,g5,g6,g7,g8,g9,g10] M := by kernel_rfl
theorem k33_2 : P33 [1] = .seq (P33 [1,0]) (P33 [1,1]) := by kernel_rfl
theorem k33_3 : P33 [1,0] = .seq (P33 [1,0,0]) (P33 [1,0,1]) := by kernel_rfl
theorem k33_4 : P33 [1,0,0] = .region 1 (O33 [1,0,0]) false := by kernel_rfl
theorem r33_1 {x0 : Option Addr} {M : Mem} {call : CallM} {K : Array Value → Mem → R} :
    opsK Try.prog (fun _ => call) (O33 [1,0,0]) (O33 [1,0,0]).toList 0 #[.pointer x0,g1,g2,g3,g4,g5,g6,g7,g8,g9,g10] M K = (call 45 #[.pointer x0] M).bind fun r_1 => (asB r_1.1).bind fun b_2 => K #[.pointer x0,g1,g2,.pointer x0,.bool b_2,.bool (!b_2),g6,g7,g8,g9,g10] r_1.2 := by kernel_rfl
theorem c33_5 : P33 [1,0,1] = .cond (.tmp 5) (P33 [1,0,1,0]) (P33 [1,0,1,1]) := by kernel_rfl
theorem k33_6 : P33 [1,0,1,0] = .seq (P33 [1,0,1,0,0]) (P33 [1,0,1,0,1]) := by kernel_rfl
theorem k33_7 : P33 [1,0,1,0,0] = .region 2 (O33 [1,0,1,0,0]) false := by kernel_rfl
theorem r33_2 {M : Mem} {call : CallM} {K : Array Value → Mem → R} :
    opsK Try.prog (fun _ => call) (O33 [1,0,1,0,0]) (O33 [1,0,1,0,0]).toList 0 #[g0,g1,g2,g3,g4,g5,g6,g7,g8,g9,g10] M K = K #[g0,g1,.slice none 0 0,g3,g4,g5,g6,g7,g8,g9,g10] M := by kernel_rfl
theorem k33_8 : P33 [1,0,1,0,1] = .ret := by kernel_rfl
theorem e33 {M : Mem} : finish Try.prog Try.f33 #[g0,g1,g2,g3,g4,g5,g6,g7,g8,g9,g10] M = some (g2, M) := by kernel_rfl
theorem k33_10 : P33 [1,0,1,1] = .skip := by kernel_rfl
theorem k33_11 : P33 [1,1] = .seq (P33 [1,1,0]) (P33 [1,1,1]) := by kernel_rfl
theorem k33_12 : P33 [1,1,0] = .region 3 (O33 [1,1,0]) false := by kernel_rfl
theorem r33_3 {x0 : Option Addr} {M : Mem} {call : CallM} {K : Array Value → Mem → R} :
    opsK Try.prog (fun _ => call) (O33 [1,1,0]) (O33 [1,1,0]).toList 0 #[.pointer x0,g1,g2,g3,g4,g5,g6,g7,g8,g9,g10] M K = (x0).bind fun a_1 => (M.slAt a_1.block a_1.off).bind fun s_2 => (call 38 #[.slice s_2.1 (s_2.2.1) (s_2.2.2)] M).bind fun r_3 => (asS r_3.1).bind fun s_4 => K #[.pointer x0,g1,.slice s_4.1 (s_4.2.1) (s_4.2.2),g3,g4,g5,.pointer x0,.pointer (some a_1),.pointer (some ⟨a_1.block, a_1.off, none⟩),.slice s_2.1 (s_2.2.1) (s_2.2.2),.slice s_4.1 (s_4.2.1) (s_4.2.2)] r_3.2 := by kernel_rfl
theorem k33_13 : P33 [1,1,1] = .ret := by kernel_rfl
theorem w33_0 {x0 : Option Addr} {M : Mem} {Q : Value → Mem → Prop} (H :
    Cn Try.prog 45 #[.pointer x0] M fun v1' N1' =>
     ∃ b2', asB v1' = some b2' ∧
     (((!b2') = true →
      Q (.slice none 0 0) N1') ∧
      ((!b2') = false →
      ∃ a3', x0 = some a3' ∧
      ∃ s4', N1'.slAt a3'.block a3'.off = some s4' ∧
      Cn Try.prog 38 #[.slice s4'.1 (s4'.2.1) (s4'.2.2)] N1' fun v5' N5' =>
       ∃ s6', asS v5' = some s6' ∧
       Q (.slice s6'.1 (s6'.2.1) (s6'.2.2)) N5'))) :
    Cn Try.prog 33 #[.pointer x0] M Q := by
  refine Cn.of b33 d33 t33 ?_
  refine Rn.seq k33_0 (Rn.region k33_1 (fun call K => r33_0) (Rch.leaf (Rn.seq k33_2 (Rn.seq k33_3 (Rn.region k33_4 (fun call K => r33_1) (Rch.call H fun v1' N1' H => Rch.ex H fun b2' H => Rch.leaf ?_))))))
  refine Rn.cnd (v := !b2') ⟨c33_5, rfl, by kernel_rfl⟩ (fun h => ?_) (fun h => ?_)
  · replace H := H.1 (h)
    refine Rn.seq k33_6 (Rn.region k33_7 (fun call K => r33_2) (Rch.leaf ?_))
    exact Rn.ret k33_8 e33 H
  · replace H := H.2 (h)
    refine Rn.skip k33_10 (Rn.seq k33_11 (Rn.region k33_12 (fun call K => r33_3) (Rch.ex H fun a3' H => Rch.ex H fun s4' H => Rch.call H fun v5' N5' H => Rch.ex H fun s6' H => Rch.leaf ?_)))
    exact Rn.ret k33_13 e33 H


/-! ### math/bits.Len32: function 46 -/
noncomputable abbrev P46 (p : List Nat) : Code := subC (codeOf Try.f46) p
noncomputable abbrev O46 (p : List Nat) : Array Oper := opsOf (subC (codeOf Try.f46) p)
theorem b46 : Try.prog.funcs[46]? = some Try.f46 ∧ (Orc.tab Try.prog).lookup 46 = none := ⟨by kernel_rfl, by kernel_rfl⟩
theorem d46 : Try.f46.body = some (P46 []) := by kernel_rfl
theorem t46 {x0 : Int} : #[.int .u32 x0] ++ Array.replicate (Try.f46.ntmps - (#[.int .u32 x0] : Array Value).size) undef = #[.int .u32 x0,undef,undef,undef,undef,undef,undef,undef,undef,undef,undef,undef,undef,undef,undef,undef,undef,undef,undef] := by kernel_rfl
theorem k46_0 : P46 [] = .seq (P46 [0]) (P46 [1]) := by kernel_rfl
theorem k46_1 : P46 [0] = .region 0 (O46 [0]) false := by kernel_rfl
theorem r46_0 {M : Mem} {call : CallM} {K : Array Value → Mem → R} :
    opsK Try.prog (fun _ => call) (O46 [0]) (O46 [0]).toList 0 #[g0,g1,g2,g3,g4,g5,g6,g7,g8,g9,g10,g11,g12,g13,g14,g15,g16,g17,g18] M K = K #[g0,g1,.int .i64 0,g3,g4,g5,g6,g7,g8,g9,g10,g11,g12,g13,g14,g15,g16,g17,g18] M := by kernel_rfl
theorem k46_2 : P46 [1] = .seq (P46 [1,0]) (P46 [1,1]) := by kernel_rfl
theorem k46_3 : P46 [1,0] = .seq (P46 [1,0,0]) (P46 [1,0,1]) := by kernel_rfl
theorem k46_4 : P46 [1,0,0] = .region 1 (O46 [1,0,0]) false := by kernel_rfl
theorem r46_1 {x0 : Int} {M : Mem} {call : CallM} {K : Array Value → Mem → R} :
    opsK Try.prog (fun _ => call) (O46 [1,0,0]) (O46 [1,0,0]).toList 0 #[.int .u32 x0,g1,g2,g3,g4,g5,g6,g7,g8,g9,g10,g11,g12,g13,g14,g15,g16,g17,g18] M K = K #[.int .u32 x0,g1,g2,.int .u32 x0,.bool (decide (x0 ≥ 65536)),g5,g6,g7,g8,g9,g10,g11,g12,g13,g14,g15,g16,g17,g18] M := by kernel_rfl
theorem c46_5 : P46 [1,0,1] = .cond (.tmp 4) (P46 [1,0,1,0]) (P46 [1,0,1,1]) := by kernel_rfl
theorem k46_6 : P46 [1,0,1,0] = .seq (P46 [1,0,1,0,0]) (P46 [1,0,1,0,1]) := by kernel_rfl
theorem k46_7 : P46 [1,0,1,0,0] = .region 2 (O46 [1,0,1,0,0]) false := by kernel_rfl
theorem r46_2 {x0 : Int} {M : Mem} {call : CallM} {K : Array Value → Mem → R} :
    opsK Try.prog (fun _ => call) (O46 [1,0,1,0,0]) (O46 [1,0,1,0,0]).toList 0 #[.int .u32 x0,g1,g2,g3,g4,g5,g6,g7,g8,g9,g10,g11,g12,g13,g14,g15,g16,g17,g18] M K = K #[.int .u32 (x0.fdiv (2 ^ 16)),g1,g2,g3,g4,.int .u32 x0,.int .u32 (x0.fdiv (2 ^ 16)),g7,g8,g9,g10,g11,g12,g13,g14,g15,g16,g17,g18] M := by kernel_rfl
theorem k46_8 : P46 [1,0,1,0,1] = .region 3 (O46 [1,0,1,0,1]) false := by kernel_rfl
theorem r46_3 {M : Mem} {call : CallM} {K : Array Value → Mem → R} :
    opsK Try.prog (fun _ => call) (O46 [1,0,1,0,1]) (O46 [1,0,1,0,1]).toList 0 #[g0,g1,g2,g3,g4,g5,g6,g7,g8,g9,g10,g11,g12,g13,g14,g15,g16,g17,g18] M K = K #[g0,g1,.int .i64 16,g3,g4,g5,g6,g7,g8,g9,g10,g11,g12,g13,g14,g15,g16,g17,g18] M := by kernel_rfl
theorem k46_9 : P46 [1,1] = .seq (P46 [1,1,0]) (P46 [1,1,1]) := by kernel_rfl
theorem k46_10 : P46 [1,1,0] = .seq (P46 [1,1,0,0]) (P46 [1,1,0,1]) := by kernel_rfl
theorem k46_11 : P46 [1,1,0,0] = .region 4 (O46 [1,1,0,0]) false := by kernel_rfl
theorem r46_4 {x0 : Int} {M : Mem} {call : CallM} {K : Array Value → Mem → R} :
    opsK Try.prog (fun _ => call) (O46 [1,1,0,0]) (O46 [1,1,0,0]).toList 0 #[.int .u32 x0,g1,g2,g3,g4,g5,g6,g7,g8,g9,g10,g11,g12,g13,g14,g15,g16,g17,g18] M K = K #[.int .u32 x0,g1,g2,g3,g4,g5,g6,.int .u32 x0,.bool (decide (x0 ≥ 256)),g9,g10,g11,g12,g13,g14,g15,g16,g17,g18] M := by kernel_rfl
theorem c46_12 : P46 [1,1,0,1] = .cond (.tmp 8) (P46 [1,1,0,1,0]) (P46 [1,1,0,1,1]) := by kernel_rfl
theorem k46_13 : P46 [1,1,0,1,0] = .seq (P46 [1,1,0,1,0,0]) (P46 [1,1,0,1,0,1]) := by kernel_rfl
theorem k46_14 : P46 [1,1,0,1,0,0] = .region 5 (O46 [1,1,0,1,0,0]) false := by kernel_rfl
theorem r46_5 {x0 : Int} {M : Mem} {call : CallM} {K : Array Value → Mem → R} :
    opsK Try.prog (fun _ => call) (O46 [1,1,0,1,0,0]) (O46 [1,1,0,1,0,0]).toList 0 #[.int .u32 x0,g1,g2,g3,g4,g5,g6,g7,g8,g9,g10,g11,g12,g13,g14,g15,g16,g17,g18] M K = K #[.int .u32 (x0.fdiv (2 ^ 8)),g1,g2,g3,g4,g5,g6,g7,g8,.int .u32 x0,.int .u32 (x0.fdiv (2 ^ 8)),g11,g12,g13,g14,g15,g16,g17,g18] M := by kernel_rfl
theorem k46_15 : P46 [1,1,0,1,0,1] = .region 6 (O46 [1,1,0,1,0,1]) false := by kernel_rfl
theorem r46_6 {x2 : Int} {M : Mem} {call : CallM} {K : Array Value → Mem → R} :
    opsK Try.prog (fun _ => call) (O46 [1,1,0,1,0,1]) (O46 [1,1,0,1,0,1]).toList 0 #[g0,g1,.int .i64 x2,g3,g4,g5,g6,g7,g8,g9,g10,g11,g12,g13,g14,g15,g16,g17,g18] M K = K #[g0,g1,.int .i64 (IntKind.i64.wrap (x2 + 8)),g3,g4,g5,g6,g7,g8,g9,g10,.int .i64 x2,.int .i64 (IntKind.i64.wrap (x2 + 8)),g13,g14,g15,g16,g17,g18] M := by kernel_rfl
theorem k46_16 : P46 [1,1,1] = .seq (P46 [1,1,1,0]) (P46 [1,1,1,1]) := by kernel_rfl
theorem k46_17 : P46 [1,1,1,0] = .region 7 (O46 [1,1,1,0]) false := by kernel_rfl
theorem r46_7 {x0 x2 : Int} {M : Mem} {call : CallM} {K : Array Value → Mem → R} :
    opsK Try.prog (fun _ => call) (O46 [1,1,1,0]) (O46 [1,1,1,0]).toList 0 #[.int .u32 x0,g1,.int .i64 x2,g3,g4,g5,g6,g7,g8,g9,g10,g11,g12,g13,g14,g15,g16,g17,g18] M K = (strV Try.prog 9 (.string str0) (.int .u8 (IntKind.u8.wrap (x0)))).bind fun v_1 => (asI .u8 v_1).bind fun x_2 => K #[.int .u32 x0,g1,.int .i64 (IntKind.i64.wrap (x2 + (IntKind.i64.wrap (x_2)))),g3,g4,g5,g6,g7,g8,g9,g10,g11,g12,.int .i64 x2,.int .u32 x0,.int .u8 (IntKind.u8.wrap (x0)),.int .u8 x_2,.int .i64 (IntKind.i64.wrap (x_2)),.int .i64 (IntKind.i64.wrap (x2 + (IntKind.i64.wrap (x_2))))] M := by kernel_rfl
theorem k46_18 : P46 [1,1,1,1] = .ret := by kernel_rfl
theorem e46 {M : Mem} : finish Try.prog Try.f46 #[g0,g1,g2,g3,g4,g5,g6,g7,g8,g9,g10,g11,g12,g13,g14,g15,g16,g17,g18] M = some (g2, M) := by kernel_rfl
theorem k46_20 : P46 [1,1,0,1,1] = .skip := by kernel_rfl
theorem k46_21 : P46 [1,0,1,1] = .skip := by kernel_rfl
theorem w46_0 {x0 : Int} {M : Mem} {Q : Value → Mem → Prop} (H :
    ((x0 ≥ 65536 →
     (((x0.fdiv (2 ^ 16)) ≥ 256 →
      ∃ v1', strV Try.prog 9 (.string str0) (.int .u8 (IntKind.u8.wrap (((x0.fdiv (2 ^ 16)).fdiv (2 ^ 8))))) = some v1' ∧
      ∃ x2', asI .u8 v1' = some x2' ∧
      Q (.int .i64 (IntKind.i64.wrap ((IntKind.i64.wrap (16 + 8)) + (IntKind.i64.wrap (x2'))))) M) ∧
      (¬ ((x0.fdiv (2 ^ 16)) ≥ 256) →
      ∃ v3', strV Try.prog 9 (.string str0) (.int .u8 (IntKind.u8.wrap ((x0.fdiv (2 ^ 16))))) = some v3' ∧
      ∃ x4', asI .u8 v3' = some x4' ∧
      Q (.int .i64 (IntKind.i64.wrap (16 + (IntKind.i64.wrap (x4'))))) M))) ∧
     (¬ (x0 ≥ 65536) →
     ((x0 ≥ 256 →
      ∃ v5', strV Try.prog 9 (.string str0) (.int .u8 (IntKind.u8.wrap ((x0.fdiv (2 ^ 8))))) = some v5' ∧
      ∃ x6', asI .u8 v5' = some x6' ∧
      Q (.int .i64 (IntKind.i64.wrap ((IntKind.i64.wrap (0 + 8)) + (IntKind.i64.wrap (x6'))))) M) ∧
      (¬ (x0 ≥ 256) →
      ∃ v7', strV Try.prog 9 (.string str0) (.int .u8 (IntKind.u8.wrap (x0))) = some v7' ∧
      ∃ x8', asI .u8 v7' = some x8' ∧
      Q (.int .i64 (IntKind.i64.wrap (0 + (IntKind.i64.wrap (x8'))))) M))))) :
    Cn Try.prog 46 #[.int .u32 x0] M Q := by
  refine Cn.of b46 d46 t46 ?_
  refine Rn.seq k46_0 (Rn.region k46_1 (fun call K => r46_0) (Rch.leaf (Rn.seq k46_2 (Rn.seq k46_3 (Rn.region k46_4 (fun call K => r46_1) (Rch.leaf ?_))))))
  refine Rn.cnd (v := decide (x0 ≥ 65536)) ⟨c46_5, rfl, by kernel_rfl⟩ (fun h => ?_) (fun h => ?_)
  · replace H := H.1 (of_decide_eq_true h)
    refine Rn.seq k46_6 (Rn.region k46_7 (fun call K => r46_2) (Rch.leaf (Rn.region k46_8 (fun call K => r46_3) (Rch.leaf (Rn.seq k46_9 (Rn.seq k46_10 (Rn.region k46_11 (fun call K => r46_4) (Rch.leaf ?_))))))))
    refine Rn.cnd (v := decide ((x0.fdiv (2 ^ 16)) ≥ 256)) ⟨c46_12, rfl, by kernel_rfl⟩ (fun h => ?_) (fun h => ?_)
    · replace H := H.1 (of_decide_eq_true h)
      refine Rn.seq k46_13 (Rn.region k46_14 (fun call K => r46_5) (Rch.leaf (Rn.region k46_15 (fun call K => r46_6) (Rch.leaf (Rn.seq k46_16 (Rn.region k46_17 (fun call K => r46_7) (Rch.ex H fun v1' H => Rch.ex H fun x2' H => Rch.leaf ?_)))))))
      exact Rn.ret k46_18 e46 H
    · replace H := H.2 (of_decide_eq_false h)
      refine Rn.skip k46_20 (Rn.seq k46_16 (Rn.region k46_17 (fun call K => r46_7) (Rch.ex H fun v3' H => Rch.ex H fun x4' H => Rch.leaf ?_)))
      exact Rn.ret k46_18 e46 H
  · replace H := H.2 (of_decide_eq_false h)
    refine Rn.skip k46_21 (Rn.seq k46_9 (Rn.seq k46_10 (Rn.region k46_11 (fun call K => r46_4) (Rch.leaf ?_))))
    refine Rn.cnd (v := decide (x0 ≥ 256)) ⟨c46_12, rfl, by kernel_rfl⟩ (fun h => ?_) (fun h => ?_)
    · replace H := H.1 (of_decide_eq_true h)
      refine Rn.seq k46_13 (Rn.region k46_14 (fun call K => r46_5) (Rch.leaf (Rn.region k46_15 (fun call K => r46_6) (Rch.leaf (Rn.seq k46_16 (Rn.region k46_17 (fun call K => r46_7) (Rch.ex H fun v5' H => Rch.ex H fun x6' H => Rch.leaf ?_)))))))
      exact Rn.ret k46_18 e46 H
    · replace H := H.2 (of_decide_eq_false h)
      refine Rn.skip k46_20 (Rn.seq k46_16 (Rn.region k46_17 (fun call K => r46_7) (Rch.ex H fun v7' H => Rch.ex H fun x8' H => Rch.leaf ?_)))
      exact Rn.ret k46_18 e46 H


/-! ### (*zoetrope/bits.Writer).put: function 47 -/
noncomputable abbrev P47 (p : List Nat) : Code := subC (codeOf Try.f47) p
noncomputable abbrev O47 (p : List Nat) : Array Oper := opsOf (subC (codeOf Try.f47) p)
theorem b47 : Try.prog.funcs[47]? = some Try.f47 ∧ (Orc.tab Try.prog).lookup 47 = none := ⟨by kernel_rfl, by kernel_rfl⟩
theorem d47 : Try.f47.body = some (P47 []) := by kernel_rfl
theorem t47 {x0 : Option Addr} {x1 x2 : Int} : #[.pointer x0,.int .u64 x1,.int .i64 x2] ++ Array.replicate (Try.f47.ntmps - (#[.pointer x0,.int .u64 x1,.int .i64 x2] : Array Value).size) undef = #[.pointer x0,.int .u64 x1,.int .i64 x2,undef,undef,undef,undef,undef,undef,undef,undef,undef,undef,undef,undef,undef,undef,undef,undef,undef,undef,undef,undef,undef,undef,undef,undef,undef,undef,undef,undef,undef,undef,undef,undef,undef,undef,undef,undef,undef,undef,undef,undef,undef,undef,undef,undef,undef,undef,undef,undef,undef,undef,undef,undef,undef,undef,undef,undef,undef,undef] := by kernel_rfl
theorem k47_0 : P47 [] = .seq (P47 [0]) (P47 [1]) := by kernel_rfl
theorem k47_1 : P47 [0] = .region 0 (O47 [0]) false := by kernel_rfl
theorem r47_0 {x2 : Int} {M : Mem} {call : CallM} {K : Array Value → Mem → R} :
    opsK Try.prog (fun _ => call) (O47 [0]) (O47 [0]).toList 0 #[g0,g1,.int .i64 x2,g3,g4,g5,g6,g7,g8,g9,g10,g11,g12,g13,g14,g15,g16,g17,g18,g19,g20,g21,g22,g23,g24,g25,g26,g27,g28,g29,g30,g31,g32,g33,g34,g35,g36,g37,g38,g39,g40,g41,g42,g43,g44,g45,g46,g47,g48,g49,g50,g51,g52,g53,g54,g55,g56,g57,g58,g59,g60] M K = K #[g0,g1,.int .i64 x2,g3,g4,g5,.int .i64 (IntKind.i64.wrap (x2 - 1)),.int .i64 x2,.int .i64 (IntKind.i64.wrap (x2 - 1)),g9,g10,g11,g12,g13,g14,g15,g16,g17,g18,g19,g20,g21,g22,g23,g24,g25,g26,g27,g28,g29,g30,g31,g32,g33,g34,g35,g36,g37,g38,g39,g40,g41,g42,g43,g44,g45,g46,g47,g48,g49,g50,g51,g52,g53,g54,g55,g56,g57,g58,g59,g60] M := by kernel_rfl
theorem k47_2 : P47 [1] = .block 0 (P47 [1,0]) := by kernel_rfl
theorem k47_3 : P47 [1,0] = .loop (P47 [1,0,0]) := by kernel_rfl
theorem k47_4 : P47 [1,0,0] = .seq (P47 [1,0,0,0]) (P47 [1,0,0,1]) := by kernel_rfl
theorem k47_5 : P47 [1,0,0,0] = .seq (P47 [1,0,0,0,0]) (P47 [1,0,0,0,1]) := by kernel_rfl
theorem k47_6 : P47 [1,0,0,0,0] = .region 1 (O47 [1,0,0,0,0]) false := by kernel_rfl
theorem r47_1 {x6 : Int} {M : Mem} {call : CallM} {K : Array Value → Mem → R} :
    opsK Try.prog (fun _ => call) (O47 [1,0,0,0,0]) (O47 [1,0,0,0,0]).toList 0 #[g0,g1,g2,g3,g4,g5,.int .i64 x6,g7,g8,g9,g10,g11,g12,g13,g14,g15,g16,g17,g18,g19,g20,g21,g22,g23,g24,g25,g26,g27,g28,g29,g30,g31,g32,g33,g34,g35,g36,g37,g38,g39,g40,g41,g42,g43,g44,g45,g46,g47,g48,g49,g50,g51,g52,g53,g54,g55,g56,g57,g58,g59,g60] M K = K #[g0,g1,g2,g3,g4,g5,.int .i64 x6,g7,g8,.int .i64 x6,.bool (decide (x6 ≥ 0)),g11,g12,g13,g14,g15,g16,g17,g18,g19,g20,g21,g22,g23,g24,g25,g26,g27,g28,g29,g30,g31,g32,g33,g34,g35,g36,g37,g38,g39,g40,g41,g42,g43,g44,g45,g46,g47,g48,g49,g50,g51,g52,g53,g54,g55,g56,g57,g58,g59,g60] M := by kernel_rfl
theorem c47_7 : P47 [1,0,0,0,1] = .cond (.tmp 10) (P47 [1,0,0,0,1,0]) (P47 [1,0,0,0,1,1]) := by kernel_rfl
theorem k47_8 : P47 [1,0,0,0,1,0] = .skip := by kernel_rfl
theorem k47_9 : P47 [1,0,0,1] = .seq (P47 [1,0,0,1,0]) (P47 [1,0,0,1,1]) := by kernel_rfl
theorem k47_10 : P47 [1,0,0,1,0] = .block 1 (P47 [1,0,0,1,0,0]) := by kernel_rfl
theorem k47_11 : P47 [1,0,0,1,0,0] = .seq (P47 [1,0,0,1,0,0,0]) (P47 [1,0,0,1,0,0,1]) := by kernel_rfl
theorem k47_12 : P47 [1,0,0,1,0,0,0] = .seq (P47 [1,0,0,1,0,0,0,0]) (P47 [1,0,0,1,0,0,0,1]) := by kernel_rfl
theorem k47_13 : P47 [1,0,0,1,0,0,0,0] = .region 3 (O47 [1,0,0,1,0,0,0,0]) false := by kernel_rfl
theorem r47_3 {x0 : Option Addr} {M : Mem} {call : CallM} {K : Array Value → Mem → R} :
    opsK Try.prog (fun _ => call) (O47 [1,0,0,1,0,0,0,0]) (O47 [1,0,0,1,0,0,0,0]).toList 0 #[.pointer x0,g1,g2,g3,g4,g5,g6,g7,g8,g9,g10,g11,g12,g13,g14,g15,g16,g17,g18,g19,g20,g21,g22,g23,g24,g25,g26,g27,g28,g29,g30,g31,g32,g33,g34,g35,g36,g37,g38,g39,g40,g41,g42,g43,g44,g45,g46,g47,g48,g49,g50,g51,g52,g53,g54,g55,g56,g57,g58,g59,g60] M K = (x0).bind fun a_1 => (M.intAt .i64 a_1.block (a_1.off + 1)).bind fun x_2 => K #[.pointer x0,g1,g2,g3,g4,g5,g6,g7,g8,g9,g10,g11,g12,.pointer x0,.pointer (some a_1),.pointer (some ⟨a_1.block, a_1.off + 1, none⟩),.int .i64 x_2,.bool (x_2 == 0),g18,g19,g20,g21,g22,g23,g24,g25,g26,g27,g28,g29,g30,g31,g32,g33,g34,g35,g36,g37,g38,g39,g40,g41,g42,g43,g44,g45,g46,g47,g48,g49,g50,g51,g52,g53,g54,g55,g56,g57,g58,g59,g60] M := by kernel_rfl
theorem c47_14 : P47 [1,0,0,1,0,0,0,1] = .cond (.tmp 17) (P47 [1,0,0,1,0,0,0,1,0]) (P47 [1,0,0,1,0,0,0,1,1]) := by kernel_rfl
theorem k47_15 : P47 [1,0,0,1,0,0,0,1,0] = .seq (P47 [1,0,0,1,0,0,0,1,0,0]) (P47 [1,0,0,1,0,0,0,1,0,1]) := by kernel_rfl
theorem k47_16 : P47 [1,0,0,1,0,0,0,1,0,0] = .region 4 (O47 [1,0,0,1,0,0,0,1,0,0]) false := by kernel_rfl
theorem r47_4 {x0 : Option Addr} {M : Mem} {call : CallM} {K : Array Value → Mem → R} :
    opsK Try.prog (fun _ => call) (O47 [1,0,0,1,0,0,0,1,0,0]) (O47 [1,0,0,1,0,0,0,1,0,0]).toList 0 #[.pointer x0,g1,g2,g3,g4,g5,g6,g7,g8,g9,g10,g11,g12,g13,g14,g15,g16,g17,g18,g19,g20,g21,g22,g23,g24,g25,g26,g27,g28,g29,g30,g31,g32,g33,g34,g35,g36,g37,g38,g39,g40,g41,g42,g43,g44,g45,g46,g47,g48,g49,g50,g51,g52,g53,g54,g55,g56,g57,g58,g59,g60] M K = (x0).bind fun a_1 => (M.slAt a_1.block a_1.off).bind fun s_2 => (appendP Try.prog #[22, 22] (.slice s_2.1 (s_2.2.1) (s_2.2.2)) (.slice (some ⟨2 * M.nb.size, 0, none⟩) 1 1) (M.new (.cells #[.int .u8 0] 5))).bind fun r_3 => (asS r_3.1).bind fun s_4 => (x0).bind fun a_5 => (r_3.2.put a_5.block a_5.off (.slice s_4.1 (s_4.2.1) (s_4.2.2))).bind fun M_6 => K #[.pointer x0,g1,g2,g3,g4,g5,g6,g7,g8,g9,g10,g11,g12,g13,g14,g15,g16,g17,.pointer x0,.pointer x0,.pointer (some a_1),.pointer (some ⟨a_1.block, a_1.off, none⟩),.slice s_2.1 (s_2.2.1) (s_2.2.2),.slice (some ⟨2 * M.nb.size, 0, none⟩) 1 1,.slice s_4.1 (s_4.2.1) (s_4.2.2),.pointer (some a_5),.pointer (some ⟨a_5.block, a_5.off, none⟩),g27,g28,g29,g30,g31,g32,g33,g34,g35,g36,g37,g38,g39,g40,g41,g42,g43,g44,g45,g46,g47,g48,g49,g50,g51,g52,g53,g54,g55,g56,g57,g58,g59,g60] M_6 := by kernel_rfl
theorem k47_17 : P47 [1,0,0,1,0,0,0,1,0,1] = .region 5 (O47 [1,0,0,1,0,0,0,1,0,1]) false := by kernel_rfl
theorem r47_5 {x0 : Option Addr} {M : Mem} {call : CallM} {K : Array Value → Mem → R} :
    opsK Try.prog (fun _ => call) (O47 [1,0,0,1,0,0,0,1,0,1]) (O47 [1,0,0,1,0,0,0,1,0,1]).toList 0 #[.pointer x0,g1,g2,g3,g4,g5,g6,g7,g8,g9,g10,g11,g12,g13,g14,g15,g16,g17,g18,g19,g20,g21,g22,g23,g24,g25,g26,g27,g28,g29,g30,g31,g32,g33,g34,g35,g36,g37,g38,g39,g40,g41,g42,g43,g44,g45,g46,g47,g48,g49,g50,g51,g52,g53,g54,g55,g56,g57,g58,g59,g60] M K = (x0).bind fun a_1 => (M.put a_1.block (a_1.off + 1) (.int .i64 8)).bind fun M_2 => K #[.pointer x0,g1,g2,g3,g4,g5,g6,g7,g8,g9,g10,g11,g12,g13,g14,g15,g16,g17,g18,g19,g20,g21,g22,g23,g24,g25,g26,.pointer x0,.pointer (some a_1),.pointer (some ⟨a_1.block, a_1.off + 1, none⟩),g30,g31,g32,g33,g34,g35,g36,g37,g38,g39,g40,g41,g42,g43,g44,g45,g46,g47,g48,g49,g50,g51,g52,g53,g54,g55,g56,g57,g58,g59,g60] M_2 := by kernel_rfl
theorem k47_18 : P47 [1,0,0,1,0,0,1] = .seq (P47 [1,0,0,1,0,0,1,0]) (P47 [1,0,0,1,0,0,1,1]) := by kernel_rfl
theorem k47_19 : P47 [1,0,0,1,0,0,1,0] = .region 6 (O47 [1,0,0,1,0,0,1,0]) false := by kernel_rfl
theorem r47_6 {x0 : Option Addr} {M : Mem} {call : CallM} {K : Array Value → Mem → R} :
    opsK Try.prog (fun _ => call) (O47 [1,0,0,1,0,0,1,0]) (O47 [1,0,0,1,0,0,1,0]).toList 0 #[.pointer x0,g1,g2,g3,g4,g5,g6,g7,g8,g9,g10,g11,g12,g13,g14,g15,g16,g17,g18,g19,g20,g21,g22,g23,g24,g25,g26,g27,g28,g29,g30,g31,g32,g33,g34,g35,g36,g37,g38,g39,g40,g41,g42,g43,g44,g45,g46,g47,g48,g49,g50,g51,g52,g53,g54,g55,g56,g57,g58,g59,g60] M K = (x0).bind fun a_1 => (M.intAt .i64 a_1.block (a_1.off + 1)).bind fun x_2 => (x0).bind fun a_3 => (M.put a_3.block (a_3.off + 1) (.int .i64 (IntKind.i64.wrap (x_2 - 1)))).bind fun M_4 => K #[.pointer x0,g1,g2,g3,g4,g5,g6,g7,g8,g9,g10,g11,g12,g13,g14,g15,g16,g17,g18,g19,g20,g21,g22,g23,g24,g25,g26,g27,g28,g29,.pointer x0,.pointer (some a_1),.pointer (some ⟨a_1.block, a_1.off + 1, none⟩),.int .i64 x_2,.int .i64 (IntKind.i64.wrap (x_2 - 1)),.pointer (some a_3),.pointer (some ⟨a_3.block, a_3.off + 1, none⟩),g37,g38,g39,g40,g41,g42,g43,g44,g45,g46,g47,g48,g49,g50,g51,g52,g53,g54,g55,g56,g57,g58,g59,g60] M_4 := by kernel_rfl
theorem k47_20 : P47 [1,0,0,1,0,0,1,1] = .region 7 (O47 [1,0,0,1,0,0,1,1]) true ∧ drawOk (O47 [1,0,0,1,0,0,1,1]) = true := ⟨by kernel_rfl, by kernel_rfl⟩
theorem r47_7 {x0 : Option Addr} {x1 x6 : Int} {M : Mem} {call : CallM} {K : Array Value → Mem → R} :
    opsI Try.prog (callAt call (O47 [1,0,0,1,0,0,1,1])) (O47 [1,0,0,1,0,0,1,1]) (ordOf (O47 [1,0,0,1,0,0,1,1])) [] #[.pointer x0,.int .u64 x1,g2,g3,g4,g5,.int .i64 x6,g7,g8,g9,g10,g11,g12,g13,g14,g15,g16,g17,g18,g19,g20,g21,g22,g23,g24,g25,g26,g27,g28,g29,g30,g31,g32,g33,g34,g35,g36,g37,g38,g39,g40,g41,g42,g43,g44,g45,g46,g47,g48,g49,g50,g51,g52,g53,g54,g55,g56,g57,g58,g59,g60] M K = (x0).bind fun a_1 => (M.slAt a_1.block a_1.off).bind fun s_2 => (x0).bind fun a_3 => (M.slAt a_3.block a_3.off).bind fun s_4 => (idxA s_2.1 (s_2.2.1) 1 (IntKind.i64.wrap (((s_4.2.1 : Int)) - 1))).bind fun a_5 => (M.intAt .u8 a_5.block a_5.off).bind fun x_6 => (binV Try.prog .shr 74 3 (.int .u64 x1) (.int .i64 x6)).bind fun v_7 => (asI .u64 v_7).bind fun x_8 => (x0).bind fun a_9 => (M.intAt .i64 a_9.block (a_9.off + 1)).bind fun x_10 => (binV Try.prog .shl 5 3 (.int .u8 (IntKind.u8.wrap (IntKind.u64.wrap (((BitVec.ofInt (IntKind.bits .u64) x_8 &&& BitVec.ofInt (IntKind.bits .u64) 1).toNat : Int))))) (.int .i64 x_10)).bind fun v_11 => (asI .u8 v_11).bind fun x_12 => (idxA s_2.1 (s_2.2.1) 1 (IntKind.i64.wrap (((s_4.2.1 : Int)) - 1))).bind fun a_13 => (M.put a_13.block a_13.off (.int .u8 (IntKind.u8.wrap (((BitVec.ofInt (IntKind.bits .u8) x_6 ||| BitVec.ofInt (IntKind.bits .u8) x_12).toNat : Int))))).bind fun M_14 => K #[.pointer x0,.int .u64 x1,g2,g3,g4,g5,.int .i64 x6,g7,g8,g9,g10,g11,g12,g13,g14,g15,g16,g17,g18,g19,g20,g21,g22,g23,g24,g25,g26,g27,g28,g29,g30,g31,g32,g33,g34,g35,g36,.pointer x0,.pointer (some a_1),.pointer (some ⟨a_1.block, a_1.off, none⟩),.slice s_2.1 (s_2.2.1) (s_2.2.2),.pointer x0,.pointer (some a_3),.pointer (some ⟨a_3.block, a_3.off, none⟩),.slice s_4.1 (s_4.2.1) (s_4.2.2),.int .i64 ((s_4.2.1 : Int)),.int .i64 (IntKind.i64.wrap (((s_4.2.1 : Int)) - 1)),.pointer (some a_5),.int .u8 x_6,.int .u64 x1,.int .i64 x6,.int .u64 x_8,.int .u64 (IntKind.u64.wrap (((BitVec.ofInt (IntKind.bits .u64) x_8 &&& BitVec.ofInt (IntKind.bits .u64) 1).toNat : Int))),.int .u8 (IntKind.u8.wrap (IntKind.u64.wrap (((BitVec.ofInt (IntKind.bits .u64) x_8 &&& BitVec.ofInt (IntKind.bits .u64) 1).toNat : Int)))),.pointer x0,.pointer (some a_9),.pointer (some ⟨a_9.block, a_9.off + 1, none⟩),.int .i64 x_10,.int .u8 x_12,.int .u8 (IntKind.u8.wrap (((BitVec.ofInt (IntKind.bits .u8) x_6 ||| BitVec.ofInt (IntKind.bits .u8) x_12).toNat : Int))),.pointer (some a_13)] M_14 := by kernel_rfl
theorem k47_21 : P47 [1,0,0,1,1] = .region 2 (O47 [1,0,0,1,1]) false := by kernel_rfl
theorem r47_2 {x6 : Int} {M : Mem} {call : CallM} {K : Array Value → Mem → R} :
    opsK Try.prog (fun _ => call) (O47 [1,0,0,1,1]) (O47 [1,0,0,1,1]).toList 0 #[g0,g1,g2,g3,g4,g5,.int .i64 x6,g7,g8,g9,g10,g11,g12,g13,g14,g15,g16,g17,g18,g19,g20,g21,g22,g23,g24,g25,g26,g27,g28,g29,g30,g31,g32,g33,g34,g35,g36,g37,g38,g39,g40,g41,g42,g43,g44,g45,g46,g47,g48,g49,g50,g51,g52,g53,g54,g55,g56,g57,g58,g59,g60] M K = K #[g0,g1,g2,g3,g4,g5,.int .i64 (IntKind.i64.wrap (x6 - 1)),g7,g8,g9,g10,.int .i64 x6,.int .i64 (IntKind.i64.wrap (x6 - 1)),g13,g14,g15,g16,g17,g18,g19,g20,g21,g22,g23,g24,g25,g26,g27,g28,g29,g30,g31,g32,g33,g34,g35,g36,g37,g38,g39,g40,g41,g42,g43,g44,g45,g46,g47,g48,g49,g50,g51,g52,g53,g54,g55,g56,g57,g58,g59,g60] M := by kernel_rfl
theorem k47_22 : P47 [1,0,0,1,0,0,0,1,1] = .skip := by kernel_rfl
theorem k47_23 : P47 [1,0,0,0,1,1] = .exit 0 := by kernel_rfl
theorem e47 {M : Mem} : finish Try.prog Try.f47 #[g0,g1,g2,g3,g4,g5,g6,g7,g8,g9,g10,g11,g12,g13,g14,g15,g16,g17,g18,g19,g20,g21,g22,g23,g24,g25,g26,g27,g28,g29,g30,g31,g32,g33,g34,g35,g36,g37,g38,g39,g40,g41,g42,g43,g44,g45,g46,g47,g48,g49,g50,g51,g52,g53,g54,g55,g56,g57,g58,g59,g60] M = some (.tuple #[], M) := by kernel_rfl
noncomputable def S47_1 : List Item := [.code (P47 [1,0,0]), .inLoop (P47 [1,0,0]), .inBlock 0]
def A47_1 (x0 : Option Addr) (x1 x6 : Int) (M : Mem) (Q : Value → Mem → Prop) : Prop := ∀ (g2 g3 g4 g5 g7 g8 g9 g10 g11 g12 g13 g14 g15 g16 g17 g18 g19 g20 g21 g22 g23 g24 g25 g26 g27 g28 g29 g30 g31 g32 g33 g34 g35 g36 g37 g38 g39 g40 g41 g42 g43 g44 g45 g46 g47 g48 g49 g50 g51 g52 g53 g54 g55 g56 g57 g58 g59 g60 : Value), Rn Try.prog Try.f47 S47_1 #[.pointer x0, .int .u64 x1, g2, g3, g4, g5, .int .i64 x6, g7, g8, g9, g10, g11, g12, g13, g14, g15, g16, g17, g18, g19, g20, g21, g22, g23, g24, g25, g26, g27, g28, g29, g30, g31, g32, g33, g34, g35, g36, g37, g38, g39, g40, g41, g42, g43, g44, g45, g46, g47, g48, g49, g50, g51, g52, g53, g54, g55, g56, g57, g58, g59, g60] M Q
theorem w47_0 {x0 : Option Addr} {x1 x2 : Int} {M : Mem} {Q : Value → Mem → Prop} (H :
    A47_1 x0 x1 (IntKind.i64.wrap (x2 - 1)) M Q) :
    Cn Try.prog 47 #[.pointer x0, .int .u64 x1, .int .i64 x2] M Q := by
  refine Cn.of b47 d47 t47 ?_
  refine Rn.seq k47_0 (Rn.region k47_1 (fun call K => r47_0) (Rch.leaf (Rn.block k47_2 (Rn.loop k47_3 ?_))))
  exact H _ _ _ _ _ _ _ _ _ _ _ _ _ _ _ _ _ _ _ _ _ _ _ _ _ _ _ _ _ _ _ _ _ _ _ _ _ _ _ _ _ _ _ _ _ _ _ _ _ _ _ _ _ _ _ _ _ _

theorem w47_1 {x0 : Option Addr} {x1 x6 : Int} {M : Mem} {Q : Value → Mem → Prop} (H :
    ((x6 ≥ 0 →
     ∃ a1', x0 = some a1' ∧
     ∃ x2', M.intAt .i64 a1'.block (a1'.off + 1) = some x2' ∧
     ((x2' = 0 →
      ∃ a3', x0 = some a3' ∧
      ∃ s4', M.slAt a3'.block a3'.off = some s4' ∧
      ∃ r5', appendP Try.prog #[22, 22] (.slice s4'.1 (s4'.2.1) (s4'.2.2)) (.slice (some ⟨2 * M.nb.size, 0, none⟩) 1 1) (M.new (.cells #[.int .u8 0] 5)) = some r5' ∧
      ∃ s6', asS r5'.1 = some s6' ∧
      ∃ a7', x0 = some a7' ∧
      ∃ M8', r5'.2.put a7'.block a7'.off (.slice s6'.1 (s6'.2.1) (s6'.2.2)) = some M8' ∧
      ∃ a9', x0 = some a9' ∧
      ∃ M10', M8'.put a9'.block (a9'.off + 1) (.int .i64 8) = some M10' ∧
      ∃ a11', x0 = some a11' ∧
      ∃ x12', M10'.intAt .i64 a11'.block (a11'.off + 1) = some x12' ∧
      ∃ a13', x0 = some a13' ∧
      ∃ M14', M10'.put a13'.block (a13'.off + 1) (.int .i64 (IntKind.i64.wrap (x12' - 1))) = some M14' ∧
      ∃ a15', x0 = some a15' ∧
      ∃ s16', M14'.slAt a15'.block a15'.off = some s16' ∧
      ∃ a17', x0 = some a17' ∧
      ∃ s18', M14'.slAt a17'.block a17'.off = some s18' ∧
      ∃ a19', idxA s16'.1 (s16'.2.1) 1 (IntKind.i64.wrap (((s18'.2.1 : Int)) - 1)) = some a19' ∧
      ∃ x20', M14'.intAt .u8 a19'.block a19'.off = some x20' ∧
      ∃ v21', binV Try.prog .shr 74 3 (.int .u64 x1) (.int .i64 x6) = some v21' ∧
      ∃ x22', asI .u64 v21' = some x22' ∧
      ∃ a23', x0 = some a23' ∧
      ∃ x24', M14'.intAt .i64 a23'.block (a23'.off + 1) = some x24' ∧
      ∃ v25', binV Try.prog .shl 5 3 (.int .u8 (IntKind.u8.wrap (IntKind.u64.wrap (((BitVec.ofInt (IntKind.bits .u64) x22' &&& BitVec.ofInt (IntKind.bits .u64) 1).toNat : Int))))) (.int .i64 x24') = some v25' ∧
      ∃ x26', asI .u8 v25' = some x26' ∧
      ∃ a27', idxA s16'.1 (s16'.2.1) 1 (IntKind.i64.wrap (((s18'.2.1 : Int)) - 1)) = some a27' ∧
      ∃ M28', M14'.put a27'.block a27'.off (.int .u8 (IntKind.u8.wrap (((BitVec.ofInt (IntKind.bits .u8) x20' ||| BitVec.ofInt (IntKind.bits .u8) x26').toNat : Int)))) = some M28' ∧
      A47_1 x0 x1 (IntKind.i64.wrap (x6 - 1)) M28' Q) ∧
      (x2' ≠ 0 →
      ∃ a29', x0 = some a29' ∧
      ∃ x30', M.intAt .i64 a29'.block (a29'.off + 1) = some x30' ∧
      ∃ a31', x0 = some a31' ∧
      ∃ M32', M.put a31'.block (a31'.off + 1) (.int .i64 (IntKind.i64.wrap (x30' - 1))) = some M32' ∧
      ∃ a33', x0 = some a33' ∧
      ∃ s34', M32'.slAt a33'.block a33'.off = some s34' ∧
      ∃ a35', x0 = some a35' ∧
      ∃ s36', M32'.slAt a35'.block a35'.off = some s36' ∧
      ∃ a37', idxA s34'.1 (s34'.2.1) 1 (IntKind.i64.wrap (((s36'.2.1 : Int)) - 1)) = some a37' ∧
      ∃ x38', M32'.intAt .u8 a37'.block a37'.off = some x38' ∧
      ∃ v39', binV Try.prog .shr 74 3 (.int .u64 x1) (.int .i64 x6) = some v39' ∧
      ∃ x40', asI .u64 v39' = some x40' ∧
      ∃ a41', x0 = some a41' ∧
      ∃ x42', M32'.intAt .i64 a41'.block (a41'.off + 1) = some x42' ∧
      ∃ v43', binV Try.prog .shl 5 3 (.int .u8 (IntKind.u8.wrap (IntKind.u64.wrap (((BitVec.ofInt (IntKind.bits .u64) x40' &&& BitVec.ofInt (IntKind.bits .u64) 1).toNat : Int))))) (.int .i64 x42') = some v43' ∧
      ∃ x44', asI .u8 v43' = some x44' ∧
      ∃ a45', idxA s34'.1 (s34'.2.1) 1 (IntKind.i64.wrap (((s36'.2.1 : Int)) - 1)) = some a45' ∧
      ∃ M46', M32'.put a45'.block a45'.off (.int .u8 (IntKind.u8.wrap (((BitVec.ofInt (IntKind.bits .u8) x38' ||| BitVec.ofInt (IntKind.bits .u8) x44').toNat : Int)))) = some M46' ∧
      A47_1 x0 x1 (IntKind.i64.wrap (x6 - 1)) M46' Q))) ∧
     (¬ (x6 ≥ 0) →
     Q (.tuple #[]) M))) :
    A47_1 x0 x1 x6 M Q := by
  intro g2 g3 g4 g5 g7 g8 g9 g10 g11 g12 g13 g14 g15 g16 g17 g18 g19 g20 g21 g22 g23 g24 g25 g26 g27 g28 g29 g30 g31 g32 g33 g34 g35 g36 g37 g38 g39 g40 g41 g42 g43 g44 g45 g46 g47 g48 g49 g50 g51 g52 g53 g54 g55 g56 g57 g58 g59 g60
  refine Rn.seq k47_4 (Rn.seq k47_5 (Rn.region k47_6 (fun call K => r47_1) (Rch.leaf ?_)))
  refine Rn.cnd (v := decide (x6 ≥ 0)) ⟨c47_7, rfl, by kernel_rfl⟩ (fun h => ?_) (fun h => ?_)
  · replace H := H.1 (of_decide_eq_true h)
    refine Rn.skip k47_8 (Rn.seq k47_9 (Rn.block k47_10 (Rn.seq k47_11 (Rn.seq k47_12 (Rn.region k47_13 (fun call K => r47_3) (Rch.ex H fun a1' H => Rch.ex H fun x2' H => Rch.leaf ?_))))))
    refine Rn.cnd (v := x2' == 0) ⟨c47_14, rfl, by kernel_rfl⟩ (fun h => ?_) (fun h => ?_)
    · replace H := H.1 (eq_of_beq h)
      refine Rn.seq k47_15 (Rn.region k47_16 (fun call K => r47_4) (Rch.ex H fun a3' H => Rch.ex H fun s4' H => Rch.ex H fun r5' H => Rch.ex H fun s6' H => Rch.ex H fun a7' H => Rch.ex H fun M8' H => Rch.leaf (Rn.region k47_17 (fun call K => r47_5) (Rch.ex H fun a9' H => Rch.ex H fun M10' H => ?_))))
      refine Rch.leaf (Rn.seq k47_18 (Rn.region k47_19 (fun call K => r47_6) (Rch.ex H fun a11' H => Rch.ex H fun x12' H => Rch.ex H fun a13' H => Rch.ex H fun M14' H => Rch.leaf (Rn.regionD k47_20 (fun call K => r47_7) (Rch.ex H fun a15' H => Rch.ex H fun s16' H => Rch.ex H fun a17' H => ?_)))))
      refine Rch.ex H fun s18' H => Rch.ex H fun a19' H => Rch.ex H fun x20' H => Rch.ex H fun v21' H => Rch.ex H fun x22' H => Rch.ex H fun a23' H => Rch.ex H fun x24' H => Rch.ex H fun v25' H => Rch.ex H fun x26' H => Rch.ex H fun a27' H => Rch.ex H fun M28' H => Rch.leaf ?_
      refine Rn.blk (Rn.region k47_21 (fun call K => r47_2) (Rch.leaf (Rn.lp ?_)))
      exact H _ _ _ _ _ _ _ _ _ _ _ _ _ _ _ _ _ _ _ _ _ _ _ _ _ _ _ _ _ _ _ _ _ _ _ _ _ _ _ _ _ _ _ _ _ _ _ _ _ _ _ _ _ _ _ _ _ _
    · replace H := H.2 (ne_of_beq_false h)
      refine Rn.skip k47_22 (Rn.seq k47_18 (Rn.region k47_19 (fun call K => r47_6) (Rch.ex H fun a29' H => Rch.ex H fun x30' H => Rch.ex H fun a31' H => Rch.ex H fun M32' H => Rch.leaf (Rn.regionD k47_20 (fun call K => r47_7) (Rch.ex H fun a33' H => Rch.ex H fun s34' H => Rch.ex H fun a35' H => ?_)))))
      refine Rch.ex H fun s36' H => Rch.ex H fun a37' H => Rch.ex H fun x38' H => Rch.ex H fun v39' H => Rch.ex H fun x40' H => Rch.ex H fun a41' H => Rch.ex H fun x42' H => Rch.ex H fun v43' H => Rch.ex H fun x44' H => Rch.ex H fun a45' H => Rch.ex H fun M46' H => Rch.leaf ?_
      refine Rn.blk (Rn.region k47_21 (fun call K => r47_2) (Rch.leaf (Rn.lp ?_)))
      exact H _ _ _ _ _ _ _ _ _ _ _ _ _ _ _ _ _ _ _ _ _ _ _ _ _ _ _ _ _ _ _ _ _ _ _ _ _ _ _ _ _ _ _ _ _ _ _ _ _ _ _ _ _ _ _ _ _ _
  · replace H := H.2 (of_decide_eq_false h)
    refine Rn.exit k47_23 rfl ?_
    exact Rn.fin e47 H


/-! ### (*zoetrope/bits.Writer).Fixed: function 31 -/
noncomputable abbrev P31 (p : List Nat) : Code := subC (codeOf Try.f31) p
noncomputable abbrev O31 (p : List Nat) : Array Oper := opsOf (subC (codeOf Try.f31) p)
theorem b31 : Try.prog.funcs[31]? = some Try.f31 ∧ (Orc.tab Try.prog).lookup 31 = none := ⟨by kernel_rfl, by kernel_rfl⟩
theorem d31 : Try.f31.body = some (P31 []) := by kernel_rfl
theorem t31 {x0 : Option Addr} {x1 x2 : Int} : #[.pointer x0,.int .u32 x1,.int .i64 x2] ++ Array.replicate (Try.f31.ntmps - (#[.pointer x0,.int .u32 x1,.int .i64 x2] : Array Value).size) undef = #[.pointer x0,.int .u32 x1,.int .i64 x2,undef,undef,undef,undef,undef,undef,undef,undef,undef,undef,undef,undef,undef,undef,undef,undef,undef,undef,undef,undef,undef,undef,undef,undef,undef,undef] := by kernel_rfl
theorem k31_0 : P31 [] = .seq (P31 [0]) (P31 [1]) := by kernel_rfl
theorem k31_1 : P31 [0] = .region 0 (O31 [0]) false := by kernel_rfl
theorem r31_0 {M : Mem} {call : CallM} {K : Array Value → Mem → R} :
    opsK Try.prog (fun _ => call) (O31 [0]) (O31 [0]).toList 0 #[g0,g1,g2,g3,g4,g5,g6,g7,g8,g9,g10,g11,g12,g13,g14,g15,g16,g17,g18,g19,g20,g21,g22,g23,g24,g25,g26,g27,g28] M K = K #[g0,g1,g2,g3,g4,g5,.int .i64 0,g7,g8,g9,g10,g11,g12,g13,g14,g15,g16,g17,g18,g19,g20,g21,g22,g23,g24,g25,g26,g27,g28] M := by kernel_rfl
theorem k31_2 : P31 [1] = .seq (P31 [1,0]) (P31 [1,1]) := by kernel_rfl
theorem k31_3 : P31 [1,0] = .block 0 (P31 [1,0,0]) := by kernel_rfl
theorem k31_4 : P31 [1,0,0] = .seq (P31 [1,0,0,0]) (P31 [1,0,0,1]) := by kernel_rfl
theorem k31_5 : P31 [1,0,0,0] = .region 1 (O31 [1,0,0,0]) false := by kernel_rfl
theorem r31_1 {x0 : Option Addr} {M : Mem} {call : CallM} {K : Array Value → Mem → R} :
    opsK Try.prog (fun _ => call) (O31 [1,0,0,0]) (O31 [1,0,0,0]).toList 0 #[.pointer x0,g1,g2,g3,g4,g5,g6,g7,g8,g9,g10,g11,g12,g13,g14,g15,g16,g17,g18,g19,g20,g21,g22,g23,g24,g25,g26,g27,g28] M K = (call 45 #[.pointer x0] M).bind fun r_1 => (asB r_1.1).bind fun b_2 => K #[.pointer x0,g1,g2,g3,g4,g5,g6,.bool (!b_2),.pointer x0,.bool b_2,.bool (!b_2),g11,g12,g13,g14,g15,g16,g17,g18,g19,g20,g21,g22,g23,g24,g25,g26,g27,g28] r_1.2 := by kernel_rfl
theorem c31_6 : P31 [1,0,0,1] = .cond (.tmp 7) (P31 [1,0,0,1,0]) (P31 [1,0,0,1,1]) := by kernel_rfl
theorem k31_7 : P31 [1,0,0,1,0] = .seq (P31 [1,0,0,1,0,0]) (P31 [1,0,0,1,0,1]) := by kernel_rfl
theorem k31_8 : P31 [1,0,0,1,0,0] = .region 2 (O31 [1,0,0,1,0,0]) false := by kernel_rfl
theorem r31_2 {M : Mem} {call : CallM} {K : Array Value → Mem → R} :
    opsK Try.prog (fun _ => call) (O31 [1,0,0,1,0,0]) (O31 [1,0,0,1,0,0]).toList 0 #[g0,g1,g2,g3,g4,g5,g6,g7,g8,g9,g10,g11,g12,g13,g14,g15,g16,g17,g18,g19,g20,g21,g22,g23,g24,g25,g26,g27,g28] M K = K #[g0,g1,g2,g3,g4,g5,.int .i64 1,g7,g8,g9,g10,g11,g12,g13,g14,g15,g16,g17,g18,g19,g20,g21,g22,g23,g24,g25,g26,g27,g28] M := by kernel_rfl
theorem k31_9 : P31 [1,0,0,1,0,1] = .ret := by kernel_rfl
theorem e31 {M : Mem} : finish Try.prog Try.f31 #[g0,g1,g2,g3,g4,g5,g6,g7,g8,g9,g10,g11,g12,g13,g14,g15,g16,g17,g18,g19,g20,g21,g22,g23,g24,g25,g26,g27,g28] M = some (g6, M) := by kernel_rfl
theorem k31_11 : P31 [1,0,0,1,1] = .seq (P31 [1,0,0,1,1,0]) (P31 [1,0,0,1,1,1]) := by kernel_rfl
theorem k31_12 : P31 [1,0,0,1,1,0] = .region 3 (O31 [1,0,0,1,1,0]) false := by kernel_rfl
theorem r31_3 {x1 x2 : Int} {M : Mem} {call : CallM} {K : Array Value → Mem → R} :
    opsK Try.prog (fun _ => call) (O31 [1,0,0,1,1,0]) (O31 [1,0,0,1,1,0]).toList 0 #[g0,.int .u32 x1,.int .i64 x2,g3,g4,g5,g6,g7,g8,g9,g10,g11,g12,g13,g14,g15,g16,g17,g18,g19,g20,g21,g22,g23,g24,g25,g26,g27,g28] M K = withK (fun w11 w14 w15 w16 w17 w18 w19 w20 w21 w22 w23 M => K #[g0,.int .u32 x1,.int .i64 x2,g3,g4,g5,g6,g7,g8,g9,g10,w11,.int .i64 x2,.bool (decide (x2 < 0)),w14,w15,w16,w17,w18,w19,w20,w21,w22,w23,g24,g25,g26,g27,g28] M) fun k => cond (decide (x2 < 0)) (k (.bool true) (.bool true) undef undef (.bool true) (.bool true) undef undef undef undef (.bool true) M) (cond (decide (x2 > 32)) (k (.bool true) (.bool false) (.int .i64 x2) (.bool (decide (x2 > 32))) (.bool (decide (x2 > 32))) (.bool true) undef undef undef undef (.bool true) M) ((call 46 #[.int .u32 x1] M).bind fun r_1 => (asI .i64 r_1.1).bind fun x_2 => k (.bool (decide (x_2 > x2))) (.bool false) (.int .i64 x2) (.bool (decide (x2 > 32))) (.bool (decide (x2 > 32))) (.bool false) (.int .u32 x1) (.int .i64 x_2) (.int .i64 x2) (.bool (decide (x_2 > x2))) (.bool (decide (x_2 > x2))) r_1.2)) := by kernel_rfl
theorem c31_13 : P31 [1,0,0,1,1,1] = .cond (.tmp 11) (P31 [1,0,0,1,1,1,0]) (P31 [1,0,0,1,1,1,1]) := by kernel_rfl
theorem k31_14 : P31 [1,0,0,1,1,1,0] = .seq (P31 [1,0,0,1,1,1,0,0]) (P31 [1,0,0,1,1,1,0,1]) := by kernel_rfl
theorem k31_15 : P31 [1,0,0,1,1,1,0,0] = .region 4 (O31 [1,0,0,1,1,1,0,0]) false := by kernel_rfl
theorem r31_4 {M : Mem} {call : CallM} {K : Array Value → Mem → R} :
    opsK Try.prog (fun _ => call) (O31 [1,0,0,1,1,1,0,0]) (O31 [1,0,0,1,1,1,0,0]).toList 0 #[g0,g1,g2,g3,g4,g5,g6,g7,g8,g9,g10,g11,g12,g13,g14,g15,g16,g17,g18,g19,g20,g21,g22,g23,g24,g25,g26,g27,g28] M K = K #[g0,g1,g2,g3,g4,g5,.int .i64 2,g7,g8,g9,g10,g11,g12,g13,g14,g15,g16,g17,g18,g19,g20,g21,g22,g23,g24,g25,g26,g27,g28] M := by kernel_rfl
theorem k31_16 : P31 [1,0,0,1,1,1,0,1] = .ret := by kernel_rfl
theorem k31_17 : P31 [1,0,0,1,1,1,1] = .skip := by kernel_rfl
theorem k31_18 : P31 [1,1] = .seq (P31 [1,1,0]) (P31 [1,1,1]) := by kernel_rfl
theorem k31_19 : P31 [1,1,0] = .region 5 (O31 [1,1,0]) false := by kernel_rfl
theorem r31_5 {x0 : Option Addr} {x1 x2 : Int} {M : Mem} {call : CallM} {K : Array Value → Mem → R} :
    opsK Try.prog (fun _ => call) (O31 [1,1,0]) (O31 [1,1,0]).toList 0 #[.pointer x0,.int .u32 x1,.int .i64 x2,g3,g4,g5,g6,g7,g8,g9,g10,g11,g12,g13,g14,g15,g16,g17,g18,g19,g20,g21,g22,g23,g24,g25,g26,g27,g28] M K = (call 47 #[.pointer x0, .int .u64 (IntKind.u64.wrap (x1)), .int .i64 x2] M).bind fun r_1 => K #[.pointer x0,.int .u32 x1,.int .i64 x2,g3,g4,g5,g6,g7,g8,g9,g10,g11,g12,g13,g14,g15,g16,g17,g18,g19,g20,g21,g22,g23,.pointer x0,.int .u32 x1,.int .u64 (IntKind.u64.wrap (x1)),.int .i64 x2,r_1.1] r_1.2 := by kernel_rfl
theorem k31_20 : P31 [1,1,1] = .seq (P31 [1,1,1,0]) (P31 [1,1,1,1]) := by kernel_rfl
theorem k31_21 : P31 [1,1,1,0] = .region 6 (O31 [1,1,1,0]) false := by kernel_rfl
theorem r31_6 {M : Mem} {call : CallM} {K : Array Value → Mem → R} :
    opsK Try.prog (fun _ => call) (O31 [1,1,1,0]) (O31 [1,1,1,0]).toList 0 #[g0,g1,g2,g3,g4,g5,g6,g7,g8,g9,g10,g11,g12,g13,g14,g15,g16,g17,g18,g19,g20,g21,g22,g23,g24,g25,g26,g27,g28] M K = K #[g0,g1,g2,g3,g4,g5,.int .i64 0,g7,g8,g9,g10,g11,g12,g13,g14,g15,g16,g17,g18,g19,g20,g21,g22,g23,g24,g25,g26,g27,g28] M := by kernel_rfl
theorem k31_22 : P31 [1,1,1,1] = .ret := by kernel_rfl
noncomputable def S31_1 : List Item := [.code (P31 [1,0,0,1,1,1]), .inBlock 0, .code (P31 [1,1])]
def A31_1 (x0 : Option Addr) (x1 x2 : Int) (x11 : Bool) (M : Mem) (Q : Value → Mem → Prop) : Prop := ∀ (g3 g4 g5 g6 g7 g8 g9 g10 g12 g13 g14 g15 g16 g17 g18 g19 g20 g21 g22 g23 g24 g25 g26 g27 g28 : Value), Rn Try.prog Try.f31 S31_1 #[.pointer x0, .int .u32 x1, .int .i64 x2, g3, g4, g5, g6, g7, g8, g9, g10, .bool x11, g12, g13, g14, g15, g16, g17, g18, g19, g20, g21, g22, g23, g24, g25, g26, g27, g28] M Q
theorem w31_0 {x0 : Option Addr} {x1 x2 : Int} {M : Mem} {Q : Value → Mem → Prop} (H :
    Cn Try.prog 45 #[.pointer x0] M fun v1' N1' =>
     ∃ b2', asB v1' = some b2' ∧
     (((!b2') = true →
      Q (.int .i64 1) N1') ∧
      ((!b2') = false →
      ((x2 < 0 →
       A31_1 x0 x1 x2 true N1' Q) ∧
       (¬ (x2 < 0) →
       ((x2 > 32 →
        A31_1 x0 x1 x2 true N1' Q) ∧
        (¬ (x2 > 32) →
        Cn Try.prog 46 #[.int .u32 x1] N1' fun v3' N3' =>
         ∃ x4', asI .i64 v3' = some x4' ∧
         A31_1 x0 x1 x2 (decide (x4' > x2)) N3' Q))))))) :
    Cn Try.prog 31 #[.pointer x0, .int .u32 x1, .int .i64 x2] M Q := by
  refine Cn.of b31 d31 t31 ?_
  refine Rn.seq k31_0 (Rn.region k31_1 (fun call K => r31_0) (Rch.leaf (Rn.seq k31_2 (Rn.block k31_3 (Rn.seq k31_4 (Rn.region k31_5 (fun call K => r31_1) (Rch.call H fun v1' N1' H => Rch.ex H fun b2' H => Rch.leaf ?_)))))))
  refine Rn.cnd (v := !b2') ⟨c31_6, rfl, by kernel_rfl⟩ (fun h => ?_) (fun h => ?_)
  · replace H := H.1 (h)
    refine Rn.seq k31_7 (Rn.region k31_8 (fun call K => r31_2) (Rch.leaf ?_))
    exact Rn.ret k31_9 e31 H
  · replace H := H.2 (h)
    refine Rn.seq k31_11 (Rn.region k31_12 (fun call K => r31_3) ?_)
    refine Rch.cB (fun h => ?_) (fun h => ?_)
    · replace H := H.1 (of_decide_eq_true h)
      refine Rch.leaf ?_
      exact H _ _ _ _ _ _ _ _ _ _ _ _ _ _ _ _ _ _ _ _ _ _ _ _ _
    · replace H := H.2 (of_decide_eq_false h)
      refine Rch.cB (fun h => ?_) (fun h => ?_)
      · replace H := H.1 (of_decide_eq_true h)
        refine Rch.leaf ?_
        exact H _ _ _ _ _ _ _ _ _ _ _ _ _ _ _ _ _ _ _ _ _ _ _ _ _
      · replace H := H.2 (of_decide_eq_false h)
        refine Rch.call H fun v3' N3' H => Rch.ex H fun x4' H => Rch.leaf ?_
        exact H _ _ _ _ _ _ _ _ _ _ _ _ _ _ _ _ _ _ _ _ _ _ _ _ _

theorem w31_1 {x0 : Option Addr} {x1 x2 : Int} {x11 : Bool} {M : Mem} {Q : Value → Mem → Prop} (H :
    ((x11 = true →
     Q (.int .i64 2) M) ∧
     (x11 = false →
     Cn Try.prog 47 #[.pointer x0, .int .u64 (IntKind.u64.wrap (x1)), .int .i64 x2] M fun v5' N5' =>
      Q (.int .i64 0) N5'))) :
    A31_1 x0 x1 x2 x11 M Q := by
  intro g3 g4 g5 g6 g7 g8 g9 g10 g12 g13 g14 g15 g16 g17 g18 g19 g20 g21 g22 g23 g24 g25 g26 g27 g28
  refine Rn.cnd (v := x11) ⟨c31_13, rfl, by kernel_rfl⟩ (fun h => ?_) (fun h => ?_)
  · replace H := H.1 (h)
    refine Rn.seq k31_14 (Rn.region k31_15 (fun call K => r31_4) (Rch.leaf ?_))
    exact Rn.ret k31_16 e31 H
  · replace H := H.2 (h)
    refine Rn.skip k31_17 (Rn.blk (Rn.seq k31_18 (Rn.region k31_19 (fun call K => r31_5) (Rch.call H fun v5' N5' H => Rch.leaf (Rn.seq k31_20 (Rn.region k31_21 (fun call K => r31_6) (Rch.leaf ?_)))))))
    exact Rn.ret k31_22 e31 H


/-! ### (*zoetrope/bits.Writer).Leb: function 32 -/
noncomputable abbrev P32 (p : List Nat) : Code := subC (codeOf Try.f32) p
noncomputable abbrev O32 (p : List Nat) : Array Oper := opsOf (subC (codeOf Try.f32) p)
theorem b32 : Try.prog.funcs[32]? = some Try.f32 ∧ (Orc.tab Try.prog).lookup 32 = none := ⟨by kernel_rfl, by kernel_rfl⟩
theorem d32 : Try.f32.body = some (P32 []) := by kernel_rfl
theorem t32 {x0 : Option Addr} {x1 : Int} : #[.pointer x0,.int .u32 x1] ++ Array.replicate (Try.f32.ntmps - (#[.pointer x0,.int .u32 x1] : Array Value).size) undef = #[.pointer x0,.int .u32 x1,undef,undef,undef,undef,undef,undef,undef,undef,undef,undef,undef,undef,undef,undef,undef,undef,undef,undef,undef,undef,undef,undef,undef,undef,undef] := by kernel_rfl
theorem k32_0 : P32 [] = .seq (P32 [0]) (P32 [1]) := by kernel_rfl
theorem k32_1 : P32 [0] = .region 0 (O32 [0]) false := by kernel_rfl
theorem r32_0 {M : Mem} {call : CallM} {K : Array Value → Mem → R} :
    opsK Try.prog (fun _ => call) (O32 [0]) (O32 [0]).toList 0 #[g0,g1,g2,g3,g4,g5,g6,g7,g8,g9,g10,g11,g12,g13,g14,g15,g16,g17,g18,g19,g20,g21,g22,g23,g24,g25,g26] M K = K #[g0,g1,g2,g3,.int .i64 0,g5,g6,g7,g8,g9,g10,g11,g12,g13,g14,g15,g16,g17,g18,g19,g20,g21,g22,g23,g24,g25,g26] M := by kernel_rfl
theorem k32_2 : P32 [1] = .seq (P32 [1,0]) (P32 [1,1]) := by kernel_rfl
theorem k32_3 : P32 [1,0] = .seq (P32 [1,0,0]) (P32 [1,0,1]) := by kernel_rfl
theorem k32_4 : P32 [1,0,0] = .region 1 (O32 [1,0,0]) false := by kernel_rfl
theorem r32_1 {x0 : Option Addr} {M : Mem} {call : CallM} {K : Array Value → Mem → R} :
    opsK Try.prog (fun _ => call) (O32 [1,0,0]) (O32 [1,0,0]).toList 0 #[.pointer x0,g1,g2,g3,g4,g5,g6,g7,g8,g9,g10,g11,g12,g13,g14,g15,g16,g17,g18,g19,g20,g21,g22,g23,g24,g25,g26] M K = (call 45 #[.pointer x0] M).bind fun r_1 => (asB r_1.1).bind fun b_2 => K #[.pointer x0,g1,g2,g3,g4,.pointer x0,.bool b_2,.bool (!b_2),g8,g9,g10,g11,g12,g13,g14,g15,g16,g17,g18,g19,g20,g21,g22,g23,g24,g25,g26] r_1.2 := by kernel_rfl
theorem c32_5 : P32 [1,0,1] = .cond (.tmp 7) (P32 [1,0,1,0]) (P32 [1,0,1,1]) := by kernel_rfl
theorem k32_6 : P32 [1,0,1,0] = .seq (P32 [1,0,1,0,0]) (P32 [1,0,1,0,1]) := by kernel_rfl
theorem k32_7 : P32 [1,0,1,0,0] = .region 2 (O32 [1,0,1,0,0]) false := by kernel_rfl
theorem r32_2 {M : Mem} {call : CallM} {K : Array Value → Mem → R} :
    opsK Try.prog (fun _ => call) (O32 [1,0,1,0,0]) (O32 [1,0,1,0,0]).toList 0 #[g0,g1,g2,g3,g4,g5,g6,g7,g8,g9,g10,g11,g12,g13,g14,g15,g16,g17,g18,g19,g20,g21,g22,g23,g24,g25,g26] M K = K #[g0,g1,g2,g3,.int .i64 1,g5,g6,g7,g8,g9,g10,g11,g12,g13,g14,g15,g16,g17,g18,g19,g20,g21,g22,g23,g24,g25,g26] M := by kernel_rfl
theorem k32_8 : P32 [1,0,1,0,1] = .ret := by kernel_rfl
theorem e32 {M : Mem} : finish Try.prog Try.f32 #[g0,g1,g2,g3,g4,g5,g6,g7,g8,g9,g10,g11,g12,g13,g14,g15,g16,g17,g18,g19,g20,g21,g22,g23,g24,g25,g26] M = some (g4, M) := by kernel_rfl
theorem k32_10 : P32 [1,0,1,1] = .skip := by kernel_rfl
theorem k32_11 : P32 [1,1] = .seq (P32 [1,1,0]) (P32 [1,1,1]) := by kernel_rfl
theorem k32_12 : P32 [1,1,0] = .seq (P32 [1,1,0,0]) (P32 [1,1,0,1]) := by kernel_rfl
theorem k32_13 : P32 [1,1,0,0] = .region 3 (O32 [1,1,0,0]) false := by kernel_rfl
theorem r32_3 {x0 : Option Addr} {M : Mem} {call : CallM} {K : Array Value → Mem → R} :
    opsK Try.prog (fun _ => call) (O32 [1,1,0,0]) (O32 [1,1,0,0]).toList 0 #[.pointer x0,g1,g2,g3,g4,g5,g6,g7,g8,g9,g10,g11,g12,g13,g14,g15,g16,g17,g18,g19,g20,g21,g22,g23,g24,g25,g26] M K = (x0).bind fun a_1 => (M.intAt .i64 a_1.block (a_1.off + 1)).bind fun x_2 => K #[.pointer x0,g1,g2,g3,g4,g5,g6,g7,.pointer x0,.pointer (some a_1),.pointer (some ⟨a_1.block, a_1.off + 1, none⟩),.int .i64 x_2,.bool (decide (x_2 > 0)),g13,g14,g15,g16,g17,g18,g19,g20,g21,g22,g23,g24,g25,g26] M := by kernel_rfl
theorem c32_14 : P32 [1,1,0,1] = .cond (.tmp 12) (P32 [1,1,0,1,0]) (P32 [1,1,0,1,1]) := by kernel_rfl
theorem k32_15 : P32 [1,1,0,1,0] = .seq (P32 [1,1,0,1,0,0]) (P32 [1,1,0,1,0,1]) := by kernel_rfl
theorem k32_16 : P32 [1,1,0,1,0,0] = .region 4 (O32 [1,1,0,1,0,0]) false := by kernel_rfl
theorem r32_4 {M : Mem} {call : CallM} {K : Array Value → Mem → R} :
    opsK Try.prog (fun _ => call) (O32 [1,1,0,1,0,0]) (O32 [1,1,0,1,0,0]).toList 0 #[g0,g1,g2,g3,g4,g5,g6,g7,g8,g9,g10,g11,g12,g13,g14,g15,g16,g17,g18,g19,g20,g21,g22,g23,g24,g25,g26] M K = K #[g0,g1,g2,g3,.int .i64 2,g5,g6,g7,g8,g9,g10,g11,g12,g13,g14,g15,g16,g17,g18,g19,g20,g21,g22,g23,g24,g25,g26] M := by kernel_rfl
theorem k32_17 : P32 [1,1,0,1,0,1] = .ret := by kernel_rfl
theorem k32_18 : P32 [1,1,0,1,1] = .skip := by kernel_rfl
theorem k32_19 : P32 [1,1,1] = .seq (P32 [1,1,1,0]) (P32 [1,1,1,1]) := by kernel_rfl
theorem k32_20 : P32 [1,1,1,0] = .block 0 (P32 [1,1,1,0,0]) := by kernel_rfl
theorem k32_21 : P32 [1,1,1,0,0] = .loop (P32 [1,1,1,0,0,0]) := by kernel_rfl
theorem k32_22 : P32 [1,1,1,0,0,0] = .seq (P32 [1,1,1,0,0,0,0]) (P32 [1,1,1,0,0,0,1]) := by kernel_rfl
theorem k32_23 : P32 [1,1,1,0,0,0,0] = .seq (P32 [1,1,1,0,0,0,0,0]) (P32 [1,1,1,0,0,0,0,1]) := by kernel_rfl
theorem k32_24 : P32 [1,1,1,0,0,0,0,0] = .region 5 (O32 [1,1,1,0,0,0,0,0]) false := by kernel_rfl
theorem r32_5 {x1 : Int} {M : Mem} {call : CallM} {K : Array Value → Mem → R} :
    opsK Try.prog (fun _ => call) (O32 [1,1,1,0,0,0,0,0]) (O32 [1,1,1,0,0,0,0,0]).toList 0 #[g0,.int .u32 x1,g2,g3,g4,g5,g6,g7,g8,g9,g10,g11,g12,g13,g14,g15,g16,g17,g18,g19,g20,g21,g22,g23,g24,g25,g26] M K = K #[g0,.int .u32 x1,g2,g3,g4,g5,g6,g7,g8,g9,g10,g11,g12,.int .u32 x1,.bool (decide (x1 > 127)),g15,g16,g17,g18,g19,g20,g21,g22,g23,g24,g25,g26] M := by kernel_rfl
theorem c32_25 : P32 [1,1,1,0,0,0,0,1] = .cond (.tmp 14) (P32 [1,1,1,0,0,0,0,1,0]) (P32 [1,1,1,0,0,0,0,1,1]) := by kernel_rfl
theorem k32_26 : P32 [1,1,1,0,0,0,0,1,0] = .skip := by kernel_rfl
theorem k32_27 : P32 [1,1,1,0,0,0,1] = .seq (P32 [1,1,1,0,0,0,1,0]) (P32 [1,1,1,0,0,0,1,1]) := by kernel_rfl
theorem k32_28 : P32 [1,1,1,0,0,0,1,0] = .block 1 (P32 [1,1,1,0,0,0,1,0,0]) := by kernel_rfl
theorem k32_29 : P32 [1,1,1,0,0,0,1,0,0] = .region 7 (O32 [1,1,1,0,0,0,1,0,0]) false := by kernel_rfl
theorem r32_7 {x0 : Option Addr} {x1 : Int} {M : Mem} {call : CallM} {K : Array Value → Mem → R} :
    opsK Try.prog (fun _ => call) (O32 [1,1,1,0,0,0,1,0,0]) (O32 [1,1,1,0,0,0,1,0,0]).toList 0 #[.pointer x0,.int .u32 x1,g2,g3,g4,g5,g6,g7,g8,g9,g10,g11,g12,g13,g14,g15,g16,g17,g18,g19,g20,g21,g22,g23,g24,g25,g26] M K = (call 47 #[.pointer x0, .int .u64 (IntKind.u64.wrap (IntKind.u32.wrap (((BitVec.ofInt (IntKind.bits .u32) (IntKind.u32.wrap (((BitVec.ofInt (IntKind.bits .u32) x1 &&& BitVec.ofInt (IntKind.bits .u32) 127).toNat : Int))) ||| BitVec.ofInt (IntKind.bits .u32) 128).toNat : Int)))), .int .i64 8] M).bind fun r_1 => K #[.pointer x0,.int .u32 x1,g2,g3,g4,g5,g6,g7,g8,g9,g10,g11,g12,g13,g14,g15,g16,.pointer x0,.int .u32 x1,.int .u32 (IntKind.u32.wrap (((BitVec.ofInt (IntKind.bits .u32) x1 &&& BitVec.ofInt (IntKind.bits .u32) 127).toNat : Int))),.int .u32 (IntKind.u32.wrap (((BitVec.ofInt (IntKind.bits .u32) (IntKind.u32.wrap (((BitVec.ofInt (IntKind.bits .u32) x1 &&& BitVec.ofInt (IntKind.bits .u32) 127).toNat : Int))) ||| BitVec.ofInt (IntKind.bits .u32) 128).toNat : Int))),.int .u64 (IntKind.u64.wrap (IntKind.u32.wrap (((BitVec.ofInt (IntKind.bits .u32) (IntKind.u32.wrap (((BitVec.ofInt (IntKind.bits .u32) x1 &&& BitVec.ofInt (IntKind.bits .u32) 127).toNat : Int))) ||| BitVec.ofInt (IntKind.bits .u32) 128).toNat : Int)))),r_1.1,g23,g24,g25,g26] r_1.2 := by kernel_rfl
theorem k32_30 : P32 [1,1,1,0,0,0,1,1] = .region 6 (O32 [1,1,1,0,0,0,1,1]) false := by kernel_rfl
theorem r32_6 {x1 : Int} {M : Mem} {call : CallM} {K : Array Value → Mem → R} :
    opsK Try.prog (fun _ => call) (O32 [1,1,1,0,0,0,1,1]) (O32 [1,1,1,0,0,0,1,1]).toList 0 #[g0,.int .u32 x1,g2,g3,g4,g5,g6,g7,g8,g9,g10,g11,g12,g13,g14,g15,g16,g17,g18,g19,g20,g21,g22,g23,g24,g25,g26] M K = K #[g0,.int .u32 (x1.fdiv (2 ^ 7)),g2,g3,g4,g5,g6,g7,g8,g9,g10,g11,g12,g13,g14,.int .u32 x1,.int .u32 (x1.fdiv (2 ^ 7)),g17,g18,g19,g20,g21,g22,g23,g24,g25,g26] M := by kernel_rfl
theorem k32_31 : P32 [1,1,1,0,0,0,0,1,1] = .exit 0 := by kernel_rfl
theorem k32_32 : P32 [1,1,1,1] = .seq (P32 [1,1,1,1,0]) (P32 [1,1,1,1,1]) := by kernel_rfl
theorem k32_33 : P32 [1,1,1,1,0] = .region 8 (O32 [1,1,1,1,0]) false := by kernel_rfl
theorem r32_8 {x0 : Option Addr} {x1 : Int} {M : Mem} {call : CallM} {K : Array Value → Mem → R} :
    opsK Try.prog (fun _ => call) (O32 [1,1,1,1,0]) (O32 [1,1,1,1,0]).toList 0 #[.pointer x0,.int .u32 x1,g2,g3,g4,g5,g6,g7,g8,g9,g10,g11,g12,g13,g14,g15,g16,g17,g18,g19,g20,g21,g22,g23,g24,g25,g26] M K = (call 47 #[.pointer x0, .int .u64 (IntKind.u64.wrap (x1)), .int .i64 8] M).bind fun r_1 => K #[.pointer x0,.int .u32 x1,g2,g3,g4,g5,g6,g7,g8,g9,g10,g11,g12,g13,g14,g15,g16,g17,g18,g19,g20,g21,g22,.pointer x0,.int .u32 x1,.int .u64 (IntKind.u64.wrap (x1)),r_1.1] r_1.2 := by kernel_rfl
theorem k32_34 : P32 [1,1,1,1,1] = .seq (P32 [1,1,1,1,1,0]) (P32 [1,1,1,1,1,1]) := by kernel_rfl
theorem k32_35 : P32 [1,1,1,1,1,0] = .region 9 (O32 [1,1,1,1,1,0]) false := by kernel_rfl
theorem r32_9 {M : Mem} {call : CallM} {K : Array Value → Mem → R} :
    opsK Try.prog (fun _ => call) (O32 [1,1,1,1,1,0]) (O32 [1,1,1,1,1,0]).toList 0 #[g0,g1,g2,g3,g4,g5,g6,g7,g8,g9,g10,g11,g12,g13,g14,g15,g16,g17,g18,g19,g20,g21,g22,g23,g24,g25,g26] M K = K #[g0,g1,g2,g3,.int .i64 0,g5,g6,g7,g8,g9,g10,g11,g12,g13,g14,g15,g16,g17,g18,g19,g20,g21,g22,g23,g24,g25,g26] M := by kernel_rfl
theorem k32_36 : P32 [1,1,1,1,1,1] = .ret := by kernel_rfl
noncomputable def S32_1 : List Item := [.code (P32 [1,1,1,0,0,0]), .inLoop (P32 [1,1,1,0,0,0]), .inBlock 0, .code (P32 [1,1,1,1])]
def A32_1 (x0 : Option Addr) (x1 : Int) (M : Mem) (Q : Value → Mem → Prop) : Prop := ∀ (g2 g3 g4 g5 g6 g7 g8 g9 g10 g11 g12 g13 g14 g15 g16 g17 g18 g19 g20 g21 g22 g23 g24 g25 g26 : Value), Rn Try.prog Try.f32 S32_1 #[.pointer x0, .int .u32 x1, g2, g3, g4, g5, g6, g7, g8, g9, g10, g11, g12, g13, g14, g15, g16, g17, g18, g19, g20, g21, g22, g23, g24, g25, g26] M Q
theorem w32_0 {x0 : Option Addr} {x1 : Int} {M : Mem} {Q : Value → Mem → Prop} (H :
    Cn Try.prog 45 #[.pointer x0] M fun v1' N1' =>
     ∃ b2', asB v1' = some b2' ∧
     (((!b2') = true →
      Q (.int .i64 1) N1') ∧
      ((!b2') = false →
      ∃ a3', x0 = some a3' ∧
      ∃ x4', N1'.intAt .i64 a3'.block (a3'.off + 1) = some x4' ∧
      ((x4' > 0 →
       Q (.int .i64 2) N1') ∧
       (¬ (x4' > 0) →
       A32_1 x0 x1 N1' Q))))) :
    Cn Try.prog 32 #[.pointer x0, .int .u32 x1] M Q := by
  refine Cn.of b32 d32 t32 ?_
  refine Rn.seq k32_0 (Rn.region k32_1 (fun call K => r32_0) (Rch.leaf (Rn.seq k32_2 (Rn.seq k32_3 (Rn.region k32_4 (fun call K => r32_1) (Rch.call H fun v1' N1' H => Rch.ex H fun b2' H => Rch.leaf ?_))))))
  refine Rn.cnd (v := !b2') ⟨c32_5, rfl, by kernel_rfl⟩ (fun h => ?_) (fun h => ?_)
  · replace H := H.1 (h)
    refine Rn.seq k32_6 (Rn.region k32_7 (fun call K => r32_2) (Rch.leaf ?_))
    exact Rn.ret k32_8 e32 H
  · replace H := H.2 (h)
    refine Rn.skip k32_10 (Rn.seq k32_11 (Rn.seq k32_12 (Rn.region k32_13 (fun call K => r32_3) (Rch.ex H fun a3' H => Rch.ex H fun x4' H => Rch.leaf ?_))))
    refine Rn.cnd (v := decide (x4' > 0)) ⟨c32_14, rfl, by kernel_rfl⟩ (fun h => ?_) (fun h => ?_)
    · replace H := H.1 (of_decide_eq_true h)
      refine Rn.seq k32_15 (Rn.region k32_16 (fun call K => r32_4) (Rch.leaf ?_))
      exact Rn.ret k32_17 e32 H
    · replace H := H.2 (of_decide_eq_false h)
      refine Rn.skip k32_18 (Rn.seq k32_19 (Rn.block k32_20 (Rn.loop k32_21 ?_)))
      exact H _ _ _ _ _ _ _ _ _ _ _ _ _ _ _ _ _ _ _ _ _ _ _ _ _

theorem w32_1 {x0 : Option Addr} {x1 : Int} {M : Mem} {Q : Value → Mem → Prop} (H :
    ((x1 > 127 →
     Cn Try.prog 47 #[.pointer x0, .int .u64 (IntKind.u64.wrap (IntKind.u32.wrap (((BitVec.ofInt (IntKind.bits .u32) (IntKind.u32.wrap (((BitVec.ofInt (IntKind.bits .u32) x1 &&& BitVec.ofInt (IntKind.bits .u32) 127).toNat : Int))) ||| BitVec.ofInt (IntKind.bits .u32) 128).toNat : Int)))), .int .i64 8] M fun v5' N5' =>
      A32_1 x0 (x1.fdiv (2 ^ 7)) N5' Q) ∧
     (¬ (x1 > 127) →
     Cn Try.prog 47 #[.pointer x0, .int .u64 (IntKind.u64.wrap (x1)), .int .i64 8] M fun v6' N6' =>
      Q (.int .i64 0) N6'))) :
    A32_1 x0 x1 M Q := by
  intro g2 g3 g4 g5 g6 g7 g8 g9 g10 g11 g12 g13 g14 g15 g16 g17 g18 g19 g20 g21 g22 g23 g24 g25 g26
  refine Rn.seq k32_22 (Rn.seq k32_23 (Rn.region k32_24 (fun call K => r32_5) (Rch.leaf ?_)))
  refine Rn.cnd (v := decide (x1 > 127)) ⟨c32_25, rfl, by kernel_rfl⟩ (fun h => ?_) (fun h => ?_)
  · replace H := H.1 (of_decide_eq_true h)
    refine Rn.skip k32_26 (Rn.seq k32_27 (Rn.block k32_28 (Rn.region k32_29 (fun call K => r32_7) (Rch.call H fun v5' N5' H => Rch.leaf (Rn.blk (Rn.region k32_30 (fun call K => r32_6) (Rch.leaf (Rn.lp ?_))))))))
    exact H _ _ _ _ _ _ _ _ _ _ _ _ _ _ _ _ _ _ _ _ _ _ _ _ _
  · replace H := H.2 (of_decide_eq_false h)
    refine Rn.exit k32_31 rfl (Rn.seq k32_32 (Rn.region k32_33 (fun call K => r32_8) (Rch.call H fun v6' N6' H => Rch.leaf (Rn.seq k32_34 (Rn.region k32_35 (fun call K => r32_9) (Rch.leaf ?_))))))
    exact Rn.ret k32_36 e32 H


end Go.Zt
