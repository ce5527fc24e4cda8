/- The functions' walks: for each function and each loop a rule of what it comes to. Printed by zw.py. -/
import Derived.Test.YtgepgbblmodagaaProg
import Derived.Test.YtgepgbblmodagaaZkA
set_option linter.unusedVariables false
set_option maxRecDepth 100000
namespace Go.Zt
open Go Go.Sim Go.Proofs

variable {g0 g1 g2 g3 g4 g5 g6 g7 g8 g9 g10 g11 g12 g13 g14 g15 g16 g17 g18 g19 g20 g21 g22 g23 g24 g25 g26 g27 g28 g29 g30 g31 g32 g33 g34 g35 g36 g37 g38 g39 g40 g41 g42 g43 g44 g45 g46 g47 g48 g49 g50 g51 g52 g53 g54 g55 g56 g57 g58 g59 g60 : Value}
def str0 : ByteArray := ⟨#[0, 1, 2, 2, 3, 3, 3, 3, 4, 4, 4, 4, 4, 4, 4, 4, 5, 5, 5, 5, 5, 5, 5, 5, 5, 5, 5, 5, 5, 5, 5, 5, 6, 6, 6, 6, 6, 6, 6, 6, 6, 6, 6, 6, 6, 6, 6, 6, 6, 6, 6, 6, 6, 6, 6, 6, 6, 6, 6, 6, 6, 6, 6, 6, 7, 7, 7, 7, 7, 7, 7, 7, 7, 7, 7, 7, 7, 7, 7, 7, 7, 7, 7, 7, 7, 7, 7, 7, 7, 7, 7, 7, 7, 7, 7, 7, 7, 7, 7, 7, 7, 7, 7, 7, 7, 7, 7, 7, 7, 7, 7, 7, 7, 7, 7, 7, 7, 7, 7, 7, 7, 7, 7, 7, 7, 7, 7, 7, 8, 8, 8, 8, 8, 8, 8, 8, 8, 8, 8, 8, 8, 8, 8, 8, 8, 8, 8, 8, 8, 8, 8, 8, 8, 8, 8, 8, 8, 8, 8, 8, 8, 8, 8, 8, 8, 8, 8, 8, 8, 8, 8, 8, 8, 8, 8, 8, 8, 8, 8, 8, 8, 8, 8, 8, 8, 8, 8, 8, 8, 8, 8, 8, 8, 8, 8, 8, 8, 8, 8, 8, 8, 8, 8, 8, 8, 8, 8, 8, 8, 8, 8, 8, 8, 8, 8, 8, 8, 8, 8, 8, 8, 8, 8, 8, 8, 8, 8, 8, 8, 8, 8, 8, 8, 8, 8, 8, 8, 8, 8, 8, 8, 8, 8, 8, 8, 8, 8, 8, 8, 8, 8, 8, 8, 8, 8, 8]⟩
/-! ### (*zoetrope/bits.Reader).bit: function 80 -/
noncomputable abbrev P80 (p : List Nat) : Code := subC (codeOf Try.f80) p
noncomputable abbrev O80 (p : List Nat) : Array Oper := opsOf (subC (codeOf Try.f80) p)
theorem b80 : Try.prog.funcs[80]? = some Try.f80 ∧ (Orc.tab Try.prog).lookup 80 = none := ⟨by kernel_rfl, by kernel_rfl⟩
theorem d80 : Try.f80.body = some (P80 []) := by kernel_rfl
theorem t80 {x0 : Option Addr} {x1 : Int} : #[.pointer x0,.int .i64 x1] ++ Array.replicate (Try.f80.ntmps - (#[.pointer x0,.int .i64 x1] : Array Value).size) undef = #[.pointer x0,.int .i64 x1,undef,undef,undef,undef,undef,undef,undef,undef,undef,undef,undef,undef,undef,undef,undef,undef,undef] := by kernel_rfl
theorem k80_0 : P80 [] = .seq (P80 [0]) (P80 [1]) := by kernel_rfl
theorem k80_1 : P80 [0] = .region 0 (O80 [0]) false := by kernel_rfl
theorem r80_0 {M : Mem} {call : CallM} {K : Array Value → Mem → R} :
    opsK Try.prog (fun _ => call) (O80 [0]) (O80 [0]).toList 0 #[g0,g1,g2,g3,g4,g5,g6,g7,g8,g9,g10,g11,g12,g13,g14,g15,g16,g17,g18] M K = K #[g0,g1,g2,g3,.int .u32 0,g5,g6,g7,g8,g9,g10,g11,g12,g13,g14,g15,g16,g17,g18] M := by kernel_rfl
theorem k80_2 : P80 [1] = .seq (P80 [1,0]) (P80 [1,1]) := by kernel_rfl
theorem k80_3 : P80 [1,0] = .region 1 (O80 [1,0]) false := by kernel_rfl
theorem r80_1 {x0 : Option Addr} {x1 : Int} {M : Mem} {call : CallM} {K : Array Value → Mem → R} :
    opsK Try.prog (fun _ => call) (O80 [1,0]) (O80 [1,0]).toList 0 #[.pointer x0,.int .i64 x1,g2,g3,g4,g5,g6,g7,g8,g9,g10,g11,g12,g13,g14,g15,g16,g17,g18] M K = (x0).bind fun a_1 => (M.slAt a_1.block a_1.off).bind fun s_2 => (idxA s_2.1 (s_2.2.1) 1 (IntKind.i64.wrap (x1.tdiv 8))).bind fun a_3 => (M.intAt .u8 a_3.block a_3.off).bind fun x_4 => (binV Try.prog .shr 5 3 (.int .u8 x_4) (.int .i64 (IntKind.i64.wrap (7 - (x1.tmod 8))))).bind fun v_5 => (asI .u8 v_5).bind fun x_6 => K #[.pointer x0,.int .i64 x1,g2,g3,.int .u32 (IntKind.u32.wrap (((BitVec.ofInt (IntKind.bits .u32) (IntKind.u32.wrap (x_6)) &&& BitVec.ofInt (IntKind.bits .u32) 1).toNat : Int))),.pointer x0,.pointer (some a_1),.pointer (some ⟨a_1.block, a_1.off, none⟩),.slice s_2.1 (s_2.2.1) (s_2.2.2),.int .i64 x1,.int .i64 (IntKind.i64.wrap (x1.tdiv 8)),.pointer (some a_3),.int .u8 x_4,.int .i64 x1,.int .i64 (x1.tmod 8),.int .i64 (IntKind.i64.wrap (7 - (x1.tmod 8))),.int .u8 x_6,.int .u32 (IntKind.u32.wrap (x_6)),.int .u32 (IntKind.u32.wrap (((BitVec.ofInt (IntKind.bits .u32) (IntKind.u32.wrap (x_6)) &&& BitVec.ofInt (IntKind.bits .u32) 1).toNat : Int)))] M := by kernel_rfl
theorem k80_4 : P80 [1,1] = .ret := by kernel_rfl
theorem e80 {M : Mem} : finish Try.prog Try.f80 #[g0,g1,g2,g3,g4,g5,g6,g7,g8,g9,g10,g11,g12,g13,g14,g15,g16,g17,g18] M = some (g4, M) := by kernel_rfl
theorem w80_0 {x0 : Option Addr} {x1 : Int} {M : Mem} {Q : Value → Mem → Prop} (H :
    ∃ a1', x0 = some a1' ∧
    ∃ s2', M.slAt a1'.block a1'.off = some s2' ∧
    ∃ a3', idxA s2'.1 (s2'.2.1) 1 (IntKind.i64.wrap (x1.tdiv 8)) = some a3' ∧
    ∃ x4', M.intAt .u8 a3'.block a3'.off = some x4' ∧
    ∃ v5', binV Try.prog .shr 5 3 (.int .u8 x4') (.int .i64 (IntKind.i64.wrap (7 - (x1.tmod 8)))) = some v5' ∧
    ∃ x6', asI .u8 v5' = some x6' ∧
    Q (.int .u32 (IntKind.u32.wrap (((BitVec.ofInt (IntKind.bits .u32) (IntKind.u32.wrap (x6')) &&& BitVec.ofInt (IntKind.bits .u32) 1).toNat : Int)))) M) :
    Cn Try.prog 80 #[.pointer x0, .int .i64 x1] M Q := by
  refine Cn.of b80 d80 t80 ?_
  refine Rn.seq k80_0 (Rn.region k80_1 (fun call K => r80_0) (Rch.leaf (Rn.seq k80_2 (Rn.region k80_3 (fun call K => r80_1) (Rch.ex H fun a1' H => Rch.ex H fun s2' H => Rch.ex H fun a3' H => Rch.ex H fun x4' H => Rch.ex H fun v5' H => Rch.ex H fun x6' H => Rch.leaf ?_)))))
  exact Rn.ret k80_4 e80 H


/-! ### (*zoetrope/bits.Reader).number: function 66 -/
noncomputable abbrev P66 (p : List Nat) : Code := subC (codeOf Try.f66) p
noncomputable abbrev O66 (p : List Nat) : Array Oper := opsOf (subC (codeOf Try.f66) p)
theorem b66 : Try.prog.funcs[66]? = some Try.f66 ∧ (Orc.tab Try.prog).lookup 66 = none := ⟨by kernel_rfl, by kernel_rfl⟩
theorem d66 : Try.f66.body = some (P66 []) := by kernel_rfl
theorem t66 {x0 : Option Addr} {x1 x2 : Int} : #[.pointer x0,.int .i64 x1,.int .i64 x2] ++ Array.replicate (Try.f66.ntmps - (#[.pointer x0,.int .i64 x1,.int .i64 x2] : Array Value).size) undef = #[.pointer x0,.int .i64 x1,.int .i64 x2,undef,undef,undef,undef,undef,undef,undef,undef,undef,undef,undef,undef,undef,undef,undef,undef,undef,undef,undef,undef] := by kernel_rfl
theorem k66_0 : P66 [] = .seq (P66 [0]) (P66 [1]) := by kernel_rfl
theorem k66_1 : P66 [0] = .region 0 (O66 [0]) false := by kernel_rfl
theorem r66_0 {M : Mem} {call : CallM} {K : Array Value → Mem → R} :
    opsK Try.prog (fun _ => call) (O66 [0]) (O66 [0]).toList 0 #[g0,g1,g2,g3,g4,g5,g6,g7,g8,g9,g10,g11,g12,g13,g14,g15,g16,g17,g18,g19,g20,g21,g22] M K = K #[g0,g1,g2,g3,g4,g5,.int .u32 0,g7,g8,g9,g10,g11,g12,g13,g14,g15,g16,g17,g18,g19,g20,g21,g22] M := by kernel_rfl
theorem k66_2 : P66 [1] = .seq (P66 [1,0]) (P66 [1,1]) := by kernel_rfl
theorem k66_3 : P66 [1,0] = .region 1 (O66 [1,0]) false := by kernel_rfl
theorem r66_1 {M : Mem} {call : CallM} {K : Array Value → Mem → R} :
    opsK Try.prog (fun _ => call) (O66 [1,0]) (O66 [1,0]).toList 0 #[g0,g1,g2,g3,g4,g5,g6,g7,g8,g9,g10,g11,g12,g13,g14,g15,g16,g17,g18,g19,g20,g21,g22] M K = K #[g0,g1,g2,g3,g4,g5,g6,.int .u32 0,g8,g9,g10,g11,g12,g13,g14,g15,g16,g17,g18,g19,g20,g21,g22] M := by kernel_rfl
theorem k66_4 : P66 [1,1] = .seq (P66 [1,1,0]) (P66 [1,1,1]) := by kernel_rfl
theorem k66_5 : P66 [1,1,0] = .seq (P66 [1,1,0,0]) (P66 [1,1,0,1]) := by kernel_rfl
theorem k66_6 : P66 [1,1,0,0] = .region 2 (O66 [1,1,0,0]) false := by kernel_rfl
theorem r66_2 {x2 : Int} {M : Mem} {call : CallM} {K : Array Value → Mem → R} :
    opsK Try.prog (fun _ => call) (O66 [1,1,0,0]) (O66 [1,1,0,0]).toList 0 #[g0,g1,.int .i64 x2,g3,g4,g5,g6,g7,g8,g9,g10,g11,g12,g13,g14,g15,g16,g17,g18,g19,g20,g21,g22] M K = K #[g0,g1,.int .i64 x2,g3,g4,g5,g6,g7,g8,.int .i64 x2,.int .i64 0,g11,g12,g13,g14,g15,g16,g17,g18,g19,g20,g21,g22] M := by kernel_rfl
theorem k66_7 : P66 [1,1,0,1] = .block 0 (P66 [1,1,0,1,0]) := by kernel_rfl
theorem k66_8 : P66 [1,1,0,1,0] = .loop (P66 [1,1,0,1,0,0]) := by kernel_rfl
theorem k66_9 : P66 [1,1,0,1,0,0] = .seq (P66 [1,1,0,1,0,0,0]) (P66 [1,1,0,1,0,0,1]) := by kernel_rfl
theorem k66_10 : P66 [1,1,0,1,0,0,0] = .region 3 (O66 [1,1,0,1,0,0,0]) false := by kernel_rfl
theorem r66_3 {x9 x10 : Int} {M : Mem} {call : CallM} {K : Array Value → Mem → R} :
    opsK Try.prog (fun _ => call) (O66 [1,1,0,1,0,0,0]) (O66 [1,1,0,1,0,0,0]).toList 0 #[g0,g1,g2,g3,g4,g5,g6,g7,g8,.int .i64 x9,.int .i64 x10,g11,g12,g13,g14,g15,g16,g17,g18,g19,g20,g21,g22] M K = K #[g0,g1,g2,g3,g4,g5,g6,g7,g8,.int .i64 x9,.int .i64 x10,.bool (decide (x10 < x9)),g12,g13,g14,g15,g16,g17,g18,g19,g20,g21,g22] M := by kernel_rfl
theorem k66_11 : P66 [1,1,0,1,0,0,1] = .seq (P66 [1,1,0,1,0,0,1,0]) (P66 [1,1,0,1,0,0,1,1]) := by kernel_rfl
theorem c66_12 : P66 [1,1,0,1,0,0,1,0] = .cond (.tmp 11) (P66 [1,1,0,1,0,0,1,0,0]) (P66 [1,1,0,1,0,0,1,0,1]) := by kernel_rfl
theorem k66_13 : P66 [1,1,0,1,0,0,1,0,0] = .skip := by kernel_rfl
theorem k66_14 : P66 [1,1,0,1,0,0,1,1] = .seq (P66 [1,1,0,1,0,0,1,1,0]) (P66 [1,1,0,1,0,0,1,1,1]) := by kernel_rfl
theorem k66_15 : P66 [1,1,0,1,0,0,1,1,0] = .block 1 (P66 [1,1,0,1,0,0,1,1,0,0]) := by kernel_rfl
theorem k66_16 : P66 [1,1,0,1,0,0,1,1,0,0] = .seq (P66 [1,1,0,1,0,0,1,1,0,0,0]) (P66 [1,1,0,1,0,0,1,1,0,0,1]) := by kernel_rfl
theorem k66_17 : P66 [1,1,0,1,0,0,1,1,0,0,0] = .region 4 (O66 [1,1,0,1,0,0,1,1,0,0,0]) false := by kernel_rfl
theorem r66_4 {x10 : Int} {M : Mem} {call : CallM} {K : Array Value → Mem → R} :
    opsK Try.prog (fun _ => call) (O66 [1,1,0,1,0,0,1,1,0,0,0]) (O66 [1,1,0,1,0,0,1,1,0,0,0]).toList 0 #[g0,g1,g2,g3,g4,g5,g6,g7,g8,g9,.int .i64 x10,g11,g12,g13,g14,g15,g16,g17,g18,g19,g20,g21,g22] M K = K #[g0,g1,g2,g3,g4,g5,g6,g7,.int .i64 x10,g9,.int .i64 x10,g11,.int .i64 x10,g13,g14,g15,g16,g17,g18,g19,g20,g21,g22] M := by kernel_rfl
theorem k66_18 : P66 [1,1,0,1,0,0,1,1,0,0,1] = .region 5 (O66 [1,1,0,1,0,0,1,1,0,0,1]) false := by kernel_rfl
theorem r66_5 {x0 : Option Addr} {x1 x7 x8 : Int} {M : Mem} {call : CallM} {K : Array Value → Mem → R} :
    opsK Try.prog (fun _ => call) (O66 [1,1,0,1,0,0,1,1,0,0,1]) (O66 [1,1,0,1,0,0,1,1,0,0,1]).toList 0 #[.pointer x0,.int .i64 x1,g2,g3,g4,g5,g6,.int .u32 x7,.int .i64 x8,g9,g10,g11,g12,g13,g14,g15,g16,g17,g18,g19,g20,g21,g22] M K = (call 80 #[.pointer x0, .int .i64 (IntKind.i64.wrap (x1 + x8))] M).bind fun r_1 => (asI .u32 r_1.1).bind fun x_2 => K #[.pointer x0,.int .i64 x1,g2,g3,g4,g5,g6,.int .u32 (IntKind.u32.wrap (((BitVec.ofInt (IntKind.bits .u32) (IntKind.u32.wrap (x7 * 2 ^ 1)) ||| BitVec.ofInt (IntKind.bits .u32) x_2).toNat : Int))),.int .i64 x8,g9,g10,g11,g12,.int .u32 x7,.int .u32 (IntKind.u32.wrap (x7 * 2 ^ 1)),.pointer x0,.int .i64 x1,.int .i64 x8,.int .i64 (IntKind.i64.wrap (x1 + x8)),.int .u32 x_2,.int .u32 (IntKind.u32.wrap (((BitVec.ofInt (IntKind.bits .u32) (IntKind.u32.wrap (x7 * 2 ^ 1)) ||| BitVec.ofInt (IntKind.bits .u32) x_2).toNat : Int))),g21,g22] r_1.2 := by kernel_rfl
theorem k66_19 : P66 [1,1,0,1,0,0,1,1,1] = .region 6 (O66 [1,1,0,1,0,0,1,1,1]) false := by kernel_rfl
theorem r66_6 {x10 : Int} {M : Mem} {call : CallM} {K : Array Value → Mem → R} :
    opsK Try.prog (fun _ => call) (O66 [1,1,0,1,0,0,1,1,1]) (O66 [1,1,0,1,0,0,1,1,1]).toList 0 #[g0,g1,g2,g3,g4,g5,g6,g7,g8,g9,.int .i64 x10,g11,g12,g13,g14,g15,g16,g17,g18,g19,g20,g21,g22] M K = K #[g0,g1,g2,g3,g4,g5,g6,g7,g8,g9,.int .i64 (IntKind.i64.wrap (x10 + 1)),g11,g12,g13,g14,g15,g16,g17,g18,g19,g20,.int .i64 (IntKind.i64.wrap (x10 + 1)),g22] M := by kernel_rfl
theorem k66_20 : P66 [1,1,0,1,0,0,1,0,1] = .exit 0 := by kernel_rfl
theorem k66_21 : P66 [1,1,1] = .seq (P66 [1,1,1,0]) (P66 [1,1,1,1]) := by kernel_rfl
theorem k66_22 : P66 [1,1,1,0] = .region 7 (O66 [1,1,1,0]) false := by kernel_rfl
theorem r66_7 {x7 : Int} {M : Mem} {call : CallM} {K : Array Value → Mem → R} :
    opsK Try.prog (fun _ => call) (O66 [1,1,1,0]) (O66 [1,1,1,0]).toList 0 #[g0,g1,g2,g3,g4,g5,g6,.int .u32 x7,g8,g9,g10,g11,g12,g13,g14,g15,g16,g17,g18,g19,g20,g21,g22] M K = K #[g0,g1,g2,g3,g4,g5,.int .u32 x7,.int .u32 x7,g8,g9,g10,g11,g12,g13,g14,g15,g16,g17,g18,g19,g20,g21,.int .u32 x7] M := by kernel_rfl
theorem k66_23 : P66 [1,1,1,1] = .ret := by kernel_rfl
theorem e66 {M : Mem} : finish Try.prog Try.f66 #[g0,g1,g2,g3,g4,g5,g6,g7,g8,g9,g10,g11,g12,g13,g14,g15,g16,g17,g18,g19,g20,g21,g22] M = some (g6, M) := by kernel_rfl
noncomputable def S66_1 : List Item := [.code (P66 [1,1,0,1,0,0]), .inLoop (P66 [1,1,0,1,0,0]), .inBlock 0, .code (P66 [1,1,1])]
def A66_1 (x0 : Option Addr) (x1 x7 x9 x10 : Int) (M : Mem) (Q : Value → Mem → Prop) : Prop := ∀ (g2 g3 g4 g5 g6 g8 g11 g12 g13 g14 g15 g16 g17 g18 g19 g20 g21 g22 : Value), Rn Try.prog Try.f66 S66_1 #[.pointer x0, .int .i64 x1, g2, g3, g4, g5, g6, .int .u32 x7, g8, .int .i64 x9, .int .i64 x10, g11, g12, g13, g14, g15, g16, g17, g18, g19, g20, g21, g22] M Q
theorem w66_0 {x0 : Option Addr} {x1 x2 : Int} {M : Mem} {Q : Value → Mem → Prop} (H :
    A66_1 x0 x1 0 x2 0 M Q) :
    Cn Try.prog 66 #[.pointer x0, .int .i64 x1, .int .i64 x2] M Q := by
  refine Cn.of b66 d66 t66 ?_
  refine Rn.seq k66_0 (Rn.region k66_1 (fun call K => r66_0) (Rch.leaf (Rn.seq k66_2 (Rn.region k66_3 (fun call K => r66_1) (Rch.leaf (Rn.seq k66_4 (Rn.seq k66_5 (Rn.region k66_6 (fun call K => r66_2) (Rch.leaf (Rn.block k66_7 (Rn.loop k66_8 ?_)))))))))))
  exact H _ _ _ _ _ _ _ _ _ _ _ _ _ _ _ _ _ _

theorem w66_1 {x0 : Option Addr} {x1 x7 x9 x10 : Int} {M : Mem} {Q : Value → Mem → Prop} (H :
    ((x10 < x9 →
     Cn Try.prog 80 #[.pointer x0, .int .i64 (IntKind.i64.wrap (x1 + x10))] M fun v1' N1' =>
      ∃ x2', asI .u32 v1' = some x2' ∧
      A66_1 x0 x1 (IntKind.u32.wrap (((BitVec.ofInt (IntKind.bits .u32) (IntKind.u32.wrap (x7 * 2 ^ 1)) ||| BitVec.ofInt (IntKind.bits .u32) x2').toNat : Int))) x9 (IntKind.i64.wrap (x10 + 1)) N1' Q) ∧
     (¬ (x10 < x9) →
     Q (.int .u32 x7) M))) :
    A66_1 x0 x1 x7 x9 x10 M Q := by
  intro g2 g3 g4 g5 g6 g8 g11 g12 g13 g14 g15 g16 g17 g18 g19 g20 g21 g22
  refine Rn.seq k66_9 (Rn.region k66_10 (fun call K => r66_3) (Rch.leaf (Rn.seq k66_11 ?_)))
  refine Rn.cnd (v := decide (x10 < x9)) ⟨c66_12, rfl, by kernel_rfl⟩ (fun h => ?_) (fun h => ?_)
  · replace H := H.1 (of_decide_eq_true h)
    refine Rn.skip k66_13 (Rn.seq k66_14 (Rn.block k66_15 (Rn.seq k66_16 (Rn.region k66_17 (fun call K => r66_4) (Rch.leaf (Rn.region k66_18 (fun call K => r66_5) (Rch.call H fun v1' N1' H => Rch.ex H fun x2' H => Rch.leaf (Rn.blk (Rn.region k66_19 (fun call K => r66_6) ?_)))))))))
    refine Rch.leaf (Rn.lp ?_)
    exact H _ _ _ _ _ _ _ _ _ _ _ _ _ _ _ _ _ _
  · replace H := H.2 (of_decide_eq_false h)
    refine Rn.exit k66_20 rfl (Rn.seq k66_21 (Rn.region k66_22 (fun call K => r66_7) (Rch.leaf ?_)))
    exact Rn.ret k66_23 e66 H


/-! ### (*zoetrope/bits.Reader).there: function 64 -/
noncomputable abbrev P64 (p : List Nat) : Code := subC (codeOf Try.f64) p
noncomputable abbrev O64 (p : List Nat) : Array Oper := opsOf (subC (codeOf Try.f64) p)
theorem b64 : Try.prog.funcs[64]? = some Try.f64 ∧ (Orc.tab Try.prog).lookup 64 = none := ⟨by kernel_rfl, by kernel_rfl⟩
theorem d64 : Try.f64.body = some (P64 []) := by kernel_rfl
theorem t64 {x0 : Option Addr} : #[.pointer x0] ++ Array.replicate (Try.f64.ntmps - (#[.pointer x0] : Array Value).size) undef = #[.pointer x0,undef,undef,undef,undef,undef,undef,undef,undef,undef,undef] := by kernel_rfl
theorem k64_0 : P64 [] = .seq (P64 [0]) (P64 [1]) := by kernel_rfl
theorem k64_1 : P64 [0] = .region 0 (O64 [0]) false := by kernel_rfl
theorem r64_0 {M : Mem} {call : CallM} {K : Array Value → Mem → R} :
    opsK Try.prog (fun _ => call) (O64 [0]) (O64 [0]).toList 0 #[g0,g1,g2,g3,g4,g5,g6,g7,g8,g9,g10] M K = K #[g0,g1,.bool false,g3,g4,g5,g6,g7,g8,g9,g10] M := by kernel_rfl
theorem k64_2 : P64 [1] = .seq (P64 [1,0]) (P64 [1,1]) := by kernel_rfl
theorem k64_3 : P64 [1,0] = .region 1 (O64 [1,0]) false := by kernel_rfl
theorem r64_1 {x0 : Option Addr} {M : Mem} {call : CallM} {K : Array Value → Mem → R} :
    opsK Try.prog (fun _ => call) (O64 [1,0]) (O64 [1,0]).toList 0 #[.pointer x0,g1,g2,g3,g4,g5,g6,g7,g8,g9,g10] M K = withK (fun w2 w5 w6 w7 w8 w9 w10 M => K #[.pointer x0,g1,w2,.pointer x0,.bool x0.isSome,w5,w6,w7,w8,w9,w10] M) fun k => cond x0.isSome ((x0).bind fun a_1 => (M.boolAt a_1.block (a_1.off + 2)).bind fun b_2 => k (.bool b_2) (.bool true) (.pointer x0) (.pointer (some a_1)) (.pointer (some ⟨a_1.block, a_1.off + 2, none⟩)) (.bool b_2) (.bool b_2) M) (k (.bool false) (.bool false) undef undef undef undef (.bool false) M) := by kernel_rfl
theorem k64_4 : P64 [1,1] = .ret := by kernel_rfl
theorem e64 {M : Mem} : finish Try.prog Try.f64 #[g0,g1,g2,g3,g4,g5,g6,g7,g8,g9,g10] M = some (g2, M) := by kernel_rfl
theorem w64_0 {x0 : Option Addr} {M : Mem} {Q : Value → Mem → Prop} (H :
    ((x0.isSome = true →
     ∃ a1', x0 = some a1' ∧
     ∃ b2', M.boolAt a1'.block (a1'.off + 2) = some b2' ∧
     Q (.bool b2') M) ∧
     (x0.isSome = false →
     Q (.bool false) M))) :
    Cn Try.prog 64 #[.pointer x0] M Q := by
  refine Cn.of b64 d64 t64 ?_
  refine Rn.seq k64_0 (Rn.region k64_1 (fun call K => r64_0) (Rch.leaf (Rn.seq k64_2 (Rn.region k64_3 (fun call K => r64_1) ?_))))
  refine Rch.cB (fun h => ?_) (fun h => ?_)
  · replace H := H.1 (h)
    refine Rch.ex H fun a1' H => Rch.ex H fun b2' H => Rch.leaf ?_
    exact Rn.ret k64_4 e64 H
  · replace H := H.2 (h)
    refine Rch.leaf ?_
    exact Rn.ret k64_4 e64 H


/-! ### (*zoetrope/bits.Reader).left: function 65 -/
noncomputable abbrev P65 (p : List Nat) : Code := subC (codeOf Try.f65) p
noncomputable abbrev O65 (p : List Nat) : Array Oper := opsOf (subC (codeOf Try.f65) p)
theorem b65 : Try.prog.funcs[65]? = some Try.f65 ∧ (Orc.tab Try.prog).lookup 65 = none := ⟨by kernel_rfl, by kernel_rfl⟩
theorem d65 : Try.f65.body = some (P65 []) := by kernel_rfl
theorem t65 {x0 : Option Addr} : #[.pointer x0] ++ Array.replicate (Try.f65.ntmps - (#[.pointer x0] : Array Value).size) undef = #[.pointer x0,undef,undef,undef,undef,undef,undef,undef,undef,undef,undef,undef,undef,undef] := by kernel_rfl
theorem k65_0 : P65 [] = .seq (P65 [0]) (P65 [1]) := by kernel_rfl
theorem k65_1 : P65 [0] = .region 0 (O65 [0]) false := by kernel_rfl
theorem r65_0 {M : Mem} {call : CallM} {K : Array Value → Mem → R} :
    opsK Try.prog (fun _ => call) (O65 [0]) (O65 [0]).toList 0 #[g0,g1,g2,g3,g4,g5,g6,g7,g8,g9,g10,g11,g12,g13] M K = K #[g0,g1,.int .i64 0,g3,g4,g5,g6,g7,g8,g9,g10,g11,g12,g13] M := by kernel_rfl
theorem k65_2 : P65 [1] = .seq (P65 [1,0]) (P65 [1,1]) := by kernel_rfl
theorem k65_3 : P65 [1,0] = .region 1 (O65 [1,0]) true ∧ drawOk (O65 [1,0]) = true := ⟨by kernel_rfl, by kernel_rfl⟩
theorem r65_1 {x0 : Option Addr} {M : Mem} {call : CallM} {K : Array Value → Mem → R} :
    opsI Try.prog (callAt call (O65 [1,0])) (O65 [1,0]) (ordOf (O65 [1,0])) [] #[.pointer x0,g1,g2,g3,g4,g5,g6,g7,g8,g9,g10,g11,g12,g13] M K = (x0).bind fun a_1 => (M.slAt a_1.block a_1.off).bind fun s_2 => (x0).bind fun a_3 => (M.intAt .i64 a_3.block (a_3.off + 1)).bind fun x_4 => K #[.pointer x0,g1,.int .i64 (IntKind.i64.wrap ((IntKind.i64.wrap (8 * ((s_2.2.1 : Int)))) - x_4)),.pointer x0,.pointer (some a_1),.pointer (some ⟨a_1.block, a_1.off, none⟩),.slice s_2.1 (s_2.2.1) (s_2.2.2),.int .i64 ((s_2.2.1 : Int)),.int .i64 (IntKind.i64.wrap (8 * ((s_2.2.1 : Int)))),.pointer x0,.pointer (some a_3),.pointer (some ⟨a_3.block, a_3.off + 1, none⟩),.int .i64 x_4,.int .i64 (IntKind.i64.wrap ((IntKind.i64.wrap (8 * ((s_2.2.1 : Int)))) - x_4))] M := by kernel_rfl
theorem k65_4 : P65 [1,1] = .ret := by kernel_rfl
theorem e65 {M : Mem} : finish Try.prog Try.f65 #[g0,g1,g2,g3,g4,g5,g6,g7,g8,g9,g10,g11,g12,g13] M = some (g2, M) := by kernel_rfl
theorem w65_0 {x0 : Option Addr} {M : Mem} {Q : Value → Mem → Prop} (H :
    ∃ a1', x0 = some a1' ∧
    ∃ s2', M.slAt a1'.block a1'.off = some s2' ∧
    ∃ a3', x0 = some a3' ∧
    ∃ x4', M.intAt .i64 a3'.block (a3'.off + 1) = some x4' ∧
    Q (.int .i64 (IntKind.i64.wrap ((IntKind.i64.wrap (8 * ((s2'.2.1 : Int)))) - x4'))) M) :
    Cn Try.prog 65 #[.pointer x0] M Q := by
  refine Cn.of b65 d65 t65 ?_
  refine Rn.seq k65_0 (Rn.region k65_1 (fun call K => r65_0) (Rch.leaf (Rn.seq k65_2 (Rn.regionD k65_3 (fun call K => r65_1) (Rch.ex H fun a1' H => Rch.ex H fun s2' H => Rch.ex H fun a3' H => Rch.ex H fun x4' H => Rch.leaf ?_)))))
  exact Rn.ret k65_4 e65 H


/-! ### slices.Clone[[]byte,byte]: function 61 -/
noncomputable abbrev P61 (p : List Nat) : Code := subC (codeOf Try.f61) p
noncomputable abbrev O61 (p : List Nat) : Array Oper := opsOf (subC (codeOf Try.f61) p)
theorem b61 : Try.prog.funcs[61]? = some Try.f61 ∧ (Orc.tab Try.prog).lookup 61 = none := ⟨by kernel_rfl, by kernel_rfl⟩
theorem d61 : Try.f61.body = some (P61 []) := by kernel_rfl
theorem t61 {Ax0 : Option Addr} {lx0 cx0 : Nat} : #[.slice Ax0 lx0 cx0] ++ Array.replicate (Try.f61.ntmps - (#[.slice Ax0 lx0 cx0] : Array Value).size) undef = #[.slice Ax0 lx0 cx0,undef,undef,undef,undef,undef,undef,undef] := by kernel_rfl
theorem k61_0 : P61 [] = .seq (P61 [0]) (P61 [1]) := by kernel_rfl
theorem k61_1 : P61 [0] = .region 0 (O61 [0]) false := by kernel_rfl
theorem r61_0 {M : Mem} {call : CallM} {K : Array Value → Mem → R} :
    opsK Try.prog (fun _ => call) (O61 [0]) (O61 [0]).toList 0 #[g0,g1,g2,g3,g4,g5,g6,g7] M K = K #[g0,g1,.slice none 0 0,g3,g4,g5,g6,g7] M := by kernel_rfl
theorem k61_2 : P61 [1] = .seq (P61 [1,0]) (P61 [1,1]) := by kernel_rfl
theorem k61_3 : P61 [1,0] = .seq (P61 [1,0,0]) (P61 [1,0,1]) := by kernel_rfl
theorem k61_4 : P61 [1,0,0] = .region 1 (O61 [1,0,0]) false := by kernel_rfl
theorem r61_1 {Ax0 : Option Addr} {lx0 cx0 : Nat} {M : Mem} {call : CallM} {K : Array Value → Mem → R} :
    opsK Try.prog (fun _ => call) (O61 [1,0,0]) (O61 [1,0,0]).toList 0 #[.slice Ax0 lx0 cx0,g1,g2,g3,g4,g5,g6,g7] M K = K #[.slice Ax0 lx0 cx0,g1,g2,.slice Ax0 lx0 cx0,.bool Ax0.isNone,g5,g6,g7] M := by kernel_rfl
theorem c61_5 : P61 [1,0,1] = .cond (.tmp 4) (P61 [1,0,1,0]) (P61 [1,0,1,1]) := by kernel_rfl
theorem k61_6 : P61 [1,0,1,0] = .seq (P61 [1,0,1,0,0]) (P61 [1,0,1,0,1]) := by kernel_rfl
theorem k61_7 : P61 [1,0,1,0,0] = .region 2 (O61 [1,0,1,0,0]) false := by kernel_rfl
theorem r61_2 {M : Mem} {call : CallM} {K : Array Value → Mem → R} :
    opsK Try.prog (fun _ => call) (O61 [1,0,1,0,0]) (O61 [1,0,1,0,0]).toList 0 #[g0,g1,g2,g3,g4,g5,g6,g7] M K = K #[g0,g1,.slice none 0 0,g3,g4,g5,g6,g7] M := by kernel_rfl
theorem k61_8 : P61 [1,0,1,0,1] = .ret := by kernel_rfl
theorem e61 {M : Mem} : finish Try.prog Try.f61 #[g0,g1,g2,g3,g4,g5,g6,g7] M = some (g2, M) := by kernel_rfl
theorem k61_10 : P61 [1,0,1,1] = .skip := by kernel_rfl
theorem k61_11 : P61 [1,1] = .seq (P61 [1,1,0]) (P61 [1,1,1]) := by kernel_rfl
theorem k61_12 : P61 [1,1,0] = .region 3 (O61 [1,1,0]) false := by kernel_rfl
theorem r61_3 {Ax0 : Option Addr} {lx0 cx0 : Nat} {M : Mem} {call : CallM} {K : Array Value → Mem → R} :
    opsK Try.prog (fun _ => call) (O61 [1,1,0]) (O61 [1,1,0]).toList 0 #[.slice Ax0 lx0 cx0,g1,g2,g3,g4,g5,g6,g7] M K = (appendP Try.prog #[24, 24] (.slice (some ⟨2 * M.nb.size, 0, none⟩) 0 0) (.slice Ax0 lx0 cx0) (M.new (.cells #[] 5))).bind fun r_1 => (asS r_1.1).bind fun s_2 => K #[.slice Ax0 lx0 cx0,g1,.slice s_2.1 (s_2.2.1) (s_2.2.2),g3,g4,.slice (some ⟨2 * M.nb.size, 0, none⟩) 0 0,.slice Ax0 lx0 cx0,.slice s_2.1 (s_2.2.1) (s_2.2.2)] r_1.2 := by kernel_rfl
theorem k61_13 : P61 [1,1,1] = .ret := by kernel_rfl
theorem w61_0 {Ax0 : Option Addr} {lx0 cx0 : Nat} {M : Mem} {Q : Value → Mem → Prop} (H :
    ((Ax0.isNone = true →
     Q (.slice none 0 0) M) ∧
     (Ax0.isNone = false →
     ∃ r1', appendP Try.prog #[24, 24] (.slice (some ⟨2 * M.nb.size, 0, none⟩) 0 0) (.slice Ax0 lx0 cx0) (M.new (.cells #[] 5)) = some r1' ∧
     ∃ s2', asS r1'.1 = some s2' ∧
     Q (.slice s2'.1 (s2'.2.1) (s2'.2.2)) r1'.2))) :
    Cn Try.prog 61 #[.slice Ax0 lx0 cx0] M Q := by
  refine Cn.of b61 d61 t61 ?_
  refine Rn.seq k61_0 (Rn.region k61_1 (fun call K => r61_0) (Rch.leaf (Rn.seq k61_2 (Rn.seq k61_3 (Rn.region k61_4 (fun call K => r61_1) (Rch.leaf ?_))))))
  refine Rn.cnd (v := Ax0.isNone) ⟨c61_5, rfl, by kernel_rfl⟩ (fun h => ?_) (fun h => ?_)
  · replace H := H.1 (h)
    refine Rn.seq k61_6 (Rn.region k61_7 (fun call K => r61_2) (Rch.leaf ?_))
    exact Rn.ret k61_8 e61 H
  · replace H := H.2 (h)
    refine Rn.skip k61_10 (Rn.seq k61_11 (Rn.region k61_12 (fun call K => r61_3) (Rch.ex H fun r1' H => Rch.ex H fun s2' H => Rch.leaf ?_)))
    exact Rn.ret k61_13 e61 H


/-! ### (*zoetrope/bits.Reader).Left: function 37 -/
noncomputable abbrev P37 (p : List Nat) : Code := subC (codeOf Try.f37) p
noncomputable abbrev O37 (p : List Nat) : Array Oper := opsOf (subC (codeOf Try.f37) p)
theorem b37 : Try.prog.funcs[37]? = some Try.f37 ∧ (Orc.tab Try.prog).lookup 37 = none := ⟨by kernel_rfl, by kernel_rfl⟩
theorem d37 : Try.f37.body = some (P37 []) := by kernel_rfl
theorem t37 {x0 : Option Addr} : #[.pointer x0] ++ Array.replicate (Try.f37.ntmps - (#[.pointer x0] : Array Value).size) undef = #[.pointer x0,undef,undef,undef,undef,undef,undef,undef] := by kernel_rfl
theorem k37_0 : P37 [] = .seq (P37 [0]) (P37 [1]) := by kernel_rfl
theorem k37_1 : P37 [0] = .region 0 (O37 [0]) false := by kernel_rfl
theorem r37_0 {M : Mem} {call : CallM} {K : Array Value → Mem → R} :
    opsK Try.prog (fun _ => call) (O37 [0]) (O37 [0]).toList 0 #[g0,g1,g2,g3,g4,g5,g6,g7] M K = K #[g0,g1,.int .i64 0,g3,g4,g5,g6,g7] M := by kernel_rfl
theorem k37_2 : P37 [1] = .seq (P37 [1,0]) (P37 [1,1]) := by kernel_rfl
theorem k37_3 : P37 [1,0] = .seq (P37 [1,0,0]) (P37 [1,0,1]) := by kernel_rfl
theorem k37_4 : P37 [1,0,0] = .region 1 (O37 [1,0,0]) false := by kernel_rfl
theorem r37_1 {x0 : Option Addr} {M : Mem} {call : CallM} {K : Array Value → Mem → R} :
    opsK Try.prog (fun _ => call) (O37 [1,0,0]) (O37 [1,0,0]).toList 0 #[.pointer x0,g1,g2,g3,g4,g5,g6,g7] M K = (call 64 #[.pointer x0] M).bind fun r_1 => (asB r_1.1).bind fun b_2 => K #[.pointer x0,g1,g2,.pointer x0,.bool b_2,.bool (!b_2),g6,g7] r_1.2 := by kernel_rfl
theorem c37_5 : P37 [1,0,1] = .cond (.tmp 5) (P37 [1,0,1,0]) (P37 [1,0,1,1]) := by kernel_rfl
theorem k37_6 : P37 [1,0,1,0] = .seq (P37 [1,0,1,0,0]) (P37 [1,0,1,0,1]) := by kernel_rfl
theorem k37_7 : P37 [1,0,1,0,0] = .region 2 (O37 [1,0,1,0,0]) false := by kernel_rfl
theorem r37_2 {M : Mem} {call : CallM} {K : Array Value → Mem → R} :
    opsK Try.prog (fun _ => call) (O37 [1,0,1,0,0]) (O37 [1,0,1,0,0]).toList 0 #[g0,g1,g2,g3,g4,g5,g6,g7] M K = K #[g0,g1,.int .i64 0,g3,g4,g5,g6,g7] M := by kernel_rfl
theorem k37_8 : P37 [1,0,1,0,1] = .ret := by kernel_rfl
theorem e37 {M : Mem} : finish Try.prog Try.f37 #[g0,g1,g2,g3,g4,g5,g6,g7] M = some (g2, M) := by kernel_rfl
theorem k37_10 : P37 [1,0,1,1] = .skip := by kernel_rfl
theorem k37_11 : P37 [1,1] = .seq (P37 [1,1,0]) (P37 [1,1,1]) := by kernel_rfl
theorem k37_12 : P37 [1,1,0] = .region 3 (O37 [1,1,0]) false := by kernel_rfl
theorem r37_3 {x0 : Option Addr} {M : Mem} {call : CallM} {K : Array Value → Mem → R} :
    opsK Try.prog (fun _ => call) (O37 [1,1,0]) (O37 [1,1,0]).toList 0 #[.pointer x0,g1,g2,g3,g4,g5,g6,g7] M K = (call 65 #[.pointer x0] M).bind fun r_1 => (asI .i64 r_1.1).bind fun x_2 => K #[.pointer x0,g1,.int .i64 x_2,g3,g4,g5,.pointer x0,.int .i64 x_2] r_1.2 := by kernel_rfl
theorem k37_13 : P37 [1,1,1] = .ret := by kernel_rfl
theorem w37_0 {x0 : Option Addr} {M : Mem} {Q : Value → Mem → Prop} (H :
    Cn Try.prog 64 #[.pointer x0] M fun v1' N1' =>
     ∃ b2', asB v1' = some b2' ∧
     (((!b2') = true →
      Q (.int .i64 0) N1') ∧
      ((!b2') = false →
      Cn Try.prog 65 #[.pointer x0] N1' fun v3' N3' =>
       ∃ x4', asI .i64 v3' = some x4' ∧
       Q (.int .i64 (x4')) N3'))) :
    Cn Try.prog 37 #[.pointer x0] M Q := by
  refine Cn.of b37 d37 t37 ?_
  refine Rn.seq k37_0 (Rn.region k37_1 (fun call K => r37_0) (Rch.leaf (Rn.seq k37_2 (Rn.seq k37_3 (Rn.region k37_4 (fun call K => r37_1) (Rch.call H fun v1' N1' H => Rch.ex H fun b2' H => Rch.leaf ?_))))))
  refine Rn.cnd (v := !b2') ⟨c37_5, rfl, by kernel_rfl⟩ (fun h => ?_) (fun h => ?_)
  · replace H := H.1 (h)
    refine Rn.seq k37_6 (Rn.region k37_7 (fun call K => r37_2) (Rch.leaf ?_))
    exact Rn.ret k37_8 e37 H
  · replace H := H.2 (h)
    refine Rn.skip k37_10 (Rn.seq k37_11 (Rn.region k37_12 (fun call K => r37_3) (Rch.call H fun v3' N3' H => Rch.ex H fun x4' H => Rch.leaf ?_)))
    exact Rn.ret k37_13 e37 H


/-! ### (*zoetrope/bits.Reader).Fixed: function 33 -/
noncomputable abbrev P33 (p : List Nat) : Code := subC (codeOf Try.f33) p
noncomputable abbrev O33 (p : List Nat) : Array Oper := opsOf (subC (codeOf Try.f33) p)
theorem b33 : Try.prog.funcs[33]? = some Try.f33 ∧ (Orc.tab Try.prog).lookup 33 = none := ⟨by kernel_rfl, by kernel_rfl⟩
theorem d33 : Try.f33.body = some (P33 []) := by kernel_rfl
theorem t33 {x0 : Option Addr} {x1 : Int} : #[.pointer x0,.int .i64 x1] ++ Array.replicate (Try.f33.ntmps - (#[.pointer x0,.int .i64 x1] : Array Value).size) undef = #[.pointer x0,.int .i64 x1,undef,undef,undef,undef,undef,undef,undef,undef,undef,undef,undef,undef,undef,undef,undef,undef,undef,undef,undef,undef,undef,undef,undef,undef,undef,undef,undef,undef,undef,undef,undef,undef,undef,undef,undef,undef,undef] := by kernel_rfl
theorem k33_0 : P33 [] = .seq (P33 [0]) (P33 [1]) := by kernel_rfl
theorem k33_1 : P33 [0] = .region 0 (O33 [0]) false := by kernel_rfl
theorem r33_0 {M : Mem} {call : CallM} {K : Array Value → Mem → R} :
    opsK Try.prog (fun _ => call) (O33 [0]) (O33 [0]).toList 0 #[g0,g1,g2,g3,g4,g5,g6,g7,g8,g9,g10,g11,g12,g13,g14,g15,g16,g17,g18,g19,g20,g21,g22,g23,g24,g25,g26,g27,g28,g29,g30,g31,g32,g33,g34,g35,g36,g37,g38] M K = K #[g0,g1,g2,g3,.int .u32 0,.int .i64 0,g6,g7,g8,g9,g10,g11,g12,g13,g14,g15,g16,g17,g18,g19,g20,g21,g22,g23,g24,g25,g26,g27,g28,g29,g30,g31,g32,g33,g34,g35,g36,g37,g38] M := by kernel_rfl
theorem k33_2 : P33 [1] = .seq (P33 [1,0]) (P33 [1,1]) := by kernel_rfl
theorem k33_3 : P33 [1,0] = .block 0 (P33 [1,0,0]) := by kernel_rfl
theorem k33_4 : P33 [1,0,0] = .seq (P33 [1,0,0,0]) (P33 [1,0,0,1]) := by kernel_rfl
theorem k33_5 : P33 [1,0,0,0] = .region 1 (O33 [1,0,0,0]) false := by kernel_rfl
theorem r33_1 {x0 : Option Addr} {M : Mem} {call : CallM} {K : Array Value → Mem → R} :
    opsK Try.prog (fun _ => call) (O33 [1,0,0,0]) (O33 [1,0,0,0]).toList 0 #[.pointer x0,g1,g2,g3,g4,g5,g6,g7,g8,g9,g10,g11,g12,g13,g14,g15,g16,g17,g18,g19,g20,g21,g22,g23,g24,g25,g26,g27,g28,g29,g30,g31,g32,g33,g34,g35,g36,g37,g38] M K = (call 64 #[.pointer x0] M).bind fun r_1 => (asB r_1.1).bind fun b_2 => K #[.pointer x0,g1,g2,g3,g4,g5,g6,.bool (!b_2),.pointer x0,.bool b_2,.bool (!b_2),g11,g12,g13,g14,g15,g16,g17,g18,g19,g20,g21,g22,g23,g24,g25,g26,g27,g28,g29,g30,g31,g32,g33,g34,g35,g36,g37,g38] r_1.2 := by kernel_rfl
theorem c33_6 : P33 [1,0,0,1] = .cond (.tmp 7) (P33 [1,0,0,1,0]) (P33 [1,0,0,1,1]) := by kernel_rfl
theorem k33_7 : P33 [1,0,0,1,0] = .seq (P33 [1,0,0,1,0,0]) (P33 [1,0,0,1,0,1]) := by kernel_rfl
theorem k33_8 : P33 [1,0,0,1,0,0] = .region 2 (O33 [1,0,0,1,0,0]) false := by kernel_rfl
theorem r33_2 {M : Mem} {call : CallM} {K : Array Value → Mem → R} :
    opsK Try.prog (fun _ => call) (O33 [1,0,0,1,0,0]) (O33 [1,0,0,1,0,0]).toList 0 #[g0,g1,g2,g3,g4,g5,g6,g7,g8,g9,g10,g11,g12,g13,g14,g15,g16,g17,g18,g19,g20,g21,g22,g23,g24,g25,g26,g27,g28,g29,g30,g31,g32,g33,g34,g35,g36,g37,g38] M K = K #[g0,g1,g2,g3,.int .u32 0,.int .i64 1,g6,g7,g8,g9,g10,g11,g12,g13,g14,g15,g16,g17,g18,g19,g20,g21,g22,g23,g24,g25,g26,g27,g28,g29,g30,g31,g32,g33,g34,g35,g36,g37,g38] M := by kernel_rfl
theorem k33_9 : P33 [1,0,0,1,0,1] = .ret := by kernel_rfl
theorem e33 {M : Mem} : finish Try.prog Try.f33 #[g0,g1,g2,g3,g4,g5,g6,g7,g8,g9,g10,g11,g12,g13,g14,g15,g16,g17,g18,g19,g20,g21,g22,g23,g24,g25,g26,g27,g28,g29,g30,g31,g32,g33,g34,g35,g36,g37,g38] M = some (.tuple #[g4, g5], M) := by kernel_rfl
theorem k33_11 : P33 [1,0,0,1,1] = .seq (P33 [1,0,0,1,1,0]) (P33 [1,0,0,1,1,1]) := by kernel_rfl
theorem k33_12 : P33 [1,0,0,1,1,0] = .region 3 (O33 [1,0,0,1,1,0]) false := by kernel_rfl
theorem r33_3 {x1 : Int} {M : Mem} {call : CallM} {K : Array Value → Mem → R} :
    opsK Try.prog (fun _ => call) (O33 [1,0,0,1,1,0]) (O33 [1,0,0,1,1,0]).toList 0 #[g0,.int .i64 x1,g2,g3,g4,g5,g6,g7,g8,g9,g10,g11,g12,g13,g14,g15,g16,g17,g18,g19,g20,g21,g22,g23,g24,g25,g26,g27,g28,g29,g30,g31,g32,g33,g34,g35,g36,g37,g38] M K = withK (fun w11 w14 w15 w16 w17 M => K #[g0,.int .i64 x1,g2,g3,g4,g5,g6,g7,g8,g9,g10,w11,.int .i64 x1,.bool (decide (x1 < 0)),w14,w15,w16,w17,g18,g19,g20,g21,g22,g23,g24,g25,g26,g27,g28,g29,g30,g31,g32,g33,g34,g35,g36,g37,g38] M) fun k => cond (decide (x1 < 0)) (k (.bool true) (.bool true) undef undef (.bool true) M) (k (.bool (decide (x1 > 32))) (.bool false) (.int .i64 x1) (.bool (decide (x1 > 32))) (.bool (decide (x1 > 32))) M) := by kernel_rfl
theorem c33_13 : P33 [1,0,0,1,1,1] = .cond (.tmp 11) (P33 [1,0,0,1,1,1,0]) (P33 [1,0,0,1,1,1,1]) := by kernel_rfl
theorem k33_14 : P33 [1,0,0,1,1,1,0] = .seq (P33 [1,0,0,1,1,1,0,0]) (P33 [1,0,0,1,1,1,0,1]) := by kernel_rfl
theorem k33_15 : P33 [1,0,0,1,1,1,0,0] = .region 4 (O33 [1,0,0,1,1,1,0,0]) false := by kernel_rfl
theorem r33_4 {M : Mem} {call : CallM} {K : Array Value → Mem → R} :
    opsK Try.prog (fun _ => call) (O33 [1,0,0,1,1,1,0,0]) (O33 [1,0,0,1,1,1,0,0]).toList 0 #[g0,g1,g2,g3,g4,g5,g6,g7,g8,g9,g10,g11,g12,g13,g14,g15,g16,g17,g18,g19,g20,g21,g22,g23,g24,g25,g26,g27,g28,g29,g30,g31,g32,g33,g34,g35,g36,g37,g38] M K = K #[g0,g1,g2,g3,.int .u32 0,.int .i64 2,g6,g7,g8,g9,g10,g11,g12,g13,g14,g15,g16,g17,g18,g19,g20,g21,g22,g23,g24,g25,g26,g27,g28,g29,g30,g31,g32,g33,g34,g35,g36,g37,g38] M := by kernel_rfl
theorem k33_16 : P33 [1,0,0,1,1,1,0,1] = .ret := by kernel_rfl
theorem k33_17 : P33 [1,0,0,1,1,1,1] = .seq (P33 [1,0,0,1,1,1,1,0]) (P33 [1,0,0,1,1,1,1,1]) := by kernel_rfl
theorem k33_18 : P33 [1,0,0,1,1,1,1,0] = .region 5 (O33 [1,0,0,1,1,1,1,0]) false := by kernel_rfl
theorem r33_5 {x0 : Option Addr} {x1 : Int} {M : Mem} {call : CallM} {K : Array Value → Mem → R} :
    opsK Try.prog (fun _ => call) (O33 [1,0,0,1,1,1,1,0]) (O33 [1,0,0,1,1,1,1,0]).toList 0 #[.pointer x0,.int .i64 x1,g2,g3,g4,g5,g6,g7,g8,g9,g10,g11,g12,g13,g14,g15,g16,g17,g18,g19,g20,g21,g22,g23,g24,g25,g26,g27,g28,g29,g30,g31,g32,g33,g34,g35,g36,g37,g38] M K = (call 65 #[.pointer x0] M).bind fun r_1 => (asI .i64 r_1.1).bind fun x_2 => K #[.pointer x0,.int .i64 x1,g2,g3,g4,g5,g6,g7,g8,g9,g10,g11,g12,g13,g14,g15,g16,g17,.bool (decide (x1 > x_2)),.int .i64 x1,.pointer x0,.int .i64 x_2,.bool (decide (x1 > x_2)),g23,g24,g25,g26,g27,g28,g29,g30,g31,g32,g33,g34,g35,g36,g37,g38] r_1.2 := by kernel_rfl
theorem c33_19 : P33 [1,0,0,1,1,1,1,1] = .cond (.tmp 18) (P33 [1,0,0,1,1,1,1,1,0]) (P33 [1,0,0,1,1,1,1,1,1]) := by kernel_rfl
theorem k33_20 : P33 [1,0,0,1,1,1,1,1,0] = .seq (P33 [1,0,0,1,1,1,1,1,0,0]) (P33 [1,0,0,1,1,1,1,1,0,1]) := by kernel_rfl
theorem k33_21 : P33 [1,0,0,1,1,1,1,1,0,0] = .region 6 (O33 [1,0,0,1,1,1,1,1,0,0]) false := by kernel_rfl
theorem r33_6 {M : Mem} {call : CallM} {K : Array Value → Mem → R} :
    opsK Try.prog (fun _ => call) (O33 [1,0,0,1,1,1,1,1,0,0]) (O33 [1,0,0,1,1,1,1,1,0,0]).toList 0 #[g0,g1,g2,g3,g4,g5,g6,g7,g8,g9,g10,g11,g12,g13,g14,g15,g16,g17,g18,g19,g20,g21,g22,g23,g24,g25,g26,g27,g28,g29,g30,g31,g32,g33,g34,g35,g36,g37,g38] M K = K #[g0,g1,g2,g3,.int .u32 0,.int .i64 3,g6,g7,g8,g9,g10,g11,g12,g13,g14,g15,g16,g17,g18,g19,g20,g21,g22,g23,g24,g25,g26,g27,g28,g29,g30,g31,g32,g33,g34,g35,g36,g37,g38] M := by kernel_rfl
theorem k33_22 : P33 [1,0,0,1,1,1,1,1,0,1] = .ret := by kernel_rfl
theorem k33_23 : P33 [1,0,0,1,1,1,1,1,1] = .skip := by kernel_rfl
theorem k33_24 : P33 [1,1] = .seq (P33 [1,1,0]) (P33 [1,1,1]) := by kernel_rfl
theorem k33_25 : P33 [1,1,0] = .region 7 (O33 [1,1,0]) false := by kernel_rfl
theorem r33_7 {x0 : Option Addr} {x1 : Int} {M : Mem} {call : CallM} {K : Array Value → Mem → R} :
    opsK Try.prog (fun _ => call) (O33 [1,1,0]) (O33 [1,1,0]).toList 0 #[.pointer x0,.int .i64 x1,g2,g3,g4,g5,g6,g7,g8,g9,g10,g11,g12,g13,g14,g15,g16,g17,g18,g19,g20,g21,g22,g23,g24,g25,g26,g27,g28,g29,g30,g31,g32,g33,g34,g35,g36,g37,g38] M K = (x0).bind fun a_1 => (M.intAt .i64 a_1.block (a_1.off + 1)).bind fun x_2 => (call 66 #[.pointer x0, .int .i64 x_2, .int .i64 x1] M).bind fun r_3 => (asI .u32 r_3.1).bind fun x_4 => K #[.pointer x0,.int .i64 x1,g2,g3,g4,g5,.int .u32 x_4,g7,g8,g9,g10,g11,g12,g13,g14,g15,g16,g17,g18,g19,g20,g21,g22,.pointer x0,.pointer x0,.pointer (some a_1),.pointer (some ⟨a_1.block, a_1.off + 1, none⟩),.int .i64 x_2,.int .i64 x1,.int .u32 x_4,g30,g31,g32,g33,g34,g35,g36,g37,g38] r_3.2 := by kernel_rfl
theorem k33_26 : P33 [1,1,1] = .seq (P33 [1,1,1,0]) (P33 [1,1,1,1]) := by kernel_rfl
theorem k33_27 : P33 [1,1,1,0] = .region 8 (O33 [1,1,1,0]) false := by kernel_rfl
theorem r33_8 {x0 : Option Addr} {x1 : Int} {M : Mem} {call : CallM} {K : Array Value → Mem → R} :
    opsK Try.prog (fun _ => call) (O33 [1,1,1,0]) (O33 [1,1,1,0]).toList 0 #[.pointer x0,.int .i64 x1,g2,g3,g4,g5,g6,g7,g8,g9,g10,g11,g12,g13,g14,g15,g16,g17,g18,g19,g20,g21,g22,g23,g24,g25,g26,g27,g28,g29,g30,g31,g32,g33,g34,g35,g36,g37,g38] M K = (x0).bind fun a_1 => (M.intAt .i64 a_1.block (a_1.off + 1)).bind fun x_2 => (x0).bind fun a_3 => (M.put a_3.block (a_3.off + 1) (.int .i64 (IntKind.i64.wrap (x_2 + x1)))).bind fun M_4 => K #[.pointer x0,.int .i64 x1,g2,g3,g4,g5,g6,g7,g8,g9,g10,g11,g12,g13,g14,g15,g16,g17,g18,g19,g20,g21,g22,g23,g24,g25,g26,g27,g28,g29,.pointer x0,.pointer (some a_1),.pointer (some ⟨a_1.block, a_1.off + 1, none⟩),.int .i64 x_2,.int .i64 x1,.int .i64 (IntKind.i64.wrap (x_2 + x1)),.pointer (some a_3),.pointer (some ⟨a_3.block, a_3.off + 1, none⟩),g38] M_4 := by kernel_rfl
theorem k33_28 : P33 [1,1,1,1] = .seq (P33 [1,1,1,1,0]) (P33 [1,1,1,1,1]) := by kernel_rfl
theorem k33_29 : P33 [1,1,1,1,0] = .region 9 (O33 [1,1,1,1,0]) false := by kernel_rfl
theorem r33_9 {x6 : Int} {M : Mem} {call : CallM} {K : Array Value → Mem → R} :
    opsK Try.prog (fun _ => call) (O33 [1,1,1,1,0]) (O33 [1,1,1,1,0]).toList 0 #[g0,g1,g2,g3,g4,g5,.int .u32 x6,g7,g8,g9,g10,g11,g12,g13,g14,g15,g16,g17,g18,g19,g20,g21,g22,g23,g24,g25,g26,g27,g28,g29,g30,g31,g32,g33,g34,g35,g36,g37,g38] M K = K #[g0,g1,g2,g3,.int .u32 x6,.int .i64 0,.int .u32 x6,g7,g8,g9,g10,g11,g12,g13,g14,g15,g16,g17,g18,g19,g20,g21,g22,g23,g24,g25,g26,g27,g28,g29,g30,g31,g32,g33,g34,g35,g36,g37,.int .u32 x6] M := by kernel_rfl
theorem k33_30 : P33 [1,1,1,1,1] = .ret := by kernel_rfl
noncomputable def S33_1 : List Item := [.code (P33 [1,0,0,1,1,1]), .inBlock 0, .code (P33 [1,1])]
def A33_1 (x0 : Option Addr) (x1 : Int) (x11 : Bool) (M : Mem) (Q : Value → Mem → Prop) : Prop := ∀ (g2 g3 g4 g5 g6 g7 g8 g9 g10 g12 g13 g14 g15 g16 g17 g18 g19 g20 g21 g22 g23 g24 g25 g26 g27 g28 g29 g30 g31 g32 g33 g34 g35 g36 g37 g38 : Value), Rn Try.prog Try.f33 S33_1 #[.pointer x0, .int .i64 x1, g2, g3, g4, g5, g6, g7, g8, g9, g10, .bool x11, g12, g13, g14, g15, g16, g17, g18, g19, g20, g21, g22, g23, g24, g25, g26, g27, g28, g29, g30, g31, g32, g33, g34, g35, g36, g37, g38] M Q
theorem w33_0 {x0 : Option Addr} {x1 : Int} {M : Mem} {Q : Value → Mem → Prop} (H :
    Cn Try.prog 64 #[.pointer x0] M fun v1' N1' =>
     ∃ b2', asB v1' = some b2' ∧
     (((!b2') = true →
      Q (.tuple #[.int .u32 0, .int .i64 1]) N1') ∧
      ((!b2') = false →
      ((x1 < 0 →
       A33_1 x0 x1 true N1' Q) ∧
       (¬ (x1 < 0) →
       A33_1 x0 x1 (decide (x1 > 32)) N1' Q))))) :
    Cn Try.prog 33 #[.pointer x0, .int .i64 x1] M Q := by
  refine Cn.of b33 d33 t33 ?_
  refine Rn.seq k33_0 (Rn.region k33_1 (fun call K => r33_0) (Rch.leaf (Rn.seq k33_2 (Rn.block k33_3 (Rn.seq k33_4 (Rn.region k33_5 (fun call K => r33_1) (Rch.call H fun v1' N1' H => Rch.ex H fun b2' H => Rch.leaf ?_)))))))
  refine Rn.cnd (v := !b2') ⟨c33_6, rfl, by kernel_rfl⟩ (fun h => ?_) (fun h => ?_)
  · replace H := H.1 (h)
    refine Rn.seq k33_7 (Rn.region k33_8 (fun call K => r33_2) (Rch.leaf ?_))
    exact Rn.ret k33_9 e33 H
  · replace H := H.2 (h)
    refine Rn.seq k33_11 (Rn.region k33_12 (fun call K => r33_3) ?_)
    refine Rch.cB (fun h => ?_) (fun h => ?_)
    · replace H := H.1 (of_decide_eq_true h)
      refine Rch.leaf ?_
      exact H _ _ _ _ _ _ _ _ _ _ _ _ _ _ _ _ _ _ _ _ _ _ _ _ _ _ _ _ _ _ _ _ _ _ _ _
    · replace H := H.2 (of_decide_eq_false h)
      refine Rch.leaf ?_
      exact H _ _ _ _ _ _ _ _ _ _ _ _ _ _ _ _ _ _ _ _ _ _ _ _ _ _ _ _ _ _ _ _ _ _ _ _

theorem w33_1 {x0 : Option Addr} {x1 : Int} {x11 : Bool} {M : Mem} {Q : Value → Mem → Prop} (H :
    ((x11 = true →
     Q (.tuple #[.int .u32 0, .int .i64 2]) M) ∧
     (x11 = false →
     Cn Try.prog 65 #[.pointer x0] M fun v3' N3' =>
      ∃ x4', asI .i64 v3' = some x4' ∧
      ((x1 > x4' →
       Q (.tuple #[.int .u32 0, .int .i64 3]) N3') ∧
       (¬ (x1 > x4') →
       ∃ a5', x0 = some a5' ∧
       ∃ x6', N3'.intAt .i64 a5'.block (a5'.off + 1) = some x6' ∧
       Cn Try.prog 66 #[.pointer x0, .int .i64 x6', .int .i64 x1] N3' fun v7' N7' =>
        ∃ x8', asI .u32 v7' = some x8' ∧
        ∃ a9', x0 = some a9' ∧
        ∃ x10', N7'.intAt .i64 a9'.block (a9'.off + 1) = some x10' ∧
        ∃ a11', x0 = some a11' ∧
        ∃ M12', N7'.put a11'.block (a11'.off + 1) (.int .i64 (IntKind.i64.wrap (x10' + x1))) = some M12' ∧
        Q (.tuple #[.int .u32 (x8'), .int .i64 0]) M12'))))) :
    A33_1 x0 x1 x11 M Q := by
  intro g2 g3 g4 g5 g6 g7 g8 g9 g10 g12 g13 g14 g15 g16 g17 g18 g19 g20 g21 g22 g23 g24 g25 g26 g27 g28 g29 g30 g31 g32 g33 g34 g35 g36 g37 g38
  refine Rn.cnd (v := x11) ⟨c33_13, rfl, by kernel_rfl⟩ (fun h => ?_) (fun h => ?_)
  · replace H := H.1 (h)
    refine Rn.seq k33_14 (Rn.region k33_15 (fun call K => r33_4) (Rch.leaf ?_))
    exact Rn.ret k33_16 e33 H
  · replace H := H.2 (h)
    refine Rn.seq k33_17 (Rn.region k33_18 (fun call K => r33_5) (Rch.call H fun v3' N3' H => Rch.ex H fun x4' H => Rch.leaf ?_))
    refine Rn.cnd (v := decide (x1 > x4')) ⟨c33_19, rfl, by kernel_rfl⟩ (fun h => ?_) (fun h => ?_)
    · replace H := H.1 (of_decide_eq_true h)
      refine Rn.seq k33_20 (Rn.region k33_21 (fun call K => r33_6) (Rch.leaf ?_))
      exact Rn.ret k33_22 e33 H
    · replace H := H.2 (of_decide_eq_false h)
      refine Rn.skip k33_23 (Rn.blk (Rn.seq k33_24 (Rn.region k33_25 (fun call K => r33_7) (Rch.ex H fun a5' H => Rch.ex H fun x6' H => Rch.call H fun v7' N7' H => Rch.ex H fun x8' H => Rch.leaf (Rn.seq k33_26 (Rn.region k33_27 (fun call K => r33_8) (Rch.ex H fun a9' H => ?_)))))))
      refine Rch.ex H fun x10' H => Rch.ex H fun a11' H => Rch.ex H fun M12' H => Rch.leaf (Rn.seq k33_28 (Rn.region k33_29 (fun call K => r33_9) (Rch.leaf ?_)))
      exact Rn.ret k33_30 e33 H


/-! ### (*zoetrope/bits.Reader).Signed: function 82 -/
noncomputable abbrev P82 (p : List Nat) : Code := subC (codeOf Try.f82) p
noncomputable abbrev O82 (p : List Nat) : Array Oper := opsOf (subC (codeOf Try.f82) p)
theorem b82 : Try.prog.funcs[82]? = some Try.f82 ∧ (Orc.tab Try.prog).lookup 82 = none := ⟨by kernel_rfl, by kernel_rfl⟩
theorem d82 : Try.f82.body = some (P82 []) := by kernel_rfl
theorem t82 {x0 : Option Addr} {x1 : Int} : #[.pointer x0,.int .i64 x1] ++ Array.replicate (Try.f82.ntmps - (#[.pointer x0,.int .i64 x1] : Array Value).size) undef = #[.pointer x0,.int .i64 x1,undef,undef,undef,undef,undef,undef,undef,undef,undef,undef,undef,undef,undef,undef,undef,undef,undef,undef,undef,undef,undef,undef,undef,undef,undef,undef,undef,undef,undef,undef,undef,undef,undef,undef,undef,undef,undef,undef,undef,undef,undef,undef,undef,undef,undef,undef,undef,undef,undef,undef,undef,undef] := by kernel_rfl
theorem k82_0 : P82 [] = .seq (P82 [0]) (P82 [1]) := by kernel_rfl
theorem k82_1 : P82 [0] = .region 0 (O82 [0]) false := by kernel_rfl
theorem r82_0 {M : Mem} {call : CallM} {K : Array Value → Mem → R} :
    opsK Try.prog (fun _ => call) (O82 [0]) (O82 [0]).toList 0 #[g0,g1,g2,g3,g4,g5,g6,g7,g8,g9,g10,g11,g12,g13,g14,g15,g16,g17,g18,g19,g20,g21,g22,g23,g24,g25,g26,g27,g28,g29,g30,g31,g32,g33,g34,g35,g36,g37,g38,g39,g40,g41,g42,g43,g44,g45,g46,g47,g48,g49,g50,g51,g52,g53] M K = K #[g0,g1,g2,g3,.int .i32 0,.int .i64 0,g6,g7,g8,g9,g10,g11,g12,g13,g14,g15,g16,g17,g18,g19,g20,g21,g22,g23,g24,g25,g26,g27,g28,g29,g30,g31,g32,g33,g34,g35,g36,g37,g38,g39,g40,g41,g42,g43,g44,g45,g46,g47,g48,g49,g50,g51,g52,g53] M := by kernel_rfl
theorem k82_2 : P82 [1] = .seq (P82 [1,0]) (P82 [1,1]) := by kernel_rfl
theorem k82_3 : P82 [1,0] = .block 0 (P82 [1,0,0]) := by kernel_rfl
theorem k82_4 : P82 [1,0,0] = .seq (P82 [1,0,0,0]) (P82 [1,0,0,1]) := by kernel_rfl
theorem k82_5 : P82 [1,0,0,0] = .region 1 (O82 [1,0,0,0]) false := by kernel_rfl
theorem r82_1 {x0 : Option Addr} {M : Mem} {call : CallM} {K : Array Value → Mem → R} :
    opsK Try.prog (fun _ => call) (O82 [1,0,0,0]) (O82 [1,0,0,0]).toList 0 #[.pointer x0,g1,g2,g3,g4,g5,g6,g7,g8,g9,g10,g11,g12,g13,g14,g15,g16,g17,g18,g19,g20,g21,g22,g23,g24,g25,g26,g27,g28,g29,g30,g31,g32,g33,g34,g35,g36,g37,g38,g39,g40,g41,g42,g43,g44,g45,g46,g47,g48,g49,g50,g51,g52,g53] M K = (call 64 #[.pointer x0] M).bind fun r_1 => (asB r_1.1).bind fun b_2 => K #[.pointer x0,g1,g2,g3,g4,g5,g6,.bool (!b_2),.pointer x0,.bool b_2,.bool (!b_2),g11,g12,g13,g14,g15,g16,g17,g18,g19,g20,g21,g22,g23,g24,g25,g26,g27,g28,g29,g30,g31,g32,g33,g34,g35,g36,g37,g38,g39,g40,g41,g42,g43,g44,g45,g46,g47,g48,g49,g50,g51,g52,g53] r_1.2 := by kernel_rfl
theorem c82_6 : P82 [1,0,0,1] = .cond (.tmp 7) (P82 [1,0,0,1,0]) (P82 [1,0,0,1,1]) := by kernel_rfl
theorem k82_7 : P82 [1,0,0,1,0] = .seq (P82 [1,0,0,1,0,0]) (P82 [1,0,0,1,0,1]) := by kernel_rfl
theorem k82_8 : P82 [1,0,0,1,0,0] = .region 2 (O82 [1,0,0,1,0,0]) false := by kernel_rfl
theorem r82_2 {M : Mem} {call : CallM} {K : Array Value → Mem → R} :
    opsK Try.prog (fun _ => call) (O82 [1,0,0,1,0,0]) (O82 [1,0,0,1,0,0]).toList 0 #[g0,g1,g2,g3,g4,g5,g6,g7,g8,g9,g10,g11,g12,g13,g14,g15,g16,g17,g18,g19,g20,g21,g22,g23,g24,g25,g26,g27,g28,g29,g30,g31,g32,g33,g34,g35,g36,g37,g38,g39,g40,g41,g42,g43,g44,g45,g46,g47,g48,g49,g50,g51,g52,g53] M K = K #[g0,g1,g2,g3,.int .i32 0,.int .i64 1,g6,g7,g8,g9,g10,g11,g12,g13,g14,g15,g16,g17,g18,g19,g20,g21,g22,g23,g24,g25,g26,g27,g28,g29,g30,g31,g32,g33,g34,g35,g36,g37,g38,g39,g40,g41,g42,g43,g44,g45,g46,g47,g48,g49,g50,g51,g52,g53] M := by kernel_rfl
theorem k82_9 : P82 [1,0,0,1,0,1] = .ret := by kernel_rfl
theorem e82 {M : Mem} : finish Try.prog Try.f82 #[g0,g1,g2,g3,g4,g5,g6,g7,g8,g9,g10,g11,g12,g13,g14,g15,g16,g17,g18,g19,g20,g21,g22,g23,g24,g25,g26,g27,g28,g29,g30,g31,g32,g33,g34,g35,g36,g37,g38,g39,g40,g41,g42,g43,g44,g45,g46,g47,g48,g49,g50,g51,g52,g53] M = some (.tuple #[g4, g5], M) := by kernel_rfl
theorem k82_11 : P82 [1,0,0,1,1] = .seq (P82 [1,0,0,1,1,0]) (P82 [1,0,0,1,1,1]) := by kernel_rfl
theorem k82_12 : P82 [1,0,0,1,1,0] = .region 3 (O82 [1,0,0,1,1,0]) false := by kernel_rfl
theorem r82_3 {x1 : Int} {M : Mem} {call : CallM} {K : Array Value → Mem → R} :
    opsK Try.prog (fun _ => call) (O82 [1,0,0,1,1,0]) (O82 [1,0,0,1,1,0]).toList 0 #[g0,.int .i64 x1,g2,g3,g4,g5,g6,g7,g8,g9,g10,g11,g12,g13,g14,g15,g16,g17,g18,g19,g20,g21,g22,g23,g24,g25,g26,g27,g28,g29,g30,g31,g32,g33,g34,g35,g36,g37,g38,g39,g40,g41,g42,g43,g44,g45,g46,g47,g48,g49,g50,g51,g52,g53] M K = withK (fun w11 w14 w15 w16 w17 M => K #[g0,.int .i64 x1,g2,g3,g4,g5,g6,g7,g8,g9,g10,w11,.int .i64 x1,.bool (decide (x1 < 1)),w14,w15,w16,w17,g18,g19,g20,g21,g22,g23,g24,g25,g26,g27,g28,g29,g30,g31,g32,g33,g34,g35,g36,g37,g38,g39,g40,g41,g42,g43,g44,g45,g46,g47,g48,g49,g50,g51,g52,g53] M) fun k => cond (decide (x1 < 1)) (k (.bool true) (.bool true) undef undef (.bool true) M) (k (.bool (decide (x1 > 31))) (.bool false) (.int .i64 x1) (.bool (decide (x1 > 31))) (.bool (decide (x1 > 31))) M) := by kernel_rfl
theorem c82_13 : P82 [1,0,0,1,1,1] = .cond (.tmp 11) (P82 [1,0,0,1,1,1,0]) (P82 [1,0,0,1,1,1,1]) := by kernel_rfl
theorem k82_14 : P82 [1,0,0,1,1,1,0] = .seq (P82 [1,0,0,1,1,1,0,0]) (P82 [1,0,0,1,1,1,0,1]) := by kernel_rfl
theorem k82_15 : P82 [1,0,0,1,1,1,0,0] = .region 4 (O82 [1,0,0,1,1,1,0,0]) false := by kernel_rfl
theorem r82_4 {M : Mem} {call : CallM} {K : Array Value → Mem → R} :
    opsK Try.prog (fun _ => call) (O82 [1,0,0,1,1,1,0,0]) (O82 [1,0,0,1,1,1,0,0]).toList 0 #[g0,g1,g2,g3,g4,g5,g6,g7,g8,g9,g10,g11,g12,g13,g14,g15,g16,g17,g18,g19,g20,g21,g22,g23,g24,g25,g26,g27,g28,g29,g30,g31,g32,g33,g34,g35,g36,g37,g38,g39,g40,g41,g42,g43,g44,g45,g46,g47,g48,g49,g50,g51,g52,g53] M K = K #[g0,g1,g2,g3,.int .i32 0,.int .i64 2,g6,g7,g8,g9,g10,g11,g12,g13,g14,g15,g16,g17,g18,g19,g20,g21,g22,g23,g24,g25,g26,g27,g28,g29,g30,g31,g32,g33,g34,g35,g36,g37,g38,g39,g40,g41,g42,g43,g44,g45,g46,g47,g48,g49,g50,g51,g52,g53] M := by kernel_rfl
theorem k82_16 : P82 [1,0,0,1,1,1,0,1] = .ret := by kernel_rfl
theorem k82_17 : P82 [1,0,0,1,1,1,1] = .seq (P82 [1,0,0,1,1,1,1,0]) (P82 [1,0,0,1,1,1,1,1]) := by kernel_rfl
theorem k82_18 : P82 [1,0,0,1,1,1,1,0] = .region 5 (O82 [1,0,0,1,1,1,1,0]) false := by kernel_rfl
theorem r82_5 {x0 : Option Addr} {x1 : Int} {M : Mem} {call : CallM} {K : Array Value → Mem → R} :
    opsK Try.prog (fun _ => call) (O82 [1,0,0,1,1,1,1,0]) (O82 [1,0,0,1,1,1,1,0]).toList 0 #[.pointer x0,.int .i64 x1,g2,g3,g4,g5,g6,g7,g8,g9,g10,g11,g12,g13,g14,g15,g16,g17,g18,g19,g20,g21,g22,g23,g24,g25,g26,g27,g28,g29,g30,g31,g32,g33,g34,g35,g36,g37,g38,g39,g40,g41,g42,g43,g44,g45,g46,g47,g48,g49,g50,g51,g52,g53] M K = (call 65 #[.pointer x0] M).bind fun r_1 => (asI .i64 r_1.1).bind fun x_2 => K #[.pointer x0,.int .i64 x1,g2,g3,g4,g5,g6,g7,g8,g9,g10,g11,g12,g13,g14,g15,g16,g17,.bool (decide ((IntKind.i64.wrap (x1 + 1)) > x_2)),.int .i64 x1,.int .i64 (IntKind.i64.wrap (x1 + 1)),.pointer x0,.int .i64 x_2,.bool (decide ((IntKind.i64.wrap (x1 + 1)) > x_2)),g24,g25,g26,g27,g28,g29,g30,g31,g32,g33,g34,g35,g36,g37,g38,g39,g40,g41,g42,g43,g44,g45,g46,g47,g48,g49,g50,g51,g52,g53] r_1.2 := by kernel_rfl
theorem c82_19 : P82 [1,0,0,1,1,1,1,1] = .cond (.tmp 18) (P82 [1,0,0,1,1,1,1,1,0]) (P82 [1,0,0,1,1,1,1,1,1]) := by kernel_rfl
theorem k82_20 : P82 [1,0,0,1,1,1,1,1,0] = .seq (P82 [1,0,0,1,1,1,1,1,0,0]) (P82 [1,0,0,1,1,1,1,1,0,1]) := by kernel_rfl
theorem k82_21 : P82 [1,0,0,1,1,1,1,1,0,0] = .region 6 (O82 [1,0,0,1,1,1,1,1,0,0]) false := by kernel_rfl
theorem r82_6 {M : Mem} {call : CallM} {K : Array Value → Mem → R} :
    opsK Try.prog (fun _ => call) (O82 [1,0,0,1,1,1,1,1,0,0]) (O82 [1,0,0,1,1,1,1,1,0,0]).toList 0 #[g0,g1,g2,g3,g4,g5,g6,g7,g8,g9,g10,g11,g12,g13,g14,g15,g16,g17,g18,g19,g20,g21,g22,g23,g24,g25,g26,g27,g28,g29,g30,g31,g32,g33,g34,g35,g36,g37,g38,g39,g40,g41,g42,g43,g44,g45,g46,g47,g48,g49,g50,g51,g52,g53] M K = K #[g0,g1,g2,g3,.int .i32 0,.int .i64 3,g6,g7,g8,g9,g10,g11,g12,g13,g14,g15,g16,g17,g18,g19,g20,g21,g22,g23,g24,g25,g26,g27,g28,g29,g30,g31,g32,g33,g34,g35,g36,g37,g38,g39,g40,g41,g42,g43,g44,g45,g46,g47,g48,g49,g50,g51,g52,g53] M := by kernel_rfl
theorem k82_22 : P82 [1,0,0,1,1,1,1,1,0,1] = .ret := by kernel_rfl
theorem k82_23 : P82 [1,0,0,1,1,1,1,1,1] = .skip := by kernel_rfl
theorem k82_24 : P82 [1,1] = .seq (P82 [1,1,0]) (P82 [1,1,1]) := by kernel_rfl
theorem k82_25 : P82 [1,1,0] = .region 7 (O82 [1,1,0]) false := by kernel_rfl
theorem r82_7 {x0 : Option Addr} {x1 : Int} {M : Mem} {call : CallM} {K : Array Value → Mem → R} :
    opsK Try.prog (fun _ => call) (O82 [1,1,0]) (O82 [1,1,0]).toList 0 #[.pointer x0,.int .i64 x1,g2,g3,g4,g5,g6,g7,g8,g9,g10,g11,g12,g13,g14,g15,g16,g17,g18,g19,g20,g21,g22,g23,g24,g25,g26,g27,g28,g29,g30,g31,g32,g33,g34,g35,g36,g37,g38,g39,g40,g41,g42,g43,g44,g45,g46,g47,g48,g49,g50,g51,g52,g53] M K = (x0).bind fun a_1 => (M.intAt .i64 a_1.block (a_1.off + 1)).bind fun x_2 => (call 66 #[.pointer x0, .int .i64 (IntKind.i64.wrap (x_2 + 1)), .int .i64 x1] M).bind fun r_3 => (asI .u32 r_3.1).bind fun x_4 => K #[.pointer x0,.int .i64 x1,g2,g3,g4,g5,.int .i32 (IntKind.i32.wrap (x_4)),g7,g8,g9,g10,g11,g12,g13,g14,g15,g16,g17,g18,g19,g20,g21,g22,g23,.pointer x0,.pointer x0,.pointer (some a_1),.pointer (some ⟨a_1.block, a_1.off + 1, none⟩),.int .i64 x_2,.int .i64 (IntKind.i64.wrap (x_2 + 1)),.int .i64 x1,.int .u32 x_4,.int .i32 (IntKind.i32.wrap (x_4)),g33,g34,g35,g36,g37,g38,g39,g40,g41,g42,g43,g44,g45,g46,g47,g48,g49,g50,g51,g52,g53] r_3.2 := by kernel_rfl
theorem k82_26 : P82 [1,1,1] = .seq (P82 [1,1,1,0]) (P82 [1,1,1,1]) := by kernel_rfl
theorem k82_27 : P82 [1,1,1,0] = .seq (P82 [1,1,1,0,0]) (P82 [1,1,1,0,1]) := by kernel_rfl
theorem k82_28 : P82 [1,1,1,0,0] = .region 8 (O82 [1,1,1,0,0]) false := by kernel_rfl
theorem r82_8 {x0 : Option Addr} {M : Mem} {call : CallM} {K : Array Value → Mem → R} :
    opsK Try.prog (fun _ => call) (O82 [1,1,1,0,0]) (O82 [1,1,1,0,0]).toList 0 #[.pointer x0,g1,g2,g3,g4,g5,g6,g7,g8,g9,g10,g11,g12,g13,g14,g15,g16,g17,g18,g19,g20,g21,g22,g23,g24,g25,g26,g27,g28,g29,g30,g31,g32,g33,g34,g35,g36,g37,g38,g39,g40,g41,g42,g43,g44,g45,g46,g47,g48,g49,g50,g51,g52,g53] M K = (x0).bind fun a_1 => (M.intAt .i64 a_1.block (a_1.off + 1)).bind fun x_2 => (call 80 #[.pointer x0, .int .i64 x_2] M).bind fun r_3 => (asI .u32 r_3.1).bind fun x_4 => K #[.pointer x0,g1,g2,g3,g4,g5,g6,g7,g8,g9,g10,g11,g12,g13,g14,g15,g16,g17,g18,g19,g20,g21,g22,g23,g24,g25,g26,g27,g28,g29,g30,g31,g32,.pointer x0,.pointer x0,.pointer (some a_1),.pointer (some ⟨a_1.block, a_1.off + 1, none⟩),.int .i64 x_2,.int .u32 x_4,.bool (x_4 == 1),g40,g41,g42,g43,g44,g45,g46,g47,g48,g49,g50,g51,g52,g53] r_3.2 := by kernel_rfl
theorem c82_29 : P82 [1,1,1,0,1] = .cond (.tmp 39) (P82 [1,1,1,0,1,0]) (P82 [1,1,1,0,1,1]) := by kernel_rfl
theorem k82_30 : P82 [1,1,1,0,1,0] = .seq (P82 [1,1,1,0,1,0,0]) (P82 [1,1,1,0,1,0,1]) := by kernel_rfl
theorem k82_31 : P82 [1,1,1,0,1,0,0] = .seq (P82 [1,1,1,0,1,0,0,0]) (P82 [1,1,1,0,1,0,0,1]) := by kernel_rfl
theorem k82_32 : P82 [1,1,1,0,1,0,0,0] = .region 9 (O82 [1,1,1,0,1,0,0,0]) false := by kernel_rfl
theorem r82_9 {x6 : Int} {M : Mem} {call : CallM} {K : Array Value → Mem → R} :
    opsK Try.prog (fun _ => call) (O82 [1,1,1,0,1,0,0,0]) (O82 [1,1,1,0,1,0,0,0]).toList 0 #[g0,g1,g2,g3,g4,g5,.int .i32 x6,g7,g8,g9,g10,g11,g12,g13,g14,g15,g16,g17,g18,g19,g20,g21,g22,g23,g24,g25,g26,g27,g28,g29,g30,g31,g32,g33,g34,g35,g36,g37,g38,g39,g40,g41,g42,g43,g44,g45,g46,g47,g48,g49,g50,g51,g52,g53] M K = K #[g0,g1,g2,g3,g4,g5,.int .i32 x6,g7,g8,g9,g10,g11,g12,g13,g14,g15,g16,g17,g18,g19,g20,g21,g22,g23,g24,g25,g26,g27,g28,g29,g30,g31,g32,g33,g34,g35,g36,g37,g38,g39,.int .i32 x6,.bool (x6 == 0),g42,g43,g44,g45,g46,g47,g48,g49,g50,g51,g52,g53] M := by kernel_rfl
theorem c82_33 : P82 [1,1,1,0,1,0,0,1] = .cond (.tmp 41) (P82 [1,1,1,0,1,0,0,1,0]) (P82 [1,1,1,0,1,0,0,1,1]) := by kernel_rfl
theorem k82_34 : P82 [1,1,1,0,1,0,0,1,0] = .seq (P82 [1,1,1,0,1,0,0,1,0,0]) (P82 [1,1,1,0,1,0,0,1,0,1]) := by kernel_rfl
theorem k82_35 : P82 [1,1,1,0,1,0,0,1,0,0] = .region 10 (O82 [1,1,1,0,1,0,0,1,0,0]) false := by kernel_rfl
theorem r82_10 {M : Mem} {call : CallM} {K : Array Value → Mem → R} :
    opsK Try.prog (fun _ => call) (O82 [1,1,1,0,1,0,0,1,0,0]) (O82 [1,1,1,0,1,0,0,1,0,0]).toList 0 #[g0,g1,g2,g3,g4,g5,g6,g7,g8,g9,g10,g11,g12,g13,g14,g15,g16,g17,g18,g19,g20,g21,g22,g23,g24,g25,g26,g27,g28,g29,g30,g31,g32,g33,g34,g35,g36,g37,g38,g39,g40,g41,g42,g43,g44,g45,g46,g47,g48,g49,g50,g51,g52,g53] M K = K #[g0,g1,g2,g3,.int .i32 0,.int .i64 4,g6,g7,g8,g9,g10,g11,g12,g13,g14,g15,g16,g17,g18,g19,g20,g21,g22,g23,g24,g25,g26,g27,g28,g29,g30,g31,g32,g33,g34,g35,g36,g37,g38,g39,g40,g41,g42,g43,g44,g45,g46,g47,g48,g49,g50,g51,g52,g53] M := by kernel_rfl
theorem k82_36 : P82 [1,1,1,0,1,0,0,1,0,1] = .ret := by kernel_rfl
theorem k82_37 : P82 [1,1,1,0,1,0,0,1,1] = .skip := by kernel_rfl
theorem k82_38 : P82 [1,1,1,0,1,0,1] = .region 11 (O82 [1,1,1,0,1,0,1]) false := by kernel_rfl
theorem r82_11 {x6 : Int} {M : Mem} {call : CallM} {K : Array Value → Mem → R} :
    opsK Try.prog (fun _ => call) (O82 [1,1,1,0,1,0,1]) (O82 [1,1,1,0,1,0,1]).toList 0 #[g0,g1,g2,g3,g4,g5,.int .i32 x6,g7,g8,g9,g10,g11,g12,g13,g14,g15,g16,g17,g18,g19,g20,g21,g22,g23,g24,g25,g26,g27,g28,g29,g30,g31,g32,g33,g34,g35,g36,g37,g38,g39,g40,g41,g42,g43,g44,g45,g46,g47,g48,g49,g50,g51,g52,g53] M K = K #[g0,g1,g2,g3,g4,g5,.int .i32 (IntKind.i32.wrap (0 - x6)),g7,g8,g9,g10,g11,g12,g13,g14,g15,g16,g17,g18,g19,g20,g21,g22,g23,g24,g25,g26,g27,g28,g29,g30,g31,g32,g33,g34,g35,g36,g37,g38,g39,g40,g41,.int .i32 x6,.int .i32 (IntKind.i32.wrap (0 - x6)),g44,g45,g46,g47,g48,g49,g50,g51,g52,g53] M := by kernel_rfl
theorem k82_39 : P82 [1,1,1,1] = .seq (P82 [1,1,1,1,0]) (P82 [1,1,1,1,1]) := by kernel_rfl
theorem k82_40 : P82 [1,1,1,1,0] = .region 12 (O82 [1,1,1,1,0]) false := by kernel_rfl
theorem r82_12 {x0 : Option Addr} {x1 : Int} {M : Mem} {call : CallM} {K : Array Value → Mem → R} :
    opsK Try.prog (fun _ => call) (O82 [1,1,1,1,0]) (O82 [1,1,1,1,0]).toList 0 #[.pointer x0,.int .i64 x1,g2,g3,g4,g5,g6,g7,g8,g9,g10,g11,g12,g13,g14,g15,g16,g17,g18,g19,g20,g21,g22,g23,g24,g25,g26,g27,g28,g29,g30,g31,g32,g33,g34,g35,g36,g37,g38,g39,g40,g41,g42,g43,g44,g45,g46,g47,g48,g49,g50,g51,g52,g53] M K = (x0).bind fun a_1 => (M.intAt .i64 a_1.block (a_1.off + 1)).bind fun x_2 => (x0).bind fun a_3 => (M.put a_3.block (a_3.off + 1) (.int .i64 (IntKind.i64.wrap (x_2 + (IntKind.i64.wrap (x1 + 1)))))).bind fun M_4 => K #[.pointer x0,.int .i64 x1,g2,g3,g4,g5,g6,g7,g8,g9,g10,g11,g12,g13,g14,g15,g16,g17,g18,g19,g20,g21,g22,g23,g24,g25,g26,g27,g28,g29,g30,g31,g32,g33,g34,g35,g36,g37,g38,g39,g40,g41,g42,g43,.pointer x0,.pointer (some a_1),.pointer (some ⟨a_1.block, a_1.off + 1, none⟩),.int .i64 x_2,.int .i64 x1,.int .i64 (IntKind.i64.wrap (x1 + 1)),.int .i64 (IntKind.i64.wrap (x_2 + (IntKind.i64.wrap (x1 + 1)))),.pointer (some a_3),.pointer (some ⟨a_3.block, a_3.off + 1, none⟩),g53] M_4 := by kernel_rfl
theorem k82_41 : P82 [1,1,1,1,1] = .seq (P82 [1,1,1,1,1,0]) (P82 [1,1,1,1,1,1]) := by kernel_rfl
theorem k82_42 : P82 [1,1,1,1,1,0] = .region 13 (O82 [1,1,1,1,1,0]) false := by kernel_rfl
theorem r82_13 {x6 : Int} {M : Mem} {call : CallM} {K : Array Value → Mem → R} :
    opsK Try.prog (fun _ => call) (O82 [1,1,1,1,1,0]) (O82 [1,1,1,1,1,0]).toList 0 #[g0,g1,g2,g3,g4,g5,.int .i32 x6,g7,g8,g9,g10,g11,g12,g13,g14,g15,g16,g17,g18,g19,g20,g21,g22,g23,g24,g25,g26,g27,g28,g29,g30,g31,g32,g33,g34,g35,g36,g37,g38,g39,g40,g41,g42,g43,g44,g45,g46,g47,g48,g49,g50,g51,g52,g53] M K = K #[g0,g1,g2,g3,.int .i32 x6,.int .i64 0,.int .i32 x6,g7,g8,g9,g10,g11,g12,g13,g14,g15,g16,g17,g18,g19,g20,g21,g22,g23,g24,g25,g26,g27,g28,g29,g30,g31,g32,g33,g34,g35,g36,g37,g38,g39,g40,g41,g42,g43,g44,g45,g46,g47,g48,g49,g50,g51,g52,.int .i32 x6] M := by kernel_rfl
theorem k82_43 : P82 [1,1,1,1,1,1] = .ret := by kernel_rfl
theorem k82_44 : P82 [1,1,1,0,1,1] = .skip := by kernel_rfl
noncomputable def S82_1 : List Item := [.code (P82 [1,0,0,1,1,1]), .inBlock 0, .code (P82 [1,1])]
def A82_1 (x0 : Option Addr) (x1 : Int) (x11 : Bool) (M : Mem) (Q : Value → Mem → Prop) : Prop := ∀ (g2 g3 g4 g5 g6 g7 g8 g9 g10 g12 g13 g14 g15 g16 g17 g18 g19 g20 g21 g22 g23 g24 g25 g26 g27 g28 g29 g30 g31 g32 g33 g34 g35 g36 g37 g38 g39 g40 g41 g42 g43 g44 g45 g46 g47 g48 g49 g50 g51 g52 g53 : Value), Rn Try.prog Try.f82 S82_1 #[.pointer x0, .int .i64 x1, g2, g3, g4, g5, g6, g7, g8, g9, g10, .bool x11, g12, g13, g14, g15, g16, g17, g18, g19, g20, g21, g22, g23, g24, g25, g26, g27, g28, g29, g30, g31, g32, g33, g34, g35, g36, g37, g38, g39, g40, g41, g42, g43, g44, g45, g46, g47, g48, g49, g50, g51, g52, g53] M Q
theorem w82_0 {x0 : Option Addr} {x1 : Int} {M : Mem} {Q : Value → Mem → Prop} (H :
    Cn Try.prog 64 #[.pointer x0] M fun v1' N1' =>
     ∃ b2', asB v1' = some b2' ∧
     (((!b2') = true →
      Q (.tuple #[.int .i32 0, .int .i64 1]) N1') ∧
      ((!b2') = false →
      ((x1 < 1 →
       A82_1 x0 x1 true N1' Q) ∧
       (¬ (x1 < 1) →
       A82_1 x0 x1 (decide (x1 > 31)) N1' Q))))) :
    Cn Try.prog 82 #[.pointer x0, .int .i64 x1] M Q := by
  refine Cn.of b82 d82 t82 ?_
  refine Rn.seq k82_0 (Rn.region k82_1 (fun call K => r82_0) (Rch.leaf (Rn.seq k82_2 (Rn.block k82_3 (Rn.seq k82_4 (Rn.region k82_5 (fun call K => r82_1) (Rch.call H fun v1' N1' H => Rch.ex H fun b2' H => Rch.leaf ?_)))))))
  refine Rn.cnd (v := !b2') ⟨c82_6, rfl, by kernel_rfl⟩ (fun h => ?_) (fun h => ?_)
  · replace H := H.1 (h)
    refine Rn.seq k82_7 (Rn.region k82_8 (fun call K => r82_2) (Rch.leaf ?_))
    exact Rn.ret k82_9 e82 H
  · replace H := H.2 (h)
    refine Rn.seq k82_11 (Rn.region k82_12 (fun call K => r82_3) ?_)
    refine Rch.cB (fun h => ?_) (fun h => ?_)
    · replace H := H.1 (of_decide_eq_true h)
      refine Rch.leaf ?_
      exact H _ _ _ _ _ _ _ _ _ _ _ _ _ _ _ _ _ _ _ _ _ _ _ _ _ _ _ _ _ _ _ _ _ _ _ _ _ _ _ _ _ _ _ _ _ _ _ _ _ _ _
    · replace H := H.2 (of_decide_eq_false h)
      refine Rch.leaf ?_
      exact H _ _ _ _ _ _ _ _ _ _ _ _ _ _ _ _ _ _ _ _ _ _ _ _ _ _ _ _ _ _ _ _ _ _ _ _ _ _ _ _ _ _ _ _ _ _ _ _ _ _ _

theorem w82_1 {x0 : Option Addr} {x1 : Int} {x11 : Bool} {M : Mem} {Q : Value → Mem → Prop} (H :
    ((x11 = true →
     Q (.tuple #[.int .i32 0, .int .i64 2]) M) ∧
     (x11 = false →
     Cn Try.prog 65 #[.pointer x0] M fun v3' N3' =>
      ∃ x4', asI .i64 v3' = some x4' ∧
      (((IntKind.i64.wrap (x1 + 1)) > x4' →
       Q (.tuple #[.int .i32 0, .int .i64 3]) N3') ∧
       (¬ ((IntKind.i64.wrap (x1 + 1)) > x4') →
       ∃ a5', x0 = some a5' ∧
       ∃ x6', N3'.intAt .i64 a5'.block (a5'.off + 1) = some x6' ∧
       Cn Try.prog 66 #[.pointer x0, .int .i64 (IntKind.i64.wrap (x6' + 1)), .int .i64 x1] N3' fun v7' N7' =>
        ∃ x8', asI .u32 v7' = some x8' ∧
        ∃ a9', x0 = some a9' ∧
        ∃ x10', N7'.intAt .i64 a9'.block (a9'.off + 1) = some x10' ∧
        Cn Try.prog 80 #[.pointer x0, .int .i64 x10'] N7' fun v11' N11' =>
         ∃ x12', asI .u32 v11' = some x12' ∧
         ((x12' = 1 →
          (((IntKind.i32.wrap (x8')) = 0 →
           Q (.tuple #[.int .i32 0, .int .i64 4]) N11') ∧
           ((IntKind.i32.wrap (x8')) ≠ 0 →
           ∃ a13', x0 = some a13' ∧
           ∃ x14', N11'.intAt .i64 a13'.block (a13'.off + 1) = some x14' ∧
           ∃ a15', x0 = some a15' ∧
           ∃ M16', N11'.put a15'.block (a15'.off + 1) (.int .i64 (IntKind.i64.wrap (x14' + (IntKind.i64.wrap (x1 + 1))))) = some M16' ∧
           Q (.tuple #[.int .i32 (IntKind.i32.wrap (0 - (IntKind.i32.wrap (x8')))), .int .i64 0]) M16'))) ∧
          (x12' ≠ 1 →
          ∃ a17', x0 = some a17' ∧
          ∃ x18', N11'.intAt .i64 a17'.block (a17'.off + 1) = some x18' ∧
          ∃ a19', x0 = some a19' ∧
          ∃ M20', N11'.put a19'.block (a19'.off + 1) (.int .i64 (IntKind.i64.wrap (x18' + (IntKind.i64.wrap (x1 + 1))))) = some M20' ∧
          Q (.tuple #[.int .i32 (IntKind.i32.wrap (x8')), .int .i64 0]) M20'))))))) :
    A82_1 x0 x1 x11 M Q := by
  intro g2 g3 g4 g5 g6 g7 g8 g9 g10 g12 g13 g14 g15 g16 g17 g18 g19 g20 g21 g22 g23 g24 g25 g26 g27 g28 g29 g30 g31 g32 g33 g34 g35 g36 g37 g38 g39 g40 g41 g42 g43 g44 g45 g46 g47 g48 g49 g50 g51 g52 g53
  refine Rn.cnd (v := x11) ⟨c82_13, rfl, by kernel_rfl⟩ (fun h => ?_) (fun h => ?_)
  · replace H := H.1 (h)
    refine Rn.seq k82_14 (Rn.region k82_15 (fun call K => r82_4) (Rch.leaf ?_))
    exact Rn.ret k82_16 e82 H
  · replace H := H.2 (h)
    refine Rn.seq k82_17 (Rn.region k82_18 (fun call K => r82_5) (Rch.call H fun v3' N3' H => Rch.ex H fun x4' H => Rch.leaf ?_))
    refine Rn.cnd (v := decide ((IntKind.i64.wrap (x1 + 1)) > x4')) ⟨c82_19, rfl, by kernel_rfl⟩ (fun h => ?_) (fun h => ?_)
    · replace H := H.1 (of_decide_eq_true h)
      refine Rn.seq k82_20 (Rn.region k82_21 (fun call K => r82_6) (Rch.leaf ?_))
      exact Rn.ret k82_22 e82 H
    · replace H := H.2 (of_decide_eq_false h)
      refine Rn.skip k82_23 (Rn.blk (Rn.seq k82_24 (Rn.region k82_25 (fun call K => r82_7) (Rch.ex H fun a5' H => Rch.ex H fun x6' H => Rch.call H fun v7' N7' H => Rch.ex H fun x8' H => Rch.leaf (Rn.seq k82_26 (Rn.seq k82_27 (Rn.region k82_28 (fun call K => r82_8) ?_)))))))
      refine Rch.ex H fun a9' H => Rch.ex H fun x10' H => Rch.call H fun v11' N11' H => Rch.ex H fun x12' H => Rch.leaf ?_
      refine Rn.cnd (v := x12' == 1) ⟨c82_29, rfl, by kernel_rfl⟩ (fun h => ?_) (fun h => ?_)
      · replace H := H.1 (eq_of_beq h)
        refine Rn.seq k82_30 (Rn.seq k82_31 (Rn.region k82_32 (fun call K => r82_9) (Rch.leaf ?_)))
        refine Rn.cnd (v := (IntKind.i32.wrap (x8')) == 0) ⟨c82_33, rfl, by kernel_rfl⟩ (fun h => ?_) (fun h => ?_)
        · replace H := H.1 (eq_of_beq h)
          refine Rn.seq k82_34 (Rn.region k82_35 (fun call K => r82_10) (Rch.leaf ?_))
          exact Rn.ret k82_36 e82 H
        · replace H := H.2 (ne_of_beq_false h)
          refine Rn.skip k82_37 (Rn.region k82_38 (fun call K => r82_11) (Rch.leaf (Rn.seq k82_39 (Rn.region k82_40 (fun call K => r82_12) (Rch.ex H fun a13' H => Rch.ex H fun x14' H => Rch.ex H fun a15' H => Rch.ex H fun M16' H => Rch.leaf (Rn.seq k82_41 (Rn.region k82_42 (fun call K => r82_13) ?_)))))))
          refine Rch.leaf ?_
          exact Rn.ret k82_43 e82 H
      · replace H := H.2 (ne_of_beq_false h)
        refine Rn.skip k82_44 (Rn.seq k82_39 (Rn.region k82_40 (fun call K => r82_12) (Rch.ex H fun a17' H => Rch.ex H fun x18' H => Rch.ex H fun a19' H => Rch.ex H fun M20' H => Rch.leaf (Rn.seq k82_41 (Rn.region k82_42 (fun call K => r82_13) (Rch.leaf ?_))))))
        exact Rn.ret k82_43 e82 H


/-! ### (*zoetrope/bits.Reader).Align: function 40 -/
noncomputable abbrev P40 (p : List Nat) : Code := subC (codeOf Try.f40) p
noncomputable abbrev O40 (p : List Nat) : Array Oper := opsOf (subC (codeOf Try.f40) p)
theorem b40 : Try.prog.funcs[40]? = some Try.f40 ∧ (Orc.tab Try.prog).lookup 40 = none := ⟨by kernel_rfl, by kernel_rfl⟩
theorem d40 : Try.f40.body = some (P40 []) := by kernel_rfl
theorem t40 {x0 : Option Addr} : #[.pointer x0] ++ Array.replicate (Try.f40.ntmps - (#[.pointer x0] : Array Value).size) undef = #[.pointer x0,undef,undef,undef,undef,undef,undef,undef,undef,undef,undef,undef,undef,undef,undef,undef,undef,undef,undef,undef,undef,undef,undef,undef,undef,undef,undef,undef,undef] := by kernel_rfl
theorem k40_0 : P40 [] = .seq (P40 [0]) (P40 [1]) := by kernel_rfl
theorem k40_1 : P40 [0] = .region 0 (O40 [0]) false := by kernel_rfl
theorem r40_0 {M : Mem} {call : CallM} {K : Array Value → Mem → R} :
    opsK Try.prog (fun _ => call) (O40 [0]) (O40 [0]).toList 0 #[g0,g1,g2,g3,g4,g5,g6,g7,g8,g9,g10,g11,g12,g13,g14,g15,g16,g17,g18,g19,g20,g21,g22,g23,g24,g25,g26,g27,g28] M K = K #[g0,g1,.int .i64 0,g3,g4,g5,g6,g7,g8,g9,g10,g11,g12,g13,g14,g15,g16,g17,g18,g19,g20,g21,g22,g23,g24,g25,g26,g27,g28] M := by kernel_rfl
theorem k40_2 : P40 [1] = .seq (P40 [1,0]) (P40 [1,1]) := by kernel_rfl
theorem k40_3 : P40 [1,0] = .seq (P40 [1,0,0]) (P40 [1,0,1]) := by kernel_rfl
theorem k40_4 : P40 [1,0,0] = .region 1 (O40 [1,0,0]) false := by kernel_rfl
theorem r40_1 {x0 : Option Addr} {M : Mem} {call : CallM} {K : Array Value → Mem → R} :
    opsK Try.prog (fun _ => call) (O40 [1,0,0]) (O40 [1,0,0]).toList 0 #[.pointer x0,g1,g2,g3,g4,g5,g6,g7,g8,g9,g10,g11,g12,g13,g14,g15,g16,g17,g18,g19,g20,g21,g22,g23,g24,g25,g26,g27,g28] M K = (call 64 #[.pointer x0] M).bind fun r_1 => (asB r_1.1).bind fun b_2 => K #[.pointer x0,g1,g2,g3,.pointer x0,.bool b_2,.bool (!b_2),g7,g8,g9,g10,g11,g12,g13,g14,g15,g16,g17,g18,g19,g20,g21,g22,g23,g24,g25,g26,g27,g28] r_1.2 := by kernel_rfl
theorem c40_5 : P40 [1,0,1] = .cond (.tmp 6) (P40 [1,0,1,0]) (P40 [1,0,1,1]) := by kernel_rfl
theorem k40_6 : P40 [1,0,1,0] = .seq (P40 [1,0,1,0,0]) (P40 [1,0,1,0,1]) := by kernel_rfl
theorem k40_7 : P40 [1,0,1,0,0] = .region 2 (O40 [1,0,1,0,0]) false := by kernel_rfl
theorem r40_2 {M : Mem} {call : CallM} {K : Array Value → Mem → R} :
    opsK Try.prog (fun _ => call) (O40 [1,0,1,0,0]) (O40 [1,0,1,0,0]).toList 0 #[g0,g1,g2,g3,g4,g5,g6,g7,g8,g9,g10,g11,g12,g13,g14,g15,g16,g17,g18,g19,g20,g21,g22,g23,g24,g25,g26,g27,g28] M K = K #[g0,g1,.int .i64 1,g3,g4,g5,g6,g7,g8,g9,g10,g11,g12,g13,g14,g15,g16,g17,g18,g19,g20,g21,g22,g23,g24,g25,g26,g27,g28] M := by kernel_rfl
theorem k40_8 : P40 [1,0,1,0,1] = .ret := by kernel_rfl
theorem e40 {M : Mem} : finish Try.prog Try.f40 #[g0,g1,g2,g3,g4,g5,g6,g7,g8,g9,g10,g11,g12,g13,g14,g15,g16,g17,g18,g19,g20,g21,g22,g23,g24,g25,g26,g27,g28] M = some (g2, M) := by kernel_rfl
theorem k40_10 : P40 [1,0,1,1] = .skip := by kernel_rfl
theorem k40_11 : P40 [1,1] = .seq (P40 [1,1,0]) (P40 [1,1,1]) := by kernel_rfl
theorem k40_12 : P40 [1,1,0] = .region 3 (O40 [1,1,0]) false := by kernel_rfl
theorem r40_3 {x0 : Option Addr} {M : Mem} {call : CallM} {K : Array Value → Mem → R} :
    opsK Try.prog (fun _ => call) (O40 [1,1,0]) (O40 [1,1,0]).toList 0 #[.pointer x0,g1,g2,g3,g4,g5,g6,g7,g8,g9,g10,g11,g12,g13,g14,g15,g16,g17,g18,g19,g20,g21,g22,g23,g24,g25,g26,g27,g28] M K = (x0).bind fun a_1 => (M.intAt .i64 a_1.block (a_1.off + 1)).bind fun x_2 => K #[.pointer x0,g1,g2,.int .i64 (IntKind.i64.wrap (((BitVec.ofInt (IntKind.bits .i64) (IntKind.i64.wrap (0 - x_2)) &&& BitVec.ofInt (IntKind.bits .i64) 7).toNat : Int))),g4,g5,g6,.pointer x0,.pointer (some a_1),.pointer (some ⟨a_1.block, a_1.off + 1, none⟩),.int .i64 x_2,.int .i64 (IntKind.i64.wrap (0 - x_2)),.int .i64 (IntKind.i64.wrap (((BitVec.ofInt (IntKind.bits .i64) (IntKind.i64.wrap (0 - x_2)) &&& BitVec.ofInt (IntKind.bits .i64) 7).toNat : Int))),g13,g14,g15,g16,g17,g18,g19,g20,g21,g22,g23,g24,g25,g26,g27,g28] M := by kernel_rfl
theorem k40_13 : P40 [1,1,1] = .seq (P40 [1,1,1,0]) (P40 [1,1,1,1]) := by kernel_rfl
theorem k40_14 : P40 [1,1,1,0] = .seq (P40 [1,1,1,0,0]) (P40 [1,1,1,0,1]) := by kernel_rfl
theorem k40_15 : P40 [1,1,1,0,0] = .region 4 (O40 [1,1,1,0,0]) false := by kernel_rfl
theorem r40_4 {x0 : Option Addr} {x3 : Int} {M : Mem} {call : CallM} {K : Array Value → Mem → R} :
    opsK Try.prog (fun _ => call) (O40 [1,1,1,0,0]) (O40 [1,1,1,0,0]).toList 0 #[.pointer x0,g1,g2,.int .i64 x3,g4,g5,g6,g7,g8,g9,g10,g11,g12,g13,g14,g15,g16,g17,g18,g19,g20,g21,g22,g23,g24,g25,g26,g27,g28] M K = (x0).bind fun a_1 => (M.intAt .i64 a_1.block (a_1.off + 1)).bind fun x_2 => (call 66 #[.pointer x0, .int .i64 x_2, .int .i64 x3] M).bind fun r_3 => (asI .u32 r_3.1).bind fun x_4 => K #[.pointer x0,g1,g2,.int .i64 x3,g4,g5,g6,g7,g8,g9,g10,g11,g12,.pointer x0,.pointer x0,.pointer (some a_1),.pointer (some ⟨a_1.block, a_1.off + 1, none⟩),.int .i64 x_2,.int .i64 x3,.int .u32 x_4,.bool (x_4 != 0),g21,g22,g23,g24,g25,g26,g27,g28] r_3.2 := by kernel_rfl
theorem c40_16 : P40 [1,1,1,0,1] = .cond (.tmp 20) (P40 [1,1,1,0,1,0]) (P40 [1,1,1,0,1,1]) := by kernel_rfl
theorem k40_17 : P40 [1,1,1,0,1,0] = .seq (P40 [1,1,1,0,1,0,0]) (P40 [1,1,1,0,1,0,1]) := by kernel_rfl
theorem k40_18 : P40 [1,1,1,0,1,0,0] = .region 5 (O40 [1,1,1,0,1,0,0]) false := by kernel_rfl
theorem r40_5 {M : Mem} {call : CallM} {K : Array Value → Mem → R} :
    opsK Try.prog (fun _ => call) (O40 [1,1,1,0,1,0,0]) (O40 [1,1,1,0,1,0,0]).toList 0 #[g0,g1,g2,g3,g4,g5,g6,g7,g8,g9,g10,g11,g12,g13,g14,g15,g16,g17,g18,g19,g20,g21,g22,g23,g24,g25,g26,g27,g28] M K = K #[g0,g1,.int .i64 4,g3,g4,g5,g6,g7,g8,g9,g10,g11,g12,g13,g14,g15,g16,g17,g18,g19,g20,g21,g22,g23,g24,g25,g26,g27,g28] M := by kernel_rfl
theorem k40_19 : P40 [1,1,1,0,1,0,1] = .ret := by kernel_rfl
theorem k40_20 : P40 [1,1,1,0,1,1] = .skip := by kernel_rfl
theorem k40_21 : P40 [1,1,1,1] = .seq (P40 [1,1,1,1,0]) (P40 [1,1,1,1,1]) := by kernel_rfl
theorem k40_22 : P40 [1,1,1,1,0] = .region 6 (O40 [1,1,1,1,0]) false := by kernel_rfl
theorem r40_6 {x0 : Option Addr} {x3 : Int} {M : Mem} {call : CallM} {K : Array Value → Mem → R} :
    opsK Try.prog (fun _ => call) (O40 [1,1,1,1,0]) (O40 [1,1,1,1,0]).toList 0 #[.pointer x0,g1,g2,.int .i64 x3,g4,g5,g6,g7,g8,g9,g10,g11,g12,g13,g14,g15,g16,g17,g18,g19,g20,g21,g22,g23,g24,g25,g26,g27,g28] M K = (x0).bind fun a_1 => (M.intAt .i64 a_1.block (a_1.off + 1)).bind fun x_2 => (x0).bind fun a_3 => (M.put a_3.block (a_3.off + 1) (.int .i64 (IntKind.i64.wrap (x_2 + x3)))).bind fun M_4 => K #[.pointer x0,g1,g2,.int .i64 x3,g4,g5,g6,g7,g8,g9,g10,g11,g12,g13,g14,g15,g16,g17,g18,g19,g20,.pointer x0,.pointer (some a_1),.pointer (some ⟨a_1.block, a_1.off + 1, none⟩),.int .i64 x_2,.int .i64 x3,.int .i64 (IntKind.i64.wrap (x_2 + x3)),.pointer (some a_3),.pointer (some ⟨a_3.block, a_3.off + 1, none⟩)] M_4 := by kernel_rfl
theorem k40_23 : P40 [1,1,1,1,1] = .seq (P40 [1,1,1,1,1,0]) (P40 [1,1,1,1,1,1]) := by kernel_rfl
theorem k40_24 : P40 [1,1,1,1,1,0] = .region 7 (O40 [1,1,1,1,1,0]) false := by kernel_rfl
theorem r40_7 {M : Mem} {call : CallM} {K : Array Value → Mem → R} :
    opsK Try.prog (fun _ => call) (O40 [1,1,1,1,1,0]) (O40 [1,1,1,1,1,0]).toList 0 #[g0,g1,g2,g3,g4,g5,g6,g7,g8,g9,g10,g11,g12,g13,g14,g15,g16,g17,g18,g19,g20,g21,g22,g23,g24,g25,g26,g27,g28] M K = K #[g0,g1,.int .i64 0,g3,g4,g5,g6,g7,g8,g9,g10,g11,g12,g13,g14,g15,g16,g17,g18,g19,g20,g21,g22,g23,g24,g25,g26,g27,g28] M := by kernel_rfl
theorem k40_25 : P40 [1,1,1,1,1,1] = .ret := by kernel_rfl
theorem w40_0 {x0 : Option Addr} {M : Mem} {Q : Value → Mem → Prop} (H :
    Cn Try.prog 64 #[.pointer x0] M fun v1' N1' =>
     ∃ b2', asB v1' = some b2' ∧
     (((!b2') = true →
      Q (.int .i64 1) N1') ∧
      ((!b2') = false →
      ∃ a3', x0 = some a3' ∧
      ∃ x4', N1'.intAt .i64 a3'.block (a3'.off + 1) = some x4' ∧
      ∃ a5', x0 = some a5' ∧
      ∃ x6', N1'.intAt .i64 a5'.block (a5'.off + 1) = some x6' ∧
      Cn Try.prog 66 #[.pointer x0, .int .i64 x6', .int .i64 (IntKind.i64.wrap (((BitVec.ofInt (IntKind.bits .i64) (IntKind.i64.wrap (0 - x4')) &&& BitVec.ofInt (IntKind.bits .i64) 7).toNat : Int)))] N1' fun v7' N7' =>
       ∃ x8', asI .u32 v7' = some x8' ∧
       ((x8' ≠ 0 →
        Q (.int .i64 4) N7') ∧
        (x8' = 0 →
        ∃ a9', x0 = some a9' ∧
        ∃ x10', N7'.intAt .i64 a9'.block (a9'.off + 1) = some x10' ∧
        ∃ a11', x0 = some a11' ∧
        ∃ M12', N7'.put a11'.block (a11'.off + 1) (.int .i64 (IntKind.i64.wrap (x10' + (IntKind.i64.wrap (((BitVec.ofInt (IntKind.bits .i64) (IntKind.i64.wrap (0 - x4')) &&& BitVec.ofInt (IntKind.bits .i64) 7).toNat : Int)))))) = some M12' ∧
        Q (.int .i64 0) M12'))))) :
    Cn Try.prog 40 #[.pointer x0] M Q := by
  refine Cn.of b40 d40 t40 ?_
  refine Rn.seq k40_0 (Rn.region k40_1 (fun call K => r40_0) (Rch.leaf (Rn.seq k40_2 (Rn.seq k40_3 (Rn.region k40_4 (fun call K => r40_1) (Rch.call H fun v1' N1' H => Rch.ex H fun b2' H => Rch.leaf ?_))))))
  refine Rn.cnd (v := !b2') ⟨c40_5, rfl, by kernel_rfl⟩ (fun h => ?_) (fun h => ?_)
  · replace H := H.1 (h)
    refine Rn.seq k40_6 (Rn.region k40_7 (fun call K => r40_2) (Rch.leaf ?_))
    exact Rn.ret k40_8 e40 H
  · replace H := H.2 (h)
    refine Rn.skip k40_10 (Rn.seq k40_11 (Rn.region k40_12 (fun call K => r40_3) (Rch.ex H fun a3' H => Rch.ex H fun x4' H => Rch.leaf (Rn.seq k40_13 (Rn.seq k40_14 (Rn.region k40_15 (fun call K => r40_4) (Rch.ex H fun a5' H => Rch.ex H fun x6' H => Rch.call H fun v7' N7' H => ?_)))))))
    refine Rch.ex H fun x8' H => Rch.leaf ?_
    refine Rn.cnd (v := x8' != 0) ⟨c40_16, rfl, by kernel_rfl⟩ (fun h => ?_) (fun h => ?_)
    · replace H := H.1 (ne_of_bneT h)
      refine Rn.seq k40_17 (Rn.region k40_18 (fun call K => r40_5) (Rch.leaf ?_))
      exact Rn.ret k40_19 e40 H
    · replace H := H.2 (eq_of_bneF h)
      refine Rn.skip k40_20 (Rn.seq k40_21 (Rn.region k40_22 (fun call K => r40_6) (Rch.ex H fun a9' H => Rch.ex H fun x10' H => Rch.ex H fun a11' H => Rch.ex H fun M12' H => Rch.leaf (Rn.seq k40_23 (Rn.region k40_24 (fun call K => r40_7) (Rch.leaf ?_))))))
      exact Rn.ret k40_25 e40 H


/-! ### zoetrope/bits.New: function 31 -/
noncomputable abbrev P31 (p : List Nat) : Code := subC (codeOf Try.f31) p
noncomputable abbrev O31 (p : List Nat) : Array Oper := opsOf (subC (codeOf Try.f31) p)
theorem b31 : Try.prog.funcs[31]? = some Try.f31 ∧ (Orc.tab Try.prog).lookup 31 = none := ⟨by kernel_rfl, by kernel_rfl⟩
theorem d31 : Try.f31.body = some (P31 []) := by kernel_rfl
theorem t31 {Ax0 : Option Addr} {lx0 cx0 : Nat} : #[.slice Ax0 lx0 cx0] ++ Array.replicate (Try.f31.ntmps - (#[.slice Ax0 lx0 cx0] : Array Value).size) undef = #[.slice Ax0 lx0 cx0,undef,undef,undef,undef,undef,undef] := by kernel_rfl
theorem k31_0 : P31 [] = .seq (P31 [0]) (P31 [1]) := by kernel_rfl
theorem k31_1 : P31 [0] = .region 0 (O31 [0]) false := by kernel_rfl
theorem r31_0 {M : Mem} {call : CallM} {K : Array Value → Mem → R} :
    opsK Try.prog (fun _ => call) (O31 [0]) (O31 [0]).toList 0 #[g0,g1,g2,g3,g4,g5,g6] M K = K #[g0,g1,.pointer none,g3,g4,g5,g6] M := by kernel_rfl
theorem k31_2 : P31 [1] = .seq (P31 [1,0]) (P31 [1,1]) := by kernel_rfl
theorem k31_3 : P31 [1,0] = .region 1 (O31 [1,0]) false := by kernel_rfl
theorem r31_1 {Ax0 : Option Addr} {lx0 cx0 : Nat} {M : Mem} {call : CallM} {K : Array Value → Mem → R} :
    opsK Try.prog (fun _ => call) (O31 [1,0]) (O31 [1,0]).toList 0 #[.slice Ax0 lx0 cx0,g1,g2,g3,g4,g5,g6] M K = (call 61 #[.slice Ax0 lx0 cx0] M).bind fun r_1 => (asS r_1.1).bind fun s_2 => K #[.slice Ax0 lx0 cx0,g1,.pointer (some ⟨2 * r_1.2.nb.size, 0, none⟩),.slice Ax0 lx0 cx0,.slice s_2.1 (s_2.2.1) (s_2.2.2),.agg #[.slice s_2.1 (s_2.2.1) (s_2.2.2), .int .i64 0, .bool true],.pointer (some ⟨2 * r_1.2.nb.size, 0, none⟩)] (r_1.2.new (.cells #[.slice s_2.1 (s_2.2.1) (s_2.2.2), .int .i64 0, .bool true] 101)) := by kernel_rfl
theorem k31_4 : P31 [1,1] = .ret := by kernel_rfl
theorem e31 {M : Mem} : finish Try.prog Try.f31 #[g0,g1,g2,g3,g4,g5,g6] M = some (g2, M) := by kernel_rfl
theorem w31_0 {Ax0 : Option Addr} {lx0 cx0 : Nat} {M : Mem} {Q : Value → Mem → Prop} (H :
    Cn Try.prog 61 #[.slice Ax0 lx0 cx0] M fun v1' N1' =>
     ∃ s2', asS v1' = some s2' ∧
     Q (.pointer (some ⟨2 * N1'.nb.size, 0, none⟩)) (N1'.new (.cells #[.slice s2'.1 (s2'.2.1) (s2'.2.2), .int .i64 0, .bool true] 101))) :
    Cn Try.prog 31 #[.slice Ax0 lx0 cx0] M Q := by
  refine Cn.of b31 d31 t31 ?_
  refine Rn.seq k31_0 (Rn.region k31_1 (fun call K => r31_0) (Rch.leaf (Rn.seq k31_2 (Rn.region k31_3 (fun call K => r31_1) (Rch.call H fun v1' N1' H => Rch.ex H fun s2' H => Rch.leaf ?_)))))
  exact Rn.ret k31_4 e31 H


/-! ### (*zoetrope/bits.Writer).there: function 46 -/
noncomputable abbrev P46 (p : List Nat) : Code := subC (codeOf Try.f46) p
noncomputable abbrev O46 (p : List Nat) : Array Oper := opsOf (subC (codeOf Try.f46) p)
theorem b46 : Try.prog.funcs[46]? = some Try.f46 ∧ (Orc.tab Try.prog).lookup 46 = none := ⟨by kernel_rfl, by kernel_rfl⟩
theorem d46 : Try.f46.body = some (P46 []) := by kernel_rfl
theorem t46 {x0 : Option Addr} : #[.pointer x0] ++ Array.replicate (Try.f46.ntmps - (#[.pointer x0] : Array Value).size) undef = #[.pointer x0,undef,undef,undef,undef,undef,undef,undef,undef,undef,undef] := by kernel_rfl
theorem k46_0 : P46 [] = .seq (P46 [0]) (P46 [1]) := by kernel_rfl
theorem k46_1 : P46 [0] = .region 0 (O46 [0]) false := by kernel_rfl
theorem r46_0 {M : Mem} {call : CallM} {K : Array Value → Mem → R} :
    opsK Try.prog (fun _ => call) (O46 [0]) (O46 [0]).toList 0 #[g0,g1,g2,g3,g4,g5,g6,g7,g8,g9,g10] M K = K #[g0,g1,.bool false,g3,g4,g5,g6,g7,g8,g9,g10] M := by kernel_rfl
theorem k46_2 : P46 [1] = .seq (P46 [1,0]) (P46 [1,1]) := by kernel_rfl
theorem k46_3 : P46 [1,0] = .region 1 (O46 [1,0]) false := by kernel_rfl
theorem r46_1 {x0 : Option Addr} {M : Mem} {call : CallM} {K : Array Value → Mem → R} :
    opsK Try.prog (fun _ => call) (O46 [1,0]) (O46 [1,0]).toList 0 #[.pointer x0,g1,g2,g3,g4,g5,g6,g7,g8,g9,g10] M K = withK (fun w2 w5 w6 w7 w8 w9 w10 M => K #[.pointer x0,g1,w2,.pointer x0,.bool x0.isSome,w5,w6,w7,w8,w9,w10] M) fun k => cond x0.isSome ((x0).bind fun a_1 => (M.boolAt a_1.block (a_1.off + 2)).bind fun b_2 => k (.bool b_2) (.bool true) (.pointer x0) (.pointer (some a_1)) (.pointer (some ⟨a_1.block, a_1.off + 2, none⟩)) (.bool b_2) (.bool b_2) M) (k (.bool false) (.bool false) undef undef undef undef (.bool false) M) := by kernel_rfl
theorem k46_4 : P46 [1,1] = .ret := by kernel_rfl
theorem e46 {M : Mem} : finish Try.prog Try.f46 #[g0,g1,g2,g3,g4,g5,g6,g7,g8,g9,g10] M = some (g2, M) := by kernel_rfl
theorem w46_0 {x0 : Option Addr} {M : Mem} {Q : Value → Mem → Prop} (H :
    ((x0.isSome = true →
     ∃ a1', x0 = some a1' ∧
     ∃ b2', M.boolAt a1'.block (a1'.off + 2) = some b2' ∧
     Q (.bool b2') M) ∧
     (x0.isSome = false →
     Q (.bool false) M))) :
    Cn Try.prog 46 #[.pointer x0] M Q := by
  refine Cn.of b46 d46 t46 ?_
  refine Rn.seq k46_0 (Rn.region k46_1 (fun call K => r46_0) (Rch.leaf (Rn.seq k46_2 (Rn.region k46_3 (fun call K => r46_1) ?_))))
  refine Rch.cB (fun h => ?_) (fun h => ?_)
  · replace H := H.1 (h)
    refine Rch.ex H fun a1' H => Rch.ex H fun b2' H => Rch.leaf ?_
    exact Rn.ret k46_4 e46 H
  · replace H := H.2 (h)
    refine Rch.leaf ?_
    exact Rn.ret k46_4 e46 H


/-! ### math/bits.Len32: function 47 -/
noncomputable abbrev P47 (p : List Nat) : Code := subC (codeOf Try.f47) p
noncomputable abbrev O47 (p : List Nat) : Array Oper := opsOf (subC (codeOf Try.f47) p)
theorem b47 : Try.prog.funcs[47]? = some Try.f47 ∧ (Orc.tab Try.prog).lookup 47 = none := ⟨by kernel_rfl, by kernel_rfl⟩
theorem d47 : Try.f47.body = some (P47 []) := by kernel_rfl
theorem t47 {x0 : Int} : #[.int .u32 x0] ++ Array.replicate (Try.f47.ntmps - (#[.int .u32 x0] : Array Value).size) undef = #[.int .u32 x0,undef,undef,undef,undef,undef,undef,undef,undef,undef,undef,undef,undef,undef,undef,undef,undef,undef,undef] := by kernel_rfl
theorem k47_0 : P47 [] = .seq (P47 [0]) (P47 [1]) := by kernel_rfl
theorem k47_1 : P47 [0] = .region 0 (O47 [0]) false := by kernel_rfl
theorem r47_0 {M : Mem} {call : CallM} {K : Array Value → Mem → R} :
    opsK Try.prog (fun _ => call) (O47 [0]) (O47 [0]).toList 0 #[g0,g1,g2,g3,g4,g5,g6,g7,g8,g9,g10,g11,g12,g13,g14,g15,g16,g17,g18] M K = K #[g0,g1,.int .i64 0,g3,g4,g5,g6,g7,g8,g9,g10,g11,g12,g13,g14,g15,g16,g17,g18] M := by kernel_rfl
theorem k47_2 : P47 [1] = .seq (P47 [1,0]) (P47 [1,1]) := by kernel_rfl
theorem k47_3 : P47 [1,0] = .seq (P47 [1,0,0]) (P47 [1,0,1]) := by kernel_rfl
theorem k47_4 : P47 [1,0,0] = .region 1 (O47 [1,0,0]) false := by kernel_rfl
theorem r47_1 {x0 : Int} {M : Mem} {call : CallM} {K : Array Value → Mem → R} :
    opsK Try.prog (fun _ => call) (O47 [1,0,0]) (O47 [1,0,0]).toList 0 #[.int .u32 x0,g1,g2,g3,g4,g5,g6,g7,g8,g9,g10,g11,g12,g13,g14,g15,g16,g17,g18] M K = K #[.int .u32 x0,g1,g2,.int .u32 x0,.bool (decide (x0 ≥ 65536)),g5,g6,g7,g8,g9,g10,g11,g12,g13,g14,g15,g16,g17,g18] M := by kernel_rfl
theorem c47_5 : P47 [1,0,1] = .cond (.tmp 4) (P47 [1,0,1,0]) (P47 [1,0,1,1]) := by kernel_rfl
theorem k47_6 : P47 [1,0,1,0] = .seq (P47 [1,0,1,0,0]) (P47 [1,0,1,0,1]) := by kernel_rfl
theorem k47_7 : P47 [1,0,1,0,0] = .region 2 (O47 [1,0,1,0,0]) false := by kernel_rfl
theorem r47_2 {x0 : Int} {M : Mem} {call : CallM} {K : Array Value → Mem → R} :
    opsK Try.prog (fun _ => call) (O47 [1,0,1,0,0]) (O47 [1,0,1,0,0]).toList 0 #[.int .u32 x0,g1,g2,g3,g4,g5,g6,g7,g8,g9,g10,g11,g12,g13,g14,g15,g16,g17,g18] M K = K #[.int .u32 (x0.fdiv (2 ^ 16)),g1,g2,g3,g4,.int .u32 x0,.int .u32 (x0.fdiv (2 ^ 16)),g7,g8,g9,g10,g11,g12,g13,g14,g15,g16,g17,g18] M := by kernel_rfl
theorem k47_8 : P47 [1,0,1,0,1] = .region 3 (O47 [1,0,1,0,1]) false := by kernel_rfl
theorem r47_3 {M : Mem} {call : CallM} {K : Array Value → Mem → R} :
    opsK Try.prog (fun _ => call) (O47 [1,0,1,0,1]) (O47 [1,0,1,0,1]).toList 0 #[g0,g1,g2,g3,g4,g5,g6,g7,g8,g9,g10,g11,g12,g13,g14,g15,g16,g17,g18] M K = K #[g0,g1,.int .i64 16,g3,g4,g5,g6,g7,g8,g9,g10,g11,g12,g13,g14,g15,g16,g17,g18] M := by kernel_rfl
theorem k47_9 : P47 [1,1] = .seq (P47 [1,1,0]) (P47 [1,1,1]) := by kernel_rfl
theorem k47_10 : P47 [1,1,0] = .seq (P47 [1,1,0,0]) (P47 [1,1,0,1]) := by kernel_rfl
theorem k47_11 : P47 [1,1,0,0] = .region 4 (O47 [1,1,0,0]) false := by kernel_rfl
theorem r47_4 {x0 : Int} {M : Mem} {call : CallM} {K : Array Value → Mem → R} :
    opsK Try.prog (fun _ => call) (O47 [1,1,0,0]) (O47 [1,1,0,0]).toList 0 #[.int .u32 x0,g1,g2,g3,g4,g5,g6,g7,g8,g9,g10,g11,g12,g13,g14,g15,g16,g17,g18] M K = K #[.int .u32 x0,g1,g2,g3,g4,g5,g6,.int .u32 x0,.bool (decide (x0 ≥ 256)),g9,g10,g11,g12,g13,g14,g15,g16,g17,g18] M := by kernel_rfl
theorem c47_12 : P47 [1,1,0,1] = .cond (.tmp 8) (P47 [1,1,0,1,0]) (P47 [1,1,0,1,1]) := by kernel_rfl
theorem k47_13 : P47 [1,1,0,1,0] = .seq (P47 [1,1,0,1,0,0]) (P47 [1,1,0,1,0,1]) := by kernel_rfl
theorem k47_14 : P47 [1,1,0,1,0,0] = .region 5 (O47 [1,1,0,1,0,0]) false := by kernel_rfl
theorem r47_5 {x0 : Int} {M : Mem} {call : CallM} {K : Array Value → Mem → R} :
    opsK Try.prog (fun _ => call) (O47 [1,1,0,1,0,0]) (O47 [1,1,0,1,0,0]).toList 0 #[.int .u32 x0,g1,g2,g3,g4,g5,g6,g7,g8,g9,g10,g11,g12,g13,g14,g15,g16,g17,g18] M K = K #[.int .u32 (x0.fdiv (2 ^ 8)),g1,g2,g3,g4,g5,g6,g7,g8,.int .u32 x0,.int .u32 (x0.fdiv (2 ^ 8)),g11,g12,g13,g14,g15,g16,g17,g18] M := by kernel_rfl
theorem k47_15 : P47 [1,1,0,1,0,1] = .region 6 (O47 [1,1,0,1,0,1]) false := by kernel_rfl
theorem r47_6 {x2 : Int} {M : Mem} {call : CallM} {K : Array Value → Mem → R} :
    opsK Try.prog (fun _ => call) (O47 [1,1,0,1,0,1]) (O47 [1,1,0,1,0,1]).toList 0 #[g0,g1,.int .i64 x2,g3,g4,g5,g6,g7,g8,g9,g10,g11,g12,g13,g14,g15,g16,g17,g18] M K = K #[g0,g1,.int .i64 (IntKind.i64.wrap (x2 + 8)),g3,g4,g5,g6,g7,g8,g9,g10,.int .i64 x2,.int .i64 (IntKind.i64.wrap (x2 + 8)),g13,g14,g15,g16,g17,g18] M := by kernel_rfl
theorem k47_16 : P47 [1,1,1] = .seq (P47 [1,1,1,0]) (P47 [1,1,1,1]) := by kernel_rfl
theorem k47_17 : P47 [1,1,1,0] = .region 7 (O47 [1,1,1,0]) false := by kernel_rfl
theorem r47_7 {x0 x2 : Int} {M : Mem} {call : CallM} {K : Array Value → Mem → R} :
    opsK Try.prog (fun _ => call) (O47 [1,1,1,0]) (O47 [1,1,1,0]).toList 0 #[.int .u32 x0,g1,.int .i64 x2,g3,g4,g5,g6,g7,g8,g9,g10,g11,g12,g13,g14,g15,g16,g17,g18] M K = (strV Try.prog 9 (.string str0) (.int .u8 (IntKind.u8.wrap (x0)))).bind fun v_1 => (asI .u8 v_1).bind fun x_2 => K #[.int .u32 x0,g1,.int .i64 (IntKind.i64.wrap (x2 + (IntKind.i64.wrap (x_2)))),g3,g4,g5,g6,g7,g8,g9,g10,g11,g12,.int .i64 x2,.int .u32 x0,.int .u8 (IntKind.u8.wrap (x0)),.int .u8 x_2,.int .i64 (IntKind.i64.wrap (x_2)),.int .i64 (IntKind.i64.wrap (x2 + (IntKind.i64.wrap (x_2))))] M := by kernel_rfl
theorem k47_18 : P47 [1,1,1,1] = .ret := by kernel_rfl
theorem e47 {M : Mem} : finish Try.prog Try.f47 #[g0,g1,g2,g3,g4,g5,g6,g7,g8,g9,g10,g11,g12,g13,g14,g15,g16,g17,g18] M = some (g2, M) := by kernel_rfl
theorem k47_20 : P47 [1,1,0,1,1] = .skip := by kernel_rfl
theorem k47_21 : P47 [1,0,1,1] = .skip := by kernel_rfl
theorem w47_0 {x0 : Int} {M : Mem} {Q : Value → Mem → Prop} (H :
    ((x0 ≥ 65536 →
     (((x0.fdiv (2 ^ 16)) ≥ 256 →
      ∃ v1', strV Try.prog 9 (.string str0) (.int .u8 (IntKind.u8.wrap (((x0.fdiv (2 ^ 16)).fdiv (2 ^ 8))))) = some v1' ∧
      ∃ x2', asI .u8 v1' = some x2' ∧
      Q (.int .i64 (IntKind.i64.wrap ((IntKind.i64.wrap (16 + 8)) + (IntKind.i64.wrap (x2'))))) M) ∧
      (¬ ((x0.fdiv (2 ^ 16)) ≥ 256) →
      ∃ v3', strV Try.prog 9 (.string str0) (.int .u8 (IntKind.u8.wrap ((x0.fdiv (2 ^ 16))))) = some v3' ∧
      ∃ x4', asI .u8 v3' = some x4' ∧
      Q (.int .i64 (IntKind.i64.wrap (16 + (IntKind.i64.wrap (x4'))))) M))) ∧
     (¬ (x0 ≥ 65536) →
     ((x0 ≥ 256 →
      ∃ v5', strV Try.prog 9 (.string str0) (.int .u8 (IntKind.u8.wrap ((x0.fdiv (2 ^ 8))))) = some v5' ∧
      ∃ x6', asI .u8 v5' = some x6' ∧
      Q (.int .i64 (IntKind.i64.wrap ((IntKind.i64.wrap (0 + 8)) + (IntKind.i64.wrap (x6'))))) M) ∧
      (¬ (x0 ≥ 256) →
      ∃ v7', strV Try.prog 9 (.string str0) (.int .u8 (IntKind.u8.wrap (x0))) = some v7' ∧
      ∃ x8', asI .u8 v7' = some x8' ∧
      Q (.int .i64 (IntKind.i64.wrap (0 + (IntKind.i64.wrap (x8'))))) M))))) :
    Cn Try.prog 47 #[.int .u32 x0] M Q := by
  refine Cn.of b47 d47 t47 ?_
  refine Rn.seq k47_0 (Rn.region k47_1 (fun call K => r47_0) (Rch.leaf (Rn.seq k47_2 (Rn.seq k47_3 (Rn.region k47_4 (fun call K => r47_1) (Rch.leaf ?_))))))
  refine Rn.cnd (v := decide (x0 ≥ 65536)) ⟨c47_5, rfl, by kernel_rfl⟩ (fun h => ?_) (fun h => ?_)
  · replace H := H.1 (of_decide_eq_true h)
    refine Rn.seq k47_6 (Rn.region k47_7 (fun call K => r47_2) (Rch.leaf (Rn.region k47_8 (fun call K => r47_3) (Rch.leaf (Rn.seq k47_9 (Rn.seq k47_10 (Rn.region k47_11 (fun call K => r47_4) (Rch.leaf ?_))))))))
    refine Rn.cnd (v := decide ((x0.fdiv (2 ^ 16)) ≥ 256)) ⟨c47_12, rfl, by kernel_rfl⟩ (fun h => ?_) (fun h => ?_)
    · replace H := H.1 (of_decide_eq_true h)
      refine Rn.seq k47_13 (Rn.region k47_14 (fun call K => r47_5) (Rch.leaf (Rn.region k47_15 (fun call K => r47_6) (Rch.leaf (Rn.seq k47_16 (Rn.region k47_17 (fun call K => r47_7) (Rch.ex H fun v1' H => Rch.ex H fun x2' H => Rch.leaf ?_)))))))
      exact Rn.ret k47_18 e47 H
    · replace H := H.2 (of_decide_eq_false h)
      refine Rn.skip k47_20 (Rn.seq k47_16 (Rn.region k47_17 (fun call K => r47_7) (Rch.ex H fun v3' H => Rch.ex H fun x4' H => Rch.leaf ?_)))
      exact Rn.ret k47_18 e47 H
  · replace H := H.2 (of_decide_eq_false h)
    refine Rn.skip k47_21 (Rn.seq k47_9 (Rn.seq k47_10 (Rn.region k47_11 (fun call K => r47_4) (Rch.leaf ?_))))
    refine Rn.cnd (v := decide (x0 ≥ 256)) ⟨c47_12, rfl, by kernel_rfl⟩ (fun h => ?_) (fun h => ?_)
    · replace H := H.1 (of_decide_eq_true h)
      refine Rn.seq k47_13 (Rn.region k47_14 (fun call K => r47_5) (Rch.leaf (Rn.region k47_15 (fun call K => r47_6) (Rch.leaf (Rn.seq k47_16 (Rn.region k47_17 (fun call K => r47_7) (Rch.ex H fun v5' H => Rch.ex H fun x6' H => Rch.leaf ?_)))))))
      exact Rn.ret k47_18 e47 H
    · replace H := H.2 (of_decide_eq_false h)
      refine Rn.skip k47_20 (Rn.seq k47_16 (Rn.region k47_17 (fun call K => r47_7) (Rch.ex H fun v7' H => Rch.ex H fun x8' H => Rch.leaf ?_)))
      exact Rn.ret k47_18 e47 H


/-! ### math/bits.Len64: function 72 -/
noncomputable abbrev P72 (p : List Nat) : Code := subC (codeOf Try.f72) p
noncomputable abbrev O72 (p : List Nat) : Array Oper := opsOf (subC (codeOf Try.f72) p)
theorem b72 : Try.prog.funcs[72]? = some Try.f72 ∧ (Orc.tab Try.prog).lookup 72 = none := ⟨by kernel_rfl, by kernel_rfl⟩
theorem d72 : Try.f72.body = some (P72 []) := by kernel_rfl
theorem t72 {x0 : Int} : #[.int .u64 x0] ++ Array.replicate (Try.f72.ntmps - (#[.int .u64 x0] : Array Value).size) undef = #[.int .u64 x0,undef,undef,undef,undef,undef,undef,undef,undef,undef,undef,undef,undef,undef,undef,undef,undef,undef,undef,undef,undef,undef,undef,undef,undef] := by kernel_rfl
theorem k72_0 : P72 [] = .seq (P72 [0]) (P72 [1]) := by kernel_rfl
theorem k72_1 : P72 [0] = .region 0 (O72 [0]) false := by kernel_rfl
theorem r72_0 {M : Mem} {call : CallM} {K : Array Value → Mem → R} :
    opsK Try.prog (fun _ => call) (O72 [0]) (O72 [0]).toList 0 #[g0,g1,g2,g3,g4,g5,g6,g7,g8,g9,g10,g11,g12,g13,g14,g15,g16,g17,g18,g19,g20,g21,g22,g23,g24] M K = K #[g0,g1,.int .i64 0,g3,g4,g5,g6,g7,g8,g9,g10,g11,g12,g13,g14,g15,g16,g17,g18,g19,g20,g21,g22,g23,g24] M := by kernel_rfl
theorem k72_2 : P72 [1] = .seq (P72 [1,0]) (P72 [1,1]) := by kernel_rfl
theorem k72_3 : P72 [1,0] = .seq (P72 [1,0,0]) (P72 [1,0,1]) := by kernel_rfl
theorem k72_4 : P72 [1,0,0] = .region 1 (O72 [1,0,0]) false := by kernel_rfl
theorem r72_1 {x0 : Int} {M : Mem} {call : CallM} {K : Array Value → Mem → R} :
    opsK Try.prog (fun _ => call) (O72 [1,0,0]) (O72 [1,0,0]).toList 0 #[.int .u64 x0,g1,g2,g3,g4,g5,g6,g7,g8,g9,g10,g11,g12,g13,g14,g15,g16,g17,g18,g19,g20,g21,g22,g23,g24] M K = K #[.int .u64 x0,g1,g2,.int .u64 x0,.bool (decide (x0 ≥ 4294967296)),g5,g6,g7,g8,g9,g10,g11,g12,g13,g14,g15,g16,g17,g18,g19,g20,g21,g22,g23,g24] M := by kernel_rfl
theorem c72_5 : P72 [1,0,1] = .cond (.tmp 4) (P72 [1,0,1,0]) (P72 [1,0,1,1]) := by kernel_rfl
theorem k72_6 : P72 [1,0,1,0] = .seq (P72 [1,0,1,0,0]) (P72 [1,0,1,0,1]) := by kernel_rfl
theorem k72_7 : P72 [1,0,1,0,0] = .region 2 (O72 [1,0,1,0,0]) false := by kernel_rfl
theorem r72_2 {x0 : Int} {M : Mem} {call : CallM} {K : Array Value → Mem → R} :
    opsK Try.prog (fun _ => call) (O72 [1,0,1,0,0]) (O72 [1,0,1,0,0]).toList 0 #[.int .u64 x0,g1,g2,g3,g4,g5,g6,g7,g8,g9,g10,g11,g12,g13,g14,g15,g16,g17,g18,g19,g20,g21,g22,g23,g24] M K = K #[.int .u64 (x0.fdiv (2 ^ 32)),g1,g2,g3,g4,.int .u64 x0,.int .u64 (x0.fdiv (2 ^ 32)),g7,g8,g9,g10,g11,g12,g13,g14,g15,g16,g17,g18,g19,g20,g21,g22,g23,g24] M := by kernel_rfl
theorem k72_8 : P72 [1,0,1,0,1] = .region 3 (O72 [1,0,1,0,1]) false := by kernel_rfl
theorem r72_3 {M : Mem} {call : CallM} {K : Array Value → Mem → R} :
    opsK Try.prog (fun _ => call) (O72 [1,0,1,0,1]) (O72 [1,0,1,0,1]).toList 0 #[g0,g1,g2,g3,g4,g5,g6,g7,g8,g9,g10,g11,g12,g13,g14,g15,g16,g17,g18,g19,g20,g21,g22,g23,g24] M K = K #[g0,g1,.int .i64 32,g3,g4,g5,g6,g7,g8,g9,g10,g11,g12,g13,g14,g15,g16,g17,g18,g19,g20,g21,g22,g23,g24] M := by kernel_rfl
theorem k72_9 : P72 [1,1] = .seq (P72 [1,1,0]) (P72 [1,1,1]) := by kernel_rfl
theorem k72_10 : P72 [1,1,0] = .seq (P72 [1,1,0,0]) (P72 [1,1,0,1]) := by kernel_rfl
theorem k72_11 : P72 [1,1,0,0] = .region 4 (O72 [1,1,0,0]) false := by kernel_rfl
theorem r72_4 {x0 : Int} {M : Mem} {call : CallM} {K : Array Value → Mem → R} :
    opsK Try.prog (fun _ => call) (O72 [1,1,0,0]) (O72 [1,1,0,0]).toList 0 #[.int .u64 x0,g1,g2,g3,g4,g5,g6,g7,g8,g9,g10,g11,g12,g13,g14,g15,g16,g17,g18,g19,g20,g21,g22,g23,g24] M K = K #[.int .u64 x0,g1,g2,g3,g4,g5,g6,.int .u64 x0,.bool (decide (x0 ≥ 65536)),g9,g10,g11,g12,g13,g14,g15,g16,g17,g18,g19,g20,g21,g22,g23,g24] M := by kernel_rfl
theorem c72_12 : P72 [1,1,0,1] = .cond (.tmp 8) (P72 [1,1,0,1,0]) (P72 [1,1,0,1,1]) := by kernel_rfl
theorem k72_13 : P72 [1,1,0,1,0] = .seq (P72 [1,1,0,1,0,0]) (P72 [1,1,0,1,0,1]) := by kernel_rfl
theorem k72_14 : P72 [1,1,0,1,0,0] = .region 5 (O72 [1,1,0,1,0,0]) false := by kernel_rfl
theorem r72_5 {x0 : Int} {M : Mem} {call : CallM} {K : Array Value → Mem → R} :
    opsK Try.prog (fun _ => call) (O72 [1,1,0,1,0,0]) (O72 [1,1,0,1,0,0]).toList 0 #[.int .u64 x0,g1,g2,g3,g4,g5,g6,g7,g8,g9,g10,g11,g12,g13,g14,g15,g16,g17,g18,g19,g20,g21,g22,g23,g24] M K = K #[.int .u64 (x0.fdiv (2 ^ 16)),g1,g2,g3,g4,g5,g6,g7,g8,.int .u64 x0,.int .u64 (x0.fdiv (2 ^ 16)),g11,g12,g13,g14,g15,g16,g17,g18,g19,g20,g21,g22,g23,g24] M := by kernel_rfl
theorem k72_15 : P72 [1,1,0,1,0,1] = .region 6 (O72 [1,1,0,1,0,1]) false := by kernel_rfl
theorem r72_6 {x2 : Int} {M : Mem} {call : CallM} {K : Array Value → Mem → R} :
    opsK Try.prog (fun _ => call) (O72 [1,1,0,1,0,1]) (O72 [1,1,0,1,0,1]).toList 0 #[g0,g1,.int .i64 x2,g3,g4,g5,g6,g7,g8,g9,g10,g11,g12,g13,g14,g15,g16,g17,g18,g19,g20,g21,g22,g23,g24] M K = K #[g0,g1,.int .i64 (IntKind.i64.wrap (x2 + 16)),g3,g4,g5,g6,g7,g8,g9,g10,.int .i64 x2,.int .i64 (IntKind.i64.wrap (x2 + 16)),g13,g14,g15,g16,g17,g18,g19,g20,g21,g22,g23,g24] M := by kernel_rfl
theorem k72_16 : P72 [1,1,1] = .seq (P72 [1,1,1,0]) (P72 [1,1,1,1]) := by kernel_rfl
theorem k72_17 : P72 [1,1,1,0] = .seq (P72 [1,1,1,0,0]) (P72 [1,1,1,0,1]) := by kernel_rfl
theorem k72_18 : P72 [1,1,1,0,0] = .region 7 (O72 [1,1,1,0,0]) false := by kernel_rfl
theorem r72_7 {x0 : Int} {M : Mem} {call : CallM} {K : Array Value → Mem → R} :
    opsK Try.prog (fun _ => call) (O72 [1,1,1,0,0]) (O72 [1,1,1,0,0]).toList 0 #[.int .u64 x0,g1,g2,g3,g4,g5,g6,g7,g8,g9,g10,g11,g12,g13,g14,g15,g16,g17,g18,g19,g20,g21,g22,g23,g24] M K = K #[.int .u64 x0,g1,g2,g3,g4,g5,g6,g7,g8,g9,g10,g11,g12,.int .u64 x0,.bool (decide (x0 ≥ 256)),g15,g16,g17,g18,g19,g20,g21,g22,g23,g24] M := by kernel_rfl
theorem c72_19 : P72 [1,1,1,0,1] = .cond (.tmp 14) (P72 [1,1,1,0,1,0]) (P72 [1,1,1,0,1,1]) := by kernel_rfl
theorem k72_20 : P72 [1,1,1,0,1,0] = .seq (P72 [1,1,1,0,1,0,0]) (P72 [1,1,1,0,1,0,1]) := by kernel_rfl
theorem k72_21 : P72 [1,1,1,0,1,0,0] = .region 8 (O72 [1,1,1,0,1,0,0]) false := by kernel_rfl
theorem r72_8 {x0 : Int} {M : Mem} {call : CallM} {K : Array Value → Mem → R} :
    opsK Try.prog (fun _ => call) (O72 [1,1,1,0,1,0,0]) (O72 [1,1,1,0,1,0,0]).toList 0 #[.int .u64 x0,g1,g2,g3,g4,g5,g6,g7,g8,g9,g10,g11,g12,g13,g14,g15,g16,g17,g18,g19,g20,g21,g22,g23,g24] M K = K #[.int .u64 (x0.fdiv (2 ^ 8)),g1,g2,g3,g4,g5,g6,g7,g8,g9,g10,g11,g12,g13,g14,.int .u64 x0,.int .u64 (x0.fdiv (2 ^ 8)),g17,g18,g19,g20,g21,g22,g23,g24] M := by kernel_rfl
theorem k72_22 : P72 [1,1,1,0,1,0,1] = .region 9 (O72 [1,1,1,0,1,0,1]) false := by kernel_rfl
theorem r72_9 {x2 : Int} {M : Mem} {call : CallM} {K : Array Value → Mem → R} :
    opsK Try.prog (fun _ => call) (O72 [1,1,1,0,1,0,1]) (O72 [1,1,1,0,1,0,1]).toList 0 #[g0,g1,.int .i64 x2,g3,g4,g5,g6,g7,g8,g9,g10,g11,g12,g13,g14,g15,g16,g17,g18,g19,g20,g21,g22,g23,g24] M K = K #[g0,g1,.int .i64 (IntKind.i64.wrap (x2 + 8)),g3,g4,g5,g6,g7,g8,g9,g10,g11,g12,g13,g14,g15,g16,.int .i64 x2,.int .i64 (IntKind.i64.wrap (x2 + 8)),g19,g20,g21,g22,g23,g24] M := by kernel_rfl
theorem k72_23 : P72 [1,1,1,1] = .seq (P72 [1,1,1,1,0]) (P72 [1,1,1,1,1]) := by kernel_rfl
theorem k72_24 : P72 [1,1,1,1,0] = .region 10 (O72 [1,1,1,1,0]) false := by kernel_rfl
theorem r72_10 {x0 x2 : Int} {M : Mem} {call : CallM} {K : Array Value → Mem → R} :
    opsK Try.prog (fun _ => call) (O72 [1,1,1,1,0]) (O72 [1,1,1,1,0]).toList 0 #[.int .u64 x0,g1,.int .i64 x2,g3,g4,g5,g6,g7,g8,g9,g10,g11,g12,g13,g14,g15,g16,g17,g18,g19,g20,g21,g22,g23,g24] M K = (strV Try.prog 9 (.string str0) (.int .u8 (IntKind.u8.wrap (x0)))).bind fun v_1 => (asI .u8 v_1).bind fun x_2 => K #[.int .u64 x0,g1,.int .i64 (IntKind.i64.wrap (x2 + (IntKind.i64.wrap (x_2)))),g3,g4,g5,g6,g7,g8,g9,g10,g11,g12,g13,g14,g15,g16,g17,g18,.int .i64 x2,.int .u64 x0,.int .u8 (IntKind.u8.wrap (x0)),.int .u8 x_2,.int .i64 (IntKind.i64.wrap (x_2)),.int .i64 (IntKind.i64.wrap (x2 + (IntKind.i64.wrap (x_2))))] M := by kernel_rfl
theorem k72_25 : P72 [1,1,1,1,1] = .ret := by kernel_rfl
theorem e72 {M : Mem} : finish Try.prog Try.f72 #[g0,g1,g2,g3,g4,g5,g6,g7,g8,g9,g10,g11,g12,g13,g14,g15,g16,g17,g18,g19,g20,g21,g22,g23,g24] M = some (g2, M) := by kernel_rfl
theorem k72_27 : P72 [1,1,1,0,1,1] = .skip := by kernel_rfl
theorem k72_28 : P72 [1,1,0,1,1] = .skip := by kernel_rfl
theorem k72_29 : P72 [1,0,1,1] = .skip := by kernel_rfl
theorem w72_0 {x0 : Int} {M : Mem} {Q : Value → Mem → Prop} (H :
    ((x0 ≥ 4294967296 →
     (((x0.fdiv (2 ^ 32)) ≥ 65536 →
      ((((x0.fdiv (2 ^ 32)).fdiv (2 ^ 16)) ≥ 256 →
       ∃ v1', strV Try.prog 9 (.string str0) (.int .u8 (IntKind.u8.wrap ((((x0.fdiv (2 ^ 32)).fdiv (2 ^ 16)).fdiv (2 ^ 8))))) = some v1' ∧
       ∃ x2', asI .u8 v1' = some x2' ∧
       Q (.int .i64 (IntKind.i64.wrap ((IntKind.i64.wrap ((IntKind.i64.wrap (32 + 16)) + 8)) + (IntKind.i64.wrap (x2'))))) M) ∧
       (¬ (((x0.fdiv (2 ^ 32)).fdiv (2 ^ 16)) ≥ 256) →
       ∃ v3', strV Try.prog 9 (.string str0) (.int .u8 (IntKind.u8.wrap (((x0.fdiv (2 ^ 32)).fdiv (2 ^ 16))))) = some v3' ∧
       ∃ x4', asI .u8 v3' = some x4' ∧
       Q (.int .i64 (IntKind.i64.wrap ((IntKind.i64.wrap (32 + 16)) + (IntKind.i64.wrap (x4'))))) M))) ∧
      (¬ ((x0.fdiv (2 ^ 32)) ≥ 65536) →
      (((x0.fdiv (2 ^ 32)) ≥ 256 →
       ∃ v5', strV Try.prog 9 (.string str0) (.int .u8 (IntKind.u8.wrap (((x0.fdiv (2 ^ 32)).fdiv (2 ^ 8))))) = some v5' ∧
       ∃ x6', asI .u8 v5' = some x6' ∧
       Q (.int .i64 (IntKind.i64.wrap ((IntKind.i64.wrap (32 + 8)) + (IntKind.i64.wrap (x6'))))) M) ∧
       (¬ ((x0.fdiv (2 ^ 32)) ≥ 256) →
       ∃ v7', strV Try.prog 9 (.string str0) (.int .u8 (IntKind.u8.wrap ((x0.fdiv (2 ^ 32))))) = some v7' ∧
       ∃ x8', asI .u8 v7' = some x8' ∧
       Q (.int .i64 (IntKind.i64.wrap (32 + (IntKind.i64.wrap (x8'))))) M))))) ∧
     (¬ (x0 ≥ 4294967296) →
     ((x0 ≥ 65536 →
      (((x0.fdiv (2 ^ 16)) ≥ 256 →
       ∃ v9', strV Try.prog 9 (.string str0) (.int .u8 (IntKind.u8.wrap (((x0.fdiv (2 ^ 16)).fdiv (2 ^ 8))))) = some v9' ∧
       ∃ x10', asI .u8 v9' = some x10' ∧
       Q (.int .i64 (IntKind.i64.wrap ((IntKind.i64.wrap ((IntKind.i64.wrap (0 + 16)) + 8)) + (IntKind.i64.wrap (x10'))))) M) ∧
       (¬ ((x0.fdiv (2 ^ 16)) ≥ 256) →
       ∃ v11', strV Try.prog 9 (.string str0) (.int .u8 (IntKind.u8.wrap ((x0.fdiv (2 ^ 16))))) = some v11' ∧
       ∃ x12', asI .u8 v11' = some x12' ∧
       Q (.int .i64 (IntKind.i64.wrap ((IntKind.i64.wrap (0 + 16)) + (IntKind.i64.wrap (x12'))))) M))) ∧
      (¬ (x0 ≥ 65536) →
      ((x0 ≥ 256 →
       ∃ v13', strV Try.prog 9 (.string str0) (.int .u8 (IntKind.u8.wrap ((x0.fdiv (2 ^ 8))))) = some v13' ∧
       ∃ x14', asI .u8 v13' = some x14' ∧
       Q (.int .i64 (IntKind.i64.wrap ((IntKind.i64.wrap (0 + 8)) + (IntKind.i64.wrap (x14'))))) M) ∧
       (¬ (x0 ≥ 256) →
       ∃ v15', strV Try.prog 9 (.string str0) (.int .u8 (IntKind.u8.wrap (x0))) = some v15' ∧
       ∃ x16', asI .u8 v15' = some x16' ∧
       Q (.int .i64 (IntKind.i64.wrap (0 + (IntKind.i64.wrap (x16'))))) M))))))) :
    Cn Try.prog 72 #[.int .u64 x0] M Q := by
  refine Cn.of b72 d72 t72 ?_
  refine Rn.seq k72_0 (Rn.region k72_1 (fun call K => r72_0) (Rch.leaf (Rn.seq k72_2 (Rn.seq k72_3 (Rn.region k72_4 (fun call K => r72_1) (Rch.leaf ?_))))))
  refine Rn.cnd (v := decide (x0 ≥ 4294967296)) ⟨c72_5, rfl, by kernel_rfl⟩ (fun h => ?_) (fun h => ?_)
  · replace H := H.1 (of_decide_eq_true h)
    refine Rn.seq k72_6 (Rn.region k72_7 (fun call K => r72_2) (Rch.leaf (Rn.region k72_8 (fun call K => r72_3) (Rch.leaf (Rn.seq k72_9 (Rn.seq k72_10 (Rn.region k72_11 (fun call K => r72_4) (Rch.leaf ?_))))))))
    refine Rn.cnd (v := decide ((x0.fdiv (2 ^ 32)) ≥ 65536)) ⟨c72_12, rfl, by kernel_rfl⟩ (fun h => ?_) (fun h => ?_)
    · replace H := H.1 (of_decide_eq_true h)
      refine Rn.seq k72_13 (Rn.region k72_14 (fun call K => r72_5) (Rch.leaf (Rn.region k72_15 (fun call K => r72_6) (Rch.leaf (Rn.seq k72_16 (Rn.seq k72_17 (Rn.region k72_18 (fun call K => r72_7) (Rch.leaf ?_))))))))
      refine Rn.cnd (v := decide (((x0.fdiv (2 ^ 32)).fdiv (2 ^ 16)) ≥ 256)) ⟨c72_19, rfl, by kernel_rfl⟩ (fun h => ?_) (fun h => ?_)
      · replace H := H.1 (of_decide_eq_true h)
        refine Rn.seq k72_20 (Rn.region k72_21 (fun call K => r72_8) (Rch.leaf (Rn.region k72_22 (fun call K => r72_9) (Rch.leaf (Rn.seq k72_23 (Rn.region k72_24 (fun call K => r72_10) (Rch.ex H fun v1' H => Rch.ex H fun x2' H => Rch.leaf ?_)))))))
        exact Rn.ret k72_25 e72 H
      · replace H := H.2 (of_decide_eq_false h)
        refine Rn.skip k72_27 (Rn.seq k72_23 (Rn.region k72_24 (fun call K => r72_10) (Rch.ex H fun v3' H => Rch.ex H fun x4' H => Rch.leaf ?_)))
        exact Rn.ret k72_25 e72 H
    · replace H := H.2 (of_decide_eq_false h)
      refine Rn.skip k72_28 (Rn.seq k72_16 (Rn.seq k72_17 (Rn.region k72_18 (fun call K => r72_7) (Rch.leaf ?_))))
      refine Rn.cnd (v := decide ((x0.fdiv (2 ^ 32)) ≥ 256)) ⟨c72_19, rfl, by kernel_rfl⟩ (fun h => ?_) (fun h => ?_)
      · replace H := H.1 (of_decide_eq_true h)
        refine Rn.seq k72_20 (Rn.region k72_21 (fun call K => r72_8) (Rch.leaf (Rn.region k72_22 (fun call K => r72_9) (Rch.leaf (Rn.seq k72_23 (Rn.region k72_24 (fun call K => r72_10) (Rch.ex H fun v5' H => Rch.ex H fun x6' H => Rch.leaf ?_)))))))
        exact Rn.ret k72_25 e72 H
      · replace H := H.2 (of_decide_eq_false h)
        refine Rn.skip k72_27 (Rn.seq k72_23 (Rn.region k72_24 (fun call K => r72_10) (Rch.ex H fun v7' H => Rch.ex H fun x8' H => Rch.leaf ?_)))
        exact Rn.ret k72_25 e72 H
  · replace H := H.2 (of_decide_eq_false h)
    refine Rn.skip k72_29 (Rn.seq k72_9 (Rn.seq k72_10 (Rn.region k72_11 (fun call K => r72_4) (Rch.leaf ?_))))
    refine Rn.cnd (v := decide (x0 ≥ 65536)) ⟨c72_12, rfl, by kernel_rfl⟩ (fun h => ?_) (fun h => ?_)
    · replace H := H.1 (of_decide_eq_true h)
      refine Rn.seq k72_13 (Rn.region k72_14 (fun call K => r72_5) (Rch.leaf (Rn.region k72_15 (fun call K => r72_6) (Rch.leaf (Rn.seq k72_16 (Rn.seq k72_17 (Rn.region k72_18 (fun call K => r72_7) (Rch.leaf ?_))))))))
      refine Rn.cnd (v := decide ((x0.fdiv (2 ^ 16)) ≥ 256)) ⟨c72_19, rfl, by kernel_rfl⟩ (fun h => ?_) (fun h => ?_)
      · replace H := H.1 (of_decide_eq_true h)
        refine Rn.seq k72_20 (Rn.region k72_21 (fun call K => r72_8) (Rch.leaf (Rn.region k72_22 (fun call K => r72_9) (Rch.leaf (Rn.seq k72_23 (Rn.region k72_24 (fun call K => r72_10) (Rch.ex H fun v9' H => Rch.ex H fun x10' H => Rch.leaf ?_)))))))
        exact Rn.ret k72_25 e72 H
      · replace H := H.2 (of_decide_eq_false h)
        refine Rn.skip k72_27 (Rn.seq k72_23 (Rn.region k72_24 (fun call K => r72_10) (Rch.ex H fun v11' H => Rch.ex H fun x12' H => Rch.leaf ?_)))
        exact Rn.ret k72_25 e72 H
    · replace H := H.2 (of_decide_eq_false h)
      refine Rn.skip k72_28 (Rn.seq k72_16 (Rn.seq k72_17 (Rn.region k72_18 (fun call K => r72_7) (Rch.leaf ?_))))
      refine Rn.cnd (v := decide (x0 ≥ 256)) ⟨c72_19, rfl, by kernel_rfl⟩ (fun h => ?_) (fun h => ?_)
      · replace H := H.1 (of_decide_eq_true h)
        refine Rn.seq k72_20 (Rn.region k72_21 (fun call K => r72_8) (Rch.leaf (Rn.region k72_22 (fun call K => r72_9) (Rch.leaf (Rn.seq k72_23 (Rn.region k72_24 (fun call K => r72_10) (Rch.ex H fun v13' H => Rch.ex H fun x14' H => Rch.leaf ?_)))))))
        exact Rn.ret k72_25 e72 H
      · replace H := H.2 (of_decide_eq_false h)
        refine Rn.skip k72_27 (Rn.seq k72_23 (Rn.region k72_24 (fun call K => r72_10) (Rch.ex H fun v15' H => Rch.ex H fun x16' H => Rch.leaf ?_)))
        exact Rn.ret k72_25 e72 H


/-! ### (*zoetrope/bits.Writer).put: function 48 -/
noncomputable abbrev P48 (p : List Nat) : Code := subC (codeOf Try.f48) p
noncomputable abbrev O48 (p : List Nat) : Array Oper := opsOf (subC (codeOf Try.f48) p)
theorem b48 : Try.prog.funcs[48]? = some Try.f48 ∧ (Orc.tab Try.prog).lookup 48 = none := ⟨by kernel_rfl, by kernel_rfl⟩
theorem d48 : Try.f48.body = some (P48 []) := by kernel_rfl
theorem t48 {x0 : Option Addr} {x1 x2 : Int} : #[.pointer x0,.int .u64 x1,.int .i64 x2] ++ Array.replicate (Try.f48.ntmps - (#[.pointer x0,.int .u64 x1,.int .i64 x2] : Array Value).size) undef = #[.pointer x0,.int .u64 x1,.int .i64 x2,undef,undef,undef,undef,undef,undef,undef,undef,undef,undef,undef,undef,undef,undef,undef,undef,undef,undef,undef,undef,undef,undef,undef,undef,undef,undef,undef,undef,undef,undef,undef,undef,undef,undef,undef,undef,undef,undef,undef,undef,undef,undef,undef,undef,undef,undef,undef,undef,undef,undef,undef,undef,undef,undef,undef,undef,undef,undef] := by kernel_rfl
theorem k48_0 : P48 [] = .seq (P48 [0]) (P48 [1]) := by kernel_rfl
theorem k48_1 : P48 [0] = .region 0 (O48 [0]) false := by kernel_rfl
theorem r48_0 {x2 : Int} {M : Mem} {call : CallM} {K : Array Value → Mem → R} :
    opsK Try.prog (fun _ => call) (O48 [0]) (O48 [0]).toList 0 #[g0,g1,.int .i64 x2,g3,g4,g5,g6,g7,g8,g9,g10,g11,g12,g13,g14,g15,g16,g17,g18,g19,g20,g21,g22,g23,g24,g25,g26,g27,g28,g29,g30,g31,g32,g33,g34,g35,g36,g37,g38,g39,g40,g41,g42,g43,g44,g45,g46,g47,g48,g49,g50,g51,g52,g53,g54,g55,g56,g57,g58,g59,g60] M K = K #[g0,g1,.int .i64 x2,g3,g4,g5,.int .i64 (IntKind.i64.wrap (x2 - 1)),.int .i64 x2,.int .i64 (IntKind.i64.wrap (x2 - 1)),g9,g10,g11,g12,g13,g14,g15,g16,g17,g18,g19,g20,g21,g22,g23,g24,g25,g26,g27,g28,g29,g30,g31,g32,g33,g34,g35,g36,g37,g38,g39,g40,g41,g42,g43,g44,g45,g46,g47,g48,g49,g50,g51,g52,g53,g54,g55,g56,g57,g58,g59,g60] M := by kernel_rfl
theorem k48_2 : P48 [1] = .block 0 (P48 [1,0]) := by kernel_rfl
theorem k48_3 : P48 [1,0] = .loop (P48 [1,0,0]) := by kernel_rfl
theorem k48_4 : P48 [1,0,0] = .seq (P48 [1,0,0,0]) (P48 [1,0,0,1]) := by kernel_rfl
theorem k48_5 : P48 [1,0,0,0] = .seq (P48 [1,0,0,0,0]) (P48 [1,0,0,0,1]) := by kernel_rfl
theorem k48_6 : P48 [1,0,0,0,0] = .region 1 (O48 [1,0,0,0,0]) false := by kernel_rfl
theorem r48_1 {x6 : Int} {M : Mem} {call : CallM} {K : Array Value → Mem → R} :
    opsK Try.prog (fun _ => call) (O48 [1,0,0,0,0]) (O48 [1,0,0,0,0]).toList 0 #[g0,g1,g2,g3,g4,g5,.int .i64 x6,g7,g8,g9,g10,g11,g12,g13,g14,g15,g16,g17,g18,g19,g20,g21,g22,g23,g24,g25,g26,g27,g28,g29,g30,g31,g32,g33,g34,g35,g36,g37,g38,g39,g40,g41,g42,g43,g44,g45,g46,g47,g48,g49,g50,g51,g52,g53,g54,g55,g56,g57,g58,g59,g60] M K = K #[g0,g1,g2,g3,g4,g5,.int .i64 x6,g7,g8,.int .i64 x6,.bool (decide (x6 ≥ 0)),g11,g12,g13,g14,g15,g16,g17,g18,g19,g20,g21,g22,g23,g24,g25,g26,g27,g28,g29,g30,g31,g32,g33,g34,g35,g36,g37,g38,g39,g40,g41,g42,g43,g44,g45,g46,g47,g48,g49,g50,g51,g52,g53,g54,g55,g56,g57,g58,g59,g60] M := by kernel_rfl
theorem c48_7 : P48 [1,0,0,0,1] = .cond (.tmp 10) (P48 [1,0,0,0,1,0]) (P48 [1,0,0,0,1,1]) := by kernel_rfl
theorem k48_8 : P48 [1,0,0,0,1,0] = .skip := by kernel_rfl
theorem k48_9 : P48 [1,0,0,1] = .seq (P48 [1,0,0,1,0]) (P48 [1,0,0,1,1]) := by kernel_rfl
theorem k48_10 : P48 [1,0,0,1,0] = .block 1 (P48 [1,0,0,1,0,0]) := by kernel_rfl
theorem k48_11 : P48 [1,0,0,1,0,0] = .seq (P48 [1,0,0,1,0,0,0]) (P48 [1,0,0,1,0,0,1]) := by kernel_rfl
theorem k48_12 : P48 [1,0,0,1,0,0,0] = .seq (P48 [1,0,0,1,0,0,0,0]) (P48 [1,0,0,1,0,0,0,1]) := by kernel_rfl
theorem k48_13 : P48 [1,0,0,1,0,0,0,0] = .region 3 (O48 [1,0,0,1,0,0,0,0]) false := by kernel_rfl
theorem r48_3 {x0 : Option Addr} {M : Mem} {call : CallM} {K : Array Value → Mem → R} :
    opsK Try.prog (fun _ => call) (O48 [1,0,0,1,0,0,0,0]) (O48 [1,0,0,1,0,0,0,0]).toList 0 #[.pointer x0,g1,g2,g3,g4,g5,g6,g7,g8,g9,g10,g11,g12,g13,g14,g15,g16,g17,g18,g19,g20,g21,g22,g23,g24,g25,g26,g27,g28,g29,g30,g31,g32,g33,g34,g35,g36,g37,g38,g39,g40,g41,g42,g43,g44,g45,g46,g47,g48,g49,g50,g51,g52,g53,g54,g55,g56,g57,g58,g59,g60] M K = (x0).bind fun a_1 => (M.intAt .i64 a_1.block (a_1.off + 1)).bind fun x_2 => K #[.pointer x0,g1,g2,g3,g4,g5,g6,g7,g8,g9,g10,g11,g12,.pointer x0,.pointer (some a_1),.pointer (some ⟨a_1.block, a_1.off + 1, none⟩),.int .i64 x_2,.bool (x_2 == 0),g18,g19,g20,g21,g22,g23,g24,g25,g26,g27,g28,g29,g30,g31,g32,g33,g34,g35,g36,g37,g38,g39,g40,g41,g42,g43,g44,g45,g46,g47,g48,g49,g50,g51,g52,g53,g54,g55,g56,g57,g58,g59,g60] M := by kernel_rfl
theorem c48_14 : P48 [1,0,0,1,0,0,0,1] = .cond (.tmp 17) (P48 [1,0,0,1,0,0,0,1,0]) (P48 [1,0,0,1,0,0,0,1,1]) := by kernel_rfl
theorem k48_15 : P48 [1,0,0,1,0,0,0,1,0] = .seq (P48 [1,0,0,1,0,0,0,1,0,0]) (P48 [1,0,0,1,0,0,0,1,0,1]) := by kernel_rfl
theorem k48_16 : P48 [1,0,0,1,0,0,0,1,0,0] = .region 4 (O48 [1,0,0,1,0,0,0,1,0,0]) false := by kernel_rfl
theorem r48_4 {x0 : Option Addr} {M : Mem} {call : CallM} {K : Array Value → Mem → R} :
    opsK Try.prog (fun _ => call) (O48 [1,0,0,1,0,0,0,1,0,0]) (O48 [1,0,0,1,0,0,0,1,0,0]).toList 0 #[.pointer x0,g1,g2,g3,g4,g5,g6,g7,g8,g9,g10,g11,g12,g13,g14,g15,g16,g17,g18,g19,g20,g21,g22,g23,g24,g25,g26,g27,g28,g29,g30,g31,g32,g33,g34,g35,g36,g37,g38,g39,g40,g41,g42,g43,g44,g45,g46,g47,g48,g49,g50,g51,g52,g53,g54,g55,g56,g57,g58,g59,g60] M K = (x0).bind fun a_1 => (M.slAt a_1.block a_1.off).bind fun s_2 => (appendP Try.prog #[24, 24] (.slice s_2.1 (s_2.2.1) (s_2.2.2)) (.slice (some ⟨2 * M.nb.size, 0, none⟩) 1 1) (M.new (.cells #[.int .u8 0] 5))).bind fun r_3 => (asS r_3.1).bind fun s_4 => (x0).bind fun a_5 => (r_3.2.put a_5.block a_5.off (.slice s_4.1 (s_4.2.1) (s_4.2.2))).bind fun M_6 => K #[.pointer x0,g1,g2,g3,g4,g5,g6,g7,g8,g9,g10,g11,g12,g13,g14,g15,g16,g17,.pointer x0,.pointer x0,.pointer (some a_1),.pointer (some ⟨a_1.block, a_1.off, none⟩),.slice s_2.1 (s_2.2.1) (s_2.2.2),.slice (some ⟨2 * M.nb.size, 0, none⟩) 1 1,.slice s_4.1 (s_4.2.1) (s_4.2.2),.pointer (some a_5),.pointer (some ⟨a_5.block, a_5.off, none⟩),g27,g28,g29,g30,g31,g32,g33,g34,g35,g36,g37,g38,g39,g40,g41,g42,g43,g44,g45,g46,g47,g48,g49,g50,g51,g52,g53,g54,g55,g56,g57,g58,g59,g60] M_6 := by kernel_rfl
theorem k48_17 : P48 [1,0,0,1,0,0,0,1,0,1] = .region 5 (O48 [1,0,0,1,0,0,0,1,0,1]) false := by kernel_rfl
theorem r48_5 {x0 : Option Addr} {M : Mem} {call : CallM} {K : Array Value → Mem → R} :
    opsK Try.prog (fun _ => call) (O48 [1,0,0,1,0,0,0,1,0,1]) (O48 [1,0,0,1,0,0,0,1,0,1]).toList 0 #[.pointer x0,g1,g2,g3,g4,g5,g6,g7,g8,g9,g10,g11,g12,g13,g14,g15,g16,g17,g18,g19,g20,g21,g22,g23,g24,g25,g26,g27,g28,g29,g30,g31,g32,g33,g34,g35,g36,g37,g38,g39,g40,g41,g42,g43,g44,g45,g46,g47,g48,g49,g50,g51,g52,g53,g54,g55,g56,g57,g58,g59,g60] M K = (x0).bind fun a_1 => (M.put a_1.block (a_1.off + 1) (.int .i64 8)).bind fun M_2 => K #[.pointer x0,g1,g2,g3,g4,g5,g6,g7,g8,g9,g10,g11,g12,g13,g14,g15,g16,g17,g18,g19,g20,g21,g22,g23,g24,g25,g26,.pointer x0,.pointer (some a_1),.pointer (some ⟨a_1.block, a_1.off + 1, none⟩),g30,g31,g32,g33,g34,g35,g36,g37,g38,g39,g40,g41,g42,g43,g44,g45,g46,g47,g48,g49,g50,g51,g52,g53,g54,g55,g56,g57,g58,g59,g60] M_2 := by kernel_rfl
theorem k48_18 : P48 [1,0,0,1,0,0,1] = .seq (P48 [1,0,0,1,0,0,1,0]) (P48 [1,0,0,1,0,0,1,1]) := by kernel_rfl
theorem k48_19 : P48 [1,0,0,1,0,0,1,0] = .region 6 (O48 [1,0,0,1,0,0,1,0]) false := by kernel_rfl
theorem r48_6 {x0 : Option Addr} {M : Mem} {call : CallM} {K : Array Value → Mem → R} :
    opsK Try.prog (fun _ => call) (O48 [1,0,0,1,0,0,1,0]) (O48 [1,0,0,1,0,0,1,0]).toList 0 #[.pointer x0,g1,g2,g3,g4,g5,g6,g7,g8,g9,g10,g11,g12,g13,g14,g15,g16,g17,g18,g19,g20,g21,g22,g23,g24,g25,g26,g27,g28,g29,g30,g31,g32,g33,g34,g35,g36,g37,g38,g39,g40,g41,g42,g43,g44,g45,g46,g47,g48,g49,g50,g51,g52,g53,g54,g55,g56,g57,g58,g59,g60] M K = (x0).bind fun a_1 => (M.intAt .i64 a_1.block (a_1.off + 1)).bind fun x_2 => (x0).bind fun a_3 => (M.put a_3.block (a_3.off + 1) (.int .i64 (IntKind.i64.wrap (x_2 - 1)))).bind fun M_4 => K #[.pointer x0,g1,g2,g3,g4,g5,g6,g7,g8,g9,g10,g11,g12,g13,g14,g15,g16,g17,g18,g19,g20,g21,g22,g23,g24,g25,g26,g27,g28,g29,.pointer x0,.pointer (some a_1),.pointer (some ⟨a_1.block, a_1.off + 1, none⟩),.int .i64 x_2,.int .i64 (IntKind.i64.wrap (x_2 - 1)),.pointer (some a_3),.pointer (some ⟨a_3.block, a_3.off + 1, none⟩),g37,g38,g39,g40,g41,g42,g43,g44,g45,g46,g47,g48,g49,g50,g51,g52,g53,g54,g55,g56,g57,g58,g59,g60] M_4 := by kernel_rfl
theorem k48_20 : P48 [1,0,0,1,0,0,1,1] = .region 7 (O48 [1,0,0,1,0,0,1,1]) true ∧ drawOk (O48 [1,0,0,1,0,0,1,1]) = true := ⟨by kernel_rfl, by kernel_rfl⟩
theorem r48_7 {x0 : Option Addr} {x1 x6 : Int} {M : Mem} {call : CallM} {K : Array Value → Mem → R} :
    opsI Try.prog (callAt call (O48 [1,0,0,1,0,0,1,1])) (O48 [1,0,0,1,0,0,1,1]) (ordOf (O48 [1,0,0,1,0,0,1,1])) [] #[.pointer x0,.int .u64 x1,g2,g3,g4,g5,.int .i64 x6,g7,g8,g9,g10,g11,g12,g13,g14,g15,g16,g17,g18,g19,g20,g21,g22,g23,g24,g25,g26,g27,g28,g29,g30,g31,g32,g33,g34,g35,g36,g37,g38,g39,g40,g41,g42,g43,g44,g45,g46,g47,g48,g49,g50,g51,g52,g53,g54,g55,g56,g57,g58,g59,g60] M K = (x0).bind fun a_1 => (M.slAt a_1.block a_1.off).bind fun s_2 => (x0).bind fun a_3 => (M.slAt a_3.block a_3.off).bind fun s_4 => (idxA s_2.1 (s_2.2.1) 1 (IntKind.i64.wrap (((s_4.2.1 : Int)) - 1))).bind fun a_5 => (M.intAt .u8 a_5.block a_5.off).bind fun x_6 => (binV Try.prog .shr 86 3 (.int .u64 x1) (.int .i64 x6)).bind fun v_7 => (asI .u64 v_7).bind fun x_8 => (x0).bind fun a_9 => (M.intAt .i64 a_9.block (a_9.off + 1)).bind fun x_10 => (binV Try.prog .shl 5 3 (.int .u8 (IntKind.u8.wrap (IntKind.u64.wrap (((BitVec.ofInt (IntKind.bits .u64) x_8 &&& BitVec.ofInt (IntKind.bits .u64) 1).toNat : Int))))) (.int .i64 x_10)).bind fun v_11 => (asI .u8 v_11).bind fun x_12 => (idxA s_2.1 (s_2.2.1) 1 (IntKind.i64.wrap (((s_4.2.1 : Int)) - 1))).bind fun a_13 => (M.put a_13.block a_13.off (.int .u8 (IntKind.u8.wrap (((BitVec.ofInt (IntKind.bits .u8) x_6 ||| BitVec.ofInt (IntKind.bits .u8) x_12).toNat : Int))))).bind fun M_14 => K #[.pointer x0,.int .u64 x1,g2,g3,g4,g5,.int .i64 x6,g7,g8,g9,g10,g11,g12,g13,g14,g15,g16,g17,g18,g19,g20,g21,g22,g23,g24,g25,g26,g27,g28,g29,g30,g31,g32,g33,g34,g35,g36,.pointer x0,.pointer (some a_1),.pointer (some ⟨a_1.block, a_1.off, none⟩),.slice s_2.1 (s_2.2.1) (s_2.2.2),.pointer x0,.pointer (some a_3),.pointer (some ⟨a_3.block, a_3.off, none⟩),.slice s_4.1 (s_4.2.1) (s_4.2.2),.int .i64 ((s_4.2.1 : Int)),.int .i64 (IntKind.i64.wrap (((s_4.2.1 : Int)) - 1)),.pointer (some a_5),.int .u8 x_6,.int .u64 x1,.int .i64 x6,.int .u64 x_8,.int .u64 (IntKind.u64.wrap (((BitVec.ofInt (IntKind.bits .u64) x_8 &&& BitVec.ofInt (IntKind.bits .u64) 1).toNat : Int))),.int .u8 (IntKind.u8.wrap (IntKind.u64.wrap (((BitVec.ofInt (IntKind.bits .u64) x_8 &&& BitVec.ofInt (IntKind.bits .u64) 1).toNat : Int)))),.pointer x0,.pointer (some a_9),.pointer (some ⟨a_9.block, a_9.off + 1, none⟩),.int .i64 x_10,.int .u8 x_12,.int .u8 (IntKind.u8.wrap (((BitVec.ofInt (IntKind.bits .u8) x_6 ||| BitVec.ofInt (IntKind.bits .u8) x_12).toNat : Int))),.pointer (some a_13)] M_14 := by kernel_rfl
theorem k48_21 : P48 [1,0,0,1,1] = .region 2 (O48 [1,0,0,1,1]) false := by kernel_rfl
theorem r48_2 {x6 : Int} {M : Mem} {call : CallM} {K : Array Value → Mem → R} :
    opsK Try.prog (fun _ => call) (O48 [1,0,0,1,1]) (O48 [1,0,0,1,1]).toList 0 #[g0,g1,g2,g3,g4,g5,.int .i64 x6,g7,g8,g9,g10,g11,g12,g13,g14,g15,g16,g17,g18,g19,g20,g21,g22,g23,g24,g25,g26,g27,g28,g29,g30,g31,g32,g33,g34,g35,g36,g37,g38,g39,g40,g41,g42,g43,g44,g45,g46,g47,g48,g49,g50,g51,g52,g53,g54,g55,g56,g57,g58,g59,g60] M K = K #[g0,g1,g2,g3,g4,g5,.int .i64 (IntKind.i64.wrap (x6 - 1)),g7,g8,g9,g10,.int .i64 x6,.int .i64 (IntKind.i64.wrap (x6 - 1)),g13,g14,g15,g16,g17,g18,g19,g20,g21,g22,g23,g24,g25,g26,g27,g28,g29,g30,g31,g32,g33,g34,g35,g36,g37,g38,g39,g40,g41,g42,g43,g44,g45,g46,g47,g48,g49,g50,g51,g52,g53,g54,g55,g56,g57,g58,g59,g60] M := by kernel_rfl
theorem k48_22 : P48 [1,0,0,1,0,0,0,1,1] = .skip := by kernel_rfl
theorem k48_23 : P48 [1,0,0,0,1,1] = .exit 0 := by kernel_rfl
theorem e48 {M : Mem} : finish Try.prog Try.f48 #[g0,g1,g2,g3,g4,g5,g6,g7,g8,g9,g10,g11,g12,g13,g14,g15,g16,g17,g18,g19,g20,g21,g22,g23,g24,g25,g26,g27,g28,g29,g30,g31,g32,g33,g34,g35,g36,g37,g38,g39,g40,g41,g42,g43,g44,g45,g46,g47,g48,g49,g50,g51,g52,g53,g54,g55,g56,g57,g58,g59,g60] M = some (.tuple #[], M) := by kernel_rfl
noncomputable def S48_1 : List Item := [.code (P48 [1,0,0]), .inLoop (P48 [1,0,0]), .inBlock 0]
def A48_1 (x0 : Option Addr) (x1 x6 : Int) (M : Mem) (Q : Value → Mem → Prop) : Prop := ∀ (g2 g3 g4 g5 g7 g8 g9 g10 g11 g12 g13 g14 g15 g16 g17 g18 g19 g20 g21 g22 g23 g24 g25 g26 g27 g28 g29 g30 g31 g32 g33 g34 g35 g36 g37 g38 g39 g40 g41 g42 g43 g44 g45 g46 g47 g48 g49 g50 g51 g52 g53 g54 g55 g56 g57 g58 g59 g60 : Value), Rn Try.prog Try.f48 S48_1 #[.pointer x0, .int .u64 x1, g2, g3, g4, g5, .int .i64 x6, g7, g8, g9, g10, g11, g12, g13, g14, g15, g16, g17, g18, g19, g20, g21, g22, g23, g24, g25, g26, g27, g28, g29, g30, g31, g32, g33, g34, g35, g36, g37, g38, g39, g40, g41, g42, g43, g44, g45, g46, g47, g48, g49, g50, g51, g52, g53, g54, g55, g56, g57, g58, g59, g60] M Q
theorem w48_0 {x0 : Option Addr} {x1 x2 : Int} {M : Mem} {Q : Value → Mem → Prop} (H :
    A48_1 x0 x1 (IntKind.i64.wrap (x2 - 1)) M Q) :
    Cn Try.prog 48 #[.pointer x0, .int .u64 x1, .int .i64 x2] M Q := by
  refine Cn.of b48 d48 t48 ?_
  refine Rn.seq k48_0 (Rn.region k48_1 (fun call K => r48_0) (Rch.leaf (Rn.block k48_2 (Rn.loop k48_3 ?_))))
  exact H _ _ _ _ _ _ _ _ _ _ _ _ _ _ _ _ _ _ _ _ _ _ _ _ _ _ _ _ _ _ _ _ _ _ _ _ _ _ _ _ _ _ _ _ _ _ _ _ _ _ _ _ _ _ _ _ _ _

theorem w48_1 {x0 : Option Addr} {x1 x6 : Int} {M : Mem} {Q : Value → Mem → Prop} (H :
    ((x6 ≥ 0 →
     ∃ a1', x0 = some a1' ∧
     ∃ x2', M.intAt .i64 a1'.block (a1'.off + 1) = some x2' ∧
     ((x2' = 0 →
      ∃ a3', x0 = some a3' ∧
      ∃ s4', M.slAt a3'.block a3'.off = some s4' ∧
      ∃ r5', appendP Try.prog #[24, 24] (.slice s4'.1 (s4'.2.1) (s4'.2.2)) (.slice (some ⟨2 * M.nb.size, 0, none⟩) 1 1) (M.new (.cells #[.int .u8 0] 5)) = some r5' ∧
      ∃ s6', asS r5'.1 = some s6' ∧
      ∃ a7', x0 = some a7' ∧
      ∃ M8', r5'.2.put a7'.block a7'.off (.slice s6'.1 (s6'.2.1) (s6'.2.2)) = some M8' ∧
      ∃ a9', x0 = some a9' ∧
      ∃ M10', M8'.put a9'.block (a9'.off + 1) (.int .i64 8) = some M10' ∧
      ∃ a11', x0 = some a11' ∧
      ∃ x12', M10'.intAt .i64 a11'.block (a11'.off + 1) = some x12' ∧
      ∃ a13', x0 = some a13' ∧
      ∃ M14', M10'.put a13'.block (a13'.off + 1) (.int .i64 (IntKind.i64.wrap (x12' - 1))) = some M14' ∧
      ∃ a15', x0 = some a15' ∧
      ∃ s16', M14'.slAt a15'.block a15'.off = some s16' ∧
      ∃ a17', x0 = some a17' ∧
      ∃ s18', M14'.slAt a17'.block a17'.off = some s18' ∧
      ∃ a19', idxA s16'.1 (s16'.2.1) 1 (IntKind.i64.wrap (((s18'.2.1 : Int)) - 1)) = some a19' ∧
      ∃ x20', M14'.intAt .u8 a19'.block a19'.off = some x20' ∧
      ∃ v21', binV Try.prog .shr 86 3 (.int .u64 x1) (.int .i64 x6) = some v21' ∧
      ∃ x22', asI .u64 v21' = some x22' ∧
      ∃ a23', x0 = some a23' ∧
      ∃ x24', M14'.intAt .i64 a23'.block (a23'.off + 1) = some x24' ∧
      ∃ v25', binV Try.prog .shl 5 3 (.int .u8 (IntKind.u8.wrap (IntKind.u64.wrap (((BitVec.ofInt (IntKind.bits .u64) x22' &&& BitVec.ofInt (IntKind.bits .u64) 1).toNat : Int))))) (.int .i64 x24') = some v25' ∧
      ∃ x26', asI .u8 v25' = some x26' ∧
      ∃ a27', idxA s16'.1 (s16'.2.1) 1 (IntKind.i64.wrap (((s18'.2.1 : Int)) - 1)) = some a27' ∧
      ∃ M28', M14'.put a27'.block a27'.off (.int .u8 (IntKind.u8.wrap (((BitVec.ofInt (IntKind.bits .u8) x20' ||| BitVec.ofInt (IntKind.bits .u8) x26').toNat : Int)))) = some M28' ∧
      A48_1 x0 x1 (IntKind.i64.wrap (x6 - 1)) M28' Q) ∧
      (x2' ≠ 0 →
      ∃ a29', x0 = some a29' ∧
      ∃ x30', M.intAt .i64 a29'.block (a29'.off + 1) = some x30' ∧
      ∃ a31', x0 = some a31' ∧
      ∃ M32', M.put a31'.block (a31'.off + 1) (.int .i64 (IntKind.i64.wrap (x30' - 1))) = some M32' ∧
      ∃ a33', x0 = some a33' ∧
      ∃ s34', M32'.slAt a33'.block a33'.off = some s34' ∧
      ∃ a35', x0 = some a35' ∧
      ∃ s36', M32'.slAt a35'.block a35'.off = some s36' ∧
      ∃ a37', idxA s34'.1 (s34'.2.1) 1 (IntKind.i64.wrap (((s36'.2.1 : Int)) - 1)) = some a37' ∧
      ∃ x38', M32'.intAt .u8 a37'.block a37'.off = some x38' ∧
      ∃ v39', binV Try.prog .shr 86 3 (.int .u64 x1) (.int .i64 x6) = some v39' ∧
      ∃ x40', asI .u64 v39' = some x40' ∧
      ∃ a41', x0 = some a41' ∧
      ∃ x42', M32'.intAt .i64 a41'.block (a41'.off + 1) = some x42' ∧
      ∃ v43', binV Try.prog .shl 5 3 (.int .u8 (IntKind.u8.wrap (IntKind.u64.wrap (((BitVec.ofInt (IntKind.bits .u64) x40' &&& BitVec.ofInt (IntKind.bits .u64) 1).toNat : Int))))) (.int .i64 x42') = some v43' ∧
      ∃ x44', asI .u8 v43' = some x44' ∧
      ∃ a45', idxA s34'.1 (s34'.2.1) 1 (IntKind.i64.wrap (((s36'.2.1 : Int)) - 1)) = some a45' ∧
      ∃ M46', M32'.put a45'.block a45'.off (.int .u8 (IntKind.u8.wrap (((BitVec.ofInt (IntKind.bits .u8) x38' ||| BitVec.ofInt (IntKind.bits .u8) x44').toNat : Int)))) = some M46' ∧
      A48_1 x0 x1 (IntKind.i64.wrap (x6 - 1)) M46' Q))) ∧
     (¬ (x6 ≥ 0) →
     Q (.tuple #[]) M))) :
    A48_1 x0 x1 x6 M Q := by
  intro g2 g3 g4 g5 g7 g8 g9 g10 g11 g12 g13 g14 g15 g16 g17 g18 g19 g20 g21 g22 g23 g24 g25 g26 g27 g28 g29 g30 g31 g32 g33 g34 g35 g36 g37 g38 g39 g40 g41 g42 g43 g44 g45 g46 g47 g48 g49 g50 g51 g52 g53 g54 g55 g56 g57 g58 g59 g60
  refine Rn.seq k48_4 (Rn.seq k48_5 (Rn.region k48_6 (fun call K => r48_1) (Rch.leaf ?_)))
  refine Rn.cnd (v := decide (x6 ≥ 0)) ⟨c48_7, rfl, by kernel_rfl⟩ (fun h => ?_) (fun h => ?_)
  · replace H := H.1 (of_decide_eq_true h)
    refine Rn.skip k48_8 (Rn.seq k48_9 (Rn.block k48_10 (Rn.seq k48_11 (Rn.seq k48_12 (Rn.region k48_13 (fun call K => r48_3) (Rch.ex H fun a1' H => Rch.ex H fun x2' H => Rch.leaf ?_))))))
    refine Rn.cnd (v := x2' == 0) ⟨c48_14, rfl, by kernel_rfl⟩ (fun h => ?_) (fun h => ?_)
    · replace H := H.1 (eq_of_beq h)
      refine Rn.seq k48_15 (Rn.region k48_16 (fun call K => r48_4) (Rch.ex H fun a3' H => Rch.ex H fun s4' H => Rch.ex H fun r5' H => Rch.ex H fun s6' H => Rch.ex H fun a7' H => Rch.ex H fun M8' H => Rch.leaf (Rn.region k48_17 (fun call K => r48_5) (Rch.ex H fun a9' H => Rch.ex H fun M10' H => ?_))))
      refine Rch.leaf (Rn.seq k48_18 (Rn.region k48_19 (fun call K => r48_6) (Rch.ex H fun a11' H => Rch.ex H fun x12' H => Rch.ex H fun a13' H => Rch.ex H fun M14' H => Rch.leaf (Rn.regionD k48_20 (fun call K => r48_7) (Rch.ex H fun a15' H => Rch.ex H fun s16' H => Rch.ex H fun a17' H => ?_)))))
      refine Rch.ex H fun s18' H => Rch.ex H fun a19' H => Rch.ex H fun x20' H => Rch.ex H fun v21' H => Rch.ex H fun x22' H => Rch.ex H fun a23' H => Rch.ex H fun x24' H => Rch.ex H fun v25' H => Rch.ex H fun x26' H => Rch.ex H fun a27' H => Rch.ex H fun M28' H => Rch.leaf ?_
      refine Rn.blk (Rn.region k48_21 (fun call K => r48_2) (Rch.leaf (Rn.lp ?_)))
      exact H _ _ _ _ _ _ _ _ _ _ _ _ _ _ _ _ _ _ _ _ _ _ _ _ _ _ _ _ _ _ _ _ _ _ _ _ _ _ _ _ _ _ _ _ _ _ _ _ _ _ _ _ _ _ _ _ _ _
    · replace H := H.2 (ne_of_beq_false h)
      refine Rn.skip k48_22 (Rn.seq k48_18 (Rn.region k48_19 (fun call K => r48_6) (Rch.ex H fun a29' H => Rch.ex H fun x30' H => Rch.ex H fun a31' H => Rch.ex H fun M32' H => Rch.leaf (Rn.regionD k48_20 (fun call K => r48_7) (Rch.ex H fun a33' H => Rch.ex H fun s34' H => Rch.ex H fun a35' H => ?_)))))
      refine Rch.ex H fun s36' H => Rch.ex H fun a37' H => Rch.ex H fun x38' H => Rch.ex H fun v39' H => Rch.ex H fun x40' H => Rch.ex H fun a41' H => Rch.ex H fun x42' H => Rch.ex H fun v43' H => Rch.ex H fun x44' H => Rch.ex H fun a45' H => Rch.ex H fun M46' H => Rch.leaf ?_
      refine Rn.blk (Rn.region k48_21 (fun call K => r48_2) (Rch.leaf (Rn.lp ?_)))
      exact H _ _ _ _ _ _ _ _ _ _ _ _ _ _ _ _ _ _ _ _ _ _ _ _ _ _ _ _ _ _ _ _ _ _ _ _ _ _ _ _ _ _ _ _ _ _ _ _ _ _ _ _ _ _ _ _ _ _
  · replace H := H.2 (of_decide_eq_false h)
    refine Rn.exit k48_23 rfl ?_
    exact Rn.fin e48 H


/-! ### (*zoetrope/bits.Writer).Fixed: function 22 -/
noncomputable abbrev P22 (p : List Nat) : Code := subC (codeOf Try.f22) p
noncomputable abbrev O22 (p : List Nat) : Array Oper := opsOf (subC (codeOf Try.f22) p)
theorem b22 : Try.prog.funcs[22]? = some Try.f22 ∧ (Orc.tab Try.prog).lookup 22 = none := ⟨by kernel_rfl, by kernel_rfl⟩
theorem d22 : Try.f22.body = some (P22 []) := by kernel_rfl
theorem t22 {x0 : Option Addr} {x1 x2 : Int} : #[.pointer x0,.int .u32 x1,.int .i64 x2] ++ Array.replicate (Try.f22.ntmps - (#[.pointer x0,.int .u32 x1,.int .i64 x2] : Array Value).size) undef = #[.pointer x0,.int .u32 x1,.int .i64 x2,undef,undef,undef,undef,undef,undef,undef,undef,undef,undef,undef,undef,undef,undef,undef,undef,undef,undef,undef,undef,undef,undef,undef,undef,undef,undef] := by kernel_rfl
theorem k22_0 : P22 [] = .seq (P22 [0]) (P22 [1]) := by kernel_rfl
theorem k22_1 : P22 [0] = .region 0 (O22 [0]) false := by kernel_rfl
theorem r22_0 {M : Mem} {call : CallM} {K : Array Value → Mem → R} :
    opsK Try.prog (fun _ => call) (O22 [0]) (O22 [0]).toList 0 #[g0,g1,g2,g3,g4,g5,g6,g7,g8,g9,g10,g11,g12,g13,g14,g15,g16,g17,g18,g19,g20,g21,g22,g23,g24,g25,g26,g27,g28] M K = K #[g0,g1,g2,g3,g4,g5,.int .i64 0,g7,g8,g9,g10,g11,g12,g13,g14,g15,g16,g17,g18,g19,g20,g21,g22,g23,g24,g25,g26,g27,g28] M := by kernel_rfl
theorem k22_2 : P22 [1] = .seq (P22 [1,0]) (P22 [1,1]) := by kernel_rfl
theorem k22_3 : P22 [1,0] = .block 0 (P22 [1,0,0]) := by kernel_rfl
theorem k22_4 : P22 [1,0,0] = .seq (P22 [1,0,0,0]) (P22 [1,0,0,1]) := by kernel_rfl
theorem k22_5 : P22 [1,0,0,0] = .region 1 (O22 [1,0,0,0]) false := by kernel_rfl
theorem r22_1 {x0 : Option Addr} {M : Mem} {call : CallM} {K : Array Value → Mem → R} :
    opsK Try.prog (fun _ => call) (O22 [1,0,0,0]) (O22 [1,0,0,0]).toList 0 #[.pointer x0,g1,g2,g3,g4,g5,g6,g7,g8,g9,g10,g11,g12,g13,g14,g15,g16,g17,g18,g19,g20,g21,g22,g23,g24,g25,g26,g27,g28] M K = (call 46 #[.pointer x0] M).bind fun r_1 => (asB r_1.1).bind fun b_2 => K #[.pointer x0,g1,g2,g3,g4,g5,g6,.bool (!b_2),.pointer x0,.bool b_2,.bool (!b_2),g11,g12,g13,g14,g15,g16,g17,g18,g19,g20,g21,g22,g23,g24,g25,g26,g27,g28] r_1.2 := by kernel_rfl
theorem c22_6 : P22 [1,0,0,1] = .cond (.tmp 7) (P22 [1,0,0,1,0]) (P22 [1,0,0,1,1]) := by kernel_rfl
theorem k22_7 : P22 [1,0,0,1,0] = .seq (P22 [1,0,0,1,0,0]) (P22 [1,0,0,1,0,1]) := by kernel_rfl
theorem k22_8 : P22 [1,0,0,1,0,0] = .region 2 (O22 [1,0,0,1,0,0]) false := by kernel_rfl
theorem r22_2 {M : Mem} {call : CallM} {K : Array Value → Mem → R} :
    opsK Try.prog (fun _ => call) (O22 [1,0,0,1,0,0]) (O22 [1,0,0,1,0,0]).toList 0 #[g0,g1,g2,g3,g4,g5,g6,g7,g8,g9,g10,g11,g12,g13,g14,g15,g16,g17,g18,g19,g20,g21,g22,g23,g24,g25,g26,g27,g28] M K = K #[g0,g1,g2,g3,g4,g5,.int .i64 1,g7,g8,g9,g10,g11,g12,g13,g14,g15,g16,g17,g18,g19,g20,g21,g22,g23,g24,g25,g26,g27,g28] M := by kernel_rfl
theorem k22_9 : P22 [1,0,0,1,0,1] = .ret := by kernel_rfl
theorem e22 {M : Mem} : finish Try.prog Try.f22 #[g0,g1,g2,g3,g4,g5,g6,g7,g8,g9,g10,g11,g12,g13,g14,g15,g16,g17,g18,g19,g20,g21,g22,g23,g24,g25,g26,g27,g28] M = some (g6, M) := by kernel_rfl
theorem k22_11 : P22 [1,0,0,1,1] = .seq (P22 [1,0,0,1,1,0]) (P22 [1,0,0,1,1,1]) := by kernel_rfl
theorem k22_12 : P22 [1,0,0,1,1,0] = .region 3 (O22 [1,0,0,1,1,0]) false := by kernel_rfl
theorem r22_3 {x1 x2 : Int} {M : Mem} {call : CallM} {K : Array Value → Mem → R} :
    opsK Try.prog (fun _ => call) (O22 [1,0,0,1,1,0]) (O22 [1,0,0,1,1,0]).toList 0 #[g0,.int .u32 x1,.int .i64 x2,g3,g4,g5,g6,g7,g8,g9,g10,g11,g12,g13,g14,g15,g16,g17,g18,g19,g20,g21,g22,g23,g24,g25,g26,g27,g28] M K = withK (fun w11 w14 w15 w16 w17 w18 w19 w20 w21 w22 w23 M => K #[g0,.int .u32 x1,.int .i64 x2,g3,g4,g5,g6,g7,g8,g9,g10,w11,.int .i64 x2,.bool (decide (x2 < 0)),w14,w15,w16,w17,w18,w19,w20,w21,w22,w23,g24,g25,g26,g27,g28] M) fun k => cond (decide (x2 < 0)) (k (.bool true) (.bool true) undef undef (.bool true) (.bool true) undef undef undef undef (.bool true) M) (cond (decide (x2 > 32)) (k (.bool true) (.bool false) (.int .i64 x2) (.bool (decide (x2 > 32))) (.bool (decide (x2 > 32))) (.bool true) undef undef undef undef (.bool true) M) ((call 47 #[.int .u32 x1] M).bind fun r_1 => (asI .i64 r_1.1).bind fun x_2 => k (.bool (decide (x_2 > x2))) (.bool false) (.int .i64 x2) (.bool (decide (x2 > 32))) (.bool (decide (x2 > 32))) (.bool false) (.int .u32 x1) (.int .i64 x_2) (.int .i64 x2) (.bool (decide (x_2 > x2))) (.bool (decide (x_2 > x2))) r_1.2)) := by kernel_rfl
theorem c22_13 : P22 [1,0,0,1,1,1] = .cond (.tmp 11) (P22 [1,0,0,1,1,1,0]) (P22 [1,0,0,1,1,1,1]) := by kernel_rfl
theorem k22_14 : P22 [1,0,0,1,1,1,0] = .seq (P22 [1,0,0,1,1,1,0,0]) (P22 [1,0,0,1,1,1,0,1]) := by kernel_rfl
theorem k22_15 : P22 [1,0,0,1,1,1,0,0] = .region 4 (O22 [1,0,0,1,1,1,0,0]) false := by kernel_rfl
theorem r22_4 {M : Mem} {call : CallM} {K : Array Value → Mem → R} :
    opsK Try.prog (fun _ => call) (O22 [1,0,0,1,1,1,0,0]) (O22 [1,0,0,1,1,1,0,0]).toList 0 #[g0,g1,g2,g3,g4,g5,g6,g7,g8,g9,g10,g11,g12,g13,g14,g15,g16,g17,g18,g19,g20,g21,g22,g23,g24,g25,g26,g27,g28] M K = K #[g0,g1,g2,g3,g4,g5,.int .i64 2,g7,g8,g9,g10,g11,g12,g13,g14,g15,g16,g17,g18,g19,g20,g21,g22,g23,g24,g25,g26,g27,g28] M := by kernel_rfl
theorem k22_16 : P22 [1,0,0,1,1,1,0,1] = .ret := by kernel_rfl
theorem k22_17 : P22 [1,0,0,1,1,1,1] = .skip := by kernel_rfl
theorem k22_18 : P22 [1,1] = .seq (P22 [1,1,0]) (P22 [1,1,1]) := by kernel_rfl
theorem k22_19 : P22 [1,1,0] = .region 5 (O22 [1,1,0]) false := by kernel_rfl
theorem r22_5 {x0 : Option Addr} {x1 x2 : Int} {M : Mem} {call : CallM} {K : Array Value → Mem → R} :
    opsK Try.prog (fun _ => call) (O22 [1,1,0]) (O22 [1,1,0]).toList 0 #[.pointer x0,.int .u32 x1,.int .i64 x2,g3,g4,g5,g6,g7,g8,g9,g10,g11,g12,g13,g14,g15,g16,g17,g18,g19,g20,g21,g22,g23,g24,g25,g26,g27,g28] M K = (call 48 #[.pointer x0, .int .u64 (IntKind.u64.wrap (x1)), .int .i64 x2] M).bind fun r_1 => K #[.pointer x0,.int .u32 x1,.int .i64 x2,g3,g4,g5,g6,g7,g8,g9,g10,g11,g12,g13,g14,g15,g16,g17,g18,g19,g20,g21,g22,g23,.pointer x0,.int .u32 x1,.int .u64 (IntKind.u64.wrap (x1)),.int .i64 x2,r_1.1] r_1.2 := by kernel_rfl
theorem k22_20 : P22 [1,1,1] = .seq (P22 [1,1,1,0]) (P22 [1,1,1,1]) := by kernel_rfl
theorem k22_21 : P22 [1,1,1,0] = .region 6 (O22 [1,1,1,0]) false := by kernel_rfl
theorem r22_6 {M : Mem} {call : CallM} {K : Array Value → Mem → R} :
    opsK Try.prog (fun _ => call) (O22 [1,1,1,0]) (O22 [1,1,1,0]).toList 0 #[g0,g1,g2,g3,g4,g5,g6,g7,g8,g9,g10,g11,g12,g13,g14,g15,g16,g17,g18,g19,g20,g21,g22,g23,g24,g25,g26,g27,g28] M K = K #[g0,g1,g2,g3,g4,g5,.int .i64 0,g7,g8,g9,g10,g11,g12,g13,g14,g15,g16,g17,g18,g19,g20,g21,g22,g23,g24,g25,g26,g27,g28] M := by kernel_rfl
theorem k22_22 : P22 [1,1,1,1] = .ret := by kernel_rfl
noncomputable def S22_1 : List Item := [.code (P22 [1,0,0,1,1,1]), .inBlock 0, .code (P22 [1,1])]
def A22_1 (x0 : Option Addr) (x1 x2 : Int) (x11 : Bool) (M : Mem) (Q : Value → Mem → Prop) : Prop := ∀ (g3 g4 g5 g6 g7 g8 g9 g10 g12 g13 g14 g15 g16 g17 g18 g19 g20 g21 g22 g23 g24 g25 g26 g27 g28 : Value), Rn Try.prog Try.f22 S22_1 #[.pointer x0, .int .u32 x1, .int .i64 x2, g3, g4, g5, g6, g7, g8, g9, g10, .bool x11, g12, g13, g14, g15, g16, g17, g18, g19, g20, g21, g22, g23, g24, g25, g26, g27, g28] M Q
theorem w22_0 {x0 : Option Addr} {x1 x2 : Int} {M : Mem} {Q : Value → Mem → Prop} (H :
    Cn Try.prog 46 #[.pointer x0] M fun v1' N1' =>
     ∃ b2', asB v1' = some b2' ∧
     (((!b2') = true →
      Q (.int .i64 1) N1') ∧
      ((!b2') = false →
      ((x2 < 0 →
       A22_1 x0 x1 x2 true N1' Q) ∧
       (¬ (x2 < 0) →
       ((x2 > 32 →
        A22_1 x0 x1 x2 true N1' Q) ∧
        (¬ (x2 > 32) →
        Cn Try.prog 47 #[.int .u32 x1] N1' fun v3' N3' =>
         ∃ x4', asI .i64 v3' = some x4' ∧
         A22_1 x0 x1 x2 (decide (x4' > x2)) N3' Q))))))) :
    Cn Try.prog 22 #[.pointer x0, .int .u32 x1, .int .i64 x2] M Q := by
  refine Cn.of b22 d22 t22 ?_
  refine Rn.seq k22_0 (Rn.region k22_1 (fun call K => r22_0) (Rch.leaf (Rn.seq k22_2 (Rn.block k22_3 (Rn.seq k22_4 (Rn.region k22_5 (fun call K => r22_1) (Rch.call H fun v1' N1' H => Rch.ex H fun b2' H => Rch.leaf ?_)))))))
  refine Rn.cnd (v := !b2') ⟨c22_6, rfl, by kernel_rfl⟩ (fun h => ?_) (fun h => ?_)
  · replace H := H.1 (h)
    refine Rn.seq k22_7 (Rn.region k22_8 (fun call K => r22_2) (Rch.leaf ?_))
    exact Rn.ret k22_9 e22 H
  · replace H := H.2 (h)
    refine Rn.seq k22_11 (Rn.region k22_12 (fun call K => r22_3) ?_)
    refine Rch.cB (fun h => ?_) (fun h => ?_)
    · replace H := H.1 (of_decide_eq_true h)
      refine Rch.leaf ?_
      exact H _ _ _ _ _ _ _ _ _ _ _ _ _ _ _ _ _ _ _ _ _ _ _ _ _
    · replace H := H.2 (of_decide_eq_false h)
      refine Rch.cB (fun h => ?_) (fun h => ?_)
      · replace H := H.1 (of_decide_eq_true h)
        refine Rch.leaf ?_
        exact H _ _ _ _ _ _ _ _ _ _ _ _ _ _ _ _ _ _ _ _ _ _ _ _ _
      · replace H := H.2 (of_decide_eq_false h)
        refine Rch.call H fun v3' N3' H => Rch.ex H fun x4' H => Rch.leaf ?_
        exact H _ _ _ _ _ _ _ _ _ _ _ _ _ _ _ _ _ _ _ _ _ _ _ _ _

theorem w22_1 {x0 : Option Addr} {x1 x2 : Int} {x11 : Bool} {M : Mem} {Q : Value → Mem → Prop} (H :
    ((x11 = true →
     Q (.int .i64 2) M) ∧
     (x11 = false →
     Cn Try.prog 48 #[.pointer x0, .int .u64 (IntKind.u64.wrap (x1)), .int .i64 x2] M fun v5' N5' =>
      Q (.int .i64 0) N5'))) :
    A22_1 x0 x1 x2 x11 M Q := by
  intro g3 g4 g5 g6 g7 g8 g9 g10 g12 g13 g14 g15 g16 g17 g18 g19 g20 g21 g22 g23 g24 g25 g26 g27 g28
  refine Rn.cnd (v := x11) ⟨c22_13, rfl, by kernel_rfl⟩ (fun h => ?_) (fun h => ?_)
  · replace H := H.1 (h)
    refine Rn.seq k22_14 (Rn.region k22_15 (fun call K => r22_4) (Rch.leaf ?_))
    exact Rn.ret k22_16 e22 H
  · replace H := H.2 (h)
    refine Rn.skip k22_17 (Rn.blk (Rn.seq k22_18 (Rn.region k22_19 (fun call K => r22_5) (Rch.call H fun v5' N5' H => Rch.leaf (Rn.seq k22_20 (Rn.region k22_21 (fun call K => r22_6) (Rch.leaf ?_)))))))
    exact Rn.ret k22_22 e22 H


/-! ### (*zoetrope/bits.Writer).Signed: function 43 -/
noncomputable abbrev P43 (p : List Nat) : Code := subC (codeOf Try.f43) p
noncomputable abbrev O43 (p : List Nat) : Array Oper := opsOf (subC (codeOf Try.f43) p)
theorem b43 : Try.prog.funcs[43]? = some Try.f43 ∧ (Orc.tab Try.prog).lookup 43 = none := ⟨by kernel_rfl, by kernel_rfl⟩
theorem d43 : Try.f43.body = some (P43 []) := by kernel_rfl
theorem t43 {x0 : Option Addr} {x1 x2 : Int} : #[.pointer x0,.int .i32 x1,.int .i64 x2] ++ Array.replicate (Try.f43.ntmps - (#[.pointer x0,.int .i32 x1,.int .i64 x2] : Array Value).size) undef = #[.pointer x0,.int .i32 x1,.int .i64 x2,undef,undef,undef,undef,undef,undef,undef,undef,undef,undef,undef,undef,undef,undef,undef,undef,undef,undef,undef,undef,undef,undef,undef,undef,undef,undef,undef,undef,undef,undef,undef,undef,undef,undef,undef,undef,undef,undef] := by kernel_rfl
theorem k43_0 : P43 [] = .seq (P43 [0]) (P43 [1]) := by kernel_rfl
theorem k43_1 : P43 [0] = .region 0 (O43 [0]) false := by kernel_rfl
theorem r43_0 {M : Mem} {call : CallM} {K : Array Value → Mem → R} :
    opsK Try.prog (fun _ => call) (O43 [0]) (O43 [0]).toList 0 #[g0,g1,g2,g3,g4,g5,g6,g7,g8,g9,g10,g11,g12,g13,g14,g15,g16,g17,g18,g19,g20,g21,g22,g23,g24,g25,g26,g27,g28,g29,g30,g31,g32,g33,g34,g35,g36,g37,g38,g39,g40] M K = K #[g0,g1,g2,g3,g4,g5,.int .i64 0,g7,g8,g9,g10,g11,g12,g13,g14,g15,g16,g17,g18,g19,g20,g21,g22,g23,g24,g25,g26,g27,g28,g29,g30,g31,g32,g33,g34,g35,g36,g37,g38,g39,g40] M := by kernel_rfl
theorem k43_2 : P43 [1] = .seq (P43 [1,0]) (P43 [1,1]) := by kernel_rfl
theorem k43_3 : P43 [1,0] = .seq (P43 [1,0,0]) (P43 [1,0,1]) := by kernel_rfl
theorem k43_4 : P43 [1,0,0] = .region 1 (O43 [1,0,0]) false := by kernel_rfl
theorem r43_1 {x0 : Option Addr} {M : Mem} {call : CallM} {K : Array Value → Mem → R} :
    opsK Try.prog (fun _ => call) (O43 [1,0,0]) (O43 [1,0,0]).toList 0 #[.pointer x0,g1,g2,g3,g4,g5,g6,g7,g8,g9,g10,g11,g12,g13,g14,g15,g16,g17,g18,g19,g20,g21,g22,g23,g24,g25,g26,g27,g28,g29,g30,g31,g32,g33,g34,g35,g36,g37,g38,g39,g40] M K = (call 46 #[.pointer x0] M).bind fun r_1 => (asB r_1.1).bind fun b_2 => K #[.pointer x0,g1,g2,g3,g4,g5,g6,g7,g8,.pointer x0,.bool b_2,.bool (!b_2),g12,g13,g14,g15,g16,g17,g18,g19,g20,g21,g22,g23,g24,g25,g26,g27,g28,g29,g30,g31,g32,g33,g34,g35,g36,g37,g38,g39,g40] r_1.2 := by kernel_rfl
theorem c43_5 : P43 [1,0,1] = .cond (.tmp 11) (P43 [1,0,1,0]) (P43 [1,0,1,1]) := by kernel_rfl
theorem k43_6 : P43 [1,0,1,0] = .seq (P43 [1,0,1,0,0]) (P43 [1,0,1,0,1]) := by kernel_rfl
theorem k43_7 : P43 [1,0,1,0,0] = .region 2 (O43 [1,0,1,0,0]) false := by kernel_rfl
theorem r43_2 {M : Mem} {call : CallM} {K : Array Value → Mem → R} :
    opsK Try.prog (fun _ => call) (O43 [1,0,1,0,0]) (O43 [1,0,1,0,0]).toList 0 #[g0,g1,g2,g3,g4,g5,g6,g7,g8,g9,g10,g11,g12,g13,g14,g15,g16,g17,g18,g19,g20,g21,g22,g23,g24,g25,g26,g27,g28,g29,g30,g31,g32,g33,g34,g35,g36,g37,g38,g39,g40] M K = K #[g0,g1,g2,g3,g4,g5,.int .i64 1,g7,g8,g9,g10,g11,g12,g13,g14,g15,g16,g17,g18,g19,g20,g21,g22,g23,g24,g25,g26,g27,g28,g29,g30,g31,g32,g33,g34,g35,g36,g37,g38,g39,g40] M := by kernel_rfl
theorem k43_8 : P43 [1,0,1,0,1] = .ret := by kernel_rfl
theorem e43 {M : Mem} : finish Try.prog Try.f43 #[g0,g1,g2,g3,g4,g5,g6,g7,g8,g9,g10,g11,g12,g13,g14,g15,g16,g17,g18,g19,g20,g21,g22,g23,g24,g25,g26,g27,g28,g29,g30,g31,g32,g33,g34,g35,g36,g37,g38,g39,g40] M = some (g6, M) := by kernel_rfl
theorem k43_10 : P43 [1,0,1,1] = .skip := by kernel_rfl
theorem k43_11 : P43 [1,1] = .seq (P43 [1,1,0]) (P43 [1,1,1]) := by kernel_rfl
theorem k43_12 : P43 [1,1,0] = .region 3 (O43 [1,1,0]) false := by kernel_rfl
theorem r43_3 {x1 : Int} {M : Mem} {call : CallM} {K : Array Value → Mem → R} :
    opsK Try.prog (fun _ => call) (O43 [1,1,0]) (O43 [1,1,0]).toList 0 #[g0,.int .i32 x1,g2,g3,g4,g5,g6,g7,g8,g9,g10,g11,g12,g13,g14,g15,g16,g17,g18,g19,g20,g21,g22,g23,g24,g25,g26,g27,g28,g29,g30,g31,g32,g33,g34,g35,g36,g37,g38,g39,g40] M K = K #[g0,.int .i32 x1,g2,g3,g4,g5,g6,.int .u64 (IntKind.u64.wrap (x1)),.int .u64 0,g9,g10,g11,.int .i32 x1,.int .u64 (IntKind.u64.wrap (x1)),g14,g15,g16,g17,g18,g19,g20,g21,g22,g23,g24,g25,g26,g27,g28,g29,g30,g31,g32,g33,g34,g35,g36,g37,g38,g39,g40] M := by kernel_rfl
theorem k43_13 : P43 [1,1,1] = .seq (P43 [1,1,1,0]) (P43 [1,1,1,1]) := by kernel_rfl
theorem k43_14 : P43 [1,1,1,0] = .seq (P43 [1,1,1,0,0]) (P43 [1,1,1,0,1]) := by kernel_rfl
theorem k43_15 : P43 [1,1,1,0,0] = .region 4 (O43 [1,1,1,0,0]) false := by kernel_rfl
theorem r43_4 {x1 : Int} {M : Mem} {call : CallM} {K : Array Value → Mem → R} :
    opsK Try.prog (fun _ => call) (O43 [1,1,1,0,0]) (O43 [1,1,1,0,0]).toList 0 #[g0,.int .i32 x1,g2,g3,g4,g5,g6,g7,g8,g9,g10,g11,g12,g13,g14,g15,g16,g17,g18,g19,g20,g21,g22,g23,g24,g25,g26,g27,g28,g29,g30,g31,g32,g33,g34,g35,g36,g37,g38,g39,g40] M K = K #[g0,.int .i32 x1,g2,g3,g4,g5,g6,g7,g8,g9,g10,g11,g12,g13,.int .i32 x1,.bool (decide (x1 < 0)),g16,g17,g18,g19,g20,g21,g22,g23,g24,g25,g26,g27,g28,g29,g30,g31,g32,g33,g34,g35,g36,g37,g38,g39,g40] M := by kernel_rfl
theorem c43_16 : P43 [1,1,1,0,1] = .cond (.tmp 15) (P43 [1,1,1,0,1,0]) (P43 [1,1,1,0,1,1]) := by kernel_rfl
theorem k43_17 : P43 [1,1,1,0,1,0] = .region 5 (O43 [1,1,1,0,1,0]) false := by kernel_rfl
theorem r43_5 {x1 : Int} {M : Mem} {call : CallM} {K : Array Value → Mem → R} :
    opsK Try.prog (fun _ => call) (O43 [1,1,1,0,1,0]) (O43 [1,1,1,0,1,0]).toList 0 #[g0,.int .i32 x1,g2,g3,g4,g5,g6,g7,g8,g9,g10,g11,g12,g13,g14,g15,g16,g17,g18,g19,g20,g21,g22,g23,g24,g25,g26,g27,g28,g29,g30,g31,g32,g33,g34,g35,g36,g37,g38,g39,g40] M K = K #[g0,.int .i32 x1,g2,g3,g4,g5,g6,.int .u64 (IntKind.u64.wrap (IntKind.i64.wrap (0 - (IntKind.i64.wrap (x1))))),.int .u64 1,g9,g10,g11,g12,g13,g14,g15,.int .i32 x1,.int .i64 (IntKind.i64.wrap (x1)),.int .i64 (IntKind.i64.wrap (0 - (IntKind.i64.wrap (x1)))),.int .u64 (IntKind.u64.wrap (IntKind.i64.wrap (0 - (IntKind.i64.wrap (x1))))),g20,g21,g22,g23,g24,g25,g26,g27,g28,g29,g30,g31,g32,g33,g34,g35,g36,g37,g38,g39,g40] M := by kernel_rfl
theorem k43_18 : P43 [1,1,1,1] = .seq (P43 [1,1,1,1,0]) (P43 [1,1,1,1,1]) := by kernel_rfl
theorem k43_19 : P43 [1,1,1,1,0] = .seq (P43 [1,1,1,1,0,0]) (P43 [1,1,1,1,0,1]) := by kernel_rfl
theorem k43_20 : P43 [1,1,1,1,0,0] = .region 6 (O43 [1,1,1,1,0,0]) false := by kernel_rfl
theorem r43_6 {x2 x7 : Int} {M : Mem} {call : CallM} {K : Array Value → Mem → R} :
    opsK Try.prog (fun _ => call) (O43 [1,1,1,1,0,0]) (O43 [1,1,1,1,0,0]).toList 0 #[g0,g1,.int .i64 x2,g3,g4,g5,g6,.int .u64 x7,g8,g9,g10,g11,g12,g13,g14,g15,g16,g17,g18,g19,g20,g21,g22,g23,g24,g25,g26,g27,g28,g29,g30,g31,g32,g33,g34,g35,g36,g37,g38,g39,g40] M K = withK (fun w22 w23 w24 w25 w26 w27 w28 w29 w30 w31 M => K #[g0,g1,.int .i64 x2,g3,g4,g5,g6,.int .u64 x7,g8,g9,g10,g11,g12,g13,g14,g15,g16,g17,g18,g19,.int .i64 x2,.bool (decide (x2 < 1)),w22,w23,w24,w25,w26,w27,w28,w29,w30,w31,g32,g33,g34,g35,g36,g37,g38,g39,g40] M) fun k => cond (decide (x2 < 1)) (k (.bool true) undef undef (.bool true) (.bool true) undef undef undef undef (.bool true) M) (cond (decide (x2 > 31)) (k (.bool false) (.int .i64 x2) (.bool (decide (x2 > 31))) (.bool (decide (x2 > 31))) (.bool true) undef undef undef undef (.bool true) M) ((call 72 #[.int .u64 x7] M).bind fun r_1 => (asI .i64 r_1.1).bind fun x_2 => k (.bool false) (.int .i64 x2) (.bool (decide (x2 > 31))) (.bool (decide (x2 > 31))) (.bool false) (.int .u64 x7) (.int .i64 x_2) (.int .i64 x2) (.bool (decide (x_2 > x2))) (.bool (decide (x_2 > x2))) r_1.2)) := by kernel_rfl
theorem k43_21 : P43 [1,1,1,0,1,1] = .skip := by kernel_rfl
theorem c43_22 : P43 [1,1,1,1,0,1] = .cond (.tmp 31) (P43 [1,1,1,1,0,1,0]) (P43 [1,1,1,1,0,1,1]) := by kernel_rfl
theorem k43_23 : P43 [1,1,1,1,0,1,0] = .seq (P43 [1,1,1,1,0,1,0,0]) (P43 [1,1,1,1,0,1,0,1]) := by kernel_rfl
theorem k43_24 : P43 [1,1,1,1,0,1,0,0] = .region 7 (O43 [1,1,1,1,0,1,0,0]) false := by kernel_rfl
theorem r43_7 {M : Mem} {call : CallM} {K : Array Value → Mem → R} :
    opsK Try.prog (fun _ => call) (O43 [1,1,1,1,0,1,0,0]) (O43 [1,1,1,1,0,1,0,0]).toList 0 #[g0,g1,g2,g3,g4,g5,g6,g7,g8,g9,g10,g11,g12,g13,g14,g15,g16,g17,g18,g19,g20,g21,g22,g23,g24,g25,g26,g27,g28,g29,g30,g31,g32,g33,g34,g35,g36,g37,g38,g39,g40] M K = K #[g0,g1,g2,g3,g4,g5,.int .i64 2,g7,g8,g9,g10,g11,g12,g13,g14,g15,g16,g17,g18,g19,g20,g21,g22,g23,g24,g25,g26,g27,g28,g29,g30,g31,g32,g33,g34,g35,g36,g37,g38,g39,g40] M := by kernel_rfl
theorem k43_25 : P43 [1,1,1,1,0,1,0,1] = .ret := by kernel_rfl
theorem k43_26 : P43 [1,1,1,1,0,1,1] = .skip := by kernel_rfl
theorem k43_27 : P43 [1,1,1,1,1] = .seq (P43 [1,1,1,1,1,0]) (P43 [1,1,1,1,1,1]) := by kernel_rfl
theorem k43_28 : P43 [1,1,1,1,1,0] = .region 8 (O43 [1,1,1,1,1,0]) false := by kernel_rfl
theorem r43_8 {x0 : Option Addr} {x2 x7 x8 : Int} {M : Mem} {call : CallM} {K : Array Value → Mem → R} :
    opsK Try.prog (fun _ => call) (O43 [1,1,1,1,1,0]) (O43 [1,1,1,1,1,0]).toList 0 #[.pointer x0,g1,.int .i64 x2,g3,g4,g5,g6,.int .u64 x7,.int .u64 x8,g9,g10,g11,g12,g13,g14,g15,g16,g17,g18,g19,g20,g21,g22,g23,g24,g25,g26,g27,g28,g29,g30,g31,g32,g33,g34,g35,g36,g37,g38,g39,g40] M K = (binV Try.prog .shl 86 3 (.int .u64 x8) (.int .i64 x2)).bind fun v_1 => (asI .u64 v_1).bind fun x_2 => (call 48 #[.pointer x0, .int .u64 (IntKind.u64.wrap (((BitVec.ofInt (IntKind.bits .u64) x_2 ||| BitVec.ofInt (IntKind.bits .u64) x7).toNat : Int))), .int .i64 (IntKind.i64.wrap (x2 + 1))] M).bind fun r_3 => K #[.pointer x0,g1,.int .i64 x2,g3,g4,g5,g6,.int .u64 x7,.int .u64 x8,g9,g10,g11,g12,g13,g14,g15,g16,g17,g18,g19,g20,g21,g22,g23,g24,g25,g26,g27,g28,g29,g30,g31,.pointer x0,.int .u64 x8,.int .i64 x2,.int .u64 x_2,.int .u64 x7,.int .u64 (IntKind.u64.wrap (((BitVec.ofInt (IntKind.bits .u64) x_2 ||| BitVec.ofInt (IntKind.bits .u64) x7).toNat : Int))),.int .i64 x2,.int .i64 (IntKind.i64.wrap (x2 + 1)),r_3.1] r_3.2 := by kernel_rfl
theorem k43_29 : P43 [1,1,1,1,1,1] = .seq (P43 [1,1,1,1,1,1,0]) (P43 [1,1,1,1,1,1,1]) := by kernel_rfl
theorem k43_30 : P43 [1,1,1,1,1,1,0] = .region 9 (O43 [1,1,1,1,1,1,0]) false := by kernel_rfl
theorem r43_9 {M : Mem} {call : CallM} {K : Array Value → Mem → R} :
    opsK Try.prog (fun _ => call) (O43 [1,1,1,1,1,1,0]) (O43 [1,1,1,1,1,1,0]).toList 0 #[g0,g1,g2,g3,g4,g5,g6,g7,g8,g9,g10,g11,g12,g13,g14,g15,g16,g17,g18,g19,g20,g21,g22,g23,g24,g25,g26,g27,g28,g29,g30,g31,g32,g33,g34,g35,g36,g37,g38,g39,g40] M K = K #[g0,g1,g2,g3,g4,g5,.int .i64 0,g7,g8,g9,g10,g11,g12,g13,g14,g15,g16,g17,g18,g19,g20,g21,g22,g23,g24,g25,g26,g27,g28,g29,g30,g31,g32,g33,g34,g35,g36,g37,g38,g39,g40] M := by kernel_rfl
theorem k43_31 : P43 [1,1,1,1,1,1,1] = .ret := by kernel_rfl
noncomputable def S43_1 : List Item := [.code (P43 [1,1,1,1,0,1]), .code (P43 [1,1,1,1,1])]
def A43_1 (x0 : Option Addr) (x2 x7 x8 : Int) (x31 : Bool) (M : Mem) (Q : Value → Mem → Prop) : Prop := ∀ (g1 g3 g4 g5 g6 g9 g10 g11 g12 g13 g14 g15 g16 g17 g18 g19 g20 g21 g22 g23 g24 g25 g26 g27 g28 g29 g30 g32 g33 g34 g35 g36 g37 g38 g39 g40 : Value), Rn Try.prog Try.f43 S43_1 #[.pointer x0, g1, .int .i64 x2, g3, g4, g5, g6, .int .u64 x7, .int .u64 x8, g9, g10, g11, g12, g13, g14, g15, g16, g17, g18, g19, g20, g21, g22, g23, g24, g25, g26, g27, g28, g29, g30, .bool x31, g32, g33, g34, g35, g36, g37, g38, g39, g40] M Q
theorem w43_0 {x0 : Option Addr} {x1 x2 : Int} {M : Mem} {Q : Value → Mem → Prop} (H :
    Cn Try.prog 46 #[.pointer x0] M fun v1' N1' =>
     ∃ b2', asB v1' = some b2' ∧
     (((!b2') = true →
      Q (.int .i64 1) N1') ∧
      ((!b2') = false →
      ((x1 < 0 →
       ((x2 < 1 →
        A43_1 x0 x2 (IntKind.u64.wrap (IntKind.i64.wrap (0 - (IntKind.i64.wrap (x1))))) 1 true N1' Q) ∧
        (¬ (x2 < 1) →
        ((x2 > 31 →
         A43_1 x0 x2 (IntKind.u64.wrap (IntKind.i64.wrap (0 - (IntKind.i64.wrap (x1))))) 1 true N1' Q) ∧
         (¬ (x2 > 31) →
         Cn Try.prog 72 #[.int .u64 (IntKind.u64.wrap (IntKind.i64.wrap (0 - (IntKind.i64.wrap (x1)))))] N1' fun v3' N3' =>
          ∃ x4', asI .i64 v3' = some x4' ∧
          A43_1 x0 x2 (IntKind.u64.wrap (IntKind.i64.wrap (0 - (IntKind.i64.wrap (x1))))) 1 (decide (x4' > x2)) N3' Q))))) ∧
       (¬ (x1 < 0) →
       ((x2 < 1 →
        A43_1 x0 x2 (IntKind.u64.wrap (x1)) 0 true N1' Q) ∧
        (¬ (x2 < 1) →
        ((x2 > 31 →
         A43_1 x0 x2 (IntKind.u64.wrap (x1)) 0 true N1' Q) ∧
         (¬ (x2 > 31) →
         Cn Try.prog 72 #[.int .u64 (IntKind.u64.wrap (x1))] N1' fun v5' N5' =>
          ∃ x6', asI .i64 v5' = some x6' ∧
          A43_1 x0 x2 (IntKind.u64.wrap (x1)) 0 (decide (x6' > x2)) N5' Q))))))))) :
    Cn Try.prog 43 #[.pointer x0, .int .i32 x1, .int .i64 x2] M Q := by
  refine Cn.of b43 d43 t43 ?_
  refine Rn.seq k43_0 (Rn.region k43_1 (fun call K => r43_0) (Rch.leaf (Rn.seq k43_2 (Rn.seq k43_3 (Rn.region k43_4 (fun call K => r43_1) (Rch.call H fun v1' N1' H => Rch.ex H fun b2' H => Rch.leaf ?_))))))
  refine Rn.cnd (v := !b2') ⟨c43_5, rfl, by kernel_rfl⟩ (fun h => ?_) (fun h => ?_)
  · replace H := H.1 (h)
    refine Rn.seq k43_6 (Rn.region k43_7 (fun call K => r43_2) (Rch.leaf ?_))
    exact Rn.ret k43_8 e43 H
  · replace H := H.2 (h)
    refine Rn.skip k43_10 (Rn.seq k43_11 (Rn.region k43_12 (fun call K => r43_3) (Rch.leaf (Rn.seq k43_13 (Rn.seq k43_14 (Rn.region k43_15 (fun call K => r43_4) (Rch.leaf ?_)))))))
    refine Rn.cnd (v := decide (x1 < 0)) ⟨c43_16, rfl, by kernel_rfl⟩ (fun h => ?_) (fun h => ?_)
    · replace H := H.1 (of_decide_eq_true h)
      refine Rn.region k43_17 (fun call K => r43_5) (Rch.leaf (Rn.seq k43_18 (Rn.seq k43_19 (Rn.region k43_20 (fun call K => r43_6) ?_))))
      refine Rch.cB (fun h => ?_) (fun h => ?_)
      · replace H := H.1 (of_decide_eq_true h)
        refine Rch.leaf ?_
        exact H _ _ _ _ _ _ _ _ _ _ _ _ _ _ _ _ _ _ _ _ _ _ _ _ _ _ _ _ _ _ _ _ _ _ _ _
      · replace H := H.2 (of_decide_eq_false h)
        refine Rch.cB (fun h => ?_) (fun h => ?_)
        · replace H := H.1 (of_decide_eq_true h)
          refine Rch.leaf ?_
          exact H _ _ _ _ _ _ _ _ _ _ _ _ _ _ _ _ _ _ _ _ _ _ _ _ _ _ _ _ _ _ _ _ _ _ _ _
        · replace H := H.2 (of_decide_eq_false h)
          refine Rch.call H fun v3' N3' H => Rch.ex H fun x4' H => Rch.leaf ?_
          exact H _ _ _ _ _ _ _ _ _ _ _ _ _ _ _ _ _ _ _ _ _ _ _ _ _ _ _ _ _ _ _ _ _ _ _ _
    · replace H := H.2 (of_decide_eq_false h)
      refine Rn.skip k43_21 (Rn.seq k43_18 (Rn.seq k43_19 (Rn.region k43_20 (fun call K => r43_6) ?_)))
      refine Rch.cB (fun h => ?_) (fun h => ?_)
      · replace H := H.1 (of_decide_eq_true h)
        refine Rch.leaf ?_
        exact H _ _ _ _ _ _ _ _ _ _ _ _ _ _ _ _ _ _ _ _ _ _ _ _ _ _ _ _ _ _ _ _ _ _ _ _
      · replace H := H.2 (of_decide_eq_false h)
        refine Rch.cB (fun h => ?_) (fun h => ?_)
        · replace H := H.1 (of_decide_eq_true h)
          refine Rch.leaf ?_
          exact H _ _ _ _ _ _ _ _ _ _ _ _ _ _ _ _ _ _ _ _ _ _ _ _ _ _ _ _ _ _ _ _ _ _ _ _
        · replace H := H.2 (of_decide_eq_false h)
          refine Rch.call H fun v5' N5' H => Rch.ex H fun x6' H => Rch.leaf ?_
          exact H _ _ _ _ _ _ _ _ _ _ _ _ _ _ _ _ _ _ _ _ _ _ _ _ _ _ _ _ _ _ _ _ _ _ _ _

theorem w43_1 {x0 : Option Addr} {x2 x7 x8 : Int} {x31 : Bool} {M : Mem} {Q : Value → Mem → Prop} (H :
    ((x31 = true →
     Q (.int .i64 2) M) ∧
     (x31 = false →
     ∃ v7', binV Try.prog .shl 86 3 (.int .u64 x8) (.int .i64 x2) = some v7' ∧
     ∃ x8', asI .u64 v7' = some x8' ∧
     Cn Try.prog 48 #[.pointer x0, .int .u64 (IntKind.u64.wrap (((BitVec.ofInt (IntKind.bits .u64) x8' ||| BitVec.ofInt (IntKind.bits .u64) x7).toNat : Int))), .int .i64 (IntKind.i64.wrap (x2 + 1))] M fun v9' N9' =>
      Q (.int .i64 0) N9'))) :
    A43_1 x0 x2 x7 x8 x31 M Q := by
  intro g1 g3 g4 g5 g6 g9 g10 g11 g12 g13 g14 g15 g16 g17 g18 g19 g20 g21 g22 g23 g24 g25 g26 g27 g28 g29 g30 g32 g33 g34 g35 g36 g37 g38 g39 g40
  refine Rn.cnd (v := x31) ⟨c43_22, rfl, by kernel_rfl⟩ (fun h => ?_) (fun h => ?_)
  · replace H := H.1 (h)
    refine Rn.seq k43_23 (Rn.region k43_24 (fun call K => r43_7) (Rch.leaf ?_))
    exact Rn.ret k43_25 e43 H
  · replace H := H.2 (h)
    refine Rn.skip k43_26 (Rn.seq k43_27 (Rn.region k43_28 (fun call K => r43_8) (Rch.ex H fun v7' H => Rch.ex H fun x8' H => Rch.call H fun v9' N9' H => Rch.leaf (Rn.seq k43_29 (Rn.region k43_30 (fun call K => r43_9) (Rch.leaf ?_))))))
    exact Rn.ret k43_31 e43 H


/-! ### zoetrope/bits.Write: function 19 -/
noncomputable abbrev P19 (p : List Nat) : Code := subC (codeOf Try.f19) p
noncomputable abbrev O19 (p : List Nat) : Array Oper := opsOf (subC (codeOf Try.f19) p)
theorem b19 : Try.prog.funcs[19]? = some Try.f19 ∧ (Orc.tab Try.prog).lookup 19 = none := ⟨by kernel_rfl, by kernel_rfl⟩
theorem d19 : Try.f19.body = some (P19 []) := by kernel_rfl
theorem t19 : #[] ++ Array.replicate (Try.f19.ntmps - (#[] : Array Value).size) undef = #[undef,undef,undef] := by kernel_rfl
theorem k19_0 : P19 [] = .seq (P19 [0]) (P19 [1]) := by kernel_rfl
theorem k19_1 : P19 [0] = .region 0 (O19 [0]) false := by kernel_rfl
theorem r19_0 {M : Mem} {call : CallM} {K : Array Value → Mem → R} :
    opsK Try.prog (fun _ => call) (O19 [0]) (O19 [0]).toList 0 #[g0,g1,g2] M K = K #[.pointer none,g1,g2] M := by kernel_rfl
theorem k19_2 : P19 [1] = .seq (P19 [1,0]) (P19 [1,1]) := by kernel_rfl
theorem k19_3 : P19 [1,0] = .region 1 (O19 [1,0]) false := by kernel_rfl
theorem r19_1 {M : Mem} {call : CallM} {K : Array Value → Mem → R} :
    opsK Try.prog (fun _ => call) (O19 [1,0]) (O19 [1,0]).toList 0 #[g0,g1,g2] M K = K #[.pointer (some ⟨2 * M.nb.size, 0, none⟩),.agg #[.slice none 0 0, .int .i64 0, .bool true],.pointer (some ⟨2 * M.nb.size, 0, none⟩)] (M.new (.cells #[.slice none 0 0, .int .i64 0, .bool true] 73)) := by kernel_rfl
theorem k19_4 : P19 [1,1] = .ret := by kernel_rfl
theorem e19 {M : Mem} : finish Try.prog Try.f19 #[g0,g1,g2] M = some (g0, M) := by kernel_rfl
theorem w19_0 {M : Mem} {Q : Value → Mem → Prop} (H :
    Q (.pointer (some ⟨2 * M.nb.size, 0, none⟩)) (M.new (.cells #[.slice none 0 0, .int .i64 0, .bool true] 73))) :
    Cn Try.prog 19 #[] M Q := by
  refine Cn.of b19 d19 t19 ?_
  refine Rn.seq k19_0 (Rn.region k19_1 (fun call K => r19_0) (Rch.leaf (Rn.seq k19_2 (Rn.region k19_3 (fun call K => r19_1) (Rch.leaf ?_)))))
  exact Rn.ret k19_4 e19 H


/-! ### (*zoetrope/bits.Writer).Bytes: function 28 -/
noncomputable abbrev P28 (p : List Nat) : Code := subC (codeOf Try.f28) p
noncomputable abbrev O28 (p : List Nat) : Array Oper := opsOf (subC (codeOf Try.f28) p)
theorem b28 : Try.prog.funcs[28]? = some Try.f28 ∧ (Orc.tab Try.prog).lookup 28 = none := ⟨by kernel_rfl, by kernel_rfl⟩
theorem d28 : Try.f28.body = some (P28 []) := by kernel_rfl
theorem t28 {x0 : Option Addr} : #[.pointer x0] ++ Array.replicate (Try.f28.ntmps - (#[.pointer x0] : Array Value).size) undef = #[.pointer x0,undef,undef,undef,undef,undef,undef,undef,undef,undef,undef] := by kernel_rfl
theorem k28_0 : P28 [] = .seq (P28 [0]) (P28 [1]) := by kernel_rfl
theorem k28_1 : P28 [0] = .region 0 (O28 [0]) false := by kernel_rfl
theorem r28_0 {M : Mem} {call : CallM} {K : Array Value → Mem → R} :
    opsK Try.prog (fun _ => call) (O28 [0]) (O28 [0]).toList 0 #[g0,g1,g2,g3,g4,g5,g6,g7,g8,g9,g10] M K = K #[g0,g1,.slice none 0 0,g3,g4,g5,g6,g7,g8,g9,g10] M := by kernel_rfl
theorem k28_2 : P28 [1] = .seq (P28 [1,0]) (P28 [1,1]) := by kernel_rfl
theorem k28_3 : P28 [1,0] = .seq (P28 [1,0,0]) (P28 [1,0,1]) := by kernel_rfl
theorem k28_4 : P28 [1,0,0] = .region 1 (O28 [1,0,0]) false := by kernel_rfl
theorem r28_1 {x0 : Option Addr} {M : Mem} {call : CallM} {K : Array Value → Mem → R} :
    opsK Try.prog (fun _ => call) (O28 [1,0,0]) (O28 [1,0,0]).toList 0 #[.pointer x0,g1,g2,g3,g4,g5,g6,g7,g8,g9,g10] M K = (call 46 #[.pointer x0] M).bind fun r_1 => (asB r_1.1).bind fun b_2 => K #[.pointer x0,g1,g2,.pointer x0,.bool b_2,.bool (!b_2),g6,g7,g8,g9,g10] r_1.2 := by kernel_rfl
theorem c28_5 : P28 [1,0,1] = .cond (.tmp 5) (P28 [1,0,1,0]) (P28 [1,0,1,1]) := by kernel_rfl
theorem k28_6 : P28 [1,0,1,0] = .seq (P28 [1,0,1,0,0]) (P28 [1,0,1,0,1]) := by kernel_rfl
theorem k28_7 : P28 [1,0,1,0,0] = .region 2 (O28 [1,0,1,0,0]) false := by kernel_rfl
theorem r28_2 {M : Mem} {call : CallM} {K : Array Value → Mem → R} :
    opsK Try.prog (fun _ => call) (O28 [1,0,1,0,0]) (O28 [1,0,1,0,0]).toList 0 #[g0,g1,g2,g3,g4,g5,g6,g7,g8,g9,g10] M K = K #[g0,g1,.slice none 0 0,g3,g4,g5,g6,g7,g8,g9,g10] M := by kernel_rfl
theorem k28_8 : P28 [1,0,1,0,1] = .ret := by kernel_rfl
theorem e28 {M : Mem} : finish Try.prog Try.f28 #[g0,g1,g2,g3,g4,g5,g6,g7,g8,g9,g10] M = some (g2, M) := by kernel_rfl
theorem k28_10 : P28 [1,0,1,1] = .skip := by kernel_rfl
theorem k28_11 : P28 [1,1] = .seq (P28 [1,1,0]) (P28 [1,1,1]) := by kernel_rfl
theorem k28_12 : P28 [1,1,0] = .region 3 (O28 [1,1,0]) false := by kernel_rfl
theorem r28_3 {x0 : Option Addr} {M : Mem} {call : CallM} {K : Array Value → Mem → R} :
    opsK Try.prog (fun _ => call) (O28 [1,1,0]) (O28 [1,1,0]).toList 0 #[.pointer x0,g1,g2,g3,g4,g5,g6,g7,g8,g9,g10] M K = (x0).bind fun a_1 => (M.slAt a_1.block a_1.off).bind fun s_2 => (call 61 #[.slice s_2.1 (s_2.2.1) (s_2.2.2)] M).bind fun r_3 => (asS r_3.1).bind fun s_4 => K #[.pointer x0,g1,.slice s_4.1 (s_4.2.1) (s_4.2.2),g3,g4,g5,.pointer x0,.pointer (some a_1),.pointer (some ⟨a_1.block, a_1.off, none⟩),.slice s_2.1 (s_2.2.1) (s_2.2.2),.slice s_4.1 (s_4.2.1) (s_4.2.2)] r_3.2 := by kernel_rfl
theorem k28_13 : P28 [1,1,1] = .ret := by kernel_rfl
theorem w28_0 {x0 : Option Addr} {M : Mem} {Q : Value → Mem → Prop} (H :
    Cn Try.prog 46 #[.pointer x0] M fun v1' N1' =>
     ∃ b2', asB v1' = some b2' ∧
     (((!b2') = true →
      Q (.slice none 0 0) N1') ∧
      ((!b2') = false →
      ∃ a3', x0 = some a3' ∧
      ∃ s4', N1'.slAt a3'.block a3'.off = some s4' ∧
      Cn Try.prog 61 #[.slice s4'.1 (s4'.2.1) (s4'.2.2)] N1' fun v5' N5' =>
       ∃ s6', asS v5' = some s6' ∧
       Q (.slice s6'.1 (s6'.2.1) (s6'.2.2)) N5'))) :
    Cn Try.prog 28 #[.pointer x0] M Q := by
  refine Cn.of b28 d28 t28 ?_
  refine Rn.seq k28_0 (Rn.region k28_1 (fun call K => r28_0) (Rch.leaf (Rn.seq k28_2 (Rn.seq k28_3 (Rn.region k28_4 (fun call K => r28_1) (Rch.call H fun v1' N1' H => Rch.ex H fun b2' H => Rch.leaf ?_))))))
  refine Rn.cnd (v := !b2') ⟨c28_5, rfl, by kernel_rfl⟩ (fun h => ?_) (fun h => ?_)
  · replace H := H.1 (h)
    refine Rn.seq k28_6 (Rn.region k28_7 (fun call K => r28_2) (Rch.leaf ?_))
    exact Rn.ret k28_8 e28 H
  · replace H := H.2 (h)
    refine Rn.skip k28_10 (Rn.seq k28_11 (Rn.region k28_12 (fun call K => r28_3) (Rch.ex H fun a3' H => Rch.ex H fun s4' H => Rch.call H fun v5' N5' H => Rch.ex H fun s6' H => Rch.leaf ?_)))
    exact Rn.ret k28_13 e28 H


end Go.Zt

