/- The functions' walks: for each function and each loop a rule of what it comes to. Printed by zw.py. -/
import Derived.Test.YtcpaggmhiflhbaaProg
import Derived.Test.YtcpaggmhiflhbaaZbA
set_option linter.unusedVariables false
set_option maxRecDepth 100000
namespace Go.Zt
open Go Go.Sim Go.Proofs

variable {g0 g1 g2 g3 g4 g5 g6 g7 g8 g9 g10 g11 g12 g13 g14 g15 g16 g17 g18 g19 g20 g21 g22 g23 g24 g25 g26 g27 g28 g29 g30 g31 g32 g33 g34 g35 g36 g37 g38 g39 g40 g41 g42 g43 g44 g45 g46 g47 g48 g49 g50 g51 g52 g53 g54 g55 g56 g57 g58 g59 g60 g61 g62 g63 g64 g65 g66 g67 : Value}
def str0 : ByteArray := ⟨#[0, 1, 2, 2, 3, 3, 3, 3, 4, 4, 4, 4, 4, 4, 4, 4, 5, 5, 5, 5, 5, 5, 5, 5, 5, 5, 5, 5, 5, 5, 5, 5, 6, 6, 6, 6, 6, 6, 6, 6, 6, 6, 6, 6, 6, 6, 6, 6, 6, 6, 6, 6, 6, 6, 6, 6, 6, 6, 6, 6, 6, 6, 6, 6, 7, 7, 7, 7, 7, 7, 7, 7, 7, 7, 7, 7, 7, 7, 7, 7, 7, 7, 7, 7, 7, 7, 7, 7, 7, 7, 7, 7, 7, 7, 7, 7, 7, 7, 7, 7, 7, 7, 7, 7, 7, 7, 7, 7, 7, 7, 7, 7, 7, 7, 7, 7, 7, 7, 7, 7, 7, 7, 7, 7, 7, 7, 7, 7, 8, 8, 8, 8, 8, 8, 8, 8, 8, 8, 8, 8, 8, 8, 8, 8, 8, 8, 8, 8, 8, 8, 8, 8, 8, 8, 8, 8, 8, 8, 8, 8, 8, 8, 8, 8, 8, 8, 8, 8, 8, 8, 8, 8, 8, 8, 8, 8, 8, 8, 8, 8, 8, 8, 8, 8, 8, 8, 8, 8, 8, 8, 8, 8, 8, 8, 8, 8, 8, 8, 8, 8, 8, 8, 8, 8, 8, 8, 8, 8, 8, 8, 8, 8, 8, 8, 8, 8, 8, 8, 8, 8, 8, 8, 8, 8, 8, 8, 8, 8, 8, 8, 8, 8, 8, 8, 8, 8, 8, 8, 8, 8, 8, 8, 8, 8, 8, 8, 8, 8, 8, 8, 8, 8, 8, 8, 8, 8]⟩
/-! ### (*zoetrope/bits.Reader).bit: function 58 -/
noncomputable abbrev P58 (p : List Nat) : Code := subC (codeOf Try.f58) p
noncomputable abbrev O58 (p : List Nat) : Array Oper := opsOf (subC (codeOf Try.f58) p)
theorem b58 : Try.prog.funcs[58]? = some Try.f58 ∧ (Orc.tab Try.prog).lookup 58 = none := ⟨by kernel_rfl, by kernel_rfl⟩
theorem d58 : Try.f58.body = some (P58 []) := by kernel_rfl
theorem t58 {x0 : Option Addr} {x1 : Int} : #[.pointer x0,.int .i64 x1] ++ Array.replicate (Try.f58.ntmps - (#[.pointer x0,.int .i64 x1] : Array Value).size) undef = #[.pointer x0,.int .i64 x1,undef,undef,undef,undef,undef,undef,undef,undef,undef,undef,undef,undef,undef,undef,undef,undef,undef] := by kernel_rfl
theorem k58_0 : P58 [] = .seq (P58 [0]) (P58 [1]) := by kernel_rfl
theorem k58_1 : P58 [0] = .region 0 (O58 [0]) false := by kernel_rfl
theorem r58_0 {M : Mem} {call : CallM} {K : Array Value → Mem → R} :
    opsK Try.prog (fun _ => call) (O58 [0]) (O58 [0]).toList 0 #[g0,g1,g2,g3,g4,g5,g6,g7,g8,g9,g10,g11,g12,g13,g14,g15,g16,g17,g18] M K = K #[g0,g1,g2,g3,.int .u32 0,g5,g6,g7,g8,g9,g10,g11,g12,g13,g14,g15,g16,g17,g18] M := by kernel_rfl
theorem k58_2 : P58 [1] = .seq (P58 [1,0]) (P58 [1,1]) := by kernel_rfl
theorem k58_3 : P58 [1,0] = .region 1 (O58 [1,0]) false := by kernel_rfl
theorem r58_1 {x0 : Option Addr} {x1 : Int} {M : Mem} {call : CallM} {K : Array Value → Mem → R} :
    opsK Try.prog (fun _ => call) (O58 [1,0]) (O58 [1,0]).toList 0 #[.pointer x0,.int .i64 x1,g2,g3,g4,g5,g6,g7,g8,g9,g10,g11,g12,g13,g14,g15,g16,g17,g18] M K = (x0).bind fun a_1 => (M.slAt a_1.block a_1.off).bind fun s_2 => (idxA s_2.1 (s_2.2.1) 1 (IntKind.i64.wrap (x1.tdiv 8))).bind fun a_3 => (M.intAt .u8 a_3.block a_3.off).bind fun x_4 => (binV Try.prog .shr 5 3 (.int .u8 x_4) (.int .i64 (IntKind.i64.wrap (7 - (x1.tmod 8))))).bind fun v_5 => (asI .u8 v_5).bind fun x_6 => K #[.pointer x0,.int .i64 x1,g2,g3,.int .u32 (IntKind.u32.wrap (((BitVec.ofInt (IntKind.bits .u32) (IntKind.u32.wrap (x_6)) &&& BitVec.ofInt (IntKind.bits .u32) 1).toNat : Int))),.pointer x0,.pointer (some a_1),.pointer (some ⟨a_1.block, a_1.off, none⟩),.slice s_2.1 (s_2.2.1) (s_2.2.2),.int .i64 x1,.int .i64 (IntKind.i64.wrap (x1.tdiv 8)),.pointer (some a_3),.int .u8 x_4,.int .i64 x1,.int .i64 (x1.tmod 8),.int .i64 (IntKind.i64.wrap (7 - (x1.tmod 8))),.int .u8 x_6,.int .u32 (IntKind.u32.wrap (x_6)),.int .u32 (IntKind.u32.wrap (((BitVec.ofInt (IntKind.bits .u32) (IntKind.u32.wrap (x_6)) &&& BitVec.ofInt (IntKind.bits .u32) 1).toNat : Int)))] M := by kernel_rfl
theorem k58_4 : P58 [1,1] = .ret := by kernel_rfl
theorem e58 {M : Mem} : finish Try.prog Try.f58 #[g0,g1,g2,g3,g4,g5,g6,g7,g8,g9,g10,g11,g12,g13,g14,g15,g16,g17,g18] M = some (g4, M) := by kernel_rfl
theorem w58_0 {x0 : Option Addr} {x1 : Int} {M : Mem} {Q : Value → Mem → Prop} (H :
    ∃ a1', x0 = some a1' ∧
    ∃ s2', M.slAt a1'.block a1'.off = some s2' ∧
    ∃ a3', idxA s2'.1 (s2'.2.1) 1 (IntKind.i64.wrap (x1.tdiv 8)) = some a3' ∧
    ∃ x4', M.intAt .u8 a3'.block a3'.off = some x4' ∧
    ∃ v5', binV Try.prog .shr 5 3 (.int .u8 x4') (.int .i64 (IntKind.i64.wrap (7 - (x1.tmod 8)))) = some v5' ∧
    ∃ x6', asI .u8 v5' = some x6' ∧
    Q (.int .u32 (IntKind.u32.wrap (((BitVec.ofInt (IntKind.bits .u32) (IntKind.u32.wrap (x6')) &&& BitVec.ofInt (IntKind.bits .u32) 1).toNat : Int)))) M) :
    Cn Try.prog 58 #[.pointer x0, .int .i64 x1] M Q := by
  refine Cn.of b58 d58 t58 ?_
  refine Rn.seq k58_0 (Rn.region k58_1 (fun call K => r58_0) (Rch.leaf (Rn.seq k58_2 (Rn.region k58_3 (fun call K => r58_1) (Rch.ex H fun a1' H => Rch.ex H fun s2' H => Rch.ex H fun a3' H => Rch.ex H fun x4' H => Rch.ex H fun v5' H => Rch.ex H fun x6' H => Rch.leaf ?_)))))
  exact Rn.ret k58_4 e58 H


/-! ### (*zoetrope/bits.Reader).number: function 54 -/
noncomputable abbrev P54 (p : List Nat) : Code := subC (codeOf Try.f54) p
noncomputable abbrev O54 (p : List Nat) : Array Oper := opsOf (subC (codeOf Try.f54) p)
theorem b54 : Try.prog.funcs[54]? = some Try.f54 ∧ (Orc.tab Try.prog).lookup 54 = none := ⟨by kernel_rfl, by kernel_rfl⟩
theorem d54 : Try.f54.body = some (P54 []) := by kernel_rfl
theorem t54 {x0 : Option Addr} {x1 x2 : Int} : #[.pointer x0,.int .i64 x1,.int .i64 x2] ++ Array.replicate (Try.f54.ntmps - (#[.pointer x0,.int .i64 x1,.int .i64 x2] : Array Value).size) undef = #[.pointer x0,.int .i64 x1,.int .i64 x2,undef,undef,undef,undef,undef,undef,undef,undef,undef,undef,undef,undef,undef,undef,undef,undef,undef,undef,undef,undef] := by kernel_rfl
theorem k54_0 : P54 [] = .seq (P54 [0]) (P54 [1]) := by kernel_rfl
theorem k54_1 : P54 [0] = .region 0 (O54 [0]) false := by kernel_rfl
theorem r54_0 {M : Mem} {call : CallM} {K : Array Value → Mem → R} :
    opsK Try.prog (fun _ => call) (O54 [0]) (O54 [0]).toList 0 #[g0,g1,g2,g3,g4,g5,g6,g7,g8,g9,g10,g11,g12,g13,g14,g15,g16,g17,g18,g19,g20,g21,g22] M K = K #[g0,g1,g2,g3,g4,g5,.int .u32 0,g7,g8,g9,g10,g11,g12,g13,g14,g15,g16,g17,g18,g19,g20,g21,g22] M := by kernel_rfl
theorem k54_2 : P54 [1] = .seq (P54 [1,0]) (P54 [1,1]) := by kernel_rfl
theorem k54_3 : P54 [1,0] = .region 1 (O54 [1,0]) false := by kernel_rfl
theorem r54_1 {M : Mem} {call : CallM} {K : Array Value → Mem → R} :
    opsK Try.prog (fun _ => call) (O54 [1,0]) (O54 [1,0]).toList 0 #[g0,g1,g2,g3,g4,g5,g6,g7,g8,g9,g10,g11,g12,g13,g14,g15,g16,g17,g18,g19,g20,g21,g22] M K = K #[g0,g1,g2,g3,g4,g5,g6,.int .u32 0,g8,g9,g10,g11,g12,g13,g14,g15,g16,g17,g18,g19,g20,g21,g22] M := by kernel_rfl
theorem k54_4 : P54 [1,1] = .seq (P54 [1,1,0]) (P54 [1,1,1]) := by kernel_rfl
theorem k54_5 : P54 [1,1,0] = .seq (P54 [1,1,0,0]) (P54 [1,1,0,1]) := by kernel_rfl
theorem k54_6 : P54 [1,1,0,0] = .region 2 (O54 [1,1,0,0]) false := by kernel_rfl
theorem r54_2 {x2 : Int} {M : Mem} {call : CallM} {K : Array Value → Mem → R} :
    opsK Try.prog (fun _ => call) (O54 [1,1,0,0]) (O54 [1,1,0,0]).toList 0 #[g0,g1,.int .i64 x2,g3,g4,g5,g6,g7,g8,g9,g10,g11,g12,g13,g14,g15,g16,g17,g18,g19,g20,g21,g22] M K = K #[g0,g1,.int .i64 x2,g3,g4,g5,g6,g7,g8,.int .i64 x2,.int .i64 0,g11,g12,g13,g14,g15,g16,g17,g18,g19,g20,g21,g22] M := by kernel_rfl
theorem k54_7 : P54 [1,1,0,1] = .block 0 (P54 [1,1,0,1,0]) := by kernel_rfl
theorem k54_8 : P54 [1,1,0,1,0] = .loop (P54 [1,1,0,1,0,0]) := by kernel_rfl
theorem k54_9 : P54 [1,1,0,1,0,0] = .seq (P54 [1,1,0,1,0,0,0]) (P54 [1,1,0,1,0,0,1]) := by kernel_rfl
theorem k54_10 : P54 [1,1,0,1,0,0,0] = .region 3 (O54 [1,1,0,1,0,0,0]) false := by kernel_rfl
theorem r54_3 {x9 x10 : Int} {M : Mem} {call : CallM} {K : Array Value → Mem → R} :
    opsK Try.prog (fun _ => call) (O54 [1,1,0,1,0,0,0]) (O54 [1,1,0,1,0,0,0]).toList 0 #[g0,g1,g2,g3,g4,g5,g6,g7,g8,.int .i64 x9,.int .i64 x10,g11,g12,g13,g14,g15,g16,g17,g18,g19,g20,g21,g22] M K = K #[g0,g1,g2,g3,g4,g5,g6,g7,g8,.int .i64 x9,.int .i64 x10,.bool (decide (x10 < x9)),g12,g13,g14,g15,g16,g17,g18,g19,g20,g21,g22] M := by kernel_rfl
theorem k54_11 : P54 [1,1,0,1,0,0,1] = .seq (P54 [1,1,0,1,0,0,1,0]) (P54 [1,1,0,1,0,0,1,1]) := by kernel_rfl
theorem c54_12 : P54 [1,1,0,1,0,0,1,0] = .cond (.tmp 11) (P54 [1,1,0,1,0,0,1,0,0]) (P54 [1,1,0,1,0,0,1,0,1]) := by kernel_rfl
theorem k54_13 : P54 [1,1,0,1,0,0,1,0,0] = .skip := by kernel_rfl
theorem k54_14 : P54 [1,1,0,1,0,0,1,1] = .seq (P54 [1,1,0,1,0,0,1,1,0]) (P54 [1,1,0,1,0,0,1,1,1]) := by kernel_rfl
theorem k54_15 : P54 [1,1,0,1,0,0,1,1,0] = .block 1 (P54 [1,1,0,1,0,0,1,1,0,0]) := by kernel_rfl
theorem k54_16 : P54 [1,1,0,1,0,0,1,1,0,0] = .seq (P54 [1,1,0,1,0,0,1,1,0,0,0]) (P54 [1,1,0,1,0,0,1,1,0,0,1]) := by kernel_rfl
theorem k54_17 : P54 [1,1,0,1,0,0,1,1,0,0,0] = .region 4 (O54 [1,1,0,1,0,0,1,1,0,0,0]) false := by kernel_rfl
theorem r54_4 {x10 : Int} {M : Mem} {call : CallM} {K : Array Value → Mem → R} :
    opsK Try.prog (fun _ => call) (O54 [1,1,0,1,0,0,1,1,0,0,0]) (O54 [1,1,0,1,0,0,1,1,0,0,0]).toList 0 #[g0,g1,g2,g3,g4,g5,g6,g7,g8,g9,.int .i64 x10,g11,g12,g13,g14,g15,g16,g17,g18,g19,g20,g21,g22] M K = K #[g0,g1,g2,g3,g4,g5,g6,g7,.int .i64 x10,g9,.int .i64 x10,g11,.int .i64 x10,g13,g14,g15,g16,g17,g18,g19,g20,g21,g22] M := by kernel_rfl
theorem k54_18 : P54 [1,1,0,1,0,0,1,1,0,0,1] = .region 5 (O54 [1,1,0,1,0,0,1,1,0,0,1]) false := by kernel_rfl
theorem r54_5 {x0 : Option Addr} {x1 x7 x8 : Int} {M : Mem} {call : CallM} {K : Array Value → Mem → R} :
    opsK Try.prog (fun _ => call) (O54 [1,1,0,1,0,0,1,1,0,0,1]) (O54 [1,1,0,1,0,0,1,1,0,0,1]).toList 0 #[.pointer x0,.int .i64 x1,g2,g3,g4,g5,g6,.int .u32 x7,.int .i64 x8,g9,g10,g11,g12,g13,g14,g15,g16,g17,g18,g19,g20,g21,g22] M K = (call 58 #[.pointer x0, .int .i64 (IntKind.i64.wrap (x1 + x8))] M).bind fun r_1 => (asI .u32 r_1.1).bind fun x_2 => K #[.pointer x0,.int .i64 x1,g2,g3,g4,g5,g6,.int .u32 (IntKind.u32.wrap (((BitVec.ofInt (IntKind.bits .u32) (IntKind.u32.wrap (x7 * 2 ^ 1)) ||| BitVec.ofInt (IntKind.bits .u32) x_2).toNat : Int))),.int .i64 x8,g9,g10,g11,g12,.int .u32 x7,.int .u32 (IntKind.u32.wrap (x7 * 2 ^ 1)),.pointer x0,.int .i64 x1,.int .i64 x8,.int .i64 (IntKind.i64.wrap (x1 + x8)),.int .u32 x_2,.int .u32 (IntKind.u32.wrap (((BitVec.ofInt (IntKind.bits .u32) (IntKind.u32.wrap (x7 * 2 ^ 1)) ||| BitVec.ofInt (IntKind.bits .u32) x_2).toNat : Int))),g21,g22] r_1.2 := by kernel_rfl
theorem k54_19 : P54 [1,1,0,1,0,0,1,1,1] = .region 6 (O54 [1,1,0,1,0,0,1,1,1]) false := by kernel_rfl
theorem r54_6 {x10 : Int} {M : Mem} {call : CallM} {K : Array Value → Mem → R} :
    opsK Try.prog (fun _ => call) (O54 [1,1,0,1,0,0,1,1,1]) (O54 [1,1,0,1,0,0,1,1,1]).toList 0 #[g0,g1,g2,g3,g4,g5,g6,g7,g8,g9,.int .i64 x10,g11,g12,g13,g14,g15,g16,g17,g18,g19,g20,g21,g22] M K = K #[g0,g1,g2,g3,g4,g5,g6,g7,g8,g9,.int .i64 (IntKind.i64.wrap (x10 + 1)),g11,g12,g13,g14,g15,g16,g17,g18,g19,g20,.int .i64 (IntKind.i64.wrap (x10 + 1)),g22] M := by kernel_rfl
theorem k54_20 : P54 [1,1,0,1,0,0,1,0,1] = .exit 0 := by kernel_rfl
theorem k54_21 : P54 [1,1,1] = .seq (P54 [1,1,1,0]) (P54 [1,1,1,1]) := by kernel_rfl
theorem k54_22 : P54 [1,1,1,0] = .region 7 (O54 [1,1,1,0]) false := by kernel_rfl
theorem r54_7 {x7 : Int} {M : Mem} {call : CallM} {K : Array Value → Mem → R} :
    opsK Try.prog (fun _ => call) (O54 [1,1,1,0]) (O54 [1,1,1,0]).toList 0 #[g0,g1,g2,g3,g4,g5,g6,.int .u32 x7,g8,g9,g10,g11,g12,g13,g14,g15,g16,g17,g18,g19,g20,g21,g22] M K = K #[g0,g1,g2,g3,g4,g5,.int .u32 x7,.int .u32 x7,g8,g9,g10,g11,g12,g13,g14,g15,g16,g17,g18,g19,g20,g21,.int .u32 x7] M := by kernel_rfl
theorem k54_23 : P54 [1,1,1,1] = .ret := by kernel_rfl
theorem e54 {M : Mem} : finish Try.prog Try.f54 #[g0,g1,g2,g3,g4,g5,g6,g7,g8,g9,g10,g11,g12,g13,g14,g15,g16,g17,g18,g19,g20,g21,g22] M = some (g6, M) := by kernel_rfl
noncomputable def S54_1 : List Item := [.code (P54 [1,1,0,1,0,0]), .inLoop (P54 [1,1,0,1,0,0]), .inBlock 0, .code (P54 [1,1,1])]
def A54_1 (x0 : Option Addr) (x1 x7 x9 x10 : Int) (M : Mem) (Q : Value → Mem → Prop) : Prop := ∀ (g2 g3 g4 g5 g6 g8 g11 g12 g13 g14 g15 g16 g17 g18 g19 g20 g21 g22 : Value), Rn Try.prog Try.f54 S54_1 #[.pointer x0, .int .i64 x1, g2, g3, g4, g5, g6, .int .u32 x7, g8, .int .i64 x9, .int .i64 x10, g11, g12, g13, g14, g15, g16, g17, g18, g19, g20, g21, g22] M Q
theorem w54_0 {x0 : Option Addr} {x1 x2 : Int} {M : Mem} {Q : Value → Mem → Prop} (H :
    A54_1 x0 x1 0 x2 0 M Q) :
    Cn Try.prog 54 #[.pointer x0, .int .i64 x1, .int .i64 x2] M Q := by
  refine Cn.of b54 d54 t54 ?_
  refine Rn.seq k54_0 (Rn.region k54_1 (fun call K => r54_0) (Rch.leaf (Rn.seq k54_2 (Rn.region k54_3 (fun call K => r54_1) (Rch.leaf (Rn.seq k54_4 (Rn.seq k54_5 (Rn.region k54_6 (fun call K => r54_2) (Rch.leaf (Rn.block k54_7 (Rn.loop k54_8 ?_)))))))))))
  exact H _ _ _ _ _ _ _ _ _ _ _ _ _ _ _ _ _ _

theorem w54_1 {x0 : Option Addr} {x1 x7 x9 x10 : Int} {M : Mem} {Q : Value → Mem → Prop} (H :
    ((x10 < x9 →
     Cn Try.prog 58 #[.pointer x0, .int .i64 (IntKind.i64.wrap (x1 + x10))] M fun v1' N1' =>
      ∃ x2', asI .u32 v1' = some x2' ∧
      A54_1 x0 x1 (IntKind.u32.wrap (((BitVec.ofInt (IntKind.bits .u32) (IntKind.u32.wrap (x7 * 2 ^ 1)) ||| BitVec.ofInt (IntKind.bits .u32) x2').toNat : Int))) x9 (IntKind.i64.wrap (x10 + 1)) N1' Q) ∧
     (¬ (x10 < x9) →
     Q (.int .u32 x7) M))) :
    A54_1 x0 x1 x7 x9 x10 M Q := by
  intro g2 g3 g4 g5 g6 g8 g11 g12 g13 g14 g15 g16 g17 g18 g19 g20 g21 g22
  refine Rn.seq k54_9 (Rn.region k54_10 (fun call K => r54_3) (Rch.leaf (Rn.seq k54_11 ?_)))
  refine Rn.cnd (v := decide (x10 < x9)) ⟨c54_12, rfl, by kernel_rfl⟩ (fun h => ?_) (fun h => ?_)
  · replace H := H.1 (of_decide_eq_true h)
    refine Rn.skip k54_13 (Rn.seq k54_14 (Rn.block k54_15 (Rn.seq k54_16 (Rn.region k54_17 (fun call K => r54_4) (Rch.leaf (Rn.region k54_18 (fun call K => r54_5) (Rch.call H fun v1' N1' H => Rch.ex H fun x2' H => Rch.leaf (Rn.blk (Rn.region k54_19 (fun call K => r54_6) ?_)))))))))
    refine Rch.leaf (Rn.lp ?_)
    exact H _ _ _ _ _ _ _ _ _ _ _ _ _ _ _ _ _ _
  · replace H := H.2 (of_decide_eq_false h)
    refine Rn.exit k54_20 rfl (Rn.seq k54_21 (Rn.region k54_22 (fun call K => r54_7) (Rch.leaf ?_)))
    exact Rn.ret k54_23 e54 H


/-! ### (*zoetrope/bits.Reader).there: function 46 -/
noncomputable abbrev P46 (p : List Nat) : Code := subC (codeOf Try.f46) p
noncomputable abbrev O46 (p : List Nat) : Array Oper := opsOf (subC (codeOf Try.f46) p)
theorem b46 : Try.prog.funcs[46]? = some Try.f46 ∧ (Orc.tab Try.prog).lookup 46 = none := ⟨by kernel_rfl, by kernel_rfl⟩
theorem d46 : Try.f46.body = some (P46 []) := by kernel_rfl
theorem t46 {x0 : Option Addr} : #[.pointer x0] ++ Array.replicate (Try.f46.ntmps - (#[.pointer x0] : Array Value).size) undef = #[.pointer x0,undef,undef,undef,undef,undef,undef,undef,undef,undef,undef] := by kernel_rfl
theorem k46_0 : P46 [] = .seq (P46 [0]) (P46 [1]) := by kernel_rfl
theorem k46_1 : P46 [0] = .region 0 (O46 [0]) false := by kernel_rfl
theorem r46_0 {M : Mem} {call : CallM} {K : Array Value → Mem → R} :
    opsK Try.prog (fun _ => call) (O46 [0]) (O46 [0]).toList 0 #[g0,g1,g2,g3,g4,g5,g6,g7,g8,g9,g10] M K = K #[g0,g1,.bool false,g3,g4,g5,g6,g7,g8,g9,g10] M := by kernel_rfl
theorem k46_2 : P46 [1] = .seq (P46 [1,0]) (P46 [1,1]) := by kernel_rfl
theorem k46_3 : P46 [1,0] = .region 1 (O46 [1,0]) false := by kernel_rfl
theorem r46_1 {x0 : Option Addr} {M : Mem} {call : CallM} {K : Array Value → Mem → R} :
    opsK Try.prog (fun _ => call) (O46 [1,0]) (O46 [1,0]).toList 0 #[.pointer x0,g1,g2,g3,g4,g5,g6,g7,g8,g9,g10] M K = withK (fun w2 w5 w6 w7 w8 w9 w10 M => K #[.pointer x0,g1,w2,.pointer x0,.bool x0.isSome,w5,w6,w7,w8,w9,w10] M) fun k => cond x0.isSome ((x0).bind fun a_1 => (M.boolAt a_1.block (a_1.off + 2)).bind fun b_2 => k (.bool b_2) (.bool true) (.pointer x0) (.pointer (some a_1)) (.pointer (some ⟨a_1.block, a_1.off + 2, none⟩)) (.bool b_2) (.bool b_2) M) (k (.bool false) (.bool false) undef undef undef undef (.bool false) M) := by kernel_rfl
theorem k46_4 : P46 [1,1] = .ret := by kernel_rfl
theorem e46 {M : Mem} : finish Try.prog Try.f46 #[g0,g1,g2,g3,g4,g5,g6,g7,g8,g9,g10] M = some (g2, M) := by kernel_rfl
theorem w46_0 {x0 : Option Addr} {M : Mem} {Q : Value → Mem → Prop} (H :
    ((x0.isSome = true →
     ∃ a1', x0 = some a1' ∧
     ∃ b2', M.boolAt a1'.block (a1'.off + 2) = some b2' ∧
     Q (.bool b2') M) ∧
     (x0.isSome = false →
     Q (.bool false) M))) :
    Cn Try.prog 46 #[.pointer x0] M Q := by
  refine Cn.of b46 d46 t46 ?_
  refine Rn.seq k46_0 (Rn.region k46_1 (fun call K => r46_0) (Rch.leaf (Rn.seq k46_2 (Rn.region k46_3 (fun call K => r46_1) ?_))))
  refine Rch.cB (fun h => ?_) (fun h => ?_)
  · replace H := H.1 (h)
    refine Rch.ex H fun a1' H => Rch.ex H fun b2' H => Rch.leaf ?_
    exact Rn.ret k46_4 e46 H
  · replace H := H.2 (h)
    refine Rch.leaf ?_
    exact Rn.ret k46_4 e46 H


/-! ### (*zoetrope/bits.Reader).left: function 47 -/
noncomputable abbrev P47 (p : List Nat) : Code := subC (codeOf Try.f47) p
noncomputable abbrev O47 (p : List Nat) : Array Oper := opsOf (subC (codeOf Try.f47) p)
theorem b47 : Try.prog.funcs[47]? = some Try.f47 ∧ (Orc.tab Try.prog).lookup 47 = none := ⟨by kernel_rfl, by kernel_rfl⟩
theorem d47 : Try.f47.body = some (P47 []) := by kernel_rfl
theorem t47 {x0 : Option Addr} : #[.pointer x0] ++ Array.replicate (Try.f47.ntmps - (#[.pointer x0] : Array Value).size) undef = #[.pointer x0,undef,undef,undef,undef,undef,undef,undef,undef,undef,undef,undef,undef,undef] := by kernel_rfl
theorem k47_0 : P47 [] = .seq (P47 [0]) (P47 [1]) := by kernel_rfl
theorem k47_1 : P47 [0] = .region 0 (O47 [0]) false := by kernel_rfl
theorem r47_0 {M : Mem} {call : CallM} {K : Array Value → Mem → R} :
    opsK Try.prog (fun _ => call) (O47 [0]) (O47 [0]).toList 0 #[g0,g1,g2,g3,g4,g5,g6,g7,g8,g9,g10,g11,g12,g13] M K = K #[g0,g1,.int .i64 0,g3,g4,g5,g6,g7,g8,g9,g10,g11,g12,g13] M := by kernel_rfl
theorem k47_2 : P47 [1] = .seq (P47 [1,0]) (P47 [1,1]) := by kernel_rfl
theorem k47_3 : P47 [1,0] = .region 1 (O47 [1,0]) true ∧ drawOk (O47 [1,0]) = true := ⟨by kernel_rfl, by kernel_rfl⟩
theorem r47_1 {x0 : Option Addr} {M : Mem} {call : CallM} {K : Array Value → Mem → R} :
    opsI Try.prog (callAt call (O47 [1,0])) (O47 [1,0]) (ordOf (O47 [1,0])) [] #[.pointer x0,g1,g2,g3,g4,g5,g6,g7,g8,g9,g10,g11,g12,g13] M K = (x0).bind fun a_1 => (M.slAt a_1.block a_1.off).bind fun s_2 => (x0).bind fun a_3 => (M.intAt .i64 a_3.block (a_3.off + 1)).bind fun x_4 => K #[.pointer x0,g1,.int .i64 (IntKind.i64.wrap ((IntKind.i64.wrap (8 * ((s_2.2.1 : Int)))) - x_4)),.pointer x0,.pointer (some a_1),.pointer (some ⟨a_1.block, a_1.off, none⟩),.slice s_2.1 (s_2.2.1) (s_2.2.2),.int .i64 ((s_2.2.1 : Int)),.int .i64 (IntKind.i64.wrap (8 * ((s_2.2.1 : Int)))),.pointer x0,.pointer (some a_3),.pointer (some ⟨a_3.block, a_3.off + 1, none⟩),.int .i64 x_4,.int .i64 (IntKind.i64.wrap ((IntKind.i64.wrap (8 * ((s_2.2.1 : Int)))) - x_4))] M := by kernel_rfl
theorem k47_4 : P47 [1,1] = .ret := by kernel_rfl
theorem e47 {M : Mem} : finish Try.prog Try.f47 #[g0,g1,g2,g3,g4,g5,g6,g7,g8,g9,g10,g11,g12,g13] M = some (g2, M) := by kernel_rfl
theorem w47_0 {x0 : Option Addr} {M : Mem} {Q : Value → Mem → Prop} (H :
    ∃ a1', x0 = some a1' ∧
    ∃ s2', M.slAt a1'.block a1'.off = some s2' ∧
    ∃ a3', x0 = some a3' ∧
    ∃ x4', M.intAt .i64 a3'.block (a3'.off + 1) = some x4' ∧
    Q (.int .i64 (IntKind.i64.wrap ((IntKind.i64.wrap (8 * ((s2'.2.1 : Int)))) - x4'))) M) :
    Cn Try.prog 47 #[.pointer x0] M Q := by
  refine Cn.of b47 d47 t47 ?_
  refine Rn.seq k47_0 (Rn.region k47_1 (fun call K => r47_0) (Rch.leaf (Rn.seq k47_2 (Rn.regionD k47_3 (fun call K => r47_1) (Rch.ex H fun a1' H => Rch.ex H fun s2' H => Rch.ex H fun a3' H => Rch.ex H fun x4' H => Rch.leaf ?_)))))
  exact Rn.ret k47_4 e47 H


/-! ### zoetrope/bits.New: function 22 -/
noncomputable abbrev P22 (p : List Nat) : Code := subC (codeOf Try.f22) p
noncomputable abbrev O22 (p : List Nat) : Array Oper := opsOf (subC (codeOf Try.f22) p)
theorem b22 : Try.prog.funcs[22]? = some Try.f22 ∧ (Orc.tab Try.prog).lookup 22 = none := ⟨by kernel_rfl, by kernel_rfl⟩
theorem d22 : Try.f22.body = some (P22 []) := by kernel_rfl
theorem t22 {Ax0 : Option Addr} {lx0 cx0 : Nat} : #[.slice Ax0 lx0 cx0] ++ Array.replicate (Try.f22.ntmps - (#[.slice Ax0 lx0 cx0] : Array Value).size) undef = #[.slice Ax0 lx0 cx0,undef,undef,undef,undef,undef,undef] := by kernel_rfl
theorem k22_0 : P22 [] = .seq (P22 [0]) (P22 [1]) := by kernel_rfl
theorem k22_1 : P22 [0] = .region 0 (O22 [0]) false := by kernel_rfl
theorem r22_0 {M : Mem} {call : CallM} {K : Array Value → Mem → R} :
    opsK Try.prog (fun _ => call) (O22 [0]) (O22 [0]).toList 0 #[g0,g1,g2,g3,g4,g5,g6] M K = K #[g0,g1,.pointer none,g3,g4,g5,g6] M := by kernel_rfl
theorem k22_2 : P22 [1] = .seq (P22 [1,0]) (P22 [1,1]) := by kernel_rfl
theorem k22_3 : P22 [1,0] = .region 1 (O22 [1,0]) false := by kernel_rfl
theorem r22_1 {Ax0 : Option Addr} {lx0 cx0 : Nat} {M : Mem} {call : CallM} {K : Array Value → Mem → R} :
    opsK Try.prog (fun _ => call) (O22 [1,0]) (O22 [1,0]).toList 0 #[.slice Ax0 lx0 cx0,g1,g2,g3,g4,g5,g6] M K = (call 44 #[.slice Ax0 lx0 cx0] M).bind fun r_1 => (asS r_1.1).bind fun s_2 => K #[.slice Ax0 lx0 cx0,g1,.pointer (some ⟨2 * r_1.2.nb.size, 0, none⟩),.slice Ax0 lx0 cx0,.slice s_2.1 (s_2.2.1) (s_2.2.2),.agg #[.slice s_2.1 (s_2.2.1) (s_2.2.2), .int .i64 0, .bool true],.pointer (some ⟨2 * r_1.2.nb.size, 0, none⟩)] (r_1.2.new (.cells #[.slice s_2.1 (s_2.2.1) (s_2.2.2), .int .i64 0, .bool true] 58)) := by kernel_rfl
theorem k22_4 : P22 [1,1] = .ret := by kernel_rfl
theorem e22 {M : Mem} : finish Try.prog Try.f22 #[g0,g1,g2,g3,g4,g5,g6] M = some (g2, M) := by kernel_rfl
theorem w22_0 {Ax0 : Option Addr} {lx0 cx0 : Nat} {M : Mem} {Q : Value → Mem → Prop} (H :
    Cn Try.prog 44 #[.slice Ax0 lx0 cx0] M fun v1' N1' =>
     ∃ s2', asS v1' = some s2' ∧
     Q (.pointer (some ⟨2 * N1'.nb.size, 0, none⟩)) (N1'.new (.cells #[.slice s2'.1 (s2'.2.1) (s2'.2.2), .int .i64 0, .bool true] 58))) :
    Cn Try.prog 22 #[.slice Ax0 lx0 cx0] M Q := by
  refine Cn.of b22 d22 t22 ?_
  refine Rn.seq k22_0 (Rn.region k22_1 (fun call K => r22_0) (Rch.leaf (Rn.seq k22_2 (Rn.region k22_3 (fun call K => r22_1) (Rch.call H fun v1' N1' H => Rch.ex H fun s2' H => Rch.leaf ?_)))))
  exact Rn.ret k22_4 e22 H


/-! ### (*zoetrope/bits.Reader).Left: function 24 -/
noncomputable abbrev P24 (p : List Nat) : Code := subC (codeOf Try.f24) p
noncomputable abbrev O24 (p : List Nat) : Array Oper := opsOf (subC (codeOf Try.f24) p)
theorem b24 : Try.prog.funcs[24]? = some Try.f24 ∧ (Orc.tab Try.prog).lookup 24 = none := ⟨by kernel_rfl, by kernel_rfl⟩
theorem d24 : Try.f24.body = some (P24 []) := by kernel_rfl
theorem t24 {x0 : Option Addr} : #[.pointer x0] ++ Array.replicate (Try.f24.ntmps - (#[.pointer x0] : Array Value).size) undef = #[.pointer x0,undef,undef,undef,undef,undef,undef,undef] := by kernel_rfl
theorem k24_0 : P24 [] = .seq (P24 [0]) (P24 [1]) := by kernel_rfl
theorem k24_1 : P24 [0] = .region 0 (O24 [0]) false := by kernel_rfl
theorem r24_0 {M : Mem} {call : CallM} {K : Array Value → Mem → R} :
    opsK Try.prog (fun _ => call) (O24 [0]) (O24 [0]).toList 0 #[g0,g1,g2,g3,g4,g5,g6,g7] M K = K #[g0,g1,.int .i64 0,g3,g4,g5,g6,g7] M := by kernel_rfl
theorem k24_2 : P24 [1] = .seq (P24 [1,0]) (P24 [1,1]) := by kernel_rfl
theorem k24_3 : P24 [1,0] = .seq (P24 [1,0,0]) (P24 [1,0,1]) := by kernel_rfl
theorem k24_4 : P24 [1,0,0] = .region 1 (O24 [1,0,0]) false := by kernel_rfl
theorem r24_1 {x0 : Option Addr} {M : Mem} {call : CallM} {K : Array Value → Mem → R} :
    opsK Try.prog (fun _ => call) (O24 [1,0,0]) (O24 [1,0,0]).toList 0 #[.pointer x0,g1,g2,g3,g4,g5,g6,g7] M K = (call 46 #[.pointer x0] M).bind fun r_1 => (asB r_1.1).bind fun b_2 => K #[.pointer x0,g1,g2,.pointer x0,.bool b_2,.bool (!b_2),g6,g7] r_1.2 := by kernel_rfl
theorem c24_5 : P24 [1,0,1] = .cond (.tmp 5) (P24 [1,0,1,0]) (P24 [1,0,1,1]) := by kernel_rfl
theorem k24_6 : P24 [1,0,1,0] = .seq (P24 [1,0,1,0,0]) (P24 [1,0,1,0,1]) := by kernel_rfl
theorem k24_7 : P24 [1,0,1,0,0] = .region 2 (O24 [1,0,1,0,0]) false := by kernel_rfl
theorem r24_2 {M : Mem} {call : CallM} {K : Array Value → Mem → R} :
    opsK Try.prog (fun _ => call) (O24 [1,0,1,0,0]) (O24 [1,0,1,0,0]).toList 0 #[g0,g1,g2,g3,g4,g5,g6,g7] M K = K #[g0,g1,.int .i64 0,g3,g4,g5,g6,g7] M := by kernel_rfl
theorem k24_8 : P24 [1,0,1,0,1] = .ret := by kernel_rfl
theorem e24 {M : Mem} : finish Try.prog Try.f24 #[g0,g1,g2,g3,g4,g5,g6,g7] M = some (g2, M) := by kernel_rfl
theorem k24_10 : P24 [1,0,1,1] = .skip := by kernel_rfl
theorem k24_11 : P24 [1,1] = .seq (P24 [1,1,0]) (P24 [1,1,1]) := by kernel_rfl
theorem k24_12 : P24 [1,1,0] = .region 3 (O24 [1,1,0]) false := by kernel_rfl
theorem r24_3 {x0 : Option Addr} {M : Mem} {call : CallM} {K : Array Value → Mem → R} :
    opsK Try.prog (fun _ => call) (O24 [1,1,0]) (O24 [1,1,0]).toList 0 #[.pointer x0,g1,g2,g3,g4,g5,g6,g7] M K = (call 47 #[.pointer x0] M).bind fun r_1 => (asI .i64 r_1.1).bind fun x_2 => K #[.pointer x0,g1,.int .i64 x_2,g3,g4,g5,.pointer x0,.int .i64 x_2] r_1.2 := by kernel_rfl
theorem k24_13 : P24 [1,1,1] = .ret := by kernel_rfl
theorem w24_0 {x0 : Option Addr} {M : Mem} {Q : Value → Mem → Prop} (H :
    Cn Try.prog 46 #[.pointer x0] M fun v1' N1' =>
     ∃ b2', asB v1' = some b2' ∧
     (((!b2') = true →
      Q (.int .i64 0) N1') ∧
      ((!b2') = false →
      Cn Try.prog 47 #[.pointer x0] N1' fun v3' N3' =>
       ∃ x4', asI .i64 v3' = some x4' ∧
       Q (.int .i64 (x4')) N3'))) :
    Cn Try.prog 24 #[.pointer x0] M Q := by
  refine Cn.of b24 d24 t24 ?_
  refine Rn.seq k24_0 (Rn.region k24_1 (fun call K => r24_0) (Rch.leaf (Rn.seq k24_2 (Rn.seq k24_3 (Rn.region k24_4 (fun call K => r24_1) (Rch.call H fun v1' N1' H => Rch.ex H fun b2' H => Rch.leaf ?_))))))
  refine Rn.cnd (v := !b2') ⟨c24_5, rfl, by kernel_rfl⟩ (fun h => ?_) (fun h => ?_)
  · replace H := H.1 (h)
    refine Rn.seq k24_6 (Rn.region k24_7 (fun call K => r24_2) (Rch.leaf ?_))
    exact Rn.ret k24_8 e24 H
  · replace H := H.2 (h)
    refine Rn.skip k24_10 (Rn.seq k24_11 (Rn.region k24_12 (fun call K => r24_3) (Rch.call H fun v3' N3' H => Rch.ex H fun x4' H => Rch.leaf ?_)))
    exact Rn.ret k24_13 e24 H


/-! ### (*zoetrope/bits.Reader).Rest: function 29 -/
noncomputable abbrev P29 (p : List Nat) : Code := subC (codeOf Try.f29) p
noncomputable abbrev O29 (p : List Nat) : Array Oper := opsOf (subC (codeOf Try.f29) p)
theorem b29 : Try.prog.funcs[29]? = some Try.f29 ∧ (Orc.tab Try.prog).lookup 29 = none := ⟨by kernel_rfl, by kernel_rfl⟩
theorem d29 : Try.f29.body = some (P29 []) := by kernel_rfl
theorem t29 {x0 : Option Addr} : #[.pointer x0] ++ Array.replicate (Try.f29.ntmps - (#[.pointer x0] : Array Value).size) undef = #[.pointer x0,undef,undef,undef,undef,undef,undef,undef,undef,undef,undef,undef,undef,undef,undef,undef,undef,undef] := by kernel_rfl
theorem k29_0 : P29 [] = .seq (P29 [0]) (P29 [1]) := by kernel_rfl
theorem k29_1 : P29 [0] = .region 0 (O29 [0]) false := by kernel_rfl
theorem r29_0 {M : Mem} {call : CallM} {K : Array Value → Mem → R} :
    opsK Try.prog (fun _ => call) (O29 [0]) (O29 [0]).toList 0 #[g0,g1,g2,g3,g4,g5,g6,g7,g8,g9,g10,g11,g12,g13,g14,g15,g16,g17] M K = K #[g0,g1,.slice none 0 0,g3,g4,g5,g6,g7,g8,g9,g10,g11,g12,g13,g14,g15,g16,g17] M := by kernel_rfl
theorem k29_2 : P29 [1] = .seq (P29 [1,0]) (P29 [1,1]) := by kernel_rfl
theorem k29_3 : P29 [1,0] = .seq (P29 [1,0,0]) (P29 [1,0,1]) := by kernel_rfl
theorem k29_4 : P29 [1,0,0] = .region 1 (O29 [1,0,0]) false := by kernel_rfl
theorem r29_1 {x0 : Option Addr} {M : Mem} {call : CallM} {K : Array Value → Mem → R} :
    opsK Try.prog (fun _ => call) (O29 [1,0,0]) (O29 [1,0,0]).toList 0 #[.pointer x0,g1,g2,g3,g4,g5,g6,g7,g8,g9,g10,g11,g12,g13,g14,g15,g16,g17] M K = (call 46 #[.pointer x0] M).bind fun r_1 => (asB r_1.1).bind fun b_2 => K #[.pointer x0,g1,g2,.pointer x0,.bool b_2,.bool (!b_2),g6,g7,g8,g9,g10,g11,g12,g13,g14,g15,g16,g17] r_1.2 := by kernel_rfl
theorem c29_5 : P29 [1,0,1] = .cond (.tmp 5) (P29 [1,0,1,0]) (P29 [1,0,1,1]) := by kernel_rfl
theorem k29_6 : P29 [1,0,1,0] = .seq (P29 [1,0,1,0,0]) (P29 [1,0,1,0,1]) := by kernel_rfl
theorem k29_7 : P29 [1,0,1,0,0] = .region 2 (O29 [1,0,1,0,0]) false := by kernel_rfl
theorem r29_2 {M : Mem} {call : CallM} {K : Array Value → Mem → R} :
    opsK Try.prog (fun _ => call) (O29 [1,0,1,0,0]) (O29 [1,0,1,0,0]).toList 0 #[g0,g1,g2,g3,g4,g5,g6,g7,g8,g9,g10,g11,g12,g13,g14,g15,g16,g17] M K = K #[g0,g1,.slice none 0 0,g3,g4,g5,g6,g7,g8,g9,g10,g11,g12,g13,g14,g15,g16,g17] M := by kernel_rfl
theorem k29_8 : P29 [1,0,1,0,1] = .ret := by kernel_rfl
theorem e29 {M : Mem} : finish Try.prog Try.f29 #[g0,g1,g2,g3,g4,g5,g6,g7,g8,g9,g10,g11,g12,g13,g14,g15,g16,g17] M = some (g2, M) := by kernel_rfl
theorem k29_10 : P29 [1,0,1,1] = .skip := by kernel_rfl
theorem k29_11 : P29 [1,1] = .seq (P29 [1,1,0]) (P29 [1,1,1]) := by kernel_rfl
theorem k29_12 : P29 [1,1,0] = .region 3 (O29 [1,1,0]) true ∧ drawOk (O29 [1,1,0]) = true := ⟨by kernel_rfl, by kernel_rfl⟩
theorem r29_3 {x0 : Option Addr} {M : Mem} {call : CallM} {K : Array Value → Mem → R} :
    opsI Try.prog (callAt call (O29 [1,1,0])) (O29 [1,1,0]) (ordOf (O29 [1,1,0])) [] #[.pointer x0,g1,g2,g3,g4,g5,g6,g7,g8,g9,g10,g11,g12,g13,g14,g15,g16,g17] M K = (x0).bind fun a_1 => (M.slAt a_1.block a_1.off).bind fun s_2 => (x0).bind fun a_3 => (M.intAt .i64 a_3.block (a_3.off + 1)).bind fun x_4 => (sliceP Try.prog 37 (.slice s_2.1 (s_2.2.1) (s_2.2.2)) (some (.int .i64 (IntKind.i64.wrap ((IntKind.i64.wrap (x_4 + 7)).tdiv 8)))) none none).bind fun v_5 => (asS v_5).bind fun s_6 => (call 44 #[.slice s_6.1 (s_6.2.1) (s_6.2.2)] M).bind fun r_7 => (asS r_7.1).bind fun s_8 => K #[.pointer x0,g1,.slice s_8.1 (s_8.2.1) (s_8.2.2),g3,g4,g5,.pointer x0,.pointer (some a_1),.pointer (some ⟨a_1.block, a_1.off, none⟩),.slice s_2.1 (s_2.2.1) (s_2.2.2),.pointer x0,.pointer (some a_3),.pointer (some ⟨a_3.block, a_3.off + 1, none⟩),.int .i64 x_4,.int .i64 (IntKind.i64.wrap (x_4 + 7)),.int .i64 (IntKind.i64.wrap ((IntKind.i64.wrap (x_4 + 7)).tdiv 8)),.slice s_6.1 (s_6.2.1) (s_6.2.2),.slice s_8.1 (s_8.2.1) (s_8.2.2)] r_7.2 := by kernel_rfl
theorem k29_13 : P29 [1,1,1] = .ret := by kernel_rfl
theorem w29_0 {x0 : Option Addr} {M : Mem} {Q : Value → Mem → Prop} (H :
    Cn Try.prog 46 #[.pointer x0] M fun v1' N1' =>
     ∃ b2', asB v1' = some b2' ∧
     (((!b2') = true →
      Q (.slice none 0 0) N1') ∧
      ((!b2') = false →
      ∃ a3', x0 = some a3' ∧
      ∃ s4', N1'.slAt a3'.block a3'.off = some s4' ∧
      ∃ a5', x0 = some a5' ∧
      ∃ x6', N1'.intAt .i64 a5'.block (a5'.off + 1) = some x6' ∧
      ∃ v7', sliceP Try.prog 37 (.slice s4'.1 (s4'.2.1) (s4'.2.2)) (some (.int .i64 (IntKind.i64.wrap ((IntKind.i64.wrap (x6' + 7)).tdiv 8)))) none none = some v7' ∧
      ∃ s8', asS v7' = some s8' ∧
      Cn Try.prog 44 #[.slice s8'.1 (s8'.2.1) (s8'.2.2)] N1' fun v9' N9' =>
       ∃ s10', asS v9' = some s10' ∧
       Q (.slice s10'.1 (s10'.2.1) (s10'.2.2)) N9'))) :
    Cn Try.prog 29 #[.pointer x0] M Q := by
  refine Cn.of b29 d29 t29 ?_
  refine Rn.seq k29_0 (Rn.region k29_1 (fun call K => r29_0) (Rch.leaf (Rn.seq k29_2 (Rn.seq k29_3 (Rn.region k29_4 (fun call K => r29_1) (Rch.call H fun v1' N1' H => Rch.ex H fun b2' H => Rch.leaf ?_))))))
  refine Rn.cnd (v := !b2') ⟨c29_5, rfl, by kernel_rfl⟩ (fun h => ?_) (fun h => ?_)
  · replace H := H.1 (h)
    refine Rn.seq k29_6 (Rn.region k29_7 (fun call K => r29_2) (Rch.leaf ?_))
    exact Rn.ret k29_8 e29 H
  · replace H := H.2 (h)
    refine Rn.skip k29_10 (Rn.seq k29_11 (Rn.regionD k29_12 (fun call K => r29_3) (Rch.ex H fun a3' H => Rch.ex H fun s4' H => Rch.ex H fun a5' H => Rch.ex H fun x6' H => Rch.ex H fun v7' H => Rch.ex H fun s8' H => Rch.call H fun v9' N9' H => Rch.ex H fun s10' H => Rch.leaf ?_)))
    exact Rn.ret k29_13 e29 H


/-! ### (*zoetrope/bits.Reader).Align: function 31 -/
noncomputable abbrev P31 (p : List Nat) : Code := subC (codeOf Try.f31) p
noncomputable abbrev O31 (p : List Nat) : Array Oper := opsOf (subC (codeOf Try.f31) p)
theorem b31 : Try.prog.funcs[31]? = some Try.f31 ∧ (Orc.tab Try.prog).lookup 31 = none := ⟨by kernel_rfl, by kernel_rfl⟩
theorem d31 : Try.f31.body = some (P31 []) := by kernel_rfl
theorem t31 {x0 : Option Addr} : #[.pointer x0] ++ Array.replicate (Try.f31.ntmps - (#[.pointer x0] : Array Value).size) undef = #[.pointer x0,undef,undef,undef,undef,undef,undef,undef,undef,undef,undef,undef,undef,undef,undef,undef,undef,undef,undef,undef,undef,undef,undef,undef,undef,undef,undef,undef,undef] := by kernel_rfl
theorem k31_0 : P31 [] = .seq (P31 [0]) (P31 [1]) := by kernel_rfl
theorem k31_1 : P31 [0] = .region 0 (O31 [0]) false := by kernel_rfl
theorem r31_0 {M : Mem} {call : CallM} {K : Array Value → Mem → R} :
    opsK Try.prog (fun _ => call) (O31 [0]) (O31 [0]).toList 0 #[g0,g1,g2,g3,g4,g5,g6,g7,g8,g9,g10,g11,g12,g13,g14,g15,g16,g17,g18,g19,g20,g21,g22,g23,g24,g25,g26,g27,g28] M K = K #[g0,g1,.int .i64 0,g3,g4,g5,g6,g7,g8,g9,g10,g11,g12,g13,g14,g15,g16,g17,g18,g19,g20,g21,g22,g23,g24,g25,g26,g27,g28] M := by kernel_rfl
theorem k31_2 : P31 [1] = .seq (P31 [1,0]) (P31 [1,1]) := by kernel_rfl
theorem k31_3 : P31 [1,0] = .seq (P31 [1,0,0]) (P31 [1,0,1]) := by kernel_rfl
theorem k31_4 : P31 [1,0,0] = .region 1 (O31 [1,0,0]) false := by kernel_rfl
theorem r31_1 {x0 : Option Addr} {M : Mem} {call : CallM} {K : Array Value → Mem → R} :
    opsK Try.prog (fun _ => call) (O31 [1,0,0]) (O31 [1,0,0]).toList 0 #[.pointer x0,g1,g2,g3,g4,g5,g6,g7,g8,g9,g10,g11,g12,g13,g14,g15,g16,g17,g18,g19,g20,g21,g22,g23,g24,g25,g26,g27,g28] M K = (call 46 #[.pointer x0] M).bind fun r_1 => (asB r_1.1).bind fun b_2 => K #[.pointer x0,g1,g2,g3,.pointer x0,.bool b_2,.bool (!b_2),g7,g8,g9,g10,g11,g12,g13,g14,g15,g16,g17,g18,g19,g20,g21,g22,g23,g24,g25,g26,g27,g28] r_1.2 := by kernel_rfl
theorem c31_5 : P31 [1,0,1] = .cond (.tmp 6) (P31 [1,0,1,0]) (P31 [1,0,1,1]) := by kernel_rfl
theorem k31_6 : P31 [1,0,1,0] = .seq (P31 [1,0,1,0,0]) (P31 [1,0,1,0,1]) := by kernel_rfl
theorem k31_7 : P31 [1,0,1,0,0] = .region 2 (O31 [1,0,1,0,0]) false := by kernel_rfl
theorem r31_2 {M : Mem} {call : CallM} {K : Array Value → Mem → R} :
    opsK Try.prog (fun _ => call) (O31 [1,0,1,0,0]) (O31 [1,0,1,0,0]).toList 0 #[g0,g1,g2,g3,g4,g5,g6,g7,g8,g9,g10,g11,g12,g13,g14,g15,g16,g17,g18,g19,g20,g21,g22,g23,g24,g25,g26,g27,g28] M K = K #[g0,g1,.int .i64 1,g3,g4,g5,g6,g7,g8,g9,g10,g11,g12,g13,g14,g15,g16,g17,g18,g19,g20,g21,g22,g23,g24,g25,g26,g27,g28] M := by kernel_rfl
theorem k31_8 : P31 [1,0,1,0,1] = .ret := by kernel_rfl
theorem e31 {M : Mem} : finish Try.prog Try.f31 #[g0,g1,g2,g3,g4,g5,g6,g7,g8,g9,g10,g11,g12,g13,g14,g15,g16,g17,g18,g19,g20,g21,g22,g23,g24,g25,g26,g27,g28] M = some (g2, M) := by kernel_rfl
theorem k31_10 : P31 [1,0,1,1] = .skip := by kernel_rfl
theorem k31_11 : P31 [1,1] = .seq (P31 [1,1,0]) (P31 [1,1,1]) := by kernel_rfl
theorem k31_12 : P31 [1,1,0] = .region 3 (O31 [1,1,0]) false := by kernel_rfl
theorem r31_3 {x0 : Option Addr} {M : Mem} {call : CallM} {K : Array Value → Mem → R} :
    opsK Try.prog (fun _ => call) (O31 [1,1,0]) (O31 [1,1,0]).toList 0 #[.pointer x0,g1,g2,g3,g4,g5,g6,g7,g8,g9,g10,g11,g12,g13,g14,g15,g16,g17,g18,g19,g20,g21,g22,g23,g24,g25,g26,g27,g28] M K = (x0).bind fun a_1 => (M.intAt .i64 a_1.block (a_1.off + 1)).bind fun x_2 => K #[.pointer x0,g1,g2,.int .i64 (IntKind.i64.wrap (((BitVec.ofInt (IntKind.bits .i64) (IntKind.i64.wrap (0 - x_2)) &&& BitVec.ofInt (IntKind.bits .i64) 7).toNat : Int))),g4,g5,g6,.pointer x0,.pointer (some a_1),.pointer (some ⟨a_1.block, a_1.off + 1, none⟩),.int .i64 x_2,.int .i64 (IntKind.i64.wrap (0 - x_2)),.int .i64 (IntKind.i64.wrap (((BitVec.ofInt (IntKind.bits .i64) (IntKind.i64.wrap (0 - x_2)) &&& BitVec.ofInt (IntKind.bits .i64) 7).toNat : Int))),g13,g14,g15,g16,g17,g18,g19,g20,g21,g22,g23,g24,g25,g26,g27,g28] M := by kernel_rfl
theorem k31_13 : P31 [1,1,1] = .seq (P31 [1,1,1,0]) (P31 [1,1,1,1]) := by kernel_rfl
theorem k31_14 : P31 [1,1,1,0] = .seq (P31 [1,1,1,0,0]) (P31 [1,1,1,0,1]) := by kernel_rfl
theorem k31_15 : P31 [1,1,1,0,0] = .region 4 (O31 [1,1,1,0,0]) false := by kernel_rfl
theorem r31_4 {x0 : Option Addr} {x3 : Int} {M : Mem} {call : CallM} {K : Array Value → Mem → R} :
    opsK Try.prog (fun _ => call) (O31 [1,1,1,0,0]) (O31 [1,1,1,0,0]).toList 0 #[.pointer x0,g1,g2,.int .i64 x3,g4,g5,g6,g7,g8,g9,g10,g11,g12,g13,g14,g15,g16,g17,g18,g19,g20,g21,g22,g23,g24,g25,g26,g27,g28] M K = (x0).bind fun a_1 => (M.intAt .i64 a_1.block (a_1.off + 1)).bind fun x_2 => (call 54 #[.pointer x0, .int .i64 x_2, .int .i64 x3] M).bind fun r_3 => (asI .u32 r_3.1).bind fun x_4 => K #[.pointer x0,g1,g2,.int .i64 x3,g4,g5,g6,g7,g8,g9,g10,g11,g12,.pointer x0,.pointer x0,.pointer (some a_1),.pointer (some ⟨a_1.block, a_1.off + 1, none⟩),.int .i64 x_2,.int .i64 x3,.int .u32 x_4,.bool (x_4 != 0),g21,g22,g23,g24,g25,g26,g27,g28] r_3.2 := by kernel_rfl
theorem c31_16 : P31 [1,1,1,0,1] = .cond (.tmp 20) (P31 [1,1,1,0,1,0]) (P31 [1,1,1,0,1,1]) := by kernel_rfl
theorem k31_17 : P31 [1,1,1,0,1,0] = .seq (P31 [1,1,1,0,1,0,0]) (P31 [1,1,1,0,1,0,1]) := by kernel_rfl
theorem k31_18 : P31 [1,1,1,0,1,0,0] = .region 5 (O31 [1,1,1,0,1,0,0]) false := by kernel_rfl
theorem r31_5 {M : Mem} {call : CallM} {K : Array Value → Mem → R} :
    opsK Try.prog (fun _ => call) (O31 [1,1,1,0,1,0,0]) (O31 [1,1,1,0,1,0,0]).toList 0 #[g0,g1,g2,g3,g4,g5,g6,g7,g8,g9,g10,g11,g12,g13,g14,g15,g16,g17,g18,g19,g20,g21,g22,g23,g24,g25,g26,g27,g28] M K = K #[g0,g1,.int .i64 4,g3,g4,g5,g6,g7,g8,g9,g10,g11,g12,g13,g14,g15,g16,g17,g18,g19,g20,g21,g22,g23,g24,g25,g26,g27,g28] M := by kernel_rfl
theorem k31_19 : P31 [1,1,1,0,1,0,1] = .ret := by kernel_rfl
theorem k31_20 : P31 [1,1,1,0,1,1] = .skip := by kernel_rfl
theorem k31_21 : P31 [1,1,1,1] = .seq (P31 [1,1,1,1,0]) (P31 [1,1,1,1,1]) := by kernel_rfl
theorem k31_22 : P31 [1,1,1,1,0] = .region 6 (O31 [1,1,1,1,0]) false := by kernel_rfl
theorem r31_6 {x0 : Option Addr} {x3 : Int} {M : Mem} {call : CallM} {K : Array Value → Mem → R} :
    opsK Try.prog (fun _ => call) (O31 [1,1,1,1,0]) (O31 [1,1,1,1,0]).toList 0 #[.pointer x0,g1,g2,.int .i64 x3,g4,g5,g6,g7,g8,g9,g10,g11,g12,g13,g14,g15,g16,g17,g18,g19,g20,g21,g22,g23,g24,g25,g26,g27,g28] M K = (x0).bind fun a_1 => (M.intAt .i64 a_1.block (a_1.off + 1)).bind fun x_2 => (x0).bind fun a_3 => (M.put a_3.block (a_3.off + 1) (.int .i64 (IntKind.i64.wrap (x_2 + x3)))).bind fun M_4 => K #[.pointer x0,g1,g2,.int .i64 x3,g4,g5,g6,g7,g8,g9,g10,g11,g12,g13,g14,g15,g16,g17,g18,g19,g20,.pointer x0,.pointer (some a_1),.pointer (some ⟨a_1.block, a_1.off + 1, none⟩),.int .i64 x_2,.int .i64 x3,.int .i64 (IntKind.i64.wrap (x_2 + x3)),.pointer (some a_3),.pointer (some ⟨a_3.block, a_3.off + 1, none⟩)] M_4 := by kernel_rfl
theorem k31_23 : P31 [1,1,1,1,1] = .seq (P31 [1,1,1,1,1,0]) (P31 [1,1,1,1,1,1]) := by kernel_rfl
theorem k31_24 : P31 [1,1,1,1,1,0] = .region 7 (O31 [1,1,1,1,1,0]) false := by kernel_rfl
theorem r31_7 {M : Mem} {call : CallM} {K : Array Value → Mem → R} :
    opsK Try.prog (fun _ => call) (O31 [1,1,1,1,1,0]) (O31 [1,1,1,1,1,0]).toList 0 #[g0,g1,g2,g3,g4,g5,g6,g7,g8,g9,g10,g11,g12,g13,g14,g15,g16,g17,g18,g19,g20,g21,g22,g23,g24,g25,g26,g27,g28] M K = K #[g0,g1,.int .i64 0,g3,g4,g5,g6,g7,g8,g9,g10,g11,g12,g13,g14,g15,g16,g17,g18,g19,g20,g21,g22,g23,g24,g25,g26,g27,g28] M := by kernel_rfl
theorem k31_25 : P31 [1,1,1,1,1,1] = .ret := by kernel_rfl
theorem w31_0 {x0 : Option Addr} {M : Mem} {Q : Value → Mem → Prop} (H :
    Cn Try.prog 46 #[.pointer x0] M fun v1' N1' =>
     ∃ b2', asB v1' = some b2' ∧
     (((!b2') = true →
      Q (.int .i64 1) N1') ∧
      ((!b2') = false →
      ∃ a3', x0 = some a3' ∧
      ∃ x4', N1'.intAt .i64 a3'.block (a3'.off + 1) = some x4' ∧
      ∃ a5', x0 = some a5' ∧
      ∃ x6', N1'.intAt .i64 a5'.block (a5'.off + 1) = some x6' ∧
      Cn Try.prog 54 #[.pointer x0, .int .i64 x6', .int .i64 (IntKind.i64.wrap (((BitVec.ofInt (IntKind.bits .i64) (IntKind.i64.wrap (0 - x4')) &&& BitVec.ofInt (IntKind.bits .i64) 7).toNat : Int)))] N1' fun v7' N7' =>
       ∃ x8', asI .u32 v7' = some x8' ∧
       ((x8' ≠ 0 →
        Q (.int .i64 4) N7') ∧
        (x8' = 0 →
        ∃ a9', x0 = some a9' ∧
        ∃ x10', N7'.intAt .i64 a9'.block (a9'.off + 1) = some x10' ∧
        ∃ a11', x0 = some a11' ∧
        ∃ M12', N7'.put a11'.block (a11'.off + 1) (.int .i64 (IntKind.i64.wrap (x10' + (IntKind.i64.wrap (((BitVec.ofInt (IntKind.bits .i64) (IntKind.i64.wrap (0 - x4')) &&& BitVec.ofInt (IntKind.bits .i64) 7).toNat : Int)))))) = some M12' ∧
        Q (.int .i64 0) M12'))))) :
    Cn Try.prog 31 #[.pointer x0] M Q := by
  refine Cn.of b31 d31 t31 ?_
  refine Rn.seq k31_0 (Rn.region k31_1 (fun call K => r31_0) (Rch.leaf (Rn.seq k31_2 (Rn.seq k31_3 (Rn.region k31_4 (fun call K => r31_1) (Rch.call H fun v1' N1' H => Rch.ex H fun b2' H => Rch.leaf ?_))))))
  refine Rn.cnd (v := !b2') ⟨c31_5, rfl, by kernel_rfl⟩ (fun h => ?_) (fun h => ?_)
  · replace H := H.1 (h)
    refine Rn.seq k31_6 (Rn.region k31_7 (fun call K => r31_2) (Rch.leaf ?_))
    exact Rn.ret k31_8 e31 H
  · replace H := H.2 (h)
    refine Rn.skip k31_10 (Rn.seq k31_11 (Rn.region k31_12 (fun call K => r31_3) (Rch.ex H fun a3' H => Rch.ex H fun x4' H => Rch.leaf (Rn.seq k31_13 (Rn.seq k31_14 (Rn.region k31_15 (fun call K => r31_4) (Rch.ex H fun a5' H => Rch.ex H fun x6' H => Rch.call H fun v7' N7' H => ?_)))))))
    refine Rch.ex H fun x8' H => Rch.leaf ?_
    refine Rn.cnd (v := x8' != 0) ⟨c31_16, rfl, by kernel_rfl⟩ (fun h => ?_) (fun h => ?_)
    · replace H := H.1 (ne_of_bneT h)
      refine Rn.seq k31_17 (Rn.region k31_18 (fun call K => r31_5) (Rch.leaf ?_))
      exact Rn.ret k31_19 e31 H
    · replace H := H.2 (eq_of_bneF h)
      refine Rn.skip k31_20 (Rn.seq k31_21 (Rn.region k31_22 (fun call K => r31_6) (Rch.ex H fun a9' H => Rch.ex H fun x10' H => Rch.ex H fun a11' H => Rch.ex H fun M12' H => Rch.leaf (Rn.seq k31_23 (Rn.region k31_24 (fun call K => r31_7) (Rch.leaf ?_))))))
      exact Rn.ret k31_25 e31 H


/-! ### (*zoetrope/bits.Reader).Fixed: function 37 -/
noncomputable abbrev P37 (p : List Nat) : Code := subC (codeOf Try.f37) p
noncomputable abbrev O37 (p : List Nat) : Array Oper := opsOf (subC (codeOf Try.f37) p)
theorem b37 : Try.prog.funcs[37]? = some Try.f37 ∧ (Orc.tab Try.prog).lookup 37 = none := ⟨by kernel_rfl, by kernel_rfl⟩
theorem d37 : Try.f37.body = some (P37 []) := by kernel_rfl
theorem t37 {x0 : Option Addr} {x1 : Int} : #[.pointer x0,.int .i64 x1] ++ Array.replicate (Try.f37.ntmps - (#[.pointer x0,.int .i64 x1] : Array Value).size) undef = #[.pointer x0,.int .i64 x1,undef,undef,undef,undef,undef,undef,undef,undef,undef,undef,undef,undef,undef,undef,undef,undef,undef,undef,undef,undef,undef,undef,undef,undef,undef,undef,undef,undef,undef,undef,undef,undef,undef,undef,undef,undef,undef] := by kernel_rfl
theorem k37_0 : P37 [] = .seq (P37 [0]) (P37 [1]) := by kernel_rfl
theorem k37_1 : P37 [0] = .region 0 (O37 [0]) false := by kernel_rfl
theorem r37_0 {M : Mem} {call : CallM} {K : Array Value → Mem → R} :
    opsK Try.prog (fun _ => call) (O37 [0]) (O37 [0]).toList 0 #[g0,g1,g2,g3,g4,g5,g6,g7,g8,g9,g10,g11,g12,g13,g14,g15,g16,g17,g18,g19,g20,g21,g22,g23,g24,g25,g26,g27,g28,g29,g30,g31,g32,g33,g34,g35,g36,g37,g38] M K = K #[g0,g1,g2,g3,.int .u32 0,.int .i64 0,g6,g7,g8,g9,g10,g11,g12,g13,g14,g15,g16,g17,g18,g19,g20,g21,g22,g23,g24,g25,g26,g27,g28,g29,g30,g31,g32,g33,g34,g35,g36,g37,g38] M := by kernel_rfl
theorem k37_2 : P37 [1] = .seq (P37 [1,0]) (P37 [1,1]) := by kernel_rfl
theorem k37_3 : P37 [1,0] = .block 0 (P37 [1,0,0]) := by kernel_rfl
theorem k37_4 : P37 [1,0,0] = .seq (P37 [1,0,0,0]) (P37 [1,0,0,1]) := by kernel_rfl
theorem k37_5 : P37 [1,0,0,0] = .region 1 (O37 [1,0,0,0]) false := by kernel_rfl
theorem r37_1 {x0 : Option Addr} {M : Mem} {call : CallM} {K : Array Value → Mem → R} :
    opsK Try.prog (fun _ => call) (O37 [1,0,0,0]) (O37 [1,0,0,0]).toList 0 #[.pointer x0,g1,g2,g3,g4,g5,g6,g7,g8,g9,g10,g11,g12,g13,g14,g15,g16,g17,g18,g19,g20,g21,g22,g23,g24,g25,g26,g27,g28,g29,g30,g31,g32,g33,g34,g35,g36,g37,g38] M K = (call 46 #[.pointer x0] M).bind fun r_1 => (asB r_1.1).bind fun b_2 => K #[.pointer x0,g1,g2,g3,g4,g5,g6,.bool (!b_2),.pointer x0,.bool b_2,.bool (!b_2),g11,g12,g13,g14,g15,g16,g17,g18,g19,g20,g21,g22,g23,g24,g25,g26,g27,g28,g29,g30,g31,g32,g33,g34,g35,g36,g37,g38] r_1.2 := by kernel_rfl
theorem c37_6 : P37 [1,0,0,1] = .cond (.tmp 7) (P37 [1,0,0,1,0]) (P37 [1,0,0,1,1]) := by kernel_rfl
theorem k37_7 : P37 [1,0,0,1,0] = .seq (P37 [1,0,0,1,0,0]) (P37 [1,0,0,1,0,1]) := by kernel_rfl
theorem k37_8 : P37 [1,0,0,1,0,0] = .region 2 (O37 [1,0,0,1,0,0]) false := by kernel_rfl
theorem r37_2 {M : Mem} {call : CallM} {K : Array Value → Mem → R} :
    opsK Try.prog (fun _ => call) (O37 [1,0,0,1,0,0]) (O37 [1,0,0,1,0,0]).toList 0 #[g0,g1,g2,g3,g4,g5,g6,g7,g8,g9,g10,g11,g12,g13,g14,g15,g16,g17,g18,g19,g20,g21,g22,g23,g24,g25,g26,g27,g28,g29,g30,g31,g32,g33,g34,g35,g36,g37,g38] M K = K #[g0,g1,g2,g3,.int .u32 0,.int .i64 1,g6,g7,g8,g9,g10,g11,g12,g13,g14,g15,g16,g17,g18,g19,g20,g21,g22,g23,g24,g25,g26,g27,g28,g29,g30,g31,g32,g33,g34,g35,g36,g37,g38] M := by kernel_rfl
theorem k37_9 : P37 [1,0,0,1,0,1] = .ret := by kernel_rfl
theorem e37 {M : Mem} : finish Try.prog Try.f37 #[g0,g1,g2,g3,g4,g5,g6,g7,g8,g9,g10,g11,g12,g13,g14,g15,g16,g17,g18,g19,g20,g21,g22,g23,g24,g25,g26,g27,g28,g29,g30,g31,g32,g33,g34,g35,g36,g37,g38] M = some (.tuple #[g4, g5], M) := by kernel_rfl
theorem k37_11 : P37 [1,0,0,1,1] = .seq (P37 [1,0,0,1,1,0]) (P37 [1,0,0,1,1,1]) := by kernel_rfl
theorem k37_12 : P37 [1,0,0,1,1,0] = .region 3 (O37 [1,0,0,1,1,0]) false := by kernel_rfl
theorem r37_3 {x1 : Int} {M : Mem} {call : CallM} {K : Array Value → Mem → R} :
    opsK Try.prog (fun _ => call) (O37 [1,0,0,1,1,0]) (O37 [1,0,0,1,1,0]).toList 0 #[g0,.int .i64 x1,g2,g3,g4,g5,g6,g7,g8,g9,g10,g11,g12,g13,g14,g15,g16,g17,g18,g19,g20,g21,g22,g23,g24,g25,g26,g27,g28,g29,g30,g31,g32,g33,g34,g35,g36,g37,g38] M K = withK (fun w11 w14 w15 w16 w17 M => K #[g0,.int .i64 x1,g2,g3,g4,g5,g6,g7,g8,g9,g10,w11,.int .i64 x1,.bool (decide (x1 < 0)),w14,w15,w16,w17,g18,g19,g20,g21,g22,g23,g24,g25,g26,g27,g28,g29,g30,g31,g32,g33,g34,g35,g36,g37,g38] M) fun k => cond (decide (x1 < 0)) (k (.bool true) (.bool true) undef undef (.bool true) M) (k (.bool (decide (x1 > 32))) (.bool false) (.int .i64 x1) (.bool (decide (x1 > 32))) (.bool (decide (x1 > 32))) M) := by kernel_rfl
theorem c37_13 : P37 [1,0,0,1,1,1] = .cond (.tmp 11) (P37 [1,0,0,1,1,1,0]) (P37 [1,0,0,1,1,1,1]) := by kernel_rfl
theorem k37_14 : P37 [1,0,0,1,1,1,0] = .seq (P37 [1,0,0,1,1,1,0,0]) (P37 [1,0,0,1,1,1,0,1]) := by kernel_rfl
theorem k37_15 : P37 [1,0,0,1,1,1,0,0] = .region 4 (O37 [1,0,0,1,1,1,0,0]) false := by kernel_rfl
theorem r37_4 {M : Mem} {call : CallM} {K : Array Value → Mem → R} :
    opsK Try.prog (fun _ => call) (O37 [1,0,0,1,1,1,0,0]) (O37 [1,0,0,1,1,1,0,0]).toList 0 #[g0,g1,g2,g3,g4,g5,g6,g7,g8,g9,g10,g11,g12,g13,g14,g15,g16,g17,g18,g19,g20,g21,g22,g23,g24,g25,g26,g27,g28,g29,g30,g31,g32,g33,g34,g35,g36,g37,g38] M K = K #[g0,g1,g2,g3,.int .u32 0,.int .i64 2,g6,g7,g8,g9,g10,g11,g12,g13,g14,g15,g16,g17,g18,g19,g20,g21,g22,g23,g24,g25,g26,g27,g28,g29,g30,g31,g32,g33,g34,g35,g36,g37,g38] M := by kernel_rfl
theorem k37_16 : P37 [1,0,0,1,1,1,0,1] = .ret := by kernel_rfl
theorem k37_17 : P37 [1,0,0,1,1,1,1] = .seq (P37 [1,0,0,1,1,1,1,0]) (P37 [1,0,0,1,1,1,1,1]) := by kernel_rfl
theorem k37_18 : P37 [1,0,0,1,1,1,1,0] = .region 5 (O37 [1,0,0,1,1,1,1,0]) false := by kernel_rfl
theorem r37_5 {x0 : Option Addr} {x1 : Int} {M : Mem} {call : CallM} {K : Array Value → Mem → R} :
    opsK Try.prog (fun _ => call) (O37 [1,0,0,1,1,1,1,0]) (O37 [1,0,0,1,1,1,1,0]).toList 0 #[.pointer x0,.int .i64 x1,g2,g3,g4,g5,g6,g7,g8,g9,g10,g11,g12,g13,g14,g15,g16,g17,g18,g19,g20,g21,g22,g23,g24,g25,g26,g27,g28,g29,g30,g31,g32,g33,g34,g35,g36,g37,g38] M K = (call 47 #[.pointer x0] M).bind fun r_1 => (asI .i64 r_1.1).bind fun x_2 => K #[.pointer x0,.int .i64 x1,g2,g3,g4,g5,g6,g7,g8,g9,g10,g11,g12,g13,g14,g15,g16,g17,.bool (decide (x1 > x_2)),.int .i64 x1,.pointer x0,.int .i64 x_2,.bool (decide (x1 > x_2)),g23,g24,g25,g26,g27,g28,g29,g30,g31,g32,g33,g34,g35,g36,g37,g38] r_1.2 := by kernel_rfl
theorem c37_19 : P37 [1,0,0,1,1,1,1,1] = .cond (.tmp 18) (P37 [1,0,0,1,1,1,1,1,0]) (P37 [1,0,0,1,1,1,1,1,1]) := by kernel_rfl
theorem k37_20 : P37 [1,0,0,1,1,1,1,1,0] = .seq (P37 [1,0,0,1,1,1,1,1,0,0]) (P37 [1,0,0,1,1,1,1,1,0,1]) := by kernel_rfl
theorem k37_21 : P37 [1,0,0,1,1,1,1,1,0,0] = .region 6 (O37 [1,0,0,1,1,1,1,1,0,0]) false := by kernel_rfl
theorem r37_6 {M : Mem} {call : CallM} {K : Array Value → Mem → R} :
    opsK Try.prog (fun _ => call) (O37 [1,0,0,1,1,1,1,1,0,0]) (O37 [1,0,0,1,1,1,1,1,0,0]).toList 0 #[g0,g1,g2,g3,g4,g5,g6,g7,g8,g9,g10,g11,g12,g13,g14,g15,g16,g17,g18,g19,g20,g21,g22,g23,g24,g25,g26,g27,g28,g29,g30,g31,g32,g33,g34,g35,g36,g37,g38] M K = K #[g0,g1,g2,g3,.int .u32 0,.int .i64 3,g6,g7,g8,g9,g10,g11,g12,g13,g14,g15,g16,g17,g18,g19,g20,g21,g22,g23,g24,g25,g26,g27,g28,g29,g30,g31,g32,g33,g34,g35,g36,g37,g38] M := by kernel_rfl
theorem k37_22 : P37 [1,0,0,1,1,1,1,1,0,1] = .ret := by kernel_rfl
theorem k37_23 : P37 [1,0,0,1,1,1,1,1,1] = .skip := by kernel_rfl
theorem k37_24 : P37 [1,1] = .seq (P37 [1,1,0]) (P37 [1,1,1]) := by kernel_rfl
theorem k37_25 : P37 [1,1,0] = .region 7 (O37 [1,1,0]) false := by kernel_rfl
theorem r37_7 {x0 : Option Addr} {x1 : Int} {M : Mem} {call : CallM} {K : Array Value → Mem → R} :
    opsK Try.prog (fun _ => call) (O37 [1,1,0]) (O37 [1,1,0]).toList 0 #[.pointer x0,.int .i64 x1,g2,g3,g4,g5,g6,g7,g8,g9,g10,g11,g12,g13,g14,g15,g16,g17,g18,g19,g20,g21,g22,g23,g24,g25,g26,g27,g28,g29,g30,g31,g32,g33,g34,g35,g36,g37,g38] M K = (x0).bind fun a_1 => (M.intAt .i64 a_1.block (a_1.off + 1)).bind fun x_2 => (call 54 #[.pointer x0, .int .i64 x_2, .int .i64 x1] M).bind fun r_3 => (asI .u32 r_3.1).bind fun x_4 => K #[.pointer x0,.int .i64 x1,g2,g3,g4,g5,.int .u32 x_4,g7,g8,g9,g10,g11,g12,g13,g14,g15,g16,g17,g18,g19,g20,g21,g22,.pointer x0,.pointer x0,.pointer (some a_1),.pointer (some ⟨a_1.block, a_1.off + 1, none⟩),.int .i64 x_2,.int .i64 x1,.int .u32 x_4,g30,g31,g32,g33,g34,g35,g36,g37,g38] r_3.2 := by kernel_rfl
theorem k37_26 : P37 [1,1,1] = .seq (P37 [1,1,1,0]) (P37 [1,1,1,1]) := by kernel_rfl
theorem k37_27 : P37 [1,1,1,0] = .region 8 (O37 [1,1,1,0]) false := by kernel_rfl
theorem r37_8 {x0 : Option Addr} {x1 : Int} {M : Mem} {call : CallM} {K : Array Value → Mem → R} :
    opsK Try.prog (fun _ => call) (O37 [1,1,1,0]) (O37 [1,1,1,0]).toList 0 #[.pointer x0,.int .i64 x1,g2,g3,g4,g5,g6,g7,g8,g9,g10,g11,g12,g13,g14,g15,g16,g17,g18,g19,g20,g21,g22,g23,g24,g25,g26,g27,g28,g29,g30,g31,g32,g33,g34,g35,g36,g37,g38] M K = (x0).bind fun a_1 => (M.intAt .i64 a_1.block (a_1.off + 1)).bind fun x_2 => (x0).bind fun a_3 => (M.put a_3.block (a_3.off + 1) (.int .i64 (IntKind.i64.wrap (x_2 + x1)))).bind fun M_4 => K #[.pointer x0,.int .i64 x1,g2,g3,g4,g5,g6,g7,g8,g9,g10,g11,g12,g13,g14,g15,g16,g17,g18,g19,g20,g21,g22,g23,g24,g25,g26,g27,g28,g29,.pointer x0,.pointer (some a_1),.pointer (some ⟨a_1.block, a_1.off + 1, none⟩),.int .i64 x_2,.int .i64 x1,.int .i64 (IntKind.i64.wrap (x_2 + x1)),.pointer (some a_3),.pointer (some ⟨a_3.block, a_3.off + 1, none⟩),g38] M_4 := by kernel_rfl
theorem k37_28 : P37 [1,1,1,1] = .seq (P37 [1,1,1,1,0]) (P37 [1,1,1,1,1]) := by kernel_rfl
theorem k37_29 : P37 [1,1,1,1,0] = .region 9 (O37 [1,1,1,1,0]) false := by kernel_rfl
theorem r37_9 {x6 : Int} {M : Mem} {call : CallM} {K : Array Value → Mem → R} :
    opsK Try.prog (fun _ => call) (O37 [1,1,1,1,0]) (O37 [1,1,1,1,0]).toList 0 #[g0,g1,g2,g3,g4,g5,.int .u32 x6,g7,g8,g9,g10,g11,g12,g13,g14,g15,g16,g17,g18,g19,g20,g21,g22,g23,g24,g25,g26,g27,g28,g29,g30,g31,g32,g33,g34,g35,g36,g37,g38] M K = K #[g0,g1,g2,g3,.int .u32 x6,.int .i64 0,.int .u32 x6,g7,g8,g9,g10,g11,g12,g13,g14,g15,g16,g17,g18,g19,g20,g21,g22,g23,g24,g25,g26,g27,g28,g29,g30,g31,g32,g33,g34,g35,g36,g37,.int .u32 x6] M := by kernel_rfl
theorem k37_30 : P37 [1,1,1,1,1] = .ret := by kernel_rfl
noncomputable def S37_1 : List Item := [.code (P37 [1,0,0,1,1,1]), .inBlock 0, .code (P37 [1,1])]
def A37_1 (x0 : Option Addr) (x1 : Int) (x11 : Bool) (M : Mem) (Q : Value → Mem → Prop) : Prop := ∀ (g2 g3 g4 g5 g6 g7 g8 g9 g10 g12 g13 g14 g15 g16 g17 g18 g19 g20 g21 g22 g23 g24 g25 g26 g27 g28 g29 g30 g31 g32 g33 g34 g35 g36 g37 g38 : Value), Rn Try.prog Try.f37 S37_1 #[.pointer x0, .int .i64 x1, g2, g3, g4, g5, g6, g7, g8, g9, g10, .bool x11, g12, g13, g14, g15, g16, g17, g18, g19, g20, g21, g22, g23, g24, g25, g26, g27, g28, g29, g30, g31, g32, g33, g34, g35, g36, g37, g38] M Q
theorem w37_0 {x0 : Option Addr} {x1 : Int} {M : Mem} {Q : Value → Mem → Prop} (H :
    Cn Try.prog 46 #[.pointer x0] M fun v1' N1' =>
     ∃ b2', asB v1' = some b2' ∧
     (((!b2') = true →
      Q (.tuple #[.int .u32 0, .int .i64 1]) N1') ∧
      ((!b2') = false →
      ((x1 < 0 →
       A37_1 x0 x1 true N1' Q) ∧
       (¬ (x1 < 0) →
       A37_1 x0 x1 (decide (x1 > 32)) N1' Q))))) :
    Cn Try.prog 37 #[.pointer x0, .int .i64 x1] M Q := by
  refine Cn.of b37 d37 t37 ?_
  refine Rn.seq k37_0 (Rn.region k37_1 (fun call K => r37_0) (Rch.leaf (Rn.seq k37_2 (Rn.block k37_3 (Rn.seq k37_4 (Rn.region k37_5 (fun call K => r37_1) (Rch.call H fun v1' N1' H => Rch.ex H fun b2' H => Rch.leaf ?_)))))))
  refine Rn.cnd (v := !b2') ⟨c37_6, rfl, by kernel_rfl⟩ (fun h => ?_) (fun h => ?_)
  · replace H := H.1 (h)
    refine Rn.seq k37_7 (Rn.region k37_8 (fun call K => r37_2) (Rch.leaf ?_))
    exact Rn.ret k37_9 e37 H
  · replace H := H.2 (h)
    refine Rn.seq k37_11 (Rn.region k37_12 (fun call K => r37_3) ?_)
    refine Rch.cB (fun h => ?_) (fun h => ?_)
    · replace H := H.1 (of_decide_eq_true h)
      refine Rch.leaf ?_
      exact H _ _ _ _ _ _ _ _ _ _ _ _ _ _ _ _ _ _ _ _ _ _ _ _ _ _ _ _ _ _ _ _ _ _ _ _
    · replace H := H.2 (of_decide_eq_false h)
      refine Rch.leaf ?_
      exact H _ _ _ _ _ _ _ _ _ _ _ _ _ _ _ _ _ _ _ _ _ _ _ _ _ _ _ _ _ _ _ _ _ _ _ _

theorem w37_1 {x0 : Option Addr} {x1 : Int} {x11 : Bool} {M : Mem} {Q : Value → Mem → Prop} (H :
    ((x11 = true →
     Q (.tuple #[.int .u32 0, .int .i64 2]) M) ∧
     (x11 = false →
     Cn Try.prog 47 #[.pointer x0] M fun v3' N3' =>
      ∃ x4', asI .i64 v3' = some x4' ∧
      ((x1 > x4' →
       Q (.tuple #[.int .u32 0, .int .i64 3]) N3') ∧
       (¬ (x1 > x4') →
       ∃ a5', x0 = some a5' ∧
       ∃ x6', N3'.intAt .i64 a5'.block (a5'.off + 1) = some x6' ∧
       Cn Try.prog 54 #[.pointer x0, .int .i64 x6', .int .i64 x1] N3' fun v7' N7' =>
        ∃ x8', asI .u32 v7' = some x8' ∧
        ∃ a9', x0 = some a9' ∧
        ∃ x10', N7'.intAt .i64 a9'.block (a9'.off + 1) = some x10' ∧
        ∃ a11', x0 = some a11' ∧
        ∃ M12', N7'.put a11'.block (a11'.off + 1) (.int .i64 (IntKind.i64.wrap (x10' + x1))) = some M12' ∧
        Q (.tuple #[.int .u32 (x8'), .int .i64 0]) M12'))))) :
    A37_1 x0 x1 x11 M Q := by
  intro g2 g3 g4 g5 g6 g7 g8 g9 g10 g12 g13 g14 g15 g16 g17 g18 g19 g20 g21 g22 g23 g24 g25 g26 g27 g28 g29 g30 g31 g32 g33 g34 g35 g36 g37 g38
  refine Rn.cnd (v := x11) ⟨c37_13, rfl, by kernel_rfl⟩ (fun h => ?_) (fun h => ?_)
  · replace H := H.1 (h)
    refine Rn.seq k37_14 (Rn.region k37_15 (fun call K => r37_4) (Rch.leaf ?_))
    exact Rn.ret k37_16 e37 H
  · replace H := H.2 (h)
    refine Rn.seq k37_17 (Rn.region k37_18 (fun call K => r37_5) (Rch.call H fun v3' N3' H => Rch.ex H fun x4' H => Rch.leaf ?_))
    refine Rn.cnd (v := decide (x1 > x4')) ⟨c37_19, rfl, by kernel_rfl⟩ (fun h => ?_) (fun h => ?_)
    · replace H := H.1 (of_decide_eq_true h)
      refine Rn.seq k37_20 (Rn.region k37_21 (fun call K => r37_6) (Rch.leaf ?_))
      exact Rn.ret k37_22 e37 H
    · replace H := H.2 (of_decide_eq_false h)
      refine Rn.skip k37_23 (Rn.blk (Rn.seq k37_24 (Rn.region k37_25 (fun call K => r37_7) (Rch.ex H fun a5' H => Rch.ex H fun x6' H => Rch.call H fun v7' N7' H => Rch.ex H fun x8' H => Rch.leaf (Rn.seq k37_26 (Rn.region k37_27 (fun call K => r37_8) (Rch.ex H fun a9' H => ?_)))))))
      refine Rch.ex H fun x10' H => Rch.ex H fun a11' H => Rch.ex H fun M12' H => Rch.leaf (Rn.seq k37_28 (Rn.region k37_29 (fun call K => r37_9) (Rch.leaf ?_)))
      exact Rn.ret k37_30 e37 H


/-! ### (*zoetrope/bits.Reader).Signed: function 38 -/
noncomputable abbrev P38 (p : List Nat) : Code := subC (codeOf Try.f38) p
noncomputable abbrev O38 (p : List Nat) : Array Oper := opsOf (subC (codeOf Try.f38) p)
theorem b38 : Try.prog.funcs[38]? = some Try.f38 ∧ (Orc.tab Try.prog).lookup 38 = none := ⟨by kernel_rfl, by kernel_rfl⟩
theorem d38 : Try.f38.body = some (P38 []) := by kernel_rfl
theorem t38 {x0 : Option Addr} {x1 : Int} : #[.pointer x0,.int .i64 x1] ++ Array.replicate (Try.f38.ntmps - (#[.pointer x0,.int .i64 x1] : Array Value).size) undef = #[.pointer x0,.int .i64 x1,undef,undef,undef,undef,undef,undef,undef,undef,undef,undef,undef,undef,undef,undef,undef,undef,undef,undef,undef,undef,undef,undef,undef,undef,undef,undef,undef,undef,undef,undef,undef,undef,undef,undef,undef,undef,undef,undef,undef,undef,undef,undef,undef,undef,undef,undef,undef,undef,undef,undef,undef,undef] := by kernel_rfl
theorem k38_0 : P38 [] = .seq (P38 [0]) (P38 [1]) := by kernel_rfl
theorem k38_1 : P38 [0] = .region 0 (O38 [0]) false := by kernel_rfl
theorem r38_0 {M : Mem} {call : CallM} {K : Array Value → Mem → R} :
    opsK Try.prog (fun _ => call) (O38 [0]) (O38 [0]).toList 0 #[g0,g1,g2,g3,g4,g5,g6,g7,g8,g9,g10,g11,g12,g13,g14,g15,g16,g17,g18,g19,g20,g21,g22,g23,g24,g25,g26,g27,g28,g29,g30,g31,g32,g33,g34,g35,g36,g37,g38,g39,g40,g41,g42,g43,g44,g45,g46,g47,g48,g49,g50,g51,g52,g53] M K = K #[g0,g1,g2,g3,.int .i32 0,.int .i64 0,g6,g7,g8,g9,g10,g11,g12,g13,g14,g15,g16,g17,g18,g19,g20,g21,g22,g23,g24,g25,g26,g27,g28,g29,g30,g31,g32,g33,g34,g35,g36,g37,g38,g39,g40,g41,g42,g43,g44,g45,g46,g47,g48,g49,g50,g51,g52,g53] M := by kernel_rfl
theorem k38_2 : P38 [1] = .seq (P38 [1,0]) (P38 [1,1]) := by kernel_rfl
theorem k38_3 : P38 [1,0] = .block 0 (P38 [1,0,0]) := by kernel_rfl
theorem k38_4 : P38 [1,0,0] = .seq (P38 [1,0,0,0]) (P38 [1,0,0,1]) := by kernel_rfl
theorem k38_5 : P38 [1,0,0,0] = .region 1 (O38 [1,0,0,0]) false := by kernel_rfl
theorem r38_1 {x0 : Option Addr} {M : Mem} {call : CallM} {K : Array Value → Mem → R} :
    opsK Try.prog (fun _ => call) (O38 [1,0,0,0]) (O38 [1,0,0,0]).toList 0 #[.pointer x0,g1,g2,g3,g4,g5,g6,g7,g8,g9,g10,g11,g12,g13,g14,g15,g16,g17,g18,g19,g20,g21,g22,g23,g24,g25,g26,g27,g28,g29,g30,g31,g32,g33,g34,g35,g36,g37,g38,g39,g40,g41,g42,g43,g44,g45,g46,g47,g48,g49,g50,g51,g52,g53] M K = (call 46 #[.pointer x0] M).bind fun r_1 => (asB r_1.1).bind fun b_2 => K #[.pointer x0,g1,g2,g3,g4,g5,g6,.bool (!b_2),.pointer x0,.bool b_2,.bool (!b_2),g11,g12,g13,g14,g15,g16,g17,g18,g19,g20,g21,g22,g23,g24,g25,g26,g27,g28,g29,g30,g31,g32,g33,g34,g35,g36,g37,g38,g39,g40,g41,g42,g43,g44,g45,g46,g47,g48,g49,g50,g51,g52,g53] r_1.2 := by kernel_rfl
theorem c38_6 : P38 [1,0,0,1] = .cond (.tmp 7) (P38 [1,0,0,1,0]) (P38 [1,0,0,1,1]) := by kernel_rfl
theorem k38_7 : P38 [1,0,0,1,0] = .seq (P38 [1,0,0,1,0,0]) (P38 [1,0,0,1,0,1]) := by kernel_rfl
theorem k38_8 : P38 [1,0,0,1,0,0] = .region 2 (O38 [1,0,0,1,0,0]) false := by kernel_rfl
theorem r38_2 {M : Mem} {call : CallM} {K : Array Value → Mem → R} :
    opsK Try.prog (fun _ => call) (O38 [1,0,0,1,0,0]) (O38 [1,0,0,1,0,0]).toList 0 #[g0,g1,g2,g3,g4,g5,g6,g7,g8,g9,g10,g11,g12,g13,g14,g15,g16,g17,g18,g19,g20,g21,g22,g23,g24,g25,g26,g27,g28,g29,g30,g31,g32,g33,g34,g35,g36,g37,g38,g39,g40,g41,g42,g43,g44,g45,g46,g47,g48,g49,g50,g51,g52,g53] M K = K #[g0,g1,g2,g3,.int .i32 0,.int .i64 1,g6,g7,g8,g9,g10,g11,g12,g13,g14,g15,g16,g17,g18,g19,g20,g21,g22,g23,g24,g25,g26,g27,g28,g29,g30,g31,g32,g33,g34,g35,g36,g37,g38,g39,g40,g41,g42,g43,g44,g45,g46,g47,g48,g49,g50,g51,g52,g53] M := by kernel_rfl
theorem k38_9 : P38 [1,0,0,1,0,1] = .ret := by kernel_rfl
theorem e38 {M : Mem} : finish Try.prog Try.f38 #[g0,g1,g2,g3,g4,g5,g6,g7,g8,g9,g10,g11,g12,g13,g14,g15,g16,g17,g18,g19,g20,g21,g22,g23,g24,g25,g26,g27,g28,g29,g30,g31,g32,g33,g34,g35,g36,g37,g38,g39,g40,g41,g42,g43,g44,g45,g46,g47,g48,g49,g50,g51,g52,g53] M = some (.tuple #[g4, g5], M) := by kernel_rfl
theorem k38_11 : P38 [1,0,0,1,1] = .seq (P38 [1,0,0,1,1,0]) (P38 [1,0,0,1,1,1]) := by kernel_rfl
theorem k38_12 : P38 [1,0,0,1,1,0] = .region 3 (O38 [1,0,0,1,1,0]) false := by kernel_rfl
theorem r38_3 {x1 : Int} {M : Mem} {call : CallM} {K : Array Value → Mem → R} :
    opsK Try.prog (fun _ => call) (O38 [1,0,0,1,1,0]) (O38 [1,0,0,1,1,0]).toList 0 #[g0,.int .i64 x1,g2,g3,g4,g5,g6,g7,g8,g9,g10,g11,g12,g13,g14,g15,g16,g17,g18,g19,g20,g21,g22,g23,g24,g25,g26,g27,g28,g29,g30,g31,g32,g33,g34,g35,g36,g37,g38,g39,g40,g41,g42,g43,g44,g45,g46,g47,g48,g49,g50,g51,g52,g53] M K = withK (fun w11 w14 w15 w16 w17 M => K #[g0,.int .i64 x1,g2,g3,g4,g5,g6,g7,g8,g9,g10,w11,.int .i64 x1,.bool (decide (x1 < 1)),w14,w15,w16,w17,g18,g19,g20,g21,g22,g23,g24,g25,g26,g27,g28,g29,g30,g31,g32,g33,g34,g35,g36,g37,g38,g39,g40,g41,g42,g43,g44,g45,g46,g47,g48,g49,g50,g51,g52,g53] M) fun k => cond (decide (x1 < 1)) (k (.bool true) (.bool true) undef undef (.bool true) M) (k (.bool (decide (x1 > 31))) (.bool false) (.int .i64 x1) (.bool (decide (x1 > 31))) (.bool (decide (x1 > 31))) M) := by kernel_rfl
theorem c38_13 : P38 [1,0,0,1,1,1] = .cond (.tmp 11) (P38 [1,0,0,1,1,1,0]) (P38 [1,0,0,1,1,1,1]) := by kernel_rfl
theorem k38_14 : P38 [1,0,0,1,1,1,0] = .seq (P38 [1,0,0,1,1,1,0,0]) (P38 [1,0,0,1,1,1,0,1]) := by kernel_rfl
theorem k38_15 : P38 [1,0,0,1,1,1,0,0] = .region 4 (O38 [1,0,0,1,1,1,0,0]) false := by kernel_rfl
theorem r38_4 {M : Mem} {call : CallM} {K : Array Value → Mem → R} :
    opsK Try.prog (fun _ => call) (O38 [1,0,0,1,1,1,0,0]) (O38 [1,0,0,1,1,1,0,0]).toList 0 #[g0,g1,g2,g3,g4,g5,g6,g7,g8,g9,g10,g11,g12,g13,g14,g15,g16,g17,g18,g19,g20,g21,g22,g23,g24,g25,g26,g27,g28,g29,g30,g31,g32,g33,g34,g35,g36,g37,g38,g39,g40,g41,g42,g43,g44,g45,g46,g47,g48,g49,g50,g51,g52,g53] M K = K #[g0,g1,g2,g3,.int .i32 0,.int .i64 2,g6,g7,g8,g9,g10,g11,g12,g13,g14,g15,g16,g17,g18,g19,g20,g21,g22,g23,g24,g25,g26,g27,g28,g29,g30,g31,g32,g33,g34,g35,g36,g37,g38,g39,g40,g41,g42,g43,g44,g45,g46,g47,g48,g49,g50,g51,g52,g53] M := by kernel_rfl
theorem k38_16 : P38 [1,0,0,1,1,1,0,1] = .ret := by kernel_rfl
theorem k38_17 : P38 [1,0,0,1,1,1,1] = .seq (P38 [1,0,0,1,1,1,1,0]) (P38 [1,0,0,1,1,1,1,1]) := by kernel_rfl
theorem k38_18 : P38 [1,0,0,1,1,1,1,0] = .region 5 (O38 [1,0,0,1,1,1,1,0]) false := by kernel_rfl
theorem r38_5 {x0 : Option Addr} {x1 : Int} {M : Mem} {call : CallM} {K : Array Value → Mem → R} :
    opsK Try.prog (fun _ => call) (O38 [1,0,0,1,1,1,1,0]) (O38 [1,0,0,1,1,1,1,0]).toList 0 #[.pointer x0,.int .i64 x1,g2,g3,g4,g5,g6,g7,g8,g9,g10,g11,g12,g13,g14,g15,g16,g17,g18,g19,g20,g21,g22,g23,g24,g25,g26,g27,g28,g29,g30,g31,g32,g33,g34,g35,g36,g37,g38,g39,g40,g41,g42,g43,g44,g45,g46,g47,g48,g49,g50,g51,g52,g53] M K = (call 47 #[.pointer x0] M).bind fun r_1 => (asI .i64 r_1.1).bind fun x_2 => K #[.pointer x0,.int .i64 x1,g2,g3,g4,g5,g6,g7,g8,g9,g10,g11,g12,g13,g14,g15,g16,g17,.bool (decide ((IntKind.i64.wrap (x1 + 1)) > x_2)),.int .i64 x1,.int .i64 (IntKind.i64.wrap (x1 + 1)),.pointer x0,.int .i64 x_2,.bool (decide ((IntKind.i64.wrap (x1 + 1)) > x_2)),g24,g25,g26,g27,g28,g29,g30,g31,g32,g33,g34,g35,g36,g37,g38,g39,g40,g41,g42,g43,g44,g45,g46,g47,g48,g49,g50,g51,g52,g53] r_1.2 := by kernel_rfl
theorem c38_19 : P38 [1,0,0,1,1,1,1,1] = .cond (.tmp 18) (P38 [1,0,0,1,1,1,1,1,0]) (P38 [1,0,0,1,1,1,1,1,1]) := by kernel_rfl
theorem k38_20 : P38 [1,0,0,1,1,1,1,1,0] = .seq (P38 [1,0,0,1,1,1,1,1,0,0]) (P38 [1,0,0,1,1,1,1,1,0,1]) := by kernel_rfl
theorem k38_21 : P38 [1,0,0,1,1,1,1,1,0,0] = .region 6 (O38 [1,0,0,1,1,1,1,1,0,0]) false := by kernel_rfl
theorem r38_6 {M : Mem} {call : CallM} {K : Array Value → Mem → R} :
    opsK Try.prog (fun _ => call) (O38 [1,0,0,1,1,1,1,1,0,0]) (O38 [1,0,0,1,1,1,1,1,0,0]).toList 0 #[g0,g1,g2,g3,g4,g5,g6,g7,g8,g9,g10,g11,g12,g13,g14,g15,g16,g17,g18,g19,g20,g21,g22,g23,g24,g25,g26,g27,g28,g29,g30,g31,g32,g33,g34,g35,g36,g37,g38,g39,g40,g41,g42,g43,g44,g45,g46,g47,g48,g49,g50,g51,g52,g53] M K = K #[g0,g1,g2,g3,.int .i32 0,.int .i64 3,g6,g7,g8,g9,g10,g11,g12,g13,g14,g15,g16,g17,g18,g19,g20,g21,g22,g23,g24,g25,g26,g27,g28,g29,g30,g31,g32,g33,g34,g35,g36,g37,g38,g39,g40,g41,g42,g43,g44,g45,g46,g47,g48,g49,g50,g51,g52,g53] M := by kernel_rfl
theorem k38_22 : P38 [1,0,0,1,1,1,1,1,0,1] = .ret := by kernel_rfl
theorem k38_23 : P38 [1,0,0,1,1,1,1,1,1] = .skip := by kernel_rfl
theorem k38_24 : P38 [1,1] = .seq (P38 [1,1,0]) (P38 [1,1,1]) := by kernel_rfl
theorem k38_25 : P38 [1,1,0] = .region 7 (O38 [1,1,0]) false := by kernel_rfl
theorem r38_7 {x0 : Option Addr} {x1 : Int} {M : Mem} {call : CallM} {K : Array Value → Mem → R} :
    opsK Try.prog (fun _ => call) (O38 [1,1,0]) (O38 [1,1,0]).toList 0 #[.pointer x0,.int .i64 x1,g2,g3,g4,g5,g6,g7,g8,g9,g10,g11,g12,g13,g14,g15,g16,g17,g18,g19,g20,g21,g22,g23,g24,g25,g26,g27,g28,g29,g30,g31,g32,g33,g34,g35,g36,g37,g38,g39,g40,g41,g42,g43,g44,g45,g46,g47,g48,g49,g50,g51,g52,g53] M K = (x0).bind fun a_1 => (M.intAt .i64 a_1.block (a_1.off + 1)).bind fun x_2 => (call 54 #[.pointer x0, .int .i64 (IntKind.i64.wrap (x_2 + 1)), .int .i64 x1] M).bind fun r_3 => (asI .u32 r_3.1).bind fun x_4 => K #[.pointer x0,.int .i64 x1,g2,g3,g4,g5,.int .i32 (IntKind.i32.wrap (x_4)),g7,g8,g9,g10,g11,g12,g13,g14,g15,g16,g17,g18,g19,g20,g21,g22,g23,.pointer x0,.pointer x0,.pointer (some a_1),.pointer (some ⟨a_1.block, a_1.off + 1, none⟩),.int .i64 x_2,.int .i64 (IntKind.i64.wrap (x_2 + 1)),.int .i64 x1,.int .u32 x_4,.int .i32 (IntKind.i32.wrap (x_4)),g33,g34,g35,g36,g37,g38,g39,g40,g41,g42,g43,g44,g45,g46,g47,g48,g49,g50,g51,g52,g53] r_3.2 := by kernel_rfl
theorem k38_26 : P38 [1,1,1] = .seq (P38 [1,1,1,0]) (P38 [1,1,1,1]) := by kernel_rfl
theorem k38_27 : P38 [1,1,1,0] = .seq (P38 [1,1,1,0,0]) (P38 [1,1,1,0,1]) := by kernel_rfl
theorem k38_28 : P38 [1,1,1,0,0] = .region 8 (O38 [1,1,1,0,0]) false := by kernel_rfl
theorem r38_8 {x0 : Option Addr} {M : Mem} {call : CallM} {K : Array Value → Mem → R} :
    opsK Try.prog (fun _ => call) (O38 [1,1,1,0,0]) (O38 [1,1,1,0,0]).toList 0 #[.pointer x0,g1,g2,g3,g4,g5,g6,g7,g8,g9,g10,g11,g12,g13,g14,g15,g16,g17,g18,g19,g20,g21,g22,g23,g24,g25,g26,g27,g28,g29,g30,g31,g32,g33,g34,g35,g36,g37,g38,g39,g40,g41,g42,g43,g44,g45,g46,g47,g48,g49,g50,g51,g52,g53] M K = (x0).bind fun a_1 => (M.intAt .i64 a_1.block (a_1.off + 1)).bind fun x_2 => (call 58 #[.pointer x0, .int .i64 x_2] M).bind fun r_3 => (asI .u32 r_3.1).bind fun x_4 => K #[.pointer x0,g1,g2,g3,g4,g5,g6,g7,g8,g9,g10,g11,g12,g13,g14,g15,g16,g17,g18,g19,g20,g21,g22,g23,g24,g25,g26,g27,g28,g29,g30,g31,g32,.pointer x0,.pointer x0,.pointer (some a_1),.pointer (some ⟨a_1.block, a_1.off + 1, none⟩),.int .i64 x_2,.int .u32 x_4,.bool (x_4 == 1),g40,g41,g42,g43,g44,g45,g46,g47,g48,g49,g50,g51,g52,g53] r_3.2 := by kernel_rfl
theorem c38_29 : P38 [1,1,1,0,1] = .cond (.tmp 39) (P38 [1,1,1,0,1,0]) (P38 [1,1,1,0,1,1]) := by kernel_rfl
theorem k38_30 : P38 [1,1,1,0,1,0] = .seq (P38 [1,1,1,0,1,0,0]) (P38 [1,1,1,0,1,0,1]) := by kernel_rfl
theorem k38_31 : P38 [1,1,1,0,1,0,0] = .seq (P38 [1,1,1,0,1,0,0,0]) (P38 [1,1,1,0,1,0,0,1]) := by kernel_rfl
theorem k38_32 : P38 [1,1,1,0,1,0,0,0] = .region 9 (O38 [1,1,1,0,1,0,0,0]) false := by kernel_rfl
theorem r38_9 {x6 : Int} {M : Mem} {call : CallM} {K : Array Value → Mem → R} :
    opsK Try.prog (fun _ => call) (O38 [1,1,1,0,1,0,0,0]) (O38 [1,1,1,0,1,0,0,0]).toList 0 #[g0,g1,g2,g3,g4,g5,.int .i32 x6,g7,g8,g9,g10,g11,g12,g13,g14,g15,g16,g17,g18,g19,g20,g21,g22,g23,g24,g25,g26,g27,g28,g29,g30,g31,g32,g33,g34,g35,g36,g37,g38,g39,g40,g41,g42,g43,g44,g45,g46,g47,g48,g49,g50,g51,g52,g53] M K = K #[g0,g1,g2,g3,g4,g5,.int .i32 x6,g7,g8,g9,g10,g11,g12,g13,g14,g15,g16,g17,g18,g19,g20,g21,g22,g23,g24,g25,g26,g27,g28,g29,g30,g31,g32,g33,g34,g35,g36,g37,g38,g39,.int .i32 x6,.bool (x6 == 0),g42,g43,g44,g45,g46,g47,g48,g49,g50,g51,g52,g53] M := by kernel_rfl
theorem c38_33 : P38 [1,1,1,0,1,0,0,1] = .cond (.tmp 41) (P38 [1,1,1,0,1,0,0,1,0]) (P38 [1,1,1,0,1,0,0,1,1]) := by kernel_rfl
theorem k38_34 : P38 [1,1,1,0,1,0,0,1,0] = .seq (P38 [1,1,1,0,1,0,0,1,0,0]) (P38 [1,1,1,0,1,0,0,1,0,1]) := by kernel_rfl
theorem k38_35 : P38 [1,1,1,0,1,0,0,1,0,0] = .region 10 (O38 [1,1,1,0,1,0,0,1,0,0]) false := by kernel_rfl
theorem r38_10 {M : Mem} {call : CallM} {K : Array Value → Mem → R} :
    opsK Try.prog (fun _ => call) (O38 [1,1,1,0,1,0,0,1,0,0]) (O38 [1,1,1,0,1,0,0,1,0,0]).toList 0 #[g0,g1,g2,g3,g4,g5,g6,g7,g8,g9,g10,g11,g12,g13,g14,g15,g16,g17,g18,g19,g20,g21,g22,g23,g24,g25,g26,g27,g28,g29,g30,g31,g32,g33,g34,g35,g36,g37,g38,g39,g40,g41,g42,g43,g44,g45,g46,g47,g48,g49,g50,g51,g52,g53] M K = K #[g0,g1,g2,g3,.int .i32 0,.int .i64 4,g6,g7,g8,g9,g10,g11,g12,g13,g14,g15,g16,g17,g18,g19,g20,g21,g22,g23,g24,g25,g26,g27,g28,g29,g30,g31,g32,g33,g34,g35,g36,g37,g38,g39,g40,g41,g42,g43,g44,g45,g46,g47,g48,g49,g50,g51,g52,g53] M := by kernel_rfl
theorem k38_36 : P38 [1,1,1,0,1,0,0,1,0,1] = .ret := by kernel_rfl
theorem k38_37 : P38 [1,1,1,0,1,0,0,1,1] = .skip := by kernel_rfl
theorem k38_38 : P38 [1,1,1,0,1,0,1] = .region 11 (O38 [1,1,1,0,1,0,1]) false := by kernel_rfl
theorem r38_11 {x6 : Int} {M : Mem} {call : CallM} {K : Array Value → Mem → R} :
    opsK Try.prog (fun _ => call) (O38 [1,1,1,0,1,0,1]) (O38 [1,1,1,0,1,0,1]).toList 0 #[g0,g1,g2,g3,g4,g5,.int .i32 x6,g7,g8,g9,g10,g11,g12,g13,g14,g15,g16,g17,g18,g19,g20,g21,g22,g23,g24,g25,g26,g27,g28,g29,g30,g31,g32,g33,g34,g35,g36,g37,g38,g39,g40,g41,g42,g43,g44,g45,g46,g47,g48,g49,g50,g51,g52,g53] M K = K #[g0,g1,g2,g3,g4,g5,.int .i32 (IntKind.i32.wrap (0 - x6)),g7,g8,g9,g10,g11,g12,g13,g14,g15,g16,g17,g18,g19,g20,g21,g22,g23,g24,g25,g26,g27,g28,g29,g30,g31,g32,g33,g34,g35,g36,g37,g38,g39,g40,g41,.int .i32 x6,.int .i32 (IntKind.i32.wrap (0 - x6)),g44,g45,g46,g47,g48,g49,g50,g51,g52,g53] M := by kernel_rfl
theorem k38_39 : P38 [1,1,1,1] = .seq (P38 [1,1,1,1,0]) (P38 [1,1,1,1,1]) := by kernel_rfl
theorem k38_40 : P38 [1,1,1,1,0] = .region 12 (O38 [1,1,1,1,0]) false := by kernel_rfl
theorem r38_12 {x0 : Option Addr} {x1 : Int} {M : Mem} {call : CallM} {K : Array Value → Mem → R} :
    opsK Try.prog (fun _ => call) (O38 [1,1,1,1,0]) (O38 [1,1,1,1,0]).toList 0 #[.pointer x0,.int .i64 x1,g2,g3,g4,g5,g6,g7,g8,g9,g10,g11,g12,g13,g14,g15,g16,g17,g18,g19,g20,g21,g22,g23,g24,g25,g26,g27,g28,g29,g30,g31,g32,g33,g34,g35,g36,g37,g38,g39,g40,g41,g42,g43,g44,g45,g46,g47,g48,g49,g50,g51,g52,g53] M K = (x0).bind fun a_1 => (M.intAt .i64 a_1.block (a_1.off + 1)).bind fun x_2 => (x0).bind fun a_3 => (M.put a_3.block (a_3.off + 1) (.int .i64 (IntKind.i64.wrap (x_2 + (IntKind.i64.wrap (x1 + 1)))))).bind fun M_4 => K #[.pointer x0,.int .i64 x1,g2,g3,g4,g5,g6,g7,g8,g9,g10,g11,g12,g13,g14,g15,g16,g17,g18,g19,g20,g21,g22,g23,g24,g25,g26,g27,g28,g29,g30,g31,g32,g33,g34,g35,g36,g37,g38,g39,g40,g41,g42,g43,.pointer x0,.pointer (some a_1),.pointer (some ⟨a_1.block, a_1.off + 1, none⟩),.int .i64 x_2,.int .i64 x1,.int .i64 (IntKind.i64.wrap (x1 + 1)),.int .i64 (IntKind.i64.wrap (x_2 + (IntKind.i64.wrap (x1 + 1)))),.pointer (some a_3),.pointer (some ⟨a_3.block, a_3.off + 1, none⟩),g53] M_4 := by kernel_rfl
theorem k38_41 : P38 [1,1,1,1,1] = .seq (P38 [1,1,1,1,1,0]) (P38 [1,1,1,1,1,1]) := by kernel_rfl
theorem k38_42 : P38 [1,1,1,1,1,0] = .region 13 (O38 [1,1,1,1,1,0]) false := by kernel_rfl
theorem r38_13 {x6 : Int} {M : Mem} {call : CallM} {K : Array Value → Mem → R} :
    opsK Try.prog (fun _ => call) (O38 [1,1,1,1,1,0]) (O38 [1,1,1,1,1,0]).toList 0 #[g0,g1,g2,g3,g4,g5,.int .i32 x6,g7,g8,g9,g10,g11,g12,g13,g14,g15,g16,g17,g18,g19,g20,g21,g22,g23,g24,g25,g26,g27,g28,g29,g30,g31,g32,g33,g34,g35,g36,g37,g38,g39,g40,g41,g42,g43,g44,g45,g46,g47,g48,g49,g50,g51,g52,g53] M K = K #[g0,g1,g2,g3,.int .i32 x6,.int .i64 0,.int .i32 x6,g7,g8,g9,g10,g11,g12,g13,g14,g15,g16,g17,g18,g19,g20,g21,g22,g23,g24,g25,g26,g27,g28,g29,g30,g31,g32,g33,g34,g35,g36,g37,g38,g39,g40,g41,g42,g43,g44,g45,g46,g47,g48,g49,g50,g51,g52,.int .i32 x6] M := by kernel_rfl
theorem k38_43 : P38 [1,1,1,1,1,1] = .ret := by kernel_rfl
theorem k38_44 : P38 [1,1,1,0,1,1] = .skip := by kernel_rfl
noncomputable def S38_1 : List Item := [.code (P38 [1,0,0,1,1,1]), .inBlock 0, .code (P38 [1,1])]
def A38_1 (x0 : Option Addr) (x1 : Int) (x11 : Bool) (M : Mem) (Q : Value → Mem → Prop) : Prop := ∀ (g2 g3 g4 g5 g6 g7 g8 g9 g10 g12 g13 g14 g15 g16 g17 g18 g19 g20 g21 g22 g23 g24 g25 g26 g27 g28 g29 g30 g31 g32 g33 g34 g35 g36 g37 g38 g39 g40 g41 g42 g43 g44 g45 g46 g47 g48 g49 g50 g51 g52 g53 : Value), Rn Try.prog Try.f38 S38_1 #[.pointer x0, .int .i64 x1, g2, g3, g4, g5, g6, g7, g8, g9, g10, .bool x11, g12, g13, g14, g15, g16, g17, g18, g19, g20, g21, g22, g23, g24, g25, g26, g27, g28, g29, g30, g31, g32, g33, g34, g35, g36, g37, g38, g39, g40, g41, g42, g43, g44, g45, g46, g47, g48, g49, g50, g51, g52, g53] M Q
theorem w38_0 {x0 : Option Addr} {x1 : Int} {M : Mem} {Q : Value → Mem → Prop} (H :
    Cn Try.prog 46 #[.pointer x0] M fun v1' N1' =>
     ∃ b2', asB v1' = some b2' ∧
     (((!b2') = true →
      Q (.tuple #[.int .i32 0, .int .i64 1]) N1') ∧
      ((!b2') = false →
      ((x1 < 1 →
       A38_1 x0 x1 true N1' Q) ∧
       (¬ (x1 < 1) →
       A38_1 x0 x1 (decide (x1 > 31)) N1' Q))))) :
    Cn Try.prog 38 #[.pointer x0, .int .i64 x1] M Q := by
  refine Cn.of b38 d38 t38 ?_
  refine Rn.seq k38_0 (Rn.region k38_1 (fun call K => r38_0) (Rch.leaf (Rn.seq k38_2 (Rn.block k38_3 (Rn.seq k38_4 (Rn.region k38_5 (fun call K => r38_1) (Rch.call H fun v1' N1' H => Rch.ex H fun b2' H => Rch.leaf ?_)))))))
  refine Rn.cnd (v := !b2') ⟨c38_6, rfl, by kernel_rfl⟩ (fun h => ?_) (fun h => ?_)
  · replace H := H.1 (h)
    refine Rn.seq k38_7 (Rn.region k38_8 (fun call K => r38_2) (Rch.leaf ?_))
    exact Rn.ret k38_9 e38 H
  · replace H := H.2 (h)
    refine Rn.seq k38_11 (Rn.region k38_12 (fun call K => r38_3) ?_)
    refine Rch.cB (fun h => ?_) (fun h => ?_)
    · replace H := H.1 (of_decide_eq_true h)
      refine Rch.leaf ?_
      exact H _ _ _ _ _ _ _ _ _ _ _ _ _ _ _ _ _ _ _ _ _ _ _ _ _ _ _ _ _ _ _ _ _ _ _ _ _ _ _ _ _ _ _ _ _ _ _ _ _ _ _
    · replace H := H.2 (of_decide_eq_false h)
      refine Rch.leaf ?_
      exact H _ _ _ _ _ _ _ _ _ _ _ _ _ _ _ _ _ _ _ _ _ _ _ _ _ _ _ _ _ _ _ _ _ _ _ _ _ _ _ _ _ _ _ _ _ _ _ _ _ _ _

theorem w38_1 {x0 : Option Addr} {x1 : Int} {x11 : Bool} {M : Mem} {Q : Value → Mem → Prop} (H :
    ((x11 = true →
     Q (.tuple #[.int .i32 0, .int .i64 2]) M) ∧
     (x11 = false →
     Cn Try.prog 47 #[.pointer x0] M fun v3' N3' =>
      ∃ x4', asI .i64 v3' = some x4' ∧
      (((IntKind.i64.wrap (x1 + 1)) > x4' →
       Q (.tuple #[.int .i32 0, .int .i64 3]) N3') ∧
       (¬ ((IntKind.i64.wrap (x1 + 1)) > x4') →
       ∃ a5', x0 = some a5' ∧
       ∃ x6', N3'.intAt .i64 a5'.block (a5'.off + 1) = some x6' ∧
       Cn Try.prog 54 #[.pointer x0, .int .i64 (IntKind.i64.wrap (x6' + 1)), .int .i64 x1] N3' fun v7' N7' =>
        ∃ x8', asI .u32 v7' = some x8' ∧
        ∃ a9', x0 = some a9' ∧
        ∃ x10', N7'.intAt .i64 a9'.block (a9'.off + 1) = some x10' ∧
        Cn Try.prog 58 #[.pointer x0, .int .i64 x10'] N7' fun v11' N11' =>
         ∃ x12', asI .u32 v11' = some x12' ∧
         ((x12' = 1 →
          (((IntKind.i32.wrap (x8')) = 0 →
           Q (.tuple #[.int .i32 0, .int .i64 4]) N11') ∧
           ((IntKind.i32.wrap (x8')) ≠ 0 →
           ∃ a13', x0 = some a13' ∧
           ∃ x14', N11'.intAt .i64 a13'.block (a13'.off + 1) = some x14' ∧
           ∃ a15', x0 = some a15' ∧
           ∃ M16', N11'.put a15'.block (a15'.off + 1) (.int .i64 (IntKind.i64.wrap (x14' + (IntKind.i64.wrap (x1 + 1))))) = some M16' ∧
           Q (.tuple #[.int .i32 (IntKind.i32.wrap (0 - (IntKind.i32.wrap (x8')))), .int .i64 0]) M16'))) ∧
          (x12' ≠ 1 →
          ∃ a17', x0 = some a17' ∧
          ∃ x18', N11'.intAt .i64 a17'.block (a17'.off + 1) = some x18' ∧
          ∃ a19', x0 = some a19' ∧
          ∃ M20', N11'.put a19'.block (a19'.off + 1) (.int .i64 (IntKind.i64.wrap (x18' + (IntKind.i64.wrap (x1 + 1))))) = some M20' ∧
          Q (.tuple #[.int .i32 (IntKind.i32.wrap (x8')), .int .i64 0]) M20'))))))) :
    A38_1 x0 x1 x11 M Q := by
  intro g2 g3 g4 g5 g6 g7 g8 g9 g10 g12 g13 g14 g15 g16 g17 g18 g19 g20 g21 g22 g23 g24 g25 g26 g27 g28 g29 g30 g31 g32 g33 g34 g35 g36 g37 g38 g39 g40 g41 g42 g43 g44 g45 g46 g47 g48 g49 g50 g51 g52 g53
  refine Rn.cnd (v := x11) ⟨c38_13, rfl, by kernel_rfl⟩ (fun h => ?_) (fun h => ?_)
  · replace H := H.1 (h)
    refine Rn.seq k38_14 (Rn.region k38_15 (fun call K => r38_4) (Rch.leaf ?_))
    exact Rn.ret k38_16 e38 H
  · replace H := H.2 (h)
    refine Rn.seq k38_17 (Rn.region k38_18 (fun call K => r38_5) (Rch.call H fun v3' N3' H => Rch.ex H fun x4' H => Rch.leaf ?_))
    refine Rn.cnd (v := decide ((IntKind.i64.wrap (x1 + 1)) > x4')) ⟨c38_19, rfl, by kernel_rfl⟩ (fun h => ?_) (fun h => ?_)
    · replace H := H.1 (of_decide_eq_true h)
      refine Rn.seq k38_20 (Rn.region k38_21 (fun call K => r38_6) (Rch.leaf ?_))
      exact Rn.ret k38_22 e38 H
    · replace H := H.2 (of_decide_eq_false h)
      refine Rn.skip k38_23 (Rn.blk (Rn.seq k38_24 (Rn.region k38_25 (fun call K => r38_7) (Rch.ex H fun a5' H => Rch.ex H fun x6' H => Rch.call H fun v7' N7' H => Rch.ex H fun x8' H => Rch.leaf (Rn.seq k38_26 (Rn.seq k38_27 (Rn.region k38_28 (fun call K => r38_8) ?_)))))))
      refine Rch.ex H fun a9' H => Rch.ex H fun x10' H => Rch.call H fun v11' N11' H => Rch.ex H fun x12' H => Rch.leaf ?_
      refine Rn.cnd (v := x12' == 1) ⟨c38_29, rfl, by kernel_rfl⟩ (fun h => ?_) (fun h => ?_)
      · replace H := H.1 (eq_of_beq h)
        refine Rn.seq k38_30 (Rn.seq k38_31 (Rn.region k38_32 (fun call K => r38_9) (Rch.leaf ?_)))
        refine Rn.cnd (v := (IntKind.i32.wrap (x8')) == 0) ⟨c38_33, rfl, by kernel_rfl⟩ (fun h => ?_) (fun h => ?_)
        · replace H := H.1 (eq_of_beq h)
          refine Rn.seq k38_34 (Rn.region k38_35 (fun call K => r38_10) (Rch.leaf ?_))
          exact Rn.ret k38_36 e38 H
        · replace H := H.2 (ne_of_beq_false h)
          refine Rn.skip k38_37 (Rn.region k38_38 (fun call K => r38_11) (Rch.leaf (Rn.seq k38_39 (Rn.region k38_40 (fun call K => r38_12) (Rch.ex H fun a13' H => Rch.ex H fun x14' H => Rch.ex H fun a15' H => Rch.ex H fun M16' H => Rch.leaf (Rn.seq k38_41 (Rn.region k38_42 (fun call K => r38_13) ?_)))))))
          refine Rch.leaf ?_
          exact Rn.ret k38_43 e38 H
      · replace H := H.2 (ne_of_beq_false h)
        refine Rn.skip k38_44 (Rn.seq k38_39 (Rn.region k38_40 (fun call K => r38_12) (Rch.ex H fun a17' H => Rch.ex H fun x18' H => Rch.ex H fun a19' H => Rch.ex H fun M20' H => Rch.leaf (Rn.seq k38_41 (Rn.region k38_42 (fun call K => r38_13) (Rch.leaf ?_))))))
        exact Rn.ret k38_43 e38 H


/-! ### (*zoetrope/bits.Reader).Uvlc: function 39 -/
noncomputable abbrev P39 (p : List Nat) : Code := subC (codeOf Try.f39) p
noncomputable abbrev O39 (p : List Nat) : Array Oper := opsOf (subC (codeOf Try.f39) p)
theorem b39 : Try.prog.funcs[39]? = some Try.f39 ∧ (Orc.tab Try.prog).lookup 39 = none := ⟨by kernel_rfl, by kernel_rfl⟩
theorem d39 : Try.f39.body = some (P39 []) := by kernel_rfl
theorem t39 {x0 : Option Addr} : #[.pointer x0] ++ Array.replicate (Try.f39.ntmps - (#[.pointer x0] : Array Value).size) undef = #[.pointer x0,undef,undef,undef,undef,undef,undef,undef,undef,undef,undef,undef,undef,undef,undef,undef,undef,undef,undef,undef,undef,undef,undef,undef,undef,undef,undef,undef,undef,undef,undef,undef,undef,undef,undef,undef,undef,undef,undef,undef,undef,undef,undef,undef,undef,undef,undef,undef,undef,undef,undef,undef,undef,undef,undef,undef,undef,undef,undef,undef] := by kernel_rfl
theorem k39_0 : P39 [] = .seq (P39 [0]) (P39 [1]) := by kernel_rfl
theorem k39_1 : P39 [0] = .region 0 (O39 [0]) false := by kernel_rfl
theorem r39_0 {M : Mem} {call : CallM} {K : Array Value → Mem → R} :
    opsK Try.prog (fun _ => call) (O39 [0]) (O39 [0]).toList 0 #[g0,g1,g2,g3,g4,g5,g6,g7,g8,g9,g10,g11,g12,g13,g14,g15,g16,g17,g18,g19,g20,g21,g22,g23,g24,g25,g26,g27,g28,g29,g30,g31,g32,g33,g34,g35,g36,g37,g38,g39,g40,g41,g42,g43,g44,g45,g46,g47,g48,g49,g50,g51,g52,g53,g54,g55,g56,g57,g58,g59] M K = K #[g0,g1,.int .u32 0,.int .i64 0,g4,g5,g6,g7,g8,g9,g10,g11,g12,g13,g14,g15,g16,g17,g18,g19,g20,g21,g22,g23,g24,g25,g26,g27,g28,g29,g30,g31,g32,g33,g34,g35,g36,g37,g38,g39,g40,g41,g42,g43,g44,g45,g46,g47,g48,g49,g50,g51,g52,g53,g54,g55,g56,g57,g58,g59] M := by kernel_rfl
theorem k39_2 : P39 [1] = .scope (P39 [1,0]) := by kernel_rfl
theorem k39_3 : P39 [1,0] = .seq (P39 [1,0,0]) (P39 [1,0,1]) := by kernel_rfl
theorem k39_4 : P39 [1,0,0] = .seq (P39 [1,0,0,0]) (P39 [1,0,0,1]) := by kernel_rfl
theorem k39_5 : P39 [1,0,0,0] = .region 1 (O39 [1,0,0,0]) false := by kernel_rfl
theorem r39_1 {x0 : Option Addr} {M : Mem} {call : CallM} {K : Array Value → Mem → R} :
    opsK Try.prog (fun _ => call) (O39 [1,0,0,0]) (O39 [1,0,0,0]).toList 0 #[.pointer x0,g1,g2,g3,g4,g5,g6,g7,g8,g9,g10,g11,g12,g13,g14,g15,g16,g17,g18,g19,g20,g21,g22,g23,g24,g25,g26,g27,g28,g29,g30,g31,g32,g33,g34,g35,g36,g37,g38,g39,g40,g41,g42,g43,g44,g45,g46,g47,g48,g49,g50,g51,g52,g53,g54,g55,g56,g57,g58,g59] M K = (call 46 #[.pointer x0] M).bind fun r_1 => (asB r_1.1).bind fun b_2 => K #[.pointer x0,g1,g2,g3,g4,g5,.pointer x0,.bool b_2,.bool (!b_2),g9,g10,g11,g12,g13,g14,g15,g16,g17,g18,g19,g20,g21,g22,g23,g24,g25,g26,g27,g28,g29,g30,g31,g32,g33,g34,g35,g36,g37,g38,g39,g40,g41,g42,g43,g44,g45,g46,g47,g48,g49,g50,g51,g52,g53,g54,g55,g56,g57,g58,g59] r_1.2 := by kernel_rfl
theorem c39_6 : P39 [1,0,0,1] = .cond (.tmp 8) (P39 [1,0,0,1,0]) (P39 [1,0,0,1,1]) := by kernel_rfl
theorem k39_7 : P39 [1,0,0,1,0] = .seq (P39 [1,0,0,1,0,0]) (P39 [1,0,0,1,0,1]) := by kernel_rfl
theorem k39_8 : P39 [1,0,0,1,0,0] = .region 2 (O39 [1,0,0,1,0,0]) false := by kernel_rfl
theorem r39_2 {M : Mem} {call : CallM} {K : Array Value → Mem → R} :
    opsK Try.prog (fun _ => call) (O39 [1,0,0,1,0,0]) (O39 [1,0,0,1,0,0]).toList 0 #[g0,g1,g2,g3,g4,g5,g6,g7,g8,g9,g10,g11,g12,g13,g14,g15,g16,g17,g18,g19,g20,g21,g22,g23,g24,g25,g26,g27,g28,g29,g30,g31,g32,g33,g34,g35,g36,g37,g38,g39,g40,g41,g42,g43,g44,g45,g46,g47,g48,g49,g50,g51,g52,g53,g54,g55,g56,g57,g58,g59] M K = K #[g0,g1,.int .u32 0,.int .i64 1,g4,g5,g6,g7,g8,g9,g10,g11,g12,g13,g14,g15,g16,g17,g18,g19,g20,g21,g22,g23,g24,g25,g26,g27,g28,g29,g30,g31,g32,g33,g34,g35,g36,g37,g38,g39,g40,g41,g42,g43,g44,g45,g46,g47,g48,g49,g50,g51,g52,g53,g54,g55,g56,g57,g58,g59] M := by kernel_rfl
theorem k39_9 : P39 [1,0,0,1,0,1] = .ret := by kernel_rfl
theorem e39 {M : Mem} : finish Try.prog Try.f39 #[g0,g1,g2,g3,g4,g5,g6,g7,g8,g9,g10,g11,g12,g13,g14,g15,g16,g17,g18,g19,g20,g21,g22,g23,g24,g25,g26,g27,g28,g29,g30,g31,g32,g33,g34,g35,g36,g37,g38,g39,g40,g41,g42,g43,g44,g45,g46,g47,g48,g49,g50,g51,g52,g53,g54,g55,g56,g57,g58,g59] M = some (.tuple #[g2, g3], M) := by kernel_rfl
theorem k39_11 : P39 [1,0,0,1,1] = .skip := by kernel_rfl
theorem k39_12 : P39 [1,0,1] = .seq (P39 [1,0,1,0]) (P39 [1,0,1,1]) := by kernel_rfl
theorem k39_13 : P39 [1,0,1,0] = .region 3 (O39 [1,0,1,0]) false := by kernel_rfl
theorem r39_3 {M : Mem} {call : CallM} {K : Array Value → Mem → R} :
    opsK Try.prog (fun _ => call) (O39 [1,0,1,0]) (O39 [1,0,1,0]).toList 0 #[g0,g1,g2,g3,g4,g5,g6,g7,g8,g9,g10,g11,g12,g13,g14,g15,g16,g17,g18,g19,g20,g21,g22,g23,g24,g25,g26,g27,g28,g29,g30,g31,g32,g33,g34,g35,g36,g37,g38,g39,g40,g41,g42,g43,g44,g45,g46,g47,g48,g49,g50,g51,g52,g53,g54,g55,g56,g57,g58,g59] M K = K #[g0,g1,g2,g3,.int .i64 0,g5,g6,g7,g8,g9,g10,g11,g12,g13,g14,g15,g16,g17,g18,g19,g20,g21,g22,g23,g24,g25,g26,g27,g28,g29,g30,g31,g32,g33,g34,g35,g36,g37,g38,g39,g40,g41,g42,g43,g44,g45,g46,g47,g48,g49,g50,g51,g52,g53,g54,g55,g56,g57,g58,g59] M := by kernel_rfl
theorem k39_14 : P39 [1,0,1,1] = .seq (P39 [1,0,1,1,0]) (P39 [1,0,1,1,1]) := by kernel_rfl
theorem k39_15 : P39 [1,0,1,1,0] = .label 0 := by kernel_rfl
theorem k39_16 : P39 [1,0,1,1,1] = .seq (P39 [1,0,1,1,1,0]) (P39 [1,0,1,1,1,1]) := by kernel_rfl
theorem k39_17 : P39 [1,0,1,1,1,0] = .block 0 (P39 [1,0,1,1,1,0,0]) := by kernel_rfl
theorem k39_18 : P39 [1,0,1,1,1,0,0] = .loop (P39 [1,0,1,1,1,0,0,0]) := by kernel_rfl
theorem k39_19 : P39 [1,0,1,1,1,0,0,0] = .block 1 (P39 [1,0,1,1,1,0,0,0,0]) := by kernel_rfl
theorem k39_20 : P39 [1,0,1,1,1,0,0,0,0] = .seq (P39 [1,0,1,1,1,0,0,0,0,0]) (P39 [1,0,1,1,1,0,0,0,0,1]) := by kernel_rfl
theorem k39_21 : P39 [1,0,1,1,1,0,0,0,0,0] = .block 2 (P39 [1,0,1,1,1,0,0,0,0,0,0]) := by kernel_rfl
theorem k39_22 : P39 [1,0,1,1,1,0,0,0,0,0,0] = .seq (P39 [1,0,1,1,1,0,0,0,0,0,0,0]) (P39 [1,0,1,1,1,0,0,0,0,0,0,1]) := by kernel_rfl
theorem k39_23 : P39 [1,0,1,1,1,0,0,0,0,0,0,0] = .region 4 (O39 [1,0,1,1,1,0,0,0,0,0,0,0]) false := by kernel_rfl
theorem r39_4 {x4 : Int} {M : Mem} {call : CallM} {K : Array Value → Mem → R} :
    opsK Try.prog (fun _ => call) (O39 [1,0,1,1,1,0,0,0,0,0,0,0]) (O39 [1,0,1,1,1,0,0,0,0,0,0,0]).toList 0 #[g0,g1,g2,g3,.int .i64 x4,g5,g6,g7,g8,g9,g10,g11,g12,g13,g14,g15,g16,g17,g18,g19,g20,g21,g22,g23,g24,g25,g26,g27,g28,g29,g30,g31,g32,g33,g34,g35,g36,g37,g38,g39,g40,g41,g42,g43,g44,g45,g46,g47,g48,g49,g50,g51,g52,g53,g54,g55,g56,g57,g58,g59] M K = K #[g0,g1,g2,g3,.int .i64 x4,g5,g6,g7,g8,.bool (decide (x4 > 31)),.int .i64 x4,.bool (decide (x4 > 31)),g12,g13,g14,g15,g16,g17,g18,g19,g20,g21,g22,g23,g24,g25,g26,g27,g28,g29,g30,g31,g32,g33,g34,g35,g36,g37,g38,g39,g40,g41,g42,g43,g44,g45,g46,g47,g48,g49,g50,g51,g52,g53,g54,g55,g56,g57,g58,g59] M := by kernel_rfl
theorem c39_24 : P39 [1,0,1,1,1,0,0,0,0,0,0,1] = .cond (.tmp 9) (P39 [1,0,1,1,1,0,0,0,0,0,0,1,0]) (P39 [1,0,1,1,1,0,0,0,0,0,0,1,1]) := by kernel_rfl
theorem k39_25 : P39 [1,0,1,1,1,0,0,0,0,0,0,1,0] = .seq (P39 [1,0,1,1,1,0,0,0,0,0,0,1,0,0]) (P39 [1,0,1,1,1,0,0,0,0,0,0,1,0,1]) := by kernel_rfl
theorem k39_26 : P39 [1,0,1,1,1,0,0,0,0,0,0,1,0,0] = .region 5 (O39 [1,0,1,1,1,0,0,0,0,0,0,1,0,0]) false := by kernel_rfl
theorem r39_5 {M : Mem} {call : CallM} {K : Array Value → Mem → R} :
    opsK Try.prog (fun _ => call) (O39 [1,0,1,1,1,0,0,0,0,0,0,1,0,0]) (O39 [1,0,1,1,1,0,0,0,0,0,0,1,0,0]).toList 0 #[g0,g1,g2,g3,g4,g5,g6,g7,g8,g9,g10,g11,g12,g13,g14,g15,g16,g17,g18,g19,g20,g21,g22,g23,g24,g25,g26,g27,g28,g29,g30,g31,g32,g33,g34,g35,g36,g37,g38,g39,g40,g41,g42,g43,g44,g45,g46,g47,g48,g49,g50,g51,g52,g53,g54,g55,g56,g57,g58,g59] M K = K #[g0,g1,.int .u32 0,.int .i64 4,g4,g5,g6,g7,g8,g9,g10,g11,g12,g13,g14,g15,g16,g17,g18,g19,g20,g21,g22,g23,g24,g25,g26,g27,g28,g29,g30,g31,g32,g33,g34,g35,g36,g37,g38,g39,g40,g41,g42,g43,g44,g45,g46,g47,g48,g49,g50,g51,g52,g53,g54,g55,g56,g57,g58,g59] M := by kernel_rfl
theorem k39_27 : P39 [1,0,1,1,1,0,0,0,0,0,0,1,0,1] = .ret := by kernel_rfl
theorem k39_28 : P39 [1,0,1,1,1,0,0,0,0,0,0,1,1] = .seq (P39 [1,0,1,1,1,0,0,0,0,0,0,1,1,0]) (P39 [1,0,1,1,1,0,0,0,0,0,0,1,1,1]) := by kernel_rfl
theorem k39_29 : P39 [1,0,1,1,1,0,0,0,0,0,0,1,1,0] = .region 6 (O39 [1,0,1,1,1,0,0,0,0,0,0,1,1,0]) false := by kernel_rfl
theorem r39_6 {x0 : Option Addr} {x4 : Int} {M : Mem} {call : CallM} {K : Array Value → Mem → R} :
    opsK Try.prog (fun _ => call) (O39 [1,0,1,1,1,0,0,0,0,0,0,1,1,0]) (O39 [1,0,1,1,1,0,0,0,0,0,0,1,1,0]).toList 0 #[.pointer x0,g1,g2,g3,.int .i64 x4,g5,g6,g7,g8,g9,g10,g11,g12,g13,g14,g15,g16,g17,g18,g19,g20,g21,g22,g23,g24,g25,g26,g27,g28,g29,g30,g31,g32,g33,g34,g35,g36,g37,g38,g39,g40,g41,g42,g43,g44,g45,g46,g47,g48,g49,g50,g51,g52,g53,g54,g55,g56,g57,g58,g59] M K = (call 47 #[.pointer x0] M).bind fun r_1 => (asI .i64 r_1.1).bind fun x_2 => K #[.pointer x0,g1,g2,g3,.int .i64 x4,g5,g6,g7,g8,g9,g10,g11,.bool (decide (x4 ≥ x_2)),.int .i64 x4,.pointer x0,.int .i64 x_2,.bool (decide (x4 ≥ x_2)),g17,g18,g19,g20,g21,g22,g23,g24,g25,g26,g27,g28,g29,g30,g31,g32,g33,g34,g35,g36,g37,g38,g39,g40,g41,g42,g43,g44,g45,g46,g47,g48,g49,g50,g51,g52,g53,g54,g55,g56,g57,g58,g59] r_1.2 := by kernel_rfl
theorem c39_30 : P39 [1,0,1,1,1,0,0,0,0,0,0,1,1,1] = .cond (.tmp 12) (P39 [1,0,1,1,1,0,0,0,0,0,0,1,1,1,0]) (P39 [1,0,1,1,1,0,0,0,0,0,0,1,1,1,1]) := by kernel_rfl
theorem k39_31 : P39 [1,0,1,1,1,0,0,0,0,0,0,1,1,1,0] = .seq (P39 [1,0,1,1,1,0,0,0,0,0,0,1,1,1,0,0]) (P39 [1,0,1,1,1,0,0,0,0,0,0,1,1,1,0,1]) := by kernel_rfl
theorem k39_32 : P39 [1,0,1,1,1,0,0,0,0,0,0,1,1,1,0,0] = .region 7 (O39 [1,0,1,1,1,0,0,0,0,0,0,1,1,1,0,0]) false := by kernel_rfl
theorem r39_7 {M : Mem} {call : CallM} {K : Array Value → Mem → R} :
    opsK Try.prog (fun _ => call) (O39 [1,0,1,1,1,0,0,0,0,0,0,1,1,1,0,0]) (O39 [1,0,1,1,1,0,0,0,0,0,0,1,1,1,0,0]).toList 0 #[g0,g1,g2,g3,g4,g5,g6,g7,g8,g9,g10,g11,g12,g13,g14,g15,g16,g17,g18,g19,g20,g21,g22,g23,g24,g25,g26,g27,g28,g29,g30,g31,g32,g33,g34,g35,g36,g37,g38,g39,g40,g41,g42,g43,g44,g45,g46,g47,g48,g49,g50,g51,g52,g53,g54,g55,g56,g57,g58,g59] M K = K #[g0,g1,.int .u32 0,.int .i64 3,g4,g5,g6,g7,g8,g9,g10,g11,g12,g13,g14,g15,g16,g17,g18,g19,g20,g21,g22,g23,g24,g25,g26,g27,g28,g29,g30,g31,g32,g33,g34,g35,g36,g37,g38,g39,g40,g41,g42,g43,g44,g45,g46,g47,g48,g49,g50,g51,g52,g53,g54,g55,g56,g57,g58,g59] M := by kernel_rfl
theorem k39_33 : P39 [1,0,1,1,1,0,0,0,0,0,0,1,1,1,0,1] = .ret := by kernel_rfl
theorem k39_34 : P39 [1,0,1,1,1,0,0,0,0,0,0,1,1,1,1] = .seq (P39 [1,0,1,1,1,0,0,0,0,0,0,1,1,1,1,0]) (P39 [1,0,1,1,1,0,0,0,0,0,0,1,1,1,1,1]) := by kernel_rfl
theorem k39_35 : P39 [1,0,1,1,1,0,0,0,0,0,0,1,1,1,1,0] = .region 8 (O39 [1,0,1,1,1,0,0,0,0,0,0,1,1,1,1,0]) false := by kernel_rfl
theorem r39_8 {x0 : Option Addr} {x4 : Int} {M : Mem} {call : CallM} {K : Array Value → Mem → R} :
    opsK Try.prog (fun _ => call) (O39 [1,0,1,1,1,0,0,0,0,0,0,1,1,1,1,0]) (O39 [1,0,1,1,1,0,0,0,0,0,0,1,1,1,1,0]).toList 0 #[.pointer x0,g1,g2,g3,.int .i64 x4,g5,g6,g7,g8,g9,g10,g11,g12,g13,g14,g15,g16,g17,g18,g19,g20,g21,g22,g23,g24,g25,g26,g27,g28,g29,g30,g31,g32,g33,g34,g35,g36,g37,g38,g39,g40,g41,g42,g43,g44,g45,g46,g47,g48,g49,g50,g51,g52,g53,g54,g55,g56,g57,g58,g59] M K = (x0).bind fun a_1 => (M.intAt .i64 a_1.block (a_1.off + 1)).bind fun x_2 => (call 58 #[.pointer x0, .int .i64 (IntKind.i64.wrap (x_2 + x4))] M).bind fun r_3 => (asI .u32 r_3.1).bind fun x_4 => K #[.pointer x0,g1,g2,g3,.int .i64 x4,g5,g6,g7,g8,g9,g10,g11,g12,g13,g14,g15,g16,.bool (x_4 == 1),.pointer x0,.pointer x0,.pointer (some a_1),.pointer (some ⟨a_1.block, a_1.off + 1, none⟩),.int .i64 x_2,.int .i64 x4,.int .i64 (IntKind.i64.wrap (x_2 + x4)),.int .u32 x_4,.bool (x_4 == 1),g27,g28,g29,g30,g31,g32,g33,g34,g35,g36,g37,g38,g39,g40,g41,g42,g43,g44,g45,g46,g47,g48,g49,g50,g51,g52,g53,g54,g55,g56,g57,g58,g59] r_3.2 := by kernel_rfl
theorem c39_36 : P39 [1,0,1,1,1,0,0,0,0,0,0,1,1,1,1,1] = .cond (.tmp 17) (P39 [1,0,1,1,1,0,0,0,0,0,0,1,1,1,1,1,0]) (P39 [1,0,1,1,1,0,0,0,0,0,0,1,1,1,1,1,1]) := by kernel_rfl
theorem k39_37 : P39 [1,0,1,1,1,0,0,0,0,0,0,1,1,1,1,1,0] = .exit 0 := by kernel_rfl
theorem k39_38 : P39 [1,0,1,1,1,1] = .seq (P39 [1,0,1,1,1,1,0]) (P39 [1,0,1,1,1,1,1]) := by kernel_rfl
theorem k39_39 : P39 [1,0,1,1,1,1,0] = .seq (P39 [1,0,1,1,1,1,0,0]) (P39 [1,0,1,1,1,1,0,1]) := by kernel_rfl
theorem k39_40 : P39 [1,0,1,1,1,1,0,0] = .region 10 (O39 [1,0,1,1,1,1,0,0]) false := by kernel_rfl
theorem r39_10 {x0 : Option Addr} {x4 : Int} {M : Mem} {call : CallM} {K : Array Value → Mem → R} :
    opsK Try.prog (fun _ => call) (O39 [1,0,1,1,1,1,0,0]) (O39 [1,0,1,1,1,1,0,0]).toList 0 #[.pointer x0,g1,g2,g3,.int .i64 x4,g5,g6,g7,g8,g9,g10,g11,g12,g13,g14,g15,g16,g17,g18,g19,g20,g21,g22,g23,g24,g25,g26,g27,g28,g29,g30,g31,g32,g33,g34,g35,g36,g37,g38,g39,g40,g41,g42,g43,g44,g45,g46,g47,g48,g49,g50,g51,g52,g53,g54,g55,g56,g57,g58,g59] M K = (call 47 #[.pointer x0] M).bind fun r_1 => (asI .i64 r_1.1).bind fun x_2 => K #[.pointer x0,g1,g2,g3,.int .i64 x4,g5,g6,g7,g8,g9,g10,g11,g12,g13,g14,g15,g16,g17,g18,g19,g20,g21,g22,g23,g24,g25,g26,g27,g28,.int .i64 x4,.int .i64 (IntKind.i64.wrap (2 * x4)),.int .i64 (IntKind.i64.wrap ((IntKind.i64.wrap (2 * x4)) + 1)),.pointer x0,.int .i64 x_2,.bool (decide ((IntKind.i64.wrap ((IntKind.i64.wrap (2 * x4)) + 1)) > x_2)),g35,g36,g37,g38,g39,g40,g41,g42,g43,g44,g45,g46,g47,g48,g49,g50,g51,g52,g53,g54,g55,g56,g57,g58,g59] r_1.2 := by kernel_rfl
theorem c39_41 : P39 [1,0,1,1,1,1,0,1] = .cond (.tmp 34) (P39 [1,0,1,1,1,1,0,1,0]) (P39 [1,0,1,1,1,1,0,1,1]) := by kernel_rfl
theorem k39_42 : P39 [1,0,1,1,1,1,0,1,0] = .seq (P39 [1,0,1,1,1,1,0,1,0,0]) (P39 [1,0,1,1,1,1,0,1,0,1]) := by kernel_rfl
theorem k39_43 : P39 [1,0,1,1,1,1,0,1,0,0] = .region 11 (O39 [1,0,1,1,1,1,0,1,0,0]) false := by kernel_rfl
theorem r39_11 {M : Mem} {call : CallM} {K : Array Value → Mem → R} :
    opsK Try.prog (fun _ => call) (O39 [1,0,1,1,1,1,0,1,0,0]) (O39 [1,0,1,1,1,1,0,1,0,0]).toList 0 #[g0,g1,g2,g3,g4,g5,g6,g7,g8,g9,g10,g11,g12,g13,g14,g15,g16,g17,g18,g19,g20,g21,g22,g23,g24,g25,g26,g27,g28,g29,g30,g31,g32,g33,g34,g35,g36,g37,g38,g39,g40,g41,g42,g43,g44,g45,g46,g47,g48,g49,g50,g51,g52,g53,g54,g55,g56,g57,g58,g59] M K = K #[g0,g1,.int .u32 0,.int .i64 3,g4,g5,g6,g7,g8,g9,g10,g11,g12,g13,g14,g15,g16,g17,g18,g19,g20,g21,g22,g23,g24,g25,g26,g27,g28,g29,g30,g31,g32,g33,g34,g35,g36,g37,g38,g39,g40,g41,g42,g43,g44,g45,g46,g47,g48,g49,g50,g51,g52,g53,g54,g55,g56,g57,g58,g59] M := by kernel_rfl
theorem k39_44 : P39 [1,0,1,1,1,1,0,1,0,1] = .ret := by kernel_rfl
theorem k39_45 : P39 [1,0,1,1,1,1,0,1,1] = .skip := by kernel_rfl
theorem k39_46 : P39 [1,0,1,1,1,1,1] = .seq (P39 [1,0,1,1,1,1,1,0]) (P39 [1,0,1,1,1,1,1,1]) := by kernel_rfl
theorem k39_47 : P39 [1,0,1,1,1,1,1,0] = .region 12 (O39 [1,0,1,1,1,1,1,0]) true ∧ drawOk (O39 [1,0,1,1,1,1,1,0]) = true := ⟨by kernel_rfl, by kernel_rfl⟩
theorem r39_12 {x0 : Option Addr} {x4 : Int} {M : Mem} {call : CallM} {K : Array Value → Mem → R} :
    opsI Try.prog (callAt call (O39 [1,0,1,1,1,1,1,0])) (O39 [1,0,1,1,1,1,1,0]) (ordOf (O39 [1,0,1,1,1,1,1,0])) [] #[.pointer x0,g1,g2,g3,.int .i64 x4,g5,g6,g7,g8,g9,g10,g11,g12,g13,g14,g15,g16,g17,g18,g19,g20,g21,g22,g23,g24,g25,g26,g27,g28,g29,g30,g31,g32,g33,g34,g35,g36,g37,g38,g39,g40,g41,g42,g43,g44,g45,g46,g47,g48,g49,g50,g51,g52,g53,g54,g55,g56,g57,g58,g59] M K = (x0).bind fun a_1 => (M.intAt .i64 a_1.block (a_1.off + 1)).bind fun x_2 => (binV Try.prog .shl 27 3 (.int .u32 1) (.int .i64 x4)).bind fun v_3 => (asI .u32 v_3).bind fun x_4 => (call 54 #[.pointer x0, .int .i64 (IntKind.i64.wrap ((IntKind.i64.wrap (x_2 + x4)) + 1)), .int .i64 x4] M).bind fun r_5 => (asI .u32 r_5.1).bind fun x_6 => K #[.pointer x0,g1,g2,g3,.int .i64 x4,.int .u32 (IntKind.u32.wrap (x_6 + (IntKind.u32.wrap (x_4 - 1)))),g6,g7,g8,g9,g10,g11,g12,g13,g14,g15,g16,g17,g18,g19,g20,g21,g22,g23,g24,g25,g26,g27,g28,g29,g30,g31,g32,g33,g34,.pointer x0,.pointer x0,.pointer (some a_1),.pointer (some ⟨a_1.block, a_1.off + 1, none⟩),.int .i64 x_2,.int .i64 x4,.int .i64 (IntKind.i64.wrap (x_2 + x4)),.int .i64 (IntKind.i64.wrap ((IntKind.i64.wrap (x_2 + x4)) + 1)),.int .i64 x4,.int .u32 x_6,.int .i64 x4,.int .u32 x_4,.int .u32 (IntKind.u32.wrap (x_4 - 1)),.int .u32 (IntKind.u32.wrap (x_6 + (IntKind.u32.wrap (x_4 - 1)))),g49,g50,g51,g52,g53,g54,g55,g56,g57,g58,g59] r_5.2 := by kernel_rfl
theorem k39_48 : P39 [1,0,1,1,1,1,1,1] = .seq (P39 [1,0,1,1,1,1,1,1,0]) (P39 [1,0,1,1,1,1,1,1,1]) := by kernel_rfl
theorem k39_49 : P39 [1,0,1,1,1,1,1,1,0] = .region 13 (O39 [1,0,1,1,1,1,1,1,0]) false := by kernel_rfl
theorem r39_13 {x0 : Option Addr} {x4 : Int} {M : Mem} {call : CallM} {K : Array Value → Mem → R} :
    opsK Try.prog (fun _ => call) (O39 [1,0,1,1,1,1,1,1,0]) (O39 [1,0,1,1,1,1,1,1,0]).toList 0 #[.pointer x0,g1,g2,g3,.int .i64 x4,g5,g6,g7,g8,g9,g10,g11,g12,g13,g14,g15,g16,g17,g18,g19,g20,g21,g22,g23,g24,g25,g26,g27,g28,g29,g30,g31,g32,g33,g34,g35,g36,g37,g38,g39,g40,g41,g42,g43,g44,g45,g46,g47,g48,g49,g50,g51,g52,g53,g54,g55,g56,g57,g58,g59] M K = (x0).bind fun a_1 => (M.intAt .i64 a_1.block (a_1.off + 1)).bind fun x_2 => (x0).bind fun a_3 => (M.put a_3.block (a_3.off + 1) (.int .i64 (IntKind.i64.wrap (x_2 + (IntKind.i64.wrap ((IntKind.i64.wrap (2 * x4)) + 1)))))).bind fun M_4 => K #[.pointer x0,g1,g2,g3,.int .i64 x4,g5,g6,g7,g8,g9,g10,g11,g12,g13,g14,g15,g16,g17,g18,g19,g20,g21,g22,g23,g24,g25,g26,g27,g28,g29,g30,g31,g32,g33,g34,g35,g36,g37,g38,g39,g40,g41,g42,g43,g44,g45,g46,g47,g48,.pointer x0,.pointer (some a_1),.pointer (some ⟨a_1.block, a_1.off + 1, none⟩),.int .i64 x_2,.int .i64 x4,.int .i64 (IntKind.i64.wrap (2 * x4)),.int .i64 (IntKind.i64.wrap ((IntKind.i64.wrap (2 * x4)) + 1)),.int .i64 (IntKind.i64.wrap (x_2 + (IntKind.i64.wrap ((IntKind.i64.wrap (2 * x4)) + 1)))),.pointer (some a_3),.pointer (some ⟨a_3.block, a_3.off + 1, none⟩),g59] M_4 := by kernel_rfl
theorem k39_50 : P39 [1,0,1,1,1,1,1,1,1] = .seq (P39 [1,0,1,1,1,1,1,1,1,0]) (P39 [1,0,1,1,1,1,1,1,1,1]) := by kernel_rfl
theorem k39_51 : P39 [1,0,1,1,1,1,1,1,1,0] = .region 14 (O39 [1,0,1,1,1,1,1,1,1,0]) false := by kernel_rfl
theorem r39_14 {x5 : Int} {M : Mem} {call : CallM} {K : Array Value → Mem → R} :
    opsK Try.prog (fun _ => call) (O39 [1,0,1,1,1,1,1,1,1,0]) (O39 [1,0,1,1,1,1,1,1,1,0]).toList 0 #[g0,g1,g2,g3,g4,.int .u32 x5,g6,g7,g8,g9,g10,g11,g12,g13,g14,g15,g16,g17,g18,g19,g20,g21,g22,g23,g24,g25,g26,g27,g28,g29,g30,g31,g32,g33,g34,g35,g36,g37,g38,g39,g40,g41,g42,g43,g44,g45,g46,g47,g48,g49,g50,g51,g52,g53,g54,g55,g56,g57,g58,g59] M K = K #[g0,g1,.int .u32 x5,.int .i64 0,g4,.int .u32 x5,g6,g7,g8,g9,g10,g11,g12,g13,g14,g15,g16,g17,g18,g19,g20,g21,g22,g23,g24,g25,g26,g27,g28,g29,g30,g31,g32,g33,g34,g35,g36,g37,g38,g39,g40,g41,g42,g43,g44,g45,g46,g47,g48,g49,g50,g51,g52,g53,g54,g55,g56,g57,g58,.int .u32 x5] M := by kernel_rfl
theorem k39_52 : P39 [1,0,1,1,1,1,1,1,1,1] = .ret := by kernel_rfl
theorem k39_53 : P39 [1,0,1,1,1,0,0,0,0,0,0,1,1,1,1,1,1] = .skip := by kernel_rfl
theorem k39_54 : P39 [1,0,1,1,1,0,0,0,0,1] = .region 9 (O39 [1,0,1,1,1,0,0,0,0,1]) false := by kernel_rfl
theorem r39_9 {x4 : Int} {M : Mem} {call : CallM} {K : Array Value → Mem → R} :
    opsK Try.prog (fun _ => call) (O39 [1,0,1,1,1,0,0,0,0,1]) (O39 [1,0,1,1,1,0,0,0,0,1]).toList 0 #[g0,g1,g2,g3,.int .i64 x4,g5,g6,g7,g8,g9,g10,g11,g12,g13,g14,g15,g16,g17,g18,g19,g20,g21,g22,g23,g24,g25,g26,g27,g28,g29,g30,g31,g32,g33,g34,g35,g36,g37,g38,g39,g40,g41,g42,g43,g44,g45,g46,g47,g48,g49,g50,g51,g52,g53,g54,g55,g56,g57,g58,g59] M K = K #[g0,g1,g2,g3,.int .i64 (IntKind.i64.wrap (x4 + 1)),g5,g6,g7,g8,g9,g10,g11,g12,g13,g14,g15,g16,g17,g18,g19,g20,g21,g22,g23,g24,g25,g26,.int .i64 x4,.int .i64 (IntKind.i64.wrap (x4 + 1)),g29,g30,g31,g32,g33,g34,g35,g36,g37,g38,g39,g40,g41,g42,g43,g44,g45,g46,g47,g48,g49,g50,g51,g52,g53,g54,g55,g56,g57,g58,g59] M := by kernel_rfl
noncomputable def S39_1 : List Item := [.code (P39 [1,0,1,1,1,0,0,0]), .inLoop (P39 [1,0,1,1,1,0,0,0]), .inBlock 0, .code (P39 [1,0,1,1,1,1]), .inScope (P39 [1,0])]
def A39_1 (x0 : Option Addr) (x4 : Int) (M : Mem) (Q : Value → Mem → Prop) : Prop := ∀ (g1 g2 g3 g5 g6 g7 g8 g9 g10 g11 g12 g13 g14 g15 g16 g17 g18 g19 g20 g21 g22 g23 g24 g25 g26 g27 g28 g29 g30 g31 g32 g33 g34 g35 g36 g37 g38 g39 g40 g41 g42 g43 g44 g45 g46 g47 g48 g49 g50 g51 g52 g53 g54 g55 g56 g57 g58 g59 : Value), Rn Try.prog Try.f39 S39_1 #[.pointer x0, g1, g2, g3, .int .i64 x4, g5, g6, g7, g8, g9, g10, g11, g12, g13, g14, g15, g16, g17, g18, g19, g20, g21, g22, g23, g24, g25, g26, g27, g28, g29, g30, g31, g32, g33, g34, g35, g36, g37, g38, g39, g40, g41, g42, g43, g44, g45, g46, g47, g48, g49, g50, g51, g52, g53, g54, g55, g56, g57, g58, g59] M Q
theorem w39_0 {x0 : Option Addr} {M : Mem} {Q : Value → Mem → Prop} (H :
    Cn Try.prog 46 #[.pointer x0] M fun v1' N1' =>
     ∃ b2', asB v1' = some b2' ∧
     (((!b2') = true →
      Q (.tuple #[.int .u32 0, .int .i64 1]) N1') ∧
      ((!b2') = false →
      A39_1 x0 0 N1' Q))) :
    Cn Try.prog 39 #[.pointer x0] M Q := by
  refine Cn.of b39 d39 t39 ?_
  refine Rn.seq k39_0 (Rn.region k39_1 (fun call K => r39_0) (Rch.leaf (Rn.scope k39_2 (Rn.seq k39_3 (Rn.seq k39_4 (Rn.region k39_5 (fun call K => r39_1) (Rch.call H fun v1' N1' H => Rch.ex H fun b2' H => Rch.leaf ?_)))))))
  refine Rn.cnd (v := !b2') ⟨c39_6, rfl, by kernel_rfl⟩ (fun h => ?_) (fun h => ?_)
  · replace H := H.1 (h)
    refine Rn.seq k39_7 (Rn.region k39_8 (fun call K => r39_2) (Rch.leaf ?_))
    exact Rn.ret k39_9 e39 H
  · replace H := H.2 (h)
    refine Rn.skip k39_11 (Rn.seq k39_12 (Rn.region k39_13 (fun call K => r39_3) (Rch.leaf (Rn.seq k39_14 (Rn.label k39_15 (Rn.seq k39_16 (Rn.block k39_17 (Rn.loop k39_18 ?_))))))))
    exact H _ _ _ _ _ _ _ _ _ _ _ _ _ _ _ _ _ _ _ _ _ _ _ _ _ _ _ _ _ _ _ _ _ _ _ _ _ _ _ _ _ _ _ _ _ _ _ _ _ _ _ _ _ _ _ _ _ _

theorem w39_1 {x0 : Option Addr} {x4 : Int} {M : Mem} {Q : Value → Mem → Prop} (H :
    ((x4 > 31 →
     Q (.tuple #[.int .u32 0, .int .i64 4]) M) ∧
     (¬ (x4 > 31) →
     Cn Try.prog 47 #[.pointer x0] M fun v3' N3' =>
      ∃ x4', asI .i64 v3' = some x4' ∧
      ((x4 ≥ x4' →
       Q (.tuple #[.int .u32 0, .int .i64 3]) N3') ∧
       (¬ (x4 ≥ x4') →
       ∃ a5', x0 = some a5' ∧
       ∃ x6', N3'.intAt .i64 a5'.block (a5'.off + 1) = some x6' ∧
       Cn Try.prog 58 #[.pointer x0, .int .i64 (IntKind.i64.wrap (x6' + x4))] N3' fun v7' N7' =>
        ∃ x8', asI .u32 v7' = some x8' ∧
        ((x8' = 1 →
         Cn Try.prog 47 #[.pointer x0] N7' fun v9' N9' =>
          ∃ x10', asI .i64 v9' = some x10' ∧
          (((IntKind.i64.wrap ((IntKind.i64.wrap (2 * x4)) + 1)) > x10' →
           Q (.tuple #[.int .u32 0, .int .i64 3]) N9') ∧
           (¬ ((IntKind.i64.wrap ((IntKind.i64.wrap (2 * x4)) + 1)) > x10') →
           ∃ a11', x0 = some a11' ∧
           ∃ x12', N9'.intAt .i64 a11'.block (a11'.off + 1) = some x12' ∧
           ∃ v13', binV Try.prog .shl 27 3 (.int .u32 1) (.int .i64 x4) = some v13' ∧
           ∃ x14', asI .u32 v13' = some x14' ∧
           Cn Try.prog 54 #[.pointer x0, .int .i64 (IntKind.i64.wrap ((IntKind.i64.wrap (x12' + x4)) + 1)), .int .i64 x4] N9' fun v15' N15' =>
            ∃ x16', asI .u32 v15' = some x16' ∧
            ∃ a17', x0 = some a17' ∧
            ∃ x18', N15'.intAt .i64 a17'.block (a17'.off + 1) = some x18' ∧
            ∃ a19', x0 = some a19' ∧
            ∃ M20', N15'.put a19'.block (a19'.off + 1) (.int .i64 (IntKind.i64.wrap (x18' + (IntKind.i64.wrap ((IntKind.i64.wrap (2 * x4)) + 1))))) = some M20' ∧
            Q (.tuple #[.int .u32 (IntKind.u32.wrap (x16' + (IntKind.u32.wrap (x14' - 1)))), .int .i64 0]) M20'))) ∧
         (x8' ≠ 1 →
         A39_1 x0 (IntKind.i64.wrap (x4 + 1)) N7' Q))))))) :
    A39_1 x0 x4 M Q := by
  intro g1 g2 g3 g5 g6 g7 g8 g9 g10 g11 g12 g13 g14 g15 g16 g17 g18 g19 g20 g21 g22 g23 g24 g25 g26 g27 g28 g29 g30 g31 g32 g33 g34 g35 g36 g37 g38 g39 g40 g41 g42 g43 g44 g45 g46 g47 g48 g49 g50 g51 g52 g53 g54 g55 g56 g57 g58 g59
  refine Rn.block k39_19 (Rn.seq k39_20 (Rn.block k39_21 (Rn.seq k39_22 (Rn.region k39_23 (fun call K => r39_4) (Rch.leaf ?_)))))
  refine Rn.cnd (v := decide (x4 > 31)) ⟨c39_24, rfl, by kernel_rfl⟩ (fun h => ?_) (fun h => ?_)
  · replace H := H.1 (of_decide_eq_true h)
    refine Rn.seq k39_25 (Rn.region k39_26 (fun call K => r39_5) (Rch.leaf ?_))
    exact Rn.ret k39_27 e39 H
  · replace H := H.2 (of_decide_eq_false h)
    refine Rn.seq k39_28 (Rn.region k39_29 (fun call K => r39_6) (Rch.call H fun v3' N3' H => Rch.ex H fun x4' H => Rch.leaf ?_))
    refine Rn.cnd (v := decide (x4 ≥ x4')) ⟨c39_30, rfl, by kernel_rfl⟩ (fun h => ?_) (fun h => ?_)
    · replace H := H.1 (of_decide_eq_true h)
      refine Rn.seq k39_31 (Rn.region k39_32 (fun call K => r39_7) (Rch.leaf ?_))
      exact Rn.ret k39_33 e39 H
    · replace H := H.2 (of_decide_eq_false h)
      refine Rn.seq k39_34 (Rn.region k39_35 (fun call K => r39_8) (Rch.ex H fun a5' H => Rch.ex H fun x6' H => Rch.call H fun v7' N7' H => Rch.ex H fun x8' H => Rch.leaf ?_))
      refine Rn.cnd (v := x8' == 1) ⟨c39_36, rfl, by kernel_rfl⟩ (fun h => ?_) (fun h => ?_)
      · replace H := H.1 (eq_of_beq h)
        refine Rn.exit k39_37 rfl (Rn.seq k39_38 (Rn.seq k39_39 (Rn.region k39_40 (fun call K => r39_10) (Rch.call H fun v9' N9' H => Rch.ex H fun x10' H => Rch.leaf ?_))))
        refine Rn.cnd (v := decide ((IntKind.i64.wrap ((IntKind.i64.wrap (2 * x4)) + 1)) > x10')) ⟨c39_41, rfl, by kernel_rfl⟩ (fun h => ?_) (fun h => ?_)
        · replace H := H.1 (of_decide_eq_true h)
          refine Rn.seq k39_42 (Rn.region k39_43 (fun call K => r39_11) (Rch.leaf ?_))
          exact Rn.ret k39_44 e39 H
        · replace H := H.2 (of_decide_eq_false h)
          refine Rn.skip k39_45 (Rn.seq k39_46 (Rn.regionD k39_47 (fun call K => r39_12) (Rch.ex H fun a11' H => Rch.ex H fun x12' H => Rch.ex H fun v13' H => Rch.ex H fun x14' H => Rch.call H fun v15' N15' H => Rch.ex H fun x16' H => Rch.leaf (Rn.seq k39_48 (Rn.region k39_49 (fun call K => r39_13) ?_)))))
          refine Rch.ex H fun a17' H => Rch.ex H fun x18' H => Rch.ex H fun a19' H => Rch.ex H fun M20' H => Rch.leaf (Rn.seq k39_50 (Rn.region k39_51 (fun call K => r39_14) (Rch.leaf ?_)))
          exact Rn.ret k39_52 e39 H
      · replace H := H.2 (ne_of_beq_false h)
        refine Rn.skip k39_53 (Rn.blk (Rn.region k39_54 (fun call K => r39_9) (Rch.leaf (Rn.blk (Rn.lp ?_)))))
        exact H _ _ _ _ _ _ _ _ _ _ _ _ _ _ _ _ _ _ _ _ _ _ _ _ _ _ _ _ _ _ _ _ _ _ _ _ _ _ _ _ _ _ _ _ _ _ _ _ _ _ _ _ _ _ _ _ _ _


/-! ### (*zoetrope/bits.Reader).Leb: function 40 -/
noncomputable abbrev P40 (p : List Nat) : Code := subC (codeOf Try.f40) p
noncomputable abbrev O40 (p : List Nat) : Array Oper := opsOf (subC (codeOf Try.f40) p)
theorem b40 : Try.prog.funcs[40]? = some Try.f40 ∧ (Orc.tab Try.prog).lookup 40 = none := ⟨by kernel_rfl, by kernel_rfl⟩
theorem d40 : Try.f40.body = some (P40 []) := by kernel_rfl
theorem t40 {x0 : Option Addr} : #[.pointer x0] ++ Array.replicate (Try.f40.ntmps - (#[.pointer x0] : Array Value).size) undef = #[.pointer x0,undef,undef,undef,undef,undef,undef,undef,undef,undef,undef,undef,undef,undef,undef,undef,undef,undef,undef,undef,undef,undef,undef,undef,undef,undef,undef,undef,undef,undef,undef,undef,undef,undef,undef,undef,undef,undef,undef,undef,undef,undef,undef,undef,undef,undef,undef,undef,undef,undef,undef,undef,undef,undef,undef,undef,undef,undef,undef,undef,undef,undef,undef,undef,undef,undef,undef,undef] := by kernel_rfl
theorem k40_0 : P40 [] = .seq (P40 [0]) (P40 [1]) := by kernel_rfl
theorem k40_1 : P40 [0] = .region 0 (O40 [0]) false := by kernel_rfl
theorem r40_0 {M : Mem} {call : CallM} {K : Array Value → Mem → R} :
    opsK Try.prog (fun _ => call) (O40 [0]) (O40 [0]).toList 0 #[g0,g1,g2,g3,g4,g5,g6,g7,g8,g9,g10,g11,g12,g13,g14,g15,g16,g17,g18,g19,g20,g21,g22,g23,g24,g25,g26,g27,g28,g29,g30,g31,g32,g33,g34,g35,g36,g37,g38,g39,g40,g41,g42,g43,g44,g45,g46,g47,g48,g49,g50,g51,g52,g53,g54,g55,g56,g57,g58,g59,g60,g61,g62,g63,g64,g65,g66,g67] M K = K #[g0,g1,.int .u32 0,.int .i64 0,g4,g5,g6,g7,g8,g9,g10,g11,g12,g13,g14,g15,g16,g17,g18,g19,g20,g21,g22,g23,g24,g25,g26,g27,g28,g29,g30,g31,g32,g33,g34,g35,g36,g37,g38,g39,g40,g41,g42,g43,g44,g45,g46,g47,g48,g49,g50,g51,g52,g53,g54,g55,g56,g57,g58,g59,g60,g61,g62,g63,g64,g65,g66,g67] M := by kernel_rfl
theorem k40_2 : P40 [1] = .seq (P40 [1,0]) (P40 [1,1]) := by kernel_rfl
theorem k40_3 : P40 [1,0] = .seq (P40 [1,0,0]) (P40 [1,0,1]) := by kernel_rfl
theorem k40_4 : P40 [1,0,0] = .region 1 (O40 [1,0,0]) false := by kernel_rfl
theorem r40_1 {x0 : Option Addr} {M : Mem} {call : CallM} {K : Array Value → Mem → R} :
    opsK Try.prog (fun _ => call) (O40 [1,0,0]) (O40 [1,0,0]).toList 0 #[.pointer x0,g1,g2,g3,g4,g5,g6,g7,g8,g9,g10,g11,g12,g13,g14,g15,g16,g17,g18,g19,g20,g21,g22,g23,g24,g25,g26,g27,g28,g29,g30,g31,g32,g33,g34,g35,g36,g37,g38,g39,g40,g41,g42,g43,g44,g45,g46,g47,g48,g49,g50,g51,g52,g53,g54,g55,g56,g57,g58,g59,g60,g61,g62,g63,g64,g65,g66,g67] M K = (call 46 #[.pointer x0] M).bind fun r_1 => (asB r_1.1).bind fun b_2 => K #[.pointer x0,g1,g2,g3,g4,g5,g6,.pointer x0,.bool b_2,.bool (!b_2),g10,g11,g12,g13,g14,g15,g16,g17,g18,g19,g20,g21,g22,g23,g24,g25,g26,g27,g28,g29,g30,g31,g32,g33,g34,g35,g36,g37,g38,g39,g40,g41,g42,g43,g44,g45,g46,g47,g48,g49,g50,g51,g52,g53,g54,g55,g56,g57,g58,g59,g60,g61,g62,g63,g64,g65,g66,g67] r_1.2 := by kernel_rfl
theorem c40_5 : P40 [1,0,1] = .cond (.tmp 9) (P40 [1,0,1,0]) (P40 [1,0,1,1]) := by kernel_rfl
theorem k40_6 : P40 [1,0,1,0] = .seq (P40 [1,0,1,0,0]) (P40 [1,0,1,0,1]) := by kernel_rfl
theorem k40_7 : P40 [1,0,1,0,0] = .region 2 (O40 [1,0,1,0,0]) false := by kernel_rfl
theorem r40_2 {M : Mem} {call : CallM} {K : Array Value → Mem → R} :
    opsK Try.prog (fun _ => call) (O40 [1,0,1,0,0]) (O40 [1,0,1,0,0]).toList 0 #[g0,g1,g2,g3,g4,g5,g6,g7,g8,g9,g10,g11,g12,g13,g14,g15,g16,g17,g18,g19,g20,g21,g22,g23,g24,g25,g26,g27,g28,g29,g30,g31,g32,g33,g34,g35,g36,g37,g38,g39,g40,g41,g42,g43,g44,g45,g46,g47,g48,g49,g50,g51,g52,g53,g54,g55,g56,g57,g58,g59,g60,g61,g62,g63,g64,g65,g66,g67] M K = K #[g0,g1,.int .u32 0,.int .i64 1,g4,g5,g6,g7,g8,g9,g10,g11,g12,g13,g14,g15,g16,g17,g18,g19,g20,g21,g22,g23,g24,g25,g26,g27,g28,g29,g30,g31,g32,g33,g34,g35,g36,g37,g38,g39,g40,g41,g42,g43,g44,g45,g46,g47,g48,g49,g50,g51,g52,g53,g54,g55,g56,g57,g58,g59,g60,g61,g62,g63,g64,g65,g66,g67] M := by kernel_rfl
theorem k40_8 : P40 [1,0,1,0,1] = .ret := by kernel_rfl
theorem e40 {M : Mem} : finish Try.prog Try.f40 #[g0,g1,g2,g3,g4,g5,g6,g7,g8,g9,g10,g11,g12,g13,g14,g15,g16,g17,g18,g19,g20,g21,g22,g23,g24,g25,g26,g27,g28,g29,g30,g31,g32,g33,g34,g35,g36,g37,g38,g39,g40,g41,g42,g43,g44,g45,g46,g47,g48,g49,g50,g51,g52,g53,g54,g55,g56,g57,g58,g59,g60,g61,g62,g63,g64,g65,g66,g67] M = some (.tuple #[g2, g3], M) := by kernel_rfl
theorem k40_10 : P40 [1,0,1,1] = .skip := by kernel_rfl
theorem k40_11 : P40 [1,1] = .seq (P40 [1,1,0]) (P40 [1,1,1]) := by kernel_rfl
theorem k40_12 : P40 [1,1,0] = .seq (P40 [1,1,0,0]) (P40 [1,1,0,1]) := by kernel_rfl
theorem k40_13 : P40 [1,1,0,0] = .region 3 (O40 [1,1,0,0]) false := by kernel_rfl
theorem r40_3 {x0 : Option Addr} {M : Mem} {call : CallM} {K : Array Value → Mem → R} :
    opsK Try.prog (fun _ => call) (O40 [1,1,0,0]) (O40 [1,1,0,0]).toList 0 #[.pointer x0,g1,g2,g3,g4,g5,g6,g7,g8,g9,g10,g11,g12,g13,g14,g15,g16,g17,g18,g19,g20,g21,g22,g23,g24,g25,g26,g27,g28,g29,g30,g31,g32,g33,g34,g35,g36,g37,g38,g39,g40,g41,g42,g43,g44,g45,g46,g47,g48,g49,g50,g51,g52,g53,g54,g55,g56,g57,g58,g59,g60,g61,g62,g63,g64,g65,g66,g67] M K = (x0).bind fun a_1 => (M.intAt .i64 a_1.block (a_1.off + 1)).bind fun x_2 => K #[.pointer x0,g1,g2,g3,g4,g5,g6,g7,g8,g9,.pointer x0,.pointer (some a_1),.pointer (some ⟨a_1.block, a_1.off + 1, none⟩),.int .i64 x_2,.int .i64 (x_2.tmod 8),.bool ((x_2.tmod 8) != 0),g16,g17,g18,g19,g20,g21,g22,g23,g24,g25,g26,g27,g28,g29,g30,g31,g32,g33,g34,g35,g36,g37,g38,g39,g40,g41,g42,g43,g44,g45,g46,g47,g48,g49,g50,g51,g52,g53,g54,g55,g56,g57,g58,g59,g60,g61,g62,g63,g64,g65,g66,g67] M := by kernel_rfl
theorem c40_14 : P40 [1,1,0,1] = .cond (.tmp 15) (P40 [1,1,0,1,0]) (P40 [1,1,0,1,1]) := by kernel_rfl
theorem k40_15 : P40 [1,1,0,1,0] = .seq (P40 [1,1,0,1,0,0]) (P40 [1,1,0,1,0,1]) := by kernel_rfl
theorem k40_16 : P40 [1,1,0,1,0,0] = .region 4 (O40 [1,1,0,1,0,0]) false := by kernel_rfl
theorem r40_4 {M : Mem} {call : CallM} {K : Array Value → Mem → R} :
    opsK Try.prog (fun _ => call) (O40 [1,1,0,1,0,0]) (O40 [1,1,0,1,0,0]).toList 0 #[g0,g1,g2,g3,g4,g5,g6,g7,g8,g9,g10,g11,g12,g13,g14,g15,g16,g17,g18,g19,g20,g21,g22,g23,g24,g25,g26,g27,g28,g29,g30,g31,g32,g33,g34,g35,g36,g37,g38,g39,g40,g41,g42,g43,g44,g45,g46,g47,g48,g49,g50,g51,g52,g53,g54,g55,g56,g57,g58,g59,g60,g61,g62,g63,g64,g65,g66,g67] M K = K #[g0,g1,.int .u32 0,.int .i64 2,g4,g5,g6,g7,g8,g9,g10,g11,g12,g13,g14,g15,g16,g17,g18,g19,g20,g21,g22,g23,g24,g25,g26,g27,g28,g29,g30,g31,g32,g33,g34,g35,g36,g37,g38,g39,g40,g41,g42,g43,g44,g45,g46,g47,g48,g49,g50,g51,g52,g53,g54,g55,g56,g57,g58,g59,g60,g61,g62,g63,g64,g65,g66,g67] M := by kernel_rfl
theorem k40_17 : P40 [1,1,0,1,0,1] = .ret := by kernel_rfl
theorem k40_18 : P40 [1,1,0,1,1] = .skip := by kernel_rfl
theorem k40_19 : P40 [1,1,1] = .seq (P40 [1,1,1,0]) (P40 [1,1,1,1]) := by kernel_rfl
theorem k40_20 : P40 [1,1,1,0] = .region 5 (O40 [1,1,1,0]) false := by kernel_rfl
theorem r40_5 {M : Mem} {call : CallM} {K : Array Value → Mem → R} :
    opsK Try.prog (fun _ => call) (O40 [1,1,1,0]) (O40 [1,1,1,0]).toList 0 #[g0,g1,g2,g3,g4,g5,g6,g7,g8,g9,g10,g11,g12,g13,g14,g15,g16,g17,g18,g19,g20,g21,g22,g23,g24,g25,g26,g27,g28,g29,g30,g31,g32,g33,g34,g35,g36,g37,g38,g39,g40,g41,g42,g43,g44,g45,g46,g47,g48,g49,g50,g51,g52,g53,g54,g55,g56,g57,g58,g59,g60,g61,g62,g63,g64,g65,g66,g67] M K = K #[g0,g1,g2,g3,.int .u32 0,g5,g6,g7,g8,g9,g10,g11,g12,g13,g14,g15,g16,g17,g18,g19,g20,g21,g22,g23,g24,g25,g26,g27,g28,g29,g30,g31,g32,g33,g34,g35,g36,g37,g38,g39,g40,g41,g42,g43,g44,g45,g46,g47,g48,g49,g50,g51,g52,g53,g54,g55,g56,g57,g58,g59,g60,g61,g62,g63,g64,g65,g66,g67] M := by kernel_rfl
theorem k40_21 : P40 [1,1,1,1] = .seq (P40 [1,1,1,1,0]) (P40 [1,1,1,1,1]) := by kernel_rfl
theorem k40_22 : P40 [1,1,1,1,0] = .seq (P40 [1,1,1,1,0,0]) (P40 [1,1,1,1,0,1]) := by kernel_rfl
theorem k40_23 : P40 [1,1,1,1,0,0] = .region 6 (O40 [1,1,1,1,0,0]) true ∧ drawOk (O40 [1,1,1,1,0,0]) = true := ⟨by kernel_rfl, by kernel_rfl⟩
theorem r40_6 {x0 : Option Addr} {M : Mem} {call : CallM} {K : Array Value → Mem → R} :
    opsI Try.prog (callAt call (O40 [1,1,1,1,0,0])) (O40 [1,1,1,1,0,0]) (ordOf (O40 [1,1,1,1,0,0])) [] #[.pointer x0,g1,g2,g3,g4,g5,g6,g7,g8,g9,g10,g11,g12,g13,g14,g15,g16,g17,g18,g19,g20,g21,g22,g23,g24,g25,g26,g27,g28,g29,g30,g31,g32,g33,g34,g35,g36,g37,g38,g39,g40,g41,g42,g43,g44,g45,g46,g47,g48,g49,g50,g51,g52,g53,g54,g55,g56,g57,g58,g59,g60,g61,g62,g63,g64,g65,g66,g67] M K = (x0).bind fun a_1 => (M.slAt a_1.block a_1.off).bind fun s_2 => (x0).bind fun a_3 => (M.intAt .i64 a_3.block (a_3.off + 1)).bind fun x_4 => (sliceP Try.prog 37 (.slice s_2.1 (s_2.2.1) (s_2.2.2)) (some (.int .i64 (IntKind.i64.wrap (x_4.tdiv 8)))) none none).bind fun v_5 => (asS v_5).bind fun s_6 => K #[.pointer x0,g1,g2,g3,g4,g5,g6,g7,g8,g9,g10,g11,g12,g13,g14,g15,.pointer x0,.pointer (some a_1),.pointer (some ⟨a_1.block, a_1.off, none⟩),.slice s_2.1 (s_2.2.1) (s_2.2.2),.pointer x0,.pointer (some a_3),.pointer (some ⟨a_3.block, a_3.off + 1, none⟩),.int .i64 x_4,.int .i64 (IntKind.i64.wrap (x_4.tdiv 8)),.slice s_6.1 (s_6.2.1) (s_6.2.2),.int .i64 ((s_6.2.1 : Int)),.int .i64 0,g28,g29,g30,g31,g32,g33,g34,g35,g36,g37,g38,g39,g40,g41,g42,g43,g44,g45,g46,g47,g48,g49,g50,g51,g52,g53,g54,g55,g56,g57,g58,g59,g60,g61,g62,g63,g64,g65,g66,g67] M := by kernel_rfl
theorem k40_24 : P40 [1,1,1,1,0,1] = .block 0 (P40 [1,1,1,1,0,1,0]) := by kernel_rfl
theorem k40_25 : P40 [1,1,1,1,0,1,0] = .loop (P40 [1,1,1,1,0,1,0,0]) := by kernel_rfl
theorem k40_26 : P40 [1,1,1,1,0,1,0,0] = .seq (P40 [1,1,1,1,0,1,0,0,0]) (P40 [1,1,1,1,0,1,0,0,1]) := by kernel_rfl
theorem k40_27 : P40 [1,1,1,1,0,1,0,0,0] = .region 7 (O40 [1,1,1,1,0,1,0,0,0]) false := by kernel_rfl
theorem r40_7 {x26 x27 : Int} {M : Mem} {call : CallM} {K : Array Value → Mem → R} :
    opsK Try.prog (fun _ => call) (O40 [1,1,1,1,0,1,0,0,0]) (O40 [1,1,1,1,0,1,0,0,0]).toList 0 #[g0,g1,g2,g3,g4,g5,g6,g7,g8,g9,g10,g11,g12,g13,g14,g15,g16,g17,g18,g19,g20,g21,g22,g23,g24,g25,.int .i64 x26,.int .i64 x27,g28,g29,g30,g31,g32,g33,g34,g35,g36,g37,g38,g39,g40,g41,g42,g43,g44,g45,g46,g47,g48,g49,g50,g51,g52,g53,g54,g55,g56,g57,g58,g59,g60,g61,g62,g63,g64,g65,g66,g67] M K = K #[g0,g1,g2,g3,g4,g5,g6,g7,g8,g9,g10,g11,g12,g13,g14,g15,g16,g17,g18,g19,g20,g21,g22,g23,g24,g25,.int .i64 x26,.int .i64 x27,.bool (decide (x27 < x26)),g29,g30,g31,g32,g33,g34,g35,g36,g37,g38,g39,g40,g41,g42,g43,g44,g45,g46,g47,g48,g49,g50,g51,g52,g53,g54,g55,g56,g57,g58,g59,g60,g61,g62,g63,g64,g65,g66,g67] M := by kernel_rfl
theorem k40_28 : P40 [1,1,1,1,0,1,0,0,1] = .seq (P40 [1,1,1,1,0,1,0,0,1,0]) (P40 [1,1,1,1,0,1,0,0,1,1]) := by kernel_rfl
theorem c40_29 : P40 [1,1,1,1,0,1,0,0,1,0] = .cond (.tmp 28) (P40 [1,1,1,1,0,1,0,0,1,0,0]) (P40 [1,1,1,1,0,1,0,0,1,0,1]) := by kernel_rfl
theorem k40_30 : P40 [1,1,1,1,0,1,0,0,1,0,0] = .skip := by kernel_rfl
theorem k40_31 : P40 [1,1,1,1,0,1,0,0,1,1] = .seq (P40 [1,1,1,1,0,1,0,0,1,1,0]) (P40 [1,1,1,1,0,1,0,0,1,1,1]) := by kernel_rfl
theorem k40_32 : P40 [1,1,1,1,0,1,0,0,1,1,0] = .block 1 (P40 [1,1,1,1,0,1,0,0,1,1,0,0]) := by kernel_rfl
theorem k40_33 : P40 [1,1,1,1,0,1,0,0,1,1,0,0] = .seq (P40 [1,1,1,1,0,1,0,0,1,1,0,0,0]) (P40 [1,1,1,1,0,1,0,0,1,1,0,0,1]) := by kernel_rfl
theorem k40_34 : P40 [1,1,1,1,0,1,0,0,1,1,0,0,0] = .region 8 (O40 [1,1,1,1,0,1,0,0,1,1,0,0,0]) false := by kernel_rfl
theorem r40_8 {Ax25 : Option Addr} {lx25 cx25 : Nat} {x27 : Int} {M : Mem} {call : CallM} {K : Array Value → Mem → R} :
    opsK Try.prog (fun _ => call) (O40 [1,1,1,1,0,1,0,0,1,1,0,0,0]) (O40 [1,1,1,1,0,1,0,0,1,1,0,0,0]).toList 0 #[g0,g1,g2,g3,g4,g5,g6,g7,g8,g9,g10,g11,g12,g13,g14,g15,g16,g17,g18,g19,g20,g21,g22,g23,g24,.slice Ax25 lx25 cx25,g26,.int .i64 x27,g28,g29,g30,g31,g32,g33,g34,g35,g36,g37,g38,g39,g40,g41,g42,g43,g44,g45,g46,g47,g48,g49,g50,g51,g52,g53,g54,g55,g56,g57,g58,g59,g60,g61,g62,g63,g64,g65,g66,g67] M K = (idxA Ax25 lx25 1 x27).bind fun a_1 => (M.intAt .u8 a_1.block a_1.off).bind fun x_2 => K #[g0,g1,g2,g3,g4,.int .i64 x27,.int .u8 x_2,g7,g8,g9,g10,g11,g12,g13,g14,g15,g16,g17,g18,g19,g20,g21,g22,g23,g24,.slice Ax25 lx25 cx25,g26,.int .i64 x27,g28,.int .i64 x27,.pointer (some a_1),.int .u8 x_2,g32,g33,g34,g35,g36,g37,g38,g39,g40,g41,g42,g43,g44,g45,g46,g47,g48,g49,g50,g51,g52,g53,g54,g55,g56,g57,g58,g59,g60,g61,g62,g63,g64,g65,g66,g67] M := by kernel_rfl
theorem k40_35 : P40 [1,1,1,1,0,1,0,0,1,1,0,0,1] = .seq (P40 [1,1,1,1,0,1,0,0,1,1,0,0,1,0]) (P40 [1,1,1,1,0,1,0,0,1,1,0,0,1,1]) := by kernel_rfl
theorem k40_36 : P40 [1,1,1,1,0,1,0,0,1,1,0,0,1,0] = .seq (P40 [1,1,1,1,0,1,0,0,1,1,0,0,1,0,0]) (P40 [1,1,1,1,0,1,0,0,1,1,0,0,1,0,1]) := by kernel_rfl
theorem k40_37 : P40 [1,1,1,1,0,1,0,0,1,1,0,0,1,0,0] = .region 9 (O40 [1,1,1,1,0,1,0,0,1,1,0,0,1,0,0]) false := by kernel_rfl
theorem r40_9 {x5 x6 : Int} {M : Mem} {call : CallM} {K : Array Value → Mem → R} :
    opsK Try.prog (fun _ => call) (O40 [1,1,1,1,0,1,0,0,1,1,0,0,1,0,0]) (O40 [1,1,1,1,0,1,0,0,1,1,0,0,1,0,0]).toList 0 #[g0,g1,g2,g3,g4,.int .i64 x5,.int .u8 x6,g7,g8,g9,g10,g11,g12,g13,g14,g15,g16,g17,g18,g19,g20,g21,g22,g23,g24,g25,g26,g27,g28,g29,g30,g31,g32,g33,g34,g35,g36,g37,g38,g39,g40,g41,g42,g43,g44,g45,g46,g47,g48,g49,g50,g51,g52,g53,g54,g55,g56,g57,g58,g59,g60,g61,g62,g63,g64,g65,g66,g67] M K = withK (fun w34 w35 w36 w37 w38 w39 w40 w41 w42 w43 w44 w45 M => K #[g0,g1,g2,g3,g4,.int .i64 x5,.int .u8 x6,g7,g8,g9,g10,g11,g12,g13,g14,g15,g16,g17,g18,g19,g20,g21,g22,g23,g24,g25,g26,g27,g28,g29,g30,g31,.int .i64 x5,.bool (x5 == 4),w34,w35,w36,w37,w38,w39,w40,w41,w42,w43,w44,w45,g46,g47,g48,g49,g50,g51,g52,g53,g54,g55,g56,g57,g58,g59,g60,g61,g62,g63,g64,g65,g66,g67] M) fun k => cond (x5 == 4) (cond (decide (x6 > 15)) (k (.bool true) (.int .u8 x6) (.bool (decide (x6 > 15))) (.bool (decide (x6 > 15))) (.bool true) undef undef undef undef undef undef (.bool true) M) (cond (decide (x5 > 0)) (k (.bool true) (.int .u8 x6) (.bool (decide (x6 > 15))) (.bool (decide (x6 > 15))) (.bool false) (.int .i64 x5) (.bool (decide (x5 > 0))) (.bool true) (.int .u8 x6) (.bool (x6 == 0)) (.bool (x6 == 0)) (.bool (x6 == 0)) M) (k (.bool true) (.int .u8 x6) (.bool (decide (x6 > 15))) (.bool (decide (x6 > 15))) (.bool false) (.int .i64 x5) (.bool (decide (x5 > 0))) (.bool false) undef undef (.bool false) (.bool false) M))) (cond (decide (x5 > 0)) (k (.bool false) undef undef (.bool false) (.bool false) (.int .i64 x5) (.bool (decide (x5 > 0))) (.bool true) (.int .u8 x6) (.bool (x6 == 0)) (.bool (x6 == 0)) (.bool (x6 == 0)) M) (k (.bool false) undef undef (.bool false) (.bool false) (.int .i64 x5) (.bool (decide (x5 > 0))) (.bool false) undef undef (.bool false) (.bool false) M)) := by kernel_rfl
theorem k40_38 : P40 [1,1,1,1,0,1,0,0,1,0,1] = .exit 0 := by kernel_rfl
theorem k40_39 : P40 [1,1,1,1,1] = .seq (P40 [1,1,1,1,1,0]) (P40 [1,1,1,1,1,1]) := by kernel_rfl
theorem k40_40 : P40 [1,1,1,1,1,0] = .region 16 (O40 [1,1,1,1,1,0]) false := by kernel_rfl
theorem r40_16 {M : Mem} {call : CallM} {K : Array Value → Mem → R} :
    opsK Try.prog (fun _ => call) (O40 [1,1,1,1,1,0]) (O40 [1,1,1,1,1,0]).toList 0 #[g0,g1,g2,g3,g4,g5,g6,g7,g8,g9,g10,g11,g12,g13,g14,g15,g16,g17,g18,g19,g20,g21,g22,g23,g24,g25,g26,g27,g28,g29,g30,g31,g32,g33,g34,g35,g36,g37,g38,g39,g40,g41,g42,g43,g44,g45,g46,g47,g48,g49,g50,g51,g52,g53,g54,g55,g56,g57,g58,g59,g60,g61,g62,g63,g64,g65,g66,g67] M K = K #[g0,g1,.int .u32 0,.int .i64 3,g4,g5,g6,g7,g8,g9,g10,g11,g12,g13,g14,g15,g16,g17,g18,g19,g20,g21,g22,g23,g24,g25,g26,g27,g28,g29,g30,g31,g32,g33,g34,g35,g36,g37,g38,g39,g40,g41,g42,g43,g44,g45,g46,g47,g48,g49,g50,g51,g52,g53,g54,g55,g56,g57,g58,g59,g60,g61,g62,g63,g64,g65,g66,g67] M := by kernel_rfl
theorem k40_41 : P40 [1,1,1,1,1,1] = .ret := by kernel_rfl
theorem c40_42 : P40 [1,1,1,1,0,1,0,0,1,1,0,0,1,0,1] = .cond (.tmp 45) (P40 [1,1,1,1,0,1,0,0,1,1,0,0,1,0,1,0]) (P40 [1,1,1,1,0,1,0,0,1,1,0,0,1,0,1,1]) := by kernel_rfl
theorem k40_43 : P40 [1,1,1,1,0,1,0,0,1,1,0,0,1,0,1,0] = .seq (P40 [1,1,1,1,0,1,0,0,1,1,0,0,1,0,1,0,0]) (P40 [1,1,1,1,0,1,0,0,1,1,0,0,1,0,1,0,1]) := by kernel_rfl
theorem k40_44 : P40 [1,1,1,1,0,1,0,0,1,1,0,0,1,0,1,0,0] = .region 10 (O40 [1,1,1,1,0,1,0,0,1,1,0,0,1,0,1,0,0]) false := by kernel_rfl
theorem r40_10 {M : Mem} {call : CallM} {K : Array Value → Mem → R} :
    opsK Try.prog (fun _ => call) (O40 [1,1,1,1,0,1,0,0,1,1,0,0,1,0,1,0,0]) (O40 [1,1,1,1,0,1,0,0,1,1,0,0,1,0,1,0,0]).toList 0 #[g0,g1,g2,g3,g4,g5,g6,g7,g8,g9,g10,g11,g12,g13,g14,g15,g16,g17,g18,g19,g20,g21,g22,g23,g24,g25,g26,g27,g28,g29,g30,g31,g32,g33,g34,g35,g36,g37,g38,g39,g40,g41,g42,g43,g44,g45,g46,g47,g48,g49,g50,g51,g52,g53,g54,g55,g56,g57,g58,g59,g60,g61,g62,g63,g64,g65,g66,g67] M K = K #[g0,g1,.int .u32 0,.int .i64 4,g4,g5,g6,g7,g8,g9,g10,g11,g12,g13,g14,g15,g16,g17,g18,g19,g20,g21,g22,g23,g24,g25,g26,g27,g28,g29,g30,g31,g32,g33,g34,g35,g36,g37,g38,g39,g40,g41,g42,g43,g44,g45,g46,g47,g48,g49,g50,g51,g52,g53,g54,g55,g56,g57,g58,g59,g60,g61,g62,g63,g64,g65,g66,g67] M := by kernel_rfl
theorem k40_45 : P40 [1,1,1,1,0,1,0,0,1,1,0,0,1,0,1,0,1] = .ret := by kernel_rfl
theorem k40_46 : P40 [1,1,1,1,0,1,0,0,1,1,0,0,1,0,1,1] = .skip := by kernel_rfl
theorem k40_47 : P40 [1,1,1,1,0,1,0,0,1,1,0,0,1,1] = .seq (P40 [1,1,1,1,0,1,0,0,1,1,0,0,1,1,0]) (P40 [1,1,1,1,0,1,0,0,1,1,0,0,1,1,1]) := by kernel_rfl
theorem k40_48 : P40 [1,1,1,1,0,1,0,0,1,1,0,0,1,1,0] = .region 11 (O40 [1,1,1,1,0,1,0,0,1,1,0,0,1,1,0]) false := by kernel_rfl
theorem r40_11 {x4 x5 x6 : Int} {M : Mem} {call : CallM} {K : Array Value → Mem → R} :
    opsK Try.prog (fun _ => call) (O40 [1,1,1,1,0,1,0,0,1,1,0,0,1,1,0]) (O40 [1,1,1,1,0,1,0,0,1,1,0,0,1,1,0]).toList 0 #[g0,g1,g2,g3,.int .u32 x4,.int .i64 x5,.int .u8 x6,g7,g8,g9,g10,g11,g12,g13,g14,g15,g16,g17,g18,g19,g20,g21,g22,g23,g24,g25,g26,g27,g28,g29,g30,g31,g32,g33,g34,g35,g36,g37,g38,g39,g40,g41,g42,g43,g44,g45,g46,g47,g48,g49,g50,g51,g52,g53,g54,g55,g56,g57,g58,g59,g60,g61,g62,g63,g64,g65,g66,g67] M K = (binV Try.prog .shl 27 3 (.int .u32 (IntKind.u32.wrap (IntKind.u8.wrap (((BitVec.ofInt (IntKind.bits .u8) x6 &&& BitVec.ofInt (IntKind.bits .u8) 127).toNat : Int))))) (.int .i64 (IntKind.i64.wrap (7 * x5)))).bind fun v_1 => (asI .u32 v_1).bind fun x_2 => K #[g0,g1,g2,g3,.int .u32 (IntKind.u32.wrap (((BitVec.ofInt (IntKind.bits .u32) x4 ||| BitVec.ofInt (IntKind.bits .u32) x_2).toNat : Int))),.int .i64 x5,.int .u8 x6,g7,g8,g9,g10,g11,g12,g13,g14,g15,g16,g17,g18,g19,g20,g21,g22,g23,g24,g25,g26,g27,g28,g29,g30,g31,g32,g33,g34,g35,g36,g37,g38,g39,g40,g41,g42,g43,g44,g45,.int .u32 x4,.int .u8 x6,.int .u8 (IntKind.u8.wrap (((BitVec.ofInt (IntKind.bits .u8) x6 &&& BitVec.ofInt (IntKind.bits .u8) 127).toNat : Int))),.int .u32 (IntKind.u32.wrap (IntKind.u8.wrap (((BitVec.ofInt (IntKind.bits .u8) x6 &&& BitVec.ofInt (IntKind.bits .u8) 127).toNat : Int)))),.int .i64 x5,.int .i64 (IntKind.i64.wrap (7 * x5)),.int .u32 x_2,.int .u32 (IntKind.u32.wrap (((BitVec.ofInt (IntKind.bits .u32) x4 ||| BitVec.ofInt (IntKind.bits .u32) x_2).toNat : Int))),g54,g55,g56,g57,g58,g59,g60,g61,g62,g63,g64,g65,g66,g67] M := by kernel_rfl
theorem k40_49 : P40 [1,1,1,1,0,1,0,0,1,1,0,0,1,1,1] = .seq (P40 [1,1,1,1,0,1,0,0,1,1,0,0,1,1,1,0]) (P40 [1,1,1,1,0,1,0,0,1,1,0,0,1,1,1,1]) := by kernel_rfl
theorem k40_50 : P40 [1,1,1,1,0,1,0,0,1,1,0,0,1,1,1,0] = .region 12 (O40 [1,1,1,1,0,1,0,0,1,1,0,0,1,1,1,0]) false := by kernel_rfl
theorem r40_12 {x6 : Int} {M : Mem} {call : CallM} {K : Array Value → Mem → R} :
    opsK Try.prog (fun _ => call) (O40 [1,1,1,1,0,1,0,0,1,1,0,0,1,1,1,0]) (O40 [1,1,1,1,0,1,0,0,1,1,0,0,1,1,1,0]).toList 0 #[g0,g1,g2,g3,g4,g5,.int .u8 x6,g7,g8,g9,g10,g11,g12,g13,g14,g15,g16,g17,g18,g19,g20,g21,g22,g23,g24,g25,g26,g27,g28,g29,g30,g31,g32,g33,g34,g35,g36,g37,g38,g39,g40,g41,g42,g43,g44,g45,g46,g47,g48,g49,g50,g51,g52,g53,g54,g55,g56,g57,g58,g59,g60,g61,g62,g63,g64,g65,g66,g67] M K = K #[g0,g1,g2,g3,g4,g5,.int .u8 x6,g7,g8,g9,g10,g11,g12,g13,g14,g15,g16,g17,g18,g19,g20,g21,g22,g23,g24,g25,g26,g27,g28,g29,g30,g31,g32,g33,g34,g35,g36,g37,g38,g39,g40,g41,g42,g43,g44,g45,g46,g47,g48,g49,g50,g51,g52,g53,.int .u8 x6,.bool (decide (x6 < 128)),g56,g57,g58,g59,g60,g61,g62,g63,g64,g65,g66,g67] M := by kernel_rfl
theorem c40_51 : P40 [1,1,1,1,0,1,0,0,1,1,0,0,1,1,1,1] = .cond (.tmp 55) (P40 [1,1,1,1,0,1,0,0,1,1,0,0,1,1,1,1,0]) (P40 [1,1,1,1,0,1,0,0,1,1,0,0,1,1,1,1,1]) := by kernel_rfl
theorem k40_52 : P40 [1,1,1,1,0,1,0,0,1,1,0,0,1,1,1,1,0] = .seq (P40 [1,1,1,1,0,1,0,0,1,1,0,0,1,1,1,1,0,0]) (P40 [1,1,1,1,0,1,0,0,1,1,0,0,1,1,1,1,0,1]) := by kernel_rfl
theorem k40_53 : P40 [1,1,1,1,0,1,0,0,1,1,0,0,1,1,1,1,0,0] = .region 13 (O40 [1,1,1,1,0,1,0,0,1,1,0,0,1,1,1,1,0,0]) false := by kernel_rfl
theorem r40_13 {x0 : Option Addr} {x5 : Int} {M : Mem} {call : CallM} {K : Array Value → Mem → R} :
    opsK Try.prog (fun _ => call) (O40 [1,1,1,1,0,1,0,0,1,1,0,0,1,1,1,1,0,0]) (O40 [1,1,1,1,0,1,0,0,1,1,0,0,1,1,1,1,0,0]).toList 0 #[.pointer x0,g1,g2,g3,g4,.int .i64 x5,g6,g7,g8,g9,g10,g11,g12,g13,g14,g15,g16,g17,g18,g19,g20,g21,g22,g23,g24,g25,g26,g27,g28,g29,g30,g31,g32,g33,g34,g35,g36,g37,g38,g39,g40,g41,g42,g43,g44,g45,g46,g47,g48,g49,g50,g51,g52,g53,g54,g55,g56,g57,g58,g59,g60,g61,g62,g63,g64,g65,g66,g67] M K = (x0).bind fun a_1 => (M.intAt .i64 a_1.block (a_1.off + 1)).bind fun x_2 => (x0).bind fun a_3 => (M.put a_3.block (a_3.off + 1) (.int .i64 (IntKind.i64.wrap (x_2 + (IntKind.i64.wrap (8 * (IntKind.i64.wrap (x5 + 1)))))))).bind fun M_4 => K #[.pointer x0,g1,g2,g3,g4,.int .i64 x5,g6,g7,g8,g9,g10,g11,g12,g13,g14,g15,g16,g17,g18,g19,g20,g21,g22,g23,g24,g25,g26,g27,g28,g29,g30,g31,g32,g33,g34,g35,g36,g37,g38,g39,g40,g41,g42,g43,g44,g45,g46,g47,g48,g49,g50,g51,g52,g53,g54,g55,.pointer x0,.pointer (some a_1),.pointer (some ⟨a_1.block, a_1.off + 1, none⟩),.int .i64 x_2,.int .i64 x5,.int .i64 (IntKind.i64.wrap (x5 + 1)),.int .i64 (IntKind.i64.wrap (8 * (IntKind.i64.wrap (x5 + 1)))),.int .i64 (IntKind.i64.wrap (x_2 + (IntKind.i64.wrap (8 * (IntKind.i64.wrap (x5 + 1)))))),.pointer (some a_3),.pointer (some ⟨a_3.block, a_3.off + 1, none⟩),g66,g67] M_4 := by kernel_rfl
theorem k40_54 : P40 [1,1,1,1,0,1,0,0,1,1,0,0,1,1,1,1,0,1] = .seq (P40 [1,1,1,1,0,1,0,0,1,1,0,0,1,1,1,1,0,1,0]) (P40 [1,1,1,1,0,1,0,0,1,1,0,0,1,1,1,1,0,1,1]) := by kernel_rfl
theorem k40_55 : P40 [1,1,1,1,0,1,0,0,1,1,0,0,1,1,1,1,0,1,0] = .region 14 (O40 [1,1,1,1,0,1,0,0,1,1,0,0,1,1,1,1,0,1,0]) false := by kernel_rfl
theorem r40_14 {x4 : Int} {M : Mem} {call : CallM} {K : Array Value → Mem → R} :
    opsK Try.prog (fun _ => call) (O40 [1,1,1,1,0,1,0,0,1,1,0,0,1,1,1,1,0,1,0]) (O40 [1,1,1,1,0,1,0,0,1,1,0,0,1,1,1,1,0,1,0]).toList 0 #[g0,g1,g2,g3,.int .u32 x4,g5,g6,g7,g8,g9,g10,g11,g12,g13,g14,g15,g16,g17,g18,g19,g20,g21,g22,g23,g24,g25,g26,g27,g28,g29,g30,g31,g32,g33,g34,g35,g36,g37,g38,g39,g40,g41,g42,g43,g44,g45,g46,g47,g48,g49,g50,g51,g52,g53,g54,g55,g56,g57,g58,g59,g60,g61,g62,g63,g64,g65,g66,g67] M K = K #[g0,g1,.int .u32 x4,.int .i64 0,.int .u32 x4,g5,g6,g7,g8,g9,g10,g11,g12,g13,g14,g15,g16,g17,g18,g19,g20,g21,g22,g23,g24,g25,g26,g27,g28,g29,g30,g31,g32,g33,g34,g35,g36,g37,g38,g39,g40,g41,g42,g43,g44,g45,g46,g47,g48,g49,g50,g51,g52,g53,g54,g55,g56,g57,g58,g59,g60,g61,g62,g63,g64,g65,.int .u32 x4,g67] M := by kernel_rfl
theorem k40_56 : P40 [1,1,1,1,0,1,0,0,1,1,0,0,1,1,1,1,0,1,1] = .ret := by kernel_rfl
theorem k40_57 : P40 [1,1,1,1,0,1,0,0,1,1,0,0,1,1,1,1,1] = .skip := by kernel_rfl
theorem k40_58 : P40 [1,1,1,1,0,1,0,0,1,1,1] = .region 15 (O40 [1,1,1,1,0,1,0,0,1,1,1]) false := by kernel_rfl
theorem r40_15 {x27 : Int} {M : Mem} {call : CallM} {K : Array Value → Mem → R} :
    opsK Try.prog (fun _ => call) (O40 [1,1,1,1,0,1,0,0,1,1,1]) (O40 [1,1,1,1,0,1,0,0,1,1,1]).toList 0 #[g0,g1,g2,g3,g4,g5,g6,g7,g8,g9,g10,g11,g12,g13,g14,g15,g16,g17,g18,g19,g20,g21,g22,g23,g24,g25,g26,.int .i64 x27,g28,g29,g30,g31,g32,g33,g34,g35,g36,g37,g38,g39,g40,g41,g42,g43,g44,g45,g46,g47,g48,g49,g50,g51,g52,g53,g54,g55,g56,g57,g58,g59,g60,g61,g62,g63,g64,g65,g66,g67] M K = K #[g0,g1,g2,g3,g4,g5,g6,g7,g8,g9,g10,g11,g12,g13,g14,g15,g16,g17,g18,g19,g20,g21,g22,g23,g24,g25,g26,.int .i64 (IntKind.i64.wrap (x27 + 1)),g28,g29,g30,g31,g32,g33,g34,g35,g36,g37,g38,g39,g40,g41,g42,g43,g44,g45,g46,g47,g48,g49,g50,g51,g52,g53,g54,g55,g56,g57,g58,g59,g60,g61,g62,g63,g64,g65,g66,.int .i64 (IntKind.i64.wrap (x27 + 1))] M := by kernel_rfl
noncomputable def S40_1 : List Item := [.code (P40 [1,1,1,1,0,1,0,0]), .inLoop (P40 [1,1,1,1,0,1,0,0]), .inBlock 0, .code (P40 [1,1,1,1,1])]
def A40_1 (x0 : Option Addr) (x4 : Int) (Ax25 : Option Addr) (lx25 cx25 : Nat) (x26 x27 : Int) (M : Mem) (Q : Value → Mem → Prop) : Prop := ∀ (g1 g2 g3 g5 g6 g7 g8 g9 g10 g11 g12 g13 g14 g15 g16 g17 g18 g19 g20 g21 g22 g23 g24 g28 g29 g30 g31 g32 g33 g34 g35 g36 g37 g38 g39 g40 g41 g42 g43 g44 g45 g46 g47 g48 g49 g50 g51 g52 g53 g54 g55 g56 g57 g58 g59 g60 g61 g62 g63 g64 g65 g66 g67 : Value), Rn Try.prog Try.f40 S40_1 #[.pointer x0, g1, g2, g3, .int .u32 x4, g5, g6, g7, g8, g9, g10, g11, g12, g13, g14, g15, g16, g17, g18, g19, g20, g21, g22, g23, g24, .slice Ax25 lx25 cx25, .int .i64 x26, .int .i64 x27, g28, g29, g30, g31, g32, g33, g34, g35, g36, g37, g38, g39, g40, g41, g42, g43, g44, g45, g46, g47, g48, g49, g50, g51, g52, g53, g54, g55, g56, g57, g58, g59, g60, g61, g62, g63, g64, g65, g66, g67] M Q
noncomputable def S40_2 : List Item := [.code (P40 [1,1,1,1,0,1,0,0,1,1,0,0,1,0,1]), .code (P40 [1,1,1,1,0,1,0,0,1,1,0,0,1,1]), .inBlock 1, .code (P40 [1,1,1,1,0,1,0,0,1,1,1]), .inLoop (P40 [1,1,1,1,0,1,0,0]), .inBlock 0, .code (P40 [1,1,1,1,1])]
def A40_2 (x0 : Option Addr) (x4 x5 x6 : Int) (Ax25 : Option Addr) (lx25 cx25 : Nat) (x26 x27 : Int) (x45 : Bool) (M : Mem) (Q : Value → Mem → Prop) : Prop := ∀ (g1 g2 g3 g7 g8 g9 g10 g11 g12 g13 g14 g15 g16 g17 g18 g19 g20 g21 g22 g23 g24 g28 g29 g30 g31 g32 g33 g34 g35 g36 g37 g38 g39 g40 g41 g42 g43 g44 g46 g47 g48 g49 g50 g51 g52 g53 g54 g55 g56 g57 g58 g59 g60 g61 g62 g63 g64 g65 g66 g67 : Value), Rn Try.prog Try.f40 S40_2 #[.pointer x0, g1, g2, g3, .int .u32 x4, .int .i64 x5, .int .u8 x6, g7, g8, g9, g10, g11, g12, g13, g14, g15, g16, g17, g18, g19, g20, g21, g22, g23, g24, .slice Ax25 lx25 cx25, .int .i64 x26, .int .i64 x27, g28, g29, g30, g31, g32, g33, g34, g35, g36, g37, g38, g39, g40, g41, g42, g43, g44, .bool x45, g46, g47, g48, g49, g50, g51, g52, g53, g54, g55, g56, g57, g58, g59, g60, g61, g62, g63, g64, g65, g66, g67] M Q
theorem w40_0 {x0 : Option Addr} {M : Mem} {Q : Value → Mem → Prop} (H :
    Cn Try.prog 46 #[.pointer x0] M fun v1' N1' =>
     ∃ b2', asB v1' = some b2' ∧
     (((!b2') = true →
      Q (.tuple #[.int .u32 0, .int .i64 1]) N1') ∧
      ((!b2') = false →
      ∃ a3', x0 = some a3' ∧
      ∃ x4', N1'.intAt .i64 a3'.block (a3'.off + 1) = some x4' ∧
      (((x4'.tmod 8) ≠ 0 →
       Q (.tuple #[.int .u32 0, .int .i64 2]) N1') ∧
       ((x4'.tmod 8) = 0 →
       ∃ a5', x0 = some a5' ∧
       ∃ s6', N1'.slAt a5'.block a5'.off = some s6' ∧
       ∃ a7', x0 = some a7' ∧
       ∃ x8', N1'.intAt .i64 a7'.block (a7'.off + 1) = some x8' ∧
       ∃ v9', sliceP Try.prog 37 (.slice s6'.1 (s6'.2.1) (s6'.2.2)) (some (.int .i64 (IntKind.i64.wrap (x8'.tdiv 8)))) none none = some v9' ∧
       ∃ s10', asS v9' = some s10' ∧
       A40_1 x0 0 s10'.1 s10'.2.1 s10'.2.2 (s10'.2.1 : Int) 0 N1' Q))))) :
    Cn Try.prog 40 #[.pointer x0] M Q := by
  refine Cn.of b40 d40 t40 ?_
  refine Rn.seq k40_0 (Rn.region k40_1 (fun call K => r40_0) (Rch.leaf (Rn.seq k40_2 (Rn.seq k40_3 (Rn.region k40_4 (fun call K => r40_1) (Rch.call H fun v1' N1' H => Rch.ex H fun b2' H => Rch.leaf ?_))))))
  refine Rn.cnd (v := !b2') ⟨c40_5, rfl, by kernel_rfl⟩ (fun h => ?_) (fun h => ?_)
  · replace H := H.1 (h)
    refine Rn.seq k40_6 (Rn.region k40_7 (fun call K => r40_2) (Rch.leaf ?_))
    exact Rn.ret k40_8 e40 H
  · replace H := H.2 (h)
    refine Rn.skip k40_10 (Rn.seq k40_11 (Rn.seq k40_12 (Rn.region k40_13 (fun call K => r40_3) (Rch.ex H fun a3' H => Rch.ex H fun x4' H => Rch.leaf ?_))))
    refine Rn.cnd (v := (x4'.tmod 8) != 0) ⟨c40_14, rfl, by kernel_rfl⟩ (fun h => ?_) (fun h => ?_)
    · replace H := H.1 (ne_of_bneT h)
      refine Rn.seq k40_15 (Rn.region k40_16 (fun call K => r40_4) (Rch.leaf ?_))
      exact Rn.ret k40_17 e40 H
    · replace H := H.2 (eq_of_bneF h)
      refine Rn.skip k40_18 (Rn.seq k40_19 (Rn.region k40_20 (fun call K => r40_5) (Rch.leaf (Rn.seq k40_21 (Rn.seq k40_22 (Rn.regionD k40_23 (fun call K => r40_6) (Rch.ex H fun a5' H => Rch.ex H fun s6' H => Rch.ex H fun a7' H => Rch.ex H fun x8' H => Rch.ex H fun v9' H => ?_)))))))
      refine Rch.ex H fun s10' H => Rch.leaf (Rn.block k40_24 (Rn.loop k40_25 ?_))
      exact H _ _ _ _ _ _ _ _ _ _ _ _ _ _ _ _ _ _ _ _ _ _ _ _ _ _ _ _ _ _ _ _ _ _ _ _ _ _ _ _ _ _ _ _ _ _ _ _ _ _ _ _ _ _ _ _ _ _ _ _ _ _ _

theorem w40_1 {x0 : Option Addr} {x4 : Int} {Ax25 : Option Addr} {lx25 cx25 : Nat} {x26 x27 : Int} {M : Mem} {Q : Value → Mem → Prop} (H :
    ((x27 < x26 →
     ∃ a11', idxA Ax25 lx25 1 x27 = some a11' ∧
     ∃ x12', M.intAt .u8 a11'.block a11'.off = some x12' ∧
     ((x27 = 4 →
      ((x12' > 15 →
       A40_2 x0 x4 x27 x12' Ax25 lx25 cx25 x26 x27 true M Q) ∧
       (¬ (x12' > 15) →
       ((x27 > 0 →
        A40_2 x0 x4 x27 x12' Ax25 lx25 cx25 x26 x27 (x12' == 0) M Q) ∧
        (¬ (x27 > 0) →
        A40_2 x0 x4 x27 x12' Ax25 lx25 cx25 x26 x27 false M Q))))) ∧
      (x27 ≠ 4 →
      ((x27 > 0 →
       A40_2 x0 x4 x27 x12' Ax25 lx25 cx25 x26 x27 (x12' == 0) M Q) ∧
       (¬ (x27 > 0) →
       A40_2 x0 x4 x27 x12' Ax25 lx25 cx25 x26 x27 false M Q))))) ∧
     (¬ (x27 < x26) →
     Q (.tuple #[.int .u32 0, .int .i64 3]) M))) :
    A40_1 x0 x4 Ax25 lx25 cx25 x26 x27 M Q := by
  intro g1 g2 g3 g5 g6 g7 g8 g9 g10 g11 g12 g13 g14 g15 g16 g17 g18 g19 g20 g21 g22 g23 g24 g28 g29 g30 g31 g32 g33 g34 g35 g36 g37 g38 g39 g40 g41 g42 g43 g44 g45 g46 g47 g48 g49 g50 g51 g52 g53 g54 g55 g56 g57 g58 g59 g60 g61 g62 g63 g64 g65 g66 g67
  refine Rn.seq k40_26 (Rn.region k40_27 (fun call K => r40_7) (Rch.leaf (Rn.seq k40_28 ?_)))
  refine Rn.cnd (v := decide (x27 < x26)) ⟨c40_29, rfl, by kernel_rfl⟩ (fun h => ?_) (fun h => ?_)
  · replace H := H.1 (of_decide_eq_true h)
    refine Rn.skip k40_30 (Rn.seq k40_31 (Rn.block k40_32 (Rn.seq k40_33 (Rn.region k40_34 (fun call K => r40_8) (Rch.ex H fun a11' H => Rch.ex H fun x12' H => Rch.leaf (Rn.seq k40_35 (Rn.seq k40_36 (Rn.region k40_37 (fun call K => r40_9) ?_))))))))
    refine Rch.cB (fun h => ?_) (fun h => ?_)
    · replace H := H.1 (eq_of_beq h)
      refine Rch.cB (fun h => ?_) (fun h => ?_)
      · replace H := H.1 (of_decide_eq_true h)
        refine Rch.leaf ?_
        exact H _ _ _ _ _ _ _ _ _ _ _ _ _ _ _ _ _ _ _ _ _ _ _ _ _ _ _ _ _ _ _ _ _ _ _ _ _ _ _ _ _ _ _ _ _ _ _ _ _ _ _ _ _ _ _ _ _ _ _ _
      · replace H := H.2 (of_decide_eq_false h)
        refine Rch.cB (fun h => ?_) (fun h => ?_)
        · replace H := H.1 (of_decide_eq_true h)
          refine Rch.leaf ?_
          exact H _ _ _ _ _ _ _ _ _ _ _ _ _ _ _ _ _ _ _ _ _ _ _ _ _ _ _ _ _ _ _ _ _ _ _ _ _ _ _ _ _ _ _ _ _ _ _ _ _ _ _ _ _ _ _ _ _ _ _ _
        · replace H := H.2 (of_decide_eq_false h)
          refine Rch.leaf ?_
          exact H _ _ _ _ _ _ _ _ _ _ _ _ _ _ _ _ _ _ _ _ _ _ _ _ _ _ _ _ _ _ _ _ _ _ _ _ _ _ _ _ _ _ _ _ _ _ _ _ _ _ _ _ _ _ _ _ _ _ _ _
    · replace H := H.2 (ne_of_beq_false h)
      refine Rch.cB (fun h => ?_) (fun h => ?_)
      · replace H := H.1 (of_decide_eq_true h)
        refine Rch.leaf ?_
        exact H _ _ _ _ _ _ _ _ _ _ _ _ _ _ _ _ _ _ _ _ _ _ _ _ _ _ _ _ _ _ _ _ _ _ _ _ _ _ _ _ _ _ _ _ _ _ _ _ _ _ _ _ _ _ _ _ _ _ _ _
      · replace H := H.2 (of_decide_eq_false h)
        refine Rch.leaf ?_
        exact H _ _ _ _ _ _ _ _ _ _ _ _ _ _ _ _ _ _ _ _ _ _ _ _ _ _ _ _ _ _ _ _ _ _ _ _ _ _ _ _ _ _ _ _ _ _ _ _ _ _ _ _ _ _ _ _ _ _ _ _
  · replace H := H.2 (of_decide_eq_false h)
    refine Rn.exit k40_38 rfl (Rn.seq k40_39 (Rn.region k40_40 (fun call K => r40_16) (Rch.leaf ?_)))
    exact Rn.ret k40_41 e40 H

theorem w40_2 {x0 : Option Addr} {x4 x5 x6 : Int} {Ax25 : Option Addr} {lx25 cx25 : Nat} {x26 x27 : Int} {x45 : Bool} {M : Mem} {Q : Value → Mem → Prop} (H :
    ((x45 = true →
     Q (.tuple #[.int .u32 0, .int .i64 4]) M) ∧
     (x45 = false →
     ∃ v13', binV Try.prog .shl 27 3 (.int .u32 (IntKind.u32.wrap (IntKind.u8.wrap (((BitVec.ofInt (IntKind.bits .u8) x6 &&& BitVec.ofInt (IntKind.bits .u8) 127).toNat : Int))))) (.int .i64 (IntKind.i64.wrap (7 * x5))) = some v13' ∧
     ∃ x14', asI .u32 v13' = some x14' ∧
     ((x6 < 128 →
      ∃ a15', x0 = some a15' ∧
      ∃ x16', M.intAt .i64 a15'.block (a15'.off + 1) = some x16' ∧
      ∃ a17', x0 = some a17' ∧
      ∃ M18', M.put a17'.block (a17'.off + 1) (.int .i64 (IntKind.i64.wrap (x16' + (IntKind.i64.wrap (8 * (IntKind.i64.wrap (x5 + 1))))))) = some M18' ∧
      Q (.tuple #[.int .u32 (IntKind.u32.wrap (((BitVec.ofInt (IntKind.bits .u32) x4 ||| BitVec.ofInt (IntKind.bits .u32) x14').toNat : Int))), .int .i64 0]) M18') ∧
      (¬ (x6 < 128) →
      A40_1 x0 (IntKind.u32.wrap (((BitVec.ofInt (IntKind.bits .u32) x4 ||| BitVec.ofInt (IntKind.bits .u32) x14').toNat : Int))) Ax25 lx25 cx25 x26 (IntKind.i64.wrap (x27 + 1)) M Q))))) :
    A40_2 x0 x4 x5 x6 Ax25 lx25 cx25 x26 x27 x45 M Q := by
  intro g1 g2 g3 g7 g8 g9 g10 g11 g12 g13 g14 g15 g16 g17 g18 g19 g20 g21 g22 g23 g24 g28 g29 g30 g31 g32 g33 g34 g35 g36 g37 g38 g39 g40 g41 g42 g43 g44 g46 g47 g48 g49 g50 g51 g52 g53 g54 g55 g56 g57 g58 g59 g60 g61 g62 g63 g64 g65 g66 g67
  refine Rn.cnd (v := x45) ⟨c40_42, rfl, by kernel_rfl⟩ (fun h => ?_) (fun h => ?_)
  · replace H := H.1 (h)
    refine Rn.seq k40_43 (Rn.region k40_44 (fun call K => r40_10) (Rch.leaf ?_))
    exact Rn.ret k40_45 e40 H
  · replace H := H.2 (h)
    refine Rn.skip k40_46 (Rn.seq k40_47 (Rn.region k40_48 (fun call K => r40_11) (Rch.ex H fun v13' H => Rch.ex H fun x14' H => Rch.leaf (Rn.seq k40_49 (Rn.region k40_50 (fun call K => r40_12) (Rch.leaf ?_))))))
    refine Rn.cnd (v := decide (x6 < 128)) ⟨c40_51, rfl, by kernel_rfl⟩ (fun h => ?_) (fun h => ?_)
    · replace H := H.1 (of_decide_eq_true h)
      refine Rn.seq k40_52 (Rn.region k40_53 (fun call K => r40_13) (Rch.ex H fun a15' H => Rch.ex H fun x16' H => Rch.ex H fun a17' H => Rch.ex H fun M18' H => Rch.leaf (Rn.seq k40_54 (Rn.region k40_55 (fun call K => r40_14) (Rch.leaf ?_)))))
      exact Rn.ret k40_56 e40 H
    · replace H := H.2 (of_decide_eq_false h)
      refine Rn.skip k40_57 (Rn.blk (Rn.region k40_58 (fun call K => r40_15) (Rch.leaf (Rn.lp ?_))))
      exact H _ _ _ _ _ _ _ _ _ _ _ _ _ _ _ _ _ _ _ _ _ _ _ _ _ _ _ _ _ _ _ _ _ _ _ _ _ _ _ _ _ _ _ _ _ _ _ _ _ _ _ _ _ _ _ _ _ _ _ _ _ _ _


/-! ### (*zoetrope/bits.Writer).there: function 43 -/
noncomputable abbrev P43 (p : List Nat) : Code := subC (codeOf Try.f43) p
noncomputable abbrev O43 (p : List Nat) : Array Oper := opsOf (subC (codeOf Try.f43) p)
theorem b43 : Try.prog.funcs[43]? = some Try.f43 ∧ (Orc.tab Try.prog).lookup 43 = none := ⟨by kernel_rfl, by kernel_rfl⟩
theorem d43 : Try.f43.body = some (P43 []) := by kernel_rfl
theorem t43 {x0 : Option Addr} : #[.pointer x0] ++ Array.replicate (Try.f43.ntmps - (#[.pointer x0] : Array Value).size) undef = #[.pointer x0,undef,undef,undef,undef,undef,undef,undef,undef,undef,undef] := by kernel_rfl
theorem k43_0 : P43 [] = .seq (P43 [0]) (P43 [1]) := by kernel_rfl
theorem k43_1 : P43 [0] = .region 0 (O43 [0]) false := by kernel_rfl
theorem r43_0 {M : Mem} {call : CallM} {K : Array Value → Mem → R} :
    opsK Try.prog (fun _ => call) (O43 [0]) (O43 [0]).toList 0 #[g0,g1,g2,g3,g4,g5,g6,g7,g8,g9,g10] M K = K #[g0,g1,.bool false,g3,g4,g5,g6,g7,g8,g9,g10] M := by kernel_rfl
theorem k43_2 : P43 [1] = .seq (P43 [1,0]) (P43 [1,1]) := by kernel_rfl
theorem k43_3 : P43 [1,0] = .region 1 (O43 [1,0]) false := by kernel_rfl
theorem r43_1 {x0 : Option Addr} {M : Mem} {call : CallM} {K : Array Value → Mem → R} :
    opsK Try.prog (fun _ => call) (O43 [1,0]) (O43 [1,0]).toList 0 #[.pointer x0,g1,g2,g3,g4,g5,g6,g7,g8,g9,g10] M K = withK (fun w2 w5 w6 w7 w8 w9 w10 M => K #[.pointer x0,g1,w2,.pointer x0,.bool x0.isSome,w5,w6,w7,w8,w9,w10] M) fun k => cond x0.isSome ((x0).bind fun a_1 => (M.boolAt a_1.block (a_1.off + 2)).bind fun b_2 => k (.bool b_2) (.bool true) (.pointer x0) (.pointer (some a_1)) (.pointer (some ⟨a_1.block, a_1.off + 2, none⟩)) (.bool b_2) (.bool b_2) M) (k (.bool false) (.bool false) undef undef undef undef (.bool false) M) := by kernel_rfl
theorem k43_4 : P43 [1,1] = .ret := by kernel_rfl
theorem e43 {M : Mem} : finish Try.prog Try.f43 #[g0,g1,g2,g3,g4,g5,g6,g7,g8,g9,g10] M = some (g2, M) := by kernel_rfl
theorem w43_0 {x0 : Option Addr} {M : Mem} {Q : Value → Mem → Prop} (H :
    ((x0.isSome = true →
     ∃ a1', x0 = some a1' ∧
     ∃ b2', M.boolAt a1'.block (a1'.off + 2) = some b2' ∧
     Q (.bool b2') M) ∧
     (x0.isSome = false →
     Q (.bool false) M))) :
    Cn Try.prog 43 #[.pointer x0] M Q := by
  refine Cn.of b43 d43 t43 ?_
  refine Rn.seq k43_0 (Rn.region k43_1 (fun call K => r43_0) (Rch.leaf (Rn.seq k43_2 (Rn.region k43_3 (fun call K => r43_1) ?_))))
  refine Rch.cB (fun h => ?_) (fun h => ?_)
  · replace H := H.1 (h)
    refine Rch.ex H fun a1' H => Rch.ex H fun b2' H => Rch.leaf ?_
    exact Rn.ret k43_4 e43 H
  · replace H := H.2 (h)
    refine Rch.leaf ?_
    exact Rn.ret k43_4 e43 H


/-! ### slices.Clone[[]byte,byte]: function 44 -/
noncomputable abbrev P44 (p : List Nat) : Code := subC (codeOf Try.f44) p
noncomputable abbrev O44 (p : List Nat) : Array Oper := opsOf (subC (codeOf Try.f44) p)
theorem b44 : Try.prog.funcs[44]? = some Try.f44 ∧ (Orc.tab Try.prog).lookup 44 = none := ⟨by kernel_rfl, by kernel_rfl⟩
theorem d44 : Try.f44.body = some (P44 []) := by kernel_rfl
theorem t44 {Ax0 : Option Addr} {lx0 cx0 : Nat} : #[.slice Ax0 lx0 cx0] ++ Array.replicate (Try.f44.ntmps - (#[.slice Ax0 lx0 cx0] : Array Value).size) undef = #[.slice Ax0 lx0 cx0,undef,undef,undef,undef,undef,undef,undef] := by kernel_rfl
theorem k44_0 : P44 [] = .seq (P44 [0]) (P44 [1]) := by kernel_rfl
theorem k44_1 : P44 [0] = .region 0 (O44 [0]) false := by kernel_rfl
theorem r44_0 {M : Mem} {call : CallM} {K : Array Value → Mem → R} :
    opsK Try.prog (fun _ => call) (O44 [0]) (O44 [0]).toList 0 #[g0,g1,g2,g3,g4,g5,g6,g7] M K = K #[g0,g1,.slice none 0 0,g3,g4,g5,g6,g7] M := by kernel_rfl
theorem k44_2 : P44 [1] = .seq (P44 [1,0]) (P44 [1,1]) := by kernel_rfl
theorem k44_3 : P44 [1,0] = .seq (P44 [1,0,0]) (P44 [1,0,1]) := by kernel_rfl
theorem k44_4 : P44 [1,0,0] = .region 1 (O44 [1,0,0]) false := by kernel_rfl
theorem r44_1 {Ax0 : Option Addr} {lx0 cx0 : Nat} {M : Mem} {call : CallM} {K : Array Value → Mem → R} :
    opsK Try.prog (fun _ => call) (O44 [1,0,0]) (O44 [1,0,0]).toList 0 #[.slice Ax0 lx0 cx0,g1,g2,g3,g4,g5,g6,g7] M K = K #[.slice Ax0 lx0 cx0,g1,g2,.slice Ax0 lx0 cx0,.bool Ax0.isNone,g5,g6,g7] M := by kernel_rfl
theorem c44_5 : P44 [1,0,1] = .cond (.tmp 4) (P44 [1,0,1,0]) (P44 [1,0,1,1]) := by kernel_rfl
theorem k44_6 : P44 [1,0,1,0] = .seq (P44 [1,0,1,0,0]) (P44 [1,0,1,0,1]) := by kernel_rfl
theorem k44_7 : P44 [1,0,1,0,0] = .region 2 (O44 [1,0,1,0,0]) false := by kernel_rfl
theorem r44_2 {M : Mem} {call : CallM} {K : Array Value → Mem → R} :
    opsK Try.prog (fun _ => call) (O44 [1,0,1,0,0]) (O44 [1,0,1,0,0]).toList 0 #[g0,g1,g2,g3,g4,g5,g6,g7] M K = K #[g0,g1,.slice none 0 0,g3,g4,g5,g6,g7] M := by kernel_rfl
theorem k44_8 : P44 [1,0,1,0,1] = .ret := by kernel_rfl
theorem e44 {M : Mem} : finish Try.prog Try.f44 #[g0,g1,g2,g3,g4,g5,g6,g7] M = some (g2, M) := by kernel_rfl
theorem k44_10 : P44 [1,0,1,1] = .skip := by kernel_rfl
theorem k44_11 : P44 [1,1] = .seq (P44 [1,1,0]) (P44 [1,1,1]) := by kernel_rfl
theorem k44_12 : P44 [1,1,0] = .region 3 (O44 [1,1,0]) false := by kernel_rfl
theorem r44_3 {Ax0 : Option Addr} {lx0 cx0 : Nat} {M : Mem} {call : CallM} {K : Array Value → Mem → R} :
    opsK Try.prog (fun _ => call) (O44 [1,1,0]) (O44 [1,1,0]).toList 0 #[.slice Ax0 lx0 cx0,g1,g2,g3,g4,g5,g6,g7] M K = (appendP Try.prog #[37, 37] (.slice (some ⟨2 * M.nb.size, 0, none⟩) 0 0) (.slice Ax0 lx0 cx0) (M.new (.cells #[] 5))).bind fun r_1 => (asS r_1.1).bind fun s_2 => K #[.slice Ax0 lx0 cx0,g1,.slice s_2.1 (s_2.2.1) (s_2.2.2),g3,g4,.slice (some ⟨2 * M.nb.size, 0, none⟩) 0 0,.slice Ax0 lx0 cx0,.slice s_2.1 (s_2.2.1) (s_2.2.2)] r_1.2 := by kernel_rfl
theorem k44_13 : P44 [1,1,1] = .ret := by kernel_rfl
theorem w44_0 {Ax0 : Option Addr} {lx0 cx0 : Nat} {M : Mem} {Q : Value → Mem → Prop} (H :
    ((Ax0.isNone = true →
     Q (.slice none 0 0) M) ∧
     (Ax0.isNone = false →
     ∃ r1', appendP Try.prog #[37, 37] (.slice (some ⟨2 * M.nb.size, 0, none⟩) 0 0) (.slice Ax0 lx0 cx0) (M.new (.cells #[] 5)) = some r1' ∧
     ∃ s2', asS r1'.1 = some s2' ∧
     Q (.slice s2'.1 (s2'.2.1) (s2'.2.2)) r1'.2))) :
    Cn Try.prog 44 #[.slice Ax0 lx0 cx0] M Q := by
  refine Cn.of b44 d44 t44 ?_
  refine Rn.seq k44_0 (Rn.region k44_1 (fun call K => r44_0) (Rch.leaf (Rn.seq k44_2 (Rn.seq k44_3 (Rn.region k44_4 (fun call K => r44_1) (Rch.leaf ?_))))))
  refine Rn.cnd (v := Ax0.isNone) ⟨c44_5, rfl, by kernel_rfl⟩ (fun h => ?_) (fun h => ?_)
  · replace H := H.1 (h)
    refine Rn.seq k44_6 (Rn.region k44_7 (fun call K => r44_2) (Rch.leaf ?_))
    exact Rn.ret k44_8 e44 H
  · replace H := H.2 (h)
    refine Rn.skip k44_10 (Rn.seq k44_11 (Rn.region k44_12 (fun call K => r44_3) (Rch.ex H fun r1' H => Rch.ex H fun s2' H => Rch.leaf ?_)))
    exact Rn.ret k44_13 e44 H


/-! ### zoetrope/bits.Write: function 9 -/
noncomputable abbrev P9 (p : List Nat) : Code := subC (codeOf Try.f9) p
noncomputable abbrev O9 (p : List Nat) : Array Oper := opsOf (subC (codeOf Try.f9) p)
theorem b9 : Try.prog.funcs[9]? = some Try.f9 ∧ (Orc.tab Try.prog).lookup 9 = none := ⟨by kernel_rfl, by kernel_rfl⟩
theorem d9 : Try.f9.body = some (P9 []) := by kernel_rfl
theorem t9 : #[] ++ Array.replicate (Try.f9.ntmps - (#[] : Array Value).size) undef = #[undef,undef,undef] := by kernel_rfl
theorem k9_0 : P9 [] = .seq (P9 [0]) (P9 [1]) := by kernel_rfl
theorem k9_1 : P9 [0] = .region 0 (O9 [0]) false := by kernel_rfl
theorem r9_0 {M : Mem} {call : CallM} {K : Array Value → Mem → R} :
    opsK Try.prog (fun _ => call) (O9 [0]) (O9 [0]).toList 0 #[g0,g1,g2] M K = K #[.pointer none,g1,g2] M := by kernel_rfl
theorem k9_2 : P9 [1] = .seq (P9 [1,0]) (P9 [1,1]) := by kernel_rfl
theorem k9_3 : P9 [1,0] = .region 1 (O9 [1,0]) false := by kernel_rfl
theorem r9_1 {M : Mem} {call : CallM} {K : Array Value → Mem → R} :
    opsK Try.prog (fun _ => call) (O9 [1,0]) (O9 [1,0]).toList 0 #[g0,g1,g2] M K = K #[.pointer (some ⟨2 * M.nb.size, 0, none⟩),.agg #[.slice none 0 0, .int .i64 0, .bool true],.pointer (some ⟨2 * M.nb.size, 0, none⟩)] (M.new (.cells #[.slice none 0 0, .int .i64 0, .bool true] 60)) := by kernel_rfl
theorem k9_4 : P9 [1,1] = .ret := by kernel_rfl
theorem e9 {M : Mem} : finish Try.prog Try.f9 #[g0,g1,g2] M = some (g0, M) := by kernel_rfl
theorem w9_0 {M : Mem} {Q : Value → Mem → Prop} (H :
    Q (.pointer (some ⟨2 * M.nb.size, 0, none⟩)) (M.new (.cells #[.slice none 0 0, .int .i64 0, .bool true] 60))) :
    Cn Try.prog 9 #[] M Q := by
  refine Cn.of b9 d9 t9 ?_
  refine Rn.seq k9_0 (Rn.region k9_1 (fun call K => r9_0) (Rch.leaf (Rn.seq k9_2 (Rn.region k9_3 (fun call K => r9_1) (Rch.leaf ?_)))))
  exact Rn.ret k9_4 e9 H


/-! ### (*zoetrope/bits.Writer).Bytes: function 18 -/
noncomputable abbrev P18 (p : List Nat) : Code := subC (codeOf Try.f18) p
noncomputable abbrev O18 (p : List Nat) : Array Oper := opsOf (subC (codeOf Try.f18) p)
theorem b18 : Try.prog.funcs[18]? = some Try.f18 ∧ (Orc.tab Try.prog).lookup 18 = none := ⟨by kernel_rfl, by kernel_rfl⟩
theorem d18 : Try.f18.body = some (P18 []) := by kernel_rfl
theorem t18 {x0 : Option Addr} : #[.pointer x0] ++ Array.replicate (Try.f18.ntmps - (#[.pointer x0] : Array Value).size) undef = #[.pointer x0,undef,undef,undef,undef,undef,undef,undef,undef,undef,undef] := by kernel_rfl
theorem k18_0 : P18 [] = .seq (P18 [0]) (P18 [1]) := by kernel_rfl
theorem k18_1 : P18 [0] = .region 0 (O18 [0]) false := by kernel_rfl
theorem r18_0 {M : Mem} {call : CallM} {K : Array Value → Mem → R} :
    opsK Try.prog (fun _ => call) (O18 [0]) (O18 [0]).toList 0 #[g0,g1,g2,g3,g4,g5,g6,g7,g8,g9,g10] M K = K #[g0,g1,.slice none 0 0,g3,g4,g5,g6,g7,g8,g9,g10] M := by kernel_rfl
theorem k18_2 : P18 [1] = .seq (P18 [1,0]) (P18 [1,1]) := by kernel_rfl
theorem k18_3 : P18 [1,0] = .seq (P18 [1,0,0]) (P18 [1,0,1]) := by kernel_rfl
theorem k18_4 : P18 [1,0,0] = .region 1 (O18 [1,0,0]) false := by kernel_rfl
theorem r18_1 {x0 : Option Addr} {M : Mem} {call : CallM} {K : Array Value → Mem → R} :
    opsK Try.prog (fun _ => call) (O18 [1,0,0]) (O18 [1,0,0]).toList 0 #[.pointer x0,g1,g2,g3,g4,g5,g6,g7,g8,g9,g10] M K = (call 43 #[.pointer x0] M).bind fun r_1 => (asB r_1.1).bind fun b_2 => K #[.pointer x0,g1,g2,.pointer x0,.bool b_2,.bool (!b_2),g6,g7,g8,g9,g10] r_1.2 := by kernel_rfl
theorem c18_5 : P18 [1,0,1] = .cond (.tmp 5) (P18 [1,0,1,0]) (P18 [1,0,1,1]) := by kernel_rfl
theorem k18_6 : P18 [1,0,1,0] = .seq (P18 [1,0,1,0,0]) (P18 [1,0,1,0,1]) := by kernel_rfl
theorem k18_7 : P18 [1,0,1,0,0] = .region 2 (O18 [1,0,1,0,0]) false := by kernel_rfl
theorem r18_2 {M : Mem} {call : CallM} {K : Array Value → Mem → R} :
    opsK Try.prog (fun _ => call) (O18 [1,0,1,0,0]) (O18 [1,0,1,0,0]).toList 0 #[g0,g1,g2,g3,g4,g5,g6,g7,g8,g9,g10] M K = K #[g0,g1,.slice none 0 0,g3,g4,g5,g6,g7,g8,g9,g10] M := by kernel_rfl
theorem k18_8 : P18 [1,0,1,0,1] = .ret := by kernel_rfl
theorem e18 {M : Mem} : finish Try.prog Try.f18 #[g0,g1,g2,g3,g4,g5,g6,g7,g8,g9,g10] M = some (g2, M) := by kernel_rfl
theorem k18_10 : P18 [1,0,1,1] = .skip := by kernel_rfl
theorem k18_11 : P18 [1,1] = .seq (P18 [1,1,0]) (P18 [1,1,1]) := by kernel_rfl
theorem k18_12 : P18 [1,1,0] = .region 3 (O18 [1,1,0]) false := by kernel_rfl
theorem r18_3 {x0 : Option Addr} {M : Mem} {call : CallM} {K : Array Value → Mem → R} :
    opsK Try.prog (fun _ => call) (O18 [1,1,0]) (O18 [1,1,0]).toList 0 #[.pointer x0,g1,g2,g3,g4,g5,g6,g7,g8,g9,g10] M K = (x0).bind fun a_1 => (M.slAt a_1.block a_1.off).bind fun s_2 => (call 44 #[.slice s_2.1 (s_2.2.1) (s_2.2.2)] M).bind fun r_3 => (asS r_3.1).bind fun s_4 => K #[.pointer x0,g1,.slice s_4.1 (s_4.2.1) (s_4.2.2),g3,g4,g5,.pointer x0,.pointer (some a_1),.pointer (some ⟨a_1.block, a_1.off, none⟩),.slice s_2.1 (s_2.2.1) (s_2.2.2),.slice s_4.1 (s_4.2.1) (s_4.2.2)] r_3.2 := by kernel_rfl
theorem k18_13 : P18 [1,1,1] = .ret := by kernel_rfl
theorem w18_0 {x0 : Option Addr} {M : Mem} {Q : Value → Mem → Prop} (H :
    Cn Try.prog 43 #[.pointer x0] M fun v1' N1' =>
     ∃ b2', asB v1' = some b2' ∧
     (((!b2') = true →
      Q (.slice none 0 0) N1') ∧
      ((!b2') = false →
      ∃ a3', x0 = some a3' ∧
      ∃ s4', N1'.slAt a3'.block a3'.off = some s4' ∧
      Cn Try.prog 44 #[.slice s4'.1 (s4'.2.1) (s4'.2.2)] N1' fun v5' N5' =>
       ∃ s6', asS v5' = some s6' ∧
       Q (.slice s6'.1 (s6'.2.1) (s6'.2.2)) N5'))) :
    Cn Try.prog 18 #[.pointer x0] M Q := by
  refine Cn.of b18 d18 t18 ?_
  refine Rn.seq k18_0 (Rn.region k18_1 (fun call K => r18_0) (Rch.leaf (Rn.seq k18_2 (Rn.seq k18_3 (Rn.region k18_4 (fun call K => r18_1) (Rch.call H fun v1' N1' H => Rch.ex H fun b2' H => Rch.leaf ?_))))))
  refine Rn.cnd (v := !b2') ⟨c18_5, rfl, by kernel_rfl⟩ (fun h => ?_) (fun h => ?_)
  · replace H := H.1 (h)
    refine Rn.seq k18_6 (Rn.region k18_7 (fun call K => r18_2) (Rch.leaf ?_))
    exact Rn.ret k18_8 e18 H
  · replace H := H.2 (h)
    refine Rn.skip k18_10 (Rn.seq k18_11 (Rn.region k18_12 (fun call K => r18_3) (Rch.ex H fun a3' H => Rch.ex H fun s4' H => Rch.call H fun v5' N5' H => Rch.ex H fun s6' H => Rch.leaf ?_)))
    exact Rn.ret k18_13 e18 H


/-! ### math/bits.Len32: function 55 -/
noncomputable abbrev P55 (p : List Nat) : Code := subC (codeOf Try.f55) p
noncomputable abbrev O55 (p : List Nat) : Array Oper := opsOf (subC (codeOf Try.f55) p)
theorem b55 : Try.prog.funcs[55]? = some Try.f55 ∧ (Orc.tab Try.prog).lookup 55 = none := ⟨by kernel_rfl, by kernel_rfl⟩
theorem d55 : Try.f55.body = some (P55 []) := by kernel_rfl
theorem t55 {x0 : Int} : #[.int .u32 x0] ++ Array.replicate (Try.f55.ntmps - (#[.int .u32 x0] : Array Value).size) undef = #[.int .u32 x0,undef,undef,undef,undef,undef,undef,undef,undef,undef,undef,undef,undef,undef,undef,undef,undef,undef,undef] := by kernel_rfl
theorem k55_0 : P55 [] = .seq (P55 [0]) (P55 [1]) := by kernel_rfl
theorem k55_1 : P55 [0] = .region 0 (O55 [0]) false := by kernel_rfl
theorem r55_0 {M : Mem} {call : CallM} {K : Array Value → Mem → R} :
    opsK Try.prog (fun _ => call) (O55 [0]) (O55 [0]).toList 0 #[g0,g1,g2,g3,g4,g5,g6,g7,g8,g9,g10,g11,g12,g13,g14,g15,g16,g17,g18] M K = K #[g0,g1,.int .i64 0,g3,g4,g5,g6,g7,g8,g9,g10,g11,g12,g13,g14,g15,g16,g17,g18] M := by kernel_rfl
theorem k55_2 : P55 [1] = .seq (P55 [1,0]) (P55 [1,1]) := by kernel_rfl
theorem k55_3 : P55 [1,0] = .seq (P55 [1,0,0]) (P55 [1,0,1]) := by kernel_rfl
theorem k55_4 : P55 [1,0,0] = .region 1 (O55 [1,0,0]) false := by kernel_rfl
theorem r55_1 {x0 : Int} {M : Mem} {call : CallM} {K : Array Value → Mem → R} :
    opsK Try.prog (fun _ => call) (O55 [1,0,0]) (O55 [1,0,0]).toList 0 #[.int .u32 x0,g1,g2,g3,g4,g5,g6,g7,g8,g9,g10,g11,g12,g13,g14,g15,g16,g17,g18] M K = K #[.int .u32 x0,g1,g2,.int .u32 x0,.bool (decide (x0 ≥ 65536)),g5,g6,g7,g8,g9,g10,g11,g12,g13,g14,g15,g16,g17,g18] M := by kernel_rfl
theorem c55_5 : P55 [1,0,1] = .cond (.tmp 4) (P55 [1,0,1,0]) (P55 [1,0,1,1]) := by kernel_rfl
theorem k55_6 : P55 [1,0,1,0] = .seq (P55 [1,0,1,0,0]) (P55 [1,0,1,0,1]) := by kernel_rfl
theorem k55_7 : P55 [1,0,1,0,0] = .region 2 (O55 [1,0,1,0,0]) false := by kernel_rfl
theorem r55_2 {x0 : Int} {M : Mem} {call : CallM} {K : Array Value → Mem → R} :
    opsK Try.prog (fun _ => call) (O55 [1,0,1,0,0]) (O55 [1,0,1,0,0]).toList 0 #[.int .u32 x0,g1,g2,g3,g4,g5,g6,g7,g8,g9,g10,g11,g12,g13,g14,g15,g16,g17,g18] M K = K #[.int .u32 (x0.fdiv (2 ^ 16)),g1,g2,g3,g4,.int .u32 x0,.int .u32 (x0.fdiv (2 ^ 16)),g7,g8,g9,g10,g11,g12,g13,g14,g15,g16,g17,g18] M := by kernel_rfl
theorem k55_8 : P55 [1,0,1,0,1] = .region 3 (O55 [1,0,1,0,1]) false := by kernel_rfl
theorem r55_3 {M : Mem} {call : CallM} {K : Array Value → Mem → R} :
    opsK Try.prog (fun _ => call) (O55 [1,0,1,0,1]) (O55 [1,0,1,0,1]).toList 0 #[g0,g1,g2,g3,g4,g5,g6,g7,g8,g9,g10,g11,g12,g13,g14,g15,g16,g17,g18] M K = K #[g0,g1,.int .i64 16,g3,g4,g5,g6,g7,g8,g9,g10,g11,g12,g13,g14,g15,g16,g17,g18] M := by kernel_rfl
theorem k55_9 : P55 [1,1] = .seq (P55 [1,1,0]) (P55 [1,1,1]) := by kernel_rfl
theorem k55_10 : P55 [1,1,0] = .seq (P55 [1,1,0,0]) (P55 [1,1,0,1]) := by kernel_rfl
theorem k55_11 : P55 [1,1,0,0] = .region 4 (O55 [1,1,0,0]) false := by kernel_rfl
theorem r55_4 {x0 : Int} {M : Mem} {call : CallM} {K : Array Value → Mem → R} :
    opsK Try.prog (fun _ => call) (O55 [1,1,0,0]) (O55 [1,1,0,0]).toList 0 #[.int .u32 x0,g1,g2,g3,g4,g5,g6,g7,g8,g9,g10,g11,g12,g13,g14,g15,g16,g17,g18] M K = K #[.int .u32 x0,g1,g2,g3,g4,g5,g6,.int .u32 x0,.bool (decide (x0 ≥ 256)),g9,g10,g11,g12,g13,g14,g15,g16,g17,g18] M := by kernel_rfl
theorem c55_12 : P55 [1,1,0,1] = .cond (.tmp 8) (P55 [1,1,0,1,0]) (P55 [1,1,0,1,1]) := by kernel_rfl
theorem k55_13 : P55 [1,1,0,1,0] = .seq (P55 [1,1,0,1,0,0]) (P55 [1,1,0,1,0,1]) := by kernel_rfl
theorem k55_14 : P55 [1,1,0,1,0,0] = .region 5 (O55 [1,1,0,1,0,0]) false := by kernel_rfl
theorem r55_5 {x0 : Int} {M : Mem} {call : CallM} {K : Array Value → Mem → R} :
    opsK Try.prog (fun _ => call) (O55 [1,1,0,1,0,0]) (O55 [1,1,0,1,0,0]).toList 0 #[.int .u32 x0,g1,g2,g3,g4,g5,g6,g7,g8,g9,g10,g11,g12,g13,g14,g15,g16,g17,g18] M K = K #[.int .u32 (x0.fdiv (2 ^ 8)),g1,g2,g3,g4,g5,g6,g7,g8,.int .u32 x0,.int .u32 (x0.fdiv (2 ^ 8)),g11,g12,g13,g14,g15,g16,g17,g18] M := by kernel_rfl
theorem k55_15 : P55 [1,1,0,1,0,1] = .region 6 (O55 [1,1,0,1,0,1]) false := by kernel_rfl
theorem r55_6 {x2 : Int} {M : Mem} {call : CallM} {K : Array Value → Mem → R} :
    opsK Try.prog (fun _ => call) (O55 [1,1,0,1,0,1]) (O55 [1,1,0,1,0,1]).toList 0 #[g0,g1,.int .i64 x2,g3,g4,g5,g6,g7,g8,g9,g10,g11,g12,g13,g14,g15,g16,g17,g18] M K = K #[g0,g1,.int .i64 (IntKind.i64.wrap (x2 + 8)),g3,g4,g5,g6,g7,g8,g9,g10,.int .i64 x2,.int .i64 (IntKind.i64.wrap (x2 + 8)),g13,g14,g15,g16,g17,g18] M := by kernel_rfl
theorem k55_16 : P55 [1,1,1] = .seq (P55 [1,1,1,0]) (P55 [1,1,1,1]) := by kernel_rfl
theorem k55_17 : P55 [1,1,1,0] = .region 7 (O55 [1,1,1,0]) false := by kernel_rfl
theorem r55_7 {x0 x2 : Int} {M : Mem} {call : CallM} {K : Array Value → Mem → R} :
    opsK Try.prog (fun _ => call) (O55 [1,1,1,0]) (O55 [1,1,1,0]).toList 0 #[.int .u32 x0,g1,.int .i64 x2,g3,g4,g5,g6,g7,g8,g9,g10,g11,g12,g13,g14,g15,g16,g17,g18] M K = (strV Try.prog 9 (.string str0) (.int .u8 (IntKind.u8.wrap (x0)))).bind fun v_1 => (asI .u8 v_1).bind fun x_2 => K #[.int .u32 x0,g1,.int .i64 (IntKind.i64.wrap (x2 + (IntKind.i64.wrap (x_2)))),g3,g4,g5,g6,g7,g8,g9,g10,g11,g12,.int .i64 x2,.int .u32 x0,.int .u8 (IntKind.u8.wrap (x0)),.int .u8 x_2,.int .i64 (IntKind.i64.wrap (x_2)),.int .i64 (IntKind.i64.wrap (x2 + (IntKind.i64.wrap (x_2))))] M := by kernel_rfl
theorem k55_18 : P55 [1,1,1,1] = .ret := by kernel_rfl
theorem e55 {M : Mem} : finish Try.prog Try.f55 #[g0,g1,g2,g3,g4,g5,g6,g7,g8,g9,g10,g11,g12,g13,g14,g15,g16,g17,g18] M = some (g2, M) := by kernel_rfl
theorem k55_20 : P55 [1,1,0,1,1] = .skip := by kernel_rfl
theorem k55_21 : P55 [1,0,1,1] = .skip := by kernel_rfl
theorem w55_0 {x0 : Int} {M : Mem} {Q : Value → Mem → Prop} (H :
    ((x0 ≥ 65536 →
     (((x0.fdiv (2 ^ 16)) ≥ 256 →
      ∃ v1', strV Try.prog 9 (.string str0) (.int .u8 (IntKind.u8.wrap (((x0.fdiv (2 ^ 16)).fdiv (2 ^ 8))))) = some v1' ∧
      ∃ x2', asI .u8 v1' = some x2' ∧
      Q (.int .i64 (IntKind.i64.wrap ((IntKind.i64.wrap (16 + 8)) + (IntKind.i64.wrap (x2'))))) M) ∧
      (¬ ((x0.fdiv (2 ^ 16)) ≥ 256) →
      ∃ v3', strV Try.prog 9 (.string str0) (.int .u8 (IntKind.u8.wrap ((x0.fdiv (2 ^ 16))))) = some v3' ∧
      ∃ x4', asI .u8 v3' = some x4' ∧
      Q (.int .i64 (IntKind.i64.wrap (16 + (IntKind.i64.wrap (x4'))))) M))) ∧
     (¬ (x0 ≥ 65536) →
     ((x0 ≥ 256 →
      ∃ v5', strV Try.prog 9 (.string str0) (.int .u8 (IntKind.u8.wrap ((x0.fdiv (2 ^ 8))))) = some v5' ∧
      ∃ x6', asI .u8 v5' = some x6' ∧
      Q (.int .i64 (IntKind.i64.wrap ((IntKind.i64.wrap (0 + 8)) + (IntKind.i64.wrap (x6'))))) M) ∧
      (¬ (x0 ≥ 256) →
      ∃ v7', strV Try.prog 9 (.string str0) (.int .u8 (IntKind.u8.wrap (x0))) = some v7' ∧
      ∃ x8', asI .u8 v7' = some x8' ∧
      Q (.int .i64 (IntKind.i64.wrap (0 + (IntKind.i64.wrap (x8'))))) M))))) :
    Cn Try.prog 55 #[.int .u32 x0] M Q := by
  refine Cn.of b55 d55 t55 ?_
  refine Rn.seq k55_0 (Rn.region k55_1 (fun call K => r55_0) (Rch.leaf (Rn.seq k55_2 (Rn.seq k55_3 (Rn.region k55_4 (fun call K => r55_1) (Rch.leaf ?_))))))
  refine Rn.cnd (v := decide (x0 ≥ 65536)) ⟨c55_5, rfl, by kernel_rfl⟩ (fun h => ?_) (fun h => ?_)
  · replace H := H.1 (of_decide_eq_true h)
    refine Rn.seq k55_6 (Rn.region k55_7 (fun call K => r55_2) (Rch.leaf (Rn.region k55_8 (fun call K => r55_3) (Rch.leaf (Rn.seq k55_9 (Rn.seq k55_10 (Rn.region k55_11 (fun call K => r55_4) (Rch.leaf ?_))))))))
    refine Rn.cnd (v := decide ((x0.fdiv (2 ^ 16)) ≥ 256)) ⟨c55_12, rfl, by kernel_rfl⟩ (fun h => ?_) (fun h => ?_)
    · replace H := H.1 (of_decide_eq_true h)
      refine Rn.seq k55_13 (Rn.region k55_14 (fun call K => r55_5) (Rch.leaf (Rn.region k55_15 (fun call K => r55_6) (Rch.leaf (Rn.seq k55_16 (Rn.region k55_17 (fun call K => r55_7) (Rch.ex H fun v1' H => Rch.ex H fun x2' H => Rch.leaf ?_)))))))
      exact Rn.ret k55_18 e55 H
    · replace H := H.2 (of_decide_eq_false h)
      refine Rn.skip k55_20 (Rn.seq k55_16 (Rn.region k55_17 (fun call K => r55_7) (Rch.ex H fun v3' H => Rch.ex H fun x4' H => Rch.leaf ?_)))
      exact Rn.ret k55_18 e55 H
  · replace H := H.2 (of_decide_eq_false h)
    refine Rn.skip k55_21 (Rn.seq k55_9 (Rn.seq k55_10 (Rn.region k55_11 (fun call K => r55_4) (Rch.leaf ?_))))
    refine Rn.cnd (v := decide (x0 ≥ 256)) ⟨c55_12, rfl, by kernel_rfl⟩ (fun h => ?_) (fun h => ?_)
    · replace H := H.1 (of_decide_eq_true h)
      refine Rn.seq k55_13 (Rn.region k55_14 (fun call K => r55_5) (Rch.leaf (Rn.region k55_15 (fun call K => r55_6) (Rch.leaf (Rn.seq k55_16 (Rn.region k55_17 (fun call K => r55_7) (Rch.ex H fun v5' H => Rch.ex H fun x6' H => Rch.leaf ?_)))))))
      exact Rn.ret k55_18 e55 H
    · replace H := H.2 (of_decide_eq_false h)
      refine Rn.skip k55_20 (Rn.seq k55_16 (Rn.region k55_17 (fun call K => r55_7) (Rch.ex H fun v7' H => Rch.ex H fun x8' H => Rch.leaf ?_)))
      exact Rn.ret k55_18 e55 H


/-! ### math/bits.Len64: function 57 -/
noncomputable abbrev P57 (p : List Nat) : Code := subC (codeOf Try.f57) p
noncomputable abbrev O57 (p : List Nat) : Array Oper := opsOf (subC (codeOf Try.f57) p)
theorem b57 : Try.prog.funcs[57]? = some Try.f57 ∧ (Orc.tab Try.prog).lookup 57 = none := ⟨by kernel_rfl, by kernel_rfl⟩
theorem d57 : Try.f57.body = some (P57 []) := by kernel_rfl
theorem t57 {x0 : Int} : #[.int .u64 x0] ++ Array.replicate (Try.f57.ntmps - (#[.int .u64 x0] : Array Value).size) undef = #[.int .u64 x0,undef,undef,undef,undef,undef,undef,undef,undef,undef,undef,undef,undef,undef,undef,undef,undef,undef,undef,undef,undef,undef,undef,undef,undef] := by kernel_rfl
theorem k57_0 : P57 [] = .seq (P57 [0]) (P57 [1]) := by kernel_rfl
theorem k57_1 : P57 [0] = .region 0 (O57 [0]) false := by kernel_rfl
theorem r57_0 {M : Mem} {call : CallM} {K : Array Value → Mem → R} :
    opsK Try.prog (fun _ => call) (O57 [0]) (O57 [0]).toList 0 #[g0,g1,g2,g3,g4,g5,g6,g7,g8,g9,g10,g11,g12,g13,g14,g15,g16,g17,g18,g19,g20,g21,g22,g23,g24] M K = K #[g0,g1,.int .i64 0,g3,g4,g5,g6,g7,g8,g9,g10,g11,g12,g13,g14,g15,g16,g17,g18,g19,g20,g21,g22,g23,g24] M := by kernel_rfl
theorem k57_2 : P57 [1] = .seq (P57 [1,0]) (P57 [1,1]) := by kernel_rfl
theorem k57_3 : P57 [1,0] = .seq (P57 [1,0,0]) (P57 [1,0,1]) := by kernel_rfl
theorem k57_4 : P57 [1,0,0] = .region 1 (O57 [1,0,0]) false := by kernel_rfl
theorem r57_1 {x0 : Int} {M : Mem} {call : CallM} {K : Array Value → Mem → R} :
    opsK Try.prog (fun _ => call) (O57 [1,0,0]) (O57 [1,0,0]).toList 0 #[.int .u64 x0,g1,g2,g3,g4,g5,g6,g7,g8,g9,g10,g11,g12,g13,g14,g15,g16,g17,g18,g19,g20,g21,g22,g23,g24] M K = K #[.int .u64 x0,g1,g2,.int .u64 x0,.bool (decide (x0 ≥ 4294967296)),g5,g6,g7,g8,g9,g10,g11,g12,g13,g14,g15,g16,g17,g18,g19,g20,g21,g22,g23,g24] M := by kernel_rfl
theorem c57_5 : P57 [1,0,1] = .cond (.tmp 4) (P57 [1,0,1,0]) (P57 [1,0,1,1]) := by kernel_rfl
theorem k57_6 : P57 [1,0,1,0] = .seq (P57 [1,0,1,0,0]) (P57 [1,0,1,0,1]) := by kernel_rfl
theorem k57_7 : P57 [1,0,1,0,0] = .region 2 (O57 [1,0,1,0,0]) false := by kernel_rfl
theorem r57_2 {x0 : Int} {M : Mem} {call : CallM} {K : Array Value → Mem → R} :
    opsK Try.prog (fun _ => call) (O57 [1,0,1,0,0]) (O57 [1,0,1,0,0]).toList 0 #[.int .u64 x0,g1,g2,g3,g4,g5,g6,g7,g8,g9,g10,g11,g12,g13,g14,g15,g16,g17,g18,g19,g20,g21,g22,g23,g24] M K = K #[.int .u64 (x0.fdiv (2 ^ 32)),g1,g2,g3,g4,.int .u64 x0,.int .u64 (x0.fdiv (2 ^ 32)),g7,g8,g9,g10,g11,g12,g13,g14,g15,g16,g17,g18,g19,g20,g21,g22,g23,g24] M := by kernel_rfl
theorem k57_8 : P57 [1,0,1,0,1] = .region 3 (O57 [1,0,1,0,1]) false := by kernel_rfl
theorem r57_3 {M : Mem} {call : CallM} {K : Array Value → Mem → R} :
    opsK Try.prog (fun _ => call) (O57 [1,0,1,0,1]) (O57 [1,0,1,0,1]).toList 0 #[g0,g1,g2,g3,g4,g5,g6,g7,g8,g9,g10,g11,g12,g13,g14,g15,g16,g17,g18,g19,g20,g21,g22,g23,g24] M K = K #[g0,g1,.int .i64 32,g3,g4,g5,g6,g7,g8,g9,g10,g11,g12,g13,g14,g15,g16,g17,g18,g19,g20,g21,g22,g23,g24] M := by kernel_rfl
theorem k57_9 : P57 [1,1] = .seq (P57 [1,1,0]) (P57 [1,1,1]) := by kernel_rfl
theorem k57_10 : P57 [1,1,0] = .seq (P57 [1,1,0,0]) (P57 [1,1,0,1]) := by kernel_rfl
theorem k57_11 : P57 [1,1,0,0] = .region 4 (O57 [1,1,0,0]) false := by kernel_rfl
theorem r57_4 {x0 : Int} {M : Mem} {call : CallM} {K : Array Value → Mem → R} :
    opsK Try.prog (fun _ => call) (O57 [1,1,0,0]) (O57 [1,1,0,0]).toList 0 #[.int .u64 x0,g1,g2,g3,g4,g5,g6,g7,g8,g9,g10,g11,g12,g13,g14,g15,g16,g17,g18,g19,g20,g21,g22,g23,g24] M K = K #[.int .u64 x0,g1,g2,g3,g4,g5,g6,.int .u64 x0,.bool (decide (x0 ≥ 65536)),g9,g10,g11,g12,g13,g14,g15,g16,g17,g18,g19,g20,g21,g22,g23,g24] M := by kernel_rfl
theorem c57_12 : P57 [1,1,0,1] = .cond (.tmp 8) (P57 [1,1,0,1,0]) (P57 [1,1,0,1,1]) := by kernel_rfl
theorem k57_13 : P57 [1,1,0,1,0] = .seq (P57 [1,1,0,1,0,0]) (P57 [1,1,0,1,0,1]) := by kernel_rfl
theorem k57_14 : P57 [1,1,0,1,0,0] = .region 5 (O57 [1,1,0,1,0,0]) false := by kernel_rfl
theorem r57_5 {x0 : Int} {M : Mem} {call : CallM} {K : Array Value → Mem → R} :
    opsK Try.prog (fun _ => call) (O57 [1,1,0,1,0,0]) (O57 [1,1,0,1,0,0]).toList 0 #[.int .u64 x0,g1,g2,g3,g4,g5,g6,g7,g8,g9,g10,g11,g12,g13,g14,g15,g16,g17,g18,g19,g20,g21,g22,g23,g24] M K = K #[.int .u64 (x0.fdiv (2 ^ 16)),g1,g2,g3,g4,g5,g6,g7,g8,.int .u64 x0,.int .u64 (x0.fdiv (2 ^ 16)),g11,g12,g13,g14,g15,g16,g17,g18,g19,g20,g21,g22,g23,g24] M := by kernel_rfl
theorem k57_15 : P57 [1,1,0,1,0,1] = .region 6 (O57 [1,1,0,1,0,1]) false := by kernel_rfl
theorem r57_6 {x2 : Int} {M : Mem} {call : CallM} {K : Array Value → Mem → R} :
    opsK Try.prog (fun _ => call) (O57 [1,1,0,1,0,1]) (O57 [1,1,0,1,0,1]).toList 0 #[g0,g1,.int .i64 x2,g3,g4,g5,g6,g7,g8,g9,g10,g11,g12,g13,g14,g15,g16,g17,g18,g19,g20,g21,g22,g23,g24] M K = K #[g0,g1,.int .i64 (IntKind.i64.wrap (x2 + 16)),g3,g4,g5,g6,g7,g8,g9,g10,.int .i64 x2,.int .i64 (IntKind.i64.wrap (x2 + 16)),g13,g14,g15,g16,g17,g18,g19,g20,g21,g22,g23,g24] M := by kernel_rfl
theorem k57_16 : P57 [1,1,1] = .seq (P57 [1,1,1,0]) (P57 [1,1,1,1]) := by kernel_rfl
theorem k57_17 : P57 [1,1,1,0] = .seq (P57 [1,1,1,0,0]) (P57 [1,1,1,0,1]) := by kernel_rfl
theorem k57_18 : P57 [1,1,1,0,0] = .region 7 (O57 [1,1,1,0,0]) false := by kernel_rfl
theorem r57_7 {x0 : Int} {M : Mem} {call : CallM} {K : Array Value → Mem → R} :
    opsK Try.prog (fun _ => call) (O57 [1,1,1,0,0]) (O57 [1,1,1,0,0]).toList 0 #[.int .u64 x0,g1,g2,g3,g4,g5,g6,g7,g8,g9,g10,g11,g12,g13,g14,g15,g16,g17,g18,g19,g20,g21,g22,g23,g24] M K = K #[.int .u64 x0,g1,g2,g3,g4,g5,g6,g7,g8,g9,g10,g11,g12,.int .u64 x0,.bool (decide (x0 ≥ 256)),g15,g16,g17,g18,g19,g20,g21,g22,g23,g24] M := by kernel_rfl
theorem c57_19 : P57 [1,1,1,0,1] = .cond (.tmp 14) (P57 [1,1,1,0,1,0]) (P57 [1,1,1,0,1,1]) := by kernel_rfl
theorem k57_20 : P57 [1,1,1,0,1,0] = .seq (P57 [1,1,1,0,1,0,0]) (P57 [1,1,1,0,1,0,1]) := by kernel_rfl
theorem k57_21 : P57 [1,1,1,0,1,0,0] = .region 8 (O57 [1,1,1,0,1,0,0]) false := by kernel_rfl
theorem r57_8 {x0 : Int} {M : Mem} {call : CallM} {K : Array Value → Mem → R} :
    opsK Try.prog (fun _ => call) (O57 [1,1,1,0,1,0,0]) (O57 [1,1,1,0,1,0,0]).toList 0 #[.int .u64 x0,g1,g2,g3,g4,g5,g6,g7,g8,g9,g10,g11,g12,g13,g14,g15,g16,g17,g18,g19,g20,g21,g22,g23,g24] M K = K #[.int .u64 (x0.fdiv (2 ^ 8)),g1,g2,g3,g4,g5,g6,g7,g8,g9,g10,g11,g12,g13,g14,.int .u64 x0,.int .u64 (x0.fdiv (2 ^ 8)),g17,g18,g19,g20,g21,g22,g23,g24] M := by kernel_rfl
theorem k57_22 : P57 [1,1,1,0,1,0,1] = .region 9 (O57 [1,1,1,0,1,0,1]) false := by kernel_rfl
theorem r57_9 {x2 : Int} {M : Mem} {call : CallM} {K : Array Value → Mem → R} :
    opsK Try.prog (fun _ => call) (O57 [1,1,1,0,1,0,1]) (O57 [1,1,1,0,1,0,1]).toList 0 #[g0,g1,.int .i64 x2,g3,g4,g5,g6,g7,g8,g9,g10,g11,g12,g13,g14,g15,g16,g17,g18,g19,g20,g21,g22,g23,g24] M K = K #[g0,g1,.int .i64 (IntKind.i64.wrap (x2 + 8)),g3,g4,g5,g6,g7,g8,g9,g10,g11,g12,g13,g14,g15,g16,.int .i64 x2,.int .i64 (IntKind.i64.wrap (x2 + 8)),g19,g20,g21,g22,g23,g24] M := by kernel_rfl
theorem k57_23 : P57 [1,1,1,1] = .seq (P57 [1,1,1,1,0]) (P57 [1,1,1,1,1]) := by kernel_rfl
theorem k57_24 : P57 [1,1,1,1,0] = .region 10 (O57 [1,1,1,1,0]) false := by kernel_rfl
theorem r57_10 {x0 x2 : Int} {M : Mem} {call : CallM} {K : Array Value → Mem → R} :
    opsK Try.prog (fun _ => call) (O57 [1,1,1,1,0]) (O57 [1,1,1,1,0]).toList 0 #[.int .u64 x0,g1,.int .i64 x2,g3,g4,g5,g6,g7,g8,g9,g10,g11,g12,g13,g14,g15,g16,g17,g18,g19,g20,g21,g22,g23,g24] M K = (strV Try.prog 9 (.string str0) (.int .u8 (IntKind.u8.wrap (x0)))).bind fun v_1 => (asI .u8 v_1).bind fun x_2 => K #[.int .u64 x0,g1,.int .i64 (IntKind.i64.wrap (x2 + (IntKind.i64.wrap (x_2)))),g3,g4,g5,g6,g7,g8,g9,g10,g11,g12,g13,g14,g15,g16,g17,g18,.int .i64 x2,.int .u64 x0,.int .u8 (IntKind.u8.wrap (x0)),.int .u8 x_2,.int .i64 (IntKind.i64.wrap (x_2)),.int .i64 (IntKind.i64.wrap (x2 + (IntKind.i64.wrap (x_2))))] M := by kernel_rfl
theorem k57_25 : P57 [1,1,1,1,1] = .ret := by kernel_rfl
theorem e57 {M : Mem} : finish Try.prog Try.f57 #[g0,g1,g2,g3,g4,g5,g6,g7,g8,g9,g10,g11,g12,g13,g14,g15,g16,g17,g18,g19,g20,g21,g22,g23,g24] M = some (g2, M) := by kernel_rfl
theorem k57_27 : P57 [1,1,1,0,1,1] = .skip := by kernel_rfl
theorem k57_28 : P57 [1,1,0,1,1] = .skip := by kernel_rfl
theorem k57_29 : P57 [1,0,1,1] = .skip := by kernel_rfl
theorem w57_0 {x0 : Int} {M : Mem} {Q : Value → Mem → Prop} (H :
    ((x0 ≥ 4294967296 →
     (((x0.fdiv (2 ^ 32)) ≥ 65536 →
      ((((x0.fdiv (2 ^ 32)).fdiv (2 ^ 16)) ≥ 256 →
       ∃ v1', strV Try.prog 9 (.string str0) (.int .u8 (IntKind.u8.wrap ((((x0.fdiv (2 ^ 32)).fdiv (2 ^ 16)).fdiv (2 ^ 8))))) = some v1' ∧
       ∃ x2', asI .u8 v1' = some x2' ∧
       Q (.int .i64 (IntKind.i64.wrap ((IntKind.i64.wrap ((IntKind.i64.wrap (32 + 16)) + 8)) + (IntKind.i64.wrap (x2'))))) M) ∧
       (¬ (((x0.fdiv (2 ^ 32)).fdiv (2 ^ 16)) ≥ 256) →
       ∃ v3', strV Try.prog 9 (.string str0) (.int .u8 (IntKind.u8.wrap (((x0.fdiv (2 ^ 32)).fdiv (2 ^ 16))))) = some v3' ∧
       ∃ x4', asI .u8 v3' = some x4' ∧
       Q (.int .i64 (IntKind.i64.wrap ((IntKind.i64.wrap (32 + 16)) + (IntKind.i64.wrap (x4'))))) M))) ∧
      (¬ ((x0.fdiv (2 ^ 32)) ≥ 65536) →
      (((x0.fdiv (2 ^ 32)) ≥ 256 →
       ∃ v5', strV Try.prog 9 (.string str0) (.int .u8 (IntKind.u8.wrap (((x0.fdiv (2 ^ 32)).fdiv (2 ^ 8))))) = some v5' ∧
       ∃ x6', asI .u8 v5' = some x6' ∧
       Q (.int .i64 (IntKind.i64.wrap ((IntKind.i64.wrap (32 + 8)) + (IntKind.i64.wrap (x6'))))) M) ∧
       (¬ ((x0.fdiv (2 ^ 32)) ≥ 256) →
       ∃ v7', strV Try.prog 9 (.string str0) (.int .u8 (IntKind.u8.wrap ((x0.fdiv (2 ^ 32))))) = some v7' ∧
       ∃ x8', asI .u8 v7' = some x8' ∧
       Q (.int .i64 (IntKind.i64.wrap (32 + (IntKind.i64.wrap (x8'))))) M))))) ∧
     (¬ (x0 ≥ 4294967296) →
     ((x0 ≥ 65536 →
      (((x0.fdiv (2 ^ 16)) ≥ 256 →
       ∃ v9', strV Try.prog 9 (.string str0) (.int .u8 (IntKind.u8.wrap (((x0.fdiv (2 ^ 16)).fdiv (2 ^ 8))))) = some v9' ∧
       ∃ x10', asI .u8 v9' = some x10' ∧
       Q (.int .i64 (IntKind.i64.wrap ((IntKind.i64.wrap ((IntKind.i64.wrap (0 + 16)) + 8)) + (IntKind.i64.wrap (x10'))))) M) ∧
       (¬ ((x0.fdiv (2 ^ 16)) ≥ 256) →
       ∃ v11', strV Try.prog 9 (.string str0) (.int .u8 (IntKind.u8.wrap ((x0.fdiv (2 ^ 16))))) = some v11' ∧
       ∃ x12', asI .u8 v11' = some x12' ∧
       Q (.int .i64 (IntKind.i64.wrap ((IntKind.i64.wrap (0 + 16)) + (IntKind.i64.wrap (x12'))))) M))) ∧
      (¬ (x0 ≥ 65536) →
      ((x0 ≥ 256 →
       ∃ v13', strV Try.prog 9 (.string str0) (.int .u8 (IntKind.u8.wrap ((x0.fdiv (2 ^ 8))))) = some v13' ∧
       ∃ x14', asI .u8 v13' = some x14' ∧
       Q (.int .i64 (IntKind.i64.wrap ((IntKind.i64.wrap (0 + 8)) + (IntKind.i64.wrap (x14'))))) M) ∧
       (¬ (x0 ≥ 256) →
       ∃ v15', strV Try.prog 9 (.string str0) (.int .u8 (IntKind.u8.wrap (x0))) = some v15' ∧
       ∃ x16', asI .u8 v15' = some x16' ∧
       Q (.int .i64 (IntKind.i64.wrap (0 + (IntKind.i64.wrap (x16'))))) M))))))) :
    Cn Try.prog 57 #[.int .u64 x0] M Q := by
  refine Cn.of b57 d57 t57 ?_
  refine Rn.seq k57_0 (Rn.region k57_1 (fun call K => r57_0) (Rch.leaf (Rn.seq k57_2 (Rn.seq k57_3 (Rn.region k57_4 (fun call K => r57_1) (Rch.leaf ?_))))))
  refine Rn.cnd (v := decide (x0 ≥ 4294967296)) ⟨c57_5, rfl, by kernel_rfl⟩ (fun h => ?_) (fun h => ?_)
  · replace H := H.1 (of_decide_eq_true h)
    refine Rn.seq k57_6 (Rn.region k57_7 (fun call K => r57_2) (Rch.leaf (Rn.region k57_8 (fun call K => r57_3) (Rch.leaf (Rn.seq k57_9 (Rn.seq k57_10 (Rn.region k57_11 (fun call K => r57_4) (Rch.leaf ?_))))))))
    refine Rn.cnd (v := decide ((x0.fdiv (2 ^ 32)) ≥ 65536)) ⟨c57_12, rfl, by kernel_rfl⟩ (fun h => ?_) (fun h => ?_)
    · replace H := H.1 (of_decide_eq_true h)
      refine Rn.seq k57_13 (Rn.region k57_14 (fun call K => r57_5) (Rch.leaf (Rn.region k57_15 (fun call K => r57_6) (Rch.leaf (Rn.seq k57_16 (Rn.seq k57_17 (Rn.region k57_18 (fun call K => r57_7) (Rch.leaf ?_))))))))
      refine Rn.cnd (v := decide (((x0.fdiv (2 ^ 32)).fdiv (2 ^ 16)) ≥ 256)) ⟨c57_19, rfl, by kernel_rfl⟩ (fun h => ?_) (fun h => ?_)
      · replace H := H.1 (of_decide_eq_true h)
        refine Rn.seq k57_20 (Rn.region k57_21 (fun call K => r57_8) (Rch.leaf (Rn.region k57_22 (fun call K => r57_9) (Rch.leaf (Rn.seq k57_23 (Rn.region k57_24 (fun call K => r57_10) (Rch.ex H fun v1' H => Rch.ex H fun x2' H => Rch.leaf ?_)))))))
        exact Rn.ret k57_25 e57 H
      · replace H := H.2 (of_decide_eq_false h)
        refine Rn.skip k57_27 (Rn.seq k57_23 (Rn.region k57_24 (fun call K => r57_10) (Rch.ex H fun v3' H => Rch.ex H fun x4' H => Rch.leaf ?_)))
        exact Rn.ret k57_25 e57 H
    · replace H := H.2 (of_decide_eq_false h)
      refine Rn.skip k57_28 (Rn.seq k57_16 (Rn.seq k57_17 (Rn.region k57_18 (fun call K => r57_7) (Rch.leaf ?_))))
      refine Rn.cnd (v := decide ((x0.fdiv (2 ^ 32)) ≥ 256)) ⟨c57_19, rfl, by kernel_rfl⟩ (fun h => ?_) (fun h => ?_)
      · replace H := H.1 (of_decide_eq_true h)
        refine Rn.seq k57_20 (Rn.region k57_21 (fun call K => r57_8) (Rch.leaf (Rn.region k57_22 (fun call K => r57_9) (Rch.leaf (Rn.seq k57_23 (Rn.region k57_24 (fun call K => r57_10) (Rch.ex H fun v5' H => Rch.ex H fun x6' H => Rch.leaf ?_)))))))
        exact Rn.ret k57_25 e57 H
      · replace H := H.2 (of_decide_eq_false h)
        refine Rn.skip k57_27 (Rn.seq k57_23 (Rn.region k57_24 (fun call K => r57_10) (Rch.ex H fun v7' H => Rch.ex H fun x8' H => Rch.leaf ?_)))
        exact Rn.ret k57_25 e57 H
  · replace H := H.2 (of_decide_eq_false h)
    refine Rn.skip k57_29 (Rn.seq k57_9 (Rn.seq k57_10 (Rn.region k57_11 (fun call K => r57_4) (Rch.leaf ?_))))
    refine Rn.cnd (v := decide (x0 ≥ 65536)) ⟨c57_12, rfl, by kernel_rfl⟩ (fun h => ?_) (fun h => ?_)
    · replace H := H.1 (of_decide_eq_true h)
      refine Rn.seq k57_13 (Rn.region k57_14 (fun call K => r57_5) (Rch.leaf (Rn.region k57_15 (fun call K => r57_6) (Rch.leaf (Rn.seq k57_16 (Rn.seq k57_17 (Rn.region k57_18 (fun call K => r57_7) (Rch.leaf ?_))))))))
      refine Rn.cnd (v := decide ((x0.fdiv (2 ^ 16)) ≥ 256)) ⟨c57_19, rfl, by kernel_rfl⟩ (fun h => ?_) (fun h => ?_)
      · replace H := H.1 (of_decide_eq_true h)
        refine Rn.seq k57_20 (Rn.region k57_21 (fun call K => r57_8) (Rch.leaf (Rn.region k57_22 (fun call K => r57_9) (Rch.leaf (Rn.seq k57_23 (Rn.region k57_24 (fun call K => r57_10) (Rch.ex H fun v9' H => Rch.ex H fun x10' H => Rch.leaf ?_)))))))
        exact Rn.ret k57_25 e57 H
      · replace H := H.2 (of_decide_eq_false h)
        refine Rn.skip k57_27 (Rn.seq k57_23 (Rn.region k57_24 (fun call K => r57_10) (Rch.ex H fun v11' H => Rch.ex H fun x12' H => Rch.leaf ?_)))
        exact Rn.ret k57_25 e57 H
    · replace H := H.2 (of_decide_eq_false h)
      refine Rn.skip k57_28 (Rn.seq k57_16 (Rn.seq k57_17 (Rn.region k57_18 (fun call K => r57_7) (Rch.leaf ?_))))
      refine Rn.cnd (v := decide (x0 ≥ 256)) ⟨c57_19, rfl, by kernel_rfl⟩ (fun h => ?_) (fun h => ?_)
      · replace H := H.1 (of_decide_eq_true h)
        refine Rn.seq k57_20 (Rn.region k57_21 (fun call K => r57_8) (Rch.leaf (Rn.region k57_22 (fun call K => r57_9) (Rch.leaf (Rn.seq k57_23 (Rn.region k57_24 (fun call K => r57_10) (Rch.ex H fun v13' H => Rch.ex H fun x14' H => Rch.leaf ?_)))))))
        exact Rn.ret k57_25 e57 H
      · replace H := H.2 (of_decide_eq_false h)
        refine Rn.skip k57_27 (Rn.seq k57_23 (Rn.region k57_24 (fun call K => r57_10) (Rch.ex H fun v15' H => Rch.ex H fun x16' H => Rch.leaf ?_)))
        exact Rn.ret k57_25 e57 H


/-! ### (*zoetrope/bits.Writer).put: function 56 -/
noncomputable abbrev P56 (p : List Nat) : Code := subC (codeOf Try.f56) p
noncomputable abbrev O56 (p : List Nat) : Array Oper := opsOf (subC (codeOf Try.f56) p)
theorem b56 : Try.prog.funcs[56]? = some Try.f56 ∧ (Orc.tab Try.prog).lookup 56 = none := ⟨by kernel_rfl, by kernel_rfl⟩
theorem d56 : Try.f56.body = some (P56 []) := by kernel_rfl
theorem t56 {x0 : Option Addr} {x1 x2 : Int} : #[.pointer x0,.int .u64 x1,.int .i64 x2] ++ Array.replicate (Try.f56.ntmps - (#[.pointer x0,.int .u64 x1,.int .i64 x2] : Array Value).size) undef = #[.pointer x0,.int .u64 x1,.int .i64 x2,undef,undef,undef,undef,undef,undef,undef,undef,undef,undef,undef,undef,undef,undef,undef,undef,undef,undef,undef,undef,undef,undef,undef,undef,undef,undef,undef,undef,undef,undef,undef,undef,undef,undef,undef,undef,undef,undef,undef,undef,undef,undef,undef,undef,undef,undef,undef,undef,undef,undef,undef,undef,undef,undef,undef,undef,undef,undef] := by kernel_rfl
theorem k56_0 : P56 [] = .seq (P56 [0]) (P56 [1]) := by kernel_rfl
theorem k56_1 : P56 [0] = .region 0 (O56 [0]) false := by kernel_rfl
theorem r56_0 {x2 : Int} {M : Mem} {call : CallM} {K : Array Value → Mem → R} :
    opsK Try.prog (fun _ => call) (O56 [0]) (O56 [0]).toList 0 #[g0,g1,.int .i64 x2,g3,g4,g5,g6,g7,g8,g9,g10,g11,g12,g13,g14,g15,g16,g17,g18,g19,g20,g21,g22,g23,g24,g25,g26,g27,g28,g29,g30,g31,g32,g33,g34,g35,g36,g37,g38,g39,g40,g41,g42,g43,g44,g45,g46,g47,g48,g49,g50,g51,g52,g53,g54,g55,g56,g57,g58,g59,g60] M K = K #[g0,g1,.int .i64 x2,g3,g4,g5,.int .i64 (IntKind.i64.wrap (x2 - 1)),.int .i64 x2,.int .i64 (IntKind.i64.wrap (x2 - 1)),g9,g10,g11,g12,g13,g14,g15,g16,g17,g18,g19,g20,g21,g22,g23,g24,g25,g26,g27,g28,g29,g30,g31,g32,g33,g34,g35,g36,g37,g38,g39,g40,g41,g42,g43,g44,g45,g46,g47,g48,g49,g50,g51,g52,g53,g54,g55,g56,g57,g58,g59,g60] M := by kernel_rfl
theorem k56_2 : P56 [1] = .block 0 (P56 [1,0]) := by kernel_rfl
theorem k56_3 : P56 [1,0] = .loop (P56 [1,0,0]) := by kernel_rfl
theorem k56_4 : P56 [1,0,0] = .seq (P56 [1,0,0,0]) (P56 [1,0,0,1]) := by kernel_rfl
theorem k56_5 : P56 [1,0,0,0] = .seq (P56 [1,0,0,0,0]) (P56 [1,0,0,0,1]) := by kernel_rfl
theorem k56_6 : P56 [1,0,0,0,0] = .region 1 (O56 [1,0,0,0,0]) false := by kernel_rfl
theorem r56_1 {x6 : Int} {M : Mem} {call : CallM} {K : Array Value → Mem → R} :
    opsK Try.prog (fun _ => call) (O56 [1,0,0,0,0]) (O56 [1,0,0,0,0]).toList 0 #[g0,g1,g2,g3,g4,g5,.int .i64 x6,g7,g8,g9,g10,g11,g12,g13,g14,g15,g16,g17,g18,g19,g20,g21,g22,g23,g24,g25,g26,g27,g28,g29,g30,g31,g32,g33,g34,g35,g36,g37,g38,g39,g40,g41,g42,g43,g44,g45,g46,g47,g48,g49,g50,g51,g52,g53,g54,g55,g56,g57,g58,g59,g60] M K = K #[g0,g1,g2,g3,g4,g5,.int .i64 x6,g7,g8,.int .i64 x6,.bool (decide (x6 ≥ 0)),g11,g12,g13,g14,g15,g16,g17,g18,g19,g20,g21,g22,g23,g24,g25,g26,g27,g28,g29,g30,g31,g32,g33,g34,g35,g36,g37,g38,g39,g40,g41,g42,g43,g44,g45,g46,g47,g48,g49,g50,g51,g52,g53,g54,g55,g56,g57,g58,g59,g60] M := by kernel_rfl
theorem c56_7 : P56 [1,0,0,0,1] = .cond (.tmp 10) (P56 [1,0,0,0,1,0]) (P56 [1,0,0,0,1,1]) := by kernel_rfl
theorem k56_8 : P56 [1,0,0,0,1,0] = .skip := by kernel_rfl
theorem k56_9 : P56 [1,0,0,1] = .seq (P56 [1,0,0,1,0]) (P56 [1,0,0,1,1]) := by kernel_rfl
theorem k56_10 : P56 [1,0,0,1,0] = .block 1 (P56 [1,0,0,1,0,0]) := by kernel_rfl
theorem k56_11 : P56 [1,0,0,1,0,0] = .seq (P56 [1,0,0,1,0,0,0]) (P56 [1,0,0,1,0,0,1]) := by kernel_rfl
theorem k56_12 : P56 [1,0,0,1,0,0,0] = .seq (P56 [1,0,0,1,0,0,0,0]) (P56 [1,0,0,1,0,0,0,1]) := by kernel_rfl
theorem k56_13 : P56 [1,0,0,1,0,0,0,0] = .region 3 (O56 [1,0,0,1,0,0,0,0]) false := by kernel_rfl
theorem r56_3 {x0 : Option Addr} {M : Mem} {call : CallM} {K : Array Value → Mem → R} :
    opsK Try.prog (fun _ => call) (O56 [1,0,0,1,0,0,0,0]) (O56 [1,0,0,1,0,0,0,0]).toList 0 #[.pointer x0,g1,g2,g3,g4,g5,g6,g7,g8,g9,g10,g11,g12,g13,g14,g15,g16,g17,g18,g19,g20,g21,g22,g23,g24,g25,g26,g27,g28,g29,g30,g31,g32,g33,g34,g35,g36,g37,g38,g39,g40,g41,g42,g43,g44,g45,g46,g47,g48,g49,g50,g51,g52,g53,g54,g55,g56,g57,g58,g59,g60] M K = (x0).bind fun a_1 => (M.intAt .i64 a_1.block (a_1.off + 1)).bind fun x_2 => K #[.pointer x0,g1,g2,g3,g4,g5,g6,g7,g8,g9,g10,g11,g12,.pointer x0,.pointer (some a_1),.pointer (some ⟨a_1.block, a_1.off + 1, none⟩),.int .i64 x_2,.bool (x_2 == 0),g18,g19,g20,g21,g22,g23,g24,g25,g26,g27,g28,g29,g30,g31,g32,g33,g34,g35,g36,g37,g38,g39,g40,g41,g42,g43,g44,g45,g46,g47,g48,g49,g50,g51,g52,g53,g54,g55,g56,g57,g58,g59,g60] M := by kernel_rfl
theorem c56_14 : P56 [1,0,0,1,0,0,0,1] = .cond (.tmp 17) (P56 [1,0,0,1,0,0,0,1,0]) (P56 [1,0,0,1,0,0,0,1,1]) := by kernel_rfl
theorem k56_15 : P56 [1,0,0,1,0,0,0,1,0] = .seq (P56 [1,0,0,1,0,0,0,1,0,0]) (P56 [1,0,0,1,0,0,0,1,0,1]) := by kernel_rfl
theorem k56_16 : P56 [1,0,0,1,0,0,0,1,0,0] = .region 4 (O56 [1,0,0,1,0,0,0,1,0,0]) false := by kernel_rfl
theorem r56_4 {x0 : Option Addr} {M : Mem} {call : CallM} {K : Array Value → Mem → R} :
    opsK Try.prog (fun _ => call) (O56 [1,0,0,1,0,0,0,1,0,0]) (O56 [1,0,0,1,0,0,0,1,0,0]).toList 0 #[.pointer x0,g1,g2,g3,g4,g5,g6,g7,g8,g9,g10,g11,g12,g13,g14,g15,g16,g17,g18,g19,g20,g21,g22,g23,g24,g25,g26,g27,g28,g29,g30,g31,g32,g33,g34,g35,g36,g37,g38,g39,g40,g41,g42,g43,g44,g45,g46,g47,g48,g49,g50,g51,g52,g53,g54,g55,g56,g57,g58,g59,g60] M K = (x0).bind fun a_1 => (M.slAt a_1.block a_1.off).bind fun s_2 => (appendP Try.prog #[37, 37] (.slice s_2.1 (s_2.2.1) (s_2.2.2)) (.slice (some ⟨2 * M.nb.size, 0, none⟩) 1 1) (M.new (.cells #[.int .u8 0] 5))).bind fun r_3 => (asS r_3.1).bind fun s_4 => (x0).bind fun a_5 => (r_3.2.put a_5.block a_5.off (.slice s_4.1 (s_4.2.1) (s_4.2.2))).bind fun M_6 => K #[.pointer x0,g1,g2,g3,g4,g5,g6,g7,g8,g9,g10,g11,g12,g13,g14,g15,g16,g17,.pointer x0,.pointer x0,.pointer (some a_1),.pointer (some ⟨a_1.block, a_1.off, none⟩),.slice s_2.1 (s_2.2.1) (s_2.2.2),.slice (some ⟨2 * M.nb.size, 0, none⟩) 1 1,.slice s_4.1 (s_4.2.1) (s_4.2.2),.pointer (some a_5),.pointer (some ⟨a_5.block, a_5.off, none⟩),g27,g28,g29,g30,g31,g32,g33,g34,g35,g36,g37,g38,g39,g40,g41,g42,g43,g44,g45,g46,g47,g48,g49,g50,g51,g52,g53,g54,g55,g56,g57,g58,g59,g60] M_6 := by kernel_rfl
theorem k56_17 : P56 [1,0,0,1,0,0,0,1,0,1] = .region 5 (O56 [1,0,0,1,0,0,0,1,0,1]) false := by kernel_rfl
theorem r56_5 {x0 : Option Addr} {M : Mem} {call : CallM} {K : Array Value → Mem → R} :
    opsK Try.prog (fun _ => call) (O56 [1,0,0,1,0,0,0,1,0,1]) (O56 [1,0,0,1,0,0,0,1,0,1]).toList 0 #[.pointer x0,g1,g2,g3,g4,g5,g6,g7,g8,g9,g10,g11,g12,g13,g14,g15,g16,g17,g18,g19,g20,g21,g22,g23,g24,g25,g26,g27,g28,g29,g30,g31,g32,g33,g34,g35,g36,g37,g38,g39,g40,g41,g42,g43,g44,g45,g46,g47,g48,g49,g50,g51,g52,g53,g54,g55,g56,g57,g58,g59,g60] M K = (x0).bind fun a_1 => (M.put a_1.block (a_1.off + 1) (.int .i64 8)).bind fun M_2 => K #[.pointer x0,g1,g2,g3,g4,g5,g6,g7,g8,g9,g10,g11,g12,g13,g14,g15,g16,g17,g18,g19,g20,g21,g22,g23,g24,g25,g26,.pointer x0,.pointer (some a_1),.pointer (some ⟨a_1.block, a_1.off + 1, none⟩),g30,g31,g32,g33,g34,g35,g36,g37,g38,g39,g40,g41,g42,g43,g44,g45,g46,g47,g48,g49,g50,g51,g52,g53,g54,g55,g56,g57,g58,g59,g60] M_2 := by kernel_rfl
theorem k56_18 : P56 [1,0,0,1,0,0,1] = .seq (P56 [1,0,0,1,0,0,1,0]) (P56 [1,0,0,1,0,0,1,1]) := by kernel_rfl
theorem k56_19 : P56 [1,0,0,1,0,0,1,0] = .region 6 (O56 [1,0,0,1,0,0,1,0]) false := by kernel_rfl
theorem r56_6 {x0 : Option Addr} {M : Mem} {call : CallM} {K : Array Value → Mem → R} :
    opsK Try.prog (fun _ => call) (O56 [1,0,0,1,0,0,1,0]) (O56 [1,0,0,1,0,0,1,0]).toList 0 #[.pointer x0,g1,g2,g3,g4,g5,g6,g7,g8,g9,g10,g11,g12,g13,g14,g15,g16,g17,g18,g19,g20,g21,g22,g23,g24,g25,g26,g27,g28,g29,g30,g31,g32,g33,g34,g35,g36,g37,g38,g39,g40,g41,g42,g43,g44,g45,g46,g47,g48,g49,g50,g51,g52,g53,g54,g55,g56,g57,g58,g59,g60] M K = (x0).bind fun a_1 => (M.intAt .i64 a_1.block (a_1.off + 1)).bind fun x_2 => (x0).bind fun a_3 => (M.put a_3.block (a_3.off + 1) (.int .i64 (IntKind.i64.wrap (x_2 - 1)))).bind fun M_4 => K #[.pointer x0,g1,g2,g3,g4,g5,g6,g7,g8,g9,g10,g11,g12,g13,g14,g15,g16,g17,g18,g19,g20,g21,g22,g23,g24,g25,g26,g27,g28,g29,.pointer x0,.pointer (some a_1),.pointer (some ⟨a_1.block, a_1.off + 1, none⟩),.int .i64 x_2,.int .i64 (IntKind.i64.wrap (x_2 - 1)),.pointer (some a_3),.pointer (some ⟨a_3.block, a_3.off + 1, none⟩),g37,g38,g39,g40,g41,g42,g43,g44,g45,g46,g47,g48,g49,g50,g51,g52,g53,g54,g55,g56,g57,g58,g59,g60] M_4 := by kernel_rfl
theorem k56_20 : P56 [1,0,0,1,0,0,1,1] = .region 7 (O56 [1,0,0,1,0,0,1,1]) true ∧ drawOk (O56 [1,0,0,1,0,0,1,1]) = true := ⟨by kernel_rfl, by kernel_rfl⟩
theorem r56_7 {x0 : Option Addr} {x1 x6 : Int} {M : Mem} {call : CallM} {K : Array Value → Mem → R} :
    opsI Try.prog (callAt call (O56 [1,0,0,1,0,0,1,1])) (O56 [1,0,0,1,0,0,1,1]) (ordOf (O56 [1,0,0,1,0,0,1,1])) [] #[.pointer x0,.int .u64 x1,g2,g3,g4,g5,.int .i64 x6,g7,g8,g9,g10,g11,g12,g13,g14,g15,g16,g17,g18,g19,g20,g21,g22,g23,g24,g25,g26,g27,g28,g29,g30,g31,g32,g33,g34,g35,g36,g37,g38,g39,g40,g41,g42,g43,g44,g45,g46,g47,g48,g49,g50,g51,g52,g53,g54,g55,g56,g57,g58,g59,g60] M K = (x0).bind fun a_1 => (M.slAt a_1.block a_1.off).bind fun s_2 => (x0).bind fun a_3 => (M.slAt a_3.block a_3.off).bind fun s_4 => (idxA s_2.1 (s_2.2.1) 1 (IntKind.i64.wrap (((s_4.2.1 : Int)) - 1))).bind fun a_5 => (M.intAt .u8 a_5.block a_5.off).bind fun x_6 => (binV Try.prog .shr 64 3 (.int .u64 x1) (.int .i64 x6)).bind fun v_7 => (asI .u64 v_7).bind fun x_8 => (x0).bind fun a_9 => (M.intAt .i64 a_9.block (a_9.off + 1)).bind fun x_10 => (binV Try.prog .shl 5 3 (.int .u8 (IntKind.u8.wrap (IntKind.u64.wrap (((BitVec.ofInt (IntKind.bits .u64) x_8 &&& BitVec.ofInt (IntKind.bits .u64) 1).toNat : Int))))) (.int .i64 x_10)).bind fun v_11 => (asI .u8 v_11).bind fun x_12 => (idxA s_2.1 (s_2.2.1) 1 (IntKind.i64.wrap (((s_4.2.1 : Int)) - 1))).bind fun a_13 => (M.put a_13.block a_13.off (.int .u8 (IntKind.u8.wrap (((BitVec.ofInt (IntKind.bits .u8) x_6 ||| BitVec.ofInt (IntKind.bits .u8) x_12).toNat : Int))))).bind fun M_14 => K #[.pointer x0,.int .u64 x1,g2,g3,g4,g5,.int .i64 x6,g7,g8,g9,g10,g11,g12,g13,g14,g15,g16,g17,g18,g19,g20,g21,g22,g23,g24,g25,g26,g27,g28,g29,g30,g31,g32,g33,g34,g35,g36,.pointer x0,.pointer (some a_1),.pointer (some ⟨a_1.block, a_1.off, none⟩),.slice s_2.1 (s_2.2.1) (s_2.2.2),.pointer x0,.pointer (some a_3),.pointer (some ⟨a_3.block, a_3.off, none⟩),.slice s_4.1 (s_4.2.1) (s_4.2.2),.int .i64 ((s_4.2.1 : Int)),.int .i64 (IntKind.i64.wrap (((s_4.2.1 : Int)) - 1)),.pointer (some a_5),.int .u8 x_6,.int .u64 x1,.int .i64 x6,.int .u64 x_8,.int .u64 (IntKind.u64.wrap (((BitVec.ofInt (IntKind.bits .u64) x_8 &&& BitVec.ofInt (IntKind.bits .u64) 1).toNat : Int))),.int .u8 (IntKind.u8.wrap (IntKind.u64.wrap (((BitVec.ofInt (IntKind.bits .u64) x_8 &&& BitVec.ofInt (IntKind.bits .u64) 1).toNat : Int)))),.pointer x0,.pointer (some a_9),.pointer (some ⟨a_9.block, a_9.off + 1, none⟩),.int .i64 x_10,.int .u8 x_12,.int .u8 (IntKind.u8.wrap (((BitVec.ofInt (IntKind.bits .u8) x_6 ||| BitVec.ofInt (IntKind.bits .u8) x_12).toNat : Int))),.pointer (some a_13)] M_14 := by kernel_rfl
theorem k56_21 : P56 [1,0,0,1,1] = .region 2 (O56 [1,0,0,1,1]) false := by kernel_rfl
theorem r56_2 {x6 : Int} {M : Mem} {call : CallM} {K : Array Value → Mem → R} :
    opsK Try.prog (fun _ => call) (O56 [1,0,0,1,1]) (O56 [1,0,0,1,1]).toList 0 #[g0,g1,g2,g3,g4,g5,.int .i64 x6,g7,g8,g9,g10,g11,g12,g13,g14,g15,g16,g17,g18,g19,g20,g21,g22,g23,g24,g25,g26,g27,g28,g29,g30,g31,g32,g33,g34,g35,g36,g37,g38,g39,g40,g41,g42,g43,g44,g45,g46,g47,g48,g49,g50,g51,g52,g53,g54,g55,g56,g57,g58,g59,g60] M K = K #[g0,g1,g2,g3,g4,g5,.int .i64 (IntKind.i64.wrap (x6 - 1)),g7,g8,g9,g10,.int .i64 x6,.int .i64 (IntKind.i64.wrap (x6 - 1)),g13,g14,g15,g16,g17,g18,g19,g20,g21,g22,g23,g24,g25,g26,g27,g28,g29,g30,g31,g32,g33,g34,g35,g36,g37,g38,g39,g40,g41,g42,g43,g44,g45,g46,g47,g48,g49,g50,g51,g52,g53,g54,g55,g56,g57,g58,g59,g60] M := by kernel_rfl
theorem k56_22 : P56 [1,0,0,1,0,0,0,1,1] = .skip := by kernel_rfl
theorem k56_23 : P56 [1,0,0,0,1,1] = .exit 0 := by kernel_rfl
theorem e56 {M : Mem} : finish Try.prog Try.f56 #[g0,g1,g2,g3,g4,g5,g6,g7,g8,g9,g10,g11,g12,g13,g14,g15,g16,g17,g18,g19,g20,g21,g22,g23,g24,g25,g26,g27,g28,g29,g30,g31,g32,g33,g34,g35,g36,g37,g38,g39,g40,g41,g42,g43,g44,g45,g46,g47,g48,g49,g50,g51,g52,g53,g54,g55,g56,g57,g58,g59,g60] M = some (.tuple #[], M) := by kernel_rfl
noncomputable def S56_1 : List Item := [.code (P56 [1,0,0]), .inLoop (P56 [1,0,0]), .inBlock 0]
def A56_1 (x0 : Option Addr) (x1 x6 : Int) (M : Mem) (Q : Value → Mem → Prop) : Prop := ∀ (g2 g3 g4 g5 g7 g8 g9 g10 g11 g12 g13 g14 g15 g16 g17 g18 g19 g20 g21 g22 g23 g24 g25 g26 g27 g28 g29 g30 g31 g32 g33 g34 g35 g36 g37 g38 g39 g40 g41 g42 g43 g44 g45 g46 g47 g48 g49 g50 g51 g52 g53 g54 g55 g56 g57 g58 g59 g60 : Value), Rn Try.prog Try.f56 S56_1 #[.pointer x0, .int .u64 x1, g2, g3, g4, g5, .int .i64 x6, g7, g8, g9, g10, g11, g12, g13, g14, g15, g16, g17, g18, g19, g20, g21, g22, g23, g24, g25, g26, g27, g28, g29, g30, g31, g32, g33, g34, g35, g36, g37, g38, g39, g40, g41, g42, g43, g44, g45, g46, g47, g48, g49, g50, g51, g52, g53, g54, g55, g56, g57, g58, g59, g60] M Q
theorem w56_0 {x0 : Option Addr} {x1 x2 : Int} {M : Mem} {Q : Value → Mem → Prop} (H :
    A56_1 x0 x1 (IntKind.i64.wrap (x2 - 1)) M Q) :
    Cn Try.prog 56 #[.pointer x0, .int .u64 x1, .int .i64 x2] M Q := by
  refine Cn.of b56 d56 t56 ?_
  refine Rn.seq k56_0 (Rn.region k56_1 (fun call K => r56_0) (Rch.leaf (Rn.block k56_2 (Rn.loop k56_3 ?_))))
  exact H _ _ _ _ _ _ _ _ _ _ _ _ _ _ _ _ _ _ _ _ _ _ _ _ _ _ _ _ _ _ _ _ _ _ _ _ _ _ _ _ _ _ _ _ _ _ _ _ _ _ _ _ _ _ _ _ _ _

theorem w56_1 {x0 : Option Addr} {x1 x6 : Int} {M : Mem} {Q : Value → Mem → Prop} (H :
    ((x6 ≥ 0 →
     ∃ a1', x0 = some a1' ∧
     ∃ x2', M.intAt .i64 a1'.block (a1'.off + 1) = some x2' ∧
     ((x2' = 0 →
      ∃ a3', x0 = some a3' ∧
      ∃ s4', M.slAt a3'.block a3'.off = some s4' ∧
      ∃ r5', appendP Try.prog #[37, 37] (.slice s4'.1 (s4'.2.1) (s4'.2.2)) (.slice (some ⟨2 * M.nb.size, 0, none⟩) 1 1) (M.new (.cells #[.int .u8 0] 5)) = some r5' ∧
      ∃ s6', asS r5'.1 = some s6' ∧
      ∃ a7', x0 = some a7' ∧
      ∃ M8', r5'.2.put a7'.block a7'.off (.slice s6'.1 (s6'.2.1) (s6'.2.2)) = some M8' ∧
      ∃ a9', x0 = some a9' ∧
      ∃ M10', M8'.put a9'.block (a9'.off + 1) (.int .i64 8) = some M10' ∧
      ∃ a11', x0 = some a11' ∧
      ∃ x12', M10'.intAt .i64 a11'.block (a11'.off + 1) = some x12' ∧
      ∃ a13', x0 = some a13' ∧
      ∃ M14', M10'.put a13'.block (a13'.off + 1) (.int .i64 (IntKind.i64.wrap (x12' - 1))) = some M14' ∧
      ∃ a15', x0 = some a15' ∧
      ∃ s16', M14'.slAt a15'.block a15'.off = some s16' ∧
      ∃ a17', x0 = some a17' ∧
      ∃ s18', M14'.slAt a17'.block a17'.off = some s18' ∧
      ∃ a19', idxA s16'.1 (s16'.2.1) 1 (IntKind.i64.wrap (((s18'.2.1 : Int)) - 1)) = some a19' ∧
      ∃ x20', M14'.intAt .u8 a19'.block a19'.off = some x20' ∧
      ∃ v21', binV Try.prog .shr 64 3 (.int .u64 x1) (.int .i64 x6) = some v21' ∧
      ∃ x22', asI .u64 v21' = some x22' ∧
      ∃ a23', x0 = some a23' ∧
      ∃ x24', M14'.intAt .i64 a23'.block (a23'.off + 1) = some x24' ∧
      ∃ v25', binV Try.prog .shl 5 3 (.int .u8 (IntKind.u8.wrap (IntKind.u64.wrap (((BitVec.ofInt (IntKind.bits .u64) x22' &&& BitVec.ofInt (IntKind.bits .u64) 1).toNat : Int))))) (.int .i64 x24') = some v25' ∧
      ∃ x26', asI .u8 v25' = some x26' ∧
      ∃ a27', idxA s16'.1 (s16'.2.1) 1 (IntKind.i64.wrap (((s18'.2.1 : Int)) - 1)) = some a27' ∧
      ∃ M28', M14'.put a27'.block a27'.off (.int .u8 (IntKind.u8.wrap (((BitVec.ofInt (IntKind.bits .u8) x20' ||| BitVec.ofInt (IntKind.bits .u8) x26').toNat : Int)))) = some M28' ∧
      A56_1 x0 x1 (IntKind.i64.wrap (x6 - 1)) M28' Q) ∧
      (x2' ≠ 0 →
      ∃ a29', x0 = some a29' ∧
      ∃ x30', M.intAt .i64 a29'.block (a29'.off + 1) = some x30' ∧
      ∃ a31', x0 = some a31' ∧
      ∃ M32', M.put a31'.block (a31'.off + 1) (.int .i64 (IntKind.i64.wrap (x30' - 1))) = some M32' ∧
      ∃ a33', x0 = some a33' ∧
      ∃ s34', M32'.slAt a33'.block a33'.off = some s34' ∧
      ∃ a35', x0 = some a35' ∧
      ∃ s36', M32'.slAt a35'.block a35'.off = some s36' ∧
      ∃ a37', idxA s34'.1 (s34'.2.1) 1 (IntKind.i64.wrap (((s36'.2.1 : Int)) - 1)) = some a37' ∧
      ∃ x38', M32'.intAt .u8 a37'.block a37'.off = some x38' ∧
      ∃ v39', binV Try.prog .shr 64 3 (.int .u64 x1) (.int .i64 x6) = some v39' ∧
      ∃ x40', asI .u64 v39' = some x40' ∧
      ∃ a41', x0 = some a41' ∧
      ∃ x42', M32'.intAt .i64 a41'.block (a41'.off + 1) = some x42' ∧
      ∃ v43', binV Try.prog .shl 5 3 (.int .u8 (IntKind.u8.wrap (IntKind.u64.wrap (((BitVec.ofInt (IntKind.bits .u64) x40' &&& BitVec.ofInt (IntKind.bits .u64) 1).toNat : Int))))) (.int .i64 x42') = some v43' ∧
      ∃ x44', asI .u8 v43' = some x44' ∧
      ∃ a45', idxA s34'.1 (s34'.2.1) 1 (IntKind.i64.wrap (((s36'.2.1 : Int)) - 1)) = some a45' ∧
      ∃ M46', M32'.put a45'.block a45'.off (.int .u8 (IntKind.u8.wrap (((BitVec.ofInt (IntKind.bits .u8) x38' ||| BitVec.ofInt (IntKind.bits .u8) x44').toNat : Int)))) = some M46' ∧
      A56_1 x0 x1 (IntKind.i64.wrap (x6 - 1)) M46' Q))) ∧
     (¬ (x6 ≥ 0) →
     Q (.tuple #[]) M))) :
    A56_1 x0 x1 x6 M Q := by
  intro g2 g3 g4 g5 g7 g8 g9 g10 g11 g12 g13 g14 g15 g16 g17 g18 g19 g20 g21 g22 g23 g24 g25 g26 g27 g28 g29 g30 g31 g32 g33 g34 g35 g36 g37 g38 g39 g40 g41 g42 g43 g44 g45 g46 g47 g48 g49 g50 g51 g52 g53 g54 g55 g56 g57 g58 g59 g60
  refine Rn.seq k56_4 (Rn.seq k56_5 (Rn.region k56_6 (fun call K => r56_1) (Rch.leaf ?_)))
  refine Rn.cnd (v := decide (x6 ≥ 0)) ⟨c56_7, rfl, by kernel_rfl⟩ (fun h => ?_) (fun h => ?_)
  · replace H := H.1 (of_decide_eq_true h)
    refine Rn.skip k56_8 (Rn.seq k56_9 (Rn.block k56_10 (Rn.seq k56_11 (Rn.seq k56_12 (Rn.region k56_13 (fun call K => r56_3) (Rch.ex H fun a1' H => Rch.ex H fun x2' H => Rch.leaf ?_))))))
    refine Rn.cnd (v := x2' == 0) ⟨c56_14, rfl, by kernel_rfl⟩ (fun h => ?_) (fun h => ?_)
    · replace H := H.1 (eq_of_beq h)
      refine Rn.seq k56_15 (Rn.region k56_16 (fun call K => r56_4) (Rch.ex H fun a3' H => Rch.ex H fun s4' H => Rch.ex H fun r5' H => Rch.ex H fun s6' H => Rch.ex H fun a7' H => Rch.ex H fun M8' H => Rch.leaf (Rn.region k56_17 (fun call K => r56_5) (Rch.ex H fun a9' H => Rch.ex H fun M10' H => ?_))))
      refine Rch.leaf (Rn.seq k56_18 (Rn.region k56_19 (fun call K => r56_6) (Rch.ex H fun a11' H => Rch.ex H fun x12' H => Rch.ex H fun a13' H => Rch.ex H fun M14' H => Rch.leaf (Rn.regionD k56_20 (fun call K => r56_7) (Rch.ex H fun a15' H => Rch.ex H fun s16' H => Rch.ex H fun a17' H => ?_)))))
      refine Rch.ex H fun s18' H => Rch.ex H fun a19' H => Rch.ex H fun x20' H => Rch.ex H fun v21' H => Rch.ex H fun x22' H => Rch.ex H fun a23' H => Rch.ex H fun x24' H => Rch.ex H fun v25' H => Rch.ex H fun x26' H => Rch.ex H fun a27' H => Rch.ex H fun M28' H => Rch.leaf ?_
      refine Rn.blk (Rn.region k56_21 (fun call K => r56_2) (Rch.leaf (Rn.lp ?_)))
      exact H _ _ _ _ _ _ _ _ _ _ _ _ _ _ _ _ _ _ _ _ _ _ _ _ _ _ _ _ _ _ _ _ _ _ _ _ _ _ _ _ _ _ _ _ _ _ _ _ _ _ _ _ _ _ _ _ _ _
    · replace H := H.2 (ne_of_beq_false h)
      refine Rn.skip k56_22 (Rn.seq k56_18 (Rn.region k56_19 (fun call K => r56_6) (Rch.ex H fun a29' H => Rch.ex H fun x30' H => Rch.ex H fun a31' H => Rch.ex H fun M32' H => Rch.leaf (Rn.regionD k56_20 (fun call K => r56_7) (Rch.ex H fun a33' H => Rch.ex H fun s34' H => Rch.ex H fun a35' H => ?_)))))
      refine Rch.ex H fun s36' H => Rch.ex H fun a37' H => Rch.ex H fun x38' H => Rch.ex H fun v39' H => Rch.ex H fun x40' H => Rch.ex H fun a41' H => Rch.ex H fun x42' H => Rch.ex H fun v43' H => Rch.ex H fun x44' H => Rch.ex H fun a45' H => Rch.ex H fun M46' H => Rch.leaf ?_
      refine Rn.blk (Rn.region k56_21 (fun call K => r56_2) (Rch.leaf (Rn.lp ?_)))
      exact H _ _ _ _ _ _ _ _ _ _ _ _ _ _ _ _ _ _ _ _ _ _ _ _ _ _ _ _ _ _ _ _ _ _ _ _ _ _ _ _ _ _ _ _ _ _ _ _ _ _ _ _ _ _ _ _ _ _
  · replace H := H.2 (of_decide_eq_false h)
    refine Rn.exit k56_23 rfl ?_
    exact Rn.fin e56 H


/-! ### (*zoetrope/bits.Writer).Fixed: function 32 -/
noncomputable abbrev P32 (p : List Nat) : Code := subC (codeOf Try.f32) p
noncomputable abbrev O32 (p : List Nat) : Array Oper := opsOf (subC (codeOf Try.f32) p)
theorem b32 : Try.prog.funcs[32]? = some Try.f32 ∧ (Orc.tab Try.prog).lookup 32 = none := ⟨by kernel_rfl, by kernel_rfl⟩
theorem d32 : Try.f32.body = some (P32 []) := by kernel_rfl
theorem t32 {x0 : Option Addr} {x1 x2 : Int} : #[.pointer x0,.int .u32 x1,.int .i64 x2] ++ Array.replicate (Try.f32.ntmps - (#[.pointer x0,.int .u32 x1,.int .i64 x2] : Array Value).size) undef = #[.pointer x0,.int .u32 x1,.int .i64 x2,undef,undef,undef,undef,undef,undef,undef,undef,undef,undef,undef,undef,undef,undef,undef,undef,undef,undef,undef,undef,undef,undef,undef,undef,undef,undef] := by kernel_rfl
theorem k32_0 : P32 [] = .seq (P32 [0]) (P32 [1]) := by kernel_rfl
theorem k32_1 : P32 [0] = .region 0 (O32 [0]) false := by kernel_rfl
theorem r32_0 {M : Mem} {call : CallM} {K : Array Value → Mem → R} :
    opsK Try.prog (fun _ => call) (O32 [0]) (O32 [0]).toList 0 #[g0,g1,g2,g3,g4,g5,g6,g7,g8,g9,g10,g11,g12,g13,g14,g15,g16,g17,g18,g19,g20,g21,g22,g23,g24,g25,g26,g27,g28] M K = K #[g0,g1,g2,g3,g4,g5,.int .i64 0,g7,g8,g9,g10,g11,g12,g13,g14,g15,g16,g17,g18,g19,g20,g21,g22,g23,g24,g25,g26,g27,g28] M := by kernel_rfl
theorem k32_2 : P32 [1] = .seq (P32 [1,0]) (P32 [1,1]) := by kernel_rfl
theorem k32_3 : P32 [1,0] = .block 0 (P32 [1,0,0]) := by kernel_rfl
theorem k32_4 : P32 [1,0,0] = .seq (P32 [1,0,0,0]) (P32 [1,0,0,1]) := by kernel_rfl
theorem k32_5 : P32 [1,0,0,0] = .region 1 (O32 [1,0,0,0]) false := by kernel_rfl
theorem r32_1 {x0 : Option Addr} {M : Mem} {call : CallM} {K : Array Value → Mem → R} :
    opsK Try.prog (fun _ => call) (O32 [1,0,0,0]) (O32 [1,0,0,0]).toList 0 #[.pointer x0,g1,g2,g3,g4,g5,g6,g7,g8,g9,g10,g11,g12,g13,g14,g15,g16,g17,g18,g19,g20,g21,g22,g23,g24,g25,g26,g27,g28] M K = (call 43 #[.pointer x0] M).bind fun r_1 => (asB r_1.1).bind fun b_2 => K #[.pointer x0,g1,g2,g3,g4,g5,g6,.bool (!b_2),.pointer x0,.bool b_2,.bool (!b_2),g11,g12,g13,g14,g15,g16,g17,g18,g19,g20,g21,g22,g23,g24,g25,g26,g27,g28] r_1.2 := by kernel_rfl
theorem c32_6 : P32 [1,0,0,1] = .cond (.tmp 7) (P32 [1,0,0,1,0]) (P32 [1,0,0,1,1]) := by kernel_rfl
theorem k32_7 : P32 [1,0,0,1,0] = .seq (P32 [1,0,0,1,0,0]) (P32 [1,0,0,1,0,1]) := by kernel_rfl
theorem k32_8 : P32 [1,0,0,1,0,0] = .region 2 (O32 [1,0,0,1,0,0]) false := by kernel_rfl
theorem r32_2 {M : Mem} {call : CallM} {K : Array Value → Mem → R} :
    opsK Try.prog (fun _ => call) (O32 [1,0,0,1,0,0]) (O32 [1,0,0,1,0,0]).toList 0 #[g0,g1,g2,g3,g4,g5,g6,g7,g8,g9,g10,g11,g12,g13,g14,g15,g16,g17,g18,g19,g20,g21,g22,g23,g24,g25,g26,g27,g28] M K = K #[g0,g1,g2,g3,g4,g5,.int .i64 1,g7,g8,g9,g10,g11,g12,g13,g14,g15,g16,g17,g18,g19,g20,g21,g22,g23,g24,g25,g26,g27,g28] M := by kernel_rfl
theorem k32_9 : P32 [1,0,0,1,0,1] = .ret := by kernel_rfl
theorem e32 {M : Mem} : finish Try.prog Try.f32 #[g0,g1,g2,g3,g4,g5,g6,g7,g8,g9,g10,g11,g12,g13,g14,g15,g16,g17,g18,g19,g20,g21,g22,g23,g24,g25,g26,g27,g28] M = some (g6, M) := by kernel_rfl
theorem k32_11 : P32 [1,0,0,1,1] = .seq (P32 [1,0,0,1,1,0]) (P32 [1,0,0,1,1,1]) := by kernel_rfl
theorem k32_12 : P32 [1,0,0,1,1,0] = .region 3 (O32 [1,0,0,1,1,0]) false := by kernel_rfl
theorem r32_3 {x1 x2 : Int} {M : Mem} {call : CallM} {K : Array Value → Mem → R} :
    opsK Try.prog (fun _ => call) (O32 [1,0,0,1,1,0]) (O32 [1,0,0,1,1,0]).toList 0 #[g0,.int .u32 x1,.int .i64 x2,g3,g4,g5,g6,g7,g8,g9,g10,g11,g12,g13,g14,g15,g16,g17,g18,g19,g20,g21,g22,g23,g24,g25,g26,g27,g28] M K = withK (fun w11 w14 w15 w16 w17 w18 w19 w20 w21 w22 w23 M => K #[g0,.int .u32 x1,.int .i64 x2,g3,g4,g5,g6,g7,g8,g9,g10,w11,.int .i64 x2,.bool (decide (x2 < 0)),w14,w15,w16,w17,w18,w19,w20,w21,w22,w23,g24,g25,g26,g27,g28] M) fun k => cond (decide (x2 < 0)) (k (.bool true) (.bool true) undef undef (.bool true) (.bool true) undef undef undef undef (.bool true) M) (cond (decide (x2 > 32)) (k (.bool true) (.bool false) (.int .i64 x2) (.bool (decide (x2 > 32))) (.bool (decide (x2 > 32))) (.bool true) undef undef undef undef (.bool true) M) ((call 55 #[.int .u32 x1] M).bind fun r_1 => (asI .i64 r_1.1).bind fun x_2 => k (.bool (decide (x_2 > x2))) (.bool false) (.int .i64 x2) (.bool (decide (x2 > 32))) (.bool (decide (x2 > 32))) (.bool false) (.int .u32 x1) (.int .i64 x_2) (.int .i64 x2) (.bool (decide (x_2 > x2))) (.bool (decide (x_2 > x2))) r_1.2)) := by kernel_rfl
theorem c32_13 : P32 [1,0,0,1,1,1] = .cond (.tmp 11) (P32 [1,0,0,1,1,1,0]) (P32 [1,0,0,1,1,1,1]) := by kernel_rfl
theorem k32_14 : P32 [1,0,0,1,1,1,0] = .seq (P32 [1,0,0,1,1,1,0,0]) (P32 [1,0,0,1,1,1,0,1]) := by kernel_rfl
theorem k32_15 : P32 [1,0,0,1,1,1,0,0] = .region 4 (O32 [1,0,0,1,1,1,0,0]) false := by kernel_rfl
theorem r32_4 {M : Mem} {call : CallM} {K : Array Value → Mem → R} :
    opsK Try.prog (fun _ => call) (O32 [1,0,0,1,1,1,0,0]) (O32 [1,0,0,1,1,1,0,0]).toList 0 #[g0,g1,g2,g3,g4,g5,g6,g7,g8,g9,g10,g11,g12,g13,g14,g15,g16,g17,g18,g19,g20,g21,g22,g23,g24,g25,g26,g27,g28] M K = K #[g0,g1,g2,g3,g4,g5,.int .i64 2,g7,g8,g9,g10,g11,g12,g13,g14,g15,g16,g17,g18,g19,g20,g21,g22,g23,g24,g25,g26,g27,g28] M := by kernel_rfl
theorem k32_16 : P32 [1,0,0,1,1,1,0,1] = .ret := by kernel_rfl
theorem k32_17 : P32 [1,0,0,1,1,1,1] = .skip := by kernel_rfl
theorem k32_18 : P32 [1,1] = .seq (P32 [1,1,0]) (P32 [1,1,1]) := by kernel_rfl
theorem k32_19 : P32 [1,1,0] = .region 5 (O32 [1,1,0]) false := by kernel_rfl
theorem r32_5 {x0 : Option Addr} {x1 x2 : Int} {M : Mem} {call : CallM} {K : Array Value → Mem → R} :
    opsK Try.prog (fun _ => call) (O32 [1,1,0]) (O32 [1,1,0]).toList 0 #[.pointer x0,.int .u32 x1,.int .i64 x2,g3,g4,g5,g6,g7,g8,g9,g10,g11,g12,g13,g14,g15,g16,g17,g18,g19,g20,g21,g22,g23,g24,g25,g26,g27,g28] M K = (call 56 #[.pointer x0, .int .u64 (IntKind.u64.wrap (x1)), .int .i64 x2] M).bind fun r_1 => K #[.pointer x0,.int .u32 x1,.int .i64 x2,g3,g4,g5,g6,g7,g8,g9,g10,g11,g12,g13,g14,g15,g16,g17,g18,g19,g20,g21,g22,g23,.pointer x0,.int .u32 x1,.int .u64 (IntKind.u64.wrap (x1)),.int .i64 x2,r_1.1] r_1.2 := by kernel_rfl
theorem k32_20 : P32 [1,1,1] = .seq (P32 [1,1,1,0]) (P32 [1,1,1,1]) := by kernel_rfl
theorem k32_21 : P32 [1,1,1,0] = .region 6 (O32 [1,1,1,0]) false := by kernel_rfl
theorem r32_6 {M : Mem} {call : CallM} {K : Array Value → Mem → R} :
    opsK Try.prog (fun _ => call) (O32 [1,1,1,0]) (O32 [1,1,1,0]).toList 0 #[g0,g1,g2,g3,g4,g5,g6,g7,g8,g9,g10,g11,g12,g13,g14,g15,g16,g17,g18,g19,g20,g21,g22,g23,g24,g25,g26,g27,g28] M K = K #[g0,g1,g2,g3,g4,g5,.int .i64 0,g7,g8,g9,g10,g11,g12,g13,g14,g15,g16,g17,g18,g19,g20,g21,g22,g23,g24,g25,g26,g27,g28] M := by kernel_rfl
theorem k32_22 : P32 [1,1,1,1] = .ret := by kernel_rfl
noncomputable def S32_1 : List Item := [.code (P32 [1,0,0,1,1,1]), .inBlock 0, .code (P32 [1,1])]
def A32_1 (x0 : Option Addr) (x1 x2 : Int) (x11 : Bool) (M : Mem) (Q : Value → Mem → Prop) : Prop := ∀ (g3 g4 g5 g6 g7 g8 g9 g10 g12 g13 g14 g15 g16 g17 g18 g19 g20 g21 g22 g23 g24 g25 g26 g27 g28 : Value), Rn Try.prog Try.f32 S32_1 #[.pointer x0, .int .u32 x1, .int .i64 x2, g3, g4, g5, g6, g7, g8, g9, g10, .bool x11, g12, g13, g14, g15, g16, g17, g18, g19, g20, g21, g22, g23, g24, g25, g26, g27, g28] M Q
theorem w32_0 {x0 : Option Addr} {x1 x2 : Int} {M : Mem} {Q : Value → Mem → Prop} (H :
    Cn Try.prog 43 #[.pointer x0] M fun v1' N1' =>
     ∃ b2', asB v1' = some b2' ∧
     (((!b2') = true →
      Q (.int .i64 1) N1') ∧
      ((!b2') = false →
      ((x2 < 0 →
       A32_1 x0 x1 x2 true N1' Q) ∧
       (¬ (x2 < 0) →
       ((x2 > 32 →
        A32_1 x0 x1 x2 true N1' Q) ∧
        (¬ (x2 > 32) →
        Cn Try.prog 55 #[.int .u32 x1] N1' fun v3' N3' =>
         ∃ x4', asI .i64 v3' = some x4' ∧
         A32_1 x0 x1 x2 (decide (x4' > x2)) N3' Q))))))) :
    Cn Try.prog 32 #[.pointer x0, .int .u32 x1, .int .i64 x2] M Q := by
  refine Cn.of b32 d32 t32 ?_
  refine Rn.seq k32_0 (Rn.region k32_1 (fun call K => r32_0) (Rch.leaf (Rn.seq k32_2 (Rn.block k32_3 (Rn.seq k32_4 (Rn.region k32_5 (fun call K => r32_1) (Rch.call H fun v1' N1' H => Rch.ex H fun b2' H => Rch.leaf ?_)))))))
  refine Rn.cnd (v := !b2') ⟨c32_6, rfl, by kernel_rfl⟩ (fun h => ?_) (fun h => ?_)
  · replace H := H.1 (h)
    refine Rn.seq k32_7 (Rn.region k32_8 (fun call K => r32_2) (Rch.leaf ?_))
    exact Rn.ret k32_9 e32 H
  · replace H := H.2 (h)
    refine Rn.seq k32_11 (Rn.region k32_12 (fun call K => r32_3) ?_)
    refine Rch.cB (fun h => ?_) (fun h => ?_)
    · replace H := H.1 (of_decide_eq_true h)
      refine Rch.leaf ?_
      exact H _ _ _ _ _ _ _ _ _ _ _ _ _ _ _ _ _ _ _ _ _ _ _ _ _
    · replace H := H.2 (of_decide_eq_false h)
      refine Rch.cB (fun h => ?_) (fun h => ?_)
      · replace H := H.1 (of_decide_eq_true h)
        refine Rch.leaf ?_
        exact H _ _ _ _ _ _ _ _ _ _ _ _ _ _ _ _ _ _ _ _ _ _ _ _ _
      · replace H := H.2 (of_decide_eq_false h)
        refine Rch.call H fun v3' N3' H => Rch.ex H fun x4' H => Rch.leaf ?_
        exact H _ _ _ _ _ _ _ _ _ _ _ _ _ _ _ _ _ _ _ _ _ _ _ _ _

theorem w32_1 {x0 : Option Addr} {x1 x2 : Int} {x11 : Bool} {M : Mem} {Q : Value → Mem → Prop} (H :
    ((x11 = true →
     Q (.int .i64 2) M) ∧
     (x11 = false →
     Cn Try.prog 56 #[.pointer x0, .int .u64 (IntKind.u64.wrap (x1)), .int .i64 x2] M fun v5' N5' =>
      Q (.int .i64 0) N5'))) :
    A32_1 x0 x1 x2 x11 M Q := by
  intro g3 g4 g5 g6 g7 g8 g9 g10 g12 g13 g14 g15 g16 g17 g18 g19 g20 g21 g22 g23 g24 g25 g26 g27 g28
  refine Rn.cnd (v := x11) ⟨c32_13, rfl, by kernel_rfl⟩ (fun h => ?_) (fun h => ?_)
  · replace H := H.1 (h)
    refine Rn.seq k32_14 (Rn.region k32_15 (fun call K => r32_4) (Rch.leaf ?_))
    exact Rn.ret k32_16 e32 H
  · replace H := H.2 (h)
    refine Rn.skip k32_17 (Rn.blk (Rn.seq k32_18 (Rn.region k32_19 (fun call K => r32_5) (Rch.call H fun v5' N5' H => Rch.leaf (Rn.seq k32_20 (Rn.region k32_21 (fun call K => r32_6) (Rch.leaf ?_)))))))
    exact Rn.ret k32_22 e32 H


/-! ### (*zoetrope/bits.Writer).Signed: function 33 -/
noncomputable abbrev P33 (p : List Nat) : Code := subC (codeOf Try.f33) p
noncomputable abbrev O33 (p : List Nat) : Array Oper := opsOf (subC (codeOf Try.f33) p)
theorem b33 : Try.prog.funcs[33]? = some Try.f33 ∧ (Orc.tab Try.prog).lookup 33 = none := ⟨by kernel_rfl, by kernel_rfl⟩
theorem d33 : Try.f33.body = some (P33 []) := by kernel_rfl
theorem t33 {x0 : Option Addr} {x1 x2 : Int} : #[.pointer x0,.int .i32 x1,.int .i64 x2] ++ Array.replicate (Try.f33.ntmps - (#[.pointer x0,.int .i32 x1,.int .i64 x2] : Array Value).size) undef = #[.pointer x0,.int .i32 x1,.int .i64 x2,undef,undef,undef,undef,undef,undef,undef,undef,undef,undef,undef,undef,undef,undef,undef,undef,undef,undef,undef,undef,undef,undef,undef,undef,undef,undef,undef,undef,undef,undef,undef,undef,undef,undef,undef,undef,undef,undef] := by kernel_rfl
theorem k33_0 : P33 [] = .seq (P33 [0]) (P33 [1]) := by kernel_rfl
theorem k33_1 : P33 [0] = .region 0 (O33 [0]) false := by kernel_rfl
theorem r33_0 {M : Mem} {call : CallM} {K : Array Value → Mem → R} :
    opsK Try.prog (fun _ => call) (O33 [0]) (O33 [0]).toList 0 #[g0,g1,g2,g3,g4,g5,g6,g7,g8,g9,g10,g11,g12,g13,g14,g15,g16,g17,g18,g19,g20,g21,g22,g23,g24,g25,g26,g27,g28,g29,g30,g31,g32,g33,g34,g35,g36,g37,g38,g39,g40] M K = K #[g0,g1,g2,g3,g4,g5,.int .i64 0,g7,g8,g9,g10,g11,g12,g13,g14,g15,g16,g17,g18,g19,g20,g21,g22,g23,g24,g25,g26,g27,g28,g29,g30,g31,g32,g33,g34,g35,g36,g37,g38,g39,g40] M := by kernel_rfl
theorem k33_2 : P33 [1] = .seq (P33 [1,0]) (P33 [1,1]) := by kernel_rfl
theorem k33_3 : P33 [1,0] = .seq (P33 [1,0,0]) (P33 [1,0,1]) := by kernel_rfl
theorem k33_4 : P33 [1,0,0] = .region 1 (O33 [1,0,0]) false := by kernel_rfl
theorem r33_1 {x0 : Option Addr} {M : Mem} {call : CallM} {K : Array Value → Mem → R} :
    opsK Try.prog (fun _ => call) (O33 [1,0,0]) (O33 [1,0,0]).toList 0 #[.pointer x0,g1,g2,g3,g4,g5,g6,g7,g8,g9,g10,g11,g12,g13,g14,g15,g16,g17,g18,g19,g20,g21,g22,g23,g24,g25,g26,g27,g28,g29,g30,g31,g32,g33,g34,g35,g36,g37,g38,g39,g40] M K = (call 43 #[.pointer x0] M).bind fun r_1 => (asB r_1.1).bind fun b_2 => K #[.pointer x0,g1,g2,g3,g4,g5,g6,g7,g8,.pointer x0,.bool b_2,.bool (!b_2),g12,g13,g14,g15,g16,g17,g18,g19,g20,g21,g22,g23,g24,g25,g26,g27,g28,g29,g30,g31,g32,g33,g34,g35,g36,g37,g38,g39,g40] r_1.2 := by kernel_rfl
theorem c33_5 : P33 [1,0,1] = .cond (.tmp 11) (P33 [1,0,1,0]) (P33 [1,0,1,1]) := by kernel_rfl
theorem k33_6 : P33 [1,0,1,0] = .seq (P33 [1,0,1,0,0]) (P33 [1,0,1,0,1]) := by kernel_rfl
theorem k33_7 : P33 [1,0,1,0,0] = .region 2 (O33 [1,0,1,0,0]) false := by kernel_rfl
theorem r33_2 {M : Mem} {call : CallM} {K : Array Value → Mem → R} :
    opsK Try.prog (fun _ => call) (O33 [1,0,1,0,0]) (O33 [1,0,1,0,0]).toList 0 #[g0,g1,g2,g3,g4,g5,g6,g7,g8,g9,g10,g11,g12,g13,g14,g15,g16,g17,g18,g19,g20,g21,g22,g23,g24,g25,g26,g27,g28,g29,g30,g31,g32,g33,g34,g35,g36,g37,g38,g39,g40] M K = K #[g0,g1,g2,g3,g4,g5,.int .i64 1,g7,g8,g9,g10,g11,g12,g13,g14,g15,g16,g17,g18,g19,g20,g21,g22,g23,g24,g25,g26,g27,g28,g29,g30,g31,g32,g33,g34,g35,g36,g37,g38,g39,g40] M := by kernel_rfl
theorem k33_8 : P33 [1,0,1,0,1] = .ret := by kernel_rfl
theorem e33 {M : Mem} : finish Try.prog Try.f33 #[g0,g1,g2,g3,g4,g5,g6,g7,g8,g9,g10,g11,g12,g13,g14,g15,g16,g17,g18,g19,g20,g21,g22,g23,g24,g25,g26,g27,g28,g29,g30,g31,g32,g33,g34,g35,g36,g37,g38,g39,g40] M = some (g6, M) := by kernel_rfl
theorem k33_10 : P33 [1,0,1,1] = .skip := by kernel_rfl
theorem k33_11 : P33 [1,1] = .seq (P33 [1,1,0]) (P33 [1,1,1]) := by kernel_rfl
theorem k33_12 : P33 [1,1,0] = .region 3 (O33 [1,1,0]) false := by kernel_rfl
theorem r33_3 {x1 : Int} {M : Mem} {call : CallM} {K : Array Value → Mem → R} :
    opsK Try.prog (fun _ => call) (O33 [1,1,0]) (O33 [1,1,0]).toList 0 #[g0,.int .i32 x1,g2,g3,g4,g5,g6,g7,g8,g9,g10,g11,g12,g13,g14,g15,g16,g17,g18,g19,g20,g21,g22,g23,g24,g25,g26,g27,g28,g29,g30,g31,g32,g33,g34,g35,g36,g37,g38,g39,g40] M K = K #[g0,.int .i32 x1,g2,g3,g4,g5,g6,.int .u64 (IntKind.u64.wrap (x1)),.int .u64 0,g9,g10,g11,.int .i32 x1,.int .u64 (IntKind.u64.wrap (x1)),g14,g15,g16,g17,g18,g19,g20,g21,g22,g23,g24,g25,g26,g27,g28,g29,g30,g31,g32,g33,g34,g35,g36,g37,g38,g39,g40] M := by kernel_rfl
theorem k33_13 : P33 [1,1,1] = .seq (P33 [1,1,1,0]) (P33 [1,1,1,1]) := by kernel_rfl
theorem k33_14 : P33 [1,1,1,0] = .seq (P33 [1,1,1,0,0]) (P33 [1,1,1,0,1]) := by kernel_rfl
theorem k33_15 : P33 [1,1,1,0,0] = .region 4 (O33 [1,1,1,0,0]) false := by kernel_rfl
theorem r33_4 {x1 : Int} {M : Mem} {call : CallM} {K : Array Value → Mem → R} :
    opsK Try.prog (fun _ => call) (O33 [1,1,1,0,0]) (O33 [1,1,1,0,0]).toList 0 #[g0,.int .i32 x1,g2,g3,g4,g5,g6,g7,g8,g9,g10,g11,g12,g13,g14,g15,g16,g17,g18,g19,g20,g21,g22,g23,g24,g25,g26,g27,g28,g29,g30,g31,g32,g33,g34,g35,g36,g37,g38,g39,g40] M K = K #[g0,.int .i32 x1,g2,g3,g4,g5,g6,g7,g8,g9,g10,g11,g12,g13,.int .i32 x1,.bool (decide (x1 < 0)),g16,g17,g18,g19,g20,g21,g22,g23,g24,g25,g26,g27,g28,g29,g30,g31,g32,g33,g34,g35,g36,g37,g38,g39,g40] M := by kernel_rfl
theorem c33_16 : P33 [1,1,1,0,1] = .cond (.tmp 15) (P33 [1,1,1,0,1,0]) (P33 [1,1,1,0,1,1]) := by kernel_rfl
theorem k33_17 : P33 [1,1,1,0,1,0] = .region 5 (O33 [1,1,1,0,1,0]) false := by kernel_rfl
theorem r33_5 {x1 : Int} {M : Mem} {call : CallM} {K : Array Value → Mem → R} :
    opsK Try.prog (fun _ => call) (O33 [1,1,1,0,1,0]) (O33 [1,1,1,0,1,0]).toList 0 #[g0,.int .i32 x1,g2,g3,g4,g5,g6,g7,g8,g9,g10,g11,g12,g13,g14,g15,g16,g17,g18,g19,g20,g21,g22,g23,g24,g25,g26,g27,g28,g29,g30,g31,g32,g33,g34,g35,g36,g37,g38,g39,g40] M K = K #[g0,.int .i32 x1,g2,g3,g4,g5,g6,.int .u64 (IntKind.u64.wrap (IntKind.i64.wrap (0 - (IntKind.i64.wrap (x1))))),.int .u64 1,g9,g10,g11,g12,g13,g14,g15,.int .i32 x1,.int .i64 (IntKind.i64.wrap (x1)),.int .i64 (IntKind.i64.wrap (0 - (IntKind.i64.wrap (x1)))),.int .u64 (IntKind.u64.wrap (IntKind.i64.wrap (0 - (IntKind.i64.wrap (x1))))),g20,g21,g22,g23,g24,g25,g26,g27,g28,g29,g30,g31,g32,g33,g34,g35,g36,g37,g38,g39,g40] M := by kernel_rfl
theorem k33_18 : P33 [1,1,1,1] = .seq (P33 [1,1,1,1,0]) (P33 [1,1,1,1,1]) := by kernel_rfl
theorem k33_19 : P33 [1,1,1,1,0] = .seq (P33 [1,1,1,1,0,0]) (P33 [1,1,1,1,0,1]) := by kernel_rfl
theorem k33_20 : P33 [1,1,1,1,0,0] = .region 6 (O33 [1,1,1,1,0,0]) false := by kernel_rfl
theorem r33_6 {x2 x7 : Int} {M : Mem} {call : CallM} {K : Array Value → Mem → R} :
    opsK Try.prog (fun _ => call) (O33 [1,1,1,1,0,0]) (O33 [1,1,1,1,0,0]).toList 0 #[g0,g1,.int .i64 x2,g3,g4,g5,g6,.int .u64 x7,g8,g9,g10,g11,g12,g13,g14,g15,g16,g17,g18,g19,g20,g21,g22,g23,g24,g25,g26,g27,g28,g29,g30,g31,g32,g33,g34,g35,g36,g37,g38,g39,g40] M K = withK (fun w22 w23 w24 w25 w26 w27 w28 w29 w30 w31 M => K #[g0,g1,.int .i64 x2,g3,g4,g5,g6,.int .u64 x7,g8,g9,g10,g11,g12,g13,g14,g15,g16,g17,g18,g19,.int .i64 x2,.bool (decide (x2 < 1)),w22,w23,w24,w25,w26,w27,w28,w29,w30,w31,g32,g33,g34,g35,g36,g37,g38,g39,g40] M) fun k => cond (decide (x2 < 1)) (k (.bool true) undef undef (.bool true) (.bool true) undef undef undef undef (.bool true) M) (cond (decide (x2 > 31)) (k (.bool false) (.int .i64 x2) (.bool (decide (x2 > 31))) (.bool (decide (x2 > 31))) (.bool true) undef undef undef undef (.bool true) M) ((call 57 #[.int .u64 x7] M).bind fun r_1 => (asI .i64 r_1.1).bind fun x_2 => k (.bool false) (.int .i64 x2) (.bool (decide (x2 > 31))) (.bool (decide (x2 > 31))) (.bool false) (.int .u64 x7) (.int .i64 x_2) (.int .i64 x2) (.bool (decide (x_2 > x2))) (.bool (decide (x_2 > x2))) r_1.2)) := by kernel_rfl
theorem k33_21 : P33 [1,1,1,0,1,1] = .skip := by kernel_rfl
theorem c33_22 : P33 [1,1,1,1,0,1] = .cond (.tmp 31) (P33 [1,1,1,1,0,1,0]) (P33 [1,1,1,1,0,1,1]) := by kernel_rfl
theorem k33_23 : P33 [1,1,1,1,0,1,0] = .seq (P33 [1,1,1,1,0,1,0,0]) (P33 [1,1,1,1,0,1,0,1]) := by kernel_rfl
theorem k33_24 : P33 [1,1,1,1,0,1,0,0] = .region 7 (O33 [1,1,1,1,0,1,0,0]) false := by kernel_rfl
theorem r33_7 {M : Mem} {call : CallM} {K : Array Value → Mem → R} :
    opsK Try.prog (fun _ => call) (O33 [1,1,1,1,0,1,0,0]) (O33 [1,1,1,1,0,1,0,0]).toList 0 #[g0,g1,g2,g3,g4,g5,g6,g7,g8,g9,g10,g11,g12,g13,g14,g15,g16,g17,g18,g19,g20,g21,g22,g23,g24,g25,g26,g27,g28,g29,g30,g31,g32,g33,g34,g35,g36,g37,g38,g39,g40] M K = K #[g0,g1,g2,g3,g4,g5,.int .i64 2,g7,g8,g9,g10,g11,g12,g13,g14,g15,g16,g17,g18,g19,g20,g21,g22,g23,g24,g25,g26,g27,g28,g29,g30,g31,g32,g33,g34,g35,g36,g37,g38,g39,g40] M := by kernel_rfl
theorem k33_25 : P33 [1,1,1,1,0,1,0,1] = .ret := by kernel_rfl
theorem k33_26 : P33 [1,1,1,1,0,1,1] = .skip := by kernel_rfl
theorem k33_27 : P33 [1,1,1,1,1] = .seq (P33 [1,1,1,1,1,0]) (P33 [1,1,1,1,1,1]) := by kernel_rfl
theorem k33_28 : P33 [1,1,1,1,1,0] = .region 8 (O33 [1,1,1,1,1,0]) false := by kernel_rfl
theorem r33_8 {x0 : Option Addr} {x2 x7 x8 : Int} {M : Mem} {call : CallM} {K : Array Value → Mem → R} :
    opsK Try.prog (fun _ => call) (O33 [1,1,1,1,1,0]) (O33 [1,1,1,1,1,0]).toList 0 #[.pointer x0,g1,.int .i64 x2,g3,g4,g5,g6,.int .u64 x7,.int .u64 x8,g9,g10,g11,g12,g13,g14,g15,g16,g17,g18,g19,g20,g21,g22,g23,g24,g25,g26,g27,g28,g29,g30,g31,g32,g33,g34,g35,g36,g37,g38,g39,g40] M K = (binV Try.prog .shl 64 3 (.int .u64 x8) (.int .i64 x2)).bind fun v_1 => (asI .u64 v_1).bind fun x_2 => (call 56 #[.pointer x0, .int .u64 (IntKind.u64.wrap (((BitVec.ofInt (IntKind.bits .u64) x_2 ||| BitVec.ofInt (IntKind.bits .u64) x7).toNat : Int))), .int .i64 (IntKind.i64.wrap (x2 + 1))] M).bind fun r_3 => K #[.pointer x0,g1,.int .i64 x2,g3,g4,g5,g6,.int .u64 x7,.int .u64 x8,g9,g10,g11,g12,g13,g14,g15,g16,g17,g18,g19,g20,g21,g22,g23,g24,g25,g26,g27,g28,g29,g30,g31,.pointer x0,.int .u64 x8,.int .i64 x2,.int .u64 x_2,.int .u64 x7,.int .u64 (IntKind.u64.wrap (((BitVec.ofInt (IntKind.bits .u64) x_2 ||| BitVec.ofInt (IntKind.bits .u64) x7).toNat : Int))),.int .i64 x2,.int .i64 (IntKind.i64.wrap (x2 + 1)),r_3.1] r_3.2 := by kernel_rfl
theorem k33_29 : P33 [1,1,1,1,1,1] = .seq (P33 [1,1,1,1,1,1,0]) (P33 [1,1,1,1,1,1,1]) := by kernel_rfl
theorem k33_30 : P33 [1,1,1,1,1,1,0] = .region 9 (O33 [1,1,1,1,1,1,0]) false := by kernel_rfl
theorem r33_9 {M : Mem} {call : CallM} {K : Array Value → Mem → R} :
    opsK Try.prog (fun _ => call) (O33 [1,1,1,1,1,1,0]) (O33 [1,1,1,1,1,1,0]).toList 0 #[g0,g1,g2,g3,g4,g5,g6,g7,g8,g9,g10,g11,g12,g13,g14,g15,g16,g17,g18,g19,g20,g21,g22,g23,g24,g25,g26,g27,g28,g29,g30,g31,g32,g33,g34,g35,g36,g37,g38,g39,g40] M K = K #[g0,g1,g2,g3,g4,g5,.int .i64 0,g7,g8,g9,g10,g11,g12,g13,g14,g15,g16,g17,g18,g19,g20,g21,g22,g23,g24,g25,g26,g27,g28,g29,g30,g31,g32,g33,g34,g35,g36,g37,g38,g39,g40] M := by kernel_rfl
theorem k33_31 : P33 [1,1,1,1,1,1,1] = .ret := by kernel_rfl
noncomputable def S33_1 : List Item := [.code (P33 [1,1,1,1,0,1]), .code (P33 [1,1,1,1,1])]
def A33_1 (x0 : Option Addr) (x2 x7 x8 : Int) (x31 : Bool) (M : Mem) (Q : Value → Mem → Prop) : Prop := ∀ (g1 g3 g4 g5 g6 g9 g10 g11 g12 g13 g14 g15 g16 g17 g18 g19 g20 g21 g22 g23 g24 g25 g26 g27 g28 g29 g30 g32 g33 g34 g35 g36 g37 g38 g39 g40 : Value), Rn Try.prog Try.f33 S33_1 #[.pointer x0, g1, .int .i64 x2, g3, g4, g5, g6, .int .u64 x7, .int .u64 x8, g9, g10, g11, g12, g13, g14, g15, g16, g17, g18, g19, g20, g21, g22, g23, g24, g25, g26, g27, g28, g29, g30, .bool x31, g32, g33, g34, g35, g36, g37, g38, g39, g40] M Q
theorem w33_0 {x0 : Option Addr} {x1 x2 : Int} {M : Mem} {Q : Value → Mem → Prop} (H :
    Cn Try.prog 43 #[.pointer x0] M fun v1' N1' =>
     ∃ b2', asB v1' = some b2' ∧
     (((!b2') = true →
      Q (.int .i64 1) N1') ∧
      ((!b2') = false →
      ((x1 < 0 →
       ((x2 < 1 →
        A33_1 x0 x2 (IntKind.u64.wrap (IntKind.i64.wrap (0 - (IntKind.i64.wrap (x1))))) 1 true N1' Q) ∧
        (¬ (x2 < 1) →
        ((x2 > 31 →
         A33_1 x0 x2 (IntKind.u64.wrap (IntKind.i64.wrap (0 - (IntKind.i64.wrap (x1))))) 1 true N1' Q) ∧
         (¬ (x2 > 31) →
         Cn Try.prog 57 #[.int .u64 (IntKind.u64.wrap (IntKind.i64.wrap (0 - (IntKind.i64.wrap (x1)))))] N1' fun v3' N3' =>
          ∃ x4', asI .i64 v3' = some x4' ∧
          A33_1 x0 x2 (IntKind.u64.wrap (IntKind.i64.wrap (0 - (IntKind.i64.wrap (x1))))) 1 (decide (x4' > x2)) N3' Q))))) ∧
       (¬ (x1 < 0) →
       ((x2 < 1 →
        A33_1 x0 x2 (IntKind.u64.wrap (x1)) 0 true N1' Q) ∧
        (¬ (x2 < 1) →
        ((x2 > 31 →
         A33_1 x0 x2 (IntKind.u64.wrap (x1)) 0 true N1' Q) ∧
         (¬ (x2 > 31) →
         Cn Try.prog 57 #[.int .u64 (IntKind.u64.wrap (x1))] N1' fun v5' N5' =>
          ∃ x6', asI .i64 v5' = some x6' ∧
          A33_1 x0 x2 (IntKind.u64.wrap (x1)) 0 (decide (x6' > x2)) N5' Q))))))))) :
    Cn Try.prog 33 #[.pointer x0, .int .i32 x1, .int .i64 x2] M Q := by
  refine Cn.of b33 d33 t33 ?_
  refine Rn.seq k33_0 (Rn.region k33_1 (fun call K => r33_0) (Rch.leaf (Rn.seq k33_2 (Rn.seq k33_3 (Rn.region k33_4 (fun call K => r33_1) (Rch.call H fun v1' N1' H => Rch.ex H fun b2' H => Rch.leaf ?_))))))
  refine Rn.cnd (v := !b2') ⟨c33_5, rfl, by kernel_rfl⟩ (fun h => ?_) (fun h => ?_)
  · replace H := H.1 (h)
    refine Rn.seq k33_6 (Rn.region k33_7 (fun call K => r33_2) (Rch.leaf ?_))
    exact Rn.ret k33_8 e33 H
  · replace H := H.2 (h)
    refine Rn.skip k33_10 (Rn.seq k33_11 (Rn.region k33_12 (fun call K => r33_3) (Rch.leaf (Rn.seq k33_13 (Rn.seq k33_14 (Rn.region k33_15 (fun call K => r33_4) (Rch.leaf ?_)))))))
    refine Rn.cnd (v := decide (x1 < 0)) ⟨c33_16, rfl, by kernel_rfl⟩ (fun h => ?_) (fun h => ?_)
    · replace H := H.1 (of_decide_eq_true h)
      refine Rn.region k33_17 (fun call K => r33_5) (Rch.leaf (Rn.seq k33_18 (Rn.seq k33_19 (Rn.region k33_20 (fun call K => r33_6) ?_))))
      refine Rch.cB (fun h => ?_) (fun h => ?_)
      · replace H := H.1 (of_decide_eq_true h)
        refine Rch.leaf ?_
        exact H _ _ _ _ _ _ _ _ _ _ _ _ _ _ _ _ _ _ _ _ _ _ _ _ _ _ _ _ _ _ _ _ _ _ _ _
      · replace H := H.2 (of_decide_eq_false h)
        refine Rch.cB (fun h => ?_) (fun h => ?_)
        · replace H := H.1 (of_decide_eq_true h)
          refine Rch.leaf ?_
          exact H _ _ _ _ _ _ _ _ _ _ _ _ _ _ _ _ _ _ _ _ _ _ _ _ _ _ _ _ _ _ _ _ _ _ _ _
        · replace H := H.2 (of_decide_eq_false h)
          refine Rch.call H fun v3' N3' H => Rch.ex H fun x4' H => Rch.leaf ?_
          exact H _ _ _ _ _ _ _ _ _ _ _ _ _ _ _ _ _ _ _ _ _ _ _ _ _ _ _ _ _ _ _ _ _ _ _ _
    · replace H := H.2 (of_decide_eq_false h)
      refine Rn.skip k33_21 (Rn.seq k33_18 (Rn.seq k33_19 (Rn.region k33_20 (fun call K => r33_6) ?_)))
      refine Rch.cB (fun h => ?_) (fun h => ?_)
      · replace H := H.1 (of_decide_eq_true h)
        refine Rch.leaf ?_
        exact H _ _ _ _ _ _ _ _ _ _ _ _ _ _ _ _ _ _ _ _ _ _ _ _ _ _ _ _ _ _ _ _ _ _ _ _
      · replace H := H.2 (of_decide_eq_false h)
        refine Rch.cB (fun h => ?_) (fun h => ?_)
        · replace H := H.1 (of_decide_eq_true h)
          refine Rch.leaf ?_
          exact H _ _ _ _ _ _ _ _ _ _ _ _ _ _ _ _ _ _ _ _ _ _ _ _ _ _ _ _ _ _ _ _ _ _ _ _
        · replace H := H.2 (of_decide_eq_false h)
          refine Rch.call H fun v5' N5' H => Rch.ex H fun x6' H => Rch.leaf ?_
          exact H _ _ _ _ _ _ _ _ _ _ _ _ _ _ _ _ _ _ _ _ _ _ _ _ _ _ _ _ _ _ _ _ _ _ _ _

theorem w33_1 {x0 : Option Addr} {x2 x7 x8 : Int} {x31 : Bool} {M : Mem} {Q : Value → Mem → Prop} (H :
    ((x31 = true →
     Q (.int .i64 2) M) ∧
     (x31 = false →
     ∃ v7', binV Try.prog .shl 64 3 (.int .u64 x8) (.int .i64 x2) = some v7' ∧
     ∃ x8', asI .u64 v7' = some x8' ∧
     Cn Try.prog 56 #[.pointer x0, .int .u64 (IntKind.u64.wrap (((BitVec.ofInt (IntKind.bits .u64) x8' ||| BitVec.ofInt (IntKind.bits .u64) x7).toNat : Int))), .int .i64 (IntKind.i64.wrap (x2 + 1))] M fun v9' N9' =>
      Q (.int .i64 0) N9'))) :
    A33_1 x0 x2 x7 x8 x31 M Q := by
  intro g1 g3 g4 g5 g6 g9 g10 g11 g12 g13 g14 g15 g16 g17 g18 g19 g20 g21 g22 g23 g24 g25 g26 g27 g28 g29 g30 g32 g33 g34 g35 g36 g37 g38 g39 g40
  refine Rn.cnd (v := x31) ⟨c33_22, rfl, by kernel_rfl⟩ (fun h => ?_) (fun h => ?_)
  · replace H := H.1 (h)
    refine Rn.seq k33_23 (Rn.region k33_24 (fun call K => r33_7) (Rch.leaf ?_))
    exact Rn.ret k33_25 e33 H
  · replace H := H.2 (h)
    refine Rn.skip k33_26 (Rn.seq k33_27 (Rn.region k33_28 (fun call K => r33_8) (Rch.ex H fun v7' H => Rch.ex H fun x8' H => Rch.call H fun v9' N9' H => Rch.leaf (Rn.seq k33_29 (Rn.region k33_30 (fun call K => r33_9) (Rch.leaf ?_))))))
    exact Rn.ret k33_31 e33 H


/-! ### (*zoetrope/bits.Writer).Uvlc: function 34 -/
noncomputable abbrev P34 (p : List Nat) : Code := subC (codeOf Try.f34) p
noncomputable abbrev O34 (p : List Nat) : Array Oper := opsOf (subC (codeOf Try.f34) p)
theorem b34 : Try.prog.funcs[34]? = some Try.f34 ∧ (Orc.tab Try.prog).lookup 34 = none := ⟨by kernel_rfl, by kernel_rfl⟩
theorem d34 : Try.f34.body = some (P34 []) := by kernel_rfl
theorem t34 {x0 : Option Addr} {x1 : Int} : #[.pointer x0,.int .u32 x1] ++ Array.replicate (Try.f34.ntmps - (#[.pointer x0,.int .u32 x1] : Array Value).size) undef = #[.pointer x0,.int .u32 x1,undef,undef,undef,undef,undef,undef,undef,undef,undef,undef,undef,undef,undef,undef,undef,undef,undef,undef,undef,undef] := by kernel_rfl
theorem k34_0 : P34 [] = .seq (P34 [0]) (P34 [1]) := by kernel_rfl
theorem k34_1 : P34 [0] = .region 0 (O34 [0]) false := by kernel_rfl
theorem r34_0 {M : Mem} {call : CallM} {K : Array Value → Mem → R} :
    opsK Try.prog (fun _ => call) (O34 [0]) (O34 [0]).toList 0 #[g0,g1,g2,g3,g4,g5,g6,g7,g8,g9,g10,g11,g12,g13,g14,g15,g16,g17,g18,g19,g20,g21] M K = K #[g0,g1,g2,g3,.int .i64 0,g5,g6,g7,g8,g9,g10,g11,g12,g13,g14,g15,g16,g17,g18,g19,g20,g21] M := by kernel_rfl
theorem k34_2 : P34 [1] = .seq (P34 [1,0]) (P34 [1,1]) := by kernel_rfl
theorem k34_3 : P34 [1,0] = .seq (P34 [1,0,0]) (P34 [1,0,1]) := by kernel_rfl
theorem k34_4 : P34 [1,0,0] = .region 1 (O34 [1,0,0]) false := by kernel_rfl
theorem r34_1 {x0 : Option Addr} {M : Mem} {call : CallM} {K : Array Value → Mem → R} :
    opsK Try.prog (fun _ => call) (O34 [1,0,0]) (O34 [1,0,0]).toList 0 #[.pointer x0,g1,g2,g3,g4,g5,g6,g7,g8,g9,g10,g11,g12,g13,g14,g15,g16,g17,g18,g19,g20,g21] M K = (call 43 #[.pointer x0] M).bind fun r_1 => (asB r_1.1).bind fun b_2 => K #[.pointer x0,g1,g2,g3,g4,g5,.pointer x0,.bool b_2,.bool (!b_2),g9,g10,g11,g12,g13,g14,g15,g16,g17,g18,g19,g20,g21] r_1.2 := by kernel_rfl
theorem c34_5 : P34 [1,0,1] = .cond (.tmp 8) (P34 [1,0,1,0]) (P34 [1,0,1,1]) := by kernel_rfl
theorem k34_6 : P34 [1,0,1,0] = .seq (P34 [1,0,1,0,0]) (P34 [1,0,1,0,1]) := by kernel_rfl
theorem k34_7 : P34 [1,0,1,0,0] = .region 2 (O34 [1,0,1,0,0]) false := by kernel_rfl
theorem r34_2 {M : Mem} {call : CallM} {K : Array Value → Mem → R} :
    opsK Try.prog (fun _ => call) (O34 [1,0,1,0,0]) (O34 [1,0,1,0,0]).toList 0 #[g0,g1,g2,g3,g4,g5,g6,g7,g8,g9,g10,g11,g12,g13,g14,g15,g16,g17,g18,g19,g20,g21] M K = K #[g0,g1,g2,g3,.int .i64 1,g5,g6,g7,g8,g9,g10,g11,g12,g13,g14,g15,g16,g17,g18,g19,g20,g21] M := by kernel_rfl
theorem k34_8 : P34 [1,0,1,0,1] = .ret := by kernel_rfl
theorem e34 {M : Mem} : finish Try.prog Try.f34 #[g0,g1,g2,g3,g4,g5,g6,g7,g8,g9,g10,g11,g12,g13,g14,g15,g16,g17,g18,g19,g20,g21] M = some (g4, M) := by kernel_rfl
theorem k34_10 : P34 [1,0,1,1] = .skip := by kernel_rfl
theorem k34_11 : P34 [1,1] = .seq (P34 [1,1,0]) (P34 [1,1,1]) := by kernel_rfl
theorem k34_12 : P34 [1,1,0] = .seq (P34 [1,1,0,0]) (P34 [1,1,0,1]) := by kernel_rfl
theorem k34_13 : P34 [1,1,0,0] = .region 3 (O34 [1,1,0,0]) false := by kernel_rfl
theorem r34_3 {x1 : Int} {M : Mem} {call : CallM} {K : Array Value → Mem → R} :
    opsK Try.prog (fun _ => call) (O34 [1,1,0,0]) (O34 [1,1,0,0]).toList 0 #[g0,.int .u32 x1,g2,g3,g4,g5,g6,g7,g8,g9,g10,g11,g12,g13,g14,g15,g16,g17,g18,g19,g20,g21] M K = K #[g0,.int .u32 x1,g2,g3,g4,g5,g6,g7,g8,.int .u32 x1,.bool (x1 == 4294967295),g11,g12,g13,g14,g15,g16,g17,g18,g19,g20,g21] M := by kernel_rfl
theorem c34_14 : P34 [1,1,0,1] = .cond (.tmp 10) (P34 [1,1,0,1,0]) (P34 [1,1,0,1,1]) := by kernel_rfl
theorem k34_15 : P34 [1,1,0,1,0] = .seq (P34 [1,1,0,1,0,0]) (P34 [1,1,0,1,0,1]) := by kernel_rfl
theorem k34_16 : P34 [1,1,0,1,0,0] = .region 4 (O34 [1,1,0,1,0,0]) false := by kernel_rfl
theorem r34_4 {M : Mem} {call : CallM} {K : Array Value → Mem → R} :
    opsK Try.prog (fun _ => call) (O34 [1,1,0,1,0,0]) (O34 [1,1,0,1,0,0]).toList 0 #[g0,g1,g2,g3,g4,g5,g6,g7,g8,g9,g10,g11,g12,g13,g14,g15,g16,g17,g18,g19,g20,g21] M K = K #[g0,g1,g2,g3,.int .i64 2,g5,g6,g7,g8,g9,g10,g11,g12,g13,g14,g15,g16,g17,g18,g19,g20,g21] M := by kernel_rfl
theorem k34_17 : P34 [1,1,0,1,0,1] = .ret := by kernel_rfl
theorem k34_18 : P34 [1,1,0,1,1] = .skip := by kernel_rfl
theorem k34_19 : P34 [1,1,1] = .seq (P34 [1,1,1,0]) (P34 [1,1,1,1]) := by kernel_rfl
theorem k34_20 : P34 [1,1,1,0] = .region 5 (O34 [1,1,1,0]) false := by kernel_rfl
theorem r34_5 {x1 : Int} {M : Mem} {call : CallM} {K : Array Value → Mem → R} :
    opsK Try.prog (fun _ => call) (O34 [1,1,1,0]) (O34 [1,1,1,0]).toList 0 #[g0,.int .u32 x1,g2,g3,g4,g5,g6,g7,g8,g9,g10,g11,g12,g13,g14,g15,g16,g17,g18,g19,g20,g21] M K = (call 55 #[.int .u32 (IntKind.u32.wrap (x1 + 1))] M).bind fun r_1 => (asI .i64 r_1.1).bind fun x_2 => K #[g0,.int .u32 x1,g2,g3,g4,.int .i64 x_2,g6,g7,g8,g9,g10,.int .u32 x1,.int .u32 (IntKind.u32.wrap (x1 + 1)),.int .i64 x_2,g14,g15,g16,g17,g18,g19,g20,g21] r_1.2 := by kernel_rfl
theorem k34_21 : P34 [1,1,1,1] = .seq (P34 [1,1,1,1,0]) (P34 [1,1,1,1,1]) := by kernel_rfl
theorem k34_22 : P34 [1,1,1,1,0] = .region 6 (O34 [1,1,1,1,0]) false := by kernel_rfl
theorem r34_6 {x0 : Option Addr} {x1 x5 : Int} {M : Mem} {call : CallM} {K : Array Value → Mem → R} :
    opsK Try.prog (fun _ => call) (O34 [1,1,1,1,0]) (O34 [1,1,1,1,0]).toList 0 #[.pointer x0,.int .u32 x1,g2,g3,g4,.int .i64 x5,g6,g7,g8,g9,g10,g11,g12,g13,g14,g15,g16,g17,g18,g19,g20,g21] M K = (call 56 #[.pointer x0, .int .u64 (IntKind.u64.wrap ((IntKind.u64.wrap (x1)) + 1)), .int .i64 (IntKind.i64.wrap ((IntKind.i64.wrap (2 * x5)) - 1))] M).bind fun r_1 => K #[.pointer x0,.int .u32 x1,g2,g3,g4,.int .i64 x5,g6,g7,g8,g9,g10,g11,g12,g13,.pointer x0,.int .u32 x1,.int .u64 (IntKind.u64.wrap (x1)),.int .u64 (IntKind.u64.wrap ((IntKind.u64.wrap (x1)) + 1)),.int .i64 x5,.int .i64 (IntKind.i64.wrap (2 * x5)),.int .i64 (IntKind.i64.wrap ((IntKind.i64.wrap (2 * x5)) - 1)),r_1.1] r_1.2 := by kernel_rfl
theorem k34_23 : P34 [1,1,1,1,1] = .seq (P34 [1,1,1,1,1,0]) (P34 [1,1,1,1,1,1]) := by kernel_rfl
theorem k34_24 : P34 [1,1,1,1,1,0] = .region 7 (O34 [1,1,1,1,1,0]) false := by kernel_rfl
theorem r34_7 {M : Mem} {call : CallM} {K : Array Value → Mem → R} :
    opsK Try.prog (fun _ => call) (O34 [1,1,1,1,1,0]) (O34 [1,1,1,1,1,0]).toList 0 #[g0,g1,g2,g3,g4,g5,g6,g7,g8,g9,g10,g11,g12,g13,g14,g15,g16,g17,g18,g19,g20,g21] M K = K #[g0,g1,g2,g3,.int .i64 0,g5,g6,g7,g8,g9,g10,g11,g12,g13,g14,g15,g16,g17,g18,g19,g20,g21] M := by kernel_rfl
theorem k34_25 : P34 [1,1,1,1,1,1] = .ret := by kernel_rfl
theorem w34_0 {x0 : Option Addr} {x1 : Int} {M : Mem} {Q : Value → Mem → Prop} (H :
    Cn Try.prog 43 #[.pointer x0] M fun v1' N1' =>
     ∃ b2', asB v1' = some b2' ∧
     (((!b2') = true →
      Q (.int .i64 1) N1') ∧
      ((!b2') = false →
      ((x1 = 4294967295 →
       Q (.int .i64 2) N1') ∧
       (x1 ≠ 4294967295 →
       Cn Try.prog 55 #[.int .u32 (IntKind.u32.wrap (x1 + 1))] N1' fun v3' N3' =>
        ∃ x4', asI .i64 v3' = some x4' ∧
        Cn Try.prog 56 #[.pointer x0, .int .u64 (IntKind.u64.wrap ((IntKind.u64.wrap (x1)) + 1)), .int .i64 (IntKind.i64.wrap ((IntKind.i64.wrap (2 * x4')) - 1))] N3' fun v5' N5' =>
         Q (.int .i64 0) N5'))))) :
    Cn Try.prog 34 #[.pointer x0, .int .u32 x1] M Q := by
  refine Cn.of b34 d34 t34 ?_
  refine Rn.seq k34_0 (Rn.region k34_1 (fun call K => r34_0) (Rch.leaf (Rn.seq k34_2 (Rn.seq k34_3 (Rn.region k34_4 (fun call K => r34_1) (Rch.call H fun v1' N1' H => Rch.ex H fun b2' H => Rch.leaf ?_))))))
  refine Rn.cnd (v := !b2') ⟨c34_5, rfl, by kernel_rfl⟩ (fun h => ?_) (fun h => ?_)
  · replace H := H.1 (h)
    refine Rn.seq k34_6 (Rn.region k34_7 (fun call K => r34_2) (Rch.leaf ?_))
    exact Rn.ret k34_8 e34 H
  · replace H := H.2 (h)
    refine Rn.skip k34_10 (Rn.seq k34_11 (Rn.seq k34_12 (Rn.region k34_13 (fun call K => r34_3) (Rch.leaf ?_))))
    refine Rn.cnd (v := x1 == 4294967295) ⟨c34_14, rfl, by kernel_rfl⟩ (fun h => ?_) (fun h => ?_)
    · replace H := H.1 (eq_of_beq h)
      refine Rn.seq k34_15 (Rn.region k34_16 (fun call K => r34_4) (Rch.leaf ?_))
      exact Rn.ret k34_17 e34 H
    · replace H := H.2 (ne_of_beq_false h)
      refine Rn.skip k34_18 (Rn.seq k34_19 (Rn.region k34_20 (fun call K => r34_5) (Rch.call H fun v3' N3' H => Rch.ex H fun x4' H => Rch.leaf (Rn.seq k34_21 (Rn.region k34_22 (fun call K => r34_6) (Rch.call H fun v5' N5' H => Rch.leaf (Rn.seq k34_23 (Rn.region k34_24 (fun call K => r34_7) ?_))))))))
      refine Rch.leaf ?_
      exact Rn.ret k34_25 e34 H


/-! ### (*zoetrope/bits.Writer).Leb: function 35 -/
noncomputable abbrev P35 (p : List Nat) : Code := subC (codeOf Try.f35) p
noncomputable abbrev O35 (p : List Nat) : Array Oper := opsOf (subC (codeOf Try.f35) p)
theorem b35 : Try.prog.funcs[35]? = some Try.f35 ∧ (Orc.tab Try.prog).lookup 35 = none := ⟨by kernel_rfl, by kernel_rfl⟩
theorem d35 : Try.f35.body = some (P35 []) := by kernel_rfl
theorem t35 {x0 : Option Addr} {x1 : Int} : #[.pointer x0,.int .u32 x1] ++ Array.replicate (Try.f35.ntmps - (#[.pointer x0,.int .u32 x1] : Array Value).size) undef = #[.pointer x0,.int .u32 x1,undef,undef,undef,undef,undef,undef,undef,undef,undef,undef,undef,undef,undef,undef,undef,undef,undef,undef,undef,undef,undef,undef,undef,undef,undef] := by kernel_rfl
theorem k35_0 : P35 [] = .seq (P35 [0]) (P35 [1]) := by kernel_rfl
theorem k35_1 : P35 [0] = .region 0 (O35 [0]) false := by kernel_rfl
theorem r35_0 {M : Mem} {call : CallM} {K : Array Value → Mem → R} :
    opsK Try.prog (fun _ => call) (O35 [0]) (O35 [0]).toList 0 #[g0,g1,g2,g3,g4,g5,g6,g7,g8,g9,g10,g11,g12,g13,g14,g15,g16,g17,g18,g19,g20,g21,g22,g23,g24,g25,g26] M K = K #[g0,g1,g2,g3,.int .i64 0,g5,g6,g7,g8,g9,g10,g11,g12,g13,g14,g15,g16,g17,g18,g19,g20,g21,g22,g23,g24,g25,g26] M := by kernel_rfl
theorem k35_2 : P35 [1] = .seq (P35 [1,0]) (P35 [1,1]) := by kernel_rfl
theorem k35_3 : P35 [1,0] = .seq (P35 [1,0,0]) (P35 [1,0,1]) := by kernel_rfl
theorem k35_4 : P35 [1,0,0] = .region 1 (O35 [1,0,0]) false := by kernel_rfl
theorem r35_1 {x0 : Option Addr} {M : Mem} {call : CallM} {K : Array Value → Mem → R} :
    opsK Try.prog (fun _ => call) (O35 [1,0,0]) (O35 [1,0,0]).toList 0 #[.pointer x0,g1,g2,g3,g4,g5,g6,g7,g8,g9,g10,g11,g12,g13,g14,g15,g16,g17,g18,g19,g20,g21,g22,g23,g24,g25,g26] M K = (call 43 #[.pointer x0] M).bind fun r_1 => (asB r_1.1).bind fun b_2 => K #[.pointer x0,g1,g2,g3,g4,.pointer x0,.bool b_2,.bool (!b_2),g8,g9,g10,g11,g12,g13,g14,g15,g16,g17,g18,g19,g20,g21,g22,g23,g24,g25,g26] r_1.2 := by kernel_rfl
theorem c35_5 : P35 [1,0,1] = .cond (.tmp 7) (P35 [1,0,1,0]) (P35 [1,0,1,1]) := by kernel_rfl
theorem k35_6 : P35 [1,0,1,0] = .seq (P35 [1,0,1,0,0]) (P35 [1,0,1,0,1]) := by kernel_rfl
theorem k35_7 : P35 [1,0,1,0,0] = .region 2 (O35 [1,0,1,0,0]) false := by kernel_rfl
theorem r35_2 {M : Mem} {call : CallM} {K : Array Value → Mem → R} :
    opsK Try.prog (fun _ => call) (O35 [1,0,1,0,0]) (O35 [1,0,1,0,0]).toList 0 #[g0,g1,g2,g3,g4,g5,g6,g7,g8,g9,g10,g11,g12,g13,g14,g15,g16,g17,g18,g19,g20,g21,g22,g23,g24,g25,g26] M K = K #[g0,g1,g2,g3,.int .i64 1,g5,g6,g7,g8,g9,g10,g11,g12,g13,g14,g15,g16,g17,g18,g19,g20,g21,g22,g23,g24,g25,g26] M := by kernel_rfl
theorem k35_8 : P35 [1,0,1,0,1] = .ret := by kernel_rfl
theorem e35 {M : Mem} : finish Try.prog Try.f35 #[g0,g1,g2,g3,g4,g5,g6,g7,g8,g9,g10,g11,g12,g13,g14,g15,g16,g17,g18,g19,g20,g21,g22,g23,g24,g25,g26] M = some (g4, M) := by kernel_rfl
theorem k35_10 : P35 [1,0,1,1] = .skip := by kernel_rfl
theorem k35_11 : P35 [1,1] = .seq (P35 [1,1,0]) (P35 [1,1,1]) := by kernel_rfl
theorem k35_12 : P35 [1,1,0] = .seq (P35 [1,1,0,0]) (P35 [1,1,0,1]) := by kernel_rfl
theorem k35_13 : P35 [1,1,0,0] = .region 3 (O35 [1,1,0,0]) false := by kernel_rfl
theorem r35_3 {x0 : Option Addr} {M : Mem} {call : CallM} {K : Array Value → Mem → R} :
    opsK Try.prog (fun _ => call) (O35 [1,1,0,0]) (O35 [1,1,0,0]).toList 0 #[.pointer x0,g1,g2,g3,g4,g5,g6,g7,g8,g9,g10,g11,g12,g13,g14,g15,g16,g17,g18,g19,g20,g21,g22,g23,g24,g25,g26] M K = (x0).bind fun a_1 => (M.intAt .i64 a_1.block (a_1.off + 1)).bind fun x_2 => K #[.pointer x0,g1,g2,g3,g4,g5,g6,g7,.pointer x0,.pointer (some a_1),.pointer (some ⟨a_1.block, a_1.off + 1, none⟩),.int .i64 x_2,.bool (decide (x_2 > 0)),g13,g14,g15,g16,g17,g18,g19,g20,g21,g22,g23,g24,g25,g26] M := by kernel_rfl
theorem c35_14 : P35 [1,1,0,1] = .cond (.tmp 12) (P35 [1,1,0,1,0]) (P35 [1,1,0,1,1]) := by kernel_rfl
theorem k35_15 : P35 [1,1,0,1,0] = .seq (P35 [1,1,0,1,0,0]) (P35 [1,1,0,1,0,1]) := by kernel_rfl
theorem k35_16 : P35 [1,1,0,1,0,0] = .region 4 (O35 [1,1,0,1,0,0]) false := by kernel_rfl
theorem r35_4 {M : Mem} {call : CallM} {K : Array Value → Mem → R} :
    opsK Try.prog (fun _ => call) (O35 [1,1,0,1,0,0]) (O35 [1,1,0,1,0,0]).toList 0 #[g0,g1,g2,g3,g4,g5,g6,g7,g8,g9,g10,g11,g12,g13,g14,g15,g16,g17,g18,g19,g20,g21,g22,g23,g24,g25,g26] M K = K #[g0,g1,g2,g3,.int .i64 2,g5,g6,g7,g8,g9,g10,g11,g12,g13,g14,g15,g16,g17,g18,g19,g20,g21,g22,g23,g24,g25,g26] M := by kernel_rfl
theorem k35_17 : P35 [1,1,0,1,0,1] = .ret := by kernel_rfl
theorem k35_18 : P35 [1,1,0,1,1] = .skip := by kernel_rfl
theorem k35_19 : P35 [1,1,1] = .seq (P35 [1,1,1,0]) (P35 [1,1,1,1]) := by kernel_rfl
theorem k35_20 : P35 [1,1,1,0] = .block 0 (P35 [1,1,1,0,0]) := by kernel_rfl
theorem k35_21 : P35 [1,1,1,0,0] = .loop (P35 [1,1,1,0,0,0]) := by kernel_rfl
theorem k35_22 : P35 [1,1,1,0,0,0] = .seq (P35 [1,1,1,0,0,0,0]) (P35 [1,1,1,0,0,0,1]) := by kernel_rfl
theorem k35_23 : P35 [1,1,1,0,0,0,0] = .seq (P35 [1,1,1,0,0,0,0,0]) (P35 [1,1,1,0,0,0,0,1]) := by kernel_rfl
theorem k35_24 : P35 [1,1,1,0,0,0,0,0] = .region 5 (O35 [1,1,1,0,0,0,0,0]) false := by kernel_rfl
theorem r35_5 {x1 : Int} {M : Mem} {call : CallM} {K : Array Value → Mem → R} :
    opsK Try.prog (fun _ => call) (O35 [1,1,1,0,0,0,0,0]) (O35 [1,1,1,0,0,0,0,0]).toList 0 #[g0,.int .u32 x1,g2,g3,g4,g5,g6,g7,g8,g9,g10,g11,g12,g13,g14,g15,g16,g17,g18,g19,g20,g21,g22,g23,g24,g25,g26] M K = K #[g0,.int .u32 x1,g2,g3,g4,g5,g6,g7,g8,g9,g10,g11,g12,.int .u32 x1,.bool (decide (x1 > 127)),g15,g16,g17,g18,g19,g20,g21,g22,g23,g24,g25,g26] M := by kernel_rfl
theorem c35_25 : P35 [1,1,1,0,0,0,0,1] = .cond (.tmp 14) (P35 [1,1,1,0,0,0,0,1,0]) (P35 [1,1,1,0,0,0,0,1,1]) := by kernel_rfl
theorem k35_26 : P35 [1,1,1,0,0,0,0,1,0] = .skip := by kernel_rfl
theorem k35_27 : P35 [1,1,1,0,0,0,1] = .seq (P35 [1,1,1,0,0,0,1,0]) (P35 [1,1,1,0,0,0,1,1]) := by kernel_rfl
theorem k35_28 : P35 [1,1,1,0,0,0,1,0] = .block 1 (P35 [1,1,1,0,0,0,1,0,0]) := by kernel_rfl
theorem k35_29 : P35 [1,1,1,0,0,0,1,0,0] = .region 7 (O35 [1,1,1,0,0,0,1,0,0]) false := by kernel_rfl
theorem r35_7 {x0 : Option Addr} {x1 : Int} {M : Mem} {call : CallM} {K : Array Value → Mem → R} :
    opsK Try.prog (fun _ => call) (O35 [1,1,1,0,0,0,1,0,0]) (O35 [1,1,1,0,0,0,1,0,0]).toList 0 #[.pointer x0,.int .u32 x1,g2,g3,g4,g5,g6,g7,g8,g9,g10,g11,g12,g13,g14,g15,g16,g17,g18,g19,g20,g21,g22,g23,g24,g25,g26] M K = (call 56 #[.pointer x0, .int .u64 (IntKind.u64.wrap (IntKind.u32.wrap (((BitVec.ofInt (IntKind.bits .u32) (IntKind.u32.wrap (((BitVec.ofInt (IntKind.bits .u32) x1 &&& BitVec.ofInt (IntKind.bits .u32) 127).toNat : Int))) ||| BitVec.ofInt (IntKind.bits .u32) 128).toNat : Int)))), .int .i64 8] M).bind fun r_1 => K #[.pointer x0,.int .u32 x1,g2,g3,g4,g5,g6,g7,g8,g9,g10,g11,g12,g13,g14,g15,g16,.pointer x0,.int .u32 x1,.int .u32 (IntKind.u32.wrap (((BitVec.ofInt (IntKind.bits .u32) x1 &&& BitVec.ofInt (IntKind.bits .u32) 127).toNat : Int))),.int .u32 (IntKind.u32.wrap (((BitVec.ofInt (IntKind.bits .u32) (IntKind.u32.wrap (((BitVec.ofInt (IntKind.bits .u32) x1 &&& BitVec.ofInt (IntKind.bits .u32) 127).toNat : Int))) ||| BitVec.ofInt (IntKind.bits .u32) 128).toNat : Int))),.int .u64 (IntKind.u64.wrap (IntKind.u32.wrap (((BitVec.ofInt (IntKind.bits .u32) (IntKind.u32.wrap (((BitVec.ofInt (IntKind.bits .u32) x1 &&& BitVec.ofInt (IntKind.bits .u32) 127).toNat : Int))) ||| BitVec.ofInt (IntKind.bits .u32) 128).toNat : Int)))),r_1.1,g23,g24,g25,g26] r_1.2 := by kernel_rfl
theorem k35_30 : P35 [1,1,1,0,0,0,1,1] = .region 6 (O35 [1,1,1,0,0,0,1,1]) false := by kernel_rfl
theorem r35_6 {x1 : Int} {M : Mem} {call : CallM} {K : Array Value → Mem → R} :
    opsK Try.prog (fun _ => call) (O35 [1,1,1,0,0,0,1,1]) (O35 [1,1,1,0,0,0,1,1]).toList 0 #[g0,.int .u32 x1,g2,g3,g4,g5,g6,g7,g8,g9,g10,g11,g12,g13,g14,g15,g16,g17,g18,g19,g20,g21,g22,g23,g24,g25,g26] M K = K #[g0,.int .u32 (x1.fdiv (2 ^ 7)),g2,g3,g4,g5,g6,g7,g8,g9,g10,g11,g12,g13,g14,.int .u32 x1,.int .u32 (x1.fdiv (2 ^ 7)),g17,g18,g19,g20,g21,g22,g23,g24,g25,g26] M := by kernel_rfl
theorem k35_31 : P35 [1,1,1,0,0,0,0,1,1] = .exit 0 := by kernel_rfl
theorem k35_32 : P35 [1,1,1,1] = .seq (P35 [1,1,1,1,0]) (P35 [1,1,1,1,1]) := by kernel_rfl
theorem k35_33 : P35 [1,1,1,1,0] = .region 8 (O35 [1,1,1,1,0]) false := by kernel_rfl
theorem r35_8 {x0 : Option Addr} {x1 : Int} {M : Mem} {call : CallM} {K : Array Value → Mem → R} :
    opsK Try.prog (fun _ => call) (O35 [1,1,1,1,0]) (O35 [1,1,1,1,0]).toList 0 #[.pointer x0,.int .u32 x1,g2,g3,g4,g5,g6,g7,g8,g9,g10,g11,g12,g13,g14,g15,g16,g17,g18,g19,g20,g21,g22,g23,g24,g25,g26] M K = (call 56 #[.pointer x0, .int .u64 (IntKind.u64.wrap (x1)), .int .i64 8] M).bind fun r_1 => K #[.pointer x0,.int .u32 x1,g2,g3,g4,g5,g6,g7,g8,g9,g10,g11,g12,g13,g14,g15,g16,g17,g18,g19,g20,g21,g22,.pointer x0,.int .u32 x1,.int .u64 (IntKind.u64.wrap (x1)),r_1.1] r_1.2 := by kernel_rfl
theorem k35_34 : P35 [1,1,1,1,1] = .seq (P35 [1,1,1,1,1,0]) (P35 [1,1,1,1,1,1]) := by kernel_rfl
theorem k35_35 : P35 [1,1,1,1,1,0] = .region 9 (O35 [1,1,1,1,1,0]) false := by kernel_rfl
theorem r35_9 {M : Mem} {call : CallM} {K : Array Value → Mem → R} :
    opsK Try.prog (fun _ => call) (O35 [1,1,1,1,1,0]) (O35 [1,1,1,1,1,0]).toList 0 #[g0,g1,g2,g3,g4,g5,g6,g7,g8,g9,g10,g11,g12,g13,g14,g15,g16,g17,g18,g19,g20,g21,g22,g23,g24,g25,g26] M K = K #[g0,g1,g2,g3,.int .i64 0,g5,g6,g7,g8,g9,g10,g11,g12,g13,g14,g15,g16,g17,g18,g19,g20,g21,g22,g23,g24,g25,g26] M := by kernel_rfl
theorem k35_36 : P35 [1,1,1,1,1,1] = .ret := by kernel_rfl
noncomputable def S35_1 : List Item := [.code (P35 [1,1,1,0,0,0]), .inLoop (P35 [1,1,1,0,0,0]), .inBlock 0, .code (P35 [1,1,1,1])]
def A35_1 (x0 : Option Addr) (x1 : Int) (M : Mem) (Q : Value → Mem → Prop) : Prop := ∀ (g2 g3 g4 g5 g6 g7 g8 g9 g10 g11 g12 g13 g14 g15 g16 g17 g18 g19 g20 g21 g22 g23 g24 g25 g26 : Value), Rn Try.prog Try.f35 S35_1 #[.pointer x0, .int .u32 x1, g2, g3, g4, g5, g6, g7, g8, g9, g10, g11, g12, g13, g14, g15, g16, g17, g18, g19, g20, g21, g22, g23, g24, g25, g26] M Q
theorem w35_0 {x0 : Option Addr} {x1 : Int} {M : Mem} {Q : Value → Mem → Prop} (H :
    Cn Try.prog 43 #[.pointer x0] M fun v1' N1' =>
     ∃ b2', asB v1' = some b2' ∧
     (((!b2') = true →
      Q (.int .i64 1) N1') ∧
      ((!b2') = false →
      ∃ a3', x0 = some a3' ∧
      ∃ x4', N1'.intAt .i64 a3'.block (a3'.off + 1) = some x4' ∧
      ((x4' > 0 →
       Q (.int .i64 2) N1') ∧
       (¬ (x4' > 0) →
       A35_1 x0 x1 N1' Q))))) :
    Cn Try.prog 35 #[.pointer x0, .int .u32 x1] M Q := by
  refine Cn.of b35 d35 t35 ?_
  refine Rn.seq k35_0 (Rn.region k35_1 (fun call K => r35_0) (Rch.leaf (Rn.seq k35_2 (Rn.seq k35_3 (Rn.region k35_4 (fun call K => r35_1) (Rch.call H fun v1' N1' H => Rch.ex H fun b2' H => Rch.leaf ?_))))))
  refine Rn.cnd (v := !b2') ⟨c35_5, rfl, by kernel_rfl⟩ (fun h => ?_) (fun h => ?_)
  · replace H := H.1 (h)
    refine Rn.seq k35_6 (Rn.region k35_7 (fun call K => r35_2) (Rch.leaf ?_))
    exact Rn.ret k35_8 e35 H
  · replace H := H.2 (h)
    refine Rn.skip k35_10 (Rn.seq k35_11 (Rn.seq k35_12 (Rn.region k35_13 (fun call K => r35_3) (Rch.ex H fun a3' H => Rch.ex H fun x4' H => Rch.leaf ?_))))
    refine Rn.cnd (v := decide (x4' > 0)) ⟨c35_14, rfl, by kernel_rfl⟩ (fun h => ?_) (fun h => ?_)
    · replace H := H.1 (of_decide_eq_true h)
      refine Rn.seq k35_15 (Rn.region k35_16 (fun call K => r35_4) (Rch.leaf ?_))
      exact Rn.ret k35_17 e35 H
    · replace H := H.2 (of_decide_eq_false h)
      refine Rn.skip k35_18 (Rn.seq k35_19 (Rn.block k35_20 (Rn.loop k35_21 ?_)))
      exact H _ _ _ _ _ _ _ _ _ _ _ _ _ _ _ _ _ _ _ _ _ _ _ _ _

theorem w35_1 {x0 : Option Addr} {x1 : Int} {M : Mem} {Q : Value → Mem → Prop} (H :
    ((x1 > 127 →
     Cn Try.prog 56 #[.pointer x0, .int .u64 (IntKind.u64.wrap (IntKind.u32.wrap (((BitVec.ofInt (IntKind.bits .u32) (IntKind.u32.wrap (((BitVec.ofInt (IntKind.bits .u32) x1 &&& BitVec.ofInt (IntKind.bits .u32) 127).toNat : Int))) ||| BitVec.ofInt (IntKind.bits .u32) 128).toNat : Int)))), .int .i64 8] M fun v5' N5' =>
      A35_1 x0 (x1.fdiv (2 ^ 7)) N5' Q) ∧
     (¬ (x1 > 127) →
     Cn Try.prog 56 #[.pointer x0, .int .u64 (IntKind.u64.wrap (x1)), .int .i64 8] M fun v6' N6' =>
      Q (.int .i64 0) N6'))) :
    A35_1 x0 x1 M Q := by
  intro g2 g3 g4 g5 g6 g7 g8 g9 g10 g11 g12 g13 g14 g15 g16 g17 g18 g19 g20 g21 g22 g23 g24 g25 g26
  refine Rn.seq k35_22 (Rn.seq k35_23 (Rn.region k35_24 (fun call K => r35_5) (Rch.leaf ?_)))
  refine Rn.cnd (v := decide (x1 > 127)) ⟨c35_25, rfl, by kernel_rfl⟩ (fun h => ?_) (fun h => ?_)
  · replace H := H.1 (of_decide_eq_true h)
    refine Rn.skip k35_26 (Rn.seq k35_27 (Rn.block k35_28 (Rn.region k35_29 (fun call K => r35_7) (Rch.call H fun v5' N5' H => Rch.leaf (Rn.blk (Rn.region k35_30 (fun call K => r35_6) (Rch.leaf (Rn.lp ?_))))))))
    exact H _ _ _ _ _ _ _ _ _ _ _ _ _ _ _ _ _ _ _ _ _ _ _ _ _
  · replace H := H.2 (of_decide_eq_false h)
    refine Rn.exit k35_31 rfl (Rn.seq k35_32 (Rn.region k35_33 (fun call K => r35_8) (Rch.call H fun v6' N6' H => Rch.leaf (Rn.seq k35_34 (Rn.region k35_35 (fun call K => r35_9) (Rch.leaf ?_))))))
    exact Rn.ret k35_36 e35 H


/-! ### (*zoetrope/bits.Writer).Align: function 36 -/
noncomputable abbrev P36 (p : List Nat) : Code := subC (codeOf Try.f36) p
noncomputable abbrev O36 (p : List Nat) : Array Oper := opsOf (subC (codeOf Try.f36) p)
theorem b36 : Try.prog.funcs[36]? = some Try.f36 ∧ (Orc.tab Try.prog).lookup 36 = none := ⟨by kernel_rfl, by kernel_rfl⟩
theorem d36 : Try.f36.body = some (P36 []) := by kernel_rfl
theorem t36 {x0 : Option Addr} : #[.pointer x0] ++ Array.replicate (Try.f36.ntmps - (#[.pointer x0] : Array Value).size) undef = #[.pointer x0,undef,undef,undef,undef,undef,undef,undef,undef] := by kernel_rfl
theorem k36_0 : P36 [] = .seq (P36 [0]) (P36 [1]) := by kernel_rfl
theorem k36_1 : P36 [0] = .region 0 (O36 [0]) false := by kernel_rfl
theorem r36_0 {M : Mem} {call : CallM} {K : Array Value → Mem → R} :
    opsK Try.prog (fun _ => call) (O36 [0]) (O36 [0]).toList 0 #[g0,g1,g2,g3,g4,g5,g6,g7,g8] M K = K #[g0,g1,.int .i64 0,g3,g4,g5,g6,g7,g8] M := by kernel_rfl
theorem k36_2 : P36 [1] = .seq (P36 [1,0]) (P36 [1,1]) := by kernel_rfl
theorem k36_3 : P36 [1,0] = .seq (P36 [1,0,0]) (P36 [1,0,1]) := by kernel_rfl
theorem k36_4 : P36 [1,0,0] = .region 1 (O36 [1,0,0]) false := by kernel_rfl
theorem r36_1 {x0 : Option Addr} {M : Mem} {call : CallM} {K : Array Value → Mem → R} :
    opsK Try.prog (fun _ => call) (O36 [1,0,0]) (O36 [1,0,0]).toList 0 #[.pointer x0,g1,g2,g3,g4,g5,g6,g7,g8] M K = (call 43 #[.pointer x0] M).bind fun r_1 => (asB r_1.1).bind fun b_2 => K #[.pointer x0,g1,g2,.pointer x0,.bool b_2,.bool (!b_2),g6,g7,g8] r_1.2 := by kernel_rfl
theorem c36_5 : P36 [1,0,1] = .cond (.tmp 5) (P36 [1,0,1,0]) (P36 [1,0,1,1]) := by kernel_rfl
theorem k36_6 : P36 [1,0,1,0] = .seq (P36 [1,0,1,0,0]) (P36 [1,0,1,0,1]) := by kernel_rfl
theorem k36_7 : P36 [1,0,1,0,0] = .region 2 (O36 [1,0,1,0,0]) false := by kernel_rfl
theorem r36_2 {M : Mem} {call : CallM} {K : Array Value → Mem → R} :
    opsK Try.prog (fun _ => call) (O36 [1,0,1,0,0]) (O36 [1,0,1,0,0]).toList 0 #[g0,g1,g2,g3,g4,g5,g6,g7,g8] M K = K #[g0,g1,.int .i64 1,g3,g4,g5,g6,g7,g8] M := by kernel_rfl
theorem k36_8 : P36 [1,0,1,0,1] = .ret := by kernel_rfl
theorem e36 {M : Mem} : finish Try.prog Try.f36 #[g0,g1,g2,g3,g4,g5,g6,g7,g8] M = some (g2, M) := by kernel_rfl
theorem k36_10 : P36 [1,0,1,1] = .skip := by kernel_rfl
theorem k36_11 : P36 [1,1] = .seq (P36 [1,1,0]) (P36 [1,1,1]) := by kernel_rfl
theorem k36_12 : P36 [1,1,0] = .region 3 (O36 [1,1,0]) false := by kernel_rfl
theorem r36_3 {x0 : Option Addr} {M : Mem} {call : CallM} {K : Array Value → Mem → R} :
    opsK Try.prog (fun _ => call) (O36 [1,1,0]) (O36 [1,1,0]).toList 0 #[.pointer x0,g1,g2,g3,g4,g5,g6,g7,g8] M K = (x0).bind fun a_1 => (M.put a_1.block (a_1.off + 1) (.int .i64 0)).bind fun M_2 => K #[.pointer x0,g1,g2,g3,g4,g5,.pointer x0,.pointer (some a_1),.pointer (some ⟨a_1.block, a_1.off + 1, none⟩)] M_2 := by kernel_rfl
theorem k36_13 : P36 [1,1,1] = .seq (P36 [1,1,1,0]) (P36 [1,1,1,1]) := by kernel_rfl
theorem k36_14 : P36 [1,1,1,0] = .region 4 (O36 [1,1,1,0]) false := by kernel_rfl
theorem r36_4 {M : Mem} {call : CallM} {K : Array Value → Mem → R} :
    opsK Try.prog (fun _ => call) (O36 [1,1,1,0]) (O36 [1,1,1,0]).toList 0 #[g0,g1,g2,g3,g4,g5,g6,g7,g8] M K = K #[g0,g1,.int .i64 0,g3,g4,g5,g6,g7,g8] M := by kernel_rfl
theorem k36_15 : P36 [1,1,1,1] = .ret := by kernel_rfl
theorem w36_0 {x0 : Option Addr} {M : Mem} {Q : Value → Mem → Prop} (H :
    Cn Try.prog 43 #[.pointer x0] M fun v1' N1' =>
     ∃ b2', asB v1' = some b2' ∧
     (((!b2') = true →
      Q (.int .i64 1) N1') ∧
      ((!b2') = false →
      ∃ a3', x0 = some a3' ∧
      ∃ M4', N1'.put a3'.block (a3'.off + 1) (.int .i64 0) = some M4' ∧
      Q (.int .i64 0) M4'))) :
    Cn Try.prog 36 #[.pointer x0] M Q := by
  refine Cn.of b36 d36 t36 ?_
  refine Rn.seq k36_0 (Rn.region k36_1 (fun call K => r36_0) (Rch.leaf (Rn.seq k36_2 (Rn.seq k36_3 (Rn.region k36_4 (fun call K => r36_1) (Rch.call H fun v1' N1' H => Rch.ex H fun b2' H => Rch.leaf ?_))))))
  refine Rn.cnd (v := !b2') ⟨c36_5, rfl, by kernel_rfl⟩ (fun h => ?_) (fun h => ?_)
  · replace H := H.1 (h)
    refine Rn.seq k36_6 (Rn.region k36_7 (fun call K => r36_2) (Rch.leaf ?_))
    exact Rn.ret k36_8 e36 H
  · replace H := H.2 (h)
    refine Rn.skip k36_10 (Rn.seq k36_11 (Rn.region k36_12 (fun call K => r36_3) (Rch.ex H fun a3' H => Rch.ex H fun M4' H => Rch.leaf (Rn.seq k36_13 (Rn.region k36_14 (fun call K => r36_4) (Rch.leaf ?_))))))
    exact Rn.ret k36_15 e36 H


end Go.Zt
