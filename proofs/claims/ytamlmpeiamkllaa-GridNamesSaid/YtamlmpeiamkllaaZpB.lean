/- The functions' walks: for each function and each loop a rule of what it comes to. Printed by zw2.py. -/
import Derived.Test.YtamlmpeiamkllaaProg
import Derived.Test.YtamlmpeiamkllaaZpA
import Derived.Test.YtamlmpeiamkllaaZrT
set_option linter.unusedVariables false
set_option maxRecDepth 100000
namespace Go.Zt
open Go Go.Sim Go.Proofs

def tyZpB0 : List Sc := [.int .i64, .int .i64, .int .i64, .int .i64, .bool, .bool, .int .i64, .int .i64, .int .i64, .int .i64, .int .i64, .int .i64, .int .i64, .bool, .int .i64, .int .i64, .int .i64, .int .i64, .int .i64, .int .i64, .int .i64, .int .i64, .bool]
/-! ### zoetrope/grid.span: function 23 -/
def K23 : List (List It × List Nat) := [([.rg [1,0] 7, .code [1,1]], [0, 1, 11]), ([.rg [1,0] 12, .code [1,1]], [0, 1, 16]), ([.rg [1,0] 16, .code [1,1]], [0, 1, 20]), ([.rg [1,0] 20, .code [1,1]], [0, 1, 24]), ([.rg [1,0] 25, .code [1,1]], [0, 1, 29])]
def Z23 : List (List Nat × List Nat) := [([1,0], [7, 12, 16, 20, 25, 31])]
theorem b23 : Try.prog.funcs[23]? = some Try.f23 ∧ (Orc.tab Try.prog).lookup 23 = none ∧ Try.f23.body = some (codeOf Try.f23) := ⟨by kernel_rfl, by kernel_rfl, by kernel_rfl⟩
def A23_1 (x0 x1 : Int) (x11 : Bool) (M : Mem) (Q : Value → Mem → Prop) : Prop := LvP Try.prog Try.f23 [(0, .int .i64 x0), (1, .int .i64 x1), (11, .bool x11)] [.rg [1,0] 7, .code [1,1]] M Q
def A23_2 (x0 x1 : Int) (x16 : Bool) (M : Mem) (Q : Value → Mem → Prop) : Prop := LvP Try.prog Try.f23 [(0, .int .i64 x0), (1, .int .i64 x1), (16, .bool x16)] [.rg [1,0] 12, .code [1,1]] M Q
def A23_3 (x0 x1 : Int) (x20 : Bool) (M : Mem) (Q : Value → Mem → Prop) : Prop := LvP Try.prog Try.f23 [(0, .int .i64 x0), (1, .int .i64 x1), (20, .bool x20)] [.rg [1,0] 16, .code [1,1]] M Q
def A23_4 (x0 x1 : Int) (x24 : Bool) (M : Mem) (Q : Value → Mem → Prop) : Prop := LvP Try.prog Try.f23 [(0, .int .i64 x0), (1, .int .i64 x1), (24, .bool x24)] [.rg [1,0] 20, .code [1,1]] M Q
def A23_5 (x0 x1 : Int) (x29 : Bool) (M : Mem) (Q : Value → Mem → Prop) : Prop := LvP Try.prog Try.f23 [(0, .int .i64 x0), (1, .int .i64 x1), (29, .bool x29)] [.rg [1,0] 25, .code [1,1]] M Q
theorem w23_0 {x0 x1 : Int} {M : Mem} {Q : Value → Mem → Prop} (H :
    cnd (decide (x0 ≥ 0)) (
     A23_1 x0 x1 (decide (x0 ≤ 192)) M Q) (
     A23_1 x0 x1 false M Q)) :
    Cn Try.prog 23 #[.int .i64 x0, .int .i64 x1] M Q :=
  Cn.mk (cuts := K23) (sp := Z23) 900 b23 rfl rfl H fun G => by kernel_rfl

theorem w23_1 {x0 x1 : Int} {x11 : Bool} {M : Mem} {Q : Value → Mem → Prop} (H :
    cnd x11 (
     A23_2 x0 x1 ((x0.tmod 64) == 0) M Q) (
     A23_2 x0 x1 false M Q)) :
    A23_1 x0 x1 x11 M Q :=
  LvP.mk (cuts := K23) (sp := Z23) 900 H fun G => by kernel_rfl

theorem w23_2 {x0 x1 : Int} {x16 : Bool} {M : Mem} {Q : Value → Mem → Prop} (H :
    cnd x16 (
     A23_3 x0 x1 (decide (x1 ≥ 8)) M Q) (
     A23_3 x0 x1 false M Q)) :
    A23_2 x0 x1 x16 M Q :=
  LvP.mk (cuts := K23) (sp := Z23) 900 H fun G => by kernel_rfl

theorem w23_3 {x0 x1 : Int} {x20 : Bool} {M : Mem} {Q : Value → Mem → Prop} (H :
    cnd x20 (
     A23_4 x0 x1 (decide (x1 ≤ 256)) M Q) (
     A23_4 x0 x1 false M Q)) :
    A23_3 x0 x1 x20 M Q :=
  LvP.mk (cuts := K23) (sp := Z23) 900 H fun G => by kernel_rfl

theorem w23_4 {x0 x1 : Int} {x24 : Bool} {M : Mem} {Q : Value → Mem → Prop} (H :
    cnd x24 (
     A23_5 x0 x1 ((x1.tmod 8) == 0) M Q) (
     A23_5 x0 x1 false M Q)) :
    A23_4 x0 x1 x24 M Q :=
  LvP.mk (cuts := K23) (sp := Z23) 900 H fun G => by kernel_rfl

theorem w23_5 {x0 x1 : Int} {x29 : Bool} {M : Mem} {Q : Value → Mem → Prop} (H :
    cnd x29 (
     Q (.bool (decide ((IntKind.i64.wrap (x0 + x1)) ≤ 256))) M) (
     Q (.bool false) M)) :
    A23_5 x0 x1 x29 M Q :=
  LvP.mk (cuts := K23) (sp := Z23) 900 H fun G => by kernel_rfl


/-! ### zoetrope/grid.New: function 8 -/
def K8 : List (List It × List Nat) := [([.code [1,0,1], .code [1,1]], [1, 17])]
def Z8 : List (List Nat × List Nat) := []
theorem b8 : Try.prog.funcs[8]? = some Try.f8 ∧ (Orc.tab Try.prog).lookup 8 = none ∧ Try.f8.body = some (codeOf Try.f8) := ⟨by kernel_rfl, by kernel_rfl, by kernel_rfl⟩
def A8_1 (x1 : Option Addr) (x17 : Bool) (M : Mem) (Q : Value → Mem → Prop) : Prop := LvP Try.prog Try.f8 [(1, .pointer x1), (17, .bool x17)] [.code [1,0,1], .code [1,1]] M Q
theorem w8_0 {x0_0 x0_1 x0_2 x0_3 : Int} {M : Mem} {Q : Value → Mem → Prop} (H :
    onS ((M.new (.cells #[.int .i64 x0_0, .int .i64 x0_1, .int .i64 x0_2, .int .i64 x0_3] 35)).intAt .i64 (2 * M.nb.size) 0) fun x1' =>
    onS ((M.new (.cells #[.int .i64 x0_0, .int .i64 x0_1, .int .i64 x0_2, .int .i64 x0_3] 35)).intAt .i64 (2 * M.nb.size) (0 + 2)) fun x2' =>
    Cn Try.prog 23 #[.int .i64 x1', .int .i64 x2'] (M.new (.cells #[.int .i64 x0_0, .int .i64 x0_1, .int .i64 x0_2, .int .i64 x0_3] 35)) fun v3' N3' =>
     tyS (asB v3') fun b4' =>
     cnd (!b4') (
      A8_1 (some ⟨2 * M.nb.size, 0, none⟩) true N3' Q) (
      onS (N3'.intAt .i64 (2 * M.nb.size) (0 + 1)) fun x5' =>
      onS (N3'.intAt .i64 (2 * M.nb.size) (0 + 3)) fun x6' =>
      Cn Try.prog 23 #[.int .i64 x5', .int .i64 x6'] N3' fun v7' N7' =>
       tyS (asB v7') fun b8' =>
       A8_1 (some ⟨2 * M.nb.size, 0, none⟩) (!b8') N7' Q)) :
    Cn Try.prog 8 #[.agg #[.int .i64 x0_0, .int .i64 x0_1, .int .i64 x0_2, .int .i64 x0_3]] M Q :=
  Cn.mk (cuts := K8) (sp := Z8) 900 b8 rfl rfl H fun G => by kernel_rfl

theorem w8_1 {x1 : Option Addr} {x17 : Bool} {M : Mem} {Q : Value → Mem → Prop} (H :
    cnd x17 (
     Q (.tuple #[.pointer none, .int .i64 2]) M) (
     adS x1 fun a9' =>
     onS (M.intAt .i64 a9'.block a9'.off) fun x10' =>
     onS (M.intAt .i64 a9'.block (a9'.off + 1)) fun x11' =>
     onS (M.intAt .i64 a9'.block (a9'.off + 2)) fun x12' =>
     onS (M.intAt .i64 a9'.block (a9'.off + 3)) fun x13' =>
     Q (.tuple #[.pointer (some ⟨2 * (M.new (.map #[] 0)).nb.size, 0, none⟩), .int .i64 0]) ((M.new (.map #[] 0)).new (.cells #[.bool true, .int .i64 x10', .int .i64 x11', .int .i64 x12', .int .i64 x13', .slice none 0 0, .map (some (2 * M.nb.size))] 63)))) :
    A8_1 x1 x17 M Q :=
  LvP.mk (cuts := K8) (sp := Z8) 900 H fun G => by kernel_rfl


/-! ### (*zoetrope/grid.Grid).none: function 24 -/
def K24 : List (List It × List Nat) := []
def Z24 : List (List Nat × List Nat) := []
theorem b24 : Try.prog.funcs[24]? = some Try.f24 ∧ (Orc.tab Try.prog).lookup 24 = none ∧ Try.f24.body = some (codeOf Try.f24) := ⟨by kernel_rfl, by kernel_rfl, by kernel_rfl⟩
theorem w24_0 {x0 : Option Addr} {M : Mem} {Q : Value → Mem → Prop} (H :
    cnd x0.isNone (
     Q (.bool true) M) (
     adS x0 fun a1' =>
     onS (M.boolAt a1'.block a1'.off) fun b2' =>
     Q (.bool (!b2')) M)) :
    Cn Try.prog 24 #[.pointer x0] M Q :=
  Cn.mk (cuts := K24) (sp := Z24) 900 b24 rfl rfl H fun G => by kernel_rfl


/-! ### (*zoetrope/grid.Grid).in: function 26 -/
def K26 : List (List It × List Nat) := [([.rg [1,0] 23, .code [1,1]], [0, 2, 29]), ([.rg [1,0] 32, .code [1,1]], [0, 2, 38])]
def Z26 : List (List Nat × List Nat) := [([1,0], [23, 32, 47])]
theorem b26 : Try.prog.funcs[26]? = some Try.f26 ∧ (Orc.tab Try.prog).lookup 26 = none ∧ Try.f26.body = some (codeOf Try.f26) := ⟨by kernel_rfl, by kernel_rfl, by kernel_rfl⟩
def A26_1 (x0 : Option Addr) (x2 : Int) (x29 : Bool) (M : Mem) (Q : Value → Mem → Prop) : Prop := LvP Try.prog Try.f26 [(0, .pointer x0), (2, .int .i64 x2), (29, .bool x29)] [.rg [1,0] 23, .code [1,1]] M Q
def A26_2 (x0 : Option Addr) (x2 : Int) (x38 : Bool) (M : Mem) (Q : Value → Mem → Prop) : Prop := LvP Try.prog Try.f26 [(0, .pointer x0), (2, .int .i64 x2), (38, .bool x38)] [.rg [1,0] 32, .code [1,1]] M Q
theorem w26_0 {x0 : Option Addr} {x1 x2 : Int} {M : Mem} {Q : Value → Mem → Prop} (H :
    adS x0 fun a1' =>
    onS (M.intAt .i64 a1'.block (a1'.off + 1)) fun x2' =>
    cnd (decide (x1 ≥ x2')) (
     adS x0 fun a3' =>
     onS (M.intAt .i64 a3'.block (a3'.off + 1)) fun x4' =>
     adS x0 fun a5' =>
     onS (M.intAt .i64 a5'.block (a5'.off + 3)) fun x6' =>
     A26_1 x0 x2 (decide ((IntKind.i64.wrap (x1 - x4')) < x6')) M Q) (
     A26_1 x0 x2 false M Q)) :
    Cn Try.prog 26 #[.pointer x0, .int .i64 x1, .int .i64 x2] M Q :=
  Cn.mk (cuts := K26) (sp := Z26) 900 b26 rfl rfl H fun G => by kernel_rfl

theorem w26_1 {x0 : Option Addr} {x2 : Int} {x29 : Bool} {M : Mem} {Q : Value → Mem → Prop} (H :
    cnd x29 (
     adS x0 fun a7' =>
     onS (M.intAt .i64 a7'.block (a7'.off + 2)) fun x8' =>
     A26_2 x0 x2 (decide (x2 ≥ x8')) M Q) (
     A26_2 x0 x2 false M Q)) :
    A26_1 x0 x2 x29 M Q :=
  LvP.mk (cuts := K26) (sp := Z26) 900 H fun G => by kernel_rfl

theorem w26_2 {x0 : Option Addr} {x2 : Int} {x38 : Bool} {M : Mem} {Q : Value → Mem → Prop} (H :
    cnd x38 (
     adS x0 fun a9' =>
     onS (M.intAt .i64 a9'.block (a9'.off + 2)) fun x10' =>
     adS x0 fun a11' =>
     onS (M.intAt .i64 a11'.block (a11'.off + 4)) fun x12' =>
     Q (.bool (decide ((IntKind.i64.wrap (x2 - x10')) < x12'))) M) (
     Q (.bool false) M)) :
    A26_2 x0 x2 x38 M Q :=
  LvP.mk (cuts := K26) (sp := Z26) 900 H fun G => by kernel_rfl


/-! ### slices.Index[[]int,int]: function 44 -/
def K44 : List (List It × List Nat) := [([.code [1,0,1,0,0], .lp [1,0,1,0,0], .blk 0, .code [1,1]], [0, 1, 7, 8])]
def Z44 : List (List Nat × List Nat) := []
theorem b44 : Try.prog.funcs[44]? = some Try.f44 ∧ (Orc.tab Try.prog).lookup 44 = none ∧ Try.f44.body = some (codeOf Try.f44) := ⟨by kernel_rfl, by kernel_rfl, by kernel_rfl⟩
def A44_1 (Ax0 : Option Addr) (lx0 cx0 : Nat) (x1 x7 x8 : Int) (M : Mem) (Q : Value → Mem → Prop) : Prop := LvP Try.prog Try.f44 [(0, .slice Ax0 lx0 cx0), (1, .int .i64 x1), (7, .int .i64 x7), (8, .int .i64 x8)] [.code [1,0,1,0,0], .lp [1,0,1,0,0], .blk 0, .code [1,1]] M Q
theorem w44_0 {Ax0 : Option Addr} {lx0 cx0 : Nat} {x1 : Int} {M : Mem} {Q : Value → Mem → Prop} (H :
    A44_1 Ax0 lx0 cx0 x1 (lx0 : Int) 0 M Q) :
    Cn Try.prog 44 #[.slice Ax0 lx0 cx0, .int .i64 x1] M Q :=
  Cn.mk (cuts := K44) (sp := Z44) 900 b44 rfl rfl H fun G => by kernel_rfl

theorem w44_1 {Ax0 : Option Addr} {lx0 cx0 : Nat} {x1 x7 x8 : Int} {M : Mem} {Q : Value → Mem → Prop} (H :
    cnd (decide (x8 < x7)) (
     ixS (idxA Ax0 lx0 1 x8) fun a1' =>
     onS (M.intAt .i64 a1'.block a1'.off) fun x2' =>
     cnd (x1 == x2') (
      Q (.int .i64 x8) M) (
      A44_1 Ax0 lx0 cx0 x1 x7 (IntKind.i64.wrap (x8 + 1)) M Q)) (
     Q (.int .i64 (-1)) M)) :
    A44_1 Ax0 lx0 cx0 x1 x7 x8 M Q :=
  LvP.mk (cuts := K44) (sp := Z44) 900 H fun G => by kernel_rfl


/-! ### slices.Contains[[]int,int]: function 41 -/
def K41 : List (List It × List Nat) := []
def Z41 : List (List Nat × List Nat) := []
theorem b41 : Try.prog.funcs[41]? = some Try.f41 ∧ (Orc.tab Try.prog).lookup 41 = none ∧ Try.f41.body = some (codeOf Try.f41) := ⟨by kernel_rfl, by kernel_rfl, by kernel_rfl⟩
theorem w41_0 {Ax0 : Option Addr} {lx0 cx0 : Nat} {x1 : Int} {M : Mem} {Q : Value → Mem → Prop} (H :
    Cn Try.prog 44 #[.slice Ax0 lx0 cx0, .int .i64 x1] M fun v1' N1' =>
     tyS (asI .i64 v1') fun x2' =>
     Q (.bool (decide (x2' ≥ 0))) N1') :
    Cn Try.prog 41 #[.slice Ax0 lx0 cx0, .int .i64 x1] M Q :=
  Cn.mk (cuts := K41) (sp := Z41) 900 b41 rfl rfl H fun G => by kernel_rfl


/-! ### zoetrope/grid.sideMay: function 25 -/
def K25 : List (List It × List Nat) := []
def Z25 : List (List Nat × List Nat) := []
theorem b25 : Try.prog.funcs[25]? = some Try.f25 ∧ (Orc.tab Try.prog).lookup 25 = none ∧ Try.f25.body = some (codeOf Try.f25) := ⟨by kernel_rfl, by kernel_rfl, by kernel_rfl⟩
theorem w25_0 {x0 : Int} {M : Mem} {Q : Value → Mem → Prop} (H :
    Cn Try.prog 41 #[.slice (some ⟨2 * M.nb.size, 0, none⟩) 4 4, .int .i64 x0] (M.new (.cells #[.int .i64 8, .int .i64 16, .int .i64 32, .int .i64 64] 3)) fun v1' N1' =>
     tyS (asB v1') fun b2' =>
     Q (.bool b2') N1') :
    Cn Try.prog 25 #[.int .i64 x0] M Q :=
  Cn.mk (cuts := K25) (sp := Z25) 900 b25 rfl rfl H fun G => by kernel_rfl


/-! ### zoetrope/grid.placeOf: function 27 -/
def K27 : List (List It × List Nat) := []
def Z27 : List (List Nat × List Nat) := []
theorem b27 : Try.prog.funcs[27]? = some Try.f27 ∧ (Orc.tab Try.prog).lookup 27 = none ∧ Try.f27.body = some (codeOf Try.f27) := ⟨by kernel_rfl, by kernel_rfl, by kernel_rfl⟩
theorem w27_0 {x0 x1 : Int} {M : Mem} {Q : Value → Mem → Prop} (H :
    stP (some 2) #[.int .i64 (IntKind.i64.wrap (x0.tdiv 8)), .int .i64 (IntKind.i64.wrap (x1.tdiv 8))] (M.new (.cells #[.int .i64 0, .int .i64 0] 72)) (2 * M.nb.size) 0 fun M1' =>
    onS (M1'.intAt .i64 (2 * M.nb.size) 0) fun x2' =>
    onS (M1'.intAt .i64 (2 * M.nb.size) (0 + 1)) fun x3' =>
    Q (.agg #[.int .i64 (x2'), .int .i64 (x3')]) M1') :
    Cn Try.prog 27 #[.int .i64 x0, .int .i64 x1] M Q :=
  Cn.mk (cuts := K27) (sp := Z27) 900 b27 rfl rfl H fun G => by kernel_rfl


/-! ### slices.Clone[[]zoetrope/api.Block,zoetrope/api.Block]: function 33 -/
def K33 : List (List It × List Nat) := []
def Z33 : List (List Nat × List Nat) := []
theorem b33 : Try.prog.funcs[33]? = some Try.f33 ∧ (Orc.tab Try.prog).lookup 33 = none ∧ Try.f33.body = some (codeOf Try.f33) := ⟨by kernel_rfl, by kernel_rfl, by kernel_rfl⟩
theorem w33_0 {Ax0 : Option Addr} {lx0 cx0 : Nat} {M : Mem} {Q : Value → Mem → Prop} (H :
    cnd Ax0.isNone (
     Q (.slice none 0 0) M) (
     meS (appendP Try.prog #[43, 43] (.slice (some ⟨2 * M.nb.size, 0, none⟩) 0 0) (.slice Ax0 lx0 cx0) (M.new (.cells #[] 27))) fun r1' =>
     tyS (asS r1'.1) fun s2' =>
     Q (.slice s2'.1 (s2'.2.1) (s2'.2.2)) r1'.2)) :
    Cn Try.prog 33 #[.slice Ax0 lx0 cx0] M Q :=
  Cn.mk (cuts := K33) (sp := Z33) 900 b33 rfl rfl H fun G => by kernel_rfl


/-! ### (*zoetrope/grid.Grid).Blocks: function 15 -/
def K15 : List (List It × List Nat) := []
def Z15 : List (List Nat × List Nat) := []
theorem b15 : Try.prog.funcs[15]? = some Try.f15 ∧ (Orc.tab Try.prog).lookup 15 = none ∧ Try.f15.body = some (codeOf Try.f15) := ⟨by kernel_rfl, by kernel_rfl, by kernel_rfl⟩
theorem w15_0 {x0 : Option Addr} {M : Mem} {Q : Value → Mem → Prop} (H :
    Cn Try.prog 24 #[.pointer x0] M fun v1' N1' =>
     tyS (asB v1') fun b2' =>
     cnd b2' (
      Q (.slice none 0 0) N1') (
      adS x0 fun a3' =>
      onS (N1'.slAt a3'.block (a3'.off + 5)) fun s4' =>
      Cn Try.prog 33 #[.slice s4'.1 (s4'.2.1) (s4'.2.2)] N1' fun v5' N5' =>
       tyS (asS v5') fun s6' =>
       Q (.slice s6'.1 (s6'.2.1) (s6'.2.2)) N5')) :
    Cn Try.prog 15 #[.pointer x0] M Q :=
  Cn.mk (cuts := K15) (sp := Z15) 900 b15 rfl rfl H fun G => by kernel_rfl


/-! ### zoetrope/zoetroperef00.Bring: function 13 -/
def K13 : List (List It × List Nat) := []
def Z13 : List (List Nat × List Nat) := []
theorem b13 : Try.prog.funcs[13]? = some Try.f13 ∧ (Orc.tab Try.prog).lookup 13 = none ∧ Try.f13.body = some (codeOf Try.f13) := ⟨by kernel_rfl, by kernel_rfl, by kernel_rfl⟩
theorem w13_0 {x0 x1 : Int} {M : Mem} {Q : Value → Mem → Prop} (H :
    cnd (decide (x1 ≤ 0)) (
     Q (.int .i64 0) M) (
     puS (binV Try.prog .rem 3 3 (.int .i64 x0) (.int .i64 x1)) fun v1' =>
     tyS (asI .i64 v1') fun x2' =>
     cnd (decide (x2' < 0)) (
      Q (.int .i64 (IntKind.i64.wrap (x2' + x1))) M) (
      Q (.int .i64 (x2')) M))) :
    Cn Try.prog 13 #[.int .i64 x0, .int .i64 x1] M Q :=
  Cn.mk (cuts := K13) (sp := Z13) 900 b13 rfl rfl H fun G => by kernel_rfl


/-! ### zoetrope/zoetropelaw17.usual: function 22 -/
def K22 : List (List It × List Nat) := []
def Z22 : List (List Nat × List Nat) := []
theorem b22 : Try.prog.funcs[22]? = some Try.f22 ∧ (Orc.tab Try.prog).lookup 22 = none ∧ Try.f22.body = some (codeOf Try.f22) := ⟨by kernel_rfl, by kernel_rfl, by kernel_rfl⟩
theorem w22_0 {M : Mem} {Q : Value → Mem → Prop} (H :
    stP (some 23) #[.int .i64 0, .int .i64 0, .int .i64 16, .int .i64 16, .bool true, .bool false, .int .i64 0, .int .i64 0, .int .i64 0, .int .i64 0, .int .i64 0, .int .i64 0, .int .i64 0, .bool false, .int .i64 0, .int .i64 0, .int .i64 0, .int .i64 0, .int .i64 0, .int .i64 0, .int .i64 0, .int .i64 0, .bool false] ((M.new (.cells #[.int .i64 0, .int .i64 0, .int .i64 0, .int .i64 0, .bool false, .bool false, .int .i64 0, .int .i64 0, .int .i64 0, .int .i64 0, .int .i64 0, .int .i64 0, .int .i64 0, .bool false, .int .i64 0, .int .i64 0, .int .i64 0, .int .i64 0, .int .i64 0, .int .i64 0, .int .i64 0, .int .i64 0, .bool false] 27)).new (.cells #[.int .i64 0, .int .i64 0, .int .i64 0, .int .i64 0, .bool false, .bool false, .int .i64 0, .int .i64 0, .int .i64 0, .int .i64 0, .int .i64 0, .int .i64 0, .int .i64 0, .bool false, .int .i64 0, .int .i64 0, .int .i64 0, .int .i64 0, .int .i64 0, .int .i64 0, .int .i64 0, .int .i64 0, .bool false] 27)) (2 * M.nb.size) 0 fun M1' =>
    stP (some 23) #[.int .i64 16, .int .i64 0, .int .i64 8, .int .i64 8, .bool false, .bool true, .int .i64 0, .int .i64 0, .int .i64 0, .int .i64 0, .int .i64 0, .int .i64 0, .int .i64 0, .bool false, .int .i64 1, .int .i64 0, .int .i64 0, .int .i64 3, .int .i64 (-4), .int .i64 0, .int .i64 0, .int .i64 0, .bool false] M1' (2 * (M.new (.cells #[.int .i64 0, .int .i64 0, .int .i64 0, .int .i64 0, .bool false, .bool false, .int .i64 0, .int .i64 0, .int .i64 0, .int .i64 0, .int .i64 0, .int .i64 0, .int .i64 0, .bool false, .int .i64 0, .int .i64 0, .int .i64 0, .int .i64 0, .int .i64 0, .int .i64 0, .int .i64 0, .int .i64 0, .bool false] 27)).nb.size) 0 fun M2' =>
    ldP tyZpB0 M2' (2 * M.nb.size) 0 fun vs3' =>
    ldP tyZpB0 M2' (2 * (M.new (.cells #[.int .i64 0, .int .i64 0, .int .i64 0, .int .i64 0, .bool false, .bool false, .int .i64 0, .int .i64 0, .int .i64 0, .int .i64 0, .int .i64 0, .int .i64 0, .int .i64 0, .bool false, .int .i64 0, .int .i64 0, .int .i64 0, .int .i64 0, .int .i64 0, .int .i64 0, .int .i64 0, .int .i64 0, .bool false] 27)).nb.size) 0 fun vs4' =>
    Q (.tuple #[.agg vs3'.toArray, .agg vs4'.toArray]) M2') :
    Cn Try.prog 22 #[] M Q :=
  Cn.mk (cuts := K22) (sp := Z22) 900 b22 rfl rfl H fun G => by kernel_rfl


end Go.Zt
