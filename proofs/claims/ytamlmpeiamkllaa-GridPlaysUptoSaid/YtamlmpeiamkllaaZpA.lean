/- Layer 17: what is known ahead: the machine has run "awake" to its end. -/
import Derived.Test.YtamlmpeiamkllaaProg
import Derived.Test.YtamlmpeiamkllaaZrT
set_option maxRecDepth 100000
namespace Go.Zt
open Go Go.Sim Go.Proofs Go.RowKit

theorem named : Named Try.prog := named_of (by kernel_rfl)
theorem mixed : Try.prog.follows .mixedOrders = true := by kernel_rfl
instance : Orc Try.prog := ⟨[(7, .bool true)]⟩
theorem known : Known Try.prog (Orc.tab Try.prog) := by
  intro f v h
  have h' : (match f == 7 with | true => some (Value.bool true) | false => none) = some v := h
  cases hf : f == 7 with
  | true =>
    rw [hf] at h'
    obtain rfl := Option.some.inj h'
    obtain rfl := eq_of_beq hf
    exact ⟨rfl, fun w => known_of named mixed (n := 3000) rfl (fun b => by kernel_rfl) w⟩
  | false => rw [hf] at h'; cases h'
end Go.Zt

/- The functions' walks: for each function and each loop a rule of what it comes to. Printed by zw2.py. -/
set_option linter.unusedVariables false
set_option maxRecDepth 100000
namespace Go.Zt
open Go Go.Sim Go.Proofs

def tyZpB0 : List Sc := [.int .i64, .int .i64, .int .i64, .int .i64, .bool, .bool, .int .i64, .int .i64, .int .i64, .int .i64, .int .i64, .int .i64, .int .i64, .bool, .int .i64, .int .i64, .int .i64, .int .i64, .int .i64, .int .i64, .int .i64, .int .i64, .bool]
/-! ### zoetrope/grid.span: function 23 -/
def K23 : List (List It × List Nat) := [([.rg [1,0] 7, .code [1,1]], [0, 1, 11]), ([.rg [1,0] 12, .code [1,1]], [0, 1, 16]), ([.rg [1,0] 16, .code [1,1]], [0, 1, 20]), ([.rg [1,0] 20, .code [1,1]], [0, 1, 24]), ([.rg [1,0] 25, .code [1,1]], [0, 1, 29])]
def Z23 : List (List Nat × List Nat) := [([1,0], [7, 12, 16, 20, 25, 31])]
theorem b23 : Try.prog.funcs[23]? = some Try.f23 ∧ (Orc.tab Try.prog).lookup 23 = none ∧ Try.f23.body = some (codeOf Try.f23) := ⟨by kernel_rfl, by kernel_rfl, by kernel_rfl⟩
def A23_1 (x0 x1 : Int) (x11 : Bool) (M : Mem) (Q : Value → Mem → Prop) : Prop := LvP Try.prog Try.f23 [(0, .int .i64 x0), (1, .int .i64 x1), (11, .bool x11)] [.rg [1,0] 7, .code [1,1]] M Q
def A23_2 (x0 x1 : Int) (x16 : Bool) (M : Mem) (Q : Value → Mem → Prop) : Prop := LvP Try.prog Try.f23 [(0, .int .i64 x0), (1, .int .i64 x1), (16, .bool x16)] [.rg [1,0] 12, .code [1,1]] M Q
def A23_3 (x0 x1 : Int) (x20 : Bool) (M : Mem) (Q : Value → Mem → Prop) : Prop := LvP Try.prog Try.f23 [(0, .int .i64 x0), (1, .int .i64 x1), (20, .bool x20)] [.rg [1,0] 16, .code [1,1]] M Q
def A23_4 (x0 x1 : Int) (x24 : Bool) (M : Mem) (Q : Value → Mem → Prop) : Prop := LvP Try.prog Try.f23 [(0, .int .i64 x0), (1, .int .i64 x1), (24, .bool x24)] [.rg [1,0] 20, .code [1,1]] M Q
def A23_5 (x0 x1 : Int) (x29 : Bool) (M : Mem) (Q : Value → Mem → Prop) : Prop := LvP Try.prog Try.f23 [(0, .int .i64 x0), (1, .int .i64 x1), (29, .bool x29)] [.rg [1,0] 25, .code [1,1]] M Q
theorem w23_0 {x0 x1 : Int} {M : Mem} {Q : Value → Mem → Prop} (H :
    cnd (decide (x0 ≥ 0)) (
     A23_1 x0 x1 (decide (x0 ≤ 192)) M Q) (
     A23_1 x0 x1 false M Q)) :
    Cn Try.prog 23 #[.int .i64 x0, .int .i64 x1] M Q :=
  Cn.mk (cuts := K23) (sp := Z23) 900 b23 rfl rfl H fun G => by kernel_rfl

theorem w23_1 {x0 x1 : Int} {x11 : Bool} {M : Mem} {Q : Value → Mem → Prop} (H :
    cnd x11 (
     A23_2 x0 x1 ((x0.tmod 64) == 0) M Q) (
     A23_2 x0 x1 false M Q)) :
    A23_1 x0 x1 x11 M Q :=
  LvP.mk (cuts := K23) (sp := Z23) 900 H fun G => by kernel_rfl

theorem w23_2 {x0 x1 : Int} {x16 : Bool} {M : Mem} {Q : Value → Mem → Prop} (H :
    cnd x16 (
     A23_3 x0 x1 (decide (x1 ≥ 8)) M Q) (
     A23_3 x0 x1 false M Q)) :
    A23_2 x0 x1 x16 M Q :=
  LvP.mk (cuts := K23) (sp := Z23) 900 H fun G => by kernel_rfl

theorem w23_3 {x0 x1 : Int} {x20 : Bool} {M : Mem} {Q : Value → Mem → Prop} (H :
    cnd x20 (
     A23_4 x0 x1 (decide (x1 ≤ 256)) M Q) (
     A23_4 x0 x1 false M Q)) :
    A23_3 x0 x1 x20 M Q :=
  LvP.mk (cuts := K23) (sp := Z23) 900 H fun G => by kernel_rfl

theorem w23_4 {x0 x1 : Int} {x24 : Bool} {M : Mem} {Q : Value → Mem → Prop} (H :
    cnd x24 (
     A23_5 x0 x1 ((x1.tmod 8) == 0) M Q) (
     A23_5 x0 x1 false M Q)) :
    A23_4 x0 x1 x24 M Q :=
  LvP.mk (cuts := K23) (sp := Z23) 900 H fun G => by kernel_rfl

theorem w23_5 {x0 x1 : Int} {x29 : Bool} {M : Mem} {Q : Value → Mem → Prop} (H :
    cnd x29 (
     Q (.bool (decide ((IntKind.i64.wrap (x0 + x1)) ≤ 256))) M) (
     Q (.bool false) M)) :
    A23_5 x0 x1 x29 M Q :=
  LvP.mk (cuts := K23) (sp := Z23) 900 H fun G => by kernel_rfl


/-! ### zoetrope/grid.New: function 8 -/
def K8 : List (List It × List Nat) := [([.code [1,0,1], .code [1,1]], [1, 17])]
def Z8 : List (List Nat × List Nat) := []
theorem b8 : Try.prog.funcs[8]? = some Try.f8 ∧ (Orc.tab Try.prog).lookup 8 = none ∧ Try.f8.body = some (codeOf Try.f8) := ⟨by kernel_rfl, by kernel_rfl, by kernel_rfl⟩
def A8_1 (x1 : Option Addr) (x17 : Bool) (M : Mem) (Q : Value → Mem → Prop) : Prop := LvP Try.prog Try.f8 [(1, .pointer x1), (17, .bool x17)] [.code [1,0,1], .code [1,1]] M Q
theorem w8_0 {x0_0 x0_1 x0_2 x0_3 : Int} {M : Mem} {Q : Value → Mem → Prop} (H :
    onS ((M.new (.cells #[.int .i64 x0_0, .int .i64 x0_1, .int .i64 x0_2, .int .i64 x0_3] 35)).intAt .i64 (2 * M.nb.size) 0) fun x1' =>
    onS ((M.new (.cells #[.int .i64 x0_0, .int .i64 x0_1, .int .i64 x0_2, .int .i64 x0_3] 35)).intAt .i64 (2 * M.nb.size) (0 + 2)) fun x2' =>
    Cn Try.prog 23 #[.int .i64 x1', .int .i64 x2'] (M.new (.cells #[.int .i64 x0_0, .int .i64 x0_1, .int .i64 x0_2, .int .i64 x0_3] 35)) fun v3' N3' =>
     tyS (asB v3') fun b4' =>
     cnd (!b4') (
      A8_1 (some ⟨2 * M.nb.size, 0, none⟩) true N3' Q) (
      onS (N3'.intAt .i64 (2 * M.nb.size) (0 + 1)) fun x5' =>
      onS (N3'.intAt .i64 (2 * M.nb.size) (0 + 3)) fun x6' =>
      Cn Try.prog 23 #[.int .i64 x5', .int .i64 x6'] N3' fun v7' N7' =>
       tyS (asB v7') fun b8' =>
       A8_1 (some ⟨2 * M.nb.size, 0, none⟩) (!b8') N7' Q)) :
    Cn Try.prog 8 #[.agg #[.int .i64 x0_0, .int .i64 x0_1, .int .i64 x0_2, .int .i64 x0_3]] M Q :=
  Cn.mk (cuts := K8) (sp := Z8) 900 b8 rfl rfl H fun G => by kernel_rfl

theorem w8_1 {x1 : Option Addr} {x17 : Bool} {M : Mem} {Q : Value → Mem → Prop} (H :
    cnd x17 (
     Q (.tuple #[.pointer none, .int .i64 2]) M) (
     adS x1 fun a9' =>
     onS (M.intAt .i64 a9'.block a9'.off) fun x10' =>
     onS (M.intAt .i64 a9'.block (a9'.off + 1)) fun x11' =>
     onS (M.intAt .i64 a9'.block (a9'.off + 2)) fun x12' =>
     onS (M.intAt .i64 a9'.block (a9'.off + 3)) fun x13' =>
     Q (.tuple #[.pointer (some ⟨2 * (M.new (.map #[] 0)).nb.size, 0, none⟩), .int .i64 0]) ((M.new (.map #[] 0)).new (.cells #[.bool true, .int .i64 x10', .int .i64 x11', .int .i64 x12', .int .i64 x13', .slice none 0 0, .map (some (2 * M.nb.size))] 63)))) :
    A8_1 x1 x17 M Q :=
  LvP.mk (cuts := K8) (sp := Z8) 900 H fun G => by kernel_rfl


/-! ### (*zoetrope/grid.Grid).none: function 24 -/
def K24 : List (List It × List Nat) := []
def Z24 : List (List Nat × List Nat) := []
theorem b24 : Try.prog.funcs[24]? = some Try.f24 ∧ (Orc.tab Try.prog).lookup 24 = none ∧ Try.f24.body = some (codeOf Try.f24) := ⟨by kernel_rfl, by kernel_rfl, by kernel_rfl⟩
theorem w24_0 {x0 : Option Addr} {M : Mem} {Q : Value → Mem → Prop} (H :
    cnd x0.isNone (
     Q (.bool true) M) (
     adS x0 fun a1' =>
     onS (M.boolAt a1'.block a1'.off) fun b2' =>
     Q (.bool (!b2')) M)) :
    Cn Try.prog 24 #[.pointer x0] M Q :=
  Cn.mk (cuts := K24) (sp := Z24) 900 b24 rfl rfl H fun G => by kernel_rfl


/-! ### (*zoetrope/grid.Grid).in: function 26 -/
def K26 : List (List It × List Nat) := [([.rg [1,0] 23, .code [1,1]], [0, 2, 29]), ([.rg [1,0] 32, .code [1,1]], [0, 2, 38])]
def Z26 : List (List Nat × List Nat) := [([1,0], [23, 32, 47])]
theorem b26 : Try.prog.funcs[26]? = some Try.f26 ∧ (Orc.tab Try.prog).lookup 26 = none ∧ Try.f26.body = some (codeOf Try.f26) := ⟨by kernel_rfl, by kernel_rfl, by kernel_rfl⟩
def A26_1 (x0 : Option Addr) (x2 : Int) (x29 : Bool) (M : Mem) (Q : Value → Mem → Prop) : Prop := LvP Try.prog Try.f26 [(0, .pointer x0), (2, .int .i64 x2), (29, .bool x29)] [.rg [1,0] 23, .code [1,1]] M Q
def A26_2 (x0 : Option Addr) (x2 : Int) (x38 : Bool) (M : Mem) (Q : Value → Mem → Prop) : Prop := LvP Try.prog Try.f26 [(0, .pointer x0), (2, .int .i64 x2), (38, .bool x38)] [.rg [1,0] 32, .code [1,1]] M Q
theorem w26_0 {x0 : Option Addr} {x1 x2 : Int} {M : Mem} {Q : Value → Mem → Prop} (H :
    adS x0 fun a1' =>
    onS (M.intAt .i64 a1'.block (a1'.off + 1)) fun x2' =>
    cnd (decide (x1 ≥ x2')) (
     adS x0 fun a3' =>
     onS (M.intAt .i64 a3'.block (a3'.off + 1)) fun x4' =>
     adS x0 fun a5' =>
     onS (M.intAt .i64 a5'.block (a5'.off + 3)) fun x6' =>
     A26_1 x0 x2 (decide ((IntKind.i64.wrap (x1 - x4')) < x6')) M Q) (
     A26_1 x0 x2 false M Q)) :
    Cn Try.prog 26 #[.pointer x0, .int .i64 x1, .int .i64 x2] M Q :=
  Cn.mk (cuts := K26) (sp := Z26) 900 b26 rfl rfl H fun G => by kernel_rfl

theorem w26_1 {x0 : Option Addr} {x2 : Int} {x29 : Bool} {M : Mem} {Q : Value → Mem → Prop} (H :
    cnd x29 (
     adS x0 fun a7' =>
     onS (M.intAt .i64 a7'.block (a7'.off + 2)) fun x8' =>
     A26_2 x0 x2 (decide (x2 ≥ x8')) M Q) (
     A26_2 x0 x2 false M Q)) :
    A26_1 x0 x2 x29 M Q :=
  LvP.mk (cuts := K26) (sp := Z26) 900 H fun G => by kernel_rfl

theorem w26_2 {x0 : Option Addr} {x2 : Int} {x38 : Bool} {M : Mem} {Q : Value → Mem → Prop} (H :
    cnd x38 (
     adS x0 fun a9' =>
     onS (M.intAt .i64 a9'.block (a9'.off + 2)) fun x10' =>
     adS x0 fun a11' =>
     onS (M.intAt .i64 a11'.block (a11'.off + 4)) fun x12' =>
     Q (.bool (decide ((IntKind.i64.wrap (x2 - x10')) < x12'))) M) (
     Q (.bool false) M)) :
    A26_2 x0 x2 x38 M Q :=
  LvP.mk (cuts := K26) (sp := Z26) 900 H fun G => by kernel_rfl


/-! ### slices.Index[[]int,int]: function 44 -/
def K44 : List (List It × List Nat) := [([.code [1,0,1,0,0], .lp [1,0,1,0,0], .blk 0, .code [1,1]], [0, 1, 7, 8])]
def Z44 : List (List Nat × List Nat) := []
theorem b44 : Try.prog.funcs[44]? = some Try.f44 ∧ (Orc.tab Try.prog).lookup 44 = none ∧ Try.f44.body = some (codeOf Try.f44) := ⟨by kernel_rfl, by kernel_rfl, by kernel_rfl⟩
def A44_1 (Ax0 : Option Addr) (lx0 cx0 : Nat) (x1 x7 x8 : Int) (M : Mem) (Q : Value → Mem → Prop) : Prop := LvP Try.prog Try.f44 [(0, .slice Ax0 lx0 cx0), (1, .int .i64 x1), (7, .int .i64 x7), (8, .int .i64 x8)] [.code [1,0,1,0,0], .lp [1,0,1,0,0], .blk 0, .code [1,1]] M Q
theorem w44_0 {Ax0 : Option Addr} {lx0 cx0 : Nat} {x1 : Int} {M : Mem} {Q : Value → Mem → Prop} (H :
    A44_1 Ax0 lx0 cx0 x1 (lx0 : Int) 0 M Q) :
    Cn Try.prog 44 #[.slice Ax0 lx0 cx0, .int .i64 x1] M Q :=
  Cn.mk (cuts := K44) (sp := Z44) 900 b44 rfl rfl H fun G => by kernel_rfl

theorem w44_1 {Ax0 : Option Addr} {lx0 cx0 : Nat} {x1 x7 x8 : Int} {M : Mem} {Q : Value → Mem → Prop} (H :
    cnd (decide (x8 < x7)) (
     ixS (idxA Ax0 lx0 1 x8) fun a1' =>
     onS (M.intAt .i64 a1'.block a1'.off) fun x2' =>
     cnd (x1 == x2') (
      Q (.int .i64 x8) M) (
      A44_1 Ax0 lx0 cx0 x1 x7 (IntKind.i64.wrap (x8 + 1)) M Q)) (
     Q (.int .i64 (-1)) M)) :
    A44_1 Ax0 lx0 cx0 x1 x7 x8 M Q :=
  LvP.mk (cuts := K44) (sp := Z44) 900 H fun G => by kernel_rfl


/-! ### slices.Contains[[]int,int]: function 41 -/
def K41 : List (List It × List Nat) := []
def Z41 : List (List Nat × List Nat) := []
theorem b41 : Try.prog.funcs[41]? = some Try.f41 ∧ (Orc.tab Try.prog).lookup 41 = none ∧ Try.f41.body = some (codeOf Try.f41) := ⟨by kernel_rfl, by kernel_rfl, by kernel_rfl⟩
theorem w41_0 {Ax0 : Option Addr} {lx0 cx0 : Nat} {x1 : Int} {M : Mem} {Q : Value → Mem → Prop} (H :
    Cn Try.prog 44 #[.slice Ax0 lx0 cx0, .int .i64 x1] M fun v1' N1' =>
     tyS (asI .i64 v1') fun x2' =>
     Q (.bool (decide (x2' ≥ 0))) N1') :
    Cn Try.prog 41 #[.slice Ax0 lx0 cx0, .int .i64 x1] M Q :=
  Cn.mk (cuts := K41) (sp := Z41) 900 b41 rfl rfl H fun G => by kernel_rfl


/-! ### zoetrope/grid.sideMay: function 25 -/
def K25 : List (List It × List Nat) := []
def Z25 : List (List Nat × List Nat) := []
theorem b25 : Try.prog.funcs[25]? = some Try.f25 ∧ (Orc.tab Try.prog).lookup 25 = none ∧ Try.f25.body = some (codeOf Try.f25) := ⟨by kernel_rfl, by kernel_rfl, by kernel_rfl⟩
theorem w25_0 {x0 : Int} {M : Mem} {Q : Value → Mem → Prop} (H :
    Cn Try.prog 41 #[.slice (some ⟨2 * M.nb.size, 0, none⟩) 4 4, .int .i64 x0] (M.new (.cells #[.int .i64 8, .int .i64 16, .int .i64 32, .int .i64 64] 3)) fun v1' N1' =>
     tyS (asB v1') fun b2' =>
     Q (.bool b2') N1') :
    Cn Try.prog 25 #[.int .i64 x0] M Q :=
  Cn.mk (cuts := K25) (sp := Z25) 900 b25 rfl rfl H fun G => by kernel_rfl


/-! ### zoetrope/grid.placeOf: function 27 -/
def K27 : List (List It × List Nat) := []
def Z27 : List (List Nat × List Nat) := []
theorem b27 : Try.prog.funcs[27]? = some Try.f27 ∧ (Orc.tab Try.prog).lookup 27 = none ∧ Try.f27.body = some (codeOf Try.f27) := ⟨by kernel_rfl, by kernel_rfl, by kernel_rfl⟩
theorem w27_0 {x0 x1 : Int} {M : Mem} {Q : Value → Mem → Prop} (H :
    stP (some 2) #[.int .i64 (IntKind.i64.wrap (x0.tdiv 8)), .int .i64 (IntKind.i64.wrap (x1.tdiv 8))] (M.new (.cells #[.int .i64 0, .int .i64 0] 72)) (2 * M.nb.size) 0 fun M1' =>
    onS (M1'.intAt .i64 (2 * M.nb.size) 0) fun x2' =>
    onS (M1'.intAt .i64 (2 * M.nb.size) (0 + 1)) fun x3' =>
    Q (.agg #[.int .i64 (x2'), .int .i64 (x3')]) M1') :
    Cn Try.prog 27 #[.int .i64 x0, .int .i64 x1] M Q :=
  Cn.mk (cuts := K27) (sp := Z27) 900 b27 rfl rfl H fun G => by kernel_rfl


/-! ### slices.Clone[[]zoetrope/api.Block,zoetrope/api.Block]: function 33 -/
def K33 : List (List It × List Nat) := []
def Z33 : List (List Nat × List Nat) := []
theorem b33 : Try.prog.funcs[33]? = some Try.f33 ∧ (Orc.tab Try.prog).lookup 33 = none ∧ Try.f33.body = some (codeOf Try.f33) := ⟨by kernel_rfl, by kernel_rfl, by kernel_rfl⟩
theorem w33_0 {Ax0 : Option Addr} {lx0 cx0 : Nat} {M : Mem} {Q : Value → Mem → Prop} (H :
    cnd Ax0.isNone (
     Q (.slice none 0 0) M) (
     meS (appendP Try.prog #[43, 43] (.slice (some ⟨2 * M.nb.size, 0, none⟩) 0 0) (.slice Ax0 lx0 cx0) (M.new (.cells #[] 27))) fun r1' =>
     tyS (asS r1'.1) fun s2' =>
     Q (.slice s2'.1 (s2'.2.1) (s2'.2.2)) r1'.2)) :
    Cn Try.prog 33 #[.slice Ax0 lx0 cx0] M Q :=
  Cn.mk (cuts := K33) (sp := Z33) 900 b33 rfl rfl H fun G => by kernel_rfl


/-! ### (*zoetrope/grid.Grid).Blocks: function 15 -/
def K15 : List (List It × List Nat) := []
def Z15 : List (List Nat × List Nat) := []
theorem b15 : Try.prog.funcs[15]? = some Try.f15 ∧ (Orc.tab Try.prog).lookup 15 = none ∧ Try.f15.body = some (codeOf Try.f15) := ⟨by kernel_rfl, by kernel_rfl, by kernel_rfl⟩
theorem w15_0 {x0 : Option Addr} {M : Mem} {Q : Value → Mem → Prop} (H :
    Cn Try.prog 24 #[.pointer x0] M fun v1' N1' =>
     tyS (asB v1') fun b2' =>
     cnd b2' (
      Q (.slice none 0 0) N1') (
      adS x0 fun a3' =>
      onS (N1'.slAt a3'.block (a3'.off + 5)) fun s4' =>
      Cn Try.prog 33 #[.slice s4'.1 (s4'.2.1) (s4'.2.2)] N1' fun v5' N5' =>
       tyS (asS v5') fun s6' =>
       Q (.slice s6'.1 (s6'.2.1) (s6'.2.2)) N5')) :
    Cn Try.prog 15 #[.pointer x0] M Q :=
  Cn.mk (cuts := K15) (sp := Z15) 900 b15 rfl rfl H fun G => by kernel_rfl


/-! ### zoetrope/zoetroperef00.Bring: function 13 -/
def K13 : List (List It × List Nat) := []
def Z13 : List (List Nat × List Nat) := []
theorem b13 : Try.prog.funcs[13]? = some Try.f13 ∧ (Orc.tab Try.prog).lookup 13 = none ∧ Try.f13.body = some (codeOf Try.f13) := ⟨by kernel_rfl, by kernel_rfl, by kernel_rfl⟩
theorem w13_0 {x0 x1 : Int} {M : Mem} {Q : Value → Mem → Prop} (H :
    cnd (decide (x1 ≤ 0)) (
     Q (.int .i64 0) M) (
     puS (binV Try.prog .rem 3 3 (.int .i64 x0) (.int .i64 x1)) fun v1' =>
     tyS (asI .i64 v1') fun x2' =>
     cnd (decide (x2' < 0)) (
      Q (.int .i64 (IntKind.i64.wrap (x2' + x1))) M) (
      Q (.int .i64 (x2')) M))) :
    Cn Try.prog 13 #[.int .i64 x0, .int .i64 x1] M Q :=
  Cn.mk (cuts := K13) (sp := Z13) 900 b13 rfl rfl H fun G => by kernel_rfl


/-! ### zoetrope/zoetropelaw17.usual: function 22 -/
def K22 : List (List It × List Nat) := []
def Z22 : List (List Nat × List Nat) := []
theorem b22 : Try.prog.funcs[22]? = some Try.f22 ∧ (Orc.tab Try.prog).lookup 22 = none ∧ Try.f22.body = some (codeOf Try.f22) := ⟨by kernel_rfl, by kernel_rfl, by kernel_rfl⟩
theorem w22_0 {M : Mem} {Q : Value → Mem → Prop} (H :
    stP (some 23) #[.int .i64 0, .int .i64 0, .int .i64 16, .int .i64 16, .bool true, .bool false, .int .i64 0, .int .i64 0, .int .i64 0, .int .i64 0, .int .i64 0, .int .i64 0, .int .i64 0, .bool false, .int .i64 0, .int .i64 0, .int .i64 0, .int .i64 0, .int .i64 0, .int .i64 0, .int .i64 0, .int .i64 0, .bool false] ((M.new (.cells #[.int .i64 0, .int .i64 0, .int .i64 0, .int .i64 0, .bool false, .bool false, .int .i64 0, .int .i64 0, .int .i64 0, .int .i64 0, .int .i64 0, .int .i64 0, .int .i64 0, .bool false, .int .i64 0, .int .i64 0, .int .i64 0, .int .i64 0, .int .i64 0, .int .i64 0, .int .i64 0, .int .i64 0, .bool false] 27)).new (.cells #[.int .i64 0, .int .i64 0, .int .i64 0, .int .i64 0, .bool false, .bool false, .int .i64 0, .int .i64 0, .int .i64 0, .int .i64 0, .int .i64 0, .int .i64 0, .int .i64 0, .bool false, .int .i64 0, .int .i64 0, .int .i64 0, .int .i64 0, .int .i64 0, .int .i64 0, .int .i64 0, .int .i64 0, .bool false] 27)) (2 * M.nb.size) 0 fun M1' =>
    stP (some 23) #[.int .i64 16, .int .i64 0, .int .i64 8, .int .i64 8, .bool false, .bool true, .int .i64 0, .int .i64 0, .int .i64 0, .int .i64 0, .int .i64 0, .int .i64 0, .int .i64 0, .bool false, .int .i64 1, .int .i64 0, .int .i64 0, .int .i64 3, .int .i64 (-4), .int .i64 0, .int .i64 0, .int .i64 0, .bool false] M1' (2 * (M.new (.cells #[.int .i64 0, .int .i64 0, .int .i64 0, .int .i64 0, .bool false, .bool false, .int .i64 0, .int .i64 0, .int .i64 0, .int .i64 0, .int .i64 0, .int .i64 0, .int .i64 0, .bool false, .int .i64 0, .int .i64 0, .int .i64 0, .int .i64 0, .int .i64 0, .int .i64 0, .int .i64 0, .int .i64 0, .bool false] 27)).nb.size) 0 fun M2' =>
    ldP tyZpB0 M2' (2 * M.nb.size) 0 fun vs3' =>
    ldP tyZpB0 M2' (2 * (M.new (.cells #[.int .i64 0, .int .i64 0, .int .i64 0, .int .i64 0, .bool false, .bool false, .int .i64 0, .int .i64 0, .int .i64 0, .int .i64 0, .int .i64 0, .int .i64 0, .int .i64 0, .bool false, .int .i64 0, .int .i64 0, .int .i64 0, .int .i64 0, .int .i64 0, .int .i64 0, .int .i64 0, .int .i64 0, .bool false] 27)).nb.size) 0 fun vs4' =>
    Q (.tuple #[.agg vs3'.toArray, .agg vs4'.toArray]) M2') :
    Cn Try.prog 22 #[] M Q :=
  Cn.mk (cuts := K22) (sp := Z22) 900 b22 rfl rfl H fun G => by kernel_rfl


end Go.Zt

/- Layer 17: small functions of the program: span, none, in, sideMay, placeOf, New. -/
set_option linter.unusedSimpArgs false
set_option linter.unusedVariables false
set_option maxRecDepth 100000
namespace Go.Zt
open Go Go.Sim Go.Proofs Go.RowKit

theorem cA {b c : Bool} (F : Bool → Prop) (h : F (b && c)) : cnd b (F c) (F false) := by cases b <;> exact h
theorem cO {b c : Bool} (F : Bool → Prop) (h : F (b || c)) : cnd b (F true) (F c) := by cases b <;> exact h
theorem fb {M N : Mem} (hf : M.floor ≤ M.nb.size) (K : Keep M N) : N.floor ≤ N.nb.size := by rw [K.floor]; exact Nat.le_trans hf K.size
/-- A block. -/
structure Bk where
  x : Int
  y : Int
  w : Int
  h : Int
  sk : Bool
  it : Bool
  q6 : Int
  q7 : Int
  q8 : Int
  q9 : Int
  q10 : Int
  q11 : Int
  q12 : Int
  cp : Bool
  r0 : Int
  r1 : Int
  q16 : Int
  v0 : Int
  v1 : Int
  v2 : Int
  v3 : Int
  q21 : Int
  ob : Bool
  deriving DecidableEq
abbrev Bk.cs (b : Bk) : Array Value := #[.int .i64 b.x, .int .i64 b.y, .int .i64 b.w, .int .i64 b.h, .bool b.sk, .bool b.it, .int .i64 b.q6, .int .i64 b.q7, .int .i64 b.q8, .int .i64 b.q9, .int .i64 b.q10, .int .i64 b.q11, .int .i64 b.q12, .bool b.cp, .int .i64 b.r0, .int .i64 b.r1, .int .i64 b.q16, .int .i64 b.v0, .int .i64 b.v1, .int .i64 b.v2, .int .i64 b.v3, .int .i64 b.q21, .bool b.ob]
abbrev zB : Bk := ⟨0, 0, 0, 0, false, false, 0, 0, 0, 0, 0, 0, 0, false, 0, 0, 0, 0, 0, 0, 0, 0, false⟩
abbrev Bks (L : List Bk) : List Value := L.flatMap fun b => b.cs.toList
/-- A tile. -/
structure Tl where
  x : Int
  y : Int
  w : Int
  h : Int
  deriving DecidableEq
def spanB (a n : Int) : Bool := decide (0 ≤ a ∧ a ≤ 192 ∧ a % 64 = 0 ∧ 8 ≤ n ∧ n ≤ 256 ∧ n % 8 = 0 ∧ a + n ≤ 256)
def Tl.may (t : Tl) : Bool := spanB t.x t.w && spanB t.y t.h
def Tl.in (t : Tl) (x y : Int) : Bool := decide (t.x ≤ x ∧ x < t.x + t.w ∧ t.y ≤ y ∧ y < t.y + t.h)
def i64R (x : Int) : Prop := -9223372036854775808 ≤ x ∧ x ≤ 9223372036854775807
abbrev PtrB (j : Nat) : Value := .pointer (some ⟨2 * j, 0, none⟩)
theorem tmod_eq {a : Int} (n : Nat) (hn : 0 < n) : a.tmod (n : Int) = 0 ↔ a % (n : Int) = 0 :=
  ⟨fun h => Int.emod_eq_zero_of_dvd (Int.dvd_of_tmod_eq_zero h), fun h => Int.tmod_eq_zero_of_dvd (Int.dvd_of_emod_eq_zero h)⟩
section
variable {M : Mem} {Q : Value → Mem → Prop} {a n x y : Int}
theorem c23 (ha : i64R a) (hn : i64R n) : Cn Try.prog 23 #[.int .i64 a, .int .i64 n] M fun v N => v = .bool (spanB a n) ∧ N = M := by
  refine w23_0 (cA (fun z => A23_1 a n z M _) (w23_1 (cA (fun z => A23_2 a n z M _) (w23_2 (cA (fun z => A23_3 a n z M _) (w23_3 (cA (fun z => A23_4 a n z M _) (w23_4 (cA (fun z => A23_5 a n z M _) (w23_5 (cA (fun z => (fun v N => v = Value.bool (spanB a n) ∧ N = M) (.bool z) M) ⟨?_, rfl⟩)))))))))))
  congr 1
  unfold spanB
  rw [Bool.eq_iff_iff]
  simp only [Bool.and_eq_true, decide_eq_true_eq, beq_iff_eq]
  have h1 := tmod_eq (a := a) 64 (by decide)
  have h2 := tmod_eq (a := n) 8 (by decide)
  have h1' : a.tmod 64 = 0 ↔ a % 64 = 0 := h1
  have h2' : n.tmod 8 = 0 ↔ n % 8 = 0 := h2
  rw [h1', h2']
  constructor
  · rintro ⟨⟨⟨⟨⟨⟨q1, q2⟩, q3⟩, q4⟩, q5⟩, q6⟩, q7⟩
    rw [i64w (by omega)] at q7
    omega
  · rintro ⟨q1, q2, q3, q4, q5, q6, q7⟩
    rw [i64w (by omega)]
    omega
/-- The program's grid. -/
def GrAt (M : Mem) (j : Nat) (t : Tl) (A : Option Addr) (n c jm : Nat) : Prop := M.nb[j]? = some (.cells #[.bool true, .int .i64 t.x, .int .i64 t.y, .int .i64 t.w, .int .i64 t.h, .slice A n c, .map (some (2 * jm))] 63)
variable {j jm n c : Nat} {t : Tl} {A : Option Addr}
theorem c24 (g : GrAt M j t A n c jm) : Cn Try.prog 24 #[PtrB j] M fun v N => v = .bool false ∧ N = M :=
  w24_0 (cF rfl (ad rfl (on (bool_of (i := 0) g rfl) ⟨rfl, rfl⟩)))
theorem c26 (g : GrAt M j t A n c jm) (ht : t.may = true) (hx : i64R x) (hy : i64R y) : Cn Try.prog 26 #[PtrB j, .int .i64 x, .int .i64 y] M fun v N => v = .bool (t.in x y) ∧ N = M := by
  refine w26_0 (ad rfl (on (int_of (i := 0 + 1) g rfl) ?_))
  have key : cnd (decide (x ≥ t.x)) (A26_1 (some ⟨2 * j, 0, none⟩) y (decide ((IntKind.i64.wrap (x - t.x)) < t.w)) M fun v N => v = .bool (t.in x y) ∧ N = M) (A26_1 (some ⟨2 * j, 0, none⟩) y false M fun v N => v = .bool (t.in x y) ∧ N = M) := by
    refine cA (fun z => A26_1 (some ⟨2 * j, 0, none⟩) y z M _) (w26_1 ?_)
    have k2 : cnd (decide (x ≥ t.x) && decide ((IntKind.i64.wrap (x - t.x)) < t.w)) (A26_2 (some ⟨2 * j, 0, none⟩) y (decide (y ≥ t.y)) M fun v N => v = .bool (t.in x y) ∧ N = M) (A26_2 (some ⟨2 * j, 0, none⟩) y false M fun v N => v = .bool (t.in x y) ∧ N = M) := by
      refine cA (fun z => A26_2 (some ⟨2 * j, 0, none⟩) y z M _) (w26_2 ?_)
      have k3 : cnd (decide (x ≥ t.x) && decide ((IntKind.i64.wrap (x - t.x)) < t.w) && decide (y ≥ t.y)) ((fun v N => v = Value.bool (t.in x y) ∧ N = M) (.bool (decide ((IntKind.i64.wrap (y - t.y)) < t.h))) M) ((fun v N => v = Value.bool (t.in x y) ∧ N = M) (.bool false) M) := by
        refine cA (fun z => (fun v N => v = Value.bool (t.in x y) ∧ N = M) (.bool z) M) ⟨?_, rfl⟩
        congr 1
        unfold Tl.may spanB at ht
        simp only [Bool.and_eq_true, decide_eq_true_eq] at ht
        unfold Tl.in
        unfold i64R at hx hy
        rw [Bool.eq_iff_iff]
        simp only [Bool.and_eq_true, decide_eq_true_eq]
        constructor
        · rintro ⟨⟨⟨q1, q2⟩, q3⟩, q4⟩
          rw [i64w (by omega)] at q2 q4
          omega
        · rintro ⟨q1, q2, q3, q4⟩
          rw [i64w (by omega), i64w (by omega)]
          omega
      cases hb : decide (x ≥ t.x) && decide ((IntKind.i64.wrap (x - t.x)) < t.w) && decide (y ≥ t.y) with
      | true => rw [hb] at k3; exact cT rfl (ad rfl (on (int_of (i := 0 + 2) g rfl) (ad rfl (on (int_of (i := 0 + 4) g rfl) k3))))
      | false => rw [hb] at k3; exact cF rfl k3
    cases hb : decide (x ≥ t.x) && decide ((IntKind.i64.wrap (x - t.x)) < t.w) with
    | true => rw [hb] at k2; exact cT rfl (ad rfl (on (int_of (i := 0 + 2) g rfl) k2))
    | false => rw [hb] at k2; exact cF rfl k2
  cases hb : decide (x ≥ t.x) with
  | true => rw [hb] at key; exact cT rfl (ad rfl (on (int_of (i := 0 + 1) g rfl) (ad rfl (on (int_of (i := 0 + 3) g rfl) key))))
  | false => rw [hb] at key; exact cF rfl key
theorem c27 (hf : M.floor ≤ M.nb.size) (hx : 0 ≤ x ∧ i64R x) (hy : 0 ≤ y ∧ i64R y) : Cn Try.prog 27 #[.int .i64 x, .int .i64 y] M fun v N => v = plV (x / 8) (y / 8) ∧ Keep M N := by
  unfold i64R at hx hy
  have e : ∀ z : Int, 0 ≤ z ∧ -9223372036854775808 ≤ z ∧ z ≤ 9223372036854775807 → IntKind.i64.wrap (z.tdiv 8) = z / 8 := fun z hz => by
    rw [Int.tdiv_eq_ediv_of_nonneg hz.1, i64w (by omega)]
  refine w27_0 ?_
  rw [e x hx, e y hy]
  exact stN (cs := #[.int .i64 (x / 8), .int .i64 (y / 8)]) hf rfl rfl rfl fun M1 K1 z1 b1 => on (int_of (i := 0) b1 rfl) (on (int_of (i := 0 + 1) b1 rfl) ⟨rfl, K1⟩)
def sideB (n : Int) : Bool := decide (n = 8 ∨ n = 16 ∨ n = 32 ∨ n = 64)
theorem c25 (hf : M.floor ≤ M.nb.size) {m : Int} : Cn Try.prog 25 #[.int .i64 m] M fun v N => v = .bool (sideB m) ∧ Keep M N := by
  refine w25_0 ?_
  have a := Mem.new_at M (.cells #[.int .i64 8, .int .i64 16, .int .i64 32, .int .i64 64] 3)
  have K : Keep M (M.new (.cells #[.int .i64 8, .int .i64 16, .int .i64 32, .int .i64 64] 3)) := .new _ _
  generalize M.new (.cells #[.int .i64 8, .int .i64 16, .int .i64 32, .int .i64 64] 3) = N at a K ⊢
  have fin : ∀ i : Int, (decide (i ≥ 0) = sideB m) → Cn Try.prog 41 #[.slice (some ⟨2 * M.nb.size, 0, none⟩) 4 4, .int .i64 m] N (fun v1' N1' => tyS (asB v1') fun b2' => (fun v N => v = Value.bool (sideB m) ∧ Keep M N) (.bool b2') N1') ∨ True := fun _ _ => .inr trivial
  have ix0 : ∀ k : Nat, k < 4 → idxA (some ⟨2 * M.nb.size, 0, none⟩) 4 1 (k : Int) = some ⟨2 * M.nb.size, k, none⟩ := fun k hk => by
    unfold idxA
    rw [if_pos (by omega)]
    simp
  have go : ∀ k : Nat, k < 4 → ∀ v : Int, (#[Value.int .i64 8, .int .i64 16, .int .i64 32, .int .i64 64][k]? = some (.int .i64 v)) → ∀ {Q : Value → Mem → Prop}, (m = v → Q (.int .i64 (k : Int)) N) → (m ≠ v → A44_1 (some ⟨2 * M.nb.size, 0, none⟩) 4 4 m ((4 : Nat) : Int) (IntKind.i64.wrap ((k : Int) + 1)) N Q) → A44_1 (some ⟨2 * M.nb.size, 0, none⟩) 4 4 m ((4 : Nat) : Int) (k : Int) N Q := by
    intro k hk v hv Q h1 h2
    exact w44_1 (cT (decide_eq_true (by omega)) (ix (ix0 k hk) (on (int_of (i := k) a hv) (ce h1 h2))))
  refine w41_0 (w44_0 (go 0 (by decide) 8 rfl (fun h => ?_) fun h1 => go 1 (by decide) 16 rfl (fun h => ?_) fun h2 => go 2 (by decide) 32 rfl (fun h => ?_) fun h3 => go 3 (by decide) 64 rfl (fun h => ?_) fun h4 => w44_1 (cF rfl ?_)))
  all_goals refine ty rfl (ty rfl ⟨?_, K⟩); congr 1; unfold sideB
  · subst h; rfl
  · subst h; rfl
  · subst h; rfl
  · subst h; rfl
  · symm; rw [decide_eq_false (by omega)]; rfl
theorem c8 (hf : M.floor ≤ M.nb.size) (hr : i64R t.x ∧ i64R t.y ∧ i64R t.w ∧ i64R t.h) : Cn Try.prog 8 #[.agg #[.int .i64 t.x, .int .i64 t.y, .int .i64 t.w, .int .i64 t.h]] M fun v N => Keep M N ∧ if t.may = true then ∃ j jm, M.nb.size ≤ jm ∧ jm < j ∧ j < N.nb.size ∧ v = .tuple #[PtrB j, .int .i64 0] ∧ GrAt N j t none 0 0 jm ∧ N.nb[jm]? = some (.map #[] 0) else v = .tuple #[.pointer none, .int .i64 2] := by
  have s := Mem.new_at M (.cells #[.int .i64 t.x, .int .i64 t.y, .int .i64 t.w, .int .i64 t.h] 35)
  have K1 : Keep M (M.new (.cells #[.int .i64 t.x, .int .i64 t.y, .int .i64 t.w, .int .i64 t.h] 35)) := .new _ _
  have z1 := Mem.new_size M (.cells #[.int .i64 t.x, .int .i64 t.y, .int .i64 t.w, .int .i64 t.h] 35)
  refine w8_0 ?_
  generalize M.new (.cells #[.int .i64 t.x, .int .i64 t.y, .int .i64 t.w, .int .i64 t.h] 35) = N at s K1 z1 ⊢
  refine on (int_of (i := 0) s rfl) (on (int_of (i := 0 + 2) s rfl) (Cn.eq (c23 hr.1 hr.2.2.1) (ty rfl ?_)))
  have no : t.may = false → A8_1 (some ⟨2 * M.nb.size, 0, none⟩) true N fun v N => Keep M N ∧ if t.may = true then ∃ j jm, M.nb.size ≤ jm ∧ jm < j ∧ j < N.nb.size ∧ v = .tuple #[PtrB j, .int .i64 0] ∧ GrAt N j t none 0 0 jm ∧ N.nb[jm]? = some (.map #[] 0) else v = .tuple #[.pointer none, .int .i64 2] := fun h => w8_1 (cT rfl ⟨K1, by rw [h]; rfl⟩)
  cases h1 : spanB t.x t.w with
  | false => exact cT rfl (no (by unfold Tl.may; rw [h1]; rfl))
  | true =>
    refine cF rfl (on (int_of (i := 0 + 1) s rfl) (on (int_of (i := 0 + 3) s rfl) (Cn.eq (c23 hr.2.1 hr.2.2.2) (ty rfl ?_))))
    cases h2 : spanB t.y t.h with
    | false => exact no (by unfold Tl.may; rw [h1, h2]; rfl)
    | true =>
      have hm : t.may = true := by unfold Tl.may; rw [h1, h2]; rfl
      refine w8_1 (cF rfl (ad rfl (on (int_of (i := 0) s rfl) (on (int_of (i := 0 + 1) s rfl) (on (int_of (i := 0 + 2) s rfl) (on (int_of (i := 0 + 3) s rfl) ?_))))))
      have m1 := Mem.new_at N (.map #[] 0)
      have K2 : Keep N (N.new (.map #[] 0)) := .new _ _
      have z2 := Mem.new_size N (.map #[] 0)
      generalize N.new (.map #[] 0) = N2 at m1 K2 z2 ⊢
      have K3 : Keep N2 (N2.new (.cells #[.bool true, .int .i64 t.x, .int .i64 t.y, .int .i64 t.w, .int .i64 t.h, .slice none 0 0, .map (some (2 * N.nb.size))] 63)) := .new _ _
      refine ⟨(K1.trans K2).trans K3, ?_⟩
      rw [if_pos hm]
      exact ⟨N2.nb.size, N.nb.size, by omega, by omega, by rw [Mem.new_size]; omega, rfl, Mem.new_at _ _, at_keep m1 K3⟩
end
end Go.Zt

/- The functions' walks: for each function and each loop a rule of what it comes to. Printed by zw2.py. -/
set_option linter.unusedVariables false
set_option maxRecDepth 100000
namespace Go.Zt
open Go Go.Sim Go.Proofs

def tyZpC0 : List Sc := [.int .i64, .int .i64, .int .i64, .int .i64, .bool, .bool, .int .i64, .int .i64, .int .i64, .int .i64, .int .i64, .int .i64, .int .i64, .bool, .int .i64, .int .i64, .int .i64, .int .i64, .int .i64, .int .i64, .int .i64, .int .i64, .bool]
/-! ### (*zoetrope/grid.Grid).At: function 14 -/
def K14 : List (List It × List Nat) := [([.code [1,0,1], .code [1,1]], [0, 1, 2, 6, 18])]
def Z14 : List (List Nat × List Nat) := []
theorem b14 : Try.prog.funcs[14]? = some Try.f14 ∧ (Orc.tab Try.prog).lookup 14 = none ∧ Try.f14.body = some (codeOf Try.f14) := ⟨by kernel_rfl, by kernel_rfl, by kernel_rfl⟩
def A14_1 (x0 : Option Addr) (x1 x2 : Int) (x6 : Option Addr) (x18 : Bool) (M : Mem) (Q : Value → Mem → Prop) : Prop := LvP Try.prog Try.f14 [(0, .pointer x0), (1, .int .i64 x1), (2, .int .i64 x2), (6, .pointer x6), (18, .bool x18)] [.code [1,0,1], .code [1,1]] M Q
theorem w14_0 {x0 : Option Addr} {x1 x2 : Int} {M : Mem} {Q : Value → Mem → Prop} (H :
    Cn Try.prog 24 #[.pointer x0] (M.new (.cells #[.int .i64 0, .int .i64 0, .int .i64 0, .int .i64 0, .bool false, .bool false, .int .i64 0, .int .i64 0, .int .i64 0, .int .i64 0, .int .i64 0, .int .i64 0, .int .i64 0, .bool false, .int .i64 0, .int .i64 0, .int .i64 0, .int .i64 0, .int .i64 0, .int .i64 0, .int .i64 0, .int .i64 0, .bool false] 27)) fun v1' N1' =>
     tyS (asB v1') fun b2' =>
     cnd b2' (
      A14_1 x0 x1 x2 (some ⟨2 * M.nb.size, 0, none⟩) true N1' Q) (
      Cn Try.prog 26 #[.pointer x0, .int .i64 x1, .int .i64 x2] N1' fun v3' N3' =>
       tyS (asB v3') fun b4' =>
       A14_1 x0 x1 x2 (some ⟨2 * M.nb.size, 0, none⟩) (!b4') N3' Q)) :
    Cn Try.prog 14 #[.pointer x0, .int .i64 x1, .int .i64 x2] M Q :=
  Cn.mk (cuts := K14) (sp := Z14) 900 b14 rfl rfl H fun G => by kernel_rfl

theorem w14_1 {x0 : Option Addr} {x1 x2 : Int} {x6 : Option Addr} {x18 : Bool} {M : Mem} {Q : Value → Mem → Prop} (H :
    cnd x18 (
     adS x6 fun a5' =>
     stP (some 23) #[.int .i64 0, .int .i64 0, .int .i64 0, .int .i64 0, .bool false, .bool false, .int .i64 0, .int .i64 0, .int .i64 0, .int .i64 0, .int .i64 0, .int .i64 0, .int .i64 0, .bool false, .int .i64 0, .int .i64 0, .int .i64 0, .int .i64 0, .int .i64 0, .int .i64 0, .int .i64 0, .int .i64 0, .bool false] M a5'.block a5'.off fun M6' =>
     adS x6 fun a7' =>
     ldP tyZpC0 M6' a7'.block a7'.off fun vs8' =>
     Q (.tuple #[.agg vs8'.toArray, .bool false]) M6') (
     adS x0 fun a9' =>
     onS (M.cell a9'.block (a9'.off + 6)) fun v10' =>
     cnd (decide (M.floor ≤ M.nb.size)) (
     Cn Try.prog 27 #[.int .i64 x1, .int .i64 x2] M fun v11' N11' =>
      cnd (sameB M N11' a9'.block) (
      tyS (asA 2 v11') fun cs12' =>
      tyS (asI .i64 (cs12'.getD 0 undef)) fun x13' =>
      tyS (asI .i64 (cs12'.getD 1 undef)) fun x14' =>
      meS (lookupV Try.prog 61 v10' (.agg #[.int .i64 x13', .int .i64 x14']) true N11') fun r15' =>
      tyS (asU 2 r15'.1) fun cs16' =>
      tyS (asI .i64 (cs16'.getD 0 undef)) fun x17' =>
      tyS (asB (cs16'.getD 1 undef)) fun b18' =>
      cnd (!b18') (
       adS x6 fun a19' =>
       stP (some 23) #[.int .i64 0, .int .i64 0, .int .i64 0, .int .i64 0, .bool false, .bool false, .int .i64 0, .int .i64 0, .int .i64 0, .int .i64 0, .int .i64 0, .int .i64 0, .int .i64 0, .bool false, .int .i64 0, .int .i64 0, .int .i64 0, .int .i64 0, .int .i64 0, .int .i64 0, .int .i64 0, .int .i64 0, .bool false] r15'.2 a19'.block a19'.off fun M20' =>
       adS x6 fun a21' =>
       ldP tyZpC0 M20' a21'.block a21'.off fun vs22' =>
       Q (.tuple #[.agg vs22'.toArray, .bool false]) M20') (
       adS x0 fun a23' =>
       onS (r15'.2.slAt a23'.block (a23'.off + 5)) fun s24' =>
       ixS (idxA s24'.1 (s24'.2.1) 23 x17') fun a25' =>
       ldP tyZpC0 r15'.2 a25'.block a25'.off fun vs26' =>
       adS x6 fun a27' =>
       stP (some 23) vs26'.toArray r15'.2 a27'.block a27'.off fun M28' =>
       adS x6 fun a29' =>
       ldP tyZpC0 M28' a29'.block a29'.off fun vs30' =>
       Q (.tuple #[.agg vs30'.toArray, .bool true]) M28')) (
      False)) (
     False))) :
    A14_1 x0 x1 x2 x6 x18 M Q :=
  LvP.mk (cuts := K14) (sp := Z14) 900 H fun G => by kernel_rfl


/-! ### zoetrope/grid.vec: function 28 -/
def K28 : List (List It × List Nat) := [([.code [1,1]], [4]), ([.code [1,0,0,1,1,1,1,1], .blk 0, .code [1,1]], [2, 4, 19])]
def Z28 : List (List Nat × List Nat) := []
theorem b28 : Try.prog.funcs[28]? = some Try.f28 ∧ (Orc.tab Try.prog).lookup 28 = none ∧ Try.f28.body = some (codeOf Try.f28) := ⟨by kernel_rfl, by kernel_rfl, by kernel_rfl⟩
def A28_1 (x4 : Option Addr) (M : Mem) (Q : Value → Mem → Prop) : Prop := LvP Try.prog Try.f28 [(4, .pointer x4)] [.code [1,1]] M Q
def A28_2 (x2 x4 : Option Addr) (x19 : Bool) (M : Mem) (Q : Value → Mem → Prop) : Prop := LvP Try.prog Try.f28 [(2, .pointer x2), (4, .pointer x4), (19, .bool x19)] [.code [1,0,0,1,1,1,1,1], .blk 0, .code [1,1]] M Q
theorem w28_0 {x0 : Array Value} {x1 : Int} {M : Mem} {Q : Value → Mem → Prop} (H :
    onS (((M.new (.cells x0 27)).new (.cells #[.int .i64 0, .int .i64 0] 24)).boolAt (2 * M.nb.size) (0 + 5)) fun b1' =>
    cnd (!b1') (
     A28_1 (some ⟨2 * (M.new (.cells x0 27)).nb.size, 0, none⟩) ((M.new (.cells x0 27)).new (.cells #[.int .i64 0, .int .i64 0] 24)) Q) (
     ixS (idxA (some ⟨(2 * M.nb.size), 0 + 14, none⟩) 2 1 0) fun a2' =>
     onS (((M.new (.cells x0 27)).new (.cells #[.int .i64 0, .int .i64 0] 24)).intAt .i64 a2'.block a2'.off) fun x3' =>
     cnd (x3' == x1) (
      ixS (idxA (some ⟨(2 * M.nb.size), 0 + 17, none⟩) 2 2 0) fun a4' =>
      onS (((M.new (.cells x0 27)).new (.cells #[.int .i64 0, .int .i64 0] 24)).intAt .i64 a4'.block a4'.off) fun x5' =>
      onS (((M.new (.cells x0 27)).new (.cells #[.int .i64 0, .int .i64 0] 24)).intAt .i64 a4'.block (a4'.off + 1)) fun x6' =>
      stP (some 2) #[.int .i64 x5', .int .i64 x6'] ((M.new (.cells x0 27)).new (.cells #[.int .i64 0, .int .i64 0] 24)) (2 * (M.new (.cells x0 27)).nb.size) 0 fun M7' =>
      onS (M7'.intAt .i64 (2 * (M.new (.cells x0 27)).nb.size) 0) fun x8' =>
      onS (M7'.intAt .i64 (2 * (M.new (.cells x0 27)).nb.size) (0 + 1)) fun x9' =>
      Q (.tuple #[.agg #[.int .i64 (x8'), .int .i64 (x9')], .bool true]) M7') (
      onS (((M.new (.cells x0 27)).new (.cells #[.int .i64 0, .int .i64 0] 24)).boolAt (2 * M.nb.size) (0 + 13)) fun b10' =>
      cnd b10' (
       ixS (idxA (some ⟨(2 * M.nb.size), 0 + 14, none⟩) 2 1 1) fun a11' =>
       onS (((M.new (.cells x0 27)).new (.cells #[.int .i64 0, .int .i64 0] 24)).intAt .i64 a11'.block a11'.off) fun x12' =>
       A28_2 (some ⟨2 * M.nb.size, 0, none⟩) (some ⟨2 * (M.new (.cells x0 27)).nb.size, 0, none⟩) (x12' == x1) ((M.new (.cells x0 27)).new (.cells #[.int .i64 0, .int .i64 0] 24)) Q) (
       A28_2 (some ⟨2 * M.nb.size, 0, none⟩) (some ⟨2 * (M.new (.cells x0 27)).nb.size, 0, none⟩) false ((M.new (.cells x0 27)).new (.cells #[.int .i64 0, .int .i64 0] 24)) Q)))) :
    Cn Try.prog 28 #[.agg x0, .int .i64 x1] M Q :=
  Cn.mk (cuts := K28) (sp := Z28) 900 b28 rfl rfl H fun G => by kernel_rfl

theorem w28_1 {x4 : Option Addr} {M : Mem} {Q : Value → Mem → Prop} (H :
    adS x4 fun a13' =>
    stP (some 2) #[.int .i64 0, .int .i64 0] M a13'.block a13'.off fun M14' =>
    adS x4 fun a15' =>
    onS (M14'.intAt .i64 a15'.block a15'.off) fun x16' =>
    onS (M14'.intAt .i64 a15'.block (a15'.off + 1)) fun x17' =>
    Q (.tuple #[.agg #[.int .i64 (x16'), .int .i64 (x17')], .bool false]) M14') :
    A28_1 x4 M Q :=
  LvP.mk (cuts := K28) (sp := Z28) 900 H fun G => by kernel_rfl

theorem w28_2 {x2 x4 : Option Addr} {x19 : Bool} {M : Mem} {Q : Value → Mem → Prop} (H :
    cnd x19 (
     adS x2 fun a18' =>
     ixS (idxA (some ⟨a18'.block, a18'.off + 17, none⟩) 2 2 1) fun a19' =>
     onS (M.intAt .i64 a19'.block a19'.off) fun x20' =>
     onS (M.intAt .i64 a19'.block (a19'.off + 1)) fun x21' =>
     adS x4 fun a22' =>
     stP (some 2) #[.int .i64 x20', .int .i64 x21'] M a22'.block a22'.off fun M23' =>
     adS x4 fun a24' =>
     onS (M23'.intAt .i64 a24'.block a24'.off) fun x25' =>
     onS (M23'.intAt .i64 a24'.block (a24'.off + 1)) fun x26' =>
     Q (.tuple #[.agg #[.int .i64 (x25'), .int .i64 (x26')], .bool true]) M23') (
     A28_1 x4 M Q)) :
    A28_2 x2 x4 x19 M Q :=
  LvP.mk (cuts := K28) (sp := Z28) 900 H fun G => by kernel_rfl


/-! ### slices.Index[[]zoetrope/api.Vec,zoetrope/api.Vec]: function 42 -/
def K42 : List (List It × List Nat) := [([.code [1,0,1,0,0], .lp [1,0,1,0,0], .blk 0, .code [1,1]], [0, 3, 7, 8])]
def Z42 : List (List Nat × List Nat) := []
theorem b42 : Try.prog.funcs[42]? = some Try.f42 ∧ (Orc.tab Try.prog).lookup 42 = none ∧ Try.f42.body = some (codeOf Try.f42) := ⟨by kernel_rfl, by kernel_rfl, by kernel_rfl⟩
def A42_1 (Ax0 : Option Addr) (lx0 cx0 : Nat) (x3 : Option Addr) (x7 x8 : Int) (M : Mem) (Q : Value → Mem → Prop) : Prop := LvP Try.prog Try.f42 [(0, .slice Ax0 lx0 cx0), (3, .pointer x3), (7, .int .i64 x7), (8, .int .i64 x8)] [.code [1,0,1,0,0], .lp [1,0,1,0,0], .blk 0, .code [1,1]] M Q
theorem w42_0 {Ax0 : Option Addr} {lx0 cx0 : Nat} {x1_0 x1_1 : Int} {M : Mem} {Q : Value → Mem → Prop} (H :
    A42_1 Ax0 lx0 cx0 (some ⟨2 * M.nb.size, 0, none⟩) (lx0 : Int) 0 (M.new (.cells #[.int .i64 x1_0, .int .i64 x1_1] 24)) Q) :
    Cn Try.prog 42 #[.slice Ax0 lx0 cx0, .agg #[.int .i64 x1_0, .int .i64 x1_1]] M Q :=
  Cn.mk (cuts := K42) (sp := Z42) 900 b42 rfl rfl H fun G => by kernel_rfl

theorem w42_1 {Ax0 : Option Addr} {lx0 cx0 : Nat} {x3 : Option Addr} {x7 x8 : Int} {M : Mem} {Q : Value → Mem → Prop} (H :
    cnd (decide (x8 < x7)) (
     adS x3 fun a1' =>
     onS (M.intAt .i64 a1'.block a1'.off) fun x2' =>
     onS (M.intAt .i64 a1'.block (a1'.off + 1)) fun x3' =>
     ixS (idxA Ax0 lx0 2 x8) fun a4' =>
     onS (M.intAt .i64 a4'.block a4'.off) fun x5' =>
     onS (M.intAt .i64 a4'.block (a4'.off + 1)) fun x6' =>
     puS (binV Try.prog .eql 24 24 (.agg #[.int .i64 x2', .int .i64 x3']) (.agg #[.int .i64 x5', .int .i64 x6'])) fun v7' =>
     tyS (asB v7') fun b8' =>
     cnd b8' (
      Q (.int .i64 x8) M) (
      A42_1 Ax0 lx0 cx0 x3 x7 (IntKind.i64.wrap (x8 + 1)) M Q)) (
     Q (.int .i64 (-1)) M)) :
    A42_1 Ax0 lx0 cx0 x3 x7 x8 M Q :=
  LvP.mk (cuts := K42) (sp := Z42) 900 H fun G => by kernel_rfl


/-! ### slices.Contains[[]zoetrope/api.Vec,zoetrope/api.Vec]: function 29 -/
def K29 : List (List It × List Nat) := []
def Z29 : List (List Nat × List Nat) := []
theorem b29 : Try.prog.funcs[29]? = some Try.f29 ∧ (Orc.tab Try.prog).lookup 29 = none ∧ Try.f29.body = some (codeOf Try.f29) := ⟨by kernel_rfl, by kernel_rfl, by kernel_rfl⟩
theorem w29_0 {Ax0 : Option Addr} {lx0 cx0 : Nat} {x1_0 x1_1 : Int} {M : Mem} {Q : Value → Mem → Prop} (H :
    onS ((M.new (.cells #[.int .i64 x1_0, .int .i64 x1_1] 24)).intAt .i64 (2 * M.nb.size) 0) fun x1' =>
    onS ((M.new (.cells #[.int .i64 x1_0, .int .i64 x1_1] 24)).intAt .i64 (2 * M.nb.size) (0 + 1)) fun x2' =>
    Cn Try.prog 42 #[.slice Ax0 lx0 cx0, .agg #[.int .i64 x1', .int .i64 x2']] (M.new (.cells #[.int .i64 x1_0, .int .i64 x1_1] 24)) fun v3' N3' =>
     tyS (asI .i64 v3') fun x4' =>
     Q (.bool (decide (x4' ≥ 0))) N3') :
    Cn Try.prog 29 #[.slice Ax0 lx0 cx0, .agg #[.int .i64 x1_0, .int .i64 x1_1]] M Q :=
  Cn.mk (cuts := K29) (sp := Z29) 900 b29 rfl rfl H fun G => by kernel_rfl


/-! ### (*zoetrope/grid.Grid).Skip$1: function 31 -/
def K31 : List (List It × List Nat) := []
def Z31 : List (List Nat × List Nat) := []
theorem b31 : Try.prog.funcs[31]? = some Try.f31 ∧ (Orc.tab Try.prog).lookup 31 = none ∧ Try.f31.body = some (codeOf Try.f31) := ⟨by kernel_rfl, by kernel_rfl, by kernel_rfl⟩
theorem w31_0 {x0 : Array Value} {M : Mem} {Q : Value → Mem → Prop} (H :
    onS ((M.new (.cells x0 27)).boolAt (2 * M.nb.size) (0 + 4)) fun b1' =>
    Q (.bool b1') (M.new (.cells x0 27))) :
    Cn Try.prog 31 #[.agg x0] M Q :=
  Cn.mk (cuts := K31) (sp := Z31) 900 b31 rfl rfl H fun G => by kernel_rfl


/-! ### (*zoetrope/grid.Grid).Inter$1: function 32 -/
def K32 : List (List It × List Nat) := []
def Z32 : List (List Nat × List Nat) := []
theorem b32 : Try.prog.funcs[32]? = some Try.f32 ∧ (Orc.tab Try.prog).lookup 32 = none ∧ Try.f32.body = some (codeOf Try.f32) := ⟨by kernel_rfl, by kernel_rfl, by kernel_rfl⟩
theorem w32_0 {x0 : Array Value} {M : Mem} {Q : Value → Mem → Prop} (H :
    onS ((M.new (.cells x0 27)).boolAt (2 * M.nb.size) (0 + 5)) fun b1' =>
    Q (.bool b1') (M.new (.cells x0 27))) :
    Cn Try.prog 32 #[.agg x0] M Q :=
  Cn.mk (cuts := K32) (sp := Z32) 900 b32 rfl rfl H fun G => by kernel_rfl


/-! ### (*zoetrope/grid.Grid).count: function 30 -/
def K30 : List (List It × List Nat) := [([.code [1,0,0,1,1,1], .blk 0, .code [1,1]], [0, 1, 2, 3, 18]), ([.code [1,1,1,0,1,0,0], .lp [1,1,1,0,1,0,0], .blk 1, .code [1,1,1,1]], [0, 3, 10, 42, 43]), ([.code [1,1,1,0,1,0,0,1,1,0,0,1,1,1], .blk 2, .code [1,1,1,0,1,0,0,1,1,1], .lp [1,1,1,0,1,0,0], .blk 1, .code [1,1,1,1]], [0, 3, 10, 42, 43, 60]), ([.code [1,1,1,0,1,0,0,1,1,1], .lp [1,1,1,0,1,0,0], .blk 1, .code [1,1,1,1]], [0, 3, 10, 42, 43])]
def Z30 : List (List Nat × List Nat) := []
theorem b30 : Try.prog.funcs[30]? = some Try.f30 ∧ (Orc.tab Try.prog).lookup 30 = none ∧ Try.f30.body = some (codeOf Try.f30) := ⟨by kernel_rfl, by kernel_rfl, by kernel_rfl⟩
def A30_1 (x0 : Option Addr) (x1 x2 : Int) (x3 : Value) (x18 : Bool) (M : Mem) (Q : Value → Mem → Prop) : Prop := LvP Try.prog Try.f30 [(0, .pointer x0), (1, .int .i64 x1), (2, .int .i64 x2), (3, x3), (18, .bool x18)] [.code [1,0,0,1,1,1], .blk 0, .code [1,1]] M Q
def A30_2 (x0 : Option Addr) (x3 : Value) (x10 x42_0 x42_1 x42_2 x42_3 x43 : Int) (M : Mem) (Q : Value → Mem → Prop) : Prop := LvP Try.prog Try.f30 [(0, .pointer x0), (3, x3), (10, .int .i64 x10), (42, .agg #[.int .i64 x42_0, .int .i64 x42_1, .int .i64 x42_2, .int .i64 x42_3]), (43, .int .i64 x43)] [.code [1,1,1,0,1,0,0], .lp [1,1,1,0,1,0,0], .blk 1, .code [1,1,1,1]] M Q
def A30_3 (x0 : Option Addr) (x3 : Value) (x10 x42_0 x42_1 x42_2 x42_3 x43 : Int) (x60 : Bool) (M : Mem) (Q : Value → Mem → Prop) : Prop := LvP Try.prog Try.f30 [(0, .pointer x0), (3, x3), (10, .int .i64 x10), (42, .agg #[.int .i64 x42_0, .int .i64 x42_1, .int .i64 x42_2, .int .i64 x42_3]), (43, .int .i64 x43), (60, .bool x60)] [.code [1,1,1,0,1,0,0,1,1,0,0,1,1,1], .blk 2, .code [1,1,1,0,1,0,0,1,1,1], .lp [1,1,1,0,1,0,0], .blk 1, .code [1,1,1,1]] M Q
def A30_4 (x0 : Option Addr) (x3 : Value) (x10 x42_0 x42_1 x42_2 x42_3 x43 : Int) (M : Mem) (Q : Value → Mem → Prop) : Prop := LvP Try.prog Try.f30 [(0, .pointer x0), (3, x3), (10, .int .i64 x10), (42, .agg #[.int .i64 x42_0, .int .i64 x42_1, .int .i64 x42_2, .int .i64 x42_3]), (43, .int .i64 x43)] [.code [1,1,1,0,1,0,0,1,1,1], .lp [1,1,1,0,1,0,0], .blk 1, .code [1,1,1,1]] M Q
theorem w30_0 {x0 : Option Addr} {x1 x2 : Int} {x3 : Value} {M : Mem} {Q : Value → Mem → Prop} (H :
    Cn Try.prog 24 #[.pointer x0] M fun v1' N1' =>
     tyS (asB v1') fun b2' =>
     cnd b2' (
      Q (.tuple #[.int .i64 0, .int .i64 1]) N1') (
      cnd ((x1.tmod 8) != 0) (
       A30_1 x0 x1 x2 x3 true N1' Q) (
       cnd ((x2.tmod 8) != 0) (
        A30_1 x0 x1 x2 x3 true N1' Q) (
        Cn Try.prog 26 #[.pointer x0, .int .i64 x1, .int .i64 x2] N1' fun v3' N3' =>
         tyS (asB v3') fun b4' =>
         A30_1 x0 x1 x2 x3 (!b4') N3' Q)))) :
    Cn Try.prog 30 #[.pointer x0, .int .i64 x1, .int .i64 x2, x3] M Q :=
  Cn.mk (cuts := K30) (sp := Z30) 900 b30 rfl rfl H fun G => by kernel_rfl

theorem w30_1 {x0 : Option Addr} {x1 x2 : Int} {x3 : Value} {x18 : Bool} {M : Mem} {Q : Value → Mem → Prop} (H :
    cnd x18 (
     Q (.tuple #[.int .i64 0, .int .i64 2]) M) (
     A30_2 x0 x3 0 (IntKind.i64.wrap (x1 - 1)) x2 x1 (IntKind.i64.wrap (x2 - 1)) 0 M Q)) :
    A30_1 x0 x1 x2 x3 x18 M Q :=
  LvP.mk (cuts := K30) (sp := Z30) 900 H fun G => by kernel_rfl

theorem w30_2 {x0 : Option Addr} {x3 : Value} {x10 x42_0 x42_1 x42_2 x42_3 x43 : Int} {M : Mem} {Q : Value → Mem → Prop} (H :
    cnd (decide (x43 < 2)) (
     puS (strV Try.prog 87 (.agg #[.int .i64 x42_0, .int .i64 x42_1, .int .i64 x42_2, .int .i64 x42_3]) (.int .i64 x43)) fun v5' =>
     tyS (asA 2 v5') fun cs6' =>
     tyS (asI .i64 (cs6'.getD 0 undef)) fun x7' =>
     tyS (asI .i64 (cs6'.getD 1 undef)) fun x8' =>
     stP (some 2) #[.int .i64 x7', .int .i64 x8'] (M.new (.cells #[.int .i64 0, .int .i64 0] 22)) (2 * M.nb.size) 0 fun M9' =>
     ixS (idxA (some ⟨2 * M.nb.size, 0, none⟩) 2 1 0) fun a10' =>
     onS (M9'.intAt .i64 a10'.block a10'.off) fun x11' =>
     ixS (idxA (some ⟨2 * M.nb.size, 0, none⟩) 2 1 1) fun a12' =>
     onS (M9'.intAt .i64 a12'.block a12'.off) fun x13' =>
     Cn Try.prog 14 #[.pointer x0, .int .i64 x11', .int .i64 x13'] M9' fun v14' N14' =>
      tyS (asU 2 v14') fun cs15' =>
      tyS (asA 23 (cs15'.getD 0 undef)) fun cs16' =>
      asCellsP tyZpC0 0 cs16' fun vs17' =>
      tyS (asB (cs15'.getD 1 undef)) fun b18' =>
      tyS (asA 23 (.agg vs17'.toArray)) fun cs19' =>
      asCellsP tyZpC0 0 cs19' fun vs20' =>
      stP (some 23) vs20'.toArray (N14'.new (.cells #[.int .i64 0, .int .i64 0, .int .i64 0, .int .i64 0, .bool false, .bool false, .int .i64 0, .int .i64 0, .int .i64 0, .int .i64 0, .int .i64 0, .int .i64 0, .int .i64 0, .bool false, .int .i64 0, .int .i64 0, .int .i64 0, .int .i64 0, .int .i64 0, .int .i64 0, .int .i64 0, .int .i64 0, .bool false] 27)) (2 * N14'.nb.size) 0 fun M21' =>
      cnd b18' (
       ldP tyZpC0 M21' (2 * N14'.nb.size) 0 fun vs22' =>
       caS (callVal Try.prog x3 #[.agg vs22'.toArray]) fun q23' =>
       Cn Try.prog q23'.1 q23'.2 M21' fun v24' N24' =>
        tyS (asB v24') fun b25' =>
        A30_3 x0 x3 x10 x42_0 x42_1 x42_2 x42_3 x43 b25' N24' Q) (
       A30_3 x0 x3 x10 x42_0 x42_1 x42_2 x42_3 x43 false M21' Q)) (
     Q (.tuple #[.int .i64 x10, .int .i64 0]) M)) :
    A30_2 x0 x3 x10 x42_0 x42_1 x42_2 x42_3 x43 M Q :=
  LvP.mk (cuts := K30) (sp := Z30) 900 H fun G => by kernel_rfl

theorem w30_3 {x0 : Option Addr} {x3 : Value} {x10 x42_0 x42_1 x42_2 x42_3 x43 : Int} {x60 : Bool} {M : Mem} {Q : Value → Mem → Prop} (H :
    cnd x60 (
     A30_4 x0 x3 (IntKind.i64.wrap (x10 + 1)) x42_0 x42_1 x42_2 x42_3 x43 M Q) (
     A30_4 x0 x3 x10 x42_0 x42_1 x42_2 x42_3 x43 M Q)) :
    A30_3 x0 x3 x10 x42_0 x42_1 x42_2 x42_3 x43 x60 M Q :=
  LvP.mk (cuts := K30) (sp := Z30) 900 H fun G => by kernel_rfl

theorem w30_4 {x0 : Option Addr} {x3 : Value} {x10 x42_0 x42_1 x42_2 x42_3 x43 : Int} {M : Mem} {Q : Value → Mem → Prop} (H :
    A30_2 x0 x3 x10 x42_0 x42_1 x42_2 x42_3 (IntKind.i64.wrap (x43 + 1)) M Q) :
    A30_4 x0 x3 x10 x42_0 x42_1 x42_2 x42_3 x43 M Q :=
  LvP.mk (cuts := K30) (sp := Z30) 900 H fun G => by kernel_rfl


/-! ### (*zoetrope/grid.Grid).Skip: function 11 -/
def K11 : List (List It × List Nat) := []
def Z11 : List (List Nat × List Nat) := []
theorem b11 : Try.prog.funcs[11]? = some Try.f11 ∧ (Orc.tab Try.prog).lookup 11 = none ∧ Try.f11.body = some (codeOf Try.f11) := ⟨by kernel_rfl, by kernel_rfl, by kernel_rfl⟩
theorem w11_0 {x0 : Option Addr} {x1 x2 : Int} {M : Mem} {Q : Value → Mem → Prop} (H :
    Cn Try.prog 30 #[.pointer x0, .int .i64 x1, .int .i64 x2, .func (.func 31) #[] #[]] M fun v1' N1' =>
     tyS (asU 2 v1') fun cs2' =>
     tyS (asI .i64 (cs2'.getD 0 undef)) fun x3' =>
     tyS (asI .i64 (cs2'.getD 1 undef)) fun x4' =>
     Q (.tuple #[.int .i64 (x3'), .int .i64 (x4')]) N1') :
    Cn Try.prog 11 #[.pointer x0, .int .i64 x1, .int .i64 x2] M Q :=
  Cn.mk (cuts := K11) (sp := Z11) 900 b11 rfl rfl H fun G => by kernel_rfl


/-! ### (*zoetrope/grid.Grid).Inter: function 12 -/
def K12 : List (List It × List Nat) := []
def Z12 : List (List Nat × List Nat) := []
theorem b12 : Try.prog.funcs[12]? = some Try.f12 ∧ (Orc.tab Try.prog).lookup 12 = none ∧ Try.f12.body = some (codeOf Try.f12) := ⟨by kernel_rfl, by kernel_rfl, by kernel_rfl⟩
theorem w12_0 {x0 : Option Addr} {x1 x2 : Int} {M : Mem} {Q : Value → Mem → Prop} (H :
    Cn Try.prog 30 #[.pointer x0, .int .i64 x1, .int .i64 x2, .func (.func 32) #[] #[]] M fun v1' N1' =>
     tyS (asU 2 v1') fun cs2' =>
     tyS (asI .i64 (cs2'.getD 0 undef)) fun x3' =>
     tyS (asI .i64 (cs2'.getD 1 undef)) fun x4' =>
     Q (.tuple #[.int .i64 (x3'), .int .i64 (x4')]) N1') :
    Cn Try.prog 12 #[.pointer x0, .int .i64 x1, .int .i64 x2] M Q :=
  Cn.mk (cuts := K12) (sp := Z12) 900 b12 rfl rfl H fun G => by kernel_rfl


end Go.Zt

/- Layer 17: cells of blocks; the program's grid in memory; At. -/
set_option linter.unusedSimpArgs false
set_option linter.unusedVariables false
set_option maxRecDepth 100000
namespace Go.Zt
open Go Go.Sim Go.Proofs Go.RowKit

/-! ### Plain -/
def Bk.cov (b : Bk) (x y : Int) : Bool := decide (b.x ≤ x ∧ x < b.x + b.w ∧ b.y ≤ y ∧ y < b.y + b.h)
def Bk.ok (b : Bk) (t : Tl) : Bool := decide (b.x % 8 = 0 ∧ b.y % 8 = 0) && sideB b.w && sideB b.h && t.in b.x b.y && t.in (b.x + b.w - 1) (b.y + b.h - 1)
theorem Bk.ok_iff {b : Bk} {t : Tl} : b.ok t = true ↔ (b.x % 8 = 0 ∧ b.y % 8 = 0) ∧ (b.w = 8 ∨ b.w = 16 ∨ b.w = 32 ∨ b.w = 64) ∧ (b.h = 8 ∨ b.h = 16 ∨ b.h = 32 ∨ b.h = 64) ∧ (t.x ≤ b.x ∧ b.x + b.w ≤ t.x + t.w ∧ t.y ≤ b.y ∧ b.y + b.h ≤ t.y + t.h) := by
  unfold Bk.ok sideB Tl.in
  simp only [Bool.and_eq_true, decide_eq_true_eq]
  constructor
  · rintro ⟨⟨⟨⟨h1, h2⟩, h3⟩, h4⟩, h5⟩; exact ⟨h1, h2, h3, by omega⟩
  · rintro ⟨h1, h2, h3, h4⟩; exact ⟨⟨⟨⟨h1, h2⟩, h3⟩, by omega⟩, by omega⟩
def ents (b : Bk) : List (Int × Int) := (List.range (b.h.toNat / 8)).flatMap fun (yi : Nat) => (List.range (b.w.toNat / 8)).map fun (xi : Nat) => (b.x / 8 + ((xi : Nat) : Int), b.y / 8 + ((yi : Nat) : Int))
def entL : Nat → List Bk → Ents
  | _, [] => []
  | n, b :: L => (ents b).map (fun p => (p, (n : Int))) ++ entL (n + 1) L
def idxS (x y : Int) : List Bk → Option Nat
  | [] => none
  | b :: L => if b.cov x y then some 0 else (idxS x y L).map (· + 1)
/-- The block at a place. -/
def atS (x y : Int) : List Bk → Option Bk
  | [] => none
  | b :: L => if b.cov x y then some b else atS x y L
section
variable {t : Tl} {x y : Int} {L : List Bk} {b : Bk}
theorem mem_ents {p q : Int} : (p, q) ∈ ents b ↔ ∃ yi xi : Nat, yi < b.h.toNat / 8 ∧ xi < b.w.toNat / 8 ∧ p = b.x / 8 + (xi : Int) ∧ q = b.y / 8 + (yi : Int) := by
  unfold ents
  simp only [List.mem_flatMap, List.mem_range, List.mem_map, Prod.mk.injEq]
  constructor
  · rintro ⟨yi, h1, xi, h2, h3, h4⟩; exact ⟨yi, xi, h1, h2, h3.symm, h4.symm⟩
  · rintro ⟨yi, xi, h1, h2, h3, h4⟩; exact ⟨yi, h1, xi, h2, h3.symm, h4.symm⟩
theorem cov_ents (hb : b.ok t = true) : (x / 8, y / 8) ∈ ents b ↔ b.cov x y = true := by
  obtain ⟨h1, h2, h3, _⟩ := Bk.ok_iff.1 hb
  rw [mem_ents]
  unfold Bk.cov
  rw [decide_eq_true_eq]
  constructor
  · rintro ⟨yi, xi, g1, g2, g3, g4⟩; omega
  · intro h
    exact ⟨(y / 8 - b.y / 8).toNat, (x / 8 - b.x / 8).toNat, by omega, by omega, by omega, by omega⟩
theorem findE_app {k : Int × Int} : ∀ (A B : Ents) (i : Nat), findE k (A ++ B) i = (findE k A i).or (findE k B (i + A.length))
  | [], B, i => by simp [findE]
  | e :: A, B, i => by
    simp only [List.cons_append, findE]
    split
    · rfl
    · rw [findE_app A B (i + 1)]; simp only [List.length_cons]; congr 2; omega
theorem findE_map {k : Int × Int} {n : Int} : ∀ (l : List (Int × Int)) (i : Nat), (findE k (l.map fun p => (p, n)) i).map (·.2) = if k ∈ l then some n else none
  | [], i => by simp [findE]
  | e :: l, i => by
    simp only [List.map_cons, findE]
    split
    · rename_i h; simp [h]
    · rename_i h
      rw [findE_map l (i + 1)]
      simp [h]
theorem or_map {α β : Type} (f : α → β) (a b : Option α) : (a.or b).map f = (a.map f).or (b.map f) := by cases a <;> rfl
theorem findE_entL : ∀ (L : List Bk) (n i : Nat), (∀ b ∈ L, b.ok t = true) → (findE (x / 8, y / 8) (entL n L) i).map (·.2) = (idxS x y L).map fun m => ((n + m : Nat) : Int)
  | [], n, i, _ => rfl
  | b :: L, n, i, h => by
    have hb := cov_ents (x := x) (y := y) (h b (List.mem_cons_self ..))
    simp only [entL, idxS]
    rw [findE_app, or_map, findE_map, findE_entL L (n + 1) _ fun c hc => h c (List.mem_cons_of_mem _ hc)]
    cases hc : b.cov x y with
    | true => rw [if_pos (hb.2 hc)]; simp
    | false =>
      rw [if_neg (fun q => by rw [hb.1 q] at hc; cases hc)]
      cases idxS x y L with
      | none => rfl
      | some m => simp; omega
theorem idx_none : ∀ {L : List Bk}, idxS x y L = none → atS x y L = none
  | [], _ => rfl
  | b :: L, h => by
    unfold idxS at h
    unfold atS
    split at h
    · cases h
    · rename_i hc
      rw [if_neg hc]
      exact idx_none (by simpa using h)
theorem idx_some : ∀ {L : List Bk} {m : Nat}, idxS x y L = some m → ∃ h : m < L.length, atS x y L = some L[m]
  | [], m, h => by cases h
  | b :: L, m, h => by
    unfold idxS at h
    unfold atS
    split at h
    · rename_i hc
      obtain rfl := Option.some.inj h
      exact ⟨by simp, by rw [if_pos hc]; rfl⟩
    · rename_i hc
      obtain ⟨k, hk, rfl⟩ := Option.map_eq_some_iff.1 h
      obtain ⟨h1, h2⟩ := idx_some hk
      exact ⟨by simp; omega, by rw [if_neg hc, h2]; rfl⟩
theorem atS_mem : ∀ {L : List Bk} {c : Bk}, atS x y L = some c → c ∈ L ∧ c.cov x y = true
  | [], c, h => by cases h
  | b :: L, c, h => by
    unfold atS at h
    split at h
    · rename_i hc; obtain rfl := Option.some.inj h; exact ⟨List.mem_cons_self .., hc⟩
    · obtain ⟨h1, h2⟩ := atS_mem h; exact ⟨List.mem_cons_of_mem _ h1, h2⟩
theorem atS_in (hL : ∀ b ∈ L, b.ok t = true) (h : t.in x y = false) : atS x y L = none := by
  cases hc : atS x y L with
  | none => rfl
  | some c =>
    obtain ⟨h1, h2⟩ := atS_mem hc
    have h3 := Bk.ok_iff.1 (hL c h1)
    unfold Bk.cov at h2
    have h2 := of_decide_eq_true h2
    unfold Tl.in at h
    have h := of_decide_eq_false h
    omega
end
/-! ### Blocks in rows -/
theorem Bks_len (L : List Bk) : (Bks L).length = 23 * L.length := by
  induction L with
  | nil => rfl
  | cons x L ih => simp only [Bks, List.flatMap_cons, List.length_append, List.length_cons] at ih ⊢; rw [ih]; show 23 + _ = _; omega
theorem Bks_at {L : List Bk} {i : Nat} (hi : i < L.length) : ((Bks L).drop (i * 23)).take 23 = L[i].cs.toList := by
  induction L generalizing i with
  | nil => simp at hi
  | cons b L ih =>
    have lb : b.cs.toList.length = 23 := rfl
    cases i with
    | zero =>
      simp only [Bks, List.flatMap_cons, Nat.zero_mul, List.drop_zero, List.getElem_cons_zero]
      rw [List.take_append_of_le_length (by rw [lb]; exact Nat.le_refl _), List.take_of_length_le (by rw [lb]; exact Nat.le_refl _)]
    | succ i =>
      simp only [Bks, List.flatMap_cons, List.getElem_cons_succ]
      rw [List.drop_append, lb, List.drop_of_length_le (by rw [lb]; omega), List.nil_append, show (i + 1) * 23 - 23 = i * 23 by omega]
      exact ih (by simpa using hi)
theorem Bks_one (L : List Bk) : (Bks L).all oneCell = true := by
  induction L with
  | nil => rfl
  | cons x L ih => simp only [Bks, List.flatMap_cons, List.all_append, Bool.and_eq_true] at ih ⊢; exact ⟨rfl, ih⟩
theorem Bks.elt {M : Mem} {A : Option Addr} {L : List Bk} (hR : Row M A (Bks L)) {n i : Nat} {z : Int} (hz : z = (i : Int)) (hn : i < n) (hi : i < L.length) {tys : List Sc} {p : List Value → Prop} (hf : fitL tys L[i].cs.toList = true) (k : p L[i].cs.toList) :
    ∃ a, idxA A n 23 z = some a ∧ ldP tys M a.block a.off p := by
  have hl := Bks_len L
  obtain ⟨a, h1, h2⟩ := ldR (p := p) hR (s := 23) hz hn (by decide) (by omega) (tys := tys)
  rw [Bks_at hi] at h2
  exact ⟨a, h1, h2 hf k⟩
theorem elem43 : ElemS Try.prog 43 27 23 176 (.agg zB.cs) := ⟨by kernel_rfl, by kernel_rfl, by kernel_rfl, by kernel_rfl, by decide⟩
/-! ### The same block -/
theorem eqV_int {k : IntKind} {x : Int} : eqV (.int k x) (.int k x) = true := by simp [eqV]
theorem eqV_bool {x : Bool} : eqV (.bool x) (.bool x) = true := by simp [eqV]
theorem eqV_sl {A : Option Addr} {l c : Nat} : eqV (.slice A l c) (.slice A l c) = true := by cases A <;> simp [eqV]
theorem eqV_map {A : Option Nat} : eqV (.map A) (.map A) = true := by cases A <;> simp [eqV]
theorem sameB_at {M N : Mem} {j : Nat} {c : Array Value} {t : TypeId} (a : M.nb[j]? = some (.cells c t)) (a' : N.nb[j]? = some (.cells c t)) (hs : eqVs c.toList c.toList = true) : sameB M N (2 * j) = true := by
  unfold sameB
  rw [if_neg (by omega), show 2 * j / 2 = j by omega, a, a']
  simp [hs]
theorem sameB_odd {M N : Mem} {b : Nat} (h : b % 2 = 1) : sameB M N b = true := by unfold sameB; rw [if_pos h]
/-! ### The grid -/
structure Gr (V : Nat → Prop) (M : Mem) (j jm : Nat) (t : Tl) (L : List Bk) : Prop where
  may : t.may = true
  out : ¬ V j ∧ ¬ V jm ∧ j ≠ jm
  ok : ∀ b ∈ L, b.ok t = true
  len : L.length ≤ 1000
  ex : ∃ A c es k, GrAt M j t A L.length c jm ∧ Own V M 27 A (c * 23) (Bks L) ∧ L.length ≤ c ∧ M.nb[jm]? = some (.map es k) ∧ EntR es.toList (entL 0 L)
theorem Gr.chg {V T : Nat → Prop} {M N : Mem} {j jm : Nat} {t : Tl} {L : List Bk} (G : Gr V M j jm t L) (C : Chg T M N) (hT : ∀ i, i < M.nb.size → V i ∨ i = j ∨ i = jm → ¬ T i) : Gr V N j jm t L := by
  obtain ⟨A, c, es, k, h1, h2, h3, h4, h5⟩ := G.ex
  exact ⟨G.may, G.out, G.ok, G.len, A, c, es, k, at_chg h1 C (hT j (lt_of_at h1) (.inr (.inl rfl))), h2.chg C fun i hi hv => hT i hi (.inl hv), h3, at_chg h4 C (hT jm (lt_of_at h4) (.inr (.inr rfl))), h5⟩
theorem Gr.keep {V : Nat → Prop} {M N : Mem} {j jm : Nat} {t : Tl} {L : List Bk} (G : Gr V M j jm t L) (K : Keep M N) : Gr V N j jm t L := G.chg K fun _ _ _ h => h
theorem key72 : KeyOk Try.prog 72 := KeyOk.of (k := 3) (by kernel_rfl) (by decide) (by kernel_rfl) (fun a b => by kernel_rfl) fun a b e => by cases e <;> kernel_rfl
theorem und61 : Try.prog.underlying 61 = some (.map 72 3) := by kernel_rfl
def atV : Option Bk → Value
  | none => .tuple #[.agg zB.cs, .bool false]
  | some b => .tuple #[.agg b.cs, .bool true]
section
variable {V : Nat → Prop} {M : Mem} {j jm : Nat} {t : Tl} {L : List Bk} {x y : Int}
theorem gr_same {M N : Mem} {A : Option Addr} {n c : Nat} (g : GrAt M j t A n c jm) (K : Keep M N) : sameB M N (2 * j) = true :=
  sameB_at g (at_keep g K) (by simp only [eqVs, eqV_int, eqV_bool, eqV_sl, eqV_map, Bool.and_true])
set_option maxHeartbeats 1000000 in
theorem c14 (hf : M.floor ≤ M.nb.size) (G : Gr V M j jm t L) (hx : i64R x) (hy : i64R y) : Cn Try.prog 14 #[PtrB j, .int .i64 x, .int .i64 y] M fun v N => v = atV (atS x y L) ∧ Keep M N := by
  have a := Mem.new_at M (.cells zB.cs 27)
  have K1 : Keep M (M.new (.cells zB.cs 27)) := .new _ _
  have z1 := Mem.new_size M (.cells zB.cs 27)
  refine w14_0 ?_
  show Cn Try.prog 24 _ (M.new (.cells zB.cs 27)) _
  generalize M.new (.cells zB.cs 27) = M1 at a K1 z1 ⊢
  have f1 := fb hf K1
  have G1 := G.keep K1
  obtain ⟨A, c, es, k, g1, g2, g3, g4, g5⟩ := G1.ex
  have fl : ∀ {N : Mem}, Keep M1 N → N.floor ≤ M.nb.size := fun K => by rw [K.floor, K1.floor]; exact hf
  have none_ : atS x y L = none → ∀ {N : Mem}, Keep M1 N → stP (some 23) zB.cs N (2 * M.nb.size) 0 fun M6' => adS (some (⟨2 * M.nb.size, 0, none⟩ : Addr)) fun a7' => ldP tyZpC0 M6' a7'.block a7'.off fun vs8' => (fun v N => v = atV (atS x y L) ∧ Keep M N) (.tuple #[.agg vs8'.toArray, .bool false]) M6' := by
    intro h N K
    refine stA (cs := zB.cs) (at_keep a K) (fl K) rfl rfl rfl fun M6 C6 z6 b6 => ad rfl (ldA b6 rfl ⟨by rw [h]; rfl, Keep.step (K1.trans K) C6 fun i hi => by omega⟩)
  refine Cn.eq (c24 g1) (ty rfl (cF rfl (Cn.eq (c26 g1 G.may hx hy) (ty rfl (w14_1 ?_)))))
  cases hin : t.in x y with
  | false => exact cT rfl (ad rfl (none_ (atS_in G.ok hin) (.refl _)))
  | true =>
    have hm := G.may
    unfold Tl.may spanB at hm
    simp only [Bool.and_eq_true, decide_eq_true_eq] at hm
    have hin' := of_decide_eq_true hin
    refine cF rfl (ad rfl (on (x := .map (some (2 * jm))) (by rw [cell_of g1]; rfl) (cT (decide_eq_true f1) (Cn.mono (c27 f1 ⟨by omega, hx⟩ ⟨by omega, hy⟩) ?_))))
    rintro _ N ⟨rfl, K2⟩
    refine cT (gr_same g1 K2) (ty rfl (ty rfl (ty rfl ?_)))
    have hl := lookup_pl und61 key72 (a := x / 8) (b := y / 8) (at_keep g4 K2) g5 (by kernel_rfl)
    refine me hl (ty rfl (ty rfl (ty rfl ?_)))
    have hfd := findE_entL (t := t) (x := x) (y := y) L 0 0 G.ok
    cases hi : findE (x / 8, y / 8) (entL 0 L) 0 with
    | none =>
      rw [hi] at hfd
      have hn : idxS x y L = none := by
        cases hq : idxS x y L with
        | none => rfl
        | some m => rw [hq] at hfd; cases hfd
      exact cT rfl (ad rfl (none_ (idx_none hn) K2))
    | some r =>
      rw [hi] at hfd
      cases hq : idxS x y L with
      | none => rw [hq] at hfd; cases hfd
      | some m =>
        rw [hq] at hfd
        simp only [Option.map_some, Option.some.injEq, Nat.zero_add] at hfd
        obtain ⟨hm, hat⟩ := idx_some hq
        refine cF rfl (ad rfl (on (sl_of (i := 0 + 5) (at_keep g1 K2) rfl) ?_))
        obtain ⟨b, e1, e2⟩ := Bks.elt (n := L.length) (i := m) (z := r.2) (g2.row.keep K2) hfd hm hm (tys := tyZpC0) (p := fun vs26' => adS (some (⟨2 * M.nb.size, 0, none⟩ : Addr)) fun a27' => stP (some 23) vs26'.toArray N a27'.block a27'.off fun M28' => adS (some (⟨2 * M.nb.size, 0, none⟩ : Addr)) fun a29' => ldP tyZpC0 M28' a29'.block a29'.off fun vs30' => (fun v N => v = atV (atS x y L) ∧ Keep M N) (.tuple #[.agg vs30'.toArray, .bool true]) M28') rfl
          (ad rfl (stA (cs := L[m].cs) (at_keep a K2) (fl K2) rfl rfl rfl fun M6 C6 z6 b6 => ad rfl (ldA b6 rfl ⟨by rw [hat]; rfl, Keep.step (K1.trans K2) C6 fun i hi => by omega⟩)))
        exact ix e1 e2
end
end Go.Zt

/- The functions' walks: for each function and each loop a rule of what it comes to. Printed by zw2.py. -/
set_option linter.unusedVariables false
set_option maxRecDepth 100000
namespace Go.Zt
open Go Go.Sim Go.Proofs

def tyZpD0 : List Sc := [.int .i64, .int .i64, .int .i64, .int .i64, .bool, .bool, .int .i64, .int .i64, .int .i64, .int .i64, .int .i64, .int .i64, .int .i64, .bool, .int .i64, .int .i64, .int .i64, .int .i64, .int .i64, .int .i64, .int .i64, .int .i64, .bool]
/-! ### (*zoetrope/grid.Grid).Put: function 9 -/
def K9 : List (List It × List Nat) := [([.rg [1,0,0,1,1,0] 11, .code [1,0,0,1,1,1], .blk 0, .code [1,1]], [0, 3, 26]), ([.rg [1,0,0,1,1,0] 17, .code [1,0,0,1,1,1], .blk 0, .code [1,1]], [0, 3, 32]), ([.rg [1,0,0,1,1,0] 23, .code [1,0,0,1,1,1], .blk 0, .code [1,1]], [0, 3, 38]), ([.rg [1,0,0,1,1,0] 32, .code [1,0,0,1,1,1], .blk 0, .code [1,1]], [0, 3, 47]), ([.code [1,0,0,1,1,1], .blk 0, .code [1,1]], [0, 3, 15]), ([.code [1,1,1,0,1,0,0], .lp [1,1,1,0,1,0,0], .blk 1, .code [1,1,1,1]], [0, 3, 5, 6]), ([.code [1,1,1,0,1,0,0,1,0,0,1,0,0], .lp [1,1,1,0,1,0,0,1,0,0,1,0,0], .blk 3, .blk 2, .code [1,1,1,0,1,0,0,1,1], .lp [1,1,1,0,1,0,0], .blk 1, .code [1,1,1,1]], [0, 3, 5, 6, 7]), ([.code [1,1,1,1,0,1,0,0], .lp [1,1,1,1,0,1,0,0], .blk 5, .code [1,1,1,1,1]], [0, 3, 104, 105, 106])]
def Z9 : List (List Nat × List Nat) := [([1,0,0,1,1,0], [11, 17, 23, 32, 49])]
theorem b9 : Try.prog.funcs[9]? = some Try.f9 ∧ (Orc.tab Try.prog).lookup 9 = none ∧ Try.f9.body = some (codeOf Try.f9) := ⟨by kernel_rfl, by kernel_rfl, by kernel_rfl⟩
def A9_1 (x0 x3 : Option Addr) (x26 : Bool) (M : Mem) (Q : Value → Mem → Prop) : Prop := LvP Try.prog Try.f9 [(0, .pointer x0), (3, .pointer x3), (26, .bool x26)] [.rg [1,0,0,1,1,0] 11, .code [1,0,0,1,1,1], .blk 0, .code [1,1]] M Q
def A9_2 (x0 x3 : Option Addr) (x32 : Bool) (M : Mem) (Q : Value → Mem → Prop) : Prop := LvP Try.prog Try.f9 [(0, .pointer x0), (3, .pointer x3), (32, .bool x32)] [.rg [1,0,0,1,1,0] 17, .code [1,0,0,1,1,1], .blk 0, .code [1,1]] M Q
def A9_3 (x0 x3 : Option Addr) (x38 : Bool) (M : Mem) (Q : Value → Mem → Prop) : Prop := LvP Try.prog Try.f9 [(0, .pointer x0), (3, .pointer x3), (38, .bool x38)] [.rg [1,0,0,1,1,0] 23, .code [1,0,0,1,1,1], .blk 0, .code [1,1]] M Q
def A9_4 (x0 x3 : Option Addr) (x47 : Bool) (M : Mem) (Q : Value → Mem → Prop) : Prop := LvP Try.prog Try.f9 [(0, .pointer x0), (3, .pointer x3), (47, .bool x47)] [.rg [1,0,0,1,1,0] 32, .code [1,0,0,1,1,1], .blk 0, .code [1,1]] M Q
def A9_5 (x0 x3 : Option Addr) (x15 : Bool) (M : Mem) (Q : Value → Mem → Prop) : Prop := LvP Try.prog Try.f9 [(0, .pointer x0), (3, .pointer x3), (15, .bool x15)] [.code [1,0,0,1,1,1], .blk 0, .code [1,1]] M Q
def A9_6 (x0 x3 Ax5 : Option Addr) (lx5 cx5 : Nat) (x6 : Int) (M : Mem) (Q : Value → Mem → Prop) : Prop := LvP Try.prog Try.f9 [(0, .pointer x0), (3, .pointer x3), (5, .slice Ax5 lx5 cx5), (6, .int .i64 x6)] [.code [1,1,1,0,1,0,0], .lp [1,1,1,0,1,0,0], .blk 1, .code [1,1,1,1]] M Q
def A9_7 (x0 x3 Ax5 : Option Addr) (lx5 cx5 : Nat) (x6 x7 : Int) (M : Mem) (Q : Value → Mem → Prop) : Prop := LvP Try.prog Try.f9 [(0, .pointer x0), (3, .pointer x3), (5, .slice Ax5 lx5 cx5), (6, .int .i64 x6), (7, .int .i64 x7)] [.code [1,1,1,0,1,0,0,1,0,0,1,0,0], .lp [1,1,1,0,1,0,0,1,0,0,1,0,0], .blk 3, .blk 2, .code [1,1,1,0,1,0,0,1,1], .lp [1,1,1,0,1,0,0], .blk 1, .code [1,1,1,1]] M Q
def A9_8 (x0 x3 Ax104 : Option Addr) (lx104 cx104 : Nat) (x105 x106 : Int) (M : Mem) (Q : Value → Mem → Prop) : Prop := LvP Try.prog Try.f9 [(0, .pointer x0), (3, .pointer x3), (104, .slice Ax104 lx104 cx104), (105, .int .i64 x105), (106, .int .i64 x106)] [.code [1,1,1,1,0,1,0,0], .lp [1,1,1,1,0,1,0,0], .blk 5, .code [1,1,1,1,1]] M Q
theorem w9_0 {x0 : Option Addr} {x1_0 x1_1 x1_2 x1_3 : Int} {x1_4 x1_5 : Bool} {x1_6 x1_7 x1_8 x1_9 x1_10 x1_11 x1_12 : Int} {x1_13 : Bool} {x1_14 x1_15 x1_16 x1_17 x1_18 x1_19 x1_20 x1_21 : Int} {x1_22 : Bool} {M : Mem} {Q : Value → Mem → Prop} (H :
    Cn Try.prog 24 #[.pointer x0] (M.new (.cells #[.int .i64 x1_0, .int .i64 x1_1, .int .i64 x1_2, .int .i64 x1_3, .bool x1_4, .bool x1_5, .int .i64 x1_6, .int .i64 x1_7, .int .i64 x1_8, .int .i64 x1_9, .int .i64 x1_10, .int .i64 x1_11, .int .i64 x1_12, .bool x1_13, .int .i64 x1_14, .int .i64 x1_15, .int .i64 x1_16, .int .i64 x1_17, .int .i64 x1_18, .int .i64 x1_19, .int .i64 x1_20, .int .i64 x1_21, .bool x1_22] 27)) fun v1' N1' =>
     tyS (asB v1') fun b2' =>
     cnd b2' (
      Q (.int .i64 1) N1') (
      onS (N1'.intAt .i64 (2 * M.nb.size) 0) fun x3' =>
      cnd ((x3'.tmod 8) != 0) (
       A9_1 x0 (some ⟨2 * M.nb.size, 0, none⟩) true N1' Q) (
       onS (N1'.intAt .i64 (2 * M.nb.size) (0 + 1)) fun x4' =>
       A9_1 x0 (some ⟨2 * M.nb.size, 0, none⟩) ((x4'.tmod 8) != 0) N1' Q))) :
    Cn Try.prog 9 #[.pointer x0, .agg #[.int .i64 x1_0, .int .i64 x1_1, .int .i64 x1_2, .int .i64 x1_3, .bool x1_4, .bool x1_5, .int .i64 x1_6, .int .i64 x1_7, .int .i64 x1_8, .int .i64 x1_9, .int .i64 x1_10, .int .i64 x1_11, .int .i64 x1_12, .bool x1_13, .int .i64 x1_14, .int .i64 x1_15, .int .i64 x1_16, .int .i64 x1_17, .int .i64 x1_18, .int .i64 x1_19, .int .i64 x1_20, .int .i64 x1_21, .bool x1_22]] M Q :=
  Cn.mk (cuts := K9) (sp := Z9) 900 b9 rfl rfl H fun G => by kernel_rfl

theorem w9_1 {x0 x3 : Option Addr} {x26 : Bool} {M : Mem} {Q : Value → Mem → Prop} (H :
    cnd x26 (
     A9_2 x0 x3 true M Q) (
     adS x3 fun a5' =>
     onS (M.intAt .i64 a5'.block (a5'.off + 2)) fun x6' =>
     Cn Try.prog 25 #[.int .i64 x6'] M fun v7' N7' =>
      tyS (asB v7') fun b8' =>
      A9_2 x0 x3 (!b8') N7' Q)) :
    A9_1 x0 x3 x26 M Q :=
  LvP.mk (cuts := K9) (sp := Z9) 900 H fun G => by kernel_rfl

theorem w9_2 {x0 x3 : Option Addr} {x32 : Bool} {M : Mem} {Q : Value → Mem → Prop} (H :
    cnd x32 (
     A9_3 x0 x3 true M Q) (
     adS x3 fun a9' =>
     onS (M.intAt .i64 a9'.block (a9'.off + 3)) fun x10' =>
     Cn Try.prog 25 #[.int .i64 x10'] M fun v11' N11' =>
      tyS (asB v11') fun b12' =>
      A9_3 x0 x3 (!b12') N11' Q)) :
    A9_2 x0 x3 x32 M Q :=
  LvP.mk (cuts := K9) (sp := Z9) 900 H fun G => by kernel_rfl

theorem w9_3 {x0 x3 : Option Addr} {x38 : Bool} {M : Mem} {Q : Value → Mem → Prop} (H :
    cnd x38 (
     A9_4 x0 x3 true M Q) (
     adS x3 fun a13' =>
     onS (M.intAt .i64 a13'.block a13'.off) fun x14' =>
     adS x3 fun a15' =>
     onS (M.intAt .i64 a15'.block (a15'.off + 1)) fun x16' =>
     Cn Try.prog 26 #[.pointer x0, .int .i64 x14', .int .i64 x16'] M fun v17' N17' =>
      tyS (asB v17') fun b18' =>
      A9_4 x0 x3 (!b18') N17' Q)) :
    A9_3 x0 x3 x38 M Q :=
  LvP.mk (cuts := K9) (sp := Z9) 900 H fun G => by kernel_rfl

theorem w9_4 {x0 x3 : Option Addr} {x47 : Bool} {M : Mem} {Q : Value → Mem → Prop} (H :
    cnd x47 (
     A9_5 x0 x3 true M Q) (
     adS x3 fun a19' =>
     onS (M.intAt .i64 a19'.block a19'.off) fun x20' =>
     adS x3 fun a21' =>
     onS (M.intAt .i64 a21'.block (a21'.off + 2)) fun x22' =>
     adS x3 fun a23' =>
     onS (M.intAt .i64 a23'.block (a23'.off + 1)) fun x24' =>
     adS x3 fun a25' =>
     onS (M.intAt .i64 a25'.block (a25'.off + 3)) fun x26' =>
     Cn Try.prog 26 #[.pointer x0, .int .i64 (IntKind.i64.wrap ((IntKind.i64.wrap (x20' + x22')) - 1)), .int .i64 (IntKind.i64.wrap ((IntKind.i64.wrap (x24' + x26')) - 1))] M fun v27' N27' =>
      tyS (asB v27') fun b28' =>
      A9_5 x0 x3 (!b28') N27' Q)) :
    A9_4 x0 x3 x47 M Q :=
  LvP.mk (cuts := K9) (sp := Z9) 900 H fun G => by kernel_rfl

theorem w9_5 {x0 x3 : Option Addr} {x15 : Bool} {M : Mem} {Q : Value → Mem → Prop} (H :
    cnd x15 (
     Q (.int .i64 2) M) (
     adS x3 fun a29' =>
     onS (M.intAt .i64 a29'.block (a29'.off + 1)) fun x30' =>
     A9_6 x0 x3 none 0 0 x30' M Q)) :
    A9_5 x0 x3 x15 M Q :=
  LvP.mk (cuts := K9) (sp := Z9) 900 H fun G => by kernel_rfl

theorem w9_6 {x0 x3 Ax5 : Option Addr} {lx5 cx5 : Nat} {x6 : Int} {M : Mem} {Q : Value → Mem → Prop} (H :
    adS x3 fun a31' =>
    onS (M.intAt .i64 a31'.block (a31'.off + 1)) fun x32' =>
    adS x3 fun a33' =>
    onS (M.intAt .i64 a33'.block (a33'.off + 3)) fun x34' =>
    cnd (decide (x6 < (IntKind.i64.wrap (x32' + x34')))) (
     adS x3 fun a35' =>
     onS (M.intAt .i64 a35'.block a35'.off) fun x36' =>
     A9_7 x0 x3 Ax5 lx5 cx5 x6 x36' M Q) (
     A9_8 x0 x3 Ax5 lx5 cx5 (lx5 : Int) 0 M Q)) :
    A9_6 x0 x3 Ax5 lx5 cx5 x6 M Q :=
  LvP.mk (cuts := K9) (sp := Z9) 900 H fun G => by kernel_rfl

theorem w9_7 {x0 x3 Ax5 : Option Addr} {lx5 cx5 : Nat} {x6 x7 : Int} {M : Mem} {Q : Value → Mem → Prop} (H :
    adS x3 fun a37' =>
    onS (M.intAt .i64 a37'.block a37'.off) fun x38' =>
    adS x3 fun a39' =>
    onS (M.intAt .i64 a39'.block (a39'.off + 2)) fun x40' =>
    cnd (decide (x7 < (IntKind.i64.wrap (x38' + x40')))) (
     adS x0 fun a41' =>
     onS (M.cell a41'.block (a41'.off + 6)) fun v42' =>
     cnd (decide (M.floor ≤ M.nb.size)) (
     Cn Try.prog 27 #[.int .i64 x7, .int .i64 x6] M fun v43' N43' =>
      cnd (sameB M N43' a41'.block) (
      tyS (asA 2 v43') fun cs44' =>
      tyS (asI .i64 (cs44'.getD 0 undef)) fun x45' =>
      tyS (asI .i64 (cs44'.getD 1 undef)) fun x46' =>
      meS (lookupV Try.prog 61 v42' (.agg #[.int .i64 x45', .int .i64 x46']) true N43') fun r47' =>
      tyS (asU 2 r47'.1) fun cs48' =>
      tyS (asI .i64 (cs48'.getD 0 undef)) fun x49' =>
      tyS (asB (cs48'.getD 1 undef)) fun b50' =>
      cnd b50' (
       Q (.int .i64 2) r47'.2) (
       Cn Try.prog 27 #[.int .i64 x7, .int .i64 x6] r47'.2 fun v51' N51' =>
        tyS (asA 2 v51') fun cs52' =>
        tyS (asI .i64 (cs52'.getD 0 undef)) fun x53' =>
        tyS (asI .i64 (cs52'.getD 1 undef)) fun x54' =>
        meS (appendP Try.prog #[69, 69] (.slice Ax5 lx5 cx5) (.slice (some ⟨2 * N51'.nb.size, 0, none⟩) 1 1) (N51'.new (.cells #[.int .i64 x53', .int .i64 x54'] 72))) fun r55' =>
        tyS (asS r55'.1) fun s56' =>
        A9_7 x0 x3 s56'.1 s56'.2.1 s56'.2.2 x6 (IntKind.i64.wrap (x7 + 8)) r55'.2 Q)) (
      False)) (
     False)) (
     A9_6 x0 x3 Ax5 lx5 cx5 (IntKind.i64.wrap (x6 + 8)) M Q)) :
    A9_7 x0 x3 Ax5 lx5 cx5 x6 x7 M Q :=
  LvP.mk (cuts := K9) (sp := Z9) 900 H fun G => by kernel_rfl

theorem w9_8 {x0 x3 Ax104 : Option Addr} {lx104 cx104 : Nat} {x105 x106 : Int} {M : Mem} {Q : Value → Mem → Prop} (H :
    cnd (decide (x106 < x105)) (
     ixS (idxA Ax104 lx104 2 x106) fun a57' =>
     onS (M.intAt .i64 a57'.block a57'.off) fun x58' =>
     onS (M.intAt .i64 a57'.block (a57'.off + 1)) fun x59' =>
     stP (some 2) #[.int .i64 x58', .int .i64 x59'] (M.new (.cells #[.int .i64 0, .int .i64 0] 72)) (2 * M.nb.size) 0 fun M60' =>
     adS x0 fun a61' =>
     onS (M60'.cell a61'.block (a61'.off + 6)) fun v62' =>
     onS (M60'.intAt .i64 (2 * M.nb.size) 0) fun x63' =>
     onS (M60'.intAt .i64 (2 * M.nb.size) (0 + 1)) fun x64' =>
     adS x0 fun a65' =>
     onS (M60'.slAt a65'.block (a65'.off + 5)) fun s66' =>
     meS (mapPutV Try.prog 61 v62' (.agg #[.int .i64 x63', .int .i64 x64']) (.int .i64 ((s66'.2.1 : Int))) M60') fun r67' =>
     A9_8 x0 x3 Ax104 lx104 cx104 x105 (IntKind.i64.wrap (x106 + 1)) r67'.2 Q) (
     adS x0 fun a68' =>
     onS (M.slAt a68'.block (a68'.off + 5)) fun s69' =>
     adS x3 fun a70' =>
     onS (M.intAt .i64 a70'.block a70'.off) fun x71' =>
     onS (M.intAt .i64 a70'.block (a70'.off + 1)) fun x72' =>
     onS (M.intAt .i64 a70'.block (a70'.off + 2)) fun x73' =>
     onS (M.intAt .i64 a70'.block (a70'.off + 3)) fun x74' =>
     onS (M.boolAt a70'.block (a70'.off + 4)) fun b75' =>
     onS (M.boolAt a70'.block (a70'.off + 5)) fun b76' =>
     onS (M.intAt .i64 a70'.block (a70'.off + 6)) fun x77' =>
     onS (M.intAt .i64 a70'.block (a70'.off + 7)) fun x78' =>
     onS (M.intAt .i64 a70'.block (a70'.off + 8)) fun x79' =>
     onS (M.intAt .i64 a70'.block (a70'.off + 9)) fun x80' =>
     onS (M.intAt .i64 a70'.block (a70'.off + 10)) fun x81' =>
     onS (M.intAt .i64 a70'.block (a70'.off + 11)) fun x82' =>
     onS (M.intAt .i64 a70'.block (a70'.off + 12)) fun x83' =>
     onS (M.boolAt a70'.block (a70'.off + 13)) fun b84' =>
     onS (M.intAt .i64 a70'.block (a70'.off + 14)) fun x85' =>
     onS (M.intAt .i64 a70'.block (a70'.off + 15)) fun x86' =>
     onS (M.intAt .i64 a70'.block (a70'.off + 16)) fun x87' =>
     onS (M.intAt .i64 a70'.block (a70'.off + 17)) fun x88' =>
     onS (M.intAt .i64 a70'.block (a70'.off + 18)) fun x89' =>
     onS (M.intAt .i64 a70'.block (a70'.off + 19)) fun x90' =>
     onS (M.intAt .i64 a70'.block (a70'.off + 20)) fun x91' =>
     onS (M.intAt .i64 a70'.block (a70'.off + 21)) fun x92' =>
     onS (M.boolAt a70'.block (a70'.off + 22)) fun b93' =>
     meS (appendP Try.prog #[43, 43] (.slice s69'.1 (s69'.2.1) (s69'.2.2)) (.slice (some ⟨2 * M.nb.size, 0, none⟩) 1 1) (M.new (.cells #[.int .i64 x71', .int .i64 x72', .int .i64 x73', .int .i64 x74', .bool b75', .bool b76', .int .i64 x77', .int .i64 x78', .int .i64 x79', .int .i64 x80', .int .i64 x81', .int .i64 x82', .int .i64 x83', .bool b84', .int .i64 x85', .int .i64 x86', .int .i64 x87', .int .i64 x88', .int .i64 x89', .int .i64 x90', .int .i64 x91', .int .i64 x92', .bool b93'] 27))) fun r94' =>
     tyS (asS r94'.1) fun s95' =>
     adS x0 fun a96' =>
     ptS (r94'.2.put a96'.block (a96'.off + 5) (.slice s95'.1 (s95'.2.1) (s95'.2.2))) fun M97' =>
     Q (.int .i64 0) M97')) :
    A9_8 x0 x3 Ax104 lx104 cx104 x105 x106 M Q :=
  LvP.mk (cuts := K9) (sp := Z9) 900 H fun G => by kernel_rfl


/-! ### (*zoetrope/grid.Grid).Part: function 21 -/
def K21 : List (List It × List Nat) := [([.rg [1,0,0,1,1,0] 7, .code [1,0,0,1,1,1], .blk 0, .code [1,1]], [0, 1, 2, 3, 25]), ([.rg [1,0,0,1,1,0] 11, .code [1,0,0,1,1,1], .blk 0, .code [1,1]], [0, 1, 2, 3, 29]), ([.rg [1,0,0,1,1,0] 17, .code [1,0,0,1,1,1], .blk 0, .code [1,1]], [0, 1, 2, 3, 35]), ([.rg [1,0,0,1,1,0] 23, .code [1,0,0,1,1,1], .blk 0, .code [1,1]], [0, 1, 2, 3, 41]), ([.code [1,0,0,1,1,1], .blk 0, .code [1,1]], [0, 1, 2, 3, 18]), ([.code [1,1,1,0,1,1], .code [1,1,1,1]], [0, 1, 2, 3, 10, 62]), ([.code [1,1,1,1,0,1,1], .code [1,1,1,1,1]], [10, 79])]
def Z21 : List (List Nat × List Nat) := [([1,0,0,1,1,0], [7, 11, 17, 23, 30])]
theorem b21 : Try.prog.funcs[21]? = some Try.f21 ∧ (Orc.tab Try.prog).lookup 21 = none ∧ Try.f21.body = some (codeOf Try.f21) := ⟨by kernel_rfl, by kernel_rfl, by kernel_rfl⟩
def A21_1 (x0 : Option Addr) (x1 x2 x3 : Int) (x25 : Bool) (M : Mem) (Q : Value → Mem → Prop) : Prop := LvP Try.prog Try.f21 [(0, .pointer x0), (1, .int .i64 x1), (2, .int .i64 x2), (3, .int .i64 x3), (25, .bool x25)] [.rg [1,0,0,1,1,0] 7, .code [1,0,0,1,1,1], .blk 0, .code [1,1]] M Q
def A21_2 (x0 : Option Addr) (x1 x2 x3 : Int) (x29 : Bool) (M : Mem) (Q : Value → Mem → Prop) : Prop := LvP Try.prog Try.f21 [(0, .pointer x0), (1, .int .i64 x1), (2, .int .i64 x2), (3, .int .i64 x3), (29, .bool x29)] [.rg [1,0,0,1,1,0] 11, .code [1,0,0,1,1,1], .blk 0, .code [1,1]] M Q
def A21_3 (x0 : Option Addr) (x1 x2 x3 : Int) (x35 : Bool) (M : Mem) (Q : Value → Mem → Prop) : Prop := LvP Try.prog Try.f21 [(0, .pointer x0), (1, .int .i64 x1), (2, .int .i64 x2), (3, .int .i64 x3), (35, .bool x35)] [.rg [1,0,0,1,1,0] 17, .code [1,0,0,1,1,1], .blk 0, .code [1,1]] M Q
def A21_4 (x0 : Option Addr) (x1 x2 x3 : Int) (x41 : Bool) (M : Mem) (Q : Value → Mem → Prop) : Prop := LvP Try.prog Try.f21 [(0, .pointer x0), (1, .int .i64 x1), (2, .int .i64 x2), (3, .int .i64 x3), (41, .bool x41)] [.rg [1,0,0,1,1,0] 23, .code [1,0,0,1,1,1], .blk 0, .code [1,1]] M Q
def A21_5 (x0 : Option Addr) (x1 x2 x3 : Int) (x18 : Bool) (M : Mem) (Q : Value → Mem → Prop) : Prop := LvP Try.prog Try.f21 [(0, .pointer x0), (1, .int .i64 x1), (2, .int .i64 x2), (3, .int .i64 x3), (18, .bool x18)] [.code [1,0,0,1,1,1], .blk 0, .code [1,1]] M Q
def A21_6 (x0 : Option Addr) (x1 x2 x3 x10 : Int) (x62 : Bool) (M : Mem) (Q : Value → Mem → Prop) : Prop := LvP Try.prog Try.f21 [(0, .pointer x0), (1, .int .i64 x1), (2, .int .i64 x2), (3, .int .i64 x3), (10, .int .i64 x10), (62, .bool x62)] [.code [1,1,1,0,1,1], .code [1,1,1,1]] M Q
def A21_7 (x10 : Int) (x79 : Bool) (M : Mem) (Q : Value → Mem → Prop) : Prop := LvP Try.prog Try.f21 [(10, .int .i64 x10), (79, .bool x79)] [.code [1,1,1,1,0,1,1], .code [1,1,1,1,1]] M Q
theorem w21_0 {x0 : Option Addr} {x1 x2 x3 : Int} {M : Mem} {Q : Value → Mem → Prop} (H :
    Cn Try.prog 24 #[.pointer x0] M fun v1' N1' =>
     tyS (asB v1') fun b2' =>
     cnd b2' (
      Q (.tuple #[.int .i64 0, .int .i64 1]) N1') (
      cnd (x3 != 64) (
       A21_1 x0 x1 x2 x3 (x3 != 32) N1' Q) (
       A21_1 x0 x1 x2 x3 false N1' Q))) :
    Cn Try.prog 21 #[.pointer x0, .int .i64 x1, .int .i64 x2, .int .i64 x3] M Q :=
  Cn.mk (cuts := K21) (sp := Z21) 900 b21 rfl rfl H fun G => by kernel_rfl

theorem w21_1 {x0 : Option Addr} {x1 x2 x3 : Int} {x25 : Bool} {M : Mem} {Q : Value → Mem → Prop} (H :
    cnd x25 (
     A21_2 x0 x1 x2 x3 (x3 != 16) M Q) (
     A21_2 x0 x1 x2 x3 false M Q)) :
    A21_1 x0 x1 x2 x3 x25 M Q :=
  LvP.mk (cuts := K21) (sp := Z21) 900 H fun G => by kernel_rfl

theorem w21_2 {x0 : Option Addr} {x1 x2 x3 : Int} {x29 : Bool} {M : Mem} {Q : Value → Mem → Prop} (H :
    cnd x29 (
     A21_3 x0 x1 x2 x3 true M Q) (
     puS (binV Try.prog .rem 3 3 (.int .i64 x1) (.int .i64 x3)) fun v3' =>
     tyS (asI .i64 v3') fun x4' =>
     A21_3 x0 x1 x2 x3 (x4' != 0) M Q)) :
    A21_2 x0 x1 x2 x3 x29 M Q :=
  LvP.mk (cuts := K21) (sp := Z21) 900 H fun G => by kernel_rfl

theorem w21_3 {x0 : Option Addr} {x1 x2 x3 : Int} {x35 : Bool} {M : Mem} {Q : Value → Mem → Prop} (H :
    cnd x35 (
     A21_4 x0 x1 x2 x3 true M Q) (
     puS (binV Try.prog .rem 3 3 (.int .i64 x2) (.int .i64 x3)) fun v5' =>
     tyS (asI .i64 v5') fun x6' =>
     A21_4 x0 x1 x2 x3 (x6' != 0) M Q)) :
    A21_3 x0 x1 x2 x3 x35 M Q :=
  LvP.mk (cuts := K21) (sp := Z21) 900 H fun G => by kernel_rfl

theorem w21_4 {x0 : Option Addr} {x1 x2 x3 : Int} {x41 : Bool} {M : Mem} {Q : Value → Mem → Prop} (H :
    cnd x41 (
     A21_5 x0 x1 x2 x3 true M Q) (
     Cn Try.prog 26 #[.pointer x0, .int .i64 x1, .int .i64 x2] M fun v7' N7' =>
      tyS (asB v7') fun b8' =>
      A21_5 x0 x1 x2 x3 (!b8') N7' Q)) :
    A21_4 x0 x1 x2 x3 x41 M Q :=
  LvP.mk (cuts := K21) (sp := Z21) 900 H fun G => by kernel_rfl

theorem w21_5 {x0 : Option Addr} {x1 x2 x3 : Int} {x18 : Bool} {M : Mem} {Q : Value → Mem → Prop} (H :
    cnd x18 (
     Q (.tuple #[.int .i64 0, .int .i64 2]) M) (
     Cn Try.prog 14 #[.pointer x0, .int .i64 x1, .int .i64 (IntKind.i64.wrap (x2 - 1))] M fun v9' N9' =>
      tyS (asU 2 v9') fun cs10' =>
      tyS (asA 23 (cs10'.getD 0 undef)) fun cs11' =>
      asCellsP tyZpD0 0 cs11' fun vs12' =>
      tyS (asB (cs10'.getD 1 undef)) fun b13' =>
      tyS (asA 23 (.agg vs12'.toArray)) fun cs14' =>
      asCellsP tyZpD0 0 cs14' fun vs15' =>
      stP (some 23) vs15'.toArray (N9'.new (.cells #[.int .i64 0, .int .i64 0, .int .i64 0, .int .i64 0, .bool false, .bool false, .int .i64 0, .int .i64 0, .int .i64 0, .int .i64 0, .int .i64 0, .int .i64 0, .int .i64 0, .bool false, .int .i64 0, .int .i64 0, .int .i64 0, .int .i64 0, .int .i64 0, .int .i64 0, .int .i64 0, .int .i64 0, .bool false] 27)) (2 * N9'.nb.size) 0 fun M16' =>
      cnd b13' (
       onS (M16'.intAt .i64 (2 * N9'.nb.size) (0 + 2)) fun x17' =>
       A21_6 x0 x1 x2 x3 0 (decide (x17' < x3)) M16' Q) (
       A21_6 x0 x1 x2 x3 0 false M16' Q))) :
    A21_5 x0 x1 x2 x3 x18 M Q :=
  LvP.mk (cuts := K21) (sp := Z21) 900 H fun G => by kernel_rfl

theorem w21_6 {x0 : Option Addr} {x1 x2 x3 x10 : Int} {x62 : Bool} {M : Mem} {Q : Value → Mem → Prop} (H :
    cnd x62 (
     Cn Try.prog 14 #[.pointer x0, .int .i64 (IntKind.i64.wrap (x1 - 1)), .int .i64 x2] M fun v18' N18' =>
      tyS (asU 2 v18') fun cs19' =>
      tyS (asA 23 (cs19'.getD 0 undef)) fun cs20' =>
      asCellsP tyZpD0 0 cs20' fun vs21' =>
      tyS (asB (cs19'.getD 1 undef)) fun b22' =>
      tyS (asA 23 (.agg vs21'.toArray)) fun cs23' =>
      asCellsP tyZpD0 0 cs23' fun vs24' =>
      stP (some 23) vs24'.toArray (N18'.new (.cells #[.int .i64 0, .int .i64 0, .int .i64 0, .int .i64 0, .bool false, .bool false, .int .i64 0, .int .i64 0, .int .i64 0, .int .i64 0, .int .i64 0, .int .i64 0, .int .i64 0, .bool false, .int .i64 0, .int .i64 0, .int .i64 0, .int .i64 0, .int .i64 0, .int .i64 0, .int .i64 0, .int .i64 0, .bool false] 27)) (2 * N18'.nb.size) 0 fun M25' =>
      cnd b22' (
       onS (M25'.intAt .i64 (2 * N18'.nb.size) (0 + 3)) fun x26' =>
       A21_7 (IntKind.i64.wrap (x10 + 1)) (decide (x26' < x3)) M25' Q) (
       A21_7 (IntKind.i64.wrap (x10 + 1)) false M25' Q)) (
     Cn Try.prog 14 #[.pointer x0, .int .i64 (IntKind.i64.wrap (x1 - 1)), .int .i64 x2] M fun v27' N27' =>
      tyS (asU 2 v27') fun cs28' =>
      tyS (asA 23 (cs28'.getD 0 undef)) fun cs29' =>
      asCellsP tyZpD0 0 cs29' fun vs30' =>
      tyS (asB (cs28'.getD 1 undef)) fun b31' =>
      tyS (asA 23 (.agg vs30'.toArray)) fun cs32' =>
      asCellsP tyZpD0 0 cs32' fun vs33' =>
      stP (some 23) vs33'.toArray (N27'.new (.cells #[.int .i64 0, .int .i64 0, .int .i64 0, .int .i64 0, .bool false, .bool false, .int .i64 0, .int .i64 0, .int .i64 0, .int .i64 0, .int .i64 0, .int .i64 0, .int .i64 0, .bool false, .int .i64 0, .int .i64 0, .int .i64 0, .int .i64 0, .int .i64 0, .int .i64 0, .int .i64 0, .int .i64 0, .bool false] 27)) (2 * N27'.nb.size) 0 fun M34' =>
      cnd b31' (
       onS (M34'.intAt .i64 (2 * N27'.nb.size) (0 + 3)) fun x35' =>
       A21_7 x10 (decide (x35' < x3)) M34' Q) (
       A21_7 x10 false M34' Q))) :
    A21_6 x0 x1 x2 x3 x10 x62 M Q :=
  LvP.mk (cuts := K21) (sp := Z21) 900 H fun G => by kernel_rfl

theorem w21_7 {x10 : Int} {x79 : Bool} {M : Mem} {Q : Value → Mem → Prop} (H :
    cnd x79 (
     Q (.tuple #[.int .i64 (IntKind.i64.wrap (x10 + 2)), .int .i64 0]) M) (
     Q (.tuple #[.int .i64 x10, .int .i64 0]) M)) :
    A21_7 x10 x79 M Q :=
  LvP.mk (cuts := K21) (sp := Z21) 900 H fun G => by kernel_rfl


end Go.Zt
