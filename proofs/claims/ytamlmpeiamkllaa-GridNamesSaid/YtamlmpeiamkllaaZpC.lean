/- The functions' walks: for each function and each loop a rule of what it comes to. Printed by zw2.py. -/
import Derived.Test.YtamlmpeiamkllaaProg
import Derived.Test.YtamlmpeiamkllaaZpA
import Derived.Test.YtamlmpeiamkllaaZrT
set_option linter.unusedVariables false
set_option maxRecDepth 100000
namespace Go.Zt
open Go Go.Sim Go.Proofs

def tyZpC0 : List Sc := [.int .i64, .int .i64, .int .i64, .int .i64, .bool, .bool, .int .i64, .int .i64, .int .i64, .int .i64, .int .i64, .int .i64, .int .i64, .bool, .int .i64, .int .i64, .int .i64, .int .i64, .int .i64, .int .i64, .int .i64, .int .i64, .bool]
/-! ### (*zoetrope/grid.Grid).At: function 14 -/
def K14 : List (List It × List Nat) := [([.code [1,0,1], .code [1,1]], [0, 1, 2, 6, 18])]
def Z14 : List (List Nat × List Nat) := []
theorem b14 : Try.prog.funcs[14]? = some Try.f14 ∧ (Orc.tab Try.prog).lookup 14 = none ∧ Try.f14.body = some (codeOf Try.f14) := ⟨by kernel_rfl, by kernel_rfl, by kernel_rfl⟩
def A14_1 (x0 : Option Addr) (x1 x2 : Int) (x6 : Option Addr) (x18 : Bool) (M : Mem) (Q : Value → Mem → Prop) : Prop := LvP Try.prog Try.f14 [(0, .pointer x0), (1, .int .i64 x1), (2, .int .i64 x2), (6, .pointer x6), (18, .bool x18)] [.code [1,0,1], .code [1,1]] M Q
theorem w14_0 {x0 : Option Addr} {x1 x2 : Int} {M : Mem} {Q : Value → Mem → Prop} (H :
    Cn Try.prog 24 #[.pointer x0] (M.new (.cells #[.int .i64 0, .int .i64 0, .int .i64 0, .int .i64 0, .bool false, .bool false, .int .i64 0, .int .i64 0, .int .i64 0, .int .i64 0, .int .i64 0, .int .i64 0, .int .i64 0, .bool false, .int .i64 0, .int .i64 0, .int .i64 0, .int .i64 0, .int .i64 0, .int .i64 0, .int .i64 0, .int .i64 0, .bool false] 27)) fun v1' N1' =>
     tyS (asB v1') fun b2' =>
     cnd b2' (
      A14_1 x0 x1 x2 (some ⟨2 * M.nb.size, 0, none⟩) true N1' Q) (
      Cn Try.prog 26 #[.pointer x0, .int .i64 x1, .int .i64 x2] N1' fun v3' N3' =>
       tyS (asB v3') fun b4' =>
       A14_1 x0 x1 x2 (some ⟨2 * M.nb.size, 0, none⟩) (!b4') N3' Q)) :
    Cn Try.prog 14 #[.pointer x0, .int .i64 x1, .int .i64 x2] M Q :=
  Cn.mk (cuts := K14) (sp := Z14) 900 b14 rfl rfl H fun G => by kernel_rfl

theorem w14_1 {x0 : Option Addr} {x1 x2 : Int} {x6 : Option Addr} {x18 : Bool} {M : Mem} {Q : Value → Mem → Prop} (H :
    cnd x18 (
     adS x6 fun a5' =>
     stP (some 23) #[.int .i64 0, .int .i64 0, .int .i64 0, .int .i64 0, .bool false, .bool false, .int .i64 0, .int .i64 0, .int .i64 0, .int .i64 0, .int .i64 0, .int .i64 0, .int .i64 0, .bool false, .int .i64 0, .int .i64 0, .int .i64 0, .int .i64 0, .int .i64 0, .int .i64 0, .int .i64 0, .int .i64 0, .bool false] M a5'.block a5'.off fun M6' =>
     adS x6 fun a7' =>
     ldP tyZpC0 M6' a7'.block a7'.off fun vs8' =>
     Q (.tuple #[.agg vs8'.toArray, .bool false]) M6') (
     adS x0 fun a9' =>
     onS (M.cell a9'.block (a9'.off + 6)) fun v10' =>
     cnd (decide (M.floor ≤ M.nb.size)) (
     Cn Try.prog 27 #[.int .i64 x1, .int .i64 x2] M fun v11' N11' =>
      cnd (sameB M N11' a9'.block) (
      tyS (asA 2 v11') fun cs12' =>
      tyS (asI .i64 (cs12'.getD 0 undef)) fun x13' =>
      tyS (asI .i64 (cs12'.getD 1 undef)) fun x14' =>
      meS (lookupV Try.prog 61 v10' (.agg #[.int .i64 x13', .int .i64 x14']) true N11') fun r15' =>
      tyS (asU 2 r15'.1) fun cs16' =>
      tyS (asI .i64 (cs16'.getD 0 undef)) fun x17' =>
      tyS (asB (cs16'.getD 1 undef)) fun b18' =>
      cnd (!b18') (
       adS x6 fun a19' =>
       stP (some 23) #[.int .i64 0, .int .i64 0, .int .i64 0, .int .i64 0, .bool false, .bool false, .int .i64 0, .int .i64 0, .int .i64 0, .int .i64 0, .int .i64 0, .int .i64 0, .int .i64 0, .bool false, .int .i64 0, .int .i64 0, .int .i64 0, .int .i64 0, .int .i64 0, .int .i64 0, .int .i64 0, .int .i64 0, .bool false] r15'.2 a19'.block a19'.off fun M20' =>
       adS x6 fun a21' =>
       ldP tyZpC0 M20' a21'.block a21'.off fun vs22' =>
       Q (.tuple #[.agg vs22'.toArray, .bool false]) M20') (
       adS x0 fun a23' =>
       onS (r15'.2.slAt a23'.block (a23'.off + 5)) fun s24' =>
       ixS (idxA s24'.1 (s24'.2.1) 23 x17') fun a25' =>
       ldP tyZpC0 r15'.2 a25'.block a25'.off fun vs26' =>
       adS x6 fun a27' =>
       stP (some 23) vs26'.toArray r15'.2 a27'.block a27'.off fun M28' =>
       adS x6 fun a29' =>
       ldP tyZpC0 M28' a29'.block a29'.off fun vs30' =>
       Q (.tuple #[.agg vs30'.toArray, .bool true]) M28')) (
      False)) (
     False))) :
    A14_1 x0 x1 x2 x6 x18 M Q :=
  LvP.mk (cuts := K14) (sp := Z14) 900 H fun G => by kernel_rfl


/-! ### zoetrope/grid.vec: function 28 -/
def K28 : List (List It × List Nat) := [([.code [1,1]], [4]), ([.code [1,0,0,1,1,1,1,1], .blk 0, .code [1,1]], [2, 4, 19])]
def Z28 : List (List Nat × List Nat) := []
theorem b28 : Try.prog.funcs[28]? = some Try.f28 ∧ (Orc.tab Try.prog).lookup 28 = none ∧ Try.f28.body = some (codeOf Try.f28) := ⟨by kernel_rfl, by kernel_rfl, by kernel_rfl⟩
def A28_1 (x4 : Option Addr) (M : Mem) (Q : Value → Mem → Prop) : Prop := LvP Try.prog Try.f28 [(4, .pointer x4)] [.code [1,1]] M Q
def A28_2 (x2 x4 : Option Addr) (x19 : Bool) (M : Mem) (Q : Value → Mem → Prop) : Prop := LvP Try.prog Try.f28 [(2, .pointer x2), (4, .pointer x4), (19, .bool x19)] [.code [1,0,0,1,1,1,1,1], .blk 0, .code [1,1]] M Q
theorem w28_0 {x0 : Array Value} {x1 : Int} {M : Mem} {Q : Value → Mem → Prop} (H :
    onS (((M.new (.cells x0 27)).new (.cells #[.int .i64 0, .int .i64 0] 24)).boolAt (2 * M.nb.size) (0 + 5)) fun b1' =>
    cnd (!b1') (
     A28_1 (some ⟨2 * (M.new (.cells x0 27)).nb.size, 0, none⟩) ((M.new (.cells x0 27)).new (.cells #[.int .i64 0, .int .i64 0] 24)) Q) (
     ixS (idxA (some ⟨(2 * M.nb.size), 0 + 14, none⟩) 2 1 0) fun a2' =>
     onS (((M.new (.cells x0 27)).new (.cells #[.int .i64 0, .int .i64 0] 24)).intAt .i64 a2'.block a2'.off) fun x3' =>
     cnd (x3' == x1) (
      ixS (idxA (some ⟨(2 * M.nb.size), 0 + 17, none⟩) 2 2 0) fun a4' =>
      onS (((M.new (.cells x0 27)).new (.cells #[.int .i64 0, .int .i64 0] 24)).intAt .i64 a4'.block a4'.off) fun x5' =>
      onS (((M.new (.cells x0 27)).new (.cells #[.int .i64 0, .int .i64 0] 24)).intAt .i64 a4'.block (a4'.off + 1)) fun x6' =>
      stP (some 2) #[.int .i64 x5', .int .i64 x6'] ((M.new (.cells x0 27)).new (.cells #[.int .i64 0, .int .i64 0] 24)) (2 * (M.new (.cells x0 27)).nb.size) 0 fun M7' =>
      onS (M7'.intAt .i64 (2 * (M.new (.cells x0 27)).nb.size) 0) fun x8' =>
      onS (M7'.intAt .i64 (2 * (M.new (.cells x0 27)).nb.size) (0 + 1)) fun x9' =>
      Q (.tuple #[.agg #[.int .i64 (x8'), .int .i64 (x9')], .bool true]) M7') (
      onS (((M.new (.cells x0 27)).new (.cells #[.int .i64 0, .int .i64 0] 24)).boolAt (2 * M.nb.size) (0 + 13)) fun b10' =>
      cnd b10' (
       ixS (idxA (some ⟨(2 * M.nb.size), 0 + 14, none⟩) 2 1 1) fun a11' =>
       onS (((M.new (.cells x0 27)).new (.cells #[.int .i64 0, .int .i64 0] 24)).intAt .i64 a11'.block a11'.off) fun x12' =>
       A28_2 (some ⟨2 * M.nb.size, 0, none⟩) (some ⟨2 * (M.new (.cells x0 27)).nb.size, 0, none⟩) (x12' == x1) ((M.new (.cells x0 27)).new (.cells #[.int .i64 0, .int .i64 0] 24)) Q) (
       A28_2 (some ⟨2 * M.nb.size, 0, none⟩) (some ⟨2 * (M.new (.cells x0 27)).nb.size, 0, none⟩) false ((M.new (.cells x0 27)).new (.cells #[.int .i64 0, .int .i64 0] 24)) Q)))) :
    Cn Try.prog 28 #[.agg x0, .int .i64 x1] M Q :=
  Cn.mk (cuts := K28) (sp := Z28) 900 b28 rfl rfl H fun G => by kernel_rfl

theorem w28_1 {x4 : Option Addr} {M : Mem} {Q : Value → Mem → Prop} (H :
    adS x4 fun a13' =>
    stP (some 2) #[.int .i64 0, .int .i64 0] M a13'.block a13'.off fun M14' =>
    adS x4 fun a15' =>
    onS (M14'.intAt .i64 a15'.block a15'.off) fun x16' =>
    onS (M14'.intAt .i64 a15'.block (a15'.off + 1)) fun x17' =>
    Q (.tuple #[.agg #[.int .i64 (x16'), .int .i64 (x17')], .bool false]) M14') :
    A28_1 x4 M Q :=
  LvP.mk (cuts := K28) (sp := Z28) 900 H fun G => by kernel_rfl

theorem w28_2 {x2 x4 : Option Addr} {x19 : Bool} {M : Mem} {Q : Value → Mem → Prop} (H :
    cnd x19 (
     adS x2 fun a18' =>
     ixS (idxA (some ⟨a18'.block, a18'.off + 17, none⟩) 2 2 1) fun a19' =>
     onS (M.intAt .i64 a19'.block a19'.off) fun x20' =>
     onS (M.intAt .i64 a19'.block (a19'.off + 1)) fun x21' =>
     adS x4 fun a22' =>
     stP (some 2) #[.int .i64 x20', .int .i64 x21'] M a22'.block a22'.off fun M23' =>
     adS x4 fun a24' =>
     onS (M23'.intAt .i64 a24'.block a24'.off) fun x25' =>
     onS (M23'.intAt .i64 a24'.block (a24'.off + 1)) fun x26' =>
     Q (.tuple #[.agg #[.int .i64 (x25'), .int .i64 (x26')], .bool true]) M23') (
     A28_1 x4 M Q)) :
    A28_2 x2 x4 x19 M Q :=
  LvP.mk (cuts := K28) (sp := Z28) 900 H fun G => by kernel_rfl


/-! ### slices.Index[[]zoetrope/api.Vec,zoetrope/api.Vec]: function 42 -/
def K42 : List (List It × List Nat) := [([.code [1,0,1,0,0], .lp [1,0,1,0,0], .blk 0, .code [1,1]], [0, 3, 7, 8])]
def Z42 : List (List Nat × List Nat) := []
theorem b42 : Try.prog.funcs[42]? = some Try.f42 ∧ (Orc.tab Try.prog).lookup 42 = none ∧ Try.f42.body = some (codeOf Try.f42) := ⟨by kernel_rfl, by kernel_rfl, by kernel_rfl⟩
def A42_1 (Ax0 : Option Addr) (lx0 cx0 : Nat) (x3 : Option Addr) (x7 x8 : Int) (M : Mem) (Q : Value → Mem → Prop) : Prop := LvP Try.prog Try.f42 [(0, .slice Ax0 lx0 cx0), (3, .pointer x3), (7, .int .i64 x7), (8, .int .i64 x8)] [.code [1,0,1,0,0], .lp [1,0,1,0,0], .blk 0, .code [1,1]] M Q
theorem w42_0 {Ax0 : Option Addr} {lx0 cx0 : Nat} {x1_0 x1_1 : Int} {M : Mem} {Q : Value → Mem → Prop} (H :
    A42_1 Ax0 lx0 cx0 (some ⟨2 * M.nb.size, 0, none⟩) (lx0 : Int) 0 (M.new (.cells #[.int .i64 x1_0, .int .i64 x1_1] 24)) Q) :
    Cn Try.prog 42 #[.slice Ax0 lx0 cx0, .agg #[.int .i64 x1_0, .int .i64 x1_1]] M Q :=
  Cn.mk (cuts := K42) (sp := Z42) 900 b42 rfl rfl H fun G => by kernel_rfl

theorem w42_1 {Ax0 : Option Addr} {lx0 cx0 : Nat} {x3 : Option Addr} {x7 x8 : Int} {M : Mem} {Q : Value → Mem → Prop} (H :
    cnd (decide (x8 < x7)) (
     adS x3 fun a1' =>
     onS (M.intAt .i64 a1'.block a1'.off) fun x2' =>
     onS (M.intAt .i64 a1'.block (a1'.off + 1)) fun x3' =>
     ixS (idxA Ax0 lx0 2 x8) fun a4' =>
     onS (M.intAt .i64 a4'.block a4'.off) fun x5' =>
     onS (M.intAt .i64 a4'.block (a4'.off + 1)) fun x6' =>
     puS (binV Try.prog .eql 24 24 (.agg #[.int .i64 x2', .int .i64 x3']) (.agg #[.int .i64 x5', .int .i64 x6'])) fun v7' =>
     tyS (asB v7') fun b8' =>
     cnd b8' (
      Q (.int .i64 x8) M) (
      A42_1 Ax0 lx0 cx0 x3 x7 (IntKind.i64.wrap (x8 + 1)) M Q)) (
     Q (.int .i64 (-1)) M)) :
    A42_1 Ax0 lx0 cx0 x3 x7 x8 M Q :=
  LvP.mk (cuts := K42) (sp := Z42) 900 H fun G => by kernel_rfl


/-! ### slices.Contains[[]zoetrope/api.Vec,zoetrope/api.Vec]: function 29 -/
def K29 : List (List It × List Nat) := []
def Z29 : List (List Nat × List Nat) := []
theorem b29 : Try.prog.funcs[29]? = some Try.f29 ∧ (Orc.tab Try.prog).lookup 29 = none ∧ Try.f29.body = some (codeOf Try.f29) := ⟨by kernel_rfl, by kernel_rfl, by kernel_rfl⟩
theorem w29_0 {Ax0 : Option Addr} {lx0 cx0 : Nat} {x1_0 x1_1 : Int} {M : Mem} {Q : Value → Mem → Prop} (H :
    onS ((M.new (.cells #[.int .i64 x1_0, .int .i64 x1_1] 24)).intAt .i64 (2 * M.nb.size) 0) fun x1' =>
    onS ((M.new (.cells #[.int .i64 x1_0, .int .i64 x1_1] 24)).intAt .i64 (2 * M.nb.size) (0 + 1)) fun x2' =>
    Cn Try.prog 42 #[.slice Ax0 lx0 cx0, .agg #[.int .i64 x1', .int .i64 x2']] (M.new (.cells #[.int .i64 x1_0, .int .i64 x1_1] 24)) fun v3' N3' =>
     tyS (asI .i64 v3') fun x4' =>
     Q (.bool (decide (x4' ≥ 0))) N3') :
    Cn Try.prog 29 #[.slice Ax0 lx0 cx0, .agg #[.int .i64 x1_0, .int .i64 x1_1]] M Q :=
  Cn.mk (cuts := K29) (sp := Z29) 900 b29 rfl rfl H fun G => by kernel_rfl


/-! ### (*zoetrope/grid.Grid).Skip$1: function 31 -/
def K31 : List (List It × List Nat) := []
def Z31 : List (List Nat × List Nat) := []
theorem b31 : Try.prog.funcs[31]? = some Try.f31 ∧ (Orc.tab Try.prog).lookup 31 = none ∧ Try.f31.body = some (codeOf Try.f31) := ⟨by kernel_rfl, by kernel_rfl, by kernel_rfl⟩
theorem w31_0 {x0 : Array Value} {M : Mem} {Q : Value → Mem → Prop} (H :
    onS ((M.new (.cells x0 27)).boolAt (2 * M.nb.size) (0 + 4)) fun b1' =>
    Q (.bool b1') (M.new (.cells x0 27))) :
    Cn Try.prog 31 #[.agg x0] M Q :=
  Cn.mk (cuts := K31) (sp := Z31) 900 b31 rfl rfl H fun G => by kernel_rfl


/-! ### (*zoetrope/grid.Grid).Inter$1: function 32 -/
def K32 : List (List It × List Nat) := []
def Z32 : List (List Nat × List Nat) := []
theorem b32 : Try.prog.funcs[32]? = some Try.f32 ∧ (Orc.tab Try.prog).lookup 32 = none ∧ Try.f32.body = some (codeOf Try.f32) := ⟨by kernel_rfl, by kernel_rfl, by kernel_rfl⟩
theorem w32_0 {x0 : Array Value} {M : Mem} {Q : Value → Mem → Prop} (H :
    onS ((M.new (.cells x0 27)).boolAt (2 * M.nb.size) (0 + 5)) fun b1' =>
    Q (.bool b1') (M.new (.cells x0 27))) :
    Cn Try.prog 32 #[.agg x0] M Q :=
  Cn.mk (cuts := K32) (sp := Z32) 900 b32 rfl rfl H fun G => by kernel_rfl


/-! ### (*zoetrope/grid.Grid).count: function 30 -/
def K30 : List (List It × List Nat) := [([.code [1,0,0,1,1,1], .blk 0, .code [1,1]], [0, 1, 2, 3, 18]), ([.code [1,1,1,0,1,0,0], .lp [1,1,1,0,1,0,0], .blk 1, .code [1,1,1,1]], [0, 3, 10, 42, 43]), ([.code [1,1,1,0,1,0,0,1,1,0,0,1,1,1], .blk 2, .code [1,1,1,0,1,0,0,1,1,1], .lp [1,1,1,0,1,0,0], .blk 1, .code [1,1,1,1]], [0, 3, 10, 42, 43, 60]), ([.code [1,1,1,0,1,0,0,1,1,1], .lp [1,1,1,0,1,0,0], .blk 1, .code [1,1,1,1]], [0, 3, 10, 42, 43])]
def Z30 : List (List Nat × List Nat) := []
theorem b30 : Try.prog.funcs[30]? = some Try.f30 ∧ (Orc.tab Try.prog).lookup 30 = none ∧ Try.f30.body = some (codeOf Try.f30) := ⟨by kernel_rfl, by kernel_rfl, by kernel_rfl⟩
def A30_1 (x0 : Option Addr) (x1 x2 : Int) (x3 : Value) (x18 : Bool) (M : Mem) (Q : Value → Mem → Prop) : Prop := LvP Try.prog Try.f30 [(0, .pointer x0), (1, .int .i64 x1), (2, .int .i64 x2), (3, x3), (18, .bool x18)] [.code [1,0,0,1,1,1], .blk 0, .code [1,1]] M Q
def A30_2 (x0 : Option Addr) (x3 : Value) (x10 x42_0 x42_1 x42_2 x42_3 x43 : Int) (M : Mem) (Q : Value → Mem → Prop) : Prop := LvP Try.prog Try.f30 [(0, .pointer x0), (3, x3), (10, .int .i64 x10), (42, .agg #[.int .i64 x42_0, .int .i64 x42_1, .int .i64 x42_2, .int .i64 x42_3]), (43, .int .i64 x43)] [.code [1,1,1,0,1,0,0], .lp [1,1,1,0,1,0,0], .blk 1, .code [1,1,1,1]] M Q
def A30_3 (x0 : Option Addr) (x3 : Value) (x10 x42_0 x42_1 x42_2 x42_3 x43 : Int) (x60 : Bool) (M : Mem) (Q : Value → Mem → Prop) : Prop := LvP Try.prog Try.f30 [(0, .pointer x0), (3, x3), (10, .int .i64 x10), (42, .agg #[.int .i64 x42_0, .int .i64 x42_1, .int .i64 x42_2, .int .i64 x42_3]), (43, .int .i64 x43), (60, .bool x60)] [.code [1,1,1,0,1,0,0,1,1,0,0,1,1,1], .blk 2, .code [1,1,1,0,1,0,0,1,1,1], .lp [1,1,1,0,1,0,0], .blk 1, .code [1,1,1,1]] M Q
def A30_4 (x0 : Option Addr) (x3 : Value) (x10 x42_0 x42_1 x42_2 x42_3 x43 : Int) (M : Mem) (Q : Value → Mem → Prop) : Prop := LvP Try.prog Try.f30 [(0, .pointer x0), (3, x3), (10, .int .i64 x10), (42, .agg #[.int .i64 x42_0, .int .i64 x42_1, .int .i64 x42_2, .int .i64 x42_3]), (43, .int .i64 x43)] [.code [1,1,1,0,1,0,0,1,1,1], .lp [1,1,1,0,1,0,0], .blk 1, .code [1,1,1,1]] M Q
theorem w30_0 {x0 : Option Addr} {x1 x2 : Int} {x3 : Value} {M : Mem} {Q : Value → Mem → Prop} (H :
    Cn Try.prog 24 #[.pointer x0] M fun v1' N1' =>
     tyS (asB v1') fun b2' =>
     cnd b2' (
      Q (.tuple #[.int .i64 0, .int .i64 1]) N1') (
      cnd ((x1.tmod 8) != 0) (
       A30_1 x0 x1 x2 x3 true N1' Q) (
       cnd ((x2.tmod 8) != 0) (
        A30_1 x0 x1 x2 x3 true N1' Q) (
        Cn Try.prog 26 #[.pointer x0, .int .i64 x1, .int .i64 x2] N1' fun v3' N3' =>
         tyS (asB v3') fun b4' =>
         A30_1 x0 x1 x2 x3 (!b4') N3' Q)))) :
    Cn Try.prog 30 #[.pointer x0, .int .i64 x1, .int .i64 x2, x3] M Q :=
  Cn.mk (cuts := K30) (sp := Z30) 900 b30 rfl rfl H fun G => by kernel_rfl

theorem w30_1 {x0 : Option Addr} {x1 x2 : Int} {x3 : Value} {x18 : Bool} {M : Mem} {Q : Value → Mem → Prop} (H :
    cnd x18 (
     Q (.tuple #[.int .i64 0, .int .i64 2]) M) (
     A30_2 x0 x3 0 (IntKind.i64.wrap (x1 - 1)) x2 x1 (IntKind.i64.wrap (x2 - 1)) 0 M Q)) :
    A30_1 x0 x1 x2 x3 x18 M Q :=
  LvP.mk (cuts := K30) (sp := Z30) 900 H fun G => by kernel_rfl

theorem w30_2 {x0 : Option Addr} {x3 : Value} {x10 x42_0 x42_1 x42_2 x42_3 x43 : Int} {M : Mem} {Q : Value → Mem → Prop} (H :
    cnd (decide (x43 < 2)) (
     puS (strV Try.prog 87 (.agg #[.int .i64 x42_0, .int .i64 x42_1, .int .i64 x42_2, .int .i64 x42_3]) (.int .i64 x43)) fun v5' =>
     tyS (asA 2 v5') fun cs6' =>
     tyS (asI .i64 (cs6'.getD 0 undef)) fun x7' =>
     tyS (asI .i64 (cs6'.getD 1 undef)) fun x8' =>
     stP (some 2) #[.int .i64 x7', .int .i64 x8'] (M.new (.cells #[.int .i64 0, .int .i64 0] 22)) (2 * M.nb.size) 0 fun M9' =>
     ixS (idxA (some ⟨2 * M.nb.size, 0, none⟩) 2 1 0) fun a10' =>
     onS (M9'.intAt .i64 a10'.block a10'.off) fun x11' =>
     ixS (idxA (some ⟨2 * M.nb.size, 0, none⟩) 2 1 1) fun a12' =>
     onS (M9'.intAt .i64 a12'.block a12'.off) fun x13' =>
     Cn Try.prog 14 #[.pointer x0, .int .i64 x11', .int .i64 x13'] M9' fun v14' N14' =>
      tyS (asU 2 v14') fun cs15' =>
      tyS (asA 23 (cs15'.getD 0 undef)) fun cs16' =>
      asCellsP tyZpC0 0 cs16' fun vs17' =>
      tyS (asB (cs15'.getD 1 undef)) fun b18' =>
      tyS (asA 23 (.agg vs17'.toArray)) fun cs19' =>
      asCellsP tyZpC0 0 cs19' fun vs20' =>
      stP (some 23) vs20'.toArray (N14'.new (.cells #[.int .i64 0, .int .i64 0, .int .i64 0, .int .i64 0, .bool false, .bool false, .int .i64 0, .int .i64 0, .int .i64 0, .int .i64 0, .int .i64 0, .int .i64 0, .int .i64 0, .bool false, .int .i64 0, .int .i64 0, .int .i64 0, .int .i64 0, .int .i64 0, .int .i64 0, .int .i64 0, .int .i64 0, .bool false] 27)) (2 * N14'.nb.size) 0 fun M21' =>
      cnd b18' (
       ldP tyZpC0 M21' (2 * N14'.nb.size) 0 fun vs22' =>
       caS (callVal Try.prog x3 #[.agg vs22'.toArray]) fun q23' =>
       Cn Try.prog q23'.1 q23'.2 M21' fun v24' N24' =>
        tyS (asB v24') fun b25' =>
        A30_3 x0 x3 x10 x42_0 x42_1 x42_2 x42_3 x43 b25' N24' Q) (
       A30_3 x0 x3 x10 x42_0 x42_1 x42_2 x42_3 x43 false M21' Q)) (
     Q (.tuple #[.int .i64 x10, .int .i64 0]) M)) :
    A30_2 x0 x3 x10 x42_0 x42_1 x42_2 x42_3 x43 M Q :=
  LvP.mk (cuts := K30) (sp := Z30) 900 H fun G => by kernel_rfl

theorem w30_3 {x0 : Option Addr} {x3 : Value} {x10 x42_0 x42_1 x42_2 x42_3 x43 : Int} {x60 : Bool} {M : Mem} {Q : Value → Mem → Prop} (H :
    cnd x60 (
     A30_4 x0 x3 (IntKind.i64.wrap (x10 + 1)) x42_0 x42_1 x42_2 x42_3 x43 M Q) (
     A30_4 x0 x3 x10 x42_0 x42_1 x42_2 x42_3 x43 M Q)) :
    A30_3 x0 x3 x10 x42_0 x42_1 x42_2 x42_3 x43 x60 M Q :=
  LvP.mk (cuts := K30) (sp := Z30) 900 H fun G => by kernel_rfl

theorem w30_4 {x0 : Option Addr} {x3 : Value} {x10 x42_0 x42_1 x42_2 x42_3 x43 : Int} {M : Mem} {Q : Value → Mem → Prop} (H :
    A30_2 x0 x3 x10 x42_0 x42_1 x42_2 x42_3 (IntKind.i64.wrap (x43 + 1)) M Q) :
    A30_4 x0 x3 x10 x42_0 x42_1 x42_2 x42_3 x43 M Q :=
  LvP.mk (cuts := K30) (sp := Z30) 900 H fun G => by kernel_rfl


/-! ### (*zoetrope/grid.Grid).Skip: function 11 -/
def K11 : List (List It × List Nat) := []
def Z11 : List (List Nat × List Nat) := []
theorem b11 : Try.prog.funcs[11]? = some Try.f11 ∧ (Orc.tab Try.prog).lookup 11 = none ∧ Try.f11.body = some (codeOf Try.f11) := ⟨by kernel_rfl, by kernel_rfl, by kernel_rfl⟩
theorem w11_0 {x0 : Option Addr} {x1 x2 : Int} {M : Mem} {Q : Value → Mem → Prop} (H :
    Cn Try.prog 30 #[.pointer x0, .int .i64 x1, .int .i64 x2, .func (.func 31) #[] #[]] M fun v1' N1' =>
     tyS (asU 2 v1') fun cs2' =>
     tyS (asI .i64 (cs2'.getD 0 undef)) fun x3' =>
     tyS (asI .i64 (cs2'.getD 1 undef)) fun x4' =>
     Q (.tuple #[.int .i64 (x3'), .int .i64 (x4')]) N1') :
    Cn Try.prog 11 #[.pointer x0, .int .i64 x1, .int .i64 x2] M Q :=
  Cn.mk (cuts := K11) (sp := Z11) 900 b11 rfl rfl H fun G => by kernel_rfl


/-! ### (*zoetrope/grid.Grid).Inter: function 12 -/
def K12 : List (List It × List Nat) := []
def Z12 : List (List Nat × List Nat) := []
theorem b12 : Try.prog.funcs[12]? = some Try.f12 ∧ (Orc.tab Try.prog).lookup 12 = none ∧ Try.f12.body = some (codeOf Try.f12) := ⟨by kernel_rfl, by kernel_rfl, by kernel_rfl⟩
theorem w12_0 {x0 : Option Addr} {x1 x2 : Int} {M : Mem} {Q : Value → Mem → Prop} (H :
    Cn Try.prog 30 #[.pointer x0, .int .i64 x1, .int .i64 x2, .func (.func 32) #[] #[]] M fun v1' N1' =>
     tyS (asU 2 v1') fun cs2' =>
     tyS (asI .i64 (cs2'.getD 0 undef)) fun x3' =>
     tyS (asI .i64 (cs2'.getD 1 undef)) fun x4' =>
     Q (.tuple #[.int .i64 (x3'), .int .i64 (x4')]) N1') :
    Cn Try.prog 12 #[.pointer x0, .int .i64 x1, .int .i64 x2] M Q :=
  Cn.mk (cuts := K12) (sp := Z12) 900 b12 rfl rfl H fun G => by kernel_rfl


end Go.Zt
