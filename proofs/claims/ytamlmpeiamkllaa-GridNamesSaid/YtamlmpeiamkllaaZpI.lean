/- The functions' walks: for each function and each loop a rule of what it comes to. Printed by zw2.py. -/
import Derived.Test.YtamlmpeiamkllaaProg
import Derived.Test.YtamlmpeiamkllaaZpA
import Derived.Test.YtamlmpeiamkllaaZrT
set_option linter.unusedVariables false
set_option maxRecDepth 100000
namespace Go.Zt
open Go Go.Sim Go.Proofs

def tyZpI0 : List Sc := [.int .i64, .int .i64, .int .i64, .int .i64, .bool, .bool, .int .i64, .int .i64, .int .i64, .int .i64, .int .i64, .int .i64, .int .i64, .bool, .int .i64, .int .i64, .int .i64, .int .i64, .int .i64, .int .i64, .int .i64, .int .i64, .bool]
/-! ### (*zoetrope/zoetroperef17.Grid).Vecs: function 40 -/
def K40 : List (List It × List Nat) := [([.rg [1,1,0,0] 11, .code [1,1,0,1], .code [1,1,1]], [0, 2, 4, 6, 9, 27]), ([.rg [1,1,0,0] 20, .code [1,1,0,1], .code [1,1,1]], [0, 2, 4, 6, 9, 36]), ([.rg [1,1,0,0] 25, .code [1,1,0,1], .code [1,1,1]], [0, 2, 4, 6, 9, 41]), ([.rg [1,1,0,0] 30, .code [1,1,0,1], .code [1,1,1]], [0, 2, 4, 6, 9, 46]), ([.rg [1,1,0,0] 36, .code [1,1,0,1], .code [1,1,1]], [0, 2, 4, 6, 9, 52]), ([.rg [1,1,0,0] 40, .code [1,1,0,1], .code [1,1,1]], [0, 2, 4, 6, 9, 56]), ([.code [1,1,0,1], .code [1,1,1]], [0, 2, 4, 6, 9, 59]), ([.code [1,1,1,1,1,1,0,1,0,0], .lp [1,1,1,1,1,1,0,1,0,0], .blk 0, .code [1,1,1,1,1,1,1]], [0, 2, 6, 9, 10, 11, 12, 13]), ([.code [1,1,1,1,1,1,0,1,0,0,1,0,0,1,0,1], .code [1,1,1,1,1,1,0,1,0,0,1,0,0,1,1], .blk 1, .code [1,1,1,1,1,1,0,1,0,0,1,1], .lp [1,1,1,1,1,1,0,1,0,0], .blk 0, .code [1,1,1,1,1,1,1]], [0, 2, 6, 9, 10, 11, 12, 13, 14, 110]), ([.code [1,1,1,1,1,1,0,1,0,0,1,1], .lp [1,1,1,1,1,1,0,1,0,0], .blk 0, .code [1,1,1,1,1,1,1]], [0, 2, 6, 9, 10, 11, 12, 13]), ([.code [1,1,1,1,1,1,0,1,0,0,1,0,0,1,1,1,0,1,0,0,1], .code [1,1,1,1,1,1,0,1,0,0,1,0,0,1,1,1,0,1,0,1], .code [1,1,1,1,1,1,0,1,0,0,1,0,0,1,1,1,1], .blk 1, .code [1,1,1,1,1,1,0,1,0,0,1,1], .lp [1,1,1,1,1,1,0,1,0,0], .blk 0, .code [1,1,1,1,1,1,1]], [0, 2, 6, 9, 10, 11, 12, 13, 14, 16, 128]), ([.code [1,1,1,1,1,1,0,1,0,0,1,0,0,1,1,1,1,1], .blk 1, .code [1,1,1,1,1,1,0,1,0,0,1,1], .lp [1,1,1,1,1,1,0,1,0,0], .blk 0, .code [1,1,1,1,1,1,1]], [0, 2, 6, 9, 10, 11, 12, 13, 16, 143])]
def Z40 : List (List Nat × List Nat) := [([1,1,0,0], [11, 20, 25, 30, 36, 40, 43])]
theorem b40 : Try.prog.funcs[40]? = some Try.f40 ∧ (Orc.tab Try.prog).lookup 40 = none ∧ Try.f40.body = some (codeOf Try.f40) := ⟨by kernel_rfl, by kernel_rfl, by kernel_rfl⟩
def A40_1 (x0 : Option Addr) (x2 : Int) (x4 x6 x9 : Option Addr) (x27 : Bool) (M : Mem) (Q : Value → Mem → Prop) : Prop := LvP Try.prog Try.f40 [(0, .pointer x0), (2, .int .i64 x2), (4, .pointer x4), (6, .pointer x6), (9, .pointer x9), (27, .bool x27)] [.rg [1,1,0,0] 11, .code [1,1,0,1], .code [1,1,1]] M Q
def A40_2 (x0 : Option Addr) (x2 : Int) (x4 x6 x9 : Option Addr) (x36 : Bool) (M : Mem) (Q : Value → Mem → Prop) : Prop := LvP Try.prog Try.f40 [(0, .pointer x0), (2, .int .i64 x2), (4, .pointer x4), (6, .pointer x6), (9, .pointer x9), (36, .bool x36)] [.rg [1,1,0,0] 20, .code [1,1,0,1], .code [1,1,1]] M Q
def A40_3 (x0 : Option Addr) (x2 : Int) (x4 x6 x9 : Option Addr) (x41 : Bool) (M : Mem) (Q : Value → Mem → Prop) : Prop := LvP Try.prog Try.f40 [(0, .pointer x0), (2, .int .i64 x2), (4, .pointer x4), (6, .pointer x6), (9, .pointer x9), (41, .bool x41)] [.rg [1,1,0,0] 25, .code [1,1,0,1], .code [1,1,1]] M Q
def A40_4 (x0 : Option Addr) (x2 : Int) (x4 x6 x9 : Option Addr) (x46 : Bool) (M : Mem) (Q : Value → Mem → Prop) : Prop := LvP Try.prog Try.f40 [(0, .pointer x0), (2, .int .i64 x2), (4, .pointer x4), (6, .pointer x6), (9, .pointer x9), (46, .bool x46)] [.rg [1,1,0,0] 30, .code [1,1,0,1], .code [1,1,1]] M Q
def A40_5 (x0 : Option Addr) (x2 : Int) (x4 x6 x9 : Option Addr) (x52 : Bool) (M : Mem) (Q : Value → Mem → Prop) : Prop := LvP Try.prog Try.f40 [(0, .pointer x0), (2, .int .i64 x2), (4, .pointer x4), (6, .pointer x6), (9, .pointer x9), (52, .bool x52)] [.rg [1,1,0,0] 36, .code [1,1,0,1], .code [1,1,1]] M Q
def A40_6 (x0 : Option Addr) (x2 : Int) (x4 x6 x9 : Option Addr) (x56 : Bool) (M : Mem) (Q : Value → Mem → Prop) : Prop := LvP Try.prog Try.f40 [(0, .pointer x0), (2, .int .i64 x2), (4, .pointer x4), (6, .pointer x6), (9, .pointer x9), (56, .bool x56)] [.rg [1,1,0,0] 40, .code [1,1,0,1], .code [1,1,1]] M Q
def A40_7 (x0 : Option Addr) (x2 : Int) (x4 x6 x9 : Option Addr) (x59 : Bool) (M : Mem) (Q : Value → Mem → Prop) : Prop := LvP Try.prog Try.f40 [(0, .pointer x0), (2, .int .i64 x2), (4, .pointer x4), (6, .pointer x6), (9, .pointer x9), (59, .bool x59)] [.code [1,1,0,1], .code [1,1,1]] M Q
def A40_8 (x0 : Option Addr) (x2 : Int) (x6 x9 Ax10 : Option Addr) (lx10 cx10 : Nat) (Ax11 : Option Addr) (lx11 cx11 : Nat) (x12 x13 : Int) (M : Mem) (Q : Value → Mem → Prop) : Prop := LvP Try.prog Try.f40 [(0, .pointer x0), (2, .int .i64 x2), (6, .pointer x6), (9, .pointer x9), (10, .slice Ax10 lx10 cx10), (11, .slice Ax11 lx11 cx11), (12, .int .i64 x12), (13, .int .i64 x13)] [.code [1,1,1,1,1,1,0,1,0,0], .lp [1,1,1,1,1,1,0,1,0,0], .blk 0, .code [1,1,1,1,1,1,1]] M Q
def A40_9 (x0 : Option Addr) (x2 : Int) (x6 x9 Ax10 : Option Addr) (lx10 cx10 : Nat) (Ax11 : Option Addr) (lx11 cx11 : Nat) (x12 x13 : Int) (x14 : Option Addr) (x110 : Bool) (M : Mem) (Q : Value → Mem → Prop) : Prop := LvP Try.prog Try.f40 [(0, .pointer x0), (2, .int .i64 x2), (6, .pointer x6), (9, .pointer x9), (10, .slice Ax10 lx10 cx10), (11, .slice Ax11 lx11 cx11), (12, .int .i64 x12), (13, .int .i64 x13), (14, .pointer x14), (110, .bool x110)] [.code [1,1,1,1,1,1,0,1,0,0,1,0,0,1,0,1], .code [1,1,1,1,1,1,0,1,0,0,1,0,0,1,1], .blk 1, .code [1,1,1,1,1,1,0,1,0,0,1,1], .lp [1,1,1,1,1,1,0,1,0,0], .blk 0, .code [1,1,1,1,1,1,1]] M Q
def A40_10 (x0 : Option Addr) (x2 : Int) (x6 x9 Ax10 : Option Addr) (lx10 cx10 : Nat) (Ax11 : Option Addr) (lx11 cx11 : Nat) (x12 x13 : Int) (M : Mem) (Q : Value → Mem → Prop) : Prop := LvP Try.prog Try.f40 [(0, .pointer x0), (2, .int .i64 x2), (6, .pointer x6), (9, .pointer x9), (10, .slice Ax10 lx10 cx10), (11, .slice Ax11 lx11 cx11), (12, .int .i64 x12), (13, .int .i64 x13)] [.code [1,1,1,1,1,1,0,1,0,0,1,1], .lp [1,1,1,1,1,1,0,1,0,0], .blk 0, .code [1,1,1,1,1,1,1]] M Q
def A40_11 (x0 : Option Addr) (x2 : Int) (x6 x9 Ax10 : Option Addr) (lx10 cx10 : Nat) (Ax11 : Option Addr) (lx11 cx11 : Nat) (x12 x13 : Int) (x14 x16 : Option Addr) (x128 : Bool) (M : Mem) (Q : Value → Mem → Prop) : Prop := LvP Try.prog Try.f40 [(0, .pointer x0), (2, .int .i64 x2), (6, .pointer x6), (9, .pointer x9), (10, .slice Ax10 lx10 cx10), (11, .slice Ax11 lx11 cx11), (12, .int .i64 x12), (13, .int .i64 x13), (14, .pointer x14), (16, .pointer x16), (128, .bool x128)] [.code [1,1,1,1,1,1,0,1,0,0,1,0,0,1,1,1,0,1,0,0,1], .code [1,1,1,1,1,1,0,1,0,0,1,0,0,1,1,1,0,1,0,1], .code [1,1,1,1,1,1,0,1,0,0,1,0,0,1,1,1,1], .blk 1, .code [1,1,1,1,1,1,0,1,0,0,1,1], .lp [1,1,1,1,1,1,0,1,0,0], .blk 0, .code [1,1,1,1,1,1,1]] M Q
def A40_12 (x0 : Option Addr) (x2 : Int) (x6 x9 Ax10 : Option Addr) (lx10 cx10 : Nat) (Ax11 : Option Addr) (lx11 cx11 : Nat) (x12 x13 : Int) (x16 : Option Addr) (x143 : Bool) (M : Mem) (Q : Value → Mem → Prop) : Prop := LvP Try.prog Try.f40 [(0, .pointer x0), (2, .int .i64 x2), (6, .pointer x6), (9, .pointer x9), (10, .slice Ax10 lx10 cx10), (11, .slice Ax11 lx11 cx11), (12, .int .i64 x12), (13, .int .i64 x13), (16, .pointer x16), (143, .bool x143)] [.code [1,1,1,1,1,1,0,1,0,0,1,0,0,1,1,1,1,1], .blk 1, .code [1,1,1,1,1,1,0,1,0,0,1,1], .lp [1,1,1,1,1,1,0,1,0,0], .blk 0, .code [1,1,1,1,1,1,1]] M Q
theorem w40_0 {x0 : Option Addr} {x1_0 x1_1 x1_2 x1_3 x2 : Int} {M : Mem} {Q : Value → Mem → Prop} (H :
    onS ((((M.new (.cells #[.int .i64 x1_0, .int .i64 x1_1, .int .i64 x1_2, .int .i64 x1_3] 35)).new (.cells #[.int .i64 0, .int .i64 0, .int .i64 0, .int .i64 0] 25)).new (.cells #[.int .i64 0, .int .i64 0, .int .i64 0, .int .i64 0] 25)).intAt .i64 (2 * M.nb.size) 0) fun x1' =>
    cnd ((x1'.tmod 8) != 0) (
     A40_1 x0 x2 (some ⟨2 * M.nb.size, 0, none⟩) (some ⟨2 * (M.new (.cells #[.int .i64 x1_0, .int .i64 x1_1, .int .i64 x1_2, .int .i64 x1_3] 35)).nb.size, 0, none⟩) (some ⟨2 * ((M.new (.cells #[.int .i64 x1_0, .int .i64 x1_1, .int .i64 x1_2, .int .i64 x1_3] 35)).new (.cells #[.int .i64 0, .int .i64 0, .int .i64 0, .int .i64 0] 25)).nb.size, 0, none⟩) true (((M.new (.cells #[.int .i64 x1_0, .int .i64 x1_1, .int .i64 x1_2, .int .i64 x1_3] 35)).new (.cells #[.int .i64 0, .int .i64 0, .int .i64 0, .int .i64 0] 25)).new (.cells #[.int .i64 0, .int .i64 0, .int .i64 0, .int .i64 0] 25)) Q) (
     onS ((((M.new (.cells #[.int .i64 x1_0, .int .i64 x1_1, .int .i64 x1_2, .int .i64 x1_3] 35)).new (.cells #[.int .i64 0, .int .i64 0, .int .i64 0, .int .i64 0] 25)).new (.cells #[.int .i64 0, .int .i64 0, .int .i64 0, .int .i64 0] 25)).intAt .i64 (2 * M.nb.size) (0 + 1)) fun x2' =>
     A40_1 x0 x2 (some ⟨2 * M.nb.size, 0, none⟩) (some ⟨2 * (M.new (.cells #[.int .i64 x1_0, .int .i64 x1_1, .int .i64 x1_2, .int .i64 x1_3] 35)).nb.size, 0, none⟩) (some ⟨2 * ((M.new (.cells #[.int .i64 x1_0, .int .i64 x1_1, .int .i64 x1_2, .int .i64 x1_3] 35)).new (.cells #[.int .i64 0, .int .i64 0, .int .i64 0, .int .i64 0] 25)).nb.size, 0, none⟩) ((x2'.tmod 8) != 0) (((M.new (.cells #[.int .i64 x1_0, .int .i64 x1_1, .int .i64 x1_2, .int .i64 x1_3] 35)).new (.cells #[.int .i64 0, .int .i64 0, .int .i64 0, .int .i64 0] 25)).new (.cells #[.int .i64 0, .int .i64 0, .int .i64 0, .int .i64 0] 25)) Q)) :
    Cn Try.prog 40 #[.pointer x0, .agg #[.int .i64 x1_0, .int .i64 x1_1, .int .i64 x1_2, .int .i64 x1_3], .int .i64 x2] M Q :=
  Cn.mk (cuts := K40) (sp := Z40) 900 b40 rfl rfl H fun G => by kernel_rfl

theorem w40_1 {x0 : Option Addr} {x2 : Int} {x4 x6 x9 : Option Addr} {x27 : Bool} {M : Mem} {Q : Value → Mem → Prop} (H :
    cnd x27 (
     A40_2 x0 x2 x4 x6 x9 true M Q) (
     adS x4 fun a3' =>
     onS (M.intAt .i64 a3'.block a3'.off) fun x4' =>
     adS x4 fun a5' =>
     onS (M.intAt .i64 a5'.block (a5'.off + 1)) fun x6' =>
     Cn Try.prog 35 #[.pointer x0, .int .i64 x4', .int .i64 x6'] M fun v7' N7' =>
      tyS (asB v7') fun b8' =>
      A40_2 x0 x2 x4 x6 x9 (!b8') N7' Q)) :
    A40_1 x0 x2 x4 x6 x9 x27 M Q :=
  LvP.mk (cuts := K40) (sp := Z40) 900 H fun G => by kernel_rfl

theorem w40_2 {x0 : Option Addr} {x2 : Int} {x4 x6 x9 : Option Addr} {x36 : Bool} {M : Mem} {Q : Value → Mem → Prop} (H :
    cnd x36 (
     A40_3 x0 x2 x4 x6 x9 true M Q) (
     adS x4 fun a9' =>
     onS (M.intAt .i64 a9'.block (a9'.off + 2)) fun x10' =>
     A40_3 x0 x2 x4 x6 x9 (decide (x10' < 8)) M Q)) :
    A40_2 x0 x2 x4 x6 x9 x36 M Q :=
  LvP.mk (cuts := K40) (sp := Z40) 900 H fun G => by kernel_rfl

theorem w40_3 {x0 : Option Addr} {x2 : Int} {x4 x6 x9 : Option Addr} {x41 : Bool} {M : Mem} {Q : Value → Mem → Prop} (H :
    cnd x41 (
     A40_4 x0 x2 x4 x6 x9 true M Q) (
     adS x4 fun a11' =>
     onS (M.intAt .i64 a11'.block (a11'.off + 2)) fun x12' =>
     A40_4 x0 x2 x4 x6 x9 (decide (x12' > 64)) M Q)) :
    A40_3 x0 x2 x4 x6 x9 x41 M Q :=
  LvP.mk (cuts := K40) (sp := Z40) 900 H fun G => by kernel_rfl

theorem w40_4 {x0 : Option Addr} {x2 : Int} {x4 x6 x9 : Option Addr} {x46 : Bool} {M : Mem} {Q : Value → Mem → Prop} (H :
    cnd x46 (
     A40_5 x0 x2 x4 x6 x9 true M Q) (
     adS x4 fun a13' =>
     onS (M.intAt .i64 a13'.block (a13'.off + 2)) fun x14' =>
     A40_5 x0 x2 x4 x6 x9 ((x14'.tmod 8) != 0) M Q)) :
    A40_4 x0 x2 x4 x6 x9 x46 M Q :=
  LvP.mk (cuts := K40) (sp := Z40) 900 H fun G => by kernel_rfl

theorem w40_5 {x0 : Option Addr} {x2 : Int} {x4 x6 x9 : Option Addr} {x52 : Bool} {M : Mem} {Q : Value → Mem → Prop} (H :
    cnd x52 (
     A40_6 x0 x2 x4 x6 x9 true M Q) (
     A40_6 x0 x2 x4 x6 x9 (decide (x2 < 0)) M Q)) :
    A40_5 x0 x2 x4 x6 x9 x52 M Q :=
  LvP.mk (cuts := K40) (sp := Z40) 900 H fun G => by kernel_rfl

theorem w40_6 {x0 : Option Addr} {x2 : Int} {x4 x6 x9 : Option Addr} {x56 : Bool} {M : Mem} {Q : Value → Mem → Prop} (H :
    cnd x56 (
     A40_7 x0 x2 x4 x6 x9 true M Q) (
     A40_7 x0 x2 x4 x6 x9 (decide (x2 > 2)) M Q)) :
    A40_6 x0 x2 x4 x6 x9 x56 M Q :=
  LvP.mk (cuts := K40) (sp := Z40) 900 H fun G => by kernel_rfl

theorem w40_7 {x0 : Option Addr} {x2 : Int} {x4 x6 x9 : Option Addr} {x59 : Bool} {M : Mem} {Q : Value → Mem → Prop} (H :
    cnd x59 (
     adS x9 fun a15' =>
     onS (M.intAt .i64 a15'.block a15'.off) fun x16' =>
     onS (M.intAt .i64 a15'.block (a15'.off + 1)) fun x17' =>
     onS (M.intAt .i64 a15'.block (a15'.off + 2)) fun x18' =>
     onS (M.intAt .i64 a15'.block (a15'.off + 3)) fun x19' =>
     adS x6 fun a20' =>
     stP (some 4) #[.int .i64 x16', .int .i64 x17', .int .i64 x18', .int .i64 x19'] M a20'.block a20'.off fun M21' =>
     adS x6 fun a22' =>
     onS (M21'.intAt .i64 a22'.block a22'.off) fun x23' =>
     onS (M21'.intAt .i64 a22'.block (a22'.off + 1)) fun x24' =>
     onS (M21'.intAt .i64 a22'.block (a22'.off + 2)) fun x25' =>
     onS (M21'.intAt .i64 a22'.block (a22'.off + 3)) fun x26' =>
     Q (.tuple #[.agg #[.int .i64 (x23'), .int .i64 (x24'), .int .i64 (x25'), .int .i64 (x26')], .int .i64 0, .int .i64 2]) M21') (
     adS x4 fun a27' =>
     onS (M.intAt .i64 a27'.block a27'.off) fun x28' =>
     adS x4 fun a29' =>
     onS (M.intAt .i64 a29'.block a29'.off) fun x30' =>
     adS x4 fun a31' =>
     onS (M.intAt .i64 a31'.block a31'.off) fun x32' =>
     adS x4 fun a33' =>
     onS (M.intAt .i64 a33'.block (a33'.off + 2)) fun x34' =>
     adS x4 fun a35' =>
     onS (M.intAt .i64 a35'.block a35'.off) fun x36' =>
     adS x4 fun a37' =>
     onS ((M.new (.cells #[.int .i64 (IntKind.i64.wrap (x28' - 1)), .int .i64 x30', .int .i64 (IntKind.i64.wrap (x32' + x34')), .int .i64 (IntKind.i64.wrap (x36' - 1))] 3)).intAt .i64 a37'.block (a37'.off + 1)) fun x38' =>
     adS x4 fun a39' =>
     onS ((M.new (.cells #[.int .i64 (IntKind.i64.wrap (x28' - 1)), .int .i64 x30', .int .i64 (IntKind.i64.wrap (x32' + x34')), .int .i64 (IntKind.i64.wrap (x36' - 1))] 3)).intAt .i64 a39'.block (a39'.off + 1)) fun x40' =>
     adS x4 fun a41' =>
     onS ((M.new (.cells #[.int .i64 (IntKind.i64.wrap (x28' - 1)), .int .i64 x30', .int .i64 (IntKind.i64.wrap (x32' + x34')), .int .i64 (IntKind.i64.wrap (x36' - 1))] 3)).intAt .i64 a41'.block (a41'.off + 1)) fun x42' =>
     adS x4 fun a43' =>
     onS ((M.new (.cells #[.int .i64 (IntKind.i64.wrap (x28' - 1)), .int .i64 x30', .int .i64 (IntKind.i64.wrap (x32' + x34')), .int .i64 (IntKind.i64.wrap (x36' - 1))] 3)).intAt .i64 a43'.block (a43'.off + 1)) fun x44' =>
     A40_8 x0 x2 x6 x9 (some ⟨2 * M.nb.size, 0, none⟩) 4 4 (some ⟨2 * (M.new (.cells #[.int .i64 (IntKind.i64.wrap (x28' - 1)), .int .i64 x30', .int .i64 (IntKind.i64.wrap (x32' + x34')), .int .i64 (IntKind.i64.wrap (x36' - 1))] 3)).nb.size, 0, none⟩) 4 4 0 0 ((M.new (.cells #[.int .i64 (IntKind.i64.wrap (x28' - 1)), .int .i64 x30', .int .i64 (IntKind.i64.wrap (x32' + x34')), .int .i64 (IntKind.i64.wrap (x36' - 1))] 3)).new (.cells #[.int .i64 x38', .int .i64 (IntKind.i64.wrap (x40' - 1)), .int .i64 (IntKind.i64.wrap (x42' - 1)), .int .i64 (IntKind.i64.wrap (x44' - 1))] 3)) Q)) :
    A40_7 x0 x2 x4 x6 x9 x59 M Q :=
  LvP.mk (cuts := K40) (sp := Z40) 900 H fun G => by kernel_rfl

theorem w40_8 {x0 : Option Addr} {x2 : Int} {x6 x9 Ax10 : Option Addr} {lx10 cx10 : Nat} {Ax11 : Option Addr} {lx11 cx11 : Nat} {x12 x13 : Int} {M : Mem} {Q : Value → Mem → Prop} (H :
    cnd (decide (x13 < 4)) (
     ixS (idxA Ax10 lx10 1 x13) fun a45' =>
     onS ((M.res 1).intAt .i64 a45'.block a45'.off) fun x46' =>
     ixS (idxA Ax11 lx11 1 x13) fun a47' =>
     onS ((M.res 1).intAt .i64 a47'.block a47'.off) fun x48' =>
     Cn Try.prog 36 #[.pointer x0, .int .i64 x46', .int .i64 x48'] (M.res 1) fun v49' N49' =>
      tyS (asU 2 v49') fun cs50' =>
      tyS (asA 23 (cs50'.getD 0 undef)) fun cs51' =>
      asCellsP tyZpI0 0 cs51' fun vs52' =>
      tyS (asB (cs50'.getD 1 undef)) fun b53' =>
      tyS (asA 23 (.agg vs52'.toArray)) fun cs54' =>
      asCellsP tyZpI0 0 cs54' fun vs55' =>
      stP (some 23) vs55'.toArray (N49'.upd (M.nb.size + 0) (.cells #[.int .i64 0, .int .i64 0, .int .i64 0, .int .i64 0, .bool false, .bool false, .int .i64 0, .int .i64 0, .int .i64 0, .int .i64 0, .int .i64 0, .int .i64 0, .int .i64 0, .bool false, .int .i64 0, .int .i64 0, .int .i64 0, .int .i64 0, .int .i64 0, .int .i64 0, .int .i64 0, .int .i64 0, .bool false] 27)) (2 * (M.nb.size + 0)) 0 fun M56' =>
      cnd (!b53') (
       A40_9 x0 x2 x6 x9 Ax10 lx10 cx10 Ax11 lx11 cx11 x12 x13 (some ⟨2 * (M.nb.size + 0), 0, none⟩) true M56' Q) (
       onS (M56'.boolAt (2 * (M.nb.size + 0)) (0 + 5)) fun b57' =>
       A40_9 x0 x2 x6 x9 Ax10 lx10 cx10 Ax11 lx11 cx11 x12 x13 (some ⟨2 * (M.nb.size + 0), 0, none⟩) (!b57') M56' Q)) (
     adS x9 fun a58' =>
     onS (M.intAt .i64 a58'.block a58'.off) fun x59' =>
     onS (M.intAt .i64 a58'.block (a58'.off + 1)) fun x60' =>
     onS (M.intAt .i64 a58'.block (a58'.off + 2)) fun x61' =>
     onS (M.intAt .i64 a58'.block (a58'.off + 3)) fun x62' =>
     adS x6 fun a63' =>
     stP (some 4) #[.int .i64 x59', .int .i64 x60', .int .i64 x61', .int .i64 x62'] M a63'.block a63'.off fun M64' =>
     adS x6 fun a65' =>
     onS (M64'.intAt .i64 a65'.block a65'.off) fun x66' =>
     onS (M64'.intAt .i64 a65'.block (a65'.off + 1)) fun x67' =>
     onS (M64'.intAt .i64 a65'.block (a65'.off + 2)) fun x68' =>
     onS (M64'.intAt .i64 a65'.block (a65'.off + 3)) fun x69' =>
     Q (.tuple #[.agg #[.int .i64 (x66'), .int .i64 (x67'), .int .i64 (x68'), .int .i64 (x69')], .int .i64 x12, .int .i64 0]) M64')) :
    A40_8 x0 x2 x6 x9 Ax10 lx10 cx10 Ax11 lx11 cx11 x12 x13 M Q :=
  LvP.mk (cuts := K40) (sp := Z40) 900 H fun G => by kernel_rfl

theorem w40_9 {x0 : Option Addr} {x2 : Int} {x6 x9 Ax10 : Option Addr} {lx10 cx10 : Nat} {Ax11 : Option Addr} {lx11 cx11 : Nat} {x12 x13 : Int} {x14 : Option Addr} {x110 : Bool} {M : Mem} {Q : Value → Mem → Prop} (H :
    cnd x110 (
     A40_10 x0 x2 x6 x9 Ax10 lx10 cx10 Ax11 lx11 cx11 x12 x13 M Q) (
     adS x14 fun a70' =>
     ixS (idxA (some ⟨a70'.block, a70'.off + 17, none⟩) 2 2 0) fun a71' =>
     onS (M.intAt .i64 a71'.block a71'.off) fun x72' =>
     onS (M.intAt .i64 a71'.block (a71'.off + 1)) fun x73' =>
     stP (some 2) #[.int .i64 x72', .int .i64 x73'] (M.new (.cells #[.int .i64 0, .int .i64 0] 24)) (2 * M.nb.size) 0 fun M74' =>
     adS x14 fun a75' =>
     ixS (idxA (some ⟨a75'.block, a75'.off + 14, none⟩) 2 1 0) fun a76' =>
     onS (M74'.intAt .i64 a76'.block a76'.off) fun x77' =>
     cnd (x77' != x2) (
      adS x14 fun a78' =>
      onS (M74'.boolAt a78'.block (a78'.off + 13)) fun b79' =>
      cnd (!b79') (
       A40_11 x0 x2 x6 x9 Ax10 lx10 cx10 Ax11 lx11 cx11 x12 x13 x14 (some ⟨2 * M.nb.size, 0, none⟩) true M74' Q) (
       adS x14 fun a80' =>
       ixS (idxA (some ⟨a80'.block, a80'.off + 14, none⟩) 2 1 1) fun a81' =>
       onS (M74'.intAt .i64 a81'.block a81'.off) fun x82' =>
       A40_11 x0 x2 x6 x9 Ax10 lx10 cx10 Ax11 lx11 cx11 x12 x13 x14 (some ⟨2 * M.nb.size, 0, none⟩) (x82' != x2) M74' Q)) (
      cnd (x12 == 0) (
       A40_12 x0 x2 x6 x9 Ax10 lx10 cx10 Ax11 lx11 cx11 x12 x13 (some ⟨2 * M.nb.size, 0, none⟩) true M74' Q) (
       cnd (x12 == 1) (
        onS (M74'.intAt .i64 (2 * M.nb.size) 0) fun x83' =>
        onS (M74'.intAt .i64 (2 * M.nb.size) (0 + 1)) fun x84' =>
        ixS (idxA x9 2 2 0) fun a85' =>
        onS (M74'.intAt .i64 a85'.block a85'.off) fun x86' =>
        onS (M74'.intAt .i64 a85'.block (a85'.off + 1)) fun x87' =>
        puS (binV Try.prog .neq 24 24 (.agg #[.int .i64 x83', .int .i64 x84']) (.agg #[.int .i64 x86', .int .i64 x87'])) fun v88' =>
        tyS (asB v88') fun b89' =>
        A40_12 x0 x2 x6 x9 Ax10 lx10 cx10 Ax11 lx11 cx11 x12 x13 (some ⟨2 * M.nb.size, 0, none⟩) b89' M74' Q) (
        A40_12 x0 x2 x6 x9 Ax10 lx10 cx10 Ax11 lx11 cx11 x12 x13 (some ⟨2 * M.nb.size, 0, none⟩) false M74' Q))))) :
    A40_9 x0 x2 x6 x9 Ax10 lx10 cx10 Ax11 lx11 cx11 x12 x13 x14 x110 M Q :=
  LvP.mk (cuts := K40) (sp := Z40) 900 H fun G => by kernel_rfl

theorem w40_10 {x0 : Option Addr} {x2 : Int} {x6 x9 Ax10 : Option Addr} {lx10 cx10 : Nat} {Ax11 : Option Addr} {lx11 cx11 : Nat} {x12 x13 : Int} {M : Mem} {Q : Value → Mem → Prop} (H :
    A40_8 x0 x2 x6 x9 Ax10 lx10 cx10 Ax11 lx11 cx11 x12 (IntKind.i64.wrap (x13 + 1)) M Q) :
    A40_10 x0 x2 x6 x9 Ax10 lx10 cx10 Ax11 lx11 cx11 x12 x13 M Q :=
  LvP.mk (cuts := K40) (sp := Z40) 900 H fun G => by kernel_rfl

theorem w40_11 {x0 : Option Addr} {x2 : Int} {x6 x9 Ax10 : Option Addr} {lx10 cx10 : Nat} {Ax11 : Option Addr} {lx11 cx11 : Nat} {x12 x13 : Int} {x14 x16 : Option Addr} {x128 : Bool} {M : Mem} {Q : Value → Mem → Prop} (H :
    cnd x128 (
     A40_10 x0 x2 x6 x9 Ax10 lx10 cx10 Ax11 lx11 cx11 x12 x13 M Q) (
     adS x14 fun a90' =>
     ixS (idxA (some ⟨a90'.block, a90'.off + 17, none⟩) 2 2 1) fun a91' =>
     onS (M.intAt .i64 a91'.block a91'.off) fun x92' =>
     onS (M.intAt .i64 a91'.block (a91'.off + 1)) fun x93' =>
     adS x16 fun a94' =>
     stP (some 2) #[.int .i64 x92', .int .i64 x93'] M a94'.block a94'.off fun M95' =>
     cnd (x12 == 0) (
      A40_12 x0 x2 x6 x9 Ax10 lx10 cx10 Ax11 lx11 cx11 x12 x13 x16 true M95' Q) (
      cnd (x12 == 1) (
       adS x16 fun a96' =>
       onS (M95'.intAt .i64 a96'.block a96'.off) fun x97' =>
       onS (M95'.intAt .i64 a96'.block (a96'.off + 1)) fun x98' =>
       ixS (idxA x9 2 2 0) fun a99' =>
       onS (M95'.intAt .i64 a99'.block a99'.off) fun x100' =>
       onS (M95'.intAt .i64 a99'.block (a99'.off + 1)) fun x101' =>
       puS (binV Try.prog .neq 24 24 (.agg #[.int .i64 x97', .int .i64 x98']) (.agg #[.int .i64 x100', .int .i64 x101'])) fun v102' =>
       tyS (asB v102') fun b103' =>
       A40_12 x0 x2 x6 x9 Ax10 lx10 cx10 Ax11 lx11 cx11 x12 x13 x16 b103' M95' Q) (
       A40_12 x0 x2 x6 x9 Ax10 lx10 cx10 Ax11 lx11 cx11 x12 x13 x16 false M95' Q)))) :
    A40_11 x0 x2 x6 x9 Ax10 lx10 cx10 Ax11 lx11 cx11 x12 x13 x14 x16 x128 M Q :=
  LvP.mk (cuts := K40) (sp := Z40) 900 H fun G => by kernel_rfl

theorem w40_12 {x0 : Option Addr} {x2 : Int} {x6 x9 Ax10 : Option Addr} {lx10 cx10 : Nat} {Ax11 : Option Addr} {lx11 cx11 : Nat} {x12 x13 : Int} {x16 : Option Addr} {x143 : Bool} {M : Mem} {Q : Value → Mem → Prop} (H :
    cnd x143 (
     adS x16 fun a104' =>
     onS (M.intAt .i64 a104'.block a104'.off) fun x105' =>
     onS (M.intAt .i64 a104'.block (a104'.off + 1)) fun x106' =>
     ixS (idxA x9 2 2 x12) fun a107' =>
     stP (some 2) #[.int .i64 x105', .int .i64 x106'] M a107'.block a107'.off fun M108' =>
     A40_10 x0 x2 x6 x9 Ax10 lx10 cx10 Ax11 lx11 cx11 (IntKind.i64.wrap (x12 + 1)) x13 M108' Q) (
     A40_10 x0 x2 x6 x9 Ax10 lx10 cx10 Ax11 lx11 cx11 x12 x13 M Q)) :
    A40_12 x0 x2 x6 x9 Ax10 lx10 cx10 Ax11 lx11 cx11 x12 x13 x16 x143 M Q :=
  LvP.mk (cuts := K40) (sp := Z40) 900 H fun G => by kernel_rfl


end Go.Zt
