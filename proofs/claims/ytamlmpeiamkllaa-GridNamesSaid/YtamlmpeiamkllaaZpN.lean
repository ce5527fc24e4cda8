/- The functions' walks: for each function and each loop a rule of what it comes to. Printed by zw2.py. -/
import Derived.Test.YtamlmpeiamkllaaProg
import Derived.Test.YtamlmpeiamkllaaZpA
import Derived.Test.YtamlmpeiamkllaaZrT
set_option linter.unusedVariables false
set_option maxRecDepth 100000
namespace Go.Zt
open Go Go.Sim Go.Proofs

def tyZpN0 : List Sc := [.int .i64, .int .i64, .int .i64, .int .i64, .bool, .bool, .int .i64, .int .i64, .int .i64, .int .i64, .int .i64, .int .i64, .int .i64, .bool, .int .i64, .int .i64, .int .i64, .int .i64, .int .i64, .int .i64, .int .i64, .int .i64, .bool]
/-! ### zoetrope/zoetropelaw17.GridNames: function 6 -/
def K6 : List (List It × List Nat) := [([.code [1,1,0,1,0,0], .lp [1,1,0,1,0,0], .blk 0, .code [1,1,1]], [1, 2]), ([.rg [1,1,0,1,0,0,1,0,0,1,1,1,1,1,0,0] 7, .code [1,1,0,1,0,0,1,0,0,1,1,1,1,1,0,1], .code [1,1,0,1,0,0,1,0,0,1,1,1,1,1,1], .blk 1, .code [1,1,0,1,0,0,1,1], .lp [1,1,0,1,0,0], .blk 0, .code [1,1,1]], [1, 2, 5, 6, 7, 8, 9, 10, 11, 12, 13, 57]), ([.code [1,1,1,1,1,1,0,1,0,0], .lp [1,1,1,1,1,1,0,1,0,0], .blk 2, .code [1,1,1,1,1,1,1]], [14, 15, 16, 17, 18]), ([.rg [1,1,0,1,0,0,1,0,0,1,1,1,1,1,0,0] 11, .code [1,1,0,1,0,0,1,0,0,1,1,1,1,1,0,1], .code [1,1,0,1,0,0,1,0,0,1,1,1,1,1,1], .blk 1, .code [1,1,0,1,0,0,1,1], .lp [1,1,0,1,0,0], .blk 0, .code [1,1,1]], [1, 2, 6, 7, 8, 9, 10, 11, 12, 13, 61]), ([.rg [1,1,1,1,1,1,1,1,0] 10, .code [1,1,1,1,1,1,1,1,1]], [17, 19, 170]), ([.rg [1,1,0,1,0,0,1,0,0,1,1,1,1,1,0,0] 15, .code [1,1,0,1,0,0,1,0,0,1,1,1,1,1,0,1], .code [1,1,0,1,0,0,1,0,0,1,1,1,1,1,1], .blk 1, .code [1,1,0,1,0,0,1,1], .lp [1,1,0,1,0,0], .blk 0, .code [1,1,1]], [1, 2, 6, 8, 9, 10, 11, 12, 13, 65]), ([.rg [1,1,0,1,0,0,1,0,0,1,1,1,1,1,0,0] 19, .code [1,1,0,1,0,0,1,0,0,1,1,1,1,1,0,1], .code [1,1,0,1,0,0,1,0,0,1,1,1,1,1,1], .blk 1, .code [1,1,0,1,0,0,1,1], .lp [1,1,0,1,0,0], .blk 0, .code [1,1,1]], [1, 2, 6, 8, 10, 11, 12, 13, 69]), ([.rg [1,1,0,1,0,0,1,0,0,1,1,1,1,1,0,0] 23, .code [1,1,0,1,0,0,1,0,0,1,1,1,1,1,0,1], .code [1,1,0,1,0,0,1,0,0,1,1,1,1,1,1], .blk 1, .code [1,1,0,1,0,0,1,1], .lp [1,1,0,1,0,0], .blk 0, .code [1,1,1]], [1, 2, 6, 8, 10, 11, 13, 73]), ([.rg [1,1,0,1,0,0,1,0,0,1,1,1,1,1,0,0] 28, .code [1,1,0,1,0,0,1,0,0,1,1,1,1,1,0,1], .code [1,1,0,1,0,0,1,0,0,1,1,1,1,1,1], .blk 1, .code [1,1,0,1,0,0,1,1], .lp [1,1,0,1,0,0], .blk 0, .code [1,1,1]], [1, 2, 6, 8, 10, 13, 78]), ([.rg [1,1,0,1,0,0,1,0,0,1,1,1,1,1,0,0] 32, .code [1,1,0,1,0,0,1,0,0,1,1,1,1,1,0,1], .code [1,1,0,1,0,0,1,0,0,1,1,1,1,1,1], .blk 1, .code [1,1,0,1,0,0,1,1], .lp [1,1,0,1,0,0], .blk 0, .code [1,1,1]], [1, 2, 8, 10, 13, 82]), ([.rg [1,1,0,1,0,0,1,0,0,1,1,1,1,1,0,0] 36, .code [1,1,0,1,0,0,1,0,0,1,1,1,1,1,0,1], .code [1,1,0,1,0,0,1,0,0,1,1,1,1,1,1], .blk 1, .code [1,1,0,1,0,0,1,1], .lp [1,1,0,1,0,0], .blk 0, .code [1,1,1]], [1, 2, 10, 13, 86]), ([.rg [1,1,0,1,0,0,1,0,0,1,1,1,1,1,0,0] 40, .code [1,1,0,1,0,0,1,0,0,1,1,1,1,1,0,1], .code [1,1,0,1,0,0,1,0,0,1,1,1,1,1,1], .blk 1, .code [1,1,0,1,0,0,1,1], .lp [1,1,0,1,0,0], .blk 0, .code [1,1,1]], [1, 2, 13, 90]), ([.rg [1,1,0,1,0,0,1,0,0,1,1,1,1,1,0,0] 44, .code [1,1,0,1,0,0,1,0,0,1,1,1,1,1,0,1], .code [1,1,0,1,0,0,1,0,0,1,1,1,1,1,1], .blk 1, .code [1,1,0,1,0,0,1,1], .lp [1,1,0,1,0,0], .blk 0, .code [1,1,1]], [1, 2, 94]), ([.rg [1,1,0,1,0,0,1,0,0,1,1,1,1,1,0,0] 50, .code [1,1,0,1,0,0,1,0,0,1,1,1,1,1,0,1], .code [1,1,0,1,0,0,1,0,0,1,1,1,1,1,1], .blk 1, .code [1,1,0,1,0,0,1,1], .lp [1,1,0,1,0,0], .blk 0, .code [1,1,1]], [1, 2, 100]), ([.code [1,1,0,1,0,0,1,0,0,1,1,1,1,1,0,1], .code [1,1,0,1,0,0,1,0,0,1,1,1,1,1,1], .blk 1, .code [1,1,0,1,0,0,1,1], .lp [1,1,0,1,0,0], .blk 0, .code [1,1,1]], [2, 105])]
def Z6 : List (List Nat × List Nat) := [([1,1,0,1,0,0,1,0,0,1,1,1,1,1,0,0], [7, 11, 15, 19, 23, 28, 32, 36, 40, 44, 50, 55]), ([1,1,1,1,1,1,1,1,0], [4, 10, 16])]
theorem b6 : Try.prog.funcs[6]? = some Try.f6 ∧ (Orc.tab Try.prog).lookup 6 = none ∧ Try.f6.body = some (codeOf Try.f6) := ⟨by kernel_rfl, by kernel_rfl, by kernel_rfl⟩
def A6_1 (x1 : Option Addr) (x2 : Int) (M : Mem) (Q : Value → Mem → Prop) : Prop := LvP Try.prog Try.f6 [(1, .pointer x1), (2, .int .i64 x2)] [.code [1,1,0,1,0,0], .lp [1,1,0,1,0,0], .blk 0, .code [1,1,1]] M Q
def A6_2 (x1 : Option Addr) (x2 x5 x6 x7 x8 x9 x10 : Int) (x11 : Option Addr) (x12 x13 : Int) (x57 : Bool) (M : Mem) (Q : Value → Mem → Prop) : Prop := LvP Try.prog Try.f6 [(1, .pointer x1), (2, .int .i64 x2), (5, .int .i64 x5), (6, .int .i64 x6), (7, .int .i64 x7), (8, .int .i64 x8), (9, .int .i64 x9), (10, .int .i64 x10), (11, .pointer x11), (12, .int .i64 x12), (13, .int .i64 x13), (57, .bool x57)] [.rg [1,1,0,1,0,0,1,0,0,1,1,1,1,1,0,0] 7, .code [1,1,0,1,0,0,1,0,0,1,1,1,1,1,0,1], .code [1,1,0,1,0,0,1,0,0,1,1,1,1,1,1], .blk 1, .code [1,1,0,1,0,0,1,1], .lp [1,1,0,1,0,0], .blk 0, .code [1,1,1]] M Q
def A6_3 (Ax14 : Option Addr) (lx14 cx14 : Nat) (x15 x16 Ax17 : Option Addr) (lx17 cx17 : Nat) (x18 : Int) (M : Mem) (Q : Value → Mem → Prop) : Prop := LvP Try.prog Try.f6 [(14, .slice Ax14 lx14 cx14), (15, .pointer x15), (16, .pointer x16), (17, .slice Ax17 lx17 cx17), (18, .int .i64 x18)] [.code [1,1,1,1,1,1,0,1,0,0], .lp [1,1,1,1,1,1,0,1,0,0], .blk 2, .code [1,1,1,1,1,1,1]] M Q
def A6_4 (x1 : Option Addr) (x2 x6 x7 x8 x9 x10 : Int) (x11 : Option Addr) (x12 x13 : Int) (x61 : Bool) (M : Mem) (Q : Value → Mem → Prop) : Prop := LvP Try.prog Try.f6 [(1, .pointer x1), (2, .int .i64 x2), (6, .int .i64 x6), (7, .int .i64 x7), (8, .int .i64 x8), (9, .int .i64 x9), (10, .int .i64 x10), (11, .pointer x11), (12, .int .i64 x12), (13, .int .i64 x13), (61, .bool x61)] [.rg [1,1,0,1,0,0,1,0,0,1,1,1,1,1,0,0] 11, .code [1,1,0,1,0,0,1,0,0,1,1,1,1,1,0,1], .code [1,1,0,1,0,0,1,0,0,1,1,1,1,1,1], .blk 1, .code [1,1,0,1,0,0,1,1], .lp [1,1,0,1,0,0], .blk 0, .code [1,1,1]] M Q
def A6_5 (Ax17 : Option Addr) (lx17 cx17 : Nat) (Ax19 : Option Addr) (lx19 cx19 : Nat) (x170 : Bool) (M : Mem) (Q : Value → Mem → Prop) : Prop := LvP Try.prog Try.f6 [(17, .slice Ax17 lx17 cx17), (19, .slice Ax19 lx19 cx19), (170, .bool x170)] [.rg [1,1,1,1,1,1,1,1,0] 10, .code [1,1,1,1,1,1,1,1,1]] M Q
def A6_6 (x1 : Option Addr) (x2 x6 x8 x9 x10 : Int) (x11 : Option Addr) (x12 x13 : Int) (x65 : Bool) (M : Mem) (Q : Value → Mem → Prop) : Prop := LvP Try.prog Try.f6 [(1, .pointer x1), (2, .int .i64 x2), (6, .int .i64 x6), (8, .int .i64 x8), (9, .int .i64 x9), (10, .int .i64 x10), (11, .pointer x11), (12, .int .i64 x12), (13, .int .i64 x13), (65, .bool x65)] [.rg [1,1,0,1,0,0,1,0,0,1,1,1,1,1,0,0] 15, .code [1,1,0,1,0,0,1,0,0,1,1,1,1,1,0,1], .code [1,1,0,1,0,0,1,0,0,1,1,1,1,1,1], .blk 1, .code [1,1,0,1,0,0,1,1], .lp [1,1,0,1,0,0], .blk 0, .code [1,1,1]] M Q
def A6_7 (x1 : Option Addr) (x2 x6 x8 x10 : Int) (x11 : Option Addr) (x12 x13 : Int) (x69 : Bool) (M : Mem) (Q : Value → Mem → Prop) : Prop := LvP Try.prog Try.f6 [(1, .pointer x1), (2, .int .i64 x2), (6, .int .i64 x6), (8, .int .i64 x8), (10, .int .i64 x10), (11, .pointer x11), (12, .int .i64 x12), (13, .int .i64 x13), (69, .bool x69)] [.rg [1,1,0,1,0,0,1,0,0,1,1,1,1,1,0,0] 19, .code [1,1,0,1,0,0,1,0,0,1,1,1,1,1,0,1], .code [1,1,0,1,0,0,1,0,0,1,1,1,1,1,1], .blk 1, .code [1,1,0,1,0,0,1,1], .lp [1,1,0,1,0,0], .blk 0, .code [1,1,1]] M Q
def A6_8 (x1 : Option Addr) (x2 x6 x8 x10 : Int) (x11 : Option Addr) (x13 : Int) (x73 : Bool) (M : Mem) (Q : Value → Mem → Prop) : Prop := LvP Try.prog Try.f6 [(1, .pointer x1), (2, .int .i64 x2), (6, .int .i64 x6), (8, .int .i64 x8), (10, .int .i64 x10), (11, .pointer x11), (13, .int .i64 x13), (73, .bool x73)] [.rg [1,1,0,1,0,0,1,0,0,1,1,1,1,1,0,0] 23, .code [1,1,0,1,0,0,1,0,0,1,1,1,1,1,0,1], .code [1,1,0,1,0,0,1,0,0,1,1,1,1,1,1], .blk 1, .code [1,1,0,1,0,0,1,1], .lp [1,1,0,1,0,0], .blk 0, .code [1,1,1]] M Q
def A6_9 (x1 : Option Addr) (x2 x6 x8 x10 x13 : Int) (x78 : Bool) (M : Mem) (Q : Value → Mem → Prop) : Prop := LvP Try.prog Try.f6 [(1, .pointer x1), (2, .int .i64 x2), (6, .int .i64 x6), (8, .int .i64 x8), (10, .int .i64 x10), (13, .int .i64 x13), (78, .bool x78)] [.rg [1,1,0,1,0,0,1,0,0,1,1,1,1,1,0,0] 28, .code [1,1,0,1,0,0,1,0,0,1,1,1,1,1,0,1], .code [1,1,0,1,0,0,1,0,0,1,1,1,1,1,1], .blk 1, .code [1,1,0,1,0,0,1,1], .lp [1,1,0,1,0,0], .blk 0, .code [1,1,1]] M Q
def A6_10 (x1 : Option Addr) (x2 x8 x10 x13 : Int) (x82 : Bool) (M : Mem) (Q : Value → Mem → Prop) : Prop := LvP Try.prog Try.f6 [(1, .pointer x1), (2, .int .i64 x2), (8, .int .i64 x8), (10, .int .i64 x10), (13, .int .i64 x13), (82, .bool x82)] [.rg [1,1,0,1,0,0,1,0,0,1,1,1,1,1,0,0] 32, .code [1,1,0,1,0,0,1,0,0,1,1,1,1,1,0,1], .code [1,1,0,1,0,0,1,0,0,1,1,1,1,1,1], .blk 1, .code [1,1,0,1,0,0,1,1], .lp [1,1,0,1,0,0], .blk 0, .code [1,1,1]] M Q
def A6_11 (x1 : Option Addr) (x2 x10 x13 : Int) (x86 : Bool) (M : Mem) (Q : Value → Mem → Prop) : Prop := LvP Try.prog Try.f6 [(1, .pointer x1), (2, .int .i64 x2), (10, .int .i64 x10), (13, .int .i64 x13), (86, .bool x86)] [.rg [1,1,0,1,0,0,1,0,0,1,1,1,1,1,0,0] 36, .code [1,1,0,1,0,0,1,0,0,1,1,1,1,1,0,1], .code [1,1,0,1,0,0,1,0,0,1,1,1,1,1,1], .blk 1, .code [1,1,0,1,0,0,1,1], .lp [1,1,0,1,0,0], .blk 0, .code [1,1,1]] M Q
def A6_12 (x1 : Option Addr) (x2 x13 : Int) (x90 : Bool) (M : Mem) (Q : Value → Mem → Prop) : Prop := LvP Try.prog Try.f6 [(1, .pointer x1), (2, .int .i64 x2), (13, .int .i64 x13), (90, .bool x90)] [.rg [1,1,0,1,0,0,1,0,0,1,1,1,1,1,0,0] 40, .code [1,1,0,1,0,0,1,0,0,1,1,1,1,1,0,1], .code [1,1,0,1,0,0,1,0,0,1,1,1,1,1,1], .blk 1, .code [1,1,0,1,0,0,1,1], .lp [1,1,0,1,0,0], .blk 0, .code [1,1,1]] M Q
def A6_13 (x1 : Option Addr) (x2 : Int) (x94 : Bool) (M : Mem) (Q : Value → Mem → Prop) : Prop := LvP Try.prog Try.f6 [(1, .pointer x1), (2, .int .i64 x2), (94, .bool x94)] [.rg [1,1,0,1,0,0,1,0,0,1,1,1,1,1,0,0] 44, .code [1,1,0,1,0,0,1,0,0,1,1,1,1,1,0,1], .code [1,1,0,1,0,0,1,0,0,1,1,1,1,1,1], .blk 1, .code [1,1,0,1,0,0,1,1], .lp [1,1,0,1,0,0], .blk 0, .code [1,1,1]] M Q
def A6_14 (x1 : Option Addr) (x2 : Int) (x100 : Bool) (M : Mem) (Q : Value → Mem → Prop) : Prop := LvP Try.prog Try.f6 [(1, .pointer x1), (2, .int .i64 x2), (100, .bool x100)] [.rg [1,1,0,1,0,0,1,0,0,1,1,1,1,1,0,0] 50, .code [1,1,0,1,0,0,1,0,0,1,1,1,1,1,0,1], .code [1,1,0,1,0,0,1,0,0,1,1,1,1,1,1], .blk 1, .code [1,1,0,1,0,0,1,1], .lp [1,1,0,1,0,0], .blk 0, .code [1,1,1]] M Q
def A6_15 (x2 : Int) (x105 : Bool) (M : Mem) (Q : Value → Mem → Prop) : Prop := LvP Try.prog Try.f6 [(2, .int .i64 x2), (105, .bool x105)] [.code [1,1,0,1,0,0,1,0,0,1,1,1,1,1,0,1], .code [1,1,0,1,0,0,1,0,0,1,1,1,1,1,1], .blk 1, .code [1,1,0,1,0,0,1,1], .lp [1,1,0,1,0,0], .blk 0, .code [1,1,1]] M Q
theorem w6_0 {M : Mem} {Q : Value → Mem → Prop} (H :
    A6_1 none 0 M Q) :
    Cn Try.prog 6 #[] M Q :=
  Cn.mk (cuts := K6) (sp := Z6) 900 b6 rfl rfl H fun G => by kernel_rfl

theorem w6_1 {x1 : Option Addr} {x2 : Int} {M : Mem} {Q : Value → Mem → Prop} (H :
    cnd (decide (x2 < 2)) (
     Cn Try.prog 14 #[.pointer x1, .int .i64 0, .int .i64 0] M fun v1' N1' =>
      tyS (asU 2 v1') fun cs2' =>
      tyS (asA 23 (cs2'.getD 0 undef)) fun cs3' =>
      asCellsP tyZpN0 0 cs3' fun vs4' =>
      tyS (asB (cs2'.getD 1 undef)) fun b5' =>
      tyS (asA 23 (.agg vs4'.toArray)) fun cs6' =>
      asCellsP tyZpN0 0 cs6' fun vs7' =>
      stP (some 23) vs7'.toArray (N1'.new (.cells #[.int .i64 0, .int .i64 0, .int .i64 0, .int .i64 0, .bool false, .bool false, .int .i64 0, .int .i64 0, .int .i64 0, .int .i64 0, .int .i64 0, .int .i64 0, .int .i64 0, .bool false, .int .i64 0, .int .i64 0, .int .i64 0, .int .i64 0, .int .i64 0, .int .i64 0, .int .i64 0, .int .i64 0, .bool false] 27)) (2 * N1'.nb.size) 0 fun M8' =>
      Cn Try.prog 21 #[.pointer x1, .int .i64 0, .int .i64 0, .int .i64 5] M8' fun v9' N9' =>
       tyS (asU 2 v9') fun cs10' =>
       tyS (asI .i64 (cs10'.getD 0 undef)) fun x11' =>
       tyS (asI .i64 (cs10'.getD 1 undef)) fun x12' =>
       Cn Try.prog 11 #[.pointer x1, .int .i64 1, .int .i64 1] N9' fun v13' N13' =>
        tyS (asU 2 v13') fun cs14' =>
        tyS (asI .i64 (cs14'.getD 0 undef)) fun x15' =>
        tyS (asI .i64 (cs14'.getD 1 undef)) fun x16' =>
        Cn Try.prog 12 #[.pointer x1, .int .i64 1, .int .i64 1] N13' fun v17' N17' =>
         tyS (asU 2 v17') fun cs18' =>
         tyS (asI .i64 (cs18'.getD 0 undef)) fun x19' =>
         tyS (asI .i64 (cs18'.getD 1 undef)) fun x20' =>
         Cn Try.prog 10 #[.pointer x1, .agg #[.int .i64 0, .int .i64 0, .int .i64 0, .int .i64 0], .int .i64 9] N17' fun v21' N21' =>
          tyS (asU 3 v21') fun cs22' =>
          tyS (asA 4 (cs22'.getD 0 undef)) fun cs23' =>
          tyS (asI .i64 (cs23'.getD 0 undef)) fun x24' =>
          tyS (asI .i64 (cs23'.getD 1 undef)) fun x25' =>
          tyS (asI .i64 (cs23'.getD 2 undef)) fun x26' =>
          tyS (asI .i64 (cs23'.getD 3 undef)) fun x27' =>
          tyS (asI .i64 (cs22'.getD 1 undef)) fun x28' =>
          tyS (asI .i64 (cs22'.getD 2 undef)) fun x29' =>
          stP (some 4) #[.int .i64 x24', .int .i64 x25', .int .i64 x26', .int .i64 x27'] (N21'.new (.cells #[.int .i64 0, .int .i64 0, .int .i64 0, .int .i64 0] 25)) (2 * N21'.nb.size) 0 fun M30' =>
          ldP tyZpN0 M30' (2 * N1'.nb.size) 0 fun vs31' =>
          puS (binV Try.prog .neq 27 27 (.agg vs31'.toArray) (.agg #[.int .i64 0, .int .i64 0, .int .i64 0, .int .i64 0, .bool false, .bool false, .int .i64 0, .int .i64 0, .int .i64 0, .int .i64 0, .int .i64 0, .int .i64 0, .int .i64 0, .bool false, .int .i64 0, .int .i64 0, .int .i64 0, .int .i64 0, .int .i64 0, .int .i64 0, .int .i64 0, .int .i64 0, .bool false])) fun v32' =>
          tyS (asB v32') fun b33' =>
          cnd b33' (
           A6_2 x1 x2 x11' x12' x15' x16' x19' x20' (some ⟨2 * N21'.nb.size, 0, none⟩) x28' x29' true M30' Q) (
           A6_2 x1 x2 x11' x12' x15' x16' x19' x20' (some ⟨2 * N21'.nb.size, 0, none⟩) x28' x29' b5' M30' Q)) (
     Cn Try.prog 22 #[] (M.new (.cells #[.int .i64 0, .int .i64 0, .int .i64 60, .int .i64 64, .int .i64 32, .int .i64 0, .int .i64 8, .int .i64 8, .int .i64 192, .int .i64 0, .int .i64 72, .int .i64 8, .int .i64 0, .int .i64 0, .int .i64 0, .int .i64 0, .int .i64 (-64), .int .i64 0, .int .i64 64, .int .i64 64, .int .i64 0, .int .i64 256, .int .i64 8, .int .i64 8, .int .i64 0, .int .i64 0, .int .i64 264, .int .i64 8, .int .i64 192, .int .i64 192, .int .i64 64, .int .i64 64] 35)) fun v34' N34' =>
      tyS (asU 2 v34') fun cs35' =>
      tyS (asA 23 (cs35'.getD 0 undef)) fun cs36' =>
      asCellsP tyZpN0 0 cs36' fun vs37' =>
      tyS (asA 23 (cs35'.getD 1 undef)) fun cs38' =>
      asCellsP tyZpN0 0 cs38' fun vs39' =>
      tyS (asA 23 (.agg vs37'.toArray)) fun cs40' =>
      asCellsP tyZpN0 0 cs40' fun vs41' =>
      tyS (asA 23 (.agg vs39'.toArray)) fun cs42' =>
      asCellsP tyZpN0 0 cs42' fun vs43' =>
      stP (some 23) vs41'.toArray ((N34'.new (.cells #[.int .i64 0, .int .i64 0, .int .i64 0, .int .i64 0, .bool false, .bool false, .int .i64 0, .int .i64 0, .int .i64 0, .int .i64 0, .int .i64 0, .int .i64 0, .int .i64 0, .bool false, .int .i64 0, .int .i64 0, .int .i64 0, .int .i64 0, .int .i64 0, .int .i64 0, .int .i64 0, .int .i64 0, .bool false] 27)).new (.cells #[.int .i64 0, .int .i64 0, .int .i64 0, .int .i64 0, .bool false, .bool false, .int .i64 0, .int .i64 0, .int .i64 0, .int .i64 0, .int .i64 0, .int .i64 0, .int .i64 0, .bool false, .int .i64 0, .int .i64 0, .int .i64 0, .int .i64 0, .int .i64 0, .int .i64 0, .int .i64 0, .int .i64 0, .bool false] 27)) (2 * N34'.nb.size) 0 fun M44' =>
      stP (some 23) vs43'.toArray M44' (2 * (N34'.new (.cells #[.int .i64 0, .int .i64 0, .int .i64 0, .int .i64 0, .bool false, .bool false, .int .i64 0, .int .i64 0, .int .i64 0, .int .i64 0, .int .i64 0, .int .i64 0, .int .i64 0, .bool false, .int .i64 0, .int .i64 0, .int .i64 0, .int .i64 0, .int .i64 0, .int .i64 0, .int .i64 0, .int .i64 0, .bool false] 27)).nb.size) 0 fun M45' =>
      A6_3 (some ⟨2 * M.nb.size, 0, none⟩) 8 8 (some ⟨2 * N34'.nb.size, 0, none⟩) (some ⟨2 * (N34'.new (.cells #[.int .i64 0, .int .i64 0, .int .i64 0, .int .i64 0, .bool false, .bool false, .int .i64 0, .int .i64 0, .int .i64 0, .int .i64 0, .int .i64 0, .int .i64 0, .int .i64 0, .bool false, .int .i64 0, .int .i64 0, .int .i64 0, .int .i64 0, .int .i64 0, .int .i64 0, .int .i64 0, .int .i64 0, .bool false] 27)).nb.size, 0, none⟩) (some ⟨2 * M45'.nb.size, 0, none⟩) 11 11 0 (M45'.new (.cells #[.int .i64 0, .int .i64 16, .int .i64 16, .int .i64 0, .int .i64 0, .int .i64 16, .int .i64 16, .int .i64 16, .int .i64 64, .int .i64 0, .int .i64 0, .int .i64 32, .int .i64 32, .int .i64 8, .int .i64 0, .int .i64 0, .int .i64 16, .int .i64 32, .int .i64 72, .int .i64 0, .int .i64 24, .int .i64 0, .int .i64 0, .int .i64 8, .int .i64 1, .int .i64 16, .int .i64 8, .int .i64 0, .int .i64 8, .int .i64 1, .int .i64 24, .int .i64 0, .int .i64 0, .int .i64 8, .int .i64 3, .int .i64 4, .int .i64 0, .int .i64 0, .int .i64 8, .int .i64 0, .int .i64 (-8), .int .i64 (-8), .int .i64 16, .int .i64 8, .int .i64 0, .int .i64 64, .int .i64 0, .int .i64 64, .int .i64 8, .int .i64 0, .int .i64 (-16), .int .i64 0, .int .i64 16, .int .i64 8, .int .i64 0] 56)) Q)) :
    A6_1 x1 x2 M Q :=
  LvP.mk (cuts := K6) (sp := Z6) 900 H fun G => by kernel_rfl

theorem w6_2 {x1 : Option Addr} {x2 x5 x6 x7 x8 x9 x10 : Int} {x11 : Option Addr} {x12 x13 : Int} {x57 : Bool} {M : Mem} {Q : Value → Mem → Prop} (H :
    cnd x57 (
     A6_4 x1 x2 x6 x7 x8 x9 x10 x11 x12 x13 true M Q) (
     A6_4 x1 x2 x6 x7 x8 x9 x10 x11 x12 x13 (x5 != 0) M Q)) :
    A6_2 x1 x2 x5 x6 x7 x8 x9 x10 x11 x12 x13 x57 M Q :=
  LvP.mk (cuts := K6) (sp := Z6) 900 H fun G => by kernel_rfl

theorem w6_3 {Ax14 : Option Addr} {lx14 cx14 : Nat} {x15 x16 Ax17 : Option Addr} {lx17 cx17 : Nat} {x18 : Int} {M : Mem} {Q : Value → Mem → Prop} (H :
    cnd (decide (x18 < ((lx14 : Int)))) (
     ixS (idxA Ax14 lx14 4 x18) fun a46' =>
     onS (M.intAt .i64 a46'.block a46'.off) fun x47' =>
     onS (M.intAt .i64 a46'.block (a46'.off + 1)) fun x48' =>
     onS (M.intAt .i64 a46'.block (a46'.off + 2)) fun x49' =>
     onS (M.intAt .i64 a46'.block (a46'.off + 3)) fun x50' =>
     adS x15 fun a51' =>
     onS (M.intAt .i64 a51'.block a51'.off) fun x52' =>
     onS (M.intAt .i64 a51'.block (a51'.off + 1)) fun x53' =>
     onS (M.intAt .i64 a51'.block (a51'.off + 2)) fun x54' =>
     onS (M.intAt .i64 a51'.block (a51'.off + 3)) fun x55' =>
     onS (M.boolAt a51'.block (a51'.off + 4)) fun b56' =>
     onS (M.boolAt a51'.block (a51'.off + 5)) fun b57' =>
     onS (M.intAt .i64 a51'.block (a51'.off + 6)) fun x58' =>
     onS (M.intAt .i64 a51'.block (a51'.off + 7)) fun x59' =>
     onS (M.intAt .i64 a51'.block (a51'.off + 8)) fun x60' =>
     onS (M.intAt .i64 a51'.block (a51'.off + 9)) fun x61' =>
     onS (M.intAt .i64 a51'.block (a51'.off + 10)) fun x62' =>
     onS (M.intAt .i64 a51'.block (a51'.off + 11)) fun x63' =>
     onS (M.intAt .i64 a51'.block (a51'.off + 12)) fun x64' =>
     onS (M.boolAt a51'.block (a51'.off + 13)) fun b65' =>
     onS (M.intAt .i64 a51'.block (a51'.off + 14)) fun x66' =>
     onS (M.intAt .i64 a51'.block (a51'.off + 15)) fun x67' =>
     onS (M.intAt .i64 a51'.block (a51'.off + 16)) fun x68' =>
     onS (M.intAt .i64 a51'.block (a51'.off + 17)) fun x69' =>
     onS (M.intAt .i64 a51'.block (a51'.off + 18)) fun x70' =>
     onS (M.intAt .i64 a51'.block (a51'.off + 19)) fun x71' =>
     onS (M.intAt .i64 a51'.block (a51'.off + 20)) fun x72' =>
     onS (M.intAt .i64 a51'.block (a51'.off + 21)) fun x73' =>
     onS (M.boolAt a51'.block (a51'.off + 22)) fun b74' =>
     adS x16 fun a75' =>
     onS (M.intAt .i64 a75'.block a75'.off) fun x76' =>
     onS (M.intAt .i64 a75'.block (a75'.off + 1)) fun x77' =>
     onS (M.intAt .i64 a75'.block (a75'.off + 2)) fun x78' =>
     onS (M.intAt .i64 a75'.block (a75'.off + 3)) fun x79' =>
     onS (M.boolAt a75'.block (a75'.off + 4)) fun b80' =>
     onS (M.boolAt a75'.block (a75'.off + 5)) fun b81' =>
     onS (M.intAt .i64 a75'.block (a75'.off + 6)) fun x82' =>
     onS (M.intAt .i64 a75'.block (a75'.off + 7)) fun x83' =>
     onS (M.intAt .i64 a75'.block (a75'.off + 8)) fun x84' =>
     onS (M.intAt .i64 a75'.block (a75'.off + 9)) fun x85' =>
     onS (M.intAt .i64 a75'.block (a75'.off + 10)) fun x86' =>
     onS (M.intAt .i64 a75'.block (a75'.off + 11)) fun x87' =>
     onS (M.intAt .i64 a75'.block (a75'.off + 12)) fun x88' =>
     onS (M.boolAt a75'.block (a75'.off + 13)) fun b89' =>
     onS (M.intAt .i64 a75'.block (a75'.off + 14)) fun x90' =>
     onS (M.intAt .i64 a75'.block (a75'.off + 15)) fun x91' =>
     onS (M.intAt .i64 a75'.block (a75'.off + 16)) fun x92' =>
     onS (M.intAt .i64 a75'.block (a75'.off + 17)) fun x93' =>
     onS (M.intAt .i64 a75'.block (a75'.off + 18)) fun x94' =>
     onS (M.intAt .i64 a75'.block (a75'.off + 19)) fun x95' =>
     onS (M.intAt .i64 a75'.block (a75'.off + 20)) fun x96' =>
     onS (M.intAt .i64 a75'.block (a75'.off + 21)) fun x97' =>
     onS (M.boolAt a75'.block (a75'.off + 22)) fun b98' =>
     adS x15 fun a99' =>
     onS (M.intAt .i64 a99'.block a99'.off) fun x100' =>
     onS (M.intAt .i64 a99'.block (a99'.off + 1)) fun x101' =>
     onS (M.intAt .i64 a99'.block (a99'.off + 2)) fun x102' =>
     onS (M.intAt .i64 a99'.block (a99'.off + 3)) fun x103' =>
     onS (M.boolAt a99'.block (a99'.off + 4)) fun b104' =>
     onS (M.boolAt a99'.block (a99'.off + 5)) fun b105' =>
     onS (M.intAt .i64 a99'.block (a99'.off + 6)) fun x106' =>
     onS (M.intAt .i64 a99'.block (a99'.off + 7)) fun x107' =>
     onS (M.intAt .i64 a99'.block (a99'.off + 8)) fun x108' =>
     onS (M.intAt .i64 a99'.block (a99'.off + 9)) fun x109' =>
     onS (M.intAt .i64 a99'.block (a99'.off + 10)) fun x110' =>
     onS (M.intAt .i64 a99'.block (a99'.off + 11)) fun x111' =>
     onS (M.intAt .i64 a99'.block (a99'.off + 12)) fun x112' =>
     onS (M.boolAt a99'.block (a99'.off + 13)) fun b113' =>
     onS (M.intAt .i64 a99'.block (a99'.off + 14)) fun x114' =>
     onS (M.intAt .i64 a99'.block (a99'.off + 15)) fun x115' =>
     onS (M.intAt .i64 a99'.block (a99'.off + 16)) fun x116' =>
     onS (M.intAt .i64 a99'.block (a99'.off + 17)) fun x117' =>
     onS (M.intAt .i64 a99'.block (a99'.off + 18)) fun x118' =>
     onS (M.intAt .i64 a99'.block (a99'.off + 19)) fun x119' =>
     onS (M.intAt .i64 a99'.block (a99'.off + 20)) fun x120' =>
     onS (M.intAt .i64 a99'.block (a99'.off + 21)) fun x121' =>
     onS (M.boolAt a99'.block (a99'.off + 22)) fun b122' =>
     Cn Try.prog 5 #[.agg #[.int .i64 x47', .int .i64 x48', .int .i64 x49', .int .i64 x50'], .slice (some ⟨2 * M.nb.size, 0, none⟩) 3 3, .slice Ax17 lx17 cx17] (M.new (.cells #[.int .i64 x52', .int .i64 x53', .int .i64 x54', .int .i64 x55', .bool b56', .bool b57', .int .i64 x58', .int .i64 x59', .int .i64 x60', .int .i64 x61', .int .i64 x62', .int .i64 x63', .int .i64 x64', .bool b65', .int .i64 x66', .int .i64 x67', .int .i64 x68', .int .i64 x69', .int .i64 x70', .int .i64 x71', .int .i64 x72', .int .i64 x73', .bool b74', .int .i64 x76', .int .i64 x77', .int .i64 x78', .int .i64 x79', .bool b80', .bool b81', .int .i64 x82', .int .i64 x83', .int .i64 x84', .int .i64 x85', .int .i64 x86', .int .i64 x87', .int .i64 x88', .bool b89', .int .i64 x90', .int .i64 x91', .int .i64 x92', .int .i64 x93', .int .i64 x94', .int .i64 x95', .int .i64 x96', .int .i64 x97', .bool b98', .int .i64 x100', .int .i64 x101', .int .i64 x102', .int .i64 x103', .bool b104', .bool b105', .int .i64 x106', .int .i64 x107', .int .i64 x108', .int .i64 x109', .int .i64 x110', .int .i64 x111', .int .i64 x112', .bool b113', .int .i64 x114', .int .i64 x115', .int .i64 x116', .int .i64 x117', .int .i64 x118', .int .i64 x119', .int .i64 x120', .int .i64 x121', .bool b122'] 27)) fun v123' N123' =>
      tyS (asB v123') fun b124' =>
      cnd (!b124') (
       Q (.bool false) N123') (
       A6_3 Ax14 lx14 cx14 x15 x16 Ax17 lx17 cx17 (IntKind.i64.wrap (x18 + 1)) N123' Q)) (
     adS x15 fun a125' =>
     onS (M.intAt .i64 a125'.block a125'.off) fun x126' =>
     onS (M.intAt .i64 a125'.block (a125'.off + 1)) fun x127' =>
     onS (M.intAt .i64 a125'.block (a125'.off + 2)) fun x128' =>
     onS (M.intAt .i64 a125'.block (a125'.off + 3)) fun x129' =>
     onS (M.boolAt a125'.block (a125'.off + 4)) fun b130' =>
     onS (M.boolAt a125'.block (a125'.off + 5)) fun b131' =>
     onS (M.intAt .i64 a125'.block (a125'.off + 6)) fun x132' =>
     onS (M.intAt .i64 a125'.block (a125'.off + 7)) fun x133' =>
     onS (M.intAt .i64 a125'.block (a125'.off + 8)) fun x134' =>
     onS (M.intAt .i64 a125'.block (a125'.off + 9)) fun x135' =>
     onS (M.intAt .i64 a125'.block (a125'.off + 10)) fun x136' =>
     onS (M.intAt .i64 a125'.block (a125'.off + 11)) fun x137' =>
     onS (M.intAt .i64 a125'.block (a125'.off + 12)) fun x138' =>
     onS (M.boolAt a125'.block (a125'.off + 13)) fun b139' =>
     onS (M.intAt .i64 a125'.block (a125'.off + 14)) fun x140' =>
     onS (M.intAt .i64 a125'.block (a125'.off + 15)) fun x141' =>
     onS (M.intAt .i64 a125'.block (a125'.off + 16)) fun x142' =>
     onS (M.intAt .i64 a125'.block (a125'.off + 17)) fun x143' =>
     onS (M.intAt .i64 a125'.block (a125'.off + 18)) fun x144' =>
     onS (M.intAt .i64 a125'.block (a125'.off + 19)) fun x145' =>
     onS (M.intAt .i64 a125'.block (a125'.off + 20)) fun x146' =>
     onS (M.intAt .i64 a125'.block (a125'.off + 21)) fun x147' =>
     onS (M.boolAt a125'.block (a125'.off + 22)) fun b148' =>
     adS x16 fun a149' =>
     onS (M.intAt .i64 a149'.block a149'.off) fun x150' =>
     onS (M.intAt .i64 a149'.block (a149'.off + 1)) fun x151' =>
     onS (M.intAt .i64 a149'.block (a149'.off + 2)) fun x152' =>
     onS (M.intAt .i64 a149'.block (a149'.off + 3)) fun x153' =>
     onS (M.boolAt a149'.block (a149'.off + 4)) fun b154' =>
     onS (M.boolAt a149'.block (a149'.off + 5)) fun b155' =>
     onS (M.intAt .i64 a149'.block (a149'.off + 6)) fun x156' =>
     onS (M.intAt .i64 a149'.block (a149'.off + 7)) fun x157' =>
     onS (M.intAt .i64 a149'.block (a149'.off + 8)) fun x158' =>
     onS (M.intAt .i64 a149'.block (a149'.off + 9)) fun x159' =>
     onS (M.intAt .i64 a149'.block (a149'.off + 10)) fun x160' =>
     onS (M.intAt .i64 a149'.block (a149'.off + 11)) fun x161' =>
     onS (M.intAt .i64 a149'.block (a149'.off + 12)) fun x162' =>
     onS (M.boolAt a149'.block (a149'.off + 13)) fun b163' =>
     onS (M.intAt .i64 a149'.block (a149'.off + 14)) fun x164' =>
     onS (M.intAt .i64 a149'.block (a149'.off + 15)) fun x165' =>
     onS (M.intAt .i64 a149'.block (a149'.off + 16)) fun x166' =>
     onS (M.intAt .i64 a149'.block (a149'.off + 17)) fun x167' =>
     onS (M.intAt .i64 a149'.block (a149'.off + 18)) fun x168' =>
     onS (M.intAt .i64 a149'.block (a149'.off + 19)) fun x169' =>
     onS (M.intAt .i64 a149'.block (a149'.off + 20)) fun x170' =>
     onS (M.intAt .i64 a149'.block (a149'.off + 21)) fun x171' =>
     onS (M.boolAt a149'.block (a149'.off + 22)) fun b172' =>
     adS x15 fun a173' =>
     onS (M.intAt .i64 a173'.block a173'.off) fun x174' =>
     onS (M.intAt .i64 a173'.block (a173'.off + 1)) fun x175' =>
     onS (M.intAt .i64 a173'.block (a173'.off + 2)) fun x176' =>
     onS (M.intAt .i64 a173'.block (a173'.off + 3)) fun x177' =>
     onS (M.boolAt a173'.block (a173'.off + 4)) fun b178' =>
     onS (M.boolAt a173'.block (a173'.off + 5)) fun b179' =>
     onS (M.intAt .i64 a173'.block (a173'.off + 6)) fun x180' =>
     onS (M.intAt .i64 a173'.block (a173'.off + 7)) fun x181' =>
     onS (M.intAt .i64 a173'.block (a173'.off + 8)) fun x182' =>
     onS (M.intAt .i64 a173'.block (a173'.off + 9)) fun x183' =>
     onS (M.intAt .i64 a173'.block (a173'.off + 10)) fun x184' =>
     onS (M.intAt .i64 a173'.block (a173'.off + 11)) fun x185' =>
     onS (M.intAt .i64 a173'.block (a173'.off + 12)) fun x186' =>
     onS (M.boolAt a173'.block (a173'.off + 13)) fun b187' =>
     onS (M.intAt .i64 a173'.block (a173'.off + 14)) fun x188' =>
     onS (M.intAt .i64 a173'.block (a173'.off + 15)) fun x189' =>
     onS (M.intAt .i64 a173'.block (a173'.off + 16)) fun x190' =>
     onS (M.intAt .i64 a173'.block (a173'.off + 17)) fun x191' =>
     onS (M.intAt .i64 a173'.block (a173'.off + 18)) fun x192' =>
     onS (M.intAt .i64 a173'.block (a173'.off + 19)) fun x193' =>
     onS (M.intAt .i64 a173'.block (a173'.off + 20)) fun x194' =>
     onS (M.intAt .i64 a173'.block (a173'.off + 21)) fun x195' =>
     onS (M.boolAt a173'.block (a173'.off + 22)) fun b196' =>
     Cn Try.prog 7 #[] (M.new (.cells #[.int .i64 x126', .int .i64 x127', .int .i64 x128', .int .i64 x129', .bool b130', .bool b131', .int .i64 x132', .int .i64 x133', .int .i64 x134', .int .i64 x135', .int .i64 x136', .int .i64 x137', .int .i64 x138', .bool b139', .int .i64 x140', .int .i64 x141', .int .i64 x142', .int .i64 x143', .int .i64 x144', .int .i64 x145', .int .i64 x146', .int .i64 x147', .bool b148', .int .i64 x150', .int .i64 x151', .int .i64 x152', .int .i64 x153', .bool b154', .bool b155', .int .i64 x156', .int .i64 x157', .int .i64 x158', .int .i64 x159', .int .i64 x160', .int .i64 x161', .int .i64 x162', .bool b163', .int .i64 x164', .int .i64 x165', .int .i64 x166', .int .i64 x167', .int .i64 x168', .int .i64 x169', .int .i64 x170', .int .i64 x171', .bool b172', .int .i64 x174', .int .i64 x175', .int .i64 x176', .int .i64 x177', .bool b178', .bool b179', .int .i64 x180', .int .i64 x181', .int .i64 x182', .int .i64 x183', .int .i64 x184', .int .i64 x185', .int .i64 x186', .bool b187', .int .i64 x188', .int .i64 x189', .int .i64 x190', .int .i64 x191', .int .i64 x192', .int .i64 x193', .int .i64 x194', .int .i64 x195', .bool b196', .int .i64 60, .int .i64 0, .int .i64 8, .int .i64 8, .bool false, .bool false, .int .i64 0, .int .i64 0, .int .i64 0, .int .i64 0, .int .i64 0, .int .i64 0, .int .i64 0, .bool false, .int .i64 0, .int .i64 0, .int .i64 0, .int .i64 0, .int .i64 0, .int .i64 0, .int .i64 0, .int .i64 0, .bool false, .int .i64 56, .int .i64 0, .int .i64 16, .int .i64 8, .bool false, .bool false, .int .i64 0, .int .i64 0, .int .i64 0, .int .i64 0, .int .i64 0, .int .i64 0, .int .i64 0, .bool false, .int .i64 0, .int .i64 0, .int .i64 0, .int .i64 0, .int .i64 0, .int .i64 0, .int .i64 0, .int .i64 0, .bool false, .int .i64 0, .int .i64 32, .int .i64 24, .int .i64 8, .bool false, .bool false, .int .i64 0, .int .i64 0, .int .i64 0, .int .i64 0, .int .i64 0, .int .i64 0, .int .i64 0, .bool false, .int .i64 0, .int .i64 0, .int .i64 0, .int .i64 0, .int .i64 0, .int .i64 0, .int .i64 0, .int .i64 0, .bool false, .int .i64 (-8), .int .i64 0, .int .i64 8, .int .i64 8, .bool false, .bool false, .int .i64 0, .int .i64 0, .int .i64 0, .int .i64 0, .int .i64 0, .int .i64 0, .int .i64 0, .bool false, .int .i64 0, .int .i64 0, .int .i64 0, .int .i64 0, .int .i64 0, .int .i64 0, .int .i64 0, .int .i64 0, .bool false, .int .i64 4, .int .i64 40, .int .i64 8, .int .i64 8, .bool false, .bool false, .int .i64 0, .int .i64 0, .int .i64 0, .int .i64 0, .int .i64 0, .int .i64 0, .int .i64 0, .bool false, .int .i64 0, .int .i64 0, .int .i64 0, .int .i64 0, .int .i64 0, .int .i64 0, .int .i64 0, .int .i64 0, .bool false, .int .i64 0, .int .i64 56, .int .i64 64, .int .i64 8, .bool false, .bool false, .int .i64 0, .int .i64 0, .int .i64 0, .int .i64 0, .int .i64 0, .int .i64 0, .int .i64 0, .bool false, .int .i64 0, .int .i64 0, .int .i64 0, .int .i64 0, .int .i64 0, .int .i64 0, .int .i64 0, .int .i64 0, .bool false, .int .i64 4611686018427387904, .int .i64 0, .int .i64 8, .int .i64 8, .bool false, .bool false, .int .i64 0, .int .i64 0, .int .i64 0, .int .i64 0, .int .i64 0, .int .i64 0, .int .i64 0, .bool false, .int .i64 0, .int .i64 0, .int .i64 0, .int .i64 0, .int .i64 0, .int .i64 0, .int .i64 0, .int .i64 0, .bool false] 27)) fun v197' N197' =>
      tyS (asB v197') fun b198' =>
      cnd b198' (
       Cn Try.prog 5 #[.agg #[.int .i64 0, .int .i64 0, .int .i64 64, .int .i64 64], .slice (some ⟨2 * M.nb.size, 0, none⟩) 10 10, .slice Ax17 lx17 cx17] N197' fun v199' N199' =>
        tyS (asB v199') fun b200' =>
        A6_5 Ax17 lx17 cx17 (some ⟨2 * M.nb.size, 0, none⟩) 10 10 b200' N199' Q) (
       A6_5 Ax17 lx17 cx17 (some ⟨2 * M.nb.size, 0, none⟩) 10 10 false N197' Q))) :
    A6_3 Ax14 lx14 cx14 x15 x16 Ax17 lx17 cx17 x18 M Q :=
  LvP.mk (cuts := K6) (sp := Z6) 900 H fun G => by kernel_rfl

theorem w6_4 {x1 : Option Addr} {x2 x6 x7 x8 x9 x10 : Int} {x11 : Option Addr} {x12 x13 : Int} {x61 : Bool} {M : Mem} {Q : Value → Mem → Prop} (H :
    cnd x61 (
     A6_6 x1 x2 x6 x8 x9 x10 x11 x12 x13 true M Q) (
     A6_6 x1 x2 x6 x8 x9 x10 x11 x12 x13 (x7 != 0) M Q)) :
    A6_4 x1 x2 x6 x7 x8 x9 x10 x11 x12 x13 x61 M Q :=
  LvP.mk (cuts := K6) (sp := Z6) 900 H fun G => by kernel_rfl

theorem w6_5 {Ax17 : Option Addr} {lx17 cx17 : Nat} {Ax19 : Option Addr} {lx19 cx19 : Nat} {x170 : Bool} {M : Mem} {Q : Value → Mem → Prop} (H :
    cnd x170 (
     Cn Try.prog 5 #[.agg #[.int .i64 64, .int .i64 64, .int .i64 64, .int .i64 64], .slice Ax19 lx19 cx19, .slice Ax17 lx17 cx17] M fun v201' N201' =>
      tyS (asB v201') fun b202' =>
      Q (.bool b202') N201') (
     Q (.bool false) M)) :
    A6_5 Ax17 lx17 cx17 Ax19 lx19 cx19 x170 M Q :=
  LvP.mk (cuts := K6) (sp := Z6) 900 H fun G => by kernel_rfl

theorem w6_6 {x1 : Option Addr} {x2 x6 x8 x9 x10 : Int} {x11 : Option Addr} {x12 x13 : Int} {x65 : Bool} {M : Mem} {Q : Value → Mem → Prop} (H :
    cnd x65 (
     A6_7 x1 x2 x6 x8 x10 x11 x12 x13 true M Q) (
     A6_7 x1 x2 x6 x8 x10 x11 x12 x13 (x9 != 0) M Q)) :
    A6_6 x1 x2 x6 x8 x9 x10 x11 x12 x13 x65 M Q :=
  LvP.mk (cuts := K6) (sp := Z6) 900 H fun G => by kernel_rfl

theorem w6_7 {x1 : Option Addr} {x2 x6 x8 x10 : Int} {x11 : Option Addr} {x12 x13 : Int} {x69 : Bool} {M : Mem} {Q : Value → Mem → Prop} (H :
    cnd x69 (
     A6_8 x1 x2 x6 x8 x10 x11 x13 true M Q) (
     A6_8 x1 x2 x6 x8 x10 x11 x13 (x12 != 0) M Q)) :
    A6_7 x1 x2 x6 x8 x10 x11 x12 x13 x69 M Q :=
  LvP.mk (cuts := K6) (sp := Z6) 900 H fun G => by kernel_rfl

theorem w6_8 {x1 : Option Addr} {x2 x6 x8 x10 : Int} {x11 : Option Addr} {x13 : Int} {x73 : Bool} {M : Mem} {Q : Value → Mem → Prop} (H :
    cnd x73 (
     A6_9 x1 x2 x6 x8 x10 x13 true M Q) (
     adS x11 fun a203' =>
     onS (M.intAt .i64 a203'.block a203'.off) fun x204' =>
     onS (M.intAt .i64 a203'.block (a203'.off + 1)) fun x205' =>
     onS (M.intAt .i64 a203'.block (a203'.off + 2)) fun x206' =>
     onS (M.intAt .i64 a203'.block (a203'.off + 3)) fun x207' =>
     puS (binV Try.prog .neq 25 25 (.agg #[.int .i64 x204', .int .i64 x205', .int .i64 x206', .int .i64 x207']) (.agg #[.int .i64 0, .int .i64 0, .int .i64 0, .int .i64 0])) fun v208' =>
     tyS (asB v208') fun b209' =>
     A6_9 x1 x2 x6 x8 x10 x13 b209' M Q)) :
    A6_8 x1 x2 x6 x8 x10 x11 x13 x73 M Q :=
  LvP.mk (cuts := K6) (sp := Z6) 900 H fun G => by kernel_rfl

theorem w6_9 {x1 : Option Addr} {x2 x6 x8 x10 x13 : Int} {x78 : Bool} {M : Mem} {Q : Value → Mem → Prop} (H :
    cnd x78 (
     A6_10 x1 x2 x8 x10 x13 true M Q) (
     A6_10 x1 x2 x8 x10 x13 (x6 != 1) M Q)) :
    A6_9 x1 x2 x6 x8 x10 x13 x78 M Q :=
  LvP.mk (cuts := K6) (sp := Z6) 900 H fun G => by kernel_rfl

theorem w6_10 {x1 : Option Addr} {x2 x8 x10 x13 : Int} {x82 : Bool} {M : Mem} {Q : Value → Mem → Prop} (H :
    cnd x82 (
     A6_11 x1 x2 x10 x13 true M Q) (
     A6_11 x1 x2 x10 x13 (x8 != 1) M Q)) :
    A6_10 x1 x2 x8 x10 x13 x82 M Q :=
  LvP.mk (cuts := K6) (sp := Z6) 900 H fun G => by kernel_rfl

theorem w6_11 {x1 : Option Addr} {x2 x10 x13 : Int} {x86 : Bool} {M : Mem} {Q : Value → Mem → Prop} (H :
    cnd x86 (
     A6_12 x1 x2 x13 true M Q) (
     A6_12 x1 x2 x13 (x10 != 1) M Q)) :
    A6_11 x1 x2 x10 x13 x86 M Q :=
  LvP.mk (cuts := K6) (sp := Z6) 900 H fun G => by kernel_rfl

theorem w6_12 {x1 : Option Addr} {x2 x13 : Int} {x90 : Bool} {M : Mem} {Q : Value → Mem → Prop} (H :
    cnd x90 (
     A6_13 x1 x2 true M Q) (
     A6_13 x1 x2 (x13 != 1) M Q)) :
    A6_12 x1 x2 x13 x90 M Q :=
  LvP.mk (cuts := K6) (sp := Z6) 900 H fun G => by kernel_rfl

theorem w6_13 {x1 : Option Addr} {x2 : Int} {x94 : Bool} {M : Mem} {Q : Value → Mem → Prop} (H :
    cnd x94 (
     A6_14 x1 x2 true M Q) (
     Cn Try.prog 9 #[.pointer x1, .agg #[.int .i64 0, .int .i64 0, .int .i64 0, .int .i64 0, .bool false, .bool false, .int .i64 0, .int .i64 0, .int .i64 0, .int .i64 0, .int .i64 0, .int .i64 0, .int .i64 0, .bool false, .int .i64 0, .int .i64 0, .int .i64 0, .int .i64 0, .int .i64 0, .int .i64 0, .int .i64 0, .int .i64 0, .bool false]] M fun v210' N210' =>
      tyS (asI .i64 v210') fun x211' =>
      A6_14 x1 x2 (x211' != 1) N210' Q)) :
    A6_13 x1 x2 x94 M Q :=
  LvP.mk (cuts := K6) (sp := Z6) 900 H fun G => by kernel_rfl

theorem w6_14 {x1 : Option Addr} {x2 : Int} {x100 : Bool} {M : Mem} {Q : Value → Mem → Prop} (H :
    cnd x100 (
     A6_15 x2 true M Q) (
     Cn Try.prog 15 #[.pointer x1] M fun v212' N212' =>
      tyS (asS v212') fun s213' =>
      A6_15 x2 (((s213'.2.1 : Int)) != 0) N212' Q)) :
    A6_14 x1 x2 x100 M Q :=
  LvP.mk (cuts := K6) (sp := Z6) 900 H fun G => by kernel_rfl

theorem w6_15 {x2 : Int} {x105 : Bool} {M : Mem} {Q : Value → Mem → Prop} (H :
    cnd x105 (
     Q (.bool false) M) (
     A6_1 (some ⟨2 * M.nb.size, 0, none⟩) (IntKind.i64.wrap (x2 + 1)) (M.new (.cells #[.bool false, .int .i64 0, .int .i64 0, .int .i64 0, .int .i64 0, .slice none 0 0, .map none] 63)) Q)) :
    A6_15 x2 x105 M Q :=
  LvP.mk (cuts := K6) (sp := Z6) 900 H fun G => by kernel_rfl


end Go.Zt
