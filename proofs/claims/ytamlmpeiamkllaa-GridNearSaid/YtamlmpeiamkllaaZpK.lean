/- The functions' walks: for each function and each loop a rule of what it comes to. Printed by zw2.py. -/
import Derived.Test.YtamlmpeiamkllaaProg
import Derived.Test.YtamlmpeiamkllaaZpA
import Derived.Test.YtamlmpeiamkllaaZrT
set_option linter.unusedVariables false
set_option maxRecDepth 100000
namespace Go.Zt
open Go Go.Sim Go.Proofs

def tyZpK0 : List Sc := [.int .i64, .int .i64, .int .i64, .int .i64, .bool, .bool, .int .i64, .int .i64, .int .i64, .int .i64, .int .i64, .int .i64, .int .i64, .bool, .int .i64, .int .i64, .int .i64, .int .i64, .int .i64, .int .i64, .int .i64, .int .i64, .bool]
/-! ### zoetrope/zoetropelaw17.GridNear: function 3 -/
def K3 : List (List It × List Nat) := [([.code [1,1,1,1,0,1], .code [1,1,1,1,1]], [2, 3, 4, 7, 9, 56]), ([.code [1,1,1,1,1,1,1,1,0,1,0,0], .lp [1,1,1,1,1,1,1,1,0,1,0,0], .blk 0, .code [1,1,1,1,1,1,1,1,1]], [2, 3, 4, 7, 9, 11, 12, 13, 14, 15]), ([.code [1,1,1,1,1,1,1,1,0,1,0,0,1,0,0,1,1,1,1,1,0,1], .code [1,1,1,1,1,1,1,1,0,1,0,0,1,0,0,1,1,1,1,1,1], .blk 1, .code [1,1,1,1,1,1,1,1,0,1,0,0,1,1], .lp [1,1,1,1,1,1,1,1,0,1,0,0], .blk 0, .code [1,1,1,1,1,1,1,1,1]], [2, 3, 4, 7, 9, 11, 12, 13, 14, 15, 16, 85]), ([.code [1,1,1,1,1,1,1,1,1,1,1,1,1,0,1], .code [1,1,1,1,1,1,1,1,1,1,1,1,1,1]], [3, 7, 9, 13, 14, 112]), ([.code [1,1,1,1,1,1,1,1,0,1,0,0,1,0,0,1,1,1,1,1,1,0,1], .code [1,1,1,1,1,1,1,1,0,1,0,0,1,0,0,1,1,1,1,1,1,1], .blk 1, .code [1,1,1,1,1,1,1,1,0,1,0,0,1,1], .lp [1,1,1,1,1,1,1,1,0,1,0,0], .blk 0, .code [1,1,1,1,1,1,1,1,1]], [2, 3, 4, 7, 9, 11, 12, 13, 14, 15, 16, 91]), ([.code [1,1,1,1,1,1,1,1,1,1,1,1,1,1,0,1,0,0], .lp [1,1,1,1,1,1,1,1,1,1,1,1,1,1,0,1,0,0], .blk 2, .code [1,1,1,1,1,1,1,1,1,1,1,1,1,1,1]], [3, 7, 9, 13, 14, 17]), ([.code [1,1,1,1,1,1,1,1,0,1,0,0,1,0,0,1,1,1,1,1,1,1,1], .blk 1, .code [1,1,1,1,1,1,1,1,0,1,0,0,1,1], .lp [1,1,1,1,1,1,1,1,0,1,0,0], .blk 0, .code [1,1,1,1,1,1,1,1,1]], [2, 3, 4, 7, 9, 11, 12, 13, 14, 15, 99]), ([.code [1,1,1,1,1,1,1,1,1,1,1,1,1,1,0,1,0,0,1,0,0,1,1,0,1,0,0], .lp [1,1,1,1,1,1,1,1,1,1,1,1,1,1,0,1,0,0,1,0,0,1,1,0,1,0,0], .blk 4, .code [1,1,1,1,1,1,1,1,1,1,1,1,1,1,0,1,0,0,1,0,0,1,1,1], .blk 3, .code [1,1,1,1,1,1,1,1,1,1,1,1,1,1,0,1,0,0,1,1], .lp [1,1,1,1,1,1,1,1,1,1,1,1,1,1,0,1,0,0], .blk 2, .code [1,1,1,1,1,1,1,1,1,1,1,1,1,1,1]], [3, 7, 9, 13, 14, 17, 18, 19, 20]), ([.rg [1,1,1,1,1,1,1,1,1,1,1,1,1,1,1,1,1,1,1,0] 9, .code [1,1,1,1,1,1,1,1,1,1,1,1,1,1,1,1,1,1,1,1]], [8, 10, 14, 35, 36, 37, 38, 290]), ([.code [1,1,1,1,1,1,1,1,0,1,0,0,1,1], .lp [1,1,1,1,1,1,1,1,0,1,0,0], .blk 0, .code [1,1,1,1,1,1,1,1,1]], [2, 3, 4, 7, 9, 11, 12, 13, 14, 15]), ([.code [1,1,1,1,1,1,1,1,1,1,1,1,1,1,0,1,0,0,1,0,0,1,1,0,1,0,0,1,0,0,1,1,1,1], .blk 5, .code [1,1,1,1,1,1,1,1,1,1,1,1,1,1,0,1,0,0,1,0,0,1,1,0,1,0,0,1,1], .lp [1,1,1,1,1,1,1,1,1,1,1,1,1,1,0,1,0,0,1,0,0,1,1,0,1,0,0], .blk 4, .code [1,1,1,1,1,1,1,1,1,1,1,1,1,1,0,1,0,0,1,0,0,1,1,1], .blk 3, .code [1,1,1,1,1,1,1,1,1,1,1,1,1,1,0,1,0,0,1,1], .lp [1,1,1,1,1,1,1,1,1,1,1,1,1,1,0,1,0,0], .blk 2, .code [1,1,1,1,1,1,1,1,1,1,1,1,1,1,1]], [3, 7, 9, 13, 14, 17, 18, 19, 20, 22, 23]), ([.code [1,1,1,1,1,1,1,1,1,1,1,1,1,1,0,1,0,0,1,0,0,1,1,1,0,1,1], .code [1,1,1,1,1,1,1,1,1,1,1,1,1,1,0,1,0,0,1,0,0,1,1,1,1], .blk 3, .code [1,1,1,1,1,1,1,1,1,1,1,1,1,1,0,1,0,0,1,1], .lp [1,1,1,1,1,1,1,1,1,1,1,1,1,1,0,1,0,0], .blk 2, .code [1,1,1,1,1,1,1,1,1,1,1,1,1,1,1]], [3, 7, 9, 13, 14, 17, 190]), ([.rg [1,1,1,1,1,1,1,1,1,1,1,1,1,1,1,1,1,1,1,0] 14, .code [1,1,1,1,1,1,1,1,1,1,1,1,1,1,1,1,1,1,1,1]], [8, 10, 14, 36, 37, 38, 295]), ([.code [1,1,1,1,1,1,1,1,1,1,1,1,1,1,0,1,0,0,1,0,0,1,1,0,1,0,0,1,0,0,1,1,1,1,1], .blk 5, .code [1,1,1,1,1,1,1,1,1,1,1,1,1,1,0,1,0,0,1,0,0,1,1,0,1,0,0,1,1], .lp [1,1,1,1,1,1,1,1,1,1,1,1,1,1,0,1,0,0,1,0,0,1,1,0,1,0,0], .blk 4, .code [1,1,1,1,1,1,1,1,1,1,1,1,1,1,0,1,0,0,1,0,0,1,1,1], .blk 3, .code [1,1,1,1,1,1,1,1,1,1,1,1,1,1,0,1,0,0,1,1], .lp [1,1,1,1,1,1,1,1,1,1,1,1,1,1,0,1,0,0], .blk 2, .code [1,1,1,1,1,1,1,1,1,1,1,1,1,1,1]], [3, 7, 9, 13, 14, 17, 18, 19, 20, 22, 169]), ([.rg [1,1,1,1,1,1,1,1,1,1,1,1,1,1,0,1,0,0,1,0,0,1,1,1,1,1,1,0] 9, .code [1,1,1,1,1,1,1,1,1,1,1,1,1,1,0,1,0,0,1,0,0,1,1,1,1,1,1,1], .blk 3, .code [1,1,1,1,1,1,1,1,1,1,1,1,1,1,0,1,0,0,1,1], .lp [1,1,1,1,1,1,1,1,1,1,1,1,1,1,0,1,0,0], .blk 2, .code [1,1,1,1,1,1,1,1,1,1,1,1,1,1,1]], [3, 7, 9, 13, 14, 17, 27, 28, 29, 32, 215]), ([.rg [1,1,1,1,1,1,1,1,1,1,1,1,1,1,1,1,1,1,1,0] 19, .code [1,1,1,1,1,1,1,1,1,1,1,1,1,1,1,1,1,1,1,1]], [8, 10, 36, 38, 300]), ([.code [1,1,1,1,1,1,1,1,1,1,1,1,1,1,0,1,0,0,1,0,0,1,1,0,1,0,0,1,1], .lp [1,1,1,1,1,1,1,1,1,1,1,1,1,1,0,1,0,0,1,0,0,1,1,0,1,0,0], .blk 4, .code [1,1,1,1,1,1,1,1,1,1,1,1,1,1,0,1,0,0,1,0,0,1,1,1], .blk 3, .code [1,1,1,1,1,1,1,1,1,1,1,1,1,1,0,1,0,0,1,1], .lp [1,1,1,1,1,1,1,1,1,1,1,1,1,1,0,1,0,0], .blk 2, .code [1,1,1,1,1,1,1,1,1,1,1,1,1,1,1]], [3, 7, 9, 13, 14, 17, 18, 19, 20]), ([.rg [1,1,1,1,1,1,1,1,1,1,1,1,1,1,0,1,0,0,1,0,0,1,1,1,1,1,1,0] 13, .code [1,1,1,1,1,1,1,1,1,1,1,1,1,1,0,1,0,0,1,0,0,1,1,1,1,1,1,1], .blk 3, .code [1,1,1,1,1,1,1,1,1,1,1,1,1,1,0,1,0,0,1,1], .lp [1,1,1,1,1,1,1,1,1,1,1,1,1,1,0,1,0,0], .blk 2, .code [1,1,1,1,1,1,1,1,1,1,1,1,1,1,1]], [3, 7, 9, 13, 14, 17, 27, 28, 32, 219]), ([.rg [1,1,1,1,1,1,1,1,1,1,1,1,1,1,1,1,1,1,1,0] 23, .code [1,1,1,1,1,1,1,1,1,1,1,1,1,1,1,1,1,1,1,1]], [10, 36, 38, 304]), ([.rg [1,1,1,1,1,1,1,1,1,1,1,1,1,1,0,1,0,0,1,0,0,1,1,1,1,1,1,0] 17, .code [1,1,1,1,1,1,1,1,1,1,1,1,1,1,0,1,0,0,1,0,0,1,1,1,1,1,1,1], .blk 3, .code [1,1,1,1,1,1,1,1,1,1,1,1,1,1,0,1,0,0,1,1], .lp [1,1,1,1,1,1,1,1,1,1,1,1,1,1,0,1,0,0], .blk 2, .code [1,1,1,1,1,1,1,1,1,1,1,1,1,1,1]], [3, 7, 9, 13, 14, 17, 27, 28, 223]), ([.rg [1,1,1,1,1,1,1,1,1,1,1,1,1,1,1,1,1,1,1,0] 27, .code [1,1,1,1,1,1,1,1,1,1,1,1,1,1,1,1,1,1,1,1]], [36, 38, 308]), ([.rg [1,1,1,1,1,1,1,1,1,1,1,1,1,1,0,1,0,0,1,0,0,1,1,1,1,1,1,0] 21, .code [1,1,1,1,1,1,1,1,1,1,1,1,1,1,0,1,0,0,1,0,0,1,1,1,1,1,1,1], .blk 3, .code [1,1,1,1,1,1,1,1,1,1,1,1,1,1,0,1,0,0,1,1], .lp [1,1,1,1,1,1,1,1,1,1,1,1,1,1,0,1,0,0], .blk 2, .code [1,1,1,1,1,1,1,1,1,1,1,1,1,1,1]], [3, 7, 9, 13, 14, 17, 27, 28, 227]), ([.rg [1,1,1,1,1,1,1,1,1,1,1,1,1,1,1,1,1,1,1,0] 31, .code [1,1,1,1,1,1,1,1,1,1,1,1,1,1,1,1,1,1,1,1]], [38, 312]), ([.rg [1,1,1,1,1,1,1,1,1,1,1,1,1,1,0,1,0,0,1,0,0,1,1,1,1,1,1,0] 25, .code [1,1,1,1,1,1,1,1,1,1,1,1,1,1,0,1,0,0,1,0,0,1,1,1,1,1,1,1], .blk 3, .code [1,1,1,1,1,1,1,1,1,1,1,1,1,1,0,1,0,0,1,1], .lp [1,1,1,1,1,1,1,1,1,1,1,1,1,1,0,1,0,0], .blk 2, .code [1,1,1,1,1,1,1,1,1,1,1,1,1,1,1]], [3, 7, 9, 13, 14, 17, 27, 28, 231]), ([.rg [1,1,1,1,1,1,1,1,1,1,1,1,1,1,0,1,0,0,1,0,0,1,1,1,1,1,1,0] 36, .code [1,1,1,1,1,1,1,1,1,1,1,1,1,1,0,1,0,0,1,0,0,1,1,1,1,1,1,1], .blk 3, .code [1,1,1,1,1,1,1,1,1,1,1,1,1,1,0,1,0,0,1,1], .lp [1,1,1,1,1,1,1,1,1,1,1,1,1,1,0,1,0,0], .blk 2, .code [1,1,1,1,1,1,1,1,1,1,1,1,1,1,1]], [3, 7, 9, 13, 14, 17, 27, 28, 242]), ([.rg [1,1,1,1,1,1,1,1,1,1,1,1,1,1,0,1,0,0,1,0,0,1,1,1,1,1,1,0] 46, .code [1,1,1,1,1,1,1,1,1,1,1,1,1,1,0,1,0,0,1,0,0,1,1,1,1,1,1,1], .blk 3, .code [1,1,1,1,1,1,1,1,1,1,1,1,1,1,0,1,0,0,1,1], .lp [1,1,1,1,1,1,1,1,1,1,1,1,1,1,0,1,0,0], .blk 2, .code [1,1,1,1,1,1,1,1,1,1,1,1,1,1,1]], [3, 7, 9, 13, 14, 17, 27, 28, 252]), ([.code [1,1,1,1,1,1,1,1,1,1,1,1,1,1,0,1,0,0,1,0,0,1,1,1,1,1,1,1], .blk 3, .code [1,1,1,1,1,1,1,1,1,1,1,1,1,1,0,1,0,0,1,1], .lp [1,1,1,1,1,1,1,1,1,1,1,1,1,1,0,1,0,0], .blk 2, .code [1,1,1,1,1,1,1,1,1,1,1,1,1,1,1]], [3, 7, 9, 13, 14, 17, 261])]
def Z3 : List (List Nat × List Nat) := [([1,1,1,1,1,1,1,1,1,1,1,1,1,1,0,1,0,0,1,0,0,1,1,1,1,1,1,0], [9, 13, 17, 21, 25, 36, 46, 55]), ([1,1,1,1,1,1,1,1,1,1,1,1,1,1,1,1,1,1,1,0], [9, 14, 19, 23, 27, 31, 35])]
theorem b3 : Try.prog.funcs[3]? = some Try.f3 ∧ (Orc.tab Try.prog).lookup 3 = none ∧ Try.f3.body = some (codeOf Try.f3) := ⟨by kernel_rfl, by kernel_rfl, by kernel_rfl⟩
def A3_1 (x2 : Bool) (x3 x4 x7 x9 : Option Addr) (x56 : Bool) (M : Mem) (Q : Value → Mem → Prop) : Prop := LvP Try.prog Try.f3 [(2, .bool x2), (3, .pointer x3), (4, .pointer x4), (7, .pointer x7), (9, .pointer x9), (56, .bool x56)] [.code [1,1,1,1,0,1], .code [1,1,1,1,1]] M Q
def A3_2 (x2 : Bool) (x3 x4 x7 x9 x11 x12 : Option Addr) (x13 x14 x15 : Int) (M : Mem) (Q : Value → Mem → Prop) : Prop := LvP Try.prog Try.f3 [(2, .bool x2), (3, .pointer x3), (4, .pointer x4), (7, .pointer x7), (9, .pointer x9), (11, .pointer x11), (12, .pointer x12), (13, .int .i64 x13), (14, .int .i64 x14), (15, .int .i64 x15)] [.code [1,1,1,1,1,1,1,1,0,1,0,0], .lp [1,1,1,1,1,1,1,1,0,1,0,0], .blk 0, .code [1,1,1,1,1,1,1,1,1]] M Q
def A3_3 (x2 : Bool) (x3 x4 x7 x9 x11 x12 : Option Addr) (x13 x14 x15 : Int) (x16 : Option Addr) (x85 : Bool) (M : Mem) (Q : Value → Mem → Prop) : Prop := LvP Try.prog Try.f3 [(2, .bool x2), (3, .pointer x3), (4, .pointer x4), (7, .pointer x7), (9, .pointer x9), (11, .pointer x11), (12, .pointer x12), (13, .int .i64 x13), (14, .int .i64 x14), (15, .int .i64 x15), (16, .pointer x16), (85, .bool x85)] [.code [1,1,1,1,1,1,1,1,0,1,0,0,1,0,0,1,1,1,1,1,0,1], .code [1,1,1,1,1,1,1,1,0,1,0,0,1,0,0,1,1,1,1,1,1], .blk 1, .code [1,1,1,1,1,1,1,1,0,1,0,0,1,1], .lp [1,1,1,1,1,1,1,1,0,1,0,0], .blk 0, .code [1,1,1,1,1,1,1,1,1]] M Q
def A3_4 (x3 x7 x9 : Option Addr) (x13 x14 : Int) (x112 : Bool) (M : Mem) (Q : Value → Mem → Prop) : Prop := LvP Try.prog Try.f3 [(3, .pointer x3), (7, .pointer x7), (9, .pointer x9), (13, .int .i64 x13), (14, .int .i64 x14), (112, .bool x112)] [.code [1,1,1,1,1,1,1,1,1,1,1,1,1,0,1], .code [1,1,1,1,1,1,1,1,1,1,1,1,1,1]] M Q
def A3_5 (x2 : Bool) (x3 x4 x7 x9 x11 x12 : Option Addr) (x13 x14 x15 : Int) (x16 : Option Addr) (x91 : Bool) (M : Mem) (Q : Value → Mem → Prop) : Prop := LvP Try.prog Try.f3 [(2, .bool x2), (3, .pointer x3), (4, .pointer x4), (7, .pointer x7), (9, .pointer x9), (11, .pointer x11), (12, .pointer x12), (13, .int .i64 x13), (14, .int .i64 x14), (15, .int .i64 x15), (16, .pointer x16), (91, .bool x91)] [.code [1,1,1,1,1,1,1,1,0,1,0,0,1,0,0,1,1,1,1,1,1,0,1], .code [1,1,1,1,1,1,1,1,0,1,0,0,1,0,0,1,1,1,1,1,1,1], .blk 1, .code [1,1,1,1,1,1,1,1,0,1,0,0,1,1], .lp [1,1,1,1,1,1,1,1,0,1,0,0], .blk 0, .code [1,1,1,1,1,1,1,1,1]] M Q
def A3_6 (x3 x7 x9 : Option Addr) (x13 x14 x17 : Int) (M : Mem) (Q : Value → Mem → Prop) : Prop := LvP Try.prog Try.f3 [(3, .pointer x3), (7, .pointer x7), (9, .pointer x9), (13, .int .i64 x13), (14, .int .i64 x14), (17, .int .i64 x17)] [.code [1,1,1,1,1,1,1,1,1,1,1,1,1,1,0,1,0,0], .lp [1,1,1,1,1,1,1,1,1,1,1,1,1,1,0,1,0,0], .blk 2, .code [1,1,1,1,1,1,1,1,1,1,1,1,1,1,1]] M Q
def A3_7 (x2 : Bool) (x3 x4 x7 x9 x11 x12 : Option Addr) (x13 x14 x15 : Int) (x99 : Bool) (M : Mem) (Q : Value → Mem → Prop) : Prop := LvP Try.prog Try.f3 [(2, .bool x2), (3, .pointer x3), (4, .pointer x4), (7, .pointer x7), (9, .pointer x9), (11, .pointer x11), (12, .pointer x12), (13, .int .i64 x13), (14, .int .i64 x14), (15, .int .i64 x15), (99, .bool x99)] [.code [1,1,1,1,1,1,1,1,0,1,0,0,1,0,0,1,1,1,1,1,1,1,1], .blk 1, .code [1,1,1,1,1,1,1,1,0,1,0,0,1,1], .lp [1,1,1,1,1,1,1,1,0,1,0,0], .blk 0, .code [1,1,1,1,1,1,1,1,1]] M Q
def A3_8 (x3 x7 x9 : Option Addr) (x13 x14 x17 : Int) (x18 : Option Addr) (x19 x20 : Int) (M : Mem) (Q : Value → Mem → Prop) : Prop := LvP Try.prog Try.f3 [(3, .pointer x3), (7, .pointer x7), (9, .pointer x9), (13, .int .i64 x13), (14, .int .i64 x14), (17, .int .i64 x17), (18, .pointer x18), (19, .int .i64 x19), (20, .int .i64 x20)] [.code [1,1,1,1,1,1,1,1,1,1,1,1,1,1,0,1,0,0,1,0,0,1,1,0,1,0,0], .lp [1,1,1,1,1,1,1,1,1,1,1,1,1,1,0,1,0,0,1,0,0,1,1,0,1,0,0], .blk 4, .code [1,1,1,1,1,1,1,1,1,1,1,1,1,1,0,1,0,0,1,0,0,1,1,1], .blk 3, .code [1,1,1,1,1,1,1,1,1,1,1,1,1,1,0,1,0,0,1,1], .lp [1,1,1,1,1,1,1,1,1,1,1,1,1,1,0,1,0,0], .blk 2, .code [1,1,1,1,1,1,1,1,1,1,1,1,1,1,1]] M Q
def A3_9 (x8 x10 x14 x35 x36 x37 x38 : Int) (x290 : Bool) (M : Mem) (Q : Value → Mem → Prop) : Prop := LvP Try.prog Try.f3 [(8, .int .i64 x8), (10, .int .i64 x10), (14, .int .i64 x14), (35, .int .i64 x35), (36, .int .i64 x36), (37, .int .i64 x37), (38, .int .i64 x38), (290, .bool x290)] [.rg [1,1,1,1,1,1,1,1,1,1,1,1,1,1,1,1,1,1,1,0] 9, .code [1,1,1,1,1,1,1,1,1,1,1,1,1,1,1,1,1,1,1,1]] M Q
def A3_10 (x2 : Bool) (x3 x4 x7 x9 x11 x12 : Option Addr) (x13 x14 x15 : Int) (M : Mem) (Q : Value → Mem → Prop) : Prop := LvP Try.prog Try.f3 [(2, .bool x2), (3, .pointer x3), (4, .pointer x4), (7, .pointer x7), (9, .pointer x9), (11, .pointer x11), (12, .pointer x12), (13, .int .i64 x13), (14, .int .i64 x14), (15, .int .i64 x15)] [.code [1,1,1,1,1,1,1,1,0,1,0,0,1,1], .lp [1,1,1,1,1,1,1,1,0,1,0,0], .blk 0, .code [1,1,1,1,1,1,1,1,1]] M Q
def A3_11 (x3 x7 x9 : Option Addr) (x13 x14 x17 : Int) (x18 : Option Addr) (x19 x20 : Int) (x22 : Option Addr) (x23 : Bool) (M : Mem) (Q : Value → Mem → Prop) : Prop := LvP Try.prog Try.f3 [(3, .pointer x3), (7, .pointer x7), (9, .pointer x9), (13, .int .i64 x13), (14, .int .i64 x14), (17, .int .i64 x17), (18, .pointer x18), (19, .int .i64 x19), (20, .int .i64 x20), (22, .pointer x22), (23, .bool x23)] [.code [1,1,1,1,1,1,1,1,1,1,1,1,1,1,0,1,0,0,1,0,0,1,1,0,1,0,0,1,0,0,1,1,1,1], .blk 5, .code [1,1,1,1,1,1,1,1,1,1,1,1,1,1,0,1,0,0,1,0,0,1,1,0,1,0,0,1,1], .lp [1,1,1,1,1,1,1,1,1,1,1,1,1,1,0,1,0,0,1,0,0,1,1,0,1,0,0], .blk 4, .code [1,1,1,1,1,1,1,1,1,1,1,1,1,1,0,1,0,0,1,0,0,1,1,1], .blk 3, .code [1,1,1,1,1,1,1,1,1,1,1,1,1,1,0,1,0,0,1,1], .lp [1,1,1,1,1,1,1,1,1,1,1,1,1,1,0,1,0,0], .blk 2, .code [1,1,1,1,1,1,1,1,1,1,1,1,1,1,1]] M Q
def A3_12 (x3 x7 x9 : Option Addr) (x13 x14 x17 : Int) (x190 : Bool) (M : Mem) (Q : Value → Mem → Prop) : Prop := LvP Try.prog Try.f3 [(3, .pointer x3), (7, .pointer x7), (9, .pointer x9), (13, .int .i64 x13), (14, .int .i64 x14), (17, .int .i64 x17), (190, .bool x190)] [.code [1,1,1,1,1,1,1,1,1,1,1,1,1,1,0,1,0,0,1,0,0,1,1,1,0,1,1], .code [1,1,1,1,1,1,1,1,1,1,1,1,1,1,0,1,0,0,1,0,0,1,1,1,1], .blk 3, .code [1,1,1,1,1,1,1,1,1,1,1,1,1,1,0,1,0,0,1,1], .lp [1,1,1,1,1,1,1,1,1,1,1,1,1,1,0,1,0,0], .blk 2, .code [1,1,1,1,1,1,1,1,1,1,1,1,1,1,1]] M Q
def A3_13 (x8 x10 x14 x36 x37 x38 : Int) (x295 : Bool) (M : Mem) (Q : Value → Mem → Prop) : Prop := LvP Try.prog Try.f3 [(8, .int .i64 x8), (10, .int .i64 x10), (14, .int .i64 x14), (36, .int .i64 x36), (37, .int .i64 x37), (38, .int .i64 x38), (295, .bool x295)] [.rg [1,1,1,1,1,1,1,1,1,1,1,1,1,1,1,1,1,1,1,0] 14, .code [1,1,1,1,1,1,1,1,1,1,1,1,1,1,1,1,1,1,1,1]] M Q
def A3_14 (x3 x7 x9 : Option Addr) (x13 x14 x17 : Int) (x18 : Option Addr) (x19 x20 : Int) (x22 : Option Addr) (x169 : Bool) (M : Mem) (Q : Value → Mem → Prop) : Prop := LvP Try.prog Try.f3 [(3, .pointer x3), (7, .pointer x7), (9, .pointer x9), (13, .int .i64 x13), (14, .int .i64 x14), (17, .int .i64 x17), (18, .pointer x18), (19, .int .i64 x19), (20, .int .i64 x20), (22, .pointer x22), (169, .bool x169)] [.code [1,1,1,1,1,1,1,1,1,1,1,1,1,1,0,1,0,0,1,0,0,1,1,0,1,0,0,1,0,0,1,1,1,1,1], .blk 5, .code [1,1,1,1,1,1,1,1,1,1,1,1,1,1,0,1,0,0,1,0,0,1,1,0,1,0,0,1,1], .lp [1,1,1,1,1,1,1,1,1,1,1,1,1,1,0,1,0,0,1,0,0,1,1,0,1,0,0], .blk 4, .code [1,1,1,1,1,1,1,1,1,1,1,1,1,1,0,1,0,0,1,0,0,1,1,1], .blk 3, .code [1,1,1,1,1,1,1,1,1,1,1,1,1,1,0,1,0,0,1,1], .lp [1,1,1,1,1,1,1,1,1,1,1,1,1,1,0,1,0,0], .blk 2, .code [1,1,1,1,1,1,1,1,1,1,1,1,1,1,1]] M Q
def A3_15 (x3 x7 x9 : Option Addr) (x13 x14 x17 : Int) (x27 : Option Addr) (x28 x29 x32 : Int) (x215 : Bool) (M : Mem) (Q : Value → Mem → Prop) : Prop := LvP Try.prog Try.f3 [(3, .pointer x3), (7, .pointer x7), (9, .pointer x9), (13, .int .i64 x13), (14, .int .i64 x14), (17, .int .i64 x17), (27, .pointer x27), (28, .int .i64 x28), (29, .int .i64 x29), (32, .int .i64 x32), (215, .bool x215)] [.rg [1,1,1,1,1,1,1,1,1,1,1,1,1,1,0,1,0,0,1,0,0,1,1,1,1,1,1,0] 9, .code [1,1,1,1,1,1,1,1,1,1,1,1,1,1,0,1,0,0,1,0,0,1,1,1,1,1,1,1], .blk 3, .code [1,1,1,1,1,1,1,1,1,1,1,1,1,1,0,1,0,0,1,1], .lp [1,1,1,1,1,1,1,1,1,1,1,1,1,1,0,1,0,0], .blk 2, .code [1,1,1,1,1,1,1,1,1,1,1,1,1,1,1]] M Q
def A3_16 (x8 x10 x36 x38 : Int) (x300 : Bool) (M : Mem) (Q : Value → Mem → Prop) : Prop := LvP Try.prog Try.f3 [(8, .int .i64 x8), (10, .int .i64 x10), (36, .int .i64 x36), (38, .int .i64 x38), (300, .bool x300)] [.rg [1,1,1,1,1,1,1,1,1,1,1,1,1,1,1,1,1,1,1,0] 19, .code [1,1,1,1,1,1,1,1,1,1,1,1,1,1,1,1,1,1,1,1]] M Q
def A3_17 (x3 x7 x9 : Option Addr) (x13 x14 x17 : Int) (x18 : Option Addr) (x19 x20 : Int) (M : Mem) (Q : Value → Mem → Prop) : Prop := LvP Try.prog Try.f3 [(3, .pointer x3), (7, .pointer x7), (9, .pointer x9), (13, .int .i64 x13), (14, .int .i64 x14), (17, .int .i64 x17), (18, .pointer x18), (19, .int .i64 x19), (20, .int .i64 x20)] [.code [1,1,1,1,1,1,1,1,1,1,1,1,1,1,0,1,0,0,1,0,0,1,1,0,1,0,0,1,1], .lp [1,1,1,1,1,1,1,1,1,1,1,1,1,1,0,1,0,0,1,0,0,1,1,0,1,0,0], .blk 4, .code [1,1,1,1,1,1,1,1,1,1,1,1,1,1,0,1,0,0,1,0,0,1,1,1], .blk 3, .code [1,1,1,1,1,1,1,1,1,1,1,1,1,1,0,1,0,0,1,1], .lp [1,1,1,1,1,1,1,1,1,1,1,1,1,1,0,1,0,0], .blk 2, .code [1,1,1,1,1,1,1,1,1,1,1,1,1,1,1]] M Q
def A3_18 (x3 x7 x9 : Option Addr) (x13 x14 x17 : Int) (x27 : Option Addr) (x28 x32 : Int) (x219 : Bool) (M : Mem) (Q : Value → Mem → Prop) : Prop := LvP Try.prog Try.f3 [(3, .pointer x3), (7, .pointer x7), (9, .pointer x9), (13, .int .i64 x13), (14, .int .i64 x14), (17, .int .i64 x17), (27, .pointer x27), (28, .int .i64 x28), (32, .int .i64 x32), (219, .bool x219)] [.rg [1,1,1,1,1,1,1,1,1,1,1,1,1,1,0,1,0,0,1,0,0,1,1,1,1,1,1,0] 13, .code [1,1,1,1,1,1,1,1,1,1,1,1,1,1,0,1,0,0,1,0,0,1,1,1,1,1,1,1], .blk 3, .code [1,1,1,1,1,1,1,1,1,1,1,1,1,1,0,1,0,0,1,1], .lp [1,1,1,1,1,1,1,1,1,1,1,1,1,1,0,1,0,0], .blk 2, .code [1,1,1,1,1,1,1,1,1,1,1,1,1,1,1]] M Q
def A3_19 (x10 x36 x38 : Int) (x304 : Bool) (M : Mem) (Q : Value → Mem → Prop) : Prop := LvP Try.prog Try.f3 [(10, .int .i64 x10), (36, .int .i64 x36), (38, .int .i64 x38), (304, .bool x304)] [.rg [1,1,1,1,1,1,1,1,1,1,1,1,1,1,1,1,1,1,1,0] 23, .code [1,1,1,1,1,1,1,1,1,1,1,1,1,1,1,1,1,1,1,1]] M Q
def A3_20 (x3 x7 x9 : Option Addr) (x13 x14 x17 : Int) (x27 : Option Addr) (x28 : Int) (x223 : Bool) (M : Mem) (Q : Value → Mem → Prop) : Prop := LvP Try.prog Try.f3 [(3, .pointer x3), (7, .pointer x7), (9, .pointer x9), (13, .int .i64 x13), (14, .int .i64 x14), (17, .int .i64 x17), (27, .pointer x27), (28, .int .i64 x28), (223, .bool x223)] [.rg [1,1,1,1,1,1,1,1,1,1,1,1,1,1,0,1,0,0,1,0,0,1,1,1,1,1,1,0] 17, .code [1,1,1,1,1,1,1,1,1,1,1,1,1,1,0,1,0,0,1,0,0,1,1,1,1,1,1,1], .blk 3, .code [1,1,1,1,1,1,1,1,1,1,1,1,1,1,0,1,0,0,1,1], .lp [1,1,1,1,1,1,1,1,1,1,1,1,1,1,0,1,0,0], .blk 2, .code [1,1,1,1,1,1,1,1,1,1,1,1,1,1,1]] M Q
def A3_21 (x36 x38 : Int) (x308 : Bool) (M : Mem) (Q : Value → Mem → Prop) : Prop := LvP Try.prog Try.f3 [(36, .int .i64 x36), (38, .int .i64 x38), (308, .bool x308)] [.rg [1,1,1,1,1,1,1,1,1,1,1,1,1,1,1,1,1,1,1,0] 27, .code [1,1,1,1,1,1,1,1,1,1,1,1,1,1,1,1,1,1,1,1]] M Q
def A3_22 (x3 x7 x9 : Option Addr) (x13 x14 x17 : Int) (x27 : Option Addr) (x28 : Int) (x227 : Bool) (M : Mem) (Q : Value → Mem → Prop) : Prop := LvP Try.prog Try.f3 [(3, .pointer x3), (7, .pointer x7), (9, .pointer x9), (13, .int .i64 x13), (14, .int .i64 x14), (17, .int .i64 x17), (27, .pointer x27), (28, .int .i64 x28), (227, .bool x227)] [.rg [1,1,1,1,1,1,1,1,1,1,1,1,1,1,0,1,0,0,1,0,0,1,1,1,1,1,1,0] 21, .code [1,1,1,1,1,1,1,1,1,1,1,1,1,1,0,1,0,0,1,0,0,1,1,1,1,1,1,1], .blk 3, .code [1,1,1,1,1,1,1,1,1,1,1,1,1,1,0,1,0,0,1,1], .lp [1,1,1,1,1,1,1,1,1,1,1,1,1,1,0,1,0,0], .blk 2, .code [1,1,1,1,1,1,1,1,1,1,1,1,1,1,1]] M Q
def A3_23 (x38 : Int) (x312 : Bool) (M : Mem) (Q : Value → Mem → Prop) : Prop := LvP Try.prog Try.f3 [(38, .int .i64 x38), (312, .bool x312)] [.rg [1,1,1,1,1,1,1,1,1,1,1,1,1,1,1,1,1,1,1,0] 31, .code [1,1,1,1,1,1,1,1,1,1,1,1,1,1,1,1,1,1,1,1]] M Q
def A3_24 (x3 x7 x9 : Option Addr) (x13 x14 x17 : Int) (x27 : Option Addr) (x28 : Int) (x231 : Bool) (M : Mem) (Q : Value → Mem → Prop) : Prop := LvP Try.prog Try.f3 [(3, .pointer x3), (7, .pointer x7), (9, .pointer x9), (13, .int .i64 x13), (14, .int .i64 x14), (17, .int .i64 x17), (27, .pointer x27), (28, .int .i64 x28), (231, .bool x231)] [.rg [1,1,1,1,1,1,1,1,1,1,1,1,1,1,0,1,0,0,1,0,0,1,1,1,1,1,1,0] 25, .code [1,1,1,1,1,1,1,1,1,1,1,1,1,1,0,1,0,0,1,0,0,1,1,1,1,1,1,1], .blk 3, .code [1,1,1,1,1,1,1,1,1,1,1,1,1,1,0,1,0,0,1,1], .lp [1,1,1,1,1,1,1,1,1,1,1,1,1,1,0,1,0,0], .blk 2, .code [1,1,1,1,1,1,1,1,1,1,1,1,1,1,1]] M Q
def A3_25 (x3 x7 x9 : Option Addr) (x13 x14 x17 : Int) (x27 : Option Addr) (x28 : Int) (x242 : Bool) (M : Mem) (Q : Value → Mem → Prop) : Prop := LvP Try.prog Try.f3 [(3, .pointer x3), (7, .pointer x7), (9, .pointer x9), (13, .int .i64 x13), (14, .int .i64 x14), (17, .int .i64 x17), (27, .pointer x27), (28, .int .i64 x28), (242, .bool x242)] [.rg [1,1,1,1,1,1,1,1,1,1,1,1,1,1,0,1,0,0,1,0,0,1,1,1,1,1,1,0] 36, .code [1,1,1,1,1,1,1,1,1,1,1,1,1,1,0,1,0,0,1,0,0,1,1,1,1,1,1,1], .blk 3, .code [1,1,1,1,1,1,1,1,1,1,1,1,1,1,0,1,0,0,1,1], .lp [1,1,1,1,1,1,1,1,1,1,1,1,1,1,0,1,0,0], .blk 2, .code [1,1,1,1,1,1,1,1,1,1,1,1,1,1,1]] M Q
def A3_26 (x3 x7 x9 : Option Addr) (x13 x14 x17 : Int) (x27 : Option Addr) (x28 : Int) (x252 : Bool) (M : Mem) (Q : Value → Mem → Prop) : Prop := LvP Try.prog Try.f3 [(3, .pointer x3), (7, .pointer x7), (9, .pointer x9), (13, .int .i64 x13), (14, .int .i64 x14), (17, .int .i64 x17), (27, .pointer x27), (28, .int .i64 x28), (252, .bool x252)] [.rg [1,1,1,1,1,1,1,1,1,1,1,1,1,1,0,1,0,0,1,0,0,1,1,1,1,1,1,0] 46, .code [1,1,1,1,1,1,1,1,1,1,1,1,1,1,0,1,0,0,1,0,0,1,1,1,1,1,1,1], .blk 3, .code [1,1,1,1,1,1,1,1,1,1,1,1,1,1,0,1,0,0,1,1], .lp [1,1,1,1,1,1,1,1,1,1,1,1,1,1,0,1,0,0], .blk 2, .code [1,1,1,1,1,1,1,1,1,1,1,1,1,1,1]] M Q
def A3_27 (x3 x7 x9 : Option Addr) (x13 x14 x17 : Int) (x261 : Bool) (M : Mem) (Q : Value → Mem → Prop) : Prop := LvP Try.prog Try.f3 [(3, .pointer x3), (7, .pointer x7), (9, .pointer x9), (13, .int .i64 x13), (14, .int .i64 x14), (17, .int .i64 x17), (261, .bool x261)] [.code [1,1,1,1,1,1,1,1,1,1,1,1,1,1,0,1,0,0,1,0,0,1,1,1,1,1,1,1], .blk 3, .code [1,1,1,1,1,1,1,1,1,1,1,1,1,1,0,1,0,0,1,1], .lp [1,1,1,1,1,1,1,1,1,1,1,1,1,1,0,1,0,0], .blk 2, .code [1,1,1,1,1,1,1,1,1,1,1,1,1,1,1]] M Q
theorem w3_0 {x0 x1 : Array Value} {x2 : Bool} {M : Mem} {Q : Value → Mem → Prop} (H :
    Cn Try.prog 7 #[] ((M.new (.cells x0 28)).new (.cells x1 27)) fun v1' N1' =>
     tyS (asB v1') fun b2' =>
     cnd (!b2') (
      Q (.bool false) N1') (
      Cn Try.prog 8 #[.agg #[.int .i64 0, .int .i64 0, .int .i64 64, .int .i64 64]] N1' fun v3' N3' =>
       tyS (asU 2 v3') fun cs4' =>
       tyS (asP (cs4'.getD 0 undef)) fun p5' =>
       tyS (asI .i64 (cs4'.getD 1 undef)) fun x6' =>
       Cn Try.prog 8 #[.agg #[.int .i64 0, .int .i64 0, .int .i64 64, .int .i64 64]] N3' fun v7' N7' =>
        tyS (asU 2 v7') fun cs8' =>
        tyS (asP (cs8'.getD 0 undef)) fun p9' =>
        tyS (asI .i64 (cs8'.getD 1 undef)) fun x10' =>
        cnd (x6' != 0) (
         A3_1 x2 (some ⟨2 * M.nb.size, 0, none⟩) (some ⟨2 * (M.new (.cells x0 28)).nb.size, 0, none⟩) p5' p9' true N7' Q) (
         A3_1 x2 (some ⟨2 * M.nb.size, 0, none⟩) (some ⟨2 * (M.new (.cells x0 28)).nb.size, 0, none⟩) p5' p9' (x10' != 0) N7' Q))) :
    Cn Try.prog 3 #[.agg x0, .agg x1, .bool x2] M Q :=
  Cn.mk (cuts := K3) (sp := Z3) 900 b3 rfl rfl H fun G => by kernel_rfl

theorem w3_1 {x2 : Bool} {x3 x4 x7 x9 : Option Addr} {x56 : Bool} {M : Mem} {Q : Value → Mem → Prop} (H :
    cnd x56 (
     Q (.bool false) M) (
     stP (some 4) #[.int .i64 16, .int .i64 24, .int .i64 32, .int .i64 16] (M.new (.cells #[.int .i64 0, .int .i64 0, .int .i64 0, .int .i64 0] 36)) (2 * M.nb.size) 0 fun M11' =>
     stP (some 4) #[.int .i64 24, .int .i64 16, .int .i64 16, .int .i64 16] (M11'.new (.cells #[.int .i64 0, .int .i64 0, .int .i64 0, .int .i64 0] 36)) (2 * M11'.nb.size) 0 fun M12' =>
     A3_2 x2 x3 x4 x7 x9 (some ⟨2 * M.nb.size, 0, none⟩) (some ⟨2 * M11'.nb.size, 0, none⟩) 0 0 0 M12' Q)) :
    A3_1 x2 x3 x4 x7 x9 x56 M Q :=
  LvP.mk (cuts := K3) (sp := Z3) 900 H fun G => by kernel_rfl

theorem w3_2 {x2 : Bool} {x3 x4 x7 x9 x11 x12 : Option Addr} {x13 x14 x15 : Int} {M : Mem} {Q : Value → Mem → Prop} (H :
    cnd (decide (x15 < 4)) (
     ixS (idxA x3 4 23 x15) fun a13' =>
     ldP tyZpK0 M a13'.block a13'.off fun vs14' =>
     stP (some 23) vs14'.toArray (M.new (.cells #[.int .i64 0, .int .i64 0, .int .i64 0, .int .i64 0, .bool false, .bool false, .int .i64 0, .int .i64 0, .int .i64 0, .int .i64 0, .int .i64 0, .int .i64 0, .int .i64 0, .bool false, .int .i64 0, .int .i64 0, .int .i64 0, .int .i64 0, .int .i64 0, .int .i64 0, .int .i64 0, .int .i64 0, .bool false] 27)) (2 * M.nb.size) 0 fun M15' =>
     ixS (idxA x11 4 1 x15) fun a16' =>
     onS (M15'.intAt .i64 a16'.block a16'.off) fun x17' =>
     ptS (M15'.put (2 * M.nb.size) 0 (.int .i64 x17')) fun M18' =>
     ixS (idxA x12 4 1 x15) fun a19' =>
     onS (M18'.intAt .i64 a19'.block a19'.off) fun x20' =>
     ptS (M18'.put (2 * M.nb.size) (0 + 1) (.int .i64 x20')) fun M21' =>
     ptS (M21'.put (2 * M.nb.size) (0 + 2) (.int .i64 8)) fun M22' =>
     ptS (M22'.put (2 * M.nb.size) (0 + 3) (.int .i64 8)) fun M23' =>
     ldP tyZpK0 M23' (2 * M.nb.size) 0 fun vs24' =>
     Cn Try.prog 9 #[.pointer x7, .agg vs24'.toArray] M23' fun v25' N25' =>
      tyS (asI .i64 v25') fun x26' =>
      cnd (x26' != 0) (
       A3_3 x2 x3 x4 x7 x9 x11 x12 x13 x14 x15 (some ⟨2 * M.nb.size, 0, none⟩) true N25' Q) (
       ldP tyZpK0 N25' (2 * M.nb.size) 0 fun vs27' =>
       Cn Try.prog 9 #[.pointer x9, .agg vs27'.toArray] N25' fun v28' N28' =>
        tyS (asI .i64 v28') fun x29' =>
        A3_3 x2 x3 x4 x7 x9 x11 x12 x13 x14 x15 (some ⟨2 * M.nb.size, 0, none⟩) (x29' != 0) N28' Q)) (
     adS x4 fun a30' =>
     ptS (M.put a30'.block a30'.off (.int .i64 48)) fun M31' =>
     adS x4 fun a32' =>
     ptS (M31'.put a32'.block (a32'.off + 1) (.int .i64 40)) fun M33' =>
     adS x4 fun a34' =>
     ptS (M33'.put a34'.block (a34'.off + 2) (.int .i64 8)) fun M35' =>
     adS x4 fun a36' =>
     ptS (M35'.put a36'.block (a36'.off + 3) (.int .i64 8)) fun M37' =>
     cnd x2 (
      adS x4 fun a38' =>
      ldP tyZpK0 M37' a38'.block a38'.off fun vs39' =>
      Cn Try.prog 9 #[.pointer x9, .agg vs39'.toArray] M37' fun v40' N40' =>
       tyS (asI .i64 v40') fun x41' =>
       A3_4 x3 x7 x9 x13 x14 (x41' != 0) N40' Q) (
      A3_4 x3 x7 x9 x13 x14 false M37' Q))) :
    A3_2 x2 x3 x4 x7 x9 x11 x12 x13 x14 x15 M Q :=
  LvP.mk (cuts := K3) (sp := Z3) 900 H fun G => by kernel_rfl

theorem w3_3 {x2 : Bool} {x3 x4 x7 x9 x11 x12 : Option Addr} {x13 x14 x15 : Int} {x16 : Option Addr} {x85 : Bool} {M : Mem} {Q : Value → Mem → Prop} (H :
    cnd x85 (
     Q (.bool false) M) (
     cnd (decide (x15 < 2)) (
      adS x16 fun a42' =>
      onS (M.boolAt a42'.block (a42'.off + 4)) fun b43' =>
      A3_5 x2 x3 x4 x7 x9 x11 x12 x13 x14 x15 x16 b43' M Q) (
      A3_5 x2 x3 x4 x7 x9 x11 x12 x13 x14 x15 x16 false M Q))) :
    A3_3 x2 x3 x4 x7 x9 x11 x12 x13 x14 x15 x16 x85 M Q :=
  LvP.mk (cuts := K3) (sp := Z3) 900 H fun G => by kernel_rfl

theorem w3_4 {x3 x7 x9 : Option Addr} {x13 x14 : Int} {x112 : Bool} {M : Mem} {Q : Value → Mem → Prop} (H :
    cnd x112 (
     Q (.bool false) M) (
     A3_6 x3 x7 x9 x13 x14 0 M Q)) :
    A3_4 x3 x7 x9 x13 x14 x112 M Q :=
  LvP.mk (cuts := K3) (sp := Z3) 900 H fun G => by kernel_rfl

theorem w3_5 {x2 : Bool} {x3 x4 x7 x9 x11 x12 : Option Addr} {x13 x14 x15 : Int} {x16 : Option Addr} {x91 : Bool} {M : Mem} {Q : Value → Mem → Prop} (H :
    cnd x91 (
     cnd (decide (x15 < 2)) (
      adS x16 fun a44' =>
      onS (M.boolAt a44'.block (a44'.off + 5)) fun b45' =>
      A3_7 x2 x3 x4 x7 x9 x11 x12 (IntKind.i64.wrap (x13 + 1)) x14 x15 b45' M Q) (
      A3_7 x2 x3 x4 x7 x9 x11 x12 (IntKind.i64.wrap (x13 + 1)) x14 x15 false M Q)) (
     cnd (decide (x15 < 2)) (
      adS x16 fun a46' =>
      onS (M.boolAt a46'.block (a46'.off + 5)) fun b47' =>
      A3_7 x2 x3 x4 x7 x9 x11 x12 x13 x14 x15 b47' M Q) (
      A3_7 x2 x3 x4 x7 x9 x11 x12 x13 x14 x15 false M Q))) :
    A3_5 x2 x3 x4 x7 x9 x11 x12 x13 x14 x15 x16 x91 M Q :=
  LvP.mk (cuts := K3) (sp := Z3) 900 H fun G => by kernel_rfl

theorem w3_6 {x3 x7 x9 : Option Addr} {x13 x14 x17 : Int} {M : Mem} {Q : Value → Mem → Prop} (H :
    cnd (decide (x17 < 3)) (
     A3_8 x3 x7 x9 x13 x14 x17 (some ⟨2 * M.nb.size, 0, none⟩) 0 0 (M.new (.cells #[.int .i64 0, .int .i64 0, .int .i64 0, .int .i64 0] 25)) Q) (
     Cn Try.prog 11 #[.pointer x7, .int .i64 24, .int .i64 24] M fun v48' N48' =>
      tyS (asU 2 v48') fun cs49' =>
      tyS (asI .i64 (cs49'.getD 0 undef)) fun x50' =>
      tyS (asI .i64 (cs49'.getD 1 undef)) fun x51' =>
      Cn Try.prog 11 #[.pointer x9, .int .i64 24, .int .i64 24] N48' fun v52' N52' =>
       tyS (asU 2 v52') fun cs53' =>
       tyS (asI .i64 (cs53'.getD 0 undef)) fun x54' =>
       tyS (asI .i64 (cs53'.getD 1 undef)) fun x55' =>
       Cn Try.prog 12 #[.pointer x7, .int .i64 24, .int .i64 24] N52' fun v56' N56' =>
        tyS (asU 2 v56') fun cs57' =>
        tyS (asI .i64 (cs57'.getD 0 undef)) fun x58' =>
        tyS (asI .i64 (cs57'.getD 1 undef)) fun x59' =>
        Cn Try.prog 12 #[.pointer x9, .int .i64 24, .int .i64 24] N56' fun v60' N60' =>
         tyS (asU 2 v60') fun cs61' =>
         tyS (asI .i64 (cs61'.getD 0 undef)) fun x62' =>
         tyS (asI .i64 (cs61'.getD 1 undef)) fun x63' =>
         cnd (x50' == x13) (
          A3_9 x51' x55' x14 x58' x59' x62' x63' (x54' == x13) N60' Q) (
          A3_9 x51' x55' x14 x58' x59' x62' x63' false N60' Q))) :
    A3_6 x3 x7 x9 x13 x14 x17 M Q :=
  LvP.mk (cuts := K3) (sp := Z3) 900 H fun G => by kernel_rfl

theorem w3_7 {x2 : Bool} {x3 x4 x7 x9 x11 x12 : Option Addr} {x13 x14 x15 : Int} {x99 : Bool} {M : Mem} {Q : Value → Mem → Prop} (H :
    cnd x99 (
     A3_10 x2 x3 x4 x7 x9 x11 x12 x13 (IntKind.i64.wrap (x14 + 1)) x15 M Q) (
     A3_10 x2 x3 x4 x7 x9 x11 x12 x13 x14 x15 M Q)) :
    A3_7 x2 x3 x4 x7 x9 x11 x12 x13 x14 x15 x99 M Q :=
  LvP.mk (cuts := K3) (sp := Z3) 900 H fun G => by kernel_rfl

theorem w3_8 {x3 x7 x9 : Option Addr} {x13 x14 x17 : Int} {x18 : Option Addr} {x19 x20 : Int} {M : Mem} {Q : Value → Mem → Prop} (H :
    cnd (decide (x20 < 4)) (
     ixS (idxA x3 4 23 x20) fun a64' =>
     ldP tyZpK0 M a64'.block a64'.off fun vs65' =>
     stP (some 23) vs65'.toArray (M.new (.cells #[.int .i64 0, .int .i64 0, .int .i64 0, .int .i64 0, .bool false, .bool false, .int .i64 0, .int .i64 0, .int .i64 0, .int .i64 0, .int .i64 0, .int .i64 0, .int .i64 0, .bool false, .int .i64 0, .int .i64 0, .int .i64 0, .int .i64 0, .int .i64 0, .int .i64 0, .int .i64 0, .int .i64 0, .bool false] 27)) (2 * M.nb.size) 0 fun M66' =>
     ixS (idxA (some ⟨(2 * M.nb.size), 0 + 17, none⟩) 2 2 0) fun a67' =>
     onS (M66'.intAt .i64 a67'.block a67'.off) fun x68' =>
     onS (M66'.intAt .i64 a67'.block (a67'.off + 1)) fun x69' =>
     stP (some 2) #[.int .i64 x68', .int .i64 x69'] (M66'.new (.cells #[.int .i64 0, .int .i64 0] 24)) (2 * M66'.nb.size) 0 fun M70' =>
     ixS (idxA (some ⟨(2 * M.nb.size), 0 + 14, none⟩) 2 1 0) fun a71' =>
     onS (M70'.intAt .i64 a71'.block a71'.off) fun x72' =>
     cnd (x72' != x17) (
      ixS (idxA (some ⟨(2 * M.nb.size), 0 + 17, none⟩) 2 2 1) fun a73' =>
      onS (M70'.intAt .i64 a73'.block a73'.off) fun x74' =>
      onS (M70'.intAt .i64 a73'.block (a73'.off + 1)) fun x75' =>
      stP (some 2) #[.int .i64 x74', .int .i64 x75'] M70' (2 * M66'.nb.size) 0 fun M76' =>
      onS (M76'.boolAt (2 * M.nb.size) (0 + 5)) fun b77' =>
      cnd b77' (
       ixS (idxA (some ⟨(2 * M.nb.size), 0 + 14, none⟩) 2 1 0) fun a78' =>
       onS (M76'.intAt .i64 a78'.block a78'.off) fun x79' =>
       cnd (x79' == x17) (
        A3_11 x3 x7 x9 x13 x14 x17 x18 x19 x20 (some ⟨2 * M66'.nb.size, 0, none⟩) true M76' Q) (
        onS (M76'.boolAt (2 * M.nb.size) (0 + 13)) fun b80' =>
        cnd b80' (
         ixS (idxA (some ⟨(2 * M.nb.size), 0 + 14, none⟩) 2 1 1) fun a81' =>
         onS (M76'.intAt .i64 a81'.block a81'.off) fun x82' =>
         A3_11 x3 x7 x9 x13 x14 x17 x18 x19 x20 (some ⟨2 * M66'.nb.size, 0, none⟩) (x82' == x17) M76' Q) (
         A3_11 x3 x7 x9 x13 x14 x17 x18 x19 x20 (some ⟨2 * M66'.nb.size, 0, none⟩) false M76' Q))) (
       A3_11 x3 x7 x9 x13 x14 x17 x18 x19 x20 (some ⟨2 * M66'.nb.size, 0, none⟩) false M76' Q)) (
      onS (M70'.boolAt (2 * M.nb.size) (0 + 5)) fun b83' =>
      cnd b83' (
       ixS (idxA (some ⟨(2 * M.nb.size), 0 + 14, none⟩) 2 1 0) fun a84' =>
       onS (M70'.intAt .i64 a84'.block a84'.off) fun x85' =>
       cnd (x85' == x17) (
        A3_11 x3 x7 x9 x13 x14 x17 x18 x19 x20 (some ⟨2 * M66'.nb.size, 0, none⟩) true M70' Q) (
        onS (M70'.boolAt (2 * M.nb.size) (0 + 13)) fun b86' =>
        cnd b86' (
         ixS (idxA (some ⟨(2 * M.nb.size), 0 + 14, none⟩) 2 1 1) fun a87' =>
         onS (M70'.intAt .i64 a87'.block a87'.off) fun x88' =>
         A3_11 x3 x7 x9 x13 x14 x17 x18 x19 x20 (some ⟨2 * M66'.nb.size, 0, none⟩) (x88' == x17) M70' Q) (
         A3_11 x3 x7 x9 x13 x14 x17 x18 x19 x20 (some ⟨2 * M66'.nb.size, 0, none⟩) false M70' Q))) (
       A3_11 x3 x7 x9 x13 x14 x17 x18 x19 x20 (some ⟨2 * M66'.nb.size, 0, none⟩) false M70' Q))) (
     Cn Try.prog 10 #[.pointer x7, .agg #[.int .i64 24, .int .i64 24, .int .i64 8, .int .i64 8], .int .i64 x17] M fun v89' N89' =>
      tyS (asU 3 v89') fun cs90' =>
      tyS (asA 4 (cs90'.getD 0 undef)) fun cs91' =>
      tyS (asI .i64 (cs91'.getD 0 undef)) fun x92' =>
      tyS (asI .i64 (cs91'.getD 1 undef)) fun x93' =>
      tyS (asI .i64 (cs91'.getD 2 undef)) fun x94' =>
      tyS (asI .i64 (cs91'.getD 3 undef)) fun x95' =>
      tyS (asI .i64 (cs90'.getD 1 undef)) fun x96' =>
      tyS (asI .i64 (cs90'.getD 2 undef)) fun x97' =>
      stP (some 4) #[.int .i64 x92', .int .i64 x93', .int .i64 x94', .int .i64 x95'] (N89'.new (.cells #[.int .i64 0, .int .i64 0, .int .i64 0, .int .i64 0] 25)) (2 * N89'.nb.size) 0 fun M98' =>
      onS (M98'.intAt .i64 (2 * N89'.nb.size) 0) fun x99' =>
      onS (M98'.intAt .i64 (2 * N89'.nb.size) (0 + 1)) fun x100' =>
      onS (M98'.intAt .i64 (2 * N89'.nb.size) (0 + 2)) fun x101' =>
      onS (M98'.intAt .i64 (2 * N89'.nb.size) (0 + 3)) fun x102' =>
      adS x18 fun a103' =>
      onS (M98'.intAt .i64 a103'.block a103'.off) fun x104' =>
      onS (M98'.intAt .i64 a103'.block (a103'.off + 1)) fun x105' =>
      onS (M98'.intAt .i64 a103'.block (a103'.off + 2)) fun x106' =>
      onS (M98'.intAt .i64 a103'.block (a103'.off + 3)) fun x107' =>
      puS (binV Try.prog .neq 25 25 (.agg #[.int .i64 x99', .int .i64 x100', .int .i64 x101', .int .i64 x102']) (.agg #[.int .i64 x104', .int .i64 x105', .int .i64 x106', .int .i64 x107'])) fun v108' =>
      tyS (asB v108') fun b109' =>
      cnd b109' (
       A3_12 x3 x7 x9 x13 x14 x17 true M98' Q) (
       A3_12 x3 x7 x9 x13 x14 x17 (x96' != x19) M98' Q))) :
    A3_8 x3 x7 x9 x13 x14 x17 x18 x19 x20 M Q :=
  LvP.mk (cuts := K3) (sp := Z3) 900 H fun G => by kernel_rfl

theorem w3_9 {x8 x10 x14 x35 x36 x37 x38 : Int} {x290 : Bool} {M : Mem} {Q : Value → Mem → Prop} (H :
    cnd x290 (
     A3_13 x8 x10 x14 x36 x37 x38 (x35 == x14) M Q) (
     A3_13 x8 x10 x14 x36 x37 x38 false M Q)) :
    A3_9 x8 x10 x14 x35 x36 x37 x38 x290 M Q :=
  LvP.mk (cuts := K3) (sp := Z3) 900 H fun G => by kernel_rfl

theorem w3_10 {x2 : Bool} {x3 x4 x7 x9 x11 x12 : Option Addr} {x13 x14 x15 : Int} {M : Mem} {Q : Value → Mem → Prop} (H :
    A3_2 x2 x3 x4 x7 x9 x11 x12 x13 x14 (IntKind.i64.wrap (x15 + 1)) M Q) :
    A3_10 x2 x3 x4 x7 x9 x11 x12 x13 x14 x15 M Q :=
  LvP.mk (cuts := K3) (sp := Z3) 900 H fun G => by kernel_rfl

theorem w3_11 {x3 x7 x9 : Option Addr} {x13 x14 x17 : Int} {x18 : Option Addr} {x19 x20 : Int} {x22 : Option Addr} {x23 : Bool} {M : Mem} {Q : Value → Mem → Prop} (H :
    cnd x23 (
     cnd (decide (x19 < 2)) (
      cnd (x19 == 0) (
       A3_14 x3 x7 x9 x13 x14 x17 x18 x19 x20 x22 true M Q) (
       adS x22 fun a110' =>
       onS (M.intAt .i64 a110'.block a110'.off) fun x111' =>
       onS (M.intAt .i64 a110'.block (a110'.off + 1)) fun x112' =>
       ixS (idxA x18 2 2 0) fun a113' =>
       onS (M.intAt .i64 a113'.block a113'.off) fun x114' =>
       onS (M.intAt .i64 a113'.block (a113'.off + 1)) fun x115' =>
       puS (binV Try.prog .neq 24 24 (.agg #[.int .i64 x111', .int .i64 x112']) (.agg #[.int .i64 x114', .int .i64 x115'])) fun v116' =>
       tyS (asB v116') fun b117' =>
       A3_14 x3 x7 x9 x13 x14 x17 x18 x19 x20 x22 b117' M Q)) (
      A3_14 x3 x7 x9 x13 x14 x17 x18 x19 x20 x22 false M Q)) (
     A3_14 x3 x7 x9 x13 x14 x17 x18 x19 x20 x22 false M Q)) :
    A3_11 x3 x7 x9 x13 x14 x17 x18 x19 x20 x22 x23 M Q :=
  LvP.mk (cuts := K3) (sp := Z3) 900 H fun G => by kernel_rfl

theorem w3_12 {x3 x7 x9 : Option Addr} {x13 x14 x17 : Int} {x190 : Bool} {M : Mem} {Q : Value → Mem → Prop} (H :
    cnd x190 (
     Q (.bool false) M) (
     Cn Try.prog 10 #[.pointer x7, .agg #[.int .i64 24, .int .i64 24, .int .i64 8, .int .i64 8], .int .i64 x17] M fun v118' N118' =>
      tyS (asU 3 v118') fun cs119' =>
      tyS (asA 4 (cs119'.getD 0 undef)) fun cs120' =>
      tyS (asI .i64 (cs120'.getD 0 undef)) fun x121' =>
      tyS (asI .i64 (cs120'.getD 1 undef)) fun x122' =>
      tyS (asI .i64 (cs120'.getD 2 undef)) fun x123' =>
      tyS (asI .i64 (cs120'.getD 3 undef)) fun x124' =>
      tyS (asI .i64 (cs119'.getD 1 undef)) fun x125' =>
      tyS (asI .i64 (cs119'.getD 2 undef)) fun x126' =>
      stP (some 4) #[.int .i64 x121', .int .i64 x122', .int .i64 x123', .int .i64 x124'] (N118'.new (.cells #[.int .i64 0, .int .i64 0, .int .i64 0, .int .i64 0] 25)) (2 * N118'.nb.size) 0 fun M127' =>
      Cn Try.prog 10 #[.pointer x9, .agg #[.int .i64 24, .int .i64 24, .int .i64 8, .int .i64 8], .int .i64 x17] M127' fun v128' N128' =>
       tyS (asU 3 v128') fun cs129' =>
       tyS (asA 4 (cs129'.getD 0 undef)) fun cs130' =>
       tyS (asI .i64 (cs130'.getD 0 undef)) fun x131' =>
       tyS (asI .i64 (cs130'.getD 1 undef)) fun x132' =>
       tyS (asI .i64 (cs130'.getD 2 undef)) fun x133' =>
       tyS (asI .i64 (cs130'.getD 3 undef)) fun x134' =>
       tyS (asI .i64 (cs129'.getD 1 undef)) fun x135' =>
       tyS (asI .i64 (cs129'.getD 2 undef)) fun x136' =>
       stP (some 4) #[.int .i64 x131', .int .i64 x132', .int .i64 x133', .int .i64 x134'] (N128'.new (.cells #[.int .i64 0, .int .i64 0, .int .i64 0, .int .i64 0] 25)) (2 * N128'.nb.size) 0 fun M137' =>
       onS (M137'.intAt .i64 (2 * N118'.nb.size) 0) fun x138' =>
       onS (M137'.intAt .i64 (2 * N118'.nb.size) (0 + 1)) fun x139' =>
       onS (M137'.intAt .i64 (2 * N118'.nb.size) (0 + 2)) fun x140' =>
       onS (M137'.intAt .i64 (2 * N118'.nb.size) (0 + 3)) fun x141' =>
       onS (M137'.intAt .i64 (2 * N128'.nb.size) 0) fun x142' =>
       onS (M137'.intAt .i64 (2 * N128'.nb.size) (0 + 1)) fun x143' =>
       onS (M137'.intAt .i64 (2 * N128'.nb.size) (0 + 2)) fun x144' =>
       onS (M137'.intAt .i64 (2 * N128'.nb.size) (0 + 3)) fun x145' =>
       puS (binV Try.prog .neq 25 25 (.agg #[.int .i64 x138', .int .i64 x139', .int .i64 x140', .int .i64 x141']) (.agg #[.int .i64 x142', .int .i64 x143', .int .i64 x144', .int .i64 x145'])) fun v146' =>
       tyS (asB v146') fun b147' =>
       cnd b147' (
        A3_15 x3 x7 x9 x13 x14 x17 (some ⟨2 * N118'.nb.size, 0, none⟩) x125' x126' x136' true M137' Q) (
        A3_15 x3 x7 x9 x13 x14 x17 (some ⟨2 * N118'.nb.size, 0, none⟩) x125' x126' x136' (x125' != x135') M137' Q))) :
    A3_12 x3 x7 x9 x13 x14 x17 x190 M Q :=
  LvP.mk (cuts := K3) (sp := Z3) 900 H fun G => by kernel_rfl

theorem w3_13 {x8 x10 x14 x36 x37 x38 : Int} {x295 : Bool} {M : Mem} {Q : Value → Mem → Prop} (H :
    cnd x295 (
     A3_16 x8 x10 x36 x38 (x37 == x14) M Q) (
     A3_16 x8 x10 x36 x38 false M Q)) :
    A3_13 x8 x10 x14 x36 x37 x38 x295 M Q :=
  LvP.mk (cuts := K3) (sp := Z3) 900 H fun G => by kernel_rfl

theorem w3_14 {x3 x7 x9 : Option Addr} {x13 x14 x17 : Int} {x18 : Option Addr} {x19 x20 : Int} {x22 : Option Addr} {x169 : Bool} {M : Mem} {Q : Value → Mem → Prop} (H :
    cnd x169 (
     adS x22 fun a148' =>
     onS (M.intAt .i64 a148'.block a148'.off) fun x149' =>
     onS (M.intAt .i64 a148'.block (a148'.off + 1)) fun x150' =>
     ixS (idxA x18 2 2 x19) fun a151' =>
     stP (some 2) #[.int .i64 x149', .int .i64 x150'] M a151'.block a151'.off fun M152' =>
     A3_17 x3 x7 x9 x13 x14 x17 x18 (IntKind.i64.wrap (x19 + 1)) x20 M152' Q) (
     A3_17 x3 x7 x9 x13 x14 x17 x18 x19 x20 M Q)) :
    A3_14 x3 x7 x9 x13 x14 x17 x18 x19 x20 x22 x169 M Q :=
  LvP.mk (cuts := K3) (sp := Z3) 900 H fun G => by kernel_rfl

theorem w3_15 {x3 x7 x9 : Option Addr} {x13 x14 x17 : Int} {x27 : Option Addr} {x28 x29 x32 : Int} {x215 : Bool} {M : Mem} {Q : Value → Mem → Prop} (H :
    cnd x215 (
     A3_18 x3 x7 x9 x13 x14 x17 x27 x28 x32 true M Q) (
     A3_18 x3 x7 x9 x13 x14 x17 x27 x28 x32 (x29 != 0) M Q)) :
    A3_15 x3 x7 x9 x13 x14 x17 x27 x28 x29 x32 x215 M Q :=
  LvP.mk (cuts := K3) (sp := Z3) 900 H fun G => by kernel_rfl

theorem w3_16 {x8 x10 x36 x38 : Int} {x300 : Bool} {M : Mem} {Q : Value → Mem → Prop} (H :
    cnd x300 (
     A3_19 x10 x36 x38 (x8 == 0) M Q) (
     A3_19 x10 x36 x38 false M Q)) :
    A3_16 x8 x10 x36 x38 x300 M Q :=
  LvP.mk (cuts := K3) (sp := Z3) 900 H fun G => by kernel_rfl

theorem w3_17 {x3 x7 x9 : Option Addr} {x13 x14 x17 : Int} {x18 : Option Addr} {x19 x20 : Int} {M : Mem} {Q : Value → Mem → Prop} (H :
    A3_8 x3 x7 x9 x13 x14 x17 x18 x19 (IntKind.i64.wrap (x20 + 1)) M Q) :
    A3_17 x3 x7 x9 x13 x14 x17 x18 x19 x20 M Q :=
  LvP.mk (cuts := K3) (sp := Z3) 900 H fun G => by kernel_rfl

theorem w3_18 {x3 x7 x9 : Option Addr} {x13 x14 x17 : Int} {x27 : Option Addr} {x28 x32 : Int} {x219 : Bool} {M : Mem} {Q : Value → Mem → Prop} (H :
    cnd x219 (
     A3_20 x3 x7 x9 x13 x14 x17 x27 x28 true M Q) (
     A3_20 x3 x7 x9 x13 x14 x17 x27 x28 (x32 != 0) M Q)) :
    A3_18 x3 x7 x9 x13 x14 x17 x27 x28 x32 x219 M Q :=
  LvP.mk (cuts := K3) (sp := Z3) 900 H fun G => by kernel_rfl

theorem w3_19 {x10 x36 x38 : Int} {x304 : Bool} {M : Mem} {Q : Value → Mem → Prop} (H :
    cnd x304 (
     A3_21 x36 x38 (x10 == 0) M Q) (
     A3_21 x36 x38 false M Q)) :
    A3_19 x10 x36 x38 x304 M Q :=
  LvP.mk (cuts := K3) (sp := Z3) 900 H fun G => by kernel_rfl

theorem w3_20 {x3 x7 x9 : Option Addr} {x13 x14 x17 : Int} {x27 : Option Addr} {x28 : Int} {x223 : Bool} {M : Mem} {Q : Value → Mem → Prop} (H :
    cnd x223 (
     A3_22 x3 x7 x9 x13 x14 x17 x27 x28 true M Q) (
     A3_22 x3 x7 x9 x13 x14 x17 x27 x28 (decide (x28 < 0)) M Q)) :
    A3_20 x3 x7 x9 x13 x14 x17 x27 x28 x223 M Q :=
  LvP.mk (cuts := K3) (sp := Z3) 900 H fun G => by kernel_rfl

theorem w3_21 {x36 x38 : Int} {x308 : Bool} {M : Mem} {Q : Value → Mem → Prop} (H :
    cnd x308 (
     A3_23 x38 (x36 == 0) M Q) (
     A3_23 x38 false M Q)) :
    A3_21 x36 x38 x308 M Q :=
  LvP.mk (cuts := K3) (sp := Z3) 900 H fun G => by kernel_rfl

theorem w3_22 {x3 x7 x9 : Option Addr} {x13 x14 x17 : Int} {x27 : Option Addr} {x28 : Int} {x227 : Bool} {M : Mem} {Q : Value → Mem → Prop} (H :
    cnd x227 (
     A3_24 x3 x7 x9 x13 x14 x17 x27 x28 true M Q) (
     A3_24 x3 x7 x9 x13 x14 x17 x27 x28 (decide (x28 > 2)) M Q)) :
    A3_22 x3 x7 x9 x13 x14 x17 x27 x28 x227 M Q :=
  LvP.mk (cuts := K3) (sp := Z3) 900 H fun G => by kernel_rfl

theorem w3_23 {x38 : Int} {x312 : Bool} {M : Mem} {Q : Value → Mem → Prop} (H :
    cnd x312 (
     Q (.bool (x38 == 0)) M) (
     Q (.bool false) M)) :
    A3_23 x38 x312 M Q :=
  LvP.mk (cuts := K3) (sp := Z3) 900 H fun G => by kernel_rfl

theorem w3_24 {x3 x7 x9 : Option Addr} {x13 x14 x17 : Int} {x27 : Option Addr} {x28 : Int} {x231 : Bool} {M : Mem} {Q : Value → Mem → Prop} (H :
    cnd x231 (
     A3_25 x3 x7 x9 x13 x14 x17 x27 x28 true M Q) (
     cnd (x28 == 2) (
      ixS (idxA x27 2 2 0) fun a153' =>
      onS (M.intAt .i64 a153'.block a153'.off) fun x154' =>
      onS (M.intAt .i64 a153'.block (a153'.off + 1)) fun x155' =>
      ixS (idxA x27 2 2 1) fun a156' =>
      onS (M.intAt .i64 a156'.block a156'.off) fun x157' =>
      onS (M.intAt .i64 a156'.block (a156'.off + 1)) fun x158' =>
      puS (binV Try.prog .eql 24 24 (.agg #[.int .i64 x154', .int .i64 x155']) (.agg #[.int .i64 x157', .int .i64 x158'])) fun v159' =>
      tyS (asB v159') fun b160' =>
      A3_25 x3 x7 x9 x13 x14 x17 x27 x28 b160' M Q) (
      A3_25 x3 x7 x9 x13 x14 x17 x27 x28 false M Q))) :
    A3_24 x3 x7 x9 x13 x14 x17 x27 x28 x231 M Q :=
  LvP.mk (cuts := K3) (sp := Z3) 900 H fun G => by kernel_rfl

theorem w3_25 {x3 x7 x9 : Option Addr} {x13 x14 x17 : Int} {x27 : Option Addr} {x28 : Int} {x242 : Bool} {M : Mem} {Q : Value → Mem → Prop} (H :
    cnd x242 (
     A3_26 x3 x7 x9 x13 x14 x17 x27 x28 true M Q) (
     cnd (decide (x28 < 2)) (
      ixS (idxA x27 2 2 1) fun a161' =>
      onS (M.intAt .i64 a161'.block a161'.off) fun x162' =>
      onS (M.intAt .i64 a161'.block (a161'.off + 1)) fun x163' =>
      puS (binV Try.prog .neq 24 24 (.agg #[.int .i64 x162', .int .i64 x163']) (.agg #[.int .i64 0, .int .i64 0])) fun v164' =>
      tyS (asB v164') fun b165' =>
      A3_26 x3 x7 x9 x13 x14 x17 x27 x28 b165' M Q) (
      A3_26 x3 x7 x9 x13 x14 x17 x27 x28 false M Q))) :
    A3_25 x3 x7 x9 x13 x14 x17 x27 x28 x242 M Q :=
  LvP.mk (cuts := K3) (sp := Z3) 900 H fun G => by kernel_rfl

theorem w3_26 {x3 x7 x9 : Option Addr} {x13 x14 x17 : Int} {x27 : Option Addr} {x28 : Int} {x252 : Bool} {M : Mem} {Q : Value → Mem → Prop} (H :
    cnd x252 (
     A3_27 x3 x7 x9 x13 x14 x17 true M Q) (
     cnd (x28 == 0) (
      ixS (idxA x27 2 2 0) fun a166' =>
      onS (M.intAt .i64 a166'.block a166'.off) fun x167' =>
      onS (M.intAt .i64 a166'.block (a166'.off + 1)) fun x168' =>
      puS (binV Try.prog .neq 24 24 (.agg #[.int .i64 x167', .int .i64 x168']) (.agg #[.int .i64 0, .int .i64 0])) fun v169' =>
      tyS (asB v169') fun b170' =>
      A3_27 x3 x7 x9 x13 x14 x17 b170' M Q) (
      A3_27 x3 x7 x9 x13 x14 x17 false M Q))) :
    A3_26 x3 x7 x9 x13 x14 x17 x27 x28 x252 M Q :=
  LvP.mk (cuts := K3) (sp := Z3) 900 H fun G => by kernel_rfl

theorem w3_27 {x3 x7 x9 : Option Addr} {x13 x14 x17 : Int} {x261 : Bool} {M : Mem} {Q : Value → Mem → Prop} (H :
    cnd x261 (
     Q (.bool false) M) (
     A3_6 x3 x7 x9 x13 x14 (IntKind.i64.wrap (x17 + 1)) M Q)) :
    A3_27 x3 x7 x9 x13 x14 x17 x261 M Q :=
  LvP.mk (cuts := K3) (sp := Z3) 900 H fun G => by kernel_rfl


end Go.Zt
