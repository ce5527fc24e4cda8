/- The functions' walks: for each function and each loop a rule of what it comes to. Printed by zw2.py. -/
import Derived.Test.YtamlmpeiamkllaaProg
import Derived.Test.YtamlmpeiamkllaaZpA
import Derived.Test.YtamlmpeiamkllaaZrT
set_option linter.unusedVariables false
set_option maxRecDepth 100000
namespace Go.Zt
open Go Go.Sim Go.Proofs

def tyZpL0 : List Sc := [.int .i64, .int .i64, .int .i64, .int .i64, .bool, .bool, .int .i64, .int .i64, .int .i64, .int .i64, .int .i64, .int .i64, .int .i64, .bool, .int .i64, .int .i64, .int .i64, .int .i64, .int .i64, .int .i64, .int .i64, .int .i64, .bool]
/-! ### zoetrope/zoetropelaw17.GridOnce: function 4 -/
def K4 : List (List It × List Nat) := [([.code [1,1,1,1,1,1,1,0,1,0,0], .lp [1,1,1,1,1,1,1,0,1,0,0], .blk 0, .code [1,1,1,1,1,1,1,1]], [1, 2, 5, 7, 8, 9]), ([.code [1,1,1,1,1,1,1,0,1,0,0,0,1], .code [1,1,1,1,1,1,1,0,1,0,0,1], .lp [1,1,1,1,1,1,1,0,1,0,0], .blk 0, .code [1,1,1,1,1,1,1,1]], [1, 2, 5, 7, 8, 9, 58]), ([.code [1,1,1,1,1,1,1,0,1,0,0,1,0,0,1,1,1,1,1,1], .blk 1, .code [1,1,1,1,1,1,1,0,1,0,0,1,1], .lp [1,1,1,1,1,1,1,0,1,0,0], .blk 0, .code [1,1,1,1,1,1,1,1]], [1, 2, 5, 7, 8, 9, 10, 11]), ([.code [1,1,1,1,1,1,1,1,0,1,0,0], .lp [1,1,1,1,1,1,1,1,0,1,0,0], .blk 10, .code [1,1,1,1,1,1,1,1,1]], [2, 5, 7, 8, 17]), ([.code [1,1,1,1,1,1,1,0,1,0,0,1,0,0,1,1,1,1,1,1,0,1,0,0], .lp [1,1,1,1,1,1,1,0,1,0,0,1,0,0,1,1,1,1,1,1,0,1,0,0], .blk 2, .code [1,1,1,1,1,1,1,0,1,0,0,1,0,0,1,1,1,1,1,1,1], .blk 1, .code [1,1,1,1,1,1,1,0,1,0,0,1,1], .lp [1,1,1,1,1,1,1,0,1,0,0], .blk 0, .code [1,1,1,1,1,1,1,1]], [1, 2, 5, 7, 8, 9, 10, 11, 12]), ([.code [1,1,1,1,1,1,1,1,0,1,0,0,1,0,0,1,0,0], .lp [1,1,1,1,1,1,1,1,0,1,0,0,1,0,0,1,0,0], .blk 12, .blk 11, .code [1,1,1,1,1,1,1,1,0,1,0,0,1,1], .lp [1,1,1,1,1,1,1,1,0,1,0,0], .blk 10, .code [1,1,1,1,1,1,1,1,1]], [2, 5, 7, 8, 17, 18]), ([.code [1,1,1,1,1,1,1,0,1,0,0,1,0,0,1,1,1,1,1,1,0,1,0,0,0,1], .code [1,1,1,1,1,1,1,0,1,0,0,1,0,0,1,1,1,1,1,1,0,1,0,0,1], .lp [1,1,1,1,1,1,1,0,1,0,0,1,0,0,1,1,1,1,1,1,0,1,0,0], .blk 2, .code [1,1,1,1,1,1,1,0,1,0,0,1,0,0,1,1,1,1,1,1,1], .blk 1, .code [1,1,1,1,1,1,1,0,1,0,0,1,1], .lp [1,1,1,1,1,1,1,0,1,0,0], .blk 0, .code [1,1,1,1,1,1,1,1]], [1, 2, 5, 7, 8, 9, 10, 11, 12, 122]), ([.code [1,1,1,1,1,1,1,1,0,1,0,0,1,0,0,1,0,0,1,0,0,1,1], .blk 13, .code [1,1,1,1,1,1,1,1,0,1,0,0,1,0,0,1,0,0,1,1], .lp [1,1,1,1,1,1,1,1,0,1,0,0,1,0,0,1,0,0], .blk 12, .blk 11, .code [1,1,1,1,1,1,1,1,0,1,0,0,1,1], .lp [1,1,1,1,1,1,1,1,0,1,0,0], .blk 10, .code [1,1,1,1,1,1,1,1,1]], [2, 5, 7, 8, 17, 18, 270]), ([.code [1,1,1,1,1,1,1,0,1,0,0,1,0,0,1,1,1,1,1,1,0,1,0,0,1,0,0,1,0,0], .lp [1,1,1,1,1,1,1,0,1,0,0,1,0,0,1,1,1,1,1,1,0,1,0,0,1,0,0,1,0,0], .blk 4, .blk 3, .code [1,1,1,1,1,1,1,0,1,0,0,1,0,0,1,1,1,1,1,1,0,1,0,0,1,1], .lp [1,1,1,1,1,1,1,0,1,0,0,1,0,0,1,1,1,1,1,1,0,1,0,0], .blk 2, .code [1,1,1,1,1,1,1,0,1,0,0,1,0,0,1,1,1,1,1,1,1], .blk 1, .code [1,1,1,1,1,1,1,0,1,0,0,1,1], .lp [1,1,1,1,1,1,1,0,1,0,0], .blk 0, .code [1,1,1,1,1,1,1,1]], [1, 2, 5, 7, 8, 9, 10, 11, 12, 13]), ([.code [1,1,1,1,1,1,1,0,1,0,0,1,0,0,1,1,1,1,1,1,1,1,0,1], .code [1,1,1,1,1,1,1,0,1,0,0,1,0,0,1,1,1,1,1,1,1,1,1], .blk 1, .code [1,1,1,1,1,1,1,0,1,0,0,1,1], .lp [1,1,1,1,1,1,1,0,1,0,0], .blk 0, .code [1,1,1,1,1,1,1,1]], [1, 2, 5, 7, 8, 9, 10, 11, 169]), ([.blk 5, .code [1,1,1,1,1,1,1,0,1,0,0,1,0,0,1,1,1,1,1,1,0,1,0,0,1,0,0,1,0,0,1,1], .lp [1,1,1,1,1,1,1,0,1,0,0,1,0,0,1,1,1,1,1,1,0,1,0,0,1,0,0,1,0,0], .blk 4, .blk 3, .code [1,1,1,1,1,1,1,0,1,0,0,1,0,0,1,1,1,1,1,1,0,1,0,0,1,1], .lp [1,1,1,1,1,1,1,0,1,0,0,1,0,0,1,1,1,1,1,1,0,1,0,0], .blk 2, .code [1,1,1,1,1,1,1,0,1,0,0,1,0,0,1,1,1,1,1,1,1], .blk 1, .code [1,1,1,1,1,1,1,0,1,0,0,1,1], .lp [1,1,1,1,1,1,1,0,1,0,0], .blk 0, .code [1,1,1,1,1,1,1,1]], [1, 2, 5, 7, 8, 9, 10, 11, 12, 13]), ([.code [1,1,1,1,1,1,1,0,1,0,0,1,1], .lp [1,1,1,1,1,1,1,0,1,0,0], .blk 0, .code [1,1,1,1,1,1,1,1]], [1, 2, 5, 7, 8, 9]), ([.code [1,1,1,1,1,1,1,0,1,0,0,1,0,0,1,1,1,1,1,1,1,1,1,1,1,1,0,0], .lp [1,1,1,1,1,1,1,0,1,0,0,1,0,0,1,1,1,1,1,1,1,1,1,1,1,1,0,0], .blk 6, .blk 1, .code [1,1,1,1,1,1,1,0,1,0,0,1,1], .lp [1,1,1,1,1,1,1,0,1,0,0], .blk 0, .code [1,1,1,1,1,1,1,1]], [1, 2, 5, 7, 8, 9, 10, 15]), ([.code [1,1,1,1,1,1,1,0,1,0,0,1,0,0,1,1,1,1,1,1,0,1,0,0,1,0,0,1,0,0,1,1], .lp [1,1,1,1,1,1,1,0,1,0,0,1,0,0,1,1,1,1,1,1,0,1,0,0,1,0,0,1,0,0], .blk 4, .blk 3, .code [1,1,1,1,1,1,1,0,1,0,0,1,0,0,1,1,1,1,1,1,0,1,0,0,1,1], .lp [1,1,1,1,1,1,1,0,1,0,0,1,0,0,1,1,1,1,1,1,0,1,0,0], .blk 2, .code [1,1,1,1,1,1,1,0,1,0,0,1,0,0,1,1,1,1,1,1,1], .blk 1, .code [1,1,1,1,1,1,1,0,1,0,0,1,1], .lp [1,1,1,1,1,1,1,0,1,0,0], .blk 0, .code [1,1,1,1,1,1,1,1]], [1, 2, 5, 7, 8, 9, 10, 11, 12, 13]), ([.code [1,1,1,1,1,1,1,0,1,0,0,1,0,0,1,1,1,1,1,1,1,1,1,1,1,1,0,0,1,0,0,1,0,0], .lp [1,1,1,1,1,1,1,0,1,0,0,1,0,0,1,1,1,1,1,1,1,1,1,1,1,1,0,0,1,0,0,1,0,0], .blk 8, .blk 7, .code [1,1,1,1,1,1,1,0,1,0,0,1,0,0,1,1,1,1,1,1,1,1,1,1,1,1,0,0,1,1], .lp [1,1,1,1,1,1,1,0,1,0,0,1,0,0,1,1,1,1,1,1,1,1,1,1,1,1,0,0], .blk 6, .blk 1, .code [1,1,1,1,1,1,1,0,1,0,0,1,1], .lp [1,1,1,1,1,1,1,0,1,0,0], .blk 0, .code [1,1,1,1,1,1,1,1]], [1, 2, 5, 7, 8, 9, 10, 15, 16])]
def Z4 : List (List Nat × List Nat) := []
theorem b4 : Try.prog.funcs[4]? = some Try.f4 ∧ (Orc.tab Try.prog).lookup 4 = none ∧ Try.f4.body = some (codeOf Try.f4) := ⟨by kernel_rfl, by kernel_rfl, by kernel_rfl⟩
def A4_1 (Ax1 : Option Addr) (lx1 cx1 : Nat) (x2 x5 x7 Ax8 : Option Addr) (lx8 cx8 : Nat) (x9 : Int) (M : Mem) (Q : Value → Mem → Prop) : Prop := LvP Try.prog Try.f4 [(1, .slice Ax1 lx1 cx1), (2, .pointer x2), (5, .pointer x5), (7, .pointer x7), (8, .slice Ax8 lx8 cx8), (9, .int .i64 x9)] [.code [1,1,1,1,1,1,1,0,1,0,0], .lp [1,1,1,1,1,1,1,0,1,0,0], .blk 0, .code [1,1,1,1,1,1,1,1]] M Q
def A4_2 (Ax1 : Option Addr) (lx1 cx1 : Nat) (x2 x5 x7 Ax8 : Option Addr) (lx8 cx8 : Nat) (x9 : Int) (x58 : Bool) (M : Mem) (Q : Value → Mem → Prop) : Prop := LvP Try.prog Try.f4 [(1, .slice Ax1 lx1 cx1), (2, .pointer x2), (5, .pointer x5), (7, .pointer x7), (8, .slice Ax8 lx8 cx8), (9, .int .i64 x9), (58, .bool x58)] [.code [1,1,1,1,1,1,1,0,1,0,0,0,1], .code [1,1,1,1,1,1,1,0,1,0,0,1], .lp [1,1,1,1,1,1,1,0,1,0,0], .blk 0, .code [1,1,1,1,1,1,1,1]] M Q
def A4_3 (Ax1 : Option Addr) (lx1 cx1 : Nat) (x2 x5 x7 Ax8 : Option Addr) (lx8 cx8 : Nat) (x9 : Int) (x10 : Option Addr) (x11 : Bool) (M : Mem) (Q : Value → Mem → Prop) : Prop := LvP Try.prog Try.f4 [(1, .slice Ax1 lx1 cx1), (2, .pointer x2), (5, .pointer x5), (7, .pointer x7), (8, .slice Ax8 lx8 cx8), (9, .int .i64 x9), (10, .pointer x10), (11, .bool x11)] [.code [1,1,1,1,1,1,1,0,1,0,0,1,0,0,1,1,1,1,1,1], .blk 1, .code [1,1,1,1,1,1,1,0,1,0,0,1,1], .lp [1,1,1,1,1,1,1,0,1,0,0], .blk 0, .code [1,1,1,1,1,1,1,1]] M Q
def A4_4 (x2 x5 x7 Ax8 : Option Addr) (lx8 cx8 : Nat) (x17 : Int) (M : Mem) (Q : Value → Mem → Prop) : Prop := LvP Try.prog Try.f4 [(2, .pointer x2), (5, .pointer x5), (7, .pointer x7), (8, .slice Ax8 lx8 cx8), (17, .int .i64 x17)] [.code [1,1,1,1,1,1,1,1,0,1,0,0], .lp [1,1,1,1,1,1,1,1,0,1,0,0], .blk 10, .code [1,1,1,1,1,1,1,1,1]] M Q
def A4_5 (Ax1 : Option Addr) (lx1 cx1 : Nat) (x2 x5 x7 Ax8 : Option Addr) (lx8 cx8 : Nat) (x9 : Int) (x10 : Option Addr) (x11 : Bool) (x12 : Int) (M : Mem) (Q : Value → Mem → Prop) : Prop := LvP Try.prog Try.f4 [(1, .slice Ax1 lx1 cx1), (2, .pointer x2), (5, .pointer x5), (7, .pointer x7), (8, .slice Ax8 lx8 cx8), (9, .int .i64 x9), (10, .pointer x10), (11, .bool x11), (12, .int .i64 x12)] [.code [1,1,1,1,1,1,1,0,1,0,0,1,0,0,1,1,1,1,1,1,0,1,0,0], .lp [1,1,1,1,1,1,1,0,1,0,0,1,0,0,1,1,1,1,1,1,0,1,0,0], .blk 2, .code [1,1,1,1,1,1,1,0,1,0,0,1,0,0,1,1,1,1,1,1,1], .blk 1, .code [1,1,1,1,1,1,1,0,1,0,0,1,1], .lp [1,1,1,1,1,1,1,0,1,0,0], .blk 0, .code [1,1,1,1,1,1,1,1]] M Q
def A4_6 (x2 x5 x7 Ax8 : Option Addr) (lx8 cx8 : Nat) (x17 x18 : Int) (M : Mem) (Q : Value → Mem → Prop) : Prop := LvP Try.prog Try.f4 [(2, .pointer x2), (5, .pointer x5), (7, .pointer x7), (8, .slice Ax8 lx8 cx8), (17, .int .i64 x17), (18, .int .i64 x18)] [.code [1,1,1,1,1,1,1,1,0,1,0,0,1,0,0,1,0,0], .lp [1,1,1,1,1,1,1,1,0,1,0,0,1,0,0,1,0,0], .blk 12, .blk 11, .code [1,1,1,1,1,1,1,1,0,1,0,0,1,1], .lp [1,1,1,1,1,1,1,1,0,1,0,0], .blk 10, .code [1,1,1,1,1,1,1,1,1]] M Q
def A4_7 (Ax1 : Option Addr) (lx1 cx1 : Nat) (x2 x5 x7 Ax8 : Option Addr) (lx8 cx8 : Nat) (x9 : Int) (x10 : Option Addr) (x11 : Bool) (x12 : Int) (x122 : Bool) (M : Mem) (Q : Value → Mem → Prop) : Prop := LvP Try.prog Try.f4 [(1, .slice Ax1 lx1 cx1), (2, .pointer x2), (5, .pointer x5), (7, .pointer x7), (8, .slice Ax8 lx8 cx8), (9, .int .i64 x9), (10, .pointer x10), (11, .bool x11), (12, .int .i64 x12), (122, .bool x122)] [.code [1,1,1,1,1,1,1,0,1,0,0,1,0,0,1,1,1,1,1,1,0,1,0,0,0,1], .code [1,1,1,1,1,1,1,0,1,0,0,1,0,0,1,1,1,1,1,1,0,1,0,0,1], .lp [1,1,1,1,1,1,1,0,1,0,0,1,0,0,1,1,1,1,1,1,0,1,0,0], .blk 2, .code [1,1,1,1,1,1,1,0,1,0,0,1,0,0,1,1,1,1,1,1,1], .blk 1, .code [1,1,1,1,1,1,1,0,1,0,0,1,1], .lp [1,1,1,1,1,1,1,0,1,0,0], .blk 0, .code [1,1,1,1,1,1,1,1]] M Q
def A4_8 (x2 x5 x7 Ax8 : Option Addr) (lx8 cx8 : Nat) (x17 x18 : Int) (x270 : Bool) (M : Mem) (Q : Value → Mem → Prop) : Prop := LvP Try.prog Try.f4 [(2, .pointer x2), (5, .pointer x5), (7, .pointer x7), (8, .slice Ax8 lx8 cx8), (17, .int .i64 x17), (18, .int .i64 x18), (270, .bool x270)] [.code [1,1,1,1,1,1,1,1,0,1,0,0,1,0,0,1,0,0,1,0,0,1,1], .blk 13, .code [1,1,1,1,1,1,1,1,0,1,0,0,1,0,0,1,0,0,1,1], .lp [1,1,1,1,1,1,1,1,0,1,0,0,1,0,0,1,0,0], .blk 12, .blk 11, .code [1,1,1,1,1,1,1,1,0,1,0,0,1,1], .lp [1,1,1,1,1,1,1,1,0,1,0,0], .blk 10, .code [1,1,1,1,1,1,1,1,1]] M Q
def A4_9 (Ax1 : Option Addr) (lx1 cx1 : Nat) (x2 x5 x7 Ax8 : Option Addr) (lx8 cx8 : Nat) (x9 : Int) (x10 : Option Addr) (x11 : Bool) (x12 x13 : Int) (M : Mem) (Q : Value → Mem → Prop) : Prop := LvP Try.prog Try.f4 [(1, .slice Ax1 lx1 cx1), (2, .pointer x2), (5, .pointer x5), (7, .pointer x7), (8, .slice Ax8 lx8 cx8), (9, .int .i64 x9), (10, .pointer x10), (11, .bool x11), (12, .int .i64 x12), (13, .int .i64 x13)] [.code [1,1,1,1,1,1,1,0,1,0,0,1,0,0,1,1,1,1,1,1,0,1,0,0,1,0,0,1,0,0], .lp [1,1,1,1,1,1,1,0,1,0,0,1,0,0,1,1,1,1,1,1,0,1,0,0,1,0,0,1,0,0], .blk 4, .blk 3, .code [1,1,1,1,1,1,1,0,1,0,0,1,0,0,1,1,1,1,1,1,0,1,0,0,1,1], .lp [1,1,1,1,1,1,1,0,1,0,0,1,0,0,1,1,1,1,1,1,0,1,0,0], .blk 2, .code [1,1,1,1,1,1,1,0,1,0,0,1,0,0,1,1,1,1,1,1,1], .blk 1, .code [1,1,1,1,1,1,1,0,1,0,0,1,1], .lp [1,1,1,1,1,1,1,0,1,0,0], .blk 0, .code [1,1,1,1,1,1,1,1]] M Q
def A4_10 (Ax1 : Option Addr) (lx1 cx1 : Nat) (x2 x5 x7 Ax8 : Option Addr) (lx8 cx8 : Nat) (x9 : Int) (x10 : Option Addr) (x11 x169 : Bool) (M : Mem) (Q : Value → Mem → Prop) : Prop := LvP Try.prog Try.f4 [(1, .slice Ax1 lx1 cx1), (2, .pointer x2), (5, .pointer x5), (7, .pointer x7), (8, .slice Ax8 lx8 cx8), (9, .int .i64 x9), (10, .pointer x10), (11, .bool x11), (169, .bool x169)] [.code [1,1,1,1,1,1,1,0,1,0,0,1,0,0,1,1,1,1,1,1,1,1,0,1], .code [1,1,1,1,1,1,1,0,1,0,0,1,0,0,1,1,1,1,1,1,1,1,1], .blk 1, .code [1,1,1,1,1,1,1,0,1,0,0,1,1], .lp [1,1,1,1,1,1,1,0,1,0,0], .blk 0, .code [1,1,1,1,1,1,1,1]] M Q
def A4_11 (Ax1 : Option Addr) (lx1 cx1 : Nat) (x2 x5 x7 Ax8 : Option Addr) (lx8 cx8 : Nat) (x9 : Int) (x10 : Option Addr) (x11 : Bool) (x12 x13 : Int) (M : Mem) (Q : Value → Mem → Prop) : Prop := LvP Try.prog Try.f4 [(1, .slice Ax1 lx1 cx1), (2, .pointer x2), (5, .pointer x5), (7, .pointer x7), (8, .slice Ax8 lx8 cx8), (9, .int .i64 x9), (10, .pointer x10), (11, .bool x11), (12, .int .i64 x12), (13, .int .i64 x13)] [.blk 5, .code [1,1,1,1,1,1,1,0,1,0,0,1,0,0,1,1,1,1,1,1,0,1,0,0,1,0,0,1,0,0,1,1], .lp [1,1,1,1,1,1,1,0,1,0,0,1,0,0,1,1,1,1,1,1,0,1,0,0,1,0,0,1,0,0], .blk 4, .blk 3, .code [1,1,1,1,1,1,1,0,1,0,0,1,0,0,1,1,1,1,1,1,0,1,0,0,1,1], .lp [1,1,1,1,1,1,1,0,1,0,0,1,0,0,1,1,1,1,1,1,0,1,0,0], .blk 2, .code [1,1,1,1,1,1,1,0,1,0,0,1,0,0,1,1,1,1,1,1,1], .blk 1, .code [1,1,1,1,1,1,1,0,1,0,0,1,1], .lp [1,1,1,1,1,1,1,0,1,0,0], .blk 0, .code [1,1,1,1,1,1,1,1]] M Q
def A4_12 (Ax1 : Option Addr) (lx1 cx1 : Nat) (x2 x5 x7 Ax8 : Option Addr) (lx8 cx8 : Nat) (x9 : Int) (M : Mem) (Q : Value → Mem → Prop) : Prop := LvP Try.prog Try.f4 [(1, .slice Ax1 lx1 cx1), (2, .pointer x2), (5, .pointer x5), (7, .pointer x7), (8, .slice Ax8 lx8 cx8), (9, .int .i64 x9)] [.code [1,1,1,1,1,1,1,0,1,0,0,1,1], .lp [1,1,1,1,1,1,1,0,1,0,0], .blk 0, .code [1,1,1,1,1,1,1,1]] M Q
def A4_13 (Ax1 : Option Addr) (lx1 cx1 : Nat) (x2 x5 x7 Ax8 : Option Addr) (lx8 cx8 : Nat) (x9 : Int) (x10 : Option Addr) (x15 : Int) (M : Mem) (Q : Value → Mem → Prop) : Prop := LvP Try.prog Try.f4 [(1, .slice Ax1 lx1 cx1), (2, .pointer x2), (5, .pointer x5), (7, .pointer x7), (8, .slice Ax8 lx8 cx8), (9, .int .i64 x9), (10, .pointer x10), (15, .int .i64 x15)] [.code [1,1,1,1,1,1,1,0,1,0,0,1,0,0,1,1,1,1,1,1,1,1,1,1,1,1,0,0], .lp [1,1,1,1,1,1,1,0,1,0,0,1,0,0,1,1,1,1,1,1,1,1,1,1,1,1,0,0], .blk 6, .blk 1, .code [1,1,1,1,1,1,1,0,1,0,0,1,1], .lp [1,1,1,1,1,1,1,0,1,0,0], .blk 0, .code [1,1,1,1,1,1,1,1]] M Q
def A4_14 (Ax1 : Option Addr) (lx1 cx1 : Nat) (x2 x5 x7 Ax8 : Option Addr) (lx8 cx8 : Nat) (x9 : Int) (x10 : Option Addr) (x11 : Bool) (x12 x13 : Int) (M : Mem) (Q : Value → Mem → Prop) : Prop := LvP Try.prog Try.f4 [(1, .slice Ax1 lx1 cx1), (2, .pointer x2), (5, .pointer x5), (7, .pointer x7), (8, .slice Ax8 lx8 cx8), (9, .int .i64 x9), (10, .pointer x10), (11, .bool x11), (12, .int .i64 x12), (13, .int .i64 x13)] [.code [1,1,1,1,1,1,1,0,1,0,0,1,0,0,1,1,1,1,1,1,0,1,0,0,1,0,0,1,0,0,1,1], .lp [1,1,1,1,1,1,1,0,1,0,0,1,0,0,1,1,1,1,1,1,0,1,0,0,1,0,0,1,0,0], .blk 4, .blk 3, .code [1,1,1,1,1,1,1,0,1,0,0,1,0,0,1,1,1,1,1,1,0,1,0,0,1,1], .lp [1,1,1,1,1,1,1,0,1,0,0,1,0,0,1,1,1,1,1,1,0,1,0,0], .blk 2, .code [1,1,1,1,1,1,1,0,1,0,0,1,0,0,1,1,1,1,1,1,1], .blk 1, .code [1,1,1,1,1,1,1,0,1,0,0,1,1], .lp [1,1,1,1,1,1,1,0,1,0,0], .blk 0, .code [1,1,1,1,1,1,1,1]] M Q
def A4_15 (Ax1 : Option Addr) (lx1 cx1 : Nat) (x2 x5 x7 Ax8 : Option Addr) (lx8 cx8 : Nat) (x9 : Int) (x10 : Option Addr) (x15 x16 : Int) (M : Mem) (Q : Value → Mem → Prop) : Prop := LvP Try.prog Try.f4 [(1, .slice Ax1 lx1 cx1), (2, .pointer x2), (5, .pointer x5), (7, .pointer x7), (8, .slice Ax8 lx8 cx8), (9, .int .i64 x9), (10, .pointer x10), (15, .int .i64 x15), (16, .int .i64 x16)] [.code [1,1,1,1,1,1,1,0,1,0,0,1,0,0,1,1,1,1,1,1,1,1,1,1,1,1,0,0,1,0,0,1,0,0], .lp [1,1,1,1,1,1,1,0,1,0,0,1,0,0,1,1,1,1,1,1,1,1,1,1,1,1,0,0,1,0,0,1,0,0], .blk 8, .blk 7, .code [1,1,1,1,1,1,1,0,1,0,0,1,0,0,1,1,1,1,1,1,1,1,1,1,1,1,0,0,1,1], .lp [1,1,1,1,1,1,1,0,1,0,0,1,0,0,1,1,1,1,1,1,1,1,1,1,1,1,0,0], .blk 6, .blk 1, .code [1,1,1,1,1,1,1,0,1,0,0,1,1], .lp [1,1,1,1,1,1,1,0,1,0,0], .blk 0, .code [1,1,1,1,1,1,1,1]] M Q
theorem w4_0 {x0_0 x0_1 x0_2 x0_3 : Int} {Ax1 : Option Addr} {lx1 cx1 : Nat} {M : Mem} {Q : Value → Mem → Prop} (H :
    Cn Try.prog 7 #[] (M.new (.cells #[.int .i64 x0_0, .int .i64 x0_1, .int .i64 x0_2, .int .i64 x0_3] 35)) fun v1' N1' =>
     tyS (asB v1') fun b2' =>
     cnd (!b2') (
      Q (.bool false) N1') (
      onS (N1'.intAt .i64 (2 * M.nb.size) 0) fun x3' =>
      onS (N1'.intAt .i64 (2 * M.nb.size) (0 + 1)) fun x4' =>
      onS (N1'.intAt .i64 (2 * M.nb.size) (0 + 2)) fun x5' =>
      onS (N1'.intAt .i64 (2 * M.nb.size) (0 + 3)) fun x6' =>
      cnd (decide (N1'.floor ≤ N1'.nb.size)) (
      Cn Try.prog 13 #[.int .i64 x3', .int .i64 2] N1' fun v7' N7' =>
       cnd (sameB N1' N7' ((2 * M.nb.size))) (
       cnd (sameB N1' N7' ((2 * M.nb.size))) (
       cnd (sameB N1' N7' ((2 * M.nb.size))) (
       tyS (asI .i64 v7') fun x8' =>
       cnd (decide (N7'.floor ≤ N7'.nb.size)) (
       Cn Try.prog 13 #[.int .i64 x4', .int .i64 2] N7' fun v9' N9' =>
        cnd (sameB N7' N9' ((2 * M.nb.size))) (
        cnd (sameB N7' N9' ((2 * M.nb.size))) (
        tyS (asI .i64 v9') fun x10' =>
        cnd (decide (N9'.floor ≤ N9'.nb.size)) (
        Cn Try.prog 13 #[.int .i64 x5', .int .i64 16] N9' fun v11' N11' =>
         cnd (sameB N9' N11' ((2 * M.nb.size))) (
         tyS (asI .i64 v11') fun x12' =>
         Cn Try.prog 13 #[.int .i64 x6', .int .i64 16] N11' fun v13' N13' =>
          tyS (asI .i64 v13') fun x14' =>
          stP (some 4) #[.int .i64 (IntKind.i64.wrap (64 * x8')), .int .i64 (IntKind.i64.wrap (64 * x10')), .int .i64 (IntKind.i64.wrap (8 * (IntKind.i64.wrap (1 + x12')))), .int .i64 (IntKind.i64.wrap (8 * (IntKind.i64.wrap (1 + x14'))))] N13' (2 * M.nb.size) 0 fun M15' =>
          onS (M15'.intAt .i64 (2 * M.nb.size) 0) fun x16' =>
          onS (M15'.intAt .i64 (2 * M.nb.size) (0 + 1)) fun x17' =>
          onS (M15'.intAt .i64 (2 * M.nb.size) (0 + 2)) fun x18' =>
          onS (M15'.intAt .i64 (2 * M.nb.size) (0 + 3)) fun x19' =>
          Cn Try.prog 8 #[.agg #[.int .i64 x16', .int .i64 x17', .int .i64 x18', .int .i64 x19']] M15' fun v20' N20' =>
           tyS (asU 2 v20') fun cs21' =>
           tyS (asP (cs21'.getD 0 undef)) fun p22' =>
           tyS (asI .i64 (cs21'.getD 1 undef)) fun x23' =>
           cnd (x23' != 0) (
            Q (.bool false) N20') (
            A4_1 Ax1 lx1 cx1 (some ⟨2 * M.nb.size, 0, none⟩) p22' (some ⟨2 * N20'.nb.size, 0, none⟩) none 0 0 0 (N20'.new (.cells #[.int .i64 0, .int .i64 0, .int .i64 0, .int .i64 0, .int .i64 0, .int .i64 0, .int .i64 0, .int .i64 0, .int .i64 0, .int .i64 0, .int .i64 0, .int .i64 0, .int .i64 0, .int .i64 0, .int .i64 0, .int .i64 0, .int .i64 0, .int .i64 0, .int .i64 0, .int .i64 0, .int .i64 0, .int .i64 0, .int .i64 0, .int .i64 0, .int .i64 0, .int .i64 0, .int .i64 0, .int .i64 0, .int .i64 0, .int .i64 0, .int .i64 0, .int .i64 0, .int .i64 0, .int .i64 0, .int .i64 0, .int .i64 0, .int .i64 0, .int .i64 0, .int .i64 0, .int .i64 0, .int .i64 0, .int .i64 0, .int .i64 0, .int .i64 0, .int .i64 0, .int .i64 0, .int .i64 0, .int .i64 0, .int .i64 0, .int .i64 0, .int .i64 0, .int .i64 0, .int .i64 0, .int .i64 0, .int .i64 0, .int .i64 0, .int .i64 0, .int .i64 0, .int .i64 0, .int .i64 0, .int .i64 0, .int .i64 0, .int .i64 0, .int .i64 0, .int .i64 0, .int .i64 0, .int .i64 0, .int .i64 0, .int .i64 0, .int .i64 0, .int .i64 0, .int .i64 0, .int .i64 0, .int .i64 0, .int .i64 0, .int .i64 0, .int .i64 0, .int .i64 0, .int .i64 0, .int .i64 0, .int .i64 0, .int .i64 0, .int .i64 0, .int .i64 0, .int .i64 0, .int .i64 0, .int .i64 0, .int .i64 0, .int .i64 0, .int .i64 0, .int .i64 0, .int .i64 0, .int .i64 0, .int .i64 0, .int .i64 0, .int .i64 0, .int .i64 0, .int .i64 0, .int .i64 0, .int .i64 0, .int .i64 0, .int .i64 0, .int .i64 0, .int .i64 0, .int .i64 0, .int .i64 0, .int .i64 0, .int .i64 0, .int .i64 0, .int .i64 0, .int .i64 0, .int .i64 0, .int .i64 0, .int .i64 0, .int .i64 0, .int .i64 0, .int .i64 0, .int .i64 0, .int .i64 0, .int .i64 0, .int .i64 0, .int .i64 0, .int .i64 0, .int .i64 0, .int .i64 0, .int .i64 0, .int .i64 0, .int .i64 0, .int .i64 0, .int .i64 0, .int .i64 0, .int .i64 0, .int .i64 0, .int .i64 0, .int .i64 0, .int .i64 0, .int .i64 0, .int .i64 0, .int .i64 0, .int .i64 0, .int .i64 0, .int .i64 0, .int .i64 0, .int .i64 0, .int .i64 0, .int .i64 0, .int .i64 0, .int .i64 0, .int .i64 0, .int .i64 0, .int .i64 0, .int .i64 0, .int .i64 0, .int .i64 0, .int .i64 0, .int .i64 0, .int .i64 0, .int .i64 0, .int .i64 0, .int .i64 0, .int .i64 0, .int .i64 0, .int .i64 0, .int .i64 0, .int .i64 0, .int .i64 0, .int .i64 0, .int .i64 0, .int .i64 0, .int .i64 0, .int .i64 0, .int .i64 0, .int .i64 0, .int .i64 0, .int .i64 0, .int .i64 0, .int .i64 0, .int .i64 0, .int .i64 0, .int .i64 0, .int .i64 0, .int .i64 0, .int .i64 0, .int .i64 0, .int .i64 0, .int .i64 0, .int .i64 0, .int .i64 0, .int .i64 0, .int .i64 0, .int .i64 0, .int .i64 0, .int .i64 0, .int .i64 0, .int .i64 0, .int .i64 0, .int .i64 0, .int .i64 0, .int .i64 0, .int .i64 0, .int .i64 0, .int .i64 0, .int .i64 0, .int .i64 0, .int .i64 0, .int .i64 0, .int .i64 0, .int .i64 0, .int .i64 0, .int .i64 0, .int .i64 0, .int .i64 0, .int .i64 0, .int .i64 0, .int .i64 0, .int .i64 0, .int .i64 0, .int .i64 0, .int .i64 0, .int .i64 0, .int .i64 0, .int .i64 0, .int .i64 0, .int .i64 0, .int .i64 0, .int .i64 0, .int .i64 0, .int .i64 0, .int .i64 0, .int .i64 0, .int .i64 0, .int .i64 0, .int .i64 0, .int .i64 0, .int .i64 0, .int .i64 0, .int .i64 0, .int .i64 0, .int .i64 0, .int .i64 0, .int .i64 0, .int .i64 0, .int .i64 0, .int .i64 0, .int .i64 0, .int .i64 0, .int .i64 0, .int .i64 0, .int .i64 0, .int .i64 0, .int .i64 0, .int .i64 0, .int .i64 0, .int .i64 0, .int .i64 0, .int .i64 0] 46)) Q)) (
         False)) (
        False)) (
        False)) (
        False)) (
       False)) (
       False)) (
       False)) (
       False)) (
      False))) :
    Cn Try.prog 4 #[.agg #[.int .i64 x0_0, .int .i64 x0_1, .int .i64 x0_2, .int .i64 x0_3], .slice Ax1 lx1 cx1] M Q :=
  Cn.mk (cuts := K4) (sp := Z4) 900 b4 rfl rfl H fun G => by kernel_rfl

theorem w4_1 {Ax1 : Option Addr} {lx1 cx1 : Nat} {x2 x5 x7 Ax8 : Option Addr} {lx8 cx8 : Nat} {x9 : Int} {M : Mem} {Q : Value → Mem → Prop} (H :
    cnd (decide (x9 < ((lx1 : Int)))) (
     A4_2 Ax1 lx1 cx1 x2 x5 x7 Ax8 lx8 cx8 x9 (decide (x9 < 60)) M Q) (
     A4_2 Ax1 lx1 cx1 x2 x5 x7 Ax8 lx8 cx8 x9 false M Q)) :
    A4_1 Ax1 lx1 cx1 x2 x5 x7 Ax8 lx8 cx8 x9 M Q :=
  LvP.mk (cuts := K4) (sp := Z4) 900 H fun G => by kernel_rfl

theorem w4_2 {Ax1 : Option Addr} {lx1 cx1 : Nat} {x2 x5 x7 Ax8 : Option Addr} {lx8 cx8 : Nat} {x9 : Int} {x58 : Bool} {M : Mem} {Q : Value → Mem → Prop} (H :
    cnd x58 (
     ixS (idxA Ax1 lx1 23 x9) fun a24' =>
     ldP tyZpL0 M a24'.block a24'.off fun vs25' =>
     stP (some 23) vs25'.toArray (M.new (.cells #[.int .i64 0, .int .i64 0, .int .i64 0, .int .i64 0, .bool false, .bool false, .int .i64 0, .int .i64 0, .int .i64 0, .int .i64 0, .int .i64 0, .int .i64 0, .int .i64 0, .bool false, .int .i64 0, .int .i64 0, .int .i64 0, .int .i64 0, .int .i64 0, .int .i64 0, .int .i64 0, .int .i64 0, .bool false] 27)) (2 * M.nb.size) 0 fun M26' =>
     adS x2 fun a27' =>
     onS (M26'.intAt .i64 a27'.block a27'.off) fun x28' =>
     onS (M26'.intAt .i64 (2 * M.nb.size) 0) fun x29' =>
     cnd (decide (M26'.floor ≤ M26'.nb.size)) (
     Cn Try.prog 13 #[.int .i64 x29', .int .i64 18] M26' fun v30' N30' =>
      cnd (sameB M26' N30' a27'.block) (
      tyS (asI .i64 v30') fun x31' =>
      ptS (N30'.put (2 * M.nb.size) 0 (.int .i64 (IntKind.i64.wrap (x28' + (IntKind.i64.wrap (8 * x31')))))) fun M32' =>
      adS x2 fun a33' =>
      onS (M32'.intAt .i64 a33'.block (a33'.off + 1)) fun x34' =>
      onS (M32'.intAt .i64 (2 * M.nb.size) (0 + 1)) fun x35' =>
      cnd (decide (M32'.floor ≤ M32'.nb.size)) (
      Cn Try.prog 13 #[.int .i64 x35', .int .i64 18] M32' fun v36' N36' =>
       cnd (sameB M32' N36' a33'.block) (
       tyS (asI .i64 v36') fun x37' =>
       ptS (N36'.put (2 * M.nb.size) (0 + 1) (.int .i64 (IntKind.i64.wrap (x34' + (IntKind.i64.wrap (8 * x37')))))) fun M38' =>
       onS (M38'.intAt .i64 (2 * M.nb.size) (0 + 2)) fun x39' =>
       Cn Try.prog 13 #[.int .i64 x39', .int .i64 4] M38' fun v40' N40' =>
        tyS (asI .i64 v40') fun x41' =>
        puS (binV Try.prog .shl 3 3 (.int .i64 8) (.int .i64 x41')) fun v42' =>
        tyS (asI .i64 v42') fun x43' =>
        ptS (N40'.put (2 * M.nb.size) (0 + 2) (.int .i64 x43')) fun M44' =>
        onS (M44'.intAt .i64 (2 * M.nb.size) (0 + 3)) fun x45' =>
        Cn Try.prog 13 #[.int .i64 x45', .int .i64 4] M44' fun v46' N46' =>
         tyS (asI .i64 v46') fun x47' =>
         puS (binV Try.prog .shl 3 3 (.int .i64 8) (.int .i64 x47')) fun v48' =>
         tyS (asI .i64 v48') fun x49' =>
         ptS (N46'.put (2 * M.nb.size) (0 + 3) (.int .i64 x49')) fun M50' =>
         onS (M50'.intAt .i64 (2 * M.nb.size) 0) fun x51' =>
         onS (M50'.intAt .i64 (2 * M.nb.size) (0 + 2)) fun x52' =>
         adS x2 fun a53' =>
         onS (M50'.intAt .i64 a53'.block a53'.off) fun x54' =>
         adS x2 fun a55' =>
         onS (M50'.intAt .i64 a55'.block (a55'.off + 2)) fun x56' =>
         cnd (decide ((IntKind.i64.wrap (x51' + x52')) ≤ (IntKind.i64.wrap (x54' + x56')))) (
          onS (M50'.intAt .i64 (2 * M.nb.size) (0 + 1)) fun x57' =>
          onS (M50'.intAt .i64 (2 * M.nb.size) (0 + 3)) fun x58' =>
          adS x2 fun a59' =>
          onS (M50'.intAt .i64 a59'.block (a59'.off + 1)) fun x60' =>
          adS x2 fun a61' =>
          onS (M50'.intAt .i64 a61'.block (a61'.off + 3)) fun x62' =>
          A4_3 Ax1 lx1 cx1 x2 x5 x7 Ax8 lx8 cx8 x9 (some ⟨2 * M.nb.size, 0, none⟩) (decide ((IntKind.i64.wrap (x57' + x58')) ≤ (IntKind.i64.wrap (x60' + x62')))) M50' Q) (
          A4_3 Ax1 lx1 cx1 x2 x5 x7 Ax8 lx8 cx8 x9 (some ⟨2 * M.nb.size, 0, none⟩) false M50' Q)) (
       False)) (
      False)) (
      False)) (
     False)) (
     A4_4 x2 x5 x7 Ax8 lx8 cx8 0 M Q)) :
    A4_2 Ax1 lx1 cx1 x2 x5 x7 Ax8 lx8 cx8 x9 x58 M Q :=
  LvP.mk (cuts := K4) (sp := Z4) 900 H fun G => by kernel_rfl

theorem w4_3 {Ax1 : Option Addr} {lx1 cx1 : Nat} {x2 x5 x7 Ax8 : Option Addr} {lx8 cx8 : Nat} {x9 : Int} {x10 : Option Addr} {x11 : Bool} {M : Mem} {Q : Value → Mem → Prop} (H :
    A4_5 Ax1 lx1 cx1 x2 x5 x7 Ax8 lx8 cx8 x9 x10 x11 0 M Q) :
    A4_3 Ax1 lx1 cx1 x2 x5 x7 Ax8 lx8 cx8 x9 x10 x11 M Q :=
  LvP.mk (cuts := K4) (sp := Z4) 900 H fun G => by kernel_rfl

theorem w4_4 {x2 x5 x7 Ax8 : Option Addr} {lx8 cx8 : Nat} {x17 : Int} {M : Mem} {Q : Value → Mem → Prop} (H :
    adS x2 fun a63' =>
    onS (M.intAt .i64 a63'.block (a63'.off + 3)) fun x64' =>
    cnd (decide (x17 < (IntKind.i64.wrap (x64'.tdiv 8)))) (
     A4_6 x2 x5 x7 Ax8 lx8 cx8 x17 0 M Q) (
     adS x2 fun a65' =>
     onS (M.intAt .i64 a65'.block a65'.off) fun x66' =>
     adS x2 fun a67' =>
     onS (M.intAt .i64 a67'.block (a67'.off + 2)) fun x68' =>
     adS x2 fun a69' =>
     onS (M.intAt .i64 a69'.block (a69'.off + 1)) fun x70' =>
     Cn Try.prog 14 #[.pointer x5, .int .i64 (IntKind.i64.wrap (x66' + x68')), .int .i64 x70'] M fun v71' N71' =>
      tyS (asU 2 v71') fun cs72' =>
      tyS (asA 23 (cs72'.getD 0 undef)) fun cs73' =>
      asCellsP tyZpL0 0 cs73' fun vs74' =>
      tyS (asB (cs72'.getD 1 undef)) fun b75' =>
      tyS (asA 23 (.agg vs74'.toArray)) fun cs76' =>
      asCellsP tyZpL0 0 cs76' fun vs77' =>
      stP (some 23) vs77'.toArray (N71'.new (.cells #[.int .i64 0, .int .i64 0, .int .i64 0, .int .i64 0, .bool false, .bool false, .int .i64 0, .int .i64 0, .int .i64 0, .int .i64 0, .int .i64 0, .int .i64 0, .int .i64 0, .bool false, .int .i64 0, .int .i64 0, .int .i64 0, .int .i64 0, .int .i64 0, .int .i64 0, .int .i64 0, .int .i64 0, .bool false] 27)) (2 * N71'.nb.size) 0 fun M78' =>
      cnd (!b75') (
       Cn Try.prog 15 #[.pointer x5] M78' fun v79' N79' =>
        tyS (asS v79') fun s80' =>
        Q (.bool (((s80'.2.1 : Int)) == ((lx8 : Int)))) N79') (
       Q (.bool false) M78'))) :
    A4_4 x2 x5 x7 Ax8 lx8 cx8 x17 M Q :=
  LvP.mk (cuts := K4) (sp := Z4) 900 H fun G => by kernel_rfl

theorem w4_5 {Ax1 : Option Addr} {lx1 cx1 : Nat} {x2 x5 x7 Ax8 : Option Addr} {lx8 cx8 : Nat} {x9 : Int} {x10 : Option Addr} {x11 : Bool} {x12 : Int} {M : Mem} {Q : Value → Mem → Prop} (H :
    adS x10 fun a81' =>
    onS (M.intAt .i64 a81'.block (a81'.off + 3)) fun x82' =>
    cnd (decide (x12 < (IntKind.i64.wrap (x82'.tdiv 8)))) (
     A4_7 Ax1 lx1 cx1 x2 x5 x7 Ax8 lx8 cx8 x9 x10 x11 x12 x11 M Q) (
     A4_7 Ax1 lx1 cx1 x2 x5 x7 Ax8 lx8 cx8 x9 x10 x11 x12 false M Q)) :
    A4_5 Ax1 lx1 cx1 x2 x5 x7 Ax8 lx8 cx8 x9 x10 x11 x12 M Q :=
  LvP.mk (cuts := K4) (sp := Z4) 900 H fun G => by kernel_rfl

theorem w4_6 {x2 x5 x7 Ax8 : Option Addr} {lx8 cx8 : Nat} {x17 x18 : Int} {M : Mem} {Q : Value → Mem → Prop} (H :
    adS x2 fun a83' =>
    onS (M.intAt .i64 a83'.block (a83'.off + 2)) fun x84' =>
    cnd (decide (x18 < (IntKind.i64.wrap (x84'.tdiv 8)))) (
     adS x2 fun a85' =>
     onS (M.intAt .i64 a85'.block a85'.off) fun x86' =>
     adS x2 fun a87' =>
     onS (M.intAt .i64 a87'.block (a87'.off + 1)) fun x88' =>
     Cn Try.prog 14 #[.pointer x5, .int .i64 (IntKind.i64.wrap ((IntKind.i64.wrap (x86' + (IntKind.i64.wrap (8 * x18)))) + ((IntKind.i64.wrap (x18 + x17)).tmod 8))), .int .i64 (IntKind.i64.wrap ((IntKind.i64.wrap (x88' + (IntKind.i64.wrap (8 * x17)))) + (x17.tmod 8)))] M fun v89' N89' =>
      tyS (asU 2 v89') fun cs90' =>
      tyS (asA 23 (cs90'.getD 0 undef)) fun cs91' =>
      asCellsP tyZpL0 0 cs91' fun vs92' =>
      tyS (asB (cs90'.getD 1 undef)) fun b93' =>
      tyS (asA 23 (.agg vs92'.toArray)) fun cs94' =>
      asCellsP tyZpL0 0 cs94' fun vs95' =>
      stP (some 23) vs95'.toArray (N89'.new (.cells #[.int .i64 0, .int .i64 0, .int .i64 0, .int .i64 0, .bool false, .bool false, .int .i64 0, .int .i64 0, .int .i64 0, .int .i64 0, .int .i64 0, .int .i64 0, .int .i64 0, .bool false, .int .i64 0, .int .i64 0, .int .i64 0, .int .i64 0, .int .i64 0, .int .i64 0, .int .i64 0, .int .i64 0, .bool false] 27)) (2 * N89'.nb.size) 0 fun M96' =>
      ixS (idxA x7 16 16 x17) fun a97' =>
      ixS (idxA (some a97') 16 1 x18) fun a98' =>
      onS (M96'.intAt .i64 a98'.block a98'.off) fun x99' =>
      cnd (!(b93' == (decide (x99' > 0)))) (
       A4_8 x2 x5 x7 Ax8 lx8 cx8 x17 x18 true M96' Q) (
       cnd b93' (
        ldP tyZpL0 M96' (2 * N89'.nb.size) 0 fun vs100' =>
        ixS (idxA x7 16 16 x17) fun a101' =>
        ixS (idxA (some a101') 16 1 x18) fun a102' =>
        onS (M96'.intAt .i64 a102'.block a102'.off) fun x103' =>
        ixS (idxA Ax8 lx8 23 (IntKind.i64.wrap (x103' - 1))) fun a104' =>
        ldP tyZpL0 M96' a104'.block a104'.off fun vs105' =>
        puS (binV Try.prog .neq 27 27 (.agg vs100'.toArray) (.agg vs105'.toArray)) fun v106' =>
        tyS (asB v106') fun b107' =>
        A4_8 x2 x5 x7 Ax8 lx8 cx8 x17 x18 b107' M96' Q) (
        A4_8 x2 x5 x7 Ax8 lx8 cx8 x17 x18 false M96' Q))) (
     A4_4 x2 x5 x7 Ax8 lx8 cx8 (IntKind.i64.wrap (x17 + 1)) M Q)) :
    A4_6 x2 x5 x7 Ax8 lx8 cx8 x17 x18 M Q :=
  LvP.mk (cuts := K4) (sp := Z4) 900 H fun G => by kernel_rfl

theorem w4_7 {Ax1 : Option Addr} {lx1 cx1 : Nat} {x2 x5 x7 Ax8 : Option Addr} {lx8 cx8 : Nat} {x9 : Int} {x10 : Option Addr} {x11 : Bool} {x12 : Int} {x122 : Bool} {M : Mem} {Q : Value → Mem → Prop} (H :
    cnd x122 (
     A4_9 Ax1 lx1 cx1 x2 x5 x7 Ax8 lx8 cx8 x9 x10 x11 x12 0 M Q) (
     adS x10 fun a108' =>
     ldP tyZpL0 M a108'.block a108'.off fun vs109' =>
     Cn Try.prog 9 #[.pointer x5, .agg vs109'.toArray] M fun v110' N110' =>
      tyS (asI .i64 v110') fun x111' =>
      cnd (!((x111' == 0) == x11)) (
       A4_10 Ax1 lx1 cx1 x2 x5 x7 Ax8 lx8 cx8 x9 x10 x11 true N110' Q) (
       cnd (x111' != 0) (
        A4_10 Ax1 lx1 cx1 x2 x5 x7 Ax8 lx8 cx8 x9 x10 x11 (x111' != 2) N110' Q) (
        A4_10 Ax1 lx1 cx1 x2 x5 x7 Ax8 lx8 cx8 x9 x10 x11 false N110' Q)))) :
    A4_7 Ax1 lx1 cx1 x2 x5 x7 Ax8 lx8 cx8 x9 x10 x11 x12 x122 M Q :=
  LvP.mk (cuts := K4) (sp := Z4) 900 H fun G => by kernel_rfl

theorem w4_8 {x2 x5 x7 Ax8 : Option Addr} {lx8 cx8 : Nat} {x17 x18 : Int} {x270 : Bool} {M : Mem} {Q : Value → Mem → Prop} (H :
    cnd x270 (
     Q (.bool false) M) (
     A4_6 x2 x5 x7 Ax8 lx8 cx8 x17 (IntKind.i64.wrap (x18 + 1)) M Q)) :
    A4_8 x2 x5 x7 Ax8 lx8 cx8 x17 x18 x270 M Q :=
  LvP.mk (cuts := K4) (sp := Z4) 900 H fun G => by kernel_rfl

theorem w4_9 {Ax1 : Option Addr} {lx1 cx1 : Nat} {x2 x5 x7 Ax8 : Option Addr} {lx8 cx8 : Nat} {x9 : Int} {x10 : Option Addr} {x11 : Bool} {x12 x13 : Int} {M : Mem} {Q : Value → Mem → Prop} (H :
    adS x10 fun a112' =>
    onS (M.intAt .i64 a112'.block (a112'.off + 2)) fun x113' =>
    cnd (decide (x13 < (IntKind.i64.wrap (x113'.tdiv 8)))) (
     cnd x11 (
      adS x10 fun a114' =>
      onS (M.intAt .i64 a114'.block (a114'.off + 1)) fun x115' =>
      adS x2 fun a116' =>
      onS (M.intAt .i64 a116'.block (a116'.off + 1)) fun x117' =>
      adS x10 fun a118' =>
      onS (M.intAt .i64 a118'.block a118'.off) fun x119' =>
      adS x2 fun a120' =>
      onS (M.intAt .i64 a120'.block a120'.off) fun x121' =>
      ixS (idxA x7 16 16 (IntKind.i64.wrap ((IntKind.i64.wrap ((IntKind.i64.wrap (x115' - x117')).tdiv 8)) + x12))) fun a122' =>
      ixS (idxA (some a122') 16 1 (IntKind.i64.wrap ((IntKind.i64.wrap ((IntKind.i64.wrap (x119' - x121')).tdiv 8)) + x13))) fun a123' =>
      onS (M.intAt .i64 a123'.block a123'.off) fun x124' =>
      A4_11 Ax1 lx1 cx1 x2 x5 x7 Ax8 lx8 cx8 x9 x10 (x124' == 0) x12 x13 M Q) (
      A4_11 Ax1 lx1 cx1 x2 x5 x7 Ax8 lx8 cx8 x9 x10 false x12 x13 M Q)) (
     A4_5 Ax1 lx1 cx1 x2 x5 x7 Ax8 lx8 cx8 x9 x10 x11 (IntKind.i64.wrap (x12 + 1)) M Q)) :
    A4_9 Ax1 lx1 cx1 x2 x5 x7 Ax8 lx8 cx8 x9 x10 x11 x12 x13 M Q :=
  LvP.mk (cuts := K4) (sp := Z4) 900 H fun G => by kernel_rfl

theorem w4_10 {Ax1 : Option Addr} {lx1 cx1 : Nat} {x2 x5 x7 Ax8 : Option Addr} {lx8 cx8 : Nat} {x9 : Int} {x10 : Option Addr} {x11 x169 : Bool} {M : Mem} {Q : Value → Mem → Prop} (H :
    cnd x169 (
     Q (.bool false) M) (
     cnd (!x11) (
      A4_12 Ax1 lx1 cx1 x2 x5 x7 Ax8 lx8 cx8 x9 M Q) (
      adS x10 fun a125' =>
      onS (M.intAt .i64 a125'.block a125'.off) fun x126' =>
      onS (M.intAt .i64 a125'.block (a125'.off + 1)) fun x127' =>
      onS (M.intAt .i64 a125'.block (a125'.off + 2)) fun x128' =>
      onS (M.intAt .i64 a125'.block (a125'.off + 3)) fun x129' =>
      onS (M.boolAt a125'.block (a125'.off + 4)) fun b130' =>
      onS (M.boolAt a125'.block (a125'.off + 5)) fun b131' =>
      onS (M.intAt .i64 a125'.block (a125'.off + 6)) fun x132' =>
      onS (M.intAt .i64 a125'.block (a125'.off + 7)) fun x133' =>
      onS (M.intAt .i64 a125'.block (a125'.off + 8)) fun x134' =>
      onS (M.intAt .i64 a125'.block (a125'.off + 9)) fun x135' =>
      onS (M.intAt .i64 a125'.block (a125'.off + 10)) fun x136' =>
      onS (M.intAt .i64 a125'.block (a125'.off + 11)) fun x137' =>
      onS (M.intAt .i64 a125'.block (a125'.off + 12)) fun x138' =>
      onS (M.boolAt a125'.block (a125'.off + 13)) fun b139' =>
      onS (M.intAt .i64 a125'.block (a125'.off + 14)) fun x140' =>
      onS (M.intAt .i64 a125'.block (a125'.off + 15)) fun x141' =>
      onS (M.intAt .i64 a125'.block (a125'.off + 16)) fun x142' =>
      onS (M.intAt .i64 a125'.block (a125'.off + 17)) fun x143' =>
      onS (M.intAt .i64 a125'.block (a125'.off + 18)) fun x144' =>
      onS (M.intAt .i64 a125'.block (a125'.off + 19)) fun x145' =>
      onS (M.intAt .i64 a125'.block (a125'.off + 20)) fun x146' =>
      onS (M.intAt .i64 a125'.block (a125'.off + 21)) fun x147' =>
      onS (M.boolAt a125'.block (a125'.off + 22)) fun b148' =>
      meS (appendP Try.prog #[43, 43] (.slice Ax8 lx8 cx8) (.slice (some ⟨2 * M.nb.size, 0, none⟩) 1 1) (M.new (.cells #[.int .i64 x126', .int .i64 x127', .int .i64 x128', .int .i64 x129', .bool b130', .bool b131', .int .i64 x132', .int .i64 x133', .int .i64 x134', .int .i64 x135', .int .i64 x136', .int .i64 x137', .int .i64 x138', .bool b139', .int .i64 x140', .int .i64 x141', .int .i64 x142', .int .i64 x143', .int .i64 x144', .int .i64 x145', .int .i64 x146', .int .i64 x147', .bool b148'] 27))) fun r149' =>
      tyS (asS r149'.1) fun s150' =>
      A4_13 Ax1 lx1 cx1 x2 x5 x7 s150'.1 s150'.2.1 s150'.2.2 x9 x10 0 r149'.2 Q))) :
    A4_10 Ax1 lx1 cx1 x2 x5 x7 Ax8 lx8 cx8 x9 x10 x11 x169 M Q :=
  LvP.mk (cuts := K4) (sp := Z4) 900 H fun G => by kernel_rfl

theorem w4_11 {Ax1 : Option Addr} {lx1 cx1 : Nat} {x2 x5 x7 Ax8 : Option Addr} {lx8 cx8 : Nat} {x9 : Int} {x10 : Option Addr} {x11 : Bool} {x12 x13 : Int} {M : Mem} {Q : Value → Mem → Prop} (H :
    A4_14 Ax1 lx1 cx1 x2 x5 x7 Ax8 lx8 cx8 x9 x10 x11 x12 x13 M Q) :
    A4_11 Ax1 lx1 cx1 x2 x5 x7 Ax8 lx8 cx8 x9 x10 x11 x12 x13 M Q :=
  LvP.mk (cuts := K4) (sp := Z4) 900 H fun G => by kernel_rfl

theorem w4_12 {Ax1 : Option Addr} {lx1 cx1 : Nat} {x2 x5 x7 Ax8 : Option Addr} {lx8 cx8 : Nat} {x9 : Int} {M : Mem} {Q : Value → Mem → Prop} (H :
    A4_1 Ax1 lx1 cx1 x2 x5 x7 Ax8 lx8 cx8 (IntKind.i64.wrap (x9 + 1)) M Q) :
    A4_12 Ax1 lx1 cx1 x2 x5 x7 Ax8 lx8 cx8 x9 M Q :=
  LvP.mk (cuts := K4) (sp := Z4) 900 H fun G => by kernel_rfl

theorem w4_13 {Ax1 : Option Addr} {lx1 cx1 : Nat} {x2 x5 x7 Ax8 : Option Addr} {lx8 cx8 : Nat} {x9 : Int} {x10 : Option Addr} {x15 : Int} {M : Mem} {Q : Value → Mem → Prop} (H :
    adS x10 fun a151' =>
    onS (M.intAt .i64 a151'.block (a151'.off + 3)) fun x152' =>
    cnd (decide (x15 < (IntKind.i64.wrap (x152'.tdiv 8)))) (
     A4_15 Ax1 lx1 cx1 x2 x5 x7 Ax8 lx8 cx8 x9 x10 x15 0 M Q) (
     A4_12 Ax1 lx1 cx1 x2 x5 x7 Ax8 lx8 cx8 x9 M Q)) :
    A4_13 Ax1 lx1 cx1 x2 x5 x7 Ax8 lx8 cx8 x9 x10 x15 M Q :=
  LvP.mk (cuts := K4) (sp := Z4) 900 H fun G => by kernel_rfl

theorem w4_14 {Ax1 : Option Addr} {lx1 cx1 : Nat} {x2 x5 x7 Ax8 : Option Addr} {lx8 cx8 : Nat} {x9 : Int} {x10 : Option Addr} {x11 : Bool} {x12 x13 : Int} {M : Mem} {Q : Value → Mem → Prop} (H :
    A4_9 Ax1 lx1 cx1 x2 x5 x7 Ax8 lx8 cx8 x9 x10 x11 x12 (IntKind.i64.wrap (x13 + 1)) M Q) :
    A4_14 Ax1 lx1 cx1 x2 x5 x7 Ax8 lx8 cx8 x9 x10 x11 x12 x13 M Q :=
  LvP.mk (cuts := K4) (sp := Z4) 900 H fun G => by kernel_rfl

theorem w4_15 {Ax1 : Option Addr} {lx1 cx1 : Nat} {x2 x5 x7 Ax8 : Option Addr} {lx8 cx8 : Nat} {x9 : Int} {x10 : Option Addr} {x15 x16 : Int} {M : Mem} {Q : Value → Mem → Prop} (H :
    adS x10 fun a153' =>
    onS (M.intAt .i64 a153'.block (a153'.off + 2)) fun x154' =>
    cnd (decide (x16 < (IntKind.i64.wrap (x154'.tdiv 8)))) (
     adS x10 fun a155' =>
     onS (M.intAt .i64 a155'.block (a155'.off + 1)) fun x156' =>
     adS x2 fun a157' =>
     onS (M.intAt .i64 a157'.block (a157'.off + 1)) fun x158' =>
     adS x10 fun a159' =>
     onS (M.intAt .i64 a159'.block a159'.off) fun x160' =>
     adS x2 fun a161' =>
     onS (M.intAt .i64 a161'.block a161'.off) fun x162' =>
     ixS (idxA x7 16 16 (IntKind.i64.wrap ((IntKind.i64.wrap ((IntKind.i64.wrap (x156' - x158')).tdiv 8)) + x15))) fun a163' =>
     ixS (idxA (some a163') 16 1 (IntKind.i64.wrap ((IntKind.i64.wrap ((IntKind.i64.wrap (x160' - x162')).tdiv 8)) + x16))) fun a164' =>
     ptS (M.put a164'.block a164'.off (.int .i64 ((lx8 : Int)))) fun M165' =>
     A4_15 Ax1 lx1 cx1 x2 x5 x7 Ax8 lx8 cx8 x9 x10 x15 (IntKind.i64.wrap (x16 + 1)) M165' Q) (
     A4_13 Ax1 lx1 cx1 x2 x5 x7 Ax8 lx8 cx8 x9 x10 (IntKind.i64.wrap (x15 + 1)) M Q)) :
    A4_15 Ax1 lx1 cx1 x2 x5 x7 Ax8 lx8 cx8 x9 x10 x15 x16 M Q :=
  LvP.mk (cuts := K4) (sp := Z4) 900 H fun G => by kernel_rfl


end Go.Zt
