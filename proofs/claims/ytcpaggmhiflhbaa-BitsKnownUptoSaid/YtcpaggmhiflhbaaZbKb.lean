/- The functions' walks: for each function and each loop a rule of what it comes to. Printed by zw2.py. -/
import Derived.Test.YtcpaggmhiflhbaaProg
import Derived.Test.YtcpaggmhiflhbaaZbA1
import Derived.Test.YtcpaggmhiflhbaaZqT
set_option linter.unusedVariables false
set_option maxRecDepth 100000
namespace Go.Zt
open Go Go.Sim Go.Proofs

/-! ### zoetrope/zoetropelaw01.BitsKnown: function 8 -/
def K8 : List (List It × List Nat) := [([.code [1,1,1,1,0,1,0,0], .lp [1,1,1,1,0,1,0,0], .blk 0, .code [1,1,1,1,1]], [1, 2, 3, 4]), ([.code [1,1,1,1,1,1,1,1,1,0,1,0,0], .lp [1,1,1,1,1,1,1,1,1,0,1,0,0], .blk 2, .code [1,1,1,1,1,1,1,1,1,1]], [5, 6, 7, 8, 9]), ([.rg [1,1,1,1,1,1,1,1,1,0,1,0,0,1,0,0,1,1,1,1,0] 6, .code [1,1,1,1,1,1,1,1,1,0,1,0,0,1,0,0,1,1,1,1,1], .blk 3, .code [1,1,1,1,1,1,1,1,1,0,1,0,0,1,1], .lp [1,1,1,1,1,1,1,1,1,0,1,0,0], .blk 2, .code [1,1,1,1,1,1,1,1,1,1]], [5, 6, 7, 9, 13, 15, 17, 116]), ([.code [1,1,1,1,1,1,1,1,1,1,1,0,1,0,0], .lp [1,1,1,1,1,1,1,1,1,1,1,0,1,0,0], .blk 4, .code [1,1,1,1,1,1,1,1,1,1,1,1]], [5, 6, 8, 18, 19]), ([.rg [1,1,1,1,1,1,1,1,1,0,1,0,0,1,0,0,1,1,1,1,0] 10, .code [1,1,1,1,1,1,1,1,1,0,1,0,0,1,0,0,1,1,1,1,1], .blk 3, .code [1,1,1,1,1,1,1,1,1,0,1,0,0,1,1], .lp [1,1,1,1,1,1,1,1,1,0,1,0,0], .blk 2, .code [1,1,1,1,1,1,1,1,1,1]], [5, 6, 7, 9, 15, 17, 120]), ([.rg [1,1,1,1,1,1,1,1,1,1,1,0,1,0,0,1,0,0,0] 7, .code [1,1,1,1,1,1,1,1,1,1,1,0,1,0,0,1,0,0,1], .blk 5, .code [1,1,1,1,1,1,1,1,1,1,1,0,1,0,0,1,1], .lp [1,1,1,1,1,1,1,1,1,1,1,0,1,0,0], .blk 4, .code [1,1,1,1,1,1,1,1,1,1,1,1]], [5, 6, 18, 19, 156]), ([.rg [1,1,1,1,1,1,1,1,1,1,1,1,0] 7, .code [1,1,1,1,1,1,1,1,1,1,1,1,1]], [5, 6, 8, 190]), ([.rg [1,1,1,1,1,1,1,1,1,0,1,0,0,1,0,0,1,1,1,1,0] 14, .code [1,1,1,1,1,1,1,1,1,0,1,0,0,1,0,0,1,1,1,1,1], .blk 3, .code [1,1,1,1,1,1,1,1,1,0,1,0,0,1,1], .lp [1,1,1,1,1,1,1,1,1,0,1,0,0], .blk 2, .code [1,1,1,1,1,1,1,1,1,1]], [5, 6, 7, 9, 17, 124]), ([.rg [1,1,1,1,1,1,1,1,1,1,1,0,1,0,0,1,0,0,0] 12, .code [1,1,1,1,1,1,1,1,1,1,1,0,1,0,0,1,0,0,1], .blk 5, .code [1,1,1,1,1,1,1,1,1,1,1,0,1,0,0,1,1], .lp [1,1,1,1,1,1,1,1,1,1,1,0,1,0,0], .blk 4, .code [1,1,1,1,1,1,1,1,1,1,1,1]], [5, 6, 18, 19, 161]), ([.rg [1,1,1,1,1,1,1,1,1,1,1,1,0] 10, .code [1,1,1,1,1,1,1,1,1,1,1,1,1]], [6, 8, 193]), ([.rg [1,1,1,1,1,1,1,1,1,0,1,0,0,1,0,0,1,1,1,1,0] 18, .code [1,1,1,1,1,1,1,1,1,0,1,0,0,1,0,0,1,1,1,1,1], .blk 3, .code [1,1,1,1,1,1,1,1,1,0,1,0,0,1,1], .lp [1,1,1,1,1,1,1,1,1,0,1,0,0], .blk 2, .code [1,1,1,1,1,1,1,1,1,1]], [5, 6, 7, 9, 128]), ([.rg [1,1,1,1,1,1,1,1,1,1,1,0,1,0,0,1,0,0,0] 17, .code [1,1,1,1,1,1,1,1,1,1,1,0,1,0,0,1,0,0,1], .blk 5, .code [1,1,1,1,1,1,1,1,1,1,1,0,1,0,0,1,1], .lp [1,1,1,1,1,1,1,1,1,1,1,0,1,0,0], .blk 4, .code [1,1,1,1,1,1,1,1,1,1,1,1]], [5, 6, 18, 19, 166]), ([.rg [1,1,1,1,1,1,1,1,1,1,1,1,0] 13, .code [1,1,1,1,1,1,1,1,1,1,1,1,1]], [8, 196]), ([.rg [1,1,1,1,1,1,1,1,1,0,1,0,0,1,0,0,1,1,1,1,0] 23, .code [1,1,1,1,1,1,1,1,1,0,1,0,0,1,0,0,1,1,1,1,1], .blk 3, .code [1,1,1,1,1,1,1,1,1,0,1,0,0,1,1], .lp [1,1,1,1,1,1,1,1,1,0,1,0,0], .blk 2, .code [1,1,1,1,1,1,1,1,1,1]], [5, 6, 7, 9, 133]), ([.rg [1,1,1,1,1,1,1,1,1,1,1,0,1,0,0,1,0,0,0] 22, .code [1,1,1,1,1,1,1,1,1,1,1,0,1,0,0,1,0,0,1], .blk 5, .code [1,1,1,1,1,1,1,1,1,1,1,0,1,0,0,1,1], .lp [1,1,1,1,1,1,1,1,1,1,1,0,1,0,0], .blk 4, .code [1,1,1,1,1,1,1,1,1,1,1,1]], [5, 6, 18, 19, 171]), ([.rg [1,1,1,1,1,1,1,1,1,0,1,0,0,1,0,0,1,1,1,1,0] 28, .code [1,1,1,1,1,1,1,1,1,0,1,0,0,1,0,0,1,1,1,1,1], .blk 3, .code [1,1,1,1,1,1,1,1,1,0,1,0,0,1,1], .lp [1,1,1,1,1,1,1,1,1,0,1,0,0], .blk 2, .code [1,1,1,1,1,1,1,1,1,1]], [5, 6, 7, 9, 138]), ([.rg [1,1,1,1,1,1,1,1,1,1,1,0,1,0,0,1,0,0,0] 27, .code [1,1,1,1,1,1,1,1,1,1,1,0,1,0,0,1,0,0,1], .blk 5, .code [1,1,1,1,1,1,1,1,1,1,1,0,1,0,0,1,1], .lp [1,1,1,1,1,1,1,1,1,1,1,0,1,0,0], .blk 4, .code [1,1,1,1,1,1,1,1,1,1,1,1]], [5, 6, 18, 19, 176]), ([.code [1,1,1,1,1,1,1,1,1,0,1,0,0,1,0,0,1,1,1,1,1], .blk 3, .code [1,1,1,1,1,1,1,1,1,0,1,0,0,1,1], .lp [1,1,1,1,1,1,1,1,1,0,1,0,0], .blk 2, .code [1,1,1,1,1,1,1,1,1,1]], [5, 6, 8, 9]), ([.code [1,1,1,1,1,1,1,1,1,1,1,0,1,0,0,1,0,0,1], .blk 5, .code [1,1,1,1,1,1,1,1,1,1,1,0,1,0,0,1,1], .lp [1,1,1,1,1,1,1,1,1,1,1,0,1,0,0], .blk 4, .code [1,1,1,1,1,1,1,1,1,1,1,1]], [5, 6, 8, 19])]
def Z8 : List (List Nat × List Nat) := [([1,1,1,1,1,1,1,1,1,0,1,0,0,1,0,0,1,1,1,1,0], [6, 10, 14, 18, 23, 28, 34]), ([1,1,1,1,1,1,1,1,1,1,1,0,1,0,0,1,0,0,0], [7, 12, 17, 22, 27, 33]), ([1,1,1,1,1,1,1,1,1,1,1,1,0], [4, 7, 10, 13, 16])]
theorem b8 : Try.prog.funcs[8]? = some Try.f8 ∧ (Orc.tab Try.prog).lookup 8 = none ∧ Try.f8.body = some (codeOf Try.f8) := ⟨by kernel_rfl, by kernel_rfl, by kernel_rfl⟩
def A8_1 (x1 Ax2 : Option Addr) (lx2 cx2 : Nat) (Ax3 : Option Addr) (lx3 cx3 : Nat) (x4 : Int) (M : Mem) (Q : Value → Mem → Prop) : Prop := LvP Try.prog Try.f8 [(1, .pointer x1), (2, .slice Ax2 lx2 cx2), (3, .slice Ax3 lx3 cx3), (4, .int .i64 x4)] [.code [1,1,1,1,0,1,0,0], .lp [1,1,1,1,0,1,0,0], .blk 0, .code [1,1,1,1,1]] M Q
def A8_2 (x5 x6 : Bool) (x7 : Option Addr) (x8 : Bool) (x9 : Int) (M : Mem) (Q : Value → Mem → Prop) : Prop := LvP Try.prog Try.f8 [(5, .bool x5), (6, .bool x6), (7, .pointer x7), (8, .bool x8), (9, .int .i64 x9)] [.code [1,1,1,1,1,1,1,1,1,0,1,0,0], .lp [1,1,1,1,1,1,1,1,1,0,1,0,0], .blk 2, .code [1,1,1,1,1,1,1,1,1,1]] M Q
def A8_3 (x5 x6 : Bool) (x7 : Option Addr) (x9 x13 x15 x17 : Int) (x116 : Bool) (M : Mem) (Q : Value → Mem → Prop) : Prop := LvP Try.prog Try.f8 [(5, .bool x5), (6, .bool x6), (7, .pointer x7), (9, .int .i64 x9), (13, .int .i64 x13), (15, .int .i64 x15), (17, .int .i64 x17), (116, .bool x116)] [.rg [1,1,1,1,1,1,1,1,1,0,1,0,0,1,0,0,1,1,1,1,0] 6, .code [1,1,1,1,1,1,1,1,1,0,1,0,0,1,0,0,1,1,1,1,1], .blk 3, .code [1,1,1,1,1,1,1,1,1,0,1,0,0,1,1], .lp [1,1,1,1,1,1,1,1,1,0,1,0,0], .blk 2, .code [1,1,1,1,1,1,1,1,1,1]] M Q
def A8_4 (x5 x6 x8 : Bool) (x18 : Option Addr) (x19 : Int) (M : Mem) (Q : Value → Mem → Prop) : Prop := LvP Try.prog Try.f8 [(5, .bool x5), (6, .bool x6), (8, .bool x8), (18, .pointer x18), (19, .int .i64 x19)] [.code [1,1,1,1,1,1,1,1,1,1,1,0,1,0,0], .lp [1,1,1,1,1,1,1,1,1,1,1,0,1,0,0], .blk 4, .code [1,1,1,1,1,1,1,1,1,1,1,1]] M Q
def A8_5 (x5 x6 : Bool) (x7 : Option Addr) (x9 x15 x17 : Int) (x120 : Bool) (M : Mem) (Q : Value → Mem → Prop) : Prop := LvP Try.prog Try.f8 [(5, .bool x5), (6, .bool x6), (7, .pointer x7), (9, .int .i64 x9), (15, .int .i64 x15), (17, .int .i64 x17), (120, .bool x120)] [.rg [1,1,1,1,1,1,1,1,1,0,1,0,0,1,0,0,1,1,1,1,0] 10, .code [1,1,1,1,1,1,1,1,1,0,1,0,0,1,0,0,1,1,1,1,1], .blk 3, .code [1,1,1,1,1,1,1,1,1,0,1,0,0,1,1], .lp [1,1,1,1,1,1,1,1,1,0,1,0,0], .blk 2, .code [1,1,1,1,1,1,1,1,1,1]] M Q
def A8_6 (x5 x6 : Bool) (x18 : Option Addr) (x19 : Int) (x156 : Bool) (M : Mem) (Q : Value → Mem → Prop) : Prop := LvP Try.prog Try.f8 [(5, .bool x5), (6, .bool x6), (18, .pointer x18), (19, .int .i64 x19), (156, .bool x156)] [.rg [1,1,1,1,1,1,1,1,1,1,1,0,1,0,0,1,0,0,0] 7, .code [1,1,1,1,1,1,1,1,1,1,1,0,1,0,0,1,0,0,1], .blk 5, .code [1,1,1,1,1,1,1,1,1,1,1,0,1,0,0,1,1], .lp [1,1,1,1,1,1,1,1,1,1,1,0,1,0,0], .blk 4, .code [1,1,1,1,1,1,1,1,1,1,1,1]] M Q
def A8_7 (x5 x6 x8 x190 : Bool) (M : Mem) (Q : Value → Mem → Prop) : Prop := LvP Try.prog Try.f8 [(5, .bool x5), (6, .bool x6), (8, .bool x8), (190, .bool x190)] [.rg [1,1,1,1,1,1,1,1,1,1,1,1,0] 7, .code [1,1,1,1,1,1,1,1,1,1,1,1,1]] M Q
def A8_8 (x5 x6 : Bool) (x7 : Option Addr) (x9 x17 : Int) (x124 : Bool) (M : Mem) (Q : Value → Mem → Prop) : Prop := LvP Try.prog Try.f8 [(5, .bool x5), (6, .bool x6), (7, .pointer x7), (9, .int .i64 x9), (17, .int .i64 x17), (124, .bool x124)] [.rg [1,1,1,1,1,1,1,1,1,0,1,0,0,1,0,0,1,1,1,1,0] 14, .code [1,1,1,1,1,1,1,1,1,0,1,0,0,1,0,0,1,1,1,1,1], .blk 3, .code [1,1,1,1,1,1,1,1,1,0,1,0,0,1,1], .lp [1,1,1,1,1,1,1,1,1,0,1,0,0], .blk 2, .code [1,1,1,1,1,1,1,1,1,1]] M Q
def A8_9 (x5 x6 : Bool) (x18 : Option Addr) (x19 : Int) (x161 : Bool) (M : Mem) (Q : Value → Mem → Prop) : Prop := LvP Try.prog Try.f8 [(5, .bool x5), (6, .bool x6), (18, .pointer x18), (19, .int .i64 x19), (161, .bool x161)] [.rg [1,1,1,1,1,1,1,1,1,1,1,0,1,0,0,1,0,0,0] 12, .code [1,1,1,1,1,1,1,1,1,1,1,0,1,0,0,1,0,0,1], .blk 5, .code [1,1,1,1,1,1,1,1,1,1,1,0,1,0,0,1,1], .lp [1,1,1,1,1,1,1,1,1,1,1,0,1,0,0], .blk 4, .code [1,1,1,1,1,1,1,1,1,1,1,1]] M Q
def A8_10 (x6 x8 x193 : Bool) (M : Mem) (Q : Value → Mem → Prop) : Prop := LvP Try.prog Try.f8 [(6, .bool x6), (8, .bool x8), (193, .bool x193)] [.rg [1,1,1,1,1,1,1,1,1,1,1,1,0] 10, .code [1,1,1,1,1,1,1,1,1,1,1,1,1]] M Q
def A8_11 (x5 x6 : Bool) (x7 : Option Addr) (x9 : Int) (x128 : Bool) (M : Mem) (Q : Value → Mem → Prop) : Prop := LvP Try.prog Try.f8 [(5, .bool x5), (6, .bool x6), (7, .pointer x7), (9, .int .i64 x9), (128, .bool x128)] [.rg [1,1,1,1,1,1,1,1,1,0,1,0,0,1,0,0,1,1,1,1,0] 18, .code [1,1,1,1,1,1,1,1,1,0,1,0,0,1,0,0,1,1,1,1,1], .blk 3, .code [1,1,1,1,1,1,1,1,1,0,1,0,0,1,1], .lp [1,1,1,1,1,1,1,1,1,0,1,0,0], .blk 2, .code [1,1,1,1,1,1,1,1,1,1]] M Q
def A8_12 (x5 x6 : Bool) (x18 : Option Addr) (x19 : Int) (x166 : Bool) (M : Mem) (Q : Value → Mem → Prop) : Prop := LvP Try.prog Try.f8 [(5, .bool x5), (6, .bool x6), (18, .pointer x18), (19, .int .i64 x19), (166, .bool x166)] [.rg [1,1,1,1,1,1,1,1,1,1,1,0,1,0,0,1,0,0,0] 17, .code [1,1,1,1,1,1,1,1,1,1,1,0,1,0,0,1,0,0,1], .blk 5, .code [1,1,1,1,1,1,1,1,1,1,1,0,1,0,0,1,1], .lp [1,1,1,1,1,1,1,1,1,1,1,0,1,0,0], .blk 4, .code [1,1,1,1,1,1,1,1,1,1,1,1]] M Q
def A8_13 (x8 x196 : Bool) (M : Mem) (Q : Value → Mem → Prop) : Prop := LvP Try.prog Try.f8 [(8, .bool x8), (196, .bool x196)] [.rg [1,1,1,1,1,1,1,1,1,1,1,1,0] 13, .code [1,1,1,1,1,1,1,1,1,1,1,1,1]] M Q
def A8_14 (x5 x6 : Bool) (x7 : Option Addr) (x9 : Int) (x133 : Bool) (M : Mem) (Q : Value → Mem → Prop) : Prop := LvP Try.prog Try.f8 [(5, .bool x5), (6, .bool x6), (7, .pointer x7), (9, .int .i64 x9), (133, .bool x133)] [.rg [1,1,1,1,1,1,1,1,1,0,1,0,0,1,0,0,1,1,1,1,0] 23, .code [1,1,1,1,1,1,1,1,1,0,1,0,0,1,0,0,1,1,1,1,1], .blk 3, .code [1,1,1,1,1,1,1,1,1,0,1,0,0,1,1], .lp [1,1,1,1,1,1,1,1,1,0,1,0,0], .blk 2, .code [1,1,1,1,1,1,1,1,1,1]] M Q
def A8_15 (x5 x6 : Bool) (x18 : Option Addr) (x19 : Int) (x171 : Bool) (M : Mem) (Q : Value → Mem → Prop) : Prop := LvP Try.prog Try.f8 [(5, .bool x5), (6, .bool x6), (18, .pointer x18), (19, .int .i64 x19), (171, .bool x171)] [.rg [1,1,1,1,1,1,1,1,1,1,1,0,1,0,0,1,0,0,0] 22, .code [1,1,1,1,1,1,1,1,1,1,1,0,1,0,0,1,0,0,1], .blk 5, .code [1,1,1,1,1,1,1,1,1,1,1,0,1,0,0,1,1], .lp [1,1,1,1,1,1,1,1,1,1,1,0,1,0,0], .blk 4, .code [1,1,1,1,1,1,1,1,1,1,1,1]] M Q
def A8_16 (x5 x6 : Bool) (x7 : Option Addr) (x9 : Int) (x138 : Bool) (M : Mem) (Q : Value → Mem → Prop) : Prop := LvP Try.prog Try.f8 [(5, .bool x5), (6, .bool x6), (7, .pointer x7), (9, .int .i64 x9), (138, .bool x138)] [.rg [1,1,1,1,1,1,1,1,1,0,1,0,0,1,0,0,1,1,1,1,0] 28, .code [1,1,1,1,1,1,1,1,1,0,1,0,0,1,0,0,1,1,1,1,1], .blk 3, .code [1,1,1,1,1,1,1,1,1,0,1,0,0,1,1], .lp [1,1,1,1,1,1,1,1,1,0,1,0,0], .blk 2, .code [1,1,1,1,1,1,1,1,1,1]] M Q
def A8_17 (x5 x6 : Bool) (x18 : Option Addr) (x19 : Int) (x176 : Bool) (M : Mem) (Q : Value → Mem → Prop) : Prop := LvP Try.prog Try.f8 [(5, .bool x5), (6, .bool x6), (18, .pointer x18), (19, .int .i64 x19), (176, .bool x176)] [.rg [1,1,1,1,1,1,1,1,1,1,1,0,1,0,0,1,0,0,0] 27, .code [1,1,1,1,1,1,1,1,1,1,1,0,1,0,0,1,0,0,1], .blk 5, .code [1,1,1,1,1,1,1,1,1,1,1,0,1,0,0,1,1], .lp [1,1,1,1,1,1,1,1,1,1,1,0,1,0,0], .blk 4, .code [1,1,1,1,1,1,1,1,1,1,1,1]] M Q
def A8_18 (x5 x6 x8 : Bool) (x9 : Int) (M : Mem) (Q : Value → Mem → Prop) : Prop := LvP Try.prog Try.f8 [(5, .bool x5), (6, .bool x6), (8, .bool x8), (9, .int .i64 x9)] [.code [1,1,1,1,1,1,1,1,1,0,1,0,0,1,0,0,1,1,1,1,1], .blk 3, .code [1,1,1,1,1,1,1,1,1,0,1,0,0,1,1], .lp [1,1,1,1,1,1,1,1,1,0,1,0,0], .blk 2, .code [1,1,1,1,1,1,1,1,1,1]] M Q
def A8_19 (x5 x6 x8 : Bool) (x19 : Int) (M : Mem) (Q : Value → Mem → Prop) : Prop := LvP Try.prog Try.f8 [(5, .bool x5), (6, .bool x6), (8, .bool x8), (19, .int .i64 x19)] [.code [1,1,1,1,1,1,1,1,1,1,1,0,1,0,0,1,0,0,1], .blk 5, .code [1,1,1,1,1,1,1,1,1,1,1,0,1,0,0,1,1], .lp [1,1,1,1,1,1,1,1,1,1,1,0,1,0,0], .blk 4, .code [1,1,1,1,1,1,1,1,1,1,1,1]] M Q
theorem w8_0 {M : Mem} {Q : Value → Mem → Prop} (H :
    Cn Try.prog 9 #[] M fun v1' N1' =>
     tyS (asP v1') fun p2' =>
     Cn Try.prog 32 #[.pointer p2', .int .u32 8, .int .i64 3] N1' fun v3' N3' =>
      tyS (asI .i64 v3') fun x4' =>
      Cn Try.prog 32 #[.pointer p2', .int .u32 0, .int .i64 33] N3' fun v5' N5' =>
       tyS (asI .i64 v5') fun x6' =>
       Cn Try.prog 32 #[.pointer p2', .int .u32 0, .int .i64 (-1)] N5' fun v7' N7' =>
        tyS (asI .i64 v7') fun x8' =>
        Cn Try.prog 32 #[.pointer p2', .int .u32 0, .int .i64 0] N7' fun v9' N9' =>
         tyS (asI .i64 v9') fun x10' =>
         Cn Try.prog 32 #[.pointer p2', .int .u32 1, .int .i64 0] N9' fun v11' N11' =>
          tyS (asI .i64 v11') fun x12' =>
          Cn Try.prog 33 #[.pointer p2', .int .i32 0, .int .i64 0] N11' fun v13' N13' =>
           tyS (asI .i64 v13') fun x14' =>
           Cn Try.prog 33 #[.pointer p2', .int .i32 0, .int .i64 32] N13' fun v15' N15' =>
            tyS (asI .i64 v15') fun x16' =>
            Cn Try.prog 33 #[.pointer p2', .int .i32 (-2147483648), .int .i64 31] N15' fun v17' N17' =>
             tyS (asI .i64 v17') fun x18' =>
             Cn Try.prog 33 #[.pointer p2', .int .i32 4, .int .i64 2] N17' fun v19' N19' =>
              tyS (asI .i64 v19') fun x20' =>
              Cn Try.prog 33 #[.pointer p2', .int .i32 (-4), .int .i64 2] N19' fun v21' N21' =>
               tyS (asI .i64 v21') fun x22' =>
               Cn Try.prog 34 #[.pointer p2', .int .u32 4294967295] N21' fun v23' N23' =>
                tyS (asI .i64 v23') fun x24' =>
                Cn Try.prog 32 #[.pointer p2', .int .u32 1, .int .i64 1] N23' fun v25' N25' =>
                 tyS (asI .i64 v25') fun x26' =>
                 Cn Try.prog 35 #[.pointer p2', .int .u32 1] N25' fun v27' N27' =>
                  tyS (asI .i64 v27') fun x28' =>
                  Cn Try.prog 36 #[.pointer p2'] N27' fun v29' N29' =>
                   tyS (asI .i64 v29') fun x30' =>
                   Cn Try.prog 32 #[.pointer p2', .int .u32 4294967295, .int .i64 32] N29' fun v31' N31' =>
                    tyS (asI .i64 v31') fun x32' =>
                    Cn Try.prog 33 #[.pointer p2', .int .i32 (-2147483647), .int .i64 31] N31' fun v33' N33' =>
                     tyS (asI .i64 v33') fun x34' =>
                     Cn Try.prog 34 #[.pointer p2', .int .u32 4294967294] N33' fun v35' N35' =>
                      tyS (asI .i64 v35') fun x36' =>
                      Cn Try.prog 36 #[.pointer p2'] N35' fun v37' N37' =>
                       tyS (asI .i64 v37') fun x38' =>
                       Cn Try.prog 35 #[.pointer p2', .int .u32 4294967295] N37' fun v39' N39' =>
                        tyS (asI .i64 v39') fun x40' =>
                        Cn Try.prog 35 #[.pointer p2', .int .u32 0] N39' fun v41' N41' =>
                         tyS (asI .i64 v41') fun x42' =>
                         A8_1 p2' (some ⟨2 * N41'.nb.size, 0, none⟩) 20 20 (some ⟨2 * (N41'.new (.cells #[.int .i64 x4', .int .i64 x6', .int .i64 x8', .int .i64 x10', .int .i64 x12', .int .i64 x14', .int .i64 x16', .int .i64 x18', .int .i64 x20', .int .i64 x22', .int .i64 x24', .int .i64 x26', .int .i64 x28', .int .i64 x30', .int .i64 x32', .int .i64 x34', .int .i64 x36', .int .i64 x38', .int .i64 x40', .int .i64 x42'] 30)).nb.size, 0, none⟩) 20 20 0 ((N41'.new (.cells #[.int .i64 x4', .int .i64 x6', .int .i64 x8', .int .i64 x10', .int .i64 x12', .int .i64 x14', .int .i64 x16', .int .i64 x18', .int .i64 x20', .int .i64 x22', .int .i64 x24', .int .i64 x26', .int .i64 x28', .int .i64 x30', .int .i64 x32', .int .i64 x34', .int .i64 x36', .int .i64 x38', .int .i64 x40', .int .i64 x42'] 30)).new (.cells #[.int .i64 2, .int .i64 2, .int .i64 2, .int .i64 0, .int .i64 2, .int .i64 2, .int .i64 2, .int .i64 2, .int .i64 2, .int .i64 2, .int .i64 2, .int .i64 0, .int .i64 2, .int .i64 0, .int .i64 0, .int .i64 0, .int .i64 0, .int .i64 0, .int .i64 0, .int .i64 0] 30)) Q) :
    Cn Try.prog 8 #[] M Q :=
  Cn.mk (cuts := K8) (sp := Z8) 900 b8 rfl rfl H fun G => by kernel_rfl

theorem w8_1 {x1 Ax2 : Option Addr} {lx2 cx2 : Nat} {Ax3 : Option Addr} {lx3 cx3 : Nat} {x4 : Int} {M : Mem} {Q : Value → Mem → Prop} (H :
    cnd (decide (x4 < ((lx3 : Int)))) (
     ixS (idxA Ax2 lx2 1 x4) fun a43' =>
     onS (M.intAt .i64 a43'.block a43'.off) fun x44' =>
     ixS (idxA Ax3 lx3 1 x4) fun a45' =>
     onS (M.intAt .i64 a45'.block a45'.off) fun x46' =>
     cnd (x44' != x46') (
      Q (.bool false) M) (
      A8_1 x1 Ax2 lx2 cx2 Ax3 lx3 cx3 (IntKind.i64.wrap (x4 + 1)) M Q)) (
     Cn Try.prog 18 #[.pointer x1] M fun v47' N47' =>
      tyS (asS v47') fun s48' =>
      Cn Try.prog 19 #[.slice s48'.1 (s48'.2.1) (s48'.2.2), .slice (some ⟨2 * N47'.nb.size, 0, none⟩) 23 23] (N47'.new (.cells #[.int .u8 128, .int .u8 255, .int .u8 255, .int .u8 255, .int .u8 255, .int .u8 255, .int .u8 255, .int .u8 255, .int .u8 255, .int .u8 0, .int .u8 0, .int .u8 0, .int .u8 1, .int .u8 255, .int .u8 255, .int .u8 255, .int .u8 254, .int .u8 255, .int .u8 255, .int .u8 255, .int .u8 255, .int .u8 15, .int .u8 0] 5)) fun v49' N49' =>
       tyS (asB v49') fun b50' =>
       Cn Try.prog 22 #[.slice (some ⟨2 * N49'.nb.size, 0, none⟩) 3 3] (N49'.new (.cells #[.int .u8 1, .int .u8 2, .int .u8 3] 5)) fun v51' N51' =>
        tyS (asP v51') fun p52' =>
        Cn Try.prog 29 #[.pointer p52'] N51' fun v53' N53' =>
         tyS (asS v53') fun s54' =>
         Cn Try.prog 19 #[.slice s54'.1 (s54'.2.1) (s54'.2.2), .slice (some ⟨2 * N53'.nb.size, 0, none⟩) 3 3] (N53'.new (.cells #[.int .u8 1, .int .u8 2, .int .u8 3] 5)) fun v55' N55' =>
          tyS (asB v55') fun b56' =>
          A8_2 b50' b56' none true 0 N55' Q)) :
    A8_1 x1 Ax2 lx2 cx2 Ax3 lx3 cx3 x4 M Q :=
  LvP.mk (cuts := K8) (sp := Z8) 900 H fun G => by kernel_rfl

theorem w8_2 {x5 x6 : Bool} {x7 : Option Addr} {x8 : Bool} {x9 : Int} {M : Mem} {Q : Value → Mem → Prop} (H :
    cnd (decide (x9 < 2)) (
     Cn Try.prog 37 #[.pointer x7, .int .i64 99] M fun v57' N57' =>
      tyS (asU 2 v57') fun cs58' =>
      tyS (asI .u32 (cs58'.getD 0 undef)) fun x59' =>
      tyS (asI .i64 (cs58'.getD 1 undef)) fun x60' =>
      Cn Try.prog 38 #[.pointer x7, .int .i64 99] N57' fun v61' N61' =>
       tyS (asU 2 v61') fun cs62' =>
       tyS (asI .i32 (cs62'.getD 0 undef)) fun x63' =>
       tyS (asI .i64 (cs62'.getD 1 undef)) fun x64' =>
       Cn Try.prog 39 #[.pointer x7] N61' fun v65' N65' =>
        tyS (asU 2 v65') fun cs66' =>
        tyS (asI .u32 (cs66'.getD 0 undef)) fun x67' =>
        tyS (asI .i64 (cs66'.getD 1 undef)) fun x68' =>
        Cn Try.prog 40 #[.pointer x7] N65' fun v69' N69' =>
         tyS (asU 2 v69') fun cs70' =>
         tyS (asI .u32 (cs70'.getD 0 undef)) fun x71' =>
         tyS (asI .i64 (cs70'.getD 1 undef)) fun x72' =>
         cnd x8 (
          A8_3 x5 x6 x7 x9 x64' x68' x72' (x60' == 1) N69' Q) (
          A8_3 x5 x6 x7 x9 x64' x68' x72' false N69' Q)) (
     A8_4 x5 x6 x8 none 0 M Q)) :
    A8_2 x5 x6 x7 x8 x9 M Q :=
  LvP.mk (cuts := K8) (sp := Z8) 900 H fun G => by kernel_rfl

theorem w8_3 {x5 x6 : Bool} {x7 : Option Addr} {x9 x13 x15 x17 : Int} {x116 : Bool} {M : Mem} {Q : Value → Mem → Prop} (H :
    cnd x116 (
     A8_5 x5 x6 x7 x9 x15 x17 (x13 == 1) M Q) (
     A8_5 x5 x6 x7 x9 x15 x17 false M Q)) :
    A8_3 x5 x6 x7 x9 x13 x15 x17 x116 M Q :=
  LvP.mk (cuts := K8) (sp := Z8) 900 H fun G => by kernel_rfl

theorem w8_4 {x5 x6 x8 : Bool} {x18 : Option Addr} {x19 : Int} {M : Mem} {Q : Value → Mem → Prop} (H :
    cnd (decide (x19 < 2)) (
     cnd x8 (
      Cn Try.prog 32 #[.pointer x18, .int .u32 9, .int .i64 1] M fun v73' N73' =>
       tyS (asI .i64 v73') fun x74' =>
       A8_6 x5 x6 x18 x19 (x74' == 1) N73' Q) (
      A8_6 x5 x6 x18 x19 false M Q)) (
     Cn Try.prog 21 #[] M fun v75' N75' =>
      tyS (asB v75') fun b76' =>
      cnd b76' (
       Cn Try.prog 41 #[] N75' fun v77' N77' =>
        tyS (asB v77') fun b78' =>
        A8_7 x5 x6 x8 b78' N77' Q) (
       A8_7 x5 x6 x8 false N75' Q))) :
    A8_4 x5 x6 x8 x18 x19 M Q :=
  LvP.mk (cuts := K8) (sp := Z8) 900 H fun G => by kernel_rfl

theorem w8_5 {x5 x6 : Bool} {x7 : Option Addr} {x9 x15 x17 : Int} {x120 : Bool} {M : Mem} {Q : Value → Mem → Prop} (H :
    cnd x120 (
     A8_8 x5 x6 x7 x9 x17 (x15 == 1) M Q) (
     A8_8 x5 x6 x7 x9 x17 false M Q)) :
    A8_5 x5 x6 x7 x9 x15 x17 x120 M Q :=
  LvP.mk (cuts := K8) (sp := Z8) 900 H fun G => by kernel_rfl

theorem w8_6 {x5 x6 : Bool} {x18 : Option Addr} {x19 : Int} {x156 : Bool} {M : Mem} {Q : Value → Mem → Prop} (H :
    cnd x156 (
     Cn Try.prog 33 #[.pointer x18, .int .i32 9, .int .i64 1] M fun v79' N79' =>
      tyS (asI .i64 v79') fun x80' =>
      A8_9 x5 x6 x18 x19 (x80' == 1) N79' Q) (
     A8_9 x5 x6 x18 x19 false M Q)) :
    A8_6 x5 x6 x18 x19 x156 M Q :=
  LvP.mk (cuts := K8) (sp := Z8) 900 H fun G => by kernel_rfl

theorem w8_7 {x5 x6 x8 x190 : Bool} {M : Mem} {Q : Value → Mem → Prop} (H :
    cnd x190 (
     A8_10 x6 x8 x5 M Q) (
     A8_10 x6 x8 false M Q)) :
    A8_7 x5 x6 x8 x190 M Q :=
  LvP.mk (cuts := K8) (sp := Z8) 900 H fun G => by kernel_rfl

theorem w8_8 {x5 x6 : Bool} {x7 : Option Addr} {x9 x17 : Int} {x124 : Bool} {M : Mem} {Q : Value → Mem → Prop} (H :
    cnd x124 (
     A8_11 x5 x6 x7 x9 (x17 == 1) M Q) (
     A8_11 x5 x6 x7 x9 false M Q)) :
    A8_8 x5 x6 x7 x9 x17 x124 M Q :=
  LvP.mk (cuts := K8) (sp := Z8) 900 H fun G => by kernel_rfl

theorem w8_9 {x5 x6 : Bool} {x18 : Option Addr} {x19 : Int} {x161 : Bool} {M : Mem} {Q : Value → Mem → Prop} (H :
    cnd x161 (
     Cn Try.prog 34 #[.pointer x18, .int .u32 4294967295] M fun v81' N81' =>
      tyS (asI .i64 v81') fun x82' =>
      A8_12 x5 x6 x18 x19 (x82' == 1) N81' Q) (
     A8_12 x5 x6 x18 x19 false M Q)) :
    A8_9 x5 x6 x18 x19 x161 M Q :=
  LvP.mk (cuts := K8) (sp := Z8) 900 H fun G => by kernel_rfl

theorem w8_10 {x6 x8 x193 : Bool} {M : Mem} {Q : Value → Mem → Prop} (H :
    cnd x193 (
     A8_13 x8 x6 M Q) (
     A8_13 x8 false M Q)) :
    A8_10 x6 x8 x193 M Q :=
  LvP.mk (cuts := K8) (sp := Z8) 900 H fun G => by kernel_rfl

theorem w8_11 {x5 x6 : Bool} {x7 : Option Addr} {x9 : Int} {x128 : Bool} {M : Mem} {Q : Value → Mem → Prop} (H :
    cnd x128 (
     Cn Try.prog 31 #[.pointer x7] M fun v83' N83' =>
      tyS (asI .i64 v83') fun x84' =>
      A8_14 x5 x6 x7 x9 (x84' == 1) N83' Q) (
     A8_14 x5 x6 x7 x9 false M Q)) :
    A8_11 x5 x6 x7 x9 x128 M Q :=
  LvP.mk (cuts := K8) (sp := Z8) 900 H fun G => by kernel_rfl

theorem w8_12 {x5 x6 : Bool} {x18 : Option Addr} {x19 : Int} {x166 : Bool} {M : Mem} {Q : Value → Mem → Prop} (H :
    cnd x166 (
     Cn Try.prog 35 #[.pointer x18, .int .u32 0] M fun v85' N85' =>
      tyS (asI .i64 v85') fun x86' =>
      A8_15 x5 x6 x18 x19 (x86' == 1) N85' Q) (
     A8_15 x5 x6 x18 x19 false M Q)) :
    A8_12 x5 x6 x18 x19 x166 M Q :=
  LvP.mk (cuts := K8) (sp := Z8) 900 H fun G => by kernel_rfl

theorem w8_13 {x8 x196 : Bool} {M : Mem} {Q : Value → Mem → Prop} (H :
    cnd x196 (
     Q (.bool x8) M) (
     Q (.bool false) M)) :
    A8_13 x8 x196 M Q :=
  LvP.mk (cuts := K8) (sp := Z8) 900 H fun G => by kernel_rfl

theorem w8_14 {x5 x6 : Bool} {x7 : Option Addr} {x9 : Int} {x133 : Bool} {M : Mem} {Q : Value → Mem → Prop} (H :
    cnd x133 (
     Cn Try.prog 24 #[.pointer x7] M fun v87' N87' =>
      tyS (asI .i64 v87') fun x88' =>
      A8_16 x5 x6 x7 x9 (x88' == 0) N87' Q) (
     A8_16 x5 x6 x7 x9 false M Q)) :
    A8_14 x5 x6 x7 x9 x133 M Q :=
  LvP.mk (cuts := K8) (sp := Z8) 900 H fun G => by kernel_rfl

theorem w8_15 {x5 x6 : Bool} {x18 : Option Addr} {x19 : Int} {x171 : Bool} {M : Mem} {Q : Value → Mem → Prop} (H :
    cnd x171 (
     Cn Try.prog 36 #[.pointer x18] M fun v89' N89' =>
      tyS (asI .i64 v89') fun x90' =>
      A8_17 x5 x6 x18 x19 (x90' == 1) N89' Q) (
     A8_17 x5 x6 x18 x19 false M Q)) :
    A8_15 x5 x6 x18 x19 x171 M Q :=
  LvP.mk (cuts := K8) (sp := Z8) 900 H fun G => by kernel_rfl

theorem w8_16 {x5 x6 : Bool} {x7 : Option Addr} {x9 : Int} {x138 : Bool} {M : Mem} {Q : Value → Mem → Prop} (H :
    cnd x138 (
     Cn Try.prog 29 #[.pointer x7] M fun v91' N91' =>
      tyS (asS v91') fun s92' =>
      A8_18 x5 x6 (((s92'.2.1 : Int)) == 0) x9 N91' Q) (
     A8_18 x5 x6 false x9 M Q)) :
    A8_16 x5 x6 x7 x9 x138 M Q :=
  LvP.mk (cuts := K8) (sp := Z8) 900 H fun G => by kernel_rfl

theorem w8_17 {x5 x6 : Bool} {x18 : Option Addr} {x19 : Int} {x176 : Bool} {M : Mem} {Q : Value → Mem → Prop} (H :
    cnd x176 (
     Cn Try.prog 18 #[.pointer x18] M fun v93' N93' =>
      tyS (asS v93') fun s94' =>
      A8_19 x5 x6 (((s94'.2.1 : Int)) == 0) x19 N93' Q) (
     A8_19 x5 x6 false x19 M Q)) :
    A8_17 x5 x6 x18 x19 x176 M Q :=
  LvP.mk (cuts := K8) (sp := Z8) 900 H fun G => by kernel_rfl

theorem w8_18 {x5 x6 x8 : Bool} {x9 : Int} {M : Mem} {Q : Value → Mem → Prop} (H :
    A8_2 x5 x6 (some ⟨2 * M.nb.size, 0, none⟩) x8 (IntKind.i64.wrap (x9 + 1)) (M.new (.cells #[.slice none 0 0, .int .i64 0, .bool false] 58)) Q) :
    A8_18 x5 x6 x8 x9 M Q :=
  LvP.mk (cuts := K8) (sp := Z8) 900 H fun G => by kernel_rfl

theorem w8_19 {x5 x6 x8 : Bool} {x19 : Int} {M : Mem} {Q : Value → Mem → Prop} (H :
    A8_4 x5 x6 x8 (some ⟨2 * M.nb.size, 0, none⟩) (IntKind.i64.wrap (x19 + 1)) (M.new (.cells #[.slice none 0 0, .int .i64 0, .bool false] 60)) Q) :
    A8_19 x5 x6 x8 x19 M Q :=
  LvP.mk (cuts := K8) (sp := Z8) 900 H fun G => by kernel_rfl


end Go.Zt
