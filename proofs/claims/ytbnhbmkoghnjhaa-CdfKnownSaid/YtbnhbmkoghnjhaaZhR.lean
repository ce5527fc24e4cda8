/- The functions' walks: for each function and each loop a rule of what it comes to. Printed by zw2.py. -/
import Derived.Test.YtbnhbmkoghnjhaaProg
import Derived.Test.YtbnhbmkoghnjhaaZhA
import Derived.Test.YtbnhbmkoghnjhaaZqT
set_option linter.unusedVariables false
set_option maxRecDepth 100000
namespace Go.Zt
open Go Go.Sim Go.Proofs

/-! ### zoetrope/zoetropelaw03.CdfKnown: function 9 -/
def K9 : List (List It × List Nat) := [([.rg [1,1,1,1,1,1,0] 7, .code [1,1,1,1,1,1,1]], [1, 3, 6, 8, 9, 10, 87]), ([.rg [1,1,1,1,1,1,0] 11, .code [1,1,1,1,1,1,1]], [1, 3, 8, 9, 10, 91]), ([.rg [1,1,1,1,1,1,0] 15, .code [1,1,1,1,1,1,1]], [1, 3, 9, 10, 95]), ([.rg [1,1,1,1,1,1,0] 19, .code [1,1,1,1,1,1,1]], [1, 3, 9, 99]), ([.rg [1,1,1,1,1,1,0] 24, .code [1,1,1,1,1,1,1]], [1, 3, 9, 104]), ([.rg [1,1,1,1,1,1,0] 29, .code [1,1,1,1,1,1,1]], [1, 9, 109]), ([.rg [1,1,1,1,1,1,0] 35, .code [1,1,1,1,1,1,1]], [1, 9, 115]), ([.code [1,1,1,1,1,1,1]], [1, 11]), ([.code [1,1,1,1,1,1,1,1,0,1,0,0], .lp [1,1,1,1,1,1,1,1,0,1,0,0], .blk 0, .code [1,1,1,1,1,1,1,1,1]], [1, 11, 12, 13]), ([.rg [1,1,1,1,1,1,1,1,0,1,0,0,1,0,0,1,1,1,1,0] 11, .code [1,1,1,1,1,1,1,1,0,1,0,0,1,0,0,1,1,1,1,1], .blk 1, .code [1,1,1,1,1,1,1,1,0,1,0,0,1,1], .lp [1,1,1,1,1,1,1,1,0,1,0,0], .blk 0, .code [1,1,1,1,1,1,1,1,1]], [1, 11, 12, 13, 18, 20, 22, 188]), ([.rg [1,1,1,1,1,1,1,1,1,1,1,1,0] 7, .code [1,1,1,1,1,1,1,1,1,1,1,1,1]], [1, 11, 26, 27, 28, 29, 220]), ([.rg [1,1,1,1,1,1,1,1,0,1,0,0,1,0,0,1,1,1,1,0] 15, .code [1,1,1,1,1,1,1,1,0,1,0,0,1,0,0,1,1,1,1,1], .blk 1, .code [1,1,1,1,1,1,1,1,0,1,0,0,1,1], .lp [1,1,1,1,1,1,1,1,0,1,0,0], .blk 0, .code [1,1,1,1,1,1,1,1,1]], [1, 11, 12, 13, 20, 22, 192]), ([.rg [1,1,1,1,1,1,1,1,1,1,1,1,0] 11, .code [1,1,1,1,1,1,1,1,1,1,1,1,1]], [1, 11, 27, 28, 29, 224]), ([.rg [1,1,1,1,1,1,1,1,0,1,0,0,1,0,0,1,1,1,1,0] 19, .code [1,1,1,1,1,1,1,1,0,1,0,0,1,0,0,1,1,1,1,1], .blk 1, .code [1,1,1,1,1,1,1,1,0,1,0,0,1,1], .lp [1,1,1,1,1,1,1,1,0,1,0,0], .blk 0, .code [1,1,1,1,1,1,1,1,1]], [1, 11, 12, 13, 22, 196]), ([.rg [1,1,1,1,1,1,1,1,1,1,1,1,0] 15, .code [1,1,1,1,1,1,1,1,1,1,1,1,1]], [1, 11, 28, 29, 228]), ([.code [1,1,1,1,1,1,1,1,0,1,0,0,1,0,0,1,1,1,1,1], .blk 1, .code [1,1,1,1,1,1,1,1,0,1,0,0,1,1], .lp [1,1,1,1,1,1,1,1,0,1,0,0], .blk 0, .code [1,1,1,1,1,1,1,1,1]], [1, 11, 12, 13, 199]), ([.rg [1,1,1,1,1,1,1,1,1,1,1,1,0] 19, .code [1,1,1,1,1,1,1,1,1,1,1,1,1]], [1, 11, 29, 232]), ([.code [1,1,1,1,1,1,1,1,1,1,1,1,1]], [1, 11, 30]), ([.rg [1,1,1,1,1,1,1,1,1,1,1,1,1,1,1,1,1,1,1,1,1,0] 7, .code [1,1,1,1,1,1,1,1,1,1,1,1,1,1,1,1,1,1,1,1,1,1]], [11, 30, 31, 40, 42, 43, 44, 46, 48, 284]), ([.rg [1,1,1,1,1,1,1,1,1,1,1,1,1,1,1,1,1,1,1,1,1,0] 11, .code [1,1,1,1,1,1,1,1,1,1,1,1,1,1,1,1,1,1,1,1,1,1]], [11, 30, 31, 42, 43, 44, 46, 48, 288]), ([.rg [1,1,1,1,1,1,1,1,1,1,1,1,1,1,1,1,1,1,1,1,1,0] 15, .code [1,1,1,1,1,1,1,1,1,1,1,1,1,1,1,1,1,1,1,1,1,1]], [11, 30, 31, 43, 44, 46, 48, 292]), ([.rg [1,1,1,1,1,1,1,1,1,1,1,1,1,1,1,1,1,1,1,1,1,0] 19, .code [1,1,1,1,1,1,1,1,1,1,1,1,1,1,1,1,1,1,1,1,1,1]], [11, 30, 31, 44, 46, 48, 296]), ([.rg [1,1,1,1,1,1,1,1,1,1,1,1,1,1,1,1,1,1,1,1,1,0] 23, .code [1,1,1,1,1,1,1,1,1,1,1,1,1,1,1,1,1,1,1,1,1,1]], [11, 30, 31, 46, 48, 300]), ([.rg [1,1,1,1,1,1,1,1,1,1,1,1,1,1,1,1,1,1,1,1,1,0] 27, .code [1,1,1,1,1,1,1,1,1,1,1,1,1,1,1,1,1,1,1,1,1,1]], [11, 30, 31, 48, 304]), ([.code [1,1,1,1,1,1,1,1,1,1,1,1,1,1,1,1,1,1,1,1,1,1]], [11, 30, 31, 49]), ([.rg [1,1,1,1,1,1,1,1,1,1,1,1,1,1,1,1,1,1,1,1,1,1,1,1,1,1,1,0] 9, .code [1,1,1,1,1,1,1,1,1,1,1,1,1,1,1,1,1,1,1,1,1,1,1,1,1,1,1,1]], [11, 30, 49, 54, 56, 58, 349]), ([.rg [1,1,1,1,1,1,1,1,1,1,1,1,1,1,1,1,1,1,1,1,1,1,1,1,1,1,1,0] 14, .code [1,1,1,1,1,1,1,1,1,1,1,1,1,1,1,1,1,1,1,1,1,1,1,1,1,1,1,1]], [11, 30, 49, 56, 58, 354]), ([.rg [1,1,1,1,1,1,1,1,1,1,1,1,1,1,1,1,1,1,1,1,1,1,1,1,1,1,1,0] 19, .code [1,1,1,1,1,1,1,1,1,1,1,1,1,1,1,1,1,1,1,1,1,1,1,1,1,1,1,1]], [11, 30, 49, 58, 359]), ([.code [1,1,1,1,1,1,1,1,1,1,1,1,1,1,1,1,1,1,1,1,1,1,1,1,1,1,1,1]], [11, 30, 49, 60]), ([.rg [1,1,1,1,1,1,1,1,1,1,1,1,1,1,1,1,1,1,1,1,1,1,1,1,1,1,1,1,0] 7, .code [1,1,1,1,1,1,1,1,1,1,1,1,1,1,1,1,1,1,1,1,1,1,1,1,1,1,1,1,1]], [30, 49, 60, 370]), ([.rg [1,1,1,1,1,1,1,1,1,1,1,1,1,1,1,1,1,1,1,1,1,1,1,1,1,1,1,1,0] 10, .code [1,1,1,1,1,1,1,1,1,1,1,1,1,1,1,1,1,1,1,1,1,1,1,1,1,1,1,1,1]], [49, 60, 373]), ([.rg [1,1,1,1,1,1,1,1,1,1,1,1,1,1,1,1,1,1,1,1,1,1,1,1,1,1,1,1,0] 13, .code [1,1,1,1,1,1,1,1,1,1,1,1,1,1,1,1,1,1,1,1,1,1,1,1,1,1,1,1,1]], [60, 376])]
def Z9 : List (List Nat × List Nat) := [([1,1,1,1,1,1,0], [7, 11, 15, 19, 24, 29, 35, 42]), ([1,1,1,1,1,1,1,1,0,1,0,0,1,0,0,1,1,1,1,0], [11, 15, 19, 22]), ([1,1,1,1,1,1,1,1,1,1,1,1,0], [7, 11, 15, 19, 23]), ([1,1,1,1,1,1,1,1,1,1,1,1,1,1,1,1,1,1,1,1,1,0], [7, 11, 15, 19, 23, 27, 31]), ([1,1,1,1,1,1,1,1,1,1,1,1,1,1,1,1,1,1,1,1,1,1,1,1,1,1,1,0], [9, 14, 19, 24]), ([1,1,1,1,1,1,1,1,1,1,1,1,1,1,1,1,1,1,1,1,1,1,1,1,1,1,1,1,0], [4, 7, 10, 13, 16])]
theorem b9 : Try.prog.funcs[9]? = some Try.f9 ∧ (Orc.tab Try.prog).lookup 9 = none ∧ Try.f9.body = some (codeOf Try.f9) := ⟨by kernel_rfl, by kernel_rfl, by kernel_rfl⟩
def A9_1 (x1 x3 : Option Addr) (x6 x8 : Int) (x9 : Option Addr) (x10 : Int) (x87 : Bool) (M : Mem) (Q : Value → Mem → Prop) : Prop := LvP Try.prog Try.f9 [(1, .pointer x1), (3, .pointer x3), (6, .int .i64 x6), (8, .int .i64 x8), (9, .pointer x9), (10, .int .i64 x10), (87, .bool x87)] [.rg [1,1,1,1,1,1,0] 7, .code [1,1,1,1,1,1,1]] M Q
def A9_2 (x1 x3 : Option Addr) (x8 : Int) (x9 : Option Addr) (x10 : Int) (x91 : Bool) (M : Mem) (Q : Value → Mem → Prop) : Prop := LvP Try.prog Try.f9 [(1, .pointer x1), (3, .pointer x3), (8, .int .i64 x8), (9, .pointer x9), (10, .int .i64 x10), (91, .bool x91)] [.rg [1,1,1,1,1,1,0] 11, .code [1,1,1,1,1,1,1]] M Q
def A9_3 (x1 x3 x9 : Option Addr) (x10 : Int) (x95 : Bool) (M : Mem) (Q : Value → Mem → Prop) : Prop := LvP Try.prog Try.f9 [(1, .pointer x1), (3, .pointer x3), (9, .pointer x9), (10, .int .i64 x10), (95, .bool x95)] [.rg [1,1,1,1,1,1,0] 15, .code [1,1,1,1,1,1,1]] M Q
def A9_4 (x1 x3 x9 : Option Addr) (x99 : Bool) (M : Mem) (Q : Value → Mem → Prop) : Prop := LvP Try.prog Try.f9 [(1, .pointer x1), (3, .pointer x3), (9, .pointer x9), (99, .bool x99)] [.rg [1,1,1,1,1,1,0] 19, .code [1,1,1,1,1,1,1]] M Q
def A9_5 (x1 x3 x9 : Option Addr) (x104 : Bool) (M : Mem) (Q : Value → Mem → Prop) : Prop := LvP Try.prog Try.f9 [(1, .pointer x1), (3, .pointer x3), (9, .pointer x9), (104, .bool x104)] [.rg [1,1,1,1,1,1,0] 24, .code [1,1,1,1,1,1,1]] M Q
def A9_6 (x1 x9 : Option Addr) (x109 : Bool) (M : Mem) (Q : Value → Mem → Prop) : Prop := LvP Try.prog Try.f9 [(1, .pointer x1), (9, .pointer x9), (109, .bool x109)] [.rg [1,1,1,1,1,1,0] 29, .code [1,1,1,1,1,1,1]] M Q
def A9_7 (x1 x9 : Option Addr) (x115 : Bool) (M : Mem) (Q : Value → Mem → Prop) : Prop := LvP Try.prog Try.f9 [(1, .pointer x1), (9, .pointer x9), (115, .bool x115)] [.rg [1,1,1,1,1,1,0] 35, .code [1,1,1,1,1,1,1]] M Q
def A9_8 (x1 : Option Addr) (x11 : Bool) (M : Mem) (Q : Value → Mem → Prop) : Prop := LvP Try.prog Try.f9 [(1, .pointer x1), (11, .bool x11)] [.code [1,1,1,1,1,1,1]] M Q
def A9_9 (x1 : Option Addr) (x11 : Bool) (Ax12 : Option Addr) (lx12 cx12 : Nat) (x13 : Int) (M : Mem) (Q : Value → Mem → Prop) : Prop := LvP Try.prog Try.f9 [(1, .pointer x1), (11, .bool x11), (12, .slice Ax12 lx12 cx12), (13, .int .i64 x13)] [.code [1,1,1,1,1,1,1,1,0,1,0,0], .lp [1,1,1,1,1,1,1,1,0,1,0,0], .blk 0, .code [1,1,1,1,1,1,1,1,1]] M Q
def A9_10 (x1 : Option Addr) (x11 : Bool) (Ax12 : Option Addr) (lx12 cx12 : Nat) (x13 x18 x20 x22 : Int) (x188 : Bool) (M : Mem) (Q : Value → Mem → Prop) : Prop := LvP Try.prog Try.f9 [(1, .pointer x1), (11, .bool x11), (12, .slice Ax12 lx12 cx12), (13, .int .i64 x13), (18, .int .i64 x18), (20, .int .i64 x20), (22, .int .i64 x22), (188, .bool x188)] [.rg [1,1,1,1,1,1,1,1,0,1,0,0,1,0,0,1,1,1,1,0] 11, .code [1,1,1,1,1,1,1,1,0,1,0,0,1,0,0,1,1,1,1,1], .blk 1, .code [1,1,1,1,1,1,1,1,0,1,0,0,1,1], .lp [1,1,1,1,1,1,1,1,0,1,0,0], .blk 0, .code [1,1,1,1,1,1,1,1,1]] M Q
def A9_11 (x1 : Option Addr) (x11 : Bool) (x26 x27 x28 x29 : Int) (x220 : Bool) (M : Mem) (Q : Value → Mem → Prop) : Prop := LvP Try.prog Try.f9 [(1, .pointer x1), (11, .bool x11), (26, .int .i64 x26), (27, .int .u32 x27), (28, .int .u32 x28), (29, .int .i64 x29), (220, .bool x220)] [.rg [1,1,1,1,1,1,1,1,1,1,1,1,0] 7, .code [1,1,1,1,1,1,1,1,1,1,1,1,1]] M Q
def A9_12 (x1 : Option Addr) (x11 : Bool) (Ax12 : Option Addr) (lx12 cx12 : Nat) (x13 x20 x22 : Int) (x192 : Bool) (M : Mem) (Q : Value → Mem → Prop) : Prop := LvP Try.prog Try.f9 [(1, .pointer x1), (11, .bool x11), (12, .slice Ax12 lx12 cx12), (13, .int .i64 x13), (20, .int .i64 x20), (22, .int .i64 x22), (192, .bool x192)] [.rg [1,1,1,1,1,1,1,1,0,1,0,0,1,0,0,1,1,1,1,0] 15, .code [1,1,1,1,1,1,1,1,0,1,0,0,1,0,0,1,1,1,1,1], .blk 1, .code [1,1,1,1,1,1,1,1,0,1,0,0,1,1], .lp [1,1,1,1,1,1,1,1,0,1,0,0], .blk 0, .code [1,1,1,1,1,1,1,1,1]] M Q
def A9_13 (x1 : Option Addr) (x11 : Bool) (x27 x28 x29 : Int) (x224 : Bool) (M : Mem) (Q : Value → Mem → Prop) : Prop := LvP Try.prog Try.f9 [(1, .pointer x1), (11, .bool x11), (27, .int .u32 x27), (28, .int .u32 x28), (29, .int .i64 x29), (224, .bool x224)] [.rg [1,1,1,1,1,1,1,1,1,1,1,1,0] 11, .code [1,1,1,1,1,1,1,1,1,1,1,1,1]] M Q
def A9_14 (x1 : Option Addr) (x11 : Bool) (Ax12 : Option Addr) (lx12 cx12 : Nat) (x13 x22 : Int) (x196 : Bool) (M : Mem) (Q : Value → Mem → Prop) : Prop := LvP Try.prog Try.f9 [(1, .pointer x1), (11, .bool x11), (12, .slice Ax12 lx12 cx12), (13, .int .i64 x13), (22, .int .i64 x22), (196, .bool x196)] [.rg [1,1,1,1,1,1,1,1,0,1,0,0,1,0,0,1,1,1,1,0] 19, .code [1,1,1,1,1,1,1,1,0,1,0,0,1,0,0,1,1,1,1,1], .blk 1, .code [1,1,1,1,1,1,1,1,0,1,0,0,1,1], .lp [1,1,1,1,1,1,1,1,0,1,0,0], .blk 0, .code [1,1,1,1,1,1,1,1,1]] M Q
def A9_15 (x1 : Option Addr) (x11 : Bool) (x28 x29 : Int) (x228 : Bool) (M : Mem) (Q : Value → Mem → Prop) : Prop := LvP Try.prog Try.f9 [(1, .pointer x1), (11, .bool x11), (28, .int .u32 x28), (29, .int .i64 x29), (228, .bool x228)] [.rg [1,1,1,1,1,1,1,1,1,1,1,1,0] 15, .code [1,1,1,1,1,1,1,1,1,1,1,1,1]] M Q
def A9_16 (x1 : Option Addr) (x11 : Bool) (Ax12 : Option Addr) (lx12 cx12 : Nat) (x13 : Int) (x199 : Bool) (M : Mem) (Q : Value → Mem → Prop) : Prop := LvP Try.prog Try.f9 [(1, .pointer x1), (11, .bool x11), (12, .slice Ax12 lx12 cx12), (13, .int .i64 x13), (199, .bool x199)] [.code [1,1,1,1,1,1,1,1,0,1,0,0,1,0,0,1,1,1,1,1], .blk 1, .code [1,1,1,1,1,1,1,1,0,1,0,0,1,1], .lp [1,1,1,1,1,1,1,1,0,1,0,0], .blk 0, .code [1,1,1,1,1,1,1,1,1]] M Q
def A9_17 (x1 : Option Addr) (x11 : Bool) (x29 : Int) (x232 : Bool) (M : Mem) (Q : Value → Mem → Prop) : Prop := LvP Try.prog Try.f9 [(1, .pointer x1), (11, .bool x11), (29, .int .i64 x29), (232, .bool x232)] [.rg [1,1,1,1,1,1,1,1,1,1,1,1,0] 19, .code [1,1,1,1,1,1,1,1,1,1,1,1,1]] M Q
def A9_18 (x1 : Option Addr) (x11 x30 : Bool) (M : Mem) (Q : Value → Mem → Prop) : Prop := LvP Try.prog Try.f9 [(1, .pointer x1), (11, .bool x11), (30, .bool x30)] [.code [1,1,1,1,1,1,1,1,1,1,1,1,1]] M Q
def A9_19 (x11 x30 : Bool) (x31 : Option Addr) (x40 x42 x43 x44 x46 x48 : Int) (x284 : Bool) (M : Mem) (Q : Value → Mem → Prop) : Prop := LvP Try.prog Try.f9 [(11, .bool x11), (30, .bool x30), (31, .pointer x31), (40, .int .i64 x40), (42, .int .i64 x42), (43, .int .i64 x43), (44, .int .i64 x44), (46, .int .i64 x46), (48, .int .i64 x48), (284, .bool x284)] [.rg [1,1,1,1,1,1,1,1,1,1,1,1,1,1,1,1,1,1,1,1,1,0] 7, .code [1,1,1,1,1,1,1,1,1,1,1,1,1,1,1,1,1,1,1,1,1,1]] M Q
def A9_20 (x11 x30 : Bool) (x31 : Option Addr) (x42 x43 x44 x46 x48 : Int) (x288 : Bool) (M : Mem) (Q : Value → Mem → Prop) : Prop := LvP Try.prog Try.f9 [(11, .bool x11), (30, .bool x30), (31, .pointer x31), (42, .int .i64 x42), (43, .int .i64 x43), (44, .int .i64 x44), (46, .int .i64 x46), (48, .int .i64 x48), (288, .bool x288)] [.rg [1,1,1,1,1,1,1,1,1,1,1,1,1,1,1,1,1,1,1,1,1,0] 11, .code [1,1,1,1,1,1,1,1,1,1,1,1,1,1,1,1,1,1,1,1,1,1]] M Q
def A9_21 (x11 x30 : Bool) (x31 : Option Addr) (x43 x44 x46 x48 : Int) (x292 : Bool) (M : Mem) (Q : Value → Mem → Prop) : Prop := LvP Try.prog Try.f9 [(11, .bool x11), (30, .bool x30), (31, .pointer x31), (43, .int .i64 x43), (44, .int .i64 x44), (46, .int .i64 x46), (48, .int .i64 x48), (292, .bool x292)] [.rg [1,1,1,1,1,1,1,1,1,1,1,1,1,1,1,1,1,1,1,1,1,0] 15, .code [1,1,1,1,1,1,1,1,1,1,1,1,1,1,1,1,1,1,1,1,1,1]] M Q
def A9_22 (x11 x30 : Bool) (x31 : Option Addr) (x44 x46 x48 : Int) (x296 : Bool) (M : Mem) (Q : Value → Mem → Prop) : Prop := LvP Try.prog Try.f9 [(11, .bool x11), (30, .bool x30), (31, .pointer x31), (44, .int .i64 x44), (46, .int .i64 x46), (48, .int .i64 x48), (296, .bool x296)] [.rg [1,1,1,1,1,1,1,1,1,1,1,1,1,1,1,1,1,1,1,1,1,0] 19, .code [1,1,1,1,1,1,1,1,1,1,1,1,1,1,1,1,1,1,1,1,1,1]] M Q
def A9_23 (x11 x30 : Bool) (x31 : Option Addr) (x46 x48 : Int) (x300 : Bool) (M : Mem) (Q : Value → Mem → Prop) : Prop := LvP Try.prog Try.f9 [(11, .bool x11), (30, .bool x30), (31, .pointer x31), (46, .int .i64 x46), (48, .int .i64 x48), (300, .bool x300)] [.rg [1,1,1,1,1,1,1,1,1,1,1,1,1,1,1,1,1,1,1,1,1,0] 23, .code [1,1,1,1,1,1,1,1,1,1,1,1,1,1,1,1,1,1,1,1,1,1]] M Q
def A9_24 (x11 x30 : Bool) (x31 : Option Addr) (x48 : Int) (x304 : Bool) (M : Mem) (Q : Value → Mem → Prop) : Prop := LvP Try.prog Try.f9 [(11, .bool x11), (30, .bool x30), (31, .pointer x31), (48, .int .i64 x48), (304, .bool x304)] [.rg [1,1,1,1,1,1,1,1,1,1,1,1,1,1,1,1,1,1,1,1,1,0] 27, .code [1,1,1,1,1,1,1,1,1,1,1,1,1,1,1,1,1,1,1,1,1,1]] M Q
def A9_25 (x11 x30 : Bool) (x31 : Option Addr) (x49 : Bool) (M : Mem) (Q : Value → Mem → Prop) : Prop := LvP Try.prog Try.f9 [(11, .bool x11), (30, .bool x30), (31, .pointer x31), (49, .bool x49)] [.code [1,1,1,1,1,1,1,1,1,1,1,1,1,1,1,1,1,1,1,1,1,1]] M Q
def A9_26 (x11 x30 x49 : Bool) (x54 x56 x58 : Option Addr) (x349 : Bool) (M : Mem) (Q : Value → Mem → Prop) : Prop := LvP Try.prog Try.f9 [(11, .bool x11), (30, .bool x30), (49, .bool x49), (54, .pointer x54), (56, .pointer x56), (58, .pointer x58), (349, .bool x349)] [.rg [1,1,1,1,1,1,1,1,1,1,1,1,1,1,1,1,1,1,1,1,1,1,1,1,1,1,1,0] 9, .code [1,1,1,1,1,1,1,1,1,1,1,1,1,1,1,1,1,1,1,1,1,1,1,1,1,1,1,1]] M Q
def A9_27 (x11 x30 x49 : Bool) (x56 x58 : Option Addr) (x354 : Bool) (M : Mem) (Q : Value → Mem → Prop) : Prop := LvP Try.prog Try.f9 [(11, .bool x11), (30, .bool x30), (49, .bool x49), (56, .pointer x56), (58, .pointer x58), (354, .bool x354)] [.rg [1,1,1,1,1,1,1,1,1,1,1,1,1,1,1,1,1,1,1,1,1,1,1,1,1,1,1,0] 14, .code [1,1,1,1,1,1,1,1,1,1,1,1,1,1,1,1,1,1,1,1,1,1,1,1,1,1,1,1]] M Q
def A9_28 (x11 x30 x49 : Bool) (x58 : Option Addr) (x359 : Bool) (M : Mem) (Q : Value → Mem → Prop) : Prop := LvP Try.prog Try.f9 [(11, .bool x11), (30, .bool x30), (49, .bool x49), (58, .pointer x58), (359, .bool x359)] [.rg [1,1,1,1,1,1,1,1,1,1,1,1,1,1,1,1,1,1,1,1,1,1,1,1,1,1,1,0] 19, .code [1,1,1,1,1,1,1,1,1,1,1,1,1,1,1,1,1,1,1,1,1,1,1,1,1,1,1,1]] M Q
def A9_29 (x11 x30 x49 x60 : Bool) (M : Mem) (Q : Value → Mem → Prop) : Prop := LvP Try.prog Try.f9 [(11, .bool x11), (30, .bool x30), (49, .bool x49), (60, .bool x60)] [.code [1,1,1,1,1,1,1,1,1,1,1,1,1,1,1,1,1,1,1,1,1,1,1,1,1,1,1,1]] M Q
def A9_30 (x30 x49 x60 x370 : Bool) (M : Mem) (Q : Value → Mem → Prop) : Prop := LvP Try.prog Try.f9 [(30, .bool x30), (49, .bool x49), (60, .bool x60), (370, .bool x370)] [.rg [1,1,1,1,1,1,1,1,1,1,1,1,1,1,1,1,1,1,1,1,1,1,1,1,1,1,1,1,0] 7, .code [1,1,1,1,1,1,1,1,1,1,1,1,1,1,1,1,1,1,1,1,1,1,1,1,1,1,1,1,1]] M Q
def A9_31 (x49 x60 x373 : Bool) (M : Mem) (Q : Value → Mem → Prop) : Prop := LvP Try.prog Try.f9 [(49, .bool x49), (60, .bool x60), (373, .bool x373)] [.rg [1,1,1,1,1,1,1,1,1,1,1,1,1,1,1,1,1,1,1,1,1,1,1,1,1,1,1,1,0] 10, .code [1,1,1,1,1,1,1,1,1,1,1,1,1,1,1,1,1,1,1,1,1,1,1,1,1,1,1,1,1]] M Q
def A9_32 (x60 x376 : Bool) (M : Mem) (Q : Value → Mem → Prop) : Prop := LvP Try.prog Try.f9 [(60, .bool x60), (376, .bool x376)] [.rg [1,1,1,1,1,1,1,1,1,1,1,1,1,1,1,1,1,1,1,1,1,1,1,1,1,1,1,1,0] 13, .code [1,1,1,1,1,1,1,1,1,1,1,1,1,1,1,1,1,1,1,1,1,1,1,1,1,1,1,1,1]] M Q
theorem w9_0 {M : Mem} {Q : Value → Mem → Prop} (H :
    Cn Try.prog 25 #[.int .i64 3] M fun v1' N1' =>
     tyS (asU 2 v1') fun cs2' =>
     tyS (asA 2 (cs2'.getD 0 undef)) fun cs3' =>
     tyS (asS (cs3'.getD 0 undef)) fun s4' =>
     tyS (asI .i64 (cs3'.getD 1 undef)) fun x5' =>
     tyS (asI .i64 (cs2'.getD 1 undef)) fun x6' =>
     stP (some 2) #[.slice s4'.1 (s4'.2.1) (s4'.2.2), .int .i64 x5'] (N1'.new (.cells #[.slice none 0 0, .int .i64 0] 24)) (2 * N1'.nb.size) 0 fun M7' =>
     Cn Try.prog 27 #[.int .i64 4] M7' fun v8' N8' =>
      tyS (asU 2 v8') fun cs9' =>
      tyS (asA 2 (cs9'.getD 0 undef)) fun cs10' =>
      tyS (asS (cs10'.getD 0 undef)) fun s11' =>
      tyS (asI .i64 (cs10'.getD 1 undef)) fun x12' =>
      tyS (asI .i64 (cs9'.getD 1 undef)) fun x13' =>
      stP (some 2) #[.slice s11'.1 (s11'.2.1) (s11'.2.2), .int .i64 x12'] (N8'.new (.cells #[.slice none 0 0, .int .i64 0] 24)) (2 * N8'.nb.size) 0 fun M14' =>
      Cn Try.prog 25 #[.int .i64 1] M14' fun v15' N15' =>
       tyS (asU 2 v15') fun cs16' =>
       tyS (asA 2 (cs16'.getD 0 undef)) fun cs17' =>
       tyS (asS (cs17'.getD 0 undef)) fun s18' =>
       tyS (asI .i64 (cs17'.getD 1 undef)) fun x19' =>
       tyS (asI .i64 (cs16'.getD 1 undef)) fun x20' =>
       stP (some 2) #[.slice s18'.1 (s18'.2.1) (s18'.2.2), .int .i64 x19'] (N15'.new (.cells #[.slice none 0 0, .int .i64 0] 24)) (2 * N15'.nb.size) 0 fun M21' =>
       Cn Try.prog 27 #[.int .i64 17] M21' fun v22' N22' =>
        tyS (asU 2 v22') fun cs23' =>
        tyS (asA 2 (cs23'.getD 0 undef)) fun cs24' =>
        tyS (asS (cs24'.getD 0 undef)) fun s25' =>
        tyS (asI .i64 (cs24'.getD 1 undef)) fun x26' =>
        tyS (asI .i64 (cs23'.getD 1 undef)) fun x27' =>
        stP (some 2) #[.slice s25'.1 (s25'.2.1) (s25'.2.2), .int .i64 x26'] (N22'.new (.cells #[.slice none 0 0, .int .i64 0] 24)) (2 * N22'.nb.size) 0 fun M28' =>
        Cn Try.prog 27 #[.int .i64 16] M28' fun v29' N29' =>
         tyS (asU 2 v29') fun cs30' =>
         tyS (asA 2 (cs30'.getD 0 undef)) fun cs31' =>
         tyS (asS (cs31'.getD 0 undef)) fun s32' =>
         tyS (asI .i64 (cs31'.getD 1 undef)) fun x33' =>
         tyS (asI .i64 (cs30'.getD 1 undef)) fun x34' =>
         stP (some 2) #[.slice s32'.1 (s32'.2.1) (s32'.2.2), .int .i64 x33'] (N29'.new (.cells #[.slice none 0 0, .int .i64 0] 24)) (2 * N29'.nb.size) 0 fun M35' =>
         cnd (x6' == 0) (
          A9_1 (some ⟨2 * N1'.nb.size, 0, none⟩) (some ⟨2 * N8'.nb.size, 0, none⟩) x20' x27' (some ⟨2 * N29'.nb.size, 0, none⟩) x34' (x13' == 0) M35' Q) (
          A9_1 (some ⟨2 * N1'.nb.size, 0, none⟩) (some ⟨2 * N8'.nb.size, 0, none⟩) x20' x27' (some ⟨2 * N29'.nb.size, 0, none⟩) x34' false M35' Q)) :
    Cn Try.prog 9 #[] M Q :=
  Cn.mk (cuts := K9) (sp := Z9) 900 b9 rfl rfl H fun G => by kernel_rfl

theorem w9_1 {x1 x3 : Option Addr} {x6 x8 : Int} {x9 : Option Addr} {x10 : Int} {x87 : Bool} {M : Mem} {Q : Value → Mem → Prop} (H :
    cnd x87 (
     A9_2 x1 x3 x8 x9 x10 (x6 == 2) M Q) (
     A9_2 x1 x3 x8 x9 x10 false M Q)) :
    A9_1 x1 x3 x6 x8 x9 x10 x87 M Q :=
  LvP.mk (cuts := K9) (sp := Z9) 900 H fun G => by kernel_rfl

theorem w9_2 {x1 x3 : Option Addr} {x8 : Int} {x9 : Option Addr} {x10 : Int} {x91 : Bool} {M : Mem} {Q : Value → Mem → Prop} (H :
    cnd x91 (
     A9_3 x1 x3 x9 x10 (x8 == 2) M Q) (
     A9_3 x1 x3 x9 x10 false M Q)) :
    A9_2 x1 x3 x8 x9 x10 x91 M Q :=
  LvP.mk (cuts := K9) (sp := Z9) 900 H fun G => by kernel_rfl

theorem w9_3 {x1 x3 x9 : Option Addr} {x10 : Int} {x95 : Bool} {M : Mem} {Q : Value → Mem → Prop} (H :
    cnd x95 (
     A9_4 x1 x3 x9 (x10 == 0) M Q) (
     A9_4 x1 x3 x9 false M Q)) :
    A9_3 x1 x3 x9 x10 x95 M Q :=
  LvP.mk (cuts := K9) (sp := Z9) 900 H fun G => by kernel_rfl

theorem w9_4 {x1 x3 x9 : Option Addr} {x99 : Bool} {M : Mem} {Q : Value → Mem → Prop} (H :
    cnd x99 (
     adS x1 fun a36' =>
     onS (M.slAt a36'.block a36'.off) fun s37' =>
     onS (M.intAt .i64 a36'.block (a36'.off + 1)) fun x38' =>
     Cn Try.prog 24 #[.agg #[.slice s37'.1 (s37'.2.1) (s37'.2.2), .int .i64 x38'], .int .i64 0, .slice (some ⟨2 * M.nb.size, 0, none⟩) 3 3] (M.new (.cells #[.int .u16 10922, .int .u16 21845, .int .u16 32768] 47)) fun v39' N39' =>
      tyS (asB v39') fun b40' =>
      A9_5 x1 x3 x9 b40' N39' Q) (
     A9_5 x1 x3 x9 false M Q)) :
    A9_4 x1 x3 x9 x99 M Q :=
  LvP.mk (cuts := K9) (sp := Z9) 900 H fun G => by kernel_rfl

theorem w9_5 {x1 x3 x9 : Option Addr} {x104 : Bool} {M : Mem} {Q : Value → Mem → Prop} (H :
    cnd x104 (
     adS x3 fun a41' =>
     onS (M.slAt a41'.block a41'.off) fun s42' =>
     onS (M.intAt .i64 a41'.block (a41'.off + 1)) fun x43' =>
     Cn Try.prog 24 #[.agg #[.slice s42'.1 (s42'.2.1) (s42'.2.2), .int .i64 x43'], .int .i64 0, .slice (some ⟨2 * M.nb.size, 0, none⟩) 4 4] (M.new (.cells #[.int .u16 16384, .int .u16 24576, .int .u16 28672, .int .u16 32768] 47)) fun v44' N44' =>
      tyS (asB v44') fun b45' =>
      A9_6 x1 x9 b45' N44' Q) (
     A9_6 x1 x9 false M Q)) :
    A9_5 x1 x3 x9 x104 M Q :=
  LvP.mk (cuts := K9) (sp := Z9) 900 H fun G => by kernel_rfl

theorem w9_6 {x1 x9 : Option Addr} {x109 : Bool} {M : Mem} {Q : Value → Mem → Prop} (H :
    cnd x109 (
     adS x9 fun a46' =>
     onS (M.slAt a46'.block a46'.off) fun s47' =>
     A9_7 x1 x9 (((s47'.2.1 : Int)) == 16) M Q) (
     A9_7 x1 x9 false M Q)) :
    A9_6 x1 x9 x109 M Q :=
  LvP.mk (cuts := K9) (sp := Z9) 900 H fun G => by kernel_rfl

theorem w9_7 {x1 x9 : Option Addr} {x115 : Bool} {M : Mem} {Q : Value → Mem → Prop} (H :
    cnd x115 (
     adS x9 fun a48' =>
     onS (M.slAt a48'.block a48'.off) fun s49' =>
     ixS (idxA s49'.1 (s49'.2.1) 1 14) fun a50' =>
     onS (M.intAt .u16 a50'.block a50'.off) fun x51' =>
     A9_8 x1 (x51' == 32767) M Q) (
     A9_8 x1 false M Q)) :
    A9_7 x1 x9 x115 M Q :=
  LvP.mk (cuts := K9) (sp := Z9) 900 H fun G => by kernel_rfl

theorem w9_8 {x1 : Option Addr} {x11 : Bool} {M : Mem} {Q : Value → Mem → Prop} (H :
    meS (makeP Try.prog 22 (.int .i64 17) (.int .i64 17) (((((M.new (.cells #[.int .u16 32768] 47)).new (.cells #[.int .u16 5, .int .u16 4, .int .u16 32768] 47)).new (.cells #[.int .u16 5, .int .u16 32767] 47)).new (.cells #[.int .u16 5, .int .u16 32768] 47)).new (.cells #[.int .u16 5, .int .u16 32768] 47))) fun r52' =>
    tyS (asS r52'.1) fun s53' =>
    A9_9 x1 x11 (some ⟨2 * (r52'.2.new (.cells #[.int .u16 32769, .int .u16 32768] 47)).nb.size, 0, none⟩) 8 8 0 ((r52'.2.new (.cells #[.int .u16 32769, .int .u16 32768] 47)).new (.cells #[.slice none 0 0, .int .i64 0, .slice (some ⟨2 * M.nb.size, 0, none⟩) 1 1, .int .i64 0, .slice (some ⟨2 * (M.new (.cells #[.int .u16 32768] 47)).nb.size, 0, none⟩) 3 3, .int .i64 0, .slice (some ⟨2 * ((M.new (.cells #[.int .u16 32768] 47)).new (.cells #[.int .u16 5, .int .u16 4, .int .u16 32768] 47)).nb.size, 0, none⟩) 2 2, .int .i64 0, .slice (some ⟨2 * (((M.new (.cells #[.int .u16 32768] 47)).new (.cells #[.int .u16 5, .int .u16 4, .int .u16 32768] 47)).new (.cells #[.int .u16 5, .int .u16 32767] 47)).nb.size, 0, none⟩) 2 2, .int .i64 (-1), .slice (some ⟨2 * ((((M.new (.cells #[.int .u16 32768] 47)).new (.cells #[.int .u16 5, .int .u16 4, .int .u16 32768] 47)).new (.cells #[.int .u16 5, .int .u16 32767] 47)).new (.cells #[.int .u16 5, .int .u16 32768] 47)).nb.size, 0, none⟩) 2 2, .int .i64 33, .slice s53'.1 (s53'.2.1) (s53'.2.2), .int .i64 0, .slice (some ⟨2 * r52'.2.nb.size, 0, none⟩) 2 2, .int .i64 0] 24)) Q) :
    A9_8 x1 x11 M Q :=
  LvP.mk (cuts := K9) (sp := Z9) 900 H fun G => by kernel_rfl

theorem w9_9 {x1 : Option Addr} {x11 : Bool} {Ax12 : Option Addr} {lx12 cx12 : Nat} {x13 : Int} {M : Mem} {Q : Value → Mem → Prop} (H :
    cnd (decide (x13 < ((lx12 : Int)))) (
     ixS (idxA Ax12 lx12 2 x13) fun a54' =>
     onS (M.slAt a54'.block a54'.off) fun s55' =>
     onS (M.intAt .i64 a54'.block (a54'.off + 1)) fun x56' =>
     Cn Try.prog 20 #[.agg #[.slice s55'.1 (s55'.2.1) (s55'.2.2), .int .i64 x56'], .int .i64 0] M fun v57' N57' =>
      tyS (asU 3 v57') fun cs58' =>
      tyS (asI .u32 (cs58'.getD 0 undef)) fun x59' =>
      tyS (asI .u32 (cs58'.getD 1 undef)) fun x60' =>
      tyS (asI .i64 (cs58'.getD 2 undef)) fun x61' =>
      ixS (idxA Ax12 lx12 2 x13) fun a62' =>
      onS (N57'.slAt a62'.block a62'.off) fun s63' =>
      onS (N57'.intAt .i64 a62'.block (a62'.off + 1)) fun x64' =>
      Cn Try.prog 11 #[.agg #[.slice s63'.1 (s63'.2.1) (s63'.2.2), .int .i64 x64'], .int .i64 0] N57' fun v65' N65' =>
       tyS (asU 2 v65') fun cs66' =>
       tyS (asA 2 (cs66'.getD 0 undef)) fun cs67' =>
       tyS (asS (cs67'.getD 0 undef)) fun s68' =>
       tyS (asI .i64 (cs67'.getD 1 undef)) fun x69' =>
       tyS (asI .i64 (cs66'.getD 1 undef)) fun x70' =>
       stP (some 2) #[.slice s68'.1 (s68'.2.1) (s68'.2.2), .int .i64 x69'] (N65'.new (.cells #[.slice none 0 0, .int .i64 0] 24)) (2 * N65'.nb.size) 0 fun M71' =>
       ixS (idxA Ax12 lx12 2 x13) fun a72' =>
       onS (M71'.slAt a72'.block a72'.off) fun s73' =>
       onS (M71'.intAt .i64 a72'.block (a72'.off + 1)) fun x74' =>
       Cn Try.prog 17 #[.slice (some ⟨2 * M71'.nb.size, 0, none⟩) 1 1] (M71'.new (.cells #[.slice s73'.1 (s73'.2.1) (s73'.2.2), .int .i64 x74'] 24)) fun v75' N75' =>
        tyS (asU 2 v75') fun cs76' =>
        tyS (asA 2 (cs76'.getD 0 undef)) fun cs77' =>
        tyS (asS (cs77'.getD 0 undef)) fun s78' =>
        tyS (asI .i64 (cs77'.getD 1 undef)) fun x79' =>
        tyS (asI .i64 (cs76'.getD 1 undef)) fun x80' =>
        stP (some 2) #[.slice s78'.1 (s78'.2.1) (s78'.2.2), .int .i64 x79'] (N75'.new (.cells #[.slice none 0 0, .int .i64 0] 24)) (2 * N75'.nb.size) 0 fun M81' =>
        ixS (idxA Ax12 lx12 2 x13) fun a82' =>
        onS (M81'.slAt a82'.block a82'.off) fun s83' =>
        onS (M81'.intAt .i64 a82'.block (a82'.off + 1)) fun x84' =>
        Cn Try.prog 21 #[.agg #[.slice s83'.1 (s83'.2.1) (s83'.2.2), .int .i64 x84'], .int .u32 0] M81' fun v85' N85' =>
         tyS (asU 2 v85') fun cs86' =>
         tyS (asI .i64 (cs86'.getD 0 undef)) fun x87' =>
         tyS (asI .i64 (cs86'.getD 1 undef)) fun x88' =>
         ixS (idxA Ax12 lx12 2 x13) fun a89' =>
         onS (N85'.slAt a89'.block a89'.off) fun s90' =>
         onS (N85'.intAt .i64 a89'.block (a89'.off + 1)) fun x91' =>
         Cn Try.prog 19 #[.agg #[.slice s90'.1 (s90'.2.1) (s90'.2.2), .int .i64 x91']] N85' fun v92' N92' =>
          tyS (asI .i64 v92') fun x93' =>
          cnd (x93' != 2) (
           A9_10 x1 x11 Ax12 lx12 cx12 x13 x70' x80' x88' true N92' Q) (
           A9_10 x1 x11 Ax12 lx12 cx12 x13 x70' x80' x88' (x61' != 2) N92' Q)) (
     stP (some 2) #[.slice (some ⟨2 * M.nb.size, 0, none⟩) 2 2, .int .i64 0] ((M.new (.cells #[.int .u16 0, .int .u16 32768] 47)).new (.cells #[.slice none 0 0, .int .i64 0] 24)) (2 * (M.new (.cells #[.int .u16 0, .int .u16 32768] 47)).nb.size) 0 fun M94' =>
     onS (M94'.slAt (2 * (M.new (.cells #[.int .u16 0, .int .u16 32768] 47)).nb.size) 0) fun s95' =>
     onS (M94'.intAt .i64 (2 * (M.new (.cells #[.int .u16 0, .int .u16 32768] 47)).nb.size) (0 + 1)) fun x96' =>
     Cn Try.prog 20 #[.agg #[.slice s95'.1 (s95'.2.1) (s95'.2.2), .int .i64 x96'], .int .i64 0] M94' fun v97' N97' =>
      tyS (asU 3 v97') fun cs98' =>
      tyS (asI .u32 (cs98'.getD 0 undef)) fun x99' =>
      tyS (asI .u32 (cs98'.getD 1 undef)) fun x100' =>
      tyS (asI .i64 (cs98'.getD 2 undef)) fun x101' =>
      onS (N97'.slAt (2 * (M.new (.cells #[.int .u16 0, .int .u16 32768] 47)).nb.size) 0) fun s102' =>
      onS (N97'.intAt .i64 (2 * (M.new (.cells #[.int .u16 0, .int .u16 32768] 47)).nb.size) (0 + 1)) fun x103' =>
      Cn Try.prog 20 #[.agg #[.slice s102'.1 (s102'.2.1) (s102'.2.2), .int .i64 x103'], .int .i64 1] N97' fun v104' N104' =>
       tyS (asU 3 v104') fun cs105' =>
       tyS (asI .u32 (cs105'.getD 0 undef)) fun x106' =>
       tyS (asI .u32 (cs105'.getD 1 undef)) fun x107' =>
       tyS (asI .i64 (cs105'.getD 2 undef)) fun x108' =>
       cnd (x99' == 0) (
        A9_11 x1 x11 x101' x106' x107' x108' (x100' == 4) N104' Q) (
        A9_11 x1 x11 x101' x106' x107' x108' false N104' Q))) :
    A9_9 x1 x11 Ax12 lx12 cx12 x13 M Q :=
  LvP.mk (cuts := K9) (sp := Z9) 900 H fun G => by kernel_rfl

theorem w9_10 {x1 : Option Addr} {x11 : Bool} {Ax12 : Option Addr} {lx12 cx12 : Nat} {x13 x18 x20 x22 : Int} {x188 : Bool} {M : Mem} {Q : Value → Mem → Prop} (H :
    cnd x188 (
     A9_12 x1 x11 Ax12 lx12 cx12 x13 x20 x22 true M Q) (
     A9_12 x1 x11 Ax12 lx12 cx12 x13 x20 x22 (x18 != 2) M Q)) :
    A9_10 x1 x11 Ax12 lx12 cx12 x13 x18 x20 x22 x188 M Q :=
  LvP.mk (cuts := K9) (sp := Z9) 900 H fun G => by kernel_rfl

theorem w9_11 {x1 : Option Addr} {x11 : Bool} {x26 x27 x28 x29 : Int} {x220 : Bool} {M : Mem} {Q : Value → Mem → Prop} (H :
    cnd x220 (
     A9_13 x1 x11 x27 x28 x29 (x26 == 0) M Q) (
     A9_13 x1 x11 x27 x28 x29 false M Q)) :
    A9_11 x1 x11 x26 x27 x28 x29 x220 M Q :=
  LvP.mk (cuts := K9) (sp := Z9) 900 H fun G => by kernel_rfl

theorem w9_12 {x1 : Option Addr} {x11 : Bool} {Ax12 : Option Addr} {lx12 cx12 : Nat} {x13 x20 x22 : Int} {x192 : Bool} {M : Mem} {Q : Value → Mem → Prop} (H :
    cnd x192 (
     A9_14 x1 x11 Ax12 lx12 cx12 x13 x22 true M Q) (
     A9_14 x1 x11 Ax12 lx12 cx12 x13 x22 (x20 != 2) M Q)) :
    A9_12 x1 x11 Ax12 lx12 cx12 x13 x20 x22 x192 M Q :=
  LvP.mk (cuts := K9) (sp := Z9) 900 H fun G => by kernel_rfl

theorem w9_13 {x1 : Option Addr} {x11 : Bool} {x27 x28 x29 : Int} {x224 : Bool} {M : Mem} {Q : Value → Mem → Prop} (H :
    cnd x224 (
     A9_15 x1 x11 x28 x29 (x27 == 4) M Q) (
     A9_15 x1 x11 x28 x29 false M Q)) :
    A9_13 x1 x11 x27 x28 x29 x224 M Q :=
  LvP.mk (cuts := K9) (sp := Z9) 900 H fun G => by kernel_rfl

theorem w9_14 {x1 : Option Addr} {x11 : Bool} {Ax12 : Option Addr} {lx12 cx12 : Nat} {x13 x22 : Int} {x196 : Bool} {M : Mem} {Q : Value → Mem → Prop} (H :
    cnd x196 (
     A9_16 x1 x11 Ax12 lx12 cx12 x13 true M Q) (
     A9_16 x1 x11 Ax12 lx12 cx12 x13 (x22 != 2) M Q)) :
    A9_14 x1 x11 Ax12 lx12 cx12 x13 x22 x196 M Q :=
  LvP.mk (cuts := K9) (sp := Z9) 900 H fun G => by kernel_rfl

theorem w9_15 {x1 : Option Addr} {x11 : Bool} {x28 x29 : Int} {x228 : Bool} {M : Mem} {Q : Value → Mem → Prop} (H :
    cnd x228 (
     A9_17 x1 x11 x29 (x28 == 32768) M Q) (
     A9_17 x1 x11 x29 false M Q)) :
    A9_15 x1 x11 x28 x29 x228 M Q :=
  LvP.mk (cuts := K9) (sp := Z9) 900 H fun G => by kernel_rfl

theorem w9_16 {x1 : Option Addr} {x11 : Bool} {Ax12 : Option Addr} {lx12 cx12 : Nat} {x13 : Int} {x199 : Bool} {M : Mem} {Q : Value → Mem → Prop} (H :
    cnd x199 (
     Q (.bool false) M) (
     A9_9 x1 x11 Ax12 lx12 cx12 (IntKind.i64.wrap (x13 + 1)) M Q)) :
    A9_16 x1 x11 Ax12 lx12 cx12 x13 x199 M Q :=
  LvP.mk (cuts := K9) (sp := Z9) 900 H fun G => by kernel_rfl

theorem w9_17 {x1 : Option Addr} {x11 : Bool} {x29 : Int} {x232 : Bool} {M : Mem} {Q : Value → Mem → Prop} (H :
    cnd x232 (
     A9_18 x1 x11 (x29 == 0) M Q) (
     A9_18 x1 x11 false M Q)) :
    A9_17 x1 x11 x29 x232 M Q :=
  LvP.mk (cuts := K9) (sp := Z9) 900 H fun G => by kernel_rfl

theorem w9_18 {x1 : Option Addr} {x11 x30 : Bool} {M : Mem} {Q : Value → Mem → Prop} (H :
    Cn Try.prog 25 #[.int .i64 2] M fun v109' N109' =>
     tyS (asU 2 v109') fun cs110' =>
     tyS (asA 2 (cs110'.getD 0 undef)) fun cs111' =>
     tyS (asS (cs111'.getD 0 undef)) fun s112' =>
     tyS (asI .i64 (cs111'.getD 1 undef)) fun x113' =>
     tyS (asI .i64 (cs110'.getD 1 undef)) fun x114' =>
     stP (some 2) #[.slice s112'.1 (s112'.2.1) (s112'.2.2), .int .i64 x113'] (N109'.new (.cells #[.slice none 0 0, .int .i64 0] 24)) (2 * N109'.nb.size) 0 fun M115' =>
     onS (M115'.slAt (2 * N109'.nb.size) 0) fun s116' =>
     onS (M115'.intAt .i64 (2 * N109'.nb.size) (0 + 1)) fun x117' =>
     Cn Try.prog 20 #[.agg #[.slice s116'.1 (s116'.2.1) (s116'.2.2), .int .i64 x117'], .int .i64 2] M115' fun v118' N118' =>
      tyS (asU 3 v118') fun cs119' =>
      tyS (asI .u32 (cs119'.getD 0 undef)) fun x120' =>
      tyS (asI .u32 (cs119'.getD 1 undef)) fun x121' =>
      tyS (asI .i64 (cs119'.getD 2 undef)) fun x122' =>
      onS (N118'.slAt (2 * N109'.nb.size) 0) fun s123' =>
      onS (N118'.intAt .i64 (2 * N109'.nb.size) (0 + 1)) fun x124' =>
      Cn Try.prog 20 #[.agg #[.slice s123'.1 (s123'.2.1) (s123'.2.2), .int .i64 x124'], .int .i64 (-1)] N118' fun v125' N125' =>
       tyS (asU 3 v125') fun cs126' =>
       tyS (asI .u32 (cs126'.getD 0 undef)) fun x127' =>
       tyS (asI .u32 (cs126'.getD 1 undef)) fun x128' =>
       tyS (asI .i64 (cs126'.getD 2 undef)) fun x129' =>
       onS (N125'.slAt (2 * N109'.nb.size) 0) fun s130' =>
       onS (N125'.intAt .i64 (2 * N109'.nb.size) (0 + 1)) fun x131' =>
       Cn Try.prog 21 #[.agg #[.slice s130'.1 (s130'.2.1) (s130'.2.2), .int .i64 x131'], .int .u32 32768] N125' fun v132' N132' =>
        tyS (asU 2 v132') fun cs133' =>
        tyS (asI .i64 (cs133'.getD 0 undef)) fun x134' =>
        tyS (asI .i64 (cs133'.getD 1 undef)) fun x135' =>
        onS (N132'.slAt (2 * N109'.nb.size) 0) fun s136' =>
        onS (N132'.intAt .i64 (2 * N109'.nb.size) (0 + 1)) fun x137' =>
        Cn Try.prog 11 #[.agg #[.slice s136'.1 (s136'.2.1) (s136'.2.2), .int .i64 x137'], .int .i64 2] N132' fun v138' N138' =>
         tyS (asU 2 v138') fun cs139' =>
         tyS (asA 2 (cs139'.getD 0 undef)) fun cs140' =>
         tyS (asS (cs140'.getD 0 undef)) fun s141' =>
         tyS (asI .i64 (cs140'.getD 1 undef)) fun x142' =>
         tyS (asI .i64 (cs139'.getD 1 undef)) fun x143' =>
         stP (some 2) #[.slice s141'.1 (s141'.2.1) (s141'.2.2), .int .i64 x142'] (N138'.new (.cells #[.slice none 0 0, .int .i64 0] 24)) (2 * N138'.nb.size) 0 fun M144' =>
         onS (M144'.slAt (2 * N109'.nb.size) 0) fun s145' =>
         onS (M144'.intAt .i64 (2 * N109'.nb.size) (0 + 1)) fun x146' =>
         Cn Try.prog 21 #[.agg #[.slice s145'.1 (s145'.2.1) (s145'.2.2), .int .i64 x146'], .int .u32 16383] M144' fun v147' N147' =>
          tyS (asU 2 v147') fun cs148' =>
          tyS (asI .i64 (cs148'.getD 0 undef)) fun x149' =>
          tyS (asI .i64 (cs148'.getD 1 undef)) fun x150' =>
          Cn Try.prog 17 #[.slice none 0 0] N147' fun v151' N151' =>
           tyS (asU 2 v151') fun cs152' =>
           tyS (asA 2 (cs152'.getD 0 undef)) fun cs153' =>
           tyS (asS (cs153'.getD 0 undef)) fun s154' =>
           tyS (asI .i64 (cs153'.getD 1 undef)) fun x155' =>
           tyS (asI .i64 (cs152'.getD 1 undef)) fun x156' =>
           stP (some 2) #[.slice s154'.1 (s154'.2.1) (s154'.2.2), .int .i64 x155'] (N151'.new (.cells #[.slice none 0 0, .int .i64 0] 24)) (2 * N151'.nb.size) 0 fun M157' =>
           onS (M157'.slAt (2 * N109'.nb.size) 0) fun s158' =>
           onS (M157'.intAt .i64 (2 * N109'.nb.size) (0 + 1)) fun x159' =>
           adS x1 fun a160' =>
           onS (M157'.slAt a160'.block a160'.off) fun s161' =>
           onS (M157'.intAt .i64 a160'.block (a160'.off + 1)) fun x162' =>
           Cn Try.prog 17 #[.slice (some ⟨2 * M157'.nb.size, 0, none⟩) 2 2] (M157'.new (.cells #[.slice s158'.1 (s158'.2.1) (s158'.2.2), .int .i64 x159', .slice s161'.1 (s161'.2.1) (s161'.2.2), .int .i64 x162'] 24)) fun v163' N163' =>
            tyS (asU 2 v163') fun cs164' =>
            tyS (asA 2 (cs164'.getD 0 undef)) fun cs165' =>
            tyS (asS (cs165'.getD 0 undef)) fun s166' =>
            tyS (asI .i64 (cs165'.getD 1 undef)) fun x167' =>
            tyS (asI .i64 (cs164'.getD 1 undef)) fun x168' =>
            stP (some 2) #[.slice s166'.1 (s166'.2.1) (s166'.2.2), .int .i64 x167'] (N163'.new (.cells #[.slice none 0 0, .int .i64 0] 24)) (2 * N163'.nb.size) 0 fun M169' =>
            cnd (x122' == 2) (
             A9_19 x11 x30 (some ⟨2 * N109'.nb.size, 0, none⟩) x135' x143' x149' x150' x156' x168' (x129' == 2) M169' Q) (
             A9_19 x11 x30 (some ⟨2 * N109'.nb.size, 0, none⟩) x135' x143' x149' x150' x156' x168' false M169' Q)) :
    A9_18 x1 x11 x30 M Q :=
  LvP.mk (cuts := K9) (sp := Z9) 900 H fun G => by kernel_rfl

theorem w9_19 {x11 x30 : Bool} {x31 : Option Addr} {x40 x42 x43 x44 x46 x48 : Int} {x284 : Bool} {M : Mem} {Q : Value → Mem → Prop} (H :
    cnd x284 (
     A9_20 x11 x30 x31 x42 x43 x44 x46 x48 (x40 == 2) M Q) (
     A9_20 x11 x30 x31 x42 x43 x44 x46 x48 false M Q)) :
    A9_19 x11 x30 x31 x40 x42 x43 x44 x46 x48 x284 M Q :=
  LvP.mk (cuts := K9) (sp := Z9) 900 H fun G => by kernel_rfl

theorem w9_20 {x11 x30 : Bool} {x31 : Option Addr} {x42 x43 x44 x46 x48 : Int} {x288 : Bool} {M : Mem} {Q : Value → Mem → Prop} (H :
    cnd x288 (
     A9_21 x11 x30 x31 x43 x44 x46 x48 (x42 == 2) M Q) (
     A9_21 x11 x30 x31 x43 x44 x46 x48 false M Q)) :
    A9_20 x11 x30 x31 x42 x43 x44 x46 x48 x288 M Q :=
  LvP.mk (cuts := K9) (sp := Z9) 900 H fun G => by kernel_rfl

theorem w9_21 {x11 x30 : Bool} {x31 : Option Addr} {x43 x44 x46 x48 : Int} {x292 : Bool} {M : Mem} {Q : Value → Mem → Prop} (H :
    cnd x292 (
     A9_22 x11 x30 x31 x44 x46 x48 (x43 == 0) M Q) (
     A9_22 x11 x30 x31 x44 x46 x48 false M Q)) :
    A9_21 x11 x30 x31 x43 x44 x46 x48 x292 M Q :=
  LvP.mk (cuts := K9) (sp := Z9) 900 H fun G => by kernel_rfl

theorem w9_22 {x11 x30 : Bool} {x31 : Option Addr} {x44 x46 x48 : Int} {x296 : Bool} {M : Mem} {Q : Value → Mem → Prop} (H :
    cnd x296 (
     A9_23 x11 x30 x31 x46 x48 (x44 == 0) M Q) (
     A9_23 x11 x30 x31 x46 x48 false M Q)) :
    A9_22 x11 x30 x31 x44 x46 x48 x296 M Q :=
  LvP.mk (cuts := K9) (sp := Z9) 900 H fun G => by kernel_rfl

theorem w9_23 {x11 x30 : Bool} {x31 : Option Addr} {x46 x48 : Int} {x300 : Bool} {M : Mem} {Q : Value → Mem → Prop} (H :
    cnd x300 (
     A9_24 x11 x30 x31 x48 (x46 == 2) M Q) (
     A9_24 x11 x30 x31 x48 false M Q)) :
    A9_23 x11 x30 x31 x46 x48 x300 M Q :=
  LvP.mk (cuts := K9) (sp := Z9) 900 H fun G => by kernel_rfl

theorem w9_24 {x11 x30 : Bool} {x31 : Option Addr} {x48 : Int} {x304 : Bool} {M : Mem} {Q : Value → Mem → Prop} (H :
    cnd x304 (
     A9_25 x11 x30 x31 (x48 == 2) M Q) (
     A9_25 x11 x30 x31 false M Q)) :
    A9_24 x11 x30 x31 x48 x304 M Q :=
  LvP.mk (cuts := K9) (sp := Z9) 900 H fun G => by kernel_rfl

theorem w9_25 {x11 x30 : Bool} {x31 : Option Addr} {x49 : Bool} {M : Mem} {Q : Value → Mem → Prop} (H :
    adS x31 fun a170' =>
    onS (M.slAt a170'.block a170'.off) fun s171' =>
    onS (M.intAt .i64 a170'.block (a170'.off + 1)) fun x172' =>
    Cn Try.prog 11 #[.agg #[.slice s171'.1 (s171'.2.1) (s171'.2.2), .int .i64 x172'], .int .i64 1] M fun v173' N173' =>
     tyS (asU 2 v173') fun cs174' =>
     tyS (asA 2 (cs174'.getD 0 undef)) fun cs175' =>
     tyS (asS (cs175'.getD 0 undef)) fun s176' =>
     tyS (asI .i64 (cs175'.getD 1 undef)) fun x177' =>
     tyS (asI .i64 (cs174'.getD 1 undef)) fun x178' =>
     stP (some 2) #[.slice s176'.1 (s176'.2.1) (s176'.2.2), .int .i64 x177'] (N173'.new (.cells #[.slice none 0 0, .int .i64 0] 24)) (2 * N173'.nb.size) 0 fun M179' =>
     adS x31 fun a180' =>
     onS (M179'.slAt a180'.block a180'.off) fun s181' =>
     Cn Try.prog 11 #[.agg #[.slice s181'.1 (s181'.2.1) (s181'.2.2), .int .i64 16], .int .i64 0] M179' fun v182' N182' =>
      tyS (asU 2 v182') fun cs183' =>
      tyS (asA 2 (cs183'.getD 0 undef)) fun cs184' =>
      tyS (asS (cs184'.getD 0 undef)) fun s185' =>
      tyS (asI .i64 (cs184'.getD 1 undef)) fun x186' =>
      tyS (asI .i64 (cs183'.getD 1 undef)) fun x187' =>
      stP (some 2) #[.slice s185'.1 (s185'.2.1) (s185'.2.2), .int .i64 x186'] (N182'.new (.cells #[.slice none 0 0, .int .i64 0] 24)) (2 * N182'.nb.size) 0 fun M188' =>
      adS x31 fun a189' =>
      onS (M188'.slAt a189'.block a189'.off) fun s190' =>
      Cn Try.prog 11 #[.agg #[.slice s190'.1 (s190'.2.1) (s190'.2.2), .int .i64 15], .int .i64 0] M188' fun v191' N191' =>
       tyS (asU 2 v191') fun cs192' =>
       tyS (asA 2 (cs192'.getD 0 undef)) fun cs193' =>
       tyS (asS (cs193'.getD 0 undef)) fun s194' =>
       tyS (asI .i64 (cs193'.getD 1 undef)) fun x195' =>
       tyS (asI .i64 (cs192'.getD 1 undef)) fun x196' =>
       stP (some 2) #[.slice s194'.1 (s194'.2.1) (s194'.2.2), .int .i64 x195'] (N191'.new (.cells #[.slice none 0 0, .int .i64 0] 24)) (2 * N191'.nb.size) 0 fun M197' =>
       adS x31 fun a198' =>
       onS (M197'.slAt a198'.block a198'.off) fun s199' =>
       Cn Try.prog 11 #[.agg #[.slice s199'.1 (s199'.2.1) (s199'.2.2), .int .i64 32], .int .i64 0] M197' fun v200' N200' =>
        tyS (asU 2 v200') fun cs201' =>
        tyS (asA 2 (cs201'.getD 0 undef)) fun cs202' =>
        tyS (asS (cs202'.getD 0 undef)) fun s203' =>
        tyS (asI .i64 (cs202'.getD 1 undef)) fun x204' =>
        tyS (asI .i64 (cs201'.getD 1 undef)) fun x205' =>
        stP (some 2) #[.slice s203'.1 (s203'.2.1) (s203'.2.2), .int .i64 x204'] (N200'.new (.cells #[.slice none 0 0, .int .i64 0] 24)) (2 * N200'.nb.size) 0 fun M206' =>
        adS x31 fun a207' =>
        onS (M206'.slAt a207'.block a207'.off) fun s208' =>
        Cn Try.prog 11 #[.agg #[.slice s208'.1 (s208'.2.1) (s208'.2.2), .int .i64 31], .int .i64 0] M206' fun v209' N209' =>
         tyS (asU 2 v209') fun cs210' =>
         tyS (asA 2 (cs210'.getD 0 undef)) fun cs211' =>
         tyS (asS (cs211'.getD 0 undef)) fun s212' =>
         tyS (asI .i64 (cs211'.getD 1 undef)) fun x213' =>
         tyS (asI .i64 (cs210'.getD 1 undef)) fun x214' =>
         stP (some 2) #[.slice s212'.1 (s212'.2.1) (s212'.2.2), .int .i64 x213'] (N209'.new (.cells #[.slice none 0 0, .int .i64 0] 24)) (2 * N209'.nb.size) 0 fun M215' =>
         onS (M215'.slAt (2 * N173'.nb.size) 0) fun s216' =>
         onS (M215'.intAt .i64 (2 * N173'.nb.size) (0 + 1)) fun x217' =>
         Cn Try.prog 24 #[.agg #[.slice s216'.1 (s216'.2.1) (s216'.2.2), .int .i64 x217'], .int .i64 1, .slice (some ⟨2 * M215'.nb.size, 0, none⟩) 2 2] (M215'.new (.cells #[.int .u16 15360, .int .u16 32768] 47)) fun v218' N218' =>
          tyS (asB v218') fun b219' =>
          cnd b219' (
           onS (N218'.slAt (2 * N182'.nb.size) 0) fun s220' =>
           onS (N218'.intAt .i64 (2 * N182'.nb.size) (0 + 1)) fun x221' =>
           Cn Try.prog 24 #[.agg #[.slice s220'.1 (s220'.2.1) (s220'.2.2), .int .i64 x221'], .int .i64 17, .slice (some ⟨2 * N218'.nb.size, 0, none⟩) 2 2] (N218'.new (.cells #[.int .u16 16896, .int .u16 32768] 47)) fun v222' N222' =>
            tyS (asB v222') fun b223' =>
            A9_26 x11 x30 x49 (some ⟨2 * N191'.nb.size, 0, none⟩) (some ⟨2 * N200'.nb.size, 0, none⟩) (some ⟨2 * N209'.nb.size, 0, none⟩) b223' N222' Q) (
           A9_26 x11 x30 x49 (some ⟨2 * N191'.nb.size, 0, none⟩) (some ⟨2 * N200'.nb.size, 0, none⟩) (some ⟨2 * N209'.nb.size, 0, none⟩) false N218' Q)) :
    A9_25 x11 x30 x31 x49 M Q :=
  LvP.mk (cuts := K9) (sp := Z9) 900 H fun G => by kernel_rfl

theorem w9_26 {x11 x30 x49 : Bool} {x54 x56 x58 : Option Addr} {x349 : Bool} {M : Mem} {Q : Value → Mem → Prop} (H :
    cnd x349 (
     adS x54 fun a224' =>
     onS (M.slAt a224'.block a224'.off) fun s225' =>
     onS (M.intAt .i64 a224'.block (a224'.off + 1)) fun x226' =>
     Cn Try.prog 24 #[.agg #[.slice s225'.1 (s225'.2.1) (s225'.2.2), .int .i64 x226'], .int .i64 16, .slice (some ⟨2 * M.nb.size, 0, none⟩) 2 2] (M.new (.cells #[.int .u16 17408, .int .u16 32768] 47)) fun v227' N227' =>
      tyS (asB v227') fun b228' =>
      A9_27 x11 x30 x49 x56 x58 b228' N227' Q) (
     A9_27 x11 x30 x49 x56 x58 false M Q)) :
    A9_26 x11 x30 x49 x54 x56 x58 x349 M Q :=
  LvP.mk (cuts := K9) (sp := Z9) 900 H fun G => by kernel_rfl

theorem w9_27 {x11 x30 x49 : Bool} {x56 x58 : Option Addr} {x354 : Bool} {M : Mem} {Q : Value → Mem → Prop} (H :
    cnd x354 (
     adS x56 fun a229' =>
     onS (M.slAt a229'.block a229'.off) fun s230' =>
     onS (M.intAt .i64 a229'.block (a229'.off + 1)) fun x231' =>
     Cn Try.prog 24 #[.agg #[.slice s230'.1 (s230'.2.1) (s230'.2.2), .int .i64 x231'], .int .i64 32, .slice (some ⟨2 * M.nb.size, 0, none⟩) 2 2] (M.new (.cells #[.int .u16 16640, .int .u16 32768] 47)) fun v232' N232' =>
      tyS (asB v232') fun b233' =>
      A9_28 x11 x30 x49 x58 b233' N232' Q) (
     A9_28 x11 x30 x49 x58 false M Q)) :
    A9_27 x11 x30 x49 x56 x58 x354 M Q :=
  LvP.mk (cuts := K9) (sp := Z9) 900 H fun G => by kernel_rfl

theorem w9_28 {x11 x30 x49 : Bool} {x58 : Option Addr} {x359 : Bool} {M : Mem} {Q : Value → Mem → Prop} (H :
    cnd x359 (
     adS x58 fun a234' =>
     onS (M.slAt a234'.block a234'.off) fun s235' =>
     onS (M.intAt .i64 a234'.block (a234'.off + 1)) fun x236' =>
     Cn Try.prog 24 #[.agg #[.slice s235'.1 (s235'.2.1) (s235'.2.2), .int .i64 x236'], .int .i64 32, .slice (some ⟨2 * M.nb.size, 0, none⟩) 2 2] (M.new (.cells #[.int .u16 16896, .int .u16 32768] 47)) fun v237' N237' =>
      tyS (asB v237') fun b238' =>
      A9_29 x11 x30 x49 b238' N237' Q) (
     A9_29 x11 x30 x49 false M Q)) :
    A9_28 x11 x30 x49 x58 x359 M Q :=
  LvP.mk (cuts := K9) (sp := Z9) 900 H fun G => by kernel_rfl

theorem w9_29 {x11 x30 x49 x60 : Bool} {M : Mem} {Q : Value → Mem → Prop} (H :
    Cn Try.prog 16 #[] M fun v239' N239' =>
     tyS (asB v239') fun b240' =>
     cnd b240' (
      A9_30 x30 x49 x60 x11 N239' Q) (
      A9_30 x30 x49 x60 false N239' Q)) :
    A9_29 x11 x30 x49 x60 M Q :=
  LvP.mk (cuts := K9) (sp := Z9) 900 H fun G => by kernel_rfl

theorem w9_30 {x30 x49 x60 x370 : Bool} {M : Mem} {Q : Value → Mem → Prop} (H :
    cnd x370 (
     A9_31 x49 x60 x30 M Q) (
     A9_31 x49 x60 false M Q)) :
    A9_30 x30 x49 x60 x370 M Q :=
  LvP.mk (cuts := K9) (sp := Z9) 900 H fun G => by kernel_rfl

theorem w9_31 {x49 x60 x373 : Bool} {M : Mem} {Q : Value → Mem → Prop} (H :
    cnd x373 (
     A9_32 x60 x49 M Q) (
     A9_32 x60 false M Q)) :
    A9_31 x49 x60 x373 M Q :=
  LvP.mk (cuts := K9) (sp := Z9) 900 H fun G => by kernel_rfl

theorem w9_32 {x60 x376 : Bool} {M : Mem} {Q : Value → Mem → Prop} (H :
    cnd x376 (
     Q (.bool x60) M) (
     Q (.bool false) M)) :
    A9_32 x60 x376 M Q :=
  LvP.mk (cuts := K9) (sp := Z9) 900 H fun G => by kernel_rfl


end Go.Zt
