/- The functions' walks: for each function and each loop a rule of what it comes to. Printed by zw2.py. -/
import Derived.Test.YtgepgbblmodagaaProg
import Derived.Test.YtgepgbblmodagaaZkA
import Derived.Test.YtgepgbblmodagaaZqT
import Derived.Test.YtgepgbblmodagaaZlD
import Derived.Test.YtgepgbblmodagaaZlA
import Derived.Test.YtgepgbblmodagaaZmV
set_option linter.unusedVariables false
set_option maxRecDepth 100000
namespace Go.Zt
open Go Go.Sim Go.Proofs

/-! ### zoetrope/zoetropelaw20.HeadsBack: function 6 -/
def K6 : List (List It × List Nat) := [([.code [1,1,1,1,1,0,1], .code [1,1,1,1,1,1]], [0, 3, 52]), ([.code [1,1,1,1,1,1,1,1,0,1,0,0], .lp [1,1,1,1,1,1,1,1,0,1,0,0], .blk 0, .code [1,1,1,1,1,1,1,1,1]], [0, 3, 11, 12, 13]), ([.code [1,1,1,1,1,1,1,1,0,1,0,0,0,1], .code [1,1,1,1,1,1,1,1,0,1,0,0,1], .lp [1,1,1,1,1,1,1,1,0,1,0,0], .blk 0, .code [1,1,1,1,1,1,1,1,1]], [0, 3, 11, 12, 13, 61]), ([.code [1,1,1,1,1,1,1,1,0,1,0,0,1,1], .lp [1,1,1,1,1,1,1,1,0,1,0,0], .blk 0, .code [1,1,1,1,1,1,1,1,1]], [0, 3, 11, 12, 13]), ([.code [1,1,1,1,1,1,1,1,1,1,1,0,1,0,0], .lp [1,1,1,1,1,1,1,1,1,1,1,0,1,0,0], .blk 2, .code [1,1,1,1,1,1,1,1,1,1,1,1]], [3, 12, 15, 16]), ([.code [1,1,1,1,1,1,1,1,1,1,1,0,1,0,0,1,0,0,1,1], .blk 3, .code [1,1,1,1,1,1,1,1,1,1,1,0,1,0,0,1,1], .lp [1,1,1,1,1,1,1,1,1,1,1,0,1,0,0], .blk 2, .code [1,1,1,1,1,1,1,1,1,1,1,1]], [3, 12, 15, 16, 115]), ([.rg [1,1,1,1,1,1,1,1,1,1,1,1,1,0] 7, .code [1,1,1,1,1,1,1,1,1,1,1,1,1,1]], [15, 127]), ([.rg [1,1,1,1,1,1,1,1,1,1,1,1,1,0] 12, .code [1,1,1,1,1,1,1,1,1,1,1,1,1,1]], [15, 132])]
/-! ### zoetrope/zoetropelaw20.same: function 39 -/
def K39 : List (List It × List Nat) := [([.code [1,1,0,1,0,0], .lp [1,1,0,1,0,0], .blk 0, .code [1,1,1]], [2, 3, 5]), ([.rg [1,1,1,0] 13, .code [1,1,1,1]], [2, 3, 45]), ([.rg [1,1,1,0] 20, .code [1,1,1,1]], [2, 3, 52]), ([.rg [1,1,1,0] 27, .code [1,1,1,1]], [2, 3, 59]), ([.rg [1,1,1,0] 34, .code [1,1,1,1]], [2, 3, 66]), ([.rg [1,1,1,0] 41, .code [1,1,1,1]], [2, 3, 73]), ([.code [1,1,1,1]], [2, 3, 6]), ([.rg [1,1,1,1,0] 13, .code [1,1,1,1,1]], [2, 3, 6, 92]), ([.rg [1,1,1,1,0] 20, .code [1,1,1,1,1]], [2, 3, 6, 99]), ([.rg [1,1,1,1,0] 27, .code [1,1,1,1,1]], [2, 3, 6, 106]), ([.code [1,1,1,1,1]], [2, 3, 6, 7]), ([.rg [1,1,1,1,1,0] 5, .code [1,1,1,1,1,1]], [2, 3, 117]), ([.rg [1,1,1,1,1,0] 12, .code [1,1,1,1,1,1]], [2, 3, 124]), ([.rg [1,1,1,1,1,0] 19, .code [1,1,1,1,1,1]], [2, 3, 131]), ([.rg [1,1,1,1,1,0] 26, .code [1,1,1,1,1,1]], [2, 3, 138]), ([.rg [1,1,1,1,1,0] 33, .code [1,1,1,1,1,1]], [2, 3, 145]), ([.rg [1,1,1,1,1,0] 40, .code [1,1,1,1,1,1]], [2, 3, 152])]
def Z39 : List (List Nat × List Nat) := [([1,1,1,0], [13, 20, 27, 34, 41, 48]), ([1,1,1,1,0], [13, 20, 27, 34]), ([1,1,1,1,1,0], [5, 12, 19, 26, 33, 40, 47])]
theorem b39 : Try.prog.funcs[39]? = some Try.f39 ∧ (Orc.tab Try.prog).lookup 39 = none ∧ Try.f39.body = some (codeOf Try.f39) := ⟨by kernel_rfl, by kernel_rfl, by kernel_rfl⟩
def A39_1 (x2 x3 : Option Addr) (x5 : Int) (M : Mem) (Q : Value → Mem → Prop) : Prop := LvP Try.prog Try.f39 [(2, .pointer x2), (3, .pointer x3), (5, .int .i64 x5)] [.code [1,1,0,1,0,0], .lp [1,1,0,1,0,0], .blk 0, .code [1,1,1]] M Q
def A39_2 (x2 x3 : Option Addr) (x45 : Bool) (M : Mem) (Q : Value → Mem → Prop) : Prop := LvP Try.prog Try.f39 [(2, .pointer x2), (3, .pointer x3), (45, .bool x45)] [.rg [1,1,1,0] 13, .code [1,1,1,1]] M Q
def A39_3 (x2 x3 : Option Addr) (x52 : Bool) (M : Mem) (Q : Value → Mem → Prop) : Prop := LvP Try.prog Try.f39 [(2, .pointer x2), (3, .pointer x3), (52, .bool x52)] [.rg [1,1,1,0] 20, .code [1,1,1,1]] M Q
def A39_4 (x2 x3 : Option Addr) (x59 : Bool) (M : Mem) (Q : Value → Mem → Prop) : Prop := LvP Try.prog Try.f39 [(2, .pointer x2), (3, .pointer x3), (59, .bool x59)] [.rg [1,1,1,0] 27, .code [1,1,1,1]] M Q
def A39_5 (x2 x3 : Option Addr) (x66 : Bool) (M : Mem) (Q : Value → Mem → Prop) : Prop := LvP Try.prog Try.f39 [(2, .pointer x2), (3, .pointer x3), (66, .bool x66)] [.rg [1,1,1,0] 34, .code [1,1,1,1]] M Q
def A39_6 (x2 x3 : Option Addr) (x73 : Bool) (M : Mem) (Q : Value → Mem → Prop) : Prop := LvP Try.prog Try.f39 [(2, .pointer x2), (3, .pointer x3), (73, .bool x73)] [.rg [1,1,1,0] 41, .code [1,1,1,1]] M Q
def A39_7 (x2 x3 : Option Addr) (x6 : Bool) (M : Mem) (Q : Value → Mem → Prop) : Prop := LvP Try.prog Try.f39 [(2, .pointer x2), (3, .pointer x3), (6, .bool x6)] [.code [1,1,1,1]] M Q
def A39_8 (x2 x3 : Option Addr) (x6 x92 : Bool) (M : Mem) (Q : Value → Mem → Prop) : Prop := LvP Try.prog Try.f39 [(2, .pointer x2), (3, .pointer x3), (6, .bool x6), (92, .bool x92)] [.rg [1,1,1,1,0] 13, .code [1,1,1,1,1]] M Q
def A39_9 (x2 x3 : Option Addr) (x6 x99 : Bool) (M : Mem) (Q : Value → Mem → Prop) : Prop := LvP Try.prog Try.f39 [(2, .pointer x2), (3, .pointer x3), (6, .bool x6), (99, .bool x99)] [.rg [1,1,1,1,0] 20, .code [1,1,1,1,1]] M Q
def A39_10 (x2 x3 : Option Addr) (x6 x106 : Bool) (M : Mem) (Q : Value → Mem → Prop) : Prop := LvP Try.prog Try.f39 [(2, .pointer x2), (3, .pointer x3), (6, .bool x6), (106, .bool x106)] [.rg [1,1,1,1,0] 27, .code [1,1,1,1,1]] M Q
def A39_11 (x2 x3 : Option Addr) (x6 x7 : Bool) (M : Mem) (Q : Value → Mem → Prop) : Prop := LvP Try.prog Try.f39 [(2, .pointer x2), (3, .pointer x3), (6, .bool x6), (7, .bool x7)] [.code [1,1,1,1,1]] M Q
def A39_12 (x2 x3 : Option Addr) (x117 : Bool) (M : Mem) (Q : Value → Mem → Prop) : Prop := LvP Try.prog Try.f39 [(2, .pointer x2), (3, .pointer x3), (117, .bool x117)] [.rg [1,1,1,1,1,0] 5, .code [1,1,1,1,1,1]] M Q
def A39_13 (x2 x3 : Option Addr) (x124 : Bool) (M : Mem) (Q : Value → Mem → Prop) : Prop := LvP Try.prog Try.f39 [(2, .pointer x2), (3, .pointer x3), (124, .bool x124)] [.rg [1,1,1,1,1,0] 12, .code [1,1,1,1,1,1]] M Q
def A39_14 (x2 x3 : Option Addr) (x131 : Bool) (M : Mem) (Q : Value → Mem → Prop) : Prop := LvP Try.prog Try.f39 [(2, .pointer x2), (3, .pointer x3), (131, .bool x131)] [.rg [1,1,1,1,1,0] 19, .code [1,1,1,1,1,1]] M Q
def A39_15 (x2 x3 : Option Addr) (x138 : Bool) (M : Mem) (Q : Value → Mem → Prop) : Prop := LvP Try.prog Try.f39 [(2, .pointer x2), (3, .pointer x3), (138, .bool x138)] [.rg [1,1,1,1,1,0] 26, .code [1,1,1,1,1,1]] M Q
def A39_16 (x2 x3 : Option Addr) (x145 : Bool) (M : Mem) (Q : Value → Mem → Prop) : Prop := LvP Try.prog Try.f39 [(2, .pointer x2), (3, .pointer x3), (145, .bool x145)] [.rg [1,1,1,1,1,0] 33, .code [1,1,1,1,1,1]] M Q
def A39_17 (x2 x3 : Option Addr) (x152 : Bool) (M : Mem) (Q : Value → Mem → Prop) : Prop := LvP Try.prog Try.f39 [(2, .pointer x2), (3, .pointer x3), (152, .bool x152)] [.rg [1,1,1,1,1,0] 40, .code [1,1,1,1,1,1]] M Q
theorem w39_0 {x0 x1 : Array Value} {M : Mem} {Q : Value → Mem → Prop} (H :
    onS (((M.new (.cells x0 41)).new (.cells x1 41)).slAt (2 * M.nb.size) (0 + 26)) fun s1' =>
    onS (((M.new (.cells x0 41)).new (.cells x1 41)).slAt (2 * (M.new (.cells x0 41)).nb.size) (0 + 26)) fun s2' =>
    cnd (((s1'.2.1 : Int)) != ((s2'.2.1 : Int))) (
     Q (.bool false) ((M.new (.cells x0 41)).new (.cells x1 41))) (
     A39_1 (some ⟨2 * M.nb.size, 0, none⟩) (some ⟨2 * (M.new (.cells x0 41)).nb.size, 0, none⟩) 0 ((M.new (.cells x0 41)).new (.cells x1 41)) Q)) :
    Cn Try.prog 39 #[.agg x0, .agg x1] M Q :=
  Cn.mk (cuts := K39) (sp := Z39) 900 b39 rfl rfl H fun G => by kernel_rfl

theorem w39_1 {x2 x3 : Option Addr} {x5 : Int} {M : Mem} {Q : Value → Mem → Prop} (H :
    adS x2 fun a3' =>
    onS (M.slAt a3'.block (a3'.off + 26)) fun s4' =>
    cnd (decide (x5 < ((s4'.2.1 : Int)))) (
     adS x2 fun a5' =>
     onS (M.slAt a5'.block (a5'.off + 26)) fun s6' =>
     ixS (idxA s6'.1 (s6'.2.1) 4 x5) fun a7' =>
     onS (M.intAt .i64 a7'.block a7'.off) fun x8' =>
     onS (M.intAt .i64 a7'.block (a7'.off + 1)) fun x9' =>
     onS (M.intAt .i64 a7'.block (a7'.off + 2)) fun x10' =>
     onS (M.intAt .i64 a7'.block (a7'.off + 3)) fun x11' =>
     adS x3 fun a12' =>
     onS (M.slAt a12'.block (a12'.off + 26)) fun s13' =>
     ixS (idxA s13'.1 (s13'.2.1) 4 x5) fun a14' =>
     onS (M.intAt .i64 a14'.block a14'.off) fun x15' =>
     onS (M.intAt .i64 a14'.block (a14'.off + 1)) fun x16' =>
     onS (M.intAt .i64 a14'.block (a14'.off + 2)) fun x17' =>
     onS (M.intAt .i64 a14'.block (a14'.off + 3)) fun x18' =>
     puS (binV Try.prog .neq 96 96 (.agg #[.int .i64 x8', .int .i64 x9', .int .i64 x10', .int .i64 x11']) (.agg #[.int .i64 x15', .int .i64 x16', .int .i64 x17', .int .i64 x18'])) fun v19' =>
     tyS (asB v19') fun b20' =>
     cnd b20' (
      Q (.bool false) M) (
      A39_1 x2 x3 (IntKind.i64.wrap (x5 + 1)) M Q)) (
     adS x2 fun a21' =>
     onS (M.boolAt a21'.block a21'.off) fun b22' =>
     adS x3 fun a23' =>
     onS (M.boolAt a23'.block a23'.off) fun b24' =>
     cnd (b22' == b24') (
      adS x2 fun a25' =>
      onS (M.intAt .i64 a25'.block (a25'.off + 1)) fun x26' =>
      adS x3 fun a27' =>
      onS (M.intAt .i64 a27'.block (a27'.off + 1)) fun x28' =>
      A39_2 x2 x3 (x26' == x28') M Q) (
      A39_2 x2 x3 false M Q))) :
    A39_1 x2 x3 x5 M Q :=
  LvP.mk (cuts := K39) (sp := Z39) 900 H fun G => by kernel_rfl

theorem w39_2 {x2 x3 : Option Addr} {x45 : Bool} {M : Mem} {Q : Value → Mem → Prop} (H :
    cnd x45 (
     adS x2 fun a29' =>
     onS (M.boolAt a29'.block (a29'.off + 2)) fun b30' =>
     adS x3 fun a31' =>
     onS (M.boolAt a31'.block (a31'.off + 2)) fun b32' =>
     A39_3 x2 x3 (b30' == b32') M Q) (
     A39_3 x2 x3 false M Q)) :
    A39_2 x2 x3 x45 M Q :=
  LvP.mk (cuts := K39) (sp := Z39) 900 H fun G => by kernel_rfl

theorem w39_3 {x2 x3 : Option Addr} {x52 : Bool} {M : Mem} {Q : Value → Mem → Prop} (H :
    cnd x52 (
     adS x2 fun a33' =>
     onS (M.boolAt a33'.block (a33'.off + 3)) fun b34' =>
     adS x3 fun a35' =>
     onS (M.boolAt a35'.block (a35'.off + 3)) fun b36' =>
     A39_4 x2 x3 (b34' == b36') M Q) (
     A39_4 x2 x3 false M Q)) :
    A39_3 x2 x3 x52 M Q :=
  LvP.mk (cuts := K39) (sp := Z39) 900 H fun G => by kernel_rfl

theorem w39_4 {x2 x3 : Option Addr} {x59 : Bool} {M : Mem} {Q : Value → Mem → Prop} (H :
    cnd x59 (
     adS x2 fun a37' =>
     onS (M.intAt .i64 a37'.block (a37'.off + 4)) fun x38' =>
     adS x3 fun a39' =>
     onS (M.intAt .i64 a39'.block (a39'.off + 4)) fun x40' =>
     A39_5 x2 x3 (x38' == x40') M Q) (
     A39_5 x2 x3 false M Q)) :
    A39_4 x2 x3 x59 M Q :=
  LvP.mk (cuts := K39) (sp := Z39) 900 H fun G => by kernel_rfl

theorem w39_5 {x2 x3 : Option Addr} {x66 : Bool} {M : Mem} {Q : Value → Mem → Prop} (H :
    cnd x66 (
     adS x2 fun a41' =>
     onS (M.intAt .i64 a41'.block (a41'.off + 5)) fun x42' =>
     onS (M.intAt .i64 a41'.block (a41'.off + 6)) fun x43' =>
     onS (M.intAt .i64 a41'.block (a41'.off + 7)) fun x44' =>
     adS x3 fun a45' =>
     onS (M.intAt .i64 a45'.block (a45'.off + 5)) fun x46' =>
     onS (M.intAt .i64 a45'.block (a45'.off + 6)) fun x47' =>
     onS (M.intAt .i64 a45'.block (a45'.off + 7)) fun x48' =>
     puS (binV Try.prog .eql 35 35 (.agg #[.int .i64 x42', .int .i64 x43', .int .i64 x44']) (.agg #[.int .i64 x46', .int .i64 x47', .int .i64 x48'])) fun v49' =>
     tyS (asB v49') fun b50' =>
     A39_6 x2 x3 b50' M Q) (
     A39_6 x2 x3 false M Q)) :
    A39_5 x2 x3 x66 M Q :=
  LvP.mk (cuts := K39) (sp := Z39) 900 H fun G => by kernel_rfl

theorem w39_6 {x2 x3 : Option Addr} {x73 : Bool} {M : Mem} {Q : Value → Mem → Prop} (H :
    cnd x73 (
     adS x2 fun a51' =>
     onS (M.intAt .i64 a51'.block (a51'.off + 8)) fun x52' =>
     adS x3 fun a53' =>
     onS (M.intAt .i64 a53'.block (a53'.off + 8)) fun x54' =>
     A39_7 x2 x3 (x52' == x54') M Q) (
     A39_7 x2 x3 false M Q)) :
    A39_6 x2 x3 x73 M Q :=
  LvP.mk (cuts := K39) (sp := Z39) 900 H fun G => by kernel_rfl

theorem w39_7 {x2 x3 : Option Addr} {x6 : Bool} {M : Mem} {Q : Value → Mem → Prop} (H :
    adS x2 fun a55' =>
    onS (M.intAt .i64 a55'.block (a55'.off + 9)) fun x56' =>
    adS x3 fun a57' =>
    onS (M.intAt .i64 a57'.block (a57'.off + 9)) fun x58' =>
    cnd (x56' == x58') (
     adS x2 fun a59' =>
     onS (M.intAt .i64 a59'.block (a59'.off + 10)) fun x60' =>
     onS (M.intAt .i64 a59'.block (a59'.off + 11)) fun x61' =>
     onS (M.intAt .i64 a59'.block (a59'.off + 12)) fun x62' =>
     onS (M.intAt .i64 a59'.block (a59'.off + 13)) fun x63' =>
     onS (M.intAt .i64 a59'.block (a59'.off + 14)) fun x64' =>
     adS x3 fun a65' =>
     onS (M.intAt .i64 a65'.block (a65'.off + 10)) fun x66' =>
     onS (M.intAt .i64 a65'.block (a65'.off + 11)) fun x67' =>
     onS (M.intAt .i64 a65'.block (a65'.off + 12)) fun x68' =>
     onS (M.intAt .i64 a65'.block (a65'.off + 13)) fun x69' =>
     onS (M.intAt .i64 a65'.block (a65'.off + 14)) fun x70' =>
     puS (binV Try.prog .eql 36 36 (.agg #[.int .i64 x60', .int .i64 x61', .int .i64 x62', .int .i64 x63', .int .i64 x64']) (.agg #[.int .i64 x66', .int .i64 x67', .int .i64 x68', .int .i64 x69', .int .i64 x70'])) fun v71' =>
     tyS (asB v71') fun b72' =>
     A39_8 x2 x3 x6 b72' M Q) (
     A39_8 x2 x3 x6 false M Q)) :
    A39_7 x2 x3 x6 M Q :=
  LvP.mk (cuts := K39) (sp := Z39) 900 H fun G => by kernel_rfl

theorem w39_8 {x2 x3 : Option Addr} {x6 x92 : Bool} {M : Mem} {Q : Value → Mem → Prop} (H :
    cnd x92 (
     adS x2 fun a73' =>
     onS (M.intAt .i64 a73'.block (a73'.off + 15)) fun x74' =>
     adS x3 fun a75' =>
     onS (M.intAt .i64 a75'.block (a75'.off + 15)) fun x76' =>
     A39_9 x2 x3 x6 (x74' == x76') M Q) (
     A39_9 x2 x3 x6 false M Q)) :
    A39_8 x2 x3 x6 x92 M Q :=
  LvP.mk (cuts := K39) (sp := Z39) 900 H fun G => by kernel_rfl

theorem w39_9 {x2 x3 : Option Addr} {x6 x99 : Bool} {M : Mem} {Q : Value → Mem → Prop} (H :
    cnd x99 (
     adS x2 fun a77' =>
     onS (M.intAt .i64 a77'.block (a77'.off + 16)) fun x78' =>
     adS x3 fun a79' =>
     onS (M.intAt .i64 a79'.block (a79'.off + 16)) fun x80' =>
     A39_10 x2 x3 x6 (x78' == x80') M Q) (
     A39_10 x2 x3 x6 false M Q)) :
    A39_9 x2 x3 x6 x99 M Q :=
  LvP.mk (cuts := K39) (sp := Z39) 900 H fun G => by kernel_rfl

theorem w39_10 {x2 x3 : Option Addr} {x6 x106 : Bool} {M : Mem} {Q : Value → Mem → Prop} (H :
    cnd x106 (
     adS x2 fun a81' =>
     onS (M.boolAt a81'.block (a81'.off + 17)) fun b82' =>
     adS x3 fun a83' =>
     onS (M.boolAt a83'.block (a83'.off + 17)) fun b84' =>
     A39_11 x2 x3 x6 (b82' == b84') M Q) (
     A39_11 x2 x3 x6 false M Q)) :
    A39_10 x2 x3 x6 x106 M Q :=
  LvP.mk (cuts := K39) (sp := Z39) 900 H fun G => by kernel_rfl

theorem w39_11 {x2 x3 : Option Addr} {x6 x7 : Bool} {M : Mem} {Q : Value → Mem → Prop} (H :
    cnd x6 (
     A39_12 x2 x3 x7 M Q) (
     A39_12 x2 x3 false M Q)) :
    A39_11 x2 x3 x6 x7 M Q :=
  LvP.mk (cuts := K39) (sp := Z39) 900 H fun G => by kernel_rfl

theorem w39_12 {x2 x3 : Option Addr} {x117 : Bool} {M : Mem} {Q : Value → Mem → Prop} (H :
    cnd x117 (
     adS x2 fun a85' =>
     onS (M.intAt .i64 a85'.block (a85'.off + 18)) fun x86' =>
     onS (M.intAt .i64 a85'.block (a85'.off + 19)) fun x87' =>
     onS (M.intAt .i64 a85'.block (a85'.off + 20)) fun x88' =>
     onS (M.intAt .i64 a85'.block (a85'.off + 21)) fun x89' =>
     adS x3 fun a90' =>
     onS (M.intAt .i64 a90'.block (a90'.off + 18)) fun x91' =>
     onS (M.intAt .i64 a90'.block (a90'.off + 19)) fun x92' =>
     onS (M.intAt .i64 a90'.block (a90'.off + 20)) fun x93' =>
     onS (M.intAt .i64 a90'.block (a90'.off + 21)) fun x94' =>
     puS (binV Try.prog .eql 37 37 (.agg #[.int .i64 x86', .int .i64 x87', .int .i64 x88', .int .i64 x89']) (.agg #[.int .i64 x91', .int .i64 x92', .int .i64 x93', .int .i64 x94'])) fun v95' =>
     tyS (asB v95') fun b96' =>
     A39_13 x2 x3 b96' M Q) (
     A39_13 x2 x3 false M Q)) :
    A39_12 x2 x3 x117 M Q :=
  LvP.mk (cuts := K39) (sp := Z39) 900 H fun G => by kernel_rfl

theorem w39_13 {x2 x3 : Option Addr} {x124 : Bool} {M : Mem} {Q : Value → Mem → Prop} (H :
    cnd x124 (
     adS x2 fun a97' =>
     onS (M.intAt .i64 a97'.block (a97'.off + 22)) fun x98' =>
     adS x3 fun a99' =>
     onS (M.intAt .i64 a99'.block (a99'.off + 22)) fun x100' =>
     A39_14 x2 x3 (x98' == x100') M Q) (
     A39_14 x2 x3 false M Q)) :
    A39_13 x2 x3 x124 M Q :=
  LvP.mk (cuts := K39) (sp := Z39) 900 H fun G => by kernel_rfl

theorem w39_14 {x2 x3 : Option Addr} {x131 : Bool} {M : Mem} {Q : Value → Mem → Prop} (H :
    cnd x131 (
     adS x2 fun a101' =>
     onS (M.boolAt a101'.block (a101'.off + 23)) fun b102' =>
     adS x3 fun a103' =>
     onS (M.boolAt a103'.block (a103'.off + 23)) fun b104' =>
     A39_15 x2 x3 (b102' == b104') M Q) (
     A39_15 x2 x3 false M Q)) :
    A39_14 x2 x3 x131 M Q :=
  LvP.mk (cuts := K39) (sp := Z39) 900 H fun G => by kernel_rfl

theorem w39_15 {x2 x3 : Option Addr} {x138 : Bool} {M : Mem} {Q : Value → Mem → Prop} (H :
    cnd x138 (
     adS x2 fun a105' =>
     onS (M.intAt .i64 a105'.block (a105'.off + 24)) fun x106' =>
     adS x3 fun a107' =>
     onS (M.intAt .i64 a107'.block (a107'.off + 24)) fun x108' =>
     A39_16 x2 x3 (x106' == x108') M Q) (
     A39_16 x2 x3 false M Q)) :
    A39_15 x2 x3 x138 M Q :=
  LvP.mk (cuts := K39) (sp := Z39) 900 H fun G => by kernel_rfl

theorem w39_16 {x2 x3 : Option Addr} {x145 : Bool} {M : Mem} {Q : Value → Mem → Prop} (H :
    cnd x145 (
     adS x2 fun a109' =>
     onS (M.intAt .i64 a109'.block (a109'.off + 25)) fun x110' =>
     adS x3 fun a111' =>
     onS (M.intAt .i64 a111'.block (a111'.off + 25)) fun x112' =>
     A39_17 x2 x3 (x110' == x112') M Q) (
     A39_17 x2 x3 false M Q)) :
    A39_16 x2 x3 x145 M Q :=
  LvP.mk (cuts := K39) (sp := Z39) 900 H fun G => by kernel_rfl

theorem w39_17 {x2 x3 : Option Addr} {x152 : Bool} {M : Mem} {Q : Value → Mem → Prop} (H :
    cnd x152 (
     adS x2 fun a113' =>
     onS (M.boolAt a113'.block (a113'.off + 27)) fun b114' =>
     onS (M.boolAt a113'.block (a113'.off + 28)) fun b115' =>
     onS (M.boolAt a113'.block (a113'.off + 29)) fun b116' =>
     adS x3 fun a117' =>
     onS (M.boolAt a117'.block (a117'.off + 27)) fun b118' =>
     onS (M.boolAt a117'.block (a117'.off + 28)) fun b119' =>
     onS (M.boolAt a117'.block (a117'.off + 29)) fun b120' =>
     puS (binV Try.prog .eql 39 39 (.agg #[.bool b114', .bool b115', .bool b116']) (.agg #[.bool b118', .bool b119', .bool b120'])) fun v121' =>
     tyS (asB v121') fun b122' =>
     Q (.bool b122') M) (
     Q (.bool false) M)) :
    A39_17 x2 x3 x152 M Q :=
  LvP.mk (cuts := K39) (sp := Z39) 900 H fun G => by kernel_rfl


end Go.Zt


/- Layer 20: the law's own 'same' of a header and its like. -/
set_option linter.unusedSimpArgs false
set_option linter.unusedVariables false
set_option maxRecDepth 100000
namespace Go.Zt
open Go Go.Sim Go.Proofs Go.RowKit

section
variable {h : Hd} {X : List Sg} {M0 M : Mem} {j i : Nat} {A' : Option Addr} {c' : Nat}
theorem f39_17 (K : Keep M0 M) (a : M.nb[j]? = some (.cells h.cs 41)) (a' : M.nb[i]? = some (.cells ({ h with A := A', c := c' } : Hd).cs 41)) {x : Bool} (hx : x = true) : A39_17 (some ⟨2 * j, 0, none⟩) (some ⟨2 * i, 0, none⟩) x M (BK M0 true) := by
  exact w39_17 (cT hx (ad rfl (on (bool_of a rfl) (on (bool_of a rfl) (on (bool_of a rfl) (ad rfl (on (bool_of a' rfl) (on (bool_of a' rfl) (on (bool_of a' rfl) (pu (eq39 ..).1 (ty rfl (⟨by simp, K⟩))))))))))))
theorem f39_16 (K : Keep M0 M) (a : M.nb[j]? = some (.cells h.cs 41)) (a' : M.nb[i]? = some (.cells ({ h with A := A', c := c' } : Hd).cs 41)) {x : Bool} (hx : x = true) : A39_16 (some ⟨2 * j, 0, none⟩) (some ⟨2 * i, 0, none⟩) x M (BK M0 true) := by
  exact w39_16 (cT hx (ad rfl (on (int_of a rfl) (ad rfl (on (int_of a' rfl) (f39_17 K a a' (by simp)))))))
theorem f39_15 (K : Keep M0 M) (a : M.nb[j]? = some (.cells h.cs 41)) (a' : M.nb[i]? = some (.cells ({ h with A := A', c := c' } : Hd).cs 41)) {x : Bool} (hx : x = true) : A39_15 (some ⟨2 * j, 0, none⟩) (some ⟨2 * i, 0, none⟩) x M (BK M0 true) := by
  exact w39_15 (cT hx (ad rfl (on (int_of a rfl) (ad rfl (on (int_of a' rfl) (f39_16 K a a' (by simp)))))))
theorem f39_14 (K : Keep M0 M) (a : M.nb[j]? = some (.cells h.cs 41)) (a' : M.nb[i]? = some (.cells ({ h with A := A', c := c' } : Hd).cs 41)) {x : Bool} (hx : x = true) : A39_14 (some ⟨2 * j, 0, none⟩) (some ⟨2 * i, 0, none⟩) x M (BK M0 true) := by
  exact w39_14 (cT hx (ad rfl (on (bool_of a rfl) (ad rfl (on (bool_of a' rfl) (f39_15 K a a' (by simp)))))))
theorem f39_13 (K : Keep M0 M) (a : M.nb[j]? = some (.cells h.cs 41)) (a' : M.nb[i]? = some (.cells ({ h with A := A', c := c' } : Hd).cs 41)) {x : Bool} (hx : x = true) : A39_13 (some ⟨2 * j, 0, none⟩) (some ⟨2 * i, 0, none⟩) x M (BK M0 true) := by
  exact w39_13 (cT hx (ad rfl (on (int_of a rfl) (ad rfl (on (int_of a' rfl) (f39_14 K a a' (by simp)))))))
theorem f39_12 (K : Keep M0 M) (a : M.nb[j]? = some (.cells h.cs 41)) (a' : M.nb[i]? = some (.cells ({ h with A := A', c := c' } : Hd).cs 41)) {x : Bool} (hx : x = true) : A39_12 (some ⟨2 * j, 0, none⟩) (some ⟨2 * i, 0, none⟩) x M (BK M0 true) := by
  exact w39_12 (cT hx (ad rfl (on (int_of a rfl) (on (int_of a rfl) (on (int_of a rfl) (on (int_of a rfl) (ad rfl (on (int_of a' rfl) (on (int_of a' rfl) (on (int_of a' rfl) (on (int_of a' rfl) (pu (eq37 ..).1 (ty rfl (f39_13 K a a' (by simp)))))))))))))))
theorem f39_11 (K : Keep M0 M) (a : M.nb[j]? = some (.cells h.cs 41)) (a' : M.nb[i]? = some (.cells ({ h with A := A', c := c' } : Hd).cs 41)) {x : Bool} (hx : x = true) {y : Bool} (hy : y = true) : A39_11 (some ⟨2 * j, 0, none⟩) (some ⟨2 * i, 0, none⟩) x y M (BK M0 true) := by
  exact w39_11 (cT hx (f39_12 K a a' hy))
theorem f39_10 (K : Keep M0 M) (a : M.nb[j]? = some (.cells h.cs 41)) (a' : M.nb[i]? = some (.cells ({ h with A := A', c := c' } : Hd).cs 41)) {x : Bool} (hx : x = true) {y : Bool} (hy : y = true) : A39_10 (some ⟨2 * j, 0, none⟩) (some ⟨2 * i, 0, none⟩) x y M (BK M0 true) := by
  exact w39_10 (cT hy (ad rfl (on (bool_of a rfl) (ad rfl (on (bool_of a' rfl) (f39_11 K a a' hx (by simp)))))))
theorem f39_9 (K : Keep M0 M) (a : M.nb[j]? = some (.cells h.cs 41)) (a' : M.nb[i]? = some (.cells ({ h with A := A', c := c' } : Hd).cs 41)) {x : Bool} (hx : x = true) {y : Bool} (hy : y = true) : A39_9 (some ⟨2 * j, 0, none⟩) (some ⟨2 * i, 0, none⟩) x y M (BK M0 true) := by
  exact w39_9 (cT hy (ad rfl (on (int_of a rfl) (ad rfl (on (int_of a' rfl) (f39_10 K a a' hx (by simp)))))))
theorem f39_8 (K : Keep M0 M) (a : M.nb[j]? = some (.cells h.cs 41)) (a' : M.nb[i]? = some (.cells ({ h with A := A', c := c' } : Hd).cs 41)) {x : Bool} (hx : x = true) {y : Bool} (hy : y = true) : A39_8 (some ⟨2 * j, 0, none⟩) (some ⟨2 * i, 0, none⟩) x y M (BK M0 true) := by
  exact w39_8 (cT hy (ad rfl (on (int_of a rfl) (ad rfl (on (int_of a' rfl) (f39_9 K a a' hx (by simp)))))))
theorem f39_7 (K : Keep M0 M) (a : M.nb[j]? = some (.cells h.cs 41)) (a' : M.nb[i]? = some (.cells ({ h with A := A', c := c' } : Hd).cs 41)) {x : Bool} (hx : x = true) : A39_7 (some ⟨2 * j, 0, none⟩) (some ⟨2 * i, 0, none⟩) x M (BK M0 true) := by
  exact w39_7 (ad rfl (on (int_of a rfl) (ad rfl (on (int_of a' rfl) (cT (by simp) (ad rfl (on (int_of a rfl) (on (int_of a rfl) (on (int_of a rfl) (on (int_of a rfl) (on (int_of a rfl) (ad rfl (on (int_of a' rfl) (on (int_of a' rfl) (on (int_of a' rfl) (on (int_of a' rfl) (on (int_of a' rfl) (pu (eq36 ..).1 (ty rfl (f39_8 K a a' hx (by simp)))))))))))))))))))))
theorem f39_6 (K : Keep M0 M) (a : M.nb[j]? = some (.cells h.cs 41)) (a' : M.nb[i]? = some (.cells ({ h with A := A', c := c' } : Hd).cs 41)) {x : Bool} (hx : x = true) : A39_6 (some ⟨2 * j, 0, none⟩) (some ⟨2 * i, 0, none⟩) x M (BK M0 true) := by
  exact w39_6 (cT hx (ad rfl (on (int_of a rfl) (ad rfl (on (int_of a' rfl) (f39_7 K a a' (by simp)))))))
theorem f39_5 (K : Keep M0 M) (a : M.nb[j]? = some (.cells h.cs 41)) (a' : M.nb[i]? = some (.cells ({ h with A := A', c := c' } : Hd).cs 41)) {x : Bool} (hx : x = true) : A39_5 (some ⟨2 * j, 0, none⟩) (some ⟨2 * i, 0, none⟩) x M (BK M0 true) := by
  exact w39_5 (cT hx (ad rfl (on (int_of a rfl) (on (int_of a rfl) (on (int_of a rfl) (ad rfl (on (int_of a' rfl) (on (int_of a' rfl) (on (int_of a' rfl) (pu (eq35 ..).1 (ty rfl (f39_6 K a a' (by simp)))))))))))))
theorem f39_4 (K : Keep M0 M) (a : M.nb[j]? = some (.cells h.cs 41)) (a' : M.nb[i]? = some (.cells ({ h with A := A', c := c' } : Hd).cs 41)) {x : Bool} (hx : x = true) : A39_4 (some ⟨2 * j, 0, none⟩) (some ⟨2 * i, 0, none⟩) x M (BK M0 true) := by
  exact w39_4 (cT hx (ad rfl (on (int_of a rfl) (ad rfl (on (int_of a' rfl) (f39_5 K a a' (by simp)))))))
theorem f39_3 (K : Keep M0 M) (a : M.nb[j]? = some (.cells h.cs 41)) (a' : M.nb[i]? = some (.cells ({ h with A := A', c := c' } : Hd).cs 41)) {x : Bool} (hx : x = true) : A39_3 (some ⟨2 * j, 0, none⟩) (some ⟨2 * i, 0, none⟩) x M (BK M0 true) := by
  exact w39_3 (cT hx (ad rfl (on (bool_of a rfl) (ad rfl (on (bool_of a' rfl) (f39_4 K a a' (by simp)))))))
theorem f39_2 (K : Keep M0 M) (a : M.nb[j]? = some (.cells h.cs 41)) (a' : M.nb[i]? = some (.cells ({ h with A := A', c := c' } : Hd).cs 41)) {x : Bool} (hx : x = true) : A39_2 (some ⟨2 * j, 0, none⟩) (some ⟨2 * i, 0, none⟩) x M (BK M0 true) := by
  exact w39_2 (cT hx (ad rfl (on (bool_of a rfl) (ad rfl (on (bool_of a' rfl) (f39_3 K a a' (by simp)))))))
theorem f39_1 (K : Keep M0 M) (a : M.nb[j]? = some (.cells h.cs 41)) (a' : M.nb[i]? = some (.cells ({ h with A := A', c := c' } : Hd).cs 41)) (hn : h.n = X.length) (hb : h.n ≤ 1048576) (hR : Row M h.A (Sgs X)) (hR' : Row M A' (Sgs X)) : ∀ (k q : Nat), q + k = h.n → A39_1 (some ⟨2 * j, 0, none⟩) (some ⟨2 * i, 0, none⟩) (q : Int) M (BK M0 true)
  | 0, q, hq => w39_1 (ad rfl (on (sl_of a rfl) (cF (decide_eq_false (by show ¬ (q : Int) < (h.n : Int); omega)) (ad rfl (on (bool_of a rfl) (ad rfl (on (bool_of a' rfl) (cT (by simp) (ad rfl (on (int_of a rfl) (ad rfl (on (int_of a' rfl) (f39_2 K a a' (by simp))))))))))))))
  | k + 1, q, hq => by
    have hlt : q < X.length := by omega
    obtain ⟨p, g0, g1, g2, g3, g4⟩ := Sgs.elt hR (n := h.n) (i := q) (z := (q : Int)) rfl (by omega) hlt
    obtain ⟨p', g0', g1', g2', g3', g4'⟩ := Sgs.elt hR' (n := h.n) (i := q) (z := (q : Int)) rfl (by omega) hlt
    refine w39_1 (ad rfl (on (sl_of a rfl) (cT (decide_eq_true (show (q : Int) < (h.n : Int) by omega)) (ad rfl (on (sl_of a rfl) (ix g0 (on g1 (on g2 (on g3 (on g4 (ad rfl (on (sl_of a' rfl) (ix g0' (on g1' (on g2' (on g3' (on g4' (pu (eq96 ..).2 (ty rfl (cF (by simp) ?_))))))))))))))))))))
    rw [i64w (by omega)]
    exact f39_1 K a a' hn hb hR hR' k (q + 1) (by omega)
theorem c39 (hn : h.n = X.length) (hb : h.n ≤ 1048576) (hR : Row M h.A (Sgs X)) (hR' : Row M A' (Sgs X)) : Cn Try.prog 39 #[.agg h.cs, .agg ({ h with A := A', c := c' } : Hd).cs] M (BK M true) := by
  have a := Mem.new_at M (.cells h.cs 41)
  have K : Keep M (M.new (.cells h.cs 41)) := .new _ _
  refine w39_0 ?_
  generalize M.new (.cells h.cs 41) = N at a K ⊢
  have a' := Mem.new_at N (.cells ({ h with A := A', c := c' } : Hd).cs 41)
  have K2 : Keep N (N.new (.cells ({ h with A := A', c := c' } : Hd).cs 41)) := .new _ _
  have a2 := at_keep a K2
  generalize N.new (.cells ({ h with A := A', c := c' } : Hd).cs 41) = N2 at a' K2 a2 ⊢
  have KK := K.trans K2
  exact on (sl_of a2 rfl) (on (sl_of a' rfl) (cF (by simp) (f39_1 KK a2 a' hn hb (hR.keep KK) (hR'.keep KK) h.n 0 (by omega))))
end
end Go.Zt


/- Layer 20: helps for HeadsBack: thirty cells read, heads seen, packed bits. -/
set_option linter.unusedSimpArgs false
set_option linter.unusedVariables false
set_option maxRecDepth 100000
namespace Go.Zt
open Go Go.Sim Go.Proofs Go.RowKit

/-! ### Bits in bytes -/
theorem numb_bit {f : Nat → Nat} (hf : ∀ i, f i < 2) (a r : Nat) (hr : r < 8) : numb f a 8 / 2 ^ (7 - r) % 2 = f (a + r) := by
  have h := segN hf 8 a
  have e1 : seg f a 8 = [f a, f (a + 1), f (a + 2), f (a + 3), f (a + 4), f (a + 5), f (a + 6), f (a + 7)] := rfl
  rw [e1] at h
  simp only [bitsN, List.cons.injEq, and_true] at h
  obtain ⟨h0, h1, h2, h3, h4, h5, h6, h7⟩ := h
  match r, hr with
  | 0, _ => exact h0
  | 1, _ => exact h1
  | 2, _ => exact h2
  | 3, _ => exact h3
  | 4, _ => exact h4
  | 5, _ => exact h5
  | 6, _ => exact h6
  | 7, _ => exact h7
theorem bit_pack {l : List Nat} (hl : Bin l) {i : Nat} (hi : i < 8 * (pack l).length) : bitOf (pack l) i = bitL l i := by
  have hp := pack_len l
  have hq : i / 8 < (pack l).length := by omega
  have hg : (pack l).getD (i / 8) 0 = gbyte l (i / 8) := by
    rw [List.getD_eq_getElem?_getD, List.getElem?_eq_getElem hq]
    simp [pack]
  unfold bitOf
  rw [hg]
  unfold gbyte
  rw [numb_bit (bitL_lt hl) (8 * (i / 8)) (i % 8) (Nat.mod_lt _ (by decide))]
  congr 1
  omega
end Go.Zt


/- Layer 20: HeadsBack: what was written is read again. -/
set_option linter.unusedSimpArgs false
set_option linter.unusedVariables false
set_option maxRecDepth 100000
namespace Go.Zt
open Go Go.Sim Go.Proofs Go.RowKit

abbrev hB (x : Hd × List Sg) : List Nat := hBits x.1 x.2
section
variable {U V : Nat → Prop} {M N M0 : Mem} {jd js jw : Nat} {b : List Nat} {w e : Int} {Ks Hs : List (Hd × List Sg)} {Ax : Option Addr} {cx z p : Nat} {l : List Nat}
end
end Go.Zt


/- Layer 20: HeadsBack: the writing loop and the law. -/
set_option linter.unusedSimpArgs false
set_option linter.unusedVariables false
set_option maxRecDepth 100000
namespace Go.Zt
open Go Go.Sim Go.Proofs Go.RowKit

section
variable {U V : Nat → Prop} {M N M0 : Mem} {jd js jw : Nat} {b : List Nat} {w e : Int} {Ks Hs : List (Hd × List Sg)} {Ah Ax : Option Addr} {nh ch cx z p : Nat} {l : List Nat}
end
end Go.Zt


/- Layer 20: HeadsAny: the law. -/
set_option linter.unusedSimpArgs false
set_option linter.unusedVariables false
set_option maxRecDepth 100000
namespace Go.Zt
open Go Go.Sim Go.Proofs Go.RowKit

section
variable {w e : Int} {c0 c : Cd} {X0 X : List Sg} {h : Hd}
theorem StrT_cd (h : StrT c0 X0 c X) : c.2.2.cd = c0.2.2.cd := by
  obtain ⟨c1, h1, c2, h2, c3, X3, h3, h4, h5⟩ := h
  have q1 : c1.2.2.cd = c0.2.2.cd := by rw [h1]; rfl
  have q2 : c2.2.2.cd = c1.2.2.cd := by rw [h2]; rfl
  have q3 : c3.2.2.cd = c2.2.2.cd := by
    split at h3
    · rw [h3.1]
    · split at h3
      · obtain ⟨⟨A, m, h3⟩, _⟩ := h3; rw [h3]
      · rw [h3.1]
  rw [h4]; show c3.2.2.cd = _; rw [q3, q2, q1]
theorem FiltT_A (h : FiltT c0 X0 c X) (hc : c.2.2.cd = false) : c.2.2.A = c0.2.2.A := by
  obtain ⟨c1, h1, c2, h2, c3, h3, c4, h4, c5, h5, c6, h6, c7, h7, c8, h8, c9, h9, h10⟩ := h
  have q6 : c6.2.2.A = c0.2.2.A := by rw [h6]; show c5.2.2.A = _; rw [h5]; show c4.2.2.A = _; rw [h4]; show c3.2.2.A = _; rw [h3]; show c2.2.2.A = _; rw [h2]; show c1.2.2.A = _; rw [h1]; rfl
  have q8 : c8.2.2.A = c7.2.2.A ∧ c8.2.2.cd = c7.2.2.cd := by rw [h8]; exact ⟨rfl, rfl⟩
  have q9 : c9.2.2.A = c8.2.2.A ∧ c9.2.2.cd = c8.2.2.cd := by rw [h9]; exact ⟨rfl, rfl⟩
  have q10 : c.2.2.A = c9.2.2.A ∧ c.2.2.cd = c9.2.2.cd := by rw [h10]; exact ⟨rfl, rfl⟩
  split at h7
  · rename_i hh
    have := StrT_cd h7
    rw [q10.2, q9.2, q8.2, this, hh.1] at hc
    cases hc
  · rw [q10.1, q9.1, q8.1, h7.1, q6]
theorem TailT_A (h : TailT w e c0 X0 c X) (hc : c.2.2.cd = false) : c.2.2.A = c0.2.2.A := by
  obtain ⟨c1, h1, c2, h2, c3, h3, c4, h4, c5, h5, c6, h6, c7, h7, c8, h8, h9⟩ := h
  have q8 : c8.2.2.A = c0.2.2.A := by rw [h8]; show c7.2.2.A = _; rw [h7]; show c6.2.2.A = _; rw [h6]; show c5.2.2.A = _; rw [h5]; show c4.2.2.A = _; rw [h4]; show c3.2.2.A = _; rw [h3]; show c2.2.2.A = _; rw [h2]; show c1.2.2.A = _; rw [h1]; rfl
  split at h9
  · rw [h9.1, q8]
  · rw [FiltT_A h9 hc, q8]
theorem HeadT_A (h : HeadT w e c0 X0 c X) (hc : c.2.2.cd = false) : c.2.2.A = c0.2.2.A := by
  obtain ⟨c1, h1, h⟩ := h
  have q1 : c1.2.2.A = c0.2.2.A := by rw [h1]; rfl
  split at h
  · rw [h.1, ← q1]; rfl
  · obtain ⟨c2, h2, c3, h3, c4, h4, c5, h5, c6, h6, h7⟩ := h
    have q6 : c6.2.2.A = c0.2.2.A := by
      rw [h6]; show c5.2.2.A = _; rw [h5.keepA.2.1, h4]; show c3.2.2.A = _; rw [h3]; show c2.2.2.A = _; rw [h2]; exact q1
    rw [TailT_A h7 hc, q6]
theorem may_cd (hm : h.may [] w e = true) : h.cd = false := by
  have mS : mayS w e = true := by unfold Hd.may at hm; simp only [Bool.and_eq_true] at hm; exact hm.1.1.1
  have mF : h.mayF [] = true := by
    cases hx : h.ex with
    | true =>
      unfold Hd.may at hm
      simp only [hx, if_true, Bool.and_eq_true] at hm
      exact (of_decide_eq_true hm.1.1.2.2).2.2.2.2.2.2.2.2.2
    | false => exact ((may_iff hx mS).1 hm).2.2.2.2.2.2
  unfold Hd.mayF at mF
  cases hc : h.cd with
  | false => rfl
  | true =>
    split at mF
    · have := of_decide_eq_true mF
      rw [hc] at this
      exact absurd this.2.2.1 (by decide)
    · simp only [Bool.and_eq_true, decide_eq_true_eq] at mF
      have hc' := mF.1.2.1
      first | rw [if_pos hc] at hc' | skip
      have : 0 < 2 ^ h.cb.toNat := Nat.pow_pos (by decide)
      have h0 := hc'.2.2
      simp only [List.length_nil] at h0
      omega
end
section
variable {M : Mem} {w e : Int} {Ah : Option Addr} {nh ch : Nat} {b : List Nat}
set_option maxHeartbeats 2000000 in
theorem c7 (hf : M.floor ≤ M.nb.size) (hR : Row M Ah (U8 b)) (hn : nh = b.length) (hc : nh ≤ ch) (hz : Ah = none → ch = 0) (hB : Byt b) (hb : nh ≤ 1048576) :
    Cn Try.prog 7 #[.slice Ah nh ch, .agg #[.int .i64 w, .int .i64 e]] M fun v _ => v = .bool true := by
  have s := Mem.new_at M (.cells #[.int .i64 w, .int .i64 e] 23)
  have K1 : Keep M (M.new (.cells #[.int .i64 w, .int .i64 e] 23)) := .new _ _
  have s1 := Mem.new_size M (.cells #[.int .i64 w, .int .i64 e] 23)
  refine w7_0 (Cn.known (by rfl) (ty rfl (cF rfl ?_)))
  generalize M.new (.cells #[.int .i64 w, .int .i64 e] 23) = M1 at s K1 s1 ⊢
  refine on (int_of (i := 0) s rfl) (on (int_of (i := 0 + 1) s rfl) (Cn.mono c14 ?_))
  rintro _ M2 ⟨rfl, K2⟩
  have T2 := K1.trans K2
  have a2 := at_keep s K2
  refine ty rfl (cne (fun hm => rfl) fun hm => ?_)
  have hm' : mayS w e = true := by
    unfold chkS at hm
    cases h : mayS w e
    · rw [h] at hm; cases hm
    · rfl
  refine Cn.mono (c31 (fb hf T2) (hR.keep T2) hn.symm (by omega) hB) ?_
  rintro _ M3 ⟨jd, rfl, K3, d1, d2, D⟩
  have T3 := T2.trans K3
  have a3 := at_keep a2 K3
  have zT2 := T2.size
  have z3 := K3.size
  refine ty rfl (on (int_of (i := 0) a3 rfl) (on (int_of (i := 0 + 1) a3 rfl) (Cn.mono (c35 D (by rw [T3.floor]; omega) (fb hf T3) (fun i hi => by rw [T3.floor]; have := hi.1; omega) (fun i hi => by have := hi.2; omega)) ?_)))
  rw [if_pos hm']
  rintro v N ⟨U', c, X, hT, sub, C, dv, ub, res⟩
  have KN : Keep M2 N := Keep.step K3 C fun i hi => by
    rcases hi with h | h | h
    · exact h.1
    · omega
    · omega
  have TN := T2.trans KN
  have aN := at_keep a2 KN
  have zN := C.size
  rcases res with ⟨h0, rfl⟩ | ⟨h0, rfl, hX, hRX, hAX⟩
  · refine ty rfl (ty rfl (ac0 rfl (ty rfl (ty rfl (ac0 rfl (stN (cs := zP.cs) (fb hf TN) rfl rfl rfl fun M5 K5 z5 b5 => cT ?_ (ldA b5 rfl (Cn.mono (c39 (h := zP) (X := []) (A' := none) (c' := 0) rfl (by decide) (fun i hi => by simp at hi) (fun i hi => by simp at hi)) ?_))))))))
    · have : ((c.2.1 : Nat) : Int) ≠ 0 := by omega
      simpa using this
    · rintro _ M6 ⟨rfl, K6⟩
      refine ty rfl (cT rfl ?_)
      rcases (HeadT_er hT).2 with h | h | h | h
      · exact absurd h h0
      · rw [h]; exact cT rfl rfl
      · rw [h]; exact cF rfl (cT rfl rfl)
      · rw [h]; exact cF rfl (cF rfl rfl)
  · obtain ⟨q, hq, hmy, hBt⟩ := head_b hm' (Nat.zero_le _) hT h0
    rw [hq] at dv
    have D' : Rdr U' N jd b q := dv
    have le := hBt.le
    have lq := hBt.len
    have Xb : c.2.2.n ≤ 1048576 := by rw [hX]; have := may_len hmy; omega
    refine ty rfl (ty rfl (ac0 rfl (ty rfl (ty rfl (ac0 rfl (stN (cs := c.2.2.cs) (fb hf TN) rfl rfl rfl fun M5 K5 z5 b5 => cF rfl (Cn.eq (c37 (D'.keep K5)) (ty rfl (Cn.mono c19 ?_)))))))))
    rintro _ M6 ⟨rfl, K6, z6, W6⟩
    have T5 := TN.trans K5
    have T6 := T5.trans K6
    have f6 := fb hf T6
    have a6 := at_keep (at_keep aN K5) K6
    have b6 := at_keep b5 K6
    have z5' := T5.size
    have W : Ws (fun _ => False) M6 M5.nb.size [] := ⟨W6.shrink (fun i _ h => h.elim) fun hu => hu.elim id fun q => by omega, fun i hi => hi.elim False.elim fun q => by rw [T6.floor]; omega, f6, fun i hi => hi.elim⟩
    have R6 := (hRX.keep K5).keep K6
    refine ty rfl (ldA b6 rfl (on (int_of (i := 0) a6 rfl) (on (int_of (i := 0 + 1) a6 rfl) (Cn.mono (c26 (h := c.2.2) (X := X) f6 hX Xb R6) ?_))))
    rintro _ M7 ⟨rfl, K7⟩
    rw [hmy]
    have T7 := T6.trans K7
    have a7 := at_keep a6 K7
    have b7 := at_keep b6 K7
    have z7 := K7.size
    have far : FarW (fun _ => False) M5.nb.size M7 c.2.2.A := by
      intro a ha
      rcases hAX a ha with h | h
      · exact .inl h
      · cases X with
        | nil =>
          have := HeadT_A hT (may_cd hmy)
          rw [this] at ha
          cases ha
        | cons x X =>
          by_cases hp : a.block % 2 = 1
          · exact .inl hp
          · have hcell := hRX 0 (by rw [Sgs_len]; simp)
            obtain ⟨a', ha', hcell⟩ := hcell
            rw [ha] at ha'
            obtain rfl := Option.some.inj ha'
            have hlt : a.block / 2 < N.nb.size := by
              rw [show a.block = 2 * (a.block / 2) by omega] at hcell
              rw [cell_new] at hcell
              refine Nat.lt_of_not_le fun hle => ?_
              rw [Array.getElem?_eq_none hle] at hcell
              cases hcell
            exact .inr ⟨by omega, id, by omega⟩
    refine ty rfl (cF rfl (ldA b7 rfl (on (int_of (i := 0) a7 rfl) (on (int_of (i := 0 + 1) a7 rfl) (Cn.mono (c24 (W.keep K7) (by simp) hX Xb (R6.keep K7) far) ?_)))))
    rintro _ M8 ⟨rfl, U8', E8, W8⟩
    rw [hmy]
    have ew : ([] : List Nat) ++ wB c.2.2 X w e = hBits c.2.2 X := by unfold wB; rw [hmy]; rfl
    rw [ew] at W8
    have ln7 := lt_of_at a7
    have a8 := E8.at a7 id (by omega)
    have hR8 : Row M8 Ah (U8 b) := hR.keep (Keep.step T7 E8.chg fun i hi => by rcases hi with h | h; exact h.elim; omega)
    have T8 : Keep M M8 := Keep.step T7 E8.chg fun i hi => by rcases hi with h | h; exact h.elim; omega
    refine ty rfl (w7_1 (cF rfl (Cn.mono (c28 W8.dev W8.fs) ?_)))
    rintro _ M9 ⟨A9, c9', rfl, K9, O9, _⟩
    have hbin := W8.dev.bin
    have pl := pack_len (hBits c.2.2 X)
    have hByt : Byt (pack (hBits c.2.2 X)) := fun x hx => by
      unfold pack at hx
      obtain ⟨q, _, rfl⟩ := List.mem_map.1 hx
      exact gbyte_lt hbin q
    have T9 := T8.trans K9
    have pb : (pack (hBits c.2.2 X)).length ≤ 4294967296 := by rw [pl]; omega
    refine ty rfl (Cn.mono (c31 (fb hf T9) O9.row rfl pb hByt) ?_)
    rintro _ M10 ⟨j1, rfl, K10, e1, e2, D1⟩
    have T10 := T9.trans K10
    refine ty rfl (Cn.mono (c31 (fb hf T10) (hR.keep T10) hn.symm (by omega) hB) ?_)
    rintro _ M11 ⟨j2, rfl, K11, g1, g2, D2⟩
    have T11 := T10.trans K11
    have z8 := T8.size
    have z9 := K9.size
    have z10 := K10.size
    have z11 := K11.size
    have z8' := E8.chg.size
    have a11 := at_keep (at_keep (at_keep a8.1 K9) K10) K11
    have hx8 : IntKind.i64.wrap (IntKind.i64.wrap (8 * (nh : Int)) - ((8 * b.length - q : Nat) : Int)) = (q : Int) := by
      rw [i64w (x := 8 * (nh : Int)) (by omega), i64w (by omega)]
      omega
    rw [hx8]
    have q1 : 1 ≤ q := by
      have : (hBits c.2.2 X).length ≥ 1 := by unfold hBits; simp
      omega
    refine ty rfl (e7_2 (M0 := M11) (U1 := fun i => M9.nb.size ≤ i ∧ i < j1) (U2 := fun i => M10.nb.size ≤ i ∧ i < j2) (b1 := pack (hBits c.2.2 X)) (b2 := b) (by omega) le (by omega) hn.symm hb ?_ (by omega) (by omega) (by omega) (by rw [T11.floor]; omega) (by rw [T11.floor]; omega) ?_ q 0 (by omega) (.refl _) (D1.keep K11) D2)
    · intro i hi
      rw [bit_pack hbin (by omega)]
      have hs := hBt.seg
      have hl : i < (hBits c.2.2 X).length := by omega
      have : (hBits c.2.2 X)[i]? = some (bitOf b i) := by
        rw [← hs]
        simp only [Go.Zt.seg, List.getElem?_map, Nat.zero_add]
        simp [hl]
      simp [bitL, this]
    · intro N' CN
      have TN' : Keep M N' := Keep.step T11 CN fun i hi => by rcases hi with h | h <;> omega
      refine e7_4 (fb hf TN') hm' (hR.keep TN') hn hc hz hB hb (at_chg a11 CN (by omega)) ⟨q1, by omega⟩ (fun b' P hl c' X' hT' => HeadT_pre hm' hT h0 hq P hl hT') fun c' X' hT' => ?_
      have hA : At (b ++ [255]) q 0 (hBits c.2.2 X ++ []) := by
        rw [List.append_nil]
        refine ⟨?_, lq, by rw [List.length_append]; omega⟩
        refine Eq.trans ?_ hBt.seg
        refine List.ext_getElem (by simp [Go.Zt.seg]) fun i h1 h2 => ?_
        have h3 : i < (hBits c.2.2 X).length := by simpa [Go.Zt.seg] using h2
        simp only [Go.Zt.seg, List.getElem_map, List.getElem_range, Nat.zero_add]
        unfold bitOf
        rw [List.getD_eq_getElem?_getD, List.getD_eq_getElem?_getD, List.getElem?_append_left (by omega)]
      obtain ⟨_, _, h, _⟩ := head_a hA hmy hT'
      exact h
end
theorem law7 {W : World} {cs : List Value} {u : Value} (s0 : Sees Try.prog (mem0 W) 1048576 8 24 [u]) (s1 : Sees Try.prog (mem0 W) 1048576 8 23 cs) : Cn Try.prog 7 #[u, .agg cs.toArray] (mem0 W) fun v _ => v = .bool true := by
  obtain ⟨A, n, c, b, e, h1, h2, h3, h4, h5, h6, h7⟩ := sees_bytes s0
  simp at e
  subst e
  obtain ⟨w, e, rfl, _, _⟩ := sees_seq s1
  exact c7 (Nat.le_refl _) h5 h1 h2 h7 h6 h3
end Go.Zt

