/- The functions' walks: for each function and each loop a rule of what it comes to. Printed by zw2.py. -/
import Derived.Test.YtamlmpeiamkllaaProg
import Derived.Test.YtamlmpeiamkllaaZpA
import Derived.Test.YtamlmpeiamkllaaZrT
set_option linter.unusedVariables false
set_option maxRecDepth 100000
namespace Go.Zt
open Go Go.Sim Go.Proofs

def tyZpE0 : List Sc := [.int .i64, .int .i64, .int .i64, .int .i64, .bool, .bool, .int .i64, .int .i64, .int .i64, .int .i64, .int .i64, .int .i64, .int .i64, .bool, .int .i64, .int .i64, .int .i64, .int .i64, .int .i64, .int .i64, .int .i64, .int .i64, .bool]
/-! ### (*zoetrope/grid.Grid).Vecs: function 10 -/
def K10 : List (List It × List Nat) := [([.rg [1,1,0,0,1,1,0] 11, .code [1,1,0,0,1,1,1], .blk 0, .code [1,1,1]], [0, 2, 4, 6, 9, 32]), ([.rg [1,1,0,0,1,1,0] 20, .code [1,1,0,0,1,1,1], .blk 0, .code [1,1,1]], [0, 2, 4, 6, 9, 41]), ([.rg [1,1,0,0,1,1,0] 25, .code [1,1,0,0,1,1,1], .blk 0, .code [1,1,1]], [0, 2, 4, 6, 9, 46]), ([.rg [1,1,0,0,1,1,0] 30, .code [1,1,0,0,1,1,1], .blk 0, .code [1,1,1]], [0, 2, 4, 6, 9, 51]), ([.rg [1,1,0,0,1,1,0] 36, .code [1,1,0,0,1,1,1], .blk 0, .code [1,1,1]], [0, 2, 4, 6, 9, 57]), ([.rg [1,1,0,0,1,1,0] 40, .code [1,1,0,0,1,1,1], .blk 0, .code [1,1,1]], [0, 2, 4, 6, 9, 61]), ([.code [1,1,0,0,1,1,1], .blk 0, .code [1,1,1]], [0, 2, 4, 6, 9, 21]), ([.code [1,1,1,1,0,1,0,0], .lp [1,1,1,1,0,1,0,0], .blk 1, .code [1,1,1,1,1]], [0, 2, 6, 9, 10, 94, 95]), ([.code [1,1,1,1,0,1,0,0,1,1,0,0,1,1,1,1], .blk 2, .code [1,1,1,1,0,1,0,0,1,1,1], .lp [1,1,1,1,0,1,0,0], .blk 1, .code [1,1,1,1,1]], [0, 2, 6, 9, 10, 15, 94, 95, 124]), ([.code [1,1,1,1,0,1,0,0,1,1,1], .lp [1,1,1,1,0,1,0,0], .blk 1, .code [1,1,1,1,1]], [0, 2, 6, 9, 10, 94, 95])]
def Z10 : List (List Nat × List Nat) := [([1,1,0,0,1,1,0], [11, 20, 25, 30, 36, 40, 44])]
theorem b10 : Try.prog.funcs[10]? = some Try.f10 ∧ (Orc.tab Try.prog).lookup 10 = none ∧ Try.f10.body = some (codeOf Try.f10) := ⟨by kernel_rfl, by kernel_rfl, by kernel_rfl⟩
def A10_1 (x0 : Option Addr) (x2 : Int) (x4 x6 x9 : Option Addr) (x32 : Bool) (M : Mem) (Q : Value → Mem → Prop) : Prop := LvP Try.prog Try.f10 [(0, .pointer x0), (2, .int .i64 x2), (4, .pointer x4), (6, .pointer x6), (9, .pointer x9), (32, .bool x32)] [.rg [1,1,0,0,1,1,0] 11, .code [1,1,0,0,1,1,1], .blk 0, .code [1,1,1]] M Q
def A10_2 (x0 : Option Addr) (x2 : Int) (x4 x6 x9 : Option Addr) (x41 : Bool) (M : Mem) (Q : Value → Mem → Prop) : Prop := LvP Try.prog Try.f10 [(0, .pointer x0), (2, .int .i64 x2), (4, .pointer x4), (6, .pointer x6), (9, .pointer x9), (41, .bool x41)] [.rg [1,1,0,0,1,1,0] 20, .code [1,1,0,0,1,1,1], .blk 0, .code [1,1,1]] M Q
def A10_3 (x0 : Option Addr) (x2 : Int) (x4 x6 x9 : Option Addr) (x46 : Bool) (M : Mem) (Q : Value → Mem → Prop) : Prop := LvP Try.prog Try.f10 [(0, .pointer x0), (2, .int .i64 x2), (4, .pointer x4), (6, .pointer x6), (9, .pointer x9), (46, .bool x46)] [.rg [1,1,0,0,1,1,0] 25, .code [1,1,0,0,1,1,1], .blk 0, .code [1,1,1]] M Q
def A10_4 (x0 : Option Addr) (x2 : Int) (x4 x6 x9 : Option Addr) (x51 : Bool) (M : Mem) (Q : Value → Mem → Prop) : Prop := LvP Try.prog Try.f10 [(0, .pointer x0), (2, .int .i64 x2), (4, .pointer x4), (6, .pointer x6), (9, .pointer x9), (51, .bool x51)] [.rg [1,1,0,0,1,1,0] 30, .code [1,1,0,0,1,1,1], .blk 0, .code [1,1,1]] M Q
def A10_5 (x0 : Option Addr) (x2 : Int) (x4 x6 x9 : Option Addr) (x57 : Bool) (M : Mem) (Q : Value → Mem → Prop) : Prop := LvP Try.prog Try.f10 [(0, .pointer x0), (2, .int .i64 x2), (4, .pointer x4), (6, .pointer x6), (9, .pointer x9), (57, .bool x57)] [.rg [1,1,0,0,1,1,0] 36, .code [1,1,0,0,1,1,1], .blk 0, .code [1,1,1]] M Q
def A10_6 (x0 : Option Addr) (x2 : Int) (x4 x6 x9 : Option Addr) (x61 : Bool) (M : Mem) (Q : Value → Mem → Prop) : Prop := LvP Try.prog Try.f10 [(0, .pointer x0), (2, .int .i64 x2), (4, .pointer x4), (6, .pointer x6), (9, .pointer x9), (61, .bool x61)] [.rg [1,1,0,0,1,1,0] 40, .code [1,1,0,0,1,1,1], .blk 0, .code [1,1,1]] M Q
def A10_7 (x0 : Option Addr) (x2 : Int) (x4 x6 x9 : Option Addr) (x21 : Bool) (M : Mem) (Q : Value → Mem → Prop) : Prop := LvP Try.prog Try.f10 [(0, .pointer x0), (2, .int .i64 x2), (4, .pointer x4), (6, .pointer x6), (9, .pointer x9), (21, .bool x21)] [.code [1,1,0,0,1,1,1], .blk 0, .code [1,1,1]] M Q
def A10_8 (x0 : Option Addr) (x2 : Int) (x6 x9 : Option Addr) (x10 x94_0 x94_1 x94_2 x94_3 x94_4 x94_5 x94_6 x94_7 x95 : Int) (M : Mem) (Q : Value → Mem → Prop) : Prop := LvP Try.prog Try.f10 [(0, .pointer x0), (2, .int .i64 x2), (6, .pointer x6), (9, .pointer x9), (10, .int .i64 x10), (94, .agg #[.int .i64 x94_0, .int .i64 x94_1, .int .i64 x94_2, .int .i64 x94_3, .int .i64 x94_4, .int .i64 x94_5, .int .i64 x94_6, .int .i64 x94_7]), (95, .int .i64 x95)] [.code [1,1,1,1,0,1,0,0], .lp [1,1,1,1,0,1,0,0], .blk 1, .code [1,1,1,1,1]] M Q
def A10_9 (x0 : Option Addr) (x2 : Int) (x6 x9 : Option Addr) (x10 : Int) (x15 : Option Addr) (x94_0 x94_1 x94_2 x94_3 x94_4 x94_5 x94_6 x94_7 x95 : Int) (x124 : Bool) (M : Mem) (Q : Value → Mem → Prop) : Prop := LvP Try.prog Try.f10 [(0, .pointer x0), (2, .int .i64 x2), (6, .pointer x6), (9, .pointer x9), (10, .int .i64 x10), (15, .pointer x15), (94, .agg #[.int .i64 x94_0, .int .i64 x94_1, .int .i64 x94_2, .int .i64 x94_3, .int .i64 x94_4, .int .i64 x94_5, .int .i64 x94_6, .int .i64 x94_7]), (95, .int .i64 x95), (124, .bool x124)] [.code [1,1,1,1,0,1,0,0,1,1,0,0,1,1,1,1], .blk 2, .code [1,1,1,1,0,1,0,0,1,1,1], .lp [1,1,1,1,0,1,0,0], .blk 1, .code [1,1,1,1,1]] M Q
def A10_10 (x0 : Option Addr) (x2 : Int) (x6 x9 : Option Addr) (x10 x94_0 x94_1 x94_2 x94_3 x94_4 x94_5 x94_6 x94_7 x95 : Int) (M : Mem) (Q : Value → Mem → Prop) : Prop := LvP Try.prog Try.f10 [(0, .pointer x0), (2, .int .i64 x2), (6, .pointer x6), (9, .pointer x9), (10, .int .i64 x10), (94, .agg #[.int .i64 x94_0, .int .i64 x94_1, .int .i64 x94_2, .int .i64 x94_3, .int .i64 x94_4, .int .i64 x94_5, .int .i64 x94_6, .int .i64 x94_7]), (95, .int .i64 x95)] [.code [1,1,1,1,0,1,0,0,1,1,1], .lp [1,1,1,1,0,1,0,0], .blk 1, .code [1,1,1,1,1]] M Q
theorem w10_0 {x0 : Option Addr} {x1_0 x1_1 x1_2 x1_3 x2 : Int} {M : Mem} {Q : Value → Mem → Prop} (H :
    Cn Try.prog 24 #[.pointer x0] (((M.new (.cells #[.int .i64 x1_0, .int .i64 x1_1, .int .i64 x1_2, .int .i64 x1_3] 35)).new (.cells #[.int .i64 0, .int .i64 0, .int .i64 0, .int .i64 0] 25)).new (.cells #[.int .i64 0, .int .i64 0, .int .i64 0, .int .i64 0] 25)) fun v1' N1' =>
     tyS (asB v1') fun b2' =>
     cnd b2' (
      onS (N1'.intAt .i64 (2 * ((M.new (.cells #[.int .i64 x1_0, .int .i64 x1_1, .int .i64 x1_2, .int .i64 x1_3] 35)).new (.cells #[.int .i64 0, .int .i64 0, .int .i64 0, .int .i64 0] 25)).nb.size) 0) fun x3' =>
      onS (N1'.intAt .i64 (2 * ((M.new (.cells #[.int .i64 x1_0, .int .i64 x1_1, .int .i64 x1_2, .int .i64 x1_3] 35)).new (.cells #[.int .i64 0, .int .i64 0, .int .i64 0, .int .i64 0] 25)).nb.size) (0 + 1)) fun x4' =>
      onS (N1'.intAt .i64 (2 * ((M.new (.cells #[.int .i64 x1_0, .int .i64 x1_1, .int .i64 x1_2, .int .i64 x1_3] 35)).new (.cells #[.int .i64 0, .int .i64 0, .int .i64 0, .int .i64 0] 25)).nb.size) (0 + 2)) fun x5' =>
      onS (N1'.intAt .i64 (2 * ((M.new (.cells #[.int .i64 x1_0, .int .i64 x1_1, .int .i64 x1_2, .int .i64 x1_3] 35)).new (.cells #[.int .i64 0, .int .i64 0, .int .i64 0, .int .i64 0] 25)).nb.size) (0 + 3)) fun x6' =>
      stP (some 4) #[.int .i64 x3', .int .i64 x4', .int .i64 x5', .int .i64 x6'] N1' (2 * (M.new (.cells #[.int .i64 x1_0, .int .i64 x1_1, .int .i64 x1_2, .int .i64 x1_3] 35)).nb.size) 0 fun M7' =>
      onS (M7'.intAt .i64 (2 * (M.new (.cells #[.int .i64 x1_0, .int .i64 x1_1, .int .i64 x1_2, .int .i64 x1_3] 35)).nb.size) 0) fun x8' =>
      onS (M7'.intAt .i64 (2 * (M.new (.cells #[.int .i64 x1_0, .int .i64 x1_1, .int .i64 x1_2, .int .i64 x1_3] 35)).nb.size) (0 + 1)) fun x9' =>
      onS (M7'.intAt .i64 (2 * (M.new (.cells #[.int .i64 x1_0, .int .i64 x1_1, .int .i64 x1_2, .int .i64 x1_3] 35)).nb.size) (0 + 2)) fun x10' =>
      onS (M7'.intAt .i64 (2 * (M.new (.cells #[.int .i64 x1_0, .int .i64 x1_1, .int .i64 x1_2, .int .i64 x1_3] 35)).nb.size) (0 + 3)) fun x11' =>
      Q (.tuple #[.agg #[.int .i64 (x8'), .int .i64 (x9'), .int .i64 (x10'), .int .i64 (x11')], .int .i64 0, .int .i64 1]) M7') (
      onS (N1'.intAt .i64 (2 * M.nb.size) 0) fun x12' =>
      cnd ((x12'.tmod 8) != 0) (
       A10_1 x0 x2 (some ⟨2 * M.nb.size, 0, none⟩) (some ⟨2 * (M.new (.cells #[.int .i64 x1_0, .int .i64 x1_1, .int .i64 x1_2, .int .i64 x1_3] 35)).nb.size, 0, none⟩) (some ⟨2 * ((M.new (.cells #[.int .i64 x1_0, .int .i64 x1_1, .int .i64 x1_2, .int .i64 x1_3] 35)).new (.cells #[.int .i64 0, .int .i64 0, .int .i64 0, .int .i64 0] 25)).nb.size, 0, none⟩) true N1' Q) (
       onS (N1'.intAt .i64 (2 * M.nb.size) (0 + 1)) fun x13' =>
       A10_1 x0 x2 (some ⟨2 * M.nb.size, 0, none⟩) (some ⟨2 * (M.new (.cells #[.int .i64 x1_0, .int .i64 x1_1, .int .i64 x1_2, .int .i64 x1_3] 35)).nb.size, 0, none⟩) (some ⟨2 * ((M.new (.cells #[.int .i64 x1_0, .int .i64 x1_1, .int .i64 x1_2, .int .i64 x1_3] 35)).new (.cells #[.int .i64 0, .int .i64 0, .int .i64 0, .int .i64 0] 25)).nb.size, 0, none⟩) ((x13'.tmod 8) != 0) N1' Q))) :
    Cn Try.prog 10 #[.pointer x0, .agg #[.int .i64 x1_0, .int .i64 x1_1, .int .i64 x1_2, .int .i64 x1_3], .int .i64 x2] M Q :=
  Cn.mk (cuts := K10) (sp := Z10) 900 b10 rfl rfl H fun G => by kernel_rfl

theorem w10_1 {x0 : Option Addr} {x2 : Int} {x4 x6 x9 : Option Addr} {x32 : Bool} {M : Mem} {Q : Value → Mem → Prop} (H :
    cnd x32 (
     A10_2 x0 x2 x4 x6 x9 true M Q) (
     adS x4 fun a14' =>
     onS (M.intAt .i64 a14'.block a14'.off) fun x15' =>
     adS x4 fun a16' =>
     onS (M.intAt .i64 a16'.block (a16'.off + 1)) fun x17' =>
     Cn Try.prog 26 #[.pointer x0, .int .i64 x15', .int .i64 x17'] M fun v18' N18' =>
      tyS (asB v18') fun b19' =>
      A10_2 x0 x2 x4 x6 x9 (!b19') N18' Q)) :
    A10_1 x0 x2 x4 x6 x9 x32 M Q :=
  LvP.mk (cuts := K10) (sp := Z10) 900 H fun G => by kernel_rfl

theorem w10_2 {x0 : Option Addr} {x2 : Int} {x4 x6 x9 : Option Addr} {x41 : Bool} {M : Mem} {Q : Value → Mem → Prop} (H :
    cnd x41 (
     A10_3 x0 x2 x4 x6 x9 true M Q) (
     adS x4 fun a20' =>
     onS (M.intAt .i64 a20'.block (a20'.off + 2)) fun x21' =>
     A10_3 x0 x2 x4 x6 x9 (decide (x21' < 8)) M Q)) :
    A10_2 x0 x2 x4 x6 x9 x41 M Q :=
  LvP.mk (cuts := K10) (sp := Z10) 900 H fun G => by kernel_rfl

theorem w10_3 {x0 : Option Addr} {x2 : Int} {x4 x6 x9 : Option Addr} {x46 : Bool} {M : Mem} {Q : Value → Mem → Prop} (H :
    cnd x46 (
     A10_4 x0 x2 x4 x6 x9 true M Q) (
     adS x4 fun a22' =>
     onS (M.intAt .i64 a22'.block (a22'.off + 2)) fun x23' =>
     A10_4 x0 x2 x4 x6 x9 (decide (x23' > 64)) M Q)) :
    A10_3 x0 x2 x4 x6 x9 x46 M Q :=
  LvP.mk (cuts := K10) (sp := Z10) 900 H fun G => by kernel_rfl

theorem w10_4 {x0 : Option Addr} {x2 : Int} {x4 x6 x9 : Option Addr} {x51 : Bool} {M : Mem} {Q : Value → Mem → Prop} (H :
    cnd x51 (
     A10_5 x0 x2 x4 x6 x9 true M Q) (
     adS x4 fun a24' =>
     onS (M.intAt .i64 a24'.block (a24'.off + 2)) fun x25' =>
     A10_5 x0 x2 x4 x6 x9 ((x25'.tmod 8) != 0) M Q)) :
    A10_4 x0 x2 x4 x6 x9 x51 M Q :=
  LvP.mk (cuts := K10) (sp := Z10) 900 H fun G => by kernel_rfl

theorem w10_5 {x0 : Option Addr} {x2 : Int} {x4 x6 x9 : Option Addr} {x57 : Bool} {M : Mem} {Q : Value → Mem → Prop} (H :
    cnd x57 (
     A10_6 x0 x2 x4 x6 x9 true M Q) (
     A10_6 x0 x2 x4 x6 x9 (decide (x2 < 0)) M Q)) :
    A10_5 x0 x2 x4 x6 x9 x57 M Q :=
  LvP.mk (cuts := K10) (sp := Z10) 900 H fun G => by kernel_rfl

theorem w10_6 {x0 : Option Addr} {x2 : Int} {x4 x6 x9 : Option Addr} {x61 : Bool} {M : Mem} {Q : Value → Mem → Prop} (H :
    cnd x61 (
     A10_7 x0 x2 x4 x6 x9 true M Q) (
     A10_7 x0 x2 x4 x6 x9 (decide (x2 > 2)) M Q)) :
    A10_6 x0 x2 x4 x6 x9 x61 M Q :=
  LvP.mk (cuts := K10) (sp := Z10) 900 H fun G => by kernel_rfl

theorem w10_7 {x0 : Option Addr} {x2 : Int} {x4 x6 x9 : Option Addr} {x21 : Bool} {M : Mem} {Q : Value → Mem → Prop} (H :
    cnd x21 (
     adS x9 fun a26' =>
     onS (M.intAt .i64 a26'.block a26'.off) fun x27' =>
     onS (M.intAt .i64 a26'.block (a26'.off + 1)) fun x28' =>
     onS (M.intAt .i64 a26'.block (a26'.off + 2)) fun x29' =>
     onS (M.intAt .i64 a26'.block (a26'.off + 3)) fun x30' =>
     adS x6 fun a31' =>
     stP (some 4) #[.int .i64 x27', .int .i64 x28', .int .i64 x29', .int .i64 x30'] M a31'.block a31'.off fun M32' =>
     adS x6 fun a33' =>
     onS (M32'.intAt .i64 a33'.block a33'.off) fun x34' =>
     onS (M32'.intAt .i64 a33'.block (a33'.off + 1)) fun x35' =>
     onS (M32'.intAt .i64 a33'.block (a33'.off + 2)) fun x36' =>
     onS (M32'.intAt .i64 a33'.block (a33'.off + 3)) fun x37' =>
     Q (.tuple #[.agg #[.int .i64 (x34'), .int .i64 (x35'), .int .i64 (x36'), .int .i64 (x37')], .int .i64 0, .int .i64 2]) M32') (
     adS x4 fun a38' =>
     onS (M.intAt .i64 a38'.block a38'.off) fun x39' =>
     adS x4 fun a40' =>
     onS (M.intAt .i64 a40'.block (a40'.off + 1)) fun x41' =>
     adS x4 fun a42' =>
     onS (M.intAt .i64 a42'.block a42'.off) fun x43' =>
     adS x4 fun a44' =>
     onS (M.intAt .i64 a44'.block (a44'.off + 1)) fun x45' =>
     adS x4 fun a46' =>
     onS (M.intAt .i64 a46'.block a46'.off) fun x47' =>
     adS x4 fun a48' =>
     onS (M.intAt .i64 a48'.block (a48'.off + 2)) fun x49' =>
     adS x4 fun a50' =>
     onS (M.intAt .i64 a50'.block (a50'.off + 1)) fun x51' =>
     adS x4 fun a52' =>
     onS (M.intAt .i64 a52'.block a52'.off) fun x53' =>
     adS x4 fun a54' =>
     onS (M.intAt .i64 a54'.block (a54'.off + 1)) fun x55' =>
     A10_8 x0 x2 x6 x9 0 (IntKind.i64.wrap (x39' - 1)) x41' x43' (IntKind.i64.wrap (x45' - 1)) (IntKind.i64.wrap (x47' + x49')) (IntKind.i64.wrap (x51' - 1)) (IntKind.i64.wrap (x53' - 1)) (IntKind.i64.wrap (x55' - 1)) 0 M Q)) :
    A10_7 x0 x2 x4 x6 x9 x21 M Q :=
  LvP.mk (cuts := K10) (sp := Z10) 900 H fun G => by kernel_rfl

theorem w10_8 {x0 : Option Addr} {x2 : Int} {x6 x9 : Option Addr} {x10 x94_0 x94_1 x94_2 x94_3 x94_4 x94_5 x94_6 x94_7 x95 : Int} {M : Mem} {Q : Value → Mem → Prop} (H :
    cnd (decide (x95 < 4)) (
     puS (strV Try.prog 74 (.agg #[.int .i64 x94_0, .int .i64 x94_1, .int .i64 x94_2, .int .i64 x94_3, .int .i64 x94_4, .int .i64 x94_5, .int .i64 x94_6, .int .i64 x94_7]) (.int .i64 x95)) fun v56' =>
     tyS (asA 2 v56') fun cs57' =>
     tyS (asI .i64 (cs57'.getD 0 undef)) fun x58' =>
     tyS (asI .i64 (cs57'.getD 1 undef)) fun x59' =>
     stP (some 2) #[.int .i64 x58', .int .i64 x59'] (M.new (.cells #[.int .i64 0, .int .i64 0] 22)) (2 * M.nb.size) 0 fun M60' =>
     ixS (idxA (some ⟨2 * M.nb.size, 0, none⟩) 2 1 0) fun a61' =>
     onS (M60'.intAt .i64 a61'.block a61'.off) fun x62' =>
     ixS (idxA (some ⟨2 * M.nb.size, 0, none⟩) 2 1 1) fun a63' =>
     onS (M60'.intAt .i64 a63'.block a63'.off) fun x64' =>
     Cn Try.prog 14 #[.pointer x0, .int .i64 x62', .int .i64 x64'] M60' fun v65' N65' =>
      tyS (asU 2 v65') fun cs66' =>
      tyS (asA 23 (cs66'.getD 0 undef)) fun cs67' =>
      asCellsP tyZpE0 0 cs67' fun vs68' =>
      tyS (asB (cs66'.getD 1 undef)) fun b69' =>
      tyS (asA 23 (.agg vs68'.toArray)) fun cs70' =>
      asCellsP tyZpE0 0 cs70' fun vs71' =>
      stP (some 23) vs71'.toArray (N65'.new (.cells #[.int .i64 0, .int .i64 0, .int .i64 0, .int .i64 0, .bool false, .bool false, .int .i64 0, .int .i64 0, .int .i64 0, .int .i64 0, .int .i64 0, .int .i64 0, .int .i64 0, .bool false, .int .i64 0, .int .i64 0, .int .i64 0, .int .i64 0, .int .i64 0, .int .i64 0, .int .i64 0, .int .i64 0, .bool false] 27)) (2 * N65'.nb.size) 0 fun M72' =>
      ldP tyZpE0 M72' (2 * N65'.nb.size) 0 fun vs73' =>
      Cn Try.prog 28 #[.agg vs73'.toArray, .int .i64 x2] M72' fun v74' N74' =>
       tyS (asU 2 v74') fun cs75' =>
       tyS (asA 2 (cs75'.getD 0 undef)) fun cs76' =>
       tyS (asI .i64 (cs76'.getD 0 undef)) fun x77' =>
       tyS (asI .i64 (cs76'.getD 1 undef)) fun x78' =>
       tyS (asB (cs75'.getD 1 undef)) fun b79' =>
       stP (some 2) #[.int .i64 x77', .int .i64 x78'] (N74'.new (.cells #[.int .i64 0, .int .i64 0] 24)) (2 * N74'.nb.size) 0 fun M80' =>
       cnd b79' (
        cnd (decide (x10 < 2)) (
         puS (sliceP Try.prog 25 (.pointer x9) none (some (.int .i64 x10)) none) fun v81' =>
         tyS (asS v81') fun s82' =>
         onS (M80'.intAt .i64 (2 * N74'.nb.size) 0) fun x83' =>
         onS (M80'.intAt .i64 (2 * N74'.nb.size) (0 + 1)) fun x84' =>
         Cn Try.prog 29 #[.slice s82'.1 (s82'.2.1) (s82'.2.2), .agg #[.int .i64 x83', .int .i64 x84']] M80' fun v85' N85' =>
          tyS (asB v85') fun b86' =>
          A10_9 x0 x2 x6 x9 x10 (some ⟨2 * N74'.nb.size, 0, none⟩) x94_0 x94_1 x94_2 x94_3 x94_4 x94_5 x94_6 x94_7 x95 (!b86') N85' Q) (
         A10_9 x0 x2 x6 x9 x10 (some ⟨2 * N74'.nb.size, 0, none⟩) x94_0 x94_1 x94_2 x94_3 x94_4 x94_5 x94_6 x94_7 x95 false M80' Q)) (
        A10_9 x0 x2 x6 x9 x10 (some ⟨2 * N74'.nb.size, 0, none⟩) x94_0 x94_1 x94_2 x94_3 x94_4 x94_5 x94_6 x94_7 x95 false M80' Q)) (
     adS x9 fun a87' =>
     onS (M.intAt .i64 a87'.block a87'.off) fun x88' =>
     onS (M.intAt .i64 a87'.block (a87'.off + 1)) fun x89' =>
     onS (M.intAt .i64 a87'.block (a87'.off + 2)) fun x90' =>
     onS (M.intAt .i64 a87'.block (a87'.off + 3)) fun x91' =>
     adS x6 fun a92' =>
     stP (some 4) #[.int .i64 x88', .int .i64 x89', .int .i64 x90', .int .i64 x91'] M a92'.block a92'.off fun M93' =>
     adS x6 fun a94' =>
     onS (M93'.intAt .i64 a94'.block a94'.off) fun x95' =>
     onS (M93'.intAt .i64 a94'.block (a94'.off + 1)) fun x96' =>
     onS (M93'.intAt .i64 a94'.block (a94'.off + 2)) fun x97' =>
     onS (M93'.intAt .i64 a94'.block (a94'.off + 3)) fun x98' =>
     Q (.tuple #[.agg #[.int .i64 (x95'), .int .i64 (x96'), .int .i64 (x97'), .int .i64 (x98')], .int .i64 x10, .int .i64 0]) M93')) :
    A10_8 x0 x2 x6 x9 x10 x94_0 x94_1 x94_2 x94_3 x94_4 x94_5 x94_6 x94_7 x95 M Q :=
  LvP.mk (cuts := K10) (sp := Z10) 900 H fun G => by kernel_rfl

theorem w10_9 {x0 : Option Addr} {x2 : Int} {x6 x9 : Option Addr} {x10 : Int} {x15 : Option Addr} {x94_0 x94_1 x94_2 x94_3 x94_4 x94_5 x94_6 x94_7 x95 : Int} {x124 : Bool} {M : Mem} {Q : Value → Mem → Prop} (H :
    cnd x124 (
     adS x15 fun a99' =>
     onS (M.intAt .i64 a99'.block a99'.off) fun x100' =>
     onS (M.intAt .i64 a99'.block (a99'.off + 1)) fun x101' =>
     ixS (idxA x9 2 2 x10) fun a102' =>
     stP (some 2) #[.int .i64 x100', .int .i64 x101'] M a102'.block a102'.off fun M103' =>
     A10_10 x0 x2 x6 x9 (IntKind.i64.wrap (x10 + 1)) x94_0 x94_1 x94_2 x94_3 x94_4 x94_5 x94_6 x94_7 x95 M103' Q) (
     A10_10 x0 x2 x6 x9 x10 x94_0 x94_1 x94_2 x94_3 x94_4 x94_5 x94_6 x94_7 x95 M Q)) :
    A10_9 x0 x2 x6 x9 x10 x15 x94_0 x94_1 x94_2 x94_3 x94_4 x94_5 x94_6 x94_7 x95 x124 M Q :=
  LvP.mk (cuts := K10) (sp := Z10) 900 H fun G => by kernel_rfl

theorem w10_10 {x0 : Option Addr} {x2 : Int} {x6 x9 : Option Addr} {x10 x94_0 x94_1 x94_2 x94_3 x94_4 x94_5 x94_6 x94_7 x95 : Int} {M : Mem} {Q : Value → Mem → Prop} (H :
    A10_8 x0 x2 x6 x9 x10 x94_0 x94_1 x94_2 x94_3 x94_4 x94_5 x94_6 x94_7 (IntKind.i64.wrap (x95 + 1)) M Q) :
    A10_10 x0 x2 x6 x9 x10 x94_0 x94_1 x94_2 x94_3 x94_4 x94_5 x94_6 x94_7 x95 M Q :=
  LvP.mk (cuts := K10) (sp := Z10) 900 H fun G => by kernel_rfl


end Go.Zt
