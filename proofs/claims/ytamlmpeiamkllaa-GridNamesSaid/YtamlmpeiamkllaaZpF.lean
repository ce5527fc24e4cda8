/- The functions' walks: for each function and each loop a rule of what it comes to. Printed by zw2.py. -/
import Derived.Test.YtamlmpeiamkllaaProg
import Derived.Test.YtamlmpeiamkllaaZpA
import Derived.Test.YtamlmpeiamkllaaZrT
set_option linter.unusedVariables false
set_option maxRecDepth 100000
namespace Go.Zt
open Go Go.Sim Go.Proofs

def tyZpF0 : List Sc := [.int .i64, .int .i64, .int .i64, .int .i64, .bool, .bool, .int .i64, .int .i64, .int .i64, .int .i64, .int .i64, .int .i64, .int .i64, .bool, .int .i64, .int .i64, .int .i64, .int .i64, .int .i64, .int .i64, .int .i64, .int .i64, .bool]
/-! ### zoetrope/zoetroperef17.New: function 16 -/
def K16 : List (List It × List Nat) := [([.rg [1,0,0] 9, .code [1,0,1], .code [1,1]], [1, 12]), ([.rg [1,0,0] 15, .code [1,0,1], .code [1,1]], [1, 18]), ([.rg [1,0,0] 20, .code [1,0,1], .code [1,1]], [1, 23]), ([.rg [1,0,0] 25, .code [1,0,1], .code [1,1]], [1, 28]), ([.code [1,0,1], .code [1,1]], [1, 33]), ([.rg [1,1,0,0] 9, .code [1,1,0,1], .code [1,1,1]], [1, 42]), ([.rg [1,1,0,0] 15, .code [1,1,0,1], .code [1,1,1]], [1, 48]), ([.rg [1,1,0,0] 20, .code [1,1,0,1], .code [1,1,1]], [1, 53]), ([.rg [1,1,0,0] 25, .code [1,1,0,1], .code [1,1,1]], [1, 58]), ([.rg [1,1,0,0] 31, .code [1,1,0,1], .code [1,1,1]], [1, 64]), ([.rg [1,1,0,0] 39, .code [1,1,0,1], .code [1,1,1]], [1, 72]), ([.code [1,1,0,1], .code [1,1,1]], [1, 79])]
def Z16 : List (List Nat × List Nat) := [([1,0,0], [9, 15, 20, 25, 30]), ([1,1,0,0], [9, 15, 20, 25, 31, 39, 46])]
theorem b16 : Try.prog.funcs[16]? = some Try.f16 ∧ (Orc.tab Try.prog).lookup 16 = none ∧ Try.f16.body = some (codeOf Try.f16) := ⟨by kernel_rfl, by kernel_rfl, by kernel_rfl⟩
def A16_1 (x1 : Option Addr) (x12 : Bool) (M : Mem) (Q : Value → Mem → Prop) : Prop := LvP Try.prog Try.f16 [(1, .pointer x1), (12, .bool x12)] [.rg [1,0,0] 9, .code [1,0,1], .code [1,1]] M Q
def A16_2 (x1 : Option Addr) (x18 : Bool) (M : Mem) (Q : Value → Mem → Prop) : Prop := LvP Try.prog Try.f16 [(1, .pointer x1), (18, .bool x18)] [.rg [1,0,0] 15, .code [1,0,1], .code [1,1]] M Q
def A16_3 (x1 : Option Addr) (x23 : Bool) (M : Mem) (Q : Value → Mem → Prop) : Prop := LvP Try.prog Try.f16 [(1, .pointer x1), (23, .bool x23)] [.rg [1,0,0] 20, .code [1,0,1], .code [1,1]] M Q
def A16_4 (x1 : Option Addr) (x28 : Bool) (M : Mem) (Q : Value → Mem → Prop) : Prop := LvP Try.prog Try.f16 [(1, .pointer x1), (28, .bool x28)] [.rg [1,0,0] 25, .code [1,0,1], .code [1,1]] M Q
def A16_5 (x1 : Option Addr) (x33 : Bool) (M : Mem) (Q : Value → Mem → Prop) : Prop := LvP Try.prog Try.f16 [(1, .pointer x1), (33, .bool x33)] [.code [1,0,1], .code [1,1]] M Q
def A16_6 (x1 : Option Addr) (x42 : Bool) (M : Mem) (Q : Value → Mem → Prop) : Prop := LvP Try.prog Try.f16 [(1, .pointer x1), (42, .bool x42)] [.rg [1,1,0,0] 9, .code [1,1,0,1], .code [1,1,1]] M Q
def A16_7 (x1 : Option Addr) (x48 : Bool) (M : Mem) (Q : Value → Mem → Prop) : Prop := LvP Try.prog Try.f16 [(1, .pointer x1), (48, .bool x48)] [.rg [1,1,0,0] 15, .code [1,1,0,1], .code [1,1,1]] M Q
def A16_8 (x1 : Option Addr) (x53 : Bool) (M : Mem) (Q : Value → Mem → Prop) : Prop := LvP Try.prog Try.f16 [(1, .pointer x1), (53, .bool x53)] [.rg [1,1,0,0] 20, .code [1,1,0,1], .code [1,1,1]] M Q
def A16_9 (x1 : Option Addr) (x58 : Bool) (M : Mem) (Q : Value → Mem → Prop) : Prop := LvP Try.prog Try.f16 [(1, .pointer x1), (58, .bool x58)] [.rg [1,1,0,0] 25, .code [1,1,0,1], .code [1,1,1]] M Q
def A16_10 (x1 : Option Addr) (x64 : Bool) (M : Mem) (Q : Value → Mem → Prop) : Prop := LvP Try.prog Try.f16 [(1, .pointer x1), (64, .bool x64)] [.rg [1,1,0,0] 31, .code [1,1,0,1], .code [1,1,1]] M Q
def A16_11 (x1 : Option Addr) (x72 : Bool) (M : Mem) (Q : Value → Mem → Prop) : Prop := LvP Try.prog Try.f16 [(1, .pointer x1), (72, .bool x72)] [.rg [1,1,0,0] 39, .code [1,1,0,1], .code [1,1,1]] M Q
def A16_12 (x1 : Option Addr) (x79 : Bool) (M : Mem) (Q : Value → Mem → Prop) : Prop := LvP Try.prog Try.f16 [(1, .pointer x1), (79, .bool x79)] [.code [1,1,0,1], .code [1,1,1]] M Q
theorem w16_0 {x0_0 x0_1 x0_2 x0_3 : Int} {M : Mem} {Q : Value → Mem → Prop} (H :
    onS ((M.new (.cells #[.int .i64 x0_0, .int .i64 x0_1, .int .i64 x0_2, .int .i64 x0_3] 35)).intAt .i64 (2 * M.nb.size) 0) fun x1' =>
    cnd (decide (x1' < 0)) (
     A16_1 (some ⟨2 * M.nb.size, 0, none⟩) true (M.new (.cells #[.int .i64 x0_0, .int .i64 x0_1, .int .i64 x0_2, .int .i64 x0_3] 35)) Q) (
     onS ((M.new (.cells #[.int .i64 x0_0, .int .i64 x0_1, .int .i64 x0_2, .int .i64 x0_3] 35)).intAt .i64 (2 * M.nb.size) 0) fun x2' =>
     A16_1 (some ⟨2 * M.nb.size, 0, none⟩) (decide (x2' > 192)) (M.new (.cells #[.int .i64 x0_0, .int .i64 x0_1, .int .i64 x0_2, .int .i64 x0_3] 35)) Q)) :
    Cn Try.prog 16 #[.agg #[.int .i64 x0_0, .int .i64 x0_1, .int .i64 x0_2, .int .i64 x0_3]] M Q :=
  Cn.mk (cuts := K16) (sp := Z16) 900 b16 rfl rfl H fun G => by kernel_rfl

theorem w16_1 {x1 : Option Addr} {x12 : Bool} {M : Mem} {Q : Value → Mem → Prop} (H :
    cnd x12 (
     A16_2 x1 true M Q) (
     adS x1 fun a3' =>
     onS (M.intAt .i64 a3'.block a3'.off) fun x4' =>
     A16_2 x1 ((x4'.tmod 64) != 0) M Q)) :
    A16_1 x1 x12 M Q :=
  LvP.mk (cuts := K16) (sp := Z16) 900 H fun G => by kernel_rfl

theorem w16_2 {x1 : Option Addr} {x18 : Bool} {M : Mem} {Q : Value → Mem → Prop} (H :
    cnd x18 (
     A16_3 x1 true M Q) (
     adS x1 fun a5' =>
     onS (M.intAt .i64 a5'.block (a5'.off + 1)) fun x6' =>
     A16_3 x1 (decide (x6' < 0)) M Q)) :
    A16_2 x1 x18 M Q :=
  LvP.mk (cuts := K16) (sp := Z16) 900 H fun G => by kernel_rfl

theorem w16_3 {x1 : Option Addr} {x23 : Bool} {M : Mem} {Q : Value → Mem → Prop} (H :
    cnd x23 (
     A16_4 x1 true M Q) (
     adS x1 fun a7' =>
     onS (M.intAt .i64 a7'.block (a7'.off + 1)) fun x8' =>
     A16_4 x1 (decide (x8' > 192)) M Q)) :
    A16_3 x1 x23 M Q :=
  LvP.mk (cuts := K16) (sp := Z16) 900 H fun G => by kernel_rfl

theorem w16_4 {x1 : Option Addr} {x28 : Bool} {M : Mem} {Q : Value → Mem → Prop} (H :
    cnd x28 (
     A16_5 x1 true M Q) (
     adS x1 fun a9' =>
     onS (M.intAt .i64 a9'.block (a9'.off + 1)) fun x10' =>
     A16_5 x1 ((x10'.tmod 64) != 0) M Q)) :
    A16_4 x1 x28 M Q :=
  LvP.mk (cuts := K16) (sp := Z16) 900 H fun G => by kernel_rfl

theorem w16_5 {x1 : Option Addr} {x33 : Bool} {M : Mem} {Q : Value → Mem → Prop} (H :
    cnd x33 (
     Q (.tuple #[.pointer none, .int .i64 2]) M) (
     adS x1 fun a11' =>
     onS (M.intAt .i64 a11'.block (a11'.off + 2)) fun x12' =>
     cnd (decide (x12' < 8)) (
      A16_6 x1 true M Q) (
      adS x1 fun a13' =>
      onS (M.intAt .i64 a13'.block (a13'.off + 2)) fun x14' =>
      A16_6 x1 (decide (x14' > 256)) M Q))) :
    A16_5 x1 x33 M Q :=
  LvP.mk (cuts := K16) (sp := Z16) 900 H fun G => by kernel_rfl

theorem w16_6 {x1 : Option Addr} {x42 : Bool} {M : Mem} {Q : Value → Mem → Prop} (H :
    cnd x42 (
     A16_7 x1 true M Q) (
     adS x1 fun a15' =>
     onS (M.intAt .i64 a15'.block (a15'.off + 2)) fun x16' =>
     A16_7 x1 ((x16'.tmod 8) != 0) M Q)) :
    A16_6 x1 x42 M Q :=
  LvP.mk (cuts := K16) (sp := Z16) 900 H fun G => by kernel_rfl

theorem w16_7 {x1 : Option Addr} {x48 : Bool} {M : Mem} {Q : Value → Mem → Prop} (H :
    cnd x48 (
     A16_8 x1 true M Q) (
     adS x1 fun a17' =>
     onS (M.intAt .i64 a17'.block (a17'.off + 3)) fun x18' =>
     A16_8 x1 (decide (x18' < 8)) M Q)) :
    A16_7 x1 x48 M Q :=
  LvP.mk (cuts := K16) (sp := Z16) 900 H fun G => by kernel_rfl

theorem w16_8 {x1 : Option Addr} {x53 : Bool} {M : Mem} {Q : Value → Mem → Prop} (H :
    cnd x53 (
     A16_9 x1 true M Q) (
     adS x1 fun a19' =>
     onS (M.intAt .i64 a19'.block (a19'.off + 3)) fun x20' =>
     A16_9 x1 (decide (x20' > 256)) M Q)) :
    A16_8 x1 x53 M Q :=
  LvP.mk (cuts := K16) (sp := Z16) 900 H fun G => by kernel_rfl

theorem w16_9 {x1 : Option Addr} {x58 : Bool} {M : Mem} {Q : Value → Mem → Prop} (H :
    cnd x58 (
     A16_10 x1 true M Q) (
     adS x1 fun a21' =>
     onS (M.intAt .i64 a21'.block (a21'.off + 3)) fun x22' =>
     A16_10 x1 ((x22'.tmod 8) != 0) M Q)) :
    A16_9 x1 x58 M Q :=
  LvP.mk (cuts := K16) (sp := Z16) 900 H fun G => by kernel_rfl

theorem w16_10 {x1 : Option Addr} {x64 : Bool} {M : Mem} {Q : Value → Mem → Prop} (H :
    cnd x64 (
     A16_11 x1 true M Q) (
     adS x1 fun a23' =>
     onS (M.intAt .i64 a23'.block a23'.off) fun x24' =>
     adS x1 fun a25' =>
     onS (M.intAt .i64 a25'.block (a25'.off + 2)) fun x26' =>
     A16_11 x1 (decide ((IntKind.i64.wrap (x24' + x26')) > 256)) M Q)) :
    A16_10 x1 x64 M Q :=
  LvP.mk (cuts := K16) (sp := Z16) 900 H fun G => by kernel_rfl

theorem w16_11 {x1 : Option Addr} {x72 : Bool} {M : Mem} {Q : Value → Mem → Prop} (H :
    cnd x72 (
     A16_12 x1 true M Q) (
     adS x1 fun a27' =>
     onS (M.intAt .i64 a27'.block (a27'.off + 1)) fun x28' =>
     adS x1 fun a29' =>
     onS (M.intAt .i64 a29'.block (a29'.off + 3)) fun x30' =>
     A16_12 x1 (decide ((IntKind.i64.wrap (x28' + x30')) > 256)) M Q)) :
    A16_11 x1 x72 M Q :=
  LvP.mk (cuts := K16) (sp := Z16) 900 H fun G => by kernel_rfl

theorem w16_12 {x1 : Option Addr} {x79 : Bool} {M : Mem} {Q : Value → Mem → Prop} (H :
    cnd x79 (
     Q (.tuple #[.pointer none, .int .i64 2]) M) (
     adS x1 fun a31' =>
     onS (M.intAt .i64 a31'.block a31'.off) fun x32' =>
     onS (M.intAt .i64 a31'.block (a31'.off + 1)) fun x33' =>
     onS (M.intAt .i64 a31'.block (a31'.off + 2)) fun x34' =>
     onS (M.intAt .i64 a31'.block (a31'.off + 3)) fun x35' =>
     Q (.tuple #[.pointer (some ⟨2 * M.nb.size, 0, none⟩), .int .i64 0]) (M.new (.cells #[.int .i64 x32', .int .i64 x33', .int .i64 x34', .int .i64 x35', .slice none 0 0] 83)))) :
    A16_12 x1 x79 M Q :=
  LvP.mk (cuts := K16) (sp := Z16) 900 H fun G => by kernel_rfl


/-! ### zoetrope/zoetroperef17.side: function 34 -/
def K34 : List (List It × List Nat) := [([.rg [1,0] 7, .code [1,1]], [0, 9]), ([.rg [1,0] 11, .code [1,1]], [0, 13])]
def Z34 : List (List Nat × List Nat) := [([1,0], [7, 11, 15])]
theorem b34 : Try.prog.funcs[34]? = some Try.f34 ∧ (Orc.tab Try.prog).lookup 34 = none ∧ Try.f34.body = some (codeOf Try.f34) := ⟨by kernel_rfl, by kernel_rfl, by kernel_rfl⟩
def A34_1 (x0 : Int) (x9 : Bool) (M : Mem) (Q : Value → Mem → Prop) : Prop := LvP Try.prog Try.f34 [(0, .int .i64 x0), (9, .bool x9)] [.rg [1,0] 7, .code [1,1]] M Q
def A34_2 (x0 : Int) (x13 : Bool) (M : Mem) (Q : Value → Mem → Prop) : Prop := LvP Try.prog Try.f34 [(0, .int .i64 x0), (13, .bool x13)] [.rg [1,0] 11, .code [1,1]] M Q
theorem w34_0 {x0 : Int} {M : Mem} {Q : Value → Mem → Prop} (H :
    cnd (x0 == 8) (
     A34_1 x0 true M Q) (
     A34_1 x0 (x0 == 16) M Q)) :
    Cn Try.prog 34 #[.int .i64 x0] M Q :=
  Cn.mk (cuts := K34) (sp := Z34) 900 b34 rfl rfl H fun G => by kernel_rfl

theorem w34_1 {x0 : Int} {x9 : Bool} {M : Mem} {Q : Value → Mem → Prop} (H :
    cnd x9 (
     A34_2 x0 true M Q) (
     A34_2 x0 (x0 == 32) M Q)) :
    A34_1 x0 x9 M Q :=
  LvP.mk (cuts := K34) (sp := Z34) 900 H fun G => by kernel_rfl

theorem w34_2 {x0 : Int} {x13 : Bool} {M : Mem} {Q : Value → Mem → Prop} (H :
    cnd x13 (
     Q (.bool true) M) (
     Q (.bool (x0 == 64)) M)) :
    A34_2 x0 x13 M Q :=
  LvP.mk (cuts := K34) (sp := Z34) 900 H fun G => by kernel_rfl


/-! ### (*zoetrope/zoetroperef17.Grid).in: function 35 -/
def K35 : List (List It × List Nat) := [([.rg [1,0] 17, .code [1,1]], [0, 1, 2, 23]), ([.rg [1,0] 32, .code [1,1]], [0, 2, 38])]
def Z35 : List (List Nat × List Nat) := [([1,0], [17, 32, 47])]
theorem b35 : Try.prog.funcs[35]? = some Try.f35 ∧ (Orc.tab Try.prog).lookup 35 = none ∧ Try.f35.body = some (codeOf Try.f35) := ⟨by kernel_rfl, by kernel_rfl, by kernel_rfl⟩
def A35_1 (x0 : Option Addr) (x1 x2 : Int) (x23 : Bool) (M : Mem) (Q : Value → Mem → Prop) : Prop := LvP Try.prog Try.f35 [(0, .pointer x0), (1, .int .i64 x1), (2, .int .i64 x2), (23, .bool x23)] [.rg [1,0] 17, .code [1,1]] M Q
def A35_2 (x0 : Option Addr) (x2 : Int) (x38 : Bool) (M : Mem) (Q : Value → Mem → Prop) : Prop := LvP Try.prog Try.f35 [(0, .pointer x0), (2, .int .i64 x2), (38, .bool x38)] [.rg [1,0] 32, .code [1,1]] M Q
theorem w35_0 {x0 : Option Addr} {x1 x2 : Int} {M : Mem} {Q : Value → Mem → Prop} (H :
    adS x0 fun a1' =>
    onS (M.intAt .i64 a1'.block a1'.off) fun x2' =>
    cnd (decide (x1 ≥ x2')) (
     adS x0 fun a3' =>
     onS (M.intAt .i64 a3'.block (a3'.off + 1)) fun x4' =>
     A35_1 x0 x1 x2 (decide (x2 ≥ x4')) M Q) (
     A35_1 x0 x1 x2 false M Q)) :
    Cn Try.prog 35 #[.pointer x0, .int .i64 x1, .int .i64 x2] M Q :=
  Cn.mk (cuts := K35) (sp := Z35) 900 b35 rfl rfl H fun G => by kernel_rfl

theorem w35_1 {x0 : Option Addr} {x1 x2 : Int} {x23 : Bool} {M : Mem} {Q : Value → Mem → Prop} (H :
    cnd x23 (
     adS x0 fun a5' =>
     onS (M.intAt .i64 a5'.block a5'.off) fun x6' =>
     adS x0 fun a7' =>
     onS (M.intAt .i64 a7'.block (a7'.off + 2)) fun x8' =>
     A35_2 x0 x2 (decide (x1 < (IntKind.i64.wrap (x6' + x8')))) M Q) (
     A35_2 x0 x2 false M Q)) :
    A35_1 x0 x1 x2 x23 M Q :=
  LvP.mk (cuts := K35) (sp := Z35) 900 H fun G => by kernel_rfl

theorem w35_2 {x0 : Option Addr} {x2 : Int} {x38 : Bool} {M : Mem} {Q : Value → Mem → Prop} (H :
    cnd x38 (
     adS x0 fun a9' =>
     onS (M.intAt .i64 a9'.block (a9'.off + 1)) fun x10' =>
     adS x0 fun a11' =>
     onS (M.intAt .i64 a11'.block (a11'.off + 3)) fun x12' =>
     Q (.bool (decide (x2 < (IntKind.i64.wrap (x10' + x12'))))) M) (
     Q (.bool false) M)) :
    A35_2 x0 x2 x38 M Q :=
  LvP.mk (cuts := K35) (sp := Z35) 900 H fun G => by kernel_rfl


/-! ### (*zoetrope/zoetroperef17.Grid).At: function 36 -/
def K36 : List (List It × List Nat) := [([.code [1,0,1,0,0], .lp [1,0,1,0,0], .blk 0, .code [1,1]], [0, 1, 2, 6, 8]), ([.rg [1,0,1,0,0,1,0,0,1,0] 14, .code [1,0,1,0,0,1,0,0,1,1], .blk 1, .code [1,0,1,0,0,1,1], .lp [1,0,1,0,0], .blk 0, .code [1,1]], [0, 1, 2, 6, 8, 9, 39]), ([.rg [1,0,1,0,0,1,0,0,1,0] 20, .code [1,0,1,0,0,1,0,0,1,1], .blk 1, .code [1,0,1,0,0,1,1], .lp [1,0,1,0,0], .blk 0, .code [1,1]], [0, 1, 2, 6, 8, 9, 45]), ([.code [1,0,1,0,0,1,0,0,1,1], .blk 1, .code [1,0,1,0,0,1,1], .lp [1,0,1,0,0], .blk 0, .code [1,1]], [0, 1, 2, 6, 8, 9, 53])]
def Z36 : List (List Nat × List Nat) := [([1,0,1,0,0,1,0,0,1,0], [14, 20, 28])]
theorem b36 : Try.prog.funcs[36]? = some Try.f36 ∧ (Orc.tab Try.prog).lookup 36 = none ∧ Try.f36.body = some (codeOf Try.f36) := ⟨by kernel_rfl, by kernel_rfl, by kernel_rfl⟩
def A36_1 (x0 : Option Addr) (x1 x2 : Int) (x6 : Option Addr) (x8 : Int) (M : Mem) (Q : Value → Mem → Prop) : Prop := LvP Try.prog Try.f36 [(0, .pointer x0), (1, .int .i64 x1), (2, .int .i64 x2), (6, .pointer x6), (8, .int .i64 x8)] [.code [1,0,1,0,0], .lp [1,0,1,0,0], .blk 0, .code [1,1]] M Q
def A36_2 (x0 : Option Addr) (x1 x2 : Int) (x6 : Option Addr) (x8 : Int) (x9 : Option Addr) (x39 : Bool) (M : Mem) (Q : Value → Mem → Prop) : Prop := LvP Try.prog Try.f36 [(0, .pointer x0), (1, .int .i64 x1), (2, .int .i64 x2), (6, .pointer x6), (8, .int .i64 x8), (9, .pointer x9), (39, .bool x39)] [.rg [1,0,1,0,0,1,0,0,1,0] 14, .code [1,0,1,0,0,1,0,0,1,1], .blk 1, .code [1,0,1,0,0,1,1], .lp [1,0,1,0,0], .blk 0, .code [1,1]] M Q
def A36_3 (x0 : Option Addr) (x1 x2 : Int) (x6 : Option Addr) (x8 : Int) (x9 : Option Addr) (x45 : Bool) (M : Mem) (Q : Value → Mem → Prop) : Prop := LvP Try.prog Try.f36 [(0, .pointer x0), (1, .int .i64 x1), (2, .int .i64 x2), (6, .pointer x6), (8, .int .i64 x8), (9, .pointer x9), (45, .bool x45)] [.rg [1,0,1,0,0,1,0,0,1,0] 20, .code [1,0,1,0,0,1,0,0,1,1], .blk 1, .code [1,0,1,0,0,1,1], .lp [1,0,1,0,0], .blk 0, .code [1,1]] M Q
def A36_4 (x0 : Option Addr) (x1 x2 : Int) (x6 : Option Addr) (x8 : Int) (x9 : Option Addr) (x53 : Bool) (M : Mem) (Q : Value → Mem → Prop) : Prop := LvP Try.prog Try.f36 [(0, .pointer x0), (1, .int .i64 x1), (2, .int .i64 x2), (6, .pointer x6), (8, .int .i64 x8), (9, .pointer x9), (53, .bool x53)] [.code [1,0,1,0,0,1,0,0,1,1], .blk 1, .code [1,0,1,0,0,1,1], .lp [1,0,1,0,0], .blk 0, .code [1,1]] M Q
theorem w36_0 {x0 : Option Addr} {x1 x2 : Int} {M : Mem} {Q : Value → Mem → Prop} (H :
    A36_1 x0 x1 x2 (some ⟨2 * M.nb.size, 0, none⟩) 0 (M.new (.cells #[.int .i64 0, .int .i64 0, .int .i64 0, .int .i64 0, .bool false, .bool false, .int .i64 0, .int .i64 0, .int .i64 0, .int .i64 0, .int .i64 0, .int .i64 0, .int .i64 0, .bool false, .int .i64 0, .int .i64 0, .int .i64 0, .int .i64 0, .int .i64 0, .int .i64 0, .int .i64 0, .int .i64 0, .bool false] 27)) Q) :
    Cn Try.prog 36 #[.pointer x0, .int .i64 x1, .int .i64 x2] M Q :=
  Cn.mk (cuts := K36) (sp := Z36) 900 b36 rfl rfl H fun G => by kernel_rfl

theorem w36_1 {x0 : Option Addr} {x1 x2 : Int} {x6 : Option Addr} {x8 : Int} {M : Mem} {Q : Value → Mem → Prop} (H :
    adS x0 fun a1' =>
    onS (M.slAt a1'.block (a1'.off + 4)) fun s2' =>
    cnd (decide (x8 < ((s2'.2.1 : Int)))) (
     adS x0 fun a3' =>
     onS (M.slAt a3'.block (a3'.off + 4)) fun s4' =>
     ixS (idxA s4'.1 (s4'.2.1) 23 x8) fun a5' =>
     ldP tyZpF0 M a5'.block a5'.off fun vs6' =>
     stP (some 23) vs6'.toArray (M.new (.cells #[.int .i64 0, .int .i64 0, .int .i64 0, .int .i64 0, .bool false, .bool false, .int .i64 0, .int .i64 0, .int .i64 0, .int .i64 0, .int .i64 0, .int .i64 0, .int .i64 0, .bool false, .int .i64 0, .int .i64 0, .int .i64 0, .int .i64 0, .int .i64 0, .int .i64 0, .int .i64 0, .int .i64 0, .bool false] 27)) (2 * M.nb.size) 0 fun M7' =>
     onS (M7'.intAt .i64 (2 * M.nb.size) 0) fun x8' =>
     cnd (decide (x1 ≥ x8')) (
      onS (M7'.intAt .i64 (2 * M.nb.size) 0) fun x9' =>
      onS (M7'.intAt .i64 (2 * M.nb.size) (0 + 2)) fun x10' =>
      A36_2 x0 x1 x2 x6 x8 (some ⟨2 * M.nb.size, 0, none⟩) (decide (x1 < (IntKind.i64.wrap (x9' + x10')))) M7' Q) (
      A36_2 x0 x1 x2 x6 x8 (some ⟨2 * M.nb.size, 0, none⟩) false M7' Q)) (
     adS x6 fun a11' =>
     stP (some 23) #[.int .i64 0, .int .i64 0, .int .i64 0, .int .i64 0, .bool false, .bool false, .int .i64 0, .int .i64 0, .int .i64 0, .int .i64 0, .int .i64 0, .int .i64 0, .int .i64 0, .bool false, .int .i64 0, .int .i64 0, .int .i64 0, .int .i64 0, .int .i64 0, .int .i64 0, .int .i64 0, .int .i64 0, .bool false] M a11'.block a11'.off fun M12' =>
     adS x6 fun a13' =>
     ldP tyZpF0 M12' a13'.block a13'.off fun vs14' =>
     Q (.tuple #[.agg vs14'.toArray, .bool false]) M12')) :
    A36_1 x0 x1 x2 x6 x8 M Q :=
  LvP.mk (cuts := K36) (sp := Z36) 900 H fun G => by kernel_rfl

theorem w36_2 {x0 : Option Addr} {x1 x2 : Int} {x6 : Option Addr} {x8 : Int} {x9 : Option Addr} {x39 : Bool} {M : Mem} {Q : Value → Mem → Prop} (H :
    cnd x39 (
     adS x9 fun a15' =>
     onS (M.intAt .i64 a15'.block (a15'.off + 1)) fun x16' =>
     A36_3 x0 x1 x2 x6 x8 x9 (decide (x2 ≥ x16')) M Q) (
     A36_3 x0 x1 x2 x6 x8 x9 false M Q)) :
    A36_2 x0 x1 x2 x6 x8 x9 x39 M Q :=
  LvP.mk (cuts := K36) (sp := Z36) 900 H fun G => by kernel_rfl

theorem w36_3 {x0 : Option Addr} {x1 x2 : Int} {x6 : Option Addr} {x8 : Int} {x9 : Option Addr} {x45 : Bool} {M : Mem} {Q : Value → Mem → Prop} (H :
    cnd x45 (
     adS x9 fun a17' =>
     onS (M.intAt .i64 a17'.block (a17'.off + 1)) fun x18' =>
     adS x9 fun a19' =>
     onS (M.intAt .i64 a19'.block (a19'.off + 3)) fun x20' =>
     A36_4 x0 x1 x2 x6 x8 x9 (decide (x2 < (IntKind.i64.wrap (x18' + x20')))) M Q) (
     A36_4 x0 x1 x2 x6 x8 x9 false M Q)) :
    A36_3 x0 x1 x2 x6 x8 x9 x45 M Q :=
  LvP.mk (cuts := K36) (sp := Z36) 900 H fun G => by kernel_rfl

theorem w36_4 {x0 : Option Addr} {x1 x2 : Int} {x6 : Option Addr} {x8 : Int} {x9 : Option Addr} {x53 : Bool} {M : Mem} {Q : Value → Mem → Prop} (H :
    cnd x53 (
     adS x9 fun a21' =>
     ldP tyZpF0 M a21'.block a21'.off fun vs22' =>
     adS x6 fun a23' =>
     stP (some 23) vs22'.toArray M a23'.block a23'.off fun M24' =>
     adS x6 fun a25' =>
     ldP tyZpF0 M24' a25'.block a25'.off fun vs26' =>
     Q (.tuple #[.agg vs26'.toArray, .bool true]) M24') (
     A36_1 x0 x1 x2 x6 (IntKind.i64.wrap (x8 + 1)) M Q)) :
    A36_4 x0 x1 x2 x6 x8 x9 x53 M Q :=
  LvP.mk (cuts := K36) (sp := Z36) 900 H fun G => by kernel_rfl


/-! ### zoetrope/zoetroperef17.Same: function 19 -/
def K19 : List (List It × List Nat) := [([.code [1,1,0,1,0,0], .lp [1,1,0,1,0,0], .blk 0, .code [1,1,1]], [0, 1, 5])]
def Z19 : List (List Nat × List Nat) := []
theorem b19 : Try.prog.funcs[19]? = some Try.f19 ∧ (Orc.tab Try.prog).lookup 19 = none ∧ Try.f19.body = some (codeOf Try.f19) := ⟨by kernel_rfl, by kernel_rfl, by kernel_rfl⟩
def A19_1 (Ax0 : Option Addr) (lx0 cx0 : Nat) (Ax1 : Option Addr) (lx1 cx1 : Nat) (x5 : Int) (M : Mem) (Q : Value → Mem → Prop) : Prop := LvP Try.prog Try.f19 [(0, .slice Ax0 lx0 cx0), (1, .slice Ax1 lx1 cx1), (5, .int .i64 x5)] [.code [1,1,0,1,0,0], .lp [1,1,0,1,0,0], .blk 0, .code [1,1,1]] M Q
theorem w19_0 {Ax0 : Option Addr} {lx0 cx0 : Nat} {Ax1 : Option Addr} {lx1 cx1 : Nat} {M : Mem} {Q : Value → Mem → Prop} (H :
    cnd (((lx0 : Int)) != ((lx1 : Int))) (
     Q (.bool false) M) (
     A19_1 Ax0 lx0 cx0 Ax1 lx1 cx1 0 M Q)) :
    Cn Try.prog 19 #[.slice Ax0 lx0 cx0, .slice Ax1 lx1 cx1] M Q :=
  Cn.mk (cuts := K19) (sp := Z19) 900 b19 rfl rfl H fun G => by kernel_rfl

theorem w19_1 {Ax0 : Option Addr} {lx0 cx0 : Nat} {Ax1 : Option Addr} {lx1 cx1 : Nat} {x5 : Int} {M : Mem} {Q : Value → Mem → Prop} (H :
    cnd (decide (x5 < ((lx0 : Int)))) (
     ixS (idxA Ax0 lx0 23 x5) fun a1' =>
     ldP tyZpF0 M a1'.block a1'.off fun vs2' =>
     ixS (idxA Ax1 lx1 23 x5) fun a3' =>
     ldP tyZpF0 M a3'.block a3'.off fun vs4' =>
     puS (binV Try.prog .neq 27 27 (.agg vs2'.toArray) (.agg vs4'.toArray)) fun v5' =>
     tyS (asB v5') fun b6' =>
     cnd b6' (
      Q (.bool false) M) (
      A19_1 Ax0 lx0 cx0 Ax1 lx1 cx1 (IntKind.i64.wrap (x5 + 1)) M Q)) (
     Q (.bool true) M)) :
    A19_1 Ax0 lx0 cx0 Ax1 lx1 cx1 x5 M Q :=
  LvP.mk (cuts := K19) (sp := Z19) 900 H fun G => by kernel_rfl


/-! ### (*zoetrope/zoetroperef17.Grid).Blocks: function 20 -/
def K20 : List (List It × List Nat) := []
def Z20 : List (List Nat × List Nat) := []
theorem b20 : Try.prog.funcs[20]? = some Try.f20 ∧ (Orc.tab Try.prog).lookup 20 = none ∧ Try.f20.body = some (codeOf Try.f20) := ⟨by kernel_rfl, by kernel_rfl, by kernel_rfl⟩
theorem w20_0 {x0 : Option Addr} {M : Mem} {Q : Value → Mem → Prop} (H :
    adS x0 fun a1' =>
    onS (M.slAt a1'.block (a1'.off + 4)) fun s2' =>
    meS (appendP Try.prog #[43, 43] (.slice none 0 0) (.slice s2'.1 (s2'.2.1) (s2'.2.2)) M) fun r3' =>
    tyS (asS r3'.1) fun s4' =>
    Q (.slice s4'.1 (s4'.2.1) (s4'.2.2)) r3'.2) :
    Cn Try.prog 20 #[.pointer x0] M Q :=
  Cn.mk (cuts := K20) (sp := Z20) 900 b20 rfl rfl H fun G => by kernel_rfl


end Go.Zt
