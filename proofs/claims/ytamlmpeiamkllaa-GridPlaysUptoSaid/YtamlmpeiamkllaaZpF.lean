/- The functions' walks: for each function and each loop a rule of what it comes to. Printed by zw2.py. -/
import Derived.Test.YtamlmpeiamkllaaProg
import Derived.Test.YtamlmpeiamkllaaZpA
import Derived.Test.YtamlmpeiamkllaaZrT
import Derived.Test.YtamlmpeiamkllaaZpQ
set_option linter.unusedVariables false
set_option maxRecDepth 100000
namespace Go.Zt
open Go Go.Sim Go.Proofs

def tyZpF0 : List Sc := [.int .i64, .int .i64, .int .i64, .int .i64, .bool, .bool, .int .i64, .int .i64, .int .i64, .int .i64, .int .i64, .int .i64, .int .i64, .bool, .int .i64, .int .i64, .int .i64, .int .i64, .int .i64, .int .i64, .int .i64, .int .i64, .bool]
/-! ### zoetrope/zoetroperef17.New: function 16 -/
def K16 : List (List It × List Nat) := [([.rg [1,0,0] 9, .code [1,0,1], .code [1,1]], [1, 12]), ([.rg [1,0,0] 15, .code [1,0,1], .code [1,1]], [1, 18]), ([.rg [1,0,0] 20, .code [1,0,1], .code [1,1]], [1, 23]), ([.rg [1,0,0] 25, .code [1,0,1], .code [1,1]], [1, 28]), ([.code [1,0,1], .code [1,1]], [1, 33]), ([.rg [1,1,0,0] 9, .code [1,1,0,1], .code [1,1,1]], [1, 42]), ([.rg [1,1,0,0] 15, .code [1,1,0,1], .code [1,1,1]], [1, 48]), ([.rg [1,1,0,0] 20, .code [1,1,0,1], .code [1,1,1]], [1, 53]), ([.rg [1,1,0,0] 25, .code [1,1,0,1], .code [1,1,1]], [1, 58]), ([.rg [1,1,0,0] 31, .code [1,1,0,1], .code [1,1,1]], [1, 64]), ([.rg [1,1,0,0] 39, .code [1,1,0,1], .code [1,1,1]], [1, 72]), ([.code [1,1,0,1], .code [1,1,1]], [1, 79])]
def Z16 : List (List Nat × List Nat) := [([1,0,0], [9, 15, 20, 25, 30]), ([1,1,0,0], [9, 15, 20, 25, 31, 39, 46])]
theorem b16 : Try.prog.funcs[16]? = some Try.f16 ∧ (Orc.tab Try.prog).lookup 16 = none ∧ Try.f16.body = some (codeOf Try.f16) := ⟨by kernel_rfl, by kernel_rfl, by kernel_rfl⟩
def A16_1 (x1 : Option Addr) (x12 : Bool) (M : Mem) (Q : Value → Mem → Prop) : Prop := LvP Try.prog Try.f16 [(1, .pointer x1), (12, .bool x12)] [.rg [1,0,0] 9, .code [1,0,1], .code [1,1]] M Q
def A16_2 (x1 : Option Addr) (x18 : Bool) (M : Mem) (Q : Value → Mem → Prop) : Prop := LvP Try.prog Try.f16 [(1, .pointer x1), (18, .bool x18)] [.rg [1,0,0] 15, .code [1,0,1], .code [1,1]] M Q
def A16_3 (x1 : Option Addr) (x23 : Bool) (M : Mem) (Q : Value → Mem → Prop) : Prop := LvP Try.prog Try.f16 [(1, .pointer x1), (23, .bool x23)] [.rg [1,0,0] 20, .code [1,0,1], .code [1,1]] M Q
def A16_4 (x1 : Option Addr) (x28 : Bool) (M : Mem) (Q : Value → Mem → Prop) : Prop := LvP Try.prog Try.f16 [(1, .pointer x1), (28, .bool x28)] [.rg [1,0,0] 25, .code [1,0,1], .code [1,1]] M Q
def A16_5 (x1 : Option Addr) (x33 : Bool) (M : Mem) (Q : Value → Mem → Prop) : Prop := LvP Try.prog Try.f16 [(1, .pointer x1), (33, .bool x33)] [.code [1,0,1], .code [1,1]] M Q
def A16_6 (x1 : Option Addr) (x42 : Bool) (M : Mem) (Q : Value → Mem → Prop) : Prop := LvP Try.prog Try.f16 [(1, .pointer x1), (42, .bool x42)] [.rg [1,1,0,0] 9, .code [1,1,0,1], .code [1,1,1]] M Q
def A16_7 (x1 : Option Addr) (x48 : Bool) (M : Mem) (Q : Value → Mem → Prop) : Prop := LvP Try.prog Try.f16 [(1, .pointer x1), (48, .bool x48)] [.rg [1,1,0,0] 15, .code [1,1,0,1], .code [1,1,1]] M Q
def A16_8 (x1 : Option Addr) (x53 : Bool) (M : Mem) (Q : Value → Mem → Prop) : Prop := LvP Try.prog Try.f16 [(1, .pointer x1), (53, .bool x53)] [.rg [1,1,0,0] 20, .code [1,1,0,1], .code [1,1,1]] M Q
def A16_9 (x1 : Option Addr) (x58 : Bool) (M : Mem) (Q : Value → Mem → Prop) : Prop := LvP Try.prog Try.f16 [(1, .pointer x1), (58, .bool x58)] [.rg [1,1,0,0] 25, .code [1,1,0,1], .code [1,1,1]] M Q
def A16_10 (x1 : Option Addr) (x64 : Bool) (M : Mem) (Q : Value → Mem → Prop) : Prop := LvP Try.prog Try.f16 [(1, .pointer x1), (64, .bool x64)] [.rg [1,1,0,0] 31, .code [1,1,0,1], .code [1,1,1]] M Q
def A16_11 (x1 : Option Addr) (x72 : Bool) (M : Mem) (Q : Value → Mem → Prop) : Prop := LvP Try.prog Try.f16 [(1, .pointer x1), (72, .bool x72)] [.rg [1,1,0,0] 39, .code [1,1,0,1], .code [1,1,1]] M Q
def A16_12 (x1 : Option Addr) (x79 : Bool) (M : Mem) (Q : Value → Mem → Prop) : Prop := LvP Try.prog Try.f16 [(1, .pointer x1), (79, .bool x79)] [.code [1,1,0,1], .code [1,1,1]] M Q
theorem w16_0 {x0_0 x0_1 x0_2 x0_3 : Int} {M : Mem} {Q : Value → Mem → Prop} (H :
    onS ((M.new (.cells #[.int .i64 x0_0, .int .i64 x0_1, .int .i64 x0_2, .int .i64 x0_3] 35)).intAt .i64 (2 * M.nb.size) 0) fun x1' =>
    cnd (decide (x1' < 0)) (
     A16_1 (some ⟨2 * M.nb.size, 0, none⟩) true (M.new (.cells #[.int .i64 x0_0, .int .i64 x0_1, .int .i64 x0_2, .int .i64 x0_3] 35)) Q) (
     onS ((M.new (.cells #[.int .i64 x0_0, .int .i64 x0_1, .int .i64 x0_2, .int .i64 x0_3] 35)).intAt .i64 (2 * M.nb.size) 0) fun x2' =>
     A16_1 (some ⟨2 * M.nb.size, 0, none⟩) (decide (x2' > 192)) (M.new (.cells #[.int .i64 x0_0, .int .i64 x0_1, .int .i64 x0_2, .int .i64 x0_3] 35)) Q)) :
    Cn Try.prog 16 #[.agg #[.int .i64 x0_0, .int .i64 x0_1, .int .i64 x0_2, .int .i64 x0_3]] M Q :=
  Cn.mk (cuts := K16) (sp := Z16) 900 b16 rfl rfl H fun G => by kernel_rfl

theorem w16_1 {x1 : Option Addr} {x12 : Bool} {M : Mem} {Q : Value → Mem → Prop} (H :
    cnd x12 (
     A16_2 x1 true M Q) (
     adS x1 fun a3' =>
     onS (M.intAt .i64 a3'.block a3'.off) fun x4' =>
     A16_2 x1 ((x4'.tmod 64) != 0) M Q)) :
    A16_1 x1 x12 M Q :=
  LvP.mk (cuts := K16) (sp := Z16) 900 H fun G => by kernel_rfl

theorem w16_2 {x1 : Option Addr} {x18 : Bool} {M : Mem} {Q : Value → Mem → Prop} (H :
    cnd x18 (
     A16_3 x1 true M Q) (
     adS x1 fun a5' =>
     onS (M.intAt .i64 a5'.block (a5'.off + 1)) fun x6' =>
     A16_3 x1 (decide (x6' < 0)) M Q)) :
    A16_2 x1 x18 M Q :=
  LvP.mk (cuts := K16) (sp := Z16) 900 H fun G => by kernel_rfl

theorem w16_3 {x1 : Option Addr} {x23 : Bool} {M : Mem} {Q : Value → Mem → Prop} (H :
    cnd x23 (
     A16_4 x1 true M Q) (
     adS x1 fun a7' =>
     onS (M.intAt .i64 a7'.block (a7'.off + 1)) fun x8' =>
     A16_4 x1 (decide (x8' > 192)) M Q)) :
    A16_3 x1 x23 M Q :=
  LvP.mk (cuts := K16) (sp := Z16) 900 H fun G => by kernel_rfl

theorem w16_4 {x1 : Option Addr} {x28 : Bool} {M : Mem} {Q : Value → Mem → Prop} (H :
    cnd x28 (
     A16_5 x1 true M Q) (
     adS x1 fun a9' =>
     onS (M.intAt .i64 a9'.block (a9'.off + 1)) fun x10' =>
     A16_5 x1 ((x10'.tmod 64) != 0) M Q)) :
    A16_4 x1 x28 M Q :=
  LvP.mk (cuts := K16) (sp := Z16) 900 H fun G => by kernel_rfl

theorem w16_5 {x1 : Option Addr} {x33 : Bool} {M : Mem} {Q : Value → Mem → Prop} (H :
    cnd x33 (
     Q (.tuple #[.pointer none, .int .i64 2]) M) (
     adS x1 fun a11' =>
     onS (M.intAt .i64 a11'.block (a11'.off + 2)) fun x12' =>
     cnd (decide (x12' < 8)) (
      A16_6 x1 true M Q) (
      adS x1 fun a13' =>
      onS (M.intAt .i64 a13'.block (a13'.off + 2)) fun x14' =>
      A16_6 x1 (decide (x14' > 256)) M Q))) :
    A16_5 x1 x33 M Q :=
  LvP.mk (cuts := K16) (sp := Z16) 900 H fun G => by kernel_rfl

theorem w16_6 {x1 : Option Addr} {x42 : Bool} {M : Mem} {Q : Value → Mem → Prop} (H :
    cnd x42 (
     A16_7 x1 true M Q) (
     adS x1 fun a15' =>
     onS (M.intAt .i64 a15'.block (a15'.off + 2)) fun x16' =>
     A16_7 x1 ((x16'.tmod 8) != 0) M Q)) :
    A16_6 x1 x42 M Q :=
  LvP.mk (cuts := K16) (sp := Z16) 900 H fun G => by kernel_rfl

theorem w16_7 {x1 : Option Addr} {x48 : Bool} {M : Mem} {Q : Value → Mem → Prop} (H :
    cnd x48 (
     A16_8 x1 true M Q) (
     adS x1 fun a17' =>
     onS (M.intAt .i64 a17'.block (a17'.off + 3)) fun x18' =>
     A16_8 x1 (decide (x18' < 8)) M Q)) :
    A16_7 x1 x48 M Q :=
  LvP.mk (cuts := K16) (sp := Z16) 900 H fun G => by kernel_rfl

theorem w16_8 {x1 : Option Addr} {x53 : Bool} {M : Mem} {Q : Value → Mem → Prop} (H :
    cnd x53 (
     A16_9 x1 true M Q) (
     adS x1 fun a19' =>
     onS (M.intAt .i64 a19'.block (a19'.off + 3)) fun x20' =>
     A16_9 x1 (decide (x20' > 256)) M Q)) :
    A16_8 x1 x53 M Q :=
  LvP.mk (cuts := K16) (sp := Z16) 900 H fun G => by kernel_rfl

theorem w16_9 {x1 : Option Addr} {x58 : Bool} {M : Mem} {Q : Value → Mem → Prop} (H :
    cnd x58 (
     A16_10 x1 true M Q) (
     adS x1 fun a21' =>
     onS (M.intAt .i64 a21'.block (a21'.off + 3)) fun x22' =>
     A16_10 x1 ((x22'.tmod 8) != 0) M Q)) :
    A16_9 x1 x58 M Q :=
  LvP.mk (cuts := K16) (sp := Z16) 900 H fun G => by kernel_rfl

theorem w16_10 {x1 : Option Addr} {x64 : Bool} {M : Mem} {Q : Value → Mem → Prop} (H :
    cnd x64 (
     A16_11 x1 true M Q) (
     adS x1 fun a23' =>
     onS (M.intAt .i64 a23'.block a23'.off) fun x24' =>
     adS x1 fun a25' =>
     onS (M.intAt .i64 a25'.block (a25'.off + 2)) fun x26' =>
     A16_11 x1 (decide ((IntKind.i64.wrap (x24' + x26')) > 256)) M Q)) :
    A16_10 x1 x64 M Q :=
  LvP.mk (cuts := K16) (sp := Z16) 900 H fun G => by kernel_rfl

theorem w16_11 {x1 : Option Addr} {x72 : Bool} {M : Mem} {Q : Value → Mem → Prop} (H :
    cnd x72 (
     A16_12 x1 true M Q) (
     adS x1 fun a27' =>
     onS (M.intAt .i64 a27'.block (a27'.off + 1)) fun x28' =>
     adS x1 fun a29' =>
     onS (M.intAt .i64 a29'.block (a29'.off + 3)) fun x30' =>
     A16_12 x1 (decide ((IntKind.i64.wrap (x28' + x30')) > 256)) M Q)) :
    A16_11 x1 x72 M Q :=
  LvP.mk (cuts := K16) (sp := Z16) 900 H fun G => by kernel_rfl

theorem w16_12 {x1 : Option Addr} {x79 : Bool} {M : Mem} {Q : Value → Mem → Prop} (H :
    cnd x79 (
     Q (.tuple #[.pointer none, .int .i64 2]) M) (
     adS x1 fun a31' =>
     onS (M.intAt .i64 a31'.block a31'.off) fun x32' =>
     onS (M.intAt .i64 a31'.block (a31'.off + 1)) fun x33' =>
     onS (M.intAt .i64 a31'.block (a31'.off + 2)) fun x34' =>
     onS (M.intAt .i64 a31'.block (a31'.off + 3)) fun x35' =>
     Q (.tuple #[.pointer (some ⟨2 * M.nb.size, 0, none⟩), .int .i64 0]) (M.new (.cells #[.int .i64 x32', .int .i64 x33', .int .i64 x34', .int .i64 x35', .slice none 0 0] 83)))) :
    A16_12 x1 x79 M Q :=
  LvP.mk (cuts := K16) (sp := Z16) 900 H fun G => by kernel_rfl


/-! ### zoetrope/zoetroperef17.side: function 34 -/
def K34 : List (List It × List Nat) := [([.rg [1,0] 7, .code [1,1]], [0, 9]), ([.rg [1,0] 11, .code [1,1]], [0, 13])]
def Z34 : List (List Nat × List Nat) := [([1,0], [7, 11, 15])]
theorem b34 : Try.prog.funcs[34]? = some Try.f34 ∧ (Orc.tab Try.prog).lookup 34 = none ∧ Try.f34.body = some (codeOf Try.f34) := ⟨by kernel_rfl, by kernel_rfl, by kernel_rfl⟩
def A34_1 (x0 : Int) (x9 : Bool) (M : Mem) (Q : Value → Mem → Prop) : Prop := LvP Try.prog Try.f34 [(0, .int .i64 x0), (9, .bool x9)] [.rg [1,0] 7, .code [1,1]] M Q
def A34_2 (x0 : Int) (x13 : Bool) (M : Mem) (Q : Value → Mem → Prop) : Prop := LvP Try.prog Try.f34 [(0, .int .i64 x0), (13, .bool x13)] [.rg [1,0] 11, .code [1,1]] M Q
theorem w34_0 {x0 : Int} {M : Mem} {Q : Value → Mem → Prop} (H :
    cnd (x0 == 8) (
     A34_1 x0 true M Q) (
     A34_1 x0 (x0 == 16) M Q)) :
    Cn Try.prog 34 #[.int .i64 x0] M Q :=
  Cn.mk (cuts := K34) (sp := Z34) 900 b34 rfl rfl H fun G => by kernel_rfl

theorem w34_1 {x0 : Int} {x9 : Bool} {M : Mem} {Q : Value → Mem → Prop} (H :
    cnd x9 (
     A34_2 x0 true M Q) (
     A34_2 x0 (x0 == 32) M Q)) :
    A34_1 x0 x9 M Q :=
  LvP.mk (cuts := K34) (sp := Z34) 900 H fun G => by kernel_rfl

theorem w34_2 {x0 : Int} {x13 : Bool} {M : Mem} {Q : Value → Mem → Prop} (H :
    cnd x13 (
     Q (.bool true) M) (
     Q (.bool (x0 == 64)) M)) :
    A34_2 x0 x13 M Q :=
  LvP.mk (cuts := K34) (sp := Z34) 900 H fun G => by kernel_rfl


/-! ### (*zoetrope/zoetroperef17.Grid).in: function 35 -/
def K35 : List (List It × List Nat) := [([.rg [1,0] 17, .code [1,1]], [0, 1, 2, 23]), ([.rg [1,0] 32, .code [1,1]], [0, 2, 38])]
def Z35 : List (List Nat × List Nat) := [([1,0], [17, 32, 47])]
theorem b35 : Try.prog.funcs[35]? = some Try.f35 ∧ (Orc.tab Try.prog).lookup 35 = none ∧ Try.f35.body = some (codeOf Try.f35) := ⟨by kernel_rfl, by kernel_rfl, by kernel_rfl⟩
def A35_1 (x0 : Option Addr) (x1 x2 : Int) (x23 : Bool) (M : Mem) (Q : Value → Mem → Prop) : Prop := LvP Try.prog Try.f35 [(0, .pointer x0), (1, .int .i64 x1), (2, .int .i64 x2), (23, .bool x23)] [.rg [1,0] 17, .code [1,1]] M Q
def A35_2 (x0 : Option Addr) (x2 : Int) (x38 : Bool) (M : Mem) (Q : Value → Mem → Prop) : Prop := LvP Try.prog Try.f35 [(0, .pointer x0), (2, .int .i64 x2), (38, .bool x38)] [.rg [1,0] 32, .code [1,1]] M Q
theorem w35_0 {x0 : Option Addr} {x1 x2 : Int} {M : Mem} {Q : Value → Mem → Prop} (H :
    adS x0 fun a1' =>
    onS (M.intAt .i64 a1'.block a1'.off) fun x2' =>
    cnd (decide (x1 ≥ x2')) (
     adS x0 fun a3' =>
     onS (M.intAt .i64 a3'.block (a3'.off + 1)) fun x4' =>
     A35_1 x0 x1 x2 (decide (x2 ≥ x4')) M Q) (
     A35_1 x0 x1 x2 false M Q)) :
    Cn Try.prog 35 #[.pointer x0, .int .i64 x1, .int .i64 x2] M Q :=
  Cn.mk (cuts := K35) (sp := Z35) 900 b35 rfl rfl H fun G => by kernel_rfl

theorem w35_1 {x0 : Option Addr} {x1 x2 : Int} {x23 : Bool} {M : Mem} {Q : Value → Mem → Prop} (H :
    cnd x23 (
     adS x0 fun a5' =>
     onS (M.intAt .i64 a5'.block a5'.off) fun x6' =>
     adS x0 fun a7' =>
     onS (M.intAt .i64 a7'.block (a7'.off + 2)) fun x8' =>
     A35_2 x0 x2 (decide (x1 < (IntKind.i64.wrap (x6' + x8')))) M Q) (
     A35_2 x0 x2 false M Q)) :
    A35_1 x0 x1 x2 x23 M Q :=
  LvP.mk (cuts := K35) (sp := Z35) 900 H fun G => by kernel_rfl

theorem w35_2 {x0 : Option Addr} {x2 : Int} {x38 : Bool} {M : Mem} {Q : Value → Mem → Prop} (H :
    cnd x38 (
     adS x0 fun a9' =>
     onS (M.intAt .i64 a9'.block (a9'.off + 1)) fun x10' =>
     adS x0 fun a11' =>
     onS (M.intAt .i64 a11'.block (a11'.off + 3)) fun x12' =>
     Q (.bool (decide (x2 < (IntKind.i64.wrap (x10' + x12'))))) M) (
     Q (.bool false) M)) :
    A35_2 x0 x2 x38 M Q :=
  LvP.mk (cuts := K35) (sp := Z35) 900 H fun G => by kernel_rfl


/-! ### (*zoetrope/zoetroperef17.Grid).At: function 36 -/
def K36 : List (List It × List Nat) := [([.code [1,0,1,0,0], .lp [1,0,1,0,0], .blk 0, .code [1,1]], [0, 1, 2, 6, 8]), ([.rg [1,0,1,0,0,1,0,0,1,0] 14, .code [1,0,1,0,0,1,0,0,1,1], .blk 1, .code [1,0,1,0,0,1,1], .lp [1,0,1,0,0], .blk 0, .code [1,1]], [0, 1, 2, 6, 8, 9, 39]), ([.rg [1,0,1,0,0,1,0,0,1,0] 20, .code [1,0,1,0,0,1,0,0,1,1], .blk 1, .code [1,0,1,0,0,1,1], .lp [1,0,1,0,0], .blk 0, .code [1,1]], [0, 1, 2, 6, 8, 9, 45]), ([.code [1,0,1,0,0,1,0,0,1,1], .blk 1, .code [1,0,1,0,0,1,1], .lp [1,0,1,0,0], .blk 0, .code [1,1]], [0, 1, 2, 6, 8, 9, 53])]
def Z36 : List (List Nat × List Nat) := [([1,0,1,0,0,1,0,0,1,0], [14, 20, 28])]
theorem b36 : Try.prog.funcs[36]? = some Try.f36 ∧ (Orc.tab Try.prog).lookup 36 = none ∧ Try.f36.body = some (codeOf Try.f36) := ⟨by kernel_rfl, by kernel_rfl, by kernel_rfl⟩
def A36_1 (x0 : Option Addr) (x1 x2 : Int) (x6 : Option Addr) (x8 : Int) (M : Mem) (Q : Value → Mem → Prop) : Prop := LvP Try.prog Try.f36 [(0, .pointer x0), (1, .int .i64 x1), (2, .int .i64 x2), (6, .pointer x6), (8, .int .i64 x8)] [.code [1,0,1,0,0], .lp [1,0,1,0,0], .blk 0, .code [1,1]] M Q
def A36_2 (x0 : Option Addr) (x1 x2 : Int) (x6 : Option Addr) (x8 : Int) (x9 : Option Addr) (x39 : Bool) (M : Mem) (Q : Value → Mem → Prop) : Prop := LvP Try.prog Try.f36 [(0, .pointer x0), (1, .int .i64 x1), (2, .int .i64 x2), (6, .pointer x6), (8, .int .i64 x8), (9, .pointer x9), (39, .bool x39)] [.rg [1,0,1,0,0,1,0,0,1,0] 14, .code [1,0,1,0,0,1,0,0,1,1], .blk 1, .code [1,0,1,0,0,1,1], .lp [1,0,1,0,0], .blk 0, .code [1,1]] M Q
def A36_3 (x0 : Option Addr) (x1 x2 : Int) (x6 : Option Addr) (x8 : Int) (x9 : Option Addr) (x45 : Bool) (M : Mem) (Q : Value → Mem → Prop) : Prop := LvP Try.prog Try.f36 [(0, .pointer x0), (1, .int .i64 x1), (2, .int .i64 x2), (6, .pointer x6), (8, .int .i64 x8), (9, .pointer x9), (45, .bool x45)] [.rg [1,0,1,0,0,1,0,0,1,0] 20, .code [1,0,1,0,0,1,0,0,1,1], .blk 1, .code [1,0,1,0,0,1,1], .lp [1,0,1,0,0], .blk 0, .code [1,1]] M Q
def A36_4 (x0 : Option Addr) (x1 x2 : Int) (x6 : Option Addr) (x8 : Int) (x9 : Option Addr) (x53 : Bool) (M : Mem) (Q : Value → Mem → Prop) : Prop := LvP Try.prog Try.f36 [(0, .pointer x0), (1, .int .i64 x1), (2, .int .i64 x2), (6, .pointer x6), (8, .int .i64 x8), (9, .pointer x9), (53, .bool x53)] [.code [1,0,1,0,0,1,0,0,1,1], .blk 1, .code [1,0,1,0,0,1,1], .lp [1,0,1,0,0], .blk 0, .code [1,1]] M Q
theorem w36_0 {x0 : Option Addr} {x1 x2 : Int} {M : Mem} {Q : Value → Mem → Prop} (H :
    A36_1 x0 x1 x2 (some ⟨2 * M.nb.size, 0, none⟩) 0 (M.new (.cells #[.int .i64 0, .int .i64 0, .int .i64 0, .int .i64 0, .bool false, .bool false, .int .i64 0, .int .i64 0, .int .i64 0, .int .i64 0, .int .i64 0, .int .i64 0, .int .i64 0, .bool false, .int .i64 0, .int .i64 0, .int .i64 0, .int .i64 0, .int .i64 0, .int .i64 0, .int .i64 0, .int .i64 0, .bool false] 27)) Q) :
    Cn Try.prog 36 #[.pointer x0, .int .i64 x1, .int .i64 x2] M Q :=
  Cn.mk (cuts := K36) (sp := Z36) 900 b36 rfl rfl H fun G => by kernel_rfl

theorem w36_1 {x0 : Option Addr} {x1 x2 : Int} {x6 : Option Addr} {x8 : Int} {M : Mem} {Q : Value → Mem → Prop} (H :
    adS x0 fun a1' =>
    onS (M.slAt a1'.block (a1'.off + 4)) fun s2' =>
    cnd (decide (x8 < ((s2'.2.1 : Int)))) (
     adS x0 fun a3' =>
     onS (M.slAt a3'.block (a3'.off + 4)) fun s4' =>
     ixS (idxA s4'.1 (s4'.2.1) 23 x8) fun a5' =>
     ldP tyZpF0 M a5'.block a5'.off fun vs6' =>
     stP (some 23) vs6'.toArray (M.new (.cells #[.int .i64 0, .int .i64 0, .int .i64 0, .int .i64 0, .bool false, .bool false, .int .i64 0, .int .i64 0, .int .i64 0, .int .i64 0, .int .i64 0, .int .i64 0, .int .i64 0, .bool false, .int .i64 0, .int .i64 0, .int .i64 0, .int .i64 0, .int .i64 0, .int .i64 0, .int .i64 0, .int .i64 0, .bool false] 27)) (2 * M.nb.size) 0 fun M7' =>
     onS (M7'.intAt .i64 (2 * M.nb.size) 0) fun x8' =>
     cnd (decide (x1 ≥ x8')) (
      onS (M7'.intAt .i64 (2 * M.nb.size) 0) fun x9' =>
      onS (M7'.intAt .i64 (2 * M.nb.size) (0 + 2)) fun x10' =>
      A36_2 x0 x1 x2 x6 x8 (some ⟨2 * M.nb.size, 0, none⟩) (decide (x1 < (IntKind.i64.wrap (x9' + x10')))) M7' Q) (
      A36_2 x0 x1 x2 x6 x8 (some ⟨2 * M.nb.size, 0, none⟩) false M7' Q)) (
     adS x6 fun a11' =>
     stP (some 23) #[.int .i64 0, .int .i64 0, .int .i64 0, .int .i64 0, .bool false, .bool false, .int .i64 0, .int .i64 0, .int .i64 0, .int .i64 0, .int .i64 0, .int .i64 0, .int .i64 0, .bool false, .int .i64 0, .int .i64 0, .int .i64 0, .int .i64 0, .int .i64 0, .int .i64 0, .int .i64 0, .int .i64 0, .bool false] M a11'.block a11'.off fun M12' =>
     adS x6 fun a13' =>
     ldP tyZpF0 M12' a13'.block a13'.off fun vs14' =>
     Q (.tuple #[.agg vs14'.toArray, .bool false]) M12')) :
    A36_1 x0 x1 x2 x6 x8 M Q :=
  LvP.mk (cuts := K36) (sp := Z36) 900 H fun G => by kernel_rfl

theorem w36_2 {x0 : Option Addr} {x1 x2 : Int} {x6 : Option Addr} {x8 : Int} {x9 : Option Addr} {x39 : Bool} {M : Mem} {Q : Value → Mem → Prop} (H :
    cnd x39 (
     adS x9 fun a15' =>
     onS (M.intAt .i64 a15'.block (a15'.off + 1)) fun x16' =>
     A36_3 x0 x1 x2 x6 x8 x9 (decide (x2 ≥ x16')) M Q) (
     A36_3 x0 x1 x2 x6 x8 x9 false M Q)) :
    A36_2 x0 x1 x2 x6 x8 x9 x39 M Q :=
  LvP.mk (cuts := K36) (sp := Z36) 900 H fun G => by kernel_rfl

theorem w36_3 {x0 : Option Addr} {x1 x2 : Int} {x6 : Option Addr} {x8 : Int} {x9 : Option Addr} {x45 : Bool} {M : Mem} {Q : Value → Mem → Prop} (H :
    cnd x45 (
     adS x9 fun a17' =>
     onS (M.intAt .i64 a17'.block (a17'.off + 1)) fun x18' =>
     adS x9 fun a19' =>
     onS (M.intAt .i64 a19'.block (a19'.off + 3)) fun x20' =>
     A36_4 x0 x1 x2 x6 x8 x9 (decide (x2 < (IntKind.i64.wrap (x18' + x20')))) M Q) (
     A36_4 x0 x1 x2 x6 x8 x9 false M Q)) :
    A36_3 x0 x1 x2 x6 x8 x9 x45 M Q :=
  LvP.mk (cuts := K36) (sp := Z36) 900 H fun G => by kernel_rfl

theorem w36_4 {x0 : Option Addr} {x1 x2 : Int} {x6 : Option Addr} {x8 : Int} {x9 : Option Addr} {x53 : Bool} {M : Mem} {Q : Value → Mem → Prop} (H :
    cnd x53 (
     adS x9 fun a21' =>
     ldP tyZpF0 M a21'.block a21'.off fun vs22' =>
     adS x6 fun a23' =>
     stP (some 23) vs22'.toArray M a23'.block a23'.off fun M24' =>
     adS x6 fun a25' =>
     ldP tyZpF0 M24' a25'.block a25'.off fun vs26' =>
     Q (.tuple #[.agg vs26'.toArray, .bool true]) M24') (
     A36_1 x0 x1 x2 x6 (IntKind.i64.wrap (x8 + 1)) M Q)) :
    A36_4 x0 x1 x2 x6 x8 x9 x53 M Q :=
  LvP.mk (cuts := K36) (sp := Z36) 900 H fun G => by kernel_rfl


/-! ### zoetrope/zoetroperef17.Same: function 19 -/
def K19 : List (List It × List Nat) := [([.code [1,1,0,1,0,0], .lp [1,1,0,1,0,0], .blk 0, .code [1,1,1]], [0, 1, 5])]
def Z19 : List (List Nat × List Nat) := []
theorem b19 : Try.prog.funcs[19]? = some Try.f19 ∧ (Orc.tab Try.prog).lookup 19 = none ∧ Try.f19.body = some (codeOf Try.f19) := ⟨by kernel_rfl, by kernel_rfl, by kernel_rfl⟩
def A19_1 (Ax0 : Option Addr) (lx0 cx0 : Nat) (Ax1 : Option Addr) (lx1 cx1 : Nat) (x5 : Int) (M : Mem) (Q : Value → Mem → Prop) : Prop := LvP Try.prog Try.f19 [(0, .slice Ax0 lx0 cx0), (1, .slice Ax1 lx1 cx1), (5, .int .i64 x5)] [.code [1,1,0,1,0,0], .lp [1,1,0,1,0,0], .blk 0, .code [1,1,1]] M Q
theorem w19_0 {Ax0 : Option Addr} {lx0 cx0 : Nat} {Ax1 : Option Addr} {lx1 cx1 : Nat} {M : Mem} {Q : Value → Mem → Prop} (H :
    cnd (((lx0 : Int)) != ((lx1 : Int))) (
     Q (.bool false) M) (
     A19_1 Ax0 lx0 cx0 Ax1 lx1 cx1 0 M Q)) :
    Cn Try.prog 19 #[.slice Ax0 lx0 cx0, .slice Ax1 lx1 cx1] M Q :=
  Cn.mk (cuts := K19) (sp := Z19) 900 b19 rfl rfl H fun G => by kernel_rfl

theorem w19_1 {Ax0 : Option Addr} {lx0 cx0 : Nat} {Ax1 : Option Addr} {lx1 cx1 : Nat} {x5 : Int} {M : Mem} {Q : Value → Mem → Prop} (H :
    cnd (decide (x5 < ((lx0 : Int)))) (
     ixS (idxA Ax0 lx0 23 x5) fun a1' =>
     ldP tyZpF0 M a1'.block a1'.off fun vs2' =>
     ixS (idxA Ax1 lx1 23 x5) fun a3' =>
     ldP tyZpF0 M a3'.block a3'.off fun vs4' =>
     puS (binV Try.prog .neq 27 27 (.agg vs2'.toArray) (.agg vs4'.toArray)) fun v5' =>
     tyS (asB v5') fun b6' =>
     cnd b6' (
      Q (.bool false) M) (
      A19_1 Ax0 lx0 cx0 Ax1 lx1 cx1 (IntKind.i64.wrap (x5 + 1)) M Q)) (
     Q (.bool true) M)) :
    A19_1 Ax0 lx0 cx0 Ax1 lx1 cx1 x5 M Q :=
  LvP.mk (cuts := K19) (sp := Z19) 900 H fun G => by kernel_rfl


/-! ### (*zoetrope/zoetroperef17.Grid).Blocks: function 20 -/
def K20 : List (List It × List Nat) := []
def Z20 : List (List Nat × List Nat) := []
theorem b20 : Try.prog.funcs[20]? = some Try.f20 ∧ (Orc.tab Try.prog).lookup 20 = none ∧ Try.f20.body = some (codeOf Try.f20) := ⟨by kernel_rfl, by kernel_rfl, by kernel_rfl⟩
theorem w20_0 {x0 : Option Addr} {M : Mem} {Q : Value → Mem → Prop} (H :
    adS x0 fun a1' =>
    onS (M.slAt a1'.block (a1'.off + 4)) fun s2' =>
    meS (appendP Try.prog #[43, 43] (.slice none 0 0) (.slice s2'.1 (s2'.2.1) (s2'.2.2)) M) fun r3' =>
    tyS (asS r3'.1) fun s4' =>
    Q (.slice s4'.1 (s4'.2.1) (s4'.2.2)) r3'.2) :
    Cn Try.prog 20 #[.pointer x0] M Q :=
  Cn.mk (cuts := K20) (sp := Z20) 900 b20 rfl rfl H fun G => by kernel_rfl


end Go.Zt

/- Layer 17: the document's grid: New, side, in, At, Same, Blocks. -/
set_option linter.unusedSimpArgs false
set_option linter.unusedVariables false
set_option maxRecDepth 100000
namespace Go.Zt
open Go Go.Sim Go.Proofs Go.RowKit

def RfAt (M : Mem) (j : Nat) (t : Tl) (A : Option Addr) (n c : Nat) : Prop := M.nb[j]? = some (.cells #[.int .i64 t.x, .int .i64 t.y, .int .i64 t.w, .int .i64 t.h, .slice A n c] 83)
structure Rf (V : Nat → Prop) (M : Mem) (j : Nat) (t : Tl) (L : List Bk) : Prop where
  may : t.may = true
  out : ¬ V j
  ok : ∀ b ∈ L, b.ok t = true
  len : L.length ≤ 1000
  ex : ∃ A c, RfAt M j t A L.length c ∧ Own V M 27 A (c * 23) (Bks L) ∧ L.length ≤ c
theorem Rf.chg {V T : Nat → Prop} {M N : Mem} {j : Nat} {t : Tl} {L : List Bk} (G : Rf V M j t L) (C : Chg T M N) (hT : ∀ i, i < M.nb.size → V i ∨ i = j → ¬ T i) : Rf V N j t L := by
  obtain ⟨A, c, h1, h2, h3⟩ := G.ex
  exact ⟨G.may, G.out, G.ok, G.len, A, c, at_chg h1 C (hT j (lt_of_at h1) (.inr rfl)), h2.chg C fun i hi hv => hT i hi (.inl hv), h3⟩
theorem Rf.keep {V : Nat → Prop} {M N : Mem} {j : Nat} {t : Tl} {L : List Bk} (G : Rf V M j t L) (K : Keep M N) : Rf V N j t L := G.chg K fun _ _ _ h => h
theorem cA4 {c : Bool} {X : Prop} (F : Bool → Prop) (b : Bool) (h : F (c && b)) (k : F b → X) : cnd c X (F false) := by
  cases c
  · exact h
  · exact k h
theorem ixldF {M : Mem} {A : Option Addr} {L : List Bk} (hR : Row M A (Bks L)) {n i : Nat} {z : Int} {b : Bk} (hz : z = (i : Int)) (hn : i < n) (hb : L[i]? = some b) {tys : List Sc} {p : List Value → Prop} (hf : fitL tys b.cs.toList = true) (k : p b.cs.toList) :
    ixS (idxA A n 23 z) fun a => ldP tys M a.block a.off p := by
  obtain ⟨hi, rfl⟩ := List.getElem?_eq_some_iff.1 hb
  obtain ⟨a, e1, e2⟩ := Bks.elt hR hz hn hi hf k
  exact ix e1 e2
theorem nq27 (a b : Bk) : binV Try.prog .neq 27 27 (.agg a.cs) (.agg b.cs) = some (.bool !(decide (a = b))) := by
  obtain ⟨z, h1, h2, h3⟩ := binV_eqA (P := Try.prog) (k := 5) (t := 27) (tb := 27) (xs := a.cs.toList) (ys := b.cs.toList) (by decide) (by kernel_rfl) (by kernel_rfl) (by kernel_rfl) (by kernel_rfl) (by kernel_rfl) rfl rfl
  have h2' : binV Try.prog .neq 27 27 (.agg a.cs) (.agg b.cs) = some (.bool !z) := h2
  have : z = decide (a = b) := by
    rw [Bool.eq_iff_iff, h3, decide_eq_true_eq]
    cases a
    cases b
    simp
  rw [h2', this]
section
variable {V : Nat → Prop} {M : Mem} {j : Nat} {t : Tl} {L : List Bk} {x y : Int}
set_option maxHeartbeats 1000000 in
theorem c16 (hf : M.floor ≤ M.nb.size) (hr : i64R t.x ∧ i64R t.y ∧ i64R t.w ∧ i64R t.h) : Cn Try.prog 16 #[.agg #[.int .i64 t.x, .int .i64 t.y, .int .i64 t.w, .int .i64 t.h]] M fun v N => Keep M N ∧ if t.may = true then ∃ j, M.nb.size ≤ j ∧ j < N.nb.size ∧ v = .tuple #[PtrB j, .int .i64 0] ∧ RfAt N j t none 0 0 else v = .tuple #[.pointer none, .int .i64 2] := by
  have s := Mem.new_at M (.cells #[.int .i64 t.x, .int .i64 t.y, .int .i64 t.w, .int .i64 t.h] 35)
  have K1 : Keep M (M.new (.cells #[.int .i64 t.x, .int .i64 t.y, .int .i64 t.w, .int .i64 t.h] 35)) := .new _ _
  have z1 := Mem.new_size M (.cells #[.int .i64 t.x, .int .i64 t.y, .int .i64 t.w, .int .i64 t.h] 35)
  refine w16_0 ?_
  generalize M.new (.cells #[.int .i64 t.x, .int .i64 t.y, .int .i64 t.w, .int .i64 t.h] 35) = M1 at s K1 z1 ⊢
  generalize hQ : (fun v N => Keep M N ∧ if t.may = true then ∃ j, M.nb.size ≤ j ∧ j < N.nb.size ∧ v = .tuple #[PtrB j, .int .i64 0] ∧ RfAt N j t none 0 0 else v = .tuple #[.pointer none, .int .i64 2] : Value → Mem → Prop) = Q
  have hm : t.may = true ↔ (0 ≤ t.x ∧ t.x ≤ 192 ∧ t.x % 64 = 0 ∧ 8 ≤ t.w ∧ t.w ≤ 256 ∧ t.w % 8 = 0 ∧ t.x + t.w ≤ 256) ∧ (0 ≤ t.y ∧ t.y ≤ 192 ∧ t.y % 64 = 0 ∧ 8 ≤ t.h ∧ t.h ≤ 256 ∧ t.h % 8 = 0 ∧ t.y + t.h ≤ 256) := by
    unfold Tl.may spanB
    rw [Bool.and_eq_true, decide_eq_true_eq, decide_eq_true_eq]
  have t1 : t.x.tmod 64 = 0 ↔ t.x % 64 = 0 := tmod_eq 64 (by decide)
  have t2 : t.y.tmod 64 = 0 ↔ t.y % 64 = 0 := tmod_eq 64 (by decide)
  have t3 : t.w.tmod 8 = 0 ↔ t.w % 8 = 0 := tmod_eq 8 (by decide)
  have t4 : t.h.tmod 8 = 0 ↔ t.h % 8 = 0 := tmod_eq 8 (by decide)
  unfold i64R at hr
  have bad : ¬ (t.may = true) → Q (.tuple #[.pointer none, .int .i64 2]) M1 := fun h => by
    subst hQ
    refine ⟨K1, ?_⟩
    rw [if_neg h]
  have k12 : ∀ z : Bool, (z = true ↔ ¬ (t.may = true)) → A16_12 (some ⟨2 * M.nb.size, 0, none⟩) z M1 Q := by
    intro z hz
    cases z with
    | true => exact w16_12 (cT rfl (bad (hz.1 rfl)))
    | false =>
      have hy : t.may = true := by
        cases h : t.may with
        | true => rfl
        | false => exact absurd (hz.2 (by rw [h]; simp)) (by simp)
      refine w16_12 (cF rfl (ad rfl (on (int_of (i := 0) s rfl) (on (int_of (i := 0 + 1) s rfl) (on (int_of (i := 0 + 2) s rfl) (on (int_of (i := 0 + 3) s rfl) ?_))))))
      subst hQ
      refine ⟨K1.trans (.new _ _), ?_⟩
      rw [if_pos hy]
      exact ⟨M1.nb.size, by omega, by rw [Mem.new_size]; omega, rfl, Mem.new_at _ _⟩
  have k5 : ∀ z : Bool, (z = true ↔ ¬ (0 ≤ t.x ∧ t.x ≤ 192 ∧ t.x % 64 = 0 ∧ 0 ≤ t.y ∧ t.y ≤ 192 ∧ t.y % 64 = 0)) → A16_5 (some ⟨2 * M.nb.size, 0, none⟩) z M1 Q := by
    intro z hz
    cases z with
    | true => exact w16_5 (cT rfl (bad (by rw [hm]; have := hz.1 rfl; omega)))
    | false =>
      have hp : 0 ≤ t.x ∧ t.x ≤ 192 ∧ t.x % 64 = 0 ∧ 0 ≤ t.y ∧ t.y ≤ 192 ∧ t.y % 64 = 0 := Classical.byContradiction fun h => absurd (hz.2 h) (by simp)
      refine w16_5 (cF rfl (ad rfl (on (int_of (i := 0 + 2) s rfl) ?_)))
      refine cO2 (c := decide (t.w > 256)) (fun z => A16_6 (some ⟨2 * M.nb.size, 0, none⟩) z M1 Q) (w16_6 ?_) fun h => ad rfl (on (int_of (i := 0 + 2) s rfl) h)
      refine cO2 (c := (t.w.tmod 8) != 0) (fun z => A16_7 (some ⟨2 * M.nb.size, 0, none⟩) z M1 Q) (w16_7 ?_) fun h => ad rfl (on (int_of (i := 0 + 2) s rfl) h)
      refine cO2 (c := decide (t.h < 8)) (fun z => A16_8 (some ⟨2 * M.nb.size, 0, none⟩) z M1 Q) (w16_8 ?_) fun h => ad rfl (on (int_of (i := 0 + 3) s rfl) h)
      refine cO2 (c := decide (t.h > 256)) (fun z => A16_9 (some ⟨2 * M.nb.size, 0, none⟩) z M1 Q) (w16_9 ?_) fun h => ad rfl (on (int_of (i := 0 + 3) s rfl) h)
      refine cO2 (c := (t.h.tmod 8) != 0) (fun z => A16_10 (some ⟨2 * M.nb.size, 0, none⟩) z M1 Q) (w16_10 ?_) fun h => ad rfl (on (int_of (i := 0 + 3) s rfl) h)
      refine cO2 (c := decide ((IntKind.i64.wrap (t.x + t.w)) > 256)) (fun z => A16_11 (some ⟨2 * M.nb.size, 0, none⟩) z M1 Q) (w16_11 ?_) fun h => ad rfl (on (int_of (i := 0) s rfl) (ad rfl (on (int_of (i := 0 + 2) s rfl) h)))
      refine cO2 (c := decide ((IntKind.i64.wrap (t.y + t.h)) > 256)) (fun z => A16_12 (some ⟨2 * M.nb.size, 0, none⟩) z M1 Q) (k12 _ ?_) fun h => ad rfl (on (int_of (i := 0 + 1) s rfl) (ad rfl (on (int_of (i := 0 + 3) s rfl) h)))
      simp only [Bool.or_eq_true, decide_eq_true_eq, bne_iff_ne, ne_eq]
      rw [hm, IntKind.wrap_i64, IntKind.wrap_i64, t3, t4]
      omega
  refine on (int_of (i := 0) s rfl) ?_
  refine cO2 (c := decide (t.x > 192)) (fun z => A16_1 (some ⟨2 * M.nb.size, 0, none⟩) z M1 Q) (w16_1 ?_) fun h => on (int_of (i := 0) s rfl) h
  refine cO2 (c := (t.x.tmod 64) != 0) (fun z => A16_2 (some ⟨2 * M.nb.size, 0, none⟩) z M1 Q) (w16_2 ?_) fun h => ad rfl (on (int_of (i := 0) s rfl) h)
  refine cO2 (c := decide (t.y < 0)) (fun z => A16_3 (some ⟨2 * M.nb.size, 0, none⟩) z M1 Q) (w16_3 ?_) fun h => ad rfl (on (int_of (i := 0 + 1) s rfl) h)
  refine cO2 (c := decide (t.y > 192)) (fun z => A16_4 (some ⟨2 * M.nb.size, 0, none⟩) z M1 Q) (w16_4 ?_) fun h => ad rfl (on (int_of (i := 0 + 1) s rfl) h)
  refine cO2 (c := (t.y.tmod 64) != 0) (fun z => A16_5 (some ⟨2 * M.nb.size, 0, none⟩) z M1 Q) (k5 _ ?_) fun h => ad rfl (on (int_of (i := 0 + 1) s rfl) h)
  simp only [Bool.or_eq_true, decide_eq_true_eq, bne_iff_ne, ne_eq]
  rw [t1, t2]
  omega
theorem c34 : Cn Try.prog 34 #[.int .i64 x] M fun v N => v = .bool (sideB x) ∧ N = M := by
  refine w34_0 (cO (fun z => A34_1 x z M _) (w34_1 (cO (fun z => A34_2 x z M _) (w34_2 ?_))))
  refine cO (fun z => (fun v N => v = Value.bool (sideB x) ∧ N = M) (.bool z) M) ⟨?_, rfl⟩
  congr 1
  unfold sideB
  rw [Bool.eq_iff_iff]
  simp only [Bool.or_eq_true, beq_iff_eq, decide_eq_true_eq]
  omega
theorem c35 {A : Option Addr} {n c : Nat} (g : RfAt M j t A n c) (hm : t.may = true) : Cn Try.prog 35 #[PtrB j, .int .i64 x, .int .i64 y] M fun v N => v = .bool (t.in x y) ∧ N = M := by
  unfold Tl.may spanB at hm
  simp only [Bool.and_eq_true, decide_eq_true_eq] at hm
  refine w35_0 (ad rfl (on (int_of (i := 0) g rfl) ?_))
  refine cA4 (fun z => A35_1 (some ⟨2 * j, 0, none⟩) x y z M _) (decide (y ≥ t.y)) (w35_1 ?_) fun h => ad rfl (on (int_of (i := 0 + 1) g rfl) h)
  refine cA4 (fun z => A35_2 (some ⟨2 * j, 0, none⟩) y z M _) (decide (x < IntKind.i64.wrap (t.x + t.w))) (w35_2 ?_) fun h => ad rfl (on (int_of (i := 0) g rfl) (ad rfl (on (int_of (i := 0 + 2) g rfl) h)))
  refine cA4 (fun z => (fun v N => v = Value.bool (t.in x y) ∧ N = M) (.bool z) M) (decide (y < IntKind.i64.wrap (t.y + t.h))) ⟨?_, rfl⟩ fun h => ad rfl (on (int_of (i := 0 + 1) g rfl) (ad rfl (on (int_of (i := 0 + 3) g rfl) h)))
  rw [i64w (x := t.x + t.w) (by omega), i64w (x := t.y + t.h) (by omega)]
  congr 1
  unfold Tl.in
  rw [Bool.eq_iff_iff]
  simp only [Bool.and_eq_true, decide_eq_true_eq]
  omega
theorem e36 {M0 : Mem} {jr : Nat} (hf : M0.floor ≤ M0.nb.size) (hj : M0.nb.size ≤ jr) :
    ∀ (q i : Nat) {M : Mem}, i + q = L.length → Keep M0 M → Rf V M j t L → M.nb[jr]? = some (.cells zB.cs 27) → atS x y L = atS x y (L.drop i) →
      A36_1 (some ⟨2 * j, 0, none⟩) x y (some ⟨2 * jr, 0, none⟩) (i : Int) M fun v N => v = atV (atS x y L) ∧ Keep M0 N
  | 0, i, M, hq, K, G, a, hd => by
    obtain ⟨A, c, g, o, _⟩ := G.ex
    have fj : M.floor ≤ jr := by rw [K.floor]; omega
    refine w36_1 (ad rfl (on (sl_of (i := 0 + 4) g rfl) (cF (decide_eq_false (show ¬ ((i : Int) < (L.length : Int)) by omega)) (ad rfl ?_))))
    refine stA (cs := zB.cs) a fj rfl rfl rfl fun M2 C2 z2 a2 => ad rfl (ldA a2 rfl ⟨?_, Keep.step K C2 fun i hi => by omega⟩)
    rw [hd, List.drop_of_length_le (by omega)]
    rfl
  | q + 1, i, M, hq, K, G, a, hd => by
    obtain ⟨A, c, g, o, _⟩ := G.ex
    have hm := G.may
    unfold Tl.may spanB at hm
    simp only [Bool.and_eq_true, decide_eq_true_eq] at hm
    have fj : M.floor ≤ jr := by rw [K.floor]; omega
    have hi : i < L.length := by omega
    have hL := G.len
    have f0 := fb hf K
    have lj := lt_of_at a
    have hb := Bk.ok_iff.1 (G.ok _ (List.getElem_mem hi))
    rw [List.drop_eq_getElem_cons hi] at hd
    refine w36_1 (ad rfl (on (sl_of (i := 0 + 4) g rfl) (cT (decide_eq_true (show (i : Int) < (L.length : Int) by omega)) (ad rfl (on (sl_of (i := 0 + 4) g rfl) (ixldF o.row rfl hi (List.getElem?_eq_getElem hi) rfl (stN (cs := L[i].cs) f0 rfl rfl rfl fun M1 K1 z1 b1 => ?_)))))))
    have K' := K.trans K1
    have e : ((((decide (x ≥ L[i].x)) && decide (x < IntKind.i64.wrap (L[i].x + L[i].w))) && decide (y ≥ L[i].y)) && decide (y < IntKind.i64.wrap (L[i].y + L[i].h))) = L[i].cov x y := by
      rw [i64w (x := L[i].x + L[i].w) (by omega), i64w (x := L[i].y + L[i].h) (by omega)]
      unfold Bk.cov
      rw [Bool.eq_iff_iff]
      simp only [Bool.and_eq_true, decide_eq_true_eq]
      omega
    have k4 : ∀ z : Bool, z = L[i].cov x y → A36_4 (some ⟨2 * j, 0, none⟩) x y (some ⟨2 * jr, 0, none⟩) (i : Int) (some ⟨2 * M.nb.size, 0, none⟩) z M1 fun v N => v = atV (atS x y L) ∧ Keep M0 N := by
      intro z hz
      cases z with
      | true =>
        refine w36_4 (cT rfl (ad rfl (ldA b1 rfl (ad rfl (stA (cs := L[i].cs) (at_keep a K1) (by rw [K1.floor]; exact fj) rfl rfl rfl fun M2 C2 z2 a2 => ad rfl (ldA a2 rfl ⟨?_, Keep.step K' C2 fun i hi => by omega⟩))))))
        rw [hd]
        unfold atS
        rw [if_pos hz.symm]
        rfl
      | false =>
        refine w36_4 (cF rfl ?_)
        rw [i64w (x := (i : Int) + 1) (by omega)]
        refine e36 hf hj q (i + 1) (by omega) K' (G.keep K1) (at_keep a K1) ?_
        rw [hd]
        conv => lhs; unfold atS
        rw [if_neg (by rw [← hz]; simp)]
    refine on (int_of (i := 0) b1 rfl) ?_
    refine cA4 (fun z => A36_2 (some ⟨2 * j, 0, none⟩) x y (some ⟨2 * jr, 0, none⟩) (i : Int) (some ⟨2 * M.nb.size, 0, none⟩) z M1 _) (decide (x < IntKind.i64.wrap (L[i].x + L[i].w))) (w36_2 ?_) fun h => on (int_of (i := 0) b1 rfl) (on (int_of (i := 0 + 2) b1 rfl) h)
    refine cA4 (fun z => A36_3 (some ⟨2 * j, 0, none⟩) x y (some ⟨2 * jr, 0, none⟩) (i : Int) (some ⟨2 * M.nb.size, 0, none⟩) z M1 _) (decide (y ≥ L[i].y)) (w36_3 ?_) fun h => ad rfl (on (int_of (i := 0 + 1) b1 rfl) h)
    exact cA4 (fun z => A36_4 (some ⟨2 * j, 0, none⟩) x y (some ⟨2 * jr, 0, none⟩) (i : Int) (some ⟨2 * M.nb.size, 0, none⟩) z M1 _) (decide (y < IntKind.i64.wrap (L[i].y + L[i].h))) (k4 _ e) fun h => ad rfl (on (int_of (i := 0 + 1) b1 rfl) (ad rfl (on (int_of (i := 0 + 3) b1 rfl) h)))
theorem c36 (hf : M.floor ≤ M.nb.size) (G : Rf V M j t L) : Cn Try.prog 36 #[PtrB j, .int .i64 x, .int .i64 y] M fun v N => v = atV (atS x y L) ∧ Keep M N :=
  w36_0 (e36 hf (Nat.le_refl _) L.length 0 (by omega) (.new _ _) (G.keep (.new _ _)) (Mem.new_at _ _) rfl)
theorem c20 (hf : M.floor ≤ M.nb.size) (G : Rf V M j t L) : Cn Try.prog 20 #[PtrB j] M fun v N => ∃ A' c', v = .slice A' L.length c' ∧ Keep M N ∧ Own (fun i => M.nb.size ≤ i) N 27 A' (c' * 23) (Bks L) ∧ L.length ≤ c' := by
  obtain ⟨A, c, g, o, _⟩ := G.ex
  have hL := G.len
  obtain ⟨A', c', M2, p, C2, O2, h2⟩ := append_own elem43 (S := fun i => M.nb.size ≤ i) (M := M) (A := none) (c := 0) (L := []) (.inl ⟨rfl, rfl, rfl⟩) (n := 0) rfl o.row (k := L.length) (cx := c) (by rw [Bks_len, Nat.mul_comm]) (Bks_one L) (fun i hi => by omega) (Nat.le_refl _) (by omega)
  rw [Nat.zero_add] at p h2
  exact w20_0 (ad rfl (on (sl_of (i := 0 + 4) g rfl) (me p (ty rfl ⟨A', c', rfl, Keep.step (.refl _) C2 fun i hi => hi, O2, h2⟩))))
theorem c19 {A B : Option Addr} {n c n' c' : Nat} (R : Row M A (Bks L)) (R' : Row M B (Bks L)) (hn : n = L.length) (hn' : n' = L.length) (hb : L.length ≤ 1000) : Cn Try.prog 19 #[.slice A n c, .slice B n' c'] M fun v N => v = .bool true ∧ N = M := by
  subst hn
  subst hn'
  have loop : ∀ (q i : Nat), i + q = L.length → A19_1 A L.length c B L.length c' (i : Int) M fun v N => v = .bool true ∧ N = M := by
    intro q
    induction q with
    | zero => exact fun i hi => w19_1 (cF (decide_eq_false (by omega)) ⟨rfl, rfl⟩)
    | succ q ih =>
      intro i hi
      have h : i < L.length := by omega
      refine w19_1 (cT (decide_eq_true (by omega)) (ixldF R rfl h (List.getElem?_eq_getElem h) rfl (ixldF R' rfl h (List.getElem?_eq_getElem h) rfl (pu (nq27 _ _) (ty rfl ?_)))))
      rw [decide_eq_true rfl]
      refine cF rfl ?_
      rw [i64w (x := (i : Int) + 1) (by omega)]
      exact ih (i + 1) (by omega)
  exact w19_0 (cF (by simp) (loop L.length 0 (by omega)))
end
end Go.Zt

/- The functions' walks: for each function and each loop a rule of what it comes to. Printed by zw2.py. -/
set_option linter.unusedVariables false
set_option maxRecDepth 100000
namespace Go.Zt
open Go Go.Sim Go.Proofs

def tyZpG0 : List Sc := [.int .i64, .int .i64, .int .i64, .int .i64, .bool, .bool, .int .i64, .int .i64, .int .i64, .int .i64, .int .i64, .int .i64, .int .i64, .bool, .int .i64, .int .i64, .int .i64, .int .i64, .int .i64, .int .i64, .int .i64, .int .i64, .bool]
/-! ### (*zoetrope/zoetroperef17.Grid).Put: function 17 -/
def K17 : List (List It × List Nat) := [([.rg [1,0,0] 11, .code [1,0,1], .code [1,1]], [0, 3, 17]), ([.rg [1,0,0] 17, .code [1,0,1], .code [1,1]], [0, 3, 23]), ([.rg [1,0,0] 23, .code [1,0,1], .code [1,1]], [0, 3, 29]), ([.rg [1,0,0] 32, .code [1,0,1], .code [1,1]], [0, 3, 38]), ([.code [1,0,1], .code [1,1]], [0, 3, 54]), ([.code [1,1,0,1,0,0], .lp [1,1,0,1,0,0], .blk 0, .code [1,1,1]], [0, 3, 5]), ([.rg [1,1,0,1,0,0,1,0,0,1,0] 19, .code [1,1,0,1,0,0,1,0,0,1,1], .blk 1, .code [1,1,0,1,0,0,1,1], .lp [1,1,0,1,0,0], .blk 0, .code [1,1,1]], [0, 3, 5, 6, 89]), ([.rg [1,1,0,1,0,0,1,0,0,1,0] 29, .code [1,1,0,1,0,0,1,0,0,1,1], .blk 1, .code [1,1,0,1,0,0,1,1], .lp [1,1,0,1,0,0], .blk 0, .code [1,1,1]], [0, 3, 5, 6, 99]), ([.code [1,1,0,1,0,0,1,0,0,1,1], .blk 1, .code [1,1,0,1,0,0,1,1], .lp [1,1,0,1,0,0], .blk 0, .code [1,1,1]], [0, 3, 5, 108])]
def Z17 : List (List Nat × List Nat) := [([1,0,0], [11, 17, 23, 32, 48]), ([1,1,0,1,0,0,1,0,0,1,0], [19, 29, 38])]
theorem b17 : Try.prog.funcs[17]? = some Try.f17 ∧ (Orc.tab Try.prog).lookup 17 = none ∧ Try.f17.body = some (codeOf Try.f17) := ⟨by kernel_rfl, by kernel_rfl, by kernel_rfl⟩
def A17_1 (x0 x3 : Option Addr) (x17 : Bool) (M : Mem) (Q : Value → Mem → Prop) : Prop := LvP Try.prog Try.f17 [(0, .pointer x0), (3, .pointer x3), (17, .bool x17)] [.rg [1,0,0] 11, .code [1,0,1], .code [1,1]] M Q
def A17_2 (x0 x3 : Option Addr) (x23 : Bool) (M : Mem) (Q : Value → Mem → Prop) : Prop := LvP Try.prog Try.f17 [(0, .pointer x0), (3, .pointer x3), (23, .bool x23)] [.rg [1,0,0] 17, .code [1,0,1], .code [1,1]] M Q
def A17_3 (x0 x3 : Option Addr) (x29 : Bool) (M : Mem) (Q : Value → Mem → Prop) : Prop := LvP Try.prog Try.f17 [(0, .pointer x0), (3, .pointer x3), (29, .bool x29)] [.rg [1,0,0] 23, .code [1,0,1], .code [1,1]] M Q
def A17_4 (x0 x3 : Option Addr) (x38 : Bool) (M : Mem) (Q : Value → Mem → Prop) : Prop := LvP Try.prog Try.f17 [(0, .pointer x0), (3, .pointer x3), (38, .bool x38)] [.rg [1,0,0] 32, .code [1,0,1], .code [1,1]] M Q
def A17_5 (x0 x3 : Option Addr) (x54 : Bool) (M : Mem) (Q : Value → Mem → Prop) : Prop := LvP Try.prog Try.f17 [(0, .pointer x0), (3, .pointer x3), (54, .bool x54)] [.code [1,0,1], .code [1,1]] M Q
def A17_6 (x0 x3 : Option Addr) (x5 : Int) (M : Mem) (Q : Value → Mem → Prop) : Prop := LvP Try.prog Try.f17 [(0, .pointer x0), (3, .pointer x3), (5, .int .i64 x5)] [.code [1,1,0,1,0,0], .lp [1,1,0,1,0,0], .blk 0, .code [1,1,1]] M Q
def A17_7 (x0 x3 : Option Addr) (x5 : Int) (x6 : Option Addr) (x89 : Bool) (M : Mem) (Q : Value → Mem → Prop) : Prop := LvP Try.prog Try.f17 [(0, .pointer x0), (3, .pointer x3), (5, .int .i64 x5), (6, .pointer x6), (89, .bool x89)] [.rg [1,1,0,1,0,0,1,0,0,1,0] 19, .code [1,1,0,1,0,0,1,0,0,1,1], .blk 1, .code [1,1,0,1,0,0,1,1], .lp [1,1,0,1,0,0], .blk 0, .code [1,1,1]] M Q
def A17_8 (x0 x3 : Option Addr) (x5 : Int) (x6 : Option Addr) (x99 : Bool) (M : Mem) (Q : Value → Mem → Prop) : Prop := LvP Try.prog Try.f17 [(0, .pointer x0), (3, .pointer x3), (5, .int .i64 x5), (6, .pointer x6), (99, .bool x99)] [.rg [1,1,0,1,0,0,1,0,0,1,0] 29, .code [1,1,0,1,0,0,1,0,0,1,1], .blk 1, .code [1,1,0,1,0,0,1,1], .lp [1,1,0,1,0,0], .blk 0, .code [1,1,1]] M Q
def A17_9 (x0 x3 : Option Addr) (x5 : Int) (x108 : Bool) (M : Mem) (Q : Value → Mem → Prop) : Prop := LvP Try.prog Try.f17 [(0, .pointer x0), (3, .pointer x3), (5, .int .i64 x5), (108, .bool x108)] [.code [1,1,0,1,0,0,1,0,0,1,1], .blk 1, .code [1,1,0,1,0,0,1,1], .lp [1,1,0,1,0,0], .blk 0, .code [1,1,1]] M Q
theorem w17_0 {x0 : Option Addr} {x1 : Array Value} {M : Mem} {Q : Value → Mem → Prop} (H :
    onS ((M.new (.cells x1 27)).intAt .i64 (2 * M.nb.size) 0) fun x1' =>
    cnd ((x1'.tmod 8) != 0) (
     A17_1 x0 (some ⟨2 * M.nb.size, 0, none⟩) true (M.new (.cells x1 27)) Q) (
     onS ((M.new (.cells x1 27)).intAt .i64 (2 * M.nb.size) (0 + 1)) fun x2' =>
     A17_1 x0 (some ⟨2 * M.nb.size, 0, none⟩) ((x2'.tmod 8) != 0) (M.new (.cells x1 27)) Q)) :
    Cn Try.prog 17 #[.pointer x0, .agg x1] M Q :=
  Cn.mk (cuts := K17) (sp := Z17) 900 b17 rfl rfl H fun G => by kernel_rfl

theorem w17_1 {x0 x3 : Option Addr} {x17 : Bool} {M : Mem} {Q : Value → Mem → Prop} (H :
    cnd x17 (
     A17_2 x0 x3 true M Q) (
     adS x3 fun a3' =>
     onS (M.intAt .i64 a3'.block (a3'.off + 2)) fun x4' =>
     Cn Try.prog 34 #[.int .i64 x4'] M fun v5' N5' =>
      tyS (asB v5') fun b6' =>
      A17_2 x0 x3 (!b6') N5' Q)) :
    A17_1 x0 x3 x17 M Q :=
  LvP.mk (cuts := K17) (sp := Z17) 900 H fun G => by kernel_rfl

theorem w17_2 {x0 x3 : Option Addr} {x23 : Bool} {M : Mem} {Q : Value → Mem → Prop} (H :
    cnd x23 (
     A17_3 x0 x3 true M Q) (
     adS x3 fun a7' =>
     onS (M.intAt .i64 a7'.block (a7'.off + 3)) fun x8' =>
     Cn Try.prog 34 #[.int .i64 x8'] M fun v9' N9' =>
      tyS (asB v9') fun b10' =>
      A17_3 x0 x3 (!b10') N9' Q)) :
    A17_2 x0 x3 x23 M Q :=
  LvP.mk (cuts := K17) (sp := Z17) 900 H fun G => by kernel_rfl

theorem w17_3 {x0 x3 : Option Addr} {x29 : Bool} {M : Mem} {Q : Value → Mem → Prop} (H :
    cnd x29 (
     A17_4 x0 x3 true M Q) (
     adS x3 fun a11' =>
     onS (M.intAt .i64 a11'.block a11'.off) fun x12' =>
     adS x3 fun a13' =>
     onS (M.intAt .i64 a13'.block (a13'.off + 1)) fun x14' =>
     Cn Try.prog 35 #[.pointer x0, .int .i64 x12', .int .i64 x14'] M fun v15' N15' =>
      tyS (asB v15') fun b16' =>
      A17_4 x0 x3 (!b16') N15' Q)) :
    A17_3 x0 x3 x29 M Q :=
  LvP.mk (cuts := K17) (sp := Z17) 900 H fun G => by kernel_rfl

theorem w17_4 {x0 x3 : Option Addr} {x38 : Bool} {M : Mem} {Q : Value → Mem → Prop} (H :
    cnd x38 (
     A17_5 x0 x3 true M Q) (
     adS x3 fun a17' =>
     onS (M.intAt .i64 a17'.block a17'.off) fun x18' =>
     adS x3 fun a19' =>
     onS (M.intAt .i64 a19'.block (a19'.off + 2)) fun x20' =>
     adS x3 fun a21' =>
     onS (M.intAt .i64 a21'.block (a21'.off + 1)) fun x22' =>
     adS x3 fun a23' =>
     onS (M.intAt .i64 a23'.block (a23'.off + 3)) fun x24' =>
     Cn Try.prog 35 #[.pointer x0, .int .i64 (IntKind.i64.wrap ((IntKind.i64.wrap (x18' + x20')) - 1)), .int .i64 (IntKind.i64.wrap ((IntKind.i64.wrap (x22' + x24')) - 1))] M fun v25' N25' =>
      tyS (asB v25') fun b26' =>
      A17_5 x0 x3 (!b26') N25' Q)) :
    A17_4 x0 x3 x38 M Q :=
  LvP.mk (cuts := K17) (sp := Z17) 900 H fun G => by kernel_rfl

theorem w17_5 {x0 x3 : Option Addr} {x54 : Bool} {M : Mem} {Q : Value → Mem → Prop} (H :
    cnd x54 (
     Q (.int .i64 2) M) (
     A17_6 x0 x3 0 M Q)) :
    A17_5 x0 x3 x54 M Q :=
  LvP.mk (cuts := K17) (sp := Z17) 900 H fun G => by kernel_rfl

theorem w17_6 {x0 x3 : Option Addr} {x5 : Int} {M : Mem} {Q : Value → Mem → Prop} (H :
    adS x0 fun a27' =>
    onS (M.slAt a27'.block (a27'.off + 4)) fun s28' =>
    cnd (decide (x5 < ((s28'.2.1 : Int)))) (
     adS x0 fun a29' =>
     onS (M.slAt a29'.block (a29'.off + 4)) fun s30' =>
     ixS (idxA s30'.1 (s30'.2.1) 23 x5) fun a31' =>
     ldP tyZpG0 M a31'.block a31'.off fun vs32' =>
     stP (some 23) vs32'.toArray (M.new (.cells #[.int .i64 0, .int .i64 0, .int .i64 0, .int .i64 0, .bool false, .bool false, .int .i64 0, .int .i64 0, .int .i64 0, .int .i64 0, .int .i64 0, .int .i64 0, .int .i64 0, .bool false, .int .i64 0, .int .i64 0, .int .i64 0, .int .i64 0, .int .i64 0, .int .i64 0, .int .i64 0, .int .i64 0, .bool false] 27)) (2 * M.nb.size) 0 fun M33' =>
     onS (M33'.intAt .i64 (2 * M.nb.size) 0) fun x34' =>
     adS x3 fun a35' =>
     onS (M33'.intAt .i64 a35'.block a35'.off) fun x36' =>
     adS x3 fun a37' =>
     onS (M33'.intAt .i64 a37'.block (a37'.off + 2)) fun x38' =>
     cnd (decide (x34' < (IntKind.i64.wrap (x36' + x38')))) (
      adS x3 fun a39' =>
      onS (M33'.intAt .i64 a39'.block a39'.off) fun x40' =>
      onS (M33'.intAt .i64 (2 * M.nb.size) 0) fun x41' =>
      onS (M33'.intAt .i64 (2 * M.nb.size) (0 + 2)) fun x42' =>
      A17_7 x0 x3 x5 (some ⟨2 * M.nb.size, 0, none⟩) (decide (x40' < (IntKind.i64.wrap (x41' + x42')))) M33' Q) (
      A17_7 x0 x3 x5 (some ⟨2 * M.nb.size, 0, none⟩) false M33' Q)) (
     adS x0 fun a43' =>
     onS (M.slAt a43'.block (a43'.off + 4)) fun s44' =>
     adS x3 fun a45' =>
     onS (M.intAt .i64 a45'.block a45'.off) fun x46' =>
     onS (M.intAt .i64 a45'.block (a45'.off + 1)) fun x47' =>
     onS (M.intAt .i64 a45'.block (a45'.off + 2)) fun x48' =>
     onS (M.intAt .i64 a45'.block (a45'.off + 3)) fun x49' =>
     onS (M.boolAt a45'.block (a45'.off + 4)) fun b50' =>
     onS (M.boolAt a45'.block (a45'.off + 5)) fun b51' =>
     onS (M.intAt .i64 a45'.block (a45'.off + 6)) fun x52' =>
     onS (M.intAt .i64 a45'.block (a45'.off + 7)) fun x53' =>
     onS (M.intAt .i64 a45'.block (a45'.off + 8)) fun x54' =>
     onS (M.intAt .i64 a45'.block (a45'.off + 9)) fun x55' =>
     onS (M.intAt .i64 a45'.block (a45'.off + 10)) fun x56' =>
     onS (M.intAt .i64 a45'.block (a45'.off + 11)) fun x57' =>
     onS (M.intAt .i64 a45'.block (a45'.off + 12)) fun x58' =>
     onS (M.boolAt a45'.block (a45'.off + 13)) fun b59' =>
     onS (M.intAt .i64 a45'.block (a45'.off + 14)) fun x60' =>
     onS (M.intAt .i64 a45'.block (a45'.off + 15)) fun x61' =>
     onS (M.intAt .i64 a45'.block (a45'.off + 16)) fun x62' =>
     onS (M.intAt .i64 a45'.block (a45'.off + 17)) fun x63' =>
     onS (M.intAt .i64 a45'.block (a45'.off + 18)) fun x64' =>
     onS (M.intAt .i64 a45'.block (a45'.off + 19)) fun x65' =>
     onS (M.intAt .i64 a45'.block (a45'.off + 20)) fun x66' =>
     onS (M.intAt .i64 a45'.block (a45'.off + 21)) fun x67' =>
     onS (M.boolAt a45'.block (a45'.off + 22)) fun b68' =>
     meS (appendP Try.prog #[43, 43] (.slice s44'.1 (s44'.2.1) (s44'.2.2)) (.slice (some ⟨2 * M.nb.size, 0, none⟩) 1 1) (M.new (.cells #[.int .i64 x46', .int .i64 x47', .int .i64 x48', .int .i64 x49', .bool b50', .bool b51', .int .i64 x52', .int .i64 x53', .int .i64 x54', .int .i64 x55', .int .i64 x56', .int .i64 x57', .int .i64 x58', .bool b59', .int .i64 x60', .int .i64 x61', .int .i64 x62', .int .i64 x63', .int .i64 x64', .int .i64 x65', .int .i64 x66', .int .i64 x67', .bool b68'] 27))) fun r69' =>
     tyS (asS r69'.1) fun s70' =>
     adS x0 fun a71' =>
     ptS (r69'.2.put a71'.block (a71'.off + 4) (.slice s70'.1 (s70'.2.1) (s70'.2.2))) fun M72' =>
     Q (.int .i64 0) M72')) :
    A17_6 x0 x3 x5 M Q :=
  LvP.mk (cuts := K17) (sp := Z17) 900 H fun G => by kernel_rfl

theorem w17_7 {x0 x3 : Option Addr} {x5 : Int} {x6 : Option Addr} {x89 : Bool} {M : Mem} {Q : Value → Mem → Prop} (H :
    cnd x89 (
     adS x6 fun a73' =>
     onS (M.intAt .i64 a73'.block (a73'.off + 1)) fun x74' =>
     adS x3 fun a75' =>
     onS (M.intAt .i64 a75'.block (a75'.off + 1)) fun x76' =>
     adS x3 fun a77' =>
     onS (M.intAt .i64 a77'.block (a77'.off + 3)) fun x78' =>
     A17_8 x0 x3 x5 x6 (decide (x74' < (IntKind.i64.wrap (x76' + x78')))) M Q) (
     A17_8 x0 x3 x5 x6 false M Q)) :
    A17_7 x0 x3 x5 x6 x89 M Q :=
  LvP.mk (cuts := K17) (sp := Z17) 900 H fun G => by kernel_rfl

theorem w17_8 {x0 x3 : Option Addr} {x5 : Int} {x6 : Option Addr} {x99 : Bool} {M : Mem} {Q : Value → Mem → Prop} (H :
    cnd x99 (
     adS x3 fun a79' =>
     onS (M.intAt .i64 a79'.block (a79'.off + 1)) fun x80' =>
     adS x6 fun a81' =>
     onS (M.intAt .i64 a81'.block (a81'.off + 1)) fun x82' =>
     adS x6 fun a83' =>
     onS (M.intAt .i64 a83'.block (a83'.off + 3)) fun x84' =>
     A17_9 x0 x3 x5 (decide (x80' < (IntKind.i64.wrap (x82' + x84')))) M Q) (
     A17_9 x0 x3 x5 false M Q)) :
    A17_8 x0 x3 x5 x6 x99 M Q :=
  LvP.mk (cuts := K17) (sp := Z17) 900 H fun G => by kernel_rfl

theorem w17_9 {x0 x3 : Option Addr} {x5 : Int} {x108 : Bool} {M : Mem} {Q : Value → Mem → Prop} (H :
    cnd x108 (
     Q (.int .i64 2) M) (
     A17_6 x0 x3 (IntKind.i64.wrap (x5 + 1)) M Q)) :
    A17_9 x0 x3 x5 x108 M Q :=
  LvP.mk (cuts := K17) (sp := Z17) 900 H fun G => by kernel_rfl


/-! ### (*zoetrope/zoetroperef17.Grid).Part: function 37 -/
def K37 : List (List It × List Nat) := [([.rg [1,0,0] 7, .code [1,0,1], .code [1,1]], [0, 1, 2, 3, 21]), ([.rg [1,0,0] 11, .code [1,0,1], .code [1,1]], [0, 1, 2, 3, 25]), ([.rg [1,0,0] 17, .code [1,0,1], .code [1,1]], [0, 1, 2, 3, 31]), ([.rg [1,0,0] 23, .code [1,0,1], .code [1,1]], [0, 1, 2, 3, 37]), ([.code [1,0,1], .code [1,1]], [0, 1, 2, 3, 43]), ([.code [1,1,1,0,1,1], .code [1,1,1,1]], [0, 1, 2, 3, 10, 58]), ([.code [1,1,1,1,0,1,1], .code [1,1,1,1,1]], [10, 75])]
def Z37 : List (List Nat × List Nat) := [([1,0,0], [7, 11, 17, 23, 29])]
theorem b37 : Try.prog.funcs[37]? = some Try.f37 ∧ (Orc.tab Try.prog).lookup 37 = none ∧ Try.f37.body = some (codeOf Try.f37) := ⟨by kernel_rfl, by kernel_rfl, by kernel_rfl⟩
def A37_1 (x0 : Option Addr) (x1 x2 x3 : Int) (x21 : Bool) (M : Mem) (Q : Value → Mem → Prop) : Prop := LvP Try.prog Try.f37 [(0, .pointer x0), (1, .int .i64 x1), (2, .int .i64 x2), (3, .int .i64 x3), (21, .bool x21)] [.rg [1,0,0] 7, .code [1,0,1], .code [1,1]] M Q
def A37_2 (x0 : Option Addr) (x1 x2 x3 : Int) (x25 : Bool) (M : Mem) (Q : Value → Mem → Prop) : Prop := LvP Try.prog Try.f37 [(0, .pointer x0), (1, .int .i64 x1), (2, .int .i64 x2), (3, .int .i64 x3), (25, .bool x25)] [.rg [1,0,0] 11, .code [1,0,1], .code [1,1]] M Q
def A37_3 (x0 : Option Addr) (x1 x2 x3 : Int) (x31 : Bool) (M : Mem) (Q : Value → Mem → Prop) : Prop := LvP Try.prog Try.f37 [(0, .pointer x0), (1, .int .i64 x1), (2, .int .i64 x2), (3, .int .i64 x3), (31, .bool x31)] [.rg [1,0,0] 17, .code [1,0,1], .code [1,1]] M Q
def A37_4 (x0 : Option Addr) (x1 x2 x3 : Int) (x37 : Bool) (M : Mem) (Q : Value → Mem → Prop) : Prop := LvP Try.prog Try.f37 [(0, .pointer x0), (1, .int .i64 x1), (2, .int .i64 x2), (3, .int .i64 x3), (37, .bool x37)] [.rg [1,0,0] 23, .code [1,0,1], .code [1,1]] M Q
def A37_5 (x0 : Option Addr) (x1 x2 x3 : Int) (x43 : Bool) (M : Mem) (Q : Value → Mem → Prop) : Prop := LvP Try.prog Try.f37 [(0, .pointer x0), (1, .int .i64 x1), (2, .int .i64 x2), (3, .int .i64 x3), (43, .bool x43)] [.code [1,0,1], .code [1,1]] M Q
def A37_6 (x0 : Option Addr) (x1 x2 x3 x10 : Int) (x58 : Bool) (M : Mem) (Q : Value → Mem → Prop) : Prop := LvP Try.prog Try.f37 [(0, .pointer x0), (1, .int .i64 x1), (2, .int .i64 x2), (3, .int .i64 x3), (10, .int .i64 x10), (58, .bool x58)] [.code [1,1,1,0,1,1], .code [1,1,1,1]] M Q
def A37_7 (x10 : Int) (x75 : Bool) (M : Mem) (Q : Value → Mem → Prop) : Prop := LvP Try.prog Try.f37 [(10, .int .i64 x10), (75, .bool x75)] [.code [1,1,1,1,0,1,1], .code [1,1,1,1,1]] M Q
theorem w37_0 {x0 : Option Addr} {x1 x2 x3 : Int} {M : Mem} {Q : Value → Mem → Prop} (H :
    cnd (x3 != 64) (
     A37_1 x0 x1 x2 x3 (x3 != 32) M Q) (
     A37_1 x0 x1 x2 x3 false M Q)) :
    Cn Try.prog 37 #[.pointer x0, .int .i64 x1, .int .i64 x2, .int .i64 x3] M Q :=
  Cn.mk (cuts := K37) (sp := Z37) 900 b37 rfl rfl H fun G => by kernel_rfl

theorem w37_1 {x0 : Option Addr} {x1 x2 x3 : Int} {x21 : Bool} {M : Mem} {Q : Value → Mem → Prop} (H :
    cnd x21 (
     A37_2 x0 x1 x2 x3 (x3 != 16) M Q) (
     A37_2 x0 x1 x2 x3 false M Q)) :
    A37_1 x0 x1 x2 x3 x21 M Q :=
  LvP.mk (cuts := K37) (sp := Z37) 900 H fun G => by kernel_rfl

theorem w37_2 {x0 : Option Addr} {x1 x2 x3 : Int} {x25 : Bool} {M : Mem} {Q : Value → Mem → Prop} (H :
    cnd x25 (
     A37_3 x0 x1 x2 x3 true M Q) (
     puS (binV Try.prog .rem 3 3 (.int .i64 x1) (.int .i64 x3)) fun v1' =>
     tyS (asI .i64 v1') fun x2' =>
     A37_3 x0 x1 x2 x3 (x2' != 0) M Q)) :
    A37_2 x0 x1 x2 x3 x25 M Q :=
  LvP.mk (cuts := K37) (sp := Z37) 900 H fun G => by kernel_rfl

theorem w37_3 {x0 : Option Addr} {x1 x2 x3 : Int} {x31 : Bool} {M : Mem} {Q : Value → Mem → Prop} (H :
    cnd x31 (
     A37_4 x0 x1 x2 x3 true M Q) (
     puS (binV Try.prog .rem 3 3 (.int .i64 x2) (.int .i64 x3)) fun v3' =>
     tyS (asI .i64 v3') fun x4' =>
     A37_4 x0 x1 x2 x3 (x4' != 0) M Q)) :
    A37_3 x0 x1 x2 x3 x31 M Q :=
  LvP.mk (cuts := K37) (sp := Z37) 900 H fun G => by kernel_rfl

theorem w37_4 {x0 : Option Addr} {x1 x2 x3 : Int} {x37 : Bool} {M : Mem} {Q : Value → Mem → Prop} (H :
    cnd x37 (
     A37_5 x0 x1 x2 x3 true M Q) (
     Cn Try.prog 35 #[.pointer x0, .int .i64 x1, .int .i64 x2] M fun v5' N5' =>
      tyS (asB v5') fun b6' =>
      A37_5 x0 x1 x2 x3 (!b6') N5' Q)) :
    A37_4 x0 x1 x2 x3 x37 M Q :=
  LvP.mk (cuts := K37) (sp := Z37) 900 H fun G => by kernel_rfl

theorem w37_5 {x0 : Option Addr} {x1 x2 x3 : Int} {x43 : Bool} {M : Mem} {Q : Value → Mem → Prop} (H :
    cnd x43 (
     Q (.tuple #[.int .i64 0, .int .i64 2]) M) (
     Cn Try.prog 36 #[.pointer x0, .int .i64 x1, .int .i64 (IntKind.i64.wrap (x2 - 1))] M fun v7' N7' =>
      tyS (asU 2 v7') fun cs8' =>
      tyS (asA 23 (cs8'.getD 0 undef)) fun cs9' =>
      asCellsP tyZpG0 0 cs9' fun vs10' =>
      tyS (asB (cs8'.getD 1 undef)) fun b11' =>
      tyS (asA 23 (.agg vs10'.toArray)) fun cs12' =>
      asCellsP tyZpG0 0 cs12' fun vs13' =>
      stP (some 23) vs13'.toArray (N7'.new (.cells #[.int .i64 0, .int .i64 0, .int .i64 0, .int .i64 0, .bool false, .bool false, .int .i64 0, .int .i64 0, .int .i64 0, .int .i64 0, .int .i64 0, .int .i64 0, .int .i64 0, .bool false, .int .i64 0, .int .i64 0, .int .i64 0, .int .i64 0, .int .i64 0, .int .i64 0, .int .i64 0, .int .i64 0, .bool false] 27)) (2 * N7'.nb.size) 0 fun M14' =>
      cnd b11' (
       onS (M14'.intAt .i64 (2 * N7'.nb.size) (0 + 2)) fun x15' =>
       A37_6 x0 x1 x2 x3 0 (decide (x15' < x3)) M14' Q) (
       A37_6 x0 x1 x2 x3 0 false M14' Q))) :
    A37_5 x0 x1 x2 x3 x43 M Q :=
  LvP.mk (cuts := K37) (sp := Z37) 900 H fun G => by kernel_rfl

theorem w37_6 {x0 : Option Addr} {x1 x2 x3 x10 : Int} {x58 : Bool} {M : Mem} {Q : Value → Mem → Prop} (H :
    cnd x58 (
     Cn Try.prog 36 #[.pointer x0, .int .i64 (IntKind.i64.wrap (x1 - 1)), .int .i64 x2] M fun v16' N16' =>
      tyS (asU 2 v16') fun cs17' =>
      tyS (asA 23 (cs17'.getD 0 undef)) fun cs18' =>
      asCellsP tyZpG0 0 cs18' fun vs19' =>
      tyS (asB (cs17'.getD 1 undef)) fun b20' =>
      tyS (asA 23 (.agg vs19'.toArray)) fun cs21' =>
      asCellsP tyZpG0 0 cs21' fun vs22' =>
      stP (some 23) vs22'.toArray (N16'.new (.cells #[.int .i64 0, .int .i64 0, .int .i64 0, .int .i64 0, .bool false, .bool false, .int .i64 0, .int .i64 0, .int .i64 0, .int .i64 0, .int .i64 0, .int .i64 0, .int .i64 0, .bool false, .int .i64 0, .int .i64 0, .int .i64 0, .int .i64 0, .int .i64 0, .int .i64 0, .int .i64 0, .int .i64 0, .bool false] 27)) (2 * N16'.nb.size) 0 fun M23' =>
      cnd b20' (
       onS (M23'.intAt .i64 (2 * N16'.nb.size) (0 + 3)) fun x24' =>
       A37_7 (IntKind.i64.wrap (x10 + 1)) (decide (x24' < x3)) M23' Q) (
       A37_7 (IntKind.i64.wrap (x10 + 1)) false M23' Q)) (
     Cn Try.prog 36 #[.pointer x0, .int .i64 (IntKind.i64.wrap (x1 - 1)), .int .i64 x2] M fun v25' N25' =>
      tyS (asU 2 v25') fun cs26' =>
      tyS (asA 23 (cs26'.getD 0 undef)) fun cs27' =>
      asCellsP tyZpG0 0 cs27' fun vs28' =>
      tyS (asB (cs26'.getD 1 undef)) fun b29' =>
      tyS (asA 23 (.agg vs28'.toArray)) fun cs30' =>
      asCellsP tyZpG0 0 cs30' fun vs31' =>
      stP (some 23) vs31'.toArray (N25'.new (.cells #[.int .i64 0, .int .i64 0, .int .i64 0, .int .i64 0, .bool false, .bool false, .int .i64 0, .int .i64 0, .int .i64 0, .int .i64 0, .int .i64 0, .int .i64 0, .int .i64 0, .bool false, .int .i64 0, .int .i64 0, .int .i64 0, .int .i64 0, .int .i64 0, .int .i64 0, .int .i64 0, .int .i64 0, .bool false] 27)) (2 * N25'.nb.size) 0 fun M32' =>
      cnd b29' (
       onS (M32'.intAt .i64 (2 * N25'.nb.size) (0 + 3)) fun x33' =>
       A37_7 x10 (decide (x33' < x3)) M32' Q) (
       A37_7 x10 false M32' Q))) :
    A37_6 x0 x1 x2 x3 x10 x58 M Q :=
  LvP.mk (cuts := K37) (sp := Z37) 900 H fun G => by kernel_rfl

theorem w37_7 {x10 : Int} {x75 : Bool} {M : Mem} {Q : Value → Mem → Prop} (H :
    cnd x75 (
     Q (.tuple #[.int .i64 (IntKind.i64.wrap (x10 + 2)), .int .i64 0]) M) (
     Q (.tuple #[.int .i64 x10, .int .i64 0]) M)) :
    A37_7 x10 x75 M Q :=
  LvP.mk (cuts := K37) (sp := Z37) 900 H fun G => by kernel_rfl


end Go.Zt

/- Layer 17: the document's grid: Put. -/
set_option linter.unusedSimpArgs false
set_option linter.unusedVariables false
set_option maxRecDepth 100000
namespace Go.Zt
open Go Go.Sim Go.Proofs Go.RowKit

def RutP (V : Nat → Prop) (M : Mem) (j : Nat) (t : Tl) (L : List Bk) (b : Bk) : Value → Mem → Prop := fun v N =>
  v = .int .i64 ((putS t L b).1 : Nat) ∧ ∃ V', (∀ i, V' i → V i ∨ (M.nb.size ≤ i ∧ i < N.nb.size)) ∧ Chg (fun i => V i ∨ i = j) M N ∧ Rf V' N j t (putS t L b).2
section
variable {V : Nat → Prop} {M N : Mem} {j jb : Nat} {t : Tl} {L : List Bk} {b : Bk}
theorem RutP.no (G : Rf V M j t L) (K : Keep M N) (hS : putS t L b = (2, L)) : RutP V M j t L b (.int .i64 2) N := by
  unfold RutP
  rw [hS]
  exact ⟨rfl, V, fun i h => .inl h, K.mono fun _ _ h => h.elim, G.keep K⟩
set_option maxHeartbeats 1000000 in
theorem e17_6 (hf : M.floor ≤ M.nb.size) (fl : ∀ i, V i ∨ i = j → M.floor ≤ i ∧ i < M.nb.size) (hL : L.length < 1000) (G0 : Rf V M j t L) (hb : b.ok t = true) (hjb : M.nb.size ≤ jb) :
    ∀ (q i : Nat) {M1 : Mem}, i + q = L.length → Keep M M1 → M1.nb[jb]? = some (.cells b.cs 27) → ((L.take i).all fun a => !a.ovl b) = true →
      A17_6 (some ⟨2 * j, 0, none⟩) (some ⟨2 * jb, 0, none⟩) (i : Int) M1 (RutP V M j t L b)
  | 0, i, M1, hq, K, ab, hall => by
    obtain ⟨A, c, g1, g2, g3⟩ := (G0.keep K).ex
    have lj := lt_of_at g1
    have zK := K.size
    rw [List.take_of_length_le (by omega)] at hall
    refine w17_6 (ad rfl (on (sl_of (i := 0 + 4) g1 rfl) (cF (decide_eq_false (show ¬ ((i : Int) < (L.length : Int)) by omega)) (ad rfl (on (sl_of (i := 0 + 4) g1 rfl) (ad rfl (on23 (bkAt ab) ?_)))))))
    have X := Row.new M1 27 b.cs.toList
    have K2 : Keep M1 (M1.new (.cells b.cs.toList.toArray 27)) := .new _ _
    have z2 := Mem.new_size M1 (.cells b.cs.toList.toArray 27)
    have lb : b.cs.toList.length = 1 * 23 := rfl
    have fM1 : M1.floor = M.floor := K.floor
    obtain ⟨A', c', M2, p, C2, O2, h2⟩ := append_own elem43 (S := fun i => V i ∨ M1.nb.size ≤ i) ((g2.chg K2 fun _ _ _ h => h).mono fun i _ h => .inl h) (n := L.length) (by rw [Bks_len, Nat.mul_comm]) X (k := 1) (cx := 1) lb rfl (fun i hi => by
      rw [K2.floor, fM1]
      rcases hi with h | h
      · exact (fl i (.inl h)).1
      · omega) (.inr (by rw [z2]; omega)) (by omega)
    refine me p (ty rfl (ad rfl ?_))
    have C12 : Chg (fun i => V i ∨ M1.nb.size ≤ i) M1 M2 := (K2.mono fun _ _ h => h.elim).trans C2
    have z12 := C12.size
    have g1' := at_chg g1 C12 fun h => h.elim G0.out fun h => by omega
    obtain ⟨M3, p3, C3, z3, a3⟩ := put1 (0 + 4) (.slice A' (L.length + 1) c') g1' (by rw [C12.floor, fM1]; exact (fl j (.inr rfl)).1) (show 4 < 5 by decide) rfl
    refine pt p3 ?_
    have hS : putS t L b = (0, L ++ [b]) := by unfold putS; rw [hb, hall]; rfl
    have CC : Chg (fun i => V i ∨ i = j) M M3 := by
      refine ((K.mono fun _ _ h => h.elim).trans ⟨C12.base, C12.floor, C12.size, fun i hi hn => C12.same i hi fun h => ?_⟩).trans (C3.mono fun i _ h => .inr h)
      rcases h with h | h
      · exact hn (.inl h)
      · omega
    unfold RutP
    rw [hS]
    have ll : (L ++ [b]).length = L.length + 1 := by simp
    refine ⟨rfl, fun i => V i ∨ (M1.nb.size ≤ i ∧ i < M2.nb.size), fun i hi => hi.imp id fun q => by omega, CC, G0.may, fun h => h.elim G0.out fun q => by omega, fun a ha => ?_, by rw [ll]; omega, A', c', ?_, ?_, by rw [ll]; exact h2⟩
    · rcases List.mem_append.1 ha with h | h
      · exact G0.ok a h
      · rw [List.mem_singleton.1 h]; exact hb
    · rw [ll]; exact a3
    · have e : Bks (L ++ [b]) = Bks L ++ b.cs.toList := by simp [Bks, List.flatMap_append]
      rw [e]
      exact (O2.mono fun i hi h => h.imp id fun q => ⟨q, hi⟩).chg C3 fun i _ hv h => by
        subst h
        rcases hv with hv | hv
        · exact G0.out hv
        · omega
  | q + 1, i, M1, hq, K, ab, hall => by
    obtain ⟨A, c, g1, g2, g3⟩ := (G0.keep K).ex
    have hm := G0.may
    unfold Tl.may spanB at hm
    simp only [Bool.and_eq_true, decide_eq_true_eq] at hm
    have hi : i < L.length := by omega
    have f1 := fb hf K
    have ha := Bk.ok_iff.1 (G0.ok _ (List.getElem_mem hi))
    have hb' := Bk.ok_iff.1 hb
    refine w17_6 (ad rfl (on (sl_of (i := 0 + 4) g1 rfl) (cT (decide_eq_true (show (i : Int) < (L.length : Int) by omega)) (ad rfl (on (sl_of (i := 0 + 4) g1 rfl) (ixldF g2.row rfl hi (List.getElem?_eq_getElem hi) rfl (stN (cs := L[i].cs) f1 rfl rfl rfl fun M2 K2 z2 a2 => ?_)))))))
    have b2 := at_keep ab K2
    have T2 := K.trans K2
    have e : ((((decide (L[i].x < IntKind.i64.wrap (b.x + b.w))) && decide (b.x < IntKind.i64.wrap (L[i].x + L[i].w))) && decide (L[i].y < IntKind.i64.wrap (b.y + b.h))) && decide (b.y < IntKind.i64.wrap (L[i].y + L[i].h))) = L[i].ovl b := by
      rw [i64w (x := L[i].x + L[i].w) (by omega), i64w (x := L[i].y + L[i].h) (by omega), i64w (x := b.x + b.w) (by omega), i64w (x := b.y + b.h) (by omega)]
      unfold Bk.ovl
      rw [Bool.eq_iff_iff]
      simp only [Bool.and_eq_true, decide_eq_true_eq]
      omega
    have k9 : ∀ z : Bool, z = L[i].ovl b → A17_9 (some ⟨2 * j, 0, none⟩) (some ⟨2 * jb, 0, none⟩) (i : Int) z M2 (RutP V M j t L b) := by
      intro z hz
      cases z with
      | true =>
        refine w17_9 (cT rfl (RutP.no G0 T2 ?_))
        have : (L.all fun a => !a.ovl b) = false := by
          rw [List.all_eq_false]
          exact ⟨L[i], List.getElem_mem hi, by rw [← hz]; simp⟩
        unfold putS
        rw [this, Bool.and_false]
        rfl
      | false =>
        refine w17_9 (cF rfl ?_)
        rw [i64w (x := (i : Int) + 1) (by omega)]
        refine e17_6 hf fl hL G0 hb hjb q (i + 1) (by omega) T2 b2 ?_
        rw [List.take_succ_eq_append_getElem hi, List.all_append, hall]
        simp [← hz]
    refine on (int_of (i := 0) a2 rfl) (ad rfl (on (int_of (i := 0) b2 rfl) (ad rfl (on (int_of (i := 0 + 2) b2 rfl) ?_))))
    refine cA4 (fun z => A17_7 (some ⟨2 * j, 0, none⟩) (some ⟨2 * jb, 0, none⟩) (i : Int) (some ⟨2 * M1.nb.size, 0, none⟩) z M2 _) (decide (b.x < IntKind.i64.wrap (L[i].x + L[i].w))) (w17_7 ?_) fun h => ad rfl (on (int_of (i := 0) b2 rfl) (on (int_of (i := 0) a2 rfl) (on (int_of (i := 0 + 2) a2 rfl) h)))
    refine cA4 (fun z => A17_8 (some ⟨2 * j, 0, none⟩) (some ⟨2 * jb, 0, none⟩) (i : Int) (some ⟨2 * M1.nb.size, 0, none⟩) z M2 _) (decide (L[i].y < IntKind.i64.wrap (b.y + b.h))) (w17_8 ?_) fun h => ad rfl (on (int_of (i := 0 + 1) a2 rfl) (ad rfl (on (int_of (i := 0 + 1) b2 rfl) (ad rfl (on (int_of (i := 0 + 3) b2 rfl) h)))))
    exact cA4 (fun z => A17_9 (some ⟨2 * j, 0, none⟩) (some ⟨2 * jb, 0, none⟩) (i : Int) z M2 _) (decide (b.y < IntKind.i64.wrap (L[i].y + L[i].h))) (k9 _ e) fun h => ad rfl (on (int_of (i := 0 + 1) b2 rfl) (ad rfl (on (int_of (i := 0 + 1) a2 rfl) (ad rfl (on (int_of (i := 0 + 3) a2 rfl) h)))))
set_option maxHeartbeats 1000000 in
theorem c17 (hf : M.floor ≤ M.nb.size) (fl : ∀ i, V i ∨ i = j → M.floor ≤ i ∧ i < M.nb.size) (hL : L.length < 1000) (G : Rf V M j t L) (hr : i64R b.x ∧ i64R b.y ∧ i64R b.w ∧ i64R b.h) :
    Cn Try.prog 17 #[PtrB j, .agg b.cs] M (RutP V M j t L b) := by
  have a := Mem.new_at M (.cells b.cs 27)
  have K1 : Keep M (M.new (.cells b.cs 27)) := .new _ _
  have z1 := Mem.new_size M (.cells b.cs 27)
  refine w17_0 ?_
  generalize M.new (.cells b.cs 27) = M1 at a K1 z1 ⊢
  have f1 := fb hf K1
  have hm := G.may
  unfold Tl.may spanB at hm
  simp only [Bool.and_eq_true, decide_eq_true_eq] at hm
  obtain ⟨A, c, g1, g2, g3⟩ := (G.keep K1).ex
  have no_ : b.ok t = false → putS t L b = (2, L) := fun h => by unfold putS; rw [h]; rfl
  have b5 : b.ok t = false → A17_5 (some ⟨2 * j, 0, none⟩) (some ⟨2 * M.nb.size, 0, none⟩) true M1 (RutP V M j t L b) := fun h => w17_5 (cT rfl (RutP.no G K1 (no_ h)))
  have b4 : b.ok t = false → A17_4 (some ⟨2 * j, 0, none⟩) (some ⟨2 * M.nb.size, 0, none⟩) true M1 (RutP V M j t L b) := fun h => w17_4 (cT rfl (b5 h))
  have b3 : b.ok t = false → A17_3 (some ⟨2 * j, 0, none⟩) (some ⟨2 * M.nb.size, 0, none⟩) true M1 (RutP V M j t L b) := fun h => w17_3 (cT rfl (b4 h))
  have b2 : b.ok t = false → A17_2 (some ⟨2 * j, 0, none⟩) (some ⟨2 * M.nb.size, 0, none⟩) true M1 (RutP V M j t L b) := fun h => w17_2 (cT rfl (b3 h))
  have b1 : b.ok t = false → A17_1 (some ⟨2 * j, 0, none⟩) (some ⟨2 * M.nb.size, 0, none⟩) true M1 (RutP V M j t L b) := fun h => w17_1 (cT rfl (b2 h))
  have nok : (¬ (b.x % 8 = 0 ∧ b.y % 8 = 0) ∨ sideB b.w = false ∨ sideB b.h = false ∨ t.in b.x b.y = false ∨ t.in (b.x + b.w - 1) (b.y + b.h - 1) = false) → b.ok t = false := by
    intro h
    unfold Bk.ok
    rcases h with h | h | h | h | h
    · rw [decide_eq_false h]; rfl
    · rw [h]; simp
    · rw [h]; simp
    · rw [h]; simp
    · rw [h]; simp
  have t8 : ∀ z : Int, z.tmod 8 = 0 ↔ z % 8 = 0 := fun z => tmod_eq (a := z) 8 (by decide)
  refine on (int_of (i := 0) a rfl) (cne (fun h => b1 (nok (.inl fun q => h ((t8 _).2 q.1)))) fun hx => on (int_of (i := 0 + 1) a rfl) ?_)
  have hx8 := (t8 _).1 hx
  by_cases hy : b.y % 8 = 0
  · rw [show ((b.y.tmod 8) != 0) = false by rw [(t8 _).2 hy]; rfl]
    refine w17_1 (cF rfl (ad rfl (on (int_of (i := 0 + 2) a rfl) (Cn.eq c34 (ty rfl ?_)))))
    cases hw : sideB b.w with
    | false => exact b2 (nok (.inr (.inl hw)))
    | true =>
      refine w17_2 (cF rfl (ad rfl (on (int_of (i := 0 + 3) a rfl) (Cn.eq c34 (ty rfl ?_)))))
      cases hh : sideB b.h with
      | false => exact b3 (nok (.inr (.inr (.inl hh))))
      | true =>
        refine w17_3 (cF rfl (ad rfl (on (int_of (i := 0) a rfl) (ad rfl (on (int_of (i := 0 + 1) a rfl) (Cn.eq (c35 g1 G.may) (ty rfl ?_)))))))
        cases hi : t.in b.x b.y with
        | false => exact b4 (nok (.inr (.inr (.inr (.inl hi)))))
        | true =>
          have hi' := of_decide_eq_true hi
          have hw' := of_decide_eq_true hw
          have hh' := of_decide_eq_true hh
          have e1 : IntKind.i64.wrap (IntKind.i64.wrap (b.x + b.w) - 1) = b.x + b.w - 1 := by rw [i64w (x := b.x + b.w) (by omega), i64w (by omega)]
          have e2 : IntKind.i64.wrap (IntKind.i64.wrap (b.y + b.h) - 1) = b.y + b.h - 1 := by rw [i64w (x := b.y + b.h) (by omega), i64w (by omega)]
          refine w17_4 (cF rfl (ad rfl (on (int_of (i := 0) a rfl) (ad rfl (on (int_of (i := 0 + 2) a rfl) (ad rfl (on (int_of (i := 0 + 1) a rfl) (ad rfl (on (int_of (i := 0 + 3) a rfl) ?_)))))))))
          rw [e1, e2]
          refine Cn.eq (c35 g1 G.may) (ty rfl ?_)
          cases hi2 : t.in (b.x + b.w - 1) (b.y + b.h - 1) with
          | false => exact b5 (nok (.inr (.inr (.inr (.inr hi2)))))
          | true =>
            have hb : b.ok t = true := by unfold Bk.ok; rw [decide_eq_true ⟨hx8, hy⟩, hw, hh, hi, hi2]; rfl
            exact w17_5 (cF rfl (e17_6 hf fl hL G hb (Nat.le_refl _) L.length 0 (by omega) K1 a rfl))
  · rw [show ((b.y.tmod 8) != 0) = true from bne_iff_ne.2 fun h => hy ((t8 b.y).1 h)]
    exact b1 (nok (.inl fun q => hy q.2))
end
end Go.Zt

/- Layer 17: Part, of the program and of the document. Printed by genH.py. -/
set_option linter.unusedSimpArgs false
set_option linter.unusedVariables false
set_option maxRecDepth 100000
namespace Go.Zt
open Go Go.Sim Go.Proofs Go.RowKit

def pA (f : Bk → Int) (o : Option Bk) (s : Int) (n : Nat) : Nat := match o with | some b => if f b < s then n else 0 | none => 0
def partN (L : List Bk) (x y s : Int) : Nat := pA Bk.w (atS x (y - 1) L) s 1 + pA Bk.h (atS (x - 1) y L) s 2
def partOk (t : Tl) (x y s : Int) : Bool := decide ((s = 64 ∨ s = 32 ∨ s = 16) ∧ x % s = 0 ∧ y % s = 0) && t.in x y
def partV (L : List Bk) (t : Tl) (x y s : Int) : Value := if partOk t x y s then .tuple #[.int .i64 (partN L x y s : Nat), .int .i64 0] else .tuple #[.int .i64 0, .int .i64 2]
section
variable {V : Nat → Prop} {M : Mem} {j jm : Nat} {t : Tl} {L : List Bk} {x y s : Int}
set_option maxHeartbeats 1000000 in
theorem c21 (hf : M.floor ≤ M.nb.size) (G : Gr V M j jm t L) (hx : i64R x) (hy : i64R y) : Cn Try.prog 21 #[PtrB j, .int .i64 x, .int .i64 y, .int .i64 s] M fun v N => v = partV L t x y s ∧ Keep M N := by
  have hm := G.may
  unfold Tl.may spanB at hm
  simp only [Bool.and_eq_true, decide_eq_true_eq] at hm
  obtain ⟨A, c, es, q, g1, _⟩ := G.ex
  have b5 : partOk t x y s = false → A21_5 (some ⟨2 * j, 0, none⟩) x y s true M (fun v N => v = partV L t x y s ∧ Keep M N) := fun h => w21_5 (cT rfl ⟨by unfold partV; rw [h]; rfl, .refl _⟩)
  have b4 : partOk t x y s = false → A21_4 (some ⟨2 * j, 0, none⟩) x y s true M (fun v N => v = partV L t x y s ∧ Keep M N) := fun h => w21_4 (cT rfl (b5 h))
  have b3 : partOk t x y s = false → A21_3 (some ⟨2 * j, 0, none⟩) x y s true M (fun v N => v = partV L t x y s ∧ Keep M N) := fun h => w21_3 (cT rfl (b4 h))
  have k7 : ∀ (n m : Nat) (z : Bool) (N : Mem), Keep M N → n ≤ 1 → partOk t x y s = true → pA Bk.w (atS x (y - 1) L) s 1 = n → pA Bk.h (atS (x - 1) y L) s 2 = (if z then 2 else 0) → A21_7 (n : Int) z N (fun v N => v = partV L t x y s ∧ Keep M N) := by
    intro n m z N K hn hok h1 h2
    refine w21_7 ?_
    have e : partV L t x y s = .tuple #[.int .i64 ((n + (if z then 2 else 0) : Nat) : Int), .int .i64 0] := by unfold partV partN; rw [hok, h1, h2]; rfl
    cases z with
    | true =>
      refine cT rfl ⟨?_, K⟩
      rw [e, i64w (x := (n : Int) + 2) (by omega)]
      rfl
    | false =>
      refine cF rfl ⟨?_, K⟩
      rw [e]
      rfl
  have k6 : ∀ (z : Bool) (N : Mem), Keep M N → partOk t x y s = true → t.in x y = true → pA Bk.w (atS x (y - 1) L) s 1 = (if z then 1 else 0) → A21_6 (some ⟨2 * j, 0, none⟩) x y s 0 z N (fun v N => v = partV L t x y s ∧ Keep M N) := by
    intro z N K hok hin h1
    have hin' := of_decide_eq_true hin
    have rx : i64R (x - 1) := by unfold i64R; omega
    cases z with
    | true =>
      refine w21_6 (cT rfl ?_)
      rw [i64w (x := (0 : Int) + 1) (by omega)]
      rw [i64w (x := x - 1) (by omega)]
      refine Cn.mono (c14 (fb hf K) (G.keep K) rx hy) ?_
      rintro _ N1 ⟨rfl, K1⟩
      have T1 := K.trans K1
      cases hat : atS (x - 1) y L with
      | none =>
        refine ty rfl (ty rfl (ac0 rfl (ty rfl (ty rfl (ac0 rfl (stN (cs := zB.cs) (fb hf T1) rfl rfl rfl fun M3 K3 z3 b3 => cF rfl (k7 1 0 false M3 (T1.trans K3) (by decide) hok h1 (by rw [hat]; rfl))))))))
      | some b =>
        refine ty rfl (ty rfl (ac0 rfl (ty rfl (ty rfl (ac0 rfl (stN (cs := b.cs) (fb hf T1) rfl rfl rfl fun M3 K3 z3 b3 => cT rfl (on (int_of (i := 0 + 3) b3 rfl) (k7 1 0 _ M3 (T1.trans K3) (by decide) hok h1 ?_))))))))
        rw [hat]
        show (if b.h < s then 2 else 0) = _
        by_cases hc : b.h < s
        · rw [if_pos hc, decide_eq_true hc]; rfl
        · rw [if_neg hc, decide_eq_false hc]; rfl
    | false =>
      refine w21_6 (cF rfl ?_)
      rw [i64w (x := x - 1) (by omega)]
      refine Cn.mono (c14 (fb hf K) (G.keep K) rx hy) ?_
      rintro _ N1 ⟨rfl, K1⟩
      have T1 := K.trans K1
      cases hat : atS (x - 1) y L with
      | none =>
        refine ty rfl (ty rfl (ac0 rfl (ty rfl (ty rfl (ac0 rfl (stN (cs := zB.cs) (fb hf T1) rfl rfl rfl fun M3 K3 z3 b3 => cF rfl (k7 0 0 false M3 (T1.trans K3) (by decide) hok h1 (by rw [hat]; rfl))))))))
      | some b =>
        refine ty rfl (ty rfl (ac0 rfl (ty rfl (ty rfl (ac0 rfl (stN (cs := b.cs) (fb hf T1) rfl rfl rfl fun M3 K3 z3 b3 => cT rfl (on (int_of (i := 0 + 3) b3 rfl) (k7 0 0 _ M3 (T1.trans K3) (by decide) hok h1 ?_))))))))
        rw [hat]
        show (if b.h < s then 2 else 0) = _
        by_cases hc : b.h < s
        · rw [if_pos hc, decide_eq_true hc]; rfl
        · rw [if_neg hc, decide_eq_false hc]; rfl
  have k5 : partOk t x y s = true → t.in x y = true → A21_5 (some ⟨2 * j, 0, none⟩) x y s false M (fun v N => v = partV L t x y s ∧ Keep M N) := by
    intro hok hin
    have hin' := of_decide_eq_true hin
    have ry : i64R (y - 1) := by unfold i64R; omega
    refine w21_5 (cF rfl ?_)
    rw [i64w (x := y - 1) (by omega)]
    refine Cn.mono (c14 hf G hx ry) ?_
    rintro _ N1 ⟨rfl, K1⟩
    cases hat : atS x (y - 1) L with
    | none =>
      refine ty rfl (ty rfl (ac0 rfl (ty rfl (ty rfl (ac0 rfl (stN (cs := zB.cs) (fb hf K1) rfl rfl rfl fun M3 K3 z3 b3 => cF rfl (k6 false M3 (K1.trans K3) hok hin (by rw [hat]; rfl))))))))
    | some b =>
      refine ty rfl (ty rfl (ac0 rfl (ty rfl (ty rfl (ac0 rfl (stN (cs := b.cs) (fb hf K1) rfl rfl rfl fun M3 K3 z3 b3 => cT rfl (on (int_of (i := 0 + 2) b3 rfl) (k6 _ M3 (K1.trans K3) hok hin ?_))))))))
      rw [hat]
      show (if b.w < s then 1 else 0) = _
      by_cases hc : b.w < s
      · rw [if_pos hc, decide_eq_true hc]; rfl
      · rw [if_neg hc, decide_eq_false hc]; rfl
  have k2 : ∀ z : Bool, (z = true ↔ ¬ (s = 64 ∨ s = 32 ∨ s = 16)) → A21_2 (some ⟨2 * j, 0, none⟩) x y s z M (fun v N => v = partV L t x y s ∧ Keep M N) := by
    intro z hz
    cases z with
    | true => exact w21_2 (cT rfl (b3 (by unfold partOk; rw [decide_eq_false (fun q => hz.1 rfl q.1)]; rfl)))
    | false =>
      have hs : s = 64 ∨ s = 32 ∨ s = 16 := Classical.byContradiction fun h => absurd (hz.2 h) (by simp)
      have hs' : ((s.toNat : Nat) : Int) = s := by omega
      have tx : ∀ u : Int, u.tmod s = 0 ↔ u % s = 0 := fun u => by rw [← hs']; exact tmod_eq _ (by omega)
      refine w21_2 (cF rfl (pu (binV_rem (by omega)) (ty rfl ?_)))
      by_cases h1 : x % s = 0
      · rw [show (x.tmod s != 0) = false by rw [(tx x).2 h1]; rfl]
        refine w21_3 (cF rfl (pu (binV_rem (by omega)) (ty rfl ?_)))
        by_cases h2 : y % s = 0
        · rw [show (y.tmod s != 0) = false by rw [(tx y).2 h2]; rfl]
          refine w21_4 (cF rfl (Cn.eq (c26 g1 G.may hx hy) (ty rfl ?_)))
          cases hin : t.in x y with
          | false => exact b5 (by unfold partOk; rw [hin, Bool.and_false])
          | true => exact k5 (by unfold partOk; rw [hin, decide_eq_true ⟨hs, h1, h2⟩]; rfl) hin
        · rw [show (y.tmod s != 0) = true from bne_iff_ne.2 fun h => h2 ((tx y).1 h)]
          exact b4 (by unfold partOk; rw [decide_eq_false (fun q => h2 q.2.2)]; rfl)
      · rw [show (x.tmod s != 0) = true from bne_iff_ne.2 fun h => h1 ((tx x).1 h)]
        exact b3 (by unfold partOk; rw [decide_eq_false (fun q => h1 q.2.1)]; rfl)
  refine w21_0 (Cn.eq (c24 g1) (ty rfl (cF rfl (cA (fun z => A21_1 (some ⟨2 * j, 0, none⟩) x y s z M _) (w21_1 (cA (fun z => A21_2 (some ⟨2 * j, 0, none⟩) x y s z M _) (k2 _ ?_)))))))
  simp only [Bool.and_eq_true, bne_iff_ne, ne_eq]
  omega
set_option maxHeartbeats 1000000 in
theorem c37 (hf : M.floor ≤ M.nb.size) (G : Rf V M j t L) (hx : i64R x) (hy : i64R y) : Cn Try.prog 37 #[PtrB j, .int .i64 x, .int .i64 y, .int .i64 s] M fun v N => v = partV L t x y s ∧ Keep M N := by
  have hm := G.may
  unfold Tl.may spanB at hm
  simp only [Bool.and_eq_true, decide_eq_true_eq] at hm
  obtain ⟨A, c, g1, _⟩ := G.ex
  have b5 : partOk t x y s = false → A37_5 (some ⟨2 * j, 0, none⟩) x y s true M (fun v N => v = partV L t x y s ∧ Keep M N) := fun h => w37_5 (cT rfl ⟨by unfold partV; rw [h]; rfl, .refl _⟩)
  have b4 : partOk t x y s = false → A37_4 (some ⟨2 * j, 0, none⟩) x y s true M (fun v N => v = partV L t x y s ∧ Keep M N) := fun h => w37_4 (cT rfl (b5 h))
  have b3 : partOk t x y s = false → A37_3 (some ⟨2 * j, 0, none⟩) x y s true M (fun v N => v = partV L t x y s ∧ Keep M N) := fun h => w37_3 (cT rfl (b4 h))
  have k7 : ∀ (n m : Nat) (z : Bool) (N : Mem), Keep M N → n ≤ 1 → partOk t x y s = true → pA Bk.w (atS x (y - 1) L) s 1 = n → pA Bk.h (atS (x - 1) y L) s 2 = (if z then 2 else 0) → A37_7 (n : Int) z N (fun v N => v = partV L t x y s ∧ Keep M N) := by
    intro n m z N K hn hok h1 h2
    refine w37_7 ?_
    have e : partV L t x y s = .tuple #[.int .i64 ((n + (if z then 2 else 0) : Nat) : Int), .int .i64 0] := by unfold partV partN; rw [hok, h1, h2]; rfl
    cases z with
    | true =>
      refine cT rfl ⟨?_, K⟩
      rw [e, i64w (x := (n : Int) + 2) (by omega)]
      rfl
    | false =>
      refine cF rfl ⟨?_, K⟩
      rw [e]
      rfl
  have k6 : ∀ (z : Bool) (N : Mem), Keep M N → partOk t x y s = true → t.in x y = true → pA Bk.w (atS x (y - 1) L) s 1 = (if z then 1 else 0) → A37_6 (some ⟨2 * j, 0, none⟩) x y s 0 z N (fun v N => v = partV L t x y s ∧ Keep M N) := by
    intro z N K hok hin h1
    have hin' := of_decide_eq_true hin
    have rx : i64R (x - 1) := by unfold i64R; omega
    cases z with
    | true =>
      refine w37_6 (cT rfl ?_)
      rw [i64w (x := (0 : Int) + 1) (by omega)]
      rw [i64w (x := x - 1) (by omega)]
      refine Cn.mono (c36 (fb hf K) (G.keep K)) ?_
      rintro _ N1 ⟨rfl, K1⟩
      have T1 := K.trans K1
      cases hat : atS (x - 1) y L with
      | none =>
        refine ty rfl (ty rfl (ac0 rfl (ty rfl (ty rfl (ac0 rfl (stN (cs := zB.cs) (fb hf T1) rfl rfl rfl fun M3 K3 z3 b3 => cF rfl (k7 1 0 false M3 (T1.trans K3) (by decide) hok h1 (by rw [hat]; rfl))))))))
      | some b =>
        refine ty rfl (ty rfl (ac0 rfl (ty rfl (ty rfl (ac0 rfl (stN (cs := b.cs) (fb hf T1) rfl rfl rfl fun M3 K3 z3 b3 => cT rfl (on (int_of (i := 0 + 3) b3 rfl) (k7 1 0 _ M3 (T1.trans K3) (by decide) hok h1 ?_))))))))
        rw [hat]
        show (if b.h < s then 2 else 0) = _
        by_cases hc : b.h < s
        · rw [if_pos hc, decide_eq_true hc]; rfl
        · rw [if_neg hc, decide_eq_false hc]; rfl
    | false =>
      refine w37_6 (cF rfl ?_)
      rw [i64w (x := x - 1) (by omega)]
      refine Cn.mono (c36 (fb hf K) (G.keep K)) ?_
      rintro _ N1 ⟨rfl, K1⟩
      have T1 := K.trans K1
      cases hat : atS (x - 1) y L with
      | none =>
        refine ty rfl (ty rfl (ac0 rfl (ty rfl (ty rfl (ac0 rfl (stN (cs := zB.cs) (fb hf T1) rfl rfl rfl fun M3 K3 z3 b3 => cF rfl (k7 0 0 false M3 (T1.trans K3) (by decide) hok h1 (by rw [hat]; rfl))))))))
      | some b =>
        refine ty rfl (ty rfl (ac0 rfl (ty rfl (ty rfl (ac0 rfl (stN (cs := b.cs) (fb hf T1) rfl rfl rfl fun M3 K3 z3 b3 => cT rfl (on (int_of (i := 0 + 3) b3 rfl) (k7 0 0 _ M3 (T1.trans K3) (by decide) hok h1 ?_))))))))
        rw [hat]
        show (if b.h < s then 2 else 0) = _
        by_cases hc : b.h < s
        · rw [if_pos hc, decide_eq_true hc]; rfl
        · rw [if_neg hc, decide_eq_false hc]; rfl
  have k5 : partOk t x y s = true → t.in x y = true → A37_5 (some ⟨2 * j, 0, none⟩) x y s false M (fun v N => v = partV L t x y s ∧ Keep M N) := by
    intro hok hin
    have hin' := of_decide_eq_true hin
    have ry : i64R (y - 1) := by unfold i64R; omega
    refine w37_5 (cF rfl ?_)
    rw [i64w (x := y - 1) (by omega)]
    refine Cn.mono (c36 hf G) ?_
    rintro _ N1 ⟨rfl, K1⟩
    cases hat : atS x (y - 1) L with
    | none =>
      refine ty rfl (ty rfl (ac0 rfl (ty rfl (ty rfl (ac0 rfl (stN (cs := zB.cs) (fb hf K1) rfl rfl rfl fun M3 K3 z3 b3 => cF rfl (k6 false M3 (K1.trans K3) hok hin (by rw [hat]; rfl))))))))
    | some b =>
      refine ty rfl (ty rfl (ac0 rfl (ty rfl (ty rfl (ac0 rfl (stN (cs := b.cs) (fb hf K1) rfl rfl rfl fun M3 K3 z3 b3 => cT rfl (on (int_of (i := 0 + 2) b3 rfl) (k6 _ M3 (K1.trans K3) hok hin ?_))))))))
      rw [hat]
      show (if b.w < s then 1 else 0) = _
      by_cases hc : b.w < s
      · rw [if_pos hc, decide_eq_true hc]; rfl
      · rw [if_neg hc, decide_eq_false hc]; rfl
  have k2 : ∀ z : Bool, (z = true ↔ ¬ (s = 64 ∨ s = 32 ∨ s = 16)) → A37_2 (some ⟨2 * j, 0, none⟩) x y s z M (fun v N => v = partV L t x y s ∧ Keep M N) := by
    intro z hz
    cases z with
    | true => exact w37_2 (cT rfl (b3 (by unfold partOk; rw [decide_eq_false (fun q => hz.1 rfl q.1)]; rfl)))
    | false =>
      have hs : s = 64 ∨ s = 32 ∨ s = 16 := Classical.byContradiction fun h => absurd (hz.2 h) (by simp)
      have hs' : ((s.toNat : Nat) : Int) = s := by omega
      have tx : ∀ u : Int, u.tmod s = 0 ↔ u % s = 0 := fun u => by rw [← hs']; exact tmod_eq _ (by omega)
      refine w37_2 (cF rfl (pu (binV_rem (by omega)) (ty rfl ?_)))
      by_cases h1 : x % s = 0
      · rw [show (x.tmod s != 0) = false by rw [(tx x).2 h1]; rfl]
        refine w37_3 (cF rfl (pu (binV_rem (by omega)) (ty rfl ?_)))
        by_cases h2 : y % s = 0
        · rw [show (y.tmod s != 0) = false by rw [(tx y).2 h2]; rfl]
          refine w37_4 (cF rfl (Cn.eq (c35 g1 G.may) (ty rfl ?_)))
          cases hin : t.in x y with
          | false => exact b5 (by unfold partOk; rw [hin, Bool.and_false])
          | true => exact k5 (by unfold partOk; rw [hin, decide_eq_true ⟨hs, h1, h2⟩]; rfl) hin
        · rw [show (y.tmod s != 0) = true from bne_iff_ne.2 fun h => h2 ((tx y).1 h)]
          exact b4 (by unfold partOk; rw [decide_eq_false (fun q => h2 q.2.2)]; rfl)
      · rw [show (x.tmod s != 0) = true from bne_iff_ne.2 fun h => h1 ((tx x).1 h)]
        exact b3 (by unfold partOk; rw [decide_eq_false (fun q => h1 q.2.1)]; rfl)
  refine w37_0 (cA (fun z => A37_1 (some ⟨2 * j, 0, none⟩) x y s z M _) (w37_1 (cA (fun z => A37_2 (some ⟨2 * j, 0, none⟩) x y s z M _) (k2 _ ?_))))
  simp only [Bool.and_eq_true, bne_iff_ne, ne_eq]
  omega
end
end Go.Zt
