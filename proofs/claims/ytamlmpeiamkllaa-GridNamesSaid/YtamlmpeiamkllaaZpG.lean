/- The functions' walks: for each function and each loop a rule of what it comes to. Printed by zw2.py. -/
import Derived.Test.YtamlmpeiamkllaaProg
import Derived.Test.YtamlmpeiamkllaaZpA
import Derived.Test.YtamlmpeiamkllaaZrT
set_option linter.unusedVariables false
set_option maxRecDepth 100000
namespace Go.Zt
open Go Go.Sim Go.Proofs

def tyZpG0 : List Sc := [.int .i64, .int .i64, .int .i64, .int .i64, .bool, .bool, .int .i64, .int .i64, .int .i64, .int .i64, .int .i64, .int .i64, .int .i64, .bool, .int .i64, .int .i64, .int .i64, .int .i64, .int .i64, .int .i64, .int .i64, .int .i64, .bool]
/-! ### (*zoetrope/zoetroperef17.Grid).Put: function 17 -/
def K17 : List (List It × List Nat) := [([.rg [1,0,0] 11, .code [1,0,1], .code [1,1]], [0, 3, 17]), ([.rg [1,0,0] 17, .code [1,0,1], .code [1,1]], [0, 3, 23]), ([.rg [1,0,0] 23, .code [1,0,1], .code [1,1]], [0, 3, 29]), ([.rg [1,0,0] 32, .code [1,0,1], .code [1,1]], [0, 3, 38]), ([.code [1,0,1], .code [1,1]], [0, 3, 54]), ([.code [1,1,0,1,0,0], .lp [1,1,0,1,0,0], .blk 0, .code [1,1,1]], [0, 3, 5]), ([.rg [1,1,0,1,0,0,1,0,0,1,0] 19, .code [1,1,0,1,0,0,1,0,0,1,1], .blk 1, .code [1,1,0,1,0,0,1,1], .lp [1,1,0,1,0,0], .blk 0, .code [1,1,1]], [0, 3, 5, 6, 89]), ([.rg [1,1,0,1,0,0,1,0,0,1,0] 29, .code [1,1,0,1,0,0,1,0,0,1,1], .blk 1, .code [1,1,0,1,0,0,1,1], .lp [1,1,0,1,0,0], .blk 0, .code [1,1,1]], [0, 3, 5, 6, 99]), ([.code [1,1,0,1,0,0,1,0,0,1,1], .blk 1, .code [1,1,0,1,0,0,1,1], .lp [1,1,0,1,0,0], .blk 0, .code [1,1,1]], [0, 3, 5, 108])]
def Z17 : List (List Nat × List Nat) := [([1,0,0], [11, 17, 23, 32, 48]), ([1,1,0,1,0,0,1,0,0,1,0], [19, 29, 38])]
theorem b17 : Try.prog.funcs[17]? = some Try.f17 ∧ (Orc.tab Try.prog).lookup 17 = none ∧ Try.f17.body = some (codeOf Try.f17) := ⟨by kernel_rfl, by kernel_rfl, by kernel_rfl⟩
def A17_1 (x0 x3 : Option Addr) (x17 : Bool) (M : Mem) (Q : Value → Mem → Prop) : Prop := LvP Try.prog Try.f17 [(0, .pointer x0), (3, .pointer x3), (17, .bool x17)] [.rg [1,0,0] 11, .code [1,0,1], .code [1,1]] M Q
def A17_2 (x0 x3 : Option Addr) (x23 : Bool) (M : Mem) (Q : Value → Mem → Prop) : Prop := LvP Try.prog Try.f17 [(0, .pointer x0), (3, .pointer x3), (23, .bool x23)] [.rg [1,0,0] 17, .code [1,0,1], .code [1,1]] M Q
def A17_3 (x0 x3 : Option Addr) (x29 : Bool) (M : Mem) (Q : Value → Mem → Prop) : Prop := LvP Try.prog Try.f17 [(0, .pointer x0), (3, .pointer x3), (29, .bool x29)] [.rg [1,0,0] 23, .code [1,0,1], .code [1,1]] M Q
def A17_4 (x0 x3 : Option Addr) (x38 : Bool) (M : Mem) (Q : Value → Mem → Prop) : Prop := LvP Try.prog Try.f17 [(0, .pointer x0), (3, .pointer x3), (38, .bool x38)] [.rg [1,0,0] 32, .code [1,0,1], .code [1,1]] M Q
def A17_5 (x0 x3 : Option Addr) (x54 : Bool) (M : Mem) (Q : Value → Mem → Prop) : Prop := LvP Try.prog Try.f17 [(0, .pointer x0), (3, .pointer x3), (54, .bool x54)] [.code [1,0,1], .code [1,1]] M Q
def A17_6 (x0 x3 : Option Addr) (x5 : Int) (M : Mem) (Q : Value → Mem → Prop) : Prop := LvP Try.prog Try.f17 [(0, .pointer x0), (3, .pointer x3), (5, .int .i64 x5)] [.code [1,1,0,1,0,0], .lp [1,1,0,1,0,0], .blk 0, .code [1,1,1]] M Q
def A17_7 (x0 x3 : Option Addr) (x5 : Int) (x6 : Option Addr) (x89 : Bool) (M : Mem) (Q : Value → Mem → Prop) : Prop := LvP Try.prog Try.f17 [(0, .pointer x0), (3, .pointer x3), (5, .int .i64 x5), (6, .pointer x6), (89, .bool x89)] [.rg [1,1,0,1,0,0,1,0,0,1,0] 19, .code [1,1,0,1,0,0,1,0,0,1,1], .blk 1, .code [1,1,0,1,0,0,1,1], .lp [1,1,0,1,0,0], .blk 0, .code [1,1,1]] M Q
def A17_8 (x0 x3 : Option Addr) (x5 : Int) (x6 : Option Addr) (x99 : Bool) (M : Mem) (Q : Value → Mem → Prop) : Prop := LvP Try.prog Try.f17 [(0, .pointer x0), (3, .pointer x3), (5, .int .i64 x5), (6, .pointer x6), (99, .bool x99)] [.rg [1,1,0,1,0,0,1,0,0,1,0] 29, .code [1,1,0,1,0,0,1,0,0,1,1], .blk 1, .code [1,1,0,1,0,0,1,1], .lp [1,1,0,1,0,0], .blk 0, .code [1,1,1]] M Q
def A17_9 (x0 x3 : Option Addr) (x5 : Int) (x108 : Bool) (M : Mem) (Q : Value → Mem → Prop) : Prop := LvP Try.prog Try.f17 [(0, .pointer x0), (3, .pointer x3), (5, .int .i64 x5), (108, .bool x108)] [.code [1,1,0,1,0,0,1,0,0,1,1], .blk 1, .code [1,1,0,1,0,0,1,1], .lp [1,1,0,1,0,0], .blk 0, .code [1,1,1]] M Q
theorem w17_0 {x0 : Option Addr} {x1 : Array Value} {M : Mem} {Q : Value → Mem → Prop} (H :
    onS ((M.new (.cells x1 27)).intAt .i64 (2 * M.nb.size) 0) fun x1' =>
    cnd ((x1'.tmod 8) != 0) (
     A17_1 x0 (some ⟨2 * M.nb.size, 0, none⟩) true (M.new (.cells x1 27)) Q) (
     onS ((M.new (.cells x1 27)).intAt .i64 (2 * M.nb.size) (0 + 1)) fun x2' =>
     A17_1 x0 (some ⟨2 * M.nb.size, 0, none⟩) ((x2'.tmod 8) != 0) (M.new (.cells x1 27)) Q)) :
    Cn Try.prog 17 #[.pointer x0, .agg x1] M Q :=
  Cn.mk (cuts := K17) (sp := Z17) 900 b17 rfl rfl H fun G => by kernel_rfl

theorem w17_1 {x0 x3 : Option Addr} {x17 : Bool} {M : Mem} {Q : Value → Mem → Prop} (H :
    cnd x17 (
     A17_2 x0 x3 true M Q) (
     adS x3 fun a3' =>
     onS (M.intAt .i64 a3'.block (a3'.off + 2)) fun x4' =>
     Cn Try.prog 34 #[.int .i64 x4'] M fun v5' N5' =>
      tyS (asB v5') fun b6' =>
      A17_2 x0 x3 (!b6') N5' Q)) :
    A17_1 x0 x3 x17 M Q :=
  LvP.mk (cuts := K17) (sp := Z17) 900 H fun G => by kernel_rfl

theorem w17_2 {x0 x3 : Option Addr} {x23 : Bool} {M : Mem} {Q : Value → Mem → Prop} (H :
    cnd x23 (
     A17_3 x0 x3 true M Q) (
     adS x3 fun a7' =>
     onS (M.intAt .i64 a7'.block (a7'.off + 3)) fun x8' =>
     Cn Try.prog 34 #[.int .i64 x8'] M fun v9' N9' =>
      tyS (asB v9') fun b10' =>
      A17_3 x0 x3 (!b10') N9' Q)) :
    A17_2 x0 x3 x23 M Q :=
  LvP.mk (cuts := K17) (sp := Z17) 900 H fun G => by kernel_rfl

theorem w17_3 {x0 x3 : Option Addr} {x29 : Bool} {M : Mem} {Q : Value → Mem → Prop} (H :
    cnd x29 (
     A17_4 x0 x3 true M Q) (
     adS x3 fun a11' =>
     onS (M.intAt .i64 a11'.block a11'.off) fun x12' =>
     adS x3 fun a13' =>
     onS (M.intAt .i64 a13'.block (a13'.off + 1)) fun x14' =>
     Cn Try.prog 35 #[.pointer x0, .int .i64 x12', .int .i64 x14'] M fun v15' N15' =>
      tyS (asB v15') fun b16' =>
      A17_4 x0 x3 (!b16') N15' Q)) :
    A17_3 x0 x3 x29 M Q :=
  LvP.mk (cuts := K17) (sp := Z17) 900 H fun G => by kernel_rfl

theorem w17_4 {x0 x3 : Option Addr} {x38 : Bool} {M : Mem} {Q : Value → Mem → Prop} (H :
    cnd x38 (
     A17_5 x0 x3 true M Q) (
     adS x3 fun a17' =>
     onS (M.intAt .i64 a17'.block a17'.off) fun x18' =>
     adS x3 fun a19' =>
     onS (M.intAt .i64 a19'.block (a19'.off + 2)) fun x20' =>
     adS x3 fun a21' =>
     onS (M.intAt .i64 a21'.block (a21'.off + 1)) fun x22' =>
     adS x3 fun a23' =>
     onS (M.intAt .i64 a23'.block (a23'.off + 3)) fun x24' =>
     Cn Try.prog 35 #[.pointer x0, .int .i64 (IntKind.i64.wrap ((IntKind.i64.wrap (x18' + x20')) - 1)), .int .i64 (IntKind.i64.wrap ((IntKind.i64.wrap (x22' + x24')) - 1))] M fun v25' N25' =>
      tyS (asB v25') fun b26' =>
      A17_5 x0 x3 (!b26') N25' Q)) :
    A17_4 x0 x3 x38 M Q :=
  LvP.mk (cuts := K17) (sp := Z17) 900 H fun G => by kernel_rfl

theorem w17_5 {x0 x3 : Option Addr} {x54 : Bool} {M : Mem} {Q : Value → Mem → Prop} (H :
    cnd x54 (
     Q (.int .i64 2) M) (
     A17_6 x0 x3 0 M Q)) :
    A17_5 x0 x3 x54 M Q :=
  LvP.mk (cuts := K17) (sp := Z17) 900 H fun G => by kernel_rfl

theorem w17_6 {x0 x3 : Option Addr} {x5 : Int} {M : Mem} {Q : Value → Mem → Prop} (H :
    adS x0 fun a27' =>
    onS (M.slAt a27'.block (a27'.off + 4)) fun s28' =>
    cnd (decide (x5 < ((s28'.2.1 : Int)))) (
     adS x0 fun a29' =>
     onS (M.slAt a29'.block (a29'.off + 4)) fun s30' =>
     ixS (idxA s30'.1 (s30'.2.1) 23 x5) fun a31' =>
     ldP tyZpG0 M a31'.block a31'.off fun vs32' =>
     stP (some 23) vs32'.toArray (M.new (.cells #[.int .i64 0, .int .i64 0, .int .i64 0, .int .i64 0, .bool false, .bool false, .int .i64 0, .int .i64 0, .int .i64 0, .int .i64 0, .int .i64 0, .int .i64 0, .int .i64 0, .bool false, .int .i64 0, .int .i64 0, .int .i64 0, .int .i64 0, .int .i64 0, .int .i64 0, .int .i64 0, .int .i64 0, .bool false] 27)) (2 * M.nb.size) 0 fun M33' =>
     onS (M33'.intAt .i64 (2 * M.nb.size) 0) fun x34' =>
     adS x3 fun a35' =>
     onS (M33'.intAt .i64 a35'.block a35'.off) fun x36' =>
     adS x3 fun a37' =>
     onS (M33'.intAt .i64 a37'.block (a37'.off + 2)) fun x38' =>
     cnd (decide (x34' < (IntKind.i64.wrap (x36' + x38')))) (
      adS x3 fun a39' =>
      onS (M33'.intAt .i64 a39'.block a39'.off) fun x40' =>
      onS (M33'.intAt .i64 (2 * M.nb.size) 0) fun x41' =>
      onS (M33'.intAt .i64 (2 * M.nb.size) (0 + 2)) fun x42' =>
      A17_7 x0 x3 x5 (some ⟨2 * M.nb.size, 0, none⟩) (decide (x40' < (IntKind.i64.wrap (x41' + x42')))) M33' Q) (
      A17_7 x0 x3 x5 (some ⟨2 * M.nb.size, 0, none⟩) false M33' Q)) (
     adS x0 fun a43' =>
     onS (M.slAt a43'.block (a43'.off + 4)) fun s44' =>
     adS x3 fun a45' =>
     onS (M.intAt .i64 a45'.block a45'.off) fun x46' =>
     onS (M.intAt .i64 a45'.block (a45'.off + 1)) fun x47' =>
     onS (M.intAt .i64 a45'.block (a45'.off + 2)) fun x48' =>
     onS (M.intAt .i64 a45'.block (a45'.off + 3)) fun x49' =>
     onS (M.boolAt a45'.block (a45'.off + 4)) fun b50' =>
     onS (M.boolAt a45'.block (a45'.off + 5)) fun b51' =>
     onS (M.intAt .i64 a45'.block (a45'.off + 6)) fun x52' =>
     onS (M.intAt .i64 a45'.block (a45'.off + 7)) fun x53' =>
     onS (M.intAt .i64 a45'.block (a45'.off + 8)) fun x54' =>
     onS (M.intAt .i64 a45'.block (a45'.off + 9)) fun x55' =>
     onS (M.intAt .i64 a45'.block (a45'.off + 10)) fun x56' =>
     onS (M.intAt .i64 a45'.block (a45'.off + 11)) fun x57' =>
     onS (M.intAt .i64 a45'.block (a45'.off + 12)) fun x58' =>
     onS (M.boolAt a45'.block (a45'.off + 13)) fun b59' =>
     onS (M.intAt .i64 a45'.block (a45'.off + 14)) fun x60' =>
     onS (M.intAt .i64 a45'.block (a45'.off + 15)) fun x61' =>
     onS (M.intAt .i64 a45'.block (a45'.off + 16)) fun x62' =>
     onS (M.intAt .i64 a45'.block (a45'.off + 17)) fun x63' =>
     onS (M.intAt .i64 a45'.block (a45'.off + 18)) fun x64' =>
     onS (M.intAt .i64 a45'.block (a45'.off + 19)) fun x65' =>
     onS (M.intAt .i64 a45'.block (a45'.off + 20)) fun x66' =>
     onS (M.intAt .i64 a45'.block (a45'.off + 21)) fun x67' =>
     onS (M.boolAt a45'.block (a45'.off + 22)) fun b68' =>
     meS (appendP Try.prog #[43, 43] (.slice s44'.1 (s44'.2.1) (s44'.2.2)) (.slice (some ⟨2 * M.nb.size, 0, none⟩) 1 1) (M.new (.cells #[.int .i64 x46', .int .i64 x47', .int .i64 x48', .int .i64 x49', .bool b50', .bool b51', .int .i64 x52', .int .i64 x53', .int .i64 x54', .int .i64 x55', .int .i64 x56', .int .i64 x57', .int .i64 x58', .bool b59', .int .i64 x60', .int .i64 x61', .int .i64 x62', .int .i64 x63', .int .i64 x64', .int .i64 x65', .int .i64 x66', .int .i64 x67', .bool b68'] 27))) fun r69' =>
     tyS (asS r69'.1) fun s70' =>
     adS x0 fun a71' =>
     ptS (r69'.2.put a71'.block (a71'.off + 4) (.slice s70'.1 (s70'.2.1) (s70'.2.2))) fun M72' =>
     Q (.int .i64 0) M72')) :
    A17_6 x0 x3 x5 M Q :=
  LvP.mk (cuts := K17) (sp := Z17) 900 H fun G => by kernel_rfl

theorem w17_7 {x0 x3 : Option Addr} {x5 : Int} {x6 : Option Addr} {x89 : Bool} {M : Mem} {Q : Value → Mem → Prop} (H :
    cnd x89 (
     adS x6 fun a73' =>
     onS (M.intAt .i64 a73'.block (a73'.off + 1)) fun x74' =>
     adS x3 fun a75' =>
     onS (M.intAt .i64 a75'.block (a75'.off + 1)) fun x76' =>
     adS x3 fun a77' =>
     onS (M.intAt .i64 a77'.block (a77'.off + 3)) fun x78' =>
     A17_8 x0 x3 x5 x6 (decide (x74' < (IntKind.i64.wrap (x76' + x78')))) M Q) (
     A17_8 x0 x3 x5 x6 false M Q)) :
    A17_7 x0 x3 x5 x6 x89 M Q :=
  LvP.mk (cuts := K17) (sp := Z17) 900 H fun G => by kernel_rfl

theorem w17_8 {x0 x3 : Option Addr} {x5 : Int} {x6 : Option Addr} {x99 : Bool} {M : Mem} {Q : Value → Mem → Prop} (H :
    cnd x99 (
     adS x3 fun a79' =>
     onS (M.intAt .i64 a79'.block (a79'.off + 1)) fun x80' =>
     adS x6 fun a81' =>
     onS (M.intAt .i64 a81'.block (a81'.off + 1)) fun x82' =>
     adS x6 fun a83' =>
     onS (M.intAt .i64 a83'.block (a83'.off + 3)) fun x84' =>
     A17_9 x0 x3 x5 (decide (x80' < (IntKind.i64.wrap (x82' + x84')))) M Q) (
     A17_9 x0 x3 x5 false M Q)) :
    A17_8 x0 x3 x5 x6 x99 M Q :=
  LvP.mk (cuts := K17) (sp := Z17) 900 H fun G => by kernel_rfl

theorem w17_9 {x0 x3 : Option Addr} {x5 : Int} {x108 : Bool} {M : Mem} {Q : Value → Mem → Prop} (H :
    cnd x108 (
     Q (.int .i64 2) M) (
     A17_6 x0 x3 (IntKind.i64.wrap (x5 + 1)) M Q)) :
    A17_9 x0 x3 x5 x108 M Q :=
  LvP.mk (cuts := K17) (sp := Z17) 900 H fun G => by kernel_rfl


/-! ### (*zoetrope/zoetroperef17.Grid).Part: function 37 -/
def K37 : List (List It × List Nat) := [([.rg [1,0,0] 7, .code [1,0,1], .code [1,1]], [0, 1, 2, 3, 21]), ([.rg [1,0,0] 11, .code [1,0,1], .code [1,1]], [0, 1, 2, 3, 25]), ([.rg [1,0,0] 17, .code [1,0,1], .code [1,1]], [0, 1, 2, 3, 31]), ([.rg [1,0,0] 23, .code [1,0,1], .code [1,1]], [0, 1, 2, 3, 37]), ([.code [1,0,1], .code [1,1]], [0, 1, 2, 3, 43]), ([.code [1,1,1,0,1,1], .code [1,1,1,1]], [0, 1, 2, 3, 10, 58]), ([.code [1,1,1,1,0,1,1], .code [1,1,1,1,1]], [10, 75])]
def Z37 : List (List Nat × List Nat) := [([1,0,0], [7, 11, 17, 23, 29])]
theorem b37 : Try.prog.funcs[37]? = some Try.f37 ∧ (Orc.tab Try.prog).lookup 37 = none ∧ Try.f37.body = some (codeOf Try.f37) := ⟨by kernel_rfl, by kernel_rfl, by kernel_rfl⟩
def A37_1 (x0 : Option Addr) (x1 x2 x3 : Int) (x21 : Bool) (M : Mem) (Q : Value → Mem → Prop) : Prop := LvP Try.prog Try.f37 [(0, .pointer x0), (1, .int .i64 x1), (2, .int .i64 x2), (3, .int .i64 x3), (21, .bool x21)] [.rg [1,0,0] 7, .code [1,0,1], .code [1,1]] M Q
def A37_2 (x0 : Option Addr) (x1 x2 x3 : Int) (x25 : Bool) (M : Mem) (Q : Value → Mem → Prop) : Prop := LvP Try.prog Try.f37 [(0, .pointer x0), (1, .int .i64 x1), (2, .int .i64 x2), (3, .int .i64 x3), (25, .bool x25)] [.rg [1,0,0] 11, .code [1,0,1], .code [1,1]] M Q
def A37_3 (x0 : Option Addr) (x1 x2 x3 : Int) (x31 : Bool) (M : Mem) (Q : Value → Mem → Prop) : Prop := LvP Try.prog Try.f37 [(0, .pointer x0), (1, .int .i64 x1), (2, .int .i64 x2), (3, .int .i64 x3), (31, .bool x31)] [.rg [1,0,0] 17, .code [1,0,1], .code [1,1]] M Q
def A37_4 (x0 : Option Addr) (x1 x2 x3 : Int) (x37 : Bool) (M : Mem) (Q : Value → Mem → Prop) : Prop := LvP Try.prog Try.f37 [(0, .pointer x0), (1, .int .i64 x1), (2, .int .i64 x2), (3, .int .i64 x3), (37, .bool x37)] [.rg [1,0,0] 23, .code [1,0,1], .code [1,1]] M Q
def A37_5 (x0 : Option Addr) (x1 x2 x3 : Int) (x43 : Bool) (M : Mem) (Q : Value → Mem → Prop) : Prop := LvP Try.prog Try.f37 [(0, .pointer x0), (1, .int .i64 x1), (2, .int .i64 x2), (3, .int .i64 x3), (43, .bool x43)] [.code [1,0,1], .code [1,1]] M Q
def A37_6 (x0 : Option Addr) (x1 x2 x3 x10 : Int) (x58 : Bool) (M : Mem) (Q : Value → Mem → Prop) : Prop := LvP Try.prog Try.f37 [(0, .pointer x0), (1, .int .i64 x1), (2, .int .i64 x2), (3, .int .i64 x3), (10, .int .i64 x10), (58, .bool x58)] [.code [1,1,1,0,1,1], .code [1,1,1,1]] M Q
def A37_7 (x10 : Int) (x75 : Bool) (M : Mem) (Q : Value → Mem → Prop) : Prop := LvP Try.prog Try.f37 [(10, .int .i64 x10), (75, .bool x75)] [.code [1,1,1,1,0,1,1], .code [1,1,1,1,1]] M Q
theorem w37_0 {x0 : Option Addr} {x1 x2 x3 : Int} {M : Mem} {Q : Value → Mem → Prop} (H :
    cnd (x3 != 64) (
     A37_1 x0 x1 x2 x3 (x3 != 32) M Q) (
     A37_1 x0 x1 x2 x3 false M Q)) :
    Cn Try.prog 37 #[.pointer x0, .int .i64 x1, .int .i64 x2, .int .i64 x3] M Q :=
  Cn.mk (cuts := K37) (sp := Z37) 900 b37 rfl rfl H fun G => by kernel_rfl

theorem w37_1 {x0 : Option Addr} {x1 x2 x3 : Int} {x21 : Bool} {M : Mem} {Q : Value → Mem → Prop} (H :
    cnd x21 (
     A37_2 x0 x1 x2 x3 (x3 != 16) M Q) (
     A37_2 x0 x1 x2 x3 false M Q)) :
    A37_1 x0 x1 x2 x3 x21 M Q :=
  LvP.mk (cuts := K37) (sp := Z37) 900 H fun G => by kernel_rfl

theorem w37_2 {x0 : Option Addr} {x1 x2 x3 : Int} {x25 : Bool} {M : Mem} {Q : Value → Mem → Prop} (H :
    cnd x25 (
     A37_3 x0 x1 x2 x3 true M Q) (
     puS (binV Try.prog .rem 3 3 (.int .i64 x1) (.int .i64 x3)) fun v1' =>
     tyS (asI .i64 v1') fun x2' =>
     A37_3 x0 x1 x2 x3 (x2' != 0) M Q)) :
    A37_2 x0 x1 x2 x3 x25 M Q :=
  LvP.mk (cuts := K37) (sp := Z37) 900 H fun G => by kernel_rfl

theorem w37_3 {x0 : Option Addr} {x1 x2 x3 : Int} {x31 : Bool} {M : Mem} {Q : Value → Mem → Prop} (H :
    cnd x31 (
     A37_4 x0 x1 x2 x3 true M Q) (
     puS (binV Try.prog .rem 3 3 (.int .i64 x2) (.int .i64 x3)) fun v3' =>
     tyS (asI .i64 v3') fun x4' =>
     A37_4 x0 x1 x2 x3 (x4' != 0) M Q)) :
    A37_3 x0 x1 x2 x3 x31 M Q :=
  LvP.mk (cuts := K37) (sp := Z37) 900 H fun G => by kernel_rfl

theorem w37_4 {x0 : Option Addr} {x1 x2 x3 : Int} {x37 : Bool} {M : Mem} {Q : Value → Mem → Prop} (H :
    cnd x37 (
     A37_5 x0 x1 x2 x3 true M Q) (
     Cn Try.prog 35 #[.pointer x0, .int .i64 x1, .int .i64 x2] M fun v5' N5' =>
      tyS (asB v5') fun b6' =>
      A37_5 x0 x1 x2 x3 (!b6') N5' Q)) :
    A37_4 x0 x1 x2 x3 x37 M Q :=
  LvP.mk (cuts := K37) (sp := Z37) 900 H fun G => by kernel_rfl

theorem w37_5 {x0 : Option Addr} {x1 x2 x3 : Int} {x43 : Bool} {M : Mem} {Q : Value → Mem → Prop} (H :
    cnd x43 (
     Q (.tuple #[.int .i64 0, .int .i64 2]) M) (
     Cn Try.prog 36 #[.pointer x0, .int .i64 x1, .int .i64 (IntKind.i64.wrap (x2 - 1))] M fun v7' N7' =>
      tyS (asU 2 v7') fun cs8' =>
      tyS (asA 23 (cs8'.getD 0 undef)) fun cs9' =>
      asCellsP tyZpG0 0 cs9' fun vs10' =>
      tyS (asB (cs8'.getD 1 undef)) fun b11' =>
      tyS (asA 23 (.agg vs10'.toArray)) fun cs12' =>
      asCellsP tyZpG0 0 cs12' fun vs13' =>
      stP (some 23) vs13'.toArray (N7'.new (.cells #[.int .i64 0, .int .i64 0, .int .i64 0, .int .i64 0, .bool false, .bool false, .int .i64 0, .int .i64 0, .int .i64 0, .int .i64 0, .int .i64 0, .int .i64 0, .int .i64 0, .bool false, .int .i64 0, .int .i64 0, .int .i64 0, .int .i64 0, .int .i64 0, .int .i64 0, .int .i64 0, .int .i64 0, .bool false] 27)) (2 * N7'.nb.size) 0 fun M14' =>
      cnd b11' (
       onS (M14'.intAt .i64 (2 * N7'.nb.size) (0 + 2)) fun x15' =>
       A37_6 x0 x1 x2 x3 0 (decide (x15' < x3)) M14' Q) (
       A37_6 x0 x1 x2 x3 0 false M14' Q))) :
    A37_5 x0 x1 x2 x3 x43 M Q :=
  LvP.mk (cuts := K37) (sp := Z37) 900 H fun G => by kernel_rfl

theorem w37_6 {x0 : Option Addr} {x1 x2 x3 x10 : Int} {x58 : Bool} {M : Mem} {Q : Value → Mem → Prop} (H :
    cnd x58 (
     Cn Try.prog 36 #[.pointer x0, .int .i64 (IntKind.i64.wrap (x1 - 1)), .int .i64 x2] M fun v16' N16' =>
      tyS (asU 2 v16') fun cs17' =>
      tyS (asA 23 (cs17'.getD 0 undef)) fun cs18' =>
      asCellsP tyZpG0 0 cs18' fun vs19' =>
      tyS (asB (cs17'.getD 1 undef)) fun b20' =>
      tyS (asA 23 (.agg vs19'.toArray)) fun cs21' =>
      asCellsP tyZpG0 0 cs21' fun vs22' =>
      stP (some 23) vs22'.toArray (N16'.new (.cells #[.int .i64 0, .int .i64 0, .int .i64 0, .int .i64 0, .bool false, .bool false, .int .i64 0, .int .i64 0, .int .i64 0, .int .i64 0, .int .i64 0, .int .i64 0, .int .i64 0, .bool false, .int .i64 0, .int .i64 0, .int .i64 0, .int .i64 0, .int .i64 0, .int .i64 0, .int .i64 0, .int .i64 0, .bool false] 27)) (2 * N16'.nb.size) 0 fun M23' =>
      cnd b20' (
       onS (M23'.intAt .i64 (2 * N16'.nb.size) (0 + 3)) fun x24' =>
       A37_7 (IntKind.i64.wrap (x10 + 1)) (decide (x24' < x3)) M23' Q) (
       A37_7 (IntKind.i64.wrap (x10 + 1)) false M23' Q)) (
     Cn Try.prog 36 #[.pointer x0, .int .i64 (IntKind.i64.wrap (x1 - 1)), .int .i64 x2] M fun v25' N25' =>
      tyS (asU 2 v25') fun cs26' =>
      tyS (asA 23 (cs26'.getD 0 undef)) fun cs27' =>
      asCellsP tyZpG0 0 cs27' fun vs28' =>
      tyS (asB (cs26'.getD 1 undef)) fun b29' =>
      tyS (asA 23 (.agg vs28'.toArray)) fun cs30' =>
      asCellsP tyZpG0 0 cs30' fun vs31' =>
      stP (some 23) vs31'.toArray (N25'.new (.cells #[.int .i64 0, .int .i64 0, .int .i64 0, .int .i64 0, .bool false, .bool false, .int .i64 0, .int .i64 0, .int .i64 0, .int .i64 0, .int .i64 0, .int .i64 0, .int .i64 0, .bool false, .int .i64 0, .int .i64 0, .int .i64 0, .int .i64 0, .int .i64 0, .int .i64 0, .int .i64 0, .int .i64 0, .bool false] 27)) (2 * N25'.nb.size) 0 fun M32' =>
      cnd b29' (
       onS (M32'.intAt .i64 (2 * N25'.nb.size) (0 + 3)) fun x33' =>
       A37_7 x10 (decide (x33' < x3)) M32' Q) (
       A37_7 x10 false M32' Q))) :
    A37_6 x0 x1 x2 x3 x10 x58 M Q :=
  LvP.mk (cuts := K37) (sp := Z37) 900 H fun G => by kernel_rfl

theorem w37_7 {x10 : Int} {x75 : Bool} {M : Mem} {Q : Value → Mem → Prop} (H :
    cnd x75 (
     Q (.tuple #[.int .i64 (IntKind.i64.wrap (x10 + 2)), .int .i64 0]) M) (
     Q (.tuple #[.int .i64 x10, .int .i64 0]) M)) :
    A37_7 x10 x75 M Q :=
  LvP.mk (cuts := K37) (sp := Z37) 900 H fun G => by kernel_rfl


end Go.Zt
