/- The functions' walks: for each function and each loop a rule of what it comes to. Printed by zw2.py. -/
import Derived.Test.YtbbdggpfhcgbpaaProg
import Derived.Test.YtbbdggpfhcgbpaaZcA0
import Derived.Test.YtbbdggpfhcgbpaaZqT
set_option linter.unusedVariables false
set_option maxRecDepth 100000
namespace Go.Zt
open Go Go.Sim Go.Proofs

/-! ### zoetrope/zoetropelaw19.UnitsKnown: function 9 -/
def K9 : List (List It × List Nat) := [([.rg [1,0] 10, .code [1,1]], [30]), ([.rg [1,0] 16, .code [1,1]], [36]), ([.rg [1,0] 22, .code [1,1]], [42]), ([.rg [1,0] 28, .code [1,1]], [48]), ([.rg [1,0] 34, .code [1,1]], [54]), ([.rg [1,0] 40, .code [1,1]], [60]), ([.rg [1,0] 46, .code [1,1]], [66]), ([.rg [1,0] 52, .code [1,1]], [72]), ([.rg [1,0] 58, .code [1,1]], [78]), ([.rg [1,0] 64, .code [1,1]], [84]), ([.code [1,1]], [1]), ([.rg [1,1,1,1,1,1,1,1,1,1,0] 8, .code [1,1,1,1,1,1,1,1,1,1,1]], [1, 2, 5, 7, 8, 9, 12, 14, 15, 16, 146]), ([.rg [1,1,1,1,1,1,1,1,1,1,0] 14, .code [1,1,1,1,1,1,1,1,1,1,1]], [1, 5, 7, 8, 9, 12, 14, 15, 16, 152]), ([.rg [1,1,1,1,1,1,1,1,1,1,0] 18, .code [1,1,1,1,1,1,1,1,1,1,1]], [1, 7, 8, 9, 12, 14, 15, 16, 156]), ([.rg [1,1,1,1,1,1,1,1,1,1,0] 22, .code [1,1,1,1,1,1,1,1,1,1,1]], [1, 8, 9, 12, 14, 15, 16, 160]), ([.rg [1,1,1,1,1,1,1,1,1,1,0] 26, .code [1,1,1,1,1,1,1,1,1,1,1]], [1, 8, 12, 14, 15, 16, 164]), ([.rg [1,1,1,1,1,1,1,1,1,1,0] 31, .code [1,1,1,1,1,1,1,1,1,1,1]], [1, 12, 14, 15, 16, 169]), ([.rg [1,1,1,1,1,1,1,1,1,1,0] 35, .code [1,1,1,1,1,1,1,1,1,1,1]], [1, 14, 15, 16, 173]), ([.rg [1,1,1,1,1,1,1,1,1,1,0] 39, .code [1,1,1,1,1,1,1,1,1,1,1]], [1, 15, 16, 177]), ([.rg [1,1,1,1,1,1,1,1,1,1,0] 43, .code [1,1,1,1,1,1,1,1,1,1,1]], [1, 15, 181]), ([.code [1,1,1,1,1,1,1,1,1,1,1]], [1, 17]), ([.rg [1,1,1,1,1,1,1,1,1,1,1,0] 10, .code [1,1,1,1,1,1,1,1,1,1,1,1]], [1, 17, 195]), ([.rg [1,1,1,1,1,1,1,1,1,1,1,0] 16, .code [1,1,1,1,1,1,1,1,1,1,1,1]], [1, 17, 201]), ([.rg [1,1,1,1,1,1,1,1,1,1,1,0] 22, .code [1,1,1,1,1,1,1,1,1,1,1,1]], [1, 17, 207]), ([.code [1,1,1,1,1,1,1,1,1,1,1,1]], [1, 17, 18]), ([.rg [1,1,1,1,1,1,1,1,1,1,1,1,1,0] 7, .code [1,1,1,1,1,1,1,1,1,1,1,1,1,1]], [17, 18, 20, 227]), ([.rg [1,1,1,1,1,1,1,1,1,1,1,1,1,0] 10, .code [1,1,1,1,1,1,1,1,1,1,1,1,1,1]], [18, 20, 230]), ([.rg [1,1,1,1,1,1,1,1,1,1,1,1,1,0] 13, .code [1,1,1,1,1,1,1,1,1,1,1,1,1,1]], [20, 233])]
def Z9 : List (List Nat × List Nat) := [([1,0], [10, 16, 22, 28, 34, 40, 46, 52, 58, 64, 70]), ([1,1,1,1,1,1,1,1,1,1,0], [8, 14, 18, 22, 26, 31, 35, 39, 43, 48]), ([1,1,1,1,1,1,1,1,1,1,1,0], [10, 16, 22, 28]), ([1,1,1,1,1,1,1,1,1,1,1,1,1,0], [4, 7, 10, 13, 17])]
theorem b9 : Try.prog.funcs[9]? = some Try.f9 ∧ (Orc.tab Try.prog).lookup 9 = none ∧ Try.f9.body = some (codeOf Try.f9) := ⟨by kernel_rfl, by kernel_rfl, by kernel_rfl⟩
def A9_1 (x30 : Bool) (M : Mem) (Q : Value → Mem → Prop) : Prop := LvP Try.prog Try.f9 [(30, .bool x30)] [.rg [1,0] 10, .code [1,1]] M Q
def A9_2 (x36 : Bool) (M : Mem) (Q : Value → Mem → Prop) : Prop := LvP Try.prog Try.f9 [(36, .bool x36)] [.rg [1,0] 16, .code [1,1]] M Q
def A9_3 (x42 : Bool) (M : Mem) (Q : Value → Mem → Prop) : Prop := LvP Try.prog Try.f9 [(42, .bool x42)] [.rg [1,0] 22, .code [1,1]] M Q
def A9_4 (x48 : Bool) (M : Mem) (Q : Value → Mem → Prop) : Prop := LvP Try.prog Try.f9 [(48, .bool x48)] [.rg [1,0] 28, .code [1,1]] M Q
def A9_5 (x54 : Bool) (M : Mem) (Q : Value → Mem → Prop) : Prop := LvP Try.prog Try.f9 [(54, .bool x54)] [.rg [1,0] 34, .code [1,1]] M Q
def A9_6 (x60 : Bool) (M : Mem) (Q : Value → Mem → Prop) : Prop := LvP Try.prog Try.f9 [(60, .bool x60)] [.rg [1,0] 40, .code [1,1]] M Q
def A9_7 (x66 : Bool) (M : Mem) (Q : Value → Mem → Prop) : Prop := LvP Try.prog Try.f9 [(66, .bool x66)] [.rg [1,0] 46, .code [1,1]] M Q
def A9_8 (x72 : Bool) (M : Mem) (Q : Value → Mem → Prop) : Prop := LvP Try.prog Try.f9 [(72, .bool x72)] [.rg [1,0] 52, .code [1,1]] M Q
def A9_9 (x78 : Bool) (M : Mem) (Q : Value → Mem → Prop) : Prop := LvP Try.prog Try.f9 [(78, .bool x78)] [.rg [1,0] 58, .code [1,1]] M Q
def A9_10 (x84 : Bool) (M : Mem) (Q : Value → Mem → Prop) : Prop := LvP Try.prog Try.f9 [(84, .bool x84)] [.rg [1,0] 64, .code [1,1]] M Q
def A9_11 (x1 : Bool) (M : Mem) (Q : Value → Mem → Prop) : Prop := LvP Try.prog Try.f9 [(1, .bool x1)] [.code [1,1]] M Q
def A9_12 (x1 : Bool) (Ax2 : Option Addr) (lx2 cx2 : Nat) (x5 x7 : Int) (Ax8 : Option Addr) (lx8 cx8 : Nat) (x9 x12 x14 : Int) (Ax15 : Option Addr) (lx15 cx15 : Nat) (x16 : Int) (x146 : Bool) (M : Mem) (Q : Value → Mem → Prop) : Prop := LvP Try.prog Try.f9 [(1, .bool x1), (2, .slice Ax2 lx2 cx2), (5, .int .i64 x5), (7, .int .i64 x7), (8, .slice Ax8 lx8 cx8), (9, .int .i64 x9), (12, .int .i64 x12), (14, .int .i64 x14), (15, .slice Ax15 lx15 cx15), (16, .int .i64 x16), (146, .bool x146)] [.rg [1,1,1,1,1,1,1,1,1,1,0] 8, .code [1,1,1,1,1,1,1,1,1,1,1]] M Q
def A9_13 (x1 : Bool) (x5 x7 : Int) (Ax8 : Option Addr) (lx8 cx8 : Nat) (x9 x12 x14 : Int) (Ax15 : Option Addr) (lx15 cx15 : Nat) (x16 : Int) (x152 : Bool) (M : Mem) (Q : Value → Mem → Prop) : Prop := LvP Try.prog Try.f9 [(1, .bool x1), (5, .int .i64 x5), (7, .int .i64 x7), (8, .slice Ax8 lx8 cx8), (9, .int .i64 x9), (12, .int .i64 x12), (14, .int .i64 x14), (15, .slice Ax15 lx15 cx15), (16, .int .i64 x16), (152, .bool x152)] [.rg [1,1,1,1,1,1,1,1,1,1,0] 14, .code [1,1,1,1,1,1,1,1,1,1,1]] M Q
def A9_14 (x1 : Bool) (x7 : Int) (Ax8 : Option Addr) (lx8 cx8 : Nat) (x9 x12 x14 : Int) (Ax15 : Option Addr) (lx15 cx15 : Nat) (x16 : Int) (x156 : Bool) (M : Mem) (Q : Value → Mem → Prop) : Prop := LvP Try.prog Try.f9 [(1, .bool x1), (7, .int .i64 x7), (8, .slice Ax8 lx8 cx8), (9, .int .i64 x9), (12, .int .i64 x12), (14, .int .i64 x14), (15, .slice Ax15 lx15 cx15), (16, .int .i64 x16), (156, .bool x156)] [.rg [1,1,1,1,1,1,1,1,1,1,0] 18, .code [1,1,1,1,1,1,1,1,1,1,1]] M Q
def A9_15 (x1 : Bool) (Ax8 : Option Addr) (lx8 cx8 : Nat) (x9 x12 x14 : Int) (Ax15 : Option Addr) (lx15 cx15 : Nat) (x16 : Int) (x160 : Bool) (M : Mem) (Q : Value → Mem → Prop) : Prop := LvP Try.prog Try.f9 [(1, .bool x1), (8, .slice Ax8 lx8 cx8), (9, .int .i64 x9), (12, .int .i64 x12), (14, .int .i64 x14), (15, .slice Ax15 lx15 cx15), (16, .int .i64 x16), (160, .bool x160)] [.rg [1,1,1,1,1,1,1,1,1,1,0] 22, .code [1,1,1,1,1,1,1,1,1,1,1]] M Q
def A9_16 (x1 : Bool) (Ax8 : Option Addr) (lx8 cx8 : Nat) (x12 x14 : Int) (Ax15 : Option Addr) (lx15 cx15 : Nat) (x16 : Int) (x164 : Bool) (M : Mem) (Q : Value → Mem → Prop) : Prop := LvP Try.prog Try.f9 [(1, .bool x1), (8, .slice Ax8 lx8 cx8), (12, .int .i64 x12), (14, .int .i64 x14), (15, .slice Ax15 lx15 cx15), (16, .int .i64 x16), (164, .bool x164)] [.rg [1,1,1,1,1,1,1,1,1,1,0] 26, .code [1,1,1,1,1,1,1,1,1,1,1]] M Q
def A9_17 (x1 : Bool) (x12 x14 : Int) (Ax15 : Option Addr) (lx15 cx15 : Nat) (x16 : Int) (x169 : Bool) (M : Mem) (Q : Value → Mem → Prop) : Prop := LvP Try.prog Try.f9 [(1, .bool x1), (12, .int .i64 x12), (14, .int .i64 x14), (15, .slice Ax15 lx15 cx15), (16, .int .i64 x16), (169, .bool x169)] [.rg [1,1,1,1,1,1,1,1,1,1,0] 31, .code [1,1,1,1,1,1,1,1,1,1,1]] M Q
def A9_18 (x1 : Bool) (x14 : Int) (Ax15 : Option Addr) (lx15 cx15 : Nat) (x16 : Int) (x173 : Bool) (M : Mem) (Q : Value → Mem → Prop) : Prop := LvP Try.prog Try.f9 [(1, .bool x1), (14, .int .i64 x14), (15, .slice Ax15 lx15 cx15), (16, .int .i64 x16), (173, .bool x173)] [.rg [1,1,1,1,1,1,1,1,1,1,0] 35, .code [1,1,1,1,1,1,1,1,1,1,1]] M Q
def A9_19 (x1 : Bool) (Ax15 : Option Addr) (lx15 cx15 : Nat) (x16 : Int) (x177 : Bool) (M : Mem) (Q : Value → Mem → Prop) : Prop := LvP Try.prog Try.f9 [(1, .bool x1), (15, .slice Ax15 lx15 cx15), (16, .int .i64 x16), (177, .bool x177)] [.rg [1,1,1,1,1,1,1,1,1,1,0] 39, .code [1,1,1,1,1,1,1,1,1,1,1]] M Q
def A9_20 (x1 : Bool) (Ax15 : Option Addr) (lx15 cx15 : Nat) (x181 : Bool) (M : Mem) (Q : Value → Mem → Prop) : Prop := LvP Try.prog Try.f9 [(1, .bool x1), (15, .slice Ax15 lx15 cx15), (181, .bool x181)] [.rg [1,1,1,1,1,1,1,1,1,1,0] 43, .code [1,1,1,1,1,1,1,1,1,1,1]] M Q
def A9_21 (x1 x17 : Bool) (M : Mem) (Q : Value → Mem → Prop) : Prop := LvP Try.prog Try.f9 [(1, .bool x1), (17, .bool x17)] [.code [1,1,1,1,1,1,1,1,1,1,1]] M Q
def A9_22 (x1 x17 x195 : Bool) (M : Mem) (Q : Value → Mem → Prop) : Prop := LvP Try.prog Try.f9 [(1, .bool x1), (17, .bool x17), (195, .bool x195)] [.rg [1,1,1,1,1,1,1,1,1,1,1,0] 10, .code [1,1,1,1,1,1,1,1,1,1,1,1]] M Q
def A9_23 (x1 x17 x201 : Bool) (M : Mem) (Q : Value → Mem → Prop) : Prop := LvP Try.prog Try.f9 [(1, .bool x1), (17, .bool x17), (201, .bool x201)] [.rg [1,1,1,1,1,1,1,1,1,1,1,0] 16, .code [1,1,1,1,1,1,1,1,1,1,1,1]] M Q
def A9_24 (x1 x17 x207 : Bool) (M : Mem) (Q : Value → Mem → Prop) : Prop := LvP Try.prog Try.f9 [(1, .bool x1), (17, .bool x17), (207, .bool x207)] [.rg [1,1,1,1,1,1,1,1,1,1,1,0] 22, .code [1,1,1,1,1,1,1,1,1,1,1,1]] M Q
def A9_25 (x1 x17 x18 : Bool) (M : Mem) (Q : Value → Mem → Prop) : Prop := LvP Try.prog Try.f9 [(1, .bool x1), (17, .bool x17), (18, .bool x18)] [.code [1,1,1,1,1,1,1,1,1,1,1,1]] M Q
def A9_26 (x17 x18 : Bool) (x20 : Int) (x227 : Bool) (M : Mem) (Q : Value → Mem → Prop) : Prop := LvP Try.prog Try.f9 [(17, .bool x17), (18, .bool x18), (20, .int .i64 x20), (227, .bool x227)] [.rg [1,1,1,1,1,1,1,1,1,1,1,1,1,0] 7, .code [1,1,1,1,1,1,1,1,1,1,1,1,1,1]] M Q
def A9_27 (x18 : Bool) (x20 : Int) (x230 : Bool) (M : Mem) (Q : Value → Mem → Prop) : Prop := LvP Try.prog Try.f9 [(18, .bool x18), (20, .int .i64 x20), (230, .bool x230)] [.rg [1,1,1,1,1,1,1,1,1,1,1,1,1,0] 10, .code [1,1,1,1,1,1,1,1,1,1,1,1,1,1]] M Q
def A9_28 (x20 : Int) (x233 : Bool) (M : Mem) (Q : Value → Mem → Prop) : Prop := LvP Try.prog Try.f9 [(20, .int .i64 x20), (233, .bool x233)] [.rg [1,1,1,1,1,1,1,1,1,1,1,1,1,0] 13, .code [1,1,1,1,1,1,1,1,1,1,1,1,1,1]] M Q
theorem w9_0 {M : Mem} {Q : Value → Mem → Prop} (H :
    Cn Try.prog 24 #[.slice none 0 0] M fun v1' N1' =>
     tyS (asA 3 v1') fun cs2' =>
     tyS (asI .i64 (cs2'.getD 0 undef)) fun x3' =>
     tyS (asI .i64 (cs2'.getD 1 undef)) fun x4' =>
     tyS (asI .i64 (cs2'.getD 2 undef)) fun x5' =>
     puS (binV Try.prog .eql 45 45 (.agg #[.int .i64 x3', .int .i64 x4', .int .i64 x5']) (.agg #[.int .i64 0, .int .i64 0, .int .i64 0])) fun v6' =>
     tyS (asB v6') fun b7' =>
     cnd b7' (
      Cn Try.prog 24 #[.slice (some ⟨2 * N1'.nb.size, 0, none⟩) 5 5] (N1'.new (.cells #[.int .u8 32, .int .u8 0, .int .u8 48, .int .u8 2, .int .u8 1] 5)) fun v8' N8' =>
       tyS (asA 3 v8') fun cs9' =>
       tyS (asI .i64 (cs9'.getD 0 undef)) fun x10' =>
       tyS (asI .i64 (cs9'.getD 1 undef)) fun x11' =>
       tyS (asI .i64 (cs9'.getD 2 undef)) fun x12' =>
       puS (binV Try.prog .eql 45 45 (.agg #[.int .i64 x10', .int .i64 x11', .int .i64 x12']) (.agg #[.int .i64 1, .int .i64 2, .int .i64 3])) fun v13' =>
       tyS (asB v13') fun b14' =>
       A9_1 b14' N8' Q) (
      A9_1 false N1' Q)) :
    Cn Try.prog 9 #[] M Q :=
  Cn.mk (cuts := K9) (sp := Z9) 900 b9 rfl rfl H fun G => by kernel_rfl

theorem w9_1 {x30 : Bool} {M : Mem} {Q : Value → Mem → Prop} (H :
    cnd x30 (
     Cn Try.prog 24 #[.slice (some ⟨2 * M.nb.size, 0, none⟩) 4 4] (M.new (.cells #[.int .u8 32, .int .u8 0, .int .u8 33, .int .u8 0] 5)) fun v15' N15' =>
      tyS (asA 3 v15') fun cs16' =>
      tyS (asI .i64 (cs16'.getD 0 undef)) fun x17' =>
      tyS (asI .i64 (cs16'.getD 1 undef)) fun x18' =>
      tyS (asI .i64 (cs16'.getD 2 undef)) fun x19' =>
      puS (binV Try.prog .eql 45 45 (.agg #[.int .i64 x17', .int .i64 x18', .int .i64 x19']) (.agg #[.int .i64 1, .int .i64 2, .int .i64 4])) fun v20' =>
      tyS (asB v20') fun b21' =>
      A9_2 b21' N15' Q) (
     A9_2 false M Q)) :
    A9_1 x30 M Q :=
  LvP.mk (cuts := K9) (sp := Z9) 900 H fun G => by kernel_rfl

theorem w9_2 {x36 : Bool} {M : Mem} {Q : Value → Mem → Prop} (H :
    cnd x36 (
     Cn Try.prog 24 #[.slice (some ⟨2 * M.nb.size, 0, none⟩) 1 1] (M.new (.cells #[.int .u8 32] 5)) fun v22' N22' =>
      tyS (asA 3 v22') fun cs23' =>
      tyS (asI .i64 (cs23'.getD 0 undef)) fun x24' =>
      tyS (asI .i64 (cs23'.getD 1 undef)) fun x25' =>
      tyS (asI .i64 (cs23'.getD 2 undef)) fun x26' =>
      puS (binV Try.prog .eql 45 45 (.agg #[.int .i64 x24', .int .i64 x25', .int .i64 x26']) (.agg #[.int .i64 0, .int .i64 0, .int .i64 3])) fun v27' =>
      tyS (asB v27') fun b28' =>
      A9_3 b28' N22' Q) (
     A9_3 false M Q)) :
    A9_2 x36 M Q :=
  LvP.mk (cuts := K9) (sp := Z9) 900 H fun G => by kernel_rfl

theorem w9_3 {x42 : Bool} {M : Mem} {Q : Value → Mem → Prop} (H :
    cnd x42 (
     Cn Try.prog 24 #[.slice (some ⟨2 * M.nb.size, 0, none⟩) 2 2] (M.new (.cells #[.int .u8 64, .int .u8 0] 5)) fun v29' N29' =>
      tyS (asA 3 v29') fun cs30' =>
      tyS (asI .i64 (cs30'.getD 0 undef)) fun x31' =>
      tyS (asI .i64 (cs30'.getD 1 undef)) fun x32' =>
      tyS (asI .i64 (cs30'.getD 2 undef)) fun x33' =>
      puS (binV Try.prog .eql 45 45 (.agg #[.int .i64 x31', .int .i64 x32', .int .i64 x33']) (.agg #[.int .i64 0, .int .i64 0, .int .i64 4])) fun v34' =>
      tyS (asB v34') fun b35' =>
      A9_4 b35' N29' Q) (
     A9_4 false M Q)) :
    A9_3 x42 M Q :=
  LvP.mk (cuts := K9) (sp := Z9) 900 H fun G => by kernel_rfl

theorem w9_4 {x48 : Bool} {M : Mem} {Q : Value → Mem → Prop} (H :
    cnd x48 (
     Cn Try.prog 24 #[.slice (some ⟨2 * M.nb.size, 0, none⟩) 2 2] (M.new (.cells #[.int .u8 0, .int .u8 0] 5)) fun v36' N36' =>
      tyS (asA 3 v36') fun cs37' =>
      tyS (asI .i64 (cs37'.getD 0 undef)) fun x38' =>
      tyS (asI .i64 (cs37'.getD 1 undef)) fun x39' =>
      tyS (asI .i64 (cs37'.getD 2 undef)) fun x40' =>
      puS (binV Try.prog .eql 45 45 (.agg #[.int .i64 x38', .int .i64 x39', .int .i64 x40']) (.agg #[.int .i64 0, .int .i64 0, .int .i64 4])) fun v41' =>
      tyS (asB v41') fun b42' =>
      A9_5 b42' N36' Q) (
     A9_5 false M Q)) :
    A9_4 x48 M Q :=
  LvP.mk (cuts := K9) (sp := Z9) 900 H fun G => by kernel_rfl

theorem w9_5 {x54 : Bool} {M : Mem} {Q : Value → Mem → Prop} (H :
    cnd x54 (
     Cn Try.prog 24 #[.slice (some ⟨2 * M.nb.size, 0, none⟩) 3 3] (M.new (.cells #[.int .u8 16, .int .u8 128, .int .u8 0] 5)) fun v43' N43' =>
      tyS (asA 3 v43') fun cs44' =>
      tyS (asI .i64 (cs44'.getD 0 undef)) fun x45' =>
      tyS (asI .i64 (cs44'.getD 1 undef)) fun x46' =>
      tyS (asI .i64 (cs44'.getD 2 undef)) fun x47' =>
      puS (binV Try.prog .eql 45 45 (.agg #[.int .i64 x45', .int .i64 x46', .int .i64 x47']) (.agg #[.int .i64 0, .int .i64 0, .int .i64 4])) fun v48' =>
      tyS (asB v48') fun b49' =>
      A9_6 b49' N43' Q) (
     A9_6 false M Q)) :
    A9_5 x54 M Q :=
  LvP.mk (cuts := K9) (sp := Z9) 900 H fun G => by kernel_rfl

theorem w9_6 {x60 : Bool} {M : Mem} {Q : Value → Mem → Prop} (H :
    cnd x60 (
     Cn Try.prog 24 #[.slice (some ⟨2 * M.nb.size, 0, none⟩) 5 5] (M.new (.cells #[.int .u8 16, .int .u8 129, .int .u8 128, .int .u8 128, .int .u8 8] 5)) fun v50' N50' =>
      tyS (asA 3 v50') fun cs51' =>
      tyS (asI .i64 (cs51'.getD 0 undef)) fun x52' =>
      tyS (asI .i64 (cs51'.getD 1 undef)) fun x53' =>
      tyS (asI .i64 (cs51'.getD 2 undef)) fun x54' =>
      puS (binV Try.prog .eql 45 45 (.agg #[.int .i64 x52', .int .i64 x53', .int .i64 x54']) (.agg #[.int .i64 0, .int .i64 0, .int .i64 5])) fun v55' =>
      tyS (asB v55') fun b56' =>
      A9_7 b56' N50' Q) (
     A9_7 false M Q)) :
    A9_6 x60 M Q :=
  LvP.mk (cuts := K9) (sp := Z9) 900 H fun G => by kernel_rfl

theorem w9_7 {x66 : Bool} {M : Mem} {Q : Value → Mem → Prop} (H :
    cnd x66 (
     Cn Try.prog 24 #[.slice (some ⟨2 * M.nb.size, 0, none⟩) 5 5] (M.new (.cells #[.int .u8 16, .int .u8 128, .int .u8 128, .int .u8 128, .int .u8 8] 5)) fun v57' N57' =>
      tyS (asA 3 v57') fun cs58' =>
      tyS (asI .i64 (cs58'.getD 0 undef)) fun x59' =>
      tyS (asI .i64 (cs58'.getD 1 undef)) fun x60' =>
      tyS (asI .i64 (cs58'.getD 2 undef)) fun x61' =>
      puS (binV Try.prog .eql 45 45 (.agg #[.int .i64 x59', .int .i64 x60', .int .i64 x61']) (.agg #[.int .i64 0, .int .i64 0, .int .i64 3])) fun v62' =>
      tyS (asB v62') fun b63' =>
      A9_8 b63' N57' Q) (
     A9_8 false M Q)) :
    A9_7 x66 M Q :=
  LvP.mk (cuts := K9) (sp := Z9) 900 H fun G => by kernel_rfl

theorem w9_8 {x72 : Bool} {M : Mem} {Q : Value → Mem → Prop} (H :
    cnd x72 (
     Cn Try.prog 24 #[.slice (some ⟨2 * M.nb.size, 0, none⟩) 6 6] (M.new (.cells #[.int .u8 16, .int .u8 255, .int .u8 255, .int .u8 255, .int .u8 255, .int .u8 31] 5)) fun v64' N64' =>
      tyS (asA 3 v64') fun cs65' =>
      tyS (asI .i64 (cs65'.getD 0 undef)) fun x66' =>
      tyS (asI .i64 (cs65'.getD 1 undef)) fun x67' =>
      tyS (asI .i64 (cs65'.getD 2 undef)) fun x68' =>
      puS (binV Try.prog .eql 45 45 (.agg #[.int .i64 x66', .int .i64 x67', .int .i64 x68']) (.agg #[.int .i64 0, .int .i64 0, .int .i64 4])) fun v69' =>
      tyS (asB v69') fun b70' =>
      A9_9 b70' N64' Q) (
     A9_9 false M Q)) :
    A9_8 x72 M Q :=
  LvP.mk (cuts := K9) (sp := Z9) 900 H fun G => by kernel_rfl

theorem w9_9 {x78 : Bool} {M : Mem} {Q : Value → Mem → Prop} (H :
    cnd x78 (
     Cn Try.prog 24 #[.slice (some ⟨2 * M.nb.size, 0, none⟩) 2 2] (M.new (.cells #[.int .u8 16, .int .u8 128] 5)) fun v71' N71' =>
      tyS (asA 3 v71') fun cs72' =>
      tyS (asI .i64 (cs72'.getD 0 undef)) fun x73' =>
      tyS (asI .i64 (cs72'.getD 1 undef)) fun x74' =>
      tyS (asI .i64 (cs72'.getD 2 undef)) fun x75' =>
      puS (binV Try.prog .eql 45 45 (.agg #[.int .i64 x73', .int .i64 x74', .int .i64 x75']) (.agg #[.int .i64 0, .int .i64 0, .int .i64 3])) fun v76' =>
      tyS (asB v76') fun b77' =>
      A9_10 b77' N71' Q) (
     A9_10 false M Q)) :
    A9_9 x78 M Q :=
  LvP.mk (cuts := K9) (sp := Z9) 900 H fun G => by kernel_rfl

theorem w9_10 {x84 : Bool} {M : Mem} {Q : Value → Mem → Prop} (H :
    cnd x84 (
     Cn Try.prog 24 #[.slice (some ⟨2 * M.nb.size, 0, none⟩) 7 7] (M.new (.cells #[.int .u8 48, .int .u8 1, .int .u8 7, .int .u8 16, .int .u8 0, .int .u8 32, .int .u8 0] 5)) fun v78' N78' =>
      tyS (asA 3 v78') fun cs79' =>
      tyS (asI .i64 (cs79'.getD 0 undef)) fun x80' =>
      tyS (asI .i64 (cs79'.getD 1 undef)) fun x81' =>
      tyS (asI .i64 (cs79'.getD 2 undef)) fun x82' =>
      puS (binV Try.prog .eql 45 45 (.agg #[.int .i64 x80', .int .i64 x81', .int .i64 x82']) (.agg #[.int .i64 3, .int .i64 7, .int .i64 0])) fun v83' =>
      tyS (asB v83') fun b84' =>
      A9_11 b84' N78' Q) (
     A9_11 false M Q)) :
    A9_10 x84 M Q :=
  LvP.mk (cuts := K9) (sp := Z9) 900 H fun G => by kernel_rfl

theorem w9_11 {x1 : Bool} {M : Mem} {Q : Value → Mem → Prop} (H :
    meS (makeP Try.prog 22 (.int .i64 200) (.int .i64 200) M) fun r85' =>
    tyS (asS r85'.1) fun s86' =>
    Cn Try.prog 18 #[.slice (some ⟨2 * r85'.2.nb.size, 0, none⟩) 2 2] (r85'.2.new (.cells #[.int .i64 2, .slice none 0 0, .int .i64 1, .slice s86'.1 (s86'.2.1) (s86'.2.2)] 44)) fun v87' N87' =>
     tyS (asU 2 v87') fun cs88' =>
     tyS (asS (cs88'.getD 0 undef)) fun s89' =>
     tyS (asI .i64 (cs88'.getD 1 undef)) fun x90' =>
     Cn Try.prog 18 #[.slice (some ⟨2 * N87'.nb.size, 0, none⟩) 1 1] (N87'.new (.cells #[.int .i64 0, .slice none 0 0] 44)) fun v91' N91' =>
      tyS (asU 2 v91') fun cs92' =>
      tyS (asS (cs92'.getD 0 undef)) fun s93' =>
      tyS (asI .i64 (cs92'.getD 1 undef)) fun x94' =>
      Cn Try.prog 18 #[.slice (some ⟨2 * N91'.nb.size, 0, none⟩) 2 2] (N91'.new (.cells #[.int .i64 1, .slice none 0 0, .int .i64 4, .slice none 0 0] 44)) fun v95' N95' =>
       tyS (asU 2 v95') fun cs96' =>
       tyS (asS (cs96'.getD 0 undef)) fun s97' =>
       tyS (asI .i64 (cs96'.getD 1 undef)) fun x98' =>
       Cn Try.prog 18 #[.slice none 0 0] N95' fun v99' N99' =>
        tyS (asU 2 v99') fun cs100' =>
        tyS (asS (cs100'.getD 0 undef)) fun s101' =>
        tyS (asI .i64 (cs100'.getD 1 undef)) fun x102' =>
        meS (makeP Try.prog 22 (.int .i64 16777217) (.int .i64 16777217) N99') fun r103' =>
        tyS (asS r103'.1) fun s104' =>
        Cn Try.prog 18 #[.slice (some ⟨2 * r103'.2.nb.size, 0, none⟩) 1 1] (r103'.2.new (.cells #[.int .i64 3, .slice s104'.1 s104'.2.1 s104'.2.2] 44)) fun v105' N105' =>
         tyS (asU 2 v105') fun cs106' =>
         tyS (asS (cs106'.getD 0 undef)) fun s107' =>
         tyS (asI .i64 (cs106'.getD 1 undef)) fun x108' =>
         Cn Try.prog 18 #[.slice (some ⟨2 * N105'.nb.size, 0, none⟩) 2 2] (N105'.new (.cells #[.int .i64 3, .slice s104'.1 s104'.2.1 s104'.2.2, .int .i64 9, .slice none 0 0] 44)) fun v109' N109' =>
          tyS (asU 2 v109') fun cs110' =>
          tyS (asS (cs110'.getD 0 undef)) fun s111' =>
          tyS (asI .i64 (cs110'.getD 1 undef)) fun x112' =>
          puS (sliceP Try.prog 22 (.slice s104'.1 s104'.2.1 s104'.2.2) none (some (.int .i64 16777216)) none) fun v113' =>
          tyS (asS v113') fun s114' =>
          Cn Try.prog 18 #[.slice (some ⟨2 * N109'.nb.size, 0, none⟩) 1 1] (N109'.new (.cells #[.int .i64 3, .slice s114'.1 (s114'.2.1) (s114'.2.2)] 44)) fun v115' N115' =>
           tyS (asU 2 v115') fun cs116' =>
           tyS (asS (cs116'.getD 0 undef)) fun s117' =>
           tyS (asI .i64 (cs116'.getD 1 undef)) fun x118' =>
           cnd (x90' == 0) (
            A9_12 x1 s89'.1 s89'.2.1 s89'.2.2 x94' x98' s101'.1 s101'.2.1 s101'.2.2 x102' x108' x112' s117'.1 s117'.2.1 s117'.2.2 x118' (((s89'.2.1 : Int)) == 205) N115' Q) (
            A9_12 x1 s89'.1 s89'.2.1 s89'.2.2 x94' x98' s101'.1 s101'.2.1 s101'.2.2 x102' x108' x112' s117'.1 s117'.2.1 s117'.2.2 x118' false N115' Q)) :
    A9_11 x1 M Q :=
  LvP.mk (cuts := K9) (sp := Z9) 900 H fun G => by kernel_rfl

theorem w9_12 {x1 : Bool} {Ax2 : Option Addr} {lx2 cx2 : Nat} {x5 x7 : Int} {Ax8 : Option Addr} {lx8 cx8 : Nat} {x9 x12 x14 : Int} {Ax15 : Option Addr} {lx15 cx15 : Nat} {x16 : Int} {x146 : Bool} {M : Mem} {Q : Value → Mem → Prop} (H :
    cnd x146 (
     puS (sliceP Try.prog 22 (.slice Ax2 lx2 cx2) none (some (.int .i64 5)) none) fun v119' =>
     tyS (asS v119') fun s120' =>
     Cn Try.prog 15 #[.slice s120'.1 (s120'.2.1) (s120'.2.2), .slice (some ⟨2 * M.nb.size, 0, none⟩) 5 5] (M.new (.cells #[.int .u8 32, .int .u8 0, .int .u8 16, .int .u8 200, .int .u8 1] 5)) fun v121' N121' =>
      tyS (asB v121') fun b122' =>
      A9_13 x1 x5 x7 Ax8 lx8 cx8 x9 x12 x14 Ax15 lx15 cx15 x16 b122' N121' Q) (
     A9_13 x1 x5 x7 Ax8 lx8 cx8 x9 x12 x14 Ax15 lx15 cx15 x16 false M Q)) :
    A9_12 x1 Ax2 lx2 cx2 x5 x7 Ax8 lx8 cx8 x9 x12 x14 Ax15 lx15 cx15 x16 x146 M Q :=
  LvP.mk (cuts := K9) (sp := Z9) 900 H fun G => by kernel_rfl

theorem w9_13 {x1 : Bool} {x5 x7 : Int} {Ax8 : Option Addr} {lx8 cx8 : Nat} {x9 x12 x14 : Int} {Ax15 : Option Addr} {lx15 cx15 : Nat} {x16 : Int} {x152 : Bool} {M : Mem} {Q : Value → Mem → Prop} (H :
    cnd x152 (
     A9_14 x1 x7 Ax8 lx8 cx8 x9 x12 x14 Ax15 lx15 cx15 x16 (x5 == 2) M Q) (
     A9_14 x1 x7 Ax8 lx8 cx8 x9 x12 x14 Ax15 lx15 cx15 x16 false M Q)) :
    A9_13 x1 x5 x7 Ax8 lx8 cx8 x9 x12 x14 Ax15 lx15 cx15 x16 x152 M Q :=
  LvP.mk (cuts := K9) (sp := Z9) 900 H fun G => by kernel_rfl

theorem w9_14 {x1 : Bool} {x7 : Int} {Ax8 : Option Addr} {lx8 cx8 : Nat} {x9 x12 x14 : Int} {Ax15 : Option Addr} {lx15 cx15 : Nat} {x16 : Int} {x156 : Bool} {M : Mem} {Q : Value → Mem → Prop} (H :
    cnd x156 (
     A9_15 x1 Ax8 lx8 cx8 x9 x12 x14 Ax15 lx15 cx15 x16 (x7 == 2) M Q) (
     A9_15 x1 Ax8 lx8 cx8 x9 x12 x14 Ax15 lx15 cx15 x16 false M Q)) :
    A9_14 x1 x7 Ax8 lx8 cx8 x9 x12 x14 Ax15 lx15 cx15 x16 x156 M Q :=
  LvP.mk (cuts := K9) (sp := Z9) 900 H fun G => by kernel_rfl

theorem w9_15 {x1 : Bool} {Ax8 : Option Addr} {lx8 cx8 : Nat} {x9 x12 x14 : Int} {Ax15 : Option Addr} {lx15 cx15 : Nat} {x16 : Int} {x160 : Bool} {M : Mem} {Q : Value → Mem → Prop} (H :
    cnd x160 (
     A9_16 x1 Ax8 lx8 cx8 x12 x14 Ax15 lx15 cx15 x16 (x9 == 0) M Q) (
     A9_16 x1 Ax8 lx8 cx8 x12 x14 Ax15 lx15 cx15 x16 false M Q)) :
    A9_15 x1 Ax8 lx8 cx8 x9 x12 x14 Ax15 lx15 cx15 x16 x160 M Q :=
  LvP.mk (cuts := K9) (sp := Z9) 900 H fun G => by kernel_rfl

theorem w9_16 {x1 : Bool} {Ax8 : Option Addr} {lx8 cx8 : Nat} {x12 x14 : Int} {Ax15 : Option Addr} {lx15 cx15 : Nat} {x16 : Int} {x164 : Bool} {M : Mem} {Q : Value → Mem → Prop} (H :
    cnd x164 (
     A9_17 x1 x12 x14 Ax15 lx15 cx15 x16 (((lx8 : Int)) == 0) M Q) (
     A9_17 x1 x12 x14 Ax15 lx15 cx15 x16 false M Q)) :
    A9_16 x1 Ax8 lx8 cx8 x12 x14 Ax15 lx15 cx15 x16 x164 M Q :=
  LvP.mk (cuts := K9) (sp := Z9) 900 H fun G => by kernel_rfl

theorem w9_17 {x1 : Bool} {x12 x14 : Int} {Ax15 : Option Addr} {lx15 cx15 : Nat} {x16 : Int} {x169 : Bool} {M : Mem} {Q : Value → Mem → Prop} (H :
    cnd x169 (
     A9_18 x1 x14 Ax15 lx15 cx15 x16 (x12 == 5) M Q) (
     A9_18 x1 x14 Ax15 lx15 cx15 x16 false M Q)) :
    A9_17 x1 x12 x14 Ax15 lx15 cx15 x16 x169 M Q :=
  LvP.mk (cuts := K9) (sp := Z9) 900 H fun G => by kernel_rfl

theorem w9_18 {x1 : Bool} {x14 : Int} {Ax15 : Option Addr} {lx15 cx15 : Nat} {x16 : Int} {x173 : Bool} {M : Mem} {Q : Value → Mem → Prop} (H :
    cnd x173 (
     A9_19 x1 Ax15 lx15 cx15 x16 (x14 == 5) M Q) (
     A9_19 x1 Ax15 lx15 cx15 x16 false M Q)) :
    A9_18 x1 x14 Ax15 lx15 cx15 x16 x173 M Q :=
  LvP.mk (cuts := K9) (sp := Z9) 900 H fun G => by kernel_rfl

theorem w9_19 {x1 : Bool} {Ax15 : Option Addr} {lx15 cx15 : Nat} {x16 : Int} {x177 : Bool} {M : Mem} {Q : Value → Mem → Prop} (H :
    cnd x177 (
     A9_20 x1 Ax15 lx15 cx15 (x16 == 0) M Q) (
     A9_20 x1 Ax15 lx15 cx15 false M Q)) :
    A9_19 x1 Ax15 lx15 cx15 x16 x177 M Q :=
  LvP.mk (cuts := K9) (sp := Z9) 900 H fun G => by kernel_rfl

theorem w9_20 {x1 : Bool} {Ax15 : Option Addr} {lx15 cx15 : Nat} {x181 : Bool} {M : Mem} {Q : Value → Mem → Prop} (H :
    cnd x181 (
     A9_21 x1 (((lx15 : Int)) == 16777221) M Q) (
     A9_21 x1 false M Q)) :
    A9_20 x1 Ax15 lx15 cx15 x181 M Q :=
  LvP.mk (cuts := K9) (sp := Z9) 900 H fun G => by kernel_rfl

theorem w9_21 {x1 x17 : Bool} {M : Mem} {Q : Value → Mem → Prop} (H :
    Cn Try.prog 26 #[.slice (some ⟨2 * M.nb.size, 0, none⟩) 6 6] (M.new (.cells #[.int .i64 2, .int .i64 3, .int .i64 2, .int .i64 2, .int .i64 1, .int .i64 3] 3)) fun v123' N123' =>
     tyS (asS v123') fun s124' =>
     Cn Try.prog 25 #[.slice s124'.1 (s124'.2.1) (s124'.2.2), .slice (some ⟨2 * N123'.nb.size, 0, none⟩) 3 3] (N123'.new (.cells #[.int .i64 1, .int .i64 0, .int .i64 2] 3)) fun v125' N125' =>
      tyS (asB v125') fun b126' =>
      cnd b126' (
       Cn Try.prog 26 #[.slice none 0 0] N125' fun v127' N127' =>
        tyS (asS v127') fun s128' =>
        A9_22 x1 x17 (((s128'.2.1 : Int)) == 0) N127' Q) (
       A9_22 x1 x17 false N125' Q)) :
    A9_21 x1 x17 M Q :=
  LvP.mk (cuts := K9) (sp := Z9) 900 H fun G => by kernel_rfl

theorem w9_22 {x1 x17 x195 : Bool} {M : Mem} {Q : Value → Mem → Prop} (H :
    cnd x195 (
     Cn Try.prog 26 #[.slice (some ⟨2 * M.nb.size, 0, none⟩) 1 1] (M.new (.cells #[.int .i64 3] 3)) fun v129' N129' =>
      tyS (asS v129') fun s130' =>
      Cn Try.prog 25 #[.slice s130'.1 (s130'.2.1) (s130'.2.2), .slice (some ⟨2 * N129'.nb.size, 0, none⟩) 1 1] (N129'.new (.cells #[.int .i64 (-1)] 3)) fun v131' N131' =>
       tyS (asB v131') fun b132' =>
       A9_23 x1 x17 b132' N131' Q) (
     A9_23 x1 x17 false M Q)) :
    A9_22 x1 x17 x195 M Q :=
  LvP.mk (cuts := K9) (sp := Z9) 900 H fun G => by kernel_rfl

theorem w9_23 {x1 x17 x201 : Bool} {M : Mem} {Q : Value → Mem → Prop} (H :
    cnd x201 (
     Cn Try.prog 26 #[.slice (some ⟨2 * M.nb.size, 0, none⟩) 2 2] (M.new (.cells #[.int .i64 2, .int .i64 4] 3)) fun v133' N133' =>
      tyS (asS v133') fun s134' =>
      Cn Try.prog 25 #[.slice s134'.1 (s134'.2.1) (s134'.2.2), .slice (some ⟨2 * N133'.nb.size, 0, none⟩) 1 1] (N133'.new (.cells #[.int .i64 (-1)] 3)) fun v135' N135' =>
       tyS (asB v135') fun b136' =>
       A9_24 x1 x17 b136' N135' Q) (
     A9_24 x1 x17 false M Q)) :
    A9_23 x1 x17 x201 M Q :=
  LvP.mk (cuts := K9) (sp := Z9) 900 H fun G => by kernel_rfl

theorem w9_24 {x1 x17 x207 : Bool} {M : Mem} {Q : Value → Mem → Prop} (H :
    cnd x207 (
     Cn Try.prog 26 #[.slice (some ⟨2 * M.nb.size, 0, none⟩) 2 2] (M.new (.cells #[.int .i64 2, .int .i64 0] 3)) fun v137' N137' =>
      tyS (asS v137') fun s138' =>
      Cn Try.prog 25 #[.slice s138'.1 (s138'.2.1) (s138'.2.2), .slice (some ⟨2 * N137'.nb.size, 0, none⟩) 1 1] (N137'.new (.cells #[.int .i64 (-1)] 3)) fun v139' N139' =>
       tyS (asB v139') fun b140' =>
       A9_25 x1 x17 b140' N139' Q) (
     A9_25 x1 x17 false M Q)) :
    A9_24 x1 x17 x207 M Q :=
  LvP.mk (cuts := K9) (sp := Z9) 900 H fun G => by kernel_rfl

theorem w9_25 {x1 x17 x18 : Bool} {M : Mem} {Q : Value → Mem → Prop} (H :
    Cn Try.prog 20 #[.slice (some ⟨2 * (M.new (.cells #[.int .u8 1] 5)).nb.size, 0, none⟩) 2 2] ((M.new (.cells #[.int .u8 1] 5)).new (.cells #[.int .i64 2, .slice none 0 0, .int .i64 2, .slice (some ⟨2 * M.nb.size, 0, none⟩) 1 1] 44)) fun v141' N141' =>
     tyS (asU 2 v141') fun cs142' =>
     tyS (asS (cs142'.getD 0 undef)) fun s143' =>
     tyS (asI .i64 (cs142'.getD 1 undef)) fun x144' =>
     Cn Try.prog 16 #[] N141' fun v145' N145' =>
      tyS (asB v145') fun b146' =>
      cnd b146' (
       A9_26 x17 x18 x144' x1 N145' Q) (
       A9_26 x17 x18 x144' false N145' Q)) :
    A9_25 x1 x17 x18 M Q :=
  LvP.mk (cuts := K9) (sp := Z9) 900 H fun G => by kernel_rfl

theorem w9_26 {x17 x18 : Bool} {x20 : Int} {x227 : Bool} {M : Mem} {Q : Value → Mem → Prop} (H :
    cnd x227 (
     A9_27 x18 x20 x17 M Q) (
     A9_27 x18 x20 false M Q)) :
    A9_26 x17 x18 x20 x227 M Q :=
  LvP.mk (cuts := K9) (sp := Z9) 900 H fun G => by kernel_rfl

theorem w9_27 {x18 : Bool} {x20 : Int} {x230 : Bool} {M : Mem} {Q : Value → Mem → Prop} (H :
    cnd x230 (
     A9_28 x20 x18 M Q) (
     A9_28 x20 false M Q)) :
    A9_27 x18 x20 x230 M Q :=
  LvP.mk (cuts := K9) (sp := Z9) 900 H fun G => by kernel_rfl

theorem w9_28 {x20 : Int} {x233 : Bool} {M : Mem} {Q : Value → Mem → Prop} (H :
    cnd x233 (
     Q (.bool (x20 == 4)) M) (
     Q (.bool false) M)) :
    A9_28 x20 x233 M Q :=
  LvP.mk (cuts := K9) (sp := Z9) 900 H fun G => by kernel_rfl


/-! ### zoetrope/units.Join: function 18 -/
def K18 : List (List It × List Nat) := [([.code [1,1,0,1,0,0], .lp [1,1,0,1,0,0], .blk 0, .code [1,1,1]], [4, 9, 10, 11])]
def Z18 : List (List Nat × List Nat) := []
theorem b18 : Try.prog.funcs[18]? = some Try.f18 ∧ (Orc.tab Try.prog).lookup 18 = none ∧ Try.f18.body = some (codeOf Try.f18) := ⟨by kernel_rfl, by kernel_rfl, by kernel_rfl⟩
def A18_1 (Ax4 : Option Addr) (lx4 cx4 : Nat) (Ax9 : Option Addr) (lx9 cx9 : Nat) (x10 x11 : Int) (M : Mem) (Q : Value → Mem → Prop) : Prop := LvP Try.prog Try.f18 [(4, .slice Ax4 lx4 cx4), (9, .slice Ax9 lx9 cx9), (10, .int .i64 x10), (11, .int .i64 x11)] [.code [1,1,0,1,0,0], .lp [1,1,0,1,0,0], .blk 0, .code [1,1,1]] M Q
theorem w18_0 {Ax0 : Option Addr} {lx0 cx0 : Nat} {M : Mem} {Q : Value → Mem → Prop} (H :
    A18_1 none 0 0 Ax0 lx0 cx0 (lx0 : Int) 0 M Q) :
    Cn Try.prog 18 #[.slice Ax0 lx0 cx0] M Q :=
  Cn.mk (cuts := K18) (sp := Z18) 900 b18 rfl rfl H fun G => by kernel_rfl

theorem w18_1 {Ax4 : Option Addr} {lx4 cx4 : Nat} {Ax9 : Option Addr} {lx9 cx9 : Nat} {x10 x11 : Int} {M : Mem} {Q : Value → Mem → Prop} (H :
    cnd (decide (x11 < x10)) (
     ixS (idxA Ax9 lx9 2 x11) fun a1' =>
     onS (M.intAt .i64 a1'.block a1'.off) fun x2' =>
     onS (M.slAt a1'.block (a1'.off + 1)) fun s3' =>
     stP (some 2) #[.int .i64 x2', .slice s3'.1 (s3'.2.1) (s3'.2.2)] (M.new (.cells #[.int .i64 0, .slice none 0 0] 44)) (2 * M.nb.size) 0 fun M4' =>
     onS (M4'.intAt .i64 (2 * M.nb.size) 0) fun x5' =>
     Cn Try.prog 29 #[.int .i64 x5'] M4' fun v6' N6' =>
      tyS (asB v6') fun b7' =>
      cnd (!b7') (
       Q (.tuple #[.slice none 0 0, .int .i64 2]) N6') (
       onS (N6'.slAt (2 * M.nb.size) (0 + 1)) fun s8' =>
       cnd (decide (((s8'.2.1 : Int)) > 16777216)) (
        Q (.tuple #[.slice none 0 0, .int .i64 5]) N6') (
        Cn Try.prog 30 #[] N6' fun v9' N9' =>
         tyS (asP v9') fun p10' =>
         onS (N9'.intAt .i64 (2 * M.nb.size) 0) fun x11' =>
         Cn Try.prog 31 #[.pointer p10', .int .u32 (IntKind.u32.wrap (IntKind.i64.wrap (x11' * 16))), .int .i64 8] N9' fun v12' N12' =>
          tyS (asI .i64 v12') fun x13' =>
          onS (N12'.slAt (2 * M.nb.size) (0 + 1)) fun s14' =>
          Cn Try.prog 32 #[.pointer p10', .int .u32 (IntKind.u32.wrap ((s14'.2.1 : Int)))] N12' fun v15' N15' =>
           tyS (asI .i64 v15') fun x16' =>
           cnd (x16' != 0) (
            Q (.tuple #[.slice none 0 0, .int .i64 (x16')]) N15') (
            onS (N15'.slAt (2 * M.nb.size) (0 + 1)) fun s17' =>
            Cn Try.prog 33 #[.pointer p10'] { N15' with floor := N15'.nb.size } fun v18' N18' =>
             tyS (asS v18') fun s19' =>
             cnd (decide (Option.map (fun a : Addr => a.block) Ax4 = some (2 * M.nb.size))) (
              False) (
              meS (appendP Try.prog #[22, 22] (.slice Ax4 lx4 cx4) (.slice s19'.1 (s19'.2.1) (s19'.2.2)) ({ N18' with floor := N15'.floor } : Mem)) fun r20' =>
              tyS (asS r20'.1) fun s21' =>
              meS (appendP Try.prog #[22, 22] (.slice s21'.1 (s21'.2.1) (s21'.2.2)) (.slice s17'.1 (s17'.2.1) (s17'.2.2)) r20'.2) fun r22' =>
              tyS (asS r22'.1) fun s23' =>
              A18_1 s23'.1 s23'.2.1 s23'.2.2 Ax9 lx9 cx9 x10 (IntKind.i64.wrap (x11 + 1)) r22'.2 Q))))) (
     Q (.tuple #[.slice Ax4 lx4 cx4, .int .i64 0]) M)) :
    A18_1 Ax4 lx4 cx4 Ax9 lx9 cx9 x10 x11 M Q :=
  LvP.mk (cuts := K18) (sp := Z18) 900 H fun G => by kernel_rfl


end Go.Zt
