/- The functions' walks: for each function and each loop a rule of what it comes to. Printed by zw2.py. -/
import Derived.Test.YtgepgbblmodagaaProg
import Derived.Test.YtgepgbblmodagaaZkA
import Derived.Test.YtgepgbblmodagaaZqT
import Derived.Test.YtgepgbblmodagaaZkM
set_option linter.unusedVariables false
set_option maxRecDepth 100000
namespace Go.Zt
open Go Go.Sim Go.Proofs

def tyZlA0 : List Sc := [.bool, .int .i64, .bool, .bool, .int .i64, .int .i64, .int .i64, .int .i64, .int .i64, .int .i64, .int .i64, .int .i64, .int .i64, .int .i64, .int .i64, .int .i64, .int .i64, .bool, .int .i64, .int .i64, .int .i64, .int .i64, .int .i64, .bool, .int .i64, .int .i64, .sl, .bool, .bool, .bool]
/-! ### (*zoetrope/heads.coding).flag: function 73 -/
def K73 : List (List It × List Nat) := []
def Z73 : List (List Nat × List Nat) := []
theorem b73 : Try.prog.funcs[73]? = some Try.f73 ∧ (Orc.tab Try.prog).lookup 73 = none ∧ Try.f73.body = some (codeOf Try.f73) := ⟨by kernel_rfl, by kernel_rfl, by kernel_rfl⟩
theorem w73_0 {x0 x1 : Option Addr} {M : Mem} {Q : Value → Mem → Prop} (H :
    ptS ((M.new (.cells #[.int .i64 0] 3)).put (2 * M.nb.size) 0 (.int .i64 0)) fun M1' =>
    adS x1 fun a2' =>
    onS (M1'.boolAt a2'.block a2'.off) fun b3' =>
    cnd b3' (
     ptS (M1'.put (2 * M.nb.size) 0 (.int .i64 1)) fun M4' =>
     Cn Try.prog 74 #[.pointer x0, .pointer (some ⟨2 * M.nb.size, 0, none⟩), .int .i64 1, .int .i64 0] M4' fun v5' N5' =>
      onS (N5'.intAt .i64 (2 * M.nb.size) 0) fun x6' =>
      adS x1 fun a7' =>
      ptS (N5'.put a7'.block a7'.off (.bool (x6' == 1))) fun M8' =>
      Q (.tuple #[]) M8') (
     Cn Try.prog 74 #[.pointer x0, .pointer (some ⟨2 * M.nb.size, 0, none⟩), .int .i64 1, .int .i64 0] M1' fun v9' N9' =>
      onS (N9'.intAt .i64 (2 * M.nb.size) 0) fun x10' =>
      adS x1 fun a11' =>
      ptS (N9'.put a11'.block a11'.off (.bool (x10' == 1))) fun M12' =>
      Q (.tuple #[]) M12')) :
    Cn Try.prog 73 #[.pointer x0, .pointer x1] M Q :=
  Cn.mk (cuts := K73) (sp := Z73) 900 b73 rfl rfl H fun G => by kernel_rfl


/-! ### (*zoetrope/heads.coding).number: function 74 -/
def K74 : List (List It × List Nat) := []
def Z74 : List (List Nat × List Nat) := []
theorem b74 : Try.prog.funcs[74]? = some Try.f74 ∧ (Orc.tab Try.prog).lookup 74 = none ∧ Try.f74.body = some (codeOf Try.f74) := ⟨by kernel_rfl, by kernel_rfl, by kernel_rfl⟩
theorem w74_0 {x0 x1 : Option Addr} {x2 x3 : Int} {M : Mem} {Q : Value → Mem → Prop} (H :
    adS x0 fun a1' =>
    onS (M.intAt .i64 a1'.block (a1'.off + 2)) fun x2' =>
    cnd (x2' != 0) (
     Q (.tuple #[]) M) (
     adS x0 fun a3' =>
     onS (M.ptrAt a3'.block a3'.off) fun p4' =>
     cnd p4'.isSome (
      adS x0 fun a5' =>
      onS (M.ptrAt a5'.block a5'.off) fun p6' =>
      adS x1 fun a7' =>
      onS (M.intAt .i64 a7'.block a7'.off) fun x8' =>
      Cn Try.prog 22 #[.pointer p6', .int .u32 (IntKind.u32.wrap (IntKind.i64.wrap (x8' - x3))), .int .i64 x2] M fun v9' N9' =>
       tyS (asI .i64 v9') fun x10' =>
       adS x0 fun a11' =>
       ptS (N9'.put a11'.block (a11'.off + 2) (.int .i64 x10')) fun M12' =>
       Q (.tuple #[]) M12') (
      adS x0 fun a13' =>
      onS (M.ptrAt a13'.block (a13'.off + 1)) fun p14' =>
      Cn Try.prog 33 #[.pointer p14', .int .i64 x2] M fun v15' N15' =>
       tyS (asU 2 v15') fun cs16' =>
       tyS (asI .u32 (cs16'.getD 0 undef)) fun x17' =>
       tyS (asI .i64 (cs16'.getD 1 undef)) fun x18' =>
       adS x0 fun a19' =>
       ptS (N15'.put a19'.block (a19'.off + 2) (.int .i64 x18')) fun M20' =>
       adS x0 fun a21' =>
       onS (M20'.intAt .i64 a21'.block (a21'.off + 2)) fun x22' =>
       cnd (x22' == 0) (
        adS x1 fun a23' =>
        ptS (M20'.put a23'.block a23'.off (.int .i64 (IntKind.i64.wrap ((IntKind.i64.wrap (x17')) + x3)))) fun M24' =>
        Q (.tuple #[]) M24') (
        Q (.tuple #[]) M20')))) :
    Cn Try.prog 74 #[.pointer x0, .pointer x1, .int .i64 x2, .int .i64 x3] M Q :=
  Cn.mk (cuts := K74) (sp := Z74) 900 b74 rfl rfl H fun G => by kernel_rfl


/-! ### (*zoetrope/heads.coding).delta: function 75 -/
def K75 : List (List It × List Nat) := [([.code [1,1,0,1], .blk 0], [0, 1, 39]), ([.code [1,1,0,1,1,1,1,1,0,1,1], .code [1,1,0,1,1,1,1,1,1], .blk 0], [0, 1, 5, 31])]
def Z75 : List (List Nat × List Nat) := []
theorem b75 : Try.prog.funcs[75]? = some Try.f75 ∧ (Orc.tab Try.prog).lookup 75 = none ∧ Try.f75.body = some (codeOf Try.f75) := ⟨by kernel_rfl, by kernel_rfl, by kernel_rfl⟩
def A75_1 (x0 x1 : Option Addr) (x39 : Bool) (M : Mem) (Q : Value → Mem → Prop) : Prop := LvP Try.prog Try.f75 [(0, .pointer x0), (1, .pointer x1), (39, .bool x39)] [.code [1,1,0,1], .blk 0] M Q
def A75_2 (x0 x1 : Option Addr) (x5 : Int) (x31 : Bool) (M : Mem) (Q : Value → Mem → Prop) : Prop := LvP Try.prog Try.f75 [(0, .pointer x0), (1, .pointer x1), (5, .int .i32 x5), (31, .bool x31)] [.code [1,1,0,1,1,1,1,1,0,1,1], .code [1,1,0,1,1,1,1,1,1], .blk 0] M Q
theorem w75_0 {x0 x1 : Option Addr} {M : Mem} {Q : Value → Mem → Prop} (H :
    adS x1 fun a1' =>
    onS (M.intAt .i64 a1'.block a1'.off) fun x2' =>
    ptS ((M.new (.cells #[.bool false] 4)).put (2 * M.nb.size) 0 (.bool (x2' != 0))) fun M3' =>
    Cn Try.prog 73 #[.pointer x0, .pointer (some ⟨2 * M.nb.size, 0, none⟩)] M3' fun v4' N4' =>
     onS (N4'.boolAt (2 * M.nb.size) 0) fun b5' =>
     cnd (!b5') (
      A75_1 x0 x1 true N4' Q) (
      adS x0 fun a6' =>
      onS (N4'.intAt .i64 a6'.block (a6'.off + 2)) fun x7' =>
      A75_1 x0 x1 (x7' != 0) N4' Q)) :
    Cn Try.prog 75 #[.pointer x0, .pointer x1] M Q :=
  Cn.mk (cuts := K75) (sp := Z75) 900 b75 rfl rfl H fun G => by kernel_rfl

theorem w75_1 {x0 x1 : Option Addr} {x39 : Bool} {M : Mem} {Q : Value → Mem → Prop} (H :
    cnd x39 (
     Q (.tuple #[]) M) (
     adS x0 fun a8' =>
     onS (M.ptrAt a8'.block a8'.off) fun p9' =>
     cnd p9'.isSome (
      adS x0 fun a10' =>
      onS (M.ptrAt a10'.block a10'.off) fun p11' =>
      adS x1 fun a12' =>
      onS (M.intAt .i64 a12'.block a12'.off) fun x13' =>
      Cn Try.prog 43 #[.pointer p11', .int .i32 (IntKind.i32.wrap (x13')), .int .i64 5] M fun v14' N14' =>
       tyS (asI .i64 v14') fun x15' =>
       adS x0 fun a16' =>
       ptS (N14'.put a16'.block (a16'.off + 2) (.int .i64 x15')) fun M17' =>
       Q (.tuple #[]) M17') (
      adS x0 fun a18' =>
      onS (M.ptrAt a18'.block (a18'.off + 1)) fun p19' =>
      Cn Try.prog 82 #[.pointer p19', .int .i64 5] M fun v20' N20' =>
       tyS (asU 2 v20') fun cs21' =>
       tyS (asI .i32 (cs21'.getD 0 undef)) fun x22' =>
       tyS (asI .i64 (cs21'.getD 1 undef)) fun x23' =>
       adS x0 fun a24' =>
       ptS (N20'.put a24'.block (a24'.off + 2) (.int .i64 x23')) fun M25' =>
       adS x0 fun a26' =>
       onS (M25'.intAt .i64 a26'.block (a26'.off + 2)) fun x27' =>
       cnd (x27' == 0) (
        A75_2 x0 x1 x22' (x22' == 0) M25' Q) (
        A75_2 x0 x1 x22' false M25' Q)))) :
    A75_1 x0 x1 x39 M Q :=
  LvP.mk (cuts := K75) (sp := Z75) 900 H fun G => by kernel_rfl

theorem w75_2 {x0 x1 : Option Addr} {x5 : Int} {x31 : Bool} {M : Mem} {Q : Value → Mem → Prop} (H :
    cnd x31 (
     adS x0 fun a28' =>
     ptS (M.put a28'.block (a28'.off + 2) (.int .i64 4)) fun M29' =>
     adS x1 fun a30' =>
     ptS (M29'.put a30'.block a30'.off (.int .i64 (IntKind.i64.wrap (x5)))) fun M31' =>
     Q (.tuple #[]) M31') (
     adS x1 fun a32' =>
     ptS (M.put a32'.block a32'.off (.int .i64 (IntKind.i64.wrap (x5)))) fun M33' =>
     Q (.tuple #[]) M33')) :
    A75_2 x0 x1 x5 x31 M Q :=
  LvP.mk (cuts := K75) (sp := Z75) 900 H fun G => by kernel_rfl


/-! ### (*zoetrope/heads.coding).log: function 76 -/
def K76 : List (List It × List Nat) := [([.code [1,1]], [0, 21])]
def Z76 : List (List Nat × List Nat) := []
theorem b76 : Try.prog.funcs[76]? = some Try.f76 ∧ (Orc.tab Try.prog).lookup 76 = none ∧ Try.f76.body = some (codeOf Try.f76) := ⟨by kernel_rfl, by kernel_rfl, by kernel_rfl⟩
def A76_1 (x0 : Option Addr) (x21 : Bool) (M : Mem) (Q : Value → Mem → Prop) : Prop := LvP Try.prog Try.f76 [(0, .pointer x0), (21, .bool x21)] [.code [1,1]] M Q
theorem w76_0 {x0 x1 : Option Addr} {x2 : Int} {M : Mem} {Q : Value → Mem → Prop} (H :
    Cn Try.prog 74 #[.pointer x0, .pointer x1, .int .i64 2, .int .i64 0] M fun v1' N1' =>
     adS x0 fun a2' =>
     onS (N1'.intAt .i64 a2'.block (a2'.off + 2)) fun x3' =>
     cnd (x3' == 0) (
      adS x1 fun a4' =>
      onS (N1'.intAt .i64 a4'.block a4'.off) fun x5' =>
      Cn Try.prog 57 #[.int .i64 x5', .int .i64 x2] N1' fun v6' N6' =>
       tyS (asB v6') fun b7' =>
       A76_1 x0 (!b7') N6' Q) (
      A76_1 x0 false N1' Q)) :
    Cn Try.prog 76 #[.pointer x0, .pointer x1, .int .i64 x2] M Q :=
  Cn.mk (cuts := K76) (sp := Z76) 900 b76 rfl rfl H fun G => by kernel_rfl

theorem w76_1 {x0 : Option Addr} {x21 : Bool} {M : Mem} {Q : Value → Mem → Prop} (H :
    cnd x21 (
     adS x0 fun a8' =>
     ptS (M.put a8'.block (a8'.off + 2) (.int .i64 5)) fun M9' =>
     Q (.tuple #[]) M9') (
     Q (.tuple #[]) M)) :
    A76_1 x0 x21 M Q :=
  LvP.mk (cuts := K76) (sp := Z76) 900 H fun G => by kernel_rfl


/-! ### zoetrope/heads.logMay: function 57 -/
def K57 : List (List It × List Nat) := []
def Z57 : List (List Nat × List Nat) := []
theorem b57 : Try.prog.funcs[57]? = some Try.f57 ∧ (Orc.tab Try.prog).lookup 57 = none ∧ Try.f57.body = some (codeOf Try.f57) := ⟨by kernel_rfl, by kernel_rfl, by kernel_rfl⟩
theorem w57_0 {x0 x1 : Int} {M : Mem} {Q : Value → Mem → Prop} (H :
    Cn Try.prog 55 #[.int .i64 x0, .int .i64 0, .int .i64 2] M fun v1' N1' =>
     tyS (asB v1') fun b2' =>
     cnd b2' (
      puS (binV Try.prog .shl 3 3 (.int .i64 1) (.int .i64 x0)) fun v3' =>
      tyS (asI .i64 v3') fun x4' =>
      Q (.bool (decide (x4' ≤ (IntKind.i64.wrap ((IntKind.i64.wrap ((IntKind.i64.wrap (x1 + 64)) - 1)).tdiv 64))))) N1') (
      Q (.bool false) N1')) :
    Cn Try.prog 57 #[.int .i64 x0, .int .i64 x1] M Q :=
  Cn.mk (cuts := K57) (sp := Z57) 900 b57 rfl rfl H fun G => by kernel_rfl


/-! ### zoetrope/heads.lossless: function 77 -/
def K77 : List (List It × List Nat) := []
def Z77 : List (List Nat × List Nat) := []
theorem b77 : Try.prog.funcs[77]? = some Try.f77 ∧ (Orc.tab Try.prog).lookup 77 = none ∧ Try.f77.body = some (codeOf Try.f77) := ⟨by kernel_rfl, by kernel_rfl, by kernel_rfl⟩
theorem w77_0 {x0 : Array Value} {M : Mem} {Q : Value → Mem → Prop} (H :
    onS ((M.new (.cells x0 41)).intAt .i64 (2 * M.nb.size) (0 + 9)) fun x1' =>
    cnd (x1' == 0) (
     onS ((M.new (.cells x0 41)).intAt .i64 (2 * M.nb.size) (0 + 10)) fun x2' =>
     onS ((M.new (.cells x0 41)).intAt .i64 (2 * M.nb.size) (0 + 11)) fun x3' =>
     onS ((M.new (.cells x0 41)).intAt .i64 (2 * M.nb.size) (0 + 12)) fun x4' =>
     onS ((M.new (.cells x0 41)).intAt .i64 (2 * M.nb.size) (0 + 13)) fun x5' =>
     onS ((M.new (.cells x0 41)).intAt .i64 (2 * M.nb.size) (0 + 14)) fun x6' =>
     puS (binV Try.prog .eql 36 36 (.agg #[.int .i64 x2', .int .i64 x3', .int .i64 x4', .int .i64 x5', .int .i64 x6']) (.agg #[.int .i64 0, .int .i64 0, .int .i64 0, .int .i64 0, .int .i64 0])) fun v7' =>
     tyS (asB v7') fun b8' =>
     Q (.bool b8') (M.new (.cells x0 41))) (
     Q (.bool false) (M.new (.cells x0 41)))) :
    Cn Try.prog 77 #[.agg x0] M Q :=
  Cn.mk (cuts := K77) (sp := Z77) 900 b77 rfl rfl H fun G => by kernel_rfl


/-! ### (*zoetrope/heads.coding).filters: function 78 -/
def K78 : List (List It × List Nat) := [([.code [0,1,0,0], .lp [0,1,0,0], .blk 0, .code [1]], [0, 1, 8]), ([.code [1,1,1,0,1], .code [1,1,1,1]], [0, 1, 39]), ([.code [1,1,1,0,1,0,1,1,0,1], .code [1,1,1,0,1,0,1,1,1], .code [1,1,1,1]], [0, 1, 61]), ([.code [1,1,1,1,1,0,0], .lp [1,1,1,1,1,0,0], .blk 4], [0, 1, 106]), ([.code [1,1,1,0,1,0,1,1,1,1,0,0], .lp [1,1,1,0,1,0,1,1,1,1,0,0], .blk 2, .code [1,1,1,1]], [0, 1, 75, 76])]
def Z78 : List (List Nat × List Nat) := []
theorem b78 : Try.prog.funcs[78]? = some Try.f78 ∧ (Orc.tab Try.prog).lookup 78 = none ∧ Try.f78.body = some (codeOf Try.f78) := ⟨by kernel_rfl, by kernel_rfl, by kernel_rfl⟩
def A78_1 (x0 x1 : Option Addr) (x8 : Int) (M : Mem) (Q : Value → Mem → Prop) : Prop := LvP Try.prog Try.f78 [(0, .pointer x0), (1, .pointer x1), (8, .int .i64 x8)] [.code [0,1,0,0], .lp [0,1,0,0], .blk 0, .code [1]] M Q
def A78_2 (x0 x1 : Option Addr) (x39 : Bool) (M : Mem) (Q : Value → Mem → Prop) : Prop := LvP Try.prog Try.f78 [(0, .pointer x0), (1, .pointer x1), (39, .bool x39)] [.code [1,1,1,0,1], .code [1,1,1,1]] M Q
def A78_3 (x0 x1 : Option Addr) (x61 : Bool) (M : Mem) (Q : Value → Mem → Prop) : Prop := LvP Try.prog Try.f78 [(0, .pointer x0), (1, .pointer x1), (61, .bool x61)] [.code [1,1,1,0,1,0,1,1,0,1], .code [1,1,1,0,1,0,1,1,1], .code [1,1,1,1]] M Q
def A78_4 (x0 x1 : Option Addr) (x106 : Int) (M : Mem) (Q : Value → Mem → Prop) : Prop := LvP Try.prog Try.f78 [(0, .pointer x0), (1, .pointer x1), (106, .int .i64 x106)] [.code [1,1,1,1,1,0,0], .lp [1,1,1,1,1,0,0], .blk 4] M Q
def A78_5 (x0 x1 : Option Addr) (x75 x76 : Int) (M : Mem) (Q : Value → Mem → Prop) : Prop := LvP Try.prog Try.f78 [(0, .pointer x0), (1, .pointer x1), (75, .int .i64 x75), (76, .int .i64 x76)] [.code [1,1,1,0,1,0,1,1,1,1,0,0], .lp [1,1,1,0,1,0,1,1,1,1,0,0], .blk 2, .code [1,1,1,1]] M Q
theorem w78_0 {x0 x1 : Option Addr} {M : Mem} {Q : Value → Mem → Prop} (H :
    A78_1 x0 x1 0 M Q) :
    Cn Try.prog 78 #[.pointer x0, .pointer x1] M Q :=
  Cn.mk (cuts := K78) (sp := Z78) 900 b78 rfl rfl H fun G => by kernel_rfl

theorem w78_1 {x0 x1 : Option Addr} {x8 : Int} {M : Mem} {Q : Value → Mem → Prop} (H :
    cnd (decide (x8 < 4)) (
     adS x1 fun a1' =>
     ixS (idxA (some ⟨a1'.block, a1'.off + 18, none⟩) 4 1 x8) fun a2' =>
     Cn Try.prog 74 #[.pointer x0, .pointer (some a2'), .int .i64 6, .int .i64 0] M fun v3' N3' =>
      A78_1 x0 x1 (IntKind.i64.wrap (x8 + 1)) N3' Q) (
     adS x1 fun a4' =>
     Cn Try.prog 74 #[.pointer x0, .pointer (some ⟨a4'.block, a4'.off + 22, none⟩), .int .i64 3, .int .i64 0] M fun v5' N5' =>
      adS x1 fun a6' =>
      Cn Try.prog 73 #[.pointer x0, .pointer (some ⟨a6'.block, a6'.off + 23, none⟩)] N5' fun v7' N7' =>
       adS x1 fun a8' =>
       onS (N7'.boolAt a8'.block (a8'.off + 23)) fun b9' =>
       cnd b9' (
        adS x0 fun a10' =>
        onS (N7'.intAt .i64 a10'.block (a10'.off + 2)) fun x11' =>
        A78_2 x0 x1 (x11' == 0) N7' Q) (
        A78_2 x0 x1 false N7' Q))) :
    A78_1 x0 x1 x8 M Q :=
  LvP.mk (cuts := K78) (sp := Z78) 900 H fun G => by kernel_rfl

theorem w78_2 {x0 x1 : Option Addr} {x39 : Bool} {M : Mem} {Q : Value → Mem → Prop} (H :
    cnd x39 (
     adS x1 fun a12' =>
     Cn Try.prog 74 #[.pointer x0, .pointer (some ⟨a12'.block, a12'.off + 24, none⟩), .int .i64 2, .int .i64 3] M fun v13' N13' =>
      adS x1 fun a14' =>
      Cn Try.prog 74 #[.pointer x0, .pointer (some ⟨a14'.block, a14'.off + 25, none⟩), .int .i64 2, .int .i64 0] N13' fun v15' N15' =>
       adS x0 fun a16' =>
       onS (N15'.ptrAt a16'.block a16'.off) fun p17' =>
       cnd p17'.isNone (
        adS x0 fun a18' =>
        onS (N15'.intAt .i64 a18'.block (a18'.off + 2)) fun x19' =>
        A78_3 x0 x1 (x19' == 0) N15' Q) (
        A78_3 x0 x1 false N15' Q)) (
     A78_4 x0 x1 0 M Q)) :
    A78_2 x0 x1 x39 M Q :=
  LvP.mk (cuts := K78) (sp := Z78) 900 H fun G => by kernel_rfl

theorem w78_3 {x0 x1 : Option Addr} {x61 : Bool} {M : Mem} {Q : Value → Mem → Prop} (H :
    cnd x61 (
     adS x1 fun a20' =>
     onS (M.intAt .i64 a20'.block (a20'.off + 25)) fun x21' =>
     puS (binV Try.prog .shl 3 3 (.int .i64 1) (.int .i64 x21')) fun v22' =>
     tyS (asI .i64 v22') fun x23' =>
     meS (makeP Try.prog 38 (.int .i64 x23') (.int .i64 x23') M) fun r24' =>
     tyS (asS r24'.1) fun s25' =>
     adS x1 fun a26' =>
     ptS (r24'.2.put a26'.block (a26'.off + 26) (.slice s25'.1 (s25'.2.1) (s25'.2.2))) fun M27' =>
     adS x1 fun a28' =>
     onS (M27'.slAt a28'.block (a28'.off + 26)) fun s29' =>
     A78_5 x0 x1 (s29'.2.1 : Int) 0 M27' Q) (
     adS x1 fun a30' =>
     onS (M.slAt a30'.block (a30'.off + 26)) fun s31' =>
     A78_5 x0 x1 (s31'.2.1 : Int) 0 M Q)) :
    A78_3 x0 x1 x61 M Q :=
  LvP.mk (cuts := K78) (sp := Z78) 900 H fun G => by kernel_rfl

theorem w78_4 {x0 x1 : Option Addr} {x106 : Int} {M : Mem} {Q : Value → Mem → Prop} (H :
    cnd (decide (x106 < 3)) (
     adS x1 fun a32' =>
     ixS (idxA (some ⟨a32'.block, a32'.off + 27, none⟩) 3 1 x106) fun a33' =>
     Cn Try.prog 73 #[.pointer x0, .pointer (some a33')] M fun v34' N34' =>
      A78_4 x0 x1 (IntKind.i64.wrap (x106 + 1)) N34' Q) (
     Q (.tuple #[]) M)) :
    A78_4 x0 x1 x106 M Q :=
  LvP.mk (cuts := K78) (sp := Z78) 900 H fun G => by kernel_rfl

theorem w78_5 {x0 x1 : Option Addr} {x75 x76 : Int} {M : Mem} {Q : Value → Mem → Prop} (H :
    cnd (decide (x76 < x75)) (
     adS x1 fun a35' =>
     onS (M.slAt a35'.block (a35'.off + 26)) fun s36' =>
     ixS (idxA s36'.1 (s36'.2.1) 4 x76) fun a37' =>
     Cn Try.prog 74 #[.pointer x0, .pointer (some ⟨a37'.block, a37'.off, none⟩), .int .i64 4, .int .i64 0] M fun v38' N38' =>
      Cn Try.prog 74 #[.pointer x0, .pointer (some ⟨a37'.block, a37'.off + 1, none⟩), .int .i64 2, .int .i64 0] N38' fun v39' N39' =>
       Cn Try.prog 74 #[.pointer x0, .pointer (some ⟨a37'.block, a37'.off + 2, none⟩), .int .i64 4, .int .i64 0] N39' fun v40' N40' =>
        Cn Try.prog 74 #[.pointer x0, .pointer (some ⟨a37'.block, a37'.off + 3, none⟩), .int .i64 2, .int .i64 0] N40' fun v41' N41' =>
         A78_5 x0 x1 x75 (IntKind.i64.wrap (x76 + 1)) N41' Q) (
     A78_4 x0 x1 0 M Q)) :
    A78_5 x0 x1 x75 x76 M Q :=
  LvP.mk (cuts := K78) (sp := Z78) 900 H fun G => by kernel_rfl


/-! ### (*zoetrope/heads.coding).head: function 50 -/
def K50 : List (List It × List Nat) := [([.code [1,1,1,1,1,1,1,1,1,1,0,1,0,0], .lp [1,1,1,1,1,1,1,1,1,1,0,1,0,0], .blk 2, .code [1,1,1,1,1,1,1,1,1,1,1]], [0, 1, 5, 74]), ([.code [1,1,1,1,1,1,1,0,1,1,0,1,0,0], .lp [1,1,1,1,1,1,1,0,1,1,0,1,0,0], .blk 0, .code [1,1,1,1,1,1,1,0,1,1,1], .code [1,1,1,1,1,1,1,1]], [0, 1, 5, 6, 47])]
def Z50 : List (List Nat × List Nat) := []
theorem b50 : Try.prog.funcs[50]? = some Try.f50 ∧ (Orc.tab Try.prog).lookup 50 = none ∧ Try.f50.body = some (codeOf Try.f50) := ⟨by kernel_rfl, by kernel_rfl, by kernel_rfl⟩
def A50_1 (x0 x1 x5 : Option Addr) (x74 : Int) (M : Mem) (Q : Value → Mem → Prop) : Prop := LvP Try.prog Try.f50 [(0, .pointer x0), (1, .pointer x1), (5, .pointer x5), (74, .int .i64 x74)] [.code [1,1,1,1,1,1,1,1,1,1,0,1,0,0], .lp [1,1,1,1,1,1,1,1,1,1,0,1,0,0], .blk 2, .code [1,1,1,1,1,1,1,1,1,1,1]] M Q
def A50_2 (x0 x1 x5 x6 : Option Addr) (x47 : Int) (M : Mem) (Q : Value → Mem → Prop) : Prop := LvP Try.prog Try.f50 [(0, .pointer x0), (1, .pointer x1), (5, .pointer x5), (6, .pointer x6), (47, .int .i64 x47)] [.code [1,1,1,1,1,1,1,0,1,1,0,1,0,0], .lp [1,1,1,1,1,1,1,0,1,1,0,1,0,0], .blk 0, .code [1,1,1,1,1,1,1,0,1,1,1], .code [1,1,1,1,1,1,1,1]] M Q
theorem w50_0 {x0 x1 : Option Addr} {x2_0 x2_1 : Int} {M : Mem} {Q : Value → Mem → Prop} (H :
    adS x1 fun a1' =>
    Cn Try.prog 73 #[.pointer x0, .pointer (some ⟨a1'.block, a1'.off, none⟩)] (M.new (.cells #[.int .i64 x2_0, .int .i64 x2_1] 23)) fun v2' N2' =>
     adS x1 fun a3' =>
     onS (N2'.boolAt a3'.block a3'.off) fun b4' =>
     cnd b4' (
      adS x1 fun a5' =>
      Cn Try.prog 74 #[.pointer x0, .pointer (some ⟨a5'.block, a5'.off + 1, none⟩), .int .i64 3, .int .i64 0] N2' fun v6' N6' =>
       Q (.tuple #[]) N6') (
      adS x1 fun a7' =>
      Cn Try.prog 73 #[.pointer x0, .pointer (some ⟨a7'.block, a7'.off + 2, none⟩)] N2' fun v8' N8' =>
       adS x1 fun a9' =>
       Cn Try.prog 73 #[.pointer x0, .pointer (some ⟨a9'.block, a9'.off + 3, none⟩)] N8' fun v10' N10' =>
        adS x1 fun a11' =>
        Cn Try.prog 74 #[.pointer x0, .pointer (some ⟨a11'.block, a11'.off + 4, none⟩), .int .i64 8, .int .i64 0] N10' fun v12' N12' =>
         adS x1 fun a13' =>
         onS (N12'.intAt .i64 a13'.block (a13'.off + 8)) fun x14' =>
         ptS ((N12'.new (.cells #[.bool false] 4)).put (2 * N12'.nb.size) 0 (.bool (decide (x14' ≥ 0)))) fun M15' =>
         adS x1 fun a16' =>
         onS (M15'.boolAt a16'.block (a16'.off + 3)) fun b17' =>
         cnd b17' (
          ptS (M15'.put (2 * N12'.nb.size) 0 (.bool false)) fun M18' =>
          onS (M18'.boolAt (2 * N12'.nb.size) 0) fun b19' =>
          cnd b19' (
           adS x1 fun a20' =>
           Cn Try.prog 74 #[.pointer x0, .pointer (some ⟨a20'.block, a20'.off + 8, none⟩), .int .i64 3, .int .i64 0] M18' fun v21' N21' =>
            adS x1 fun a22' =>
            Cn Try.prog 74 #[.pointer x0, .pointer (some ⟨a22'.block, a22'.off + 9, none⟩), .int .i64 8, .int .i64 0] N21' fun v23' N23' =>
             A50_1 x0 x1 (some ⟨2 * M.nb.size, 0, none⟩) 0 N23' Q) (
           adS x1 fun a24' =>
           ptS (M18'.put a24'.block (a24'.off + 8) (.int .i64 (-1))) fun M25' =>
           adS x1 fun a26' =>
           Cn Try.prog 74 #[.pointer x0, .pointer (some ⟨a26'.block, a26'.off + 9, none⟩), .int .i64 8, .int .i64 0] M25' fun v27' N27' =>
            A50_1 x0 x1 (some ⟨2 * M.nb.size, 0, none⟩) 0 N27' Q)) (
          A50_2 x0 x1 (some ⟨2 * M.nb.size, 0, none⟩) (some ⟨2 * N12'.nb.size, 0, none⟩) 0 M15' Q))) :
    Cn Try.prog 50 #[.pointer x0, .pointer x1, .agg #[.int .i64 x2_0, .int .i64 x2_1]] M Q :=
  Cn.mk (cuts := K50) (sp := Z50) 900 b50 rfl rfl H fun G => by kernel_rfl

theorem w50_1 {x0 x1 x5 : Option Addr} {x74 : Int} {M : Mem} {Q : Value → Mem → Prop} (H :
    cnd (decide (x74 < 5)) (
     adS x1 fun a28' =>
     ixS (idxA (some ⟨a28'.block, a28'.off + 10, none⟩) 5 1 x74) fun a29' =>
     Cn Try.prog 75 #[.pointer x0, .pointer (some a29')] M fun v30' N30' =>
      A50_1 x0 x1 x5 (IntKind.i64.wrap (x74 + 1)) N30' Q) (
     adS x1 fun a31' =>
     adS x5 fun a32' =>
     onS (M.intAt .i64 a32'.block a32'.off) fun x33' =>
     Cn Try.prog 76 #[.pointer x0, .pointer (some ⟨a31'.block, a31'.off + 15, none⟩), .int .i64 x33'] M fun v34' N34' =>
      adS x1 fun a35' =>
      adS x5 fun a36' =>
      onS (N34'.intAt .i64 a36'.block (a36'.off + 1)) fun x37' =>
      Cn Try.prog 76 #[.pointer x0, .pointer (some ⟨a35'.block, a35'.off + 16, none⟩), .int .i64 x37'] N34' fun v38' N38' =>
       adS x1 fun a39' =>
       Cn Try.prog 73 #[.pointer x0, .pointer (some ⟨a39'.block, a39'.off + 17, none⟩)] N38' fun v40' N40' =>
        adS x1 fun a41' =>
        ldP tyZlA0 N40' a41'.block a41'.off fun vs42' =>
        Cn Try.prog 77 #[.agg vs42'.toArray] N40' fun v43' N43' =>
         tyS (asB v43') fun b44' =>
         cnd (!b44') (
          Cn Try.prog 78 #[.pointer x0, .pointer x1] N43' fun v45' N45' =>
           Q (.tuple #[]) N45') (
          Q (.tuple #[]) N43'))) :
    A50_1 x0 x1 x5 x74 M Q :=
  LvP.mk (cuts := K50) (sp := Z50) 900 H fun G => by kernel_rfl

theorem w50_2 {x0 x1 x5 x6 : Option Addr} {x47 : Int} {M : Mem} {Q : Value → Mem → Prop} (H :
    cnd (decide (x47 < 3)) (
     adS x1 fun a46' =>
     ixS (idxA (some ⟨a46'.block, a46'.off + 5, none⟩) 3 1 x47) fun a47' =>
     Cn Try.prog 74 #[.pointer x0, .pointer (some a47'), .int .i64 3, .int .i64 0] M fun v48' N48' =>
      A50_2 x0 x1 x5 x6 (IntKind.i64.wrap (x47 + 1)) N48' Q) (
     Cn Try.prog 73 #[.pointer x0, .pointer x6] M fun v49' N49' =>
      adS x6 fun a50' =>
      onS (N49'.boolAt a50'.block a50'.off) fun b51' =>
      cnd b51' (
       adS x1 fun a52' =>
       Cn Try.prog 74 #[.pointer x0, .pointer (some ⟨a52'.block, a52'.off + 8, none⟩), .int .i64 3, .int .i64 0] N49' fun v53' N53' =>
        adS x1 fun a54' =>
        Cn Try.prog 74 #[.pointer x0, .pointer (some ⟨a54'.block, a54'.off + 9, none⟩), .int .i64 8, .int .i64 0] N53' fun v55' N55' =>
         A50_1 x0 x1 x5 0 N55' Q) (
       adS x1 fun a56' =>
       ptS (N49'.put a56'.block (a56'.off + 8) (.int .i64 (-1))) fun M57' =>
       adS x1 fun a58' =>
       Cn Try.prog 74 #[.pointer x0, .pointer (some ⟨a58'.block, a58'.off + 9, none⟩), .int .i64 8, .int .i64 0] M57' fun v59' N59' =>
        A50_1 x0 x1 x5 0 N59' Q))) :
    A50_2 x0 x1 x5 x6 x47 M Q :=
  LvP.mk (cuts := K50) (sp := Z50) 900 H fun G => by kernel_rfl


end Go.Zt


/- Layer 20: which frame headers may be: heads, their cells, what is asked of them. -/
set_option linter.unusedSimpArgs false
set_option linter.unusedVariables false
set_option maxRecDepth 100000
namespace Go.Zt
open Go Go.Sim Go.Proofs Go.RowKit

structure Hd where
  ex : Bool
  sl : Int
  sh : Bool
  ke : Bool
  rf : Int
  r0 : Int
  r1 : Int
  r2 : Int
  pr : Int
  ba : Int
  d0 : Int
  d1 : Int
  d2 : Int
  d3 : Int
  d4 : Int
  co : Int
  ro : Int
  na : Bool
  l0 : Int
  l1 : Int
  l2 : Int
  l3 : Int
  sp : Int
  cd : Bool
  da : Int
  cb : Int
  A : Option Addr
  n : Nat
  c : Nat
  x0 : Bool
  x1 : Bool
  x2 : Bool
abbrev Hd.cs (h : Hd) : Array Value := #[.bool h.ex, .int .i64 h.sl, .bool h.sh, .bool h.ke, .int .i64 h.rf, .int .i64 h.r0, .int .i64 h.r1, .int .i64 h.r2, .int .i64 h.pr, .int .i64 h.ba, .int .i64 h.d0, .int .i64 h.d1, .int .i64 h.d2, .int .i64 h.d3, .int .i64 h.d4, .int .i64 h.co, .int .i64 h.ro, .bool h.na, .int .i64 h.l0, .int .i64 h.l1, .int .i64 h.l2, .int .i64 h.l3, .int .i64 h.sp, .bool h.cd, .int .i64 h.da, .int .i64 h.cb, .slice h.A h.n h.c, .bool h.x0, .bool h.x1, .bool h.x2]
/-- A strength. -/
structure Sg where
  a : Int
  b : Int
  c : Int
  d : Int
  deriving DecidableEq
abbrev Sg.cells (x : Sg) : List Value := [.int .i64 x.a, .int .i64 x.b, .int .i64 x.c, .int .i64 x.d]
abbrev Sgs (X : List Sg) : List Value := X.flatMap Sg.cells
theorem Sgs_len (X : List Sg) : (Sgs X).length = 4 * X.length := by
  induction X with
  | nil => rfl
  | cons x X ih => simp only [Sgs, List.flatMap_cons, List.length_append, List.length_cons, List.length_nil] at ih ⊢; omega
theorem Sgs_at {X : List Sg} {i : Nat} (h : i < X.length) : ∀ o, o < 4 → (Sgs X)[i * 4 + o]? = (X[i]).cells[o]? := by
  induction X generalizing i with
  | nil => simp at h
  | cons x X ih =>
    intro o ho
    cases i with
    | zero => simp only [Sgs, List.flatMap_cons, Nat.zero_mul, Nat.zero_add]; rw [List.getElem?_append_left (by simpa using ho)]; rfl
    | succ i =>
      simp only [Sgs, List.flatMap_cons]
      rw [List.getElem?_append_right (by simp; omega), show (i + 1) * 4 + o - (x.cells).length = i * 4 + o by simp; omega]
      exact ih (by simpa using h) o ho
/-- A strength of a row. -/
theorem Sgs.elt {M : Mem} {A : Option Addr} {X : List Sg} (hR : Row M A (Sgs X)) {n i : Nat} {z : Int} (hz : z = (i : Int)) (hn : i < n) (hi : i < X.length) :
    ∃ a, idxA A n 4 z = some a ∧ M.intAt .i64 a.block a.off = some X[i].a ∧ M.intAt .i64 a.block (a.off + 1) = some X[i].b ∧ M.intAt .i64 a.block (a.off + 2) = some X[i].c ∧ M.intAt .i64 a.block (a.off + 3) = some X[i].d := by
  have hl := Sgs_len X
  obtain ⟨a, h1, h2⟩ := hR.elt (s := 4) hz hn (by decide) (by omega)
  refine ⟨a, h1, cell_int ?_, cell_int ?_, cell_int ?_, cell_int ?_⟩
  · have := h2 0 (by decide); rw [Nat.add_zero] at this; rw [this, Sgs_at hi 0 (by decide)]; rfl
  · rw [h2 1 (by decide), Sgs_at hi 1 (by decide)]; rfl
  · rw [h2 2 (by decide), Sgs_at hi 2 (by decide)]; rfl
  · rw [h2 3 (by decide), Sgs_at hi 3 (by decide)]; rfl

/-! ### What may be -/
def Hd.less (h : Hd) : Bool := decide (h.ba = 0 ∧ h.d0 = 0 ∧ h.d1 = 0 ∧ h.d2 = 0 ∧ h.d3 = 0 ∧ h.d4 = 0)
def Sg.may (x : Sg) : Bool := decide ((0 ≤ x.a ∧ x.a ≤ 15) ∧ (0 ≤ x.c ∧ x.c ≤ 15) ∧ (0 ≤ x.b ∧ x.b ≤ 3) ∧ (0 ≤ x.d ∧ x.d ≤ 3))
def Hd.mayF (h : Hd) (X : List Sg) : Bool :=
  if h.less then decide ((h.l0 = 0 ∧ h.l1 = 0 ∧ h.l2 = 0 ∧ h.l3 = 0) ∧ h.sp = 0 ∧ h.cd = false ∧ h.da = 0 ∧ h.cb = 0 ∧ X.length = 0 ∧ (h.x0 = false ∧ h.x1 = false ∧ h.x2 = false))
  else decide ((0 ≤ h.sp ∧ h.sp ≤ 7) ∧ (if h.cd then (3 ≤ h.da ∧ h.da ≤ 6) ∧ (0 ≤ h.cb ∧ h.cb ≤ 3) ∧ X.length = 2 ^ h.cb.toNat else h.da = 0 ∧ h.cb = 0 ∧ X.length = 0) ∧
    (0 ≤ h.l0 ∧ h.l0 ≤ 63) ∧ (0 ≤ h.l1 ∧ h.l1 ≤ 63) ∧ (0 ≤ h.l2 ∧ h.l2 ≤ 63) ∧ (0 ≤ h.l3 ∧ h.l3 ≤ 63)) && X.all Sg.may
def Hd.mt (h : Hd) (X : List Sg) : Bool := decide (h.sh = false ∧ h.ke = false ∧ h.rf = 0 ∧ (h.r0 = 0 ∧ h.r1 = 0 ∧ h.r2 = 0) ∧ h.pr = 0 ∧ h.less = true ∧ h.co = 0 ∧ h.ro = 0 ∧ h.na = false ∧ h.mayF X = true)
def logM (n s : Int) : Bool := decide (0 ≤ n ∧ n ≤ 2 ∧ 2 ^ n.toNat ≤ (s + 63) / 64)
def Hd.may (h : Hd) (X : List Sg) (w e : Int) : Bool :=
  mayS w e && (if h.ex then decide (0 ≤ h.sl ∧ h.sl ≤ 7) && h.mt X
    else decide (h.sl = 0 ∧ (0 ≤ h.rf ∧ h.rf ≤ 255) ∧ (-1 ≤ h.pr ∧ h.pr ≤ 7) ∧ (0 ≤ h.ba ∧ h.ba ≤ 255)) && logM h.co w && logM h.ro e && h.mayF X && (!h.ke || decide ((h.r0 = 0 ∧ h.r1 = 0 ∧ h.r2 = 0) ∧ h.pr = -1))) &&
  decide ((0 ≤ h.r0 ∧ h.r0 ≤ 7) ∧ (0 ≤ h.r1 ∧ h.r1 ≤ 7) ∧ (0 ≤ h.r2 ∧ h.r2 ≤ 7)) &&
  decide ((-31 ≤ h.d0 ∧ h.d0 ≤ 31) ∧ (-31 ≤ h.d1 ∧ h.d1 ≤ 31) ∧ (-31 ≤ h.d2 ∧ h.d2 ≤ 31) ∧ (-31 ≤ h.d3 ∧ h.d3 ≤ 31) ∧ (-31 ≤ h.d4 ∧ h.d4 ≤ 31))

/-! ### Comparisons of arrays -/
theorem eqv {t : TypeId} {xs ys : List Value} (hg : isAggP Try.prog t = some true) (hf : flatTy Try.prog 3 t = true) (hx : fits Try.prog 3 t xs = true) (hy : fits Try.prog 3 t ys = true) (hG : Try.prog.eqGuardType Try.prog.depth t = false) (hp : plain (.agg xs.toArray) = true) (hq : plain (.agg ys.toArray) = true) {p : Prop} [Decidable p] (he : xs = ys ↔ p) :
    binV Try.prog .eql t t (.agg xs.toArray) (.agg ys.toArray) = some (.bool (decide p)) ∧ binV Try.prog .neq t t (.agg xs.toArray) (.agg ys.toArray) = some (.bool (!decide p)) := by
  obtain ⟨b, h1, h2, h3⟩ := binV_eqA (P := Try.prog) (k := 3) (t := t) (tb := t) (xs := xs) (ys := ys) (by decide) hg hf hx hy hG hp hq
  have : b = decide p := by
    rw [Bool.eq_iff_iff, h3, he, decide_eq_true_eq]
  rw [h1, h2, this]; exact ⟨rfl, rfl⟩
theorem eq35 (a b c a' b' c' : Int) : binV Try.prog .eql 35 35 (.agg #[.int .i64 a, .int .i64 b, .int .i64 c]) (.agg #[.int .i64 a', .int .i64 b', .int .i64 c']) = some (.bool (decide (a = a' ∧ b = b' ∧ c = c'))) ∧ binV Try.prog .neq 35 35 (.agg #[.int .i64 a, .int .i64 b, .int .i64 c]) (.agg #[.int .i64 a', .int .i64 b', .int .i64 c']) = some (.bool (!decide (a = a' ∧ b = b' ∧ c = c'))) :=
  eqv (xs := [.int .i64 a, .int .i64 b, .int .i64 c]) (ys := [.int .i64 a', .int .i64 b', .int .i64 c']) (by kernel_rfl) (by kernel_rfl) (by kernel_rfl) (by kernel_rfl) (by kernel_rfl) rfl rfl (by simp)
theorem eq37 (a b c d a' b' c' d' : Int) : binV Try.prog .eql 37 37 (.agg #[.int .i64 a, .int .i64 b, .int .i64 c, .int .i64 d]) (.agg #[.int .i64 a', .int .i64 b', .int .i64 c', .int .i64 d']) = some (.bool (decide (a = a' ∧ b = b' ∧ c = c' ∧ d = d'))) ∧ binV Try.prog .neq 37 37 (.agg #[.int .i64 a, .int .i64 b, .int .i64 c, .int .i64 d]) (.agg #[.int .i64 a', .int .i64 b', .int .i64 c', .int .i64 d']) = some (.bool (!decide (a = a' ∧ b = b' ∧ c = c' ∧ d = d'))) :=
  eqv (xs := [.int .i64 a, .int .i64 b, .int .i64 c, .int .i64 d]) (ys := [.int .i64 a', .int .i64 b', .int .i64 c', .int .i64 d']) (by kernel_rfl) (by kernel_rfl) (by kernel_rfl) (by kernel_rfl) (by kernel_rfl) rfl rfl (by simp)
theorem eq96 (a b c d a' b' c' d' : Int) : binV Try.prog .eql 96 96 (.agg #[.int .i64 a, .int .i64 b, .int .i64 c, .int .i64 d]) (.agg #[.int .i64 a', .int .i64 b', .int .i64 c', .int .i64 d']) = some (.bool (decide (a = a' ∧ b = b' ∧ c = c' ∧ d = d'))) ∧ binV Try.prog .neq 96 96 (.agg #[.int .i64 a, .int .i64 b, .int .i64 c, .int .i64 d]) (.agg #[.int .i64 a', .int .i64 b', .int .i64 c', .int .i64 d']) = some (.bool (!decide (a = a' ∧ b = b' ∧ c = c' ∧ d = d'))) :=
  eqv (xs := [.int .i64 a, .int .i64 b, .int .i64 c, .int .i64 d]) (ys := [.int .i64 a', .int .i64 b', .int .i64 c', .int .i64 d']) (by kernel_rfl) (by kernel_rfl) (by kernel_rfl) (by kernel_rfl) (by kernel_rfl) rfl rfl (by simp)
theorem eq36 (a b c d e a' b' c' d' e' : Int) : binV Try.prog .eql 36 36 (.agg #[.int .i64 a, .int .i64 b, .int .i64 c, .int .i64 d, .int .i64 e]) (.agg #[.int .i64 a', .int .i64 b', .int .i64 c', .int .i64 d', .int .i64 e']) = some (.bool (decide (a = a' ∧ b = b' ∧ c = c' ∧ d = d' ∧ e = e'))) ∧ binV Try.prog .neq 36 36 (.agg #[.int .i64 a, .int .i64 b, .int .i64 c, .int .i64 d, .int .i64 e]) (.agg #[.int .i64 a', .int .i64 b', .int .i64 c', .int .i64 d', .int .i64 e']) = some (.bool (!decide (a = a' ∧ b = b' ∧ c = c' ∧ d = d' ∧ e = e'))) :=
  eqv (xs := [.int .i64 a, .int .i64 b, .int .i64 c, .int .i64 d, .int .i64 e]) (ys := [.int .i64 a', .int .i64 b', .int .i64 c', .int .i64 d', .int .i64 e']) (by kernel_rfl) (by kernel_rfl) (by kernel_rfl) (by kernel_rfl) (by kernel_rfl) rfl rfl (by simp)
theorem eq39 (a b c a' b' c' : Bool) : binV Try.prog .eql 39 39 (.agg #[.bool a, .bool b, .bool c]) (.agg #[.bool a', .bool b', .bool c']) = some (.bool (decide (a = a' ∧ b = b' ∧ c = c'))) ∧ binV Try.prog .neq 39 39 (.agg #[.bool a, .bool b, .bool c]) (.agg #[.bool a', .bool b', .bool c']) = some (.bool (!decide (a = a' ∧ b = b' ∧ c = c'))) :=
  eqv (xs := [.bool a, .bool b, .bool c]) (ys := [.bool a', .bool b', .bool c']) (by kernel_rfl) (by kernel_rfl) (by kernel_rfl) (by kernel_rfl) (by kernel_rfl) rfl rfl (by simp)

/-! ### The program's checks -/
theorem dT {p : Prop} [Decidable p] (h : decide p = true) : p := of_decide_eq_true h
theorem dF {p : Prop} [Decidable p] (h : decide p = false) : ¬ p := of_decide_eq_false h
theorem bF {p : Prop} [Decidable p] (h : ¬ p) : (Value.bool false) = .bool (decide p) := by rw [decide_eq_false h]
theorem pow2 {n : Int} (h : 0 ≤ n ∧ n ≤ 3) : (2 : Int) ^ n.toNat ≤ 8 ∧ 1 ≤ (2 : Int) ^ n.toNat := by
  have : n.toNat = 0 ∨ n.toNat = 1 ∨ n.toNat = 2 ∨ n.toNat = 3 := by omega
  rcases this with h | h | h | h <;> rw [h] <;> decide
theorem c57 {n s : Int} {M : Mem} (hs : 16 ≤ s ∧ s ≤ 256) : Cn Try.prog 57 #[.int .i64 n, .int .i64 s] M fun v N => v = .bool (logM n s) ∧ N = M := by
  refine w57_0 (Cn.eq c55 (ty rfl (cd (fun h => ?_) fun h => ⟨bF (by omega), rfl⟩)))
  obtain ⟨p1, p2⟩ := pow2 (n := n) (by omega)
  refine pu (shl_i64 (q := n.toNat) (by omega) (by omega) (by omega)) (ty rfl ⟨?_, rfl⟩)
  rw [i64w (x := s + 64) (by omega), i64w (x := s + 64 - 1) (by omega), Int.tdiv_eq_ediv_of_nonneg (by omega), i64w (by omega), show s + 64 - 1 = s + 63 by omega, Int.one_mul]
  unfold logM
  congr 1
  rw [decide_eq_decide]
  exact ⟨fun h' => ⟨h.1, h.2, h'⟩, fun h' => h'.2.2⟩
theorem c77 {h : Hd} {M : Mem} : Cn Try.prog 77 #[.agg h.cs] M (BK M h.less) := by
  have a := Mem.new_at M (.cells h.cs 41)
  have K : Keep M (M.new (.cells h.cs 41)) := .new _ _
  refine w77_0 ?_
  generalize M.new (.cells h.cs 41) = N at a K ⊢
  refine on (int_of a rfl) (ce (fun e => on (int_of a rfl) (on (int_of a rfl) (on (int_of a rfl) (on (int_of a rfl) (on (int_of a rfl) (pu (eq36 ..).1 (ty rfl ⟨?_, K⟩))))))) fun e => ⟨bF fun hh => e hh.1, K⟩)
  unfold Hd.less; congr 1; rw [decide_eq_decide]; exact ⟨fun hh => ⟨e, hh⟩, fun hh => hh.2⟩
theorem c79 {x : Sg} {M : Mem} : Cn Try.prog 79 #[.agg #[.int .i64 x.a, .int .i64 x.b, .int .i64 x.c, .int .i64 x.d]] M (BK M x.may) := by
  have a := Mem.new_at M (.cells #[.int .i64 x.a, .int .i64 x.b, .int .i64 x.c, .int .i64 x.d] 96)
  have K : Keep M (M.new (.cells #[.int .i64 x.a, .int .i64 x.b, .int .i64 x.c, .int .i64 x.d] 96)) := .new _ _
  refine w79_0 ?_
  generalize M.new (.cells #[.int .i64 x.a, .int .i64 x.b, .int .i64 x.c, .int .i64 x.d] 96) = N at a K ⊢
  have e2 : ∀ b, (b = false → x.may = false) → (b = true → x.may = decide (0 ≤ x.d ∧ x.d ≤ 3)) → A79_2 (some ⟨2 * M.nb.size, 0, none⟩) b N (BK M x.may) := fun b h0 h1 =>
    w79_2 (cn (fun hb => ad rfl (on (int_of a rfl) (Cn.eq c55 (ty rfl ⟨by rw [h1 hb], K⟩)))) fun hb => ⟨by rw [h0 hb], K⟩)
  have e1 : ∀ b, (b = false → x.may = false) → (b = true → x.may = decide ((0 ≤ x.b ∧ x.b ≤ 3) ∧ (0 ≤ x.d ∧ x.d ≤ 3))) → A79_1 (some ⟨2 * M.nb.size, 0, none⟩) b N (BK M x.may) := fun b h0 h1 =>
    w79_1 (cn (fun hb => ad rfl (on (int_of a rfl) (Cn.eq c55 (ty rfl (e2 _ (fun h => by rw [h1 hb]; have := dF h; exact decide_eq_false (by omega)) fun h => by rw [h1 hb]; have := dT h; rw [decide_eq_decide]; omega))))) fun hb => e2 _ (fun _ => h0 hb) fun h => (by cases h))
  refine on (int_of (i := 0) a rfl) (Cn.eq c55 (ty rfl (cd (fun h => on (int_of a rfl) (Cn.eq c55 (ty rfl (e1 _ (fun h2 => ?_) fun h2 => ?_)))) fun h => e1 _ (fun _ => decide_eq_false (by omega)) fun h => (by cases h))))
  · have := dF h2; exact decide_eq_false (by omega)
  · have := dT h2; unfold Sg.may; rw [decide_eq_decide]; omega
end Go.Zt


/- Layer 20: the program's Check of a frame header. -/
set_option linter.unusedSimpArgs false
set_option linter.unusedVariables false
set_option maxRecDepth 100000
namespace Go.Zt
open Go Go.Sim Go.Proofs Go.RowKit

section
variable {h : Hd} {X : List Sg} {M0 M : Mem} {j : Nat}
theorem e58_10 {A : Option Addr} {n c : Nat} (hf : M0.floor ≤ M0.nb.size) (hn : n = X.length) (hb : n ≤ 1048576) {r : Bool} : ∀ (k i : Nat) {M : Mem}, i + k = n → Keep M0 M → Row M A (Sgs X) → (r = (X.drop i).all Sg.may) → A58_10 A n c (n : Int) (i : Int) M (BK M0 r)
  | 0, i, M, hi, K, hR, hr => w58_10 (cd (fun h => by omega) fun _ => ⟨by rw [hr, List.drop_of_length_le (by omega)]; rfl, K⟩)
  | k + 1, i, M, hi, K, hR, hr => by
    have hlt : i < X.length := by omega
    obtain ⟨a, g0, g1, g2, g3, g4⟩ := Sgs.elt hR (n := n) (i := i) (z := (i : Int)) rfl (by omega) hlt
    refine w58_10 (cT (decide_eq_true (by omega)) (ix g0 (on g1 (on g2 (on g3 (on g4 (stN (fb hf K) rfl rfl rfl fun M' K' _ a' => on (int_of a' rfl) (on (int_of a' rfl) (on (int_of a' rfl) (on (int_of a' rfl) (Cn.mono c79 ?_)))))))))))
    rintro _ N ⟨rfl, K2⟩
    rw [List.drop_eq_getElem_cons hlt, List.all_cons] at hr
    refine ty rfl (cnn (fun h => ⟨by rw [hr, h]; rfl, (K.trans K').trans K2⟩) fun h => ?_)
    rw [h, Bool.true_and] at hr
    rw [i64w (by omega)]
    exact e58_10 hf hn hb k (i + 1) (by omega) ((K.trans K').trans K2) ((hR.keep K').keep K2) hr
theorem e58_8 (hf : M0.floor ≤ M0.nb.size) (hn : h.n = X.length) (hb : h.n ≤ 1048576) (K : Keep M0 M) (hR : Row M h.A (Sgs X)) (a : M.nb[j]? = some (.cells h.cs 41))
    (hm : h.mayF X = (decide ((0 ≤ h.l0 ∧ h.l0 ≤ 63) ∧ (0 ≤ h.l1 ∧ h.l1 ≤ 63) ∧ (0 ≤ h.l2 ∧ h.l2 ≤ 63) ∧ (0 ≤ h.l3 ∧ h.l3 ≤ 63)) && X.all Sg.may)) : A58_8 (some ⟨2 * j, 0, none⟩) h.l0 h.l1 h.l2 h.l3 0 M (BK M0 (h.mayF X)) := by
  have bad : ¬ ((0 ≤ h.l0 ∧ h.l0 ≤ 63) ∧ (0 ≤ h.l1 ∧ h.l1 ≤ 63) ∧ (0 ≤ h.l2 ∧ h.l2 ≤ 63) ∧ (0 ≤ h.l3 ∧ h.l3 ≤ 63)) → BK M0 (h.mayF X) (.bool false) M := fun hb => ⟨by rw [hm, decide_eq_false hb]; rfl, K⟩
  refine w58_8 (cT (by decide) (pu (x := .int .i64 h.l0) (by kernel_rfl) (ty rfl (Cn.eq c55 (ty rfl (cnn (fun h0 => bad (by have := dF h0; omega)) fun h0 => ?_))))))
  refine w58_8 (cT (by decide) (pu (x := .int .i64 h.l1) (by kernel_rfl) (ty rfl (Cn.eq c55 (ty rfl (cnn (fun h1 => bad (by have := dF h1; omega)) fun h1 => ?_))))))
  refine w58_8 (cT (by decide) (pu (x := .int .i64 h.l2) (by kernel_rfl) (ty rfl (Cn.eq c55 (ty rfl (cnn (fun h2 => bad (by have := dF h2; omega)) fun h2 => ?_))))))
  refine w58_8 (cT (by decide) (pu (x := .int .i64 h.l3) (by kernel_rfl) (ty rfl (Cn.eq c55 (ty rfl (cnn (fun h3 => bad (by have := dF h3; omega)) fun h3 => ?_))))))
  refine w58_8 (cF (by decide) (ad rfl (on (sl_of a rfl) ?_)))
  have := dT h0; have := dT h1; have := dT h2; have := dT h3
  rw [decide_eq_true (by omega), Bool.true_and] at hm
  exact e58_10 hf hn hb h.n 0 (by omega) K hR (by rw [hm]; rfl)
/-- How many strengths there are to be. -/
def Hd.many (h : Hd) : Nat := if h.cd then 2 ^ (h.cb % 4).toNat else 0
theorem e58_2 (hf : M0.floor ≤ M0.nb.size) (hn : h.n = X.length) (hb : h.n ≤ 1048576) (K : Keep M0 M) (hR : Row M h.A (Sgs X)) (a : M.nb[j]? = some (.cells h.cs 41)) (hl : h.less = false) (b : Bool)
    (h1 : b = true → ¬ ((0 ≤ h.sp ∧ h.sp ≤ 7) ∧ X.length = h.many)) (h0 : b = false → (0 ≤ h.sp ∧ h.sp ≤ 7) ∧ X.length = h.many) : A58_2 (some ⟨2 * j, 0, none⟩) b M (BK M0 (h.mayF X)) := by
  have sp : h.mayF X = (decide ((0 ≤ h.sp ∧ h.sp ≤ 7) ∧ (if h.cd then (3 ≤ h.da ∧ h.da ≤ 6) ∧ (0 ≤ h.cb ∧ h.cb ≤ 3) ∧ X.length = 2 ^ h.cb.toNat else h.da = 0 ∧ h.cb = 0 ∧ X.length = 0) ∧
    (0 ≤ h.l0 ∧ h.l0 ≤ 63) ∧ (0 ≤ h.l1 ∧ h.l1 ≤ 63) ∧ (0 ≤ h.l2 ∧ h.l2 ≤ 63) ∧ (0 ≤ h.l3 ∧ h.l3 ≤ 63)) && X.all Sg.may) := by unfold Hd.mayF; rw [hl]; rfl
  have bad : ∀ {p : Prop}, p → (p → ¬ ((0 ≤ h.sp ∧ h.sp ≤ 7) ∧ (if h.cd then (3 ≤ h.da ∧ h.da ≤ 6) ∧ (0 ≤ h.cb ∧ h.cb ≤ 3) ∧ X.length = 2 ^ h.cb.toNat else h.da = 0 ∧ h.cb = 0 ∧ X.length = 0))) → BK M0 (h.mayF X) (.bool false) M := fun hp hb =>
    ⟨by rw [sp, decide_eq_false fun hh => hb hp ⟨hh.1, hh.2.1⟩]; rfl, K⟩
  have e6 : ∀ b : Bool, (b = true → ¬ (h.cd = false → h.da = 0 ∧ h.cb = 0)) → (b = false → (0 ≤ h.sp ∧ h.sp ≤ 7) ∧ X.length = h.many ∧ (h.cd = true → (3 ≤ h.da ∧ h.da ≤ 6) ∧ (0 ≤ h.cb ∧ h.cb ≤ 3)) ∧ (h.cd = false → h.da = 0 ∧ h.cb = 0)) → A58_6 (some ⟨2 * j, 0, none⟩) b M (BK M0 (h.mayF X)) := by
    intro b g1 g0
    refine w58_6 (cn (fun hb => bad (g1 hb) fun hh ⟨_, h2⟩ => hh fun hc => ?_) fun hb => ad rfl (on (int_of a rfl) (on (int_of a rfl) (on (int_of a rfl) (on (int_of a rfl) (e58_8 hf hn ‹_› K hR a ?_))))))
    · rw [hc, if_neg (by decide)] at h2; exact ⟨h2.1, h2.2.1⟩
    · obtain ⟨q1, q2, q3, q4⟩ := g0 hb
      rw [sp]
      congr 1
      rw [decide_eq_decide]
      refine ⟨fun hh => hh.2.2, fun hh => ⟨q1, ?_, hh⟩⟩
      cases hc : h.cd with
      | true =>
        rw [if_pos rfl]
        have := q3 hc
        refine ⟨this.1, this.2, ?_⟩
        rw [q2]; unfold Hd.many; rw [hc, if_pos rfl, Int.emod_eq_of_lt this.2.1 (by omega)]
      | false =>
        rw [if_neg (by decide)]
        have := q4 hc
        refine ⟨this.1, this.2, ?_⟩
        rw [q2]; unfold Hd.many; rw [hc]; rfl
  have e4 : ∀ b : Bool, (b = true → ¬ (h.cd = true → (3 ≤ h.da ∧ h.da ≤ 6) ∧ (0 ≤ h.cb ∧ h.cb ≤ 3))) → (b = false → (0 ≤ h.sp ∧ h.sp ≤ 7) ∧ X.length = h.many ∧ (h.cd = true → (3 ≤ h.da ∧ h.da ≤ 6) ∧ (0 ≤ h.cb ∧ h.cb ≤ 3))) → A58_4 (some ⟨2 * j, 0, none⟩) b M (BK M0 (h.mayF X)) := by
    intro b g1 g0
    refine w58_4 (cn (fun hb => bad (g1 hb) fun hh ⟨_, h2⟩ => hh fun hc => ?_) fun hb => ad rfl (on (bool_of a rfl) (cnn (fun hc => ad rfl (on (int_of a rfl) (cne (fun hd => e6 _ (fun _ hh => hd (hh hc).1) fun h => (by cases h)) fun hd => ad rfl (on (int_of a rfl) (e6 _ (fun hx hh => ne_of_bneT hx (hh hc).2) fun hx => ?_))))) fun hc => e6 _ (fun h => (by cases h)) fun _ => ?_)))
    · rw [hc, if_pos rfl] at h2; exact ⟨h2.1, h2.2.1⟩
    · obtain ⟨q1, q2, q3⟩ := g0 hb
      exact ⟨q1, q2, q3, fun _ => ⟨hd, eq_of_bneF hx⟩⟩
    · obtain ⟨q1, q2, q3⟩ := g0 hb
      exact ⟨q1, q2, q3, fun hc' => by rw [hc] at hc'; cases hc'⟩
  refine w58_2 (cn (fun hb => bad (h1 hb) fun hh ⟨g1, g2⟩ => hh ⟨g1, ?_⟩) fun hb => ad rfl (on (bool_of a rfl) (cn (fun hc => ad rfl (on (int_of a rfl) (Cn.eq c55 (ty rfl (cnn (fun hd => e4 _ (fun _ hh => dF hd (hh hc).1) fun h => (by cases h)) fun hd => ad rfl (on (int_of a rfl) (Cn.eq c55 (ty rfl (e4 _ (fun hx hh => ?_) fun hx => ?_))))))))) fun hc => e4 _ (fun h => (by cases h)) fun _ => ?_)))
  · cases hc : h.cd with
    | true =>
      rw [hc, if_pos rfl] at g2
      rw [g2.2.2]; unfold Hd.many; rw [hc, if_pos rfl, Int.emod_eq_of_lt g2.2.1.1 (by omega)]
    | false =>
      rw [hc, if_neg (by decide)] at g2
      rw [g2.2.2]; unfold Hd.many; rw [hc]; rfl
  · have hx' := dF (nb hx); exact hx' (hh hc).2
  · obtain ⟨q1, q2⟩ := h0 hb
    exact ⟨q1, q2, fun _ => ⟨dT hd, dT (nb' hx)⟩⟩
  · obtain ⟨q1, q2⟩ := h0 hb
    exact ⟨q1, q2, fun hc' => by rw [hc] at hc'; cases hc'⟩
theorem e58_1 (hn : h.n = X.length) (K : Keep M0 M) (a : M.nb[j]? = some (.cells h.cs 41)) (hl : h.less = true) (b : Bool)
    (hb : b = decide ((h.l0 = 0 ∧ h.l1 = 0 ∧ h.l2 = 0 ∧ h.l3 = 0) ∧ h.sp = 0)) : A58_1 (some ⟨2 * j, 0, none⟩) b M (BK M0 (h.mayF X)) := by
  have sp : h.mayF X = decide ((h.l0 = 0 ∧ h.l1 = 0 ∧ h.l2 = 0 ∧ h.l3 = 0) ∧ h.sp = 0 ∧ h.cd = false ∧ h.da = 0 ∧ h.cb = 0 ∧ X.length = 0 ∧ (h.x0 = false ∧ h.x1 = false ∧ h.x2 = false)) := by unfold Hd.mayF; rw [hl]; rfl
  have e9 : ∀ b : Bool, (b = decide (((h.l0 = 0 ∧ h.l1 = 0 ∧ h.l2 = 0 ∧ h.l3 = 0) ∧ h.sp = 0) ∧ h.cd = false ∧ h.da = 0 ∧ h.cb = 0 ∧ X.length = 0)) → A58_9 (some ⟨2 * j, 0, none⟩) b M (BK M0 (h.mayF X)) := by
    rintro b rfl
    refine w58_9 (cd (fun hh => ad rfl (on (bool_of a rfl) (on (bool_of a rfl) (on (bool_of a rfl) (pu (eq39 ..).1 (ty rfl ⟨?_, K⟩)))))) fun hh => ⟨?_, K⟩)
    · rw [sp]; congr 1; rw [decide_eq_decide]; exact ⟨fun g => ⟨hh.1.1, hh.1.2, hh.2.1, hh.2.2.1, hh.2.2.2.1, hh.2.2.2.2, g⟩, fun g => g.2.2.2.2.2.2⟩
    · rw [sp]; exact bF fun g => hh ⟨⟨g.1, g.2.1⟩, g.2.2.1, g.2.2.2.1, g.2.2.2.2.1, g.2.2.2.2.2.1⟩
  have e7 : ∀ b : Bool, (b = decide (((h.l0 = 0 ∧ h.l1 = 0 ∧ h.l2 = 0 ∧ h.l3 = 0) ∧ h.sp = 0) ∧ h.cd = false ∧ h.da = 0 ∧ h.cb = 0)) → A58_7 (some ⟨2 * j, 0, none⟩) b M (BK M0 (h.mayF X)) := by
    rintro b rfl
    refine w58_7 (cd (fun hh => ad rfl (on (sl_of a rfl) (e9 _ ?_))) fun hh => e9 _ ?_)
    · rw [Bool.eq_iff_iff, beq_iff_eq, decide_eq_true_eq, hn]
      show ((X.length : Nat) : Int) = 0 ↔ _
      exact ⟨fun g => ⟨hh.1, hh.2.1, hh.2.2.1, hh.2.2.2, by omega⟩, fun g => by have := g.2.2.2.2; omega⟩
    · rw [eq_comm]; exact decide_eq_false fun g => hh ⟨g.1, g.2.1, g.2.2.1, g.2.2.2.1⟩
  have e5 : ∀ b : Bool, (b = decide (((h.l0 = 0 ∧ h.l1 = 0 ∧ h.l2 = 0 ∧ h.l3 = 0) ∧ h.sp = 0) ∧ h.cd = false ∧ h.da = 0)) → A58_5 (some ⟨2 * j, 0, none⟩) b M (BK M0 (h.mayF X)) := by
    rintro b rfl
    refine w58_5 (cd (fun hh => ad rfl (on (int_of a rfl) (e7 _ ?_))) fun hh => e7 _ ?_)
    · rw [Bool.eq_iff_iff, beq_iff_eq, decide_eq_true_eq]
      exact ⟨fun g => ⟨hh.1, hh.2.1, hh.2.2, g⟩, fun g => g.2.2.2⟩
    · rw [eq_comm]; exact decide_eq_false fun g => hh ⟨g.1, g.2.1, g.2.2.1⟩
  have e3 : ∀ b : Bool, (b = decide (((h.l0 = 0 ∧ h.l1 = 0 ∧ h.l2 = 0 ∧ h.l3 = 0) ∧ h.sp = 0) ∧ h.cd = false)) → A58_3 (some ⟨2 * j, 0, none⟩) b M (BK M0 (h.mayF X)) := by
    rintro b rfl
    refine w58_3 (cd (fun hh => ad rfl (on (int_of a rfl) (e5 _ ?_))) fun hh => e5 _ ?_)
    · rw [Bool.eq_iff_iff, beq_iff_eq, decide_eq_true_eq]
      exact ⟨fun g => ⟨hh.1, hh.2, g⟩, fun g => g.2.2⟩
    · rw [eq_comm]; exact decide_eq_false fun g => hh ⟨g.1, g.2.1⟩
  subst hb
  refine w58_1 (cd (fun hh => ad rfl (on (bool_of a rfl) (e3 _ ?_))) fun hh => e3 _ ?_)
  · cases h.cd
    · rw [eq_comm]; exact decide_eq_true ⟨hh, rfl⟩
    · rw [eq_comm]; exact decide_eq_false fun g => by cases g.2
  · rw [eq_comm]; exact decide_eq_false fun g => hh g.1
theorem c58 (hf : M.floor ≤ M.nb.size) (hn : h.n = X.length) (hb : h.n ≤ 1048576) (hR : Row M h.A (Sgs X)) : Cn Try.prog 58 #[.agg h.cs] M (BK M (h.mayF X)) := by
  have a := Mem.new_at M (.cells h.cs 41)
  have K : Keep M (M.new (.cells h.cs 41)) := .new _ _
  refine w58_0 ?_
  generalize M.new (.cells h.cs 41) = N at a K ⊢
  have two : ∀ {N2 : Mem}, Keep N N2 → h.less = true → BK M (h.mayF X) = BK M (h.mayF X) := fun _ _ => rfl
  refine on (bool_of a rfl) (cn (fun hc => on (int_of a rfl) ?_) fun hc => ?_)
  · have mq : h.many = 2 ^ (h.cb % 4).toNat := by unfold Hd.many; rw [hc]; rfl
    have q3 : (h.cb % 4).toNat ≤ 3 := by omega
    have ew : IntKind.u64.wrap h.cb = (((h.cb % 18446744073709551616).toNat : Nat) : Int) := by rw [IntKind.wrap_u64]; omega
    have em := and_mask (k := .u64) rfl (x := (h.cb % 18446744073709551616).toNat) (m := 2) (c := 3) rfl (by decide) (show _ < 18446744073709551616 by omega)
    have e4 : (((h.cb % 18446744073709551616).toNat % 2 ^ 2 : Nat) : Int) = (((h.cb % 4).toNat : Nat) : Int) := by omega
    rw [ew, em, e4]
    have hp : (2 : Int) ^ (h.cb % 4).toNat = ((2 ^ (h.cb % 4).toNat : Nat) : Int) := by push_cast; rfl
    have hp8 : 2 ^ (h.cb % 4).toNat ≤ 8 := Nat.pow_le_pow_right (n := 2) (by decide) q3
    refine pu (shl_i64 (q := (h.cb % 4).toNat) rfl (by rw [hp]; omega) (by omega)) (ty rfl (ldA a rfl (Cn.mono c77 ?_)))
    rintro _ N2 ⟨rfl, K2⟩
    have a2 := at_keep a K2
    have KK := K.trans K2
    refine ty rfl (cn (fun hl => ?_) fun hl => ?_)
    · refine on (int_of a2 rfl) (on (int_of a2 rfl) (on (int_of a2 rfl) (on (int_of a2 rfl) (pu (eq37 ..).1 (ty rfl (cd (fun hh => on (int_of a2 rfl) (e58_1 hn KK a2 hl _ ?_)) fun hh => e58_1 hn KK a2 hl _ ?_))))))
      · rw [Bool.eq_iff_iff, beq_iff_eq, decide_eq_true_eq]; exact ⟨fun g => ⟨hh, g⟩, fun g => g.2⟩
      · rw [eq_comm]; exact decide_eq_false fun g => hh g.1
    · refine on (int_of a2 rfl) (Cn.eq c55 (ty rfl (cnn (fun hs => e58_2 hf hn hb KK (hR.keep KK) a2 hl _ (fun _ g => dF hs g.1) fun h => (by cases h)) fun hs => on (sl_of a2 rfl) (e58_2 hf hn hb KK (hR.keep KK) a2 hl _ (fun hx g => ?_) fun hx => ⟨dT hs, ?_⟩))))
      · have := ne_of_bneT hx
        rw [hp, hn, g.2, mq, Int.one_mul] at this; exact this rfl
      · have : ((h.n : Nat) : Int) = 1 * 2 ^ (h.cb % 4).toNat := eq_of_bneF hx
        rw [hp, hn, Int.one_mul] at this
        rw [mq]; omega
  · have mq : h.many = 0 := by unfold Hd.many; rw [hc]; rfl
    refine ldA a rfl (Cn.mono c77 ?_)
    rintro _ N2 ⟨rfl, K2⟩
    have a2 := at_keep a K2
    have KK := K.trans K2
    refine ty rfl (cn (fun hl => ?_) fun hl => ?_)
    · refine on (int_of a2 rfl) (on (int_of a2 rfl) (on (int_of a2 rfl) (on (int_of a2 rfl) (pu (eq37 ..).1 (ty rfl (cd (fun hh => on (int_of a2 rfl) (e58_1 hn KK a2 hl _ ?_)) fun hh => e58_1 hn KK a2 hl _ ?_))))))
      · rw [Bool.eq_iff_iff, beq_iff_eq, decide_eq_true_eq]; exact ⟨fun g => ⟨hh, g⟩, fun g => g.2⟩
      · rw [eq_comm]; exact decide_eq_false fun g => hh g.1
    · refine on (int_of a2 rfl) (Cn.eq c55 (ty rfl (cnn (fun hs => e58_2 hf hn hb KK (hR.keep KK) a2 hl _ (fun _ g => dF hs g.1) fun h => (by cases h)) fun hs => on (sl_of a2 rfl) (e58_2 hf hn hb KK (hR.keep KK) a2 hl _ (fun hx g => ?_) fun hx => ⟨dT hs, ?_⟩))))
      · have := ne_of_bneT hx
        rw [hn, g.2, mq] at this; exact this rfl
      · have : ((h.n : Nat) : Int) = 0 := eq_of_bneF hx
        rw [hn] at this
        rw [mq]; omega
theorem c56 (hf : M.floor ≤ M.nb.size) (hn : h.n = X.length) (hb : h.n ≤ 1048576) (hR : Row M h.A (Sgs X)) : Cn Try.prog 56 #[.agg h.cs] M (BK M (h.mt X)) := by
  have a := Mem.new_at M (.cells h.cs 41)
  have K : Keep M (M.new (.cells h.cs 41)) := .new _ _
  refine w56_0 ?_
  generalize M.new (.cells h.cs 41) = N at a K ⊢
  have sp : h.mt X = decide (h.sh = false ∧ h.ke = false ∧ h.rf = 0 ∧ (h.r0 = 0 ∧ h.r1 = 0 ∧ h.r2 = 0) ∧ h.pr = 0 ∧ h.less = true ∧ h.co = 0 ∧ h.ro = 0 ∧ h.na = false ∧ h.mayF X = true) := rfl
  generalize M.nb.size = j at a
  have e8 : ∀ {N : Mem} (b : Bool), Keep M N → N.nb[j]? = some (.cells h.cs 41) → (b = decide (h.sh = false ∧ h.ke = false ∧ h.rf = 0 ∧ (h.r0 = 0 ∧ h.r1 = 0 ∧ h.r2 = 0) ∧ h.pr = 0 ∧ h.less = true ∧ h.co = 0 ∧ h.ro = 0 ∧ h.na = false)) → A56_8 (some ⟨2 * j, 0, none⟩) b N (BK M (h.mt X)) := by
    rintro N b K a rfl
    refine w56_8 (cd (fun hh => ad rfl (ldA a rfl (Cn.mono (c58 (fb hf K) hn hb (hR.keep K)) ?_))) fun hh => ⟨?_, K⟩)
    · rintro _ N2 ⟨rfl, K2⟩
      refine ty rfl ⟨?_, K.trans K2⟩
      rw [sp]; congr 1
      rw [Bool.eq_iff_iff, decide_eq_true_eq]
      exact ⟨fun g => ⟨hh.1, hh.2.1, hh.2.2.1, hh.2.2.2.1, hh.2.2.2.2.1, hh.2.2.2.2.2.1, hh.2.2.2.2.2.2.1, hh.2.2.2.2.2.2.2.1, hh.2.2.2.2.2.2.2.2, g⟩, fun g => g.2.2.2.2.2.2.2.2.2⟩
    · rw [sp]; exact bF fun g => hh ⟨g.1, g.2.1, g.2.2.1, g.2.2.2.1, g.2.2.2.2.1, g.2.2.2.2.2.1, g.2.2.2.2.2.2.1, g.2.2.2.2.2.2.2.1, g.2.2.2.2.2.2.2.2.1⟩
  have fin : ∀ {b b' : Bool} {p : Prop} [Decidable p], b = true → (p ↔ b' = true) → b' = decide p := fun _ h => by rw [Bool.eq_iff_iff, decide_eq_true_eq]; exact h.symm
  have e7 : ∀ {N : Mem} (b : Bool), Keep M N → N.nb[j]? = some (.cells h.cs 41) → (b = decide (h.sh = false ∧ h.ke = false ∧ h.rf = 0 ∧ (h.r0 = 0 ∧ h.r1 = 0 ∧ h.r2 = 0) ∧ h.pr = 0 ∧ h.less = true ∧ h.co = 0 ∧ h.ro = 0)) → A56_7 (some ⟨2 * j, 0, none⟩) b N (BK M (h.mt X)) := by
    rintro N b K a rfl
    exact w56_7 (cd (fun hh => ad rfl (on (bool_of a rfl) (e8 _ K a (by simp only [hh, true_and]; cases h.na <;> rfl)))) fun hh => e8 _ K a (by rw [eq_comm]; exact decide_eq_false fun g => hh ⟨g.1, g.2.1, g.2.2.1, g.2.2.2.1, g.2.2.2.2.1, g.2.2.2.2.2.1, g.2.2.2.2.2.2.1, g.2.2.2.2.2.2.2.1⟩))
  have e6 : ∀ {N : Mem} (b : Bool), Keep M N → N.nb[j]? = some (.cells h.cs 41) → (b = decide (h.sh = false ∧ h.ke = false ∧ h.rf = 0 ∧ (h.r0 = 0 ∧ h.r1 = 0 ∧ h.r2 = 0) ∧ h.pr = 0 ∧ h.less = true ∧ h.co = 0)) → A56_6 (some ⟨2 * j, 0, none⟩) b N (BK M (h.mt X)) := by
    rintro N b K a rfl
    exact w56_6 (cd (fun hh => ad rfl (on (int_of a rfl) (e7 _ K a (by simp only [hh, true_and]; rfl)))) fun hh => e7 _ K a (by rw [eq_comm]; exact decide_eq_false fun g => hh ⟨g.1, g.2.1, g.2.2.1, g.2.2.2.1, g.2.2.2.2.1, g.2.2.2.2.2.1, g.2.2.2.2.2.2.1⟩))
  have e5 : ∀ {N : Mem} (b : Bool), Keep M N → N.nb[j]? = some (.cells h.cs 41) → (b = decide (h.sh = false ∧ h.ke = false ∧ h.rf = 0 ∧ (h.r0 = 0 ∧ h.r1 = 0 ∧ h.r2 = 0) ∧ h.pr = 0 ∧ h.less = true)) → A56_5 (some ⟨2 * j, 0, none⟩) b N (BK M (h.mt X)) := by
    rintro N b K a rfl
    exact w56_5 (cd (fun hh => ad rfl (on (int_of a rfl) (e6 _ K a (by simp only [hh, true_and]; rfl)))) fun hh => e6 _ K a (by rw [eq_comm]; exact decide_eq_false fun g => hh ⟨g.1, g.2.1, g.2.2.1, g.2.2.2.1, g.2.2.2.2.1, g.2.2.2.2.2.1⟩))
  have e4 : ∀ {N : Mem} (b : Bool), Keep M N → N.nb[j]? = some (.cells h.cs 41) → (b = decide (h.sh = false ∧ h.ke = false ∧ h.rf = 0 ∧ (h.r0 = 0 ∧ h.r1 = 0 ∧ h.r2 = 0) ∧ h.pr = 0)) → A56_4 (some ⟨2 * j, 0, none⟩) b N (BK M (h.mt X)) := by
    rintro N b K a rfl
    refine w56_4 (cd (fun hh => ad rfl (ldA a rfl (Cn.mono c77 ?_))) fun hh => e5 _ K a (by rw [eq_comm]; exact decide_eq_false fun g => hh ⟨g.1, g.2.1, g.2.2.1, g.2.2.2.1, g.2.2.2.2.1⟩))
    rintro _ N2 ⟨rfl, K2⟩
    exact ty rfl (e5 _ (K.trans K2) (at_keep a K2) (by simp only [hh, true_and]; cases h.less <;> rfl))
  have e3 : ∀ {N : Mem} (b : Bool), Keep M N → N.nb[j]? = some (.cells h.cs 41) → (b = decide (h.sh = false ∧ h.ke = false ∧ h.rf = 0 ∧ (h.r0 = 0 ∧ h.r1 = 0 ∧ h.r2 = 0))) → A56_3 (some ⟨2 * j, 0, none⟩) b N (BK M (h.mt X)) := by
    rintro N b K a rfl
    exact w56_3 (cd (fun hh => ad rfl (on (int_of a rfl) (e4 _ K a (by simp only [hh, true_and]; rfl)))) fun hh => e4 _ K a (by rw [eq_comm]; exact decide_eq_false fun g => hh ⟨g.1, g.2.1, g.2.2.1, g.2.2.2.1⟩))
  have e2 : ∀ {N : Mem} (b : Bool), Keep M N → N.nb[j]? = some (.cells h.cs 41) → (b = decide (h.sh = false ∧ h.ke = false ∧ h.rf = 0)) → A56_2 (some ⟨2 * j, 0, none⟩) b N (BK M (h.mt X)) := by
    rintro N b K a rfl
    exact w56_2 (cd (fun hh => ad rfl (on (int_of a rfl) (on (int_of a rfl) (on (int_of a rfl) (pu (eq35 ..).1 (ty rfl (e3 _ K a (by simp only [hh, true_and])))))))) fun hh => e3 _ K a (by rw [eq_comm]; exact decide_eq_false fun g => hh ⟨g.1, g.2.1, g.2.2.1⟩))
  have e1 : ∀ {N : Mem} (b : Bool), Keep M N → N.nb[j]? = some (.cells h.cs 41) → (b = decide (h.sh = false ∧ h.ke = false)) → A56_1 (some ⟨2 * j, 0, none⟩) b N (BK M (h.mt X)) := by
    rintro N b K a rfl
    exact w56_1 (cd (fun hh => ad rfl (on (int_of a rfl) (e2 _ K a (by simp only [hh, true_and]; rfl)))) fun hh => e2 _ K a (by rw [eq_comm]; exact decide_eq_false fun g => hh ⟨g.1, g.2.1⟩))
  exact on (bool_of a rfl) (cnn (fun hh => on (bool_of a rfl) (e1 _ K a (by simp only [hh, true_and]; cases h.ke <;> rfl))) fun hh => e1 _ K a (by rw [hh]; rfl))
end
end Go.Zt


/- Layer 20: the program's Check of a frame header, whole. -/
set_option linter.unusedSimpArgs false
set_option linter.unusedVariables false
set_option maxRecDepth 100000
namespace Go.Zt
open Go Go.Sim Go.Proofs Go.RowKit

section
variable {h : Hd} {X : List Sg} {M0 M : Mem} {j i w e : Nat}
theorem s26_6 {b : Bool} {d0 d1 d2 d3 d4 i x : Int} {Q : Value → Mem → Prop} (hi : i < 5) (hx : strV Try.prog 36 (.agg #[.int .i64 d0, .int .i64 d1, .int .i64 d2, .int .i64 d3, .int .i64 d4]) (.int .i64 i) = some (.int .i64 x))
    (k : A26_6 (b && decide (-31 ≤ x ∧ x ≤ 31)) d0 d1 d2 d3 d4 (IntKind.i64.wrap (i + 1)) M Q) : A26_6 b d0 d1 d2 d3 d4 i M Q :=
  w26_6 (cT (decide_eq_true hi) (pu hx (ty rfl (cn (fun hb => Cn.eq c55 (ty rfl (w26_9 (w26_11 (by rw [hb] at k; exact k))))) fun hb => w26_9 (w26_11 (by rw [hb] at k; exact k))))))
theorem s26_3 {x2 : Option Addr} {b : Bool} {d0 d1 d2 i x : Int} {Q : Value → Mem → Prop} (hi : i < 3) (hx : strV Try.prog 35 (.agg #[.int .i64 d0, .int .i64 d1, .int .i64 d2]) (.int .i64 i) = some (.int .i64 x))
    (k : A26_3 x2 (b && decide (0 ≤ x ∧ x ≤ 7)) d0 d1 d2 (IntKind.i64.wrap (i + 1)) M Q) : A26_3 x2 b d0 d1 d2 i M Q :=
  w26_3 (cT (decide_eq_true hi) (pu hx (ty rfl (cn (fun hb => Cn.eq c55 (ty rfl (w26_5 (w26_8 (by rw [hb] at k; exact k))))) fun hb => w26_5 (w26_8 (by rw [hb] at k; exact k))))))
/-- The number of a truth. -/
def er (b : Bool) : Nat := if b then 0 else 2
theorem and5 {a b c d e : Bool} {pa pb pc pd pe : Prop} [Decidable pa] [Decidable pb] [Decidable pc] [Decidable pd] [Decidable pe] {z : Bool} :
    (((((z && decide pa) && decide pb) && decide pc) && decide pd) && decide pe) = (z && decide (pa ∧ pb ∧ pc ∧ pd ∧ pe)) := by
  rw [Bool.eq_iff_iff]; simp only [Bool.and_eq_true, decide_eq_true_eq, and_assoc]
theorem and3 {pa pb pc : Prop} [Decidable pa] [Decidable pb] [Decidable pc] {z : Bool} : (((z && decide pa) && decide pb) && decide pc) = (z && decide (pa ∧ pb ∧ pc)) := by
  rw [Bool.eq_iff_iff]; simp only [Bool.and_eq_true, decide_eq_true_eq, and_assoc]
theorem e26_1 (K : Keep M0 M) (a : M.nb[j]? = some (.cells h.cs 41)) (b : Bool) : A26_1 (some ⟨2 * j, 0, none⟩) b M (IntK M0 (er (b && decide ((0 ≤ h.r0 ∧ h.r0 ≤ 7) ∧ (0 ≤ h.r1 ∧ h.r1 ≤ 7) ∧ (0 ≤ h.r2 ∧ h.r2 ≤ 7)) &&
  decide ((-31 ≤ h.d0 ∧ h.d0 ≤ 31) ∧ (-31 ≤ h.d1 ∧ h.d1 ≤ 31) ∧ (-31 ≤ h.d2 ∧ h.d2 ≤ 31) ∧ (-31 ≤ h.d3 ∧ h.d3 ≤ 31) ∧ (-31 ≤ h.d4 ∧ h.d4 ≤ 31))) : Nat)) := by
  refine w26_1 (ad rfl (on (int_of a rfl) (on (int_of a rfl) (on (int_of a rfl) ?_))))
  refine s26_3 (by decide) (x := h.r0) (by kernel_rfl) (s26_3 (by decide) (x := h.r1) (by kernel_rfl) (s26_3 (by decide) (x := h.r2) (by kernel_rfl) (w26_3 (cF (by decide) ?_))))
  rw [and3]
  generalize (b && decide ((0 ≤ h.r0 ∧ h.r0 ≤ 7) ∧ (0 ≤ h.r1 ∧ h.r1 ≤ 7) ∧ (0 ≤ h.r2 ∧ h.r2 ≤ 7))) = b
  refine ad rfl (on (int_of a rfl) (on (int_of a rfl) (on (int_of a rfl) (on (int_of a rfl) (on (int_of a rfl) ?_)))))
  refine s26_6 (by decide) (x := h.d0) (by kernel_rfl) (s26_6 (by decide) (x := h.d1) (by kernel_rfl) (s26_6 (by decide) (x := h.d2) (by kernel_rfl) (s26_6 (by decide) (x := h.d3) (by kernel_rfl) (s26_6 (by decide) (x := h.d4) (by kernel_rfl) (w26_6 (cF (by decide) ?_))))))
  rw [and5 (a := b) (b := b) (c := b) (d := b) (e := b)]
  generalize (b && decide ((-31 ≤ h.d0 ∧ h.d0 ≤ 31) ∧ (-31 ≤ h.d1 ∧ h.d1 ≤ 31) ∧ (-31 ≤ h.d2 ∧ h.d2 ≤ 31) ∧ (-31 ≤ h.d3 ∧ h.d3 ≤ 31) ∧ (-31 ≤ h.d4 ∧ h.d4 ≤ 31))) = b
  exact cnn (fun hb => ⟨by rw [hb]; rfl, K⟩) fun hb => ⟨by rw [hb]; rfl, K⟩
theorem c26 {w e : Int} (hf : M.floor ≤ M.nb.size) (hn : h.n = X.length) (hb : h.n ≤ 1048576) (hR : Row M h.A (Sgs X)) : Cn Try.prog 26 #[.agg h.cs, .agg #[.int .i64 w, .int .i64 e]] M (IntK M (er (h.may X w e) : Nat)) := by
  have a := Mem.new_at M (.cells h.cs 41)
  have K : Keep M (M.new (.cells h.cs 41)) := .new _ _
  refine w26_0 ?_
  generalize M.new (.cells h.cs 41) = N at a K ⊢
  have s := Mem.new_at N (.cells #[.int .i64 w, .int .i64 e] 23)
  have K2 : Keep N (N.new (.cells #[.int .i64 w, .int .i64 e] 23)) := .new _ _
  have a2 := at_keep a K2
  generalize N.new (.cells #[.int .i64 w, .int .i64 e] 23) = N2 at s K2 a2 ⊢
  have KK := K.trans K2
  generalize M.nb.size = j at a2
  generalize N.nb.size = i at s
  refine on (int_of s rfl) (on (int_of s rfl) (Cn.mono c14 ?_))
  rintro _ N3 ⟨rfl, K3⟩
  have a3 := at_keep a2 K3
  have s3 := at_keep s K3
  have KK3 := KK.trans K3
  clear a2 s a
  refine ty rfl (on (bool_of a3 rfl) ?_)
  -- the end of every road
  have fin : ∀ {N : Mem} (b : Bool), Keep M N → N.nb[j]? = some (.cells h.cs 41) → (b = (mayS w e && (if h.ex then decide (0 ≤ h.sl ∧ h.sl ≤ 7) && h.mt X
    else decide (h.sl = 0 ∧ (0 ≤ h.rf ∧ h.rf ≤ 255) ∧ (-1 ≤ h.pr ∧ h.pr ≤ 7) ∧ (0 ≤ h.ba ∧ h.ba ≤ 255)) && logM h.co w && logM h.ro e && h.mayF X && (!h.ke || decide ((h.r0 = 0 ∧ h.r1 = 0 ∧ h.r2 = 0) ∧ h.pr = -1))))) → A26_1 (some ⟨2 * j, 0, none⟩) b N (IntK M (er (h.may X w e) : Nat)) := by
    intro N b K a hb
    have := e26_1 K a b
    rw [hb] at this ⊢
    exact this
  have m0 : ((chkS w e : Nat) : Int) = 0 → mayS w e = true := chk0
  have m1 : ((chkS w e : Nat) : Int) ≠ 0 → mayS w e = false := chk1
  refine cn (fun hx => ce (fun hm => on (int_of a3 rfl) (Cn.eq c55 (ty rfl (cd (fun hs => ldA a3 rfl (Cn.mono (c56 (fb hf KK3) hn hb (hR.keep KK3)) ?_)) fun hs => fin _ KK3 a3 ?_)))) fun hm => fin _ KK3 a3 ?_) fun hx => ?_
  · rintro _ N4 ⟨rfl, K4⟩
    refine ty rfl (fin _ (KK3.trans K4) (at_keep a3 K4) ?_)
    rw [m0 hm, hx, if_pos rfl, decide_eq_true hs]; rfl
  · rw [hx, if_pos rfl, decide_eq_false hs]; simp
  · rw [m1 hm]; rfl
  have sz : mayS w e = true → (16 ≤ w ∧ w ≤ 256) ∧ (16 ≤ e ∧ e ≤ 256) := fun g => by have := mayS_of g; omega
  have e14 : ∀ {N : Mem} (b : Bool), Keep M N → N.nb[j]? = some (.cells h.cs 41) → (b = (mayS w e && (decide (h.sl = 0 ∧ (0 ≤ h.rf ∧ h.rf ≤ 255) ∧ (-1 ≤ h.pr ∧ h.pr ≤ 7) ∧ (0 ≤ h.ba ∧ h.ba ≤ 255)) && logM h.co w && logM h.ro e && h.mayF X))) → A26_14 (some ⟨2 * j, 0, none⟩) b N (IntK M (er (h.may X w e) : Nat)) := by
    intro N b K a g
    have go : ∀ b', b' = (b && (!h.ke || decide ((h.r0 = 0 ∧ h.r1 = 0 ∧ h.r2 = 0) ∧ h.pr = -1))) → A26_1 (some ⟨2 * j, 0, none⟩) b' N (IntK M (er (h.may X w e) : Nat)) := fun b' g' => fin b' K a (by rw [g', g, hx, if_neg (by decide), Bool.and_assoc])
    refine w26_14 (cn (fun hb => ad rfl (on (bool_of a rfl) (cnn (fun hk => go _ (by rw [hb, hk]; rfl)) fun hk => ad rfl (on (int_of a rfl) (on (int_of a rfl) (on (int_of a rfl) (pu (eq35 ..).1 (ty rfl (cd (fun hr => ad rfl (on (int_of a rfl) (go _ ?_))) fun hr => go _ ?_))))))))) fun hb => go _ (by rw [hb]; rfl))
    · rw [hb, hk, Bool.eq_iff_iff, beq_iff_eq]; simp [hr]
    · rw [hb, hk]; simp [hr]
  have e13 : ∀ {N : Mem} (b : Bool), Keep M N → N.nb[j]? = some (.cells h.cs 41) → (b = (mayS w e && (decide (h.sl = 0 ∧ (0 ≤ h.rf ∧ h.rf ≤ 255) ∧ (-1 ≤ h.pr ∧ h.pr ≤ 7) ∧ (0 ≤ h.ba ∧ h.ba ≤ 255)) && logM h.co w && logM h.ro e))) → A26_13 (some ⟨2 * j, 0, none⟩) b N (IntK M (er (h.may X w e) : Nat)) := by
    intro N b K a g
    refine w26_13 (cn (fun hb' => ad rfl (ldA a rfl (Cn.mono (c58 (fb hf K) hn hb (hR.keep K)) ?_))) fun hb' => e14 _ K a (by rw [← Bool.and_assoc, ← g, hb']; rfl))
    rintro _ N4 ⟨rfl, K4⟩
    exact ty rfl (e14 _ (K.trans K4) (at_keep a K4) (by rw [← Bool.and_assoc, ← g, hb']; rfl))
  have e12 : ∀ {N : Mem} (b : Bool), Keep M N → N.nb[j]? = some (.cells h.cs 41) → N.nb[i]? = some (.cells #[.int .i64 w, .int .i64 e] 23) → (b = (mayS w e && (decide (h.sl = 0 ∧ (0 ≤ h.rf ∧ h.rf ≤ 255) ∧ (-1 ≤ h.pr ∧ h.pr ≤ 7) ∧ (0 ≤ h.ba ∧ h.ba ≤ 255)) && logM h.co w))) → A26_12 (some ⟨2 * j, 0, none⟩) (some ⟨2 * i, 0, none⟩) b N (IntK M (er (h.may X w e) : Nat)) := by
    intro N b K a s g
    refine w26_12 (cn (fun hb' => ad rfl (on (int_of a rfl) (ad rfl (on (int_of s rfl) (Cn.eq (c57 (sz ?_).2) (ty rfl (e13 _ K a ?_))))))) fun hb' => e13 _ K a (by rw [← Bool.and_assoc, ← g, hb']; rfl))
    · rw [hb', eq_comm, Bool.and_eq_true] at g; exact g.1
    · rw [← Bool.and_assoc, ← g, hb']; rfl
  have e10 : ∀ {N : Mem} (b : Bool), Keep M N → N.nb[j]? = some (.cells h.cs 41) → N.nb[i]? = some (.cells #[.int .i64 w, .int .i64 e] 23) → (b = (mayS w e && decide (h.sl = 0 ∧ (0 ≤ h.rf ∧ h.rf ≤ 255) ∧ (-1 ≤ h.pr ∧ h.pr ≤ 7) ∧ (0 ≤ h.ba ∧ h.ba ≤ 255)))) → A26_10 (some ⟨2 * j, 0, none⟩) (some ⟨2 * i, 0, none⟩) b N (IntK M (er (h.may X w e) : Nat)) := by
    intro N b K a s g
    refine w26_10 (cn (fun hb' => ad rfl (on (int_of a rfl) (ad rfl (on (int_of s rfl) (Cn.eq (c57 (sz ?_).1) (ty rfl (e12 _ K a s ?_))))))) fun hb' => e12 _ K a s (by rw [← Bool.and_assoc, ← g, hb']; rfl))
    · rw [hb', eq_comm, Bool.and_eq_true] at g; exact g.1
    · rw [← Bool.and_assoc, ← g, hb']; rfl
  have dd : ∀ {p q r : Prop} [Decidable p] [Decidable q] [Decidable r] {b : Bool}, b = (mayS w e && decide p) → b = true → (p → (q ↔ r)) → decide q = (mayS w e && decide (p ∧ r)) := by
    intro p q r _ _ _ b g hb hq
    rw [hb, eq_comm, Bool.and_eq_true] at g
    have hp := of_decide_eq_true g.2
    rw [g.1, Bool.true_and, decide_eq_decide, hq hp]; exact ⟨fun x => ⟨hp, x⟩, fun x => x.2⟩
  have df : ∀ {p r : Prop} [Decidable p] [Decidable r] {b : Bool}, b = (mayS w e && decide p) → b = false → false = (mayS w e && decide (p ∧ r)) := by
    intro p r _ _ b g hb
    rw [hb] at g
    cases hm : mayS w e
    · rfl
    · rw [hm, Bool.true_and] at g
      have := of_decide_eq_false g.symm
      rw [Bool.true_and, eq_comm]; exact decide_eq_false fun x => this x.1
  have as4 : ∀ {p q r s : Prop} [Decidable p] [Decidable q] [Decidable r] [Decidable s] {b : Bool}, b = (mayS w e && decide (((p ∧ q) ∧ r) ∧ s)) → b = (mayS w e && decide (p ∧ q ∧ r ∧ s)) := by
    intro p q r s _ _ _ _ b g
    rw [g]; congr 1; rw [decide_eq_decide]; exact ⟨fun x => ⟨x.1.1.1, x.1.1.2, x.1.2, x.2⟩, fun x => ⟨⟨⟨x.1, x.2.1⟩, x.2.2.1⟩, x.2.2.2⟩⟩
  have e7 : ∀ {N : Mem} (b : Bool), Keep M N → N.nb[j]? = some (.cells h.cs 41) → N.nb[i]? = some (.cells #[.int .i64 w, .int .i64 e] 23) → (b = (mayS w e && decide ((h.sl = 0 ∧ (0 ≤ h.rf ∧ h.rf ≤ 255)) ∧ (-1 ≤ h.pr ∧ h.pr ≤ 7)))) → A26_7 (some ⟨2 * j, 0, none⟩) (some ⟨2 * i, 0, none⟩) b N (IntK M (er (h.may X w e) : Nat)) := by
    intro N b K a s g
    exact w26_7 (cn (fun hb' => ad rfl (on (int_of a rfl) (Cn.eq c55 (ty rfl (e10 _ K a s (as4 (dd g hb' fun _ => Iff.rfl))))))) fun hb' => e10 _ K a s (as4 (df g hb')))
  have e4 : ∀ {N : Mem} (b : Bool), Keep M N → N.nb[j]? = some (.cells h.cs 41) → N.nb[i]? = some (.cells #[.int .i64 w, .int .i64 e] 23) → (b = (mayS w e && decide (h.sl = 0 ∧ (0 ≤ h.rf ∧ h.rf ≤ 255)))) → A26_4 (some ⟨2 * j, 0, none⟩) (some ⟨2 * i, 0, none⟩) b N (IntK M (er (h.may X w e) : Nat)) := by
    intro N b K a s g
    exact w26_4 (cn (fun hb' => ad rfl (on (int_of a rfl) (Cn.eq c55 (ty rfl (e7 _ K a s (dd g hb' fun _ => Iff.rfl)))))) fun hb' => e7 _ K a s (df g hb'))
  have e2 : ∀ {N : Mem} (b : Bool), Keep M N → N.nb[j]? = some (.cells h.cs 41) → N.nb[i]? = some (.cells #[.int .i64 w, .int .i64 e] 23) → (b = (mayS w e && decide (h.sl = 0))) → A26_2 (some ⟨2 * j, 0, none⟩) (some ⟨2 * i, 0, none⟩) b N (IntK M (er (h.may X w e) : Nat)) := by
    intro N b K a s g
    exact w26_2 (cn (fun hb' => ad rfl (on (int_of a rfl) (Cn.eq c55 (ty rfl (e4 _ K a s (dd g hb' fun _ => Iff.rfl)))))) fun hb' => e4 _ K a s (df g hb'))
  refine ce (fun hm => on (int_of a3 rfl) (e2 _ KK3 a3 s3 ?_)) fun hm => e2 _ KK3 a3 s3 ?_
  · rw [m0 hm]; rfl
  · rw [m1 hm]; rfl
end
end Go.Zt


/- The functions' walks: for each function and each loop a rule of what it comes to. Printed by zw2.py. -/
set_option linter.unusedVariables false
set_option maxRecDepth 100000
namespace Go.Zt
open Go Go.Sim Go.Proofs

end Go.Zt


/- Layer 20: the document's checks, first part: squares, Lossless, Same. Printed by genP.py. -/
set_option linter.unusedSimpArgs false
set_option linter.unusedVariables false
set_option maxRecDepth 100000
namespace Go.Zt
open Go Go.Sim Go.Proofs Go.RowKit

section
variable (h g : Hd) (X Y : List Sg)

end
section
variable {h g : Hd} {X Y : List Sg} {M0 M : Mem} {j i : Nat}
end
end Go.Zt


/- Layer 20: the document's checks, second part: filters, Check. -/
set_option linter.unusedSimpArgs false
set_option linter.unusedVariables false
set_option maxRecDepth 100000
namespace Go.Zt
open Go Go.Sim Go.Proofs Go.RowKit

section
variable {h : Hd} {X : List Sg} {M0 M : Mem} {j i : Nat}
end
end Go.Zt


/- Layer 20: the document's Check of a frame header. -/
set_option linter.unusedSimpArgs false
set_option linter.unusedVariables false
set_option maxRecDepth 100000
namespace Go.Zt
open Go Go.Sim Go.Proofs Go.RowKit

section
variable {h : Hd} {X : List Sg} {M0 M : Mem} {j i : Nat} {w e : Int}
theorem may_iff (hx : h.ex = false) (hm : mayS w e = true) : h.may X w e = true ↔ ((h.sl = 0 ∧ (0 ≤ h.rf ∧ h.rf ≤ 255) ∧ (-1 ≤ h.pr ∧ h.pr ≤ 7) ∧ (0 ≤ h.ba ∧ h.ba ≤ 255)) ∧ (h.ke = true → (h.r0 = 0 ∧ h.r1 = 0 ∧ h.r2 = 0) ∧ h.pr = -1) ∧
    ((0 ≤ h.r0 ∧ h.r0 ≤ 7) ∧ (0 ≤ h.r1 ∧ h.r1 ≤ 7) ∧ (0 ≤ h.r2 ∧ h.r2 ≤ 7)) ∧ ((-31 ≤ h.d0 ∧ h.d0 ≤ 31) ∧ (-31 ≤ h.d1 ∧ h.d1 ≤ 31) ∧ (-31 ≤ h.d2 ∧ h.d2 ≤ 31) ∧ (-31 ≤ h.d3 ∧ h.d3 ≤ 31) ∧ (-31 ≤ h.d4 ∧ h.d4 ≤ 31)) ∧ logM h.co w = true ∧ logM h.ro e = true ∧ h.mayF X = true) := by
  unfold Hd.may
  simp only [hx, hm, Bool.false_eq_true, if_false, Bool.true_and, Bool.and_eq_true, decide_eq_true_eq, Bool.or_eq_true, Bool.not_eq_true']
  constructor
  · rintro ⟨⟨⟨⟨⟨⟨a1, a2⟩, a3⟩, a4⟩, a5⟩, a6⟩, a7⟩
    exact ⟨a1, fun hk => a5.resolve_left (by rw [hk]; decide), a6, a7, a2, a3, a4⟩
  · rintro ⟨a1, a5, a6, a7, a2, a3, a4⟩
    refine ⟨⟨⟨⟨⟨⟨a1, a2⟩, a3⟩, a4⟩, ?_⟩, a6⟩, a7⟩
    cases hk : h.ke
    · exact .inl rfl
    · exact .inr (a5 hk)
end
end Go.Zt


/- Layer 20: the program's coding of numbers, truths, deltas, logs: writing or reading, its first error noted. -/
set_option linter.unusedSimpArgs false
set_option linter.unusedVariables false
set_option maxRecDepth 100000
namespace Go.Zt
open Go Go.Sim Go.Proofs Go.RowKit

/-- What is written so far, or where a reader of some bytes stands. -/
inductive Dv where
  | w (l : List Nat)
  | r (b : List Nat) (p : Nat)
abbrev Dv.wp (j : Nat) : Dv → Value
  | .w _ => PtrB j
  | .r _ _ => .pointer none
abbrev Dv.rp (j : Nat) : Dv → Value
  | .w _ => .pointer none
  | .r _ _ => PtrB j
def Dv.len : Dv → Nat
  | .w l => l.length
  | .r _ _ => 0
def DvM (U : Nat → Prop) (M : Mem) (j : Nat) : Dv → Prop
  | .w l => Wr (fun i => U i ∨ M.nb.size ≤ i) M j l
  | .r b p => Rdr U M j b p
structure St (U : Nat → Prop) (M : Mem) (jc jd : Nat) (d : Dv) (e k : Nat) : Prop where
  dev : DvM U M jd d
  fl : ∀ i, U i ∨ i = jd ∨ i = jc → M.floor ≤ i
  fs : M.floor ≤ M.nb.size
  cod : M.nb[jc]? = some (.cells #[d.wp jd, d.rp jd, .int .i64 (e : Nat)] 89)
  nc : ¬ U jc
  cd : jc ≠ jd
  len : d.len + 40 * k ≤ 80000000000
  ub : ∀ i, U i → i < M.nb.size
/-- What may have changed, and what the device has of its own then. -/
structure Ext (P U : Nat → Prop) (M : Mem) (U' : Nat → Prop) (N : Mem) : Prop where
  sub : ∀ i, U' i → U i ∨ M.nb.size ≤ i
  chg : Chg (fun i => U i ∨ P i) M N
theorem Ext.refl {P U : Nat → Prop} {M : Mem} : Ext P U M U M := ⟨fun _ h => .inl h, .refl _⟩
theorem Ext.trans {P U U1 U2 : Nat → Prop} {M M1 M2 : Mem} (h : Ext P U M U1 M1) (k : Ext P U1 M1 U2 M2) : Ext P U M U2 M2 :=
  ⟨fun i hi => (k.sub i hi).elim (h.sub i) fun hs => .inr (Nat.le_trans h.chg.size hs),
   ⟨k.chg.base.trans h.chg.base, k.chg.floor.trans h.chg.floor, Nat.le_trans h.chg.size k.chg.size, fun j hj hs =>
    (k.chg.same j (Nat.lt_of_lt_of_le hj h.chg.size) fun hh => hh.elim (fun h1 => (h.sub j h1).elim (fun q => hs (.inl q)) fun q => by omega) fun h1 => hs (.inr h1)).trans (h.chg.same j hj hs)⟩⟩
theorem Ext.mono {P Q U U1 : Nat → Prop} {M M1 : Mem} (h : Ext P U M U1 M1) (hP : ∀ i, i < M.nb.size → P i → Q i) : Ext Q U M U1 M1 := ⟨h.sub, h.chg.mono fun i hi hs => hs.imp id (hP i hi)⟩
theorem Ext.of {P U T : Nat → Prop} {M M1 : Mem} (h : Chg T M M1) (hT : ∀ i, i < M.nb.size → T i → U i ∨ P i) : Ext P U M U M1 := ⟨fun _ h => .inl h, h.mono hT⟩
theorem Ext.at {P U U1 : Nat → Prop} {M M1 : Mem} (h : Ext P U M U1 M1) {j : Nat} {b : Blk} (a : M.nb[j]? = some b) (n1 : ¬ U j) (n2 : ¬ P j) : M1.nb[j]? = some b ∧ ¬ U1 j := by
  have hl := lt_of_at a
  exact ⟨at_chg a h.chg fun hh => hh.elim n1 n2, fun hu => (h.sub j hu).elim n1 fun q => by omega⟩
theorem Wr.shrink {S T : Nat → Prop} {M : Mem} {j : Nat} {l : List Nat} (h : Wr S M j l) (hS : ∀ i, i < M.nb.size → S i → T i) (hj : ¬ T j) : Wr T M j l := by
  obtain ⟨A, c, g1, g2, g3⟩ := h.ex
  exact ⟨hj, h.bin, h.len, A, c, g1, g2.mono hS, g3⟩
section
variable {U : Nat → Prop} {M N : Mem} {jc jd jt k e : Nat} {d : Dv}
theorem DvM.lt (h : DvM U M jd d) : jd < M.nb.size := by
  cases d with
  | w l => obtain ⟨A, c, g1, _⟩ := h.ex; exact lt_of_at g1
  | r b p => obtain ⟨A, c, g1, _⟩ := h.ex; exact lt_of_at g1
theorem DvM.out (h : DvM U M jd d) : ¬ U jd := by
  cases d with
  | w l => exact fun hu => h.out (.inl hu)
  | r b p => exact h.out
theorem DvM.chg {T : Nat → Prop} (h : DvM U M jd d) (k : Chg T M N) (hT : ∀ i, i < M.nb.size → U i ∨ i = jd → ¬ T i) : DvM U N jd d := by
  have hl := h.lt
  have ho := h.out
  cases d with
  | w l =>
    have h1 : Wr U M jd l := h.shrink (fun i hi hs => hs.resolve_right (by omega)) ho
    obtain ⟨A, c, g1, g2, g3⟩ := h1.ex
    refine ⟨fun hs => hs.elim ho fun q => by have := k.size; omega, h1.bin, h1.len, A, c, at_chg g1 k (hT jd hl (.inr rfl)), ?_, g3⟩
    exact (g2.chg k fun i hi hs => hT i hi (.inl hs)).mono fun i _ hs => .inl hs
  | r b p =>
    obtain ⟨A, c, h1, h2, h3, h0, h4⟩ := h.ex
    refine ⟨h.out, h.byt, h.len, h.pos, A, c, at_chg h1 k (hT jd hl (.inr rfl)), ?_, h3, h0, h4⟩
    exact Row.chg h2 (k.mono (T := fun i => T i ∧ i < M.nb.size) fun i hi ht => ⟨ht, hi⟩) fun a ha => (h4 a ha).imp id fun hu hs => hT _ hs.2 (.inl hu) hs.1
theorem St.chg {T : Nat → Prop} (h : St U M jc jd d e k) (q : Chg T M N) (hT : ∀ i, i < M.nb.size → U i ∨ i = jd ∨ i = jc → ¬ T i) : St U N jc jd d e k :=
  ⟨h.dev.chg q fun i hi hu => hT i hi (hu.imp id .inl), fun i hi => by rw [q.floor]; exact h.fl i hi, by rw [q.floor]; exact Nat.le_trans h.fs q.size, at_chg h.cod q (hT jc (lt_of_at h.cod) (.inr (.inr rfl))), h.nc, h.cd, h.len, fun i hi => Nat.lt_of_lt_of_le (h.ub i hi) q.size⟩
theorem St.keep (h : St U M jc jd d e k) (q : Keep M N) : St U N jc jd d e k := h.chg q fun _ _ _ x => x
theorem St.mono {k' : Nat} (h : St U M jc jd d e k) (hk : k' ≤ k) : St U M jc jd d e k' := ⟨h.dev, h.fl, h.fs, h.cod, h.nc, h.cd, by have := h.len; omega, h.ub⟩
/-- The error is noted. -/
theorem St.err (h : St U M jc jd d e k) (e' : Nat) : ∃ N, M.put (2 * jc) 2 (.int .i64 (e' : Nat)) = some N ∧ Chg (· = jc) M N ∧ N.nb.size = M.nb.size ∧ St U N jc jd d e' k := by
  obtain ⟨N, p, C, s, u⟩ := put1 2 (.int .i64 (e' : Nat)) h.cod (h.fl jc (.inr (.inr rfl))) (by simp) rfl
  exact ⟨N, p, C, s, h.dev.chg C fun i _ hu hc => hu.elim (fun hu => h.nc (hc ▸ hu)) fun hd => h.cd (hc ▸ hd), fun i hi => by rw [C.floor]; exact h.fl i hi, by rw [C.floor, s]; exact h.fs, u, h.nc, h.cd, h.len, by rw [s]; exact h.ub⟩

/-! ### Numbers -/
def numD (d : Dv) (e : Nat) (v n f : Int) : Dv × Nat × Int :=
  if e ≠ 0 then (d, e, v) else match d with
  | .w l => (.w (wFixed l (toU (IntKind.i64.wrap (v - f))) n).2, (wFixed l (toU (IntKind.i64.wrap (v - f))) n).1, v)
  | .r b p => (.r b (rFixed b p n).2.2, (rFixed b p n).2.1, if (rFixed b p n).2.1 = 0 then ((rFixed b p n).1 : Nat) + f else v)
theorem setSame {cs : Array Value} {o : Nat} {x : Value} (h : cs[o]? = some x) : cs.setIfInBounds o x = cs := by
  apply Array.ext_getElem?
  intro i
  rw [Array.getElem?_setIfInBounds]
  split
  · rename_i e; subst e
    obtain ⟨h1, h2⟩ := Array.getElem?_eq_some_iff.1 h
    simp [h1, h2]
  · rfl
theorem toU_lt (x : Int) : toU x < 4294967296 := by unfold toU; omega
theorem wFixed_len (l : List Nat) (v : Nat) {n : Int} (h : n ≤ 32) : (wFixed l v n).2.length ≤ l.length + 32 := by
  unfold wFixed
  split
  · simp
  · simp [bitsN_len]; omega
/-- What a writer's call does to all. -/
theorem St.wr {l l' : List Nat} {N : Mem} (h : St U M jc jd (.w l) e (k + 1)) (C : Chg (fun i => (U i ∨ M.nb.size ≤ i) ∨ i = jd) M N) (W : Wr (fun i => U i ∨ M.nb.size ≤ i) N jd l') (hl : l'.length ≤ l.length + 40) (e' : Nat) :
    ∃ N2, N.put (2 * jc) 2 (.int .i64 (e' : Nat)) = some N2 ∧ ∃ U', Ext (fun i => i = jc ∨ i = jd) U M U' N2 ∧ St U' N2 jc jd (.w l') e' k := by
  have hc := lt_of_at h.cod
  have hd := h.dev.lt
  have nc : ¬ ((U jc ∨ M.nb.size ≤ jc) ∨ jc = jd) := fun hh => hh.elim (fun q => q.elim h.nc fun q => by omega) h.cd
  have a := at_chg h.cod C nc
  obtain ⟨N2, p, C2, s, u⟩ := put1 2 (.int .i64 (e' : Nat)) a (by rw [C.floor]; exact h.fl jc (.inr (.inr rfl))) (by simp) rfl
  refine ⟨N2, p, fun i => U i ∨ (M.nb.size ≤ i ∧ i < N2.nb.size), ⟨fun i hi => hi.imp id fun q => q.1, ?_⟩, ?_, ?_, ?_, u, ?_, h.cd, ?_, ?_⟩
  · exact (C.mono (T := fun i => U i ∨ i = jc ∨ i = jd) fun i hi hs => hs.elim (fun q => .inl (q.resolve_right (by omega))) fun q => .inr (.inr q)).trans (C2.mono fun i hi hs => .inr (.inl hs))
  · refine (W.chg C2 fun i hi hs hj => ?_).shrink (fun i hi hs => ?_) ?_
    · subst hj
      exact nc (hs.imp id id)
    · exact .inl (hs.imp id fun q => ⟨q, hi⟩)
    · rintro ((hu | hu) | hu)
      · exact h.dev.out hu
      · omega
      · have := C.size; omega
  · intro i hi
    rw [C2.floor, C.floor]
    rcases hi with (hi | hi) | hi
    · exact h.fl i (.inl hi)
    · exact Nat.le_trans h.fs hi.1
    · exact h.fl i (.inr hi)
  · rw [C2.floor, C.floor]; have := C.size; have := h.fs; omega
  · rintro (hu | hu)
    · exact h.nc hu
    · omega
  · have := h.len
    simp only [Dv.len] at this ⊢; omega
  · rintro i (hi | hi)
    · have := h.ub i hi; have := C.size; have := C2.size; omega
    · exact hi.2
theorem St.flw {l : List Nat} (h : St U M jc jd (.w l) e k) : Fl (fun i => U i ∨ M.nb.size ≤ i) M jd :=
  ⟨fun i hi => by
    rcases hi with (hi | hi) | hi
    · exact h.fl i (.inl hi)
    · exact Nat.le_trans h.fs hi
    · exact h.fl i (.inr (.inl hi)), fun i hi => .inr hi⟩
theorem c74e (h : St U M jc jd d e k) (he : e ≠ 0) {p : Option Addr} {n f : Int} : Cn Try.prog 74 #[PtrB jc, .pointer p, .int .i64 n, .int .i64 f] M fun u N => u = .tuple #[] ∧ N = M :=
  w74_0 (ad rfl (on (int_of h.cod rfl) (cne (fun _ => ⟨rfl, rfl⟩) fun h0 => absurd h0 (by omega))))
theorem c74w {l : List Nat} (h : St U M jc jd (.w l) 0 (k + 1)) {a : Addr} {v n f : Int} (hv : M.intAt .i64 a.block a.off = some v) (hn : n ≤ 32) :
    Cn Try.prog 74 #[PtrB jc, .pointer (some a), .int .i64 n, .int .i64 f] M fun u N => u = .tuple #[] ∧ ∃ U', Ext (fun i => i = jc ∨ i = jd) U M U' N ∧ St U' N jc jd (numD (.w l) 0 v n f).1 (numD (.w l) 0 v n f).2.1 k := by
  have hl := h.len
  refine w74_0 (ad rfl (on (int_of h.cod rfl) (cne (fun h0 => absurd rfl h0) fun _ => ad rfl (on (ptr_of h.cod rfl) (cT rfl (ad rfl (on (ptr_of h.cod rfl) (ad rfl (on hv (Cn.mono (c22 h.flw h.dev (toU_wrap _) (toU_lt _) n (by simp only [Dv.len] at hl; omega)) ?_)))))))))) 
  rintro _ N ⟨rfl, C, W⟩
  obtain ⟨N2, p, U', E, S⟩ := h.wr C W (by have := wFixed_len l (toU (IntKind.i64.wrap (v - f))) hn; omega) (wFixed l (toU (IntKind.i64.wrap (v - f))) n).1
  exact ty rfl (ad rfl (pt p ⟨rfl, U', E, S⟩))
theorem c74 {cs : Array Value} {t : TypeId} {o : Nat} {v : Int} (h : St U M jc jd d e (k + 1)) (a : M.nb[jt]? = some (.cells cs t)) (hf : M.floor ≤ jt) (n1 : jt ≠ jd) (n2 : jt ≠ jc) (n3 : ¬ U jt) (hv : cs[o]? = some (.int .i64 v)) {n f : Int} (hn : n ≤ 32) (hf3 : 0 ≤ f ∧ f ≤ 3) :
    Cn Try.prog 74 #[PtrB jc, .pointer (some ⟨2 * jt, o, none⟩), .int .i64 n, .int .i64 f] M fun u N => u = .tuple #[] ∧ ∃ U', Ext (fun i => i = jc ∨ i = jd ∨ i = jt) U M U' N ∧ St U' N jc jd (numD d e v n f).1 (numD d e v n f).2.1 k ∧ N.nb[jt]? = some (.cells (cs.setIfInBounds o (.int .i64 (numD d e v n f).2.2)) t) ∧ ¬ U' jt := by
  by_cases he : e ≠ 0
  · have q : numD d e v n f = (d, e, v) := by unfold numD; rw [if_pos he]
    rw [q]
    refine Cn.mono (c74e h he) ?_
    rintro _ N ⟨rfl, rfl⟩
    exact ⟨rfl, U, .refl, h.mono (by omega), by rw [setSame hv]; exact a, n3⟩
  · have he : e = 0 := by omega
    subst he
    cases d with
    | w l =>
      refine Cn.mono (c74w (f := f) h (int_of a hv) hn) ?_
      rintro _ N ⟨rfl, U', E, S⟩
      have q : (numD (.w l) 0 v n f).2.2 = v := rfl
      have := E.at a n3 fun hh => hh.elim n2 n1
      exact ⟨rfl, U', E.mono fun i _ hh => hh.imp id .inl, S, by rw [q, setSame hv]; exact this.1, this.2⟩
    | r b p =>
      refine w74_0 (ad rfl (on (int_of h.cod rfl) (cne (fun h0 => absurd rfl h0) fun _ => ad rfl (on (ptr_of h.cod rfl) (cF rfl (ad rfl (on (ptr_of h.cod rfl) (Cn.mono (c33 h.dev (h.fl jd (.inr (.inl rfl))) n) ?_))))))))
      rintro _ N ⟨rfl, C, s, R⟩
      have S1 : St U N jc jd (.r b (rFixed b p n).2.2) 0 (k + 1) := ⟨R, fun i hi => by rw [C.floor]; exact h.fl i hi, by rw [C.floor, s]; exact h.fs, at_chg h.cod C h.cd, h.nc, h.cd, h.len, by rw [s]; exact h.ub⟩
      have a1 := at_chg a C n1
      obtain ⟨N2, p2, C2, s2, S2⟩ := S1.err (rFixed b p n).2.1
      have a2 := at_chg a1 C2 n2
      have E2 : Ext (fun i => i = jc ∨ i = jd ∨ i = jt) U M U N2 := (Ext.of C fun i _ hh => .inr (.inr (.inl hh))).trans (Ext.of C2 fun i _ hh => .inr (.inl hh))
      refine ty rfl (ty rfl (ty rfl (ad rfl (pt p2 (ad rfl (on (int_of S2.cod rfl) (ce (fun h0 => ad rfl ?_) fun h0 => ?_)))))))
      · have h0' : (rFixed b p n).2.1 = 0 := by omega
        have hr : (rFixed b p n).1 < 4294967296 := by
          unfold rFixed
          split
          · show 0 < _; omega
          · split
            · show 0 < _; omega
            · rename_i h1 _
              have := numb_lt (bitOf_lt b) p n.toNat
              have := pow32 (n := n.toNat) (by omega)
              dsimp only; omega
        rw [i64w (x := (((rFixed b p n).1 : Nat) : Int)) (by omega), i64w (by omega)]
        obtain ⟨N3, p3, C3, s3, u3⟩ := put1 o (.int .i64 ((((rFixed b p n).1 : Nat) : Int) + f)) a2 (by rw [C2.floor, C.floor]; exact hf) (Array.getElem?_eq_some_iff.1 hv).1 rfl
        refine pt p3 ⟨rfl, U, E2.trans (Ext.of C3 fun i _ hh => .inr (.inr (.inr hh))), ?_, ?_, n3⟩
        · exact (S2.chg C3 fun i _ hu hh => by
            subst hh
            rcases hu with hu | hu | hu
            · exact n3 hu
            · exact n1 hu
            · exact n2 hu).mono (by omega)
        · have q : (numD (.r b p) 0 v n f).2.2 = (((rFixed b p n).1 : Nat) : Int) + f := by
            show (if (rFixed b p n).2.1 = 0 then _ else _) = _
            rw [if_pos h0']
          rw [q]; exact u3
      · have q : (numD (.r b p) 0 v n f).2.2 = v := by
          show (if (rFixed b p n).2.1 = 0 then _ else _) = _
          rw [if_neg (by omega)]
        exact ⟨rfl, U, E2, S2.mono (by omega), by rw [q, setSame hv]; exact a2, n3⟩

/-! ### Truths -/
def flagD (d : Dv) (e : Nat) (b : Bool) : Dv × Nat × Bool :=
  ((numD d e (if b then 1 else 0) 1 0).1, (numD d e (if b then 1 else 0) 1 0).2.1, (numD d e (if b then 1 else 0) 1 0).2.2 == 1)
theorem c73 {cs : Array Value} {t : TypeId} {o : Nat} {b : Bool} (h : St U M jc jd d e (k + 1)) (a : M.nb[jt]? = some (.cells cs t)) (hf : M.floor ≤ jt) (n1 : jt ≠ jd) (n2 : jt ≠ jc) (n3 : ¬ U jt) (hv : cs[o]? = some (.bool b)) :
    Cn Try.prog 73 #[PtrB jc, .pointer (some ⟨2 * jt, o, none⟩)] M fun u N => u = .tuple #[] ∧ ∃ U', Ext (fun i => i = jc ∨ i = jd ∨ i = jt) U M U' N ∧ St U' N jc jd (flagD d e b).1 (flagD d e b).2.1 k ∧ N.nb[jt]? = some (.cells (cs.setIfInBounds o (.bool (flagD d e b).2.2)) t) ∧ ¬ U' jt := by
  have hjt := lt_of_at a
  have ho := (Array.getElem?_eq_some_iff.1 hv).1
  have hjd := h.dev.lt
  have hjc := lt_of_at h.cod
  -- the number, in a variable of its own
  have q0 := Mem.new_at M (.cells #[.int .i64 0] 3)
  have K0 : Keep M (M.new (.cells #[.int .i64 0] 3)) := .new _ _
  have s0 := Mem.new_size M (.cells #[.int .i64 0] 3)
  refine w73_0 ?_
  generalize M.new (.cells #[.int .i64 0] 3) = M0 at q0 K0 s0 ⊢
  have f0 : M0.floor ≤ M.nb.size := by rw [K0.floor]; exact h.fs
  obtain ⟨M1, p1, C1, s1, u1⟩ := put1 0 (.int .i64 0) q0 f0 (by simp) rfl
  have K1 : Keep M M1 := Keep.step K0 C1 fun i hi => by omega
  have a1 := at_keep a K1
  have nj : ∀ {i}, i < M.nb.size → i ≠ M.nb.size := fun h => by omega
  have nU : ¬ U M.nb.size := fun hu => by have := h.ub _ hu; omega
  have go : ∀ {N : Mem} (x : Int), Keep M N → N.nb[M.nb.size]? = some (.cells #[.int .i64 x] 3) → x = (if b then 1 else 0) →
      Cn Try.prog 74 #[PtrB jc, .pointer (some ⟨2 * M.nb.size, 0, none⟩), .int .i64 1, .int .i64 0] N fun _ N5 => onS (N5.intAt .i64 (2 * M.nb.size) 0) fun x6 => adS (some (⟨2 * jt, o, none⟩ : Addr)) fun a7 => ptS (N5.put a7.block a7.off (.bool (x6 == 1))) fun M8 =>
        (Value.tuple #[] = .tuple #[] ∧ ∃ U', Ext (fun i => i = jc ∨ i = jd ∨ i = jt) U M U' M8 ∧ St U' M8 jc jd (flagD d e b).1 (flagD d e b).2.1 k ∧ M8.nb[jt]? = some (.cells (cs.setIfInBounds o (.bool (flagD d e b).2.2)) t) ∧ ¬ U' jt) := by
    intro N x K u hx
    have hN := h.keep K
    refine Cn.mono (c74 hN u (by rw [K.floor]; exact h.fs) (by omega) (by omega) nU (v := x) rfl (by decide) (by decide)) ?_
    rintro _ N5 ⟨_, U', E, S, u5, nu5⟩
    have at5 := E.at (at_keep a K) n3 fun hh => by omega
    obtain ⟨N6, p6, C6, s6, u6⟩ := put1 o (.bool ((numD d e x 1 0).2.2 == 1)) at5.1 (by rw [E.chg.floor, K.floor]; exact hf) ho rfl
    refine on (int_of u5 rfl) (ad rfl (pt p6 ⟨rfl, U', ⟨fun i hi => ?_, ?_⟩, ?_, ?_, at5.2⟩))
    · exact (E.sub i hi).imp id fun q => Nat.le_trans K.size q
    · refine (Chg.trans (S := fun i => U i ∨ i = jc ∨ i = jd ∨ i = jt) (M2 := N5) ⟨E.chg.base.trans K.base, E.chg.floor.trans K.floor, Nat.le_trans K.size E.chg.size, fun j hj hs => ?_⟩ (C6.mono fun i hi hs => .inr (.inr (.inr hs))))
      exact (E.chg.same j (Nat.lt_of_lt_of_le hj K.size) fun hh => hh.elim (fun q => hs (.inl q)) fun q => q.elim (fun q => hs (.inr (.inl q))) fun q => q.elim (fun q => hs (.inr (.inr (.inl q)))) fun q => by omega).trans (K.same j hj fun x => x)
    · subst hx
      exact S.chg C6 fun i _ hu hh => by
        subst hh
        rcases hu with hu | hu | hu
        · exact at5.2 hu
        · exact n1 hu
        · exact n2 hu
    · subst hx; exact u6
  refine pt p1 (ad rfl (on (bool_of a1 hv) (cn (fun hb => ?_) fun hb => ?_)))
  · obtain ⟨M2, p2, C2, s2, u2⟩ := put1 0 (.int .i64 1) u1 (by rw [C1.floor]; exact f0) (by simp) rfl
    exact pt p2 (go 1 (Keep.step K1 C2 fun i hi => by omega) u2 (by rw [hb]; rfl))
  · exact go 0 K1 u1 (by rw [hb]; rfl)
end
end Go.Zt

