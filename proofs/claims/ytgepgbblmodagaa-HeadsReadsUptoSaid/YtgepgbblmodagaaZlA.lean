/- The functions' walks: for each function and each loop a rule of what it comes to. Printed by zw2.py. -/
import Derived.Test.YtgepgbblmodagaaProg
import Derived.Test.YtgepgbblmodagaaZkA
import Derived.Test.YtgepgbblmodagaaZqT
import Derived.Test.YtgepgbblmodagaaZkM
set_option linter.unusedVariables false
set_option maxRecDepth 100000
namespace Go.Zt
open Go Go.Sim Go.Proofs

def tyZlA0 : List Sc := [.bool, .int .i64, .bool, .bool, .int .i64, .int .i64, .int .i64, .int .i64, .int .i64, .int .i64, .int .i64, .int .i64, .int .i64, .int .i64, .int .i64, .int .i64, .int .i64, .bool, .int .i64, .int .i64, .int .i64, .int .i64, .int .i64, .bool, .int .i64, .int .i64, .sl, .bool, .bool, .bool]
/-! ### (*zoetrope/heads.coding).flag: function 73 -/
def K73 : List (List It × List Nat) := []
def Z73 : List (List Nat × List Nat) := []
theorem b73 : Try.prog.funcs[73]? = some Try.f73 ∧ (Orc.tab Try.prog).lookup 73 = none ∧ Try.f73.body = some (codeOf Try.f73) := ⟨by kernel_rfl, by kernel_rfl, by kernel_rfl⟩
theorem w73_0 {x0 x1 : Option Addr} {M : Mem} {Q : Value → Mem → Prop} (H :
    ptS ((M.new (.cells #[.int .i64 0] 3)).put (2 * M.nb.size) 0 (.int .i64 0)) fun M1' =>
    adS x1 fun a2' =>
    onS (M1'.boolAt a2'.block a2'.off) fun b3' =>
    cnd b3' (
     ptS (M1'.put (2 * M.nb.size) 0 (.int .i64 1)) fun M4' =>
     Cn Try.prog 74 #[.pointer x0, .pointer (some ⟨2 * M.nb.size, 0, none⟩), .int .i64 1, .int .i64 0] M4' fun v5' N5' =>
      onS (N5'.intAt .i64 (2 * M.nb.size) 0) fun x6' =>
      adS x1 fun a7' =>
      ptS (N5'.put a7'.block a7'.off (.bool (x6' == 1))) fun M8' =>
      Q (.tuple #[]) M8') (
     Cn Try.prog 74 #[.pointer x0, .pointer (some ⟨2 * M.nb.size, 0, none⟩), .int .i64 1, .int .i64 0] M1' fun v9' N9' =>
      onS (N9'.intAt .i64 (2 * M.nb.size) 0) fun x10' =>
      adS x1 fun a11' =>
      ptS (N9'.put a11'.block a11'.off (.bool (x10' == 1))) fun M12' =>
      Q (.tuple #[]) M12')) :
    Cn Try.prog 73 #[.pointer x0, .pointer x1] M Q :=
  Cn.mk (cuts := K73) (sp := Z73) 900 b73 rfl rfl H fun G => by kernel_rfl


/-! ### (*zoetrope/heads.coding).number: function 74 -/
def K74 : List (List It × List Nat) := []
def Z74 : List (List Nat × List Nat) := []
theorem b74 : Try.prog.funcs[74]? = some Try.f74 ∧ (Orc.tab Try.prog).lookup 74 = none ∧ Try.f74.body = some (codeOf Try.f74) := ⟨by kernel_rfl, by kernel_rfl, by kernel_rfl⟩
theorem w74_0 {x0 x1 : Option Addr} {x2 x3 : Int} {M : Mem} {Q : Value → Mem → Prop} (H :
    adS x0 fun a1' =>
    onS (M.intAt .i64 a1'.block (a1'.off + 2)) fun x2' =>
    cnd (x2' != 0) (
     Q (.tuple #[]) M) (
     adS x0 fun a3' =>
     onS (M.ptrAt a3'.block a3'.off) fun p4' =>
     cnd p4'.isSome (
      adS x0 fun a5' =>
      onS (M.ptrAt a5'.block a5'.off) fun p6' =>
      adS x1 fun a7' =>
      onS (M.intAt .i64 a7'.block a7'.off) fun x8' =>
      Cn Try.prog 22 #[.pointer p6', .int .u32 (IntKind.u32.wrap (IntKind.i64.wrap (x8' - x3))), .int .i64 x2] M fun v9' N9' =>
       tyS (asI .i64 v9') fun x10' =>
       adS x0 fun a11' =>
       ptS (N9'.put a11'.block (a11'.off + 2) (.int .i64 x10')) fun M12' =>
       Q (.tuple #[]) M12') (
      adS x0 fun a13' =>
      onS (M.ptrAt a13'.block (a13'.off + 1)) fun p14' =>
      Cn Try.prog 33 #[.pointer p14', .int .i64 x2] M fun v15' N15' =>
       tyS (asU 2 v15') fun cs16' =>
       tyS (asI .u32 (cs16'.getD 0 undef)) fun x17' =>
       tyS (asI .i64 (cs16'.getD 1 undef)) fun x18' =>
       adS x0 fun a19' =>
       ptS (N15'.put a19'.block (a19'.off + 2) (.int .i64 x18')) fun M20' =>
       adS x0 fun a21' =>
       onS (M20'.intAt .i64 a21'.block (a21'.off + 2)) fun x22' =>
       cnd (x22' == 0) (
        adS x1 fun a23' =>
        ptS (M20'.put a23'.block a23'.off (.int .i64 (IntKind.i64.wrap ((IntKind.i64.wrap (x17')) + x3)))) fun M24' =>
        Q (.tuple #[]) M24') (
        Q (.tuple #[]) M20')))) :
    Cn Try.prog 74 #[.pointer x0, .pointer x1, .int .i64 x2, .int .i64 x3] M Q :=
  Cn.mk (cuts := K74) (sp := Z74) 900 b74 rfl rfl H fun G => by kernel_rfl


/-! ### (*zoetrope/heads.coding).delta: function 75 -/
def K75 : List (List It × List Nat) := [([.code [1,1,0,1], .blk 0], [0, 1, 39]), ([.code [1,1,0,1,1,1,1,1,0,1,1], .code [1,1,0,1,1,1,1,1,1], .blk 0], [0, 1, 5, 31])]
def Z75 : List (List Nat × List Nat) := []
theorem b75 : Try.prog.funcs[75]? = some Try.f75 ∧ (Orc.tab Try.prog).lookup 75 = none ∧ Try.f75.body = some (codeOf Try.f75) := ⟨by kernel_rfl, by kernel_rfl, by kernel_rfl⟩
def A75_1 (x0 x1 : Option Addr) (x39 : Bool) (M : Mem) (Q : Value → Mem → Prop) : Prop := LvP Try.prog Try.f75 [(0, .pointer x0), (1, .pointer x1), (39, .bool x39)] [.code [1,1,0,1], .blk 0] M Q
def A75_2 (x0 x1 : Option Addr) (x5 : Int) (x31 : Bool) (M : Mem) (Q : Value → Mem → Prop) : Prop := LvP Try.prog Try.f75 [(0, .pointer x0), (1, .pointer x1), (5, .int .i32 x5), (31, .bool x31)] [.code [1,1,0,1,1,1,1,1,0,1,1], .code [1,1,0,1,1,1,1,1,1], .blk 0] M Q
theorem w75_0 {x0 x1 : Option Addr} {M : Mem} {Q : Value → Mem → Prop} (H :
    adS x1 fun a1' =>
    onS (M.intAt .i64 a1'.block a1'.off) fun x2' =>
    ptS ((M.new (.cells #[.bool false] 4)).put (2 * M.nb.size) 0 (.bool (x2' != 0))) fun M3' =>
    Cn Try.prog 73 #[.pointer x0, .pointer (some ⟨2 * M.nb.size, 0, none⟩)] M3' fun v4' N4' =>
     onS (N4'.boolAt (2 * M.nb.size) 0) fun b5' =>
     cnd (!b5') (
      A75_1 x0 x1 true N4' Q) (
      adS x0 fun a6' =>
      onS (N4'.intAt .i64 a6'.block (a6'.off + 2)) fun x7' =>
      A75_1 x0 x1 (x7' != 0) N4' Q)) :
    Cn Try.prog 75 #[.pointer x0, .pointer x1] M Q :=
  Cn.mk (cuts := K75) (sp := Z75) 900 b75 rfl rfl H fun G => by kernel_rfl

theorem w75_1 {x0 x1 : Option Addr} {x39 : Bool} {M : Mem} {Q : Value → Mem → Prop} (H :
    cnd x39 (
     Q (.tuple #[]) M) (
     adS x0 fun a8' =>
     onS (M.ptrAt a8'.block a8'.off) fun p9' =>
     cnd p9'.isSome (
      adS x0 fun a10' =>
      onS (M.ptrAt a10'.block a10'.off) fun p11' =>
      adS x1 fun a12' =>
      onS (M.intAt .i64 a12'.block a12'.off) fun x13' =>
      Cn Try.prog 43 #[.pointer p11', .int .i32 (IntKind.i32.wrap (x13')), .int .i64 5] M fun v14' N14' =>
       tyS (asI .i64 v14') fun x15' =>
       adS x0 fun a16' =>
       ptS (N14'.put a16'.block (a16'.off + 2) (.int .i64 x15')) fun M17' =>
       Q (.tuple #[]) M17') (
      adS x0 fun a18' =>
      onS (M.ptrAt a18'.block (a18'.off + 1)) fun p19' =>
      Cn Try.prog 82 #[.pointer p19', .int .i64 5] M fun v20' N20' =>
       tyS (asU 2 v20') fun cs21' =>
       tyS (asI .i32 (cs21'.getD 0 undef)) fun x22' =>
       tyS (asI .i64 (cs21'.getD 1 undef)) fun x23' =>
       adS x0 fun a24' =>
       ptS (N20'.put a24'.block (a24'.off + 2) (.int .i64 x23')) fun M25' =>
       adS x0 fun a26' =>
       onS (M25'.intAt .i64 a26'.block (a26'.off + 2)) fun x27' =>
       cnd (x27' == 0) (
        A75_2 x0 x1 x22' (x22' == 0) M25' Q) (
        A75_2 x0 x1 x22' false M25' Q)))) :
    A75_1 x0 x1 x39 M Q :=
  LvP.mk (cuts := K75) (sp := Z75) 900 H fun G => by kernel_rfl

theorem w75_2 {x0 x1 : Option Addr} {x5 : Int} {x31 : Bool} {M : Mem} {Q : Value → Mem → Prop} (H :
    cnd x31 (
     adS x0 fun a28' =>
     ptS (M.put a28'.block (a28'.off + 2) (.int .i64 4)) fun M29' =>
     adS x1 fun a30' =>
     ptS (M29'.put a30'.block a30'.off (.int .i64 (IntKind.i64.wrap (x5)))) fun M31' =>
     Q (.tuple #[]) M31') (
     adS x1 fun a32' =>
     ptS (M.put a32'.block a32'.off (.int .i64 (IntKind.i64.wrap (x5)))) fun M33' =>
     Q (.tuple #[]) M33')) :
    A75_2 x0 x1 x5 x31 M Q :=
  LvP.mk (cuts := K75) (sp := Z75) 900 H fun G => by kernel_rfl


/-! ### (*zoetrope/heads.coding).log: function 76 -/
def K76 : List (List It × List Nat) := [([.code [1,1]], [0, 21])]
def Z76 : List (List Nat × List Nat) := []
theorem b76 : Try.prog.funcs[76]? = some Try.f76 ∧ (Orc.tab Try.prog).lookup 76 = none ∧ Try.f76.body = some (codeOf Try.f76) := ⟨by kernel_rfl, by kernel_rfl, by kernel_rfl⟩
def A76_1 (x0 : Option Addr) (x21 : Bool) (M : Mem) (Q : Value → Mem → Prop) : Prop := LvP Try.prog Try.f76 [(0, .pointer x0), (21, .bool x21)] [.code [1,1]] M Q
theorem w76_0 {x0 x1 : Option Addr} {x2 : Int} {M : Mem} {Q : Value → Mem → Prop} (H :
    Cn Try.prog 74 #[.pointer x0, .pointer x1, .int .i64 2, .int .i64 0] M fun v1' N1' =>
     adS x0 fun a2' =>
     onS (N1'.intAt .i64 a2'.block (a2'.off + 2)) fun x3' =>
     cnd (x3' == 0) (
      adS x1 fun a4' =>
      onS (N1'.intAt .i64 a4'.block a4'.off) fun x5' =>
      Cn Try.prog 57 #[.int .i64 x5', .int .i64 x2] N1' fun v6' N6' =>
       tyS (asB v6') fun b7' =>
       A76_1 x0 (!b7') N6' Q) (
      A76_1 x0 false N1' Q)) :
    Cn Try.prog 76 #[.pointer x0, .pointer x1, .int .i64 x2] M Q :=
  Cn.mk (cuts := K76) (sp := Z76) 900 b76 rfl rfl H fun G => by kernel_rfl

theorem w76_1 {x0 : Option Addr} {x21 : Bool} {M : Mem} {Q : Value → Mem → Prop} (H :
    cnd x21 (
     adS x0 fun a8' =>
     ptS (M.put a8'.block (a8'.off + 2) (.int .i64 5)) fun M9' =>
     Q (.tuple #[]) M9') (
     Q (.tuple #[]) M)) :
    A76_1 x0 x21 M Q :=
  LvP.mk (cuts := K76) (sp := Z76) 900 H fun G => by kernel_rfl


/-! ### zoetrope/heads.logMay: function 57 -/
def K57 : List (List It × List Nat) := []
def Z57 : List (List Nat × List Nat) := []
theorem b57 : Try.prog.funcs[57]? = some Try.f57 ∧ (Orc.tab Try.prog).lookup 57 = none ∧ Try.f57.body = some (codeOf Try.f57) := ⟨by kernel_rfl, by kernel_rfl, by kernel_rfl⟩
theorem w57_0 {x0 x1 : Int} {M : Mem} {Q : Value → Mem → Prop} (H :
    Cn Try.prog 55 #[.int .i64 x0, .int .i64 0, .int .i64 2] M fun v1' N1' =>
     tyS (asB v1') fun b2' =>
     cnd b2' (
      puS (binV Try.prog .shl 3 3 (.int .i64 1) (.int .i64 x0)) fun v3' =>
      tyS (asI .i64 v3') fun x4' =>
      Q (.bool (decide (x4' ≤ (IntKind.i64.wrap ((IntKind.i64.wrap ((IntKind.i64.wrap (x1 + 64)) - 1)).tdiv 64))))) N1') (
      Q (.bool false) N1')) :
    Cn Try.prog 57 #[.int .i64 x0, .int .i64 x1] M Q :=
  Cn.mk (cuts := K57) (sp := Z57) 900 b57 rfl rfl H fun G => by kernel_rfl


/-! ### zoetrope/heads.lossless: function 77 -/
def K77 : List (List It × List Nat) := []
def Z77 : List (List Nat × List Nat) := []
theorem b77 : Try.prog.funcs[77]? = some Try.f77 ∧ (Orc.tab Try.prog).lookup 77 = none ∧ Try.f77.body = some (codeOf Try.f77) := ⟨by kernel_rfl, by kernel_rfl, by kernel_rfl⟩
theorem w77_0 {x0 : Array Value} {M : Mem} {Q : Value → Mem → Prop} (H :
    onS ((M.new (.cells x0 41)).intAt .i64 (2 * M.nb.size) (0 + 9)) fun x1' =>
    cnd (x1' == 0) (
     onS ((M.new (.cells x0 41)).intAt .i64 (2 * M.nb.size) (0 + 10)) fun x2' =>
     onS ((M.new (.cells x0 41)).intAt .i64 (2 * M.nb.size) (0 + 11)) fun x3' =>
     onS ((M.new (.cells x0 41)).intAt .i64 (2 * M.nb.size) (0 + 12)) fun x4' =>
     onS ((M.new (.cells x0 41)).intAt .i64 (2 * M.nb.size) (0 + 13)) fun x5' =>
     onS ((M.new (.cells x0 41)).intAt .i64 (2 * M.nb.size) (0 + 14)) fun x6' =>
     puS (binV Try.prog .eql 36 36 (.agg #[.int .i64 x2', .int .i64 x3', .int .i64 x4', .int .i64 x5', .int .i64 x6']) (.agg #[.int .i64 0, .int .i64 0, .int .i64 0, .int .i64 0, .int .i64 0])) fun v7' =>
     tyS (asB v7') fun b8' =>
     Q (.bool b8') (M.new (.cells x0 41))) (
     Q (.bool false) (M.new (.cells x0 41)))) :
    Cn Try.prog 77 #[.agg x0] M Q :=
  Cn.mk (cuts := K77) (sp := Z77) 900 b77 rfl rfl H fun G => by kernel_rfl


/-! ### (*zoetrope/heads.coding).filters: function 78 -/
def K78 : List (List It × List Nat) := [([.code [0,1,0,0], .lp [0,1,0,0], .blk 0, .code [1]], [0, 1, 8]), ([.code [1,1,1,0,1], .code [1,1,1,1]], [0, 1, 39]), ([.code [1,1,1,0,1,0,1,1,0,1], .code [1,1,1,0,1,0,1,1,1], .code [1,1,1,1]], [0, 1, 61]), ([.code [1,1,1,1,1,0,0], .lp [1,1,1,1,1,0,0], .blk 4], [0, 1, 106]), ([.code [1,1,1,0,1,0,1,1,1,1,0,0], .lp [1,1,1,0,1,0,1,1,1,1,0,0], .blk 2, .code [1,1,1,1]], [0, 1, 75, 76])]
def Z78 : List (List Nat × List Nat) := []
theorem b78 : Try.prog.funcs[78]? = some Try.f78 ∧ (Orc.tab Try.prog).lookup 78 = none ∧ Try.f78.body = some (codeOf Try.f78) := ⟨by kernel_rfl, by kernel_rfl, by kernel_rfl⟩
def A78_1 (x0 x1 : Option Addr) (x8 : Int) (M : Mem) (Q : Value → Mem → Prop) : Prop := LvP Try.prog Try.f78 [(0, .pointer x0), (1, .pointer x1), (8, .int .i64 x8)] [.code [0,1,0,0], .lp [0,1,0,0], .blk 0, .code [1]] M Q
def A78_2 (x0 x1 : Option Addr) (x39 : Bool) (M : Mem) (Q : Value → Mem → Prop) : Prop := LvP Try.prog Try.f78 [(0, .pointer x0), (1, .pointer x1), (39, .bool x39)] [.code [1,1,1,0,1], .code [1,1,1,1]] M Q
def A78_3 (x0 x1 : Option Addr) (x61 : Bool) (M : Mem) (Q : Value → Mem → Prop) : Prop := LvP Try.prog Try.f78 [(0, .pointer x0), (1, .pointer x1), (61, .bool x61)] [.code [1,1,1,0,1,0,1,1,0,1], .code [1,1,1,0,1,0,1,1,1], .code [1,1,1,1]] M Q
def A78_4 (x0 x1 : Option Addr) (x106 : Int) (M : Mem) (Q : Value → Mem → Prop) : Prop := LvP Try.prog Try.f78 [(0, .pointer x0), (1, .pointer x1), (106, .int .i64 x106)] [.code [1,1,1,1,1,0,0], .lp [1,1,1,1,1,0,0], .blk 4] M Q
def A78_5 (x0 x1 : Option Addr) (x75 x76 : Int) (M : Mem) (Q : Value → Mem → Prop) : Prop := LvP Try.prog Try.f78 [(0, .pointer x0), (1, .pointer x1), (75, .int .i64 x75), (76, .int .i64 x76)] [.code [1,1,1,0,1,0,1,1,1,1,0,0], .lp [1,1,1,0,1,0,1,1,1,1,0,0], .blk 2, .code [1,1,1,1]] M Q
theorem w78_0 {x0 x1 : Option Addr} {M : Mem} {Q : Value → Mem → Prop} (H :
    A78_1 x0 x1 0 M Q) :
    Cn Try.prog 78 #[.pointer x0, .pointer x1] M Q :=
  Cn.mk (cuts := K78) (sp := Z78) 900 b78 rfl rfl H fun G => by kernel_rfl

theorem w78_1 {x0 x1 : Option Addr} {x8 : Int} {M : Mem} {Q : Value → Mem → Prop} (H :
    cnd (decide (x8 < 4)) (
     adS x1 fun a1' =>
     ixS (idxA (some ⟨a1'.block, a1'.off + 18, none⟩) 4 1 x8) fun a2' =>
     Cn Try.prog 74 #[.pointer x0, .pointer (some a2'), .int .i64 6, .int .i64 0] M fun v3' N3' =>
      A78_1 x0 x1 (IntKind.i64.wrap (x8 + 1)) N3' Q) (
     adS x1 fun a4' =>
     Cn Try.prog 74 #[.pointer x0, .pointer (some ⟨a4'.block, a4'.off + 22, none⟩), .int .i64 3, .int .i64 0] M fun v5' N5' =>
      adS x1 fun a6' =>
      Cn Try.prog 73 #[.pointer x0, .pointer (some ⟨a6'.block, a6'.off + 23, none⟩)] N5' fun v7' N7' =>
       adS x1 fun a8' =>
       onS (N7'.boolAt a8'.block (a8'.off + 23)) fun b9' =>
       cnd b9' (
        adS x0 fun a10' =>
        onS (N7'.intAt .i64 a10'.block (a10'.off + 2)) fun x11' =>
        A78_2 x0 x1 (x11' == 0) N7' Q) (
        A78_2 x0 x1 false N7' Q))) :
    A78_1 x0 x1 x8 M Q :=
  LvP.mk (cuts := K78) (sp := Z78) 900 H fun G => by kernel_rfl

theorem w78_2 {x0 x1 : Option Addr} {x39 : Bool} {M : Mem} {Q : Value → Mem → Prop} (H :
    cnd x39 (
     adS x1 fun a12' =>
     Cn Try.prog 74 #[.pointer x0, .pointer (some ⟨a12'.block, a12'.off + 24, none⟩), .int .i64 2, .int .i64 3] M fun v13' N13' =>
      adS x1 fun a14' =>
      Cn Try.prog 74 #[.pointer x0, .pointer (some ⟨a14'.block, a14'.off + 25, none⟩), .int .i64 2, .int .i64 0] N13' fun v15' N15' =>
       adS x0 fun a16' =>
       onS (N15'.ptrAt a16'.block a16'.off) fun p17' =>
       cnd p17'.isNone (
        adS x0 fun a18' =>
        onS (N15'.intAt .i64 a18'.block (a18'.off + 2)) fun x19' =>
        A78_3 x0 x1 (x19' == 0) N15' Q) (
        A78_3 x0 x1 false N15' Q)) (
     A78_4 x0 x1 0 M Q)) :
    A78_2 x0 x1 x39 M Q :=
  LvP.mk (cuts := K78) (sp := Z78) 900 H fun G => by kernel_rfl

theorem w78_3 {x0 x1 : Option Addr} {x61 : Bool} {M : Mem} {Q : Value → Mem → Prop} (H :
    cnd x61 (
     adS x1 fun a20' =>
     onS (M.intAt .i64 a20'.block (a20'.off + 25)) fun x21' =>
     puS (binV Try.prog .shl 3 3 (.int .i64 1) (.int .i64 x21')) fun v22' =>
     tyS (asI .i64 v22') fun x23' =>
     meS (makeP Try.prog 38 (.int .i64 x23') (.int .i64 x23') M) fun r24' =>
     tyS (asS r24'.1) fun s25' =>
     adS x1 fun a26' =>
     ptS (r24'.2.put a26'.block (a26'.off + 26) (.slice s25'.1 (s25'.2.1) (s25'.2.2))) fun M27' =>
     adS x1 fun a28' =>
     onS (M27'.slAt a28'.block (a28'.off + 26)) fun s29' =>
     A78_5 x0 x1 (s29'.2.1 : Int) 0 M27' Q) (
     adS x1 fun a30' =>
     onS (M.slAt a30'.block (a30'.off + 26)) fun s31' =>
     A78_5 x0 x1 (s31'.2.1 : Int) 0 M Q)) :
    A78_3 x0 x1 x61 M Q :=
  LvP.mk (cuts := K78) (sp := Z78) 900 H fun G => by kernel_rfl

theorem w78_4 {x0 x1 : Option Addr} {x106 : Int} {M : Mem} {Q : Value → Mem → Prop} (H :
    cnd (decide (x106 < 3)) (
     adS x1 fun a32' =>
     ixS (idxA (some ⟨a32'.block, a32'.off + 27, none⟩) 3 1 x106) fun a33' =>
     Cn Try.prog 73 #[.pointer x0, .pointer (some a33')] M fun v34' N34' =>
      A78_4 x0 x1 (IntKind.i64.wrap (x106 + 1)) N34' Q) (
     Q (.tuple #[]) M)) :
    A78_4 x0 x1 x106 M Q :=
  LvP.mk (cuts := K78) (sp := Z78) 900 H fun G => by kernel_rfl

theorem w78_5 {x0 x1 : Option Addr} {x75 x76 : Int} {M : Mem} {Q : Value → Mem → Prop} (H :
    cnd (decide (x76 < x75)) (
     adS x1 fun a35' =>
     onS (M.slAt a35'.block (a35'.off + 26)) fun s36' =>
     ixS (idxA s36'.1 (s36'.2.1) 4 x76) fun a37' =>
     Cn Try.prog 74 #[.pointer x0, .pointer (some ⟨a37'.block, a37'.off, none⟩), .int .i64 4, .int .i64 0] M fun v38' N38' =>
      Cn Try.prog 74 #[.pointer x0, .pointer (some ⟨a37'.block, a37'.off + 1, none⟩), .int .i64 2, .int .i64 0] N38' fun v39' N39' =>
       Cn Try.prog 74 #[.pointer x0, .pointer (some ⟨a37'.block, a37'.off + 2, none⟩), .int .i64 4, .int .i64 0] N39' fun v40' N40' =>
        Cn Try.prog 74 #[.pointer x0, .pointer (some ⟨a37'.block, a37'.off + 3, none⟩), .int .i64 2, .int .i64 0] N40' fun v41' N41' =>
         A78_5 x0 x1 x75 (IntKind.i64.wrap (x76 + 1)) N41' Q) (
     A78_4 x0 x1 0 M Q)) :
    A78_5 x0 x1 x75 x76 M Q :=
  LvP.mk (cuts := K78) (sp := Z78) 900 H fun G => by kernel_rfl


/-! ### (*zoetrope/heads.coding).head: function 50 -/
def K50 : List (List It × List Nat) := [([.code [1,1,1,1,1,1,1,1,1,1,0,1,0,0], .lp [1,1,1,1,1,1,1,1,1,1,0,1,0,0], .blk 2, .code [1,1,1,1,1,1,1,1,1,1,1]], [0, 1, 5, 74]), ([.code [1,1,1,1,1,1,1,0,1,1,0,1,0,0], .lp [1,1,1,1,1,1,1,0,1,1,0,1,0,0], .blk 0, .code [1,1,1,1,1,1,1,0,1,1,1], .code [1,1,1,1,1,1,1,1]], [0, 1, 5, 6, 47])]
def Z50 : List (List Nat × List Nat) := []
theorem b50 : Try.prog.funcs[50]? = some Try.f50 ∧ (Orc.tab Try.prog).lookup 50 = none ∧ Try.f50.body = some (codeOf Try.f50) := ⟨by kernel_rfl, by kernel_rfl, by kernel_rfl⟩
def A50_1 (x0 x1 x5 : Option Addr) (x74 : Int) (M : Mem) (Q : Value → Mem → Prop) : Prop := LvP Try.prog Try.f50 [(0, .pointer x0), (1, .pointer x1), (5, .pointer x5), (74, .int .i64 x74)] [.code [1,1,1,1,1,1,1,1,1,1,0,1,0,0], .lp [1,1,1,1,1,1,1,1,1,1,0,1,0,0], .blk 2, .code [1,1,1,1,1,1,1,1,1,1,1]] M Q
def A50_2 (x0 x1 x5 x6 : Option Addr) (x47 : Int) (M : Mem) (Q : Value → Mem → Prop) : Prop := LvP Try.prog Try.f50 [(0, .pointer x0), (1, .pointer x1), (5, .pointer x5), (6, .pointer x6), (47, .int .i64 x47)] [.code [1,1,1,1,1,1,1,0,1,1,0,1,0,0], .lp [1,1,1,1,1,1,1,0,1,1,0,1,0,0], .blk 0, .code [1,1,1,1,1,1,1,0,1,1,1], .code [1,1,1,1,1,1,1,1]] M Q
theorem w50_0 {x0 x1 : Option Addr} {x2_0 x2_1 : Int} {M : Mem} {Q : Value → Mem → Prop} (H :
    adS x1 fun a1' =>
    Cn Try.prog 73 #[.pointer x0, .pointer (some ⟨a1'.block, a1'.off, none⟩)] (M.new (.cells #[.int .i64 x2_0, .int .i64 x2_1] 23)) fun v2' N2' =>
     adS x1 fun a3' =>
     onS (N2'.boolAt a3'.block a3'.off) fun b4' =>
     cnd b4' (
      adS x1 fun a5' =>
      Cn Try.prog 74 #[.pointer x0, .pointer (some ⟨a5'.block, a5'.off + 1, none⟩), .int .i64 3, .int .i64 0] N2' fun v6' N6' =>
       Q (.tuple #[]) N6') (
      adS x1 fun a7' =>
      Cn Try.prog 73 #[.pointer x0, .pointer (some ⟨a7'.block, a7'.off + 2, none⟩)] N2' fun v8' N8' =>
       adS x1 fun a9' =>
       Cn Try.prog 73 #[.pointer x0, .pointer (some ⟨a9'.block, a9'.off + 3, none⟩)] N8' fun v10' N10' =>
        adS x1 fun a11' =>
        Cn Try.prog 74 #[.pointer x0, .pointer (some ⟨a11'.block, a11'.off + 4, none⟩), .int .i64 8, .int .i64 0] N10' fun v12' N12' =>
         adS x1 fun a13' =>
         onS (N12'.intAt .i64 a13'.block (a13'.off + 8)) fun x14' =>
         ptS ((N12'.new (.cells #[.bool false] 4)).put (2 * N12'.nb.size) 0 (.bool (decide (x14' ≥ 0)))) fun M15' =>
         adS x1 fun a16' =>
         onS (M15'.boolAt a16'.block (a16'.off + 3)) fun b17' =>
         cnd b17' (
          ptS (M15'.put (2 * N12'.nb.size) 0 (.bool false)) fun M18' =>
          onS (M18'.boolAt (2 * N12'.nb.size) 0) fun b19' =>
          cnd b19' (
           adS x1 fun a20' =>
           Cn Try.prog 74 #[.pointer x0, .pointer (some ⟨a20'.block, a20'.off + 8, none⟩), .int .i64 3, .int .i64 0] M18' fun v21' N21' =>
            adS x1 fun a22' =>
            Cn Try.prog 74 #[.pointer x0, .pointer (some ⟨a22'.block, a22'.off + 9, none⟩), .int .i64 8, .int .i64 0] N21' fun v23' N23' =>
             A50_1 x0 x1 (some ⟨2 * M.nb.size, 0, none⟩) 0 N23' Q) (
           adS x1 fun a24' =>
           ptS (M18'.put a24'.block (a24'.off + 8) (.int .i64 (-1))) fun M25' =>
           adS x1 fun a26' =>
           Cn Try.prog 74 #[.pointer x0, .pointer (some ⟨a26'.block, a26'.off + 9, none⟩), .int .i64 8, .int .i64 0] M25' fun v27' N27' =>
            A50_1 x0 x1 (some ⟨2 * M.nb.size, 0, none⟩) 0 N27' Q)) (
          A50_2 x0 x1 (some ⟨2 * M.nb.size, 0, none⟩) (some ⟨2 * N12'.nb.size, 0, none⟩) 0 M15' Q))) :
    Cn Try.prog 50 #[.pointer x0, .pointer x1, .agg #[.int .i64 x2_0, .int .i64 x2_1]] M Q :=
  Cn.mk (cuts := K50) (sp := Z50) 900 b50 rfl rfl H fun G => by kernel_rfl

theorem w50_1 {x0 x1 x5 : Option Addr} {x74 : Int} {M : Mem} {Q : Value → Mem → Prop} (H :
    cnd (decide (x74 < 5)) (
     adS x1 fun a28' =>
     ixS (idxA (some ⟨a28'.block, a28'.off + 10, none⟩) 5 1 x74) fun a29' =>
     Cn Try.prog 75 #[.pointer x0, .pointer (some a29')] M fun v30' N30' =>
      A50_1 x0 x1 x5 (IntKind.i64.wrap (x74 + 1)) N30' Q) (
     adS x1 fun a31' =>
     adS x5 fun a32' =>
     onS (M.intAt .i64 a32'.block a32'.off) fun x33' =>
     Cn Try.prog 76 #[.pointer x0, .pointer (some ⟨a31'.block, a31'.off + 15, none⟩), .int .i64 x33'] M fun v34' N34' =>
      adS x1 fun a35' =>
      adS x5 fun a36' =>
      onS (N34'.intAt .i64 a36'.block (a36'.off + 1)) fun x37' =>
      Cn Try.prog 76 #[.pointer x0, .pointer (some ⟨a35'.block, a35'.off + 16, none⟩), .int .i64 x37'] N34' fun v38' N38' =>
       adS x1 fun a39' =>
       Cn Try.prog 73 #[.pointer x0, .pointer (some ⟨a39'.block, a39'.off + 17, none⟩)] N38' fun v40' N40' =>
        adS x1 fun a41' =>
        ldP tyZlA0 N40' a41'.block a41'.off fun vs42' =>
        Cn Try.prog 77 #[.agg vs42'.toArray] N40' fun v43' N43' =>
         tyS (asB v43') fun b44' =>
         cnd (!b44') (
          Cn Try.prog 78 #[.pointer x0, .pointer x1] N43' fun v45' N45' =>
           Q (.tuple #[]) N45') (
          Q (.tuple #[]) N43'))) :
    A50_1 x0 x1 x5 x74 M Q :=
  LvP.mk (cuts := K50) (sp := Z50) 900 H fun G => by kernel_rfl

theorem w50_2 {x0 x1 x5 x6 : Option Addr} {x47 : Int} {M : Mem} {Q : Value → Mem → Prop} (H :
    cnd (decide (x47 < 3)) (
     adS x1 fun a46' =>
     ixS (idxA (some ⟨a46'.block, a46'.off + 5, none⟩) 3 1 x47) fun a47' =>
     Cn Try.prog 74 #[.pointer x0, .pointer (some a47'), .int .i64 3, .int .i64 0] M fun v48' N48' =>
      A50_2 x0 x1 x5 x6 (IntKind.i64.wrap (x47 + 1)) N48' Q) (
     Cn Try.prog 73 #[.pointer x0, .pointer x6] M fun v49' N49' =>
      adS x6 fun a50' =>
      onS (N49'.boolAt a50'.block a50'.off) fun b51' =>
      cnd b51' (
       adS x1 fun a52' =>
       Cn Try.prog 74 #[.pointer x0, .pointer (some ⟨a52'.block, a52'.off + 8, none⟩), .int .i64 3, .int .i64 0] N49' fun v53' N53' =>
        adS x1 fun a54' =>
        Cn Try.prog 74 #[.pointer x0, .pointer (some ⟨a54'.block, a54'.off + 9, none⟩), .int .i64 8, .int .i64 0] N53' fun v55' N55' =>
         A50_1 x0 x1 x5 0 N55' Q) (
       adS x1 fun a56' =>
       ptS (N49'.put a56'.block (a56'.off + 8) (.int .i64 (-1))) fun M57' =>
       adS x1 fun a58' =>
       Cn Try.prog 74 #[.pointer x0, .pointer (some ⟨a58'.block, a58'.off + 9, none⟩), .int .i64 8, .int .i64 0] M57' fun v59' N59' =>
        A50_1 x0 x1 x5 0 N59' Q))) :
    A50_2 x0 x1 x5 x6 x47 M Q :=
  LvP.mk (cuts := K50) (sp := Z50) 900 H fun G => by kernel_rfl


end Go.Zt


/- Layer 20: which frame headers may be: heads, their cells, what is asked of them. -/
set_option linter.unusedSimpArgs false
set_option linter.unusedVariables false
set_option maxRecDepth 100000
namespace Go.Zt
open Go Go.Sim Go.Proofs Go.RowKit

structure Hd where
  ex : Bool
  sl : Int
  sh : Bool
  ke : Bool
  rf : Int
  r0 : Int
  r1 : Int
  r2 : Int
  pr : Int
  ba : Int
  d0 : Int
  d1 : Int
  d2 : Int
  d3 : Int
  d4 : Int
  co : Int
  ro : Int
  na : Bool
  l0 : Int
  l1 : Int
  l2 : Int
  l3 : Int
  sp : Int
  cd : Bool
  da : Int
  cb : Int
  A : Option Addr
  n : Nat
  c : Nat
  x0 : Bool
  x1 : Bool
  x2 : Bool
abbrev Hd.cs (h : Hd) : Array Value := #[.bool h.ex, .int .i64 h.sl, .bool h.sh, .bool h.ke, .int .i64 h.rf, .int .i64 h.r0, .int .i64 h.r1, .int .i64 h.r2, .int .i64 h.pr, .int .i64 h.ba, .int .i64 h.d0, .int .i64 h.d1, .int .i64 h.d2, .int .i64 h.d3, .int .i64 h.d4, .int .i64 h.co, .int .i64 h.ro, .bool h.na, .int .i64 h.l0, .int .i64 h.l1, .int .i64 h.l2, .int .i64 h.l3, .int .i64 h.sp, .bool h.cd, .int .i64 h.da, .int .i64 h.cb, .slice h.A h.n h.c, .bool h.x0, .bool h.x1, .bool h.x2]
/-- A strength. -/
structure Sg where
  a : Int
  b : Int
  c : Int
  d : Int
  deriving DecidableEq
abbrev Sg.cells (x : Sg) : List Value := [.int .i64 x.a, .int .i64 x.b, .int .i64 x.c, .int .i64 x.d]
abbrev Sgs (X : List Sg) : List Value := X.flatMap Sg.cells
theorem Sgs_len (X : List Sg) : (Sgs X).length = 4 * X.length := by
  induction X with
  | nil => rfl
  | cons x X ih => simp only [Sgs, List.flatMap_cons, List.length_append, List.length_cons, List.length_nil] at ih ⊢; omega
theorem Sgs_at {X : List Sg} {i : Nat} (h : i < X.length) : ∀ o, o < 4 → (Sgs X)[i * 4 + o]? = (X[i]).cells[o]? := by
  induction X generalizing i with
  | nil => simp at h
  | cons x X ih =>
    intro o ho
    cases i with
    | zero => simp only [Sgs, List.flatMap_cons, Nat.zero_mul, Nat.zero_add]; rw [List.getElem?_append_left (by simpa using ho)]; rfl
    | succ i =>
      simp only [Sgs, List.flatMap_cons]
      rw [List.getElem?_append_right (by simp; omega), show (i + 1) * 4 + o - (x.cells).length = i * 4 + o by simp; omega]
      exact ih (by simpa using h) o ho
/-- A strength of a row. -/
theorem Sgs.elt {M : Mem} {A : Option Addr} {X : List Sg} (hR : Row M A (Sgs X)) {n i : Nat} {z : Int} (hz : z = (i : Int)) (hn : i < n) (hi : i < X.length) :
    ∃ a, idxA A n 4 z = some a ∧ M.intAt .i64 a.block a.off = some X[i].a ∧ M.intAt .i64 a.block (a.off + 1) = some X[i].b ∧ M.intAt .i64 a.block (a.off + 2) = some X[i].c ∧ M.intAt .i64 a.block (a.off + 3) = some X[i].d := by
  have hl := Sgs_len X
  obtain ⟨a, h1, h2⟩ := hR.elt (s := 4) hz hn (by decide) (by omega)
  refine ⟨a, h1, cell_int ?_, cell_int ?_, cell_int ?_, cell_int ?_⟩
  · have := h2 0 (by decide); rw [Nat.add_zero] at this; rw [this, Sgs_at hi 0 (by decide)]; rfl
  · rw [h2 1 (by decide), Sgs_at hi 1 (by decide)]; rfl
  · rw [h2 2 (by decide), Sgs_at hi 2 (by decide)]; rfl
  · rw [h2 3 (by decide), Sgs_at hi 3 (by decide)]; rfl

/-! ### What may be -/
def Hd.less (h : Hd) : Bool := decide (h.ba = 0 ∧ h.d0 = 0 ∧ h.d1 = 0 ∧ h.d2 = 0 ∧ h.d3 = 0 ∧ h.d4 = 0)
def Sg.may (x : Sg) : Bool := decide ((0 ≤ x.a ∧ x.a ≤ 15) ∧ (0 ≤ x.c ∧ x.c ≤ 15) ∧ (0 ≤ x.b ∧ x.b ≤ 3) ∧ (0 ≤ x.d ∧ x.d ≤ 3))
def Hd.mayF (h : Hd) (X : List Sg) : Bool :=
  if h.less then decide ((h.l0 = 0 ∧ h.l1 = 0 ∧ h.l2 = 0 ∧ h.l3 = 0) ∧ h.sp = 0 ∧ h.cd = false ∧ h.da = 0 ∧ h.cb = 0 ∧ X.length = 0 ∧ (h.x0 = false ∧ h.x1 = false ∧ h.x2 = false))
  else decide ((0 ≤ h.sp ∧ h.sp ≤ 7) ∧ (if h.cd then (3 ≤ h.da ∧ h.da ≤ 6) ∧ (0 ≤ h.cb ∧ h.cb ≤ 3) ∧ X.length = 2 ^ h.cb.toNat else h.da = 0 ∧ h.cb = 0 ∧ X.length = 0) ∧
    (0 ≤ h.l0 ∧ h.l0 ≤ 63) ∧ (0 ≤ h.l1 ∧ h.l1 ≤ 63) ∧ (0 ≤ h.l2 ∧ h.l2 ≤ 63) ∧ (0 ≤ h.l3 ∧ h.l3 ≤ 63)) && X.all Sg.may
def Hd.mt (h : Hd) (X : List Sg) : Bool := decide (h.sh = false ∧ h.ke = false ∧ h.rf = 0 ∧ (h.r0 = 0 ∧ h.r1 = 0 ∧ h.r2 = 0) ∧ h.pr = 0 ∧ h.less = true ∧ h.co = 0 ∧ h.ro = 0 ∧ h.na = false ∧ h.mayF X = true)
def logM (n s : Int) : Bool := decide (0 ≤ n ∧ n ≤ 2 ∧ 2 ^ n.toNat ≤ (s + 63) / 64)
def Hd.may (h : Hd) (X : List Sg) (w e : Int) : Bool :=
  mayS w e && (if h.ex then decide (0 ≤ h.sl ∧ h.sl ≤ 7) && h.mt X
    else decide (h.sl = 0 ∧ (0 ≤ h.rf ∧ h.rf ≤ 255) ∧ (-1 ≤ h.pr ∧ h.pr ≤ 7) ∧ (0 ≤ h.ba ∧ h.ba ≤ 255)) && logM h.co w && logM h.ro e && h.mayF X && (!h.ke || decide ((h.r0 = 0 ∧ h.r1 = 0 ∧ h.r2 = 0) ∧ h.pr = -1))) &&
  decide ((0 ≤ h.r0 ∧ h.r0 ≤ 7) ∧ (0 ≤ h.r1 ∧ h.r1 ≤ 7) ∧ (0 ≤ h.r2 ∧ h.r2 ≤ 7)) &&
  decide ((-31 ≤ h.d0 ∧ h.d0 ≤ 31) ∧ (-31 ≤ h.d1 ∧ h.d1 ≤ 31) ∧ (-31 ≤ h.d2 ∧ h.d2 ≤ 31) ∧ (-31 ≤ h.d3 ∧ h.d3 ≤ 31) ∧ (-31 ≤ h.d4 ∧ h.d4 ≤ 31))

/-! ### Comparisons of arrays -/
theorem eqv {t : TypeId} {xs ys : List Value} (hg : isAggP Try.prog t = some true) (hf : flatTy Try.prog 3 t = true) (hx : fits Try.prog 3 t xs = true) (hy : fits Try.prog 3 t ys = true) (hG : Try.prog.eqGuardType Try.prog.depth t = false) (hp : plain (.agg xs.toArray) = true) (hq : plain (.agg ys.toArray) = true) {p : Prop} [Decidable p] (he : xs = ys ↔ p) :
    binV Try.prog .eql t t (.agg xs.toArray) (.agg ys.toArray) = some (.bool (decide p)) ∧ binV Try.prog .neq t t (.agg xs.toArray) (.agg ys.toArray) = some (.bool (!decide p)) := by
  obtain ⟨b, h1, h2, h3⟩ := binV_eqA (P := Try.prog) (k := 3) (t := t) (tb := t) (xs := xs) (ys := ys) (by decide) hg hf hx hy hG hp hq
  have : b = decide p := by
    rw [Bool.eq_iff_iff, h3, he, decide_eq_true_eq]
  rw [h1, h2, this]; exact ⟨rfl, rfl⟩
theorem eq35 (a b c a' b' c' : Int) : binV Try.prog .eql 35 35 (.agg #[.int .i64 a, .int .i64 b, .int .i64 c]) (.agg #[.int .i64 a', .int .i64 b', .int .i64 c']) = some (.bool (decide (a = a' ∧ b = b' ∧ c = c'))) ∧ binV Try.prog .neq 35 35 (.agg #[.int .i64 a, .int .i64 b, .int .i64 c]) (.agg #[.int .i64 a', .int .i64 b', .int .i64 c']) = some (.bool (!decide (a = a' ∧ b = b' ∧ c = c'))) :=
  eqv (xs := [.int .i64 a, .int .i64 b, .int .i64 c]) (ys := [.int .i64 a', .int .i64 b', .int .i64 c']) (by kernel_rfl) (by kernel_rfl) (by kernel_rfl) (by kernel_rfl) (by kernel_rfl) rfl rfl (by simp)
theorem eq37 (a b c d a' b' c' d' : Int) : binV Try.prog .eql 37 37 (.agg #[.int .i64 a, .int .i64 b, .int .i64 c, .int .i64 d]) (.agg #[.int .i64 a', .int .i64 b', .int .i64 c', .int .i64 d']) = some (.bool (decide (a = a' ∧ b = b' ∧ c = c' ∧ d = d'))) ∧ binV Try.prog .neq 37 37 (.agg #[.int .i64 a, .int .i64 b, .int .i64 c, .int .i64 d]) (.agg #[.int .i64 a', .int .i64 b', .int .i64 c', .int .i64 d']) = some (.bool (!decide (a = a' ∧ b = b' ∧ c = c' ∧ d = d'))) :=
  eqv (xs := [.int .i64 a, .int .i64 b, .int .i64 c, .int .i64 d]) (ys := [.int .i64 a', .int .i64 b', .int .i64 c', .int .i64 d']) (by kernel_rfl) (by kernel_rfl) (by kernel_rfl) (by kernel_rfl) (by kernel_rfl) rfl rfl (by simp)
theorem eq96 (a b c d a' b' c' d' : Int) : binV Try.prog .eql 96 96 (.agg #[.int .i64 a, .int .i64 b, .int .i64 c, .int .i64 d]) (.agg #[.int .i64 a', .int .i64 b', .int .i64 c', .int .i64 d']) = some (.bool (decide (a = a' ∧ b = b' ∧ c = c' ∧ d = d'))) ∧ binV Try.prog .neq 96 96 (.agg #[.int .i64 a, .int .i64 b, .int .i64 c, .int .i64 d]) (.agg #[.int .i64 a', .int .i64 b', .int .i64 c', .int .i64 d']) = some (.bool (!decide (a = a' ∧ b = b' ∧ c = c' ∧ d = d'))) :=
  eqv (xs := [.int .i64 a, .int .i64 b, .int .i64 c, .int .i64 d]) (ys := [.int .i64 a', .int .i64 b', .int .i64 c', .int .i64 d']) (by kernel_rfl) (by kernel_rfl) (by kernel_rfl) (by kernel_rfl) (by kernel_rfl) rfl rfl (by simp)
theorem eq36 (a b c d e a' b' c' d' e' : Int) : binV Try.prog .eql 36 36 (.agg #[.int .i64 a, .int .i64 b, .int .i64 c, .int .i64 d, .int .i64 e]) (.agg #[.int .i64 a', .int .i64 b', .int .i64 c', .int .i64 d', .int .i64 e']) = some (.bool (decide (a = a' ∧ b = b' ∧ c = c' ∧ d = d' ∧ e = e'))) ∧ binV Try.prog .neq 36 36 (.agg #[.int .i64 a, .int .i64 b, .int .i64 c, .int .i64 d, .int .i64 e]) (.agg #[.int .i64 a', .int .i64 b', .int .i64 c', .int .i64 d', .int .i64 e']) = some (.bool (!decide (a = a' ∧ b = b' ∧ c = c' ∧ d = d' ∧ e = e'))) :=
  eqv (xs := [.int .i64 a, .int .i64 b, .int .i64 c, .int .i64 d, .int .i64 e]) (ys := [.int .i64 a', .int .i64 b', .int .i64 c', .int .i64 d', .int .i64 e']) (by kernel_rfl) (by kernel_rfl) (by kernel_rfl) (by kernel_rfl) (by kernel_rfl) rfl rfl (by simp)
theorem eq39 (a b c a' b' c' : Bool) : binV Try.prog .eql 39 39 (.agg #[.bool a, .bool b, .bool c]) (.agg #[.bool a', .bool b', .bool c']) = some (.bool (decide (a = a' ∧ b = b' ∧ c = c'))) ∧ binV Try.prog .neq 39 39 (.agg #[.bool a, .bool b, .bool c]) (.agg #[.bool a', .bool b', .bool c']) = some (.bool (!decide (a = a' ∧ b = b' ∧ c = c'))) :=
  eqv (xs := [.bool a, .bool b, .bool c]) (ys := [.bool a', .bool b', .bool c']) (by kernel_rfl) (by kernel_rfl) (by kernel_rfl) (by kernel_rfl) (by kernel_rfl) rfl rfl (by simp)

/-! ### The program's checks -/
theorem dT {p : Prop} [Decidable p] (h : decide p = true) : p := of_decide_eq_true h
theorem dF {p : Prop} [Decidable p] (h : decide p = false) : ¬ p := of_decide_eq_false h
theorem bF {p : Prop} [Decidable p] (h : ¬ p) : (Value.bool false) = .bool (decide p) := by rw [decide_eq_false h]
theorem pow2 {n : Int} (h : 0 ≤ n ∧ n ≤ 3) : (2 : Int) ^ n.toNat ≤ 8 ∧ 1 ≤ (2 : Int) ^ n.toNat := by
  have : n.toNat = 0 ∨ n.toNat = 1 ∨ n.toNat = 2 ∨ n.toNat = 3 := by omega
  rcases this with h | h | h | h <;> rw [h] <;> decide
theorem c57 {n s : Int} {M : Mem} (hs : 16 ≤ s ∧ s ≤ 256) : Cn Try.prog 57 #[.int .i64 n, .int .i64 s] M fun v N => v = .bool (logM n s) ∧ N = M := by
  refine w57_0 (Cn.eq c55 (ty rfl (cd (fun h => ?_) fun h => ⟨bF (by omega), rfl⟩)))
  obtain ⟨p1, p2⟩ := pow2 (n := n) (by omega)
  refine pu (shl_i64 (q := n.toNat) (by omega) (by omega) (by omega)) (ty rfl ⟨?_, rfl⟩)
  rw [i64w (x := s + 64) (by omega), i64w (x := s + 64 - 1) (by omega), Int.tdiv_eq_ediv_of_nonneg (by omega), i64w (by omega), show s + 64 - 1 = s + 63 by omega, Int.one_mul]
  unfold logM
  congr 1
  rw [decide_eq_decide]
  exact ⟨fun h' => ⟨h.1, h.2, h'⟩, fun h' => h'.2.2⟩
theorem c77 {h : Hd} {M : Mem} : Cn Try.prog 77 #[.agg h.cs] M (BK M h.less) := by
  have a := Mem.new_at M (.cells h.cs 41)
  have K : Keep M (M.new (.cells h.cs 41)) := .new _ _
  refine w77_0 ?_
  generalize M.new (.cells h.cs 41) = N at a K ⊢
  refine on (int_of a rfl) (ce (fun e => on (int_of a rfl) (on (int_of a rfl) (on (int_of a rfl) (on (int_of a rfl) (on (int_of a rfl) (pu (eq36 ..).1 (ty rfl ⟨?_, K⟩))))))) fun e => ⟨bF fun hh => e hh.1, K⟩)
  unfold Hd.less; congr 1; rw [decide_eq_decide]; exact ⟨fun hh => ⟨e, hh⟩, fun hh => hh.2⟩
end Go.Zt


/- Layer 20: the program's Check of a frame header. -/
set_option linter.unusedSimpArgs false
set_option linter.unusedVariables false
set_option maxRecDepth 100000
namespace Go.Zt
open Go Go.Sim Go.Proofs Go.RowKit

section
variable {h : Hd} {X : List Sg} {M0 M : Mem} {j : Nat}
/-- How many strengths there are to be. -/
def Hd.many (h : Hd) : Nat := if h.cd then 2 ^ (h.cb % 4).toNat else 0
end
end Go.Zt


/- Layer 20: the program's Check of a frame header, whole. -/
set_option linter.unusedSimpArgs false
set_option linter.unusedVariables false
set_option maxRecDepth 100000
namespace Go.Zt
open Go Go.Sim Go.Proofs Go.RowKit

section
variable {h : Hd} {X : List Sg} {M0 M : Mem} {j i w e : Nat}
end
end Go.Zt


/- The functions' walks: for each function and each loop a rule of what it comes to. Printed by zw2.py. -/
set_option linter.unusedVariables false
set_option maxRecDepth 100000
namespace Go.Zt
open Go Go.Sim Go.Proofs

/-! ### zoetrope/zoetroperef20.squares: function 59 -/
def K59 : List (List It × List Nat) := []
def Z59 : List (List Nat × List Nat) := []
theorem b59 : Try.prog.funcs[59]? = some Try.f59 ∧ (Orc.tab Try.prog).lookup 59 = none ∧ Try.f59.body = some (codeOf Try.f59) := ⟨by kernel_rfl, by kernel_rfl, by kernel_rfl⟩
theorem w59_0 {x0 : Int} {M : Mem} {Q : Value → Mem → Prop} (H :
    Q (.int .i64 (IntKind.i64.wrap ((IntKind.i64.wrap (x0 + 63)).tdiv 64))) M) :
    Cn Try.prog 59 #[.int .i64 x0] M Q :=
  Cn.mk (cuts := K59) (sp := Z59) 900 b59 rfl rfl H fun G => by kernel_rfl


/-! ### zoetrope/zoetroperef20.Lossless: function 54 -/
def K54 : List (List It × List Nat) := []
def Z54 : List (List Nat × List Nat) := []
theorem b54 : Try.prog.funcs[54]? = some Try.f54 ∧ (Orc.tab Try.prog).lookup 54 = none ∧ Try.f54.body = some (codeOf Try.f54) := ⟨by kernel_rfl, by kernel_rfl, by kernel_rfl⟩
theorem w54_0 {x0 : Array Value} {M : Mem} {Q : Value → Mem → Prop} (H :
    onS ((M.new (.cells x0 41)).intAt .i64 (2 * M.nb.size) (0 + 9)) fun x1' =>
    cnd (x1' == 0) (
     onS ((M.new (.cells x0 41)).intAt .i64 (2 * M.nb.size) (0 + 10)) fun x2' =>
     onS ((M.new (.cells x0 41)).intAt .i64 (2 * M.nb.size) (0 + 11)) fun x3' =>
     onS ((M.new (.cells x0 41)).intAt .i64 (2 * M.nb.size) (0 + 12)) fun x4' =>
     onS ((M.new (.cells x0 41)).intAt .i64 (2 * M.nb.size) (0 + 13)) fun x5' =>
     onS ((M.new (.cells x0 41)).intAt .i64 (2 * M.nb.size) (0 + 14)) fun x6' =>
     puS (binV Try.prog .eql 36 36 (.agg #[.int .i64 x2', .int .i64 x3', .int .i64 x4', .int .i64 x5', .int .i64 x6']) (.agg #[.int .i64 0, .int .i64 0, .int .i64 0, .int .i64 0, .int .i64 0])) fun v7' =>
     tyS (asB v7') fun b8' =>
     Q (.bool b8') (M.new (.cells x0 41))) (
     Q (.bool false) (M.new (.cells x0 41)))) :
    Cn Try.prog 54 #[.agg x0] M Q :=
  Cn.mk (cuts := K54) (sp := Z54) 900 b54 rfl rfl H fun G => by kernel_rfl


/-! ### zoetrope/zoetroperef20.Same: function 30 -/
def K30 : List (List It × List Nat) := [([.rg [1,0,0] 13, .code [1,0,1], .code [1,1]], [2, 3, 18]), ([.rg [1,0,0] 20, .code [1,0,1], .code [1,1]], [2, 3, 25]), ([.rg [1,0,0] 27, .code [1,0,1], .code [1,1]], [2, 3, 32]), ([.rg [1,0,0] 34, .code [1,0,1], .code [1,1]], [2, 3, 39]), ([.rg [1,0,0] 41, .code [1,0,1], .code [1,1]], [2, 3, 46]), ([.rg [1,0,0] 48, .code [1,0,1], .code [1,1]], [2, 3, 53]), ([.rg [1,0,0] 55, .code [1,0,1], .code [1,1]], [2, 3, 60]), ([.rg [1,0,0] 62, .code [1,0,1], .code [1,1]], [2, 3, 67]), ([.rg [1,0,0] 69, .code [1,0,1], .code [1,1]], [2, 3, 74]), ([.rg [1,0,0] 76, .code [1,0,1], .code [1,1]], [2, 3, 81]), ([.code [1,0,1], .code [1,1]], [2, 3, 87]), ([.rg [1,1,0,0] 13, .code [1,1,0,1], .code [1,1,1]], [2, 3, 100]), ([.rg [1,1,0,0] 20, .code [1,1,0,1], .code [1,1,1]], [2, 3, 107]), ([.rg [1,1,0,0] 27, .code [1,1,0,1], .code [1,1,1]], [2, 3, 114]), ([.rg [1,1,0,0] 34, .code [1,1,0,1], .code [1,1,1]], [2, 3, 121]), ([.rg [1,1,0,0] 41, .code [1,1,0,1], .code [1,1,1]], [2, 3, 128]), ([.code [1,1,0,1], .code [1,1,1]], [2, 3, 136]), ([.code [1,1,1,0,1,0,0], .lp [1,1,1,0,1,0,0], .blk 0, .code [1,1,1,1]], [2, 3, 5])]
def Z30 : List (List Nat × List Nat) := [([1,0,0], [13, 20, 27, 34, 41, 48, 55, 62, 69, 76, 82]), ([1,1,0,0], [13, 20, 27, 34, 41, 49])]
theorem b30 : Try.prog.funcs[30]? = some Try.f30 ∧ (Orc.tab Try.prog).lookup 30 = none ∧ Try.f30.body = some (codeOf Try.f30) := ⟨by kernel_rfl, by kernel_rfl, by kernel_rfl⟩
def A30_1 (x2 x3 : Option Addr) (x18 : Bool) (M : Mem) (Q : Value → Mem → Prop) : Prop := LvP Try.prog Try.f30 [(2, .pointer x2), (3, .pointer x3), (18, .bool x18)] [.rg [1,0,0] 13, .code [1,0,1], .code [1,1]] M Q
def A30_2 (x2 x3 : Option Addr) (x25 : Bool) (M : Mem) (Q : Value → Mem → Prop) : Prop := LvP Try.prog Try.f30 [(2, .pointer x2), (3, .pointer x3), (25, .bool x25)] [.rg [1,0,0] 20, .code [1,0,1], .code [1,1]] M Q
def A30_3 (x2 x3 : Option Addr) (x32 : Bool) (M : Mem) (Q : Value → Mem → Prop) : Prop := LvP Try.prog Try.f30 [(2, .pointer x2), (3, .pointer x3), (32, .bool x32)] [.rg [1,0,0] 27, .code [1,0,1], .code [1,1]] M Q
def A30_4 (x2 x3 : Option Addr) (x39 : Bool) (M : Mem) (Q : Value → Mem → Prop) : Prop := LvP Try.prog Try.f30 [(2, .pointer x2), (3, .pointer x3), (39, .bool x39)] [.rg [1,0,0] 34, .code [1,0,1], .code [1,1]] M Q
def A30_5 (x2 x3 : Option Addr) (x46 : Bool) (M : Mem) (Q : Value → Mem → Prop) : Prop := LvP Try.prog Try.f30 [(2, .pointer x2), (3, .pointer x3), (46, .bool x46)] [.rg [1,0,0] 41, .code [1,0,1], .code [1,1]] M Q
def A30_6 (x2 x3 : Option Addr) (x53 : Bool) (M : Mem) (Q : Value → Mem → Prop) : Prop := LvP Try.prog Try.f30 [(2, .pointer x2), (3, .pointer x3), (53, .bool x53)] [.rg [1,0,0] 48, .code [1,0,1], .code [1,1]] M Q
def A30_7 (x2 x3 : Option Addr) (x60 : Bool) (M : Mem) (Q : Value → Mem → Prop) : Prop := LvP Try.prog Try.f30 [(2, .pointer x2), (3, .pointer x3), (60, .bool x60)] [.rg [1,0,0] 55, .code [1,0,1], .code [1,1]] M Q
def A30_8 (x2 x3 : Option Addr) (x67 : Bool) (M : Mem) (Q : Value → Mem → Prop) : Prop := LvP Try.prog Try.f30 [(2, .pointer x2), (3, .pointer x3), (67, .bool x67)] [.rg [1,0,0] 62, .code [1,0,1], .code [1,1]] M Q
def A30_9 (x2 x3 : Option Addr) (x74 : Bool) (M : Mem) (Q : Value → Mem → Prop) : Prop := LvP Try.prog Try.f30 [(2, .pointer x2), (3, .pointer x3), (74, .bool x74)] [.rg [1,0,0] 69, .code [1,0,1], .code [1,1]] M Q
def A30_10 (x2 x3 : Option Addr) (x81 : Bool) (M : Mem) (Q : Value → Mem → Prop) : Prop := LvP Try.prog Try.f30 [(2, .pointer x2), (3, .pointer x3), (81, .bool x81)] [.rg [1,0,0] 76, .code [1,0,1], .code [1,1]] M Q
def A30_11 (x2 x3 : Option Addr) (x87 : Bool) (M : Mem) (Q : Value → Mem → Prop) : Prop := LvP Try.prog Try.f30 [(2, .pointer x2), (3, .pointer x3), (87, .bool x87)] [.code [1,0,1], .code [1,1]] M Q
def A30_12 (x2 x3 : Option Addr) (x100 : Bool) (M : Mem) (Q : Value → Mem → Prop) : Prop := LvP Try.prog Try.f30 [(2, .pointer x2), (3, .pointer x3), (100, .bool x100)] [.rg [1,1,0,0] 13, .code [1,1,0,1], .code [1,1,1]] M Q
def A30_13 (x2 x3 : Option Addr) (x107 : Bool) (M : Mem) (Q : Value → Mem → Prop) : Prop := LvP Try.prog Try.f30 [(2, .pointer x2), (3, .pointer x3), (107, .bool x107)] [.rg [1,1,0,0] 20, .code [1,1,0,1], .code [1,1,1]] M Q
def A30_14 (x2 x3 : Option Addr) (x114 : Bool) (M : Mem) (Q : Value → Mem → Prop) : Prop := LvP Try.prog Try.f30 [(2, .pointer x2), (3, .pointer x3), (114, .bool x114)] [.rg [1,1,0,0] 27, .code [1,1,0,1], .code [1,1,1]] M Q
def A30_15 (x2 x3 : Option Addr) (x121 : Bool) (M : Mem) (Q : Value → Mem → Prop) : Prop := LvP Try.prog Try.f30 [(2, .pointer x2), (3, .pointer x3), (121, .bool x121)] [.rg [1,1,0,0] 34, .code [1,1,0,1], .code [1,1,1]] M Q
def A30_16 (x2 x3 : Option Addr) (x128 : Bool) (M : Mem) (Q : Value → Mem → Prop) : Prop := LvP Try.prog Try.f30 [(2, .pointer x2), (3, .pointer x3), (128, .bool x128)] [.rg [1,1,0,0] 41, .code [1,1,0,1], .code [1,1,1]] M Q
def A30_17 (x2 x3 : Option Addr) (x136 : Bool) (M : Mem) (Q : Value → Mem → Prop) : Prop := LvP Try.prog Try.f30 [(2, .pointer x2), (3, .pointer x3), (136, .bool x136)] [.code [1,1,0,1], .code [1,1,1]] M Q
def A30_18 (x2 x3 : Option Addr) (x5 : Int) (M : Mem) (Q : Value → Mem → Prop) : Prop := LvP Try.prog Try.f30 [(2, .pointer x2), (3, .pointer x3), (5, .int .i64 x5)] [.code [1,1,1,0,1,0,0], .lp [1,1,1,0,1,0,0], .blk 0, .code [1,1,1,1]] M Q
theorem w30_0 {x0 x1 : Array Value} {M : Mem} {Q : Value → Mem → Prop} (H :
    onS (((M.new (.cells x0 41)).new (.cells x1 41)).boolAt (2 * M.nb.size) 0) fun b1' =>
    onS (((M.new (.cells x0 41)).new (.cells x1 41)).boolAt (2 * (M.new (.cells x0 41)).nb.size) 0) fun b2' =>
    cnd (!(b1' == b2')) (
     A30_1 (some ⟨2 * M.nb.size, 0, none⟩) (some ⟨2 * (M.new (.cells x0 41)).nb.size, 0, none⟩) true ((M.new (.cells x0 41)).new (.cells x1 41)) Q) (
     onS (((M.new (.cells x0 41)).new (.cells x1 41)).intAt .i64 (2 * M.nb.size) (0 + 1)) fun x3' =>
     onS (((M.new (.cells x0 41)).new (.cells x1 41)).intAt .i64 (2 * (M.new (.cells x0 41)).nb.size) (0 + 1)) fun x4' =>
     A30_1 (some ⟨2 * M.nb.size, 0, none⟩) (some ⟨2 * (M.new (.cells x0 41)).nb.size, 0, none⟩) (x3' != x4') ((M.new (.cells x0 41)).new (.cells x1 41)) Q)) :
    Cn Try.prog 30 #[.agg x0, .agg x1] M Q :=
  Cn.mk (cuts := K30) (sp := Z30) 900 b30 rfl rfl H fun G => by kernel_rfl

theorem w30_1 {x2 x3 : Option Addr} {x18 : Bool} {M : Mem} {Q : Value → Mem → Prop} (H :
    cnd x18 (
     A30_2 x2 x3 true M Q) (
     adS x2 fun a5' =>
     onS (M.boolAt a5'.block (a5'.off + 2)) fun b6' =>
     adS x3 fun a7' =>
     onS (M.boolAt a7'.block (a7'.off + 2)) fun b8' =>
     A30_2 x2 x3 (!(b6' == b8')) M Q)) :
    A30_1 x2 x3 x18 M Q :=
  LvP.mk (cuts := K30) (sp := Z30) 900 H fun G => by kernel_rfl

theorem w30_2 {x2 x3 : Option Addr} {x25 : Bool} {M : Mem} {Q : Value → Mem → Prop} (H :
    cnd x25 (
     A30_3 x2 x3 true M Q) (
     adS x2 fun a9' =>
     onS (M.boolAt a9'.block (a9'.off + 3)) fun b10' =>
     adS x3 fun a11' =>
     onS (M.boolAt a11'.block (a11'.off + 3)) fun b12' =>
     A30_3 x2 x3 (!(b10' == b12')) M Q)) :
    A30_2 x2 x3 x25 M Q :=
  LvP.mk (cuts := K30) (sp := Z30) 900 H fun G => by kernel_rfl

theorem w30_3 {x2 x3 : Option Addr} {x32 : Bool} {M : Mem} {Q : Value → Mem → Prop} (H :
    cnd x32 (
     A30_4 x2 x3 true M Q) (
     adS x2 fun a13' =>
     onS (M.intAt .i64 a13'.block (a13'.off + 4)) fun x14' =>
     adS x3 fun a15' =>
     onS (M.intAt .i64 a15'.block (a15'.off + 4)) fun x16' =>
     A30_4 x2 x3 (x14' != x16') M Q)) :
    A30_3 x2 x3 x32 M Q :=
  LvP.mk (cuts := K30) (sp := Z30) 900 H fun G => by kernel_rfl

theorem w30_4 {x2 x3 : Option Addr} {x39 : Bool} {M : Mem} {Q : Value → Mem → Prop} (H :
    cnd x39 (
     A30_5 x2 x3 true M Q) (
     adS x2 fun a17' =>
     onS (M.intAt .i64 a17'.block (a17'.off + 5)) fun x18' =>
     onS (M.intAt .i64 a17'.block (a17'.off + 6)) fun x19' =>
     onS (M.intAt .i64 a17'.block (a17'.off + 7)) fun x20' =>
     adS x3 fun a21' =>
     onS (M.intAt .i64 a21'.block (a21'.off + 5)) fun x22' =>
     onS (M.intAt .i64 a21'.block (a21'.off + 6)) fun x23' =>
     onS (M.intAt .i64 a21'.block (a21'.off + 7)) fun x24' =>
     puS (binV Try.prog .neq 35 35 (.agg #[.int .i64 x18', .int .i64 x19', .int .i64 x20']) (.agg #[.int .i64 x22', .int .i64 x23', .int .i64 x24'])) fun v25' =>
     tyS (asB v25') fun b26' =>
     A30_5 x2 x3 b26' M Q)) :
    A30_4 x2 x3 x39 M Q :=
  LvP.mk (cuts := K30) (sp := Z30) 900 H fun G => by kernel_rfl

theorem w30_5 {x2 x3 : Option Addr} {x46 : Bool} {M : Mem} {Q : Value → Mem → Prop} (H :
    cnd x46 (
     A30_6 x2 x3 true M Q) (
     adS x2 fun a27' =>
     onS (M.intAt .i64 a27'.block (a27'.off + 8)) fun x28' =>
     adS x3 fun a29' =>
     onS (M.intAt .i64 a29'.block (a29'.off + 8)) fun x30' =>
     A30_6 x2 x3 (x28' != x30') M Q)) :
    A30_5 x2 x3 x46 M Q :=
  LvP.mk (cuts := K30) (sp := Z30) 900 H fun G => by kernel_rfl

theorem w30_6 {x2 x3 : Option Addr} {x53 : Bool} {M : Mem} {Q : Value → Mem → Prop} (H :
    cnd x53 (
     A30_7 x2 x3 true M Q) (
     adS x2 fun a31' =>
     onS (M.intAt .i64 a31'.block (a31'.off + 9)) fun x32' =>
     adS x3 fun a33' =>
     onS (M.intAt .i64 a33'.block (a33'.off + 9)) fun x34' =>
     A30_7 x2 x3 (x32' != x34') M Q)) :
    A30_6 x2 x3 x53 M Q :=
  LvP.mk (cuts := K30) (sp := Z30) 900 H fun G => by kernel_rfl

theorem w30_7 {x2 x3 : Option Addr} {x60 : Bool} {M : Mem} {Q : Value → Mem → Prop} (H :
    cnd x60 (
     A30_8 x2 x3 true M Q) (
     adS x2 fun a35' =>
     onS (M.intAt .i64 a35'.block (a35'.off + 10)) fun x36' =>
     onS (M.intAt .i64 a35'.block (a35'.off + 11)) fun x37' =>
     onS (M.intAt .i64 a35'.block (a35'.off + 12)) fun x38' =>
     onS (M.intAt .i64 a35'.block (a35'.off + 13)) fun x39' =>
     onS (M.intAt .i64 a35'.block (a35'.off + 14)) fun x40' =>
     adS x3 fun a41' =>
     onS (M.intAt .i64 a41'.block (a41'.off + 10)) fun x42' =>
     onS (M.intAt .i64 a41'.block (a41'.off + 11)) fun x43' =>
     onS (M.intAt .i64 a41'.block (a41'.off + 12)) fun x44' =>
     onS (M.intAt .i64 a41'.block (a41'.off + 13)) fun x45' =>
     onS (M.intAt .i64 a41'.block (a41'.off + 14)) fun x46' =>
     puS (binV Try.prog .neq 36 36 (.agg #[.int .i64 x36', .int .i64 x37', .int .i64 x38', .int .i64 x39', .int .i64 x40']) (.agg #[.int .i64 x42', .int .i64 x43', .int .i64 x44', .int .i64 x45', .int .i64 x46'])) fun v47' =>
     tyS (asB v47') fun b48' =>
     A30_8 x2 x3 b48' M Q)) :
    A30_7 x2 x3 x60 M Q :=
  LvP.mk (cuts := K30) (sp := Z30) 900 H fun G => by kernel_rfl

theorem w30_8 {x2 x3 : Option Addr} {x67 : Bool} {M : Mem} {Q : Value → Mem → Prop} (H :
    cnd x67 (
     A30_9 x2 x3 true M Q) (
     adS x2 fun a49' =>
     onS (M.intAt .i64 a49'.block (a49'.off + 15)) fun x50' =>
     adS x3 fun a51' =>
     onS (M.intAt .i64 a51'.block (a51'.off + 15)) fun x52' =>
     A30_9 x2 x3 (x50' != x52') M Q)) :
    A30_8 x2 x3 x67 M Q :=
  LvP.mk (cuts := K30) (sp := Z30) 900 H fun G => by kernel_rfl

theorem w30_9 {x2 x3 : Option Addr} {x74 : Bool} {M : Mem} {Q : Value → Mem → Prop} (H :
    cnd x74 (
     A30_10 x2 x3 true M Q) (
     adS x2 fun a53' =>
     onS (M.intAt .i64 a53'.block (a53'.off + 16)) fun x54' =>
     adS x3 fun a55' =>
     onS (M.intAt .i64 a55'.block (a55'.off + 16)) fun x56' =>
     A30_10 x2 x3 (x54' != x56') M Q)) :
    A30_9 x2 x3 x74 M Q :=
  LvP.mk (cuts := K30) (sp := Z30) 900 H fun G => by kernel_rfl

theorem w30_10 {x2 x3 : Option Addr} {x81 : Bool} {M : Mem} {Q : Value → Mem → Prop} (H :
    cnd x81 (
     A30_11 x2 x3 true M Q) (
     adS x2 fun a57' =>
     onS (M.boolAt a57'.block (a57'.off + 17)) fun b58' =>
     adS x3 fun a59' =>
     onS (M.boolAt a59'.block (a59'.off + 17)) fun b60' =>
     A30_11 x2 x3 (!(b58' == b60')) M Q)) :
    A30_10 x2 x3 x81 M Q :=
  LvP.mk (cuts := K30) (sp := Z30) 900 H fun G => by kernel_rfl

theorem w30_11 {x2 x3 : Option Addr} {x87 : Bool} {M : Mem} {Q : Value → Mem → Prop} (H :
    cnd x87 (
     Q (.bool false) M) (
     adS x2 fun a61' =>
     onS (M.intAt .i64 a61'.block (a61'.off + 18)) fun x62' =>
     onS (M.intAt .i64 a61'.block (a61'.off + 19)) fun x63' =>
     onS (M.intAt .i64 a61'.block (a61'.off + 20)) fun x64' =>
     onS (M.intAt .i64 a61'.block (a61'.off + 21)) fun x65' =>
     adS x3 fun a66' =>
     onS (M.intAt .i64 a66'.block (a66'.off + 18)) fun x67' =>
     onS (M.intAt .i64 a66'.block (a66'.off + 19)) fun x68' =>
     onS (M.intAt .i64 a66'.block (a66'.off + 20)) fun x69' =>
     onS (M.intAt .i64 a66'.block (a66'.off + 21)) fun x70' =>
     puS (binV Try.prog .neq 37 37 (.agg #[.int .i64 x62', .int .i64 x63', .int .i64 x64', .int .i64 x65']) (.agg #[.int .i64 x67', .int .i64 x68', .int .i64 x69', .int .i64 x70'])) fun v71' =>
     tyS (asB v71') fun b72' =>
     cnd b72' (
      A30_12 x2 x3 true M Q) (
      adS x2 fun a73' =>
      onS (M.intAt .i64 a73'.block (a73'.off + 22)) fun x74' =>
      adS x3 fun a75' =>
      onS (M.intAt .i64 a75'.block (a75'.off + 22)) fun x76' =>
      A30_12 x2 x3 (x74' != x76') M Q))) :
    A30_11 x2 x3 x87 M Q :=
  LvP.mk (cuts := K30) (sp := Z30) 900 H fun G => by kernel_rfl

theorem w30_12 {x2 x3 : Option Addr} {x100 : Bool} {M : Mem} {Q : Value → Mem → Prop} (H :
    cnd x100 (
     A30_13 x2 x3 true M Q) (
     adS x2 fun a77' =>
     onS (M.boolAt a77'.block (a77'.off + 23)) fun b78' =>
     adS x3 fun a79' =>
     onS (M.boolAt a79'.block (a79'.off + 23)) fun b80' =>
     A30_13 x2 x3 (!(b78' == b80')) M Q)) :
    A30_12 x2 x3 x100 M Q :=
  LvP.mk (cuts := K30) (sp := Z30) 900 H fun G => by kernel_rfl

theorem w30_13 {x2 x3 : Option Addr} {x107 : Bool} {M : Mem} {Q : Value → Mem → Prop} (H :
    cnd x107 (
     A30_14 x2 x3 true M Q) (
     adS x2 fun a81' =>
     onS (M.intAt .i64 a81'.block (a81'.off + 24)) fun x82' =>
     adS x3 fun a83' =>
     onS (M.intAt .i64 a83'.block (a83'.off + 24)) fun x84' =>
     A30_14 x2 x3 (x82' != x84') M Q)) :
    A30_13 x2 x3 x107 M Q :=
  LvP.mk (cuts := K30) (sp := Z30) 900 H fun G => by kernel_rfl

theorem w30_14 {x2 x3 : Option Addr} {x114 : Bool} {M : Mem} {Q : Value → Mem → Prop} (H :
    cnd x114 (
     A30_15 x2 x3 true M Q) (
     adS x2 fun a85' =>
     onS (M.intAt .i64 a85'.block (a85'.off + 25)) fun x86' =>
     adS x3 fun a87' =>
     onS (M.intAt .i64 a87'.block (a87'.off + 25)) fun x88' =>
     A30_15 x2 x3 (x86' != x88') M Q)) :
    A30_14 x2 x3 x114 M Q :=
  LvP.mk (cuts := K30) (sp := Z30) 900 H fun G => by kernel_rfl

theorem w30_15 {x2 x3 : Option Addr} {x121 : Bool} {M : Mem} {Q : Value → Mem → Prop} (H :
    cnd x121 (
     A30_16 x2 x3 true M Q) (
     adS x2 fun a89' =>
     onS (M.boolAt a89'.block (a89'.off + 27)) fun b90' =>
     onS (M.boolAt a89'.block (a89'.off + 28)) fun b91' =>
     onS (M.boolAt a89'.block (a89'.off + 29)) fun b92' =>
     adS x3 fun a93' =>
     onS (M.boolAt a93'.block (a93'.off + 27)) fun b94' =>
     onS (M.boolAt a93'.block (a93'.off + 28)) fun b95' =>
     onS (M.boolAt a93'.block (a93'.off + 29)) fun b96' =>
     puS (binV Try.prog .neq 39 39 (.agg #[.bool b90', .bool b91', .bool b92']) (.agg #[.bool b94', .bool b95', .bool b96'])) fun v97' =>
     tyS (asB v97') fun b98' =>
     A30_16 x2 x3 b98' M Q)) :
    A30_15 x2 x3 x121 M Q :=
  LvP.mk (cuts := K30) (sp := Z30) 900 H fun G => by kernel_rfl

theorem w30_16 {x2 x3 : Option Addr} {x128 : Bool} {M : Mem} {Q : Value → Mem → Prop} (H :
    cnd x128 (
     A30_17 x2 x3 true M Q) (
     adS x2 fun a99' =>
     onS (M.slAt a99'.block (a99'.off + 26)) fun s100' =>
     adS x3 fun a101' =>
     onS (M.slAt a101'.block (a101'.off + 26)) fun s102' =>
     A30_17 x2 x3 (((s100'.2.1 : Int)) != ((s102'.2.1 : Int))) M Q)) :
    A30_16 x2 x3 x128 M Q :=
  LvP.mk (cuts := K30) (sp := Z30) 900 H fun G => by kernel_rfl

theorem w30_17 {x2 x3 : Option Addr} {x136 : Bool} {M : Mem} {Q : Value → Mem → Prop} (H :
    cnd x136 (
     Q (.bool false) M) (
     A30_18 x2 x3 0 M Q)) :
    A30_17 x2 x3 x136 M Q :=
  LvP.mk (cuts := K30) (sp := Z30) 900 H fun G => by kernel_rfl

theorem w30_18 {x2 x3 : Option Addr} {x5 : Int} {M : Mem} {Q : Value → Mem → Prop} (H :
    adS x2 fun a103' =>
    onS (M.slAt a103'.block (a103'.off + 26)) fun s104' =>
    cnd (decide (x5 < ((s104'.2.1 : Int)))) (
     adS x2 fun a105' =>
     onS (M.slAt a105'.block (a105'.off + 26)) fun s106' =>
     ixS (idxA s106'.1 (s106'.2.1) 4 x5) fun a107' =>
     onS (M.intAt .i64 a107'.block a107'.off) fun x108' =>
     onS (M.intAt .i64 a107'.block (a107'.off + 1)) fun x109' =>
     onS (M.intAt .i64 a107'.block (a107'.off + 2)) fun x110' =>
     onS (M.intAt .i64 a107'.block (a107'.off + 3)) fun x111' =>
     adS x3 fun a112' =>
     onS (M.slAt a112'.block (a112'.off + 26)) fun s113' =>
     ixS (idxA s113'.1 (s113'.2.1) 4 x5) fun a114' =>
     onS (M.intAt .i64 a114'.block a114'.off) fun x115' =>
     onS (M.intAt .i64 a114'.block (a114'.off + 1)) fun x116' =>
     onS (M.intAt .i64 a114'.block (a114'.off + 2)) fun x117' =>
     onS (M.intAt .i64 a114'.block (a114'.off + 3)) fun x118' =>
     puS (binV Try.prog .neq 96 96 (.agg #[.int .i64 x108', .int .i64 x109', .int .i64 x110', .int .i64 x111']) (.agg #[.int .i64 x115', .int .i64 x116', .int .i64 x117', .int .i64 x118'])) fun v119' =>
     tyS (asB v119') fun b120' =>
     cnd b120' (
      Q (.bool false) M) (
      A30_18 x2 x3 (IntKind.i64.wrap (x5 + 1)) M Q)) (
     Q (.bool true) M)) :
    A30_18 x2 x3 x5 M Q :=
  LvP.mk (cuts := K30) (sp := Z30) 900 H fun G => by kernel_rfl


end Go.Zt


/- Layer 20: the document's checks, first part: squares, Lossless, Same. Printed by genP.py. -/
set_option linter.unusedSimpArgs false
set_option linter.unusedVariables false
set_option maxRecDepth 100000
namespace Go.Zt
open Go Go.Sim Go.Proofs Go.RowKit

theorem c59 {s : Int} {M : Mem} (hs : 16 ≤ s ∧ s ≤ 256) : Cn Try.prog 59 #[.int .i64 s] M fun v N => v = .int .i64 ((s + 63) / 64) ∧ N = M :=
  w59_0 ⟨by rw [i64w (x := s + 63) (by omega), Int.tdiv_eq_ediv_of_nonneg (by omega), i64w (by omega)], rfl⟩
theorem c54 {h : Hd} {M : Mem} : Cn Try.prog 54 #[.agg h.cs] M (BK M h.less) := by
  have a := Mem.new_at M (.cells h.cs 41)
  have K : Keep M (M.new (.cells h.cs 41)) := .new _ _
  refine w54_0 ?_
  generalize M.new (.cells h.cs 41) = N at a K ⊢
  refine on (int_of a rfl) (ce (fun e => on (int_of a rfl) (on (int_of a rfl) (on (int_of a rfl) (on (int_of a rfl) (on (int_of a rfl) (pu (eq36 ..).1 (ty rfl ⟨?_, K⟩))))))) fun e => ⟨bF fun hh => e hh.1, K⟩)
  unfold Hd.less; congr 1; rw [decide_eq_decide]; exact ⟨fun hh => ⟨e, hh⟩, fun hh => hh.2⟩
theorem nx1 {x y : Int} {s r b : Bool} (hr : r = (!b && ((x == y) && s))) (hb : b = false) : r = (!(x != y) && s) := by subst hb; rw [hr]; simp [bne]
theorem nx2 {x s r b : Bool} (hr : r = (!b && (x && s))) (hb : b = false) : r = (!(!x) && s) := by subst hb; rw [hr]; simp
theorem nx3 {s r b s' : Bool} (hr : r = (!b && s)) (hb : b = true) : r = (!true && s') := by subst hb; rw [hr]; rfl
theorem nx4 {s r b : Bool} (hr : r = (!b && s)) (hb : b = true) : r = false := by subst hb; rw [hr]; rfl
section
variable (h g : Hd) (X Y : List Sg)

def sm17 : Bool := decide (X = Y)
def sm16 : Bool := ((h.n : Int) == (g.n : Int)) && sm17 X Y
def sm15 : Bool := decide (h.x0 = g.x0 ∧ h.x1 = g.x1 ∧ h.x2 = g.x2) && sm16 h g X Y
def sm14 : Bool := (h.cb == g.cb) && sm15 h g X Y
def sm13 : Bool := (h.da == g.da) && sm14 h g X Y
def sm12 : Bool := (h.cd == g.cd) && sm13 h g X Y
def sm11 : Bool := decide (h.l0 = g.l0 ∧ h.l1 = g.l1 ∧ h.l2 = g.l2 ∧ h.l3 = g.l3) && ((h.sp == g.sp) && sm12 h g X Y)
def sm10 : Bool := (h.na == g.na) && sm11 h g X Y
def sm9 : Bool := (h.ro == g.ro) && sm10 h g X Y
def sm8 : Bool := (h.co == g.co) && sm9 h g X Y
def sm7 : Bool := decide (h.d0 = g.d0 ∧ h.d1 = g.d1 ∧ h.d2 = g.d2 ∧ h.d3 = g.d3 ∧ h.d4 = g.d4) && sm8 h g X Y
def sm6 : Bool := (h.ba == g.ba) && sm7 h g X Y
def sm5 : Bool := (h.pr == g.pr) && sm6 h g X Y
def sm4 : Bool := decide (h.r0 = g.r0 ∧ h.r1 = g.r1 ∧ h.r2 = g.r2) && sm5 h g X Y
def sm3 : Bool := (h.rf == g.rf) && sm4 h g X Y
def sm2 : Bool := (h.ke == g.ke) && sm3 h g X Y
def sm1 : Bool := (h.sh == g.sh) && sm2 h g X Y
def Hd.same (h : Hd) (X : List Sg) (g : Hd) (Y : List Sg) : Bool := (h.ex == g.ex) && ((h.sl == g.sl) && sm1 h g X Y)
end
section
variable {h g : Hd} {X Y : List Sg} {M0 M : Mem} {j i : Nat}
theorem e30_18 (K : Keep M0 M) (a : M.nb[j]? = some (.cells h.cs 41)) (a' : M.nb[i]? = some (.cells g.cs 41)) (hn : h.n = X.length) (hm : g.n = Y.length) (hb : h.n ≤ 1048576) (hR : Row M h.A (Sgs X)) (hR' : Row M g.A (Sgs Y)) (hl : X.length = Y.length) {r : Bool} :
    ∀ (k q : Nat), q + k = h.n → (r = decide (X.drop q = Y.drop q)) → A30_18 (some ⟨2 * j, 0, none⟩) (some ⟨2 * i, 0, none⟩) (q : Int) M (BK M0 r)
  | 0, q, hq, hr => w30_18 (ad rfl (on (sl_of a rfl) (cd (fun h' => by have : (q : Int) < (h.n : Int) := h'; omega) fun _ => ⟨by rw [hr, List.drop_of_length_le (by omega), List.drop_of_length_le (by omega)]; rfl, K⟩)))
  | k + 1, q, hq, hr => by
    have h1 : q < X.length := by omega
    have h2 : q < Y.length := by omega
    obtain ⟨p, g0, g1, g2, g3, g4⟩ := Sgs.elt hR (n := h.n) (i := q) (z := (q : Int)) rfl (by omega) h1
    obtain ⟨p', g0', g1', g2', g3', g4'⟩ := Sgs.elt hR' (n := g.n) (i := q) (z := (q : Int)) rfl (by omega) h2
    have ee : X[q] = Y[q] ↔ (X[q].a = Y[q].a ∧ X[q].b = Y[q].b ∧ X[q].c = Y[q].c ∧ X[q].d = Y[q].d) := by
      generalize X[q] = x; generalize Y[q] = y
      cases x; cases y; simp
    rw [List.drop_eq_getElem_cons h1, List.drop_eq_getElem_cons h2] at hr
    refine w30_18 (ad rfl (on (sl_of a rfl) (cT (decide_eq_true (show (q : Int) < (h.n : Int) by omega)) (ad rfl (on (sl_of a rfl) (ix g0 (on g1 (on g2 (on g3 (on g4 (ad rfl (on (sl_of a' rfl) (ix g0' (on g1' (on g2' (on g3' (on g4' (pu (eq96 ..).2 (ty rfl (cnn (fun hd => ⟨?_, K⟩) fun hd => ?_))))))))))))))))))))
    · rw [hr]; exact bF fun e => dF hd (ee.1 (List.cons.inj e).1)
    · rw [i64w (by omega)]
      refine e30_18 K a a' hn hm hb hR hR' hl k (q + 1) (by omega) ?_
      rw [hr, decide_eq_decide]
      exact ⟨fun e => (List.cons.inj e).2, fun e => by rw [ee.2 (dT hd), e]⟩

theorem e30_17 (K : Keep M0 M) (a : M.nb[j]? = some (.cells h.cs 41)) (a' : M.nb[i]? = some (.cells g.cs 41)) (hn : h.n = X.length) (hm : g.n = Y.length) (hb : h.n ≤ 1048576) (hR : Row M h.A (Sgs X)) (hR' : Row M g.A (Sgs Y)) (hl : X.length = Y.length) {b r : Bool} (hr : r = (!b && sm17 X Y)) : A30_17 (some ⟨2 * j, 0, none⟩) (some ⟨2 * i, 0, none⟩) b M (BK M0 r) := by
  exact w30_17 (cn (fun hb' => ⟨by rw [nx4 hr hb'], K⟩) fun hb' => e30_18 K a a' hn hm hb hR hR' hl h.n 0 (by omega) (by subst hb'; rw [hr]; rfl))
theorem e30_16 (K : Keep M0 M) (a : M.nb[j]? = some (.cells h.cs 41)) (a' : M.nb[i]? = some (.cells g.cs 41)) (hn : h.n = X.length) (hm : g.n = Y.length) (hb : h.n ≤ 1048576) (hR : Row M h.A (Sgs X)) (hR' : Row M g.A (Sgs Y)) {b r : Bool} (hr : r = (!b && sm16 h g X Y)) : A30_16 (some ⟨2 * j, 0, none⟩) (some ⟨2 * i, 0, none⟩) b M (BK M0 r) := by
  refine w30_16 (cn (fun hb' => w30_17 (cT rfl ⟨by rw [nx4 hr hb'], K⟩)) fun hb' => ad rfl (on (sl_of a rfl) (ad rfl (on (sl_of a' rfl) ?_))))
  have q : r = (!((h.n : Int) != (g.n : Int)) && sm17 X Y) := nx1 hr hb'
  by_cases hl : X.length = Y.length
  · exact e30_17 K a a' hn hm hb hR hR' hl q
  · have e : ((h.n : Int) != (g.n : Int)) = true := by rw [hn, hm]; simp; omega
    exact w30_17 (cT e ⟨by rw [nx4 q e], K⟩)
theorem e30_15 (K : Keep M0 M) (a : M.nb[j]? = some (.cells h.cs 41)) (a' : M.nb[i]? = some (.cells g.cs 41)) (hn : h.n = X.length) (hm : g.n = Y.length) (hb : h.n ≤ 1048576) (hR : Row M h.A (Sgs X)) (hR' : Row M g.A (Sgs Y)) {b r : Bool} (hr : r = (!b && sm15 h g X Y)) : A30_15 (some ⟨2 * j, 0, none⟩) (some ⟨2 * i, 0, none⟩) b M (BK M0 r) := by
  exact w30_15 (cn (fun hb' => e30_16 K a a' hn hm hb hR hR' (nx3 hr hb')) fun hb' => ad rfl (on (bool_of a rfl) (on (bool_of a rfl) (on (bool_of a rfl) (ad rfl (on (bool_of a' rfl) (on (bool_of a' rfl) (on (bool_of a' rfl) (pu (eq39 ..).2 (ty rfl (e30_16 K a a' hn hm hb hR hR' (nx2 hr hb'))))))))))))
theorem e30_14 (K : Keep M0 M) (a : M.nb[j]? = some (.cells h.cs 41)) (a' : M.nb[i]? = some (.cells g.cs 41)) (hn : h.n = X.length) (hm : g.n = Y.length) (hb : h.n ≤ 1048576) (hR : Row M h.A (Sgs X)) (hR' : Row M g.A (Sgs Y)) {b r : Bool} (hr : r = (!b && sm14 h g X Y)) : A30_14 (some ⟨2 * j, 0, none⟩) (some ⟨2 * i, 0, none⟩) b M (BK M0 r) := by
  exact w30_14 (cn (fun hb' => e30_15 K a a' hn hm hb hR hR' (nx3 hr hb')) fun hb' => ad rfl (on (int_of a rfl) (ad rfl (on (int_of a' rfl) (e30_15 K a a' hn hm hb hR hR' (nx1 hr hb'))))))
theorem e30_13 (K : Keep M0 M) (a : M.nb[j]? = some (.cells h.cs 41)) (a' : M.nb[i]? = some (.cells g.cs 41)) (hn : h.n = X.length) (hm : g.n = Y.length) (hb : h.n ≤ 1048576) (hR : Row M h.A (Sgs X)) (hR' : Row M g.A (Sgs Y)) {b r : Bool} (hr : r = (!b && sm13 h g X Y)) : A30_13 (some ⟨2 * j, 0, none⟩) (some ⟨2 * i, 0, none⟩) b M (BK M0 r) := by
  exact w30_13 (cn (fun hb' => e30_14 K a a' hn hm hb hR hR' (nx3 hr hb')) fun hb' => ad rfl (on (int_of a rfl) (ad rfl (on (int_of a' rfl) (e30_14 K a a' hn hm hb hR hR' (nx1 hr hb'))))))
theorem e30_12 (K : Keep M0 M) (a : M.nb[j]? = some (.cells h.cs 41)) (a' : M.nb[i]? = some (.cells g.cs 41)) (hn : h.n = X.length) (hm : g.n = Y.length) (hb : h.n ≤ 1048576) (hR : Row M h.A (Sgs X)) (hR' : Row M g.A (Sgs Y)) {b r : Bool} (hr : r = (!b && sm12 h g X Y)) : A30_12 (some ⟨2 * j, 0, none⟩) (some ⟨2 * i, 0, none⟩) b M (BK M0 r) := by
  exact w30_12 (cn (fun hb' => e30_13 K a a' hn hm hb hR hR' (nx3 hr hb')) fun hb' => ad rfl (on (bool_of a rfl) (ad rfl (on (bool_of a' rfl) (e30_13 K a a' hn hm hb hR hR' (nx2 hr hb'))))))
theorem e30_11 (K : Keep M0 M) (a : M.nb[j]? = some (.cells h.cs 41)) (a' : M.nb[i]? = some (.cells g.cs 41)) (hn : h.n = X.length) (hm : g.n = Y.length) (hb : h.n ≤ 1048576) (hR : Row M h.A (Sgs X)) (hR' : Row M g.A (Sgs Y)) {b r : Bool} (hr : r = (!b && sm11 h g X Y)) : A30_11 (some ⟨2 * j, 0, none⟩) (some ⟨2 * i, 0, none⟩) b M (BK M0 r) := by
  refine w30_11 (cn (fun hb' => ⟨by rw [nx4 hr hb'], K⟩) fun hb' => ad rfl (on (int_of a rfl) (on (int_of a rfl) (on (int_of a rfl) (on (int_of a rfl) (ad rfl (on (int_of a' rfl) (on (int_of a' rfl) (on (int_of a' rfl) (on (int_of a' rfl) (pu (eq37 ..).2 (ty rfl ?_))))))))))))
  have q := nx2 hr hb'
  exact cn (fun hc => e30_12 K a a' hn hm hb hR hR' (nx3 q hc)) fun hc => ad rfl (on (int_of a rfl) (ad rfl (on (int_of a' rfl) (e30_12 K a a' hn hm hb hR hR' (nx1 q hc)))))
theorem e30_10 (K : Keep M0 M) (a : M.nb[j]? = some (.cells h.cs 41)) (a' : M.nb[i]? = some (.cells g.cs 41)) (hn : h.n = X.length) (hm : g.n = Y.length) (hb : h.n ≤ 1048576) (hR : Row M h.A (Sgs X)) (hR' : Row M g.A (Sgs Y)) {b r : Bool} (hr : r = (!b && sm10 h g X Y)) : A30_10 (some ⟨2 * j, 0, none⟩) (some ⟨2 * i, 0, none⟩) b M (BK M0 r) := by
  exact w30_10 (cn (fun hb' => e30_11 K a a' hn hm hb hR hR' (nx3 hr hb')) fun hb' => ad rfl (on (bool_of a rfl) (ad rfl (on (bool_of a' rfl) (e30_11 K a a' hn hm hb hR hR' (nx2 hr hb'))))))
theorem e30_9 (K : Keep M0 M) (a : M.nb[j]? = some (.cells h.cs 41)) (a' : M.nb[i]? = some (.cells g.cs 41)) (hn : h.n = X.length) (hm : g.n = Y.length) (hb : h.n ≤ 1048576) (hR : Row M h.A (Sgs X)) (hR' : Row M g.A (Sgs Y)) {b r : Bool} (hr : r = (!b && sm9 h g X Y)) : A30_9 (some ⟨2 * j, 0, none⟩) (some ⟨2 * i, 0, none⟩) b M (BK M0 r) := by
  exact w30_9 (cn (fun hb' => e30_10 K a a' hn hm hb hR hR' (nx3 hr hb')) fun hb' => ad rfl (on (int_of a rfl) (ad rfl (on (int_of a' rfl) (e30_10 K a a' hn hm hb hR hR' (nx1 hr hb'))))))
theorem e30_8 (K : Keep M0 M) (a : M.nb[j]? = some (.cells h.cs 41)) (a' : M.nb[i]? = some (.cells g.cs 41)) (hn : h.n = X.length) (hm : g.n = Y.length) (hb : h.n ≤ 1048576) (hR : Row M h.A (Sgs X)) (hR' : Row M g.A (Sgs Y)) {b r : Bool} (hr : r = (!b && sm8 h g X Y)) : A30_8 (some ⟨2 * j, 0, none⟩) (some ⟨2 * i, 0, none⟩) b M (BK M0 r) := by
  exact w30_8 (cn (fun hb' => e30_9 K a a' hn hm hb hR hR' (nx3 hr hb')) fun hb' => ad rfl (on (int_of a rfl) (ad rfl (on (int_of a' rfl) (e30_9 K a a' hn hm hb hR hR' (nx1 hr hb'))))))
theorem e30_7 (K : Keep M0 M) (a : M.nb[j]? = some (.cells h.cs 41)) (a' : M.nb[i]? = some (.cells g.cs 41)) (hn : h.n = X.length) (hm : g.n = Y.length) (hb : h.n ≤ 1048576) (hR : Row M h.A (Sgs X)) (hR' : Row M g.A (Sgs Y)) {b r : Bool} (hr : r = (!b && sm7 h g X Y)) : A30_7 (some ⟨2 * j, 0, none⟩) (some ⟨2 * i, 0, none⟩) b M (BK M0 r) := by
  exact w30_7 (cn (fun hb' => e30_8 K a a' hn hm hb hR hR' (nx3 hr hb')) fun hb' => ad rfl (on (int_of a rfl) (on (int_of a rfl) (on (int_of a rfl) (on (int_of a rfl) (on (int_of a rfl) (ad rfl (on (int_of a' rfl) (on (int_of a' rfl) (on (int_of a' rfl) (on (int_of a' rfl) (on (int_of a' rfl) (pu (eq36 ..).2 (ty rfl (e30_8 K a a' hn hm hb hR hR' (nx2 hr hb'))))))))))))))))
theorem e30_6 (K : Keep M0 M) (a : M.nb[j]? = some (.cells h.cs 41)) (a' : M.nb[i]? = some (.cells g.cs 41)) (hn : h.n = X.length) (hm : g.n = Y.length) (hb : h.n ≤ 1048576) (hR : Row M h.A (Sgs X)) (hR' : Row M g.A (Sgs Y)) {b r : Bool} (hr : r = (!b && sm6 h g X Y)) : A30_6 (some ⟨2 * j, 0, none⟩) (some ⟨2 * i, 0, none⟩) b M (BK M0 r) := by
  exact w30_6 (cn (fun hb' => e30_7 K a a' hn hm hb hR hR' (nx3 hr hb')) fun hb' => ad rfl (on (int_of a rfl) (ad rfl (on (int_of a' rfl) (e30_7 K a a' hn hm hb hR hR' (nx1 hr hb'))))))
theorem e30_5 (K : Keep M0 M) (a : M.nb[j]? = some (.cells h.cs 41)) (a' : M.nb[i]? = some (.cells g.cs 41)) (hn : h.n = X.length) (hm : g.n = Y.length) (hb : h.n ≤ 1048576) (hR : Row M h.A (Sgs X)) (hR' : Row M g.A (Sgs Y)) {b r : Bool} (hr : r = (!b && sm5 h g X Y)) : A30_5 (some ⟨2 * j, 0, none⟩) (some ⟨2 * i, 0, none⟩) b M (BK M0 r) := by
  exact w30_5 (cn (fun hb' => e30_6 K a a' hn hm hb hR hR' (nx3 hr hb')) fun hb' => ad rfl (on (int_of a rfl) (ad rfl (on (int_of a' rfl) (e30_6 K a a' hn hm hb hR hR' (nx1 hr hb'))))))
theorem e30_4 (K : Keep M0 M) (a : M.nb[j]? = some (.cells h.cs 41)) (a' : M.nb[i]? = some (.cells g.cs 41)) (hn : h.n = X.length) (hm : g.n = Y.length) (hb : h.n ≤ 1048576) (hR : Row M h.A (Sgs X)) (hR' : Row M g.A (Sgs Y)) {b r : Bool} (hr : r = (!b && sm4 h g X Y)) : A30_4 (some ⟨2 * j, 0, none⟩) (some ⟨2 * i, 0, none⟩) b M (BK M0 r) := by
  exact w30_4 (cn (fun hb' => e30_5 K a a' hn hm hb hR hR' (nx3 hr hb')) fun hb' => ad rfl (on (int_of a rfl) (on (int_of a rfl) (on (int_of a rfl) (ad rfl (on (int_of a' rfl) (on (int_of a' rfl) (on (int_of a' rfl) (pu (eq35 ..).2 (ty rfl (e30_5 K a a' hn hm hb hR hR' (nx2 hr hb'))))))))))))
theorem e30_3 (K : Keep M0 M) (a : M.nb[j]? = some (.cells h.cs 41)) (a' : M.nb[i]? = some (.cells g.cs 41)) (hn : h.n = X.length) (hm : g.n = Y.length) (hb : h.n ≤ 1048576) (hR : Row M h.A (Sgs X)) (hR' : Row M g.A (Sgs Y)) {b r : Bool} (hr : r = (!b && sm3 h g X Y)) : A30_3 (some ⟨2 * j, 0, none⟩) (some ⟨2 * i, 0, none⟩) b M (BK M0 r) := by
  exact w30_3 (cn (fun hb' => e30_4 K a a' hn hm hb hR hR' (nx3 hr hb')) fun hb' => ad rfl (on (int_of a rfl) (ad rfl (on (int_of a' rfl) (e30_4 K a a' hn hm hb hR hR' (nx1 hr hb'))))))
theorem e30_2 (K : Keep M0 M) (a : M.nb[j]? = some (.cells h.cs 41)) (a' : M.nb[i]? = some (.cells g.cs 41)) (hn : h.n = X.length) (hm : g.n = Y.length) (hb : h.n ≤ 1048576) (hR : Row M h.A (Sgs X)) (hR' : Row M g.A (Sgs Y)) {b r : Bool} (hr : r = (!b && sm2 h g X Y)) : A30_2 (some ⟨2 * j, 0, none⟩) (some ⟨2 * i, 0, none⟩) b M (BK M0 r) := by
  exact w30_2 (cn (fun hb' => e30_3 K a a' hn hm hb hR hR' (nx3 hr hb')) fun hb' => ad rfl (on (bool_of a rfl) (ad rfl (on (bool_of a' rfl) (e30_3 K a a' hn hm hb hR hR' (nx2 hr hb'))))))
theorem e30_1 (K : Keep M0 M) (a : M.nb[j]? = some (.cells h.cs 41)) (a' : M.nb[i]? = some (.cells g.cs 41)) (hn : h.n = X.length) (hm : g.n = Y.length) (hb : h.n ≤ 1048576) (hR : Row M h.A (Sgs X)) (hR' : Row M g.A (Sgs Y)) {b r : Bool} (hr : r = (!b && sm1 h g X Y)) : A30_1 (some ⟨2 * j, 0, none⟩) (some ⟨2 * i, 0, none⟩) b M (BK M0 r) := by
  exact w30_1 (cn (fun hb' => e30_2 K a a' hn hm hb hR hR' (nx3 hr hb')) fun hb' => ad rfl (on (bool_of a rfl) (ad rfl (on (bool_of a' rfl) (e30_2 K a a' hn hm hb hR hR' (nx2 hr hb'))))))
theorem c30 (hf : M.floor ≤ M.nb.size) (hn : h.n = X.length) (hm : g.n = Y.length) (hb : h.n ≤ 1048576) (hR : Row M h.A (Sgs X)) (hR' : Row M g.A (Sgs Y)) : Cn Try.prog 30 #[.agg h.cs, .agg g.cs] M (BK M (h.same X g Y)) := by
  have a := Mem.new_at M (.cells h.cs 41)
  have K : Keep M (M.new (.cells h.cs 41)) := .new _ _
  refine w30_0 ?_
  generalize M.new (.cells h.cs 41) = N at a K ⊢
  have a' := Mem.new_at N (.cells g.cs 41)
  have K2 : Keep N (N.new (.cells g.cs 41)) := .new _ _
  have a2 := at_keep a K2
  generalize N.new (.cells g.cs 41) = N2 at a' K2 a2 ⊢
  have KK := K.trans K2
  have hr : h.same X g Y = (!false && ((h.ex == g.ex) && ((h.sl == g.sl) && sm1 h g X Y))) := rfl
  have q := nx2 hr rfl
  refine on (bool_of a2 rfl) (on (bool_of a' rfl) (cn (fun hc => e30_1 KK a2 a' hn hm hb (hR.keep KK) (hR'.keep KK) (nx3 q hc)) fun hc => on (int_of a2 rfl) (on (int_of a' rfl) (e30_1 KK a2 a' hn hm hb (hR.keep KK) (hR'.keep KK) (nx1 q hc)))))
end
end Go.Zt


/- Layer 20: the document's checks, second part: filters, Check. -/
set_option linter.unusedSimpArgs false
set_option linter.unusedVariables false
set_option maxRecDepth 100000
namespace Go.Zt
open Go Go.Sim Go.Proofs Go.RowKit

section
variable {h : Hd} {X : List Sg} {M0 M : Mem} {j i : Nat}
/-- An empty header but for its slot. -/
def Hd.only (s : Int) : Hd := ⟨true, s, false, false, 0, 0, 0, 0, 0, 0, 0, 0, 0, 0, 0, 0, 0, false, 0, 0, 0, 0, 0, false, 0, 0, none, 0, 0, false, false, false⟩
end
end Go.Zt


/- Layer 20: the document's Check of a frame header. -/
set_option linter.unusedSimpArgs false
set_option linter.unusedVariables false
set_option maxRecDepth 100000
namespace Go.Zt
open Go Go.Sim Go.Proofs Go.RowKit

section
variable {h : Hd} {X : List Sg} {M0 M : Mem} {j i : Nat} {w e : Int}
end
end Go.Zt

