/- The functions' walks: for each function and each loop a rule of what it comes to. Printed by zw2.py. -/
import Derived.Test.YtgepgbblmodagaaProg
import Derived.Test.YtgepgbblmodagaaZkA
import Derived.Test.YtgepgbblmodagaaZqT
set_option linter.unusedVariables false
set_option maxRecDepth 100000
namespace Go.Zt
open Go Go.Sim Go.Proofs
def tyZlA0 : List Sc := [.bool, .int .i64, .bool, .bool, .int .i64, .int .i64, .int .i64, .int .i64, .int .i64, .int .i64, .int .i64, .int .i64, .int .i64, .int .i64, .int .i64, .int .i64, .int .i64, .bool, .int .i64, .int .i64, .int .i64, .int .i64, .int .i64, .bool, .int .i64, .int .i64, .sl, .bool, .bool, .bool]
def K73 : List (List It × List Nat) := []
def Z73 : List (List Nat × List Nat) := []
theorem b73 : Try.prog.funcs[73]? = some Try.f73 ∧ (Orc.tab Try.prog).lookup 73 = none ∧ Try.f73.body = some (codeOf Try.f73) := ⟨by kernel_rfl, by kernel_rfl, by kernel_rfl⟩
theorem w73_0 {x0 x1 : Option Addr} {M : Mem} {Q : Value → Mem → Prop} (H :
    ptS ((M.new (.cells #[.int .i64 0] 3)).put (2 * M.nb.size) 0 (.int .i64 0)) fun M1' =>
    adS x1 fun a2' =>
    onS (M1'.boolAt a2'.block a2'.off) fun b3' =>
    cnd b3' (
     ptS (M1'.put (2 * M.nb.size) 0 (.int .i64 1)) fun M4' =>
     Cn Try.prog 74 #[.pointer x0, .pointer (some ⟨2 * M.nb.size, 0, none⟩), .int .i64 1, .int .i64 0] M4' fun v5' N5' =>
      onS (N5'.intAt .i64 (2 * M.nb.size) 0) fun x6' =>
      adS x1 fun a7' =>
      ptS (N5'.put a7'.block a7'.off (.bool (x6' == 1))) fun M8' =>
      Q (.tuple #[]) M8') (
     Cn Try.prog 74 #[.pointer x0, .pointer (some ⟨2 * M.nb.size, 0, none⟩), .int .i64 1, .int .i64 0] M1' fun v9' N9' =>
      onS (N9'.intAt .i64 (2 * M.nb.size) 0) fun x10' =>
      adS x1 fun a11' =>
      ptS (N9'.put a11'.block a11'.off (.bool (x10' == 1))) fun M12' =>
      Q (.tuple #[]) M12')) :
    Cn Try.prog 73 #[.pointer x0, .pointer x1] M Q :=
  Cn.mk (cuts := K73) (sp := Z73) 900 b73 rfl rfl H fun G => by kernel_rfl
def K74 : List (List It × List Nat) := []
def Z74 : List (List Nat × List Nat) := []
theorem b74 : Try.prog.funcs[74]? = some Try.f74 ∧ (Orc.tab Try.prog).lookup 74 = none ∧ Try.f74.body = some (codeOf Try.f74) := ⟨by kernel_rfl, by kernel_rfl, by kernel_rfl⟩
theorem w74_0 {x0 x1 : Option Addr} {x2 x3 : Int} {M : Mem} {Q : Value → Mem → Prop} (H :
    adS x0 fun a1' =>
    onS (M.intAt .i64 a1'.block (a1'.off + 2)) fun x2' =>
    cnd (x2' != 0) (
     Q (.tuple #[]) M) (
     adS x0 fun a3' =>
     onS (M.ptrAt a3'.block a3'.off) fun p4' =>
     cnd p4'.isSome (
      adS x0 fun a5' =>
      onS (M.ptrAt a5'.block a5'.off) fun p6' =>
      adS x1 fun a7' =>
      onS (M.intAt .i64 a7'.block a7'.off) fun x8' =>
      Cn Try.prog 22 #[.pointer p6', .int .u32 (IntKind.u32.wrap (IntKind.i64.wrap (x8' - x3))), .int .i64 x2] M fun v9' N9' =>
       tyS (asI .i64 v9') fun x10' =>
       adS x0 fun a11' =>
       ptS (N9'.put a11'.block (a11'.off + 2) (.int .i64 x10')) fun M12' =>
       Q (.tuple #[]) M12') (
      adS x0 fun a13' =>
      onS (M.ptrAt a13'.block (a13'.off + 1)) fun p14' =>
      Cn Try.prog 33 #[.pointer p14', .int .i64 x2] M fun v15' N15' =>
       tyS (asU 2 v15') fun cs16' =>
       tyS (asI .u32 (cs16'.getD 0 undef)) fun x17' =>
       tyS (asI .i64 (cs16'.getD 1 undef)) fun x18' =>
       adS x0 fun a19' =>
       ptS (N15'.put a19'.block (a19'.off + 2) (.int .i64 x18')) fun M20' =>
       adS x0 fun a21' =>
       onS (M20'.intAt .i64 a21'.block (a21'.off + 2)) fun x22' =>
       cnd (x22' == 0) (
        adS x1 fun a23' =>
        ptS (M20'.put a23'.block a23'.off (.int .i64 (IntKind.i64.wrap ((IntKind.i64.wrap (x17')) + x3)))) fun M24' =>
        Q (.tuple #[]) M24') (
        Q (.tuple #[]) M20')))) :
    Cn Try.prog 74 #[.pointer x0, .pointer x1, .int .i64 x2, .int .i64 x3] M Q :=
  Cn.mk (cuts := K74) (sp := Z74) 900 b74 rfl rfl H fun G => by kernel_rfl
def K75 : List (List It × List Nat) := [([.code [1,1,0,1], .blk 0], [0, 1, 39]), ([.code [1,1,0,1,1,1,1,1,0,1,1], .code [1,1,0,1,1,1,1,1,1], .blk 0], [0, 1, 5, 31])]
def Z75 : List (List Nat × List Nat) := []
theorem b75 : Try.prog.funcs[75]? = some Try.f75 ∧ (Orc.tab Try.prog).lookup 75 = none ∧ Try.f75.body = some (codeOf Try.f75) := ⟨by kernel_rfl, by kernel_rfl, by kernel_rfl⟩
def A75_1 (x0 x1 : Option Addr) (x39 : Bool) (M : Mem) (Q : Value → Mem → Prop) : Prop := LvP Try.prog Try.f75 [(0, .pointer x0), (1, .pointer x1), (39, .bool x39)] [.code [1,1,0,1], .blk 0] M Q
def A75_2 (x0 x1 : Option Addr) (x5 : Int) (x31 : Bool) (M : Mem) (Q : Value → Mem → Prop) : Prop := LvP Try.prog Try.f75 [(0, .pointer x0), (1, .pointer x1), (5, .int .i32 x5), (31, .bool x31)] [.code [1,1,0,1,1,1,1,1,0,1,1], .code [1,1,0,1,1,1,1,1,1], .blk 0] M Q
theorem w75_0 {x0 x1 : Option Addr} {M : Mem} {Q : Value → Mem → Prop} (H :
    adS x1 fun a1' =>
    onS (M.intAt .i64 a1'.block a1'.off) fun x2' =>
    ptS ((M.new (.cells #[.bool false] 4)).put (2 * M.nb.size) 0 (.bool (x2' != 0))) fun M3' =>
    Cn Try.prog 73 #[.pointer x0, .pointer (some ⟨2 * M.nb.size, 0, none⟩)] M3' fun v4' N4' =>
     onS (N4'.boolAt (2 * M.nb.size) 0) fun b5' =>
     cnd (!b5') (
      A75_1 x0 x1 true N4' Q) (
      adS x0 fun a6' =>
      onS (N4'.intAt .i64 a6'.block (a6'.off + 2)) fun x7' =>
      A75_1 x0 x1 (x7' != 0) N4' Q)) :
    Cn Try.prog 75 #[.pointer x0, .pointer x1] M Q :=
  Cn.mk (cuts := K75) (sp := Z75) 900 b75 rfl rfl H fun G => by kernel_rfl
theorem w75_1 {x0 x1 : Option Addr} {x39 : Bool} {M : Mem} {Q : Value → Mem → Prop} (H :
    cnd x39 (
     Q (.tuple #[]) M) (
     adS x0 fun a8' =>
     onS (M.ptrAt a8'.block a8'.off) fun p9' =>
     cnd p9'.isSome (
      adS x0 fun a10' =>
      onS (M.ptrAt a10'.block a10'.off) fun p11' =>
      adS x1 fun a12' =>
      onS (M.intAt .i64 a12'.block a12'.off) fun x13' =>
      Cn Try.prog 43 #[.pointer p11', .int .i32 (IntKind.i32.wrap (x13')), .int .i64 5] M fun v14' N14' =>
       tyS (asI .i64 v14') fun x15' =>
       adS x0 fun a16' =>
       ptS (N14'.put a16'.block (a16'.off + 2) (.int .i64 x15')) fun M17' =>
       Q (.tuple #[]) M17') (
      adS x0 fun a18' =>
      onS (M.ptrAt a18'.block (a18'.off + 1)) fun p19' =>
      Cn Try.prog 82 #[.pointer p19', .int .i64 5] M fun v20' N20' =>
       tyS (asU 2 v20') fun cs21' =>
       tyS (asI .i32 (cs21'.getD 0 undef)) fun x22' =>
       tyS (asI .i64 (cs21'.getD 1 undef)) fun x23' =>
       adS x0 fun a24' =>
       ptS (N20'.put a24'.block (a24'.off + 2) (.int .i64 x23')) fun M25' =>
       adS x0 fun a26' =>
       onS (M25'.intAt .i64 a26'.block (a26'.off + 2)) fun x27' =>
       cnd (x27' == 0) (
        A75_2 x0 x1 x22' (x22' == 0) M25' Q) (
        A75_2 x0 x1 x22' false M25' Q)))) :
    A75_1 x0 x1 x39 M Q :=
  LvP.mk (cuts := K75) (sp := Z75) 900 H fun G => by kernel_rfl
theorem w75_2 {x0 x1 : Option Addr} {x5 : Int} {x31 : Bool} {M : Mem} {Q : Value → Mem → Prop} (H :
    cnd x31 (
     adS x0 fun a28' =>
     ptS (M.put a28'.block (a28'.off + 2) (.int .i64 4)) fun M29' =>
     adS x1 fun a30' =>
     ptS (M29'.put a30'.block a30'.off (.int .i64 (IntKind.i64.wrap (x5)))) fun M31' =>
     Q (.tuple #[]) M31') (
     adS x1 fun a32' =>
     ptS (M.put a32'.block a32'.off (.int .i64 (IntKind.i64.wrap (x5)))) fun M33' =>
     Q (.tuple #[]) M33')) :
    A75_2 x0 x1 x5 x31 M Q :=
  LvP.mk (cuts := K75) (sp := Z75) 900 H fun G => by kernel_rfl
def K76 : List (List It × List Nat) := [([.code [1,1]], [0, 21])]
def Z76 : List (List Nat × List Nat) := []
theorem b76 : Try.prog.funcs[76]? = some Try.f76 ∧ (Orc.tab Try.prog).lookup 76 = none ∧ Try.f76.body = some (codeOf Try.f76) := ⟨by kernel_rfl, by kernel_rfl, by kernel_rfl⟩
def A76_1 (x0 : Option Addr) (x21 : Bool) (M : Mem) (Q : Value → Mem → Prop) : Prop := LvP Try.prog Try.f76 [(0, .pointer x0), (21, .bool x21)] [.code [1,1]] M Q
theorem w76_0 {x0 x1 : Option Addr} {x2 : Int} {M : Mem} {Q : Value → Mem → Prop} (H :
    Cn Try.prog 74 #[.pointer x0, .pointer x1, .int .i64 2, .int .i64 0] M fun v1' N1' =>
     adS x0 fun a2' =>
     onS (N1'.intAt .i64 a2'.block (a2'.off + 2)) fun x3' =>
     cnd (x3' == 0) (
      adS x1 fun a4' =>
      onS (N1'.intAt .i64 a4'.block a4'.off) fun x5' =>
      Cn Try.prog 57 #[.int .i64 x5', .int .i64 x2] N1' fun v6' N6' =>
       tyS (asB v6') fun b7' =>
       A76_1 x0 (!b7') N6' Q) (
      A76_1 x0 false N1' Q)) :
    Cn Try.prog 76 #[.pointer x0, .pointer x1, .int .i64 x2] M Q :=
  Cn.mk (cuts := K76) (sp := Z76) 900 b76 rfl rfl H fun G => by kernel_rfl
theorem w76_1 {x0 : Option Addr} {x21 : Bool} {M : Mem} {Q : Value → Mem → Prop} (H :
    cnd x21 (
     adS x0 fun a8' =>
     ptS (M.put a8'.block (a8'.off + 2) (.int .i64 5)) fun M9' =>
     Q (.tuple #[]) M9') (
     Q (.tuple #[]) M)) :
    A76_1 x0 x21 M Q :=
  LvP.mk (cuts := K76) (sp := Z76) 900 H fun G => by kernel_rfl
def K57 : List (List It × List Nat) := []
def Z57 : List (List Nat × List Nat) := []
theorem b57 : Try.prog.funcs[57]? = some Try.f57 ∧ (Orc.tab Try.prog).lookup 57 = none ∧ Try.f57.body = some (codeOf Try.f57) := ⟨by kernel_rfl, by kernel_rfl, by kernel_rfl⟩
theorem w57_0 {x0 x1 : Int} {M : Mem} {Q : Value → Mem → Prop} (H :
    Cn Try.prog 55 #[.int .i64 x0, .int .i64 0, .int .i64 2] M fun v1' N1' =>
     tyS (asB v1') fun b2' =>
     cnd b2' (
      puS (binV Try.prog .shl 3 3 (.int .i64 1) (.int .i64 x0)) fun v3' =>
      tyS (asI .i64 v3') fun x4' =>
      Q (.bool (decide (x4' ≤ (IntKind.i64.wrap ((IntKind.i64.wrap ((IntKind.i64.wrap (x1 + 64)) - 1)).tdiv 64))))) N1') (
      Q (.bool false) N1')) :
    Cn Try.prog 57 #[.int .i64 x0, .int .i64 x1] M Q :=
  Cn.mk (cuts := K57) (sp := Z57) 900 b57 rfl rfl H fun G => by kernel_rfl
def K77 : List (List It × List Nat) := []
def Z77 : List (List Nat × List Nat) := []
theorem b77 : Try.prog.funcs[77]? = some Try.f77 ∧ (Orc.tab Try.prog).lookup 77 = none ∧ Try.f77.body = some (codeOf Try.f77) := ⟨by kernel_rfl, by kernel_rfl, by kernel_rfl⟩
theorem w77_0 {x0 : Array Value} {M : Mem} {Q : Value → Mem → Prop} (H :
    onS ((M.new (.cells x0 41)).intAt .i64 (2 * M.nb.size) (0 + 9)) fun x1' =>
    cnd (x1' == 0) (
     onS ((M.new (.cells x0 41)).intAt .i64 (2 * M.nb.size) (0 + 10)) fun x2' =>
     onS ((M.new (.cells x0 41)).intAt .i64 (2 * M.nb.size) (0 + 11)) fun x3' =>
     onS ((M.new (.cells x0 41)).intAt .i64 (2 * M.nb.size) (0 + 12)) fun x4' =>
     onS ((M.new (.cells x0 41)).intAt .i64 (2 * M.nb.size) (0 + 13)) fun x5' =>
     onS ((M.new (.cells x0 41)).intAt .i64 (2 * M.nb.size) (0 + 14)) fun x6' =>
     puS (binV Try.prog .eql 36 36 (.agg #[.int .i64 x2', .int .i64 x3', .int .i64 x4', .int .i64 x5', .int .i64 x6']) (.agg #[.int .i64 0, .int .i64 0, .int .i64 0, .int .i64 0, .int .i64 0])) fun v7' =>
     tyS (asB v7') fun b8' =>
     Q (.bool b8') (M.new (.cells x0 41))) (
     Q (.bool false) (M.new (.cells x0 41)))) :
    Cn Try.prog 77 #[.agg x0] M Q :=
  Cn.mk (cuts := K77) (sp := Z77) 900 b77 rfl rfl H fun G => by kernel_rfl
def K78 : List (List It × List Nat) := [([.code [0,1,0,0], .lp [0,1,0,0], .blk 0, .code [1]], [0, 1, 8]), ([.code [1,1,1,0,1], .code [1,1,1,1]], [0, 1, 39]), ([.code [1,1,1,0,1,0,1,1,0,1], .code [1,1,1,0,1,0,1,1,1], .code [1,1,1,1]], [0, 1, 61]), ([.code [1,1,1,1,1,0,0], .lp [1,1,1,1,1,0,0], .blk 4], [0, 1, 106]), ([.code [1,1,1,0,1,0,1,1,1,1,0,0], .lp [1,1,1,0,1,0,1,1,1,1,0,0], .blk 2, .code [1,1,1,1]], [0, 1, 75, 76])]
def Z78 : List (List Nat × List Nat) := []
theorem b78 : Try.prog.funcs[78]? = some Try.f78 ∧ (Orc.tab Try.prog).lookup 78 = none ∧ Try.f78.body = some (codeOf Try.f78) := ⟨by kernel_rfl, by kernel_rfl, by kernel_rfl⟩
def A78_1 (x0 x1 : Option Addr) (x8 : Int) (M : Mem) (Q : Value → Mem → Prop) : Prop := LvP Try.prog Try.f78 [(0, .pointer x0), (1, .pointer x1), (8, .int .i64 x8)] [.code [0,1,0,0], .lp [0,1,0,0], .blk 0, .code [1]] M Q
def A78_2 (x0 x1 : Option Addr) (x39 : Bool) (M : Mem) (Q : Value → Mem → Prop) : Prop := LvP Try.prog Try.f78 [(0, .pointer x0), (1, .pointer x1), (39, .bool x39)] [.code [1,1,1,0,1], .code [1,1,1,1]] M Q
def A78_3 (x0 x1 : Option Addr) (x61 : Bool) (M : Mem) (Q : Value → Mem → Prop) : Prop := LvP Try.prog Try.f78 [(0, .pointer x0), (1, .pointer x1), (61, .bool x61)] [.code [1,1,1,0,1,0,1,1,0,1], .code [1,1,1,0,1,0,1,1,1], .code [1,1,1,1]] M Q
def A78_4 (x0 x1 : Option Addr) (x106 : Int) (M : Mem) (Q : Value → Mem → Prop) : Prop := LvP Try.prog Try.f78 [(0, .pointer x0), (1, .pointer x1), (106, .int .i64 x106)] [.code [1,1,1,1,1,0,0], .lp [1,1,1,1,1,0,0], .blk 4] M Q
def A78_5 (x0 x1 : Option Addr) (x75 x76 : Int) (M : Mem) (Q : Value → Mem → Prop) : Prop := LvP Try.prog Try.f78 [(0, .pointer x0), (1, .pointer x1), (75, .int .i64 x75), (76, .int .i64 x76)] [.code [1,1,1,0,1,0,1,1,1,1,0,0], .lp [1,1,1,0,1,0,1,1,1,1,0,0], .blk 2, .code [1,1,1,1]] M Q
theorem w78_0 {x0 x1 : Option Addr} {M : Mem} {Q : Value → Mem → Prop} (H :
    A78_1 x0 x1 0 M Q) :
    Cn Try.prog 78 #[.pointer x0, .pointer x1] M Q :=
  Cn.mk (cuts := K78) (sp := Z78) 900 b78 rfl rfl H fun G => by kernel_rfl
theorem w78_1 {x0 x1 : Option Addr} {x8 : Int} {M : Mem} {Q : Value → Mem → Prop} (H :
    cnd (decide (x8 < 4)) (
     adS x1 fun a1' =>
     ixS (idxA (some ⟨a1'.block, a1'.off + 18, none⟩) 4 1 x8) fun a2' =>
     Cn Try.prog 74 #[.pointer x0, .pointer (some a2'), .int .i64 6, .int .i64 0] M fun v3' N3' =>
      A78_1 x0 x1 (IntKind.i64.wrap (x8 + 1)) N3' Q) (
     adS x1 fun a4' =>
     Cn Try.prog 74 #[.pointer x0, .pointer (some ⟨a4'.block, a4'.off + 22, none⟩), .int .i64 3, .int .i64 0] M fun v5' N5' =>
      adS x1 fun a6' =>
      Cn Try.prog 73 #[.pointer x0, .pointer (some ⟨a6'.block, a6'.off + 23, none⟩)] N5' fun v7' N7' =>
       adS x1 fun a8' =>
       onS (N7'.boolAt a8'.block (a8'.off + 23)) fun b9' =>
       cnd b9' (
        adS x0 fun a10' =>
        onS (N7'.intAt .i64 a10'.block (a10'.off + 2)) fun x11' =>
        A78_2 x0 x1 (x11' == 0) N7' Q) (
        A78_2 x0 x1 false N7' Q))) :
    A78_1 x0 x1 x8 M Q :=
  LvP.mk (cuts := K78) (sp := Z78) 900 H fun G => by kernel_rfl
theorem w78_2 {x0 x1 : Option Addr} {x39 : Bool} {M : Mem} {Q : Value → Mem → Prop} (H :
    cnd x39 (
     adS x1 fun a12' =>
     Cn Try.prog 74 #[.pointer x0, .pointer (some ⟨a12'.block, a12'.off + 24, none⟩), .int .i64 2, .int .i64 3] M fun v13' N13' =>
      adS x1 fun a14' =>
      Cn Try.prog 74 #[.pointer x0, .pointer (some ⟨a14'.block, a14'.off + 25, none⟩), .int .i64 2, .int .i64 0] N13' fun v15' N15' =>
       adS x0 fun a16' =>
       onS (N15'.ptrAt a16'.block a16'.off) fun p17' =>
       cnd p17'.isNone (
        adS x0 fun a18' =>
        onS (N15'.intAt .i64 a18'.block (a18'.off + 2)) fun x19' =>
        A78_3 x0 x1 (x19' == 0) N15' Q) (
        A78_3 x0 x1 false N15' Q)) (
     A78_4 x0 x1 0 M Q)) :
    A78_2 x0 x1 x39 M Q :=
  LvP.mk (cuts := K78) (sp := Z78) 900 H fun G => by kernel_rfl
theorem w78_3 {x0 x1 : Option Addr} {x61 : Bool} {M : Mem} {Q : Value → Mem → Prop} (H :
    cnd x61 (
     adS x1 fun a20' =>
     onS (M.intAt .i64 a20'.block (a20'.off + 25)) fun x21' =>
     puS (binV Try.prog .shl 3 3 (.int .i64 1) (.int .i64 x21')) fun v22' =>
     tyS (asI .i64 v22') fun x23' =>
     meS (makeP Try.prog 38 (.int .i64 x23') (.int .i64 x23') M) fun r24' =>
     tyS (asS r24'.1) fun s25' =>
     adS x1 fun a26' =>
     ptS (r24'.2.put a26'.block (a26'.off + 26) (.slice s25'.1 (s25'.2.1) (s25'.2.2))) fun M27' =>
     adS x1 fun a28' =>
     onS (M27'.slAt a28'.block (a28'.off + 26)) fun s29' =>
     A78_5 x0 x1 (s29'.2.1 : Int) 0 M27' Q) (
     adS x1 fun a30' =>
     onS (M.slAt a30'.block (a30'.off + 26)) fun s31' =>
     A78_5 x0 x1 (s31'.2.1 : Int) 0 M Q)) :
    A78_3 x0 x1 x61 M Q :=
  LvP.mk (cuts := K78) (sp := Z78) 900 H fun G => by kernel_rfl
theorem w78_4 {x0 x1 : Option Addr} {x106 : Int} {M : Mem} {Q : Value → Mem → Prop} (H :
    cnd (decide (x106 < 3)) (
     adS x1 fun a32' =>
     ixS (idxA (some ⟨a32'.block, a32'.off + 27, none⟩) 3 1 x106) fun a33' =>
     Cn Try.prog 73 #[.pointer x0, .pointer (some a33')] M fun v34' N34' =>
      A78_4 x0 x1 (IntKind.i64.wrap (x106 + 1)) N34' Q) (
     Q (.tuple #[]) M)) :
    A78_4 x0 x1 x106 M Q :=
  LvP.mk (cuts := K78) (sp := Z78) 900 H fun G => by kernel_rfl
theorem w78_5 {x0 x1 : Option Addr} {x75 x76 : Int} {M : Mem} {Q : Value → Mem → Prop} (H :
    cnd (decide (x76 < x75)) (
     adS x1 fun a35' =>
     onS (M.slAt a35'.block (a35'.off + 26)) fun s36' =>
     ixS (idxA s36'.1 (s36'.2.1) 4 x76) fun a37' =>
     Cn Try.prog 74 #[.pointer x0, .pointer (some ⟨a37'.block, a37'.off, none⟩), .int .i64 4, .int .i64 0] M fun v38' N38' =>
      Cn Try.prog 74 #[.pointer x0, .pointer (some ⟨a37'.block, a37'.off + 1, none⟩), .int .i64 2, .int .i64 0] N38' fun v39' N39' =>
       Cn Try.prog 74 #[.pointer x0, .pointer (some ⟨a37'.block, a37'.off + 2, none⟩), .int .i64 4, .int .i64 0] N39' fun v40' N40' =>
        Cn Try.prog 74 #[.pointer x0, .pointer (some ⟨a37'.block, a37'.off + 3, none⟩), .int .i64 2, .int .i64 0] N40' fun v41' N41' =>
         A78_5 x0 x1 x75 (IntKind.i64.wrap (x76 + 1)) N41' Q) (
     A78_4 x0 x1 0 M Q)) :
    A78_5 x0 x1 x75 x76 M Q :=
  LvP.mk (cuts := K78) (sp := Z78) 900 H fun G => by kernel_rfl
def K50 : List (List It × List Nat) := [([.code [1,1,1,1,1,1,1,1,1,1,0,1,0,0], .lp [1,1,1,1,1,1,1,1,1,1,0,1,0,0], .blk 2, .code [1,1,1,1,1,1,1,1,1,1,1]], [0, 1, 5, 74]), ([.code [1,1,1,1,1,1,1,0,1,1,0,1,0,0], .lp [1,1,1,1,1,1,1,0,1,1,0,1,0,0], .blk 0, .code [1,1,1,1,1,1,1,0,1,1,1], .code [1,1,1,1,1,1,1,1]], [0, 1, 5, 6, 47])]
def Z50 : List (List Nat × List Nat) := []
theorem b50 : Try.prog.funcs[50]? = some Try.f50 ∧ (Orc.tab Try.prog).lookup 50 = none ∧ Try.f50.body = some (codeOf Try.f50) := ⟨by kernel_rfl, by kernel_rfl, by kernel_rfl⟩
def A50_1 (x0 x1 x5 : Option Addr) (x74 : Int) (M : Mem) (Q : Value → Mem → Prop) : Prop := LvP Try.prog Try.f50 [(0, .pointer x0), (1, .pointer x1), (5, .pointer x5), (74, .int .i64 x74)] [.code [1,1,1,1,1,1,1,1,1,1,0,1,0,0], .lp [1,1,1,1,1,1,1,1,1,1,0,1,0,0], .blk 2, .code [1,1,1,1,1,1,1,1,1,1,1]] M Q
def A50_2 (x0 x1 x5 x6 : Option Addr) (x47 : Int) (M : Mem) (Q : Value → Mem → Prop) : Prop := LvP Try.prog Try.f50 [(0, .pointer x0), (1, .pointer x1), (5, .pointer x5), (6, .pointer x6), (47, .int .i64 x47)] [.code [1,1,1,1,1,1,1,0,1,1,0,1,0,0], .lp [1,1,1,1,1,1,1,0,1,1,0,1,0,0], .blk 0, .code [1,1,1,1,1,1,1,0,1,1,1], .code [1,1,1,1,1,1,1,1]] M Q
theorem w50_0 {x0 x1 : Option Addr} {x2_0 x2_1 : Int} {M : Mem} {Q : Value → Mem → Prop} (H :
    adS x1 fun a1' =>
    Cn Try.prog 73 #[.pointer x0, .pointer (some ⟨a1'.block, a1'.off, none⟩)] (M.new (.cells #[.int .i64 x2_0, .int .i64 x2_1] 23)) fun v2' N2' =>
     adS x1 fun a3' =>
     onS (N2'.boolAt a3'.block a3'.off) fun b4' =>
     cnd b4' (
      adS x1 fun a5' =>
      Cn Try.prog 74 #[.pointer x0, .pointer (some ⟨a5'.block, a5'.off + 1, none⟩), .int .i64 3, .int .i64 0] N2' fun v6' N6' =>
       Q (.tuple #[]) N6') (
      adS x1 fun a7' =>
      Cn Try.prog 73 #[.pointer x0, .pointer (some ⟨a7'.block, a7'.off + 2, none⟩)] N2' fun v8' N8' =>
       adS x1 fun a9' =>
       Cn Try.prog 73 #[.pointer x0, .pointer (some ⟨a9'.block, a9'.off + 3, none⟩)] N8' fun v10' N10' =>
        adS x1 fun a11' =>
        Cn Try.prog 74 #[.pointer x0, .pointer (some ⟨a11'.block, a11'.off + 4, none⟩), .int .i64 8, .int .i64 0] N10' fun v12' N12' =>
         adS x1 fun a13' =>
         onS (N12'.intAt .i64 a13'.block (a13'.off + 8)) fun x14' =>
         ptS ((N12'.new (.cells #[.bool false] 4)).put (2 * N12'.nb.size) 0 (.bool (decide (x14' ≥ 0)))) fun M15' =>
         adS x1 fun a16' =>
         onS (M15'.boolAt a16'.block (a16'.off + 3)) fun b17' =>
         cnd b17' (
          ptS (M15'.put (2 * N12'.nb.size) 0 (.bool false)) fun M18' =>
          onS (M18'.boolAt (2 * N12'.nb.size) 0) fun b19' =>
          cnd b19' (
           adS x1 fun a20' =>
           Cn Try.prog 74 #[.pointer x0, .pointer (some ⟨a20'.block, a20'.off + 8, none⟩), .int .i64 3, .int .i64 0] M18' fun v21' N21' =>
            adS x1 fun a22' =>
            Cn Try.prog 74 #[.pointer x0, .pointer (some ⟨a22'.block, a22'.off + 9, none⟩), .int .i64 8, .int .i64 0] N21' fun v23' N23' =>
             A50_1 x0 x1 (some ⟨2 * M.nb.size, 0, none⟩) 0 N23' Q) (
           adS x1 fun a24' =>
           ptS (M18'.put a24'.block (a24'.off + 8) (.int .i64 (-1))) fun M25' =>
           adS x1 fun a26' =>
           Cn Try.prog 74 #[.pointer x0, .pointer (some ⟨a26'.block, a26'.off + 9, none⟩), .int .i64 8, .int .i64 0] M25' fun v27' N27' =>
            A50_1 x0 x1 (some ⟨2 * M.nb.size, 0, none⟩) 0 N27' Q)) (
          A50_2 x0 x1 (some ⟨2 * M.nb.size, 0, none⟩) (some ⟨2 * N12'.nb.size, 0, none⟩) 0 M15' Q))) :
    Cn Try.prog 50 #[.pointer x0, .pointer x1, .agg #[.int .i64 x2_0, .int .i64 x2_1]] M Q :=
  Cn.mk (cuts := K50) (sp := Z50) 900 b50 rfl rfl H fun G => by kernel_rfl
theorem w50_1 {x0 x1 x5 : Option Addr} {x74 : Int} {M : Mem} {Q : Value → Mem → Prop} (H :
    cnd (decide (x74 < 5)) (
     adS x1 fun a28' =>
     ixS (idxA (some ⟨a28'.block, a28'.off + 10, none⟩) 5 1 x74) fun a29' =>
     Cn Try.prog 75 #[.pointer x0, .pointer (some a29')] M fun v30' N30' =>
      A50_1 x0 x1 x5 (IntKind.i64.wrap (x74 + 1)) N30' Q) (
     adS x1 fun a31' =>
     adS x5 fun a32' =>
     onS (M.intAt .i64 a32'.block a32'.off) fun x33' =>
     Cn Try.prog 76 #[.pointer x0, .pointer (some ⟨a31'.block, a31'.off + 15, none⟩), .int .i64 x33'] M fun v34' N34' =>
      adS x1 fun a35' =>
      adS x5 fun a36' =>
      onS (N34'.intAt .i64 a36'.block (a36'.off + 1)) fun x37' =>
      Cn Try.prog 76 #[.pointer x0, .pointer (some ⟨a35'.block, a35'.off + 16, none⟩), .int .i64 x37'] N34' fun v38' N38' =>
       adS x1 fun a39' =>
       Cn Try.prog 73 #[.pointer x0, .pointer (some ⟨a39'.block, a39'.off + 17, none⟩)] N38' fun v40' N40' =>
        adS x1 fun a41' =>
        ldP tyZlA0 N40' a41'.block a41'.off fun vs42' =>
        Cn Try.prog 77 #[.agg vs42'.toArray] N40' fun v43' N43' =>
         tyS (asB v43') fun b44' =>
         cnd (!b44') (
          Cn Try.prog 78 #[.pointer x0, .pointer x1] N43' fun v45' N45' =>
           Q (.tuple #[]) N45') (
          Q (.tuple #[]) N43'))) :
    A50_1 x0 x1 x5 x74 M Q :=
  LvP.mk (cuts := K50) (sp := Z50) 900 H fun G => by kernel_rfl
theorem w50_2 {x0 x1 x5 x6 : Option Addr} {x47 : Int} {M : Mem} {Q : Value → Mem → Prop} (H :
    cnd (decide (x47 < 3)) (
     adS x1 fun a46' =>
     ixS (idxA (some ⟨a46'.block, a46'.off + 5, none⟩) 3 1 x47) fun a47' =>
     Cn Try.prog 74 #[.pointer x0, .pointer (some a47'), .int .i64 3, .int .i64 0] M fun v48' N48' =>
      A50_2 x0 x1 x5 x6 (IntKind.i64.wrap (x47 + 1)) N48' Q) (
     Cn Try.prog 73 #[.pointer x0, .pointer x6] M fun v49' N49' =>
      adS x6 fun a50' =>
      onS (N49'.boolAt a50'.block a50'.off) fun b51' =>
      cnd b51' (
       adS x1 fun a52' =>
       Cn Try.prog 74 #[.pointer x0, .pointer (some ⟨a52'.block, a52'.off + 8, none⟩), .int .i64 3, .int .i64 0] N49' fun v53' N53' =>
        adS x1 fun a54' =>
        Cn Try.prog 74 #[.pointer x0, .pointer (some ⟨a54'.block, a54'.off + 9, none⟩), .int .i64 8, .int .i64 0] N53' fun v55' N55' =>
         A50_1 x0 x1 x5 0 N55' Q) (
       adS x1 fun a56' =>
       ptS (N49'.put a56'.block (a56'.off + 8) (.int .i64 (-1))) fun M57' =>
       adS x1 fun a58' =>
       Cn Try.prog 74 #[.pointer x0, .pointer (some ⟨a58'.block, a58'.off + 9, none⟩), .int .i64 8, .int .i64 0] M57' fun v59' N59' =>
        A50_1 x0 x1 x5 0 N59' Q))) :
    A50_2 x0 x1 x5 x6 x47 M Q :=
  LvP.mk (cuts := K50) (sp := Z50) 900 H fun G => by kernel_rfl
end Go.Zt
