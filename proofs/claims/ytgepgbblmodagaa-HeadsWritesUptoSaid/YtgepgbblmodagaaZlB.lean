/- The functions' walks: for each function and each loop a rule of what it comes to. Printed by zw2.py. -/
import Derived.Test.YtgepgbblmodagaaProg
import Derived.Test.YtgepgbblmodagaaZkA
import Derived.Test.YtgepgbblmodagaaZqT
set_option linter.unusedVariables false
set_option maxRecDepth 100000
namespace Go.Zt
open Go Go.Sim Go.Proofs
def tyZlB0 : List Sc := [.bool, .int .i64, .bool, .bool, .int .i64, .int .i64, .int .i64, .int .i64, .int .i64, .int .i64, .int .i64, .int .i64, .int .i64, .int .i64, .int .i64, .int .i64, .int .i64, .bool, .int .i64, .int .i64, .int .i64, .int .i64, .int .i64, .bool, .int .i64, .int .i64, .sl, .bool, .bool, .bool]
def K26 : List (List It × List Nat) := [([.code [1,1,1]], [2, 5]), ([.rg [1,1,0,1,1] 7, .code [1,1,1]], [2, 3, 31]), ([.code [1,1,1,0,1,0,0], .lp [1,1,1,0,1,0,0], .blk 0, .code [1,1,1,1]], [2, 5, 81, 82]), ([.rg [1,1,0,1,1] 12, .code [1,1,1]], [2, 3, 36]), ([.blk 1, .code [1,1,1,0,1,0,0,1,1,1], .lp [1,1,1,0,1,0,0], .blk 0, .code [1,1,1,1]], [2, 5, 81, 82]), ([.code [1,1,1,1,0,1,0,0], .lp [1,1,1,1,0,1,0,0], .blk 2, .code [1,1,1,1,1]], [5, 92, 93]), ([.rg [1,1,0,1,1] 17, .code [1,1,1]], [2, 3, 41]), ([.code [1,1,1,0,1,0,0,1,1,1], .lp [1,1,1,0,1,0,0], .blk 0, .code [1,1,1,1]], [2, 5, 81, 82]), ([.blk 3, .code [1,1,1,1,0,1,0,0,1,1,1], .lp [1,1,1,1,0,1,0,0], .blk 2, .code [1,1,1,1,1]], [5, 92, 93]), ([.rg [1,1,0,1,1] 22, .code [1,1,1]], [2, 3, 46]), ([.code [1,1,1,1,0,1,0,0,1,1,1], .lp [1,1,1,1,0,1,0,0], .blk 2, .code [1,1,1,1,1]], [5, 92, 93]), ([.rg [1,1,0,1,1] 29, .code [1,1,1]], [2, 3, 53]), ([.rg [1,1,0,1,1] 36, .code [1,1,1]], [2, 60]), ([.rg [1,1,0,1,1] 40, .code [1,1,1]], [2, 64])]
def Z26 : List (List Nat × List Nat) := [([1,1,0,1,1], [7, 12, 17, 22, 29, 36, 40, 56])]
theorem b26 : Try.prog.funcs[26]? = some Try.f26 ∧ (Orc.tab Try.prog).lookup 26 = none ∧ Try.f26.body = some (codeOf Try.f26) := ⟨by kernel_rfl, by kernel_rfl, by kernel_rfl⟩
def A26_1 (x2 : Option Addr) (x5 : Bool) (M : Mem) (Q : Value → Mem → Prop) : Prop := LvP Try.prog Try.f26 [(2, .pointer x2), (5, .bool x5)] [.code [1,1,1]] M Q
def A26_2 (x2 x3 : Option Addr) (x31 : Bool) (M : Mem) (Q : Value → Mem → Prop) : Prop := LvP Try.prog Try.f26 [(2, .pointer x2), (3, .pointer x3), (31, .bool x31)] [.rg [1,1,0,1,1] 7, .code [1,1,1]] M Q
def A26_3 (x2 : Option Addr) (x5 : Bool) (x81_0 x81_1 x81_2 x82 : Int) (M : Mem) (Q : Value → Mem → Prop) : Prop := LvP Try.prog Try.f26 [(2, .pointer x2), (5, .bool x5), (81, .agg #[.int .i64 x81_0, .int .i64 x81_1, .int .i64 x81_2]), (82, .int .i64 x82)] [.code [1,1,1,0,1,0,0], .lp [1,1,1,0,1,0,0], .blk 0, .code [1,1,1,1]] M Q
def A26_4 (x2 x3 : Option Addr) (x36 : Bool) (M : Mem) (Q : Value → Mem → Prop) : Prop := LvP Try.prog Try.f26 [(2, .pointer x2), (3, .pointer x3), (36, .bool x36)] [.rg [1,1,0,1,1] 12, .code [1,1,1]] M Q
def A26_5 (x2 : Option Addr) (x5 : Bool) (x81_0 x81_1 x81_2 x82 : Int) (M : Mem) (Q : Value → Mem → Prop) : Prop := LvP Try.prog Try.f26 [(2, .pointer x2), (5, .bool x5), (81, .agg #[.int .i64 x81_0, .int .i64 x81_1, .int .i64 x81_2]), (82, .int .i64 x82)] [.blk 1, .code [1,1,1,0,1,0,0,1,1,1], .lp [1,1,1,0,1,0,0], .blk 0, .code [1,1,1,1]] M Q
def A26_6 (x5 : Bool) (x92_0 x92_1 x92_2 x92_3 x92_4 x93 : Int) (M : Mem) (Q : Value → Mem → Prop) : Prop := LvP Try.prog Try.f26 [(5, .bool x5), (92, .agg #[.int .i64 x92_0, .int .i64 x92_1, .int .i64 x92_2, .int .i64 x92_3, .int .i64 x92_4]), (93, .int .i64 x93)] [.code [1,1,1,1,0,1,0,0], .lp [1,1,1,1,0,1,0,0], .blk 2, .code [1,1,1,1,1]] M Q
def A26_7 (x2 x3 : Option Addr) (x41 : Bool) (M : Mem) (Q : Value → Mem → Prop) : Prop := LvP Try.prog Try.f26 [(2, .pointer x2), (3, .pointer x3), (41, .bool x41)] [.rg [1,1,0,1,1] 17, .code [1,1,1]] M Q
def A26_8 (x2 : Option Addr) (x5 : Bool) (x81_0 x81_1 x81_2 x82 : Int) (M : Mem) (Q : Value → Mem → Prop) : Prop := LvP Try.prog Try.f26 [(2, .pointer x2), (5, .bool x5), (81, .agg #[.int .i64 x81_0, .int .i64 x81_1, .int .i64 x81_2]), (82, .int .i64 x82)] [.code [1,1,1,0,1,0,0,1,1,1], .lp [1,1,1,0,1,0,0], .blk 0, .code [1,1,1,1]] M Q
def A26_9 (x5 : Bool) (x92_0 x92_1 x92_2 x92_3 x92_4 x93 : Int) (M : Mem) (Q : Value → Mem → Prop) : Prop := LvP Try.prog Try.f26 [(5, .bool x5), (92, .agg #[.int .i64 x92_0, .int .i64 x92_1, .int .i64 x92_2, .int .i64 x92_3, .int .i64 x92_4]), (93, .int .i64 x93)] [.blk 3, .code [1,1,1,1,0,1,0,0,1,1,1], .lp [1,1,1,1,0,1,0,0], .blk 2, .code [1,1,1,1,1]] M Q
def A26_10 (x2 x3 : Option Addr) (x46 : Bool) (M : Mem) (Q : Value → Mem → Prop) : Prop := LvP Try.prog Try.f26 [(2, .pointer x2), (3, .pointer x3), (46, .bool x46)] [.rg [1,1,0,1,1] 22, .code [1,1,1]] M Q
def A26_11 (x5 : Bool) (x92_0 x92_1 x92_2 x92_3 x92_4 x93 : Int) (M : Mem) (Q : Value → Mem → Prop) : Prop := LvP Try.prog Try.f26 [(5, .bool x5), (92, .agg #[.int .i64 x92_0, .int .i64 x92_1, .int .i64 x92_2, .int .i64 x92_3, .int .i64 x92_4]), (93, .int .i64 x93)] [.code [1,1,1,1,0,1,0,0,1,1,1], .lp [1,1,1,1,0,1,0,0], .blk 2, .code [1,1,1,1,1]] M Q
def A26_12 (x2 x3 : Option Addr) (x53 : Bool) (M : Mem) (Q : Value → Mem → Prop) : Prop := LvP Try.prog Try.f26 [(2, .pointer x2), (3, .pointer x3), (53, .bool x53)] [.rg [1,1,0,1,1] 29, .code [1,1,1]] M Q
def A26_13 (x2 : Option Addr) (x60 : Bool) (M : Mem) (Q : Value → Mem → Prop) : Prop := LvP Try.prog Try.f26 [(2, .pointer x2), (60, .bool x60)] [.rg [1,1,0,1,1] 36, .code [1,1,1]] M Q
def A26_14 (x2 : Option Addr) (x64 : Bool) (M : Mem) (Q : Value → Mem → Prop) : Prop := LvP Try.prog Try.f26 [(2, .pointer x2), (64, .bool x64)] [.rg [1,1,0,1,1] 40, .code [1,1,1]] M Q
theorem w26_0 {x0 : Array Value} {x1_0 x1_1 : Int} {M : Mem} {Q : Value → Mem → Prop} (H :
    onS (((M.new (.cells x0 41)).new (.cells #[.int .i64 x1_0, .int .i64 x1_1] 23)).intAt .i64 (2 * (M.new (.cells x0 41)).nb.size) 0) fun x1' =>
    onS (((M.new (.cells x0 41)).new (.cells #[.int .i64 x1_0, .int .i64 x1_1] 23)).intAt .i64 (2 * (M.new (.cells x0 41)).nb.size) (0 + 1)) fun x2' =>
    Cn Try.prog 14 #[.agg #[.int .i64 x1', .int .i64 x2']] ((M.new (.cells x0 41)).new (.cells #[.int .i64 x1_0, .int .i64 x1_1] 23)) fun v3' N3' =>
     tyS (asI .i64 v3') fun x4' =>
     onS (N3'.boolAt (2 * M.nb.size) 0) fun b5' =>
     cnd b5' (
      cnd (x4' == 0) (
       onS (N3'.intAt .i64 (2 * M.nb.size) (0 + 1)) fun x6' =>
       Cn Try.prog 55 #[.int .i64 x6', .int .i64 0, .int .i64 7] N3' fun v7' N7' =>
        tyS (asB v7') fun b8' =>
        cnd b8' (
         ldP tyZlB0 N7' (2 * M.nb.size) 0 fun vs9' =>
         Cn Try.prog 56 #[.agg vs9'.toArray] N7' fun v10' N10' =>
          tyS (asB v10') fun b11' =>
          A26_1 (some ⟨2 * M.nb.size, 0, none⟩) b11' N10' Q) (
         A26_1 (some ⟨2 * M.nb.size, 0, none⟩) false N7' Q)) (
       A26_1 (some ⟨2 * M.nb.size, 0, none⟩) false N3' Q)) (
      cnd (x4' == 0) (
       onS (N3'.intAt .i64 (2 * M.nb.size) (0 + 1)) fun x12' =>
       A26_2 (some ⟨2 * M.nb.size, 0, none⟩) (some ⟨2 * (M.new (.cells x0 41)).nb.size, 0, none⟩) (x12' == 0) N3' Q) (
       A26_2 (some ⟨2 * M.nb.size, 0, none⟩) (some ⟨2 * (M.new (.cells x0 41)).nb.size, 0, none⟩) false N3' Q))) :
    Cn Try.prog 26 #[.agg x0, .agg #[.int .i64 x1_0, .int .i64 x1_1]] M Q :=
  Cn.mk (cuts := K26) (sp := Z26) 900 b26 rfl rfl H fun G => by kernel_rfl
theorem w26_1 {x2 : Option Addr} {x5 : Bool} {M : Mem} {Q : Value → Mem → Prop} (H :
    adS x2 fun a13' =>
    onS (M.intAt .i64 a13'.block (a13'.off + 5)) fun x14' =>
    onS (M.intAt .i64 a13'.block (a13'.off + 6)) fun x15' =>
    onS (M.intAt .i64 a13'.block (a13'.off + 7)) fun x16' =>
    A26_3 x2 x5 x14' x15' x16' 0 M Q) :
    A26_1 x2 x5 M Q :=
  LvP.mk (cuts := K26) (sp := Z26) 900 H fun G => by kernel_rfl
theorem w26_2 {x2 x3 : Option Addr} {x31 : Bool} {M : Mem} {Q : Value → Mem → Prop} (H :
    cnd x31 (
     adS x2 fun a17' =>
     onS (M.intAt .i64 a17'.block (a17'.off + 4)) fun x18' =>
     Cn Try.prog 55 #[.int .i64 x18', .int .i64 0, .int .i64 255] M fun v19' N19' =>
      tyS (asB v19') fun b20' =>
      A26_4 x2 x3 b20' N19' Q) (
     A26_4 x2 x3 false M Q)) :
    A26_2 x2 x3 x31 M Q :=
  LvP.mk (cuts := K26) (sp := Z26) 900 H fun G => by kernel_rfl
theorem w26_3 {x2 : Option Addr} {x5 : Bool} {x81_0 x81_1 x81_2 x82 : Int} {M : Mem} {Q : Value → Mem → Prop} (H :
    cnd (decide (x82 < 3)) (
     puS (strV Try.prog 35 (.agg #[.int .i64 x81_0, .int .i64 x81_1, .int .i64 x81_2]) (.int .i64 x82)) fun v21' =>
     tyS (asI .i64 v21') fun x22' =>
     cnd x5 (
      Cn Try.prog 55 #[.int .i64 x22', .int .i64 0, .int .i64 7] M fun v23' N23' =>
       tyS (asB v23') fun b24' =>
       A26_5 x2 b24' x81_0 x81_1 x81_2 x82 N23' Q) (
      A26_5 x2 false x81_0 x81_1 x81_2 x82 M Q)) (
     adS x2 fun a25' =>
     onS (M.intAt .i64 a25'.block (a25'.off + 10)) fun x26' =>
     onS (M.intAt .i64 a25'.block (a25'.off + 11)) fun x27' =>
     onS (M.intAt .i64 a25'.block (a25'.off + 12)) fun x28' =>
     onS (M.intAt .i64 a25'.block (a25'.off + 13)) fun x29' =>
     onS (M.intAt .i64 a25'.block (a25'.off + 14)) fun x30' =>
     A26_6 x5 x26' x27' x28' x29' x30' 0 M Q)) :
    A26_3 x2 x5 x81_0 x81_1 x81_2 x82 M Q :=
  LvP.mk (cuts := K26) (sp := Z26) 900 H fun G => by kernel_rfl
theorem w26_4 {x2 x3 : Option Addr} {x36 : Bool} {M : Mem} {Q : Value → Mem → Prop} (H :
    cnd x36 (
     adS x2 fun a31' =>
     onS (M.intAt .i64 a31'.block (a31'.off + 8)) fun x32' =>
     Cn Try.prog 55 #[.int .i64 x32', .int .i64 (-1), .int .i64 7] M fun v33' N33' =>
      tyS (asB v33') fun b34' =>
      A26_7 x2 x3 b34' N33' Q) (
     A26_7 x2 x3 false M Q)) :
    A26_4 x2 x3 x36 M Q :=
  LvP.mk (cuts := K26) (sp := Z26) 900 H fun G => by kernel_rfl
theorem w26_5 {x2 : Option Addr} {x5 : Bool} {x81_0 x81_1 x81_2 x82 : Int} {M : Mem} {Q : Value → Mem → Prop} (H :
    A26_8 x2 x5 x81_0 x81_1 x81_2 x82 M Q) :
    A26_5 x2 x5 x81_0 x81_1 x81_2 x82 M Q :=
  LvP.mk (cuts := K26) (sp := Z26) 900 H fun G => by kernel_rfl
theorem w26_6 {x5 : Bool} {x92_0 x92_1 x92_2 x92_3 x92_4 x93 : Int} {M : Mem} {Q : Value → Mem → Prop} (H :
    cnd (decide (x93 < 5)) (
     puS (strV Try.prog 36 (.agg #[.int .i64 x92_0, .int .i64 x92_1, .int .i64 x92_2, .int .i64 x92_3, .int .i64 x92_4]) (.int .i64 x93)) fun v35' =>
     tyS (asI .i64 v35') fun x36' =>
     cnd x5 (
      Cn Try.prog 55 #[.int .i64 x36', .int .i64 (-31), .int .i64 31] M fun v37' N37' =>
       tyS (asB v37') fun b38' =>
       A26_9 b38' x92_0 x92_1 x92_2 x92_3 x92_4 x93 N37' Q) (
      A26_9 false x92_0 x92_1 x92_2 x92_3 x92_4 x93 M Q)) (
     cnd (!x5) (
      Q (.int .i64 2) M) (
      Q (.int .i64 0) M))) :
    A26_6 x5 x92_0 x92_1 x92_2 x92_3 x92_4 x93 M Q :=
  LvP.mk (cuts := K26) (sp := Z26) 900 H fun G => by kernel_rfl
theorem w26_7 {x2 x3 : Option Addr} {x41 : Bool} {M : Mem} {Q : Value → Mem → Prop} (H :
    cnd x41 (
     adS x2 fun a39' =>
     onS (M.intAt .i64 a39'.block (a39'.off + 9)) fun x40' =>
     Cn Try.prog 55 #[.int .i64 x40', .int .i64 0, .int .i64 255] M fun v41' N41' =>
      tyS (asB v41') fun b42' =>
      A26_10 x2 x3 b42' N41' Q) (
     A26_10 x2 x3 false M Q)) :
    A26_7 x2 x3 x41 M Q :=
  LvP.mk (cuts := K26) (sp := Z26) 900 H fun G => by kernel_rfl
theorem w26_8 {x2 : Option Addr} {x5 : Bool} {x81_0 x81_1 x81_2 x82 : Int} {M : Mem} {Q : Value → Mem → Prop} (H :
    A26_3 x2 x5 x81_0 x81_1 x81_2 (IntKind.i64.wrap (x82 + 1)) M Q) :
    A26_8 x2 x5 x81_0 x81_1 x81_2 x82 M Q :=
  LvP.mk (cuts := K26) (sp := Z26) 900 H fun G => by kernel_rfl
theorem w26_9 {x5 : Bool} {x92_0 x92_1 x92_2 x92_3 x92_4 x93 : Int} {M : Mem} {Q : Value → Mem → Prop} (H :
    A26_11 x5 x92_0 x92_1 x92_2 x92_3 x92_4 x93 M Q) :
    A26_9 x5 x92_0 x92_1 x92_2 x92_3 x92_4 x93 M Q :=
  LvP.mk (cuts := K26) (sp := Z26) 900 H fun G => by kernel_rfl
theorem w26_10 {x2 x3 : Option Addr} {x46 : Bool} {M : Mem} {Q : Value → Mem → Prop} (H :
    cnd x46 (
     adS x2 fun a43' =>
     onS (M.intAt .i64 a43'.block (a43'.off + 15)) fun x44' =>
     adS x3 fun a45' =>
     onS (M.intAt .i64 a45'.block a45'.off) fun x46' =>
     Cn Try.prog 57 #[.int .i64 x44', .int .i64 x46'] M fun v47' N47' =>
      tyS (asB v47') fun b48' =>
      A26_12 x2 x3 b48' N47' Q) (
     A26_12 x2 x3 false M Q)) :
    A26_10 x2 x3 x46 M Q :=
  LvP.mk (cuts := K26) (sp := Z26) 900 H fun G => by kernel_rfl
theorem w26_11 {x5 : Bool} {x92_0 x92_1 x92_2 x92_3 x92_4 x93 : Int} {M : Mem} {Q : Value → Mem → Prop} (H :
    A26_6 x5 x92_0 x92_1 x92_2 x92_3 x92_4 (IntKind.i64.wrap (x93 + 1)) M Q) :
    A26_11 x5 x92_0 x92_1 x92_2 x92_3 x92_4 x93 M Q :=
  LvP.mk (cuts := K26) (sp := Z26) 900 H fun G => by kernel_rfl
theorem w26_12 {x2 x3 : Option Addr} {x53 : Bool} {M : Mem} {Q : Value → Mem → Prop} (H :
    cnd x53 (
     adS x2 fun a49' =>
     onS (M.intAt .i64 a49'.block (a49'.off + 16)) fun x50' =>
     adS x3 fun a51' =>
     onS (M.intAt .i64 a51'.block (a51'.off + 1)) fun x52' =>
     Cn Try.prog 57 #[.int .i64 x50', .int .i64 x52'] M fun v53' N53' =>
      tyS (asB v53') fun b54' =>
      A26_13 x2 b54' N53' Q) (
     A26_13 x2 false M Q)) :
    A26_12 x2 x3 x53 M Q :=
  LvP.mk (cuts := K26) (sp := Z26) 900 H fun G => by kernel_rfl
theorem w26_13 {x2 : Option Addr} {x60 : Bool} {M : Mem} {Q : Value → Mem → Prop} (H :
    cnd x60 (
     adS x2 fun a55' =>
     ldP tyZlB0 M a55'.block a55'.off fun vs56' =>
     Cn Try.prog 58 #[.agg vs56'.toArray] M fun v57' N57' =>
      tyS (asB v57') fun b58' =>
      A26_14 x2 b58' N57' Q) (
     A26_14 x2 false M Q)) :
    A26_13 x2 x60 M Q :=
  LvP.mk (cuts := K26) (sp := Z26) 900 H fun G => by kernel_rfl
theorem w26_14 {x2 : Option Addr} {x64 : Bool} {M : Mem} {Q : Value → Mem → Prop} (H :
    cnd x64 (
     adS x2 fun a59' =>
     onS (M.boolAt a59'.block (a59'.off + 3)) fun b60' =>
     cnd (!b60') (
      A26_1 x2 true M Q) (
      adS x2 fun a61' =>
      onS (M.intAt .i64 a61'.block (a61'.off + 5)) fun x62' =>
      onS (M.intAt .i64 a61'.block (a61'.off + 6)) fun x63' =>
      onS (M.intAt .i64 a61'.block (a61'.off + 7)) fun x64' =>
      puS (binV Try.prog .eql 35 35 (.agg #[.int .i64 x62', .int .i64 x63', .int .i64 x64']) (.agg #[.int .i64 0, .int .i64 0, .int .i64 0])) fun v65' =>
      tyS (asB v65') fun b66' =>
      cnd b66' (
       adS x2 fun a67' =>
       onS (M.intAt .i64 a67'.block (a67'.off + 8)) fun x68' =>
       A26_1 x2 (x68' == (-1)) M Q) (
       A26_1 x2 false M Q))) (
     A26_1 x2 false M Q)) :
    A26_14 x2 x64 M Q :=
  LvP.mk (cuts := K26) (sp := Z26) 900 H fun G => by kernel_rfl
def K56 : List (List It × List Nat) := [([.rg [1,0] 9, .code [1,1]], [1, 11]), ([.rg [1,0] 14, .code [1,1]], [1, 16]), ([.rg [1,0] 20, .code [1,1]], [1, 22]), ([.rg [1,0] 25, .code [1,1]], [1, 27]), ([.rg [1,0] 29, .code [1,1]], [1, 31]), ([.rg [1,0] 34, .code [1,1]], [1, 36]), ([.rg [1,0] 39, .code [1,1]], [1, 41]), ([.rg [1,0] 44, .code [1,1]], [1, 46])]
def Z56 : List (List Nat × List Nat) := [([1,0], [9, 14, 20, 25, 29, 34, 39, 44, 48])]
theorem b56 : Try.prog.funcs[56]? = some Try.f56 ∧ (Orc.tab Try.prog).lookup 56 = none ∧ Try.f56.body = some (codeOf Try.f56) := ⟨by kernel_rfl, by kernel_rfl, by kernel_rfl⟩
def A56_1 (x1 : Option Addr) (x11 : Bool) (M : Mem) (Q : Value → Mem → Prop) : Prop := LvP Try.prog Try.f56 [(1, .pointer x1), (11, .bool x11)] [.rg [1,0] 9, .code [1,1]] M Q
def A56_2 (x1 : Option Addr) (x16 : Bool) (M : Mem) (Q : Value → Mem → Prop) : Prop := LvP Try.prog Try.f56 [(1, .pointer x1), (16, .bool x16)] [.rg [1,0] 14, .code [1,1]] M Q
def A56_3 (x1 : Option Addr) (x22 : Bool) (M : Mem) (Q : Value → Mem → Prop) : Prop := LvP Try.prog Try.f56 [(1, .pointer x1), (22, .bool x22)] [.rg [1,0] 20, .code [1,1]] M Q
def A56_4 (x1 : Option Addr) (x27 : Bool) (M : Mem) (Q : Value → Mem → Prop) : Prop := LvP Try.prog Try.f56 [(1, .pointer x1), (27, .bool x27)] [.rg [1,0] 25, .code [1,1]] M Q
def A56_5 (x1 : Option Addr) (x31 : Bool) (M : Mem) (Q : Value → Mem → Prop) : Prop := LvP Try.prog Try.f56 [(1, .pointer x1), (31, .bool x31)] [.rg [1,0] 29, .code [1,1]] M Q
def A56_6 (x1 : Option Addr) (x36 : Bool) (M : Mem) (Q : Value → Mem → Prop) : Prop := LvP Try.prog Try.f56 [(1, .pointer x1), (36, .bool x36)] [.rg [1,0] 34, .code [1,1]] M Q
def A56_7 (x1 : Option Addr) (x41 : Bool) (M : Mem) (Q : Value → Mem → Prop) : Prop := LvP Try.prog Try.f56 [(1, .pointer x1), (41, .bool x41)] [.rg [1,0] 39, .code [1,1]] M Q
def A56_8 (x1 : Option Addr) (x46 : Bool) (M : Mem) (Q : Value → Mem → Prop) : Prop := LvP Try.prog Try.f56 [(1, .pointer x1), (46, .bool x46)] [.rg [1,0] 44, .code [1,1]] M Q
theorem w56_0 {x0 : Array Value} {M : Mem} {Q : Value → Mem → Prop} (H :
    onS ((M.new (.cells x0 41)).boolAt (2 * M.nb.size) (0 + 2)) fun b1' =>
    cnd (!b1') (
     onS ((M.new (.cells x0 41)).boolAt (2 * M.nb.size) (0 + 3)) fun b2' =>
     A56_1 (some ⟨2 * M.nb.size, 0, none⟩) (!b2') (M.new (.cells x0 41)) Q) (
     A56_1 (some ⟨2 * M.nb.size, 0, none⟩) false (M.new (.cells x0 41)) Q)) :
    Cn Try.prog 56 #[.agg x0] M Q :=
  Cn.mk (cuts := K56) (sp := Z56) 900 b56 rfl rfl H fun G => by kernel_rfl
theorem w56_1 {x1 : Option Addr} {x11 : Bool} {M : Mem} {Q : Value → Mem → Prop} (H :
    cnd x11 (
     adS x1 fun a3' =>
     onS (M.intAt .i64 a3'.block (a3'.off + 4)) fun x4' =>
     A56_2 x1 (x4' == 0) M Q) (
     A56_2 x1 false M Q)) :
    A56_1 x1 x11 M Q :=
  LvP.mk (cuts := K56) (sp := Z56) 900 H fun G => by kernel_rfl
theorem w56_2 {x1 : Option Addr} {x16 : Bool} {M : Mem} {Q : Value → Mem → Prop} (H :
    cnd x16 (
     adS x1 fun a5' =>
     onS (M.intAt .i64 a5'.block (a5'.off + 5)) fun x6' =>
     onS (M.intAt .i64 a5'.block (a5'.off + 6)) fun x7' =>
     onS (M.intAt .i64 a5'.block (a5'.off + 7)) fun x8' =>
     puS (binV Try.prog .eql 35 35 (.agg #[.int .i64 x6', .int .i64 x7', .int .i64 x8']) (.agg #[.int .i64 0, .int .i64 0, .int .i64 0])) fun v9' =>
     tyS (asB v9') fun b10' =>
     A56_3 x1 b10' M Q) (
     A56_3 x1 false M Q)) :
    A56_2 x1 x16 M Q :=
  LvP.mk (cuts := K56) (sp := Z56) 900 H fun G => by kernel_rfl
theorem w56_3 {x1 : Option Addr} {x22 : Bool} {M : Mem} {Q : Value → Mem → Prop} (H :
    cnd x22 (
     adS x1 fun a11' =>
     onS (M.intAt .i64 a11'.block (a11'.off + 8)) fun x12' =>
     A56_4 x1 (x12' == 0) M Q) (
     A56_4 x1 false M Q)) :
    A56_3 x1 x22 M Q :=
  LvP.mk (cuts := K56) (sp := Z56) 900 H fun G => by kernel_rfl
theorem w56_4 {x1 : Option Addr} {x27 : Bool} {M : Mem} {Q : Value → Mem → Prop} (H :
    cnd x27 (
     adS x1 fun a13' =>
     ldP tyZlB0 M a13'.block a13'.off fun vs14' =>
     Cn Try.prog 77 #[.agg vs14'.toArray] M fun v15' N15' =>
      tyS (asB v15') fun b16' =>
      A56_5 x1 b16' N15' Q) (
     A56_5 x1 false M Q)) :
    A56_4 x1 x27 M Q :=
  LvP.mk (cuts := K56) (sp := Z56) 900 H fun G => by kernel_rfl
theorem w56_5 {x1 : Option Addr} {x31 : Bool} {M : Mem} {Q : Value → Mem → Prop} (H :
    cnd x31 (
     adS x1 fun a17' =>
     onS (M.intAt .i64 a17'.block (a17'.off + 15)) fun x18' =>
     A56_6 x1 (x18' == 0) M Q) (
     A56_6 x1 false M Q)) :
    A56_5 x1 x31 M Q :=
  LvP.mk (cuts := K56) (sp := Z56) 900 H fun G => by kernel_rfl
theorem w56_6 {x1 : Option Addr} {x36 : Bool} {M : Mem} {Q : Value → Mem → Prop} (H :
    cnd x36 (
     adS x1 fun a19' =>
     onS (M.intAt .i64 a19'.block (a19'.off + 16)) fun x20' =>
     A56_7 x1 (x20' == 0) M Q) (
     A56_7 x1 false M Q)) :
    A56_6 x1 x36 M Q :=
  LvP.mk (cuts := K56) (sp := Z56) 900 H fun G => by kernel_rfl
theorem w56_7 {x1 : Option Addr} {x41 : Bool} {M : Mem} {Q : Value → Mem → Prop} (H :
    cnd x41 (
     adS x1 fun a21' =>
     onS (M.boolAt a21'.block (a21'.off + 17)) fun b22' =>
     A56_8 x1 (!b22') M Q) (
     A56_8 x1 false M Q)) :
    A56_7 x1 x41 M Q :=
  LvP.mk (cuts := K56) (sp := Z56) 900 H fun G => by kernel_rfl
theorem w56_8 {x1 : Option Addr} {x46 : Bool} {M : Mem} {Q : Value → Mem → Prop} (H :
    cnd x46 (
     adS x1 fun a23' =>
     ldP tyZlB0 M a23'.block a23'.off fun vs24' =>
     Cn Try.prog 58 #[.agg vs24'.toArray] M fun v25' N25' =>
      tyS (asB v25') fun b26' =>
      Q (.bool b26') N25') (
     Q (.bool false) M)) :
    A56_8 x1 x46 M Q :=
  LvP.mk (cuts := K56) (sp := Z56) 900 H fun G => by kernel_rfl
def K58 : List (List It × List Nat) := [([.rg [1,1,1,0,0,1,0,0] 10, .code [1,1,1,0,0,1,0,1], .blk 0, .code [1,1,1,1]], [1, 27]), ([.code [1,1,1,0,0,1,1,1], .blk 0, .code [1,1,1,1]], [1, 54]), ([.rg [1,1,1,0,0,1,0,0] 15, .code [1,1,1,0,0,1,0,1], .blk 0, .code [1,1,1,1]], [1, 32]), ([.code [1,1,1,0,0,1,1,1,1,1], .blk 0, .code [1,1,1,1]], [1, 66]), ([.rg [1,1,1,0,0,1,0,0] 20, .code [1,1,1,0,0,1,0,1], .blk 0, .code [1,1,1,1]], [1, 37]), ([.code [1,1,1,0,0,1,1,1,1,1,1,1], .blk 0, .code [1,1,1,1]], [1, 81]), ([.rg [1,1,1,0,0,1,0,0] 25, .code [1,1,1,0,0,1,0,1], .blk 0, .code [1,1,1,1]], [1, 42]), ([.code [1,1,1,1,0,1,0,0], .lp [1,1,1,1,0,1,0,0], .blk 1, .code [1,1,1,1,1]], [1, 96, 97]), ([.rg [1,1,1,0,0,1,0,0] 31, .code [1,1,1,0,0,1,0,1], .blk 0, .code [1,1,1,1]], [1, 48]), ([.code [1,1,1,1,1,0,1,0,0], .lp [1,1,1,1,1,0,1,0,0], .blk 3, .code [1,1,1,1,1,1]], [105, 106, 107])]
def Z58 : List (List Nat × List Nat) := [([1,1,1,0,0,1,0,0], [10, 15, 20, 25, 31, 37])]
theorem b58 : Try.prog.funcs[58]? = some Try.f58 ∧ (Orc.tab Try.prog).lookup 58 = none ∧ Try.f58.body = some (codeOf Try.f58) := ⟨by kernel_rfl, by kernel_rfl, by kernel_rfl⟩
def A58_1 (x1 : Option Addr) (x27 : Bool) (M : Mem) (Q : Value → Mem → Prop) : Prop := LvP Try.prog Try.f58 [(1, .pointer x1), (27, .bool x27)] [.rg [1,1,1,0,0,1,0,0] 10, .code [1,1,1,0,0,1,0,1], .blk 0, .code [1,1,1,1]] M Q
def A58_2 (x1 : Option Addr) (x54 : Bool) (M : Mem) (Q : Value → Mem → Prop) : Prop := LvP Try.prog Try.f58 [(1, .pointer x1), (54, .bool x54)] [.code [1,1,1,0,0,1,1,1], .blk 0, .code [1,1,1,1]] M Q
def A58_3 (x1 : Option Addr) (x32 : Bool) (M : Mem) (Q : Value → Mem → Prop) : Prop := LvP Try.prog Try.f58 [(1, .pointer x1), (32, .bool x32)] [.rg [1,1,1,0,0,1,0,0] 15, .code [1,1,1,0,0,1,0,1], .blk 0, .code [1,1,1,1]] M Q
def A58_4 (x1 : Option Addr) (x66 : Bool) (M : Mem) (Q : Value → Mem → Prop) : Prop := LvP Try.prog Try.f58 [(1, .pointer x1), (66, .bool x66)] [.code [1,1,1,0,0,1,1,1,1,1], .blk 0, .code [1,1,1,1]] M Q
def A58_5 (x1 : Option Addr) (x37 : Bool) (M : Mem) (Q : Value → Mem → Prop) : Prop := LvP Try.prog Try.f58 [(1, .pointer x1), (37, .bool x37)] [.rg [1,1,1,0,0,1,0,0] 20, .code [1,1,1,0,0,1,0,1], .blk 0, .code [1,1,1,1]] M Q
def A58_6 (x1 : Option Addr) (x81 : Bool) (M : Mem) (Q : Value → Mem → Prop) : Prop := LvP Try.prog Try.f58 [(1, .pointer x1), (81, .bool x81)] [.code [1,1,1,0,0,1,1,1,1,1,1,1], .blk 0, .code [1,1,1,1]] M Q
def A58_7 (x1 : Option Addr) (x42 : Bool) (M : Mem) (Q : Value → Mem → Prop) : Prop := LvP Try.prog Try.f58 [(1, .pointer x1), (42, .bool x42)] [.rg [1,1,1,0,0,1,0,0] 25, .code [1,1,1,0,0,1,0,1], .blk 0, .code [1,1,1,1]] M Q
def A58_8 (x1 : Option Addr) (x96_0 x96_1 x96_2 x96_3 x97 : Int) (M : Mem) (Q : Value → Mem → Prop) : Prop := LvP Try.prog Try.f58 [(1, .pointer x1), (96, .agg #[.int .i64 x96_0, .int .i64 x96_1, .int .i64 x96_2, .int .i64 x96_3]), (97, .int .i64 x97)] [.code [1,1,1,1,0,1,0,0], .lp [1,1,1,1,0,1,0,0], .blk 1, .code [1,1,1,1,1]] M Q
def A58_9 (x1 : Option Addr) (x48 : Bool) (M : Mem) (Q : Value → Mem → Prop) : Prop := LvP Try.prog Try.f58 [(1, .pointer x1), (48, .bool x48)] [.rg [1,1,1,0,0,1,0,0] 31, .code [1,1,1,0,0,1,0,1], .blk 0, .code [1,1,1,1]] M Q
def A58_10 (Ax105 : Option Addr) (lx105 cx105 : Nat) (x106 x107 : Int) (M : Mem) (Q : Value → Mem → Prop) : Prop := LvP Try.prog Try.f58 [(105, .slice Ax105 lx105 cx105), (106, .int .i64 x106), (107, .int .i64 x107)] [.code [1,1,1,1,1,0,1,0,0], .lp [1,1,1,1,1,0,1,0,0], .blk 3, .code [1,1,1,1,1,1]] M Q
theorem w58_0 {x0 : Array Value} {M : Mem} {Q : Value → Mem → Prop} (H :
    onS ((M.new (.cells x0 41)).boolAt (2 * M.nb.size) (0 + 23)) fun b1' =>
    cnd b1' (
     onS ((M.new (.cells x0 41)).intAt .i64 (2 * M.nb.size) (0 + 25)) fun x2' =>
     puS (binV Try.prog .shl 3 111 (.int .i64 1) (.int .u64 (IntKind.u64.wrap (((BitVec.ofInt (IntKind.bits .u64) (IntKind.u64.wrap (x2')) &&& BitVec.ofInt (IntKind.bits .u64) 3).toNat : Int))))) fun v3' =>
     tyS (asI .i64 v3') fun x4' =>
     ldP tyZlB0 (M.new (.cells x0 41)) (2 * M.nb.size) 0 fun vs5' =>
     Cn Try.prog 77 #[.agg vs5'.toArray] (M.new (.cells x0 41)) fun v6' N6' =>
      tyS (asB v6') fun b7' =>
      cnd b7' (
       onS (N6'.intAt .i64 (2 * M.nb.size) (0 + 18)) fun x8' =>
       onS (N6'.intAt .i64 (2 * M.nb.size) (0 + 19)) fun x9' =>
       onS (N6'.intAt .i64 (2 * M.nb.size) (0 + 20)) fun x10' =>
       onS (N6'.intAt .i64 (2 * M.nb.size) (0 + 21)) fun x11' =>
       puS (binV Try.prog .eql 37 37 (.agg #[.int .i64 x8', .int .i64 x9', .int .i64 x10', .int .i64 x11']) (.agg #[.int .i64 0, .int .i64 0, .int .i64 0, .int .i64 0])) fun v12' =>
       tyS (asB v12') fun b13' =>
       cnd b13' (
        onS (N6'.intAt .i64 (2 * M.nb.size) (0 + 22)) fun x14' =>
        A58_1 (some ⟨2 * M.nb.size, 0, none⟩) (x14' == 0) N6' Q) (
        A58_1 (some ⟨2 * M.nb.size, 0, none⟩) false N6' Q)) (
       onS (N6'.intAt .i64 (2 * M.nb.size) (0 + 22)) fun x15' =>
       Cn Try.prog 55 #[.int .i64 x15', .int .i64 0, .int .i64 7] N6' fun v16' N16' =>
        tyS (asB v16') fun b17' =>
        cnd (!b17') (
         A58_2 (some ⟨2 * M.nb.size, 0, none⟩) true N16' Q) (
         onS (N16'.slAt (2 * M.nb.size) (0 + 26)) fun s18' =>
         A58_2 (some ⟨2 * M.nb.size, 0, none⟩) (((s18'.2.1 : Int)) != x4') N16' Q))) (
     ldP tyZlB0 (M.new (.cells x0 41)) (2 * M.nb.size) 0 fun vs19' =>
     Cn Try.prog 77 #[.agg vs19'.toArray] (M.new (.cells x0 41)) fun v20' N20' =>
      tyS (asB v20') fun b21' =>
      cnd b21' (
       onS (N20'.intAt .i64 (2 * M.nb.size) (0 + 18)) fun x22' =>
       onS (N20'.intAt .i64 (2 * M.nb.size) (0 + 19)) fun x23' =>
       onS (N20'.intAt .i64 (2 * M.nb.size) (0 + 20)) fun x24' =>
       onS (N20'.intAt .i64 (2 * M.nb.size) (0 + 21)) fun x25' =>
       puS (binV Try.prog .eql 37 37 (.agg #[.int .i64 x22', .int .i64 x23', .int .i64 x24', .int .i64 x25']) (.agg #[.int .i64 0, .int .i64 0, .int .i64 0, .int .i64 0])) fun v26' =>
       tyS (asB v26') fun b27' =>
       cnd b27' (
        onS (N20'.intAt .i64 (2 * M.nb.size) (0 + 22)) fun x28' =>
        A58_1 (some ⟨2 * M.nb.size, 0, none⟩) (x28' == 0) N20' Q) (
        A58_1 (some ⟨2 * M.nb.size, 0, none⟩) false N20' Q)) (
       onS (N20'.intAt .i64 (2 * M.nb.size) (0 + 22)) fun x29' =>
       Cn Try.prog 55 #[.int .i64 x29', .int .i64 0, .int .i64 7] N20' fun v30' N30' =>
        tyS (asB v30') fun b31' =>
        cnd (!b31') (
         A58_2 (some ⟨2 * M.nb.size, 0, none⟩) true N30' Q) (
         onS (N30'.slAt (2 * M.nb.size) (0 + 26)) fun s32' =>
         A58_2 (some ⟨2 * M.nb.size, 0, none⟩) (((s32'.2.1 : Int)) != 0) N30' Q)))) :
    Cn Try.prog 58 #[.agg x0] M Q :=
  Cn.mk (cuts := K58) (sp := Z58) 900 b58 rfl rfl H fun G => by kernel_rfl
theorem w58_1 {x1 : Option Addr} {x27 : Bool} {M : Mem} {Q : Value → Mem → Prop} (H :
    cnd x27 (
     adS x1 fun a33' =>
     onS (M.boolAt a33'.block (a33'.off + 23)) fun b34' =>
     A58_3 x1 (!b34') M Q) (
     A58_3 x1 false M Q)) :
    A58_1 x1 x27 M Q :=
  LvP.mk (cuts := K58) (sp := Z58) 900 H fun G => by kernel_rfl
theorem w58_2 {x1 : Option Addr} {x54 : Bool} {M : Mem} {Q : Value → Mem → Prop} (H :
    cnd x54 (
     Q (.bool false) M) (
     adS x1 fun a35' =>
     onS (M.boolAt a35'.block (a35'.off + 23)) fun b36' =>
     cnd b36' (
      adS x1 fun a37' =>
      onS (M.intAt .i64 a37'.block (a37'.off + 24)) fun x38' =>
      Cn Try.prog 55 #[.int .i64 x38', .int .i64 3, .int .i64 6] M fun v39' N39' =>
       tyS (asB v39') fun b40' =>
       cnd (!b40') (
        A58_4 x1 true N39' Q) (
        adS x1 fun a41' =>
        onS (N39'.intAt .i64 a41'.block (a41'.off + 25)) fun x42' =>
        Cn Try.prog 55 #[.int .i64 x42', .int .i64 0, .int .i64 3] N39' fun v43' N43' =>
         tyS (asB v43') fun b44' =>
         A58_4 x1 (!b44') N43' Q)) (
      A58_4 x1 false M Q))) :
    A58_2 x1 x54 M Q :=
  LvP.mk (cuts := K58) (sp := Z58) 900 H fun G => by kernel_rfl
theorem w58_3 {x1 : Option Addr} {x32 : Bool} {M : Mem} {Q : Value → Mem → Prop} (H :
    cnd x32 (
     adS x1 fun a45' =>
     onS (M.intAt .i64 a45'.block (a45'.off + 24)) fun x46' =>
     A58_5 x1 (x46' == 0) M Q) (
     A58_5 x1 false M Q)) :
    A58_3 x1 x32 M Q :=
  LvP.mk (cuts := K58) (sp := Z58) 900 H fun G => by kernel_rfl
theorem w58_4 {x1 : Option Addr} {x66 : Bool} {M : Mem} {Q : Value → Mem → Prop} (H :
    cnd x66 (
     Q (.bool false) M) (
     adS x1 fun a47' =>
     onS (M.boolAt a47'.block (a47'.off + 23)) fun b48' =>
     cnd (!b48') (
      adS x1 fun a49' =>
      onS (M.intAt .i64 a49'.block (a49'.off + 24)) fun x50' =>
      cnd (x50' != 0) (
       A58_6 x1 true M Q) (
       adS x1 fun a51' =>
       onS (M.intAt .i64 a51'.block (a51'.off + 25)) fun x52' =>
       A58_6 x1 (x52' != 0) M Q)) (
      A58_6 x1 false M Q))) :
    A58_4 x1 x66 M Q :=
  LvP.mk (cuts := K58) (sp := Z58) 900 H fun G => by kernel_rfl
theorem w58_5 {x1 : Option Addr} {x37 : Bool} {M : Mem} {Q : Value → Mem → Prop} (H :
    cnd x37 (
     adS x1 fun a53' =>
     onS (M.intAt .i64 a53'.block (a53'.off + 25)) fun x54' =>
     A58_7 x1 (x54' == 0) M Q) (
     A58_7 x1 false M Q)) :
    A58_5 x1 x37 M Q :=
  LvP.mk (cuts := K58) (sp := Z58) 900 H fun G => by kernel_rfl
theorem w58_6 {x1 : Option Addr} {x81 : Bool} {M : Mem} {Q : Value → Mem → Prop} (H :
    cnd x81 (
     Q (.bool false) M) (
     adS x1 fun a55' =>
     onS (M.intAt .i64 a55'.block (a55'.off + 18)) fun x56' =>
     onS (M.intAt .i64 a55'.block (a55'.off + 19)) fun x57' =>
     onS (M.intAt .i64 a55'.block (a55'.off + 20)) fun x58' =>
     onS (M.intAt .i64 a55'.block (a55'.off + 21)) fun x59' =>
     A58_8 x1 x56' x57' x58' x59' 0 M Q)) :
    A58_6 x1 x81 M Q :=
  LvP.mk (cuts := K58) (sp := Z58) 900 H fun G => by kernel_rfl
theorem w58_7 {x1 : Option Addr} {x42 : Bool} {M : Mem} {Q : Value → Mem → Prop} (H :
    cnd x42 (
     adS x1 fun a60' =>
     onS (M.slAt a60'.block (a60'.off + 26)) fun s61' =>
     A58_9 x1 (((s61'.2.1 : Int)) == 0) M Q) (
     A58_9 x1 false M Q)) :
    A58_7 x1 x42 M Q :=
  LvP.mk (cuts := K58) (sp := Z58) 900 H fun G => by kernel_rfl
theorem w58_8 {x1 : Option Addr} {x96_0 x96_1 x96_2 x96_3 x97 : Int} {M : Mem} {Q : Value → Mem → Prop} (H :
    cnd (decide (x97 < 4)) (
     puS (strV Try.prog 37 (.agg #[.int .i64 x96_0, .int .i64 x96_1, .int .i64 x96_2, .int .i64 x96_3]) (.int .i64 x97)) fun v62' =>
     tyS (asI .i64 v62') fun x63' =>
     Cn Try.prog 55 #[.int .i64 x63', .int .i64 0, .int .i64 63] M fun v64' N64' =>
      tyS (asB v64') fun b65' =>
      cnd (!b65') (
       Q (.bool false) N64') (
       A58_8 x1 x96_0 x96_1 x96_2 x96_3 (IntKind.i64.wrap (x97 + 1)) N64' Q)) (
     adS x1 fun a66' =>
     onS (M.slAt a66'.block (a66'.off + 26)) fun s67' =>
     A58_10 s67'.1 s67'.2.1 s67'.2.2 (s67'.2.1 : Int) 0 M Q)) :
    A58_8 x1 x96_0 x96_1 x96_2 x96_3 x97 M Q :=
  LvP.mk (cuts := K58) (sp := Z58) 900 H fun G => by kernel_rfl
theorem w58_9 {x1 : Option Addr} {x48 : Bool} {M : Mem} {Q : Value → Mem → Prop} (H :
    cnd x48 (
     adS x1 fun a68' =>
     onS (M.boolAt a68'.block (a68'.off + 27)) fun b69' =>
     onS (M.boolAt a68'.block (a68'.off + 28)) fun b70' =>
     onS (M.boolAt a68'.block (a68'.off + 29)) fun b71' =>
     puS (binV Try.prog .eql 39 39 (.agg #[.bool b69', .bool b70', .bool b71']) (.agg #[.bool false, .bool false, .bool false])) fun v72' =>
     tyS (asB v72') fun b73' =>
     Q (.bool b73') M) (
     Q (.bool false) M)) :
    A58_9 x1 x48 M Q :=
  LvP.mk (cuts := K58) (sp := Z58) 900 H fun G => by kernel_rfl
theorem w58_10 {Ax105 : Option Addr} {lx105 cx105 : Nat} {x106 x107 : Int} {M : Mem} {Q : Value → Mem → Prop} (H :
    cnd (decide (x107 < x106)) (
     ixS (idxA Ax105 lx105 4 x107) fun a74' =>
     onS (M.intAt .i64 a74'.block a74'.off) fun x75' =>
     onS (M.intAt .i64 a74'.block (a74'.off + 1)) fun x76' =>
     onS (M.intAt .i64 a74'.block (a74'.off + 2)) fun x77' =>
     onS (M.intAt .i64 a74'.block (a74'.off + 3)) fun x78' =>
     stP (some 4) #[.int .i64 x75', .int .i64 x76', .int .i64 x77', .int .i64 x78'] (M.new (.cells #[.int .i64 0, .int .i64 0, .int .i64 0, .int .i64 0] 96)) (2 * M.nb.size) 0 fun M79' =>
     onS (M79'.intAt .i64 (2 * M.nb.size) 0) fun x80' =>
     onS (M79'.intAt .i64 (2 * M.nb.size) (0 + 1)) fun x81' =>
     onS (M79'.intAt .i64 (2 * M.nb.size) (0 + 2)) fun x82' =>
     onS (M79'.intAt .i64 (2 * M.nb.size) (0 + 3)) fun x83' =>
     Cn Try.prog 79 #[.agg #[.int .i64 x80', .int .i64 x81', .int .i64 x82', .int .i64 x83']] M79' fun v84' N84' =>
      tyS (asB v84') fun b85' =>
      cnd (!b85') (
       Q (.bool false) N84') (
       A58_10 Ax105 lx105 cx105 x106 (IntKind.i64.wrap (x107 + 1)) N84' Q)) (
     Q (.bool true) M)) :
    A58_10 Ax105 lx105 cx105 x106 x107 M Q :=
  LvP.mk (cuts := K58) (sp := Z58) 900 H fun G => by kernel_rfl
def K79 : List (List It × List Nat) := [([.rg [1,0] 9, .code [1,1]], [1, 11]), ([.rg [1,0] 14, .code [1,1]], [1, 16])]
def Z79 : List (List Nat × List Nat) := [([1,0], [9, 14, 19])]
theorem b79 : Try.prog.funcs[79]? = some Try.f79 ∧ (Orc.tab Try.prog).lookup 79 = none ∧ Try.f79.body = some (codeOf Try.f79) := ⟨by kernel_rfl, by kernel_rfl, by kernel_rfl⟩
def A79_1 (x1 : Option Addr) (x11 : Bool) (M : Mem) (Q : Value → Mem → Prop) : Prop := LvP Try.prog Try.f79 [(1, .pointer x1), (11, .bool x11)] [.rg [1,0] 9, .code [1,1]] M Q
def A79_2 (x1 : Option Addr) (x16 : Bool) (M : Mem) (Q : Value → Mem → Prop) : Prop := LvP Try.prog Try.f79 [(1, .pointer x1), (16, .bool x16)] [.rg [1,0] 14, .code [1,1]] M Q
theorem w79_0 {x0_0 x0_1 x0_2 x0_3 : Int} {M : Mem} {Q : Value → Mem → Prop} (H :
    onS ((M.new (.cells #[.int .i64 x0_0, .int .i64 x0_1, .int .i64 x0_2, .int .i64 x0_3] 96)).intAt .i64 (2 * M.nb.size) 0) fun x1' =>
    Cn Try.prog 55 #[.int .i64 x1', .int .i64 0, .int .i64 15] (M.new (.cells #[.int .i64 x0_0, .int .i64 x0_1, .int .i64 x0_2, .int .i64 x0_3] 96)) fun v2' N2' =>
     tyS (asB v2') fun b3' =>
     cnd b3' (
      onS (N2'.intAt .i64 (2 * M.nb.size) (0 + 2)) fun x4' =>
      Cn Try.prog 55 #[.int .i64 x4', .int .i64 0, .int .i64 15] N2' fun v5' N5' =>
       tyS (asB v5') fun b6' =>
       A79_1 (some ⟨2 * M.nb.size, 0, none⟩) b6' N5' Q) (
      A79_1 (some ⟨2 * M.nb.size, 0, none⟩) false N2' Q)) :
    Cn Try.prog 79 #[.agg #[.int .i64 x0_0, .int .i64 x0_1, .int .i64 x0_2, .int .i64 x0_3]] M Q :=
  Cn.mk (cuts := K79) (sp := Z79) 900 b79 rfl rfl H fun G => by kernel_rfl
theorem w79_1 {x1 : Option Addr} {x11 : Bool} {M : Mem} {Q : Value → Mem → Prop} (H :
    cnd x11 (
     adS x1 fun a7' =>
     onS (M.intAt .i64 a7'.block (a7'.off + 1)) fun x8' =>
     Cn Try.prog 55 #[.int .i64 x8', .int .i64 0, .int .i64 3] M fun v9' N9' =>
      tyS (asB v9') fun b10' =>
      A79_2 x1 b10' N9' Q) (
     A79_2 x1 false M Q)) :
    A79_1 x1 x11 M Q :=
  LvP.mk (cuts := K79) (sp := Z79) 900 H fun G => by kernel_rfl
theorem w79_2 {x1 : Option Addr} {x16 : Bool} {M : Mem} {Q : Value → Mem → Prop} (H :
    cnd x16 (
     adS x1 fun a11' =>
     onS (M.intAt .i64 a11'.block (a11'.off + 3)) fun x12' =>
     Cn Try.prog 55 #[.int .i64 x12', .int .i64 0, .int .i64 3] M fun v13' N13' =>
      tyS (asB v13') fun b14' =>
      Q (.bool b14') N13') (
     Q (.bool false) M)) :
    A79_2 x1 x16 M Q :=
  LvP.mk (cuts := K79) (sp := Z79) 900 H fun G => by kernel_rfl
end Go.Zt
