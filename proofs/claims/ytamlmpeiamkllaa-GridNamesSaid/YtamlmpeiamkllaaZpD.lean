/- The functions' walks: for each function and each loop a rule of what it comes to. Printed by zw2.py. -/
import Derived.Test.YtamlmpeiamkllaaProg
import Derived.Test.YtamlmpeiamkllaaZpA
import Derived.Test.YtamlmpeiamkllaaZrT
set_option linter.unusedVariables false
set_option maxRecDepth 100000
namespace Go.Zt
open Go Go.Sim Go.Proofs

def tyZpD0 : List Sc := [.int .i64, .int .i64, .int .i64, .int .i64, .bool, .bool, .int .i64, .int .i64, .int .i64, .int .i64, .int .i64, .int .i64, .int .i64, .bool, .int .i64, .int .i64, .int .i64, .int .i64, .int .i64, .int .i64, .int .i64, .int .i64, .bool]
/-! ### (*zoetrope/grid.Grid).Put: function 9 -/
def K9 : List (List It × List Nat) := [([.rg [1,0,0,1,1,0] 11, .code [1,0,0,1,1,1], .blk 0, .code [1,1]], [0, 3, 26]), ([.rg [1,0,0,1,1,0] 17, .code [1,0,0,1,1,1], .blk 0, .code [1,1]], [0, 3, 32]), ([.rg [1,0,0,1,1,0] 23, .code [1,0,0,1,1,1], .blk 0, .code [1,1]], [0, 3, 38]), ([.rg [1,0,0,1,1,0] 32, .code [1,0,0,1,1,1], .blk 0, .code [1,1]], [0, 3, 47]), ([.code [1,0,0,1,1,1], .blk 0, .code [1,1]], [0, 3, 15]), ([.code [1,1,1,0,1,0,0], .lp [1,1,1,0,1,0,0], .blk 1, .code [1,1,1,1]], [0, 3, 5, 6]), ([.code [1,1,1,0,1,0,0,1,0,0,1,0,0], .lp [1,1,1,0,1,0,0,1,0,0,1,0,0], .blk 3, .blk 2, .code [1,1,1,0,1,0,0,1,1], .lp [1,1,1,0,1,0,0], .blk 1, .code [1,1,1,1]], [0, 3, 5, 6, 7]), ([.code [1,1,1,1,0,1,0,0], .lp [1,1,1,1,0,1,0,0], .blk 5, .code [1,1,1,1,1]], [0, 3, 104, 105, 106])]
def Z9 : List (List Nat × List Nat) := [([1,0,0,1,1,0], [11, 17, 23, 32, 49])]
theorem b9 : Try.prog.funcs[9]? = some Try.f9 ∧ (Orc.tab Try.prog).lookup 9 = none ∧ Try.f9.body = some (codeOf Try.f9) := ⟨by kernel_rfl, by kernel_rfl, by kernel_rfl⟩
def A9_1 (x0 x3 : Option Addr) (x26 : Bool) (M : Mem) (Q : Value → Mem → Prop) : Prop := LvP Try.prog Try.f9 [(0, .pointer x0), (3, .pointer x3), (26, .bool x26)] [.rg [1,0,0,1,1,0] 11, .code [1,0,0,1,1,1], .blk 0, .code [1,1]] M Q
def A9_2 (x0 x3 : Option Addr) (x32 : Bool) (M : Mem) (Q : Value → Mem → Prop) : Prop := LvP Try.prog Try.f9 [(0, .pointer x0), (3, .pointer x3), (32, .bool x32)] [.rg [1,0,0,1,1,0] 17, .code [1,0,0,1,1,1], .blk 0, .code [1,1]] M Q
def A9_3 (x0 x3 : Option Addr) (x38 : Bool) (M : Mem) (Q : Value → Mem → Prop) : Prop := LvP Try.prog Try.f9 [(0, .pointer x0), (3, .pointer x3), (38, .bool x38)] [.rg [1,0,0,1,1,0] 23, .code [1,0,0,1,1,1], .blk 0, .code [1,1]] M Q
def A9_4 (x0 x3 : Option Addr) (x47 : Bool) (M : Mem) (Q : Value → Mem → Prop) : Prop := LvP Try.prog Try.f9 [(0, .pointer x0), (3, .pointer x3), (47, .bool x47)] [.rg [1,0,0,1,1,0] 32, .code [1,0,0,1,1,1], .blk 0, .code [1,1]] M Q
def A9_5 (x0 x3 : Option Addr) (x15 : Bool) (M : Mem) (Q : Value → Mem → Prop) : Prop := LvP Try.prog Try.f9 [(0, .pointer x0), (3, .pointer x3), (15, .bool x15)] [.code [1,0,0,1,1,1], .blk 0, .code [1,1]] M Q
def A9_6 (x0 x3 Ax5 : Option Addr) (lx5 cx5 : Nat) (x6 : Int) (M : Mem) (Q : Value → Mem → Prop) : Prop := LvP Try.prog Try.f9 [(0, .pointer x0), (3, .pointer x3), (5, .slice Ax5 lx5 cx5), (6, .int .i64 x6)] [.code [1,1,1,0,1,0,0], .lp [1,1,1,0,1,0,0], .blk 1, .code [1,1,1,1]] M Q
def A9_7 (x0 x3 Ax5 : Option Addr) (lx5 cx5 : Nat) (x6 x7 : Int) (M : Mem) (Q : Value → Mem → Prop) : Prop := LvP Try.prog Try.f9 [(0, .pointer x0), (3, .pointer x3), (5, .slice Ax5 lx5 cx5), (6, .int .i64 x6), (7, .int .i64 x7)] [.code [1,1,1,0,1,0,0,1,0,0,1,0,0], .lp [1,1,1,0,1,0,0,1,0,0,1,0,0], .blk 3, .blk 2, .code [1,1,1,0,1,0,0,1,1], .lp [1,1,1,0,1,0,0], .blk 1, .code [1,1,1,1]] M Q
def A9_8 (x0 x3 Ax104 : Option Addr) (lx104 cx104 : Nat) (x105 x106 : Int) (M : Mem) (Q : Value → Mem → Prop) : Prop := LvP Try.prog Try.f9 [(0, .pointer x0), (3, .pointer x3), (104, .slice Ax104 lx104 cx104), (105, .int .i64 x105), (106, .int .i64 x106)] [.code [1,1,1,1,0,1,0,0], .lp [1,1,1,1,0,1,0,0], .blk 5, .code [1,1,1,1,1]] M Q
theorem w9_0 {x0 : Option Addr} {x1_0 x1_1 x1_2 x1_3 : Int} {x1_4 x1_5 : Bool} {x1_6 x1_7 x1_8 x1_9 x1_10 x1_11 x1_12 : Int} {x1_13 : Bool} {x1_14 x1_15 x1_16 x1_17 x1_18 x1_19 x1_20 x1_21 : Int} {x1_22 : Bool} {M : Mem} {Q : Value → Mem → Prop} (H :
    Cn Try.prog 24 #[.pointer x0] (M.new (.cells #[.int .i64 x1_0, .int .i64 x1_1, .int .i64 x1_2, .int .i64 x1_3, .bool x1_4, .bool x1_5, .int .i64 x1_6, .int .i64 x1_7, .int .i64 x1_8, .int .i64 x1_9, .int .i64 x1_10, .int .i64 x1_11, .int .i64 x1_12, .bool x1_13, .int .i64 x1_14, .int .i64 x1_15, .int .i64 x1_16, .int .i64 x1_17, .int .i64 x1_18, .int .i64 x1_19, .int .i64 x1_20, .int .i64 x1_21, .bool x1_22] 27)) fun v1' N1' =>
     tyS (asB v1') fun b2' =>
     cnd b2' (
      Q (.int .i64 1) N1') (
      onS (N1'.intAt .i64 (2 * M.nb.size) 0) fun x3' =>
      cnd ((x3'.tmod 8) != 0) (
       A9_1 x0 (some ⟨2 * M.nb.size, 0, none⟩) true N1' Q) (
       onS (N1'.intAt .i64 (2 * M.nb.size) (0 + 1)) fun x4' =>
       A9_1 x0 (some ⟨2 * M.nb.size, 0, none⟩) ((x4'.tmod 8) != 0) N1' Q))) :
    Cn Try.prog 9 #[.pointer x0, .agg #[.int .i64 x1_0, .int .i64 x1_1, .int .i64 x1_2, .int .i64 x1_3, .bool x1_4, .bool x1_5, .int .i64 x1_6, .int .i64 x1_7, .int .i64 x1_8, .int .i64 x1_9, .int .i64 x1_10, .int .i64 x1_11, .int .i64 x1_12, .bool x1_13, .int .i64 x1_14, .int .i64 x1_15, .int .i64 x1_16, .int .i64 x1_17, .int .i64 x1_18, .int .i64 x1_19, .int .i64 x1_20, .int .i64 x1_21, .bool x1_22]] M Q :=
  Cn.mk (cuts := K9) (sp := Z9) 900 b9 rfl rfl H fun G => by kernel_rfl

theorem w9_1 {x0 x3 : Option Addr} {x26 : Bool} {M : Mem} {Q : Value → Mem → Prop} (H :
    cnd x26 (
     A9_2 x0 x3 true M Q) (
     adS x3 fun a5' =>
     onS (M.intAt .i64 a5'.block (a5'.off + 2)) fun x6' =>
     Cn Try.prog 25 #[.int .i64 x6'] M fun v7' N7' =>
      tyS (asB v7') fun b8' =>
      A9_2 x0 x3 (!b8') N7' Q)) :
    A9_1 x0 x3 x26 M Q :=
  LvP.mk (cuts := K9) (sp := Z9) 900 H fun G => by kernel_rfl

theorem w9_2 {x0 x3 : Option Addr} {x32 : Bool} {M : Mem} {Q : Value → Mem → Prop} (H :
    cnd x32 (
     A9_3 x0 x3 true M Q) (
     adS x3 fun a9' =>
     onS (M.intAt .i64 a9'.block (a9'.off + 3)) fun x10' =>
     Cn Try.prog 25 #[.int .i64 x10'] M fun v11' N11' =>
      tyS (asB v11') fun b12' =>
      A9_3 x0 x3 (!b12') N11' Q)) :
    A9_2 x0 x3 x32 M Q :=
  LvP.mk (cuts := K9) (sp := Z9) 900 H fun G => by kernel_rfl

theorem w9_3 {x0 x3 : Option Addr} {x38 : Bool} {M : Mem} {Q : Value → Mem → Prop} (H :
    cnd x38 (
     A9_4 x0 x3 true M Q) (
     adS x3 fun a13' =>
     onS (M.intAt .i64 a13'.block a13'.off) fun x14' =>
     adS x3 fun a15' =>
     onS (M.intAt .i64 a15'.block (a15'.off + 1)) fun x16' =>
     Cn Try.prog 26 #[.pointer x0, .int .i64 x14', .int .i64 x16'] M fun v17' N17' =>
      tyS (asB v17') fun b18' =>
      A9_4 x0 x3 (!b18') N17' Q)) :
    A9_3 x0 x3 x38 M Q :=
  LvP.mk (cuts := K9) (sp := Z9) 900 H fun G => by kernel_rfl

theorem w9_4 {x0 x3 : Option Addr} {x47 : Bool} {M : Mem} {Q : Value → Mem → Prop} (H :
    cnd x47 (
     A9_5 x0 x3 true M Q) (
     adS x3 fun a19' =>
     onS (M.intAt .i64 a19'.block a19'.off) fun x20' =>
     adS x3 fun a21' =>
     onS (M.intAt .i64 a21'.block (a21'.off + 2)) fun x22' =>
     adS x3 fun a23' =>
     onS (M.intAt .i64 a23'.block (a23'.off + 1)) fun x24' =>
     adS x3 fun a25' =>
     onS (M.intAt .i64 a25'.block (a25'.off + 3)) fun x26' =>
     Cn Try.prog 26 #[.pointer x0, .int .i64 (IntKind.i64.wrap ((IntKind.i64.wrap (x20' + x22')) - 1)), .int .i64 (IntKind.i64.wrap ((IntKind.i64.wrap (x24' + x26')) - 1))] M fun v27' N27' =>
      tyS (asB v27') fun b28' =>
      A9_5 x0 x3 (!b28') N27' Q)) :
    A9_4 x0 x3 x47 M Q :=
  LvP.mk (cuts := K9) (sp := Z9) 900 H fun G => by kernel_rfl

theorem w9_5 {x0 x3 : Option Addr} {x15 : Bool} {M : Mem} {Q : Value → Mem → Prop} (H :
    cnd x15 (
     Q (.int .i64 2) M) (
     adS x3 fun a29' =>
     onS (M.intAt .i64 a29'.block (a29'.off + 1)) fun x30' =>
     A9_6 x0 x3 none 0 0 x30' M Q)) :
    A9_5 x0 x3 x15 M Q :=
  LvP.mk (cuts := K9) (sp := Z9) 900 H fun G => by kernel_rfl

theorem w9_6 {x0 x3 Ax5 : Option Addr} {lx5 cx5 : Nat} {x6 : Int} {M : Mem} {Q : Value → Mem → Prop} (H :
    adS x3 fun a31' =>
    onS (M.intAt .i64 a31'.block (a31'.off + 1)) fun x32' =>
    adS x3 fun a33' =>
    onS (M.intAt .i64 a33'.block (a33'.off + 3)) fun x34' =>
    cnd (decide (x6 < (IntKind.i64.wrap (x32' + x34')))) (
     adS x3 fun a35' =>
     onS (M.intAt .i64 a35'.block a35'.off) fun x36' =>
     A9_7 x0 x3 Ax5 lx5 cx5 x6 x36' M Q) (
     A9_8 x0 x3 Ax5 lx5 cx5 (lx5 : Int) 0 M Q)) :
    A9_6 x0 x3 Ax5 lx5 cx5 x6 M Q :=
  LvP.mk (cuts := K9) (sp := Z9) 900 H fun G => by kernel_rfl

theorem w9_7 {x0 x3 Ax5 : Option Addr} {lx5 cx5 : Nat} {x6 x7 : Int} {M : Mem} {Q : Value → Mem → Prop} (H :
    adS x3 fun a37' =>
    onS (M.intAt .i64 a37'.block a37'.off) fun x38' =>
    adS x3 fun a39' =>
    onS (M.intAt .i64 a39'.block (a39'.off + 2)) fun x40' =>
    cnd (decide (x7 < (IntKind.i64.wrap (x38' + x40')))) (
     adS x0 fun a41' =>
     onS (M.cell a41'.block (a41'.off + 6)) fun v42' =>
     cnd (decide (M.floor ≤ M.nb.size)) (
     Cn Try.prog 27 #[.int .i64 x7, .int .i64 x6] M fun v43' N43' =>
      cnd (sameB M N43' a41'.block) (
      tyS (asA 2 v43') fun cs44' =>
      tyS (asI .i64 (cs44'.getD 0 undef)) fun x45' =>
      tyS (asI .i64 (cs44'.getD 1 undef)) fun x46' =>
      meS (lookupV Try.prog 61 v42' (.agg #[.int .i64 x45', .int .i64 x46']) true N43') fun r47' =>
      tyS (asU 2 r47'.1) fun cs48' =>
      tyS (asI .i64 (cs48'.getD 0 undef)) fun x49' =>
      tyS (asB (cs48'.getD 1 undef)) fun b50' =>
      cnd b50' (
       Q (.int .i64 2) r47'.2) (
       Cn Try.prog 27 #[.int .i64 x7, .int .i64 x6] r47'.2 fun v51' N51' =>
        tyS (asA 2 v51') fun cs52' =>
        tyS (asI .i64 (cs52'.getD 0 undef)) fun x53' =>
        tyS (asI .i64 (cs52'.getD 1 undef)) fun x54' =>
        meS (appendP Try.prog #[69, 69] (.slice Ax5 lx5 cx5) (.slice (some ⟨2 * N51'.nb.size, 0, none⟩) 1 1) (N51'.new (.cells #[.int .i64 x53', .int .i64 x54'] 72))) fun r55' =>
        tyS (asS r55'.1) fun s56' =>
        A9_7 x0 x3 s56'.1 s56'.2.1 s56'.2.2 x6 (IntKind.i64.wrap (x7 + 8)) r55'.2 Q)) (
      False)) (
     False)) (
     A9_6 x0 x3 Ax5 lx5 cx5 (IntKind.i64.wrap (x6 + 8)) M Q)) :
    A9_7 x0 x3 Ax5 lx5 cx5 x6 x7 M Q :=
  LvP.mk (cuts := K9) (sp := Z9) 900 H fun G => by kernel_rfl

theorem w9_8 {x0 x3 Ax104 : Option Addr} {lx104 cx104 : Nat} {x105 x106 : Int} {M : Mem} {Q : Value → Mem → Prop} (H :
    cnd (decide (x106 < x105)) (
     ixS (idxA Ax104 lx104 2 x106) fun a57' =>
     onS (M.intAt .i64 a57'.block a57'.off) fun x58' =>
     onS (M.intAt .i64 a57'.block (a57'.off + 1)) fun x59' =>
     stP (some 2) #[.int .i64 x58', .int .i64 x59'] (M.new (.cells #[.int .i64 0, .int .i64 0] 72)) (2 * M.nb.size) 0 fun M60' =>
     adS x0 fun a61' =>
     onS (M60'.cell a61'.block (a61'.off + 6)) fun v62' =>
     onS (M60'.intAt .i64 (2 * M.nb.size) 0) fun x63' =>
     onS (M60'.intAt .i64 (2 * M.nb.size) (0 + 1)) fun x64' =>
     adS x0 fun a65' =>
     onS (M60'.slAt a65'.block (a65'.off + 5)) fun s66' =>
     meS (mapPutV Try.prog 61 v62' (.agg #[.int .i64 x63', .int .i64 x64']) (.int .i64 ((s66'.2.1 : Int))) M60') fun r67' =>
     A9_8 x0 x3 Ax104 lx104 cx104 x105 (IntKind.i64.wrap (x106 + 1)) r67'.2 Q) (
     adS x0 fun a68' =>
     onS (M.slAt a68'.block (a68'.off + 5)) fun s69' =>
     adS x3 fun a70' =>
     onS (M.intAt .i64 a70'.block a70'.off) fun x71' =>
     onS (M.intAt .i64 a70'.block (a70'.off + 1)) fun x72' =>
     onS (M.intAt .i64 a70'.block (a70'.off + 2)) fun x73' =>
     onS (M.intAt .i64 a70'.block (a70'.off + 3)) fun x74' =>
     onS (M.boolAt a70'.block (a70'.off + 4)) fun b75' =>
     onS (M.boolAt a70'.block (a70'.off + 5)) fun b76' =>
     onS (M.intAt .i64 a70'.block (a70'.off + 6)) fun x77' =>
     onS (M.intAt .i64 a70'.block (a70'.off + 7)) fun x78' =>
     onS (M.intAt .i64 a70'.block (a70'.off + 8)) fun x79' =>
     onS (M.intAt .i64 a70'.block (a70'.off + 9)) fun x80' =>
     onS (M.intAt .i64 a70'.block (a70'.off + 10)) fun x81' =>
     onS (M.intAt .i64 a70'.block (a70'.off + 11)) fun x82' =>
     onS (M.intAt .i64 a70'.block (a70'.off + 12)) fun x83' =>
     onS (M.boolAt a70'.block (a70'.off + 13)) fun b84' =>
     onS (M.intAt .i64 a70'.block (a70'.off + 14)) fun x85' =>
     onS (M.intAt .i64 a70'.block (a70'.off + 15)) fun x86' =>
     onS (M.intAt .i64 a70'.block (a70'.off + 16)) fun x87' =>
     onS (M.intAt .i64 a70'.block (a70'.off + 17)) fun x88' =>
     onS (M.intAt .i64 a70'.block (a70'.off + 18)) fun x89' =>
     onS (M.intAt .i64 a70'.block (a70'.off + 19)) fun x90' =>
     onS (M.intAt .i64 a70'.block (a70'.off + 20)) fun x91' =>
     onS (M.intAt .i64 a70'.block (a70'.off + 21)) fun x92' =>
     onS (M.boolAt a70'.block (a70'.off + 22)) fun b93' =>
     meS (appendP Try.prog #[43, 43] (.slice s69'.1 (s69'.2.1) (s69'.2.2)) (.slice (some ⟨2 * M.nb.size, 0, none⟩) 1 1) (M.new (.cells #[.int .i64 x71', .int .i64 x72', .int .i64 x73', .int .i64 x74', .bool b75', .bool b76', .int .i64 x77', .int .i64 x78', .int .i64 x79', .int .i64 x80', .int .i64 x81', .int .i64 x82', .int .i64 x83', .bool b84', .int .i64 x85', .int .i64 x86', .int .i64 x87', .int .i64 x88', .int .i64 x89', .int .i64 x90', .int .i64 x91', .int .i64 x92', .bool b93'] 27))) fun r94' =>
     tyS (asS r94'.1) fun s95' =>
     adS x0 fun a96' =>
     ptS (r94'.2.put a96'.block (a96'.off + 5) (.slice s95'.1 (s95'.2.1) (s95'.2.2))) fun M97' =>
     Q (.int .i64 0) M97')) :
    A9_8 x0 x3 Ax104 lx104 cx104 x105 x106 M Q :=
  LvP.mk (cuts := K9) (sp := Z9) 900 H fun G => by kernel_rfl


/-! ### (*zoetrope/grid.Grid).Part: function 21 -/
def K21 : List (List It × List Nat) := [([.rg [1,0,0,1,1,0] 7, .code [1,0,0,1,1,1], .blk 0, .code [1,1]], [0, 1, 2, 3, 25]), ([.rg [1,0,0,1,1,0] 11, .code [1,0,0,1,1,1], .blk 0, .code [1,1]], [0, 1, 2, 3, 29]), ([.rg [1,0,0,1,1,0] 17, .code [1,0,0,1,1,1], .blk 0, .code [1,1]], [0, 1, 2, 3, 35]), ([.rg [1,0,0,1,1,0] 23, .code [1,0,0,1,1,1], .blk 0, .code [1,1]], [0, 1, 2, 3, 41]), ([.code [1,0,0,1,1,1], .blk 0, .code [1,1]], [0, 1, 2, 3, 18]), ([.code [1,1,1,0,1,1], .code [1,1,1,1]], [0, 1, 2, 3, 10, 62]), ([.code [1,1,1,1,0,1,1], .code [1,1,1,1,1]], [10, 79])]
def Z21 : List (List Nat × List Nat) := [([1,0,0,1,1,0], [7, 11, 17, 23, 30])]
theorem b21 : Try.prog.funcs[21]? = some Try.f21 ∧ (Orc.tab Try.prog).lookup 21 = none ∧ Try.f21.body = some (codeOf Try.f21) := ⟨by kernel_rfl, by kernel_rfl, by kernel_rfl⟩
def A21_1 (x0 : Option Addr) (x1 x2 x3 : Int) (x25 : Bool) (M : Mem) (Q : Value → Mem → Prop) : Prop := LvP Try.prog Try.f21 [(0, .pointer x0), (1, .int .i64 x1), (2, .int .i64 x2), (3, .int .i64 x3), (25, .bool x25)] [.rg [1,0,0,1,1,0] 7, .code [1,0,0,1,1,1], .blk 0, .code [1,1]] M Q
def A21_2 (x0 : Option Addr) (x1 x2 x3 : Int) (x29 : Bool) (M : Mem) (Q : Value → Mem → Prop) : Prop := LvP Try.prog Try.f21 [(0, .pointer x0), (1, .int .i64 x1), (2, .int .i64 x2), (3, .int .i64 x3), (29, .bool x29)] [.rg [1,0,0,1,1,0] 11, .code [1,0,0,1,1,1], .blk 0, .code [1,1]] M Q
def A21_3 (x0 : Option Addr) (x1 x2 x3 : Int) (x35 : Bool) (M : Mem) (Q : Value → Mem → Prop) : Prop := LvP Try.prog Try.f21 [(0, .pointer x0), (1, .int .i64 x1), (2, .int .i64 x2), (3, .int .i64 x3), (35, .bool x35)] [.rg [1,0,0,1,1,0] 17, .code [1,0,0,1,1,1], .blk 0, .code [1,1]] M Q
def A21_4 (x0 : Option Addr) (x1 x2 x3 : Int) (x41 : Bool) (M : Mem) (Q : Value → Mem → Prop) : Prop := LvP Try.prog Try.f21 [(0, .pointer x0), (1, .int .i64 x1), (2, .int .i64 x2), (3, .int .i64 x3), (41, .bool x41)] [.rg [1,0,0,1,1,0] 23, .code [1,0,0,1,1,1], .blk 0, .code [1,1]] M Q
def A21_5 (x0 : Option Addr) (x1 x2 x3 : Int) (x18 : Bool) (M : Mem) (Q : Value → Mem → Prop) : Prop := LvP Try.prog Try.f21 [(0, .pointer x0), (1, .int .i64 x1), (2, .int .i64 x2), (3, .int .i64 x3), (18, .bool x18)] [.code [1,0,0,1,1,1], .blk 0, .code [1,1]] M Q
def A21_6 (x0 : Option Addr) (x1 x2 x3 x10 : Int) (x62 : Bool) (M : Mem) (Q : Value → Mem → Prop) : Prop := LvP Try.prog Try.f21 [(0, .pointer x0), (1, .int .i64 x1), (2, .int .i64 x2), (3, .int .i64 x3), (10, .int .i64 x10), (62, .bool x62)] [.code [1,1,1,0,1,1], .code [1,1,1,1]] M Q
def A21_7 (x10 : Int) (x79 : Bool) (M : Mem) (Q : Value → Mem → Prop) : Prop := LvP Try.prog Try.f21 [(10, .int .i64 x10), (79, .bool x79)] [.code [1,1,1,1,0,1,1], .code [1,1,1,1,1]] M Q
theorem w21_0 {x0 : Option Addr} {x1 x2 x3 : Int} {M : Mem} {Q : Value → Mem → Prop} (H :
    Cn Try.prog 24 #[.pointer x0] M fun v1' N1' =>
     tyS (asB v1') fun b2' =>
     cnd b2' (
      Q (.tuple #[.int .i64 0, .int .i64 1]) N1') (
      cnd (x3 != 64) (
       A21_1 x0 x1 x2 x3 (x3 != 32) N1' Q) (
       A21_1 x0 x1 x2 x3 false N1' Q))) :
    Cn Try.prog 21 #[.pointer x0, .int .i64 x1, .int .i64 x2, .int .i64 x3] M Q :=
  Cn.mk (cuts := K21) (sp := Z21) 900 b21 rfl rfl H fun G => by kernel_rfl

theorem w21_1 {x0 : Option Addr} {x1 x2 x3 : Int} {x25 : Bool} {M : Mem} {Q : Value → Mem → Prop} (H :
    cnd x25 (
     A21_2 x0 x1 x2 x3 (x3 != 16) M Q) (
     A21_2 x0 x1 x2 x3 false M Q)) :
    A21_1 x0 x1 x2 x3 x25 M Q :=
  LvP.mk (cuts := K21) (sp := Z21) 900 H fun G => by kernel_rfl

theorem w21_2 {x0 : Option Addr} {x1 x2 x3 : Int} {x29 : Bool} {M : Mem} {Q : Value → Mem → Prop} (H :
    cnd x29 (
     A21_3 x0 x1 x2 x3 true M Q) (
     puS (binV Try.prog .rem 3 3 (.int .i64 x1) (.int .i64 x3)) fun v3' =>
     tyS (asI .i64 v3') fun x4' =>
     A21_3 x0 x1 x2 x3 (x4' != 0) M Q)) :
    A21_2 x0 x1 x2 x3 x29 M Q :=
  LvP.mk (cuts := K21) (sp := Z21) 900 H fun G => by kernel_rfl

theorem w21_3 {x0 : Option Addr} {x1 x2 x3 : Int} {x35 : Bool} {M : Mem} {Q : Value → Mem → Prop} (H :
    cnd x35 (
     A21_4 x0 x1 x2 x3 true M Q) (
     puS (binV Try.prog .rem 3 3 (.int .i64 x2) (.int .i64 x3)) fun v5' =>
     tyS (asI .i64 v5') fun x6' =>
     A21_4 x0 x1 x2 x3 (x6' != 0) M Q)) :
    A21_3 x0 x1 x2 x3 x35 M Q :=
  LvP.mk (cuts := K21) (sp := Z21) 900 H fun G => by kernel_rfl

theorem w21_4 {x0 : Option Addr} {x1 x2 x3 : Int} {x41 : Bool} {M : Mem} {Q : Value → Mem → Prop} (H :
    cnd x41 (
     A21_5 x0 x1 x2 x3 true M Q) (
     Cn Try.prog 26 #[.pointer x0, .int .i64 x1, .int .i64 x2] M fun v7' N7' =>
      tyS (asB v7') fun b8' =>
      A21_5 x0 x1 x2 x3 (!b8') N7' Q)) :
    A21_4 x0 x1 x2 x3 x41 M Q :=
  LvP.mk (cuts := K21) (sp := Z21) 900 H fun G => by kernel_rfl

theorem w21_5 {x0 : Option Addr} {x1 x2 x3 : Int} {x18 : Bool} {M : Mem} {Q : Value → Mem → Prop} (H :
    cnd x18 (
     Q (.tuple #[.int .i64 0, .int .i64 2]) M) (
     Cn Try.prog 14 #[.pointer x0, .int .i64 x1, .int .i64 (IntKind.i64.wrap (x2 - 1))] M fun v9' N9' =>
      tyS (asU 2 v9') fun cs10' =>
      tyS (asA 23 (cs10'.getD 0 undef)) fun cs11' =>
      asCellsP tyZpD0 0 cs11' fun vs12' =>
      tyS (asB (cs10'.getD 1 undef)) fun b13' =>
      tyS (asA 23 (.agg vs12'.toArray)) fun cs14' =>
      asCellsP tyZpD0 0 cs14' fun vs15' =>
      stP (some 23) vs15'.toArray (N9'.new (.cells #[.int .i64 0, .int .i64 0, .int .i64 0, .int .i64 0, .bool false, .bool false, .int .i64 0, .int .i64 0, .int .i64 0, .int .i64 0, .int .i64 0, .int .i64 0, .int .i64 0, .bool false, .int .i64 0, .int .i64 0, .int .i64 0, .int .i64 0, .int .i64 0, .int .i64 0, .int .i64 0, .int .i64 0, .bool false] 27)) (2 * N9'.nb.size) 0 fun M16' =>
      cnd b13' (
       onS (M16'.intAt .i64 (2 * N9'.nb.size) (0 + 2)) fun x17' =>
       A21_6 x0 x1 x2 x3 0 (decide (x17' < x3)) M16' Q) (
       A21_6 x0 x1 x2 x3 0 false M16' Q))) :
    A21_5 x0 x1 x2 x3 x18 M Q :=
  LvP.mk (cuts := K21) (sp := Z21) 900 H fun G => by kernel_rfl

theorem w21_6 {x0 : Option Addr} {x1 x2 x3 x10 : Int} {x62 : Bool} {M : Mem} {Q : Value → Mem → Prop} (H :
    cnd x62 (
     Cn Try.prog 14 #[.pointer x0, .int .i64 (IntKind.i64.wrap (x1 - 1)), .int .i64 x2] M fun v18' N18' =>
      tyS (asU 2 v18') fun cs19' =>
      tyS (asA 23 (cs19'.getD 0 undef)) fun cs20' =>
      asCellsP tyZpD0 0 cs20' fun vs21' =>
      tyS (asB (cs19'.getD 1 undef)) fun b22' =>
      tyS (asA 23 (.agg vs21'.toArray)) fun cs23' =>
      asCellsP tyZpD0 0 cs23' fun vs24' =>
      stP (some 23) vs24'.toArray (N18'.new (.cells #[.int .i64 0, .int .i64 0, .int .i64 0, .int .i64 0, .bool false, .bool false, .int .i64 0, .int .i64 0, .int .i64 0, .int .i64 0, .int .i64 0, .int .i64 0, .int .i64 0, .bool false, .int .i64 0, .int .i64 0, .int .i64 0, .int .i64 0, .int .i64 0, .int .i64 0, .int .i64 0, .int .i64 0, .bool false] 27)) (2 * N18'.nb.size) 0 fun M25' =>
      cnd b22' (
       onS (M25'.intAt .i64 (2 * N18'.nb.size) (0 + 3)) fun x26' =>
       A21_7 (IntKind.i64.wrap (x10 + 1)) (decide (x26' < x3)) M25' Q) (
       A21_7 (IntKind.i64.wrap (x10 + 1)) false M25' Q)) (
     Cn Try.prog 14 #[.pointer x0, .int .i64 (IntKind.i64.wrap (x1 - 1)), .int .i64 x2] M fun v27' N27' =>
      tyS (asU 2 v27') fun cs28' =>
      tyS (asA 23 (cs28'.getD 0 undef)) fun cs29' =>
      asCellsP tyZpD0 0 cs29' fun vs30' =>
      tyS (asB (cs28'.getD 1 undef)) fun b31' =>
      tyS (asA 23 (.agg vs30'.toArray)) fun cs32' =>
      asCellsP tyZpD0 0 cs32' fun vs33' =>
      stP (some 23) vs33'.toArray (N27'.new (.cells #[.int .i64 0, .int .i64 0, .int .i64 0, .int .i64 0, .bool false, .bool false, .int .i64 0, .int .i64 0, .int .i64 0, .int .i64 0, .int .i64 0, .int .i64 0, .int .i64 0, .bool false, .int .i64 0, .int .i64 0, .int .i64 0, .int .i64 0, .int .i64 0, .int .i64 0, .int .i64 0, .int .i64 0, .bool false] 27)) (2 * N27'.nb.size) 0 fun M34' =>
      cnd b31' (
       onS (M34'.intAt .i64 (2 * N27'.nb.size) (0 + 3)) fun x35' =>
       A21_7 x10 (decide (x35' < x3)) M34' Q) (
       A21_7 x10 false M34' Q))) :
    A21_6 x0 x1 x2 x3 x10 x62 M Q :=
  LvP.mk (cuts := K21) (sp := Z21) 900 H fun G => by kernel_rfl

theorem w21_7 {x10 : Int} {x79 : Bool} {M : Mem} {Q : Value → Mem → Prop} (H :
    cnd x79 (
     Q (.tuple #[.int .i64 (IntKind.i64.wrap (x10 + 2)), .int .i64 0]) M) (
     Q (.tuple #[.int .i64 x10, .int .i64 0]) M)) :
    A21_7 x10 x79 M Q :=
  LvP.mk (cuts := K21) (sp := Z21) 900 H fun G => by kernel_rfl


end Go.Zt
