/- The functions' walks: for each function and each loop a rule of what it comes to. Printed by zw2.py. -/
import Derived.Test.YtgepgbblmodagaaProg
import Derived.Test.YtgepgbblmodagaaZkA
import Derived.Test.YtgepgbblmodagaaZqT
set_option linter.unusedVariables false
set_option maxRecDepth 100000
namespace Go.Zt
open Go Go.Sim Go.Proofs
def tyZlE0 : List Sc := [.bool, .int .i64, .bool, .bool, .int .i64, .int .i64, .int .i64, .int .i64, .int .i64, .int .i64, .int .i64, .int .i64, .int .i64, .int .i64, .int .i64, .int .i64, .int .i64, .bool, .int .i64, .int .i64, .int .i64, .int .i64, .int .i64, .bool, .int .i64, .int .i64, .sl, .bool, .bool, .bool]
def K25 : List (List It × List Nat) := [([.code [1,1,1,1,1,1,1,0,1,0,0,1,0,0], .lp [1,1,1,1,1,1,1,0,1,0,0,1,0,0], .blk 0, .code [1,1,1,1,1,1,1,0,1,0,1], .code [1,1,1,1,1,1,1,1]], [0, 4, 8]), ([.code [1,1,1,1,1,1,1,1,1,0,1,0,0], .lp [1,1,1,1,1,1,1,1,1,0,1,0,0], .blk 2, .code [1,1,1,1,1,1,1,1,1,1]], [0, 4, 9]), ([.code [1,1,1,1,1,1,1,1,1,0,1,0,0,1,1], .lp [1,1,1,1,1,1,1,1,1,0,1,0,0], .blk 2, .code [1,1,1,1,1,1,1,1,1,1]], [0, 4, 9]), ([.code [1,1,1,1,1,1,1,1,1,1,1,1,1,1,0,1,0,0], .lp [1,1,1,1,1,1,1,1,1,1,1,1,1,1,0,1,0,0], .blk 4, .code [1,1,1,1,1,1,1,1,1,1,1,1,1,1,1]], [0, 4, 10]), ([.code [1,1,1,1,1,1,1,1,1,1,1,1,1,1,1,1,1,0,1,0,1,1,1,0,0], .lp [1,1,1,1,1,1,1,1,1,1,1,1,1,1,1,1,1,0,1,0,1,1,1,0,0], .blk 6, .code [1,1,1,1,1,1,1,1,1,1,1,1,1,1,1,1,1,1]], [0, 4, 11]), ([.code [1,1,1,1,1,1,1,1,1,1,1,1,1,1,1,1,1,1,0,1,0,0], .lp [1,1,1,1,1,1,1,1,1,1,1,1,1,1,1,1,1,1,0,1,0,0], .blk 8, .code [1,1,1,1,1,1,1,1,1,1,1,1,1,1,1,1,1,1,1]], [0, 4, 12])]
def Z25 : List (List Nat × List Nat) := []
theorem b25 : Try.prog.funcs[25]? = some Try.f25 ∧ (Orc.tab Try.prog).lookup 25 = none ∧ Try.f25.body = some (codeOf Try.f25) := ⟨by kernel_rfl, by kernel_rfl, by kernel_rfl⟩
def A25_1 (x0 x4 : Option Addr) (x8 : Int) (M : Mem) (Q : Value → Mem → Prop) : Prop := LvP Try.prog Try.f25 [(0, .pointer x0), (4, .pointer x4), (8, .int .i64 x8)] [.code [1,1,1,1,1,1,1,0,1,0,0,1,0,0], .lp [1,1,1,1,1,1,1,0,1,0,0,1,0,0], .blk 0, .code [1,1,1,1,1,1,1,0,1,0,1], .code [1,1,1,1,1,1,1,1]] M Q
def A25_2 (x0 x4 : Option Addr) (x9 : Int) (M : Mem) (Q : Value → Mem → Prop) : Prop := LvP Try.prog Try.f25 [(0, .pointer x0), (4, .pointer x4), (9, .int .i64 x9)] [.code [1,1,1,1,1,1,1,1,1,0,1,0,0], .lp [1,1,1,1,1,1,1,1,1,0,1,0,0], .blk 2, .code [1,1,1,1,1,1,1,1,1,1]] M Q
def A25_3 (x0 x4 : Option Addr) (x9 : Int) (M : Mem) (Q : Value → Mem → Prop) : Prop := LvP Try.prog Try.f25 [(0, .pointer x0), (4, .pointer x4), (9, .int .i64 x9)] [.code [1,1,1,1,1,1,1,1,1,0,1,0,0,1,1], .lp [1,1,1,1,1,1,1,1,1,0,1,0,0], .blk 2, .code [1,1,1,1,1,1,1,1,1,1]] M Q
def A25_4 (x0 x4 : Option Addr) (x10 : Int) (M : Mem) (Q : Value → Mem → Prop) : Prop := LvP Try.prog Try.f25 [(0, .pointer x0), (4, .pointer x4), (10, .int .i64 x10)] [.code [1,1,1,1,1,1,1,1,1,1,1,1,1,1,0,1,0,0], .lp [1,1,1,1,1,1,1,1,1,1,1,1,1,1,0,1,0,0], .blk 4, .code [1,1,1,1,1,1,1,1,1,1,1,1,1,1,1]] M Q
def A25_5 (x0 x4 : Option Addr) (x11 : Int) (M : Mem) (Q : Value → Mem → Prop) : Prop := LvP Try.prog Try.f25 [(0, .pointer x0), (4, .pointer x4), (11, .int .i64 x11)] [.code [1,1,1,1,1,1,1,1,1,1,1,1,1,1,1,1,1,0,1,0,1,1,1,0,0], .lp [1,1,1,1,1,1,1,1,1,1,1,1,1,1,1,1,1,0,1,0,1,1,1,0,0], .blk 6, .code [1,1,1,1,1,1,1,1,1,1,1,1,1,1,1,1,1,1]] M Q
def A25_6 (x0 x4 : Option Addr) (x12 : Int) (M : Mem) (Q : Value → Mem → Prop) : Prop := LvP Try.prog Try.f25 [(0, .pointer x0), (4, .pointer x4), (12, .int .i64 x12)] [.code [1,1,1,1,1,1,1,1,1,1,1,1,1,1,1,1,1,1,0,1,0,0], .lp [1,1,1,1,1,1,1,1,1,1,1,1,1,1,1,1,1,1,0,1,0,0], .blk 8, .code [1,1,1,1,1,1,1,1,1,1,1,1,1,1,1,1,1,1,1]] M Q
theorem w25_0 {x0 : Option Addr} {x1 : Array Value} {x2_0 x2_1 : Int} {M : Mem} {Q : Value → Mem → Prop} (H :
    ldP tyZlE0 ((M.new (.cells x1 41)).new (.cells #[.int .i64 x2_0, .int .i64 x2_1] 23)) (2 * M.nb.size) 0 fun vs1' =>
    onS (((M.new (.cells x1 41)).new (.cells #[.int .i64 x2_0, .int .i64 x2_1] 23)).intAt .i64 (2 * (M.new (.cells x1 41)).nb.size) 0) fun x2' =>
    onS (((M.new (.cells x1 41)).new (.cells #[.int .i64 x2_0, .int .i64 x2_1] 23)).intAt .i64 (2 * (M.new (.cells x1 41)).nb.size) (0 + 1)) fun x3' =>
    Cn Try.prog 27 #[.agg vs1'.toArray, .agg #[.int .i64 x2', .int .i64 x3']] ((M.new (.cells x1 41)).new (.cells #[.int .i64 x2_0, .int .i64 x2_1] 23)) fun v4' N4' =>
     tyS (asI .i64 v4') fun x5' =>
     cnd (x5' != 0) (
      Q (.int .i64 (x5')) N4') (
      onS (N4'.boolAt (2 * M.nb.size) 0) fun b6' =>
      Cn Try.prog 52 #[.bool b6'] N4' fun v7' N7' =>
       tyS (asI .i64 v7') fun x8' =>
       Cn Try.prog 51 #[.pointer x0, .int .i64 x8', .int .i64 1] N7' fun v9' N9' =>
        onS (N9'.boolAt (2 * M.nb.size) 0) fun b10' =>
        cnd b10' (
         onS (N9'.intAt .i64 (2 * M.nb.size) (0 + 1)) fun x11' =>
         Cn Try.prog 51 #[.pointer x0, .int .i64 x11', .int .i64 3] N9' fun v12' N12' =>
          Q (.int .i64 0) N12') (
         onS (N9'.boolAt (2 * M.nb.size) (0 + 2)) fun b13' =>
         Cn Try.prog 52 #[.bool b13'] N9' fun v14' N14' =>
          tyS (asI .i64 v14') fun x15' =>
          Cn Try.prog 51 #[.pointer x0, .int .i64 x15', .int .i64 1] N14' fun v16' N16' =>
           onS (N16'.boolAt (2 * M.nb.size) (0 + 3)) fun b17' =>
           Cn Try.prog 52 #[.bool b17'] N16' fun v18' N18' =>
            tyS (asI .i64 v18') fun x19' =>
            Cn Try.prog 51 #[.pointer x0, .int .i64 x19', .int .i64 1] N18' fun v20' N20' =>
             onS (N20'.intAt .i64 (2 * M.nb.size) (0 + 4)) fun x21' =>
             Cn Try.prog 51 #[.pointer x0, .int .i64 x21', .int .i64 8] N20' fun v22' N22' =>
              onS (N22'.boolAt (2 * M.nb.size) (0 + 3)) fun b23' =>
              cnd (!b23') (
               A25_1 x0 (some ⟨2 * M.nb.size, 0, none⟩) 0 N22' Q) (
               onS (N22'.intAt .i64 (2 * M.nb.size) (0 + 9)) fun x24' =>
               Cn Try.prog 51 #[.pointer x0, .int .i64 x24', .int .i64 8] N22' fun v25' N25' =>
                A25_2 x0 (some ⟨2 * M.nb.size, 0, none⟩) 0 N25' Q)))) :
    Cn Try.prog 25 #[.pointer x0, .agg x1, .agg #[.int .i64 x2_0, .int .i64 x2_1]] M Q :=
  Cn.mk (cuts := K25) (sp := Z25) 900 b25 rfl rfl H fun G => by kernel_rfl
theorem w25_1 {x0 x4 : Option Addr} {x8 : Int} {M : Mem} {Q : Value → Mem → Prop} (H :
    cnd (decide (x8 < 3)) (
     adS x4 fun a26' =>
     ixS (idxA (some ⟨a26'.block, a26'.off + 5, none⟩) 3 1 x8) fun a27' =>
     onS (M.intAt .i64 a27'.block a27'.off) fun x28' =>
     Cn Try.prog 51 #[.pointer x0, .int .i64 x28', .int .i64 3] M fun v29' N29' =>
      A25_1 x0 x4 (IntKind.i64.wrap (x8 + 1)) N29' Q) (
     adS x4 fun a30' =>
     onS (M.intAt .i64 a30'.block (a30'.off + 8)) fun x31' =>
     Cn Try.prog 52 #[.bool (decide (x31' ≥ 0))] M fun v32' N32' =>
      tyS (asI .i64 v32') fun x33' =>
      Cn Try.prog 51 #[.pointer x0, .int .i64 x33', .int .i64 1] N32' fun v34' N34' =>
       adS x4 fun a35' =>
       onS (N34'.intAt .i64 a35'.block (a35'.off + 8)) fun x36' =>
       cnd (decide (x36' ≥ 0)) (
        adS x4 fun a37' =>
        onS (N34'.intAt .i64 a37'.block (a37'.off + 8)) fun x38' =>
        Cn Try.prog 51 #[.pointer x0, .int .i64 x38', .int .i64 3] N34' fun v39' N39' =>
         adS x4 fun a40' =>
         onS (N39'.intAt .i64 a40'.block (a40'.off + 9)) fun x41' =>
         Cn Try.prog 51 #[.pointer x0, .int .i64 x41', .int .i64 8] N39' fun v42' N42' =>
          A25_2 x0 x4 0 N42' Q) (
        adS x4 fun a43' =>
        onS (N34'.intAt .i64 a43'.block (a43'.off + 9)) fun x44' =>
        Cn Try.prog 51 #[.pointer x0, .int .i64 x44', .int .i64 8] N34' fun v45' N45' =>
         A25_2 x0 x4 0 N45' Q))) :
    A25_1 x0 x4 x8 M Q :=
  LvP.mk (cuts := K25) (sp := Z25) 900 H fun G => by kernel_rfl
theorem w25_2 {x0 x4 : Option Addr} {x9 : Int} {M : Mem} {Q : Value → Mem → Prop} (H :
    cnd (decide (x9 < 5)) (
     adS x4 fun a46' =>
     ixS (idxA (some ⟨a46'.block, a46'.off + 10, none⟩) 5 1 x9) fun a47' =>
     onS (M.intAt .i64 a47'.block a47'.off) fun x48' =>
     Cn Try.prog 52 #[.bool (x48' != 0)] M fun v49' N49' =>
      tyS (asI .i64 v49') fun x50' =>
      Cn Try.prog 51 #[.pointer x0, .int .i64 x50', .int .i64 1] N49' fun v51' N51' =>
       adS x4 fun a52' =>
       ixS (idxA (some ⟨a52'.block, a52'.off + 10, none⟩) 5 1 x9) fun a53' =>
       onS (N51'.intAt .i64 a53'.block a53'.off) fun x54' =>
       cnd (x54' != 0) (
        adS x4 fun a55' =>
        ixS (idxA (some ⟨a55'.block, a55'.off + 10, none⟩) 5 1 x9) fun a56' =>
        onS (N51'.intAt .i64 a56'.block a56'.off) fun x57' =>
        Cn Try.prog 53 #[.pointer x0, .int .i32 (IntKind.i32.wrap (x57')), .int .i64 5] N51' fun v58' N58' =>
         tyS (asI .i64 v58') fun x59' =>
         A25_3 x0 x4 x9 N58' Q) (
        A25_3 x0 x4 x9 N51' Q)) (
     adS x4 fun a60' =>
     onS (M.intAt .i64 a60'.block (a60'.off + 15)) fun x61' =>
     Cn Try.prog 51 #[.pointer x0, .int .i64 x61', .int .i64 2] M fun v62' N62' =>
      adS x4 fun a63' =>
      onS (N62'.intAt .i64 a63'.block (a63'.off + 16)) fun x64' =>
      Cn Try.prog 51 #[.pointer x0, .int .i64 x64', .int .i64 2] N62' fun v65' N65' =>
       adS x4 fun a66' =>
       onS (N65'.boolAt a66'.block (a66'.off + 17)) fun b67' =>
       Cn Try.prog 52 #[.bool b67'] N65' fun v68' N68' =>
        tyS (asI .i64 v68') fun x69' =>
        Cn Try.prog 51 #[.pointer x0, .int .i64 x69', .int .i64 1] N68' fun v70' N70' =>
         adS x4 fun a71' =>
         ldP tyZlE0 N70' a71'.block a71'.off fun vs72' =>
         Cn Try.prog 54 #[.agg vs72'.toArray] N70' fun v73' N73' =>
          tyS (asB v73') fun b74' =>
          cnd b74' (
           Q (.int .i64 0) N73') (
           A25_4 x0 x4 0 N73' Q))) :
    A25_2 x0 x4 x9 M Q :=
  LvP.mk (cuts := K25) (sp := Z25) 900 H fun G => by kernel_rfl
theorem w25_3 {x0 x4 : Option Addr} {x9 : Int} {M : Mem} {Q : Value → Mem → Prop} (H :
    A25_2 x0 x4 (IntKind.i64.wrap (x9 + 1)) M Q) :
    A25_3 x0 x4 x9 M Q :=
  LvP.mk (cuts := K25) (sp := Z25) 900 H fun G => by kernel_rfl
theorem w25_4 {x0 x4 : Option Addr} {x10 : Int} {M : Mem} {Q : Value → Mem → Prop} (H :
    cnd (decide (x10 < 4)) (
     adS x4 fun a75' =>
     ixS (idxA (some ⟨a75'.block, a75'.off + 18, none⟩) 4 1 x10) fun a76' =>
     onS (M.intAt .i64 a76'.block a76'.off) fun x77' =>
     Cn Try.prog 51 #[.pointer x0, .int .i64 x77', .int .i64 6] M fun v78' N78' =>
      A25_4 x0 x4 (IntKind.i64.wrap (x10 + 1)) N78' Q) (
     adS x4 fun a79' =>
     onS (M.intAt .i64 a79'.block (a79'.off + 22)) fun x80' =>
     Cn Try.prog 51 #[.pointer x0, .int .i64 x80', .int .i64 3] M fun v81' N81' =>
      adS x4 fun a82' =>
      onS (N81'.boolAt a82'.block (a82'.off + 23)) fun b83' =>
      Cn Try.prog 52 #[.bool b83'] N81' fun v84' N84' =>
       tyS (asI .i64 v84') fun x85' =>
       Cn Try.prog 51 #[.pointer x0, .int .i64 x85', .int .i64 1] N84' fun v86' N86' =>
        adS x4 fun a87' =>
        onS (N86'.boolAt a87'.block (a87'.off + 23)) fun b88' =>
        cnd b88' (
         adS x4 fun a89' =>
         onS (N86'.intAt .i64 a89'.block (a89'.off + 24)) fun x90' =>
         Cn Try.prog 51 #[.pointer x0, .int .i64 (IntKind.i64.wrap (x90' - 3)), .int .i64 2] N86' fun v91' N91' =>
          adS x4 fun a92' =>
          onS (N91'.intAt .i64 a92'.block (a92'.off + 25)) fun x93' =>
          Cn Try.prog 51 #[.pointer x0, .int .i64 x93', .int .i64 2] N91' fun v94' N94' =>
           A25_5 x0 x4 0 N94' Q) (
         A25_6 x0 x4 0 N86' Q))) :
    A25_4 x0 x4 x10 M Q :=
  LvP.mk (cuts := K25) (sp := Z25) 900 H fun G => by kernel_rfl
theorem w25_5 {x0 x4 : Option Addr} {x11 : Int} {M : Mem} {Q : Value → Mem → Prop} (H :
    adS x4 fun a95' =>
    onS (M.slAt a95'.block (a95'.off + 26)) fun s96' =>
    cnd (decide (x11 < ((s96'.2.1 : Int)))) (
     adS x4 fun a97' =>
     onS (M.slAt a97'.block (a97'.off + 26)) fun s98' =>
     ixS (idxA s98'.1 (s98'.2.1) 4 x11) fun a99' =>
     onS (M.intAt .i64 a99'.block a99'.off) fun x100' =>
     Cn Try.prog 51 #[.pointer x0, .int .i64 x100', .int .i64 4] M fun v101' N101' =>
      adS x4 fun a102' =>
      onS (N101'.slAt a102'.block (a102'.off + 26)) fun s103' =>
      ixS (idxA s103'.1 (s103'.2.1) 4 x11) fun a104' =>
      onS (N101'.intAt .i64 a104'.block (a104'.off + 1)) fun x105' =>
      Cn Try.prog 51 #[.pointer x0, .int .i64 x105', .int .i64 2] N101' fun v106' N106' =>
       adS x4 fun a107' =>
       onS (N106'.slAt a107'.block (a107'.off + 26)) fun s108' =>
       ixS (idxA s108'.1 (s108'.2.1) 4 x11) fun a109' =>
       onS (N106'.intAt .i64 a109'.block (a109'.off + 2)) fun x110' =>
       Cn Try.prog 51 #[.pointer x0, .int .i64 x110', .int .i64 4] N106' fun v111' N111' =>
        adS x4 fun a112' =>
        onS (N111'.slAt a112'.block (a112'.off + 26)) fun s113' =>
        ixS (idxA s113'.1 (s113'.2.1) 4 x11) fun a114' =>
        onS (N111'.intAt .i64 a114'.block (a114'.off + 3)) fun x115' =>
        Cn Try.prog 51 #[.pointer x0, .int .i64 x115', .int .i64 2] N111' fun v116' N116' =>
         A25_5 x0 x4 (IntKind.i64.wrap (x11 + 1)) N116' Q) (
     A25_6 x0 x4 0 M Q)) :
    A25_5 x0 x4 x11 M Q :=
  LvP.mk (cuts := K25) (sp := Z25) 900 H fun G => by kernel_rfl
theorem w25_6 {x0 x4 : Option Addr} {x12 : Int} {M : Mem} {Q : Value → Mem → Prop} (H :
    cnd (decide (x12 < 3)) (
     adS x4 fun a117' =>
     ixS (idxA (some ⟨a117'.block, a117'.off + 27, none⟩) 3 1 x12) fun a118' =>
     onS (M.boolAt a118'.block a118'.off) fun b119' =>
     Cn Try.prog 52 #[.bool b119'] M fun v120' N120' =>
      tyS (asI .i64 v120') fun x121' =>
      Cn Try.prog 51 #[.pointer x0, .int .i64 x121', .int .i64 1] N120' fun v122' N122' =>
       A25_6 x0 x4 (IntKind.i64.wrap (x12 + 1)) N122' Q) (
     Q (.int .i64 0) M)) :
    A25_6 x0 x4 x12 M Q :=
  LvP.mk (cuts := K25) (sp := Z25) 900 H fun G => by kernel_rfl
def K51 : List (List It × List Nat) := []
def Z51 : List (List Nat × List Nat) := []
theorem b51 : Try.prog.funcs[51]? = some Try.f51 ∧ (Orc.tab Try.prog).lookup 51 = none ∧ Try.f51.body = some (codeOf Try.f51) := ⟨by kernel_rfl, by kernel_rfl, by kernel_rfl⟩
theorem w51_0 {x0 : Option Addr} {x1 x2 : Int} {M : Mem} {Q : Value → Mem → Prop} (H :
    Cn Try.prog 23 #[.pointer x0, .int .u32 (IntKind.u32.wrap (x1)), .int .i64 x2] M fun v1' N1' =>
     tyS (asI .i64 v1') fun x2' =>
     Q (.tuple #[]) N1') :
    Cn Try.prog 51 #[.pointer x0, .int .i64 x1, .int .i64 x2] M Q :=
  Cn.mk (cuts := K51) (sp := Z51) 900 b51 rfl rfl H fun G => by kernel_rfl
def K52 : List (List It × List Nat) := []
def Z52 : List (List Nat × List Nat) := []
theorem b52 : Try.prog.funcs[52]? = some Try.f52 ∧ (Orc.tab Try.prog).lookup 52 = none ∧ Try.f52.body = some (codeOf Try.f52) := ⟨by kernel_rfl, by kernel_rfl, by kernel_rfl⟩
theorem w52_0 {x0 : Bool} {M : Mem} {Q : Value → Mem → Prop} (H :
    cnd x0 (
     Q (.int .i64 1) M) (
     Q (.int .i64 0) M)) :
    Cn Try.prog 52 #[.bool x0] M Q :=
  Cn.mk (cuts := K52) (sp := Z52) 900 b52 rfl rfl H fun G => by kernel_rfl
end Go.Zt
