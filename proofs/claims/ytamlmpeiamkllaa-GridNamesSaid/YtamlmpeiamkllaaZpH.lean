/- The functions' walks: for each function and each loop a rule of what it comes to. Printed by zw2.py. -/
import Derived.Test.YtamlmpeiamkllaaProg
import Derived.Test.YtamlmpeiamkllaaZpA
import Derived.Test.YtamlmpeiamkllaaZrT
set_option linter.unusedVariables false
set_option maxRecDepth 100000
namespace Go.Zt
open Go Go.Sim Go.Proofs

def tyZpH0 : List Sc := [.int .i64, .int .i64, .int .i64, .int .i64, .bool, .bool, .int .i64, .int .i64, .int .i64, .int .i64, .int .i64, .int .i64, .int .i64, .bool, .int .i64, .int .i64, .int .i64, .int .i64, .int .i64, .int .i64, .int .i64, .int .i64, .bool]
/-! ### (*zoetrope/zoetroperef17.Grid).two: function 43 -/
def K43 : List (List It × List Nat) := [([.code [1,0,1], .code [1,1]], [0, 1, 2, 27])]
def Z43 : List (List Nat × List Nat) := []
theorem b43 : Try.prog.funcs[43]? = some Try.f43 ∧ (Orc.tab Try.prog).lookup 43 = none ∧ Try.f43.body = some (codeOf Try.f43) := ⟨by kernel_rfl, by kernel_rfl, by kernel_rfl⟩
def A43_1 (x0 : Option Addr) (x1 x2 : Int) (x27 : Bool) (M : Mem) (Q : Value → Mem → Prop) : Prop := LvP Try.prog Try.f43 [(0, .pointer x0), (1, .int .i64 x1), (2, .int .i64 x2), (27, .bool x27)] [.code [1,0,1], .code [1,1]] M Q
theorem w43_0 {x0 : Option Addr} {x1 x2 : Int} {M : Mem} {Q : Value → Mem → Prop} (H :
    cnd ((x1.tmod 8) != 0) (
     A43_1 x0 x1 x2 true M Q) (
     cnd ((x2.tmod 8) != 0) (
      A43_1 x0 x1 x2 true M Q) (
      Cn Try.prog 35 #[.pointer x0, .int .i64 x1, .int .i64 x2] M fun v1' N1' =>
       tyS (asB v1') fun b2' =>
       A43_1 x0 x1 x2 (!b2') N1' Q))) :
    Cn Try.prog 43 #[.pointer x0, .int .i64 x1, .int .i64 x2] M Q :=
  Cn.mk (cuts := K43) (sp := Z43) 900 b43 rfl rfl H fun G => by kernel_rfl

theorem w43_1 {x0 : Option Addr} {x1 x2 : Int} {x27 : Bool} {M : Mem} {Q : Value → Mem → Prop} (H :
    cnd x27 (
     Q (.tuple #[.slice none 0 0, .int .i64 2]) M) (
     Cn Try.prog 36 #[.pointer x0, .int .i64 (IntKind.i64.wrap (x1 - 1)), .int .i64 x2] M fun v3' N3' =>
      tyS (asU 2 v3') fun cs4' =>
      tyS (asA 23 (cs4'.getD 0 undef)) fun cs5' =>
      asCellsP tyZpH0 0 cs5' fun vs6' =>
      tyS (asB (cs4'.getD 1 undef)) fun b7' =>
      tyS (asA 23 (.agg vs6'.toArray)) fun cs8' =>
      asCellsP tyZpH0 0 cs8' fun vs9' =>
      stP (some 23) vs9'.toArray (N3'.new (.cells #[.int .i64 0, .int .i64 0, .int .i64 0, .int .i64 0, .bool false, .bool false, .int .i64 0, .int .i64 0, .int .i64 0, .int .i64 0, .int .i64 0, .int .i64 0, .int .i64 0, .bool false, .int .i64 0, .int .i64 0, .int .i64 0, .int .i64 0, .int .i64 0, .int .i64 0, .int .i64 0, .int .i64 0, .bool false] 27)) (2 * N3'.nb.size) 0 fun M10' =>
      cnd b7' (
       onS (M10'.intAt .i64 (2 * N3'.nb.size) 0) fun x11' =>
       onS (M10'.intAt .i64 (2 * N3'.nb.size) (0 + 1)) fun x12' =>
       onS (M10'.intAt .i64 (2 * N3'.nb.size) (0 + 2)) fun x13' =>
       onS (M10'.intAt .i64 (2 * N3'.nb.size) (0 + 3)) fun x14' =>
       onS (M10'.boolAt (2 * N3'.nb.size) (0 + 4)) fun b15' =>
       onS (M10'.boolAt (2 * N3'.nb.size) (0 + 5)) fun b16' =>
       onS (M10'.intAt .i64 (2 * N3'.nb.size) (0 + 6)) fun x17' =>
       onS (M10'.intAt .i64 (2 * N3'.nb.size) (0 + 7)) fun x18' =>
       onS (M10'.intAt .i64 (2 * N3'.nb.size) (0 + 8)) fun x19' =>
       onS (M10'.intAt .i64 (2 * N3'.nb.size) (0 + 9)) fun x20' =>
       onS (M10'.intAt .i64 (2 * N3'.nb.size) (0 + 10)) fun x21' =>
       onS (M10'.intAt .i64 (2 * N3'.nb.size) (0 + 11)) fun x22' =>
       onS (M10'.intAt .i64 (2 * N3'.nb.size) (0 + 12)) fun x23' =>
       onS (M10'.boolAt (2 * N3'.nb.size) (0 + 13)) fun b24' =>
       onS (M10'.intAt .i64 (2 * N3'.nb.size) (0 + 14)) fun x25' =>
       onS (M10'.intAt .i64 (2 * N3'.nb.size) (0 + 15)) fun x26' =>
       onS (M10'.intAt .i64 (2 * N3'.nb.size) (0 + 16)) fun x27' =>
       onS (M10'.intAt .i64 (2 * N3'.nb.size) (0 + 17)) fun x28' =>
       onS (M10'.intAt .i64 (2 * N3'.nb.size) (0 + 18)) fun x29' =>
       onS (M10'.intAt .i64 (2 * N3'.nb.size) (0 + 19)) fun x30' =>
       onS (M10'.intAt .i64 (2 * N3'.nb.size) (0 + 20)) fun x31' =>
       onS (M10'.intAt .i64 (2 * N3'.nb.size) (0 + 21)) fun x32' =>
       onS (M10'.boolAt (2 * N3'.nb.size) (0 + 22)) fun b33' =>
       meS (appendP Try.prog #[43, 43] (.slice none 0 0) (.slice (some ⟨2 * M10'.nb.size, 0, none⟩) 1 1) (M10'.new (.cells #[.int .i64 x11', .int .i64 x12', .int .i64 x13', .int .i64 x14', .bool b15', .bool b16', .int .i64 x17', .int .i64 x18', .int .i64 x19', .int .i64 x20', .int .i64 x21', .int .i64 x22', .int .i64 x23', .bool b24', .int .i64 x25', .int .i64 x26', .int .i64 x27', .int .i64 x28', .int .i64 x29', .int .i64 x30', .int .i64 x31', .int .i64 x32', .bool b33'] 27))) fun r34' =>
       tyS (asS r34'.1) fun s35' =>
       Cn Try.prog 36 #[.pointer x0, .int .i64 x1, .int .i64 (IntKind.i64.wrap (x2 - 1))] r34'.2 fun v36' N36' =>
        tyS (asU 2 v36') fun cs37' =>
        tyS (asA 23 (cs37'.getD 0 undef)) fun cs38' =>
        asCellsP tyZpH0 0 cs38' fun vs39' =>
        tyS (asB (cs37'.getD 1 undef)) fun b40' =>
        tyS (asA 23 (.agg vs39'.toArray)) fun cs41' =>
        asCellsP tyZpH0 0 cs41' fun vs42' =>
        stP (some 23) vs42'.toArray (N36'.new (.cells #[.int .i64 0, .int .i64 0, .int .i64 0, .int .i64 0, .bool false, .bool false, .int .i64 0, .int .i64 0, .int .i64 0, .int .i64 0, .int .i64 0, .int .i64 0, .int .i64 0, .bool false, .int .i64 0, .int .i64 0, .int .i64 0, .int .i64 0, .int .i64 0, .int .i64 0, .int .i64 0, .int .i64 0, .bool false] 27)) (2 * N36'.nb.size) 0 fun M43' =>
        cnd b40' (
         onS (M43'.intAt .i64 (2 * N36'.nb.size) 0) fun x44' =>
         onS (M43'.intAt .i64 (2 * N36'.nb.size) (0 + 1)) fun x45' =>
         onS (M43'.intAt .i64 (2 * N36'.nb.size) (0 + 2)) fun x46' =>
         onS (M43'.intAt .i64 (2 * N36'.nb.size) (0 + 3)) fun x47' =>
         onS (M43'.boolAt (2 * N36'.nb.size) (0 + 4)) fun b48' =>
         onS (M43'.boolAt (2 * N36'.nb.size) (0 + 5)) fun b49' =>
         onS (M43'.intAt .i64 (2 * N36'.nb.size) (0 + 6)) fun x50' =>
         onS (M43'.intAt .i64 (2 * N36'.nb.size) (0 + 7)) fun x51' =>
         onS (M43'.intAt .i64 (2 * N36'.nb.size) (0 + 8)) fun x52' =>
         onS (M43'.intAt .i64 (2 * N36'.nb.size) (0 + 9)) fun x53' =>
         onS (M43'.intAt .i64 (2 * N36'.nb.size) (0 + 10)) fun x54' =>
         onS (M43'.intAt .i64 (2 * N36'.nb.size) (0 + 11)) fun x55' =>
         onS (M43'.intAt .i64 (2 * N36'.nb.size) (0 + 12)) fun x56' =>
         onS (M43'.boolAt (2 * N36'.nb.size) (0 + 13)) fun b57' =>
         onS (M43'.intAt .i64 (2 * N36'.nb.size) (0 + 14)) fun x58' =>
         onS (M43'.intAt .i64 (2 * N36'.nb.size) (0 + 15)) fun x59' =>
         onS (M43'.intAt .i64 (2 * N36'.nb.size) (0 + 16)) fun x60' =>
         onS (M43'.intAt .i64 (2 * N36'.nb.size) (0 + 17)) fun x61' =>
         onS (M43'.intAt .i64 (2 * N36'.nb.size) (0 + 18)) fun x62' =>
         onS (M43'.intAt .i64 (2 * N36'.nb.size) (0 + 19)) fun x63' =>
         onS (M43'.intAt .i64 (2 * N36'.nb.size) (0 + 20)) fun x64' =>
         onS (M43'.intAt .i64 (2 * N36'.nb.size) (0 + 21)) fun x65' =>
         onS (M43'.boolAt (2 * N36'.nb.size) (0 + 22)) fun b66' =>
         meS (appendP Try.prog #[43, 43] (.slice s35'.1 s35'.2.1 s35'.2.2) (.slice (some ⟨2 * M43'.nb.size, 0, none⟩) 1 1) (M43'.new (.cells #[.int .i64 x44', .int .i64 x45', .int .i64 x46', .int .i64 x47', .bool b48', .bool b49', .int .i64 x50', .int .i64 x51', .int .i64 x52', .int .i64 x53', .int .i64 x54', .int .i64 x55', .int .i64 x56', .bool b57', .int .i64 x58', .int .i64 x59', .int .i64 x60', .int .i64 x61', .int .i64 x62', .int .i64 x63', .int .i64 x64', .int .i64 x65', .bool b66'] 27))) fun r67' =>
         tyS (asS r67'.1) fun s68' =>
         Q (.tuple #[.slice s68'.1 (s68'.2.1) (s68'.2.2), .int .i64 0]) r67'.2) (
         Q (.tuple #[.slice s35'.1 (s35'.2.1) (s35'.2.2), .int .i64 0]) M43')) (
       Cn Try.prog 36 #[.pointer x0, .int .i64 x1, .int .i64 (IntKind.i64.wrap (x2 - 1))] M10' fun v69' N69' =>
        tyS (asU 2 v69') fun cs70' =>
        tyS (asA 23 (cs70'.getD 0 undef)) fun cs71' =>
        asCellsP tyZpH0 0 cs71' fun vs72' =>
        tyS (asB (cs70'.getD 1 undef)) fun b73' =>
        tyS (asA 23 (.agg vs72'.toArray)) fun cs74' =>
        asCellsP tyZpH0 0 cs74' fun vs75' =>
        stP (some 23) vs75'.toArray (N69'.new (.cells #[.int .i64 0, .int .i64 0, .int .i64 0, .int .i64 0, .bool false, .bool false, .int .i64 0, .int .i64 0, .int .i64 0, .int .i64 0, .int .i64 0, .int .i64 0, .int .i64 0, .bool false, .int .i64 0, .int .i64 0, .int .i64 0, .int .i64 0, .int .i64 0, .int .i64 0, .int .i64 0, .int .i64 0, .bool false] 27)) (2 * N69'.nb.size) 0 fun M76' =>
        cnd b73' (
         onS (M76'.intAt .i64 (2 * N69'.nb.size) 0) fun x77' =>
         onS (M76'.intAt .i64 (2 * N69'.nb.size) (0 + 1)) fun x78' =>
         onS (M76'.intAt .i64 (2 * N69'.nb.size) (0 + 2)) fun x79' =>
         onS (M76'.intAt .i64 (2 * N69'.nb.size) (0 + 3)) fun x80' =>
         onS (M76'.boolAt (2 * N69'.nb.size) (0 + 4)) fun b81' =>
         onS (M76'.boolAt (2 * N69'.nb.size) (0 + 5)) fun b82' =>
         onS (M76'.intAt .i64 (2 * N69'.nb.size) (0 + 6)) fun x83' =>
         onS (M76'.intAt .i64 (2 * N69'.nb.size) (0 + 7)) fun x84' =>
         onS (M76'.intAt .i64 (2 * N69'.nb.size) (0 + 8)) fun x85' =>
         onS (M76'.intAt .i64 (2 * N69'.nb.size) (0 + 9)) fun x86' =>
         onS (M76'.intAt .i64 (2 * N69'.nb.size) (0 + 10)) fun x87' =>
         onS (M76'.intAt .i64 (2 * N69'.nb.size) (0 + 11)) fun x88' =>
         onS (M76'.intAt .i64 (2 * N69'.nb.size) (0 + 12)) fun x89' =>
         onS (M76'.boolAt (2 * N69'.nb.size) (0 + 13)) fun b90' =>
         onS (M76'.intAt .i64 (2 * N69'.nb.size) (0 + 14)) fun x91' =>
         onS (M76'.intAt .i64 (2 * N69'.nb.size) (0 + 15)) fun x92' =>
         onS (M76'.intAt .i64 (2 * N69'.nb.size) (0 + 16)) fun x93' =>
         onS (M76'.intAt .i64 (2 * N69'.nb.size) (0 + 17)) fun x94' =>
         onS (M76'.intAt .i64 (2 * N69'.nb.size) (0 + 18)) fun x95' =>
         onS (M76'.intAt .i64 (2 * N69'.nb.size) (0 + 19)) fun x96' =>
         onS (M76'.intAt .i64 (2 * N69'.nb.size) (0 + 20)) fun x97' =>
         onS (M76'.intAt .i64 (2 * N69'.nb.size) (0 + 21)) fun x98' =>
         onS (M76'.boolAt (2 * N69'.nb.size) (0 + 22)) fun b99' =>
         meS (appendP Try.prog #[43, 43] (.slice none 0 0) (.slice (some ⟨2 * M76'.nb.size, 0, none⟩) 1 1) (M76'.new (.cells #[.int .i64 x77', .int .i64 x78', .int .i64 x79', .int .i64 x80', .bool b81', .bool b82', .int .i64 x83', .int .i64 x84', .int .i64 x85', .int .i64 x86', .int .i64 x87', .int .i64 x88', .int .i64 x89', .bool b90', .int .i64 x91', .int .i64 x92', .int .i64 x93', .int .i64 x94', .int .i64 x95', .int .i64 x96', .int .i64 x97', .int .i64 x98', .bool b99'] 27))) fun r100' =>
         tyS (asS r100'.1) fun s101' =>
         Q (.tuple #[.slice s101'.1 (s101'.2.1) (s101'.2.2), .int .i64 0]) r100'.2) (
         Q (.tuple #[.slice none 0 0, .int .i64 0]) M76')))) :
    A43_1 x0 x1 x2 x27 M Q :=
  LvP.mk (cuts := K43) (sp := Z43) 900 H fun G => by kernel_rfl


/-! ### (*zoetrope/zoetroperef17.Grid).Skip: function 38 -/
def K38 : List (List It × List Nat) := [([.code [1,1,1,0,1,0,0], .lp [1,1,1,0,1,0,0], .blk 0, .code [1,1,1,1]], [8, 9, 10, 11]), ([.code [1,1,1,0,1,0,0,1,1], .lp [1,1,1,0,1,0,0], .blk 0, .code [1,1,1,1]], [8, 9, 10, 11])]
def Z38 : List (List Nat × List Nat) := []
theorem b38 : Try.prog.funcs[38]? = some Try.f38 ∧ (Orc.tab Try.prog).lookup 38 = none ∧ Try.f38.body = some (codeOf Try.f38) := ⟨by kernel_rfl, by kernel_rfl, by kernel_rfl⟩
def A38_1 (Ax8 : Option Addr) (lx8 cx8 : Nat) (x9 x10 x11 : Int) (M : Mem) (Q : Value → Mem → Prop) : Prop := LvP Try.prog Try.f38 [(8, .slice Ax8 lx8 cx8), (9, .int .i64 x9), (10, .int .i64 x10), (11, .int .i64 x11)] [.code [1,1,1,0,1,0,0], .lp [1,1,1,0,1,0,0], .blk 0, .code [1,1,1,1]] M Q
def A38_2 (Ax8 : Option Addr) (lx8 cx8 : Nat) (x9 x10 x11 : Int) (M : Mem) (Q : Value → Mem → Prop) : Prop := LvP Try.prog Try.f38 [(8, .slice Ax8 lx8 cx8), (9, .int .i64 x9), (10, .int .i64 x10), (11, .int .i64 x11)] [.code [1,1,1,0,1,0,0,1,1], .lp [1,1,1,0,1,0,0], .blk 0, .code [1,1,1,1]] M Q
theorem w38_0 {x0 : Option Addr} {x1 x2 : Int} {M : Mem} {Q : Value → Mem → Prop} (H :
    Cn Try.prog 43 #[.pointer x0, .int .i64 x1, .int .i64 x2] M fun v1' N1' =>
     tyS (asU 2 v1') fun cs2' =>
     tyS (asS (cs2'.getD 0 undef)) fun s3' =>
     tyS (asI .i64 (cs2'.getD 1 undef)) fun x4' =>
     A38_1 s3'.1 s3'.2.1 s3'.2.2 x4' 0 0 N1' Q) :
    Cn Try.prog 38 #[.pointer x0, .int .i64 x1, .int .i64 x2] M Q :=
  Cn.mk (cuts := K38) (sp := Z38) 900 b38 rfl rfl H fun G => by kernel_rfl

theorem w38_1 {Ax8 : Option Addr} {lx8 cx8 : Nat} {x9 x10 x11 : Int} {M : Mem} {Q : Value → Mem → Prop} (H :
    cnd (decide (x11 < ((lx8 : Int)))) (
     ixS (idxA Ax8 lx8 23 x11) fun a5' =>
     onS (M.boolAt a5'.block (a5'.off + 4)) fun b6' =>
     cnd b6' (
      A38_2 Ax8 lx8 cx8 x9 (IntKind.i64.wrap (x10 + 1)) x11 M Q) (
      A38_2 Ax8 lx8 cx8 x9 x10 x11 M Q)) (
     Q (.tuple #[.int .i64 x10, .int .i64 x9]) M)) :
    A38_1 Ax8 lx8 cx8 x9 x10 x11 M Q :=
  LvP.mk (cuts := K38) (sp := Z38) 900 H fun G => by kernel_rfl

theorem w38_2 {Ax8 : Option Addr} {lx8 cx8 : Nat} {x9 x10 x11 : Int} {M : Mem} {Q : Value → Mem → Prop} (H :
    A38_1 Ax8 lx8 cx8 x9 x10 (IntKind.i64.wrap (x11 + 1)) M Q) :
    A38_2 Ax8 lx8 cx8 x9 x10 x11 M Q :=
  LvP.mk (cuts := K38) (sp := Z38) 900 H fun G => by kernel_rfl


/-! ### (*zoetrope/zoetroperef17.Grid).Inter: function 39 -/
def K39 : List (List It × List Nat) := [([.code [1,1,1,0,1,0,0], .lp [1,1,1,0,1,0,0], .blk 0, .code [1,1,1,1]], [8, 9, 10, 11]), ([.code [1,1,1,0,1,0,0,1,1], .lp [1,1,1,0,1,0,0], .blk 0, .code [1,1,1,1]], [8, 9, 10, 11])]
def Z39 : List (List Nat × List Nat) := []
theorem b39 : Try.prog.funcs[39]? = some Try.f39 ∧ (Orc.tab Try.prog).lookup 39 = none ∧ Try.f39.body = some (codeOf Try.f39) := ⟨by kernel_rfl, by kernel_rfl, by kernel_rfl⟩
def A39_1 (Ax8 : Option Addr) (lx8 cx8 : Nat) (x9 x10 x11 : Int) (M : Mem) (Q : Value → Mem → Prop) : Prop := LvP Try.prog Try.f39 [(8, .slice Ax8 lx8 cx8), (9, .int .i64 x9), (10, .int .i64 x10), (11, .int .i64 x11)] [.code [1,1,1,0,1,0,0], .lp [1,1,1,0,1,0,0], .blk 0, .code [1,1,1,1]] M Q
def A39_2 (Ax8 : Option Addr) (lx8 cx8 : Nat) (x9 x10 x11 : Int) (M : Mem) (Q : Value → Mem → Prop) : Prop := LvP Try.prog Try.f39 [(8, .slice Ax8 lx8 cx8), (9, .int .i64 x9), (10, .int .i64 x10), (11, .int .i64 x11)] [.code [1,1,1,0,1,0,0,1,1], .lp [1,1,1,0,1,0,0], .blk 0, .code [1,1,1,1]] M Q
theorem w39_0 {x0 : Option Addr} {x1 x2 : Int} {M : Mem} {Q : Value → Mem → Prop} (H :
    Cn Try.prog 43 #[.pointer x0, .int .i64 x1, .int .i64 x2] M fun v1' N1' =>
     tyS (asU 2 v1') fun cs2' =>
     tyS (asS (cs2'.getD 0 undef)) fun s3' =>
     tyS (asI .i64 (cs2'.getD 1 undef)) fun x4' =>
     A39_1 s3'.1 s3'.2.1 s3'.2.2 x4' 0 0 N1' Q) :
    Cn Try.prog 39 #[.pointer x0, .int .i64 x1, .int .i64 x2] M Q :=
  Cn.mk (cuts := K39) (sp := Z39) 900 b39 rfl rfl H fun G => by kernel_rfl

theorem w39_1 {Ax8 : Option Addr} {lx8 cx8 : Nat} {x9 x10 x11 : Int} {M : Mem} {Q : Value → Mem → Prop} (H :
    cnd (decide (x11 < ((lx8 : Int)))) (
     ixS (idxA Ax8 lx8 23 x11) fun a5' =>
     onS (M.boolAt a5'.block (a5'.off + 5)) fun b6' =>
     cnd b6' (
      A39_2 Ax8 lx8 cx8 x9 (IntKind.i64.wrap (x10 + 1)) x11 M Q) (
      A39_2 Ax8 lx8 cx8 x9 x10 x11 M Q)) (
     Q (.tuple #[.int .i64 x10, .int .i64 x9]) M)) :
    A39_1 Ax8 lx8 cx8 x9 x10 x11 M Q :=
  LvP.mk (cuts := K39) (sp := Z39) 900 H fun G => by kernel_rfl

theorem w39_2 {Ax8 : Option Addr} {lx8 cx8 : Nat} {x9 x10 x11 : Int} {M : Mem} {Q : Value → Mem → Prop} (H :
    A39_1 Ax8 lx8 cx8 x9 x10 (IntKind.i64.wrap (x11 + 1)) M Q) :
    A39_2 Ax8 lx8 cx8 x9 x10 x11 M Q :=
  LvP.mk (cuts := K39) (sp := Z39) 900 H fun G => by kernel_rfl


end Go.Zt
