/- The functions' walks: for each function and each loop a rule of what it comes to. Printed by zw2.py. -/
import Derived.Test.YtamlmpeiamkllaaProg
import Derived.Test.YtamlmpeiamkllaaZpA
import Derived.Test.YtamlmpeiamkllaaZrT
import Derived.Test.YtamlmpeiamkllaaZpF
import Derived.Test.YtamlmpeiamkllaaZpQ
set_option linter.unusedVariables false
set_option maxRecDepth 100000
namespace Go.Zt
open Go Go.Sim Go.Proofs

def tyZpH0 : List Sc := [.int .i64, .int .i64, .int .i64, .int .i64, .bool, .bool, .int .i64, .int .i64, .int .i64, .int .i64, .int .i64, .int .i64, .int .i64, .bool, .int .i64, .int .i64, .int .i64, .int .i64, .int .i64, .int .i64, .int .i64, .int .i64, .bool]
/-! ### (*zoetrope/zoetroperef17.Grid).two: function 43 -/
def K43 : List (List It × List Nat) := [([.code [1,0,1], .code [1,1]], [0, 1, 2, 27])]
def Z43 : List (List Nat × List Nat) := []
theorem b43 : Try.prog.funcs[43]? = some Try.f43 ∧ (Orc.tab Try.prog).lookup 43 = none ∧ Try.f43.body = some (codeOf Try.f43) := ⟨by kernel_rfl, by kernel_rfl, by kernel_rfl⟩
def A43_1 (x0 : Option Addr) (x1 x2 : Int) (x27 : Bool) (M : Mem) (Q : Value → Mem → Prop) : Prop := LvP Try.prog Try.f43 [(0, .pointer x0), (1, .int .i64 x1), (2, .int .i64 x2), (27, .bool x27)] [.code [1,0,1], .code [1,1]] M Q
theorem w43_0 {x0 : Option Addr} {x1 x2 : Int} {M : Mem} {Q : Value → Mem → Prop} (H :
    cnd ((x1.tmod 8) != 0) (
     A43_1 x0 x1 x2 true M Q) (
     cnd ((x2.tmod 8) != 0) (
      A43_1 x0 x1 x2 true M Q) (
      Cn Try.prog 35 #[.pointer x0, .int .i64 x1, .int .i64 x2] M fun v1' N1' =>
       tyS (asB v1') fun b2' =>
       A43_1 x0 x1 x2 (!b2') N1' Q))) :
    Cn Try.prog 43 #[.pointer x0, .int .i64 x1, .int .i64 x2] M Q :=
  Cn.mk (cuts := K43) (sp := Z43) 900 b43 rfl rfl H fun G => by kernel_rfl

theorem w43_1 {x0 : Option Addr} {x1 x2 : Int} {x27 : Bool} {M : Mem} {Q : Value → Mem → Prop} (H :
    cnd x27 (
     Q (.tuple #[.slice none 0 0, .int .i64 2]) M) (
     Cn Try.prog 36 #[.pointer x0, .int .i64 (IntKind.i64.wrap (x1 - 1)), .int .i64 x2] M fun v3' N3' =>
      tyS (asU 2 v3') fun cs4' =>
      tyS (asA 23 (cs4'.getD 0 undef)) fun cs5' =>
      asCellsP tyZpH0 0 cs5' fun vs6' =>
      tyS (asB (cs4'.getD 1 undef)) fun b7' =>
      tyS (asA 23 (.agg vs6'.toArray)) fun cs8' =>
      asCellsP tyZpH0 0 cs8' fun vs9' =>
      stP (some 23) vs9'.toArray (N3'.new (.cells #[.int .i64 0, .int .i64 0, .int .i64 0, .int .i64 0, .bool false, .bool false, .int .i64 0, .int .i64 0, .int .i64 0, .int .i64 0, .int .i64 0, .int .i64 0, .int .i64 0, .bool false, .int .i64 0, .int .i64 0, .int .i64 0, .int .i64 0, .int .i64 0, .int .i64 0, .int .i64 0, .int .i64 0, .bool false] 27)) (2 * N3'.nb.size) 0 fun M10' =>
      cnd b7' (
       onS (M10'.intAt .i64 (2 * N3'.nb.size) 0) fun x11' =>
       onS (M10'.intAt .i64 (2 * N3'.nb.size) (0 + 1)) fun x12' =>
       onS (M10'.intAt .i64 (2 * N3'.nb.size) (0 + 2)) fun x13' =>
       onS (M10'.intAt .i64 (2 * N3'.nb.size) (0 + 3)) fun x14' =>
       onS (M10'.boolAt (2 * N3'.nb.size) (0 + 4)) fun b15' =>
       onS (M10'.boolAt (2 * N3'.nb.size) (0 + 5)) fun b16' =>
       onS (M10'.intAt .i64 (2 * N3'.nb.size) (0 + 6)) fun x17' =>
       onS (M10'.intAt .i64 (2 * N3'.nb.size) (0 + 7)) fun x18' =>
       onS (M10'.intAt .i64 (2 * N3'.nb.size) (0 + 8)) fun x19' =>
       onS (M10'.intAt .i64 (2 * N3'.nb.size) (0 + 9)) fun x20' =>
       onS (M10'.intAt .i64 (2 * N3'.nb.size) (0 + 10)) fun x21' =>
       onS (M10'.intAt .i64 (2 * N3'.nb.size) (0 + 11)) fun x22' =>
       onS (M10'.intAt .i64 (2 * N3'.nb.size) (0 + 12)) fun x23' =>
       onS (M10'.boolAt (2 * N3'.nb.size) (0 + 13)) fun b24' =>
       onS (M10'.intAt .i64 (2 * N3'.nb.size) (0 + 14)) fun x25' =>
       onS (M10'.intAt .i64 (2 * N3'.nb.size) (0 + 15)) fun x26' =>
       onS (M10'.intAt .i64 (2 * N3'.nb.size) (0 + 16)) fun x27' =>
       onS (M10'.intAt .i64 (2 * N3'.nb.size) (0 + 17)) fun x28' =>
       onS (M10'.intAt .i64 (2 * N3'.nb.size) (0 + 18)) fun x29' =>
       onS (M10'.intAt .i64 (2 * N3'.nb.size) (0 + 19)) fun x30' =>
       onS (M10'.intAt .i64 (2 * N3'.nb.size) (0 + 20)) fun x31' =>
       onS (M10'.intAt .i64 (2 * N3'.nb.size) (0 + 21)) fun x32' =>
       onS (M10'.boolAt (2 * N3'.nb.size) (0 + 22)) fun b33' =>
       meS (appendP Try.prog #[43, 43] (.slice none 0 0) (.slice (some ⟨2 * M10'.nb.size, 0, none⟩) 1 1) (M10'.new (.cells #[.int .i64 x11', .int .i64 x12', .int .i64 x13', .int .i64 x14', .bool b15', .bool b16', .int .i64 x17', .int .i64 x18', .int .i64 x19', .int .i64 x20', .int .i64 x21', .int .i64 x22', .int .i64 x23', .bool b24', .int .i64 x25', .int .i64 x26', .int .i64 x27', .int .i64 x28', .int .i64 x29', .int .i64 x30', .int .i64 x31', .int .i64 x32', .bool b33'] 27))) fun r34' =>
       tyS (asS r34'.1) fun s35' =>
       Cn Try.prog 36 #[.pointer x0, .int .i64 x1, .int .i64 (IntKind.i64.wrap (x2 - 1))] r34'.2 fun v36' N36' =>
        tyS (asU 2 v36') fun cs37' =>
        tyS (asA 23 (cs37'.getD 0 undef)) fun cs38' =>
        asCellsP tyZpH0 0 cs38' fun vs39' =>
        tyS (asB (cs37'.getD 1 undef)) fun b40' =>
        tyS (asA 23 (.agg vs39'.toArray)) fun cs41' =>
        asCellsP tyZpH0 0 cs41' fun vs42' =>
        stP (some 23) vs42'.toArray (N36'.new (.cells #[.int .i64 0, .int .i64 0, .int .i64 0, .int .i64 0, .bool false, .bool false, .int .i64 0, .int .i64 0, .int .i64 0, .int .i64 0, .int .i64 0, .int .i64 0, .int .i64 0, .bool false, .int .i64 0, .int .i64 0, .int .i64 0, .int .i64 0, .int .i64 0, .int .i64 0, .int .i64 0, .int .i64 0, .bool false] 27)) (2 * N36'.nb.size) 0 fun M43' =>
        cnd b40' (
         onS (M43'.intAt .i64 (2 * N36'.nb.size) 0) fun x44' =>
         onS (M43'.intAt .i64 (2 * N36'.nb.size) (0 + 1)) fun x45' =>
         onS (M43'.intAt .i64 (2 * N36'.nb.size) (0 + 2)) fun x46' =>
         onS (M43'.intAt .i64 (2 * N36'.nb.size) (0 + 3)) fun x47' =>
         onS (M43'.boolAt (2 * N36'.nb.size) (0 + 4)) fun b48' =>
         onS (M43'.boolAt (2 * N36'.nb.size) (0 + 5)) fun b49' =>
         onS (M43'.intAt .i64 (2 * N36'.nb.size) (0 + 6)) fun x50' =>
         onS (M43'.intAt .i64 (2 * N36'.nb.size) (0 + 7)) fun x51' =>
         onS (M43'.intAt .i64 (2 * N36'.nb.size) (0 + 8)) fun x52' =>
         onS (M43'.intAt .i64 (2 * N36'.nb.size) (0 + 9)) fun x53' =>
         onS (M43'.intAt .i64 (2 * N36'.nb.size) (0 + 10)) fun x54' =>
         onS (M43'.intAt .i64 (2 * N36'.nb.size) (0 + 11)) fun x55' =>
         onS (M43'.intAt .i64 (2 * N36'.nb.size) (0 + 12)) fun x56' =>
         onS (M43'.boolAt (2 * N36'.nb.size) (0 + 13)) fun b57' =>
         onS (M43'.intAt .i64 (2 * N36'.nb.size) (0 + 14)) fun x58' =>
         onS (M43'.intAt .i64 (2 * N36'.nb.size) (0 + 15)) fun x59' =>
         onS (M43'.intAt .i64 (2 * N36'.nb.size) (0 + 16)) fun x60' =>
         onS (M43'.intAt .i64 (2 * N36'.nb.size) (0 + 17)) fun x61' =>
         onS (M43'.intAt .i64 (2 * N36'.nb.size) (0 + 18)) fun x62' =>
         onS (M43'.intAt .i64 (2 * N36'.nb.size) (0 + 19)) fun x63' =>
         onS (M43'.intAt .i64 (2 * N36'.nb.size) (0 + 20)) fun x64' =>
         onS (M43'.intAt .i64 (2 * N36'.nb.size) (0 + 21)) fun x65' =>
         onS (M43'.boolAt (2 * N36'.nb.size) (0 + 22)) fun b66' =>
         meS (appendP Try.prog #[43, 43] (.slice s35'.1 s35'.2.1 s35'.2.2) (.slice (some ⟨2 * M43'.nb.size, 0, none⟩) 1 1) (M43'.new (.cells #[.int .i64 x44', .int .i64 x45', .int .i64 x46', .int .i64 x47', .bool b48', .bool b49', .int .i64 x50', .int .i64 x51', .int .i64 x52', .int .i64 x53', .int .i64 x54', .int .i64 x55', .int .i64 x56', .bool b57', .int .i64 x58', .int .i64 x59', .int .i64 x60', .int .i64 x61', .int .i64 x62', .int .i64 x63', .int .i64 x64', .int .i64 x65', .bool b66'] 27))) fun r67' =>
         tyS (asS r67'.1) fun s68' =>
         Q (.tuple #[.slice s68'.1 (s68'.2.1) (s68'.2.2), .int .i64 0]) r67'.2) (
         Q (.tuple #[.slice s35'.1 (s35'.2.1) (s35'.2.2), .int .i64 0]) M43')) (
       Cn Try.prog 36 #[.pointer x0, .int .i64 x1, .int .i64 (IntKind.i64.wrap (x2 - 1))] M10' fun v69' N69' =>
        tyS (asU 2 v69') fun cs70' =>
        tyS (asA 23 (cs70'.getD 0 undef)) fun cs71' =>
        asCellsP tyZpH0 0 cs71' fun vs72' =>
        tyS (asB (cs70'.getD 1 undef)) fun b73' =>
        tyS (asA 23 (.agg vs72'.toArray)) fun cs74' =>
        asCellsP tyZpH0 0 cs74' fun vs75' =>
        stP (some 23) vs75'.toArray (N69'.new (.cells #[.int .i64 0, .int .i64 0, .int .i64 0, .int .i64 0, .bool false, .bool false, .int .i64 0, .int .i64 0, .int .i64 0, .int .i64 0, .int .i64 0, .int .i64 0, .int .i64 0, .bool false, .int .i64 0, .int .i64 0, .int .i64 0, .int .i64 0, .int .i64 0, .int .i64 0, .int .i64 0, .int .i64 0, .bool false] 27)) (2 * N69'.nb.size) 0 fun M76' =>
        cnd b73' (
         onS (M76'.intAt .i64 (2 * N69'.nb.size) 0) fun x77' =>
         onS (M76'.intAt .i64 (2 * N69'.nb.size) (0 + 1)) fun x78' =>
         onS (M76'.intAt .i64 (2 * N69'.nb.size) (0 + 2)) fun x79' =>
         onS (M76'.intAt .i64 (2 * N69'.nb.size) (0 + 3)) fun x80' =>
         onS (M76'.boolAt (2 * N69'.nb.size) (0 + 4)) fun b81' =>
         onS (M76'.boolAt (2 * N69'.nb.size) (0 + 5)) fun b82' =>
         onS (M76'.intAt .i64 (2 * N69'.nb.size) (0 + 6)) fun x83' =>
         onS (M76'.intAt .i64 (2 * N69'.nb.size) (0 + 7)) fun x84' =>
         onS (M76'.intAt .i64 (2 * N69'.nb.size) (0 + 8)) fun x85' =>
         onS (M76'.intAt .i64 (2 * N69'.nb.size) (0 + 9)) fun x86' =>
         onS (M76'.intAt .i64 (2 * N69'.nb.size) (0 + 10)) fun x87' =>
         onS (M76'.intAt .i64 (2 * N69'.nb.size) (0 + 11)) fun x88' =>
         onS (M76'.intAt .i64 (2 * N69'.nb.size) (0 + 12)) fun x89' =>
         onS (M76'.boolAt (2 * N69'.nb.size) (0 + 13)) fun b90' =>
         onS (M76'.intAt .i64 (2 * N69'.nb.size) (0 + 14)) fun x91' =>
         onS (M76'.intAt .i64 (2 * N69'.nb.size) (0 + 15)) fun x92' =>
         onS (M76'.intAt .i64 (2 * N69'.nb.size) (0 + 16)) fun x93' =>
         onS (M76'.intAt .i64 (2 * N69'.nb.size) (0 + 17)) fun x94' =>
         onS (M76'.intAt .i64 (2 * N69'.nb.size) (0 + 18)) fun x95' =>
         onS (M76'.intAt .i64 (2 * N69'.nb.size) (0 + 19)) fun x96' =>
         onS (M76'.intAt .i64 (2 * N69'.nb.size) (0 + 20)) fun x97' =>
         onS (M76'.intAt .i64 (2 * N69'.nb.size) (0 + 21)) fun x98' =>
         onS (M76'.boolAt (2 * N69'.nb.size) (0 + 22)) fun b99' =>
         meS (appendP Try.prog #[43, 43] (.slice none 0 0) (.slice (some ⟨2 * M76'.nb.size, 0, none⟩) 1 1) (M76'.new (.cells #[.int .i64 x77', .int .i64 x78', .int .i64 x79', .int .i64 x80', .bool b81', .bool b82', .int .i64 x83', .int .i64 x84', .int .i64 x85', .int .i64 x86', .int .i64 x87', .int .i64 x88', .int .i64 x89', .bool b90', .int .i64 x91', .int .i64 x92', .int .i64 x93', .int .i64 x94', .int .i64 x95', .int .i64 x96', .int .i64 x97', .int .i64 x98', .bool b99'] 27))) fun r100' =>
         tyS (asS r100'.1) fun s101' =>
         Q (.tuple #[.slice s101'.1 (s101'.2.1) (s101'.2.2), .int .i64 0]) r100'.2) (
         Q (.tuple #[.slice none 0 0, .int .i64 0]) M76')))) :
    A43_1 x0 x1 x2 x27 M Q :=
  LvP.mk (cuts := K43) (sp := Z43) 900 H fun G => by kernel_rfl


/-! ### (*zoetrope/zoetroperef17.Grid).Skip: function 38 -/
def K38 : List (List It × List Nat) := [([.code [1,1,1,0,1,0,0], .lp [1,1,1,0,1,0,0], .blk 0, .code [1,1,1,1]], [8, 9, 10, 11]), ([.code [1,1,1,0,1,0,0,1,1], .lp [1,1,1,0,1,0,0], .blk 0, .code [1,1,1,1]], [8, 9, 10, 11])]
def Z38 : List (List Nat × List Nat) := []
theorem b38 : Try.prog.funcs[38]? = some Try.f38 ∧ (Orc.tab Try.prog).lookup 38 = none ∧ Try.f38.body = some (codeOf Try.f38) := ⟨by kernel_rfl, by kernel_rfl, by kernel_rfl⟩
def A38_1 (Ax8 : Option Addr) (lx8 cx8 : Nat) (x9 x10 x11 : Int) (M : Mem) (Q : Value → Mem → Prop) : Prop := LvP Try.prog Try.f38 [(8, .slice Ax8 lx8 cx8), (9, .int .i64 x9), (10, .int .i64 x10), (11, .int .i64 x11)] [.code [1,1,1,0,1,0,0], .lp [1,1,1,0,1,0,0], .blk 0, .code [1,1,1,1]] M Q
def A38_2 (Ax8 : Option Addr) (lx8 cx8 : Nat) (x9 x10 x11 : Int) (M : Mem) (Q : Value → Mem → Prop) : Prop := LvP Try.prog Try.f38 [(8, .slice Ax8 lx8 cx8), (9, .int .i64 x9), (10, .int .i64 x10), (11, .int .i64 x11)] [.code [1,1,1,0,1,0,0,1,1], .lp [1,1,1,0,1,0,0], .blk 0, .code [1,1,1,1]] M Q
theorem w38_0 {x0 : Option Addr} {x1 x2 : Int} {M : Mem} {Q : Value → Mem → Prop} (H :
    Cn Try.prog 43 #[.pointer x0, .int .i64 x1, .int .i64 x2] M fun v1' N1' =>
     tyS (asU 2 v1') fun cs2' =>
     tyS (asS (cs2'.getD 0 undef)) fun s3' =>
     tyS (asI .i64 (cs2'.getD 1 undef)) fun x4' =>
     A38_1 s3'.1 s3'.2.1 s3'.2.2 x4' 0 0 N1' Q) :
    Cn Try.prog 38 #[.pointer x0, .int .i64 x1, .int .i64 x2] M Q :=
  Cn.mk (cuts := K38) (sp := Z38) 900 b38 rfl rfl H fun G => by kernel_rfl

theorem w38_1 {Ax8 : Option Addr} {lx8 cx8 : Nat} {x9 x10 x11 : Int} {M : Mem} {Q : Value → Mem → Prop} (H :
    cnd (decide (x11 < ((lx8 : Int)))) (
     ixS (idxA Ax8 lx8 23 x11) fun a5' =>
     onS (M.boolAt a5'.block (a5'.off + 4)) fun b6' =>
     cnd b6' (
      A38_2 Ax8 lx8 cx8 x9 (IntKind.i64.wrap (x10 + 1)) x11 M Q) (
      A38_2 Ax8 lx8 cx8 x9 x10 x11 M Q)) (
     Q (.tuple #[.int .i64 x10, .int .i64 x9]) M)) :
    A38_1 Ax8 lx8 cx8 x9 x10 x11 M Q :=
  LvP.mk (cuts := K38) (sp := Z38) 900 H fun G => by kernel_rfl

theorem w38_2 {Ax8 : Option Addr} {lx8 cx8 : Nat} {x9 x10 x11 : Int} {M : Mem} {Q : Value → Mem → Prop} (H :
    A38_1 Ax8 lx8 cx8 x9 x10 (IntKind.i64.wrap (x11 + 1)) M Q) :
    A38_2 Ax8 lx8 cx8 x9 x10 x11 M Q :=
  LvP.mk (cuts := K38) (sp := Z38) 900 H fun G => by kernel_rfl


/-! ### (*zoetrope/zoetroperef17.Grid).Inter: function 39 -/
def K39 : List (List It × List Nat) := [([.code [1,1,1,0,1,0,0], .lp [1,1,1,0,1,0,0], .blk 0, .code [1,1,1,1]], [8, 9, 10, 11]), ([.code [1,1,1,0,1,0,0,1,1], .lp [1,1,1,0,1,0,0], .blk 0, .code [1,1,1,1]], [8, 9, 10, 11])]
def Z39 : List (List Nat × List Nat) := []
theorem b39 : Try.prog.funcs[39]? = some Try.f39 ∧ (Orc.tab Try.prog).lookup 39 = none ∧ Try.f39.body = some (codeOf Try.f39) := ⟨by kernel_rfl, by kernel_rfl, by kernel_rfl⟩
def A39_1 (Ax8 : Option Addr) (lx8 cx8 : Nat) (x9 x10 x11 : Int) (M : Mem) (Q : Value → Mem → Prop) : Prop := LvP Try.prog Try.f39 [(8, .slice Ax8 lx8 cx8), (9, .int .i64 x9), (10, .int .i64 x10), (11, .int .i64 x11)] [.code [1,1,1,0,1,0,0], .lp [1,1,1,0,1,0,0], .blk 0, .code [1,1,1,1]] M Q
def A39_2 (Ax8 : Option Addr) (lx8 cx8 : Nat) (x9 x10 x11 : Int) (M : Mem) (Q : Value → Mem → Prop) : Prop := LvP Try.prog Try.f39 [(8, .slice Ax8 lx8 cx8), (9, .int .i64 x9), (10, .int .i64 x10), (11, .int .i64 x11)] [.code [1,1,1,0,1,0,0,1,1], .lp [1,1,1,0,1,0,0], .blk 0, .code [1,1,1,1]] M Q
theorem w39_0 {x0 : Option Addr} {x1 x2 : Int} {M : Mem} {Q : Value → Mem → Prop} (H :
    Cn Try.prog 43 #[.pointer x0, .int .i64 x1, .int .i64 x2] M fun v1' N1' =>
     tyS (asU 2 v1') fun cs2' =>
     tyS (asS (cs2'.getD 0 undef)) fun s3' =>
     tyS (asI .i64 (cs2'.getD 1 undef)) fun x4' =>
     A39_1 s3'.1 s3'.2.1 s3'.2.2 x4' 0 0 N1' Q) :
    Cn Try.prog 39 #[.pointer x0, .int .i64 x1, .int .i64 x2] M Q :=
  Cn.mk (cuts := K39) (sp := Z39) 900 b39 rfl rfl H fun G => by kernel_rfl

theorem w39_1 {Ax8 : Option Addr} {lx8 cx8 : Nat} {x9 x10 x11 : Int} {M : Mem} {Q : Value → Mem → Prop} (H :
    cnd (decide (x11 < ((lx8 : Int)))) (
     ixS (idxA Ax8 lx8 23 x11) fun a5' =>
     onS (M.boolAt a5'.block (a5'.off + 5)) fun b6' =>
     cnd b6' (
      A39_2 Ax8 lx8 cx8 x9 (IntKind.i64.wrap (x10 + 1)) x11 M Q) (
      A39_2 Ax8 lx8 cx8 x9 x10 x11 M Q)) (
     Q (.tuple #[.int .i64 x10, .int .i64 x9]) M)) :
    A39_1 Ax8 lx8 cx8 x9 x10 x11 M Q :=
  LvP.mk (cuts := K39) (sp := Z39) 900 H fun G => by kernel_rfl

theorem w39_2 {Ax8 : Option Addr} {lx8 cx8 : Nat} {x9 x10 x11 : Int} {M : Mem} {Q : Value → Mem → Prop} (H :
    A39_1 Ax8 lx8 cx8 x9 x10 (IntKind.i64.wrap (x11 + 1)) M Q) :
    A39_2 Ax8 lx8 cx8 x9 x10 x11 M Q :=
  LvP.mk (cuts := K39) (sp := Z39) 900 H fun G => by kernel_rfl


end Go.Zt

/- Layer 17: the document's neighbours: two, Skip, Inter. Printed by genI.py. -/
set_option linter.unusedSimpArgs false
set_option linter.unusedVariables false
set_option maxRecDepth 100000
namespace Go.Zt
open Go Go.Sim Go.Proofs Go.RowKit

def cn (f : Bk → Bool) : List Bk → Nat
  | [] => 0
  | b :: X => (if f b then 1 else 0) + cn f X
def nbr (L : List Bk) (t : Tl) (x y : Int) : List Bk := if cntOk t x y then (atS (x - 1) y L).toList ++ (atS x (y - 1) L).toList else []
theorem cn_nbr {f : Bk → Bool} {L : List Bk} {t : Tl} {x y : Int} : cntV f L t x y = .tuple #[.int .i64 (cn f (nbr L t x y) : Nat), .int .i64 (if cntOk t x y then 0 else 2)] := by
  unfold cntV nbr cntS
  cases cntOk t x y with
  | false => rfl
  | true =>
    cases atS (x - 1) y L with
    | none =>
      cases atS x (y - 1) L with
      | none => rfl
      | some b => simp [one, cn]
    | some a =>
      cases atS x (y - 1) L with
      | none => simp [one, cn]
      | some b => simp [one, cn]
theorem nbr_len {L : List Bk} {t : Tl} {x y : Int} : (nbr L t x y).length ≤ 2 := by
  unfold nbr
  split
  · cases atS (x - 1) y L <;> cases atS x (y - 1) L <;> simp
  · simp
def TwoP (M : Mem) (L : List Bk) (t : Tl) (x y : Int) : Value → Mem → Prop := fun v N => ∃ A' c', v = .tuple #[.slice A' (nbr L t x y).length c', .int .i64 (if cntOk t x y then 0 else 2)] ∧ Keep M N ∧ Row N A' (Bks (nbr L t x y))
section
variable {V : Nat → Prop} {M : Mem} {j : Nat} {t : Tl} {L : List Bk} {x y : Int}
set_option maxHeartbeats 2000000 in
theorem c43 (hf : M.floor ≤ M.nb.size) (G : Rf V M j t L) : Cn Try.prog 43 #[PtrB j, .int .i64 x, .int .i64 y] M (TwoP M L t x y) := by
  have hm := G.may
  unfold Tl.may spanB at hm
  simp only [Bool.and_eq_true, decide_eq_true_eq] at hm
  obtain ⟨A, c, g1, _⟩ := G.ex
  have bad : cntOk t x y = false → A43_1 (some ⟨2 * j, 0, none⟩) x y true M (TwoP M L t x y) := fun h => w43_1 (cT rfl ⟨none, 0, by unfold nbr; rw [h]; rfl, .refl _, by unfold nbr; rw [h]; exact .nil⟩)
  have t8 : ∀ z : Int, z.tmod 8 = 0 ↔ z % 8 = 0 := fun z => tmod_eq (a := z) 8 (by decide)
  refine w43_0 (cne (fun h => bad (by unfold cntOk; rw [decide_eq_false (fun q => h ((t8 x).2 q.1))]; rfl)) fun h1 => cne (fun h => bad (by unfold cntOk; rw [decide_eq_false (fun q => h ((t8 y).2 q.2))]; rfl)) fun h2 => Cn.eq (c35 g1 G.may) (ty rfl ?_))
  cases hin : t.in x y with
  | false => exact bad (by unfold cntOk; rw [hin, Bool.and_false])
  | true =>
    have hok : cntOk t x y = true := by unfold cntOk; rw [hin, decide_eq_true ⟨(t8 x).1 h1, (t8 y).1 h2⟩]; rfl
    have hin' := of_decide_eq_true hin
    have fin : ∀ (X : List Bk) (A' : Option Addr) (c' : Nat) (N : Mem), X = (atS (x - 1) y L).toList ++ (atS x (y - 1) L).toList → Keep M N → Row N A' (Bks X) → TwoP M L t x y (.tuple #[.slice A' X.length c', .int .i64 0]) N := by
      intro X A' c' N hX K R
      have e : nbr L t x y = X := by unfold nbr; rw [if_pos hok, hX]
      unfold TwoP
      rw [e, if_pos hok]
      exact ⟨A', c', rfl, K, R⟩
    refine w43_1 (cF rfl ?_)
    rw [i64w (x := x - 1) (by omega), i64w (x := y - 1) (by omega)]
    refine Cn.mono (c36 hf G) ?_
    rintro _ N1 ⟨rfl, K1⟩
    cases ha : atS (x - 1) y L with
    | none =>
      refine ty rfl (ty rfl (ac0 rfl (ty rfl (ty rfl (ac0 rfl (stN (cs := zB.cs) (fb hf K1) rfl rfl rfl fun M3 K3 z3 b3 => cF rfl ?_))))))
      have T3 := K1.trans K3
      refine Cn.mono (c36 (fb hf T3) (G.keep T3)) ?_
      rintro _ N5 ⟨rfl, K5⟩
      have T5 := T3.trans K5
      cases hb : atS x (y - 1) L with
      | none =>
        refine ty rfl (ty rfl (ac0 rfl (ty rfl (ty rfl (ac0 rfl (stN (cs := zB.cs) (fb hf T5) rfl rfl rfl fun M6 K6 z6 b6 => cF rfl ?_))))))
        have T6 := T5.trans K6
        exact fin [] none 0 M6 (by rw [ha, hb]; rfl) T6 .nil
      | some b =>
        refine ty rfl (ty rfl (ac0 rfl (ty rfl (ty rfl (ac0 rfl (stN (cs := b.cs) (fb hf T5) rfl rfl rfl fun M6 K6 z6 b6 => cT rfl ?_))))))
        have T6 := T5.trans K6
        obtain ⟨A', c', M7, p7, K7, O7, _⟩ := appE elem43 hf T6 (A := none) (n := 0) (c := 0) (L := []) (vs := b.cs.toList) (.inl ⟨rfl, rfl, rfl⟩) rfl rfl rfl (by omega)
        exact on23 (bkAt b6) (me p7 (ty rfl (fin [b] A' c' M7 (by rw [ha, hb]; rfl) K7 (by have := O7.row; simpa [Bks] using this))))
    | some a =>
      refine ty rfl (ty rfl (ac0 rfl (ty rfl (ty rfl (ac0 rfl (stN (cs := a.cs) (fb hf K1) rfl rfl rfl fun M3 K3 z3 b3 => cT rfl ?_))))))
      have T3 := K1.trans K3
      obtain ⟨A', c', M4, p4, K4, O4, _⟩ := appE elem43 hf T3 (A := none) (n := 0) (c := 0) (L := []) (vs := a.cs.toList) (.inl ⟨rfl, rfl, rfl⟩) rfl rfl rfl (by omega)
      refine on23 (bkAt b3) (me p4 (ty rfl ?_))
      refine Cn.mono (c36 (fb hf K4) (G.keep K4)) ?_
      rintro _ N5 ⟨rfl, K5⟩
      have T5 := K4.trans K5
      cases hb : atS x (y - 1) L with
      | none =>
        refine ty rfl (ty rfl (ac0 rfl (ty rfl (ty rfl (ac0 rfl (stN (cs := zB.cs) (fb hf T5) rfl rfl rfl fun M6 K6 z6 b6 => cF rfl ?_))))))
        have T6 := T5.trans K6
        exact fin [a] A' c' M6 (by rw [ha, hb]; rfl) T6 (by have := (O4.row.keep K5).keep K6; simpa [Bks] using this)
      | some b =>
        refine ty rfl (ty rfl (ac0 rfl (ty rfl (ty rfl (ac0 rfl (stN (cs := b.cs) (fb hf T5) rfl rfl rfl fun M6 K6 z6 b6 => cT rfl ?_))))))
        have T6 := T5.trans K6
        obtain ⟨A2, c2, M7, p7, K7, O7, _⟩ := appE elem43 hf T6 (A := A') (n := 1) (c := c') (L := [] ++ a.cs.toList) (vs := b.cs.toList) ((O4.chg K5 fun _ _ _ h => h).chg K6 fun _ _ _ h => h) rfl rfl rfl (by omega)
        exact on23 (bkAt b6) (me p7 (ty rfl (fin [a, b] A2 c2 M7 (by rw [ha, hb]; rfl) K7 (by have := O7.row; simpa [Bks] using this))))
theorem c38 (hf : M.floor ≤ M.nb.size) (G : Rf V M j t L) : Cn Try.prog 38 #[PtrB j, .int .i64 x, .int .i64 y] M fun v N => v = cntV Bk.sk L t x y ∧ Keep M N := by
  refine w38_0 (Cn.mono (c43 hf G) ?_)
  rintro _ N ⟨A, c, rfl, K, R⟩
  refine ty rfl (ty rfl (ty rfl ?_))
  rw [cn_nbr]
  have hl := nbr_len (L := L) (t := t) (x := x) (y := y)
  generalize nbr L t x y = X at R hl ⊢
  generalize (if cntOk t x y = true then (0 : Int) else 2) = e
  have loop : ∀ (q i k : Nat), i + q = X.length → k ≤ i → A38_1 A X.length c e (k : Int) (i : Int) N fun v N => v = .tuple #[.int .i64 ((k + cn Bk.sk (X.drop i) : Nat) : Int), .int .i64 e] ∧ Keep M N := by
    intro q
    induction q with
    | zero =>
      intro i k hi hk
      refine w38_1 (cF (decide_eq_false (by omega)) ⟨?_, K⟩)
      rw [List.drop_of_length_le (by omega)]
      rfl
    | succ q ih =>
      intro i k hi hk
      have h : i < X.length := by omega
      obtain ⟨a, e1, e2⟩ := Row.elt R (s := 23) (n := X.length) (i := i) (z := (i : Int)) rfl h (by decide) (by rw [Bks_len]; omega)
      have eb : N.boolAt a.block (a.off + 4) = some (Bk.sk X[i]) := by
        have h1 : i * 23 + 4 < (Bks X).length := by rw [Bks_len]; omega
        have := e2 4 (by decide)
        have h2 := Bks_at h
        have h3 : (Bks X)[i * 23 + 4]? = X[i].cs.toList[4]? := by rw [← h2, List.getElem?_take_of_lt (by decide), List.getElem?_drop]
        have h4 : (Bks X)[i * 23 + 4]? = some (.bool (Bk.sk X[i])) := h3
        unfold Mem.boolAt
        rw [this, h4]
        rfl
      rw [List.drop_eq_getElem_cons h]
      refine w38_1 (cT (decide_eq_true (by omega)) (ix e1 (on eb ?_)))
      cases hb : Bk.sk X[i] with
      | true =>
        refine cT rfl (w38_2 ?_)
        rw [i64w (x := (k : Int) + 1) (by omega), i64w (x := (i : Int) + 1) (by omega)]
        have := ih (i + 1) (k + 1) (by omega) (by omega)
        have e : k + cn Bk.sk (X[i] :: X.drop (i + 1)) = k + 1 + cn Bk.sk (X.drop (i + 1)) := by simp only [cn, hb, if_true]; omega
        rw [e]
        exact this
      | false =>
        refine cF rfl (w38_2 ?_)
        rw [i64w (x := (i : Int) + 1) (by omega)]
        have := ih (i + 1) k (by omega) (by omega)
        have e : k + cn Bk.sk (X[i] :: X.drop (i + 1)) = k + cn Bk.sk (X.drop (i + 1)) := by simp [cn, hb]
        rw [e]
        exact this
  have := loop X.length 0 0 (by omega) (by omega)
  rw [Nat.zero_add] at this
  exact this
theorem c39 (hf : M.floor ≤ M.nb.size) (G : Rf V M j t L) : Cn Try.prog 39 #[PtrB j, .int .i64 x, .int .i64 y] M fun v N => v = cntV Bk.it L t x y ∧ Keep M N := by
  refine w39_0 (Cn.mono (c43 hf G) ?_)
  rintro _ N ⟨A, c, rfl, K, R⟩
  refine ty rfl (ty rfl (ty rfl ?_))
  rw [cn_nbr]
  have hl := nbr_len (L := L) (t := t) (x := x) (y := y)
  generalize nbr L t x y = X at R hl ⊢
  generalize (if cntOk t x y = true then (0 : Int) else 2) = e
  have loop : ∀ (q i k : Nat), i + q = X.length → k ≤ i → A39_1 A X.length c e (k : Int) (i : Int) N fun v N => v = .tuple #[.int .i64 ((k + cn Bk.it (X.drop i) : Nat) : Int), .int .i64 e] ∧ Keep M N := by
    intro q
    induction q with
    | zero =>
      intro i k hi hk
      refine w39_1 (cF (decide_eq_false (by omega)) ⟨?_, K⟩)
      rw [List.drop_of_length_le (by omega)]
      rfl
    | succ q ih =>
      intro i k hi hk
      have h : i < X.length := by omega
      obtain ⟨a, e1, e2⟩ := Row.elt R (s := 23) (n := X.length) (i := i) (z := (i : Int)) rfl h (by decide) (by rw [Bks_len]; omega)
      have eb : N.boolAt a.block (a.off + 5) = some (Bk.it X[i]) := by
        have h1 : i * 23 + 5 < (Bks X).length := by rw [Bks_len]; omega
        have := e2 5 (by decide)
        have h2 := Bks_at h
        have h3 : (Bks X)[i * 23 + 5]? = X[i].cs.toList[5]? := by rw [← h2, List.getElem?_take_of_lt (by decide), List.getElem?_drop]
        have h4 : (Bks X)[i * 23 + 5]? = some (.bool (Bk.it X[i])) := h3
        unfold Mem.boolAt
        rw [this, h4]
        rfl
      rw [List.drop_eq_getElem_cons h]
      refine w39_1 (cT (decide_eq_true (by omega)) (ix e1 (on eb ?_)))
      cases hb : Bk.it X[i] with
      | true =>
        refine cT rfl (w39_2 ?_)
        rw [i64w (x := (k : Int) + 1) (by omega), i64w (x := (i : Int) + 1) (by omega)]
        have := ih (i + 1) (k + 1) (by omega) (by omega)
        have e : k + cn Bk.it (X[i] :: X.drop (i + 1)) = k + 1 + cn Bk.it (X.drop (i + 1)) := by simp only [cn, hb, if_true]; omega
        rw [e]
        exact this
      | false =>
        refine cF rfl (w39_2 ?_)
        rw [i64w (x := (i : Int) + 1) (by omega)]
        have := ih (i + 1) k (by omega) (by omega)
        have e : k + cn Bk.it (X[i] :: X.drop (i + 1)) = k + cn Bk.it (X.drop (i + 1)) := by simp [cn, hb]
        rw [e]
        exact this
  have := loop X.length 0 0 (by omega) (by omega)
  rw [Nat.zero_add] at this
  exact this
end
end Go.Zt

/- The functions' walks: for each function and each loop a rule of what it comes to. Printed by zw2.py. -/
set_option linter.unusedVariables false
set_option maxRecDepth 100000
namespace Go.Zt
open Go Go.Sim Go.Proofs

def tyZpI0 : List Sc := [.int .i64, .int .i64, .int .i64, .int .i64, .bool, .bool, .int .i64, .int .i64, .int .i64, .int .i64, .int .i64, .int .i64, .int .i64, .bool, .int .i64, .int .i64, .int .i64, .int .i64, .int .i64, .int .i64, .int .i64, .int .i64, .bool]
/-! ### (*zoetrope/zoetroperef17.Grid).Vecs: function 40 -/
def K40 : List (List It × List Nat) := [([.rg [1,1,0,0] 11, .code [1,1,0,1], .code [1,1,1]], [0, 2, 4, 6, 9, 27]), ([.rg [1,1,0,0] 20, .code [1,1,0,1], .code [1,1,1]], [0, 2, 4, 6, 9, 36]), ([.rg [1,1,0,0] 25, .code [1,1,0,1], .code [1,1,1]], [0, 2, 4, 6, 9, 41]), ([.rg [1,1,0,0] 30, .code [1,1,0,1], .code [1,1,1]], [0, 2, 4, 6, 9, 46]), ([.rg [1,1,0,0] 36, .code [1,1,0,1], .code [1,1,1]], [0, 2, 4, 6, 9, 52]), ([.rg [1,1,0,0] 40, .code [1,1,0,1], .code [1,1,1]], [0, 2, 4, 6, 9, 56]), ([.code [1,1,0,1], .code [1,1,1]], [0, 2, 4, 6, 9, 59]), ([.code [1,1,1,1,1,1,0,1,0,0], .lp [1,1,1,1,1,1,0,1,0,0], .blk 0, .code [1,1,1,1,1,1,1]], [0, 2, 6, 9, 10, 11, 12, 13]), ([.code [1,1,1,1,1,1,0,1,0,0,1,0,0,1,0,1], .code [1,1,1,1,1,1,0,1,0,0,1,0,0,1,1], .blk 1, .code [1,1,1,1,1,1,0,1,0,0,1,1], .lp [1,1,1,1,1,1,0,1,0,0], .blk 0, .code [1,1,1,1,1,1,1]], [0, 2, 6, 9, 10, 11, 12, 13, 14, 110]), ([.code [1,1,1,1,1,1,0,1,0,0,1,1], .lp [1,1,1,1,1,1,0,1,0,0], .blk 0, .code [1,1,1,1,1,1,1]], [0, 2, 6, 9, 10, 11, 12, 13]), ([.code [1,1,1,1,1,1,0,1,0,0,1,0,0,1,1,1,0,1,0,0,1], .code [1,1,1,1,1,1,0,1,0,0,1,0,0,1,1,1,0,1,0,1], .code [1,1,1,1,1,1,0,1,0,0,1,0,0,1,1,1,1], .blk 1, .code [1,1,1,1,1,1,0,1,0,0,1,1], .lp [1,1,1,1,1,1,0,1,0,0], .blk 0, .code [1,1,1,1,1,1,1]], [0, 2, 6, 9, 10, 11, 12, 13, 14, 16, 128]), ([.code [1,1,1,1,1,1,0,1,0,0,1,0,0,1,1,1,1,1], .blk 1, .code [1,1,1,1,1,1,0,1,0,0,1,1], .lp [1,1,1,1,1,1,0,1,0,0], .blk 0, .code [1,1,1,1,1,1,1]], [0, 2, 6, 9, 10, 11, 12, 13, 16, 143])]
def Z40 : List (List Nat × List Nat) := [([1,1,0,0], [11, 20, 25, 30, 36, 40, 43])]
theorem b40 : Try.prog.funcs[40]? = some Try.f40 ∧ (Orc.tab Try.prog).lookup 40 = none ∧ Try.f40.body = some (codeOf Try.f40) := ⟨by kernel_rfl, by kernel_rfl, by kernel_rfl⟩
def A40_1 (x0 : Option Addr) (x2 : Int) (x4 x6 x9 : Option Addr) (x27 : Bool) (M : Mem) (Q : Value → Mem → Prop) : Prop := LvP Try.prog Try.f40 [(0, .pointer x0), (2, .int .i64 x2), (4, .pointer x4), (6, .pointer x6), (9, .pointer x9), (27, .bool x27)] [.rg [1,1,0,0] 11, .code [1,1,0,1], .code [1,1,1]] M Q
def A40_2 (x0 : Option Addr) (x2 : Int) (x4 x6 x9 : Option Addr) (x36 : Bool) (M : Mem) (Q : Value → Mem → Prop) : Prop := LvP Try.prog Try.f40 [(0, .pointer x0), (2, .int .i64 x2), (4, .pointer x4), (6, .pointer x6), (9, .pointer x9), (36, .bool x36)] [.rg [1,1,0,0] 20, .code [1,1,0,1], .code [1,1,1]] M Q
def A40_3 (x0 : Option Addr) (x2 : Int) (x4 x6 x9 : Option Addr) (x41 : Bool) (M : Mem) (Q : Value → Mem → Prop) : Prop := LvP Try.prog Try.f40 [(0, .pointer x0), (2, .int .i64 x2), (4, .pointer x4), (6, .pointer x6), (9, .pointer x9), (41, .bool x41)] [.rg [1,1,0,0] 25, .code [1,1,0,1], .code [1,1,1]] M Q
def A40_4 (x0 : Option Addr) (x2 : Int) (x4 x6 x9 : Option Addr) (x46 : Bool) (M : Mem) (Q : Value → Mem → Prop) : Prop := LvP Try.prog Try.f40 [(0, .pointer x0), (2, .int .i64 x2), (4, .pointer x4), (6, .pointer x6), (9, .pointer x9), (46, .bool x46)] [.rg [1,1,0,0] 30, .code [1,1,0,1], .code [1,1,1]] M Q
def A40_5 (x0 : Option Addr) (x2 : Int) (x4 x6 x9 : Option Addr) (x52 : Bool) (M : Mem) (Q : Value → Mem → Prop) : Prop := LvP Try.prog Try.f40 [(0, .pointer x0), (2, .int .i64 x2), (4, .pointer x4), (6, .pointer x6), (9, .pointer x9), (52, .bool x52)] [.rg [1,1,0,0] 36, .code [1,1,0,1], .code [1,1,1]] M Q
def A40_6 (x0 : Option Addr) (x2 : Int) (x4 x6 x9 : Option Addr) (x56 : Bool) (M : Mem) (Q : Value → Mem → Prop) : Prop := LvP Try.prog Try.f40 [(0, .pointer x0), (2, .int .i64 x2), (4, .pointer x4), (6, .pointer x6), (9, .pointer x9), (56, .bool x56)] [.rg [1,1,0,0] 40, .code [1,1,0,1], .code [1,1,1]] M Q
def A40_7 (x0 : Option Addr) (x2 : Int) (x4 x6 x9 : Option Addr) (x59 : Bool) (M : Mem) (Q : Value → Mem → Prop) : Prop := LvP Try.prog Try.f40 [(0, .pointer x0), (2, .int .i64 x2), (4, .pointer x4), (6, .pointer x6), (9, .pointer x9), (59, .bool x59)] [.code [1,1,0,1], .code [1,1,1]] M Q
def A40_8 (x0 : Option Addr) (x2 : Int) (x6 x9 Ax10 : Option Addr) (lx10 cx10 : Nat) (Ax11 : Option Addr) (lx11 cx11 : Nat) (x12 x13 : Int) (M : Mem) (Q : Value → Mem → Prop) : Prop := LvP Try.prog Try.f40 [(0, .pointer x0), (2, .int .i64 x2), (6, .pointer x6), (9, .pointer x9), (10, .slice Ax10 lx10 cx10), (11, .slice Ax11 lx11 cx11), (12, .int .i64 x12), (13, .int .i64 x13)] [.code [1,1,1,1,1,1,0,1,0,0], .lp [1,1,1,1,1,1,0,1,0,0], .blk 0, .code [1,1,1,1,1,1,1]] M Q
def A40_9 (x0 : Option Addr) (x2 : Int) (x6 x9 Ax10 : Option Addr) (lx10 cx10 : Nat) (Ax11 : Option Addr) (lx11 cx11 : Nat) (x12 x13 : Int) (x14 : Option Addr) (x110 : Bool) (M : Mem) (Q : Value → Mem → Prop) : Prop := LvP Try.prog Try.f40 [(0, .pointer x0), (2, .int .i64 x2), (6, .pointer x6), (9, .pointer x9), (10, .slice Ax10 lx10 cx10), (11, .slice Ax11 lx11 cx11), (12, .int .i64 x12), (13, .int .i64 x13), (14, .pointer x14), (110, .bool x110)] [.code [1,1,1,1,1,1,0,1,0,0,1,0,0,1,0,1], .code [1,1,1,1,1,1,0,1,0,0,1,0,0,1,1], .blk 1, .code [1,1,1,1,1,1,0,1,0,0,1,1], .lp [1,1,1,1,1,1,0,1,0,0], .blk 0, .code [1,1,1,1,1,1,1]] M Q
def A40_10 (x0 : Option Addr) (x2 : Int) (x6 x9 Ax10 : Option Addr) (lx10 cx10 : Nat) (Ax11 : Option Addr) (lx11 cx11 : Nat) (x12 x13 : Int) (M : Mem) (Q : Value → Mem → Prop) : Prop := LvP Try.prog Try.f40 [(0, .pointer x0), (2, .int .i64 x2), (6, .pointer x6), (9, .pointer x9), (10, .slice Ax10 lx10 cx10), (11, .slice Ax11 lx11 cx11), (12, .int .i64 x12), (13, .int .i64 x13)] [.code [1,1,1,1,1,1,0,1,0,0,1,1], .lp [1,1,1,1,1,1,0,1,0,0], .blk 0, .code [1,1,1,1,1,1,1]] M Q
def A40_11 (x0 : Option Addr) (x2 : Int) (x6 x9 Ax10 : Option Addr) (lx10 cx10 : Nat) (Ax11 : Option Addr) (lx11 cx11 : Nat) (x12 x13 : Int) (x14 x16 : Option Addr) (x128 : Bool) (M : Mem) (Q : Value → Mem → Prop) : Prop := LvP Try.prog Try.f40 [(0, .pointer x0), (2, .int .i64 x2), (6, .pointer x6), (9, .pointer x9), (10, .slice Ax10 lx10 cx10), (11, .slice Ax11 lx11 cx11), (12, .int .i64 x12), (13, .int .i64 x13), (14, .pointer x14), (16, .pointer x16), (128, .bool x128)] [.code [1,1,1,1,1,1,0,1,0,0,1,0,0,1,1,1,0,1,0,0,1], .code [1,1,1,1,1,1,0,1,0,0,1,0,0,1,1,1,0,1,0,1], .code [1,1,1,1,1,1,0,1,0,0,1,0,0,1,1,1,1], .blk 1, .code [1,1,1,1,1,1,0,1,0,0,1,1], .lp [1,1,1,1,1,1,0,1,0,0], .blk 0, .code [1,1,1,1,1,1,1]] M Q
def A40_12 (x0 : Option Addr) (x2 : Int) (x6 x9 Ax10 : Option Addr) (lx10 cx10 : Nat) (Ax11 : Option Addr) (lx11 cx11 : Nat) (x12 x13 : Int) (x16 : Option Addr) (x143 : Bool) (M : Mem) (Q : Value → Mem → Prop) : Prop := LvP Try.prog Try.f40 [(0, .pointer x0), (2, .int .i64 x2), (6, .pointer x6), (9, .pointer x9), (10, .slice Ax10 lx10 cx10), (11, .slice Ax11 lx11 cx11), (12, .int .i64 x12), (13, .int .i64 x13), (16, .pointer x16), (143, .bool x143)] [.code [1,1,1,1,1,1,0,1,0,0,1,0,0,1,1,1,1,1], .blk 1, .code [1,1,1,1,1,1,0,1,0,0,1,1], .lp [1,1,1,1,1,1,0,1,0,0], .blk 0, .code [1,1,1,1,1,1,1]] M Q
theorem w40_0 {x0 : Option Addr} {x1_0 x1_1 x1_2 x1_3 x2 : Int} {M : Mem} {Q : Value → Mem → Prop} (H :
    onS ((((M.new (.cells #[.int .i64 x1_0, .int .i64 x1_1, .int .i64 x1_2, .int .i64 x1_3] 35)).new (.cells #[.int .i64 0, .int .i64 0, .int .i64 0, .int .i64 0] 25)).new (.cells #[.int .i64 0, .int .i64 0, .int .i64 0, .int .i64 0] 25)).intAt .i64 (2 * M.nb.size) 0) fun x1' =>
    cnd ((x1'.tmod 8) != 0) (
     A40_1 x0 x2 (some ⟨2 * M.nb.size, 0, none⟩) (some ⟨2 * (M.new (.cells #[.int .i64 x1_0, .int .i64 x1_1, .int .i64 x1_2, .int .i64 x1_3] 35)).nb.size, 0, none⟩) (some ⟨2 * ((M.new (.cells #[.int .i64 x1_0, .int .i64 x1_1, .int .i64 x1_2, .int .i64 x1_3] 35)).new (.cells #[.int .i64 0, .int .i64 0, .int .i64 0, .int .i64 0] 25)).nb.size, 0, none⟩) true (((M.new (.cells #[.int .i64 x1_0, .int .i64 x1_1, .int .i64 x1_2, .int .i64 x1_3] 35)).new (.cells #[.int .i64 0, .int .i64 0, .int .i64 0, .int .i64 0] 25)).new (.cells #[.int .i64 0, .int .i64 0, .int .i64 0, .int .i64 0] 25)) Q) (
     onS ((((M.new (.cells #[.int .i64 x1_0, .int .i64 x1_1, .int .i64 x1_2, .int .i64 x1_3] 35)).new (.cells #[.int .i64 0, .int .i64 0, .int .i64 0, .int .i64 0] 25)).new (.cells #[.int .i64 0, .int .i64 0, .int .i64 0, .int .i64 0] 25)).intAt .i64 (2 * M.nb.size) (0 + 1)) fun x2' =>
     A40_1 x0 x2 (some ⟨2 * M.nb.size, 0, none⟩) (some ⟨2 * (M.new (.cells #[.int .i64 x1_0, .int .i64 x1_1, .int .i64 x1_2, .int .i64 x1_3] 35)).nb.size, 0, none⟩) (some ⟨2 * ((M.new (.cells #[.int .i64 x1_0, .int .i64 x1_1, .int .i64 x1_2, .int .i64 x1_3] 35)).new (.cells #[.int .i64 0, .int .i64 0, .int .i64 0, .int .i64 0] 25)).nb.size, 0, none⟩) ((x2'.tmod 8) != 0) (((M.new (.cells #[.int .i64 x1_0, .int .i64 x1_1, .int .i64 x1_2, .int .i64 x1_3] 35)).new (.cells #[.int .i64 0, .int .i64 0, .int .i64 0, .int .i64 0] 25)).new (.cells #[.int .i64 0, .int .i64 0, .int .i64 0, .int .i64 0] 25)) Q)) :
    Cn Try.prog 40 #[.pointer x0, .agg #[.int .i64 x1_0, .int .i64 x1_1, .int .i64 x1_2, .int .i64 x1_3], .int .i64 x2] M Q :=
  Cn.mk (cuts := K40) (sp := Z40) 900 b40 rfl rfl H fun G => by kernel_rfl

theorem w40_1 {x0 : Option Addr} {x2 : Int} {x4 x6 x9 : Option Addr} {x27 : Bool} {M : Mem} {Q : Value → Mem → Prop} (H :
    cnd x27 (
     A40_2 x0 x2 x4 x6 x9 true M Q) (
     adS x4 fun a3' =>
     onS (M.intAt .i64 a3'.block a3'.off) fun x4' =>
     adS x4 fun a5' =>
     onS (M.intAt .i64 a5'.block (a5'.off + 1)) fun x6' =>
     Cn Try.prog 35 #[.pointer x0, .int .i64 x4', .int .i64 x6'] M fun v7' N7' =>
      tyS (asB v7') fun b8' =>
      A40_2 x0 x2 x4 x6 x9 (!b8') N7' Q)) :
    A40_1 x0 x2 x4 x6 x9 x27 M Q :=
  LvP.mk (cuts := K40) (sp := Z40) 900 H fun G => by kernel_rfl

theorem w40_2 {x0 : Option Addr} {x2 : Int} {x4 x6 x9 : Option Addr} {x36 : Bool} {M : Mem} {Q : Value → Mem → Prop} (H :
    cnd x36 (
     A40_3 x0 x2 x4 x6 x9 true M Q) (
     adS x4 fun a9' =>
     onS (M.intAt .i64 a9'.block (a9'.off + 2)) fun x10' =>
     A40_3 x0 x2 x4 x6 x9 (decide (x10' < 8)) M Q)) :
    A40_2 x0 x2 x4 x6 x9 x36 M Q :=
  LvP.mk (cuts := K40) (sp := Z40) 900 H fun G => by kernel_rfl

theorem w40_3 {x0 : Option Addr} {x2 : Int} {x4 x6 x9 : Option Addr} {x41 : Bool} {M : Mem} {Q : Value → Mem → Prop} (H :
    cnd x41 (
     A40_4 x0 x2 x4 x6 x9 true M Q) (
     adS x4 fun a11' =>
     onS (M.intAt .i64 a11'.block (a11'.off + 2)) fun x12' =>
     A40_4 x0 x2 x4 x6 x9 (decide (x12' > 64)) M Q)) :
    A40_3 x0 x2 x4 x6 x9 x41 M Q :=
  LvP.mk (cuts := K40) (sp := Z40) 900 H fun G => by kernel_rfl

theorem w40_4 {x0 : Option Addr} {x2 : Int} {x4 x6 x9 : Option Addr} {x46 : Bool} {M : Mem} {Q : Value → Mem → Prop} (H :
    cnd x46 (
     A40_5 x0 x2 x4 x6 x9 true M Q) (
     adS x4 fun a13' =>
     onS (M.intAt .i64 a13'.block (a13'.off + 2)) fun x14' =>
     A40_5 x0 x2 x4 x6 x9 ((x14'.tmod 8) != 0) M Q)) :
    A40_4 x0 x2 x4 x6 x9 x46 M Q :=
  LvP.mk (cuts := K40) (sp := Z40) 900 H fun G => by kernel_rfl

theorem w40_5 {x0 : Option Addr} {x2 : Int} {x4 x6 x9 : Option Addr} {x52 : Bool} {M : Mem} {Q : Value → Mem → Prop} (H :
    cnd x52 (
     A40_6 x0 x2 x4 x6 x9 true M Q) (
     A40_6 x0 x2 x4 x6 x9 (decide (x2 < 0)) M Q)) :
    A40_5 x0 x2 x4 x6 x9 x52 M Q :=
  LvP.mk (cuts := K40) (sp := Z40) 900 H fun G => by kernel_rfl

theorem w40_6 {x0 : Option Addr} {x2 : Int} {x4 x6 x9 : Option Addr} {x56 : Bool} {M : Mem} {Q : Value → Mem → Prop} (H :
    cnd x56 (
     A40_7 x0 x2 x4 x6 x9 true M Q) (
     A40_7 x0 x2 x4 x6 x9 (decide (x2 > 2)) M Q)) :
    A40_6 x0 x2 x4 x6 x9 x56 M Q :=
  LvP.mk (cuts := K40) (sp := Z40) 900 H fun G => by kernel_rfl

theorem w40_7 {x0 : Option Addr} {x2 : Int} {x4 x6 x9 : Option Addr} {x59 : Bool} {M : Mem} {Q : Value → Mem → Prop} (H :
    cnd x59 (
     adS x9 fun a15' =>
     onS (M.intAt .i64 a15'.block a15'.off) fun x16' =>
     onS (M.intAt .i64 a15'.block (a15'.off + 1)) fun x17' =>
     onS (M.intAt .i64 a15'.block (a15'.off + 2)) fun x18' =>
     onS (M.intAt .i64 a15'.block (a15'.off + 3)) fun x19' =>
     adS x6 fun a20' =>
     stP (some 4) #[.int .i64 x16', .int .i64 x17', .int .i64 x18', .int .i64 x19'] M a20'.block a20'.off fun M21' =>
     adS x6 fun a22' =>
     onS (M21'.intAt .i64 a22'.block a22'.off) fun x23' =>
     onS (M21'.intAt .i64 a22'.block (a22'.off + 1)) fun x24' =>
     onS (M21'.intAt .i64 a22'.block (a22'.off + 2)) fun x25' =>
     onS (M21'.intAt .i64 a22'.block (a22'.off + 3)) fun x26' =>
     Q (.tuple #[.agg #[.int .i64 (x23'), .int .i64 (x24'), .int .i64 (x25'), .int .i64 (x26')], .int .i64 0, .int .i64 2]) M21') (
     adS x4 fun a27' =>
     onS (M.intAt .i64 a27'.block a27'.off) fun x28' =>
     adS x4 fun a29' =>
     onS (M.intAt .i64 a29'.block a29'.off) fun x30' =>
     adS x4 fun a31' =>
     onS (M.intAt .i64 a31'.block a31'.off) fun x32' =>
     adS x4 fun a33' =>
     onS (M.intAt .i64 a33'.block (a33'.off + 2)) fun x34' =>
     adS x4 fun a35' =>
     onS (M.intAt .i64 a35'.block a35'.off) fun x36' =>
     adS x4 fun a37' =>
     onS ((M.new (.cells #[.int .i64 (IntKind.i64.wrap (x28' - 1)), .int .i64 x30', .int .i64 (IntKind.i64.wrap (x32' + x34')), .int .i64 (IntKind.i64.wrap (x36' - 1))] 3)).intAt .i64 a37'.block (a37'.off + 1)) fun x38' =>
     adS x4 fun a39' =>
     onS ((M.new (.cells #[.int .i64 (IntKind.i64.wrap (x28' - 1)), .int .i64 x30', .int .i64 (IntKind.i64.wrap (x32' + x34')), .int .i64 (IntKind.i64.wrap (x36' - 1))] 3)).intAt .i64 a39'.block (a39'.off + 1)) fun x40' =>
     adS x4 fun a41' =>
     onS ((M.new (.cells #[.int .i64 (IntKind.i64.wrap (x28' - 1)), .int .i64 x30', .int .i64 (IntKind.i64.wrap (x32' + x34')), .int .i64 (IntKind.i64.wrap (x36' - 1))] 3)).intAt .i64 a41'.block (a41'.off + 1)) fun x42' =>
     adS x4 fun a43' =>
     onS ((M.new (.cells #[.int .i64 (IntKind.i64.wrap (x28' - 1)), .int .i64 x30', .int .i64 (IntKind.i64.wrap (x32' + x34')), .int .i64 (IntKind.i64.wrap (x36' - 1))] 3)).intAt .i64 a43'.block (a43'.off + 1)) fun x44' =>
     A40_8 x0 x2 x6 x9 (some ⟨2 * M.nb.size, 0, none⟩) 4 4 (some ⟨2 * (M.new (.cells #[.int .i64 (IntKind.i64.wrap (x28' - 1)), .int .i64 x30', .int .i64 (IntKind.i64.wrap (x32' + x34')), .int .i64 (IntKind.i64.wrap (x36' - 1))] 3)).nb.size, 0, none⟩) 4 4 0 0 ((M.new (.cells #[.int .i64 (IntKind.i64.wrap (x28' - 1)), .int .i64 x30', .int .i64 (IntKind.i64.wrap (x32' + x34')), .int .i64 (IntKind.i64.wrap (x36' - 1))] 3)).new (.cells #[.int .i64 x38', .int .i64 (IntKind.i64.wrap (x40' - 1)), .int .i64 (IntKind.i64.wrap (x42' - 1)), .int .i64 (IntKind.i64.wrap (x44' - 1))] 3)) Q)) :
    A40_7 x0 x2 x4 x6 x9 x59 M Q :=
  LvP.mk (cuts := K40) (sp := Z40) 900 H fun G => by kernel_rfl

theorem w40_8 {x0 : Option Addr} {x2 : Int} {x6 x9 Ax10 : Option Addr} {lx10 cx10 : Nat} {Ax11 : Option Addr} {lx11 cx11 : Nat} {x12 x13 : Int} {M : Mem} {Q : Value → Mem → Prop} (H :
    cnd (decide (x13 < 4)) (
     ixS (idxA Ax10 lx10 1 x13) fun a45' =>
     onS ((M.res 1).intAt .i64 a45'.block a45'.off) fun x46' =>
     ixS (idxA Ax11 lx11 1 x13) fun a47' =>
     onS ((M.res 1).intAt .i64 a47'.block a47'.off) fun x48' =>
     Cn Try.prog 36 #[.pointer x0, .int .i64 x46', .int .i64 x48'] (M.res 1) fun v49' N49' =>
      tyS (asU 2 v49') fun cs50' =>
      tyS (asA 23 (cs50'.getD 0 undef)) fun cs51' =>
      asCellsP tyZpI0 0 cs51' fun vs52' =>
      tyS (asB (cs50'.getD 1 undef)) fun b53' =>
      tyS (asA 23 (.agg vs52'.toArray)) fun cs54' =>
      asCellsP tyZpI0 0 cs54' fun vs55' =>
      stP (some 23) vs55'.toArray (N49'.upd (M.nb.size + 0) (.cells #[.int .i64 0, .int .i64 0, .int .i64 0, .int .i64 0, .bool false, .bool false, .int .i64 0, .int .i64 0, .int .i64 0, .int .i64 0, .int .i64 0, .int .i64 0, .int .i64 0, .bool false, .int .i64 0, .int .i64 0, .int .i64 0, .int .i64 0, .int .i64 0, .int .i64 0, .int .i64 0, .int .i64 0, .bool false] 27)) (2 * (M.nb.size + 0)) 0 fun M56' =>
      cnd (!b53') (
       A40_9 x0 x2 x6 x9 Ax10 lx10 cx10 Ax11 lx11 cx11 x12 x13 (some ⟨2 * (M.nb.size + 0), 0, none⟩) true M56' Q) (
       onS (M56'.boolAt (2 * (M.nb.size + 0)) (0 + 5)) fun b57' =>
       A40_9 x0 x2 x6 x9 Ax10 lx10 cx10 Ax11 lx11 cx11 x12 x13 (some ⟨2 * (M.nb.size + 0), 0, none⟩) (!b57') M56' Q)) (
     adS x9 fun a58' =>
     onS (M.intAt .i64 a58'.block a58'.off) fun x59' =>
     onS (M.intAt .i64 a58'.block (a58'.off + 1)) fun x60' =>
     onS (M.intAt .i64 a58'.block (a58'.off + 2)) fun x61' =>
     onS (M.intAt .i64 a58'.block (a58'.off + 3)) fun x62' =>
     adS x6 fun a63' =>
     stP (some 4) #[.int .i64 x59', .int .i64 x60', .int .i64 x61', .int .i64 x62'] M a63'.block a63'.off fun M64' =>
     adS x6 fun a65' =>
     onS (M64'.intAt .i64 a65'.block a65'.off) fun x66' =>
     onS (M64'.intAt .i64 a65'.block (a65'.off + 1)) fun x67' =>
     onS (M64'.intAt .i64 a65'.block (a65'.off + 2)) fun x68' =>
     onS (M64'.intAt .i64 a65'.block (a65'.off + 3)) fun x69' =>
     Q (.tuple #[.agg #[.int .i64 (x66'), .int .i64 (x67'), .int .i64 (x68'), .int .i64 (x69')], .int .i64 x12, .int .i64 0]) M64')) :
    A40_8 x0 x2 x6 x9 Ax10 lx10 cx10 Ax11 lx11 cx11 x12 x13 M Q :=
  LvP.mk (cuts := K40) (sp := Z40) 900 H fun G => by kernel_rfl

theorem w40_9 {x0 : Option Addr} {x2 : Int} {x6 x9 Ax10 : Option Addr} {lx10 cx10 : Nat} {Ax11 : Option Addr} {lx11 cx11 : Nat} {x12 x13 : Int} {x14 : Option Addr} {x110 : Bool} {M : Mem} {Q : Value → Mem → Prop} (H :
    cnd x110 (
     A40_10 x0 x2 x6 x9 Ax10 lx10 cx10 Ax11 lx11 cx11 x12 x13 M Q) (
     adS x14 fun a70' =>
     ixS (idxA (some ⟨a70'.block, a70'.off + 17, none⟩) 2 2 0) fun a71' =>
     onS (M.intAt .i64 a71'.block a71'.off) fun x72' =>
     onS (M.intAt .i64 a71'.block (a71'.off + 1)) fun x73' =>
     stP (some 2) #[.int .i64 x72', .int .i64 x73'] (M.new (.cells #[.int .i64 0, .int .i64 0] 24)) (2 * M.nb.size) 0 fun M74' =>
     adS x14 fun a75' =>
     ixS (idxA (some ⟨a75'.block, a75'.off + 14, none⟩) 2 1 0) fun a76' =>
     onS (M74'.intAt .i64 a76'.block a76'.off) fun x77' =>
     cnd (x77' != x2) (
      adS x14 fun a78' =>
      onS (M74'.boolAt a78'.block (a78'.off + 13)) fun b79' =>
      cnd (!b79') (
       A40_11 x0 x2 x6 x9 Ax10 lx10 cx10 Ax11 lx11 cx11 x12 x13 x14 (some ⟨2 * M.nb.size, 0, none⟩) true M74' Q) (
       adS x14 fun a80' =>
       ixS (idxA (some ⟨a80'.block, a80'.off + 14, none⟩) 2 1 1) fun a81' =>
       onS (M74'.intAt .i64 a81'.block a81'.off) fun x82' =>
       A40_11 x0 x2 x6 x9 Ax10 lx10 cx10 Ax11 lx11 cx11 x12 x13 x14 (some ⟨2 * M.nb.size, 0, none⟩) (x82' != x2) M74' Q)) (
      cnd (x12 == 0) (
       A40_12 x0 x2 x6 x9 Ax10 lx10 cx10 Ax11 lx11 cx11 x12 x13 (some ⟨2 * M.nb.size, 0, none⟩) true M74' Q) (
       cnd (x12 == 1) (
        onS (M74'.intAt .i64 (2 * M.nb.size) 0) fun x83' =>
        onS (M74'.intAt .i64 (2 * M.nb.size) (0 + 1)) fun x84' =>
        ixS (idxA x9 2 2 0) fun a85' =>
        onS (M74'.intAt .i64 a85'.block a85'.off) fun x86' =>
        onS (M74'.intAt .i64 a85'.block (a85'.off + 1)) fun x87' =>
        puS (binV Try.prog .neq 24 24 (.agg #[.int .i64 x83', .int .i64 x84']) (.agg #[.int .i64 x86', .int .i64 x87'])) fun v88' =>
        tyS (asB v88') fun b89' =>
        A40_12 x0 x2 x6 x9 Ax10 lx10 cx10 Ax11 lx11 cx11 x12 x13 (some ⟨2 * M.nb.size, 0, none⟩) b89' M74' Q) (
        A40_12 x0 x2 x6 x9 Ax10 lx10 cx10 Ax11 lx11 cx11 x12 x13 (some ⟨2 * M.nb.size, 0, none⟩) false M74' Q))))) :
    A40_9 x0 x2 x6 x9 Ax10 lx10 cx10 Ax11 lx11 cx11 x12 x13 x14 x110 M Q :=
  LvP.mk (cuts := K40) (sp := Z40) 900 H fun G => by kernel_rfl

theorem w40_10 {x0 : Option Addr} {x2 : Int} {x6 x9 Ax10 : Option Addr} {lx10 cx10 : Nat} {Ax11 : Option Addr} {lx11 cx11 : Nat} {x12 x13 : Int} {M : Mem} {Q : Value → Mem → Prop} (H :
    A40_8 x0 x2 x6 x9 Ax10 lx10 cx10 Ax11 lx11 cx11 x12 (IntKind.i64.wrap (x13 + 1)) M Q) :
    A40_10 x0 x2 x6 x9 Ax10 lx10 cx10 Ax11 lx11 cx11 x12 x13 M Q :=
  LvP.mk (cuts := K40) (sp := Z40) 900 H fun G => by kernel_rfl

theorem w40_11 {x0 : Option Addr} {x2 : Int} {x6 x9 Ax10 : Option Addr} {lx10 cx10 : Nat} {Ax11 : Option Addr} {lx11 cx11 : Nat} {x12 x13 : Int} {x14 x16 : Option Addr} {x128 : Bool} {M : Mem} {Q : Value → Mem → Prop} (H :
    cnd x128 (
     A40_10 x0 x2 x6 x9 Ax10 lx10 cx10 Ax11 lx11 cx11 x12 x13 M Q) (
     adS x14 fun a90' =>
     ixS (idxA (some ⟨a90'.block, a90'.off + 17, none⟩) 2 2 1) fun a91' =>
     onS (M.intAt .i64 a91'.block a91'.off) fun x92' =>
     onS (M.intAt .i64 a91'.block (a91'.off + 1)) fun x93' =>
     adS x16 fun a94' =>
     stP (some 2) #[.int .i64 x92', .int .i64 x93'] M a94'.block a94'.off fun M95' =>
     cnd (x12 == 0) (
      A40_12 x0 x2 x6 x9 Ax10 lx10 cx10 Ax11 lx11 cx11 x12 x13 x16 true M95' Q) (
      cnd (x12 == 1) (
       adS x16 fun a96' =>
       onS (M95'.intAt .i64 a96'.block a96'.off) fun x97' =>
       onS (M95'.intAt .i64 a96'.block (a96'.off + 1)) fun x98' =>
       ixS (idxA x9 2 2 0) fun a99' =>
       onS (M95'.intAt .i64 a99'.block a99'.off) fun x100' =>
       onS (M95'.intAt .i64 a99'.block (a99'.off + 1)) fun x101' =>
       puS (binV Try.prog .neq 24 24 (.agg #[.int .i64 x97', .int .i64 x98']) (.agg #[.int .i64 x100', .int .i64 x101'])) fun v102' =>
       tyS (asB v102') fun b103' =>
       A40_12 x0 x2 x6 x9 Ax10 lx10 cx10 Ax11 lx11 cx11 x12 x13 x16 b103' M95' Q) (
       A40_12 x0 x2 x6 x9 Ax10 lx10 cx10 Ax11 lx11 cx11 x12 x13 x16 false M95' Q)))) :
    A40_11 x0 x2 x6 x9 Ax10 lx10 cx10 Ax11 lx11 cx11 x12 x13 x14 x16 x128 M Q :=
  LvP.mk (cuts := K40) (sp := Z40) 900 H fun G => by kernel_rfl

theorem w40_12 {x0 : Option Addr} {x2 : Int} {x6 x9 Ax10 : Option Addr} {lx10 cx10 : Nat} {Ax11 : Option Addr} {lx11 cx11 : Nat} {x12 x13 : Int} {x16 : Option Addr} {x143 : Bool} {M : Mem} {Q : Value → Mem → Prop} (H :
    cnd x143 (
     adS x16 fun a104' =>
     onS (M.intAt .i64 a104'.block a104'.off) fun x105' =>
     onS (M.intAt .i64 a104'.block (a104'.off + 1)) fun x106' =>
     ixS (idxA x9 2 2 x12) fun a107' =>
     stP (some 2) #[.int .i64 x105', .int .i64 x106'] M a107'.block a107'.off fun M108' =>
     A40_10 x0 x2 x6 x9 Ax10 lx10 cx10 Ax11 lx11 cx11 (IntKind.i64.wrap (x12 + 1)) x13 M108' Q) (
     A40_10 x0 x2 x6 x9 Ax10 lx10 cx10 Ax11 lx11 cx11 x12 x13 M Q)) :
    A40_12 x0 x2 x6 x9 Ax10 lx10 cx10 Ax11 lx11 cx11 x12 x13 x16 x143 M Q :=
  LvP.mk (cuts := K40) (sp := Z40) 900 H fun G => by kernel_rfl


end Go.Zt

/- Layer 17: Vecs of the document. Printed by genJ.py. -/
set_option linter.unusedSimpArgs false
set_option linter.unusedVariables false
set_option maxRecDepth 100000
namespace Go.Zt
open Go Go.Sim Go.Proofs Go.RowKit

theorem keepRes (M : Mem) (k : Nat) : Keep M (M.res k) := ⟨(res_same M k).1, (res_same M k).2, by rw [res_size]; omega, fun j hj _ => by rw [res_at, if_pos hj]⟩
theorem nv24 (a b c d : Int) : binV Try.prog .neq 24 24 (.agg #[.int .i64 a, .int .i64 b]) (.agg #[.int .i64 c, .int .i64 d]) = some (.bool !(decide ((a, b) = (c, d)))) := by
  obtain ⟨z, h1, h2, h3⟩ := binV_eqA (P := Try.prog) (k := 3) (t := 24) (tb := 24) (xs := [.int .i64 a, .int .i64 b]) (ys := [.int .i64 c, .int .i64 d]) (by decide) (by kernel_rfl) (by kernel_rfl) (by kernel_rfl) (by kernel_rfl) (by kernel_rfl) rfl rfl
  have : z = decide ((a, b) = (c, d)) := by
    rw [Bool.eq_iff_iff, h3, decide_eq_true_eq]
    simp
  rw [h2, this]
section
variable {V : Nat → Prop} {M : Mem} {j jm jr jo jx jy : Nat} {t : Tl} {L : List Bk} {x y r : Int} {Q : Value → Mem → Prop}
abbrev PJ (j : Nat) : Option Addr := some ⟨2 * j, 0, none⟩
set_option maxHeartbeats 2000000 in
theorem e40_8 {i : Nat} {px py : Int} {out : List (Int × Int)} {X Y : Array Value} (hi : i < 4) (hx : ∀ n, idxA (PJ n) 4 1 (i : Int) = some ⟨2 * n, i, none⟩) (cx : X[i]? = some (.int .i64 px)) (cy : Y[i]? = some (.int .i64 py))
    (hf : M.floor ≤ M.nb.size) (G : Rf V M j t L) (ho : out.length ≤ 2) (ax : M.nb[jx]? = some (.cells X 3)) (ay : M.nb[jy]? = some (.cells Y 3)) (a : M.nb[jo]? = some (.cells (outC out) 25)) (fo : M.floor ≤ jo)
    (next : ∀ N, Chg (· = jo) M N → N.nb[jo]? = some (.cells (outC (vstep r out (atS px py L))) 25) → A40_8 (PJ j) r (PJ jr) (PJ jo) (PJ jx) 4 4 (PJ jy) 4 4 ((vstep r out (atS px py L)).length : Nat) ((i + 1 : Nat) : Int) N Q) :
    A40_8 (PJ j) r (PJ jr) (PJ jo) (PJ jx) 4 4 (PJ jy) 4 4 (out.length : Nat) (i : Int) M Q := by
  have lo := lt_of_at a
  have KR := keepRes M 1
  have zR := res_size M 1
  refine w40_8 (cT (decide_eq_true (by omega)) ?_)
  generalize M.res 1 = R at KR zR ⊢
  refine ix (hx jx) (on (int_of (i := i) (at_keep ax KR) cx) (ix (hx jy) (on (int_of (i := i) (at_keep ay KR) cy) (Cn.mono (c36 (fb hf KR) (G.keep KR)) ?_))))
  rintro _ N ⟨rfl, KN⟩
  have zN := KN.size
  have hlt : M.nb.size + 0 < N.nb.size := by omega
  have u1 := upd_at (M := N) (b := .cells zB.cs 27) hlt
  have C1 := upd_chg (M := N) (S := (· = M.nb.size + 0)) (b := .cells zB.cs 27) (j := M.nb.size + 0) rfl
  have y1 := upd_size (M := N) (j := M.nb.size + 0) (.cells zB.cs 27)
  have stay : vstep r out (atS px py L) = out → ∀ {N : Mem}, Keep M N → A40_10 (PJ j) r (PJ jr) (PJ jo) (PJ jx) 4 4 (PJ jy) 4 4 (out.length : Nat) (i : Int) N Q := by
    intro h N K
    refine w40_10 ?_
    rw [i64w (x := (i : Int) + 1) (by omega)]
    have := next N (K.mono fun _ _ h => h.elim) (by rw [h]; exact at_keep a K)
    rw [h] at this
    exact this
  have k12 : ∀ (ju : Nat) (u : Int × Int) (z : Bool) (N : Mem), Keep M N → N.nb[ju]? = some (.cells #[.int .i64 u.1, .int .i64 u.2] 24) → vstep r out (atS px py L) = (if z then out ++ [u] else out) → (z = true → out.length < 2) → A40_12 (PJ j) r (PJ jr) (PJ jo) (PJ jx) 4 4 (PJ jy) 4 4 (out.length : Nat) (i : Int) (PJ ju) z N Q := by
    intro ju u z N K au hv hz
    cases z with
    | false => exact w40_12 (cF rfl (stay hv K))
    | true =>
      have h2 := hz rfl
      have f6 : N.floor ≤ jo := by rw [K.floor]; exact fo
      obtain ⟨M7, p7, C7, z7, a7⟩ := put1 (2 * out.length) (.int .i64 u.1) (at_keep a K) f6 (by rw [outC_size]; omega) rfl
      obtain ⟨M8, p8, C8, z8, a8⟩ := put1 (2 * out.length + 1) (.int .i64 u.2) a7 (by rw [C7.floor]; exact f6) (by rw [Array.size_setIfInBounds, outC_size]; omega) rfl
      rw [outC_set h2] at a8
      have hix : idxA (PJ jo) 2 2 ((out.length : Nat) : Int) = some ⟨2 * jo, 2 * out.length, none⟩ := by
        unfold idxA
        rw [if_pos (by omega)]
        simp
        try omega
      have hn := next M8 (((K.mono fun _ _ h => h.elim).trans C7).trans C8) (by rw [hv]; exact a8)
      rw [hv] at hn
      refine w40_12 (cT rfl (ad rfl (on (int_of (i := 0) au rfl) (on (int_of (i := 0 + 1) au rfl) (ix hix ⟨rfl, pt p7 (pt p8 (w40_10 ?_))⟩)))))
      rw [i64w (x := ((out.length : Nat) : Int) + 1) (by omega), i64w (x := (i : Int) + 1) (by omega)]
      simpa using hn
  cases hat : atS px py L with
  | none =>
    refine ty rfl (ty rfl (ac0 rfl (ty rfl (ty rfl (ac0 rfl ?_)))))
    show stP (some 23) zB.cs (N.upd (M.nb.size + 0) (.cells zB.cs 27)) (2 * (M.nb.size + 0)) 0 _
    generalize N.upd (M.nb.size + 0) (.cells zB.cs 27) = T at u1 C1 y1 ⊢
    refine stA (cs := zB.cs) u1 (by rw [C1.floor, KN.floor, KR.floor]; omega) rfl rfl rfl fun M6 C6 z6 b6 => ?_
    have T6 : Keep M M6 := Keep.step (KR.trans KN) (C1.trans C6) fun i hi => by omega
    exact cT rfl (w40_9 (cT rfl (stay (by rw [hat]; rfl) T6)))
  | some b =>
    refine ty rfl (ty rfl (ac0 rfl (ty rfl (ty rfl (ac0 rfl ?_)))))
    show stP (some 23) b.cs (N.upd (M.nb.size + 0) (.cells zB.cs 27)) (2 * (M.nb.size + 0)) 0 _
    generalize N.upd (M.nb.size + 0) (.cells zB.cs 27) = T at u1 C1 y1 ⊢
    refine stA (cs := b.cs) u1 (by rw [C1.floor, KN.floor, KR.floor]; omega) rfl rfl rfl fun M6 C6 z6 b6 => ?_
    have T6 : Keep M M6 := Keep.step (KR.trans KN) (C1.trans C6) fun i hi => by omega
    have f6 := fb hf T6
    have vst : vstep r out (atS px py L) = match vecB b r with | some v => if out.length < 2 ∧ v ∉ out then out ++ [v] else out | none => out := by rw [hat]; rfl
    have hvb : vecB b r = if b.it = false then none else if b.r0 = r then some (b.v0, b.v1) else if b.cp = true ∧ b.r1 = r then some (b.v2, b.v3) else none := rfl
    refine cF rfl (on (bool_of (i := 0 + 5) b6 rfl) ?_)
    cases hit : b.it with
    | false => exact w40_9 (cT rfl (stay (by rw [vst, hvb, if_pos hit]) T6))
    | true =>
      refine w40_9 (cF rfl (ad rfl (ix (x := ⟨2 * (M.nb.size + 0), 17, none⟩) (by kernel_rfl) (on (int_of (i := 17) b6 rfl) (on (int_of (i := 17 + 1) b6 rfl) (stN (cs := #[.int .i64 b.v0, .int .i64 b.v1]) f6 rfl rfl rfl fun M7 K7 z7 u7 => ?_))))))
      have T7 := T6.trans K7
      have b7 := at_keep b6 K7
      have lb := lt_of_at b6
      refine ad rfl (ix (x := ⟨2 * (M.nb.size + 0), 14, none⟩) (by kernel_rfl) (on (int_of (i := 14) b7 rfl) ?_))
      by_cases h0 : b.r0 = r
      · have hs : vstep r out (atS px py L) = if out.length < 2 ∧ (b.v0, b.v1) ∉ out then out ++ [(b.v0, b.v1)] else out := by rw [vst, hvb, if_neg (by simp [hit]), if_pos h0]
        refine cF (show (b.r0 != r) = false by simp [h0]) ?_
        match out, a, ho, hs, k12 with
        | [], _, _, hs, k12 => exact cT rfl (k12 _ (b.v0, b.v1) true _ T7 u7 (by rw [hs, if_pos ⟨by decide, by simp⟩]; rfl) (by simp))
        | [w], a, _, hs, k12 =>
          have a7 := at_keep a T7
          refine cF rfl (cT rfl (on (int_of (i := 0) u7 rfl) (on (int_of (i := 0 + 1) u7 rfl) (ix (x := ⟨2 * jo, 0, none⟩) (by kernel_rfl) (on (int_of (i := 0) a7 rfl) (on (int_of (i := 0 + 1) a7 rfl) (pu (nv24 ..) (ty rfl (k12 _ (b.v0, b.v1) _ _ T7 u7 ?_ (by simp))))))))))
          rw [hs]
          by_cases e : (b.v0, b.v1) = w
          · rw [if_neg (by simp [e]), if_neg (by simp [e])]
          · rw [if_pos ⟨by simp, by simp [e]⟩, if_pos (by simp only [Bool.not_eq_true', decide_eq_false_iff_not]; exact e)]
        | [p, q], _, _, hs, k12 => exact cF rfl (cF rfl (k12 _ (b.v0, b.v1) false _ T7 u7 (by rw [hs, if_neg (by simp)]; rfl) (by simp)))
        | _ :: _ :: _ :: _, _, ho, _, _ => simp at ho
      · refine cT (show (b.r0 != r) = true by simp [h0]) (ad rfl (on (bool_of (i := 0 + 13) b7 rfl) ?_))
        cases hcp : b.cp with
        | false => exact cT rfl (w40_11 (cT rfl (stay (by rw [vst, hvb, if_neg (by simp [hit]), if_neg h0, if_neg (by simp [hcp])]) T7)))
        | true =>
          refine cF rfl (ad rfl (ix (x := ⟨2 * (M.nb.size + 0), 15, none⟩) (by kernel_rfl) (on (int_of (i := 15) b7 rfl) ?_)))
          by_cases h1 : b.r1 = r
          · have hs : vstep r out (atS px py L) = if out.length < 2 ∧ (b.v2, b.v3) ∉ out then out ++ [(b.v2, b.v3)] else out := by rw [vst, hvb, if_neg (by simp [hit]), if_neg h0, if_pos ⟨hcp, h1⟩]
            rw [show (b.r1 != r) = false by simp [h1]]
            refine w40_11 (cF rfl (ad rfl (ix (x := ⟨2 * (M.nb.size + 0), 19, none⟩) (by kernel_rfl) (on (int_of (i := 19) b7 rfl) (on (int_of (i := 19 + 1) b7 rfl) (ad rfl (stA (cs := #[.int .i64 b.v2, .int .i64 b.v3]) u7 (by rw [T7.floor]; omega) rfl rfl rfl fun M8 C8 z8 u8 => ?_)))))))
            have T8 : Keep M M8 := Keep.step T7 C8 fun i hi => by omega
            match out, a, ho, hs, k12 with
            | [], _, _, hs, k12 => exact cT rfl (k12 _ (b.v2, b.v3) true _ T8 u8 (by rw [hs, if_pos ⟨by decide, by simp⟩]; rfl) (by simp))
            | [w], a, _, hs, k12 =>
              have a8 := at_keep a T8
              refine cF rfl (cT rfl (ad rfl (on (int_of (i := 0) u8 rfl) (on (int_of (i := 0 + 1) u8 rfl) (ix (x := ⟨2 * jo, 0, none⟩) (by kernel_rfl) (on (int_of (i := 0) a8 rfl) (on (int_of (i := 0 + 1) a8 rfl) (pu (nv24 ..) (ty rfl (k12 _ (b.v2, b.v3) _ _ T8 u8 ?_ (by simp)))))))))))
              rw [hs]
              by_cases e : (b.v2, b.v3) = w
              · rw [if_neg (by simp [e]), if_neg (by simp [e])]
              · rw [if_pos ⟨by simp, by simp [e]⟩, if_pos (by simp only [Bool.not_eq_true', decide_eq_false_iff_not]; exact e)]
            | [p, q], _, _, hs, k12 => exact cF rfl (cF rfl (k12 _ (b.v2, b.v3) false _ T8 u8 (by rw [hs, if_neg (by simp)]; rfl) (by simp)))
            | _ :: _ :: _ :: _, _, ho, _, _ => simp at ho
          · rw [show (b.r1 != r) = true by simp [h1]]
            exact w40_11 (cT rfl (stay (by rw [vst, hvb, if_neg (by simp [hit]), if_neg h0, if_neg (fun q => h1 q.2)]) T7))
set_option maxHeartbeats 2000000 in
theorem c40 {w h : Int} (hf : M.floor ≤ M.nb.size) (G : Rf V M j t L) : Cn Try.prog 40 #[PtrB j, .agg #[.int .i64 x, .int .i64 y, .int .i64 w, .int .i64 h], .int .i64 r] M fun v N => v = vecsV L t x y w r ∧ Keep M N := by
  have a := Mem.new_at M (.cells #[.int .i64 x, .int .i64 y, .int .i64 w, .int .i64 h] 35)
  have K1 : Keep M (M.new (.cells #[.int .i64 x, .int .i64 y, .int .i64 w, .int .i64 h] 35)) := .new _ _
  have z1 := Mem.new_size M (.cells #[.int .i64 x, .int .i64 y, .int .i64 w, .int .i64 h] 35)
  refine w40_0 ?_
  generalize M.new (.cells #[.int .i64 x, .int .i64 y, .int .i64 w, .int .i64 h] 35) = M1 at a K1 z1 ⊢
  have ar := Mem.new_at M1 (.cells #[.int .i64 0, .int .i64 0, .int .i64 0, .int .i64 0] 25)
  have K2 : Keep M1 (M1.new (.cells #[.int .i64 0, .int .i64 0, .int .i64 0, .int .i64 0] 25)) := .new _ _
  have z2 := Mem.new_size M1 (.cells #[.int .i64 0, .int .i64 0, .int .i64 0, .int .i64 0] 25)
  generalize M1.new (.cells #[.int .i64 0, .int .i64 0, .int .i64 0, .int .i64 0] 25) = M2 at ar K2 z2 ⊢
  have ao := Mem.new_at M2 (.cells #[.int .i64 0, .int .i64 0, .int .i64 0, .int .i64 0] 25)
  have K3 : Keep M2 (M2.new (.cells #[.int .i64 0, .int .i64 0, .int .i64 0, .int .i64 0] 25)) := .new _ _
  have z3 := Mem.new_size M2 (.cells #[.int .i64 0, .int .i64 0, .int .i64 0, .int .i64 0] 25)
  generalize M2.new (.cells #[.int .i64 0, .int .i64 0, .int .i64 0, .int .i64 0] 25) = M3 at ao K3 z3 ⊢
  have a3 := at_keep (at_keep a K2) K3
  have ar3 := at_keep ar K3
  have T3 := (K1.trans K2).trans K3
  have G3 := G.keep T3
  obtain ⟨A, c, g1, _⟩ := G3.ex
  have f3 := fb hf T3
  have hm := G.may
  unfold Tl.may spanB at hm
  simp only [Bool.and_eq_true, decide_eq_true_eq] at hm
  have flr : M3.floor ≤ M.nb.size := by rw [T3.floor]; exact hf
  -- the end: what is told is copied
  have endQ : ∀ {N : Mem} {out : List (Int × Int)} {e : Int}, Chg (fun i => i = M2.nb.size) M3 N → N.nb[M2.nb.size]? = some (.cells (outC out) 25) → ∀ {P : Int → Int → Int → Int → Mem → Prop}, (∀ p q u s N', #[.int .i64 p, .int .i64 q, .int .i64 u, .int .i64 s] = outC out → Keep M N' → P p q u s N') →
      onS (N.intAt .i64 (2 * M2.nb.size) 0) fun p => onS (N.intAt .i64 (2 * M2.nb.size) (0 + 1)) fun q => onS (N.intAt .i64 (2 * M2.nb.size) (0 + 2)) fun u => onS (N.intAt .i64 (2 * M2.nb.size) (0 + 3)) fun s =>
        adS (some (⟨2 * M1.nb.size, 0, none⟩ : Addr)) fun a' => stP (some 4) #[.int .i64 p, .int .i64 q, .int .i64 u, .int .i64 s] N a'.block a'.off fun N' => adS (some (⟨2 * M1.nb.size, 0, none⟩ : Addr)) fun a2 =>
          onS (N'.intAt .i64 a2.block a2.off) fun p => onS (N'.intAt .i64 a2.block (a2.off + 1)) fun q => onS (N'.intAt .i64 a2.block (a2.off + 2)) fun u => onS (N'.intAt .i64 a2.block (a2.off + 3)) fun s => P p q u s N' := by
    intro N out e C u P hP
    refine on4 u fun p q u' s hc => ad rfl (stA (cs := #[.int .i64 p, .int .i64 q, .int .i64 u', .int .i64 s]) (at_chg ar3 C (by omega)) (by rw [C.floor]; omega) rfl rfl rfl fun N' C' z' b' => ad rfl ?_)
    rw [hc] at b'
    refine on4 b' fun p q u' s hc' => hP _ _ _ _ _ hc' ?_
    exact Keep.step (Keep.step T3 C fun i hi => by omega) C' fun i hi => by omega
  have bad : vecsOk t x y w r = false → A40_7 (some ⟨2 * j, 0, none⟩) r (some ⟨2 * M.nb.size, 0, none⟩) (some ⟨2 * M1.nb.size, 0, none⟩) (some ⟨2 * M2.nb.size, 0, none⟩) true M3 (fun v N => v = vecsV L t x y w r ∧ Keep M N) := fun h =>
    w40_7 (cT rfl (ad rfl (endQ (out := []) (e := 0) (.refl _) ao fun p q u s N' hc K => ⟨by unfold vecsV; rw [h, ← hc]; rfl, K⟩)))
  have key : ∀ b : Bool, b = !vecsOk t x y w r → A40_7 (some ⟨2 * j, 0, none⟩) r (some ⟨2 * M.nb.size, 0, none⟩) (some ⟨2 * M1.nb.size, 0, none⟩) (some ⟨2 * M2.nb.size, 0, none⟩) b M3 (fun v N => v = vecsV L t x y w r ∧ Keep M N) := by
    intro b hb
    cases hok : vecsOk t x y w r with
    | false => rw [hok] at hb; rw [hb]; exact bad hok
    | true =>
      rw [hok] at hb
      rw [hb]
      unfold vecsOk at hok
      simp only [Bool.and_eq_true, decide_eq_true_eq] at hok
      have hin := of_decide_eq_true hok.1.2
      refine w40_7 (cF rfl (ad rfl (on (int_of (i := 0) a3 rfl) (ad rfl (on (int_of (i := 0) a3 rfl) (ad rfl (on (int_of (i := 0) a3 rfl) (ad rfl (on (int_of (i := 0 + 2) a3 rfl) (ad rfl (on (int_of (i := 0) a3 rfl) ?_)))))))))))
      rw [i64w (x := x - 1) (by omega), i64w (x := x + w) (by omega)]
      have ax := Mem.new_at M3 (.cells #[.int .i64 (x - 1), .int .i64 x, .int .i64 (x + w), .int .i64 (x - 1)] 3)
      have K4 : Keep M3 (M3.new (.cells #[.int .i64 (x - 1), .int .i64 x, .int .i64 (x + w), .int .i64 (x - 1)] 3)) := .new _ _
      have z4 := Mem.new_size M3 (.cells #[.int .i64 (x - 1), .int .i64 x, .int .i64 (x + w), .int .i64 (x - 1)] 3)
      generalize M3.new (.cells #[.int .i64 (x - 1), .int .i64 x, .int .i64 (x + w), .int .i64 (x - 1)] 3) = M4 at ax K4 z4 ⊢
      have a4 := at_keep a3 K4
      refine ad rfl (on (int_of (i := 0 + 1) a4 rfl) (ad rfl (on (int_of (i := 0 + 1) a4 rfl) (ad rfl (on (int_of (i := 0 + 1) a4 rfl) (ad rfl (on (int_of (i := 0 + 1) a4 rfl) ?_)))))))
      rw [i64w (x := y - 1) (by omega)]
      have ay := Mem.new_at M4 (.cells #[.int .i64 y, .int .i64 (y - 1), .int .i64 (y - 1), .int .i64 (y - 1)] 3)
      have K5 : Keep M4 (M4.new (.cells #[.int .i64 y, .int .i64 (y - 1), .int .i64 (y - 1), .int .i64 (y - 1)] 3)) := .new _ _
      have z5 := Mem.new_size M4 (.cells #[.int .i64 y, .int .i64 (y - 1), .int .i64 (y - 1), .int .i64 (y - 1)] 3)
      generalize M4.new (.cells #[.int .i64 y, .int .i64 (y - 1), .int .i64 (y - 1), .int .i64 (y - 1)] 3) = M5 at ay K5 z5 ⊢
      have ax5 := at_keep ax K5
      have T5 := K4.trans K5
      have ao5 := at_keep ao T5
      have G5 := G3.keep T5
      have f5 := fb f3 T5
      have fo : M5.floor ≤ M2.nb.size := by rw [T5.floor]; omega
      have lx := lt_of_at ax5
      have nx : M3.nb.size ≠ M2.nb.size := by omega
      have ny : M4.nb.size ≠ M2.nb.size := by omega
      have st : ∀ {N : Mem}, Chg (· = M2.nb.size) M5 N → Rf V N j t L ∧ N.floor ≤ N.nb.size ∧ N.floor ≤ M2.nb.size ∧ N.nb[M3.nb.size]? = some (.cells #[.int .i64 (x - 1), .int .i64 x, .int .i64 (x + w), .int .i64 (x - 1)] 3) ∧ N.nb[M4.nb.size]? = some (.cells #[.int .i64 y, .int .i64 (y - 1), .int .i64 (y - 1), .int .i64 (y - 1)] 3) := fun {N} C => by
        exact ⟨(G.keep (K1.trans K2)).keep (Keep.step ((K3.trans K4).trans K5) C fun i hi => by omega), by rw [C.floor]; have := C.size; omega, by rw [C.floor]; omega, at_chg ax5 C nx, at_chg ay C ny⟩
      refine e40_8 (i := 0) (out := []) (by decide) (fun n => by kernel_rfl) rfl rfl f5 G5 (by decide) ax5 ay ao5 fo fun N1 C1 a1 => ?_
      obtain ⟨G6, f6, fo6, ax6, ay6⟩ := st C1
      refine e40_8 (i := 1) (by decide) (fun n => by kernel_rfl) rfl rfl f6 G6 (vstep_len (by decide)) ax6 ay6 a1 fo6 fun N2 C2 a2 => ?_
      have C2 := C1.trans C2
      obtain ⟨G7, f7, fo7, ax7, ay7⟩ := st C2
      refine e40_8 (i := 2) (by decide) (fun n => by kernel_rfl) rfl rfl f7 G7 (vstep_len (vstep_len (by decide))) ax7 ay7 a2 fo7 fun N3 C3 a3 => ?_
      have C3 := C2.trans C3
      obtain ⟨G8, f8, fo8, ax8, ay8⟩ := st C3
      refine e40_8 (i := 3) (by decide) (fun n => by kernel_rfl) rfl rfl f8 G8 (vstep_len (vstep_len (vstep_len (by decide)))) ax8 ay8 a3 fo8 fun N4 C4 a4 => ?_
      have C4 := C3.trans C4
      have CC : Chg (fun i => i = M2.nb.size) M3 N4 := (T5.mono fun _ _ h => h.elim).trans C4
      refine w40_8 (cF rfl (ad rfl (endQ (e := 0) CC a4 fun p q u s N' hc K => ⟨?_, K⟩)))
      unfold vecsV vecsOk
      rw [decide_eq_true hok.1.1, hok.1.2, decide_eq_true hok.2]
      show Value.tuple #[.agg #[.int .i64 p, .int .i64 q, .int .i64 u, .int .i64 s], _, _] = Value.tuple #[.agg (outC (vecsS L x y w r)), _, _]
      rw [hc]
      rfl
  have t8 : ∀ z : Int, z.tmod 8 = 0 ↔ z % 8 = 0 := fun z => tmod_eq (a := z) 8 (by decide)
  have e : ((((((((x.tmod 8 != 0) || (y.tmod 8 != 0)) || !t.in x y) || decide (w < 8)) || decide (w > 64)) || (w.tmod 8 != 0)) || decide (r < 0)) || decide (r > 2)) = !vecsOk t x y w r := by
    have h : vecsOk t x y w r = true ↔ ((x % 8 = 0 ∧ y % 8 = 0) ∧ t.in x y = true) ∧ (8 ≤ w ∧ w ≤ 64 ∧ w % 8 = 0 ∧ 0 ≤ r ∧ r ≤ 2) := by
      unfold vecsOk
      simp only [Bool.and_eq_true, decide_eq_true_eq]
    have t1 := t8 x
    have t2 := t8 y
    have t3 := t8 w
    rw [Bool.eq_iff_iff]
    simp only [Bool.or_eq_true, bne_iff_ne, decide_eq_true_eq, Bool.not_eq_true', ← Bool.not_eq_true, h]
    constructor
    · rintro (((((((q | q) | q) | q) | q) | q) | q) | q) <;> intro g <;> first | exact q g.1.2 | omega
    · intro g
      by_cases hin : t.in x y = true
      · by_cases h1 : x.tmod 8 = 0
        · by_cases h2 : y.tmod 8 = 0
          · by_cases h3 : w.tmod 8 = 0
            · have : ¬ (8 ≤ w ∧ w ≤ 64 ∧ w % 8 = 0 ∧ 0 ≤ r ∧ r ≤ 2) := fun q => g ⟨⟨⟨t1.1 h1, t2.1 h2⟩, hin⟩, q⟩
              have h3' := t3.1 h3
              by_cases c1 : w < 8
              · exact .inl (.inl (.inl (.inl (.inr c1))))
              · by_cases c2 : w > 64
                · exact .inl (.inl (.inl (.inr c2)))
                · by_cases c3 : r < 0
                  · exact .inl (.inr c3)
                  · exact .inr (by omega)
            · exact .inl (.inl (.inr h3))
          · exact .inl (.inl (.inl (.inl (.inl (.inl (.inr h2))))))
        · exact .inl (.inl (.inl (.inl (.inl (.inl (.inl h1))))))
      · exact .inl (.inl (.inl (.inl (.inl (.inr hin)))))
  have k7 := key _ e
  refine on (int_of (i := 0) a3 rfl) ?_
  refine cO2 (c := (y.tmod 8) != 0) (fun z => A40_1 (some ⟨2 * j, 0, none⟩) r (some ⟨2 * M.nb.size, 0, none⟩) (some ⟨2 * M1.nb.size, 0, none⟩) (some ⟨2 * M2.nb.size, 0, none⟩) z M3 (fun v N => v = vecsV L t x y w r ∧ Keep M N)) (w40_1 ?_) ?k1
  case k1 => exact fun h => on (int_of (i := 0 + 1) a3 rfl) h
  refine cO2 (c := !t.in x y) (fun z => A40_2 (some ⟨2 * j, 0, none⟩) r (some ⟨2 * M.nb.size, 0, none⟩) (some ⟨2 * M1.nb.size, 0, none⟩) (some ⟨2 * M2.nb.size, 0, none⟩) z M3 (fun v N => v = vecsV L t x y w r ∧ Keep M N)) (w40_2 ?_) ?k2
  case k2 => exact fun h => ad rfl (on (int_of (i := 0) a3 rfl) (ad rfl (on (int_of (i := 0 + 1) a3 rfl) (Cn.eq (c35 g1 G.may) (ty rfl h)))))
  refine cO2 (c := decide (w < 8)) (fun z => A40_3 (some ⟨2 * j, 0, none⟩) r (some ⟨2 * M.nb.size, 0, none⟩) (some ⟨2 * M1.nb.size, 0, none⟩) (some ⟨2 * M2.nb.size, 0, none⟩) z M3 (fun v N => v = vecsV L t x y w r ∧ Keep M N)) (w40_3 ?_) ?k3
  case k3 => exact fun h => ad rfl (on (int_of (i := 0 + 2) a3 rfl) h)
  refine cO2 (c := decide (w > 64)) (fun z => A40_4 (some ⟨2 * j, 0, none⟩) r (some ⟨2 * M.nb.size, 0, none⟩) (some ⟨2 * M1.nb.size, 0, none⟩) (some ⟨2 * M2.nb.size, 0, none⟩) z M3 (fun v N => v = vecsV L t x y w r ∧ Keep M N)) (w40_4 ?_) ?k4
  case k4 => exact fun h => ad rfl (on (int_of (i := 0 + 2) a3 rfl) h)
  refine cO2 (c := (w.tmod 8) != 0) (fun z => A40_5 (some ⟨2 * j, 0, none⟩) r (some ⟨2 * M.nb.size, 0, none⟩) (some ⟨2 * M1.nb.size, 0, none⟩) (some ⟨2 * M2.nb.size, 0, none⟩) z M3 (fun v N => v = vecsV L t x y w r ∧ Keep M N)) (w40_5 ?_) ?k5
  case k5 => exact fun h => ad rfl (on (int_of (i := 0 + 2) a3 rfl) h)
  refine cO (fun z => A40_6 (some ⟨2 * j, 0, none⟩) r (some ⟨2 * M.nb.size, 0, none⟩) (some ⟨2 * M1.nb.size, 0, none⟩) (some ⟨2 * M2.nb.size, 0, none⟩) z M3 (fun v N => v = vecsV L t x y w r ∧ Keep M N)) (w40_6 ?_)
  exact cO (fun z => A40_7 (some ⟨2 * j, 0, none⟩) r (some ⟨2 * M.nb.size, 0, none⟩) (some ⟨2 * M1.nb.size, 0, none⟩) (some ⟨2 * M2.nb.size, 0, none⟩) z M3 (fun v N => v = vecsV L t x y w r ∧ Keep M N)) k7
end
end Go.Zt

/- The functions' walks: for each function and each loop a rule of what it comes to. Printed by zw2.py. -/
set_option linter.unusedVariables false
set_option maxRecDepth 100000
namespace Go.Zt
open Go Go.Sim Go.Proofs

def tyZpJ0 : List Sc := [.int .i64, .int .i64, .int .i64, .int .i64, .bool, .bool, .int .i64, .int .i64, .int .i64, .int .i64, .int .i64, .int .i64, .int .i64, .bool, .int .i64, .int .i64, .int .i64, .int .i64, .int .i64, .int .i64, .int .i64, .int .i64, .bool]
/-! ### zoetrope/zoetropelaw17.told: function 18 -/
def K18 : List (List It × List Nat) := [([.code [1,1,1,0,1], .code [1,1,1,1]], [0, 1, 5, 43]), ([.code [1,1,1,1,1,1,0,1], .code [1,1,1,1,1,1,1]], [0, 1, 5, 73]), ([.code [1,1,1,1,1,1,1,1,1,0,1], .code [1,1,1,1,1,1,1,1,1,1]], [0, 1, 5, 99]), ([.code [1,1,1,1,1,1,1,1,1,1,1,1,0,1], .code [1,1,1,1,1,1,1,1,1,1,1,1,1]], [0, 1, 5, 125])]
def Z18 : List (List Nat × List Nat) := []
theorem b18 : Try.prog.funcs[18]? = some Try.f18 ∧ (Orc.tab Try.prog).lookup 18 = none ∧ Try.f18.body = some (codeOf Try.f18) := ⟨by kernel_rfl, by kernel_rfl, by kernel_rfl⟩
def A18_1 (x0 x1 x5 : Option Addr) (x43 : Bool) (M : Mem) (Q : Value → Mem → Prop) : Prop := LvP Try.prog Try.f18 [(0, .pointer x0), (1, .pointer x1), (5, .pointer x5), (43, .bool x43)] [.code [1,1,1,0,1], .code [1,1,1,1]] M Q
def A18_2 (x0 x1 x5 : Option Addr) (x73 : Bool) (M : Mem) (Q : Value → Mem → Prop) : Prop := LvP Try.prog Try.f18 [(0, .pointer x0), (1, .pointer x1), (5, .pointer x5), (73, .bool x73)] [.code [1,1,1,1,1,1,0,1], .code [1,1,1,1,1,1,1]] M Q
def A18_3 (x0 x1 x5 : Option Addr) (x99 : Bool) (M : Mem) (Q : Value → Mem → Prop) : Prop := LvP Try.prog Try.f18 [(0, .pointer x0), (1, .pointer x1), (5, .pointer x5), (99, .bool x99)] [.code [1,1,1,1,1,1,1,1,1,0,1], .code [1,1,1,1,1,1,1,1,1,1]] M Q
def A18_4 (x0 x1 x5 : Option Addr) (x125 : Bool) (M : Mem) (Q : Value → Mem → Prop) : Prop := LvP Try.prog Try.f18 [(0, .pointer x0), (1, .pointer x1), (5, .pointer x5), (125, .bool x125)] [.code [1,1,1,1,1,1,1,1,1,1,1,1,0,1], .code [1,1,1,1,1,1,1,1,1,1,1,1,1]] M Q
theorem w18_0 {x0 x1 : Option Addr} {x2_0 x2_1 x2_2 x2_3 x2_4 : Int} {M : Mem} {Q : Value → Mem → Prop} (H :
    onS ((M.new (.cells #[.int .i64 x2_0, .int .i64 x2_1, .int .i64 x2_2, .int .i64 x2_3, .int .i64 x2_4] 56)).intAt .i64 (2 * M.nb.size) 0) fun x1' =>
    onS ((M.new (.cells #[.int .i64 x2_0, .int .i64 x2_1, .int .i64 x2_2, .int .i64 x2_3, .int .i64 x2_4] 56)).intAt .i64 (2 * M.nb.size) (0 + 1)) fun x2' =>
    Cn Try.prog 14 #[.pointer x0, .int .i64 x1', .int .i64 x2'] (M.new (.cells #[.int .i64 x2_0, .int .i64 x2_1, .int .i64 x2_2, .int .i64 x2_3, .int .i64 x2_4] 56)) fun v3' N3' =>
     tyS (asU 2 v3') fun cs4' =>
     tyS (asA 23 (cs4'.getD 0 undef)) fun cs5' =>
     asCellsP tyZpJ0 0 cs5' fun vs6' =>
     tyS (asB (cs4'.getD 1 undef)) fun b7' =>
     tyS (asA 23 (.agg vs6'.toArray)) fun cs8' =>
     asCellsP tyZpJ0 0 cs8' fun vs9' =>
     stP (some 23) vs9'.toArray (N3'.new (.cells #[.int .i64 0, .int .i64 0, .int .i64 0, .int .i64 0, .bool false, .bool false, .int .i64 0, .int .i64 0, .int .i64 0, .int .i64 0, .int .i64 0, .int .i64 0, .int .i64 0, .bool false, .int .i64 0, .int .i64 0, .int .i64 0, .int .i64 0, .int .i64 0, .int .i64 0, .int .i64 0, .int .i64 0, .bool false] 27)) (2 * N3'.nb.size) 0 fun M10' =>
     onS (M10'.intAt .i64 (2 * M.nb.size) 0) fun x11' =>
     onS (M10'.intAt .i64 (2 * M.nb.size) (0 + 1)) fun x12' =>
     Cn Try.prog 36 #[.pointer x1, .int .i64 x11', .int .i64 x12'] M10' fun v13' N13' =>
      tyS (asU 2 v13') fun cs14' =>
      tyS (asA 23 (cs14'.getD 0 undef)) fun cs15' =>
      asCellsP tyZpJ0 0 cs15' fun vs16' =>
      tyS (asB (cs14'.getD 1 undef)) fun b17' =>
      tyS (asA 23 (.agg vs16'.toArray)) fun cs18' =>
      asCellsP tyZpJ0 0 cs18' fun vs19' =>
      stP (some 23) vs19'.toArray (N13'.new (.cells #[.int .i64 0, .int .i64 0, .int .i64 0, .int .i64 0, .bool false, .bool false, .int .i64 0, .int .i64 0, .int .i64 0, .int .i64 0, .int .i64 0, .int .i64 0, .int .i64 0, .bool false, .int .i64 0, .int .i64 0, .int .i64 0, .int .i64 0, .int .i64 0, .int .i64 0, .int .i64 0, .int .i64 0, .bool false] 27)) (2 * N13'.nb.size) 0 fun M20' =>
      ldP tyZpJ0 M20' (2 * N3'.nb.size) 0 fun vs21' =>
      ldP tyZpJ0 M20' (2 * N13'.nb.size) 0 fun vs22' =>
      puS (binV Try.prog .neq 27 27 (.agg vs21'.toArray) (.agg vs22'.toArray)) fun v23' =>
      tyS (asB v23') fun b24' =>
      cnd b24' (
       A18_1 x0 x1 (some ⟨2 * M.nb.size, 0, none⟩) true M20' Q) (
       A18_1 x0 x1 (some ⟨2 * M.nb.size, 0, none⟩) (!(b7' == b17')) M20' Q)) :
    Cn Try.prog 18 #[.pointer x0, .pointer x1, .agg #[.int .i64 x2_0, .int .i64 x2_1, .int .i64 x2_2, .int .i64 x2_3, .int .i64 x2_4]] M Q :=
  Cn.mk (cuts := K18) (sp := Z18) 900 b18 rfl rfl H fun G => by kernel_rfl

theorem w18_1 {x0 x1 x5 : Option Addr} {x43 : Bool} {M : Mem} {Q : Value → Mem → Prop} (H :
    cnd x43 (
     Q (.bool false) M) (
     adS x5 fun a25' =>
     onS (M.intAt .i64 a25'.block a25'.off) fun x26' =>
     adS x5 fun a27' =>
     onS (M.intAt .i64 a27'.block (a27'.off + 1)) fun x28' =>
     adS x5 fun a29' =>
     onS (M.intAt .i64 a29'.block (a29'.off + 2)) fun x30' =>
     Cn Try.prog 21 #[.pointer x0, .int .i64 x26', .int .i64 x28', .int .i64 x30'] M fun v31' N31' =>
      tyS (asU 2 v31') fun cs32' =>
      tyS (asI .i64 (cs32'.getD 0 undef)) fun x33' =>
      tyS (asI .i64 (cs32'.getD 1 undef)) fun x34' =>
      adS x5 fun a35' =>
      onS (N31'.intAt .i64 a35'.block a35'.off) fun x36' =>
      adS x5 fun a37' =>
      onS (N31'.intAt .i64 a37'.block (a37'.off + 1)) fun x38' =>
      adS x5 fun a39' =>
      onS (N31'.intAt .i64 a39'.block (a39'.off + 2)) fun x40' =>
      Cn Try.prog 37 #[.pointer x1, .int .i64 x36', .int .i64 x38', .int .i64 x40'] N31' fun v41' N41' =>
       tyS (asU 2 v41') fun cs42' =>
       tyS (asI .i64 (cs42'.getD 0 undef)) fun x43' =>
       tyS (asI .i64 (cs42'.getD 1 undef)) fun x44' =>
       cnd (x33' != x43') (
        A18_2 x0 x1 x5 true N41' Q) (
        A18_2 x0 x1 x5 (x34' != x44') N41' Q))) :
    A18_1 x0 x1 x5 x43 M Q :=
  LvP.mk (cuts := K18) (sp := Z18) 900 H fun G => by kernel_rfl

theorem w18_2 {x0 x1 x5 : Option Addr} {x73 : Bool} {M : Mem} {Q : Value → Mem → Prop} (H :
    cnd x73 (
     Q (.bool false) M) (
     adS x5 fun a45' =>
     onS (M.intAt .i64 a45'.block a45'.off) fun x46' =>
     adS x5 fun a47' =>
     onS (M.intAt .i64 a47'.block (a47'.off + 1)) fun x48' =>
     Cn Try.prog 11 #[.pointer x0, .int .i64 x46', .int .i64 x48'] M fun v49' N49' =>
      tyS (asU 2 v49') fun cs50' =>
      tyS (asI .i64 (cs50'.getD 0 undef)) fun x51' =>
      tyS (asI .i64 (cs50'.getD 1 undef)) fun x52' =>
      adS x5 fun a53' =>
      onS (N49'.intAt .i64 a53'.block a53'.off) fun x54' =>
      adS x5 fun a55' =>
      onS (N49'.intAt .i64 a55'.block (a55'.off + 1)) fun x56' =>
      Cn Try.prog 38 #[.pointer x1, .int .i64 x54', .int .i64 x56'] N49' fun v57' N57' =>
       tyS (asU 2 v57') fun cs58' =>
       tyS (asI .i64 (cs58'.getD 0 undef)) fun x59' =>
       tyS (asI .i64 (cs58'.getD 1 undef)) fun x60' =>
       cnd (x51' != x59') (
        A18_3 x0 x1 x5 true N57' Q) (
        A18_3 x0 x1 x5 (x52' != x60') N57' Q))) :
    A18_2 x0 x1 x5 x73 M Q :=
  LvP.mk (cuts := K18) (sp := Z18) 900 H fun G => by kernel_rfl

theorem w18_3 {x0 x1 x5 : Option Addr} {x99 : Bool} {M : Mem} {Q : Value → Mem → Prop} (H :
    cnd x99 (
     Q (.bool false) M) (
     adS x5 fun a61' =>
     onS (M.intAt .i64 a61'.block a61'.off) fun x62' =>
     adS x5 fun a63' =>
     onS (M.intAt .i64 a63'.block (a63'.off + 1)) fun x64' =>
     Cn Try.prog 12 #[.pointer x0, .int .i64 x62', .int .i64 x64'] M fun v65' N65' =>
      tyS (asU 2 v65') fun cs66' =>
      tyS (asI .i64 (cs66'.getD 0 undef)) fun x67' =>
      tyS (asI .i64 (cs66'.getD 1 undef)) fun x68' =>
      adS x5 fun a69' =>
      onS (N65'.intAt .i64 a69'.block a69'.off) fun x70' =>
      adS x5 fun a71' =>
      onS (N65'.intAt .i64 a71'.block (a71'.off + 1)) fun x72' =>
      Cn Try.prog 39 #[.pointer x1, .int .i64 x70', .int .i64 x72'] N65' fun v73' N73' =>
       tyS (asU 2 v73') fun cs74' =>
       tyS (asI .i64 (cs74'.getD 0 undef)) fun x75' =>
       tyS (asI .i64 (cs74'.getD 1 undef)) fun x76' =>
       cnd (x67' != x75') (
        A18_4 x0 x1 x5 true N73' Q) (
        A18_4 x0 x1 x5 (x68' != x76') N73' Q))) :
    A18_3 x0 x1 x5 x99 M Q :=
  LvP.mk (cuts := K18) (sp := Z18) 900 H fun G => by kernel_rfl

theorem w18_4 {x0 x1 x5 : Option Addr} {x125 : Bool} {M : Mem} {Q : Value → Mem → Prop} (H :
    cnd x125 (
     Q (.bool false) M) (
     adS x5 fun a77' =>
     onS (M.intAt .i64 a77'.block a77'.off) fun x78' =>
     adS x5 fun a79' =>
     onS (M.intAt .i64 a79'.block (a79'.off + 1)) fun x80' =>
     adS x5 fun a81' =>
     onS (M.intAt .i64 a81'.block (a81'.off + 3)) fun x82' =>
     adS x5 fun a83' =>
     onS (M.intAt .i64 a83'.block (a83'.off + 2)) fun x84' =>
     stP (some 4) #[.int .i64 x78', .int .i64 x80', .int .i64 x82', .int .i64 x84'] (M.new (.cells #[.int .i64 0, .int .i64 0, .int .i64 0, .int .i64 0] 35)) (2 * M.nb.size) 0 fun M85' =>
     onS (M85'.intAt .i64 (2 * M.nb.size) 0) fun x86' =>
     onS (M85'.intAt .i64 (2 * M.nb.size) (0 + 1)) fun x87' =>
     onS (M85'.intAt .i64 (2 * M.nb.size) (0 + 2)) fun x88' =>
     onS (M85'.intAt .i64 (2 * M.nb.size) (0 + 3)) fun x89' =>
     adS x5 fun a90' =>
     onS (M85'.intAt .i64 a90'.block (a90'.off + 4)) fun x91' =>
     Cn Try.prog 10 #[.pointer x0, .agg #[.int .i64 x86', .int .i64 x87', .int .i64 x88', .int .i64 x89'], .int .i64 x91'] M85' fun v92' N92' =>
      tyS (asU 3 v92') fun cs93' =>
      tyS (asA 4 (cs93'.getD 0 undef)) fun cs94' =>
      tyS (asI .i64 (cs94'.getD 0 undef)) fun x95' =>
      tyS (asI .i64 (cs94'.getD 1 undef)) fun x96' =>
      tyS (asI .i64 (cs94'.getD 2 undef)) fun x97' =>
      tyS (asI .i64 (cs94'.getD 3 undef)) fun x98' =>
      tyS (asI .i64 (cs93'.getD 1 undef)) fun x99' =>
      tyS (asI .i64 (cs93'.getD 2 undef)) fun x100' =>
      stP (some 4) #[.int .i64 x95', .int .i64 x96', .int .i64 x97', .int .i64 x98'] (N92'.new (.cells #[.int .i64 0, .int .i64 0, .int .i64 0, .int .i64 0] 25)) (2 * N92'.nb.size) 0 fun M101' =>
      onS (M101'.intAt .i64 (2 * M.nb.size) 0) fun x102' =>
      onS (M101'.intAt .i64 (2 * M.nb.size) (0 + 1)) fun x103' =>
      onS (M101'.intAt .i64 (2 * M.nb.size) (0 + 2)) fun x104' =>
      onS (M101'.intAt .i64 (2 * M.nb.size) (0 + 3)) fun x105' =>
      adS x5 fun a106' =>
      onS (M101'.intAt .i64 a106'.block (a106'.off + 4)) fun x107' =>
      Cn Try.prog 40 #[.pointer x1, .agg #[.int .i64 x102', .int .i64 x103', .int .i64 x104', .int .i64 x105'], .int .i64 x107'] M101' fun v108' N108' =>
       tyS (asU 3 v108') fun cs109' =>
       tyS (asA 4 (cs109'.getD 0 undef)) fun cs110' =>
       tyS (asI .i64 (cs110'.getD 0 undef)) fun x111' =>
       tyS (asI .i64 (cs110'.getD 1 undef)) fun x112' =>
       tyS (asI .i64 (cs110'.getD 2 undef)) fun x113' =>
       tyS (asI .i64 (cs110'.getD 3 undef)) fun x114' =>
       tyS (asI .i64 (cs109'.getD 1 undef)) fun x115' =>
       tyS (asI .i64 (cs109'.getD 2 undef)) fun x116' =>
       stP (some 4) #[.int .i64 x111', .int .i64 x112', .int .i64 x113', .int .i64 x114'] (N108'.new (.cells #[.int .i64 0, .int .i64 0, .int .i64 0, .int .i64 0] 25)) (2 * N108'.nb.size) 0 fun M117' =>
       onS (M117'.intAt .i64 (2 * N92'.nb.size) 0) fun x118' =>
       onS (M117'.intAt .i64 (2 * N92'.nb.size) (0 + 1)) fun x119' =>
       onS (M117'.intAt .i64 (2 * N92'.nb.size) (0 + 2)) fun x120' =>
       onS (M117'.intAt .i64 (2 * N92'.nb.size) (0 + 3)) fun x121' =>
       onS (M117'.intAt .i64 (2 * N108'.nb.size) 0) fun x122' =>
       onS (M117'.intAt .i64 (2 * N108'.nb.size) (0 + 1)) fun x123' =>
       onS (M117'.intAt .i64 (2 * N108'.nb.size) (0 + 2)) fun x124' =>
       onS (M117'.intAt .i64 (2 * N108'.nb.size) (0 + 3)) fun x125' =>
       puS (binV Try.prog .eql 25 25 (.agg #[.int .i64 x118', .int .i64 x119', .int .i64 x120', .int .i64 x121']) (.agg #[.int .i64 x122', .int .i64 x123', .int .i64 x124', .int .i64 x125'])) fun v126' =>
       tyS (asB v126') fun b127' =>
       cnd b127' (
        cnd (x99' == x115') (
         Q (.bool (x100' == x116')) M117') (
         Q (.bool false) M117')) (
        Q (.bool false) M117'))) :
    A18_4 x0 x1 x5 x125 M Q :=
  LvP.mk (cuts := K18) (sp := Z18) 900 H fun G => by kernel_rfl


end Go.Zt
