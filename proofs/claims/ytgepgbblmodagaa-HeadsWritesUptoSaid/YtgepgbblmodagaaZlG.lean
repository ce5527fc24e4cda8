/- The functions' walks: for each function and each loop a rule of what it comes to. Printed by zw2.py. -/
import Derived.Test.YtgepgbblmodagaaProg
import Derived.Test.YtgepgbblmodagaaZkA
import Derived.Test.YtgepgbblmodagaaZqT
set_option linter.unusedVariables false
set_option maxRecDepth 100000
namespace Go.Zt
open Go Go.Sim Go.Proofs
def tyZlG0 : List Sc := [.bool, .int .i64, .bool, .bool, .int .i64, .int .i64, .int .i64, .int .i64, .int .i64, .int .i64, .int .i64, .int .i64, .int .i64, .int .i64, .int .i64, .int .i64, .int .i64, .bool, .int .i64, .int .i64, .int .i64, .int .i64, .int .i64, .bool, .int .i64, .int .i64, .sl, .bool, .bool, .bool]
def K4 : List (List It × List Nat) := [([.rg [1,1,1,1,1,1,1,1,1,1,0] 13, .code [1,1,1,1,1,1,1,1,1,1,1]], [3, 7, 8, 9, 47]), ([.rg [1,1,1,1,1,1,1,1,1,1,0] 20, .code [1,1,1,1,1,1,1,1,1,1,1]], [3, 7, 54]), ([.rg [1,1,1,1,1,1,1,1,1,1,0] 25, .code [1,1,1,1,1,1,1,1,1,1,1]], [59])]
def Z4 : List (List Nat × List Nat) := [([1,1,1,1,1,1,1,1,1,1,0], [13, 20, 25, 28])]
theorem b4 : Try.prog.funcs[4]? = some Try.f4 ∧ (Orc.tab Try.prog).lookup 4 = none ∧ Try.f4.body = some (codeOf Try.f4) := ⟨by kernel_rfl, by kernel_rfl, by kernel_rfl⟩
def A4_1 (x3 x7 x8 x9 : Option Addr) (x47 : Bool) (M : Mem) (Q : Value → Mem → Prop) : Prop := LvP Try.prog Try.f4 [(3, .pointer x3), (7, .pointer x7), (8, .pointer x8), (9, .pointer x9), (47, .bool x47)] [.rg [1,1,1,1,1,1,1,1,1,1,0] 13, .code [1,1,1,1,1,1,1,1,1,1,1]] M Q
def A4_2 (x3 x7 : Option Addr) (x54 : Bool) (M : Mem) (Q : Value → Mem → Prop) : Prop := LvP Try.prog Try.f4 [(3, .pointer x3), (7, .pointer x7), (54, .bool x54)] [.rg [1,1,1,1,1,1,1,1,1,1,0] 20, .code [1,1,1,1,1,1,1,1,1,1,1]] M Q
def A4_3 (x59 : Bool) (M : Mem) (Q : Value → Mem → Prop) : Prop := LvP Try.prog Try.f4 [(59, .bool x59)] [.rg [1,1,1,1,1,1,1,1,1,1,0] 25, .code [1,1,1,1,1,1,1,1,1,1,1]] M Q
theorem w4_0 {x0 : Array Value} {x1_0 x1_1 x2 : Int} {M : Mem} {Q : Value → Mem → Prop} (H :
    ldP tyZlG0 ((M.new (.cells x0 41)).new (.cells #[.int .i64 x1_0, .int .i64 x1_1] 23)) (2 * M.nb.size) 0 fun vs1' =>
    Cn Try.prog 18 #[.agg vs1'.toArray] ((M.new (.cells x0 41)).new (.cells #[.int .i64 x1_0, .int .i64 x1_1] 23)) fun v2' N2' =>
     tyS (asA 30 v2') fun cs3' =>
     asCellsP tyZlG0 0 cs3' fun vs4' =>
     stP (some 30) vs4'.toArray (N2'.new (.cells #[.bool false, .int .i64 0, .bool false, .bool false, .int .i64 0, .int .i64 0, .int .i64 0, .int .i64 0, .int .i64 0, .int .i64 0, .int .i64 0, .int .i64 0, .int .i64 0, .int .i64 0, .int .i64 0, .int .i64 0, .int .i64 0, .bool false, .int .i64 0, .int .i64 0, .int .i64 0, .int .i64 0, .int .i64 0, .bool false, .int .i64 0, .int .i64 0, .slice none 0 0, .bool false, .bool false, .bool false] 41)) (2 * N2'.nb.size) 0 fun M5' =>
     Cn Try.prog 19 #[] M5' fun v6' N6' =>
      tyS (asP v6') fun p7' =>
      Cn Try.prog 20 #[] N6' fun v8' N8' =>
       tyS (asP v8') fun p9' =>
       cnd p7'.isNone (
        Q (.bool false) N8') (
        Cn Try.prog 21 #[.int .i64 x2, .int .i64 9] N8' fun v10' N10' =>
         tyS (asI .i64 v10') fun x11' =>
         Cn Try.prog 22 #[.pointer p7', .int .u32 0, .int .i64 x11'] N10' fun v12' N12' =>
          tyS (asI .i64 v12') fun x13' =>
          Cn Try.prog 23 #[.pointer p9', .int .u32 0, .int .i64 x11'] N12' fun v14' N14' =>
           tyS (asI .i64 v14') fun x15' =>
           ldP tyZlG0 N14' (2 * N2'.nb.size) 0 fun vs16' =>
           onS (N14'.intAt .i64 (2 * (M.new (.cells x0 41)).nb.size) 0) fun x17' =>
           onS (N14'.intAt .i64 (2 * (M.new (.cells x0 41)).nb.size) (0 + 1)) fun x18' =>
           Cn Try.prog 24 #[.pointer p7', .agg vs16'.toArray, .agg #[.int .i64 x17', .int .i64 x18']] N14' fun v19' N19' =>
            tyS (asI .i64 v19') fun x20' =>
            ldP tyZlG0 N19' (2 * M.nb.size) 0 fun vs21' =>
            onS (N19'.intAt .i64 (2 * (M.new (.cells x0 41)).nb.size) 0) fun x22' =>
            onS (N19'.intAt .i64 (2 * (M.new (.cells x0 41)).nb.size) (0 + 1)) fun x23' =>
            Cn Try.prog 25 #[.pointer p9', .agg vs21'.toArray, .agg #[.int .i64 x22', .int .i64 x23']] N19' fun v24' N24' =>
             tyS (asI .i64 v24') fun x25' =>
             ldP tyZlG0 N24' (2 * N2'.nb.size) 0 fun vs26' =>
             onS (N24'.intAt .i64 (2 * (M.new (.cells x0 41)).nb.size) 0) fun x27' =>
             onS (N24'.intAt .i64 (2 * (M.new (.cells x0 41)).nb.size) (0 + 1)) fun x28' =>
             ldP tyZlG0 N24' (2 * M.nb.size) 0 fun vs29' =>
             onS (N24'.intAt .i64 (2 * (M.new (.cells x0 41)).nb.size) 0) fun x30' =>
             onS (N24'.intAt .i64 (2 * (M.new (.cells x0 41)).nb.size) (0 + 1)) fun x31' =>
             Cn Try.prog 26 #[.agg vs26'.toArray, .agg #[.int .i64 x27', .int .i64 x28']] { N24' with floor := N24'.nb.size } fun v32' N32' =>
              tyS (asI .i64 v32') fun x33' =>
              Cn Try.prog 27 #[.agg vs29'.toArray, .agg #[.int .i64 x30', .int .i64 x31']] { N32' with floor := N24'.floor } fun v34' N34' =>
               tyS (asI .i64 v34') fun x35' =>
               cnd (x33' == x35') (
                A4_1 (some ⟨2 * M.nb.size, 0, none⟩) (some ⟨2 * N2'.nb.size, 0, none⟩) p7' p9' (x20' == x25') N34' Q) (
                A4_1 (some ⟨2 * M.nb.size, 0, none⟩) (some ⟨2 * N2'.nb.size, 0, none⟩) p7' p9' false N34' Q))) :
    Cn Try.prog 4 #[.agg x0, .agg #[.int .i64 x1_0, .int .i64 x1_1], .int .i64 x2] M Q :=
  Cn.mk (cuts := K4) (sp := Z4) 900 b4 rfl rfl H fun G => by kernel_rfl
theorem w4_1 {x3 x7 x8 x9 : Option Addr} {x47 : Bool} {M : Mem} {Q : Value → Mem → Prop} (H :
    cnd x47 (
     Cn Try.prog 28 #[.pointer x8] M fun v36' N36' =>
      tyS (asS v36') fun s37' =>
      Cn Try.prog 29 #[.pointer x9] N36' fun v38' N38' =>
       tyS (asS v38') fun s39' =>
       Cn Try.prog 16 #[.slice s37'.1 (s37'.2.1) (s37'.2.2), .slice s39'.1 (s39'.2.1) (s39'.2.2)] N38' fun v40' N40' =>
        tyS (asB v40') fun b41' =>
        A4_2 x3 x7 b41' N40' Q) (
     A4_2 x3 x7 false M Q)) :
    A4_1 x3 x7 x8 x9 x47 M Q :=
  LvP.mk (cuts := K4) (sp := Z4) 900 H fun G => by kernel_rfl
theorem w4_2 {x3 x7 : Option Addr} {x54 : Bool} {M : Mem} {Q : Value → Mem → Prop} (H :
    cnd x54 (
     adS x7 fun a42' =>
     ldP tyZlG0 M a42'.block a42'.off fun vs43' =>
     adS x3 fun a44' =>
     ldP tyZlG0 M a44'.block a44'.off fun vs45' =>
     Cn Try.prog 30 #[.agg vs43'.toArray, .agg vs45'.toArray] M fun v46' N46' =>
      tyS (asB v46') fun b47' =>
      A4_3 b47' N46' Q) (
     A4_3 false M Q)) :
    A4_2 x3 x7 x54 M Q :=
  LvP.mk (cuts := K4) (sp := Z4) 900 H fun G => by kernel_rfl
theorem w4_3 {x59 : Bool} {M : Mem} {Q : Value → Mem → Prop} (H :
    cnd x59 (
     Cn Try.prog 17 #[] M fun v48' N48' =>
      tyS (asB v48') fun b49' =>
      Q (.bool b49') N48') (
     Q (.bool false) M)) :
    A4_3 x59 M Q :=
  LvP.mk (cuts := K4) (sp := Z4) 900 H fun G => by kernel_rfl
def K18 : List (List It × List Nat) := []
def Z18 : List (List Nat × List Nat) := []
theorem b18 : Try.prog.funcs[18]? = some Try.f18 ∧ (Orc.tab Try.prog).lookup 18 = none ∧ Try.f18.body = some (codeOf Try.f18) := ⟨by kernel_rfl, by kernel_rfl, by kernel_rfl⟩
theorem w18_0 {x0 : Array Value} {M : Mem} {Q : Value → Mem → Prop} (H :
    ldP tyZlG0 ((M.new (.cells x0 41)).new (.cells #[.bool false, .int .i64 0, .bool false, .bool false, .int .i64 0, .int .i64 0, .int .i64 0, .int .i64 0, .int .i64 0, .int .i64 0, .int .i64 0, .int .i64 0, .int .i64 0, .int .i64 0, .int .i64 0, .int .i64 0, .int .i64 0, .bool false, .int .i64 0, .int .i64 0, .int .i64 0, .int .i64 0, .int .i64 0, .bool false, .int .i64 0, .int .i64 0, .slice none 0 0, .bool false, .bool false, .bool false] 41)) (2 * M.nb.size) 0 fun vs1' =>
    stP (some 30) vs1'.toArray (((M.new (.cells x0 41)).new (.cells #[.bool false, .int .i64 0, .bool false, .bool false, .int .i64 0, .int .i64 0, .int .i64 0, .int .i64 0, .int .i64 0, .int .i64 0, .int .i64 0, .int .i64 0, .int .i64 0, .int .i64 0, .int .i64 0, .int .i64 0, .int .i64 0, .bool false, .int .i64 0, .int .i64 0, .int .i64 0, .int .i64 0, .int .i64 0, .bool false, .int .i64 0, .int .i64 0, .slice none 0 0, .bool false, .bool false, .bool false] 41)).new (.cells #[.bool false, .int .i64 0, .bool false, .bool false, .int .i64 0, .int .i64 0, .int .i64 0, .int .i64 0, .int .i64 0, .int .i64 0, .int .i64 0, .int .i64 0, .int .i64 0, .int .i64 0, .int .i64 0, .int .i64 0, .int .i64 0, .bool false, .int .i64 0, .int .i64 0, .int .i64 0, .int .i64 0, .int .i64 0, .bool false, .int .i64 0, .int .i64 0, .slice none 0 0, .bool false, .bool false, .bool false] 41)) (2 * ((M.new (.cells x0 41)).new (.cells #[.bool false, .int .i64 0, .bool false, .bool false, .int .i64 0, .int .i64 0, .int .i64 0, .int .i64 0, .int .i64 0, .int .i64 0, .int .i64 0, .int .i64 0, .int .i64 0, .int .i64 0, .int .i64 0, .int .i64 0, .int .i64 0, .bool false, .int .i64 0, .int .i64 0, .int .i64 0, .int .i64 0, .int .i64 0, .bool false, .int .i64 0, .int .i64 0, .slice none 0 0, .bool false, .bool false, .bool false] 41)).nb.size) 0 fun M2' =>
    ptS (M2'.put (2 * ((M.new (.cells x0 41)).new (.cells #[.bool false, .int .i64 0, .bool false, .bool false, .int .i64 0, .int .i64 0, .int .i64 0, .int .i64 0, .int .i64 0, .int .i64 0, .int .i64 0, .int .i64 0, .int .i64 0, .int .i64 0, .int .i64 0, .int .i64 0, .int .i64 0, .bool false, .int .i64 0, .int .i64 0, .int .i64 0, .int .i64 0, .int .i64 0, .bool false, .int .i64 0, .int .i64 0, .slice none 0 0, .bool false, .bool false, .bool false] 41)).nb.size) (0 + 26) (.slice none 0 0)) fun M3' =>
    onS (M3'.slAt (2 * ((M.new (.cells x0 41)).new (.cells #[.bool false, .int .i64 0, .bool false, .bool false, .int .i64 0, .int .i64 0, .int .i64 0, .int .i64 0, .int .i64 0, .int .i64 0, .int .i64 0, .int .i64 0, .int .i64 0, .int .i64 0, .int .i64 0, .int .i64 0, .int .i64 0, .bool false, .int .i64 0, .int .i64 0, .int .i64 0, .int .i64 0, .int .i64 0, .bool false, .int .i64 0, .int .i64 0, .slice none 0 0, .bool false, .bool false, .bool false] 41)).nb.size) (0 + 26)) fun s4' =>
    onS (M3'.slAt (2 * M.nb.size) (0 + 26)) fun s5' =>
    meS (appendP Try.prog #[38, 38] (.slice s4'.1 (s4'.2.1) (s4'.2.2)) (.slice s5'.1 (s5'.2.1) (s5'.2.2)) M3') fun r6' =>
    tyS (asS r6'.1) fun s7' =>
    ptS (r6'.2.put (2 * ((M.new (.cells x0 41)).new (.cells #[.bool false, .int .i64 0, .bool false, .bool false, .int .i64 0, .int .i64 0, .int .i64 0, .int .i64 0, .int .i64 0, .int .i64 0, .int .i64 0, .int .i64 0, .int .i64 0, .int .i64 0, .int .i64 0, .int .i64 0, .int .i64 0, .bool false, .int .i64 0, .int .i64 0, .int .i64 0, .int .i64 0, .int .i64 0, .bool false, .int .i64 0, .int .i64 0, .slice none 0 0, .bool false, .bool false, .bool false] 41)).nb.size) (0 + 26) (.slice s7'.1 (s7'.2.1) (s7'.2.2))) fun M8' =>
    ldP tyZlG0 M8' (2 * ((M.new (.cells x0 41)).new (.cells #[.bool false, .int .i64 0, .bool false, .bool false, .int .i64 0, .int .i64 0, .int .i64 0, .int .i64 0, .int .i64 0, .int .i64 0, .int .i64 0, .int .i64 0, .int .i64 0, .int .i64 0, .int .i64 0, .int .i64 0, .int .i64 0, .bool false, .int .i64 0, .int .i64 0, .int .i64 0, .int .i64 0, .int .i64 0, .bool false, .int .i64 0, .int .i64 0, .slice none 0 0, .bool false, .bool false, .bool false] 41)).nb.size) 0 fun vs9' =>
    stP (some 30) vs9'.toArray M8' (2 * (M.new (.cells x0 41)).nb.size) 0 fun M10' =>
    ldP tyZlG0 M10' (2 * (M.new (.cells x0 41)).nb.size) 0 fun vs11' =>
    Q (.agg vs11'.toArray) M10') :
    Cn Try.prog 18 #[.agg x0] M Q :=
  Cn.mk (cuts := K18) (sp := Z18) 900 b18 rfl rfl H fun G => by kernel_rfl
end Go.Zt
