/- The functions' walks: for each function and each loop a rule of what it comes to. Printed by zw2.py. -/
import Derived.Test.YtgepgbblmodagaaProg
import Derived.Test.YtgepgbblmodagaaZkA
import Derived.Test.YtgepgbblmodagaaZqT
set_option linter.unusedVariables false
set_option maxRecDepth 100000
namespace Go.Zt
open Go Go.Sim Go.Proofs
def tyZlD0 : List Sc := [.bool, .int .i64, .bool, .bool, .int .i64, .int .i64, .int .i64, .int .i64, .int .i64, .int .i64, .int .i64, .int .i64, .int .i64, .int .i64, .int .i64, .int .i64, .int .i64, .bool, .int .i64, .int .i64, .int .i64, .int .i64, .int .i64, .bool, .int .i64, .int .i64, .sl, .bool, .bool, .bool]
def K24 : List (List It × List Nat) := []
def Z24 : List (List Nat × List Nat) := []
theorem b24 : Try.prog.funcs[24]? = some Try.f24 ∧ (Orc.tab Try.prog).lookup 24 = none ∧ Try.f24.body = some (codeOf Try.f24) := ⟨by kernel_rfl, by kernel_rfl, by kernel_rfl⟩
theorem w24_0 {x0 : Option Addr} {x1 : Array Value} {x2_0 x2_1 : Int} {M : Mem} {Q : Value → Mem → Prop} (H :
    Cn Try.prog 22 #[.pointer x0, .int .u32 0, .int .i64 0] ((M.new (.cells x1 41)).new (.cells #[.int .i64 x2_0, .int .i64 x2_1] 23)) fun v1' N1' =>
     tyS (asI .i64 v1') fun x2' =>
     cnd (x2' != 0) (
      Q (.int .i64 (x2')) N1') (
      ldP tyZlD0 N1' (2 * M.nb.size) 0 fun vs3' =>
      onS (N1'.intAt .i64 (2 * (M.new (.cells x1 41)).nb.size) 0) fun x4' =>
      onS (N1'.intAt .i64 (2 * (M.new (.cells x1 41)).nb.size) (0 + 1)) fun x5' =>
      Cn Try.prog 26 #[.agg vs3'.toArray, .agg #[.int .i64 x4', .int .i64 x5']] N1' fun v6' N6' =>
       tyS (asI .i64 v6') fun x7' =>
       cnd (x7' != 0) (
        Q (.int .i64 (x7')) N6') (
        onS ((N6'.new (.cells #[.pointer x0, .pointer none, .int .i64 0] 89)).intAt .i64 (2 * (M.new (.cells x1 41)).nb.size) 0) fun x8' =>
        onS ((N6'.new (.cells #[.pointer x0, .pointer none, .int .i64 0] 89)).intAt .i64 (2 * (M.new (.cells x1 41)).nb.size) (0 + 1)) fun x9' =>
        Cn Try.prog 50 #[.pointer (some ⟨2 * N6'.nb.size, 0, none⟩), .pointer (some ⟨2 * M.nb.size, 0, none⟩), .agg #[.int .i64 x8', .int .i64 x9']] (N6'.new (.cells #[.pointer x0, .pointer none, .int .i64 0] 89)) fun v10' N10' =>
         onS (N10'.intAt .i64 (2 * N6'.nb.size) (0 + 2)) fun x11' =>
         Q (.int .i64 (x11')) N10'))) :
    Cn Try.prog 24 #[.pointer x0, .agg x1, .agg #[.int .i64 x2_0, .int .i64 x2_1]] M Q :=
  Cn.mk (cuts := K24) (sp := Z24) 900 b24 rfl rfl H fun G => by kernel_rfl
def K35 : List (List It × List Nat) := []
end Go.Zt
