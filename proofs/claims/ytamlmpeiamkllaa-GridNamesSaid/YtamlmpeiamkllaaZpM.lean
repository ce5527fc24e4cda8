/- The functions' walks: for each function and each loop a rule of what it comes to. Printed by zw2.py. -/
import Derived.Test.YtamlmpeiamkllaaProg
import Derived.Test.YtamlmpeiamkllaaZpA
import Derived.Test.YtamlmpeiamkllaaZrT
set_option linter.unusedVariables false
set_option maxRecDepth 100000
namespace Go.Zt
open Go Go.Sim Go.Proofs

def tyZpM0 : List Sc := [.int .i64, .int .i64, .int .i64, .int .i64, .bool, .bool, .int .i64, .int .i64, .int .i64, .int .i64, .int .i64, .int .i64, .int .i64, .bool, .int .i64, .int .i64, .int .i64, .int .i64, .int .i64, .int .i64, .int .i64, .int .i64, .bool]
/-! ### zoetrope/zoetropelaw17.GridPlays: function 5 -/
def K5 : List (List It × List Nat) := [([.code [1,1,1,0,1], .code [1,1,1,1]], [1, 2, 7, 9, 10, 36]), ([.code [1,1,1,1,1,0,1,0,0], .lp [1,1,1,1,1,0,1,0,0], .blk 0, .code [1,1,1,1,1,1]], [1, 2, 7, 9, 11]), ([.code [1,1,1,1,1,0,1,0,0,0,1], .code [1,1,1,1,1,0,1,0,0,1], .lp [1,1,1,1,1,0,1,0,0], .blk 0, .code [1,1,1,1,1,1]], [1, 2, 7, 9, 11, 47]), ([.code [1,1,1,1,1,1,0,1,0,0], .lp [1,1,1,1,1,1,0,1,0,0], .blk 2, .code [1,1,1,1,1,1,1]], [2, 7, 9, 13]), ([.code [1,1,1,1,1,1,0,1,0,0,0,1], .code [1,1,1,1,1,1,0,1,0,0,1], .lp [1,1,1,1,1,1,0,1,0,0], .blk 2, .code [1,1,1,1,1,1,1]], [2, 7, 9, 13, 100]), ([.code [1,1,1,1,1,1,1,1,0,1,0,0], .lp [1,1,1,1,1,1,1,1,0,1,0,0], .blk 4, .code [1,1,1,1,1,1,1,1,1]], [7, 9, 14, 15, 16])]
def Z5 : List (List Nat × List Nat) := []
theorem b5 : Try.prog.funcs[5]? = some Try.f5 ∧ (Orc.tab Try.prog).lookup 5 = none ∧ Try.f5.body = some (codeOf Try.f5) := ⟨by kernel_rfl, by kernel_rfl, by kernel_rfl⟩
def A5_1 (Ax1 : Option Addr) (lx1 cx1 : Nat) (Ax2 : Option Addr) (lx2 cx2 : Nat) (x7 x9 : Option Addr) (x10 : Int) (x36 : Bool) (M : Mem) (Q : Value → Mem → Prop) : Prop := LvP Try.prog Try.f5 [(1, .slice Ax1 lx1 cx1), (2, .slice Ax2 lx2 cx2), (7, .pointer x7), (9, .pointer x9), (10, .int .i64 x10), (36, .bool x36)] [.code [1,1,1,0,1], .code [1,1,1,1]] M Q
def A5_2 (Ax1 : Option Addr) (lx1 cx1 : Nat) (Ax2 : Option Addr) (lx2 cx2 : Nat) (x7 x9 : Option Addr) (x11 : Int) (M : Mem) (Q : Value → Mem → Prop) : Prop := LvP Try.prog Try.f5 [(1, .slice Ax1 lx1 cx1), (2, .slice Ax2 lx2 cx2), (7, .pointer x7), (9, .pointer x9), (11, .int .i64 x11)] [.code [1,1,1,1,1,0,1,0,0], .lp [1,1,1,1,1,0,1,0,0], .blk 0, .code [1,1,1,1,1,1]] M Q
def A5_3 (Ax1 : Option Addr) (lx1 cx1 : Nat) (Ax2 : Option Addr) (lx2 cx2 : Nat) (x7 x9 : Option Addr) (x11 : Int) (x47 : Bool) (M : Mem) (Q : Value → Mem → Prop) : Prop := LvP Try.prog Try.f5 [(1, .slice Ax1 lx1 cx1), (2, .slice Ax2 lx2 cx2), (7, .pointer x7), (9, .pointer x9), (11, .int .i64 x11), (47, .bool x47)] [.code [1,1,1,1,1,0,1,0,0,0,1], .code [1,1,1,1,1,0,1,0,0,1], .lp [1,1,1,1,1,0,1,0,0], .blk 0, .code [1,1,1,1,1,1]] M Q
def A5_4 (Ax2 : Option Addr) (lx2 cx2 : Nat) (x7 x9 : Option Addr) (x13 : Int) (M : Mem) (Q : Value → Mem → Prop) : Prop := LvP Try.prog Try.f5 [(2, .slice Ax2 lx2 cx2), (7, .pointer x7), (9, .pointer x9), (13, .int .i64 x13)] [.code [1,1,1,1,1,1,0,1,0,0], .lp [1,1,1,1,1,1,0,1,0,0], .blk 2, .code [1,1,1,1,1,1,1]] M Q
def A5_5 (Ax2 : Option Addr) (lx2 cx2 : Nat) (x7 x9 : Option Addr) (x13 : Int) (x100 : Bool) (M : Mem) (Q : Value → Mem → Prop) : Prop := LvP Try.prog Try.f5 [(2, .slice Ax2 lx2 cx2), (7, .pointer x7), (9, .pointer x9), (13, .int .i64 x13), (100, .bool x100)] [.code [1,1,1,1,1,1,0,1,0,0,0,1], .code [1,1,1,1,1,1,0,1,0,0,1], .lp [1,1,1,1,1,1,0,1,0,0], .blk 2, .code [1,1,1,1,1,1,1]] M Q
def A5_6 (x7 x9 Ax14 : Option Addr) (lx14 cx14 : Nat) (Ax15 : Option Addr) (lx15 cx15 : Nat) (x16 : Int) (M : Mem) (Q : Value → Mem → Prop) : Prop := LvP Try.prog Try.f5 [(7, .pointer x7), (9, .pointer x9), (14, .slice Ax14 lx14 cx14), (15, .slice Ax15 lx15 cx15), (16, .int .i64 x16)] [.code [1,1,1,1,1,1,1,1,0,1,0,0], .lp [1,1,1,1,1,1,1,1,0,1,0,0], .blk 4, .code [1,1,1,1,1,1,1,1,1]] M Q
theorem w5_0 {x0_0 x0_1 x0_2 x0_3 : Int} {Ax1 : Option Addr} {lx1 cx1 : Nat} {Ax2 : Option Addr} {lx2 cx2 : Nat} {M : Mem} {Q : Value → Mem → Prop} (H :
    onS ((M.new (.cells #[.int .i64 x0_0, .int .i64 x0_1, .int .i64 x0_2, .int .i64 x0_3] 35)).intAt .i64 (2 * M.nb.size) 0) fun x1' =>
    onS ((M.new (.cells #[.int .i64 x0_0, .int .i64 x0_1, .int .i64 x0_2, .int .i64 x0_3] 35)).intAt .i64 (2 * M.nb.size) (0 + 1)) fun x2' =>
    onS ((M.new (.cells #[.int .i64 x0_0, .int .i64 x0_1, .int .i64 x0_2, .int .i64 x0_3] 35)).intAt .i64 (2 * M.nb.size) (0 + 2)) fun x3' =>
    onS ((M.new (.cells #[.int .i64 x0_0, .int .i64 x0_1, .int .i64 x0_2, .int .i64 x0_3] 35)).intAt .i64 (2 * M.nb.size) (0 + 3)) fun x4' =>
    Cn Try.prog 8 #[.agg #[.int .i64 x1', .int .i64 x2', .int .i64 x3', .int .i64 x4']] (M.new (.cells #[.int .i64 x0_0, .int .i64 x0_1, .int .i64 x0_2, .int .i64 x0_3] 35)) fun v5' N5' =>
     tyS (asU 2 v5') fun cs6' =>
     tyS (asP (cs6'.getD 0 undef)) fun p7' =>
     tyS (asI .i64 (cs6'.getD 1 undef)) fun x8' =>
     onS (N5'.intAt .i64 (2 * M.nb.size) 0) fun x9' =>
     onS (N5'.intAt .i64 (2 * M.nb.size) (0 + 1)) fun x10' =>
     onS (N5'.intAt .i64 (2 * M.nb.size) (0 + 2)) fun x11' =>
     onS (N5'.intAt .i64 (2 * M.nb.size) (0 + 3)) fun x12' =>
     Cn Try.prog 16 #[.agg #[.int .i64 x9', .int .i64 x10', .int .i64 x11', .int .i64 x12']] N5' fun v13' N13' =>
      tyS (asU 2 v13') fun cs14' =>
      tyS (asP (cs14'.getD 0 undef)) fun p15' =>
      tyS (asI .i64 (cs14'.getD 1 undef)) fun x16' =>
      cnd (x8' != x16') (
       A5_1 Ax1 lx1 cx1 Ax2 lx2 cx2 p7' p15' x16' true N13' Q) (
       A5_1 Ax1 lx1 cx1 Ax2 lx2 cx2 p7' p15' x16' (!(p7'.isNone == (x16' != 0))) N13' Q)) :
    Cn Try.prog 5 #[.agg #[.int .i64 x0_0, .int .i64 x0_1, .int .i64 x0_2, .int .i64 x0_3], .slice Ax1 lx1 cx1, .slice Ax2 lx2 cx2] M Q :=
  Cn.mk (cuts := K5) (sp := Z5) 900 b5 rfl rfl H fun G => by kernel_rfl

theorem w5_1 {Ax1 : Option Addr} {lx1 cx1 : Nat} {Ax2 : Option Addr} {lx2 cx2 : Nat} {x7 x9 : Option Addr} {x10 : Int} {x36 : Bool} {M : Mem} {Q : Value → Mem → Prop} (H :
    cnd x36 (
     Q (.bool false) M) (
     cnd (x10 != 0) (
      Cn Try.prog 7 #[] M fun v17' N17' =>
       tyS (asB v17') fun b18' =>
       Q (.bool b18') N17') (
      A5_2 Ax1 lx1 cx1 Ax2 lx2 cx2 x7 x9 0 M Q))) :
    A5_1 Ax1 lx1 cx1 Ax2 lx2 cx2 x7 x9 x10 x36 M Q :=
  LvP.mk (cuts := K5) (sp := Z5) 900 H fun G => by kernel_rfl

theorem w5_2 {Ax1 : Option Addr} {lx1 cx1 : Nat} {Ax2 : Option Addr} {lx2 cx2 : Nat} {x7 x9 : Option Addr} {x11 : Int} {M : Mem} {Q : Value → Mem → Prop} (H :
    cnd (decide (x11 < ((lx1 : Int)))) (
     A5_3 Ax1 lx1 cx1 Ax2 lx2 cx2 x7 x9 x11 (decide (x11 < 100)) M Q) (
     A5_3 Ax1 lx1 cx1 Ax2 lx2 cx2 x7 x9 x11 false M Q)) :
    A5_2 Ax1 lx1 cx1 Ax2 lx2 cx2 x7 x9 x11 M Q :=
  LvP.mk (cuts := K5) (sp := Z5) 900 H fun G => by kernel_rfl

theorem w5_3 {Ax1 : Option Addr} {lx1 cx1 : Nat} {Ax2 : Option Addr} {lx2 cx2 : Nat} {x7 x9 : Option Addr} {x11 : Int} {x47 : Bool} {M : Mem} {Q : Value → Mem → Prop} (H :
    cnd x47 (
     ixS (idxA Ax1 lx1 23 x11) fun a19' =>
     ldP tyZpM0 M a19'.block a19'.off fun vs20' =>
     ixS (idxA Ax1 lx1 23 x11) fun a21' =>
     ldP tyZpM0 M a21'.block a21'.off fun vs22' =>
     cnd (decide (M.floor ≤ M.nb.size)) (
     Cn Try.prog 9 #[.pointer x7, .agg vs20'.toArray] M fun v23' N23' =>
      cnd (sameB M N23' a21'.block) (
      tyS (asI .i64 v23') fun x24' =>
      Cn Try.prog 17 #[.pointer x9, .agg vs22'.toArray] N23' fun v25' N25' =>
       tyS (asI .i64 v25') fun x26' =>
       cnd (x24' != x26') (
        Q (.bool false) N25') (
        ixS (idxA Ax1 lx1 23 x11) fun a27' =>
        onS (N25'.intAt .i64 a27'.block a27'.off) fun x28' =>
        ixS (idxA Ax1 lx1 23 x11) fun a29' =>
        onS (N25'.intAt .i64 a29'.block (a29'.off + 2)) fun x30' =>
        ixS (idxA Ax1 lx1 23 x11) fun a31' =>
        onS (N25'.intAt .i64 a31'.block (a31'.off + 1)) fun x32' =>
        stP (some 5) #[.int .i64 (IntKind.i64.wrap (x28' + x30')), .int .i64 x32', .int .i64 16, .int .i64 8, .int .i64 0] (N25'.new (.cells #[.int .i64 0, .int .i64 0, .int .i64 0, .int .i64 0, .int .i64 0] 56)) (2 * N25'.nb.size) 0 fun M33' =>
        cnd (decide (x11 < ((lx2 : Int)))) (
         ixS (idxA Ax2 lx2 5 x11) fun a34' =>
         onS (M33'.intAt .i64 a34'.block a34'.off) fun x35' =>
         onS (M33'.intAt .i64 a34'.block (a34'.off + 1)) fun x36' =>
         onS (M33'.intAt .i64 a34'.block (a34'.off + 2)) fun x37' =>
         onS (M33'.intAt .i64 a34'.block (a34'.off + 3)) fun x38' =>
         onS (M33'.intAt .i64 a34'.block (a34'.off + 4)) fun x39' =>
         stP (some 5) #[.int .i64 x35', .int .i64 x36', .int .i64 x37', .int .i64 x38', .int .i64 x39'] M33' (2 * N25'.nb.size) 0 fun M40' =>
         onS (M40'.intAt .i64 (2 * N25'.nb.size) 0) fun x41' =>
         onS (M40'.intAt .i64 (2 * N25'.nb.size) (0 + 1)) fun x42' =>
         onS (M40'.intAt .i64 (2 * N25'.nb.size) (0 + 2)) fun x43' =>
         onS (M40'.intAt .i64 (2 * N25'.nb.size) (0 + 3)) fun x44' =>
         onS (M40'.intAt .i64 (2 * N25'.nb.size) (0 + 4)) fun x45' =>
         Cn Try.prog 18 #[.pointer x7, .pointer x9, .agg #[.int .i64 x41', .int .i64 x42', .int .i64 x43', .int .i64 x44', .int .i64 x45']] M40' fun v46' N46' =>
          tyS (asB v46') fun b47' =>
          cnd (!b47') (
           Q (.bool false) N46') (
           A5_2 Ax1 lx1 cx1 Ax2 lx2 cx2 x7 x9 (IntKind.i64.wrap (x11 + 1)) N46' Q)) (
         onS (M33'.intAt .i64 (2 * N25'.nb.size) 0) fun x48' =>
         onS (M33'.intAt .i64 (2 * N25'.nb.size) (0 + 1)) fun x49' =>
         onS (M33'.intAt .i64 (2 * N25'.nb.size) (0 + 2)) fun x50' =>
         onS (M33'.intAt .i64 (2 * N25'.nb.size) (0 + 3)) fun x51' =>
         onS (M33'.intAt .i64 (2 * N25'.nb.size) (0 + 4)) fun x52' =>
         Cn Try.prog 18 #[.pointer x7, .pointer x9, .agg #[.int .i64 x48', .int .i64 x49', .int .i64 x50', .int .i64 x51', .int .i64 x52']] M33' fun v53' N53' =>
          tyS (asB v53') fun b54' =>
          cnd (!b54') (
           Q (.bool false) N53') (
           A5_2 Ax1 lx1 cx1 Ax2 lx2 cx2 x7 x9 (IntKind.i64.wrap (x11 + 1)) N53' Q)))) (
      False)) (
     False)) (
     A5_4 Ax2 lx2 cx2 x7 x9 0 M Q)) :
    A5_3 Ax1 lx1 cx1 Ax2 lx2 cx2 x7 x9 x11 x47 M Q :=
  LvP.mk (cuts := K5) (sp := Z5) 900 H fun G => by kernel_rfl

theorem w5_4 {Ax2 : Option Addr} {lx2 cx2 : Nat} {x7 x9 : Option Addr} {x13 : Int} {M : Mem} {Q : Value → Mem → Prop} (H :
    cnd (decide (x13 < ((lx2 : Int)))) (
     A5_5 Ax2 lx2 cx2 x7 x9 x13 (decide (x13 < 100)) M Q) (
     A5_5 Ax2 lx2 cx2 x7 x9 x13 false M Q)) :
    A5_4 Ax2 lx2 cx2 x7 x9 x13 M Q :=
  LvP.mk (cuts := K5) (sp := Z5) 900 H fun G => by kernel_rfl

theorem w5_5 {Ax2 : Option Addr} {lx2 cx2 : Nat} {x7 x9 : Option Addr} {x13 : Int} {x100 : Bool} {M : Mem} {Q : Value → Mem → Prop} (H :
    cnd x100 (
     ixS (idxA Ax2 lx2 5 x13) fun a55' =>
     onS (M.intAt .i64 a55'.block a55'.off) fun x56' =>
     onS (M.intAt .i64 a55'.block (a55'.off + 1)) fun x57' =>
     onS (M.intAt .i64 a55'.block (a55'.off + 2)) fun x58' =>
     onS (M.intAt .i64 a55'.block (a55'.off + 3)) fun x59' =>
     onS (M.intAt .i64 a55'.block (a55'.off + 4)) fun x60' =>
     Cn Try.prog 18 #[.pointer x7, .pointer x9, .agg #[.int .i64 x56', .int .i64 x57', .int .i64 x58', .int .i64 x59', .int .i64 x60']] M fun v61' N61' =>
      tyS (asB v61') fun b62' =>
      cnd (!b62') (
       Q (.bool false) N61') (
       A5_4 Ax2 lx2 cx2 x7 x9 (IntKind.i64.wrap (x13 + 1)) N61' Q)) (
     Cn Try.prog 15 #[.pointer x7] M fun v63' N63' =>
      tyS (asS v63') fun s64' =>
      Cn Try.prog 15 #[.pointer x7] N63' fun v65' N65' =>
       tyS (asS v65') fun s66' =>
       A5_6 x7 x9 s64'.1 s64'.2.1 s64'.2.2 s66'.1 s66'.2.1 s66'.2.2 0 N65' Q)) :
    A5_5 Ax2 lx2 cx2 x7 x9 x13 x100 M Q :=
  LvP.mk (cuts := K5) (sp := Z5) 900 H fun G => by kernel_rfl

theorem w5_6 {x7 x9 Ax14 : Option Addr} {lx14 cx14 : Nat} {Ax15 : Option Addr} {lx15 cx15 : Nat} {x16 : Int} {M : Mem} {Q : Value → Mem → Prop} (H :
    cnd (decide (x16 < ((lx14 : Int)))) (
     ixS (idxA Ax14 lx14 23 x16) fun a67' =>
     ptS (M.put a67'.block a67'.off (.int .i64 (-9))) fun M68' =>
     A5_6 x7 x9 Ax14 lx14 cx14 Ax15 lx15 cx15 (IntKind.i64.wrap (x16 + 1)) M68' Q) (
     Cn Try.prog 20 #[.pointer x9] M fun v69' N69' =>
      tyS (asS v69') fun s70' =>
      Cn Try.prog 19 #[.slice Ax15 lx15 cx15, .slice s70'.1 (s70'.2.1) (s70'.2.2)] N69' fun v71' N71' =>
       tyS (asB v71') fun b72' =>
       cnd b72' (
        Cn Try.prog 15 #[.pointer x7] N71' fun v73' N73' =>
         tyS (asS v73') fun s74' =>
         Cn Try.prog 20 #[.pointer x9] N73' fun v75' N75' =>
          tyS (asS v75') fun s76' =>
          Cn Try.prog 19 #[.slice s74'.1 (s74'.2.1) (s74'.2.2), .slice s76'.1 (s76'.2.1) (s76'.2.2)] N75' fun v77' N77' =>
           tyS (asB v77') fun b78' =>
           cnd b78' (
            Cn Try.prog 7 #[] N77' fun v79' N79' =>
             tyS (asB v79') fun b80' =>
             Q (.bool b80') N79') (
            Q (.bool false) N77')) (
        Q (.bool false) N71'))) :
    A5_6 x7 x9 Ax14 lx14 cx14 Ax15 lx15 cx15 x16 M Q :=
  LvP.mk (cuts := K5) (sp := Z5) 900 H fun G => by kernel_rfl


end Go.Zt
